/- Part of what the proof needs. -/
import Derived.Test.YteklhoajalgehaaGreatDoorMFrJournalChecksUptoA
import Derived.Test.YteklhoajalgehaaGreatDoorMFrJournalChecksUptoE
import Derived.Test.YteklhoajalgehaaGreatDoorMFrJournalChecksUptoG
import Derived.Test.YteklhoajalgehaaGreatDoorMFrJournalChecksUptoJ
import Derived.Test.YteklhoajalgehaaGreatDoorMFrJournalChecksUptoK
import Derived.Test.YteklhoajalgehaaGreatDoorMFrJournalChecksUptoL
import Derived.Test.YteklhoajalgehaaGreatDoorMFrJournalChecksUptoM
import Derived.Lib.ParseIntB
import Derived.Test.YteklhoajalgehaaGreatDoorShelfP
import Derived.Laws.RangeAny
import Derived.Laws.Runes
import Derived.Lib.OthersKept
import Derived.Deep.LoopGhost
import Derived.BigRegion
import Derived.Below
import Derived.BigQuiet
import Derived.Deep.QuietTactic
import Derived.WalkMore
import Derived.IntWalk
set_option maxHeartbeats 4000000
set_option linter.unusedSimpArgs false
set_option linter.unusedVariables false
set_option linter.unnecessarySimpa false
namespace Go.Proofs.YteklhoajalgehaaGreatDoor
open Go.Lib
namespace Num
def valA (n : Nat) (s : List UInt8) : Nat:=s.foldl (fun n c => 10 * n + (c.toNat - 48)) n
theorem valA_cons (n : Nat) (c : UInt8) (s : List UInt8) : valA n (c :: s) = valA (10 * n + (c.toNat - 48)) s:=by unfold valA; rw [List.foldl_cons]
theorem val_valA (s : List UInt8) : val s = valA 0 s:=rfl
theorem valA_ge : ∀ (s : List UInt8) (n : Nat),n * 10 ^ s.length ≤ valA n s
 | [],n => by simp [valA]
 | c :: s,n => by
  rw [valA_cons,List.length_cons,Nat.pow_succ]
  refine Nat.le_trans ?_ (valA_ge s _)
  have e : n * (10 ^ s.length * 10) = (10 * n) * 10 ^ s.length:=by
   rw [Nat.mul_comm (10 ^ s.length) 10,← Nat.mul_assoc,Nat.mul_comm n 10]
  rw [e]
  exact Nat.mul_le_mul_right _ (by omega)
theorem valA_le (s : List UInt8) (n : Nat) : n ≤ valA n s:=by
 have h:=valA_ge s n
 have h1 : 1 ≤ 10 ^ s.length:=Nat.one_le_pow _ _ (by omega)
 exact Nat.le_trans (by simpa using Nat.mul_le_mul_left n h1) h
theorem digB_iff (c : UInt8) : digB c = true ↔ 48 ≤ c.toNat ∧ c.toNat ≤ 57:=by simp [digB]
theorem uintM_digits : ∀ (l : List UInt8) (acc : Nat),l.all digB = true → parseUintM 18446744073709551615 acc l = if valA acc l ≤ 18446744073709551615 then .ok (valA acc l) else if l = [] then .ok acc else .range
 | [],acc,_ => by simp [parseUintM,valA]
 | c :: r,acc,h => by
  rw [List.all_cons,Bool.and_eq_true,digB_iff] at h
  have h1:=valA_le r (10 * acc + (c.toNat - 48))
  rw [valA_cons]
  unfold parseUintM
  rw [if_pos h.1]
  split
  ·rw [if_neg (by omega),if_neg (by simp)]
  ·split
   ·rw [if_neg (by omega),if_neg (by simp)]
   ·rw [uintM_digits r _ h.2,Nat.mul_comm acc 10]
    by_cases hv : valA (10 * acc + (c.toNat - 48)) r ≤ 18446744073709551615
    ·rw [if_pos hv,if_pos hv]
    ·rw [if_neg hv,if_neg hv,if_neg (show ¬ (c :: r = []) by simp)]
     cases r with
     | nil =>
      exfalso
      apply hv
      unfold valA
      rw [List.foldl_nil]
      omega
     | cons d q => rw [if_neg (by simp)]
def body (s : List UInt8) : List UInt8:=if s.getD 0 0 == 45 then s.drop 1 else s
def canonB (s : List UInt8) : Bool:=digits (body s) && !(s.getD 0 0 == 45 && body s == [48])
theorem digits_long {t : List UInt8} (h : digits t = true) (hl : 16 < t.length) : 9007199254740992 < val t:=by
 cases t with
 | nil => simp at hl
 | cons c r =>
  unfold digits at h
  rw [Bool.and_eq_true,Bool.or_eq_true,beq_iff_eq,Bool.and_eq_true,List.all_cons,Bool.and_eq_true,digB_iff] at h
  obtain ⟨⟨h1,h2⟩,h3⟩:=h
  rcases h3 with h3 | h3
  ·injection h3 with _ h3; subst h3; simp at hl
  ·have h4 : c ≠ 48:=by simpa using h3.2
   have h5 : c.toNat ≠ 48:=fun e => h4 (UInt8.toNat_inj.1 (by simpa using e))
   have h6:=valA_ge r (c.toNat - 48)
   have h7 : 10 ^ 16 ≤ 10 ^ r.length:=Nat.pow_le_pow_right (by omega) (by simp at hl; omega)
   have h8 : 1 * 10 ^ r.length ≤ (c.toNat - 48) * 10 ^ r.length:=Nat.mul_le_mul_right _ (by omega)
   have e : val (c :: r) = valA (c.toNat - 48) r:=by rw [val_valA,valA_cons]; simp
   rw [e]
   have h9 : (10 : Nat) ^ 16 = 10000000000000000:=by decide
   omega
theorem parse_form (s : List UInt8) : parse s = if canonB s = false then (0,2) else if 9007199254740992 < val (body s) then (0,5) else (if s.getD 0 0 == 45 then -(val (body s) : Int) else (val (body s) : Int),0):=by
 have e : parse s = if (!digits (body s) || (s.getD 0 0 == 45 && body s == [48])) = true then (0,2) else if 16 < (body s).length then (0,5) else if 9007199254740992 < val (body s) then (0,5) else (if s.getD 0 0 == 45 then -(val (body s) : Int) else (val (body s) : Int),0):=rfl
 rw [e]
 unfold canonB
 cases hd : digits (body s)
 ·simp
 ·cases hm : (s.getD 0 0 == 45 && body s == [48])
  ·simp only [Bool.not_true,Bool.or_false,Bool.false_eq_true,if_false,Bool.not_false,Bool.and_self,Bool.true_eq_false]
   split
   ·next hl => rw [if_pos (digits_long hd hl)]
   ·rfl
  ·simp
theorem parseIntB_canon (s : List UInt8) (h : canonB s = true) :
  (val (body s) ≤ 9007199254740992 ∧ parseIntB 64 s = .ok (if s.getD 0 0 == 45 then -(val (body s) : Int) else (val (body s) : Int))) ∨
  (9007199254740992 < val (body s) ∧ (parseIntB 64 s = .range ∨ ∃ v,parseIntB 64 s = .ok v ∧ ¬ (-9007199254740992 ≤ v ∧ v ≤ 9007199254740992))):=by
 unfold canonB at h
 rw [Bool.and_eq_true] at h
 obtain ⟨hd,_⟩:=h
 cases s with
 | nil => simp [body,digits] at hd
 | cons c r =>
  have hne : body (c :: r) ≠ []:=by
   intro e
   rw [e] at hd
   simp [digits] at hd
  have hall : (body (c :: r)).all digB = true:=by
   unfold digits at hd
   rw [Bool.and_eq_true] at hd
   exact hd.1
  have hneg : ((c :: r).getD 0 0 == 45) = decide (c.toNat = 45):=by
   show (c == 45) = _
   rw [Bool.eq_iff_iff,beq_iff_eq,decide_eq_true_eq]
   exact ⟨fun e => by rw [e]; rfl,fun e => UInt8.toNat_inj.1 (by simpa using e)⟩
  have h43 : c.toNat ≠ 43:=by
   intro e
   have e2 : ((c :: r).getD 0 0 == 45) = false:=by rw [hneg]; simp [e]
   unfold body at hall
   rw [e2] at hall
   simp only [Bool.false_eq_true,if_false,List.all_cons,Bool.and_eq_true,digB_iff] at hall
   omega
  have hb : (if c.toNat = 43 ∨ c.toNat = 45 then r else c :: r) = body (c :: r):=by
   unfold body
   rw [hneg]
   by_cases e : c.toNat = 45
   ·simp [e]
   ·simp [e,h43]
  have hu : parseUintB 64 (body (c :: r)) = if val (body (c :: r)) ≤ 18446744073709551615 then .ok (val (body (c :: r))) else .range:=by
   unfold parseUintB
   rw [if_neg hne]
   have:=uintM_digits _ 0 hall
   rw [if_neg hne,← val_valA] at this
   exact this
  have hp : parseIntB 64 (c :: r) = match parseUintB 64 (body (c :: r)) with
    | .syntax => .syntax
    | .range => .range
    | .ok u => if ¬ c.toNat = 45 ∧ 2 ^ (64 - 1) ≤ u then .range else if c.toNat = 45 ∧ 2 ^ (64 - 1) < u then .range else .ok (if c.toNat = 45 then -(u : Int) else u):=by
   rw [← hb]; rfl
  rw [hp,hu,hneg]
  have e63 : 2 ^ (64 - 1) = 9223372036854775808:=by decide
  rw [e63]
  generalize val (body (c :: r)) = u
  by_cases hm : u ≤ 9007199254740992
  ·refine .inl ⟨hm,?_⟩
   rw [if_pos (by omega)]
   dsimp only
   rw [if_neg (by omega),if_neg (by omega)]
   simp
  ·refine .inr ⟨by omega,?_⟩
   by_cases h64 : u ≤ 18446744073709551615
   ·rw [if_pos h64]
    dsimp only
    split
    ·exact .inl rfl
    ·split
     ·exact .inl rfl
     ·refine .inr ⟨_,rfl,?_⟩
      split <;> omega
   ·rw [if_neg h64]
    exact .inl rfl
end Num
end Go.Proofs.YteklhoajalgehaaGreatDoor

namespace Go.Proofs.YteklhoajalgehaaGreatDoor
open Go.RowKit
open Go.Op (bytesLess)
namespace Num
theorem digB_int (c : UInt8) : digB c = (decide (48 ≤ (c.toNat : Int)) && decide ((c.toNat : Int) ≤ 57)):=by
 unfold digB
 have e1 : decide (48 ≤ c.toNat) = decide (48 ≤ (c.toNat : Int)):=decide_eq_decide.2 (by omega)
 have e2 : decide (c.toNat ≤ 57) = decide ((c.toNat : Int) ≤ 57):=decide_eq_decide.2 (by omega)
 rw [e1,e2]
theorem all_fail {s : List UInt8} {j : Nat} (hj : j < s.length) (h : digB (s.getD j 0) = false) : digits s = false:=by
 have : s.all digB = false:=by
  rw [List.all_eq_false]
  refine ⟨s[j],List.getElem_mem hj,?_⟩
  have e : s.getD j 0 = s[j]:=by simp [List.getD,hj]
  rw [e] at h; rw [h]; decide
 unfold digits
 rw [this]; rfl
theorem all_end {s : List UInt8} (h : ∀ k,k < s.length → digB (s.getD k 0) = true) : digits s = (s != [] && (s.getD 0 0 != 48 || s.length == 1)):=by
 have h1 : s.all digB = true:=by
  rw [List.all_eq_true]
  intro x hx
  obtain ⟨j,hj,rfl⟩:=List.getElem_of_mem hx
  have:=h j hj
  have e : s.getD j 0 = s[j]:=by simp [List.getD,hj]
  rwa [e] at this
 unfold digits
 rw [h1,Bool.true_and]
 match s with
 | [] => rfl
 | [c] =>
  by_cases e : c = 48
  ·subst e; rfl
  ·have e1 : (c == 48) = false:=by simp [e]
   have e2 : ([c] == [48]) = false:=by simp [e]
   have e3 : (c != 48) = true:=by simp [e]
   show ([c] == [48] || ([c] != [] && c != 48)) = ([c] != [] && (c != 48 || ([c].length == 1)))
   rw [e2,e3]; rfl
 | c :: d :: r => simp
end Num
namespace AX
theorem u8_beq (c : UInt8) (n : UInt8) : ((c.toNat : Int) == (n.toNat : Int)) = (c == n):=by
 rw [Bool.eq_iff_iff,beq_iff_eq,beq_iff_eq]
 exact ⟨fun e => UInt8.toNat_inj.1 (by omega),fun e => by rw [e]⟩
theorem calls_bool {P : Program} {G : World → Prop} {f : FuncId} {args : List A} {vs : List Value} {w : World} {b : Bool} (hc : ACall P G f args ⟨[],[]⟩ fun v _ => v = .bool b) (hG : ∀ w' : World,(∀ g,g < w.heap.size → w'.heap[g]? = w.heap[g]?) → G w')
  (ha : RepL (Ctx.of w) args vs) : Calls P f vs.toArray w fun e w' => e = .returned (.bool b) ∧ Below w.heap.size w w':=by
 refine (hc (Ctx.of w) vs (inv_of hG) ha).mono ?_
 rintro e w' ⟨C',h',v,cv,rfl,rfl,_,st,hr,rfl⟩
 rw [rep_bool] at hr; subst hr
 exact ⟨rfl,st.os,st.tape,st.output,st.size,fun g hg => st.frame g hg rfl fun t ht => by simp [Ctx.of] at ht⟩
theorem a_canon (s : List UInt8) (hl : s.length ≤ 2000000) (h : Hp) : ACall Tryz.prog GT 274 [.str s] h fun r h' => r = .bool (Num.canonB s) ∧ h' = h:=by
 refine pcall ?_ rfl (by simp [A.pure,A.data]) h
 refine fo ?_
 obtain ⟨R,hR⟩ : ∃ R,Num.canonB s = R:=⟨_,rfl⟩
 rw [hR]
 unfold Num.canonB Num.body at hR
 by_cases hn : s = []
 ·subst hn
  have e0 : ¬ ((0 : Nat) : Int) > 0:=by decide
  have e1 : ¬ (0 : Int) < ((0 : Nat) : Int):=by decide
  have hR' : R = false:=by rw [← hR]; rfl
  subst hR'
  refine run0 e0 ?_
  refine go_once ?_
  refine run0 e1 ?_
  exact ⟨_,le_refl _,rfl⟩
 have hpos : (s.length : Int) > 0:=by
  have:=List.length_pos_iff.2 hn; omega
 have h0 : (0 : Int) < (s.length : Int):=hpos
 obtain ⟨c,hc⟩ : ∃ c,s.getD 0 0 = c:=⟨_,rfl⟩
 rw [hc] at hR
 have e45 : ((c.toNat : Int) == 45) = (c == 45):=u8_beq c 45
 have hbody : ∃ t : List UInt8,t = (if c == 45 then s.drop 1 else s):=⟨_,rfl⟩
 obtain ⟨t,ht⟩:=hbody
 rw [← ht] at hR
 have htl : t.length ≤ 2000000:=by
  rw [ht]; split
  ·rw [List.length_drop]; omega
  ·exact hl
 have hgr : ∀ j : Nat,t.getD j 0 = t.getD j 0:=fun _ => rfl
 have h1le : (1 : Int) ≤ (s.length : Int):=by omega
 have z1 : (0 : Int) ≤ 1:=by decide
 have n1 : (1 : Int).toNat = 1:=rfl
 have n0 : (0 : Int).toNat = 0:=rfl
 have key : ∀ {G : Prop},((c == 45) = true → t = s.drop 1 → G) → ((c == 45) = false → t = s → G) → G:=fun p q => by
  cases e : c == 45
  ·exact q e (by rw [ht,e]; rfl)
  ·exact p e (by rw [ht,e]; rfl)
 refine key (fun m1 m2 => ?_) (fun m1 m2 => ?_)
 ·rw [m1,Bool.true_and] at hR
  have m3 : s.drop 1 = t:=m2.symm
  have e10 : ((c.toNat : Int) == 45) = true:=by rw [e45,m1]
  cases h48 : t == [48]
  rotate_left
  ·rw [h48] at hR
   have hR' : R = false:=by rw [← hR,Bool.not_true,Bool.and_false]
   subst hR'
   refine run0 (ai hpos (ai h0 (ai n0 (ai hc (ai e10 (ai h1le (ai z1 (ai n1 (ai m3 h48))))))))) ?_
   exact ⟨_,le_refl _,rfl⟩
  rw [h48,Bool.not_false,Bool.and_true] at hR
  refine run0 (ai hpos (ai h0 (ai n0 (ai hc (ai e10 (ai h1le (ai z1 (ai n1 (ai m3 h48))))))))) ?_
  refine awp_loop (fun mm ts h => ∃ (j : Nat),mm = t.length - j ∧ j ≤ t.length ∧ h = ⟨[],[]⟩ ∧ (∀ k,k < j → Num.digB (t.getD k 0) = true) ∧ ts 0 = .str t ∧ ts 17 = .int .i64 (t.length : Nat) ∧ ts 18 = .int .i64 (j : Nat)) t.length ?_ ?_
  ·exact ⟨0,by omega,by omega,rfl,fun k hk => absurd hk (Nat.not_lt_zero k),by (exact ev0 m3),by (exact ev0 m3),by (exact inv0 ti)⟩
  rintro mm ts h ⟨j,rfl,hjc,rfl,hok,t0,t17,t18⟩
  by_cases hj : j < t.length
  ·have hlt : (j : Int) < (t.length : Int):=by omega
   have hj0 : (0 : Int) ≤ (j : Int):=by omega
   have ei : IntKind.i64.wrap ((j : Int) + 1) = ((j + 1 : Nat) : Int):=by rw [wrap64 (by omega) (by omega)]; omega
   obtain ⟨b,hb⟩ : ∃ b,t.getD j 0 = b:=⟨_,rfl⟩
   have hdg:=Num.digB_int b
   obtain ⟨x,hx⟩ : ∃ x : Int,(b.toNat : Int) = x:=⟨_,rfl⟩
   rw [hx] at hdg
   by_cases x1 : x < 48
   ·have hR' : R = false:=by rw [← hR]; exact Num.all_fail hj (by rw [hb,hdg,decide_eq_false (by omega)]; rfl)
    subst hR'
    refine run0 (ai t0 (ai t17 (ai t18 (ai hlt (ai hj0 (ai hb (ai hx x1))))))) ?_
    exact ⟨_,le_refl _,rfl⟩
   by_cases x2 : x > 57
   ·have hR' : R = false:=by rw [← hR]; exact Num.all_fail hj (by rw [hb,hdg,decide_eq_true (show 48 ≤ x by omega),decide_eq_false (by omega)]; rfl)
    subst hR'
    refine run0 (ai t0 (ai t17 (ai t18 (ai hlt (ai hj0 (ai hb (ai hx (ai x1 x2)))))))) ?_
    exact ⟨_,le_refl _,rfl⟩
   ·refine run0 (ai t0 (ai t17 (ai t18 (ai hlt (ai hj0 (ai hb (ai hx (ai x1 (ai x2 ei))))))))) ?_
    refine ⟨t.length - (j + 1),by omega,j + 1,rfl,by omega,rfl,fun k hk => ?_,by (exact ev0 t0),by (exact ev0 t17),by (exact ev0 ei)⟩
    by_cases e : k = j
    ·rw [e,hb,hdg,decide_eq_true (show 48 ≤ x by omega),decide_eq_true (show x ≤ 57 by omega)]; rfl
    ·exact hok k (by omega)
  ·have hlt : ¬ ((j : Int) < (t.length : Int)):=by omega
   have hje : j = t.length:=by omega
   rw [hje] at hok
   have hE:=Num.all_end hok
   rw [hR] at hE
   cases hnt : t != []
   ·rw [hnt,Bool.false_and] at hE
    subst hE
    refine run0 (ai t0 (ai t17 (ai t18 (ai hlt hnt)))) ?_
    exact ⟨_,le_refl _,rfl⟩
   rw [hnt,Bool.true_and] at hE
   have hp2 : (0 : Int) < (t.length : Int):=by
    have : t ≠ []:=by simpa using hnt
    have:=List.length_pos_iff.2 this; omega
   obtain ⟨b,hb⟩ : ∃ b,t.getD 0 0 = b:=⟨_,rfl⟩
   rw [hb] at hE
   have e48 : ((b.toNat : Int) != 48) = (b != 48):=congrArg (!·) (u8_beq b 48)
   cases hb48 : b != 48
   ·rw [hb48,Bool.false_or] at hE
    rw [hb48] at e48
    have el : ((t.length : Int) == 1) = (t.length == 1):=by
     rw [Bool.eq_iff_iff,beq_iff_eq,beq_iff_eq]; omega
    rw [← hE] at el
    refine run0 (ai t0 (ai t17 (ai t18 (ai hlt (ai hnt (ai hp2 (ai n0 (ai hb (ai e48 el))))))))) ?_
    exact ⟨_,le_refl _,rfl⟩
   ·rw [hb48,Bool.true_or] at hE
    subst hE
    rw [hb48] at e48
    refine run0 (ai t0 (ai t17 (ai t18 (ai hlt (ai hnt (ai hp2 (ai n0 (ai hb e48)))))))) ?_
    exact ⟨_,le_refl _,rfl⟩
 ·have e10 : ((c.toNat : Int) == 45) = false:=by rw [e45,m1]
  rw [m1,Bool.false_and,Bool.not_false,Bool.and_true] at hR
  have m3 : s = t:=m2.symm
  refine run0 (ai hpos (ai h0 (ai n0 (ai hc e10)))) ?_
  refine awp_loop (fun mm ts h => ∃ (j : Nat),mm = t.length - j ∧ j ≤ t.length ∧ h = ⟨[],[]⟩ ∧ (∀ k,k < j → Num.digB (t.getD k 0) = true) ∧ ts 0 = .str t ∧ ts 17 = .int .i64 (t.length : Nat) ∧ ts 18 = .int .i64 (j : Nat)) t.length ?_ ?_
  ·exact ⟨0,by omega,by omega,rfl,fun k hk => absurd hk (Nat.not_lt_zero k),by (exact ev0 m3),by (exact ev0 m3),by (exact inv0 ti)⟩
  rintro mm ts h ⟨j,rfl,hjc,rfl,hok,t0,t17,t18⟩
  by_cases hj : j < t.length
  ·have hlt : (j : Int) < (t.length : Int):=by omega
   have hj0 : (0 : Int) ≤ (j : Int):=by omega
   have ei : IntKind.i64.wrap ((j : Int) + 1) = ((j + 1 : Nat) : Int):=by rw [wrap64 (by omega) (by omega)]; omega
   obtain ⟨b,hb⟩ : ∃ b,t.getD j 0 = b:=⟨_,rfl⟩
   have hdg:=Num.digB_int b
   obtain ⟨x,hx⟩ : ∃ x : Int,(b.toNat : Int) = x:=⟨_,rfl⟩
   rw [hx] at hdg
   by_cases x1 : x < 48
   ·have hR' : R = false:=by rw [← hR]; exact Num.all_fail hj (by rw [hb,hdg,decide_eq_false (by omega)]; rfl)
    subst hR'
    refine run0 (ai t0 (ai t17 (ai t18 (ai hlt (ai hj0 (ai hb (ai hx x1))))))) ?_
    exact ⟨_,le_refl _,rfl⟩
   by_cases x2 : x > 57
   ·have hR' : R = false:=by rw [← hR]; exact Num.all_fail hj (by rw [hb,hdg,decide_eq_true (show 48 ≤ x by omega),decide_eq_false (by omega)]; rfl)
    subst hR'
    refine run0 (ai t0 (ai t17 (ai t18 (ai hlt (ai hj0 (ai hb (ai hx (ai x1 x2)))))))) ?_
    exact ⟨_,le_refl _,rfl⟩
   ·refine run0 (ai t0 (ai t17 (ai t18 (ai hlt (ai hj0 (ai hb (ai hx (ai x1 (ai x2 ei))))))))) ?_
    refine ⟨t.length - (j + 1),by omega,j + 1,rfl,by omega,rfl,fun k hk => ?_,by (exact ev0 t0),by (exact ev0 t17),by (exact ev0 ei)⟩
    by_cases e : k = j
    ·rw [e,hb,hdg,decide_eq_true (show 48 ≤ x by omega),decide_eq_true (show x ≤ 57 by omega)]; rfl
    ·exact hok k (by omega)
  ·have hlt : ¬ ((j : Int) < (t.length : Int)):=by omega
   have hje : j = t.length:=by omega
   rw [hje] at hok
   have hE:=Num.all_end hok
   rw [hR] at hE
   cases hnt : t != []
   ·rw [hnt,Bool.false_and] at hE
    subst hE
    refine run0 (ai t0 (ai t17 (ai t18 (ai hlt hnt)))) ?_
    exact ⟨_,le_refl _,rfl⟩
   rw [hnt,Bool.true_and] at hE
   have hp2 : (0 : Int) < (t.length : Int):=by
    have : t ≠ []:=by simpa using hnt
    have:=List.length_pos_iff.2 this; omega
   obtain ⟨b,hb⟩ : ∃ b,t.getD 0 0 = b:=⟨_,rfl⟩
   rw [hb] at hE
   have e48 : ((b.toNat : Int) != 48) = (b != 48):=congrArg (!·) (u8_beq b 48)
   cases hb48 : b != 48
   ·rw [hb48,Bool.false_or] at hE
    rw [hb48] at e48
    have el : ((t.length : Int) == 1) = (t.length == 1):=by
     rw [Bool.eq_iff_iff,beq_iff_eq,beq_iff_eq]; omega
    rw [← hE] at el
    refine run0 (ai t0 (ai t17 (ai t18 (ai hlt (ai hnt (ai hp2 (ai n0 (ai hb (ai e48 el))))))))) ?_
    exact ⟨_,le_refl _,rfl⟩
   ·rw [hb48,Bool.true_or] at hE
    subst hE
    rw [hb48] at e48
    refine run0 (ai t0 (ai t17 (ai t18 (ai hlt (ai hnt (ai hp2 (ai n0 (ai hb e48)))))))) ?_
    exact ⟨_,le_refl _,rfl⟩
end AX
theorem numParse_any (l : List UInt8) (hl : l.length ≤ 2000000) (w : World) (g : GT w) :
  Calls Tryz.prog 229 #[.string ⟨l.toArray⟩] w fun e w' => e = .returned (.tuple #[.int .i64 (Num.parse l).1,.int .i64 (Num.parse l).2]) ∧ Below w.heap.size w w':=by
 have hc:=AX.calls_bool (w:=w) (vs:=[.string ⟨l.toArray⟩]) ((AX.a_canon l hl ⟨[],[]⟩).mono fun v h' hv => hv.1) (AX.gt_keep g) (AX.repL_cons.2 ⟨_,_,rfl,AX.rep_str.2 rfl,AX.repL_nil.2 rfl⟩)
 have hf:=Num.parse_form l
 obtain ⟨P1,hP1⟩ : ∃ p,Num.parse l = p:=⟨_,rfl⟩
 rw [hP1] at hf ⊢
 cases hB : Num.canonB l
 ·rw [hB,if_pos rfl] at hf
  subst hf
  rw [hB] at hc
  go_enter Tryz.func229,Tryz.ntmps229
  go_wp2_with fail
  refine hc.mono ?_; rintro e w1 ⟨rfl,b1⟩
  have B1:=kept b1; clear b1
  go_wp2
  refine bodyPost_ret (v:=.tuple #[.int .i64 0,.int .i64 2]) (by simp [results,Tryz.results229,go_sem]) rfl ⟨rfl,B1.out⟩
 ·rw [hB,if_neg (by decide)] at hf
  rw [hB] at hc
  have hsz : (⟨l.toArray⟩ : ByteArray).size ≤ 9223372036854775806:=by rw [size_mk]; omega
  have hlim : (⟨l.toArray⟩ : ByteArray).size ≤ 281474976710656:=by rw [size_mk]; omega
  have hsyn:=g.esyn
  obtain ⟨ev,hev,hev2⟩:=g.erng
  have nilne : ∀ (a b : Value),True:=fun _ _ => AX.ti
  rcases Num.parseIntB_canon l hB with ⟨h1,h2⟩ | ⟨h1,h2 | ⟨v,h2,h3⟩⟩
  ·rw [if_neg (by omega)] at hf
   obtain ⟨v,hv⟩ : ∃ v : Int,(if l.getD 0 0 == 45 then -(Num.val (Num.body l) : Int) else (Num.val (Num.body l) : Int)) = v:=⟨_,rfl⟩
   rw [hv] at h2 hf
   have hvr : -9007199254740992 ≤ v ∧ v ≤ 9007199254740992:=by rw [← hv]; split <;> omega
   have hp : ∀ w' : World,Calls Tryz.prog 275 #[.string ⟨l.toArray⟩,.int .i64 10,.int .i64 64] w' fun e w2 => e = .returned (.tuple #[.int .i64 v,.nilIface]) ∧ (w2 = w' ∨ ∃ t,w2 = Lib.bytesWorld w' 5 t):=fun w' => Any.strconv_ParseInt_10_at64_ok (P:=Tryz.prog) Tryz.lays174 ⟨l.toArray⟩ hsz v h2 w'
   have Hnv:=kept (fun w' => numValid_any v w')
   rw [decide_eq_true hvr] at Hnv
   subst hf
   have Hp:=kept hp
   clear hp hsz hlim hsyn hev hev2 hvr hv h1 h2 hB
   go_enter Tryz.func229,Tryz.ntmps229
   go_wp2_with fail
   refine hc.mono ?_; rintro e w1 ⟨rfl,b1⟩
   have B1:=kept b1; clear b1
   go_wp2_with fail
   (with_reducible refine (Hp.out _).mono ?_); rintro e w2 ⟨rfl,hw⟩
   have B2 : Kept (Below w.heap.size w w2):=kept (by
    rcases hw with rfl | ⟨t,rfl⟩
    ·exact B1.out
    ·exact bthen B1.out (Lib.bytesWorld_below _ _ _))
   clear hw
   go_wp2_with fail
   (with_reducible refine (Hnv.out _).mono ?_); rintro e w3 ⟨rfl,rfl⟩
   go_wp2
   refine bodyPost_ret (v:=.tuple #[.int .i64 v,.int .i64 0]) (by simp [results,Tryz.results229,go_sem]) rfl ⟨rfl,B2.out⟩
  ·rw [if_pos (by omega)] at hf
   have hp : ∀ w' : World,w'.cell? ⟨4,0,none⟩ = some ev → Calls Tryz.prog 275 #[.string ⟨l.toArray⟩,.int .i64 10,.int .i64 64] w' fun e w2 => (∃ a b c,e = .returned (.tuple #[.int .i64 a,.iface b c])) ∧ Below w'.heap.size w' w2:=fun w' hv => (Any.strconv_ParseInt_10_at64_range (P:=Tryz.prog) Tryz.lays174 ⟨l.toArray⟩ hlim h2 ev w' hv hev2).mono fun e w2 ⟨N,q1,q2,q3,q4⟩ => ⟨⟨_,_,_,q1⟩,q4⟩
   subst hf
   have Hp:=kept hp
   have Hev:=kept hev
   clear hp hsz hlim hsyn hev hev2 h1 h2 hB
   go_enter Tryz.func229,Tryz.ntmps229
   go_wp2_with fail
   refine hc.mono ?_; rintro e w1 ⟨rfl,b1⟩
   have B1:=kept b1
   have Hev1:=kept (show w1.cell? ⟨4,0,none⟩ = some ev from by rw [← Hev.out]; simp only [World.cell?,b1.block _ (cell_there Hev.out).2])
   clear b1
   go_wp2_with fail
   (with_reducible refine (Hp.out _ Hev1.out).mono ?_); rintro e w2 ⟨⟨a,b,c,rfl⟩,b2⟩
   have B2 : Kept (Below w.heap.size w w2):=kept (bthen B1.out b2)
   clear b2
   go_wp2
   refine bodyPost_ret (v:=.tuple #[.int .i64 0,.int .i64 5]) (by simp [results,Tryz.results229,go_sem]) rfl ⟨rfl,B2.out⟩
  ·rw [if_pos (by omega)] at hf
   have hp : ∀ w' : World,Calls Tryz.prog 275 #[.string ⟨l.toArray⟩,.int .i64 10,.int .i64 64] w' fun e w2 => e = .returned (.tuple #[.int .i64 v,.nilIface]) ∧ (w2 = w' ∨ ∃ t,w2 = Lib.bytesWorld w' 5 t):=fun w' => Any.strconv_ParseInt_10_at64_ok (P:=Tryz.prog) Tryz.lays174 ⟨l.toArray⟩ hsz v h2 w'
   have Hnv:=kept (fun w' => numValid_any v w')
   rw [decide_eq_false h3] at Hnv
   subst hf
   have Hp:=kept hp
   clear hp hsz hlim hsyn hev hev2 h3 h1 h2 hB
   go_enter Tryz.func229,Tryz.ntmps229
   go_wp2_with fail
   refine hc.mono ?_; rintro e w1 ⟨rfl,b1⟩
   have B1:=kept b1; clear b1
   go_wp2_with fail
   (with_reducible refine (Hp.out _).mono ?_); rintro e w2 ⟨rfl,hw⟩
   have B2 : Kept (Below w.heap.size w w2):=kept (by
    rcases hw with rfl | ⟨t,rfl⟩
    ·exact B1.out
    ·exact bthen B1.out (Lib.bytesWorld_below _ _ _))
   clear hw
   go_wp2_with fail
   (with_reducible refine (Hnv.out _).mono ?_); rintro e w3 ⟨rfl,rfl⟩
   go_wp2
   refine bodyPost_ret (v:=.tuple #[.int .i64 0,.int .i64 5]) (by simp [results,Tryz.results229,go_sem]) rfl ⟨rfl,B2.out⟩
theorem AX.a_numParse (s : List UInt8) (hl : s.length ≤ 2000000) (h : AX.Hp) : AX.ACall Tryz.prog GT 229 [.str s] h fun r h' => r = .tup [.int .i64 (Num.parse s).1,.int .i64 (Num.parse s).2] ∧ h' = h:=
 AX.acall_imp (AX.args1 AX.r_str) (fun w hg => numParse_any s hl w hg) (fun C => AX.rep_tup.2 ⟨_,rfl,AX.repL_cons.2 ⟨_,_,rfl,AX.rep_int.2 rfl,AX.repL_cons.2 ⟨_,_,rfl,AX.rep_int.2 rfl,AX.repL_nil.2 rfl⟩⟩⟩) h
end Go.Proofs.YteklhoajalgehaaGreatDoor

namespace Go.Proofs.YteklhoajalgehaaGreatDoor
open Go.RowKit Go.Lib
def stops : ByteArray:=⟨#[46,91]⟩
theorem below_iter (w : World) (s : ByteArray) (p : Nat) : Below w.heap.size w (w.iter s p):=by
 refine ⟨rfl,rfl,rfl,?_,fun g hg => ?_⟩
 ·show w.heap.size ≤ (w.heap.push (Obj.stringIter s p)).size
  simp
 ·show (w.heap.push (Obj.stringIter s p))[g]? = _
  rw [Array.getElem?_push,if_neg (by omega)]
set_option maxRecDepth 100000 in
theorem indexRune_err (w : World) : Calls Tryz.prog 311 #[.string stops,.int .i32 65533] w fun e w' => e = .returned (.int .i64 (-1)) ∧ Below w.heap.size w w':=by
 go_enter Tryz.func311,Tryz.ntmps311
 have hsz : stops.size = 2:=rfl
 go_wp2_with fail
 go_loopg [5,6] 2 (fun g _ _ wx => ∃ i : Nat,i + g = 2 ∧ wx = w.iter stops i)
 case atStart => exact ⟨0,by omega,rfl⟩
 case round =>
  obtain ⟨i,hig,rfl⟩:=hrel
  cases gk with
  | zero =>
   obtain rfl : i = 2:=by omega
   have hnx:=fun ty => run_next_end (P:=Tryz.prog) w stops 2 ty (by decide)
   go_wp2
   go_ret
   exact ⟨rfl,below_iter w stops 2⟩
  | succ g =>
   have hi : i = 0 ∨ i = 1:=by omega
   rcases hi with rfl | rfl
   ·have hnx:=fun ty => run_next_ascii (P:=Tryz.prog) w stops 0 ty (by decide) (by decide)
    have e0 : ((stops[0]'(by decide)).toNat : Int) = 46:=rfl
    rw [e0] at hnx
    go_wp2
    go_roundg g
    case measure => omega
    case rel => exact ⟨1,by omega,rfl⟩
   ·have hnx:=fun ty => run_next_ascii (P:=Tryz.prog) w stops 1 ty (by decide) (by decide)
    have e0 : ((stops[1]'(by decide)).toNat : Int) = 91:=rfl
    rw [e0] at hnx
    go_wp2
    go_roundg g
    case measure => omega
    case rel => exact ⟨2,by omega,rfl⟩
set_option maxRecDepth 100000 in
theorem indexRune_hi (r : Int) (h0 : 128 ≤ r) (h1 : r ≤ 2147483647) (hr : r ≠ 65533) (w : World) : Calls Tryz.prog 311 #[.string stops,.int .i32 r] w fun e w' => e = .returned (.int .i64 (-1)) ∧ Below w.heap.size w w':=by
 go_enter Tryz.func311,Tryz.ntmps311
 have hsz : stops.size = 2:=rfl
 have c1 : decide (0 ≤ r) = true:=decide_eq_true (by omega)
 have c2 : decide (r < 128) = false:=decide_eq_false (by omega)
 have c3 : (r == 65533) = false:=beq_eq_false_iff_ne.2 hr
 have Hv:=kept (fun w => Tryz.utf8_ValidRune r w)
 cases hv : Lib.validRune r
 ·go_wp2_with fail
  (with_reducible refine (Hv.out _).mono ?_); rintro e w1 ⟨rfl,rfl⟩
  rw [hv]
  go_wp2
  go_ret
  exact ⟨rfl,Below.refl _ _⟩
 ·have hval : Utf8.valid r = true:=by rw [Go.validRune_eq]; unfold Lib.validRune at hv; unfold Go.validRune; exact hv
  obtain ⟨f1,f2,f3⟩:=encode_facts r hval h0
  go_wp2_with fail
  (with_reducible refine (Hv.out _).mono ?_); rintro e w1 ⟨rfl,rfl⟩
  rw [hv]
  have e1 : IntKind.i64.wrap (((Utf8.encode r).size : Int) - 1) = (((Utf8.encode r).size - 1 : Nat) : Int):=by rw [show ((Utf8.encode r).size : Int) - 1 = (((Utf8.encode r).size - 1 : Nat) : Int) by omega]; exact Go.IntWalk.i64_in _ ⟨by omega,by omega⟩
  have hcv:=fun (w : World) => run_convert_int_string (P:=Tryz.prog) w 21 9 .i32 r rfl rfl
  go_wp2_with fail
  apply wp_scope_straight
  go_wp2
  go_loopg [9,10,11,12] 1 (fun g v9 v10 v11 v12 wx => wx = w1 ∧ v9 = .int .i64 (((Utf8.encode r).size - 1 : Nat) : Int))
  case atStart => exact ⟨rfl,rfl⟩
  case round =>
   obtain ⟨rfl,rfl⟩:=hrel
   by_cases h2 : (Utf8.encode r).size = 2
   ·have e2 : (Utf8.encode r).size - 1 = 1:=by omega
    obtain ⟨x,hx⟩ : ∃ x : UInt8,(Utf8.encode r)[1]'(by omega) = x:=⟨_,rfl⟩
    have hx1 : 128 ≤ x.toNat:=by
     have:=f3 (by omega)
     simp only [e2] at this
     rw [hx] at this; exact this
    have hi1 : (1 : Nat) < (Utf8.encode r).size:=by omega
    have hs1 : (stops[1]'(by decide)).toNat = 91:=rfl
    have hne : ((91 : Int) != (x.toNat : Int)) = true:=by simp; omega
    have e3 : (((Utf8.encode r).size - 1 : Nat) : Int) = 1:=by omega
    have hi2 : (1 : Int) < ((Utf8.encode r).size : Int):=by omega
    rw [e3]
    go_wp2
    apply wp_scope_straight
    go_wp2_with fail
    go_region
    have hw2 : IntKind.i64.wrap ((1 : Int) + 1) = 2:=rfl
    have hib0 : Lib.indexByte [] x = -1:=rfl
    go_wp2_with fail
    go_region_with ((with_reducible refine (Tryz.strings_IndexByte _ _ _).mono ?_); rintro e2 w2 ⟨rfl,rfl⟩)
    all_goals
     go_wp2
     rw [Exit.noGoto_ret]
     go_wp2
     rw [Exit.noGoto_ret]
     go_wp2
     go_ret
     first | exact ⟨rfl,below_drewN (Below.refl _ _) 2⟩ | exact ⟨rfl,below_drewN _ 2⟩
   ·have hlt : ¬ ((((Utf8.encode r).size - 1 : Nat) : Int) < (stops.size : Int)):=by omega
    go_wp2
    go_ret
    exact ⟨rfl,Below.refl _ _⟩
theorem decode_conts (s : ByteArray) (i j : Nat) (h1 : 1 ≤ j) (hj : j < (Utf8.decode s i).2) : i + j < s.size ∧ 128 ≤ (s.get! (i + j)).toNat:=by
 unfold Utf8.decode at hj
 dsimp only at hj
 split at hj
 ·simp only at hj; omega
 ·split at hj
  ·next h =>
   simp only [Bool.and_eq_true,decide_eq_true_eq,beq_iff_eq] at h
   split at hj
   ·simp only at hj
    obtain rfl : j = 1:=by omega
    omega
   ·simp only at hj; omega
  ·split at hj
   ·next h =>
    simp only [Bool.and_eq_true,decide_eq_true_eq,beq_iff_eq] at h
    split at hj
    ·simp only at hj
     have : j = 1 ∨ j = 2:=by omega
     rcases this with rfl | rfl <;> omega
    ·simp only at hj; omega
   ·split at hj
    ·next h =>
     simp only [Bool.and_eq_true,decide_eq_true_eq,beq_iff_eq] at h
     split at hj
     ·simp only at hj
      have : j = 1 ∨ j = 2 ∨ j = 3:=by omega
      rcases this with rfl | rfl | rfl <;> omega
     ·simp only at hj; omega
    ·simp only at hj; omega
theorem indexRune_any (r : Int) (h0 : 128 ≤ r) (h1 : r ≤ 2147483647) (w : World) : Calls Tryz.prog 311 #[.string stops,.int .i32 r] w fun e w' => e = .returned (.int .i64 (-1)) ∧ Below w.heap.size w w':=by
 by_cases h : r = 65533
 ·subst h; exact indexRune_err w
 ·exact indexRune_hi r h0 h1 h w
theorem noAny_skip {s : ByteArray} {i : Nat} (hi : i < s.size) (hx : 128 ≤ (s[i]'hi).toNat) (h : Lib.NoAny s.data.toList stops.data.toList i) : Lib.NoAny s.data.toList stops.data.toList (i + (Utf8.decode s i).2) ∧ i + (Utf8.decode s i).2 ≤ s.size ∧ 1 ≤ (Utf8.decode s i).2:=by
 have hd:=(decode_high s i hi hx).2
 refine ⟨fun j b hj hb => ?_,?_,hd⟩
 ·by_cases hji : j < i
  ·exact h j b hji hb
  ·have hjs : j < s.size:=by
    have:=(List.getElem?_eq_some_iff.1 hb).1
    simpa using this
   have hb' : b = s[j]'hjs:=by
    have:=Lib.data_getElem? s j hjs
    rw [this] at hb; exact (Option.some.inj hb).symm
   have h128 : 128 ≤ b.toNat:=by
    by_cases hji2 : j = i
    ·subst hji2; rw [hb']; exact hx
    ·have:=(decode_conts s i (j - i) (by omega) (by omega)).2
     rw [show i + (j - i) = j by omega] at this
     rw [hb']
     have e : s.get! j = s[j]'hjs:=get_at s j hjs
     rw [e] at this; exact this
   have hne : b ≠ 46 ∧ b ≠ 91:=by
    constructor
    ·rintro rfl; exact absurd h128 (by decide)
    ·rintro rfl; exact absurd h128 (by decide)
   show [(46 : UInt8),91].contains b = false
   simp [hne.1,hne.2]
 ·by_cases h1 : (Utf8.decode s i).2 = 1
  ·omega
  ·have:=(decode_conts s i ((Utf8.decode s i).2 - 1) (by omega) (by omega)).1
   omega
set_option maxRecDepth 100000 in
theorem indexAny_short (s : ByteArray) (w : World) (h8 : s.size ≤ 8) : Calls Tryz.prog 284 #[.string s,.string stops] w fun e w' => e = .returned (.int .i64 (Lib.indexAny s.data.toList stops.data.toList)) ∧ Below w.heap.size w w':=by
 have hss : stops.size = 2:=rfl
 have hemp : stops.toList.isEmpty = false:=by rw [Lib.toList_data]; rfl
 have hn1 : ((stops.size : Int) == 1) = false:=rfl
 have h8z : decide ((8 : Int) < (s.size : Int)) = false:=decide_eq_false (by omega)
 go_enter Tryz.func284,Tryz.ntmps284
 go_wp2_with fail
 (with_reducible refine (Tryz.strings_shouldUseASCIISet _ _).mono ?_); rintro e w1 ⟨rfl,rfl⟩
 rw [h8z]
 go_wp2_with fail
 go_loopg [9,10] s.size (fun g _ _ wx => ∃ i : Nat,s.size ≤ i + g ∧ i ≤ s.size ∧ wx.heap[w1.heap.size]? = some (.stringIter s i) ∧ Below w1.heap.size w1 wx ∧ Lib.NoAny s.data.toList stops.data.toList i)
 case atStart => exact ⟨0,by omega,by omega,World.iter_heap _ _ _,below_iter _ _ _,Lib.NoAny.zero _ _⟩
 case round =>
  obtain ⟨i,hig,his,hit,hbel,hno⟩:=hrel
  by_cases hi : i < s.size
  ·cases gk with
   | zero => omega
   | succ g =>
    obtain ⟨x,hx⟩ : ∃ x : UInt8,s[i]'hi = x:=⟨_,rfl⟩
    have hxl : s.data.toList[i]? = some x:=by rw [← hx]; exact Lib.data_getElem? s i hi
    by_cases ha : x.toNat < 128
    ·have hnx:=fun ty => run_next_ascii_at (P:=Tryz.prog) wr w1.heap.size s i ty hit hi (by rw [hx]; exact ha)
     rw [hx] at hnx
     have Hit:=kept (iterAt_heap wr w1.heap.size s i (i + 1) hit)
     have Hbel:=kept (below_iterAt hbel (Nat.le_refl _) s (i + 1))
     have Hno:=kept hno
     have Hxl:=kept hxl
     have hcon:=Lib.contains_iff_indexByte stops.data.toList x
     have hback : ((x.toNat : Int)).toNat.toUInt8 = x:=by simp
     have Hx:=kept hx
     clear hit hbel hno hxl hx
     cases hin : stops.data.toList.contains x
     ·rw [hin] at hcon
      have hlt : ¬ ((0 : Int) ≤ Lib.indexByte stops.data.toList x):=of_decide_eq_false hcon.symm
      clear hcon
      go_wp2_with fail
      (with_reducible refine (Tryz.strings_IndexRune_ascii _ _ _ (by omega) (by omega)).mono ?_); rintro e w2 ⟨rfl,rfl⟩
      rw [hback]
      go_wp2
      go_roundg g
      case measure => omega
      case rel => exact ⟨i + 1,by omega,by omega,Hit.out,Hbel.out,Hno.out.succ Hxl.out hin⟩
     ·rw [hin] at hcon
      have hge : (0 : Int) ≤ Lib.indexByte stops.data.toList x:=of_decide_eq_true hcon.symm
      clear hcon
      go_wp2_with fail
      (with_reducible refine (Tryz.strings_IndexRune_ascii _ _ _ (by omega) (by omega)).mono ?_); rintro e w2 ⟨rfl,rfl⟩
      rw [hback]
      go_wp2
      go_ret
      exact ⟨by rw [Lib.indexAny_hit Hno.out Hxl.out hin]; rfl,Hbel.out⟩
    ·have hx128 : 128 ≤ (s[i]'hi).toNat:=by rw [hx]; omega
     obtain ⟨k1,k2,k3⟩:=noAny_skip hi hx128 hno
     have d1:=(decode_high s i hi hx128).1
     have d2:=decode_le s i
     have hnx:=fun ty => run_next_any_at (P:=Tryz.prog) wr w1.heap.size s i ty hit hi
     obtain ⟨⟨c,d⟩,hcd⟩ : ∃ p,Utf8.decode s i = p:=⟨_,rfl⟩
     rw [hcd] at k1 k2 k3 d1 d2 hnx
     dsimp only at k1 k2 k3 d1 d2 hnx
     have Hit:=kept (iterAt_heap wr w1.heap.size s i (i + d) hit)
     have Hbel:=kept (below_iterAt hbel (Nat.le_refl _) s (i + d))
     have K1:=kept k1
     clear hit hbel hno hxl hx hx128 hcd k1
     go_wp2_with fail
     (with_reducible refine (indexRune_any _ (by omega) (by omega) _).mono ?_); rintro e w2 ⟨rfl,b2⟩
     have hit2 : w2.heap[w1.heap.size]? = some (.stringIter s (i + d)):=by rw [b2.block _ (Array.getElem?_eq_some_iff.1 Hit.out).1]; exact Hit.out
     have Hit2:=kept hit2
     have Hbel2:=kept (Hbel.out.trans (b2.mono (by have:=Hbel.out.size; exact this)))
     clear hit2 b2
     go_wp2
     go_roundg g
     case measure => omega
     case rel => exact ⟨i + d,by omega,by omega,Hit2.out,Hbel2.out,K1.out⟩
  ·obtain rfl : i = s.size:=by omega
   have hnx:=fun ty => run_next_end_at (P:=Tryz.prog) wr w1.heap.size s s.size ty hit (by omega)
   have Hno:=kept hno
   have Hbel:=kept hbel
   clear hno hbel
   go_wp2
   go_ret
   exact ⟨by rw [Lib.indexAny_none (by rw [← Lib.size_eq]; exact Hno.out)]; rfl,Hbel.out⟩
set_option maxHeartbeats 8000000 in
set_option maxRecDepth 1000000 in
theorem indexAny_long (s : ByteArray) (h8 : 8 < s.size) (hs : s.size ≤ 9223372036854775807) (w : World) : Calls Tryz.prog 284 #[.string s,.string stops] w fun e w' => e = .returned (.int .i64 (Lib.indexAny s.data.toList stops.data.toList)) ∧ Below w.heap.size w w':=by
 have hz:=zero_of_info (P:=Tryz.prog) (t:=331) (n:=256) (v:=.agg (Array.replicate 256 (.bool false))) (by kernel_rfl)
 obtain ⟨cells,hcells⟩ : ∃ c,Lib.setCells stops.data.toList = c:=⟨_,rfl⟩
 have hasc : ∀ (j : Nat) b,stops.data.toList[j]? = some b → b.toNat < 128:=by
  intro j b hb
  match j,hb with
  | 0,hb => cases hb; decide
  | 1,hb => cases hb; decide
  | j + 2,hb => simp [stops] at hb
 have Hset:=kept (Tryz.strings_makeASCIISet hz.1 stops w (by decide) hasc)
 obtain ⟨W,hW⟩ : ∃ W,(w.alloc (.cells cells 331)).alloc (.cells cells 331) = W:=⟨_,rfl⟩
 have hbel : Below w.heap.size w W:=by
  rw [← hW]
  exact ((Below.refl _ _).alloc (Nat.le_refl _) _).alloc (((Below.refl w.heap.size w).alloc (Nat.le_refl _) (.cells cells 331)).size) _
 have hcell : ∀ x : UInt8,W.cell? ⟨w.heap.size + 1,x.toNat,none⟩ = some (.bool (stops.data.toList.contains x)):=fun x => by
  rw [← hW,World.cell?_alloc_at _ _ _ _ (by simp),← hcells,Lib.setCells_at]
 have hst : (storeCells ⟨w.heap.size + 1,0,none⟩ cells.toList 0).run Tryz.prog ((w.alloc (.cells cells 331)).alloc (.cells (Array.replicate 256 (.bool false)) 331)) = .ok () W:=by
  have:=run_storeCells_new (P:=Tryz.prog) (w.alloc (.cells cells 331)) 331 (Array.replicate 256 (.bool false)) cells (by rw [← hcells,Lib.setCells_size]; exact hz.2) (by rw [← hcells,Lib.setCells_size,Array.size_replicate]) (by rw [← hcells]; exact Lib.setCells_one _)
  rw [hW] at this
  simpa using this
 have hemp : stops.toList.isEmpty = false:=by rw [Lib.toList_data]; rfl
 have hn1 : ((stops.size : Int) == 1) = false:=rfl
 have h8z : decide ((8 : Int) < (s.size : Int)) = true:=decide_eq_true (by omega)
 have HC:=kept hcell
 have HB:=kept hbel
 clear hcell hbel
 rw [hcells] at Hset
 go_enter Tryz.func284,Tryz.ntmps284
 go_wp2_with fail
 (with_reducible refine (Tryz.strings_shouldUseASCIISet _ _).mono ?_); rintro e w1 ⟨rfl,rfl⟩
 rw [h8z]
 go_wp2_with fail
 (with_reducible refine Hset.out.mono ?_); rintro e w1 ⟨rfl,rfl⟩
 have hcsz : cells.size = 256:=by rw [← hcells]; exact Lib.setCells_size _
 have e0 : Tryz.zeroCells331 = Array.replicate 256 (.bool false):=by kernel_rfl
 go_wp2
 go_loopg [8] s.size (fun g s8 wx => ∃ i : Nat,i + g = s.size ∧ s8 = .int .i64 i ∧ wx = W ∧ Lib.NoAny s.data.toList stops.data.toList i)
 case atStart => exact ⟨0,by omega,rfl,rfl,Lib.NoAny.zero _ _⟩
 case round =>
  obtain ⟨i,hig,rfl,rfl,hno⟩:=hrel
  have HN:=kept hno
  clear hno
  cases gk with
  | zero =>
   obtain rfl : i = s.size:=by omega
   have hiz : ¬ ((s.size : Int) < (s.size : Int)):=by omega
   go_wp2
   go_ret
   exact ⟨by rw [Lib.indexAny_none (by rw [← Lib.size_eq]; exact HN.out)]; rfl,HB.out⟩
  | succ g =>
   have hi : i < s.size:=by omega
   have hiz : (i : Int) < (s.size : Int):=by omega
   have hw : IntKind.i64.wrap ((i : Int) + 1) = (i : Int) + 1:=Go.IntWalk.i64_in _ ⟨by omega,by omega⟩
   obtain ⟨x,hx⟩ : ∃ x : UInt8,s[i]'hi = x:=⟨_,rfl⟩
   have hxl : s.data.toList[i]? = some x:=by rw [← hx]; exact Lib.data_getElem? s i hi
   have Hxl:=kept hxl
   clear hxl
   have hcx:=HC.out x
   cases hin : stops.data.toList.contains x <;> rw [hin] at hcx
   ·go_wp2_with fail
    (with_reducible refine (Tryz.asciiSet_contains _ x _ _ hcx).mono ?_); rintro e w2 ⟨rfl,rfl⟩
    go_wp2
    go_roundg g
    case measure => omega
    case rel => exact ⟨i + 1,by omega,by first | rfl | simp,rfl,HN.out.succ Hxl.out hin⟩
   ·go_wp2_with fail
    (with_reducible refine (Tryz.asciiSet_contains _ x _ _ hcx).mono ?_); rintro e w2 ⟨rfl,rfl⟩
    go_wp2
    go_ret
    exact ⟨by rw [Lib.indexAny_hit HN.out Hxl.out hin]; rfl,HB.out⟩
theorem indexAny_any (s : ByteArray) (hs : s.size ≤ 9223372036854775807) (w : World) : Calls Tryz.prog 284 #[.string s,.string stops] w fun e w' => e = .returned (.int .i64 (Lib.indexAny s.data.toList stops.data.toList)) ∧ Below w.heap.size w w':=by
 by_cases h8 : s.size ≤ 8
 ·exact indexAny_short s w h8
 ·exact indexAny_long s (by omega) hs w
end Go.Proofs.YteklhoajalgehaaGreatDoor

namespace Go.Proofs.YteklhoajalgehaaGreatDoor
open Go.RowKit
namespace Adr
def first (k : Nat) (c : UInt8) : Bool:=if k = 0 then letter c else wordB c
def idOk (j : Nat) (s : List UInt8) : Prop:=∀ k,k < j → first k (s.getD k 0) = true
theorem wordB_of_letter {c : UInt8} (h : letter c = true) : wordB c = true:=by unfold wordB; rw [h]; rfl
theorem ident_fail {s : List UInt8} {j : Nat} (hj : j < s.length) (h : first j (s.getD j 0) = false) : ident s = false:=by
 unfold ident
 unfold first at h
 split at h
 ·next e =>
  subst e
  rw [h]; simp
 ·have : s.all wordB = false:=by
   rw [List.all_eq_false]
   refine ⟨s[j],List.getElem_mem hj,?_⟩
   have e : s.getD j 0 = s[j]:=by simp [List.getD,hj]
   rw [e] at h; rw [h]; decide
  simp [this]
theorem ident_end {s : List UInt8} (h : idOk s.length s) : ident s = (s != [] && decide (s.length ≤ 64)):=by
 unfold ident
 cases s with
 | nil => rfl
 | cons c t =>
  have h0 : letter ((c :: t).getD 0 0) = true:=by
   have:=h 0 (by simp)
   unfold first at this
   rwa [if_pos rfl] at this
  have h1 : (c :: t).all wordB = true:=by
   rw [List.all_eq_true]
   intro x hx
   obtain ⟨j,hj,rfl⟩:=List.getElem_of_mem hx
   have:=h j hj
   have e : (c :: t).getD j 0 = (c :: t)[j]:=by rw [List.getD_eq_getElem?_getD,List.getElem?_eq_getElem hj]; rfl
   unfold first at this
   rw [e] at this
   split at this
   ·exact wordB_of_letter this
   ·exact this
  rw [h0,h1]
  simp
set_option maxRecDepth 100000 in
theorem or_letter : ∀ n : Fin 256,letter (UInt8.ofNat n.val) = !((((n.val : Nat) : Int) != 95) && (decide (bits .or .u8 ((n.val : Nat) : Int) 32 < 97) || decide (bits .or .u8 ((n.val : Nat) : Int) 32 > 122))):=by decide +kernel
theorem letter_or (c : UInt8) : letter c = !(((c.toNat : Int) != 95) && (decide (bits .or .u8 (c.toNat : Int) 32 < 97) || decide (bits .or .u8 (c.toNat : Int) 32 > 122))):=by
 have:=or_letter ⟨c.toNat,c.toNat_lt⟩
 simpa using this
end Adr
namespace AX
theorem a_ident (s : List UInt8) (hl : s.length ≤ 2000000) (h : Hp) : ACall Tryz.prog GT 184 [.str s] h fun r h' => r = .bool (Adr.ident s) ∧ h' = h:=by
 refine pcall ?_ rfl (by simp [A.pure,A.data]) h
 refine fo ?_
 refine run0 ti ?_
 refine awp_loop (fun mm ts h => ∃ (j : Nat),mm = s.length - j ∧ j ≤ s.length ∧ h = ⟨[],[]⟩ ∧ Adr.idOk j s ∧ ts 0 = .str s ∧ ts 6 = .int .i64 (s.length : Nat) ∧ ts 7 = .int .i64 (j : Nat)) s.length ?_ ?_
 ·exact ⟨0,by omega,by omega,rfl,fun k hk => absurd hk (Nat.not_lt_zero k),by (exact ev0 ti),by (exact ev0 ti),by (exact inv0 ti)⟩
 rintro mm ts h ⟨j,rfl,hjc,rfl,hok,t0,t6,t7⟩
 by_cases hj : j < s.length
 ·have hlt : (j : Int) < (s.length : Int):=by omega
  have hj0 : (0 : Int) ≤ (j : Int):=by omega
  have ei : IntKind.i64.wrap ((j : Int) + 1) = ((j + 1 : Nat) : Int):=by rw [wrap64 (by omega) (by omega)]; omega
  obtain ⟨c,hc⟩ : ∃ c,s.getD j 0 = c:=⟨_,rfl⟩
  have hfl : Adr.letter c = false → j = 0 ∨ Adr.wordB c = false → Adr.ident s = false:=fun h1 h2 => Adr.ident_fail hj (by
   rw [hc]; unfold Adr.first
   rcases h2 with h2 | h2
   ·rw [if_pos h2]; exact h1
   ·split
    ·exact h1
    ·exact h2)
  have hgo : Adr.first j c = true → Adr.idOk (j + 1) s:=fun h1 k hk => by
   by_cases e : k = j
   ·rw [e,hc]; exact h1
   ·exact hok k (by omega)
  have hlo:=Adr.letter_or c
  have hdg:=Num.digB_int c
  have hwb : Adr.wordB c = (Adr.letter c || Num.digB c):=rfl
  obtain ⟨x,hx⟩ : ∃ x : Int,(c.toNat : Int) = x:=⟨_,rfl⟩
  rw [hx] at hlo hdg
  obtain ⟨y,hy⟩ : ∃ y : Int,bits .or .u8 x 32 = y:=⟨_,rfl⟩
  rw [hy] at hlo
  have next : Adr.first j c = true → ∃ m',m' < s.length - j ∧ ∃ (j' : Nat),m' = s.length - j' ∧ j' ≤ s.length ∧ Adr.idOk j' s ∧ j' = j + 1:=fun h1 => ⟨s.length - (j + 1),by omega,j + 1,rfl,by omega,hgo h1,rfl⟩
  by_cases h95 : x = 95
  ·have e1 : (x != 95) = false:=by simp [h95]
   have hL : Adr.letter c = true:=by rw [hlo,e1]; rfl
   refine run0 (ai t0 (ai t6 (ai t7 (ai hlt (ai hj0 (ai hc (ai hx (ai hy (ai e1 ei))))))))) ?_
   exact ⟨s.length - (j + 1),by omega,j + 1,rfl,by omega,rfl,hgo (by unfold Adr.first; split; exact hL; rw [hwb,hL]; rfl),by (exact ev0 t0),by (exact ev0 t6),by (exact ev0 ei)⟩
  have e1 : (x != 95) = true:=by simp [h95]
  by_cases h97 : y < 97 ∨ y > 122
  rotate_left
  ·have e2 : ¬ y < 97:=by omega
   have e3 : ¬ y > 122:=by omega
   have hL : Adr.letter c = true:=by rw [hlo,e1,decide_eq_false e2,decide_eq_false e3]; rfl
   refine run0 (ai t0 (ai t6 (ai t7 (ai hlt (ai hj0 (ai hc (ai hx (ai hy (ai e1 (ai e2 (ai e3 ei))))))))))) ?_
   exact ⟨s.length - (j + 1),by omega,j + 1,rfl,by omega,rfl,hgo (by unfold Adr.first; split; exact hL; rw [hwb,hL]; rfl),by (exact ev0 t0),by (exact ev0 t6),by (exact ev0 ei)⟩
  have hL : Adr.letter c = false:=by
   rw [hlo,e1]
   rcases h97 with h97 | h97
   ·rw [decide_eq_true h97]; rfl
   ·rw [decide_eq_true h97,Bool.or_true]; rfl
  have fail : (j = 0 ∨ Adr.wordB c = false) → Adr.ident s = false:=hfl hL
  have e23 : y < 97 ∨ (¬ y < 97 ∧ y > 122):=by omega
  by_cases hz : j = 0
  ·have e4 : ((j : Int) == 0) = true:=by simp [hz]
   have hF:=fail (.inl hz)
   rcases e23 with e2 | ⟨e2,e3⟩
   ·refine run0 (ai t0 (ai t6 (ai t7 (ai hlt (ai hj0 (ai hc (ai hx (ai hy (ai e1 (ai e2 e4)))))))))) ?_
    exact ⟨_,le_refl _,by rw [hF]; rfl⟩
   ·refine run0 (ai t0 (ai t6 (ai t7 (ai hlt (ai hj0 (ai hc (ai hx (ai hy (ai e1 (ai e2 (ai e3 e4))))))))))) ?_
    exact ⟨_,le_refl _,by rw [hF]; rfl⟩
  have e4 : ((j : Int) == 0) = false:=by simp; omega
  by_cases hd : 48 ≤ x ∧ x ≤ 57
  ·have e5 : ¬ x < 48:=by omega
   have e6 : ¬ x > 57:=by omega
   have hW : Adr.wordB c = true:=by rw [hwb,hdg,decide_eq_true hd.1,decide_eq_true hd.2,hL]; rfl
   have hfst : Adr.first j c = true:=by unfold Adr.first; rw [if_neg hz]; exact hW
   rcases e23 with e2 | ⟨e2,e3⟩
   ·refine run0 (ai t0 (ai t6 (ai t7 (ai hlt (ai hj0 (ai hc (ai hx (ai hy (ai e1 (ai e2 (ai e4 (ai e5 (ai e6 ei))))))))))))) ?_
    exact ⟨s.length - (j + 1),by omega,j + 1,rfl,by omega,rfl,hgo hfst,by (exact ev0 t0),by (exact ev0 t6),by (exact ev0 ei)⟩
   ·refine run0 (ai t0 (ai t6 (ai t7 (ai hlt (ai hj0 (ai hc (ai hx (ai hy (ai e1 (ai e2 (ai e3 (ai e4 (ai e5 (ai e6 ei)))))))))))))) ?_
    exact ⟨s.length - (j + 1),by omega,j + 1,rfl,by omega,rfl,hgo hfst,by (exact ev0 t0),by (exact ev0 t6),by (exact ev0 ei)⟩
  ·have hD : Num.digB c = false:=by
    rw [hdg]
    by_cases a : 48 ≤ x
    ·rw [decide_eq_true a,decide_eq_false (by omega)]; rfl
    ·rw [decide_eq_false a]; rfl
   have hF:=fail (.inr (by rw [hwb,hL,hD]; rfl))
   have e56 : x < 48 ∨ (¬ x < 48 ∧ x > 57):=by omega
   rcases e23 with e2 | ⟨e2,e3⟩
   ·rcases e56 with e5 | ⟨e5,e6⟩
    ·refine run0 (ai t0 (ai t6 (ai t7 (ai hlt (ai hj0 (ai hc (ai hx (ai hy (ai e1 (ai e2 (ai e4 e5))))))))))) ?_
     exact ⟨_,le_refl _,by rw [hF]; rfl⟩
    ·refine run0 (ai t0 (ai t6 (ai t7 (ai hlt (ai hj0 (ai hc (ai hx (ai hy (ai e1 (ai e2 (ai e4 (ai e5 e6)))))))))))) ?_
     exact ⟨_,le_refl _,by rw [hF]; rfl⟩
   ·rcases e56 with e5 | ⟨e5,e6⟩
    ·refine run0 (ai t0 (ai t6 (ai t7 (ai hlt (ai hj0 (ai hc (ai hx (ai hy (ai e1 (ai e2 (ai e3 (ai e4 e5)))))))))))) ?_
     exact ⟨_,le_refl _,by rw [hF]; rfl⟩
    ·refine run0 (ai t0 (ai t6 (ai t7 (ai hlt (ai hj0 (ai hc (ai hx (ai hy (ai e1 (ai e2 (ai e3 (ai e4 (ai e5 e6))))))))))))) ?_
     exact ⟨_,le_refl _,by rw [hF]; rfl⟩
 ·have hlt : ¬ ((j : Int) < (s.length : Int)):=by omega
  have hje : j = s.length:=by omega
  rw [hje] at hok
  have hE:=Adr.ident_end hok
  by_cases hn : s = []
  ·have e1 : (s != []) = false:=by simp [hn]
   rw [e1] at hE
   refine run0 (ai t0 (ai t6 (ai t7 (ai hlt e1)))) ?_
   exact ⟨_,le_refl _,by rw [hE]; rfl⟩
  ·have e1 : (s != []) = true:=by simp [hn]
   rw [e1] at hE
   have e2 : decide ((s.length : Int) ≤ 64) = decide (s.length ≤ 64):=decide_eq_decide.2 (by omega)
   refine run0 (ai t0 (ai t6 (ai t7 (ai hlt e1)))) ?_
   exact ⟨_,le_refl _,by rw [hE]; first | rfl | (rw [tupA_1,e2]; rfl) | rw [← e2]; rfl⟩
theorem a_lcutp (s p : List UInt8) (h : Hp) : ACall Tryz.prog GT 310 [.str s,.str p] h fun r h' => r = .tup [.str (if Adr.begins s p then s.drop p.length else s),.bool (Adr.begins s p)] ∧ h' = h:=by
 refine pcall ?_ rfl (by simp [A.pure,A.data]) h
 refine fo ?_
 have hp : (decide (p.length ≤ s.length) && s.take p.length == p) = Adr.begins s p:=by
  unfold Adr.begins
  rw [Bool.eq_iff_iff,List.isPrefixOf_iff_prefix,List.prefix_iff_eq_take,Bool.and_eq_true,decide_eq_true_eq,beq_iff_eq]
  constructor
  ·rintro ⟨h1,h2⟩; exact h2.symm
  ·intro h2
   exact ⟨by have:=congrArg List.length h2; rw [List.length_take] at this; omega,h2.symm⟩
 have hc:=fun h => a_liteHasPrefix s p h
 rw [hp] at hc
 refine run0 ti ?_
 refine use (hc _) ?_
 cases hB : Adr.begins s p
 ·refine run0 ti ?_
  exact ⟨_,le_refl _,rfl⟩
 ·have hle : (p.length : Int) ≤ (s.length : Int):=by have:=Adr.begins_len hB; omega
  have h0 : (0 : Int) ≤ (p.length : Int):=by omega
  refine run0 (ai hle h0) ?_
  refine ⟨_,le_refl _,?_⟩
  rw [if_pos rfl]
  first | rfl | (rw [tupA_2]; simp)
theorem a_cutp (s p : List UInt8) (h : Hp) : ACall Tryz.prog GT 283 [.str s,.str p] h fun r h' => r = .tup [.str (if Adr.begins s p then s.drop p.length else s),.bool (Adr.begins s p)] ∧ h' = h:=by
 refine pcall ?_ rfl (by simp [A.pure,A.data]) h
 refine fo ?_
 refine run0 ti ?_
 refine use (a_lcutp s p _) ?_
 refine run0 ti ?_
 exact ⟨_,le_refl _,rfl⟩
def adB (r : Adr.Rd) : Blk:=.cells 271 [.str r.rest,.bool r.bad]
theorem adB_loc (r : Adr.Rd) : (adB r).loc 0:=rfl
theorem w_has (p : List UInt8) (r : Adr.Rd) {h : Hp} {i : Nat} (hb : h.b[i]? = some (adB r)) :
  ACall Tryz.prog GT 236 [.ptr i 0,.str p] h fun v h' => v = .bool (Adr.hasP p r).1 ∧ h' = ⟨h.b.set i (adB (Adr.hasP p r).2),h.t⟩:=by
 have key : ACall Tryz.prog GT 236 [.ptr 0 0,.str p] ⟨[adB r],[]⟩ fun v h' => ∃ b',h'.b[0]? = some b' ∧ v = .bool (Adr.hasP p r).1 ∧ b' = adB (Adr.hasP p r).2:=by
  refine fo ?_
  unfold adB
  refine run0 ti ?_
  refine use (a_cutp r.rest p _) ?_
  unfold Adr.hasP
  cases hB : Adr.begins r.rest p
  ·refine run0 ti ?_
   exact ⟨_,le_refl _,_,rfl,rfl,rfl⟩
  ·refine run0 ti ?_
   exact ⟨_,le_refl _,_,rfl,rfl,rfl⟩
 refine (ACall.lift1 key rfl (adB_loc r) ?_ hb).mono ?_
 ·rintro v b' ⟨rfl,rfl⟩; exact ⟨rfl,adB_loc _⟩
 ·rintro v h' ⟨b',⟨rfl,rfl⟩,rfl⟩; exact ⟨rfl,rfl⟩
theorem w_skip (p : List UInt8) (r : Adr.Rd) {h : Hp} {i : Nat} (hb : h.b[i]? = some (adB r)) :
  ACall Tryz.prog GT 238 [.ptr i 0,.str p] h fun v h' => v = .tup [] ∧ h' = ⟨h.b.set i (adB (Adr.skipP p r)),h.t⟩:=by
 have key : ACall Tryz.prog GT 238 [.ptr 0 0,.str p] ⟨[adB r],[]⟩ fun v h' => ∃ b',h'.b[0]? = some b' ∧ v = .tup [] ∧ b' = adB (Adr.skipP p r):=by
  obtain ⟨rest,bad⟩:=r
  refine fo ?_
  unfold adB
  refine run0 ti ?_
  refine use (a_cutp rest p _) ?_
  unfold Adr.skipP
  dsimp only
  cases hB : Adr.begins rest p
  ·cases bad
   ·refine run0 ti ?_
    exact ⟨_,le_refl _,_,rfl,rfl,rfl⟩
   ·refine run0 ti ?_
    exact ⟨_,le_refl _,_,rfl,rfl,rfl⟩
  ·cases bad
   ·refine run0 ti ?_
    exact ⟨_,le_refl _,_,rfl,rfl,rfl⟩
   ·refine run0 ti ?_
    exact ⟨_,le_refl _,_,rfl,rfl,rfl⟩
 refine (ACall.lift1 key rfl (adB_loc r) ?_ hb).mono ?_
 ·rintro v b' ⟨rfl,rfl⟩; exact ⟨rfl,adB_loc _⟩
 ·rintro v h' ⟨b',⟨rfl,rfl⟩,rfl⟩; exact ⟨rfl,rfl⟩
end AX
end Go.Proofs.YteklhoajalgehaaGreatDoor

namespace Go.Proofs.YteklhoajalgehaaGreatDoor
open Go.RowKit
open Go.Op (bytesLess)
namespace Adr
theorem indexAny_word : ∀ s : List UInt8,(Lib.indexAny s [46,91] = -1 ∧ s.takeWhile (fun c => !stopB c) = s ∧ s.dropWhile (fun c => !stopB c) = []) ∨
  ∃ n : Nat,Lib.indexAny s [46,91] = n ∧ n ≤ s.length ∧ s.takeWhile (fun c => !stopB c) = s.take n ∧ s.dropWhile (fun c => !stopB c) = s.drop n
 | [] => .inl ⟨rfl,rfl,rfl⟩
 | c :: s => by
  have hc : ([46,91] : List UInt8).contains c = stopB c:=by
   unfold stopB
   simp
   rfl
  unfold Lib.indexAny
  rw [hc]
  cases h : stopB c
  ·rcases indexAny_word s with ⟨h1,h2,h3⟩ | ⟨n,h1,h2,h3,h4⟩
   ·refine .inl ⟨by rw [h1]; rfl,?_,?_⟩
    ·rw [List.takeWhile_cons_of_pos (by simp [h]),h2]
    ·rw [List.dropWhile_cons_of_pos (by simp [h]),h3]
   ·refine .inr ⟨n + 1,?_,by simpa using h2,?_,?_⟩
    ·rw [h1]
     have e : ((n : Int) == -1) = false:=by simp <;> omega
     simp only [Bool.false_eq_true,if_false,e]
     omega
    ·rw [List.takeWhile_cons_of_pos (by simp [h]),h3,List.take_succ_cons]
    ·rw [List.dropWhile_cons_of_pos (by simp [h]),h4,List.drop_succ_cons]
  ·refine .inr ⟨0,rfl,Nat.zero_le _,?_,?_⟩
   ·rw [List.takeWhile_cons_of_neg (by simp [h])]; rfl
   ·rw [List.dropWhile_cons_of_neg (by simp [h])]; rfl
theorem indexByte_key : ∀ s : List UInt8,(s.all (· != 93) = true ∧ Lib.indexByte s 93 = -1) ∨ (s.all (· != 93) = false ∧ Lib.indexByte s 93 = ((s.takeWhile (· != 93)).length : Nat) ∧ (s.takeWhile (· != 93)).length ≤ s.length)
 | [] => .inl ⟨rfl,rfl⟩
 | c :: s => by
  unfold Lib.indexByte
  by_cases h : c = 93
  ·subst h
   refine .inr ⟨by simp,?_,Nat.le_of_lt_succ (by simp)⟩
   simp
  ·have hb : (c == 93) = false:=by simp [h]
   have hn : (c != 93) = true:=by simp [h]
   rcases indexByte_key s with ⟨h1,h2⟩ | ⟨h1,h2,h3⟩
   ·refine .inl ⟨by rw [List.all_cons,hn,h1]; rfl,?_⟩
    simp [hb,h,h2]
   ·refine .inr ⟨by rw [List.all_cons,h1,Bool.and_false],?_,?_⟩
    ·simp only [List.takeWhile_cons,hn,if_true,List.length_cons,hb,Bool.false_eq_true,if_false,h2]
     have e : (((s.takeWhile (· != 93)).length : Nat) : Int) == -1 ↔ False:=by simp <;> omega
     rw [if_neg (by rw [e]; exact id)]
     omega
    ·simp only [List.takeWhile_cons,hn,if_true,List.length_cons]
     omega
theorem cmp_bytes : ∀ a b : List UInt8,Lib.compareBytes a b = AX.cmpZ a b
 | [],[] => rfl
 | [],_ :: _ => rfl
 | _ :: _,[] => rfl
 | a :: a1,b :: b1 => by
  have ih:=cmp_bytes a1 b1
  unfold AX.cmpZ at ih ⊢
  unfold Lib.compareBytes bytesLess
  by_cases h1 : a < b
  ·have hne : a ≠ b:=by intro e; subst e; exact absurd h1 (by simp)
   simp [h1,hne]
  ·by_cases h2 : b < a
   ·have hne : a ≠ b:=by intro e; subst e; exact absurd h2 (by simp)
    simp [h1,h2,hne]
   ·have he : a = b:=by
     have h3 : ¬ a.toNat < b.toNat:=h1
     have h4 : ¬ b.toNat < a.toNat:=h2
     exact UInt8.toNat_inj.1 (by omega)
    subst he
    rw [if_neg h1,if_neg h2,ih]
    simp
end Adr
namespace AX
theorem a_cmp (a b : List UInt8) (h : Hp) : ACall Tryz.prog GT 182 [.str a,.str b] h fun r h' => r = .int .i64 (cmpZ a b) ∧ h' = h:=by
 rw [← Adr.cmp_bytes]
 exact acall_imp (args2 r_str r_str) (fun w hg => (Tryz.strings_Compare ⟨a.toArray⟩ ⟨b.toArray⟩ w).mono fun e w' ⟨h1,h2⟩ => ⟨h1,by rw [h2]; exact Below.refl _ _⟩) (fun C => rep_int.2 rfl) h
theorem a_indexAny (s : List UInt8) (hs : s.length ≤ 2000000) (h : Hp) : ACall Tryz.prog GT 284 [.str s,.str [46,91]] h fun r h' => r = .int .i64 (Lib.indexAny s [46,91]) ∧ h' = h:=
 acall_imp (args2 r_str r_str) (fun w hg => indexAny_any ⟨s.toArray⟩ (by rw [size_mk]; omega) w) (fun C => rep_int.2 rfl) h
theorem a_indexByte (s : List UInt8) (h : Hp) : ACall Tryz.prog GT 287 [.str s,.int .u8 93] h fun r h' => r = .int .i64 (Lib.indexByte s 93) ∧ h' = h:=
 acall_imp (args2 r_str r_int) (fun w hg => (Tryz.strings_IndexByte ⟨s.toArray⟩ 93 w).mono fun e w' ⟨h1,h2⟩ => ⟨h1,by rw [h2]; exact Below.refl _ _⟩) (fun C => rep_int.2 rfl) h
theorem a_kind (s : List UInt8) (hs : s.length ≤ 2000000) (h : Hp) : ACall Tryz.prog GT 241 [.str s] h fun r h' => r = .bool (Adr.kindB s) ∧ h' = h:=by
 refine pcall ?_ rfl (by simp [A.pure,A.data]) h
 refine fo ?_
 have hi:=fun h => a_ident s hs h
 have hk : Adr.kindB s = (!Adr.reserved s && Adr.ident s):=rfl
 have hr : ∀ {G : Prop} (w : List UInt8),((s == w) = true → G) → ((s == w) = false → G) → G:=fun w p q => by
  cases e : s == w
  ·exact q e
  ·exact p e
 have res : ∀ w,(s == w) = true → w ∈ Adr.reservedL → Adr.kindB s = false:=fun w e hw => by
  rw [beq_iff_eq] at e; subst e
  rw [hk]
  unfold Adr.reserved
  rw [List.contains_iff_mem.2 hw]; rfl
 refine hr [109,111,100,117,108,101] (fun e1 => ?_) fun e1 => ?_
 ·refine run0 e1 ?_
  exact ⟨_,le_refl _,by rw [res _ e1 (by decide)]; rfl⟩
 refine hr [100,97,116,97] (fun e2 => ?_) fun e2 => ?_
 ·refine run0 (ai e1 e2) ?_
  exact ⟨_,le_refl _,by rw [res _ e2 (by decide)]; rfl⟩
 refine hr [118,97,114] (fun e3 => ?_) fun e3 => ?_
 ·refine run0 (ai e1 (ai e2 e3)) ?_
  exact ⟨_,le_refl _,by rw [res _ e3 (by decide)]; rfl⟩
 refine hr [108,111,99,97,108] (fun e4 => ?_) fun e4 => ?_
 ·refine run0 (ai e1 (ai e2 (ai e3 e4))) ?_
  exact ⟨_,le_refl _,by rw [res _ e4 (by decide)]; rfl⟩
 refine hr [101,97,99,104] (fun e5 => ?_) fun e5 => ?_
 ·refine run0 (ai e1 (ai e2 (ai e3 (ai e4 e5)))) ?_
  exact ⟨_,le_refl _,by rw [res _ e5 (by decide)]; rfl⟩
 refine hr [99,111,117,110,116] (fun e6 => ?_) fun e6 => ?_
 ·refine run0 (ai e1 (ai e2 (ai e3 (ai e4 (ai e5 e6))))) ?_
  exact ⟨_,le_refl _,by rw [res _ e6 (by decide)]; rfl⟩
 refine hr [114,101,109,111,116,101] (fun e7 => ?_) fun e7 => ?_
 ·refine run0 (ai e1 (ai e2 (ai e3 (ai e4 (ai e5 (ai e6 e7)))))) ?_
  exact ⟨_,le_refl _,by rw [res _ e7 (by decide)]; rfl⟩
 refine hr [111,117,116,112,117,116] (fun e8 => ?_) fun e8 => ?_
 ·refine run0 (ai e1 (ai e2 (ai e3 (ai e4 (ai e5 (ai e6 (ai e7 e8))))))) ?_
  exact ⟨_,le_refl _,by rw [res _ e8 (by decide)]; rfl⟩
 refine hr [112,97,116,104] (fun e9 => ?_) fun e9 => ?_
 ·refine run0 (ai e1 (ai e2 (ai e3 (ai e4 (ai e5 (ai e6 (ai e7 (ai e8 e9)))))))) ?_
  exact ⟨_,le_refl _,by rw [res _ e9 (by decide)]; rfl⟩
 refine hr [115,101,108,102] (fun e10 => ?_) fun e10 => ?_
 ·refine run0 (ai e1 (ai e2 (ai e3 (ai e4 (ai e5 (ai e6 (ai e7 (ai e8 (ai e9 e10))))))))) ?_
  exact ⟨_,le_refl _,by rw [res _ e10 (by decide)]; rfl⟩
 refine hr [99,104,97,110,103,101] (fun e11 => ?_) fun e11 => ?_
 ·refine run0 (ai e1 (ai e2 (ai e3 (ai e4 (ai e5 (ai e6 (ai e7 (ai e8 (ai e9 (ai e10 e11)))))))))) ?_
  exact ⟨_,le_refl _,by rw [res _ e11 (by decide)]; rfl⟩
 have hres : Adr.reserved s = false:=by
  have h1:=beq_eq_false_iff_ne.1 e1; have h2:=beq_eq_false_iff_ne.1 e2; have h3:=beq_eq_false_iff_ne.1 e3; have h4:=beq_eq_false_iff_ne.1 e4
  have h5:=beq_eq_false_iff_ne.1 e5; have h6:=beq_eq_false_iff_ne.1 e6; have h7:=beq_eq_false_iff_ne.1 e7; have h8:=beq_eq_false_iff_ne.1 e8
  have h9:=beq_eq_false_iff_ne.1 e9; have h10:=beq_eq_false_iff_ne.1 e10; have h11:=beq_eq_false_iff_ne.1 e11
  unfold Adr.reserved
  rw [Bool.eq_false_iff]
  intro hc
  rw [List.contains_iff_mem] at hc
  unfold Adr.reservedL at hc
  simp only [List.mem_cons,List.not_mem_nil,or_false] at hc
  rcases hc with e | e | e | e | e | e | e | e | e | e | e <;> simp_all
 rw [hk,hres]
 refine run0 (ai e1 (ai e2 (ai e3 (ai e4 (ai e5 (ai e6 (ai e7 (ai e8 (ai e9 (ai e10 e11)))))))))) ?_
 refine use (hi _) ?_
 refine run0 ti ?_
 exact ⟨_,le_refl _,by simp [tupA_1]⟩
theorem w_word (r : Adr.Rd) (hl : r.rest.length ≤ 2000000) {h : Hp} {i : Nat} (hb : h.b[i]? = some (adB r)) :
  ACall Tryz.prog GT 239 [.ptr i 0] h fun v h' => v = .str (Adr.wordP r).1 ∧ h' = ⟨h.b.set i (adB (Adr.wordP r).2),h.t⟩:=by
 have key : ACall Tryz.prog GT 239 [.ptr 0 0] ⟨[adB r],[]⟩ fun v h' => ∃ b',h'.b[0]? = some b' ∧ v = .str (Adr.wordP r).1 ∧ b' = adB (Adr.wordP r).2:=by
  obtain ⟨rest,bad⟩:=r
  dsimp only at hl
  refine fo ?_
  unfold adB
  have hW : Adr.wordP ⟨rest,bad⟩ = (rest.takeWhile (fun c => !Adr.stopB c),⟨rest.dropWhile (fun c => !Adr.stopB c),bad || !Adr.ident (rest.takeWhile (fun c => !Adr.stopB c))⟩):=rfl
  rw [hW]
  have hi:=fun (s : List UInt8) (hs : s.length ≤ 2000000) h => a_ident s hs h
  refine run0 ti ?_
  refine use (a_indexAny rest hl _) ?_
  rcases Adr.indexAny_word rest with ⟨h1,h2,h3⟩ | ⟨n,h1,h2,h3,h4⟩
  ·rw [h1,h2,h3]
   have lm : (-1 : Int) < 0:=by decide
   have l0 : (0 : Int) ≤ (rest.length : Int):=by omega
   have td : rest.drop rest.length = []:=List.drop_length
   cases bad
   ·refine run0 (ai lm (ai l0 td)) ?_
    refine use (hi rest hl _) ?_
    refine run0 ti ?_
    exact ⟨_,le_refl _,_,rfl,rfl,rfl⟩
   ·refine run0 (ai lm (ai l0 td)) ?_
    exact ⟨_,le_refl _,_,rfl,rfl,rfl⟩
  ·rw [h1,h3,h4]
   have lm : ¬ (n : Int) < 0:=by omega
   have l0 : (0 : Int) ≤ (n : Int):=by omega
   have l1 : (n : Int) ≤ (rest.length : Int):=by omega
   have ht : (rest.take n).length ≤ 2000000:=by rw [List.length_take]; omega
   cases bad
   ·refine run0 (ai lm (ai l0 l1)) ?_
    refine use (hi _ ht _) ?_
    refine run0 ti ?_
    exact ⟨_,le_refl _,_,rfl,rfl,rfl⟩
   ·refine run0 (ai lm (ai l0 l1)) ?_
    exact ⟨_,le_refl _,_,rfl,rfl,rfl⟩
 refine (ACall.lift1 key rfl (adB_loc r) ?_ hb).mono ?_
 ·rintro v b' ⟨rfl,rfl⟩; exact ⟨rfl,adB_loc _⟩
 ·rintro v h' ⟨b',⟨rfl,rfl⟩,rfl⟩; exact ⟨rfl,rfl⟩
def Adr.K.A (k : Adr.K) : A:=.agg [.int .i64 k.kind,.int .i64 k.num,.str k.str]
theorem a_avalid (k : Adr.K) (hs : k.str.length ≤ 2000000) (h : Hp) : ACall Tryz.prog GT 335 [Adr.K.A k] h fun r h' => r = .bool (Adr.keyOk k) ∧ h' = h:=by
 obtain ⟨kd,nm,st⟩:=k
 dsimp only at hs
 unfold Adr.K.A
 refine pcall ?_ rfl (by simp [A.pure,A.data]) h
 refine fo ?_
 have hv:=fun h => a_valid st hs h
 have hK : Adr.keyOk ⟨kd,nm,st⟩ = if kd = 1 then decide (0 ≤ nm) && decide (nm ≤ 9007199254740992) && st == [] else if kd = 2 then nm == 0 && Str.valid st else (⟨kd,nm,st⟩ : Adr.K) == Adr.K.none:=rfl
 rw [hK]
 by_cases k0 : kd = 0
 ·subst k0
  have e0 : ((0 : Int) == 0) = true:=by decide
  rw [if_neg (by decide),if_neg (by decide)]
  have hn : ((⟨0,nm,st⟩ : Adr.K) == Adr.K.none) = (nm == 0 && st == []):=by
   rw [Bool.eq_iff_iff,beq_iff_eq,Bool.and_eq_true,beq_iff_eq,beq_iff_eq]
   unfold Adr.K.none
   simp
  refine run0 e0 ?_
  exact ⟨_,le_refl _,by rw [hn]; simp [tupA_1]⟩
 have e0 : (kd == 0) = false:=by simp [k0]
 by_cases k1 : kd = 1
 ·subst k1
  have e1 : ((1 : Int) == 1) = true:=by decide
  have e10 : ((1 : Int) == 0) = false:=by decide
  rw [if_pos rfl]
  by_cases n0 : 0 ≤ nm
  ·have g0 : nm ≥ 0:=n0
   by_cases n1 : nm ≤ 9007199254740992
   ·refine run0 (ai e10 (ai e1 (ai g0 n1))) ?_
    exact ⟨_,le_refl _,by rw [decide_eq_true n0,decide_eq_true n1]; rfl⟩
   ·refine run0 (ai e10 (ai e1 (ai g0 n1))) ?_
    exact ⟨_,le_refl _,by rw [decide_eq_false n1,Bool.and_false]; rfl⟩
  ·have g0 : ¬ nm ≥ 0:=n0
   refine run0 (ai e10 (ai e1 g0)) ?_
   exact ⟨_,le_refl _,by rw [decide_eq_false n0]; rfl⟩
 have e1 : (kd == 1) = false:=by simp [k1]
 rw [if_neg k1]
 by_cases k2 : kd = 2
 ·subst k2
  have e20 : ((2 : Int) == 0) = false:=by decide
  have e21 : ((2 : Int) == 1) = false:=by decide
  have e2 : ((2 : Int) == 2) = true:=by decide
  rw [if_pos rfl]
  cases hn : nm == 0
  ·refine run0 (ai e20 (ai e21 (ai e2 hn))) ?_
   exact ⟨_,le_refl _,rfl⟩
  ·refine run0 (ai e20 (ai e21 (ai e2 hn))) ?_
   refine use (hv _) ?_
   refine run0 (ai e20 (ai e21 (ai e2 hn))) ?_
   exact ⟨_,le_refl _,rfl⟩
 have e2 : (kd == 2) = false:=by simp [k2]
 rw [if_neg k2]
 have hn : ((⟨kd,nm,st⟩ : Adr.K) == Adr.K.none) = false:=by
  rw [beq_eq_false_iff_ne]
  unfold Adr.K.none
  intro e; injection e with e _ _; exact k0 e
 rw [hn]
 refine run0 (ai e0 (ai e1 e2)) ?_
 exact ⟨_,le_refl _,rfl⟩
end AX
end Go.Proofs.YteklhoajalgehaaGreatDoor

namespace Go.Proofs.YteklhoajalgehaaGreatDoor
open Go.RowKit
namespace Str
theorem one_width (l : List UInt8) (hl : l ≠ []) (h : (one l).2.2 = 0) : (one l).2.1 ≤ l.length:=by
 have hp:=List.length_pos_iff.2 hl
 by_cases h92 : l.getD 0 0 = 92
 ·obtain ⟨⟨c,n,e⟩,he⟩ : ∃ x,escp (l.drop 1) = x:=⟨_,rfl⟩
  have h1:=one_esc l h92 c n e he
  rw [h1] at h ⊢
  by_cases h0 : e = 0
  ·rw [if_neg (by simp [h0])]
   have:=escp_len (l.drop 1) (by rw [he]; exact h0)
   rw [he,List.length_drop] at this
   dsimp only at this ⊢
   omega
  ·rw [if_pos h0] at h
   exact absurd h h0
 ·obtain ⟨⟨c,n⟩,hd⟩ : ∃ x,Lib.decodeL l = x:=⟨_,rfl⟩
  have hc : c ≠ 92:=by
   rcases dec_cases l with ⟨q1,q2⟩ | ⟨q1,q2⟩
   ·rw [hd] at q2
    injection q2 with q2 q3
    intro e
    apply h92
    rw [← UInt8.toNat_inj]
    have : (l.getD 0 0).toNat = 92:=by omega
    simpa using this
   ·rw [hd] at q2
    dsimp only at q2
    omega
  by_cases hbad : (c = 65533 ∧ n = 1) ∨ c < 32 ∨ c = 127
  ·rw [one_bad l c n hd hc hbad] at h
   simp at h
  ·rw [one_ok l hl c n hd hc hbad]
   have:=Lib.decodeL_le l hl
   rw [hd] at this
   exact this
theorem unq_width : ∀ (f : Nat) (l acc : List UInt8) (i N : Nat),i + l.length = N → (unq f l acc i).2.2 = 0 → (unq f l acc i).2.1 ≤ N
 | 0,l,acc,i,N,hN,h => by
  unfold unq at h ⊢
  simp at h ⊢
 | f + 1,l,acc,i,N,hN,h => by
  unfold unq at h ⊢
  split
  ·next h1 => rw [if_pos h1] at h; simp at h
  ·next h1 =>
   rw [if_neg h1] at h
   have hp:=List.length_pos_iff.2 h1
   split
   ·next h2 =>
    rw [if_pos h2] at h
    split
    ·exact Nat.zero_le _
    ·dsimp only; omega
   ·next h2 =>
    rw [if_neg h2] at h
    split
    ·exact Nat.zero_le _
    ·next h3 =>
     rw [if_neg h3] at h
     have:=one_width l h1 (by simpa using h3)
     exact unq_width f _ _ _ N (by rw [List.length_drop]; omega) h
theorem unquote_width (l : List UInt8) (h : (unquote l).2.2 = 0) : (unquote l).2.1 ≤ l.length:=by
 unfold unquote at h ⊢
 split
 ·exact Nat.zero_le _
 ·next h1 =>
  rw [if_neg h1] at h
  split
  ·exact Nat.zero_le _
  ·next h2 =>
   rw [if_neg h2] at h
   have hp:=List.length_pos_iff.2 h1
   exact unq_width _ _ _ _ l.length (by rw [List.length_drop]; omega) h
end Str
namespace AX
theorem glob_of {w : World} (g : GT w) : Glob w:=⟨g.tabs,g.tz⟩
theorem a_unquote (s : List UInt8) (hs : s.length ≤ 2000000) (h : Hp) : ACall Tryz.prog GT 285 [.str s] h fun r h' => r = .tup [.str (Str.unquote s).1,.int .i64 (Str.unquote s).2.1,.int .i64 (Str.unquote s).2.2] ∧ h' = h:=
 acall_imp (args1 r_str) (fun w hg => unquote_any ⟨s.toArray⟩ w (by rw [size_mk]; exact hs) (glob_of hg)) (fun C => rep_tup.2 ⟨_,rfl,repL_cons.2 ⟨_,_,rfl,rep_str.2 rfl,repL_cons.2 ⟨_,_,rfl,rep_int.2 rfl,repL_cons.2 ⟨_,_,rfl,rep_int.2 rfl,repL_nil.2 rfl⟩⟩⟩⟩) h
theorem a_quote (s : List UInt8) (hs : s.length ≤ 2000000) (h : Hp) : ACall Tryz.prog GT 286 [.str s] h fun r h' => r = .str (Str.quote s) ∧ h' = h:=
 acall_imp (args1 r_str) (fun w hg => quote_any ⟨s.toArray⟩ w (by rw [size_mk]; exact hs) (glob_of hg)) (fun C => rep_str.2 rfl) h
theorem pre_begins (s p : List UInt8) : (decide (p.length ≤ s.length) && s.take p.length == p) = Adr.begins s p:=by
 unfold Adr.begins
 rw [Bool.eq_iff_iff,List.isPrefixOf_iff_prefix,List.prefix_iff_eq_take,Bool.and_eq_true,decide_eq_true_eq,beq_iff_eq]
 constructor
 ·rintro ⟨h1,h2⟩; exact h2.symm
 ·intro h2
  exact ⟨by have:=congrArg List.length h2; rw [List.length_take] at this; omega,h2.symm⟩
theorem w_key (r : Adr.Rd) (hl : r.rest.length ≤ 2000000) {h : Hp} {i : Nat} (hb : h.b[i]? = some (adB r)) :
  ACall Tryz.prog GT 240 [.ptr i 0] h fun v h' => v = Adr.K.A (Adr.keyP r).1 ∧ h' = ⟨h.b.set i (adB (Adr.keyP r).2),h.t⟩:=by
 have key : ACall Tryz.prog GT 240 [.ptr 0 0] ⟨[adB r],[]⟩ fun v h' => ∃ b',h'.b[0]? = some b' ∧ v = Adr.K.A (Adr.keyP r).1 ∧ b' = adB (Adr.keyP r).2:=by
  refine fo ?_
  have hh:=fun h hb => w_has [91] r (h:=h) (i:=0) hb
  obtain ⟨Z,hZ⟩ : ∃ Z,Adr.keyP r = Z:=⟨_,rfl⟩
  rw [hZ]
  unfold Adr.keyP at hZ
  unfold Adr.hasP at hh
  unfold adB at hh ⊢
  obtain ⟨rest,bad⟩:=r
  dsimp only at hl hh hZ
  cases bad
  rotate_left
  ·rw [if_pos rfl] at hZ
   subst hZ
   refine run0 ti ?_
   exact ⟨_,le_refl _,_,rfl,rfl,rfl⟩
  rw [if_neg (by decide)] at hZ
  refine run0 ti ?_
  refine use (hh _ rfl) ?_
  cases hB : Adr.begins rest [91]
  ·rw [hB,if_pos rfl] at hZ
   subst hZ
   refine run0 ti ?_
   exact ⟨_,le_refl _,_,rfl,rfl,rfl⟩
  rw [hB,if_neg (by decide)] at hZ
  obtain ⟨t,ht⟩ : ∃ t,rest.drop 1 = t:=⟨_,rfl⟩
  have ht1 : rest.drop [91].length = t:=ht
  have htl : t.length ≤ 2000000:=by rw [← ht,List.length_drop]; omega
  rw [ht] at hZ
  have hp:=fun h => a_hasPrefix t [34] h
  rw [pre_begins] at hp
  have hu:=fun h => a_unquote t htl h
  have hsk:=fun (q : Adr.Rd) h hb => w_skip [93] q (h:=h) (i:=0) hb
  unfold adB at hsk
  refine run0 (ai ht1 ht) ?_
  refine use (hp _) ?_
  cases hQ : Adr.begins t [34]
  ·rw [hQ,if_neg (by decide)] at hZ
   refine run0 ti ?_
   refine use (a_indexByte t _) ?_
   have hk:=Adr.indexByte_key t
   obtain ⟨n,hn,hnle,hix⟩ : ∃ n : Nat,(if t.all (· != 93) then 0 else (t.takeWhile (· != 93)).length) = n ∧ n ≤ t.length ∧ (Lib.indexByte t 93 = (n : Int) ∨ (Lib.indexByte t 93 = -1 ∧ n = 0)):=by
    rcases hk with ⟨k1,k2⟩ | ⟨k1,k2,k3⟩
    ·exact ⟨0,by rw [if_pos k1],Nat.zero_le _,.inr ⟨k2,rfl⟩⟩
    ·exact ⟨_,by rw [k1,if_neg (by decide)],k3,.inl k2⟩
   rw [hn] at hZ
   have hmax : (if (0 : Int) > Lib.indexByte t 93 then 0 else Lib.indexByte t 93) = (n : Int):=by
    rcases hix with e | ⟨e,e2⟩
    ·rw [e,if_neg (by omega)]
    ·rw [e,e2]; rfl
   have htk : (t.take n).length ≤ 2000000:=by rw [List.length_take]; omega
   have hnp:=fun h => a_numParse (t.take n) htk h
   have l0 : (0 : Int) ≤ (n : Int):=by omega
   have l1 : (n : Int) ≤ (t.length : Int):=by omega
   obtain ⟨⟨x,e⟩,hx⟩ : ∃ q,Num.parse (t.take n) = q:=⟨_,rfl⟩
   rw [hx] at hnp hZ
   dsimp only at hnp hZ
   refine run0 (ai hmax (ai l0 l1)) ?_
   refine use (hnp _) ?_
   have hbad : ∃ b,(e != 0 || decide (x < 0)) = b:=⟨_,rfl⟩
   obtain ⟨b,hb⟩:=hbad
   rw [hb] at hZ
   subst hZ
   by_cases he : e = 0
   ·have e1 : (e != 0) = false:=by simp [he]
    rw [e1,Bool.false_or] at hb
    refine run0 (ai e1 (ai hb (ai l0 l1))) ?_
    refine use (hsk ⟨t.drop n,b⟩ _ rfl) ?_
    refine run0 ti ?_
    exact ⟨_,le_refl _,_,rfl,rfl,rfl⟩
   ·have e1 : (e != 0) = true:=by simp [he]
    rw [e1,Bool.true_or] at hb
    subst hb
    refine run0 (ai e1 (ai l0 l1)) ?_
    refine use (hsk ⟨t.drop n,true⟩ _ rfl) ?_
    refine run0 ti ?_
    exact ⟨_,le_refl _,_,rfl,rfl,rfl⟩
  ·rw [hQ,if_pos rfl] at hZ
   refine run0 ti ?_
   refine use (hu _) ?_
   have hw:=Str.unquote_width t
   have hv:=Str.unquote_valid t
   obtain ⟨⟨us,un,ue⟩,hue⟩ : ∃ q,Str.unquote t = q:=⟨_,rfl⟩
   rw [hue] at hZ hw hv ⊢
   dsimp only at hZ hw hv ⊢
   by_cases he : ue = 0
   rotate_left
   ·have e1 : (ue != 0) = true:=by simp [he]
    rw [if_pos (.inl he)] at hZ
    subst hZ
    refine run0 e1 ?_
    exact ⟨_,le_refl _,_,rfl,rfl,rfl⟩
   have e1 : (ue != 0) = false:=by simp [he]
   have hul : us.length ≤ 2000000:=by
    have:=hv he
    unfold Str.valid at this
    rw [Bool.and_eq_true,decide_eq_true_eq] at this
    omega
   have l1 : (un : Int) ≤ (t.length : Int):=by have:=hw he; omega
   have l0 : (0 : Int) ≤ (un : Int):=by omega
   refine run0 (ai e1 (ai l0 l1)) ?_
   refine use (a_quote us hul _) ?_
   cases hne : Str.quote us != t.take un
   ·rw [if_neg (by rintro (h | h); exact h he; rw [bne_eq_false_iff_eq] at hne; exact h hne)] at hZ
    subst hZ
    refine run0 (ai e1 (ai hne (ai l0 l1))) ?_
    refine use (hsk ⟨t.drop un,false⟩ _ rfl) ?_
    refine run0 ti ?_
    exact ⟨_,le_refl _,_,rfl,rfl,rfl⟩
   ·rw [if_pos (.inr (bne_iff_ne.1 hne))] at hZ
    subst hZ
    refine run0 (ai e1 (ai hne (ai l0 l1))) ?_
    exact ⟨_,le_refl _,_,rfl,rfl,rfl⟩
 refine (ACall.lift1 key rfl (adB_loc r) ?_ hb).mono ?_
 ·rintro v b' ⟨rfl,rfl⟩; exact ⟨rfl,adB_loc _⟩
 ·rintro v h' ⟨b',⟨rfl,rfl⟩,rfl⟩; exact ⟨rfl,rfl⟩
end AX
namespace Adr
theorem has_len (p : List UInt8) (r : Rd) : (hasP p r).2.rest.length ≤ r.rest.length:=by
 unfold hasP; split
 ·rw [List.length_drop]; omega
 ·exact Nat.le_refl _
theorem has_less (p : List UInt8) (r : Rd) (h : begins r.rest p = true) : (hasP p r).2.rest.length + p.length = r.rest.length:=by
 have:=begins_len h
 unfold hasP; rw [if_pos h]; dsimp only; rw [List.length_drop]; omega
theorem takeW_len {p : UInt8 → Bool} (s : List UInt8) : (s.takeWhile p).length ≤ s.length:=List.Sublist.length_le (List.takeWhile_sublist p)
theorem dropW_len {p : UInt8 → Bool} (s : List UInt8) : (s.dropWhile p).length ≤ s.length:=List.Sublist.length_le (List.dropWhile_sublist p)
theorem word_len (r : Rd) : (wordP r).2.rest.length ≤ r.rest.length ∧ (wordP r).1.length ≤ r.rest.length:=⟨dropW_len _,takeW_len _⟩
theorem skip_len (p : List UInt8) (r : Rd) : (skipP p r).rest.length ≤ r.rest.length:=by
 unfold skipP; split
 ·dsimp only; rw [List.length_drop]; omega
 ·exact Nat.le_refl _
theorem key_len (r : Rd) : (keyP r).2.rest.length ≤ r.rest.length:=by
 unfold keyP
 split
 ·exact Nat.le_refl _
 ·split
  ·exact Nat.le_refl _
  ·dsimp only
   split
   ·split
    ·dsimp only; rw [List.length_drop]; omega
    ·refine Nat.le_trans (skip_len _ _) ?_
     dsimp only; rw [List.length_drop,List.length_drop]; omega
   ·refine Nat.le_trans (skip_len _ _) ?_
    dsimp only; rw [List.length_drop,List.length_drop]; omega
theorem step_len (r : Rd) : (stepP r).2.rest.length ≤ r.rest.length:=Nat.le_trans (key_len _) (word_len r).1
end Adr
namespace AX
theorem w_step (r : Adr.Rd) (hl : r.rest.length ≤ 2000000) {h : Hp} {i : Nat} (hb : h.b[i]? = some (adB r)) :
  ACall Tryz.prog GT 237 [.ptr i 0] h fun v h' => v = .agg (Adr.stepP r).1.cells ∧ h' = ⟨h.b.set i (adB (Adr.stepP r).2),h.t⟩:=by
 have key : ACall Tryz.prog GT 237 [.ptr 0 0] ⟨[adB r],[]⟩ fun v h' => ∃ b',h'.b[0]? = some b' ∧ v = .agg (Adr.stepP r).1.cells ∧ b' = adB (Adr.stepP r).2:=by
  refine fo ?_
  have hw:=fun h hb => w_word r hl (h:=h) (i:=0) hb
  have hk:=fun h hb => w_key (Adr.wordP r).2 (Nat.le_trans (Adr.word_len r).1 hl) (h:=h) (i:=0) hb
  have hS : Adr.stepP r = (⟨(Adr.wordP r).1,(Adr.keyP (Adr.wordP r).2).1⟩,(Adr.keyP (Adr.wordP r).2).2):=rfl
  rw [hS]
  obtain ⟨⟨w,r1⟩,h1⟩ : ∃ q,Adr.wordP r = q:=⟨_,rfl⟩
  rw [h1] at hw hk ⊢
  dsimp only at hw hk ⊢
  obtain ⟨⟨⟨kd,kn,ks⟩,r2⟩,h2⟩ : ∃ q,Adr.keyP r1 = q:=⟨_,rfl⟩
  rw [h2] at hk ⊢
  dsimp only [Adr.K.A] at hk ⊢
  unfold adB at hw hk ⊢
  refine run0 ti ?_
  refine use (hw _ rfl) ?_
  refine run0 ti ?_
  refine use (hk _ rfl) ?_
  refine run0 ti ?_
  exact ⟨_,le_refl _,_,rfl,rfl,rfl⟩
 refine (ACall.lift1 key rfl (adB_loc r) ?_ hb).mono ?_
 ·rintro v b' ⟨rfl,rfl⟩; exact ⟨rfl,adB_loc _⟩
 ·rintro v h' ⟨b',⟨rfl,rfl⟩,rfl⟩; exact ⟨rfl,rfl⟩
theorem a_parse (s : List UInt8) (hs : s.length ≤ 2000000) (h : Hp) : ACall Tryz.prog GT 183 [.str s] h fun r h' => r = .tup [.agg (Adr.parse s).1.cells,.int .i64 (Adr.parse s).2] ∧ h' = h:=by
 rw [← Adr.parse_eq]
 refine pcall ?_ rfl (by simp [A.pure,A.data]) h
 refine fo ?_
 obtain ⟨⟨M,RM⟩,hM⟩ : ∃ q,Adr.modsP (s.length + 1) ⟨s,false⟩ [] = q:=⟨_,rfl⟩
 obtain ⟨F,hF⟩ : ∃ F,Adr.parseP s = F:=⟨_,rfl⟩
 rw [hF]
 unfold Adr.parseP at hF
 rw [hM] at hF
 dsimp only at hF
 refine run0 ti ?_
 refine awp_loop (fun mm ts h => ∃ (r : Adr.Rd) (l : List Adr.Step) (W : Nat) (o : Own) (t : List (TypeId × Nat × Nat)),r.rest.length < mm ∧ mm + l.length = s.length + 1 ∧ Adr.modsP mm r l = (M,RM) ∧
  h = ⟨[.cells 224 [.sl 0 .nil [],.bool false,.str [],.str [],.int .i64 0,.int .i64 0,.str []],.cells 271 [.str r.rest,.bool r.bad],.cells 224 [.sl W o (l.map Adr.Step.cells),.bool false,.str [],.str [],.int .i64 0,.int .i64 0,.str []]],t⟩ ∧
  Gs 273 4 0 ⟨[],t⟩ (l.map Adr.Step.cells) (.sl W o (l.map Adr.Step.cells)) ∧ ts 2 = .ptr 0 0 ∧ ts 3 = .int .i64 0 ∧ ts 4 = .ptr 1 0 ∧ ts 5 = .ptr 2 0) (s.length + 1) ?_ ?_
 ·exact ⟨⟨s,false⟩,[],0,.nil,[],by dsimp only; omega,by simp,hM,rfl,.inl ⟨rfl,rfl⟩,by (exact ev0 ti),by (exact ev0 ti),by (exact ev0 ti),by (exact ev0 ti)⟩
 rintro mm ts h ⟨r,l,W,o,t,hrm,hml,hmod,rfl,gX,t2,t3,t4,t5⟩
 cases mm with
 | zero => omega
 | succ f =>
 unfold Adr.modsP at hmod
 by_cases hgo : r.bad = false ∧ Adr.begins r.rest Adr.modW = true
 ·rw [if_pos hgo] at hmod
  have hmw : Adr.modW = [109,111,100,117,108,101,46]:=rfl
  have cH:=fun h hb => w_has Adr.modW r (h:=h) (i:=1) hb
  have l1:=Adr.has_less Adr.modW r hgo.2
  have hh1 : (Adr.hasP Adr.modW r).1 = true:=by unfold Adr.hasP; rw [if_pos hgo.2]
  rw [hh1] at cH
  have l7 : Adr.modW.length = 7:=rfl
  have hr0 : r.bad = false:=hgo.1
  obtain ⟨r1,hr1⟩ : ∃ q,(Adr.hasP Adr.modW r).2 = q:=⟨_,rfl⟩
  rw [hr1] at cH l1 hmod
  have cS:=fun h hb => w_step r1 (by omega) (h:=h) (i:=1) hb
  have l2:=Adr.step_len r1
  obtain ⟨⟨⟨nm,⟨kd,kn,ks⟩⟩,r2⟩,hr2⟩ : ∃ q,Adr.stepP r1 = q:=⟨_,rfl⟩
  rw [hr2] at cS l2 hmod
  dsimp only [Adr.Step.cells] at cS l2 hmod
  have cK:=fun h hb => w_skip [46] r2 (h:=h) (i:=1) hb
  have l3:=Adr.skip_len [46] r2
  obtain ⟨r3,hr3⟩ : ∃ q,Adr.skipP [46] r2 = q:=⟨_,rfl⟩
  rw [hr3] at cK l3 hmod
  unfold adB at cH cS cK
  rw [hmw] at cH
  rw [hr0] at cH
  obtain ⟨W',o',t',hX,gX',_⟩:=gX.grow 48 [.str nm,.int .i64 kd,.int .i64 kn,.str ks] (by rw [List.length_map]; omega) (by decide)
  have hcat : l.map Adr.Step.cells ++ [[.str nm,.int .i64 kd,.int .i64 kn,.str ks]] = (l ++ [(⟨nm,⟨kd,kn,ks⟩⟩ : Adr.Step)]).map Adr.Step.cells:=by rw [List.map_append]; rfl
  rw [hcat] at gX'
  simp only [hcat] at hX
  rw [hr0]
  refine run0 (ai t2 (ai t3 (ai t4 t5))) ?_
  refine use (cH _ rfl) ?_
  refine run0 (ai t2 (ai t3 (ai t4 t5))) ?_
  refine use (cS _ rfl) ?_
  refine run0 (ai t2 (ai t3 (ai t4 (ai t5 hX)))) ?_
  refine use (cK _ rfl) ?_
  refine run0 (ai t2 (ai t3 (ai t4 t5))) ?_
  exact ⟨f,by omega,r3,l ++ [(⟨nm,⟨kd,kn,ks⟩⟩ : Adr.Step)],W',o',t',by omega,by simp; omega,hmod,rfl,gX',by (exact ev0 t2),by (exact ev0 t3),by (exact ev0 t4),by (exact ev0 t5)⟩
 ·rw [if_neg hgo] at hmod
  injection hmod with hm1 hm2
  subst hm1; subst hm2
  have cD:=fun h hb => w_has Adr.dataW r (h:=h) (i:=1) hb
  have l1:=Adr.has_len Adr.dataW r
  obtain ⟨⟨dt,r1⟩,hr1⟩ : ∃ q,Adr.hasP Adr.dataW r = q:=⟨_,rfl⟩
  rw [hr1] at cD l1 hF
  dsimp only at cD l1 hF
  have cT:=fun h hb => w_word r1 (by omega) (h:=h) (i:=1) hb
  have l2:=Adr.word_len r1
  obtain ⟨⟨ty,r2⟩,hr2⟩ : ∃ q,Adr.wordP r1 = q:=⟨_,rfl⟩
  rw [hr2] at cT l2 hF
  dsimp only at cT l2 hF
  have cK:=fun h hb => w_skip [46] r2 (h:=h) (i:=1) hb
  have l3:=Adr.skip_len [46] r2
  obtain ⟨r3,hr3⟩ : ∃ q,Adr.skipP [46] r2 = q:=⟨_,rfl⟩
  rw [hr3] at cK l3 hF
  have cN:=fun h hb => w_word r3 (by omega) (h:=h) (i:=1) hb
  have l4:=Adr.word_len r3
  obtain ⟨⟨na,r4⟩,hr4⟩ : ∃ q,Adr.wordP r3 = q:=⟨_,rfl⟩
  rw [hr4] at cN l4 hF
  dsimp only at cN l4 hF
  have cY:=fun h hb => w_key r4 (by omega) (h:=h) (i:=1) hb
  have l5:=Adr.key_len r4
  obtain ⟨⟨⟨kd,kn,ks⟩,⟨re,ba⟩⟩,hr5⟩ : ∃ q,Adr.keyP r4 = q:=⟨_,rfl⟩
  rw [hr5] at cY l5 hF
  dsimp only [Adr.K.A] at cY l5 hF
  have ck:=fun h => a_kind ty (by omega) h
  unfold adB at cD cT cK cN cY
  have hdw : Adr.dataW = [100,97,116,97,46]:=rfl
  rw [hdw] at cD
  have start : ∀ {G : Prop},(r.bad = true → G) → (r.bad = false → Adr.begins r.rest Adr.modW = false → G) → G:=fun p q => by
   cases hb : r.bad
   ·refine q hb ?_
    cases hB : Adr.begins r.rest Adr.modW
    ·rfl
    ·exact absurd ⟨hb,hB⟩ hgo
   ·exact p hb
  have lx:=Gs.le gX
  refine start (fun hb => ?_) (fun hb hB => ?_)
  ·rw [hb] at cD ⊢
   refine run0 (ai t2 (ai t3 (ai t4 t5))) ?_
   refine use (cD _ rfl) ?_
   refine run0 (ai t2 (ai t3 (ai t4 t5))) ?_
   refine use (cT _ rfl) ?_
   refine run0 (ai t2 (ai t3 (ai t4 t5))) ?_
   refine use (cK _ rfl) ?_
   refine run0 (ai t2 (ai t3 (ai t4 t5))) ?_
   refine use (cN _ rfl) ?_
   refine run0 (ai t2 (ai t3 (ai t4 t5))) ?_
   refine use (cY _ rfl) ?_
   have zle : leL [.sl 0 .nil [],.bool false,.str [],.str [],.int .i64 0,.int .i64 0,.str []] Adr.Ad.zero.cells:=⟨⟨rfl,.inr rfl,.inl rfl⟩,rfl,rfl,rfl,rfl,rfl,rfl,trivial⟩
   cases ba
   rotate_left
   ·rw [if_pos (.inl rfl)] at hF
    subst hF
    refine run0 (ai t2 (ai t3 (ai t4 t5))) ?_
    exact ⟨.tup [.agg Adr.Ad.zero.cells,.int .i64 2],⟨zle,rfl,trivial⟩,rfl⟩
   cases hre : re != []
   rotate_left
   ·rw [if_pos (.inr (.inl (bne_iff_ne.1 hre)))] at hF
    subst hF
    refine run0 (ai t2 (ai t3 (ai t4 (ai t5 hre)))) ?_
    exact ⟨.tup [.agg Adr.Ad.zero.cells,.int .i64 2],⟨zle,rfl,trivial⟩,rfl⟩
   refine run0 (ai t2 (ai t3 (ai t4 (ai t5 hre)))) ?_
   refine use (ck _) ?_
   cases hkb : Adr.kindB ty
   ·rw [if_pos (.inr (.inr hkb))] at hF
    subst hF
    refine run0 (ai t2 (ai t3 (ai t4 t5))) ?_
    exact ⟨.tup [.agg Adr.Ad.zero.cells,.int .i64 2],⟨zle,rfl,trivial⟩,rfl⟩
   rw [if_neg (by rintro (h | h | h); cases h; rw [bne_eq_false_iff_eq] at hre; exact h hre; rw [hkb] at h; cases h)] at hF
   have lm : (l.map Adr.Step.cells).length = l.length:=List.length_map ..
   by_cases hlen : (l.length : Int) > 16
   ·rw [if_pos (by omega)] at hF
    subst hF
    refine run0 (ai t2 (ai t3 (ai t4 (ai t5 (ai lm hlen))))) ?_
    exact ⟨.tup [.agg Adr.Ad.zero.cells,.int .i64 4],⟨zle,rfl,trivial⟩,rfl⟩
   ·rw [if_neg (by omega)] at hF
    subst hF
    refine run0 (ai t2 (ai t3 (ai t4 (ai t5 (ai lm hlen))))) ?_
    exact ⟨.tup [.agg (Adr.Ad.cells ⟨l,dt,ty,na,⟨kd,kn,ks⟩⟩),.int .i64 0],⟨⟨lx,rfl,rfl,rfl,rfl,rfl,rfl,trivial⟩,rfl,trivial⟩,rfl⟩
  ·rw [hb] at cD ⊢
   have cH:=fun h hb => w_has Adr.modW r (h:=h) (i:=1) hb
   have hh1 : Adr.hasP Adr.modW r = (false,r):=by unfold Adr.hasP; rw [hB,if_neg (by decide)]
   have hmw : Adr.modW = [109,111,100,117,108,101,46]:=rfl
   rw [hh1,hmw] at cH
   unfold adB at cH
   rw [hb] at cH
   refine run0 (ai t2 (ai t3 (ai t4 t5))) ?_
   refine use (cH _ rfl) ?_
   refine run0 (ai t2 (ai t3 (ai t4 t5))) ?_
   refine use (cD _ rfl) ?_
   refine run0 (ai t2 (ai t3 (ai t4 t5))) ?_
   refine use (cT _ rfl) ?_
   refine run0 (ai t2 (ai t3 (ai t4 t5))) ?_
   refine use (cK _ rfl) ?_
   refine run0 (ai t2 (ai t3 (ai t4 t5))) ?_
   refine use (cN _ rfl) ?_
   refine run0 (ai t2 (ai t3 (ai t4 t5))) ?_
   refine use (cY _ rfl) ?_
   have zle : leL [.sl 0 .nil [],.bool false,.str [],.str [],.int .i64 0,.int .i64 0,.str []] Adr.Ad.zero.cells:=⟨⟨rfl,.inr rfl,.inl rfl⟩,rfl,rfl,rfl,rfl,rfl,rfl,trivial⟩
   cases ba
   rotate_left
   ·rw [if_pos (.inl rfl)] at hF
    subst hF
    refine run0 (ai t2 (ai t3 (ai t4 t5))) ?_
    exact ⟨.tup [.agg Adr.Ad.zero.cells,.int .i64 2],⟨zle,rfl,trivial⟩,rfl⟩
   cases hre : re != []
   rotate_left
   ·rw [if_pos (.inr (.inl (bne_iff_ne.1 hre)))] at hF
    subst hF
    refine run0 (ai t2 (ai t3 (ai t4 (ai t5 hre)))) ?_
    exact ⟨.tup [.agg Adr.Ad.zero.cells,.int .i64 2],⟨zle,rfl,trivial⟩,rfl⟩
   refine run0 (ai t2 (ai t3 (ai t4 (ai t5 hre)))) ?_
   refine use (ck _) ?_
   cases hkb : Adr.kindB ty
   ·rw [if_pos (.inr (.inr hkb))] at hF
    subst hF
    refine run0 (ai t2 (ai t3 (ai t4 t5))) ?_
    exact ⟨.tup [.agg Adr.Ad.zero.cells,.int .i64 2],⟨zle,rfl,trivial⟩,rfl⟩
   rw [if_neg (by rintro (h | h | h); cases h; rw [bne_eq_false_iff_eq] at hre; exact h hre; rw [hkb] at h; cases h)] at hF
   have lm : (l.map Adr.Step.cells).length = l.length:=List.length_map ..
   by_cases hlen : (l.length : Int) > 16
   ·rw [if_pos (by omega)] at hF
    subst hF
    refine run0 (ai t2 (ai t3 (ai t4 (ai t5 (ai lm hlen))))) ?_
    exact ⟨.tup [.agg Adr.Ad.zero.cells,.int .i64 4],⟨zle,rfl,trivial⟩,rfl⟩
   ·rw [if_neg (by omega)] at hF
    subst hF
    refine run0 (ai t2 (ai t3 (ai t4 (ai t5 (ai lm hlen))))) ?_
    exact ⟨.tup [.agg (Adr.Ad.cells ⟨l,dt,ty,na,⟨kd,kn,ks⟩⟩),.int .i64 0],⟨⟨lx,rfl,rfl,rfl,rfl,rfl,rfl,trivial⟩,rfl,trivial⟩,rfl⟩
section
variable {P : Program} {G : World → Prop} {C : Ctx} {h : Hp}
def Fz1 (h : Hp) (x y : A) : Prop:=(x = y ∧ x.data = true) ∨ ∃ i W T rows,x = .bs i W rows.length ∧ h.b[i]? = some (.row T rows.flatten) ∧ y = .sl W .no rows ∧ (∀ r ∈ rows,r.length = W) ∧ rows.flatten.all A.data = true
def FzL (h : Hp) : List A → List A → Prop
 | [],[] => True
 | x :: l,y :: m => Fz1 h x y ∧ FzL h l m
 | _,_ => False
theorem FzL.data {h : Hp} : ∀ {l m : List A},FzL h l m → m.all A.data = true
 | [],[],_ => rfl
 | x :: l,y :: m,hf => by
  rw [List.all_cons,Bool.and_eq_true]
  refine ⟨?_,FzL.data hf.2⟩
  rcases hf.1 with ⟨rfl,hd⟩ | ⟨i,W,T,rows,_,_,rfl,_,_⟩
  ·exact hd
  ·rfl
 | [],_ :: _,hf => hf.elim
 | _ :: _,[],hf => hf.elim
theorem pcallz {f : FuncId} {args : List A} {ys : List A} (hc : ACall P G f args ⟨[],[]⟩ fun v h' => ∃ xs,v = .agg xs ∧ FzL h' xs ys) (ha : args.all A.pure = true) (h : Hp) : ACall P G f args h fun v h' => v = .agg ys ∧ h' = h:=by
 intro C cs hI hr
 have hid : Inv G C.hid ⟨[],[]⟩:=by
  refine ⟨rfl,fun i b hb => by simp at hb,fun i hi => by simp [Ctx.hid] at hi,fun g i hg => by simp [Ctx.hid] at hg,fun g j hs => ?_,fun t E W m ht => by simp [Ctx.hid] at ht,fun t t' ht => by simp [Ctx.hid] at ht,fun t => by simp [Ctx.hid],hI.base,hI.glob⟩
  exact ⟨(hI.prot g j hs).1,rfl,fun t E W m ht => by simp [Ctx.hid] at ht⟩
 refine (hc C.hid cs hid (RepL.pures (C:=C) (C':=C.hid) ⟨fun g j hs => ⟨hs,rfl⟩⟩ args cs ha hr)).mono ?_
 rintro e w' ⟨C1,h1,v,cv,rfl,rfl,I1,S1,r1,xs,rfl,hf⟩
 have hblk : ∀ g,g < C.w.heap.size → C1.w.heap[g]? = C.w.heap[g]?:=fun g hg => S1.frame g hg rfl fun t ht => by simp [Ctx.hid] at ht
 have hnew : ∀ g i,C1.own g = some i → C.w.heap.size ≤ g:=fun g i hg => by
  rcases Nat.lt_or_ge g C.w.heap.size with hlt | hge
  ·have:=S1.own g hlt
   rw [hg] at this
   simp [Ctx.hid] at this
  ·exact hge
 let C2 : Ctx:={ C with w:=C1.w,S:=fun g j => C1.S g j ∨ ((C1.own g).isSome = true),own:=fun g => if g < C.w.heap.size then C.own g else none }
 have hsz : C.w.heap.size ≤ C1.w.heap.size:=S1.size
 have he : Ext C C2:=by
  refine ⟨fun g j hs => ?_,Nat.le_refl _,fun _ _ => rfl,fun t E W m ht => ?_⟩
  ·obtain ⟨k1,k2⟩:=S1.ext.cells g j hs
   exact ⟨.inl k1,k2⟩
  ·obtain ⟨_,_,cap,h2,_⟩:=hI.rows t E W m ht
   exact ⟨m,ht,.inr ⟨rfl,rfl,fun cap hc => hc.same (hblk _ h2.lt)⟩⟩
 have hown : ∀ g i,C2.own g = some i ↔ C.own g = some i:=fun g i => by
  show (if g < C.w.heap.size then C.own g else none) = some i ↔ _
  split
  ·exact Iff.rfl
  ·next hg => exact ⟨fun e => (by cases e),fun e => absurd (hI.ownlt g i e).2.1 hg⟩
 have hprot : ∀ g j,C2.S g j → C.S g j ∨ C.w.heap.size ≤ g:=fun g j hs => by
  rcases hs with hs | hs
  ·rcases S1.prot g j hs with h2 | h2 | ⟨t,h2,_⟩
   ·exact .inl h2
   ·exact .inr h2
   ·simp [Ctx.hid] at h2
  ·obtain ⟨i,hi⟩:=Option.isSome_iff_exists.1 hs
   exact .inr (hnew g i hi)
 have hSlt : ∀ g j,C2.S g j → g < C1.w.heap.size:=fun g j hs => by
  rcases hs with hs | hs
  ·exact (I1.prot g j hs).1
  ·obtain ⟨i,hi⟩:=Option.isSome_iff_exists.1 hs
   exact (I1.ownlt g i hi).2.1
 have hsame : Same C1 C2:=⟨fun g j hs => ⟨.inl hs,rfl⟩⟩
 have frz : ∀ (xs ys : List A) (vs : List Value),FzL h1 xs ys → RepL C1 xs vs → RepL C2 ys vs:=by
  intro xs
  induction xs with
  | nil =>
   intro ys vs hf hr
   cases ys with
   | nil => exact hr
   | cons y ys => exact hf.elim
  | cons x xs ih =>
   intro ys vs hf hr
   cases ys with
   | nil => exact hf.elim
   | cons y ys =>
    obtain ⟨c,cs',rfl,k1,k2⟩:=repL_cons.1 hr
    refine repL_cons.2 ⟨c,cs',rfl,?_,ih ys cs' hf.2 k2⟩
    rcases hf.1 with ⟨rfl,hd⟩ | ⟨i,W,T,rows,rfl,hb,rfl,hW,hd⟩
    ·exact Rep.same hsame _ _ hd k1
    ·obtain ⟨cap,rfl,hcap,hi⟩:=rep_bs.1 k1
     obtain ⟨ds,rest,q1,q2⟩:=I1.box i _ hb
     have hsd : (C1.own (C1.κ i)).isSome = true:=by rw [I1.ownk i hi]; rfl
     have hdd : ∀ (l : List A) (ds : List Value),l.all A.data = true → RepL C1 l ds → RepL C2 l ds:=fun l ds hd hr => RepL.same hsame l ds hd hr
     refine rep_sl.2 ⟨_,cap,rfl,hcap,repRows_of rows ds 0 hW hd (hdd _ _ hd q2) (fun j _ => .inr hsd) (fun j u hu => ?_),trivial⟩
     have q1' : C2.w.heap[C1.κ i]? = some (.cells (ds ++ rest).toArray T (0,0)):=q1
     rw [cell_of_row _ _ _ _ _ _ q1']
     have hj : j < ds.length:=(List.getElem?_eq_some_iff.1 hu).1
     simp only [List.getElem?_toArray]
     rw [show 0 + 0 * W + j = j by omega,List.getElem?_append_left hj]
     exact hu
 refine ⟨C2,h,.agg ys,cv,rfl,rfl,⟨hI.nb,fun i b hib => ?_,fun i hi => (hown _ _).2 (hI.ownk i hi),fun g i hg => ?_,fun g j hs => ?_,fun t E W m ht => ?_,hI.inj,hI.toks,Nat.le_trans hI.base hsz,fun w2 hw => ?_⟩,⟨he,S1.os,S1.tape,S1.output,hsz,rfl,fun g hg _ _ => hblk g hg,fun g hg => ?_,fun g j hs => ?_,fun t ht => .inr ⟨ht,rfl⟩⟩,?_,rfl,rfl⟩
 ·have hi : i < C.nb:=by rw [← hI.nb]; exact (List.getElem?_eq_some_iff.1 hib).1
  exact (hI.box i b hib).ext he hi (hI.ownk i hi) (fun g j hg => (hI.ownlt g j hg).2.1) (fun g hg => hblk g (hI.ownlt g i hg).2.1) (fun g => hown g i) hsz
 ·obtain ⟨k1,k2,k3⟩:=hI.ownlt g i ((hown g i).1 hg)
  exact ⟨k1,Nat.lt_of_lt_of_le k2 hsz,k3⟩
 ·have hlt:=hSlt g j hs
  rcases hprot g j hs with h2 | h2
  ·obtain ⟨k1,k2,k3⟩:=hI.prot g j h2
   exact ⟨hlt,by show (if g < C.w.heap.size then C.own g else none) = none; rw [if_pos k1,k2],k3⟩
  ·refine ⟨hlt,by show (if g < C.w.heap.size then C.own g else none) = none; rw [if_neg (by omega)],fun t E W m ht e => ?_⟩
   obtain ⟨_,_,cap,k1,_⟩:=hI.rows t E W m ht
   have:=k1.lt
   have e' : C.τ t = g:=e
   omega
 ·obtain ⟨k1,k2,cap,k3,k4⟩:=hI.rows t E W m ht
  exact ⟨by show (if C.τ t < C.w.heap.size then C.own (C.τ t) else none) = none; rw [if_pos k3.lt,k1],k2,cap,k3.same (hblk _ k3.lt),k4⟩
 ·exact hI.glob w2 fun g hg => (hw g hg).trans (hblk g (Nat.lt_of_lt_of_le hg hI.base))
 ·show (if g < C.w.heap.size then C.own g else none) = C.own g
  rw [if_pos hg]
 ·rcases hprot g j hs with h2 | h2
  ·exact .inl h2
  ·exact .inr (.inl h2)
 ·obtain ⟨vs,rfl,hl⟩:=rep_agg.1 r1
  exact rep_agg.2 ⟨vs,rfl,frz xs ys vs hf hl⟩
end
end AX
end Go.Proofs.YteklhoajalgehaaGreatDoor
