/- Part of what the proof needs. -/
import Derived.Test.YtahmpiioegemaaaGreatDoorMFrJournalRecordsUptoA
import Derived.Test.YtahmpiioegemaaaGreatDoorMFrJournalRecordsUptoG
import Derived.Test.YtahmpiioegemaaaGreatDoorMFrJournalRecordsUptoJ
import Derived.Test.YtahmpiioegemaaaGreatDoorMFrJournalRecordsUptoL
import Derived.Test.YtahmpiioegemaaaGreatDoorMFrJournalRecordsUptoM
import Derived.Lib.ParseIntB
import Derived.Test.YtahmpiioegemaaaGreatDoorShelfP
import Derived.Laws.RangeAny
import Derived.Laws.Runes
import Derived.Lib.OthersKept
import Derived.Deep.LoopGhost
import Derived.BigRegion
import Derived.Below
import Derived.BigQuiet
import Derived.Deep.QuietTactic
import Derived.WalkMore
import Derived.IntWalk
set_option maxHeartbeats 4000000
set_option linter.unusedSimpArgs false
set_option linter.unusedVariables false
set_option linter.unnecessarySimpa false
namespace Go.Proofs.YtahmpiioegemaaaGreatDoor
open Go.Lib
namespace Num
def valA (n:Nat) (s:List UInt8):Nat:=s.foldl (fun n c=>10*n+(c.toNat - 48)) n
theorem valA_cons (n:Nat) (c:UInt8) (s:List UInt8):valA n (c::s)=valA (10*n+(c.toNat - 48)) s:=by unfold valA; rw [List.foldl_cons]
theorem val_valA (s:List UInt8):val s=valA 0 s:=rfl
theorem valA_ge:∀ (s:List UInt8) (n:Nat),n*10 ^ s.length≤valA n s
 | [],n=>by simp [valA]
 | c::s,n=>by
  rw [valA_cons,List.length_cons,Nat.pow_succ]
  refine Nat.le_trans ?_ (valA_ge s _)
  have e:n*(10 ^ s.length*10)=(10*n)*10 ^ s.length:=by
   rw [Nat.mul_comm (10 ^ s.length) 10,←Nat.mul_assoc,Nat.mul_comm n 10]
  rw [e]
  exact Nat.mul_le_mul_right _ (by omega)
theorem valA_le (s:List UInt8) (n:Nat):n≤valA n s:=by
 have h:=valA_ge s n
 have h1:1≤10 ^ s.length:=Nat.one_le_pow _ _ (by omega)
 exact Nat.le_trans (by simpa using Nat.mul_le_mul_left n h1) h
theorem digB_iff (c:UInt8):digB c=true↔48≤c.toNat∧c.toNat≤57:=by simp [digB]
theorem uintM_digits:∀ (l:List UInt8) (acc:Nat),l.all digB=true→parseUintM 18446744073709551615 acc l=if valA acc l≤18446744073709551615 then .ok (valA acc l) else if l=[] then .ok acc else .range
 | [],acc,_=>by simp [parseUintM,valA]
 | c::r,acc,h=>by
  rw [List.all_cons,Bool.and_eq_true,digB_iff] at h
  have h1:=valA_le r (10*acc+(c.toNat - 48))
  rw [valA_cons]
  unfold parseUintM
  rw [if_pos h.1]
  split
  ·rw [if_neg (by omega),if_neg (by simp)]
  ·split
   ·rw [if_neg (by omega),if_neg (by simp)]
   ·rw [uintM_digits r _ h.2,Nat.mul_comm acc 10]
    by_cases hv:valA (10*acc+(c.toNat - 48)) r≤18446744073709551615
    ·rw [if_pos hv,if_pos hv]
    ·rw [if_neg hv,if_neg hv,if_neg (show ¬ (c::r=[]) by simp)]
     cases r with
     | nil =>
      exfalso
      apply hv
      unfold valA
      rw [List.foldl_nil]
      omega
     | cons d q=>rw [if_neg (by simp)]
def body (s:List UInt8):List UInt8:=if s.getD 0 0 == 45 then s.drop 1 else s
def canonB (s:List UInt8):Bool:=digits (body s)&&!(s.getD 0 0 == 45&&body s == [48])
theorem digits_long {t:List UInt8} (h:digits t=true) (hl:16 < t.length):9007199254740992 < val t:=by
 cases t with
 | nil=>simp at hl
 | cons c r =>
  unfold digits at h
  rw [Bool.and_eq_true,Bool.or_eq_true,beq_iff_eq,Bool.and_eq_true,List.all_cons,Bool.and_eq_true,digB_iff] at h
  obtain ⟨⟨h1,h2⟩,h3⟩:=h
  rcases h3 with h3 | h3
  ·injection h3 with _ h3; subst h3; simp at hl
  ·have h4:c≠48:=by simpa using h3.2
   have h5:c.toNat≠48:=fun e=>h4 (UInt8.toNat_inj.1 (by simpa using e))
   have h6:=valA_ge r (c.toNat - 48)
   have h7:10 ^ 16≤10 ^ r.length:=Nat.pow_le_pow_right (by omega) (by simp at hl; omega)
   have h8:1*10 ^ r.length≤(c.toNat - 48)*10 ^ r.length:=Nat.mul_le_mul_right _ (by omega)
   have e:val (c::r)=valA (c.toNat - 48) r:=by rw [val_valA,valA_cons]; simp
   rw [e]
   have h9:(10:Nat) ^ 16=10000000000000000:=by decide
   omega
theorem parse_form (s:List UInt8):parse s=if canonB s=false then (0,2) else if 9007199254740992 < val (body s) then (0,5) else (if s.getD 0 0 == 45 then -(val (body s):Int) else (val (body s):Int),0):=by
 have e:parse s=if (!digits (body s)||(s.getD 0 0 == 45&&body s == [48]))=true then (0,2) else if 16 < (body s).length then (0,5) else if 9007199254740992 < val (body s) then (0,5) else (if s.getD 0 0 == 45 then -(val (body s):Int) else (val (body s):Int),0):=rfl
 rw [e]
 unfold canonB
 cases hd:digits (body s)
 ·simp
 ·cases hm:(s.getD 0 0 == 45&&body s == [48])
  ·simp only [Bool.not_true,Bool.or_false,Bool.false_eq_true,if_false,Bool.not_false,Bool.and_self,Bool.true_eq_false]
   split
   ·next hl=>rw [if_pos (digits_long hd hl)]
   ·rfl
  ·simp
theorem parseIntB_canon (s:List UInt8) (h:canonB s=true) :
  (val (body s)≤9007199254740992∧parseIntB 64 s = .ok (if s.getD 0 0 == 45 then -(val (body s):Int) else (val (body s):Int))) ∨
  (9007199254740992 < val (body s)∧(parseIntB 64 s = .range∨∃ v,parseIntB 64 s = .ok v∧¬ (-9007199254740992≤v∧v≤9007199254740992))):=by
 unfold canonB at h
 rw [Bool.and_eq_true] at h
 obtain ⟨hd,_⟩:=h
 cases s with
 | nil=>simp [body,digits] at hd
 | cons c r =>
  have hne:body (c::r)≠[]:=by
   intro e
   rw [e] at hd
   simp [digits] at hd
  have hall:(body (c::r)).all digB=true:=by
   unfold digits at hd
   rw [Bool.and_eq_true] at hd
   exact hd.1
  have hneg:((c::r).getD 0 0 == 45)=decide (c.toNat=45):=by
   show (c == 45)=_
   rw [Bool.eq_iff_iff,beq_iff_eq,decide_eq_true_eq]
   exact ⟨fun e=>by rw [e]; rfl,fun e=>UInt8.toNat_inj.1 (by simpa using e)⟩
  have h43:c.toNat≠43:=by
   intro e
   have e2:((c::r).getD 0 0 == 45)=false:=by rw [hneg]; simp [e]
   unfold body at hall
   rw [e2] at hall
   simp only [Bool.false_eq_true,if_false,List.all_cons,Bool.and_eq_true,digB_iff] at hall
   omega
  have hb:(if c.toNat=43∨c.toNat=45 then r else c::r)=body (c::r):=by
   unfold body
   rw [hneg]
   by_cases e:c.toNat=45
   ·simp [e]
   ·simp [e,h43]
  have hu:parseUintB 64 (body (c::r))=if val (body (c::r))≤18446744073709551615 then .ok (val (body (c::r))) else .range:=by
   unfold parseUintB
   rw [if_neg hne]
   have:=uintM_digits _ 0 hall
   rw [if_neg hne,←val_valA] at this
   exact this
  have hp:parseIntB 64 (c::r)=match parseUintB 64 (body (c::r)) with
    | NumEnd.syntax=>NumEnd.syntax
    | .range => .range
    | .ok u=>if ¬ c.toNat=45∧2 ^ (64 - 1)≤u then .range else if c.toNat=45∧2 ^ (64 - 1) < u then .range else .ok (if c.toNat=45 then -(u:Int) else u):=by
   rw [←hb]; rfl
  rw [hp,hu,hneg]
  have e63:2 ^ (64 - 1)=9223372036854775808:=by decide
  rw [e63]
  generalize val (body (c::r))=u
  by_cases hm:u≤9007199254740992
  ·refine .inl ⟨hm,?_⟩
   rw [if_pos (by omega)]
   dsimp only
   rw [if_neg (by omega),if_neg (by omega)]
   simp
  ·refine .inr ⟨by omega,?_⟩
   by_cases h64:u≤18446744073709551615
   ·rw [if_pos h64]
    dsimp only
    split
    ·exact .inl rfl
    ·split
     ·exact .inl rfl
     ·refine .inr ⟨_,rfl,?_⟩
      split <;> omega
   ·rw [if_neg h64]
    exact .inl rfl
end Num
end Go.Proofs.YtahmpiioegemaaaGreatDoor

namespace Go.Proofs.YtahmpiioegemaaaGreatDoor
open Go.RowKit
open Go.Op (bytesLess)
namespace Num
theorem digB_int (c:UInt8):digB c=(decide (48≤(c.toNat:Int))&&decide ((c.toNat:Int)≤57)):=by
 unfold digB
 have e1:decide (48≤c.toNat)=decide (48≤(c.toNat:Int)):=decide_eq_decide.2 (by omega)
 have e2:decide (c.toNat≤57)=decide ((c.toNat:Int)≤57):=decide_eq_decide.2 (by omega)
 rw [e1,e2]
theorem all_fail {s:List UInt8} {j:Nat} (hj:j < s.length) (h:digB (s.getD j 0)=false):digits s=false:=by
 have:s.all digB=false:=by
  rw [List.all_eq_false]
  refine ⟨s[j],List.getElem_mem hj,?_⟩
  have e:s.getD j 0=s[j]:=by simp [List.getD,hj]
  rw [e] at h; rw [h]; decide
 unfold digits
 rw [this]; rfl
theorem all_end {s:List UInt8} (h:∀ k,k < s.length→digB (s.getD k 0)=true):digits s=(s != []&&(s.getD 0 0 != 48||s.length == 1)):=by
 have h1:s.all digB=true:=by
  rw [List.all_eq_true]
  intro x hx
  obtain ⟨j,hj,rfl⟩:=List.getElem_of_mem hx
  have:=h j hj
  have e:s.getD j 0=s[j]:=by simp [List.getD,hj]
  rwa [e] at this
 unfold digits
 rw [h1,Bool.true_and]
 match s with
 | []=>rfl
 | [c] =>
  by_cases e:c=48
  ·subst e; rfl
  ·have e1:(c == 48)=false:=by simp [e]
   have e2:([c] == [48])=false:=by simp [e]
   have e3:(c != 48)=true:=by simp [e]
   show ([c] == [48]||([c] != []&&c != 48))=([c] != []&&(c != 48||([c].length == 1)))
   rw [e2,e3]; rfl
 | c::d::r=>simp
end Num
namespace AX
def c_canon:AX.AFn:=⟨44,aS [aR 2 (.mv (.c (.bool false)))] (.seq (aS [aM 4 0,aR 5 (.len true (.t 4)),aR 6 (.bin .gtr (.t 5) (aI 0)),aM 7 6,aG 8 (.mv (.t 0)) 7 true,aG 9 (.sidx (.t 8) (aI 0)) 7 true,aG 10 (.bin .eql (.t 9) (.c (.int .u8 45))) 7 true,aR 11 (.pick (.t 7) (.t 10) (.c (.bool false)))] (.cond (.t 11) (aS [aM 12 0,aR 13 (.ssl (.t 12) (some (aI 1)) none),aM 0 13] (aS [aM 14 0,aR 15 (.bin .eql (.t 14) (.c (.str [48])))] (.cond (.t 15) (aS [aR 2 (.mv (.c (.bool false)))] (.ret)) (.skip)))) (.skip))) (.seq (aS [aM 16 0,aR 17 (.len true (.t 16)),aR 18 (.mv (aI 0))] (.block 0 (.loop (aS [aR 19 (.bin .lss (.t 18) (.t 17))] (.seq (.cond (.t 19) (.skip) (.exit 0)) (.seq (.block 1 (aS [aM 20 18,aM 3 20] (aS [aM 21 0,aM 22 3,aR 23 (.sidx (.t 21) (.t 22)),aR 24 (.bin .lss (.t 23) (.c (.int .u8 48))),aM 25 24,aG 26 (.mv (.t 0)) 25 false,aG 27 (.mv (.t 3)) 25 false,aG 28 (.sidx (.t 26) (.t 27)) 25 false,aG 29 (.bin .gtr (.t 28) (.c (.int .u8 57))) 25 false,aR 30 (.pick (.t 25) (.c (.bool true)) (.t 29))] (.cond (.t 30) (aS [aR 2 (.mv (.c (.bool false)))] (.ret)) (.skip))))) (.reg false [aR 31 (.bin .add (.t 18) (aI 1)),aM 18 31]))))))) (aS [aM 32 0,aR 33 (.bin .neq (.t 32) (.c (.str []))),aM 34 33,aG 35 (.mv (.t 0)) 34 true,aG 36 (.sidx (.t 35) (aI 0)) 34 true,aG 37 (.bin .neq (.t 36) (.c (.int .u8 48))) 34 true,aG 38 (.mv (.t 37)) 34 true,aG 39 (.mv (.t 0)) 38 false,aG 40 (.len true (.t 39)) 38 false,aG 41 (.bin .eql (.t 40) (aI 1)) 38 false,aG 42 (.pick (.t 38) (.c (.bool true)) (.t 41)) 34 true,aR 43 (.pick (.t 34) (.t 42) (.c (.bool false))),aM 2 43] (.ret)))),[.t 2]⟩
theorem h_canon:AX.compFn Tryz.prog 190=some c_canon:=by kernel_rfl
theorem u8_beq (c:UInt8) (n:UInt8):((c.toNat:Int) == (n.toNat:Int))=(c == n):=by
 rw [Bool.eq_iff_iff,beq_iff_eq,beq_iff_eq]
 exact ⟨fun e=>UInt8.toNat_inj.1 (by omega),fun e=>by rw [e]⟩
theorem calls_bool {P:Program} {G:World→Prop} {f:FuncId} {args:List A} {vs:List Value} {w:World} {b:Bool} (hc:ACall P G f args ⟨[],[]⟩ fun v _=>v = .bool b) (hG:∀ w':World,(∀ g,g < w.heap.size→w'.heap[g]?=w.heap[g]?)→G w')
  (ha:RepL (Ctx.of w) args vs):Calls P f vs.toArray w fun e w'=>e = .returned (.bool b)∧Below w.heap.size w w':=by
 refine (hc (Ctx.of w) vs (inv_of hG) ha).mono ?_
 rintro e w' ⟨C',h',v,cv,rfl,rfl,_,st,hr,rfl⟩
 rw [rep_bool] at hr; subst hr
 exact ⟨rfl,st.os,st.tape,st.output,st.size,fun g hg=>st.frame g hg rfl fun t ht=>by simp [Ctx.of] at ht⟩
theorem a_canon (s:List UInt8) (hl:s.length≤2000000) (h:Hp):ACall Tryz.prog GT 190 [.str s] h fun r h'=>r = .bool (Num.canonB s)∧h'=h:=by
 refine pcall ?_ rfl (by simp [A.pure,A.data]) h
 refine acall_of mixedT h_canon (by simp [c_canon]) ?_
 dsimp only [c_canon]
 obtain ⟨R,hR⟩:∃ R,Num.canonB s=R:=⟨_,rfl⟩
 rw [hR]
 unfold Num.canonB Num.body at hR
 by_cases hn:s=[]
 ·subst hn
  have e0:¬ ((0:Nat):Int) > 0:=by decide
  have e1:¬ (0:Int) < ((0:Nat):Int):=by decide
  have hR':R=false:=by rw [←hR]; rfl
  subst hR'
  refine run0 e0 ?_
  refine go_once ?_
  refine run0 e1 ?_
  exact ⟨_,le_refl _,rfl⟩
 have hpos:(s.length:Int) > 0:=by
  have:=List.length_pos_iff.2 hn; omega
 have h0:(0:Int) < (s.length:Int):=hpos
 obtain ⟨c,hc⟩:∃ c,s.getD 0 0=c:=⟨_,rfl⟩
 rw [hc] at hR
 have e45:((c.toNat:Int) == 45)=(c == 45):=u8_beq c 45
 have hbody:∃ t:List UInt8,t=(if c == 45 then s.drop 1 else s):=⟨_,rfl⟩
 obtain ⟨t,ht⟩:=hbody
 rw [←ht] at hR
 have htl:t.length≤2000000:=by
  rw [ht]; split
  ·rw [List.length_drop]; omega
  ·exact hl
 have hgr:∀ j:Nat,t.getD j 0=t.getD j 0:=fun _=>rfl
 have h1le:(1:Int)≤(s.length:Int):=by omega
 have z1:(0:Int)≤1:=by decide
 have n1:(1:Int).toNat=1:=rfl
 have n0:(0:Int).toNat=0:=rfl
 have key:∀ {G:Prop},((c == 45)=true→t=s.drop 1→G)→((c == 45)=false→t=s→G)→G:=fun p q=>by
  cases e:c == 45
  ·exact q e (by rw [ht,e]; rfl)
  ·exact p e (by rw [ht,e]; rfl)
 refine key (fun m1 m2=>?_) (fun m1 m2=>?_)
 ·rw [m1,Bool.true_and] at hR
  have m3:s.drop 1=t:=m2.symm
  have e10:((c.toNat:Int) == 45)=true:=by rw [e45,m1]
  cases h48:t == [48]
  rotate_left
  ·rw [h48] at hR
   have hR':R=false:=by rw [←hR,Bool.not_true,Bool.and_false]
   subst hR'
   refine run0 (ai hpos (ai h0 (ai n0 (ai hc (ai e10 (ai h1le (ai z1 (ai n1 (ai m3 h48))))))))) ?_
   exact ⟨_,le_refl _,rfl⟩
  rw [h48,Bool.not_false,Bool.and_true] at hR
  refine run0 (ai hpos (ai h0 (ai n0 (ai hc (ai e10 (ai h1le (ai z1 (ai n1 (ai m3 h48))))))))) ?_
  refine awp_loop (fun mm ts h=>∃ (j:Nat),mm=t.length - j∧j≤t.length∧h=⟨[],[]⟩∧(∀ k,k < j→Num.digB (t.getD k 0)=true)∧ts 0 = .str t∧ts 17 = .int .i64 (t.length:Nat)∧ts 18 = .int .i64 (j:Nat)) t.length ?_ ?_
  ·exact ⟨0,by omega,by omega,rfl,fun k hk=>absurd hk (Nat.not_lt_zero k),by (exact ev0 m3),by (exact ev0 m3),by (exact inv0 ti)⟩
  rintro mm ts h ⟨j,rfl,hjc,rfl,hok,t0,t17,t18⟩
  by_cases hj:j < t.length
  ·have hlt:(j:Int) < (t.length:Int):=by omega
   have hj0:(0:Int)≤(j:Int):=by omega
   have ei:IntKind.i64.wrap ((j:Int)+1)=((j+1:Nat):Int):=by rw [wrap64 (by omega) (by omega)]; omega
   obtain ⟨b,hb⟩:∃ b,t.getD j 0=b:=⟨_,rfl⟩
   have hdg:=Num.digB_int b
   obtain ⟨x,hx⟩:∃ x:Int,(b.toNat:Int)=x:=⟨_,rfl⟩
   rw [hx] at hdg
   by_cases x1:x < 48
   ·have hR':R=false:=by rw [←hR]; exact Num.all_fail hj (by rw [hb,hdg,decide_eq_false (by omega)]; rfl)
    subst hR'
    refine run0 (ai t0 (ai t17 (ai t18 (ai hlt (ai hj0 (ai hb (ai hx x1))))))) ?_
    exact ⟨_,le_refl _,rfl⟩
   by_cases x2:x > 57
   ·have hR':R=false:=by rw [←hR]; exact Num.all_fail hj (by rw [hb,hdg,decide_eq_true (show 48≤x by omega),decide_eq_false (by omega)]; rfl)
    subst hR'
    refine run0 (ai t0 (ai t17 (ai t18 (ai hlt (ai hj0 (ai hb (ai hx (ai x1 x2)))))))) ?_
    exact ⟨_,le_refl _,rfl⟩
   ·refine run0 (ai t0 (ai t17 (ai t18 (ai hlt (ai hj0 (ai hb (ai hx (ai x1 (ai x2 ei))))))))) ?_
    refine ⟨t.length - (j+1),by omega,j+1,rfl,by omega,rfl,fun k hk=>?_,by (exact ev0 t0),by (exact ev0 t17),by (exact ev0 ei)⟩
    by_cases e:k=j
    ·rw [e,hb,hdg,decide_eq_true (show 48≤x by omega),decide_eq_true (show x≤57 by omega)]; rfl
    ·exact hok k (by omega)
  ·have hlt:¬ ((j:Int) < (t.length:Int)):=by omega
   have hje:j=t.length:=by omega
   rw [hje] at hok
   have hE:=Num.all_end hok
   rw [hR] at hE
   cases hnt:t != []
   ·rw [hnt,Bool.false_and] at hE
    subst hE
    refine run0 (ai t0 (ai t17 (ai t18 (ai hlt hnt)))) ?_
    exact ⟨_,le_refl _,rfl⟩
   rw [hnt,Bool.true_and] at hE
   have hp2:(0:Int) < (t.length:Int):=by
    have:t≠[]:=by simpa using hnt
    have:=List.length_pos_iff.2 this; omega
   obtain ⟨b,hb⟩:∃ b,t.getD 0 0=b:=⟨_,rfl⟩
   rw [hb] at hE
   have e48:((b.toNat:Int) != 48)=(b != 48):=congrArg (!·) (u8_beq b 48)
   cases hb48:b != 48
   ·rw [hb48,Bool.false_or] at hE
    rw [hb48] at e48
    have el:((t.length:Int) == 1)=(t.length == 1):=by
     rw [Bool.eq_iff_iff,beq_iff_eq,beq_iff_eq]; omega
    rw [←hE] at el
    refine run0 (ai t0 (ai t17 (ai t18 (ai hlt (ai hnt (ai hp2 (ai n0 (ai hb (ai e48 el))))))))) ?_
    exact ⟨_,le_refl _,rfl⟩
   ·rw [hb48,Bool.true_or] at hE
    subst hE
    rw [hb48] at e48
    refine run0 (ai t0 (ai t17 (ai t18 (ai hlt (ai hnt (ai hp2 (ai n0 (ai hb e48)))))))) ?_
    exact ⟨_,le_refl _,rfl⟩
 ·have e10:((c.toNat:Int) == 45)=false:=by rw [e45,m1]
  rw [m1,Bool.false_and,Bool.not_false,Bool.and_true] at hR
  have m3:s=t:=m2.symm
  refine run0 (ai hpos (ai h0 (ai n0 (ai hc e10)))) ?_
  refine awp_loop (fun mm ts h=>∃ (j:Nat),mm=t.length - j∧j≤t.length∧h=⟨[],[]⟩∧(∀ k,k < j→Num.digB (t.getD k 0)=true)∧ts 0 = .str t∧ts 17 = .int .i64 (t.length:Nat)∧ts 18 = .int .i64 (j:Nat)) t.length ?_ ?_
  ·exact ⟨0,by omega,by omega,rfl,fun k hk=>absurd hk (Nat.not_lt_zero k),by (exact ev0 m3),by (exact ev0 m3),by (exact inv0 ti)⟩
  rintro mm ts h ⟨j,rfl,hjc,rfl,hok,t0,t17,t18⟩
  by_cases hj:j < t.length
  ·have hlt:(j:Int) < (t.length:Int):=by omega
   have hj0:(0:Int)≤(j:Int):=by omega
   have ei:IntKind.i64.wrap ((j:Int)+1)=((j+1:Nat):Int):=by rw [wrap64 (by omega) (by omega)]; omega
   obtain ⟨b,hb⟩:∃ b,t.getD j 0=b:=⟨_,rfl⟩
   have hdg:=Num.digB_int b
   obtain ⟨x,hx⟩:∃ x:Int,(b.toNat:Int)=x:=⟨_,rfl⟩
   rw [hx] at hdg
   by_cases x1:x < 48
   ·have hR':R=false:=by rw [←hR]; exact Num.all_fail hj (by rw [hb,hdg,decide_eq_false (by omega)]; rfl)
    subst hR'
    refine run0 (ai t0 (ai t17 (ai t18 (ai hlt (ai hj0 (ai hb (ai hx x1))))))) ?_
    exact ⟨_,le_refl _,rfl⟩
   by_cases x2:x > 57
   ·have hR':R=false:=by rw [←hR]; exact Num.all_fail hj (by rw [hb,hdg,decide_eq_true (show 48≤x by omega),decide_eq_false (by omega)]; rfl)
    subst hR'
    refine run0 (ai t0 (ai t17 (ai t18 (ai hlt (ai hj0 (ai hb (ai hx (ai x1 x2)))))))) ?_
    exact ⟨_,le_refl _,rfl⟩
   ·refine run0 (ai t0 (ai t17 (ai t18 (ai hlt (ai hj0 (ai hb (ai hx (ai x1 (ai x2 ei))))))))) ?_
    refine ⟨t.length - (j+1),by omega,j+1,rfl,by omega,rfl,fun k hk=>?_,by (exact ev0 t0),by (exact ev0 t17),by (exact ev0 ei)⟩
    by_cases e:k=j
    ·rw [e,hb,hdg,decide_eq_true (show 48≤x by omega),decide_eq_true (show x≤57 by omega)]; rfl
    ·exact hok k (by omega)
  ·have hlt:¬ ((j:Int) < (t.length:Int)):=by omega
   have hje:j=t.length:=by omega
   rw [hje] at hok
   have hE:=Num.all_end hok
   rw [hR] at hE
   cases hnt:t != []
   ·rw [hnt,Bool.false_and] at hE
    subst hE
    refine run0 (ai t0 (ai t17 (ai t18 (ai hlt hnt)))) ?_
    exact ⟨_,le_refl _,rfl⟩
   rw [hnt,Bool.true_and] at hE
   have hp2:(0:Int) < (t.length:Int):=by
    have:t≠[]:=by simpa using hnt
    have:=List.length_pos_iff.2 this; omega
   obtain ⟨b,hb⟩:∃ b,t.getD 0 0=b:=⟨_,rfl⟩
   rw [hb] at hE
   have e48:((b.toNat:Int) != 48)=(b != 48):=congrArg (!·) (u8_beq b 48)
   cases hb48:b != 48
   ·rw [hb48,Bool.false_or] at hE
    rw [hb48] at e48
    have el:((t.length:Int) == 1)=(t.length == 1):=by
     rw [Bool.eq_iff_iff,beq_iff_eq,beq_iff_eq]; omega
    rw [←hE] at el
    refine run0 (ai t0 (ai t17 (ai t18 (ai hlt (ai hnt (ai hp2 (ai n0 (ai hb (ai e48 el))))))))) ?_
    exact ⟨_,le_refl _,rfl⟩
   ·rw [hb48,Bool.true_or] at hE
    subst hE
    rw [hb48] at e48
    refine run0 (ai t0 (ai t17 (ai t18 (ai hlt (ai hnt (ai hp2 (ai n0 (ai hb e48)))))))) ?_
    exact ⟨_,le_refl _,rfl⟩
end AX
theorem numParse_any (l:List UInt8) (hl:l.length≤2000000) (w:World) (g:GT w) :
  Calls Tryz.prog 162 #[.string ⟨l.toArray⟩] w fun e w'=>e = .returned (.tuple #[.int .i64 (Num.parse l).1,.int .i64 (Num.parse l).2])∧Below w.heap.size w w':=by
 have hc:=AX.calls_bool (w:=w) (vs:=[.string ⟨l.toArray⟩]) ((AX.a_canon l hl ⟨[],[]⟩).mono fun v h' hv=>hv.1) (AX.gt_keep g) (AX.repL_cons.2 ⟨_,_,rfl,AX.rep_str.2 rfl,AX.repL_nil.2 rfl⟩)
 have hf:=Num.parse_form l
 obtain ⟨P1,hP1⟩:∃ p,Num.parse l=p:=⟨_,rfl⟩
 rw [hP1] at hf ⊢
 cases hB:Num.canonB l
 ·rw [hB,if_pos rfl] at hf
  subst hf
  rw [hB] at hc
  go_enter Tryz.func162,Tryz.ntmps162
  go_wp2_with fail
  refine hc.mono ?_; rintro e w1 ⟨rfl,b1⟩
  have B1:=kept b1; clear b1
  go_wp2
  refine bodyPost_ret (v:=.tuple #[.int .i64 0,.int .i64 2]) (by simp [results,Tryz.results162,go_sem]) rfl ⟨rfl,B1.out⟩
 ·rw [hB,if_neg (by decide)] at hf
  rw [hB] at hc
  have hsz:(⟨l.toArray⟩:ByteArray).size≤9223372036854775806:=by rw [size_mk]; omega
  have hlim:(⟨l.toArray⟩:ByteArray).size≤281474976710656:=by rw [size_mk]; omega
  have hsyn:=g.esyn
  obtain ⟨ev,hev,hev2⟩:=g.erng
  have nilne:∀ (a b:Value),True:=fun _ _=>AX.ti
  rcases Num.parseIntB_canon l hB with ⟨h1,h2⟩ | ⟨h1,h2 | ⟨v,h2,h3⟩⟩
  ·rw [if_neg (by omega)] at hf
   obtain ⟨v,hv⟩:∃ v:Int,(if l.getD 0 0 == 45 then -(Num.val (Num.body l):Int) else (Num.val (Num.body l):Int))=v:=⟨_,rfl⟩
   rw [hv] at h2 hf
   have hvr:-9007199254740992≤v∧v≤9007199254740992:=by rw [←hv]; split <;> omega
   have hp:∀ w':World,Calls Tryz.prog 191 #[.string ⟨l.toArray⟩,.int .i64 10,.int .i64 64] w' fun e w2=>e = .returned (.tuple #[.int .i64 v,.nilIface])∧(w2=w'∨∃ t,w2=Lib.bytesWorld w' 5 t):=fun w'=>Any.strconv_ParseInt_10_at64_ok (P:=Tryz.prog) Tryz.lays174 ⟨l.toArray⟩ hsz v h2 w'
   have Hnv:=kept (fun w'=>numValid_any v w')
   rw [decide_eq_true hvr] at Hnv
   subst hf
   have Hp:=kept hp
   clear hp hsz hlim hsyn hev hev2 hvr hv h1 h2 hB
   go_enter Tryz.func162,Tryz.ntmps162
   go_wp2_with fail
   refine hc.mono ?_; rintro e w1 ⟨rfl,b1⟩
   have B1:=kept b1; clear b1
   go_wp2_with fail
   (with_reducible refine (Hp.out _).mono ?_); rintro e w2 ⟨rfl,hw⟩
   have B2:Kept (Below w.heap.size w w2):=kept (by
    rcases hw with rfl | ⟨t,rfl⟩
    ·exact B1.out
    ·exact bthen B1.out (Lib.bytesWorld_below _ _ _))
   clear hw
   go_wp2_with fail
   (with_reducible refine (Hnv.out _).mono ?_); rintro e w3 ⟨rfl,rfl⟩
   go_wp2
   refine bodyPost_ret (v:=.tuple #[.int .i64 v,.int .i64 0]) (by simp [results,Tryz.results162,go_sem]) rfl ⟨rfl,B2.out⟩
  ·rw [if_pos (by omega)] at hf
   have hp:∀ w':World,w'.cell? ⟨4,0,none⟩=some ev→Calls Tryz.prog 191 #[.string ⟨l.toArray⟩,.int .i64 10,.int .i64 64] w' fun e w2=>(∃ a b c,e = .returned (.tuple #[.int .i64 a,.iface b c]))∧Below w'.heap.size w' w2:=fun w' hv=>(Any.strconv_ParseInt_10_at64_range (P:=Tryz.prog) Tryz.lays174 ⟨l.toArray⟩ hlim h2 ev w' hv hev2).mono fun e w2 ⟨N,q1,q2,q3,q4⟩=>⟨⟨_,_,_,q1⟩,q4⟩
   subst hf
   have Hp:=kept hp
   have Hev:=kept hev
   clear hp hsz hlim hsyn hev hev2 h1 h2 hB
   go_enter Tryz.func162,Tryz.ntmps162
   go_wp2_with fail
   refine hc.mono ?_; rintro e w1 ⟨rfl,b1⟩
   have B1:=kept b1
   have Hev1:=kept (show w1.cell? ⟨4,0,none⟩=some ev from by rw [←Hev.out]; simp only [World.cell?,b1.block _ (cell_there Hev.out).2])
   clear b1
   go_wp2_with fail
   (with_reducible refine (Hp.out _ Hev1.out).mono ?_); rintro e w2 ⟨⟨a,b,c,rfl⟩,b2⟩
   have B2:Kept (Below w.heap.size w w2):=kept (bthen B1.out b2)
   clear b2
   go_wp2
   refine bodyPost_ret (v:=.tuple #[.int .i64 0,.int .i64 5]) (by simp [results,Tryz.results162,go_sem]) rfl ⟨rfl,B2.out⟩
  ·rw [if_pos (by omega)] at hf
   have hp:∀ w':World,Calls Tryz.prog 191 #[.string ⟨l.toArray⟩,.int .i64 10,.int .i64 64] w' fun e w2=>e = .returned (.tuple #[.int .i64 v,.nilIface])∧(w2=w'∨∃ t,w2=Lib.bytesWorld w' 5 t):=fun w'=>Any.strconv_ParseInt_10_at64_ok (P:=Tryz.prog) Tryz.lays174 ⟨l.toArray⟩ hsz v h2 w'
   have Hnv:=kept (fun w'=>numValid_any v w')
   rw [decide_eq_false h3] at Hnv
   subst hf
   have Hp:=kept hp
   clear hp hsz hlim hsyn hev hev2 h3 h1 h2 hB
   go_enter Tryz.func162,Tryz.ntmps162
   go_wp2_with fail
   refine hc.mono ?_; rintro e w1 ⟨rfl,b1⟩
   have B1:=kept b1; clear b1
   go_wp2_with fail
   (with_reducible refine (Hp.out _).mono ?_); rintro e w2 ⟨rfl,hw⟩
   have B2:Kept (Below w.heap.size w w2):=kept (by
    rcases hw with rfl | ⟨t,rfl⟩
    ·exact B1.out
    ·exact bthen B1.out (Lib.bytesWorld_below _ _ _))
   clear hw
   go_wp2_with fail
   (with_reducible refine (Hnv.out _).mono ?_); rintro e w3 ⟨rfl,rfl⟩
   go_wp2
   refine bodyPost_ret (v:=.tuple #[.int .i64 0,.int .i64 5]) (by simp [results,Tryz.results162,go_sem]) rfl ⟨rfl,B2.out⟩
theorem AX.a_numParse (s:List UInt8) (hl:s.length≤2000000) (h:AX.Hp):AX.ACall Tryz.prog GT 162 [.str s] h fun r h'=>r = .tup [.int .i64 (Num.parse s).1,.int .i64 (Num.parse s).2]∧h'=h:=
 AX.acall_imp (AX.args1 AX.r_str) (fun w hg=>numParse_any s hl w hg) (fun C=>AX.rep_tup.2 ⟨_,rfl,AX.repL_cons.2 ⟨_,_,rfl,AX.rep_int.2 rfl,AX.repL_cons.2 ⟨_,_,rfl,AX.rep_int.2 rfl,AX.repL_nil.2 rfl⟩⟩⟩) h
end Go.Proofs.YtahmpiioegemaaaGreatDoor

namespace Go.Proofs.YtahmpiioegemaaaGreatDoor
open Go.RowKit Go.Lib
def stops:ByteArray:=⟨#[46,91]⟩
theorem below_iter (w:World) (s:ByteArray) (p:Nat):Below w.heap.size w (w.iter s p):=by
 refine ⟨rfl,rfl,rfl,?_,fun g hg=>?_⟩
 ·show w.heap.size≤(w.heap.push (Obj.stringIter s p)).size
  simp
 ·show (w.heap.push (Obj.stringIter s p))[g]?=_
  rw [Array.getElem?_push,if_neg (by omega)]
set_option maxRecDepth 100000 in
theorem indexRune_err (w:World):Calls Tryz.prog 217 #[.string stops,.int .i32 65533] w fun e w'=>e = .returned (.int .i64 (-1))∧Below w.heap.size w w':=by
 go_enter Tryz.func217,Tryz.ntmps217
 have hsz:stops.size=2:=rfl
 go_wp2_with fail
 go_loopg [5,6] 2 (fun g _ _ wx=>∃ i:Nat,i+g=2∧wx=w.iter stops i)
 case atStart=>exact ⟨0,by omega,rfl⟩
 case round =>
  obtain ⟨i,hig,rfl⟩:=hrel
  cases gk with
  | zero =>
   obtain rfl:i=2:=by omega
   have hnx:=fun ty=>run_next_end (P:=Tryz.prog) w stops 2 ty (by decide)
   go_wp2
   go_ret
   exact ⟨rfl,below_iter w stops 2⟩
  | succ g =>
   have hi:i=0∨i=1:=by omega
   rcases hi with rfl | rfl
   ·have hnx:=fun ty=>run_next_ascii (P:=Tryz.prog) w stops 0 ty (by decide) (by decide)
    have e0:((stops[0]'(by decide)).toNat:Int)=46:=rfl
    rw [e0] at hnx
    go_wp2
    go_roundg g
    case measure=>omega
    case rel=>exact ⟨1,by omega,rfl⟩
   ·have hnx:=fun ty=>run_next_ascii (P:=Tryz.prog) w stops 1 ty (by decide) (by decide)
    have e0:((stops[1]'(by decide)).toNat:Int)=91:=rfl
    rw [e0] at hnx
    go_wp2
    go_roundg g
    case measure=>omega
    case rel=>exact ⟨2,by omega,rfl⟩
set_option maxRecDepth 100000 in
theorem indexRune_hi (r:Int) (h0:128≤r) (h1:r≤2147483647) (hr:r≠65533) (w:World):Calls Tryz.prog 217 #[.string stops,.int .i32 r] w fun e w'=>e = .returned (.int .i64 (-1))∧Below w.heap.size w w':=by
 go_enter Tryz.func217,Tryz.ntmps217
 have hsz:stops.size=2:=rfl
 have c1:decide (0≤r)=true:=decide_eq_true (by omega)
 have c2:decide (r < 128)=false:=decide_eq_false (by omega)
 have c3:(r == 65533)=false:=beq_eq_false_iff_ne.2 hr
 have Hv:=kept (fun w=>Tryz.utf8_ValidRune r w)
 cases hv:Lib.validRune r
 ·go_wp2_with fail
  (with_reducible refine (Hv.out _).mono ?_); rintro e w1 ⟨rfl,rfl⟩
  rw [hv]
  go_wp2
  go_ret
  exact ⟨rfl,Below.refl _ _⟩
 ·have hval:Utf8.valid r=true:=by rw [Go.validRune_eq]; unfold Lib.validRune at hv; unfold Go.validRune; exact hv
  obtain ⟨f1,f2,f3⟩:=encode_facts r hval h0
  go_wp2_with fail
  (with_reducible refine (Hv.out _).mono ?_); rintro e w1 ⟨rfl,rfl⟩
  rw [hv]
  have e1:IntKind.i64.wrap (((Utf8.encode r).size:Int) - 1)=(((Utf8.encode r).size - 1:Nat):Int):=by rw [show ((Utf8.encode r).size:Int) - 1=(((Utf8.encode r).size - 1:Nat):Int) by omega]; exact Go.IntWalk.i64_in _ ⟨by omega,by omega⟩
  have hcv:=fun (w:World)=>run_convert_int_string (P:=Tryz.prog) w 21 9 .i32 r rfl rfl
  go_wp2_with fail
  apply wp_scope_straight
  go_wp2
  go_loopg [9,10,11,12] 1 (fun g v9 v10 v11 v12 wx=>wx=w1∧v9 = .int .i64 (((Utf8.encode r).size - 1:Nat):Int))
  case atStart=>exact ⟨rfl,rfl⟩
  case round =>
   obtain ⟨rfl,rfl⟩:=hrel
   by_cases h2:(Utf8.encode r).size=2
   ·have e2:(Utf8.encode r).size - 1=1:=by omega
    obtain ⟨x,hx⟩:∃ x:UInt8,(Utf8.encode r)[1]'(by omega)=x:=⟨_,rfl⟩
    have hx1:128≤x.toNat:=by
     have:=f3 (by omega)
     simp only [e2] at this
     rw [hx] at this; exact this
    have hi1:(1:Nat) < (Utf8.encode r).size:=by omega
    have hs1:(stops[1]'(by decide)).toNat=91:=rfl
    have hne:((91:Int) != (x.toNat:Int))=true:=by simp; omega
    have e3:(((Utf8.encode r).size - 1:Nat):Int)=1:=by omega
    have hi2:(1:Int) < ((Utf8.encode r).size:Int):=by omega
    rw [e3]
    go_wp2
    apply wp_scope_straight
    go_wp2_with fail
    go_region
    have hw2:IntKind.i64.wrap ((1:Int)+1)=2:=rfl
    have hib0:Lib.indexByte [] x=-1:=rfl
    go_wp2_with fail
    go_region_with ((with_reducible refine (Tryz.strings_IndexByte _ _ _).mono ?_); rintro e2 w2 ⟨rfl,rfl⟩)
    all_goals
     go_wp2
     rw [Exit.noGoto_ret]
     go_wp2
     rw [Exit.noGoto_ret]
     go_wp2
     go_ret
     first | exact ⟨rfl,below_drewN (Below.refl _ _) 2⟩ | exact ⟨rfl,below_drewN _ 2⟩
   ·have hlt:¬ ((((Utf8.encode r).size - 1:Nat):Int) < (stops.size:Int)):=by omega
    go_wp2
    go_ret
    exact ⟨rfl,Below.refl _ _⟩
theorem decode_conts (s:ByteArray) (i j:Nat) (h1:1≤j) (hj:j < (Utf8.decode s i).2):i+j < s.size∧128≤(s.get! (i+j)).toNat:=by
 unfold Utf8.decode at hj
 dsimp only at hj
 split at hj
 ·simp only at hj; omega
 ·split at hj
  ·next h =>
   simp only [Bool.and_eq_true,decide_eq_true_eq,beq_iff_eq] at h
   split at hj
   ·simp only at hj
    obtain rfl:j=1:=by omega
    omega
   ·simp only at hj; omega
  ·split at hj
   ·next h =>
    simp only [Bool.and_eq_true,decide_eq_true_eq,beq_iff_eq] at h
    split at hj
    ·simp only at hj
     have:j=1∨j=2:=by omega
     rcases this with rfl | rfl <;> omega
    ·simp only at hj; omega
   ·split at hj
    ·next h =>
     simp only [Bool.and_eq_true,decide_eq_true_eq,beq_iff_eq] at h
     split at hj
     ·simp only at hj
      have:j=1∨j=2∨j=3:=by omega
      rcases this with rfl | rfl | rfl <;> omega
     ·simp only at hj; omega
    ·simp only at hj; omega
theorem indexRune_any (r:Int) (h0:128≤r) (h1:r≤2147483647) (w:World):Calls Tryz.prog 217 #[.string stops,.int .i32 r] w fun e w'=>e = .returned (.int .i64 (-1))∧Below w.heap.size w w':=by
 by_cases h:r=65533
 ·subst h; exact indexRune_err w
 ·exact indexRune_hi r h0 h1 h w
theorem noAny_skip {s:ByteArray} {i:Nat} (hi:i < s.size) (hx:128≤(s[i]'hi).toNat) (h:Lib.NoAny s.data.toList stops.data.toList i):Lib.NoAny s.data.toList stops.data.toList (i+(Utf8.decode s i).2)∧i+(Utf8.decode s i).2≤s.size∧1≤(Utf8.decode s i).2:=by
 have hd:=(decode_high s i hi hx).2
 refine ⟨fun j b hj hb=>?_,?_,hd⟩
 ·by_cases hji:j < i
  ·exact h j b hji hb
  ·have hjs:j < s.size:=by
    have:=(List.getElem?_eq_some_iff.1 hb).1
    simpa using this
   have hb':b=s[j]'hjs:=by
    have:=Lib.data_getElem? s j hjs
    rw [this] at hb; exact (Option.some.inj hb).symm
   have h128:128≤b.toNat:=by
    by_cases hji2:j=i
    ·subst hji2; rw [hb']; exact hx
    ·have:=(decode_conts s i (j - i) (by omega) (by omega)).2
     rw [show i+(j - i)=j by omega] at this
     rw [hb']
     have e:s.get! j=s[j]'hjs:=get_at s j hjs
     rw [e] at this; exact this
   have hne:b≠46∧b≠91:=by
    constructor
    ·rintro rfl; exact absurd h128 (by decide)
    ·rintro rfl; exact absurd h128 (by decide)
   show [(46:UInt8),91].contains b=false
   simp [hne.1,hne.2]
 ·by_cases h1:(Utf8.decode s i).2=1
  ·omega
  ·have:=(decode_conts s i ((Utf8.decode s i).2 - 1) (by omega) (by omega)).1
   omega
set_option maxRecDepth 100000 in
theorem indexAny_short (s:ByteArray) (w:World) (h8:s.size≤8):Calls Tryz.prog 197 #[.string s,.string stops] w fun e w'=>e = .returned (.int .i64 (Lib.indexAny s.data.toList stops.data.toList))∧Below w.heap.size w w':=by
 have hss:stops.size=2:=rfl
 have hemp:stops.toList.isEmpty=false:=by rw [Lib.toList_data]; rfl
 have hn1:((stops.size:Int) == 1)=false:=rfl
 have h8z:decide ((8:Int) < (s.size:Int))=false:=decide_eq_false (by omega)
 go_enter Tryz.func197,Tryz.ntmps197
 go_wp2_with fail
 (with_reducible refine (Tryz.strings_shouldUseASCIISet _ _).mono ?_); rintro e w1 ⟨rfl,rfl⟩
 rw [h8z]
 go_wp2_with fail
 go_loopg [9,10] s.size (fun g _ _ wx=>∃ i:Nat,s.size≤i+g∧i≤s.size∧wx.heap[w1.heap.size]?=some (.stringIter s i)∧Below w1.heap.size w1 wx∧Lib.NoAny s.data.toList stops.data.toList i)
 case atStart=>exact ⟨0,by omega,by omega,World.iter_heap _ _ _,below_iter _ _ _,Lib.NoAny.zero _ _⟩
 case round =>
  obtain ⟨i,hig,his,hit,hbel,hno⟩:=hrel
  by_cases hi:i < s.size
  ·cases gk with
   | zero=>omega
   | succ g =>
    obtain ⟨x,hx⟩:∃ x:UInt8,s[i]'hi=x:=⟨_,rfl⟩
    have hxl:s.data.toList[i]?=some x:=by rw [←hx]; exact Lib.data_getElem? s i hi
    by_cases ha:x.toNat < 128
    ·have hnx:=fun ty=>run_next_ascii_at (P:=Tryz.prog) wr w1.heap.size s i ty hit hi (by rw [hx]; exact ha)
     rw [hx] at hnx
     have Hit:=kept (iterAt_heap wr w1.heap.size s i (i+1) hit)
     have Hbel:=kept (below_iterAt hbel (Nat.le_refl _) s (i+1))
     have Hno:=kept hno
     have Hxl:=kept hxl
     have hcon:=Lib.contains_iff_indexByte stops.data.toList x
     have hback:((x.toNat:Int)).toNat.toUInt8=x:=by simp
     have Hx:=kept hx
     clear hit hbel hno hxl hx
     cases hin:stops.data.toList.contains x
     ·rw [hin] at hcon
      have hlt:¬ ((0:Int)≤Lib.indexByte stops.data.toList x):=of_decide_eq_false hcon.symm
      clear hcon
      go_wp2_with fail
      (with_reducible refine (Tryz.strings_IndexRune_ascii _ _ _ (by omega) (by omega)).mono ?_); rintro e w2 ⟨rfl,rfl⟩
      rw [hback]
      go_wp2
      go_roundg g
      case measure=>omega
      case rel=>exact ⟨i+1,by omega,by omega,Hit.out,Hbel.out,Hno.out.succ Hxl.out hin⟩
     ·rw [hin] at hcon
      have hge:(0:Int)≤Lib.indexByte stops.data.toList x:=of_decide_eq_true hcon.symm
      clear hcon
      go_wp2_with fail
      (with_reducible refine (Tryz.strings_IndexRune_ascii _ _ _ (by omega) (by omega)).mono ?_); rintro e w2 ⟨rfl,rfl⟩
      rw [hback]
      go_wp2
      go_ret
      exact ⟨by rw [Lib.indexAny_hit Hno.out Hxl.out hin]; rfl,Hbel.out⟩
    ·have hx128:128≤(s[i]'hi).toNat:=by rw [hx]; omega
     obtain ⟨k1,k2,k3⟩:=noAny_skip hi hx128 hno
     have d1:=(decode_high s i hi hx128).1
     have d2:=decode_le s i
     have hnx:=fun ty=>run_next_any_at (P:=Tryz.prog) wr w1.heap.size s i ty hit hi
     obtain ⟨⟨c,d⟩,hcd⟩:∃ p,Utf8.decode s i=p:=⟨_,rfl⟩
     rw [hcd] at k1 k2 k3 d1 d2 hnx
     dsimp only at k1 k2 k3 d1 d2 hnx
     have Hit:=kept (iterAt_heap wr w1.heap.size s i (i+d) hit)
     have Hbel:=kept (below_iterAt hbel (Nat.le_refl _) s (i+d))
     have K1:=kept k1
     clear hit hbel hno hxl hx hx128 hcd k1
     go_wp2_with fail
     (with_reducible refine (indexRune_any _ (by omega) (by omega) _).mono ?_); rintro e w2 ⟨rfl,b2⟩
     have hit2:w2.heap[w1.heap.size]?=some (.stringIter s (i+d)):=by rw [b2.block _ (Array.getElem?_eq_some_iff.1 Hit.out).1]; exact Hit.out
     have Hit2:=kept hit2
     have Hbel2:=kept (Hbel.out.trans (b2.mono (by have:=Hbel.out.size; exact this)))
     clear hit2 b2
     go_wp2
     go_roundg g
     case measure=>omega
     case rel=>exact ⟨i+d,by omega,by omega,Hit2.out,Hbel2.out,K1.out⟩
  ·obtain rfl:i=s.size:=by omega
   have hnx:=fun ty=>run_next_end_at (P:=Tryz.prog) wr w1.heap.size s s.size ty hit (by omega)
   have Hno:=kept hno
   have Hbel:=kept hbel
   clear hno hbel
   go_wp2
   go_ret
   exact ⟨by rw [Lib.indexAny_none (by rw [←Lib.size_eq]; exact Hno.out)]; rfl,Hbel.out⟩
set_option maxHeartbeats 8000000 in
set_option maxRecDepth 1000000 in
theorem indexAny_long (s:ByteArray) (h8:8 < s.size) (hs:s.size≤9223372036854775807) (w:World):Calls Tryz.prog 197 #[.string s,.string stops] w fun e w'=>e = .returned (.int .i64 (Lib.indexAny s.data.toList stops.data.toList))∧Below w.heap.size w w':=by
 have hz:=zero_of_info (P:=Tryz.prog) (t:=262) (n:=256) (v:=.agg (Array.replicate 256 (.bool false))) (by kernel_rfl)
 obtain ⟨cells,hcells⟩:∃ c,Lib.setCells stops.data.toList=c:=⟨_,rfl⟩
 have hasc:∀ (j:Nat) b,stops.data.toList[j]?=some b→b.toNat < 128:=by
  intro j b hb
  match j,hb with
  | 0,hb=>cases hb; decide
  | 1,hb=>cases hb; decide
  | j+2,hb=>simp [stops] at hb
 have Hset:=kept (Tryz.strings_makeASCIISet hz.1 stops w (by decide) hasc)
 obtain ⟨W,hW⟩:∃ W,(w.alloc (.cells cells 262)).alloc (.cells cells 262)=W:=⟨_,rfl⟩
 have hbel:Below w.heap.size w W:=by
  rw [←hW]
  exact ((Below.refl _ _).alloc (Nat.le_refl _) _).alloc (((Below.refl w.heap.size w).alloc (Nat.le_refl _) (.cells cells 262)).size) _
 have hcell:∀ x:UInt8,W.cell? ⟨w.heap.size+1,x.toNat,none⟩=some (.bool (stops.data.toList.contains x)):=fun x=>by
  rw [←hW,World.cell?_alloc_at _ _ _ _ (by simp),←hcells,Lib.setCells_at]
 have hst:(storeCells ⟨w.heap.size+1,0,none⟩ cells.toList 0).run Tryz.prog ((w.alloc (.cells cells 262)).alloc (.cells (Array.replicate 256 (.bool false)) 262)) = .ok () W:=by
  have:=run_storeCells_new (P:=Tryz.prog) (w.alloc (.cells cells 262)) 262 (Array.replicate 256 (.bool false)) cells (by rw [←hcells,Lib.setCells_size]; exact hz.2) (by rw [←hcells,Lib.setCells_size,Array.size_replicate]) (by rw [←hcells]; exact Lib.setCells_one _)
  rw [hW] at this
  simpa using this
 have hemp:stops.toList.isEmpty=false:=by rw [Lib.toList_data]; rfl
 have hn1:((stops.size:Int) == 1)=false:=rfl
 have h8z:decide ((8:Int) < (s.size:Int))=true:=decide_eq_true (by omega)
 have HC:=kept hcell
 have HB:=kept hbel
 clear hcell hbel
 rw [hcells] at Hset
 go_enter Tryz.func197,Tryz.ntmps197
 go_wp2_with fail
 (with_reducible refine (Tryz.strings_shouldUseASCIISet _ _).mono ?_); rintro e w1 ⟨rfl,rfl⟩
 rw [h8z]
 go_wp2_with fail
 (with_reducible refine Hset.out.mono ?_); rintro e w1 ⟨rfl,rfl⟩
 have hcsz:cells.size=256:=by rw [←hcells]; exact Lib.setCells_size _
 have e0:Tryz.zeroCells262=Array.replicate 256 (.bool false):=by kernel_rfl
 go_wp2
 go_loopg [8] s.size (fun g s8 wx=>∃ i:Nat,i+g=s.size∧s8 = .int .i64 i∧wx=W∧Lib.NoAny s.data.toList stops.data.toList i)
 case atStart=>exact ⟨0,by omega,rfl,rfl,Lib.NoAny.zero _ _⟩
 case round =>
  obtain ⟨i,hig,rfl,rfl,hno⟩:=hrel
  have HN:=kept hno
  clear hno
  cases gk with
  | zero =>
   obtain rfl:i=s.size:=by omega
   have hiz:¬ ((s.size:Int) < (s.size:Int)):=by omega
   go_wp2
   go_ret
   exact ⟨by rw [Lib.indexAny_none (by rw [←Lib.size_eq]; exact HN.out)]; rfl,HB.out⟩
  | succ g =>
   have hi:i < s.size:=by omega
   have hiz:(i:Int) < (s.size:Int):=by omega
   have hw:IntKind.i64.wrap ((i:Int)+1)=(i:Int)+1:=Go.IntWalk.i64_in _ ⟨by omega,by omega⟩
   obtain ⟨x,hx⟩:∃ x:UInt8,s[i]'hi=x:=⟨_,rfl⟩
   have hxl:s.data.toList[i]?=some x:=by rw [←hx]; exact Lib.data_getElem? s i hi
   have Hxl:=kept hxl
   clear hxl
   have hcx:=HC.out x
   cases hin:stops.data.toList.contains x <;> rw [hin] at hcx
   ·go_wp2_with fail
    (with_reducible refine (Tryz.asciiSet_contains _ x _ _ hcx).mono ?_); rintro e w2 ⟨rfl,rfl⟩
    go_wp2
    go_roundg g
    case measure=>omega
    case rel=>exact ⟨i+1,by omega,by first | rfl | simp,rfl,HN.out.succ Hxl.out hin⟩
   ·go_wp2_with fail
    (with_reducible refine (Tryz.asciiSet_contains _ x _ _ hcx).mono ?_); rintro e w2 ⟨rfl,rfl⟩
    go_wp2
    go_ret
    exact ⟨by rw [Lib.indexAny_hit HN.out Hxl.out hin]; rfl,HB.out⟩
theorem indexAny_any (s:ByteArray) (hs:s.size≤9223372036854775807) (w:World):Calls Tryz.prog 197 #[.string s,.string stops] w fun e w'=>e = .returned (.int .i64 (Lib.indexAny s.data.toList stops.data.toList))∧Below w.heap.size w w':=by
 by_cases h8:s.size≤8
 ·exact indexAny_short s w h8
 ·exact indexAny_long s (by omega) hs w
end Go.Proofs.YtahmpiioegemaaaGreatDoor

namespace Go.Proofs.YtahmpiioegemaaaGreatDoor
open Go.RowKit
namespace Adr
def first (k:Nat) (c:UInt8):Bool:=if k=0 then letter c else wordB c
def idOk (j:Nat) (s:List UInt8):Prop:=∀ k,k < j→first k (s.getD k 0)=true
theorem wordB_of_letter {c:UInt8} (h:letter c=true):wordB c=true:=by unfold wordB; rw [h]; rfl
theorem ident_fail {s:List UInt8} {j:Nat} (hj:j < s.length) (h:first j (s.getD j 0)=false):ident s=false:=by
 unfold ident
 unfold first at h
 split at h
 ·next e =>
  subst e
  rw [h]; simp
 ·have:s.all wordB=false:=by
   rw [List.all_eq_false]
   refine ⟨s[j],List.getElem_mem hj,?_⟩
   have e:s.getD j 0=s[j]:=by simp [List.getD,hj]
   rw [e] at h; rw [h]; decide
  simp [this]
theorem ident_end {s:List UInt8} (h:idOk s.length s):ident s=(s != []&&decide (s.length≤64)):=by
 unfold ident
 cases s with
 | nil=>rfl
 | cons c t =>
  have h0:letter ((c::t).getD 0 0)=true:=by
   have:=h 0 (by simp)
   unfold first at this
   rwa [if_pos rfl] at this
  have h1:(c::t).all wordB=true:=by
   rw [List.all_eq_true]
   intro x hx
   obtain ⟨j,hj,rfl⟩:=List.getElem_of_mem hx
   have:=h j hj
   have e:(c::t).getD j 0=(c::t)[j]:=by rw [List.getD_eq_getElem?_getD,List.getElem?_eq_getElem hj]; rfl
   unfold first at this
   rw [e] at this
   split at this
   ·exact wordB_of_letter this
   ·exact this
  rw [h0,h1]
  simp
set_option maxRecDepth 100000 in
theorem or_letter:∀ n:Fin 256,letter (UInt8.ofNat n.val)=!((((n.val:Nat):Int) != 95)&&(decide (bits .or .u8 ((n.val:Nat):Int) 32 < 97)||decide (bits .or .u8 ((n.val:Nat):Int) 32 > 122))):=by decide +kernel
theorem letter_or (c:UInt8):letter c=!(((c.toNat:Int) != 95)&&(decide (bits .or .u8 (c.toNat:Int) 32 < 97)||decide (bits .or .u8 (c.toNat:Int) 32 > 122))):=by
 have:=or_letter ⟨c.toNat,c.toNat_lt⟩
 simpa using this
end Adr
namespace AX
def c_ident:AX.AFn:=⟨50,aS [aR 2 (.mv (.c (.bool false)))] (.seq (aS [aM 5 0,aR 6 (.len true (.t 5)),aR 7 (.mv (aI 0))] (.block 0 (.loop (aS [aR 8 (.bin .lss (.t 7) (.t 6))] (.seq (.cond (.t 8) (.skip) (.exit 0)) (.seq (.block 1 (aS [aM 9 7,aM 3 9] (aS [aM 10 0,aM 11 3,aR 12 (.sidx (.t 10) (.t 11)),aR 13 (.bin .or (.t 12) (.c (.int .u8 32))),aM 4 13] (aS [aM 14 0,aM 15 3,aR 16 (.sidx (.t 14) (.t 15)),aR 17 (.bin .neq (.t 16) (.c (.int .u8 95))),aM 18 17,aG 19 (.mv (.t 4)) 18 true,aG 20 (.bin .lss (.t 19) (.c (.int .u8 97))) 18 true,aG 21 (.mv (.t 20)) 18 true,aG 22 (.mv (.t 4)) 21 false,aG 23 (.bin .gtr (.t 22) (.c (.int .u8 122))) 21 false,aG 24 (.pick (.t 21) (.c (.bool true)) (.t 23)) 18 true,aR 25 (.pick (.t 18) (.t 24) (.c (.bool false))),aM 26 25,aG 27 (.mv (.t 3)) 26 true,aG 28 (.bin .eql (.t 27) (aI 0)) 26 true,aG 29 (.mv (.t 28)) 26 true,aG 30 (.mv (.t 0)) 29 false,aG 31 (.mv (.t 3)) 29 false,aG 32 (.sidx (.t 30) (.t 31)) 29 false,aG 33 (.bin .lss (.t 32) (.c (.int .u8 48))) 29 false,aG 34 (.pick (.t 29) (.c (.bool true)) (.t 33)) 26 true,aG 35 (.mv (.t 34)) 26 true,aG 36 (.mv (.t 0)) 35 false,aG 37 (.mv (.t 3)) 35 false,aG 38 (.sidx (.t 36) (.t 37)) 35 false,aG 39 (.bin .gtr (.t 38) (.c (.int .u8 57))) 35 false,aG 40 (.pick (.t 35) (.c (.bool true)) (.t 39)) 26 true,aR 41 (.pick (.t 26) (.t 40) (.c (.bool false)))] (.cond (.t 41) (aS [aR 2 (.mv (.c (.bool false)))] (.ret)) (.skip)))))) (.reg false [aR 42 (.bin .add (.t 7) (aI 1)),aM 7 42]))))))) (aS [aM 43 0,aR 44 (.bin .neq (.t 43) (.c (.str []))),aM 45 44,aG 46 (.mv (.t 0)) 45 true,aG 47 (.len true (.t 46)) 45 true,aG 48 (.bin .leq (.t 47) (aI 64)) 45 true,aR 49 (.pick (.t 45) (.t 48) (.c (.bool false))),aM 2 49] (.ret))),[.t 2]⟩
theorem h_ident:AX.compFn Tryz.prog 134=some c_ident:=by kernel_rfl
def c_lcutp:AX.AFn:=⟨15,aS [aR 4 (.mv (.c (.str []))),aR 5 (.mv (.c (.bool false)))] (.seq (aS [aM 6 0,aM 7 1,aR 8 (.call 182 [.t 6,.t 7]),aR 9 (.un .not (.t 8))] (.cond (.t 9) (aS [aM 10 0,aM 4 10,aR 5 (.mv (.c (.bool false)))] (.ret)) (.skip))) (aS [aM 11 0,aM 12 1,aR 13 (.len true (.t 12)),aR 14 (.ssl (.t 11) (some (.t 13)) none),aM 4 14,aR 5 (.mv (.c (.bool true)))] (.ret))),[.t 4,.t 5]⟩
theorem h_lcutp:AX.compFn Tryz.prog 216=some c_lcutp:=by kernel_rfl
def c_cutp:AX.AFn:=⟨11,aS [aR 4 (.mv (.c (.str []))),aR 5 (.mv (.c (.bool false)))] (aS [aM 6 0,aM 7 1,aR 8 (.call 216 [.t 6,.t 7]),aE 9 8 0,aE 10 8 1,aM 4 9,aM 5 10] (.ret)),[.t 4,.t 5]⟩
theorem h_cutp:AX.compFn Tryz.prog 196=some c_cutp:=by kernel_rfl
def c_ahas:AX.AFn:=⟨21,aS [aR 4 (.mv (.c (.bool false)))] (aS [aM 8 0,aR 9 (.nilck (.t 8)),aF 10 0 9,aL 11 10,aM 12 1,aR 13 (.call 196 [.t 11,.t 12]),aM 7 13,aE 14 7 0,aE 15 7 1,aM 5 14,aM 6 15] (aS [aM 16 0,aM 17 5,aR 18 (.nilck (.t 16)),aF 19 0 18,aU (.store 1 (.t 19) (.t 17))] (aS [aM 20 6,aM 4 20] (.ret)))),[.t 4]⟩
theorem h_ahas:AX.compFn Tryz.prog 167=some c_ahas:=by kernel_rfl
def c_askip:AX.AFn:=⟨30,aS [aM 7 0,aR 8 (.nilck (.t 7)),aF 9 0 8,aL 10 9,aM 11 1,aR 12 (.call 196 [.t 10,.t 11]),aM 6 12,aE 13 6 0,aE 14 6 1,aM 4 13,aM 5 14] (aS [aM 15 0,aM 16 4,aR 17 (.nilck (.t 15)),aF 18 0 17,aU (.store 1 (.t 18) (.t 16))] (.reg false [aM 19 0,aM 20 0,aR 21 (.nilck (.t 20)),aF 22 1 21,aL 23 22,aM 24 23,aG 25 (.mv (.t 5)) 24 false,aG 26 (.un .not (.t 25)) 24 false,aR 27 (.pick (.t 24) (.c (.bool true)) (.t 26)),aR 28 (.nilck (.t 19)),aF 29 1 28,aU (.store 1 (.t 29) (.t 27))])),[]⟩
theorem h_askip:AX.compFn Tryz.prog 169=some c_askip:=by kernel_rfl
theorem a_ident (s:List UInt8) (hl:s.length≤2000000) (h:Hp):ACall Tryz.prog GT 134 [.str s] h fun r h'=>r = .bool (Adr.ident s)∧h'=h:=by
 refine pcall ?_ rfl (by simp [A.pure,A.data]) h
 refine acall_of mixedT h_ident (by simp [c_ident]) ?_
 dsimp only [c_ident]
 refine run0 ti ?_
 refine awp_loop (fun mm ts h=>∃ (j:Nat),mm=s.length - j∧j≤s.length∧h=⟨[],[]⟩∧Adr.idOk j s∧ts 0 = .str s∧ts 6 = .int .i64 (s.length:Nat)∧ts 7 = .int .i64 (j:Nat)) s.length ?_ ?_
 ·exact ⟨0,by omega,by omega,rfl,fun k hk=>absurd hk (Nat.not_lt_zero k),by (exact ev0 ti),by (exact ev0 ti),by (exact inv0 ti)⟩
 rintro mm ts h ⟨j,rfl,hjc,rfl,hok,t0,t6,t7⟩
 by_cases hj:j < s.length
 ·have hlt:(j:Int) < (s.length:Int):=by omega
  have hj0:(0:Int)≤(j:Int):=by omega
  have ei:IntKind.i64.wrap ((j:Int)+1)=((j+1:Nat):Int):=by rw [wrap64 (by omega) (by omega)]; omega
  obtain ⟨c,hc⟩:∃ c,s.getD j 0=c:=⟨_,rfl⟩
  have hfl:Adr.letter c=false→j=0∨Adr.wordB c=false→Adr.ident s=false:=fun h1 h2=>Adr.ident_fail hj (by
   rw [hc]; unfold Adr.first
   rcases h2 with h2 | h2
   ·rw [if_pos h2]; exact h1
   ·split
    ·exact h1
    ·exact h2)
  have hgo:Adr.first j c=true→Adr.idOk (j+1) s:=fun h1 k hk=>by
   by_cases e:k=j
   ·rw [e,hc]; exact h1
   ·exact hok k (by omega)
  have hlo:=Adr.letter_or c
  have hdg:=Num.digB_int c
  have hwb:Adr.wordB c=(Adr.letter c||Num.digB c):=rfl
  obtain ⟨x,hx⟩:∃ x:Int,(c.toNat:Int)=x:=⟨_,rfl⟩
  rw [hx] at hlo hdg
  obtain ⟨y,hy⟩:∃ y:Int,bits .or .u8 x 32=y:=⟨_,rfl⟩
  rw [hy] at hlo
  have next:Adr.first j c=true→∃ m',m' < s.length - j∧∃ (j':Nat),m'=s.length - j'∧j'≤s.length∧Adr.idOk j' s∧j'=j+1:=fun h1=>⟨s.length - (j+1),by omega,j+1,rfl,by omega,hgo h1,rfl⟩
  by_cases h95:x=95
  ·have e1:(x != 95)=false:=by simp [h95]
   have hL:Adr.letter c=true:=by rw [hlo,e1]; rfl
   refine run0 (ai t0 (ai t6 (ai t7 (ai hlt (ai hj0 (ai hc (ai hx (ai hy (ai e1 ei))))))))) ?_
   exact ⟨s.length - (j+1),by omega,j+1,rfl,by omega,rfl,hgo (by unfold Adr.first; split; exact hL; rw [hwb,hL]; rfl),by (exact ev0 t0),by (exact ev0 t6),by (exact ev0 ei)⟩
  have e1:(x != 95)=true:=by simp [h95]
  by_cases h97:y < 97∨y > 122
  rotate_left
  ·have e2:¬ y < 97:=by omega
   have e3:¬ y > 122:=by omega
   have hL:Adr.letter c=true:=by rw [hlo,e1,decide_eq_false e2,decide_eq_false e3]; rfl
   refine run0 (ai t0 (ai t6 (ai t7 (ai hlt (ai hj0 (ai hc (ai hx (ai hy (ai e1 (ai e2 (ai e3 ei))))))))))) ?_
   exact ⟨s.length - (j+1),by omega,j+1,rfl,by omega,rfl,hgo (by unfold Adr.first; split; exact hL; rw [hwb,hL]; rfl),by (exact ev0 t0),by (exact ev0 t6),by (exact ev0 ei)⟩
  have hL:Adr.letter c=false:=by
   rw [hlo,e1]
   rcases h97 with h97 | h97
   ·rw [decide_eq_true h97]; rfl
   ·rw [decide_eq_true h97,Bool.or_true]; rfl
  have fail:(j=0∨Adr.wordB c=false)→Adr.ident s=false:=hfl hL
  have e23:y < 97∨(¬ y < 97∧y > 122):=by omega
  by_cases hz:j=0
  ·have e4:((j:Int) == 0)=true:=by simp [hz]
   have hF:=fail (.inl hz)
   rcases e23 with e2 | ⟨e2,e3⟩
   ·refine run0 (ai t0 (ai t6 (ai t7 (ai hlt (ai hj0 (ai hc (ai hx (ai hy (ai e1 (ai e2 e4)))))))))) ?_
    exact ⟨_,le_refl _,by rw [hF]; rfl⟩
   ·refine run0 (ai t0 (ai t6 (ai t7 (ai hlt (ai hj0 (ai hc (ai hx (ai hy (ai e1 (ai e2 (ai e3 e4))))))))))) ?_
    exact ⟨_,le_refl _,by rw [hF]; rfl⟩
  have e4:((j:Int) == 0)=false:=by simp; omega
  by_cases hd:48≤x∧x≤57
  ·have e5:¬ x < 48:=by omega
   have e6:¬ x > 57:=by omega
   have hW:Adr.wordB c=true:=by rw [hwb,hdg,decide_eq_true hd.1,decide_eq_true hd.2,hL]; rfl
   have hfst:Adr.first j c=true:=by unfold Adr.first; rw [if_neg hz]; exact hW
   rcases e23 with e2 | ⟨e2,e3⟩
   ·refine run0 (ai t0 (ai t6 (ai t7 (ai hlt (ai hj0 (ai hc (ai hx (ai hy (ai e1 (ai e2 (ai e4 (ai e5 (ai e6 ei))))))))))))) ?_
    exact ⟨s.length - (j+1),by omega,j+1,rfl,by omega,rfl,hgo hfst,by (exact ev0 t0),by (exact ev0 t6),by (exact ev0 ei)⟩
   ·refine run0 (ai t0 (ai t6 (ai t7 (ai hlt (ai hj0 (ai hc (ai hx (ai hy (ai e1 (ai e2 (ai e3 (ai e4 (ai e5 (ai e6 ei)))))))))))))) ?_
    exact ⟨s.length - (j+1),by omega,j+1,rfl,by omega,rfl,hgo hfst,by (exact ev0 t0),by (exact ev0 t6),by (exact ev0 ei)⟩
  ·have hD:Num.digB c=false:=by
    rw [hdg]
    by_cases a:48≤x
    ·rw [decide_eq_true a,decide_eq_false (by omega)]; rfl
    ·rw [decide_eq_false a]; rfl
   have hF:=fail (.inr (by rw [hwb,hL,hD]; rfl))
   have e56:x < 48∨(¬ x < 48∧x > 57):=by omega
   rcases e23 with e2 | ⟨e2,e3⟩
   ·rcases e56 with e5 | ⟨e5,e6⟩
    ·refine run0 (ai t0 (ai t6 (ai t7 (ai hlt (ai hj0 (ai hc (ai hx (ai hy (ai e1 (ai e2 (ai e4 e5))))))))))) ?_
     exact ⟨_,le_refl _,by rw [hF]; rfl⟩
    ·refine run0 (ai t0 (ai t6 (ai t7 (ai hlt (ai hj0 (ai hc (ai hx (ai hy (ai e1 (ai e2 (ai e4 (ai e5 e6)))))))))))) ?_
     exact ⟨_,le_refl _,by rw [hF]; rfl⟩
   ·rcases e56 with e5 | ⟨e5,e6⟩
    ·refine run0 (ai t0 (ai t6 (ai t7 (ai hlt (ai hj0 (ai hc (ai hx (ai hy (ai e1 (ai e2 (ai e3 (ai e4 e5)))))))))))) ?_
     exact ⟨_,le_refl _,by rw [hF]; rfl⟩
    ·refine run0 (ai t0 (ai t6 (ai t7 (ai hlt (ai hj0 (ai hc (ai hx (ai hy (ai e1 (ai e2 (ai e3 (ai e4 (ai e5 e6))))))))))))) ?_
     exact ⟨_,le_refl _,by rw [hF]; rfl⟩
 ·have hlt:¬ ((j:Int) < (s.length:Int)):=by omega
  have hje:j=s.length:=by omega
  rw [hje] at hok
  have hE:=Adr.ident_end hok
  by_cases hn:s=[]
  ·have e1:(s != [])=false:=by simp [hn]
   rw [e1] at hE
   refine run0 (ai t0 (ai t6 (ai t7 (ai hlt e1)))) ?_
   exact ⟨_,le_refl _,by rw [hE]; rfl⟩
  ·have e1:(s != [])=true:=by simp [hn]
   rw [e1] at hE
   have e2:decide ((s.length:Int)≤64)=decide (s.length≤64):=decide_eq_decide.2 (by omega)
   refine run0 (ai t0 (ai t6 (ai t7 (ai hlt e1)))) ?_
   exact ⟨_,le_refl _,by rw [hE]; first | rfl | (rw [tupA_1,e2]; rfl) | rw [←e2]; rfl⟩
theorem a_lcutp (s p:List UInt8) (h:Hp):ACall Tryz.prog GT 216 [.str s,.str p] h fun r h'=>r = .tup [.str (if Adr.begins s p then s.drop p.length else s),.bool (Adr.begins s p)]∧h'=h:=by
 refine pcall ?_ rfl (by simp [A.pure,A.data]) h
 refine acall_of mixedT h_lcutp (by simp [c_lcutp]) ?_
 dsimp only [c_lcutp]
 have hp:(decide (p.length≤s.length)&&s.take p.length == p)=Adr.begins s p:=by
  unfold Adr.begins
  rw [Bool.eq_iff_iff,List.isPrefixOf_iff_prefix,List.prefix_iff_eq_take,Bool.and_eq_true,decide_eq_true_eq,beq_iff_eq]
  constructor
  ·rintro ⟨h1,h2⟩; exact h2.symm
  ·intro h2
   exact ⟨by have:=congrArg List.length h2; rw [List.length_take] at this; omega,h2.symm⟩
 have hc:=fun h=>a_liteHasPrefix s p h
 rw [hp] at hc
 refine run0 ti ?_
 refine use (hc _) ?_
 cases hB:Adr.begins s p
 ·refine run0 ti ?_
  exact ⟨_,le_refl _,rfl⟩
 ·have hle:(p.length:Int)≤(s.length:Int):=by have:=Adr.begins_len hB; omega
  have h0:(0:Int)≤(p.length:Int):=by omega
  refine run0 (ai hle h0) ?_
  refine ⟨_,le_refl _,?_⟩
  rw [if_pos rfl]
  first | rfl | (rw [tupA_2]; simp)
theorem a_cutp (s p:List UInt8) (h:Hp):ACall Tryz.prog GT 196 [.str s,.str p] h fun r h'=>r = .tup [.str (if Adr.begins s p then s.drop p.length else s),.bool (Adr.begins s p)]∧h'=h:=by
 refine pcall ?_ rfl (by simp [A.pure,A.data]) h
 refine acall_of mixedT h_cutp (by simp [c_cutp]) ?_
 dsimp only [c_cutp]
 refine run0 ti ?_
 refine use (a_lcutp s p _) ?_
 refine run0 ti ?_
 exact ⟨_,le_refl _,rfl⟩
def adB (r:Adr.Rd):Blk:=.cells 225 [.str r.rest,.bool r.bad]
theorem adB_loc (r:Adr.Rd):(adB r).loc 0:=rfl
theorem w_has (p:List UInt8) (r:Adr.Rd) {h:Hp} {i:Nat} (hb:h.b[i]?=some (adB r)) :
  ACall Tryz.prog GT 167 [.ptr i 0,.str p] h fun v h'=>v = .bool (Adr.hasP p r).1∧h'=⟨h.b.set i (adB (Adr.hasP p r).2),h.t⟩:=by
 have key:ACall Tryz.prog GT 167 [.ptr 0 0,.str p] ⟨[adB r],[]⟩ fun v h'=>∃ b',h'.b[0]?=some b'∧v = .bool (Adr.hasP p r).1∧b'=adB (Adr.hasP p r).2:=by
  refine acall_of mixedT h_ahas (by simp [c_ahas]) ?_
  dsimp only [c_ahas]
  unfold adB
  refine run0 ti ?_
  refine use (a_cutp r.rest p _) ?_
  unfold Adr.hasP
  cases hB:Adr.begins r.rest p
  ·refine run0 ti ?_
   exact ⟨_,le_refl _,_,rfl,rfl,rfl⟩
  ·refine run0 ti ?_
   exact ⟨_,le_refl _,_,rfl,rfl,rfl⟩
 refine (ACall.lift1 key rfl (adB_loc r) ?_ hb).mono ?_
 ·rintro v b' ⟨rfl,rfl⟩; exact ⟨rfl,adB_loc _⟩
 ·rintro v h' ⟨b',⟨rfl,rfl⟩,rfl⟩; exact ⟨rfl,rfl⟩
theorem w_skip (p:List UInt8) (r:Adr.Rd) {h:Hp} {i:Nat} (hb:h.b[i]?=some (adB r)) :
  ACall Tryz.prog GT 169 [.ptr i 0,.str p] h fun v h'=>v = .tup []∧h'=⟨h.b.set i (adB (Adr.skipP p r)),h.t⟩:=by
 have key:ACall Tryz.prog GT 169 [.ptr 0 0,.str p] ⟨[adB r],[]⟩ fun v h'=>∃ b',h'.b[0]?=some b'∧v = .tup []∧b'=adB (Adr.skipP p r):=by
  obtain ⟨rest,bad⟩:=r
  refine acall_of mixedT h_askip (by simp [c_askip]) ?_
  dsimp only [c_askip]
  unfold adB
  refine run0 ti ?_
  refine use (a_cutp rest p _) ?_
  unfold Adr.skipP
  dsimp only
  cases hB:Adr.begins rest p
  ·cases bad
   ·refine run0 ti ?_
    exact ⟨_,le_refl _,_,rfl,rfl,rfl⟩
   ·refine run0 ti ?_
    exact ⟨_,le_refl _,_,rfl,rfl,rfl⟩
  ·cases bad
   ·refine run0 ti ?_
    exact ⟨_,le_refl _,_,rfl,rfl,rfl⟩
   ·refine run0 ti ?_
    exact ⟨_,le_refl _,_,rfl,rfl,rfl⟩
 refine (ACall.lift1 key rfl (adB_loc r) ?_ hb).mono ?_
 ·rintro v b' ⟨rfl,rfl⟩; exact ⟨rfl,adB_loc _⟩
 ·rintro v h' ⟨b',⟨rfl,rfl⟩,rfl⟩; exact ⟨rfl,rfl⟩
end AX
namespace Sf
end Sf
namespace AX
def c_wflag:AX.AFn:=⟨9,aS [aR 4 (.mv (aI 0))] (.seq (aS [aM 5 1] (.cond (.t 5) (.reg false [aR 4 (.mv (aI 1))]) (.skip))) (.reg false [aM 6 0,aM 7 4,aR 8 (.call 139 [.t 6,.t 7])])),[]⟩
theorem h_wflag:AX.compFn Tryz.prog 142=some c_wflag:=by kernel_rfl
def c_winst:AX.AFn:=⟨59,aS [aR 3 (.box 36 (.t 1))] (aS [aM 6 0,aF 7 0 3,aL 8 7,aR 9 (.call 140 [.t 6,.t 8])] (aS [aM 10 0,aF 11 1 3,aL 12 11,aR 13 (.call 140 [.t 10,.t 12])] (aS [aM 14 0,aF 15 2 3,aL 16 15,aR 17 (.call 140 [.t 14,.t 16])] (aS [aM 18 0,aF 19 3 3,aL 20 19,aR 21 (.call 140 [.t 18,.t 20])] (aS [aM 22 0,aF 23 4 3,aR 24 (.load true 5 (.t 23)),aR 25 (.call 101 [.t 22,.t 24])] (aS [aM 26 0,aF 27 9 3,aL 28 27,aR 29 (.call 139 [.t 26,.t 28])] (aS [aM 30 0,aF 31 10 3,aL 32 31,aR 33 (.call 142 [.t 30,.t 32])] (.seq (aS [aM 34 0,aR 35 (.nilck (.t 34)),aF 36 2 35,aL 37 36,aR 38 (.bin .eql (.t 37) (aI 2))] (.cond (.t 38) (.reg false [aM 39 0,aF 40 11 3,aL 41 40,aR 42 (.call 142 [.t 39,.t 41])]) (.skip))) (aS [aM 43 0,aF 44 12 3,aL 45 44,aR 46 (.len false (.t 45)),aR 47 (.call 139 [.t 43,.t 46])] (aS [aF 48 12 3,aL 49 48,aR 50 (.len false (.t 49)),aR 51 (.mv (aI 0))] (.block 0 (.loop (aS [aR 52 (.bin .lss (.t 51) (.t 50))] (.seq (.cond (.t 52) (.skip) (.exit 0)) (.seq (.block 1 (aS [aR 53 (.iaddr 1 (.t 49) (.t 51)),aL 54 53,aM 5 54] (.reg false [aM 55 0,aM 56 5,aR 57 (.call 140 [.t 55,.t 56])]))) (.reg false [aR 58 (.bin .add (.t 51) (aI 1)),aM 51 58])))))))))))))))),[]⟩
theorem h_winst:AX.compFn Tryz.prog 141=some c_winst:=by kernel_rfl
theorem wtr_loc (ver:Int) (l:List UInt8):(wtr ver l).loc 0:=by
 intro o x h
 simp only [wtr] at h
 split at h
 ·injection h with h; subst h; rfl
 ·cases h
theorem liftW {f:FuncId} {args:List A} {ver:Int} {l l':List UInt8} (hl':l'≠[]) (hc:ACall Tryz.prog GT f (.ptr 0 0::args) ⟨[wtr ver l],[]⟩ fun u h'=>u = .tup []∧WP 0 ver l' ⟨[wtr ver l],[]⟩ h') (ha:A.locL 0 args=true) {h:Hp} {i:Nat} (hb:h.b[i]?=some (wtr ver l)) :
  ACall Tryz.prog GT f (.ptr i 0::args) h fun u h'=>u = .tup []∧h'=⟨h.b.set i (wtr ver l'),h.t⟩:=by
 have h1:ACall Tryz.prog GT f (.ptr 0 0::args) ⟨[wtr ver l],[]⟩ fun u h'=>∃ b',h'.b[0]?=some b'∧u = .tup []∧b'=wtr ver l':=hc.mono fun u h' ⟨e,hp⟩=>⟨wtr ver l',WP.bx hp hl',e,rfl⟩
 refine (ACall.lift1 h1 ha (wtr_loc ver l) ?_ hb).mono ?_
 ·rintro u b' ⟨rfl,rfl⟩
  exact ⟨rfl,wtr_loc ver l'⟩
 ·rintro u h' ⟨b',⟨rfl,rfl⟩,rfl⟩
  exact ⟨rfl,rfl⟩
theorem num_ne (n:Int):Wire.num n≠[]:=by
 have:=(Wire.encF_len 9 (Wire.zig n)).1
 intro e
 have h:(Wire.num n).length=0:=by rw [e]; rfl
 unfold Wire.num at h
 omega
theorem app_ne {a b:List UInt8} (h:b≠[]):a++b≠[]:=by simp [h]
theorem strE_ne (s:List UInt8):Wire.strE s≠[]:=by
 unfold Wire.strE
 intro e
 exact num_ne _ (List.append_eq_nil_iff.1 e).1
theorem wn {h:Hp} {i:Nat} {ver:Int} {l:List UInt8} (hb:h.b[i]?=some (wtr ver l)) (n:Int) (hlen:l.length+10≤1000000000) (h0:-9223372036854775808≤n) (h1:n≤9223372036854775807) :
  ACall Tryz.prog GT 139 [.ptr i 0,.int .i64 n] h fun u h'=>u = .tup []∧h'=⟨h.b.set i (wtr ver (l++Wire.num n)),h.t⟩:=
 liftW (app_ne (num_ne n)) (a_wnum (h:=⟨[wtr ver l],[]⟩) (.inl rfl) n hlen h0 h1) rfl hb
theorem wt {h:Hp} {i:Nat} {ver:Int} {l:List UInt8} (hb:h.b[i]?=some (wtr ver l)) (s:List UInt8) (hlen:l.length+s.length+10≤1000000000) :
  ACall Tryz.prog GT 140 [.ptr i 0,.str s] h fun u h'=>u = .tup []∧h'=⟨h.b.set i (wtr ver (l++Wire.strE s)),h.t⟩:=
 liftW (app_ne (strE_ne s)) (a_wtext (h:=⟨[wtr ver l],[]⟩) (.inl rfl) s hlen) rfl hb
theorem wv {h:Hp} {i:Nat} {ver:Int} {l:List UInt8} (hb:h.b[i]?=some (wtr ver l)) (v:V) (hz:∃ lv b,(Val.chk v lv b).1=0) (hlen:l.length+(Val.enc v).length+10≤1000000000) (hv:v.lens) :
  ACall Tryz.prog GT 101 [.ptr i 0,v.A] h fun u h'=>u = .tup []∧h'=⟨h.b.set i (wtr ver (l++Val.enc v)),h.t⟩:=
 liftW (app_ne (enc_ne v)) (t_value v 0 ver l ⟨[wtr ver l],[]⟩ (.inl rfl) hz hlen hv) (by obtain ⟨k,n,s,is,ks⟩:=v; rfl) hb
theorem wf {h:Hp} {i:Nat} {ver:Int} {l:List UInt8} (hb:h.b[i]?=some (wtr ver l)) (b:Bool) (hlen:l.length+10≤1000000000) :
  ACall Tryz.prog GT 142 [.ptr i 0,.bool b] h fun u h'=>u = .tup []∧h'=⟨h.b.set i (wtr ver (l++Sf.flagE b)),h.t⟩:=by
 refine acall_of mixedT h_wflag (by simp [c_wflag]) ?_
 dsimp only [c_wflag]
 cases b
 ·refine run0 ti ?_
  refine use (wn hb _ hlen (by decide) (by decide)) ?_
  refine run0 ti ?_
  exact ⟨_,le_refl _,rfl,rfl⟩
 ·refine run0 ti ?_
  refine use (wn hb _ hlen (by decide) (by decide)) ?_
  refine run0 ti ?_
  exact ⟨_,le_refl _,rfl,rfl⟩
structure Sf.InstOk (x:Sf.Inst):Prop where
 z:∃ lv b,(Val.chk x.attrs lv b).1=0
 lens:x.attrs.lens
 v0:-9223372036854775808≤x.ver
 v1:x.ver≤9223372036854775807
theorem strE_le (s:List UInt8):s.length≤(Wire.strE s).length:=by unfold Wire.strE; rw [List.length_append]; omega
theorem words_snoc (ds:List (List UInt8)) (j:Nat) (hj:j < ds.length):Sf.wordsE (ds.take (j+1))=Sf.wordsE (ds.take j)++Wire.strE ds[j]:=by
 unfold Sf.wordsE
 rw [List.take_succ_eq_append_getElem hj,List.flatMap_append]; simp
theorem words_take_le (ds:List (List UInt8)) (j:Nat):(Sf.wordsE (ds.take j)).length≤(Sf.wordsE ds).length:=by
 have:Sf.wordsE ds=Sf.wordsE (ds.take j)++Sf.wordsE (ds.drop j):=by unfold Sf.wordsE; rw [←List.flatMap_append,List.take_append_drop]
 rw [this,List.length_append]; omega
theorem w_inst {ver:Int} (hver:ver=1∨ver=2) (x:Sf.Inst) (hx:Sf.InstOk x) (l:List UInt8) (hlen:l.length+(Sf.instE ver x).length+20≤1000000000) {h:Hp} {i:Nat} (hb:h.b[i]?=some (wtr ver l)) :
  ACall Tryz.prog GT 141 [.ptr i 0,.agg x.cells] h fun u h'=>u = .tup []∧h'=⟨h.b.set i (wtr ver (l++Sf.instE ver x)),h.t⟩:=by
 have key:ACall Tryz.prog GT 141 [.ptr 0 0,.agg x.cells] ⟨[wtr ver l],[]⟩ fun u h'=>∃ b',h'.b[0]?=some b'∧u = .tup []∧b'=wtr ver (l++Sf.instE ver x):=by
  have hz:=hx.z
  have hl:=hx.lens
  have v0:=hx.v0
  have v1:=hx.v1
  obtain ⟨a,d,id,ty,⟨k,n,s,is,ks⟩,v,tn,fi,ds⟩:=x
  have hE:Sf.instE ver ⟨a,d,id,ty,.mk k n s is ks,v,tn,fi,ds⟩=Wire.strE a++Wire.strE d++Wire.strE id++Wire.strE ty++Val.enc (.mk k n s is ks)++Wire.num v++Sf.flagE tn++(if ver=2 then Sf.flagE fi else [])++Wire.num ds.length++Sf.wordsE ds:=rfl
  rw [hE] at hlen ⊢
  have la:=strE_le a
  have lb:=strE_le d
  have lc:=strE_le id
  have ld:=strE_le ty
  have hVA:(V.mk k n s is ks).A = .agg [.int .i64 k,.int .i64 n,.str s,.sl 5 .no (V.cellss is),.sl 1 .no (strsA ks)]:=by simp only [V.A,V.cells]
  have cv:=fun (m:List UInt8) (h:Hp) (hb:h.b[0]?=some (wtr ver m)) (hm:m.length+(Val.enc (.mk k n s is ks)).length+10≤1000000000)=>wv hb (.mk k n s is ks) hz hm hl
  rw [hVA] at cv
  simp only [List.length_append] at hlen
  obtain ⟨F,hF⟩:∃ F,(if ver=2 then Sf.flagE fi else [])=F:=⟨_,rfl⟩
  rw [hF] at hlen ⊢
  have hdl:ds.length≤1000000000:=by
   have:∀ l:List (List UInt8),l.length≤(Sf.wordsE l).length:=by
    intro l
    induction l with
    | nil=>simp
    | cons x l ih =>
     have h1:Sf.wordsE (x::l)=Wire.strE x++Sf.wordsE l:=by simp [Sf.wordsE]
     have h2:(Wire.strE x).length≠0:=fun e=>strE_ne x (List.length_eq_zero_iff.1 e)
     rw [h1,List.length_append,List.length_cons]; omega
   have:=this ds; omega
  refine acall_of mixedT h_winst (by simp [c_winst]) ?_
  dsimp only [c_winst,Sf.Inst.cells]
  refine run0 ti ?_
  refine use (wt rfl a (by omega)) ?_
  refine run0 ti ?_
  refine use (wt rfl d (by simp only [List.length_append]; omega)) ?_
  refine run0 ti ?_
  refine use (wt rfl id (by simp only [List.length_append]; omega)) ?_
  refine run0 ti ?_
  refine use (wt rfl ty (by simp only [List.length_append]; omega)) ?_
  refine run0 ti ?_
  refine use (cv _ _ rfl (by simp only [List.length_append]; omega)) ?_
  refine run0 ti ?_
  refine use (wn rfl v (by simp only [List.length_append]; omega) v0 v1) ?_
  refine run0 ti ?_
  refine use (wf rfl tn (by simp only [List.length_append]; omega)) ?_
  have hv12:∀ {G:Prop},((ver == 2)=false→F=[]→G)→((ver == 2)=true→F=Sf.flagE fi→G)→G:=fun p q=>by
   rcases hver with rfl | rfl
   ·rw [if_neg (by decide)] at hF; exact p rfl hF.symm
   ·rw [if_pos rfl] at hF; exact q rfl hF.symm
  refine hv12 (fun e2 eF=>?_) (fun e2 eF=>?_)
  all_goals subst eF
  ·refine run0 (ai @wtr_ (ai e2 @strsA_length)) ?_
   refine use (wn rfl _ (by simp only [List.length_append]; omega) (by omega) (by omega)) ?_
   refine run0 @strsA_length ?_
   refine awp_loop (fun mm ts h=>∃ j:Nat,mm=ds.length - j∧j≤ds.length∧h=⟨[wtr ver (l++Wire.strE a++Wire.strE d++Wire.strE id++Wire.strE ty++Val.enc (.mk k n s is ks)++Wire.num v++Sf.flagE tn++Wire.num ds.length++Sf.wordsE (ds.take j)),.cells 36 [.str a,.str d,.str id,.str ty,.int .i64 k,.int .i64 n,.str s,.sl 5 .no (V.cellss is),.sl 1 .no (strsA ks),.int .i64 v,.bool tn,.bool fi,.sl 1 .no (strsA ds)]],[]⟩∧ts 0 = .ptr 0 0∧ts 49 = .sl 1 .no (strsA ds)∧ts 50 = .int .i64 (ds.length:Nat)∧ts 51 = .int .i64 (j:Nat)) ds.length ?_ ?_
   ·exact ⟨0,by omega,by omega,by simp only [Sf.wordsE,List.take_zero,List.flatMap_nil,List.append_nil],by (exact ev0 ti),by (exact ev0 ti),by (exact ev0 @strsA_length),by (exact inv0 ti)⟩
   ·rintro mm ts h ⟨j,rfl,hjc,rfl,t0,t49,t50,t51⟩
    by_cases hj:j < ds.length
    ·have hlt:(j:Int) < (ds.length:Int):=by omega
     have ei:IntKind.i64.wrap ((j:Int)+1)=((j+1:Nat):Int):=by rw [wrap64 (by omega) (by omega)]; omega
     have hg:=strsA_get ds j hj
     have hlt':(j:Int) < ((strsA ds).length:Int):=by rw [strsA_length]; exact hlt
     have hj0:(0:Int)≤(j:Int):=by omega
     have ht:=words_take_le ds (j+1)
     rw [words_snoc ds j hj,List.length_append] at ht
     have hsl:=strE_le ds[j]
     refine run0 (ai t0 (ai t49 (ai t50 (ai t51 (ai hlt (ai hg (ai hlt' hj0))))))) ?_
     refine use (wt rfl ds[j] (by simp only [List.length_append]; omega)) ?_
     refine run0 (ai t0 (ai t49 (ai t50 (ai t51 ei)))) ?_
     exact ⟨ds.length - (j+1),by omega,j+1,rfl,by omega,by rw [words_snoc ds j hj]; simp only [List.append_assoc],by (exact ev0 t0),by (exact ev0 t49),by (exact ev0 t50),by (exact ev0 ei)⟩
    ·have hlt:¬ ((j:Int) < (ds.length:Int)):=by omega
     have hjl:j=ds.length:=by omega
     subst hjl
     refine run0 (ai t0 (ai t49 (ai t50 (ai t51 hlt)))) ?_
     exact ⟨_,le_refl _,_,rfl,rfl,by simp only [List.take_length,List.append_assoc,List.nil_append]⟩
  ·refine run0 (ai @wtr_ e2) ?_
   refine use (wf rfl fi (by simp only [List.length_append]; omega)) ?_
   refine run0 @strsA_length ?_
   refine use (wn rfl _ (by simp only [List.length_append]; omega) (by omega) (by omega)) ?_
   refine run0 @strsA_length ?_
   refine awp_loop (fun mm ts h=>∃ j:Nat,mm=ds.length - j∧j≤ds.length∧h=⟨[wtr ver (l++Wire.strE a++Wire.strE d++Wire.strE id++Wire.strE ty++Val.enc (.mk k n s is ks)++Wire.num v++Sf.flagE tn++Sf.flagE fi++Wire.num ds.length++Sf.wordsE (ds.take j)),.cells 36 [.str a,.str d,.str id,.str ty,.int .i64 k,.int .i64 n,.str s,.sl 5 .no (V.cellss is),.sl 1 .no (strsA ks),.int .i64 v,.bool tn,.bool fi,.sl 1 .no (strsA ds)]],[]⟩∧ts 0 = .ptr 0 0∧ts 49 = .sl 1 .no (strsA ds)∧ts 50 = .int .i64 (ds.length:Nat)∧ts 51 = .int .i64 (j:Nat)) ds.length ?_ ?_
   ·exact ⟨0,by omega,by omega,by simp only [Sf.wordsE,List.take_zero,List.flatMap_nil,List.append_nil],by (exact ev0 ti),by (exact ev0 ti),by (exact ev0 @strsA_length),by (exact inv0 ti)⟩
   ·rintro mm ts h ⟨j,rfl,hjc,rfl,t0,t49,t50,t51⟩
    by_cases hj:j < ds.length
    ·have hlt:(j:Int) < (ds.length:Int):=by omega
     have ei:IntKind.i64.wrap ((j:Int)+1)=((j+1:Nat):Int):=by rw [wrap64 (by omega) (by omega)]; omega
     have hg:=strsA_get ds j hj
     have hlt':(j:Int) < ((strsA ds).length:Int):=by rw [strsA_length]; exact hlt
     have hj0:(0:Int)≤(j:Int):=by omega
     have ht:=words_take_le ds (j+1)
     rw [words_snoc ds j hj,List.length_append] at ht
     have hsl:=strE_le ds[j]
     refine run0 (ai t0 (ai t49 (ai t50 (ai t51 (ai hlt (ai hg (ai hlt' hj0))))))) ?_
     refine use (wt rfl ds[j] (by simp only [List.length_append]; omega)) ?_
     refine run0 (ai t0 (ai t49 (ai t50 (ai t51 ei)))) ?_
     exact ⟨ds.length - (j+1),by omega,j+1,rfl,by omega,by rw [words_snoc ds j hj]; simp only [List.append_assoc],by (exact ev0 t0),by (exact ev0 t49),by (exact ev0 t50),by (exact ev0 ei)⟩
    ·have hlt:¬ ((j:Int) < (ds.length:Int)):=by omega
     have hjl:j=ds.length:=by omega
     subst hjl
     refine run0 (ai t0 (ai t49 (ai t50 (ai t51 hlt)))) ?_
     exact ⟨_,le_refl _,_,rfl,rfl,by simp only [List.take_length,List.append_assoc,List.nil_append]⟩
 refine (ACall.lift1 key (by obtain ⟨a,d,id,ty,⟨k,n,s,is,ks⟩,v,tn,fi,ds⟩:=x; rfl) (wtr_loc ver l) ?_ hb).mono ?_
 ·rintro u b' ⟨rfl,rfl⟩
  exact ⟨rfl,wtr_loc _ _⟩
 ·rintro u h' ⟨b',⟨rfl,rfl⟩,rfl⟩
  exact ⟨rfl,rfl⟩
end AX
end Go.Proofs.YtahmpiioegemaaaGreatDoor
