/- Part of what the proof needs. -/
import Derived.Test.YtnghhnahdjjpkaaGreatDoorMFrRecoveryReplaysUpto0
import Derived.Test.YtnghhnahdjjpkaaGreatDoorMFrRecoveryReplaysUptoA
import Derived.Test.YtnghhnahdjjpkaaGreatDoorMFrRecoveryReplaysUptoG
import Derived.Test.YtnghhnahdjjpkaaGreatDoorMFrRecoveryReplaysUptoH
import Derived.Test.YtnghhnahdjjpkaaGreatDoorMFrRecoveryReplaysUptoI
import Derived.Test.YtnghhnahdjjpkaaGreatDoorMFrRecoveryReplaysUptoK
import Derived.Test.YtnghhnahdjjpkaaGreatDoorMFrRecoveryReplaysUptoM
import Derived.Lib.ParseIntB
import Derived.Test.YtnghhnahdjjpkaaGreatDoorShelfP
import Derived.Laws.RangeAny
import Derived.Laws.Runes
import Derived.Lib.OthersKept
import Derived.Deep.LoopGhost
import Derived.BigRegion
import Derived.Below
import Derived.BigQuiet
import Derived.Deep.QuietTactic
import Derived.WalkMore
import Derived.IntWalk
set_option maxHeartbeats 4000000
set_option maxRecDepth 100000
set_option linter.all false
namespace Go.Proofs.YtnghhnahdjjpkaaGreatDoor
section
open Go.RowKit
namespace AX
def ajq:AX.AFn:=⟨8,aS [aR 4 (.mv (.c (.bool false)))] (aS [aM 5 0,aM 6 1,aR 7 (.call 174 [.t 5,.t 6]),aM 4 7] (.ret)),[.t 4]⟩
theorem byc:AX.compFn Tryz.prog 144=some ajq:=by kernel_rfl
def aqz:AX.AFn:=⟨18,aS [aR 4 (.mv (.c (.bool false)))] (aS [aM 5 0,aR 6 (.len true (.t 5)),aM 7 1,aR 8 (.len true (.t 7)),aR 9 (.bin .geq (.t 6) (.t 8)),aM 10 9,aG 11 (.mv (.t 0)) 10 true,aG 12 (.mv (.t 1)) 10 true,aG 13 (.len true (.t 12)) 10 true,aG 14 (.ssl (.t 11) none (some (.t 13))) 10 true,aG 15 (.mv (.t 1)) 10 true,aG 16 (.bin .eql (.t 14) (.t 15)) 10 true,aR 17 (.pick (.t 10) (.t 16) (.c (.bool false))),aM 4 17] (.ret)),[.t 4]⟩
theorem ay8:AX.compFn Tryz.prog 174=some aqz:=by kernel_rfl
theorem axw(s p:List UInt8)(h:Hp):AT 174 [.str s,.str p] h (.bool (decide (p.length≤s.length)&&s.take p.length==p)):=by
 refine pcall ?_ rfl (by simp[A.pure,A.data]) h;refine azb mixedT ay8 (by simp[aqz]) ?_;dsimp only[aqz];by_cases hl:p.length≤s.length
 ·have h1:(s.length:Int)≥(p.length:Int):=by omega
  have h2:(p.length:Int)≤(s.length:Int):=by omega
  refine go0 (ai h1 h2) ?_;exact⟨_,le_refl _,by rw[azn,Yh hl];rfl⟩
 ·have h1:¬(s.length:Int)≥(p.length:Int):=by omega
  refine go0 h1 ?_;exact⟨_,le_refl _,by rw[azn,Ys hl];rfl⟩
theorem bwf(s p:List UInt8)(h:Hp):AT 144 [.str s,.str p] h (.bool (decide (p.length≤s.length)&&s.take p.length==p)):=by
 refine pcall ?_ rfl (by simp[A.pure,A.data]) h;refine azb mixedT byc (by simp[ajq]) ?_;dsimp only[ajq];refine go0 ti ?_;refine gc0 ti ?_;refine(axw s p _).mono ?_;rintro v h1 ⟨rfl,rfl⟩;refine go0 ti ?_;exact Fn rfl
def magic:List UInt8:=[80,86,83,84]
def preB(s:List UInt8):Bool:=decide (magic.length≤s.length)&&s.take magic.length==magic
def versionS(s:List UInt8):Int×Int:=
 if preB s=false then(0,2)else
 let r:=Wire.numR ⟨s.drop 4,0⟩
 if r.1.e≠0 then(0,2)else if r.2≠1∧r.2≠2 then(0,21)else(r.2,0)
theorem avu{P:Program}{G:World→Prop}{c:ACode}{Q:AExit→Ts→Hp→Prop}{ts:Ts}{h:Hp}(k:awp P G c (thenA (fun _ _=>False) Q) ts h):awp P G (.loop c) Q ts h:=⟨1,k⟩
end AX
end
section
open Go.Lib
namespace Num
def valA(n:Nat)(s:List UInt8):Nat:=s.foldl (fun n c=>10*n+(c.toNat-48)) n
theorem valA_cons(n:Nat)(c:UInt8)(s:List UInt8):valA n (c::s)=valA (10*n+(c.toNat-48)) s:=by unfold valA;rw[List.foldl_cons]
theorem val_valA(s:List UInt8):val s=valA 0 s:=rfl
theorem valA_ge:∀(s:List UInt8) (n:Nat),n*10^s.length≤valA n s
 |[],n=>by simp[valA]
 |c::s,n=>by
  rw[valA_cons,Zi,Nat.pow_succ];refine Zs ?_ (valA_ge s _);have e:n*(10^s.length*10)=(10*n)*10^s.length:=by
   rw[Nat.mul_comm (10^s.length) 10,←Nat.mul_assoc,Nat.mul_comm n 10]
  rw[e];exact Z6 _ (by omega)
theorem valA_le(s:List UInt8)(n:Nat):n≤valA n s:=by
 have h:=valA_ge s n;have h1:1≤10^s.length:=Nat.one_le_pow _ _ (by omega);exact Zs (by simpa using Nat.mul_le_mul_left n h1) h
theorem digB_iff(c:UInt8):digB c=true↔48≤c.toNat∧c.toNat≤57:=by simp[digB]
theorem uintM_digits:∀(l:List UInt8) (acc:Nat),l.all digB=true→parseUintM 18446744073709551615 acc l=if valA acc l≤18446744073709551615 then .ok (valA acc l)else if l=[]then .ok acc else .range
 |[],acc,_=>by simp[parseUintM,valA]
 |c::r,acc,h=>by
  rw[ZM,Zf,digB_iff]at h;have h1:=valA_le r (10*acc+(c.toNat-48));rw[valA_cons];unfold parseUintM;rw[if_pos h.1];split
  ·rw[if_neg (by omega),if_neg (by simp)]
  ·split
   ·rw[if_neg (by omega),if_neg (by simp)]
   ·rw[uintM_digits r _ h.2,Nat.mul_comm acc 10];by_cases hv:valA (10*acc+(c.toNat-48)) r≤18446744073709551615
    ·rw[if_pos hv,if_pos hv]
    ·rw[if_neg hv,if_neg hv,if_neg (show¬(c::r=[]) by simp)];cases r with
     |nil=>
      exfalso
      apply hv;unfold valA;rw[List.foldl_nil];omega
     |cons d q=>rw[if_neg (by simp)]
def body(s:List UInt8):List UInt8:=if s.getD 0 0==45 then s.drop 1 else s
def canonB(s:List UInt8):Bool:=digits (body s)&&!(s.getD 0 0==45&&body s == [48])
theorem digits_long{t:List UInt8}(h:digits t=true)(hl:16<t.length):9007199254740992<val t:=by
 cases t with
 |nil=>simp at hl
 |cons c r=>
  unfold digits at h;rw[Zf,ZP,ZC,Zf,ZM,Zf,digB_iff]at h;obtain⟨⟨h1,h2⟩,h3⟩:=h;rcases h3 with h3|h3
  ·injection h3 with _ h3;subst h3;simp at hl
  ·have h4:c≠48:=by simpa using h3.2
   have h5:c.toNat≠48:=fun e=>h4 (Ym.1 (by simpa using e))
   have h6:=valA_ge r (c.toNat-48);have h7:10^16≤10^r.length:=Y9 (by omega) (by simp at hl;omega);have h8:1*10^r.length≤(c.toNat-48)*10^r.length:=Z6 _ (by omega);have e:val (c::r)=valA (c.toNat-48) r:=by rw[val_valA,valA_cons];simp
   rw[e];have h9:(10:Nat)^16=10000000000000000:=by decide
   omega
theorem parse_form(s:List UInt8):parse s=if canonB s=false then(0,2)else if 9007199254740992<val (body s)then(0,5)else(if s.getD 0 0==45 then -(val (body s):Int)else(val (body s):Int),0):=by
 have e:parse s=if(!digits (body s)||(s.getD 0 0==45&&body s == [48]))=true then(0,2)else if 16<(body s).length then(0,5)else if 9007199254740992<val (body s)then(0,5)else(if s.getD 0 0==45 then -(val (body s):Int)else(val (body s):Int),0):=rfl
 rw[e];unfold canonB;cases hd:digits (body s)
 ·simp
 ·cases hm:(s.getD 0 0==45&&body s == [48])
  ·simp only[ZW,YO,Zn,if_false,ZU,Bool.and_self,Bool.true_eq_false];split
   ·next hl=>rw[if_pos (digits_long hd hl)]
   ·rfl
  ·simp
theorem parseIntB_canon(s:List UInt8)(h:canonB s=true):
  (val (body s)≤9007199254740992∧parseIntB 64 s=.ok (if s.getD 0 0==45 then -(val (body s):Int)else(val (body s):Int))) ∨
  (9007199254740992<val (body s)∧(parseIntB 64 s=.range∨∃v,parseIntB 64 s=.ok v∧¬(-9007199254740992≤v∧v≤9007199254740992))):=by
 unfold canonB at h;rw[Zf]at h;obtain⟨hd,_⟩:=h;cases s with
 |nil=>simp[body,digits]at hd
 |cons c r=>
  have hne:body (c::r)≠[]:=by
   intro e;rw[e]at hd;simp[digits]at hd
  have hall:(body (c::r)).all digB=true:=by
   unfold digits at hd;rw[Zf]at hd;exact hd.1
  have hneg:((c::r).getD 0 0==45)=decide (c.toNat=45):=by
   show(c==45)=_
   rw[Z4,ZC,ZD];exact⟨fun e=>by rw[e];rfl,fun e=>Ym.1 (by simpa using e)⟩
  have h43:c.toNat≠43:=by
   intro e;have e2:((c::r).getD 0 0==45)=false:=by rw[hneg];simp[e]
   unfold body at hall;rw[e2]at hall;simp only[Zn,if_false,ZM,Zf,digB_iff]at hall;omega
  have hb:(if c.toNat=43∨c.toNat=45 then r else c::r)=body (c::r):=by
   unfold body;rw[hneg];by_cases e:c.toNat=45
   ·simp[e]
   ·simp[e,h43]
  have hu:parseUintB 64 (body (c::r))=if val (body (c::r))≤18446744073709551615 then .ok (val (body (c::r)))else .range:=by
   unfold parseUintB;rw[if_neg hne];have:=uintM_digits _ 0 hall;rw[if_neg hne,←val_valA]at this;exact this
  have hp:parseIntB 64 (c::r)=match parseUintB 64 (body (c::r))with
    |NumEnd.syntax=>NumEnd.syntax
    |.range=> .range
    |.ok u=>if¬c.toNat=45∧2^(64-1)≤u then .range else if c.toNat=45∧2^(64-1)<u then .range else .ok (if c.toNat=45 then -(u:Int)else u):=by
   rw[←hb];rfl
  rw[hp,hu,hneg];have e63:2^(64-1)=9223372036854775808:=by decide
  rw[e63];generalize val (body (c::r))=u;by_cases hm:u≤9007199254740992
  ·refine .inl ⟨hm,?_⟩;rw[if_pos (by omega)];dsimp only;rw[if_neg (by omega),if_neg (by omega)];simp
  ·refine .inr ⟨by omega,?_⟩;by_cases h64:u≤18446744073709551615
   ·rw[if_pos h64];dsimp only;split
    ·exact .inl rfl
    ·split
     ·exact .inl rfl
     ·refine .inr ⟨_,rfl,?_⟩;split<;>omega
   ·rw[if_neg h64];exact .inl rfl
end Num
end
section
open Go.RowKit
open Go.Op (bytesLess)
namespace Num
theorem digB_int(c:UInt8):digB c=(decide (48≤(c.toNat:Int))&&decide ((c.toNat:Int)≤57)):=by
 unfold digB;have e1:decide (48≤c.toNat)=decide (48≤(c.toNat:Int)):=decide_eq_decide.2 (by omega);have e2:decide (c.toNat≤57)=decide ((c.toNat:Int)≤57):=decide_eq_decide.2 (by omega);rw[e1,e2]
theorem all_fail{s:List UInt8}{j:Nat}(hj:j<s.length)(h:digB (s.getD j 0)=false):digits s=false:=by
 have:s.all digB=false:=by
  rw[List.all_eq_false];refine⟨s[j],Zp hj,?_⟩;have e:s.getD j 0=s[j]:=by simp[List.getD,hj]
  rw[e]at h;rw[h];decide
 unfold digits;rw[this];rfl
theorem all_end{s:List UInt8}(h:∀k,k<s.length→digB (s.getD k 0)=true):digits s=(s != []&&(s.getD 0 0 !=48||s.length==1)):=by
 have h1:s.all digB=true:=by
  rw[ZF];intro x hx;obtain⟨j,hj,rfl⟩:=List.getElem_of_mem hx;have:=h j hj;have e:s.getD j 0=s[j]:=by simp[List.getD,hj]
  rwa [e]at this
 unfold digits;rw[h1,ZG]
 match s with
 |[]=>rfl
 |[c]=>
  by_cases e:c=48
  ·subst e;rfl
  ·have e1:(c==48)=false:=by simp[e]
   have e2:([c] == [48])=false:=by simp[e]
   have e3:(c !=48)=true:=by simp[e]
   show([c] == [48]||([c] != []&&c !=48))=([c] != []&&(c !=48||([c].length==1)))
   rw[e2,e3];rfl
 |c::d::r=>simp
end Num
namespace AX
def bya:AX.AFn:=⟨44,aS [aR 2 (.mv (.c (.bool false)))] (.seq (aS [aM 4 0,aR 5 (.len true (.t 4)),aR 6 (.bin .gtr (.t 5) (aI 0)),aM 7 6,aG 8 (.mv (.t 0)) 7 true,aG 9 (.sidx (.t 8) (aI 0)) 7 true,aG 10 (.bin .eql (.t 9) (.c (.int .u8 45))) 7 true,aR 11 (.pick (.t 7) (.t 10) (.c (.bool false)))] (.cond (.t 11) (aS [aM 12 0,aR 13 (.ssl (.t 12) (some (aI 1)) none),aM 0 13] (aS [aM 14 0,aR 15 (.bin .eql (.t 14) (.c (.str [48])))] (.cond (.t 15) (aS [aR 2 (.mv (.c (.bool false)))] (.ret)) (.skip)))) (.skip))) (.seq (aS [aM 16 0,aR 17 (.len true (.t 16)),aR 18 (.mv (aI 0))] (.block 0 (.loop (aS [aR 19 (.bin .lss (.t 18) (.t 17))] (.seq (.cond (.t 19) (.skip) (.exit 0)) (.seq (.block 1 (aS [aM 20 18,aM 3 20] (aS [aM 21 0,aM 22 3,aR 23 (.sidx (.t 21) (.t 22)),aR 24 (.bin .lss (.t 23) (.c (.int .u8 48))),aM 25 24,aG 26 (.mv (.t 0)) 25 false,aG 27 (.mv (.t 3)) 25 false,aG 28 (.sidx (.t 26) (.t 27)) 25 false,aG 29 (.bin .gtr (.t 28) (.c (.int .u8 57))) 25 false,aR 30 (.pick (.t 25) (.c (.bool true)) (.t 29))] (.cond (.t 30) (aS [aR 2 (.mv (.c (.bool false)))] (.ret)) (.skip))))) (.reg false [aR 31 (.bin .add (.t 18) (aI 1)),aM 18 31]))))))) (aS [aM 32 0,aR 33 (.bin .neq (.t 32) (.c (.str []))),aM 34 33,aG 35 (.mv (.t 0)) 34 true,aG 36 (.sidx (.t 35) (aI 0)) 34 true,aG 37 (.bin .neq (.t 36) (.c (.int .u8 48))) 34 true,aG 38 (.mv (.t 37)) 34 true,aG 39 (.mv (.t 0)) 38 false,aG 40 (.len true (.t 39)) 38 false,aG 41 (.bin .eql (.t 40) (aI 1)) 38 false,aG 42 (.pick (.t 38) (.c (.bool true)) (.t 41)) 34 true,aR 43 (.pick (.t 34) (.t 42) (.c (.bool false))),aM 2 43] (.ret)))),[.t 2]⟩
theorem dj6:AX.compFn Tryz.prog 133=some bya:=by kernel_rfl
theorem ckz(c:UInt8)(n:UInt8):((c.toNat:Int)==(n.toNat:Int))=(c==n):=by
 rw[Z4,ZC,ZC];exact⟨fun e=>Ym.1 (by omega),fun e=>by rw[e]⟩
theorem cxa{P:Program}{G:World→Prop}{f:FuncId}{args:List A}{vs:List Value}{w:World}{b:Bool}(hc:ACall P G f args ⟨[],[]⟩ fun v _=>v=.bool b)(hG:∀w':World,(∀g,g<w.heap.size→w'.heap[g]?=w.heap[g]?)→G w')
  (ha:RepL (Ctx.of w) args vs):Calls P f vs.toArray w fun e w'=>e=.returned (.bool b)∧Below w.heap.size w w':=by
 refine(hc (Ctx.of w) vs (inv_of hG) ha).mono ?_;rintro e w' ⟨C',h',v,cv,rfl,rfl,_,st,hr,rfl⟩;rw[aqh]at hr;subst hr;exact⟨rfl,st.os,st.tape,st.output,st.size,fun g hg=>st.frame g hg rfl fun t ht=>by simp[Ctx.of]at ht⟩
theorem dxm(s:List UInt8)(hl:s.length≤2000000)(h:Hp):AT 133 [.str s] h (.bool (Num.canonB s)):=by
 refine pcall ?_ rfl (by simp[A.pure,A.data]) h;refine azb mixedT dj6 (by simp[bya]) ?_;dsimp only[bya];obtain⟨R,hR⟩:=Ex (Num.canonB s);rw[hR];unfold Num.canonB Num.body at hR;by_cases hn:s=[]
 ·subst hn;have e0:¬((0:Nat):Int)>0:=by decide
  have e1:¬(0:Int)<((0:Nat):Int):=by decide
  have hR':R=false:=by rw[←hR];rfl
  subst hR';refine azf e0 ?_;refine avu ?_;refine azf e1 ?_;exact Fn rfl
 have hpos:(s.length:Int)>0:=by
  have:=Z9.2 hn;omega
 have h0:(0:Int)<(s.length:Int):=hpos;obtain⟨c,hc⟩:=Ex (s.getD 0 0);rw[hc]at hR;have e45:((c.toNat:Int)==45)=(c==45):=ckz c 45;have hbody:∃t:List UInt8,t=(if c==45 then s.drop 1 else s):=⟨_,rfl⟩;obtain⟨t,ht⟩:=hbody;rw[←ht]at hR;have htl:t.length≤2000000:=by
  rw[ht];split
  ·rw[Zo];omega
  ·exact hl
 have hgr:∀j:Nat,t.getD j 0=t.getD j 0:=fun _=>rfl
 have h1le:(1:Int)≤(s.length:Int):=by omega
 have z1:(0:Int)≤1:=by decide
 have n1:(1:Int).toNat=1:=rfl;have n0:(0:Int).toNat=0:=rfl;have key:∀{G:Prop},((c==45)=true→t=s.drop 1→G)→((c==45)=false→t=s→G)→G:=fun p q=>by
  cases e:c==45
  ·exact q e (by rw[ht,e];rfl)
  ·exact p e (by rw[ht,e];rfl)
 refine key (fun m1 m2=>?_) (fun m1 m2=>?_)
 ·rw[m1,ZG]at hR;have m3:s.drop 1=t:=m2.symm;have e10:((c.toNat:Int)==45)=true:=by rw[e45,m1]
  cases h48:t == [48];rotate_left
  ·rw[h48]at hR;have hR':R=false:=by rw[←hR,ZW,YY]
   subst hR';refine azf (ai hpos (ai h0 (ai n0 (ai hc (ai e10 (ai h1le (ai z1 (ai n1 (ai m3 h48))))))))) ?_;exact Fn rfl
  rw[h48,ZU,Yl]at hR;refine azf (ai hpos (ai h0 (ai n0 (ai hc (ai e10 (ai h1le (ai z1 (ai n1 (ai m3 h48))))))))) ?_;refine azd (fun mm ts h=>∃(j:Nat),mm=t.length-j∧j≤t.length∧h=⟨[],[]⟩∧(∀k,k<j→Num.digB (t.getD k 0)=true)∧ts 0=.str t∧ts 17=.int .i64 (t.length:Nat)∧ts 18=.int .i64 (j:Nat)) t.length ?_ ?_
  ·exact⟨0,by omega,by omega,rfl,fun k hk=>absurd hk (Nat.not_lt_zero k),by(exact ev0 m3),by(exact ev0 m3),by(exact azo ti)⟩
  rintro mm ts h ⟨j,rfl,hjc,rfl,hok,t0,t17,t18⟩;by_cases hj:j<t.length
  ·have hlt:(j:Int)<(t.length:Int):=by omega
   have hj0:(0:Int)≤(j:Int):=by omega
   have ei:IntKind.i64.wrap ((j:Int)+1)=((j+1:Nat):Int):=by rw[wrap64 (by omega) (by omega)];omega
   obtain⟨b,hb⟩:=Ex (t.getD j 0);have hdg:=Num.digB_int b;obtain⟨x,hx⟩:∃x:Int,(b.toNat:Int)=x:=⟨_,rfl⟩;rw[hx]at hdg;by_cases x1:x<48
   ·have hR':R=false:=by rw[←hR];exact Num.all_fail hj (by rw[hb,hdg,Ys (by omega)];rfl)
    subst hR';refine azf (ai t0 (ai t17 (ai t18 (ai hlt (ai hj0 (ai hb (ai hx x1))))))) ?_;exact Fn rfl
   by_cases x2:x>57
   ·have hR':R=false:=by rw[←hR];exact Num.all_fail hj (by rw[hb,hdg,Yh (show 48≤x by omega),Ys (by omega)];rfl)
    subst hR';refine azf (ai t0 (ai t17 (ai t18 (ai hlt (ai hj0 (ai hb (ai hx (ai x1 x2)))))))) ?_;exact Fn rfl
   ·refine azf (ai t0 (ai t17 (ai t18 (ai hlt (ai hj0 (ai hb (ai hx (ai x1 (ai x2 ei))))))))) ?_;refine⟨t.length-(j+1),by omega,j+1,rfl,by omega,rfl,fun k hk=>?_,by(exact ev0 t0),by(exact ev0 t17),by(exact ev0 ei)⟩;by_cases e:k=j
    ·rw[e,hb,hdg,Yh (show 48≤x by omega),Yh (show x≤57 by omega)];rfl
    ·exact hok k (by omega)
  ·have hlt:¬((j:Int)<(t.length:Int)):=by omega
   have hje:j=t.length:=by omega
   rw[hje]at hok;have hE:=Num.all_end hok;rw[hR]at hE;cases hnt:t != []
   ·rw[hnt,Ye]at hE;subst hE;refine azf (ai t0 (ai t17 (ai t18 (ai hlt hnt)))) ?_;exact Fn rfl
   rw[hnt,ZG]at hE;have hp2:(0:Int)<(t.length:Int):=by
    have:t≠[]:=by simpa using hnt
    have:=Z9.2 this;omega
   obtain⟨b,hb⟩:=Ex (t.getD 0 0);rw[hb]at hE;have e48:((b.toNat:Int)!=48)=(b !=48):=congrArg (!·) (ckz b 48);cases hb48:b !=48
   ·rw[hb48,Yn]at hE;rw[hb48]at e48;have el:((t.length:Int)==1)=(t.length==1):=by
     rw[Z4,ZC,ZC];omega
    rw[←hE]at el;refine azf (ai t0 (ai t17 (ai t18 (ai hlt (ai hnt (ai hp2 (ai n0 (ai hb (ai e48 el))))))))) ?_;exact Fn rfl
   ·rw[hb48,YT]at hE;subst hE;rw[hb48]at e48;refine azf (ai t0 (ai t17 (ai t18 (ai hlt (ai hnt (ai hp2 (ai n0 (ai hb e48)))))))) ?_;exact Fn rfl
 ·have e10:((c.toNat:Int)==45)=false:=by rw[e45,m1]
  rw[m1,Ye,ZU,Yl]at hR;have m3:s=t:=m2.symm;refine azf (ai hpos (ai h0 (ai n0 (ai hc e10)))) ?_;refine azd (fun mm ts h=>∃(j:Nat),mm=t.length-j∧j≤t.length∧h=⟨[],[]⟩∧(∀k,k<j→Num.digB (t.getD k 0)=true)∧ts 0=.str t∧ts 17=.int .i64 (t.length:Nat)∧ts 18=.int .i64 (j:Nat)) t.length ?_ ?_
  ·exact⟨0,by omega,by omega,rfl,fun k hk=>absurd hk (Nat.not_lt_zero k),by(exact ev0 m3),by(exact ev0 m3),by(exact azo ti)⟩
  rintro mm ts h ⟨j,rfl,hjc,rfl,hok,t0,t17,t18⟩;by_cases hj:j<t.length
  ·have hlt:(j:Int)<(t.length:Int):=by omega
   have hj0:(0:Int)≤(j:Int):=by omega
   have ei:IntKind.i64.wrap ((j:Int)+1)=((j+1:Nat):Int):=by rw[wrap64 (by omega) (by omega)];omega
   obtain⟨b,hb⟩:=Ex (t.getD j 0);have hdg:=Num.digB_int b;obtain⟨x,hx⟩:∃x:Int,(b.toNat:Int)=x:=⟨_,rfl⟩;rw[hx]at hdg;by_cases x1:x<48
   ·have hR':R=false:=by rw[←hR];exact Num.all_fail hj (by rw[hb,hdg,Ys (by omega)];rfl)
    subst hR';refine azf (ai t0 (ai t17 (ai t18 (ai hlt (ai hj0 (ai hb (ai hx x1))))))) ?_;exact Fn rfl
   by_cases x2:x>57
   ·have hR':R=false:=by rw[←hR];exact Num.all_fail hj (by rw[hb,hdg,Yh (show 48≤x by omega),Ys (by omega)];rfl)
    subst hR';refine azf (ai t0 (ai t17 (ai t18 (ai hlt (ai hj0 (ai hb (ai hx (ai x1 x2)))))))) ?_;exact Fn rfl
   ·refine azf (ai t0 (ai t17 (ai t18 (ai hlt (ai hj0 (ai hb (ai hx (ai x1 (ai x2 ei))))))))) ?_;refine⟨t.length-(j+1),by omega,j+1,rfl,by omega,rfl,fun k hk=>?_,by(exact ev0 t0),by(exact ev0 t17),by(exact ev0 ei)⟩;by_cases e:k=j
    ·rw[e,hb,hdg,Yh (show 48≤x by omega),Yh (show x≤57 by omega)];rfl
    ·exact hok k (by omega)
  ·have hlt:¬((j:Int)<(t.length:Int)):=by omega
   have hje:j=t.length:=by omega
   rw[hje]at hok;have hE:=Num.all_end hok;rw[hR]at hE;cases hnt:t != []
   ·rw[hnt,Ye]at hE;subst hE;refine azf (ai t0 (ai t17 (ai t18 (ai hlt hnt)))) ?_;exact Fn rfl
   rw[hnt,ZG]at hE;have hp2:(0:Int)<(t.length:Int):=by
    have:t≠[]:=by simpa using hnt
    have:=Z9.2 this;omega
   obtain⟨b,hb⟩:=Ex (t.getD 0 0);rw[hb]at hE;have e48:((b.toNat:Int)!=48)=(b !=48):=congrArg (!·) (ckz b 48);cases hb48:b !=48
   ·rw[hb48,Yn]at hE;rw[hb48]at e48;have el:((t.length:Int)==1)=(t.length==1):=by
     rw[Z4,ZC,ZC];omega
    rw[←hE]at el;refine azf (ai t0 (ai t17 (ai t18 (ai hlt (ai hnt (ai hp2 (ai n0 (ai hb (ai e48 el))))))))) ?_;exact Fn rfl
   ·rw[hb48,YT]at hE;subst hE;rw[hb48]at e48;refine azf (ai t0 (ai t17 (ai t18 (ai hlt (ai hnt (ai hp2 (ai n0 (ai hb e48)))))))) ?_;exact Fn rfl
end AX
theorem bkg(l:List UInt8)(hl:l.length≤2000000)(w:World)(g:GT w):
  Calls Tryz.prog 97 #[.string ⟨l.toArray⟩] w fun e w'=>e=.returned (.tuple #[.int .i64 (Num.parse l).1,.int .i64 (Num.parse l).2])∧Below w.heap.size w w':=by
 have hc:=AX.cxa (w:=w) (vs:=[.string ⟨l.toArray⟩]) ((AX.dxm l hl ⟨[],[]⟩).mono fun v h' hv=>hv.1) (AX.cwl g) (AX.repL_cons.2 ⟨_,_,rfl,AX.rep_str.2 rfl,AX.repL_nil.2 rfl⟩);have hf:=Num.parse_form l;obtain⟨P1,hP1⟩:=Ex (Num.parse l);rw[hP1]at hf⊢;cases hB:Num.canonB l
 ·rw[hB,if_pos rfl]at hf;subst hf;rw[hB]at hc;go_enter Tryz.func97,Tryz.ntmps97;go_wp2_with fail;refine hc.mono ?_;rintro e w1 ⟨rfl,b1⟩;have B1:=kept b1;clear b1;go_wp2;refine bodyPost_ret (v:=.tuple #[.int .i64 0,.int .i64 2]) (by simp[results,Tryz.results97,go_sem]) rfl ⟨rfl,B1.out⟩
 ·rw[hB,if_neg (by decide)]at hf;rw[hB]at hc;have hsz:(⟨l.toArray⟩:ByteArray).size≤9223372036854775806:=by rw[size_mk];omega
  have hlim:(⟨l.toArray⟩:ByteArray).size≤281474976710656:=by rw[size_mk];omega
  have hsyn:=g.esyn;obtain⟨ev,hev,hev2⟩:=g.erng;have nilne:∀(a b:Value),True:=fun _ _=>AX.ti
  rcases Num.parseIntB_canon l hB with⟨h1,h2⟩|⟨h1,h2|⟨v,h2,h3⟩⟩
  ·rw[if_neg (by omega)]at hf;obtain⟨v,hv⟩:∃v:Int,(if l.getD 0 0==45 then -(Num.val (Num.body l):Int)else(Num.val (Num.body l):Int))=v:=⟨_,rfl⟩;rw[hv]at h2 hf;have hvr:-9007199254740992≤v∧v≤9007199254740992:=by rw[←hv];split<;>omega
   have hp:∀w':World,Calls Tryz.prog 134 #[.string ⟨l.toArray⟩,.int .i64 10,.int .i64 64] w' fun e w2=>e=.returned (.tuple #[.int .i64 v,.nilIface])∧(w2=w'∨∃t,w2=Lib.bytesWorld w' 5 t):=fun w'=>Any.strconv_ParseInt_10_at64_ok (P:=Tryz.prog) Tryz.lays174 ⟨l.toArray⟩ hsz v h2 w'
   have Hnv:=kept (fun w'=>ax2 v w');rw[Yh hvr]at Hnv;subst hf;have Hp:=kept hp;clear hp hsz hlim hsyn hev hev2 hvr hv h1 h2 hB;go_enter Tryz.func97,Tryz.ntmps97;go_wp2_with fail;refine hc.mono ?_;rintro e w1 ⟨rfl,b1⟩;have B1:=kept b1;clear b1;go_wp2_with fail;(with_reducible refine(Hp.out _).mono ?_);rintro e w2 ⟨rfl,hw⟩
   have B2:Kept (Below w.heap.size w w2):=kept (by
    rcases hw with rfl|⟨t,rfl⟩
    ·exact B1.out
    ·exact bthen B1.out (Lib.bytesWorld_below _ _ _))
   clear hw;go_wp2_with fail;(with_reducible refine(Hnv.out _).mono ?_);rintro e w3 ⟨rfl,rfl⟩
   go_wp2;refine bodyPost_ret (v:=.tuple #[.int .i64 v,.int .i64 0]) (by simp[results,Tryz.results97,go_sem]) rfl ⟨rfl,B2.out⟩
  ·rw[if_pos (by omega)]at hf;have hp:∀w':World,w'.cell? ⟨4,0,none⟩=some ev→Calls Tryz.prog 134 #[.string ⟨l.toArray⟩,.int .i64 10,.int .i64 64] w' fun e w2=>(∃a b c,e=.returned (.tuple #[.int .i64 a,.iface b c]))∧Below w'.heap.size w' w2:=fun w' hv=>(Any.strconv_ParseInt_10_at64_range (P:=Tryz.prog) Tryz.lays174 ⟨l.toArray⟩ hlim h2 ev w' hv hev2).mono fun e w2 ⟨N,q1,q2,q3,q4⟩=>⟨⟨_,_,_,q1⟩,q4⟩
   subst hf;have Hp:=kept hp;have Hev:=kept hev;clear hp hsz hlim hsyn hev hev2 h1 h2 hB;go_enter Tryz.func97,Tryz.ntmps97;go_wp2_with fail;refine hc.mono ?_;rintro e w1 ⟨rfl,b1⟩;have B1:=kept b1;have Hev1:=kept (show w1.cell? ⟨4,0,none⟩=some ev from by rw[←Hev.out];simp only[World.cell?,b1.block _ (aqo Hev.out).2]);clear b1;go_wp2_with fail;(with_reducible refine(Hp.out _ Hev1.out).mono ?_);rintro e w2 ⟨⟨a,b,c,rfl⟩,b2⟩
   have B2:Kept (Below w.heap.size w w2):=kept (bthen B1.out b2);clear b2;go_wp2;refine bodyPost_ret (v:=.tuple #[.int .i64 0,.int .i64 5]) (by simp[results,Tryz.results97,go_sem]) rfl ⟨rfl,B2.out⟩
  ·rw[if_pos (by omega)]at hf;have hp:∀w':World,Calls Tryz.prog 134 #[.string ⟨l.toArray⟩,.int .i64 10,.int .i64 64] w' fun e w2=>e=.returned (.tuple #[.int .i64 v,.nilIface])∧(w2=w'∨∃t,w2=Lib.bytesWorld w' 5 t):=fun w'=>Any.strconv_ParseInt_10_at64_ok (P:=Tryz.prog) Tryz.lays174 ⟨l.toArray⟩ hsz v h2 w'
   have Hnv:=kept (fun w'=>ax2 v w');rw[Ys h3]at Hnv;subst hf;have Hp:=kept hp;clear hp hsz hlim hsyn hev hev2 h3 h1 h2 hB;go_enter Tryz.func97,Tryz.ntmps97;go_wp2_with fail;refine hc.mono ?_;rintro e w1 ⟨rfl,b1⟩;have B1:=kept b1;clear b1;go_wp2_with fail;(with_reducible refine(Hp.out _).mono ?_);rintro e w2 ⟨rfl,hw⟩
   have B2:Kept (Below w.heap.size w w2):=kept (by
    rcases hw with rfl|⟨t,rfl⟩
    ·exact B1.out
    ·exact bthen B1.out (Lib.bytesWorld_below _ _ _))
   clear hw;go_wp2_with fail;(with_reducible refine(Hnv.out _).mono ?_);rintro e w3 ⟨rfl,rfl⟩
   go_wp2;refine bodyPost_ret (v:=.tuple #[.int .i64 0,.int .i64 5]) (by simp[results,Tryz.results97,go_sem]) rfl ⟨rfl,B2.out⟩
theorem AX.a_numParse(s:List UInt8)(hl:s.length≤2000000)(h:AX.Hp):AX.AT 97 [.str s] h (.tup [.int .i64 (Num.parse s).1,.int .i64 (Num.parse s).2]):=
 AX.azx (AX.av9 AX.ajr) (fun w hg=>bkg s hl w hg) (fun C=>AX.rep_tup.2 ⟨_,rfl,AX.repL_cons.2 ⟨_,_,rfl,AX.rep_int.2 rfl,AX.repL_cons.2 ⟨_,_,rfl,AX.rep_int.2 rfl,AX.repL_nil.2 rfl⟩⟩⟩) h
end
section
open Go.RowKit Go.Lib
def stops:ByteArray:=⟨#[46,91]⟩
theorem bq6(w:World)(s:ByteArray)(p:Nat):Below w.heap.size w (w.iter s p):=by
 refine⟨rfl,rfl,rfl,?_,fun g hg=>?_⟩
 ·show w.heap.size≤(w.heap.push (Obj.stringIter s p)).size
  simp
 ·show(w.heap.push (Obj.stringIter s p))[g]?=_
  rw[Array.getElem?_push,if_neg (by omega)]
theorem bjp(w:World):Calls Tryz.prog 170 #[.string stops,.int .i32 65533] w fun e w'=>e=.returned (.int .i64 (-1))∧Below w.heap.size w w':=by
 go_enter Tryz.func170,Tryz.ntmps170;have hsz:stops.size=2:=rfl;go_wp2_with fail
 go_loopg [5,6] 2 (fun g _ _ wx=>∃i:Nat,i+g=2∧wx=w.iter stops i)
 case atStart=>exact⟨0,by omega,rfl⟩
 case round=>
  obtain⟨i,hig,rfl⟩:=hrel;cases gk with
  |zero=>
   obtain rfl:i=2:=by omega
   have hnx:=fun ty=>run_next_end (P:=Tryz.prog) w stops 2 ty (by decide)
   go_wp2
   go_ret
   exact⟨rfl,bq6 w stops 2⟩
  |succ g=>
   have hi:i=0∨i=1:=by omega
   rcases hi with rfl|rfl
   ·have hnx:=fun ty=>run_next_ascii (P:=Tryz.prog) w stops 0 ty (by decide) (by decide)
    have e0:((stops[0]'(by decide)).toNat:Int)=46:=rfl;rw[e0]at hnx;go_wp2
    go_roundg g
    case measure=>omega
    case rel=>exact⟨1,by omega,rfl⟩
   ·have hnx:=fun ty=>run_next_ascii (P:=Tryz.prog) w stops 1 ty (by decide) (by decide)
    have e0:((stops[1]'(by decide)).toNat:Int)=91:=rfl;rw[e0]at hnx;go_wp2
    go_roundg g
    case measure=>omega
    case rel=>exact⟨2,by omega,rfl⟩
theorem bv3(r:Int)(h0:128≤r)(h1:r≤2147483647)(hr:r≠65533)(w:World):Calls Tryz.prog 170 #[.string stops,.int .i32 r] w fun e w'=>e=.returned (.int .i64 (-1))∧Below w.heap.size w w':=by
 go_enter Tryz.func170,Tryz.ntmps170;have hsz:stops.size=2:=rfl;have c1:decide (0≤r)=true:=Yh (by omega);have c2:decide (r<128)=false:=Ys (by omega);have c3:(r==65533)=false:=Zw.2 hr;have Hv:=kept (fun w=>Tryz.utf8_ValidRune r w);cases hv:Lib.validRune r
 ·go_wp2_with fail;(with_reducible refine(Hv.out _).mono ?_);rintro e w1 ⟨rfl,rfl⟩
  rw[hv];go_wp2
  go_ret
  exact⟨rfl,Below.refl _ _⟩
 ·have hval:Utf8.valid r=true:=by rw[Go.validRune_eq];unfold Lib.validRune at hv;unfold Go.validRune;exact hv
  obtain⟨f1,f2,f3⟩:=encode_facts r hval h0;go_wp2_with fail;(with_reducible refine(Hv.out _).mono ?_);rintro e w1 ⟨rfl,rfl⟩
  rw[hv];have e1:IntKind.i64.wrap (((Utf8.encode r).size:Int)-1)=(((Utf8.encode r).size-1:Nat):Int):=by rw[show((Utf8.encode r).size:Int)-1=(((Utf8.encode r).size-1:Nat):Int) by omega];exact Go.IntWalk.i64_in _ ⟨by omega,by omega⟩
  have hcv:=fun(w:World)=>run_convert_int_string (P:=Tryz.prog) w 21 9 .i32 r rfl rfl
  go_wp2_with fail;apply wp_scope_straight;go_wp2
  go_loopg [9,10,11,12] 1 (fun g v9 v10 v11 v12 wx=>wx=w1∧v9=.int .i64 (((Utf8.encode r).size-1:Nat):Int))
  case atStart=>exact⟨rfl,rfl⟩
  case round=>
   obtain⟨rfl,rfl⟩:=hrel;by_cases h2:(Utf8.encode r).size=2
   ·have e2:(Utf8.encode r).size-1=1:=by omega
    obtain⟨x,hx⟩:∃x:UInt8,(Utf8.encode r)[1]'(by omega)=x:=⟨_,rfl⟩;have hx1:128≤x.toNat:=by
     have:=f3 (by omega);simp only[e2]at this;rw[hx]at this;exact this
    have hi1:(1:Nat)<(Utf8.encode r).size:=by omega
    have hs1:(stops[1]'(by decide)).toNat=91:=rfl;have hne:((91:Int)!=(x.toNat:Int))=true:=by simp;omega
    have e3:(((Utf8.encode r).size-1:Nat):Int)=1:=by omega
    have hi2:(1:Int)<((Utf8.encode r).size:Int):=by omega
    rw[e3];go_wp2;apply wp_scope_straight;go_wp2_with fail
    go_region
    have hw2:IntKind.i64.wrap ((1:Int)+1)=2:=rfl;have hib0:Lib.indexByte [] x=-1:=rfl;go_wp2_with fail
    go_region_with ((with_reducible refine(Tryz.strings_IndexByte _ _ _).mono ?_);rintro e2 w2 ⟨rfl,rfl⟩)
    all_goals
     go_wp2;rw[Exit.noGoto_ret];go_wp2;rw[Exit.noGoto_ret];go_wp2
     go_ret
     first|exact⟨rfl,below_drewN (Below.refl _ _) 2⟩|exact⟨rfl,below_drewN _ 2⟩
   ·have hlt:¬((((Utf8.encode r).size-1:Nat):Int)<(stops.size:Int)):=by omega
    go_wp2
    go_ret
    exact⟨rfl,Below.refl _ _⟩
theorem akz(s:ByteArray)(i j:Nat)(h1:1≤j)(hj:j<(Utf8.decode s i).2):i+j<s.size∧128≤(s.get! (i+j)).toNat:=by
 unfold Utf8.decode at hj;dsimp only at hj;split at hj
 ·simp only at hj;omega
 ·split at hj
  ·next h=>
   simp only[Zf,ZD,ZC]at h;split at hj
   ·simp only at hj;obtain rfl:j=1:=by omega
    omega
   ·simp only at hj;omega
  ·split at hj
   ·next h=>
    simp only[Zf,ZD,ZC]at h;split at hj
    ·simp only at hj;have:j=1∨j=2:=by omega
     rcases this with rfl|rfl<;>omega
    ·simp only at hj;omega
   ·split at hj
    ·next h=>
     simp only[Zf,ZD,ZC]at h;split at hj
     ·simp only at hj;have:j=1∨j=2∨j=3:=by omega
      rcases this with rfl|rfl|rfl<;>omega
     ·simp only at hj;omega
    ·simp only at hj;omega
theorem bxg(r:Int)(h0:128≤r)(h1:r≤2147483647)(w:World):Calls Tryz.prog 170 #[.string stops,.int .i32 r] w fun e w'=>e=.returned (.int .i64 (-1))∧Below w.heap.size w w':=by
 by_cases h:r=65533
 ·subst h;exact bjp w
 ·exact bv3 r h0 h1 h w
theorem cxn{s:ByteArray}{i:Nat}(hi:i<s.size)(hx:128≤(s[i]'hi).toNat)(h:Lib.NoAny s.data.toList stops.data.toList i):Lib.NoAny s.data.toList stops.data.toList (i+(Utf8.decode s i).2)∧i+(Utf8.decode s i).2≤s.size∧1≤(Utf8.decode s i).2:=by
 have hd:=(decode_high s i hi hx).2;refine⟨fun j b hj hb=>?_,?_,hd⟩
 ·by_cases hji:j<i
  ·exact h j b hji hb
  ·have hjs:j<s.size:=by
    have:=(Ze.1 hb).1;simpa using this
   have hb':b=s[j]'hjs:=by
    have:=Lib.data_getElem? s j hjs;rw[this]at hb;exact(Zak hb).symm
   have h128:128≤b.toNat:=by
    by_cases hji2:j=i
    ·subst hji2;rw[hb'];exact hx
    ·have:=(akz s i (j-i) (by omega) (by omega)).2;rw[show i+(j-i)=j by omega]at this;rw[hb'];have e:s.get! j=s[j]'hjs:=get_at s j hjs;rw[e]at this;exact this
   have hne:b≠46∧b≠91:=by
    constructor
    ·rintro rfl;exact absurd h128 (by decide)
    ·rintro rfl;exact absurd h128 (by decide)
   show[(46:UInt8),91].contains b=false
   simp[hne.1,hne.2]
 ·by_cases h1:(Utf8.decode s i).2=1
  ·omega
  ·have:=(akz s i ((Utf8.decode s i).2-1) (by omega) (by omega)).1;omega
theorem bz7(s:ByteArray)(w:World)(h8:s.size≤8):Calls Tryz.prog 143 #[.string s,.string stops] w fun e w'=>e=.returned (.int .i64 (Lib.indexAny s.data.toList stops.data.toList))∧Below w.heap.size w w':=by
 have hss:stops.size=2:=rfl;have hemp:stops.toList.isEmpty=false:=by rw[Lib.toList_data];rfl
 have hn1:((stops.size:Int)==1)=false:=rfl;have h8z:decide ((8:Int)<(s.size:Int))=false:=Ys (by omega);go_enter Tryz.func143,Tryz.ntmps143;go_wp2_with fail;(with_reducible refine(Tryz.strings_shouldUseASCIISet _ _).mono ?_);rintro e w1 ⟨rfl,rfl⟩
 rw[h8z];go_wp2_with fail
 go_loopg [9,10] s.size (fun g _ _ wx=>∃i:Nat,s.size≤i+g∧i≤s.size∧wx.heap[w1.heap.size]?=some (.stringIter s i)∧Below w1.heap.size w1 wx∧Lib.NoAny s.data.toList stops.data.toList i)
 case atStart=>exact⟨0,by omega,by omega,World.iter_heap _ _ _,bq6 _ _ _,Lib.NoAny.zero _ _⟩
 case round=>
  obtain⟨i,hig,his,hit,hbel,hno⟩:=hrel;by_cases hi:i<s.size
  ·cases gk with
   |zero=>omega
   |succ g=>
    obtain⟨x,hx⟩:∃x:UInt8,s[i]'hi=x:=⟨_,rfl⟩;have hxl:s.data.toList[i]?=some x:=by rw[←hx];exact Lib.data_getElem? s i hi
    by_cases ha:x.toNat<128
    ·have hnx:=fun ty=>run_next_ascii_at (P:=Tryz.prog) wr w1.heap.size s i ty hit hi (by rw[hx];exact ha)
     rw[hx]at hnx;have Hit:=kept (iterAt_heap wr w1.heap.size s i (i+1) hit);have Hbel:=kept (below_iterAt hbel (Zh _) s (i+1));have Hno:=kept hno;have Hxl:=kept hxl;have hcon:=Lib.contains_iff_indexByte stops.data.toList x;have hback:((x.toNat:Int)).toNat.toUInt8=x:=by simp
     have Hx:=kept hx;clear hit hbel hno hxl hx;cases hin:stops.data.toList.contains x
     ·rw[hin]at hcon;have hlt:¬((0:Int)≤Lib.indexByte stops.data.toList x):=of_decide_eq_false hcon.symm;clear hcon;go_wp2_with fail;(with_reducible refine(Tryz.strings_IndexRune_ascii _ _ _ (by omega) (by omega)).mono ?_);rintro e w2 ⟨rfl,rfl⟩
      rw[hback];go_wp2
      go_roundg g
      case measure=>omega
      case rel=>exact⟨i+1,by omega,by omega,Hit.out,Hbel.out,Hno.out.succ Hxl.out hin⟩
     ·rw[hin]at hcon;have hge:(0:Int)≤Lib.indexByte stops.data.toList x:=of_decide_eq_true hcon.symm;clear hcon;go_wp2_with fail;(with_reducible refine(Tryz.strings_IndexRune_ascii _ _ _ (by omega) (by omega)).mono ?_);rintro e w2 ⟨rfl,rfl⟩
      rw[hback];go_wp2
      go_ret
      exact⟨by rw[Lib.indexAny_hit Hno.out Hxl.out hin];rfl,Hbel.out⟩
    ·have hx128:128≤(s[i]'hi).toNat:=by rw[hx];omega
     obtain⟨k1,k2,k3⟩:=cxn hi hx128 hno;have d1:=(decode_high s i hi hx128).1;have d2:=decode_le s i;have hnx:=fun ty=>run_next_any_at (P:=Tryz.prog) wr w1.heap.size s i ty hit hi
     obtain⟨⟨c,d⟩,hcd⟩:=Ex (Utf8.decode s i);rw[hcd]at k1 k2 k3 d1 d2 hnx;dsimp only at k1 k2 k3 d1 d2 hnx;have Hit:=kept (iterAt_heap wr w1.heap.size s i (i+d) hit);have Hbel:=kept (below_iterAt hbel (Zh _) s (i+d));have K1:=kept k1;clear hit hbel hno hxl hx hx128 hcd k1;go_wp2_with fail;(with_reducible refine(bxg _ (by omega) (by omega) _).mono ?_);rintro e w2 ⟨rfl,b2⟩
     have hit2:w2.heap[w1.heap.size]?=some (.stringIter s (i+d)):=by rw[b2.block _ (ZL.1 Hit.out).1];exact Hit.out
     have Hit2:=kept hit2;have Hbel2:=kept (Hbel.out.trans (b2.mono (by have:=Hbel.out.size;exact this)));clear hit2 b2;go_wp2
     go_roundg g
     case measure=>omega
     case rel=>exact⟨i+d,by omega,by omega,Hit2.out,Hbel2.out,K1.out⟩
  ·obtain rfl:i=s.size:=by omega
   have hnx:=fun ty=>run_next_end_at (P:=Tryz.prog) wr w1.heap.size s s.size ty hit (by omega)
   have Hno:=kept hno;have Hbel:=kept hbel;clear hno hbel;go_wp2
   go_ret
   exact⟨by rw[Lib.indexAny_none (by rw[←Lib.size_eq];exact Hno.out)];rfl,Hbel.out⟩
set_option maxHeartbeats 8000000 in
theorem bxp(s:ByteArray)(h8:8<s.size)(hs:s.size≤9223372036854775807)(w:World):Calls Tryz.prog 143 #[.string s,.string stops] w fun e w'=>e=.returned (.int .i64 (Lib.indexAny s.data.toList stops.data.toList))∧Below w.heap.size w w':=by
 have hz:=zero_of_info (P:=Tryz.prog) (t:=199) (n:=256) (v:=.agg (Array.replicate 256 (.bool false))) (by kernel_rfl);obtain⟨cells,hcells⟩:=Ex (Lib.setCells stops.data.toList);have hasc:∀(j:Nat) b,stops.data.toList[j]?=some b→b.toNat<128:=by
  intro j b hb
  match j,hb with
  |0,hb=>cases hb;decide
  |1,hb=>cases hb;decide
  |j+2,hb=>simp[stops]at hb
 have Hset:=kept (Tryz.strings_makeASCIISet hz.1 stops w (by decide) hasc);obtain⟨W,hW⟩:=Ex ((w.alloc (.cells cells 199)).alloc (.cells cells 199));have hbel:Below w.heap.size w W:=by
  rw[←hW];exact((Below.refl _ _).alloc (Zh _) _).alloc (((Below.refl w.heap.size w).alloc (Zh _) (.cells cells 199)).size) _
 have hcell:∀x:UInt8,W.cell? ⟨w.heap.size+1,x.toNat,none⟩=some (.bool (stops.data.toList.contains x)):=fun x=>by
  rw[←hW,World.cell?_alloc_at _ _ _ _ (by simp),←hcells,Lib.setCells_at]
 have hst:(storeCells ⟨w.heap.size+1,0,none⟩ cells.toList 0).run Tryz.prog ((w.alloc (.cells cells 199)).alloc (.cells (Array.replicate 256 (.bool false)) 199))=.ok () W:=by
  have:=run_storeCells_new (P:=Tryz.prog) (w.alloc (.cells cells 199)) 199 (Array.replicate 256 (.bool false)) cells (by rw[←hcells,Lib.setCells_size];exact hz.2) (by rw[←hcells,Lib.setCells_size,Array.size_replicate]) (by rw[←hcells];exact Lib.setCells_one _);rw[hW]at this;simpa using this
 have hemp:stops.toList.isEmpty=false:=by rw[Lib.toList_data];rfl
 have hn1:((stops.size:Int)==1)=false:=rfl;have h8z:decide ((8:Int)<(s.size:Int))=true:=Yh (by omega);have HC:=kept hcell;have HB:=kept hbel;clear hcell hbel;rw[hcells]at Hset;go_enter Tryz.func143,Tryz.ntmps143;go_wp2_with fail;(with_reducible refine(Tryz.strings_shouldUseASCIISet _ _).mono ?_);rintro e w1 ⟨rfl,rfl⟩
 rw[h8z];go_wp2_with fail;(with_reducible refine Hset.out.mono ?_);rintro e w1 ⟨rfl,rfl⟩
 have hcsz:cells.size=256:=by rw[←hcells];exact Lib.setCells_size _
 have e0:Tryz.zeroCells199=Array.replicate 256 (.bool false):=by kernel_rfl
 go_wp2
 go_loopg [8] s.size (fun g s8 wx=>∃i:Nat,i+g=s.size∧s8=.int .i64 i∧wx=W∧Lib.NoAny s.data.toList stops.data.toList i)
 case atStart=>exact⟨0,by omega,rfl,rfl,Lib.NoAny.zero _ _⟩
 case round=>
  obtain⟨i,hig,rfl,rfl,hno⟩:=hrel;have HN:=kept hno;clear hno;cases gk with
  |zero=>
   obtain rfl:i=s.size:=by omega
   have hiz:¬((s.size:Int)<(s.size:Int)):=by omega
   go_wp2
   go_ret
   exact⟨by rw[Lib.indexAny_none (by rw[←Lib.size_eq];exact HN.out)];rfl,HB.out⟩
  |succ g=>
   have hi:i<s.size:=by omega
   have hiz:(i:Int)<(s.size:Int):=by omega
   have hw:IntKind.i64.wrap ((i:Int)+1)=(i:Int)+1:=Go.IntWalk.i64_in _ ⟨by omega,by omega⟩;obtain⟨x,hx⟩:∃x:UInt8,s[i]'hi=x:=⟨_,rfl⟩;have hxl:s.data.toList[i]?=some x:=by rw[←hx];exact Lib.data_getElem? s i hi
   have Hxl:=kept hxl;clear hxl;have hcx:=HC.out x;cases hin:stops.data.toList.contains x<;>rw[hin]at hcx
   ·go_wp2_with fail;(with_reducible refine(Tryz.asciiSet_contains _ x _ _ hcx).mono ?_);rintro e w2 ⟨rfl,rfl⟩
    go_wp2
    go_roundg g
    case measure=>omega
    case rel=>exact⟨i+1,by omega,by first|rfl|simp,rfl,HN.out.succ Hxl.out hin⟩
   ·go_wp2_with fail;(with_reducible refine(Tryz.asciiSet_contains _ x _ _ hcx).mono ?_);rintro e w2 ⟨rfl,rfl⟩
    go_wp2
    go_ret
    exact⟨by rw[Lib.indexAny_hit HN.out Hxl.out hin];rfl,HB.out⟩
theorem bv1(s:ByteArray)(hs:s.size≤9223372036854775807)(w:World):Calls Tryz.prog 143 #[.string s,.string stops] w fun e w'=>e=.returned (.int .i64 (Lib.indexAny s.data.toList stops.data.toList))∧Below w.heap.size w w':=by
 by_cases h8:s.size≤8
 ·exact bz7 s w h8
 ·exact bxp s (by omega) hs w
end
section
open Go.RowKit
namespace Adr
def first(k:Nat)(c:UInt8):Bool:=if k=0 then letter c else wordB c
def idOk(j:Nat)(s:List UInt8):Prop:=∀k,k<j→first k (s.getD k 0)=true
theorem wordB_of_letter{c:UInt8}(h:letter c=true):wordB c=true:=by unfold wordB;rw[h];rfl
theorem ident_fail{s:List UInt8}{j:Nat}(hj:j<s.length)(h:first j (s.getD j 0)=false):ident s=false:=by
 unfold ident;unfold first at h;split at h
 ·next e=>
  subst e;rw[h];simp
 ·have:s.all wordB=false:=by
   rw[List.all_eq_false];refine⟨s[j],Zp hj,?_⟩;have e:s.getD j 0=s[j]:=by simp[List.getD,hj]
   rw[e]at h;rw[h];decide
  simp[this]
theorem ident_end{s:List UInt8}(h:idOk s.length s):ident s=(s != []&&decide (s.length≤64)):=by
 unfold ident;cases s with
 |nil=>rfl
 |cons c t=>
  have h0:letter ((c::t).getD 0 0)=true:=by
   have:=h 0 (by simp);unfold first at this
   rwa [if_pos rfl]at this
  have h1:(c::t).all wordB=true:=by
   rw[ZF];intro x hx;obtain⟨j,hj,rfl⟩:=List.getElem_of_mem hx;have:=h j hj;have e:(c::t).getD j 0=(c::t)[j]:=by rw[Ya,Zm hj];rfl
   unfold first at this;rw[e]at this;split at this
   ·exact wordB_of_letter this
   ·exact this
  rw[h0,h1];simp
theorem or_letter:∀n:Fin 256,letter (UInt8.ofNat n.val)=!((((n.val:Nat):Int)!=95)&&(decide (bits .or .u8 ((n.val:Nat):Int) 32<97)||decide (bits .or .u8 ((n.val:Nat):Int) 32>122))):=by decide +kernel
theorem letter_or(c:UInt8):letter c=!(((c.toNat:Int)!=95)&&(decide (bits .or .u8 (c.toNat:Int) 32<97)||decide (bits .or .u8 (c.toNat:Int) 32>122))):=by
 have:=or_letter ⟨c.toNat,c.toNat_lt⟩;simpa using this
end Adr
namespace AX
def byw:AX.AFn:=⟨50,aS [aR 2 (.mv (.c (.bool false)))] (.seq (aS [aM 5 0,aR 6 (.len true (.t 5)),aR 7 (.mv (aI 0))] (.block 0 (.loop (aS [aR 8 (.bin .lss (.t 7) (.t 6))] (.seq (.cond (.t 8) (.skip) (.exit 0)) (.seq (.block 1 (aS [aM 9 7,aM 3 9] (aS [aM 10 0,aM 11 3,aR 12 (.sidx (.t 10) (.t 11)),aR 13 (.bin .or (.t 12) (.c (.int .u8 32))),aM 4 13] (aS [aM 14 0,aM 15 3,aR 16 (.sidx (.t 14) (.t 15)),aR 17 (.bin .neq (.t 16) (.c (.int .u8 95))),aM 18 17,aG 19 (.mv (.t 4)) 18 true,aG 20 (.bin .lss (.t 19) (.c (.int .u8 97))) 18 true,aG 21 (.mv (.t 20)) 18 true,aG 22 (.mv (.t 4)) 21 false,aG 23 (.bin .gtr (.t 22) (.c (.int .u8 122))) 21 false,aG 24 (.pick (.t 21) (.c (.bool true)) (.t 23)) 18 true,aR 25 (.pick (.t 18) (.t 24) (.c (.bool false))),aM 26 25,aG 27 (.mv (.t 3)) 26 true,aG 28 (.bin .eql (.t 27) (aI 0)) 26 true,aG 29 (.mv (.t 28)) 26 true,aG 30 (.mv (.t 0)) 29 false,aG 31 (.mv (.t 3)) 29 false,aG 32 (.sidx (.t 30) (.t 31)) 29 false,aG 33 (.bin .lss (.t 32) (.c (.int .u8 48))) 29 false,aG 34 (.pick (.t 29) (.c (.bool true)) (.t 33)) 26 true,aG 35 (.mv (.t 34)) 26 true,aG 36 (.mv (.t 0)) 35 false,aG 37 (.mv (.t 3)) 35 false,aG 38 (.sidx (.t 36) (.t 37)) 35 false,aG 39 (.bin .gtr (.t 38) (.c (.int .u8 57))) 35 false,aG 40 (.pick (.t 35) (.c (.bool true)) (.t 39)) 26 true,aR 41 (.pick (.t 26) (.t 40) (.c (.bool false)))] (.cond (.t 41) (aS [aR 2 (.mv (.c (.bool false)))] (.ret)) (.skip)))))) (.reg false [aR 42 (.bin .add (.t 7) (aI 1)),aM 7 42]))))))) (aS [aM 43 0,aR 44 (.bin .neq (.t 43) (.c (.str []))),aM 45 44,aG 46 (.mv (.t 0)) 45 true,aG 47 (.len true (.t 46)) 45 true,aG 48 (.bin .leq (.t 47) (aI 64)) 45 true,aR 49 (.pick (.t 45) (.t 48) (.c (.bool false))),aM 2 49] (.ret))),[.t 2]⟩
theorem dvf:AX.compFn Tryz.prog 61=some byw:=by kernel_rfl
def byy:AX.AFn:=⟨15,aS [aR 4 (.mv (.c (.str []))),aR 5 (.mv (.c (.bool false)))] (.seq (aS [aM 6 0,aM 7 1,aR 8 (.call 174 [.t 6,.t 7]),aR 9 (.un .not (.t 8))] (.cond (.t 9) (aS [aM 10 0,aM 4 10,aR 5 (.mv (.c (.bool false)))] (.ret)) (.skip))) (aS [aM 11 0,aM 12 1,aR 13 (.len true (.t 12)),aR 14 (.ssl (.t 11) (some (.t 13)) none),aM 4 14,aR 5 (.mv (.c (.bool true)))] (.ret))),[.t 4,.t 5]⟩
theorem dxa:AX.compFn Tryz.prog 169=some byy:=by kernel_rfl
def cv9:AX.AFn:=⟨11,aS [aR 4 (.mv (.c (.str []))),aR 5 (.mv (.c (.bool false)))] (aS [aM 6 0,aM 7 1,aR 8 (.call 169 [.t 6,.t 7]),aE 9 8 0,aE 10 8 1,aM 4 9,aM 5 10] (.ret)),[.t 4,.t 5]⟩
theorem dkm:AX.compFn Tryz.prog 142=some cv9:=by kernel_rfl
def cvm:AX.AFn:=⟨21,aS [aR 4 (.mv (.c (.bool false)))] (aS [aM 8 0,aR 9 (.nilck (.t 8)),aF 10 0 9,aL 11 10,aM 12 1,aR 13 (.call 142 [.t 11,.t 12]),aM 7 13,aE 14 7 0,aE 15 7 1,aM 5 14,aM 6 15] (aS [aM 16 0,aM 17 5,aR 18 (.nilck (.t 16)),aF 19 0 18,aU (.store 1 (.t 19) (.t 17))] (aS [aM 20 6,aM 4 20] (.ret)))),[.t 4]⟩
theorem dv0:AX.compFn Tryz.prog 104=some cvm:=by kernel_rfl
def bwv:AX.AFn:=⟨30,aS [aM 7 0,aR 8 (.nilck (.t 7)),aF 9 0 8,aL 10 9,aM 11 1,aR 12 (.call 142 [.t 10,.t 11]),aM 6 12,aE 13 6 0,aE 14 6 1,aM 4 13,aM 5 14] (aS [aM 15 0,aM 16 4,aR 17 (.nilck (.t 15)),aF 18 0 17,aU (.store 1 (.t 18) (.t 16))] (.reg false [aM 19 0,aM 20 0,aR 21 (.nilck (.t 20)),aF 22 1 21,aL 23 22,aM 24 23,aG 25 (.mv (.t 5)) 24 false,aG 26 (.un .not (.t 25)) 24 false,aR 27 (.pick (.t 24) (.c (.bool true)) (.t 26)),aR 28 (.nilck (.t 19)),aF 29 1 28,aU (.store 1 (.t 29) (.t 27))])),[]⟩
theorem djk:AX.compFn Tryz.prog 106=some bwv:=by kernel_rfl
theorem aw4(s:List UInt8)(hl:s.length≤2000000)(h:Hp):AT 61 [.str s] h (.bool (Adr.ident s)):=by
 refine pcall ?_ rfl (by simp[A.pure,A.data]) h;refine azb mixedT dvf (by simp[byw]) ?_;dsimp only[byw];refine azf ti ?_;refine azd (fun mm ts h=>∃(j:Nat),mm=s.length-j∧j≤s.length∧h=⟨[],[]⟩∧Adr.idOk j s∧ts 0=.str s∧ts 6=.int .i64 (s.length:Nat)∧ts 7=.int .i64 (j:Nat)) s.length ?_ ?_
 ·exact⟨0,by omega,by omega,rfl,fun k hk=>absurd hk (Nat.not_lt_zero k),by(exact ev0 ti),by(exact ev0 ti),by(exact azo ti)⟩
 rintro mm ts h ⟨j,rfl,hjc,rfl,hok,t0,t6,t7⟩;by_cases hj:j<s.length
 ·have hlt:(j:Int)<(s.length:Int):=by omega
  have hj0:(0:Int)≤(j:Int):=by omega
  have ei:IntKind.i64.wrap ((j:Int)+1)=((j+1:Nat):Int):=by rw[wrap64 (by omega) (by omega)];omega
  obtain⟨c,hc⟩:=Ex (s.getD j 0)
  have hfl:Adr.letter c=false→j=0∨Adr.wordB c=false→Adr.ident s=false:=fun h1 h2=>Adr.ident_fail hj (by
   rw[hc];unfold Adr.first;rcases h2 with h2|h2
   ·rw[if_pos h2];exact h1
   ·split
    ·exact h1
    ·exact h2)
  have hgo:Adr.first j c=true→Adr.idOk (j+1) s:=fun h1 k hk=>by
   by_cases e:k=j
   ·rw[e,hc];exact h1
   ·exact hok k (by omega)
  have hlo:=Adr.letter_or c;have hdg:=Num.digB_int c;have hwb:Adr.wordB c=(Adr.letter c||Num.digB c):=rfl;obtain⟨x,hx⟩:∃x:Int,(c.toNat:Int)=x:=⟨_,rfl⟩;rw[hx]at hlo hdg;obtain⟨y,hy⟩:∃y:Int,bits .or .u8 x 32=y:=⟨_,rfl⟩;rw[hy]at hlo;have next:Adr.first j c=true→∃m',m'<s.length-j∧∃(j':Nat),m'=s.length-j'∧j'≤s.length∧Adr.idOk j' s∧j'=j+1:=fun h1=>⟨s.length-(j+1),by omega,j+1,rfl,by omega,hgo h1,rfl⟩
  by_cases h95:x=95
  ·have e1:(x !=95)=false:=by simp[h95]
   have hL:Adr.letter c=true:=by rw[hlo,e1];rfl
   refine azf (ai t0 (ai t6 (ai t7 (ai hlt (ai hj0 (ai hc (ai hx (ai hy (ai e1 ei))))))))) ?_;exact⟨s.length-(j+1),by omega,j+1,rfl,by omega,rfl,hgo (by unfold Adr.first;split;exact hL;rw[hwb,hL];rfl),by(exact ev0 t0),by(exact ev0 t6),by(exact ev0 ei)⟩
  have e1:(x !=95)=true:=by simp[h95]
  by_cases h97:y<97∨y>122
  rotate_left
  ·have e2:¬y<97:=by omega
   have e3:¬y>122:=by omega
   have hL:Adr.letter c=true:=by rw[hlo,e1,Ys e2,Ys e3];rfl
   refine azf (ai t0 (ai t6 (ai t7 (ai hlt (ai hj0 (ai hc (ai hx (ai hy (ai e1 (ai e2 (ai e3 ei))))))))))) ?_;exact⟨s.length-(j+1),by omega,j+1,rfl,by omega,rfl,hgo (by unfold Adr.first;split;exact hL;rw[hwb,hL];rfl),by(exact ev0 t0),by(exact ev0 t6),by(exact ev0 ei)⟩
  have hL:Adr.letter c=false:=by
   rw[hlo,e1];rcases h97 with h97|h97
   ·rw[Yh h97];rfl
   ·rw[Yh h97,Bool.or_true];rfl
  have fail:(j=0∨Adr.wordB c=false)→Adr.ident s=false:=hfl hL;have e23:y<97∨(¬y<97∧y>122):=by omega
  by_cases hz:j=0
  ·have e4:((j:Int)==0)=true:=by simp[hz]
   have hF:=fail (.inl hz);rcases e23 with e2|⟨e2,e3⟩
   ·refine azf (ai t0 (ai t6 (ai t7 (ai hlt (ai hj0 (ai hc (ai hx (ai hy (ai e1 (ai e2 e4)))))))))) ?_;exact⟨_,le_refl _,by rw[hF];rfl⟩
   ·refine azf (ai t0 (ai t6 (ai t7 (ai hlt (ai hj0 (ai hc (ai hx (ai hy (ai e1 (ai e2 (ai e3 e4))))))))))) ?_;exact⟨_,le_refl _,by rw[hF];rfl⟩
  have e4:((j:Int)==0)=false:=by simp;omega
  by_cases hd:48≤x∧x≤57
  ·have e5:¬x<48:=by omega
   have e6:¬x>57:=by omega
   have hW:Adr.wordB c=true:=by rw[hwb,hdg,Yh hd.1,Yh hd.2,hL];rfl
   have hfst:Adr.first j c=true:=by unfold Adr.first;rw[if_neg hz];exact hW
   rcases e23 with e2|⟨e2,e3⟩
   ·refine azf (ai t0 (ai t6 (ai t7 (ai hlt (ai hj0 (ai hc (ai hx (ai hy (ai e1 (ai e2 (ai e4 (ai e5 (ai e6 ei))))))))))))) ?_;exact⟨s.length-(j+1),by omega,j+1,rfl,by omega,rfl,hgo hfst,by(exact ev0 t0),by(exact ev0 t6),by(exact ev0 ei)⟩
   ·refine azf (ai t0 (ai t6 (ai t7 (ai hlt (ai hj0 (ai hc (ai hx (ai hy (ai e1 (ai e2 (ai e3 (ai e4 (ai e5 (ai e6 ei)))))))))))))) ?_;exact⟨s.length-(j+1),by omega,j+1,rfl,by omega,rfl,hgo hfst,by(exact ev0 t0),by(exact ev0 t6),by(exact ev0 ei)⟩
  ·have hD:Num.digB c=false:=by
    rw[hdg];by_cases a:48≤x
    ·rw[Yh a,Ys (by omega)];rfl
    ·rw[Ys a];rfl
   have hF:=fail (.inr (by rw[hwb,hL,hD];rfl));have e56:x<48∨(¬x<48∧x>57):=by omega
   rcases e23 with e2|⟨e2,e3⟩
   ·rcases e56 with e5|⟨e5,e6⟩
    ·refine azf (ai t0 (ai t6 (ai t7 (ai hlt (ai hj0 (ai hc (ai hx (ai hy (ai e1 (ai e2 (ai e4 e5))))))))))) ?_;exact⟨_,le_refl _,by rw[hF];rfl⟩
    ·refine azf (ai t0 (ai t6 (ai t7 (ai hlt (ai hj0 (ai hc (ai hx (ai hy (ai e1 (ai e2 (ai e4 (ai e5 e6)))))))))))) ?_;exact⟨_,le_refl _,by rw[hF];rfl⟩
   ·rcases e56 with e5|⟨e5,e6⟩
    ·refine azf (ai t0 (ai t6 (ai t7 (ai hlt (ai hj0 (ai hc (ai hx (ai hy (ai e1 (ai e2 (ai e3 (ai e4 e5)))))))))))) ?_;exact⟨_,le_refl _,by rw[hF];rfl⟩
    ·refine azf (ai t0 (ai t6 (ai t7 (ai hlt (ai hj0 (ai hc (ai hx (ai hy (ai e1 (ai e2 (ai e3 (ai e4 (ai e5 e6))))))))))))) ?_;exact⟨_,le_refl _,by rw[hF];rfl⟩
 ·have hlt:¬((j:Int)<(s.length:Int)):=by omega
  have hje:j=s.length:=by omega
  rw[hje]at hok;have hE:=Adr.ident_end hok;by_cases hn:s=[]
  ·have e1:(s != [])=false:=by simp[hn]
   rw[e1]at hE;refine azf (ai t0 (ai t6 (ai t7 (ai hlt e1)))) ?_;exact⟨_,le_refl _,by rw[hE];rfl⟩
  ·have e1:(s != [])=true:=by simp[hn]
   rw[e1]at hE;have e2:decide ((s.length:Int)≤64)=decide (s.length≤64):=decide_eq_decide.2 (by omega);refine azf (ai t0 (ai t6 (ai t7 (ai hlt e1)))) ?_;exact⟨_,le_refl _,by rw[hE];first|rfl|(rw[azn,e2];rfl)|rw[←e2];rfl⟩
theorem djw(s p:List UInt8)(h:Hp):AT 169 [.str s,.str p] h (.tup [.str (if Adr.begins s p then s.drop p.length else s),.bool (Adr.begins s p)]):=by
 refine pcall ?_ rfl (by simp[A.pure,A.data]) h;refine azb mixedT dxa (by simp[byy]) ?_;dsimp only[byy];have hp:(decide (p.length≤s.length)&&s.take p.length==p)=Adr.begins s p:=by
  unfold Adr.begins;rw[Z4,Zad,List.prefix_iff_eq_take,Zf,ZD,ZC];constructor
  ·rintro⟨h1,h2⟩;exact h2.symm
  ·intro h2;exact⟨by have:=congrArg List.length h2;rw[Zk]at this;omega,h2.symm⟩
 have hc:=fun h=>axw s p h
 rw[hp]at hc;refine azf ti ?_;refine use (hc _) ?_;cases hB:Adr.begins s p
 ·refine azf ti ?_;exact Fn rfl
 ·have hle:(p.length:Int)≤(s.length:Int):=by have:=Adr.begins_len hB;omega
  have h0:(0:Int)≤(p.length:Int):=by omega
  refine azf (ai hle h0) ?_;refine⟨_,le_refl _,?_⟩;rw[if_pos rfl];first|rfl|(rw[aq4];simp)
theorem dqx(s p:List UInt8)(h:Hp):AT 142 [.str s,.str p] h (.tup [.str (if Adr.begins s p then s.drop p.length else s),.bool (Adr.begins s p)]):=by
 refine pcall ?_ rfl (by simp[A.pure,A.data]) h;refine azb mixedT dkm (by simp[cv9]) ?_;dsimp only[cv9];refine azf ti ?_;refine use (djw s p _) ?_;refine azf ti ?_;exact Fn rfl
def adB(r:Adr.Rd):Blk:=.cells 133 [.str r.rest,.bool r.bad]
theorem aq9(r:Adr.Rd):(adB r).loc 0:=rfl
theorem dqo(p:List UInt8)(r:Adr.Rd){h:Hp}{i:Nat}(hb:h.b[i]?=some (adB r)):
  AC 104 [.ptr i 0,.str p] h fun v h'=>v=.bool (Adr.hasP p r).1∧h'=⟨h.b.set i (adB (Adr.hasP p r).2),h.t⟩:=by
 have key:AC 104 [.ptr 0 0,.str p] ⟨[adB r],[]⟩ fun v h'=>∃b',h'.b[0]?=some b'∧v=.bool (Adr.hasP p r).1∧b'=adB (Adr.hasP p r).2:=by
  refine azb mixedT dv0 (by simp[cvm]) ?_;dsimp only[cvm];unfold adB;refine azf ti ?_;refine use (dqx r.rest p _) ?_;unfold Adr.hasP;cases hB:Adr.begins r.rest p
  ·refine azf ti ?_;exact⟨_,le_refl _,_,rfl,rfl,rfl⟩
  ·refine azf ti ?_;exact⟨_,le_refl _,_,rfl,rfl,rfl⟩
 refine(ACall.lift1 key rfl (aq9 r) ?_ hb).mono ?_
 ·rintro v b' ⟨rfl,rfl⟩;exact⟨rfl,aq9 _⟩
 ·rintro v h' ⟨b',⟨rfl,rfl⟩,rfl⟩;exact⟨rfl,rfl⟩
theorem cjm(p:List UInt8)(r:Adr.Rd){h:Hp}{i:Nat}(hb:h.b[i]?=some (adB r)):
  AC 106 [.ptr i 0,.str p] h fun v h'=>v=.tup []∧h'=⟨h.b.set i (adB (Adr.skipP p r)),h.t⟩:=by
 have key:AC 106 [.ptr 0 0,.str p] ⟨[adB r],[]⟩ fun v h'=>∃b',h'.b[0]?=some b'∧v=.tup []∧b'=adB (Adr.skipP p r):=by
  obtain⟨rest,bad⟩:=r;refine azb mixedT djk (by simp[bwv]) ?_;dsimp only[bwv];unfold adB;refine azf ti ?_;refine use (dqx rest p _) ?_;unfold Adr.skipP;dsimp only;cases hB:Adr.begins rest p
  ·cases bad
   ·refine azf ti ?_;exact⟨_,le_refl _,_,rfl,rfl,rfl⟩
   ·refine azf ti ?_;exact⟨_,le_refl _,_,rfl,rfl,rfl⟩
  ·cases bad
   ·refine azf ti ?_;exact⟨_,le_refl _,_,rfl,rfl,rfl⟩
   ·refine azf ti ?_;exact⟨_,le_refl _,_,rfl,rfl,rfl⟩
 refine(ACall.lift1 key rfl (aq9 r) ?_ hb).mono ?_
 ·rintro v b' ⟨rfl,rfl⟩;exact⟨rfl,aq9 _⟩
 ·rintro v h' ⟨b',⟨rfl,rfl⟩,rfl⟩;exact⟨rfl,rfl⟩
end AX
namespace Wire
end Wire
namespace Val
end Val
namespace AX
theorem Gs.grow{E:TypeId}{W:Nat}{t:List (TypeId×Nat×Nat)}{W1:Nat}{o1:Own}{rows:List (List A)}(hg:Gs E W 0 ⟨[],t⟩ rows (.sl W1 o1 rows))(bytes:Nat)(y:List A)(h1:rows.length+1≤1000000000)(h2:bytes≤1000):
  ∃W' o' t',(∀b,appA ⟨b,t⟩ E W bytes (.sl W1 o1 rows) (.sl W .no [y])=some (.sl W' o' (rows++[y]),⟨b,t'⟩))∧Gs E W 0 ⟨[],t'⟩ (rows++[y]) (.sl W' o' (rows++[y]))∧(∀(E':TypeId) (W':Nat) (rows':List (List A)) (x'':A),E'≠E→Gs E' W' 0 ⟨[],t⟩ rows' x''→Gs E' W' 0 ⟨[],t'⟩ rows' x''):=by
 obtain⟨x',t',k1,k2,k3,k4,k5⟩:=hg.app (Zq _) bytes y h1 h2;obtain⟨W',o',rfl⟩:=(k2 []).sl;exact⟨W',o',t',k1,k2 [],fun E' W' rows' x'' hne hg'=>Gs.keep hg' fun k n hh=>k5 k _ _ _ hne hh⟩
end AX
end
section
namespace Sf
structure Rs where
 r:Wire.St
 bad:Bool
def Rs.fails(s:Rs):Bool:=s.bad||s.r.e !=0
def numS(s:Rs):Rs×Int:=(⟨(Wire.numR s.r).1,s.bad⟩,(Wire.numR s.r).2)
def strS(s:Rs):Rs×List UInt8:=(⟨(Wire.strR s.r).1,s.bad⟩,(Wire.strR s.r).2)
def cntS(s:Rs):Rs×Nat:=(⟨(Wire.cntR s.r 1).1,s.bad⟩,(Wire.cntR s.r 1).2)
def flagS(s:Rs):Rs×Bool:=
 let q:=Wire.numR s.r
 (⟨q.1,s.bad||(q.2 !=0&&q.2 !=1)⟩,q.2==1)
def valueS(s:Rs):Rs×V:=
 let x:=Val.readValue s.r
 (⟨x.1,s.bad||x.2.1 !=0⟩,x.2.2)
def wordsS:Nat→Rs→List (List UInt8)→Rs×List (List UInt8)
 |0,s,l=>(s,l)
 |c+1,s,l=>wordsS c (strS s).1 (l++[(strS s).2])
def instS(ver:Int)(s:Rs):Rs×Inst:=
 let a:=strS s
 let b:=strS a.1
 let c:=strS b.1
 let d:=strS c.1
 let v:=valueS d.1
 let n:=numS v.1
 let t:=flagS n.1
 let f:=if ver=2 then flagS t.1 else(t.1,false)
 let k:=cntS f.1
 let w:=wordsS k.2 k.1 []
 (w.1,⟨a.2,b.2,c.2,d.2,v.2,n.2,t.2,f.2,w.2⟩)
def pendS(s:Rs):Rs×Pend:=
 let a:=strS s
 let b:=strS a.1
 let c:=strS b.1
 (c.1,⟨a.2,b.2,c.2⟩)
def outS(s:Rs):Rs×Outp:=
 let a:=strS s
 let v:=valueS a.1
 let f:=flagS v.1
 (f.1,⟨a.2,v.2,f.2⟩)
def instsS(ver:Int):Nat→Rs→List Inst→Rs×List Inst×Bool
 |0,s,l=>(s,l,true)
 |c+1,s,l=>if s.fails then(s,l,false)else instsS ver c (instS ver s).1 (l++[(instS ver s).2])
def pendsS:Nat→Rs→List Pend→Rs×List Pend
 |0,s,l=>(s,l)
 |c+1,s,l=>pendsS c (pendS s).1 (l++[(pendS s).2])
def outsS:Nat→Rs→List Outp→Rs×List Outp×Bool
 |0,s,l=>(s,l,true)
 |c+1,s,l=>if s.fails then(s,l,false)else outsS c (outS s).1 (l++[(outS s).2])
def stateS(ver:Int)(s:Rs):Rs×St:=
 let a:=strS s
 let n:=numS a.1
 let ci:=cntS n.1
 let i:=instsS ver ci.2 ci.1 []
 if i.2.2=false then(i.1,⟨a.2,n.2,i.2.1,[],[]⟩)
 else
  let p:=if ver=2 then pendsS (cntS i.1).2 (cntS i.1).1 []else(i.1,[])
  let co:=cntS p.1
  let o:=outsS co.2 co.1 []
  (o.1,⟨a.2,n.2,i.2.1,p.2,o.2.1⟩)
end Sf
end
section
open Go.RowKit
namespace Sf
def Inst.cells:Inst→List AX.A
 |⟨a,d,i,t,.mk k n s is ks,v,tn,fi,ds⟩=>[.str a,.str d,.str i,.str t,.int .i64 k,.int .i64 n,.str s,.sl 5 .no (V.cellss is),.sl 1 .no (strsA ks),.int .i64 v,.bool tn,.bool fi,.sl 1 .no (strsA ds)]
def Pend.cells(p:Pend):List AX.A:=[.str p.addr,.str p.typ,.str p.tok]
def Outp.cells:Outp→List AX.A
 |⟨m,.mk k n s is ks,b⟩=>[.str m,.int .i64 k,.int .i64 n,.str s,.sl 5 .no (V.cellss is),.sl 1 .no (strsA ks),.bool b]
def St.A(s:St):AX.A:=.agg [.str s.lin,.int .i64 s.ser,.sl 13 .no (s.insts.map Inst.cells),.sl 3 .no (s.pends.map Pend.cells),.sl 7 .no (s.outs.map Outp.cells)]
end Sf
namespace Val
end Val
namespace Sf
end Sf
namespace AX
end AX
namespace Sf
end Sf
namespace AX
theorem aqj{α:Type}(f:α→List A)(l:List α)(j:Nat)(hj:j<l.length):(l.map f).getD j []=f l[j]:=by simp[List.getD,hj]
def bw1:AX.AFn:=⟨9,aS [aR 2 (.mv (.c (.bool false)))] (aS [aM 3 0,aR 4 (.bin .neq (.t 3) (.c (.str []))),aM 5 4,aG 6 (.mv (.t 0)) 5 true,aG 7 (.call 53 [.t 6]) 5 true,aR 8 (.pick (.t 5) (.t 7) (.c (.bool false))),aM 2 8] (.ret)),[.t 2]⟩
theorem dxf:AX.compFn Tryz.prog 25=some bw1:=by kernel_rfl
theorem dj0(s:List UInt8)(hs:s.length≤2000000)(h:Hp):AT 25 [.str s] h (.bool (s != []&&Str.valid s)):=by
 refine pcall ?_ rfl (by simp[A.pure,A.data]) h;refine azb mixedT dxf (by simp[bw1]) ?_;dsimp only[bw1];rcases azs (s != [])with h1|h1
 ·refine go0 h1 ?_;refine gc0 h1 ?_;refine(cjt s hs _).mono ?_;rintro v h1' ⟨rfl,rfl⟩;refine go0 h1 ?_;exact⟨_,le_refl _,by rw[azn,h1];rfl⟩
 ·refine go0 h1 ?_;exact⟨_,le_refl _,by rw[azn,h1];rfl⟩
def stE:A:=.agg [.str [],.int .i64 0,.sl 0 .nil [],.sl 0 .nil [],.sl 0 .nil []]
end AX
namespace Sf
def zero:St:=⟨[],0,[],[],[]⟩
def encode(ver:Int)(st:St):List UInt8×Int:=
 if checkZ st≠0 then([],checkZ st)else if 1048572<(stE ver st).length then([],3)else(Crc.app (stE ver st),0)
def decode(s:List UInt8):St×Int:=
 if 1048576<s.length then(zero,3)
 else if AX.preB s=false then(zero,2)
 else if(Crc.ver s).2≠0 then(zero,20)
 else if(AX.versionS (Crc.ver s).1).2≠0 then(zero,(AX.versionS (Crc.ver s).1).2)
 else
  let r:=stateS (AX.versionS (Crc.ver s).1).1 ⟨(Wire.numR ⟨(Crc.ver s).1.drop 4,0⟩).1,false⟩
  if r.1.fails||decide (0<r.1.r.rest.length)||checkZ r.2 !=0 then(zero,2)else(r.2,0)
end Sf
namespace AX
def SCheck(st:Sf.St):Prop:=∀h,AT 11 [st.A] h (.int .i64 (Sf.checkZ st))
end AX
end
end Go.Proofs.YtnghhnahdjjpkaaGreatDoor
