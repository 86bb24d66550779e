/- Part of what the proof needs. -/
import Derived.Test.YtnffmgmidghfhaaGreatDoorMFrWorkspaceNewsP
import Derived.Lib.ParseIntB
import Derived.Test.YtnffmgmidghfhaaGreatDoorShelfP
import Derived.Laws.RangeAny
import Derived.Laws.Runes
import Derived.Lib.OthersKept
import Derived.Deep.LoopGhost
import Derived.WalkMore
set_option maxHeartbeats 4000000
set_option maxRecDepth 100000
set_option linter.all false
namespace Go.Proofs.YtnffmgmidghfhaaGreatDoor
section
open Go.Lib
namespace Num
def valA(n:Nat)(s:List UInt8):Nat:=s.foldl (fun n c=>10*n+(c.toNat-48)) n
theorem valA_cons(n:Nat)(c:UInt8)(s:List UInt8):valA n (c::s)=valA (10*n+(c.toNat-48)) s:=by unfold valA;rw[List.foldl_cons]
theorem val_valA(s:List UInt8):val s=valA 0 s:=rfl
theorem valA_ge:∀(s:List UInt8) (n:Nat),n*10^s.length<=valA n s
 |[],n=>by simp[valA]
 |c::s,n=>by
  rw[valA_cons,Zf,Nat.pow_succ];refine Zr ?_ (valA_ge s _);have e:n*(10^s.length*10)=(10*n)*10^s.length:=by
   rw[Nat.mul_comm (10^s.length) 10,<-Nat.mul_assoc,Nat.mul_comm n 10]
  rw[e];exact Yk _ (by omega)
theorem valA_le(s:List UInt8)(n:Nat):n<=valA n s:=by
 have h:=valA_ge s n;have h1:1<=10^s.length:=Nat.one_le_pow _ _ (by omega);exact Zr (by simpa using Nat.mul_le_mul_left n h1) h
theorem digB_iff(c:UInt8):digB c=true↔48<=c.toNat/\c.toNat<=57:=by simp[digB]
theorem uintM_digits:∀(l:List UInt8) (acc:Nat),l.all digB=true->parseUintM 18446744073709551615 acc l=if valA acc l<=18446744073709551615 then .ok (valA acc l)else if l=[]then .ok acc else .range
 |[],acc,_=>by simp[parseUintM,valA]
 |c::r,acc,h=>by
  rw[ZH,Zg,digB_iff]at h;have h1:=valA_le r (10*acc+(c.toNat-48));rw[valA_cons];unfold parseUintM;rw[if_pos h.1];split
  ·rw[if_neg (by omega),if_neg (by simp)]
  ·split
   ·rw[if_neg (by omega),if_neg (by simp)]
   ·rw[uintM_digits r _ h.2,Nat.mul_comm acc 10];by_cases hv:valA (10*acc+(c.toNat-48)) r<=18446744073709551615
    ·rw[if_pos hv,if_pos hv]
    ·rw[if_neg hv,if_neg hv,if_neg (show¬(c::r=[]) by simp)];cases r with
     |nil=>
      exfalso
      apply hv;unfold valA;rw[List.foldl_nil];omega
     |cons d q=>rw[if_neg (by simp)]
def body(s:List UInt8):List UInt8:=if s.getD 0 0==45 then s.drop 1 else s
def canonB(s:List UInt8):Bool:=digits (body s)&&!(s.getD 0 0==45&&body s == [48])
theorem digits_long{t:List UInt8}(h:digits t=true)(hl:16<t.length):9007199254740992<val t:=by
 cases t with
 |nil=>simp at hl
 |cons c r=>
  unfold digits at h;rw[Zg,ZU,Z3,Zg,ZH,Zg,digB_iff]at h;obtain⟨⟨h1,h2⟩,h3⟩:=h;rcases h3 with h3|h3
  ·injection h3 with _ h3;subst h3;simp at hl
  ·have h4:c≠48:=by simpa using h3.2
   have h5:c.toNat≠48:=fun e=>h4 (YC.1 (by simpa using e))
   have h6:=valA_ge r (c.toNat-48);have h7:10^16<=10^r.length:=YE (by omega) (by simp at hl;omega);have h8:1*10^r.length<=(c.toNat-48)*10^r.length:=Yk _ (by omega);have e:val (c::r)=valA (c.toNat-48) r:=by rw[val_valA,valA_cons];simp
   rw[e];have h9:(10:Nat)^16=10000000000000000:=by decide
   omega
theorem parse_form(s:List UInt8):parse s=if canonB s=false then(0,2)else if 9007199254740992<val (body s)then(0,5)else(if s.getD 0 0==45 then -(val (body s):Int)else(val (body s):Int),0):=by
 have e:parse s=if(!digits (body s)||(s.getD 0 0==45&&body s == [48]))=true then(0,2)else if 16<(body s).length then(0,5)else if 9007199254740992<val (body s)then(0,5)else(if s.getD 0 0==45 then -(val (body s):Int)else(val (body s):Int),0):=rfl
 rw[e];unfold canonB;cases hd:digits (body s)
 ·simp
 ·cases hm:(s.getD 0 0==45&&body s == [48])
  ·simp only[Ye,Zab,Zo,if_false,Z9,Bool.and_self,Bool.true_eq_false];split
   ·next hl=>rw[if_pos (digits_long hd hl)]
   ·rfl
  ·simp
theorem parseIntB_canon(s:List UInt8)(h:canonB s=true):
  (val (body s)<=9007199254740992/\parseIntB 64 s=.ok (if s.getD 0 0==45 then -(val (body s):Int)else(val (body s):Int))) \/
  (9007199254740992<val (body s)/\(parseIntB 64 s=.range\/∃v,parseIntB 64 s=.ok v/\¬(-9007199254740992<=v/\v<=9007199254740992))):=by
 unfold canonB at h;rw[Zg]at h;obtain⟨hd,_⟩:=h;cases s with
 |nil=>simp[body,digits]at hd
 |cons c r=>
  have hne:body (c::r)≠[]:=by
   intro e;rw[e]at hd;simp[digits]at hd
  have hall:(body (c::r)).all digB=true:=by
   unfold digits at hd;rw[Zg]at hd;exact hd.1
  have hneg:((c::r).getD 0 0==45)=decide (c.toNat=45):=by
   show(c==45)=_
   rw[YZ,Z3,ZE];exact⟨fun e=>by rw[e];rfl,fun e=>YC.1 (by simpa using e)⟩
  have h43:c.toNat≠43:=by
   intro e;have e2:((c::r).getD 0 0==45)=false:=by rw[hneg];simp[e]
   unfold body at hall;rw[e2]at hall;simp only[Zo,if_false,ZH,Zg,digB_iff]at hall;omega
  have hb:(if c.toNat=43\/c.toNat=45 then r else c::r)=body (c::r):=by
   unfold body;rw[hneg];by_cases e:c.toNat=45
   ·simp[e]
   ·simp[e,h43]
  have hu:parseUintB 64 (body (c::r))=if val (body (c::r))<=18446744073709551615 then .ok (val (body (c::r)))else .range:=by
   unfold parseUintB;rw[if_neg hne];have:=uintM_digits _ 0 hall;rw[if_neg hne,<-val_valA]at this;exact this
  have hp:parseIntB 64 (c::r)=match parseUintB 64 (body (c::r))with
    |NumEnd.syntax=>NumEnd.syntax
    |.range=> .range
    |.ok u=>if¬c.toNat=45/\2^(64-1)<=u then .range else if c.toNat=45/\2^(64-1)<u then .range else .ok (if c.toNat=45 then -(u:Int)else u):=by
   rw[<-hb];rfl
  rw[hp,hu,hneg];have e63:2^(64-1)=9223372036854775808:=by decide
  rw[e63];generalize val (body (c::r))=u;by_cases hm:u<=9007199254740992
  ·refine .inl ⟨hm,?_⟩;rw[if_pos (by omega)];dsimp only;rw[if_neg (by omega),if_neg (by omega)];simp
  ·refine .inr ⟨by omega,?_⟩;by_cases h64:u<=18446744073709551615
   ·rw[if_pos h64];dsimp only;split
    ·exact .inl rfl
    ·split
     ·exact .inl rfl
     ·refine .inr ⟨_,rfl,?_⟩;split<;>omega
   ·rw[if_neg h64];exact .inl rfl
end Num
end
section
open Go.RowKit
open Go.Op (bytesLess)
namespace Num
theorem digB_int(c:UInt8):digB c=(decide (48<=(c.toNat:Int))&&decide ((c.toNat:Int)<=57)):=by
 unfold digB;have e1:decide (48<=c.toNat)=decide (48<=(c.toNat:Int)):=decide_eq_decide.2 (by omega);have e2:decide (c.toNat<=57)=decide ((c.toNat:Int)<=57):=decide_eq_decide.2 (by omega);rw[e1,e2]
theorem all_fail{s:List UInt8}{j:Nat}(hj:j<s.length)(h:digB (s.getD j 0)=false):digits s=false:=by
 have:s.all digB=false:=by
  rw[List.all_eq_false];refine⟨s[j],ZF hj,?_⟩;have e:s.getD j 0=s[j]:=by simp[List.getD,hj]
  rw[e]at h;rw[h];decide
 unfold digits;rw[this];rfl
theorem all_end{s:List UInt8}(h:∀k,k<s.length->digB (s.getD k 0)=true):digits s=(s != []&&(s.getD 0 0 !=48||s.length==1)):=by
 have h1:s.all digB=true:=by
  rw[ZC];intro x hx;obtain⟨j,hj,rfl⟩:=List.getElem_of_mem hx;have:=h j hj;have e:s.getD j 0=s[j]:=by simp[List.getD,hj]
  rwa [e]at this
 unfold digits;rw[h1,Z5]
 match s with
 |[]=>rfl
 |[c]=>
  by_cases e:c=48
  ·subst e;rfl
  ·have e1:(c==48)=false:=by simp[e]
   have e2:([c] == [48])=false:=by simp[e]
   have e3:(c !=48)=true:=by simp[e]
   show([c] == [48]||([c] != []&&c !=48))=([c] != []&&(c !=48||([c].length==1)))
   rw[e2,e3];rfl
 |c::d::r=>simp
end Num
namespace AX
def bji:AX.AFn:=⟨44,aS [aR 2 (.mv (.c (.bool false)))] (.seq (aS [aM 4 0,aR 5 (.len true (.t 4)),aR 6 (.bin .gtr (.t 5) (aI 0)),aM 7 6,aG 8 (.mv (.t 0)) 7 true,aG 9 (.sidx (.t 8) (aI 0)) 7 true,aG 10 (.bin .eql (.t 9) (.c (.int .u8 45))) 7 true,aR 11 (.pick (.t 7) (.t 10) (.c (.bool false)))] (.cond (.t 11) (aS [aM 12 0,aR 13 (.ssl (.t 12) (some (aI 1)) none),aM 0 13] (aS [aM 14 0,aR 15 (.bin .eql (.t 14) (.c (.str [48])))] (.cond (.t 15) (aS [aR 2 (.mv (.c (.bool false)))] (.ret)) (.skip)))) (.skip))) (.seq (aS [aM 16 0,aR 17 (.len true (.t 16)),aR 18 (.mv (aI 0))] (.block 0 (.loop (aS [aR 19 (.bin .lss (.t 18) (.t 17))] (.seq (.cond (.t 19) (.skip) (.exit 0)) (.seq (.block 1 (aS [aM 20 18,aM 3 20] (aS [aM 21 0,aM 22 3,aR 23 (.sidx (.t 21) (.t 22)),aR 24 (.bin .lss (.t 23) (.c (.int .u8 48))),aM 25 24,aG 26 (.mv (.t 0)) 25 false,aG 27 (.mv (.t 3)) 25 false,aG 28 (.sidx (.t 26) (.t 27)) 25 false,aG 29 (.bin .gtr (.t 28) (.c (.int .u8 57))) 25 false,aR 30 (.pick (.t 25) (.c (.bool true)) (.t 29))] (.cond (.t 30) (aS [aR 2 (.mv (.c (.bool false)))] (.ret)) (.skip))))) (.reg false [aR 31 (.bin .add (.t 18) (aI 1)),aM 18 31]))))))) (aS [aM 32 0,aR 33 (.bin .neq (.t 32) (.c (.str []))),aM 34 33,aG 35 (.mv (.t 0)) 34 true,aG 36 (.sidx (.t 35) (aI 0)) 34 true,aG 37 (.bin .neq (.t 36) (.c (.int .u8 48))) 34 true,aG 38 (.mv (.t 37)) 34 true,aG 39 (.mv (.t 0)) 38 false,aG 40 (.len true (.t 39)) 38 false,aG 41 (.bin .eql (.t 40) (aI 1)) 38 false,aG 42 (.pick (.t 38) (.c (.bool true)) (.t 41)) 34 true,aR 43 (.pick (.t 34) (.t 42) (.c (.bool false))),aM 2 43] (.ret)))),[.t 2]⟩
theorem ck0:AX.compFn Tryz.prog 144=some bji:=by kernel_rfl
theorem czb(c:UInt8)(n:UInt8):((c.toNat:Int)==(n.toNat:Int))=(c==n):=by
 rw[YZ,Z3,Z3];exact⟨fun e=>YC.1 (by omega),fun e=>by rw[e]⟩
theorem bk1{P:Program}{G:World->Prop}{f:FuncId}{args:List A}{vs:List Value}{w:World}{b:Bool}(hc:ACall P G f args ⟨[],[]⟩ fun v _=>v=.bool b)(hG:∀w':World,(∀g,g<w.heap.size->w'.heap[g]?=w.heap[g]?)->G w')
  (ha:RepL (Ctx.of w) args vs):Calls P f vs.toArray w fun e w'=>e=.returned (.bool b)/\Below w.heap.size w w':=by
 refine(hc (Ctx.of w) vs (inv_of hG) ha).mono ?_;rintro e w' ⟨C',h',v,cv,rfl,rfl,_,st,hr,rfl⟩;rw[az7]at hr;subst hr;exact⟨rfl,st.os,st.tape,st.output,st.size,fun g hg=>st.frame g hg rfl fun t ht=>by simp[Ctx.of]at ht⟩
theorem cyg(s:List UInt8)(hl:s.length<=2000000)(h:Hp):AT 144 [.str s] h (.bool (Num.canonB s)):=by
 refine pcall ?_ rfl (by simp[A.pure,A.data]) h;refine aza mixedT ck0 (by simp[bji]) ?_;dsimp only[bji];obtain⟨R,hR⟩:=Ex (Num.canonB s);rw[hR];unfold Num.canonB Num.body at hR;by_cases hn:s=[]
 ·subst hn;have e0:¬((0:Nat):Int)>0:=by decide
  have e1:¬(0:Int)<((0:Nat):Int):=by decide
  have hR':R=false:=by rw[<-hR];rfl
  subst hR';refine azb e0 ?_;refine ax3 ?_;refine azb e1 ?_;exact Fn rfl
 have hpos:(s.length:Int)>0:=by
  have:=Yn.2 hn;omega
 have h0:(0:Int)<(s.length:Int):=hpos;obtain⟨c,hc⟩:=Ex (s.getD 0 0);rw[hc]at hR;have e45:((c.toNat:Int)==45)=(c==45):=czb c 45;have hbody:∃t:List UInt8,t=(if c==45 then s.drop 1 else s):=⟨_,rfl⟩;obtain⟨t,ht⟩:=hbody;rw[<-ht]at hR;have htl:t.length<=2000000:=by
  rw[ht];split
  ·rw[Zu];omega
  ·exact hl
 have hgr:∀j:Nat,t.getD j 0=t.getD j 0:=fun _=>rfl
 have h1le:(1:Int)<=(s.length:Int):=by omega
 have z1:(0:Int)<=1:=by decide
 have n1:(1:Int).toNat=1:=rfl;have n0:(0:Int).toNat=0:=rfl;have key:∀{G:Prop},((c==45)=true->t=s.drop 1->G)->((c==45)=false->t=s->G)->G:=fun p q=>by
  cases e:c==45
  ·exact q e (by rw[ht,e];rfl)
  ·exact p e (by rw[ht,e];rfl)
 refine key (fun m1 m2=>?_) (fun m1 m2=>?_)
 ·rw[m1,Z5]at hR;have m3:s.drop 1=t:=m2.symm;have e10:((c.toNat:Int)==45)=true:=by rw[e45,m1]
  cases h48:t == [48];rotate_left
  ·rw[h48]at hR;have hR':R=false:=by rw[<-hR,Ye,Zad]
   subst hR';refine azb (ai hpos (ai h0 (ai n0 (ai hc (ai e10 (ai h1le (ai z1 (ai n1 (ai m3 h48))))))))) ?_;exact Fn rfl
  rw[h48,Z9,ZW]at hR;refine azb (ai hpos (ai h0 (ai n0 (ai hc (ai e10 (ai h1le (ai z1 (ai n1 (ai m3 h48))))))))) ?_;refine azh (fun mm ts h=>∃(j:Nat),mm=t.length-j/\j<=t.length/\h=⟨[],[]⟩/\(∀k,k<j->Num.digB (t.getD k 0)=true)/\ts 0=.str t/\ts 17=.int .i64 (t.length:Nat)/\ts 18=.int .i64 (j:Nat)) t.length ?_ ?_
  ·exact⟨0,by omega,by omega,rfl,fun k hk=>absurd hk (Nat.not_lt_zero k),by(exact ev0 m3),by(exact ev0 m3),by(exact aqj ti)⟩
  rintro mm ts h ⟨j,rfl,hjc,rfl,hok,t0,t17,t18⟩;by_cases hj:j<t.length
  ·have hlt:(j:Int)<(t.length:Int):=by omega
   have hj0:(0:Int)<=(j:Int):=by omega
   have ei:IntKind.i64.wrap ((j:Int)+1)=((j+1:Nat):Int):=by rw[wrap64 (by omega) (by omega)];omega
   obtain⟨b,hb⟩:=Ex (t.getD j 0);have hdg:=Num.digB_int b;obtain⟨x,hx⟩:∃x:Int,(b.toNat:Int)=x:=⟨_,rfl⟩;rw[hx]at hdg;by_cases x1:x<48
   ·have hR':R=false:=by rw[<-hR];exact Num.all_fail hj (by rw[hb,hdg,Yy (by omega)];rfl)
    subst hR';refine azb (ai t0 (ai t17 (ai t18 (ai hlt (ai hj0 (ai hb (ai hx x1))))))) ?_;exact Fn rfl
   by_cases x2:x>57
   ·have hR':R=false:=by rw[<-hR];exact Num.all_fail hj (by rw[hb,hdg,Yr (show 48<=x by omega),Yy (by omega)];rfl)
    subst hR';refine azb (ai t0 (ai t17 (ai t18 (ai hlt (ai hj0 (ai hb (ai hx (ai x1 x2)))))))) ?_;exact Fn rfl
   ·refine azb (ai t0 (ai t17 (ai t18 (ai hlt (ai hj0 (ai hb (ai hx (ai x1 (ai x2 ei))))))))) ?_;refine⟨t.length-(j+1),by omega,j+1,rfl,by omega,rfl,fun k hk=>?_,by(exact ev0 t0),by(exact ev0 t17),by(exact ev0 ei)⟩;by_cases e:k=j
    ·rw[e,hb,hdg,Yr (show 48<=x by omega),Yr (show x<=57 by omega)];rfl
    ·exact hok k (by omega)
  ·have hlt:¬((j:Int)<(t.length:Int)):=by omega
   have hje:j=t.length:=by omega
   rw[hje]at hok;have hE:=Num.all_end hok;rw[hR]at hE;cases hnt:t != []
   ·rw[hnt,Yz]at hE;subst hE;refine azb (ai t0 (ai t17 (ai t18 (ai hlt hnt)))) ?_;exact Fn rfl
   rw[hnt,Z5]at hE;have hp2:(0:Int)<(t.length:Int):=by
    have:t≠[]:=by simpa using hnt
    have:=Yn.2 this;omega
   obtain⟨b,hb⟩:=Ex (t.getD 0 0);rw[hb]at hE;have e48:((b.toNat:Int)!=48)=(b !=48):=congrArg (!·) (czb b 48);cases hb48:b !=48
   ·rw[hb48,YA]at hE;rw[hb48]at e48;have el:((t.length:Int)==1)=(t.length==1):=by
     rw[YZ,Z3,Z3];omega
    rw[<-hE]at el;refine azb (ai t0 (ai t17 (ai t18 (ai hlt (ai hnt (ai hp2 (ai n0 (ai hb (ai e48 el))))))))) ?_;exact Fn rfl
   ·rw[hb48,Y1]at hE;subst hE;rw[hb48]at e48;refine azb (ai t0 (ai t17 (ai t18 (ai hlt (ai hnt (ai hp2 (ai n0 (ai hb e48)))))))) ?_;exact Fn rfl
 ·have e10:((c.toNat:Int)==45)=false:=by rw[e45,m1]
  rw[m1,Yz,Z9,ZW]at hR;have m3:s=t:=m2.symm;refine azb (ai hpos (ai h0 (ai n0 (ai hc e10)))) ?_;refine azh (fun mm ts h=>∃(j:Nat),mm=t.length-j/\j<=t.length/\h=⟨[],[]⟩/\(∀k,k<j->Num.digB (t.getD k 0)=true)/\ts 0=.str t/\ts 17=.int .i64 (t.length:Nat)/\ts 18=.int .i64 (j:Nat)) t.length ?_ ?_
  ·exact⟨0,by omega,by omega,rfl,fun k hk=>absurd hk (Nat.not_lt_zero k),by(exact ev0 m3),by(exact ev0 m3),by(exact aqj ti)⟩
  rintro mm ts h ⟨j,rfl,hjc,rfl,hok,t0,t17,t18⟩;by_cases hj:j<t.length
  ·have hlt:(j:Int)<(t.length:Int):=by omega
   have hj0:(0:Int)<=(j:Int):=by omega
   have ei:IntKind.i64.wrap ((j:Int)+1)=((j+1:Nat):Int):=by rw[wrap64 (by omega) (by omega)];omega
   obtain⟨b,hb⟩:=Ex (t.getD j 0);have hdg:=Num.digB_int b;obtain⟨x,hx⟩:∃x:Int,(b.toNat:Int)=x:=⟨_,rfl⟩;rw[hx]at hdg;by_cases x1:x<48
   ·have hR':R=false:=by rw[<-hR];exact Num.all_fail hj (by rw[hb,hdg,Yy (by omega)];rfl)
    subst hR';refine azb (ai t0 (ai t17 (ai t18 (ai hlt (ai hj0 (ai hb (ai hx x1))))))) ?_;exact Fn rfl
   by_cases x2:x>57
   ·have hR':R=false:=by rw[<-hR];exact Num.all_fail hj (by rw[hb,hdg,Yr (show 48<=x by omega),Yy (by omega)];rfl)
    subst hR';refine azb (ai t0 (ai t17 (ai t18 (ai hlt (ai hj0 (ai hb (ai hx (ai x1 x2)))))))) ?_;exact Fn rfl
   ·refine azb (ai t0 (ai t17 (ai t18 (ai hlt (ai hj0 (ai hb (ai hx (ai x1 (ai x2 ei))))))))) ?_;refine⟨t.length-(j+1),by omega,j+1,rfl,by omega,rfl,fun k hk=>?_,by(exact ev0 t0),by(exact ev0 t17),by(exact ev0 ei)⟩;by_cases e:k=j
    ·rw[e,hb,hdg,Yr (show 48<=x by omega),Yr (show x<=57 by omega)];rfl
    ·exact hok k (by omega)
  ·have hlt:¬((j:Int)<(t.length:Int)):=by omega
   have hje:j=t.length:=by omega
   rw[hje]at hok;have hE:=Num.all_end hok;rw[hR]at hE;cases hnt:t != []
   ·rw[hnt,Yz]at hE;subst hE;refine azb (ai t0 (ai t17 (ai t18 (ai hlt hnt)))) ?_;exact Fn rfl
   rw[hnt,Z5]at hE;have hp2:(0:Int)<(t.length:Int):=by
    have:t≠[]:=by simpa using hnt
    have:=Yn.2 this;omega
   obtain⟨b,hb⟩:=Ex (t.getD 0 0);rw[hb]at hE;have e48:((b.toNat:Int)!=48)=(b !=48):=congrArg (!·) (czb b 48);cases hb48:b !=48
   ·rw[hb48,YA]at hE;rw[hb48]at e48;have el:((t.length:Int)==1)=(t.length==1):=by
     rw[YZ,Z3,Z3];omega
    rw[<-hE]at el;refine azb (ai t0 (ai t17 (ai t18 (ai hlt (ai hnt (ai hp2 (ai n0 (ai hb (ai e48 el))))))))) ?_;exact Fn rfl
   ·rw[hb48,Y1]at hE;subst hE;rw[hb48]at e48;refine azb (ai t0 (ai t17 (ai t18 (ai hlt (ai hnt (ai hp2 (ai n0 (ai hb e48)))))))) ?_;exact Fn rfl
end AX
theorem bz9(l:List UInt8)(hl:l.length<=2000000)(w:World)(g:GT w):
  Calls Tryz.prog 131 #[.string ⟨l.toArray⟩] w fun e w'=>e=.returned (.tuple #[.int .i64 (Num.parse l).1,.int .i64 (Num.parse l).2])/\Below w.heap.size w w':=by
 have hc:=AX.bk1 (w:=w) (vs:=[.string ⟨l.toArray⟩]) ((AX.cyg l hl ⟨[],[]⟩).mono fun v h' hv=>hv.1) (AX.bw0 g) (AX.repL_cons.2 ⟨_,_,rfl,AX.rep_str.2 rfl,AX.azm.2 rfl⟩);have hf:=Num.parse_form l;obtain⟨P1,hP1⟩:=Ex (Num.parse l);rw[hP1]at hf⊢;cases hB:Num.canonB l
 ·rw[hB,if_pos rfl]at hf;subst hf;rw[hB]at hc;go_enter Tryz.func131,Tryz.ntmps131;go_wp2_with fail;refine hc.mono ?_;rintro e w1 ⟨rfl,b1⟩;have B1:=kept b1;clear b1;go_wp2;refine bodyPost_ret (v:=.tuple #[.int .i64 0,.int .i64 2]) (by simp[results,Tryz.results131,go_sem]) rfl ⟨rfl,B1.out⟩
 ·rw[hB,if_neg (by decide)]at hf;rw[hB]at hc;have hsz:(⟨l.toArray⟩:ByteArray).size<=9223372036854775806:=by rw[size_mk];omega
  have hlim:(⟨l.toArray⟩:ByteArray).size<=281474976710656:=by rw[size_mk];omega
  have hsyn:=g.esyn;obtain⟨ev,hev,hev2⟩:=g.erng;have nilne:∀(a b:Value),True:=fun _ _=>AX.ti
  rcases Num.parseIntB_canon l hB with⟨h1,h2⟩|⟨h1,h2|⟨v,h2,h3⟩⟩
  ·rw[if_neg (by omega)]at hf;obtain⟨v,hv⟩:∃v:Int,(if l.getD 0 0==45 then -(Num.val (Num.body l):Int)else(Num.val (Num.body l):Int))=v:=⟨_,rfl⟩;rw[hv]at h2 hf;have hvr:-9007199254740992<=v/\v<=9007199254740992:=by rw[<-hv];split<;>omega
   have hp:∀w':World,Calls Tryz.prog 145 #[.string ⟨l.toArray⟩,.int .i64 10,.int .i64 64] w' fun e w2=>e=.returned (.tuple #[.int .i64 v,.nilIface])/\(w2=w'\/∃t,w2=Lib.bytesWorld w' 5 t):=fun w'=>Any.strconv_ParseInt_10_at64_ok (P:=Tryz.prog) Tryz.lays174 ⟨l.toArray⟩ hsz v h2 w'
   have Hnv:=kept (fun w'=>axg v w');rw[Yr hvr]at Hnv;subst hf;have Hp:=kept hp;clear hp hsz hlim hsyn hev hev2 hvr hv h1 h2 hB;go_enter Tryz.func131,Tryz.ntmps131;go_wp2_with fail;refine hc.mono ?_;rintro e w1 ⟨rfl,b1⟩;have B1:=kept b1;clear b1;go_wp2_with fail;(with_reducible refine(Hp.out _).mono ?_);rintro e w2 ⟨rfl,hw⟩
   have B2:Kept (Below w.heap.size w w2):=kept (by
    rcases hw with rfl|⟨t,rfl⟩
    ·exact B1.out
    ·exact bthen B1.out (Lib.bytesWorld_below _ _ _))
   clear hw;go_wp2_with fail;(with_reducible refine(Hnv.out _).mono ?_);rintro e w3 ⟨rfl,rfl⟩
   go_wp2;refine bodyPost_ret (v:=.tuple #[.int .i64 v,.int .i64 0]) (by simp[results,Tryz.results131,go_sem]) rfl ⟨rfl,B2.out⟩
  ·rw[if_pos (by omega)]at hf;have hp:∀w':World,w'.cell? ⟨4,0,none⟩=some ev->Calls Tryz.prog 145 #[.string ⟨l.toArray⟩,.int .i64 10,.int .i64 64] w' fun e w2=>(∃a b c,e=.returned (.tuple #[.int .i64 a,.iface b c]))/\Below w'.heap.size w' w2:=fun w' hv=>(Any.strconv_ParseInt_10_at64_range (P:=Tryz.prog) Tryz.lays174 ⟨l.toArray⟩ hlim h2 ev w' hv hev2).mono fun e w2 ⟨N,q1,q2,q3,q4⟩=>⟨⟨_,_,_,q1⟩,q4⟩
   subst hf;have Hp:=kept hp;have Hev:=kept hev;clear hp hsz hlim hsyn hev hev2 h1 h2 hB;go_enter Tryz.func131,Tryz.ntmps131;go_wp2_with fail;refine hc.mono ?_;rintro e w1 ⟨rfl,b1⟩;have B1:=kept b1;have Hev1:=kept (show w1.cell? ⟨4,0,none⟩=some ev from by rw[<-Hev.out];simp only[World.cell?,b1.block _ (axv Hev.out).2]);clear b1;go_wp2_with fail;(with_reducible refine(Hp.out _ Hev1.out).mono ?_);rintro e w2 ⟨⟨a,b,c,rfl⟩,b2⟩
   have B2:Kept (Below w.heap.size w w2):=kept (bthen B1.out b2);clear b2;go_wp2;refine bodyPost_ret (v:=.tuple #[.int .i64 0,.int .i64 5]) (by simp[results,Tryz.results131,go_sem]) rfl ⟨rfl,B2.out⟩
  ·rw[if_pos (by omega)]at hf;have hp:∀w':World,Calls Tryz.prog 145 #[.string ⟨l.toArray⟩,.int .i64 10,.int .i64 64] w' fun e w2=>e=.returned (.tuple #[.int .i64 v,.nilIface])/\(w2=w'\/∃t,w2=Lib.bytesWorld w' 5 t):=fun w'=>Any.strconv_ParseInt_10_at64_ok (P:=Tryz.prog) Tryz.lays174 ⟨l.toArray⟩ hsz v h2 w'
   have Hnv:=kept (fun w'=>axg v w');rw[Yy h3]at Hnv;subst hf;have Hp:=kept hp;clear hp hsz hlim hsyn hev hev2 h3 h1 h2 hB;go_enter Tryz.func131,Tryz.ntmps131;go_wp2_with fail;refine hc.mono ?_;rintro e w1 ⟨rfl,b1⟩;have B1:=kept b1;clear b1;go_wp2_with fail;(with_reducible refine(Hp.out _).mono ?_);rintro e w2 ⟨rfl,hw⟩
   have B2:Kept (Below w.heap.size w w2):=kept (by
    rcases hw with rfl|⟨t,rfl⟩
    ·exact B1.out
    ·exact bthen B1.out (Lib.bytesWorld_below _ _ _))
   clear hw;go_wp2_with fail;(with_reducible refine(Hnv.out _).mono ?_);rintro e w3 ⟨rfl,rfl⟩
   go_wp2;refine bodyPost_ret (v:=.tuple #[.int .i64 0,.int .i64 5]) (by simp[results,Tryz.results131,go_sem]) rfl ⟨rfl,B2.out⟩
theorem AX.a_numParse(s:List UInt8)(hl:s.length<=2000000)(h:AX.Hp):AX.AT 131 [.str s] h (.tup [.int .i64 (Num.parse s).1,.int .i64 (Num.parse s).2]):=
 AX.azs (AX.ajp AX.aqy) (fun w hg=>bz9 s hl w hg) (fun C=>AX.rep_tup.2 ⟨_,rfl,AX.repL_cons.2 ⟨_,_,rfl,AX.rep_int.2 rfl,AX.repL_cons.2 ⟨_,_,rfl,AX.rep_int.2 rfl,AX.azm.2 rfl⟩⟩⟩) h
end
section
open Go.RowKit Go.Lib
def stops:ByteArray:=⟨#[46,91]⟩
theorem awk(w:World)(s:ByteArray)(p:Nat):Below w.heap.size w (w.iter s p):=by
 refine⟨rfl,rfl,rfl,?_,fun g hg=>?_⟩
 ·show w.heap.size<=(w.heap.push (Obj.stringIter s p)).size
  simp
 ·show(w.heap.push (Obj.stringIter s p))[g]?=_
  rw[Array.getElem?_push,if_neg (by omega)]
theorem ay2(w:World):Calls Tryz.prog 161 #[.string stops,.int .i32 65533] w fun e w'=>e=.returned (.int .i64 (-1))/\Below w.heap.size w w':=by
 go_enter Tryz.func161,Tryz.ntmps161;have hsz:stops.size=2:=rfl;go_wp2_with fail
 go_loopg [5,6] 2 (fun g _ _ wx=>∃i:Nat,i+g=2/\wx=w.iter stops i)
 case atStart=>exact⟨0,by omega,rfl⟩
 case round=>
  obtain⟨i,hig,rfl⟩:=hrel;cases gk with
  |zero=>
   obtain rfl:i=2:=by omega
   have hnx:=fun ty=>run_next_end (P:=Tryz.prog) w stops 2 ty (by decide)
   go_wp2
   go_ret
   exact⟨rfl,awk w stops 2⟩
  |succ g=>
   have hi:i=0\/i=1:=by omega
   rcases hi with rfl|rfl
   ·have hnx:=fun ty=>run_next_ascii (P:=Tryz.prog) w stops 0 ty (by decide) (by decide)
    have e0:((stops[0]'(by decide)).toNat:Int)=46:=rfl;rw[e0]at hnx;go_wp2
    go_roundg g
    case measure=>omega
    case rel=>exact⟨1,by omega,rfl⟩
   ·have hnx:=fun ty=>run_next_ascii (P:=Tryz.prog) w stops 1 ty (by decide) (by decide)
    have e0:((stops[1]'(by decide)).toNat:Int)=91:=rfl;rw[e0]at hnx;go_wp2
    go_roundg g
    case measure=>omega
    case rel=>exact⟨2,by omega,rfl⟩
theorem bqg(r:Int)(h0:128<=r)(h1:r<=2147483647)(hr:r≠65533)(w:World):Calls Tryz.prog 161 #[.string stops,.int .i32 r] w fun e w'=>e=.returned (.int .i64 (-1))/\Below w.heap.size w w':=by
 go_enter Tryz.func161,Tryz.ntmps161;have hsz:stops.size=2:=rfl;have c1:decide (0<=r)=true:=Yr (by omega);have c2:decide (r<128)=false:=Yy (by omega);have c3:(r==65533)=false:=Zz.2 hr;have Hv:=kept (fun w=>Tryz.utf8_ValidRune r w);cases hv:Lib.validRune r
 ·go_wp2_with fail;(with_reducible refine(Hv.out _).mono ?_);rintro e w1 ⟨rfl,rfl⟩
  rw[hv];go_wp2
  go_ret
  exact⟨rfl,Below.refl _ _⟩
 ·have hval:Utf8.valid r=true:=by rw[Go.validRune_eq];unfold Lib.validRune at hv;unfold Go.validRune;exact hv
  obtain⟨f1,f2,f3⟩:=encode_facts r hval h0;go_wp2_with fail;(with_reducible refine(Hv.out _).mono ?_);rintro e w1 ⟨rfl,rfl⟩
  rw[hv];have e1:IntKind.i64.wrap (((Utf8.encode r).size:Int)-1)=(((Utf8.encode r).size-1:Nat):Int):=by rw[show((Utf8.encode r).size:Int)-1=(((Utf8.encode r).size-1:Nat):Int) by omega];exact Go.IntWalk.i64_in _ ⟨by omega,by omega⟩
  have hcv:=fun(w:World)=>run_convert_int_string (P:=Tryz.prog) w 21 9 .i32 r rfl rfl
  go_wp2_with fail;apply wp_scope_straight;go_wp2
  go_loopg [9,10,11,12] 1 (fun g v9 v10 v11 v12 wx=>wx=w1/\v9=.int .i64 (((Utf8.encode r).size-1:Nat):Int))
  case atStart=>exact⟨rfl,rfl⟩
  case round=>
   obtain⟨rfl,rfl⟩:=hrel;by_cases h2:(Utf8.encode r).size=2
   ·have e2:(Utf8.encode r).size-1=1:=by omega
    obtain⟨x,hx⟩:∃x:UInt8,(Utf8.encode r)[1]'(by omega)=x:=⟨_,rfl⟩;have hx1:128<=x.toNat:=by
     have:=f3 (by omega);simp only[e2]at this;rw[hx]at this;exact this
    have hi1:(1:Nat)<(Utf8.encode r).size:=by omega
    have hs1:(stops[1]'(by decide)).toNat=91:=rfl;have hne:((91:Int)!=(x.toNat:Int))=true:=by simp;omega
    have e3:(((Utf8.encode r).size-1:Nat):Int)=1:=by omega
    have hi2:(1:Int)<((Utf8.encode r).size:Int):=by omega
    rw[e3];go_wp2;apply wp_scope_straight;go_wp2_with fail
    go_region
    have hw2:IntKind.i64.wrap ((1:Int)+1)=2:=rfl;have hib0:Lib.indexByte [] x=-1:=rfl;go_wp2_with fail
    go_region_with ((with_reducible refine(Tryz.strings_IndexByte _ _ _).mono ?_);rintro e2 w2 ⟨rfl,rfl⟩)
    all_goals
     go_wp2;rw[Exit.noGoto_ret];go_wp2;rw[Exit.noGoto_ret];go_wp2
     go_ret
     first|exact⟨rfl,below_drewN (Below.refl _ _) 2⟩|exact⟨rfl,below_drewN _ 2⟩
   ·have hlt:¬((((Utf8.encode r).size-1:Nat):Int)<(stops.size:Int)):=by omega
    go_wp2
    go_ret
    exact⟨rfl,Below.refl _ _⟩
theorem avm(s:ByteArray)(i j:Nat)(h1:1<=j)(hj:j<(Utf8.decode s i).2):i+j<s.size/\128<=(s.get! (i+j)).toNat:=by
 unfold Utf8.decode at hj;dsimp only at hj;split at hj
 ·simp only at hj;omega
 ·split at hj
  ·next h=>
   simp only[Zg,ZE,Z3]at h;split at hj
   ·simp only at hj;obtain rfl:j=1:=by omega
    omega
   ·simp only at hj;omega
  ·split at hj
   ·next h=>
    simp only[Zg,ZE,Z3]at h;split at hj
    ·simp only at hj;have:j=1\/j=2:=by omega
     rcases this with rfl|rfl<;>omega
    ·simp only at hj;omega
   ·split at hj
    ·next h=>
     simp only[Zg,ZE,Z3]at h;split at hj
     ·simp only at hj;have:j=1\/j=2\/j=3:=by omega
      rcases this with rfl|rfl|rfl<;>omega
     ·simp only at hj;omega
    ·simp only at hj;omega
theorem ayo(r:Int)(h0:128<=r)(h1:r<=2147483647)(w:World):Calls Tryz.prog 161 #[.string stops,.int .i32 r] w fun e w'=>e=.returned (.int .i64 (-1))/\Below w.heap.size w w':=by
 by_cases h:r=65533
 ·subst h;exact ay2 w
 ·exact bqg r h0 h1 h w
theorem bk4{s:ByteArray}{i:Nat}(hi:i<s.size)(hx:128<=(s[i]'hi).toNat)(h:Lib.NoAny s.data.toList stops.data.toList i):Lib.NoAny s.data.toList stops.data.toList (i+(Utf8.decode s i).2)/\i+(Utf8.decode s i).2<=s.size/\1<=(Utf8.decode s i).2:=by
 have hd:=(decode_high s i hi hx).2;refine⟨fun j b hj hb=>?_,?_,hd⟩
 ·by_cases hji:j<i
  ·exact h j b hji hb
  ·have hjs:j<s.size:=by
    have:=(Zc.1 hb).1;simpa using this
   have hb':b=s[j]'hjs:=by
    have:=Lib.data_getElem? s j hjs;rw[this]at hb;exact(Zan hb).symm
   have h128:128<=b.toNat:=by
    by_cases hji2:j=i
    ·subst hji2;rw[hb'];exact hx
    ·have:=(avm s i (j-i) (by omega) (by omega)).2;rw[show i+(j-i)=j by omega]at this;rw[hb'];have e:s.get! j=s[j]'hjs:=get_at s j hjs;rw[e]at this;exact this
   have hne:b≠46/\b≠91:=by
    constructor
    ·rintro rfl;exact absurd h128 (by decide)
    ·rintro rfl;exact absurd h128 (by decide)
   show[(46:UInt8),91].contains b=false
   simp[hne.1,hne.2]
 ·by_cases h1:(Utf8.decode s i).2=1
  ·omega
  ·have:=(avm s i ((Utf8.decode s i).2-1) (by omega) (by omega)).1;omega
theorem awg(s:ByteArray)(w:World)(h8:s.size<=8):Calls Tryz.prog 150 #[.string s,.string stops] w fun e w'=>e=.returned (.int .i64 (Lib.indexAny s.data.toList stops.data.toList))/\Below w.heap.size w w':=by
 have hss:stops.size=2:=rfl;have hemp:stops.toList.isEmpty=false:=by rw[Lib.toList_data];rfl
 have hn1:((stops.size:Int)==1)=false:=rfl;have h8z:decide ((8:Int)<(s.size:Int))=false:=Yy (by omega);go_enter Tryz.func150,Tryz.ntmps150;go_wp2_with fail;(with_reducible refine(Tryz.strings_shouldUseASCIISet _ _).mono ?_);rintro e w1 ⟨rfl,rfl⟩
 rw[h8z];go_wp2_with fail
 go_loopg [9,10] s.size (fun g _ _ wx=>∃i:Nat,s.size<=i+g/\i<=s.size/\wx.heap[w1.heap.size]?=some (.stringIter s i)/\Below w1.heap.size w1 wx/\Lib.NoAny s.data.toList stops.data.toList i)
 case atStart=>exact⟨0,by omega,by omega,World.iter_heap _ _ _,awk _ _ _,Lib.NoAny.zero _ _⟩
 case round=>
  obtain⟨i,hig,his,hit,hbel,hno⟩:=hrel;by_cases hi:i<s.size
  ·cases gk with
   |zero=>omega
   |succ g=>
    obtain⟨x,hx⟩:∃x:UInt8,s[i]'hi=x:=⟨_,rfl⟩;have hxl:s.data.toList[i]?=some x:=by rw[<-hx];exact Lib.data_getElem? s i hi
    by_cases ha:x.toNat<128
    ·have hnx:=fun ty=>run_next_ascii_at (P:=Tryz.prog) wr w1.heap.size s i ty hit hi (by rw[hx];exact ha)
     rw[hx]at hnx;have Hit:=kept (iterAt_heap wr w1.heap.size s i (i+1) hit);have Hbel:=kept (below_iterAt hbel (Ze _) s (i+1));have Hno:=kept hno;have Hxl:=kept hxl;have hcon:=Lib.contains_iff_indexByte stops.data.toList x;have hback:((x.toNat:Int)).toNat.toUInt8=x:=by simp
     have Hx:=kept hx;clear hit hbel hno hxl hx;cases hin:stops.data.toList.contains x
     ·rw[hin]at hcon;have hlt:¬((0:Int)<=Lib.indexByte stops.data.toList x):=of_decide_eq_false hcon.symm;clear hcon;go_wp2_with fail;(with_reducible refine(Tryz.strings_IndexRune_ascii _ _ _ (by omega) (by omega)).mono ?_);rintro e w2 ⟨rfl,rfl⟩
      rw[hback];go_wp2
      go_roundg g
      case measure=>omega
      case rel=>exact⟨i+1,by omega,by omega,Hit.out,Hbel.out,Hno.out.succ Hxl.out hin⟩
     ·rw[hin]at hcon;have hge:(0:Int)<=Lib.indexByte stops.data.toList x:=of_decide_eq_true hcon.symm;clear hcon;go_wp2_with fail;(with_reducible refine(Tryz.strings_IndexRune_ascii _ _ _ (by omega) (by omega)).mono ?_);rintro e w2 ⟨rfl,rfl⟩
      rw[hback];go_wp2
      go_ret
      exact⟨by rw[Lib.indexAny_hit Hno.out Hxl.out hin];rfl,Hbel.out⟩
    ·have hx128:128<=(s[i]'hi).toNat:=by rw[hx];omega
     obtain⟨k1,k2,k3⟩:=bk4 hi hx128 hno;have d1:=(decode_high s i hi hx128).1;have d2:=decode_le s i;have hnx:=fun ty=>run_next_any_at (P:=Tryz.prog) wr w1.heap.size s i ty hit hi
     obtain⟨⟨c,d⟩,hcd⟩:=Ex (Utf8.decode s i);rw[hcd]at k1 k2 k3 d1 d2 hnx;dsimp only at k1 k2 k3 d1 d2 hnx;have Hit:=kept (iterAt_heap wr w1.heap.size s i (i+d) hit);have Hbel:=kept (below_iterAt hbel (Ze _) s (i+d));have K1:=kept k1;clear hit hbel hno hxl hx hx128 hcd k1;go_wp2_with fail;(with_reducible refine(ayo _ (by omega) (by omega) _).mono ?_);rintro e w2 ⟨rfl,b2⟩
     have hit2:w2.heap[w1.heap.size]?=some (.stringIter s (i+d)):=by rw[b2.block _ (ZJ.1 Hit.out).1];exact Hit.out
     have Hit2:=kept hit2;have Hbel2:=kept (Hbel.out.trans (b2.mono (by have:=Hbel.out.size;exact this)));clear hit2 b2;go_wp2
     go_roundg g
     case measure=>omega
     case rel=>exact⟨i+d,by omega,by omega,Hit2.out,Hbel2.out,K1.out⟩
  ·obtain rfl:i=s.size:=by omega
   have hnx:=fun ty=>run_next_end_at (P:=Tryz.prog) wr w1.heap.size s s.size ty hit (by omega)
   have Hno:=kept hno;have Hbel:=kept hbel;clear hno hbel;go_wp2
   go_ret
   exact⟨by rw[Lib.indexAny_none (by rw[<-Lib.size_eq];exact Hno.out)];rfl,Hbel.out⟩
set_option maxHeartbeats 8000000 in
theorem bzc(s:ByteArray)(h8:8<s.size)(hs:s.size<=9223372036854775807)(w:World):Calls Tryz.prog 150 #[.string s,.string stops] w fun e w'=>e=.returned (.int .i64 (Lib.indexAny s.data.toList stops.data.toList))/\Below w.heap.size w w':=by
 have hz:=zero_of_info (P:=Tryz.prog) (t:=221) (n:=256) (v:=.agg (Array.replicate 256 (.bool false))) (by kernel_rfl);obtain⟨cells,hcells⟩:=Ex (Lib.setCells stops.data.toList);have hasc:∀(j:Nat) b,stops.data.toList[j]?=some b->b.toNat<128:=by
  intro j b hb
  match j,hb with
  |0,hb=>cases hb;decide
  |1,hb=>cases hb;decide
  |j+2,hb=>simp[stops]at hb
 have Hset:=kept (Tryz.strings_makeASCIISet hz.1 stops w (by decide) hasc);obtain⟨W,hW⟩:=Ex ((w.alloc (.cells cells 221)).alloc (.cells cells 221));have hbel:Below w.heap.size w W:=by
  rw[<-hW];exact((Below.refl _ _).alloc (Ze _) _).alloc (((Below.refl w.heap.size w).alloc (Ze _) (.cells cells 221)).size) _
 have hcell:∀x:UInt8,W.cell? ⟨w.heap.size+1,x.toNat,none⟩=some (.bool (stops.data.toList.contains x)):=fun x=>by
  rw[<-hW,World.cell?_alloc_at _ _ _ _ (by simp),<-hcells,Lib.setCells_at]
 have hst:(storeCells ⟨w.heap.size+1,0,none⟩ cells.toList 0).run Tryz.prog ((w.alloc (.cells cells 221)).alloc (.cells (Array.replicate 256 (.bool false)) 221))=.ok () W:=by
  have:=run_storeCells_new (P:=Tryz.prog) (w.alloc (.cells cells 221)) 221 (Array.replicate 256 (.bool false)) cells (by rw[<-hcells,Lib.setCells_size];exact hz.2) (by rw[<-hcells,Lib.setCells_size,Array.size_replicate]) (by rw[<-hcells];exact Lib.setCells_one _);rw[hW]at this;simpa using this
 have hemp:stops.toList.isEmpty=false:=by rw[Lib.toList_data];rfl
 have hn1:((stops.size:Int)==1)=false:=rfl;have h8z:decide ((8:Int)<(s.size:Int))=true:=Yr (by omega);have HC:=kept hcell;have HB:=kept hbel;clear hcell hbel;rw[hcells]at Hset;go_enter Tryz.func150,Tryz.ntmps150;go_wp2_with fail;(with_reducible refine(Tryz.strings_shouldUseASCIISet _ _).mono ?_);rintro e w1 ⟨rfl,rfl⟩
 rw[h8z];go_wp2_with fail;(with_reducible refine Hset.out.mono ?_);rintro e w1 ⟨rfl,rfl⟩
 have hcsz:cells.size=256:=by rw[<-hcells];exact Lib.setCells_size _
 have e0:Tryz.zeroCells221=Array.replicate 256 (.bool false):=by kernel_rfl
 go_wp2
 go_loopg [8] s.size (fun g s8 wx=>∃i:Nat,i+g=s.size/\s8=.int .i64 i/\wx=W/\Lib.NoAny s.data.toList stops.data.toList i)
 case atStart=>exact⟨0,by omega,rfl,rfl,Lib.NoAny.zero _ _⟩
 case round=>
  obtain⟨i,hig,rfl,rfl,hno⟩:=hrel;have HN:=kept hno;clear hno;cases gk with
  |zero=>
   obtain rfl:i=s.size:=by omega
   have hiz:¬((s.size:Int)<(s.size:Int)):=by omega
   go_wp2
   go_ret
   exact⟨by rw[Lib.indexAny_none (by rw[<-Lib.size_eq];exact HN.out)];rfl,HB.out⟩
  |succ g=>
   have hi:i<s.size:=by omega
   have hiz:(i:Int)<(s.size:Int):=by omega
   have hw:IntKind.i64.wrap ((i:Int)+1)=(i:Int)+1:=Go.IntWalk.i64_in _ ⟨by omega,by omega⟩;obtain⟨x,hx⟩:∃x:UInt8,s[i]'hi=x:=⟨_,rfl⟩;have hxl:s.data.toList[i]?=some x:=by rw[<-hx];exact Lib.data_getElem? s i hi
   have Hxl:=kept hxl;clear hxl;have hcx:=HC.out x;cases hin:stops.data.toList.contains x<;>rw[hin]at hcx
   ·go_wp2_with fail;(with_reducible refine(Tryz.asciiSet_contains _ x _ _ hcx).mono ?_);rintro e w2 ⟨rfl,rfl⟩
    go_wp2
    go_roundg g
    case measure=>omega
    case rel=>exact⟨i+1,by omega,by first|rfl|simp,rfl,HN.out.succ Hxl.out hin⟩
   ·go_wp2_with fail;(with_reducible refine(Tryz.asciiSet_contains _ x _ _ hcx).mono ?_);rintro e w2 ⟨rfl,rfl⟩
    go_wp2
    go_ret
    exact⟨by rw[Lib.indexAny_hit HN.out Hxl.out hin];rfl,HB.out⟩
theorem bqk(s:ByteArray)(hs:s.size<=9223372036854775807)(w:World):Calls Tryz.prog 150 #[.string s,.string stops] w fun e w'=>e=.returned (.int .i64 (Lib.indexAny s.data.toList stops.data.toList))/\Below w.heap.size w w':=by
 by_cases h8:s.size<=8
 ·exact awg s w h8
 ·exact bzc s (by omega) hs w
end
section
open Go.RowKit
namespace Adr
def first(k:Nat)(c:UInt8):Bool:=if k=0 then letter c else wordB c
def idOk(j:Nat)(s:List UInt8):Prop:=∀k,k<j->first k (s.getD k 0)=true
theorem wordB_of_letter{c:UInt8}(h:letter c=true):wordB c=true:=by unfold wordB;rw[h];rfl
theorem ident_fail{s:List UInt8}{j:Nat}(hj:j<s.length)(h:first j (s.getD j 0)=false):ident s=false:=by
 unfold ident;unfold first at h;split at h
 ·next e=>
  subst e;rw[h];simp
 ·have:s.all wordB=false:=by
   rw[List.all_eq_false];refine⟨s[j],ZF hj,?_⟩;have e:s.getD j 0=s[j]:=by simp[List.getD,hj]
   rw[e]at h;rw[h];decide
  simp[this]
theorem ident_end{s:List UInt8}(h:idOk s.length s):ident s=(s != []&&decide (s.length<=64)):=by
 unfold ident;cases s with
 |nil=>rfl
 |cons c t=>
  have h0:letter ((c::t).getD 0 0)=true:=by
   have:=h 0 (by simp);unfold first at this
   rwa [if_pos rfl]at this
  have h1:(c::t).all wordB=true:=by
   rw[ZC];intro x hx;obtain⟨j,hj,rfl⟩:=List.getElem_of_mem hx;have:=h j hj;have e:(c::t).getD j 0=(c::t)[j]:=by rw[Z4,Zi hj];rfl
   unfold first at this;rw[e]at this;split at this
   ·exact wordB_of_letter this
   ·exact this
  rw[h0,h1];simp
theorem or_letter:∀n:Fin 256,letter (UInt8.ofNat n.val)=!((((n.val:Nat):Int)!=95)&&(decide (bits .or .u8 ((n.val:Nat):Int) 32<97)||decide (bits .or .u8 ((n.val:Nat):Int) 32>122))):=by decide +kernel
theorem letter_or(c:UInt8):letter c=!(((c.toNat:Int)!=95)&&(decide (bits .or .u8 (c.toNat:Int) 32<97)||decide (bits .or .u8 (c.toNat:Int) 32>122))):=by
 have:=or_letter ⟨c.toNat,c.toNat_lt⟩;simpa using this
end Adr
namespace AX
def bjq:AX.AFn:=⟨50,aS [aR 2 (.mv (.c (.bool false)))] (.seq (aS [aM 5 0,aR 6 (.len true (.t 5)),aR 7 (.mv (aI 0))] (.block 0 (.loop (aS [aR 8 (.bin .lss (.t 7) (.t 6))] (.seq (.cond (.t 8) (.skip) (.exit 0)) (.seq (.block 1 (aS [aM 9 7,aM 3 9] (aS [aM 10 0,aM 11 3,aR 12 (.sidx (.t 10) (.t 11)),aR 13 (.bin .or (.t 12) (.c (.int .u8 32))),aM 4 13] (aS [aM 14 0,aM 15 3,aR 16 (.sidx (.t 14) (.t 15)),aR 17 (.bin .neq (.t 16) (.c (.int .u8 95))),aM 18 17,aG 19 (.mv (.t 4)) 18 true,aG 20 (.bin .lss (.t 19) (.c (.int .u8 97))) 18 true,aG 21 (.mv (.t 20)) 18 true,aG 22 (.mv (.t 4)) 21 false,aG 23 (.bin .gtr (.t 22) (.c (.int .u8 122))) 21 false,aG 24 (.pick (.t 21) (.c (.bool true)) (.t 23)) 18 true,aR 25 (.pick (.t 18) (.t 24) (.c (.bool false))),aM 26 25,aG 27 (.mv (.t 3)) 26 true,aG 28 (.bin .eql (.t 27) (aI 0)) 26 true,aG 29 (.mv (.t 28)) 26 true,aG 30 (.mv (.t 0)) 29 false,aG 31 (.mv (.t 3)) 29 false,aG 32 (.sidx (.t 30) (.t 31)) 29 false,aG 33 (.bin .lss (.t 32) (.c (.int .u8 48))) 29 false,aG 34 (.pick (.t 29) (.c (.bool true)) (.t 33)) 26 true,aG 35 (.mv (.t 34)) 26 true,aG 36 (.mv (.t 0)) 35 false,aG 37 (.mv (.t 3)) 35 false,aG 38 (.sidx (.t 36) (.t 37)) 35 false,aG 39 (.bin .gtr (.t 38) (.c (.int .u8 57))) 35 false,aG 40 (.pick (.t 35) (.c (.bool true)) (.t 39)) 26 true,aR 41 (.pick (.t 26) (.t 40) (.c (.bool false)))] (.cond (.t 41) (aS [aR 2 (.mv (.c (.bool false)))] (.ret)) (.skip)))))) (.reg false [aR 42 (.bin .add (.t 7) (aI 1)),aM 7 42]))))))) (aS [aM 43 0,aR 44 (.bin .neq (.t 43) (.c (.str []))),aM 45 44,aG 46 (.mv (.t 0)) 45 true,aG 47 (.len true (.t 46)) 45 true,aG 48 (.bin .leq (.t 47) (aI 64)) 45 true,aR 49 (.pick (.t 45) (.t 48) (.c (.bool false))),aM 2 49] (.ret))),[.t 2]⟩
theorem ck8:AX.compFn Tryz.prog 23=some bjq:=by kernel_rfl
def bxx:AX.AFn:=⟨15,aS [aR 4 (.mv (.c (.str []))),aR 5 (.mv (.c (.bool false)))] (.seq (aS [aM 6 0,aM 7 1,aR 8 (.call 103 [.t 6,.t 7]),aR 9 (.un .not (.t 8))] (.cond (.t 9) (aS [aM 10 0,aM 4 10,aR 5 (.mv (.c (.bool false)))] (.ret)) (.skip))) (aS [aM 11 0,aM 12 1,aR 13 (.len true (.t 12)),aR 14 (.ssl (.t 11) (some (.t 13)) none),aM 4 14,aR 5 (.mv (.c (.bool true)))] (.ret))),[.t 4,.t 5]⟩
theorem ck1:AX.compFn Tryz.prog 160=some bxx:=by kernel_rfl
def bwl:AX.AFn:=⟨11,aS [aR 4 (.mv (.c (.str []))),aR 5 (.mv (.c (.bool false)))] (aS [aM 6 0,aM 7 1,aR 8 (.call 160 [.t 6,.t 7]),aE 9 8 0,aE 10 8 1,aM 4 9,aM 5 10] (.ret)),[.t 4,.t 5]⟩
theorem dz1:AX.compFn Tryz.prog 149=some bwl:=by kernel_rfl
def bwb:AX.AFn:=⟨21,aS [aR 4 (.mv (.c (.bool false)))] (aS [aM 8 0,aR 9 (.nilck (.t 8)),aF 10 0 9,aL 11 10,aM 12 1,aR 13 (.call 149 [.t 11,.t 12]),aM 7 13,aE 14 7 0,aE 15 7 1,aM 5 14,aM 6 15] (aS [aM 16 0,aM 17 5,aR 18 (.nilck (.t 16)),aF 19 0 18,aU (.store 1 (.t 19) (.t 17))] (aS [aM 20 6,aM 4 20] (.ret)))),[.t 4]⟩
theorem dzw:AX.compFn Tryz.prog 135=some bwb:=by kernel_rfl
def bx0:AX.AFn:=⟨30,aS [aM 7 0,aR 8 (.nilck (.t 7)),aF 9 0 8,aL 10 9,aM 11 1,aR 12 (.call 149 [.t 10,.t 11]),aM 6 12,aE 13 6 0,aE 14 6 1,aM 4 13,aM 5 14] (aS [aM 15 0,aM 16 4,aR 17 (.nilck (.t 15)),aF 18 0 17,aU (.store 1 (.t 18) (.t 16))] (.reg false [aM 19 0,aM 20 0,aR 21 (.nilck (.t 20)),aF 22 1 21,aL 23 22,aM 24 23,aG 25 (.mv (.t 5)) 24 false,aG 26 (.un .not (.t 25)) 24 false,aR 27 (.pick (.t 24) (.c (.bool true)) (.t 26)),aR 28 (.nilck (.t 19)),aF 29 1 28,aU (.store 1 (.t 29) (.t 27))])),[]⟩
theorem cyf:AX.compFn Tryz.prog 137=some bx0:=by kernel_rfl
theorem ax0(s:List UInt8)(hl:s.length<=2000000)(h:Hp):AT 23 [.str s] h (.bool (Adr.ident s)):=by
 refine pcall ?_ rfl (by simp[A.pure,A.data]) h;refine aza mixedT ck8 (by simp[bjq]) ?_;dsimp only[bjq];refine azb ti ?_;refine azh (fun mm ts h=>∃(j:Nat),mm=s.length-j/\j<=s.length/\h=⟨[],[]⟩/\Adr.idOk j s/\ts 0=.str s/\ts 6=.int .i64 (s.length:Nat)/\ts 7=.int .i64 (j:Nat)) s.length ?_ ?_
 ·exact⟨0,by omega,by omega,rfl,fun k hk=>absurd hk (Nat.not_lt_zero k),by(exact ev0 ti),by(exact ev0 ti),by(exact aqj ti)⟩
 rintro mm ts h ⟨j,rfl,hjc,rfl,hok,t0,t6,t7⟩;by_cases hj:j<s.length
 ·have hlt:(j:Int)<(s.length:Int):=by omega
  have hj0:(0:Int)<=(j:Int):=by omega
  have ei:IntKind.i64.wrap ((j:Int)+1)=((j+1:Nat):Int):=by rw[wrap64 (by omega) (by omega)];omega
  obtain⟨c,hc⟩:=Ex (s.getD j 0)
  have hfl:Adr.letter c=false->j=0\/Adr.wordB c=false->Adr.ident s=false:=fun h1 h2=>Adr.ident_fail hj (by
   rw[hc];unfold Adr.first;rcases h2 with h2|h2
   ·rw[if_pos h2];exact h1
   ·split
    ·exact h1
    ·exact h2)
  have hgo:Adr.first j c=true->Adr.idOk (j+1) s:=fun h1 k hk=>by
   by_cases e:k=j
   ·rw[e,hc];exact h1
   ·exact hok k (by omega)
  have hlo:=Adr.letter_or c;have hdg:=Num.digB_int c;have hwb:Adr.wordB c=(Adr.letter c||Num.digB c):=rfl;obtain⟨x,hx⟩:∃x:Int,(c.toNat:Int)=x:=⟨_,rfl⟩;rw[hx]at hlo hdg;obtain⟨y,hy⟩:∃y:Int,bits .or .u8 x 32=y:=⟨_,rfl⟩;rw[hy]at hlo;have next:Adr.first j c=true->∃m',m'<s.length-j/\∃(j':Nat),m'=s.length-j'/\j'<=s.length/\Adr.idOk j' s/\j'=j+1:=fun h1=>⟨s.length-(j+1),by omega,j+1,rfl,by omega,hgo h1,rfl⟩
  by_cases h95:x=95
  ·have e1:(x !=95)=false:=by simp[h95]
   have hL:Adr.letter c=true:=by rw[hlo,e1];rfl
   refine azb (ai t0 (ai t6 (ai t7 (ai hlt (ai hj0 (ai hc (ai hx (ai hy (ai e1 ei))))))))) ?_;exact⟨s.length-(j+1),by omega,j+1,rfl,by omega,rfl,hgo (by unfold Adr.first;split;exact hL;rw[hwb,hL];rfl),by(exact ev0 t0),by(exact ev0 t6),by(exact ev0 ei)⟩
  have e1:(x !=95)=true:=by simp[h95]
  by_cases h97:y<97\/y>122
  rotate_left
  ·have e2:¬y<97:=by omega
   have e3:¬y>122:=by omega
   have hL:Adr.letter c=true:=by rw[hlo,e1,Yy e2,Yy e3];rfl
   refine azb (ai t0 (ai t6 (ai t7 (ai hlt (ai hj0 (ai hc (ai hx (ai hy (ai e1 (ai e2 (ai e3 ei))))))))))) ?_;exact⟨s.length-(j+1),by omega,j+1,rfl,by omega,rfl,hgo (by unfold Adr.first;split;exact hL;rw[hwb,hL];rfl),by(exact ev0 t0),by(exact ev0 t6),by(exact ev0 ei)⟩
  have hL:Adr.letter c=false:=by
   rw[hlo,e1];rcases h97 with h97|h97
   ·rw[Yr h97];rfl
   ·rw[Yr h97,Bool.or_true];rfl
  have fail:(j=0\/Adr.wordB c=false)->Adr.ident s=false:=hfl hL;have e23:y<97\/(¬y<97/\y>122):=by omega
  by_cases hz:j=0
  ·have e4:((j:Int)==0)=true:=by simp[hz]
   have hF:=fail (.inl hz);rcases e23 with e2|⟨e2,e3⟩
   ·refine azb (ai t0 (ai t6 (ai t7 (ai hlt (ai hj0 (ai hc (ai hx (ai hy (ai e1 (ai e2 e4)))))))))) ?_;exact⟨_,le_refl _,by rw[hF];rfl⟩
   ·refine azb (ai t0 (ai t6 (ai t7 (ai hlt (ai hj0 (ai hc (ai hx (ai hy (ai e1 (ai e2 (ai e3 e4))))))))))) ?_;exact⟨_,le_refl _,by rw[hF];rfl⟩
  have e4:((j:Int)==0)=false:=by simp;omega
  by_cases hd:48<=x/\x<=57
  ·have e5:¬x<48:=by omega
   have e6:¬x>57:=by omega
   have hW:Adr.wordB c=true:=by rw[hwb,hdg,Yr hd.1,Yr hd.2,hL];rfl
   have hfst:Adr.first j c=true:=by unfold Adr.first;rw[if_neg hz];exact hW
   rcases e23 with e2|⟨e2,e3⟩
   ·refine azb (ai t0 (ai t6 (ai t7 (ai hlt (ai hj0 (ai hc (ai hx (ai hy (ai e1 (ai e2 (ai e4 (ai e5 (ai e6 ei))))))))))))) ?_;exact⟨s.length-(j+1),by omega,j+1,rfl,by omega,rfl,hgo hfst,by(exact ev0 t0),by(exact ev0 t6),by(exact ev0 ei)⟩
   ·refine azb (ai t0 (ai t6 (ai t7 (ai hlt (ai hj0 (ai hc (ai hx (ai hy (ai e1 (ai e2 (ai e3 (ai e4 (ai e5 (ai e6 ei)))))))))))))) ?_;exact⟨s.length-(j+1),by omega,j+1,rfl,by omega,rfl,hgo hfst,by(exact ev0 t0),by(exact ev0 t6),by(exact ev0 ei)⟩
  ·have hD:Num.digB c=false:=by
    rw[hdg];by_cases a:48<=x
    ·rw[Yr a,Yy (by omega)];rfl
    ·rw[Yy a];rfl
   have hF:=fail (.inr (by rw[hwb,hL,hD];rfl));have e56:x<48\/(¬x<48/\x>57):=by omega
   rcases e23 with e2|⟨e2,e3⟩
   ·rcases e56 with e5|⟨e5,e6⟩
    ·refine azb (ai t0 (ai t6 (ai t7 (ai hlt (ai hj0 (ai hc (ai hx (ai hy (ai e1 (ai e2 (ai e4 e5))))))))))) ?_;exact⟨_,le_refl _,by rw[hF];rfl⟩
    ·refine azb (ai t0 (ai t6 (ai t7 (ai hlt (ai hj0 (ai hc (ai hx (ai hy (ai e1 (ai e2 (ai e4 (ai e5 e6)))))))))))) ?_;exact⟨_,le_refl _,by rw[hF];rfl⟩
   ·rcases e56 with e5|⟨e5,e6⟩
    ·refine azb (ai t0 (ai t6 (ai t7 (ai hlt (ai hj0 (ai hc (ai hx (ai hy (ai e1 (ai e2 (ai e3 (ai e4 e5)))))))))))) ?_;exact⟨_,le_refl _,by rw[hF];rfl⟩
    ·refine azb (ai t0 (ai t6 (ai t7 (ai hlt (ai hj0 (ai hc (ai hx (ai hy (ai e1 (ai e2 (ai e3 (ai e4 (ai e5 e6))))))))))))) ?_;exact⟨_,le_refl _,by rw[hF];rfl⟩
 ·have hlt:¬((j:Int)<(s.length:Int)):=by omega
  have hje:j=s.length:=by omega
  rw[hje]at hok;have hE:=Adr.ident_end hok;by_cases hn:s=[]
  ·have e1:(s != [])=false:=by simp[hn]
   rw[e1]at hE;refine azb (ai t0 (ai t6 (ai t7 (ai hlt e1)))) ?_;exact⟨_,le_refl _,by rw[hE];rfl⟩
  ·have e1:(s != [])=true:=by simp[hn]
   rw[e1]at hE;have e2:decide ((s.length:Int)<=64)=decide (s.length<=64):=decide_eq_decide.2 (by omega);refine azb (ai t0 (ai t6 (ai t7 (ai hlt e1)))) ?_;exact⟨_,le_refl _,by rw[hE];first|rfl|(rw[azq,e2];rfl)|rw[<-e2];rfl⟩
theorem cyd(s p:List UInt8)(h:Hp):AT 160 [.str s,.str p] h (.tup [.str (if Adr.begins s p then s.drop p.length else s),.bool (Adr.begins s p)]):=by
 refine pcall ?_ rfl (by simp[A.pure,A.data]) h;refine aza mixedT ck1 (by simp[bxx]) ?_;dsimp only[bxx];have hp:(decide (p.length<=s.length)&&s.take p.length==p)=Adr.begins s p:=by
  unfold Adr.begins;rw[YZ,Zam,List.prefix_iff_eq_take,Zg,ZE,Z3];constructor
  ·rintro⟨h1,h2⟩;exact h2.symm
  ·intro h2;exact⟨by have:=congrArg List.length h2;rw[Zm]at this;omega,h2.symm⟩
 have hc:=fun h=>axn s p h
 rw[hp]at hc;refine azb ti ?_;refine use (hc _) ?_;cases hB:Adr.begins s p
 ·refine azb ti ?_;exact Fn rfl
 ·have hle:(p.length:Int)<=(s.length:Int):=by have:=Adr.begins_len hB;omega
  have h0:(0:Int)<=(p.length:Int):=by omega
  refine azb (ai hle h0) ?_;refine⟨_,le_refl _,?_⟩;rw[if_pos rfl];first|rfl|(rw[axm];simp)
theorem cvd(s p:List UInt8)(h:Hp):AT 149 [.str s,.str p] h (.tup [.str (if Adr.begins s p then s.drop p.length else s),.bool (Adr.begins s p)]):=by
 refine pcall ?_ rfl (by simp[A.pure,A.data]) h;refine aza mixedT dz1 (by simp[bwl]) ?_;dsimp only[bwl];refine azb ti ?_;refine use (cyd s p _) ?_;refine azb ti ?_;exact Fn rfl
def adB(r:Adr.Rd):Blk:=.cells 197 [.str r.rest,.bool r.bad]
theorem aqz(r:Adr.Rd):(adB r).loc 0:=rfl
theorem cxr(p:List UInt8)(r:Adr.Rd){h:Hp}{i:Nat}(hb:h.b[i]?=some (adB r)):
  AC 135 [.ptr i 0,.str p] h fun v h'=>v=.bool (Adr.hasP p r).1/\h'=⟨h.b.set i (adB (Adr.hasP p r).2),h.t⟩:=by
 have key:AC 135 [.ptr 0 0,.str p] ⟨[adB r],[]⟩ fun v h'=>∃b',h'.b[0]?=some b'/\v=.bool (Adr.hasP p r).1/\b'=adB (Adr.hasP p r).2:=by
  refine aza mixedT dzw (by simp[bwb]) ?_;dsimp only[bwb];unfold adB;refine azb ti ?_;refine use (cvd r.rest p _) ?_;unfold Adr.hasP;cases hB:Adr.begins r.rest p
  ·refine azb ti ?_;exact⟨_,le_refl _,_,rfl,rfl,rfl⟩
  ·refine azb ti ?_;exact⟨_,le_refl _,_,rfl,rfl,rfl⟩
 refine(ACall.lift1 key rfl (aqz r) ?_ hb).mono ?_
 ·rintro v b' ⟨rfl,rfl⟩;exact⟨rfl,aqz _⟩
 ·rintro v h' ⟨b',⟨rfl,rfl⟩,rfl⟩;exact⟨rfl,rfl⟩
theorem czm(p:List UInt8)(r:Adr.Rd){h:Hp}{i:Nat}(hb:h.b[i]?=some (adB r)):
  AC 137 [.ptr i 0,.str p] h fun v h'=>v=.tup []/\h'=⟨h.b.set i (adB (Adr.skipP p r)),h.t⟩:=by
 have key:AC 137 [.ptr 0 0,.str p] ⟨[adB r],[]⟩ fun v h'=>∃b',h'.b[0]?=some b'/\v=.tup []/\b'=adB (Adr.skipP p r):=by
  obtain⟨rest,bad⟩:=r;refine aza mixedT cyf (by simp[bx0]) ?_;dsimp only[bx0];unfold adB;refine azb ti ?_;refine use (cvd rest p _) ?_;unfold Adr.skipP;dsimp only;cases hB:Adr.begins rest p
  ·cases bad
   ·refine azb ti ?_;exact⟨_,le_refl _,_,rfl,rfl,rfl⟩
   ·refine azb ti ?_;exact⟨_,le_refl _,_,rfl,rfl,rfl⟩
  ·cases bad
   ·refine azb ti ?_;exact⟨_,le_refl _,_,rfl,rfl,rfl⟩
   ·refine azb ti ?_;exact⟨_,le_refl _,_,rfl,rfl,rfl⟩
 refine(ACall.lift1 key rfl (aqz r) ?_ hb).mono ?_
 ·rintro v b' ⟨rfl,rfl⟩;exact⟨rfl,aqz _⟩
 ·rintro v h' ⟨b',⟨rfl,rfl⟩,rfl⟩;exact⟨rfl,rfl⟩
end AX
end
section
open Go.RowKit
open Go.Op (bytesLess)
namespace Adr
theorem indexAny_word:∀s:List UInt8,(Lib.indexAny s [46,91]=-1/\s.takeWhile (fun c=>!stopB c)=s/\s.dropWhile (fun c=>!stopB c)=[]) \/
  ∃n:Nat,Lib.indexAny s [46,91]=n/\n<=s.length/\s.takeWhile (fun c=>!stopB c)=s.take n/\s.dropWhile (fun c=>!stopB c)=s.drop n
 |[]=> .inl ⟨rfl,rfl,rfl⟩
 |c::s=>by
  have hc:([46,91]:List UInt8).contains c=stopB c:=by
   unfold stopB;simp;rfl
  unfold Lib.indexAny;rw[hc];cases h:stopB c
  ·rcases indexAny_word s with⟨h1,h2,h3⟩|⟨n,h1,h2,h3,h4⟩
   ·refine .inl ⟨by rw[h1];rfl,?_,?_⟩
    ·rw[Ys (by simp[h]),h2]
    ·rw[YH (by simp[h]),h3]
   ·refine .inr ⟨n+1,?_,by simpa using h2,?_,?_⟩
    ·rw[h1];have e:((n:Int) == -1)=false:=by simp<;>omega
     simp only[Zo,if_false,e];omega
    ·rw[Ys (by simp[h]),h3,Yd]
    ·rw[YH (by simp[h]),h4,ZS]
  ·refine .inr ⟨0,rfl,Z0 _,?_,?_⟩
   ·rw[YI (by simp[h])];rfl
   ·rw[YY (by simp[h])];rfl
theorem indexByte_key:∀s:List UInt8,(s.all (· != 93)=true/\Lib.indexByte s 93=-1)\/(s.all (· != 93)=false/\Lib.indexByte s 93=((s.takeWhile (· != 93)).length:Nat)/\(s.takeWhile (· != 93)).length<=s.length)
 |[]=> .inl ⟨rfl,rfl⟩
 |c::s=>by
  unfold Lib.indexByte;by_cases h:c=93
  ·subst h;refine .inr ⟨by simp,?_,Nat.le_of_lt_succ (by simp)⟩;simp
  ·have hb:(c==93)=false:=by simp[h]
   have hn:(c !=93)=true:=by simp[h]
   rcases indexByte_key s with⟨h1,h2⟩|⟨h1,h2,h3⟩
   ·refine .inl ⟨by rw[ZH,hn,h1];rfl,?_⟩;simp[hb,h,h2]
   ·refine .inr ⟨by rw[ZH,h1,Zad],?_,?_⟩
    ·simp only[List.takeWhile_cons,hn,if_true,Zf,hb,Zo,if_false,h2];have e:(((s.takeWhile (· != 93)).length:Nat):Int) == -1↔False:=by simp<;>omega
     rw[if_neg (by rw[e];exact id)];omega
    ·simp only[List.takeWhile_cons,hn,if_true,Zf];omega
theorem cmp_bytes:∀a b:List UInt8,Lib.compareBytes a b=AX.cmpZ a b
 |[],[]=>rfl
 |[],_::_=>rfl
 |_::_,[]=>rfl
 |a::a1,b::b1=>by
  have ih:=cmp_bytes a1 b1;unfold AX.cmpZ at ih⊢;unfold Lib.compareBytes bytesLess;by_cases h1:a<b
  ·have hne:a≠b:=by intro e;subst e;exact absurd h1 (by simp)
   simp[h1,hne]
  ·by_cases h2:b<a
   ·have hne:a≠b:=by intro e;subst e;exact absurd h2 (by simp)
    simp[h1,h2,hne]
   ·have he:a=b:=by
     have h3:¬a.toNat<b.toNat:=h1;have h4:¬b.toNat<a.toNat:=h2;exact YC.1 (by omega)
    subst he;rw[if_neg h1,if_neg h2,ih];simp
end Adr
namespace AX
def bxi:AX.AFn:=⟨18,aS [aR 2 (.mv (.c (.bool false)))] (.seq (aS [aM 3 0] (.block 0 (.seq (aS [aR 5 (.bin .eql (.t 3) (.c (.str [109,111,100,117,108,101]))),aM 4 5] (.cond (.t 4) (.skip) (aS [aR 6 (.bin .eql (.t 3) (.c (.str [100,97,116,97]))),aM 4 6] (.cond (.t 4) (.skip) (aS [aR 7 (.bin .eql (.t 3) (.c (.str [118,97,114]))),aM 4 7] (.cond (.t 4) (.skip) (aS [aR 8 (.bin .eql (.t 3) (.c (.str [108,111,99,97,108]))),aM 4 8] (.cond (.t 4) (.skip) (aS [aR 9 (.bin .eql (.t 3) (.c (.str [101,97,99,104]))),aM 4 9] (.cond (.t 4) (.skip) (aS [aR 10 (.bin .eql (.t 3) (.c (.str [99,111,117,110,116]))),aM 4 10] (.cond (.t 4) (.skip) (aS [aR 11 (.bin .eql (.t 3) (.c (.str [114,101,109,111,116,101]))),aM 4 11] (.cond (.t 4) (.skip) (aS [aR 12 (.bin .eql (.t 3) (.c (.str [111,117,116,112,117,116]))),aM 4 12] (.cond (.t 4) (.skip) (aS [aR 13 (.bin .eql (.t 3) (.c (.str [112,97,116,104]))),aM 4 13] (.cond (.t 4) (.skip) (aS [aR 14 (.bin .eql (.t 3) (.c (.str [115,101,108,102]))),aM 4 14] (.cond (.t 4) (.skip) (.reg false [aR 15 (.bin .eql (.t 3) (.c (.str [99,104,97,110,103,101]))),aM 4 15]))))))))))))))))))))) (.cond (.t 4) (aS [aR 2 (.mv (.c (.bool false)))] (.ret)) (.skip))))) (aS [aM 16 0,aR 17 (.call 23 [.t 16]),aM 2 17] (.ret))),[.t 2]⟩
theorem cwd:AX.compFn Tryz.prog 140=some bxi:=by kernel_rfl
def bxj:AX.AFn:=⟨45,aS [aR 2 (.mv (.c (.str [])))] (aS [aM 5 0,aR 6 (.nilck (.t 5)),aF 7 0 6,aL 8 7,aR 9 (.call 150 [.t 8,.c (.str [46,91])]),aM 3 9] (.seq (aS [aM 10 3,aR 11 (.bin .lss (.t 10) (aI 0))] (.cond (.t 11) (.reg false [aM 12 0,aR 13 (.nilck (.t 12)),aF 14 0 13,aL 15 14,aR 16 (.len true (.t 15)),aM 3 16]) (.skip))) (aS [aM 17 0,aR 18 (.nilck (.t 17)),aF 19 0 18,aL 20 19,aM 21 3,aR 22 (.ssl (.t 20) none (some (.t 21))),aM 4 22] (aS [aM 23 0,aM 24 0,aR 25 (.nilck (.t 24)),aF 26 0 25,aL 27 26,aM 28 3,aR 29 (.ssl (.t 27) (some (.t 28)) none),aR 30 (.nilck (.t 23)),aF 31 0 30,aU (.store 1 (.t 31) (.t 29))] (aS [aM 32 0,aM 33 0,aR 34 (.nilck (.t 33)),aF 35 1 34,aL 36 35,aM 37 36,aG 38 (.mv (.t 4)) 37 false,aG 39 (.call 23 [.t 38]) 37 false,aG 40 (.un .not (.t 39)) 37 false,aR 41 (.pick (.t 37) (.c (.bool true)) (.t 40)),aR 42 (.nilck (.t 32)),aF 43 1 42,aU (.store 1 (.t 43) (.t 41))] (aS [aM 44 4,aM 2 44] (.ret))))))),[.t 2]⟩
theorem cks:AX.compFn Tryz.prog 138=some bxj:=by kernel_rfl
def ayq:AX.AFn:=⟨35,aS [aR 1 (.box 170 (.t 0)),aR 2 (.mv (.c (.bool false)))] (.seq (aS [aF 3 0 1,aL 4 3] (.block 0 (aS [aR 6 (.bin .eql (.t 4) (aI 0)),aM 5 6] (.cond (.t 5) (aS [aR 7 (.load true 3 (.t 1)),aR 8 (.build [.int .i64 0,.int .i64 0,.str []] []),aR 9 (.eq 2 [0,0,1] false (.t 7) (.t 8)),aM 2 9] (.ret)) (aS [aR 11 (.bin .eql (.t 4) (aI 1)),aM 10 11] (.cond (.t 10) (aS [aF 12 1 1,aL 13 12,aR 14 (.bin .geq (.t 13) (aI 0)),aM 15 14,aG 16 (.faddr 1 (.t 1)) 15 true,aG 17 (.load false 1 (.t 16)) 15 true,aG 18 (.bin .leq (.t 17) (aI 9007199254740992)) 15 true,aR 19 (.pick (.t 15) (.t 18) (.c (.bool false))),aM 20 19,aG 21 (.faddr 2 (.t 1)) 20 true,aG 22 (.load false 1 (.t 21)) 20 true,aG 23 (.bin .eql (.t 22) (.c (.str []))) 20 true,aR 24 (.pick (.t 20) (.t 23) (.c (.bool false))),aM 2 24] (.ret)) (aS [aR 26 (.bin .eql (.t 4) (aI 2)),aM 25 26] (.cond (.t 25) (aS [aF 27 1 1,aL 28 27,aR 29 (.bin .eql (.t 28) (aI 0)),aM 30 29,aG 31 (.faddr 2 (.t 1)) 30 true,aG 32 (.load false 1 (.t 31)) 30 true,aG 33 (.call 48 [.t 32]) 30 true,aR 34 (.pick (.t 30) (.t 33) (.c (.bool false))),aM 2 34] (.ret)) (.skip))))))))) (aS [aR 2 (.mv (.c (.bool false)))] (.ret))),[.t 2]⟩
theorem cx7:AX.compFn Tryz.prog 176=some ayq:=by kernel_rfl
theorem cyv(a b:List UInt8)(h:Hp):AT 44 [.str a,.str b] h (.int .i64 (cmpZ a b)):=by
 rw[<-Adr.cmp_bytes];exact azs (bky aqy aqy) (fun w hg=>(Tryz.strings_Compare ⟨a.toArray⟩ ⟨b.toArray⟩ w).mono fun e w' ⟨h1,h2⟩=>⟨h1,by rw[h2];exact Below.refl _ _⟩) (fun C=>rep_int.2 rfl) h
theorem bk3(s:List UInt8)(hs:s.length<=2000000)(h:Hp):AT 150 [.str s,.str [46,91]] h (.int .i64 (Lib.indexAny s [46,91])):=
 azs (bky aqy aqy) (fun w hg=>bqk ⟨s.toArray⟩ (by rw[size_mk];omega) w) (fun C=>rep_int.2 rfl) h
theorem bxt(s:List UInt8)(h:Hp):AT 153 [.str s,.int .u8 93] h (.int .i64 (Lib.indexByte s 93)):=
 azs (bky aqy bk7) (fun w hg=>(Tryz.strings_IndexByte ⟨s.toArray⟩ 93 w).mono fun e w' ⟨h1,h2⟩=>⟨h1,by rw[h2];exact Below.refl _ _⟩) (fun C=>rep_int.2 rfl) h
theorem cvk(s:List UInt8)(hs:s.length<=2000000)(h:Hp):AT 140 [.str s] h (.bool (Adr.kindB s)):=by
 refine pcall ?_ rfl (by simp[A.pure,A.data]) h;refine aza mixedT cwd (by simp[bxi]) ?_;dsimp only[bxi];have hi:=fun h=>ax0 s hs h
 have hk:Adr.kindB s=(!Adr.reserved s&&Adr.ident s):=rfl;have hr:∀{G:Prop} (w:List UInt8),((s==w)=true->G)->((s==w)=false->G)->G:=fun w p q=>by
  cases e:s==w
  ·exact q e
  ·exact p e
 have res:∀w,(s==w)=true->w∈Adr.reservedL->Adr.kindB s=false:=fun w e hw=>by
  rw[Z3]at e;subst e;rw[hk];unfold Adr.reserved;rw[Zaf.2 hw];rfl
 refine hr [109,111,100,117,108,101] (fun e1=>?_) fun e1=>?_
 ·refine azb e1 ?_;exact⟨_,le_refl _,by rw[res _ e1 (by decide)];rfl⟩
 refine hr [100,97,116,97] (fun e2=>?_) fun e2=>?_
 ·refine azb (ai e1 e2) ?_;exact⟨_,le_refl _,by rw[res _ e2 (by decide)];rfl⟩
 refine hr [118,97,114] (fun e3=>?_) fun e3=>?_
 ·refine azb (ai e1 (ai e2 e3)) ?_;exact⟨_,le_refl _,by rw[res _ e3 (by decide)];rfl⟩
 refine hr [108,111,99,97,108] (fun e4=>?_) fun e4=>?_
 ·refine azb (ai e1 (ai e2 (ai e3 e4))) ?_;exact⟨_,le_refl _,by rw[res _ e4 (by decide)];rfl⟩
 refine hr [101,97,99,104] (fun e5=>?_) fun e5=>?_
 ·refine azb (ai e1 (ai e2 (ai e3 (ai e4 e5)))) ?_;exact⟨_,le_refl _,by rw[res _ e5 (by decide)];rfl⟩
 refine hr [99,111,117,110,116] (fun e6=>?_) fun e6=>?_
 ·refine azb (ai e1 (ai e2 (ai e3 (ai e4 (ai e5 e6))))) ?_;exact⟨_,le_refl _,by rw[res _ e6 (by decide)];rfl⟩
 refine hr [114,101,109,111,116,101] (fun e7=>?_) fun e7=>?_
 ·refine azb (ai e1 (ai e2 (ai e3 (ai e4 (ai e5 (ai e6 e7)))))) ?_;exact⟨_,le_refl _,by rw[res _ e7 (by decide)];rfl⟩
 refine hr [111,117,116,112,117,116] (fun e8=>?_) fun e8=>?_
 ·refine azb (ai e1 (ai e2 (ai e3 (ai e4 (ai e5 (ai e6 (ai e7 e8))))))) ?_;exact⟨_,le_refl _,by rw[res _ e8 (by decide)];rfl⟩
 refine hr [112,97,116,104] (fun e9=>?_) fun e9=>?_
 ·refine azb (ai e1 (ai e2 (ai e3 (ai e4 (ai e5 (ai e6 (ai e7 (ai e8 e9)))))))) ?_;exact⟨_,le_refl _,by rw[res _ e9 (by decide)];rfl⟩
 refine hr [115,101,108,102] (fun e10=>?_) fun e10=>?_
 ·refine azb (ai e1 (ai e2 (ai e3 (ai e4 (ai e5 (ai e6 (ai e7 (ai e8 (ai e9 e10))))))))) ?_;exact⟨_,le_refl _,by rw[res _ e10 (by decide)];rfl⟩
 refine hr [99,104,97,110,103,101] (fun e11=>?_) fun e11=>?_
 ·refine azb (ai e1 (ai e2 (ai e3 (ai e4 (ai e5 (ai e6 (ai e7 (ai e8 (ai e9 (ai e10 e11)))))))))) ?_;exact⟨_,le_refl _,by rw[res _ e11 (by decide)];rfl⟩
 have hres:Adr.reserved s=false:=by
  have h1:=Zz.1 e1;have h2:=Zz.1 e2;have h3:=Zz.1 e3;have h4:=Zz.1 e4;have h5:=Zz.1 e5;have h6:=Zz.1 e6;have h7:=Zz.1 e7;have h8:=Zz.1 e8;have h9:=Zz.1 e9;have h10:=Zz.1 e10;have h11:=Zz.1 e11;unfold Adr.reserved;rw[YU];intro hc;rw[Zaf]at hc;unfold Adr.reservedL at hc;simp only[ZM,List.not_mem_nil,or_false]at hc;rcases hc with e|e|e|e|e|e|e|e|e|e|e<;>simp_all
 rw[hk,hres];refine azb (ai e1 (ai e2 (ai e3 (ai e4 (ai e5 (ai e6 (ai e7 (ai e8 (ai e9 (ai e10 e11)))))))))) ?_;refine use (hi _) ?_;refine azb ti ?_;exact⟨_,le_refl _,by simp[azq]⟩
theorem bwy(r:Adr.Rd)(hl:r.rest.length<=2000000){h:Hp}{i:Nat}(hb:h.b[i]?=some (adB r)):
  AC 138 [.ptr i 0] h fun v h'=>v=.str (Adr.wordP r).1/\h'=⟨h.b.set i (adB (Adr.wordP r).2),h.t⟩:=by
 have key:AC 138 [.ptr 0 0] ⟨[adB r],[]⟩ fun v h'=>∃b',h'.b[0]?=some b'/\v=.str (Adr.wordP r).1/\b'=adB (Adr.wordP r).2:=by
  obtain⟨rest,bad⟩:=r;dsimp only at hl;refine aza mixedT cks (by simp[bxj]) ?_;dsimp only[bxj];unfold adB;have hW:Adr.wordP ⟨rest,bad⟩=(rest.takeWhile (fun c=>!Adr.stopB c),⟨rest.dropWhile (fun c=>!Adr.stopB c),bad||!Adr.ident (rest.takeWhile (fun c=>!Adr.stopB c))⟩):=rfl;rw[hW];have hi:=fun(s:List UInt8) (hs:s.length<=2000000) h=>ax0 s hs h
  refine azb ti ?_;refine use (bk3 rest hl _) ?_;rcases Adr.indexAny_word rest with⟨h1,h2,h3⟩|⟨n,h1,h2,h3,h4⟩
  ·rw[h1,h2,h3];have lm:(-1:Int)<0:=by decide
   have l0:(0:Int)<=(rest.length:Int):=by omega
   have td:rest.drop rest.length=[]:=List.drop_length;cases bad
   ·refine azb (ai lm (ai l0 td)) ?_;refine use (hi rest hl _) ?_;refine azb ti ?_;exact⟨_,le_refl _,_,rfl,rfl,rfl⟩
   ·refine azb (ai lm (ai l0 td)) ?_;exact⟨_,le_refl _,_,rfl,rfl,rfl⟩
  ·rw[h1,h3,h4];have lm:¬(n:Int)<0:=by omega
   have l0:(0:Int)<=(n:Int):=by omega
   have l1:(n:Int)<=(rest.length:Int):=by omega
   have ht:(rest.take n).length<=2000000:=by rw[Zm];omega
   cases bad
   ·refine azb (ai lm (ai l0 l1)) ?_;refine use (hi _ ht _) ?_;refine azb ti ?_;exact⟨_,le_refl _,_,rfl,rfl,rfl⟩
   ·refine azb (ai lm (ai l0 l1)) ?_;exact⟨_,le_refl _,_,rfl,rfl,rfl⟩
 refine(ACall.lift1 key rfl (aqz r) ?_ hb).mono ?_
 ·rintro v b' ⟨rfl,rfl⟩;exact⟨rfl,aqz _⟩
 ·rintro v h' ⟨b',⟨rfl,rfl⟩,rfl⟩;exact⟨rfl,rfl⟩
def Adr.K.A(k:Adr.K):A:=.agg [.int .i64 k.kind,.int .i64 k.num,.str k.str]
theorem ayc(k:Adr.K)(hs:k.str.length<=2000000)(h:Hp):AT 176 [Adr.K.A k] h (.bool (Adr.keyOk k)):=by
 obtain⟨kd,nm,st⟩:=k;dsimp only at hs;unfold Adr.K.A;refine pcall ?_ rfl (by simp[A.pure,A.data]) h;refine aza mixedT cx7 (by simp[ayq]) ?_;dsimp only[ayq];have hv:=fun h=>bx6 st hs h
 have hK:Adr.keyOk ⟨kd,nm,st⟩=if kd=1 then decide (0<=nm)&&decide (nm<=9007199254740992)&&st == []else if kd=2 then nm==0&&Str.valid st else(⟨kd,nm,st⟩:Adr.K)==Adr.K.none:=rfl
 rw[hK];by_cases k0:kd=0
 ·subst k0;have e0:((0:Int)==0)=true:=by decide
  rw[if_neg (by decide),if_neg (by decide)];have hn:((⟨0,nm,st⟩:Adr.K)==Adr.K.none)=(nm==0&&st == []):=by
   rw[YZ,Z3,Zg,Z3,Z3];unfold Adr.K.none;simp
  refine azb e0 ?_;exact⟨_,le_refl _,by rw[hn];simp[azq]⟩
 have e0:(kd==0)=false:=by simp[k0]
 by_cases k1:kd=1
 ·subst k1;have e1:((1:Int)==1)=true:=by decide
  have e10:((1:Int)==0)=false:=by decide
  rw[if_pos rfl];by_cases n0:0<=nm
  ·have g0:nm>=0:=n0;by_cases n1:nm<=9007199254740992
   ·refine azb (ai e10 (ai e1 (ai g0 n1))) ?_;exact⟨_,le_refl _,by rw[Yr n0,Yr n1];rfl⟩
   ·refine azb (ai e10 (ai e1 (ai g0 n1))) ?_;exact⟨_,le_refl _,by rw[Yy n1,Zad];rfl⟩
  ·have g0:¬nm>=0:=n0;refine azb (ai e10 (ai e1 g0)) ?_;exact⟨_,le_refl _,by rw[Yy n0];rfl⟩
 have e1:(kd==1)=false:=by simp[k1]
 rw[if_neg k1];by_cases k2:kd=2
 ·subst k2;have e20:((2:Int)==0)=false:=by decide
  have e21:((2:Int)==1)=false:=by decide
  have e2:((2:Int)==2)=true:=by decide
  rw[if_pos rfl];cases hn:nm==0
  ·refine azb (ai e20 (ai e21 (ai e2 hn))) ?_;exact Fn rfl
  ·refine azb (ai e20 (ai e21 (ai e2 hn))) ?_;refine use (hv _) ?_;refine azb (ai e20 (ai e21 (ai e2 hn))) ?_;exact Fn rfl
 have e2:(kd==2)=false:=by simp[k2]
 rw[if_neg k2];have hn:((⟨kd,nm,st⟩:Adr.K)==Adr.K.none)=false:=by
  rw[Zz];unfold Adr.K.none;intro e;injection e with e _ _;exact k0 e
 rw[hn];refine azb (ai e0 (ai e1 e2)) ?_;exact Fn rfl
end AX
end
section
open Go.RowKit
namespace AX
structure Sto where
 key:List UInt8
 lin:List UInt8
 latest:Int
 es:List (Int×List UInt8)
 c:Nat
 own:List UInt8
 left:Int
def strM(es:List (Int×List UInt8)):List (Int×A):=es.map fun e=>(e.1,.str e.2)
def lfind(n:Int):List (Int×List UInt8)->Option (List UInt8)
 |[]=>none
 |(k,x)::l=>if n=k then some x else lfind n l
def lput(n:Int)(x:List UInt8):List (Int×List UInt8)->List (Int×List UInt8)
 |[]=>[(n,x)]
 |(k,y)::l=>if n=k then(n,x)::l else(k,y)::lput n x l
def lerase(n:Int):List (Int×List UInt8)->List (Int×List UInt8)
 |[]=>[]
 |(k,y)::l=>if n=k then l else(k,y)::lerase n l
theorem bz3(n:Int):∀es,mfind n (strM es)=(lfind n es).map A.str
 |[]=>rfl
 |(k,x)::l=>by
  show(if n=k then some (A.str x)else mfind n (strM l))=_
  unfold lfind;split
  ·rfl
  ·exact bz3 n l
theorem bj5(n:Int)(x:List UInt8):∀es,mput n (.str x) (strM es)=strM (lput n x es)
 |[]=>rfl
 |(k,y)::l=>by
  show(if n=k then(n,A.str x)::strM l else(k,.str y)::mput n (.str x) (strM l))=_
  unfold lput;split
  ·rfl
  ·rw[bj5 n x l];rfl
theorem awm(n:Int):∀es,merase n (strM es)=strM (lerase n es)
 |[]=>rfl
 |(k,y)::l=>by
  show(if n=k then strM l else(k,.str y)::merase n (strM l))=_
  unfold lerase;split
  ·rfl
  ·rw[awm n l];rfl
def Sto.M(s:Sto):Blk:=.map (strM s.es) s.c
def Sto.B(s:Sto):Blk:=.cells 75 [.str s.key,.str s.lin,.int .i64 s.latest,.mp 0,.str s.own,.int .i64 s.left]
theorem Sto.M_loc(s:Sto):s.M.loc 2/\s.M.ren (fun i=>i)=s.M:=by
 have h:s.M.loc 0:=by
  show((strM s.es).all fun e=>e.2.loc 0)=true
  rw[ZC];intro e he;obtain⟨x,hx,rfl⟩:=Yb.1 he;rfl
 exact⟨(Blk.loc0 2 _ h).1,(Blk.loc0 0 _ h).2 _⟩
theorem liftS{P:Program}{G:World->Prop}{f:FuncId}{args:List A}{s s':Sto}{v:A}(hc:ACall P G f (.ptr 1 0::args) ⟨[s.M,s.B],[]⟩ fun v' h'=>v'=v/\h'.b[0]?=some s'.M/\h'.b[1]?=some s'.B)(ha:A.locL 0 args=true)(hv:v.loc 0=true)(l:List Blk)(t:List (TypeId×Nat×Nat)):
  ACall P G f (.ptr 1 0::args) ⟨s.M::s.B::l,t⟩ fun v' h'=>v'=v/\h'=⟨s'.M::s'.B::l,t⟩:=by
 have key:=ACall.lift hc (fun i=>i) (fun a b _ _ e=>e) (by unfold A.locL;rw[(A.locL0 _ args ha).1];rfl)
  (fun x hx=>by
   rcases ZM.1 hx with rfl|hx
   ·exact s.M_loc.1
   ·rw[ZB.1 hx];rfl)
  (fun v' h' ⟨e,h0,h1⟩=>⟨by rw[e];exact(A.loc0 _ v hv).1,fun j x hj hx=>by
   have:j=0\/j=1:=by simp only[Zf,Zp]at hj;omega
   rcases this with rfl|rfl
   ·rw[h0]at hx;injection hx with hx;subst hx;exact s'.M_loc.1
   ·rw[h1]at hx;injection hx with hx;subst hx;rfl⟩)
  (h:=⟨s.M::s.B::l,t⟩) (fun j hj=>by
   have:j=0\/j=1:=by simp only[Zf,Zp]at hj;omega
   rcases this with rfl|rfl
   ·show some s.M=some (s.M.ren fun i=>i);rw[s.M_loc.2]
   ·rfl)
 have e:A.renL (fun i=>i) (.ptr 1 0::args)=.ptr 1 0::args:=by unfold A.renL;rw[(A.locL0 0 args ha).2];rfl
 rw[e]at key;refine key.mono ?_;rintro v' h' ⟨v0,⟨b0,t0⟩,⟨rfl,h0,h1⟩,rfl,rfl⟩;refine⟨(A.loc0 0 _ hv).2 _,?_⟩
 match b0,h0,h1 with
 |x::y::b,h0,h1=>
  simp only[ZQ,ZY,Zb]at h0 h1;subst h0;subst h1;simp only[Zf,Zp,Yd,Yp,setAll,s'.M_loc.2];rfl
namespace Sto
def txt(s:List UInt8):Bool:=s != []&&Str.valid s
def lock(s:Sto)(who:List UInt8)(n:Int):Sto×Int:=
 if(txt who&&decide (1<=n)&&decide (n<=1099511627776))=false then(s,1)
 else if(s.own != []&&s.own !=who)=true then(s,24)
 else({ s with own:=who,left:=n },0)
def holds(s:Sto)(who:List UInt8):Bool:=s.own != []&&s.own==who
def unlock(s:Sto)(who:List UInt8):Sto×Int:=if s.holds who=false then(s,25)else({ s with own:=[],left:=0 },0)
def keep(s:Sto)(st:Sf.St):Sto×Int:=
 if(Sf.encode 2 st).2≠0 then(s,(Sf.encode 2 st).2)
 else if(Seal.enc s.key (IntKind.u64.wrap st.ser) (Sf.encode 2 st).1).2≠0 then(s,(Seal.enc s.key (IntKind.u64.wrap st.ser) (Sf.encode 2 st).1).2)
 else({ s with latest:=st.ser,es:=lerase (IntKind.i64.wrap (st.ser-64)) (lput st.ser (Seal.enc s.key (IntKind.u64.wrap st.ser) (Sf.encode 2 st).1).1 s.es),c:=mclock st.ser (strM s.es) s.c },0)
def write(s:Sto)(who:List UInt8)(st:Sf.St):Sto×Int:=
 if s.holds who=false then(s,25)else if st.lin≠s.lin then(s,23)else if st.ser≠IntKind.i64.wrap (s.latest+1)then(s,22)else s.keep st
def plain(s:Sto)(n:Int):List UInt8×Int:=match lfind n s.es with
 |none=>([],9)
 |some b=>Seal.dec s.key b
def at'(s:Sto)(n:Int):Sf.St×Int:=
 if(s.plain n).2≠0 then(Sf.zero,(s.plain n).2)
 else
  let d:=Sf.decode (s.plain n).1
  if d.2=0 then(d.1,Sf.checkZ d.1)else d
end Sto
end AX
end
end Go.Proofs.YtnffmgmidghfhaaGreatDoor
