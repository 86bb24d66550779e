/- Part of what the proof needs. -/
import Derived.Test.YtdgcbckcameggacGreatDoorMFrJournalReads0
import Derived.Test.YtdgcbckcameggacGreatDoorMFrJournalReadsA
import Derived.Test.YtdgcbckcameggacGreatDoorMFrJournalReadsB
import Derived.Test.YtdgcbckcameggacGreatDoorMFrJournalReadsD
import Derived.Test.YtdgcbckcameggacGreatDoorMFrJournalReadsE
import Derived.Test.YtdgcbckcameggacGreatDoorMFrJournalReadsF
import Derived.Test.YtdgcbckcameggacGreatDoorMFrJournalReadsG
import Derived.Lib.ParseIntB
import Derived.Test.YtdgcbckcameggacGreatDoorShelfP
import Derived.Laws.RangeAny
import Derived.Laws.Runes
import Derived.Lib.OthersKept
import Derived.Deep.LoopGhost
import Derived.BigRegion
import Derived.Below
import Derived.BigQuiet
import Derived.Deep.QuietTactic
import Derived.WalkMore
import Derived.IntWalk
import Derived.Shelf.Slices.Clone
set_option maxHeartbeats 4000000
set_option maxRecDepth 100000
set_option linter.all false
namespace Go.Proofs.YtdgcbckcameggacGreatDoor
section
open Go.Lib
namespace Num
def valA(n:Nat)(s:List UInt8):Nat:=s.foldl (fun n c=>10*n+(c.toNat-48)) n
theorem valA_cons(n:Nat)(c:UInt8)(s:List UInt8):valA n (c::s)=valA (10*n+(c.toNat-48)) s:=by unfold valA;rw[List.foldl_cons]
theorem val_valA(s:List UInt8):val s=valA 0 s:=rfl
theorem valA_ge:∀(s:List UInt8) (n:Nat),n*10^s.length≤valA n s
 |[],n=>by simp[valA]
 |c::s,n=>by
  rw[valA_cons,Zh,Nat.pow_succ];refine Zl ?_ (valA_ge s _);have e:n*(10^s.length*10)=(10*n)*10^s.length:=by
   rw[Nat.mul_comm (10^s.length) 10,←Nat.mul_assoc,Nat.mul_comm n 10]
  rw[e];exact YZ _ (by omega)
theorem valA_le(s:List UInt8)(n:Nat):n≤valA n s:=by
 have h:=valA_ge s n;have h1:1≤10^s.length:=Nat.one_le_pow _ _ (by omega);exact Zl (by simpa using Nat.mul_le_mul_left n h1) h
theorem digB_iff(c:UInt8):digB c=true↔48≤c.toNat∧c.toNat≤57:=by simp[digB]
theorem uintM_digits:∀(l:List UInt8) (acc:Nat),l.all digB=true→parseUintM 18446744073709551615 acc l=if valA acc l≤18446744073709551615 then .ok (valA acc l)else if l=[]then .ok acc else .range
 |[],acc,_=>by simp[parseUintM,valA]
 |c::r,acc,h=>by
  rw[ZC,Zc,digB_iff]at h;have h1:=valA_le r (10*acc+(c.toNat-48));rw[valA_cons];unfold parseUintM;rw[if_pos h.1];split
  ·rw[if_neg (by omega),if_neg (by simp)]
  ·split
   ·rw[if_neg (by omega),if_neg (by simp)]
   ·rw[uintM_digits r _ h.2,Nat.mul_comm acc 10];by_cases hv:valA (10*acc+(c.toNat-48)) r≤18446744073709551615
    ·rw[if_pos hv,if_pos hv]
    ·rw[if_neg hv,if_neg hv,if_neg (show¬(c::r=[]) by simp)];cases r with
     |nil=>
      exfalso
      apply hv;unfold valA;rw[List.foldl_nil];omega
     |cons d q=>rw[if_neg (by simp)]
def body(s:List UInt8):List UInt8:=if s.getD 0 0==45 then s.drop 1 else s
def canonB(s:List UInt8):Bool:=digits (body s)&&!(s.getD 0 0==45&&body s == [48])
theorem digits_long{t:List UInt8}(h:digits t=true)(hl:16<t.length):9007199254740992<val t:=by
 cases t with
 |nil=>simp at hl
 |cons c r=>
  unfold digits at h;rw[Zc,ZS,ZA,Zc,ZC,Zc,digB_iff]at h;obtain⟨⟨h1,h2⟩,h3⟩:=h;rcases h3 with h3|h3
  ·injection h3 with _ h3;subst h3;simp at hl
  ·have h4:c≠48:=by simpa using h3.2
   have h5:c.toNat≠48:=fun e=>h4 (Z9.1 (by simpa using e))
   have h6:=valA_ge r (c.toNat-48);have h7:10^16≤10^r.length:=YB (by omega) (by simp at hl;omega);have h8:1*10^r.length≤(c.toNat-48)*10^r.length:=YZ _ (by omega);have e:val (c::r)=valA (c.toNat-48) r:=by rw[val_valA,valA_cons];simp
   rw[e];have h9:(10:Nat)^16=10000000000000000:=by decide
   omega
theorem parse_form(s:List UInt8):parse s=if canonB s=false then(0,2)else if 9007199254740992<val (body s)then(0,5)else(if s.getD 0 0==45 then -(val (body s):Int)else(val (body s):Int),0):=by
 have e:parse s=if(!digits (body s)||(s.getD 0 0==45&&body s == [48]))=true then(0,2)else if 16<(body s).length then(0,5)else if 9007199254740992<val (body s)then(0,5)else(if s.getD 0 0==45 then -(val (body s):Int)else(val (body s):Int),0):=rfl
 rw[e];unfold canonB;cases hd:digits (body s)
 ·simp
 ·cases hm:(s.getD 0 0==45&&body s == [48])
  ·simp only[ZP,Y6,Zi,if_false,ZL,Bool.and_self,Bool.true_eq_false];split
   ·next hl=>rw[if_pos (digits_long hd hl)]
   ·rfl
  ·simp
theorem parseIntB_canon(s:List UInt8)(h:canonB s=true):
  (val (body s)≤9007199254740992∧parseIntB 64 s=.ok (if s.getD 0 0==45 then -(val (body s):Int)else(val (body s):Int))) ∨
  (9007199254740992<val (body s)∧(parseIntB 64 s=.range∨∃v,parseIntB 64 s=.ok v∧¬(-9007199254740992≤v∧v≤9007199254740992))):=by
 unfold canonB at h;rw[Zc]at h;obtain⟨hd,_⟩:=h;cases s with
 |nil=>simp[body,digits]at hd
 |cons c r=>
  have hne:body (c::r)≠[]:=by
   intro e;rw[e]at hd;simp[digits]at hd
  have hall:(body (c::r)).all digB=true:=by
   unfold digits at hd;rw[Zc]at hd;exact hd.1
  have hneg:((c::r).getD 0 0==45)=decide (c.toNat=45):=by
   show(c==45)=_
   rw[Ye,ZA,Zm];exact⟨fun e=>by rw[e];rfl,fun e=>Z9.1 (by simpa using e)⟩
  have h43:c.toNat≠43:=by
   intro e;have e2:((c::r).getD 0 0==45)=false:=by rw[hneg];simp[e]
   unfold body at hall;rw[e2]at hall;simp only[Zi,if_false,ZC,Zc,digB_iff]at hall;omega
  have hb:(if c.toNat=43∨c.toNat=45 then r else c::r)=body (c::r):=by
   unfold body;rw[hneg];by_cases e:c.toNat=45
   ·simp[e]
   ·simp[e,h43]
  have hu:parseUintB 64 (body (c::r))=if val (body (c::r))≤18446744073709551615 then .ok (val (body (c::r)))else .range:=by
   unfold parseUintB;rw[if_neg hne];have:=uintM_digits _ 0 hall;rw[if_neg hne,←val_valA]at this;exact this
  have hp:parseIntB 64 (c::r)=match parseUintB 64 (body (c::r))with
    |NumEnd.syntax=>NumEnd.syntax
    |.range=> .range
    |.ok u=>if¬c.toNat=45∧2^(64-1)≤u then .range else if c.toNat=45∧2^(64-1)<u then .range else .ok (if c.toNat=45 then -(u:Int)else u):=by
   rw[←hb];rfl
  rw[hp,hu,hneg];have e63:2^(64-1)=9223372036854775808:=by decide
  rw[e63];generalize val (body (c::r))=u;by_cases hm:u≤9007199254740992
  ·refine .inl ⟨hm,?_⟩;rw[if_pos (by omega)];dsimp only;rw[if_neg (by omega),if_neg (by omega)];simp
  ·refine .inr ⟨by omega,?_⟩;by_cases h64:u≤18446744073709551615
   ·rw[if_pos h64];dsimp only;split
    ·exact .inl rfl
    ·split
     ·exact .inl rfl
     ·refine .inr ⟨_,rfl,?_⟩;split<;>omega
   ·rw[if_neg h64];exact .inl rfl
end Num
end
section
open Go.RowKit
open Go.Op (bytesLess)
namespace Num
theorem digB_int(c:UInt8):digB c=(decide (48≤(c.toNat:Int))&&decide ((c.toNat:Int)≤57)):=by
 unfold digB;have e1:decide (48≤c.toNat)=decide (48≤(c.toNat:Int)):=decide_eq_decide.2 (by omega);have e2:decide (c.toNat≤57)=decide ((c.toNat:Int)≤57):=decide_eq_decide.2 (by omega);rw[e1,e2]
theorem all_fail{s:List UInt8}{j:Nat}(hj:j<s.length)(h:digB (s.getD j 0)=false):digits s=false:=by
 have:s.all digB=false:=by
  rw[List.all_eq_false];refine⟨s[j],Zt hj,?_⟩;have e:s.getD j 0=s[j]:=by simp[List.getD,hj]
  rw[e]at h;rw[h];decide
 unfold digits;rw[this];rfl
theorem all_end{s:List UInt8}(h:∀k,k<s.length→digB (s.getD k 0)=true):digits s=(s != []&&(s.getD 0 0 !=48||s.length==1)):=by
 have h1:s.all digB=true:=by
  rw[ZE];intro x hx;obtain⟨j,hj,rfl⟩:=List.getElem_of_mem hx;have:=h j hj;have e:s.getD j 0=s[j]:=by simp[List.getD,hj]
  rwa [e]at this
 unfold digits;rw[h1,Zx]
 match s with
 |[]=>rfl
 |[c]=>
  by_cases e:c=48
  ·subst e;rfl
  ·have e1:(c==48)=false:=by simp[e]
   have e2:([c] == [48])=false:=by simp[e]
   have e3:(c !=48)=true:=by simp[e]
   show([c] == [48]||([c] != []&&c !=48))=([c] != []&&(c !=48||([c].length==1)))
   rw[e2,e3];rfl
 |c::d::r=>simp
end Num
namespace AX
theorem czp(c:UInt8)(n:UInt8):((c.toNat:Int)==(n.toNat:Int))=(c==n):=by
 rw[Ye,ZA,ZA];exact⟨fun e=>Z9.1 (by omega),fun e=>by rw[e]⟩
theorem bk9{P:Program}{G:World→Prop}{f:FuncId}{args:List A}{vs:List Value}{w:World}{b:Bool}(hc:ACall P G f args ⟨[],[]⟩ fun v _=>v=.bool b)(hG:∀w':World,(∀g,g<w.heap.size→w'.heap[g]?=w.heap[g]?)→G w')
  (ha:RepL (Ctx.of w) args vs):Calls P f vs.toArray w fun e w'=>e=.returned (.bool b)∧Below w.heap.size w w':=by
 refine(hc (Ctx.of w) vs (inv_of hG) ha).mono ?_;rintro e w' ⟨C',h',v,cv,rfl,rfl,_,st,hr,rfl⟩;rw[aqn]at hr;subst hr;exact⟨rfl,st.os,st.tape,st.output,st.size,fun g hg=>st.frame g hg rfl fun t ht=>by simp[Ctx.of]at ht⟩
theorem ckp(s:List UInt8)(hl:s.length≤2000000)(h:Hp):AT 170 [.str s] h (.bool (Num.canonB s)):=by
 refine pcall ?_ rfl (by simp[A.pure,A.data]) h;refine fo ?_;obtain⟨R,hR⟩:=Ex (Num.canonB s);rw[hR];unfold Num.canonB Num.body at hR;by_cases hn:s=[]
 ·subst hn;have e0:¬((0:Nat):Int)>0:=by decide
  have e1:¬(0:Int)<((0:Nat):Int):=by decide
  have hR':R=false:=by rw[←hR];rfl
  subst hR';refine azb e0 ?_;refine cz4 ?_;refine azb e1 ?_;exact Fn rfl
 have hpos:(s.length:Int)>0:=by
  have:=YK.2 hn;omega
 have h0:(0:Int)<(s.length:Int):=hpos;obtain⟨c,hc⟩:=Ex (s.getD 0 0);rw[hc]at hR;have e45:((c.toNat:Int)==45)=(c==45):=czp c 45;have hbody:∃t:List UInt8,t=(if c==45 then s.drop 1 else s):=⟨_,rfl⟩;obtain⟨t,ht⟩:=hbody;rw[←ht]at hR;have htl:t.length≤2000000:=by
  rw[ht];split
  ·rw[Zv];omega
  ·exact hl
 have hgr:∀j:Nat,t.getD j 0=t.getD j 0:=fun _=>rfl
 have h1le:(1:Int)≤(s.length:Int):=by omega
 have z1:(0:Int)≤1:=by decide
 have n1:(1:Int).toNat=1:=rfl;have n0:(0:Int).toNat=0:=rfl;have key:∀{G:Prop},((c==45)=true→t=s.drop 1→G)→((c==45)=false→t=s→G)→G:=fun p q=>by
  cases e:c==45
  ·exact q e (by rw[ht,e];rfl)
  ·exact p e (by rw[ht,e];rfl)
 refine key (fun m1 m2=>?_) (fun m1 m2=>?_)
 ·rw[m1,Zx]at hR;have m3:s.drop 1=t:=m2.symm;have e10:((c.toNat:Int)==45)=true:=by rw[e45,m1]
  cases h48:t == [48];rotate_left
  ·rw[h48]at hR;have hR':R=false:=by rw[←hR,ZP,Y2]
   subst hR';refine azb (ai hpos (ai h0 (ai n0 (ai hc (ai e10 (ai h1le (ai z1 (ai n1 (ai m3 h48))))))))) ?_;exact Fn rfl
  rw[h48,ZL,ZY]at hR;refine azb (ai hpos (ai h0 (ai n0 (ai hc (ai e10 (ai h1le (ai z1 (ai n1 (ai m3 h48))))))))) ?_;refine azf (fun mm ts h=>∃(j:Nat),mm=t.length-j∧j≤t.length∧h=⟨[],[]⟩∧(∀k,k<j→Num.digB (t.getD k 0)=true)∧ts 0=.str t∧ts 17=.int .i64 (t.length:Nat)∧ts 18=.int .i64 (j:Nat)) t.length ?_ ?_
  ·exact⟨0,by omega,by omega,rfl,fun k hk=>absurd hk (Nat.not_lt_zero k),by(exact ev0 m3),by(exact ev0 m3),by(exact azq ti)⟩
  rintro mm ts h ⟨j,rfl,hjc,rfl,hok,t0,t17,t18⟩;by_cases hj:j<t.length
  ·have hlt:(j:Int)<(t.length:Int):=by omega
   have hj0:(0:Int)≤(j:Int):=by omega
   have ei:IntKind.i64.wrap ((j:Int)+1)=((j+1:Nat):Int):=by rw[wrap64 (by omega) (by omega)];omega
   obtain⟨b,hb⟩:=Ex (t.getD j 0);have hdg:=Num.digB_int b;obtain⟨x,hx⟩:∃x:Int,(b.toNat:Int)=x:=⟨_,rfl⟩;rw[hx]at hdg;by_cases x1:x<48
   ·have hR':R=false:=by rw[←hR];exact Num.all_fail hj (by rw[hb,hdg,YC (by omega)];rfl)
    subst hR';refine azb (ai t0 (ai t17 (ai t18 (ai hlt (ai hj0 (ai hb (ai hx x1))))))) ?_;exact Fn rfl
   by_cases x2:x>57
   ·have hR':R=false:=by rw[←hR];exact Num.all_fail hj (by rw[hb,hdg,Yd (show 48≤x by omega),YC (by omega)];rfl)
    subst hR';refine azb (ai t0 (ai t17 (ai t18 (ai hlt (ai hj0 (ai hb (ai hx (ai x1 x2)))))))) ?_;exact Fn rfl
   ·refine azb (ai t0 (ai t17 (ai t18 (ai hlt (ai hj0 (ai hb (ai hx (ai x1 (ai x2 ei))))))))) ?_;refine⟨t.length-(j+1),by omega,j+1,rfl,by omega,rfl,fun k hk=>?_,by(exact ev0 t0),by(exact ev0 t17),by(exact ev0 ei)⟩;by_cases e:k=j
    ·rw[e,hb,hdg,Yd (show 48≤x by omega),Yd (show x≤57 by omega)];rfl
    ·exact hok k (by omega)
  ·have hlt:¬((j:Int)<(t.length:Int)):=by omega
   have hje:j=t.length:=by omega
   rw[hje]at hok;have hE:=Num.all_end hok;rw[hR]at hE;cases hnt:t != []
   ·rw[hnt,ZT]at hE;subst hE;refine azb (ai t0 (ai t17 (ai t18 (ai hlt hnt)))) ?_;exact Fn rfl
   rw[hnt,Zx]at hE;have hp2:(0:Int)<(t.length:Int):=by
    have:t≠[]:=by simpa using hnt
    have:=YK.2 this;omega
   obtain⟨b,hb⟩:=Ex (t.getD 0 0);rw[hb]at hE;have e48:((b.toNat:Int)!=48)=(b !=48):=congrArg (!·) (czp b 48);cases hb48:b !=48
   ·rw[hb48,Yr]at hE;rw[hb48]at e48;have el:((t.length:Int)==1)=(t.length==1):=by
     rw[Ye,ZA,ZA];omega
    rw[←hE]at el;refine azb (ai t0 (ai t17 (ai t18 (ai hlt (ai hnt (ai hp2 (ai n0 (ai hb (ai e48 el))))))))) ?_;exact Fn rfl
   ·rw[hb48,YR]at hE;subst hE;rw[hb48]at e48;refine azb (ai t0 (ai t17 (ai t18 (ai hlt (ai hnt (ai hp2 (ai n0 (ai hb e48)))))))) ?_;exact Fn rfl
 ·have e10:((c.toNat:Int)==45)=false:=by rw[e45,m1]
  rw[m1,ZT,ZL,ZY]at hR;have m3:s=t:=m2.symm;refine azb (ai hpos (ai h0 (ai n0 (ai hc e10)))) ?_;refine azf (fun mm ts h=>∃(j:Nat),mm=t.length-j∧j≤t.length∧h=⟨[],[]⟩∧(∀k,k<j→Num.digB (t.getD k 0)=true)∧ts 0=.str t∧ts 17=.int .i64 (t.length:Nat)∧ts 18=.int .i64 (j:Nat)) t.length ?_ ?_
  ·exact⟨0,by omega,by omega,rfl,fun k hk=>absurd hk (Nat.not_lt_zero k),by(exact ev0 m3),by(exact ev0 m3),by(exact azq ti)⟩
  rintro mm ts h ⟨j,rfl,hjc,rfl,hok,t0,t17,t18⟩;by_cases hj:j<t.length
  ·have hlt:(j:Int)<(t.length:Int):=by omega
   have hj0:(0:Int)≤(j:Int):=by omega
   have ei:IntKind.i64.wrap ((j:Int)+1)=((j+1:Nat):Int):=by rw[wrap64 (by omega) (by omega)];omega
   obtain⟨b,hb⟩:=Ex (t.getD j 0);have hdg:=Num.digB_int b;obtain⟨x,hx⟩:∃x:Int,(b.toNat:Int)=x:=⟨_,rfl⟩;rw[hx]at hdg;by_cases x1:x<48
   ·have hR':R=false:=by rw[←hR];exact Num.all_fail hj (by rw[hb,hdg,YC (by omega)];rfl)
    subst hR';refine azb (ai t0 (ai t17 (ai t18 (ai hlt (ai hj0 (ai hb (ai hx x1))))))) ?_;exact Fn rfl
   by_cases x2:x>57
   ·have hR':R=false:=by rw[←hR];exact Num.all_fail hj (by rw[hb,hdg,Yd (show 48≤x by omega),YC (by omega)];rfl)
    subst hR';refine azb (ai t0 (ai t17 (ai t18 (ai hlt (ai hj0 (ai hb (ai hx (ai x1 x2)))))))) ?_;exact Fn rfl
   ·refine azb (ai t0 (ai t17 (ai t18 (ai hlt (ai hj0 (ai hb (ai hx (ai x1 (ai x2 ei))))))))) ?_;refine⟨t.length-(j+1),by omega,j+1,rfl,by omega,rfl,fun k hk=>?_,by(exact ev0 t0),by(exact ev0 t17),by(exact ev0 ei)⟩;by_cases e:k=j
    ·rw[e,hb,hdg,Yd (show 48≤x by omega),Yd (show x≤57 by omega)];rfl
    ·exact hok k (by omega)
  ·have hlt:¬((j:Int)<(t.length:Int)):=by omega
   have hje:j=t.length:=by omega
   rw[hje]at hok;have hE:=Num.all_end hok;rw[hR]at hE;cases hnt:t != []
   ·rw[hnt,ZT]at hE;subst hE;refine azb (ai t0 (ai t17 (ai t18 (ai hlt hnt)))) ?_;exact Fn rfl
   rw[hnt,Zx]at hE;have hp2:(0:Int)<(t.length:Int):=by
    have:t≠[]:=by simpa using hnt
    have:=YK.2 this;omega
   obtain⟨b,hb⟩:=Ex (t.getD 0 0);rw[hb]at hE;have e48:((b.toNat:Int)!=48)=(b !=48):=congrArg (!·) (czp b 48);cases hb48:b !=48
   ·rw[hb48,Yr]at hE;rw[hb48]at e48;have el:((t.length:Int)==1)=(t.length==1):=by
     rw[Ye,ZA,ZA];omega
    rw[←hE]at el;refine azb (ai t0 (ai t17 (ai t18 (ai hlt (ai hnt (ai hp2 (ai n0 (ai hb (ai e48 el))))))))) ?_;exact Fn rfl
   ·rw[hb48,YR]at hE;subst hE;rw[hb48]at e48;refine azb (ai t0 (ai t17 (ai t18 (ai hlt (ai hnt (ai hp2 (ai n0 (ai hb e48)))))))) ?_;exact Fn rfl
end AX
theorem bx5(l:List UInt8)(hl:l.length≤2000000)(w:World)(g:GT w):
  Calls Tryz.prog 139 #[.string ⟨l.toArray⟩] w fun e w'=>e=.returned (.tuple #[.int .i64 (Num.parse l).1,.int .i64 (Num.parse l).2])∧Below w.heap.size w w':=by
 have hc:=AX.bk9 (w:=w) (vs:=[.string ⟨l.toArray⟩]) ((AX.ckp l hl ⟨[],[]⟩).mono fun v h' hv=>hv.1) (AX.bys g) (AX.repL_cons.2 ⟨_,_,rfl,AX.rep_str.2 rfl,AX.repL_nil.2 rfl⟩);have hf:=Num.parse_form l;obtain⟨P1,hP1⟩:=Ex (Num.parse l);rw[hP1]at hf⊢;cases hB:Num.canonB l
 ·rw[hB,if_pos rfl]at hf;subst hf;rw[hB]at hc;go_enter Tryz.func139,Tryz.ntmps139;go_wp2_with fail;refine hc.mono ?_;rintro e w1 ⟨rfl,b1⟩;have B1:=kept b1;clear b1;go_wp2;refine bodyPost_ret (v:=.tuple #[.int .i64 0,.int .i64 2]) (by simp[results,Tryz.results139,go_sem]) rfl ⟨rfl,B1.out⟩
 ·rw[hB,if_neg (by decide)]at hf;rw[hB]at hc;have hsz:(⟨l.toArray⟩:ByteArray).size≤9223372036854775806:=by rw[size_mk];omega
  have hlim:(⟨l.toArray⟩:ByteArray).size≤281474976710656:=by rw[size_mk];omega
  have hsyn:=g.esyn;obtain⟨ev,hev,hev2⟩:=g.erng;have nilne:∀(a b:Value),True:=fun _ _=>AX.ti
  rcases Num.parseIntB_canon l hB with⟨h1,h2⟩|⟨h1,h2|⟨v,h2,h3⟩⟩
  ·rw[if_neg (by omega)]at hf;obtain⟨v,hv⟩:∃v:Int,(if l.getD 0 0==45 then -(Num.val (Num.body l):Int)else(Num.val (Num.body l):Int))=v:=⟨_,rfl⟩;rw[hv]at h2 hf;have hvr:-9007199254740992≤v∧v≤9007199254740992:=by rw[←hv];split<;>omega
   have hp:∀w':World,Calls Tryz.prog 171 #[.string ⟨l.toArray⟩,.int .i64 10,.int .i64 64] w' fun e w2=>e=.returned (.tuple #[.int .i64 v,.nilIface])∧(w2=w'∨∃t,w2=Lib.bytesWorld w' 5 t):=fun w'=>Any.strconv_ParseInt_10_at64_ok (P:=Tryz.prog) Tryz.lays174 ⟨l.toArray⟩ hsz v h2 w'
   have Hnv:=kept (fun w'=>axx v w');rw[Yd hvr]at Hnv;subst hf;have Hp:=kept hp;clear hp hsz hlim hsyn hev hev2 hvr hv h1 h2 hB;go_enter Tryz.func139,Tryz.ntmps139;go_wp2_with fail;refine hc.mono ?_;rintro e w1 ⟨rfl,b1⟩;have B1:=kept b1;clear b1;go_wp2_with fail;(with_reducible refine(Hp.out _).mono ?_);rintro e w2 ⟨rfl,hw⟩
   have B2:Kept (Below w.heap.size w w2):=kept (by
    rcases hw with rfl|⟨t,rfl⟩
    ·exact B1.out
    ·exact bthen B1.out (Lib.bytesWorld_below _ _ _))
   clear hw;go_wp2_with fail;(with_reducible refine(Hnv.out _).mono ?_);rintro e w3 ⟨rfl,rfl⟩
   go_wp2;refine bodyPost_ret (v:=.tuple #[.int .i64 v,.int .i64 0]) (by simp[results,Tryz.results139,go_sem]) rfl ⟨rfl,B2.out⟩
  ·rw[if_pos (by omega)]at hf;have hp:∀w':World,w'.cell? ⟨4,0,none⟩=some ev→Calls Tryz.prog 171 #[.string ⟨l.toArray⟩,.int .i64 10,.int .i64 64] w' fun e w2=>(∃a b c,e=.returned (.tuple #[.int .i64 a,.iface b c]))∧Below w'.heap.size w' w2:=fun w' hv=>(Any.strconv_ParseInt_10_at64_range (P:=Tryz.prog) Tryz.lays174 ⟨l.toArray⟩ hlim h2 ev w' hv hev2).mono fun e w2 ⟨N,q1,q2,q3,q4⟩=>⟨⟨_,_,_,q1⟩,q4⟩
   subst hf;have Hp:=kept hp;have Hev:=kept hev;clear hp hsz hlim hsyn hev hev2 h1 h2 hB;go_enter Tryz.func139,Tryz.ntmps139;go_wp2_with fail;refine hc.mono ?_;rintro e w1 ⟨rfl,b1⟩;have B1:=kept b1;have Hev1:=kept (show w1.cell? ⟨4,0,none⟩=some ev from by rw[←Hev.out];simp only[World.cell?,b1.block _ (ax4 Hev.out).2]);clear b1;go_wp2_with fail;(with_reducible refine(Hp.out _ Hev1.out).mono ?_);rintro e w2 ⟨⟨a,b,c,rfl⟩,b2⟩
   have B2:Kept (Below w.heap.size w w2):=kept (bthen B1.out b2);clear b2;go_wp2;refine bodyPost_ret (v:=.tuple #[.int .i64 0,.int .i64 5]) (by simp[results,Tryz.results139,go_sem]) rfl ⟨rfl,B2.out⟩
  ·rw[if_pos (by omega)]at hf;have hp:∀w':World,Calls Tryz.prog 171 #[.string ⟨l.toArray⟩,.int .i64 10,.int .i64 64] w' fun e w2=>e=.returned (.tuple #[.int .i64 v,.nilIface])∧(w2=w'∨∃t,w2=Lib.bytesWorld w' 5 t):=fun w'=>Any.strconv_ParseInt_10_at64_ok (P:=Tryz.prog) Tryz.lays174 ⟨l.toArray⟩ hsz v h2 w'
   have Hnv:=kept (fun w'=>axx v w');rw[YC h3]at Hnv;subst hf;have Hp:=kept hp;clear hp hsz hlim hsyn hev hev2 h3 h1 h2 hB;go_enter Tryz.func139,Tryz.ntmps139;go_wp2_with fail;refine hc.mono ?_;rintro e w1 ⟨rfl,b1⟩;have B1:=kept b1;clear b1;go_wp2_with fail;(with_reducible refine(Hp.out _).mono ?_);rintro e w2 ⟨rfl,hw⟩
   have B2:Kept (Below w.heap.size w w2):=kept (by
    rcases hw with rfl|⟨t,rfl⟩
    ·exact B1.out
    ·exact bthen B1.out (Lib.bytesWorld_below _ _ _))
   clear hw;go_wp2_with fail;(with_reducible refine(Hnv.out _).mono ?_);rintro e w3 ⟨rfl,rfl⟩
   go_wp2;refine bodyPost_ret (v:=.tuple #[.int .i64 0,.int .i64 5]) (by simp[results,Tryz.results139,go_sem]) rfl ⟨rfl,B2.out⟩
theorem AX.a_numParse(s:List UInt8)(hl:s.length≤2000000)(h:AX.Hp):AX.AT 139 [.str s] h (.tup [.int .i64 (Num.parse s).1,.int .i64 (Num.parse s).2]):=
 AX.azo (AX.aqu AX.aqt) (fun w hg=>bx5 s hl w hg) (fun C=>AX.rep_tup.2 ⟨_,rfl,AX.repL_cons.2 ⟨_,_,rfl,AX.rep_int.2 rfl,AX.repL_cons.2 ⟨_,_,rfl,AX.rep_int.2 rfl,AX.repL_nil.2 rfl⟩⟩⟩) h
end
section
open Go.RowKit Go.Lib
def stops:ByteArray:=⟨#[46,91]⟩
theorem ay0(w:World)(s:ByteArray)(p:Nat):Below w.heap.size w (w.iter s p):=by
 refine⟨rfl,rfl,rfl,?_,fun g hg=>?_⟩
 ·show w.heap.size≤(w.heap.push (Obj.stringIter s p)).size
  simp
 ·show(w.heap.push (Obj.stringIter s p))[g]?=_
  rw[Array.getElem?_push,if_neg (by omega)]
theorem bzj(w:World):Calls Tryz.prog 193 #[.string stops,.int .i32 65533] w fun e w'=>e=.returned (.int .i64 (-1))∧Below w.heap.size w w':=by
 go_enter Tryz.func193,Tryz.ntmps193;have hsz:stops.size=2:=rfl;go_wp2_with fail
 go_loopg [5,6] 2 (fun g _ _ wx=>∃i:Nat,i+g=2∧wx=w.iter stops i)
 case atStart=>exact⟨0,by omega,rfl⟩
 case round=>
  obtain⟨i,hig,rfl⟩:=hrel;cases gk with
  |zero=>
   obtain rfl:i=2:=by omega
   have hnx:=fun ty=>run_next_end (P:=Tryz.prog) w stops 2 ty (by decide)
   go_wp2
   go_ret
   exact⟨rfl,ay0 w stops 2⟩
  |succ g=>
   have hi:i=0∨i=1:=by omega
   rcases hi with rfl|rfl
   ·have hnx:=fun ty=>run_next_ascii (P:=Tryz.prog) w stops 0 ty (by decide) (by decide)
    have e0:((stops[0]'(by decide)).toNat:Int)=46:=rfl;rw[e0]at hnx;go_wp2
    go_roundg g
    case measure=>omega
    case rel=>exact⟨1,by omega,rfl⟩
   ·have hnx:=fun ty=>run_next_ascii (P:=Tryz.prog) w stops 1 ty (by decide) (by decide)
    have e0:((stops[1]'(by decide)).toNat:Int)=91:=rfl;rw[e0]at hnx;go_wp2
    go_roundg g
    case measure=>omega
    case rel=>exact⟨2,by omega,rfl⟩
theorem bxj(r:Int)(h0:128≤r)(h1:r≤2147483647)(hr:r≠65533)(w:World):Calls Tryz.prog 193 #[.string stops,.int .i32 r] w fun e w'=>e=.returned (.int .i64 (-1))∧Below w.heap.size w w':=by
 go_enter Tryz.func193,Tryz.ntmps193;have hsz:stops.size=2:=rfl;have c1:decide (0≤r)=true:=Yd (by omega);have c2:decide (r<128)=false:=YC (by omega);have c3:(r==65533)=false:=Zq.2 hr;have Hv:=kept (fun w=>Tryz.utf8_ValidRune r w);cases hv:Lib.validRune r
 ·go_wp2_with fail;(with_reducible refine(Hv.out _).mono ?_);rintro e w1 ⟨rfl,rfl⟩
  rw[hv];go_wp2
  go_ret
  exact⟨rfl,Below.refl _ _⟩
 ·have hval:Utf8.valid r=true:=by rw[Go.validRune_eq];unfold Lib.validRune at hv;unfold Go.validRune;exact hv
  obtain⟨f1,f2,f3⟩:=encode_facts r hval h0;go_wp2_with fail;(with_reducible refine(Hv.out _).mono ?_);rintro e w1 ⟨rfl,rfl⟩
  rw[hv];have e1:IntKind.i64.wrap (((Utf8.encode r).size:Int)-1)=(((Utf8.encode r).size-1:Nat):Int):=by rw[show((Utf8.encode r).size:Int)-1=(((Utf8.encode r).size-1:Nat):Int) by omega];exact Go.IntWalk.i64_in _ ⟨by omega,by omega⟩
  have hcv:=fun(w:World)=>run_convert_int_string (P:=Tryz.prog) w 21 9 .i32 r rfl rfl
  go_wp2_with fail;apply wp_scope_straight;go_wp2
  go_loopg [9,10,11,12] 1 (fun g v9 v10 v11 v12 wx=>wx=w1∧v9=.int .i64 (((Utf8.encode r).size-1:Nat):Int))
  case atStart=>exact⟨rfl,rfl⟩
  case round=>
   obtain⟨rfl,rfl⟩:=hrel;by_cases h2:(Utf8.encode r).size=2
   ·have e2:(Utf8.encode r).size-1=1:=by omega
    obtain⟨x,hx⟩:∃x:UInt8,(Utf8.encode r)[1]'(by omega)=x:=⟨_,rfl⟩;have hx1:128≤x.toNat:=by
     have:=f3 (by omega);simp only[e2]at this;rw[hx]at this;exact this
    have hi1:(1:Nat)<(Utf8.encode r).size:=by omega
    have hs1:(stops[1]'(by decide)).toNat=91:=rfl;have hne:((91:Int)!=(x.toNat:Int))=true:=by simp;omega
    have e3:(((Utf8.encode r).size-1:Nat):Int)=1:=by omega
    have hi2:(1:Int)<((Utf8.encode r).size:Int):=by omega
    rw[e3];go_wp2;apply wp_scope_straight;go_wp2_with fail
    go_region
    have hw2:IntKind.i64.wrap ((1:Int)+1)=2:=rfl;have hib0:Lib.indexByte [] x=-1:=rfl;go_wp2_with fail
    go_region_with ((with_reducible refine(Tryz.strings_IndexByte _ _ _).mono ?_);rintro e2 w2 ⟨rfl,rfl⟩)
    all_goals
     go_wp2;rw[Exit.noGoto_ret];go_wp2;rw[Exit.noGoto_ret];go_wp2
     go_ret
     first|exact⟨rfl,below_drewN (Below.refl _ _) 2⟩|exact⟨rfl,below_drewN _ 2⟩
   ·have hlt:¬((((Utf8.encode r).size-1:Nat):Int)<(stops.size:Int)):=by omega
    go_wp2
    go_ret
    exact⟨rfl,Below.refl _ _⟩
theorem avy(s:ByteArray)(i j:Nat)(h1:1≤j)(hj:j<(Utf8.decode s i).2):i+j<s.size∧128≤(s.get! (i+j)).toNat:=by
 unfold Utf8.decode at hj;dsimp only at hj;split at hj
 ·simp only at hj;omega
 ·split at hj
  ·next h=>
   simp only[Zc,Zm,ZA]at h;split at hj
   ·simp only at hj;obtain rfl:j=1:=by omega
    omega
   ·simp only at hj;omega
  ·split at hj
   ·next h=>
    simp only[Zc,Zm,ZA]at h;split at hj
    ·simp only at hj;have:j=1∨j=2:=by omega
     rcases this with rfl|rfl<;>omega
    ·simp only at hj;omega
   ·split at hj
    ·next h=>
     simp only[Zc,Zm,ZA]at h;split at hj
     ·simp only at hj;have:j=1∨j=2∨j=3:=by omega
      rcases this with rfl|rfl|rfl<;>omega
     ·simp only at hj;omega
    ·simp only at hj;omega
theorem bqb(r:Int)(h0:128≤r)(h1:r≤2147483647)(w:World):Calls Tryz.prog 193 #[.string stops,.int .i32 r] w fun e w'=>e=.returned (.int .i64 (-1))∧Below w.heap.size w w':=by
 by_cases h:r=65533
 ·subst h;exact bzj w
 ·exact bxj r h0 h1 h w
theorem bwy{s:ByteArray}{i:Nat}(hi:i<s.size)(hx:128≤(s[i]'hi).toNat)(h:Lib.NoAny s.data.toList stops.data.toList i):Lib.NoAny s.data.toList stops.data.toList (i+(Utf8.decode s i).2)∧i+(Utf8.decode s i).2≤s.size∧1≤(Utf8.decode s i).2:=by
 have hd:=(decode_high s i hi hx).2;refine⟨fun j b hj hb=>?_,?_,hd⟩
 ·by_cases hji:j<i
  ·exact h j b hji hb
  ·have hjs:j<s.size:=by
    have:=(Zd.1 hb).1;simpa using this
   have hb':b=s[j]'hjs:=by
    have:=Lib.data_getElem? s j hjs;rw[this]at hb;exact(Zaq hb).symm
   have h128:128≤b.toNat:=by
    by_cases hji2:j=i
    ·subst hji2;rw[hb'];exact hx
    ·have:=(avy s i (j-i) (by omega) (by omega)).2;rw[show i+(j-i)=j by omega]at this;rw[hb'];have e:s.get! j=s[j]'hjs:=get_at s j hjs;rw[e]at this;exact this
   have hne:b≠46∧b≠91:=by
    constructor
    ·rintro rfl;exact absurd h128 (by decide)
    ·rintro rfl;exact absurd h128 (by decide)
   show[(46:UInt8),91].contains b=false
   simp[hne.1,hne.2]
 ·by_cases h1:(Utf8.decode s i).2=1
  ·omega
  ·have:=(avy s i ((Utf8.decode s i).2-1) (by omega) (by omega)).1;omega
theorem aw8(s:ByteArray)(w:World)(h8:s.size≤8):Calls Tryz.prog 177 #[.string s,.string stops] w fun e w'=>e=.returned (.int .i64 (Lib.indexAny s.data.toList stops.data.toList))∧Below w.heap.size w w':=by
 have hss:stops.size=2:=rfl;have hemp:stops.toList.isEmpty=false:=by rw[Lib.toList_data];rfl
 have hn1:((stops.size:Int)==1)=false:=rfl;have h8z:decide ((8:Int)<(s.size:Int))=false:=YC (by omega);go_enter Tryz.func177,Tryz.ntmps177;go_wp2_with fail;(with_reducible refine(Tryz.strings_shouldUseASCIISet _ _).mono ?_);rintro e w1 ⟨rfl,rfl⟩
 rw[h8z];go_wp2_with fail
 go_loopg [9,10] s.size (fun g _ _ wx=>∃i:Nat,s.size≤i+g∧i≤s.size∧wx.heap[w1.heap.size]?=some (.stringIter s i)∧Below w1.heap.size w1 wx∧Lib.NoAny s.data.toList stops.data.toList i)
 case atStart=>exact⟨0,by omega,by omega,World.iter_heap _ _ _,ay0 _ _ _,Lib.NoAny.zero _ _⟩
 case round=>
  obtain⟨i,hig,his,hit,hbel,hno⟩:=hrel;by_cases hi:i<s.size
  ·cases gk with
   |zero=>omega
   |succ g=>
    obtain⟨x,hx⟩:∃x:UInt8,s[i]'hi=x:=⟨_,rfl⟩;have hxl:s.data.toList[i]?=some x:=by rw[←hx];exact Lib.data_getElem? s i hi
    by_cases ha:x.toNat<128
    ·have hnx:=fun ty=>run_next_ascii_at (P:=Tryz.prog) wr w1.heap.size s i ty hit hi (by rw[hx];exact ha)
     rw[hx]at hnx;have Hit:=kept (iterAt_heap wr w1.heap.size s i (i+1) hit);have Hbel:=kept (below_iterAt hbel (Zf _) s (i+1));have Hno:=kept hno;have Hxl:=kept hxl;have hcon:=Lib.contains_iff_indexByte stops.data.toList x;have hback:((x.toNat:Int)).toNat.toUInt8=x:=by simp
     have Hx:=kept hx;clear hit hbel hno hxl hx;cases hin:stops.data.toList.contains x
     ·rw[hin]at hcon;have hlt:¬((0:Int)≤Lib.indexByte stops.data.toList x):=of_decide_eq_false hcon.symm;clear hcon;go_wp2_with fail;(with_reducible refine(Tryz.strings_IndexRune_ascii _ _ _ (by omega) (by omega)).mono ?_);rintro e w2 ⟨rfl,rfl⟩
      rw[hback];go_wp2
      go_roundg g
      case measure=>omega
      case rel=>exact⟨i+1,by omega,by omega,Hit.out,Hbel.out,Hno.out.succ Hxl.out hin⟩
     ·rw[hin]at hcon;have hge:(0:Int)≤Lib.indexByte stops.data.toList x:=of_decide_eq_true hcon.symm;clear hcon;go_wp2_with fail;(with_reducible refine(Tryz.strings_IndexRune_ascii _ _ _ (by omega) (by omega)).mono ?_);rintro e w2 ⟨rfl,rfl⟩
      rw[hback];go_wp2
      go_ret
      exact⟨by rw[Lib.indexAny_hit Hno.out Hxl.out hin];rfl,Hbel.out⟩
    ·have hx128:128≤(s[i]'hi).toNat:=by rw[hx];omega
     obtain⟨k1,k2,k3⟩:=bwy hi hx128 hno;have d1:=(decode_high s i hi hx128).1;have d2:=decode_le s i;have hnx:=fun ty=>run_next_any_at (P:=Tryz.prog) wr w1.heap.size s i ty hit hi
     obtain⟨⟨c,d⟩,hcd⟩:=Ex (Utf8.decode s i);rw[hcd]at k1 k2 k3 d1 d2 hnx;dsimp only at k1 k2 k3 d1 d2 hnx;have Hit:=kept (iterAt_heap wr w1.heap.size s i (i+d) hit);have Hbel:=kept (below_iterAt hbel (Zf _) s (i+d));have K1:=kept k1;clear hit hbel hno hxl hx hx128 hcd k1;go_wp2_with fail;(with_reducible refine(bqb _ (by omega) (by omega) _).mono ?_);rintro e w2 ⟨rfl,b2⟩
     have hit2:w2.heap[w1.heap.size]?=some (.stringIter s (i+d)):=by rw[b2.block _ (Z0.1 Hit.out).1];exact Hit.out
     have Hit2:=kept hit2;have Hbel2:=kept (Hbel.out.trans (b2.mono (by have:=Hbel.out.size;exact this)));clear hit2 b2;go_wp2
     go_roundg g
     case measure=>omega
     case rel=>exact⟨i+d,by omega,by omega,Hit2.out,Hbel2.out,K1.out⟩
  ·obtain rfl:i=s.size:=by omega
   have hnx:=fun ty=>run_next_end_at (P:=Tryz.prog) wr w1.heap.size s s.size ty hit (by omega)
   have Hno:=kept hno;have Hbel:=kept hbel;clear hno hbel;go_wp2
   go_ret
   exact⟨by rw[Lib.indexAny_none (by rw[←Lib.size_eq];exact Hno.out)];rfl,Hbel.out⟩
set_option maxHeartbeats 8000000 in
theorem bzb(s:ByteArray)(h8:8<s.size)(hs:s.size≤9223372036854775807)(w:World):Calls Tryz.prog 177 #[.string s,.string stops] w fun e w'=>e=.returned (.int .i64 (Lib.indexAny s.data.toList stops.data.toList))∧Below w.heap.size w w':=by
 have hz:=zero_of_info (P:=Tryz.prog) (t:=249) (n:=256) (v:=.agg (Array.replicate 256 (.bool false))) (by kernel_rfl);obtain⟨cells,hcells⟩:=Ex (Lib.setCells stops.data.toList);have hasc:∀(j:Nat) b,stops.data.toList[j]?=some b→b.toNat<128:=by
  intro j b hb
  match j,hb with
  |0,hb=>cases hb;decide
  |1,hb=>cases hb;decide
  |j+2,hb=>simp[stops]at hb
 have Hset:=kept (Tryz.strings_makeASCIISet hz.1 stops w (by decide) hasc);obtain⟨W,hW⟩:=Ex ((w.alloc (.cells cells 249)).alloc (.cells cells 249));have hbel:Below w.heap.size w W:=by
  rw[←hW];exact((Below.refl _ _).alloc (Zf _) _).alloc (((Below.refl w.heap.size w).alloc (Zf _) (.cells cells 249)).size) _
 have hcell:∀x:UInt8,W.cell? ⟨w.heap.size+1,x.toNat,none⟩=some (.bool (stops.data.toList.contains x)):=fun x=>by
  rw[←hW,World.cell?_alloc_at _ _ _ _ (by simp),←hcells,Lib.setCells_at]
 have hst:(storeCells ⟨w.heap.size+1,0,none⟩ cells.toList 0).run Tryz.prog ((w.alloc (.cells cells 249)).alloc (.cells (Array.replicate 256 (.bool false)) 249))=.ok () W:=by
  have:=run_storeCells_new (P:=Tryz.prog) (w.alloc (.cells cells 249)) 249 (Array.replicate 256 (.bool false)) cells (by rw[←hcells,Lib.setCells_size];exact hz.2) (by rw[←hcells,Lib.setCells_size,Array.size_replicate]) (by rw[←hcells];exact Lib.setCells_one _);rw[hW]at this;simpa using this
 have hemp:stops.toList.isEmpty=false:=by rw[Lib.toList_data];rfl
 have hn1:((stops.size:Int)==1)=false:=rfl;have h8z:decide ((8:Int)<(s.size:Int))=true:=Yd (by omega);have HC:=kept hcell;have HB:=kept hbel;clear hcell hbel;rw[hcells]at Hset;go_enter Tryz.func177,Tryz.ntmps177;go_wp2_with fail;(with_reducible refine(Tryz.strings_shouldUseASCIISet _ _).mono ?_);rintro e w1 ⟨rfl,rfl⟩
 rw[h8z];go_wp2_with fail;(with_reducible refine Hset.out.mono ?_);rintro e w1 ⟨rfl,rfl⟩
 have hcsz:cells.size=256:=by rw[←hcells];exact Lib.setCells_size _
 have e0:Tryz.zeroCells249=Array.replicate 256 (.bool false):=by kernel_rfl
 go_wp2
 go_loopg [8] s.size (fun g s8 wx=>∃i:Nat,i+g=s.size∧s8=.int .i64 i∧wx=W∧Lib.NoAny s.data.toList stops.data.toList i)
 case atStart=>exact⟨0,by omega,rfl,rfl,Lib.NoAny.zero _ _⟩
 case round=>
  obtain⟨i,hig,rfl,rfl,hno⟩:=hrel;have HN:=kept hno;clear hno;cases gk with
  |zero=>
   obtain rfl:i=s.size:=by omega
   have hiz:¬((s.size:Int)<(s.size:Int)):=by omega
   go_wp2
   go_ret
   exact⟨by rw[Lib.indexAny_none (by rw[←Lib.size_eq];exact HN.out)];rfl,HB.out⟩
  |succ g=>
   have hi:i<s.size:=by omega
   have hiz:(i:Int)<(s.size:Int):=by omega
   have hw:IntKind.i64.wrap ((i:Int)+1)=(i:Int)+1:=Go.IntWalk.i64_in _ ⟨by omega,by omega⟩;obtain⟨x,hx⟩:∃x:UInt8,s[i]'hi=x:=⟨_,rfl⟩;have hxl:s.data.toList[i]?=some x:=by rw[←hx];exact Lib.data_getElem? s i hi
   have Hxl:=kept hxl;clear hxl;have hcx:=HC.out x;cases hin:stops.data.toList.contains x<;>rw[hin]at hcx
   ·go_wp2_with fail;(with_reducible refine(Tryz.asciiSet_contains _ x _ _ hcx).mono ?_);rintro e w2 ⟨rfl,rfl⟩
    go_wp2
    go_roundg g
    case measure=>omega
    case rel=>exact⟨i+1,by omega,by first|rfl|simp,rfl,HN.out.succ Hxl.out hin⟩
   ·go_wp2_with fail;(with_reducible refine(Tryz.asciiSet_contains _ x _ _ hcx).mono ?_);rintro e w2 ⟨rfl,rfl⟩
    go_wp2
    go_ret
    exact⟨by rw[Lib.indexAny_hit HN.out Hxl.out hin];rfl,HB.out⟩
theorem bqj(s:ByteArray)(hs:s.size≤9223372036854775807)(w:World):Calls Tryz.prog 177 #[.string s,.string stops] w fun e w'=>e=.returned (.int .i64 (Lib.indexAny s.data.toList stops.data.toList))∧Below w.heap.size w w':=by
 by_cases h8:s.size≤8
 ·exact aw8 s w h8
 ·exact bzb s (by omega) hs w
end
section
open Go.RowKit
namespace Adr
def first(k:Nat)(c:UInt8):Bool:=if k=0 then letter c else wordB c
def idOk(j:Nat)(s:List UInt8):Prop:=∀k,k<j→first k (s.getD k 0)=true
theorem wordB_of_letter{c:UInt8}(h:letter c=true):wordB c=true:=by unfold wordB;rw[h];rfl
theorem ident_fail{s:List UInt8}{j:Nat}(hj:j<s.length)(h:first j (s.getD j 0)=false):ident s=false:=by
 unfold ident;unfold first at h;split at h
 ·next e=>
  subst e;rw[h];simp
 ·have:s.all wordB=false:=by
   rw[List.all_eq_false];refine⟨s[j],Zt hj,?_⟩;have e:s.getD j 0=s[j]:=by simp[List.getD,hj]
   rw[e]at h;rw[h];decide
  simp[this]
theorem ident_end{s:List UInt8}(h:idOk s.length s):ident s=(s != []&&decide (s.length≤64)):=by
 unfold ident;cases s with
 |nil=>rfl
 |cons c t=>
  have h0:letter ((c::t).getD 0 0)=true:=by
   have:=h 0 (by simp);unfold first at this
   rwa [if_pos rfl]at this
  have h1:(c::t).all wordB=true:=by
   rw[ZE];intro x hx;obtain⟨j,hj,rfl⟩:=List.getElem_of_mem hx;have:=h j hj;have e:(c::t).getD j 0=(c::t)[j]:=by rw[ZX,Zn hj];rfl
   unfold first at this;rw[e]at this;split at this
   ·exact wordB_of_letter this
   ·exact this
  rw[h0,h1];simp
theorem or_letter:∀n:Fin 256,letter (UInt8.ofNat n.val)=!((((n.val:Nat):Int)!=95)&&(decide (bits .or .u8 ((n.val:Nat):Int) 32<97)||decide (bits .or .u8 ((n.val:Nat):Int) 32>122))):=by decide +kernel
theorem letter_or(c:UInt8):letter c=!(((c.toNat:Int)!=95)&&(decide (bits .or .u8 (c.toNat:Int) 32<97)||decide (bits .or .u8 (c.toNat:Int) 32>122))):=by
 have:=or_letter ⟨c.toNat,c.toNat_lt⟩;simpa using this
end Adr
namespace AX
theorem ak1(s:List UInt8)(hl:s.length≤2000000)(h:Hp):AT 106 [.str s] h (.bool (Adr.ident s)):=by
 refine pcall ?_ rfl (by simp[A.pure,A.data]) h;refine fo ?_;refine azb ti ?_;refine azf (fun mm ts h=>∃(j:Nat),mm=s.length-j∧j≤s.length∧h=⟨[],[]⟩∧Adr.idOk j s∧ts 0=.str s∧ts 6=.int .i64 (s.length:Nat)∧ts 7=.int .i64 (j:Nat)) s.length ?_ ?_
 ·exact⟨0,by omega,by omega,rfl,fun k hk=>absurd hk (Nat.not_lt_zero k),by(exact ev0 ti),by(exact ev0 ti),by(exact azq ti)⟩
 rintro mm ts h ⟨j,rfl,hjc,rfl,hok,t0,t6,t7⟩;by_cases hj:j<s.length
 ·have hlt:(j:Int)<(s.length:Int):=by omega
  have hj0:(0:Int)≤(j:Int):=by omega
  have ei:IntKind.i64.wrap ((j:Int)+1)=((j+1:Nat):Int):=by rw[wrap64 (by omega) (by omega)];omega
  obtain⟨c,hc⟩:=Ex (s.getD j 0)
  have hfl:Adr.letter c=false→j=0∨Adr.wordB c=false→Adr.ident s=false:=fun h1 h2=>Adr.ident_fail hj (by
   rw[hc];unfold Adr.first;rcases h2 with h2|h2
   ·rw[if_pos h2];exact h1
   ·split
    ·exact h1
    ·exact h2)
  have hgo:Adr.first j c=true→Adr.idOk (j+1) s:=fun h1 k hk=>by
   by_cases e:k=j
   ·rw[e,hc];exact h1
   ·exact hok k (by omega)
  have hlo:=Adr.letter_or c;have hdg:=Num.digB_int c;have hwb:Adr.wordB c=(Adr.letter c||Num.digB c):=rfl;obtain⟨x,hx⟩:∃x:Int,(c.toNat:Int)=x:=⟨_,rfl⟩;rw[hx]at hlo hdg;obtain⟨y,hy⟩:∃y:Int,bits .or .u8 x 32=y:=⟨_,rfl⟩;rw[hy]at hlo;have next:Adr.first j c=true→∃m',m'<s.length-j∧∃(j':Nat),m'=s.length-j'∧j'≤s.length∧Adr.idOk j' s∧j'=j+1:=fun h1=>⟨s.length-(j+1),by omega,j+1,rfl,by omega,hgo h1,rfl⟩
  by_cases h95:x=95
  ·have e1:(x !=95)=false:=by simp[h95]
   have hL:Adr.letter c=true:=by rw[hlo,e1];rfl
   refine azb (ai t0 (ai t6 (ai t7 (ai hlt (ai hj0 (ai hc (ai hx (ai hy (ai e1 ei))))))))) ?_;exact⟨s.length-(j+1),by omega,j+1,rfl,by omega,rfl,hgo (by unfold Adr.first;split;exact hL;rw[hwb,hL];rfl),by(exact ev0 t0),by(exact ev0 t6),by(exact ev0 ei)⟩
  have e1:(x !=95)=true:=by simp[h95]
  by_cases h97:y<97∨y>122
  rotate_left
  ·have e2:¬y<97:=by omega
   have e3:¬y>122:=by omega
   have hL:Adr.letter c=true:=by rw[hlo,e1,YC e2,YC e3];rfl
   refine azb (ai t0 (ai t6 (ai t7 (ai hlt (ai hj0 (ai hc (ai hx (ai hy (ai e1 (ai e2 (ai e3 ei))))))))))) ?_;exact⟨s.length-(j+1),by omega,j+1,rfl,by omega,rfl,hgo (by unfold Adr.first;split;exact hL;rw[hwb,hL];rfl),by(exact ev0 t0),by(exact ev0 t6),by(exact ev0 ei)⟩
  have hL:Adr.letter c=false:=by
   rw[hlo,e1];rcases h97 with h97|h97
   ·rw[Yd h97];rfl
   ·rw[Yd h97,Bool.or_true];rfl
  have fail:(j=0∨Adr.wordB c=false)→Adr.ident s=false:=hfl hL;have e23:y<97∨(¬y<97∧y>122):=by omega
  by_cases hz:j=0
  ·have e4:((j:Int)==0)=true:=by simp[hz]
   have hF:=fail (.inl hz);rcases e23 with e2|⟨e2,e3⟩
   ·refine azb (ai t0 (ai t6 (ai t7 (ai hlt (ai hj0 (ai hc (ai hx (ai hy (ai e1 (ai e2 e4)))))))))) ?_;exact⟨_,le_refl _,by rw[hF];rfl⟩
   ·refine azb (ai t0 (ai t6 (ai t7 (ai hlt (ai hj0 (ai hc (ai hx (ai hy (ai e1 (ai e2 (ai e3 e4))))))))))) ?_;exact⟨_,le_refl _,by rw[hF];rfl⟩
  have e4:((j:Int)==0)=false:=by simp;omega
  by_cases hd:48≤x∧x≤57
  ·have e5:¬x<48:=by omega
   have e6:¬x>57:=by omega
   have hW:Adr.wordB c=true:=by rw[hwb,hdg,Yd hd.1,Yd hd.2,hL];rfl
   have hfst:Adr.first j c=true:=by unfold Adr.first;rw[if_neg hz];exact hW
   rcases e23 with e2|⟨e2,e3⟩
   ·refine azb (ai t0 (ai t6 (ai t7 (ai hlt (ai hj0 (ai hc (ai hx (ai hy (ai e1 (ai e2 (ai e4 (ai e5 (ai e6 ei))))))))))))) ?_;exact⟨s.length-(j+1),by omega,j+1,rfl,by omega,rfl,hgo hfst,by(exact ev0 t0),by(exact ev0 t6),by(exact ev0 ei)⟩
   ·refine azb (ai t0 (ai t6 (ai t7 (ai hlt (ai hj0 (ai hc (ai hx (ai hy (ai e1 (ai e2 (ai e3 (ai e4 (ai e5 (ai e6 ei)))))))))))))) ?_;exact⟨s.length-(j+1),by omega,j+1,rfl,by omega,rfl,hgo hfst,by(exact ev0 t0),by(exact ev0 t6),by(exact ev0 ei)⟩
  ·have hD:Num.digB c=false:=by
    rw[hdg];by_cases a:48≤x
    ·rw[Yd a,YC (by omega)];rfl
    ·rw[YC a];rfl
   have hF:=fail (.inr (by rw[hwb,hL,hD];rfl));have e56:x<48∨(¬x<48∧x>57):=by omega
   rcases e23 with e2|⟨e2,e3⟩
   ·rcases e56 with e5|⟨e5,e6⟩
    ·refine azb (ai t0 (ai t6 (ai t7 (ai hlt (ai hj0 (ai hc (ai hx (ai hy (ai e1 (ai e2 (ai e4 e5))))))))))) ?_;exact⟨_,le_refl _,by rw[hF];rfl⟩
    ·refine azb (ai t0 (ai t6 (ai t7 (ai hlt (ai hj0 (ai hc (ai hx (ai hy (ai e1 (ai e2 (ai e4 (ai e5 e6)))))))))))) ?_;exact⟨_,le_refl _,by rw[hF];rfl⟩
   ·rcases e56 with e5|⟨e5,e6⟩
    ·refine azb (ai t0 (ai t6 (ai t7 (ai hlt (ai hj0 (ai hc (ai hx (ai hy (ai e1 (ai e2 (ai e3 (ai e4 e5)))))))))))) ?_;exact⟨_,le_refl _,by rw[hF];rfl⟩
    ·refine azb (ai t0 (ai t6 (ai t7 (ai hlt (ai hj0 (ai hc (ai hx (ai hy (ai e1 (ai e2 (ai e3 (ai e4 (ai e5 e6))))))))))))) ?_;exact⟨_,le_refl _,by rw[hF];rfl⟩
 ·have hlt:¬((j:Int)<(s.length:Int)):=by omega
  have hje:j=s.length:=by omega
  rw[hje]at hok;have hE:=Adr.ident_end hok;by_cases hn:s=[]
  ·have e1:(s != [])=false:=by simp[hn]
   rw[e1]at hE;refine azb (ai t0 (ai t6 (ai t7 (ai hlt e1)))) ?_;exact⟨_,le_refl _,by rw[hE];rfl⟩
  ·have e1:(s != [])=true:=by simp[hn]
   rw[e1]at hE;have e2:decide ((s.length:Int)≤64)=decide (s.length≤64):=decide_eq_decide.2 (by omega);refine azb (ai t0 (ai t6 (ai t7 (ai hlt e1)))) ?_;exact⟨_,le_refl _,by rw[hE];first|rfl|(rw[azi,e2];rfl)|rw[←e2];rfl⟩
theorem cyd(s p:List UInt8)(h:Hp):AT 192 [.str s,.str p] h (.tup [.str (if Adr.begins s p then s.drop p.length else s),.bool (Adr.begins s p)]):=by
 refine pcall ?_ rfl (by simp[A.pure,A.data]) h;refine fo ?_;have hp:(decide (p.length≤s.length)&&s.take p.length==p)=Adr.begins s p:=by
  unfold Adr.begins;rw[Ye,Zak,List.prefix_iff_eq_take,Zc,Zm,ZA];constructor
  ·rintro⟨h1,h2⟩;exact h2.symm
  ·intro h2;exact⟨by have:=congrArg List.length h2;rw[ZQ]at this;omega,h2.symm⟩
 have hc:=fun h=>ax3 s p h
 rw[hp]at hc;refine azb ti ?_;refine use (hc _) ?_;cases hB:Adr.begins s p
 ·refine azb ti ?_;exact Fn rfl
 ·have hle:(p.length:Int)≤(s.length:Int):=by have:=Adr.begins_len hB;omega
  have h0:(0:Int)≤(p.length:Int):=by omega
  refine azb (ai hle h0) ?_;refine⟨_,le_refl _,?_⟩;rw[if_pos rfl];first|rfl|(rw[aqa];simp)
theorem cv0(s p:List UInt8)(h:Hp):AT 176 [.str s,.str p] h (.tup [.str (if Adr.begins s p then s.drop p.length else s),.bool (Adr.begins s p)]):=by
 refine pcall ?_ rfl (by simp[A.pure,A.data]) h;refine fo ?_;refine azb ti ?_;refine use (cyd s p _) ?_;refine azb ti ?_;exact Fn rfl
def adB(r:Adr.Rd):Blk:=.cells 207 [.str r.rest,.bool r.bad]
theorem axc(r:Adr.Rd):(adB r).loc 0:=rfl
theorem cx7(p:List UInt8)(r:Adr.Rd){h:Hp}{i:Nat}(hb:h.b[i]?=some (adB r)):
  AC 144 [.ptr i 0,.str p] h fun v h'=>v=.bool (Adr.hasP p r).1∧h'=⟨h.b.set i (adB (Adr.hasP p r).2),h.t⟩:=by
 have key:AC 144 [.ptr 0 0,.str p] ⟨[adB r],[]⟩ fun v h'=>∃b',h'.b[0]?=some b'∧v=.bool (Adr.hasP p r).1∧b'=adB (Adr.hasP p r).2:=by
  refine fo ?_;unfold adB;refine azb ti ?_;refine use (cv0 r.rest p _) ?_;unfold Adr.hasP;cases hB:Adr.begins r.rest p
  ·refine azb ti ?_;exact⟨_,le_refl _,_,rfl,rfl,rfl⟩
  ·refine azb ti ?_;exact⟨_,le_refl _,_,rfl,rfl,rfl⟩
 refine(ACall.lift1 key rfl (axc r) ?_ hb).mono ?_
 ·rintro v b' ⟨rfl,rfl⟩;exact⟨rfl,axc _⟩
 ·rintro v h' ⟨b',⟨rfl,rfl⟩,rfl⟩;exact⟨rfl,rfl⟩
theorem czh(p:List UInt8)(r:Adr.Rd){h:Hp}{i:Nat}(hb:h.b[i]?=some (adB r)):
  AC 146 [.ptr i 0,.str p] h fun v h'=>v=.tup []∧h'=⟨h.b.set i (adB (Adr.skipP p r)),h.t⟩:=by
 have key:AC 146 [.ptr 0 0,.str p] ⟨[adB r],[]⟩ fun v h'=>∃b',h'.b[0]?=some b'∧v=.tup []∧b'=adB (Adr.skipP p r):=by
  obtain⟨rest,bad⟩:=r;refine fo ?_;unfold adB;refine azb ti ?_;refine use (cv0 rest p _) ?_;unfold Adr.skipP;dsimp only;cases hB:Adr.begins rest p
  ·cases bad
   ·refine azb ti ?_;exact⟨_,le_refl _,_,rfl,rfl,rfl⟩
   ·refine azb ti ?_;exact⟨_,le_refl _,_,rfl,rfl,rfl⟩
  ·cases bad
   ·refine azb ti ?_;exact⟨_,le_refl _,_,rfl,rfl,rfl⟩
   ·refine azb ti ?_;exact⟨_,le_refl _,_,rfl,rfl,rfl⟩
 refine(ACall.lift1 key rfl (axc r) ?_ hb).mono ?_
 ·rintro v b' ⟨rfl,rfl⟩;exact⟨rfl,axc _⟩
 ·rintro v h' ⟨b',⟨rfl,rfl⟩,rfl⟩;exact⟨rfl,rfl⟩
end AX
end
section
open Go.RowKit
open Go.Op (bytesLess)
namespace Adr
def Step.cells(s:Step):List AX.A:=[.str s.name,.int .i64 s.key.kind,.int .i64 s.key.num,.str s.key.str]
def Ad.cells(a:Ad):List AX.A:=[.sl 4 .no (a.mods.map Step.cells),.bool a.data,.str a.type,.str a.name,.int .i64 a.key.kind,.int .i64 a.key.num,.str a.key.str]
end Adr
namespace AX
def cmpZ(a b:List UInt8):Int:=if a==b then 0 else if bytesLess a b then -1 else 1
structure Leafs:Prop where
 parse:∀(s:List UInt8),s.length≤2000000→∀h,AT 105 [.str s] h (.tup [.agg (Adr.parse s).1.cells,.int .i64 (Adr.parse s).2])
 static:∀(s:List UInt8),s.length≤2000000→∀h,AT 142 [.str s] h (.tup [.str (Adr.static s).1,.int .i64 (Adr.static s).2])
 ident:∀(s:List UInt8),s.length≤2000000→∀h,AT 106 [.str s] h (.bool (Adr.ident s))
 num:∀(s:List UInt8),s.length≤2000000→∀h,AT 139 [.str s] h (.tup [.int .i64 (Num.parse s).1,.int .i64 (Num.parse s).2])
 cmp:∀(a b:List UInt8) h,AT 104 [.str a,.str b] h (.int .i64 (cmpZ a b))
 known:∀(v:V),v.lens→∀h,AT 101 [v.A] h (.bool (Sf.known v))
 text:∀(s:List UInt8),s.length≤2000000→∀h,AT 62 [.str s] h (.bool (Sf.text s))
theorem bqs(L:Leafs)(s t:List UInt8)(hs:s.length≤2000000)(h:Hp):AT 66 [.str s,.str t] h (.bool (Sf.managed s t)):=by
 refine pcall ?_ rfl (by simp[A.pure,A.data]) h;refine fo ?_;have hp:=fun h=>L.parse s hs h
 unfold Sf.managed;obtain⟨⟨⟨mods,data,ty,nm,⟨kk,kn,ks⟩⟩,e⟩,he⟩:=Ex (Adr.parse s);rw[he]at hp⊢;simp only[Adr.Ad.cells]at hp;refine azb ti ?_;refine use (hp _) ?_;dsimp only;rcases azk (e==0)with e0|e0
 ·rw[e0];(refine AX.azb e0 ?_);first
  |exact⟨_, le_refl _, rfl⟩
  | (cases data
     · (refine AX.azb AX.ti ?_)
       exact ⟨_, le_refl _, rfl⟩
     · (refine AX.azb AX.ti ?_)
       exact ⟨_, le_refl _, rfl⟩)
 ·rw[e0];(refine AX.azb e0 ?_);first
  |exact⟨_, le_refl _, rfl⟩
  | (cases data
     · (refine AX.azb AX.ti ?_)
       exact ⟨_, le_refl _, rfl⟩
     · (refine AX.azb AX.ti ?_)
       exact ⟨_, le_refl _, rfl⟩)
theorem dz3(L:Leafs)(s:List UInt8)(hs:s.length≤2000000)(h:Hp):AT 100 [.str s] h (.bool ((Num.parse s).2==0&&decide (1≤(Num.parse s).1))):=by
 refine pcall ?_ rfl (by simp[A.pure,A.data]) h;refine fo ?_;have hp:=fun h=>L.num s hs h
 obtain⟨⟨n,e⟩,he⟩:=Ex (Num.parse s);rw[he]at hp⊢;dsimp only at hp⊢;refine azb ti ?_;refine use (hp _) ?_;rcases azk (e==0)with e0|e0
 ·rw[e0];refine azb e0 ?_;exact Fn rfl
 ·rw[e0];refine azb e0 ?_;exact Fn rfl
theorem bxb(x:Sf.Inst)(h:Hp):AT 64 [.agg x.cells] h (.agg [.str x.addr,.str x.dep]):=by
 obtain⟨a,d,id,ty,⟨k,n,w,vi,vy⟩,v,tn,fi,ds⟩:=x;refine pcall ?_ rfl (by simp[A.pure,A.data,Sf.Inst.cells]) h;refine fo ?_;dsimp only[Sf.Inst.cells];refine azb ti ?_;exact Fn rfl
theorem cjw(L:Leafs)(o:Sf.Outp)(hs:o.name.length≤2000000)(hl:o.value.lens)(h:Hp):AT 67 [.agg o.cells] h (.int .i64 (Sf.outZ o)):=by
 have hi:=fun h=>L.ident o.name hs h
 have hk:=fun h=>L.known o.value hl h
 have hc:=fun h=>akg o.value hl h
 obtain⟨Z,hZ⟩:=Ex (Sf.outZ o);rw[hZ];unfold Sf.outZ at hZ;obtain⟨m,⟨k,n,w,vi,vy⟩,b⟩:=o;dsimp only at hi hk hc hZ;have hVA:(V.mk k n w vi vy).A=.agg [.int .i64 k,.int .i64 n,.str w,.sl 5 .no (V.cellss vi),.sl 1 .no (strsA vy)]:=by simp only[V.A,V.cells]
 rw[hVA]at hk hc;refine pcall ?_ rfl (by simp[A.pure,A.data,Sf.Outp.cells]) h;refine fo ?_;dsimp only[Sf.Outp.cells];refine azb ti ?_;refine use (hi _) ?_;cases hI:Adr.ident m
 ·rw[hI,if_pos (by decide)]at hZ;refine azb ti ?_;exact⟨_,le_refl _,by rw[←hZ];rfl⟩
 rw[hI,if_neg (by decide)]at hZ;refine azb ti ?_;refine use (hc _) ?_;by_cases hz:Val.checkZ (.mk k n w vi vy)=0
 rotate_left
 ·have e1:(Val.checkZ (.mk k n w vi vy)!=0)=true:=by simp[hz]
  rw[if_pos hz]at hZ;refine azb e1 ?_;exact⟨_,le_refl _,by rw[←hZ];rfl⟩
 have e1:(Val.checkZ (.mk k n w vi vy)!=0)=false:=by simp[hz]
 rw[if_neg (by simp[hz])]at hZ;refine azb e1 ?_;refine use (hk _) ?_;cases hK:Sf.known (.mk k n w vi vy)
 ·rw[hK,if_pos (by decide)]at hZ;refine azb ti ?_;exact⟨_,le_refl _,by rw[←hZ];rfl⟩
 ·rw[hK,if_neg (by decide)]at hZ;refine azb ti ?_;exact⟨_,le_refl _,by rw[←hZ];rfl⟩
theorem cq4(L:Leafs)(ds:List (List UInt8))(hn:ds.length≤1000000000)(hs:∀s∈ds,s.length≤2000000)(h:Hp):AT 102 [.sl 1 .no (strsA ds)] h (.bool (Sf.depsB none ds)):=by
 refine pcall ?_ rfl (by simp[A.pure,A.data]) h;refine fo ?_;obtain⟨D,hD⟩:=Ex (Sf.depsB none ds);rw[hD];have lm:(strsA ds).length=ds.length:=aze ds;refine azb lm ?_;refine azf (fun mm ts h=>∃(j:Nat),mm=ds.length-j∧j≤ds.length∧h=⟨[],[]⟩∧Sf.depsB (if j=0 then none else ds[j-1]?) (ds.drop j)=D∧ts 0=.sl 1 .no (strsA ds)∧ts 7=.sl 1 .no (strsA ds)∧ts 8=.int .i64 (ds.length:Nat)∧ts 9=.int .i64 (j:Nat)) ds.length ?_ ?_
 ·exact⟨0,by omega,by omega,rfl,hD,by(exact ev0 ti),by(exact ev0 ti),by(exact ev0 lm),by(exact azq ti)⟩
 rintro mm ts h ⟨j,rfl,hjc,rfl,hit,t0,ta,tb,tc⟩;by_cases hj:j<ds.length
 ·have hlt:(j:Int)<(ds.length:Int):=by omega
  have hlt':(j:Int)<((strsA ds).length:Int):=by rw[aze];exact hlt
  have hj0:(0:Int)≤(j:Int):=by omega
  have ei:IntKind.i64.wrap ((j:Int)+1)=((j+1:Nat):Int):=by rw[wrap64 (by omega) (by omega)];omega
  have hg:=azv ds j hj;have hst:=fun h=>L.static ds[j] (hs _ (Zt hj)) h
  rw[Zr hj]at hit;unfold Sf.depsB at hit;have hsB:Sf.staticB ds[j]=((Adr.static ds[j]).2==0&&(Adr.static ds[j]).1==ds[j]):=rfl;obtain⟨⟨w,e⟩,hw⟩:=Ex (Adr.static ds[j]);rw[hw]at hst hsB;dsimp only at hst hsB;rw[hsB]at hit;refine azb (ai t0 (ai ta (ai tb (ai tc (ai hlt (ai hg (ai hlt' hj0))))))) ?_;refine use (hst _) ?_;by_cases he:e=0
  rotate_left
  ·have e1:(e !=0)=true:=by simp[he]
   have e2:(e==0)=false:=by simp[he]
   rw[e2,ZT,ZT,ZT]at hit;subst hit;refine azb (ai t0 (ai ta (ai tb (ai tc e1)))) ?_;exact Fn rfl
  have e1:(e !=0)=false:=by simp[he]
  have e2:(e==0)=true:=by simp[he]
  rw[e2,Zx]at hit;by_cases hw2:w=ds[j]
  rotate_left
  ·have w1:(w !=ds[j])=true:=by simp[hw2]
   have w2:(w==ds[j])=false:=by simp[hw2]
   rw[w2,ZT,ZT]at hit;subst hit;refine azb (ai t0 (ai ta (ai tb (ai tc (ai e1 w1))))) ?_;exact Fn rfl
  have w1:(w !=ds[j])=false:=by simp[hw2]
  have w2:(w==ds[j])=true:=by simp[hw2]
  rw[w2,Zx]at hit;cases j with
  |zero=>
   have h0:¬((0:Nat):Int)>0:=by omega
   simp only[if_true,Val.badB,ZL,Zx]at hit;refine azb (ai t0 (ai ta (ai tb (ai tc (ai e1 (ai w1 (ai h0 ei))))))) ?_;exact⟨ds.length-1,by omega,1,rfl,by omega,rfl,by rw[←hit];simp[hj],by(exact ev0 t0),by(exact ev0 ta),by(exact ev0 tb),by(exact ev0 ei)⟩
  |succ i=>
   have h0:((i+1:Nat):Int)>0:=by omega
   have ej:IntKind.i64.wrap (((i+1:Nat):Int)-1)=(i:Int):=by rw[wrap64 (by omega) (by omega)];omega
   have hg2:=azv ds i (by omega);have hi':(i:Int)<((strsA ds).length:Int):=by omega
   have hi0:(0:Int)≤(i:Int):=by omega
   have hki:ds[i+1-1]?=some (ds[i]'(by omega)):=Zn (by omega);rw[if_neg (by omega),hki]at hit;simp only[Val.badB]at hit;rw[Val.less_total]at hit;rcases azk (bytesLess ds[i+1] ds[i]||ds[i+1]==ds[i])with hb|hb
   ·rw[hb]at hit;refine azb (ai t0 (ai ta (ai tb (ai tc (ai e1 (ai w1 (ai h0 (ai ej (ai hg2 (ai hi' (ai hi0 (ai hb ei)))))))))))) ?_;first
    |(subst hit;exact Fn rfl)
    |exact⟨ds.length-(i+1+1),by omega,i+1+1,rfl,by omega,rfl,by rw[←hit];simp[hj],by(exact ev0 t0),by(exact ev0 ta),by(exact ev0 tb),by(exact ev0 ei)⟩
   ·rw[hb]at hit;refine azb (ai t0 (ai ta (ai tb (ai tc (ai e1 (ai w1 (ai h0 (ai ej (ai hg2 (ai hi' (ai hi0 (ai hb ei)))))))))))) ?_;first
    |(subst hit;exact Fn rfl)
    |exact⟨ds.length-(i+1+1),by omega,i+1+1,rfl,by omega,rfl,by rw[←hit];simp[hj],by(exact ev0 t0),by(exact ev0 ta),by(exact ev0 tb),by(exact ev0 ei)⟩
 ·have hlt:¬((j:Int)<(ds.length:Int)):=by omega
  rw[Y1 (by omega)]at hit;unfold Sf.depsB at hit;subst hit;refine azb (ai t0 (ai ta (ai tb (ai tc hlt)))) ?_;exact Fn rfl
structure Sf.InstIn(x:Sf.Inst):Prop where
 a:x.addr.length≤2000000
 d:x.dep.length≤2000000
 i:x.id.length≤2000000
 l:x.attrs.lens
 n:x.deps.length≤1000000000
 ds:∀s∈x.deps,s.length≤2000000
theorem bk5(L:Leafs)(x:Sf.Inst)(hx:Sf.InstIn x)(h:Hp):AT 63 [.agg x.cells] h (.int .i64 (Sf.instZ x)):=by
 have cm:=fun h=>bqs L x.addr x.typ hx.a h
 have ck:=fun h=>dz3 L x.dep hx.d h
 have ct:=fun h=>L.text x.id hx.i h
 have cv:=fun h=>akg x.attrs hx.l h
 have cn:=fun h=>L.known x.attrs hx.l h
 have cs:=fun h=>cq4 L x.deps hx.n hx.ds h
 obtain⟨Z,hZ⟩:=Ex (Sf.instZ x);rw[hZ];unfold Sf.instZ Sf.keyB at hZ;obtain⟨a,d,id,ty,⟨k,n,w,vi,vy⟩,v,tn,fi,ds⟩:=x;clear hx;dsimp only at cm ck ct cv cn cs hZ;have hVA:(V.mk k n w vi vy).A=.agg [.int .i64 k,.int .i64 n,.str w,.sl 5 .no (V.cellss vi),.sl 1 .no (strsA vy)]:=by simp only[V.A,V.cells]
 rw[hVA]at cv cn;obtain⟨M,hM⟩:=Ex (Sf.managed a ty);obtain⟨K,hK⟩:=Ex (((Num.parse d).2==0&&decide (1≤(Num.parse d).1)));obtain⟨T,hT⟩:=Ex (Sf.text id);obtain⟨C,hC⟩:=Ex (Val.checkZ (.mk k n w vi vy));obtain⟨N,hN⟩:=Ex (Sf.known (.mk k n w vi vy));obtain⟨S,hS⟩:=Ex (Sf.depsB none ds);have hkd:Sf.V.kind (.mk k n w vi vy)=k:=rfl;rw[hM]at cm hZ;rw[hK]at ck hZ;rw[hT]at ct hZ;rw[hC]at cv hZ;rw[hN]at cn hZ;rw[hS]at cs hZ;rw[hkd]at hZ;refine pcall ?_ rfl (by simp[A.pure,A.data,Sf.Inst.cells]) h;refine fo ?_;dsimp only[Sf.Inst.cells];refine azb ti ?_;refine use (cm _) ?_;cases M
 ·rw[if_pos (by simp)]at hZ;subst hZ;refine azb ti ?_;exact Fn rfl
 have key:∀{G:Prop},((d != [])=false→(d == [])=true→G)→((d != [])=true→(d == [])=false→G)→G:=fun p q=>by
  by_cases e:d=[]
  ·exact p (by simp[e]) (by simp[e])
  ·exact q (by simp[e]) (by simp[e])
 have rest:True:=ti;refine key (fun d1 d2=>?_) (fun d1 d2=>?_);all_goals rw[d2]at hZ
 ·refine azb d1 ?_;refine use (ct _) ?_;cases T
  ·rw[if_pos (by simp)]at hZ;subst hZ;refine azb ti ?_;exact Fn rfl
  rw[if_neg (by simp)]at hZ;refine azb ti ?_;refine use (cv _) ?_;by_cases hz:C=0
  rotate_left
  ·have e1:(C !=0)=true:=by simp[hz]
   rw[if_pos hz]at hZ;refine azb e1 ?_;exact⟨_,le_refl _,by rw[←hZ];rfl⟩
  have e1:(C !=0)=false:=by simp[hz]
  rw[if_neg (by simp[hz])]at hZ;by_cases hk5:k=5
  rotate_left
  ·have e2:(k !=5)=true:=by simp[hk5]
   rw[if_pos hk5]at hZ;refine azb (ai e1 e2) ?_;exact⟨_,le_refl _,by rw[←hZ];rfl⟩
  have e2:(k !=5)=false:=by simp[hk5]
  rw[if_neg (by simp[hk5])]at hZ;refine azb (ai e1 e2) ?_;refine use (cn _) ?_;cases N
  ·rw[if_pos (by simp)]at hZ;refine azb ti ?_;exact⟨_,le_refl _,by rw[←hZ];rfl⟩
  rw[if_neg (by simp)]at hZ;by_cases v0:v<1
  ·rw[if_pos (.inl v0)]at hZ;refine azb v0 ?_;exact⟨_,le_refl _,by rw[←hZ];rfl⟩
  by_cases v1:v>9007199254740992
  ·rw[if_pos (.inr v1)]at hZ;refine azb (ai v0 v1) ?_;exact⟨_,le_refl _,by rw[←hZ];rfl⟩
  rw[if_neg (by omega)]at hZ;refine azb (ai v0 v1) ?_;refine use (cs _) ?_;cases S
  ·rw[if_pos (by simp)]at hZ;refine azb ti ?_;exact⟨_,le_refl _,by rw[←hZ];rfl⟩
  ·rw[if_neg (by simp)]at hZ;refine azb ti ?_;exact⟨_,le_refl _,by rw[←hZ];rfl⟩
 ·refine azb d1 ?_;refine use (ck _) ?_;cases K
  ·rw[if_pos (by simp)]at hZ;subst hZ;refine azb ti ?_;exact Fn rfl
  refine azb ti ?_;refine use (ct _) ?_;cases T
  ·rw[if_pos (by simp)]at hZ;subst hZ;refine azb ti ?_;exact Fn rfl
  rw[if_neg (by simp)]at hZ;refine azb ti ?_;refine use (cv _) ?_;by_cases hz:C=0
  rotate_left
  ·have e1:(C !=0)=true:=by simp[hz]
   rw[if_pos hz]at hZ;refine azb e1 ?_;exact⟨_,le_refl _,by rw[←hZ];rfl⟩
  have e1:(C !=0)=false:=by simp[hz]
  rw[if_neg (by simp[hz])]at hZ;by_cases hk5:k=5
  rotate_left
  ·have e2:(k !=5)=true:=by simp[hk5]
   rw[if_pos hk5]at hZ;refine azb (ai e1 e2) ?_;exact⟨_,le_refl _,by rw[←hZ];rfl⟩
  have e2:(k !=5)=false:=by simp[hk5]
  rw[if_neg (by simp[hk5])]at hZ;refine azb (ai e1 e2) ?_;refine use (cn _) ?_;cases N
  ·rw[if_pos (by simp)]at hZ;refine azb ti ?_;exact⟨_,le_refl _,by rw[←hZ];rfl⟩
  rw[if_neg (by simp)]at hZ;by_cases v0:v<1
  ·rw[if_pos (.inl v0)]at hZ;refine azb v0 ?_;exact⟨_,le_refl _,by rw[←hZ];rfl⟩
  by_cases v1:v>9007199254740992
  ·rw[if_pos (.inr v1)]at hZ;refine azb (ai v0 v1) ?_;exact⟨_,le_refl _,by rw[←hZ];rfl⟩
  rw[if_neg (by omega)]at hZ;refine azb (ai v0 v1) ?_;refine use (cs _) ?_;cases S
  ·rw[if_pos (by simp)]at hZ;refine azb ti ?_;exact⟨_,le_refl _,by rw[←hZ];rfl⟩
  ·rw[if_neg (by simp)]at hZ;refine azb ti ?_;exact⟨_,le_refl _,by rw[←hZ];rfl⟩
end AX
namespace Adr
theorem indexAny_word:∀s:List UInt8,(Lib.indexAny s [46,91]=-1∧s.takeWhile (fun c=>!stopB c)=s∧s.dropWhile (fun c=>!stopB c)=[]) ∨
  ∃n:Nat,Lib.indexAny s [46,91]=n∧n≤s.length∧s.takeWhile (fun c=>!stopB c)=s.take n∧s.dropWhile (fun c=>!stopB c)=s.drop n
 |[]=> .inl ⟨rfl,rfl,rfl⟩
 |c::s=>by
  have hc:([46,91]:List UInt8).contains c=stopB c:=by
   unfold stopB;simp;rfl
  unfold Lib.indexAny;rw[hc];cases h:stopB c
  ·rcases indexAny_word s with⟨h1,h2,h3⟩|⟨n,h1,h2,h3,h4⟩
   ·refine .inl ⟨by rw[h1];rfl,?_,?_⟩
    ·rw[Yx (by simp[h]),h2]
    ·rw[YQ (by simp[h]),h3]
   ·refine .inr ⟨n+1,?_,by simpa using h2,?_,?_⟩
    ·rw[h1];have e:((n:Int) == -1)=false:=by simp<;>omega
     simp only[Zi,if_false,e];omega
    ·rw[Yx (by simp[h]),h3,Z3]
    ·rw[YQ (by simp[h]),h4,ZU]
  ·refine .inr ⟨0,rfl,Zz _,?_,?_⟩
   ·rw[YX (by simp[h])];rfl
   ·rw[Y5 (by simp[h])];rfl
theorem indexByte_key:∀s:List UInt8,(s.all (· != 93)=true∧Lib.indexByte s 93=-1)∨(s.all (· != 93)=false∧Lib.indexByte s 93=((s.takeWhile (· != 93)).length:Nat)∧(s.takeWhile (· != 93)).length≤s.length)
 |[]=> .inl ⟨rfl,rfl⟩
 |c::s=>by
  unfold Lib.indexByte;by_cases h:c=93
  ·subst h;refine .inr ⟨by simp,?_,Nat.le_of_lt_succ (by simp)⟩;simp
  ·have hb:(c==93)=false:=by simp[h]
   have hn:(c !=93)=true:=by simp[h]
   rcases indexByte_key s with⟨h1,h2⟩|⟨h1,h2,h3⟩
   ·refine .inl ⟨by rw[ZC,hn,h1];rfl,?_⟩;simp[hb,h,h2]
   ·refine .inr ⟨by rw[ZC,h1,Y2],?_,?_⟩
    ·simp only[List.takeWhile_cons,hn,if_true,Zh,hb,Zi,if_false,h2];have e:(((s.takeWhile (· != 93)).length:Nat):Int) == -1↔False:=by simp<;>omega
     rw[if_neg (by rw[e];exact id)];omega
    ·simp only[List.takeWhile_cons,hn,if_true,Zh];omega
theorem cmp_bytes:∀a b:List UInt8,Lib.compareBytes a b=AX.cmpZ a b
 |[],[]=>rfl
 |[],_::_=>rfl
 |_::_,[]=>rfl
 |a::a1,b::b1=>by
  have ih:=cmp_bytes a1 b1;unfold AX.cmpZ at ih⊢;unfold Lib.compareBytes bytesLess;by_cases h1:a<b
  ·have hne:a≠b:=by intro e;subst e;exact absurd h1 (by simp)
   simp[h1,hne]
  ·by_cases h2:b<a
   ·have hne:a≠b:=by intro e;subst e;exact absurd h2 (by simp)
    simp[h1,h2,hne]
   ·have he:a=b:=by
     have h3:¬a.toNat<b.toNat:=h1;have h4:¬b.toNat<a.toNat:=h2;exact Z9.1 (by omega)
    subst he;rw[if_neg h1,if_neg h2,ih];simp
end Adr
namespace AX
theorem dqe(a b:List UInt8)(h:Hp):AT 104 [.str a,.str b] h (.int .i64 (cmpZ a b)):=by
 rw[←Adr.cmp_bytes];exact azo (bwb aqt aqt) (fun w hg=>(Tryz.strings_Compare ⟨a.toArray⟩ ⟨b.toArray⟩ w).mono fun e w' ⟨h1,h2⟩=>⟨h1,by rw[h2];exact Below.refl _ _⟩) (fun C=>rep_int.2 rfl) h
theorem bwx(s:List UInt8)(hs:s.length≤2000000)(h:Hp):AT 177 [.str s,.str [46,91]] h (.int .i64 (Lib.indexAny s [46,91])):=
 azo (bwb aqt aqt) (fun w hg=>bqj ⟨s.toArray⟩ (by rw[size_mk];omega) w) (fun C=>rep_int.2 rfl) h
theorem bj3(s:List UInt8)(h:Hp):AT 180 [.str s,.int .u8 93] h (.int .i64 (Lib.indexByte s 93)):=
 azo (bwb aqt bx9) (fun w hg=>(Tryz.strings_IndexByte ⟨s.toArray⟩ 93 w).mono fun e w' ⟨h1,h2⟩=>⟨h1,by rw[h2];exact Below.refl _ _⟩) (fun C=>rep_int.2 rfl) h
theorem ckf(s:List UInt8)(hs:s.length≤2000000)(h:Hp):AT 149 [.str s] h (.bool (Adr.kindB s)):=by
 refine pcall ?_ rfl (by simp[A.pure,A.data]) h;refine fo ?_;have hi:=fun h=>ak1 s hs h
 have hk:Adr.kindB s=(!Adr.reserved s&&Adr.ident s):=rfl;have hr:∀{G:Prop} (w:List UInt8),((s==w)=true→G)→((s==w)=false→G)→G:=fun w p q=>by
  cases e:s==w
  ·exact q e
  ·exact p e
 have res:∀w,(s==w)=true→w∈Adr.reservedL→Adr.kindB s=false:=fun w e hw=>by
  rw[ZA]at e;subst e;rw[hk];unfold Adr.reserved;rw[Zal.2 hw];rfl
 refine hr [109,111,100,117,108,101] (fun e1=>?_) fun e1=>?_
 ·refine azb e1 ?_;exact⟨_,le_refl _,by rw[res _ e1 (by decide)];rfl⟩
 refine hr [100,97,116,97] (fun e2=>?_) fun e2=>?_
 ·refine azb (ai e1 e2) ?_;exact⟨_,le_refl _,by rw[res _ e2 (by decide)];rfl⟩
 refine hr [118,97,114] (fun e3=>?_) fun e3=>?_
 ·refine azb (ai e1 (ai e2 e3)) ?_;exact⟨_,le_refl _,by rw[res _ e3 (by decide)];rfl⟩
 refine hr [108,111,99,97,108] (fun e4=>?_) fun e4=>?_
 ·refine azb (ai e1 (ai e2 (ai e3 e4))) ?_;exact⟨_,le_refl _,by rw[res _ e4 (by decide)];rfl⟩
 refine hr [101,97,99,104] (fun e5=>?_) fun e5=>?_
 ·refine azb (ai e1 (ai e2 (ai e3 (ai e4 e5)))) ?_;exact⟨_,le_refl _,by rw[res _ e5 (by decide)];rfl⟩
 refine hr [99,111,117,110,116] (fun e6=>?_) fun e6=>?_
 ·refine azb (ai e1 (ai e2 (ai e3 (ai e4 (ai e5 e6))))) ?_;exact⟨_,le_refl _,by rw[res _ e6 (by decide)];rfl⟩
 refine hr [114,101,109,111,116,101] (fun e7=>?_) fun e7=>?_
 ·refine azb (ai e1 (ai e2 (ai e3 (ai e4 (ai e5 (ai e6 e7)))))) ?_;exact⟨_,le_refl _,by rw[res _ e7 (by decide)];rfl⟩
 refine hr [111,117,116,112,117,116] (fun e8=>?_) fun e8=>?_
 ·refine azb (ai e1 (ai e2 (ai e3 (ai e4 (ai e5 (ai e6 (ai e7 e8))))))) ?_;exact⟨_,le_refl _,by rw[res _ e8 (by decide)];rfl⟩
 refine hr [112,97,116,104] (fun e9=>?_) fun e9=>?_
 ·refine azb (ai e1 (ai e2 (ai e3 (ai e4 (ai e5 (ai e6 (ai e7 (ai e8 e9)))))))) ?_;exact⟨_,le_refl _,by rw[res _ e9 (by decide)];rfl⟩
 refine hr [115,101,108,102] (fun e10=>?_) fun e10=>?_
 ·refine azb (ai e1 (ai e2 (ai e3 (ai e4 (ai e5 (ai e6 (ai e7 (ai e8 (ai e9 e10))))))))) ?_;exact⟨_,le_refl _,by rw[res _ e10 (by decide)];rfl⟩
 refine hr [99,104,97,110,103,101] (fun e11=>?_) fun e11=>?_
 ·refine azb (ai e1 (ai e2 (ai e3 (ai e4 (ai e5 (ai e6 (ai e7 (ai e8 (ai e9 (ai e10 e11)))))))))) ?_;exact⟨_,le_refl _,by rw[res _ e11 (by decide)];rfl⟩
 have hres:Adr.reserved s=false:=by
  have h1:=Zq.1 e1;have h2:=Zq.1 e2;have h3:=Zq.1 e3;have h4:=Zq.1 e4;have h5:=Zq.1 e5;have h6:=Zq.1 e6;have h7:=Zq.1 e7;have h8:=Zq.1 e8;have h9:=Zq.1 e9;have h10:=Zq.1 e10;have h11:=Zq.1 e11;unfold Adr.reserved;rw[Y3];intro hc;rw[Zal]at hc;unfold Adr.reservedL at hc;simp only[Z8,List.not_mem_nil,or_false]at hc;rcases hc with e|e|e|e|e|e|e|e|e|e|e<;>simp_all
 rw[hk,hres];refine azb (ai e1 (ai e2 (ai e3 (ai e4 (ai e5 (ai e6 (ai e7 (ai e8 (ai e9 (ai e10 e11)))))))))) ?_;refine use (hi _) ?_;refine azb ti ?_;exact⟨_,le_refl _,by simp[azi]⟩
theorem cqr(r:Adr.Rd)(hl:r.rest.length≤2000000){h:Hp}{i:Nat}(hb:h.b[i]?=some (adB r)):
  AC 147 [.ptr i 0] h fun v h'=>v=.str (Adr.wordP r).1∧h'=⟨h.b.set i (adB (Adr.wordP r).2),h.t⟩:=by
 have key:AC 147 [.ptr 0 0] ⟨[adB r],[]⟩ fun v h'=>∃b',h'.b[0]?=some b'∧v=.str (Adr.wordP r).1∧b'=adB (Adr.wordP r).2:=by
  obtain⟨rest,bad⟩:=r;dsimp only at hl;refine fo ?_;unfold adB;have hW:Adr.wordP ⟨rest,bad⟩=(rest.takeWhile (fun c=>!Adr.stopB c),⟨rest.dropWhile (fun c=>!Adr.stopB c),bad||!Adr.ident (rest.takeWhile (fun c=>!Adr.stopB c))⟩):=rfl;rw[hW];have hi:=fun(s:List UInt8) (hs:s.length≤2000000) h=>ak1 s hs h
  refine azb ti ?_;refine use (bwx rest hl _) ?_;rcases Adr.indexAny_word rest with⟨h1,h2,h3⟩|⟨n,h1,h2,h3,h4⟩
  ·rw[h1,h2,h3];have lm:(-1:Int)<0:=by decide
   have l0:(0:Int)≤(rest.length:Int):=by omega
   have td:rest.drop rest.length=[]:=List.drop_length;cases bad
   ·refine azb (ai lm (ai l0 td)) ?_;refine use (hi rest hl _) ?_;refine azb ti ?_;exact⟨_,le_refl _,_,rfl,rfl,rfl⟩
   ·refine azb (ai lm (ai l0 td)) ?_;exact⟨_,le_refl _,_,rfl,rfl,rfl⟩
  ·rw[h1,h3,h4];have lm:¬(n:Int)<0:=by omega
   have l0:(0:Int)≤(n:Int):=by omega
   have l1:(n:Int)≤(rest.length:Int):=by omega
   have ht:(rest.take n).length≤2000000:=by rw[ZQ];omega
   cases bad
   ·refine azb (ai lm (ai l0 l1)) ?_;refine use (hi _ ht _) ?_;refine azb ti ?_;exact⟨_,le_refl _,_,rfl,rfl,rfl⟩
   ·refine azb (ai lm (ai l0 l1)) ?_;exact⟨_,le_refl _,_,rfl,rfl,rfl⟩
 refine(ACall.lift1 key rfl (axc r) ?_ hb).mono ?_
 ·rintro v b' ⟨rfl,rfl⟩;exact⟨rfl,axc _⟩
 ·rintro v h' ⟨b',⟨rfl,rfl⟩,rfl⟩;exact⟨rfl,rfl⟩
def Adr.K.A(k:Adr.K):A:=.agg [.int .i64 k.kind,.int .i64 k.num,.str k.str]
theorem bz8(k:Adr.K)(hs:k.str.length≤2000000)(h:Hp):AT 216 [Adr.K.A k] h (.bool (Adr.keyOk k)):=by
 obtain⟨kd,nm,st⟩:=k;dsimp only at hs;unfold Adr.K.A;refine pcall ?_ rfl (by simp[A.pure,A.data]) h;refine fo ?_;have hv:=fun h=>bx8 st hs h
 have hK:Adr.keyOk ⟨kd,nm,st⟩=if kd=1 then decide (0≤nm)&&decide (nm≤9007199254740992)&&st == []else if kd=2 then nm==0&&Str.valid st else(⟨kd,nm,st⟩:Adr.K)==Adr.K.none:=rfl
 rw[hK];by_cases k0:kd=0
 ·subst k0;have e0:((0:Int)==0)=true:=by decide
  rw[if_neg (by decide),if_neg (by decide)];have hn:((⟨0,nm,st⟩:Adr.K)==Adr.K.none)=(nm==0&&st == []):=by
   rw[Ye,ZA,Zc,ZA,ZA];unfold Adr.K.none;simp
  refine azb e0 ?_;exact⟨_,le_refl _,by rw[hn];simp[azi]⟩
 have e0:(kd==0)=false:=by simp[k0]
 by_cases k1:kd=1
 ·subst k1;have e1:((1:Int)==1)=true:=by decide
  have e10:((1:Int)==0)=false:=by decide
  rw[if_pos rfl];by_cases n0:0≤nm
  ·have g0:nm≥0:=n0;by_cases n1:nm≤9007199254740992
   ·refine azb (ai e10 (ai e1 (ai g0 n1))) ?_;exact⟨_,le_refl _,by rw[Yd n0,Yd n1];rfl⟩
   ·refine azb (ai e10 (ai e1 (ai g0 n1))) ?_;exact⟨_,le_refl _,by rw[YC n1,Y2];rfl⟩
  ·have g0:¬nm≥0:=n0;refine azb (ai e10 (ai e1 g0)) ?_;exact⟨_,le_refl _,by rw[YC n0];rfl⟩
 have e1:(kd==1)=false:=by simp[k1]
 rw[if_neg k1];by_cases k2:kd=2
 ·subst k2;have e20:((2:Int)==0)=false:=by decide
  have e21:((2:Int)==1)=false:=by decide
  have e2:((2:Int)==2)=true:=by decide
  rw[if_pos rfl];cases hn:nm==0
  ·refine azb (ai e20 (ai e21 (ai e2 hn))) ?_;exact Fn rfl
  ·refine azb (ai e20 (ai e21 (ai e2 hn))) ?_;refine use (hv _) ?_;refine azb (ai e20 (ai e21 (ai e2 hn))) ?_;exact Fn rfl
 have e2:(kd==2)=false:=by simp[k2]
 rw[if_neg k2];have hn:((⟨kd,nm,st⟩:Adr.K)==Adr.K.none)=false:=by
  rw[Zq];unfold Adr.K.none;intro e;injection e with e _ _;exact k0 e
 rw[hn];refine azb (ai e0 (ai e1 e2)) ?_;exact Fn rfl
end AX
end
section
open Go.RowKit
namespace Str
theorem one_width(l:List UInt8)(hl:l≠[])(h:(one l).2.2=0):(one l).2.1≤l.length:=by
 have hp:=YK.2 hl;by_cases h92:l.getD 0 0=92
 ·obtain⟨⟨c,n,e⟩,he⟩:=Ex (escp (l.drop 1));have h1:=one_esc l h92 c n e he;rw[h1]at h⊢;by_cases h0:e=0
  ·rw[if_neg (by simp[h0])];have:=escp_len (l.drop 1) (by rw[he];exact h0);rw[he,Zv]at this;dsimp only at this⊢;omega
  ·rw[if_pos h0]at h;exact absurd h h0
 ·obtain⟨⟨c,n⟩,hd⟩:=Ex (Lib.decodeL l);have hc:c≠92:=by
   rcases dec_cases l with⟨q1,q2⟩|⟨q1,q2⟩
   ·rw[hd]at q2;injection q2 with q2 q3;intro e;apply h92;rw[←Z9];have:(l.getD 0 0).toNat=92:=by omega
    simpa using this
   ·rw[hd]at q2;dsimp only at q2;omega
  by_cases hbad:(c=65533∧n=1)∨c<32∨c=127
  ·rw[one_bad l c n hd hc hbad]at h;simp at h
  ·rw[one_ok l hl c n hd hc hbad];have:=Lib.decodeL_le l hl;rw[hd]at this;exact this
theorem unq_width:∀(f:Nat) (l acc:List UInt8) (i N:Nat),i+l.length=N→(unq f l acc i).2.2=0→(unq f l acc i).2.1≤N
 |0,l,acc,i,N,hN,h=>by
  unfold unq at h⊢;simp at h⊢
 |f+1,l,acc,i,N,hN,h=>by
  unfold unq at h⊢;split
  ·next h1=>rw[if_pos h1]at h;simp at h
  ·next h1=>
   rw[if_neg h1]at h;have hp:=YK.2 h1;split
   ·next h2=>
    rw[if_pos h2]at h;split
    ·exact Zz _
    ·dsimp only;omega
   ·next h2=>
    rw[if_neg h2]at h;split
    ·exact Zz _
    ·next h3=>
     rw[if_neg h3]at h;have:=one_width l h1 (by simpa using h3);exact unq_width f _ _ _ N (by rw[Zv];omega) h
theorem unquote_width(l:List UInt8)(h:(unquote l).2.2=0):(unquote l).2.1≤l.length:=by
 unfold unquote at h⊢;split
 ·exact Zz _
 ·next h1=>
  rw[if_neg h1]at h;split
  ·exact Zz _
  ·next h2=>
   rw[if_neg h2]at h;have hp:=YK.2 h1;exact unq_width _ _ _ _ l.length (by rw[Zv];omega) h
end Str
namespace AX
theorem cqe{w:World}(g:GT w):Glob w:=⟨g.tabs,g.tz⟩
theorem czc(s:List UInt8)(hs:s.length≤2000000)(h:Hp):AT 178 [.str s] h (.tup [.str (Str.unquote s).1,.int .i64 (Str.unquote s).2.1,.int .i64 (Str.unquote s).2.2]):=
 azo (aqu aqt) (fun w hg=>bvd ⟨s.toArray⟩ w (by rw[size_mk];exact hs) (cqe hg)) (fun C=>rep_tup.2 ⟨_,rfl,repL_cons.2 ⟨_,_,rfl,rep_str.2 rfl,repL_cons.2 ⟨_,_,rfl,rep_int.2 rfl,repL_cons.2 ⟨_,_,rfl,rep_int.2 rfl,repL_nil.2 rfl⟩⟩⟩⟩) h
theorem cyf(s:List UInt8)(hs:s.length≤2000000)(h:Hp):AT 179 [.str s] h (.str (Str.quote s)):=
 azo (aqu aqt) (fun w hg=>cqz ⟨s.toArray⟩ w (by rw[size_mk];exact hs) (cqe hg)) (fun C=>rep_str.2 rfl) h
theorem bk7(s p:List UInt8):(decide (p.length≤s.length)&&s.take p.length==p)=Adr.begins s p:=by
 unfold Adr.begins;rw[Ye,Zak,List.prefix_iff_eq_take,Zc,Zm,ZA];constructor
 ·rintro⟨h1,h2⟩;exact h2.symm
 ·intro h2;exact⟨by have:=congrArg List.length h2;rw[ZQ]at this;omega,h2.symm⟩
theorem dzh(r:Adr.Rd)(hl:r.rest.length≤2000000){h:Hp}{i:Nat}(hb:h.b[i]?=some (adB r)):
  AC 148 [.ptr i 0] h fun v h'=>v=Adr.K.A (Adr.keyP r).1∧h'=⟨h.b.set i (adB (Adr.keyP r).2),h.t⟩:=by
 have key:AC 148 [.ptr 0 0] ⟨[adB r],[]⟩ fun v h'=>∃b',h'.b[0]?=some b'∧v=Adr.K.A (Adr.keyP r).1∧b'=adB (Adr.keyP r).2:=by
  refine fo ?_;have hh:=fun h hb=>cx7 [91] r (h:=h) (i:=0) hb
  obtain⟨Z,hZ⟩:=Ex (Adr.keyP r);rw[hZ];unfold Adr.keyP at hZ;unfold Adr.hasP at hh;unfold adB at hh⊢;obtain⟨rest,bad⟩:=r;dsimp only at hl hh hZ;cases bad;rotate_left
  ·rw[if_pos rfl]at hZ;subst hZ;refine azb ti ?_;exact⟨_,le_refl _,_,rfl,rfl,rfl⟩
  rw[if_neg (by decide)]at hZ;refine azb ti ?_;refine use (hh _ rfl) ?_;cases hB:Adr.begins rest [91]
  ·rw[hB,if_pos rfl]at hZ;subst hZ;refine azb ti ?_;exact⟨_,le_refl _,_,rfl,rfl,rfl⟩
  rw[hB,if_neg (by decide)]at hZ;obtain⟨t,ht⟩:=Ex (rest.drop 1);have ht1:rest.drop [91].length=t:=ht;have htl:t.length≤2000000:=by rw[←ht,Zv];omega
  rw[ht]at hZ;have hp:=fun h=>ajp t [34] h
  rw[bk7]at hp;have hu:=fun h=>czc t htl h
  have hsk:=fun(q:Adr.Rd) h hb=>czh [93] q (h:=h) (i:=0) hb
  unfold adB at hsk;refine azb (ai ht1 ht) ?_;refine use (hp _) ?_;cases hQ:Adr.begins t [34]
  ·rw[hQ,if_neg (by decide)]at hZ;refine azb ti ?_;refine use (bj3 t _) ?_;have hk:=Adr.indexByte_key t;obtain⟨n,hn,hnle,hix⟩:∃n:Nat,(if t.all (· != 93)then 0 else(t.takeWhile (· != 93)).length)=n∧n≤t.length∧(Lib.indexByte t 93=(n:Int)∨(Lib.indexByte t 93=-1∧n=0)):=by
    rcases hk with⟨k1,k2⟩|⟨k1,k2,k3⟩
    ·exact⟨0,by rw[if_pos k1],Zz _,.inr ⟨k2,rfl⟩⟩
    ·exact⟨_,by rw[k1,if_neg (by decide)],k3,.inl k2⟩
   rw[hn]at hZ;have hmax:(if(0:Int)>Lib.indexByte t 93 then 0 else Lib.indexByte t 93)=(n:Int):=by
    rcases hix with e|⟨e,e2⟩
    ·rw[e,if_neg (by omega)]
    ·rw[e,e2];rfl
   have htk:(t.take n).length≤2000000:=by rw[ZQ];omega
   have hnp:=fun h=>a_numParse (t.take n) htk h
   have l0:(0:Int)≤(n:Int):=by omega
   have l1:(n:Int)≤(t.length:Int):=by omega
   obtain⟨⟨x,e⟩,hx⟩:=Ex (Num.parse (t.take n));rw[hx]at hnp hZ;dsimp only at hnp hZ;refine azb (ai hmax (ai l0 l1)) ?_;refine use (hnp _) ?_;have hbad:=Ex ((e !=0||decide (x<0)));obtain⟨b,hb⟩:=hbad;rw[hb]at hZ;subst hZ;by_cases he:e=0
   ·have e1:(e !=0)=false:=by simp[he]
    rw[e1,Yr]at hb;refine azb (ai e1 (ai hb (ai l0 l1))) ?_;refine use (hsk ⟨t.drop n,b⟩ _ rfl) ?_;refine azb ti ?_;exact⟨_,le_refl _,_,rfl,rfl,rfl⟩
   ·have e1:(e !=0)=true:=by simp[he]
    rw[e1,YR]at hb;subst hb;refine azb (ai e1 (ai l0 l1)) ?_;refine use (hsk ⟨t.drop n,true⟩ _ rfl) ?_;refine azb ti ?_;exact⟨_,le_refl _,_,rfl,rfl,rfl⟩
  ·rw[hQ,if_pos rfl]at hZ;refine azb ti ?_;refine use (hu _) ?_;have hw:=Str.unquote_width t;have hv:=Str.unquote_valid t;obtain⟨⟨us,un,ue⟩,hue⟩:=Ex (Str.unquote t);rw[hue]at hZ hw hv⊢;dsimp only at hZ hw hv⊢;by_cases he:ue=0
   rotate_left
   ·have e1:(ue !=0)=true:=by simp[he]
    rw[if_pos (.inl he)]at hZ;subst hZ;refine azb e1 ?_;exact⟨_,le_refl _,_,rfl,rfl,rfl⟩
   have e1:(ue !=0)=false:=by simp[he]
   have hul:us.length≤2000000:=by
    have:=hv he;unfold Str.valid at this;rw[Zc,Zm]at this;omega
   have l1:(un:Int)≤(t.length:Int):=by have:=hw he;omega
   have l0:(0:Int)≤(un:Int):=by omega
   refine azb (ai e1 (ai l0 l1)) ?_;refine use (cyf us hul _) ?_;cases hne:Str.quote us !=t.take un
   ·rw[if_neg (by rintro(h|h);exact h he;rw[bne_eq_false_iff_eq]at hne;exact h hne)]at hZ;subst hZ;refine azb (ai e1 (ai hne (ai l0 l1))) ?_;refine use (hsk ⟨t.drop un,false⟩ _ rfl) ?_;refine azb ti ?_;exact⟨_,le_refl _,_,rfl,rfl,rfl⟩
   ·rw[if_pos (.inr (Y8.1 hne))]at hZ;subst hZ;refine azb (ai e1 (ai hne (ai l0 l1))) ?_;exact⟨_,le_refl _,_,rfl,rfl,rfl⟩
 refine(ACall.lift1 key rfl (axc r) ?_ hb).mono ?_
 ·rintro v b' ⟨rfl,rfl⟩;exact⟨rfl,axc _⟩
 ·rintro v h' ⟨b',⟨rfl,rfl⟩,rfl⟩;exact⟨rfl,rfl⟩
end AX
namespace Adr
theorem has_len(p:List UInt8)(r:Rd):(hasP p r).2.rest.length≤r.rest.length:=by
 unfold hasP;split
 ·rw[Zv];omega
 ·exact Zf _
theorem has_less(p:List UInt8)(r:Rd)(h:begins r.rest p=true):(hasP p r).2.rest.length+p.length=r.rest.length:=by
 have:=begins_len h;unfold hasP;rw[if_pos h];dsimp only;rw[Zv];omega
theorem takeW_len{p:UInt8→Bool}(s:List UInt8):(s.takeWhile p).length≤s.length:=List.Sublist.length_le (List.takeWhile_sublist p)
theorem dropW_len{p:UInt8→Bool}(s:List UInt8):(s.dropWhile p).length≤s.length:=List.Sublist.length_le (List.dropWhile_sublist p)
theorem word_len(r:Rd):(wordP r).2.rest.length≤r.rest.length∧(wordP r).1.length≤r.rest.length:=⟨dropW_len _,takeW_len _⟩
theorem skip_len(p:List UInt8)(r:Rd):(skipP p r).rest.length≤r.rest.length:=by
 unfold skipP;split
 ·dsimp only;rw[Zv];omega
 ·exact Zf _
theorem key_len(r:Rd):(keyP r).2.rest.length≤r.rest.length:=by
 unfold keyP;split
 ·exact Zf _
 ·split
  ·exact Zf _
  ·dsimp only;split
   ·split
    ·dsimp only;rw[Zv];omega
    ·refine Zl (skip_len _ _) ?_;dsimp only;rw[Zv,Zv];omega
   ·refine Zl (skip_len _ _) ?_;dsimp only;rw[Zv,Zv];omega
theorem step_len(r:Rd):(stepP r).2.rest.length≤r.rest.length:=Zl (key_len _) (word_len r).1
end Adr
namespace AX
theorem cy8(r:Adr.Rd)(hl:r.rest.length≤2000000){h:Hp}{i:Nat}(hb:h.b[i]?=some (adB r)):
  AC 145 [.ptr i 0] h fun v h'=>v=.agg (Adr.stepP r).1.cells∧h'=⟨h.b.set i (adB (Adr.stepP r).2),h.t⟩:=by
 have key:AC 145 [.ptr 0 0] ⟨[adB r],[]⟩ fun v h'=>∃b',h'.b[0]?=some b'∧v=.agg (Adr.stepP r).1.cells∧b'=adB (Adr.stepP r).2:=by
  refine fo ?_;have hw:=fun h hb=>cqr r hl (h:=h) (i:=0) hb
  have hk:=fun h hb=>dzh (Adr.wordP r).2 (Zl (Adr.word_len r).1 hl) (h:=h) (i:=0) hb
  have hS:Adr.stepP r=(⟨(Adr.wordP r).1,(Adr.keyP (Adr.wordP r).2).1⟩,(Adr.keyP (Adr.wordP r).2).2):=rfl;rw[hS];obtain⟨⟨w,r1⟩,h1⟩:=Ex (Adr.wordP r);rw[h1]at hw hk⊢;dsimp only at hw hk⊢;obtain⟨⟨⟨kd,kn,ks⟩,r2⟩,h2⟩:=Ex (Adr.keyP r1);rw[h2]at hk⊢;dsimp only[Adr.K.A]at hk⊢;unfold adB at hw hk⊢;refine azb ti ?_;refine use (hw _ rfl) ?_;refine azb ti ?_;refine use (hk _ rfl) ?_;refine azb ti ?_;exact⟨_,le_refl _,_,rfl,rfl,rfl⟩
 refine(ACall.lift1 key rfl (axc r) ?_ hb).mono ?_
 ·rintro v b' ⟨rfl,rfl⟩;exact⟨rfl,axc _⟩
 ·rintro v h' ⟨b',⟨rfl,rfl⟩,rfl⟩;exact⟨rfl,rfl⟩
theorem czf(s:List UInt8)(hs:s.length≤2000000)(h:Hp):AT 105 [.str s] h (.tup [.agg (Adr.parse s).1.cells,.int .i64 (Adr.parse s).2]):=by
 rw[←Adr.parse_eq];refine pcall ?_ rfl (by simp[A.pure,A.data]) h;refine fo ?_;obtain⟨⟨M,RM⟩,hM⟩:=Ex (Adr.modsP (s.length+1) ⟨s,false⟩ []);obtain⟨F,hF⟩:=Ex (Adr.parseP s);rw[hF];unfold Adr.parseP at hF;rw[hM]at hF;dsimp only at hF;refine azb ti ?_
 refine azf (fun mm ts h=>∃(r:Adr.Rd) (l:List Adr.Step) (W:Nat) (o:Own) (t:List (TypeId×Nat×Nat)),r.rest.length<mm∧mm+l.length=s.length+1∧Adr.modsP mm r l=(M,RM) ∧
  h=⟨[.cells 177 [.sl 0 .nil [],.bool false,.str [],.str [],.int .i64 0,.int .i64 0,.str []],.cells 207 [.str r.rest,.bool r.bad],.cells 177 [.sl W o (l.map Adr.Step.cells),.bool false,.str [],.str [],.int .i64 0,.int .i64 0,.str []]],t⟩ ∧
  Gs 209 4 0 ⟨[],t⟩ (l.map Adr.Step.cells) (.sl W o (l.map Adr.Step.cells))∧ts 2=.ptr 0 0∧ts 3=.int .i64 0∧ts 4=.ptr 1 0∧ts 5=.ptr 2 0) (s.length+1) ?_ ?_
 ·exact⟨⟨s,false⟩,[],0,.nil,[],by dsimp only;omega,by simp,hM,rfl,.inl ⟨rfl,rfl⟩,by(exact ev0 ti),by(exact ev0 ti),by(exact ev0 ti),by(exact ev0 ti)⟩
 rintro mm ts h ⟨r,l,W,o,t,hrm,hml,hmod,rfl,gX,t2,t3,t4,t5⟩;cases mm with
 |zero=>omega
 |succ f=>
 unfold Adr.modsP at hmod;by_cases hgo:r.bad=false∧Adr.begins r.rest Adr.modW=true
 ·rw[if_pos hgo]at hmod;have hmw:Adr.modW=[109,111,100,117,108,101,46]:=rfl;have cH:=fun h hb=>cx7 Adr.modW r (h:=h) (i:=1) hb
  have l1:=Adr.has_less Adr.modW r hgo.2;have hh1:(Adr.hasP Adr.modW r).1=true:=by unfold Adr.hasP;rw[if_pos hgo.2]
  rw[hh1]at cH;have l7:Adr.modW.length=7:=rfl;have hr0:r.bad=false:=hgo.1;obtain⟨r1,hr1⟩:=Ex ((Adr.hasP Adr.modW r).2);rw[hr1]at cH l1 hmod;have cS:=fun h hb=>cy8 r1 (by omega) (h:=h) (i:=1) hb
  have l2:=Adr.step_len r1;obtain⟨⟨⟨nm,⟨kd,kn,ks⟩⟩,r2⟩,hr2⟩:=Ex (Adr.stepP r1);rw[hr2]at cS l2 hmod;dsimp only[Adr.Step.cells]at cS l2 hmod;have cK:=fun h hb=>czh [46] r2 (h:=h) (i:=1) hb
  have l3:=Adr.skip_len [46] r2;obtain⟨r3,hr3⟩:=Ex (Adr.skipP [46] r2);rw[hr3]at cK l3 hmod;unfold adB at cH cS cK;rw[hmw]at cH;rw[hr0]at cH;obtain⟨W',o',t',hX,gX',_⟩:=gX.grow 48 [.str nm,.int .i64 kd,.int .i64 kn,.str ks] (by rw[Zj];omega) (by decide);have hcat:l.map Adr.Step.cells++[[.str nm,.int .i64 kd,.int .i64 kn,.str ks]]=(l++[(⟨nm,⟨kd,kn,ks⟩⟩:Adr.Step)]).map Adr.Step.cells:=by rw[Zam];rfl
  rw[hcat]at gX';simp only[hcat]at hX;rw[hr0];refine azb (ai t2 (ai t3 (ai t4 t5))) ?_;refine use (cH _ rfl) ?_;refine azb (ai t2 (ai t3 (ai t4 t5))) ?_;refine use (cS _ rfl) ?_;refine azb (ai t2 (ai t3 (ai t4 (ai t5 hX)))) ?_;refine use (cK _ rfl) ?_;refine azb (ai t2 (ai t3 (ai t4 t5))) ?_;exact⟨f,by omega,r3,l++[(⟨nm,⟨kd,kn,ks⟩⟩:Adr.Step)],W',o',t',by omega,by simp;omega,hmod,rfl,gX',by(exact ev0 t2),by(exact ev0 t3),by(exact ev0 t4),by(exact ev0 t5)⟩
 ·rw[if_neg hgo]at hmod;injection hmod with hm1 hm2;subst hm1;subst hm2;have cD:=fun h hb=>cx7 Adr.dataW r (h:=h) (i:=1) hb
  have l1:=Adr.has_len Adr.dataW r;obtain⟨⟨dt,r1⟩,hr1⟩:=Ex (Adr.hasP Adr.dataW r);rw[hr1]at cD l1 hF;dsimp only at cD l1 hF;have cT:=fun h hb=>cqr r1 (by omega) (h:=h) (i:=1) hb
  have l2:=Adr.word_len r1;obtain⟨⟨ty,r2⟩,hr2⟩:=Ex (Adr.wordP r1);rw[hr2]at cT l2 hF;dsimp only at cT l2 hF;have cK:=fun h hb=>czh [46] r2 (h:=h) (i:=1) hb
  have l3:=Adr.skip_len [46] r2;obtain⟨r3,hr3⟩:=Ex (Adr.skipP [46] r2);rw[hr3]at cK l3 hF;have cN:=fun h hb=>cqr r3 (by omega) (h:=h) (i:=1) hb
  have l4:=Adr.word_len r3;obtain⟨⟨na,r4⟩,hr4⟩:=Ex (Adr.wordP r3);rw[hr4]at cN l4 hF;dsimp only at cN l4 hF;have cY:=fun h hb=>dzh r4 (by omega) (h:=h) (i:=1) hb
  have l5:=Adr.key_len r4;obtain⟨⟨⟨kd,kn,ks⟩,⟨re,ba⟩⟩,hr5⟩:=Ex (Adr.keyP r4);rw[hr5]at cY l5 hF;dsimp only[Adr.K.A]at cY l5 hF;have ck:=fun h=>ckf ty (by omega) h
  unfold adB at cD cT cK cN cY;have hdw:Adr.dataW=[100,97,116,97,46]:=rfl;rw[hdw]at cD;have start:∀{G:Prop},(r.bad=true→G)→(r.bad=false→Adr.begins r.rest Adr.modW=false→G)→G:=fun p q=>by
   cases hb:r.bad
   ·refine q hb ?_;cases hB:Adr.begins r.rest Adr.modW
    ·rfl
    ·exact absurd ⟨hb,hB⟩ hgo
   ·exact p hb
  have lx:=Gs.le gX;refine start (fun hb=>?_) (fun hb hB=>?_)
  ·rw[hb]at cD⊢;refine azb (ai t2 (ai t3 (ai t4 t5))) ?_;refine use (cD _ rfl) ?_;refine azb (ai t2 (ai t3 (ai t4 t5))) ?_;refine use (cT _ rfl) ?_;refine azb (ai t2 (ai t3 (ai t4 t5))) ?_;refine use (cK _ rfl) ?_;refine azb (ai t2 (ai t3 (ai t4 t5))) ?_;refine use (cN _ rfl) ?_;refine azb (ai t2 (ai t3 (ai t4 t5))) ?_;refine use (cY _ rfl) ?_;have zle:leL [.sl 0 .nil [],.bool false,.str [],.str [],.int .i64 0,.int .i64 0,.str []] Adr.Ad.zero.cells:=⟨⟨rfl,.inr rfl,.inl rfl⟩,rfl,rfl,rfl,rfl,rfl,rfl,trivial⟩;cases ba;rotate_left
   ·rw[if_pos (.inl rfl)]at hF;subst hF;refine azb (ai t2 (ai t3 (ai t4 t5))) ?_;exact⟨.tup [.agg Adr.Ad.zero.cells,.int .i64 2],⟨zle,rfl,trivial⟩,rfl⟩
   cases hre:re != [];rotate_left
   ·rw[if_pos (.inr (.inl (Y8.1 hre)))]at hF;subst hF;refine azb (ai t2 (ai t3 (ai t4 (ai t5 hre)))) ?_;exact⟨.tup [.agg Adr.Ad.zero.cells,.int .i64 2],⟨zle,rfl,trivial⟩,rfl⟩
   refine azb (ai t2 (ai t3 (ai t4 (ai t5 hre)))) ?_;refine use (ck _) ?_;cases hkb:Adr.kindB ty
   ·rw[if_pos (.inr (.inr hkb))]at hF;subst hF;refine azb (ai t2 (ai t3 (ai t4 t5))) ?_;exact⟨.tup [.agg Adr.Ad.zero.cells,.int .i64 2],⟨zle,rfl,trivial⟩,rfl⟩
   rw[if_neg (by rintro(h|h|h);cases h;rw[bne_eq_false_iff_eq]at hre;exact h hre;rw[hkb]at h;cases h)]at hF;have lm:(l.map Adr.Step.cells).length=l.length:=Zj ..;by_cases hlen:(l.length:Int)>16
   ·rw[if_pos (by omega)]at hF;subst hF;refine azb (ai t2 (ai t3 (ai t4 (ai t5 (ai lm hlen))))) ?_;exact⟨.tup [.agg Adr.Ad.zero.cells,.int .i64 4],⟨zle,rfl,trivial⟩,rfl⟩
   ·rw[if_neg (by omega)]at hF;subst hF;refine azb (ai t2 (ai t3 (ai t4 (ai t5 (ai lm hlen))))) ?_;exact⟨.tup [.agg (Adr.Ad.cells ⟨l,dt,ty,na,⟨kd,kn,ks⟩⟩),.int .i64 0],⟨⟨lx,rfl,rfl,rfl,rfl,rfl,rfl,trivial⟩,rfl,trivial⟩,rfl⟩
  ·rw[hb]at cD⊢;have cH:=fun h hb=>cx7 Adr.modW r (h:=h) (i:=1) hb
   have hh1:Adr.hasP Adr.modW r=(false,r):=by unfold Adr.hasP;rw[hB,if_neg (by decide)]
   have hmw:Adr.modW=[109,111,100,117,108,101,46]:=rfl;rw[hh1,hmw]at cH;unfold adB at cH;rw[hb]at cH;refine azb (ai t2 (ai t3 (ai t4 t5))) ?_;refine use (cH _ rfl) ?_;refine azb (ai t2 (ai t3 (ai t4 t5))) ?_;refine use (cD _ rfl) ?_;refine azb (ai t2 (ai t3 (ai t4 t5))) ?_;refine use (cT _ rfl) ?_;refine azb (ai t2 (ai t3 (ai t4 t5))) ?_;refine use (cK _ rfl) ?_;refine azb (ai t2 (ai t3 (ai t4 t5))) ?_;refine use (cN _ rfl) ?_;refine azb (ai t2 (ai t3 (ai t4 t5))) ?_;refine use (cY _ rfl) ?_;have zle:leL [.sl 0 .nil [],.bool false,.str [],.str [],.int .i64 0,.int .i64 0,.str []] Adr.Ad.zero.cells:=⟨⟨rfl,.inr rfl,.inl rfl⟩,rfl,rfl,rfl,rfl,rfl,rfl,trivial⟩;cases ba;rotate_left
   ·rw[if_pos (.inl rfl)]at hF;subst hF;refine azb (ai t2 (ai t3 (ai t4 t5))) ?_;exact⟨.tup [.agg Adr.Ad.zero.cells,.int .i64 2],⟨zle,rfl,trivial⟩,rfl⟩
   cases hre:re != [];rotate_left
   ·rw[if_pos (.inr (.inl (Y8.1 hre)))]at hF;subst hF;refine azb (ai t2 (ai t3 (ai t4 (ai t5 hre)))) ?_;exact⟨.tup [.agg Adr.Ad.zero.cells,.int .i64 2],⟨zle,rfl,trivial⟩,rfl⟩
   refine azb (ai t2 (ai t3 (ai t4 (ai t5 hre)))) ?_;refine use (ck _) ?_;cases hkb:Adr.kindB ty
   ·rw[if_pos (.inr (.inr hkb))]at hF;subst hF;refine azb (ai t2 (ai t3 (ai t4 t5))) ?_;exact⟨.tup [.agg Adr.Ad.zero.cells,.int .i64 2],⟨zle,rfl,trivial⟩,rfl⟩
   rw[if_neg (by rintro(h|h|h);cases h;rw[bne_eq_false_iff_eq]at hre;exact h hre;rw[hkb]at h;cases h)]at hF;have lm:(l.map Adr.Step.cells).length=l.length:=Zj ..;by_cases hlen:(l.length:Int)>16
   ·rw[if_pos (by omega)]at hF;subst hF;refine azb (ai t2 (ai t3 (ai t4 (ai t5 (ai lm hlen))))) ?_;exact⟨.tup [.agg Adr.Ad.zero.cells,.int .i64 4],⟨zle,rfl,trivial⟩,rfl⟩
   ·rw[if_neg (by omega)]at hF;subst hF;refine azb (ai t2 (ai t3 (ai t4 (ai t5 (ai lm hlen))))) ?_;exact⟨.tup [.agg (Adr.Ad.cells ⟨l,dt,ty,na,⟨kd,kn,ks⟩⟩),.int .i64 0],⟨⟨lx,rfl,rfl,rfl,rfl,rfl,rfl,trivial⟩,rfl,trivial⟩,rfl⟩
end AX
end
section
open Go.RowKit
namespace AX
section
variable {P:Program} {G:World→Prop} {C:Ctx} {h:Hp}
def Fz1(h:Hp)(x y:A):Prop:=(x=y∧x.data=true)∨∃i W T rows,x=.bs i W rows.length∧h.b[i]?=some (.row T rows.flatten)∧y=.sl W .no rows∧(∀r∈rows,r.length=W)∧rows.flatten.all A.data=true
def FzL(h:Hp):List A→List A→Prop
 |[],[]=>True
 |x::l,y::m=>Fz1 h x y∧FzL h l m
 |_,_=>False
theorem FzL.data{h:Hp}:∀{l m:List A},FzL h l m→m.all A.data=true
 |[],[],_=>rfl
 |x::l,y::m,hf=>by
  rw[ZC,Zc];refine⟨?_,FzL.data hf.2⟩;rcases hf.1 with⟨rfl,hd⟩|⟨i,W,T,rows,_,_,rfl,_,_⟩
  ·exact hd
  ·rfl
 |[],_::_,hf=>hf.elim
 |_::_,[],hf=>hf.elim
theorem pcallz{f:FuncId}{args:List A}{ys:List A}(hc:ACall P G f args ⟨[],[]⟩ fun v h'=>∃xs,v=.agg xs∧FzL h' xs ys)(ha:args.all A.pure=true)(h:Hp):ACall P G f args h fun v h'=>v=.agg ys∧h'=h:=by
 intro C cs hI hr;have hid:Inv G C.hid ⟨[],[]⟩:=by
  refine⟨rfl,fun i b hb=>by simp at hb,fun i hi=>by simp[Ctx.hid]at hi,fun g i hg=>by simp[Ctx.hid]at hg,fun g j hs=>?_,fun t E W m ht=>by simp[Ctx.hid]at ht,fun t t' ht=>by simp[Ctx.hid]at ht,fun t=>by simp[Ctx.hid],hI.base,hI.glob⟩;exact⟨(hI.prot g j hs).1,rfl,fun t E W m ht=>by simp[Ctx.hid]at ht⟩
 refine(hc C.hid cs hid (RepL.pures (C:=C) (C':=C.hid) ⟨fun g j hs=>⟨hs,rfl⟩⟩ args cs ha hr)).mono ?_;rintro e w' ⟨C1,h1,v,cv,rfl,rfl,I1,S1,r1,xs,rfl,hf⟩;have hblk:∀g,g<C.w.heap.size→C1.w.heap[g]?=C.w.heap[g]?:=fun g hg=>S1.frame g hg rfl fun t ht=>by simp[Ctx.hid]at ht
 have hnew:∀g i,C1.own g=some i→C.w.heap.size≤g:=fun g i hg=>by
  rcases Z7 g C.w.heap.size with hlt|hge
  ·have:=S1.own g hlt;rw[hg]at this;simp[Ctx.hid]at this
  ·exact hge
 let C2:Ctx:={ C with w:=C1.w,S:=fun g j=>C1.S g j∨((C1.own g).isSome=true),own:=fun g=>if g<C.w.heap.size then C.own g else none }
 have hsz:C.w.heap.size≤C1.w.heap.size:=S1.size;have he:Ext C C2:=by
  refine⟨fun g j hs=>?_,Zf _,fun _ _=>rfl,fun t E W m ht=>?_⟩
  ·obtain⟨k1,k2⟩:=S1.ext.cells g j hs;exact⟨.inl k1,k2⟩
  ·obtain⟨_,_,cap,h2,_⟩:=hI.rows t E W m ht;exact⟨m,ht,.inr ⟨rfl,rfl,fun cap hc=>hc.same (hblk _ h2.lt)⟩⟩
 have hown:∀g i,C2.own g=some i↔C.own g=some i:=fun g i=>by
  show(if g<C.w.heap.size then C.own g else none)=some i↔_
  split
  ·exact Iff.rfl
  ·next hg=>exact⟨fun e=>(by cases e),fun e=>absurd (hI.ownlt g i e).2.1 hg⟩
 have hprot:∀g j,C2.S g j→C.S g j∨C.w.heap.size≤g:=fun g j hs=>by
  rcases hs with hs|hs
  ·rcases S1.prot g j hs with h2|h2|⟨t,h2,_⟩
   ·exact .inl h2
   ·exact .inr h2
   ·simp[Ctx.hid]at h2
  ·obtain⟨i,hi⟩:=Option.isSome_iff_exists.1 hs;exact .inr (hnew g i hi)
 have hSlt:∀g j,C2.S g j→g<C1.w.heap.size:=fun g j hs=>by
  rcases hs with hs|hs
  ·exact(I1.prot g j hs).1
  ·obtain⟨i,hi⟩:=Option.isSome_iff_exists.1 hs;exact(I1.ownlt g i hi).2.1
 have hsame:Same C1 C2:=⟨fun g j hs=>⟨.inl hs,rfl⟩⟩;have frz:∀(xs ys:List A) (vs:List Value),FzL h1 xs ys→RepL C1 xs vs→RepL C2 ys vs:=by
  intro xs;induction xs with
  |nil=>
   intro ys vs hf hr;cases ys with
   |nil=>exact hr
   |cons y ys=>exact hf.elim
  |cons x xs ih=>
   intro ys vs hf hr;cases ys with
   |nil=>exact hf.elim
   |cons y ys=>
    obtain⟨c,cs',rfl,k1,k2⟩:=repL_cons.1 hr;refine repL_cons.2 ⟨c,cs',rfl,?_,ih ys cs' hf.2 k2⟩;rcases hf.1 with⟨rfl,hd⟩|⟨i,W,T,rows,rfl,hb,rfl,hW,hd⟩
    ·exact Rep.same hsame _ _ hd k1
    ·obtain⟨cap,rfl,hcap,hi⟩:=rep_bs.1 k1;obtain⟨ds,rest,q1,q2⟩:=I1.box i _ hb;have hsd:(C1.own (C1.κ i)).isSome=true:=by rw[I1.ownk i hi];rfl
     have hdd:∀(l:List A) (ds:List Value),l.all A.data=true→RepL C1 l ds→RepL C2 l ds:=fun l ds hd hr=>RepL.same hsame l ds hd hr
     refine rep_sl.2 ⟨_,cap,rfl,hcap,aqm rows ds 0 hW hd (hdd _ _ hd q2) (fun j _=> .inr hsd) (fun j u hu=>?_),trivial⟩;have q1':C2.w.heap[C1.κ i]?=some (.cells (ds++rest).toArray T (0,0)):=q1;rw[cell_of_row _ _ _ _ _ _ q1'];have hj:j<ds.length:=(Zd.1 hu).1;simp only[List.getElem?_toArray];rw[show 0+0*W+j=j by omega,ZO hj];exact hu
 refine⟨C2,h,.agg ys,cv,rfl,rfl,⟨hI.nb,fun i b hib=>?_,fun i hi=>(hown _ _).2 (hI.ownk i hi),fun g i hg=>?_,fun g j hs=>?_,fun t E W m ht=>?_,hI.inj,hI.toks,Zl hI.base hsz,fun w2 hw=>?_⟩,⟨he,S1.os,S1.tape,S1.output,hsz,rfl,fun g hg _ _=>hblk g hg,fun g hg=>?_,fun g j hs=>?_,fun t ht=> .inr ⟨ht,rfl⟩⟩,?_,rfl,rfl⟩
 ·have hi:i<C.nb:=by rw[←hI.nb];exact(Zd.1 hib).1
  exact(hI.box i b hib).ext he hi (hI.ownk i hi) (fun g j hg=>(hI.ownlt g j hg).2.1) (fun g hg=>hblk g (hI.ownlt g i hg).2.1) (fun g=>hown g i) hsz
 ·obtain⟨k1,k2,k3⟩:=hI.ownlt g i ((hown g i).1 hg);exact⟨k1,ZK k2 hsz,k3⟩
 ·have hlt:=hSlt g j hs;rcases hprot g j hs with h2|h2
  ·obtain⟨k1,k2,k3⟩:=hI.prot g j h2;exact⟨hlt,by show(if g<C.w.heap.size then C.own g else none)=none;rw[if_pos k1,k2],k3⟩
  ·refine⟨hlt,by show(if g<C.w.heap.size then C.own g else none)=none;rw[if_neg (by omega)],fun t E W m ht e=>?_⟩;obtain⟨_,_,cap,k1,_⟩:=hI.rows t E W m ht;have:=k1.lt;have e':C.τ t=g:=e;omega
 ·obtain⟨k1,k2,cap,k3,k4⟩:=hI.rows t E W m ht;exact⟨by show(if C.τ t<C.w.heap.size then C.own (C.τ t)else none)=none;rw[if_pos k3.lt,k1],k2,cap,k3.same (hblk _ k3.lt),k4⟩
 ·exact hI.glob w2 fun g hg=>(hw g hg).trans (hblk g (ZK hg hI.base))
 ·show(if g<C.w.heap.size then C.own g else none)=C.own g
  rw[if_pos hg]
 ·rcases hprot g j hs with h2|h2
  ·exact .inl h2
  ·exact .inr (.inl h2)
 ·obtain⟨vs,rfl,hl⟩:=rep_agg.1 r1;exact rep_agg.2 ⟨vs,rfl,frz xs ys vs hf hl⟩
end
end AX
end
section
open Go.RowKit
theorem bju(b off n c:Nat)(news:List Value)(w:World)(hl:news.length=n*4)(hn:0<n)(hbig:n*48≤140737488355328)(hmax:n≤maxLen)(hc:∀j v,news[j]?=some v→w.cell? ((⟨b,off,none⟩:Addr).add j)=some v)(h1:∀u∈news,u.oneCell'=true):
  Calls Tryz.prog 191 #[.slice (some ⟨b,off,none⟩) n c] w fun e w'=>∃v',e=.returned v'∧w'.ownsRow w.heap.size 209 4 v' n news∧Below w.heap.size w w':=by
 obtain⟨i0,hi,hz0,hz1,hz2⟩:=info_parts (show(Tryz.prog.info? 209).map (fun i=>(i.zero,i.size,i.bytes))=some (some (.agg #[.string ⟨#[]⟩,.int .i64 0,.int .i64 0,.string ⟨#[]⟩]),4,48) by kernel_rfl);have q22:∀(w:World) (a:Option Addr) (n c n' c':Nat),(binOp .eql 172 (.slice a n c) (.slice none n' c')).run Tryz.prog w=.ok (.bool a.isNone) w:=fun w a n c n' c'=>Lib.run_eql_slice_nil w _ _ a n c n' c' Tryz.underlying172
 have u22:∀w,Sem.run Tryz.prog (underlying 172) w=.ok (TypeDesc.slice 209) w:=run_underlying Tryz.underlying172;have HC:=kept hc;have H1:=kept h1;clear hc h1;go_enter Tryz.func191,Tryz.ntmps191;go_wp2_with (at_builtin;refine wpList_append_own _ rfl _ _ 172 rfl w.heap.size 209 i0 (.agg #[.string ⟨#[]⟩,.int .i64 0,.int .i64 0,.string ⟨#[]⟩]) 4 48 Tryz.underlying172 hi hz0 hz1 hz2 rfl (by decide) _ _ _ rfl (World.ownsRow_made w #[] 0 (Zf _) (Zz _) rfl) ⟨b,off,none⟩ n c news rfl ?qc1 ?qc2 ?qc3 ?qc4 ?qc5 ?qc6 ?_)
 case qc1=>exact hl
 case qc2=>
  intro j u hj;have:=HC.out j u hj;rw[Addr.add_lit]at this⊢;exact Lib.cell?_alloc_some _ this
 case qc3=>exact H1.out
 case qc4=>omega
 case qc5=>omega
 case qc6=>simp
 intro v' w1 hown hgrow hnil;have Hb:=kept (((Below.refl _ w).alloc (Zf _) (.cells #[] 209)).grown hgrow (by simp) (by intro k hk;simp[Value.ownBlock]at hk;omega));have Ho:=kept (show w1.ownsRow w.heap.size 209 4 v' n news by simpa using hown);clear hown hgrow hnil HC H1;go_wp2
 go_ret
 exact⟨v',rfl,Ho.out,Hb.out⟩
theorem bxa(a:Option Addr)(c:Nat)(w:World):
  Calls Tryz.prog 191 #[.slice a 0 c] w fun e w'=>(∃a' c',e=.returned (.slice a' 0 c'))∧Below w.heap.size w w':=by
 have q22:∀(w:World) (a:Option Addr) (n c n' c':Nat),(binOp .eql 172 (.slice a n c) (.slice none n' c')).run Tryz.prog w=.ok (.bool a.isNone) w:=fun w a n c n' c'=>Lib.run_eql_slice_nil w _ _ a n c n' c' Tryz.underlying172
 have u22:∀w,Sem.run Tryz.prog (underlying 172) w=.ok (TypeDesc.slice 209) w:=run_underlying Tryz.underlying172;cases a with
 |none=>
  go_enter Tryz.func191,Tryz.ntmps191;go_wp2
  go_ret
  exact⟨⟨_,_,rfl⟩,Below.refl _ _⟩
 |some ad=>
  obtain⟨i0,hi,hz0,hz1,hz2⟩:=info_parts (show(Tryz.prog.info? 209).map (fun i=>(i.zero,i.size,i.bytes))=some (some (.agg #[.string ⟨#[]⟩,.int .i64 0,.int .i64 0,.string ⟨#[]⟩]),4,48) by kernel_rfl);go_enter Tryz.func191,Tryz.ntmps191;go_wp2_with (at_builtin;refine wpList_append_own _ rfl _ _ 172 rfl w.heap.size 209 i0 (.agg #[.string ⟨#[]⟩,.int .i64 0,.int .i64 0,.string ⟨#[]⟩]) 4 48 Tryz.underlying172 hi hz0 hz1 hz2 rfl (by decide) _ _ _ rfl (World.ownsRow_made w #[] 0 (Zf _) (Zz _) rfl) ad 0 c [] rfl rfl (by intro j u hj;simp at hj) (by intro u hu;cases hu) (by unfold maxLen;omega) (by omega) (by simp) ?_);intro v' w1 hown hgrow hnil;have Hb:=kept (((Below.refl _ w).alloc (Zf _) (.cells #[] 209)).grown hgrow (by simp) (by intro k hk;simp[Value.ownBlock]at hk;omega));have Hv:∃a' c',v'=.slice a' 0 c':=by
   rcases hown.2 with⟨rfl,_⟩|⟨g,cap,cur,rfl,_⟩
   ·exact⟨_,_,rfl⟩
   ·exact⟨_,_,rfl⟩
  obtain⟨a',c',rfl⟩:=Hv;clear hown hgrow hnil;go_wp2
  go_ret
  exact⟨⟨_,_,rfl⟩,Hb.out⟩
namespace AX
theorem aya(W0:Nat)(o:Own)(h:Hp):AT 191 [.sl W0 o []] h (.sl 4 .no []):=by
 intro C es hI ha;obtain⟨c,es',rfl,h1,h2⟩:=repL_cons.1 ha;rw[repL_nil]at h2;subst h2;obtain⟨a,cap,rfl,_,_,_⟩:=rep_sl.1 h1;refine(bxa a cap C.w).mono ?_;rintro e w' ⟨⟨a',c',rfl⟩,hb⟩;obtain⟨i1,s1⟩:=aq0 hI hb;exact⟨C.at w',h,.sl 4 .no [],_,rfl,rfl,i1,s1,rep_sl.2 ⟨a',c',rfl,Zz _,by unfold RepRows;trivial,trivial⟩,rfl,rfl⟩
theorem bz6(o:Own)(rows:List (List A))(h0:rows≠[])(hbig:rows.length*48≤140737488355328)(hmax:rows.length≤maxLen)(h:Hp):
  AC 191 [.sl 4 o rows] h fun v h'=>v=.bs h.b.length 4 rows.length∧h'=⟨h.b++[.row 209 rows.flatten],h.t⟩:=by
 intro C es hI ha;obtain⟨c,es',rfl,h1,h2⟩:=repL_cons.1 ha;rw[repL_nil]at h2;subst h2;have hpos:0<rows.length:=YK.2 h0;obtain⟨g,off,cap,cs,rfl,k1,k2,k3,k4,k5⟩:=bje h1 hpos;refine(bju g off rows.length cap cs C.w k2 hpos hbig hmax k5 (aj6 k1 (bza k3))).mono ?_;rintro e w' ⟨v',rfl,hown,hb⟩;rcases hown.2 with⟨_,hz⟩|⟨g',cap',cur,rfl,hg,hh,hcap,_,hcs,htake⟩
 ·omega
 ·have hcur:cur=(cs++cur.toList.drop (rows.length*4)).toArray:=by
   apply Yi.1;rw[←htake];simp
  rw[hcur]at hh;obtain⟨C',m1,m2,m3,m4,m5⟩:=bym hI hb hg hh k1;exact⟨C',_,.bs h.b.length 4 rows.length,_,rfl,m1,m2,m3,rep_bs.2 ⟨cap',by rw[m4],hcap,m5⟩,rfl,rfl⟩
end AX
namespace AX
theorem setCells_eq:∀(xs l:List A) (off:Nat),off+xs.length≤l.length→setCells l off xs=l.take off++xs++l.drop (off+xs.length):=by
 intro xs;induction xs with
 |nil=>intro l off _;simp[setCells]
 |cons x xs ih=>
  intro l off hlt;rw[Zh]at hlt;rw[setCells,ih _ _ (by simp;omega),List.take_add_one,Zah (by omega),List.take_set_of_le (Zf _),List.drop_set_of_lt (by omega)];simp[show off+1+xs.length=off+(xs.length+1) by omega]
def bareS(s:Adr.Step):Adr.Step:=⟨s.name,Adr.K.none⟩
def barL(mods:List Adr.Step)(j:Nat):List A:=(((mods.take j).map bareS).map Adr.Step.cells).flatten++((mods.drop j).map Adr.Step.cells).flatten
theorem ak7(l:List Adr.Step):((l.map Adr.Step.cells).flatten).length=l.length*4:=by
 induction l with
 |nil=>rfl
 |cons x l ih=>rw[ZW,YP,Za,ih];simp[Adr.Step.cells];omega
theorem bkl(mods:List Adr.Step)(j:Nat)(hj:j≤mods.length):(barL mods j).length=mods.length*4:=by
 unfold barL;rw[Za,ak7,ak7,Zj,ZQ,Zv,←YS];congr 1;omega
theorem cx3(mods:List Adr.Step)(j:Nat)(hj:j<mods.length):setCells (barL mods j) (j*4+1) [.int .i64 0,.int .i64 0,.str []]=barL mods (j+1):=by
 rw[setCells_eq _ _ _ (by rw[bkl _ _ (by omega)];simp;omega)];have hp:((((mods.take j).map bareS).map Adr.Step.cells).flatten).length=j*4:=by
  rw[ak7,Zj,ZQ];congr 1;omega
 have hd:mods.drop j=mods[j]::mods.drop (j+1):=Zr hj;have ht:mods.take (j+1)=mods.take j++[mods[j]]:=by rw[ZV hj]
 unfold barL;rw[hd,ht,Zam,Zam,List.flatten_append];generalize (((mods.take j).map bareS).map Adr.Step.cells).flatten=p at hp;obtain⟨nm,⟨kd,kn,ks⟩⟩:=mods[j];simp only[ZW,YP,Adr.Step.cells,Zo,Zk,Zh,Zy];generalize ((mods.drop (j+1)).map Adr.Step.cells).flatten=q;rw[List.take_append,ZD (by omega),List.drop_append,ZG (by omega),hp];rw[show j*4+1-j*4=1 by omega,show j*4+1+(0+1+1+1)-j*4=4 by omega];simp[bareS,Adr.K.none,Adr.Step.cells]
theorem cqb(a:Adr.Ad)(hn:a.mods.length≤3000000)(h:Hp):AT 174 [.agg a.cells] h (.agg (Adr.bare a).cells):=by
 obtain⟨mods,data,ty,nm,⟨kk,kn,ks⟩⟩:=a;dsimp only at hn;have hbc:(Adr.bare ⟨mods,data,ty,nm,⟨kk,kn,ks⟩⟩).cells=[.sl 4 .no ((mods.map fun s=>(⟨s.name,Adr.K.none⟩:Adr.Step)).map Adr.Step.cells),.bool data,.str ty,.str nm,.int .i64 0,.int .i64 0,.str []]:=rfl;rw[hbc];refine pcallz ?_ (by simp[A.pure,A.data,Adr.Ad.cells]) h;refine fo ?_;dsimp only[Adr.Ad.cells];by_cases hm:mods=[]
 ·subst hm;have hc:=fun h=>aya 4 .no h
  have hz:¬(0:Int)<((0:Nat):Int):=by decide
  simp only[Ym];refine azb ti ?_;refine use (hc _) ?_;refine azb ti ?_;refine cz4 ?_;refine azb hz ?_;exact⟨_,le_refl _,_,rfl,⟨.inl ⟨rfl,rfl⟩,.inl ⟨rfl,rfl⟩,.inl ⟨rfl,rfl⟩,.inl ⟨rfl,rfl⟩,.inl ⟨rfl,rfl⟩,.inl ⟨rfl,rfl⟩,.inl ⟨rfl,rfl⟩,trivial⟩⟩
 ·have hrne:mods.map Adr.Step.cells≠[]:=by simpa using hm
  have lm:(mods.map Adr.Step.cells).length=mods.length:=Zj ..;have hc:=fun h=>bz6 .no (mods.map Adr.Step.cells) hrne (by rw[lm];omega) (by rw[lm];unfold maxLen;omega) h
  rw[lm]at hc;refine azb ti ?_;refine use (hc _) ?_;refine azb ti ?_;have hL0:(mods.map Adr.Step.cells).flatten=barL mods 0:=by unfold barL;simp
  rw[hL0];refine azf (fun mm ts h=>∃(j:Nat) (B0:Blk),mm=mods.length-j∧j≤mods.length∧h=⟨[B0,.cells 177 [.sl 0 .nil [],.bool false,.str [],.str [],.int .i64 0,.int .i64 0,.str []],.cells 177 [.bs 3 4 mods.length,.bool data,.str ty,.str nm,.int .i64 0,.int .i64 0,.str []],.row 209 (barL mods j)],[]⟩∧ts 2=.ptr 1 0∧ts 3=.ptr 2 0∧ts 14=.int .i64 (mods.length:Nat)∧ts 15=.int .i64 (j:Nat)) mods.length ?_ ?_
  ·exact⟨0,_,by omega,by omega,rfl,by(exact ev0 ti),by(exact ev0 ti),by(exact ev0 ti),by(exact azq ti)⟩
  rintro mm ts h ⟨j,B0,rfl,hjc,rfl,t2,t3,t14,t15⟩;by_cases hj:j<mods.length
  ·have hlt:(j:Int)<(mods.length:Int):=by omega
   have hj0:(0:Int)≤(j:Int):=by omega
   have ei:IntKind.i64.wrap ((j:Int)+1)=((j+1:Nat):Int):=by rw[wrap64 (by omega) (by omega)];omega
   have hset:=cx3 mods j hj;have hln:j*4+1+3≤(barL mods j).length:=by rw[bkl _ _ (by omega)];omega
   simp only[setCells]at hset;refine azb (ai t2 (ai t3 (ai t14 (ai t15 (ai hlt (ai hj0 (ai hln (ai hset ei)))))))) ?_;exact⟨mods.length-(j+1),by omega,j+1,B0,rfl,by omega,rfl,by(exact ev0 t2),by(exact ev0 t3),by(exact ev0 t14),by(exact ev0 ei)⟩
  ·have hlt:¬((j:Int)<(mods.length:Int)):=by omega
   have hje:j=mods.length:=by omega
   subst hje;refine azb (ai t2 (ai t3 (ai t14 (ai t15 hlt)))) ?_;refine⟨_,le_refl _,_,rfl,⟨.inr ⟨3,4,209,(mods.map bareS).map Adr.Step.cells,by simp,?_,rfl,?_,?_⟩,.inl ⟨rfl,rfl⟩,.inl ⟨rfl,rfl⟩,.inl ⟨rfl,rfl⟩,.inl ⟨rfl,rfl⟩,.inl ⟨rfl,rfl⟩,.inl ⟨rfl,rfl⟩,trivial⟩⟩
   ·show some (Blk.row _ _)=some _
    congr 2;unfold barL;simp
   ·intro r hr;obtain⟨s,_,rfl⟩:=Y7.1 hr;rfl
   ·rw[List.all_flatten,ZE];intro r hr;obtain⟨s,_,rfl⟩:=Y7.1 hr;rfl
end AX
def BWtr(B b:Nat)(l:List UInt8)(w:World):Prop:=
 B≤b∧∃p v,(p=.pointer none∨p=.pointer (some ⟨b,0,none⟩))∧w.heap[b]?=some (.cells #[p,v] 73 (0,0))∧w.ownsRowF B 5 1 v l.length (Lib.byteCells l)∧v.ownBlock≠some b
def BWtrU(B b:Nat)(l:List UInt8)(w:World):Prop:=
 B≤b∧∃v,w.heap[b]?=some (.cells #[.pointer (some ⟨b,0,none⟩),v] 73 (0,0))∧w.ownsRowF B 5 1 v l.length (Lib.byteCells l)∧v.ownBlock≠some b
theorem bk3(b:Nat)(w:World)(h0:w.cell? ⟨b,0,none⟩=some (.pointer none))(hsh:w.shape? b=some (73,2))(hfz:w.frozen? ⟨b,0,none⟩=false):
  Calls Tryz.prog 61 #[.pointer (some ⟨b,0,none⟩)] w fun e w'=>e=.returned (.tuple #[])∧w'=w.setCell ⟨b,0,none⟩ (.pointer (some ⟨b,0,none⟩)):=by
 obtain⟨j,hj,hjs⟩:=Zu.1 (show(Tryz.prog.info? 73).map (·.size)=some 2 by kernel_rfl);have hlies:liesAt Tryz.prog Tryz.prog.depth 73 (2/Tryz.prog.cellsOf 73) 0 73 1=true:=by kernel_rfl
 go_enter Tryz.func61,Tryz.ntmps61;go_wp2;rw[Lib.run_to_unsafe w ⟨b,0,none⟩ Tryz.underlying70 Tryz.underlying166 hj (by rw[hjs];decide) hsh (by show 0<2;omega)];simp only[Result.andThen];rw[Oper.upon_value];go_wp2;rw[run_callFunc_extern Tryz.func98 (by kernel_rfl) (by kernel_rfl) (by kernel_rfl) (e:=Extern.AbiNoEscape.same) (by kernel_rfl)];rw[Lib.run_noEscape];simp only[Result.andThen];rw[Oper.upon_value];go_wp2;rw[Lib.run_from_unsafe w ⟨b,0,none⟩ Tryz.underlying166 Tryz.underlying70 hj hsh hlies];simp only[Result.andThen];rw[Oper.upon_value];go_wp2
 go_end0
 exact⟨rfl,rfl⟩
theorem azu{w:World}{b:Nat}{p v:Value}{T:TypeId}(h:w.heap[b]?=some (.cells #[p,v] T (0,0))):w.cell? ⟨b,0,none⟩=some p∧w.cell? ⟨b,1,none⟩=some v∧(∀i,w.frozen? ⟨b,i,none⟩=false)∧w.shape? b=some (T,2)∧b<w.heap.size:=by
 refine⟨?_,?_,fun i=>?_,?_,(Z0.1 h).1⟩
 ·rw[cell_of_row _ _ _ _ _ _ h];rfl
 ·rw[cell_of_row _ _ _ _ _ _ h];rfl
 ·simp[World.frozen?,h]
 ·simp[World.shape?,h]
theorem BWtr.used{B b:Nat}{l:List UInt8}{w:World}{p v:Value}(hB:B≤b)(hb:w.heap[b]?=some (.cells #[p,v] 73 (0,0)))(hown:w.ownsRowF B 5 1 v l.length (Lib.byteCells l))(hne:v.ownBlock≠some b):
  BWtrU B b l (w.setCell ⟨b,0,none⟩ (.pointer (some ⟨b,0,none⟩))):=by
 refine⟨hB,v,?_,?_,hne⟩
 ·simp[World.setCell,Z5,hb]
 ·exact hown.kept (row:=some b) ⟨rfl,rfl,rfl,by simp[World.setCell],fun k _ hk=>Below.heap_setCell _ _ _ _ (fun e=>hk (by simp[e]))⟩ (Or.inr hne)
def BF(F:Nat→Prop)(b:Nat)(l:List UInt8)(w:World):Prop:=
 ∃p v,(p=.pointer none∨p=.pointer (some ⟨b,0,none⟩))∧w.heap[b]?=some (.cells #[p,v] 73 (0,0))∧w.ownsRowF 0 5 1 v l.length (Lib.byteCells l)∧v.ownBlock≠some b∧F b∧∀k,v.ownBlock=some k→F k
theorem cj9{F:Nat→Prop}{b:Nat}{l:List UInt8}{w:World}(h:BF F b l w):
  Calls Tryz.prog 61 #[.pointer (some ⟨b,0,none⟩)] w fun e w'=>e=.returned (.tuple #[])∧(∃v,w'.heap[b]?=some (.cells #[.pointer (some ⟨b,0,none⟩),v] 73 (0,0))∧w'.ownsRowF 0 5 1 v l.length (Lib.byteCells l)∧v.ownBlock≠some b∧F b∧∀k,v.ownBlock=some k→F k)∧Fr F w w':=by
 obtain⟨p,v,hp,hb,hown,hne,hF,hFk⟩:=h;obtain⟨c0,c1,hf,hsh,hlt⟩:=azu hb;rcases hp with rfl|rfl
 ·refine(bk3 b w c0 hsh (hf 0)).mono ?_;rintro e w' ⟨rfl,rfl⟩;obtain⟨_,v',hb',hown',hne'⟩:=BWtr.used (B:=0) (Zz _) hb hown hne;have hv:v'=v:=by
   have:=(azu hb').2.1;have h2:(w.setCell ⟨b,0,none⟩ (.pointer (some ⟨b,0,none⟩))).heap[b]?=some (.cells #[.pointer (some ⟨b,0,none⟩),v] 73 (0,0)):=by simp[World.setCell,Z5,hb]
   have h3:=(azu h2).2.1;rw[h3]at this;injection this with this;exact this.symm
  subst hv;exact⟨rfl,⟨v',hb',hown',hne',hF,hFk⟩,Fr.set w b 0 _ hF⟩
 ·refine(Any.Builder_copyCheck_used Tryz.lays240 Tryz.Builder_X72_240 b w c0).mono ?_;rintro e w' ⟨rfl,rfl⟩;exact⟨rfl,⟨v,hb,hown,hne,hF,hFk⟩,Fr.refl F _⟩
theorem cjq{F:Nat→Prop}{b:Nat}{l:List UInt8}{w:World}(h:BF F b l w)(s:List UInt8)(hlen:l.length+s.length≤1000000000):
  Calls Tryz.prog 27 #[.pointer (some ⟨b,0,none⟩),.string ⟨s.toArray⟩] w fun e w'=>e=.returned (.tuple #[.int .i64 s.length,.nilIface])∧BF (fun k=>F k∨w.heap.size≤k) b (l++s) w'∧Fr F w w':=by
 obtain⟨i0,hi,hz0,hz1,hz2⟩:=info_parts aky;go_enter Tryz.func27,Tryz.ntmps27;go_wp2_with fail;(with_reducible refine(cj9 h).mono ?_);rintro e w1 ⟨rfl,⟨v,hbk,hown,hne,hF,hFk⟩,hb1⟩;obtain⟨c0,c1,hf,hsh,hlt⟩:=azu hbk;go_wp2_with (at_builtin;refine aq4 _ rfl _ _ 71 9 rfl 5 i0 Tryz.underlying71 Tryz.underlying9 hi hz0 hz1 hz2 _ _ _ rfl hown ⟨s.toArray⟩ rfl ?c3 ?c4 ?_)
 case c3=>rw[size_mk];unfold maxLen;omega
 case c4=>rw[size_mk];omega
 intro v' w2 hown' hgrow hwhere;have hb2:w2.heap[b]?=some (.cells #[.pointer (some ⟨b,0,none⟩),v] 73 (0,0)):=(hgrow.block b hlt (fun e=>hne e.symm)).trans hbk;obtain⟨d0,d1,hf2,_,hlt2⟩:=azu hb2;have f1:=hf2 1;have hown2:w2.ownsRowF 0 5 1 v' (l++s).length (Lib.byteCells (l++s)):=by
  have e1:(⟨s.toArray⟩:ByteArray).size=s.length:=size_mk s;have e2:Lib.byteCells l++Lib.strCells ⟨s.toArray⟩=Lib.byteCells (l++s):=by unfold Lib.strCells Lib.byteCells;simp
  rw[Za,←e2,←e1];exact hown'
 have hne2:=Lib.ownBlock_neF hown2 hb2 (show 73≠5 by decide);have hwb1:=hb1.size
 have Hfin:=kept (show BF (fun k=>F k∨w.heap.size≤k) b (l++s) (w2.setCell ⟨b,1,none⟩ v')from by
  refine⟨_,v',.inr rfl,?_,?_,hne2,.inl hF,fun k hk=>?_⟩
  ·simp[World.setCell,Z5,hb2]
  ·exact hown2.kept (row:=some b) ⟨rfl,rfl,rfl,by simp[World.setCell],fun k _ hk=>Below.heap_setCell _ _ _ _ (fun e=>hk (by simp[e]))⟩ (Or.inr hne2)
  ·rcases hwhere k hk with h1|h1
   ·exact .inl (hFk k h1)
   ·exact .inr (by omega))
 have Hfr:=kept ((hb1.trans (Fr.grown hgrow fun k hk=>hFk k hk)).trans (Fr.set w2 b 1 v' hF));obtain⟨ao,n',cap,rfl⟩:∃ao n' cap,v'=.slice ao n' cap:=by
  rcases hown'.2 with⟨hv,_⟩|⟨g,cap,cur,fz,hv,_⟩
  ·exact⟨_,_,_,hv⟩
  ·exact⟨_,_,_,hv⟩
 clear hown' hown2 hne2 hb2 hbk hown hne hgrow hb1 h hwhere;go_wp2
 go_ret2
 exact⟨by simp,Hfin.out,Hfr.out⟩
theorem byy{F:Nat→Prop}{b:Nat}{l:List UInt8}{w:World}(h:BF F b l w)(h0:l≠[]):
  Calls Tryz.prog 28 #[.pointer (some ⟨b,0,none⟩)] w fun e w'=>e=.returned (.string ⟨l.toArray⟩)∧Fr F w w':=by
 obtain⟨p,v,hp,hbk,hown,hne,hFb,hFk⟩:=h;have hl0:l.length≠0:=by simpa using h0
 obtain⟨g,cap,cur,fz,rfl,hbg,hg,hfz,hnc,hcm,hcs,htake⟩:∃g cap cur fz,v=.slice (some ⟨g,0,none⟩) l.length cap∧0≤g∧w.heap[g]?=some (.cells cur 5 fz)∧fz.2≤l.length*1∧l.length≤cap∧cap≤maxLen∧cur.size=cap*1∧cur.toList.take (l.length*1)=Lib.byteCells l:=by
  rcases hown.2 with⟨_,hz⟩|⟨g,cap,cur,fz,hv,r⟩
  ·exact absurd hz hl0
  ·exact⟨g,cap,cur,fz,hv,r⟩
 have HFg:=kept (hFk g rfl);have c1:w.drew.cell? ⟨b,1,none⟩=some (.slice (some ⟨g,0,none⟩) l.length cap):=(azu hbk).2.1;have hSD:(Builtin.unsafeSliceData_ #[71] 116 #[.slice (some ⟨g,0,none⟩) l.length cap]).run Tryz.prog w.drew=.ok (.pointer (some ⟨g,0,none⟩)) w.drew:=
  Lib.run_unsafeSliceData_row _ _ _ _ _ _ (by omega)
 have hUS:(Builtin.unsafeString_ #[116,3] 9 #[.pointer (some ⟨g,0,none⟩),.int .i64 l.length]).run Tryz.prog w.drew=.ok (.string ⟨l.toArray⟩) (w.drew.freeze ⟨g,0,none⟩ l.length):=by
  refine Lib.run_unsafeString_row w.drew 116 3 9 5 Tryz.underlying116 Tryz.Builder_Extra_169.cellsByte g cur.size (by have hg':w.drew.heap[g]?=some (.cells cur 5 fz):=hg;simp[World.shape?,hg']) l h0 (by omega) (by unfold maxLen at hcm;omega) ?_;intro j x hx;have:=hown.cells (g:=g) rfl j (.int .u8 x.toNat) (by simp[Lib.byteCells,hx]);exact this
 have Hfr:=kept (show Fr F w (w.drew.freeze ⟨g,0,none⟩ l.length)from by
  unfold World.freeze;split
  ·exact⟨rfl,rfl,rfl,Zf _,fun _ _ _=>rfl⟩
  ·refine⟨rfl,rfl,rfl,by simp,fun k hk hn=>?_⟩;have hkg:k≠g:=fun e=>hn (by rw[e];exact HFg.out)
   simp only[Z5,if_neg hkg.symm];rfl)
 clear hown hp hne hbk hnc hcm hcs htake hfz hg hl0 h0 hFk hFb;have mixed:=Tryz.lays169.mixed;go_enter Tryz.func28,Tryz.ntmps28;go_wp2
 go_region_o
 all_goals (go_wp2;go_ret;exact⟨rfl,Hfr.out⟩)
namespace AX
def bwt(l:List UInt8):Blk:=.opq (fun F g w=>BF F g l w) (fun _=>none)
def Bt(h:Hp)(i:Nat)(l:List UInt8):Prop:=h.b[i]?=some (bwt l)∨(l=[]∧h.b[i]?=some (.cells 73 [.nilp,.sl 0 .nil []]))
theorem BF.stable{F:Nat→Prop}{b:Nat}{l:List UInt8}{w w':World}(h:BF F b l w)(hs:∀g,F g→w'.heap[g]?=w.heap[g]?):BF F b l w':=by
 obtain⟨p,v,hp,hb,hown,hne,hF,hFk⟩:=h;refine⟨p,v,hp,(hs b hF).trans hb,⟨hown.1,?_⟩,hne,hF,hFk⟩;rcases hown.2 with h1|⟨g,cap,cur,fz,rfl,h2,h3,h4⟩
 ·exact .inl h1
 ·exact .inr ⟨g,cap,cur,fz,rfl,h2,(hs g (hFk g rfl)).trans h3,h4⟩
theorem Bt.lt{h:Hp}{i:Nat}{l:List UInt8}(hw:Bt h i l):i<h.b.length:=by
 rcases hw with h1|⟨_,h1⟩
 ·exact(Zd.1 h1).1
 ·exact(Zd.1 h1).1
theorem Bt.bf{h:Hp}{i:Nat}{l:List UInt8}{C:Ctx}{G:World→Prop}(hw:Bt h i l)(hI:Inv G C h):BF (fun g=>C.own g=some i) (C.κ i) l C.w:=by
 have hi:i<C.nb:=by rw[←hI.nb];exact hw.lt
 rcases hw with h1|⟨rfl,h1⟩
 ·exact(hI.box i _ h1).1 C.w (fun _ _=>rfl) (Zf _)
 ·obtain⟨cs,k1,k2⟩:=hI.box i _ h1;obtain⟨c0,d0,rfl,e0,k2⟩:=repL_cons.1 k2;obtain⟨c1,d1,rfl,e1,k2⟩:=repL_cons.1 k2;rw[repL_nil]at k2;subst k2;rw[aqp]at e0;subst e0;obtain⟨a,cap,rfl,_,_,e3,e4,_⟩:=rep_sl.1 e1;subst e3;subst e4;exact⟨_,_,.inl rfl,k1,⟨rfl,.inl ⟨rfl,rfl⟩⟩,by simp[Value.ownBlock],hI.ownk i hi,fun k hk=>by simp[Value.ownBlock]at hk⟩
theorem cj0{C:Ctx}{i:Nat}{l:List UInt8}(h:BF (fun g=>C.own g=some i) (C.κ i) l C.w):BlkRep C i (bwt l):=by
 refine⟨fun w' hw _=>BF.stable h hw,fun o x hx=>?_⟩;cases hx
theorem akq{h:Hp}{i:Nat}{l:List UInt8}(hw:Bt h i l)(s:List UInt8)(hlen:l.length+s.length≤1000000000):
  AC 27 [.ptr i 0,.str s] h fun v h'=>v=.tup [.int .i64 s.length,.nili]∧h'=⟨h.b.set i (bwt (l++s)),h.t⟩:=by
 intro C es hI ha;obtain⟨c,es',rfl,h1,h2⟩:=repL_cons.1 ha;obtain⟨rfl,hi⟩:=rep_ptr.1 h1;obtain rfl:=aqu aqt C es' h2;refine(cjq (hw.bf hI) s hlen).mono ?_;rintro e w' ⟨rfl,m1,m2⟩;have hrep:BlkRep (C.turn w' i true) i (bwt (l++s)):=by
  refine cj0 ?_;obtain⟨p,v,hp,hb,hown,hne,hF,hFk⟩:=m1;have hlt:=(azu hb).2.2.2.2;have hcl:∀k,k<w'.heap.size→(C.own k=some i∨C.w.heap.size≤k)→(C.turn w' i true).own k=some i:=fun k hk hor=>by
   show(if k<C.w.heap.size then C.own k else if true=true∧k<w'.heap.size then some i else none)=some i
   split
   ·rcases hor with h3|h3
    ·exact h3
    ·omega
   ·rw[if_pos ⟨rfl,hk⟩]
  refine⟨p,v,hp,hb,hown,hne,hcl _ hlt hF,fun k hk=>hcl k ?_ (hFk k hk)⟩;rcases hown.2 with⟨rfl,_⟩|⟨g,cap,cur,fz,rfl,_,h3,_⟩
  ·simp[Value.ownBlock]at hk
  ·simp only[Value.ownBlock,Zb]at hk;subst hk;exact(Z0.1 h3).1
 obtain⟨i1,s1⟩:=aq8 (b':=bwt (l++s)) true hI hi m2.os m2.tape m2.output m2.size (fun g hg hne=>m2.block g hg hne) (fun _=>hrep);exact⟨_,_,.tup [.int .i64 s.length,.nili],_,rfl,rfl,i1,s1,rep_tup.2 ⟨_,rfl,repL_cons.2 ⟨_,_,rfl,rep_int.2 rfl,repL_cons.2 ⟨_,_,rfl,bv1.2 rfl,repL_nil.2 rfl⟩⟩⟩,rfl,rfl⟩
theorem bq0{h:Hp}{i:Nat}{l:List UInt8}(hw:Bt h i l)(h0:l≠[]):AC 28 [.ptr i 0] h fun v h'=>v=.str l∧h'=⟨h.b.set i dead,h.t⟩:=by
 intro C es hI ha;obtain⟨c,es',rfl,h1,h2⟩:=repL_cons.1 ha;obtain⟨rfl,hi⟩:=rep_ptr.1 h1;rw[repL_nil]at h2;subst h2;refine(byy (hw.bf hI) h0).mono ?_;rintro e w' ⟨rfl,m2⟩;obtain⟨i1,s1⟩:=aq8 (b':=dead) false hI hi m2.os m2.tape m2.output m2.size (fun g hg hne=>m2.block g hg hne) (fun _=>⟨fun _ _ _=>trivial,fun o x hx=>by cases hx⟩);exact⟨_,_,.str l,_,rfl,rfl,i1,s1,rep_str.2 rfl,rfl,rfl⟩
structure Adr.In(a:Adr.Ad):Prop where
 n:a.mods.length≤3000000
 m:∀s∈a.mods,s.name.length≤2000000∧s.key.str.length≤2000000
 t:a.type.length≤2000000
 nm:a.name.length≤2000000
 k:a.key.str.length≤2000000
theorem cvy(a:Adr.Ad)(hi:Adr.In a)(h:Hp):AT 189 [.agg a.cells] h (.int .i64 (Adr.check a)):=by
 obtain⟨mods,data,ty,nm,⟨kk,kn,ks⟩⟩:=a;obtain⟨hn,hm,ht,ha,hk⟩:=hi;dsimp only at hn hm ht ha hk;refine pcall ?_ rfl (by simp[A.pure,A.data,Adr.Ad.cells]) h;refine fo ?_;dsimp only[Adr.Ad.cells];have lm:(mods.map Adr.Step.cells).length=mods.length:=Zj ..;obtain⟨Z,hZ⟩:=Ex (Adr.check ⟨mods,data,ty,nm,⟨kk,kn,ks⟩⟩);rw[hZ];unfold Adr.check at hZ;dsimp only at hZ;by_cases h16:(mods.length:Int)>16
 ·rw[if_pos (by omega)]at hZ;subst hZ;refine azb (ai lm h16) ?_;exact Fn rfl
 rw[if_neg (by omega)]at hZ;have ck:=fun h=>ckf ty ht h
 have ci:=fun h=>ak1 nm ha h
 have cv:=fun h=>bz8 ⟨kk,kn,ks⟩ hk h
 unfold Adr.K.A at cv;dsimp only at cv;refine azb (ai lm h16) ?_
 refine azf (fun mm ts h=>∃(j:Nat) (l:List Blk),mm=mods.length-j∧j≤mods.length∧h=⟨.cells 177 [.sl 4 .no (mods.map Adr.Step.cells),.bool data,.str ty,.str nm,.int .i64 kk,.int .i64 kn,.str ks]::l,[]⟩ ∧
  (match (mods.drop j).find? (fun s=>!(Adr.ident s.name&&Adr.keyOk s.key))with
  |some s=>if Adr.ident s.name then(1:Int)else 7
  |none=>if !Adr.kindB ty||!Adr.ident nm then 7 else if !Adr.keyOk ⟨kk,kn,ks⟩then 1 else 0)=Z ∧
  ts 1=.ptr 0 0∧ts 10=.sl 4 .no (mods.map Adr.Step.cells)∧ts 11=.int .i64 (mods.length:Nat)∧ts 12=.int .i64 (j:Nat)) mods.length ?_ ?_
 ·exact⟨0,[],by omega,by omega,rfl,hZ,by(exact ev0 ti),by(exact ev0 ti),by(exact ev0 lm),by(exact azq ti)⟩
 rintro mm ts h ⟨j,l,rfl,hjc,rfl,hit,t1,t10,t11,t12⟩;by_cases hj:j<mods.length
 ·have hlt:(j:Int)<(mods.length:Int):=by omega
  have hlt':(j:Int)<((mods.map Adr.Step.cells).length:Int):=by rw[lm];exact hlt
  have hj0:(0:Int)≤(j:Int):=by omega
  have ei:IntKind.i64.wrap ((j:Int)+1)=((j+1:Nat):Int):=by rw[wrap64 (by omega) (by omega)];omega
  have hg:=az3 Adr.Step.cells mods j hj;have hmj:=hm _ (Zt hj);rw[Zr hj,List.find?_cons]at hit;obtain⟨x,hx⟩:=Ex (mods[j]);rw[hx]at hg hmj hit;obtain⟨xn,⟨xk,xm,xs⟩⟩:=x;dsimp only[Adr.Step.cells]at hg hmj hit;have cxi:=fun h=>ak1 xn hmj.1 h
  have cxv:=fun h=>bz8 ⟨xk,xm,xs⟩ hmj.2 h
  unfold Adr.K.A at cxv;dsimp only at cxv;obtain⟨I,hI⟩:=Ex (Adr.ident xn);obtain⟨K,hK⟩:=Ex (Adr.keyOk ⟨xk,xm,xs⟩);rw[hI]at cxi hit;rw[hK]at cxv hit;refine azb (ai t1 (ai t10 (ai t11 (ai t12 (ai hlt (ai hlt' (ai hj0 hg))))))) ?_;refine use (cxi _) ?_;cases I
  ·simp only[ZT,ZL]at hit;rw[hI]at hit;simp only[Zi,if_false]at hit;subst hit;refine azb (ai t1 (ai t10 (ai t11 t12))) ?_;exact Fn rfl
  refine azb (ai t1 (ai t10 (ai t11 t12))) ?_;refine use (cxv _) ?_;cases K
  ·simp only[Y2,ZL]at hit;rw[hI]at hit;simp only[if_true]at hit;subst hit;refine azb (ai t1 (ai t10 (ai t11 t12))) ?_;exact Fn rfl
  ·simp only[ZY,ZP]at hit;refine azb (ai t1 (ai t10 (ai t11 (ai t12 ei)))) ?_;exact⟨mods.length-(j+1),by omega,j+1,_,rfl,by omega,rfl,hit,by(exact ev0 t1),by(exact ev0 t10),by(exact ev0 t11),by(exact ev0 ei)⟩
 ·have hlt:¬((j:Int)<(mods.length:Int)):=by omega
  rw[Y1 (by omega)]at hit;simp only[List.find?_nil]at hit;refine azb (ai t1 (ai t10 (ai t11 (ai t12 hlt)))) ?_;refine use (ck _) ?_;cases hkb:Adr.kindB ty
  ·rw[hkb]at hit;rw[if_pos (by simp)]at hit;subst hit;refine azb (ai t1 (ai t10 (ai t11 t12))) ?_;exact Fn rfl
  rw[hkb]at hit;refine azb (ai t1 (ai t10 (ai t11 t12))) ?_;refine use (ci _) ?_;cases hib:Adr.ident nm
  ·rw[hib]at hit;rw[if_pos (by simp)]at hit;subst hit;refine azb (ai t1 (ai t10 (ai t11 t12))) ?_;exact Fn rfl
  rw[hib]at hit;rw[if_neg (by simp)]at hit;refine azb (ai t1 (ai t10 (ai t11 t12))) ?_;refine use (cv _) ?_;cases hvb:Adr.keyOk ⟨kk,kn,ks⟩
  ·rw[hvb]at hit;rw[if_pos (by simp)]at hit;subst hit;refine azb (ai t1 (ai t10 (ai t11 t12))) ?_;exact Fn rfl
  ·rw[hvb]at hit;rw[if_neg (by simp)]at hit;subst hit;refine azb (ai t1 (ai t10 (ai t11 t12))) ?_;exact Fn rfl
theorem bxc(h:Hp):AT 190 [.agg [.int .i64 0,.int .i64 0,.str []]] h (.str []):=by
 refine pcall ?_ rfl (by simp[A.pure,A.data]) h;refine fo ?_;have cv:=fun h=>bz8 Adr.K.none (by unfold Adr.K.none;simp) h
 have e1:Adr.keyOk Adr.K.none=true:=by decide
 rw[e1]at cv;unfold Adr.K.A Adr.K.none at cv;dsimp only at cv;refine azb ti ?_;refine use (cv _) ?_;refine azb ti ?_;exact Fn rfl
def Bw(acc:List UInt8)(w:Blk):Prop:=w=bwt acc∨(acc=[]∧w=.cells 73 [.nilp,.sl 0 .nil []])
theorem Bw.bt{acc:List UInt8}{w B0:Blk}{l:List Blk}{t:List (TypeId×Nat×Nat)}(hw:Bw acc w):Bt ⟨B0::w::l,t⟩ 1 acc:=by
 rcases hw with rfl|⟨rfl,rfl⟩
 ·exact .inl rfl
 ·exact .inr ⟨rfl,rfl⟩
def stepB(s:Adr.Step):List UInt8:=Adr.modW++s.name++[46]
theorem bvw(mods:List Adr.Step)(data:Bool)(ty nm:List UInt8)(hk:∀s∈mods,s.key=Adr.K.none)(hc:Adr.check ⟨mods,data,ty,nm,Adr.K.none⟩=0):
  Adr.fmt ⟨mods,data,ty,nm,Adr.K.none⟩=mods.flatMap stepB++(if data then Adr.dataW else[])++(ty++[46]++nm):=by
 have hn:Adr.fmtKey Adr.K.none=[]:=by decide
 unfold Adr.fmt;rw[if_neg (by simp[hc])];dsimp only;rw[hn];have e:Adr.steps mods=mods.flatMap stepB:=by
  unfold Adr.steps;induction mods with
  |nil=>rfl
  |cons x l ih=>
   have hx:=hk x (by simp);have hcl:∀l:List Adr.Step,(∀s∈l,s.key=Adr.K.none)→(l.flatMap fun s=>Adr.modW++s.name++Adr.fmtKey s.key++[46])=l.flatMap stepB:=by
    intro l;induction l with
    |nil=>intro _;rfl
    |cons y l ih=>
     intro hl;rw[Y9,Y9,ih fun s hs=>hl s (by simp[hs]),hl y (by simp),hn];unfold stepB;simp
   exact hcl _ hk
 rw[e];simp
theorem bvq{α:Type}(f:α→List UInt8)(l:List α)(j:Nat)(hj:j<l.length):(l.take (j+1)).flatMap f=(l.take j).flatMap f++f l[j]:=by
 rw[ZV hj,Yn];simp
theorem avb:∀(l:List Adr.Step),(∀s∈l,s.name.length≤2000000)→(l.flatMap stepB).length≤l.length*2000008
 |[],_=>by simp
 |x::l,h=>by
  rw[Y9,Za,Zh,Nat.succ_mul];have h1:=avb l fun s hs=>h s (by simp[hs])
  have h2:=h x (by simp);have h3:(stepB x).length=x.name.length+8:=by unfold stepB;simp[Adr.modW]<;>omega
  omega
theorem by9(a:Adr.Ad)(hi:Adr.In a)(hk:∀s∈a.mods,s.key=Adr.K.none)(hkk:a.key=Adr.K.none)(h:Hp):AT 173 [.agg a.cells] h (.str (Adr.fmt a)):=by
 have cc:=fun h=>cvy a hi h
 obtain⟨mods,data,ty,nm,key⟩:=a;dsimp only at hk hkk;subst hkk;have hfb:=bvw mods data ty nm hk;obtain⟨hn,hm,ht,ha,_⟩:=hi;dsimp only at hn hm ht ha;refine pcall ?_ rfl (by simp[A.pure,A.data,Adr.Ad.cells]) h;refine fo ?_;dsimp only[Adr.Ad.cells,Adr.K.none]at cc⊢;have lm:(mods.map Adr.Step.cells).length=mods.length:=Zj ..;by_cases hc0:Adr.check ⟨mods,data,ty,nm,Adr.K.none⟩=0
 rotate_left
 ·have e1:(Adr.check ⟨mods,data,ty,nm,Adr.K.none⟩!=0)=true:=by simp[hc0]
  have hfz:Adr.fmt ⟨mods,data,ty,nm,Adr.K.none⟩=[]:=by unfold Adr.fmt;rw[if_pos hc0]
  unfold Adr.K.none at e1 hfz;refine azb ti ?_;refine use (cc _) ?_;refine azb e1 ?_;exact⟨_,le_refl _,by rw[hfz];rfl⟩
 have e1:(Adr.check ⟨mods,data,ty,nm,Adr.K.none⟩!=0)=false:=by simp[hc0]
 have hf:=hfb hc0;have hn16:mods.length≤16:=by
  rcases Z7 16 mods.length with h16|h16
  ·unfold Adr.check at hc0;rw[if_pos h16]at hc0;exact absurd hc0 (by decide)
  ·exact h16
 have hlenall:=avb mods fun s hs=>(hm s hs).1
 unfold Adr.K.none at e1 hf;rw[hf];refine azb ti ?_;refine use (cc _) ?_;refine azb (ai e1 lm) ?_
 refine azf (fun mm ts h=>∃(j:Nat) (w:Blk) (l:List Blk),mm=mods.length-j∧j≤mods.length∧h=⟨.cells 177 [.sl 4 .no (mods.map Adr.Step.cells),.bool data,.str ty,.str nm,.int .i64 0,.int .i64 0,.str []]::w::l,[]⟩∧Bw ((mods.take j).flatMap stepB) w ∧
  ts 1=.ptr 0 0∧ts 3=.ptr 1 0∧ts 10=.sl 4 .no (mods.map Adr.Step.cells)∧ts 11=.int .i64 (mods.length:Nat)∧ts 12=.int .i64 (j:Nat)) mods.length ?_ ?_
 ·exact⟨0,_,[],by omega,by omega,rfl,.inr ⟨rfl,rfl⟩,by(exact ev0 ti),by(exact ev0 ti),by(exact ev0 ti),by(exact ev0 lm),by(exact azq ti)⟩
 rintro mm ts h ⟨j,w,l,rfl,hjc,rfl,hw,t1,t3,t10,t11,t12⟩;have hacc:((mods.take j).flatMap stepB).length≤32000128:=by
  have h2:(mods.take j).length≤16:=by rw[ZQ];omega
  exact Zl (avb (mods.take j) fun s hs=>(hm s (List.mem_of_mem_take hs)).1) (Zl (YZ 2000008 h2) (by decide))
 by_cases hj:j<mods.length
 ·have hlt:(j:Int)<(mods.length:Int):=by omega
  have hlt':(j:Int)<((mods.map Adr.Step.cells).length:Int):=by rw[lm];exact hlt
  have hj0:(0:Int)≤(j:Int):=by omega
  have ei:IntKind.i64.wrap ((j:Int)+1)=((j+1:Nat):Int):=by rw[wrap64 (by omega) (by omega)];omega
  have hg:=az3 Adr.Step.cells mods j hj;have hmj:=hm _ (Zt hj);have hkj:=hk _ (Zt hj);have hsn:=bvq stepB mods j hj;obtain⟨x,hx⟩:=Ex (mods[j]);rw[hx]at hg hmj hkj hsn;obtain⟨xn,xk⟩:=x;dsimp only at hkj;subst hkj;dsimp only[Adr.Step.cells,Adr.K.none]at hg hmj;have hxl:=hmj.1;have hsl:(stepB ⟨xn,Adr.K.none⟩).length=xn.length+8:=by unfold stepB;simp[Adr.modW]<;>omega
  have hse:109::111::100::117::108::101::46::(xn++[46])=stepB ⟨xn,Adr.K.none⟩:=rfl;have l1:7+xn.length<1099511627776:=by omega
  have l2:xn.length+7<1099511627776:=by omega
  have l3:xn.length+7+1<1099511627776:=by omega
  have l4:xn.length+8<1099511627776:=by omega
  have hcw:=fun(z:Blk)=>akq (h:=⟨.cells 177 [.sl 4 .no (mods.map Adr.Step.cells),.bool data,.str ty,.str nm,.int .i64 0,.int .i64 0,.str []]::w::(l++[z]),[]⟩) (i:=1) hw.bt (stepB ⟨xn,Adr.K.none⟩) (by rw[hsl];omega)
  rw[←hsn]at hcw;have hcf:=fun h=>bxc h
  refine azb (ai t1 (ai t3 (ai t10 (ai t11 (ai t12 (ai hlt (ai hlt' (ai hj0 (ai hg (ai l1 hse)))))))))) ?_;refine use (hcf _) ?_;refine azb (ai t1 (ai t3 (ai t10 (ai t11 (ai t12 (ai l1 (ai l2 (ai l3 (ai l4 hse))))))))) ?_;refine use (hcw _) ?_;refine azb (ai t1 (ai t3 (ai t10 (ai t11 (ai t12 ei))))) ?_;exact⟨mods.length-(j+1),by omega,j+1,_,_,rfl,by omega,rfl,.inl rfl,by(exact ev0 t1),by(exact ev0 t3),by(exact ev0 t10),by(exact ev0 t11),by(exact ev0 ei)⟩
 ·have hlt:¬((j:Int)<(mods.length:Int)):=by omega
  have hje:j=mods.length:=by omega
  subst hje;rw[Yj]at hw hacc;obtain⟨P,hP⟩:=Ex (mods.flatMap stepB);rw[hP]at hw hacc⊢;have hcf:=fun h=>bxc h
  have hdw:Adr.dataW=[100,97,116,97,46]:=rfl;have l1:ty.length+1<1099511627776:=by omega
  have l2:ty.length+1+nm.length<1099511627776:=by omega
  have l3:ty.length+(nm.length+1)<1099511627776:=by omega
  have l4:ty.length+1+nm.length<1099511627776:=by omega
  cases data
  ·have hcw:=akq (h:=⟨.cells 177 [.sl 4 .no (mods.map Adr.Step.cells),.bool false,.str ty,.str nm,.int .i64 0,.int .i64 0,.str []]::w::l,[]⟩) (i:=1) hw.bt (ty++[46]++nm) (by simp;omega);have hcs:=bq0 (h:=⟨.cells 177 [.sl 4 .no (mods.map Adr.Step.cells),.bool false,.str ty,.str nm,.int .i64 0,.int .i64 0,.str []]::bwt (P++(ty++[46]++nm))::l,[]⟩) (i:=1) (.inl rfl) (by simp);refine azb (ai t1 (ai t3 (ai t10 (ai t11 (ai t12 (ai hlt (ai l1 (ai l2 l3)))))))) ?_;refine use (hcf _) ?_;refine azb (ai t1 (ai t3 (ai t10 (ai t11 (ai t12 (ai hlt (ai l1 (ai l2 (ai l3 l4))))))))) ?_;refine use hcw ?_;refine azb (ai t1 (ai t3 (ai t10 (ai t11 t12)))) ?_;refine use hcs ?_;refine azb (ai t1 (ai t3 (ai t10 (ai t11 t12)))) ?_;exact⟨_,le_refl _,by simp[azi]⟩
  ·have hcd:=akq (h:=⟨.cells 177 [.sl 4 .no (mods.map Adr.Step.cells),.bool true,.str ty,.str nm,.int .i64 0,.int .i64 0,.str []]::w::l,[]⟩) (i:=1) hw.bt Adr.dataW (by rw[hdw];simp;omega);have hcw:=akq (h:=⟨.cells 177 [.sl 4 .no (mods.map Adr.Step.cells),.bool true,.str ty,.str nm,.int .i64 0,.int .i64 0,.str []]::bwt (P++Adr.dataW)::l,[]⟩) (i:=1) (.inl rfl) (ty++[46]++nm) (by rw[hdw];simp;omega);have hcs:=bq0 (h:=⟨.cells 177 [.sl 4 .no (mods.map Adr.Step.cells),.bool true,.str ty,.str nm,.int .i64 0,.int .i64 0,.str []]::bwt (P++Adr.dataW++(ty++[46]++nm))::l,[]⟩) (i:=1) (.inl rfl) (by simp);rw[hdw]at hcd hcw hcs⊢;refine azb (ai t1 (ai t3 (ai t10 (ai t11 (ai t12 (ai hlt (ai l1 (ai l2 l3)))))))) ?_;refine use hcd ?_;refine azb (ai t1 (ai t3 (ai t10 (ai t11 (ai t12 (ai hlt (ai l1 (ai l2 l3)))))))) ?_;refine use (hcf _) ?_;refine azb (ai t1 (ai t3 (ai t10 (ai t11 (ai t12 (ai hlt (ai l1 (ai l2 (ai l3 l4))))))))) ?_;refine use hcw ?_;refine azb (ai t1 (ai t3 (ai t10 (ai t11 t12)))) ?_;refine use hcs ?_;refine azb (ai t1 (ai t3 (ai t10 (ai t11 t12)))) ?_;exact⟨_,le_refl _,by simp[azi]⟩
def unkIdx:Nat→List V→Int
 |_,[]=>-1
 |i,v::l=>if Sf.known v=true then unkIdx (i+1) l else i
theorem bxu:∀(l:List V) (i:Nat),unkIdx i l≥0↔Sf.knowns l=false
 |[],i=>by simp[unkIdx,Sf.knowns]
 |v::l,i=>by
  unfold unkIdx Sf.knowns;cases h:Sf.known v
  ·simp
  ·simp only[if_true,Zx];exact bxu l (i+1)
theorem cva(is:List V)(hn:is.length≤9223372036854775807)(hf:∀x∈is,∀h,AT 141 [x.A] h (.bool (!Sf.known x)))(h:Hp):AT 172 [.sl 5 .no (V.cellss is),.fn 141 []] h (.int .i64 (unkIdx 0 is)):=by
 refine pcall ?_ rfl (by simp[A.pure,A.data]) h;refine fo ?_;obtain⟨D,hD⟩:=Ex (unkIdx 0 is);rw[hD];refine azb @V.cellss_length ?_;refine azf (fun mm ts h=>∃(j:Nat),mm=is.length-j∧j≤is.length∧h=⟨[],[]⟩∧unkIdx j (is.drop j)=D∧ts 0=.sl 5 .no (V.cellss is)∧ts 1=.fn 141 []∧ts 7=.int .i64 (is.length:Nat)∧ts 8=.int .i64 (j:Nat)) is.length ?_ ?_
 ·exact⟨0,by omega,by omega,rfl,hD,by(exact ev0 ti),by(exact ev0 ti),by(exact ev0 @V.cellss_length),by(exact azq ti)⟩
 rintro mm ts h ⟨j,rfl,hjc,rfl,hit,t0,t1,t7,t8⟩;by_cases hj:j<is.length
 ·have hlt:(j:Int)<(is.length:Int):=by omega
  have hlt':(j:Int)<((V.cellss is).length:Int):=by rw[V.cellss_length];exact hlt
  have hj0:(0:Int)≤(j:Int):=by omega
  have ei:IntKind.i64.wrap ((j:Int)+1)=((j+1:Nat):Int):=by rw[wrap64 (by omega) (by omega)];omega
  have hg:=V.cellss_get is j hj;have cf:=hf is[j] (Zt hj);rw[Zr hj]at hit;unfold unkIdx at hit;obtain⟨x,hx⟩:=Ex (is[j]);rw[hx]at hg cf hit;obtain⟨K,hK⟩:=Ex (Sf.known x);rw[hK]at cf hit;obtain⟨k,n,w,vi,vy⟩:=x;have hVA:(V.mk k n w vi vy).A=.agg [.int .i64 k,.int .i64 n,.str w,.sl 5 .no (V.cellss vi),.sl 1 .no (strsA vy)]:=by simp only[V.A,V.cells]
  rw[hVA]at cf;simp only[V.cells]at hg;refine azb (ai t0 (ai t1 (ai t7 (ai t8 (ai hlt (ai hg (ai hlt' hj0))))))) ?_;refine use (cf _) ?_;cases K
  ·rw[if_neg (by simp)]at hit;subst hit;refine azb (ai t0 (ai t1 (ai t7 t8))) ?_;exact Fn rfl
  ·rw[if_pos rfl]at hit;refine azb (ai t0 (ai t1 (ai t7 (ai t8 ei)))) ?_;exact⟨is.length-(j+1),by omega,j+1,rfl,by omega,rfl,hit,by(exact ev0 t0),by(exact ev0 t1),by(exact ev0 t7),by(exact ev0 ei)⟩
 ·have hlt:¬((j:Int)<(is.length:Int)):=by omega
  rw[Y1 (by omega)]at hit;unfold unkIdx at hit;subst hit;refine azb (ai t0 (ai t1 (ai t7 (ai t8 hlt)))) ?_;exact Fn rfl
theorem cyi:∀(v:V),v.lens→∀h,AT 101 [v.A] h (.bool (Sf.known v)):=by
 refine V.induct ?_;intro k n s is ks ih hl h;have hlen:is.length≤9223372036854775807:=by have h1:=hl.1;unfold maxLen at h1;omega
 have hf:∀x∈is,∀h,AT 141 [x.A] h (.bool (!Sf.known x)):=by
  intro x hx h;have ck:=ih x hx (V.lensS_mem hl.2.2.2.2 x hx);obtain⟨K,hK⟩:=Ex (Sf.known x);rw[hK]at ck⊢;obtain⟨k,n,w,vi,vy⟩:=x;have hVA:(V.mk k n w vi vy).A=.agg [.int .i64 k,.int .i64 n,.str w,.sl 5 .no (V.cellss vi),.sl 1 .no (strsA vy)]:=by simp only[V.A,V.cells]
  rw[hVA]at ck⊢;refine pcall ?_ rfl (by simp[A.pure,A.data]) h;refine fo ?_;refine azb ti ?_;refine use (ck _) ?_;refine azb ti ?_;exact Fn rfl
 have hc:∀h,AT 140 [.sl 5 .no (V.cellss is),.fn 141 []] h (.bool (!Sf.knowns is)):=by
  intro h;refine pcall ?_ rfl (by simp[A.pure,A.data]) h;refine fo ?_;have hge:=bxu is 0;have ca:=cva is hlen hf;obtain⟨D,hD⟩:=Ex (unkIdx 0 is);rw[hD]at hge ca;refine azb ti ?_;refine use (ca _) ?_;by_cases hd:D≥0
  ·rw[hge.1 hd];refine azb hd ?_;exact Fn rfl
  ·have hk:Sf.knowns is=true:=by cases hk:Sf.knowns is;exact absurd (hge.2 hk) hd;rfl
   rw[hk];refine azb hd ?_;exact Fn rfl
 have hVA:(V.mk k n s is ks).A=.agg [.int .i64 k,.int .i64 n,.str s,.sl 5 .no (V.cellss is),.sl 1 .no (strsA ks)]:=by simp only[V.A,V.cells]
 have hK:Sf.known (.mk k n s is ks)=(k !=6&&Sf.knowns is):=by simp[Sf.known]
 rw[hVA,hK];refine pcall ?_ rfl (by simp[A.pure,A.data]) h;refine fo ?_;by_cases h6:k=6
 ·have e:(k !=6)=false:=by simp[h6]
  rw[e];refine azb e ?_;exact Fn rfl
 ·have e:(k !=6)=true:=by simp[h6]
  rw[e];refine azb e ?_;refine use (hc _) ?_;cases Sf.knowns is
  ·refine azb ti ?_;exact Fn rfl
  ·refine azb ti ?_;exact Fn rfl
end AX
end
section
open Go.RowKit
open Go.Op (bytesLess)
namespace AX
theorem dqm(a b:Int)(h:Hp):AT 103 [.sl 1 .no [[.int .i64 a],[.int .i64 b]]] h (.int .i64 (if a≠0 then a else b)):=by
 refine pcall ?_ rfl (by simp[A.pure,A.data]) h;refine fo ?_;refine azb ti ?_;have ew0:IntKind.i64.wrap ((0:Int)+1)=1:=by decide
 have ew1:IntKind.i64.wrap ((1:Int)+1)=2:=by decide
 have en1:Int.toNat 1=1:=rfl;have lt0:(0:Int)<((2:Nat):Int):=by decide
 have lt1:(1:Int)<((2:Nat):Int):=by decide
 have lt2:¬(2:Int)<((2:Nat):Int):=by decide
 have le1:(0:Int)≤1:=by decide
 refine azf (fun mm ts h=>h=⟨[],[]⟩∧ts 3=.int .i64 0∧ts 6=.sl 1 .no [[.int .i64 a],[.int .i64 b]]∧ts 7=.int .i64 ((2:Nat):Int)∧((mm=2∧ts 8=.int .i64 0)∨(mm=1∧ts 8=.int .i64 1∧a=0)∨(mm=0∧ts 8=.int .i64 2∧a=0∧b=0))) 2 ?_ ?_
 ·exact⟨rfl,by(exact ev0 ti),by(exact ev0 ti),by(exact ev0 ti),.inl ⟨rfl,by(exact ev0 ti)⟩⟩
 rintro mm ts h ⟨rfl,t3,t6,t7,⟨rfl,t8⟩|⟨rfl,t8,ha⟩|⟨rfl,t8,ha,hb⟩⟩
 ·by_cases ha:a=0
  ·have e1:(a !=0)=false:=by simp[ha]
   refine azb (ai t3 (ai t6 (ai t7 (ai t8 (ai e1 (ai ew0 lt0)))))) ?_;exact⟨1,by omega,rfl,by(exact ev0 t3),by(exact ev0 t6),by(exact ev0 t7),.inr (.inl ⟨rfl,by(exact ev0 ew0),ha⟩)⟩
  ·have e1:(a !=0)=true:=by simp[ha]
   refine azb (ai t3 (ai t6 (ai t7 (ai t8 (ai e1 lt0))))) ?_;exact⟨_,le_refl _,by rw[if_pos ha];rfl⟩
 ·by_cases hb:b=0
  ·have e1:(b !=0)=false:=by simp[hb]
   refine azb (ai t3 (ai t6 (ai t7 (ai t8 (ai e1 (ai ew1 (ai en1 (ai lt1 le1)))))))) ?_;exact⟨0,by omega,rfl,by(exact ev0 t3),by(exact ev0 t6),by(exact ev0 t7),.inr (.inr ⟨rfl,by(exact ev0 ew1),ha,hb⟩)⟩
  ·have e1:(b !=0)=true:=by simp[hb]
   refine azb (ai t3 (ai t6 (ai t7 (ai t8 (ai e1 (ai en1 (ai lt1 le1))))))) ?_;exact⟨_,le_refl _,by rw[if_neg (by simp[ha])];rfl⟩
 ·refine azb (ai t3 (ai t6 (ai t7 (ai t8 lt2)))) ?_;exact⟨_,le_refl _,by rw[if_neg (by simp[ha]),hb];rfl⟩
def dz1(a b c d:List UInt8):Int:=if cmpZ a c≠0 then cmpZ a c else cmpZ b d
theorem cq2(L:Leafs)(a b c d:List UInt8)(h:Hp):AT 65 [.agg [.str a,.str b],.agg [.str c,.str d]] h (.int .i64 (dz1 a b c d)):=by
 refine pcall ?_ rfl (by simp[A.pure,A.data]) h;refine fo ?_;refine azb ti ?_;refine use (L.cmp a c _) ?_;refine azb ti ?_;refine use (L.cmp b d _) ?_;refine azb ti ?_;refine use (dqm (cmpZ a c) (cmpZ b d) _) ?_;refine azb ti ?_;exact Fn rfl
theorem cyj(x y:Sf.Inst):(dz1 x.addr x.dep y.addr y.dep≥0)↔Sf.behind x y=false:=by
 unfold dz1 Sf.behind cmpZ;by_cases h1:x.addr=y.addr
 ·have irr:bytesLess y.addr y.addr=false:=by
   have:=Val.less_total y.addr y.addr;cases h:bytesLess y.addr y.addr
   ·rfl
   ·rw[h]at this;simp at this
  rw[h1,irr];by_cases h2:x.dep=y.dep
  ·have irr2:bytesLess y.dep y.dep=false:=by
    have:=Val.less_total y.dep y.dep;cases h:bytesLess y.dep y.dep
    ·rfl
    ·rw[h]at this;simp at this
   simp[h2,irr2]
  ·cases h3:bytesLess x.dep y.dep<;>simp[h2]
 ·cases h3:bytesLess x.addr y.addr<;>simp[h1]
structure Sf.StIn(s:Sf.St):Prop where
 lin:s.lin.length≤2000000
 insts:∀x∈s.insts,Sf.InstIn x
 pends:∀x∈s.pends,x.addr.length≤2000000∧x.tok.length≤2000000
 outs:∀x∈s.outs,x.name.length≤2000000∧x.value.lens
 li:s.insts.length≤1000000000
 lp:s.pends.length≤1000000000
 lo:s.outs.length≤1000000000
theorem cxk(L:Leafs)(st:Sf.St)(ok:Sf.StIn st):SCheck st:=by
 intro h;obtain⟨lin,ser,ins,ps,os⟩:=st;have ct:=fun h=>L.text lin ok.lin h
 have li:ins.length≤1000000000:=ok.li;have lp:ps.length≤1000000000:=ok.lp;have lo:os.length≤1000000000:=ok.lo;have lm1:(ins.map Sf.Inst.cells).length=ins.length:=Zj _;have lm2:(ps.map Sf.Pend.cells).length=ps.length:=Zj _;have lm3:(os.map Sf.Outp.cells).length=os.length:=Zj _;obtain⟨Z,hZ⟩:=Ex (Sf.checkZ ⟨lin,ser,ins,ps,os⟩);rw[hZ];unfold Sf.checkZ at hZ;dsimp only at hZ;refine pcall ?_ rfl (by simp[A.pure,A.data,Sf.St.A]) h;refine fo ?_;dsimp only[Sf.St.A];refine azb ti ?_;refine use (ct _) ?_;cases hT:Sf.text lin
 ·rw[hT,if_pos (by decide)]at hZ;subst hZ;refine azb ti ?_;exact Fn rfl
 rw[hT,if_neg (by decide)]at hZ;by_cases s0:ser<0
 ·rw[if_pos (.inl s0)]at hZ;subst hZ;refine azb s0 ?_;exact Fn rfl
 by_cases s1:ser>9007199254740992
 ·rw[if_pos (.inr s1)]at hZ;subst hZ;refine azb (ai s0 s1) ?_;exact Fn rfl
 rw[if_neg (by omega)]at hZ;obtain⟨mx,hmx⟩:∃mx:Int,(if(os.length:Int)>(if(ps.length:Int)>(ins.length:Int)then(ps.length:Int)else(ins.length:Int))then(os.length:Int)else(if(ps.length:Int)>(ins.length:Int)then(ps.length:Int)else(ins.length:Int)))=mx:=⟨_,rfl⟩;have hm5:mx>512↔(512<ins.length∨512<ps.length∨512<os.length):=by
  rw[←hmx];split<;>split<;>omega
 by_cases hm:mx>512
 ·rw[if_pos (hm5.1 hm)]at hZ;subst hZ;refine azb (ai s0 (ai s1 (ai lm1 (ai lm2 (ai lm3 (ai hmx hm)))))) ?_;exact Fn rfl
 rw[if_neg (fun e=>hm (hm5.2 e))]at hZ;obtain⟨I,hI⟩:=Ex (Sf.instsZ none ins);obtain⟨P,hP⟩:=Ex (Sf.pendsZ none ps);obtain⟨O,hO⟩:=Ex (Sf.outsZ none os);have fi1:∀z,z≠0→z=I→Z=z:=fun z h e=>by rw[hI,←e,if_pos h]at hZ;exact hZ.symm
 have fi2:I=0→(if P≠0 then P else O)=Z:=fun e=>by rw[hI,hP,hO,e,if_neg (by simp)]at hZ;exact hZ
 refine azb (ai s0 (ai s1 (ai lm1 (ai lm2 (ai lm3 (ai hmx hm)))))) ?_;refine azf (fun mm ts h=>∃(j:Nat) (l:List Blk),mm=ins.length-j∧j≤ins.length∧h=⟨.cells 33 [.str lin,.int .i64 ser,.sl 13 .no (ins.map Sf.Inst.cells),.sl 3 .no (ps.map Sf.Pend.cells),.sl 7 .no (os.map Sf.Outp.cells)]::l,[]⟩∧Sf.instsZ (if j=0 then none else ins[j-1]?) (ins.drop j)=I∧ts 1=.ptr 0 0∧ts 35=.sl 13 .no (ins.map Sf.Inst.cells)∧ts 36=.int .i64 (ins.length:Nat)∧ts 37=.int .i64 (j:Nat)) ins.length ?_ ?_
 ·exact⟨0,[],by omega,by omega,rfl,hI,by(exact ev0 ti),by(exact ev0 ti),by(exact ev0 (ai lm1 (ai lm2 lm3))),by(exact azq ti)⟩
 rintro mm ts h ⟨j,l,rfl,hjc,rfl,hit,t1,ta,tb,tc⟩;by_cases hj:j<ins.length
 ·have hlt:(j:Int)<(ins.length:Int):=by omega
  have hlt':(j:Int)<((ins.map Sf.Inst.cells).length:Int):=by rw[Zj];exact hlt
  have hj0:(0:Int)≤(j:Int):=by omega
  have ei:IntKind.i64.wrap ((j:Int)+1)=((j+1:Nat):Int):=by rw[wrap64 (by omega) (by omega)];omega
  have hg:=az3 Sf.Inst.cells ins j hj;have hm:=Zt hj;rw[Zr hj]at hit;obtain⟨x,hx⟩:=Ex (ins[j]);rw[hx]at hit hg hm;have ci:=fun h=>bk5 L x (ok.insts x hm) h
  have cp:=fun h=>bxb x h
  have hxj:ins[j]?=some x:=by rw[Zn hj,hx]
  have hx2:=Ex x;unfold Sf.instsZ at hit;obtain⟨Z1,hZ1⟩:=Ex (Sf.instZ x);rw[hZ1]at ci hit;have cge:=fun y=>cyj y x
  have cc:=fun(y:Sf.Inst) h=>cq2 L y.addr y.dep x.addr x.dep h
  have nx:Sf.instsZ (some x) (ins.drop (j+1))=I→Sf.instsZ (if j+1=0 then none else ins[j+1-1]?) (ins.drop (j+1))=I:=fun e=>by rw[if_neg (by omega),Nat.add_sub_cancel,hxj];exact e
  clear hx2 hm hZ1;have cells:∃a d id ty k n s is ks v tn fi ds,x=⟨a,d,id,ty,.mk k n s is ks,v,tn,fi,ds⟩:=by obtain⟨a,d,id,ty,⟨k,n,s,is,ks⟩,v,tn,fi,ds⟩:=x;exact⟨_,_,_,_,_,_,_,_,_,_,_,_,_,rfl⟩
  obtain⟨a,d,id,ty,k,n,s,is,ks,v,tn,fi,ds,hxe⟩:=cells;have hxc:x.cells=[.str a,.str d,.str id,.str ty,.int .i64 k,.int .i64 n,.str s,.sl 5 .no (V.cellss is),.sl 1 .no (strsA ks),.int .i64 v,.bool tn,.bool fi,.sl 1 .no (strsA ds)]:=by rw[hxe];rfl
  rw[hxc]at ci cp hg;refine azb (ai t1 (ai ta (ai tb (ai tc (ai hlt (ai hg (ai hlt' hj0))))))) ?_;refine use (ci _) ?_;by_cases hz:Z1=0
  rotate_left
  ·have e1:(Z1 !=0)=true:=by simp[hz]
   rw[if_pos hz]at hit;have hZf:=fi1 Z1 hz hit;refine azb (ai t1 (ai ta (ai tb (ai tc e1)))) ?_;exact⟨_,le_refl _,by rw[hZf];rfl⟩
  have e1:(Z1 !=0)=false:=by simp[hz]
  rw[if_neg (by simp[hz])]at hit;cases j with
  |zero=>
   have h0:¬((0:Nat):Int)>0:=by omega
   simp only[if_true,Zi,if_false]at hit;refine azb (ai t1 (ai ta (ai tb (ai tc (ai e1 (ai h0 ei)))))) ?_;exact⟨ins.length-(0+1),by omega,0+1,l++[.cells 42 [.str a,.str d,.str id,.str ty,.int .i64 k,.int .i64 n,.str s,.sl 5 .no (V.cellss is),.sl 1 .no (strsA ks),.int .i64 v,.bool tn,.bool fi,.sl 1 .no (strsA ds)]],rfl,by omega,rfl,nx hit,by(exact ev0 t1),by(exact ev0 ta),by(exact ev0 tb),by(exact ev0 ei)⟩
  |succ i=>
   have h0:((i+1:Nat):Int)>0:=by omega
   have ej:IntKind.i64.wrap (((i+1:Nat):Int)-1)=(i:Int):=by rw[wrap64 (by omega) (by omega)];omega
   have hg2:=az3 Sf.Inst.cells ins i (by omega);have hi':(i:Int)<((ins.map Sf.Inst.cells).length:Int):=by rw[Zj];omega
   have hi0:(0:Int)≤(i:Int):=by omega
   have hki:ins[i+1-1]?=some (ins[i]'(by omega)):=Zn (by omega);rw[show(if i+1=0 then none else ins[i+1-1]?)=(some (ins[i]'(by omega)))from by rw[if_neg (by omega),hki]]at hit;obtain⟨y,hy⟩:=Ex (ins[i]'(by omega));rw[hy]at hit hg2;dsimp only at hit;have cpy:=fun h=>bxb y h
   have hyc:∃b1 b2 b3 b4 b5 b6 b7 b8 b9 c1 c2 c3 c4,y.cells=[.str b1,.str b2,.str b3,.str b4,.int .i64 b5,.int .i64 b6,.str b7,.sl 5 .no (V.cellss b8),.sl 1 .no (strsA b9),.int .i64 c1,.bool c2,.bool c3,.sl 1 .no (strsA c4)]:=by obtain⟨a,d,id,ty,⟨k,n,s,is,ks⟩,v,tn,fi,ds⟩:=y;exact⟨_,_,_,_,_,_,_,_,_,_,_,_,_,rfl⟩
   obtain⟨b1,b2,b3,b4,b5,b6,b7,b8,b9,c1,c2,c3,c4,hyc⟩:=hyc;rw[hyc]at hg2 cpy;have cg:=cge y;have cy:=cc y;obtain⟨c,hc⟩:=Ex (dz1 y.addr y.dep x.addr x.dep);rw[hc]at cg cy;refine azb (ai t1 (ai ta (ai tb (ai tc (ai e1 (ai h0 (ai ej (ai hg2 (ai hi' hi0))))))))) ?_;refine use (cpy _) ?_;refine azb (ai t1 (ai ta (ai tb tc))) ?_;refine use (cp _) ?_;refine azb (ai t1 (ai ta (ai tb tc))) ?_;refine use (cy _) ?_;by_cases hcz:c≥0
   ·simp only[cg.1 hcz,ZL,if_true]at hit;have hZf:=fi1 1 (by decide) hit;refine azb (ai t1 (ai ta (ai tb (ai tc hcz)))) ?_;exact⟨_,le_refl _,by rw[hZf];rfl⟩
   ·have hb:Sf.behind y x=true:=by cases hb:Sf.behind y x;exact absurd (cg.2 hb) hcz;rfl
    simp only[hb,ZP,Zi,if_false]at hit;refine azb (ai t1 (ai ta (ai tb (ai tc (ai hcz ei))))) ?_;exact⟨ins.length-((i+1)+1),by omega,(i+1)+1,l++[.cells 42 [.str a,.str d,.str id,.str ty,.int .i64 k,.int .i64 n,.str s,.sl 5 .no (V.cellss is),.sl 1 .no (strsA ks),.int .i64 v,.bool tn,.bool fi,.sl 1 .no (strsA ds)]],rfl,by omega,rfl,nx hit,by(exact ev0 t1),by(exact ev0 ta),by(exact ev0 tb),by(exact ev0 ei)⟩
 have hlt:¬((j:Int)<(ins.length:Int)):=by omega
 rw[Y1 (by omega)]at hit;unfold Sf.instsZ at hit;have fi2:=fi2 hit.symm;refine azb (ai t1 (ai ta (ai tb (ai tc (ai hlt (ai lm1 (ai lm2 lm3))))))) ?_;clear hit hlt hjc ta tb tc fi1;have fj1:∀z,z≠0→z=P→Z=z:=fun z h e=>by rw[←e,if_pos h]at fi2;exact fi2.symm
 have fj2:P=0→Z=O:=fun e=>by rw[e,if_neg (by simp)]at fi2;exact fi2.symm
 obtain⟨l0,hl0⟩:∃l0:List Blk,l=l0:=⟨_,rfl⟩;refine azf (fun mm ts h=>∃(j:Nat) (l:List Blk),mm=ps.length-j∧j≤ps.length∧h=⟨.cells 33 [.str lin,.int .i64 ser,.sl 13 .no (ins.map Sf.Inst.cells),.sl 3 .no (ps.map Sf.Pend.cells),.sl 7 .no (os.map Sf.Outp.cells)]::l,[]⟩∧Sf.pendsZ (if j=0 then none else ps[j-1]?.map Sf.Pend.tok) (ps.drop j)=P∧ts 1=.ptr 0 0∧ts 64=.sl 3 .no (ps.map Sf.Pend.cells)∧ts 65=.int .i64 (ps.length:Nat)∧ts 66=.int .i64 (j:Nat)) ps.length ?_ ?_
 ·exact⟨0,l,by omega,by omega,rfl,hP,by(exact ev0 t1),by(exact ev0 t1),by(exact ev0 (ai t1 (ai lm1 (ai lm2 lm3)))),by(exact azq t1)⟩
 rintro mm ts h ⟨j,l,rfl,hjc,rfl,hit,t1,ta,tb,tc⟩;by_cases hj:j<ps.length
 ·have hlt:(j:Int)<(ps.length:Int):=by omega
  have hlt':(j:Int)<((ps.map Sf.Pend.cells).length:Int):=by rw[Zj];exact hlt
  have hj0:(0:Int)≤(j:Int):=by omega
  have ei:IntKind.i64.wrap ((j:Int)+1)=((j+1:Nat):Int):=by rw[wrap64 (by omega) (by omega)];omega
  have hg:=az3 Sf.Pend.cells ps j hj;have hm:=Zt hj;rw[Zr hj]at hit;obtain⟨x,hx⟩:=Ex (ps[j]);rw[hx]at hit hg hm;have hin:=ok.pends x hm;have ct:=fun h=>L.text x.tok hin.2 h
  have cm:=fun h=>bqs L x.addr x.typ hin.1 h
  have hxj:ps[j]?=some x:=by rw[Zn hj,hx]
  unfold Sf.pendsZ Sf.pendB at hit;have nx:Sf.pendsZ (some x.tok) (ps.drop (j+1))=P→Sf.pendsZ (if j+1=0 then none else ps[j+1-1]?.map Sf.Pend.tok) (ps.drop (j+1))=P:=fun e=>by rw[if_neg (by omega),Nat.add_sub_cancel,hxj];exact e
  simp only[Sf.Pend.cells]at hg;obtain⟨T,hT⟩:=Ex (Sf.text x.tok);rw[hT]at ct hit;obtain⟨M,hM⟩:=Ex (Sf.managed x.addr x.typ);rw[hM]at cm hit;refine azb (ai t1 (ai ta (ai tb (ai tc (ai hlt (ai hg (ai hlt' hj0))))))) ?_;refine use (ct _) ?_;cases T
  ·rw[if_pos (by simp)]at hit;have hZf:=fj1 1 (by decide) hit;refine azb (ai t1 (ai ta (ai tb tc))) ?_;exact⟨_,le_refl _,by rw[hZf];rfl⟩
  refine azb (ai t1 (ai ta (ai tb tc))) ?_;refine use (cm _) ?_;cases M
  ·rw[if_pos (by simp)]at hit;have hZf:=fj1 1 (by decide) hit;refine azb (ai t1 (ai ta (ai tb tc))) ?_;exact⟨_,le_refl _,by rw[hZf];rfl⟩
  cases j with
  |zero=>
   have h0:¬((0:Nat):Int)>0:=by omega
   rw[if_neg (by simp[Val.badB])]at hit;refine azb (ai t1 (ai ta (ai tb (ai tc (ai h0 ei))))) ?_;exact⟨ps.length-(0+1),by omega,0+1,l++[.cells 123 [.str x.addr,.str x.typ,.str x.tok]],rfl,by omega,rfl,nx hit,by(exact ev0 t1),by(exact ev0 ta),by(exact ev0 tb),by(exact ev0 ei)⟩
  |succ i=>
   have h0:((i+1:Nat):Int)>0:=by omega
   have ej:IntKind.i64.wrap (((i+1:Nat):Int)-1)=(i:Int):=by rw[wrap64 (by omega) (by omega)];omega
   have hg2:=az3 Sf.Pend.cells ps i (by omega);have hi':(i:Int)<((ps.map Sf.Pend.cells).length:Int):=by rw[Zj];omega
   have hi0:(0:Int)≤(i:Int):=by omega
   have hki:ps[i+1-1]?=some (ps[i]'(by omega)):=Zn (by omega);rw[show(if i+1=0 then none else ps[i+1-1]?.map Sf.Pend.tok)=(some (ps[i]'(by omega))).map Sf.Pend.tok from by rw[if_neg (by omega),hki]]at hit;obtain⟨y,hy⟩:=Ex (ps[i]'(by omega));rw[hy]at hit hg2;simp only[Sf.Pend.cells]at hg2;simp only[ZR,Val.badB]at hit;cases hb:bytesLess y.tok x.tok
   ·simp only[hb,Zx,ZY,ZP,ZL,Yr,YR,if_true]at hit;have hZf:=fj1 1 (by decide) hit;refine azb (ai t1 (ai ta (ai tb (ai tc (ai h0 (ai ej (ai hg2 (ai hi' (ai hi0 hb))))))))) ?_;exact⟨_,le_refl _,by rw[hZf];rfl⟩
   ·simp only[hb,Zx,ZY,ZP,ZL,Yr,Y6,Zi,if_false]at hit;refine azb (ai t1 (ai ta (ai tb (ai tc (ai h0 (ai ej (ai hg2 (ai hi' (ai hi0 (ai hb ei)))))))))) ?_;exact⟨ps.length-((i+1)+1),by omega,(i+1)+1,l++[.cells 123 [.str x.addr,.str x.typ,.str x.tok]],rfl,by omega,rfl,nx hit,by(exact ev0 t1),by(exact ev0 ta),by(exact ev0 tb),by(exact ev0 ei)⟩
 have hlt:¬((j:Int)<(ps.length:Int)):=by omega
 rw[Y1 (by omega)]at hit;unfold Sf.pendsZ at hit;have fj2:=fj2 hit.symm;refine azb (ai t1 (ai ta (ai tb (ai tc (ai hlt (ai lm1 (ai lm2 lm3))))))) ?_;clear hit hlt hjc ta tb tc fj1 hl0 l0;refine azf (fun mm ts h=>∃(j:Nat) (l:List Blk),mm=os.length-j∧j≤os.length∧h=⟨.cells 33 [.str lin,.int .i64 ser,.sl 13 .no (ins.map Sf.Inst.cells),.sl 3 .no (ps.map Sf.Pend.cells),.sl 7 .no (os.map Sf.Outp.cells)]::l,[]⟩∧Sf.outsZ (if j=0 then none else os[j-1]?.map Sf.Outp.name) (os.drop j)=O∧ts 1=.ptr 0 0∧ts 101=.sl 7 .no (os.map Sf.Outp.cells)∧ts 102=.int .i64 (os.length:Nat)∧ts 103=.int .i64 (j:Nat)) os.length ?_ ?_
 ·exact⟨0,l,by omega,by omega,rfl,hO,by(exact ev0 t1),by(exact ev0 t1),by(exact ev0 (ai t1 (ai lm1 (ai lm2 lm3)))),by(exact azq t1)⟩
 rintro mm ts h ⟨j,l,rfl,hjc,rfl,hit,t1,ta,tb,tc⟩;by_cases hj:j<os.length
 ·have hlt:(j:Int)<(os.length:Int):=by omega
  have hlt':(j:Int)<((os.map Sf.Outp.cells).length:Int):=by rw[Zj];exact hlt
  have hj0:(0:Int)≤(j:Int):=by omega
  have ei:IntKind.i64.wrap ((j:Int)+1)=((j+1:Nat):Int):=by rw[wrap64 (by omega) (by omega)];omega
  have hg:=az3 Sf.Outp.cells os j hj;have hm:=Zt hj;rw[Zr hj]at hit;obtain⟨x,hx⟩:=Ex (os[j]);rw[hx]at hit hg hm;have hin:=ok.outs x hm;have ci:=fun h=>cjw L x hin.1 hin.2 h
  have hxj:os[j]?=some x:=by rw[Zn hj,hx]
  unfold Sf.outsZ at hit;have nx:Sf.outsZ (some x.name) (os.drop (j+1))=O→Sf.outsZ (if j+1=0 then none else os[j+1-1]?.map Sf.Outp.name) (os.drop (j+1))=O:=fun e=>by rw[if_neg (by omega),Nat.add_sub_cancel,hxj];exact e
  obtain⟨Z1,hZ1⟩:=Ex (Sf.outZ x);rw[hZ1]at ci hit;clear hZ1;obtain⟨m,⟨k,n,s,is,ks⟩,b⟩:=x;simp only[Sf.Outp.cells]at hg ci;dsimp only at hit nx;refine azb (ai t1 (ai ta (ai tb (ai tc (ai hlt (ai hg (ai hlt' hj0))))))) ?_;refine use (ci _) ?_;by_cases hz:Z1=0
  rotate_left
  ·have e1:(Z1 !=0)=true:=by simp[hz]
   rw[if_pos hz]at hit;refine azb (ai t1 (ai ta (ai tb (ai tc e1)))) ?_;exact⟨_,le_refl _,by rw[fj2,←hit];rfl⟩
  have e1:(Z1 !=0)=false:=by simp[hz]
  rw[if_neg (by simp[hz])]at hit;cases j with
  |zero=>
   have h0:¬((0:Nat):Int)>0:=by omega
   rw[if_neg (by simp[Val.badB])]at hit;refine azb (ai t1 (ai ta (ai tb (ai tc (ai e1 (ai h0 ei)))))) ?_;exact⟨os.length-(0+1),by omega,0+1,l++[.cells 126 [.str m,.int .i64 k,.int .i64 n,.str s,.sl 5 .no (V.cellss is),.sl 1 .no (strsA ks),.bool b]],rfl,by omega,rfl,nx hit,by(exact ev0 t1),by(exact ev0 ta),by(exact ev0 tb),by(exact ev0 ei)⟩
  |succ i=>
   have h0:((i+1:Nat):Int)>0:=by omega
   have ej:IntKind.i64.wrap (((i+1:Nat):Int)-1)=(i:Int):=by rw[wrap64 (by omega) (by omega)];omega
   have hg2:=az3 Sf.Outp.cells os i (by omega);have hi':(i:Int)<((os.map Sf.Outp.cells).length:Int):=by rw[Zj];omega
   have hi0:(0:Int)≤(i:Int):=by omega
   have hki:os[i+1-1]?=some (os[i]'(by omega)):=Zn (by omega);rw[show(if i+1=0 then none else os[i+1-1]?.map Sf.Outp.name)=(some (os[i]'(by omega))).map Sf.Outp.name from by rw[if_neg (by omega),hki]]at hit;obtain⟨y,hy⟩:=Ex (os[i]'(by omega));rw[hy]at hit hg2;obtain⟨m2,⟨k2,n2,s2,is2,ks2⟩,b2⟩:=y;simp only[Sf.Outp.cells]at hg2;simp only[ZR,Val.badB]at hit;cases hb:bytesLess m2 m
   ·simp only[hb,Zx,ZY,ZP,ZL,Yr,YR,if_true]at hit;refine azb (ai t1 (ai ta (ai tb (ai tc (ai e1 (ai h0 (ai ej (ai hg2 (ai hi' (ai hi0 hb)))))))))) ?_;exact⟨_,le_refl _,by rw[fj2,←hit];rfl⟩
   ·simp only[hb,Zx,ZY,ZP,ZL,Yr,Y6,Zi,if_false]at hit;refine azb (ai t1 (ai ta (ai tb (ai tc (ai e1 (ai h0 (ai ej (ai hg2 (ai hi' (ai hi0 (ai hb ei))))))))))) ?_;exact⟨os.length-((i+1)+1),by omega,(i+1)+1,l++[.cells 126 [.str m,.int .i64 k,.int .i64 n,.str s,.sl 5 .no (V.cellss is),.sl 1 .no (strsA ks),.bool b]],rfl,by omega,rfl,nx hit,by(exact ev0 t1),by(exact ev0 ta),by(exact ev0 tb),by(exact ev0 ei)⟩
 have hlt:¬((j:Int)<(os.length:Int)):=by omega
 rw[Y1 (by omega)]at hit;unfold Sf.outsZ at hit;refine azb (ai t1 (ai ta (ai tb (ai tc (ai hlt (ai lm1 (ai lm2 lm3))))))) ?_;exact⟨_,le_refl _,by rw[fj2,←hit];rfl⟩
end AX
end
section
open Go.RowKit
namespace Adr
theorem mods_names(N:Nat):∀(f:Nat) (r:Rd) (l:List Step),r.rest.length≤N→(∀x∈l,x.name.length≤N)→(∀x∈(modsP f r l).1,x.name.length≤N)∧(modsP f r l).2.rest.length≤N∧(modsP f r l).1.length≤l.length+f
 |0,r,l,hr,hl=>⟨hl,hr,Zf _⟩
 |f+1,r,l,hr,hl=>by
  unfold modsP;split
  ·next hc=>
   have h1:=has_len modW r;have h2:=step_len (hasP modW r).2;have h3:=skip_len [46] (stepP (hasP modW r).2).2;have hn:(stepP (hasP modW r).2).1.name.length≤N:=Zl (word_len (hasP modW r).2).2 (by omega)
   obtain⟨q1,q2,q3⟩:=mods_names N f (skipP [46] (stepP (hasP modW r).2).2) (l++[(stepP (hasP modW r).2).1]) (by omega) (fun x hx=>by
    rcases Yz.1 hx with hx|hx
    ·exact hl x hx
    ·rw[Yw.1 hx];exact hn)
   exact⟨q1,q2,Zl q3 (by simp only[Za,YT];omega)⟩
  ·exact⟨hl,hr,by dsimp only;omega⟩
theorem parse_names(s:List UInt8)(h:(parse s).2=0):(∀x∈(parse s).1.mods,x.name.length≤s.length)∧(parse s).1.mods.length≤s.length+1∧(parse s).1.type.length≤s.length∧(parse s).1.name.length≤s.length:=by
 rw[←parse_eq]at h⊢;obtain⟨q1,q2,q3⟩:=mods_names s.length (s.length+1) ⟨s,false⟩ [] (Zf _) (by simp);unfold parseP at h⊢;dsimp only at h⊢;have l1:=has_len dataW (modsP (s.length+1) ⟨s,false⟩ []).2;have l2:=word_len (hasP dataW (modsP (s.length+1) ⟨s,false⟩ []).2).2;have l3:=skip_len [46] (wordP (hasP dataW (modsP (s.length+1) ⟨s,false⟩ []).2).2).2;have l4:=word_len (skipP [46] (wordP (hasP dataW (modsP (s.length+1) ⟨s,false⟩ []).2).2).2);split at h
 ·simp at h
 ·next h1=>
  rw[if_neg h1];split at h
  ·simp at h
  ·next h2=>
   rw[if_neg h2];dsimp only;exact⟨q1,by simpa using q3,by omega,by omega⟩
end Adr
namespace AX
theorem cjn(s:List UInt8)(hs:s.length≤2000000)(h:Hp):AT 142 [.str s] h (.tup [.str (Adr.static s).1,.int .i64 (Adr.static s).2]):=by
 refine pcall ?_ rfl (by simp[A.pure,A.data]) h;refine fo ?_;have cp:=fun h=>czf s hs h
 have hS:Adr.static s=if(Adr.parse s).2≠0 then([],(Adr.parse s).2)else(Adr.fmt (Adr.bare (Adr.parse s).1),0):=rfl
 have hnm:=Adr.parse_names s;obtain⟨⟨a,e⟩,hp⟩:=Ex (Adr.parse s);rw[hp]at cp hS hnm;dsimp only at cp hS hnm;rw[hS];by_cases he:e=0
 rotate_left
 ·have e1:(e !=0)=true:=by simp[he]
  rw[if_pos he];obtain⟨mods,data,ty,nm,⟨kk,kn,ks⟩⟩:=a;dsimp only[Adr.Ad.cells]at cp;refine azb ti ?_;refine use (cp _) ?_;refine azb e1 ?_;exact Fn rfl
 have e1:(e !=0)=false:=by simp[he]
 rw[if_neg (by simp[he])];obtain⟨n1,n2,n3,n4⟩:=hnm he;have cs:=fun h=>cqb a (by omega) h
 have cf:=fun h=>by9 (Adr.bare a) ⟨by unfold Adr.bare;dsimp only;rw[Zj];omega,fun x hx=>by
   unfold Adr.bare at hx;obtain⟨y,hy,rfl⟩:=Y7.1 hx;have:=n1 y hy
   exact⟨Zl this hs,by simp[Adr.K.none]⟩,by unfold Adr.bare;dsimp only;omega,by unfold Adr.bare;dsimp only;omega,by unfold Adr.bare Adr.K.none;simp⟩
  (fun x hx=>by
   unfold Adr.bare at hx;obtain⟨y,hy,rfl⟩:=Y7.1 hx
   rfl) rfl h
 have hbc:(Adr.bare a).cells=[.sl 4 .no ((a.mods.map fun s=>(⟨s.name,Adr.K.none⟩:Adr.Step)).map Adr.Step.cells),.bool a.data,.str a.type,.str a.name,.int .i64 0,.int .i64 0,.str []]:=rfl;rw[hbc]at cs cf;obtain⟨F,hF⟩:=Ex (Adr.fmt (Adr.bare a));rw[hF]at cf⊢;clear hS n1 n2 n3 n4 hnm hp hbc;obtain⟨mods,data,ty,nm,⟨kk,kn,ks⟩⟩:=a;dsimp only[Adr.Ad.cells]at cp cs cf;refine azb ti ?_;refine use (cp _) ?_;refine azb e1 ?_;refine use (cs _) ?_;refine azb ti ?_;refine use (cf _) ?_;refine azb ti ?_;exact Fn rfl
theorem leafs:Leafs where
 parse:=czf
 static:=cjn
 ident:=ak1
 num:=a_numParse
 cmp:=dqe
 known:=fun v hl h=>cyi v hl h
 text:=fun s hs h=>(ckv s hs h).mono fun v h' hv=>hv
theorem avx(st:Sf.St)(ok:Sf.StIn st):SCheck st:=cxk leafs st ok
end AX
namespace Sf
theorem strS_len(s:Rs):(strS s).2.length≤s.r.rest.length:=by
 unfold strS Wire.strR;dsimp only;split
 ·exact Zz _
 ·dsimp only;rw[ZQ];have:=Wire.cntR_rest s.r 1;omega
theorem words_in(N:Nat):∀(c:Nat) (s:Rs) (l:List (List UInt8)),s.r.rest.length≤N→(∀x∈l,x.length≤N)→(∀x∈(wordsS c s l).2,x.length≤N)∧(wordsS c s l).2.length=l.length+c
 |0,s,l,hs,hl=>⟨hl,rfl⟩
 |c+1,s,l,hs,hl=>by
  unfold wordsS
  obtain⟨h1,h2⟩:=words_in N c (strS s).1 (l++[(strS s).2]) (Zl (strS_le s) hs) (fun x hx=>by
   rcases Yz.1 hx with hx|hx
   ·exact hl x hx
   ·rw[Yw.1 hx];exact Zl (strS_len s) hs)
  refine⟨h1,?_⟩;rw[h2,Za,YT];omega
theorem value_lens(s:Rs)(hs:s.r.rest.length≤100000000):(valueS s).2.lens:=AX.axa s.r hs
theorem inst_in(ver:Int)(s:Rs)(hs:s.r.rest.length≤2000000):AX.Sf.InstIn (instS ver s).2:=by
 have e1:=strS_le s;have e2:=strS_le (strS s).1;have e3:=strS_le (strS (strS s).1).1;have e4:=strS_le (strS (strS (strS s).1).1).1;have e5:=valueS_le (strS (strS (strS (strS s).1).1).1).1;have e6:=numS_le (valueS (strS (strS (strS (strS s).1).1).1).1).1;have e7:=flagS_le (numS (valueS (strS (strS (strS (strS s).1).1).1).1).1).1;have l1:=strS_len s;have l2:=strS_len (strS s).1;have l3:=strS_len (strS (strS s).1).1;have v:=value_lens (strS (strS (strS (strS s).1).1).1).1 (by omega);unfold instS;dsimp only;generalize hF:(if ver=2 then flagS (flagS (numS (valueS (strS (strS (strS (strS s).1).1).1).1).1).1).1 else((flagS (numS (valueS (strS (strS (strS (strS s).1).1).1).1).1).1).1,false))=F;have e8:F.1.r.rest.length≤2000000:=by
  rw[←hF];split
  ·have:=flagS_le (flagS (numS (valueS (strS (strS (strS (strS s).1).1).1).1).1).1).1;omega
  ·dsimp only;omega
 have e9:=cntS_le F.1;have e10:=cntS_cnt F.1;obtain⟨w1,w2⟩:=words_in 2000000 (cntS F.1).2 (cntS F.1).1 [] (by omega) (by simp);refine⟨by dsimp only;omega,by dsimp only;omega,by dsimp only;omega,v,?_,w1⟩;show(wordsS (cntS F.1).2 (cntS F.1).1 []).2.length≤1000000000
 rw[w2,Zy];omega
theorem insts_in(ver:Int):∀(c:Nat) (s:Rs) (l:List Inst),s.r.rest.length≤2000000→(∀x∈l,AX.Sf.InstIn x)→(∀x∈(instsS ver c s l).2.1,AX.Sf.InstIn x)∧(instsS ver c s l).2.1.length≤l.length+c∧(instsS ver c s l).1.r.rest.length≤s.r.rest.length
 |0,s,l,hs,hl=>⟨hl,Zf _,Zf _⟩
 |c+1,s,l,hs,hl=>by
  unfold instsS;split
  ·exact⟨hl,by dsimp only;omega,Zf _⟩
  ·have h0:=instS_le ver s
   obtain⟨h1,h2,h3⟩:=insts_in ver c (instS ver s).1 (l++[(instS ver s).2]) (by omega) (fun x hx=>by
    rcases Yz.1 hx with hx|hx
    ·exact hl x hx
    ·rw[Yw.1 hx];exact inst_in ver s hs)
   refine⟨h1,?_,Zl h3 h0⟩;rw[Za,YT]at h2;omega
theorem pendS_le(s:Rs):(pendS s).1.r.rest.length≤s.r.rest.length:=Zl (strS_le _) (Zl (strS_le _) (strS_le _))
theorem pends_in:∀(c:Nat) (s:Rs) (l:List Pend),s.r.rest.length≤2000000→(∀x∈l,x.addr.length≤2000000∧x.tok.length≤2000000)→(∀x∈(pendsS c s l).2,x.addr.length≤2000000∧x.tok.length≤2000000)∧(pendsS c s l).2.length=l.length+c∧(pendsS c s l).1.r.rest.length≤s.r.rest.length
 |0,s,l,hs,hl=>⟨hl,rfl,Zf _⟩
 |c+1,s,l,hs,hl=>by
  unfold pendsS;have h0:=pendS_le s;have k1:=strS_len s;have k2:=strS_len (strS (strS s).1).1;have k3:=strS_le s;have k4:=strS_le (strS s).1
  obtain⟨h1,h2,h3⟩:=pends_in c (pendS s).1 (l++[(pendS s).2]) (by omega) (fun x hx=>by
   rcases Yz.1 hx with hx|hx
   ·exact hl x hx
   ·rw[Yw.1 hx];unfold pendS;dsimp only
    exact⟨by omega,by omega⟩)
  refine⟨h1,?_,Zl h3 h0⟩;rw[h2,Za,YT];omega
theorem outS_le(s:Rs):(outS s).1.r.rest.length≤s.r.rest.length:=Zl (flagS_le _) (Zl (valueS_le _) (strS_le _))
theorem outs_in:∀(c:Nat) (s:Rs) (l:List Outp),s.r.rest.length≤2000000→(∀x∈l,x.name.length≤2000000∧x.value.lens)→(∀x∈(outsS c s l).2.1,x.name.length≤2000000∧x.value.lens)∧(outsS c s l).2.1.length≤l.length+c
 |0,s,l,hs,hl=>⟨hl,Zf _⟩
 |c+1,s,l,hs,hl=>by
  unfold outsS;split
  ·exact⟨hl,by dsimp only;omega⟩
  ·have h0:=outS_le s;have k1:=strS_len s;have k3:=strS_le s
   obtain⟨h1,h2⟩:=outs_in c (outS s).1 (l++[(outS s).2]) (by omega) (fun x hx=>by
    rcases Yz.1 hx with hx|hx
    ·exact hl x hx
    ·rw[Yw.1 hx];unfold outS;dsimp only
     exact⟨by omega,value_lens _ (by omega)⟩)
   refine⟨h1,?_⟩;rw[Za,YT]at h2;omega
theorem state_in(ver:Int)(s:Rs)(hs:s.r.rest.length≤2000000):AX.Sf.StIn (stateS ver s).2:=by
 have e1:=strS_le s;have e2:=numS_le (strS s).1;have e3:=cntS_le (numS (strS s).1).1;have e4:=cntS_cnt (numS (strS s).1).1;have l1:=strS_len s;obtain⟨i1,i2,i3⟩:=insts_in ver (cntS (numS (strS s).1).1).2 (cntS (numS (strS s).1).1).1 [] (by omega) (by simp);unfold stateS;dsimp only;generalize instsS ver (cntS (numS (strS s).1).1).2 (cntS (numS (strS s).1).1).1 []=I at i1 i2 i3;rw[Zy]at i2;split
 ·exact⟨by dsimp only;omega,i1,by simp,by simp,by dsimp only;omega,by simp,by simp⟩
 ·have hP:∃P:Rs×List Pend,(if ver=2 then pendsS (cntS I.1).2 (cntS I.1).1 []else(I.1,[]))=P∧P.1.r.rest.length≤2000000∧(∀x∈P.2,x.addr.length≤2000000∧x.tok.length≤2000000)∧P.2.length≤2000000:=by
   have c1:=cntS_le I.1;have c2:=cntS_cnt I.1;by_cases hv:ver=2
   ·rw[if_pos hv];obtain⟨p1,p2,p3⟩:=pends_in (cntS I.1).2 (cntS I.1).1 [] (by omega) (by simp);exact⟨_,rfl,by omega,p1,by rw[p2,Zy];omega⟩
   ·rw[if_neg hv];exact⟨_,rfl,by dsimp only;omega,by simp,by simp⟩
  obtain⟨P,hP,p1,p2,p3⟩:=hP;rw[hP];have c1:=cntS_le P.1;have c2:=cntS_cnt P.1;obtain⟨o1,o2⟩:=outs_in (cntS P.1).2 (cntS P.1).1 [] (by omega) (by simp);rw[Zy]at o2;exact⟨by dsimp only;omega,i1,p2,o1,by dsimp only;omega,by dsimp only;omega,by dsimp only;omega⟩
theorem insts_zero:∀(l:List Inst) (p:Option Inst),instsZ p l=0→∀x∈l,instZ x=0
 |[],_,_=>by simp
 |x::l,p,h=>by
  unfold instsZ at h;by_cases h1:instZ x=0
  rotate_left
  ·rw[if_pos h1]at h;exact absurd h h1
  ·rw[if_neg (by simp[h1])]at h;have h':instsZ (some x) l=0:=by
    cases p with
    |none=>simpa using h
    |some y=>
     dsimp only at h;cases hb:behind y x
     ·simp[hb]at h
     ·simpa [hb]using h
   ·intro y hy;rcases Z8.1 hy with rfl|hy
    ·exact h1
    ·exact insts_zero l _ h' y hy
theorem outs_zero:∀(l:List Outp) (p:Option (List UInt8)),outsZ p l=0→∀x∈l,outZ x=0
 |[],_,_=>by simp
 |x::l,p,h=>by
  unfold outsZ at h;split at h
  ·next h1=>exact absurd h h1
  ·next h1=>
   split at h
   ·simp at h
   ·intro y hy;rcases Z8.1 hy with rfl|hy
    ·simpa using h1
    ·exact outs_zero l _ h y hy
theorem inst_zero{x:Inst}(h:instZ x=0):Val.checkZ x.attrs=0∧1≤x.ver∧x.ver≤9007199254740992:=by
 unfold instZ at h;split at h
 ·simp at h
 ·split at h
  ·next h1=>exact absurd h h1
  ·next h1=>
   split at h
   ·simp at h
   ·split at h
    ·simp at h
    ·split at h
     ·simp at h
     ·next h2=>exact⟨by simpa using h1,by omega,by omega⟩
theorem out_zero{x:Outp}(h:outZ x=0):Val.checkZ x.value=0:=by
 unfold outZ at h;split at h
 ·simp at h
 ·split at h
  ·next h1=>exact absurd h h1
  ·next h1=>simpa using h1
theorem check_parts{s:St}(h:checkZ s=0):0≤s.ser∧s.ser≤9007199254740992∧s.insts.length≤512∧s.pends.length≤512∧s.outs.length≤512∧instsZ none s.insts=0∧pendsZ none s.pends=0∧outsZ none s.outs=0:=by
 unfold checkZ at h;split at h
 ·simp at h
 ·split at h
  ·simp at h
  ·split at h
   ·simp at h
   ·split at h
    ·next h1=>exact absurd h h1
    ·split at h
     ·next h1=>exact absurd h h1
     ·next h1 h2 h3 h4 h5=>exact⟨by omega,by omega,by omega,by omega,by omega,by simpa using h4,by simpa using h5,h⟩
theorem stOk_of{s:St}(h:checkZ s=0)(hin:AX.Sf.StIn s):AX.Sf.StOk s:=by
 obtain⟨h1,h2,h3,h4,h5,h6,h7,h8⟩:=check_parts h;refine⟨fun x hx=>?_,fun x hx=>?_,by omega,by omega,by omega,by omega,by omega⟩
 ·obtain⟨k1,k2,k3⟩:=inst_zero (insts_zero _ _ h6 x hx);exact⟨⟨1,0,k1⟩,(hin.insts x hx).l,by omega,by omega⟩
 ·exact⟨⟨1,0,out_zero (outs_zero _ _ h8 x hx)⟩,(hin.outs x hx).2⟩
theorem insts_two:∀l:List Inst,(l.flatMap (instE 2)).length≤(l.flatMap (instE 1)).length+10*l.length
 |[]=>by simp
 |x::l=>by
  have ih:=insts_two l;have h1:(instE 2 x).length≤(instE 1 x).length+10:=by
   have:=AX.num_len (if x.first then 1 else 0);unfold instE;rw[if_pos (rfl:(2:Int)=2),if_neg (show¬((1:Int)=2) by decide)];unfold flagE;simp only[Za,Zy];omega
  rw[Y9,Y9,Za,Za,Zh];omega
theorem stE_two(s:St)(hp:s.pends=[]):(stE 2 s).length≤(stE 1 s).length+10*s.insts.length+20:=by
 have h1:=insts_two s.insts;have h2:=AX.num_len 2;have h3:=AX.num_len (s.pends.length:Nat);unfold stE;rw[if_pos rfl,if_neg (by decide)];rw[hp]at h3⊢;simp only[Za,Zy,Zai]at h3⊢;omega
theorem decode_back{b:List UInt8}{st:St}(h:decode b=(st,0)):∃ver,(ver=1∨ver=2)∧AX.versionS b=(ver,0)∧checkZ st=0∧encode ver st=(b,0)∧(stE ver st).length≤b.length∧(ver=1→st.pends=[])∧∃s:Rs,s.r.rest.length≤b.length∧st=(stateS ver s).2:=by
 unfold decode at h;by_cases h1:1048576<b.length
 ·rw[if_pos h1]at h;simp at h
 rw[if_neg h1]at h;by_cases h2:AX.preB b=false
 ·rw[if_pos h2]at h;simp at h
 rw[if_neg h2]at h;by_cases h3:(Crc.ver b).2=0
 rotate_left
 ·rw[if_pos h3]at h;simp at h
 rw[if_neg (by simp[h3])]at h;obtain⟨⟨body,e⟩,hb⟩:=Ex (Crc.ver b);rw[hb]at h h3;dsimp only at h h3;subst h3;have happ:=Seal.app_ver b body hb;by_cases h4:(AX.versionS body).2=0
 rotate_left
 ·rw[if_pos h4]at h;injection h with _ h;exact absurd h h4
 rw[if_neg (by simp[h4])]at h;have h12:=AX.awt h4;obtain⟨⟨ver,e⟩,hv⟩:=Ex (AX.versionS body);rw[hv]at h h4 h12;dsimp only at h h4 h12;subst h4;generalize hr:stateS ver ⟨(Wire.numR ⟨body.drop 4,0⟩).1,false⟩=r at h;cases hx:(r.1.fails||decide (0<r.1.r.rest.length)||checkZ r.2 !=0);rotate_left
 ·rw[hx,if_pos rfl]at h;simp at h
 rw[hx,if_neg (by decide)]at h;injection h with h5 _;rw[Yp,Yp,bne_eq_false_iff_eq,YW]at hx;obtain⟨⟨x1,x2⟩,x3⟩:=hx;have took:=state_took (ver:=ver) (s:=⟨(Wire.numR ⟨body.drop 4,0⟩).1,false⟩) (by rw[hr];exact x1);rw[hr]at took;have hrest:r.1.r.rest=[]:=Z4 (by omega);have t2:(Wire.numR ⟨body.drop 4,0⟩).1.rest=restE ver r.2:=by
  have:=took.2;rw[hrest,ZB]at this;exact this
 have hpre:AX.preB body=true∧(Wire.numR ⟨body.drop 4,0⟩).1.e=0∧(Wire.numR ⟨body.drop 4,0⟩).2=ver:=by
  unfold AX.versionS at hv;dsimp only at hv;split at hv
  ·simp at hv
  ·next q1=>
   split at hv
   ·simp at hv
   ·next q2=>
    split at hv
    ·simp at hv
    ·injection hv with hv _;exact⟨by simpa using q1,by simpa using q2,hv⟩
 obtain⟨g1,g2,g3⟩:=hpre;obtain⟨_,g4⟩:=Wire.numR_back g2;rw[g3,t2]at g4;have hmag:body.take 4=magic:=by
  unfold AX.preB at g1;rw[Zc,ZA]at g1;exact g1.2
 have hbody:body=stE ver r.2:=by
  rw[stE_rest,Zg,←g4,←hmag,Yq]
 subst h5;have hlen:b.length=body.length+4:=by
  rw[happ];unfold Crc.app;rw[Za,Crc.four_length]
 have hnum:∀l:List UInt8,Wire.numR ⟨Wire.num ver++l,0⟩=(⟨l,0⟩,ver):=fun l=>by
  unfold Wire.numR;rw[if_neg (by simp),Wire.grp_num ver l (by omega) (by omega)];dsimp only;rw[List.drop_left]
 refine⟨ver,h12,?_,x3,?_,by rw[←hbody];omega,?_,_,?_,by rw[hr]⟩
 ·have hb4:b.drop 4=Wire.num ver++(restE ver r.2++Crc.four (Crc.upd 0 body)):=by
   rw[happ];unfold Crc.app;have h4:4≤body.length:=by
    have:=congrArg List.length hmag;rw[ZQ]at this;simp only[magic,Zh,Zy]at this;omega
   rw[List.drop_append_of_le_length h4];rw[show body.drop 4=Wire.num ver++restE ver r.2 from g4,Zg]
  unfold AX.versionS;rw[if_neg h2];dsimp only;rw[hb4,hnum];dsimp only;rw[if_neg (by simp),if_neg (by omega)]
 ·unfold encode;rw[if_neg (by simp[x3]),←hbody,if_neg (by omega),←happ]
 ·intro h1v;rw[←hr];unfold stateS;dsimp only;split
  ·rfl
  ·rw[if_neg (by omega)]
 ·have:=Wire.numR_rest ⟨body.drop 4,0⟩;dsimp only at this⊢;rw[Zv]at this;omega
end Sf
end
section
namespace Sf
def rd(l:List UInt8):Rs:=⟨⟨l,0⟩,false⟩
structure TypIn(s:St):Prop where
 insts:∀x∈s.insts,x.typ.length≤2000000
 pends:∀x∈s.pends,x.typ.length≤2000000
end Sf
end
section
namespace Jr
open Sf (Rs rd numS strS flagS cntS)
def stepE(r:Jr):List UInt8:=Wire.num r.step++Wire.num r.op++Wire.strE r.addr++Wire.strE r.dep++Wire.strE r.typ
def restE(r:Jr)(b:List UInt8):List UInt8:=
 if r.kind=1 then Wire.strE b else if r.kind=2 then stepE r++Wire.strE r.tok else if r.kind=3 then stepE r++Sf.instE 2 r.after else if r.kind=4 then stepE r++Wire.num r.err++Sf.instE 2 r.after else[]
def body(r:Jr):List UInt8:=Wire.num r.kind++restE r (Sf.encode 2 r.base).1
def enc(r:Jr):List UInt8×Int:=
 if r.validB=false then([],1)
 else if r.kind=1∧(Sf.encode 2 r.base).2≠0 then([],(Sf.encode 2 r.base).2)
 else if 1048576<(Crc.app (Wire.strE r.body)).length then([],3)else(Crc.app (Wire.strE r.body),0)
def zeroI:Sf.Inst:=⟨[],[],[],[],.mk 0 0 [] [] [],0,false,false,[]⟩
def zeroR:Jr:=⟨0,Sf.zero,0,0,[],[],[],[],0,zeroI⟩
def wordsJ:Nat→Rs→List (List UInt8)→Rs×List (List UInt8)
 |0,s,l=>(s,l)
 |c+1,s,l=>if s.fails=true then(s,l)else wordsJ c (strS s).1 (l++[(strS s).2])
def instJ(s:Rs):Rs×Sf.Inst:=
 let a:=strS s
 let b:=strS a.1
 let c:=strS b.1
 let d:=strS c.1
 if d.1.fails=true then(d.1,zeroI)
 else
  let v:=Val.readValue d.1.r
  if v.2.1≠0 then(⟨v.1,true⟩,zeroI)
  else
   let n:=numS ⟨v.1,d.1.bad⟩
   let t:=flagS n.1
   let f:=flagS t.1
   let k:=cntS f.1
   let w:=wordsJ k.2 k.1 []
   (w.1,⟨a.2,b.2,c.2,d.2,v.2.2,n.2,t.2,f.2,w.2⟩)
def stepJ(s:Rs)(x:Jr):Rs×Jr:=
 let a:=numS s
 let b:=numS a.1
 let c:=strS b.1
 let d:=strS c.1
 let e:=strS d.1
 (e.1,{ x with step:=a.2,op:=b.2,addr:=c.2,dep:=d.2,typ:=e.2 })
def partJ(s:Rs)(x:Jr):Rs×Jr:=
 if x.kind=1 then
  let t:=strS s
  let d:=Sf.decode t.2
  (⟨t.1.r,d.2 !=0⟩,{ x with base:=d.1 })
 else if x.kind=2 then
  let p:=stepJ s x
  let t:=strS p.1
  (t.1,{ p.2 with tok:=t.2 })
 else if x.kind=3 then
  let p:=stepJ s x
  let i:=instJ p.1
  (i.1,{ p.2 with after:=i.2 })
 else if x.kind=4 then
  let p:=stepJ s x
  let e:=numS p.1
  let i:=instJ e.1
  (i.1,{ p.2 with err:=e.2,after:=i.2 })
 else(s,x)
def recJ(l:List UInt8):Jr×Bool:=
 let k:=numS (rd l)
 let q:=partJ k.1 { zeroR with kind:=k.2 }
 (q.2,!q.1.fails&&q.1.r.rest.length==0)
structure InstE(x:Sf.Inst):Prop where
 a:x.addr.length≤2000000
 d:x.dep.length≤2000000
 i:x.id.length≤2000000
 t:x.typ.length≤2000000
 v:Val.checkZ x.attrs=0
 v0:-9223372036854775808≤x.ver
 v1:x.ver≤9223372036854775807
 n:x.deps.length≤2000000
 ds:∀s∈x.deps,s.length≤2000000
theorem zeroV_eq{v:V}(h:zeroV v=true):v=.mk 0 0 [] [] []:=by
 obtain⟨k,n,s,is,ks⟩:=v;unfold zeroV at h;simp only[Zc,ZA,Int.natCast_eq_zero,Zab]at h;obtain⟨⟨⟨⟨rfl,rfl⟩,rfl⟩,rfl⟩,rfl⟩:=h;rfl
theorem noneB_eq{x:Sf.Inst}(h:noneB x=true):x=zeroI:=by
 obtain⟨ad,dep,id,typ,at',v,ta,fi,ds⟩:=x;unfold noneB at h;simp only[Zc,ZA,YG,Int.natCast_eq_zero,Zab]at h;obtain⟨⟨⟨⟨⟨⟨⟨⟨h1,rfl⟩,rfl⟩,rfl⟩,rfl⟩,rfl⟩,rfl⟩,rfl⟩,rfl⟩:=h;rw[zeroV_eq h1];rfl
theorem zeroI_enc:InstE zeroI:=⟨by decide,by decide,by decide,by decide,by decide +kernel,by decide,by decide,by decide,by simp[zeroI]⟩
theorem shortB_mem{l:List (List UInt8)}(h:shortB l=true):∀s∈l,s.length≤4096:=fun s hs=>by
 have:=ZE.1 h s hs;simp only[Zm]at this;omega
theorem instB_enc{x:Sf.Inst}(h:instB x=true):InstE x:=by
 unfold instB at h;simp only[Zc,Zm,ZA]at h;obtain⟨⟨⟨⟨⟨h1,h2⟩,h3⟩,h4⟩,h5⟩,h6⟩:=h;have m:=shortB_mem h1;exact⟨by have:=m x.addr (by simp);omega,by have:=m x.dep (by simp);omega,by have:=m x.id (by simp);omega,by have:=m x.typ (by simp);omega,h4,by omega,by omega,by omega,fun s hs=>by have:=shortB_mem h2 s hs;omega⟩
theorem afterB_enc{op:Int}{x:Sf.Inst}(h:(noneB x||makesB op&&instB x)=true):InstE x:=by
 rw[ZS,Zc]at h;rcases h with h|h
 ·rw[noneB_eq h];exact zeroI_enc
 ·exact instB_enc h.2
end Jr
end
section
namespace Jr
open Sf (Rs rd numS strS flagS cntS)
def firstJ(b:List UInt8):Option (Jr×Nat):=
 if b=[]then none
 else
  let s:=strS (rd b)
  let n:=b.length-s.1.r.rest.length+4
  if s.1.r.e≠0∨b.length<n∨1048576<n then none
  else
   let x:=recJ s.2
   if x.2=false then none
   else if(enc x.1).2≠0∨(enc x.1).1≠b.take n then none else some (x.1,n)
theorem enc_ok{r:Jr}(h:(enc r).2=0):r.validB=true∧(enc r).1=Crc.app (Wire.strE r.body)∧(Crc.app (Wire.strE r.body)).length≤1048576:=by
 unfold enc at h⊢;by_cases h1:r.validB=false
 ·rw[if_pos h1]at h;cases h
 rw[if_neg h1]at h⊢;by_cases h2:r.kind=1∧(Sf.encode 2 r.base).2≠0
 ·rw[if_pos h2]at h;exact absurd h h2.2
 rw[if_neg h2]at h⊢;by_cases h3:1048576<(Crc.app (Wire.strE r.body)).length
 ·rw[if_pos h3]at h;cases h
 rw[if_neg h3];exact⟨by simpa using h1,rfl,by omega⟩
theorem first_some{b:List UInt8}{x:Jr}{n:Nat}(h:firstJ b=some (x,n)):enc x=(b.take n,0)∧4≤n∧n≤b.length:=by
 unfold firstJ at h;split at h
 ·cases h
 dsimp only at h;split at h
 ·cases h
 next h1=>
 split at h
 ·cases h
 split at h
 ·cases h
 next h2=>
 injection h with h;injection h with e1 e2;subst e1;rw[not_or,Decidable.not_not,Decidable.not_not]at h2;rw[not_or,not_or]at h1;subst e2;refine⟨?_,by omega,by omega⟩;rw[←h2.2,←h2.1]
def readF:Nat→List UInt8→List Jr×Nat
 |0,_=>([],0)
 |k+1,b=>match firstJ b with
  |none=>([],0)
  |some (x,n)=>(x::(readF k (b.drop n)).1,n+(readF k (b.drop n)).2)
def readJ(b:List UInt8):List Jr×Nat:=readF b.length b
theorem readF_le:∀(k m:Nat) (b:List UInt8),b.length≤k→b.length≤m→readF k b=readF m b
 |0,0,b,_,_=>rfl
 |0,m+1,b,hk,_=>by
  have:b=[]:=Zab.1 (by omega);subst this;rfl
 |k+1,0,b,_,hm=>by
  have:b=[]:=Zab.1 (by omega);subst this;rfl
 |k+1,m+1,b,hk,hm=>by
  unfold readF;cases h:firstJ b with
  |none=>rfl
  |some p=>
   obtain⟨x,n⟩:=p;have:=first_some h;dsimp only;rw[readF_le k m (b.drop n) (by rw[Zv];omega) (by rw[Zv];omega)]
theorem readJ_cons{b:List UInt8}{x:Jr}{n:Nat}(h:firstJ b=some (x,n)):readJ b=(x::(readJ (b.drop n)).1,n+(readJ (b.drop n)).2):=by
 have hn:=first_some h;unfold readJ;obtain⟨k,hk⟩:∃k,b.length=k+1:=⟨b.length-1,by omega⟩;rw[hk]
 conv=>lhs;unfold readF
 rw[h];dsimp only;rw[readF_le k (b.drop n).length (b.drop n) (by rw[Zv];omega) (Zf _)]
theorem readJ_none{b:List UInt8}(h:firstJ b=none):readJ b=([],0):=by
 unfold readJ;cases hb:b.length with
 |zero=>rfl
 |succ k=>unfold readF;rw[h]
def encs(l:List Jr):List UInt8:=l.flatMap fun r=>(enc r).1
end Jr
end
section
namespace Jr
open Sf (Rs rd numS strS flagS cntS flagQ wordsQ instQ depsQ bad_f good_f fails_or strS_f numS_f cntS_f flagS_f)
open Wire (numR strR cntR numR_bad strR_bad cntR_bad)
theorem words_agreeJ:∀(c:Nat) (r:Wire.St) (l:List (List UInt8)),wordsJ c ⟨r,false⟩ l=(⟨(wordsQ c r l).1,false⟩,(wordsQ c r l).2)
 |0,r,l=>rfl
 |c+1,r,l=>by
  unfold wordsQ wordsJ;by_cases h:r.e≠0
  ·rw[if_pos h,if_pos (bad_f r h)]
  ·rw[if_neg h,if_neg (show¬(⟨r,false⟩:Rs).fails=true by rw[good_f r (by simpa using h)];decide)];exact words_agreeJ c (strR r).1 _
theorem wordsJ_f:∀(c:Nat) (s:Rs) (l:List (List UInt8)),s.fails=true→(wordsJ c s l).1.fails=true
 |0,s,l,h=>h
 |c+1,s,l,h=>by unfold wordsJ;rw[if_pos h];exact h
theorem instJ_f{s:Rs}(h:s.fails=true):(instJ s).1.fails=true:=by
 have h1:=strS_f (strS_f (strS_f (strS_f h)));unfold instJ;dsimp only;rw[if_pos h1];exact h1
theorem inst_agreeJ(r:Wire.St):((instQ 2 r).2.2=true→instJ ⟨r,false⟩=(⟨(instQ 2 r).1,false⟩,(instQ 2 r).2.1))∧((instQ 2 r).2.2=false→(instJ ⟨r,false⟩).1.fails=true):=by
 unfold instQ instJ;obtain⟨⟨r1,x1⟩,h1⟩:=Ex (strR r);obtain⟨⟨r2,x2⟩,h2⟩:=Ex (strR r1);obtain⟨⟨r3,x3⟩,h3⟩:=Ex (strR r2);obtain⟨⟨r4,x4⟩,h4⟩:=Ex (strR r3);have s1:strS ⟨r,false⟩=(⟨r1,false⟩,x1):=by unfold strS;rw[h1]
 have s2:strS ⟨r1,false⟩=(⟨r2,false⟩,x2):=by unfold strS;rw[h2]
 have s3:strS ⟨r2,false⟩=(⟨r3,false⟩,x3):=by unfold strS;rw[h3]
 have s4:strS ⟨r3,false⟩=(⟨r4,false⟩,x4):=by unfold strS;rw[h4]
 simp only[h1,h2,h3,h4,s1,s2,s3,s4];clear h1 h2 h3 h4 s1 s2 s3 s4;by_cases h0:r4.e≠0
 ·rw[if_pos (bad_f r4 h0)];simp only[Val.readValue_bad h0];rw[if_pos h0];exact⟨fun h=>(by cases h),fun _=>bad_f r4 h0⟩
 rw[if_neg (show¬(⟨r4,false⟩:Rs).fails=true by rw[good_f r4 (by simpa using h0)];decide)];obtain⟨⟨r5,e5,v5⟩,h5⟩:=Ex (Val.readValue r4);simp only[h5];clear h5;by_cases he:e5=0
 rotate_left
 ·rw[if_pos he,if_pos he];exact⟨fun h=>(by cases h),fun _=>fails_or.2 (.inl rfl)⟩
 subst he;rw[if_neg (show¬((0:Int)≠0) by decide),if_neg (show¬((0:Int)≠0) by decide)];obtain⟨⟨r6,x6⟩,h6⟩:=Ex (numR r5);have s6:numS ⟨r5,false⟩=(⟨r6,false⟩,x6):=by unfold numS;rw[h6]
 simp only[h6,s6];clear h6 s6;have h7:=Sf.flag_agree r6;obtain⟨⟨r7,x7,o7⟩,hq7⟩:=Ex (flagQ r6);rw[hq7]at h7⊢;dsimp only at h7⊢;cases o7 with
 |false=>
  rw[show(if(2:Int)≥2∧false=true then flagQ r7 else(r7,false,false))=(r7,false,false)from if_neg (by rintro⟨_,h⟩;cases h)];dsimp only;rw[if_pos rfl];exact⟨fun h=>(by cases h),fun _=>wordsJ_f _ _ _ (cntS_f (flagS_f (h7.2 rfl)))⟩
 |true=>
  rw[h7.1 rfl];dsimp only;rw[show(if(2:Int)≥2∧true=true then flagQ r7 else(r7,false,true))=flagQ r7 from if_pos ⟨by decide,rfl⟩];have h8:=Sf.flag_agree r7;obtain⟨⟨r8,x8,o8⟩,hq8⟩:=Ex (flagQ r7);rw[hq8]at h8⊢;dsimp only at h8⊢;cases o8 with
  |false=>
   rw[if_pos rfl];exact⟨fun h=>(by cases h),fun _=>wordsJ_f _ _ _ (cntS_f (h8.2 rfl))⟩
  |true=>
   rw[if_neg (by decide),h8.1 rfl];have sc:cntS ⟨r8,false⟩=(⟨(cntR r8 1).1,false⟩,(cntR r8 1).2):=rfl;rw[sc];dsimp only;rw[words_agreeJ];unfold depsQ;dsimp only;refine⟨fun h=>rfl,fun h=>bad_f _ (by simpa using h)⟩
theorem instQ_ok{ver:Int}{r:Wire.St}(h:(instQ ver r).2.2=true):(instQ ver r).1.e=0:=by
 have key:∀(z:Int) (A:Wire.St×Sf.Inst×Bool) (f:Wire.St×Bool×Bool) (x:Sf.Inst),A.2.2=false→((if z≠0 then A else if f.2.2=false then(f.1,Sf.zeroIn,false)else depsQ f.1 x).2.2=true)→((if z≠0 then A else if f.2.2=false then(f.1,Sf.zeroIn,false)else depsQ f.1 x).1.e=0):=by
  intro z A f x hA h;by_cases hz:z≠0
  ·rw[if_pos hz,hA]at h;cases h
  ·rw[if_neg hz]at h⊢;by_cases hf:f.2.2=false
   ·rw[if_pos hf]at h;cases h
   ·rw[if_neg hf]at h⊢;unfold depsQ at h⊢;dsimp only at h⊢;simpa using h
 unfold instQ at h⊢;dsimp only at h⊢;exact key _ (_,Sf.zeroIn,false) _ _ rfl h
def recQ(l:List UInt8):Jr×Bool:=
 let k:=numR ⟨l,0⟩
 if k.1.e≠0 then({ zeroR with kind:=k.2 },false)
 else if k.2=5 then({ zeroR with kind:=k.2 },k.1.rest.length==0)
 else if k.2=1 then
  let t:=strR k.1
  let d:=Sf.decode t.2
  ({ zeroR with kind:=k.2,base:=d.1 },t.1.e==0&&d.2==0&&t.1.rest.length==0)
 else
  let a:=numR k.1
  let b:=numR a.1
  let c:=strR b.1
  let d:=strR c.1
  let e:=strR d.1
  if k.2=2 then
   let t:=strR e.1
   ({ zeroR with kind:=k.2,step:=a.2,op:=b.2,addr:=c.2,dep:=d.2,typ:=e.2,tok:=t.2 },t.1.e==0&&t.1.rest.length==0)
  else
   let q:=if k.2=4 then numR e.1 else(e.1,0)
   let i:=instQ 2 q.1
   ({ zeroR with kind:=k.2,step:=a.2,op:=b.2,addr:=c.2,dep:=d.2,typ:=e.2,err:=q.2,after:=i.2.1 },i.2.2&&i.1.rest.length==0)
def firstQ(b:List UInt8):Option (Jr×Nat):=
 let s:=strR ⟨b,0⟩
 let n:=b.length-s.1.rest.length+4
 if s.1.e≠0∨b.length<n∨1048576<n then none
 else if(Crc.ver (b.take n)).2≠0 then none
 else
  let x:=recQ s.2
  if x.2=false then none
  else if(enc x.1).2≠0∨(enc x.1).1≠b.take n then none else some (x.1,n)
theorem recQ_kind(l:List UInt8):(recQ l).1.kind=(numR ⟨l,0⟩).2:=by
 unfold recQ;dsimp only
 repeat' split
 all_goals rfl
theorem recJ_kind(l:List UInt8):(recJ l).1.kind=(numR ⟨l,0⟩).2:=by
 unfold recJ partJ;dsimp only
 repeat' split
 all_goals rfl
theorem kind_enc{r:Jr}(h:(enc r).2=0):r.kind=1∨r.kind=5∨r.kind=2∨r.kind=3∨r.kind=4:=by
 have hv:=(enc_ok h).1;unfold validB at hv;split at hv
 ·cases hv
 split at hv
 ·next h => rcases h with h | h
            · exact .inl h
            · exact .inr (.inl h)
 split at hv
 ·next h=>exact .inr (.inr (.inl h))
 split at hv
 ·next h=>exact .inr (.inr (.inr (.inl h)))
 split at hv
 ·next h=>exact .inr (.inr (.inr (.inr h)))
 ·cases hv
theorem rec_agree(l:List UInt8)(hk:(numR ⟨l,0⟩).2=1∨(numR ⟨l,0⟩).2=5∨(numR ⟨l,0⟩).2=2∨(numR ⟨l,0⟩).2=3∨(numR ⟨l,0⟩).2=4):
  ((recQ l).2=true→recJ l=((recQ l).1,true))∧((recQ l).2=false→(recJ l).2=false):=by
 unfold recQ recJ;have s0:numS (rd l)=(⟨(numR ⟨l,0⟩).1,false⟩,(numR ⟨l,0⟩).2):=rfl;rw[s0];obtain⟨⟨r0,k⟩,h0⟩:=Ex (numR ⟨l,0⟩);rw[h0]at hk⊢;clear h0 s0;dsimp only at hk⊢;by_cases he:r0.e≠0
 ·have:k≠0:=by omega
  rw[if_pos he];refine⟨fun h=>(by cases h),fun _=>?_⟩;have hf:(partJ ⟨r0,false⟩ { zeroR with kind:=k }).1.fails=true:=by
   have f0:=bad_f r0 he;have fs:∀x,(stepJ ⟨r0,false⟩ x).1.fails=true:=fun x=>strS_f (strS_f (strS_f (numS_f (numS_f f0))))
   unfold partJ;dsimp only
   repeat' split
   ·exact fails_or.2 (by
     have:=fails_or.1 (strS_f f0);rcases this with h|h
     ·exact absurd (show false=true from h) (by decide)
     ·exact .inr h)
   ·exact strS_f (fs _)
   ·exact instJ_f (fs _)
   ·exact instJ_f (numS_f (fs _))
   ·exact f0
  rw[hf];rfl
 rw[if_neg he];have he0:r0.e=0:=by simpa using he
 unfold partJ stepJ;obtain⟨⟨r1,x1⟩,h1⟩:=Ex (numR r0);obtain⟨⟨r2,x2⟩,h2⟩:=Ex (numR r1);obtain⟨⟨r3,x3⟩,h3⟩:=Ex (strR r2);obtain⟨⟨r4,x4⟩,h4⟩:=Ex (strR r3);obtain⟨⟨r5,x5⟩,h5⟩:=Ex (strR r4);have s1:numS ⟨r0,false⟩=(⟨r1,false⟩,x1):=by unfold numS;rw[h1]
 have s2:numS ⟨r1,false⟩=(⟨r2,false⟩,x2):=by unfold numS;rw[h2]
 have s3:strS ⟨r2,false⟩=(⟨r3,false⟩,x3):=by unfold strS;rw[h3]
 have s4:strS ⟨r3,false⟩=(⟨r4,false⟩,x4):=by unfold strS;rw[h4]
 have s5:strS ⟨r4,false⟩=(⟨r5,false⟩,x5):=by unfold strS;rw[h5]
 simp only[h1,h2,h3,h4,h5,s1,s2,s3,s4,s5];have fl:∀r:Wire.St,(!(⟨r,false⟩:Rs).fails&&(⟨r,false⟩:Rs).r.rest.length==0)=(r.e==0&&r.rest.length==0):=fun r=>by
  unfold Sf.Rs.fails;cases h:(r.e==0)<;>simp_all [bne]
 rcases hk with rfl|rfl|rfl|rfl|rfl
 ·rw[if_neg (by decide),if_pos rfl,if_pos rfl];have st:strS ⟨r0,false⟩=(⟨(strR r0).1,false⟩,(strR r0).2):=rfl;rw[st];dsimp only;obtain⟨⟨rt,t⟩,ht⟩:=Ex (strR r0);rw[ht];dsimp only;obtain⟨⟨B,e⟩,hd⟩:=Ex (Sf.decode t);rw[hd];dsimp only;have e1:(!(⟨rt,e !=0⟩:Rs).fails&&(⟨rt,e !=0⟩:Rs).r.rest.length==0)=(rt.e==0&&e==0&&rt.rest.length==0):=by
   unfold Sf.Rs.fails;cases h:(rt.e==0)<;>cases h':(e==0)<;>simp_all [bne]
  rw[e1];exact⟨fun h=>by rw[h],fun h=>h⟩
 ·rw[if_pos rfl,if_neg (by decide),if_neg (by decide),if_neg (by decide),if_neg (by decide)];dsimp only;rw[fl,he0];exact⟨fun h=>by rw[h]<;>rfl,fun h=>by rw[h]<;>rfl⟩
 ·rw[if_neg (by decide),if_neg (by decide),if_pos rfl,if_neg (by decide),if_pos rfl];have st:strS ⟨r5,false⟩=(⟨(strR r5).1,false⟩,(strR r5).2):=rfl;rw[st];dsimp only;rw[fl];exact⟨fun h=>by rw[h]<;>rfl,fun h=>h⟩
 ·rw[if_neg (by decide),if_neg (by decide),if_neg (by decide),if_neg (by decide),if_neg (by decide),if_neg (by decide),if_pos rfl];dsimp only;obtain⟨i1,i2⟩:=inst_agreeJ r5;cases ho:(instQ 2 r5).2.2 with
  |false=>
   rw[ZT];refine⟨fun h=>(by cases h),fun _=>?_⟩;rw[i2 ho];rfl
  |true=>
   rw[i1 ho];dsimp only;have e0:(instQ 2 r5).1.e=0:=instQ_ok ho;rw[fl,e0];refine⟨fun h=>?_,fun h=>?_⟩
   ·rw[show((instQ 2 r5).1.rest.length==0)=true from h];rfl
   ·rw[show((instQ 2 r5).1.rest.length==0)=false from h];rfl
 ·rw[if_neg (by decide),if_neg (by decide),if_neg (by decide),if_pos rfl,if_neg (by decide),if_neg (by decide),if_neg (by decide),if_pos rfl];have sn:numS ⟨r5,false⟩=(⟨(numR r5).1,false⟩,(numR r5).2):=rfl;rw[sn];dsimp only;obtain⟨i1,i2⟩:=inst_agreeJ (numR r5).1;cases ho:(instQ 2 (numR r5).1).2.2 with
  |false=>
   rw[ZT];refine⟨fun h=>(by cases h),fun _=>?_⟩;rw[i2 ho];rfl
  |true=>
   rw[i1 ho];dsimp only;have e0:(instQ 2 (numR r5).1).1.e=0:=instQ_ok ho;rw[fl,e0];refine⟨fun h=>?_,fun h=>?_⟩
   ·rw[show((instQ 2 (numR r5).1).1.rest.length==0)=true from h];rfl
   ·rw[show((instQ 2 (numR r5).1).1.rest.length==0)=false from h];rfl
theorem first_agree(b:List UInt8):firstQ b=firstJ b:=by
 unfold firstQ firstJ;by_cases hb:b=[]
 ·subst hb;rw[if_pos rfl];rfl
 rw[if_neg hb];have s0:strS (rd b)=(⟨(strR ⟨b,0⟩).1,false⟩,(strR ⟨b,0⟩).2):=rfl;rw[s0];dsimp only;obtain⟨⟨r,s⟩,h0⟩:=Ex (strR ⟨b,0⟩);rw[h0];dsimp only;split
 ·rfl
 obtain⟨n,hn⟩:=Ex (b.length-r.rest.length+4);rw[hn];have no:∀x:Jr,¬((enc x).2≠0∨(enc x).1≠b.take n)→(Crc.ver (b.take n)).2=0:=fun x h=>by
  rw[not_or,Decidable.not_not,Decidable.not_not]at h;rw[←h.2,(enc_ok h.1).2.1,ver_app]
 by_cases hv:(Crc.ver (b.take n)).2≠0
 ·rw[if_pos hv];split
  ·rfl
  ·split
   ·rfl
   ·next h=>exact absurd (no _ h) hv
 rw[if_neg hv];by_cases hk:(numR ⟨s,0⟩).2=1∨(numR ⟨s,0⟩).2=5∨(numR ⟨s,0⟩).2=2∨(numR ⟨s,0⟩).2=3∨(numR ⟨s,0⟩).2=4
 ·obtain⟨a1,a2⟩:=rec_agree s hk;cases hq:(recQ s).2 with
  |false=>rw[if_pos rfl,if_pos (a2 hq)]
  |true=>
   rw[if_neg (by decide),a1 hq];rfl
 ·have n1:∀x:Jr,x.kind=(numR ⟨s,0⟩).2→((enc x).2≠0∨(enc x).1≠b.take n):=fun x hx=> .inl fun h=>hk (by rw[←hx];exact kind_enc h)
  rw[if_pos (n1 _ (recQ_kind s)),if_pos (n1 _ (recJ_kind s))];split<;>split<;>rfl
end Jr
end
section
open Go.RowKit
namespace AX
section
variable {l l':List UInt8} {e e':Int}
theorem axo{n:Int}(hr:Wire.numR ⟨l,e⟩=(⟨l',e'⟩,n))(hl:l.length≤100000000)(h:Hp):AT 83 [.agg [.str l,.int .i64 e]] h (.tup [.agg [.str l',.int .i64 e'],.int .i64 n]):=by
 have:=ajt ⟨l,e⟩ hl h;rw[hr]at this;exact this
theorem ay7{n:Nat}(hr:Wire.cntR ⟨l,e⟩ 1=(⟨l',e'⟩,n))(hl:l.length≤100000000)(h:Hp):AT 80 [.agg [.str l,.int .i64 e],.int .i64 1] h (.tup [.agg [.str l',.int .i64 e'],.int .i64 (n:Nat)]):=by
 have:=ayi ⟨l,e⟩ hl h;rw[hr]at this;exact this
theorem az9{s:List UInt8}(hr:Wire.strR ⟨l,e⟩=(⟨l',e'⟩,s))(hl:l.length≤100000000)(h:Hp):AT 37 [.agg [.str l,.int .i64 e]] h (.tup [.agg [.str l',.int .i64 e'],.str s]):=by
 have:=ajo ⟨l,e⟩ hl h;rw[hr]at this;exact this
theorem axl(h:Hp):AT 39 [.agg [.str l,.int .i64 e]] h (.int .i64 l.length):=czl ⟨l,e⟩ h
theorem cq9(hl:l.length≤1000000000)(h:Hp):AT 40 [.str l] h (.tup [.str (Crc.ver l).1,.int .i64 (Crc.ver l).2]):=
 azo (aqu aqt) (fun w hg=>bqg ⟨l.toArray⟩ w (by rw[size_mk];exact hl)) (fun C=>rep_tup.2 ⟨_,rfl,repL_cons.2 ⟨_,_,rfl,rep_str.2 rfl,repL_cons.2 ⟨_,_,rfl,rep_int.2 rfl,repL_nil.2 rfl⟩⟩⟩) h
theorem awq{b ok:Bool}(hr:Sf.flagQ ⟨l,e⟩=(⟨l',e'⟩,b,ok))(hl:l.length≤100000000)(h:Hp):AT 123 [.agg [.str l,.int .i64 e]] h (.tup [.agg [.str l',.int .i64 e'],.bool b,.bool ok]):=by
 unfold Sf.flagQ at hr;obtain⟨⟨⟨l1,e1⟩,n⟩,hn⟩:=Ex (Wire.numR ⟨l,e⟩);have c:=axo hn hl;rw[hn]at hr;injection hr with h1 hr;injection hr with h2 h3;injection h1 with h0 h1;subst h0;subst h1;subst h2;subst h3;refine pcall ?_ rfl (by simp[A.pure,A.data]) h;refine fo ?_;refine azc ti (ai c ti) ?_;exact Fn rfl
end
end AX
end
section
open Go.RowKit
namespace AX
theorem czn:Sf.Inst.cells Sf.zeroIn=[.str [],.str [],.str [],.str [],.int .i64 0,.int .i64 0,.str [],.sl 5 .no [],.sl 1 .no [],.int .i64 0,.bool false,.bool false,.sl 1 .no []]:=by
 unfold Sf.zeroIn Sf.Inst.cells;simp[V.cellss,strsA]
theorem cy7:leL [.str [],.str [],.str [],.str [],.int .i64 0,.int .i64 0,.str [],.sl 0 .nil [],.sl 0 .nil [],.int .i64 0,.bool false,.bool false,.sl 0 .nil []] (Sf.Inst.cells Sf.zeroIn):=by
 rw[czn];exact⟨aza _,aza _,aza _,aza _,aza _,aza _,aza _,⟨rfl,.inr rfl,.inl rfl⟩,⟨rfl,.inr rfl,.inl rfl⟩,aza _,aza _,aza _,⟨rfl,.inr rfl,.inl rfl⟩,trivial⟩
theorem ckb(l:List UInt8)(e:Int):le (.tup [.agg [.str l,.int .i64 e],.agg [.str [],.str [],.str [],.str [],.int .i64 0,.int .i64 0,.str [],.sl 0 .nil [],.sl 0 .nil [],.int .i64 0,.bool false,.bool false,.sl 0 .nil []],.bool false]) (.tup [.agg [.str l,.int .i64 e],.agg (Sf.Inst.cells Sf.zeroIn),.bool false]):=⟨azx _,cy7,azx _,trivial⟩
theorem cy5(l:List UInt8)(e:Int)(x:Sf.Inst)(b:Bool):(A.tup [.agg [.str l,.int .i64 e],.agg (Sf.Inst.cells x),.bool b]).pure=true:=by
 obtain⟨a1,a2,a3,a4,⟨k,nn,ss,is,ks⟩,v,tn,fi,ds⟩:=x;simp[A.pure,A.data,Sf.Inst.cells]
theorem cqk:Val.zeroV.A=.agg [.int .i64 0,.int .i64 0,.str [],.sl 5 .no [],.sl 1 .no []]:=by simp[V.A,V.cells,Val.zeroV,V.cellss,strsA]
theorem ayc{l l':List UInt8}{e e' z:Int}{v:V}(hr:Val.readValue ⟨l,e⟩=(⟨l',e'⟩,z,v))(hl:l.length≤100000000)(h:Hp):
  AT 122 [.agg [.str l,.int .i64 e]] h (.tup [.agg [.str l',.int .i64 e'],(if z=0 then v else Val.zeroV).A,.int .i64 z]):=by
 have:=bql ⟨l,e⟩ hl h;rw[hr]at this;exact this
theorem avl(r:Wire.St):(Sf.flagQ r).1.rest.length≤r.rest.length:=Wire.numR_rest r
theorem awb(ver:Int){l qr:List UInt8}{e qe:Int}{qx:Sf.Inst}{qb:Bool}(hq:Sf.instQ ver ⟨l,e⟩=(⟨qr,qe⟩,qx,qb))(hl:l.length≤100000000)(h:Hp):
  AT 85 [.agg [.str l,.int .i64 e],.int .i64 ver] h (.tup [.agg [.str qr,.int .i64 qe],.agg (Sf.Inst.cells qx),.bool qb]):=by
 refine pcall ?_ (cy5 _ _ _ _) (by simp[A.pure,A.data]) h;refine fo ?_;obtain⟨⟨⟨l1,e1⟩,x1⟩,h1⟩:=Ex (Wire.strR ⟨l,e⟩);have b1:=Wire.strR_rest ⟨l,e⟩;rw[h1]at b1;obtain⟨⟨⟨l2,e2⟩,x2⟩,h2⟩:=Ex (Wire.strR ⟨l1,e1⟩);have b2:=Wire.strR_rest ⟨l1,e1⟩;rw[h2]at b2;obtain⟨⟨⟨l3,e3⟩,x3⟩,h3⟩:=Ex (Wire.strR ⟨l2,e2⟩);have b3:=Wire.strR_rest ⟨l2,e2⟩;rw[h3]at b3;obtain⟨⟨⟨l4,e4⟩,x4⟩,h4⟩:=Ex (Wire.strR ⟨l3,e3⟩);have b4:=Wire.strR_rest ⟨l3,e3⟩;rw[h4]at b4;obtain⟨⟨⟨l5,e5⟩,z,xv⟩,h5⟩:=Ex (Val.readValue ⟨l4,e4⟩);have b5:=Val.readValue_le ⟨l4,e4⟩;rw[h5]at b5;dsimp only at b1 b2 b3 b4 b5;have c1:=az9 h1 hl;have c2:=az9 h2 (by omega);have c3:=az9 h3 (by omega);have c4:=az9 h4 (by omega);have c5:=ayc h5 (by omega);unfold Sf.instQ at hq;simp only[h1,h2,h3,h4,h5]at hq;by_cases hz:z=0
 rotate_left
 ·have z1:(z !=0)=true:=by simp[hz]
  rw[if_neg hz,cqk]at c5;rw[if_pos hz]at hq;injection hq with q1 q2;injection q1 with q0 q1;injection q2 with q2 q3;subst q0;subst q1;subst q2;subst q3;refine azj z1 (ai c1 (ai c2 (ai c3 (ai c4 (ai c5 ti))))) ?_;exact⟨_,ckb _ _,rfl⟩
 subst hz;rw[if_pos rfl]at c5;rw[if_neg (show¬((0:Int)≠0) by decide)]at hq;obtain⟨vk,vn,vs,vi,vy⟩:=xv;simp only[V.A,V.cells]at c5;obtain⟨⟨⟨l6,e6⟩,x6⟩,h6⟩:=Ex (Wire.numR ⟨l5,e5⟩);have b6:=Wire.numR_rest ⟨l5,e5⟩;rw[h6]at b6;obtain⟨⟨⟨l7,e7⟩,x7,o7⟩,h7⟩:=Ex (Sf.flagQ ⟨l6,e6⟩);have b7:=avl ⟨l6,e6⟩;rw[h7]at b7;dsimp only at b6 b7;have c6:=axo h6 (by omega);have c7:=awq h7 (by omega);simp only[h6,h7]at hq;obtain⟨⟨⟨l8,e8⟩,x8,o8⟩,h8⟩:=Ex ((if ver≥2∧o7=true then Sf.flagQ ⟨l7,e7⟩else(⟨l7,e7⟩,false,o7)));rw[h8]at hq;have b8:l8.length≤l7.length:=by
  have:=avl ⟨l7,e7⟩;split at h8
  ·rw[h8]at this;exact this
  ·injection h8 with h8 _;injection h8 with h8 _;rw[←h8];exact Zf _
 refine azc ti (ai c1 (ai c2 (ai c3 (ai c4 (ai c5 (ai c6 (ai c7 ti))))))) ?_
 refine aj8 (fun ts' h'=>h'=⟨[.cells 94 [.str l6,.int .i64 e6],.cells 94 [.str [],.int .i64 0],.cells 42 [.str [],.str [],.str [],.str [],.int .i64 0,.int .i64 0,.str [],.sl 0 .nil [],.sl 0 .nil [],.int .i64 0,.bool false,.bool false,.sl 0 .nil []],.cells 42 [.str x1,.str x2,.str x3,.str x4,.int .i64 vk,.int .i64 vn,.str vs,.sl 5 .no (V.cellss vi),.sl 1 .no (strsA vy),.int .i64 x6,.bool x7,.bool x8,.sl 0 .nil []],.cells 94 [.str l8,.int .i64 e8],.cells 40 [.int .i64 vk,.int .i64 vn,.str vs,.sl 5 .no (V.cellss vi),.sl 1 .no (strsA vy)]],[]⟩ ∧
  (ts' 2=.ptr 0 0∧ts' 4=.ptr 1 0∧ts' 5=.ptr 2 0∧ts' 7=.ptr 3 0∧ts' 8=.ptr 4 0∧ts' 12=.bool o8)) ?_ ?_
 ·by_cases hv:ver≥2
  ·cases o7 with
   |false=>
    rw[if_neg (fun h=>absurd h.2 (by decide))]at h8;injection h8 with q1 q2;injection q1 with q0 q1;injection q2 with q2 q3;subst q0;subst q1;subst q2;subst q3;refine azc hv ti ?_;exact⟨rfl,by(exact azq ti)⟩
   |true=>
    rw[if_pos ⟨hv,rfl⟩]at h8;have c8:=awq h8 (by omega);refine azc hv (ai c8 ti) ?_;exact⟨rfl,by(exact azq ti)⟩
  ·rw[if_neg (fun h=>hv h.1)]at h8;injection h8 with q1 q2;injection q1 with q0 q1;injection q2 with q2 q3;subst q0;subst q1;subst q2;subst q3;refine azc hv ti ?_;exact⟨rfl,by(exact azq ti)⟩
 rintro ts' h' ⟨rfl,ht⟩;clear c1 c2 c3 c4 c5 c6 c7 h1 h2 h3 h4 h5 h6 h7 h8;cases o8 with
 |false=>
  rw[if_pos rfl]at hq;injection hq with q1 q2;injection q1 with q0 q1;injection q2 with q2 q3;subst q0;subst q1;subst q2;subst q3;refine azb ht ?_;exact⟨_,ckb _ _,rfl⟩
 |true=>
 dsimp only at hq;rw[if_neg (show¬(true=false) by decide)]at hq;unfold Sf.depsQ at hq;obtain⟨⟨⟨l9,e9⟩,c⟩,h9⟩:=Ex (Wire.cntR ⟨l8,e8⟩ 1);have b9:=Wire.cntR_rest ⟨l8,e8⟩ 1;have bk:=Wire.cntR_cnt ⟨l8,e8⟩;rw[h9]at b9 bk;dsimp only at b9 bk;have c9:=ay7 h9 (by omega);simp only[h9]at hq;obtain⟨⟨⟨lw,ew⟩,dw⟩,hw⟩:=Ex (Sf.wordsQ c ⟨l9,e9⟩ []);simp only[hw]at hq;injection hq with q1 q2;injection q1 with q0 q1;injection q2 with q2 q3;subst q0;subst q1;subst q2;subst q3;refine azj ht (ai c9 ti) ?_
 refine azf (fun mm ts h=>∃(j:Nat) (lp:List UInt8) (ep:Int) (ds:List (List UInt8)) (W:Nat) (o:Own) (t:List (TypeId×Nat×Nat)),mm=c-j∧j≤c ∧
  h=⟨[.cells 94 [.str lp,.int .i64 ep],.cells 94 [.str [],.int .i64 0],.cells 42 [.str [],.str [],.str [],.str [],.int .i64 0,.int .i64 0,.str [],.sl 0 .nil [],.sl 0 .nil [],.int .i64 0,.bool false,.bool false,.sl 0 .nil []],.cells 42 [.str x1,.str x2,.str x3,.str x4,.int .i64 vk,.int .i64 vn,.str vs,.sl 5 .no (V.cellss vi),.sl 1 .no (strsA vy),.int .i64 x6,.bool x7,.bool x8,.sl W o (strsA ds)],.cells 94 [.str l8,.int .i64 e8],.cells 40 [.int .i64 vk,.int .i64 vn,.str vs,.sl 5 .no (V.cellss vi),.sl 1 .no (strsA vy)]],t⟩ ∧
  Sf.wordsQ (c-j) ⟨lp,ep⟩ ds=(⟨lw,ew⟩,dw)∧ds.length=j∧lp.length≤l9.length∧Gs 9 1 0 ⟨[],t⟩ (strsA ds) (.sl W o (strsA ds)) ∧
  (ts 2=.ptr 0 0∧ts 4=.ptr 1 0∧ts 5=.ptr 2 0∧ts 7=.ptr 3 0∧ts 13=.int .i64 (c:Nat)∧ts 14=.int .i64 (j:Nat))) c ?_ ?_
 ·exact⟨0,l9,e9,[],0,.nil,[],by omega,by omega,rfl,hw,rfl,Zf _,.inl ⟨rfl,rfl⟩,by(exact azq ht)⟩
 clear ht h9 c9 hw ts';rintro mm ts h ⟨j,lp,ep,ds,W,o,t,rfl,hjc,rfl,hit,hdl,hpl,gX,ht⟩;have done:∀(lf:List UInt8) (ef:Int) (ds':List (List UInt8)) (W:Nat) (o:Own) (b:Bool),Gs 9 1 0 ⟨[],t⟩ (strsA ds') (.sl W o (strsA ds'))→le (.tup [.agg [.str lf,.int .i64 ef],.agg [.str x1,.str x2,.str x3,.str x4,.int .i64 vk,.int .i64 vn,.str vs,.sl 5 .no (V.cellss vi),.sl 1 .no (strsA vy),.int .i64 x6,.bool x7,.bool x8,.sl W o (strsA ds')],.bool b]) (.tup [.agg [.str lf,.int .i64 ef],.agg (Sf.Inst.cells ⟨x1,x2,x3,x4,.mk vk vn vs vi vy,x6,x7,x8,ds'⟩),.bool b]):=
  fun lf ef ds' W o b g=>⟨azx _,⟨aza _,aza _,aza _,aza _,aza _,aza _,aza _,aza _,aza _,aza _,aza _,aza _,Gs.le g,trivial⟩,azx _,trivial⟩
 by_cases hj:j<c
 rotate_left
 ·have hlt:¬((j:Int)<(c:Int)):=by omega
  rw[show c-j=0 by omega,Sf.wordsQ]at hit;injection hit with hit hit2;injection hit with q0 q1;subst q0;subst q1;subst hit2;refine azc (ai ht hlt) ti ?_;exact⟨_,done _ _ _ _ _ _ gX,rfl⟩
 have hlt:(j:Int)<(c:Int):=by omega
 have ei:IntKind.i64.wrap ((j:Int)+1)=((j+1:Nat):Int):=by rw[wrap64 (by omega) (by omega)];omega
 rw[show c-j=(c-(j+1))+1 by omega,Sf.wordsQ]at hit;by_cases he:ep=0
 rotate_left
 ·have he':(ep==0)=false:=by simp[he]
  rw[if_pos he]at hit;injection hit with hit hit2;injection hit with q0 q1;subst q0;subst q1;subst hit2;refine azc (ai ht (ai hlt he')) ti ?_;exact⟨_,done _ _ _ _ _ _ gX,by rw[he']⟩
 have he':(ep==0)=true:=by simp[he]
 rw[if_neg (show¬(ep≠0) by simp[he])]at hit;obtain⟨⟨⟨l10,e10⟩,s⟩,h10⟩:=Ex (Wire.strR ⟨lp,ep⟩);have b10:=Wire.strR_rest ⟨lp,ep⟩;rw[h10]at b10 hit;dsimp only at b10 hit;have c10:=az9 h10 (by omega);obtain⟨W',o',t',hX,gX',_⟩:=gX.grow 16 [.str s] (by rw[aze];omega) (by decide);rw[←az8]at gX';simp only[←az8]at hX;refine azj (ai ht (ai hlt (ai he' (ai hX ei)))) (ai c10 ti) ?_;exact⟨c-(j+1),by omega,j+1,l10,e10,ds++[s],W',o',t',rfl,by omega,rfl,hit,by simp[hdl],by omega,gX',by(exact azq (ai ht ei))⟩
theorem ayx(c:UInt8)(h:Hp):AT 248 [.int .u8 (c.toNat:Int)] h (.bool (Adr.letter c)):=by
 refine pcall ?_ rfl (by simp[A.pure,A.data]) h;refine fo ?_;refine azc ti ti ?_;refine⟨_,le_refl _,?_⟩;rw[azi];congr 1;unfold Adr.letter;have e1:decide ((c.toNat:Int)≥97)=decide (97≤c.toNat):=by rw[decide_eq_decide];omega
 have e2:decide ((c.toNat:Int)≤122)=decide (c.toNat≤122):=by rw[decide_eq_decide];omega
 have e3:decide ((c.toNat:Int)≥65)=decide (65≤c.toNat):=by rw[decide_eq_decide];omega
 have e4:decide ((c.toNat:Int)≤90)=decide (c.toNat≤90):=by rw[decide_eq_decide];omega
 have e5:((c.toNat:Int)==95)=(c==95):=by
  rw[Ye,ZA,ZA,←Z9];show _↔c.toNat=95
  omega
 rw[e1,e2,e3,e4,e5]
theorem i80{n:Nat}(h:n≤2000000):IntKind.i64.wrap ((n:Int)+1)=((n+1:Nat):Int):=by rw[wrap64 (by omega) (by omega)];omega
theorem cwh(c:UInt8):(!Adr.letter c&&(decide ((c.toNat:Int)<48)||decide ((c.toNat:Int)>57)))=!Adr.wordB c:=by
 unfold Adr.wordB Num.digB;have e1:decide ((c.toNat:Int)<48)=!decide (48≤c.toNat):=by rw[←decide_not,decide_eq_decide];omega
 have e2:decide ((c.toNat:Int)>57)=!decide (c.toNat≤57):=by rw[←decide_not,decide_eq_decide];omega
 rw[e1,e2,Bool.not_or,Bool.not_and]
theorem cvj(c:UInt8):(Adr.letter c||(decide ((c.toNat:Int)≥48)&&decide ((c.toNat:Int)≤57)))=Adr.wordB c:=by
 unfold Adr.wordB Num.digB;have e1:decide ((c.toNat:Int)≥48)=decide (48≤c.toNat):=by rw[decide_eq_decide];omega
 have e2:decide ((c.toNat:Int)≤57)=decide (c.toNat≤57):=by rw[decide_eq_decide];omega
 rw[e1,e2]
theorem aq5(s:List UInt8)(hl:s.length≤2000000)(h:Hp):AT 230 [.str s] h (.bool (Adr.ident s)):=by
 refine pcall ?_ rfl (by simp[A.pure,A.data]) h;refine fo ?_;obtain⟨q,hq⟩:=Ex (Adr.ident s);rw[hq];unfold Adr.ident at hq;cases s with
 |nil=>
  refine azc ti ti ?_;exact⟨_,le_refl _,by rw[←hq];rfl⟩
 |cons c0 t=>
 have e0:((c0::t)==([]:List UInt8))=false:=rfl;have e0':((c0::t)!=([]:List UInt8))=true:=rfl;have h0:(0:Int)<((t.length+1:Nat):Int):=by omega
 have hc:=ayx;rw[e0',Zx]at hq;by_cases h64:(t.length+1:Nat)≤64
 rotate_left
 ·have e1:((t.length+1:Nat):Int)>64:=by omega
  have:false=q:=by rw[←hq];simp;omega
  subst this;refine azc (ai e0 e1) ti ?_;exact Fn rfl
 have e1:¬((t.length+1:Nat):Int)>64:=by omega
 rw[show decide ((c0::t).length≤64)=true from Yd h64,Zx,ZN]at hq;cases hL:Adr.letter c0 with
 |false=>
  rw[hL]at hq;have:false=q:=hq;subst this;have hc0:=hc c0;rw[hL]at hc0;refine azc (ai e0 (ai e1 h0)) (ai hc0 ti) ?_;exact Fn rfl
 |true=>
 rw[hL,Zx]at hq;have hc0:=hc c0;rw[hL]at hc0;refine azc (ai e0 (ai e1 h0)) (ai hc0 ti) ?_;obtain⟨s,hs⟩:=Ex (c0::t);have hsl:t.length+1=s.length:=by rw[←hs];rfl
 rw[hs]at hq⊢;refine azf (fun m ts hh=>hh=⟨[],[]⟩∧∃j:Nat,m=s.length-j∧j≤s.length∧(s.drop j).all Adr.wordB=s.all Adr.wordB∧(ts 0=.str s∧ts 3=.int .i64 (j:Nat))) s.length ?_ ?_
 ·exact⟨rfl,0,rfl,Zz _,rfl,by(exact azq hs)⟩
 rintro m ts hh ⟨rfl,j,rfl,hj,heq,ht⟩;rcases Z7 j s.length with hlt|hge
 ·have hf:(j:Int)<(s.length:Int)∧(0:Int)≤(j:Int)∧IntKind.i64.wrap ((j:Int)+1)=((j+1:Nat):Int):=⟨by omega,by omega,i80 (by omega)⟩;rw[Zr hlt,ZC]at heq;have hg:s.getD j 0=s[j]:=by simp[List.getD,hlt]
  obtain⟨c,hcc⟩:=Ex (s[j]);rw[hcc]at heq hg;have hw:=cwh c;cases hB:Adr.wordB c with
  |false=>
   rw[hB]at heq hw;have:false=q:=by rw[←hq,←heq];rfl
   subst this;refine azc (ai ht (ai hf (ai hg hw))) (ai (hc c) ti) ?_;exact Fn rfl
  |true=>
   rw[hB]at heq hw;refine azc (ai ht (ai hf (ai hg hw))) (ai (hc c) ti) ?_;exact⟨_,by omega,rfl,j+1,rfl,by omega,heq,by(exact azq (ai ht hf))⟩
 ·have hf:¬(j:Int)<(s.length:Int):=by omega
  rw[ZG hge,Yt]at heq;refine azc (ai ht hf) ti ?_;exact⟨_,le_refl _,by rw[←hq,←heq];rfl⟩
theorem ayf(s p:List UInt8)(hl:s.length≤2000000)(hp:p.length≤2000000)(h:Hp):AT 255 [.str s,.str p] h (.bool (Adr.begins s p)):=by
 refine pcall ?_ rfl (by simp[A.pure,A.data]) h;refine fo ?_;have hb:Adr.begins s p=(decide (p.length≤s.length)&&(s.take p.length==p)):=by
  unfold Adr.begins;rw[Ye,Zak,Zc,Zm,ZA,List.prefix_iff_eq_take];exact⟨fun e=>⟨by have:=congrArg List.length e;rw[ZQ]at this;omega,e.symm⟩,fun e=>e.2.symm⟩
 rw[hb];by_cases hc:p.length≤s.length
 ·have e1:(s.length:Int)≥(p.length:Int):=by omega
  have e2:(0:Int)≤(p.length:Int)∧(p.length:Int)≤(s.length:Int):=⟨by omega,by omega⟩;rw[Yd hc,Zx];refine azc (ai e1 e2) ti ?_;exact Fn rfl
 ·have e1:¬(s.length:Int)≥(p.length:Int):=by omega
  rw[YC hc,ZT];refine azc e1 ti ?_;exact Fn rfl
theorem aj9{p:UInt8→Bool}:∀(s:List UInt8) (j:Nat),j≤s.length→(s.take j).all p=true→(j=s.length∨p (s.getD j 0)=false)→s.takeWhile p=s.take j∧s.dropWhile p=s.drop j
 |[],0,_,_,_=>⟨rfl,rfl⟩
 |c::s,0,_,_,h=>by
  rcases h with h|h
  ·simp at h
  ·simp only[ZN]at h;exact⟨by simp[h],by simp[h]⟩
 |c::s,j+1,hj,ha,h=>by
  rw[Z3,ZC,Zc]at ha;have:=aj9 s j (by simpa using hj) ha.2 (by simpa using h);rw[Yx ha.1,YQ ha.1,this.1,this.2];exact⟨rfl,rfl⟩
theorem bz9(s:List UInt8)(hl:s.length≤2000000)(h:Hp):AT 257 [.str s] h (.tup [.str (s.takeWhile Adr.wordB),.str (s.dropWhile Adr.wordB)]):=by
 refine pcall ?_ rfl (by simp[A.pure,A.data]) h;refine fo ?_;have hc:=ayx;refine azc ti ti ?_;refine azf (fun m ts hh=>hh=⟨[],[]⟩∧∃j:Nat,m=s.length-j∧j≤s.length∧(s.take j).all Adr.wordB=true∧(ts 0=.str s∧ts 4=.int .i64 (j:Nat))) s.length ?_ ?_
 ·exact⟨rfl,0,rfl,Zz _,rfl,by(exact azq ti)⟩
 rintro m ts hh ⟨rfl,j,rfl,hj,hall,ht⟩;have hs:(0:Int)≤(j:Int)∧(j:Int)≤(s.length:Int):=⟨by omega,by omega⟩;rcases Z7 j s.length with hlt|hge
 ·have hf:(j:Int)<(s.length:Int)∧IntKind.i64.wrap ((j:Int)+1)=((j+1:Nat):Int):=⟨by omega,i80 (by omega)⟩;have hg:s.getD j 0=s[j]:=by simp[List.getD,hlt]
  obtain⟨c,hcc⟩:=Ex (s[j]);rw[hcc]at hg;have hw:=cvj c;cases hB:Adr.wordB c with
  |false=>
   rw[hB]at hw;obtain⟨k1,k2⟩:=aj9 s j hj hall (.inr (by rw[hg];exact hB));rw[k1,k2];refine azc (ai ht (ai hf (ai hs (ai hg hw)))) (ai (hc c) ti) ?_;exact Fn rfl
  |true=>
   rw[hB]at hw;refine azc (ai ht (ai hf (ai hs (ai hg hw)))) (ai (hc c) ti) ?_;refine⟨_,?_,rfl,j+1,rfl,by omega,?_,by(exact azq (ai ht hf))⟩
   ·omega
   ·rw[ZV hlt,List.all_append,hall,hcc];simp[hB]
 ·have hf:¬(j:Int)<(s.length:Int):=by omega
  obtain⟨k1,k2⟩:=aj9 s j hj hall (.inl (by omega));rw[k1,k2];refine azc (ai ht (ai hf hs)) ti ?_;exact Fn rfl
theorem cqf(s:List UInt8)(h:Hp):AT 258 [.str s] h (.bool (Adr.reserved s)):=by
 refine pcall ?_ rfl (by simp[A.pure,A.data]) h;refine fo ?_;obtain⟨L,hL⟩:=Ex (Adr.reservedL);have hr:Adr.reserved s=L.contains s:=by unfold Adr.reserved;rw[hL]
 have h11:L.length=11:=by rw[←hL];rfl
 rw[hr];refine azc ti ti ?_;refine azf (fun m ts hh=>hh=⟨[],[]⟩∧∃j:Nat,m=L.length-j∧j≤L.length∧(L.drop j).contains s=L.contains s∧(ts 0=.str s∧ts 3=.sl 1 .no (strsA L)∧ts 4=.int .i64 (j:Nat))) L.length ?_ ?_
 ·exact⟨rfl,0,rfl,Zz _,rfl,rfl,by rw[←hL];rfl,rfl⟩
 rintro m ts hh ⟨rfl,j,rfl,hj,heq,ht⟩;rcases Z7 j L.length with hlt|hge
 ·have hf:(strsA L).length=L.length∧(j:Int)<(L.length:Int)∧(0:Int)≤(j:Int)∧IntKind.i64.wrap ((j:Int)+1)=((j+1:Nat):Int)∧(strsA L).getD j []=[.str L[j]]:=⟨aze L,by omega,by omega,i80 (by omega),azv L j hlt⟩;rw[Zr hlt,List.contains_cons]at heq;obtain⟨w,hw⟩:=Ex (L[j]);rw[hw]at heq hf;by_cases e:w=s
  ·subst e;rw[show(w==w)=true from YV _,YR]at heq;refine azc (ai ht hf) ti ?_;exact⟨_,le_refl _,by rw[←heq];rfl⟩
  ·have e1:(w==s)=false:=by simp[e]
   have e2:(s==w)=false:=by simpa using fun h=>e h.symm
   rw[e2,Yr]at heq;refine azc (ai ht (ai hf e1)) ti ?_;exact⟨_,by omega,rfl,j+1,rfl,by omega,heq,by(exact azq (ai ht hf))⟩
 ·have hf:(strsA L).length=L.length∧¬(j:Int)<(L.length:Int):=⟨aze L,by omega⟩;rw[ZG hge]at heq;refine azc (ai ht hf) ti ?_;exact⟨_,le_refl _,by rw[←heq];rfl⟩
theorem cyu(c:UInt8):(decide ((c.toNat:Int)<48)||decide ((c.toNat:Int)>57))=!Num.digB c:=by
 unfold Num.digB;have e1:decide ((c.toNat:Int)<48)=!decide (48≤c.toNat):=by rw[←decide_not,decide_eq_decide];omega
 have e2:decide ((c.toNat:Int)>57)=!decide (c.toNat≤57):=by rw[←decide_not,decide_eq_decide];omega
 rw[e1,e2,Bool.not_and]
theorem ay1(s:List UInt8)(hl:s.length≤2000000)(h:Hp):AT 246 [.str s] h (.bool (Num.digits s)):=by
 refine pcall ?_ rfl (by simp[A.pure,A.data]) h;refine fo ?_;obtain⟨q,hq⟩:=Ex (Num.digits s);rw[hq];unfold Num.digits at hq;refine azc ti ti ?_;refine azf (fun m ts hh=>hh=⟨[],[]⟩∧∃j:Nat,m=s.length-j∧j≤s.length∧(s.drop j).all Num.digB=s.all Num.digB∧(ts 0=.str s∧ts 3=.int .i64 (j:Nat))) s.length ?_ ?_
 ·exact⟨rfl,0,rfl,Zz _,rfl,by(exact azq ti)⟩
 rintro m ts hh ⟨rfl,j,rfl,hj,heq,ht⟩;rcases Z7 j s.length with hlt|hge
 ·have hf:(j:Int)<(s.length:Int)∧(0:Int)≤(j:Int)∧IntKind.i64.wrap ((j:Int)+1)=((j+1:Nat):Int):=⟨by omega,by omega,i80 (by omega)⟩;rw[Zr hlt,ZC]at heq;have hg:s.getD j 0=s[j]:=by simp[List.getD,hlt]
  obtain⟨c,hcc⟩:=Ex (s[j]);rw[hcc]at heq hg;have hw:=cyu c;cases hB:Num.digB c with
  |false=>
   rw[hB]at heq hw;have:false=q:=by rw[←hq,←heq];rfl
   subst this;refine azc (ai ht (ai hf (ai hg hw))) ti ?_;exact Fn rfl
  |true=>
   rw[hB]at heq hw;refine azc (ai ht (ai hf (ai hg hw))) ti ?_;exact⟨_,by omega,rfl,j+1,rfl,by omega,heq,by(exact azq (ai ht hf))⟩
 ·have hf:¬(j:Int)<(s.length:Int):=by omega
  rw[ZG hge,Yt]at heq;rw[←heq,Zx]at hq;cases s with
  |nil=>
   have hf:¬(j:Int)<((0:Nat):Int)∧(([]:List UInt8) == [48])=false:=⟨by omega,rfl⟩;refine azc (ai ht hf) ti ?_;exact⟨_,le_refl _,by rw[←hq];rfl⟩
  |cons c t=>
   have hf:¬(j:Int)<((t.length+1:Nat):Int):=hf;have h0:(0:Int)<((t.length+1:Nat):Int):=by omega
   have e0:((c::t)!=([]:List UInt8))=true:=rfl;have e1:((c.toNat:Int)!=48)=(c !=48):=by
    rw[Ye,Y8,Y8,ne_eq,ne_eq,←Z9];show¬_↔¬c.toNat=48
    omega
   rw[e0,Zx,ZN,←e1]at hq;refine azc (ai ht (ai hf (ai h0 e0))) ti ?_;exact⟨_,le_refl _,by rw[←hq];rfl⟩
theorem byo(n:Int)(h:Hp):AT 232 [.int .i64 n] h (.bool (decide (n≥-9007199254740992)&&decide (n≤9007199254740992))):=by
 refine pcall ?_ rfl (by simp[A.pure,A.data]) h;refine fo ?_;refine azc ti ti ?_;exact Fn rfl
theorem bkv(t:List UInt8)(j:Nat)(h:j<t.length):Num.val (t.take (j+1))=10*Num.val (t.take j)+(t[j].toNat-48):=by
 rw[ZV h];unfold Num.val;rw[List.foldl_append];rfl
theorem dzq:∀(n:Nat) (t:List UInt8),t.length=n→t.all Num.digB=true→Num.val t<10^n:=by
 intro n;induction n with
 |zero=>intro t ht _;rw[Z4 ht];decide
 |succ n ih=>
  intro t ht ha;have hlt:n<t.length:=by omega
  have h1:=bkv t n hlt;rw[ZD (by omega)]at h1
  have h2:=ih (t.take n) (by rw[ZQ];omega) (by
   rw[ZE]at ha⊢
   exact fun x hx=>ha x (List.mem_of_mem_take hx))
  have h3:=ZE.1 ha t[n] (Zt hlt);rw[Num.digB_iff]at h3;rw[h1,Nat.pow_succ];omega
theorem bq3(s:List UInt8)(hl:s.length≤2000000)(h:Hp):AT 228 [.str s] h (.tup [.int .i64 (Num.parse s).1,.int .i64 (Num.parse s).2]):=by
 refine pcall ?_ rfl (by simp[A.pure,A.data]) h;refine fo ?_;cases s with
 |nil=>
  have hd:=ay1 [] (by decide);rw[show Num.digits []=false from rfl]at hd;have h00:¬((0:Nat):Int)>0:=by decide
  refine azc h00 (ai hd ti) ?_;exact Fn rfl
 |cons c r=>
 have h0:(0:Int)<((r.length+1:Nat):Int)∧((r.length+1:Nat):Int)>0∧(0:Int)≤1∧(1:Int)≤((r.length+1:Nat):Int):=⟨by omega,by omega,by omega,by omega⟩;obtain⟨t,ht⟩:=Ex ((if(c==45)=true then r else c::r));have hl':r.length+1≤2000000:=hl;have htl:t.length≤2000000:=by
  rw[←ht];split
  ·omega
  ·exact hl
 have e1:((c.toNat:Int)==45)=(c==45):=by
  rw[Ye,ZA,ZA,←Z9];show _↔c.toNat=45
  omega
 have hp:Num.parse (c::r)=if(!Num.digits t||((c==45)&&t == [48]))=true then(0,2)else if 16<t.length then(0,5)else if 9007199254740992<Num.val t then(0,5)else((if(c==45)=true then-(Num.val t:Int)else Num.val t),0):=by
  unfold Num.parse;simp only[ZN,ZU,Yv,ht]
 obtain⟨mn,hmn⟩:=Ex ((c==45));rw[hmn]at e1 hp ht;refine azc (ai h0 e1) ti ?_;refine aj8 (fun ts' h'=>h'=⟨[],[]⟩∧(ts' 4=.bool mn∧ts' 5=.str t)) ?_ ?_
 ·cases mn with
  |false=>
   rw[if_neg (by decide)]at ht;refine azc (ai h0 e1) ti ?_;exact⟨rfl,by(exact azq (ai ht e1))⟩
  |true=>
   rw[if_pos rfl]at ht;refine azc (ai h0 e1) ti ?_;exact⟨rfl,by(exact azq (ai ht e1))⟩
 rintro ts hh ⟨rfl,hu⟩;rw[hp];have hd:=ay1 t htl;cases hD:Num.digits t with
 |false=>
  rw[hD]at hd;refine azc hu (ai hd ti) ?_;exact Fn rfl
 |true=>
 rw[hD]at hd;cases hz:(mn&&t == [48])with
 |true=>
  refine azc (ai hu hz) (ai hd ti) ?_;exact Fn rfl
 |false=>
 rw[if_neg (by simp)];by_cases h16:16<t.length
 ·have e2:(t.length:Int)>16:=by omega
  rw[if_pos h16];refine azc (ai hu (ai hz e2)) (ai hd ti) ?_;exact Fn rfl
 have e2:¬(t.length:Int)>16:=by omega
 rw[if_neg h16];have hall:t.all Num.digB=true:=by unfold Num.digits at hD;rw[Zc]at hD;exact hD.1
 have hv:∀j,j≤t.length→Num.val (t.take j)<10000000000000000:=fun j hj=>by
  have:=dzq j (t.take j) (by rw[ZQ];omega) (by
   rw[ZE]at hall⊢
   exact fun x hx=>hall x (List.mem_of_mem_take hx))
  exact ZK this (YB (by decide) (show j≤16 by omega))
 refine azc (ai hu (ai hz e2)) (ai hd ti) ?_;refine azf (fun m ts hh=>hh=⟨[],[]⟩∧∃j:Nat,m=t.length-j∧j≤t.length∧(ts 4=.bool mn∧ts 5=.str t∧ts 6=.int .i64 (Num.val (t.take j):Nat)∧ts 7=.int .i64 (j:Nat))) t.length ?_ ?_
 ·exact⟨rfl,0,rfl,Zz _,by(exact azq hu)⟩
 rintro m ts hh ⟨rfl,j,rfl,hj,hw⟩;have hvj:=hv j hj;rcases Z7 j t.length with hlt|hge
 ·have hvj1:=hv (j+1) hlt;have hvt:=bkv t j hlt;have hcd:=(Num.digB_iff _).1 (ZE.1 hall t[j] (Zt hlt));have hg:t.getD j 0=t[j]:=by simp[List.getD,hlt]
  obtain⟨x,hx⟩:=Ex (t[j]);rw[hx]at hvt hcd hg;have hf:(j:Int)<(t.length:Int)∧(0:Int)≤(j:Int)∧IntKind.i64.wrap ((j:Int)+1)=((j+1:Nat):Int):=⟨by omega,by omega,i80 (by omega)⟩;obtain⟨V,hV⟩:=Ex (Num.val (t.take j));rw[hV]at hvt hvj hw;have k1:IntKind.i64.wrap (10*(V:Int))=((10*V:Nat):Int):=by rw[wrap64 (by omega) (by omega)];omega
  have k2:IntKind.u8.wrap ((x.toNat:Int)-48)=((x.toNat-48:Nat):Int):=by rw[IntKind.wrap_u8];omega
  have k3:IntKind.i64.wrap ((x.toNat-48:Nat):Int)=((x.toNat-48:Nat):Int):=wrap64 (by omega) (by omega);have k4:IntKind.i64.wrap (((10*V:Nat):Int)+((x.toNat-48:Nat):Int))=(Num.val (t.take (j+1)):Nat):=by rw[hvt,wrap64 (by omega) (by omega)];omega
  refine azc (ai hw (ai hf (ai hg (ai k1 (ai k2 (ai k3 k4)))))) ti ?_;exact⟨_,by omega,rfl,j+1,rfl,by omega,by(exact azq (ai hw (ai hf (ai hg (ai k1 (ai k2 (ai k3 k4)))))))⟩
 ·have hf:¬(j:Int)<(t.length:Int):=by omega
  rw[ZD hge]at hw hvj;obtain⟨V,hV⟩:=Ex (Num.val t);rw[hV]at hw hvj⊢;have hva:=fun n=>byo n
  cases mn with
  |false=>
   by_cases hb:9007199254740992<V
   ·have e3:(decide ((V:Int)≥-9007199254740992)&&decide ((V:Int)≤9007199254740992))=false:=by simp;omega
    rw[if_pos hb];refine azc (ai hw (ai hf e3)) (ai ((hva V)) ti) ?_;exact Fn rfl
   ·have e3:(decide ((V:Int)≥-9007199254740992)&&decide ((V:Int)≤9007199254740992))=true:=by simp;omega
    rw[if_neg hb];refine azc (ai hw (ai hf e3)) (ai ((hva V)) ti) ?_;exact Fn rfl
  |true=>
   have e4:IntKind.i64.wrap (0-(V:Int))=-(V:Int):=by rw[wrap64 (by omega) (by omega)];omega
   by_cases hb:9007199254740992<V
   ·have e3:(decide (-(V:Int)≥-9007199254740992)&&decide (-(V:Int)≤9007199254740992))=false:=by simp;omega
    rw[if_pos hb];refine azc (ai hw (ai hf (ai e4 e3))) (ai ((hva (-(V:Int)))) ti) ?_;exact Fn rfl
   ·have e3:(decide (-(V:Int)≥-9007199254740992)&&decide (-(V:Int)≤9007199254740992))=true:=by simp;omega
    rw[if_neg hb];refine azc (ai hw (ai hf (ai e4 e3))) (ai ((hva (-(V:Int)))) ti) ?_;exact Fn rfl
end AX
theorem bkx:∀d:Fin 16,((⟨#[48,49,50,51,52,53,54,55,56,57,97,98,99,100,101,102]⟩:ByteArray).extract d.val (d.val+1)).data.toList=[Str.hd d.val]:=by decide
theorem cv6(d:Nat)(h:d<16):(⟨#[48,49,50,51,52,53,54,55,56,57,97,98,99,100,101,102]⟩:ByteArray).extract d (d+1)=⟨#[Str.hd d]⟩:=by
 have:=bkx ⟨d,h⟩;exact bx6 this
theorem avv(c:Nat)(w:World)(hc:c<16):
  Calls Tryz.prog 274 #[.int .i64 c] w fun e w'=>e=.returned (.string ⟨(Str.hexL c).toArray⟩)∧w=w':=by
 have Hh:=kept (show Str.hexL c=[Str.hd c] by rw[Str.hexL,if_pos hc]);have hx:=cv6 c hc;have hc':(c:Int)<16:=by omega
 have hm:(c:Int)%16=(c:Int):=by omega
 have hy:(c:Int)<15+1:=by omega
 generalize hq:Str.hd c=q at *;clear hc hq;go_enter Tryz.func274,Tryz.ntmps274;go_wp2
 go_ret
 exact⟨by rw[Hh.out];rfl,rfl⟩
theorem bwj(c:Nat)(w:World)(hc:c<256):
  Calls Tryz.prog 274 #[.int .i64 c] w fun e w'=>e=.returned (.string ⟨(Str.hexL c).toArray⟩)∧w=w':=by
 by_cases h16:c<16
 ·exact avv c w h16
 ·have Hh:=kept (show Str.hexL c=Str.hexL (c/16)++[Str.hd (c%16)] by
   rw[Str.hexL,if_neg h16,Str.hexL,if_pos (by omega)];rfl)
  have hx:=cv6 (c%16) (by omega);have hl:=(Str.hexL_length (c/16)).2;have hcat:=fun W=>axm (P:=Tryz.prog) W (a:=⟨(Str.hexL (c/16)).toArray⟩) (b:=⟨#[Str.hd (c%16)]⟩) (l:=Str.hexL (c/16)) (m:=[Str.hd (c%16)]) rfl rfl (by simp;omega)
  obtain⟨d,hd⟩:∃d:Nat,(c:Int)%16=(d:Int):=⟨c%16,by omega⟩;obtain⟨f,hf⟩:∃f:Nat,(c:Int)/16=(f:Int):=⟨c/16,by omega⟩;obtain rfl:d=c%16:=by omega
  obtain rfl:f=c/16:=by omega
  have Hs:=kept (show c/16<16 by omega);have hb:((c%16:Nat):Int)<16:=by omega
  have hfb:((c/16:Nat):Int)<16:=by omega
  have hb2:((c%16:Nat):Int)<15+1:=by omega
  have hc':¬(c:Int)<16:=by omega
  generalize hq:Str.hd (c%16)=q at *;generalize hg:Str.hexL (c/16)=g at *;have Hg:=kept hg;generalize c%16=d at *;generalize c/16=f at *;clear hc hq h16 hl hg;go_enter Tryz.func274,Tryz.ntmps274;go_wp2_with (go_at_call 274;refine(avv _ _ Hs.out).mono ?_;rintro e w' ⟨rfl,rfl⟩;rw[Hg.out])
  go_ret
  exact⟨by rw[Hh.out];rfl,rfl⟩
theorem one_byte(w:World)(b:UInt8):(convert 71 9 (.slice (some ⟨w.heap.size,0,none⟩) 1 1)).run Tryz.prog (w.alloc (.cells #[.int .u8 b.toNat] 5))=.ok (.string ⟨#[b]⟩) (w.alloc (.cells #[.int .u8 b.toNat] 5)):=
 (BytesAt.lit w 5 [b]).conv (P:=Tryz.prog) 71 9 1 Tryz.underlying71 Tryz.underlying5 Tryz.underlying9
theorem bve(b:UInt8)(w:World):
  Calls Tryz.prog 271 #[.int .u8 b.toNat] w fun e w'=>e=.returned (.string ⟨(Str.esc b).toArray⟩)∧Below w.heap.size w w':=by
 by_cases h1:b=10
 ·subst h1;go_enter Tryz.func271,Tryz.ntmps271;go_wp2
  go_ret
  exact⟨rfl,Below.refl _ _⟩
 by_cases h2:b=13
 ·subst h2;go_enter Tryz.func271,Tryz.ntmps271;go_wp2
  go_ret
  exact⟨rfl,Below.refl _ _⟩
 by_cases h3:b=9
 ·subst h3;go_enter Tryz.func271,Tryz.ntmps271;go_wp2
  go_ret
  exact⟨rfl,Below.refl _ _⟩
 by_cases h4:b=34
 ·subst h4;go_enter Tryz.func271,Tryz.ntmps271;go_wp2
  go_ret
  exact⟨rfl,Below.refl _ _⟩
 by_cases h5:b=92
 ·subst h5;go_enter Tryz.func271,Tryz.ntmps271;go_wp2
  go_ret
  exact⟨rfl,Below.refl _ _⟩
 have hb:=b.toNat_lt;have e1:∀n:Nat,n<256→b≠UInt8.ofNat n→((b.toNat:Int)==(n:Int))=false:=fun n hn h=>by
  refine Zq.2 fun hh=>h ?_
  rw[←Z9,Z6];omega
 have f1:((b.toNat:Int)==10)=false:=e1 10 (by omega) h1;have f2:((b.toNat:Int)==13)=false:=e1 13 (by omega) h2;have f3:((b.toNat:Int)==9)=false:=e1 9 (by omega) h3;have f4:((b.toNat:Int)==34)=false:=e1 34 (by omega) h4;have f5:((b.toNat:Int)==92)=false:=e1 92 (by omega) h5;have hob:=one_byte w b;have Hd:=kept (fun W=>bwj b.toNat W (by omega));have hl:=(Str.hexL_length b.toNat).2;have hcat1:=fun W=>axj (P:=Tryz.prog) W (a:=⟨#[92,117,123]⟩) (b:=⟨(Str.hexL b.toNat).toArray⟩) (l:=[92,117,123]) (m:=Str.hexL b.toNat) (r:=[92,117,123]++Str.hexL b.toNat) rfl rfl rfl (by simp;omega)
 have hcat2:=fun W=>axj (P:=Tryz.prog) W (a:=⟨([92,117,123]++Str.hexL b.toNat).toArray⟩) (b:=⟨#[125]⟩) (l:=[92,117,123]++Str.hexL b.toNat) (m:=[125]) (r:=[92,117,123]++Str.hexL b.toNat++[125]) rfl rfl rfl (by simp;omega)
 by_cases h6:b<32∨b=127
 ·have He:=kept (show Str.esc b=[92,117,123]++Str.hexL b.toNat++[125] by simp only[Str.esc,h1,h2,h3,h4,h5,h6,if_true,if_false]);generalize hm1:([92,117,123]++Str.hexL b.toNat:List UInt8)=m1 at *;generalize hm2:(m1++[125]:List UInt8)=m2 at *;have hlt:(b.toNat:Int)<32∨((b.toNat:Int)==127)=true∧¬(b.toNat:Int)<32:=by
   rcases h6 with h|h
   ·left;have:=YE.1 h;simp at this;omega
   ·right;subst h;decide
  clear h1 h2 h3 h4 h5 h6 e1 hl hob hm1 hm2;obtain⟨u,hu⟩:∃u:Int,(b.toNat:Int)=u:=⟨_,rfl⟩;have hu0:0≤u:=by omega
  have hu1:u≤255:=by omega
  have Hu:=kept hu;rw[hu]at f1 f2 f3 f4 f5 hlt;clear hb hu;rw[Hu.out];rcases hlt with hlt|⟨hlt,hlt2⟩;all_goals
   go_enter Tryz.func271,Tryz.ntmps271;go_wp2_with fail;rw[←Hu.out];refine(Hd.out _).mono ?_;rintro e w' ⟨rfl,rfl⟩;go_wp2
   go_ret
   exact⟨by rw[He.out];rfl,Below.refl _ _⟩
 ·have He:=kept (show Str.esc b=[b] by simp only[Str.esc,h1,h2,h3,h4,h5,h6,if_false]);have hlt:¬(b.toNat:Int)<32:=fun h=>h6 (.inl (YE.2 (by simp;omega)))
  have hne:((b.toNat:Int)==127)=false:=e1 127 (by omega) (fun h=>h6 (.inr h));clear h1 h2 h3 h4 h5 h6 e1 hl hcat1 hcat2;obtain⟨u,hu⟩:∃u:Int,(b.toNat:Int)=u:=⟨_,rfl⟩;have hu0:0≤u:=by omega
  have hu1:u≤255:=by omega
  rw[hu]at f1 f2 f3 f4 f5 hlt hne hob⊢;clear hb hu;go_enter Tryz.func271,Tryz.ntmps271;go_wp2
  go_ret
  exact⟨by rw[He.out];rfl,(Below.refl _ _).alloc (Zf _) _⟩
theorem bxy(s:ByteArray):s.data.toList.length=s.size:=by simp
theorem bxn(s:ByteArray)(w:World)(hs:s.size≤2000000):
  Calls Tryz.prog 265 #[.string s] w fun e w'=>e=.returned (.string ⟨(Str.quote s.data.toList).toArray⟩)∧Below w.heap.size w w':=by
 go_enter Tryz.func265,Tryz.ntmps265;go_wp2
 go_loopw [3,4] (fun x i wr=>∃(k:Nat) (acc:List UInt8),k≤s.size∧i=.int .i64 k∧x=.string ⟨acc.toArray⟩∧acc=34::(s.data.toList.take k).flatMap Str.esc∧Below w.heap.size w wr) (fun _ i _=>s.size-(intOf i).toNat)
 case atStart=>exact⟨0,[34],by omega,rfl,rfl,rfl,Below.refl _ _⟩
 case round=>
  obtain⟨k,acc,hk,rfl,rfl,hacc,hbel⟩:=hrel;have Ha:=kept hacc;have Hl:=kept hbel;have hlen:acc.length≤1+6*s.size:=by
   rw[hacc];have:=(Str.flatMap_esc_length (s.data.toList.take k)).2;rw[ZQ,bxy]at this;simp only[Zh];omega
  clear hacc hbel;by_cases hlt:k<s.size
  ·have hlt':(k:Int)<s.size:=by omega
   obtain⟨r,hr⟩:=Ex (acc++Str.esc s[k]);have hel:=(Str.esc_length s[k]).2;have hcat:=fun W=>axj (P:=Tryz.prog) W (a:=⟨acc.toArray⟩) (b:=⟨(Str.esc s[k]).toArray⟩) (l:=acc) (m:=Str.esc s[k]) rfl rfl hr (by rw[←hr,Za];omega)
   have Hr:=kept (show r=34::(s.data.toList.take (k+1)).flatMap Str.esc by
    rw[←hr,Ha.out,bqq s k hlt,Yn];simp)
   clear hlen hr hel;go_wp2_with fail;refine(bve _ _).mono ?_;rintro e w1 ⟨rfl,b1⟩;have B1:=kept b1;clear b1;go_wp2
   go_roundw
   case rel=>exact⟨k+1,r,by omega,by go_num,rfl,Hr.out,bthen Hl.out B1.out⟩
   case measure=>simp[intOf];omega
  ·have hcat:=fun W=>axj (P:=Tryz.prog) W (a:=⟨acc.toArray⟩) (b:=⟨#[34]⟩) (l:=acc) (m:=[34]) (r:=acc++[34]) rfl rfl rfl (by rw[Za];simp;omega)
   have Hr:=kept (show acc++[34]=Str.quote s.data.toList by
    rw[Ha.out,ZD (by rw[bxy];omega)];rfl)
   clear hlen;generalize hq:acc++[34]=q at *;go_wp2
   go_ret
   exact⟨ck6 Hr.out,Hl.out⟩
theorem bk0(b:UInt8)(w:World):
  Calls Tryz.prog 277 #[.int .u8 b.toNat] w fun e w'=>e=.returned (.int .i64 (Str.hexv b))∧w=w':=by
 have hb:=b.toNat_lt
 have Hv:=kept (show Str.hexv b=if 48≤(b.toNat:Int)∧(b.toNat:Int)≤57 then(b.toNat:Int)-48 else if 97≤(b.toNat:Int)∧(b.toNat:Int)≤102 then(b.toNat:Int)-87 else -1 by
  unfold Str.hexv
  repeat' split
  all_goals omega)
 obtain⟨u,hu⟩:∃u:Int,(b.toNat:Int)=u:=⟨_,rfl⟩;rw[hu]at Hv⊢;have h0:0≤u:=by omega
 have h1:u<256:=by omega
 clear hu hb;by_cases a1:48≤u
 ·by_cases a2:u≤57
  ·go_enter Tryz.func277,Tryz.ntmps277;go_wp2
   go_ret
   exact⟨aqk (by rw[Hv.out,if_pos ⟨a1,a2⟩]),rfl⟩
  ·by_cases a3:97≤u
   ·by_cases a4:u≤102
    ·go_enter Tryz.func277,Tryz.ntmps277;go_wp2
     go_ret
     exact⟨aqk (by rw[Hv.out,if_neg (by omega),if_pos ⟨a3,a4⟩];omega),rfl⟩
    ·go_enter Tryz.func277,Tryz.ntmps277;go_wp2
     go_ret
     exact⟨aqk (by rw[Hv.out,if_neg (by omega),if_neg (by omega)]),rfl⟩
   ·go_enter Tryz.func277,Tryz.ntmps277;go_wp2
    go_ret
    exact⟨aqk (by rw[Hv.out,if_neg (by omega),if_neg (by omega)]),rfl⟩
 ·go_enter Tryz.func277,Tryz.ntmps277;go_wp2
  go_ret
  exact⟨aqk (by rw[Hv.out,if_neg (by omega),if_neg (by omega)]),rfl⟩
theorem ayn(x:Int)(h0:0≤x)(h1:x<16777216):bits .and .i64 x 63=x%64:=by
 obtain⟨X,rfl⟩:=Int.eq_ofNat_of_zero_le h0;have e:X&&&63=X%64:=by rw[show(63:Nat)=2^6-1 from rfl,YN]
 have h2:(BitVec.ofInt 64 ((X:Nat):Int)&&&BitVec.ofInt 64 (63:Int)).toNat=X%64:=by
  rw[BitVec.toNat_and,BitVec.ofInt_natCast,show(63:Int)=((63:Nat):Int)from rfl,BitVec.ofInt_natCast,BitVec.toNat_ofNat,BitVec.toNat_ofNat,YM (by omega),YM (by omega),e]
 show IntKind.i64.wrap ((BitVec.ofInt 64 ((X:Nat):Int)&&&BitVec.ofInt 64 (63:Int)).toNat:Int)=_
 rw[h2,IntKind.wrap_i64];omega
theorem bwp(y:Int)(h0:0≤y)(h1:y<64):bits .or .i64 128 y=128+y:=aqf 2 y 64 6 (by decide) (by omega) (by omega) h0 h1 (by omega)
theorem dqi(y:Int)(h0:0≤y)(h1:y<64):bits .or .i64 192 y=192+y:=aqf 3 y 64 6 (by decide) (by omega) (by omega) h0 h1 (by omega)
theorem dqj(y:Int)(h0:0≤y)(h1:y<16):bits .or .i64 224 y=224+y:=aqf 14 y 16 4 (by decide) (by omega) (by omega) h0 h1 (by omega)
theorem dz7(y:Int)(h0:0≤y)(h1:y<16):bits .or .i64 240 y=240+y:=aqf 15 y 16 4 (by decide) (by omega) (by omega) h0 h1 (by omega)
def zB(l:List Int):List UInt8:=l.map fun x=>x.toNat.toUInt8
theorem bv4:∀l:List Int,(∀x∈l,0≤x∧x<256)→bcells (zB l)=l.map fun x=>Value.int .u8 x
 |[],_=>rfl
 |x::l,h=>by
  have h1:=h x (by simp);have h2:=bv4 l (fun y hy=>h y (by simp[hy]));unfold zB bcells at *;rw[ZW,ZW,h2,ZW];rw[show(x.toNat.toUInt8).toNat=x.toNat%256 from rfl];congr 2;omega
theorem ax9(w:World)(l:List Int)(n:Nat)(hn:l.length=n)(h:∀x∈l,0≤x∧x<256):
  (convert 71 9 (.slice (some ⟨w.heap.size,0,none⟩) n n)).run Tryz.prog (w.alloc (.cells (l.map fun x=>Value.int .u8 x).toArray 5))=.ok (.string ⟨(zB l).toArray⟩) (w.alloc (.cells (l.map fun x=>Value.int .u8 x).toArray 5)):=by
 rw[←bv4 l h];exact(BytesAt.lit w 5 (zB l)).conv_of (P:=Tryz.prog) 71 9 n n (by simp[zB,hn]) Tryz.underlying71 Tryz.underlying5 Tryz.underlying9
theorem bqa(c:Nat)(w:World)(hc:Utf8.valid c=true):
  Calls Tryz.prog 276 #[.int .i64 c] w fun e w'=>e=.returned (.string ⟨(Str.enc c).toArray⟩)∧Below w.heap.size w w':=by
 have hv:(c:Int)<55296∨(57343<(c:Int)∧(c:Int)≤1114111):=by
  unfold Utf8.valid at hc;simp at hc;omega
 have He:=kept (show Str.enc c=zB (Lib.encodeRuneZ (c:Int))from rfl);obtain⟨u,hu⟩:∃u:Int,(c:Int)=u:=⟨_,rfl⟩;have h0:0≤u:=by omega
 rw[hu]at He hv⊢;clear hu hc;by_cases h1:u<128
 ·have Hz:=kept (Lib.encodeRuneZ_one (r:=u) h0 (by omega));have hob:=ax9 w [u] 1 rfl (by simp;omega);have hw8:u<256:=by omega
  go_enter Tryz.func276,Tryz.ntmps276;simp only[ZW,Ym]at hob;go_wp2
  go_ret
  exact⟨by rw[He.out,Hz.out];rfl,ball w _⟩
 ·by_cases h2:u<2048
  ·have Hz:=kept (Lib.encodeRuneZ_two (r:=u) (by omega) (by omega));have a1:=ayn u h0 (by omega);have o1:=dqi (u/64) (by omega) (by omega);have o2:=bwp (u%64) (by omega) (by omega);have hob:=ax9 w [192+u/64,128+u%64] 2 rfl (by simp;omega);simp only[ZW,Ym]at hob;go_enter Tryz.func276,Tryz.ntmps276;go_wp2
   go_ret
   exact⟨by rw[He.out,Hz.out];rfl,ball w _⟩
  ·by_cases h3:u<65536
   ·have Hz:=kept (Lib.encodeRuneZ_three (r:=u) (by omega));have a1:=ayn u h0 (by omega);have a2:=ayn (u/64) (by omega) (by omega);have o1:=dqj (u/4096) (by omega) (by omega);have o2:=bwp (u/64%64) (by omega) (by omega);have o3:=bwp (u%64) (by omega) (by omega);have hob:=ax9 w [224+u/4096,128+u/64%64,128+u%64] 3 rfl (by simp;omega);simp only[ZW,Ym]at hob;go_enter Tryz.func276,Tryz.ntmps276;go_wp2
    go_ret
    exact⟨by rw[He.out,Hz.out];rfl,ball w _⟩
   ·have Hz:=kept (Lib.encodeRuneZ_four (r:=u) (by omega) (by omega));have a1:=ayn u h0 (by omega);have a2:=ayn (u/64) (by omega) (by omega);have a3:=ayn (u/4096) (by omega) (by omega);have o1:=dz7 (u/262144) (by omega) (by omega);have o2:=bwp (u/4096%64) (by omega) (by omega);have o3:=bwp (u/64%64) (by omega) (by omega);have o4:=bwp (u%64) (by omega) (by omega);have hob:=ax9 w [240+u/262144,128+u/4096%64,128+u/64%64,128+u%64] 4 rfl (by simp;omega);simp only[ZW,Ym]at hob;go_enter Tryz.func276,Tryz.ntmps276;go_wp2
    go_ret
    exact⟨by rw[He.out,Hz.out];rfl,ball w _⟩
theorem getD_drop(s:ByteArray)(i j:Nat)(h:i+j<s.size):(s.data.toList.drop i).getD j 0=s[i+j]:=by
 simp[List.getD,h];rfl
theorem byx(C:Nat):Utf8.valid (C:Int)=false↔(1114111<(C:Int)∨(55296≤(C:Int)∧(C:Int)≤57343)):=by
 unfold Utf8.valid;rw[←Zap];simp only[ZS,Zc,Zm];omega
theorem bk6(s:ByteArray)(i k c n:Nat)(e0 u z C:Int)(hp:Str.point (s.data.toList.drop i)=(c,n,e0))(hn:Str.hexN 6 (s.data.toList.drop i)=k)(hk:i+k<s.size)
  (hu:(s[i+k].toNat:Int)=u) (hz:(s[i].toNat:Int)=z) (hC:((Str.hexC k (s.data.toList.drop i):Nat):Int)=C):
  ((u≠125∨k=0∨(1<k∧z=48)∨1114111<C∨(55296≤C∧C≤57343))→c=0∧n=0∧e0=2) ∧
  (¬(u≠125∨k=0∨(1<k∧z=48)∨1114111<C∨(55296≤C∧C≤57343))→(c:Int)=C∧n=k+1∧e0=0):=by
 have hgk:=getD_drop s i k hk;have hg0:=getD_drop s i 0 (by omega);simp only[Yg]at hg0;have hl:k<(s.data.toList.drop i).length:=by simp;omega
 have e1:((s.data.toList.drop i).getD k 0≠125∨k=0∨(1<k∧(s.data.toList.drop i).getD 0 0=48)∨Utf8.valid (Str.hexC k (s.data.toList.drop i))=false)↔(u≠125∨k=0∨(1<k∧z=48)∨1114111<C∨(55296≤C∧C≤57343)):=by
  rw[hgk,hg0,byx,hC];have a1:s[i+k]≠125↔u≠125:=by
   rw[←hu,ne_eq,ne_eq,←Z9];show¬s[i+k].toNat=125↔_
   omega
  have a2:s[i]=48↔z=48:=by
   rw[←hz,←Z9];show s[i].toNat=48↔_
   omega
  rw[a1,a2]
 refine⟨fun h=>?_,fun h=>?_⟩
 ·have:=aqr _ k hn hl (e1.2 h);rw[hp]at this;simp only[Zp]at this;exact this
 ·have:=bkb _ k hn hl (fun hh=>h (e1.1 hh));rw[hp]at this;simp only[Zp]at this;exact⟨by rw[this.1,hC],this.2⟩
theorem bq8(s:ByteArray)(i:Nat)(c n:Nat)(e0:Int)(w:World)(hs:s.size≤2000000)(hi:i≤s.size)(hp:Str.point (s.data.toList.drop i)=(c,n,e0)):
  Calls Tryz.prog 275 #[.string s,.int .i64 i] w fun e w'=>e=.returned (.tuple #[.int .i64 c,.int .i64 (if e0=0 then i+n else 0:Nat),.int .i64 e0])∧w'=w:=by
 obtain⟨m,hm⟩:∃m,m=if e0=0 then i+n else 0:=⟨_,rfl⟩
 rw[←hm];have Hm:=kept hm;clear hm;have HP:=kept hp;clear hp;have hl:(s.data.toList.drop i).length=s.size-i:=by simp
 have Hll:=kept hl;go_enter Tryz.func275,Tryz.ntmps275;go_wp2
 go_loop [7,8] (fun cv nv=>∃k:Nat,k≤6∧i+k≤s.size∧nv=.int .i64 k∧cv=.int .i64 (Str.hexC k (s.data.toList.drop i))∧∀j,j<k→Str.isHex ((s.data.toList.drop i).getD j 0)=true) (fun _ nv=>6-(intOf nv).toNat)
 case atStart=>exact⟨0,by omega,by omega,rfl,rfl,by omega⟩
 case round=>
  obtain⟨k,h6,hk,rfl,rfl,hall⟩:=hrel;have Ha:=kept hall;clear hall hl;by_cases hend:i+k=s.size
  ·have hp:=bxz (s.data.toList.drop i) (Str.hexN_end 6 k _ Ha.out (by have:=Hll.out;omega) h6 (.inr (.inl (by have:=Hll.out;omega))) |>.trans (by have:=Hll.out;omega));rw[HP.out]at hp;simp only[Zp]at hp;obtain⟨rfl,rfl,rfl⟩:=hp;have hend':(i:Int)+k=s.size:=by omega
   go_wp2;refine bodyPost_ret (v:=.tuple #[.int .i64 0,.int .i64 0,.int .i64 40]) (by simp[results,Tryz.results275,go_sem]) rfl ⟨by rw[Hm.out];rfl,rfl⟩
  ·have hlt:i+k<s.size:=by omega
   have hlt':(i:Int)+k<s.size:=by omega
   have hlti:i<s.size:=by omega
   obtain⟨u,hu⟩:∃u:Int,(s[i+k].toNat:Int)=u:=⟨_,rfl⟩;obtain⟨z,hz⟩:∃u:Int,(s[i].toNat:Int)=u:=⟨_,rfl⟩;obtain⟨C,hC⟩:∃u:Int,((Str.hexC k (s.data.toList.drop i):Nat):Int)=u:=⟨_,rfl⟩;have Hx:=kept (fun hn=>bk6 s i k c n e0 u z C HP.out hn hlt hu hz hC);have hC0:0≤C:=by omega
   have Hhx:=kept (fun W=>bk0 s[i+k] W);have Hgk:=kept (getD_drop s i k hlt);have HC:=kept hC;have Hend:=kept (show k=6∨Str.isHex s[i+k]=false→Str.hexN 6 (s.data.toList.drop i)=k from fun h=>Str.hexN_end 6 k _ Ha.out (by have:=Hll.out;omega) h6 (h.imp_right fun hh=> .inr (by rw[Hgk.out];exact hh)));rw[hu]at Hhx;rw[hC];clear hend;by_cases hk6:k=6
   ·subst hk6;have Hx2:=kept (Hx.out (Hend.out (.inl rfl)));clear hC;go_wp2;all_goals (try simp only[ZA,Zq,ne_eq]at *)
    all_goals
     by_cases hq:(u≠125∨6=0∨(1<6∧z=48)∨1114111<C∨(55296≤C∧C≤57343))
     ·first
      |(exfalso;omega)
      |(obtain⟨rfl,rfl,rfl⟩:=Hx2.out.1 hq;exact bodyPost_ret (v:=.tuple #[.int .i64 0,.int .i64 0,.int .i64 2]) (by simp[results,Tryz.results275,go_sem]) rfl ⟨by rw[Hm.out];rfl,rfl⟩)
     ·first
      |(exfalso;omega)
      |(obtain⟨hc,rfl,rfl⟩:=Hx2.out.2 hq;exact bodyPost_ret (v:=.tuple #[.int .i64 C,.int .i64 (i+6+1),.int .i64 0]) (by simp[results,Tryz.results275,go_sem]) rfl ⟨by rw[Hm.out,hc];rfl,rfl⟩)
   ·have hk6':(k:Int)<6:=by omega
    by_cases hx:Str.isHex s[i+k]=true
    ·have hge:0≤Str.hexv s[i+k]:=by simpa [Str.isHex]using hx
     have hhx:=Str.hexv_le s[i+k];have Hs:=kept (Str.hexC_succ k (s.data.toList.drop i) (by have:=Hll.out;omega));have Hd:=Str.hexC_lt k (s.data.toList.drop i) (by have:=Hll.out;omega);have hC1:C<1048576:=by
      have:16^k≤16^5:=YB (by decide) (by omega);have:=HC.out;omega
     have Hxx:=kept hx;have Hhv:=kept (show(s.data.toList.drop i)[k]'(by have:=Hll.out;omega)=s[i+k] by simp;rfl);clear hx Hd hC;go_wp2_with fail;(with_reducible refine(Hhx.out _).mono ?_);rintro e w1 ⟨rfl,rfl⟩
     go_wp2_with fail;(with_reducible refine(Hhx.out _).mono ?_);rintro e w1 ⟨rfl,rfl⟩
     go_wp2
     go_round
     case rel=>
      refine⟨k+1,by omega,by omega,by go_num,?_,?_⟩
      ·rw[Hs.out,Hhv.out];have:=HC.out;congr 1;omega
      ·intro j hj;by_cases hjk:j=k
       ·subst hjk;rw[Hgk.out];exact Hxx.out
       ·exact Ha.out j (by omega)
     case measure=>simp[intOf];omega
    ·have Hx2:=kept (Hx.out (Hend.out (.inr (by simpa using hx))));have hlz:Str.hexv s[i+k]<0:=by simpa [Str.isHex]using hx
     clear hx hC;go_wp2_with fail;(with_reducible refine(Hhx.out _).mono ?_);rintro e w1 ⟨rfl,rfl⟩
     go_wp2;all_goals (try simp only[ZA,Zq,ne_eq]at *)
     all_goals
      by_cases hq:(u≠125∨k=0∨(1<k∧z=48)∨1114111<C∨(55296≤C∧C≤57343))
      ·first
       |(exfalso;omega)
       |(obtain⟨rfl,rfl,rfl⟩:=Hx2.out.1 hq;exact bodyPost_ret (v:=.tuple #[.int .i64 0,.int .i64 0,.int .i64 2]) (by simp[results,Tryz.results275,go_sem]) rfl ⟨by rw[Hm.out];rfl,rfl⟩)
      ·first
       |(exfalso;omega)
       |(obtain⟨hc,rfl,rfl⟩:=Hx2.out.2 hq;exact bodyPost_ret (v:=.tuple #[.int .i64 C,.int .i64 (i+k+1),.int .i64 0]) (by simp[results,Tryz.results275,go_sem]) rfl ⟨by rw[Hm.out,hc];rfl,rfl⟩)
def Str.at'(i:Nat)(r:List UInt8×Nat×Int):List UInt8×Nat×Int:=if r.2.2=0 then(r.1,i+r.2.1,0)else([],0,r.2.2)
def Str.esc1(l:List UInt8):List UInt8×Nat×Int:=if(Str.escp l).2.2=0 then(Str.enc (Str.escp l).1,(Str.escp l).2.1+1,0)else([],0,(Str.escp l).2.2)
def TripleEnd(r:List UInt8×Nat×Int):Ending:=.returned (.tuple #[.string ⟨r.1.toArray⟩,.int .i64 r.2.1,.int .i64 r.2.2])
theorem Str.esc1_of{l:List UInt8}{c n:Nat}{e:Int}(h:Str.escp l=(c,n,e)):Str.esc1 l=if e=0 then(Str.enc c,n+1,0)else([],0,e):=by unfold Str.esc1;rw[h]
theorem Str.at_ok(i n:Nat)(l:List UInt8):Str.at' i (l,n,0)=(l,i+n,0):=rfl
theorem Str.at_err(i:Nat)(e:Int)(h:e≠0):Str.at' i ([],0,e)=([],0,e):=if_neg h
theorem Str.point_valid(l:List UInt8)(c n:Nat)(h:Str.point l=(c,n,0)):Utf8.valid c=true:=by
 unfold Str.point at h;split at h
 ·simp at h
 ·split at h
  ·simp at h
  ·next hh=>
   obtain⟨h1,h2⟩:=Yc h;subst h1;simp only[not_or]at hh;simpa using hh.2.2.2
theorem ayb(s:ByteArray)(i:Nat)(w:World)(hs:s.size≤2000000)(hi:i<s.size):
  Calls Tryz.prog 273 #[.string s,.int .i64 i] w fun e w'=>e=TripleEnd (Str.at' i (Str.esc1 (s.data.toList.drop (i+1))))∧Below w.heap.size w w':=by
 by_cases h0:s.size≤i+1
 ·have Hp:=kept (show Str.at' i (Str.esc1 (s.data.toList.drop (i+1)))=([],0,40) by rw[ZG (by simp;omega)];rfl);have h0':(s.size:Int)≤i+1:=by omega
  go_enter Tryz.func273,Tryz.ntmps273;go_wp2;refine bodyPost_ret (v:=.tuple #[.string ⟨#[]⟩,.int .i64 0,.int .i64 40]) (by simp[results,Tryz.results273,go_sem]) rfl ⟨by rw[Hp.out];rfl,Below.refl _ _⟩
 ·have hlt:i+1<s.size:=by omega
  have hlt':(i:Int)+1<s.size:=by omega
  have hd:s.data.toList.drop (i+1)=s[i+1]::s.data.toList.drop (i+2):=drop_cons s (i+1) hlt;have hex:s.extract (i+1) (i+2)=⟨#[s[i+1]]⟩:=bjy s (i+1) hlt;go_enter Tryz.func273,Tryz.ntmps273;clear h0;by_cases h110:s[i+1]=110
  ·have Hp:=kept (show Str.at' i (Str.esc1 (s.data.toList.drop (i+1)))=([10],i+2,0) by rw[hd,h110];rfl);have hu:(s[i+1].toNat:Int)=110:=by rw[h110];rfl
   clear hd h110 hex;go_wp2;refine bodyPost_ret (v:=.tuple #[.string ⟨#[10]⟩,.int .i64 (i+2:Nat),.int .i64 0]) (by simp[results,Tryz.results273,go_sem]) rfl ⟨by rw[Hp.out];rfl,Below.refl _ _⟩
  have g110:=azr s[i+1] 110 (by decide) h110;by_cases h114:s[i+1]=114
  ·have Hp:=kept (show Str.at' i (Str.esc1 (s.data.toList.drop (i+1)))=([13],i+2,0) by rw[hd,h114];rfl);have hu:(s[i+1].toNat:Int)=114:=by rw[h114];rfl
   clear hd h110 h114 hex;go_wp2;refine bodyPost_ret (v:=.tuple #[.string ⟨#[13]⟩,.int .i64 (i+2:Nat),.int .i64 0]) (by simp[results,Tryz.results273,go_sem]) rfl ⟨by rw[Hp.out];rfl,Below.refl _ _⟩
  have g114:=azr s[i+1] 114 (by decide) h114;by_cases h116:s[i+1]=116
  ·have Hp:=kept (show Str.at' i (Str.esc1 (s.data.toList.drop (i+1)))=([9],i+2,0) by rw[hd,h116];rfl);have hu:(s[i+1].toNat:Int)=116:=by rw[h116];rfl
   clear hd h110 h114 h116 hex;go_wp2;refine bodyPost_ret (v:=.tuple #[.string ⟨#[9]⟩,.int .i64 (i+2:Nat),.int .i64 0]) (by simp[results,Tryz.results273,go_sem]) rfl ⟨by rw[Hp.out];rfl,Below.refl _ _⟩
  have g116:=azr s[i+1] 116 (by decide) h116;by_cases h34:s[i+1]=34
  ·have Hp:=kept (show Str.at' i (Str.esc1 (s.data.toList.drop (i+1)))=([34],i+2,0) by rw[hd,h34];rfl);have hu:(s[i+1].toNat:Int)=34:=by rw[h34];rfl
   rw[h34]at hex;clear hd h110 h114 h116 h34;go_wp2;refine bodyPost_ret (v:=.tuple #[.string ⟨#[34]⟩,.int .i64 (i+2:Nat),.int .i64 0]) (by simp[hex,results,Tryz.results273,go_sem]) rfl ⟨by rw[Hp.out];rfl,Below.refl _ _⟩
  have g34:=azr s[i+1] 34 (by decide) h34;by_cases h92:s[i+1]=92
  ·have Hp:=kept (show Str.at' i (Str.esc1 (s.data.toList.drop (i+1)))=([92],i+2,0) by rw[hd,h92];rfl);have hu:(s[i+1].toNat:Int)=92:=by rw[h92];rfl
   rw[h92]at hex;clear hd h110 h114 h116 h34 h92;go_wp2;refine bodyPost_ret (v:=.tuple #[.string ⟨#[92]⟩,.int .i64 (i+2:Nat),.int .i64 0]) (by simp[hex,results,Tryz.results273,go_sem]) rfl ⟨by rw[Hp.out];rfl,Below.refl _ _⟩
  have g92:=azr s[i+1] 92 (by decide) h92;by_cases h117:s[i+1]=117
  ·have He:=kept (show Str.escp (s.data.toList.drop (i+1))=_ by rw[hd,aqj,if_neg h110,if_neg h114,if_neg h116,if_neg (fun h=>h.elim h34 h92),if_pos h117]);have hu:(s[i+1].toNat:Int)=117:=by rw[h117];rfl
   clear hd h117 h110 g110 h114 g114 h116 g116 h34 g34 h92 g92 hex;by_cases h1:s.size≤i+2
   ·have Hp:=kept (show Str.at' i (Str.esc1 (s.data.toList.drop (i+1)))=([],0,40) by
     rw[Str.esc1_of (show Str.escp (s.data.toList.drop (i+1))=(0,0,40) by rw[He.out,ZG (by simp;omega)])];rfl)
    have h1':(s.size:Int)≤i+2:=by omega
    go_wp2;refine bodyPost_ret (v:=.tuple #[.string ⟨#[]⟩,.int .i64 0,.int .i64 40]) (by simp[results,Tryz.results273,go_sem]) rfl ⟨by rw[Hp.out];rfl,Below.refl _ _⟩
   ·have hlt1:i+2<s.size:=by omega
    have hlt1':(i:Int)+2<s.size:=by omega
    have hd1:s.data.toList.drop (i+2)=s[i+2]::s.data.toList.drop (i+3):=drop_cons s (i+2) hlt1;by_cases h123:s[i+2]=123
    ·obtain⟨⟨q1,q2,q3⟩,hq⟩:=Ex (Str.point (s.data.toList.drop (i+3)));have he:Str.escp (s.data.toList.drop (i+1))=(q1,q2+2,q3):=by rw[He.out,hd1];simp only;rw[if_pos h123,hq]
     have hv:(s[i+2].toNat:Int)=123:=by rw[h123];rfl
     have Hx:=kept (fun W=>bq8 s (i+3) q1 q2 q3 W hs (by omega) hq);rw[show((i+3:Nat):Int)=(i:Int)+3 by omega]at Hx;have hle:=bkr (s.data.toList.drop (i+3));rw[hq]at hle;have h1:=Str.esc1_of he;by_cases hq3:q3=0
     ·subst hq3;have Hval:=kept (Str.point_valid _ _ _ hq);have Hp:=kept (show Str.at' i (Str.esc1 (s.data.toList.drop (i+1)))=(Str.enc q1,i+3+q2,0) by rw[h1,if_pos rfl,Str.at_ok];congr 2;omega);have Hen:=kept (fun W=>bqa q1 W Hval.out);rw[if_pos rfl]at Hx;clear hd1 h123 h1 hq hle he;go_wp2_with fail;(with_reducible refine(Hx.out _).mono ?_);rintro e w1 ⟨rfl,rfl⟩
      go_wp2_with fail;(with_reducible refine(Hen.out _).mono ?_);rintro e w2 ⟨rfl,b2⟩
      have B2:=kept b2;clear b2;go_wp2;refine bodyPost_ret (v:=.tuple #[.string ⟨(Str.enc q1).toArray⟩,.int .i64 (i+3+q2:Nat),.int .i64 0]) (by simp[results,Tryz.results273,go_sem]) rfl ⟨by rw[Hp.out];rfl,B2.out⟩
     ·have Hp:=kept (show Str.at' i (Str.esc1 (s.data.toList.drop (i+1)))=([],0,q3) by rw[h1,if_neg hq3,Str.at_err _ _ hq3]);rw[if_neg hq3]at Hx;have he1:(q3==0)=false:=by simpa using hq3
      have he2:(q3 !=0)=true:=by simpa using hq3
      clear hd1 h123 h1 hq hle he;go_wp2_with fail;(with_reducible refine(Hx.out _).mono ?_);rintro e w1 ⟨rfl,rfl⟩
      go_wp2;refine bodyPost_ret (v:=.tuple #[.string ⟨#[]⟩,.int .i64 0,.int .i64 q3]) (by simp[results,Tryz.results273,go_sem]) rfl ⟨by rw[Hp.out];rfl,Below.refl _ _⟩
    ·have Hp:=kept (show Str.at' i (Str.esc1 (s.data.toList.drop (i+1)))=([],0,2) by
      rw[Str.esc1_of (show Str.escp (s.data.toList.drop (i+1))=(0,0,2) by rw[He.out,hd1];exact if_neg h123)];rfl)
     have hv1:=azr s[i+2] 123 (by decide) h123;have hv2:((s[i+2].toNat:Int)!=123)=true:=by simpa using hv1
     clear hd1 h123 h1;go_wp2;refine bodyPost_ret (v:=.tuple #[.string ⟨#[]⟩,.int .i64 0,.int .i64 2]) (by simp[results,Tryz.results273,go_sem]) rfl ⟨by rw[Hp.out];rfl,Below.refl _ _⟩
  ·have Hp:=kept (show Str.at' i (Str.esc1 (s.data.toList.drop (i+1)))=([],0,2) by
    rw[Str.esc1_of (show Str.escp (s.data.toList.drop (i+1))=(0,0,2) by rw[hd,aqj,if_neg h110,if_neg h114,if_neg h116,if_neg (fun h=>h.elim h34 h92),if_neg h117])];rfl)
   have g117:=azr s[i+1] 117 (by decide) h117;clear hd h117 h110 h114 h116 h34 h92 hex;go_wp2;refine bodyPost_ret (v:=.tuple #[.string ⟨#[]⟩,.int .i64 0,.int .i64 2]) (by simp[results,Tryz.results273,go_sem]) rfl ⟨by rw[Hp.out];rfl,Below.refl _ _⟩
theorem Str.one_of_esc(l:List UInt8)(h:l.getD 0 0=92):Str.one l=Str.esc1 (l.drop 1):=by
 unfold Str.one Str.esc1;rw[if_pos h];by_cases hh:(Str.escp (l.drop 1)).2.2=0
 ·rw[if_neg (by simpa using hh),if_pos hh]
 ·rw[if_pos (by simpa using hh),if_neg hh]
theorem bwr(s:ByteArray)(i:Nat)(w:World)(hs:s.size≤2000000)(hi:i<s.size):
  Calls Tryz.prog 270 #[.string s,.int .i64 i] w fun e w'=>e=TripleEnd (Str.at' i (Str.one (s.data.toList.drop i)))∧Below w.heap.size w w':=by
 have hg:(s.data.toList.drop i).getD 0 0=s[i]:=by rw[drop_cons s i hi];rfl
 by_cases h92:s[i]=92
 ·have h1:=Str.one_of_esc (s.data.toList.drop i) (by rw[hg,h92]);rw[YU]at h1;rw[h1];obtain⟨q,hq⟩:=Ex (Str.at' i (Str.esc1 (s.data.toList.drop (i+1))));have Hx:=kept (fun W=>ayb s i W hs hi);rw[hq]at Hx⊢;obtain⟨q1,q2,q3⟩:=q;have hu:(s[i].toNat:Int)=92:=by rw[h92];rfl
  clear h1 hq hg h92;go_enter Tryz.func270,Tryz.ntmps270;go_wp2_with fail;(with_reducible refine(Hx.out _).mono ?_);rintro e w1 ⟨rfl,b1⟩
  have B1:=kept b1;clear b1;unfold TripleEnd;go_wp2;refine bodyPost_ret (v:=.tuple #[.string ⟨q1.toArray⟩,.int .i64 q2,.int .i64 q3]) (by simp[results,Tryz.results270,go_sem]) rfl ⟨rfl,B1.out⟩
 ·have g92:=azr s[i] 92 (by decide) h92;have hne:(s.data.toList.drop i)≠[]:=by rw[drop_cons s i hi];simp
  have hwd:=Str.dec_width s i hi;rcases Str.refDec_cases s i hi with⟨hb,he⟩|⟨hb,he⟩
  ·have Hp:=kept (show Str.at' i (Str.one (s.data.toList.drop i))=([],0,2) by
    unfold Str.one
    rw[if_neg (by rw[hg];exact h92),if_pos (.inl (by rw[Str.decL];exact hb))];rfl)
   have He:=kept he;clear hb he hg h92 hne hwd;go_enter Tryz.func270,Tryz.ntmps270;go_wp2_with fail;(with_reducible refine(aqw _ _ 0 0 _ (by omega) He.out).mono ?_);rintro e w1 ⟨rfl,b1⟩
   have B1:=kept b1;clear b1;go_wp2;refine bodyPost_ret (v:=.tuple #[.string ⟨#[]⟩,.int .i64 0,.int .i64 2]) (by simp[results,Tryz.results270,go_sem]) rfl ⟨by rw[Hp.out];rfl,B1.out⟩
  ·obtain⟨⟨c,n⟩,hd⟩:=Ex (Utf8.decode s i);rw[hd]at he hb hwd;have He:=kept he;have hw1:1≤n:=hwd.1;have hw2:i+n≤s.size:=hwd.2;have hw2':(i:Int)+n≤s.size:=by omega
   have hnz1:((n:Int)==0)=false:=by simp;omega
   have hnz2:¬(n:Int)=0:=by omega
   obtain⟨u,hu⟩:∃u:Int,(s[i].toNat:Int)=u:=⟨_,rfl⟩;have hone:∀hh:¬(u<32∨u=127),Str.at' i (Str.one (s.data.toList.drop i))=((s.data.toList.drop i).take n,i+n,0):=by
    intro hh;unfold Str.one;rw[if_neg (by rw[hg];exact h92),if_neg ?_,Str.decL,hd]
    ·rfl
    ·rw[Str.decL,hd,hg];rintro(h|h|h)
     ·exact hb h
     ·rw[YE]at h;have:s[i].toNat<32:=h;omega
     ·rw[h]at hu;exact hh (.inr hu.symm)
   have hbad:(u<32∨u=127)→Str.at' i (Str.one (s.data.toList.drop i))=([],0,2):=by
    intro hh;unfold Str.one;rw[if_neg (by rw[hg];exact h92),if_pos ?_]
    ·rfl
    ·rw[hg];right
     rcases hh with h|h
     ·left;rw[YE];show s[i].toNat<32;omega
     ·right;rw[←Z9];show s[i].toNat=127;omega
   have hxt:s.extract i (i+n)=⟨((s.data.toList.drop i).take n).toArray⟩:=by
    refine bx6 ?_;simp only[ByteArray.data_extract,Array.toList_extract,List.extract_eq_take_drop];congr 1;omega
   have Hone:=kept hone;have Hbad:=kept hbad;clear hb he hg h92 hne hwd hone hbad hd hw2;rw[hu]at g92;by_cases h32:u<32
   ·have Hp:=kept (Hbad.out (.inl h32));clear hxt;go_enter Tryz.func270,Tryz.ntmps270;go_wp2_with fail;(with_reducible refine(aqw _ _ c n _ (by omega) He.out).mono ?_);rintro e w1 ⟨rfl,b1⟩
    have B1:=kept b1;clear b1;go_wp2;refine bodyPost_ret (v:=.tuple #[.string ⟨#[]⟩,.int .i64 0,.int .i64 2]) (by simp[results,Tryz.results270,go_sem]) rfl ⟨by rw[Hp.out];rfl,B1.out⟩
   ·by_cases h127:u=127
    ·have Hp:=kept (Hbad.out (.inr h127));have h127a:(u==127)=true:=by simpa using h127
     clear hxt h127;go_enter Tryz.func270,Tryz.ntmps270;go_wp2_with fail;(with_reducible refine(aqw _ _ c n _ (by omega) He.out).mono ?_);rintro e w1 ⟨rfl,b1⟩
     have B1:=kept b1;clear b1;go_wp2;refine bodyPost_ret (v:=.tuple #[.string ⟨#[]⟩,.int .i64 0,.int .i64 2]) (by simp[results,Tryz.results270,go_sem]) rfl ⟨by rw[Hp.out];rfl,B1.out⟩
    ·have Hp:=kept (Hone.out (by omega));have h127a:(u==127)=false:=by simpa using h127
     generalize (s.data.toList.drop i).take n=t at *;go_enter Tryz.func270,Tryz.ntmps270;go_wp2_with fail;(with_reducible refine(aqw _ _ c n _ (by omega) He.out).mono ?_);rintro e w1 ⟨rfl,b1⟩
     have B1:=kept b1;clear b1;go_wp2;refine bodyPost_ret (v:=.tuple #[.string ⟨t.toArray⟩,.int .i64 (i+n:Nat),.int .i64 0]) (by simp[hxt,results,Tryz.results270,go_sem]) rfl ⟨by rw[Hp.out];rfl,B1.out⟩
theorem Str.one_len(s:ByteArray)(k:Nat)(hk:k<s.size)(b:List UInt8)(n:Nat)(h:Str.one (s.data.toList.drop k)=(b,n,(0:Int))):1≤n∧k+n≤s.size∧b.length≤4:=by
 have hlen:(s.data.toList.drop k).length=s.size-k:=by simp
 unfold Str.one at h;split at h
 ·split at h
  ·next hh=>
   exfalso
   have:=congrArg (fun r=>r.2.2) h;simp only at this;exact hh this
  ·next hh=>
   have hl:=Str.escp_len ((s.data.toList.drop k).drop 1) (by simpa using hh);obtain⟨rfl,h2⟩:=Yc h;obtain⟨rfl,_⟩:=Yc h2;have:=(Str.enc_length (Str.escp ((s.data.toList.drop k).drop 1)).1).2;rw[Zv,hlen]at hl;exact⟨by omega,by omega,this⟩
 ·split at h
  ·simp at h
  ·next hh=>
   have hwd:=Str.dec_width s k hk;rw[←Str.decL]at hwd;have hd4:(Lib.decodeL (s.data.toList.drop k)).2≤4:=by
    rw[Lib.decodeL_N];rcases Lib.decodeN_shape (s.data.toList.drop k).length ((s.data.toList.drop k).getD 0 0).toNat ((s.data.toList.drop k).getD 1 0).toNat ((s.data.toList.drop k).getD 2 0).toNat ((s.data.toList.drop k).getD 3 0).toNat with⟨c,e⟩|⟨c1,c2,c3,cv,e⟩|⟨c1,c2,c3,c4,cv,cs,e⟩|⟨c1,c2,c3,c4,c5,cv,cw,e⟩|e;all_goals rw[e];simp
   obtain⟨rfl,h2⟩:=Yc h;obtain⟨rfl,_⟩:=Yc h2;refine⟨hwd.1,hwd.2,?_⟩;rw[ZQ];omega
theorem bxp(l:List UInt8)(n:Nat)(e:Int):TripleEnd (l,n,e)=.returned (.tuple #[.string ⟨l.toArray⟩,.int .i64 n,.int .i64 e]):=rfl
theorem aw6(s:ByteArray)(w:World)(hs:s.size≤2000000):
  Calls Tryz.prog 264 #[.string s] w fun e w'=>e=TripleEnd (Str.unquote s.data.toList)∧Below w.heap.size w w':=by
 obtain⟨U,hU⟩:=Ex (Str.unquote s.data.toList);rw[hU];by_cases h0:s.size=0
 ·have hs:s=⟨#[]⟩:=by
   apply ByteArray.ext;exact Array.eq_empty_of_size_eq_zero h0
  subst hs;have HU:=kept (show(([],0,40):List UInt8×Nat×Int)=U from hU);clear hU;go_enter Tryz.func264,Tryz.ntmps264;go_wp2;refine bodyPost_ret (v:=.tuple #[.string ⟨#[]⟩,.int .i64 0,.int .i64 40]) (by simp[results,Tryz.results264,go_sem]) rfl ⟨by rw[←HU.out];rfl,Below.refl _ _⟩
 ·have hlt:0<s.size:=by omega
  have hd:s.data.toList=s[0]::s.data.toList.drop 1:=by have:=drop_cons s 0 hlt;simpa using this
  have hne:s.data.toList≠[]:=by rw[hd];simp
  have hg0:s.data.toList.getD 0 0=s[0]:=by rw[hd];rfl
  have h00:((s.size:Int)==0)=false:=by rw[Zq];omega
  unfold Str.unquote at hU;rw[if_neg hne,hg0]at hU;clear h0 hd hne hg0;by_cases h34:s[0]=34
  ·rw[if_neg (by simpa using h34)]at hU;have HU:=kept hU;have hu:(s[0].toNat:Int)=34:=by rw[h34];rfl
   clear hU h34;go_enter Tryz.func264,Tryz.ntmps264;go_wp2
   go_loopw [5,6] (fun ov av wr=>Below w.heap.size w wr∧∃(k f:Nat) (acc:List UInt8),1≤k∧k≤s.size∧av=.int .i64 k∧ov=.string ⟨acc.toArray⟩∧s.size-k<f∧acc.length≤4*k∧Str.unq f (s.data.toList.drop k) acc k=U) (fun _ av _=>s.size-(intOf av).toNat)
   case atStart=>exact⟨Below.refl _ _,1,s.data.toList.length,[],by omega,by omega,rfl,rfl,by simp;omega,by simp,HU.out⟩
   case round=>
    obtain⟨hbel,k,f,acc,hk1,hk,rfl,rfl,hf,hacc,hun⟩:=hrel;have Hl:=kept hbel;clear hbel;obtain⟨f,rfl⟩:∃f',f=f'+1:=⟨f-1,by omega⟩;by_cases hend:k=s.size
    ·subst hend;rw[ZG (by simp),Str.unq_nil]at hun;subst hun;clear hacc hf;go_wp2;refine bodyPost_ret (v:=.tuple #[.string ⟨#[]⟩,.int .i64 0,.int .i64 40]) (by simp[results,Tryz.results264,go_sem]) rfl ⟨rfl,Hl.out⟩
    ·have hkl:k<s.size:=by omega
     have hkl':(k:Int)<s.size:=by omega
     have hne:s.data.toList.drop k≠[]:=by rw[drop_cons s k hkl];simp
     have hgk:(s.data.toList.drop k).getD 0 0=s[k]:=by rw[drop_cons s k hkl];rfl
     by_cases h34k:s[k]=34
     ·rw[Str.unq_quote _ _ _ _ hne (by rw[hgk];exact h34k)]at hun;have hv:(s[k].toNat:Int)=34:=by rw[h34k];rfl
      have hsz:=size_mk acc;clear hne hgk h34k hf;by_cases hbig:4096<acc.length
      ·rw[if_pos hbig]at hun;subst hun;have hbig':(4096:Int)<acc.length:=by omega
       clear hbig hacc hend;go_wp2;refine bodyPost_ret (v:=.tuple #[.string ⟨#[]⟩,.int .i64 0,.int .i64 3]) (by simp[results,Tryz.results264,go_sem]) rfl ⟨rfl,Hl.out⟩
      ·rw[if_neg hbig]at hun;subst hun;have hbig':¬(4096:Int)<acc.length:=by omega
       clear hbig hacc hend;go_wp2;refine bodyPost_ret (v:=.tuple #[.string ⟨acc.toArray⟩,.int .i64 (k+1:Nat),.int .i64 0]) (by simp[results,Tryz.results264,go_sem]) rfl ⟨rfl,Hl.out⟩
     ·have hvk1:=azr s[k] 34 (by decide) h34k;rw[←hgk]at h34k;obtain⟨⟨b,n,e0⟩,ho⟩:=Ex (Str.one (s.data.toList.drop k));have Hx:=kept (fun W=>bwr s k W hs hkl);by_cases he0:e0=0
      ·subst he0;have hln:=Str.one_len s k hkl b n ho;rw[Str.unq_step _ _ _ _ _ _ hne h34k ho,YU]at hun;rw[ho,Str.at_ok,bxp]at Hx;have Hun:=kept hun;obtain⟨r,hr⟩:=Ex (acc++b);have hcat:=fun W=>axj (P:=Tryz.prog) W (a:=⟨acc.toArray⟩) (b:=⟨b.toArray⟩) (l:=acc) (m:=b) rfl rfl hr (by rw[←hr,Za];omega)
       have Hr:=kept hr;have hln1:1≤n:=hln.1;have hln2:k+n≤s.size:=hln.2.1;have Hln3:=kept (show r.length≤4*(k+n) by rw[←hr,Za];omega);clear hne hgk h34k hun ho hr hln hacc;go_wp2_with fail;refine(Hx.out _).mono ?_;rintro e w1 ⟨rfl,b1⟩;have B1:=kept (bthen Hl.out b1);clear b1;go_wp2
       go_roundw
       case rel=>exact⟨B1.out,k+n,f,r,by omega,by omega,by go_num,rfl,by omega,Hln3.out,by rw[←Hr.out];exact Hun.out⟩
       case measure=>simp[intOf];omega
      ·rw[Str.unq_err _ _ _ _ _ _ _ hne h34k ho he0]at hun;subst hun;have hob:b=[]∧n=0:=by
        have h:=ho;unfold Str.one at h;split at h
        ·split at h
         ·obtain⟨rfl,h2⟩:=Yc h;obtain⟨rfl,_⟩:=Yc h2;exact⟨rfl,rfl⟩
         ·exact absurd (Yc (Yc h).2).2.symm he0
        ·split at h
         ·obtain⟨rfl,h2⟩:=Yc h;obtain⟨rfl,_⟩:=Yc h2;exact⟨rfl,rfl⟩
         ·exact absurd (Yc (Yc h).2).2.symm he0
       obtain⟨rfl,rfl⟩:=hob;rw[ho,Str.at_err _ _ he0,bxp]at Hx;have he1:(e0==0)=false:=by simpa using he0
       have he2:(e0 !=0)=true:=by simpa using he0
       clear hne hgk h34k hf hacc ho;go_wp2_with fail;refine(Hx.out _).mono ?_;rintro e w1 ⟨rfl,b1⟩;have B1:=kept (bthen Hl.out b1);clear b1;go_wp2;refine bodyPost_ret (v:=.tuple #[.string ⟨#[]⟩,.int .i64 0,.int .i64 e0]) (by simp[results,Tryz.results264,go_sem]) rfl ⟨rfl,B1.out⟩
  ·rw[if_pos h34]at hU;have HU:=kept hU;have g34:=azr s[0] 34 (by decide) h34;have g34':((s[0].toNat:Int)!=34)=true:=by simpa using g34
   clear h34 hU;go_enter Tryz.func264,Tryz.ntmps264;go_wp2;refine bodyPost_ret (v:=.tuple #[.string ⟨#[]⟩,.int .i64 0,.int .i64 2]) (by simp[results,Tryz.results264,go_sem]) rfl ⟨by rw[←HU.out];rfl,Below.refl _ _⟩
end
end Go.Proofs.YtdgcbckcameggacGreatDoor
