/- Part of what the proof needs. -/
import Derived.Test.YthhpocnmfknalaaGreatDoorMFrWorkspaceCallsS
set_option maxHeartbeats 4000000
set_option maxRecDepth 100000
set_option linter.all false
namespace Go.Proofs.YthhpocnmfknalaaGreatDoor
section
open Go.RowKit
open Go.Op (bytesLess)
namespace AX
structure Sf.StIn(s:Sf.St):Prop where
 lin:s.lin.length<=2000000
 insts:∀x∈s.insts,Sf.InstIn x
 pends:∀x∈s.pends,x.addr.length<=2000000/\x.tok.length<=2000000
 outs:∀x∈s.outs,x.name.length<=2000000/\x.value.lens
 li:s.insts.length<=1000000000
 lp:s.pends.length<=1000000000
 lo:s.outs.length<=1000000000
theorem ck4(L:Leafs)(st:Sf.St)(ok:Sf.StIn st):SCheck st:=by
 intro h;obtain⟨lin,ser,ins,ps,os⟩:=st;have ct:=fun h=>L.text lin ok.lin h
 have li:ins.length<=1000000000:=ok.li;have lp:ps.length<=1000000000:=ok.lp;have lo:os.length<=1000000000:=ok.lo;have lm1:(ins.map Sf.Inst.cells).length=ins.length:=Zh _;have lm2:(ps.map Sf.Pend.cells).length=ps.length:=Zh _;have lm3:(os.map Sf.Outp.cells).length=os.length:=Zh _;obtain⟨Z,hZ⟩:=Ex (Sf.checkZ ⟨lin,ser,ins,ps,os⟩);rw[hZ];unfold Sf.checkZ at hZ;dsimp only at hZ;refine pcall ?_ rfl (by simp[A.pure,A.data,Sf.St.A]) h;refine fo ?_;dsimp only[Sf.St.A];refine aza ti ?_;refine use (ct _) ?_;cases hT:Sf.text lin
 ·rw[hT,if_pos (by decide)]at hZ;subst hZ;refine aza ti ?_;exact Fn rfl
 rw[hT,if_neg (by decide)]at hZ;by_cases s0:ser<0
 ·rw[if_pos (.inl s0)]at hZ;subst hZ;refine aza s0 ?_;exact Fn rfl
 by_cases s1:ser>9007199254740992
 ·rw[if_pos (.inr s1)]at hZ;subst hZ;refine aza (ai s0 s1) ?_;exact Fn rfl
 rw[if_neg (by omega)]at hZ;obtain⟨mx,hmx⟩:∃mx:Int,(if(os.length:Int)>(if(ps.length:Int)>(ins.length:Int)then(ps.length:Int)else(ins.length:Int))then(os.length:Int)else(if(ps.length:Int)>(ins.length:Int)then(ps.length:Int)else(ins.length:Int)))=mx:=⟨_,rfl⟩;have hm5:mx>512↔(512<ins.length\/512<ps.length\/512<os.length):=by
  rw[<-hmx];split<;>split<;>omega
 by_cases hm:mx>512
 ·rw[if_pos (hm5.1 hm)]at hZ;subst hZ;refine aza (ai s0 (ai s1 (ai lm1 (ai lm2 (ai lm3 (ai hmx hm)))))) ?_;exact Fn rfl
 rw[if_neg (fun e=>hm (hm5.2 e))]at hZ;obtain⟨I,hI⟩:=Ex (Sf.instsZ none ins);obtain⟨P,hP⟩:=Ex (Sf.pendsZ none ps);obtain⟨O,hO⟩:=Ex (Sf.outsZ none os);have fi1:∀z,z≠0->z=I->Z=z:=fun z h e=>by rw[hI,<-e,if_pos h]at hZ;exact hZ.symm
 have fi2:I=0->(if P≠0 then P else O)=Z:=fun e=>by rw[hI,hP,hO,e,if_neg (by simp)]at hZ;exact hZ
 refine aza (ai s0 (ai s1 (ai lm1 (ai lm2 (ai lm3 (ai hmx hm)))))) ?_;refine azg (fun mm ts h=>∃(j:Nat) (l:List Blk),mm=ins.length-j/\j<=ins.length/\h=⟨.cells 42 [.str lin,.int .i64 ser,.sl 13 .no (ins.map Sf.Inst.cells),.sl 3 .no (ps.map Sf.Pend.cells),.sl 7 .no (os.map Sf.Outp.cells)]::l,[]⟩/\Sf.instsZ (if j=0 then none else ins[j-1]?) (ins.drop j)=I/\ts 1=.ptr 0 0/\ts 35=.sl 13 .no (ins.map Sf.Inst.cells)/\ts 36=.int .i64 (ins.length:Nat)/\ts 37=.int .i64 (j:Nat)) ins.length ?_ ?_
 ·exact⟨0,[],by omega,by omega,rfl,hI,by(exact ev0 ti),by(exact ev0 ti),by(exact ev0 (ai lm1 (ai lm2 lm3))),by(exact azv ti)⟩
 rintro mm ts h ⟨j,l,rfl,hjc,rfl,hit,t1,ta,tb,tc⟩;by_cases hj:j<ins.length
 ·have hlt:(j:Int)<(ins.length:Int):=by omega
  have hlt':(j:Int)<((ins.map Sf.Inst.cells).length:Int):=by rw[Zh];exact hlt
  have hj0:(0:Int)<=(j:Int):=by omega
  have ei:IntKind.i64.wrap ((j:Int)+1)=((j+1:Nat):Int):=by rw[wrap64 (by omega) (by omega)];omega
  have hg:=az0 Sf.Inst.cells ins j hj;have hm:=Zl hj;rw[Zu hj]at hit;obtain⟨x,hx⟩:=Ex (ins[j]);rw[hx]at hit hg hm;have ci:=fun h=>byt L x (ok.insts x hm) h
  have cp:=fun h=>bxm x h
  have hxj:ins[j]?=some x:=by rw[Zj hj,hx]
  have hx2:=Ex x;unfold Sf.instsZ at hit;obtain⟨Z1,hZ1⟩:=Ex (Sf.instZ x);rw[hZ1]at ci hit;have cge:=fun y=>cyq y x
  have cc:=fun(y:Sf.Inst) h=>cq1 L y.addr y.dep x.addr x.dep h
  have nx:Sf.instsZ (some x) (ins.drop (j+1))=I->Sf.instsZ (if j+1=0 then none else ins[j+1-1]?) (ins.drop (j+1))=I:=fun e=>by rw[if_neg (by omega),Nat.add_sub_cancel,hxj];exact e
  clear hx2 hm hZ1;have cells:∃a d id ty k n s is ks v tn fi ds,x=⟨a,d,id,ty,.mk k n s is ks,v,tn,fi,ds⟩:=by obtain⟨a,d,id,ty,⟨k,n,s,is,ks⟩,v,tn,fi,ds⟩:=x;exact⟨_,_,_,_,_,_,_,_,_,_,_,_,_,rfl⟩
  obtain⟨a,d,id,ty,k,n,s,is,ks,v,tn,fi,ds,hxe⟩:=cells;have hxc:x.cells=[.str a,.str d,.str id,.str ty,.int .i64 k,.int .i64 n,.str s,.sl 5 .no (V.cellss is),.sl 1 .no (strsA ks),.int .i64 v,.bool tn,.bool fi,.sl 1 .no (strsA ds)]:=by rw[hxe];rfl
  rw[hxc]at ci cp hg;refine aza (ai t1 (ai ta (ai tb (ai tc (ai hlt (ai hg (ai hlt' hj0))))))) ?_;refine use (ci _) ?_;by_cases hz:Z1=0
  rotate_left
  ·have e1:(Z1 !=0)=true:=by simp[hz]
   rw[if_pos hz]at hit;have hZf:=fi1 Z1 hz hit;refine aza (ai t1 (ai ta (ai tb (ai tc e1)))) ?_;exact⟨_,le_refl _,by rw[hZf];rfl⟩
  have e1:(Z1 !=0)=false:=by simp[hz]
  rw[if_neg (by simp[hz])]at hit;cases j with
  |zero=>
   have h0:¬((0:Nat):Int)>0:=by omega
   simp only[if_true,Zn,if_false]at hit;refine aza (ai t1 (ai ta (ai tb (ai tc (ai e1 (ai h0 ei)))))) ?_;exact⟨ins.length-(0+1),by omega,0+1,l++[.cells 91 [.str a,.str d,.str id,.str ty,.int .i64 k,.int .i64 n,.str s,.sl 5 .no (V.cellss is),.sl 1 .no (strsA ks),.int .i64 v,.bool tn,.bool fi,.sl 1 .no (strsA ds)]],rfl,by omega,rfl,nx hit,by(exact ev0 t1),by(exact ev0 ta),by(exact ev0 tb),by(exact ev0 ei)⟩
  |succ i=>
   have h0:((i+1:Nat):Int)>0:=by omega
   have ej:IntKind.i64.wrap (((i+1:Nat):Int)-1)=(i:Int):=by rw[wrap64 (by omega) (by omega)];omega
   have hg2:=az0 Sf.Inst.cells ins i (by omega);have hi':(i:Int)<((ins.map Sf.Inst.cells).length:Int):=by rw[Zh];omega
   have hi0:(0:Int)<=(i:Int):=by omega
   have hki:ins[i+1-1]?=some (ins[i]'(by omega)):=Zj (by omega);rw[show(if i+1=0 then none else ins[i+1-1]?)=(some (ins[i]'(by omega)))from by rw[if_neg (by omega),hki]]at hit;obtain⟨y,hy⟩:=Ex (ins[i]'(by omega));rw[hy]at hit hg2;dsimp only at hit;have cpy:=fun h=>bxm y h
   have hyc:∃b1 b2 b3 b4 b5 b6 b7 b8 b9 c1 c2 c3 c4,y.cells=[.str b1,.str b2,.str b3,.str b4,.int .i64 b5,.int .i64 b6,.str b7,.sl 5 .no (V.cellss b8),.sl 1 .no (strsA b9),.int .i64 c1,.bool c2,.bool c3,.sl 1 .no (strsA c4)]:=by obtain⟨a,d,id,ty,⟨k,n,s,is,ks⟩,v,tn,fi,ds⟩:=y;exact⟨_,_,_,_,_,_,_,_,_,_,_,_,_,rfl⟩
   obtain⟨b1,b2,b3,b4,b5,b6,b7,b8,b9,c1,c2,c3,c4,hyc⟩:=hyc;rw[hyc]at hg2 cpy;have cg:=cge y;have cy:=cc y;obtain⟨c,hc⟩:=Ex (djx y.addr y.dep x.addr x.dep);rw[hc]at cg cy;refine aza (ai t1 (ai ta (ai tb (ai tc (ai e1 (ai h0 (ai ej (ai hg2 (ai hi' hi0))))))))) ?_;refine use (cpy _) ?_;refine aza (ai t1 (ai ta (ai tb tc))) ?_;refine use (cp _) ?_;refine aza (ai t1 (ai ta (ai tb tc))) ?_;refine use (cy _) ?_;by_cases hcz:c>=0
   ·simp only[cg.1 hcz,Z9,if_true]at hit;have hZf:=fi1 1 (by decide) hit;refine aza (ai t1 (ai ta (ai tb (ai tc hcz)))) ?_;exact⟨_,le_refl _,by rw[hZf];rfl⟩
   ·have hb:Sf.behind y x=true:=by cases hb:Sf.behind y x;exact absurd (cg.2 hb) hcz;rfl
    simp only[hb,Yc,Zn,if_false]at hit;refine aza (ai t1 (ai ta (ai tb (ai tc (ai hcz ei))))) ?_;exact⟨ins.length-((i+1)+1),by omega,(i+1)+1,l++[.cells 91 [.str a,.str d,.str id,.str ty,.int .i64 k,.int .i64 n,.str s,.sl 5 .no (V.cellss is),.sl 1 .no (strsA ks),.int .i64 v,.bool tn,.bool fi,.sl 1 .no (strsA ds)]],rfl,by omega,rfl,nx hit,by(exact ev0 t1),by(exact ev0 ta),by(exact ev0 tb),by(exact ev0 ei)⟩
 have hlt:¬((j:Int)<(ins.length:Int)):=by omega
 rw[YS (by omega)]at hit;unfold Sf.instsZ at hit;have fi2:=fi2 hit.symm;refine aza (ai t1 (ai ta (ai tb (ai tc (ai hlt (ai lm1 (ai lm2 lm3))))))) ?_;clear hit hlt hjc ta tb tc fi1;have fj1:∀z,z≠0->z=P->Z=z:=fun z h e=>by rw[<-e,if_pos h]at fi2;exact fi2.symm
 have fj2:P=0->Z=O:=fun e=>by rw[e,if_neg (by simp)]at fi2;exact fi2.symm
 obtain⟨l0,hl0⟩:∃l0:List Blk,l=l0:=⟨_,rfl⟩;refine azg (fun mm ts h=>∃(j:Nat) (l:List Blk),mm=ps.length-j/\j<=ps.length/\h=⟨.cells 42 [.str lin,.int .i64 ser,.sl 13 .no (ins.map Sf.Inst.cells),.sl 3 .no (ps.map Sf.Pend.cells),.sl 7 .no (os.map Sf.Outp.cells)]::l,[]⟩/\Sf.pendsZ (if j=0 then none else ps[j-1]?.map Sf.Pend.tok) (ps.drop j)=P/\ts 1=.ptr 0 0/\ts 64=.sl 3 .no (ps.map Sf.Pend.cells)/\ts 65=.int .i64 (ps.length:Nat)/\ts 66=.int .i64 (j:Nat)) ps.length ?_ ?_
 ·exact⟨0,l,by omega,by omega,rfl,hP,by(exact ev0 t1),by(exact ev0 t1),by(exact ev0 (ai t1 (ai lm1 (ai lm2 lm3)))),by(exact azv t1)⟩
 rintro mm ts h ⟨j,l,rfl,hjc,rfl,hit,t1,ta,tb,tc⟩;by_cases hj:j<ps.length
 ·have hlt:(j:Int)<(ps.length:Int):=by omega
  have hlt':(j:Int)<((ps.map Sf.Pend.cells).length:Int):=by rw[Zh];exact hlt
  have hj0:(0:Int)<=(j:Int):=by omega
  have ei:IntKind.i64.wrap ((j:Int)+1)=((j+1:Nat):Int):=by rw[wrap64 (by omega) (by omega)];omega
  have hg:=az0 Sf.Pend.cells ps j hj;have hm:=Zl hj;rw[Zu hj]at hit;obtain⟨x,hx⟩:=Ex (ps[j]);rw[hx]at hit hg hm;have hin:=ok.pends x hm;have ct:=fun h=>L.text x.tok hin.2 h
  have cm:=fun h=>bxx L x.addr x.typ hin.1 h
  have hxj:ps[j]?=some x:=by rw[Zj hj,hx]
  unfold Sf.pendsZ Sf.pendB at hit;have nx:Sf.pendsZ (some x.tok) (ps.drop (j+1))=P->Sf.pendsZ (if j+1=0 then none else ps[j+1-1]?.map Sf.Pend.tok) (ps.drop (j+1))=P:=fun e=>by rw[if_neg (by omega),Nat.add_sub_cancel,hxj];exact e
  simp only[Sf.Pend.cells]at hg;obtain⟨T,hT⟩:=Ex (Sf.text x.tok);rw[hT]at ct hit;obtain⟨M,hM⟩:=Ex (Sf.managed x.addr x.typ);rw[hM]at cm hit;refine aza (ai t1 (ai ta (ai tb (ai tc (ai hlt (ai hg (ai hlt' hj0))))))) ?_;refine use (ct _) ?_;cases T
  ·rw[if_pos (by simp)]at hit;have hZf:=fj1 1 (by decide) hit;refine aza (ai t1 (ai ta (ai tb tc))) ?_;exact⟨_,le_refl _,by rw[hZf];rfl⟩
  refine aza (ai t1 (ai ta (ai tb tc))) ?_;refine use (cm _) ?_;cases M
  ·rw[if_pos (by simp)]at hit;have hZf:=fj1 1 (by decide) hit;refine aza (ai t1 (ai ta (ai tb tc))) ?_;exact⟨_,le_refl _,by rw[hZf];rfl⟩
  cases j with
  |zero=>
   have h0:¬((0:Nat):Int)>0:=by omega
   rw[if_neg (by simp[Val.badB])]at hit;refine aza (ai t1 (ai ta (ai tb (ai tc (ai h0 ei))))) ?_;exact⟨ps.length-(0+1),by omega,0+1,l++[.cells 93 [.str x.addr,.str x.typ,.str x.tok]],rfl,by omega,rfl,nx hit,by(exact ev0 t1),by(exact ev0 ta),by(exact ev0 tb),by(exact ev0 ei)⟩
  |succ i=>
   have h0:((i+1:Nat):Int)>0:=by omega
   have ej:IntKind.i64.wrap (((i+1:Nat):Int)-1)=(i:Int):=by rw[wrap64 (by omega) (by omega)];omega
   have hg2:=az0 Sf.Pend.cells ps i (by omega);have hi':(i:Int)<((ps.map Sf.Pend.cells).length:Int):=by rw[Zh];omega
   have hi0:(0:Int)<=(i:Int):=by omega
   have hki:ps[i+1-1]?=some (ps[i]'(by omega)):=Zj (by omega);rw[show(if i+1=0 then none else ps[i+1-1]?.map Sf.Pend.tok)=(some (ps[i]'(by omega))).map Sf.Pend.tok from by rw[if_neg (by omega),hki]]at hit;obtain⟨y,hy⟩:=Ex (ps[i]'(by omega));rw[hy]at hit hg2;simp only[Sf.Pend.cells]at hg2;simp only[ZY,Val.badB]at hit;cases hb:bytesLess y.tok x.tok
   ·simp only[hb,ZH,ZX,Yc,Z9,YF,Zaa,if_true]at hit;have hZf:=fj1 1 (by decide) hit;refine aza (ai t1 (ai ta (ai tb (ai tc (ai h0 (ai ej (ai hg2 (ai hi' (ai hi0 hb))))))))) ?_;exact⟨_,le_refl _,by rw[hZf];rfl⟩
   ·simp only[hb,ZH,ZX,Yc,Z9,YF,Zaf,Zn,if_false]at hit;refine aza (ai t1 (ai ta (ai tb (ai tc (ai h0 (ai ej (ai hg2 (ai hi' (ai hi0 (ai hb ei)))))))))) ?_;exact⟨ps.length-((i+1)+1),by omega,(i+1)+1,l++[.cells 93 [.str x.addr,.str x.typ,.str x.tok]],rfl,by omega,rfl,nx hit,by(exact ev0 t1),by(exact ev0 ta),by(exact ev0 tb),by(exact ev0 ei)⟩
 have hlt:¬((j:Int)<(ps.length:Int)):=by omega
 rw[YS (by omega)]at hit;unfold Sf.pendsZ at hit;have fj2:=fj2 hit.symm;refine aza (ai t1 (ai ta (ai tb (ai tc (ai hlt (ai lm1 (ai lm2 lm3))))))) ?_;clear hit hlt hjc ta tb tc fj1 hl0 l0;refine azg (fun mm ts h=>∃(j:Nat) (l:List Blk),mm=os.length-j/\j<=os.length/\h=⟨.cells 42 [.str lin,.int .i64 ser,.sl 13 .no (ins.map Sf.Inst.cells),.sl 3 .no (ps.map Sf.Pend.cells),.sl 7 .no (os.map Sf.Outp.cells)]::l,[]⟩/\Sf.outsZ (if j=0 then none else os[j-1]?.map Sf.Outp.name) (os.drop j)=O/\ts 1=.ptr 0 0/\ts 101=.sl 7 .no (os.map Sf.Outp.cells)/\ts 102=.int .i64 (os.length:Nat)/\ts 103=.int .i64 (j:Nat)) os.length ?_ ?_
 ·exact⟨0,l,by omega,by omega,rfl,hO,by(exact ev0 t1),by(exact ev0 t1),by(exact ev0 (ai t1 (ai lm1 (ai lm2 lm3)))),by(exact azv t1)⟩
 rintro mm ts h ⟨j,l,rfl,hjc,rfl,hit,t1,ta,tb,tc⟩;by_cases hj:j<os.length
 ·have hlt:(j:Int)<(os.length:Int):=by omega
  have hlt':(j:Int)<((os.map Sf.Outp.cells).length:Int):=by rw[Zh];exact hlt
  have hj0:(0:Int)<=(j:Int):=by omega
  have ei:IntKind.i64.wrap ((j:Int)+1)=((j+1:Nat):Int):=by rw[wrap64 (by omega) (by omega)];omega
  have hg:=az0 Sf.Outp.cells os j hj;have hm:=Zl hj;rw[Zu hj]at hit;obtain⟨x,hx⟩:=Ex (os[j]);rw[hx]at hit hg hm;have hin:=ok.outs x hm;have ci:=fun h=>ck0 L x hin.1 hin.2 h
  have hxj:os[j]?=some x:=by rw[Zj hj,hx]
  unfold Sf.outsZ at hit;have nx:Sf.outsZ (some x.name) (os.drop (j+1))=O->Sf.outsZ (if j+1=0 then none else os[j+1-1]?.map Sf.Outp.name) (os.drop (j+1))=O:=fun e=>by rw[if_neg (by omega),Nat.add_sub_cancel,hxj];exact e
  obtain⟨Z1,hZ1⟩:=Ex (Sf.outZ x);rw[hZ1]at ci hit;clear hZ1;obtain⟨m,⟨k,n,s,is,ks⟩,b⟩:=x;simp only[Sf.Outp.cells]at hg ci;dsimp only at hit nx;refine aza (ai t1 (ai ta (ai tb (ai tc (ai hlt (ai hg (ai hlt' hj0))))))) ?_;refine use (ci _) ?_;by_cases hz:Z1=0
  rotate_left
  ·have e1:(Z1 !=0)=true:=by simp[hz]
   rw[if_pos hz]at hit;refine aza (ai t1 (ai ta (ai tb (ai tc e1)))) ?_;exact⟨_,le_refl _,by rw[fj2,<-hit];rfl⟩
  have e1:(Z1 !=0)=false:=by simp[hz]
  rw[if_neg (by simp[hz])]at hit;cases j with
  |zero=>
   have h0:¬((0:Nat):Int)>0:=by omega
   rw[if_neg (by simp[Val.badB])]at hit;refine aza (ai t1 (ai ta (ai tb (ai tc (ai e1 (ai h0 ei)))))) ?_;exact⟨os.length-(0+1),by omega,0+1,l++[.cells 55 [.str m,.int .i64 k,.int .i64 n,.str s,.sl 5 .no (V.cellss is),.sl 1 .no (strsA ks),.bool b]],rfl,by omega,rfl,nx hit,by(exact ev0 t1),by(exact ev0 ta),by(exact ev0 tb),by(exact ev0 ei)⟩
  |succ i=>
   have h0:((i+1:Nat):Int)>0:=by omega
   have ej:IntKind.i64.wrap (((i+1:Nat):Int)-1)=(i:Int):=by rw[wrap64 (by omega) (by omega)];omega
   have hg2:=az0 Sf.Outp.cells os i (by omega);have hi':(i:Int)<((os.map Sf.Outp.cells).length:Int):=by rw[Zh];omega
   have hi0:(0:Int)<=(i:Int):=by omega
   have hki:os[i+1-1]?=some (os[i]'(by omega)):=Zj (by omega);rw[show(if i+1=0 then none else os[i+1-1]?.map Sf.Outp.name)=(some (os[i]'(by omega))).map Sf.Outp.name from by rw[if_neg (by omega),hki]]at hit;obtain⟨y,hy⟩:=Ex (os[i]'(by omega));rw[hy]at hit hg2;obtain⟨m2,⟨k2,n2,s2,is2,ks2⟩,b2⟩:=y;simp only[Sf.Outp.cells]at hg2;simp only[ZY,Val.badB]at hit;cases hb:bytesLess m2 m
   ·simp only[hb,ZH,ZX,Yc,Z9,YF,Zaa,if_true]at hit;refine aza (ai t1 (ai ta (ai tb (ai tc (ai e1 (ai h0 (ai ej (ai hg2 (ai hi' (ai hi0 hb)))))))))) ?_;exact⟨_,le_refl _,by rw[fj2,<-hit];rfl⟩
   ·simp only[hb,ZH,ZX,Yc,Z9,YF,Zaf,Zn,if_false]at hit;refine aza (ai t1 (ai ta (ai tb (ai tc (ai e1 (ai h0 (ai ej (ai hg2 (ai hi' (ai hi0 (ai hb ei))))))))))) ?_;exact⟨os.length-((i+1)+1),by omega,(i+1)+1,l++[.cells 55 [.str m,.int .i64 k,.int .i64 n,.str s,.sl 5 .no (V.cellss is),.sl 1 .no (strsA ks),.bool b]],rfl,by omega,rfl,nx hit,by(exact ev0 t1),by(exact ev0 ta),by(exact ev0 tb),by(exact ev0 ei)⟩
 have hlt:¬((j:Int)<(os.length:Int)):=by omega
 rw[YS (by omega)]at hit;unfold Sf.outsZ at hit;refine aza (ai t1 (ai ta (ai tb (ai tc (ai hlt (ai lm1 (ai lm2 lm3))))))) ?_;exact⟨_,le_refl _,by rw[fj2,<-hit];rfl⟩
end AX
end
section
open Go.RowKit
namespace Adr
theorem mods_names(N:Nat):∀(f:Nat) (r:Rd) (l:List Step),r.rest.length<=N->(∀x∈l,x.name.length<=N)->(∀x∈(modsP f r l).1,x.name.length<=N)/\(modsP f r l).2.rest.length<=N/\(modsP f r l).1.length<=l.length+f
 |0,r,l,hr,hl=>⟨hl,hr,Ze _⟩
 |f+1,r,l,hr,hl=>by
  unfold modsP;split
  ·next hc=>
   have h1:=has_len modW r;have h2:=step_len (hasP modW r).2;have h3:=skip_len [46] (stepP (hasP modW r).2).2;have hn:(stepP (hasP modW r).2).1.name.length<=N:=Zr (word_len (hasP modW r).2).2 (by omega)
   obtain⟨q1,q2,q3⟩:=mods_names N f (skipP [46] (stepP (hasP modW r).2).2) (l++[(stepP (hasP modW r).2).1]) (by omega) (fun x hx=>by
    rcases Yk.1 hx with hx|hx
    ·exact hl x hx
    ·rw[ZJ.1 hx];exact hn)
   exact⟨q1,q2,Zr q3 (by simp only[Za,Yi];omega)⟩
  ·exact⟨hl,hr,by dsimp only;omega⟩
theorem parse_names(s:List UInt8)(h:(parse s).2=0):(∀x∈(parse s).1.mods,x.name.length<=s.length)/\(parse s).1.mods.length<=s.length+1/\(parse s).1.type.length<=s.length/\(parse s).1.name.length<=s.length:=by
 rw[<-parse_eq]at h⊢;obtain⟨q1,q2,q3⟩:=mods_names s.length (s.length+1) ⟨s,false⟩ [] (Ze _) (by simp);unfold parseP at h⊢;dsimp only at h⊢;have l1:=has_len dataW (modsP (s.length+1) ⟨s,false⟩ []).2;have l2:=word_len (hasP dataW (modsP (s.length+1) ⟨s,false⟩ []).2).2;have l3:=skip_len [46] (wordP (hasP dataW (modsP (s.length+1) ⟨s,false⟩ []).2).2).2;have l4:=word_len (skipP [46] (wordP (hasP dataW (modsP (s.length+1) ⟨s,false⟩ []).2).2).2);split at h
 ·simp at h
 ·next h1=>
  rw[if_neg h1];split at h
  ·simp at h
  ·next h2=>
   rw[if_neg h2];dsimp only;exact⟨q1,by simpa using q3,by omega,by omega⟩
end Adr
namespace AX
theorem ckv(s:List UInt8)(hs:s.length<=2000000)(h:Hp):AT 156 [.str s] h (.tup [.str (Adr.static s).1,.int .i64 (Adr.static s).2]):=by
 refine pcall ?_ rfl (by simp[A.pure,A.data]) h;refine azf mixedT cz1 (by simp[ak2]) ?_;dsimp only[ak2];have cp:=fun h=>cj2 s hs h
 have hS:Adr.static s=if(Adr.parse s).2≠0 then([],(Adr.parse s).2)else(Adr.fmt (Adr.bare (Adr.parse s).1),0):=rfl
 have hnm:=Adr.parse_names s;obtain⟨⟨a,e⟩,hp⟩:=Ex (Adr.parse s);rw[hp]at cp hS hnm;dsimp only at cp hS hnm;rw[hS];by_cases he:e=0
 rotate_left
 ·have e1:(e !=0)=true:=by simp[he]
  rw[if_pos he];obtain⟨mods,data,ty,nm,⟨kk,kn,ks⟩⟩:=a;dsimp only[Adr.Ad.cells]at cp;refine aza ti ?_;refine use (cp _) ?_;refine aza e1 ?_;exact Fn rfl
 have e1:(e !=0)=false:=by simp[he]
 rw[if_neg (by simp[he])];obtain⟨n1,n2,n3,n4⟩:=hnm he;have cs:=fun h=>cjv a (by omega) h
 have cf:=fun h=>cz3 (Adr.bare a) ⟨by unfold Adr.bare;dsimp only;rw[Zh];omega,fun x hx=>by
   unfold Adr.bare at hx;obtain⟨y,hy,rfl⟩:=ZW.1 hx;have:=n1 y hy
   exact⟨Zr this hs,by simp[Adr.K.none]⟩,by unfold Adr.bare;dsimp only;omega,by unfold Adr.bare;dsimp only;omega,by unfold Adr.bare Adr.K.none;simp⟩
  (fun x hx=>by
   unfold Adr.bare at hx;obtain⟨y,hy,rfl⟩:=ZW.1 hx
   rfl) rfl h
 have hbc:(Adr.bare a).cells=[.sl 4 .no ((a.mods.map fun s=>(⟨s.name,Adr.K.none⟩:Adr.Step)).map Adr.Step.cells),.bool a.data,.str a.type,.str a.name,.int .i64 0,.int .i64 0,.str []]:=rfl;rw[hbc]at cs cf;obtain⟨F,hF⟩:=Ex (Adr.fmt (Adr.bare a));rw[hF]at cf⊢;clear hS n1 n2 n3 n4 hnm hp hbc;obtain⟨mods,data,ty,nm,⟨kk,kn,ks⟩⟩:=a;dsimp only[Adr.Ad.cells]at cp cs cf;refine aza ti ?_;refine use (cp _) ?_;refine aza e1 ?_;refine use (cs _) ?_;refine aza ti ?_;refine use (cf _) ?_;refine aza ti ?_;exact Fn rfl
theorem leafs:Leafs where
 parse:=cj2
 static:=ckv
 ident:=fun s hs h=>ajy s (Zr hs (by decide)) h
 num:=a_numParse
 cmp:=dx0
 known:=fun v hl h=>cy7 v hl h
 text:=fun s hs h=>(dz1 s hs h).mono fun v h' hv=>hv
theorem ax2(st:Sf.St)(ok:Sf.StIn st):SCheck st:=ck4 leafs st ok
end AX
end
section
namespace Wire
theorem zig_zag(u:Nat):zig (zag u)=u:=by
 unfold zig zag;by_cases h:u%2=1
 ·rw[if_pos h,if_pos (by omega)];omega
 ·rw[if_neg h,if_neg (by omega)];omega
theorem grpF_back:∀(f i acc:Nat) (l:List UInt8) (n:Int) (long:Nat),i+f=9->grpF (f+1) i acc l=.ok n long->∃u,(0<i->u≠0)/\n=zag (acc+u*2^(7*i))/\i<long/\l=encF f u++l.drop (long-i)
 |f,i,acc,[],n,long,hi,h=>by simp[grpF]at h
 |0,i,acc,c::r,n,long,hi,h=>by
  simp only[grpF]at h;have hc:=c.toNat_lt;split at h
  ·cases h
  ·next h1=>
   split at h
   ·cases h
   ·next h2=>
    split at h
    ·cases h
    ·next h3=>
     injection h with e1 e2;refine⟨c.toNat,fun hp e=>h3 ⟨hp,YG.1 (by simpa using e)⟩,?_,by omega,?_⟩
     ·rw[<-e1,YM (by omega)]
     ·rw[show long-i=1 by omega];simp[encF]
 |f+1,i,acc,c::r,n,long,hi,h=>by
  have hc:=c.toNat_lt
  have e0:grpF (f+1+1) i acc (c::r)=(if i=9/\1<c.toNat then .err 5
    else if 128<=c.toNat then grpF (f+1) (i+1) (acc+c.toNat%128*2^(7*i)) r
    else if 0<i/\c=0 then .err 1
    else .ok (zag (acc+c.toNat%128*2^(7*i))) (i+1)):=rfl
  rw[e0,if_neg (by omega)]at h;by_cases h2:128<=c.toNat
  ·rw[if_pos h2]at h;obtain⟨u,hu0,hn,hlt,hr⟩:=grpF_back f (i+1) _ r n long (by omega) h;have hu:=hu0 (by omega);have hp:(2:Nat)^(7*(i+1))=128*2^(7*i):=by rw[show 7*(i+1)=7+7*i by omega,Nat.pow_add]
   refine⟨c.toNat%128+128*u,fun _=>by omega,?_,by omega,?_⟩
   ·rw[hn,hp,YB,<-Nat.mul_assoc,Nat.mul_comm u 128,Nat.add_assoc]
   ·unfold encF;rw[if_neg (by omega),show(c.toNat%128+128*u)%128=c.toNat%128 by omega,show(c.toNat%128+128*u)/128=u by omega,show c.toNat%128+128=c.toNat by omega,show long-i=(long-(i+1))+1 by omega,Z4];rw[ZE,<-hr];simp
  ·rw[if_neg h2]at h;split at h
   ·cases h
   ·next h3=>
    injection h with e1 e2;refine⟨c.toNat,fun hp e=>h3 ⟨hp,YG.1 (by simpa using e)⟩,?_,by omega,?_⟩
    ·rw[<-e1,YM (by omega)]
    ·unfold encF;rw[if_pos (by omega),show long-i=1 by omega];simp
theorem grp_back{l:List UInt8}{n:Int}{long:Nat}(h:grp l=.ok n long):l=num n++l.drop long:=by
 obtain⟨u,_,hn,_,hl⟩:=grpF_back 9 0 0 l n long rfl h;unfold num;rw[hn];simp only[Yj,Nat.mul_zero,Nat.pow_zero,Nat.mul_one,zig_zag];exact hl
theorem grpF_err0:∀(f i u:Nat) (l:List UInt8),grpF f i u l≠.err 0
 |0,i,u,l,h=>by simp[grpF]at h
 |f+1,i,u,[],h=>by simp[grpF]at h
 |f+1,i,u,c::r,h=>by
  simp only[grpF]at h;split at h
  ·cases h
  ·split at h
   ·exact grpF_err0 f _ _ r h
   ·split at h<;>cases h
theorem numR_back{r:St}(h:(numR r).1.e=0):r.e=0/\r.rest=num (numR r).2++(numR r).1.rest:=by
 unfold numR at h⊢;by_cases he:r.e=0
 ·refine⟨he,?_⟩;rw[if_neg (by simp[he])]at h⊢;cases hg:grp r.rest with
  |err e=>
   exfalso
   rw[hg]at h;have h':e=0:=h;subst h';unfold grp at hg;exact grpF_err0 _ _ _ _ hg
  |ok n long=>exact grp_back hg
 ·rw[if_pos he]at h;exact absurd h he
theorem cntR_back{r:St}(h:(cntR r 1).1.e=0):r.e=0/\r.rest=num ((cntR r 1).2:Nat)++(cntR r 1).1.rest:=by
 unfold cntR at h⊢;by_cases he:r.e=0
 ·refine⟨he,?_⟩;rw[if_neg (by simp[he])]at h⊢;cases hg:grp r.rest with
  |err e=>
   exfalso
   rw[hg]at h;have h':e=0:=h;subst h';exact grpF_err0 _ _ _ _ hg
  |ok n long=>
   rw[hg]at h;dsimp only at h⊢;split at h
   ·simp at h
   ·next h1=>
    rw[if_neg h1];split at h
    ·simp at h
    ·next h2=>
     rw[if_neg h2];have:=grp_back hg;dsimp only;rw[show((n.toNat:Nat):Int)=n by omega];exact this
 ·rw[if_pos he]at h;exact absurd h he
theorem cntR_fit{r:St}(h:(cntR r 1).1.e=0):(cntR r 1).2<=(cntR r 1).1.rest.length:=by
 unfold cntR at h⊢;by_cases he:r.e=0
 ·rw[if_neg (by simp[he])]at h⊢;cases hg:grp r.rest with
  |err e=>
   rw[hg]at h;have h':e=0:=h;subst h';exact absurd hg (grpF_err0 _ _ _ _)
  |ok n long=>
   rw[hg]at h;dsimp only at h⊢;split at h
   ·simp at h
   ·next h1=>
    rw[if_neg h1];split at h
    ·simp at h
    ·next h2=>
     rw[if_neg h2];rw[Nat.div_one]at h2;dsimp only;rw[ZC];omega
 ·rw[if_pos he]at h;exact absurd h he
theorem strR_back{r:St}(h:(strR r).1.e=0):r.e=0/\r.rest=strE (strR r).2++(strR r).1.rest:=by
 unfold strR at h⊢;dsimp only at h⊢;split at h
 ·next h1=>exact absurd h h1
 ·next h1=>
  rw[if_neg h1];have h2:(cntR r 1).1.e=0:=by simpa using h1
  obtain⟨q1,q2⟩:=cntR_back h2;have q3:=cntR_fit h2;refine⟨q1,?_⟩;dsimp only;unfold strE;rw[Zk,Nat.min_eq_left q3,Zi,Yo];exact q2
end Wire
namespace Val
def Good(one:Wire.St->Res):Prop:=∀r,(one r).2.1=0->r.e=0/\(one r).1.e=0/\r.rest=enc (one r).2.2++(one r).1.rest
theorem encs_cons(m:Bool)(v:V)(l:List V)(ks:List (List UInt8)):encs m (v::l) ks=keyE m ks++(enc v++encs m l ks.tail):=by rw[encs]
theorem encs_false:∀(is:List V) (k1 k2:List (List UInt8)),encs false is k1=encs false is k2
 |[],_,_=>by rw[encs,encs]
 |v::l,k1,k2=>by rw[encs_cons,encs_cons,encs_false l k1.tail k2.tail];simp[keyE]
theorem itemsW_back{one:Wire.St->Res}(hg:Good one)(m:Bool):∀(c:Nat) (r:Wire.St) (is:List V) (ks:List (List UInt8)),(itemsW one m c r is ks).2.1=0 ->
  r.e=0/\(itemsW one m c r is ks).1.e=0/\∃is' ks',(itemsW one m c r is ks).2.2=(is++is',ks++ks')/\is'.length=c/\r.rest=encs m is' ks'++(itemsW one m c r is ks).1.rest
 |0,r,is,ks,h=>by
  unfold itemsW at h⊢;exact⟨h,h,[],[],by simp,rfl,by rw[encs];rfl⟩
 |c+1,r,is,ks,h=>by
  have step:∀(q:Wire.St×List UInt8) (k2:List (List UInt8)),(if(one q.1).2.1≠0 then((one q.1).1,(one q.1).2.1,is,ks)else itemsW one m c (one q.1).1 (is++[(one q.1).2.2]) k2).2.1=0 ->
    ∃(is':List V) (ks':List (List UInt8)),q.1.e=0/\(if(one q.1).2.1≠0 then((one q.1).1,(one q.1).2.1,is,ks)else itemsW one m c (one q.1).1 (is++[(one q.1).2.2]) k2).1.e=0 /\
     (if(one q.1).2.1≠0 then((one q.1).1,(one q.1).2.1,is,ks)else itemsW one m c (one q.1).1 (is++[(one q.1).2.2]) k2).2.2=(is++(one q.1).2.2::is',k2++ks')/\is'.length=c /\
     q.1.rest=enc (one q.1).2.2++(encs m is' ks'++(if(one q.1).2.1≠0 then((one q.1).1,(one q.1).2.1,is,ks)else itemsW one m c (one q.1).1 (is++[(one q.1).2.2]) k2).1.rest):=fun q k2 h=>by
   by_cases h1:(one q.1).2.1=0
   rotate_left
   ·rw[if_pos h1]at h;exact absurd h h1
   rw[if_neg (by simp[h1])]at h⊢;obtain⟨q1,q2,q3⟩:=hg _ h1;obtain⟨p1,p2,is',ks',p3,p4,p5⟩:=itemsW_back hg m c _ _ _ h;exact⟨is',ks',q1,p2,by rw[p3];simp,p4,by rw[<-p5];exact q3⟩
  cases m with
  |false=>
   have e:itemsW one false (c+1) r is ks=(if(one r).2.1≠0 then((one r).1,(one r).2.1,is,ks)else itemsW one false c (one r).1 (is++[(one r).2.2]) ks):=by rw[itemsW];rfl
   rw[e]at h⊢;obtain⟨is',ks',s1,s2,s3,s4,s5⟩:=step (r,[]) ks h;refine⟨s1,s2,_::is',ks',s3,by simp[s4],?_⟩;rw[encs_cons,encs_false is' ks'.tail ks'];simp only[keyE,Zq,Zi];exact s5
  |true=>
   have e:itemsW one true (c+1) r is ks=(if(one (Wire.strR r).1).2.1≠0 then((one (Wire.strR r).1).1,(one (Wire.strR r).1).2.1,is,ks)else itemsW one true c (one (Wire.strR r).1).1 (is++[(one (Wire.strR r).1).2.2]) (ks++[(Wire.strR r).2])):=by rw[itemsW];rfl
   rw[e]at h⊢;obtain⟨is',ks',s1,s2,s3,s4,s5⟩:=step (Wire.strR r) (ks++[(Wire.strR r).2]) h;obtain⟨t1,t2⟩:=Wire.strR_back s1;refine⟨t1,s2,(one (Wire.strR r).1).2.2::is',(Wire.strR r).2::ks',by rw[s3];simp,by simp[s4],?_⟩;rw[encs_cons,t2,s5];simp only[keyE,Zaq,Zi]
theorem readW_back{one:Wire.St->Res}(hg:Good one):Good (readW one):=by
 intro r h;unfold readW at h⊢;by_cases he:r.e=0
 rotate_left
 ·rw[if_pos he]at h;exact absurd h he
 rw[if_neg (by simp[he])]at h⊢;dsimp only at h⊢;by_cases hq:(Wire.numR r).1.e=0
 rotate_left
 ·rw[if_pos hq]at h;exact absurd h hq
 rw[if_neg (by simp[hq])]at h⊢;obtain⟨_,hr⟩:=Wire.numR_back hq;obtain⟨⟨q,k⟩,hk⟩:=Ex (Wire.numR r);rw[hk]at h hq hr⊢;dsimp only at h hq hr⊢;split at h
 ·simp at h
 ·next h1=>
  rw[if_neg h1];split at h
  ·next h2=>
   rw[if_pos h2];obtain⟨n1,n2⟩:=Wire.numR_back h;refine⟨he,h,?_⟩;unfold enc;rw[if_pos h2,Zi,<-n2];exact hr
  ·next h2=>
   rw[if_neg h2];split at h
   ·next h3=>
    rw[if_pos h3];obtain⟨n1,n2⟩:=Wire.strR_back h;refine⟨he,h,?_⟩;unfold enc;rw[if_neg h2,if_pos h3,Zi,<-n2];exact hr
   ·next h3=>
    rw[if_neg h3];split at h
    ·next h4=>
     rw[if_pos h4];obtain⟨p1,p2,is',ks',p3,p4,p5⟩:=itemsW_back hg (k==5) _ _ _ _ h;refine⟨he,p2,?_⟩;rw[Zq,Zq]at p3;dsimp only;rw[p3];dsimp only;unfold enc;rw[if_neg h2,if_neg h3,if_pos h4,Zi,Zi,<-p5,p4,hr];obtain⟨_,c2⟩:=Wire.cntR_back p1;rw[<-c2]
    ·next h4=>
     rw[if_neg h4];refine⟨he,hq,?_⟩;unfold enc;rw[if_neg h2,if_neg h3,if_neg h4,Zz];exact hr
theorem read_back:∀f,Good (read f)
 |0=>fun r h=>by
  exfalso
  unfold read at h;dsimp only at h;split at h
  ·next h1=>exact h1 h
  ·simp at h
 |f+1=>by
  have:read (f+1)=readW (read f):=by funext r;rw[read]
  rw[this];exact readW_back (read_back f)
theorem readValue_back{r:Wire.St}(h:(readValue r).2.1=0):r.e=0/\(readValue r).1.e=0/\r.rest=enc (readValue r).2.2++(readValue r).1.rest:=by
 unfold readValue at h⊢;dsimp only at h⊢;split at h
 ·next h1=>exact absurd h h1
 ·next h1=>
  rw[if_neg h1];split at h
  ·next h2=>exact absurd h h2
  ·next h2=>
   rw[if_neg h2];exact read_back 32 r h
end Val
namespace Sf
theorem fails_iff(s:Rs):s.fails=false↔s.bad=false/\s.r.e=0:=by
 unfold Rs.fails;rw[Yv,bne_eq_false_iff_eq]
def Took(s s':Rs)(l:List UInt8):Prop:=s.fails=false/\s.r.rest=l++s'.r.rest
theorem Took.trans{a b c:Rs}{l m:List UInt8}(h:Took a b l)(k:Took b c m):Took a c (l++m):=⟨h.1,by rw[h.2,k.2,Zi]⟩
theorem num_took{s:Rs}(h:(numS s).1.fails=false):Took s (numS s).1 (Wire.num (numS s).2):=by
 obtain⟨h1,h2⟩:=(fails_iff _).1 h;obtain⟨q1,q2⟩:=Wire.numR_back h2;exact⟨(fails_iff _).2 ⟨h1,q1⟩,q2⟩
theorem str_took{s:Rs}(h:(strS s).1.fails=false):Took s (strS s).1 (Wire.strE (strS s).2):=by
 obtain⟨h1,h2⟩:=(fails_iff _).1 h;obtain⟨q1,q2⟩:=Wire.strR_back h2;exact⟨(fails_iff _).2 ⟨h1,q1⟩,q2⟩
theorem cnt_took{s:Rs}(h:(cntS s).1.fails=false):Took s (cntS s).1 (Wire.num ((cntS s).2:Nat)):=by
 obtain⟨h1,h2⟩:=(fails_iff _).1 h;obtain⟨q1,q2⟩:=Wire.cntR_back h2;exact⟨(fails_iff _).2 ⟨h1,q1⟩,q2⟩
theorem flag_took{s:Rs}(h:(flagS s).1.fails=false):Took s (flagS s).1 (flagE (flagS s).2):=by
 obtain⟨h1,h2⟩:=(fails_iff _).1 h;obtain⟨q1,q2⟩:=Wire.numR_back h2;have h1':(s.bad||((Wire.numR s.r).2 !=0&&(Wire.numR s.r).2 !=1))=false:=h1;rw[Yv]at h1';refine⟨(fails_iff _).2 ⟨h1'.1,q1⟩,?_⟩;have e:flagE (flagS s).2=Wire.num (Wire.numR s.r).2:=by
  show Wire.num (if((Wire.numR s.r).2==1)=true then 1 else 0)=_
  have h3:=h1'.2;rw[Zal,bne_eq_false_iff_eq,bne_eq_false_iff_eq]at h3;rcases h3 with h3|h3<;>rw[h3]<;>rfl
 rw[e];exact q2
theorem value_took{s:Rs}(h:(valueS s).1.fails=false):Took s (valueS s).1 (Val.enc (valueS s).2):=by
 obtain⟨h1,h2⟩:=(fails_iff _).1 h;have h1':(s.bad||(Val.readValue s.r).2.1 !=0)=false:=h1;rw[Yv,bne_eq_false_iff_eq]at h1';obtain⟨q1,q2,q3⟩:=Val.readValue_back h1'.2;exact⟨(fails_iff _).2 ⟨h1'.1,q1⟩,q3⟩
theorem words_took:∀(c:Nat) (s:Rs) (l:List (List UInt8)),(wordsS c s l).1.fails=false->∃l',(wordsS c s l).2=l++l'/\l'.length=c/\Took s (wordsS c s l).1 (wordsE l')
 |0,s,l,h=>⟨[],by simp[wordsS],rfl,h,rfl⟩
 |c+1,s,l,h=>by
  unfold wordsS at h⊢;obtain⟨l',h1,h2,h3⟩:=words_took c _ _ h;exact⟨(strS s).2::l',by rw[h1];simp,by simp[h2],(str_took h3.1).trans h3⟩
theorem inst_took{ver:Int}{s:Rs}(h:(instS ver s).1.fails=false):Took s (instS ver s).1 (instE ver (instS ver s).2):=by
 unfold instS at h⊢;dsimp only at h⊢;obtain⟨ws,w1,w2,w3⟩:=words_took _ _ _ h;have k:=cnt_took w3.1;have f:Took (flagS (numS (valueS (strS (strS (strS (strS s).1).1).1).1).1).1).1 (if ver=2 then flagS (flagS (numS (valueS (strS (strS (strS (strS s).1).1).1).1).1).1).1 else((flagS (numS (valueS (strS (strS (strS (strS s).1).1).1).1).1).1).1,false)).1 (if ver=2 then flagE (if ver=2 then flagS (flagS (numS (valueS (strS (strS (strS (strS s).1).1).1).1).1).1).1 else((flagS (numS (valueS (strS (strS (strS (strS s).1).1).1).1).1).1).1,false)).2 else[]):=by
  have:=k.1;by_cases hv:ver=2
  ·simp only[if_pos hv]at this⊢;exact flag_took this
  ·simp only[if_neg hv]at this⊢;exact⟨this,rfl⟩
 have t:=flag_took f.1;have n:=num_took t.1;have v:=value_took n.1;have d:=str_took v.1;have c:=str_took d.1;have b:=str_took c.1;have a:=str_took b.1;have all:=((((((((a.trans b).trans c).trans d).trans v).trans n).trans t).trans f).trans k).trans w3;unfold instE;dsimp only;rw[Zq]at w1;rw[w1,w2];exact all
theorem pend_took{s:Rs}(h:(pendS s).1.fails=false):Took s (pendS s).1 (pendE (pendS s).2):=by
 unfold pendS at h⊢;dsimp only at h⊢;have c:=str_took h;have b:=str_took c.1;have a:=str_took b.1;exact(a.trans b).trans c
theorem out_took{s:Rs}(h:(outS s).1.fails=false):Took s (outS s).1 (outE (outS s).2):=by
 unfold outS at h⊢;dsimp only at h⊢;have c:=flag_took h;have b:=value_took c.1;have a:=str_took b.1;exact(a.trans b).trans c
theorem insts_took{ver:Int}:∀(c:Nat) (s:Rs) (l:List Inst),(instsS ver c s l).1.fails=false->∃l',(instsS ver c s l).2=(l++l',true)/\l'.length=c/\Took s (instsS ver c s l).1 (l'.flatMap (instE ver))
 |0,s,l,h=>⟨[],by simp[instsS],rfl,h,rfl⟩
 |c+1,s,l,h=>by
  unfold instsS at h⊢;by_cases hf:s.fails=true
  ·rw[if_pos hf]at h;rw[hf]at h;cases h
  ·rw[if_neg hf]at h⊢;obtain⟨l',h1,h2,h3⟩:=insts_took c _ _ h;exact⟨(instS ver s).2::l',by rw[h1];simp,by simp[h2],by rw[YP];exact(inst_took h3.1).trans h3⟩
theorem pends_took:∀(c:Nat) (s:Rs) (l:List Pend),(pendsS c s l).1.fails=false->∃l',(pendsS c s l).2=l++l'/\l'.length=c/\Took s (pendsS c s l).1 (l'.flatMap pendE)
 |0,s,l,h=>⟨[],by simp[pendsS],rfl,h,rfl⟩
 |c+1,s,l,h=>by
  unfold pendsS at h⊢;obtain⟨l',h1,h2,h3⟩:=pends_took c _ _ h;exact⟨(pendS s).2::l',by rw[h1];simp,by simp[h2],by rw[YP];exact(pend_took h3.1).trans h3⟩
theorem outs_took:∀(c:Nat) (s:Rs) (l:List Outp),(outsS c s l).1.fails=false->∃l',(outsS c s l).2=(l++l',true)/\l'.length=c/\Took s (outsS c s l).1 (l'.flatMap outE)
 |0,s,l,h=>⟨[],by simp[outsS],rfl,h,rfl⟩
 |c+1,s,l,h=>by
  unfold outsS at h⊢;by_cases hf:s.fails=true
  ·rw[if_pos hf]at h;rw[hf]at h;cases h
  ·rw[if_neg hf]at h⊢;obtain⟨l',h1,h2,h3⟩:=outs_took c _ _ h;exact⟨(outS s).2::l',by rw[h1];simp,by simp[h2],by rw[YP];exact(out_took h3.1).trans h3⟩
def restE(ver:Int)(s:St):List UInt8:=
 Wire.strE s.lin++Wire.num s.ser++Wire.num s.insts.length++s.insts.flatMap (instE ver)++(if ver=2 then Wire.num s.pends.length++s.pends.flatMap pendE else[])++Wire.num s.outs.length++s.outs.flatMap outE
theorem stE_rest(ver:Int)(s:St):stE ver s=magic++Wire.num ver++restE ver s:=by
 unfold stE restE;simp only[Zi]
theorem state_took{ver:Int}{s:Rs}(h:(stateS ver s).1.fails=false):Took s (stateS ver s).1 (restE ver (stateS ver s).2):=by
 unfold stateS at h⊢;dsimp only at h⊢;obtain⟨A,hA⟩:=Ex (strS s);obtain⟨N,hN⟩:=Ex (numS A.1);obtain⟨CI,hCI⟩:=Ex (cntS N.1);obtain⟨I,hI⟩:=Ex (instsS ver CI.2 CI.1 []);rw[hA,hN,hCI,hI]at h⊢;have front:I.1.fails=false->I.2.2=true/\Took s I.1 (Wire.strE A.2++Wire.num N.2++Wire.num I.2.1.length++I.2.1.flatMap (instE ver)):=fun hi=>by
  obtain⟨is,i1,i2,i3⟩:=insts_took CI.2 CI.1 [] (by rw[hI];exact hi);rw[hI,Zq]at i1;rw[hI]at i3;have c:=cnt_took (s:=N.1) (by rw[hCI];exact i3.1);have n:=num_took (s:=A.1) (by rw[hN];exact c.1);have a:=str_took (s:=s) (by rw[hA];exact n.1);rw[hCI]at c;rw[hN]at n;rw[hA]at a;rw[i1];refine⟨rfl,?_⟩;dsimp only;rw[i2];exact((a.trans n).trans c).trans i3
 cases hb:I.2.2
 ·rw[hb,if_pos rfl]at h;have:=(front h).1;rw[hb]at this;cases this
 ·rw[hb,if_neg (by decide)]at h;rw[if_neg (by decide)];dsimp only at h⊢;obtain⟨P,hP⟩:=Ex ((if ver=2 then pendsS (cntS I.1).2 (cntS I.1).1 []else(I.1,[])));rw[hP]at h⊢;obtain⟨os,o1,o2,o3⟩:=outs_took _ _ _ h;rw[Zq]at o1;have c:=cnt_took (s:=P.1) o3.1;have mid:Took I.1 P.1 (if ver=2 then Wire.num P.2.length++P.2.flatMap pendE else[]):=by
   by_cases hv:ver=2
   ·rw[if_pos hv]at hP⊢;obtain⟨ps,p1,p2,p3⟩:=pends_took (cntS I.1).2 (cntS I.1).1 [] (by rw[hP];exact c.1);rw[hP,Zq]at p1;rw[hP]at p3;rw[p1,p2];exact(cnt_took p3.1).trans p3
   ·rw[if_neg hv]at hP⊢;subst hP;exact⟨c.1,rfl⟩
  obtain⟨_,fr⟩:=front mid.1;have all:=((fr.trans mid).trans c).trans o3;unfold restE;dsimp only;rw[o1];dsimp only;rw[o2];exact all
end Sf
end
section
open Go.RowKit
namespace Sf
theorem strS_len(s:Rs):(strS s).2.length<=s.r.rest.length:=by
 unfold strS Wire.strR;dsimp only;split
 ·exact ZB _
 ·dsimp only;rw[Zk];have:=Wire.cntR_rest s.r 1;omega
theorem words_in(N:Nat):∀(c:Nat) (s:Rs) (l:List (List UInt8)),s.r.rest.length<=N->(∀x∈l,x.length<=N)->(∀x∈(wordsS c s l).2,x.length<=N)/\(wordsS c s l).2.length=l.length+c
 |0,s,l,hs,hl=>⟨hl,rfl⟩
 |c+1,s,l,hs,hl=>by
  unfold wordsS
  obtain⟨h1,h2⟩:=words_in N c (strS s).1 (l++[(strS s).2]) (Zr (strS_le s) hs) (fun x hx=>by
   rcases Yk.1 hx with hx|hx
   ·exact hl x hx
   ·rw[ZJ.1 hx];exact Zr (strS_len s) hs)
  refine⟨h1,?_⟩;rw[h2,Za,Yi];omega
theorem value_lens(s:Rs)(hs:s.r.rest.length<=100000000):(valueS s).2.lens:=AX.ays s.r hs
theorem inst_in(ver:Int)(s:Rs)(hs:s.r.rest.length<=2000000):AX.Sf.InstIn (instS ver s).2:=by
 have e1:=strS_le s;have e2:=strS_le (strS s).1;have e3:=strS_le (strS (strS s).1).1;have e4:=strS_le (strS (strS (strS s).1).1).1;have e5:=valueS_le (strS (strS (strS (strS s).1).1).1).1;have e6:=numS_le (valueS (strS (strS (strS (strS s).1).1).1).1).1;have e7:=flagS_le (numS (valueS (strS (strS (strS (strS s).1).1).1).1).1).1;have l1:=strS_len s;have l2:=strS_len (strS s).1;have l3:=strS_len (strS (strS s).1).1;have v:=value_lens (strS (strS (strS (strS s).1).1).1).1 (by omega);unfold instS;dsimp only;generalize hF:(if ver=2 then flagS (flagS (numS (valueS (strS (strS (strS (strS s).1).1).1).1).1).1).1 else((flagS (numS (valueS (strS (strS (strS (strS s).1).1).1).1).1).1).1,false))=F;have e8:F.1.r.rest.length<=2000000:=by
  rw[<-hF];split
  ·have:=flagS_le (flagS (numS (valueS (strS (strS (strS (strS s).1).1).1).1).1).1).1;omega
  ·dsimp only;omega
 have e9:=cntS_le F.1;have e10:=cntS_cnt F.1;obtain⟨w1,w2⟩:=words_in 2000000 (cntS F.1).2 (cntS F.1).1 [] (by omega) (by simp);refine⟨by dsimp only;omega,by dsimp only;omega,by dsimp only;omega,v,?_,w1⟩;show(wordsS (cntS F.1).2 (cntS F.1).1 []).2.length<=1000000000
 rw[w2,Zo];omega
theorem insts_in(ver:Int):∀(c:Nat) (s:Rs) (l:List Inst),s.r.rest.length<=2000000->(∀x∈l,AX.Sf.InstIn x)->(∀x∈(instsS ver c s l).2.1,AX.Sf.InstIn x)/\(instsS ver c s l).2.1.length<=l.length+c/\(instsS ver c s l).1.r.rest.length<=s.r.rest.length
 |0,s,l,hs,hl=>⟨hl,Ze _,Ze _⟩
 |c+1,s,l,hs,hl=>by
  unfold instsS;split
  ·exact⟨hl,by dsimp only;omega,Ze _⟩
  ·have h0:=instS_le ver s
   obtain⟨h1,h2,h3⟩:=insts_in ver c (instS ver s).1 (l++[(instS ver s).2]) (by omega) (fun x hx=>by
    rcases Yk.1 hx with hx|hx
    ·exact hl x hx
    ·rw[ZJ.1 hx];exact inst_in ver s hs)
   refine⟨h1,?_,Zr h3 h0⟩;rw[Za,Yi]at h2;omega
theorem pendS_le(s:Rs):(pendS s).1.r.rest.length<=s.r.rest.length:=Zr (strS_le _) (Zr (strS_le _) (strS_le _))
theorem pends_in:∀(c:Nat) (s:Rs) (l:List Pend),s.r.rest.length<=2000000->(∀x∈l,x.addr.length<=2000000/\x.tok.length<=2000000)->(∀x∈(pendsS c s l).2,x.addr.length<=2000000/\x.tok.length<=2000000)/\(pendsS c s l).2.length=l.length+c/\(pendsS c s l).1.r.rest.length<=s.r.rest.length
 |0,s,l,hs,hl=>⟨hl,rfl,Ze _⟩
 |c+1,s,l,hs,hl=>by
  unfold pendsS;have h0:=pendS_le s;have k1:=strS_len s;have k2:=strS_len (strS (strS s).1).1;have k3:=strS_le s;have k4:=strS_le (strS s).1
  obtain⟨h1,h2,h3⟩:=pends_in c (pendS s).1 (l++[(pendS s).2]) (by omega) (fun x hx=>by
   rcases Yk.1 hx with hx|hx
   ·exact hl x hx
   ·rw[ZJ.1 hx];unfold pendS;dsimp only
    exact⟨by omega,by omega⟩)
  refine⟨h1,?_,Zr h3 h0⟩;rw[h2,Za,Yi];omega
theorem outS_le(s:Rs):(outS s).1.r.rest.length<=s.r.rest.length:=Zr (flagS_le _) (Zr (valueS_le _) (strS_le _))
theorem outs_in:∀(c:Nat) (s:Rs) (l:List Outp),s.r.rest.length<=2000000->(∀x∈l,x.name.length<=2000000/\x.value.lens)->(∀x∈(outsS c s l).2.1,x.name.length<=2000000/\x.value.lens)/\(outsS c s l).2.1.length<=l.length+c
 |0,s,l,hs,hl=>⟨hl,Ze _⟩
 |c+1,s,l,hs,hl=>by
  unfold outsS;split
  ·exact⟨hl,by dsimp only;omega⟩
  ·have h0:=outS_le s;have k1:=strS_len s;have k3:=strS_le s
   obtain⟨h1,h2⟩:=outs_in c (outS s).1 (l++[(outS s).2]) (by omega) (fun x hx=>by
    rcases Yk.1 hx with hx|hx
    ·exact hl x hx
    ·rw[ZJ.1 hx];unfold outS;dsimp only
     exact⟨by omega,value_lens _ (by omega)⟩)
   refine⟨h1,?_⟩;rw[Za,Yi]at h2;omega
theorem state_in(ver:Int)(s:Rs)(hs:s.r.rest.length<=2000000):AX.Sf.StIn (stateS ver s).2:=by
 have e1:=strS_le s;have e2:=numS_le (strS s).1;have e3:=cntS_le (numS (strS s).1).1;have e4:=cntS_cnt (numS (strS s).1).1;have l1:=strS_len s;obtain⟨i1,i2,i3⟩:=insts_in ver (cntS (numS (strS s).1).1).2 (cntS (numS (strS s).1).1).1 [] (by omega) (by simp);unfold stateS;dsimp only;generalize instsS ver (cntS (numS (strS s).1).1).2 (cntS (numS (strS s).1).1).1 []=I at i1 i2 i3;rw[Zo]at i2;split
 ·exact⟨by dsimp only;omega,i1,by simp,by simp,by dsimp only;omega,by simp,by simp⟩
 ·have hP:∃P:Rs×List Pend,(if ver=2 then pendsS (cntS I.1).2 (cntS I.1).1 []else(I.1,[]))=P/\P.1.r.rest.length<=2000000/\(∀x∈P.2,x.addr.length<=2000000/\x.tok.length<=2000000)/\P.2.length<=2000000:=by
   have c1:=cntS_le I.1;have c2:=cntS_cnt I.1;by_cases hv:ver=2
   ·rw[if_pos hv];obtain⟨p1,p2,p3⟩:=pends_in (cntS I.1).2 (cntS I.1).1 [] (by omega) (by simp);exact⟨_,rfl,by omega,p1,by rw[p2,Zo];omega⟩
   ·rw[if_neg hv];exact⟨_,rfl,by dsimp only;omega,by simp,by simp⟩
  obtain⟨P,hP,p1,p2,p3⟩:=hP;rw[hP];have c1:=cntS_le P.1;have c2:=cntS_cnt P.1;obtain⟨o1,o2⟩:=outs_in (cntS P.1).2 (cntS P.1).1 [] (by omega) (by simp);rw[Zo]at o2;exact⟨by dsimp only;omega,i1,p2,o1,by dsimp only;omega,by dsimp only;omega,by dsimp only;omega⟩
theorem insts_zero:∀(l:List Inst) (p:Option Inst),instsZ p l=0->∀x∈l,instZ x=0
 |[],_,_=>by simp
 |x::l,p,h=>by
  unfold instsZ at h;by_cases h1:instZ x=0
  rotate_left
  ·rw[if_pos h1]at h;exact absurd h h1
  ·rw[if_neg (by simp[h1])]at h;have h':instsZ (some x) l=0:=by
    cases p with
    |none=>simpa using h
    |some y=>
     dsimp only at h;cases hb:behind y x
     ·simp[hb]at h
     ·simpa [hb]using h
   ·intro y hy;rcases ZL.1 hy with rfl|hy
    ·exact h1
    ·exact insts_zero l _ h' y hy
theorem outs_zero:∀(l:List Outp) (p:Option (List UInt8)),outsZ p l=0->∀x∈l,outZ x=0
 |[],_,_=>by simp
 |x::l,p,h=>by
  unfold outsZ at h;split at h
  ·next h1=>exact absurd h h1
  ·next h1=>
   split at h
   ·simp at h
   ·intro y hy;rcases ZL.1 hy with rfl|hy
    ·simpa using h1
    ·exact outs_zero l _ h y hy
theorem inst_zero{x:Inst}(h:instZ x=0):Val.checkZ x.attrs=0/\1<=x.ver/\x.ver<=9007199254740992:=by
 unfold instZ at h;split at h
 ·simp at h
 ·split at h
  ·next h1=>exact absurd h h1
  ·next h1=>
   split at h
   ·simp at h
   ·split at h
    ·simp at h
    ·split at h
     ·simp at h
     ·next h2=>exact⟨by simpa using h1,by omega,by omega⟩
theorem out_zero{x:Outp}(h:outZ x=0):Val.checkZ x.value=0:=by
 unfold outZ at h;split at h
 ·simp at h
 ·split at h
  ·next h1=>exact absurd h h1
  ·next h1=>simpa using h1
theorem check_parts{s:St}(h:checkZ s=0):0<=s.ser/\s.ser<=9007199254740992/\s.insts.length<=512/\s.pends.length<=512/\s.outs.length<=512/\instsZ none s.insts=0/\pendsZ none s.pends=0/\outsZ none s.outs=0:=by
 unfold checkZ at h;split at h
 ·simp at h
 ·split at h
  ·simp at h
  ·split at h
   ·simp at h
   ·split at h
    ·next h1=>exact absurd h h1
    ·split at h
     ·next h1=>exact absurd h h1
     ·next h1 h2 h3 h4 h5=>exact⟨by omega,by omega,by omega,by omega,by omega,by simpa using h4,by simpa using h5,h⟩
theorem stOk_of{s:St}(h:checkZ s=0)(hin:AX.Sf.StIn s):AX.Sf.StOk s:=by
 obtain⟨h1,h2,h3,h4,h5,h6,h7,h8⟩:=check_parts h;refine⟨fun x hx=>?_,fun x hx=>?_,by omega,by omega,by omega,by omega,by omega⟩
 ·obtain⟨k1,k2,k3⟩:=inst_zero (insts_zero _ _ h6 x hx);exact⟨⟨1,0,k1⟩,(hin.insts x hx).l,by omega,by omega⟩
 ·exact⟨⟨1,0,out_zero (outs_zero _ _ h8 x hx)⟩,(hin.outs x hx).2⟩
theorem decode_back{b:List UInt8}{st:St}(h:decode b=(st,0)):∃ver,(ver=1\/ver=2)/\AX.versionS b=(ver,0)/\checkZ st=0/\encode ver st=(b,0)/\(stE ver st).length<=b.length/\(ver=1->st.pends=[])/\∃s:Rs,s.r.rest.length<=b.length/\st=(stateS ver s).2:=by
 unfold decode at h;by_cases h1:1048576<b.length
 ·rw[if_pos h1]at h;simp at h
 rw[if_neg h1]at h;by_cases h2:AX.preB b=false
 ·rw[if_pos h2]at h;simp at h
 rw[if_neg h2]at h;by_cases h3:(Crc.ver b).2=0
 rotate_left
 ·rw[if_pos h3]at h;simp at h
 rw[if_neg (by simp[h3])]at h;obtain⟨⟨body,e⟩,hb⟩:=Ex (Crc.ver b);rw[hb]at h h3;dsimp only at h h3;subst h3;have happ:=Seal.app_ver b body hb;by_cases h4:(AX.versionS body).2=0
 rotate_left
 ·rw[if_pos h4]at h;injection h with _ h;exact absurd h h4
 rw[if_neg (by simp[h4])]at h;have h12:=AX.awf h4;obtain⟨⟨ver,e⟩,hv⟩:=Ex (AX.versionS body);rw[hv]at h h4 h12;dsimp only at h h4 h12;subst h4;generalize hr:stateS ver ⟨(Wire.numR ⟨body.drop 4,0⟩).1,false⟩=r at h;cases hx:(r.1.fails||decide (0<r.1.r.rest.length)||checkZ r.2 !=0);rotate_left
 ·rw[hx,if_pos rfl]at h;simp at h
 rw[hx,if_neg (by decide)]at h;injection h with h5 _;rw[Yv,Yv,bne_eq_false_iff_eq,Y5]at hx;obtain⟨⟨x1,x2⟩,x3⟩:=hx;have took:=state_took (ver:=ver) (s:=⟨(Wire.numR ⟨body.drop 4,0⟩).1,false⟩) (by rw[hr];exact x1);rw[hr]at took;have hrest:r.1.r.rest=[]:=ZN (by omega);have t2:(Wire.numR ⟨body.drop 4,0⟩).1.rest=restE ver r.2:=by
  have:=took.2;rw[hrest,Zz]at this;exact this
 have hpre:AX.preB body=true/\(Wire.numR ⟨body.drop 4,0⟩).1.e=0/\(Wire.numR ⟨body.drop 4,0⟩).2=ver:=by
  unfold AX.versionS at hv;dsimp only at hv;split at hv
  ·simp at hv
  ·next q1=>
   split at hv
   ·simp at hv
   ·next q2=>
    split at hv
    ·simp at hv
    ·injection hv with hv _;exact⟨by simpa using q1,by simpa using q2,hv⟩
 obtain⟨g1,g2,g3⟩:=hpre;obtain⟨_,g4⟩:=Wire.numR_back g2;rw[g3,t2]at g4;have hmag:body.take 4=magic:=by
  unfold AX.preB at g1;rw[Zg,ZT]at g1;exact g1.2
 have hbody:body=stE ver r.2:=by
  rw[stE_rest,Zi,<-g4,<-hmag,Yo]
 subst h5;have hlen:b.length=body.length+4:=by
  rw[happ];unfold Crc.app;rw[Za,Crc.four_length]
 have hnum:∀l:List UInt8,Wire.numR ⟨Wire.num ver++l,0⟩=(⟨l,0⟩,ver):=fun l=>by
  unfold Wire.numR;rw[if_neg (by simp),Wire.grp_num ver l (by omega) (by omega)];dsimp only;rw[List.drop_left]
 refine⟨ver,h12,?_,x3,?_,by rw[<-hbody];omega,?_,_,?_,by rw[hr]⟩
 ·have hb4:b.drop 4=Wire.num ver++(restE ver r.2++Crc.four (Crc.upd 0 body)):=by
   rw[happ];unfold Crc.app;have h4:4<=body.length:=by
    have:=congrArg List.length hmag;rw[Zk]at this;simp only[magic,Zf,Zo]at this;omega
   rw[List.drop_append_of_le_length h4];rw[show body.drop 4=Wire.num ver++restE ver r.2 from g4,Zi]
  unfold AX.versionS;rw[if_neg h2];dsimp only;rw[hb4,hnum];dsimp only;rw[if_neg (by simp),if_neg (by omega)]
 ·unfold encode;rw[if_neg (by simp[x3]),<-hbody,if_neg (by omega),<-happ]
 ·intro h1v;rw[<-hr];unfold stateS;dsimp only;split
  ·rfl
  ·rw[if_neg (by omega)]
 ·have:=Wire.numR_rest ⟨body.drop 4,0⟩;dsimp only at this⊢;rw[ZC]at this;omega
end Sf
end
section
open Go.RowKit
namespace AX
theorem dj7{x y z:A}{v u r:Value}(h:∀C c,Rep C x c->c=v)(h':∀C c,Rep C y c->c=u)(h'':∀C c,Rep C z c->c=r):∀C cs,RepL C [x,y,z] cs->cs=[v,u,r]:=fun C cs hr=>by
 obtain⟨c,cs',rfl,h1,h2⟩:=repL_cons.1 hr;rw[cza h' h'' C cs' h2,h C c h1]
theorem Sf.encode_len(ver:Int)(st:Sf.St):(Sf.encode ver st).1.length<=1048576:=by
 unfold Sf.encode;split
 ·simp
 ·split
  ·simp
  ·next h=>show(Crc.app _).length<=_;simp[Crc.app,Crc.four];omega
theorem awd(k:List UInt8)(hk:k.length<=1000000000)(h:Hp):AT 53 [.str k] h (.int .i64 (Seal.check k)):=
 azu (aj3 axh) (fun w hg=>(check_any ⟨k.toArray⟩ w (by rw[size_mk];exact hk)).mono fun e w' ⟨h1,h2⟩=>⟨h1,by rw[h2];exact Below.refl _ _⟩) (fun C=>rep_int.2 rfl) h
theorem dxo(k:List UInt8)(n:Int)(p:List UInt8)(hk:k.length<=1000000000)(hn:Seal.U64 n)(hp:p.length<=1048576)(h:Hp):AT 81 [.str k,.int .u64 n,.str p] h (.tup [.str (Seal.enc k n p).1,.int .i64 (Seal.enc k n p).2]):=
 azu (dj7 axh by1 axh) (fun w hg=>dqr ⟨k.toArray⟩ n ⟨p.toArray⟩ w (by rw[size_mk];exact hk) hn (by rw[size_mk];exact hp)) (fun C=>rep_tup.2 ⟨_,rfl,repL_cons.2 ⟨_,_,rfl,rep_str.2 rfl,repL_cons.2 ⟨_,_,rfl,rep_int.2 rfl,azp.2 rfl⟩⟩⟩) h
theorem dx8(k p:List UInt8)(hk:k.length<=1000000000)(hp:p.length<=1048600)(h:Hp):AT 84 [.str k,.str p] h (.tup [.str (Seal.dec k p).1,.int .i64 (Seal.dec k p).2]):=
 azu (cza axh axh) (fun w hg=>dze ⟨k.toArray⟩ ⟨p.toArray⟩ w (by rw[size_mk];exact hk) (by rw[size_mk];exact hp)) (fun C=>rep_tup.2 ⟨_,rfl,repL_cons.2 ⟨_,_,rfl,rep_str.2 rfl,repL_cons.2 ⟨_,_,rfl,rep_int.2 rfl,azp.2 rfl⟩⟩⟩) h
theorem bk8(n:Int):Seal.U64 (IntKind.u64.wrap n):=by
 rw[IntKind.wrap_u64];exact⟨Int.emod_nonneg _ (by decide),Int.emod_lt_of_pos _ (by decide)⟩
def bqf:AX.AFn:=⟨27,aS [aR 4 (.mv (.c (.str []))),aR 5 (.mv (aI 0))] (aS [aM 9 0,aR 10 (.nilck (.t 9)),aF 11 3 10,aL 12 11,aM 13 1,aR 14 (.mget (.str []) true (.t 12) (.t 13)),aM 8 14,aE 15 8 0,aE 16 8 1,aM 6 15,aM 7 16] (.seq (aS [aM 17 7,aR 18 (.un .not (.t 17))] (.cond (.t 18) (aS [aR 4 (.mv (.c (.str []))),aR 5 (.mv (aI 9))] (.ret)) (.skip))) (aS [aM 19 0,aR 20 (.nilck (.t 19)),aF 21 0 20,aL 22 21,aM 23 6,aR 24 (.call 84 [.t 22,.t 23]),aE 25 24 0,aE 26 24 1,aM 4 25,aM 5 26] (.ret)))),[.t 4,.t 5]⟩
theorem ckl:AX.compFn Tryz.prog 62=some bqf:=by kernel_rfl
def bkd:AX.AFn:=⟨16,aS [aR 2 (.alloc 42 [.str [],.int .i64 0,.sl 0 .nil [],.sl 0 .nil [],.sl 0 .nil []]),aR 3 (.mv (aI 0))] (.seq (aS [aM 4 0,aR 5 (.call 38 [.t 4]),aR 6 (.un .not (.t 5))] (.cond (.t 6) (aS [aR 7 (.build [.str [],.int .i64 0,.sl 0 .nil [],.sl 0 .nil [],.sl 0 .nil []] []),aU (.store 5 (.t 2) (.t 7)),aR 3 (.mv (aI 38))] (.ret)) (.skip))) (aS [aM 8 0,aM 9 0,aR 10 (.nilck (.t 9)),aF 11 2 10,aL 12 11,aR 13 (.call 39 [.t 8,.t 12]),aE 14 13 0,aE 15 13 1,aU (.store 5 (.t 2) (.t 14)),aM 3 15] (.ret))),[.c 2 true 5,.t 3]⟩
theorem dzr:AX.compFn Tryz.prog 15=some bkd:=by kernel_rfl
section
variable (s:Sto) (l:List Blk) (t:List (TypeId×Nat×Nat))
theorem cxt(st:Sf.St)(hin:Sf.StIn st)(hk:s.key.length<=1000000000)(hE:(Sf.stE 2 st).length+20<=1000000000):AC 55 [.ptr 1 0,st.A] ⟨s.M::s.B::l,t⟩ fun r h'=>r=.int .i64 (s.keep st).2/\h'=⟨(s.keep st).1.M::(s.keep st).1.B::l,t⟩:=by
 refine liftS (s':=(s.keep st).1) ?_ rfl rfl l t;refine fo ?_;have hl:=Sf.encode_len 2 st;have he:=cwc st (ax2 st hin) (fun hz=>⟨Sf.stOk_of hz hin,hE⟩);obtain⟨q,hq⟩:=Ex (s.keep st);rw[hq];unfold Sto.keep at hq;obtain⟨⟨p,e⟩,hp⟩:=Ex (Sf.encode 2 st);rw[hp]at hq he hl;dsimp only at hq he hl;have hs:=fun h=>dxo s.key (IntKind.u64.wrap st.ser) p hk (bk8 _) hl h
 obtain⟨⟨b,e2⟩,hb⟩:=Ex (Seal.enc s.key (IntKind.u64.wrap st.ser) p);rw[hb]at hq hs;dsimp only at hq hs;obtain⟨lin,ser,ins,ps,os⟩:=st;unfold Sf.St.A at he⊢;unfold Sto.B Sto.M;dsimp only at hq hs he⊢;refine aza ti ?_;refine use (he _) ?_;by_cases h1:e=0
 rotate_left
 ·rw[if_pos h1]at hq;subst hq;have e1:(e !=0)=true:=by simp[h1]
  refine aza e1 ?_;exact⟨_,le_refl _,rfl,rfl,rfl⟩
 rw[if_neg (by simp[h1])]at hq;have e1:(e !=0)=false:=by simp[h1]
 refine aza e1 ?_;refine use (hs _) ?_;by_cases h2:e2=0
 rotate_left
 ·rw[if_pos h2]at hq;subst hq;have e3:(e2 !=0)=true:=by simp[h2]
  refine aza e3 ?_;exact⟨_,le_refl _,rfl,rfl,rfl⟩
 rw[if_neg (by simp[h2])]at hq;have e3:(e2 !=0)=false:=by simp[h2]
 subst hq;refine aza (ai e3 (ai bwh bzl)) ?_;exact⟨_,le_refl _,rfl,rfl,rfl⟩
theorem dzd(n:Int)(hk:s.key.length<=1000000000)(hb:∀b,lfind n s.es=some b->b.length<=1048600):AT 62 [.ptr 1 0,.int .i64 n] ⟨s.M::s.B::l,t⟩ (.tup [.str (s.plain n).1,.int .i64 (s.plain n).2]):=by
 refine liftS (s':=s) ?_ rfl rfl l t;refine azf mixedT ckl (by simp[bqf]) ?_;dsimp only[bqf];obtain⟨q,hq⟩:=Ex (s.plain n);rw[hq];unfold Sto.plain at hq;have hf:=bj1 n s.es;cases hF:lfind n s.es with
 |none=>
  rw[hF]at hq hf;dsimp only at hq;subst hq;have hf':mfind n (strM s.es)=none:=hf;unfold Sto.B Sto.M;refine aza hf' ?_;exact⟨_,le_refl _,rfl,rfl,rfl⟩
 |some b=>
  rw[hF]at hq hf;dsimp only at hq;have hf':mfind n (strM s.es)=some (.str b):=hf;have ho:=fun h=>dx8 s.key b hk (hb b hF) h
  rw[hq]at ho;unfold Sto.B Sto.M;refine aza hf' ?_;refine use (ho _) ?_;refine aza ti ?_;exact⟨_,le_refl _,rfl,rfl,rfl⟩
theorem dvj(n:Int)(hk:s.key.length<=1000000000)(hb:∀b,lfind n s.es=some b->b.length<=1048600):AT 39 [.ptr 1 0,.int .i64 n] ⟨s.M::s.B::l,t⟩ (.tup [(s.at' n).1.A,.int .i64 (s.at' n).2]):=by
 refine liftS (s':=s) ?_ rfl rfl l t;refine fo ?_;obtain⟨q,hq⟩:=Ex (s.at' n);rw[hq];unfold Sto.at' at hq;have hm:=ay9 s;have hpl:=fun l t=>dzd s l t n hk hb
 have hpz:(s.plain n).1.length<=1048600:=by
  unfold Sto.plain;split
  ·simp
  ·next b hF=>exact Zr (cy5 _ _) (hb b hF)
 obtain⟨⟨b,e⟩,hp⟩:=Ex (s.plain n);rw[hp]at hq hpl hpz;dsimp only at hq hpl hpz;have hD:=fun h=>cv8 b (by omega) (cy9 b) (fun ver r hr=>ax2 _ (Sf.state_in ver ⟨r,false⟩ (by dsimp only;omega))) h
 have hz:∀e:Int,le (.tup [.agg [.str [],.int .i64 0,.sl 0 .nil [],.sl 0 .nil [],.sl 0 .nil []],.int .i64 e]) (.tup [Sf.zero.A,.int .i64 e]):=fun e=>⟨⟨aze _,aze _,⟨rfl,.inr rfl,.inl rfl⟩,⟨rfl,.inr rfl,.inl rfl⟩,⟨rfl,.inr rfl,.inl rfl⟩,trivial⟩,rfl,trivial⟩
 unfold Sto.B Sto.M at hm hpl⊢;refine aza ti ?_;refine use (hm _ _) ?_;refine aza ti ?_;refine use (hpl _ _) ?_;by_cases h1:e=0
 rotate_left
 ·rw[if_pos h1]at hq;subst hq;have e1:(e !=0)=true:=by simp[h1]
  refine aza e1 ?_;exact⟨_,hz _,rfl,rfl,rfl⟩
 rw[if_neg (by simp[h1])]at hq;have e1:(e !=0)=false:=by simp[h1]
 have hck:(Sf.decode b).2=0->SCheck (Sf.decode b).1:=fun h0=>by
  obtain⟨ver,_,_,_,_,_,_,r,hr,hst⟩:=Sf.decode_back (b:=b) (st:=(Sf.decode b).1) (by rw[<-h0]);rw[hst];exact ax2 _ (Sf.state_in ver r (by omega))
 obtain⟨⟨st,e2⟩,hd⟩:=Ex (Sf.decode b);rw[hd]at hq hD hck;dsimp only at hq hD hck;obtain⟨Z,hZ⟩:=Ex (Sf.checkZ st);unfold SCheck at hck;rw[hZ]at hq hck;obtain⟨lin,ser,ins,ps,os⟩:=st;have hA:∀e,(A.tup [Sf.St.A ⟨lin,ser,ins,ps,os⟩,.int .i64 e])=A.tup [Sf.St.A ⟨lin,ser,ins,ps,os⟩,.int .i64 e]:=fun _=>rfl
 refine aza e1 ?_;refine use (hD _) ?_;unfold Sf.St.A at hck⊢;by_cases h2:e2=0
 ·rw[if_pos h2]at hq;subst hq;have e3:(e2==0)=true:=by simp[h2]
  refine aza e3 ?_;refine use (hck h2 _) ?_;refine aza ti ?_;exact⟨_,le_refl _,rfl,rfl,rfl⟩
 ·rw[if_neg h2]at hq;subst hq;have e3:(e2==0)=false:=by simp[h2]
  refine aza e3 ?_;exact⟨_,le_refl _,rfl,rfl,rfl⟩
theorem cvt(who:List UInt8)(st:Sf.St)(hin:Sf.StIn st)(hk:s.key.length<=1000000000)(hE:(Sf.stE 2 st).length+20<=1000000000):AC 35 [.ptr 1 0,.str who,st.A] ⟨s.M::s.B::l,t⟩ fun r h'=>r=.int .i64 (s.write who st).2/\h'=⟨(s.write who st).1.M::(s.write who st).1.B::l,t⟩:=by
 refine liftS (s':=(s.write who st).1) ?_ rfl rfl l t;refine fo ?_;have hkp:=fun l t=>cxt s l t st hin hk hE
 obtain⟨q,hq⟩:=Ex (s.write who st);rw[hq];unfold Sto.write at hq;have hm:=ay9 s;have hh:=fun l t=>cqi s l t who
 obtain⟨k,hkk⟩:=Ex (s.keep st);rw[hkk]at hq hkp;obtain⟨lin,ser,ins,ps,os⟩:=st;unfold Sf.St.A at hkp⊢;dsimp only at hq;rw[show s.B=.cells 88 [.str s.key,.str s.lin,.int .i64 s.latest,.mp 0,.str s.own,.int .i64 s.left]from rfl]at hm hh hkp⊢;refine aza ti ?_;refine use (hm _ _) ?_;refine aza ti ?_;refine use (hh _ _) ?_;cases hT:s.holds who
 ·rw[hT,if_pos (by decide)]at hq;subst hq;refine aza ti ?_;exact⟨_,le_refl _,rfl,rfl,rfl⟩
 rw[hT,if_neg (by decide)]at hq;by_cases h1:lin=s.lin
 rotate_left
 ·rw[if_pos h1]at hq;subst hq;have e1:(lin !=s.lin)=true:=by simp[h1]
  refine aza e1 ?_;exact⟨_,le_refl _,rfl,rfl,rfl⟩
 rw[if_neg (by simp[h1])]at hq;have e1:(lin !=s.lin)=false:=by simp[h1]
 by_cases h2:ser=IntKind.i64.wrap (s.latest+1)
 rotate_left
 ·rw[if_pos h2]at hq;subst hq;have e2:(ser !=IntKind.i64.wrap (s.latest+1))=true:=by simp[h2]
  refine aza (ai e1 e2) ?_;exact⟨_,le_refl _,rfl,rfl,rfl⟩
 rw[if_neg (by simp[h2])]at hq;subst hq;have e2:(ser !=IntKind.i64.wrap (s.latest+1))=false:=by simp[h2]
 refine aza (ai e1 e2) ?_;refine use (hkp _ _) ?_;refine aza ti ?_;exact⟨_,le_refl _,rfl,rfl,rfl⟩
theorem dxv(hk:s.key.length<=1000000000)(hb:∀b,lfind s.latest s.es=some b->b.length<=1048600):AT 15 [.ptr 1 0] ⟨s.M::s.B::l,t⟩ (.tup [(s.at' s.latest).1.A,.int .i64 (s.at' s.latest).2]):=by
 refine liftS (s':=s) ?_ rfl rfl l t;refine azf mixedT dzr (by simp[bkd]) ?_;dsimp only[bkd];have hm:=ay9 s;have ha:=fun l t=>dvj s l t s.latest hk hb
 obtain⟨⟨st,e⟩,hq⟩:=Ex (s.at' s.latest);rw[hq]at ha⊢;obtain⟨lin,ser,ins,ps,os⟩:=st;unfold Sf.St.A at ha⊢;dsimp only at ha⊢;unfold Sto.B at hm ha⊢;refine aza ti ?_;refine use (hm _ _) ?_;refine aza ti ?_;refine use (ha _ _) ?_;refine aza ti ?_;exact⟨_,le_refl _,rfl,rfl,rfl⟩
end
end AX
end
section
open Go.RowKit
namespace AX
def Sto.Bk(s:Sto)(k:Nat):Blk:=.cells 88 [.str s.key,.str s.lin,.int .i64 s.latest,.mp k,.str s.own,.int .i64 s.left]
structure Ent where
 name:List UInt8
 s:Sto
 p:Nat
 m:Nat
def Ent.row(e:Ent):List A:=[.str e.name,.ptr e.p 0]
def rowW(W:List Ent):List A:=(W.map Ent.row).flatten
def setC(key:List UInt8)(sp:A):Blk:=.cells 72 [.str key,.bool true,sp]
inductive SpAt(b:List Blk):A->List Ent->Prop
 |nil:SpAt b (.sl 0 .nil []) []
 |row {k:Nat} {W:List Ent} (h:b[k]?=some (.row 78 (rowW W))):SpAt b (.bs k 2 W.length) W
def SrtW(W:List Ent):Prop:=W.Pairwise fun x y=>cmpZ x.name y.name<0
structure WsAt(b:List Blk)(i:Nat)(key:List UInt8)(sp:A)(W:List Ent):Prop where
 set:b[i]?=some (setC key sp)
 sp:SpAt b sp W
 ent:∀e∈W,b[e.m]?=some e.s.M/\b[e.p]?=some (e.s.Bk e.m)
 ps:(W.map (·.p)).Nodup
 ms:(W.map (·.m)).Nodup
 srt:SrtW W
 len:W.length<=1000
theorem azc{b:List Blk}{k:Nat}{x:Blk}(h:b[k]?=some x)(L:List Blk):(b++L)[k]?=some x:=by
 rw[ZF (Zb.1 h).1];exact h
theorem SpAt.more{b:List Blk}{sp:A}{W:List Ent}(h:SpAt b sp W)(L:List Blk):SpAt (b++L) sp W:=by
 cases h with
 |nil=>exact .nil
 |row h=>exact .row (azc h L)
theorem WsAt.more{b:List Blk}{i:Nat}{key:List UInt8}{sp:A}{W:List Ent}(h:WsAt b i key sp W)(L:List Blk):WsAt (b++L) i key sp W:=
 ⟨azc h.set L,h.sp.more L,fun e he=>⟨azc (h.ent e he).1 L,azc (h.ent e he).2 L⟩,h.ps,h.ms,h.srt,h.len⟩
theorem ajl(W:List Ent):(rowW W).length=W.length*2:=by
 unfold rowW;induction W with
 |nil=>rfl
 |cons e W ih=>rw[ZM,ZP,Za,ih,Zf];simp[Ent.row];omega
theorem avz:∀(W:List Ent) (k:Nat) (hk:k<W.length),k*2+2<=(rowW W).length/\((rowW W).drop (k*2)).take 2=[.str W[k].name,.ptr W[k].p 0]/\(((rowW W).drop (k*2+1)).take 1)[0]?=some (.ptr W[k].p 0)
 |e::W,0,hk=>by
  rw[ajl];exact⟨by simp only[Zf];omega,rfl,rfl⟩
 |e::W,k+1,hk=>by
  obtain⟨h1,h2,h3⟩:=avz W k (by simp only[Zf]at hk;omega);have e1:rowW (e::W)=.str e.name :: .ptr e.p 0::rowW W:=rfl;refine⟨by rw[ajl]at h1⊢;simp only[Zf];omega,?_,?_⟩
  ·rw[e1,show(k+1)*2=k*2+1+1 by omega,Z4,Z4];exact h2
  ·rw[e1,show(k+1)*2+1=k*2+1+1+1 by omega,Z4,Z4];exact h3
theorem bk4(W:List Ent):(rowW W).all A.one=true:=by
 unfold rowW;induction W with
 |nil=>rfl
 |cons e W ih=>rw[ZM,ZP,List.all_append,ih];rfl
structure CutW(W:List Ent)(n:List UInt8)(p:Nat):Prop where
 le:p<=W.length
 lt:∀i (h:i<W.length),i<p->cmpZ W[i].name n<0
 ge:∀i (h:i<W.length),p<=i->0<=cmpZ W[i].name n
def hasW(W:List Ent)(n:List UInt8)(p:Nat):Bool:=match W[p]? with
 |some e=>cmpZ e.name n==0
 |none=>false
theorem bka(n:List UInt8):∀W:List Ent,SrtW W->∃p,CutW W n p
 |[],_=>⟨0,⟨Ze _,fun i h=>absurd h (Nat.not_lt_zero _),fun i h=>absurd h (Nat.not_lt_zero _)⟩⟩
 |e::W,hs=>by
  have hs':=List.pairwise_cons.1 hs;by_cases h:cmpZ e.name n<0
  ·obtain⟨p,c⟩:=bka n W hs'.2;refine⟨p+1,⟨by rw[Zf];exact Nat.succ_le_succ c.le,fun i hi hp=>?_,fun i hi hp=>?_⟩⟩
   ·cases i with
    |zero=>exact h
    |succ i=>exact c.lt i (by simpa using hi) (by omega)
   ·cases i with
    |zero=>omega
    |succ i=>exact c.ge i (by simpa using hi) (by omega)
  ·refine⟨0,⟨ZB _,fun i hi hp=>by omega,fun i hi hp=>?_⟩⟩;cases i with
   |zero=>show 0<=cmpZ e.name n;omega
   |succ i=>
    have hi':i<W.length:=by simpa using hi
    have h1:=hs'.1 _ (Zl hi');show 0<=cmpZ W[i].name n
    rcases Int.lt_or_le (cmpZ W[i].name n) 0 with h2|h2
    ·exact absurd (Sf.cmpZ_trans h1 h2) h
    ·exact h2
section
variable {h:Hp}
def bzx:AX.AFn:=⟨11,aS [aR 2 (.mv (.c (.bool false)))] (aS [aM 3 0,aR 4 (.eq 4 [] true (.t 3) (.c (.nilp))),aM 5 4,aG 6 (.mv (.t 0)) 5 true,aG 7 (.nilck (.t 6)) 5 true,aG 8 (.faddr 1 (.t 7)) 5 true,aG 9 (.load false 1 (.t 8)) 5 true,aR 10 (.pick (.t 5) (.t 9) (.c (.bool false))),aM 2 10] (.ret)),[.t 2]⟩
theorem cky:AX.compFn Tryz.prog 28=some bzx:=by kernel_rfl
def ak6:AX.AFn:=⟨14,aS [aR 4 (.mv (aI 0)),aR 5 (.mv (.c (.bool false)))] (aS [aM 6 0,aR 7 (.nilck (.t 6)),aF 8 2 7,aL 9 8,aM 10 1,aR 11 (.call 56 [.t 9,.t 10,.c (.fn 57 [])]),aE 12 11 0,aE 13 11 1,aM 4 12,aM 5 13] (.ret)),[.t 4,.t 5]⟩
theorem czx:AX.compFn Tryz.prog 30=some ak6:=by kernel_rfl
def bqe:AX.AFn:=⟨9,aS [aR 2 (.box 78 (.t 0)),aR 4 (.mv (aI 0))] (aS [aF 5 0 2,aL 6 5,aM 7 1,aR 8 (.call 58 [.t 6,.t 7]),aM 4 8] (.ret)),[.t 4]⟩
theorem cvz:AX.compFn Tryz.prog 57=some bqe:=by kernel_rfl
theorem axe{i:Nat}{key:List UInt8}{sp:A}(hb:h.b[i]?=some (setC key sp)):AT 28 [.ptr i 0] h (.bool true):=by
 unfold setC at hb;refine azf mixedT cky (by simp[bzx]) ?_;dsimp only[bzx];refine azj hb ti ?_;exact⟨_,le_refl _,rfl,rfl⟩
theorem cvd(a n:List UInt8)(q:Nat):AC 57 [.agg [.str a,.ptr q 0],.str n] h fun v h'=>v=.int .i64 (cmpZ a n)/\h'=⟨h.b++[.cells 78 [.str a,.ptr q 0]],h.t⟩:=by
 have c:=dx0 a n;refine azf mixedT cvz (by simp[bqe]) ?_;dsimp only[bqe];refine azj ti (ai c ti) ?_;exact⟨_,le_refl _,rfl,rfl⟩
theorem djw{k:Nat}{W:List Ent}(hk:h.b[k]?=some (.row 78 (rowW W)))(n:List UInt8)(p:Nat)(hc:CutW W n p)(hn:W.length<=1000000):
  AC 56 [.bs k 2 W.length,.str n,.fn 57 []] h fun v h'=>v=.tup [.int .i64 (p:Nat),.bool (hasW W n p)]/\∃L,h'=⟨h.b++L,h.t⟩:=by
 have cs:=fun(a:List UInt8) (q:Nat) (L:List Blk)=>cvd (h:=⟨h.b++L,h.t⟩) a n q
 have hrow:=avz W;have hkL:=fun L=>azc hk L
 obtain⟨F,hF⟩:=Ex (rowW W);rw[hF]at hrow hkL;clear hk hF;obtain⟨b,t⟩:=h;dsimp only at cs hkL⊢;refine fo ?_;refine azj ti ti ?_
 refine azg (fun m ts hh=>∃(i j:Nat) (L:List Blk),m=j-i/\i<=p/\p<=j/\j<=W.length/\hh=⟨b++L,t⟩ /\
  (ts 0=.bs k 2 W.length/\ts 1=.str n/\ts 2=.fn 57 []/\ts 8=.int .i64 (W.length:Nat)/\ts 9=.int .i64 (i:Nat)/\ts 10=.int .i64 (j:Nat))) W.length ?_ ?_
 ·exact⟨0,W.length,[],rfl,ZB _,hc.le,Ze _,by rw[Zz],by(exact azv ti)⟩
 rintro m ts hh ⟨i,j,L,rfl,hip,hpj,hjl,rfl,ht⟩;rcases Z0 i j with hlt|hge
 ·have hf:(i:Int)<(j:Int):=by omega
  obtain⟨e1,e2,e3,e4,e5⟩:=bjd hlt hjl hn;obtain⟨q,hq⟩:=Ex ((i+j)/2);have hk1:i<=q/\q<j:=by omega
  have hkl:q<W.length:=by omega
  rw[hq]at e3 e4 e5;have hki:(q:Int)<(W.length:Int):=by omega
  obtain⟨g1,g2,_⟩:=hrow q hkl;have hL:=hc.lt q hkl;have hG:=hc.ge q hkl;obtain⟨x,hx⟩:=Ex (W[q]);rw[hx]at g2 hL hG;have cx:=cs x.name x.p L;obtain⟨c,hcc⟩:=Ex (cmpZ x.name n);rw[hcc]at cx hL hG;have hk2:=hkL L;clear hcc hx cs hrow hkL;by_cases hneg:c<0
  ·refine azj (ai ht (ai hf (ai e1 (ai e2 (ai e3 (ai e4 (ai e5 (ai g1 (ai g2 (ai hk2 (ai hki hneg))))))))))) (ai cx ti) ?_;exact⟨_,by omega,q+1,j,_,rfl,by rcases Z0 q p with h|h;exact h;have:=hG h;omega,hpj,hjl,by rw[Zi],by(exact azv (ai ht e5))⟩
  ·refine azj (ai ht (ai hf (ai e1 (ai e2 (ai e3 (ai e4 (ai e5 (ai g1 (ai g2 (ai hk2 (ai hki hneg))))))))))) (ai cx ti) ?_;exact⟨_,by omega,i,q,_,rfl,hip,by rcases Z0 q p with h|h;exact absurd (hL h) hneg;exact h,by omega,by rw[Zi],by(exact azv ht)⟩
 ·have hf:¬(i:Int)<(j:Int):=by omega
  obtain rfl:i=p:=by omega
  have hk2:=hkL L;rcases Z0 i W.length with hlt|hge2
  ·have hf2:(i:Int)<(W.length:Int):=by omega
   obtain⟨g1,g2,_⟩:=hrow i hlt;have hB:hasW W n i=(cmpZ W[i].name n==0):=by unfold hasW;rw[Zj hlt]
   rw[hB];obtain⟨x,hx⟩:=Ex (W[i]);rw[hx]at g2⊢;have cx:=cs x.name x.p L;obtain⟨c,hcc⟩:=Ex (cmpZ x.name n);rw[hcc]at cx⊢;clear hcc hx cs hrow hkL;refine azj (ai ht (ai hf (ai hf2 (ai g1 (ai g2 hk2))))) (ai cx ti) ?_;exact⟨_,le_refl _,rfl,_,by rw[Zi]⟩
  ·have hf2:¬(i:Int)<(W.length:Int):=by omega
   have hB:hasW W n i=false:=by unfold hasW;rw[Yh hge2]
   rw[hB];refine azj (ai ht (ai hf hf2)) ti ?_;exact⟨_,le_refl _,rfl,_,rfl⟩
theorem dq0(n:List UInt8):AT 56 [.sl 0 .nil [],.str n,.fn 57 []] h (.tup [.int .i64 (0:Nat),.bool false]):=by
 have e0:¬(0:Int)<((0:Nat):Int):=by decide
 refine fo ?_;refine azj ti ti ?_;refine ajx ?_;refine azj e0 ti ?_;exact⟨_,le_refl _,rfl,rfl⟩
theorem awa{i:Nat}{key:List UInt8}{sp:A}{W:List Ent}(w:WsAt h.b i key sp W)(n:List UInt8)(p:Nat)(hc:CutW W n p):
  AC 30 [.ptr i 0,.str n] h fun v h'=>v=.tup [.int .i64 (p:Nat),.bool (hasW W n p)]/\∃L,h'=⟨h.b++L,h.t⟩:=by
 have hb:=w.set;unfold setC at hb;have hl:=w.len;cases w.sp with
 |nil=>
  have c:=dq0 (h:=h) n;obtain rfl:p=0:=Nat.le_zero.1 hc.le;refine azf mixedT czx (by simp[ak6]) ?_;dsimp only[ak6];refine azj hb (ai c ti) ?_;exact⟨_,le_refl _,rfl,[],by rw[Zz]⟩
 |row hk=>
  have c:=djw hk n p hc (by omega);refine azf mixedT czx (by simp[ak6]) ?_;dsimp only[ak6];refine go0 hb ?_;refine gc0 hb ?_;refine c.mono ?_;rintro v h' ⟨rfl,L,rfl⟩;refine go0 ti ?_;exact⟨_,le_refl _,rfl,L,rfl⟩
end
end AX
end
end Go.Proofs.YthhpocnmfknalaaGreatDoor
