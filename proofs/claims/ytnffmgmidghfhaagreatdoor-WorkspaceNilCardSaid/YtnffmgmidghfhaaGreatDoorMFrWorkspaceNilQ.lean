/- Part of what the proof needs. -/
import Derived.Test.YtnffmgmidghfhaaGreatDoorMFrWorkspaceNilP
import Derived.Lib.ParseIntB
import Derived.Test.YtnffmgmidghfhaaGreatDoorShelfP
set_option maxHeartbeats 4000000
set_option maxRecDepth 100000
set_option linter.all false
namespace Go.Proofs.YtnffmgmidghfhaaGreatDoor
section
open Go.RowKit
open Go.Op (bytesLess)
namespace AX
def bjq:AX.AFn:=⟨18,aS [aR 2 (.mv (aI 0))] (aS [aR 3 (.mv (aI 0))] (.seq (aS [aM 6 0,aR 7 (.len false (.t 6)),aR 8 (.mv (aI 0))] (.block 0 (.loop (aS [aR 9 (.bin .lss (.t 8) (.t 7))] (.seq (.cond (.t 9) (.skip) (.exit 0)) (.seq (.block 1 (aS [aR 10 (.iaddr 1 (.t 6) (.t 8)),aL 11 10,aM 5 11] (aS [aM 12 5,aM 13 3,aR 14 (.bin .neq (.t 12) (.t 13))] (.cond (.t 14) (aS [aM 15 5,aM 2 15] (.ret)) (.skip))))) (.reg false [aR 16 (.bin .add (.t 8) (aI 1)),aM 8 16]))))))) (aS [aM 17 3,aM 2 17] (.ret)))),[.t 2]⟩
theorem ck0:AX.compFn Tryz.prog 117=some bjq:=by kernel_rfl
def avi:AX.AFn:=⟨17,aS [aR 2 (.box 126 (.t 0)),aR 3 (.box 126 (.t 1)),aR 4 (.mv (aI 0))] (.seq (.reg true [aF 5 0 2,⟨some 6,.load false 1 (.t 5),none,[0]⟩,aF 7 0 3,⟨some 8,.load false 1 (.t 7),none,[2]⟩,⟨some 9,.call 44 [.t 6,.t 8],none,[1,3]⟩,aF 10 1 2,⟨some 11,.load false 1 (.t 10),none,[5]⟩,aF 12 1 3,⟨some 13,.load false 1 (.t 12),none,[7]⟩,⟨some 14,.call 44 [.t 11,.t 13],none,[6,8,4]⟩,⟨some 15,.mks 1 [.t 9,.t 14],none,[4,9]⟩,⟨some 16,.call 117 [.t 15],none,[10,9]⟩,⟨some 4,.mv (.t 16),none,[11,11,0,1,2,3,4,5,6,7,8,9,10,11]⟩]) (.ret)),[.t 4]⟩
theorem bk3:AX.compFn Tryz.prog 86=some avi:=by kernel_rfl
theorem dq6(a b:Int)(h:Hp):AT 117 [.sl 1 .no [[.int .i64 a],[.int .i64 b]]] h (.int .i64 (if a≠0 then a else b)):=by
 refine pcall ?_ rfl (by simp[A.pure,A.data]) h;refine aza mixedT ck0 (by simp[bjq]) ?_;dsimp only[bjq];refine azb ti ?_;have ew0:IntKind.i64.wrap ((0:Int)+1)=1:=by decide
 have ew1:IntKind.i64.wrap ((1:Int)+1)=2:=by decide
 have en1:Int.toNat 1=1:=rfl;have lt0:(0:Int)<((2:Nat):Int):=by decide
 have lt1:(1:Int)<((2:Nat):Int):=by decide
 have lt2:¬(2:Int)<((2:Nat):Int):=by decide
 have le1:(0:Int)<=1:=by decide
 refine azh (fun mm ts h=>h=⟨[],[]⟩/\ts 3=.int .i64 0/\ts 6=.sl 1 .no [[.int .i64 a],[.int .i64 b]]/\ts 7=.int .i64 ((2:Nat):Int)/\((mm=2/\ts 8=.int .i64 0)\/(mm=1/\ts 8=.int .i64 1/\a=0)\/(mm=0/\ts 8=.int .i64 2/\a=0/\b=0))) 2 ?_ ?_
 ·exact⟨rfl,by(exact ev0 ti),by(exact ev0 ti),by(exact ev0 ti),.inl ⟨rfl,by(exact ev0 ti)⟩⟩
 rintro mm ts h ⟨rfl,t3,t6,t7,⟨rfl,t8⟩|⟨rfl,t8,ha⟩|⟨rfl,t8,ha,hb⟩⟩
 ·by_cases ha:a=0
  ·have e1:(a !=0)=false:=by simp[ha]
   refine azb (ai t3 (ai t6 (ai t7 (ai t8 (ai e1 (ai ew0 lt0)))))) ?_;exact⟨1,by omega,rfl,by(exact ev0 t3),by(exact ev0 t6),by(exact ev0 t7),.inr (.inl ⟨rfl,by(exact ev0 ew0),ha⟩)⟩
  ·have e1:(a !=0)=true:=by simp[ha]
   refine azb (ai t3 (ai t6 (ai t7 (ai t8 (ai e1 lt0))))) ?_;exact⟨_,le_refl _,by rw[if_pos ha];rfl⟩
 ·by_cases hb:b=0
  ·have e1:(b !=0)=false:=by simp[hb]
   refine azb (ai t3 (ai t6 (ai t7 (ai t8 (ai e1 (ai ew1 (ai en1 (ai lt1 le1)))))))) ?_;exact⟨0,by omega,rfl,by(exact ev0 t3),by(exact ev0 t6),by(exact ev0 t7),.inr (.inr ⟨rfl,by(exact ev0 ew1),ha,hb⟩)⟩
  ·have e1:(b !=0)=true:=by simp[hb]
   refine azb (ai t3 (ai t6 (ai t7 (ai t8 (ai e1 (ai en1 (ai lt1 le1))))))) ?_;exact⟨_,le_refl _,by rw[if_neg (by simp[ha])];rfl⟩
 ·refine azb (ai t3 (ai t6 (ai t7 (ai t8 lt2)))) ?_;exact⟨_,le_refl _,by rw[if_neg (by simp[ha]),hb];rfl⟩
def dqp(a b c d:List UInt8):Int:=if cmpZ a c≠0 then cmpZ a c else cmpZ b d
theorem czl(L:Leafs)(a b c d:List UInt8)(h:Hp):AT 86 [.agg [.str a,.str b],.agg [.str c,.str d]] h (.int .i64 (dqp a b c d)):=by
 refine pcall ?_ rfl (by simp[A.pure,A.data]) h;refine aza mixedT bk3 (by simp[avi]) ?_;dsimp only[avi];refine azb ti ?_;refine use (L.cmp a c _) ?_;refine azb ti ?_;refine use (L.cmp b d _) ?_;refine azb ti ?_;refine use (dq6 (cmpZ a c) (cmpZ b d) _) ?_;refine azb ti ?_;exact Fn rfl
theorem cwj(x y:Sf.Inst):(dqp x.addr x.dep y.addr y.dep>=0)↔Sf.behind x y=false:=by
 unfold dqp Sf.behind cmpZ;by_cases h1:x.addr=y.addr
 ·have irr:bytesLess y.addr y.addr=false:=by
   have:=Val.less_total y.addr y.addr;cases h:bytesLess y.addr y.addr
   ·rfl
   ·rw[h]at this;simp at this
  rw[h1,irr];by_cases h2:x.dep=y.dep
  ·have irr2:bytesLess y.dep y.dep=false:=by
    have:=Val.less_total y.dep y.dep;cases h:bytesLess y.dep y.dep
    ·rfl
    ·rw[h]at this;simp at this
   simp[h2,irr2]
  ·cases h3:bytesLess x.dep y.dep<;>simp[h2]
 ·cases h3:bytesLess x.addr y.addr<;>simp[h1]
structure Sf.StIn(s:Sf.St):Prop where
 lin:s.lin.length<=2000000
 insts:∀x∈s.insts,Sf.InstIn x
 pends:∀x∈s.pends,x.addr.length<=2000000/\x.tok.length<=2000000
 outs:∀x∈s.outs,x.name.length<=2000000/\x.value.lens
 li:s.insts.length<=1000000000
 lp:s.pends.length<=1000000000
 lo:s.outs.length<=1000000000
theorem cjg(L:Leafs)(st:Sf.St)(ok:Sf.StIn st):SCheck st:=by
 intro h;obtain⟨lin,ser,ins,ps,os⟩:=st;have ct:=fun h=>L.text lin ok.lin h
 have li:ins.length<=1000000000:=ok.li;have lp:ps.length<=1000000000:=ok.lp;have lo:os.length<=1000000000:=ok.lo;have lm1:(ins.map Sf.Inst.cells).length=ins.length:=Zl _;have lm2:(ps.map Sf.Pend.cells).length=ps.length:=Zl _;have lm3:(os.map Sf.Outp.cells).length=os.length:=Zl _;obtain⟨Z,hZ⟩:=Ex (Sf.checkZ ⟨lin,ser,ins,ps,os⟩);rw[hZ];unfold Sf.checkZ at hZ;dsimp only at hZ;refine pcall ?_ rfl (by simp[A.pure,A.data,Sf.St.A]) h;refine aza mixedT cqy (by simp[bzs]) ?_;dsimp only[bzs,Sf.St.A];refine azb ti ?_;refine use (ct _) ?_;cases hT:Sf.text lin
 ·rw[hT,if_pos (by decide)]at hZ;subst hZ;refine azb ti ?_;exact Fn rfl
 rw[hT,if_neg (by decide)]at hZ;by_cases s0:ser<0
 ·rw[if_pos (.inl s0)]at hZ;subst hZ;refine azb s0 ?_;exact Fn rfl
 by_cases s1:ser>9007199254740992
 ·rw[if_pos (.inr s1)]at hZ;subst hZ;refine azb (ai s0 s1) ?_;exact Fn rfl
 rw[if_neg (by omega)]at hZ;obtain⟨mx,hmx⟩:∃mx:Int,(if(os.length:Int)>(if(ps.length:Int)>(ins.length:Int)then(ps.length:Int)else(ins.length:Int))then(os.length:Int)else(if(ps.length:Int)>(ins.length:Int)then(ps.length:Int)else(ins.length:Int)))=mx:=⟨_,rfl⟩;have hm5:mx>512↔(512<ins.length\/512<ps.length\/512<os.length):=by
  rw[<-hmx];split<;>split<;>omega
 by_cases hm:mx>512
 ·rw[if_pos (hm5.1 hm)]at hZ;subst hZ;refine azb (ai s0 (ai s1 (ai lm1 (ai lm2 (ai lm3 (ai hmx hm)))))) ?_;exact Fn rfl
 rw[if_neg (fun e=>hm (hm5.2 e))]at hZ;obtain⟨I,hI⟩:=Ex (Sf.instsZ none ins);obtain⟨P,hP⟩:=Ex (Sf.pendsZ none ps);obtain⟨O,hO⟩:=Ex (Sf.outsZ none os);have fi1:∀z,z≠0->z=I->Z=z:=fun z h e=>by rw[hI,<-e,if_pos h]at hZ;exact hZ.symm
 have fi2:I=0->(if P≠0 then P else O)=Z:=fun e=>by rw[hI,hP,hO,e,if_neg (by simp)]at hZ;exact hZ
 refine azb (ai s0 (ai s1 (ai lm1 (ai lm2 (ai lm3 (ai hmx hm)))))) ?_;refine azh (fun mm ts h=>∃(j:Nat) (l:List Blk),mm=ins.length-j/\j<=ins.length/\h=⟨.cells 58 [.str lin,.int .i64 ser,.sl 13 .no (ins.map Sf.Inst.cells),.sl 3 .no (ps.map Sf.Pend.cells),.sl 7 .no (os.map Sf.Outp.cells)]::l,[]⟩/\Sf.instsZ (if j=0 then none else ins[j-1]?) (ins.drop j)=I/\ts 1=.ptr 0 0/\ts 35=.sl 13 .no (ins.map Sf.Inst.cells)/\ts 36=.int .i64 (ins.length:Nat)/\ts 37=.int .i64 (j:Nat)) ins.length ?_ ?_
 ·exact⟨0,[],by omega,by omega,rfl,hI,by(exact ev0 ti),by(exact ev0 ti),by(exact ev0 (ai lm1 (ai lm2 lm3))),by(exact aqg ti)⟩
 rintro mm ts h ⟨j,l,rfl,hjc,rfl,hit,t1,ta,tb,tc⟩;by_cases hj:j<ins.length
 ·have hlt:(j:Int)<(ins.length:Int):=by omega
  have hlt':(j:Int)<((ins.map Sf.Inst.cells).length:Int):=by rw[Zl];exact hlt
  have hj0:(0:Int)<=(j:Int):=by omega
  have ei:IntKind.i64.wrap ((j:Int)+1)=((j+1:Nat):Int):=by rw[wrap64 (by omega) (by omega)];omega
  have hg:=azz Sf.Inst.cells ins j hj;have hm:=ZB hj;rw[ZM hj]at hit;obtain⟨x,hx⟩:=Ex (ins[j]);rw[hx]at hit hg hm;have ci:=fun h=>bk7 L x (ok.insts x hm) h
  have cp:=fun h=>bqo x h
  have hxj:ins[j]?=some x:=by rw[Zi hj,hx]
  have hx2:=Ex x;unfold Sf.instsZ at hit;obtain⟨Z1,hZ1⟩:=Ex (Sf.instZ x);rw[hZ1]at ci hit;have cge:=fun y=>cwj y x
  have cc:=fun(y:Sf.Inst) h=>czl L y.addr y.dep x.addr x.dep h
  have nx:Sf.instsZ (some x) (ins.drop (j+1))=I->Sf.instsZ (if j+1=0 then none else ins[j+1-1]?) (ins.drop (j+1))=I:=fun e=>by rw[if_neg (by omega),Nat.add_sub_cancel,hxj];exact e
  clear hx2 hm hZ1;have cells:∃a d id ty k n s is ks v tn fi ds,x=⟨a,d,id,ty,.mk k n s is ks,v,tn,fi,ds⟩:=by obtain⟨a,d,id,ty,⟨k,n,s,is,ks⟩,v,tn,fi,ds⟩:=x;exact⟨_,_,_,_,_,_,_,_,_,_,_,_,_,rfl⟩
  obtain⟨a,d,id,ty,k,n,s,is,ks,v,tn,fi,ds,hxe⟩:=cells;have hxc:x.cells=[.str a,.str d,.str id,.str ty,.int .i64 k,.int .i64 n,.str s,.sl 5 .no (V.cellss is),.sl 1 .no (strsA ks),.int .i64 v,.bool tn,.bool fi,.sl 1 .no (strsA ds)]:=by rw[hxe];rfl
  rw[hxc]at ci cp hg;refine azb (ai t1 (ai ta (ai tb (ai tc (ai hlt (ai hg (ai hlt' hj0))))))) ?_;refine use (ci _) ?_;by_cases hz:Z1=0
  rotate_left
  ·have e1:(Z1 !=0)=true:=by simp[hz]
   rw[if_pos hz]at hit;have hZf:=fi1 Z1 hz hit;refine azb (ai t1 (ai ta (ai tb (ai tc e1)))) ?_;exact⟨_,le_refl _,by rw[hZf];rfl⟩
  have e1:(Z1 !=0)=false:=by simp[hz]
  rw[if_neg (by simp[hz])]at hit;cases j with
  |zero=>
   have h0:¬((0:Nat):Int)>0:=by omega
   simp only[if_true,Zn,if_false]at hit;refine azb (ai t1 (ai ta (ai tb (ai tc (ai e1 (ai h0 ei)))))) ?_;exact⟨ins.length-(0+1),by omega,0+1,l++[.cells 89 [.str a,.str d,.str id,.str ty,.int .i64 k,.int .i64 n,.str s,.sl 5 .no (V.cellss is),.sl 1 .no (strsA ks),.int .i64 v,.bool tn,.bool fi,.sl 1 .no (strsA ds)]],rfl,by omega,rfl,nx hit,by(exact ev0 t1),by(exact ev0 ta),by(exact ev0 tb),by(exact ev0 ei)⟩
  |succ i=>
   have h0:((i+1:Nat):Int)>0:=by omega
   have ej:IntKind.i64.wrap (((i+1:Nat):Int)-1)=(i:Int):=by rw[wrap64 (by omega) (by omega)];omega
   have hg2:=azz Sf.Inst.cells ins i (by omega);have hi':(i:Int)<((ins.map Sf.Inst.cells).length:Int):=by rw[Zl];omega
   have hi0:(0:Int)<=(i:Int):=by omega
   have hki:ins[i+1-1]?=some (ins[i]'(by omega)):=Zi (by omega);rw[show(if i+1=0 then none else ins[i+1-1]?)=(some (ins[i]'(by omega)))from by rw[if_neg (by omega),hki]]at hit;obtain⟨y,hy⟩:=Ex (ins[i]'(by omega));rw[hy]at hit hg2;dsimp only at hit;have cpy:=fun h=>bqo y h
   have hyc:∃b1 b2 b3 b4 b5 b6 b7 b8 b9 c1 c2 c3 c4,y.cells=[.str b1,.str b2,.str b3,.str b4,.int .i64 b5,.int .i64 b6,.str b7,.sl 5 .no (V.cellss b8),.sl 1 .no (strsA b9),.int .i64 c1,.bool c2,.bool c3,.sl 1 .no (strsA c4)]:=by obtain⟨a,d,id,ty,⟨k,n,s,is,ks⟩,v,tn,fi,ds⟩:=y;exact⟨_,_,_,_,_,_,_,_,_,_,_,_,_,rfl⟩
   obtain⟨b1,b2,b3,b4,b5,b6,b7,b8,b9,c1,c2,c3,c4,hyc⟩:=hyc;rw[hyc]at hg2 cpy;have cg:=cge y;have cy:=cc y;obtain⟨c,hc⟩:=Ex (dqp y.addr y.dep x.addr x.dep);rw[hc]at cg cy;refine azb (ai t1 (ai ta (ai tb (ai tc (ai e1 (ai h0 (ai ej (ai hg2 (ai hi' hi0))))))))) ?_;refine use (cpy _) ?_;refine azb (ai t1 (ai ta (ai tb tc))) ?_;refine use (cp _) ?_;refine azb (ai t1 (ai ta (ai tb tc))) ?_;refine use (cy _) ?_;by_cases hcz:c>=0
   ·simp only[cg.1 hcz,Z8,if_true]at hit;have hZf:=fi1 1 (by decide) hit;refine azb (ai t1 (ai ta (ai tb (ai tc hcz)))) ?_;exact⟨_,le_refl _,by rw[hZf];rfl⟩
   ·have hb:Sf.behind y x=true:=by cases hb:Sf.behind y x;exact absurd (cg.2 hb) hcz;rfl
    simp only[hb,Yb,Zn,if_false]at hit;refine azb (ai t1 (ai ta (ai tb (ai tc (ai hcz ei))))) ?_;exact⟨ins.length-((i+1)+1),by omega,(i+1)+1,l++[.cells 89 [.str a,.str d,.str id,.str ty,.int .i64 k,.int .i64 n,.str s,.sl 5 .no (V.cellss is),.sl 1 .no (strsA ks),.int .i64 v,.bool tn,.bool fi,.sl 1 .no (strsA ds)]],rfl,by omega,rfl,nx hit,by(exact ev0 t1),by(exact ev0 ta),by(exact ev0 tb),by(exact ev0 ei)⟩
 have hlt:¬((j:Int)<(ins.length:Int)):=by omega
 rw[Y7 (by omega)]at hit;unfold Sf.instsZ at hit;have fi2:=fi2 hit.symm;refine azb (ai t1 (ai ta (ai tb (ai tc (ai hlt (ai lm1 (ai lm2 lm3))))))) ?_;clear hit hlt hjc ta tb tc fi1;have fj1:∀z,z≠0->z=P->Z=z:=fun z h e=>by rw[<-e,if_pos h]at fi2;exact fi2.symm
 have fj2:P=0->Z=O:=fun e=>by rw[e,if_neg (by simp)]at fi2;exact fi2.symm
 obtain⟨l0,hl0⟩:∃l0:List Blk,l=l0:=⟨_,rfl⟩;refine azh (fun mm ts h=>∃(j:Nat) (l:List Blk),mm=ps.length-j/\j<=ps.length/\h=⟨.cells 58 [.str lin,.int .i64 ser,.sl 13 .no (ins.map Sf.Inst.cells),.sl 3 .no (ps.map Sf.Pend.cells),.sl 7 .no (os.map Sf.Outp.cells)]::l,[]⟩/\Sf.pendsZ (if j=0 then none else ps[j-1]?.map Sf.Pend.tok) (ps.drop j)=P/\ts 1=.ptr 0 0/\ts 64=.sl 3 .no (ps.map Sf.Pend.cells)/\ts 65=.int .i64 (ps.length:Nat)/\ts 66=.int .i64 (j:Nat)) ps.length ?_ ?_
 ·exact⟨0,l,by omega,by omega,rfl,hP,by(exact ev0 t1),by(exact ev0 t1),by(exact ev0 (ai t1 (ai lm1 (ai lm2 lm3)))),by(exact aqg t1)⟩
 rintro mm ts h ⟨j,l,rfl,hjc,rfl,hit,t1,ta,tb,tc⟩;by_cases hj:j<ps.length
 ·have hlt:(j:Int)<(ps.length:Int):=by omega
  have hlt':(j:Int)<((ps.map Sf.Pend.cells).length:Int):=by rw[Zl];exact hlt
  have hj0:(0:Int)<=(j:Int):=by omega
  have ei:IntKind.i64.wrap ((j:Int)+1)=((j+1:Nat):Int):=by rw[wrap64 (by omega) (by omega)];omega
  have hg:=azz Sf.Pend.cells ps j hj;have hm:=ZB hj;rw[ZM hj]at hit;obtain⟨x,hx⟩:=Ex (ps[j]);rw[hx]at hit hg hm;have hin:=ok.pends x hm;have ct:=fun h=>L.text x.tok hin.2 h
  have cm:=fun h=>bql L x.addr x.typ hin.1 h
  have hxj:ps[j]?=some x:=by rw[Zi hj,hx]
  unfold Sf.pendsZ Sf.pendB at hit;have nx:Sf.pendsZ (some x.tok) (ps.drop (j+1))=P->Sf.pendsZ (if j+1=0 then none else ps[j+1-1]?.map Sf.Pend.tok) (ps.drop (j+1))=P:=fun e=>by rw[if_neg (by omega),Nat.add_sub_cancel,hxj];exact e
  simp only[Sf.Pend.cells]at hg;obtain⟨T,hT⟩:=Ex (Sf.text x.tok);rw[hT]at ct hit;obtain⟨M,hM⟩:=Ex (Sf.managed x.addr x.typ);rw[hM]at cm hit;refine azb (ai t1 (ai ta (ai tb (ai tc (ai hlt (ai hg (ai hlt' hj0))))))) ?_;refine use (ct _) ?_;cases T
  ·rw[if_pos (by simp)]at hit;have hZf:=fj1 1 (by decide) hit;refine azb (ai t1 (ai ta (ai tb tc))) ?_;exact⟨_,le_refl _,by rw[hZf];rfl⟩
  refine azb (ai t1 (ai ta (ai tb tc))) ?_;refine use (cm _) ?_;cases M
  ·rw[if_pos (by simp)]at hit;have hZf:=fj1 1 (by decide) hit;refine azb (ai t1 (ai ta (ai tb tc))) ?_;exact⟨_,le_refl _,by rw[hZf];rfl⟩
  cases j with
  |zero=>
   have h0:¬((0:Nat):Int)>0:=by omega
   rw[if_neg (by simp[Val.badB])]at hit;refine azb (ai t1 (ai ta (ai tb (ai tc (ai h0 ei))))) ?_;exact⟨ps.length-(0+1),by omega,0+1,l++[.cells 130 [.str x.addr,.str x.typ,.str x.tok]],rfl,by omega,rfl,nx hit,by(exact ev0 t1),by(exact ev0 ta),by(exact ev0 tb),by(exact ev0 ei)⟩
  |succ i=>
   have h0:((i+1:Nat):Int)>0:=by omega
   have ej:IntKind.i64.wrap (((i+1:Nat):Int)-1)=(i:Int):=by rw[wrap64 (by omega) (by omega)];omega
   have hg2:=azz Sf.Pend.cells ps i (by omega);have hi':(i:Int)<((ps.map Sf.Pend.cells).length:Int):=by rw[Zl];omega
   have hi0:(0:Int)<=(i:Int):=by omega
   have hki:ps[i+1-1]?=some (ps[i]'(by omega)):=Zi (by omega);rw[show(if i+1=0 then none else ps[i+1-1]?.map Sf.Pend.tok)=(some (ps[i]'(by omega))).map Sf.Pend.tok from by rw[if_neg (by omega),hki]]at hit;obtain⟨y,hy⟩:=Ex (ps[i]'(by omega));rw[hy]at hit hg2;simp only[Sf.Pend.cells]at hg2;simp only[ZU,Val.badB]at hit;cases hb:bytesLess y.tok x.tok
   ·simp only[hb,Z0,ZW,Yb,Z8,YD,Y2,if_true]at hit;have hZf:=fj1 1 (by decide) hit;refine azb (ai t1 (ai ta (ai tb (ai tc (ai h0 (ai ej (ai hg2 (ai hi' (ai hi0 hb))))))))) ?_;exact⟨_,le_refl _,by rw[hZf];rfl⟩
   ·simp only[hb,Z0,ZW,Yb,Z8,YD,Zab,Zn,if_false]at hit;refine azb (ai t1 (ai ta (ai tb (ai tc (ai h0 (ai ej (ai hg2 (ai hi' (ai hi0 (ai hb ei)))))))))) ?_;exact⟨ps.length-((i+1)+1),by omega,(i+1)+1,l++[.cells 130 [.str x.addr,.str x.typ,.str x.tok]],rfl,by omega,rfl,nx hit,by(exact ev0 t1),by(exact ev0 ta),by(exact ev0 tb),by(exact ev0 ei)⟩
 have hlt:¬((j:Int)<(ps.length:Int)):=by omega
 rw[Y7 (by omega)]at hit;unfold Sf.pendsZ at hit;have fj2:=fj2 hit.symm;refine azb (ai t1 (ai ta (ai tb (ai tc (ai hlt (ai lm1 (ai lm2 lm3))))))) ?_;clear hit hlt hjc ta tb tc fj1 hl0 l0;refine azh (fun mm ts h=>∃(j:Nat) (l:List Blk),mm=os.length-j/\j<=os.length/\h=⟨.cells 58 [.str lin,.int .i64 ser,.sl 13 .no (ins.map Sf.Inst.cells),.sl 3 .no (ps.map Sf.Pend.cells),.sl 7 .no (os.map Sf.Outp.cells)]::l,[]⟩/\Sf.outsZ (if j=0 then none else os[j-1]?.map Sf.Outp.name) (os.drop j)=O/\ts 1=.ptr 0 0/\ts 101=.sl 7 .no (os.map Sf.Outp.cells)/\ts 102=.int .i64 (os.length:Nat)/\ts 103=.int .i64 (j:Nat)) os.length ?_ ?_
 ·exact⟨0,l,by omega,by omega,rfl,hO,by(exact ev0 t1),by(exact ev0 t1),by(exact ev0 (ai t1 (ai lm1 (ai lm2 lm3)))),by(exact aqg t1)⟩
 rintro mm ts h ⟨j,l,rfl,hjc,rfl,hit,t1,ta,tb,tc⟩;by_cases hj:j<os.length
 ·have hlt:(j:Int)<(os.length:Int):=by omega
  have hlt':(j:Int)<((os.map Sf.Outp.cells).length:Int):=by rw[Zl];exact hlt
  have hj0:(0:Int)<=(j:Int):=by omega
  have ei:IntKind.i64.wrap ((j:Int)+1)=((j+1:Nat):Int):=by rw[wrap64 (by omega) (by omega)];omega
  have hg:=azz Sf.Outp.cells os j hj;have hm:=ZB hj;rw[ZM hj]at hit;obtain⟨x,hx⟩:=Ex (os[j]);rw[hx]at hit hg hm;have hin:=ok.outs x hm;have ci:=fun h=>cq9 L x hin.1 hin.2 h
  have hxj:os[j]?=some x:=by rw[Zi hj,hx]
  unfold Sf.outsZ at hit;have nx:Sf.outsZ (some x.name) (os.drop (j+1))=O->Sf.outsZ (if j+1=0 then none else os[j+1-1]?.map Sf.Outp.name) (os.drop (j+1))=O:=fun e=>by rw[if_neg (by omega),Nat.add_sub_cancel,hxj];exact e
  obtain⟨Z1,hZ1⟩:=Ex (Sf.outZ x);rw[hZ1]at ci hit;clear hZ1;obtain⟨m,⟨k,n,s,is,ks⟩,b⟩:=x;simp only[Sf.Outp.cells]at hg ci;dsimp only at hit nx;refine azb (ai t1 (ai ta (ai tb (ai tc (ai hlt (ai hg (ai hlt' hj0))))))) ?_;refine use (ci _) ?_;by_cases hz:Z1=0
  rotate_left
  ·have e1:(Z1 !=0)=true:=by simp[hz]
   rw[if_pos hz]at hit;refine azb (ai t1 (ai ta (ai tb (ai tc e1)))) ?_;exact⟨_,le_refl _,by rw[fj2,<-hit];rfl⟩
  have e1:(Z1 !=0)=false:=by simp[hz]
  rw[if_neg (by simp[hz])]at hit;cases j with
  |zero=>
   have h0:¬((0:Nat):Int)>0:=by omega
   rw[if_neg (by simp[Val.badB])]at hit;refine azb (ai t1 (ai ta (ai tb (ai tc (ai e1 (ai h0 ei)))))) ?_;exact⟨os.length-(0+1),by omega,0+1,l++[.cells 42 [.str m,.int .i64 k,.int .i64 n,.str s,.sl 5 .no (V.cellss is),.sl 1 .no (strsA ks),.bool b]],rfl,by omega,rfl,nx hit,by(exact ev0 t1),by(exact ev0 ta),by(exact ev0 tb),by(exact ev0 ei)⟩
  |succ i=>
   have h0:((i+1:Nat):Int)>0:=by omega
   have ej:IntKind.i64.wrap (((i+1:Nat):Int)-1)=(i:Int):=by rw[wrap64 (by omega) (by omega)];omega
   have hg2:=azz Sf.Outp.cells os i (by omega);have hi':(i:Int)<((os.map Sf.Outp.cells).length:Int):=by rw[Zl];omega
   have hi0:(0:Int)<=(i:Int):=by omega
   have hki:os[i+1-1]?=some (os[i]'(by omega)):=Zi (by omega);rw[show(if i+1=0 then none else os[i+1-1]?.map Sf.Outp.name)=(some (os[i]'(by omega))).map Sf.Outp.name from by rw[if_neg (by omega),hki]]at hit;obtain⟨y,hy⟩:=Ex (os[i]'(by omega));rw[hy]at hit hg2;obtain⟨m2,⟨k2,n2,s2,is2,ks2⟩,b2⟩:=y;simp only[Sf.Outp.cells]at hg2;simp only[ZU,Val.badB]at hit;cases hb:bytesLess m2 m
   ·simp only[hb,Z0,ZW,Yb,Z8,YD,Y2,if_true]at hit;refine azb (ai t1 (ai ta (ai tb (ai tc (ai e1 (ai h0 (ai ej (ai hg2 (ai hi' (ai hi0 hb)))))))))) ?_;exact⟨_,le_refl _,by rw[fj2,<-hit];rfl⟩
   ·simp only[hb,Z0,ZW,Yb,Z8,YD,Zab,Zn,if_false]at hit;refine azb (ai t1 (ai ta (ai tb (ai tc (ai e1 (ai h0 (ai ej (ai hg2 (ai hi' (ai hi0 (ai hb ei))))))))))) ?_;exact⟨os.length-((i+1)+1),by omega,(i+1)+1,l++[.cells 42 [.str m,.int .i64 k,.int .i64 n,.str s,.sl 5 .no (V.cellss is),.sl 1 .no (strsA ks),.bool b]],rfl,by omega,rfl,nx hit,by(exact ev0 t1),by(exact ev0 ta),by(exact ev0 tb),by(exact ev0 ei)⟩
 have hlt:¬((j:Int)<(os.length:Int)):=by omega
 rw[Y7 (by omega)]at hit;unfold Sf.outsZ at hit;refine azb (ai t1 (ai ta (ai tb (ai tc (ai hlt (ai lm1 (ai lm2 lm3))))))) ?_;exact⟨_,le_refl _,by rw[fj2,<-hit];rfl⟩
end AX
end
section
open Go.RowKit
namespace AX
theorem czo:∀v:V,Val.eqB v v=true:=by
 refine V.induct fun k n s is ks ih=>?_
 rw[Val.eqB];have:Val.eqBs is is=true:=by
  have key:∀l:List V,(∀x∈l,Val.eqB x x=true)->Val.eqBs l l=true:=by
   intro l;induction l with
   |nil=>intro _;rw[Val.eqBs]
   |cons x l ihl=>
    intro hl;rw[Val.eqBs,hl x (by simp),ihl fun y hy=>hl y (by simp[hy])];rfl
  exact key is ih
 simp[this]
namespace Sf
end Sf
def akc:AX.AFn:=⟨11,aS [aR 2 (.mv (.c (.bool false)))] (aS [aM 3 0,aR 4 (.eq 4 [] true (.t 3) (.c (.nilp))),aM 5 4,aG 6 (.mv (.t 0)) 5 true,aG 7 (.nilck (.t 6)) 5 true,aG 8 (.faddr 1 (.t 7)) 5 true,aG 9 (.load false 1 (.t 8)) 5 true,aR 10 (.pick (.t 5) (.t 9) (.c (.bool false))),aM 2 10] (.ret)),[.t 2]⟩
theorem bye:AX.compFn Tryz.prog 17=some akc:=by kernel_rfl
def akz:AX.AFn:=⟨27,aS [aR 4 (.mv (.c (.nilp))),aR 5 (.mv (aI 0))] (.seq (aS [aM 8 0,aR 9 (.call 17 [.t 8]),aR 10 (.un .not (.t 9))] (.cond (.t 10) (aS [aR 4 (.mv (.c (.nilp))),aR 5 (.mv (aI 38))] (.ret)) (.skip))) (aS [aM 12 0,aM 13 1,aR 14 (.call 22 [.t 12,.t 13]),aM 11 14,aE 15 11 0,aE 16 11 1,aM 6 15,aM 7 16] (.seq (aS [aM 17 7,aR 18 (.un .not (.t 17))] (.cond (.t 18) (aS [aR 4 (.mv (.c (.nilp))),aR 5 (.mv (aI 9))] (.ret)) (.skip))) (aS [aM 19 0,aR 20 (.nilck (.t 19)),aF 21 2 20,aL 22 21,aM 23 6,aR 24 (.iaddr 2 (.t 22) (.t 23)),aF 25 1 24,aL 26 25,aM 4 26,aR 5 (.mv (aI 0))] (.ret))))),[.t 4,.t 5]⟩
theorem czp:AX.compFn Tryz.prog 10=some akz:=by kernel_rfl
def aj2:AX.AFn:=⟨54,aS [aR 4 (.alloc 32 [.int .i64 0,.int .i64 0,.str [],.sl 0 .nil [],.sl 0 .nil []]),aR 5 (.mv (aI 0))] (.seq (aS [aM 12 0,aR 13 (.call 17 [.t 12]),aR 14 (.un .not (.t 13))] (.cond (.t 14) (aS [aR 15 (.build [.int .i64 0,.int .i64 0,.str [],.sl 0 .nil [],.sl 0 .nil []] []),aU (.store 5 (.t 4) (.t 15)),aR 5 (.mv (aI 38))] (.ret)) (.skip))) (aS [aR 16 (.build [.int .i64 0,.int .i64 0,.str [],.sl 0 .nil [],.sl 0 .nil []] [(0,1,aI 5)]),aR 6 (.alloc 32 [.int .i64 0,.int .i64 0,.str [],.sl 0 .nil [],.sl 0 .nil []]),aU (.store 5 (.t 6) (.t 16))] (.seq (aS [aM 17 0,aR 18 (.nilck (.t 17)),aF 19 2 18,aL 20 19,aR 21 (.len false (.t 20)),aR 22 (.mv (aI 0))] (.block 0 (.loop (aS [aR 23 (.bin .lss (.t 22) (.t 21))] (.seq (.cond (.t 23) (.skip) (.exit 0)) (.seq (.block 1 (aS [aR 24 (.iaddr 2 (.t 20) (.t 22)),aR 25 (.load true 2 (.t 24)),aR 8 (.alloc 54 [.str [],.nilp]),aU (.store 2 (.t 8) (.t 25))] (.seq (aS [aF 26 0 8,aL 27 26,aM 28 1,aR 29 (.bin .eql (.t 27) (.t 28))] (.cond (.t 29) (.exit 1) (.skip))) (aS [aF 31 1 8,aL 32 31,aR 33 (.call 18 [.t 32]),aM 30 33,aE 34 30 0,aE 35 30 1,aR 9 (.alloc 58 [.str [],.int .i64 0,.sl 0 .nil [],.sl 0 .nil [],.sl 0 .nil []]),aU (.store 5 (.t 9) (.t 34)),aM 10 35] (.seq (aS [aM 36 10,aR 37 (.bin .neq (.t 36) (aI 0))] (.cond (.t 37) (aS [aR 38 (.build [.int .i64 0,.int .i64 0,.str [],.sl 0 .nil [],.sl 0 .nil []] []),aM 39 10,aU (.store 5 (.t 4) (.t 38)),aM 5 39] (.ret)) (.skip))) (.reg true [aR 40 (.load true 5 (.t 6)),aF 41 0 8,⟨some 42,.load false 1 (.t 41),none,[1]⟩,aR 43 (.load true 5 (.t 9)),⟨some 44,.call 20 [.t 43],none,[3]⟩,⟨some 45,.call 19 [.t 40,.t 42,.t 44],none,[0,2,4,4]⟩,⟨none,.store 5 (.t 6) (.t 45),none,[5,5,0,1,2,3,4,5]⟩])))))) (.reg false [aR 46 (.bin .add (.t 22) (aI 1)),aM 22 46]))))))) (.seq (aS [aR 47 (.load true 5 (.t 6)),aR 48 (.call 21 [.t 47]),aM 11 48] (aS [aM 49 11,aR 50 (.bin .neq (.t 49) (aI 0))] (.cond (.t 50) (aS [aR 51 (.build [.int .i64 0,.int .i64 0,.str [],.sl 0 .nil [],.sl 0 .nil []] []),aM 52 11,aU (.store 5 (.t 4) (.t 51)),aM 5 52] (.ret)) (.skip)))) (aS [aR 53 (.load true 5 (.t 6)),aU (.store 5 (.t 4) (.t 53)),aR 5 (.mv (aI 0))] (.ret)))))),[.c 4 true 5,.t 5]⟩
theorem bkg:AX.compFn Tryz.prog 8=some aj2:=by kernel_rfl
def avg:AX.AFn:=⟨53,aS [aR 4 (.mv (aI 0))] (.seq (aS [aM 9 0,aR 10 (.call 17 [.t 9]),aR 11 (.un .not (.t 10))] (.cond (.t 11) (aS [aR 4 (.mv (aI 38))] (.ret)) (.skip))) (.seq (aS [aM 12 1,aR 13 (.call 23 [.t 12]),aR 14 (.un .not (.t 13))] (.cond (.t 14) (aS [aR 4 (.mv (aI 7))] (.ret)) (.skip))) (aS [aM 16 0,aM 17 1,aR 18 (.call 22 [.t 16,.t 17]),aM 15 18,aE 19 15 0,aE 20 15 1,aM 5 19,aM 6 20] (.seq (aS [aM 21 6] (.cond (.t 21) (aS [aR 4 (.mv (aI 8))] (.ret)) (.skip))) (.seq (aS [aM 22 0,aR 23 (.nilck (.t 22)),aF 24 2 23,aL 25 24,aR 26 (.len false (.t 25)),aR 27 (.bin .geq (.t 26) (aI 32))] (.cond (.t 27) (aS [aR 4 (.mv (aI 14))] (.ret)) (.skip))) (aS [aM 29 0,aR 30 (.nilck (.t 29)),aF 31 0 30,aL 32 31,aM 33 1,aR 34 (.call 16 [.t 32,.t 33]),aM 28 34,aE 35 28 0,aE 36 28 1,aM 7 35,aM 8 36] (.seq (aS [aM 37 8,aR 38 (.bin .neq (.t 37) (aI 0))] (.cond (.t 38) (aS [aM 39 8,aM 4 39] (.ret)) (.skip))) (aS [aM 40 0,aM 41 0,aR 42 (.nilck (.t 41)),aF 43 2 42,aL 44 43,aM 45 5,aM 46 1,aM 47 7,aR 48 (.build [.str [],.nilp] [(0,1,.t 46),(1,1,.t 47)]),aR 49 (.mkr 54 2 [.t 48]),aR 50 (.call 24 [.t 44,.t 45,.t 49]),aR 51 (.nilck (.t 40)),aF 52 2 51,aU (.store 1 (.t 52) (.t 50))] (aS [aR 4 (.mv (aI 0))] (.ret)))))))))),[.t 4]⟩
theorem bky:AX.compFn Tryz.prog 12=some avg:=by kernel_rfl
def aj4:AX.AFn:=⟨65,aS [aR 4 (.mv (aI 0))] (.seq (aS [aM 12 0,aR 13 (.call 17 [.t 12]),aR 14 (.un .not (.t 13))] (.cond (.t 14) (aS [aR 4 (.mv (aI 38))] (.ret)) (.skip))) (aS [aM 16 0,aM 17 1,aR 18 (.call 22 [.t 16,.t 17]),aM 15 18,aE 19 15 0,aE 20 15 1,aM 5 19,aM 6 20] (.seq (aS [aM 21 6,aR 22 (.un .not (.t 21))] (.cond (.t 22) (aS [aR 4 (.mv (aI 9))] (.ret)) (.skip))) (aS [aM 23 0,aR 24 (.nilck (.t 23)),aF 25 2 24,aL 26 25,aM 27 5,aR 28 (.iaddr 2 (.t 26) (.t 27)),aF 29 1 28,aL 30 29,aM 7 30] (.seq (aS [aM 32 7,aR 33 (.call 25 [.t 32]),aM 31 33,aE 34 31 0,aE 35 31 1,aM 8 34,aM 9 35] (aS [aM 36 8,aR 37 (.bin .neq (.t 36) (.c (.str [])))] (.cond (.t 37) (aS [aR 4 (.mv (aI 24))] (.ret)) (.skip)))) (aS [aM 39 7,aR 40 (.call 18 [.t 39]),aM 38 40,aE 41 38 0,aE 42 38 1,aR 10 (.alloc 58 [.str [],.int .i64 0,.sl 0 .nil [],.sl 0 .nil [],.sl 0 .nil []]),aU (.store 5 (.t 10) (.t 41)),aM 11 42] (.seq (aS [aM 43 11,aR 44 (.bin .neq (.t 43) (aI 0))] (.cond (.t 44) (aS [aM 45 11,aM 4 45] (.ret)) (.skip))) (.seq (aS [aF 46 2 10,aL 47 46,aR 48 (.len false (.t 47)),aF 49 3 10,aL 50 49,aR 51 (.len false (.t 50)),aR 52 (.bin .add (.t 48) (.t 51)),aR 53 (.bin .gtr (.t 52) (aI 0))] (.cond (.t 53) (aS [aR 4 (.mv (aI 38))] (.ret)) (.skip))) (aS [aM 54 0,aM 55 0,aR 56 (.nilck (.t 55)),aF 57 2 56,aL 58 57,aM 59 5,aM 60 5,aR 61 (.bin .add (.t 60) (aI 1)),aR 62 (.call 26 [.t 58,.t 59,.t 61]),aR 63 (.nilck (.t 54)),aF 64 2 63,aU (.store 1 (.t 64) (.t 62))] (aS [aR 4 (.mv (aI 0))] (.ret))))))))))),[.t 4]⟩
theorem bkx:AX.compFn Tryz.prog 13=some aj4:=by kernel_rfl
def av7:AX.AFn:=⟨25,aS [aR 2 (.mv (.c (.sl 0 .nil [])))] (.seq (aS [aM 6 0,aR 7 (.call 17 [.t 6]),aR 8 (.un .not (.t 7))] (.cond (.t 8) (aS [aR 2 (.mv (.c (.sl 0 .nil [])))] (.ret)) (.skip))) (aS [aR 3 (.mv (.c (.sl 0 .nil [])))] (.seq (aS [aM 9 0,aR 10 (.nilck (.t 9)),aF 11 2 10,aL 12 11,aR 13 (.len false (.t 12)),aR 14 (.mv (aI 0))] (.block 0 (.loop (aS [aR 15 (.bin .lss (.t 14) (.t 13))] (.seq (.cond (.t 15) (.skip) (.exit 0)) (.seq (.block 1 (aS [aR 16 (.iaddr 2 (.t 12) (.t 14)),aR 17 (.load true 2 (.t 16)),aR 5 (.alloc 54 [.str [],.nilp]),aU (.store 2 (.t 5) (.t 17))] (.reg false [aM 18 3,aF 19 0 5,aL 20 19,aR 21 (.mks 1 [.t 20]),aR 22 (.app 9 1 16 (.t 18) (.t 21)),aM 3 22]))) (.reg false [aR 23 (.bin .add (.t 14) (aI 1)),aM 14 23]))))))) (aS [aM 24 3,aM 2 24] (.ret))))),[.t 2]⟩
theorem cz1:AX.compFn Tryz.prog 9=some av7:=by kernel_rfl
def bjf:AX.AFn:=⟨60,aS [aR 2 (.mv (.c (.bool false)))] (.seq (aS [aM 8 0,aR 9 (.len true (.t 8)),aR 10 (.bin .gtr (.t 9) (aI 100))] (.cond (.t 10) (aS [aR 11 (.call 5 []),aM 2 11] (.ret)) (.skip))) (aS [aR 3 (.mv (.c (.nilp)))] (aS [aM 13 3,aM 14 0,aR 15 (.call 10 [.t 13,.t 14]),aM 12 15,aE 16 12 0,aE 17 12 1,aM 4 16,aM 5 17] (aS [aM 19 3,aM 20 0,aR 21 (.call 8 [.t 19,.t 20]),aM 18 21,aE 22 18 0,aE 23 18 1,aR 6 (.alloc 32 [.int .i64 0,.int .i64 0,.str [],.sl 0 .nil [],.sl 0 .nil []]),aU (.store 5 (.t 6) (.t 22)),aM 7 23] (aS [aM 24 4,aR 25 (.eq 4 [] false (.t 24) (.c (.nilp))),aM 26 25,aG 27 (.mv (.t 5)) 26 true,aG 28 (.bin .eql (.t 27) (aI 38)) 26 true,aR 29 (.pick (.t 26) (.t 28) (.c (.bool false))),aM 30 29,aG 31 (.mv (.t 7)) 30 true,aG 32 (.bin .eql (.t 31) (aI 38)) 30 true,aR 33 (.pick (.t 30) (.t 32) (.c (.bool false))),aM 34 33,aG 35 (.load true 5 (.t 6)) 34 true,aG 36 (.build [.int .i64 0,.int .i64 0,.str [],.sl 0 .nil [],.sl 0 .nil []] []) 34 true,aG 37 (.call 11 [.t 35,.t 36]) 34 true,aR 38 (.pick (.t 34) (.t 37) (.c (.bool false))),aM 39 38,aG 40 (.mv (.t 3)) 39 true,aG 41 (.mv (.t 0)) 39 true,aG 42 (.call 12 [.t 40,.t 41]) 39 true,aG 43 (.bin .eql (.t 42) (aI 38)) 39 true,aR 44 (.pick (.t 39) (.t 43) (.c (.bool false))),aM 45 44,aG 46 (.mv (.t 3)) 45 true,aG 47 (.mv (.t 0)) 45 true,aG 48 (.call 13 [.t 46,.t 47]) 45 true,aG 49 (.bin .eql (.t 48) (aI 38)) 45 true,aR 50 (.pick (.t 45) (.t 49) (.c (.bool false))),aM 51 50,aG 52 (.mv (.t 3)) 51 true,aG 53 (.call 9 [.t 52]) 51 true,aG 54 (.len false (.t 53)) 51 true,aG 55 (.bin .eql (.t 54) (aI 0)) 51 true,aR 56 (.pick (.t 51) (.t 55) (.c (.bool false))),aM 57 56,aG 58 (.call 5 []) 57 true,aR 59 (.pick (.t 57) (.t 58) (.c (.bool false))),aM 2 59] (.ret)))))),[.t 2]⟩
theorem cyw:AX.compFn Tryz.prog 4=some bjf:=by kernel_rfl
theorem axk(h:Hp):AT 17 [.nilp] h (.bool false):=by
 refine pcall ?_ rfl rfl h;refine aza mixedT bye (by simp[akc]) ?_;dsimp only[akc];refine azn ti ti ?_;exact Fn rfl
theorem byq(s:List UInt8)(h:Hp):AT 10 [.nilp,.str s] h (.tup [.nilp,.int .i64 38]):=by
 refine pcall ?_ rfl rfl h;refine aza mixedT czp (by simp[akz]) ?_;dsimp only[akz];refine azn ti (ai axk ti) ?_;exact Fn rfl
theorem bke(s:List UInt8)(h:Hp):AT 8 [.nilp,.str s] h (.tup [.agg [.int .i64 0,.int .i64 0,.str [],.sl 0 .nil [],.sl 0 .nil []],.int .i64 38]):=by
 refine pcall ?_ rfl rfl h;refine aza mixedT bkg (by simp[aj2]) ?_;dsimp only[aj2];refine azn ti (ai axk ti) ?_;exact Fn rfl
theorem bku(s:List UInt8)(h:Hp):AT 12 [.nilp,.str s] h (.int .i64 38):=by
 refine pcall ?_ rfl rfl h;refine aza mixedT bky (by simp[avg]) ?_;dsimp only[avg];refine azn ti (ai axk ti) ?_;exact Fn rfl
theorem bwf(s:List UInt8)(h:Hp):AT 13 [.nilp,.str s] h (.int .i64 38):=by
 refine pcall ?_ rfl rfl h;refine aza mixedT bkx (by simp[aj4]) ?_;dsimp only[aj4];refine azn ti (ai axk ti) ?_;exact Fn rfl
theorem cqj(h:Hp):AT 9 [.nilp] h (.sl 0 .nil []):=by
 refine pcall ?_ rfl rfl h;refine aza mixedT cz1 (by simp[av7]) ?_;dsimp only[av7];refine azn ti (ai axk ti) ?_;exact Fn rfl
theorem cky(h:Hp):AT 11 [.agg [.int .i64 0,.int .i64 0,.str [],.sl 0 .nil [],.sl 0 .nil []],.agg [.int .i64 0,.int .i64 0,.str [],.sl 0 .nil [],.sl 0 .nil []]] h (.bool true):=by
 have hl:(V.mk 0 0 [] [] []).lens:=by unfold V.lens;exact⟨ZV _,ZV _,ZV _,(fun q hq=>by cases hq),trivial⟩
 have c:=cxn (.mk 0 0 [] [] []) (.mk 0 0 [] [] []) hl hl h;rw[czo]at c;exact ACall.args (as':=[(V.mk 0 0 [] [] []).A,(V.mk 0 0 [] [] []).A]) ⟨⟨azd _,azd _,azd _,⟨rfl,.inr rfl,.inl rfl⟩,⟨rfl,.inr rfl,.inl rfl⟩,trivial⟩,⟨azd _,azd _,azd _,⟨rfl,.inr rfl,.inl rfl⟩,⟨rfl,.inr rfl,.inl rfl⟩,trivial⟩,trivial⟩ c
theorem dqc(aw:∀h,AT 5 [] h (.bool true))(s:List UInt8):AC 4 [.str s] ⟨[],[]⟩ fun r _=>r=.bool true:=by
 refine aza mixedT cyw (by simp[bjf]) ?_;dsimp only[bjf];have c1:=byq s;have c2:=bke s;have c3:=bku s;have c4:=bwf s;have z0:(((0:Nat):Int)==0)=true:=rfl;by_cases g:(s.length:Int)>100
 ·refine azn g (ai aw ti) ?_;exact Fn rfl
 ·refine azn (ai g z0) (ai c1 (ai c2 (ai cky (ai c3 (ai c4 (ai cqj (ai aw ti))))))) ?_;exact Fn rfl
end AX
end
section
open Go.RowKit
open Go.Op (bytesLess)
namespace Sf
theorem less_trans:∀a b c:List UInt8,bytesLess a b=true->bytesLess b c=true->bytesLess a c=true
 |a,[],_,h,_=>by cases a<;>simp[bytesLess]at h
 |_,_::_,[],_,k=>by simp[bytesLess]at k
 |[],_::_,_::_,_,_=>rfl
 |x::a,y::b,z::c,h,k=>by
  simp only[bytesLess,ZY,Zg,ZF,Z5]at *;rcases h with h|⟨rfl,h⟩
  ·rcases k with k|⟨rfl,k⟩
   ·exact .inl (UInt8.lt_trans h k)
   ·exact .inl h
  ·rcases k with k|⟨rfl,k⟩
   ·exact .inl k
   ·exact .inr ⟨rfl,less_trans a b c h k⟩
theorem cmpZ_lt(a b:List UInt8):AX.cmpZ a b<0↔bytesLess a b=true:=by
 unfold AX.cmpZ;by_cases h:a=b
 ·subst h;simp[Val.less_irrefl]
 ·cases hb:bytesLess a b<;>simp[h]
theorem cmpZ_eq(a b:List UInt8):AX.cmpZ a b=0↔a=b:=by
 unfold AX.cmpZ;by_cases h:a=b
 ·simp[h]
 ·cases hb:bytesLess a b<;>simp[h]
theorem cmpZ_tri{a b:List UInt8}(h:¬AX.cmpZ a b<0):a=b\/AX.cmpZ b a<0:=by
 rw[cmpZ_lt]at *;have:=Val.less_total a b;rw[YP.2 h]at this;rcases(ZY _ _).mp this.symm with h|h
 ·exact .inr h
 ·exact .inl (eq_of_beq h).symm
theorem cmpZ_trans{a b c:List UInt8}(h:AX.cmpZ a b<0)(k:AX.cmpZ b c<0):AX.cmpZ a c<0:=by
 rw[cmpZ_lt]at *;exact less_trans a b c h k
end Sf
namespace AX
theorem bqi{i j n:Nat}(hij:i<j)(hjn:j<=n)(hn:n<=1000000):
  IntKind.i64.wrap ((i:Int)+(j:Int))=((i+j:Nat):Int)/\IntKind.u64.wrap ((i+j:Nat):Int)=((i+j:Nat):Int)/\shA .shr .u64 ((i+j:Nat):Int) 1=some (.int .u64 (((i+j)/2:Nat):Int))/\IntKind.i64.wrap (((i+j)/2:Nat):Int)=(((i+j)/2:Nat):Int)/\IntKind.i64.wrap ((((i+j)/2:Nat):Int)+1)=(((i+j)/2+1:Nat):Int):=by
 refine⟨by rw[wrap64 (by omega) (by omega)];omega,by rw[IntKind.wrap_u64];omega,?_,by rw[wrap64 (by omega) (by omega)],by rw[wrap64 (by omega) (by omega)];omega⟩;simp only[shA];rw[if_pos (by decide)];congr 2;rw[show min (Int.toNat 1) IntKind.u64.bits=1 from rfl,show((2:Int)^1)=((2:Nat):Int)from rfl,Int.fdiv_eq_ediv_of_nonneg _ (YG _)];rfl
end AX
end
section
open Go.Lib
namespace Num
def valA(n:Nat)(s:List UInt8):Nat:=s.foldl (fun n c=>10*n+(c.toNat-48)) n
theorem valA_cons(n:Nat)(c:UInt8)(s:List UInt8):valA n (c::s)=valA (10*n+(c.toNat-48)) s:=by unfold valA;rw[List.foldl_cons]
theorem val_valA(s:List UInt8):val s=valA 0 s:=rfl
theorem valA_ge:∀(s:List UInt8) (n:Nat),n*10^s.length<=valA n s
 |[],n=>by simp[valA]
 |c::s,n=>by
  rw[valA_cons,Zf,Nat.pow_succ];refine Zr ?_ (valA_ge s _);have e:n*(10^s.length*10)=(10*n)*10^s.length:=by
   rw[Nat.mul_comm (10^s.length) 10,<-Nat.mul_assoc,Nat.mul_comm n 10]
  rw[e];exact Yl _ (by omega)
theorem valA_le(s:List UInt8)(n:Nat):n<=valA n s:=by
 have h:=valA_ge s n;have h1:1<=10^s.length:=Nat.one_le_pow _ _ (by omega);exact Zr (by simpa using Nat.mul_le_mul_left n h1) h
theorem digB_iff(c:UInt8):digB c=true↔48<=c.toNat/\c.toNat<=57:=by simp[digB]
theorem uintM_digits:∀(l:List UInt8) (acc:Nat),l.all digB=true->parseUintM 18446744073709551615 acc l=if valA acc l<=18446744073709551615 then .ok (valA acc l)else if l=[]then .ok acc else .range
 |[],acc,_=>by simp[parseUintM,valA]
 |c::r,acc,h=>by
  rw[ZH,Zg,digB_iff]at h;have h1:=valA_le r (10*acc+(c.toNat-48));rw[valA_cons];unfold parseUintM;rw[if_pos h.1];split
  ·rw[if_neg (by omega),if_neg (by simp)]
  ·split
   ·rw[if_neg (by omega),if_neg (by simp)]
   ·rw[uintM_digits r _ h.2,Nat.mul_comm acc 10];by_cases hv:valA (10*acc+(c.toNat-48)) r<=18446744073709551615
    ·rw[if_pos hv,if_pos hv]
    ·rw[if_neg hv,if_neg hv,if_neg (show¬(c::r=[]) by simp)];cases r with
     |nil=>
      exfalso
      apply hv;unfold valA;rw[List.foldl_nil];omega
     |cons d q=>rw[if_neg (by simp)]
def body(s:List UInt8):List UInt8:=if s.getD 0 0==45 then s.drop 1 else s
def canonB(s:List UInt8):Bool:=digits (body s)&&!(s.getD 0 0==45&&body s == [48])
theorem digits_long{t:List UInt8}(h:digits t=true)(hl:16<t.length):9007199254740992<val t:=by
 cases t with
 |nil=>simp at hl
 |cons c r=>
  unfold digits at h;rw[Zg,ZY,Z5,Zg,ZH,Zg,digB_iff]at h;obtain⟨⟨h1,h2⟩,h3⟩:=h;rcases h3 with h3|h3
  ·injection h3 with _ h3;subst h3;simp at hl
  ·have h4:c≠48:=by simpa using h3.2
   have h5:c.toNat≠48:=fun e=>h4 (YE.1 (by simpa using e))
   have h6:=valA_ge r (c.toNat-48);have h7:10^16<=10^r.length:=YF (by omega) (by simp at hl;omega);have h8:1*10^r.length<=(c.toNat-48)*10^r.length:=Yl _ (by omega);have e:val (c::r)=valA (c.toNat-48) r:=by rw[val_valA,valA_cons];simp
   rw[e];have h9:(10:Nat)^16=10000000000000000:=by decide
   omega
theorem parse_form(s:List UInt8):parse s=if canonB s=false then(0,2)else if 9007199254740992<val (body s)then(0,5)else(if s.getD 0 0==45 then -(val (body s):Int)else(val (body s):Int),0):=by
 have e:parse s=if(!digits (body s)||(s.getD 0 0==45&&body s == [48]))=true then(0,2)else if 16<(body s).length then(0,5)else if 9007199254740992<val (body s)then(0,5)else(if s.getD 0 0==45 then -(val (body s):Int)else(val (body s):Int),0):=rfl
 rw[e];unfold canonB;cases hd:digits (body s)
 ·simp
 ·cases hm:(s.getD 0 0==45&&body s == [48])
  ·simp only[Yb,Zab,Zn,if_false,Z8,Bool.and_self,Bool.true_eq_false];split
   ·next hl=>rw[if_pos (digits_long hd hl)]
   ·rfl
  ·simp
theorem parseIntB_canon(s:List UInt8)(h:canonB s=true):
  (val (body s)<=9007199254740992/\parseIntB 64 s=.ok (if s.getD 0 0==45 then -(val (body s):Int)else(val (body s):Int))) \/
  (9007199254740992<val (body s)/\(parseIntB 64 s=.range\/∃v,parseIntB 64 s=.ok v/\¬(-9007199254740992<=v/\v<=9007199254740992))):=by
 unfold canonB at h;rw[Zg]at h;obtain⟨hd,_⟩:=h;cases s with
 |nil=>simp[body,digits]at hd
 |cons c r=>
  have hne:body (c::r)≠[]:=by
   intro e;rw[e]at hd;simp[digits]at hd
  have hall:(body (c::r)).all digB=true:=by
   unfold digits at hd;rw[Zg]at hd;exact hd.1
  have hneg:((c::r).getD 0 0==45)=decide (c.toNat=45):=by
   show(c==45)=_
   rw[Y0,Z5,ZF];exact⟨fun e=>by rw[e];rfl,fun e=>YE.1 (by simpa using e)⟩
  have h43:c.toNat≠43:=by
   intro e;have e2:((c::r).getD 0 0==45)=false:=by rw[hneg];simp[e]
   unfold body at hall;rw[e2]at hall;simp only[Zn,if_false,ZH,Zg,digB_iff]at hall;omega
  have hb:(if c.toNat=43\/c.toNat=45 then r else c::r)=body (c::r):=by
   unfold body;rw[hneg];by_cases e:c.toNat=45
   ·simp[e]
   ·simp[e,h43]
  have hu:parseUintB 64 (body (c::r))=if val (body (c::r))<=18446744073709551615 then .ok (val (body (c::r)))else .range:=by
   unfold parseUintB;rw[if_neg hne];have:=uintM_digits _ 0 hall;rw[if_neg hne,<-val_valA]at this;exact this
  have hp:parseIntB 64 (c::r)=match parseUintB 64 (body (c::r))with
    |NumEnd.syntax=>NumEnd.syntax
    |.range=> .range
    |.ok u=>if¬c.toNat=45/\2^(64-1)<=u then .range else if c.toNat=45/\2^(64-1)<u then .range else .ok (if c.toNat=45 then -(u:Int)else u):=by
   rw[<-hb];rfl
  rw[hp,hu,hneg];have e63:2^(64-1)=9223372036854775808:=by decide
  rw[e63];generalize val (body (c::r))=u;by_cases hm:u<=9007199254740992
  ·refine .inl ⟨hm,?_⟩;rw[if_pos (by omega)];dsimp only;rw[if_neg (by omega),if_neg (by omega)];simp
  ·refine .inr ⟨by omega,?_⟩;by_cases h64:u<=18446744073709551615
   ·rw[if_pos h64];dsimp only;split
    ·exact .inl rfl
    ·split
     ·exact .inl rfl
     ·refine .inr ⟨_,rfl,?_⟩;split<;>omega
   ·rw[if_neg h64];exact .inl rfl
end Num
end
section
open Go.RowKit
open Go.Op (bytesLess)
namespace Num
theorem digB_int(c:UInt8):digB c=(decide (48<=(c.toNat:Int))&&decide ((c.toNat:Int)<=57)):=by
 unfold digB;have e1:decide (48<=c.toNat)=decide (48<=(c.toNat:Int)):=decide_eq_decide.2 (by omega);have e2:decide (c.toNat<=57)=decide ((c.toNat:Int)<=57):=decide_eq_decide.2 (by omega);rw[e1,e2]
theorem all_fail{s:List UInt8}{j:Nat}(hj:j<s.length)(h:digB (s.getD j 0)=false):digits s=false:=by
 have:s.all digB=false:=by
  rw[List.all_eq_false];refine⟨s[j],ZB hj,?_⟩;have e:s.getD j 0=s[j]:=by simp[List.getD,hj]
  rw[e]at h;rw[h];decide
 unfold digits;rw[this];rfl
theorem all_end{s:List UInt8}(h:∀k,k<s.length->digB (s.getD k 0)=true):digits s=(s != []&&(s.getD 0 0 !=48||s.length==1)):=by
 have h1:s.all digB=true:=by
  rw[ZD];intro x hx;obtain⟨j,hj,rfl⟩:=List.getElem_of_mem hx;have:=h j hj;have e:s.getD j 0=s[j]:=by simp[List.getD,hj]
  rwa [e]at this
 unfold digits;rw[h1,Z0]
 match s with
 |[]=>rfl
 |[c]=>
  by_cases e:c=48
  ·subst e;rfl
  ·have e1:(c==48)=false:=by simp[e]
   have e2:([c] == [48])=false:=by simp[e]
   have e3:(c !=48)=true:=by simp[e]
   show([c] == [48]||([c] != []&&c !=48))=([c] != []&&(c !=48||([c].length==1)))
   rw[e2,e3];rfl
 |c::d::r=>simp
end Num
namespace AX
def bjp:AX.AFn:=⟨44,aS [aR 2 (.mv (.c (.bool false)))] (.seq (aS [aM 4 0,aR 5 (.len true (.t 4)),aR 6 (.bin .gtr (.t 5) (aI 0)),aM 7 6,aG 8 (.mv (.t 0)) 7 true,aG 9 (.sidx (.t 8) (aI 0)) 7 true,aG 10 (.bin .eql (.t 9) (.c (.int .u8 45))) 7 true,aR 11 (.pick (.t 7) (.t 10) (.c (.bool false)))] (.cond (.t 11) (aS [aM 12 0,aR 13 (.ssl (.t 12) (some (aI 1)) none),aM 0 13] (aS [aM 14 0,aR 15 (.bin .eql (.t 14) (.c (.str [48])))] (.cond (.t 15) (aS [aR 2 (.mv (.c (.bool false)))] (.ret)) (.skip)))) (.skip))) (.seq (aS [aM 16 0,aR 17 (.len true (.t 16)),aR 18 (.mv (aI 0))] (.block 0 (.loop (aS [aR 19 (.bin .lss (.t 18) (.t 17))] (.seq (.cond (.t 19) (.skip) (.exit 0)) (.seq (.block 1 (aS [aM 20 18,aM 3 20] (aS [aM 21 0,aM 22 3,aR 23 (.sidx (.t 21) (.t 22)),aR 24 (.bin .lss (.t 23) (.c (.int .u8 48))),aM 25 24,aG 26 (.mv (.t 0)) 25 false,aG 27 (.mv (.t 3)) 25 false,aG 28 (.sidx (.t 26) (.t 27)) 25 false,aG 29 (.bin .gtr (.t 28) (.c (.int .u8 57))) 25 false,aR 30 (.pick (.t 25) (.c (.bool true)) (.t 29))] (.cond (.t 30) (aS [aR 2 (.mv (.c (.bool false)))] (.ret)) (.skip))))) (.reg false [aR 31 (.bin .add (.t 18) (aI 1)),aM 18 31]))))))) (aS [aM 32 0,aR 33 (.bin .neq (.t 32) (.c (.str []))),aM 34 33,aG 35 (.mv (.t 0)) 34 true,aG 36 (.sidx (.t 35) (aI 0)) 34 true,aG 37 (.bin .neq (.t 36) (.c (.int .u8 48))) 34 true,aG 38 (.mv (.t 37)) 34 true,aG 39 (.mv (.t 0)) 38 false,aG 40 (.len true (.t 39)) 38 false,aG 41 (.bin .eql (.t 40) (aI 1)) 38 false,aG 42 (.pick (.t 38) (.c (.bool true)) (.t 41)) 34 true,aR 43 (.pick (.t 34) (.t 42) (.c (.bool false))),aM 2 43] (.ret)))),[.t 2]⟩
theorem cwh:AX.compFn Tryz.prog 144=some bjp:=by kernel_rfl
theorem bwk(c:UInt8)(n:UInt8):((c.toNat:Int)==(n.toNat:Int))=(c==n):=by
 rw[Y0,Z5,Z5];exact⟨fun e=>YE.1 (by omega),fun e=>by rw[e]⟩
theorem bkc{P:Program}{G:World->Prop}{f:FuncId}{args:List A}{vs:List Value}{w:World}{b:Bool}(hc:ACall P G f args ⟨[],[]⟩ fun v _=>v=.bool b)(hG:∀w':World,(∀g,g<w.heap.size->w'.heap[g]?=w.heap[g]?)->G w')
  (ha:RepL (Ctx.of w) args vs):Calls P f vs.toArray w fun e w'=>e=.returned (.bool b)/\Below w.heap.size w w':=by
 refine(hc (Ctx.of w) vs (inv_of hG) ha).mono ?_;rintro e w' ⟨C',h',v,cv,rfl,rfl,_,st,hr,rfl⟩;rw[aqc]at hr;subst hr;exact⟨rfl,st.os,st.tape,st.output,st.size,fun g hg=>st.frame g hg rfl fun t ht=>by simp[Ctx.of]at ht⟩
theorem cyb(s:List UInt8)(hl:s.length<=2000000)(h:Hp):AT 144 [.str s] h (.bool (Num.canonB s)):=by
 refine pcall ?_ rfl (by simp[A.pure,A.data]) h;refine aza mixedT cwh (by simp[bjp]) ?_;dsimp only[bjp];obtain⟨R,hR⟩:=Ex (Num.canonB s);rw[hR];unfold Num.canonB Num.body at hR;by_cases hn:s=[]
 ·subst hn;have e0:¬((0:Nat):Int)>0:=by decide
  have e1:¬(0:Int)<((0:Nat):Int):=by decide
  have hR':R=false:=by rw[<-hR];rfl
  subst hR';refine azb e0 ?_;refine ajc ?_;refine azb e1 ?_;exact Fn rfl
 have hpos:(s.length:Int)>0:=by
  have:=Yp.2 hn;omega
 have h0:(0:Int)<(s.length:Int):=hpos;obtain⟨c,hc⟩:=Ex (s.getD 0 0);rw[hc]at hR;have e45:((c.toNat:Int)==45)=(c==45):=bwk c 45;have hbody:∃t:List UInt8,t=(if c==45 then s.drop 1 else s):=⟨_,rfl⟩;obtain⟨t,ht⟩:=hbody;rw[<-ht]at hR;have htl:t.length<=2000000:=by
  rw[ht];split
  ·rw[Zw];omega
  ·exact hl
 have hgr:∀j:Nat,t.getD j 0=t.getD j 0:=fun _=>rfl
 have h1le:(1:Int)<=(s.length:Int):=by omega
 have z1:(0:Int)<=1:=by decide
 have n1:(1:Int).toNat=1:=rfl;have n0:(0:Int).toNat=0:=rfl;have key:∀{G:Prop},((c==45)=true->t=s.drop 1->G)->((c==45)=false->t=s->G)->G:=fun p q=>by
  cases e:c==45
  ·exact q e (by rw[ht,e];rfl)
  ·exact p e (by rw[ht,e];rfl)
 refine key (fun m1 m2=>?_) (fun m1 m2=>?_)
 ·rw[m1,Z0]at hR;have m3:s.drop 1=t:=m2.symm;have e10:((c.toNat:Int)==45)=true:=by rw[e45,m1]
  cases h48:t == [48];rotate_left
  ·rw[h48]at hR;have hR':R=false:=by rw[<-hR,Yb,Zad]
   subst hR';refine azb (ai hpos (ai h0 (ai n0 (ai hc (ai e10 (ai h1le (ai z1 (ai n1 (ai m3 h48))))))))) ?_;exact Fn rfl
  rw[h48,Z8,ZW]at hR;refine azb (ai hpos (ai h0 (ai n0 (ai hc (ai e10 (ai h1le (ai z1 (ai n1 (ai m3 h48))))))))) ?_;refine azh (fun mm ts h=>∃(j:Nat),mm=t.length-j/\j<=t.length/\h=⟨[],[]⟩/\(∀k,k<j->Num.digB (t.getD k 0)=true)/\ts 0=.str t/\ts 17=.int .i64 (t.length:Nat)/\ts 18=.int .i64 (j:Nat)) t.length ?_ ?_
  ·exact⟨0,by omega,by omega,rfl,fun k hk=>absurd hk (Nat.not_lt_zero k),by(exact ev0 m3),by(exact ev0 m3),by(exact aqg ti)⟩
  rintro mm ts h ⟨j,rfl,hjc,rfl,hok,t0,t17,t18⟩;by_cases hj:j<t.length
  ·have hlt:(j:Int)<(t.length:Int):=by omega
   have hj0:(0:Int)<=(j:Int):=by omega
   have ei:IntKind.i64.wrap ((j:Int)+1)=((j+1:Nat):Int):=by rw[wrap64 (by omega) (by omega)];omega
   obtain⟨b,hb⟩:=Ex (t.getD j 0);have hdg:=Num.digB_int b;obtain⟨x,hx⟩:∃x:Int,(b.toNat:Int)=x:=⟨_,rfl⟩;rw[hx]at hdg;by_cases x1:x<48
   ·have hR':R=false:=by rw[<-hR];exact Num.all_fail hj (by rw[hb,hdg,YB (by omega)];rfl)
    subst hR';refine azb (ai t0 (ai t17 (ai t18 (ai hlt (ai hj0 (ai hb (ai hx x1))))))) ?_;exact Fn rfl
   by_cases x2:x>57
   ·have hR':R=false:=by rw[<-hR];exact Num.all_fail hj (by rw[hb,hdg,Yt (show 48<=x by omega),YB (by omega)];rfl)
    subst hR';refine azb (ai t0 (ai t17 (ai t18 (ai hlt (ai hj0 (ai hb (ai hx (ai x1 x2)))))))) ?_;exact Fn rfl
   ·refine azb (ai t0 (ai t17 (ai t18 (ai hlt (ai hj0 (ai hb (ai hx (ai x1 (ai x2 ei))))))))) ?_;refine⟨t.length-(j+1),by omega,j+1,rfl,by omega,rfl,fun k hk=>?_,by(exact ev0 t0),by(exact ev0 t17),by(exact ev0 ei)⟩;by_cases e:k=j
    ·rw[e,hb,hdg,Yt (show 48<=x by omega),Yt (show x<=57 by omega)];rfl
    ·exact hok k (by omega)
  ·have hlt:¬((j:Int)<(t.length:Int)):=by omega
   have hje:j=t.length:=by omega
   rw[hje]at hok;have hE:=Num.all_end hok;rw[hR]at hE;cases hnt:t != []
   ·rw[hnt,YC]at hE;subst hE;refine azb (ai t0 (ai t17 (ai t18 (ai hlt hnt)))) ?_;exact Fn rfl
   rw[hnt,Z0]at hE;have hp2:(0:Int)<(t.length:Int):=by
    have:t≠[]:=by simpa using hnt
    have:=Yp.2 this;omega
   obtain⟨b,hb⟩:=Ex (t.getD 0 0);rw[hb]at hE;have e48:((b.toNat:Int)!=48)=(b !=48):=congrArg (!·) (bwk b 48);cases hb48:b !=48
   ·rw[hb48,YD]at hE;rw[hb48]at e48;have el:((t.length:Int)==1)=(t.length==1):=by
     rw[Y0,Z5,Z5];omega
    rw[<-hE]at el;refine azb (ai t0 (ai t17 (ai t18 (ai hlt (ai hnt (ai hp2 (ai n0 (ai hb (ai e48 el))))))))) ?_;exact Fn rfl
   ·rw[hb48,Y2]at hE;subst hE;rw[hb48]at e48;refine azb (ai t0 (ai t17 (ai t18 (ai hlt (ai hnt (ai hp2 (ai n0 (ai hb e48)))))))) ?_;exact Fn rfl
 ·have e10:((c.toNat:Int)==45)=false:=by rw[e45,m1]
  rw[m1,YC,Z8,ZW]at hR;have m3:s=t:=m2.symm;refine azb (ai hpos (ai h0 (ai n0 (ai hc e10)))) ?_;refine azh (fun mm ts h=>∃(j:Nat),mm=t.length-j/\j<=t.length/\h=⟨[],[]⟩/\(∀k,k<j->Num.digB (t.getD k 0)=true)/\ts 0=.str t/\ts 17=.int .i64 (t.length:Nat)/\ts 18=.int .i64 (j:Nat)) t.length ?_ ?_
  ·exact⟨0,by omega,by omega,rfl,fun k hk=>absurd hk (Nat.not_lt_zero k),by(exact ev0 m3),by(exact ev0 m3),by(exact aqg ti)⟩
  rintro mm ts h ⟨j,rfl,hjc,rfl,hok,t0,t17,t18⟩;by_cases hj:j<t.length
  ·have hlt:(j:Int)<(t.length:Int):=by omega
   have hj0:(0:Int)<=(j:Int):=by omega
   have ei:IntKind.i64.wrap ((j:Int)+1)=((j+1:Nat):Int):=by rw[wrap64 (by omega) (by omega)];omega
   obtain⟨b,hb⟩:=Ex (t.getD j 0);have hdg:=Num.digB_int b;obtain⟨x,hx⟩:∃x:Int,(b.toNat:Int)=x:=⟨_,rfl⟩;rw[hx]at hdg;by_cases x1:x<48
   ·have hR':R=false:=by rw[<-hR];exact Num.all_fail hj (by rw[hb,hdg,YB (by omega)];rfl)
    subst hR';refine azb (ai t0 (ai t17 (ai t18 (ai hlt (ai hj0 (ai hb (ai hx x1))))))) ?_;exact Fn rfl
   by_cases x2:x>57
   ·have hR':R=false:=by rw[<-hR];exact Num.all_fail hj (by rw[hb,hdg,Yt (show 48<=x by omega),YB (by omega)];rfl)
    subst hR';refine azb (ai t0 (ai t17 (ai t18 (ai hlt (ai hj0 (ai hb (ai hx (ai x1 x2)))))))) ?_;exact Fn rfl
   ·refine azb (ai t0 (ai t17 (ai t18 (ai hlt (ai hj0 (ai hb (ai hx (ai x1 (ai x2 ei))))))))) ?_;refine⟨t.length-(j+1),by omega,j+1,rfl,by omega,rfl,fun k hk=>?_,by(exact ev0 t0),by(exact ev0 t17),by(exact ev0 ei)⟩;by_cases e:k=j
    ·rw[e,hb,hdg,Yt (show 48<=x by omega),Yt (show x<=57 by omega)];rfl
    ·exact hok k (by omega)
  ·have hlt:¬((j:Int)<(t.length:Int)):=by omega
   have hje:j=t.length:=by omega
   rw[hje]at hok;have hE:=Num.all_end hok;rw[hR]at hE;cases hnt:t != []
   ·rw[hnt,YC]at hE;subst hE;refine azb (ai t0 (ai t17 (ai t18 (ai hlt hnt)))) ?_;exact Fn rfl
   rw[hnt,Z0]at hE;have hp2:(0:Int)<(t.length:Int):=by
    have:t≠[]:=by simpa using hnt
    have:=Yp.2 this;omega
   obtain⟨b,hb⟩:=Ex (t.getD 0 0);rw[hb]at hE;have e48:((b.toNat:Int)!=48)=(b !=48):=congrArg (!·) (bwk b 48);cases hb48:b !=48
   ·rw[hb48,YD]at hE;rw[hb48]at e48;have el:((t.length:Int)==1)=(t.length==1):=by
     rw[Y0,Z5,Z5];omega
    rw[<-hE]at el;refine azb (ai t0 (ai t17 (ai t18 (ai hlt (ai hnt (ai hp2 (ai n0 (ai hb (ai e48 el))))))))) ?_;exact Fn rfl
   ·rw[hb48,Y2]at hE;subst hE;rw[hb48]at e48;refine azb (ai t0 (ai t17 (ai t18 (ai hlt (ai hnt (ai hp2 (ai n0 (ai hb e48)))))))) ?_;exact Fn rfl
end AX
theorem bqc(l:List UInt8)(hl:l.length<=2000000)(w:World)(g:GT w):
  Calls Tryz.prog 131 #[.string ⟨l.toArray⟩] w fun e w'=>e=.returned (.tuple #[.int .i64 (Num.parse l).1,.int .i64 (Num.parse l).2])/\Below w.heap.size w w':=by
 have hc:=AX.bkc (w:=w) (vs:=[.string ⟨l.toArray⟩]) ((AX.cyb l hl ⟨[],[]⟩).mono fun v h' hv=>hv.1) (AX.czj g) (AX.repL_cons.2 ⟨_,_,rfl,AX.rep_str.2 rfl,AX.azo.2 rfl⟩);have hf:=Num.parse_form l;obtain⟨P1,hP1⟩:=Ex (Num.parse l);rw[hP1]at hf⊢;cases hB:Num.canonB l
 ·rw[hB,if_pos rfl]at hf;subst hf;rw[hB]at hc;go_enter Tryz.func131,Tryz.ntmps131;go_wp2_with fail;refine hc.mono ?_;rintro e w1 ⟨rfl,b1⟩;have B1:=kept b1;clear b1;go_wp2;refine bodyPost_ret (v:=.tuple #[.int .i64 0,.int .i64 2]) (by simp[results,Tryz.results131,go_sem]) rfl ⟨rfl,B1.out⟩
 ·rw[hB,if_neg (by decide)]at hf;rw[hB]at hc;have hsz:(⟨l.toArray⟩:ByteArray).size<=9223372036854775806:=by rw[size_mk];omega
  have hlim:(⟨l.toArray⟩:ByteArray).size<=281474976710656:=by rw[size_mk];omega
  have hsyn:=g.esyn;obtain⟨ev,hev,hev2⟩:=g.erng;have nilne:∀(a b:Value),True:=fun _ _=>AX.ti
  rcases Num.parseIntB_canon l hB with⟨h1,h2⟩|⟨h1,h2|⟨v,h2,h3⟩⟩
  ·rw[if_neg (by omega)]at hf;obtain⟨v,hv⟩:∃v:Int,(if l.getD 0 0==45 then -(Num.val (Num.body l):Int)else(Num.val (Num.body l):Int))=v:=⟨_,rfl⟩;rw[hv]at h2 hf;have hvr:-9007199254740992<=v/\v<=9007199254740992:=by rw[<-hv];split<;>omega
   have hp:∀w':World,Calls Tryz.prog 145 #[.string ⟨l.toArray⟩,.int .i64 10,.int .i64 64] w' fun e w2=>e=.returned (.tuple #[.int .i64 v,.nilIface])/\(w2=w'\/∃t,w2=Lib.bytesWorld w' 5 t):=fun w'=>Any.strconv_ParseInt_10_at64_ok (P:=Tryz.prog) Tryz.lays174 ⟨l.toArray⟩ hsz v h2 w'
   have Hnv:=kept (fun w'=>axf v w');rw[Yt hvr]at Hnv;subst hf;have Hp:=kept hp;clear hp hsz hlim hsyn hev hev2 hvr hv h1 h2 hB;go_enter Tryz.func131,Tryz.ntmps131;go_wp2_with fail;refine hc.mono ?_;rintro e w1 ⟨rfl,b1⟩;have B1:=kept b1;clear b1;go_wp2_with fail;(with_reducible refine(Hp.out _).mono ?_);rintro e w2 ⟨rfl,hw⟩
   have B2:Kept (Below w.heap.size w w2):=kept (by
    rcases hw with rfl|⟨t,rfl⟩
    ·exact B1.out
    ·exact bthen B1.out (Lib.bytesWorld_below _ _ _))
   clear hw;go_wp2_with fail;(with_reducible refine(Hnv.out _).mono ?_);rintro e w3 ⟨rfl,rfl⟩
   go_wp2;refine bodyPost_ret (v:=.tuple #[.int .i64 v,.int .i64 0]) (by simp[results,Tryz.results131,go_sem]) rfl ⟨rfl,B2.out⟩
  ·rw[if_pos (by omega)]at hf;have hp:∀w':World,w'.cell? ⟨4,0,none⟩=some ev->Calls Tryz.prog 145 #[.string ⟨l.toArray⟩,.int .i64 10,.int .i64 64] w' fun e w2=>(∃a b c,e=.returned (.tuple #[.int .i64 a,.iface b c]))/\Below w'.heap.size w' w2:=fun w' hv=>(Any.strconv_ParseInt_10_at64_range (P:=Tryz.prog) Tryz.lays174 ⟨l.toArray⟩ hlim h2 ev w' hv hev2).mono fun e w2 ⟨N,q1,q2,q3,q4⟩=>⟨⟨_,_,_,q1⟩,q4⟩
   subst hf;have Hp:=kept hp;have Hev:=kept hev;clear hp hsz hlim hsyn hev hev2 h1 h2 hB;go_enter Tryz.func131,Tryz.ntmps131;go_wp2_with fail;refine hc.mono ?_;rintro e w1 ⟨rfl,b1⟩;have B1:=kept b1;have Hev1:=kept (show w1.cell? ⟨4,0,none⟩=some ev from by rw[<-Hev.out];simp only[World.cell?,b1.block _ (axx Hev.out).2]);clear b1;go_wp2_with fail;(with_reducible refine(Hp.out _ Hev1.out).mono ?_);rintro e w2 ⟨⟨a,b,c,rfl⟩,b2⟩
   have B2:Kept (Below w.heap.size w w2):=kept (bthen B1.out b2);clear b2;go_wp2;refine bodyPost_ret (v:=.tuple #[.int .i64 0,.int .i64 5]) (by simp[results,Tryz.results131,go_sem]) rfl ⟨rfl,B2.out⟩
  ·rw[if_pos (by omega)]at hf;have hp:∀w':World,Calls Tryz.prog 145 #[.string ⟨l.toArray⟩,.int .i64 10,.int .i64 64] w' fun e w2=>e=.returned (.tuple #[.int .i64 v,.nilIface])/\(w2=w'\/∃t,w2=Lib.bytesWorld w' 5 t):=fun w'=>Any.strconv_ParseInt_10_at64_ok (P:=Tryz.prog) Tryz.lays174 ⟨l.toArray⟩ hsz v h2 w'
   have Hnv:=kept (fun w'=>axf v w');rw[YB h3]at Hnv;subst hf;have Hp:=kept hp;clear hp hsz hlim hsyn hev hev2 h3 h1 h2 hB;go_enter Tryz.func131,Tryz.ntmps131;go_wp2_with fail;refine hc.mono ?_;rintro e w1 ⟨rfl,b1⟩;have B1:=kept b1;clear b1;go_wp2_with fail;(with_reducible refine(Hp.out _).mono ?_);rintro e w2 ⟨rfl,hw⟩
   have B2:Kept (Below w.heap.size w w2):=kept (by
    rcases hw with rfl|⟨t,rfl⟩
    ·exact B1.out
    ·exact bthen B1.out (Lib.bytesWorld_below _ _ _))
   clear hw;go_wp2_with fail;(with_reducible refine(Hnv.out _).mono ?_);rintro e w3 ⟨rfl,rfl⟩
   go_wp2;refine bodyPost_ret (v:=.tuple #[.int .i64 0,.int .i64 5]) (by simp[results,Tryz.results131,go_sem]) rfl ⟨rfl,B2.out⟩
theorem AX.a_numParse(s:List UInt8)(hl:s.length<=2000000)(h:AX.Hp):AX.AT 131 [.str s] h (.tup [.int .i64 (Num.parse s).1,.int .i64 (Num.parse s).2]):=
 AX.azt (AX.aj9 AX.aq3) (fun w hg=>bqc s hl w hg) (fun C=>AX.rep_tup.2 ⟨_,rfl,AX.repL_cons.2 ⟨_,_,rfl,AX.rep_int.2 rfl,AX.repL_cons.2 ⟨_,_,rfl,AX.rep_int.2 rfl,AX.azo.2 rfl⟩⟩⟩) h
end
end Go.Proofs.YtnffmgmidghfhaaGreatDoor
