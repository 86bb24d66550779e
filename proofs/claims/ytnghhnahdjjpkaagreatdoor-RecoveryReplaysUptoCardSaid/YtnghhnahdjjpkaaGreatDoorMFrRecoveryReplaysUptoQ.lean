/- Part of what the proof needs. -/
import Derived.Test.YtnghhnahdjjpkaaGreatDoorMFrRecoveryReplaysUpto0
import Derived.Test.YtnghhnahdjjpkaaGreatDoorMFrRecoveryReplaysUptoG
import Derived.Test.YtnghhnahdjjpkaaGreatDoorMFrRecoveryReplaysUptoI
import Derived.Test.YtnghhnahdjjpkaaGreatDoorMFrRecoveryReplaysUptoM
import Derived.Test.YtnghhnahdjjpkaaGreatDoorMFrRecoveryReplaysUptoN
import Derived.Test.YtnghhnahdjjpkaaGreatDoorMFrRecoveryReplaysUptoO
import Derived.Test.YtnghhnahdjjpkaaGreatDoorMFrRecoveryReplaysUptoP
import Derived.Test.YtnghhnahdjjpkaaGreatDoorRows
set_option maxHeartbeats 4000000
set_option maxRecDepth 100000
set_option linter.all false
namespace Go.Proofs.YtnghhnahdjjpkaaGreatDoor
section
open Go.RowKit
namespace AX
def bxd:AX.AFn:=⟨12,aS [aR 1 (.box 40 (.t 0)),aR 2 (.mv (.c (.bool false)))] (aS [aF 3 0 1,aL 4 3,aR 5 (.bin .neq (.t 4) (aI 6)),aM 6 5,aG 7 (.faddr 3 (.t 1)) 6 true,aG 8 (.load false 1 (.t 7)) 6 true,aG 9 (.call 100 [.t 8,.c (.fn 101 [])]) 6 true,aG 10 (.un .not (.t 9)) 6 true,aR 11 (.pick (.t 6) (.t 10) (.c (.bool false))),aM 2 11] (.ret)),[.t 2]⟩
theorem cy1:AX.compFn Tryz.prog 56=some bxd:=by kernel_rfl
def awh:AX.AFn:=⟨6,aS [aR 1 (.box 40 (.t 0)),aR 2 (.mv (.c (.bool false)))] (aS [aR 3 (.load true 5 (.t 1)),aR 4 (.call 56 [.t 3]),aR 5 (.un .not (.t 4)),aM 2 5] (.ret)),[.t 2]⟩
theorem ckp:AX.compFn Tryz.prog 101=some awh:=by kernel_rfl
def aj6:AX.AFn:=⟨9,aS [aR 4 (.mv (.c (.bool false)))] (aS [aM 5 0,aM 6 1,aR 7 (.call 138 [.t 5,.t 6]),aR 8 (.bin .geq (.t 7) (aI 0)),aM 4 8] (.ret)),[.t 4]⟩
theorem bk6:AX.compFn Tryz.prog 100=some aj6:=by kernel_rfl
def bxk:AX.AFn:=⟨19,aS [aR 4 (.mv (aI 0))] (.seq (aS [aM 6 0,aR 7 (.len false (.t 6)),aR 8 (.mv (aI 0))] (.block 0 (.loop (aS [aR 9 (.bin .lss (.t 8) (.t 7))] (.seq (.cond (.t 9) (.skip) (.exit 0)) (.seq (.block 1 (aS [aM 10 8,aM 5 10] (aS [aM 11 1,aM 12 0,aM 13 5,aR 14 (.iaddr 5 (.t 12) (.t 13)),aR 15 (.load true 5 (.t 14)),aR 16 (.callv (.t 11) [.t 15])] (.cond (.t 16) (aS [aM 17 5,aM 4 17] (.ret)) (.skip))))) (.reg false [aR 18 (.bin .add (.t 8) (aI 1)),aM 8 18]))))))) (aS [aR 4 (.mv (aI (-1)))] (.ret))),[.t 4]⟩
theorem cyt:AX.compFn Tryz.prog 138=some bxk:=by kernel_rfl
def unkIdx:Nat→List V→Int
 |_,[]=>-1
 |i,v::l=>if Sf.known v=true then unkIdx (i+1) l else i
theorem bk1:∀(l:List V) (i:Nat),unkIdx i l≥0↔Sf.knowns l=false
 |[],i=>by simp[unkIdx,Sf.knowns]
 |v::l,i=>by
  unfold unkIdx Sf.knowns;cases h:Sf.known v
  ·simp
  ·simp only[if_true,ZG];exact bk1 l (i+1)
theorem dzn(is:List V)(hn:is.length≤9223372036854775807)(hf:∀x∈is,∀h,AT 101 [x.A] h (.bool (!Sf.known x)))(h:Hp):AT 138 [.sl 5 .no (V.cellss is),.fn 101 []] h (.int .i64 (unkIdx 0 is)):=by
 refine pcall ?_ rfl (by simp[A.pure,A.data]) h;refine azb mixedT cyt (by simp[bxk]) ?_;dsimp only[bxk];obtain⟨D,hD⟩:=Ex (unkIdx 0 is);rw[hD];refine azf @V.cellss_length ?_;refine azd (fun mm ts h=>∃(j:Nat),mm=is.length-j∧j≤is.length∧h=⟨[],[]⟩∧unkIdx j (is.drop j)=D∧ts 0=.sl 5 .no (V.cellss is)∧ts 1=.fn 101 []∧ts 7=.int .i64 (is.length:Nat)∧ts 8=.int .i64 (j:Nat)) is.length ?_ ?_
 ·exact⟨0,by omega,by omega,rfl,hD,by(exact ev0 ti),by(exact ev0 ti),by(exact ev0 @V.cellss_length),by(exact azo ti)⟩
 rintro mm ts h ⟨j,rfl,hjc,rfl,hit,t0,t1,t7,t8⟩;by_cases hj:j<is.length
 ·have hlt:(j:Int)<(is.length:Int):=by omega
  have hlt':(j:Int)<((V.cellss is).length:Int):=by rw[V.cellss_length];exact hlt
  have hj0:(0:Int)≤(j:Int):=by omega
  have ei:IntKind.i64.wrap ((j:Int)+1)=((j+1:Nat):Int):=by rw[wrap64 (by omega) (by omega)];omega
  have hg:=V.cellss_get is j hj;have cf:=hf is[j] (Zp hj);rw[Zl hj]at hit;unfold unkIdx at hit;obtain⟨x,hx⟩:=Ex (is[j]);rw[hx]at hg cf hit;obtain⟨K,hK⟩:=Ex (Sf.known x);rw[hK]at cf hit;obtain⟨k,n,w,vi,vy⟩:=x;have hVA:(V.mk k n w vi vy).A=.agg [.int .i64 k,.int .i64 n,.str w,.sl 5 .no (V.cellss vi),.sl 1 .no (strsA vy)]:=by simp only[V.A,V.cells]
  rw[hVA]at cf;simp only[V.cells]at hg;refine azf (ai t0 (ai t1 (ai t7 (ai t8 (ai hlt (ai hg (ai hlt' hj0))))))) ?_;refine use (cf _) ?_;cases K
  ·rw[if_neg (by simp)]at hit;subst hit;refine azf (ai t0 (ai t1 (ai t7 t8))) ?_;exact Fn rfl
  ·rw[if_pos rfl]at hit;refine azf (ai t0 (ai t1 (ai t7 (ai t8 ei)))) ?_;exact⟨is.length-(j+1),by omega,j+1,rfl,by omega,rfl,hit,by(exact ev0 t0),by(exact ev0 t1),by(exact ev0 t7),by(exact ev0 ei)⟩
 ·have hlt:¬((j:Int)<(is.length:Int)):=by omega
  rw[ZQ (by omega)]at hit;unfold unkIdx at hit;subst hit;refine azf (ai t0 (ai t1 (ai t7 (ai t8 hlt)))) ?_;exact Fn rfl
theorem dxc:∀(v:V),v.lens→∀h,AT 56 [v.A] h (.bool (Sf.known v)):=by
 refine V.induct ?_;intro k n s is ks ih hl h;have hlen:is.length≤9223372036854775807:=by have h1:=hl.1;unfold maxLen at h1;omega
 have hf:∀x∈is,∀h,AT 101 [x.A] h (.bool (!Sf.known x)):=by
  intro x hx h;have ck:=ih x hx (V.lensS_mem hl.2.2.2.2 x hx);obtain⟨K,hK⟩:=Ex (Sf.known x);rw[hK]at ck⊢;obtain⟨k,n,w,vi,vy⟩:=x;have hVA:(V.mk k n w vi vy).A=.agg [.int .i64 k,.int .i64 n,.str w,.sl 5 .no (V.cellss vi),.sl 1 .no (strsA vy)]:=by simp only[V.A,V.cells]
  rw[hVA]at ck⊢;refine pcall ?_ rfl (by simp[A.pure,A.data]) h;refine azb mixedT ckp (by simp[awh]) ?_;dsimp only[awh];refine azf ti ?_;refine use (ck _) ?_;refine azf ti ?_;exact Fn rfl
 have hc:∀h,AT 100 [.sl 5 .no (V.cellss is),.fn 101 []] h (.bool (!Sf.knowns is)):=by
  intro h;refine pcall ?_ rfl (by simp[A.pure,A.data]) h;refine azb mixedT bk6 (by simp[aj6]) ?_;dsimp only[aj6];have hge:=bk1 is 0;have ca:=dzn is hlen hf;obtain⟨D,hD⟩:=Ex (unkIdx 0 is);rw[hD]at hge ca;refine azf ti ?_;refine use (ca _) ?_;by_cases hd:D≥0
  ·rw[hge.1 hd];refine azf hd ?_;exact Fn rfl
  ·have hk:Sf.knowns is=true:=by cases hk:Sf.knowns is;exact absurd (hge.2 hk) hd;rfl
   rw[hk];refine azf hd ?_;exact Fn rfl
 have hVA:(V.mk k n s is ks).A=.agg [.int .i64 k,.int .i64 n,.str s,.sl 5 .no (V.cellss is),.sl 1 .no (strsA ks)]:=by simp only[V.A,V.cells]
 have hK:Sf.known (.mk k n s is ks)=(k !=6&&Sf.knowns is):=by simp[Sf.known]
 rw[hVA,hK];refine pcall ?_ rfl (by simp[A.pure,A.data]) h;refine azb mixedT cy1 (by simp[bxd]) ?_;dsimp only[bxd];by_cases h6:k=6
 ·have e:(k !=6)=false:=by simp[h6]
  rw[e];refine azf e ?_;exact Fn rfl
 ·have e:(k !=6)=true:=by simp[h6]
  rw[e];refine azf e ?_;refine use (hc _) ?_;cases Sf.knowns is
  ·refine azf ti ?_;exact Fn rfl
  ·refine azf ti ?_;exact Fn rfl
end AX
end
section
open Go.RowKit
open Go.Op (bytesLess)
namespace AX
def bwa:AX.AFn:=⟨18,aS [aR 2 (.mv (aI 0))] (aS [aR 3 (.mv (aI 0))] (.seq (aS [aM 6 0,aR 7 (.len false (.t 6)),aR 8 (.mv (aI 0))] (.block 0 (.loop (aS [aR 9 (.bin .lss (.t 8) (.t 7))] (.seq (.cond (.t 9) (.skip) (.exit 0)) (.seq (.block 1 (aS [aR 10 (.iaddr 1 (.t 6) (.t 8)),aL 11 10,aM 5 11] (aS [aM 12 5,aM 13 3,aR 14 (.bin .neq (.t 12) (.t 13))] (.cond (.t 14) (aS [aM 15 5,aM 2 15] (.ret)) (.skip))))) (.reg false [aR 16 (.bin .add (.t 8) (aI 1)),aM 8 16]))))))) (aS [aM 17 3,aM 2 17] (.ret)))),[.t 2]⟩
theorem dxs:AX.compFn Tryz.prog 58=some bwa:=by kernel_rfl
def akb:AX.AFn:=⟨17,aS [aR 2 (.box 70 (.t 0)),aR 3 (.box 70 (.t 1)),aR 4 (.mv (aI 0))] (.seq (.reg true [aF 5 0 2,⟨some 6,.load false 1 (.t 5),none,[0]⟩,aF 7 0 3,⟨some 8,.load false 1 (.t 7),none,[2]⟩,⟨some 9,.call 59 [.t 6,.t 8],none,[1,3]⟩,aF 10 1 2,⟨some 11,.load false 1 (.t 10),none,[5]⟩,aF 12 1 3,⟨some 13,.load false 1 (.t 12),none,[7]⟩,⟨some 14,.call 59 [.t 11,.t 13],none,[6,8,4]⟩,⟨some 15,.mks 1 [.t 9,.t 14],none,[4,9]⟩,⟨some 16,.call 58 [.t 15],none,[10,9]⟩,⟨some 4,.mv (.t 16),none,[11,11,0,1,2,3,4,5,6,7,8,9,10,11]⟩]) (.ret)),[.t 4]⟩
theorem cqs:AX.compFn Tryz.prog 28=some akb:=by kernel_rfl
theorem dk7(a b:Int)(h:Hp):AT 58 [.sl 1 .no [[.int .i64 a],[.int .i64 b]]] h (.int .i64 (if a≠0 then a else b)):=by
 refine pcall ?_ rfl (by simp[A.pure,A.data]) h;refine azb mixedT dxs (by simp[bwa]) ?_;dsimp only[bwa];refine azf ti ?_;have ew0:IntKind.i64.wrap ((0:Int)+1)=1:=by decide
 have ew1:IntKind.i64.wrap ((1:Int)+1)=2:=by decide
 have en1:Int.toNat 1=1:=rfl;have lt0:(0:Int)<((2:Nat):Int):=by decide
 have lt1:(1:Int)<((2:Nat):Int):=by decide
 have lt2:¬(2:Int)<((2:Nat):Int):=by decide
 have le1:(0:Int)≤1:=by decide
 refine azd (fun mm ts h=>h=⟨[],[]⟩∧ts 3=.int .i64 0∧ts 6=.sl 1 .no [[.int .i64 a],[.int .i64 b]]∧ts 7=.int .i64 ((2:Nat):Int)∧((mm=2∧ts 8=.int .i64 0)∨(mm=1∧ts 8=.int .i64 1∧a=0)∨(mm=0∧ts 8=.int .i64 2∧a=0∧b=0))) 2 ?_ ?_
 ·exact⟨rfl,by(exact ev0 ti),by(exact ev0 ti),by(exact ev0 ti),.inl ⟨rfl,by(exact ev0 ti)⟩⟩
 rintro mm ts h ⟨rfl,t3,t6,t7,⟨rfl,t8⟩|⟨rfl,t8,ha⟩|⟨rfl,t8,ha,hb⟩⟩
 ·by_cases ha:a=0
  ·have e1:(a !=0)=false:=by simp[ha]
   refine azf (ai t3 (ai t6 (ai t7 (ai t8 (ai e1 (ai ew0 lt0)))))) ?_;exact⟨1,by omega,rfl,by(exact ev0 t3),by(exact ev0 t6),by(exact ev0 t7),.inr (.inl ⟨rfl,by(exact ev0 ew0),ha⟩)⟩
  ·have e1:(a !=0)=true:=by simp[ha]
   refine azf (ai t3 (ai t6 (ai t7 (ai t8 (ai e1 lt0))))) ?_;exact⟨_,le_refl _,by rw[if_pos ha];rfl⟩
 ·by_cases hb:b=0
  ·have e1:(b !=0)=false:=by simp[hb]
   refine azf (ai t3 (ai t6 (ai t7 (ai t8 (ai e1 (ai ew1 (ai en1 (ai lt1 le1)))))))) ?_;exact⟨0,by omega,rfl,by(exact ev0 t3),by(exact ev0 t6),by(exact ev0 t7),.inr (.inr ⟨rfl,by(exact ev0 ew1),ha,hb⟩)⟩
  ·have e1:(b !=0)=true:=by simp[hb]
   refine azf (ai t3 (ai t6 (ai t7 (ai t8 (ai e1 (ai en1 (ai lt1 le1))))))) ?_;exact⟨_,le_refl _,by rw[if_neg (by simp[ha])];rfl⟩
 ·refine azf (ai t3 (ai t6 (ai t7 (ai t8 lt2)))) ?_;exact⟨_,le_refl _,by rw[if_neg (by simp[ha]),hb];rfl⟩
def aq8(a b c d:List UInt8):Int:=if cmpZ a c≠0 then cmpZ a c else cmpZ b d
theorem bj5(L:Leafs)(a b c d:List UInt8)(h:Hp):AT 28 [.agg [.str a,.str b],.agg [.str c,.str d]] h (.int .i64 (aq8 a b c d)):=by
 refine pcall ?_ rfl (by simp[A.pure,A.data]) h;refine azb mixedT cqs (by simp[akb]) ?_;dsimp only[akb];refine azf ti ?_;refine use (L.cmp a c _) ?_;refine azf ti ?_;refine use (L.cmp b d _) ?_;refine azf ti ?_;refine use (dk7 (cmpZ a c) (cmpZ b d) _) ?_;refine azf ti ?_;exact Fn rfl
theorem djs(x y:Sf.Inst):(aq8 x.addr x.dep y.addr y.dep≥0)↔Sf.behind x y=false:=by
 unfold aq8 Sf.behind cmpZ;by_cases h1:x.addr=y.addr
 ·have irr:bytesLess y.addr y.addr=false:=by
   have:=Val.less_total y.addr y.addr;cases h:bytesLess y.addr y.addr
   ·rfl
   ·rw[h]at this;simp at this
  rw[h1,irr];by_cases h2:x.dep=y.dep
  ·have irr2:bytesLess y.dep y.dep=false:=by
    have:=Val.less_total y.dep y.dep;cases h:bytesLess y.dep y.dep
    ·rfl
    ·rw[h]at this;simp at this
   simp[h2,irr2]
  ·cases h3:bytesLess x.dep y.dep<;>simp[h2]
 ·cases h3:bytesLess x.addr y.addr<;>simp[h1]
structure Sf.StIn(s:Sf.St):Prop where
 lin:s.lin.length≤2000000
 insts:∀x∈s.insts,Sf.InstIn x
 pends:∀x∈s.pends,x.addr.length≤2000000∧x.tok.length≤2000000
 outs:∀x∈s.outs,x.name.length≤2000000∧x.value.lens
 li:s.insts.length≤1000000000
 lp:s.pends.length≤1000000000
 lo:s.outs.length≤1000000000
theorem dzt(L:Leafs)(st:Sf.St)(ok:Sf.StIn st):SCheck st:=by
 intro h;obtain⟨lin,ser,ins,ps,os⟩:=st;have ct:=fun h=>L.text lin ok.lin h
 have li:ins.length≤1000000000:=ok.li;have lp:ps.length≤1000000000:=ok.lp;have lo:os.length≤1000000000:=ok.lo;have lm1:(ins.map Sf.Inst.cells).length=ins.length:=Zj _;have lm2:(ps.map Sf.Pend.cells).length=ps.length:=Zj _;have lm3:(os.map Sf.Outp.cells).length=os.length:=Zj _;obtain⟨Z,hZ⟩:=Ex (Sf.checkZ ⟨lin,ser,ins,ps,os⟩);rw[hZ];unfold Sf.checkZ at hZ;dsimp only at hZ;refine pcall ?_ rfl (by simp[A.pure,A.data,Sf.St.A]) h;refine fo ?_;dsimp only[Sf.St.A];refine azf ti ?_;refine use (ct _) ?_;cases hT:Sf.text lin
 ·rw[hT,if_pos (by decide)]at hZ;subst hZ;refine azf ti ?_;exact Fn rfl
 rw[hT,if_neg (by decide)]at hZ;by_cases s0:ser<0
 ·rw[if_pos (.inl s0)]at hZ;subst hZ;refine azf s0 ?_;exact Fn rfl
 by_cases s1:ser>9007199254740992
 ·rw[if_pos (.inr s1)]at hZ;subst hZ;refine azf (ai s0 s1) ?_;exact Fn rfl
 rw[if_neg (by omega)]at hZ;obtain⟨mx,hmx⟩:∃mx:Int,(if(os.length:Int)>(if(ps.length:Int)>(ins.length:Int)then(ps.length:Int)else(ins.length:Int))then(os.length:Int)else(if(ps.length:Int)>(ins.length:Int)then(ps.length:Int)else(ins.length:Int)))=mx:=⟨_,rfl⟩;have hm5:mx>512↔(512<ins.length∨512<ps.length∨512<os.length):=by
  rw[←hmx];split<;>split<;>omega
 by_cases hm:mx>512
 ·rw[if_pos (hm5.1 hm)]at hZ;subst hZ;refine azf (ai s0 (ai s1 (ai lm1 (ai lm2 (ai lm3 (ai hmx hm)))))) ?_;exact Fn rfl
 rw[if_neg (fun e=>hm (hm5.2 e))]at hZ;obtain⟨I,hI⟩:=Ex (Sf.instsZ none ins);obtain⟨P,hP⟩:=Ex (Sf.pendsZ none ps);obtain⟨O,hO⟩:=Ex (Sf.outsZ none os);have fi1:∀z,z≠0→z=I→Z=z:=fun z h e=>by rw[hI,←e,if_pos h]at hZ;exact hZ.symm
 have fi2:I=0→(if P≠0 then P else O)=Z:=fun e=>by rw[hI,hP,hO,e,if_neg (by simp)]at hZ;exact hZ
 refine azf (ai s0 (ai s1 (ai lm1 (ai lm2 (ai lm3 (ai hmx hm)))))) ?_;refine azd (fun mm ts h=>∃(j:Nat) (l:List Blk),mm=ins.length-j∧j≤ins.length∧h=⟨.cells 26 [.str lin,.int .i64 ser,.sl 13 .no (ins.map Sf.Inst.cells),.sl 3 .no (ps.map Sf.Pend.cells),.sl 7 .no (os.map Sf.Outp.cells)]::l,[]⟩∧Sf.instsZ (if j=0 then none else ins[j-1]?) (ins.drop j)=I∧ts 1=.ptr 0 0∧ts 35=.sl 13 .no (ins.map Sf.Inst.cells)∧ts 36=.int .i64 (ins.length:Nat)∧ts 37=.int .i64 (j:Nat)) ins.length ?_ ?_
 ·exact⟨0,[],by omega,by omega,rfl,hI,by(exact ev0 ti),by(exact ev0 ti),by(exact ev0 (ai lm1 (ai lm2 lm3))),by(exact azo ti)⟩
 rintro mm ts h ⟨j,l,rfl,hjc,rfl,hit,t1,ta,tb,tc⟩;by_cases hj:j<ins.length
 ·have hlt:(j:Int)<(ins.length:Int):=by omega
  have hlt':(j:Int)<((ins.map Sf.Inst.cells).length:Int):=by rw[Zj];exact hlt
  have hj0:(0:Int)≤(j:Int):=by omega
  have ei:IntKind.i64.wrap ((j:Int)+1)=((j+1:Nat):Int):=by rw[wrap64 (by omega) (by omega)];omega
  have hg:=aqj Sf.Inst.cells ins j hj;have hm:=Zp hj;rw[Zl hj]at hit;obtain⟨x,hx⟩:=Ex (ins[j]);rw[hx]at hit hg hm;have ci:=fun h=>cq9 L x (ok.insts x hm) h
  have cp:=fun h=>axs x h
  have hxj:ins[j]?=some x:=by rw[Zm hj,hx]
  have hx2:=Ex x;unfold Sf.instsZ at hit;obtain⟨Z1,hZ1⟩:=Ex (Sf.instZ x);rw[hZ1]at ci hit;have cge:=fun y=>djs y x
  have cc:=fun(y:Sf.Inst) h=>bj5 L y.addr y.dep x.addr x.dep h
  have nx:Sf.instsZ (some x) (ins.drop (j+1))=I→Sf.instsZ (if j+1=0 then none else ins[j+1-1]?) (ins.drop (j+1))=I:=fun e=>by rw[if_neg (by omega),Nat.add_sub_cancel,hxj];exact e
  clear hx2 hm hZ1;have cells:∃a d id ty k n s is ks v tn fi ds,x=⟨a,d,id,ty,.mk k n s is ks,v,tn,fi,ds⟩:=by obtain⟨a,d,id,ty,⟨k,n,s,is,ks⟩,v,tn,fi,ds⟩:=x;exact⟨_,_,_,_,_,_,_,_,_,_,_,_,_,rfl⟩
  obtain⟨a,d,id,ty,k,n,s,is,ks,v,tn,fi,ds,hxe⟩:=cells;have hxc:x.cells=[.str a,.str d,.str id,.str ty,.int .i64 k,.int .i64 n,.str s,.sl 5 .no (V.cellss is),.sl 1 .no (strsA ks),.int .i64 v,.bool tn,.bool fi,.sl 1 .no (strsA ds)]:=by rw[hxe];rfl
  rw[hxc]at ci cp hg;refine azf (ai t1 (ai ta (ai tb (ai tc (ai hlt (ai hg (ai hlt' hj0))))))) ?_;refine use (ci _) ?_;by_cases hz:Z1=0
  rotate_left
  ·have e1:(Z1 !=0)=true:=by simp[hz]
   rw[if_pos hz]at hit;have hZf:=fi1 Z1 hz hit;refine azf (ai t1 (ai ta (ai tb (ai tc e1)))) ?_;exact⟨_,le_refl _,by rw[hZf];rfl⟩
  have e1:(Z1 !=0)=false:=by simp[hz]
  rw[if_neg (by simp[hz])]at hit;cases j with
  |zero=>
   have h0:¬((0:Nat):Int)>0:=by omega
   simp only[if_true,Zn,if_false]at hit;refine azf (ai t1 (ai ta (ai tb (ai tc (ai e1 (ai h0 ei)))))) ?_;exact⟨ins.length-(0+1),by omega,0+1,l++[.cells 42 [.str a,.str d,.str id,.str ty,.int .i64 k,.int .i64 n,.str s,.sl 5 .no (V.cellss is),.sl 1 .no (strsA ks),.int .i64 v,.bool tn,.bool fi,.sl 1 .no (strsA ds)]],rfl,by omega,rfl,nx hit,by(exact ev0 t1),by(exact ev0 ta),by(exact ev0 tb),by(exact ev0 ei)⟩
  |succ i=>
   have h0:((i+1:Nat):Int)>0:=by omega
   have ej:IntKind.i64.wrap (((i+1:Nat):Int)-1)=(i:Int):=by rw[wrap64 (by omega) (by omega)];omega
   have hg2:=aqj Sf.Inst.cells ins i (by omega);have hi':(i:Int)<((ins.map Sf.Inst.cells).length:Int):=by rw[Zj];omega
   have hi0:(0:Int)≤(i:Int):=by omega
   have hki:ins[i+1-1]?=some (ins[i]'(by omega)):=Zm (by omega);rw[show(if i+1=0 then none else ins[i+1-1]?)=(some (ins[i]'(by omega)))from by rw[if_neg (by omega),hki]]at hit;obtain⟨y,hy⟩:=Ex (ins[i]'(by omega));rw[hy]at hit hg2;dsimp only at hit;have cpy:=fun h=>axs y h
   have hyc:∃b1 b2 b3 b4 b5 b6 b7 b8 b9 c1 c2 c3 c4,y.cells=[.str b1,.str b2,.str b3,.str b4,.int .i64 b5,.int .i64 b6,.str b7,.sl 5 .no (V.cellss b8),.sl 1 .no (strsA b9),.int .i64 c1,.bool c2,.bool c3,.sl 1 .no (strsA c4)]:=by obtain⟨a,d,id,ty,⟨k,n,s,is,ks⟩,v,tn,fi,ds⟩:=y;exact⟨_,_,_,_,_,_,_,_,_,_,_,_,_,rfl⟩
   obtain⟨b1,b2,b3,b4,b5,b6,b7,b8,b9,c1,c2,c3,c4,hyc⟩:=hyc;rw[hyc]at hg2 cpy;have cg:=cge y;have cy:=cc y;obtain⟨c,hc⟩:=Ex (aq8 y.addr y.dep x.addr x.dep);rw[hc]at cg cy;refine azf (ai t1 (ai ta (ai tb (ai tc (ai e1 (ai h0 (ai ej (ai hg2 (ai hi' hi0))))))))) ?_;refine use (cpy _) ?_;refine azf (ai t1 (ai ta (ai tb tc))) ?_;refine use (cp _) ?_;refine azf (ai t1 (ai ta (ai tb tc))) ?_;refine use (cy _) ?_;by_cases hcz:c≥0
   ·simp only[cg.1 hcz,ZU,if_true]at hit;have hZf:=fi1 1 (by decide) hit;refine azf (ai t1 (ai ta (ai tb (ai tc hcz)))) ?_;exact⟨_,le_refl _,by rw[hZf];rfl⟩
   ·have hb:Sf.behind y x=true:=by cases hb:Sf.behind y x;exact absurd (cg.2 hb) hcz;rfl
    simp only[hb,ZW,Zn,if_false]at hit;refine azf (ai t1 (ai ta (ai tb (ai tc (ai hcz ei))))) ?_;exact⟨ins.length-((i+1)+1),by omega,(i+1)+1,l++[.cells 42 [.str a,.str d,.str id,.str ty,.int .i64 k,.int .i64 n,.str s,.sl 5 .no (V.cellss is),.sl 1 .no (strsA ks),.int .i64 v,.bool tn,.bool fi,.sl 1 .no (strsA ds)]],rfl,by omega,rfl,nx hit,by(exact ev0 t1),by(exact ev0 ta),by(exact ev0 tb),by(exact ev0 ei)⟩
 have hlt:¬((j:Int)<(ins.length:Int)):=by omega
 rw[ZQ (by omega)]at hit;unfold Sf.instsZ at hit;have fi2:=fi2 hit.symm;refine azf (ai t1 (ai ta (ai tb (ai tc (ai hlt (ai lm1 (ai lm2 lm3))))))) ?_;clear hit hlt hjc ta tb tc fi1;have fj1:∀z,z≠0→z=P→Z=z:=fun z h e=>by rw[←e,if_pos h]at fi2;exact fi2.symm
 have fj2:P=0→Z=O:=fun e=>by rw[e,if_neg (by simp)]at fi2;exact fi2.symm
 obtain⟨l0,hl0⟩:∃l0:List Blk,l=l0:=⟨_,rfl⟩;refine azd (fun mm ts h=>∃(j:Nat) (l:List Blk),mm=ps.length-j∧j≤ps.length∧h=⟨.cells 26 [.str lin,.int .i64 ser,.sl 13 .no (ins.map Sf.Inst.cells),.sl 3 .no (ps.map Sf.Pend.cells),.sl 7 .no (os.map Sf.Outp.cells)]::l,[]⟩∧Sf.pendsZ (if j=0 then none else ps[j-1]?.map Sf.Pend.tok) (ps.drop j)=P∧ts 1=.ptr 0 0∧ts 64=.sl 3 .no (ps.map Sf.Pend.cells)∧ts 65=.int .i64 (ps.length:Nat)∧ts 66=.int .i64 (j:Nat)) ps.length ?_ ?_
 ·exact⟨0,l,by omega,by omega,rfl,hP,by(exact ev0 t1),by(exact ev0 t1),by(exact ev0 (ai t1 (ai lm1 (ai lm2 lm3)))),by(exact azo t1)⟩
 rintro mm ts h ⟨j,l,rfl,hjc,rfl,hit,t1,ta,tb,tc⟩;by_cases hj:j<ps.length
 ·have hlt:(j:Int)<(ps.length:Int):=by omega
  have hlt':(j:Int)<((ps.map Sf.Pend.cells).length:Int):=by rw[Zj];exact hlt
  have hj0:(0:Int)≤(j:Int):=by omega
  have ei:IntKind.i64.wrap ((j:Int)+1)=((j+1:Nat):Int):=by rw[wrap64 (by omega) (by omega)];omega
  have hg:=aqj Sf.Pend.cells ps j hj;have hm:=Zp hj;rw[Zl hj]at hit;obtain⟨x,hx⟩:=Ex (ps[j]);rw[hx]at hit hg hm;have hin:=ok.pends x hm;have ct:=fun h=>L.text x.tok hin.2 h
  have cm:=fun h=>bkc L x.addr x.typ hin.1 h
  have hxj:ps[j]?=some x:=by rw[Zm hj,hx]
  unfold Sf.pendsZ Sf.pendB at hit;have nx:Sf.pendsZ (some x.tok) (ps.drop (j+1))=P→Sf.pendsZ (if j+1=0 then none else ps[j+1-1]?.map Sf.Pend.tok) (ps.drop (j+1))=P:=fun e=>by rw[if_neg (by omega),Nat.add_sub_cancel,hxj];exact e
  simp only[Sf.Pend.cells]at hg;obtain⟨T,hT⟩:=Ex (Sf.text x.tok);rw[hT]at ct hit;obtain⟨M,hM⟩:=Ex (Sf.managed x.addr x.typ);rw[hM]at cm hit;refine azf (ai t1 (ai ta (ai tb (ai tc (ai hlt (ai hg (ai hlt' hj0))))))) ?_;refine use (ct _) ?_;cases T
  ·rw[if_pos (by simp)]at hit;have hZf:=fj1 1 (by decide) hit;refine azf (ai t1 (ai ta (ai tb tc))) ?_;exact⟨_,le_refl _,by rw[hZf];rfl⟩
  refine azf (ai t1 (ai ta (ai tb tc))) ?_;refine use (cm _) ?_;cases M
  ·rw[if_pos (by simp)]at hit;have hZf:=fj1 1 (by decide) hit;refine azf (ai t1 (ai ta (ai tb tc))) ?_;exact⟨_,le_refl _,by rw[hZf];rfl⟩
  cases j with
  |zero=>
   have h0:¬((0:Nat):Int)>0:=by omega
   rw[if_neg (by simp[Val.badB])]at hit;refine azf (ai t1 (ai ta (ai tb (ai tc (ai h0 ei))))) ?_;exact⟨ps.length-(0+1),by omega,0+1,l++[.cells 48 [.str x.addr,.str x.typ,.str x.tok]],rfl,by omega,rfl,nx hit,by(exact ev0 t1),by(exact ev0 ta),by(exact ev0 tb),by(exact ev0 ei)⟩
  |succ i=>
   have h0:((i+1:Nat):Int)>0:=by omega
   have ej:IntKind.i64.wrap (((i+1:Nat):Int)-1)=(i:Int):=by rw[wrap64 (by omega) (by omega)];omega
   have hg2:=aqj Sf.Pend.cells ps i (by omega);have hi':(i:Int)<((ps.map Sf.Pend.cells).length:Int):=by rw[Zj];omega
   have hi0:(0:Int)≤(i:Int):=by omega
   have hki:ps[i+1-1]?=some (ps[i]'(by omega)):=Zm (by omega);rw[show(if i+1=0 then none else ps[i+1-1]?.map Sf.Pend.tok)=(some (ps[i]'(by omega))).map Sf.Pend.tok from by rw[if_neg (by omega),hki]]at hit;obtain⟨y,hy⟩:=Ex (ps[i]'(by omega));rw[hy]at hit hg2;simp only[Sf.Pend.cells]at hg2;simp only[Z3,Val.badB]at hit;cases hb:bytesLess y.tok x.tok
   ·simp only[hb,ZG,Yl,ZW,ZU,Yn,YT,if_true]at hit;have hZf:=fj1 1 (by decide) hit;refine azf (ai t1 (ai ta (ai tb (ai tc (ai h0 (ai ej (ai hg2 (ai hi' (ai hi0 hb))))))))) ?_;exact⟨_,le_refl _,by rw[hZf];rfl⟩
   ·simp only[hb,ZG,Yl,ZW,ZU,Yn,YO,Zn,if_false]at hit;refine azf (ai t1 (ai ta (ai tb (ai tc (ai h0 (ai ej (ai hg2 (ai hi' (ai hi0 (ai hb ei)))))))))) ?_;exact⟨ps.length-((i+1)+1),by omega,(i+1)+1,l++[.cells 48 [.str x.addr,.str x.typ,.str x.tok]],rfl,by omega,rfl,nx hit,by(exact ev0 t1),by(exact ev0 ta),by(exact ev0 tb),by(exact ev0 ei)⟩
 have hlt:¬((j:Int)<(ps.length:Int)):=by omega
 rw[ZQ (by omega)]at hit;unfold Sf.pendsZ at hit;have fj2:=fj2 hit.symm;refine azf (ai t1 (ai ta (ai tb (ai tc (ai hlt (ai lm1 (ai lm2 lm3))))))) ?_;clear hit hlt hjc ta tb tc fj1 hl0 l0;refine azd (fun mm ts h=>∃(j:Nat) (l:List Blk),mm=os.length-j∧j≤os.length∧h=⟨.cells 26 [.str lin,.int .i64 ser,.sl 13 .no (ins.map Sf.Inst.cells),.sl 3 .no (ps.map Sf.Pend.cells),.sl 7 .no (os.map Sf.Outp.cells)]::l,[]⟩∧Sf.outsZ (if j=0 then none else os[j-1]?.map Sf.Outp.name) (os.drop j)=O∧ts 1=.ptr 0 0∧ts 101=.sl 7 .no (os.map Sf.Outp.cells)∧ts 102=.int .i64 (os.length:Nat)∧ts 103=.int .i64 (j:Nat)) os.length ?_ ?_
 ·exact⟨0,l,by omega,by omega,rfl,hO,by(exact ev0 t1),by(exact ev0 t1),by(exact ev0 (ai t1 (ai lm1 (ai lm2 lm3)))),by(exact azo t1)⟩
 rintro mm ts h ⟨j,l,rfl,hjc,rfl,hit,t1,ta,tb,tc⟩;by_cases hj:j<os.length
 ·have hlt:(j:Int)<(os.length:Int):=by omega
  have hlt':(j:Int)<((os.map Sf.Outp.cells).length:Int):=by rw[Zj];exact hlt
  have hj0:(0:Int)≤(j:Int):=by omega
  have ei:IntKind.i64.wrap ((j:Int)+1)=((j+1:Nat):Int):=by rw[wrap64 (by omega) (by omega)];omega
  have hg:=aqj Sf.Outp.cells os j hj;have hm:=Zp hj;rw[Zl hj]at hit;obtain⟨x,hx⟩:=Ex (os[j]);rw[hx]at hit hg hm;have hin:=ok.outs x hm;have ci:=fun h=>dzk L x hin.1 hin.2 h
  have hxj:os[j]?=some x:=by rw[Zm hj,hx]
  unfold Sf.outsZ at hit;have nx:Sf.outsZ (some x.name) (os.drop (j+1))=O→Sf.outsZ (if j+1=0 then none else os[j+1-1]?.map Sf.Outp.name) (os.drop (j+1))=O:=fun e=>by rw[if_neg (by omega),Nat.add_sub_cancel,hxj];exact e
  obtain⟨Z1,hZ1⟩:=Ex (Sf.outZ x);rw[hZ1]at ci hit;clear hZ1;obtain⟨m,⟨k,n,s,is,ks⟩,b⟩:=x;simp only[Sf.Outp.cells]at hg ci;dsimp only at hit nx;refine azf (ai t1 (ai ta (ai tb (ai tc (ai hlt (ai hg (ai hlt' hj0))))))) ?_;refine use (ci _) ?_;by_cases hz:Z1=0
  rotate_left
  ·have e1:(Z1 !=0)=true:=by simp[hz]
   rw[if_pos hz]at hit;refine azf (ai t1 (ai ta (ai tb (ai tc e1)))) ?_;exact⟨_,le_refl _,by rw[fj2,←hit];rfl⟩
  have e1:(Z1 !=0)=false:=by simp[hz]
  rw[if_neg (by simp[hz])]at hit;cases j with
  |zero=>
   have h0:¬((0:Nat):Int)>0:=by omega
   rw[if_neg (by simp[Val.badB])]at hit;refine azf (ai t1 (ai ta (ai tb (ai tc (ai e1 (ai h0 ei)))))) ?_;exact⟨os.length-(0+1),by omega,0+1,l++[.cells 65 [.str m,.int .i64 k,.int .i64 n,.str s,.sl 5 .no (V.cellss is),.sl 1 .no (strsA ks),.bool b]],rfl,by omega,rfl,nx hit,by(exact ev0 t1),by(exact ev0 ta),by(exact ev0 tb),by(exact ev0 ei)⟩
  |succ i=>
   have h0:((i+1:Nat):Int)>0:=by omega
   have ej:IntKind.i64.wrap (((i+1:Nat):Int)-1)=(i:Int):=by rw[wrap64 (by omega) (by omega)];omega
   have hg2:=aqj Sf.Outp.cells os i (by omega);have hi':(i:Int)<((os.map Sf.Outp.cells).length:Int):=by rw[Zj];omega
   have hi0:(0:Int)≤(i:Int):=by omega
   have hki:os[i+1-1]?=some (os[i]'(by omega)):=Zm (by omega);rw[show(if i+1=0 then none else os[i+1-1]?.map Sf.Outp.name)=(some (os[i]'(by omega))).map Sf.Outp.name from by rw[if_neg (by omega),hki]]at hit;obtain⟨y,hy⟩:=Ex (os[i]'(by omega));rw[hy]at hit hg2;obtain⟨m2,⟨k2,n2,s2,is2,ks2⟩,b2⟩:=y;simp only[Sf.Outp.cells]at hg2;simp only[Z3,Val.badB]at hit;cases hb:bytesLess m2 m
   ·simp only[hb,ZG,Yl,ZW,ZU,Yn,YT,if_true]at hit;refine azf (ai t1 (ai ta (ai tb (ai tc (ai e1 (ai h0 (ai ej (ai hg2 (ai hi' (ai hi0 hb)))))))))) ?_;exact⟨_,le_refl _,by rw[fj2,←hit];rfl⟩
   ·simp only[hb,ZG,Yl,ZW,ZU,Yn,YO,Zn,if_false]at hit;refine azf (ai t1 (ai ta (ai tb (ai tc (ai e1 (ai h0 (ai ej (ai hg2 (ai hi' (ai hi0 (ai hb ei))))))))))) ?_;exact⟨os.length-((i+1)+1),by omega,(i+1)+1,l++[.cells 65 [.str m,.int .i64 k,.int .i64 n,.str s,.sl 5 .no (V.cellss is),.sl 1 .no (strsA ks),.bool b]],rfl,by omega,rfl,nx hit,by(exact ev0 t1),by(exact ev0 ta),by(exact ev0 tb),by(exact ev0 ei)⟩
 have hlt:¬((j:Int)<(os.length:Int)):=by omega
 rw[ZQ (by omega)]at hit;unfold Sf.outsZ at hit;refine azf (ai t1 (ai ta (ai tb (ai tc (ai hlt (ai lm1 (ai lm2 lm3))))))) ?_;exact⟨_,le_refl _,by rw[fj2,←hit];rfl⟩
end AX
end
section
open Go.RowKit
namespace Adr
theorem mods_names(N:Nat):∀(f:Nat) (r:Rd) (l:List Step),r.rest.length≤N→(∀x∈l,x.name.length≤N)→(∀x∈(modsP f r l).1,x.name.length≤N)∧(modsP f r l).2.rest.length≤N∧(modsP f r l).1.length≤l.length+f
 |0,r,l,hr,hl=>⟨hl,hr,Zh _⟩
 |f+1,r,l,hr,hl=>by
  unfold modsP;split
  ·next hc=>
   have h1:=has_len modW r;have h2:=step_len (hasP modW r).2;have h3:=skip_len [46] (stepP (hasP modW r).2).2;have hn:(stepP (hasP modW r).2).1.name.length≤N:=Zs (word_len (hasP modW r).2).2 (by omega)
   obtain⟨q1,q2,q3⟩:=mods_names N f (skipP [46] (stepP (hasP modW r).2).2) (l++[(stepP (hasP modW r).2).1]) (by omega) (fun x hx=>by
    rcases YE.1 hx with hx|hx
    ·exact hl x hx
    ·rw[Yq.1 hx];exact hn)
   exact⟨q1,q2,Zs q3 (by simp only[Zb,Zam];omega)⟩
  ·exact⟨hl,hr,by dsimp only;omega⟩
theorem parse_names(s:List UInt8)(h:(parse s).2=0):(∀x∈(parse s).1.mods,x.name.length≤s.length)∧(parse s).1.mods.length≤s.length+1∧(parse s).1.type.length≤s.length∧(parse s).1.name.length≤s.length:=by
 rw[←parse_eq]at h⊢;obtain⟨q1,q2,q3⟩:=mods_names s.length (s.length+1) ⟨s,false⟩ [] (Zh _) (by simp);unfold parseP at h⊢;dsimp only at h⊢;have l1:=has_len dataW (modsP (s.length+1) ⟨s,false⟩ []).2;have l2:=word_len (hasP dataW (modsP (s.length+1) ⟨s,false⟩ []).2).2;have l3:=skip_len [46] (wordP (hasP dataW (modsP (s.length+1) ⟨s,false⟩ []).2).2).2;have l4:=word_len (skipP [46] (wordP (hasP dataW (modsP (s.length+1) ⟨s,false⟩ []).2).2).2);split at h
 ·simp at h
 ·next h1=>
  rw[if_neg h1];split at h
  ·simp at h
  ·next h2=>
   rw[if_neg h2];dsimp only;exact⟨q1,by simpa using q3,by omega,by omega⟩
end Adr
namespace AX
theorem dz3(s:List UInt8)(hs:s.length≤2000000)(h:Hp):AT 102 [.str s] h (.tup [.str (Adr.static s).1,.int .i64 (Adr.static s).2]):=by
 refine pcall ?_ rfl (by simp[A.pure,A.data]) h;refine azb mixedT cj4 (by simp[awn]) ?_;dsimp only[awn];have cp:=fun h=>ck0 s hs h
 have hS:Adr.static s=if(Adr.parse s).2≠0 then([],(Adr.parse s).2)else(Adr.fmt (Adr.bare (Adr.parse s).1),0):=rfl
 have hnm:=Adr.parse_names s;obtain⟨⟨a,e⟩,hp⟩:=Ex (Adr.parse s);rw[hp]at cp hS hnm;dsimp only at cp hS hnm;rw[hS];by_cases he:e=0
 rotate_left
 ·have e1:(e !=0)=true:=by simp[he]
  rw[if_pos he];obtain⟨mods,data,ty,nm,⟨kk,kn,ks⟩⟩:=a;dsimp only[Adr.Ad.cells]at cp;refine azf ti ?_;refine use (cp _) ?_;refine azf e1 ?_;exact Fn rfl
 have e1:(e !=0)=false:=by simp[he]
 rw[if_neg (by simp[he])];obtain⟨n1,n2,n3,n4⟩:=hnm he;have cs:=fun h=>cvp a (by omega) h
 have cf:=fun h=>cw1 (Adr.bare a) ⟨by unfold Adr.bare;dsimp only;rw[Zj];omega,fun x hx=>by
   unfold Adr.bare at hx;obtain⟨y,hy,rfl⟩:=Z0.1 hx;have:=n1 y hy
   exact⟨Zs this hs,by simp[Adr.K.none]⟩,by unfold Adr.bare;dsimp only;omega,by unfold Adr.bare;dsimp only;omega,by unfold Adr.bare Adr.K.none;simp⟩
  (fun x hx=>by
   unfold Adr.bare at hx;obtain⟨y,hy,rfl⟩:=Z0.1 hx
   rfl) rfl h
 have hbc:(Adr.bare a).cells=[.sl 4 .no ((a.mods.map fun s=>(⟨s.name,Adr.K.none⟩:Adr.Step)).map Adr.Step.cells),.bool a.data,.str a.type,.str a.name,.int .i64 0,.int .i64 0,.str []]:=rfl;rw[hbc]at cs cf;obtain⟨F,hF⟩:=Ex (Adr.fmt (Adr.bare a));rw[hF]at cf⊢;clear hS n1 n2 n3 n4 hnm hp hbc;obtain⟨mods,data,ty,nm,⟨kk,kn,ks⟩⟩:=a;dsimp only[Adr.Ad.cells]at cp cs cf;refine azf ti ?_;refine use (cp _) ?_;refine azf e1 ?_;refine use (cs _) ?_;refine azf ti ?_;refine use (cf _) ?_;refine azf ti ?_;exact Fn rfl
theorem leafs:Leafs where
 parse:=ck0
 static:=dz3
 ident:=aw4
 num:=a_numParse
 cmp:=dkx
 known:=fun v hl h=>dxc v hl h
 text:=fun s hs h=>(dj0 s hs h).mono fun v h' hv=>hv
theorem akv(st:Sf.St)(ok:Sf.StIn st):SCheck st:=dzt leafs st ok
def bjb:AX.AFn:=⟨35,aS [aR 2 (.mv (aI 0))] (aS [aR 6 (.mkmap),aR 7 (.mkmap),aR 8 (.build [.int .i64 0,.bool false,.nilm,.nilm] [(2,1,.t 6),(3,1,.t 7)]),aR 9 (.box 78 (.t 8)),aM 3 9] (.seq (aS [aM 10 0,aR 11 (.len false (.t 10)),aR 12 (.mv (aI 0))] (.block 0 (.loop (aS [aR 13 (.bin .lss (.t 12) (.t 11))] (.seq (.cond (.t 13) (.skip) (.exit 0)) (.seq (.block 1 (aS [aR 14 (.iaddr 26 (.t 10) (.t 12)),aR 15 (.load true 26 (.t 14)),aR 5 (.alloc 44 [.int .i64 0,.str [],.int .i64 0,.sl 0 .nil [],.sl 0 .nil [],.sl 0 .nil [],.int .i64 0,.int .i64 0,.str [],.str [],.str [],.str [],.int .i64 0,.str [],.str [],.str [],.str [],.int .i64 0,.int .i64 0,.str [],.sl 0 .nil [],.sl 0 .nil [],.int .i64 0,.bool false,.bool false,.sl 0 .nil []]),aU (.store 26 (.t 5) (.t 15))] (.seq (aS [aR 16 (.load true 26 (.t 5)),aR 17 (.call 31 [.t 16]),aR 18 (.un .not (.t 17)),aM 19 18,aG 20 (.faddr 0 (.t 5)) 19 false,aG 21 (.load false 1 (.t 20)) 19 false,aG 22 (.bin .eql (.t 21) (aI 1)) 19 false,aG 23 (.mv (.t 22)) 19 false,aG 24 (.faddr 1 (.t 5)) 23 true,aG 25 (.load true 5 (.t 24)) 23 true,aG 26 (.call 11 [.t 25]) 23 true,aG 27 (.bin .neq (.t 26) (aI 0)) 23 true,aG 28 (.pick (.t 23) (.t 27) (.c (.bool false))) 19 false,aR 29 (.pick (.t 19) (.c (.bool true)) (.t 28))] (.cond (.t 29) (aS [aR 2 (.mv (aI 1))] (.ret)) (.skip))) (aS [aM 30 3,aR 31 (.load true 26 (.t 5)),aR 32 (.call 32 [.t 30,.t 31]),aR 33 (.un .not (.t 32))] (.cond (.t 33) (aS [aR 2 (.mv (aI 38))] (.ret)) (.skip)))))) (.reg false [aR 34 (.bin .add (.t 12) (aI 1)),aM 12 34]))))))) (aS [aR 2 (.mv (aI 0))] (.ret)))),[.t 2]⟩
theorem cyq:AX.compFn Tryz.prog 12=some bjb:=by kernel_rfl
def recA(r:Jr):A:=.agg r.cells
def fM1(f:Fo):Blk:=.map (gmap recA f.ints) f.c1
def fM2(f:Fo):Blk:=.map (gmap A.bool f.ress) f.c2
def fB(f:Fo):Blk:=.cells 78 [.int .i64 f.n,.bool f.ended,.mp 0,.mp 1]
theorem cz0{α:Type}(f:α→A)(hf:∀x,(f x).loc 0=true)(l:List (Int×α))(c:Nat):(Blk.map (gmap f l) c).loc 3∧(Blk.map (gmap f l) c).ren (fun i=>i)=.map (gmap f l) c:=by
 have h:(Blk.map (gmap f l) c).loc 0:=by
  show((gmap f l).all fun e=>e.2.loc 0)=true
  rw[ZF];intro e he;obtain⟨x,hx,rfl⟩:=Z0.1 he;exact hf _
 exact⟨(Blk.loc0 3 _ h).1,(Blk.loc0 0 _ h).2 _⟩
theorem czy(r:Jr):(recA r).loc 0=true:=by
 obtain⟨kd,⟨lin,ser,ins,ps,os⟩,st,op,ad,dp,ty,tk,er,⟨a1,a2,a3,a4,⟨k,nn,ss,is,ks⟩,v,tn,fi,ds⟩⟩:=r;rfl
theorem liftF{P:Program}{G:World→Prop}{f:FuncId}{args:List A}{s s':Fo}{v:A}(hc:ACall P G f (.ptr 2 0::args) ⟨[fM1 s,fM2 s,fB s],[]⟩ fun v' h'=>v'=v∧h'.b[0]?=some (fM1 s')∧h'.b[1]?=some (fM2 s')∧h'.b[2]?=some (fB s'))(ha:A.locL 0 args=true)(hv:v.loc 0=true)(l:List Blk)(t:List (TypeId×Nat×Nat)):
  ACall P G f (.ptr 2 0::args) ⟨fM1 s::fM2 s::fB s::l,t⟩ fun v' h'=>v'=v∧h'=⟨fM1 s'::fM2 s'::fB s'::l,t⟩:=by
 have m1:=fun s:Fo=>cz0 recA czy s.ints s.c1
 have m2:=fun s:Fo=>cz0 A.bool (fun _=>rfl) s.ress s.c2
 have key:=ACall.lift hc (fun i=>i) (fun a b _ _ e=>e) (by unfold A.locL;rw[(A.locL0 _ args ha).1];rfl)
  (fun x hx=>by
   rcases ZJ.1 hx with rfl|hx
   ·exact(m1 s).1
   rcases ZJ.1 hx with rfl|hx
   ·exact(m2 s).1
   ·rw[Yq.1 hx];rfl)
  (fun v' h' ⟨e,h0,h1,h2⟩=>⟨by rw[e];exact(A.loc0 _ v hv).1,fun j x hj hx=>by
   have:j=0∨j=1∨j=2:=by simp only[Zi,ZH]at hj;omega
   rcases this with rfl|rfl|rfl
   ·rw[h0]at hx;injection hx with hx;subst hx;exact(m1 s').1
   ·rw[h1]at hx;injection hx with hx;subst hx;exact(m2 s').1
   ·rw[h2]at hx;injection hx with hx;subst hx;rfl⟩)
  (h:=⟨fM1 s::fM2 s::fB s::l,t⟩) (fun j hj=>by
   have:j=0∨j=1∨j=2:=by simp only[Zi,ZH]at hj;omega
   rcases this with rfl|rfl|rfl
   ·show some (fM1 s)=some ((fM1 s).ren fun i=>i);rw[show(fM1 s).ren (fun i=>i)=fM1 s from(m1 s).2]
   ·show some (fM2 s)=some ((fM2 s).ren fun i=>i);rw[show(fM2 s).ren (fun i=>i)=fM2 s from(m2 s).2]
   ·rfl)
 have e:A.renL (fun i=>i) (.ptr 2 0::args)=.ptr 2 0::args:=by unfold A.renL;rw[(A.locL0 0 args ha).2];rfl
 rw[e]at key;refine key.mono ?_;rintro v' h' ⟨v0,⟨b0,t0⟩,⟨rfl,h0,h1,h2⟩,rfl,rfl⟩;refine⟨(A.loc0 0 _ hv).2 _,?_⟩
 match b0,h0,h1,h2 with
 |x::y::z::b,h0,h1,h2=>
  simp only[Z7,ZT,Za]at h0 h1 h2;subst h0;subst h1;subst h2;have e1:(fM1 s').ren (fun i=>i)=fM1 s':=(m1 s').2;have e2:(fM2 s').ren (fun i=>i)=fM2 s':=(m2 s').2;simp only[Zi,ZH,Z8,YL,setAll,e1,e2];rfl
theorem dxp(f:Fo)(r:Jr)(hn:0≤f.n∧f.n≤1000000000)(l:List Blk)(t:List (TypeId×Nat×Nat)):
  AC 32 [.ptr 2 0,.agg r.cells] ⟨fM1 f::fM2 f::fB f::l,t⟩ fun v h'=>v=.bool (f.next r).1∧h'=⟨fM1 (f.next r).2::fM2 (f.next r).2::fB (f.next r).2::l,t⟩:=by
 have hloc:A.locL 0 [.agg r.cells]=true:=by
  have:=czy r;unfold recA at this;simp only[A.locL,this,Yl]
 refine liftF (s':=(f.next r).2) ?_ hloc rfl l t;have g1:=aqr recA r.step f.ints;have g2:=aqr A.bool r.step f.ress;have p1:=avj recA r.step r f.ints;have p2:=avj A.bool r.step true f.ress;have k1:=aja recA r.step f.ints f.c1;have k2:=aja A.bool r.step f.ress f.c2;have z1:=ay9 recA f.ints;have z2:=ay9 A.bool f.ress;obtain⟨q,hq⟩:=Ex (f.next r);rw[hq];unfold Fo.next at hq;dsimp only at hq;obtain⟨n,ended,ints,ress,c1,c2⟩:=f;dsimp only at *;have hw:IntKind.i64.wrap (n+1)=n+1:=wrap64 (by omega) (by omega);rw[hw]at hq;obtain⟨kd,⟨lin,ser,ins,ps,os⟩,st,op,ad,dp,ty,tk,er,⟨a1,a2,a3,a4,⟨k,nn,ss,is,ks⟩,v,tn,fi,ds⟩⟩:=r;simp only[Jr.cells,Sf.Inst.cells,Zd,Zg]at *;unfold fM1 fM2 fB;dsimp only;refine fo ?_;refine azc hw ti ?_;(refine AX.bw0 ti ?_ ?_)
 ·intro hc;rw[if_pos hc]at hq;subst hq;refine azc ti ti ?_;exact⟨_,le_refl _,rfl,rfl,rfl,rfl⟩
 intro hc;rw[if_neg (by rw[hc];decide)]at hq;have p1':mput st (.agg [.int .i64 kd,.str lin,.int .i64 ser,.sl 13 .no (ins.map Sf.Inst.cells),.sl 3 .no (ps.map Sf.Pend.cells),.sl 7 .no (os.map Sf.Outp.cells),.int .i64 st,.int .i64 op,.str ad,.str dp,.str ty,.str tk,.int .i64 er,.str a1,.str a2,.str a3,.str a4,.int .i64 k,.int .i64 nn,.str ss,.sl 5 .no (V.cellss is),.sl 1 .no (strsA ks),.int .i64 v,.bool tn,.bool fi,.sl 1 .no (strsA ds)]) (gmap recA ints)=gmap recA (gput st ⟨kd,⟨lin,ser,ins,ps,os⟩,st,op,ad,dp,ty,tk,er,⟨a1,a2,a3,a4,⟨k,nn,ss,is,ks⟩,v,tn,fi,ds⟩⟩ ints):=p1;obtain⟨x0,x1,x2,x3,x4,x5,x6,x9,x11,x12,x13,x14,x15,x16,x17,x18,x19,x20,x21,x22,x23,x24,x25,iop,iad,ity,b,hM,hone,hb,hf⟩:∃(x0 x1 x2 x3 x4 x5 x6 x9 x11 x12 x13 x14 x15 x16 x17 x18 x19 x20 x21 x22 x23 x24 x25:A) (iop:Int) (iad ity:List UInt8) (b:Bool),mgetV (.agg [.int .i64 0,.str [],.int .i64 0,.sl 0 .nil [],.sl 0 .nil [],.sl 0 .nil [],.int .i64 0,.int .i64 0,.str [],.str [],.str [],.str [],.int .i64 0,.str [],.str [],.str [],.str [],.int .i64 0,.int .i64 0,.str [],.sl 0 .nil [],.sl 0 .nil [],.int .i64 0,.bool false,.bool false,.sl 0 .nil []]) true (mfind st (gmap recA ints))=.tup [.agg [x0,x1,x2,x3,x4,x5,x6,.int .i64 iop,.str iad,x9,.str ity,x11,x12,x13,x14,x15,x16,x17,x18,x19,x20,x21,x22,x23,x24,x25],.bool b]∧(A.one x0=true∧A.one x1=true∧A.one x2=true∧A.one x3=true∧A.one x4=true∧A.one x5=true∧A.one x6=true∧A.one x9=true∧A.one x11=true∧A.one x12=true∧A.one x13=true∧A.one x14=true∧A.one x15=true∧A.one x16=true∧A.one x17=true∧A.one x18=true∧A.one x19=true∧A.one x20=true∧A.one x21=true∧A.one x22=true∧A.one x23=true∧A.one x24=true∧A.one x25=true)∧b=(gfind st ints).isSome∧∀j,gfind st ints=some j→iop=j.op∧iad=j.addr∧ity=j.typ:=by
  rw[g1];cases ho:gfind st ints with
  |none=>exact⟨.int .i64 0,.str [],.int .i64 0,.sl 0 .nil [],.sl 0 .nil [],.sl 0 .nil [],.int .i64 0,.str [],.str [],.int .i64 0,.str [],.str [],.str [],.str [],.int .i64 0,.int .i64 0,.str [],.sl 0 .nil [],.sl 0 .nil [],.int .i64 0,.bool false,.bool false,.sl 0 .nil [],0,[],[],false,rfl,⟨rfl,rfl,rfl,rfl,rfl,rfl,rfl,rfl,rfl,rfl,rfl,rfl,rfl,rfl,rfl,rfl,rfl,rfl,rfl,rfl,rfl,rfl,rfl⟩,rfl,fun j h=>by cases h⟩
  |some j=>
   obtain⟨jk,⟨jlin,jser,jins,jps,jos⟩,jst,jop,jad,jdp,jty,jtk,jer,⟨b1,b2,b3,b4,⟨jk2,jn,js,jis,jks⟩,jv,jtn,jfi,jds⟩⟩:=j;exact⟨.int .i64 jk,.str jlin,.int .i64 jser,.sl 13 .no (jins.map Sf.Inst.cells),.sl 3 .no (jps.map Sf.Pend.cells),.sl 7 .no (jos.map Sf.Outp.cells),.int .i64 jst,.str jdp,.str jtk,.int .i64 jer,.str b1,.str b2,.str b3,.str b4,.int .i64 jk2,.int .i64 jn,.str js,.sl 5 .no (V.cellss jis),.sl 1 .no (strsA jks),.int .i64 jv,.bool jtn,.bool jfi,.sl 1 .no (strsA jds),jop,jad,jty,true,rfl,⟨rfl,rfl,rfl,rfl,rfl,rfl,rfl,rfl,rfl,rfl,rfl,rfl,rfl,rfl,rfl,rfl,rfl,rfl,rfl,rfl,rfl,rfl,rfl⟩,rfl,fun j h=>by injection h with h;subst h;exact⟨rfl,rfl,rfl⟩⟩
 refine azc ti ti ?_;refine bqw [11] 10 [⟨[.map (gmap recA ints) c1,.map (gmap A.bool ress) c2,.cells 78 [.int .i64 (n+1),.bool ended,.mp 0,.mp 1],.cells 44 [.int .i64 kd,.str lin,.int .i64 ser,.sl 13 .no (ins.map Sf.Inst.cells),.sl 3 .no (ps.map Sf.Pend.cells),.sl 7 .no (os.map Sf.Outp.cells),.int .i64 st,.int .i64 op,.str ad,.str dp,.str ty,.str tk,.int .i64 er,.str a1,.str a2,.str a3,.str a4,.int .i64 k,.int .i64 nn,.str ss,.sl 5 .no (V.cellss is),.sl 1 .no (strsA ks),.int .i64 v,.bool tn,.bool fi,.sl 1 .no (strsA ds)]],[]⟩,⟨[],[]⟩,⟨[.map (gmap recA ints) c1,.map (gmap A.bool ress) c2,.cells 78 [.int .i64 (n+1),.bool ended,.mp 0,.mp 1],.cells 44 [.int .i64 kd,.str lin,.int .i64 ser,.sl 13 .no (ins.map Sf.Inst.cells),.sl 3 .no (ps.map Sf.Pend.cells),.sl 7 .no (os.map Sf.Outp.cells),.int .i64 st,.int .i64 op,.str ad,.str dp,.str ty,.str tk,.int .i64 er,.str a1,.str a2,.str a3,.str a4,.int .i64 k,.int .i64 nn,.str ss,.sl 5 .no (V.cellss is),.sl 1 .no (strsA ks),.int .i64 v,.bool tn,.bool fi,.sl 1 .no (strsA ds)],.cells 44 [.int .i64 0,.str [],.int .i64 0,.sl 0 .nil [],.sl 0 .nil [],.sl 0 .nil [],.int .i64 0,.int .i64 0,.str [],.str [],.str [],.str [],.int .i64 0,.str [],.str [],.str [],.str [],.int .i64 0,.int .i64 0,.str [],.sl 0 .nil [],.sl 0 .nil [],.int .i64 0,.bool false,.bool false,.sl 0 .nil []]],[]⟩,⟨[.map (gmap recA ints) c1,.map (gmap A.bool ress) c2,.cells 78 [.int .i64 (n+1),.bool ended,.mp 0,.mp 1],.cells 44 [.int .i64 kd,.str lin,.int .i64 ser,.sl 13 .no (ins.map Sf.Inst.cells),.sl 3 .no (ps.map Sf.Pend.cells),.sl 7 .no (os.map Sf.Outp.cells),.int .i64 st,.int .i64 op,.str ad,.str dp,.str ty,.str tk,.int .i64 er,.str a1,.str a2,.str a3,.str a4,.int .i64 k,.int .i64 nn,.str ss,.sl 5 .no (V.cellss is),.sl 1 .no (strsA ks),.int .i64 v,.bool tn,.bool fi,.sl 1 .no (strsA ds)],.cells 44 [x0,x1,x2,x3,x4,x5,x6,.int .i64 iop,.str iad,x9,.str ity,x11,x12,x13,x14,x15,x16,x17,x18,x19,x20,x21,x22,x23,x24,x25]],[]⟩] [[0,2],[0,2],[0,2],[0,2],[0,2],[0,2],[0,2],[0,2],[0,2],[0,2,3],[0],[2],[3]] rfl (by decide +kernel) ?_;refine AX.rung ti ?_;refine aka (v:=.tup [.agg [x0,x1,x2,x3,x4,x5,x6,.int .i64 iop,.str iad,x9,.str ity,x11,x12,x13,x14,x15,x16,x17,x18,x19,x20,x21,x22,x23,x24,x25],.bool b]) rfl ⟨by simp[evX,put,astep,mgetA,hM,ajm],by simp[evX,put,astep,mgetA,hM,ajm],trivial⟩ ?_;refine AX.rung hone ?_;refine aka (v:=.bool b) rfl ⟨by simp[evX,put,astep,ajm],by simp[evX,put,astep,ajm],by simp[evX,put,astep,ajm],trivial⟩ ?_;refine AX.rung hone ?_;refine aka (v:=.tup []) rfl ⟨by simp[evX,put,astep,storeA,setCells,A.cells,ajm,hone,show A.one (.int .i64 iop)=true from rfl,show A.one (.str iad)=true from rfl,show A.one (.str ity)=true from rfl],trivial⟩ ?_;refine aka (v:=.bool b) rfl ⟨by simp[evX,put,astep,ajm],trivial⟩ ?_;refine bj4 ?_;by_cases q2:kd=2
 ·subst q2;rw[if_pos rfl]at hq;subst hq;refine azc (ai p1' k1) ti ?_;exact⟨_,le_refl _,by rw[hb];rfl,rfl,rfl,rfl⟩
 have f2:(kd==2)=false:=by simp[q2]
 rw[if_neg q2]at hq
 have fin:∀ag:Bool,(b&&!ag&&iop==op&&iad==ad&&ity==ty)=(match gfind st ints with
   |some i=>!ag&&i.op==op&&i.addr==ad&&i.typ==ty
   |none=>false):=by
  intro ag;cases ho:gfind st ints with
  |none=>rw[hb,ho];rfl
  |some i=>
   obtain⟨e1,e2,e3⟩:=hf i ho;rw[hb,ho,e1,e2,e3];simp
 have hG:mgetV (.bool false) false (mfind st (gmap A.bool ress))=.bool ((gfind st ress).getD false):=by rw[g2];cases gfind st ress<;>rfl
 have p2':mput st (.bool true) (gmap A.bool ress)=gmap A.bool (gput st true ress):=p2;obtain⟨ag,hag⟩:=Ex ((gfind st ress).getD false);rw[hag]at hG hq;have hG':(mfind st (gmap A.bool ress)).getD (.bool false)=.bool ag:=hG;by_cases q34:kd=3∨kd=4
 ·rw[if_pos q34]at hq;subst hq;rcases q34 with rfl|rfl
  ·refine azc (ai p2' (ai k2 (ai hG hG'))) ti ?_;exact⟨_,le_refl _,congrArg A.bool (fin ag),rfl,rfl,rfl⟩
  ·refine azc (ai p2' (ai k2 (ai hG hG'))) ti ?_;exact⟨_,le_refl _,congrArg A.bool (fin ag),rfl,rfl,rfl⟩
 have f3:(kd==3)=false:=by simp;omega
 have f4:(kd==4)=false:=by simp;omega
 rw[if_neg q34]at hq;by_cases q5:kd=5
 ·subst q5;rw[if_pos rfl]at hq;subst hq;refine azc (ai z1 z2) ti ?_;exact⟨_,le_refl _,rfl,rfl,rfl,rfl⟩
 have f5:(kd==5)=false:=by simp[q5]
 rw[if_neg q5]at hq;subst hq;refine azc (ai f2 (ai f3 (ai f4 f5))) ti ?_;exact⟨_,le_refl _,rfl,rfl,rfl,rfl⟩
structure JrIn(r:Jr):Prop where
 base:Sf.StIn r.base
 lens:r.after.attrs.lens
 deps:r.after.deps.length≤1000000000
theorem Fo.next_n(f:Fo)(r:Jr):(f.next r).2.n=IntKind.i64.wrap (f.n+1):=by
 unfold Fo.next;dsimp only
 repeat' split
 all_goals rfl
theorem dz2(l:List Jr)(hin:∀r∈l,JrIn r)(hl:l.length≤1000000)(h:Hp):AT 12 [.sl 26 .no (l.map Jr.cells)] h (.int .i64 (Fo.check ⟨0,false,[],[],0,0⟩ l)):=by
 refine pcall ?_ rfl (by simp[A.pure,A.data]) h;refine azb mixedT cyq (by simp[bjb]) ?_;dsimp only[bjb];obtain⟨q,hq⟩:=Ex (Fo.check ⟨0,false,[],[],0,0⟩ l);rw[hq];have li:(l.map Jr.cells).length=l.length:=Zj _;refine azf li ?_
 refine azd (fun m ts hh=>∃(i:Nat) (f:Fo) (l':List Blk) (t:List (TypeId×Nat×Nat)),m=l.length-i∧i≤l.length∧hh=⟨fM1 f::fM2 f::fB f::l',t⟩∧Fo.check f (l.drop i)=q∧f.n=(i:Int) ∧
  (ts 3=.ptr 2 0∧ts 10=.sl 26 .no (l.map Jr.cells)∧ts 11=.int .i64 (l.length:Nat)∧ts 12=.int .i64 (i:Nat))) l.length ?_ ?_
 ·exact⟨0,⟨0,false,[],[],0,0⟩,[],[],rfl,Zq _,rfl,hq,rfl,by(exact azo li)⟩
 rintro m ts hh ⟨i,f,l',t,rfl,hi,rfl,hc,hfn,ht⟩;rcases Zr i l.length with hlt|hge;rotate_left
 ·have hf:=azq Jr.cells l i hge;rw[Zt hge]at hc;have hc:0=q:=hc;subst hc;refine azf (ai ht hf) ?_;exact Fn rfl
 have hf:=azp Jr.cells l i hlt (by omega);have hri:=hin _ (Zp hlt);rw[Zl hlt]at hc;unfold Fo.check at hc;obtain⟨r,hr⟩:=Ex (l[i]);rw[hr]at hf hri hc;have cv:=dzg r hri.lens hri.deps;have cs:=akv r.base hri.base;have cn:=fun l t=>dxp f r (by omega) l t
 have hnn:=Fo.next_n f r;obtain⟨⟨nb,f'⟩,hn⟩:=Ex (f.next r);rw[hn]at cn hc hnn;dsimp only at cn hc hnn;obtain⟨vb,hvb⟩:=Ex (r.validB);obtain⟨Z,hZ⟩:=Ex (Sf.checkZ r.base);unfold SCheck at cs;rw[hvb]at cv hc;rw[hZ]at cs hc;clear hvb hZ hn hri hr;obtain⟨kd,⟨lin,ser,ins,ps,os⟩,st,op,ad,dp,ty,tk,er,⟨a1,a2,a3,a4,⟨k,nn,ss,is,ks⟩,v,tn,fi,ds⟩⟩:=r;simp only[Jr.cells,Sf.Inst.cells,Zd,Zg,Sf.St.A]at hf cv cn cs;unfold fM1 fM2 fB at cn⊢;cases vb
 ·rw[if_pos (by rfl)]at hc;subst hc;refine azc (ai ht hf) (ai cv ti) ?_;exact Fn rfl
 have hc:(if(kd==1&&Z !=0)=true then 1 else if nb=true then Fo.check f' (l.drop (i+1))else 38)=q:=hc;refine azc (ai ht hf) (ai cv (ai cs ti)) ?_;(refine AX.bw0 ht ?_ ?_)
 ·intro hb;rw[if_pos hb]at hc;subst hc;refine azc (ai ht hf) ti ?_;exact Fn rfl
 intro hb;rw[if_neg (by rw[hb];decide)]at hc;refine azc (ai ht hf) (ai cn ti) ?_;cases nb
 ·rw[if_neg (by decide)]at hc;subst hc;refine azc (ai ht hf) ti ?_;exact Fn rfl
 ·rw[if_pos rfl]at hc;refine azc (ai ht hf) ti ?_;exact⟨_,by omega,i+1,f',_,_,rfl,by omega,rfl,hc,by rw[hnn,hfn];exact wrap64 (by omega) (by omega),by(exact azo (ai ht hf))⟩
end AX
end
section
open Go.RowKit Go.ChangeShapes Go.WideShapes Go.Deep
mutual
def D.bulk:D→Nat
 |.int ..=>1
 |.str l=>l.length+1
 |.bool _=>1
 |.agg l=>D.bulks l+1
 |.sl _ l=>D.bulks l+1
def D.bulks:List D→Nat
 |[]=>0
 |d::l=>d.bulk+D.bulks l
end
theorem cz1{H:Type}:∀(l:List D) (xs:List (DataW H)),l.length=xs.length→(∀i (hi:i<l.length) (hj:i<xs.length),l[i].bulk≤Rows.uptoBulk xs[i])→D.bulks l≤Rows.uptoBulkAll xs
 |[],[],_,_=>by rw[D.bulks];exact Zq _
 |[],_::_,h,_=>by simp at h
 |_::_,[],h,_=>by simp at h
 |d::l,x::xs,h,hb=>by
  rw[D.bulks,Rows.uptoBulkAll];exact Nat.add_le_add (hb 0 (by simp) (by simp)) (cz1 l xs (by simpa using h) fun i hi hj=>hb (i+1) (Nat.succ_lt_succ hi) (Nat.succ_lt_succ hj))
section
variable {H:Type} {enc:TypeId×Value→H} {P:Program} {w:World} {base:Nat} {spare:Nat→Bool} {held:Bool} {K:List TypeId}
theorem akq{n:Nat}(ih:∀t,t∈K→∀cs x,DataW.trod enc P w base spare held n t cs=some x→∃d,Rd w (Old w) d cs∧Conf P d t∧d.bulk≤Rows.uptoBulk x.1)(cs:List Value):
  ∀(fs:List Field) (o tot:Nat) (ys:List (DataW H×List MemPlace)),(∀f∈fs,f.type∈K)→flat P fs o=some tot→cs.length=tot→ys.length=fs.length →
   (∀(i:Nat) (f:Field),fs[i]?=some f→DataW.trod enc P w base spare held n f.type ((cs.drop f.offset).take (P.cellsOf f.type))=ys[i]?) →
   ∃l,RdAgg w (Old w) l (cs.drop o)∧ConfL P l (fs.map (·.type))∧D.bulks l≤Rows.uptoBulkAll (ys.map (·.1))
 |[],o,tot,ys,hK,hf,hc,hy,hg=>by
  simp only[flat,Za]at hf;exact⟨[],by unfold RdAgg;exact Zt (by omega),by unfold ConfL;rfl,by unfold D.bulks;exact Zq _⟩
 |f::fs,o,tot,ys,hK,hf,hc,hy,hg=>by
  simp only[flat]at hf;split at hf
  ·next hfo=>
   match ys,hy with
   |y::ys,hy=>
    have h0:=hg 0 f rfl;obtain⟨d,hd,hcf,hdb⟩:=ih f.type (hK f (by simp)) _ _ h0;obtain⟨l,hl,hcl2,hlb⟩:=akq ih cs fs (o+P.cellsOf f.type) tot ys (fun g hg=>hK g (by simp[hg])) hf hc (by simpa using hy) (fun i g hi=>by simpa using hg (i+1) g (by simpa using hi));refine⟨d::l,?_,?_,?_⟩
    ·unfold RdAgg;refine⟨_,cs.drop (o+P.cellsOf f.type),?_,by rw[hfo]at hd;exact hd,hl⟩;rw[←YI,Y7]
    ·unfold ConfL;exact⟨f.type,fs.map (·.type),rfl,hcf,hcl2⟩
    ·rw[ZE,Rows.uptoBulkAll,D.bulks];exact Nat.add_le_add hdb hlb
  ·cases hf
theorem ak4(hP:plainAll P K=true):∀(n:Nat) (t:TypeId),t∈K→∀cs x,DataW.trod enc P w base spare held n t cs=some x→∃d,Rd w (Old w) d cs∧Conf P d t∧d.bulk≤Rows.uptoBulk x.1
 |0,t,hK,cs,x,h=>by simp[DataW.trod]at h
 |n+1,t,hK,cs,x,h=>by
  have hk:plainB P K t=true:=by
   unfold plainAll at hP;rw[ZF]at hP;exact hP t hK
  unfold plainB at hk;split at hk
  ·next k hu=>
   obtain⟨m,rfl,rfl,hw⟩:=DataW.trod_int hu h;exact⟨.int k m,by unfold Rd;rfl,by unfold Conf;exact⟨hu,hw⟩,by unfold D.bulk Rows.uptoBulk;exact Zh _⟩
  ·next hu=>
   obtain⟨s,rfl,rfl,hs⟩:=DataW.trod_string hu h;exact⟨.str s.data.toList,by unfold Rd;simp,by unfold Conf;exact⟨hu,by simpa using hs⟩,by unfold D.bulk Rows.uptoBulk;exact Zh _⟩
  ·next hu=>
   obtain⟨b,rfl,rfl⟩:=DataW.trod_bool hu h;exact⟨.bool b,by unfold Rd;rfl,by unfold Conf;exact hu,by unfold D.bulk Rows.uptoBulk;exact Zh _⟩
  ·next fs hu=>
   rw[Zf,ZF,ZC]at hk;obtain⟨xs,n',hn,rfl,hcl,hxl,hg⟩:=DataW.trod_struct hu h;obtain rfl:n'=n:=by omega
   obtain⟨l,hl,hcf,hlb⟩:=akq (fun t hK cs x h=>ak4 hP n' t hK cs x h) cs fs.toList 0 _ xs (fun f hf=>by simpa using hk.1 f hf) hk.2 hcl (by simpa using hxl) (fun i f hi=>hg i f (by simpa using hi));exact⟨.agg l,by unfold Rd;exact hl,by unfold Conf;exact⟨fs,hu,hcf⟩,by rw[D.bulk,Rows.uptoBulk];exact Nat.succ_le_succ hlb⟩
  ·next e hu=>
   rw[Zf,ZD]at hk;have heK:e∈K:=by simpa using hk.1
   have hpos:=hk.2;rcases DataW.trod_slice hu h with⟨rfl,rfl⟩|⟨a,len,cap,elems,rest,n',hn,rfl,rfl,hb,hlc,hcm,hel,hi,_⟩
   ·exact⟨.sl (P.cellsOf e) [],by unfold Rd;exact⟨none,0,rfl,Zh _,by unfold RdRow;trivial⟩,by unfold Conf;exact⟨e,hu,rfl,by unfold ConfA;trivial,by simp⟩,by simp[D.bulk,D.bulks,Rows.uptoBulk]⟩
   ·obtain rfl:n'=n:=by omega
    have hex:∀i,i<len→∃d:D,∃c,c.length=P.cellsOf e∧(∀j,j<P.cellsOf e→w.cell? ((a.add (i*P.cellsOf e)).add j)=c[j]?)∧Rd w (Old w) d c∧Conf P d e∧∀y,elems[i]?=some y→d.bulk≤Rows.uptoBulk y.1:=by
     intro i hil;have h1:=hi i hil;have h2:elems[i]?=some (elems[i]'(by omega)):=Zm (by omega);rw[h2]at h1;obtain⟨c,hc,ht⟩:=Zc.1 h1;obtain⟨d,hd,hcf,hdb⟩:=ak4 hP n' e heK c _ ht;obtain⟨_,hcl,hat⟩:=World.cells?_some hc;exact⟨d,c,hcl,hat,hd,hcf,fun y hy=>by rw[h2]at hy;injection hy with hy;subst hy;exact hdb⟩
    haveI:Inhabited D:=⟨.bool true⟩
    obtain⟨f,hf⟩:=choose_lt hex;refine⟨.sl (P.cellsOf e) ((List.range len).map f),?_,?_,?_⟩
    ·unfold Rd;refine⟨some a,cap,by simp,by simpa using hlc,RdRow.of _ _ _ fun k hk=>?_⟩;have hkl:k<len:=by simpa using hk
     obtain⟨c,hcl,hat,hrd,_⟩:=hf k hkl;obtain⟨c0,hcl0,hat0,_,_⟩:=hf 0 (by omega);obtain⟨g,off,sp⟩:=a;have h0:=hat0 0 hpos;rw[Zm (by omega)]at h0;have hs:sp=none:=by
      have:=(aqo h0).1;simpa [Addr.add]using this
     subst hs;have h1:=hat 0 hpos;rw[Zm (by omega)]at h1;have hlt:=(aqo h1).2;rw[aqv,aqv]at hlt;refine⟨g,off,c,rfl,hlt,hcl,fun j hj=>?_,by simpa using hrd⟩;have:=hat j hj;rw[aqv,aqv]at this;rw[Yc];exact this
    ·unfold Conf;exact⟨e,hu,rfl,czw P e _ fun k hk=>by simpa using (hf k (by simpa using hk)).choose_spec.2.2.2.1,by simp;omega⟩
    ·rw[D.bulk,Rows.uptoBulk]
     have:=cz1 ((List.range len).map f) (elems.map (·.1)) (by simp;omega) (fun i hi hj=>by
      obtain⟨c,_,_,_,_,h9⟩:=hf i (by simpa using hi)
      simpa using h9 (elems[i]'(by simpa using hj)) (Zm _))
     omega
  ·cases hk
end
end
section
namespace Wire
end Wire
namespace Val
end Val
namespace Sf
end Sf
end
section
open Go.RowKit
namespace Sf
end Sf
end
section
namespace Sf
theorem flat_len{α:Type}(f:α→List UInt8)(hf:∀x,1≤(f x).length):∀l:List α,l.length≤(l.flatMap f).length
 |[]=>by simp
 |x::l=>by
  have:=hf x;have:=flat_len f hf l;rw[Zag,Zb,Zi];omega
structure TypIn(s:St):Prop where
 insts:∀x∈s.insts,x.typ.length≤2000000
 pends:∀x∈s.pends,x.typ.length≤2000000
end Sf
end
section
open Go.RowKit Go.ChangeShapes Go.WideShapes
theorem avf{α:Type}{f:α→D}{Q:α→Prop}:∀l:List D,(∀d∈l,∃x,d=f x∧Q x)→∃xs:List α,l=xs.map f∧∀x∈xs,Q x
 |[],h=>⟨[],rfl,by simp⟩
 |d::l,h=>by
  obtain⟨x,rfl,hx⟩:=h d (by simp);obtain⟨xs,rfl,hxs⟩:=avf l fun d hd=>h d (by simp[hd])
  exact⟨x::xs,rfl,YV.2 ⟨hx,hxs⟩⟩
namespace Sf
def Inst.toD(x:Inst):D:=.agg [.str x.addr,.str x.dep,.str x.id,.str x.typ,x.attrs.toD,.int .i64 x.ver,.bool x.tainted,.bool x.first,.sl 1 (x.deps.map .str)]
def Pend.toD(p:Pend):D:=.agg [.str p.addr,.str p.typ,.str p.tok]
def Outp.toD(o:Outp):D:=.agg [.str o.name,o.value.toD,.bool o.sens]
def St.toD(s:St):D:=.agg [.str s.lin,.int .i64 s.ser,.sl 13 (s.insts.map Inst.toD),.sl 3 (s.pends.map Pend.toD),.sl 7 (s.outs.map Outp.toD)]
structure St.Wf(s:St):Prop where
 insts:∀x∈s.insts,x.attrs.Wf
 outs:∀x∈s.outs,x.value.Wf
 ser:(Lit.int .i64 s.ser).wf=true
theorem Inst.cells_toD(x:Inst):x.toD.cells=x.cells:=by
 obtain⟨a,d,i,t,⟨k,n,s,is,ks⟩,v,tn,fi,ds⟩:=x;unfold Inst.toD Inst.cells;simp only[D.cells,D.cellsL,V.cells_toD,V.cells,ave,Zd,Zg,ZN]
theorem Pend.cells_toD(x:Pend):x.toD.cells=x.cells:=by
 unfold Pend.toD Pend.cells;simp only[D.cells,D.cellsL,Zd,Zg,ZN]
theorem Outp.cells_toD(x:Outp):x.toD.cells=x.cells:=by
 obtain⟨m,⟨k,n,s,is,ks⟩,b⟩:=x;unfold Outp.toD Outp.cells;simp only[D.cells,D.cellsL,V.cells_toD,V.cells,ave,Zd,Zg,ZN]
theorem rows_map{α:Type}(f:α→D)(g:α→List AX.A)(h:∀x,(f x).cells=g x):∀l:List α,D.rows (l.map f)=l.map g
 |[]=>by simp[D.rows]
 |x::l=>by simp only[ZE,D.rows,h,rows_map f g h l]
theorem St.cells_toD(s:St):AX.A.agg s.toD.cells=s.A:=by
 unfold St.toD St.A;simp only[D.cells,D.cellsL,rows_map _ _ Inst.cells_toD,rows_map _ _ Pend.cells_toD,rows_map _ _ Outp.cells_toD,Zd,Zg,ZN]
theorem conf_inst{d:D}(h:Conf Tryz.prog d 42):∃x:Inst,d=x.toD∧x.attrs.Wf:=by
 obtain⟨l',rfl,h2⟩:=az7 Tryz.underlying42 h;obtain⟨d0,l1,rfl,c0,h2⟩:=azi h2;obtain⟨d1,l2,rfl,c1,h2⟩:=azi h2;obtain⟨d2,l3,rfl,c2,h2⟩:=azi h2;obtain⟨d3,l4,rfl,c3,h2⟩:=azi h2;obtain⟨d4,l5,rfl,c4,h2⟩:=azi h2;obtain⟨d5,l6,rfl,c5,h2⟩:=azi h2;obtain⟨d6,l7,rfl,c6,h2⟩:=azi h2;obtain⟨d7,l8,rfl,c7,h2⟩:=azi h2;obtain⟨d8,l9,rfl,c8,h2⟩:=azi h2;obtain rfl:=axg h2;obtain⟨a,rfl,_⟩:=az0 Tryz.underlying9 c0;obtain⟨b,rfl,_⟩:=az0 Tryz.underlying9 c1;obtain⟨c,rfl,_⟩:=az0 Tryz.underlying9 c2;obtain⟨e,rfl,_⟩:=az0 Tryz.underlying9 c3;obtain⟨v,rfl,hv⟩:=cza c4;obtain⟨n,rfl,_⟩:=aq2 (k:=.i64) Tryz.underlying3 c5;obtain⟨t,rfl⟩:=awg Tryz.underlying4 c6;obtain⟨f,rfl⟩:=awg Tryz.underlying4 c7;obtain⟨l4,rfl,c9,_⟩:=aqa Tryz.underlying38 c8;obtain⟨ks,rfl,_⟩:=bzi Tryz.underlying9 l4 c9;have hw:Tryz.prog.cellsOf 9=1:=by kernel_rfl
 rw[hw];exact⟨⟨a,b,c,e,v,n,t,f,ks⟩,rfl,hv⟩
theorem conf_pend{d:D}(h:Conf Tryz.prog d 48):∃x:Pend,d=x.toD∧True:=by
 obtain⟨l',rfl,h2⟩:=az7 Tryz.underlying48 h;obtain⟨d0,l1,rfl,c0,h2⟩:=azi h2;obtain⟨d1,l2,rfl,c1,h2⟩:=azi h2;obtain⟨d2,l3,rfl,c2,h2⟩:=azi h2;obtain rfl:=axg h2;obtain⟨a,rfl,_⟩:=az0 Tryz.underlying9 c0;obtain⟨b,rfl,_⟩:=az0 Tryz.underlying9 c1;obtain⟨c,rfl,_⟩:=az0 Tryz.underlying9 c2;exact⟨⟨a,b,c⟩,rfl,trivial⟩
theorem conf_outp{d:D}(h:Conf Tryz.prog d 65):∃x:Outp,d=x.toD∧x.value.Wf:=by
 obtain⟨l',rfl,h2⟩:=az7 Tryz.underlying65 h;obtain⟨d0,l1,rfl,c0,h2⟩:=azi h2;obtain⟨d1,l2,rfl,c1,h2⟩:=azi h2;obtain⟨d2,l3,rfl,c2,h2⟩:=azi h2;obtain rfl:=axg h2;obtain⟨a,rfl,_⟩:=az0 Tryz.underlying9 c0;obtain⟨v,rfl,hv⟩:=cza c1;obtain⟨t,rfl⟩:=awg Tryz.underlying4 c2;exact⟨⟨a,v,t⟩,rfl,hv⟩
theorem conf_st{d:D}(h:Conf Tryz.prog d 26):∃x:St,d=x.toD∧x.Wf:=by
 obtain⟨l',rfl,h2⟩:=az7 Tryz.underlying26 h;obtain⟨d0,l1,rfl,c0,h2⟩:=azi h2;obtain⟨d1,l2,rfl,c1,h2⟩:=azi h2;obtain⟨d2,l3,rfl,c2,h2⟩:=azi h2;obtain⟨d3,l4,rfl,c3,h2⟩:=azi h2;obtain⟨d4,l5,rfl,c4,h2⟩:=azi h2;obtain rfl:=axg h2;obtain⟨a,rfl,_⟩:=az0 Tryz.underlying9 c0;obtain⟨n,rfl,hn⟩:=aq2 (k:=.i64) Tryz.underlying3 c1;obtain⟨l2,rfl,k2,_⟩:=aqa Tryz.underlying22 c2;obtain⟨l3,rfl,k3,_⟩:=aqa Tryz.underlying23 c3;obtain⟨l4,rfl,k4,_⟩:=aqa Tryz.underlying24 c4;obtain⟨xs,rfl,hx⟩:=avf l2 fun d hd=>conf_inst (axb k2 d hd)
 obtain⟨ps,rfl,_⟩:=avf l3 fun d hd=>conf_pend (axb k3 d hd)
 obtain⟨os,rfl,ho⟩:=avf l4 fun d hd=>conf_outp (axb k4 d hd)
 have hw1:Tryz.prog.cellsOf 42=13:=by kernel_rfl
 have hw2:Tryz.prog.cellsOf 48=3:=by kernel_rfl
 have hw3:Tryz.prog.cellsOf 65=7:=by kernel_rfl
 rw[hw1,hw2,hw3];exact⟨⟨a,n,xs,ps,os⟩,rfl,hx,ho,hn⟩
end Sf
theorem ax1:∀ks:List (List UInt8),ks.length≤D.bulks (ks.map .str)∧∀s∈ks,s.length+1≤D.bulks (ks.map .str)
 |[]=>by simp
 |k::ks=>by
  obtain⟨h1,h2⟩:=ax1 ks;rw[ZE,D.bulks,D.bulk];refine⟨by simp only[Zi];omega,fun s hs=>?_⟩;rcases ZJ.1 hs with rfl|hs
  ·omega
  ·have:=h2 s hs;omega
theorem ak0(n:Int):(Wire.num n).length≤10:=(Wire.encF_len 9 (Wire.zig n)).2
theorem axq(s:List UInt8):(Wire.strE s).length≤10+s.length:=by
 unfold Wire.strE;rw[Zb];have:=ak0 (s.length:Int);omega
theorem czn(d:D):1≤d.bulk:=by cases d<;>rw[D.bulk]<;>omega
mutual
theorem bx0:∀v:V,(Val.enc v).length≤30*v.toD.bulk
 |.mk k n s is ks=>by
  have h1:=ayl (k==5) is ks;have n1:=ak0 k;have n2:=ak0 n;have n3:=axq s;have n4:=ak0 (is.length:Int);rw[Val.enc,V.toD,D.bulk,D.bulks,D.bulks,D.bulks,D.bulks,D.bulks,D.bulks,D.bulk,D.bulk,D.bulk,D.bulk,D.bulk,Zb];split
  ·omega
  ·split
   ·omega
   ·split
    ·rw[Zb];omega
    ·simp only[ZH];omega
theorem ayl:∀(m:Bool) (l:List V) (ks:List (List UInt8)),(Val.encs m l ks).length≤30*(D.bulks (V.toDs l)+D.bulks (ks.map .str))
 |m,[],ks=>by rw[Val.encs];simp
 |m,v::l,ks=>by
  have h1:=bx0 v;have hp:=czn v.toD;rw[Val.encs,V.toDs,D.bulks,Zb,Zb];cases ks with
  |nil=>
   have h2:=ayl m l ([]:List (List UInt8)).tail;have:(Val.keyE m []).length=0:=by cases m<;>rfl
   simp only[List.tail_nil]at h2⊢;omega
  |cons k ks=>
   have h2:=ayl m l (k::ks).tail;have h3:(Val.keyE m (k::ks)).length≤10+k.length:=by
    cases m
    ·simp[Val.keyE]
    ·exact axq k
   rw[Zal]at h2;rw[ZE,D.bulks,D.bulk,Zal];omega
end
theorem axr{α:Type}(f:α→List UInt8)(g:α→D)(h:∀x,(f x).length≤30*(g x).bulk):∀l:List α,(l.flatMap f).length≤30*D.bulks (l.map g)
 |[]=>by simp
 |x::l=>by
  have:=h x;have:=axr f g h l;rw[Zag,ZE,D.bulks,Zb];omega
theorem aqe{α:Type}(g:α→D):∀l:List α,l.length≤D.bulks (l.map g)∧∀x∈l,(g x).bulk≤D.bulks (l.map g)
 |[]=>by simp
 |x::l=>by
  obtain⟨h1,h2⟩:=aqe g l;have:=czn (g x);rw[ZE,D.bulks];refine⟨by simp only[Zi];omega,fun y hy=>?_⟩;rcases ZJ.1 hy with rfl|hy
  ·omega
  ·have:=h2 y hy;omega
namespace Sf
theorem flag10(b:Bool):(flagE b).length≤10:=ak0 _
theorem instE_bulk(ver:Int)(x:Inst):(instE ver x).length≤30*x.toD.bulk:=by
 have a1:=axq x.addr;have a2:=axq x.dep;have a3:=axq x.id;have a4:=axq x.typ;have a5:=bx0 x.attrs;have a6:=ak0 x.ver;have a7:=flag10 x.tainted;have a8:(if ver=2 then flagE x.first else[]).length≤10:=by
  split
  ·exact flag10 _
  ·simp
 have a9:=ak0 (x.deps.length:Int);have a10:=axr Wire.strE D.str (fun s=>by rw[D.bulk];have:=axq s;omega) x.deps;unfold instE wordsE Inst.toD;simp only[Zb,D.bulk,D.bulks];omega
theorem pendE_bulk(x:Pend):(pendE x).length≤30*x.toD.bulk:=by
 have a1:=axq x.addr;have a2:=axq x.typ;have a3:=axq x.tok;unfold pendE Pend.toD;simp only[Zb,D.bulk,D.bulks];omega
theorem outE_bulk(x:Outp):(outE x).length≤30*x.toD.bulk:=by
 have a1:=axq x.name;have a2:=bx0 x.value;have a3:=flag10 x.sens;unfold outE Outp.toD;simp only[Zb,D.bulk,D.bulks];omega
theorem stE_bulk(ver:Int)(s:St):(stE ver s).length≤30*s.toD.bulk:=by
 have a0:magic.length=4:=rfl;have a1:=ak0 ver;have a2:=axq s.lin;have a3:=ak0 s.ser;have a4:=ak0 (s.insts.length:Int);have a5:=axr (instE ver) Inst.toD (instE_bulk ver) s.insts;have a6:(if ver=2 then Wire.num s.pends.length++s.pends.flatMap pendE else[]).length≤10+30*D.bulks (s.pends.map Pend.toD):=by
  have b1:=ak0 (s.pends.length:Int);have b2:=axr pendE Pend.toD pendE_bulk s.pends;split
  ·rw[Zb];omega
  ·simp
 have a7:=ak0 (s.outs.length:Int);have a8:=axr outE Outp.toD outE_bulk s.outs;unfold stE St.toD;simp only[Zb,D.bulk,D.bulks];omega
structure Fit(s:St):Prop where
 sin:AX.Sf.StIn s
 tin:TypIn s
 len:∀ver,(stE ver s).length+20≤1000000000
theorem inst_fit{x:Inst}(hw:x.attrs.Wf)(hb:x.toD.bulk≤1500000):AX.Sf.InstIn x∧x.typ.length≤2000000:=by
 unfold Inst.toD at hb;simp only[D.bulk,D.bulks]at hb;obtain⟨h1,h2⟩:=ax1 x.deps;exact⟨⟨by omega,by omega,by omega,V.Wf.lens _ hw,by omega,fun s hs=>by have:=h2 s hs;omega⟩,by omega⟩
theorem fit_of{s:St}(hw:s.Wf)(hb:s.toD.bulk≤1500000):Fit s:=by
 have hE:=fun ver=>stE_bulk ver s
 have hb':=hb;unfold St.toD at hb';simp only[D.bulk,D.bulks]at hb';obtain⟨i1,i2⟩:=aqe Inst.toD s.insts;obtain⟨p1,p2⟩:=aqe Pend.toD s.pends;obtain⟨o1,o2⟩:=aqe Outp.toD s.outs;have hi:∀x∈s.insts,AX.Sf.InstIn x∧x.typ.length≤2000000:=fun x hx=>inst_fit (hw.insts x hx) (by have:=i2 x hx;omega)
 have hp:∀x∈s.pends,x.addr.length≤2000000∧x.typ.length≤2000000∧x.tok.length≤2000000:=fun x hx=>by
  have:x.toD.bulk≤1500000:=by have:=p2 x hx;omega
  unfold Pend.toD at this;simp only[D.bulk,D.bulks]at this;refine⟨?_,?_,?_⟩<;>omega
 have ho:∀x∈s.outs,x.name.length≤2000000∧x.value.lens:=fun x hx=>by
  have:x.toD.bulk≤1500000:=by have:=o2 x hx;omega
  unfold Outp.toD at this;simp only[D.bulk,D.bulks]at this;exact⟨by omega,V.Wf.lens _ (hw.outs x hx)⟩
 refine⟨⟨by omega,fun x hx=>(hi x hx).1,fun x hx=>⟨(hp x hx).1,(hp x hx).2.2⟩,ho,by omega,by omega,by omega⟩,⟨fun x hx=>(hi x hx).2,fun x hx=>(hp x hx).2.1⟩,fun ver=>?_⟩;have:=hE ver;omega
end Sf
end
end Go.Proofs.YtnghhnahdjjpkaaGreatDoor
