/- Part of what the proof needs. -/
import Derived.Test.YtdgcbckcameggadGreatDoorMFrJournalLogsUpto0
import Derived.Test.YtdgcbckcameggadGreatDoorMFrJournalLogsUptoE
import Derived.Test.YtdgcbckcameggadGreatDoorMFrJournalLogsUptoH
import Derived.Test.YtdgcbckcameggadGreatDoorMFrJournalLogsUptoI
import Derived.Test.YtdgcbckcameggadGreatDoorMFrJournalLogsUptoJ
import Derived.Test.YtdgcbckcameggadGreatDoorMFrJournalLogsUptoK
import Derived.Test.YtdgcbckcameggadGreatDoorMFrJournalLogsUptoL
import Derived.Test.YtdgcbckcameggadGreatDoorMFrJournalLogsUptoM
import Derived.Test.YtdgcbckcameggadGreatDoorMFrJournalLogsUptoN
import Derived.Test.YtdgcbckcameggadGreatDoorRows
set_option maxHeartbeats 4000000
set_option linter.unusedSimpArgs false
set_option linter.unusedVariables false
set_option linter.unnecessarySimpa false
namespace Go.Proofs.YtdgcbckcameggadGreatDoor
open Go.RowKit
namespace AX
structure StepE(r:Jr):Prop where
 s0:-9223372036854775808≤r.step
 s1:r.step≤9223372036854775807
 o0:-9223372036854775808≤r.op
 o1:r.op≤9223372036854775807
theorem ckn(r:Jr):A.locL 0 [.agg r.cells]=true:=by
 obtain⟨kd,⟨lin,ser,ins,ps,os⟩,st,op,ad,dp,ty,tk,er,⟨a1,a2,a3,a4,⟨k,nn,ss,is,ks⟩,v,tn,fi,ds⟩⟩:=r;simp[A.locL,A.loc,Jr.cells,Sf.Inst.cells]
theorem cxp(s:List UInt8)(r:Jr)(hr:StepE r)(hs:s.length+(Jr.stepE r).length+30≤1000000000){h:Hp}{i:Nat}(hb:h.b[i]?=some (jwB s)) :
  AC 29 [.ptr i 0,.agg r.cells] h fun v h'=>v=.tup []∧h'=⟨h.b.set i (jwB (s++Jr.stepE r)),h.t⟩:=by
 refine liftJ (x:=.ptr 0 0) rfl rfl ?_ (ckn r) hb;have e1:[r.step,r.op].flatMap Wire.num=Wire.num r.step++Wire.num r.op:=by simp
 have e2:[r.addr,r.dep,r.typ].flatMap Wire.strE=Wire.strE r.addr++Wire.strE r.dep++Wire.strE r.typ:=by simp
 have e3:s++Jr.stepE r=s++(Wire.num r.step++Wire.num r.op)++(Wire.strE r.addr++Wire.strE r.dep++Wire.strE r.typ):=by simp[Jr.stepE,Zg]
 have hlen:(Jr.stepE r).length=(Wire.num r.step++Wire.num r.op).length+(Wire.strE r.addr++Wire.strE r.dep++Wire.strE r.typ).length:=by simp only[Jr.stepE,Za];omega
 have c1:=fun B=>cxm s [r.step,r.op] (by simp only[Z7,List.not_mem_nil,or_false,forall_eq_or_imp,forall_eq];exact⟨⟨hr.s0,hr.s1⟩,hr.o0,hr.o1⟩) (by rw[e1];omega) (by simp) (h:=⟨[jwB s,B],[]⟩) (i:=0) rfl
 have c2:=fun B=>bz4 (s++(Wire.num r.step++Wire.num r.op)) [r.addr,r.dep,r.typ] (by rw[e2,Za];omega) (by simp) (h:=⟨[jwB (s++(Wire.num r.step++Wire.num r.op)),B],[]⟩) (i:=0) rfl
 rw[e1]at c1;rw[e2]at c2;rw[e3];obtain⟨X,hX⟩:=Ex (s++(Wire.num r.step++Wire.num r.op));rw[hX]at c1 c2 ⊢;obtain⟨Y,hY⟩:=Ex (X++(Wire.strE r.addr++Wire.strE r.dep++Wire.strE r.typ));rw[hY]at c2 ⊢;clear hr hs e1 e2 e3 hlen hX hY;obtain⟨kd,⟨lin,ser,ins,ps,os⟩,st,op,ad,dp,ty,tk,er,⟨a1,a2,a3,a4,⟨k,nn,ss,is,ks⟩,v,tn,fi,ds⟩⟩:=r;simp only[Jr.cells,Sf.Inst.cells,Zl,Zi,ZH,Yn,Yc]at c1 c2 ⊢;refine fo ?_;refine azb ti ?_;refine use (c1 _) ?_;refine azb ti ?_;refine use (c2 _) ?_;refine azb ti ?_;exact⟨_,le_refl _,rfl,rfl⟩
theorem cxw(s:List UInt8)(x:Sf.Inst)(hx:Jr.InstE x)(hlen:s.length+(Sf.instE 2 x).length+50≤1000000000)(hvl:x.attrs.lens){h:Hp}{i:Nat}(hb:h.b[i]?=some (jwB s)) :
  AC 30 [.ptr i 0,.agg (Sf.Inst.cells x)] h fun v h'=>v=.tup []∧h'=⟨h.b.set i (jwB (s++Sf.instE 2 x)),h.t⟩:=by
 refine liftJ (x:=.ptr 0 0) rfl rfl ?_ (by obtain⟨a1,a2,a3,a4,⟨k,nn,ss,is,ks⟩,v,tn,fi,ds⟩:=x;simp[A.locL,A.loc,Sf.Inst.cells]) hb;have hz:∃ lv b,(Val.chk x.attrs lv b).1=0:=⟨1,0,hx.v⟩;have e1:[x.addr,x.dep,x.id,x.typ].flatMap Wire.strE=Wire.strE x.addr++Wire.strE x.dep++Wire.strE x.id++Wire.strE x.typ:=by simp
 have e2:[x.tainted,x.first].flatMap (fun b=>Wire.num (flagN b))=Sf.flagE x.tainted++Sf.flagE x.first:=by simp[Sf.flagE,flagN]
 have e3:s++Sf.instE 2 x=s++(Wire.strE x.addr++Wire.strE x.dep++Wire.strE x.id++Wire.strE x.typ)++Val.enc x.attrs++Wire.num x.ver++(Sf.flagE x.tainted++Sf.flagE x.first)++Wire.num x.deps.length++x.deps.flatMap Wire.strE:=by simp[Sf.instE,Sf.wordsE,Zg]
 have hL:(Sf.instE 2 x).length=(Wire.strE x.addr++Wire.strE x.dep++Wire.strE x.id++Wire.strE x.typ).length+(Val.enc x.attrs).length+(Wire.num x.ver).length+(Sf.flagE x.tainted++Sf.flagE x.first).length+(Wire.num x.deps.length).length+(x.deps.flatMap Wire.strE).length:=by simp only[Sf.instE,Sf.wordsE,Za,if_true];omega
 have hn:=hx.n;obtain⟨P1,hP1⟩:=Ex (Wire.strE x.addr++Wire.strE x.dep++Wire.strE x.id++Wire.strE x.typ);obtain⟨P2,hP2⟩:=Ex (Sf.flagE x.tainted++Sf.flagE x.first);rw[hP1]at e1 e3 hL;rw[hP2]at e2 e3 hL;have c1:=fun B=>bz4 s [x.addr,x.dep,x.id,x.typ] (by rw[e1];omega) (by simp) (h:=⟨[jwB s,B],[]⟩) (i:=0) rfl
 rw[e1]at c1;obtain⟨S1,hS1⟩:=Ex (s++P1);have l1:S1.length=s.length+P1.length:=by rw[←hS1,Za]
 rw[hS1]at c1 e3;have c2:=fun h=>bqh S1 (by omega) x.attrs hz (by omega) hvl h
 obtain⟨S2,hS2⟩:=Ex (S1++Val.enc x.attrs);have l2:S2.length=S1.length+(Val.enc x.attrs).length:=by rw[←hS2,Za]
 rw[hS2]at c2 e3;have c3:=fun B=>ajy S2 x.ver (by omega) hx.v0 hx.v1 (h:=⟨[jwB S2,B],[]⟩) (i:=0) rfl
 obtain⟨S3,hS3⟩:=Ex (S2++Wire.num x.ver);have l3:S3.length=S2.length+(Wire.num x.ver).length:=by rw[←hS3,Za]
 rw[hS3]at c3 e3;have c4:=fun B=>cj1 S3 [x.tainted,x.first] (by rw[e2];omega) (by simp) (h:=⟨[jwB S3,B],[]⟩) (i:=0) rfl
 rw[e2]at c4;obtain⟨S4,hS4⟩:=Ex (S3++P2);have l4:S4.length=S3.length+P2.length:=by rw[←hS4,Za]
 rw[hS4]at c4 e3;have c5:=fun B=>ajy S4 x.deps.length (by omega) (by omega) (by omega) (h:=⟨[jwB S4,B],[]⟩) (i:=0) rfl
 obtain⟨S5,hS5⟩:=Ex (S4++Wire.num x.deps.length);have l5:S5.length=S4.length+(Wire.num x.deps.length).length:=by rw[←hS5,Za]
 rw[hS5]at c5 e3;have c6:=fun B=>bz4 S5 x.deps (by omega) (by omega) (h:=⟨[jwB S5,B],[]⟩) (i:=0) rfl
 obtain⟨S6,hS6⟩:=Ex (S5++x.deps.flatMap Wire.strE);rw[hS6]at c6 e3;rw[e3];have li:=aze x.deps;clear hx hlen hvl hz hb e1 e2 e3 hL hn hP1 hP2 hS1 hS2 hS3 hS4 hS5 hS6 l1 l2 l3 l4 l5;obtain⟨a1,a2,a3,a4,⟨k,nn,ss,is,ks⟩,v,tn,fi,ds⟩:=x;have hD:(ds.map fun x=>[A.str x])=strsA ds:=rfl;dsimp only at c1 c2 c3 c4 c5 c6 li;rw[hD]at c6;simp only[Sf.Inst.cells,V.A,V.cells,ZH,Yn,Yc,jwB]at c1 c2 c3 c4 c5 c6 ⊢;refine fo ?_;refine azb ti ?_;refine use (c1 _) ?_;refine azx ti (ai c2 ti) ?_;refine use (c3 _) ?_;refine azb ti ?_;refine use (c4 _) ?_;refine azb li ?_;refine use (c5 _) ?_;refine azb ti ?_;refine use (c6 _) ?_;refine azb ti ?_;exact⟨_,le_refl _,rfl,rfl⟩
structure JrLen(r:Jr):Prop where
 step:(Jr.stepE r).length≤100000000
 inst:(Sf.instE 2 r.after).length≤100000000
 tok:r.tok.length≤2000000
 lens:r.after.attrs.lens
theorem bqm(r:Jr)(hl:JrLen r)(hd:r.after.deps.length≤1000000000)(hck:SCheck r.base)(hok:Sf.checkZ r.base=0→Sf.StOk r.base∧(Sf.stE 2 r.base).length+20≤1000000000)(h:Hp) :
  AT 13 [.agg r.cells] h (.tup [.str (Jr.enc r).1,.int .i64 (Jr.enc r).2]):=by
 have cv:=cj9 r hl.lens hd;have ce:=cvk r.base hck hok;obtain⟨l1,l2,l3,l4⟩:=hl;have hfin:∀ b:List UInt8,b.length≤300000000→(∀ h,AT 32 [.str [],.str b] h (.str (Wire.strE b)))∧(∀ h,AT 31 [.str (Wire.strE b)] h (.str (Crc.app (Wire.strE b)))):=by
  intro b hb;have hn:(Wire.num b.length).length≤10:=(Wire.encF_len 9 (Wire.zig b.length)).2;have hs:(Wire.strE b).length≤300000010:=by unfold Wire.strE;rw[Za];omega
  refine⟨fun h=>?_,fun h=>avl _ (by omega) h⟩;have:=ckg [] b (by simp only[ZA];omega) h;rw[Zi]at this;exact this
 have nl:∀ n:Int,(Wire.num n).length≤10:=fun n=>(Wire.encF_len 9 (Wire.zig n)).2
 have sl:∀ s:List UInt8,(Wire.strE s).length≤s.length+10:=fun s=>by unfold Wire.strE;rw[Za];have:=nl s.length;omega
 by_cases hv:r.validB=true
 rotate_left
 ·have hv':r.validB=false:=by simpa using hv
  have he:Jr.enc r=([],1):=by unfold Jr.enc;rw[if_pos hv']
  rw[hv']at cv;rw[he];obtain⟨kd,⟨lin,ser,ins,ps,os⟩,st,op,ad,dp,ty,tk,er,⟨a1,a2,a3,a4,⟨k,nn,ss,is,ks⟩,v,tn,fi,ds⟩⟩:=r;simp only[Jr.cells,Sf.Inst.cells,Zl,Zi]at cv ⊢;refine pcall ?_ rfl (by simp[A.pure,A.data]) h;refine fo ?_;refine azx ti (ai cv ti) ?_;exact⟨_,le_refl _,rfl⟩
 rw[hv]at cv;have henc:¬(r.kind=1∧(Sf.encode 2 r.base).2≠0)→Jr.enc r=if 1048576<(Crc.app (Wire.strE r.body)).length then([],3)else(Crc.app (Wire.strE r.body),0):=fun hne=>by unfold Jr.enc;rw[if_neg (by rw[hv];decide),if_neg hne]
 have hk:=hv;unfold Jr.validB at hk;have hbad:¬Jr.badB r=true:=fun e=>by rw[if_pos e]at hk;cases hk
 rw[if_neg hbad]at hk;have fitE:(Sf.encode 2 r.base).2=0→(Sf.encode 2 r.base).1.length≤1048576:=by
  intro e;unfold Sf.encode at e ⊢;split
  ·simp
  split
  ·simp
  ·next h2=>simp only[Crc.app,Za,Crc.four_length];omega
 have hse:r.stepB=true→StepE r:=fun hs=>by
  unfold Jr.stepB at hs;simp only[Zc,Zq]at hs;obtain⟨⟨⟨⟨s0,s1⟩,o0⟩,o1⟩,_⟩:=hs;exact⟨by omega,by omega,by omega,by omega⟩
 have hae:Jr.afterB r=true→Jr.InstE r.after:=fun ha=>Jr.afterB_enc (op:=r.op) (by unfold Jr.afterB at ha;exact ha)
 have cs:=fun(hs:r.stepB=true) (s:List UInt8) (hl:s.length≤100) B=>cxp s r (hse hs) (by omega) (h:=⟨[B,jwB s],[]⟩) (i:=1) rfl
 have ci:=fun(ha:Jr.afterB r=true) (s:List UInt8) (hl:s.length≤200000000) B=>cxw s r.after (hae ha) (by omega) l4 (h:=⟨[B,jwB s],[]⟩) (i:=1) rfl
 have hbody:r.body=Wire.num r.kind++Jr.restE r (Sf.encode 2 r.base).1:=rfl;unfold Jr.restE at hbody;obtain⟨B,hB⟩:=Ex ((Sf.encode 2 r.base).1);obtain⟨E,hE⟩:=Ex ((Sf.encode 2 r.base).2);rw[hB,hE]at ce;rw[hB]at hbody;rw[hE]at henc;rw[hB,hE]at fitE;obtain⟨S1,hS1⟩:=Ex (Jr.stepE r);rw[hS1]at cs hbody l1;obtain⟨I1,hI1⟩:=Ex (Sf.instE 2 r.after);rw[hI1]at ci hbody l2;obtain⟨X,hX⟩:=Ex (r.body);rw[hX]at henc hbody;have henc1:r.kind=1∧E≠0→Jr.enc r=([],E):=fun h1=>by unfold Jr.enc;rw[if_neg (by rw[hv];decide),hE,if_pos h1]
 obtain⟨N,hN⟩:=Ex (Jr.enc r);rw[hN]at henc henc1 ⊢;have n0:=fun(B:Blk) (k:Int) (h0:-9223372036854775808≤k) (h1:k≤9223372036854775807)=>ajy [] k (by simp) h0 h1 (h:=⟨[B,jwB []],[]⟩) (i:=1) rfl
 have nE:=fun(B:Blk) (s:List UInt8) (hs:s.length≤200000000) (k:Int) (h0:-9223372036854775808≤k) (h1:k≤9223372036854775807)=>ajy s k (by omega) h0 h1 (h:=⟨[B,jwB s],[]⟩) (i:=1) rfl
 have nT:=fun(B:Blk) (s t:List UInt8) (hs:s.length≤200000000) (ht:t.length≤2000000)=>bvk s t (by omega) (h:=⟨[B,jwB s],[]⟩) (i:=1) rfl
 clear hv hbad hX hN hS1 hI1 hB hE hck hok hd hse hae;obtain⟨kd,⟨lin,ser,ins,ps,os⟩,st,op,ad,dp,ty,tk,er,⟨a1,a2,a3,a4,⟨k,nn,ss,is,ks⟩,v,tn,fi,ds⟩⟩:=r;dsimp only at hk hbody henc henc1 l3;simp only[Jr.cells,Sf.Inst.cells,Zl,Zi,Sf.St.A,jwB,Yw,Yc]at cv ce cs ci n0 nE nT ⊢;refine pcall ?_ rfl (by simp[A.pure,A.data]) h;refine fo ?_;obtain⟨kl,hkl⟩:=Ex ((Wire.num kd).length);have hkl2:kl≤10:=hkl▸nl kd;by_cases k1:kd=1
 ·subst k1;rw[if_pos rfl]at hbody;by_cases hE0:E=0
  rotate_left
  ·have e1:(E !=0)=true:=by simp[hE0]
   rw[henc1 ⟨rfl,hE0⟩];refine azx ti (ai cv ti) ?_;refine use (n0 _ 1 (by decide) (by decide)) ?_;refine azx e1 (ai ce ti) ?_;exact⟨_,le_refl _,rfl⟩
  subst hE0;have hBl:=fitE rfl;have he:=henc (fun h1=>h1.2 rfl);obtain⟨ca,cc⟩:=hfin X (by rw[hbody,Za];have:=sl B;omega);have ct:=fun Bx=>nT Bx (Wire.num 1) B (by omega) (by omega)
  rw[←hbody]at ct;obtain⟨Z,hZ⟩:=Ex (Crc.app (Wire.strE X));rw[hZ]at cc he;refine azx ti (ai cv ti) ?_;refine use (n0 _ 1 (by decide) (by decide)) ?_;refine azx ti (ai ce ti) ?_;refine use (ct _) ?_;by_cases g:(Z.length:Int)>1048576
  ·rw[he,if_pos (by omega)];refine azx g (ai ca (ai cc ti)) ?_;exact⟨_,le_refl _,rfl⟩
  ·rw[he,if_neg (by omega)];refine azx g (ai ca (ai cc ti)) ?_;exact⟨_,le_refl _,rfl⟩
 have he:=henc (fun h1=>k1 h1.1);rw[if_neg k1]at hbody;have f1:(kd==1)=false:=by simp[k1]
 by_cases k2:kd=2
 ·subst k2;rw[if_pos rfl]at hbody;rw[if_neg (by rintro(h|h)<;>contradiction),if_pos rfl,Zc,Zc,Zc]at hk;have hs:=hk.1.1.1;obtain⟨ca,cc⟩:=hfin X (by rw[hbody,Za,Za];have:=sl tk;omega);have c1:=fun Bx=>cs hs (Wire.num 2) (by omega) Bx
  have c2:=fun Bx=>nT Bx (Wire.num 2++S1) tk (by rw[Za];omega) (by omega)
  rw[Zg,←hbody]at c2;obtain⟨Z,hZ⟩:=Ex (Crc.app (Wire.strE X));rw[hZ]at cc he;refine azx ti (ai cv ti) ?_;refine use (n0 _ 2 (by decide) (by decide)) ?_;refine azx ti (ai cv ti) ?_;refine use (c1 _) ?_;refine azx ti (ai cv ti) ?_;refine use (c2 _) ?_;by_cases g:(Z.length:Int)>1048576
  ·rw[he,if_pos (by omega)];refine azx g (ai ca (ai cc ti)) ?_;exact⟨_,le_refl _,rfl⟩
  ·rw[he,if_neg (by omega)];refine azx g (ai ca (ai cc ti)) ?_;exact⟨_,le_refl _,rfl⟩
 rw[if_neg k2]at hbody;have f2:(kd==2)=false:=by simp[k2]
 by_cases k3:kd=3
 ·subst k3;rw[if_pos rfl]at hbody;rw[if_neg (by rintro(h|h)<;>contradiction),if_neg k2,if_pos rfl,Zc]at hk;obtain⟨ca,cc⟩:=hfin X (by rw[hbody,Za,Za];omega);have c1:=fun Bx=>cs hk.1 (Wire.num 3) (by omega) Bx
  have c2:=fun Bx=>ci hk.2 (Wire.num 3++S1) (by rw[Za];omega) Bx
  rw[Zg,←hbody]at c2;obtain⟨Z,hZ⟩:=Ex (Crc.app (Wire.strE X));rw[hZ]at cc he;refine azx ti (ai cv ti) ?_;refine use (n0 _ 3 (by decide) (by decide)) ?_;refine azx ti (ai cv ti) ?_;refine use (c1 _) ?_;refine azx ti (ai cv ti) ?_;refine use (c2 _) ?_;by_cases g:(Z.length:Int)>1048576
  ·rw[he,if_pos (by omega)];refine azx g (ai ca (ai cc ti)) ?_;exact⟨_,le_refl _,rfl⟩
  ·rw[he,if_neg (by omega)];refine azx g (ai ca (ai cc ti)) ?_;exact⟨_,le_refl _,rfl⟩
 rw[if_neg k3]at hbody;have f3:(kd==3)=false:=by simp[k3]
 by_cases k4:kd=4
 ·subst k4;rw[if_pos rfl]at hbody;rw[if_neg (by rintro(h|h)<;>contradiction),if_neg k2,if_neg k3,if_pos rfl,Zc,Zc,Zc,Zq,Zq]at hk;have ne:=nl er;obtain⟨ca,cc⟩:=hfin X (by rw[hbody,Za,Za,Za];omega);have c1:=fun Bx=>cs hk.1.1.1 (Wire.num 4) (by omega) Bx
  have c2:=fun Bx=>nE Bx (Wire.num 4++S1) (by rw[Za];omega) er (by omega) (by omega)
  have c3:=fun Bx=>ci hk.1.1.2 (Wire.num 4++S1++Wire.num er) (by rw[Za,Za];omega) Bx
  have hb2:Wire.num 4++S1++Wire.num er++I1=X:=by rw[hbody];simp only[Zg]
  rw[hb2]at c3;obtain⟨Z,hZ⟩:=Ex (Crc.app (Wire.strE X));rw[hZ]at cc he;refine azx ti (ai cv ti) ?_;refine use (n0 _ 4 (by decide) (by decide)) ?_;refine azx ti (ai cv ti) ?_;refine use (c1 _) ?_;refine azx ti (ai cv ti) ?_;refine use (c2 _) ?_;refine azx ti (ai cv ti) ?_;refine use (c3 _) ?_;by_cases g:(Z.length:Int)>1048576
  ·rw[he,if_pos (by omega)];refine azx g (ai ca (ai cc ti)) ?_;exact⟨_,le_refl _,rfl⟩
  ·rw[he,if_neg (by omega)];refine azx g (ai ca (ai cc ti)) ?_;exact⟨_,le_refl _,rfl⟩
 rw[if_neg k4,Zr]at hbody;have f4:(kd==4)=false:=by simp[k4]
 have k5:kd=5:=by
  by_cases k5:kd=5
  ·exact k5
  ·rw[if_neg (by rintro(h|h)<;>contradiction),if_neg k2,if_neg k3,if_neg k4]at hk;cases hk
 subst k5;obtain⟨ca,cc⟩:=hfin X (by rw[hbody];omega);have n5:=fun Bx=>n0 Bx 5 (by decide) (by decide)
 rw[←hbody]at n5;obtain⟨Z,hZ⟩:=Ex (Crc.app (Wire.strE X));rw[hZ]at cc he;refine azx ti (ai cv ti) ?_;refine use (n5 _) ?_;by_cases g:(Z.length:Int)>1048576
 ·rw[he,if_pos (by omega)];refine azx g (ai ca (ai cc ti)) ?_;exact⟨_,le_refl _,rfl⟩
 ·rw[he,if_neg (by omega)];refine azx g (ai ca (ai cc ti)) ?_;exact⟨_,le_refl _,rfl⟩
theorem bz1:∀(v v':V),v.lens→v'.lens→∀ h,AT 86 [v.A,v'.A] h (.bool (Val.eqB v v')):=by
 refine V.induct fun k n s is ks ih=>?_
 rintro⟨k',n',s',is',ks'⟩ hlen hlen' h;refine pcall ?_ rfl (by simp[V.A,V.cells,A.pure,A.data]) h;refine fo ?_;obtain⟨hil,hkl,_,hmem⟩:=V.lens_mk hlen;obtain⟨hil',hkl',_,hmem'⟩:=V.lens_mk hlen';have hE:Val.eqB (.mk k n s is ks) (.mk k' n' s' is' ks')=(k==k'&&n==n'&&s==s'&&ks==ks'&&Val.eqBs is is'):=by rw[Val.eqB]
 have hno:∀ b,b=false→Val.eqB (.mk k n s is ks) (.mk k' n' s' is' ks')=b→True:=fun _ _ _=>trivial
 by_cases h1:k=k'
 rotate_left
 ·have e1:(k !=k')=true:=by simp[h1]
  refine go0 (ai @V_A (ai @azc e1)) ?_;exact⟨_,le_refl _,by rw[azj,hE,Zu.2 h1];rfl⟩
 have e1:(k !=k')=false:=by simp[h1]
 by_cases h2:n=n'
 rotate_left
 ·have e2:(n !=n')=true:=by simp[h2]
  refine go0 (ai @V_A (ai @azc (ai e1 e2))) ?_;exact⟨_,le_refl _,by rw[azj,hE,Zu.2 h2];simp⟩
 have e2:(n !=n')=false:=by simp[h2]
 by_cases h3:s=s'
 rotate_left
 ·have e3:(s !=s')=true:=by simp[h3]
  refine go0 (ai @V_A (ai @azc (ai e1 (ai e2 e3)))) ?_;exact⟨_,le_refl _,by rw[azj,hE,Zu.2 h3];simp⟩
 have e3:(s !=s')=false:=by simp[h3]
 by_cases h4:is.length=is'.length
 rotate_left
 ·have e4:((is.length:Int)!=(is'.length:Int))=true:=by simp;omega
  have hb:Val.eqBs is is'=false:=by rw[Y4];exact fun e=>h4 (bkm e)
  refine go0 (ai @V_A (ai @azc (ai e1 (ai e2 (ai e3 (ai @V.cellss_length e4)))))) ?_;exact⟨_,le_refl _,by rw[azj,hE,hb];simp⟩
 have e4:((is.length:Int)!=(is'.length:Int))=false:=by simp[h4]
 by_cases h5:ks.length=ks'.length
 rotate_left
 ·have e5:((ks.length:Int)!=(ks'.length:Int))=true:=by simp;omega
  have hb:(ks==ks')=false:=by rw[Zu];rintro rfl;exact h5 rfl
  refine go0 (ai @V_A (ai @azc (ai e1 (ai e2 (ai e3 (ai @V.cellss_length (ai e4 (ai @aze e5)))))))) ?_;exact⟨_,le_refl _,by rw[azj,hE,hb];simp⟩
 have e5:((ks.length:Int)!=(ks'.length:Int))=false:=by simp[h5]
 have hE2:Val.eqB (.mk k n s is ks) (.mk k' n' s' is' ks')=(ks==ks'&&Val.eqBs is is'):=by rw[hE];simp[h1,h2,h3]
 refine go0 (ai @V_A (ai @azc (ai e1 (ai e2 (ai e3 (ai @V.cellss_length (ai e4 (ai @aze e5)))))))) ?_;refine azf (fun m ts hh=>hh=⟨[.cells 41 [.int .i64 k,.int .i64 n,.str s,.sl 5 .no (V.cellss is),.sl 1 .no (strsA ks)],.cells 41 [.int .i64 k',.int .i64 n',.str s',.sl 5 .no (V.cellss is'),.sl 1 .no (strsA ks')]],[]⟩∧∃(i:Nat),m=ks.length-i∧i≤ks.length∧(ks.drop i==ks'.drop i)=(ks==ks')∧ts 2=.ptr 0 0∧ts 3=.ptr 1 0∧ts 5=.int .i64 i) ks.length ?_ ?_
 ·refine⟨rfl,0,rfl,Zy _,rfl,?_⟩;(exact azq @aze)
 ·rintro m ts hh ⟨rfl,i,rfl,hi,heq,t2,t3,t5⟩;by_cases hlt:i<ks.length
  ·have hla:(i:Int)<((strsA ks).length:Int):=by rw[aze];omega
   have hlb:(i:Int)<((strsA ks').length:Int):=by rw[aze];omega
   have ei:IntKind.i64.wrap ((i:Int)+1)=(i:Int)+1:=wrap64 (by omega) (by omega);have ea:=azv ks i hlt;have eb:=azv ks' i (by omega);rw[Zo hlt,Zo (by omega:i<ks'.length)]at heq;refine go0 (ai t2 (ai t3 (ai t5 hla))) ?_;refine awq (by decide) ?_;by_cases hc:ks[i]=ks'[i]
   ·have hc':(ks[i]!=ks'[i])=false:=by simp[hc]
    refine go0 (ai t2 (ai t3 (ai t5 (ai hla (ai hlb (ai ea (ai eb (ai hc' ei)))))))) ?_;refine⟨ks.length-(i+1),by omega,rfl,i+1,rfl,by omega,?_,?_⟩
    ·rw[←heq,List.cons_beq_cons,hc,Y2,Zx]
    ·(exact azq (ai t2 (ai t3 (ai t5 ei))))
   ·have hc':(ks[i]!=ks'[i])=true:=by simp[hc]
    refine go0 (ai t2 (ai t3 (ai t5 (ai hla (ai hlb (ai ea (ai eb (ai hc' ei)))))))) ?_;exact⟨_,le_refl _,by rw[azj,hE2,←heq,List.cons_beq_cons,Zu.2 hc];simp⟩
  ·have hla:¬(i:Int)<((strsA ks).length:Int):=by rw[aze];omega
   rw[Zw (by omega),Zw (by omega)]at heq;have hE3:Val.eqB (.mk k n s is ks) (.mk k' n' s' is' ks')=Val.eqBs is is':=by rw[hE2,←heq];simp
   refine go0 (ai t2 (ai t3 (ai t5 hla))) ?_;refine azf (fun m ts hh=>hh=⟨[.cells 41 [.int .i64 k,.int .i64 n,.str s,.sl 5 .no (V.cellss is),.sl 1 .no (strsA ks)],.cells 41 [.int .i64 k',.int .i64 n',.str s',.sl 5 .no (V.cellss is'),.sl 1 .no (strsA ks')]],[]⟩∧∃(i:Nat),m=is.length-i∧i≤is.length∧Val.eqBs (is.drop i) (is'.drop i)=Val.eqBs is is'∧ts 2=.ptr 0 0∧ts 3=.ptr 1 0∧ts 6=.int .i64 i) is.length ?_ ?_
   ·refine⟨rfl,0,rfl,Zy _,rfl,?_⟩;(exact azq (ai @aze (ai t2 t3)))
   ·clear heq;rintro m ts hh ⟨rfl,i,rfl,hi,heq,t2,t3,t6⟩;by_cases hlt:i<is.length
    ·have hla:(i:Int)<((V.cellss is).length:Int):=by rw[V.cellss_length];omega
     have hlb:(i:Int)<((V.cellss is').length:Int):=by rw[V.cellss_length];omega
     have ei:IntKind.i64.wrap ((i:Int)+1)=(i:Int)+1:=wrap64 (by omega) (by omega);have ea:=V.cellss_get is i hlt;have eb:=V.cellss_get is' i (by omega);have hcall:=fun(h:Hp)=>ih is[i] (Zp hlt) (is'[i]'(by omega)) (hmem _ (Zp hlt)) (hmem' _ (Zp (by omega))) h
     rw[Zo hlt,Zo (by omega:i<is'.length),Val.eqBs]at heq;obtain⟨⟨k1,n1,s1,is1,ks1⟩,hv⟩:=Ex (is[i]);obtain⟨⟨k2,n2,s2,is2,ks2⟩,hv2⟩:=Ex (is'[i]'(by omega));rw[hv]at ea hcall heq;rw[hv2]at eb hcall heq;simp only[V.A,V.cells]at hcall;refine go0 (ai @azc (ai t2 (ai t3 (ai t6 hla)))) ?_;refine awq (by decide) ?_;refine go0 (ai @azc (ai t2 (ai t3 (ai t6 (ai hla (ai hlb (ai ea eb))))))) ?_;refine by4 (by simp only[aqh,az4,az6,aj1,aj7,az5,axb,axa,aq9,azj,az8,astep,bop,uop,loadA,storeA,appA,ssliceA,eqA,eqCells,fillA,rowsA,setCells,A.cells,A.one,A.data,azy,ZE,Yo,Z0,Zx,ZO,YB,YF,YO,Z3,Yq,ZH,Yn,ZQ,ZK,ZN,ZG,Zh,ZA,Zi,Zl,Zr,Yc,Yw,Yx,ZU,Z6,Yl,YY,Za,Ym,Nat.reduceAdd,Nat.reduceSub,Nat.reduceMul,Nat.reduceLeDiff,Nat.reduceEqDiff,Nat.reduceBEq,Yd,YG,if_true,if_false,reduceIte,ite_true,ite_false,true_and,and_true,ne_eq,Yi,Yu,Zk,reduceCtorEq,and_self,Yt,Yh,Zf,ZR,ZM,decide_true,decide_false,t2,t3,t6]<;>with_reducible rfl) (hcall _) ?_;rcases azl (Val.eqB (.mk k1 n1 s1 is1 ks1) (.mk k2 n2 s2 is2 ks2))with hz|hz
     ·rw[hz]at heq ⊢;refine go0 (ai t2 (ai t3 (ai t6 ei))) ?_;refine⟨is.length-(i+1),by omega,rfl,i+1,rfl,by omega,by simpa using heq,?_⟩;(exact azq (ai t2 (ai t3 (ai t6 ei))))
     ·rw[hz]at heq ⊢;refine go0 (ai t2 (ai t3 (ai t6 ei))) ?_;exact⟨_,le_refl _,by rw[azj,hE3,←heq];rfl⟩
    ·have hla:¬(i:Int)<((V.cellss is).length:Int):=by rw[V.cellss_length];omega
     rw[Zw (by omega),Zw (by omega)]at heq;refine go0 (ai t2 (ai t3 (ai t6 hla))) ?_;exact⟨_,le_refl _,by rw[azj,hE3,←heq];rfl⟩
end AX
namespace Jr
def noneR(x:Sf.Inst):Bool:=x.addr == []&&x.dep == []&&x.id == []&&x.typ == []&&Val.eqB x.attrs (.mk 0 0 [] [] [])&&x.ver==0&&!x.tainted&&!x.first&&(x.deps.length:Int)==0
def emptyR(s:Sf.St):Bool:=s.lin == []&&s.ser==0&&((s.insts.length:Int)+s.pends.length+s.outs.length)==0
def stepR(r:Jr):Bool:=emptyR r.base&&decide (r.step≥0)&&decide (r.step<2048)&&decide (r.op≥1)&&decide (r.op≤4)&&shortB [r.addr,r.dep,r.typ,r.tok]
def validR(r:Jr):Bool:=
 if r.kind=1 then r.step==0&&r.op==0&&r.addr == []&&r.dep == []&&r.typ == []&&r.tok == []&&r.err==0&&noneR r.after
 else if r.kind=5 then r.step==0&&r.op==0&&r.addr == []&&r.dep == []&&r.typ == []&&r.tok == []&&r.err==0&&noneR r.after&&emptyR r.base
 else if r.kind=2 then stepR r&&r.err==0&&noneR r.after&&(r.op==1||r.tok == [])
 else if r.kind=3 then stepR r&&r.err==0&&r.tok == []&&instB r.after&&(r.op==1||r.op==2||noneR r.after)
 else if r.kind=4 then stepR r&&decide (r.err>0)&&decide (r.err≤42)&&r.tok == []&&instB r.after&&(r.op==1||r.op==2||noneR r.after)
 else false
theorem noneR_eq(x:Sf.Inst):noneR x=noneB x:=by
 obtain⟨a,d,i,t,⟨k,n,s,is,ks⟩,v,tn,fi,ds⟩:=x;unfold noneR noneB zeroV;simp only[Val.eqB];have h1:(ks == [])=((ks.length:Int)==0):=by cases ks<;>simp<;>omega
 have h2:Val.eqBs is []=((is.length:Int)==0):=by
  cases is with
  |nil=>simp[Val.eqBs]
  |cons v l =>
   simp only[Val.eqBs,Zh]
   symm
   simp;omega
 rw[h1,h2];cases(k==0)<;>cases(n==0)<;>cases(s == [])<;>cases((is.length:Int)==0)<;>cases((ks.length:Int)==0)<;>simp
theorem emptyR_eq(s:Sf.St):emptyR s=emptyB s:=by
 unfold emptyR emptyB;have h:(((s.insts.length:Int)+s.pends.length+s.outs.length)==0)=(((s.insts.length:Int)==0)&&((s.pends.length:Int)==0)&&((s.outs.length:Int)==0)):=by
  rw[Yf];simp only[ZC,Zc];omega
 rw[h];simp only[Bool.and_assoc]
theorem none_inst{x:Sf.Inst}(h:noneB x=true):instB x=true:=by
 obtain⟨a,d,i,t,⟨k,n,s,is,ks⟩,v,tn,fi,ds⟩:=x;unfold noneB zeroV at h;simp only[Zc,ZC]at h;obtain⟨⟨⟨⟨⟨⟨⟨⟨⟨⟨⟨⟨hk,hn⟩,hs⟩,hi⟩,hks⟩,ha⟩,hd⟩,hid⟩,ht⟩,hv⟩,_⟩,_⟩,hde⟩:=h;have e1:is=[]:=ZD (by omega);have e2:ks=[]:=ZD (by omega);have e3:ds=[]:=ZD (by omega);subst hk hn hs ha hd hid ht hv e1 e2 e3;cases tn<;>cases fi<;>decide +kernel
theorem validR_eq(r:Jr):validR r=validB r:=by
 unfold validR validB stepR stepB afterB bareB makesB;rw[noneR_eq,emptyR_eq];have hs4:shortB [r.addr,r.dep,r.typ,r.tok]=(shortB [r.addr,r.dep,r.typ]&&shortB [r.tok]):=by
  simp only[shortB,ZE,Yo,Z0,Bool.and_assoc]
 have ht:(r.tok == [])=true→shortB [r.tok]=true:=fun h=>by
  rw[ZC]at h;rw[h];rfl
 have hni:=@none_inst r.after;have he:decide (r.err>0)=decide (r.err≥1):=by rw[decide_eq_decide];omega
 rw[hs4,he];have hb:badB r=(!(r.kind==1)&&!emptyB r.base||!(r.kind==2)&&!(r.tok == [])||!(r.kind==4)&&!(r.err==0)):=rfl;generalize badB r=B at *;clear hs4 he;obtain⟨kd,base,st,op,ad,dp,ty,tk,er,af⟩:=r;dsimp only at *;generalize shortB [tk]=T at *;generalize shortB [ad,dp,ty]=S at *;generalize noneB af=N at *;generalize instB af=I at *;generalize emptyB base=E at *;generalize (tk == [])=K at *;generalize (er==0)=R at *;generalize decide (er≥1)=R1 at *;generalize decide (er≤42)=R2 at *;generalize (st==0)=P0 at *;generalize (op==0)=P1 at *;generalize (op==1)=O1 at *;generalize (op==2)=O2 at *;generalize decide (st≥0)=P2 at *;generalize decide (st<2048)=P3 at *;generalize decide (op≥1)=P4 at *;generalize decide (op≤4)=P5 at *;generalize (ad == [])=Q1 at *;generalize (dp == [])=Q2 at *;generalize (ty == [])=Q3 at *;by_cases k1:kd=1
 ·subst k1;simp at hb;subst hb;clear hni ht;cases K<;>cases R<;>simp
 by_cases k5:kd=5
 ·subst k5;simp at hb;subst hb;clear hni ht;cases E<;>cases K<;>cases R<;>simp
 by_cases k2:kd=2
 ·subst k2;simp at hb;subst hb;clear hni;cases K
  ·clear ht;cases E<;>cases R<;>cases T<;>cases S<;>cases N<;>simp
  ·have:=ht rfl;subst this;cases E<;>cases R<;>cases S<;>cases N<;>simp
 have hT:K=true→T=true:=ht;by_cases k3:kd=3
 ·subst k3;simp at hb;subst hb;cases K
  ·clear ht;simp
  ·have:=ht rfl;subst this;clear ht hT;cases E<;>cases R<;>cases S<;>simp<;>(cases N<;>cases I<;>cases O1<;>cases O2<;>simp at hni ⊢)
 by_cases k4:kd=4
 ·subst k4;simp at hb;subst hb;cases K
  ·clear ht;simp
  ·have:=ht rfl;subst this;clear ht hT;cases E<;>cases R1<;>cases R2<;>cases S<;>simp<;>(cases N<;>cases I<;>cases O1<;>cases O2<;>simp at hni ⊢)
 simp[k1,k2,k3,k4,k5]
end Jr
namespace AX
section
variable {P:Program} {G:World→Prop} {C:Ctx} {h:Hp}
end
end AX
theorem bj6(a:Option Addr)(c:Nat)(w:World) :
  Calls Tryz.prog 111 #[.slice a 0 c] w fun e w'=>(∃ a' c',e=.returned (.slice a' 0 c'))∧Below w.heap.size w w':=by
 have q22:∀(w:World) (a:Option Addr) (n c n' c':Nat),(binOp .eql 39 (.slice a n c) (.slice none n' c')).run Tryz.prog w=.ok (.bool a.isNone) w:=fun w a n c n' c'=>Lib.run_eql_slice_nil w _ _ a n c n' c' Tryz.underlying39
 have u22:∀ w,Sem.run Tryz.prog (underlying 39) w=.ok (TypeDesc.slice 9) w:=run_underlying Tryz.underlying39;cases a with
 |none =>
  go_enter Tryz.func111,Tryz.ntmps111;go_wp2
  go_ret
  exact⟨⟨_,_,rfl⟩,Below.refl _ _⟩
 |some ad =>
  obtain⟨i0,hi,hz0,hz1,hz2⟩:=info_parts (show(Tryz.prog.info? 9).map (fun i=>(i.zero,i.size,i.bytes))=some (some (.string ⟨#[]⟩),1,16) by kernel_rfl);go_enter Tryz.func111,Tryz.ntmps111;go_wp2_with (at_builtin;refine wpList_append_own _ rfl _ _ 39 rfl w.heap.size 9 i0 (.string ⟨#[]⟩) 1 16 Tryz.underlying39 hi hz0 hz1 hz2 rfl (by decide) _ _ _ rfl (World.ownsRow_made w #[] 0 (Zf _) (Zy _) rfl) ad 0 c [] rfl rfl (by intro j u hj;simp at hj) (by intro u hu;cases hu) (by unfold maxLen;omega) (by omega) (by simp) ?_);intro v' w1 hown hgrow hnil;have Hb:=kept (((Below.refl _ w).alloc (Zf _) (.cells #[] 9)).grown hgrow (by simp) (by intro k hk;simp[Value.ownBlock]at hk;omega));have Hv:∃ a' c',v'=.slice a' 0 c':=by
   rcases hown.2 with⟨rfl,_⟩|⟨g,cap,cur,rfl,_⟩
   ·exact⟨_,_,rfl⟩
   ·exact⟨_,_,rfl⟩
  obtain⟨a',c',rfl⟩:=Hv;clear hown hgrow hnil;go_wp2
  go_ret
  exact⟨⟨_,_,rfl⟩,Hb.out⟩
namespace AX
theorem bzi(W0:Nat)(o:Own)(h:Hp):AT 111 [.sl W0 o []] h (.sl 1 .no []):=by
 intro C es hI ha;obtain⟨c,es',rfl,h1,h2⟩:=repL_cons.1 ha;rw[repL_nil]at h2;subst h2;obtain⟨a,cap,rfl,_,_,_⟩:=rep_sl.1 h1;refine(bj6 a cap C.w).mono ?_;rintro e w' ⟨⟨a',c',rfl⟩,hb⟩;obtain⟨i1,s1⟩:=aq7 hI hb;exact⟨C.at w',h,.sl 1 .no [],_,rfl,rfl,i1,s1,rep_sl.2 ⟨a',c',rfl,Zy _,by unfold RepRows;trivial,trivial⟩,rfl,rfl⟩
end AX
theorem bjt(a:Option Addr)(c:Nat)(w:World) :
  Calls Tryz.prog 75 #[.slice a 0 c] w fun e w'=>(∃ a' c',e=.returned (.slice a' 0 c'))∧Below w.heap.size w w':=by
 have q22:∀(w:World) (a:Option Addr) (n c n' c':Nat),(binOp .eql 32 (.slice a n c) (.slice none n' c')).run Tryz.prog w=.ok (.bool a.isNone) w:=fun w a n c n' c'=>Lib.run_eql_slice_nil w _ _ a n c n' c' Tryz.underlying32
 have u22:∀ w,Sem.run Tryz.prog (underlying 32) w=.ok (TypeDesc.slice 123) w:=run_underlying Tryz.underlying32;cases a with
 |none =>
  go_enter Tryz.func75,Tryz.ntmps75;go_wp2
  go_ret
  exact⟨⟨_,_,rfl⟩,Below.refl _ _⟩
 |some ad =>
  obtain⟨i0,hi,hz0,hz1,hz2⟩:=info_parts (show(Tryz.prog.info? 123).map (fun i=>(i.zero,i.size,i.bytes))=some (some (.agg #[.string ⟨#[]⟩,.string ⟨#[]⟩,.string ⟨#[]⟩]),3,48) by kernel_rfl);go_enter Tryz.func75,Tryz.ntmps75;go_wp2_with (at_builtin;refine wpList_append_own _ rfl _ _ 32 rfl w.heap.size 123 i0 (.agg #[.string ⟨#[]⟩,.string ⟨#[]⟩,.string ⟨#[]⟩]) 3 48 Tryz.underlying32 hi hz0 hz1 hz2 rfl (by decide) _ _ _ rfl (World.ownsRow_made w #[] 0 (Zf _) (Zy _) rfl) ad 0 c [] rfl rfl (by intro j u hj;simp at hj) (by intro u hu;cases hu) (by unfold maxLen;omega) (by omega) (by simp) ?_);intro v' w1 hown hgrow hnil;have Hb:=kept (((Below.refl _ w).alloc (Zf _) (.cells #[] 123)).grown hgrow (by simp) (by intro k hk;simp[Value.ownBlock]at hk;omega));have Hv:∃ a' c',v'=.slice a' 0 c':=by
   rcases hown.2 with⟨rfl,_⟩|⟨g,cap,cur,rfl,_⟩
   ·exact⟨_,_,rfl⟩
   ·exact⟨_,_,rfl⟩
  obtain⟨a',c',rfl⟩:=Hv;clear hown hgrow hnil;go_wp2
  go_ret
  exact⟨⟨_,_,rfl⟩,Hb.out⟩
namespace AX
theorem bze(W0:Nat)(o:Own)(h:Hp):AT 75 [.sl W0 o []] h (.sl 3 .no []):=by
 intro C es hI ha;obtain⟨c,es',rfl,h1,h2⟩:=repL_cons.1 ha;rw[repL_nil]at h2;subst h2;obtain⟨a,cap,rfl,_,_,_⟩:=rep_sl.1 h1;refine(bjt a cap C.w).mono ?_;rintro e w' ⟨⟨a',c',rfl⟩,hb⟩;obtain⟨i1,s1⟩:=aq7 hI hb;exact⟨C.at w',h,.sl 3 .no [],_,rfl,rfl,i1,s1,rep_sl.2 ⟨a',c',rfl,Zy _,by unfold RepRows;trivial,trivial⟩,rfl,rfl⟩
end AX
namespace AX
end AX
end Go.Proofs.YtdgcbckcameggadGreatDoor

namespace Go.Proofs.YtdgcbckcameggadGreatDoor
open Go.RowKit Go.ChangeShapes Go.WideShapes Go.Deep
mutual
def D.bulk:D→Nat
 |.int ..=>1
 |.str l=>l.length+1
 |.bool _=>1
 |.agg l=>D.bulks l+1
 |.sl _ l=>D.bulks l+1
def D.bulks:List D→Nat
 |[]=>0
 |d::l=>d.bulk+D.bulks l
end
theorem bkv{H:Type}:∀(l:List D) (xs:List (DataW H)),l.length=xs.length→(∀ i (hi:i<l.length) (hj:i<xs.length),l[i].bulk≤Rows.uptoBulk xs[i])→D.bulks l≤Rows.uptoBulkAll xs
 |[],[],_,_=>by rw[D.bulks];exact Zy _
 |[],_::_,h,_=>by simp at h
 |_::_,[],h,_=>by simp at h
 |d::l,x::xs,h,hb=>by
  rw[D.bulks,Rows.uptoBulkAll];exact Nat.add_le_add (hb 0 (by simp) (by simp)) (bkv l xs (by simpa using h) fun i hi hj=>hb (i+1) (Nat.succ_lt_succ hi) (Nat.succ_lt_succ hj))
section
variable {H:Type} {enc:TypeId×Value→H} {P:Program} {w:World} {base:Nat} {spare:Nat→Bool} {held:Bool} {K:List TypeId}
theorem avv{n:Nat}(ih:∀ t,t∈K→∀ cs x,DataW.trod enc P w base spare held n t cs=some x→∃ d,Rd w (Old w) d cs∧Conf P d t∧d.bulk≤Rows.uptoBulk x.1)(cs:List Value) :
  ∀(fs:List Field) (o tot:Nat) (ys:List (DataW H×List MemPlace)),(∀ f∈fs,f.type∈K)→flat P fs o=some tot→cs.length=tot→ys.length=fs.length →
   (∀(i:Nat) (f:Field),fs[i]?=some f→DataW.trod enc P w base spare held n f.type ((cs.drop f.offset).take (P.cellsOf f.type))=ys[i]?) →
   ∃ l,RdAgg w (Old w) l (cs.drop o)∧ConfL P l (fs.map (·.type))∧D.bulks l≤Rows.uptoBulkAll (ys.map (·.1))
 |[],o,tot,ys,hK,hf,hc,hy,hg=>by
  simp only[flat,Zb]at hf;exact⟨[],by unfold RdAgg;exact Zw (by omega),by unfold ConfL;rfl,by unfold D.bulks;exact Zy _⟩
 |f::fs,o,tot,ys,hK,hf,hc,hy,hg=>by
  simp only[flat]at hf;split at hf
  ·next hfo =>
   match ys,hy with
   |y::ys,hy =>
    have h0:=hg 0 f rfl;obtain⟨d,hd,hcf,hdb⟩:=ih f.type (hK f (by simp)) _ _ h0;obtain⟨l,hl,hcl2,hlb⟩:=avv ih cs fs (o+P.cellsOf f.type) tot ys (fun g hg=>hK g (by simp[hg])) hf hc (by simpa using hy) (fun i g hi=>by simpa using hg (i+1) g (by simpa using hi));refine⟨d::l,?_,?_,?_⟩
    ·unfold RdAgg;refine⟨_,cs.drop (o+P.cellsOf f.type),?_,by rw[hfo]at hd;exact hd,hl⟩;rw[←YV,Yj]
    ·unfold ConfL;exact⟨f.type,fs.map (·.type),rfl,hcf,hcl2⟩
    ·rw[ZH,Rows.uptoBulkAll,D.bulks];exact Nat.add_le_add hdb hlb
  ·cases hf
theorem bzq(hP:plainAll P K=true):∀(n:Nat) (t:TypeId),t∈K→∀ cs x,DataW.trod enc P w base spare held n t cs=some x→∃ d,Rd w (Old w) d cs∧Conf P d t∧d.bulk≤Rows.uptoBulk x.1
 |0,t,hK,cs,x,h=>by simp[DataW.trod]at h
 |n+1,t,hK,cs,x,h=>by
  have hk:plainB P K t=true:=by
   unfold plainAll at hP;rw[ZF]at hP;exact hP t hK
  unfold plainB at hk;split at hk
  ·next k hu =>
   obtain⟨m,rfl,rfl,hw⟩:=DataW.trod_int hu h;exact⟨.int k m,by unfold Rd;rfl,by unfold Conf;exact⟨hu,hw⟩,by unfold D.bulk Rows.uptoBulk;exact Zf _⟩
  ·next hu =>
   obtain⟨s,rfl,rfl,hs⟩:=DataW.trod_string hu h;exact⟨.str s.data.toList,by unfold Rd;simp,by unfold Conf;exact⟨hu,by simpa using hs⟩,by unfold D.bulk Rows.uptoBulk;exact Zf _⟩
  ·next hu =>
   obtain⟨b,rfl,rfl⟩:=DataW.trod_bool hu h;exact⟨.bool b,by unfold Rd;rfl,by unfold Conf;exact hu,by unfold D.bulk Rows.uptoBulk;exact Zf _⟩
  ·next fs hu =>
   rw[Zc,ZF,ZC]at hk;obtain⟨xs,n',hn,rfl,hcl,hxl,hg⟩:=DataW.trod_struct hu h;obtain rfl:n'=n:=by omega
   obtain⟨l,hl,hcf,hlb⟩:=avv (fun t hK cs x h=>bzq hP n' t hK cs x h) cs fs.toList 0 _ xs (fun f hf=>by simpa using hk.1 f hf) hk.2 hcl (by simpa using hxl) (fun i f hi=>hg i f (by simpa using hi));exact⟨.agg l,by unfold Rd;exact hl,by unfold Conf;exact⟨fs,hu,hcf⟩,by rw[D.bulk,Rows.uptoBulk];exact Nat.succ_le_succ hlb⟩
  ·next e hu =>
   rw[Zc,Zq]at hk;have heK:e∈K:=by simpa using hk.1
   have hpos:=hk.2;rcases DataW.trod_slice hu h with⟨rfl,rfl⟩|⟨a,len,cap,elems,rest,n',hn,rfl,rfl,hb,hlc,hcm,hel,hi,_⟩
   ·exact⟨.sl (P.cellsOf e) [],by unfold Rd;exact⟨none,0,rfl,Zf _,by unfold RdRow;trivial⟩,by unfold Conf;exact⟨e,hu,rfl,by unfold ConfA;trivial,by simp⟩,by simp[D.bulk,D.bulks,Rows.uptoBulk]⟩
   ·obtain rfl:n'=n:=by omega
    have hex:∀ i,i<len→∃ d:D,∃ c,c.length=P.cellsOf e∧(∀ j,j<P.cellsOf e→w.cell? ((a.add (i*P.cellsOf e)).add j)=c[j]?)∧Rd w (Old w) d c∧Conf P d e∧∀ y,elems[i]?=some y→d.bulk≤Rows.uptoBulk y.1:=by
     intro i hil;have h1:=hi i hil;have h2:elems[i]?=some (elems[i]'(by omega)):=Zm (by omega);rw[h2]at h1;obtain⟨c,hc,ht⟩:=Ze.1 h1;obtain⟨d,hd,hcf,hdb⟩:=bzq hP n' e heK c _ ht;obtain⟨_,hcl,hat⟩:=World.cells?_some hc;exact⟨d,c,hcl,hat,hd,hcf,fun y hy=>by rw[h2]at hy;injection hy with hy;subst hy;exact hdb⟩
    haveI:Inhabited D:=⟨.bool true⟩
    obtain⟨f,hf⟩:=choose_lt hex;refine⟨.sl (P.cellsOf e) ((List.range len).map f),?_,?_,?_⟩
    ·unfold Rd;refine⟨some a,cap,by simp,by simpa using hlc,RdRow.of _ _ _ fun k hk=>?_⟩;have hkl:k<len:=by simpa using hk
     obtain⟨c,hcl,hat,hrd,_⟩:=hf k hkl;obtain⟨c0,hcl0,hat0,_,_⟩:=hf 0 (by omega);obtain⟨g,off,sp⟩:=a;have h0:=hat0 0 hpos;rw[Zm (by omega)]at h0;have hs:sp=none:=by
      have:=(aqy h0).1;simpa [Addr.add]using this
     subst hs;have h1:=hat 0 hpos;rw[Zm (by omega)]at h1;have hlt:=(aqy h1).2;rw[axe,axe]at hlt;refine⟨g,off,c,rfl,hlt,hcl,fun j hj=>?_,by simpa using hrd⟩;have:=hat j hj;rw[axe,axe]at this;rw[Yt];exact this
    ·unfold Conf;exact⟨e,hu,rfl,bkw P e _ fun k hk=>by simpa using (hf k (by simpa using hk)).choose_spec.2.2.2.1,by simp;omega⟩
    ·rw[D.bulk,Rows.uptoBulk]
     have:=bkv ((List.range len).map f) (elems.map (·.1)) (by simp;omega) (fun i hi hj=>by
      obtain⟨c,_,_,_,_,h9⟩:=hf i (by simpa using hi)
      simpa using h9 (elems[i]'(by simpa using hj)) (Zm _))
     omega
  ·cases hk
end
end Go.Proofs.YtdgcbckcameggadGreatDoor

namespace Go.Proofs.YtdgcbckcameggadGreatDoor
open Go.RowKit Go.ChangeShapes Go.WideShapes
theorem avg{α:Type}{f:α→D}{Q:α→Prop}:∀ l:List D,(∀ d∈l,∃ x,d=f x∧Q x)→∃ xs:List α,l=xs.map f∧∀ x∈xs,Q x
 |[],h=>⟨[],rfl,by simp⟩
 |d::l,h=>by
  obtain⟨x,rfl,hx⟩:=h d (by simp);obtain⟨xs,rfl,hxs⟩:=avg l fun d hd=>h d (by simp[hd])
  exact⟨x::xs,rfl,Zad.2 ⟨hx,hxs⟩⟩
namespace Sf
def Inst.toD(x:Inst):D:=.agg [.str x.addr,.str x.dep,.str x.id,.str x.typ,x.attrs.toD,.int .i64 x.ver,.bool x.tainted,.bool x.first,.sl 1 (x.deps.map .str)]
def Pend.toD(p:Pend):D:=.agg [.str p.addr,.str p.typ,.str p.tok]
def Outp.toD(o:Outp):D:=.agg [.str o.name,o.value.toD,.bool o.sens]
def St.toD(s:St):D:=.agg [.str s.lin,.int .i64 s.ser,.sl 13 (s.insts.map Inst.toD),.sl 3 (s.pends.map Pend.toD),.sl 7 (s.outs.map Outp.toD)]
structure St.Wf(s:St):Prop where
 insts:∀ x∈s.insts,x.attrs.Wf
 outs:∀ x∈s.outs,x.value.Wf
 ser:(Lit.int .i64 s.ser).wf=true
theorem Inst.cells_toD(x:Inst):x.toD.cells=x.cells:=by
 obtain⟨a,d,i,t,⟨k,n,s,is,ks⟩,v,tn,fi,ds⟩:=x;unfold Inst.toD Inst.cells;simp only[D.cells,D.cellsL,V.cells_toD,V.cells,aj0,Zl,Zi,Zr]
theorem Pend.cells_toD(x:Pend):x.toD.cells=x.cells:=by
 unfold Pend.toD Pend.cells;simp only[D.cells,D.cellsL,Zl,Zi,Zr]
theorem Outp.cells_toD(x:Outp):x.toD.cells=x.cells:=by
 obtain⟨m,⟨k,n,s,is,ks⟩,b⟩:=x;unfold Outp.toD Outp.cells;simp only[D.cells,D.cellsL,V.cells_toD,V.cells,aj0,Zl,Zi,Zr]
theorem rows_map{α:Type}(f:α→D)(g:α→List AX.A)(h:∀ x,(f x).cells=g x):∀ l:List α,D.rows (l.map f)=l.map g
 |[]=>by simp[D.rows]
 |x::l=>by simp only[ZH,D.rows,h,rows_map f g h l]
theorem St.cells_toD(s:St):AX.A.agg s.toD.cells=s.A:=by
 unfold St.toD St.A;simp only[D.cells,D.cellsL,rows_map _ _ Inst.cells_toD,rows_map _ _ Pend.cells_toD,rows_map _ _ Outp.cells_toD,Zl,Zi,Zr]
set_option maxRecDepth 100000 in
theorem conf_inst{d:D}(h:Conf Tryz.prog d 43):∃ x:Inst,d=x.toD∧x.attrs.Wf:=by
 obtain⟨l',rfl,h2⟩:=aqb Tryz.underlying43 h;obtain⟨d0,l1,rfl,c0,h2⟩:=azh h2;obtain⟨d1,l2,rfl,c1,h2⟩:=azh h2;obtain⟨d2,l3,rfl,c2,h2⟩:=azh h2;obtain⟨d3,l4,rfl,c3,h2⟩:=azh h2;obtain⟨d4,l5,rfl,c4,h2⟩:=azh h2;obtain⟨d5,l6,rfl,c5,h2⟩:=azh h2;obtain⟨d6,l7,rfl,c6,h2⟩:=azh h2;obtain⟨d7,l8,rfl,c7,h2⟩:=azh h2;obtain⟨d8,l9,rfl,c8,h2⟩:=azh h2;obtain rfl:=axl h2;obtain⟨a,rfl,_⟩:=az2 Tryz.underlying9 c0;obtain⟨b,rfl,_⟩:=az2 Tryz.underlying9 c1;obtain⟨c,rfl,_⟩:=az2 Tryz.underlying9 c2;obtain⟨e,rfl,_⟩:=az2 Tryz.underlying9 c3;obtain⟨v,rfl,hv⟩:=bvu c4;obtain⟨n,rfl,_⟩:=axc (k:=.i64) Tryz.underlying3 c5;obtain⟨t,rfl⟩:=akv Tryz.underlying4 c6;obtain⟨f,rfl⟩:=akv Tryz.underlying4 c7;obtain⟨l4,rfl,c9,_⟩:=aqf Tryz.underlying39 c8;obtain⟨ks,rfl,_⟩:=akq Tryz.underlying9 l4 c9;have hw:Tryz.prog.cellsOf 9=1:=by kernel_rfl
 rw[hw];exact⟨⟨a,b,c,e,v,n,t,f,ks⟩,rfl,hv⟩
set_option maxRecDepth 100000 in
theorem conf_pend{d:D}(h:Conf Tryz.prog d 123):∃ x:Pend,d=x.toD∧True:=by
 obtain⟨l',rfl,h2⟩:=aqb Tryz.underlying123 h;obtain⟨d0,l1,rfl,c0,h2⟩:=azh h2;obtain⟨d1,l2,rfl,c1,h2⟩:=azh h2;obtain⟨d2,l3,rfl,c2,h2⟩:=azh h2;obtain rfl:=axl h2;obtain⟨a,rfl,_⟩:=az2 Tryz.underlying9 c0;obtain⟨b,rfl,_⟩:=az2 Tryz.underlying9 c1;obtain⟨c,rfl,_⟩:=az2 Tryz.underlying9 c2;exact⟨⟨a,b,c⟩,rfl,trivial⟩
set_option maxRecDepth 100000 in
theorem conf_outp{d:D}(h:Conf Tryz.prog d 94):∃ x:Outp,d=x.toD∧x.value.Wf:=by
 obtain⟨l',rfl,h2⟩:=aqb Tryz.underlying94 h;obtain⟨d0,l1,rfl,c0,h2⟩:=azh h2;obtain⟨d1,l2,rfl,c1,h2⟩:=azh h2;obtain⟨d2,l3,rfl,c2,h2⟩:=azh h2;obtain rfl:=axl h2;obtain⟨a,rfl,_⟩:=az2 Tryz.underlying9 c0;obtain⟨v,rfl,hv⟩:=bvu c1;obtain⟨t,rfl⟩:=akv Tryz.underlying4 c2;exact⟨⟨a,v,t⟩,rfl,hv⟩
set_option maxRecDepth 100000 in
theorem conf_st{d:D}(h:Conf Tryz.prog d 35):∃ x:St,d=x.toD∧x.Wf:=by
 obtain⟨l',rfl,h2⟩:=aqb Tryz.underlying35 h;obtain⟨d0,l1,rfl,c0,h2⟩:=azh h2;obtain⟨d1,l2,rfl,c1,h2⟩:=azh h2;obtain⟨d2,l3,rfl,c2,h2⟩:=azh h2;obtain⟨d3,l4,rfl,c3,h2⟩:=azh h2;obtain⟨d4,l5,rfl,c4,h2⟩:=azh h2;obtain rfl:=axl h2;obtain⟨a,rfl,_⟩:=az2 Tryz.underlying9 c0;obtain⟨n,rfl,hn⟩:=axc (k:=.i64) Tryz.underlying3 c1;obtain⟨l2,rfl,k2,_⟩:=aqf Tryz.underlying31 c2;obtain⟨l3,rfl,k3,_⟩:=aqf Tryz.underlying32 c3;obtain⟨l4,rfl,k4,_⟩:=aqf Tryz.underlying33 c4;obtain⟨xs,rfl,hx⟩:=avg l2 fun d hd=>conf_inst (axm k2 d hd)
 obtain⟨ps,rfl,_⟩:=avg l3 fun d hd=>conf_pend (axm k3 d hd)
 obtain⟨os,rfl,ho⟩:=avg l4 fun d hd=>conf_outp (axm k4 d hd)
 have hw1:Tryz.prog.cellsOf 43=13:=by kernel_rfl
 have hw2:Tryz.prog.cellsOf 123=3:=by kernel_rfl
 have hw3:Tryz.prog.cellsOf 94=7:=by kernel_rfl
 rw[hw1,hw2,hw3];exact⟨⟨a,n,xs,ps,os⟩,rfl,hx,ho,hn⟩
end Sf
theorem ax3:∀ ks:List (List UInt8),ks.length≤D.bulks (ks.map .str)∧∀ s∈ks,s.length+1≤D.bulks (ks.map .str)
 |[]=>by simp
 |k::ks=>by
  obtain⟨h1,h2⟩:=ax3 ks;rw[ZH,D.bulks,D.bulk];refine⟨by simp only[Zh];omega,fun s hs=>?_⟩;rcases Z7.1 hs with rfl|hs
  ·omega
  ·have:=h2 s hs;omega
theorem aj8(n:Int):(Wire.num n).length≤10:=(Wire.encF_len 9 (Wire.zig n)).2
theorem aq2(s:List UInt8):(Wire.strE s).length≤10+s.length:=by
 unfold Wire.strE;rw[Za];have:=aj8 (s.length:Int);omega
theorem bkf(d:D):1≤d.bulk:=by cases d<;>rw[D.bulk]<;>omega
mutual
theorem bzk:∀ v:V,(Val.enc v).length≤30*v.toD.bulk
 |.mk k n s is ks=>by
  have h1:=ak5 (k==5) is ks;have n1:=aj8 k;have n2:=aj8 n;have n3:=aq2 s;have n4:=aj8 (is.length:Int);rw[Val.enc,V.toD,D.bulk,D.bulks,D.bulks,D.bulks,D.bulks,D.bulks,D.bulks,D.bulk,D.bulk,D.bulk,D.bulk,D.bulk,Za];split
  ·omega
  ·split
   ·omega
   ·split
    ·rw[Za];omega
    ·simp only[ZA];omega
theorem ak5:∀(m:Bool) (l:List V) (ks:List (List UInt8)),(Val.encs m l ks).length≤30*(D.bulks (V.toDs l)+D.bulks (ks.map .str))
 |m,[],ks=>by rw[Val.encs];simp
 |m,v::l,ks=>by
  have h1:=bzk v;have hp:=bkf v.toD;rw[Val.encs,V.toDs,D.bulks,Za,Za];cases ks with
  |nil =>
   have h2:=ak5 m l ([]:List (List UInt8)).tail;have:(Val.keyE m []).length=0:=by cases m<;>rfl
   simp only[List.tail_nil]at h2 ⊢;omega
  |cons k ks =>
   have h2:=ak5 m l (k::ks).tail;have h3:(Val.keyE m (k::ks)).length≤10+k.length:=by
    cases m
    ·simp[Val.keyE]
    ·exact aq2 k
   rw[Zap]at h2;rw[ZH,D.bulks,D.bulk,Zap];omega
end
theorem ax4{α:Type}(f:α→List UInt8)(g:α→D)(h:∀ x,(f x).length≤30*(g x).bulk):∀ l:List α,(l.flatMap f).length≤30*D.bulks (l.map g)
 |[]=>by simp
 |x::l=>by
  have:=h x;have:=ax4 f g h l;rw[YI,ZH,D.bulks,Za];omega
theorem aqt{α:Type}(g:α→D):∀ l:List α,l.length≤D.bulks (l.map g)∧∀ x∈l,(g x).bulk≤D.bulks (l.map g)
 |[]=>by simp
 |x::l=>by
  obtain⟨h1,h2⟩:=aqt g l;have:=bkf (g x);rw[ZH,D.bulks];refine⟨by simp only[Zh];omega,fun y hy=>?_⟩;rcases Z7.1 hy with rfl|hy
  ·omega
  ·have:=h2 y hy;omega
namespace Sf
theorem flag10(b:Bool):(flagE b).length≤10:=aj8 _
theorem instE_bulk(ver:Int)(x:Inst):(instE ver x).length≤30*x.toD.bulk:=by
 have a1:=aq2 x.addr;have a2:=aq2 x.dep;have a3:=aq2 x.id;have a4:=aq2 x.typ;have a5:=bzk x.attrs;have a6:=aj8 x.ver;have a7:=flag10 x.tainted;have a8:(if ver=2 then flagE x.first else[]).length≤10:=by
  split
  ·exact flag10 _
  ·simp
 have a9:=aj8 (x.deps.length:Int);have a10:=ax4 Wire.strE D.str (fun s=>by rw[D.bulk];have:=aq2 s;omega) x.deps;unfold instE wordsE Inst.toD;simp only[Za,D.bulk,D.bulks];omega
theorem pendE_bulk(x:Pend):(pendE x).length≤30*x.toD.bulk:=by
 have a1:=aq2 x.addr;have a2:=aq2 x.typ;have a3:=aq2 x.tok;unfold pendE Pend.toD;simp only[Za,D.bulk,D.bulks];omega
theorem outE_bulk(x:Outp):(outE x).length≤30*x.toD.bulk:=by
 have a1:=aq2 x.name;have a2:=bzk x.value;have a3:=flag10 x.sens;unfold outE Outp.toD;simp only[Za,D.bulk,D.bulks];omega
theorem stE_bulk(ver:Int)(s:St):(stE ver s).length≤30*s.toD.bulk:=by
 have a0:magic.length=4:=rfl;have a1:=aj8 ver;have a2:=aq2 s.lin;have a3:=aj8 s.ser;have a4:=aj8 (s.insts.length:Int);have a5:=ax4 (instE ver) Inst.toD (instE_bulk ver) s.insts;have a6:(if ver=2 then Wire.num s.pends.length++s.pends.flatMap pendE else[]).length≤10+30*D.bulks (s.pends.map Pend.toD):=by
  have b1:=aj8 (s.pends.length:Int);have b2:=ax4 pendE Pend.toD pendE_bulk s.pends;split
  ·rw[Za];omega
  ·simp
 have a7:=aj8 (s.outs.length:Int);have a8:=ax4 outE Outp.toD outE_bulk s.outs;unfold stE St.toD;simp only[Za,D.bulk,D.bulks];omega
structure Fit(s:St):Prop where
 sin:AX.Sf.StIn s
 tin:TypIn s
 len:∀ ver,(stE ver s).length+20≤1000000000
theorem inst_fit{x:Inst}(hw:x.attrs.Wf)(hb:x.toD.bulk≤1500000):AX.Sf.InstIn x∧x.typ.length≤2000000:=by
 unfold Inst.toD at hb;simp only[D.bulk,D.bulks]at hb;obtain⟨h1,h2⟩:=ax3 x.deps;exact⟨⟨by omega,by omega,by omega,V.Wf.lens _ hw,by omega,fun s hs=>by have:=h2 s hs;omega⟩,by omega⟩
theorem fit_of{s:St}(hw:s.Wf)(hb:s.toD.bulk≤1500000):Fit s:=by
 have hE:=fun ver=>stE_bulk ver s
 have hb':=hb;unfold St.toD at hb';simp only[D.bulk,D.bulks]at hb';obtain⟨i1,i2⟩:=aqt Inst.toD s.insts;obtain⟨p1,p2⟩:=aqt Pend.toD s.pends;obtain⟨o1,o2⟩:=aqt Outp.toD s.outs;have hi:∀ x∈s.insts,AX.Sf.InstIn x∧x.typ.length≤2000000:=fun x hx=>inst_fit (hw.insts x hx) (by have:=i2 x hx;omega)
 have hp:∀ x∈s.pends,x.addr.length≤2000000∧x.typ.length≤2000000∧x.tok.length≤2000000:=fun x hx=>by
  have:x.toD.bulk≤1500000:=by have:=p2 x hx;omega
  unfold Pend.toD at this;simp only[D.bulk,D.bulks]at this;refine⟨?_,?_,?_⟩<;>omega
 have ho:∀ x∈s.outs,x.name.length≤2000000∧x.value.lens:=fun x hx=>by
  have:x.toD.bulk≤1500000:=by have:=o2 x hx;omega
  unfold Outp.toD at this;simp only[D.bulk,D.bulks]at this;exact⟨by omega,V.Wf.lens _ (hw.outs x hx)⟩
 refine⟨⟨by omega,fun x hx=>(hi x hx).1,fun x hx=>⟨(hp x hx).1,(hp x hx).2.2⟩,ho,by omega,by omega,by omega⟩,⟨fun x hx=>(hi x hx).2,fun x hx=>(hp x hx).2.1⟩,fun ver=>?_⟩;have:=hE ver;omega
end Sf
end Go.Proofs.YtdgcbckcameggadGreatDoor

namespace Go.Proofs.YtdgcbckcameggadGreatDoor
open Go.RowKit
mutual
def V.few:V→Prop
 |.mk k n s is ks=>is.length≤2000000∧ks.length≤2000000∧V.fews is
def V.fews:List V→Prop
 |[]=>True
 |v::l=>v.few∧V.fews l
end
theorem bxt:∀ l:List V,l.length≤D.bulks (V.toDs l)
 |[]=>Zy _
 |v::l=>by
  have:=bxt l;have h1:1≤v.toD.bulk:=by cases h:v.toD<;>rw[D.bulk]<;>omega
  rw[V.toDs,D.bulks,Zh];omega
mutual
theorem V.few_of:∀ v:V,v.toD.bulk≤1500000→v.few
 |.mk k n s is ks,h=>by
  rw[V.toD,D.bulk,D.bulks,D.bulks,D.bulks,D.bulks,D.bulks,D.bulks,D.bulk,D.bulk,D.bulk,D.bulk,D.bulk]at h;have h1:=bxt is;have h2:=(ax3 ks).1;unfold V.few;exact⟨by omega,by omega,V.fews_of is (by omega)⟩
theorem V.fews_of:∀ l:List V,D.bulks (V.toDs l)≤1500000→V.fews l
 |[],_=>by unfold V.fews;trivial
 |v::l,h=>by
  rw[V.toDs,D.bulks]at h;unfold V.fews;exact⟨V.few_of v (by omega),V.fews_of l (by omega)⟩
end
namespace AX
structure JrFew(r:Jr):Prop where
 inn:JrIn r
 vfew:r.after.attrs.few
 ins:r.base.insts.length≤2000000∧∀ x∈r.base.insts,x.attrs.few∧x.deps.length≤1000000000
 ps:r.base.pends.length≤2000000
 os:r.base.outs.length≤2000000∧∀ x∈r.base.outs,x.value.few
end AX
namespace Jr
end Jr
namespace Jr
end Jr
namespace AX
theorem ayw(c:UInt8)(h:Hp):AT 237 [.int .u8 (c.toNat:Int)] h (.bool (Adr.letter c)):=by
 refine pcall ?_ rfl (by simp[A.pure,A.data]) h;refine fo ?_;refine azd ti ti ?_;refine⟨_,le_refl _,?_⟩;rw[azj];congr 1;unfold Adr.letter;have e1:decide ((c.toNat:Int)≥97)=decide (97≤c.toNat):=by rw[decide_eq_decide];omega
 have e2:decide ((c.toNat:Int)≤122)=decide (c.toNat≤122):=by rw[decide_eq_decide];omega
 have e3:decide ((c.toNat:Int)≥65)=decide (65≤c.toNat):=by rw[decide_eq_decide];omega
 have e4:decide ((c.toNat:Int)≤90)=decide (c.toNat≤90):=by rw[decide_eq_decide];omega
 have e5:((c.toNat:Int)==95)=(c==95):=by
  rw[Yf,ZC,ZC,←Z9];show _↔c.toNat=95
  omega
 rw[e1,e2,e3,e4,e5]
theorem i80{n:Nat}(h:n≤2000000):IntKind.i64.wrap ((n:Int)+1)=((n+1:Nat):Int):=by rw[wrap64 (by omega) (by omega)];omega
theorem cw7(c:UInt8):(!Adr.letter c&&(decide ((c.toNat:Int)<48)||decide ((c.toNat:Int)>57)))=!Adr.wordB c:=by
 unfold Adr.wordB Num.digB;have e1:decide ((c.toNat:Int)<48)=!decide (48≤c.toNat):=by rw[←decide_not,decide_eq_decide];omega
 have e2:decide ((c.toNat:Int)>57)=!decide (c.toNat≤57):=by rw[←decide_not,decide_eq_decide];omega
 rw[e1,e2,Bool.not_or,Bool.not_and]
theorem cxg(c:UInt8):(Adr.letter c||(decide ((c.toNat:Int)≥48)&&decide ((c.toNat:Int)≤57)))=Adr.wordB c:=by
 unfold Adr.wordB Num.digB;have e1:decide ((c.toNat:Int)≥48)=decide (48≤c.toNat):=by rw[decide_eq_decide];omega
 have e2:decide ((c.toNat:Int)≤57)=decide (c.toNat≤57):=by rw[decide_eq_decide];omega
 rw[e1,e2]
theorem aq0(s:List UInt8)(hl:s.length≤2000000)(h:Hp):AT 222 [.str s] h (.bool (Adr.ident s)):=by
 refine pcall ?_ rfl (by simp[A.pure,A.data]) h;refine fo ?_;obtain⟨q,hq⟩:=Ex (Adr.ident s);rw[hq];unfold Adr.ident at hq;cases s with
 |nil =>
  refine azd ti ti ?_;exact⟨_,le_refl _,by rw[←hq];rfl⟩
 |cons c0 t =>
 have e0:((c0::t)==([]:List UInt8))=false:=rfl;have e0':((c0::t)!=([]:List UInt8))=true:=rfl;have h0:(0:Int)<((t.length+1:Nat):Int):=by omega
 have hc:=ayw;rw[e0',Zx]at hq;by_cases h64:(t.length+1:Nat)≤64
 rotate_left
 ·have e1:((t.length+1:Nat):Int)>64:=by omega
  have:false=q:=by rw[←hq];simp;omega
  subst this;refine azd (ai e0 e1) ti ?_;exact⟨_,le_refl _,rfl⟩
 have e1:¬((t.length+1:Nat):Int)>64:=by omega
 rw[show decide ((c0::t).length≤64)=true from Yr h64,Zx,ZQ]at hq;cases hL:Adr.letter c0 with
 |false =>
  rw[hL]at hq;have:false=q:=hq;subst this;have hc0:=hc c0;rw[hL]at hc0;refine azd (ai e0 (ai e1 h0)) (ai hc0 ti) ?_;exact⟨_,le_refl _,rfl⟩
 |true =>
 rw[hL,Zx]at hq;have hc0:=hc c0;rw[hL]at hc0;refine azd (ai e0 (ai e1 h0)) (ai hc0 ti) ?_;obtain⟨s,hs⟩:=Ex (c0::t);have hsl:t.length+1=s.length:=by rw[←hs];rfl
 rw[hs]at hq ⊢;refine azf (fun m ts hh=>hh=⟨[],[]⟩∧∃ j:Nat,m=s.length-j∧j≤s.length∧(s.drop j).all Adr.wordB=s.all Adr.wordB∧(ts 0=.str s∧ts 3=.int .i64 (j:Nat))) s.length ?_ ?_
 ·exact⟨rfl,0,rfl,Zy _,rfl,by(exact azq hs)⟩
 rintro m ts hh ⟨rfl,j,rfl,hj,heq,ht⟩;rcases Z4 j s.length with hlt|hge
 ·have hf:(j:Int)<(s.length:Int)∧(0:Int)≤(j:Int)∧IntKind.i64.wrap ((j:Int)+1)=((j+1:Nat):Int):=⟨by omega,by omega,i80 (by omega)⟩;rw[Zo hlt,ZE]at heq;have hg:s.getD j 0=s[j]:=by simp[List.getD,hlt]
  obtain⟨c,hcc⟩:=Ex (s[j]);rw[hcc]at heq hg;have hw:=cw7 c;cases hB:Adr.wordB c with
  |false =>
   rw[hB]at heq hw;have:false=q:=by rw[←hq,←heq];rfl
   subst this;refine azd (ai ht (ai hf (ai hg hw))) (ai (hc c) ti) ?_;exact⟨_,le_refl _,rfl⟩
  |true =>
   rw[hB]at heq hw;refine azd (ai ht (ai hf (ai hg hw))) (ai (hc c) ti) ?_;exact⟨_,by omega,rfl,j+1,rfl,by omega,heq,by(exact azq (ai ht hf))⟩
 ·have hf:¬(j:Int)<(s.length:Int):=by omega
  rw[Zw hge,Yo]at heq;refine azd (ai ht hf) ti ?_;exact⟨_,le_refl _,by rw[←hq,←heq];rfl⟩
theorem ayk(s p:List UInt8)(hl:s.length≤2000000)(hp:p.length≤2000000)(h:Hp):AT 244 [.str s,.str p] h (.bool (Adr.begins s p)):=by
 refine pcall ?_ rfl (by simp[A.pure,A.data]) h;refine fo ?_;have hb:Adr.begins s p=(decide (p.length≤s.length)&&(s.take p.length==p)):=by
  unfold Adr.begins;rw[Yf,Zak,Zc,Zq,ZC,List.prefix_iff_eq_take];exact⟨fun e=>⟨by have:=congrArg List.length e;rw[ZT]at this;omega,e.symm⟩,fun e=>e.2.symm⟩
 rw[hb];by_cases hc:p.length≤s.length
 ·have e1:(s.length:Int)≥(p.length:Int):=by omega
  have e2:(0:Int)≤(p.length:Int)∧(p.length:Int)≤(s.length:Int):=⟨by omega,by omega⟩;rw[Yr hc,Zx];refine azd (ai e1 e2) ti ?_;exact⟨_,le_refl _,rfl⟩
 ·have e1:¬(s.length:Int)≥(p.length:Int):=by omega
  rw[YH hc,Yb];refine azd e1 ti ?_;exact⟨_,le_refl _,rfl⟩
theorem avb{p:UInt8→Bool}:∀(s:List UInt8) (j:Nat),j≤s.length→(s.take j).all p=true→(j=s.length∨p (s.getD j 0)=false)→s.takeWhile p=s.take j∧s.dropWhile p=s.drop j
 |[],0,_,_,_=>⟨rfl,rfl⟩
 |c::s,0,_,_,h=>by
  rcases h with h|h
  ·simp at h
  ·simp only[ZQ]at h;exact⟨by simp[h],by simp[h]⟩
 |c::s,j+1,hj,ha,h=>by
  rw[Z6,ZE,Zc]at ha;have:=avb s j (by simpa using hj) ha.2 (by simpa using h);rw[Yy ha.1,YS ha.1,this.1,this.2];exact⟨rfl,rfl⟩
theorem bz5(s:List UInt8)(hl:s.length≤2000000)(h:Hp):AT 246 [.str s] h (.tup [.str (s.takeWhile Adr.wordB),.str (s.dropWhile Adr.wordB)]):=by
 refine pcall ?_ rfl (by simp[A.pure,A.data]) h;refine fo ?_;have hc:=ayw;refine azd ti ti ?_;refine azf (fun m ts hh=>hh=⟨[],[]⟩∧∃ j:Nat,m=s.length-j∧j≤s.length∧(s.take j).all Adr.wordB=true∧(ts 0=.str s∧ts 4=.int .i64 (j:Nat))) s.length ?_ ?_
 ·exact⟨rfl,0,rfl,Zy _,rfl,by(exact azq ti)⟩
 rintro m ts hh ⟨rfl,j,rfl,hj,hall,ht⟩;have hs:(0:Int)≤(j:Int)∧(j:Int)≤(s.length:Int):=⟨by omega,by omega⟩;rcases Z4 j s.length with hlt|hge
 ·have hf:(j:Int)<(s.length:Int)∧IntKind.i64.wrap ((j:Int)+1)=((j+1:Nat):Int):=⟨by omega,i80 (by omega)⟩;have hg:s.getD j 0=s[j]:=by simp[List.getD,hlt]
  obtain⟨c,hcc⟩:=Ex (s[j]);rw[hcc]at hg;have hw:=cxg c;cases hB:Adr.wordB c with
  |false =>
   rw[hB]at hw;obtain⟨k1,k2⟩:=avb s j hj hall (.inr (by rw[hg];exact hB));rw[k1,k2];refine azd (ai ht (ai hf (ai hs (ai hg hw)))) (ai (hc c) ti) ?_;exact⟨_,le_refl _,rfl⟩
  |true =>
   rw[hB]at hw;refine azd (ai ht (ai hf (ai hs (ai hg hw)))) (ai (hc c) ti) ?_;refine⟨_,?_,rfl,j+1,rfl,by omega,?_,by(exact azq (ai ht hf))⟩
   ·omega
   ·rw[ZW hlt,List.all_append,hall,hcc];simp[hB]
 ·have hf:¬(j:Int)<(s.length:Int):=by omega
  obtain⟨k1,k2⟩:=avb s j hj hall (.inl (by omega));rw[k1,k2];refine azd (ai ht (ai hf hs)) ti ?_;exact⟨_,le_refl _,rfl⟩
theorem czs(s:List UInt8)(h:Hp):AT 247 [.str s] h (.bool (Adr.reserved s)):=by
 refine pcall ?_ rfl (by simp[A.pure,A.data]) h;refine fo ?_;obtain⟨L,hL⟩:=Ex (Adr.reservedL);have hr:Adr.reserved s=L.contains s:=by unfold Adr.reserved;rw[hL]
 have h11:L.length=11:=by rw[←hL];rfl
 rw[hr];refine azd ti ti ?_;refine azf (fun m ts hh=>hh=⟨[],[]⟩∧∃ j:Nat,m=L.length-j∧j≤L.length∧(L.drop j).contains s=L.contains s∧(ts 0=.str s∧ts 3=.sl 1 .no (strsA L)∧ts 4=.int .i64 (j:Nat))) L.length ?_ ?_
 ·exact⟨rfl,0,rfl,Zy _,rfl,rfl,by rw[←hL];rfl,rfl⟩
 rintro m ts hh ⟨rfl,j,rfl,hj,heq,ht⟩;rcases Z4 j L.length with hlt|hge
 ·have hf:(strsA L).length=L.length∧(j:Int)<(L.length:Int)∧(0:Int)≤(j:Int)∧IntKind.i64.wrap ((j:Int)+1)=((j+1:Nat):Int)∧(strsA L).getD j []=[.str L[j]]:=⟨aze L,by omega,by omega,i80 (by omega),azv L j hlt⟩;rw[Zo hlt,List.contains_cons]at heq;obtain⟨w,hw⟩:=Ex (L[j]);rw[hw]at heq hf;by_cases e:w=s
  ·subst e;rw[show(w==w)=true from Y2 _,YT]at heq;refine azd (ai ht hf) ti ?_;exact⟨_,le_refl _,by rw[←heq];rfl⟩
  ·have e1:(w==s)=false:=by simp[e]
   have e2:(s==w)=false:=by simpa using fun h=>e h.symm
   rw[e2,Ys]at heq;refine azd (ai ht (ai hf e1)) ti ?_;exact⟨_,by omega,rfl,j+1,rfl,by omega,heq,by(exact azq (ai ht hf))⟩
 ·have hf:(strsA L).length=L.length∧¬(j:Int)<(L.length:Int):=⟨aze L,by omega⟩;rw[Zw hge]at heq;refine azd (ai ht hf) ti ?_;exact⟨_,le_refl _,by rw[←heq];rfl⟩
theorem dzc(c:UInt8):(decide ((c.toNat:Int)<48)||decide ((c.toNat:Int)>57))=!Num.digB c:=by
 unfold Num.digB;have e1:decide ((c.toNat:Int)<48)=!decide (48≤c.toNat):=by rw[←decide_not,decide_eq_decide];omega
 have e2:decide ((c.toNat:Int)>57)=!decide (c.toNat≤57):=by rw[←decide_not,decide_eq_decide];omega
 rw[e1,e2,Bool.not_and]
theorem ayx(s:List UInt8)(hl:s.length≤2000000)(h:Hp):AT 235 [.str s] h (.bool (Num.digits s)):=by
 refine pcall ?_ rfl (by simp[A.pure,A.data]) h;refine fo ?_;obtain⟨q,hq⟩:=Ex (Num.digits s);rw[hq];unfold Num.digits at hq;refine azd ti ti ?_;refine azf (fun m ts hh=>hh=⟨[],[]⟩∧∃ j:Nat,m=s.length-j∧j≤s.length∧(s.drop j).all Num.digB=s.all Num.digB∧(ts 0=.str s∧ts 3=.int .i64 (j:Nat))) s.length ?_ ?_
 ·exact⟨rfl,0,rfl,Zy _,rfl,by(exact azq ti)⟩
 rintro m ts hh ⟨rfl,j,rfl,hj,heq,ht⟩;rcases Z4 j s.length with hlt|hge
 ·have hf:(j:Int)<(s.length:Int)∧(0:Int)≤(j:Int)∧IntKind.i64.wrap ((j:Int)+1)=((j+1:Nat):Int):=⟨by omega,by omega,i80 (by omega)⟩;rw[Zo hlt,ZE]at heq;have hg:s.getD j 0=s[j]:=by simp[List.getD,hlt]
  obtain⟨c,hcc⟩:=Ex (s[j]);rw[hcc]at heq hg;have hw:=dzc c;cases hB:Num.digB c with
  |false =>
   rw[hB]at heq hw;have:false=q:=by rw[←hq,←heq];rfl
   subst this;refine azd (ai ht (ai hf (ai hg hw))) ti ?_;exact⟨_,le_refl _,rfl⟩
  |true =>
   rw[hB]at heq hw;refine azd (ai ht (ai hf (ai hg hw))) ti ?_;exact⟨_,by omega,rfl,j+1,rfl,by omega,heq,by(exact azq (ai ht hf))⟩
 ·have hf:¬(j:Int)<(s.length:Int):=by omega
  rw[Zw hge,Yo]at heq;rw[←heq,Zx]at hq;cases s with
  |nil =>
   have hf:¬(j:Int)<((0:Nat):Int)∧(([]:List UInt8) == [48])=false:=⟨by omega,rfl⟩;refine azd (ai ht hf) ti ?_;exact⟨_,le_refl _,by rw[←hq];rfl⟩
  |cons c t =>
   have hf:¬(j:Int)<((t.length+1:Nat):Int):=hf;have h0:(0:Int)<((t.length+1:Nat):Int):=by omega
   have e0:((c::t)!=([]:List UInt8))=true:=rfl;have e1:((c.toNat:Int)!=48)=(c !=48):=by
    rw[Yf,Zab,Zab,ne_eq,ne_eq,←Z9];show¬_↔¬c.toNat=48
    omega
   rw[e0,Zx,ZQ,←e1]at hq;refine azd (ai ht (ai hf (ai h0 e0))) ti ?_;exact⟨_,le_refl _,by rw[←hq];rfl⟩
theorem cz7(n:Int)(h:Hp):AT 194 [.int .i64 n] h (.bool (decide (n≥-9007199254740992)&&decide (n≤9007199254740992))):=by
 refine pcall ?_ rfl (by simp[A.pure,A.data]) h;refine fo ?_;refine azd ti ti ?_;exact⟨_,le_refl _,rfl⟩
theorem bkt(t:List UInt8)(j:Nat)(h:j<t.length):Num.val (t.take (j+1))=10*Num.val (t.take j)+(t[j].toNat-48):=by
 rw[ZW h];unfold Num.val;rw[List.foldl_append];rfl
theorem cy0:∀(n:Nat) (t:List UInt8),t.length=n→t.all Num.digB=true→Num.val t<10^n:=by
 intro n;induction n with
 |zero=>intro t ht _;rw[ZD ht];decide
 |succ n ih =>
  intro t ht ha;have hlt:n<t.length:=by omega
  have h1:=bkt t n hlt;rw[ZJ (by omega)]at h1
  have h2:=ih (t.take n) (by rw[ZT];omega) (by
   rw[ZF]at ha ⊢
   exact fun x hx=>ha x (List.mem_of_mem_take hx))
  have h3:=ZF.1 ha t[n] (Zp hlt);rw[Num.digB_iff]at h3;rw[h1,Nat.pow_succ];omega
theorem bxk(s:List UInt8)(hl:s.length≤2000000)(h:Hp):AT 220 [.str s] h (.tup [.int .i64 (Num.parse s).1,.int .i64 (Num.parse s).2]):=by
 refine pcall ?_ rfl (by simp[A.pure,A.data]) h;refine fo ?_;cases s with
 |nil =>
  have hd:=ayx [] (by decide);rw[show Num.digits []=false from rfl]at hd;have h00:¬((0:Nat):Int)>0:=by decide
  refine azd h00 (ai hd ti) ?_;exact⟨_,le_refl _,rfl⟩
 |cons c r =>
 have h0:(0:Int)<((r.length+1:Nat):Int)∧((r.length+1:Nat):Int)>0∧(0:Int)≤1∧(1:Int)≤((r.length+1:Nat):Int):=⟨by omega,by omega,by omega,by omega⟩;obtain⟨t,ht⟩:=Ex ((if(c==45)=true then r else c::r));have hl':r.length+1≤2000000:=hl;have htl:t.length≤2000000:=by
  rw[←ht];split
  ·omega
  ·exact hl
 have e1:((c.toNat:Int)==45)=(c==45):=by
  rw[Yf,ZC,ZC,←Z9];show _↔c.toNat=45
  omega
 have hp:Num.parse (c::r)=if(!Num.digits t||((c==45)&&t == [48]))=true then(0,2)else if 16<t.length then(0,5)else if 9007199254740992<Num.val t then(0,5)else((if(c==45)=true then-(Num.val t:Int)else Num.val t),0):=by
  unfold Num.parse;simp only[ZQ,ZU,Yx,ht]
 obtain⟨mn,hmn⟩:=Ex ((c==45));rw[hmn]at e1 hp ht;refine azd (ai h0 e1) ti ?_;refine bzl (fun ts' h'=>h'=⟨[],[]⟩∧(ts' 4=.bool mn∧ts' 5=.str t)) ?_ ?_
 ·cases mn with
  |false =>
   rw[if_neg (by decide)]at ht;refine azd (ai h0 e1) ti ?_;exact⟨rfl,by(exact azq (ai ht e1))⟩
  |true =>
   rw[if_pos rfl]at ht;refine azd (ai h0 e1) ti ?_;exact⟨rfl,by(exact azq (ai ht e1))⟩
 rintro ts hh ⟨rfl,hu⟩;rw[hp];have hd:=ayx t htl;cases hD:Num.digits t with
 |false =>
  rw[hD]at hd;refine azd hu (ai hd ti) ?_;exact⟨_,le_refl _,rfl⟩
 |true =>
 rw[hD]at hd;cases hz:(mn&&t == [48])with
 |true =>
  refine azd (ai hu hz) (ai hd ti) ?_;exact⟨_,le_refl _,rfl⟩
 |false =>
 rw[if_neg (by simp)];by_cases h16:16<t.length
 ·have e2:(t.length:Int)>16:=by omega
  rw[if_pos h16];refine azd (ai hu (ai hz e2)) (ai hd ti) ?_;exact⟨_,le_refl _,rfl⟩
 have e2:¬(t.length:Int)>16:=by omega
 rw[if_neg h16];have hall:t.all Num.digB=true:=by unfold Num.digits at hD;rw[Zc]at hD;exact hD.1
 have hv:∀ j,j≤t.length→Num.val (t.take j)<10000000000000000:=fun j hj=>by
  have:=cy0 j (t.take j) (by rw[ZT];omega) (by
   rw[ZF]at hall ⊢
   exact fun x hx=>hall x (List.mem_of_mem_take hx))
  exact ZL this (YL (by decide) (show j≤16 by omega))
 refine azd (ai hu (ai hz e2)) (ai hd ti) ?_;refine azf (fun m ts hh=>hh=⟨[],[]⟩∧∃ j:Nat,m=t.length-j∧j≤t.length∧(ts 4=.bool mn∧ts 5=.str t∧ts 6=.int .i64 (Num.val (t.take j):Nat)∧ts 7=.int .i64 (j:Nat))) t.length ?_ ?_
 ·exact⟨rfl,0,rfl,Zy _,by(exact azq hu)⟩
 rintro m ts hh ⟨rfl,j,rfl,hj,hw⟩;have hvj:=hv j hj;rcases Z4 j t.length with hlt|hge
 ·have hvj1:=hv (j+1) hlt;have hvt:=bkt t j hlt;have hcd:=(Num.digB_iff _).1 (ZF.1 hall t[j] (Zp hlt));have hg:t.getD j 0=t[j]:=by simp[List.getD,hlt]
  obtain⟨x,hx⟩:=Ex (t[j]);rw[hx]at hvt hcd hg;have hf:(j:Int)<(t.length:Int)∧(0:Int)≤(j:Int)∧IntKind.i64.wrap ((j:Int)+1)=((j+1:Nat):Int):=⟨by omega,by omega,i80 (by omega)⟩;obtain⟨V,hV⟩:=Ex (Num.val (t.take j));rw[hV]at hvt hvj hw;have k1:IntKind.i64.wrap (10*(V:Int))=((10*V:Nat):Int):=by rw[wrap64 (by omega) (by omega)];omega
  have k2:IntKind.u8.wrap ((x.toNat:Int)-48)=((x.toNat-48:Nat):Int):=by rw[IntKind.wrap_u8];omega
  have k3:IntKind.i64.wrap ((x.toNat-48:Nat):Int)=((x.toNat-48:Nat):Int):=wrap64 (by omega) (by omega);have k4:IntKind.i64.wrap (((10*V:Nat):Int)+((x.toNat-48:Nat):Int))=(Num.val (t.take (j+1)):Nat):=by rw[hvt,wrap64 (by omega) (by omega)];omega
  refine azd (ai hw (ai hf (ai hg (ai k1 (ai k2 (ai k3 k4)))))) ti ?_;exact⟨_,by omega,rfl,j+1,rfl,by omega,by(exact azq (ai hw (ai hf (ai hg (ai k1 (ai k2 (ai k3 k4)))))))⟩
 ·have hf:¬(j:Int)<(t.length:Int):=by omega
  rw[ZJ hge]at hw hvj;obtain⟨V,hV⟩:=Ex (Num.val t);rw[hV]at hw hvj ⊢;have hva:=fun n=>cz7 n
  cases mn with
  |false =>
   by_cases hb:9007199254740992<V
   ·have e3:(decide ((V:Int)≥-9007199254740992)&&decide ((V:Int)≤9007199254740992))=false:=by simp;omega
    rw[if_pos hb];refine azd (ai hw (ai hf e3)) (ai ((hva V)) ti) ?_;exact⟨_,le_refl _,rfl⟩
   ·have e3:(decide ((V:Int)≥-9007199254740992)&&decide ((V:Int)≤9007199254740992))=true:=by simp;omega
    rw[if_neg hb];refine azd (ai hw (ai hf e3)) (ai ((hva V)) ti) ?_;exact⟨_,le_refl _,rfl⟩
  |true =>
   have e4:IntKind.i64.wrap (0-(V:Int))=-(V:Int):=by rw[wrap64 (by omega) (by omega)];omega
   by_cases hb:9007199254740992<V
   ·have e3:(decide (-(V:Int)≥-9007199254740992)&&decide (-(V:Int)≤9007199254740992))=false:=by simp;omega
    rw[if_pos hb];refine azd (ai hw (ai hf (ai e4 e3))) (ai ((hva (-(V:Int)))) ti) ?_;exact⟨_,le_refl _,rfl⟩
   ·have e3:(decide (-(V:Int)≥-9007199254740992)&&decide (-(V:Int)≤9007199254740992))=true:=by simp;omega
    rw[if_neg hb];refine azd (ai hw (ai hf (ai e4 e3))) (ai ((hva (-(V:Int)))) ti) ?_;exact⟨_,le_refl _,rfl⟩
end AX
theorem bw6:∀ d:Fin 16,((⟨#[48,49,50,51,52,53,54,55,56,57,97,98,99,100,101,102]⟩:ByteArray).extract d.val (d.val+1)).data.toList=[Str.hd d.val]:=by decide
theorem ckk(d:Nat)(h:d<16):(⟨#[48,49,50,51,52,53,54,55,56,57,97,98,99,100,101,102]⟩:ByteArray).extract d (d+1)=⟨#[Str.hd d]⟩:=by
 have:=bw6 ⟨d,h⟩;exact bkr this
theorem av2(c:Nat)(w:World)(hc:c<16) :
  Calls Tryz.prog 263 #[.int .i64 c] w fun e w'=>e=.returned (.string ⟨(Str.hexL c).toArray⟩)∧w=w':=by
 have Hh:=kept (show Str.hexL c=[Str.hd c] by rw[Str.hexL,if_pos hc]);have hx:=ckk c hc;have hc':(c:Int)<16:=by omega
 have hm:(c:Int)%16=(c:Int):=by omega
 have hy:(c:Int)<15+1:=by omega
 generalize hq:Str.hd c=q at *;clear hc hq;go_enter Tryz.func263,Tryz.ntmps263;go_wp2
 go_ret
 exact⟨by rw[Hh.out];rfl,rfl⟩
theorem bw1(c:Nat)(w:World)(hc:c<256) :
  Calls Tryz.prog 263 #[.int .i64 c] w fun e w'=>e=.returned (.string ⟨(Str.hexL c).toArray⟩)∧w=w':=by
 by_cases h16:c<16
 ·exact av2 c w h16
 ·have Hh:=kept (show Str.hexL c=Str.hexL (c/16)++[Str.hd (c%16)] by
   rw[Str.hexL,if_neg h16,Str.hexL,if_pos (by omega)];rfl)
  have hx:=ckk (c%16) (by omega);have hl:=(Str.hexL_length (c/16)).2;have hcat:=fun W=>axy (P:=Tryz.prog) W (a:=⟨(Str.hexL (c/16)).toArray⟩) (b:=⟨#[Str.hd (c%16)]⟩) (l:=Str.hexL (c/16)) (m:=[Str.hd (c%16)]) rfl rfl (by simp;omega)
  obtain⟨d,hd⟩:∃ d:Nat,(c:Int)%16=(d:Int):=⟨c%16,by omega⟩;obtain⟨f,hf⟩:∃ f:Nat,(c:Int)/16=(f:Int):=⟨c/16,by omega⟩;obtain rfl:d=c%16:=by omega
  obtain rfl:f=c/16:=by omega
  have Hs:=kept (show c/16<16 by omega);have hb:((c%16:Nat):Int)<16:=by omega
  have hfb:((c/16:Nat):Int)<16:=by omega
  have hb2:((c%16:Nat):Int)<15+1:=by omega
  have hc':¬(c:Int)<16:=by omega
  generalize hq:Str.hd (c%16)=q at *;generalize hg:Str.hexL (c/16)=g at *;have Hg:=kept hg;generalize c%16=d at *;generalize c/16=f at *;clear hc hq h16 hl hg;go_enter Tryz.func263,Tryz.ntmps263;go_wp2_with (go_at_call 263;refine(av2 _ _ Hs.out).mono ?_;rintro e w' ⟨rfl,rfl⟩;rw[Hg.out])
  go_ret
  exact⟨by rw[Hh.out];rfl,rfl⟩
theorem one_byte(w:World)(b:UInt8):(convert 58 9 (.slice (some ⟨w.heap.size,0,none⟩) 1 1)).run Tryz.prog (w.alloc (.cells #[.int .u8 b.toNat] 5))=.ok (.string ⟨#[b]⟩) (w.alloc (.cells #[.int .u8 b.toNat] 5)):=
 (BytesAt.lit w 5 [b]).conv (P:=Tryz.prog) 58 9 1 Tryz.underlying58 Tryz.underlying5 Tryz.underlying9
theorem bj2(b:UInt8)(w:World) :
  Calls Tryz.prog 260 #[.int .u8 b.toNat] w fun e w'=>e=.returned (.string ⟨(Str.esc b).toArray⟩)∧Below w.heap.size w w':=by
 by_cases h1:b=10
 ·subst h1;go_enter Tryz.func260,Tryz.ntmps260;go_wp2
  go_ret
  exact⟨rfl,Below.refl _ _⟩
 by_cases h2:b=13
 ·subst h2;go_enter Tryz.func260,Tryz.ntmps260;go_wp2
  go_ret
  exact⟨rfl,Below.refl _ _⟩
 by_cases h3:b=9
 ·subst h3;go_enter Tryz.func260,Tryz.ntmps260;go_wp2
  go_ret
  exact⟨rfl,Below.refl _ _⟩
 by_cases h4:b=34
 ·subst h4;go_enter Tryz.func260,Tryz.ntmps260;go_wp2
  go_ret
  exact⟨rfl,Below.refl _ _⟩
 by_cases h5:b=92
 ·subst h5;go_enter Tryz.func260,Tryz.ntmps260;go_wp2
  go_ret
  exact⟨rfl,Below.refl _ _⟩
 have hb:=b.toNat_lt;have e1:∀ n:Nat,n<256→b≠UInt8.ofNat n→((b.toNat:Int)==(n:Int))=false:=fun n hn h=>by
  refine Zu.2 fun hh=>h ?_
  rw[←Z9,Z8];omega
 have f1:((b.toNat:Int)==10)=false:=e1 10 (by omega) h1;have f2:((b.toNat:Int)==13)=false:=e1 13 (by omega) h2;have f3:((b.toNat:Int)==9)=false:=e1 9 (by omega) h3;have f4:((b.toNat:Int)==34)=false:=e1 34 (by omega) h4;have f5:((b.toNat:Int)==92)=false:=e1 92 (by omega) h5;have hob:=one_byte w b;have Hd:=kept (fun W=>bw1 b.toNat W (by omega));have hl:=(Str.hexL_length b.toNat).2;have hcat1:=fun W=>axz (P:=Tryz.prog) W (a:=⟨#[92,117,123]⟩) (b:=⟨(Str.hexL b.toNat).toArray⟩) (l:=[92,117,123]) (m:=Str.hexL b.toNat) (r:=[92,117,123]++Str.hexL b.toNat) rfl rfl rfl (by simp;omega)
 have hcat2:=fun W=>axz (P:=Tryz.prog) W (a:=⟨([92,117,123]++Str.hexL b.toNat).toArray⟩) (b:=⟨#[125]⟩) (l:=[92,117,123]++Str.hexL b.toNat) (m:=[125]) (r:=[92,117,123]++Str.hexL b.toNat++[125]) rfl rfl rfl (by simp;omega)
 by_cases h6:b<32∨b=127
 ·have He:=kept (show Str.esc b=[92,117,123]++Str.hexL b.toNat++[125] by simp only[Str.esc,h1,h2,h3,h4,h5,h6,if_true,if_false]);generalize hm1:([92,117,123]++Str.hexL b.toNat:List UInt8)=m1 at *;generalize hm2:(m1++[125]:List UInt8)=m2 at *;have hlt:(b.toNat:Int)<32∨((b.toNat:Int)==127)=true∧¬(b.toNat:Int)<32:=by
   rcases h6 with h|h
   ·left;have:=YD.1 h;simp at this;omega
   ·right;subst h;decide
  clear h1 h2 h3 h4 h5 h6 e1 hl hob hm1 hm2;obtain⟨u,hu⟩:∃ u:Int,(b.toNat:Int)=u:=⟨_,rfl⟩;have hu0:0≤u:=by omega
  have hu1:u≤255:=by omega
  have Hu:=kept hu;rw[hu]at f1 f2 f3 f4 f5 hlt;clear hb hu;rw[Hu.out];rcases hlt with hlt|⟨hlt,hlt2⟩;all_goals
   go_enter Tryz.func260,Tryz.ntmps260;go_wp2_with fail;rw[←Hu.out];refine(Hd.out _).mono ?_;rintro e w' ⟨rfl,rfl⟩;go_wp2
   go_ret
   exact⟨by rw[He.out];rfl,Below.refl _ _⟩
 ·have He:=kept (show Str.esc b=[b] by simp only[Str.esc,h1,h2,h3,h4,h5,h6,if_false]);have hlt:¬(b.toNat:Int)<32:=fun h=>h6 (.inl (YD.2 (by simp;omega)))
  have hne:((b.toNat:Int)==127)=false:=e1 127 (by omega) (fun h=>h6 (.inr h));clear h1 h2 h3 h4 h5 h6 e1 hl hcat1 hcat2;obtain⟨u,hu⟩:∃ u:Int,(b.toNat:Int)=u:=⟨_,rfl⟩;have hu0:0≤u:=by omega
  have hu1:u≤255:=by omega
  rw[hu]at f1 f2 f3 f4 f5 hlt hne hob ⊢;clear hb hu;go_enter Tryz.func260,Tryz.ntmps260;go_wp2
  go_ret
  exact⟨by rw[He.out];rfl,(Below.refl _ _).alloc (Zf _) _⟩
theorem bxl(s:ByteArray):s.data.toList.length=s.size:=by simp
theorem bxy(s:ByteArray)(w:World)(hs:s.size≤2000000) :
  Calls Tryz.prog 254 #[.string s] w fun e w'=>e=.returned (.string ⟨(Str.quote s.data.toList).toArray⟩)∧Below w.heap.size w w':=by
 go_enter Tryz.func254,Tryz.ntmps254;go_wp2
 go_loopw [3,4] (fun x i wr=>∃(k:Nat) (acc:List UInt8),k≤s.size∧i=.int .i64 k∧x=.string ⟨acc.toArray⟩∧acc=34::(s.data.toList.take k).flatMap Str.esc∧Below w.heap.size w wr) (fun _ i _=>s.size-(intOf i).toNat)
 case atStart=>exact⟨0,[34],by omega,rfl,rfl,rfl,Below.refl _ _⟩
 case round =>
  obtain⟨k,acc,hk,rfl,rfl,hacc,hbel⟩:=hrel;have Ha:=kept hacc;have Hl:=kept hbel;have hlen:acc.length≤1+6*s.size:=by
   rw[hacc];have:=(Str.flatMap_esc_length (s.data.toList.take k)).2;rw[ZT,bxl]at this;simp only[Zh];omega
  clear hacc hbel;by_cases hlt:k<s.size
  ·have hlt':(k:Int)<s.size:=by omega
   obtain⟨r,hr⟩:=Ex (acc++Str.esc s[k]);have hel:=(Str.esc_length s[k]).2;have hcat:=fun W=>axz (P:=Tryz.prog) W (a:=⟨acc.toArray⟩) (b:=⟨(Str.esc s[k]).toArray⟩) (l:=acc) (m:=Str.esc s[k]) rfl rfl hr (by rw[←hr,Za];omega)
   have Hr:=kept (show r=34::(s.data.toList.take (k+1)).flatMap Str.esc by
    rw[←hr,Ha.out,bxb s k hlt,Yp];simp)
   clear hlen hr hel;go_wp2_with fail;refine(bj2 _ _).mono ?_;rintro e w1 ⟨rfl,b1⟩;have B1:=kept b1;clear b1;go_wp2
   go_roundw
   case rel=>exact⟨k+1,r,by omega,by go_num,rfl,Hr.out,bthen Hl.out B1.out⟩
   case measure=>simp[intOf];omega
  ·have hcat:=fun W=>axz (P:=Tryz.prog) W (a:=⟨acc.toArray⟩) (b:=⟨#[34]⟩) (l:=acc) (m:=[34]) (r:=acc++[34]) rfl rfl rfl (by rw[Za];simp;omega)
   have Hr:=kept (show acc++[34]=Str.quote s.data.toList by
    rw[Ha.out,ZJ (by rw[bxl];omega)];rfl)
   clear hlen;generalize hq:acc++[34]=q at *;go_wp2
   go_ret
   exact⟨cwq Hr.out,Hl.out⟩
theorem bww(b:UInt8)(w:World) :
  Calls Tryz.prog 266 #[.int .u8 b.toNat] w fun e w'=>e=.returned (.int .i64 (Str.hexv b))∧w=w':=by
 have hb:=b.toNat_lt
 have Hv:=kept (show Str.hexv b=if 48≤(b.toNat:Int)∧(b.toNat:Int)≤57 then(b.toNat:Int)-48 else if 97≤(b.toNat:Int)∧(b.toNat:Int)≤102 then(b.toNat:Int)-87 else -1 by
  unfold Str.hexv
  repeat' split
  all_goals omega)
 obtain⟨u,hu⟩:∃ u:Int,(b.toNat:Int)=u:=⟨_,rfl⟩;rw[hu]at Hv ⊢;have h0:0≤u:=by omega
 have h1:u<256:=by omega
 clear hu hb;by_cases a1:48≤u
 ·by_cases a2:u≤57
  ·go_enter Tryz.func266,Tryz.ntmps266;go_wp2
   go_ret
   exact⟨aqg (by rw[Hv.out,if_pos ⟨a1,a2⟩]),rfl⟩
  ·by_cases a3:97≤u
   ·by_cases a4:u≤102
    ·go_enter Tryz.func266,Tryz.ntmps266;go_wp2
     go_ret
     exact⟨aqg (by rw[Hv.out,if_neg (by omega),if_pos ⟨a3,a4⟩];omega),rfl⟩
    ·go_enter Tryz.func266,Tryz.ntmps266;go_wp2
     go_ret
     exact⟨aqg (by rw[Hv.out,if_neg (by omega),if_neg (by omega)]),rfl⟩
   ·go_enter Tryz.func266,Tryz.ntmps266;go_wp2
    go_ret
    exact⟨aqg (by rw[Hv.out,if_neg (by omega),if_neg (by omega)]),rfl⟩
 ·go_enter Tryz.func266,Tryz.ntmps266;go_wp2
  go_ret
  exact⟨aqg (by rw[Hv.out,if_neg (by omega),if_neg (by omega)]),rfl⟩
theorem ayf(x:Int)(h0:0≤x)(h1:x<16777216):bits .and .i64 x 63=x%64:=by
 obtain⟨X,rfl⟩:=Int.eq_ofNat_of_zero_le h0;have e:X&&&63=X%64:=by rw[show(63:Nat)=2^6-1 from rfl,YN]
 have h2:(BitVec.ofInt 64 ((X:Nat):Int)&&&BitVec.ofInt 64 (63:Int)).toNat=X%64:=by
  rw[BitVec.toNat_and,BitVec.ofInt_natCast,show(63:Int)=((63:Nat):Int)from rfl,BitVec.ofInt_natCast,BitVec.toNat_ofNat,BitVec.toNat_ofNat,YM (by omega),YM (by omega),e]
 show IntKind.i64.wrap ((BitVec.ofInt 64 ((X:Nat):Int)&&&BitVec.ofInt 64 (63:Int)).toNat:Int)=_
 rw[h2,IntKind.wrap_i64];omega
theorem bwr(y:Int)(h0:0≤y)(h1:y<64):bits .or .i64 128 y=128+y:=aqc 2 y 64 6 (by decide) (by omega) (by omega) h0 h1 (by omega)
theorem dqh(y:Int)(h0:0≤y)(h1:y<64):bits .or .i64 192 y=192+y:=aqc 3 y 64 6 (by decide) (by omega) (by omega) h0 h1 (by omega)
theorem dqs(y:Int)(h0:0≤y)(h1:y<16):bits .or .i64 224 y=224+y:=aqc 14 y 16 4 (by decide) (by omega) (by omega) h0 h1 (by omega)
theorem dqf(y:Int)(h0:0≤y)(h1:y<16):bits .or .i64 240 y=240+y:=aqc 15 y 16 4 (by decide) (by omega) (by omega) h0 h1 (by omega)
def zB(l:List Int):List UInt8:=l.map fun x=>x.toNat.toUInt8
theorem bka:∀ l:List Int,(∀ x∈l,0≤x∧x<256)→bcells (zB l)=l.map fun x=>Value.int .u8 x
 |[],_=>rfl
 |x::l,h=>by
  have h1:=h x (by simp);have h2:=bka l (fun y hy=>h y (by simp[hy]));unfold zB bcells at *;rw[ZH,ZH,h2,ZH];rw[show(x.toNat.toUInt8).toNat=x.toNat%256 from rfl];congr 2;omega
theorem aje(w:World)(l:List Int)(n:Nat)(hn:l.length=n)(h:∀ x∈l,0≤x∧x<256) :
  (convert 58 9 (.slice (some ⟨w.heap.size,0,none⟩) n n)).run Tryz.prog (w.alloc (.cells (l.map fun x=>Value.int .u8 x).toArray 5))=.ok (.string ⟨(zB l).toArray⟩) (w.alloc (.cells (l.map fun x=>Value.int .u8 x).toArray 5)):=by
 rw[←bka l h];exact(BytesAt.lit w 5 (zB l)).conv_of (P:=Tryz.prog) 58 9 n n (by simp[zB,hn]) Tryz.underlying58 Tryz.underlying5 Tryz.underlying9
theorem bqc(c:Nat)(w:World)(hc:Utf8.valid c=true) :
  Calls Tryz.prog 265 #[.int .i64 c] w fun e w'=>e=.returned (.string ⟨(Str.enc c).toArray⟩)∧Below w.heap.size w w':=by
 have hv:(c:Int)<55296∨(57343<(c:Int)∧(c:Int)≤1114111):=by
  unfold Utf8.valid at hc;simp at hc;omega
 have He:=kept (show Str.enc c=zB (Lib.encodeRuneZ (c:Int))from rfl);obtain⟨u,hu⟩:∃ u:Int,(c:Int)=u:=⟨_,rfl⟩;have h0:0≤u:=by omega
 rw[hu]at He hv ⊢;clear hu hc;by_cases h1:u<128
 ·have Hz:=kept (Lib.encodeRuneZ_one (r:=u) h0 (by omega));have hob:=aje w [u] 1 rfl (by simp;omega);have hw8:u<256:=by omega
  go_enter Tryz.func265,Tryz.ntmps265;simp only[ZH,Yn]at hob;go_wp2
  go_ret
  exact⟨by rw[He.out,Hz.out];rfl,ball w _⟩
 ·by_cases h2:u<2048
  ·have Hz:=kept (Lib.encodeRuneZ_two (r:=u) (by omega) (by omega));have a1:=ayf u h0 (by omega);have o1:=dqh (u/64) (by omega) (by omega);have o2:=bwr (u%64) (by omega) (by omega);have hob:=aje w [192+u/64,128+u%64] 2 rfl (by simp;omega);simp only[ZH,Yn]at hob;go_enter Tryz.func265,Tryz.ntmps265;go_wp2
   go_ret
   exact⟨by rw[He.out,Hz.out];rfl,ball w _⟩
  ·by_cases h3:u<65536
   ·have Hz:=kept (Lib.encodeRuneZ_three (r:=u) (by omega));have a1:=ayf u h0 (by omega);have a2:=ayf (u/64) (by omega) (by omega);have o1:=dqs (u/4096) (by omega) (by omega);have o2:=bwr (u/64%64) (by omega) (by omega);have o3:=bwr (u%64) (by omega) (by omega);have hob:=aje w [224+u/4096,128+u/64%64,128+u%64] 3 rfl (by simp;omega);simp only[ZH,Yn]at hob;go_enter Tryz.func265,Tryz.ntmps265;go_wp2
    go_ret
    exact⟨by rw[He.out,Hz.out];rfl,ball w _⟩
   ·have Hz:=kept (Lib.encodeRuneZ_four (r:=u) (by omega) (by omega));have a1:=ayf u h0 (by omega);have a2:=ayf (u/64) (by omega) (by omega);have a3:=ayf (u/4096) (by omega) (by omega);have o1:=dqf (u/262144) (by omega) (by omega);have o2:=bwr (u/4096%64) (by omega) (by omega);have o3:=bwr (u/64%64) (by omega) (by omega);have o4:=bwr (u%64) (by omega) (by omega);have hob:=aje w [240+u/262144,128+u/4096%64,128+u/64%64,128+u%64] 4 rfl (by simp;omega);simp only[ZH,Yn]at hob;go_enter Tryz.func265,Tryz.ntmps265;go_wp2
    go_ret
    exact⟨by rw[He.out,Hz.out];rfl,ball w _⟩
theorem getD_drop(s:ByteArray)(i j:Nat)(h:i+j<s.size):(s.data.toList.drop i).getD j 0=s[i+j]:=by
 simp[List.getD,h];rfl
theorem cz3(C:Nat):Utf8.valid (C:Int)=false↔(1114111<(C:Int)∨(55296≤(C:Int)∧(C:Int)≤57343)):=by
 unfold Utf8.valid;rw[←Zar];simp only[ZS,Zc,Zq];omega
theorem bkz(s:ByteArray)(i k c n:Nat)(e0 u z C:Int)(hp:Str.point (s.data.toList.drop i)=(c,n,e0))(hn:Str.hexN 6 (s.data.toList.drop i)=k)(hk:i+k<s.size)
  (hu:(s[i+k].toNat:Int)=u) (hz:(s[i].toNat:Int)=z) (hC:((Str.hexC k (s.data.toList.drop i):Nat):Int)=C) :
  ((u≠125∨k=0∨(1<k∧z=48)∨1114111<C∨(55296≤C∧C≤57343))→c=0∧n=0∧e0=2) ∧
  (¬(u≠125∨k=0∨(1<k∧z=48)∨1114111<C∨(55296≤C∧C≤57343))→(c:Int)=C∧n=k+1∧e0=0):=by
 have hgk:=getD_drop s i k hk;have hg0:=getD_drop s i 0 (by omega);simp only[Yh]at hg0;have hl:k<(s.data.toList.drop i).length:=by simp;omega
 have e1:((s.data.toList.drop i).getD k 0≠125∨k=0∨(1<k∧(s.data.toList.drop i).getD 0 0=48)∨Utf8.valid (Str.hexC k (s.data.toList.drop i))=false)↔(u≠125∨k=0∨(1<k∧z=48)∨1114111<C∨(55296≤C∧C≤57343)):=by
  rw[hgk,hg0,cz3,hC];have a1:s[i+k]≠125↔u≠125:=by
   rw[←hu,ne_eq,ne_eq,←Z9];show¬s[i+k].toNat=125↔_
   omega
  have a2:s[i]=48↔z=48:=by
   rw[←hz,←Z9];show s[i].toNat=48↔_
   omega
  rw[a1,a2]
 refine⟨fun h=>?_,fun h=>?_⟩
 ·have:=aqq _ k hn hl (e1.2 h);rw[hp]at this;simp only[Zz]at this;exact this
 ·have:=bvz _ k hn hl (fun hh=>h (e1.1 hh));rw[hp]at this;simp only[Zz]at this;exact⟨by rw[this.1,hC],this.2⟩
theorem bxi(s:ByteArray)(i:Nat)(c n:Nat)(e0:Int)(w:World)(hs:s.size≤2000000)(hi:i≤s.size)(hp:Str.point (s.data.toList.drop i)=(c,n,e0)) :
  Calls Tryz.prog 264 #[.string s,.int .i64 i] w fun e w'=>e=.returned (.tuple #[.int .i64 c,.int .i64 (if e0=0 then i+n else 0:Nat),.int .i64 e0])∧w'=w:=by
 obtain⟨m,hm⟩:∃ m,m=if e0=0 then i+n else 0:=⟨_,rfl⟩
 rw[←hm];have Hm:=kept hm;clear hm;have HP:=kept hp;clear hp;have hl:(s.data.toList.drop i).length=s.size-i:=by simp
 have Hll:=kept hl;go_enter Tryz.func264,Tryz.ntmps264;go_wp2
 go_loop [7,8] (fun cv nv=>∃ k:Nat,k≤6∧i+k≤s.size∧nv=.int .i64 k∧cv=.int .i64 (Str.hexC k (s.data.toList.drop i))∧∀ j,j<k→Str.isHex ((s.data.toList.drop i).getD j 0)=true) (fun _ nv=>6-(intOf nv).toNat)
 case atStart=>exact⟨0,by omega,by omega,rfl,rfl,by omega⟩
 case round =>
  obtain⟨k,h6,hk,rfl,rfl,hall⟩:=hrel;have Ha:=kept hall;clear hall hl;by_cases hend:i+k=s.size
  ·have hp:=bxo (s.data.toList.drop i) (Str.hexN_end 6 k _ Ha.out (by have:=Hll.out;omega) h6 (.inr (.inl (by have:=Hll.out;omega))) |>.trans (by have:=Hll.out;omega));rw[HP.out]at hp;simp only[Zz]at hp;obtain⟨rfl,rfl,rfl⟩:=hp;have hend':(i:Int)+k=s.size:=by omega
   go_wp2;refine bodyPost_ret (v:=.tuple #[.int .i64 0,.int .i64 0,.int .i64 40]) (by simp[results,Tryz.results264,go_sem]) rfl ⟨by rw[Hm.out];rfl,rfl⟩
  ·have hlt:i+k<s.size:=by omega
   have hlt':(i:Int)+k<s.size:=by omega
   have hlti:i<s.size:=by omega
   obtain⟨u,hu⟩:∃ u:Int,(s[i+k].toNat:Int)=u:=⟨_,rfl⟩;obtain⟨z,hz⟩:∃ u:Int,(s[i].toNat:Int)=u:=⟨_,rfl⟩;obtain⟨C,hC⟩:∃ u:Int,((Str.hexC k (s.data.toList.drop i):Nat):Int)=u:=⟨_,rfl⟩;have Hx:=kept (fun hn=>bkz s i k c n e0 u z C HP.out hn hlt hu hz hC);have hC0:0≤C:=by omega
   have Hhx:=kept (fun W=>bww s[i+k] W);have Hgk:=kept (getD_drop s i k hlt);have HC:=kept hC;have Hend:=kept (show k=6∨Str.isHex s[i+k]=false→Str.hexN 6 (s.data.toList.drop i)=k from fun h=>Str.hexN_end 6 k _ Ha.out (by have:=Hll.out;omega) h6 (h.imp_right fun hh => .inr (by rw[Hgk.out];exact hh)));rw[hu]at Hhx;rw[hC];clear hend;by_cases hk6:k=6
   ·subst hk6;have Hx2:=kept (Hx.out (Hend.out (.inl rfl)));clear hC;go_wp2;all_goals (try simp only[ZC,Zu,ne_eq]at *)
    all_goals
     by_cases hq:(u≠125∨6=0∨(1<6∧z=48)∨1114111<C∨(55296≤C∧C≤57343))
     ·first
      |(exfalso;omega)
      |(obtain⟨rfl,rfl,rfl⟩:=Hx2.out.1 hq;exact bodyPost_ret (v:=.tuple #[.int .i64 0,.int .i64 0,.int .i64 2]) (by simp[results,Tryz.results264,go_sem]) rfl ⟨by rw[Hm.out];rfl,rfl⟩)
     ·first
      |(exfalso;omega)
      |(obtain⟨hc,rfl,rfl⟩:=Hx2.out.2 hq;exact bodyPost_ret (v:=.tuple #[.int .i64 C,.int .i64 (i+6+1),.int .i64 0]) (by simp[results,Tryz.results264,go_sem]) rfl ⟨by rw[Hm.out,hc];rfl,rfl⟩)
   ·have hk6':(k:Int)<6:=by omega
    by_cases hx:Str.isHex s[i+k]=true
    ·have hge:0≤Str.hexv s[i+k]:=by simpa [Str.isHex]using hx
     have hhx:=Str.hexv_le s[i+k];have Hs:=kept (Str.hexC_succ k (s.data.toList.drop i) (by have:=Hll.out;omega));have Hd:=Str.hexC_lt k (s.data.toList.drop i) (by have:=Hll.out;omega);have hC1:C<1048576:=by
      have:16^k≤16^5:=YL (by decide) (by omega);have:=HC.out;omega
     have Hxx:=kept hx;have Hhv:=kept (show(s.data.toList.drop i)[k]'(by have:=Hll.out;omega)=s[i+k] by simp;rfl);clear hx Hd hC;go_wp2_with fail;(with_reducible refine(Hhx.out _).mono ?_);rintro e w1 ⟨rfl,rfl⟩
     go_wp2_with fail;(with_reducible refine(Hhx.out _).mono ?_);rintro e w1 ⟨rfl,rfl⟩
     go_wp2
     go_round
     case rel =>
      refine⟨k+1,by omega,by omega,by go_num,?_,?_⟩
      ·rw[Hs.out,Hhv.out];have:=HC.out;congr 1;omega
      ·intro j hj;by_cases hjk:j=k
       ·subst hjk;rw[Hgk.out];exact Hxx.out
       ·exact Ha.out j (by omega)
     case measure=>simp[intOf];omega
    ·have Hx2:=kept (Hx.out (Hend.out (.inr (by simpa using hx))));have hlz:Str.hexv s[i+k]<0:=by simpa [Str.isHex]using hx
     clear hx hC;go_wp2_with fail;(with_reducible refine(Hhx.out _).mono ?_);rintro e w1 ⟨rfl,rfl⟩
     go_wp2;all_goals (try simp only[ZC,Zu,ne_eq]at *)
     all_goals
      by_cases hq:(u≠125∨k=0∨(1<k∧z=48)∨1114111<C∨(55296≤C∧C≤57343))
      ·first
       |(exfalso;omega)
       |(obtain⟨rfl,rfl,rfl⟩:=Hx2.out.1 hq;exact bodyPost_ret (v:=.tuple #[.int .i64 0,.int .i64 0,.int .i64 2]) (by simp[results,Tryz.results264,go_sem]) rfl ⟨by rw[Hm.out];rfl,rfl⟩)
      ·first
       |(exfalso;omega)
       |(obtain⟨hc,rfl,rfl⟩:=Hx2.out.2 hq;exact bodyPost_ret (v:=.tuple #[.int .i64 C,.int .i64 (i+k+1),.int .i64 0]) (by simp[results,Tryz.results264,go_sem]) rfl ⟨by rw[Hm.out,hc];rfl,rfl⟩)
def Str.at'(i:Nat)(r:List UInt8×Nat×Int):List UInt8×Nat×Int:=if r.2.2=0 then(r.1,i+r.2.1,0)else([],0,r.2.2)
def Str.esc1(l:List UInt8):List UInt8×Nat×Int:=if(Str.escp l).2.2=0 then(Str.enc (Str.escp l).1,(Str.escp l).2.1+1,0)else([],0,(Str.escp l).2.2)
def TripleEnd(r:List UInt8×Nat×Int):Ending:=.returned (.tuple #[.string ⟨r.1.toArray⟩,.int .i64 r.2.1,.int .i64 r.2.2])
theorem Str.esc1_of{l:List UInt8}{c n:Nat}{e:Int}(h:Str.escp l=(c,n,e)):Str.esc1 l=if e=0 then(Str.enc c,n+1,0)else([],0,e):=by unfold Str.esc1;rw[h]
theorem Str.at_ok(i n:Nat)(l:List UInt8):Str.at' i (l,n,0)=(l,i+n,0):=rfl
theorem Str.at_err(i:Nat)(e:Int)(h:e≠0):Str.at' i ([],0,e)=([],0,e):=if_neg h
theorem Str.point_valid(l:List UInt8)(c n:Nat)(h:Str.point l=(c,n,0)):Utf8.valid c=true:=by
 unfold Str.point at h;split at h
 ·simp at h
 ·split at h
  ·simp at h
  ·next hh =>
   obtain⟨h1,h2⟩:=Ye h;subst h1;simp only[not_or]at hh;simpa using hh.2.2.2
theorem awx(s:ByteArray)(i:Nat)(w:World)(hs:s.size≤2000000)(hi:i<s.size) :
  Calls Tryz.prog 262 #[.string s,.int .i64 i] w fun e w'=>e=TripleEnd (Str.at' i (Str.esc1 (s.data.toList.drop (i+1))))∧Below w.heap.size w w':=by
 by_cases h0:s.size≤i+1
 ·have Hp:=kept (show Str.at' i (Str.esc1 (s.data.toList.drop (i+1)))=([],0,40) by rw[Zw (by simp;omega)];rfl);have h0':(s.size:Int)≤i+1:=by omega
  go_enter Tryz.func262,Tryz.ntmps262;go_wp2;refine bodyPost_ret (v:=.tuple #[.string ⟨#[]⟩,.int .i64 0,.int .i64 40]) (by simp[results,Tryz.results262,go_sem]) rfl ⟨by rw[Hp.out];rfl,Below.refl _ _⟩
 ·have hlt:i+1<s.size:=by omega
  have hlt':(i:Int)+1<s.size:=by omega
  have hd:s.data.toList.drop (i+1)=s[i+1]::s.data.toList.drop (i+2):=drop_cons s (i+1) hlt;have hex:s.extract (i+1) (i+2)=⟨#[s[i+1]]⟩:=bjb s (i+1) hlt;go_enter Tryz.func262,Tryz.ntmps262;clear h0;by_cases h110:s[i+1]=110
  ·have Hp:=kept (show Str.at' i (Str.esc1 (s.data.toList.drop (i+1)))=([10],i+2,0) by rw[hd,h110];rfl);have hu:(s[i+1].toNat:Int)=110:=by rw[h110];rfl
   clear hd h110 hex;go_wp2;refine bodyPost_ret (v:=.tuple #[.string ⟨#[10]⟩,.int .i64 (i+2:Nat),.int .i64 0]) (by simp[results,Tryz.results262,go_sem]) rfl ⟨by rw[Hp.out];rfl,Below.refl _ _⟩
  have g110:=azp s[i+1] 110 (by decide) h110;by_cases h114:s[i+1]=114
  ·have Hp:=kept (show Str.at' i (Str.esc1 (s.data.toList.drop (i+1)))=([13],i+2,0) by rw[hd,h114];rfl);have hu:(s[i+1].toNat:Int)=114:=by rw[h114];rfl
   clear hd h110 h114 hex;go_wp2;refine bodyPost_ret (v:=.tuple #[.string ⟨#[13]⟩,.int .i64 (i+2:Nat),.int .i64 0]) (by simp[results,Tryz.results262,go_sem]) rfl ⟨by rw[Hp.out];rfl,Below.refl _ _⟩
  have g114:=azp s[i+1] 114 (by decide) h114;by_cases h116:s[i+1]=116
  ·have Hp:=kept (show Str.at' i (Str.esc1 (s.data.toList.drop (i+1)))=([9],i+2,0) by rw[hd,h116];rfl);have hu:(s[i+1].toNat:Int)=116:=by rw[h116];rfl
   clear hd h110 h114 h116 hex;go_wp2;refine bodyPost_ret (v:=.tuple #[.string ⟨#[9]⟩,.int .i64 (i+2:Nat),.int .i64 0]) (by simp[results,Tryz.results262,go_sem]) rfl ⟨by rw[Hp.out];rfl,Below.refl _ _⟩
  have g116:=azp s[i+1] 116 (by decide) h116;by_cases h34:s[i+1]=34
  ·have Hp:=kept (show Str.at' i (Str.esc1 (s.data.toList.drop (i+1)))=([34],i+2,0) by rw[hd,h34];rfl);have hu:(s[i+1].toNat:Int)=34:=by rw[h34];rfl
   rw[h34]at hex;clear hd h110 h114 h116 h34;go_wp2;refine bodyPost_ret (v:=.tuple #[.string ⟨#[34]⟩,.int .i64 (i+2:Nat),.int .i64 0]) (by simp[hex,results,Tryz.results262,go_sem]) rfl ⟨by rw[Hp.out];rfl,Below.refl _ _⟩
  have g34:=azp s[i+1] 34 (by decide) h34;by_cases h92:s[i+1]=92
  ·have Hp:=kept (show Str.at' i (Str.esc1 (s.data.toList.drop (i+1)))=([92],i+2,0) by rw[hd,h92];rfl);have hu:(s[i+1].toNat:Int)=92:=by rw[h92];rfl
   rw[h92]at hex;clear hd h110 h114 h116 h34 h92;go_wp2;refine bodyPost_ret (v:=.tuple #[.string ⟨#[92]⟩,.int .i64 (i+2:Nat),.int .i64 0]) (by simp[hex,results,Tryz.results262,go_sem]) rfl ⟨by rw[Hp.out];rfl,Below.refl _ _⟩
  have g92:=azp s[i+1] 92 (by decide) h92;by_cases h117:s[i+1]=117
  ·have He:=kept (show Str.escp (s.data.toList.drop (i+1))=_ by rw[hd,aql,if_neg h110,if_neg h114,if_neg h116,if_neg (fun h=>h.elim h34 h92),if_pos h117]);have hu:(s[i+1].toNat:Int)=117:=by rw[h117];rfl
   clear hd h117 h110 g110 h114 g114 h116 g116 h34 g34 h92 g92 hex;by_cases h1:s.size≤i+2
   ·have Hp:=kept (show Str.at' i (Str.esc1 (s.data.toList.drop (i+1)))=([],0,40) by
     rw[Str.esc1_of (show Str.escp (s.data.toList.drop (i+1))=(0,0,40) by rw[He.out,Zw (by simp;omega)])];rfl)
    have h1':(s.size:Int)≤i+2:=by omega
    go_wp2;refine bodyPost_ret (v:=.tuple #[.string ⟨#[]⟩,.int .i64 0,.int .i64 40]) (by simp[results,Tryz.results262,go_sem]) rfl ⟨by rw[Hp.out];rfl,Below.refl _ _⟩
   ·have hlt1:i+2<s.size:=by omega
    have hlt1':(i:Int)+2<s.size:=by omega
    have hd1:s.data.toList.drop (i+2)=s[i+2]::s.data.toList.drop (i+3):=drop_cons s (i+2) hlt1;by_cases h123:s[i+2]=123
    ·obtain⟨⟨q1,q2,q3⟩,hq⟩:=Ex (Str.point (s.data.toList.drop (i+3)));have he:Str.escp (s.data.toList.drop (i+1))=(q1,q2+2,q3):=by rw[He.out,hd1];simp only;rw[if_pos h123,hq]
     have hv:(s[i+2].toNat:Int)=123:=by rw[h123];rfl
     have Hx:=kept (fun W=>bxi s (i+3) q1 q2 q3 W hs (by omega) hq);rw[show((i+3:Nat):Int)=(i:Int)+3 by omega]at Hx;have hle:=bv9 (s.data.toList.drop (i+3));rw[hq]at hle;have h1:=Str.esc1_of he;by_cases hq3:q3=0
     ·subst hq3;have Hval:=kept (Str.point_valid _ _ _ hq);have Hp:=kept (show Str.at' i (Str.esc1 (s.data.toList.drop (i+1)))=(Str.enc q1,i+3+q2,0) by rw[h1,if_pos rfl,Str.at_ok];congr 2;omega);have Hen:=kept (fun W=>bqc q1 W Hval.out);rw[if_pos rfl]at Hx;clear hd1 h123 h1 hq hle he;go_wp2_with fail;(with_reducible refine(Hx.out _).mono ?_);rintro e w1 ⟨rfl,rfl⟩
      go_wp2_with fail;(with_reducible refine(Hen.out _).mono ?_);rintro e w2 ⟨rfl,b2⟩
      have B2:=kept b2;clear b2;go_wp2;refine bodyPost_ret (v:=.tuple #[.string ⟨(Str.enc q1).toArray⟩,.int .i64 (i+3+q2:Nat),.int .i64 0]) (by simp[results,Tryz.results262,go_sem]) rfl ⟨by rw[Hp.out];rfl,B2.out⟩
     ·have Hp:=kept (show Str.at' i (Str.esc1 (s.data.toList.drop (i+1)))=([],0,q3) by rw[h1,if_neg hq3,Str.at_err _ _ hq3]);rw[if_neg hq3]at Hx;have he1:(q3==0)=false:=by simpa using hq3
      have he2:(q3 !=0)=true:=by simpa using hq3
      clear hd1 h123 h1 hq hle he;go_wp2_with fail;(with_reducible refine(Hx.out _).mono ?_);rintro e w1 ⟨rfl,rfl⟩
      go_wp2;refine bodyPost_ret (v:=.tuple #[.string ⟨#[]⟩,.int .i64 0,.int .i64 q3]) (by simp[results,Tryz.results262,go_sem]) rfl ⟨by rw[Hp.out];rfl,Below.refl _ _⟩
    ·have Hp:=kept (show Str.at' i (Str.esc1 (s.data.toList.drop (i+1)))=([],0,2) by
      rw[Str.esc1_of (show Str.escp (s.data.toList.drop (i+1))=(0,0,2) by rw[He.out,hd1];exact if_neg h123)];rfl)
     have hv1:=azp s[i+2] 123 (by decide) h123;have hv2:((s[i+2].toNat:Int)!=123)=true:=by simpa using hv1
     clear hd1 h123 h1;go_wp2;refine bodyPost_ret (v:=.tuple #[.string ⟨#[]⟩,.int .i64 0,.int .i64 2]) (by simp[results,Tryz.results262,go_sem]) rfl ⟨by rw[Hp.out];rfl,Below.refl _ _⟩
  ·have Hp:=kept (show Str.at' i (Str.esc1 (s.data.toList.drop (i+1)))=([],0,2) by
    rw[Str.esc1_of (show Str.escp (s.data.toList.drop (i+1))=(0,0,2) by rw[hd,aql,if_neg h110,if_neg h114,if_neg h116,if_neg (fun h=>h.elim h34 h92),if_neg h117])];rfl)
   have g117:=azp s[i+1] 117 (by decide) h117;clear hd h117 h110 h114 h116 h34 h92 hex;go_wp2;refine bodyPost_ret (v:=.tuple #[.string ⟨#[]⟩,.int .i64 0,.int .i64 2]) (by simp[results,Tryz.results262,go_sem]) rfl ⟨by rw[Hp.out];rfl,Below.refl _ _⟩
theorem Str.one_of_esc(l:List UInt8)(h:l.getD 0 0=92):Str.one l=Str.esc1 (l.drop 1):=by
 unfold Str.one Str.esc1;rw[if_pos h];by_cases hh:(Str.escp (l.drop 1)).2.2=0
 ·rw[if_neg (by simpa using hh),if_pos hh]
 ·rw[if_pos (by simpa using hh),if_neg hh]
theorem bwz(s:ByteArray)(i:Nat)(w:World)(hs:s.size≤2000000)(hi:i<s.size) :
  Calls Tryz.prog 259 #[.string s,.int .i64 i] w fun e w'=>e=TripleEnd (Str.at' i (Str.one (s.data.toList.drop i)))∧Below w.heap.size w w':=by
 have hg:(s.data.toList.drop i).getD 0 0=s[i]:=by rw[drop_cons s i hi];rfl
 by_cases h92:s[i]=92
 ·have h1:=Str.one_of_esc (s.data.toList.drop i) (by rw[hg,h92]);rw[YV]at h1;rw[h1];obtain⟨q,hq⟩:=Ex (Str.at' i (Str.esc1 (s.data.toList.drop (i+1))));have Hx:=kept (fun W=>awx s i W hs hi);rw[hq]at Hx ⊢;obtain⟨q1,q2,q3⟩:=q;have hu:(s[i].toNat:Int)=92:=by rw[h92];rfl
  clear h1 hq hg h92;go_enter Tryz.func259,Tryz.ntmps259;go_wp2_with fail;(with_reducible refine(Hx.out _).mono ?_);rintro e w1 ⟨rfl,b1⟩
  have B1:=kept b1;clear b1;unfold TripleEnd;go_wp2;refine bodyPost_ret (v:=.tuple #[.string ⟨q1.toArray⟩,.int .i64 q2,.int .i64 q3]) (by simp[results,Tryz.results259,go_sem]) rfl ⟨rfl,B1.out⟩
 ·have g92:=azp s[i] 92 (by decide) h92;have hne:(s.data.toList.drop i)≠[]:=by rw[drop_cons s i hi];simp
  have hwd:=Str.dec_width s i hi;rcases Str.refDec_cases s i hi with⟨hb,he⟩|⟨hb,he⟩
  ·have Hp:=kept (show Str.at' i (Str.one (s.data.toList.drop i))=([],0,2) by
    unfold Str.one
    rw[if_neg (by rw[hg];exact h92),if_pos (.inl (by rw[Str.decL];exact hb))];rfl)
   have He:=kept he;clear hb he hg h92 hne hwd;go_enter Tryz.func259,Tryz.ntmps259;go_wp2_with fail;(with_reducible refine(aqx _ _ 0 0 _ (by omega) He.out).mono ?_);rintro e w1 ⟨rfl,b1⟩
   have B1:=kept b1;clear b1;go_wp2;refine bodyPost_ret (v:=.tuple #[.string ⟨#[]⟩,.int .i64 0,.int .i64 2]) (by simp[results,Tryz.results259,go_sem]) rfl ⟨by rw[Hp.out];rfl,B1.out⟩
  ·obtain⟨⟨c,n⟩,hd⟩:=Ex (Utf8.decode s i);rw[hd]at he hb hwd;have He:=kept he;have hw1:1≤n:=hwd.1;have hw2:i+n≤s.size:=hwd.2;have hw2':(i:Int)+n≤s.size:=by omega
   have hnz1:((n:Int)==0)=false:=by simp;omega
   have hnz2:¬(n:Int)=0:=by omega
   obtain⟨u,hu⟩:∃ u:Int,(s[i].toNat:Int)=u:=⟨_,rfl⟩;have hone:∀ hh:¬(u<32∨u=127),Str.at' i (Str.one (s.data.toList.drop i))=((s.data.toList.drop i).take n,i+n,0):=by
    intro hh;unfold Str.one;rw[if_neg (by rw[hg];exact h92),if_neg ?_,Str.decL,hd]
    ·rfl
    ·rw[Str.decL,hd,hg];rintro(h|h|h)
     ·exact hb h
     ·rw[YD]at h;have:s[i].toNat<32:=h;omega
     ·rw[h]at hu;exact hh (.inr hu.symm)
   have hbad:(u<32∨u=127)→Str.at' i (Str.one (s.data.toList.drop i))=([],0,2):=by
    intro hh;unfold Str.one;rw[if_neg (by rw[hg];exact h92),if_pos ?_]
    ·rfl
    ·rw[hg];right
     rcases hh with h|h
     ·left;rw[YD];show s[i].toNat<32;omega
     ·right;rw[←Z9];show s[i].toNat=127;omega
   have hxt:s.extract i (i+n)=⟨((s.data.toList.drop i).take n).toArray⟩:=by
    refine bkr ?_;simp only[ByteArray.data_extract,Array.toList_extract,List.extract_eq_take_drop];congr 1;omega
   have Hone:=kept hone;have Hbad:=kept hbad;clear hb he hg h92 hne hwd hone hbad hd hw2;rw[hu]at g92;by_cases h32:u<32
   ·have Hp:=kept (Hbad.out (.inl h32));clear hxt;go_enter Tryz.func259,Tryz.ntmps259;go_wp2_with fail;(with_reducible refine(aqx _ _ c n _ (by omega) He.out).mono ?_);rintro e w1 ⟨rfl,b1⟩
    have B1:=kept b1;clear b1;go_wp2;refine bodyPost_ret (v:=.tuple #[.string ⟨#[]⟩,.int .i64 0,.int .i64 2]) (by simp[results,Tryz.results259,go_sem]) rfl ⟨by rw[Hp.out];rfl,B1.out⟩
   ·by_cases h127:u=127
    ·have Hp:=kept (Hbad.out (.inr h127));have h127a:(u==127)=true:=by simpa using h127
     clear hxt h127;go_enter Tryz.func259,Tryz.ntmps259;go_wp2_with fail;(with_reducible refine(aqx _ _ c n _ (by omega) He.out).mono ?_);rintro e w1 ⟨rfl,b1⟩
     have B1:=kept b1;clear b1;go_wp2;refine bodyPost_ret (v:=.tuple #[.string ⟨#[]⟩,.int .i64 0,.int .i64 2]) (by simp[results,Tryz.results259,go_sem]) rfl ⟨by rw[Hp.out];rfl,B1.out⟩
    ·have Hp:=kept (Hone.out (by omega));have h127a:(u==127)=false:=by simpa using h127
     generalize (s.data.toList.drop i).take n=t at *;go_enter Tryz.func259,Tryz.ntmps259;go_wp2_with fail;(with_reducible refine(aqx _ _ c n _ (by omega) He.out).mono ?_);rintro e w1 ⟨rfl,b1⟩
     have B1:=kept b1;clear b1;go_wp2;refine bodyPost_ret (v:=.tuple #[.string ⟨t.toArray⟩,.int .i64 (i+n:Nat),.int .i64 0]) (by simp[hxt,results,Tryz.results259,go_sem]) rfl ⟨by rw[Hp.out];rfl,B1.out⟩
theorem Str.one_len(s:ByteArray)(k:Nat)(hk:k<s.size)(b:List UInt8)(n:Nat)(h:Str.one (s.data.toList.drop k)=(b,n,(0:Int))):1≤n∧k+n≤s.size∧b.length≤4:=by
 have hlen:(s.data.toList.drop k).length=s.size-k:=by simp
 unfold Str.one at h;split at h
 ·split at h
  ·next hh =>
   exfalso
   have:=congrArg (fun r=>r.2.2) h;simp only at this;exact hh this
  ·next hh =>
   have hl:=Str.escp_len ((s.data.toList.drop k).drop 1) (by simpa using hh);obtain⟨rfl,h2⟩:=Ye h;obtain⟨rfl,_⟩:=Ye h2;have:=(Str.enc_length (Str.escp ((s.data.toList.drop k).drop 1)).1).2;rw[ZB,hlen]at hl;exact⟨by omega,by omega,this⟩
 ·split at h
  ·simp at h
  ·next hh =>
   have hwd:=Str.dec_width s k hk;rw[←Str.decL]at hwd;have hd4:(Lib.decodeL (s.data.toList.drop k)).2≤4:=by
    rw[Lib.decodeL_N];rcases Lib.decodeN_shape (s.data.toList.drop k).length ((s.data.toList.drop k).getD 0 0).toNat ((s.data.toList.drop k).getD 1 0).toNat ((s.data.toList.drop k).getD 2 0).toNat ((s.data.toList.drop k).getD 3 0).toNat with⟨c,e⟩|⟨c1,c2,c3,cv,e⟩|⟨c1,c2,c3,c4,cv,cs,e⟩|⟨c1,c2,c3,c4,c5,cv,cw,e⟩|e;all_goals rw[e];simp
   obtain⟨rfl,h2⟩:=Ye h;obtain⟨rfl,_⟩:=Ye h2;refine⟨hwd.1,hwd.2,?_⟩;rw[ZT];omega
theorem bxu(l:List UInt8)(n:Nat)(e:Int):TripleEnd (l,n,e)=.returned (.tuple #[.string ⟨l.toArray⟩,.int .i64 n,.int .i64 e]):=rfl
theorem awv(s:ByteArray)(w:World)(hs:s.size≤2000000) :
  Calls Tryz.prog 253 #[.string s] w fun e w'=>e=TripleEnd (Str.unquote s.data.toList)∧Below w.heap.size w w':=by
 obtain⟨U,hU⟩:=Ex (Str.unquote s.data.toList);rw[hU];by_cases h0:s.size=0
 ·have hs:s=⟨#[]⟩:=by
   apply ByteArray.ext;exact Array.eq_empty_of_size_eq_zero h0
  subst hs;have HU:=kept (show(([],0,40):List UInt8×Nat×Int)=U from hU);clear hU;go_enter Tryz.func253,Tryz.ntmps253;go_wp2;refine bodyPost_ret (v:=.tuple #[.string ⟨#[]⟩,.int .i64 0,.int .i64 40]) (by simp[results,Tryz.results253,go_sem]) rfl ⟨by rw[←HU.out];rfl,Below.refl _ _⟩
 ·have hlt:0<s.size:=by omega
  have hd:s.data.toList=s[0]::s.data.toList.drop 1:=by have:=drop_cons s 0 hlt;simpa using this
  have hne:s.data.toList≠[]:=by rw[hd];simp
  have hg0:s.data.toList.getD 0 0=s[0]:=by rw[hd];rfl
  have h00:((s.size:Int)==0)=false:=by rw[Zu];omega
  unfold Str.unquote at hU;rw[if_neg hne,hg0]at hU;clear h0 hd hne hg0;by_cases h34:s[0]=34
  ·rw[if_neg (by simpa using h34)]at hU;have HU:=kept hU;have hu:(s[0].toNat:Int)=34:=by rw[h34];rfl
   clear hU h34;go_enter Tryz.func253,Tryz.ntmps253;go_wp2
   go_loopw [5,6] (fun ov av wr=>Below w.heap.size w wr∧∃(k f:Nat) (acc:List UInt8),1≤k∧k≤s.size∧av=.int .i64 k∧ov=.string ⟨acc.toArray⟩∧s.size-k<f∧acc.length≤4*k∧Str.unq f (s.data.toList.drop k) acc k=U) (fun _ av _=>s.size-(intOf av).toNat)
   case atStart=>exact⟨Below.refl _ _,1,s.data.toList.length,[],by omega,by omega,rfl,rfl,by simp;omega,by simp,HU.out⟩
   case round =>
    obtain⟨hbel,k,f,acc,hk1,hk,rfl,rfl,hf,hacc,hun⟩:=hrel;have Hl:=kept hbel;clear hbel;obtain⟨f,rfl⟩:∃ f',f=f'+1:=⟨f-1,by omega⟩;by_cases hend:k=s.size
    ·subst hend;rw[Zw (by simp),Str.unq_nil]at hun;subst hun;clear hacc hf;go_wp2;refine bodyPost_ret (v:=.tuple #[.string ⟨#[]⟩,.int .i64 0,.int .i64 40]) (by simp[results,Tryz.results253,go_sem]) rfl ⟨rfl,Hl.out⟩
    ·have hkl:k<s.size:=by omega
     have hkl':(k:Int)<s.size:=by omega
     have hne:s.data.toList.drop k≠[]:=by rw[drop_cons s k hkl];simp
     have hgk:(s.data.toList.drop k).getD 0 0=s[k]:=by rw[drop_cons s k hkl];rfl
     by_cases h34k:s[k]=34
     ·rw[Str.unq_quote _ _ _ _ hne (by rw[hgk];exact h34k)]at hun;have hv:(s[k].toNat:Int)=34:=by rw[h34k];rfl
      have hsz:=size_mk acc;clear hne hgk h34k hf;by_cases hbig:4096<acc.length
      ·rw[if_pos hbig]at hun;subst hun;have hbig':(4096:Int)<acc.length:=by omega
       clear hbig hacc hend;go_wp2;refine bodyPost_ret (v:=.tuple #[.string ⟨#[]⟩,.int .i64 0,.int .i64 3]) (by simp[results,Tryz.results253,go_sem]) rfl ⟨rfl,Hl.out⟩
      ·rw[if_neg hbig]at hun;subst hun;have hbig':¬(4096:Int)<acc.length:=by omega
       clear hbig hacc hend;go_wp2;refine bodyPost_ret (v:=.tuple #[.string ⟨acc.toArray⟩,.int .i64 (k+1:Nat),.int .i64 0]) (by simp[results,Tryz.results253,go_sem]) rfl ⟨rfl,Hl.out⟩
     ·have hvk1:=azp s[k] 34 (by decide) h34k;rw[←hgk]at h34k;obtain⟨⟨b,n,e0⟩,ho⟩:=Ex (Str.one (s.data.toList.drop k));have Hx:=kept (fun W=>bwz s k W hs hkl);by_cases he0:e0=0
      ·subst he0;have hln:=Str.one_len s k hkl b n ho;rw[Str.unq_step _ _ _ _ _ _ hne h34k ho,YV]at hun;rw[ho,Str.at_ok,bxu]at Hx;have Hun:=kept hun;obtain⟨r,hr⟩:=Ex (acc++b);have hcat:=fun W=>axz (P:=Tryz.prog) W (a:=⟨acc.toArray⟩) (b:=⟨b.toArray⟩) (l:=acc) (m:=b) rfl rfl hr (by rw[←hr,Za];omega)
       have Hr:=kept hr;have hln1:1≤n:=hln.1;have hln2:k+n≤s.size:=hln.2.1;have Hln3:=kept (show r.length≤4*(k+n) by rw[←hr,Za];omega);clear hne hgk h34k hun ho hr hln hacc;go_wp2_with fail;refine(Hx.out _).mono ?_;rintro e w1 ⟨rfl,b1⟩;have B1:=kept (bthen Hl.out b1);clear b1;go_wp2
       go_roundw
       case rel=>exact⟨B1.out,k+n,f,r,by omega,by omega,by go_num,rfl,by omega,Hln3.out,by rw[←Hr.out];exact Hun.out⟩
       case measure=>simp[intOf];omega
      ·rw[Str.unq_err _ _ _ _ _ _ _ hne h34k ho he0]at hun;subst hun;have hob:b=[]∧n=0:=by
        have h:=ho;unfold Str.one at h;split at h
        ·split at h
         ·obtain⟨rfl,h2⟩:=Ye h;obtain⟨rfl,_⟩:=Ye h2;exact⟨rfl,rfl⟩
         ·exact absurd (Ye (Ye h).2).2.symm he0
        ·split at h
         ·obtain⟨rfl,h2⟩:=Ye h;obtain⟨rfl,_⟩:=Ye h2;exact⟨rfl,rfl⟩
         ·exact absurd (Ye (Ye h).2).2.symm he0
       obtain⟨rfl,rfl⟩:=hob;rw[ho,Str.at_err _ _ he0,bxu]at Hx;have he1:(e0==0)=false:=by simpa using he0
       have he2:(e0 !=0)=true:=by simpa using he0
       clear hne hgk h34k hf hacc ho;go_wp2_with fail;refine(Hx.out _).mono ?_;rintro e w1 ⟨rfl,b1⟩;have B1:=kept (bthen Hl.out b1);clear b1;go_wp2;refine bodyPost_ret (v:=.tuple #[.string ⟨#[]⟩,.int .i64 0,.int .i64 e0]) (by simp[results,Tryz.results253,go_sem]) rfl ⟨rfl,B1.out⟩
  ·rw[if_pos h34]at hU;have HU:=kept hU;have g34:=azp s[0] 34 (by decide) h34;have g34':((s[0].toNat:Int)!=34)=true:=by simpa using g34
   clear h34 hU;go_enter Tryz.func253,Tryz.ntmps253;go_wp2;refine bodyPost_ret (v:=.tuple #[.string ⟨#[]⟩,.int .i64 0,.int .i64 2]) (by simp[results,Tryz.results253,go_sem]) rfl ⟨by rw[←HU.out];rfl,Below.refl _ _⟩
end Go.Proofs.YtdgcbckcameggadGreatDoor
