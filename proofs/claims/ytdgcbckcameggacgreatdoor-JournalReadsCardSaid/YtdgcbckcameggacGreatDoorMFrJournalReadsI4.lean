/- Part of what the proof needs. -/
import Derived.Test.YtdgcbckcameggacGreatDoorMFrJournalReadsI3
import Derived.Test.YtdgcbckcameggacGreatDoorRows
set_option maxHeartbeats 4000000
set_option maxRecDepth 100000
set_option linter.all false
namespace Go.Proofs.YtdgcbckcameggacGreatDoor
section
open Go.RowKit
namespace AX
def longIdx:Nat→List (List UInt8)→Int
 |_,[]=>-1
 |i,s::l=>if decide ((s.length:Int)>4096)=true then i else longIdx (i+1) l
theorem ayz:∀(l:List (List UInt8)) (i:Nat),decide (longIdx i l≥0)=!Jr.shortB l
 |[],i=>rfl
 |s::l,i=>by
  unfold longIdx Jr.shortB;rw[ZC];by_cases h:(s.length:Int)>4096
  ·rw[if_pos (by simpa using h),show decide ((s.length:Int)≤4096)=false by simpa using h];simp
  ·rw[if_neg (by simpa using h),show decide ((s.length:Int)≤4096)=true by simpa using h,Zx];exact ayz l (i+1)
theorem cqt(s:List UInt8)(h:Hp):AT 94 [.str s] h (.bool (decide ((s.length:Int)>4096))):=by
 refine pcall ?_ rfl (by simp[A.pure,A.data]) h;refine fo ?_;refine azc ti ti ?_;exact Fn rfl
theorem cx2(ks:List (List UInt8))(hn:ks.length≤1000000000)(h:Hp):AT 133 [.sl 1 .no (strsA ks),.fn 94 []] h (.int .i64 (longIdx 0 ks)):=by
 refine pcall ?_ rfl (by simp[A.pure,A.data]) h;refine fo ?_;obtain⟨D,hD⟩:=Ex (longIdx 0 ks);rw[hD];have li:(strsA ks).length=ks.length:=aze ks;refine azb li ?_;refine azf (fun mm ts h=>∃(j:Nat),mm=ks.length-j∧j≤ks.length∧h=⟨[],[]⟩∧longIdx j (ks.drop j)=D∧(ts 0=.sl 1 .no (strsA ks)∧ts 1=.fn 94 []∧ts 7=.int .i64 (ks.length:Nat)∧ts 8=.int .i64 (j:Nat))) ks.length ?_ ?_
 ·exact⟨0,by omega,by omega,rfl,hD,by(exact azq li)⟩
 rintro mm ts h ⟨j,rfl,hjc,rfl,hit,ht⟩;by_cases hj:j<ks.length
 ·have hf:=ajn (fun s:List UInt8=>[A.str s]) ks j hj (by omega);have hf':(strsA ks).length=ks.length∧(j:Int)<(ks.length:Int)∧(0:Int)≤(j:Int)∧(strsA ks).getD j []=[.str ks[j]]∧IntKind.i64.wrap ((j:Int)+1)=((j+1:Nat):Int):=hf;clear hf;rw[Zr hj]at hit;unfold longIdx at hit;obtain⟨x,hx⟩:=Ex (ks[j]);rw[hx]at hf' hit;have cf:=cqt x;obtain⟨K,hK⟩:=Ex (decide ((x.length:Int)>4096));rw[hK]at cf hit;refine azb (ai ht hf') ?_;refine use (cf _) ?_;cases K
  ·rw[if_neg (by simp)]at hit;refine azb (ai ht hf') ?_;exact⟨ks.length-(j+1),by omega,j+1,rfl,by omega,rfl,hit,by(exact azq (ai ht hf'))⟩
  ·rw[if_pos rfl]at hit;subst hit;refine azb (ai ht hf') ?_;exact Fn rfl
 ·have hlt:¬((j:Int)<(ks.length:Int)):=by omega
  rw[Y1 (by omega)]at hit;unfold longIdx at hit;subst hit;refine azb (ai ht (ai hlt li)) ?_;exact Fn rfl
theorem ako(ks:List (List UInt8))(hn:ks.length≤1000000000)(h:Hp):AT 51 [.sl 1 .no (strsA ks)] h (.bool (Jr.shortB ks)):=by
 have ci:=cx2 ks hn;have hge:=ayz ks 0;obtain⟨D,hD⟩:=Ex (longIdx 0 ks);rw[hD]at ci hge;have cc:∀h,AT 93 [.sl 1 .no (strsA ks),.fn 94 []] h (.bool (!Jr.shortB ks)):=fun h=>by
  rw[←hge];refine pcall ?_ rfl (by simp[A.pure,A.data]) h;refine fo ?_;refine azc ti (ai ci ti) ?_;exact Fn rfl
 obtain⟨B,hB⟩:=Ex (Jr.shortB ks);rw[hB]at cc⊢;refine pcall ?_ rfl (by simp[A.pure,A.data]) h;refine fo ?_;refine azc ti (ai cc ti) ?_;exact⟨_,le_refl _,by cases B<;>rfl⟩
theorem cw5(x:Sf.Inst)(h:Hp):AT 46 [.agg (Sf.Inst.cells x)] h (.bool (Jr.noneB x)):=by
 obtain⟨a,d,i,t,⟨k,n,s,is,ks⟩,v,tn,fi,ds⟩:=x;have l1:=V.cellss_length is;have l2:=aze ks;have l3:=aze ds;unfold Sf.Inst.cells Jr.noneB Jr.zeroV;dsimp only;refine pcall ?_ rfl (by simp[A.pure,A.data]) h;refine fo ?_;refine azc (ai l1 (ai l2 l3)) ti ?_;exact Fn rfl
theorem cx1(s:Sf.St)(h:Hp):AT 45 [s.A] h (.bool (Jr.emptyB s)):=by
 obtain⟨lin,ser,ins,ps,os⟩:=s;have l1:(ins.map Sf.Inst.cells).length=ins.length:=Zj _;have l2:(ps.map Sf.Pend.cells).length=ps.length:=Zj _;have l3:(os.map Sf.Outp.cells).length=os.length:=Zj _;unfold Sf.St.A Jr.emptyB;dsimp only;refine pcall ?_ rfl (by simp[A.pure,A.data]) h;refine fo ?_;refine azc (ai l1 (ai l2 l3)) ti ?_;exact Fn rfl
theorem cj8(n:Int)(h:Hp):AT 47 [.int .i64 n] h (.bool (Jr.makesB n)):=by
 refine pcall ?_ rfl (by simp[A.pure,A.data]) h;refine fo ?_;unfold Jr.makesB;refine azc ti ti ?_;exact Fn rfl
theorem cwn(x:Sf.Inst)(hl:x.attrs.lens)(hd:x.deps.length≤1000000000)(h:Hp):AT 48 [.agg (Sf.Inst.cells x)] h (.bool (Jr.instB x)):=by
 obtain⟨a,d,i,t,⟨k,n,s,is,ks⟩,v,tn,fi,ds⟩:=x;have l3:=aze ds;have c1:=ako [a,d,i,t] (by simp);have c2:=ako ds hd;have c3:=akg (.mk k n s is ks) hl;simp only[V.A,V.cells]at c3;unfold Sf.Inst.cells Jr.instB;dsimp only;obtain⟨b1,h1⟩:=Ex (Jr.shortB [a,d,i,t]);obtain⟨b2,h2⟩:=Ex (Jr.shortB ds);obtain⟨Z,hZ⟩:=Ex (Val.checkZ (.mk k n s is ks));rw[h1]at c1;rw[h2]at c2;rw[hZ]at c3;rw[h1,h2,hZ];have c1':∀h,AT 51 [.sl 1 .no [[.str a],[.str d],[.str i],[.str t]]] h (.bool b1):=c1;refine pcall ?_ rfl (by simp[A.pure,A.data]) h;refine fo ?_;refine azc l3 (ai c1' (ai c2 (ai c3 ti))) ?_;exact Fn rfl
theorem cw1(r:Jr)(h:Hp):AT 49 [.agg r.cells] h (.bool r.bareB):=by
 obtain⟨kd,⟨lin,ser,ins,ps,os⟩,st,op,ad,dp,ty,tk,er,⟨a,d,i,t,⟨k,n,s,is,ks⟩,v,tn,fi,ds⟩⟩:=r;unfold Jr.bareB;simp only[Jr.cells,Sf.Inst.cells,Zo,Zk];refine pcall ?_ rfl (by simp[A.pure,A.data]) h;refine fo ?_;refine azc ti ti ?_;exact Fn rfl
theorem ck0(r:Jr)(h:Hp):AT 50 [.agg r.cells] h (.bool r.stepB):=by
 obtain⟨kd,⟨lin,ser,ins,ps,os⟩,st,op,ad,dp,ty,tk,er,⟨a,d,i,t,⟨k,n,s,is,ks⟩,v,tn,fi,ds⟩⟩:=r;unfold Jr.stepB;simp only[Jr.cells,Sf.Inst.cells,Zo,Zk];have c1:=ako [ad,dp,ty] (by simp);obtain⟨b1,h1⟩:=Ex (Jr.shortB [ad,dp,ty]);rw[h1]at c1⊢;have c1':∀h,AT 51 [.sl 1 .no [[.str ad],[.str dp],[.str ty]]] h (.bool b1):=c1;refine pcall ?_ rfl (by simp[A.pure,A.data]) h;refine fo ?_;refine azc ti (ai c1' ti) ?_;exact Fn rfl
theorem cjo(r:Jr)(hl:r.after.attrs.lens)(hd:r.after.deps.length≤1000000000)(h:Hp):AT 18 [.agg r.cells] h (.bool r.validB):=by
 have ce:=cx1 r.base;have cn:=cw5 r.after;have cm:=cj8 r.op;have ci:=cwn r.after hl hd;have cb:=cw1 r;have cs:=ck0 r;have ct:=ako [r.tok] (by simp);have hbad:Jr.badB r=(r.kind !=1&&!Jr.emptyB r.base||r.kind !=2&&r.tok != []||r.kind !=4&&r.err !=0):=rfl;have haft:Jr.afterB r=(Jr.noneB r.after||Jr.makesB r.op&&Jr.instB r.after):=rfl;unfold Jr.validB;obtain⟨bad,hbd⟩:=Ex (Jr.badB r);obtain⟨aft,haf⟩:=Ex (Jr.afterB r);obtain⟨e,he⟩:=Ex (Jr.emptyB r.base);obtain⟨n,hn⟩:=Ex (Jr.noneB r.after);obtain⟨m,hm⟩:=Ex (Jr.makesB r.op);obtain⟨i,hi⟩:=Ex (Jr.instB r.after);obtain⟨b,hb⟩:=Ex (r.bareB);obtain⟨s,hs⟩:=Ex (r.stepB);obtain⟨t,ht⟩:=Ex (Jr.shortB [r.tok]);rw[hbd,he]at hbad;rw[haf,hn,hm,hi]at haft;rw[he]at ce;rw[hn]at cn;rw[hm]at cm;rw[hi]at ci;rw[hb]at cb;rw[hs]at cs;rw[ht]at ct;rw[hbd,haf,hn,hb,hs,ht];clear hbd haf he hn hm hi hb hs ht hl hd;obtain⟨kd,⟨lin,ser,ins,ps,os⟩,st,op,ad,dp,ty,tk,er,⟨a1,a2,a3,a4,⟨k,nn,ss,is,ks⟩,v,tn,fi,ds⟩⟩:=r;have ct':∀h,AT 51 [.sl 1 .no [[.str tk]]] h (.bool t):=ct;simp only[Jr.cells,Sf.Inst.cells,Zo,Zk,Sf.St.A]at *;refine pcall ?_ rfl (by simp[A.pure,A.data]) h;refine fo ?_;refine azc ti (ai ce ti) ?_;(refine AX.dqh ti ?_ ?_)
 ·intro hc;rw[hc]at hbad;subst hbad;refine azc ti ti ?_;exact Fn rfl
 intro hc;rw[hc]at hbad;subst hbad;rw[if_neg (by decide)];refine azc ti (ai cn (ai cm (ai ci ti))) ?_;by_cases q1:kd=1
 ·subst q1;rw[if_pos (.inl rfl)];refine azc ti (ai cb (ai cn ti)) ?_;exact Fn rfl
 have f1:(kd==1)=false:=by simp[q1]
 by_cases q5:kd=5
 ·subst q5;rw[if_pos (.inr rfl)];refine azc ti (ai cb (ai cn ti)) ?_;exact Fn rfl
 have f5:(kd==5)=false:=by simp[q5]
 rw[if_neg (by simp[q1,q5])];by_cases q2:kd=2
 ·subst q2;rw[if_pos rfl];refine azc ti (ai cs (ai cn (ai ct' ti))) ?_;exact Fn rfl
 have f2:(kd==2)=false:=by simp[q2]
 rw[if_neg q2];by_cases q3:kd=3
 ·subst q3;rw[if_pos rfl,haft];refine azc ti (ai cs ti) ?_;exact Fn rfl
 have f3:(kd==3)=false:=by simp[q3]
 rw[if_neg q3];by_cases q4:kd=4
 ·subst q4;rw[if_pos rfl,haft];refine azc ti (ai cs ti) ?_;exact Fn rfl
 have f4:(kd==4)=false:=by simp[q4]
 rw[if_neg q4];refine azc (ai f1 (ai f2 (ai f3 (ai f4 f5)))) ti ?_;exact Fn rfl
structure JrIn(r:Jr):Prop where
 base:Sf.StIn r.base
 lens:r.after.attrs.lens
 deps:r.after.deps.length≤1000000000
structure StepE(r:Jr):Prop where
 s0:-9223372036854775808≤r.step
 s1:r.step≤9223372036854775807
 o0:-9223372036854775808≤r.op
 o1:r.op≤9223372036854775807
theorem cy9(r:Jr):A.locL 0 [.agg r.cells]=true:=by
 obtain⟨kd,⟨lin,ser,ins,ps,os⟩,st,op,ad,dp,ty,tk,er,⟨a1,a2,a3,a4,⟨k,nn,ss,is,ks⟩,v,tn,fi,ds⟩⟩:=r;simp[A.locL,A.loc,Jr.cells,Sf.Inst.cells]
theorem cje(s:List UInt8)(r:Jr)(hr:StepE r)(hs:s.length+(Jr.stepE r).length+30≤1000000000){h:Hp}{i:Nat}(hb:h.b[i]?=some (jwB s)):
  AC 22 [.ptr i 0,.agg r.cells] h fun v h'=>v=.tup []∧h'=⟨h.b.set i (jwB (s++Jr.stepE r)),h.t⟩:=by
 refine liftJ (x:=.ptr 0 0) rfl rfl ?_ (cy9 r) hb;have e1:[r.step,r.op].flatMap Wire.num=Wire.num r.step++Wire.num r.op:=by simp
 have e2:[r.addr,r.dep,r.typ].flatMap Wire.strE=Wire.strE r.addr++Wire.strE r.dep++Wire.strE r.typ:=by simp
 have e3:s++Jr.stepE r=s++(Wire.num r.step++Wire.num r.op)++(Wire.strE r.addr++Wire.strE r.dep++Wire.strE r.typ):=by simp[Jr.stepE,Zg]
 have hlen:(Jr.stepE r).length=(Wire.num r.step++Wire.num r.op).length+(Wire.strE r.addr++Wire.strE r.dep++Wire.strE r.typ).length:=by simp only[Jr.stepE,Za];omega
 have c1:=fun B=>cvn s [r.step,r.op] (by simp only[Z8,List.not_mem_nil,or_false,forall_eq_or_imp,forall_eq];exact⟨⟨hr.s0,hr.s1⟩,hr.o0,hr.o1⟩) (by rw[e1];omega) (by simp) (h:=⟨[jwB s,B],[]⟩) (i:=0) rfl
 have c2:=fun B=>bzf (s++(Wire.num r.step++Wire.num r.op)) [r.addr,r.dep,r.typ] (by rw[e2,Za];omega) (by simp) (h:=⟨[jwB (s++(Wire.num r.step++Wire.num r.op)),B],[]⟩) (i:=0) rfl
 rw[e1]at c1;rw[e2]at c2;rw[e3];obtain⟨X,hX⟩:=Ex (s++(Wire.num r.step++Wire.num r.op));rw[hX]at c1 c2⊢;obtain⟨Y,hY⟩:=Ex (X++(Wire.strE r.addr++Wire.strE r.dep++Wire.strE r.typ));rw[hY]at c2⊢;clear hr hs e1 e2 e3 hlen hX hY;obtain⟨kd,⟨lin,ser,ins,ps,os⟩,st,op,ad,dp,ty,tk,er,⟨a1,a2,a3,a4,⟨k,nn,ss,is,ks⟩,v,tn,fi,ds⟩⟩:=r;simp only[Jr.cells,Sf.Inst.cells,Zo,Zk,ZW,Ym,Yf]at c1 c2⊢;refine fo ?_;refine azb ti ?_;refine use (c1 _) ?_;refine azb ti ?_;refine use (c2 _) ?_;refine azb ti ?_;exact⟨_,le_refl _,rfl,rfl⟩
theorem cxt(s:List UInt8)(x:Sf.Inst)(hx:Jr.InstE x)(hlen:s.length+(Sf.instE 2 x).length+50≤1000000000)(hvl:x.attrs.lens){h:Hp}{i:Nat}(hb:h.b[i]?=some (jwB s)):
  AC 23 [.ptr i 0,.agg (Sf.Inst.cells x)] h fun v h'=>v=.tup []∧h'=⟨h.b.set i (jwB (s++Sf.instE 2 x)),h.t⟩:=by
 refine liftJ (x:=.ptr 0 0) rfl rfl ?_ (by obtain⟨a1,a2,a3,a4,⟨k,nn,ss,is,ks⟩,v,tn,fi,ds⟩:=x;simp[A.locL,A.loc,Sf.Inst.cells]) hb;have hz:∃lv b,(Val.chk x.attrs lv b).1=0:=⟨1,0,hx.v⟩;have e1:[x.addr,x.dep,x.id,x.typ].flatMap Wire.strE=Wire.strE x.addr++Wire.strE x.dep++Wire.strE x.id++Wire.strE x.typ:=by simp
 have e2:[x.tainted,x.first].flatMap (fun b=>Wire.num (flagN b))=Sf.flagE x.tainted++Sf.flagE x.first:=by simp[Sf.flagE,flagN]
 have e3:s++Sf.instE 2 x=s++(Wire.strE x.addr++Wire.strE x.dep++Wire.strE x.id++Wire.strE x.typ)++Val.enc x.attrs++Wire.num x.ver++(Sf.flagE x.tainted++Sf.flagE x.first)++Wire.num x.deps.length++x.deps.flatMap Wire.strE:=by simp[Sf.instE,Sf.wordsE,Zg]
 have hL:(Sf.instE 2 x).length=(Wire.strE x.addr++Wire.strE x.dep++Wire.strE x.id++Wire.strE x.typ).length+(Val.enc x.attrs).length+(Wire.num x.ver).length+(Sf.flagE x.tainted++Sf.flagE x.first).length+(Wire.num x.deps.length).length+(x.deps.flatMap Wire.strE).length:=by simp only[Sf.instE,Sf.wordsE,Za,if_true];omega
 have hn:=hx.n;obtain⟨P1,hP1⟩:=Ex (Wire.strE x.addr++Wire.strE x.dep++Wire.strE x.id++Wire.strE x.typ);obtain⟨P2,hP2⟩:=Ex (Sf.flagE x.tainted++Sf.flagE x.first);rw[hP1]at e1 e3 hL;rw[hP2]at e2 e3 hL;have c1:=fun B=>bzf s [x.addr,x.dep,x.id,x.typ] (by rw[e1];omega) (by simp) (h:=⟨[jwB s,B],[]⟩) (i:=0) rfl
 rw[e1]at c1;obtain⟨S1,hS1⟩:=Ex (s++P1);have l1:S1.length=s.length+P1.length:=by rw[←hS1,Za]
 rw[hS1]at c1 e3;have c2:=fun h=>bqh S1 (by omega) x.attrs hz (by omega) hvl h
 obtain⟨S2,hS2⟩:=Ex (S1++Val.enc x.attrs);have l2:S2.length=S1.length+(Val.enc x.attrs).length:=by rw[←hS2,Za]
 rw[hS2]at c2 e3;have c3:=fun B=>ajk S2 x.ver (by omega) hx.v0 hx.v1 (h:=⟨[jwB S2,B],[]⟩) (i:=0) rfl
 obtain⟨S3,hS3⟩:=Ex (S2++Wire.num x.ver);have l3:S3.length=S2.length+(Wire.num x.ver).length:=by rw[←hS3,Za]
 rw[hS3]at c3 e3;have c4:=fun B=>cvb S3 [x.tainted,x.first] (by rw[e2];omega) (by simp) (h:=⟨[jwB S3,B],[]⟩) (i:=0) rfl
 rw[e2]at c4;obtain⟨S4,hS4⟩:=Ex (S3++P2);have l4:S4.length=S3.length+P2.length:=by rw[←hS4,Za]
 rw[hS4]at c4 e3;have c5:=fun B=>ajk S4 x.deps.length (by omega) (by omega) (by omega) (h:=⟨[jwB S4,B],[]⟩) (i:=0) rfl
 obtain⟨S5,hS5⟩:=Ex (S4++Wire.num x.deps.length);have l5:S5.length=S4.length+(Wire.num x.deps.length).length:=by rw[←hS5,Za]
 rw[hS5]at c5 e3;have c6:=fun B=>bzf S5 x.deps (by omega) (by omega) (h:=⟨[jwB S5,B],[]⟩) (i:=0) rfl
 obtain⟨S6,hS6⟩:=Ex (S5++x.deps.flatMap Wire.strE);rw[hS6]at c6 e3;rw[e3];have li:=aze x.deps;clear hx hlen hvl hz hb e1 e2 e3 hL hn hP1 hP2 hS1 hS2 hS3 hS4 hS5 hS6 l1 l2 l3 l4 l5;obtain⟨a1,a2,a3,a4,⟨k,nn,ss,is,ks⟩,v,tn,fi,ds⟩:=x;have hD:(ds.map fun x=>[A.str x])=strsA ds:=rfl;dsimp only at c1 c2 c3 c4 c5 c6 li;rw[hD]at c6;simp only[Sf.Inst.cells,V.A,V.cells,ZW,Ym,Yf,jwB]at c1 c2 c3 c4 c5 c6⊢;refine fo ?_;refine azb ti ?_;refine use (c1 _) ?_;refine azj ti (ai c2 ti) ?_;refine use (c3 _) ?_;refine azb ti ?_;refine use (c4 _) ?_;refine azb li ?_;refine use (c5 _) ?_;refine azb ti ?_;refine use (c6 _) ?_;refine azb ti ?_;exact⟨_,le_refl _,rfl,rfl⟩
structure JrLen(r:Jr):Prop where
 step:(Jr.stepE r).length≤100000000
 inst:(Sf.instE 2 r.after).length≤100000000
 tok:r.tok.length≤2000000
 lens:r.after.attrs.lens
theorem cqj(r:Jr)(hl:JrLen r)(hd:r.after.deps.length≤1000000000)(hck:SCheck r.base)(hok:Sf.checkZ r.base=0→Sf.StOk r.base∧(Sf.stE 2 r.base).length+20≤1000000000)(h:Hp):
  AT 8 [.agg r.cells] h (.tup [.str (Jr.enc r).1,.int .i64 (Jr.enc r).2]):=by
 have cv:=cjo r hl.lens hd;have ce:=cjs r.base hck hok;obtain⟨l1,l2,l3,l4⟩:=hl;have hfin:∀b:List UInt8,b.length≤300000000→(∀h,AT 25 [.str [],.str b] h (.str (Wire.strE b)))∧(∀h,AT 24 [.str (Wire.strE b)] h (.str (Crc.app (Wire.strE b)))):=by
  intro b hb;have hn:(Wire.num b.length).length≤10:=(Wire.encF_len 9 (Wire.zig b.length)).2;have hs:(Wire.strE b).length≤300000010:=by unfold Wire.strE;rw[Za];omega
  refine⟨fun h=>?_,fun h=>avk _ (by omega) h⟩;have:=cv5 [] b (by simp only[Zy];omega) h;rw[Zk]at this;exact this
 have nl:∀n:Int,(Wire.num n).length≤10:=fun n=>(Wire.encF_len 9 (Wire.zig n)).2
 have sl:∀s:List UInt8,(Wire.strE s).length≤s.length+10:=fun s=>by unfold Wire.strE;rw[Za];have:=nl s.length;omega
 by_cases hv:r.validB=true
 rotate_left
 ·have hv':r.validB=false:=by simpa using hv
  have he:Jr.enc r=([],1):=by unfold Jr.enc;rw[if_pos hv']
  rw[hv']at cv;rw[he];obtain⟨kd,⟨lin,ser,ins,ps,os⟩,st,op,ad,dp,ty,tk,er,⟨a1,a2,a3,a4,⟨k,nn,ss,is,ks⟩,v,tn,fi,ds⟩⟩:=r;simp only[Jr.cells,Sf.Inst.cells,Zo,Zk]at cv⊢;refine pcall ?_ rfl (by simp[A.pure,A.data]) h;refine fo ?_;refine azj ti (ai cv ti) ?_;exact Fn rfl
 rw[hv]at cv;have henc:¬(r.kind=1∧(Sf.encode 2 r.base).2≠0)→Jr.enc r=if 1048576<(Crc.app (Wire.strE r.body)).length then([],3)else(Crc.app (Wire.strE r.body),0):=fun hne=>by unfold Jr.enc;rw[if_neg (by rw[hv];decide),if_neg hne]
 have hk:=hv;unfold Jr.validB at hk;have hbad:¬Jr.badB r=true:=fun e=>by rw[if_pos e]at hk;cases hk
 rw[if_neg hbad]at hk;have fitE:(Sf.encode 2 r.base).2=0→(Sf.encode 2 r.base).1.length≤1048576:=by
  intro e;unfold Sf.encode at e⊢;split
  ·simp
  split
  ·simp
  ·next h2=>simp only[Crc.app,Za,Crc.four_length];omega
 have hse:r.stepB=true→StepE r:=fun hs=>by
  unfold Jr.stepB at hs;simp only[Zc,Zm]at hs;obtain⟨⟨⟨⟨s0,s1⟩,o0⟩,o1⟩,_⟩:=hs;exact⟨by omega,by omega,by omega,by omega⟩
 have hae:Jr.afterB r=true→Jr.InstE r.after:=fun ha=>Jr.afterB_enc (op:=r.op) (by unfold Jr.afterB at ha;exact ha)
 have cs:=fun(hs:r.stepB=true) (s:List UInt8) (hl:s.length≤100) B=>cje s r (hse hs) (by omega) (h:=⟨[B,jwB s],[]⟩) (i:=1) rfl
 have ci:=fun(ha:Jr.afterB r=true) (s:List UInt8) (hl:s.length≤200000000) B=>cxt s r.after (hae ha) (by omega) l4 (h:=⟨[B,jwB s],[]⟩) (i:=1) rfl
 have hbody:r.body=Wire.num r.kind++Jr.restE r (Sf.encode 2 r.base).1:=rfl;unfold Jr.restE at hbody;obtain⟨B,hB⟩:=Ex ((Sf.encode 2 r.base).1);obtain⟨E,hE⟩:=Ex ((Sf.encode 2 r.base).2);rw[hB,hE]at ce;rw[hB]at hbody;rw[hE]at henc;rw[hB,hE]at fitE;obtain⟨S1,hS1⟩:=Ex (Jr.stepE r);rw[hS1]at cs hbody l1;obtain⟨I1,hI1⟩:=Ex (Sf.instE 2 r.after);rw[hI1]at ci hbody l2;obtain⟨X,hX⟩:=Ex (r.body);rw[hX]at henc hbody;have henc1:r.kind=1∧E≠0→Jr.enc r=([],E):=fun h1=>by unfold Jr.enc;rw[if_neg (by rw[hv];decide),hE,if_pos h1]
 obtain⟨N,hN⟩:=Ex (Jr.enc r);rw[hN]at henc henc1⊢;have n0:=fun(B:Blk) (k:Int) (h0:-9223372036854775808≤k) (h1:k≤9223372036854775807)=>ajk [] k (by simp) h0 h1 (h:=⟨[B,jwB []],[]⟩) (i:=1) rfl
 have nE:=fun(B:Blk) (s:List UInt8) (hs:s.length≤200000000) (k:Int) (h0:-9223372036854775808≤k) (h1:k≤9223372036854775807)=>ajk s k (by omega) h0 h1 (h:=⟨[B,jwB s],[]⟩) (i:=1) rfl
 have nT:=fun(B:Blk) (s t:List UInt8) (hs:s.length≤200000000) (ht:t.length≤2000000)=>bvp s t (by omega) (h:=⟨[B,jwB s],[]⟩) (i:=1) rfl
 clear hv hbad hX hN hS1 hI1 hB hE hck hok hd hse hae;obtain⟨kd,⟨lin,ser,ins,ps,os⟩,st,op,ad,dp,ty,tk,er,⟨a1,a2,a3,a4,⟨k,nn,ss,is,ks⟩,v,tn,fi,ds⟩⟩:=r;dsimp only at hk hbody henc henc1 l3;simp only[Jr.cells,Sf.Inst.cells,Zo,Zk,Sf.St.A,jwB,Yu,Yf]at cv ce cs ci n0 nE nT⊢;refine pcall ?_ rfl (by simp[A.pure,A.data]) h;refine fo ?_;obtain⟨kl,hkl⟩:=Ex ((Wire.num kd).length);have hkl2:kl≤10:=hkl▸nl kd;by_cases k1:kd=1
 ·subst k1;rw[if_pos rfl]at hbody;by_cases hE0:E=0
  rotate_left
  ·have e1:(E !=0)=true:=by simp[hE0]
   rw[henc1 ⟨rfl,hE0⟩];refine azj ti (ai cv ti) ?_;refine use (n0 _ 1 (by decide) (by decide)) ?_;refine azj e1 (ai ce ti) ?_;exact Fn rfl
  subst hE0;have hBl:=fitE rfl;have he:=henc (fun h1=>h1.2 rfl);obtain⟨ca,cc⟩:=hfin X (by rw[hbody,Za];have:=sl B;omega);have ct:=fun Bx=>nT Bx (Wire.num 1) B (by omega) (by omega)
  rw[←hbody]at ct;obtain⟨Z,hZ⟩:=Ex (Crc.app (Wire.strE X));rw[hZ]at cc he;refine azj ti (ai cv ti) ?_;refine use (n0 _ 1 (by decide) (by decide)) ?_;refine azj ti (ai ce ti) ?_;refine use (ct _) ?_;by_cases g:(Z.length:Int)>1048576
  ·rw[he,if_pos (by omega)];refine azj g (ai ca (ai cc ti)) ?_;exact Fn rfl
  ·rw[he,if_neg (by omega)];refine azj g (ai ca (ai cc ti)) ?_;exact Fn rfl
 have he:=henc (fun h1=>k1 h1.1);rw[if_neg k1]at hbody;have f1:(kd==1)=false:=by simp[k1]
 by_cases k2:kd=2
 ·subst k2;rw[if_pos rfl]at hbody;rw[if_neg (by rintro(h|h)<;>contradiction),if_pos rfl,Zc,Zc,Zc]at hk;have hs:=hk.1.1.1;obtain⟨ca,cc⟩:=hfin X (by rw[hbody,Za,Za];have:=sl tk;omega);have c1:=fun Bx=>cs hs (Wire.num 2) (by omega) Bx
  have c2:=fun Bx=>nT Bx (Wire.num 2++S1) tk (by rw[Za];omega) (by omega)
  rw[Zg,←hbody]at c2;obtain⟨Z,hZ⟩:=Ex (Crc.app (Wire.strE X));rw[hZ]at cc he;refine azj ti (ai cv ti) ?_;refine use (n0 _ 2 (by decide) (by decide)) ?_;refine azj ti (ai cv ti) ?_;refine use (c1 _) ?_;refine azj ti (ai cv ti) ?_;refine use (c2 _) ?_;by_cases g:(Z.length:Int)>1048576
  ·rw[he,if_pos (by omega)];refine azj g (ai ca (ai cc ti)) ?_;exact Fn rfl
  ·rw[he,if_neg (by omega)];refine azj g (ai ca (ai cc ti)) ?_;exact Fn rfl
 rw[if_neg k2]at hbody;have f2:(kd==2)=false:=by simp[k2]
 by_cases k3:kd=3
 ·subst k3;rw[if_pos rfl]at hbody;rw[if_neg (by rintro(h|h)<;>contradiction),if_neg k2,if_pos rfl,Zc]at hk;obtain⟨ca,cc⟩:=hfin X (by rw[hbody,Za,Za];omega);have c1:=fun Bx=>cs hk.1 (Wire.num 3) (by omega) Bx
  have c2:=fun Bx=>ci hk.2 (Wire.num 3++S1) (by rw[Za];omega) Bx
  rw[Zg,←hbody]at c2;obtain⟨Z,hZ⟩:=Ex (Crc.app (Wire.strE X));rw[hZ]at cc he;refine azj ti (ai cv ti) ?_;refine use (n0 _ 3 (by decide) (by decide)) ?_;refine azj ti (ai cv ti) ?_;refine use (c1 _) ?_;refine azj ti (ai cv ti) ?_;refine use (c2 _) ?_;by_cases g:(Z.length:Int)>1048576
  ·rw[he,if_pos (by omega)];refine azj g (ai ca (ai cc ti)) ?_;exact Fn rfl
  ·rw[he,if_neg (by omega)];refine azj g (ai ca (ai cc ti)) ?_;exact Fn rfl
 rw[if_neg k3]at hbody;have f3:(kd==3)=false:=by simp[k3]
 by_cases k4:kd=4
 ·subst k4;rw[if_pos rfl]at hbody;rw[if_neg (by rintro(h|h)<;>contradiction),if_neg k2,if_neg k3,if_pos rfl,Zc,Zc,Zc,Zm,Zm]at hk;have ne:=nl er;obtain⟨ca,cc⟩:=hfin X (by rw[hbody,Za,Za,Za];omega);have c1:=fun Bx=>cs hk.1.1.1 (Wire.num 4) (by omega) Bx
  have c2:=fun Bx=>nE Bx (Wire.num 4++S1) (by rw[Za];omega) er (by omega) (by omega)
  have c3:=fun Bx=>ci hk.1.1.2 (Wire.num 4++S1++Wire.num er) (by rw[Za,Za];omega) Bx
  have hb2:Wire.num 4++S1++Wire.num er++I1=X:=by rw[hbody];simp only[Zg]
  rw[hb2]at c3;obtain⟨Z,hZ⟩:=Ex (Crc.app (Wire.strE X));rw[hZ]at cc he;refine azj ti (ai cv ti) ?_;refine use (n0 _ 4 (by decide) (by decide)) ?_;refine azj ti (ai cv ti) ?_;refine use (c1 _) ?_;refine azj ti (ai cv ti) ?_;refine use (c2 _) ?_;refine azj ti (ai cv ti) ?_;refine use (c3 _) ?_;by_cases g:(Z.length:Int)>1048576
  ·rw[he,if_pos (by omega)];refine azj g (ai ca (ai cc ti)) ?_;exact Fn rfl
  ·rw[he,if_neg (by omega)];refine azj g (ai ca (ai cc ti)) ?_;exact Fn rfl
 rw[if_neg k4,ZB]at hbody;have f4:(kd==4)=false:=by simp[k4]
 have k5:kd=5:=by
  by_cases k5:kd=5
  ·exact k5
  ·rw[if_neg (by rintro(h|h)<;>contradiction),if_neg k2,if_neg k3,if_neg k4]at hk;cases hk
 subst k5;obtain⟨ca,cc⟩:=hfin X (by rw[hbody];omega);have n5:=fun Bx=>n0 Bx 5 (by decide) (by decide)
 rw[←hbody]at n5;obtain⟨Z,hZ⟩:=Ex (Crc.app (Wire.strE X));rw[hZ]at cc he;refine azj ti (ai cv ti) ?_;refine use (n5 _) ?_;by_cases g:(Z.length:Int)>1048576
 ·rw[he,if_pos (by omega)];refine azj g (ai ca (ai cc ti)) ?_;exact Fn rfl
 ·rw[he,if_neg (by omega)];refine azj g (ai ca (ai cc ti)) ?_;exact Fn rfl
theorem bzo:∀(v v':V),v.lens→v'.lens→∀h,AT 90 [v.A,v'.A] h (.bool (Val.eqB v v')):=by
 refine V.induct fun k n s is ks ih=>?_
 rintro⟨k',n',s',is',ks'⟩ hlen hlen' h;refine pcall ?_ rfl (by simp[V.A,V.cells,A.pure,A.data]) h;refine fo ?_;obtain⟨hil,hkl,_,hmem⟩:=V.lens_mk hlen;obtain⟨hil',hkl',_,hmem'⟩:=V.lens_mk hlen';have hE:Val.eqB (.mk k n s is ks) (.mk k' n' s' is' ks')=(k==k'&&n==n'&&s==s'&&ks==ks'&&Val.eqBs is is'):=by rw[Val.eqB]
 have hno:∀b,b=false→Val.eqB (.mk k n s is ks) (.mk k' n' s' is' ks')=b→True:=fun _ _ _=>trivial
 by_cases h1:k=k'
 rotate_left
 ·have e1:(k !=k')=true:=by simp[h1]
  refine go0 (ai @V_A (ai @azd e1)) ?_;exact⟨_,le_refl _,by rw[azi,hE,Zq.2 h1];rfl⟩
 have e1:(k !=k')=false:=by simp[h1]
 by_cases h2:n=n'
 rotate_left
 ·have e2:(n !=n')=true:=by simp[h2]
  refine go0 (ai @V_A (ai @azd (ai e1 e2))) ?_;exact⟨_,le_refl _,by rw[azi,hE,Zq.2 h2];simp⟩
 have e2:(n !=n')=false:=by simp[h2]
 by_cases h3:s=s'
 rotate_left
 ·have e3:(s !=s')=true:=by simp[h3]
  refine go0 (ai @V_A (ai @azd (ai e1 (ai e2 e3)))) ?_;exact⟨_,le_refl _,by rw[azi,hE,Zq.2 h3];simp⟩
 have e3:(s !=s')=false:=by simp[h3]
 by_cases h4:is.length=is'.length
 rotate_left
 ·have e4:((is.length:Int)!=(is'.length:Int))=true:=by simp;omega
  have hb:Val.eqBs is is'=false:=by rw[Y3];exact fun e=>h4 (bvx e)
  refine go0 (ai @V_A (ai @azd (ai e1 (ai e2 (ai e3 (ai @V.cellss_length e4)))))) ?_;exact⟨_,le_refl _,by rw[azi,hE,hb];simp⟩
 have e4:((is.length:Int)!=(is'.length:Int))=false:=by simp[h4]
 by_cases h5:ks.length=ks'.length
 rotate_left
 ·have e5:((ks.length:Int)!=(ks'.length:Int))=true:=by simp;omega
  have hb:(ks==ks')=false:=by rw[Zq];rintro rfl;exact h5 rfl
  refine go0 (ai @V_A (ai @azd (ai e1 (ai e2 (ai e3 (ai @V.cellss_length (ai e4 (ai @aze e5)))))))) ?_;exact⟨_,le_refl _,by rw[azi,hE,hb];simp⟩
 have e5:((ks.length:Int)!=(ks'.length:Int))=false:=by simp[h5]
 have hE2:Val.eqB (.mk k n s is ks) (.mk k' n' s' is' ks')=(ks==ks'&&Val.eqBs is is'):=by rw[hE];simp[h1,h2,h3]
 refine go0 (ai @V_A (ai @azd (ai e1 (ai e2 (ai e3 (ai @V.cellss_length (ai e4 (ai @aze e5)))))))) ?_;refine azf (fun m ts hh=>hh=⟨[.cells 40 [.int .i64 k,.int .i64 n,.str s,.sl 5 .no (V.cellss is),.sl 1 .no (strsA ks)],.cells 40 [.int .i64 k',.int .i64 n',.str s',.sl 5 .no (V.cellss is'),.sl 1 .no (strsA ks')]],[]⟩∧∃(i:Nat),m=ks.length-i∧i≤ks.length∧(ks.drop i==ks'.drop i)=(ks==ks')∧ts 2=.ptr 0 0∧ts 3=.ptr 1 0∧ts 5=.int .i64 i) ks.length ?_ ?_
 ·refine⟨rfl,0,rfl,Zz _,rfl,?_⟩;(exact azq @aze)
 ·rintro m ts hh ⟨rfl,i,rfl,hi,heq,t2,t3,t5⟩;by_cases hlt:i<ks.length
  ·have hla:(i:Int)<((strsA ks).length:Int):=by rw[aze];omega
   have hlb:(i:Int)<((strsA ks').length:Int):=by rw[aze];omega
   have ei:IntKind.i64.wrap ((i:Int)+1)=(i:Int)+1:=wrap64 (by omega) (by omega);have ea:=azv ks i hlt;have eb:=azv ks' i (by omega);rw[Zr hlt,Zr (by omega:i<ks'.length)]at heq;refine go0 (ai t2 (ai t3 (ai t5 hla))) ?_;refine ak3 (by decide) ?_;by_cases hc:ks[i]=ks'[i]
   ·have hc':(ks[i]!=ks'[i])=false:=by simp[hc]
    refine go0 (ai t2 (ai t3 (ai t5 (ai hla (ai hlb (ai ea (ai eb (ai hc' ei)))))))) ?_;refine⟨ks.length-(i+1),by omega,rfl,i+1,rfl,by omega,?_,?_⟩
    ·rw[←heq,List.cons_beq_cons,hc,YV,Zx]
    ·(exact azq (ai t2 (ai t3 (ai t5 ei))))
   ·have hc':(ks[i]!=ks'[i])=true:=by simp[hc]
    refine go0 (ai t2 (ai t3 (ai t5 (ai hla (ai hlb (ai ea (ai eb (ai hc' ei)))))))) ?_;exact⟨_,le_refl _,by rw[azi,hE2,←heq,List.cons_beq_cons,Zq.2 hc];simp⟩
  ·have hla:¬(i:Int)<((strsA ks).length:Int):=by rw[aze];omega
   rw[ZG (by omega),ZG (by omega)]at heq;have hE3:Val.eqB (.mk k n s is ks) (.mk k' n' s' is' ks')=Val.eqBs is is':=by rw[hE2,←heq];simp
   refine go0 (ai t2 (ai t3 (ai t5 hla))) ?_;refine azf (fun m ts hh=>hh=⟨[.cells 40 [.int .i64 k,.int .i64 n,.str s,.sl 5 .no (V.cellss is),.sl 1 .no (strsA ks)],.cells 40 [.int .i64 k',.int .i64 n',.str s',.sl 5 .no (V.cellss is'),.sl 1 .no (strsA ks')]],[]⟩∧∃(i:Nat),m=is.length-i∧i≤is.length∧Val.eqBs (is.drop i) (is'.drop i)=Val.eqBs is is'∧ts 2=.ptr 0 0∧ts 3=.ptr 1 0∧ts 6=.int .i64 i) is.length ?_ ?_
   ·refine⟨rfl,0,rfl,Zz _,rfl,?_⟩;(exact azq (ai @aze (ai t2 t3)))
   ·clear heq;rintro m ts hh ⟨rfl,i,rfl,hi,heq,t2,t3,t6⟩;by_cases hlt:i<is.length
    ·have hla:(i:Int)<((V.cellss is).length:Int):=by rw[V.cellss_length];omega
     have hlb:(i:Int)<((V.cellss is').length:Int):=by rw[V.cellss_length];omega
     have ei:IntKind.i64.wrap ((i:Int)+1)=(i:Int)+1:=wrap64 (by omega) (by omega);have ea:=V.cellss_get is i hlt;have eb:=V.cellss_get is' i (by omega);have hcall:=fun(h:Hp)=>ih is[i] (Zt hlt) (is'[i]'(by omega)) (hmem _ (Zt hlt)) (hmem' _ (Zt (by omega))) h
     rw[Zr hlt,Zr (by omega:i<is'.length),Val.eqBs]at heq;obtain⟨⟨k1,n1,s1,is1,ks1⟩,hv⟩:=Ex (is[i]);obtain⟨⟨k2,n2,s2,is2,ks2⟩,hv2⟩:=Ex (is'[i]'(by omega));rw[hv]at ea hcall heq;rw[hv2]at eb hcall heq;simp only[V.A,V.cells]at hcall;refine go0 (ai @azd (ai t2 (ai t3 (ai t6 hla)))) ?_;refine ak3 (by decide) ?_;refine go0 (ai @azd (ai t2 (ai t3 (ai t6 (ai hla (ai hlb (ai ea eb))))))) ?_;refine byu (by simp only[aql,az5,az6,aj7,avd,az4,aq9,aq7,aq6,azi,aqa,astep,bop,uop,loadA,storeA,appA,ssliceA,eqA,eqCells,fillA,rowsA,setCells,A.cells,A.one,A.data,azy,ZC,Yt,ZY,Zx,ZR,YA,YH,YO,ZZ,Yo,ZW,Ym,ZN,ZH,ZM,ZF,Zh,Zy,Zk,Zo,ZB,Yf,Yu,Yv,ZU,Z3,Yk,YY,Za,Yl,Nat.reduceAdd,Nat.reduceSub,Nat.reduceMul,Nat.reduceLeDiff,Nat.reduceEqDiff,Nat.reduceBEq,Yb,YI,if_true,if_false,reduceIte,ite_true,ite_false,true_and,and_true,ne_eq,Yh,Ys,Zi,reduceCtorEq,and_self,YD,Yg,Zf,ZP,ZL,decide_true,decide_false,t2,t3,t6]<;>with_reducible rfl) (hcall _) ?_;rcases azk (Val.eqB (.mk k1 n1 s1 is1 ks1) (.mk k2 n2 s2 is2 ks2))with hz|hz
     ·rw[hz]at heq⊢;refine go0 (ai t2 (ai t3 (ai t6 ei))) ?_;refine⟨is.length-(i+1),by omega,rfl,i+1,rfl,by omega,by simpa using heq,?_⟩;(exact azq (ai t2 (ai t3 (ai t6 ei))))
     ·rw[hz]at heq⊢;refine go0 (ai t2 (ai t3 (ai t6 ei))) ?_;exact⟨_,le_refl _,by rw[azi,hE3,←heq];rfl⟩
    ·have hla:¬(i:Int)<((V.cellss is).length:Int):=by rw[V.cellss_length];omega
     rw[ZG (by omega),ZG (by omega)]at heq;refine go0 (ai t2 (ai t3 (ai t6 hla))) ?_;exact⟨_,le_refl _,by rw[azi,hE3,←heq];rfl⟩
end AX
namespace Jr
def noneR(x:Sf.Inst):Bool:=x.addr == []&&x.dep == []&&x.id == []&&x.typ == []&&Val.eqB x.attrs (.mk 0 0 [] [] [])&&x.ver==0&&!x.tainted&&!x.first&&(x.deps.length:Int)==0
def emptyR(s:Sf.St):Bool:=s.lin == []&&s.ser==0&&((s.insts.length:Int)+s.pends.length+s.outs.length)==0
def stepR(r:Jr):Bool:=emptyR r.base&&decide (r.step≥0)&&decide (r.step<2048)&&decide (r.op≥1)&&decide (r.op≤4)&&shortB [r.addr,r.dep,r.typ,r.tok]
def validR(r:Jr):Bool:=
 if r.kind=1 then r.step==0&&r.op==0&&r.addr == []&&r.dep == []&&r.typ == []&&r.tok == []&&r.err==0&&noneR r.after
 else if r.kind=5 then r.step==0&&r.op==0&&r.addr == []&&r.dep == []&&r.typ == []&&r.tok == []&&r.err==0&&noneR r.after&&emptyR r.base
 else if r.kind=2 then stepR r&&r.err==0&&noneR r.after&&(r.op==1||r.tok == [])
 else if r.kind=3 then stepR r&&r.err==0&&r.tok == []&&instB r.after&&(r.op==1||r.op==2||noneR r.after)
 else if r.kind=4 then stepR r&&decide (r.err>0)&&decide (r.err≤42)&&r.tok == []&&instB r.after&&(r.op==1||r.op==2||noneR r.after)
 else false
theorem noneR_eq(x:Sf.Inst):noneR x=noneB x:=by
 obtain⟨a,d,i,t,⟨k,n,s,is,ks⟩,v,tn,fi,ds⟩:=x;unfold noneR noneB zeroV;simp only[Val.eqB];have h1:(ks == [])=((ks.length:Int)==0):=by cases ks<;>simp<;>omega
 have h2:Val.eqBs is []=((is.length:Int)==0):=by
  cases is with
  |nil=>simp[Val.eqBs]
  |cons v l=>
   simp only[Val.eqBs,Zh]
   symm
   simp;omega
 rw[h1,h2];cases(k==0)<;>cases(n==0)<;>cases(s == [])<;>cases((is.length:Int)==0)<;>cases((ks.length:Int)==0)<;>simp
theorem emptyR_eq(s:Sf.St):emptyR s=emptyB s:=by
 unfold emptyR emptyB;have h:(((s.insts.length:Int)+s.pends.length+s.outs.length)==0)=(((s.insts.length:Int)==0)&&((s.pends.length:Int)==0)&&((s.outs.length:Int)==0)):=by
  rw[Ye];simp only[ZA,Zc];omega
 rw[h];simp only[Bool.and_assoc]
theorem none_inst{x:Sf.Inst}(h:noneB x=true):instB x=true:=by
 obtain⟨a,d,i,t,⟨k,n,s,is,ks⟩,v,tn,fi,ds⟩:=x;unfold noneB zeroV at h;simp only[Zc,ZA]at h;obtain⟨⟨⟨⟨⟨⟨⟨⟨⟨⟨⟨⟨hk,hn⟩,hs⟩,hi⟩,hks⟩,ha⟩,hd⟩,hid⟩,ht⟩,hv⟩,_⟩,_⟩,hde⟩:=h;have e1:is=[]:=Z4 (by omega);have e2:ks=[]:=Z4 (by omega);have e3:ds=[]:=Z4 (by omega);subst hk hn hs ha hd hid ht hv e1 e2 e3;cases tn<;>cases fi<;>decide +kernel
theorem validR_eq(r:Jr):validR r=validB r:=by
 unfold validR validB stepR stepB afterB bareB makesB;rw[noneR_eq,emptyR_eq];have hs4:shortB [r.addr,r.dep,r.typ,r.tok]=(shortB [r.addr,r.dep,r.typ]&&shortB [r.tok]):=by
  simp only[shortB,ZC,Yt,ZY,Bool.and_assoc]
 have ht:(r.tok == [])=true→shortB [r.tok]=true:=fun h=>by
  rw[ZA]at h;rw[h];rfl
 have hni:=@none_inst r.after;have he:decide (r.err>0)=decide (r.err≥1):=by rw[decide_eq_decide];omega
 rw[hs4,he];have hb:badB r=(!(r.kind==1)&&!emptyB r.base||!(r.kind==2)&&!(r.tok == [])||!(r.kind==4)&&!(r.err==0)):=rfl;generalize badB r=B at *;clear hs4 he;obtain⟨kd,base,st,op,ad,dp,ty,tk,er,af⟩:=r;dsimp only at *;generalize shortB [tk]=T at *;generalize shortB [ad,dp,ty]=S at *;generalize noneB af=N at *;generalize instB af=I at *;generalize emptyB base=E at *;generalize (tk == [])=K at *;generalize (er==0)=R at *;generalize decide (er≥1)=R1 at *;generalize decide (er≤42)=R2 at *;generalize (st==0)=P0 at *;generalize (op==0)=P1 at *;generalize (op==1)=O1 at *;generalize (op==2)=O2 at *;generalize decide (st≥0)=P2 at *;generalize decide (st<2048)=P3 at *;generalize decide (op≥1)=P4 at *;generalize decide (op≤4)=P5 at *;generalize (ad == [])=Q1 at *;generalize (dp == [])=Q2 at *;generalize (ty == [])=Q3 at *;by_cases k1:kd=1
 ·subst k1;simp at hb;subst hb;clear hni ht;cases K<;>cases R<;>simp
 by_cases k5:kd=5
 ·subst k5;simp at hb;subst hb;clear hni ht;cases E<;>cases K<;>cases R<;>simp
 by_cases k2:kd=2
 ·subst k2;simp at hb;subst hb;clear hni;cases K
  ·clear ht;cases E<;>cases R<;>cases T<;>cases S<;>cases N<;>simp
  ·have:=ht rfl;subst this;cases E<;>cases R<;>cases S<;>cases N<;>simp
 have hT:K=true→T=true:=ht;by_cases k3:kd=3
 ·subst k3;simp at hb;subst hb;cases K
  ·clear ht;simp
  ·have:=ht rfl;subst this;clear ht hT;cases E<;>cases R<;>cases S<;>simp<;>(cases N<;>cases I<;>cases O1<;>cases O2<;>simp at hni⊢)
 by_cases k4:kd=4
 ·subst k4;simp at hb;subst hb;cases K
  ·clear ht;simp
  ·have:=ht rfl;subst this;clear ht hT;cases E<;>cases R1<;>cases R2<;>cases S<;>simp<;>(cases N<;>cases I<;>cases O1<;>cases O2<;>simp at hni⊢)
 simp[k1,k2,k3,k4,k5]
end Jr
end
end Go.Proofs.YtdgcbckcameggacGreatDoor
