/- Part of what the proof needs. -/
import Derived.Test.YtdgcbckcameggacGreatDoorMFrJournalReadsI2
import Derived.Test.YtdgcbckcameggacGreatDoorRows
set_option maxHeartbeats 4000000
set_option maxRecDepth 100000
set_option linter.all false
namespace Go.Proofs.YtdgcbckcameggacGreatDoor
section
open Go.RowKit
namespace AX
def JB(k:Nat)(bad:Bool):Blk:=.cells 141 [.ptr k 0,.bool bad]
theorem liftQ{f:FuncId}{args:List A}{s s':Sf.Rs}{v:A}(hc:AC f (.ptr 0 0::args) ⟨[JB 1 s.bad,rdr s.r],[]⟩ fun v' h'=>v'=v∧h'.b[0]?=some (JB 1 s'.bad)∧h'.b[1]?=some (rdr s'.r))(ha:A.locL 0 args=true)(hv:v.loc 0=true)
  {h:Hp} {i k:Nat} (hik:i≠k) (hi:h.b[i]?=some (JB k s.bad)) (hk:h.b[k]?=some (rdr s.r)):
  AC f (.ptr i 0::args) h fun v' h'=>v'=v∧h'=⟨(h.b.set i (JB k s'.bad)).set k (rdr s'.r),h.t⟩:=by
 have key:=ACall.lift hc (fun j=>if j=0 then i else k) (fun a b ha hb e=>by
   simp only[Zh,Zy]at ha hb;have h1:a=0∨a=1:=by omega
   have h2:b=0∨b=1:=by omega
   rcases h1 with rfl|rfl<;>rcases h2 with rfl|rfl<;>simp at e⊢
   ·exact hik e
   ·exact hik e.symm) (by unfold A.locL;rw[(A.locL0 _ args ha).1];rfl)
  (fun x hx=>by
   rcases Z8.1 hx with rfl|hx
   ·rfl
   ·rw[Yw.1 hx];rfl)
  (fun v' h' ⟨e,h0,h1⟩=>⟨by rw[e];exact(A.loc0 _ v hv).1,fun j x hj hx=>by
   have:j=0∨j=1:=by simp only[Zh,Zy]at hj;omega
   rcases this with rfl|rfl
   ·rw[h0]at hx;injection hx with hx;subst hx;rfl
   ·rw[h1]at hx;injection hx with hx;subst hx;rfl⟩)
  (h:=h) (fun j hj=>by
   have:j=0∨j=1:=by simp only[Zh,Zy]at hj;omega
   rcases this with rfl|rfl
   ·exact hi
   ·exact hk)
 have e:A.renL (fun j=>if j=0 then i else k) (.ptr 0 0::args)=.ptr i 0::args:=by unfold A.renL;rw[(A.locL0 0 args ha).2];rfl
 rw[e]at key;refine key.mono ?_;rintro v' h' ⟨v0,⟨b0,t0⟩,⟨rfl,h0,h1⟩,rfl,rfl⟩;refine⟨(A.loc0 0 _ hv).2 _,?_⟩
 match b0,h0,h1 with
 |x::y::b,h0,h1=>
  simp only[ZM,ZF,Zb]at h0 h1;subst h0;subst h1;rfl
theorem bkh(s:Sf.Rs)(hl:s.r.rest.length≤100000000){h:Hp}{i k:Nat}(hik:i≠k)(hi:h.b[i]?=some (JB k s.bad))(hk:h.b[k]?=some (rdr s.r)):
  AC 115 [.ptr i 0] h fun v h'=>v=.bool (Sf.flagS s).2∧h'=⟨(h.b.set i (JB k (Sf.flagS s).1.bad)).set k (rdr (Sf.flagS s).1.r),h.t⟩:=by
 refine liftQ ?_ rfl rfl hik hi hk;refine fo ?_;unfold JB;refine azb ti ?_;refine use (aqc (i:=1) (r:=s.r) rfl hl) ?_;obtain⟨q,hq⟩:=Ex (Wire.numR s.r);have hF:Sf.flagS s=(⟨q.1,s.bad||(q.2 !=0&&q.2 !=1)⟩,q.2==1):=by unfold Sf.flagS;rw[hq]
 rw[hq,hF];rcases azk s.bad with e0|e0
 ·rw[e0];refine azb ti ?_;exact⟨_,le_refl _,rfl,rfl,rfl⟩
 ·rw[e0];rcases azk (q.2 !=0)with e1|e1
  ·refine azb e1 ?_;exact⟨_,le_refl _,rfl,by rw[e1];rfl,rfl⟩
  ·refine azb e1 ?_;exact⟨_,le_refl _,rfl,by rw[e1];rfl,rfl⟩
theorem aqz(s:Sf.Rs){h:Hp}{i k:Nat}(hik:i≠k)(hi:h.b[i]?=some (JB k s.bad))(hk:h.b[k]?=some (rdr s.r)):
  AT 79 [.ptr i 0] h (.bool s.fails):=by
 have key:AC 79 [.ptr i 0] h fun v h'=>v=.bool s.fails∧h'=⟨(h.b.set i (JB k s.bad)).set k (rdr s.r),h.t⟩:=by
  refine liftQ (s':=s) ?_ rfl rfl hik hi hk;refine fo ?_;unfold JB;unfold Sf.Rs.fails;rcases azk s.bad with e0|e0
  ·rw[e0];refine azb ti ?_;exact⟨_,le_refl _,rfl,rfl,rfl⟩
  ·rw[e0];refine azb ti ?_;refine use (bxe (i:=1) (r:=s.r) rfl) ?_;refine azb ti ?_;exact⟨_,le_refl _,rfl,rfl,rfl⟩
 refine key.mono ?_;rintro v h' ⟨rfl,rfl⟩;refine⟨rfl,?_⟩;obtain⟨hb,ht⟩:=h;dsimp only at hi hk⊢;congr 1;have hil:=(Zd.1 hi);have hkl:=(Zd.1 hk);obtain⟨h1,h2⟩:=hil;obtain⟨h3,h4⟩:=hkl;rw[show hb.set i (JB k s.bad)=hb by rw[←h2];exact List.set_getElem_self h1];rw[←h4];exact List.set_getElem_self h3
theorem ajm:Sf.Inst.cells Jr.zeroI=[.str [],.str [],.str [],.str [],.int .i64 0,.int .i64 0,.str [],.sl 5 .no [],.sl 1 .no [],.int .i64 0,.bool false,.bool false,.sl 1 .no []]:=by
 unfold Jr.zeroI Sf.Inst.cells;simp[V.cellss,strsA]
theorem bv2:le (.agg [.str [],.str [],.str [],.str [],.int .i64 0,.int .i64 0,.str [],.sl 0 .nil [],.sl 0 .nil [],.int .i64 0,.bool false,.bool false,.sl 0 .nil []]) (.agg (Sf.Inst.cells Jr.zeroI)):=by
 rw[ajm];exact⟨aza _,aza _,aza _,aza _,aza _,aza _,aza _,⟨rfl,.inr rfl,.inl rfl⟩,⟨rfl,.inr rfl,.inl rfl⟩,aza _,aza _,aza _,⟨rfl,.inr rfl,.inl rfl⟩,trivial⟩
theorem bvr(s:Sf.Rs)(hl:s.r.rest.length≤100000000){h:Hp}{i k:Nat}(hik:i≠k)(hi:h.b[i]?=some (JB k s.bad))(hk:h.b[k]?=some (rdr s.r)):
  AC 78 [.ptr i 0] h fun v h'=>v=.agg (Sf.Inst.cells (Jr.instJ s).2)∧h'=⟨(h.b.set i (JB k (Jr.instJ s).1.bad)).set k (rdr (Jr.instJ s).1.r),h.t⟩:=by
 refine liftQ ?_ rfl ?_ hik hi hk;rotate_left
 ·obtain⟨a,d,i,ty,⟨k,n,w,is,ks⟩,v,tn,fi,ds⟩:=(Jr.instJ s).2;rfl
 obtain⟨r,bad⟩:=s;dsimp only at hl;obtain⟨⟨r1,x1⟩,h1⟩:=Ex (Wire.strR r);have l1:=Wire.strR_rest r;rw[h1]at l1;obtain⟨⟨r2,x2⟩,h2⟩:=Ex (Wire.strR r1);have l2:=Wire.strR_rest r1;rw[h2]at l2;obtain⟨⟨r3,x3⟩,h3⟩:=Ex (Wire.strR r2);have l3:=Wire.strR_rest r2;rw[h3]at l3;obtain⟨⟨r4,x4⟩,h4⟩:=Ex (Wire.strR r3);have l4:=Wire.strR_rest r3;rw[h4]at l4;dsimp only at l1 l2 l3 l4;have str:∀(r r':Wire.St) (x:List UInt8) (h:Hp),Wire.strR r=(r',x)→h.b[1]?=some (rdr r)→r.rest.length≤100000000→AC 33 [.ptr 1 0] h fun v h'=>v=.str x∧h'=⟨h.b.set 1 (rdr r'),h.t⟩:=fun r r' x h e hb hl=>by
  have:=aqh hb hl;rw[e]at this;exact this
 have hJ:Jr.instJ ⟨r,bad⟩=if(⟨r4,bad⟩:Sf.Rs).fails=true then(⟨r4,bad⟩,Jr.zeroI)else if(Val.readValue r4).2.1≠0 then(⟨(Val.readValue r4).1,true⟩,Jr.zeroI)else
   ((Jr.wordsJ (Wire.cntR (Sf.flagS (Sf.flagS ⟨(Wire.numR (Val.readValue r4).1).1,bad⟩).1).1.r 1).2 ⟨(Wire.cntR (Sf.flagS (Sf.flagS ⟨(Wire.numR (Val.readValue r4).1).1,bad⟩).1).1.r 1).1,(Sf.flagS (Sf.flagS ⟨(Wire.numR (Val.readValue r4).1).1,bad⟩).1).1.bad⟩ []).1,
    ⟨x1,x2,x3,x4,(Val.readValue r4).2.2,(Wire.numR (Val.readValue r4).1).2,(Sf.flagS ⟨(Wire.numR (Val.readValue r4).1).1,bad⟩).2,(Sf.flagS (Sf.flagS ⟨(Wire.numR (Val.readValue r4).1).1,bad⟩).1).2,(Jr.wordsJ (Wire.cntR (Sf.flagS (Sf.flagS ⟨(Wire.numR (Val.readValue r4).1).1,bad⟩).1).1.r 1).2 ⟨(Wire.cntR (Sf.flagS (Sf.flagS ⟨(Wire.numR (Val.readValue r4).1).1,bad⟩).1).1.r 1).1,(Sf.flagS (Sf.flagS ⟨(Wire.numR (Val.readValue r4).1).1,bad⟩).1).1.bad⟩ []).2⟩):=by
  unfold Jr.instJ Sf.strS Sf.numS Sf.cntS;simp only[h1,h2,h3,h4]
 refine fo ?_;unfold JB;refine azb ti ?_;refine use (str r r1 x1 _ h1 rfl (by omega)) ?_;refine azb ti ?_;refine use (str r1 r2 x2 _ h2 rfl (by omega)) ?_;refine azb ti ?_;refine use (str r2 r3 x3 _ h3 rfl (by omega)) ?_;refine azb ti ?_;refine use (str r3 r4 x4 _ h4 rfl (by omega)) ?_;refine azb ti ?_;refine use (aqz ⟨r4,bad⟩ (i:=0) (k:=1) (by decide) rfl rfl) ?_;cases hfl:(⟨r4,bad⟩:Sf.Rs).fails with
 |true=>
  rw[hJ,if_pos hfl];refine azb ti ?_;exact⟨_,bv2,rfl,rfl,rfl⟩
 |false=>
  rw[hJ,if_neg (by rw[hfl];decide)];clear hJ hfl h1 h2 h3 h4;have l5:=Val.readValue_le r4;have c5:=fun(h:Hp) hb=>av3 (i:=1) (r:=r4) (h:=h) hb (by omega)
  obtain⟨⟨r5,e5,xv⟩,h5⟩:=Ex (Val.readValue r4);rw[h5]at l5 c5;rw[h5];dsimp only at l5 c5⊢;obtain⟨vk,vn,vs,vi,vy⟩:=xv;have hVA:(V.mk vk vn vs vi vy).A=.agg [.int .i64 vk,.int .i64 vn,.str vs,.sl 5 .no (V.cellss vi),.sl 1 .no (strsA vy)]:=by simp only[V.A,V.cells]
  rw[hVA]at c5;refine azb ti ?_;refine use (c5 _ rfl) ?_;by_cases he:e5=0
  rotate_left
  ·have e1:(e5 !=0)=true:=by simp[he]
   rw[if_pos he];refine azb e1 ?_;exact⟨_,bv2,rfl,rfl,rfl⟩
  ·have e1:(e5 !=0)=false:=by simp[he]
   rw[if_neg (by simp[he])];subst he;refine azb e1 ?_;have l6:=Wire.numR_rest r5;refine use (aqc (i:=1) (r:=r5) rfl (by omega)) ?_;obtain⟨⟨r6,x6⟩,h6⟩:=Ex (Wire.numR r5);rw[h6]at l6⊢;dsimp only at l6⊢;refine azb ti ?_;have l7:=Sf.flagS_le ⟨r6,bad⟩;have c7:=fun(h:Hp) h0 h1=>bkh ⟨r6,bad⟩ (by dsimp only;omega) (h:=h) (i:=0) (k:=1) (by decide) h0 h1
   obtain⟨⟨⟨r7,b7⟩,x7⟩,h7⟩:=Ex (Sf.flagS ⟨r6,bad⟩);rw[h7]at l7 c7⊢;dsimp only at l7 c7⊢;unfold JB at c7;refine use (c7 _ rfl rfl) ?_;refine azb ti ?_;have l8:=Sf.flagS_le ⟨r7,b7⟩;have c8:=fun(h:Hp) h0 h1=>bkh ⟨r7,b7⟩ (by dsimp only;omega) (h:=h) (i:=0) (k:=1) (by decide) h0 h1
   obtain⟨⟨⟨r8,b8⟩,x8⟩,h8⟩:=Ex (Sf.flagS ⟨r7,b7⟩);rw[h8]at l8 c8⊢;dsimp only at l8 c8⊢;unfold JB at c8;refine use (c8 _ rfl rfl) ?_;refine azb ti ?_;refine use (akz (i:=1) (r:=r8) rfl (by omega)) ?_;have lc:=Wire.cntR_rest r8 1;have lk:=Wire.cntR_cnt r8;obtain⟨⟨rc,c⟩,hc⟩:=Ex (Wire.cntR r8 1);rw[hc]at lc lk⊢;dsimp only at lc lk⊢;obtain⟨⟨⟨rr,bw⟩,dw⟩,hw⟩:=Ex (Jr.wordsJ c ⟨rc,b8⟩ []);rw[hw];dsimp only;refine azb ti ?_
   refine azf (fun mm ts h=>∃(j:Nat) (p:Wire.St) (ds:List (List UInt8)) (W:Nat) (o:Own) (t:List (TypeId×Nat×Nat)),mm=c-j∧j≤c ∧
    h=⟨[.cells 141 [.ptr 1 0,.bool b8],rdr p,.cells 42 [.str [],.str [],.str [],.str [],.int .i64 0,.int .i64 0,.str [],.sl 0 .nil [],.sl 0 .nil [],.int .i64 0,.bool false,.bool false,.sl 0 .nil []],.cells 42 [.str x1,.str x2,.str x3,.str x4,.int .i64 vk,.int .i64 vn,.str vs,.sl 5 .no (V.cellss vi),.sl 1 .no (strsA vy),.int .i64 x6,.bool x7,.bool x8,.sl W o (strsA ds)],.cells 40 [.int .i64 vk,.int .i64 vn,.str vs,.sl 5 .no (V.cellss vi),.sl 1 .no (strsA vy)]],t⟩ ∧
    Jr.wordsJ (c-j) ⟨p,b8⟩ ds=(⟨rr,bw⟩,dw)∧ds.length=j∧p.rest.length≤rc.rest.length∧Gs 9 1 0 ⟨[],t⟩ (strsA ds) (.sl W o (strsA ds)) ∧
    (ts 0=.ptr 0 0∧ts 2=.ptr 2 0∧ts 3=.ptr 3 0∧ts 65=.int .i64 (c:Nat)∧ts 66=.int .i64 (j:Nat))) c ?_ ?_
   ·exact⟨0,rc,[],0,.nil,[],by omega,by omega,rfl,hw,rfl,Zf _,.inl ⟨rfl,rfl⟩,by(exact azq ti)⟩
   clear c5 c7 c8 h5 h6 h7 h8 hc hw;rintro mm ts h ⟨j,p,ds,W,o,t,rfl,hjc,rfl,hit,hdl,hpl,gX,ht⟩;have done:∀(ds':List (List UInt8)) (W:Nat) (o:Own),Gs 9 1 0 ⟨[],t⟩ (strsA ds') (.sl W o (strsA ds'))→le (.agg [.str x1,.str x2,.str x3,.str x4,.int .i64 vk,.int .i64 vn,.str vs,.sl 5 .no (V.cellss vi),.sl 1 .no (strsA vy),.int .i64 x6,.bool x7,.bool x8,.sl W o (strsA ds')]) (.agg [.str x1,.str x2,.str x3,.str x4,.int .i64 vk,.int .i64 vn,.str vs,.sl 5 .no (V.cellss vi),.sl 1 .no (strsA vy),.int .i64 x6,.bool x7,.bool x8,.sl 1 .no (strsA ds')]):=
    fun ds' W o g=>⟨aza _,aza _,aza _,aza _,aza _,aza _,aza _,aza _,aza _,aza _,aza _,aza _,Gs.le g,trivial⟩
   by_cases hj:j<c
   rotate_left
   ·have hlt:¬((j:Int)<(c:Int)):=by omega
    rw[show c-j=0 by omega,Jr.wordsJ]at hit;injection hit with hit hit2;injection hit with hit hit3;subst hit;subst hit2;subst hit3;refine azb (ai ht hlt) ?_;exact⟨_,done _ _ _ gX,rfl,rfl,rfl⟩
   have hlt:(j:Int)<(c:Int):=by omega
   have ei:IntKind.i64.wrap ((j:Int)+1)=((j+1:Nat):Int):=by rw[wrap64 (by omega) (by omega)];omega
   rw[show c-j=(c-(j+1))+1 by omega,Jr.wordsJ]at hit;have cf:=fun(h:Hp) h0 h1=>aqz ⟨p,b8⟩ (h:=h) (i:=0) (k:=1) (by decide) h0 h1
   obtain⟨F,hF⟩:=Ex ((⟨p,b8⟩:Sf.Rs).fails);rw[hF]at cf hit;unfold JB at cf;refine azb (ai ht hlt) ?_;refine use (cf _ rfl rfl) ?_;cases F with
   |true=>
    rw[if_pos rfl]at hit;injection hit with hit hit2;injection hit with hit hit3;subst hit;subst hit2;subst hit3;refine azb ht ?_;exact⟨_,done _ _ _ gX,rfl,rfl,rfl⟩
   |false=>
    rw[if_neg (by decide)]at hit;have lp:=Wire.strR_rest p;have cp:=fun h hb=>str p (Wire.strR p).1 (Wire.strR p).2 h rfl hb (by omega)
    unfold Sf.strS at hit;obtain⟨⟨p2,s2⟩,hp2⟩:=Ex (Wire.strR p);simp only[hp2]at hit;rw[hp2]at lp cp;dsimp only at lp cp;obtain⟨W',o',t',hX,gX',_⟩:=gX.grow 16 [.str s2] (by rw[aze];omega) (by decide);rw[←az8]at gX';simp only[←az8]at hX;refine azb ht ?_;refine use (cp _ rfl) ?_;refine azb (ai ht (ai hX ei)) ?_;exact⟨c-(j+1),by omega,j+1,p2,ds++[s2],W',o',t',rfl,by omega,rfl,hit,by simp[hdl],by omega,gX',by(exact azq (ai ht ei))⟩
theorem awf(s:Sf.Rs)(c0 c1 c2 c3 c4 c5 c6 c7 c8 c9 c10 c11 c12 c13 c14 c15 c16 c17 c18 c19 c20 c21 c22 c23 c24 c25:A)(hl:s.r.rest.length≤100000000)(Z:Blk)(l:List Blk)(t:List (TypeId×Nat×Nat)):
  AC 77 [.ptr 2 0,.ptr 3 0] ⟨Z::rdr s.r::JB 1 s.bad :: .cells 44 [c0,c1,c2,c3,c4,c5,c6,c7,c8,c9,c10,c11,c12,c13,c14,c15,c16,c17,c18,c19,c20,c21,c22,c23,c24,c25]::l,t⟩ fun v h'=>v=.tup []∧h'=⟨Z::rdr (Jr.stepJ s Jr.zeroR).1.r::JB 1 (Jr.stepJ s Jr.zeroR).1.bad :: .cells 44 [c0,c1,c2,c3,c4,c5,.int .i64 (Jr.stepJ s Jr.zeroR).2.step,.int .i64 (Jr.stepJ s Jr.zeroR).2.op,.str (Jr.stepJ s Jr.zeroR).2.addr,.str (Jr.stepJ s Jr.zeroR).2.dep,.str (Jr.stepJ s Jr.zeroR).2.typ,c11,c12,c13,c14,c15,c16,c17,c18,c19,c20,c21,c22,c23,c24,c25]::l,t⟩:=by
 obtain⟨r,bad⟩:=s;dsimp only at hl⊢;obtain⟨⟨r1,x1⟩,h1⟩:=Ex (Wire.numR r);have l1:=Wire.numR_rest r;rw[h1]at l1;obtain⟨⟨r2,x2⟩,h2⟩:=Ex (Wire.numR r1);have l2:=Wire.numR_rest r1;rw[h2]at l2;obtain⟨⟨r3,x3⟩,h3⟩:=Ex (Wire.strR r2);have l3:=Wire.strR_rest r2;rw[h3]at l3;obtain⟨⟨r4,x4⟩,h4⟩:=Ex (Wire.strR r3);have l4:=Wire.strR_rest r3;rw[h4]at l4;obtain⟨⟨r5,x5⟩,h5⟩:=Ex (Wire.strR r4);have l5:=Wire.strR_rest r4;rw[h5]at l5;dsimp only at l1 l2 l3 l4 l5;have hS:Jr.stepJ ⟨r,bad⟩ Jr.zeroR=(⟨r5,bad⟩,{ Jr.zeroR with step:=x1,op:=x2,addr:=x3,dep:=x4,typ:=x5 }):=by
  unfold Jr.stepJ Sf.numS Sf.strS;simp only[h1,h2,h3,h4,h5]
 rw[hS];have str:∀(r r':Wire.St) (x:List UInt8) (h:Hp),Wire.strR r=(r',x)→h.b[1]?=some (rdr r)→r.rest.length≤100000000→AC 33 [.ptr 1 0] h fun v h'=>v=.str x∧h'=⟨h.b.set 1 (rdr r'),h.t⟩:=fun r r' x h e hb hl=>by
  have:=aqh hb hl;rw[e]at this;exact this
 have num:∀(r r':Wire.St) (x:Int) (h:Hp),Wire.numR r=(r',x)→h.b[1]?=some (rdr r)→r.rest.length≤100000000→AC 75 [.ptr 1 0] h fun v h'=>v=.int .i64 x∧h'=⟨h.b.set 1 (rdr r'),h.t⟩:=fun r r' x h e hb hl=>by
  have:=aqc (i:=1) hb hl;rw[e]at this;exact this
 unfold JB;refine fo ?_;refine azb ti ?_;refine use (num r r1 x1 _ h1 rfl (by omega)) ?_;refine azb ti ?_;refine use (num r1 r2 x2 _ h2 rfl (by omega)) ?_;refine azb ti ?_;refine use (str r2 r3 x3 _ h3 rfl (by omega)) ?_;refine azb ti ?_;refine use (str r3 r4 x4 _ h4 rfl (by omega)) ?_;refine azb ti ?_;refine use (str r4 r5 x5 _ h5 rfl (by omega)) ?_;refine azb ti ?_;exact⟨_,le_refl _,rfl,rfl⟩
theorem avj(s:Sf.Rs)(x:Jr):Jr.stepJ s x=((Jr.stepJ s Jr.zeroR).1,{ x with step:=(Jr.stepJ s Jr.zeroR).2.step,op:=(Jr.stepJ s Jr.zeroR).2.op,addr:=(Jr.stepJ s Jr.zeroR).2.addr,dep:=(Jr.stepJ s Jr.zeroR).2.dep,typ:=(Jr.stepJ s Jr.zeroR).2.typ }):=rfl
theorem avi(s:Sf.Rs)(x:Jr):(Jr.stepJ s x).1.r.rest.length≤s.r.rest.length:=Zl (Sf.strS_le _) (Zl (Sf.strS_le _) (Zl (Sf.strS_le _) (Zl (Sf.numS_le _) (Sf.numS_le _))))
theorem az7{xs ys:List A}{b:Bool}(h:leL xs ys):le (.tup [.agg xs,.bool b]) (.tup [.agg ys,.bool b]):=⟨h,azx _,trivial⟩
theorem cxb(kd st op:Int)(ad dp ty tk:List UInt8):leL [.int .i64 kd,.str [],.int .i64 0,.sl 0 .nil [],.sl 0 .nil [],.sl 0 .nil [],.int .i64 st,.int .i64 op,.str ad,.str dp,.str ty,.str tk,.int .i64 0,.str [],.str [],.str [],.str [],.int .i64 0,.int .i64 0,.str [],.sl 0 .nil [],.sl 0 .nil [],.int .i64 0,.bool false,.bool false,.sl 0 .nil []] (Jr.cells ⟨kd,Sf.zero,st,op,ad,dp,ty,tk,0,Jr.zeroI⟩):=by
 unfold Jr.cells;rw[ajm];exact⟨aza _,aza _,aza _,⟨rfl,.inr rfl,.inl rfl⟩,⟨rfl,.inr rfl,.inl rfl⟩,⟨rfl,.inr rfl,.inl rfl⟩,aza _,aza _,aza _,aza _,aza _,aza _,aza _,aza _,aza _,aza _,aza _,aza _,aza _,aza _,⟨rfl,.inr rfl,.inl rfl⟩,⟨rfl,.inr rfl,.inl rfl⟩,aza _,aza _,aza _,⟨rfl,.inr rfl,.inl rfl⟩,trivial⟩
theorem cyr(kd st op er:Int)(ad dp ty:List UInt8)(af:Sf.Inst):leL ([.int .i64 kd,.str [],.int .i64 0,.sl 0 .nil [],.sl 0 .nil [],.sl 0 .nil [],.int .i64 st,.int .i64 op,.str ad,.str dp,.str ty,.str [],.int .i64 er]++Sf.Inst.cells af) (Jr.cells ⟨kd,Sf.zero,st,op,ad,dp,ty,[],er,af⟩):=
 ⟨aza _,aza _,aza _,⟨rfl,.inr rfl,.inl rfl⟩,⟨rfl,.inr rfl,.inl rfl⟩,⟨rfl,.inr rfl,.inl rfl⟩,aza _,aza _,aza _,aza _,aza _,aza _,aza _,bzx _⟩
theorem dzj(b:Sf.St):leL [.int .i64 1,.str b.lin,.int .i64 b.ser,.sl 13 .no (b.insts.map Sf.Inst.cells),.sl 3 .no (b.pends.map Sf.Pend.cells),.sl 7 .no (b.outs.map Sf.Outp.cells),.int .i64 0,.int .i64 0,.str [],.str [],.str [],.str [],.int .i64 0,.str [],.str [],.str [],.str [],.int .i64 0,.int .i64 0,.str [],.sl 0 .nil [],.sl 0 .nil [],.int .i64 0,.bool false,.bool false,.sl 0 .nil []] (Jr.cells ⟨1,b,0,0,[],[],[],[],0,Jr.zeroI⟩):=by
 unfold Jr.cells;rw[ajm];exact⟨aza _,aza _,aza _,aza _,aza _,aza _,aza _,aza _,aza _,aza _,aza _,aza _,aza _,aza _,aza _,aza _,aza _,aza _,aza _,aza _,⟨rfl,.inr rfl,.inl rfl⟩,⟨rfl,.inr rfl,.inl rfl⟩,aza _,aza _,aza _,⟨rfl,.inr rfl,.inl rfl⟩,trivial⟩
theorem cyb(l:List UInt8):(Crc.ver l).1.length≤l.length:=by
 unfold Crc.ver;split
 ·simp
 ·split
  ·simp only[ZQ];omega
  ·simp
theorem cze(r:Jr)(b:Bool):(A.tup [.agg r.cells,.bool b]).pure=true:=by
 obtain⟨kd,⟨lin,ser,ins,ps,os⟩,st,op,ad,dp,ty,tk,er,⟨a1,a2,a3,a4,⟨k,nn,ss,is,ks⟩,v,tn,fi,ds⟩⟩:=r;simp[A.pure,A.data,Jr.cells,Sf.Inst.cells]
theorem cz8(l:List UInt8)(hl:l.length≤2000000)(h:Hp):AT 36 [.str l] h (.tup [.agg (Jr.recJ l).1.cells,.bool (Jr.recJ l).2]):=by
 refine pcall ?_ (cze _ _) (by simp[A.pure,A.data]) h;refine fo ?_;refine azj ti (ai (axh l) ti) ?_;have l1:=Wire.numR_rest ⟨l,0⟩;refine use (aqc (i:=1) (r:=⟨l,0⟩) rfl (by dsimp only;omega)) ?_;obtain⟨⟨r1,kd⟩,h1⟩:=Ex (Wire.numR ⟨l,0⟩);have hR:Jr.recJ l=((Jr.partJ ⟨r1,false⟩ { Jr.zeroR with kind:=kd }).2,!(Jr.partJ ⟨r1,false⟩ { Jr.zeroR with kind:=kd }).1.fails&&(Jr.partJ ⟨r1,false⟩ { Jr.zeroR with kind:=kd }).1.r.rest.length==0):=by
  unfold Jr.recJ Sf.numS Sf.rd;simp only[h1]
 rw[h1]at l1⊢;dsimp only at l1⊢;have natb:∀n:Nat,(!false&&n==0)=((n:Int)==0):=fun n=>by cases n<;>simp;omega
 unfold Jr.partJ at hR;dsimp only at hR;by_cases k1:kd=1
 ·subst k1;rw[if_pos rfl]at hR;have l3:=Wire.strR_rest r1;have lB:=Sf.strS_len ⟨r1,false⟩;unfold Sf.strS at hR lB;have ct:=fun(h:Hp) hb=>aqh (i:=1) (r:=r1) (h:=h) hb (by omega)
  obtain⟨⟨r2,B⟩,h3⟩:=Ex (Wire.strR r1);dsimp only at hR lB;rw[h3]at hR ct l3 lB;dsimp only at hR ct l3 lB;have cd:=fun h=>cxz B (by omega) (cyb B) (fun ver r hr=>avx _ (Sf.state_in ver ⟨r,false⟩ (by dsimp only;omega))) h
  obtain⟨⟨⟨lin,ser,ins,ps,os⟩,e⟩,h4⟩:=Ex (Sf.decode B);rw[h4]at hR cd;dsimp only[Sf.St.A]at hR cd;refine azb ti ?_;refine use (ct _ rfl) ?_;refine azj ti (ai cd ti) ?_;have cf:=fun(h:Hp) h0 h1=>aqz ⟨r2,e !=0⟩ (h:=h) (i:=2) (k:=1) (by decide) h0 h1
  obtain⟨F,hF⟩:=Ex ((⟨r2,e !=0⟩:Sf.Rs).fails);rw[hF]at cf hR;rw[hR];unfold JB at cf;refine azb ti ?_;refine use (cf _ rfl rfl) ?_;cases F with
  |true=>
   refine azb ti ?_;exact⟨_,az7 (dzj ⟨lin,ser,ins,ps,os⟩),rfl⟩
  |false=>
   refine azb ti ?_;refine use (akt (i:=1) (r:=(⟨r2,e !=0⟩:Sf.Rs).r) rfl) ?_;refine azb ti ?_;exact⟨_,az7 (dzj ⟨lin,ser,ins,ps,os⟩),by rw[natb];rfl⟩
 rw[if_neg k1]at hR;have f1:(kd==1)=false:=by simp[k1]
 by_cases k2:kd=2
 ·subst k2;rw[if_pos rfl]at hR;have cs:=fun(c0 c1 c2 c3 c4 c5 c6 c7 c8 c9 c10 c11 c12 c13 c14 c15 c16 c17 c18 c19 c20 c21 c22 c23 c24 c25:A) (Z:Blk)=>awf ⟨r1,false⟩ c0 c1 c2 c3 c4 c5 c6 c7 c8 c9 c10 c11 c12 c13 c14 c15 c16 c17 c18 c19 c20 c21 c22 c23 c24 c25 (by dsimp only;omega) Z [] []
  have l2:=avi ⟨r1,false⟩ Jr.zeroR;rw[avj]at hR;obtain⟨⟨⟨r2,b2⟩,y⟩,hy⟩:=Ex (Jr.stepJ ⟨r1,false⟩ Jr.zeroR);rw[hy]at cs hR l2;dsimp only at cs hR l2;unfold JB at cs;have l3:=Wire.strR_rest r2;unfold Sf.strS at hR;have ct:=fun(h:Hp) hb=>aqh (i:=1) (r:=r2) (h:=h) hb (by omega)
  obtain⟨⟨r3,tk⟩,h3⟩:=Ex (Wire.strR r2);dsimp only at hR;rw[h3]at hR ct l3;dsimp only at hR ct l3;refine azb ti ?_;refine use (cs _ _ _ _ _ _ _ _ _ _ _ _ _ _ _ _ _ _ _ _ _ _ _ _ _ _ _) ?_;refine azb ti ?_;refine use (ct _ rfl) ?_;refine azb ti ?_;have cf:=fun(h:Hp) h0 h1=>aqz ⟨r3,b2⟩ (h:=h) (i:=2) (k:=1) (by decide) h0 h1
  obtain⟨F,hF⟩:=Ex ((⟨r3,b2⟩:Sf.Rs).fails);rw[hF]at cf hR;rw[hR];unfold JB at cf;refine azb ti ?_;refine use (cf _ rfl rfl) ?_;cases F with
  |true=>
   refine azb ti ?_;exact⟨_,az7 (cxb 2 y.step y.op y.addr y.dep y.typ tk),rfl⟩
  |false=>
   refine azb ti ?_;refine use (akt (i:=1) (r:=(⟨r3,b2⟩:Sf.Rs).r) rfl) ?_;refine azb ti ?_;exact⟨_,az7 (cxb 2 y.step y.op y.addr y.dep y.typ tk),by rw[natb];rfl⟩
 rw[if_neg k2]at hR;have f2:(kd==2)=false:=by simp[k2]
 by_cases k3:kd=3
 ·subst k3;rw[if_pos rfl]at hR;have cs:=fun(c0 c1 c2 c3 c4 c5 c6 c7 c8 c9 c10 c11 c12 c13 c14 c15 c16 c17 c18 c19 c20 c21 c22 c23 c24 c25:A) (Z:Blk)=>awf ⟨r1,false⟩ c0 c1 c2 c3 c4 c5 c6 c7 c8 c9 c10 c11 c12 c13 c14 c15 c16 c17 c18 c19 c20 c21 c22 c23 c24 c25 (by dsimp only;omega) Z [] []
  have l2:=avi ⟨r1,false⟩ Jr.zeroR;rw[avj]at hR;obtain⟨⟨⟨r2,b2⟩,y⟩,hy⟩:=Ex (Jr.stepJ ⟨r1,false⟩ Jr.zeroR);rw[hy]at cs hR l2;dsimp only at cs hR l2;unfold JB at cs;have ci:=fun(h:Hp) h0 h1=>bvr ⟨r2,b2⟩ (by dsimp only;omega) (h:=h) (i:=2) (k:=1) (by decide) h0 h1
  obtain⟨⟨⟨r3,b3⟩,af⟩,h3⟩:=Ex (Jr.instJ ⟨r2,b2⟩);rw[h3]at hR ci;dsimp only at hR ci;obtain⟨a1,a2,a3,a4,⟨k,nn,ss,is,ks⟩,v,tn,fi,ds⟩:=af;unfold JB at ci;simp only[Sf.Inst.cells]at ci;refine azb ti ?_;refine use (cs _ _ _ _ _ _ _ _ _ _ _ _ _ _ _ _ _ _ _ _ _ _ _ _ _ _ _) ?_;refine azb ti ?_;refine use (ci _ rfl rfl) ?_;refine azb ti ?_;have cf:=fun(h:Hp) h0 h1=>aqz ⟨r3,b3⟩ (h:=h) (i:=2) (k:=1) (by decide) h0 h1
  obtain⟨F,hF⟩:=Ex ((⟨r3,b3⟩:Sf.Rs).fails);rw[hF]at cf hR;rw[hR];unfold JB at cf;refine azb ti ?_;refine use (cf _ rfl rfl) ?_;cases F with
  |true=>
   refine azb ti ?_;exact⟨_,az7 (cyr 3 y.step y.op 0 y.addr y.dep y.typ ⟨a1,a2,a3,a4,.mk k nn ss is ks,v,tn,fi,ds⟩),rfl⟩
  |false=>
   refine azb ti ?_;refine use (akt (i:=1) (r:=(⟨r3,b3⟩:Sf.Rs).r) rfl) ?_;refine azb ti ?_;exact⟨_,az7 (cyr 3 y.step y.op 0 y.addr y.dep y.typ ⟨a1,a2,a3,a4,.mk k nn ss is ks,v,tn,fi,ds⟩),by rw[natb];rfl⟩
 rw[if_neg k3]at hR;have f3:(kd==3)=false:=by simp[k3]
 by_cases k4:kd=4
 ·subst k4;rw[if_pos rfl]at hR;have cs:=fun(c0 c1 c2 c3 c4 c5 c6 c7 c8 c9 c10 c11 c12 c13 c14 c15 c16 c17 c18 c19 c20 c21 c22 c23 c24 c25:A) (Z:Blk)=>awf ⟨r1,false⟩ c0 c1 c2 c3 c4 c5 c6 c7 c8 c9 c10 c11 c12 c13 c14 c15 c16 c17 c18 c19 c20 c21 c22 c23 c24 c25 (by dsimp only;omega) Z [] []
  have l2:=avi ⟨r1,false⟩ Jr.zeroR;rw[avj]at hR;obtain⟨⟨⟨r2,b2⟩,y⟩,hy⟩:=Ex (Jr.stepJ ⟨r1,false⟩ Jr.zeroR);rw[hy]at cs hR l2;dsimp only at cs hR l2;unfold JB at cs;unfold Sf.numS at hR;have l3:=Wire.numR_rest r2;have cn:=fun(h:Hp) hb=>aqc (i:=1) (r:=r2) (h:=h) hb (by omega)
  obtain⟨⟨r3,er⟩,h3⟩:=Ex (Wire.numR r2);dsimp only at hR;rw[h3]at hR cn l3;dsimp only at hR cn l3;have ci:=fun(h:Hp) h0 h1=>bvr ⟨r3,b2⟩ (by dsimp only;omega) (h:=h) (i:=2) (k:=1) (by decide) h0 h1
  obtain⟨⟨⟨r4,b4⟩,af⟩,h4⟩:=Ex (Jr.instJ ⟨r3,b2⟩);rw[h4]at hR ci;dsimp only at hR ci;obtain⟨a1,a2,a3,a4,⟨k,nn,ss,is,ks⟩,v,tn,fi,ds⟩:=af;unfold JB at ci;simp only[Sf.Inst.cells]at ci;refine azb ti ?_;refine use (cs _ _ _ _ _ _ _ _ _ _ _ _ _ _ _ _ _ _ _ _ _ _ _ _ _ _ _) ?_;refine azb ti ?_;refine use (cn _ rfl) ?_;refine azb ti ?_;refine use (ci _ rfl rfl) ?_;refine azb ti ?_;have cf:=fun(h:Hp) h0 h1=>aqz ⟨r4,b4⟩ (h:=h) (i:=2) (k:=1) (by decide) h0 h1
  obtain⟨F,hF⟩:=Ex ((⟨r4,b4⟩:Sf.Rs).fails);rw[hF]at cf hR;rw[hR];unfold JB at cf;refine azb ti ?_;refine use (cf _ rfl rfl) ?_;cases F with
  |true=>
   refine azb ti ?_;exact⟨_,az7 (cyr 4 y.step y.op er y.addr y.dep y.typ ⟨a1,a2,a3,a4,.mk k nn ss is ks,v,tn,fi,ds⟩),rfl⟩
  |false=>
   refine azb ti ?_;refine use (akt (i:=1) (r:=(⟨r4,b4⟩:Sf.Rs).r) rfl) ?_;refine azb ti ?_;exact⟨_,az7 (cyr 4 y.step y.op er y.addr y.dep y.typ ⟨a1,a2,a3,a4,.mk k nn ss is ks,v,tn,fi,ds⟩),by rw[natb];rfl⟩
 rw[if_neg k4]at hR;have f4:(kd==4)=false:=by simp[k4]
 refine azb (ai f1 (ai f2 (ai f3 f4))) ?_;have cf:=fun(h:Hp) h0 h1=>aqz ⟨r1,false⟩ (h:=h) (i:=2) (k:=1) (by decide) h0 h1
 obtain⟨F,hF⟩:=Ex ((⟨r1,false⟩:Sf.Rs).fails);rw[hF]at cf hR;rw[hR];unfold JB at cf;refine azb ti ?_;refine use (cf _ rfl rfl) ?_;cases F with
 |true=>
  refine azb ti ?_;exact⟨_,az7 (cxb kd 0 0 [] [] [] []),rfl⟩
 |false=>
  refine azb ti ?_;refine use (akt (i:=1) (r:=(⟨r1,false⟩:Sf.Rs).r) rfl) ?_;refine azb ti ?_;exact⟨_,az7 (cxb kd 0 0 [] [] [] []),by rw[natb];rfl⟩
theorem dqo(n:Nat):((n:Int)==0)=(n==0):=by cases n<;>simp;omega
theorem aj3{xs ys:List A}{n:Nat}(h:leL xs ys):le (.tup [.agg xs,.bool ((n:Int)==0)]) (.tup [.agg ys,.bool (n==0)]):=by rw[dqo];exact az7 h
theorem bjx(s:List UInt8)(hs:s.length≤1000000)(h:Hp):AT 41 [.str s] h (.tup [.agg (Jr.recQ s).1.cells,.bool (Jr.recQ s).2]):=by
 refine pcall ?_ (cze _ _) (by simp[A.pure,A.data]) h;refine fo ?_;obtain⟨R,hR⟩:=Ex (Jr.recQ s);rw[hR];unfold Jr.recQ at hR;have c0:=akn s;obtain⟨⟨⟨l0,e0⟩,k⟩,h0⟩:=Ex (Wire.numR ⟨s,0⟩);have b0:=Wire.numR_rest ⟨s,0⟩;rw[h0]at b0 hR;dsimp only at b0 hR;have c1:=axo h0 (by omega);by_cases he:e0=0
 rotate_left
 ·have q1:(e0 !=0)=true:=by simp[he]
  rw[if_pos he]at hR;subst hR;refine azj q1 (ai c0 (ai c1 ti)) ?_;exact⟨_,az7 (cxb k 0 0 [] [] [] []),rfl⟩
 subst he;rw[if_neg (by decide)]at hR;by_cases k5:k=5
 ·subst k5;rw[if_pos rfl]at hR;subst hR;have c2:=fun h=>axl (l:=l0) (e:=0) h
  refine azj ti (ai c0 (ai c1 (ai c2 ti))) ?_;exact⟨_,aj3 (cxb 5 0 0 [] [] [] []),rfl⟩
 have f5:(k==5)=false:=by simp[k5]
 rw[if_neg k5]at hR;by_cases k1:k=1
 ·subst k1;rw[if_pos rfl]at hR;have lB:=Sf.strS_len ⟨⟨l0,0⟩,false⟩;have eB:(Sf.strS ⟨⟨l0,0⟩,false⟩).2=(Wire.strR ⟨l0,0⟩).2:=rfl;rw[eB]at lB;obtain⟨⟨⟨l2,e2⟩,B⟩,h2⟩:=Ex (Wire.strR ⟨l0,0⟩);rw[h2]at lB hR;dsimp only at lB hR;have c2:=az9 h2 (by omega);have c3:=bjz B (by omega);have c4:=fun h=>axl (l:=l2) (e:=e2) h
  obtain⟨⟨⟨lin,ser,ins,ps,os⟩,eD⟩,hD⟩:=Ex (Sf.decode B);rw[hD]at c3 hR;simp only[Sf.St.A]at c3;dsimp only at hR;by_cases z2:e2=0
  rotate_left
  ·have q2:(e2==0)=false:=by simp[z2]
   rw[q2,ZT,ZT]at hR;subst hR;refine azj q2 (ai c0 (ai c1 (ai c2 (ai c3 (ai c4 ti))))) ?_;exact⟨_,az7 (dzj ⟨lin,ser,ins,ps,os⟩),rfl⟩
  subst z2;by_cases z3:eD=0
  rotate_left
  ·have q3:(eD==0)=false:=by simp[z3]
   rw[q3,Y2,ZT]at hR;subst hR;refine azj q3 (ai c0 (ai c1 (ai c2 (ai c3 (ai c4 ti))))) ?_;exact⟨_,az7 (dzj ⟨lin,ser,ins,ps,os⟩),rfl⟩
  subst z3;rw[show((0:Int)==0&&(0:Int)==0&&l2.length==0)=(l2.length==0)from rfl]at hR;subst hR;refine azj ti (ai c0 (ai c1 (ai c2 (ai c3 (ai c4 ti))))) ?_;exact⟨_,aj3 (dzj ⟨lin,ser,ins,ps,os⟩),rfl⟩
 have f1:(k==1)=false:=by simp[k1]
 rw[if_neg k1]at hR;obtain⟨⟨⟨l1,e1⟩,st⟩,h1⟩:=Ex (Wire.numR ⟨l0,0⟩);have b1:=Wire.numR_rest ⟨l0,0⟩;rw[h1]at b1;obtain⟨⟨⟨l2,e2⟩,op⟩,h2⟩:=Ex (Wire.numR ⟨l1,e1⟩);have b2:=Wire.numR_rest ⟨l1,e1⟩;rw[h2]at b2;obtain⟨⟨⟨l3,e3⟩,ad⟩,h3⟩:=Ex (Wire.strR ⟨l2,e2⟩);have b3:=Wire.strR_rest ⟨l2,e2⟩;rw[h3]at b3;obtain⟨⟨⟨l4,e4⟩,dp⟩,h4⟩:=Ex (Wire.strR ⟨l3,e3⟩);have b4:=Wire.strR_rest ⟨l3,e3⟩;rw[h4]at b4;obtain⟨⟨⟨l5,e5⟩,ty⟩,h5⟩:=Ex (Wire.strR ⟨l4,e4⟩);have b5:=Wire.strR_rest ⟨l4,e4⟩;rw[h5]at b5;simp only[h1,h2,h3,h4,h5]at hR;dsimp only at b1 b2 b3 b4 b5;have d1:=axo h1 (by omega);have d2:=axo h2 (by omega);have d3:=az9 h3 (by omega);have d4:=az9 h4 (by omega);have d5:=az9 h5 (by omega);clear h0 h1 h2 h3 h4 h5;by_cases k2:k=2
 ·subst k2;rw[if_pos rfl]at hR;obtain⟨⟨⟨l6,e6⟩,tk⟩,h6⟩:=Ex (Wire.strR ⟨l5,e5⟩);have d6:=az9 h6 (by omega);have d7:=fun h=>axl (l:=l6) (e:=e6) h
  rw[h6]at hR;dsimp only at hR;by_cases z6:e6=0
  rotate_left
  ·have q6:(e6==0)=false:=by simp[z6]
   rw[q6,ZT]at hR;subst hR;refine azj q6 (ai c0 (ai c1 (ai d1 (ai d2 (ai d3 (ai d4 (ai d5 (ai d6 (ai d7 ti))))))))) ?_;exact⟨_,az7 (cxb 2 st op ad dp ty tk),rfl⟩
  subst z6;rw[show((0:Int)==0&&l6.length==0)=(l6.length==0)from rfl]at hR;subst hR;refine azj ti (ai c0 (ai c1 (ai d1 (ai d2 (ai d3 (ai d4 (ai d5 (ai d6 (ai d7 ti))))))))) ?_;exact⟨_,aj3 (cxb 2 st op ad dp ty tk),rfl⟩
 have f2:(k==2)=false:=by simp[k2]
 rw[if_neg k2]at hR;by_cases k4:k=4
 ·subst k4;rw[if_pos rfl]at hR;obtain⟨⟨⟨l6,e6⟩,er⟩,h6⟩:=Ex (Wire.numR ⟨l5,e5⟩);have b6:=Wire.numR_rest ⟨l5,e5⟩;rw[h6]at hR b6;dsimp only at hR b6;have d6:=axo h6 (by omega);obtain⟨⟨⟨l7,e7⟩,x7,o7⟩,h7⟩:=Ex (Sf.instQ 2 ⟨l6,e6⟩);rw[h7]at hR;dsimp only at hR;have d7:=awb 2 h7 (by omega);have d8:=fun h=>axl (l:=l7) (e:=e7) h
  have hc:=cyr 4 st op er ad dp ty x7;obtain⟨a1,a2,a3,a4,⟨kk,nn,ss,is,ks⟩,v,tn,fi,ds⟩:=x7;simp only[Sf.Inst.cells]at d7;clear h6 h7;cases o7 with
  |false=>
   rw[ZT]at hR;subst hR;refine azj ti (ai c0 (ai c1 (ai d1 (ai d2 (ai d3 ti))))) ?_;refine azj ti (ai d4 (ai d5 (ai d6 (ai d7 (ai d8 ti))))) ?_;exact⟨_,az7 hc,rfl⟩
  |true=>
   rw[Zx]at hR;subst hR;refine azj ti (ai c0 (ai c1 (ai d1 (ai d2 (ai d3 ti))))) ?_;refine azj ti (ai d4 (ai d5 (ai d6 (ai d7 (ai d8 ti))))) ?_;exact⟨_,aj3 (n:=l7.length) hc,rfl⟩
 have f4:(k==4)=false:=by simp[k4]
 rw[if_neg k4]at hR;dsimp only at hR;obtain⟨⟨⟨l7,e7⟩,x7,o7⟩,h7⟩:=Ex (Sf.instQ 2 ⟨l5,e5⟩);rw[h7]at hR;dsimp only at hR;have d7:=awb 2 h7 (by omega);have d8:=fun h=>axl (l:=l7) (e:=e7) h
 have hc:=cyr k st op 0 ad dp ty x7;obtain⟨a1,a2,a3,a4,⟨kk,nn,ss,is,ks⟩,v,tn,fi,ds⟩:=x7;simp only[Sf.Inst.cells]at d7;clear h7;cases o7 with
 |false=>
  rw[ZT]at hR;subst hR;refine azj (ai f5 (ai f1 (ai f2 f4))) (ai c0 (ai c1 (ai d1 (ai d2 (ai d3 (ai d4 (ai d5 (ai d7 (ai d8 ti))))))))) ?_;exact⟨_,az7 hc,rfl⟩
 |true=>
  rw[Zx]at hR;subst hR;refine azj (ai f5 (ai f1 (ai f2 f4))) (ai c0 (ai c1 (ai d1 (ai d2 (ai d3 (ai d4 (ai d5 (ai d7 (ai d8 ti))))))))) ?_;exact⟨_,aj3 (n:=l7.length) hc,rfl⟩
end AX
def LWtr(B b:Nat)(l:List UInt8)(w:World):Prop:=
 B≤b∧∃p v,(p=.pointer none∨p=.pointer (some ⟨b,0,none⟩))∧w.heap[b]?=some (.cells #[p,v] 75 (0,0))∧w.ownsRowF B 5 1 v l.length (Lib.byteCells l)∧v.ownBlock≠some b
def LWtrU(B b:Nat)(l:List UInt8)(w:World):Prop:=
 B≤b∧∃v,w.heap[b]?=some (.cells #[.pointer (some ⟨b,0,none⟩),v] 75 (0,0))∧w.ownsRowF B 5 1 v l.length (Lib.byteCells l)∧v.ownBlock≠some b
theorem LWtrU.lwtr{B b:Nat}{l:List UInt8}{w:World}(h:LWtrU B b l w):LWtr B b l w:=by
 obtain⟨h1,v,h2,h3⟩:=h;exact⟨h1,_,v,.inr rfl,h2,h3⟩
theorem bw0(b:Nat)(w:World)(h0:w.cell? ⟨b,0,none⟩=some (.pointer none))(hsh:w.shape? b=some (75,2))(hfz:w.frozen? ⟨b,0,none⟩=false):
  Calls Tryz.prog 61 #[.pointer (some ⟨b,0,none⟩)] w fun e w'=>e=.returned (.tuple #[])∧w'=w.setCell ⟨b,0,none⟩ (.pointer (some ⟨b,0,none⟩)):=by
 obtain⟨j,hj,hjs⟩:=Zu.1 (show(Tryz.prog.info? 73).map (·.size)=some 2 by kernel_rfl);have hlies:liesAt Tryz.prog Tryz.prog.depth 75 (2/Tryz.prog.cellsOf 75) 0 73 1=true:=by kernel_rfl
 go_enter Tryz.func61,Tryz.ntmps61;go_wp2;rw[Lib.run_to_unsafe w ⟨b,0,none⟩ Tryz.underlying70 Tryz.underlying166 hj (by rw[hjs];decide) hsh (by show 0<2;omega)];simp only[Result.andThen];rw[Oper.upon_value];go_wp2;rw[run_callFunc_extern Tryz.func98 (by kernel_rfl) (by kernel_rfl) (by kernel_rfl) (e:=Extern.AbiNoEscape.same) (by kernel_rfl)];rw[Lib.run_noEscape];simp only[Result.andThen];rw[Oper.upon_value];go_wp2;rw[Lib.run_from_unsafe w ⟨b,0,none⟩ Tryz.underlying166 Tryz.underlying70 hj hsh hlies];simp only[Result.andThen];rw[Oper.upon_value];go_wp2
 go_end0
 exact⟨rfl,rfl⟩
theorem LWtr.used{B b:Nat}{l:List UInt8}{w:World}{p v:Value}(hB:B≤b)(hb:w.heap[b]?=some (.cells #[p,v] 75 (0,0)))(hown:w.ownsRowF B 5 1 v l.length (Lib.byteCells l))(hne:v.ownBlock≠some b):
  LWtrU B b l (w.setCell ⟨b,0,none⟩ (.pointer (some ⟨b,0,none⟩))):=by
 refine⟨hB,v,?_,?_,hne⟩
 ·simp[World.setCell,Z5,hb]
 ·exact hown.kept (row:=some b) ⟨rfl,rfl,rfl,by simp[World.setCell],fun k _ hk=>Below.heap_setCell _ _ _ _ (fun e=>hk (by simp[e]))⟩ (Or.inr hne)
theorem cj1{B b:Nat}{l:List UInt8}{w:World}(h:LWtr B b l w):
  Calls Tryz.prog 26 #[.pointer (some ⟨b,0,none⟩)] w fun e w'=>e=.returned (.int .i64 l.length)∧w'=w:=by
 obtain⟨hB,p,v,hp,hb,hown,hne⟩:=h;obtain⟨c0,c1,hf,hsh,hlt⟩:=azu hb;obtain⟨ao,cap,rfl⟩:∃ao cap,v=.slice ao l.length cap:=by
  rcases hown.2 with⟨hv,h0⟩|⟨g,cap,cur,fz,hv,_⟩
  ·exact⟨none,0,by rw[hv,h0]⟩
  ·exact⟨_,_,hv⟩
 clear hown hp hne hb;go_enter Tryz.func26,Tryz.ntmps26;go_wp2
 go_ret
 exact⟨rfl,rfl⟩
def LF(F:Nat→Prop)(b:Nat)(l:List UInt8)(w:World):Prop:=
 ∃p v,(p=.pointer none∨p=.pointer (some ⟨b,0,none⟩))∧w.heap[b]?=some (.cells #[p,v] 75 (0,0))∧w.ownsRowF 0 5 1 v l.length (Lib.byteCells l)∧v.ownBlock≠some b∧F b∧∀k,v.ownBlock=some k→F k
theorem LF.lwtr{F:Nat→Prop}{b:Nat}{l:List UInt8}{w:World}(h:LF F b l w):LWtr 0 b l w:=by
 obtain⟨p,v,hp,hb,hown,hne,_⟩:=h;exact⟨Zz _,p,v,hp,hb,hown,hne⟩
theorem cjv{F:Nat→Prop}{b:Nat}{l:List UInt8}{w:World}(h:LF F b l w):
  Calls Tryz.prog 61 #[.pointer (some ⟨b,0,none⟩)] w fun e w'=>e=.returned (.tuple #[])∧(∃v,w'.heap[b]?=some (.cells #[.pointer (some ⟨b,0,none⟩),v] 75 (0,0))∧w'.ownsRowF 0 5 1 v l.length (Lib.byteCells l)∧v.ownBlock≠some b∧F b∧∀k,v.ownBlock=some k→F k)∧Fr F w w':=by
 obtain⟨p,v,hp,hb,hown,hne,hF,hFk⟩:=h;obtain⟨c0,c1,hf,hsh,hlt⟩:=azu hb;rcases hp with rfl|rfl
 ·refine(bw0 b w c0 hsh (hf 0)).mono ?_;rintro e w' ⟨rfl,rfl⟩;obtain⟨_,v',hb',hown',hne'⟩:=LWtr.used (B:=0) (Zz _) hb hown hne;have hv:v'=v:=by
   have:=(azu hb').2.1;have h2:(w.setCell ⟨b,0,none⟩ (.pointer (some ⟨b,0,none⟩))).heap[b]?=some (.cells #[.pointer (some ⟨b,0,none⟩),v] 75 (0,0)):=by simp[World.setCell,Z5,hb]
   have h3:=(azu h2).2.1;rw[h3]at this;injection this with this;exact this.symm
  subst hv;exact⟨rfl,⟨v',hb',hown',hne',hF,hFk⟩,Fr.set w b 0 _ hF⟩
 ·refine(Any.Builder_copyCheck_used Tryz.lays240 Tryz.Builder_X72_240 b w c0).mono ?_;rintro e w' ⟨rfl,rfl⟩;exact⟨rfl,⟨v,hb,hown,hne,hF,hFk⟩,Fr.refl F _⟩
theorem cvo{F:Nat→Prop}{b:Nat}{l:List UInt8}{w:World}(h:LF F b l w)(s:List UInt8)(hlen:l.length+s.length≤1000000000):
  Calls Tryz.prog 27 #[.pointer (some ⟨b,0,none⟩),.string ⟨s.toArray⟩] w fun e w'=>e=.returned (.tuple #[.int .i64 s.length,.nilIface])∧LF (fun k=>F k∨w.heap.size≤k) b (l++s) w'∧Fr F w w':=by
 obtain⟨i0,hi,hz0,hz1,hz2⟩:=info_parts aky;go_enter Tryz.func27,Tryz.ntmps27;go_wp2_with fail;(with_reducible refine(cjv h).mono ?_);rintro e w1 ⟨rfl,⟨v,hbk,hown,hne,hF,hFk⟩,hb1⟩;obtain⟨c0,c1,hf,hsh,hlt⟩:=azu hbk;go_wp2_with (at_builtin;refine aq4 _ rfl _ _ 71 9 rfl 5 i0 Tryz.underlying71 Tryz.underlying9 hi hz0 hz1 hz2 _ _ _ rfl hown ⟨s.toArray⟩ rfl ?c3 ?c4 ?_)
 case c3=>rw[size_mk];unfold maxLen;omega
 case c4=>rw[size_mk];omega
 intro v' w2 hown' hgrow hwhere;have hb2:w2.heap[b]?=some (.cells #[.pointer (some ⟨b,0,none⟩),v] 75 (0,0)):=(hgrow.block b hlt (fun e=>hne e.symm)).trans hbk;obtain⟨d0,d1,hf2,_,hlt2⟩:=azu hb2;have f1:=hf2 1;have hown2:w2.ownsRowF 0 5 1 v' (l++s).length (Lib.byteCells (l++s)):=by
  have e1:(⟨s.toArray⟩:ByteArray).size=s.length:=size_mk s;have e2:Lib.byteCells l++Lib.strCells ⟨s.toArray⟩=Lib.byteCells (l++s):=by unfold Lib.strCells Lib.byteCells;simp
  rw[Za,←e2,←e1];exact hown'
 have hne2:=Lib.ownBlock_neF hown2 hb2 (show 75≠5 by decide);have hwb1:=hb1.size
 have Hfin:=kept (show LF (fun k=>F k∨w.heap.size≤k) b (l++s) (w2.setCell ⟨b,1,none⟩ v')from by
  refine⟨_,v',.inr rfl,?_,?_,hne2,.inl hF,fun k hk=>?_⟩
  ·simp[World.setCell,Z5,hb2]
  ·exact hown2.kept (row:=some b) ⟨rfl,rfl,rfl,by simp[World.setCell],fun k _ hk=>Below.heap_setCell _ _ _ _ (fun e=>hk (by simp[e]))⟩ (Or.inr hne2)
  ·rcases hwhere k hk with h1|h1
   ·exact .inl (hFk k h1)
   ·exact .inr (by omega))
 have Hfr:=kept ((hb1.trans (Fr.grown hgrow fun k hk=>hFk k hk)).trans (Fr.set w2 b 1 v' hF));obtain⟨ao,n',cap,rfl⟩:∃ao n' cap,v'=.slice ao n' cap:=by
  rcases hown'.2 with⟨hv,_⟩|⟨g,cap,cur,fz,hv,_⟩
  ·exact⟨_,_,_,hv⟩
  ·exact⟨_,_,_,hv⟩
 clear hown' hown2 hne2 hb2 hbk hown hne hgrow hb1 h hwhere;go_wp2
 go_ret2
 exact⟨by simp,Hfin.out,Hfr.out⟩
theorem by2{F:Nat→Prop}{b:Nat}{l:List UInt8}{w:World}(h:LF F b l w)(h0:l≠[]):
  Calls Tryz.prog 28 #[.pointer (some ⟨b,0,none⟩)] w fun e w'=>e=.returned (.string ⟨l.toArray⟩)∧Fr F w w':=by
 obtain⟨p,v,hp,hbk,hown,hne,hFb,hFk⟩:=h;have hl0:l.length≠0:=by simpa using h0
 obtain⟨g,cap,cur,fz,rfl,hbg,hg,hfz,hnc,hcm,hcs,htake⟩:∃g cap cur fz,v=.slice (some ⟨g,0,none⟩) l.length cap∧0≤g∧w.heap[g]?=some (.cells cur 5 fz)∧fz.2≤l.length*1∧l.length≤cap∧cap≤maxLen∧cur.size=cap*1∧cur.toList.take (l.length*1)=Lib.byteCells l:=by
  rcases hown.2 with⟨_,hz⟩|⟨g,cap,cur,fz,hv,r⟩
  ·exact absurd hz hl0
  ·exact⟨g,cap,cur,fz,hv,r⟩
 have HFg:=kept (hFk g rfl);have c1:w.drew.cell? ⟨b,1,none⟩=some (.slice (some ⟨g,0,none⟩) l.length cap):=(azu hbk).2.1;have hSD:(Builtin.unsafeSliceData_ #[71] 116 #[.slice (some ⟨g,0,none⟩) l.length cap]).run Tryz.prog w.drew=.ok (.pointer (some ⟨g,0,none⟩)) w.drew:=
  Lib.run_unsafeSliceData_row _ _ _ _ _ _ (by omega)
 have hUS:(Builtin.unsafeString_ #[116,3] 9 #[.pointer (some ⟨g,0,none⟩),.int .i64 l.length]).run Tryz.prog w.drew=.ok (.string ⟨l.toArray⟩) (w.drew.freeze ⟨g,0,none⟩ l.length):=by
  refine Lib.run_unsafeString_row w.drew 116 3 9 5 Tryz.underlying116 Tryz.Builder_Extra_169.cellsByte g cur.size (by have hg':w.drew.heap[g]?=some (.cells cur 5 fz):=hg;simp[World.shape?,hg']) l h0 (by omega) (by unfold maxLen at hcm;omega) ?_;intro j x hx;have:=hown.cells (g:=g) rfl j (.int .u8 x.toNat) (by simp[Lib.byteCells,hx]);exact this
 have Hfr:=kept (show Fr F w (w.drew.freeze ⟨g,0,none⟩ l.length)from by
  unfold World.freeze;split
  ·exact⟨rfl,rfl,rfl,Zf _,fun _ _ _=>rfl⟩
  ·refine⟨rfl,rfl,rfl,by simp,fun k hk hn=>?_⟩;have hkg:k≠g:=fun e=>hn (by rw[e];exact HFg.out)
   simp only[Z5,if_neg hkg.symm];rfl)
 clear hown hp hne hbk hnc hcm hcs htake hfz hg hl0 h0 hFk hFb;have mixed:=Tryz.lays169.mixed;go_enter Tryz.func28,Tryz.ntmps28;go_wp2
 go_region_o
 all_goals (go_wp2;go_ret;exact⟨rfl,Hfr.out⟩)
namespace AX
def lwt(l:List UInt8):Blk:=.opq (fun F g w=>LF F g l w) (fun _=>none)
def Lt(h:Hp)(i:Nat)(l:List UInt8):Prop:=h.b[i]?=some (lwt l)∨(l=[]∧h.b[i]?=some (.cells 75 [.nilp,.sl 0 .nil []]))
theorem LF.stable{F:Nat→Prop}{b:Nat}{l:List UInt8}{w w':World}(h:LF F b l w)(hs:∀g,F g→w'.heap[g]?=w.heap[g]?):LF F b l w':=by
 obtain⟨p,v,hp,hb,hown,hne,hF,hFk⟩:=h;refine⟨p,v,hp,(hs b hF).trans hb,⟨hown.1,?_⟩,hne,hF,hFk⟩;rcases hown.2 with h1|⟨g,cap,cur,fz,rfl,h2,h3,h4⟩
 ·exact .inl h1
 ·exact .inr ⟨g,cap,cur,fz,rfl,h2,(hs g (hFk g rfl)).trans h3,h4⟩
theorem Lt.lt{h:Hp}{i:Nat}{l:List UInt8}(hw:Lt h i l):i<h.b.length:=by
 rcases hw with h1|⟨_,h1⟩
 ·exact(Zd.1 h1).1
 ·exact(Zd.1 h1).1
theorem Lt.lf{h:Hp}{i:Nat}{l:List UInt8}{C:Ctx}{G:World→Prop}(hw:Lt h i l)(hI:Inv G C h):LF (fun g=>C.own g=some i) (C.κ i) l C.w:=by
 have hi:i<C.nb:=by rw[←hI.nb];exact hw.lt
 rcases hw with h1|⟨rfl,h1⟩
 ·exact(hI.box i _ h1).1 C.w (fun _ _=>rfl) (Zf _)
 ·obtain⟨cs,k1,k2⟩:=hI.box i _ h1;obtain⟨c0,d0,rfl,e0,k2⟩:=repL_cons.1 k2;obtain⟨c1,d1,rfl,e1,k2⟩:=repL_cons.1 k2;rw[repL_nil]at k2;subst k2;rw[aqp]at e0;subst e0;obtain⟨a,cap,rfl,_,_,e3,e4,_⟩:=rep_sl.1 e1;subst e3;subst e4;exact⟨_,_,.inl rfl,k1,⟨rfl,.inl ⟨rfl,rfl⟩⟩,by simp[Value.ownBlock],hI.ownk i hi,fun k hk=>by simp[Value.ownBlock]at hk⟩
theorem cx6{C:Ctx}{i:Nat}{l:List UInt8}(h:LF (fun g=>C.own g=some i) (C.κ i) l C.w):BlkRep C i (lwt l):=by
 refine⟨fun w' hw _=>LF.stable h hw,fun o x hx=>?_⟩;cases hx
theorem cvw{h:Hp}{i:Nat}{l:List UInt8}(hw:Lt h i l)(s:List UInt8)(hlen:l.length+s.length≤1000000000):
  AC 27 [.ptr i 0,.str s] h fun v h'=>v=.tup [.int .i64 s.length,.nili]∧h'=⟨h.b.set i (lwt (l++s)),h.t⟩:=by
 intro C es hI ha;obtain⟨c,es',rfl,h1,h2⟩:=repL_cons.1 ha;obtain⟨rfl,hi⟩:=rep_ptr.1 h1;obtain rfl:=aqu aqt C es' h2;refine(cvo (hw.lf hI) s hlen).mono ?_;rintro e w' ⟨rfl,m1,m2⟩;have hrep:BlkRep (C.turn w' i true) i (lwt (l++s)):=by
  refine cx6 ?_;obtain⟨p,v,hp,hb,hown,hne,hF,hFk⟩:=m1;have hlt:=(azu hb).2.2.2.2;have hcl:∀k,k<w'.heap.size→(C.own k=some i∨C.w.heap.size≤k)→(C.turn w' i true).own k=some i:=fun k hk hor=>by
   show(if k<C.w.heap.size then C.own k else if true=true∧k<w'.heap.size then some i else none)=some i
   split
   ·rcases hor with h3|h3
    ·exact h3
    ·omega
   ·rw[if_pos ⟨rfl,hk⟩]
  refine⟨p,v,hp,hb,hown,hne,hcl _ hlt hF,fun k hk=>hcl k ?_ (hFk k hk)⟩;rcases hown.2 with⟨rfl,_⟩|⟨g,cap,cur,fz,rfl,_,h3,_⟩
  ·simp[Value.ownBlock]at hk
  ·simp only[Value.ownBlock,Zb]at hk;subst hk;exact(Z0.1 h3).1
 obtain⟨i1,s1⟩:=aq8 (b':=lwt (l++s)) true hI hi m2.os m2.tape m2.output m2.size (fun g hg hne=>m2.block g hg hne) (fun _=>hrep);exact⟨_,_,.tup [.int .i64 s.length,.nili],_,rfl,rfl,i1,s1,rep_tup.2 ⟨_,rfl,repL_cons.2 ⟨_,_,rfl,rep_int.2 rfl,repL_cons.2 ⟨_,_,rfl,bv1.2 rfl,repL_nil.2 rfl⟩⟩⟩,rfl,rfl⟩
theorem cys{h:Hp}{i:Nat}{l:List UInt8}(hw:Lt h i l):AT 26 [.ptr i 0] h (.int .i64 l.length):=by
 intro C es hI ha;obtain⟨c,es',rfl,h1,h2⟩:=repL_cons.1 ha;obtain⟨rfl,hi⟩:=rep_ptr.1 h1;rw[repL_nil]at h2;subst h2;refine(cj1 (hw.lf hI).lwtr).mono ?_;rintro e w' ⟨rfl,rfl⟩;exact⟨C,h,_,_,rfl,rfl,hI,Step.refl C,rep_int.2 rfl,rfl,rfl⟩
theorem cq0{h:Hp}{i:Nat}{l:List UInt8}(hw:Lt h i l)(h0:l≠[]):AC 28 [.ptr i 0] h fun v h'=>v=.str l∧h'=⟨h.b.set i dead,h.t⟩:=by
 intro C es hI ha;obtain⟨c,es',rfl,h1,h2⟩:=repL_cons.1 ha;obtain⟨rfl,hi⟩:=rep_ptr.1 h1;rw[repL_nil]at h2;subst h2;refine(by2 (hw.lf hI) h0).mono ?_;rintro e w' ⟨rfl,m2⟩;obtain⟨i1,s1⟩:=aq8 (b':=dead) false hI hi m2.os m2.tape m2.output m2.size (fun g hg hne=>m2.block g hg hne) (fun _=>⟨fun _ _ _=>trivial,fun o x hx=>by cases hx⟩);exact⟨_,_,.str l,_,rfl,rfl,i1,s1,rep_str.2 rfl,rfl,rfl⟩
def firstA(b:List UInt8):A:=
 match Jr.firstJ b with
 |some (x,n)=> .tup [.agg x.cells,.int .i64 (n:Nat),.bool true]
 |none=> .tup [.agg Jr.zeroR.cells,.int .i64 0,.bool false]
theorem ajr{xs ys:List A}{n:Int}{b:Bool}(h:leL xs ys):le (.tup [.agg xs,.int .i64 n,.bool b]) (.tup [.agg ys,.int .i64 n,.bool b]):=⟨h,azx _,azx _,trivial⟩
theorem bjn(b:List UInt8):(firstA b).pure=true:=by
 have key:∀(r:Jr) (n:Int) (c:Bool),(A.tup [.agg r.cells,.int .i64 n,.bool c]).pure=true:=fun r n c=>by
  obtain⟨kd,⟨lin,ser,ins,ps,os⟩,st,op,ad,dp,ty,tk,er,⟨a1,a2,a3,a4,⟨k,nn,ss,is,ks⟩,v,tn,fi,ds⟩⟩:=r;simp[A.pure,A.data,Jr.cells,Sf.Inst.cells]
 unfold firstA;split<;>exact key _ _ _
theorem cxp(b:List UInt8)(hl:b.length≤2000000)(cE:∀x,Jr.recJ (Sf.strS (Sf.rd b)).2=(x,true)→∀h,AT 8 [.agg x.cells] h (.tup [.str (Jr.enc x).1,.int .i64 (Jr.enc x).2]))(h:Hp):
  AT 15 [.str b] h (firstA b):=by
 refine pcall ?_ (bjn b) (by simp[A.pure,A.data]) h;refine fo ?_;have hz:=cxb 0 0 0 [] [] [] [];have none_:Jr.firstJ b=none→firstA b=.tup [.agg Jr.zeroR.cells,.int .i64 0,.bool false]:=fun e=>by unfold firstA;rw[e]
 by_cases hb:b=[]
 ·subst hb;rw[none_ rfl];refine azj ti ti ?_;exact⟨_,ajr hz,rfl⟩
 have e0:(b == [])=false:=by simp[hb]
 have l1:=Wire.strR_rest ⟨b,0⟩;have lt:=Sf.strS_len (Sf.rd b);have hF:Jr.firstJ b=(let s:=Sf.strS (Sf.rd b);let n:=b.length-s.1.r.rest.length+4;if s.1.r.e≠0∨b.length<n∨1048576<n then none else let x:=Jr.recJ s.2;if x.2=false then none else if(Jr.enc x.1).2≠0∨(Jr.enc x.1).1≠b.take n then none else some (x.1,n)):=by
  conv=>lhs;unfold Jr.firstJ
  rw[if_neg hb]
 obtain⟨⟨r1,t⟩,h1⟩:=Ex (Wire.strR ⟨b,0⟩);have hS:Sf.strS (Sf.rd b)=(⟨r1,false⟩,t):=by unfold Sf.strS Sf.rd;rw[h1]
 rw[hS]at hF lt cE;have cs:=aqh (i:=1) (r:=⟨b,0⟩) (h:=⟨[.cells 44 [.int .i64 0,.str [],.int .i64 0,.sl 0 .nil [],.sl 0 .nil [],.sl 0 .nil [],.int .i64 0,.int .i64 0,.str [],.str [],.str [],.str [],.int .i64 0,.str [],.str [],.str [],.str [],.int .i64 0,.int .i64 0,.str [],.sl 0 .nil [],.sl 0 .nil [],.int .i64 0,.bool false,.bool false,.sl 0 .nil []],rdr ⟨b,0⟩],[]⟩) rfl (by dsimp only;omega);rw[h1]at cs l1;dsimp only at hF lt cE cs l1;have lt':t.length≤b.length:=lt;have cr:=cz8 t (by omega);obtain⟨n,hn⟩:=Ex (b.length-r1.rest.length+4);rw[hn]at hF;have w1:IntKind.i64.wrap ((b.length:Int)-(r1.rest.length:Int))=(b.length:Int)-(r1.rest.length:Int):=wrap64 (by omega) (by omega);have w2:IntKind.i64.wrap ((b.length:Int)-(r1.rest.length:Int)+4)=(n:Int):=by rw[wrap64 (by omega) (by omega)];omega
 refine azj e0 (ai (axh b) ti) ?_;refine use cs ?_;refine azb ti ?_;refine use (akt (i:=1) (r:=r1) rfl) ?_;refine azb (ai w1 w2) ?_;refine use (bxe (i:=1) (r:=r1) rfl) ?_;by_cases g1:r1.e≠0
 ·have q1:(r1.e !=0)=true:=by simp[g1]
  rw[none_ (by rw[hF,if_pos (.inl g1)])];refine azb q1 ?_;exact⟨_,ajr hz,rfl⟩
 have q1:(r1.e !=0)=false:=by simpa using g1
 by_cases g2:b.length<n
 ·have q2:(n:Int)>(b.length:Int):=by omega
  rw[none_ (by rw[hF,if_pos (.inr (.inl g2))])];refine azb (ai q1 q2) ?_;exact⟨_,ajr hz,rfl⟩
 have q2:¬(n:Int)>(b.length:Int):=by omega
 by_cases g3:1048576<n
 ·have q3:(n:Int)>1048576:=by omega
  rw[none_ (by rw[hF,if_pos (.inr (.inr g3))])];refine azb (ai q1 (ai q2 q3)) ?_;exact⟨_,ajr hz,rfl⟩
 have q3:¬(n:Int)>1048576:=by omega
 rw[if_neg (by rintro(e|e|e);exact g1 e;exact g2 e;exact g3 e)]at hF;obtain⟨⟨x,ok⟩,hx⟩:=Ex (Jr.recJ t);rw[hx]at hF cE cr;dsimp only at hF cE cr;cases ok with
 |false=>
  rw[if_pos rfl]at hF;rw[none_ hF];obtain⟨kd,⟨lin,ser,ins,ps,os⟩,st,op,ad,dp,ty,tk,er,⟨a1,a2,a3,a4,⟨k,nn,ss,is,ks⟩,v,tn,fi,ds⟩⟩:=x;simp only[Jr.cells,Sf.Inst.cells,Zo,Zk]at cr;refine azj (ai q1 (ai q2 q3)) (ai cr ti) ?_;exact⟨_,ajr hz,rfl⟩
 |true=>
  rw[if_neg (by decide)]at hF;have ce:=cE x rfl;obtain⟨⟨R,E⟩,hE⟩:=Ex (Jr.enc x);rw[hE]at hF ce;dsimp only at hF ce;have hsome:¬(E≠0∨R≠b.take n)→firstA b=.tup [.agg x.cells,.int .i64 (n:Nat),.bool true]:=fun e=>by unfold firstA;rw[hF,if_neg e]
  have hnone:(E≠0∨R≠b.take n)→firstA b=.tup [.agg Jr.zeroR.cells,.int .i64 0,.bool false]:=fun e=>none_ (by rw[hF,if_pos e])
  clear hF cE hE hx;obtain⟨kd,⟨lin,ser,ins,ps,os⟩,st,op,ad,dp,ty,tk,er,⟨a1,a2,a3,a4,⟨k,nn,ss,is,ks⟩,v,tn,fi,ds⟩⟩:=x;simp only[Jr.cells,Sf.Inst.cells,Zo,Zk]at cr ce hsome;by_cases g4:E≠0
  ·have q4:(E !=0)=true:=by simp[g4]
   rw[hnone (.inl g4)];refine azj (ai q1 (ai q2 (ai q3 q4))) (ai cr (ai ce ti)) ?_;exact⟨_,ajr hz,rfl⟩
  have q4:(E !=0)=false:=by simpa using g4
  have hsl:(0:Int)≤(n:Int)∧(n:Int)≤(b.length:Int):=by omega
  by_cases g5:R≠b.take n
  ·have q5:(R !=b.take n)=true:=by simp[g5]
   rw[hnone (.inr g5)];refine azj (ai q1 (ai q2 (ai q3 (ai q4 (ai q5 hsl))))) (ai cr (ai ce ti)) ?_;exact⟨_,ajr hz,rfl⟩
  have q5:(R !=b.take n)=false:=by simpa using g5
  rw[hsome (by rintro(e|e);exact g4 e;exact g5 e)];refine azj (ai q1 (ai q2 (ai q3 (ai q4 (ai q5 hsl))))) (ai cr (ai ce ti)) ?_;exact Fn rfl
end AX
namespace Jr
end Jr
namespace AX
end AX
end
section
open Go.RowKit
namespace AX
theorem ACall.lift1x{P:Program}{G:World→Prop}{f:FuncId}{x x':A}{args:List A}{b:Blk}{i:Nat}{Q0:A→Blk→Prop}(hx:x.loc 1=true)(hx':x.ren (fun _=>i)=x')(hc:ACall P G f (x::args) ⟨[b],[]⟩ fun v h'=>∃b',h'.b[0]?=some b'∧Q0 v b')
  (ha:A.locL 0 args=true) (hb:b.loc 0) (hq:∀v b',Q0 v b'→v.loc 0=true∧b'.loc 0) {h:Hp} (hh:h.b[i]?=some b):
  ACall P G f (x'::args) h fun v h'=>∃b',Q0 v b'∧h'=⟨h.b.set i b',h.t⟩:=by
 have key:=ACall.lift hc (fun _=>i) (fun a b ha hb _=>by simp at ha hb;omega) (by unfold A.locL;rw[(A.locL0 _ args ha).1];simp only[YT,hx,Bool.and_self]) (fun x hx=>by simp at hx;subst hx;exact(Blk.loc0 _ _ hb).1)
  (fun v h' ⟨b',h1,h2⟩=>⟨(A.loc0 _ v (hq v b' h2).1).1,fun j x hj hx=>by
   have:j=0:=by simpa using hj
   subst this;rw[h1]at hx;injection hx with hx;subst hx
   exact(Blk.loc0 _ _ (hq v b' h2).2).1⟩) (h:=h) (fun j hj=>by
   have:j=0:=by simpa using hj
   subst this
   rw[hh];show some b=some (b.ren _);rw[(Blk.loc0 0 _ hb).2])
 have e:A.renL (fun _=>i) (x::args)=x'::args:=by unfold A.renL;rw[(A.locL0 0 args ha).2,hx']
 rw[e]at key;refine key.mono ?_;rintro v h' ⟨v0,h0,⟨b',h1,h2⟩,rfl,rfl⟩;obtain⟨k1,k2⟩:=hq v0 b' h2;refine⟨b',by rw[(A.loc0 0 v0 k1).2];exact h2,?_⟩;have:h0.b.take [b].length=[b']:=by
  obtain⟨_|⟨x,l⟩,t0⟩:=h0
  ·simp at h1
  ·simp at h1;subst h1;simp
 rw[this];show(⟨setAll _ h.b 0 [b'],h.t⟩:Hp)=_
 unfold setAll setAll;rw[(Blk.loc0 0 _ k2).2]
def jwB(s:List UInt8):Blk:=.cells 62 [.str s]
theorem byj(s:List UInt8):(jwB s).loc 0:=rfl
section
variable {f:FuncId} {x x':A} {args:List A} {s s':List UInt8} {h:Hp} {i:Nat}
theorem liftJ(hx:x.loc 1=true)(hx':x.ren (fun _=>i)=x')(hc:AC f (x::args) ⟨[jwB s],[]⟩ fun v h'=>v=.tup []∧h'.b[0]?=some (jwB s'))(ha:A.locL 0 args=true)(hb:h.b[i]?=some (jwB s)):
  AC f (x'::args) h fun v h'=>v=.tup []∧h'=⟨h.b.set i (jwB s'),h.t⟩:=by
 refine(ACall.lift1x (Q0:=fun v b'=>v=.tup []∧b'=jwB s') hx hx' (hc.mono fun v h' ⟨e,hp⟩=>⟨_,hp,e,rfl⟩) ha (byj s) ?_ hb).mono ?_
 ·rintro v b' ⟨rfl,rfl⟩;exact⟨rfl,byj s'⟩
 ·rintro v h' ⟨b',⟨rfl,rfl⟩,rfl⟩;exact⟨rfl,rfl⟩
end
theorem ajk(s:List UInt8)(n:Int)(hs:s.length≤1000000000)(h0:-9223372036854775808≤n)(h1:n≤9223372036854775807){h:Hp}{i:Nat}(hb:h.b[i]?=some (jwB s)):
  AC 19 [.ptr i 0,.int .i64 n] h fun v h'=>v=.tup []∧h'=⟨h.b.set i (jwB (s++Wire.num n)),h.t⟩:=by
 refine liftJ (x:=.ptr 0 0) rfl rfl ?_ rfl hb;have c:=aqo s n hs h0 h1;refine fo ?_;unfold jwB;refine azj ti (ai c ti) ?_;exact⟨_,le_refl _,rfl,rfl⟩
theorem cv5(dst s:List UInt8)(hlen:dst.length+s.length+10≤1000000000)(h:Hp):AT 25 [.str dst,.str s] h (.str (dst++Wire.strE s)):=by
 refine pcall ?_ rfl (by simp[A.pure,A.data]) h;have c:=aqo dst s.length (by omega) (by omega) (by omega);refine fo ?_;have hn:(Wire.num s.length).length≤10:=(Wire.encF_len 9 (Wire.zig s.length)).2;have hsum:dst.length+(Wire.num s.length).length+s.length<1099511627776:=by omega
 refine azj hsum (ai c ti) ?_;exact⟨_,le_refl _,by rw[azi,Wire.strE,Zg]⟩
theorem bvp(s t:List UInt8)(hs:s.length+t.length+10≤1000000000){h:Hp}{i:Nat}(hb:h.b[i]?=some (jwB s)):
  AC 21 [.ptr i 0,.str t] h fun v h'=>v=.tup []∧h'=⟨h.b.set i (jwB (s++Wire.strE t)),h.t⟩:=by
 refine liftJ (x:=.ptr 0 0) rfl rfl ?_ rfl hb;have c:=cv5 s t hs;refine fo ?_;unfold jwB;refine azj ti (ai c ti) ?_;exact⟨_,le_refl _,rfl,rfl⟩
def flagN(b:Bool):Int:=if b=true then 1 else 0
theorem cx9(s:List UInt8)(b:Bool)(hs:s.length≤1000000000){h:Hp}{i:Nat}(hb:h.b[i]?=some (jwB s)):
  AC 58 [.ptr i 0,.bool b] h fun v h'=>v=.tup []∧h'=⟨h.b.set i (jwB (s++Wire.num (flagN b))),h.t⟩:=by
 refine liftJ (x:=.ptr 0 0) rfl rfl ?_ rfl hb;have c1:=ajk s 1 hs (by omega) (by omega) (h:=⟨[jwB s],[]⟩) (i:=0) rfl;have c0:=ajk s 0 hs (by omega) (by omega) (h:=⟨[jwB s],[]⟩) (i:=0) rfl;refine fo ?_;cases b
 ·refine azb ti ?_;refine use c0 ?_;refine azb ti ?_;exact⟨_,le_refl _,rfl,rfl⟩
 ·refine azb ti ?_;refine use c1 ?_;refine azb ti ?_;exact⟨_,le_refl _,rfl,rfl⟩
theorem bzf(s:List UInt8)(l:List (List UInt8))(hs:s.length+(l.flatMap Wire.strE).length+10≤1000000000)(hn:l.length≤1000000000){h:Hp}{i:Nat}(hb:h.b[i]?=some (jwB s)):
  AC 55 [.fn (21+1000000) [.ptr i 0],.sl 1 .no (l.map fun x=>[A.str x])] h fun v h'=>v=.tup []∧h'=⟨h.b.set i (jwB (s++l.flatMap Wire.strE)),h.t⟩:=by
 refine liftJ (x:=.fn (21+1000000) [.ptr 0 0]) rfl rfl ?_ rfl hb;have li:(l.map fun x=>[A.str x]).length=l.length:=Zj _;refine fo ?_;refine azb li ?_;refine azf (fun m ts hh=>∃j:Nat,m=l.length-j∧j≤l.length∧hh=⟨[jwB (s++(l.take j).flatMap Wire.strE)],[]⟩∧(ts 0=.fn (21+1000000) [.ptr 0 0]∧ts 6=.sl 1 .no (l.map fun x=>[A.str x])∧ts 7=.int .i64 (l.length:Nat)∧ts 8=.int .i64 (j:Nat))) l.length ?_ ?_
 ·exact⟨0,rfl,Zz _,by simp,by(exact azq li)⟩
 rintro m ts hh ⟨j,rfl,hj,rfl,ht⟩;rcases Z7 j l.length with hlt|hge
 ·have hf:(l.map fun x=>[A.str x]).length=l.length∧(j:Int)<(l.length:Int)∧(0:Int)≤(j:Int)∧(l.map fun x=>[A.str x]).getD j []=(fun x=>[A.str x]) l[j]∧IntKind.i64.wrap ((j:Int)+1)=((j+1:Nat):Int):=
   ⟨li,by omega,by omega,by simp[List.getD,hlt],by rw[wrap64 (by omega) (by omega)];omega⟩
  have e:l.take (j+1)=l.take j++[l[j]]:=(List.take_append_getElem hlt).symm;have e2:(l.take (j+1)).flatMap Wire.strE=(l.take j).flatMap Wire.strE++(Wire.strE) l[j]:=by rw[e,Yn];simp
  have hle:((l.take (j+1)).flatMap Wire.strE).length≤(l.flatMap Wire.strE).length:=by
   conv=>rhs;rw[←Yq (j+1) l]
   rw[Yn,Za];omega
  have hm:=Zt hlt;have hx:l[j].length≤(Wire.strE l[j]).length:=by unfold Wire.strE;rw[Za];omega
  have c:=bvp (s++(l.take j).flatMap Wire.strE) l[j] (by rw[Za];rw[e2,Za]at hle;omega) (h:=⟨[jwB (s++(l.take j).flatMap Wire.strE)],[]⟩) (i:=0) rfl;have e3:s++(l.take j).flatMap Wire.strE++(Wire.strE) l[j]=s++(l.take (j+1)).flatMap Wire.strE:=by rw[Zg,←e2]
  replace e3:_:=congrArg jwB e3
  rw[e3]at c;obtain⟨x,hx'⟩:=Ex (l[j]);rw[hx']at hf c;dsimp only at hf;refine azb (ai ht hf) ?_;refine use c ?_;refine azb (ai ht hf) ?_;exact⟨_,by omega,j+1,rfl,by omega,rfl,by(exact azq (ai ht hf))⟩
 ·have hf:¬(j:Int)<(l.length:Int):=by omega
  rw[ZD hge];refine azb (ai ht hf) ?_;exact⟨_,le_refl _,rfl,rfl⟩
theorem cvn(s:List UInt8)(l:List Int)(hb0:∀x∈l,-9223372036854775808≤x∧x≤9223372036854775807)(hs:s.length+(l.flatMap Wire.num).length+10≤1000000000)(hn:l.length≤1000000000){h:Hp}{i:Nat}(hb:h.b[i]?=some (jwB s)):
  AC 54 [.fn (19+1000000) [.ptr i 0],.sl 1 .no (l.map fun x=>[A.int .i64 x])] h fun v h'=>v=.tup []∧h'=⟨h.b.set i (jwB (s++l.flatMap Wire.num)),h.t⟩:=by
 refine liftJ (x:=.fn (19+1000000) [.ptr 0 0]) rfl rfl ?_ rfl hb;have li:(l.map fun x=>[A.int .i64 x]).length=l.length:=Zj _;refine fo ?_;refine azb li ?_;refine azf (fun m ts hh=>∃j:Nat,m=l.length-j∧j≤l.length∧hh=⟨[jwB (s++(l.take j).flatMap Wire.num)],[]⟩∧(ts 0=.fn (19+1000000) [.ptr 0 0]∧ts 6=.sl 1 .no (l.map fun x=>[A.int .i64 x])∧ts 7=.int .i64 (l.length:Nat)∧ts 8=.int .i64 (j:Nat))) l.length ?_ ?_
 ·exact⟨0,rfl,Zz _,by simp,by(exact azq li)⟩
 rintro m ts hh ⟨j,rfl,hj,rfl,ht⟩;rcases Z7 j l.length with hlt|hge
 ·have hf:(l.map fun x=>[A.int .i64 x]).length=l.length∧(j:Int)<(l.length:Int)∧(0:Int)≤(j:Int)∧(l.map fun x=>[A.int .i64 x]).getD j []=(fun x=>[A.int .i64 x]) l[j]∧IntKind.i64.wrap ((j:Int)+1)=((j+1:Nat):Int):=
   ⟨li,by omega,by omega,by simp[List.getD,hlt],by rw[wrap64 (by omega) (by omega)];omega⟩
  have e:l.take (j+1)=l.take j++[l[j]]:=(List.take_append_getElem hlt).symm;have e2:(l.take (j+1)).flatMap Wire.num=(l.take j).flatMap Wire.num++(Wire.num) l[j]:=by rw[e,Yn];simp
  have hle:((l.take (j+1)).flatMap Wire.num).length≤(l.flatMap Wire.num).length:=by
   conv=>rhs;rw[←Yq (j+1) l]
   rw[Yn,Za];omega
  have hm:=Zt hlt
  skip
  have c:=ajk (s++(l.take j).flatMap Wire.num) l[j] (by rw[Za];rw[e2,Za]at hle;omega) (hb0 _ hm).1 (hb0 _ hm).2 (h:=⟨[jwB (s++(l.take j).flatMap Wire.num)],[]⟩) (i:=0) rfl;have e3:s++(l.take j).flatMap Wire.num++(Wire.num) l[j]=s++(l.take (j+1)).flatMap Wire.num:=by rw[Zg,←e2]
  replace e3:_:=congrArg jwB e3
  rw[e3]at c;obtain⟨x,hx'⟩:=Ex (l[j]);rw[hx']at hf c;dsimp only at hf;refine azb (ai ht hf) ?_;refine use c ?_;refine azb (ai ht hf) ?_;exact⟨_,by omega,j+1,rfl,by omega,rfl,by(exact azq (ai ht hf))⟩
 ·have hf:¬(j:Int)<(l.length:Int):=by omega
  rw[ZD hge];refine azb (ai ht hf) ?_;exact⟨_,le_refl _,rfl,rfl⟩
theorem cvb(s:List UInt8)(l:List Bool)(hs:s.length+(l.flatMap (fun b=>Wire.num (flagN b))).length+10≤1000000000)(hn:l.length≤1000000000){h:Hp}{i:Nat}(hb:h.b[i]?=some (jwB s)):
  AC 57 [.fn (58+1000000) [.ptr i 0],.sl 1 .no (l.map fun x=>[A.bool x])] h fun v h'=>v=.tup []∧h'=⟨h.b.set i (jwB (s++l.flatMap (fun b=>Wire.num (flagN b)))),h.t⟩:=by
 refine liftJ (x:=.fn (58+1000000) [.ptr 0 0]) rfl rfl ?_ rfl hb;have li:(l.map fun x=>[A.bool x]).length=l.length:=Zj _;refine fo ?_;refine azb li ?_;refine azf (fun m ts hh=>∃j:Nat,m=l.length-j∧j≤l.length∧hh=⟨[jwB (s++(l.take j).flatMap (fun b=>Wire.num (flagN b)))],[]⟩∧(ts 0=.fn (58+1000000) [.ptr 0 0]∧ts 6=.sl 1 .no (l.map fun x=>[A.bool x])∧ts 7=.int .i64 (l.length:Nat)∧ts 8=.int .i64 (j:Nat))) l.length ?_ ?_
 ·exact⟨0,rfl,Zz _,by simp,by(exact azq li)⟩
 rintro m ts hh ⟨j,rfl,hj,rfl,ht⟩;rcases Z7 j l.length with hlt|hge
 ·have hf:(l.map fun x=>[A.bool x]).length=l.length∧(j:Int)<(l.length:Int)∧(0:Int)≤(j:Int)∧(l.map fun x=>[A.bool x]).getD j []=(fun x=>[A.bool x]) l[j]∧IntKind.i64.wrap ((j:Int)+1)=((j+1:Nat):Int):=
   ⟨li,by omega,by omega,by simp[List.getD,hlt],by rw[wrap64 (by omega) (by omega)];omega⟩
  have e:l.take (j+1)=l.take j++[l[j]]:=(List.take_append_getElem hlt).symm;have e2:(l.take (j+1)).flatMap (fun b=>Wire.num (flagN b))=(l.take j).flatMap (fun b=>Wire.num (flagN b))++((fun b=>Wire.num (flagN b))) l[j]:=by rw[e,Yn];simp
  have hle:((l.take (j+1)).flatMap (fun b=>Wire.num (flagN b))).length≤(l.flatMap (fun b=>Wire.num (flagN b))).length:=by
   conv=>rhs;rw[←Yq (j+1) l]
   rw[Yn,Za];omega
  have hm:=Zt hlt
  skip
  have c:=cx9 (s++(l.take j).flatMap fun b=>Wire.num (flagN b)) l[j] (by rw[Za];rw[e2,Za]at hle;omega) (h:=⟨[jwB (s++(l.take j).flatMap (fun b=>Wire.num (flagN b)))],[]⟩) (i:=0) rfl;have e3:s++(l.take j).flatMap (fun b=>Wire.num (flagN b))++((fun b=>Wire.num (flagN b))) l[j]=s++(l.take (j+1)).flatMap (fun b=>Wire.num (flagN b)):=by rw[Zg,←e2]
  replace e3:_:=congrArg jwB e3
  rw[e3]at c;obtain⟨x,hx'⟩:=Ex (l[j]);rw[hx']at hf c;dsimp only at hf;refine azb (ai ht hf) ?_;refine use c ?_;refine azb (ai ht hf) ?_;exact⟨_,by omega,j+1,rfl,by omega,rfl,by(exact azq (ai ht hf))⟩
 ·have hf:¬(j:Int)<(l.length:Int):=by omega
  rw[ZD hge];refine azb (ai ht hf) ?_;exact⟨_,le_refl _,rfl,rfl⟩
end AX
end
end Go.Proofs.YtdgcbckcameggacGreatDoor
