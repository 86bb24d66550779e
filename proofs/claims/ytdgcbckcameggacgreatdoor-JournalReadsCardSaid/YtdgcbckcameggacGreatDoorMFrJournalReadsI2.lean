/- Part of what the proof needs. -/
import Derived.Test.YtdgcbckcameggacGreatDoorMFrJournalReadsI
import Derived.Test.YtdgcbckcameggacGreatDoorRows
set_option maxHeartbeats 4000000
set_option maxRecDepth 100000
set_option linter.all false
namespace Go.Proofs.YtdgcbckcameggacGreatDoor
section
open Go.RowKit
namespace AX
theorem cko:leL [.str [],.int .i64 0,.sl 0 .nil [],.sl 0 .nil [],.sl 0 .nil []] [.str [],.int .i64 0,.sl 13 .no [],.sl 3 .no [],.sl 7 .no []]:=⟨aza _,aza _,⟨rfl,.inr rfl,.inl rfl⟩,⟨rfl,.inr rfl,.inl rfl⟩,⟨rfl,.inr rfl,.inl rfl⟩,trivial⟩
theorem cw0(b:Bool):le (.tup [.agg [.str [],.int .i64 0,.sl 0 .nil [],.sl 0 .nil [],.sl 0 .nil []],.bool b]) (.tup [Sf.zero.A,.bool b]):=⟨cko,azx _,trivial⟩
theorem bke(l:List UInt8):(Crc.ver l).1.length≤l.length:=by
 unfold Crc.ver;split
 ·simp
 ·split
  ·simp only[ZQ];omega
  ·simp
theorem bws(ver:Int)(hver:ver=1∨ver=2){l:List UInt8}{e:Int}{qs:Sf.St}{qb:Bool}(hq:Sf.stateQ ver ⟨l,e⟩=(qs,qb))(hl:l.length≤2000000)(h:Hp):
  AT 121 [.agg [.str l,.int .i64 e],.int .i64 ver] h (.tup [qs.A,.bool qb]):=by
 refine pcall ?_ rfl (by simp[A.pure,A.data]) h;refine fo ?_;obtain⟨⟨⟨l1,e1⟩,x1⟩,h1⟩:=Ex (Wire.strR ⟨l,e⟩);have b1:=Wire.strR_rest ⟨l,e⟩;have lx1:=Sf.strS_len ⟨⟨l,e⟩,false⟩;have lx1e:(Sf.strS ⟨⟨l,e⟩,false⟩).2=(Wire.strR ⟨l,e⟩).2:=rfl;rw[lx1e]at lx1;rw[h1]at b1 lx1;obtain⟨⟨⟨l2,e2⟩,x2⟩,h2⟩:=Ex (Wire.numR ⟨l1,e1⟩);have b2:=Wire.numR_rest ⟨l1,e1⟩;rw[h2]at b2;obtain⟨⟨⟨l3,e3⟩,c3⟩,h3⟩:=Ex (Wire.cntR ⟨l2,e2⟩ 1);have b3:=Wire.cntR_rest ⟨l2,e2⟩ 1;have k3:=Wire.cntR_cnt ⟨l2,e2⟩;rw[h3]at b3 k3;dsimp only at b1 b2 b3 k3 lx1;have c1:=az9 h1 (by omega);have c2:=axo h2 (by omega);have c3':=ay7 h3 (by omega);unfold Sf.stateQ at hq;simp only[h1,h2,h3]at hq;obtain⟨R,hR⟩:=Ex (Sf.instsQ ver c3 ⟨l3,e3⟩ []);rw[hR]at hq;refine azj ti (ai c1 (ai c2 (ai c3' ti))) ?_
 refine azf (fun mm ts h=>∃(j:Nat) (lp:List UInt8) (ep:Int) (xs:List Sf.Inst) (W:Nat) (o:Own) (bl:List Blk) (t:List (TypeId×Nat×Nat)),mm=c3-j∧j≤c3 ∧
  h=⟨.cells 94 [.str lp,.int .i64 ep] :: .cells 33 [.str [],.int .i64 0,.sl 0 .nil [],.sl 0 .nil [],.sl 0 .nil []] :: .cells 33 [.str x1,.int .i64 x2,.sl W o (xs.map Sf.Inst.cells),.sl 0 .nil [],.sl 0 .nil []]::bl,t⟩ ∧
  Sf.instsQ ver (c3-j) ⟨lp,ep⟩ xs=R∧xs.length=j∧(∀x∈xs,Sf.InstT x)∧lp.length≤l3.length∧Gs 42 13 0 ⟨[],t⟩ (xs.map Sf.Inst.cells) (.sl W o (xs.map Sf.Inst.cells)) ∧
  (ts 1=.int .i64 ver∧ts 2=.ptr 0 0∧ts 4=.ptr 1 0∧ts 6=.ptr 2 0∧ts 7=.int .i64 (c3:Nat)∧ts 8=.int .i64 (j:Nat))) c3 ?_ ?_
 ·exact⟨0,l3,e3,[],0,.nil,[],[],by omega,by omega,rfl,hR,rfl,by simp,Zf _,.inl ⟨rfl,rfl⟩,by(exact azq ti)⟩
 clear h1 h2 h3 c1 c2 c3' hR;rintro mm ts h ⟨j,lp,ep,xs,W,o,bl,t,rfl,hjc,rfl,hit,hdl,hxs,hpl,gX,ht⟩;by_cases hj:j<c3
 ·have hlt:(j:Int)<(c3:Int):=by omega
  have ei:IntKind.i64.wrap ((j:Int)+1)=((j+1:Nat):Int):=by rw[wrap64 (by omega) (by omega)];omega
  rw[show c3-j=(c3-(j+1))+1 by omega]at hit;unfold Sf.instsQ at hit;have hin:=Sf.instQ_in ver hver ⟨lp,ep⟩;obtain⟨⟨⟨l4,e4⟩,x4,o4⟩,h4⟩:=Ex (Sf.instQ ver ⟨lp,ep⟩);have c4:=awb ver h4 (by omega);rw[h4]at hit hin;dsimp only at hit hin;cases o4 with
  |false=>
   rw[if_pos rfl]at hit;subst hit;dsimp only at hq;injection hq with q1 q2;subst q1;subst q2;have hzc:Sf.Inst.cells x4=Sf.Inst.cells x4:=rfl;obtain⟨a1,a2,a3,a4,⟨k,nn,ss,is,ks⟩,v,tn,fi,ds⟩:=x4;simp only[Sf.Inst.cells]at c4;refine azj (ai ht hlt) (ai c4 ti) ?_;exact⟨_,cw0 _,rfl⟩
  |true=>
   rw[if_neg (by decide)]at hit;obtain⟨hi1,hi2⟩:=hin rfl (by omega);obtain⟨W',o',t',hX,gX',_⟩:=gX.grow 184 (Sf.Inst.cells x4) (by rw[Zj];omega) (by decide);have em:xs.map Sf.Inst.cells++[Sf.Inst.cells x4]=(xs++[x4]).map Sf.Inst.cells:=by simp
   rw[em]at gX';simp only[em]at hX;obtain⟨xs2,hos⟩:=Ex (xs++[x4]);have hol:xs2.length=j+1:=by rw[←hos];simp[hdl]
   have hxs2:∀x∈xs2,Sf.InstT x:=fun x hx=>by
    rw[←hos]at hx;rcases Yz.1 hx with hx|hx
    ·exact hxs x hx
    ·rw[Yw.1 hx];exact hi1
   rw[hos]at gX' hX hit;clear hos em hi1 hin h4;obtain⟨a1,a2,a3,a4,⟨k,nn,ss,is,ks⟩,v,tn,fi,ds⟩:=x4;simp only[Sf.Inst.cells]at c4 hX;refine azj (ai ht (ai hlt (ai hX ei))) (ai c4 ti) ?_;exact⟨c3-(j+1),by omega,j+1,l4,e4,xs2,W',o',_,t',rfl,by omega,rfl,hit,hol,hxs2,by omega,gX',by(exact azq (ai ht ei))⟩
 have hxl:xs.length≤2000000:=by omega
 have hlt:¬((j:Int)<(c3:Int)):=by omega
 rw[show c3-j=0 by omega,Sf.instsQ]at hit;subst hit;dsimp only at hq;obtain⟨⟨⟨lp2,ep2⟩,ps⟩,hps⟩:=Ex ((if ver≥2 then Sf.pendsQ (Wire.cntR ⟨lp,ep⟩ 1).2 (Wire.cntR ⟨lp,ep⟩ 1).1 []else(⟨lp,ep⟩,[])));rw[hps]at hq;dsimp only at hq;refine azj (ai ht hlt) ti ?_
 refine aj8 (fun ts' h'=>∃(W2:Nat) (o2:Own) (bl2:List Blk) (t2:List (TypeId×Nat×Nat)),h'=⟨.cells 94 [.str lp2,.int .i64 ep2] :: .cells 33 [.str [],.int .i64 0,.sl 0 .nil [],.sl 0 .nil [],.sl 0 .nil []] :: .cells 33 [.str x1,.int .i64 x2,.sl W o (xs.map Sf.Inst.cells),.sl W2 o2 (ps.map Sf.Pend.cells),.sl 0 .nil []]::bl2,t2⟩ ∧
  Gs 42 13 0 ⟨[],t2⟩ (xs.map Sf.Inst.cells) (.sl W o (xs.map Sf.Inst.cells))∧Gs 123 3 0 ⟨[],t2⟩ (ps.map Sf.Pend.cells) (.sl W2 o2 (ps.map Sf.Pend.cells))∧lp2.length≤lp.length∧(∀x∈ps,Sf.PendT x)∧ps.length≤2000000 ∧
  (ts' 2=.ptr 0 0∧ts' 4=.ptr 1 0∧ts' 6=.ptr 2 0)) ?_ ?_
 ·by_cases hv:ver≥2
  rotate_left
  ·rw[if_neg hv]at hps;injection hps with q1 q2;injection q1 with q0 q1;subst q0;subst q1;subst q2;refine azj (ai ht hv) ti ?_;exact⟨0,.nil,bl,t,rfl,gX,.inl ⟨rfl,rfl⟩,Zf _,by simp,by simp,by(exact azq ht)⟩
  rw[if_pos hv]at hps;obtain⟨⟨⟨l5,e5⟩,c5⟩,h5⟩:=Ex (Wire.cntR ⟨lp,ep⟩ 1);have b5:=Wire.cntR_rest ⟨lp,ep⟩ 1;have k5:=Wire.cntR_cnt ⟨lp,ep⟩;rw[h5]at b5 k5 hps;dsimp only at b5 k5 hps;have cc5:=ay7 h5 (by omega);refine azj (ai ht hv) (ai cc5 ti) ?_
  refine azf (fun mm ts h=>∃(j:Nat) (lq:List UInt8) (eq:Int) (pp:List Sf.Pend) (W2:Nat) (o2:Own) (bl:List Blk) (t:List (TypeId×Nat×Nat)),mm=c5-j∧j≤c5 ∧
   h=⟨.cells 94 [.str lq,.int .i64 eq] :: .cells 33 [.str [],.int .i64 0,.sl 0 .nil [],.sl 0 .nil [],.sl 0 .nil []] :: .cells 33 [.str x1,.int .i64 x2,.sl W o (xs.map Sf.Inst.cells),.sl W2 o2 (pp.map Sf.Pend.cells),.sl 0 .nil []]::bl,t⟩ ∧
   Sf.pendsQ (c5-j) ⟨lq,eq⟩ pp=(⟨lp2,ep2⟩,ps)∧pp.length=j∧(∀x∈pp,Sf.PendT x)∧lq.length≤l5.length∧Gs 42 13 0 ⟨[],t⟩ (xs.map Sf.Inst.cells) (.sl W o (xs.map Sf.Inst.cells))∧Gs 123 3 0 ⟨[],t⟩ (pp.map Sf.Pend.cells) (.sl W2 o2 (pp.map Sf.Pend.cells)) ∧
   (ts 2=.ptr 0 0∧ts 4=.ptr 1 0∧ts 6=.ptr 2 0∧ts 7=.int .i64 (c5:Nat)∧ts 12=.int .i64 (j:Nat))) c5 ?_ ?_
  ·exact⟨0,l5,e5,[],0,.nil,bl,t,by omega,by omega,rfl,hps,rfl,by simp,Zf _,gX,.inl ⟨rfl,rfl⟩,by(exact azq ht)⟩
  clear ht h5 cc5 gX hlt hjc;clear hps bl t ts;rintro mm ts h ⟨j2,lq,eq,pp,W2,o2,bl,t,rfl,hjc,rfl,hit,hdl2,hpp,hpl2,gX,gY,ht⟩;by_cases hj2:j2<c5
  rotate_left
  ·have hlt:¬((j2:Int)<(c5:Int)):=by omega
   rw[show c5-j2=0 by omega,Sf.pendsQ]at hit;injection hit with q1 q2;injection q1 with q0 q1;subst q0;subst q1;subst q2;refine azc (ai ht hlt) ti ?_;exact⟨W2,o2,bl,t,rfl,gX,gY,by omega,hpp,by omega,by(exact azq ht)⟩
  have hlt:(j2:Int)<(c5:Int):=by omega
  have ei:IntKind.i64.wrap ((j2:Int)+1)=((j2+1:Nat):Int):=by rw[wrap64 (by omega) (by omega)];omega
  rw[show c5-j2=(c5-(j2+1))+1 by omega]at hit;unfold Sf.pendsQ at hit;by_cases he:eq=0
  rotate_left
  ·have he':(eq==0)=false:=by simp[he]
   rw[if_pos he]at hit;injection hit with q1 q2;injection q1 with q0 q1;subst q0;subst q1;subst q2;refine azc (ai ht (ai hlt he')) ti ?_;exact⟨W2,o2,bl,t,rfl,gX,gY,by omega,hpp,by omega,by(exact azq ht)⟩
  have he':(eq==0)=true:=by simp[he]
  rw[if_neg (show¬(eq≠0) by simp[he])]at hit;have hpi:=Sf.pendQ_in ⟨lq,eq⟩ (by dsimp only;omega);obtain⟨⟨⟨m1,f1⟩,y1⟩,g1⟩:=Ex (Wire.strR ⟨lq,eq⟩);have r1:=Wire.strR_rest ⟨lq,eq⟩;rw[g1]at r1;obtain⟨⟨⟨m2,f2⟩,y2⟩,g2⟩:=Ex (Wire.strR ⟨m1,f1⟩);have r2:=Wire.strR_rest ⟨m1,f1⟩;rw[g2]at r2;obtain⟨⟨⟨m3,f3⟩,y3⟩,g3⟩:=Ex (Wire.strR ⟨m2,f2⟩);have r3:=Wire.strR_rest ⟨m2,f2⟩;rw[g3]at r3;dsimp only at r1 r2 r3;have d1:=az9 g1 (by omega);have d2:=az9 g2 (by omega);have d3:=az9 g3 (by omega);have hpq:Sf.pendQ ⟨lq,eq⟩=(⟨m3,f3⟩,⟨y1,y2,y3⟩):=by unfold Sf.pendQ;simp only[g1,g2,g3]
  rw[hpq]at hit hpi;dsimp only at hit hpi;obtain⟨W2',o2',t',hX,gY',kY⟩:=gY.grow 48 (Sf.Pend.cells ⟨y1,y2,y3⟩) (by rw[Zj];omega) (by decide);have gX':=kY _ _ _ _ (by decide) gX;have em:pp.map Sf.Pend.cells++[Sf.Pend.cells ⟨y1,y2,y3⟩]=(pp++[(⟨y1,y2,y3⟩:Sf.Pend)]).map Sf.Pend.cells:=by simp
  rw[em]at gY';simp only[em]at hX;obtain⟨pp2,hos⟩:=Ex (pp++[(⟨y1,y2,y3⟩:Sf.Pend)]);have hol:pp2.length=j2+1:=by rw[←hos];simp[hdl2]
  have hpp2:∀x∈pp2,Sf.PendT x:=fun x hx=>by
   rw[←hos]at hx;rcases Yz.1 hx with hx|hx
   ·exact hpp x hx
   ·rw[Yw.1 hx];exact hpi.1
  rw[hos]at gY' hX hit;clear hos em hpi hpq g1 g2 g3;simp only[Sf.Pend.cells]at hX;refine azj (ai ht (ai hlt (ai he' (ai hX ei)))) (ai d1 (ai d2 (ai d3 ti))) ?_;exact⟨c5-(j2+1),by omega,j2+1,m3,f3,pp2,W2',o2',_,t',rfl,by omega,rfl,hit,hol,hpp2,by omega,gX',gY',by(exact azq (ai ht ei))⟩
 clear ht gX hlt hjc hps;rintro ts' h' ⟨W2,o2,bl2,t2,rfl,gX,gY,hl2,hpp,hpn,ht⟩;obtain⟨⟨⟨l6,e6⟩,c6⟩,h6⟩:=Ex (Wire.cntR ⟨lp2,ep2⟩ 1);have b6:=Wire.cntR_rest ⟨lp2,ep2⟩ 1;have k6:=Wire.cntR_cnt ⟨lp2,ep2⟩;rw[h6]at b6 k6 hq;dsimp only at b6 k6 hq;have hoi:=Sf.outsQ_in c6 ⟨l6,e6⟩ [] (by dsimp only;omega) (by simp);obtain⟨⟨⟨l7,e7⟩,os,ob⟩,h7⟩:=Ex (Sf.outsQ c6 ⟨l6,e6⟩ []);have cO:=cqa h6 h7 (by omega);rw[h7]at hq hoi;dsimp only at hq hoi;have hin:Sf.StIn ⟨x1,x2,xs,ps,os⟩:=⟨by dsimp only;omega,fun x hx=>(hxs x hx).1,fun x hx=>⟨(hpp x hx).1,(hpp x hx).2.1⟩,fun x hx=>hoi.1 x hx,by dsimp only;omega,by dsimp only;omega,by have:=hoi.2.1;rw[Zy]at this;dsimp only;omega⟩;have htp:Sf.TypIn ⟨x1,x2,xs,ps,os⟩:=⟨fun x hx=>(hxs x hx).2,fun x hx=>(hpp x hx).2.2⟩;have cC:∀h,AT 157 [.agg [.str x1,.int .i64 x2,.sl W o (xs.map Sf.Inst.cells),.sl W2 o2 (ps.map Sf.Pend.cells),.sl 7 .no (os.map Sf.Outp.cells)]] h (.int .i64 (Sf.checkZ ⟨x1,x2,xs,ps,os⟩)):=fun h=>ACall.args (as':=[Sf.St.A ⟨x1,x2,xs,ps,os⟩]) ⟨⟨aza _,aza _,Gs.le gX,Gs.le gY,aza _,trivial⟩,trivial⟩ (ayk ⟨x1,x2,xs,ps,os⟩ hin htp h)
 have done:∀b:Bool,le (.tup [.agg [.str x1,.int .i64 x2,.sl W o (xs.map Sf.Inst.cells),.sl W2 o2 (ps.map Sf.Pend.cells),.sl 7 .no (os.map Sf.Outp.cells)],.bool b]) (.tup [Sf.St.A ⟨x1,x2,xs,ps,os⟩,.bool b]):=fun b=>⟨⟨aza _,aza _,Gs.le gX,Gs.le gY,aza _,trivial⟩,azx _,trivial⟩
 have cF:=fun h=>axl (l:=l7) (e:=e7) h
 obtain⟨Z,hZ⟩:=Ex (Sf.checkZ ⟨x1,x2,xs,ps,os⟩);rw[hZ]at hq cC;injection hq with q1 q2;subst q1;subst q2;clear hin htp hoi h6 h7 hZ;cases ob with
 |false=>
  refine azj ht (ai cO ti) ?_;exact⟨_,done _,rfl⟩
 |true=>
  by_cases hlen:l7.length=0
  rotate_left
  ·have hn:((l7.length:Int)==0)=false:=Zq.2 (by omega);have hn2:(l7.length==0)=false:=by simpa using hlen
   rw[hn2];refine azj (ai ht hn) (ai cO (ai cF ti)) ?_;exact⟨_,done _,rfl⟩
  have hn:((l7.length:Int)==0)=true:=ZA.2 (by omega);have hn2:(l7.length==0)=true:=by simpa using hlen
  rw[hn2];refine azj (ai ht hn) (ai cO (ai cF (ai cC ti))) ?_;exact⟨_,done _,rfl⟩
theorem bjz(s:List UInt8)(hs:s.length≤2000000)(h:Hp):AT 84 [.str s] h (.tup [(Sf.decode s).1.A,.int .i64 (Sf.decode s).2]):=by
 rw[←Sf.decode_agree];refine pcall ?_ rfl (by simp[A.pure,A.data]) h;refine fo ?_;obtain⟨D,hD⟩:=Ex (Sf.decodeQ s);rw[hD];unfold Sf.decodeQ at hD;have hz:∀e:Int,le (.tup [.agg [.str [],.int .i64 0,.sl 0 .nil [],.sl 0 .nil [],.sl 0 .nil []],.int .i64 e]) (.tup [Sf.zero.A,.int .i64 e]):=fun e=>⟨cko,azx _,trivial⟩
 have h04:(0:Int)≤4:=by decide
 have h4:(4:Int).toNat=4:=rfl;have hP:preB s=(decide (4≤s.length)&&s.take 4 == [80,86,83,84]):=rfl;by_cases hl:(s.length:Int)>1048576
 ·rw[if_pos (by omega)]at hD;subst hD;refine azj hl ti ?_;exact⟨_,hz _,rfl⟩
 rw[if_neg (by omega)]at hD;by_cases hl3:(s.length:Int)<4
 ·have hp:preB s=false:=by rw[hP,YC (by omega)];rfl
  rw[if_pos hp]at hD;subst hD;refine azj (ai hl hl3) ti ?_;exact⟨_,hz _,rfl⟩
 have hl4:(4:Int)≤(s.length:Int):=by omega
 by_cases hm:s.take 4=[80,86,83,84]
 rotate_left
 ·have hp:preB s=false:=by rw[hP];simp[hm]
  have hm':(s.take 4 != [80,86,83,84])=true:=by simp[hm]
  rw[if_pos hp]at hD;subst hD;refine azj (ai hl (ai hl3 (ai hl4 (ai h04 (ai h4 hm'))))) ti ?_;exact⟨_,hz _,rfl⟩
 have hp:preB s=true:=by rw[hP,Yd (by omega),hm];rfl
 have hm':(s.take 4 != [80,86,83,84])=false:=by simp[hm]
 rw[if_neg (by rw[hp];decide)]at hD;have hvl:=bke s;have cv:=cq9 (l:=s) (by omega);obtain⟨⟨b,e⟩,hv⟩:=Ex (Crc.ver s);rw[hv]at hD hvl cv;dsimp only at hD hvl cv;by_cases he:e=0
 rotate_left
 ·have e1:(e !=0)=true:=by simp[he]
  rw[if_pos he]at hD;subst hD;refine azj (ai hl (ai hl3 (ai hl4 (ai h04 (ai h4 (ai hm' e1)))))) (ai cv ti) ?_;exact⟨_,hz _,rfl⟩
 have e1:(e !=0)=false:=by simp[he]
 rw[if_neg (by simp[he])]at hD;have cn:=bxo b (by omega);have h12:=Sf.version_one b;have hVb:versionS b=if preB b=false then(0,2)else if(Wire.numR ⟨b.drop 4,0⟩).1.e≠0 then(0,2)else if(Wire.numR ⟨b.drop 4,0⟩).2≠1∧(Wire.numR ⟨b.drop 4,0⟩).2≠2 then(0,21)else((Wire.numR ⟨b.drop 4,0⟩).2,0):=rfl
 obtain⟨⟨n,e2⟩,hn⟩:=Ex (versionS b);rw[hn]at hD h12 cn hVb;dsimp only at hD h12 cn;by_cases he2:e2=0
 rotate_left
 ·have e3:(e2 !=0)=true:=by simp[he2]
  rw[if_pos he2]at hD;subst hD;refine azj (ai hl (ai hl3 (ai hl4 (ai h04 (ai h4 (ai hm' (ai e1 e3))))))) (ai cv (ai cn ti)) ?_;exact⟨_,hz _,rfl⟩
 have e3:(e2 !=0)=false:=by simp[he2]
 rw[if_neg (by simp[he2])]at hD;have hb4:4≤b.length:=by
  by_cases hp4:preB b=false
  ·rw[if_pos hp4]at hVb;injection hVb with _ hVb;omega
  ·have hp5:preB b=true:=by simpa using hp4
   have hPb:preB b=(decide (4≤b.length)&&b.take 4 == [80,86,83,84]):=rfl;rw[hPb,Zc,Zm]at hp5;exact hp5.1
 have hb5:(4:Int)≤(b.length:Int):=by omega
 clear hVb;obtain⟨⟨⟨l1,e4⟩,x1⟩,h1⟩:=Ex (Wire.numR ⟨b.drop 4,0⟩);have b1:=Wire.numR_rest ⟨b.drop 4,0⟩;rw[h1]at b1 hD;dsimp only at b1 hD;rw[Zv]at b1;have c0:=akn (b.drop 4);have c1:=axo h1 (by rw[Zv];omega);obtain⟨⟨qs,qb⟩,hq⟩:=Ex (Sf.stateQ n ⟨l1,e4⟩);have c2:=bws n (h12 he2) hq (by omega);rw[hq]at hD;dsimp only at hD;obtain⟨lin,ser,ins,ps,os⟩:=qs;simp only[Sf.St.A]at c2;cases qb with
 |false=>
  rw[if_pos rfl]at hD;subst hD;refine azj (ai hl (ai hl3 (ai hl4 (ai h04 (ai h4 (ai hm' (ai e1 (ai e3 hb5)))))))) (ai cv (ai cn (ai c0 (ai c1 (ai c2 ti))))) ?_;exact⟨_,hz _,rfl⟩
 |true=>
  rw[if_neg (by decide)]at hD;subst hD;refine azj (ai hl (ai hl3 (ai hl4 (ai h04 (ai h4 (ai hm' (ai e1 (ai e3 hb5)))))))) (ai cv (ai cn (ai c0 (ai c1 (ai c2 ti))))) ?_;exact Fn rfl
end AX
end
section
namespace Jr
open Sf (Rs rd numS strS flagS cntS Took)
theorem words_tookJ:∀(c:Nat) (s:Rs) (l:List (List UInt8)),(wordsJ c s l).1.fails=false→∃l',(wordsJ c s l).2=l++l'∧l'.length=c∧Took s (wordsJ c s l).1 (Sf.wordsE l')
 |0,s,l,h=>⟨[],by simp[wordsJ],rfl,h,by simp[wordsJ,Sf.wordsE]⟩
 |c+1,s,l,h=>by
  unfold wordsJ at h⊢;by_cases hf:s.fails=true
  ·rw[if_pos hf]at h;rw[hf]at h;cases h
  rw[if_neg hf]at h⊢;obtain⟨l',h1,h2,h3⟩:=words_tookJ c (strS s).1 _ h;refine⟨(strS s).2::l',by rw[h1];simp,by simp[h2],?_⟩;have:=(Sf.str_took h3.1).trans h3;simpa [Sf.wordsE]using this
theorem step_took{s:Rs}{x:Jr}(h:(stepJ s x).1.fails=false):Took s (stepJ s x).1 (stepE (stepJ s x).2):=by
 unfold stepJ at h⊢;dsimp only at h⊢;have h5:=Sf.str_took h;have h4:=Sf.str_took h5.1;have h3:=Sf.str_took h4.1;have h2:=Sf.num_took h3.1;have h1:=Sf.num_took h2.1;have:=(((h1.trans h2).trans h3).trans h4).trans h5;exact this
theorem inst_tookJ{s:Rs}(h:(instJ s).1.fails=false):Took s (instJ s).1 (Sf.instE 2 (instJ s).2):=by
 unfold instJ at h⊢;obtain⟨a,ha⟩:=Ex (strS s);have ta:a.1.fails=false→Took s a.1 (Wire.strE a.2):=by rw[←ha];exact Sf.str_took
 rw[ha]at h⊢;obtain⟨b,hb⟩:=Ex (strS a.1);have tb:b.1.fails=false→Took a.1 b.1 (Wire.strE b.2):=by rw[←hb];exact Sf.str_took
 dsimp only at h⊢;rw[hb]at h⊢;obtain⟨c,hc⟩:=Ex (strS b.1);have tc:c.1.fails=false→Took b.1 c.1 (Wire.strE c.2):=by rw[←hc];exact Sf.str_took
 rw[hc]at h⊢;obtain⟨d,hd⟩:=Ex (strS c.1);have td:d.1.fails=false→Took c.1 d.1 (Wire.strE d.2):=by rw[←hd];exact Sf.str_took
 rw[hd]at h⊢;clear ha hb hc hd;cases hdf:d.1.fails with
 |true=>first|(rw[hdf,if_pos rfl,hdf]at h;cases h)|(rw[if_pos rfl,hdf]at h;cases h)
 |false=>
 rw[hdf,if_neg (by decide)]at h;rw[if_neg (by decide)];have tv:=fun e=>Val.readValue_back (r:=d.1.r) e
 obtain⟨v,hv⟩:=Ex (Val.readValue d.1.r);rw[hv]at h tv⊢;clear hv;by_cases e:v.2.1≠0
 ·rw[if_pos e]at h;simp[Sf.Rs.fails]at h
 rw[if_neg e]at h⊢;have e0:v.2.1=0:=by simpa using e
 have tv':Took d.1 ⟨v.1,d.1.bad⟩ (Val.enc v.2.2):=⟨hdf,(tv e0).2.2⟩;obtain⟨n,hn⟩:=Ex (numS ⟨v.1,d.1.bad⟩);have tn:n.1.fails=false→Took ⟨v.1,d.1.bad⟩ n.1 (Wire.num n.2):=by rw[←hn];exact Sf.num_took
 rw[hn]at h⊢;obtain⟨t,ht⟩:=Ex (flagS n.1);have tt:t.1.fails=false→Took n.1 t.1 (Sf.flagE t.2):=by rw[←ht];exact Sf.flag_took
 rw[ht]at h⊢;obtain⟨f,hf⟩:=Ex (flagS t.1);have tf:f.1.fails=false→Took t.1 f.1 (Sf.flagE f.2):=by rw[←hf];exact Sf.flag_took
 rw[hf]at h⊢;obtain⟨k,hk⟩:=Ex (cntS f.1);have tk:k.1.fails=false→Took f.1 k.1 (Wire.num (k.2:Nat)):=by rw[←hk];exact Sf.cnt_took
 rw[hk]at h⊢;clear hn ht hf hk tv e;have hw:=words_tookJ k.2 k.1 [] h;obtain⟨w,hw'⟩:=Ex (wordsJ k.2 k.1 []);rw[hw']at hw h⊢;obtain⟨ws,w1,w2,w3⟩:=hw;have hk1:=tk w3.1;have hf1:=tf hk1.1;have ht1:=tt hf1.1;have hn1:=tn ht1.1;have hd1:=td hdf;have hc1:=tc hd1.1;have hb1:=tb hc1.1;have ha1:=ta hb1.1;have all:=((((((((ha1.trans hb1).trans hc1).trans hd1).trans tv').trans hn1).trans ht1).trans hf1).trans hk1).trans w3;rw[Zk]at w1;unfold Sf.instE;dsimp only;rw[if_pos rfl,w1,w2];exact all
theorem rec_took{l:List UInt8}{x:Jr}(h:recJ l=(x,true)):
  (x.kind=1∧x.after=zeroI∧x.tok=[]∧x.step=0∧x.op=0∧x.addr=[]∧x.dep=[]∧x.typ=[]∧∃B,l=Wire.num 1++Wire.strE B∧Sf.decode B=(x.base,0)) ∨
  (x.kind=2∧x.base=Sf.zero∧x.after=zeroI∧l=Wire.num 2++(stepE x++Wire.strE x.tok)) ∨
  (x.kind=3∧x.base=Sf.zero∧x.tok=[]∧l=Wire.num 3++(stepE x++Sf.instE 2 x.after)) ∨
  (x.kind=4∧x.base=Sf.zero∧x.tok=[]∧l=Wire.num 4++(stepE x++(Wire.num x.err++Sf.instE 2 x.after))) ∨
  x={ zeroR with kind:=x.kind }:=by
 unfold recJ at h;dsimp only at h;injection h with h1 h2;rw[Zc,YG,ZA,Zab]at h2;obtain⟨hf,hr⟩:=h2;obtain⟨kd,hkd⟩:=Ex ((numS (rd l)).2);rw[hkd]at h1 hf hr;unfold partJ at h1 hf hr;dsimp only at h1 hf hr;by_cases k1:kd=1
 ·subst k1;rw[if_pos rfl]at h1 hf hr;dsimp only at h1 hf hr;have hf':=(Sf.fails_iff _).1 hf;have hs:(strS (numS (rd l)).1).1.fails=false:=by
   rw[Sf.fails_iff];refine⟨?_,hf'.2⟩;rfl
  have t:=Sf.str_took hs;have n:=Sf.num_took t.1;have all:=(n.trans t).2;have hr':(strS (numS (rd l)).1).1.r.rest=[]:=hr;rw[hr',hkd,ZB]at all;left
  subst h1;refine⟨rfl,rfl,rfl,rfl,rfl,rfl,rfl,rfl,(strS (numS (rd l)).1).2,all,?_⟩;have hz:(Sf.decode (strS (numS (rd l)).1).2).2=0:=by
   have:=hf'.1;simpa using this
  exact Prod.ext rfl hz
 rw[if_neg k1]at h1 hf hr;by_cases k2:kd=2
 ·subst k2;rw[if_pos rfl]at h1 hf hr;dsimp only at h1 hf hr;have t:=Sf.str_took hf;have p:=step_took t.1;have n:=Sf.num_took p.1;have all:=((n.trans p).trans t).2;rw[hr,hkd,ZB,Zg]at all;right;left
  subst h1;exact⟨rfl,rfl,rfl,all⟩
 rw[if_neg k2]at h1 hf hr;by_cases k3:kd=3
 ·subst k3;rw[if_pos rfl]at h1 hf hr;dsimp only at h1 hf hr;have t:=inst_tookJ hf;have p:=step_took t.1;have n:=Sf.num_took p.1;have all:=((n.trans p).trans t).2;rw[hr,hkd,ZB,Zg]at all;right;right;left
  subst h1;exact⟨rfl,rfl,rfl,all⟩
 rw[if_neg k3]at h1 hf hr;by_cases k4:kd=4
 ·subst k4;rw[if_pos rfl]at h1 hf hr;dsimp only at h1 hf hr;have t:=inst_tookJ hf;have e:=Sf.num_took t.1;have p:=step_took e.1;have n:=Sf.num_took p.1;have all:=(((n.trans p).trans e).trans t).2;rw[hr,hkd,ZB,Zg,Zg]at all;right;right;right;left
  subst h1;exact⟨rfl,rfl,rfl,all⟩
 rw[if_neg k4]at h1;right;right;right;right
 subst h1;rfl
end Jr
end
section
open Go.RowKit
namespace Jr
open Sf (Rs rd numS strS flagS cntS Took)
theorem zeroI_lens:zeroI.attrs.lens:=Val.zero_lens
theorem stepJ_le(s:Rs)(x:Jr):(stepJ s x).1.r.rest.length≤s.r.rest.length:=
 Zl (Sf.strS_le _) (Zl (Sf.strS_le _) (Zl (Sf.strS_le _) (Zl (Sf.numS_le _) (Sf.numS_le _))))
theorem instJ_lens(s:Rs)(hs:s.r.rest.length≤100000000):(instJ s).2.attrs.lens:=by
 have e1:=Sf.strS_le s;have e2:=Sf.strS_le (strS s).1;have e3:=Sf.strS_le (strS (strS s).1).1;have e4:=Sf.strS_le (strS (strS (strS s).1).1).1;have lv:=AX.axa (strS (strS (strS (strS s).1).1).1).1.r (by omega);unfold instJ;dsimp only;split
 ·exact zeroI_lens
 ·split
  ·exact zeroI_lens
  ·exact lv
theorem recJ_lens(l:List UInt8)(hl:l.length≤100000000):(recJ l).1.after.attrs.lens:=by
 have e0:=Sf.numS_le (rd l);have e0':(rd l).r.rest.length=l.length:=rfl;unfold recJ;dsimp only;obtain⟨q,hq⟩:=Ex (numS (rd l));rw[hq]at e0⊢;unfold partJ;dsimp only;split
 ·exact zeroI_lens
 ·split
  ·exact zeroI_lens
  ·split
   ·exact instJ_lens _ (Zl (stepJ_le q.1 _) (by omega))
   ·split
    ·exact instJ_lens _ (Zl (Sf.numS_le _) (Zl (stepJ_le q.1 _) (by omega)))
    ·exact zeroI_lens
theorem wordsE_len:∀ws:List (List UInt8),ws.length≤(Sf.wordsE ws).length
 |[]=>Zz _
 |w::ws=>by
  have ih:=wordsE_len ws;have h1:1≤(Wire.num w.length).length:=by
   have:=AX.cq6 (w.length:Int);cases h:Wire.num (w.length:Int)with
   |nil=>exact absurd h this
   |cons a t=>simp
  have:Sf.wordsE (w::ws)=Wire.num w.length++w++Sf.wordsE ws:=by simp[Sf.wordsE,Wire.strE]
  rw[this];simp only[Za,Zh];omega
theorem deps_le(x:Sf.Inst):x.deps.length≤(Sf.instE 2 x).length:=by
 have:=wordsE_len x.deps;unfold Sf.instE;simp only[Za];omega
theorem zero_in:AX.Sf.StIn Sf.zero:=⟨by decide,by simp[Sf.zero],by simp[Sf.zero],by simp[Sf.zero],by decide,by decide,by decide⟩
theorem rec_size{l:List UInt8}{x:Jr}(h:recJ l=(x,true))(hl:l.length≤2000000):
  (stepE x).length≤100000000∧(Sf.instE 2 x.after).length≤100000000∧x.tok.length≤2000000∧x.after.attrs.lens∧x.after.deps.length≤1000000000∧AX.Sf.StIn x.base∧(Sf.checkZ x.base=0→AX.Sf.StOk x.base∧(Sf.stE 2 x.base).length+20≤1000000000):=by
 have hlens:x.after.attrs.lens:=by
  have:=recJ_lens l (by omega);rw[h]at this;exact this
 have hz:(Sf.instE 2 zeroI).length≤100:=by decide +kernel
 have hb:AX.Sf.StIn Sf.zero∧(Sf.checkZ Sf.zero=0→AX.Sf.StOk Sf.zero∧(Sf.stE 2 Sf.zero).length+20≤1000000000):=
  ⟨zero_in,fun e=>⟨Sf.stOk_of e zero_in,by decide +kernel⟩⟩
 have hd:=deps_le x.after;have sl:∀s:List UInt8,s.length≤(Wire.strE s).length:=fun s=>by unfold Wire.strE;rw[Za];omega
 rcases rec_took h with⟨k1,ka,kt,k2,k3,k4,k5,k6,B,kl,kB⟩|⟨k1,kb,ka,kl⟩|⟨k1,kb,kt,kl⟩|⟨k1,kb,kt,kl⟩|k
 ·have hB:B.length≤2000000:=by
   have:=sl B;have:=congrArg List.length kl;simp only[Za]at this;omega
  obtain⟨ver,hver,hvs,hck,henc,hlen,hp1,s0,hs0,hst⟩:=Sf.decode_back kB;have hin:AX.Sf.StIn x.base:=by rw[hst];exact Sf.state_in ver s0 (by omega)
  refine⟨?_,by rw[ka];omega,by rw[kt];decide,hlens,by rw[ka];decide,hin,fun e=>⟨Sf.stOk_of hck hin,?_⟩⟩
  ·unfold stepE;rw[k2,k3,k4,k5,k6];decide +kernel
  ·have hparts:=Sf.check_parts hck;rcases hver with rfl|rfl
   ·have:=Sf.stE_two x.base (hp1 rfl);omega
   ·omega
 ·have:=congrArg List.length kl;simp only[Za]at this;have:=sl x.tok;exact⟨by omega,by rw[ka];omega,by omega,hlens,by rw[ka];decide,by rw[kb];exact hb.1,by rw[kb];exact hb.2⟩
 ·have:=congrArg List.length kl;simp only[Za]at this;exact⟨by omega,by omega,by rw[kt];decide,hlens,by omega,by rw[kb];exact hb.1,by rw[kb];exact hb.2⟩
 ·have:=congrArg List.length kl;simp only[Za]at this;exact⟨by omega,by omega,by rw[kt];decide,hlens,by omega,by rw[kb];exact hb.1,by rw[kb];exact hb.2⟩
 ·generalize x.kind=kd at k;subst k;refine⟨?_,Zl hz (by decide),Zz _,zeroI_lens,Zz _,hb.1,hb.2⟩;have:(stepE zeroR).length≤100000000:=by decide +kernel
  exact this
end Jr
end
section
namespace Sf
open Wire (numR strR cntR)
theorem instsQ_in(ver:Int)(hv:ver=1∨ver=2):∀(c:Nat) (r:Wire.St) (l:List Inst) (r1:Wire.St) (is:List Inst),instsQ ver c r l=some (r1,is)→r.rest.length≤2000000→(∀x∈l,InstT x)→(∀x∈is,InstT x)∧r1.rest.length≤r.rest.length
 |0,r,l,r1,is,h,hr,hl=>by
  unfold instsQ at h;injection h with h;injection h with h1 h2;subst h1;subst h2;exact⟨hl,Zf _⟩
 |c+1,r,l,r1,is,h,hr,hl=>by
  unfold instsQ at h;split at h
  ·cases h
  next ho=>
  have hi:=instQ_in ver hv r (by simpa using ho) hr
  obtain⟨h1,h2⟩:=instsQ_in ver hv c _ _ r1 is h (by omega) (fun x hx=>by
   rcases Yz.1 hx with hx|hx
   ·exact hl x hx
   ·rw[Yw.1 hx];exact hi.1)
  exact⟨h1,by omega⟩
theorem pendsQ_in:∀(c:Nat) (r:Wire.St) (l:List Pend),r.rest.length≤2000000→(∀x∈l,PendT x)→∀x∈(pendsQ c r l).2,PendT x
 |0,r,l,hr,hl=>hl
 |c+1,r,l,hr,hl=>by
  unfold pendsQ;split
  ·exact hl
  have hi:=pendQ_in r hr
  exact pendsQ_in c _ _ (by omega) (fun x hx=>by
   rcases Yz.1 hx with hx|hx
   ·exact hl x hx
   ·rw[Yw.1 hx];exact hi.1)
theorem state_typ(ver:Int)(hv:ver=1∨ver=2)(r:Wire.St)(hr:r.rest.length≤2000000):TypIn (stateQ ver r).1:=by
 have b1:=Wire.strR_rest r;have b2:=Wire.numR_rest (strR r).1;have b3:=Wire.cntR_rest (numR (strR r).1).1 1;unfold stateQ;dsimp only;split
 ·exact⟨by simp[zero],by simp[zero]⟩
 next r1 is h=>
 obtain⟨h1,h2⟩:=instsQ_in ver hv _ _ _ _ _ h (by omega) (by simp);have b4:=Wire.cntR_rest r1 1;refine⟨fun x hx=>(h1 x hx).2,fun x hx=>?_⟩;dsimp only at hx;split at hx
 ·exact(pendsQ_in _ _ _ (by omega) (by simp) x hx).2.2
 ·cases hx
theorem decode_typ(s:List UInt8)(hs:s.length≤2000000):TypIn (decode s).1:=by
 have hz:TypIn zero:=⟨by simp[zero],by simp[zero]⟩;rw[←decode_agree];unfold decodeQ;split
 ·exact hz
 split
 ·exact hz
 split
 ·exact hz
 split
 ·exact hz
 next hv=>
 split
 ·exact hz
 ·refine state_typ _ (version_one _ (by simpa using hv)) _ ?_;have a:=Wire.numR_rest ⟨(Crc.ver s).1.drop 4,0⟩;have b:=AX.bke s;dsimp only at a;rw[Zv]at a;omega
end Sf
namespace Jr
open Wire (numR strR cntR)
theorem recQ_typ(l:List UInt8)(hl:l.length≤2000000):Sf.TypIn (recQ l).1.base:=by
 have hz:Sf.TypIn Sf.zero:=⟨by simp[Sf.zero],by simp[Sf.zero]⟩;have a:=Wire.numR_rest ⟨l,0⟩;have b:=Sf.strS_len ⟨(numR ⟨l,0⟩).1,false⟩;have c:(Sf.strS ⟨(numR ⟨l,0⟩).1,false⟩).2=(strR (numR ⟨l,0⟩).1).2:=rfl;rw[c]at b;unfold recQ;dsimp only at a b⊢;split
 ·exact hz
 split
 ·exact hz
 split
 ·exact Sf.decode_typ _ (by omega)
 split
 ·exact hz
 ·exact hz
structure Fits(x:Jr):Prop where
 step:(stepE x).length≤100000000
 inst:(Sf.instE 2 x.after).length≤100000000
 tok:x.tok.length≤2000000
 lens:x.after.attrs.lens
 deps:x.after.deps.length≤1000000000
 base:AX.Sf.StIn x.base
 typ:Sf.TypIn x.base
 enc:Sf.checkZ x.base=0→(Sf.stE 2 x.base).length+20≤1000000000
theorem recQ_fit0{l:List UInt8}{x:Jr}(hk:(numR ⟨l,0⟩).2=1∨(numR ⟨l,0⟩).2=5∨(numR ⟨l,0⟩).2=2∨(numR ⟨l,0⟩).2=3∨(numR ⟨l,0⟩).2=4)(h:recQ l=(x,true))(hl:l.length≤2000000):Fits x:=by
 have ht:=recQ_typ l hl;have e:=(rec_agree l hk).1 (by rw[h]);rw[h]at e ht;obtain⟨h1,h2,h3,h4,h5,h6,h7⟩:=rec_size e hl;exact⟨h1,h2,h3,h4,h5,h6,ht,fun hz=>(h7 hz).2⟩
theorem recQ_fit{l:List UInt8}{x:Jr}(h:recQ l=(x,true))(hl:l.length≤1000000):Fits x:=by
 by_cases hk:(numR ⟨l,0⟩).2=1∨(numR ⟨l,0⟩).2=5∨(numR ⟨l,0⟩).2=2∨(numR ⟨l,0⟩).2=3∨(numR ⟨l,0⟩).2=4
 ·exact recQ_fit0 hk h (by omega)
 have b:=Wire.numR_rest ⟨l,0⟩;unfold recQ at h;obtain⟨⟨⟨r,e⟩,k⟩,h0⟩:=Ex (numR ⟨l,0⟩);rw[h0]at h hk b;dsimp only at h hk b;by_cases he:e≠0
 ·rw[if_pos he]at h;injection h with _ h;cases h
 have he0:e=0:=by simpa using he
 subst he0;rw[if_neg he,if_neg (show¬k=5 by omega),if_neg (show¬k=1 by omega),if_neg (show¬k=2 by omega),if_neg (show¬k=4 by omega)]at h;have h3:numR ⟨Wire.num 3++r,0⟩=(⟨r,0⟩,3):=Val.numR_enc 3 r (by decide) (by decide);injection h with hx hok;subst hx;have e3:recQ (Wire.num 3++r)=({ zeroR with kind:=3,step:=(numR ⟨r,0⟩).2,op:=(numR (numR ⟨r,0⟩).1).2,addr:=(strR (numR (numR ⟨r,0⟩).1).1).2,dep:=(strR (strR (numR (numR ⟨r,0⟩).1).1).1).2,typ:=(strR (strR (strR (numR (numR ⟨r,0⟩).1).1).1).1).2,err:=0,after:=(Sf.instQ 2 (strR (strR (strR (numR (numR ⟨r,0⟩).1).1).1).1).1).2.1 },true):=by
  unfold recQ;rw[h3];dsimp only;rw[if_neg (by decide),if_neg (by decide),if_neg (by decide),if_neg (by decide),if_neg (by decide)];exact Prod.ext rfl hok
 have l3:(Wire.num 3).length=1:=by decide +kernel
 have q:=recQ_fit0 (l:=Wire.num 3++r) (by rw[h3];exact .inr (.inr (.inr (.inl rfl)))) e3 (by rw[Za,l3];omega);exact⟨q.step,q.inst,q.tok,q.lens,q.deps,q.base,q.typ,q.enc⟩
end Jr
end
end Go.Proofs.YtdgcbckcameggacGreatDoor
