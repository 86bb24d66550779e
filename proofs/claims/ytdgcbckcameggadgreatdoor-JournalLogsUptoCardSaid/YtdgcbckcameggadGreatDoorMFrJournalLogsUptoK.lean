/- Part of what the proof needs. -/
import Derived.Test.YtdgcbckcameggadGreatDoorMFrJournalLogsUpto0
import Derived.Test.YtdgcbckcameggadGreatDoorMFrJournalLogsUptoE
import Derived.Test.YtdgcbckcameggadGreatDoorMFrJournalLogsUptoH
import Derived.Test.YtdgcbckcameggadGreatDoorMFrJournalLogsUptoJ
import Derived.Lib.ParseIntB
import Derived.Test.YtdgcbckcameggadGreatDoorShelfP
set_option maxHeartbeats 4000000
set_option linter.unusedSimpArgs false
set_option linter.unusedVariables false
set_option linter.unnecessarySimpa false
namespace Go.Proofs.YtdgcbckcameggadGreatDoor
open Go.RowKit
namespace AX
def WP(i:Nat)(ver:Int)(l:List UInt8)(h h':Hp):Prop:=Wt h' i ver l∧h'.t=h.t∧∀ j x,j≠i→h.b[j]?=some x→h'.b[j]?=some x
theorem WP.of{h:Hp}{i:Nat}{ver:Int}{l l':List UInt8}(hw:Wt h i ver l):WP i ver l' h ⟨h.b.set i (wtr ver l'),h.t⟩:=by
 refine⟨.inl ?_,rfl,fun j x hj hx=>?_⟩
 ·show(List.set _ i _)[i]?=_
  rw[Zs,if_pos rfl,if_pos hw.lt]
 ·show(List.set _ i _)[j]?=_
  rw[Zs,if_neg (Ne.symm hj)];exact hx
theorem WP.tr{i:Nat}{ver:Int}{l l':List UInt8}{h h' h'':Hp}(a:WP i ver l h h')(b:WP i ver l' h' h''):WP i ver l' h h'':=
 ⟨b.1,b.2.1.trans a.2.1,fun j x hj hx=>b.2.2 j x hj (a.2.2 j x hj hx)⟩
theorem akh{l m:List Blk}{i:Nat}{x:Blk}(h:l[i]?=some x):(l++m)[i]?=some x:=by
 rw[ZV (Zd.1 h).1];exact h
theorem bvl(l:List Blk)(x y:Blk):(l++[x]).set l.length y=l++[y]:=by
 rw[List.set_append_right _ _ (Zf _)];simp
theorem Wt.app{b:List Blk}{t:_}{i:Nat}{ver:Int}{l:List UInt8}(hw:Wt ⟨b,t⟩ i ver l)(m:List Blk):Wt ⟨b++m,t⟩ i ver l:=by
 rcases hw with h|⟨h0,h⟩
 ·exact .inl (akh h)
 ·exact .inr ⟨h0,akh h⟩
theorem WP.app{b:List Blk}{t:_}{m:List Blk}{h':Hp}{i:Nat}{ver:Int}{l:List UInt8}(hp:WP i ver l ⟨b++m,t⟩ h'):WP i ver l ⟨b,t⟩ h':=
 ⟨hp.1,hp.2.1,fun j x hj hx=>hp.2.2 j x hj (akh hx)⟩
theorem num_len(n:Int):(Wire.num n).length≤10:=(Wire.encF_len 9 (Wire.zig n)).2
theorem bxc{h:Hp}{i:Nat}{ver:Int}{l:List UInt8}(hw:Wt h i ver l)(n:Int)(hlen:l.length+10≤1000000000)(h0:-9223372036854775808≤n)(h1:n≤9223372036854775807) :
  AC 123 [.ptr i 0,.int .i64 n] h fun u h'=>u=.tup []∧WP i ver (l++Wire.num n) h h':=by
 have hn:=num_len n;refine fo ?_;refine cjn _ _ ⟨h.b.set i (wtr ver (l++Wire.num n)),h.t⟩ (.tup [.int .i64 (Wire.num n).length,.nili]) (List.dropLast_concat_getLast (l:=_::_) (by simp)).symm (by decide) ?_;dsimp only[List.dropLast,List.getLast];refine go0 ti ?_;refine by4 (vs:=[.str [],.int .i64 n]) (r:=.str (Wire.num n)) (by(exact ev0 ti)) ?_ ?_
 ·refine(aqn [] n (by simp) h0 h1 _).mono ?_;rintro v h' ⟨rfl,rfl⟩;exact⟨by simp,rfl⟩
 refine cko ⟨?_,?_⟩
 ·show ACall _ _ _ _ _ _
  simp only[aqh,az4,az6,aj1,aj7,az5,axb,axa,aq9,azj,az8,astep,bop,uop,loadA,storeA,appA,ssliceA,eqA,eqCells,fillA,rowsA,setCells,A.cells,A.one,A.data,azy,ZE,Yo,Z0,Zx,ZO,YB,YF,YO,Z3,Yq,ZH,Yn,ZQ,ZK,ZN,ZG,Zh,ZA,Zi,Zl,Zr,Yc,Yw,Yx,ZU,Z6,Yl,YY,Za,Ym,Nat.reduceAdd,Nat.reduceSub,Nat.reduceMul,Nat.reduceLeDiff,Nat.reduceEqDiff,Nat.reduceBEq,Yd,YG,if_true,if_false,reduceIte,ite_true,ite_false,true_and,and_true,ne_eq,Yi,Yu,Zk,reduceCtorEq,and_self,Yt,Yh,Zf,ZR,ZM,decide_true,decide_false];exact bj1 hw _ (by omega)
 ·exact cxd rfl ⟨_,le_refl _,rfl,WP.of hw⟩
theorem bjh{h:Hp}{i:Nat}{ver:Int}{l:List UInt8}(hw:Wt h i ver l)(s:List UInt8)(hlen:l.length+s.length+10≤1000000000) :
  AC 124 [.ptr i 0,.str s] h fun u h'=>u=.tup []∧WP i ver (l++Wire.strE s) h h':=by
 have hn:=num_len s.length;refine fo ?_;refine go0 ti ?_;refine gc0 ti ?_;refine(bxc hw s.length (by omega) (by omega) (by omega)).mono ?_;rintro v h' ⟨-,hp⟩;refine go0 ti ?_;refine gc0 ti ?_;refine(bj1 hp.1 s (by rw[Za];omega)).mono ?_;rintro v h' ⟨rfl,rfl⟩;refine ckd (cxd rfl ⟨_,le_refl _,rfl,?_⟩);rw[Wire.strE,←Zg];exact hp.tr (WP.of hp.1)
theorem bqv(m:Bool)(is:List V)(ks:List (List UInt8))(j:Nat)(hj:j<is.length):(Val.encs m (is.take j) ks).length+(Val.keyE m (ks.drop j)).length+(Val.enc is[j]).length≤(Val.encs m is ks).length:=by
 have key:∀ d,j+1+d≤is.length→(Val.encs m (is.take (j+1)) ks).length≤(Val.encs m (is.take (j+1+d)) ks).length:=by
  intro d;induction d with
  |zero=>intro _;exact Zf _
  |succ d ihd =>
   intro hd;have h1:=Val.encs_take m is ks (j+1+d) (by omega);have h2:=ihd (by omega);have h3:(Val.encs m (is.take (j+1+(d+1))) ks).length=_:=congrArg List.length h1;rw[Za]at h3;omega
 have h1:=Val.encs_take m is ks j hj;have h2:=key (is.length-(j+1)) (by omega);rw[show j+1+(is.length-(j+1))=is.length by omega,Yk,h1,Za,Za]at h2;omega
theorem cq8:∀(v:V) (i:Nat) (ver:Int) (l:List UInt8) (h:Hp),Wt h i ver l→(∃ lv b,(Val.chk v lv b).1=0)→l.length+(Val.enc v).length+10≤1000000000→v.lens→AC 92 [.ptr i 0,v.A] h fun u h'=>u=.tup []∧WP i ver (l++Val.enc v) h h':=by
 refine V.induct fun k n s is ks ih=>?_
 rintro i ver l ⟨hb,ht⟩ hw ⟨lv,b,hchk⟩ hlen hlens;refine fo ?_;obtain⟨hil,hkl,_,hmem⟩:=V.lens_mk hlens;obtain⟨_,_,hz,hcs⟩:=Val.chk_parts hchk;obtain⟨hsh,hn2,hts,hks⟩:=Val.shaped_of hz;have hs:=Val.text_len hts;have hkk:=Val.keys_len ks none hks;unfold Val.shapedB at hsh;simp only[Zc,ZS,Zq,ZC]at hsh;obtain⟨⟨⟨⟨⟨hk0,hk6⟩,hnn⟩,_⟩,_⟩,hkn⟩:=hsh;have hne:¬(i=hb.length):=by have:=hw.lt;simp at this;omega
 have hE:Val.enc (.mk k n s is ks)=Wire.num k++(if k=1∨k=2 then Wire.num n else if k=3 then Wire.strE s else if k=4∨k=5 then Wire.num is.length++Val.encs (k==5) is ks else[]):=by rw[Val.enc]
 rw[hE]at hlen ⊢;simp only[Za]at hlen;refine go0 (ai @V_A @azc) ?_;refine gc0 (ai @V_A @azc) ?_;refine(bxc (hw.app _) k (by omega) (by omega) (by omega)).mono ?_;rintro v0 h1 ⟨-,hp1⟩;have g1:h1.b[hb.length]?=some (.cells 41 (V.mk k n s is ks).cells):=hp1.2.2 _ _ (Ne.symm hne) ZP;simp only[V.cells]at g1;have hlk:=num_len k;by_cases hk12:k=1∨k=2
 ·rw[if_pos hk12]at hlen ⊢;have hn:-9223372036854775808≤n∧n≤9223372036854775807:=by
   rcases hk12 with rfl|rfl
   ·rcases hnn with(h|h)|h
    ·exact absurd h (by decide)
    ·omega
    ·omega
   ·have:=hn2 rfl;omega
  rcases hk12 with rfl|rfl;all_goals
   refine go0 g1 ?_;refine gc0 g1 ?_;refine(bxc hp1.1 n (by rw[Za];omega) (by omega) (by omega)).mono ?_;rintro v2 h2 ⟨-,hp2⟩;refine go0 g1 ?_;refine⟨_,le_refl _,rfl,?_⟩;rw[←Zg];exact(hp1.tr hp2).app
 rw[if_neg hk12]at hlen ⊢;have e1:(k==1)=false:=by simp;omega
 have e2:(k==2)=false:=by simp;omega
 by_cases hk3:k=3
 ·rw[if_pos hk3]at hlen ⊢;subst hk3;refine go0 g1 ?_;refine gc0 g1 ?_;unfold Wire.strE at hlen;rw[Za]at hlen;refine(bjh hp1.1 s (by rw[Za];omega)).mono ?_;rintro v2 h2 ⟨-,hp2⟩;refine go0 g1 ?_;refine⟨_,le_refl _,rfl,?_⟩;rw[←Zg];exact(hp1.tr hp2).app
 rw[if_neg hk3]at hlen ⊢;have e3:(k==3)=false:=by simp;omega
 by_cases hk45:k=4∨k=5
 ·rw[if_pos hk45]at hlen ⊢;rw[Za]at hlen;have hkl5:(k==5)=true→ks.length=is.length:=fun e=>by
   rw[if_pos (by simpa using e)]at hkn;simpa using hkn
  have hln:=num_len is.length;have step:∀(j:Nat) (hj:j<is.length),(Val.encs (k==5) (is.take j) ks).length+(Val.keyE (k==5) (ks.drop j)).length+(Val.enc is[j]).length≤(Val.encs (k==5) is ks).length:=bqv _ _ _;have e45:(k==4)=true∨(k==4)=false∧(k==5)=true:=by
   rcases hk45 with rfl|rfl
   ·exact .inl rfl
   ·exact .inr ⟨rfl,rfl⟩
  rcases e45 with e4|⟨e4,e5⟩;all_goals
   refine go0 (ai g1 (ai e1 (ai e2 (ai e3 (ai e4 @V.cellss_length))))) ?_
   try (refine go0 (ai g1 (ai e1 (ai e2 (ai e3 (ai e4 (ai e5 @V.cellss_length)))))) ?_)
   refine gc0 g1 ?_;refine(bxc hp1.1 is.length (by rw[Za];omega) (by omega) (by omega)).mono ?_;rintro v2 h2 ⟨-,hp2⟩;have g2:=hp2.2.2 _ _ (Ne.symm hne) g1;refine go0 (ai g2 @V.cellss_length) ?_;refine azf (fun m ts hh=>∃(j:Nat),m=is.length-j∧j≤is.length∧WP i ver (l++Wire.num k++Wire.num is.length++Val.encs (k==5) (is.take j) ks) ⟨hb,ht⟩ hh∧hh.b[hb.length]?=some (.cells 41 [.int .i64 k,.int .i64 n,.str s,.sl 5 .no (V.cellss is),.sl 1 .no (strsA ks)])∧ts 0=.ptr i 0∧ts 3=.ptr hb.length 0∧ts 34=.sl 5 .no (V.cellss is)∧ts 35=.int .i64 is.length∧ts 36=.int .i64 j) is.length ?_ ?_
   ·refine⟨0,rfl,Zy _,?_,g2,?_⟩
    ·have:=(hp1.tr hp2).app;simpa [Val.encs]using this
    ·(exact azq @V.cellss_length)
   ·rintro m ts hh ⟨j,rfl,hj,hp,g3,t0,t3,t34,t35,t36⟩;by_cases hlt:j<is.length
    ·have hlt2:(j:Int)<(is.length:Int):=by omega
     have hla:(j:Int)<((V.cellss is).length:Int):=by rw[V.cellss_length];omega
     have ei:IntKind.i64.wrap ((j:Int)+1)=(j:Int)+1:=wrap64 (by omega) (by omega);have ee:=V.cellss_get is j hlt;have hst:=step j hlt;have htk:=Val.encs_take (k==5) is ks j hlt;have hcall:=fun(l':List UInt8) (h:Hp) (hw:Wt h i ver l') (hb:l'.length+(Val.enc is[j]).length+10≤1000000000)=>ih is[j] (Zp hlt) i ver l' h hw ((Val.chks_get is _ _ hcs j hlt).elim fun b' hb'=>⟨_,b',hb'⟩) hb (hmem _ (Zp hlt))
     obtain⟨⟨k',n',s',is',ks'⟩,hv⟩:=Ex (is[j]);rw[hv]at ee hcall htk hst;have hil2:hh.b.length≠i:=fun e=>by have:=hp.1.lt;omega
     have q3:∀ m,(hh.b++m)[hb.length]?=some (.cells 41 [.int .i64 k,.int .i64 n,.str s,.sl 5 .no (V.cellss is),.sl 1 .no (strsA ks)]):=fun m=>akh g3
     rcases azl (k==5)with e5'|e5'
     ·have hkj:j<ks.length:=by rw[hkl5 e5'];exact hlt
      have hlk2:(j:Int)<((strsA ks).length:Int):=by rw[aze];omega
      have ek:=azv ks j hkj;have hke:Val.keyE (k==5) (ks.drop j)=Wire.strE ks[j]:=by rw[e5',Zo hkj];rfl
      rw[hke]at htk hst;have hsl:(Wire.strE ks[j]).length=(Wire.num ks[j].length).length+ks[j].length:=by unfold Wire.strE;rw[Za]
      refine go0 (ai @azc (ai t0 (ai t3 (ai t34 (ai t35 (ai t36 (ai hla (ai hlt2 (ai ee (ai ei (ai @bvl (ai q3 (ai e5' (ai hlk2 ek)))))))))))))) ?_;refine gc0 (ai t0 (ai t3 (ai t34 (ai t35 t36)))) ?_;refine(bjh (hp.1.app _) ks[j] (by simp only[Za];omega)).mono ?_;rintro v3 h3 ⟨-,hp3⟩;have g4:=hp3.2.2 _ _ (Ne.symm hne) (q3 _);have g5:=hp3.2.2 _ _ hil2 ZP;refine go0 (ai t0 (ai t3 (ai t34 (ai t35 (ai t36 (ai g4 g5)))))) ?_;refine gc0 (ai t0 (ai t3 (ai t34 (ai t35 t36)))) ?_;refine(hcall _ _ hp3.1 (by simp only[Za];omega)).mono ?_;rintro v4 h4 ⟨-,hp4⟩;have g6:=hp4.2.2 _ _ (Ne.symm hne) g4;refine go0 (ai t0 (ai t3 (ai t34 (ai t35 (ai t36 ei))))) ?_;refine⟨is.length-(j+1),by omega,j+1,rfl,by omega,?_,g6,?_⟩
      ·rw[htk,←Zg,←Zg];exact hp.tr (hp3.tr hp4).app
      ·(exact azq (ai t0 (ai t3 (ai t34 (ai t35 (ai t36 ei))))))
     ·have hke:Val.keyE (k==5) (ks.drop j)=[]:=by rw[e5'];rfl
      rw[hke]at htk hst;refine go0 (ai @azc (ai t0 (ai t3 (ai t34 (ai t35 (ai t36 (ai hla (ai hlt2 (ai ee (ai ei (ai @bvl (ai q3 e5')))))))))))) ?_;refine gc0 (ai t0 (ai t3 (ai t34 (ai t35 t36)))) ?_;refine(hcall _ _ (hp.1.app _) (by simp only[Za];omega)).mono ?_;rintro v4 h4 ⟨-,hp4⟩;have g6:=hp4.2.2 _ _ (Ne.symm hne) (q3 _);refine go0 (ai t0 (ai t3 (ai t34 (ai t35 (ai t36 ei))))) ?_;refine⟨is.length-(j+1),by omega,j+1,rfl,by omega,?_,g6,?_⟩
      ·rw[htk,Zi,←Zg];exact hp.tr hp4.app
      ·(exact azq (ai t0 (ai t3 (ai t34 (ai t35 (ai t36 ei))))))
    ·have hlt2:¬(j:Int)<(is.length:Int):=by omega
     rw[ZJ (by omega)]at hp;refine go0 (ai t0 (ai t3 (ai t34 (ai t35 (ai t36 hlt2))))) ?_;refine⟨_,le_refl _,rfl,?_⟩;rw[←Zg,←Zg];exact hp
 ·rw[if_neg hk45]at hlen ⊢;rw[Zr];have e4:(k==4)=false:=by simp;omega
  have e5:(k==5)=false:=by simp;omega
  refine go0 (ai g1 (ai e1 (ai e2 (ai e3 (ai e4 e5))))) ?_;exact⟨_,le_refl _,rfl,hp1.app⟩
theorem ckc(v:V):Val.enc v≠[]:=by
 obtain⟨k,n,s,is,ks⟩:=v;rw[Val.enc];intro h;have:=(List.append_eq_nil_iff.1 h).1;unfold Wire.num Wire.encF at this;split at this<;>simp at this
theorem bqh(dst:List UInt8)(hd:dst.length≤1000000000)(v:V)(hchk:∃ lv b,(Val.chk v lv b).1=0)(hlen:(Val.enc v).length+10≤1000000000)(hl:v.lens)(h:Hp):AT 57 [.str dst,v.A] h (.str (dst++Val.enc v)):=by
 have ht:=fun(h:Hp) (hw:Wt h 1 0 [])=>(cq8 v 1 0 [] h hw hchk (by simpa using hlen) hl).mono fun _ _ h=>h.2
 have hne:=ckc v;obtain⟨k,n,s,is,ks⟩:=v;refine pcall ?_ rfl (by simp[V.A,V.cells,A.pure,A.data]) h;refine fo ?_;refine go0 (ai @V_A @azc) ?_;refine gc0 (ai @V_A @azc) ?_;refine(ht _ (.inr ⟨rfl,rfl⟩)).mono ?_;intro v1 h1 hp;refine go0 (ai @V_A @azc) ?_;refine gc0 (ai @V_A @azc) ?_;refine(bql hp.1 hne).mono ?_;rintro v2 h2 ⟨rfl,rfl⟩;have hsum:dst.length+(Val.enc (.mk k n s is ks)).length<1099511627776:=by omega
 refine go0 (ai @V_A (ai @azc hsum)) ?_;exact⟨_,le_refl _,rfl⟩
end AX
namespace Wire
theorem numR_rest(r:St):(numR r).1.rest.length≤r.rest.length:=by
 unfold numR;split
 ·exact Zf _
 ·split
  ·exact Zf _
  ·simp
theorem cntR_rest(r:St)(n:Nat):(cntR r n).1.rest.length≤r.rest.length:=by
 unfold cntR;split
 ·exact Zf _
 ·split
  ·exact Zf _
  ·split
   ·exact Zf _
   ·split
    ·exact Zf _
    ·simp
theorem cntR_cnt(r:St):(cntR r 1).2≤r.rest.length:=by
 unfold cntR;split
 ·simp
 ·split
  ·simp
  ·split
   ·simp
   ·split
    ·simp
    ·next h=>simp only[Nat.div_one]at h ⊢;omega
theorem strR_rest(r:St):(strR r).1.rest.length≤r.rest.length:=by
 have:=cntR_rest r 1;unfold strR;dsimp only;split
 ·exact this
 ·simp;omega
end Wire
namespace Val
theorem itemsW_step(one:Wire.St→Res)(m:Bool)(c:Nat)(r:Wire.St)(is:List V)(ks:List (List UInt8))(q:Wire.St×List UInt8)(hq:q=if m then Wire.strR r else(r,[])):itemsW one m (c+1) r is ks=if(one q.1).2.1≠0 then((one q.1).1,(one q.1).2.1,is,ks)else itemsW one m c (one q.1).1 (is++[(one q.1).2.2]) (if m then ks++[q.2]else ks):=by
 subst hq;rw[itemsW]
theorem itemsW_le{one:Wire.St→Res}(h1:∀ r,(one r).1.rest.length≤r.rest.length)(m:Bool):∀(c:Nat) (r:Wire.St) (is:List V) (ks:List (List UInt8)),(itemsW one m c r is ks).1.rest.length≤r.rest.length
 |0,r,is,ks=>Zf _
 |c+1,r,is,ks=>by
  obtain⟨q,hqe⟩:∃ q,q=if m then Wire.strR r else(r,[]):=⟨_,rfl⟩
  have hq:q.1.rest.length≤r.rest.length:=by
   rw[hqe];split
   ·exact Wire.strR_rest r
   ·exact Zf _
  rw[itemsW_step one m c r is ks q hqe];have h2:=h1 q.1;split
  ·show(one q.1).1.rest.length≤_
   omega
  ·have:=itemsW_le h1 m c (one q.1).1 (is++[(one q.1).2.2]) (if m then ks++[q.2]else ks);omega
theorem read_le:∀(f:Nat) (r:Wire.St),(read f r).1.rest.length≤r.rest.length
 |0,r=>by rw[read];exact Zf _
 |f+1,r=>by
  have ih:=read_le f;have hn:=Wire.numR_rest r;have hn2:=Wire.numR_rest (Wire.numR r).1;have hs2:=Wire.strR_rest (Wire.numR r).1;have hc2:=Wire.cntR_rest (Wire.numR r).1 1;have hi2:=itemsW_le ih ((Wire.numR r).2==5) (Wire.cntR (Wire.numR r).1 1).2 (Wire.cntR (Wire.numR r).1 1).1 [] [];rw[read];unfold readW;dsimp only;split
  ·exact Zf _
  ·split
   ·exact hn
   ·split
    ·exact hn
    ·split
     ·simp only;omega
     ·split
      ·simp only;omega
      ·split
       ·simp only;omega
       ·exact hn
end Val
namespace AX
def RQ(i:Nat)(r:Wire.St)(h h':Hp):Prop:=h'.b[i]?=some (rdr r)∧(∀(j:Nat) x,j≠i→h.b[j]?=some x→h'.b[j]?=some x)∧∀(t:Nat) x,h.t[t]?=some x→h'.t[t]?=some x
theorem RQ.of{i:Nat}{r r':Wire.St}{h:Hp}(hb:h.b[i]?=some (rdr r)):RQ i r' h ⟨h.b.set i (rdr r'),h.t⟩:=by
 have hlt:=(Zd.1 hb).1;refine⟨?_,fun j x hj hx=>?_,fun _ _ hx=>hx⟩
 ·show(List.set _ i _)[i]?=_
  rw[Zs,if_pos rfl,if_pos hlt]
 ·show(List.set _ i _)[j]?=_
  rw[Zs,if_neg (Ne.symm hj)];exact hx
theorem RQ.tr{i:Nat}{r r':Wire.St}{h h' h'':Hp}(a:RQ i r h h')(b:RQ i r' h' h''):RQ i r' h h'':=
 ⟨b.1,fun j x hj hx=>b.2.1 j x hj (a.2.1 j x hj hx),fun t x hx=>b.2.2 t x (a.2.2 t x hx)⟩
theorem azk{l m:List Blk}{i:Nat}{x:Blk}(h:l[i]?=some x):(l++m)[i]?=some x:=by
 rw[ZV (Zd.1 h).1];exact h
theorem azw(l:List Blk)(x y:Blk):(l++[x]).set l.length y=l++[y]:=by
 rw[List.set_append_right _ _ (Zf _)];simp
theorem RQ.app{b:List Blk}{t:_}{m:List Blk}{h':Hp}{i:Nat}{r:Wire.St}(hp:RQ i r ⟨b++m,t⟩ h'):RQ i r ⟨b,t⟩ h':=
 ⟨hp.1,fun j x hj hx=>hp.2.1 j x hj (azk hx),hp.2.2⟩
def Gs(E:TypeId)(W lo:Nat)(h:Hp)(rows:List (List A))(x:A):Prop:=(rows=[]∧x=.sl 0 .nil [])∨∃ t,lo≤t∧x=.sl W (.tok t) rows∧h.t[t]?=some (E,W,rows.length)
theorem Gs.app{E:TypeId}{W lo:Nat}{h:Hp}{rows:List (List A)}{x:A}(hg:Gs E W lo h rows x)(hlo:lo≤h.t.length)(bytes:Nat)(y:List A)(h1:rows.length+1≤1000000000)(h2:bytes≤1000) :
  ∃ x' t',(∀ b,appA ⟨b,h.t⟩ E W bytes x (.sl W .no [y])=some (x',⟨b,t'⟩))∧(∀ b,Gs E W lo ⟨b,t'⟩ (rows++[y]) x')∧(∀(t:Nat) z,t<lo→h.t[t]?=some z→t'[t]?=some z)∧lo≤t'.length∧∀(t:Nat) E' W' n,E'≠E→h.t[t]?=some (E',W',n)→t'[t]?=some (E',W',n):=by
 have hb1:(rows.length+1)*bytes≤140737488355328:=Zn (Nat.mul_le_mul h1 h2) (by decide);have hb2:1*bytes≤140737488355328:=by omega
 rcases hg with⟨rfl,rfl⟩|⟨t,ht,rfl,htt⟩
 ·refine⟨.sl W (.tok h.t.length) [y],h.t++[(E,W,1)],?_,?_,?_,?_,?_⟩
  ·intro b;exact if_pos (show W=W∧0 < [y].length∧[y].length≤maxLen∧[y].length*bytes≤140737488355328 from⟨rfl,by simp,by simp[maxLen],by simpa using hb2⟩)
  ·intro b;exact .inr ⟨h.t.length,hlo,rfl,by simp⟩
  ·intro t z _ hz;rw[ZV (Zd.1 hz).1];exact hz
  ·simp;omega
  ·intro t E' W' n _ hz;rw[ZV (Zd.1 hz).1];exact hz
 ·refine⟨.sl W (.tok t) (rows++[y]),h.t.set t (E,W,rows.length+1),?_,?_,?_,?_,?_⟩
  ·intro b;exact if_pos (show W=W∧W=W∧0 < [y].length∧h.t[t]?=some (E,W,rows.length)∧rows.length+[y].length≤maxLen∧(rows.length+[y].length)*bytes≤140737488355328 from⟨rfl,rfl,by simp,htt,by simp[maxLen];omega,by simpa using hb1⟩)
  ·intro b;refine .inr ⟨t,ht,rfl,?_⟩;show(h.t.set t _)[t]?=_
   rw[Zs,if_pos rfl,if_pos (Zd.1 htt).1];simp
  ·intro t' z hlt hz;rw[Zs,if_neg (by omega)];exact hz
  ·simpa using hlo
  ·intro t' E' W' n hne hz;rw[Zs,if_neg (fun e=>by subst e;rw[htt]at hz;injection hz with hz;injection hz with hz;exact hne hz.symm)];exact hz
theorem Gs.sl{E:TypeId}{W lo:Nat}{h:Hp}{rows:List (List A)}{x:A}(hg:Gs E W lo h rows x):∃ W' o,x=.sl W' o rows:=by
 rcases hg with⟨rfl,rfl⟩|⟨t,_,rfl,_⟩<;>exact⟨_,_,rfl⟩
theorem Gs.one{E:TypeId}{W lo:Nat}{h:Hp}{rows:List (List A)}{x:A}(hg:Gs E W lo h rows x):x.one=true:=by
 rcases hg with⟨_,rfl⟩|⟨t,_,rfl,_⟩<;>rfl
theorem Gs.le{E:TypeId}{W lo:Nat}{h:Hp}{rows:List (List A)}{x:A}(hg:Gs E W lo h rows x):le1 x (.sl W .no rows):=by
 rcases hg with⟨rfl,rfl⟩|⟨t,_,rfl,_⟩<;>simp[le1]
theorem Gs.keep{E:TypeId}{W lo:Nat}{h h':Hp}{rows:List (List A)}{x:A}(hg:Gs E W lo h rows x)(hk:∀(t:Nat) n,h.t[t]?=some (E,W,n)→h'.t[t]?=some (E,W,n)):Gs E W lo h' rows x:=by
 rcases hg with h1|⟨t,h1,h2,h3⟩
 ·exact .inl h1
 ·exact .inr ⟨t,h1,h2,hk _ _ h3⟩
theorem RQ.keep{i:Nat}{r:Wire.St}{h:Hp}(hb:h.b[i]?=some (rdr r))(m:List Blk):RQ i r h ⟨h.b++m,h.t⟩:=⟨azk hb,fun j x _ hx=>azk hx,fun _ _ hx=>hx⟩
theorem RQ.set{i k:Nat}{r:Wire.St}{h h':Hp}(hp:RQ i r h h')(hk:h.b.length≤k)(hi:i≠k)(x:Blk)(t':_)(ht:t'=h'.t):RQ i r h ⟨h'.b.set k x,t'⟩:=by
 subst ht;refine⟨?_,fun j y hj hy=>?_,hp.2.2⟩
 ·show(List.set _ k _)[i]?=_
  rw[Zs,if_neg (Ne.symm hi)];exact hp.1
 ·have:=(Zd.1 hy).1;show(List.set _ k _)[j]?=_
  rw[Zs,if_neg (by omega)];exact hp.2.1 j y hj hy
theorem axf(e:Int):le (.tup [.agg [.int .i64 0,.int .i64 0,.str [],.sl 0 .nil [],.sl 0 .nil []],.int .i64 e]) (.tup [Val.zeroV.A,.int .i64 e]):=by
 simp[le,cxf,le2,leL,le1,V.A,V.cells,Val.zeroV,V.cellss,strsA]
def VR(res:Val.Res)(v:A):Prop:=∃ l,v=.tup [.agg l,.int .i64 res.2.1]∧l.length=5∧l.all A.one=true∧(res.2.1=0→l=res.2.2.cells)
theorem V.cells_data(v:V):v.cells.all A.data=true:=by
 obtain⟨k,n,s,is,ks⟩:=v;rfl
theorem V.cells_one(v:V):v.cells.length=5∧v.cells.all A.one=true:=by
 obtain⟨k,n,s,is,ks⟩:=v;exact⟨rfl,rfl⟩
theorem VR.err{res:Val.Res}{e:Int}(h:res.2.1=e)(he:e≠0):VR res (.tup [Val.zeroV.A,.int .i64 e]):=
 ⟨Val.zeroV.cells,by rw[h];rfl,(V.cells_one _).1,(V.cells_one _).2,fun h0=>absurd (h.symm.trans h0) he⟩
theorem RQ.tlen{i:Nat}{r:Wire.St}{h h':Hp}(hp:RQ i r h h'):h.t.length≤h'.t.length:=by
 by_cases h0:h.t.length=0
 ·omega
 ·have:=hp.2.2 (h.t.length-1) _ (Zm (by omega));have:=(Zd.1 this).1;omega
theorem cwk{l:List A}(hl:l.length=5):∃ a0 a1 a2 a3 a4,l=[a0,a1,a2,a3,a4]:=by
 match l,hl with
 |[a0,a1,a2,a3,a4],_=>exact⟨_,_,_,_,_,rfl⟩
theorem aym(l:List V)(v:V):V.cellss (l++[v])=V.cellss l++[v.cells]:=by
 rw[V.cellss_map,V.cellss_map];simp
theorem aq3(l:List (List UInt8))(s:List UInt8):strsA (l++[s])=strsA l++[[.str s]]:=by simp[strsA]
def tailOps:List AOper:=[⟨some 86,.load true 5 (.t 9),none,[]⟩,⟨some 87,.mv (.t 0),none,[]⟩,⟨some 88,.call 65 [.t 87],none,[1]⟩,⟨none,.store 5 (.t 4) (.t 86),none,[0,2,0]⟩,⟨some 5,.mv (.t 88),none,[2,3,0,1,2,3]⟩]
theorem byp{ts:Ts}{hh:Hp}{i b4 b9:Nat}{q:Wire.St}{l l0:List A}{T:TypeId}{Q:AExit→Ts→Hp→Prop}(t0:ts 0=.ptr i 0)(t4:ts 4=.ptr b4 0)(t9:ts 9=.ptr b9 0)(hi:hh.b[i]?=some (rdr q))(h4:hh.b[b4]?=some (.cells T l0))(hl0:l0.length=5)(h9:hh.b[b9]?=some (.cells T l))(hl:l.length=5)(hlo:l.all A.one=true)
  (hQ:Q .normal (put (put (put (put (put ts (some 86) (.agg l)) (some 87) (.ptr i 0)) (some 88) (.int .i64 q.e)) none (.tup [])) (some 5) (.int .i64 q.e)) ⟨hh.b.set b4 (.cells T l),hh.t⟩):awp Tryz.prog GT (.reg true tailOps) Q ts hh:=by
 refine bxm [3] [hh,⟨hh.b.set b4 (.cells T l),hh.t⟩] [[0],[0,1],[0],[0],[1]] rfl (by decide) ?_;obtain⟨a0,a1,a2,a3,a4,rfl⟩:∃ a0 a1 a2 a3 a4,l=[a0,a1,a2,a3,a4]:=by
  match l,hl with
  |[a0,a1,a2,a3,a4],_=>exact⟨_,_,_,_,_,rfl⟩
 obtain⟨c0,c1,c2,c3,c4,rfl⟩:∃ a0 a1 a2 a3 a4,l0=[a0,a1,a2,a3,a4]:=by
  match l0,hl0 with
  |[a0,a1,a2,a3,a4],_=>exact⟨_,_,_,_,_,rfl⟩
 refine aks (v:=.agg [a0,a1,a2,a3,a4]) rfl ⟨?_,trivial⟩ ?_
 ·simp[evX,astep,loadA,t9,h9]
 refine aks (v:=.ptr i 0) rfl ⟨?_,?_,trivial⟩ ?_
 ·simp[evX,put,astep,t0]
 ·simp[evX,put,astep,t0]
 refine czn (vs:=[.ptr i 0]) (v:=.int .i64 q.e) (by simp[evX,put]) ⟨bqj hi,trivial⟩ ?_;refine aks (v:=.tup []) rfl ⟨?_,trivial⟩ ?_
 ·simp only[ZE,Yo,Z0,Zc]at hlo;simp[evX,put,astep,storeA,t4,h4,setCells,A.cells,hlo]
 refine aks (v:=.int .i64 q.e) rfl ⟨?_,trivial⟩ ?_
 ·simp[evX,put,astep]
 exact cka hQ
theorem cy6:∀(f:Nat) (r:Wire.St) (i:Nat) (h:Hp),f≤32→h.b[i]?=some (rdr r)→r.rest.length≤100000000→AC 158 [.ptr i 0,.int .i64 (33-(f:Int))] h fun v h'=>VR (Val.read f r) v∧RQ i (Val.read f r).1 h h':=by
 intro f;induction f with
 |zero =>
  rintro r i ⟨hb,ht⟩ hf hbi hlen;refine fo ?_;have hil:=(Zd.1 hbi).1;refine go0 ti ?_;refine gc0 ti ?_;refine(bqj (azk hbi)).mono ?_;rintro v h' ⟨rfl,rfl⟩;by_cases he:r.e=0
  ·have he':(r.e !=0)=false:=by simp[he]
   have hlv:(33-((0:Nat):Int))>32:=by decide
   refine go0 (ai he' (ai hlv @azw)) ?_;have hRR:Val.read 0 r=(r,4,Val.zeroV):=by rw[Val.read,if_neg (by simp[he])]
   rw[hRR];exact⟨_,axf 4,VR.err rfl (by decide),RQ.keep hbi _⟩
  ·have he':(r.e !=0)=true:=by simp[he]
   refine go0 (ai he' @azw) ?_;have hRR:Val.read 0 r=(r,r.e,Val.zeroV):=by rw[Val.read,if_pos (by simp[he])]
   rw[hRR];exact⟨_,axf r.e,VR.err rfl he,RQ.keep hbi _⟩
 |succ f ih =>
  rintro r i ⟨hb,ht⟩ hf hbi hlen;refine fo ?_;have hil:i<hb.length:=(Zd.1 hbi).1;have hR:Val.read (f+1) r=Val.readW (Val.read f) r:=by rw[Val.read]
  refine go0 ti ?_;refine gc0 ti ?_;refine(bqj (azk hbi)).mono ?_;rintro v h' ⟨rfl,rfl⟩;by_cases he:r.e=0
  rotate_left
  ·have he':(r.e !=0)=true:=by simp[he]
   refine go0 (ai he' @azw) ?_;have hRR:Val.read (f+1) r=(r,r.e,Val.zeroV):=by rw[hR,Val.readW,if_pos he]
   rw[hRR];exact⟨_,axf r.e,VR.err rfl he,RQ.keep hbi _⟩
  have he':(r.e !=0)=false:=by simp[he]
  have hlv:¬(33-((f+1:Nat):Int))>32:=by omega
  refine go0 (ai he' hlv) ?_;refine gc0 ti ?_;refine(aqa (azk hbi) hlen).mono ?_;rintro v h1 ⟨rfl,hh1⟩;have hq1:RQ i (Wire.numR r).1 ⟨hb,ht⟩ h1:=by rw[hh1];exact(RQ.of (h:=⟨hb++_,ht⟩) (azk hbi)).app
  have hz1:h1.b[hb.length]?=some (.cells 41 [.int .i64 0,.int .i64 0,.str [],.sl 0 .nil [],.sl 0 .nil []]):=by
   rw[hh1];show(List.set _ i _)[hb.length]?=_
   rw[Zs,if_neg (by omega)];exact ZP
  clear hh1;have hn:=Wire.numR_rest r;obtain⟨q,hq⟩:=Ex (Wire.numR r);rw[hq]at hq1 hn ⊢;have hsz:∀(i':Nat) x,(h1.b++[x])[hb.length]?=some (.cells 41 [.int .i64 0,.int .i64 0,.str [],.sl 0 .nil [],.sl 0 .nil []]):=fun _ x=>azk hz1
  have hset:∀ y,(h1.b.set hb.length y)[hb.length]?=some y:=fun y=>by
   rw[Zs,if_pos rfl,if_pos (Zd.1 hz1).1]
  refine go0 ti ?_;refine gc0 ti ?_;refine(bqj hq1.1).mono ?_;rintro v h1 ⟨rfl,rfl⟩;by_cases hqe:q.1.e=0
  rotate_left
  ·have he':(q.1.e !=0)=true:=by simp[hqe]
   refine go0 (ai he' (ai hz1 hset)) ?_;have hRR:Val.read (f+1) r=(q.1,q.1.e,Val.zeroV):=by
    rw[hR,Val.readW,if_neg (by simp[he])];dsimp only;rw[hq,if_pos hqe]
   rw[hRR];exact⟨_,axf q.1.e,VR.err rfl hqe,hq1.set (Zf _) (by show i≠hb.length;omega) _ _ rfl⟩
  have he'':(q.1.e !=0)=false:=by simp[hqe]
  have hil1:i≠h1.b.length:=fun e=>by have:=(Zd.1 hq1.1).1;omega
  have hb4:hb.length≠h1.b.length:=fun e=>by have:=(Zd.1 hz1).1;omega
  have hib4:i≠hb.length:=by omega
  have hbl:hb.length≤h1.b.length:=by have:=(Zd.1 hz1).1;omega
  have hW:Val.readW (Val.read f) r=if q.2<0∨6<q.2 then(q.1,1,Val.zeroV)
   else if q.2=1∨q.2=2 then((Wire.numR q.1).1,(Wire.numR q.1).1.e,.mk q.2 (Wire.numR q.1).2 [] [] [])
   else if q.2=3 then((Wire.strR q.1).1,(Wire.strR q.1).1.e,.mk q.2 0 (Wire.strR q.1).2 [] [])
   else if q.2=4∨q.2=5 then((Val.itemsW (Val.read f) (q.2==5) (Wire.cntR q.1 1).2 (Wire.cntR q.1 1).1 [] []).1,(Val.itemsW (Val.read f) (q.2==5) (Wire.cntR q.1 1).2 (Wire.cntR q.1 1).1 [] []).2.1,.mk q.2 0 [] (Val.itemsW (Val.read f) (q.2==5) (Wire.cntR q.1 1).2 (Wire.cntR q.1 1).1 [] []).2.2.1 (Val.itemsW (Val.read f) (q.2==5) (Wire.cntR q.1 1).2 (Wire.cntR q.1 1).1 [] []).2.2.2)
   else(q.1,0,.mk q.2 0 [] [] []):=by
   rw[Val.readW,if_neg (by simp[he])];dsimp only;rw[hq,if_neg (by simp[hqe])]
  by_cases hk0:q.2<0
  ·refine go0 (ai he'' (ai hk0 (ai hz1 hset))) ?_;have hRR:Val.read (f+1) r=(q.1,1,Val.zeroV):=by rw[hR,hW,if_pos (.inl hk0)]
   rw[hRR];exact⟨_,axf 1,VR.err rfl (by decide),hq1.set (Zf _) hib4 _ _ rfl⟩
  by_cases hk6:q.2>6
  ·refine go0 (ai he'' (ai hk0 (ai hk6 (ai hz1 hset)))) ?_;have hRR:Val.read (f+1) r=(q.1,1,Val.zeroV):=by rw[hR,hW,if_pos (.inr hk6)]
   rw[hRR];exact⟨_,axf 1,VR.err rfl (by decide),hq1.set (Zf _) hib4 _ _ rfl⟩
  rw[if_neg (by omega)]at hW;have fin:∀(h2:Hp) (q2:Wire.St) (n:Int) (s:List UInt8) (is:List V) (ks:List (List UInt8)) (X Y:A),RQ i q2 ⟨hb,ht⟩ h2→Val.read (f+1) r=(q2,q2.e,.mk q.2 n s is ks)→le1 X (.sl 5 .no (V.cellss is))→le1 Y (.sl 1 .no (strsA ks)) →
    ∃ v,le (.tup [.agg [.int .i64 q.2,.int .i64 n,.str s,X,Y],.int .i64 q2.e]) v∧VR (Val.read (f+1) r) v∧RQ i (Val.read (f+1) r).1 ⟨hb,ht⟩ ⟨h2.b.set hb.length (.cells 41 [.int .i64 q.2,.int .i64 n,.str s,X,Y]),h2.t⟩:=by
   intro h2 q2 n s is ks X Y hp e hX hY;rw[e];refine⟨.tup [(V.mk q.2 n s is ks).A,.int .i64 q2.e],?_,⟨_,rfl,(V.cells_one (V.mk q.2 n s is ks)).1,(V.cells_one (V.mk q.2 n s is ks)).2,fun _=>rfl⟩,hp.set (Zf _) hib4 _ _ rfl⟩;simp only[V.A,V.cells,le,cxf,le2,leL,hX,hY,and_true,true_and];simp[le1]
  have hnilX:le1 (.sl 0 .nil []) (.sl 5 .no (V.cellss [])):=by simp[le1,V.cellss]
  have hnilY:le1 (.sl 0 .nil []) (.sl 1 .no (strsA [])):=by simp[le1,strsA]
  have leaf:∀(ts:Ts) (h2:Hp) (q2:Wire.St) (n:Int) (s:List UInt8) (is:List V) (ks:List (List UInt8)) (X Y:A),ts 0=.ptr i 0→ts 4=.ptr hb.length 0→ts 9=.ptr h1.b.length 0→RQ i q2 ⟨hb,ht⟩ h2 →
    h2.b[hb.length]?=some (.cells 41 [.int .i64 0,.int .i64 0,.str [],.sl 0 .nil [],.sl 0 .nil []])→h2.b[h1.b.length]?=some (.cells 41 [.int .i64 q.2,.int .i64 n,.str s,X,Y])→X.one=true→Y.one=true →
    Val.read (f+1) r=(q2,q2.e,.mk q.2 n s is ks)→le1 X (.sl 5 .no (V.cellss is))→le1 Y (.sl 1 .no (strsA ks)) →
    awp Tryz.prog GT (.reg true tailOps) (thenA (awp Tryz.prog GT .ret (finQ [.c 4 true 5,.t 5] fun v h'=>VR (Val.read (f+1) r) v∧RQ i (Val.read (f+1) r).1 ⟨hb,ht⟩ h')) (finQ [.c 4 true 5,.t 5] fun v h'=>VR (Val.read (f+1) r) v∧RQ i (Val.read (f+1) r).1 ⟨hb,ht⟩ h')) ts h2:=by
   intro ts h2 q2 n s is ks X Y t0 t4 t9 hp g4 g9 hX1 hY1 e hX hY;refine byp t0 t4 t9 hp.1 g4 rfl g9 rfl (by simp only[ZE,Yo,hX1,hY1];rfl) ?_;have hs4:∀ y,(h2.b.set hb.length y)[hb.length]?=some y:=fun y=>by
    rw[Zs,if_pos rfl,if_pos (Zd.1 g4).1]
   refine go0 (ai t4 hs4) ?_;exact fin h2 q2 n s is ks X Y hp e hX hY
  have aft:∀(q2:Wire.St) (h2:Hp),h2=⟨(h1.b++[(.cells 41 [.int .i64 q.2,.int .i64 0,.str [],.sl 0 .nil [],.sl 0 .nil []]:Blk)]).set i (rdr q2),h1.t⟩→RQ i q2 ⟨hb,ht⟩ h2 ∧
    h2.b[hb.length]?=some (.cells 41 [.int .i64 0,.int .i64 0,.str [],.sl 0 .nil [],.sl 0 .nil []])∧h2.b[h1.b.length]?=some (.cells 41 [.int .i64 q.2,.int .i64 0,.str [],.sl 0 .nil [],.sl 0 .nil []]):=by
   rintro q2 h2 rfl;refine⟨hq1.tr (RQ.of (h:=⟨h1.b++_,h1.t⟩) (azk hq1.1)).app,?_,?_⟩
   ·show(List.set _ i _)[_]?=_
    rw[Zs,if_neg hib4];exact azk hz1
   ·show(List.set _ i _)[_]?=_
    rw[Zs,if_neg hil1];exact ZP
  by_cases hk12:q.2=1∨q.2=2
  ·rw[if_pos hk12]at hW;have e12:(q.2==1)=true∨(q.2==1)=false∧(q.2==2)=true:=by
    rcases hk12 with h|h
    ·exact .inl (by simp[h])
    ·exact .inr ⟨by simp[h],by simp[h]⟩
   rcases e12 with e1|⟨e1,e2⟩;all_goals
    refine go0 (ai he'' (ai hk0 (ai hk6 (ai @azw e1)))) ?_
    try (refine go0 (ai he'' (ai hk0 (ai hk6 (ai @azw (ai e1 e2))))) ?_)
    refine gc0 ti ?_;refine(aqa (azk hq1.1) (by omega)).mono ?_;rintro v h2 ⟨rfl,hh2⟩;obtain⟨hq2,g4,g9⟩:=aft _ _ hh2;have h9:∀ y,(h2.b.set h1.b.length y)[h1.b.length]?=some y:=fun y=>by
     rw[Zs,if_pos rfl,if_pos (Zd.1 g9).1]
    clear hh2;refine go0 g9 ?_;refine leaf _ _ (Wire.numR q.1).1 (Wire.numR q.1).2 [] [] [] _ _ (by(exact ev0 ti)) (by(exact ev0 ti)) (by(exact ev0 ti)) (hq2.set (by exact hbl) hil1 _ _ rfl) ?_ (h9 _) rfl rfl (by rw[hR,hW]) hnilX hnilY;show(List.set _ _ _)[_]?=_
    rw[Zs,if_neg (Ne.symm hb4)];exact g4
  rw[if_neg hk12]at hW;have e1:(q.2==1)=false:=by simp;omega
  have e2:(q.2==2)=false:=by simp;omega
  by_cases hk3:q.2=3
  ·rw[if_pos hk3]at hW;have e3:(q.2==3)=true:=by simp[hk3]
   refine go0 (ai he'' (ai hk0 (ai hk6 (ai @azw (ai e1 (ai e2 e3)))))) ?_;refine gc0 ti ?_;refine(aqj (azk hq1.1) (by omega)).mono ?_;rintro v h2 ⟨rfl,hh2⟩;obtain⟨hq2,g4,g9⟩:=aft _ _ hh2;have h9:∀ y,(h2.b.set h1.b.length y)[h1.b.length]?=some y:=fun y=>by
    rw[Zs,if_pos rfl,if_pos (Zd.1 g9).1]
   clear hh2;refine go0 g9 ?_;refine leaf _ _ (Wire.strR q.1).1 0 (Wire.strR q.1).2 [] [] _ _ (by(exact ev0 ti)) (by(exact ev0 ti)) (by(exact ev0 ti)) (hq2.set (by exact hbl) hil1 _ _ rfl) ?_ (h9 _) rfl rfl (by rw[hR,hW]) hnilX hnilY;show(List.set _ _ _)[_]?=_
   rw[Zs,if_neg (Ne.symm hb4)];exact g4
  rw[if_neg hk3]at hW;have e3:(q.2==3)=false:=by simp[hk3]
  by_cases hk45:q.2=4∨q.2=5
  ·rw[if_pos hk45]at hW;have e45:(q.2==4)=true∨(q.2==4)=false∧(q.2==5)=true:=by
    rcases hk45 with h|h
    ·exact .inl (by simp[h])
    ·exact .inr ⟨by simp[h],by simp[h]⟩
   rcases e45 with e4|⟨e4,e5⟩;all_goals
    refine go0 (ai he'' (ai hk0 (ai hk6 (ai @azw (ai e1 (ai e2 (ai e3 e4))))))) ?_
    try (refine go0 (ai he'' (ai hk0 (ai hk6 (ai @azw (ai e1 (ai e2 (ai e3 (ai e4 e5)))))))) ?_)
    refine gc0 ti ?_;refine(akw (azk hq1.1) (by omega)).mono ?_;rintro v h2 ⟨rfl,hh2⟩;obtain⟨hq2,g4,g9⟩:=aft _ _ hh2;clear hh2;have hcr:=Wire.cntR_rest q.1 1;have hcc:=Wire.cntR_cnt q.1;obtain⟨c0,hc0⟩:=Ex (Wire.cntR q.1 1);rw[hc0]at hq2 hcr hcc hW ⊢;refine go0 g9 ?_
    refine azf (fun m ts hh=>∃(j:Nat) (p:Wire.St) (is:List V) (ks:List (List UInt8)) (X Y:A),m=c0.2-j∧j≤c0.2∧Val.itemsW (Val.read f) (q.2==5) (c0.2-j) p is ks=Val.itemsW (Val.read f) (q.2==5) c0.2 c0.1 [] []∧RQ i p ⟨hb,ht⟩ hh∧p.rest.length≤q.1.rest.length∧is.length≤j∧ks.length≤j ∧
      hh.b[hb.length]?=some (.cells 41 [.int .i64 0,.int .i64 0,.str [],.sl 0 .nil [],.sl 0 .nil []])∧hh.b[h1.b.length]?=some (.cells 41 [.int .i64 q.2,.int .i64 0,.str [],X,Y])∧Gs 41 5 ht.length hh (V.cellss is) X∧Gs 9 1 ht.length hh (strsA ks) Y∧ht.length≤hh.t.length ∧
      ts 0=.ptr i 0∧ts 1=.int .i64 (33-((f+1:Nat):Int))∧ts 4=.ptr hb.length 0∧ts 9=.ptr h1.b.length 0∧ts 55=.int .i64 c0.2∧ts 56=.int .i64 j) c0.2 ?_ ?_
    ·refine⟨0,c0.1,[],[],_,_,rfl,Zy _,rfl,hq2,hcr,Zf _,Zf _,g4,g9,.inl ⟨rfl,rfl⟩,.inl ⟨rfl,rfl⟩,hq2.tlen,?_⟩;(exact azq ti)
    ·rintro m ts hh ⟨j,p,is,ks,X,Y,rfl,hj,hit,hp,hpl,hil2,hkl2,g4,g9,gX,gY,htl,t0,t1,t4,t9,t55,t56⟩;by_cases hlt:j<c0.2
     ·have hlt2:(j:Int)<(c0.2:Int):=by omega
      have ei:IntKind.i64.wrap ((j:Int)+1)=(j:Int)+1:=wrap64 (by omega) (by omega);have elv:IntKind.i64.wrap ((33-((f+1:Nat):Int))+1)=33-(f:Int):=by rw[wrap64 (by omega) (by omega)];omega
      obtain⟨d,hd⟩:∃ d,c0.2-j=d+1:=⟨c0.2-j-1,by omega⟩;obtain⟨q2,hq2e⟩:∃ q2,q2=if(q.2==5)=true then Wire.strR p else(p,[]):=⟨_,rfl⟩
      rw[hd,Val.itemsW_step _ _ _ _ _ _ q2 hq2e]at hit;have hbi:=hp.1;have hcell:∀ y,(hh.b.set i y)[h1.b.length]?=some (.cells 41 [.int .i64 q.2,.int .i64 0,.str [],X,Y]):=fun y=>by
       rw[Zs,if_neg hil1];exact g9
      rcases azl (q.2==5)with e5'|e5'
      ·rw[if_pos e5']at hq2e;have hp':RQ i q2.1 ⟨hb,ht⟩ ⟨hh.b.set i (rdr q2.1),hh.t⟩:=hp.tr (RQ.of hbi);have hpl':q2.1.rest.length≤p.rest.length:=by rw[hq2e];exact Wire.strR_rest p
       obtain⟨ks',hks'⟩:∃ l,l=(if(q.2==5)=true then ks++[q2.2]else ks):=⟨_,rfl⟩;rw[←hks']at hit;rw[if_pos e5']at hks';obtain⟨Y',t',hY1,hY2,hY3,hY4,hY5⟩:=gY.app htl 16 [.str q2.2] (by rw[aze];omega) (by decide);obtain⟨Wy0,oy0,rfl⟩:=Gs.sl gY;obtain⟨Wy1,oy1,rfl⟩:=Gs.sl (hY2 []);refine go0 (ai t0 (ai t1 (ai t4 (ai t9 (ai t55 (ai t56 (ai hlt2 (ai g9 e5')))))))) ?_;refine bxm [3,5,7] [hh,⟨hh.b.set i (rdr q2.1),hh.t⟩,⟨hh.b.set i (rdr q2.1),t'⟩,⟨(hh.b.set i (rdr q2.1)).set h1.b.length (.cells 41 [.int .i64 q.2,.int .i64 0,.str [],X,.sl Wy1 oy1 (strsA ks++[[.str q2.2]])]),t'⟩] [[0,1,2],[0,1],[0],[0],[1],[1],[2],[2]] rfl (by decide) ?_;refine aks (v:=.ptr h1.b.length 4) rfl ⟨?_,?_,?_,trivial⟩ ?_
       ·simp[evX,put,astep,t9]
       ·simp[evX,put,astep,t9]
       ·simp[evX,put,astep,t9]
       refine aks (v:=.sl Wy0 oy0 (strsA ks)) rfl ⟨?_,?_,trivial⟩ ?_
       ·simp[evX,put,astep,loadA,g9]
       ·simp[evX,put,astep,loadA,hcell]
       refine aks (v:=.ptr i 0) rfl ⟨?_,trivial⟩ ?_
       ·simp[evX,put,astep,t0]
       refine czn (vs:=[.ptr i 0]) (v:=.str q2.2) (by simp[evX,put]) ⟨?_,trivial⟩ ?_
       ·rw[hq2e];exact aqj hp.1 (by omega)
       refine aks (v:=.sl 1 .no [[.str q2.2]]) rfl ⟨?_,trivial⟩ ?_
       ·simp[evX,put,astep,rowsA,A.cells,A.data]
       refine aks (v:=.sl Wy1 oy1 (strsA ks++[[.str q2.2]])) rfl ⟨?_,trivial⟩ ?_
       ·show appA _ _ _ _ _ _=_
        simp only[evX,put,Nat.reduceEqDiff,if_true,if_false,ite_true,ite_false,reduceIte];exact hY1 _
       refine aks (v:=.ptr h1.b.length 4) rfl ⟨?_,trivial⟩ ?_
       ·simp[evX,put,astep,t9]
       refine aks (v:=.tup []) rfl ⟨?_,trivial⟩ ?_
       ·simp[evX,put,astep,storeA,hcell,setCells,A.cells,A.one]
       refine cka ?_;have hsetl:h1.b.length<(hh.b.set i (rdr q2.1)).length:=(Zd.1 (hcell (rdr q2.1))).1;show thenA _ _ .normal _ (⟨(hh.b.set i (rdr q2.1)).set h1.b.length (.cells 41 [.int .i64 q.2,.int .i64 0,.str [],X,.sl Wy1 oy1 (strsA ks++[[.str q2.2]])]),t'⟩:Hp)
       have g4:((hh.b.set i (rdr q2.1)).set h1.b.length (.cells 41 [.int .i64 q.2,.int .i64 0,.str [],X,.sl Wy1 oy1 (strsA ks++[[.str q2.2]])]))[hb.length]?=some (.cells 41 [.int .i64 0,.int .i64 0,.str [],.sl 0 .nil [],.sl 0 .nil []]):=by
        rw[Zs,if_neg (Ne.symm hb4),Zs,if_neg hib4];exact g4
       have g9:((hh.b.set i (rdr q2.1)).set h1.b.length (.cells 41 [.int .i64 q.2,.int .i64 0,.str [],X,.sl Wy1 oy1 (strsA ks++[[.str q2.2]])]))[h1.b.length]?=some (.cells 41 [.int .i64 q.2,.int .i64 0,.str [],X,.sl Wy1 oy1 (strsA ks++[[.str q2.2]])]):=by
        rw[Zs,if_pos rfl,if_pos hsetl]
       have gX:=Gs.keep (h':=⟨(hh.b.set i (rdr q2.1)).set h1.b.length (.cells 41 [.int .i64 q.2,.int .i64 0,.str [],X,.sl Wy1 oy1 (strsA ks++[[.str q2.2]])]),t'⟩) gX fun t n hz=>hY5 t _ _ _ (by decide) hz
       have gY:Gs 9 1 ht.length ⟨(hh.b.set i (rdr q2.1)).set h1.b.length (.cells 41 [.int .i64 q.2,.int .i64 0,.str [],X,.sl Wy1 oy1 (strsA ks++[[.str q2.2]])]),t'⟩ (strsA ks') (.sl Wy1 oy1 (strsA ks++[[.str q2.2]])):=by
        rw[hks',aq3];exact hY2 _
       have htl:=hY4;have hkl2:ks'.length≤j+1:=by rw[hks'];simp;omega
       have hp':RQ i q2.1 ⟨hb,ht⟩ ⟨(hh.b.set i (rdr q2.1)).set h1.b.length (.cells 41 [.int .i64 q.2,.int .i64 0,.str [],X,.sl Wy1 oy1 (strsA ks++[[.str q2.2]])]),t'⟩:=by
        refine⟨?_,fun j y hj hy=>?_,fun t y hy=>?_⟩
        ·show(List.set _ _ _)[i]?=_
         rw[Zs,if_neg (Ne.symm hil1)];exact hp'.1
        ·have hjl:j<hb.length:=(Zd.1 hy).1;show(List.set _ _ _)[j]?=_
         rw[Zs,if_neg (by omega)];exact hp'.2.1 j y hj hy
        ·exact hY3 t y (Zd.1 hy).1 (hp'.2.2 t y hy)
       have u0:=t0;have u1:=t1;refine go0 (ai t0 (ai t1 (ai t4 (ai t9 (ai t55 (ai t56 elv)))))) ?_;refine gc0 (ai t0 (ai t1 (ai t4 (ai t9 (ai elv (ai u0 u1)))))) ?_;refine(ih q2.1 i _ (by omega) hp'.1 (by omega)).mono ?_;rintro v h3 ⟨⟨l3,rfl,hl3,ho3,hv3⟩,hp3⟩;obtain⟨x,hx⟩:=Ex (Val.read f q2.1);have hxl:=Val.read_le f q2.1;rw[hx]at hit hv3 hp3 hxl ⊢;obtain⟨a0,a1,a2,a3,a4,rfl⟩:=cwk hl3;have g4':=hp3.2.1 _ _ (Ne.symm hib4) g4;have g9':=hp3.2.1 _ _ (Ne.symm hil1) g9;have h4n:∀ y,(h3.b++[y])[hb.length]?=_:=fun y=>azk g4'
       have h9n:∀ y,(h3.b++[y])[h1.b.length]?=_:=fun y=>azk g9'
       have hl4:hb.length<h3.b.length:=(Zd.1 g4').1;have hl9:h1.b.length<h3.b.length:=(Zd.1 g9').1;have hs4:∀ y z,((h3.b++[y]).set hb.length z)[hb.length]?=some z:=fun y z=>by
        rw[Zs,if_pos rfl,if_pos (by simp;omega)]
       simp only[ZE,Yo,Z0,Zc]at ho3;simp only[A.one]at ho3;obtain⟨o0,o1,o2,o3,o4⟩:=ho3;by_cases hx0:x.2.1=0
       rotate_left
       ·have hx0':(x.2.1 !=0)=true:=by simp[hx0]
        rw[if_pos hx0]at hit;have hRR:Val.read (f+1) r=(x.1,x.2.1,.mk q.2 0 [] is ks):=by rw[hR,hW,←hit]
        refine go0 (ai t0 (ai t1 (ai t4 (ai t9 (ai t55 (ai t56 (ai @azw (ai hx0' (ai h4n (ai hs4 (ai o0 (ai o1 (ai o2 (ai o3 o4)))))))))))))) ?_;rw[hRR];exact⟨_,axf x.2.1,VR.err rfl hx0,RQ.set (h':=⟨h3.b++_,h3.t⟩) ⟨azk (hp'.tr hp3).1,fun j x hj hx=>azk ((hp'.tr hp3).2.1 j x hj hx),(hp'.tr hp3).2.2⟩ (Zf _) hib4 _ _ rfl⟩
       ·have hx0':(x.2.1 !=0)=false:=by simp[hx0]
        rw[if_neg (by simp[hx0])]at hit;have hv:=hv3 hx0;obtain⟨X',t'',hX1,hX2,hX3,hX4,hX5⟩:=(Gs.keep (h':=h3) gX fun t n hh=>hp3.2.2 _ _ hh).app (Zn htl hp3.tlen) 80 x.2.2.cells (by rw[V.cellss_length];omega) (by decide);rw[←hv]at hX1 hX2;have hdd:=V.cells_data x.2.2;rw[←hv]at hdd;simp only[ZE,Yo,Z0,Zc,A.data]at hdd;obtain⟨d0,d1,d2,d3,d4⟩:=hdd;obtain⟨Wx,ox,rfl⟩:=Gs.sl (hX2 []);have hdummy:=trivial;refine go0 (ai t0 (ai t1 (ai t4 (ai t9 (ai t55 (ai t56 (ai @azw (ai hx0' (ai h4n (ai h9n (ai hs4 (ai o0 (ai o1 (ai o2 (ai o3 (ai o4 (ai ei (ai d0 (ai d1 (ai d2 (ai d3 d4))))))))))))))))))))) ?_;refine byi (v:=.sl Wx ox (V.cellss is++[[a0,a1,a2,a3,a4]])) (h':=⟨h3.b++[.cells 41 [a0,a1,a2,a3,a4]],t''⟩) rfl ?_ ?_
        ·simp only[aqh,az4,az6,aj1,aj7,az5,axb,axa,aq9,azj,az8,astep,bop,uop,loadA,storeA,ssliceA,eqA,eqCells,fillA,rowsA,setCells,A.cells,azy,ZE,Yo,Z0,Zx,ZO,YB,YF,YO,Z3,Yq,ZH,Yn,ZQ,ZK,ZN,ZG,Zh,ZA,Zi,Zl,Zr,Yc,Yw,Yx,ZU,Z6,Yl,YY,Za,Ym,Nat.reduceAdd,Nat.reduceSub,Nat.reduceMul,Nat.reduceLeDiff,Nat.reduceEqDiff,Nat.reduceBEq,Yd,YG,if_true,if_false,reduceIte,ite_true,ite_false,true_and,and_true,ne_eq,Yi,Yu,Zk,reduceCtorEq,and_self,Yt,Yh,Zf,ZR,ZM,decide_true,decide_false];exact hX1 _
        refine go0 (ai t0 (ai t1 (ai t4 (ai t9 (ai t55 (ai t56 (ai h9n ei))))))) ?_;refine⟨c0.2-(j+1),by omega,j+1,x.1,is++[x.2.2],ks',.sl Wx ox (V.cellss is++[[a0,a1,a2,a3,a4]]),.sl Wy1 oy1 (strsA ks++[[.str q2.2]]),rfl,by omega,?_,?_,by omega,by simp;omega,by omega,?_,?_,?_,?_,hX4,?_⟩
        ·rw[show c0.2-(j+1)=d by omega];exact hit
        ·have hp3':=hp'.tr hp3;refine⟨?_,fun j y hj hy=>?_,fun t y hy=>?_⟩
         ·show(List.set _ _ _)[i]?=_
          rw[Zs,if_neg (Ne.symm hil1)];exact azk hp3'.1
         ·have hjl:j<hb.length:=(Zd.1 hy).1;show(List.set _ _ _)[j]?=_
          rw[Zs,if_neg (by omega)];exact azk (hp3'.2.1 j y hj hy)
         ·exact hX3 t y (Zd.1 hy).1 (hp3'.2.2 t y hy)
        ·show(List.set _ _ _)[_]?=_
         rw[Zs,if_neg (Ne.symm hb4)];exact h4n _
        ·show(List.set _ _ _)[_]?=_
         rw[Zs,if_pos rfl,if_pos (by simp;omega)]
        ·rw[aym,←hv];exact hX2 _
        ·exact Gs.keep (Gs.keep (h':=h3) gY fun t n hh=>hp3.2.2 _ _ hh) fun t n hh=>hX5 t _ _ _ (by decide) hh
        ·(exact azq (ai t0 (ai t1 (ai t4 (ai t9 (ai t55 (ai t56 ei)))))))
      ·rw[if_neg (by simp[e5'])]at hq2e;have hp':RQ i q2.1 ⟨hb,ht⟩ hh:=by rw[hq2e];exact hp
       have hpl':q2.1.rest.length≤p.rest.length:=by rw[hq2e];exact Zf _
       obtain⟨ks',hks'⟩:∃ l,l=(if(q.2==5)=true then ks++[q2.2]else ks):=⟨_,rfl⟩;rw[←hks']at hit;rw[if_neg (by simp[e5'])]at hks';rw[←hks']at gY hkl2;have u0:=t0;have u1:=t1;refine go0 (ai t0 (ai t1 (ai t4 (ai t9 (ai t55 (ai t56 (ai hlt2 (ai g9 (ai e5' elv))))))))) ?_;refine gc0 (ai t0 (ai t1 (ai t4 (ai t9 (ai elv (ai u0 u1)))))) ?_;refine(ih q2.1 i _ (by omega) hp'.1 (by omega)).mono ?_;rintro v h3 ⟨⟨l3,rfl,hl3,ho3,hv3⟩,hp3⟩;obtain⟨x,hx⟩:=Ex (Val.read f q2.1);have hxl:=Val.read_le f q2.1;rw[hx]at hit hv3 hp3 hxl ⊢;obtain⟨a0,a1,a2,a3,a4,rfl⟩:=cwk hl3;have g4':=hp3.2.1 _ _ (Ne.symm hib4) g4;have g9':=hp3.2.1 _ _ (Ne.symm hil1) g9;have h4n:∀ y,(h3.b++[y])[hb.length]?=_:=fun y=>azk g4'
       have h9n:∀ y,(h3.b++[y])[h1.b.length]?=_:=fun y=>azk g9'
       have hl4:hb.length<h3.b.length:=(Zd.1 g4').1;have hl9:h1.b.length<h3.b.length:=(Zd.1 g9').1;have hs4:∀ y z,((h3.b++[y]).set hb.length z)[hb.length]?=some z:=fun y z=>by
        rw[Zs,if_pos rfl,if_pos (by simp;omega)]
       simp only[ZE,Yo,Z0,Zc]at ho3;simp only[A.one]at ho3;obtain⟨o0,o1,o2,o3,o4⟩:=ho3;by_cases hx0:x.2.1=0
       rotate_left
       ·have hx0':(x.2.1 !=0)=true:=by simp[hx0]
        rw[if_pos hx0]at hit;have hRR:Val.read (f+1) r=(x.1,x.2.1,.mk q.2 0 [] is ks):=by rw[hR,hW,←hit]
        refine go0 (ai t0 (ai t1 (ai t4 (ai t9 (ai t55 (ai t56 (ai @azw (ai hx0' (ai h4n (ai hs4 (ai o0 (ai o1 (ai o2 (ai o3 o4)))))))))))))) ?_;rw[hRR];exact⟨_,axf x.2.1,VR.err rfl hx0,RQ.set (h':=⟨h3.b++_,h3.t⟩) ⟨azk (hp'.tr hp3).1,fun j x hj hx=>azk ((hp'.tr hp3).2.1 j x hj hx),(hp'.tr hp3).2.2⟩ (Zf _) hib4 _ _ rfl⟩
       ·have hx0':(x.2.1 !=0)=false:=by simp[hx0]
        rw[if_neg (by simp[hx0])]at hit;have hv:=hv3 hx0;obtain⟨X',t'',hX1,hX2,hX3,hX4,hX5⟩:=(Gs.keep (h':=h3) gX fun t n hh=>hp3.2.2 _ _ hh).app (Zn htl hp3.tlen) 80 x.2.2.cells (by rw[V.cellss_length];omega) (by decide);rw[←hv]at hX1 hX2;have hdd:=V.cells_data x.2.2;rw[←hv]at hdd;simp only[ZE,Yo,Z0,Zc,A.data]at hdd;obtain⟨d0,d1,d2,d3,d4⟩:=hdd;obtain⟨Wx,ox,rfl⟩:=Gs.sl (hX2 []);obtain⟨Wy,oy,rfl⟩:=Gs.sl gY;refine go0 (ai t0 (ai t1 (ai t4 (ai t9 (ai t55 (ai t56 (ai @azw (ai hx0' (ai h4n (ai h9n (ai hs4 (ai o0 (ai o1 (ai o2 (ai o3 (ai o4 (ai ei (ai d0 (ai d1 (ai d2 (ai d3 d4))))))))))))))))))))) ?_;refine byi (v:=.sl Wx ox (V.cellss is++[[a0,a1,a2,a3,a4]])) (h':=⟨h3.b++[.cells 41 [a0,a1,a2,a3,a4]],t''⟩) rfl ?_ ?_
        ·simp only[aqh,az4,az6,aj1,aj7,az5,axb,axa,aq9,azj,az8,astep,bop,uop,loadA,storeA,ssliceA,eqA,eqCells,fillA,rowsA,setCells,A.cells,azy,ZE,Yo,Z0,Zx,ZO,YB,YF,YO,Z3,Yq,ZH,Yn,ZQ,ZK,ZN,ZG,Zh,ZA,Zi,Zl,Zr,Yc,Yw,Yx,ZU,Z6,Yl,YY,Za,Ym,Nat.reduceAdd,Nat.reduceSub,Nat.reduceMul,Nat.reduceLeDiff,Nat.reduceEqDiff,Nat.reduceBEq,Yd,YG,if_true,if_false,reduceIte,ite_true,ite_false,true_and,and_true,ne_eq,Yi,Yu,Zk,reduceCtorEq,and_self,Yt,Yh,Zf,ZR,ZM,decide_true,decide_false];exact hX1 _
        refine go0 (ai t0 (ai t1 (ai t4 (ai t9 (ai t55 (ai t56 (ai h9n ei))))))) ?_;refine⟨c0.2-(j+1),by omega,j+1,x.1,is++[x.2.2],ks',.sl Wx ox (V.cellss is++[[a0,a1,a2,a3,a4]]),.sl Wy oy (strsA ks'),rfl,by omega,?_,?_,by omega,by simp;omega,by omega,?_,?_,?_,?_,hX4,?_⟩
        ·rw[show c0.2-(j+1)=d by omega];exact hit
        ·have hp3':=hp'.tr hp3;refine⟨?_,fun j y hj hy=>?_,fun t y hy=>?_⟩
         ·show(List.set _ _ _)[i]?=_
          rw[Zs,if_neg (Ne.symm hil1)];exact azk hp3'.1
         ·have hjl:j<hb.length:=(Zd.1 hy).1;show(List.set _ _ _)[j]?=_
          rw[Zs,if_neg (by omega)];exact azk (hp3'.2.1 j y hj hy)
         ·exact hX3 t y (Zd.1 hy).1 (hp3'.2.2 t y hy)
        ·show(List.set _ _ _)[_]?=_
         rw[Zs,if_neg (Ne.symm hb4)];exact h4n _
        ·show(List.set _ _ _)[_]?=_
         rw[Zs,if_pos rfl,if_pos (by simp;omega)]
        ·rw[aym,←hv];exact hX2 _
        ·exact Gs.keep (Gs.keep (h':=h3) gY fun t n hh=>hp3.2.2 _ _ hh) fun t n hh=>hX5 t _ _ _ (by decide) hh
        ·(exact azq (ai t0 (ai t1 (ai t4 (ai t9 (ai t55 (ai t56 ei)))))))
     ·have hlt2:¬(j:Int)<(c0.2:Int):=by omega
      rw[show c0.2-j=0 by omega,Val.itemsW]at hit;refine go0 (ai t0 (ai t1 (ai t4 (ai t9 (ai t55 (ai t56 hlt2)))))) ?_;exact leaf _ _ p 0 [] is ks X Y (by(exact ev0 t0)) (by(exact ev0 t4)) (by(exact ev0 t9)) hp g4 g9 (Gs.one gX) (Gs.one gY) (by rw[hR,hW,←hit]) (Gs.le gX) (Gs.le gY)
  rw[if_neg hk45]at hW;have e4:(q.2==4)=false:=by simp;omega
  have e5:(q.2==5)=false:=by simp;omega
  have g9:(h1.b++[(.cells 41 [.int .i64 q.2,.int .i64 0,.str [],.sl 0 .nil [],.sl 0 .nil []]:Blk)])[h1.b.length]?=some (.cells 41 [.int .i64 q.2,.int .i64 0,.str [],.sl 0 .nil [],.sl 0 .nil []]):=ZP;refine go0 (ai he'' (ai hk0 (ai hk6 (ai @azw (ai e1 (ai e2 (ai e3 (ai e4 e5)))))))) ?_;exact leaf _ _ q.1 0 [] [] [] _ _ (by(exact ev0 ti)) (by(exact ev0 ti)) (by(exact ev0 ti)) ⟨azk hq1.1,fun j x hj hx=>azk (hq1.2.1 j x hj hx),hq1.2.2⟩ (azk hz1) g9 rfl rfl (by rw[hR,hW,hqe]) hnilX hnilY
end AX
theorem Wire.strR_len(r:Wire.St):(Wire.strR r).2.length≤r.rest.length:=by
 have:=Wire.cntR_rest r 1;unfold Wire.strR;dsimp only;split
 ·simp
 ·simp;omega
theorem V.lensS_of:∀ {l:List V},(∀ x∈l,x.lens)→V.lensS l
 |[],_=>by unfold V.lensS;trivial
 |v::l,h=>by
  unfold V.lensS;exact⟨h v (by simp),V.lensS_of fun x hx=>h x (by simp[hx])⟩
theorem V.lens_of{k n:Int}{s:List UInt8}{is:List V}{ks:List (List UInt8)}(h1:is.length≤1000000000)(h2:ks.length≤1000000000)(h3:s.length≤1000000000)(h4:∀ q∈ks,q.length≤1000000000)(h5:∀ x∈is,x.lens):(V.mk k n s is ks).lens:=by
 unfold V.lens;simp only[maxLen];exact⟨by omega,by omega,by omega,fun q hq=>by have:=h4 q hq;omega,V.lensS_of h5⟩
namespace Val
theorem itemsW_lens{one:Wire.St→Res}(h1:∀ r,r.rest.length≤100000000→(one r).2.2.lens)(hle:∀ r,(one r).1.rest.length≤r.rest.length)(m:Bool):∀(c:Nat) (r:Wire.St) (is:List V) (ks:List (List UInt8)),r.rest.length≤100000000→(∀ x∈is,x.lens)→(∀ k∈ks,k.length≤1000000000) →
  (∀ x∈(itemsW one m c r is ks).2.2.1,x.lens)∧(∀ k∈(itemsW one m c r is ks).2.2.2,k.length≤1000000000)∧(itemsW one m c r is ks).2.2.1.length≤is.length+c∧(itemsW one m c r is ks).2.2.2.length≤ks.length+c
 |0,r,is,ks,hr,hi,hk=>by rw[itemsW];exact⟨hi,hk,Zf _,Zf _⟩
 |c+1,r,is,ks,hr,hi,hk=>by
  obtain⟨q,hqe⟩:∃ q,q=if m then Wire.strR r else(r,[]):=⟨_,rfl⟩
  have hq:q.1.rest.length≤r.rest.length∧q.2.length≤r.rest.length:=by
   rw[hqe];split
   ·exact⟨Wire.strR_rest r,Wire.strR_len r⟩
   ·exact⟨Zf _,by simp⟩
  rw[itemsW_step one m c r is ks q hqe];have h2:=hle q.1;split
  ·exact⟨hi,hk,by simp,by simp⟩
  ·have ih:=itemsW_lens h1 hle m c (one q.1).1 (is++[(one q.1).2.2]) (if m then ks++[q.2]else ks) (by omega) (fun x hx=>by
    rcases YQ.1 hx with hx|hx
    ·exact hi x hx
    ·rw[YR.1 hx];exact h1 _ (by omega)) (fun k hkk=>by
    split at hkk
    ·rcases YQ.1 hkk with hkk|hkk
     ·exact hk k hkk
     ·rw[YR.1 hkk];omega
    ·exact hk k hkk)
   refine⟨ih.1,ih.2.1,?_,?_⟩
   ·have:=ih.2.2.1;simp only[Za,Zh,ZA]at this;omega
   ·have:=ih.2.2.2;have hl:(if m then ks++[q.2]else ks).length≤ks.length+1:=by split<;>simp
    omega
theorem zero_lens:zeroV.lens:=V.lens_of (by simp) (by simp) (by simp) (by simp) (by simp)
theorem read_lens:∀(f:Nat) (r:Wire.St),r.rest.length≤100000000→(read f r).2.2.lens
 |0,r,hr=>by rw[read];exact zero_lens
 |f+1,r,hr=>by
  have ih:=read_lens f;have hn:=Wire.numR_rest r;have hs2:=Wire.strR_len (Wire.numR r).1;have hc2:=Wire.cntR_rest (Wire.numR r).1 1;have hc3:=Wire.cntR_cnt (Wire.numR r).1;have hi2:=itemsW_lens ih (read_le f) ((Wire.numR r).2==5) (Wire.cntR (Wire.numR r).1 1).2 (Wire.cntR (Wire.numR r).1 1).1 [] [] (by omega) (by simp) (by simp);simp only[ZA]at hi2;rw[read];unfold readW;dsimp only;split
  ·exact zero_lens
  ·split
   ·exact zero_lens
   ·split
    ·exact zero_lens
    ·split
     ·exact V.lens_of (by simp) (by simp) (by simp) (by simp) (by simp)
     ·split
      ·exact V.lens_of (by simp) (by simp) (by omega) (by simp) (by simp)
      ·split
       ·exact V.lens_of (by omega) (by omega) (by simp) hi2.2.1 hi2.1
       ·exact V.lens_of (by simp) (by simp) (by simp) (by simp) (by simp)
end Val
namespace AX
theorem bjv(r:Wire.St)(i:Nat)(h:Hp)(hbi:h.b[i]?=some (rdr r))(hlen:r.rest.length≤100000000):AC 133 [.ptr i 0] h fun v h'=>v=.tup [(Val.readValue r).2.2.A,.int .i64 (Val.readValue r).2.1]∧RQ i (Val.readValue r).1 h h':=by
 obtain⟨hb,ht⟩:=h;refine fo ?_;have hil:i<hb.length:=(Zd.1 hbi).1;have hR:Val.readValue r=if(Val.read 32 r).2.1≠0 then((Val.read 32 r).1,(Val.read 32 r).2.1,Val.zeroV)else if Val.checkZ (Val.read 32 r).2.2≠0 then((Val.read 32 r).1,Val.checkZ (Val.read 32 r).2.2,Val.zeroV)else Val.read 32 r:=by rw[Val.readValue]
 have hlens:=Val.read_lens 32 r hlen;refine go0 ti ?_;refine gc0 ti ?_;refine(cy6 32 r i _ (Zf _) (azk hbi) hlen).mono ?_;rintro v h1 ⟨⟨l3,rfl,hl3,ho3,hv3⟩,hp⟩;obtain⟨x,hx⟩:=Ex (Val.read 32 r);rw[hx]at hR hv3 hp hlens ⊢;obtain⟨a0,a1,a2,a3,a4,rfl⟩:=cwk hl3;have g2:h1.b[hb.length]?=some (.cells 41 [.int .i64 0,.int .i64 0,.str [],.sl 0 .nil [],.sl 0 .nil []]):=hp.2.1 _ _ (by omega) ZP;have hl2:hb.length<h1.b.length:=(Zd.1 g2).1;have hib:i≠hb.length:=by omega
 have h2n:∀ y,(h1.b++[y])[hb.length]?=_:=fun y=>azk g2
 have hs2:∀ y z,((h1.b++[y]).set hb.length z)[hb.length]?=some z:=fun y z=>by
  rw[Zs,if_pos rfl,if_pos (by simp;omega)]
 have hout:∀ y z,RQ i x.1 ⟨hb,ht⟩ ⟨(h1.b++[y]).set hb.length z,h1.t⟩:=fun y z =>
  RQ.set (h:=⟨hb,ht⟩) (h':=⟨h1.b++[y],h1.t⟩) ⟨azk hp.1,fun j w hj hw=>azk (hp.2.1 j w hj (azk hw)),hp.2.2⟩ (Zf _) hib _ _ rfl
 simp only[ZE,Yo,Z0,Zc,A.one]at ho3;obtain⟨o0,o1,o2,o3,o4⟩:=ho3;by_cases hx0:x.2.1=0
 rotate_left
 ·have e1:(x.2.1==0)=false:=by simp[hx0]
  have e2:(x.2.1 !=0)=true:=by simp[hx0]
  rw[if_pos hx0]at hR;refine go0 (ai @azw (ai o0 (ai o1 (ai o2 (ai o3 (ai o4 (ai e1 (ai e2 (ai h2n hs2))))))))) ?_;rw[hR];exact⟨_,axf x.2.1,rfl,hout _ _⟩
 have e1:(x.2.1==0)=true:=by simp[hx0]
 rw[if_neg (by simp[hx0])]at hR;have hv:=hv3 hx0;refine go0 (ai @azw (ai o0 (ai o1 (ai o2 (ai o3 (ai o4 (ai e1 (ai h2n hs2)))))))) ?_;refine gc0 @azw ?_;have hck:=fun h=>akk x.2.2 hlens h
 rw[V.A,←hv]at hck;refine(hck _).mono ?_;rintro v h2 ⟨rfl,rfl⟩;by_cases hz:Val.checkZ x.2.2=0
 ·rw[if_neg (by simp[hz])]at hR;have e2:(Val.checkZ x.2.2 !=0)=false:=by simp[hz]
  refine go0 (ai @azw (ai o0 (ai o1 (ai o2 (ai o3 (ai o4 (ai e2 (ai h2n hs2)))))))) ?_;rw[hR];refine⟨_,le_refl _,?_,hout _ _⟩;rw[az8,V.A,←hv,hx0]
 ·rw[if_pos hz]at hR;have e2:(Val.checkZ x.2.2 !=0)=true:=by simp[hz]
  refine go0 (ai @azw (ai o0 (ai o1 (ai o2 (ai o3 (ai o4 (ai e2 (ai h2n hs2)))))))) ?_;rw[hR];exact⟨_,axf (Val.checkZ x.2.2),rfl,hout _ _⟩
theorem axq(l:List UInt8)(h:Hp):AC 62 [.str l] h fun v h'=>v=.ptr h.b.length 0∧h'=⟨h.b++[rdr ⟨l,0⟩],h.t⟩:=by
 refine fo ?_;refine go0 ti ?_;exact⟨_,le_refl _,rfl,rfl⟩
theorem czk(r:Wire.St):(rdr r).loc 0:=rfl
theorem avu{h:Hp}{i:Nat}{r:Wire.St}(hb:h.b[i]?=some (rdr r))(hlen:r.rest.length≤100000000):AC 133 [.ptr i 0] h fun v h'=>v=.tup [(Val.readValue r).2.2.A,.int .i64 (Val.readValue r).2.1]∧h'=⟨h.b.set i (rdr (Val.readValue r).1),h.t⟩:=by
 have h1:AC 133 [.ptr 0 0] ⟨[rdr r],[]⟩ fun v h'=>∃ b',h'.b[0]?=some b'∧v=.tup [(Val.readValue r).2.2.A,.int .i64 (Val.readValue r).2.1]∧b'=rdr (Val.readValue r).1:=
  (bjv r 0 ⟨[rdr r],[]⟩ rfl hlen).mono fun v h' ⟨e,hp⟩=>⟨_,hp.1,e,rfl⟩
 refine(ACall.lift1 h1 rfl (czk r) ?_ hb).mono ?_
 ·rintro v b' ⟨rfl,rfl⟩;refine⟨?_,czk _⟩;obtain⟨k,n,s,is,ks⟩:=(Val.readValue r).2.2;rfl
 ·rintro v h' ⟨b',⟨rfl,rfl⟩,rfl⟩;exact⟨rfl,rfl⟩
theorem ajo(r:Wire.St)(hlen:r.rest.length≤100000000):(Val.readValue r).2.2.lens:=by
 unfold Val.readValue;dsimp only;split
 ·exact Val.zero_lens
 ·split
  ·exact Val.zero_lens
  ·exact Val.read_lens 32 r hlen
end AX
namespace Wire
end Wire
namespace Val
end Val
namespace AX
theorem Gs.grow{E:TypeId}{W:Nat}{t:List (TypeId×Nat×Nat)}{W1:Nat}{o1:Own}{rows:List (List A)}(hg:Gs E W 0 ⟨[],t⟩ rows (.sl W1 o1 rows))(bytes:Nat)(y:List A)(h1:rows.length+1≤1000000000)(h2:bytes≤1000) :
  ∃ W' o' t',(∀ b,appA ⟨b,t⟩ E W bytes (.sl W1 o1 rows) (.sl W .no [y])=some (.sl W' o' (rows++[y]),⟨b,t'⟩))∧Gs E W 0 ⟨[],t'⟩ (rows++[y]) (.sl W' o' (rows++[y]))∧(∀(E':TypeId) (W':Nat) (rows':List (List A)) (x'':A),E'≠E→Gs E' W' 0 ⟨[],t⟩ rows' x''→Gs E' W' 0 ⟨[],t'⟩ rows' x''):=by
 obtain⟨x',t',k1,k2,k3,k4,k5⟩:=hg.app (Zy _) bytes y h1 h2;obtain⟨W',o',rfl⟩:=(k2 []).sl;exact⟨W',o',t',k1,k2 [],fun E' W' rows' x'' hne hg'=>Gs.keep hg' fun k n hh=>k5 k _ _ _ hne hh⟩
end AX
end Go.Proofs.YtdgcbckcameggadGreatDoor

namespace Go.Proofs.YtdgcbckcameggadGreatDoor
namespace Sf
structure Rs where
 r:Wire.St
 bad:Bool
def Rs.fails(s:Rs):Bool:=s.bad||s.r.e !=0
def numS(s:Rs):Rs×Int:=(⟨(Wire.numR s.r).1,s.bad⟩,(Wire.numR s.r).2)
def strS(s:Rs):Rs×List UInt8:=(⟨(Wire.strR s.r).1,s.bad⟩,(Wire.strR s.r).2)
def cntS(s:Rs):Rs×Nat:=(⟨(Wire.cntR s.r 1).1,s.bad⟩,(Wire.cntR s.r 1).2)
def flagS(s:Rs):Rs×Bool:=
 let q:=Wire.numR s.r
 (⟨q.1,s.bad||(q.2 !=0&&q.2 !=1)⟩,q.2==1)
def valueS(s:Rs):Rs×V:=
 let x:=Val.readValue s.r
 (⟨x.1,s.bad||x.2.1 !=0⟩,x.2.2)
def wordsS:Nat→Rs→List (List UInt8)→Rs×List (List UInt8)
 |0,s,l=>(s,l)
 |c+1,s,l=>wordsS c (strS s).1 (l++[(strS s).2])
def instS(ver:Int)(s:Rs):Rs×Inst:=
 let a:=strS s
 let b:=strS a.1
 let c:=strS b.1
 let d:=strS c.1
 let v:=valueS d.1
 let n:=numS v.1
 let t:=flagS n.1
 let f:=if ver=2 then flagS t.1 else(t.1,false)
 let k:=cntS f.1
 let w:=wordsS k.2 k.1 []
 (w.1,⟨a.2,b.2,c.2,d.2,v.2,n.2,t.2,f.2,w.2⟩)
def pendS(s:Rs):Rs×Pend:=
 let a:=strS s
 let b:=strS a.1
 let c:=strS b.1
 (c.1,⟨a.2,b.2,c.2⟩)
def outS(s:Rs):Rs×Outp:=
 let a:=strS s
 let v:=valueS a.1
 let f:=flagS v.1
 (f.1,⟨a.2,v.2,f.2⟩)
def instsS(ver:Int):Nat→Rs→List Inst→Rs×List Inst×Bool
 |0,s,l=>(s,l,true)
 |c+1,s,l=>if s.fails then(s,l,false)else instsS ver c (instS ver s).1 (l++[(instS ver s).2])
def pendsS:Nat→Rs→List Pend→Rs×List Pend
 |0,s,l=>(s,l)
 |c+1,s,l=>pendsS c (pendS s).1 (l++[(pendS s).2])
def outsS:Nat→Rs→List Outp→Rs×List Outp×Bool
 |0,s,l=>(s,l,true)
 |c+1,s,l=>if s.fails then(s,l,false)else outsS c (outS s).1 (l++[(outS s).2])
def stateS(ver:Int)(s:Rs):Rs×St:=
 let a:=strS s
 let n:=numS a.1
 let ci:=cntS n.1
 let i:=instsS ver ci.2 ci.1 []
 if i.2.2=false then(i.1,⟨a.2,n.2,i.2.1,[],[]⟩)
 else
  let p:=if ver=2 then pendsS (cntS i.1).2 (cntS i.1).1 []else(i.1,[])
  let co:=cntS p.1
  let o:=outsS co.2 co.1 []
  (o.1,⟨a.2,n.2,i.2.1,p.2,o.2.1⟩)
end Sf
end Go.Proofs.YtdgcbckcameggadGreatDoor

namespace Go.Proofs.YtdgcbckcameggadGreatDoor
open Go.RowKit
namespace Sf
def Inst.cells:Inst→List AX.A
 |⟨a,d,i,t,.mk k n s is ks,v,tn,fi,ds⟩=>[.str a,.str d,.str i,.str t,.int .i64 k,.int .i64 n,.str s,.sl 5 .no (V.cellss is),.sl 1 .no (strsA ks),.int .i64 v,.bool tn,.bool fi,.sl 1 .no (strsA ds)]
def Pend.cells(p:Pend):List AX.A:=[.str p.addr,.str p.typ,.str p.tok]
def Outp.cells:Outp→List AX.A
 |⟨m,.mk k n s is ks,b⟩=>[.str m,.int .i64 k,.int .i64 n,.str s,.sl 5 .no (V.cellss is),.sl 1 .no (strsA ks),.bool b]
def St.A(s:St):AX.A:=.agg [.str s.lin,.int .i64 s.ser,.sl 13 .no (s.insts.map Inst.cells),.sl 3 .no (s.pends.map Pend.cells),.sl 7 .no (s.outs.map Outp.cells)]
end Sf
namespace Val
theorem readValue_le(r:Wire.St):(readValue r).1.rest.length≤r.rest.length:=by
 have:=read_le 32 r;unfold readValue;dsimp only;split
 ·exact this
 ·split<;>exact this
end Val
namespace Sf
theorem strS_le(s:Rs):(strS s).1.r.rest.length≤s.r.rest.length:=Wire.strR_rest _
theorem numS_le(s:Rs):(numS s).1.r.rest.length≤s.r.rest.length:=Wire.numR_rest _
theorem cntS_le(s:Rs):(cntS s).1.r.rest.length≤s.r.rest.length:=Wire.cntR_rest _ _
theorem cntS_cnt(s:Rs):(cntS s).2≤s.r.rest.length:=Wire.cntR_cnt _
theorem flagS_le(s:Rs):(flagS s).1.r.rest.length≤s.r.rest.length:=Wire.numR_rest _
theorem valueS_le(s:Rs):(valueS s).1.r.rest.length≤s.r.rest.length:=Val.readValue_le _
theorem wordsS_le:∀(c:Nat) (s:Rs) (l:List (List UInt8)),(wordsS c s l).1.r.rest.length≤s.r.rest.length
 |0,s,l=>Zf _
 |c+1,s,l=>Zn (wordsS_le c _ _) (strS_le s)
end Sf
namespace AX
def RB(ver:Int)(bad:Bool):Blk:=.cells 188 [.ptr 1 0,.int .i64 ver,.bool bad]
theorem liftR{P:Program}{G:World→Prop}{f:FuncId}{args:List A}{ver:Int}{s s':Sf.Rs}{v:A}(hc:ACall P G f (.ptr 0 0::args) ⟨[RB ver s.bad,rdr s.r],[]⟩ fun v' h'=>v'=v∧h'.b[0]?=some (RB ver s'.bad)∧h'.b[1]?=some (rdr s'.r))(ha:A.locL 0 args=true)(hv:v.loc 0=true)(l:List Blk)(t:List (TypeId×Nat×Nat)) :
  ACall P G f (.ptr 0 0::args) ⟨RB ver s.bad::rdr s.r::l,t⟩ fun v' h'=>v'=v∧h'=⟨RB ver s'.bad::rdr s'.r::l,t⟩:=by
 have key:=ACall.lift hc (fun i=>i) (fun a b _ _ e=>e) (by unfold A.locL;rw[(A.locL0 _ args ha).1];rfl)
  (fun x hx=>by
   rcases Z7.1 hx with rfl|hx
   ·rfl
   ·rw[YR.1 hx];rfl)
  (fun v' h' ⟨e,h0,h1⟩=>⟨by rw[e];exact(A.loc0 _ v hv).1,fun j x hj hx=>by
   have:j=0∨j=1:=by simp only[Zh,ZA]at hj;omega
   rcases this with rfl|rfl
   ·rw[h0]at hx;injection hx with hx;subst hx;rfl
   ·rw[h1]at hx;injection hx with hx;subst hx;rfl⟩)
  (h:=⟨RB ver s.bad::rdr s.r::l,t⟩) (fun j hj=>by
   have:j=0∨j=1:=by simp only[Zh,ZA]at hj;omega
   rcases this with rfl|rfl<;>rfl)
 have e:A.renL (fun i=>i) (.ptr 0 0::args)=.ptr 0 0::args:=by unfold A.renL;rw[(A.locL0 0 args ha).2];rfl
 rw[e]at key;refine key.mono ?_;rintro v' h' ⟨v0,⟨b0,t0⟩,⟨rfl,h0,h1⟩,rfl,rfl⟩;refine⟨(A.loc0 0 _ hv).2 _,?_⟩
 match b0,h0,h1 with
 |x::y::b,h0,h1 =>
  simp only[ZN,ZG,Zb]at h0 h1;subst h0;subst h1;rfl
theorem ay6{ver:Int}(s:Sf.Rs)(hl:s.r.rest.length≤100000000)(l:List Blk)(t:List (TypeId×Nat×Nat)) :
  AC 157 [.ptr 0 0] ⟨RB ver s.bad::rdr s.r::l,t⟩ fun v h'=>v=.bool (Sf.flagS s).2∧h'=⟨RB ver (Sf.flagS s).1.bad::rdr (Sf.flagS s).1.r::l,t⟩:=by
 refine liftR ?_ rfl rfl l t;refine fo ?_;unfold RB;refine azb ti ?_;refine use (aqa (i:=1) (r:=s.r) rfl hl) ?_;obtain⟨q,hq⟩:=Ex (Wire.numR s.r);have hF:Sf.flagS s=(⟨q.1,s.bad||(q.2 !=0&&q.2 !=1)⟩,q.2==1):=by unfold Sf.flagS;rw[hq]
 rw[hq,hF];rcases azl s.bad with e0|e0
 ·rw[e0];refine azb ti ?_;exact⟨_,le_refl _,rfl,rfl,rfl⟩
 ·rw[e0];rcases azl (q.2 !=0)with e1|e1
  ·refine azb e1 ?_;exact⟨_,le_refl _,rfl,by rw[e1];rfl,rfl⟩
  ·refine azb e1 ?_;exact⟨_,le_refl _,rfl,by rw[e1];rfl,rfl⟩
theorem akf{ver:Int}(s:Sf.Rs)(l:List Blk)(t:List (TypeId×Nat×Nat)) :
  AT 132 [.ptr 0 0] ⟨RB ver s.bad::rdr s.r::l,t⟩ (.bool s.fails):=by
 refine fo ?_;unfold RB;unfold Sf.Rs.fails;rcases azl s.bad with e0|e0
 ·rw[e0];refine azb ti ?_;exact⟨_,le_refl _,rfl,rfl⟩
 ·rw[e0];refine azb ti ?_;refine use (bqj (i:=1) (r:=s.r) rfl) ?_;refine azb ti ?_;exact⟨_,le_refl _,rfl,rfl⟩
theorem bqb{ver:Int}(s:Sf.Rs)(hl:s.r.rest.length≤100000000)(l:List Blk)(t:List (TypeId×Nat×Nat)) :
  AC 156 [.ptr 0 0] ⟨RB ver s.bad::rdr s.r::l,t⟩ fun v h'=>v=(Sf.valueS s).2.A∧h'=⟨RB ver (Sf.valueS s).1.bad::rdr (Sf.valueS s).1.r::l,t⟩:=by
 obtain⟨⟨x1,x2,x3⟩,hx⟩:=Ex (Val.readValue s.r);have hF:Sf.valueS s=(⟨x1,s.bad||x2 !=0⟩,x3):=by unfold Sf.valueS;rw[hx]
 have hrd:=avu (i:=1) (r:=s.r) (h:=⟨[RB ver s.bad,rdr s.r,.cells 41 [.int .i64 0,.int .i64 0,.str [],.sl 0 .nil [],.sl 0 .nil []]],[]⟩) rfl hl;rw[hx]at hrd;rw[hF];obtain⟨k,n,w,is,ks⟩:=x3;have hVA:(V.mk k n w is ks).A=.agg [.int .i64 k,.int .i64 n,.str w,.sl 5 .no (V.cellss is),.sl 1 .no (strsA ks)]:=by simp only[V.A,V.cells]
 dsimp only at hrd ⊢;rw[hVA]at hrd ⊢;unfold RB at hrd;refine liftR (s':=⟨x1,s.bad||x2 !=0⟩) ?_ rfl rfl l t;refine fo ?_;unfold RB;refine azb ti ?_;refine use hrd ?_;rcases azl s.bad with e0|e0
 ·rw[e0];refine azb ti ?_;exact⟨_,le_refl _,rfl,rfl,rfl⟩
 ·rw[e0];refine azb ti ?_;exact⟨_,le_refl _,rfl,rfl,rfl⟩
def ZI:Blk:=.cells 43 [.str [],.str [],.str [],.str [],.int .i64 0,.int .i64 0,.str [],.sl 0 .nil [],.sl 0 .nil [],.int .i64 0,.bool false,.bool false,.sl 0 .nil []]
def IB(a b c d:List UInt8)(v:List A)(n:Int)(tn fi:Bool)(x:A):Blk:=.cells 43 ([.str a,.str b,.str c,.str d]++v++[.int .i64 n,.bool tn,.bool fi,x])
theorem cw5{ver:Int}(hver:ver=1∨ver=2)(s:Sf.Rs)(hl:s.r.rest.length≤100000000)(l:List Blk)(t:List (TypeId×Nat×Nat)) :
  AC 155 [.ptr 0 0] ⟨RB ver s.bad::rdr s.r::l,t⟩ fun v h'=>v=.agg (Sf.instS ver s).2.cells∧h'=⟨RB ver (Sf.instS ver s).1.bad::rdr (Sf.instS ver s).1.r::l,t⟩:=by
 refine liftR (s':=(Sf.instS ver s).1) (v:=.agg (Sf.instS ver s).2.cells) ?_ rfl ?_ l t;rotate_left
 ·obtain⟨a,d,i,ty,⟨k,n,w,is,ks⟩,v,tn,fi,ds⟩:=(Sf.instS ver s).2;rfl
 refine fo ?_;unfold RB;obtain⟨⟨r1,x1⟩,h1⟩:=Ex (Wire.strR s.r);have l1:=Wire.strR_rest s.r;rw[h1]at l1;obtain⟨⟨r2,x2⟩,h2⟩:=Ex (Wire.strR r1);have l2:=Wire.strR_rest r1;rw[h2]at l2;obtain⟨⟨r3,x3⟩,h3⟩:=Ex (Wire.strR r2);have l3:=Wire.strR_rest r2;rw[h3]at l3;obtain⟨⟨r4,x4⟩,h4⟩:=Ex (Wire.strR r3);have l4:=Wire.strR_rest r3;rw[h4]at l4;dsimp only at l1 l2 l3 l4;have str:∀(r r':Wire.St) (x:List UInt8) (h:Hp),Wire.strR r=(r',x)→h.b[1]?=some (rdr r)→r.rest.length≤100000000→AC 63 [.ptr 1 0] h fun v h'=>v=.str x∧h'=⟨h.b.set 1 (rdr r'),h.t⟩:=fun r r' x h e hb hl=>by
  have:=aqj hb hl;rw[e]at this;exact this
 refine azb ti ?_;refine by3 [4,9,14,19,22] 21 [⟨[.cells 188 [.ptr 1 0,.int .i64 ver,.bool s.bad],rdr s.r,.cells 43 [.str [],.str [],.str [],.str [],.int .i64 0,.int .i64 0,.str [],.sl 0 .nil [],.sl 0 .nil [],.int .i64 0,.bool false,.bool false,.sl 0 .nil []]],[]⟩,⟨[.cells 188 [.ptr 1 0,.int .i64 ver,.bool s.bad],rdr r1,.cells 43 [.str [],.str [],.str [],.str [],.int .i64 0,.int .i64 0,.str [],.sl 0 .nil [],.sl 0 .nil [],.int .i64 0,.bool false,.bool false,.sl 0 .nil []]],[]⟩,⟨[.cells 188 [.ptr 1 0,.int .i64 ver,.bool s.bad],rdr r2,.cells 43 [.str [],.str [],.str [],.str [],.int .i64 0,.int .i64 0,.str [],.sl 0 .nil [],.sl 0 .nil [],.int .i64 0,.bool false,.bool false,.sl 0 .nil []]],[]⟩,⟨[.cells 188 [.ptr 1 0,.int .i64 ver,.bool s.bad],rdr r3,.cells 43 [.str [],.str [],.str [],.str [],.int .i64 0,.int .i64 0,.str [],.sl 0 .nil [],.sl 0 .nil [],.int .i64 0,.bool false,.bool false,.sl 0 .nil []]],[]⟩,⟨[.cells 188 [.ptr 1 0,.int .i64 ver,.bool s.bad],rdr r4,.cells 43 [.str [],.str [],.str [],.str [],.int .i64 0,.int .i64 0,.str [],.sl 0 .nil [],.sl 0 .nil [],.int .i64 0,.bool false,.bool false,.sl 0 .nil []]],[]⟩,⟨[],[]⟩,⟨[.cells 188 [.ptr 1 0,.int .i64 ver,.bool s.bad],rdr s.r,.cells 43 [.str [],.str [],.str [],.str [],.int .i64 0,.int .i64 0,.str [],.sl 0 .nil [],.sl 0 .nil [],.int .i64 0,.bool false,.bool false,.sl 0 .nil []],.cells 43 [.str [],.str [],.str [],.str [],.int .i64 0,.int .i64 0,.str [],.sl 0 .nil [],.sl 0 .nil [],.int .i64 0,.bool false,.bool false,.sl 0 .nil []]],[]⟩,⟨[.cells 188 [.ptr 1 0,.int .i64 ver,.bool s.bad],rdr r1,.cells 43 [.str [],.str [],.str [],.str [],.int .i64 0,.int .i64 0,.str [],.sl 0 .nil [],.sl 0 .nil [],.int .i64 0,.bool false,.bool false,.sl 0 .nil []],.cells 43 [.str [],.str [],.str [],.str [],.int .i64 0,.int .i64 0,.str [],.sl 0 .nil [],.sl 0 .nil [],.int .i64 0,.bool false,.bool false,.sl 0 .nil []]],[]⟩,⟨[.cells 188 [.ptr 1 0,.int .i64 ver,.bool s.bad],rdr r2,.cells 43 [.str [],.str [],.str [],.str [],.int .i64 0,.int .i64 0,.str [],.sl 0 .nil [],.sl 0 .nil [],.int .i64 0,.bool false,.bool false,.sl 0 .nil []],.cells 43 [.str [],.str [],.str [],.str [],.int .i64 0,.int .i64 0,.str [],.sl 0 .nil [],.sl 0 .nil [],.int .i64 0,.bool false,.bool false,.sl 0 .nil []]],[]⟩,⟨[.cells 188 [.ptr 1 0,.int .i64 ver,.bool s.bad],rdr r3,.cells 43 [.str [],.str [],.str [],.str [],.int .i64 0,.int .i64 0,.str [],.sl 0 .nil [],.sl 0 .nil [],.int .i64 0,.bool false,.bool false,.sl 0 .nil []],.cells 43 [.str [],.str [],.str [],.str [],.int .i64 0,.int .i64 0,.str [],.sl 0 .nil [],.sl 0 .nil [],.int .i64 0,.bool false,.bool false,.sl 0 .nil []]],[]⟩,⟨[.cells 188 [.ptr 1 0,.int .i64 ver,.bool s.bad],rdr r4,.cells 43 [.str [],.str [],.str [],.str [],.int .i64 0,.int .i64 0,.str [],.sl 0 .nil [],.sl 0 .nil [],.int .i64 0,.bool false,.bool false,.sl 0 .nil []],.cells 43 [.str [],.str [],.str [],.str [],.int .i64 0,.int .i64 0,.str [],.sl 0 .nil [],.sl 0 .nil [],.int .i64 0,.bool false,.bool false,.sl 0 .nil []]],[]⟩,⟨[.cells 188 [.ptr 1 0,.int .i64 ver,.bool s.bad],rdr r4,.cells 43 [.str [],.str [],.str [],.str [],.int .i64 0,.int .i64 0,.str [],.sl 0 .nil [],.sl 0 .nil [],.int .i64 0,.bool false,.bool false,.sl 0 .nil []],.cells 43 [.str x1,.str x2,.str x3,.str x4,.int .i64 0,.int .i64 0,.str [],.sl 0 .nil [],.sl 0 .nil [],.int .i64 0,.bool false,.bool false,.sl 0 .nil []]],[]⟩] [[0,6],[0,6],[0,6],[0,6],[0,6],[0,1,6,7],[0,1,6,7],[0,1,6,7],[0,1,6,7],[1,7],[0,1,2,6,7,8],[0,1,2,6,7,8],[0,1,2,6,7,8],[0,1,2,6,7,8],[2,8],[0,1,2,3,6,7,8,9],[0,1,2,3,6,7,8,9],[0,1,2,3,6,7,8,9],[0,1,2,3,6,7,8,9],[3,9],[4,10],[0,1,2,3,4],[10]] rfl (by decide +kernel) ?_;refine AX.rung ti ?_;refine avm (vs:=[.ptr 1 0]) (by(exact ev0 ti)) ⟨str s.r r1 x1 _ h1 rfl (by omega),str s.r r1 x1 _ h1 rfl (by omega),trivial⟩ ?_;refine AX.rung ti ?_;refine avm (vs:=[.ptr 1 0]) (by(exact ev0 ti)) ⟨str r1 r2 x2 _ h2 rfl (by omega),str r1 r2 x2 _ h2 rfl (by omega),trivial⟩ ?_;refine AX.rung ti ?_;refine avm (vs:=[.ptr 1 0]) (by(exact ev0 ti)) ⟨str r2 r3 x3 _ h3 rfl (by omega),str r2 r3 x3 _ h3 rfl (by omega),trivial⟩ ?_;refine AX.rung ti ?_;refine avm (vs:=[.ptr 1 0]) (by(exact ev0 ti)) ⟨str r3 r4 x4 _ h4 rfl (by omega),str r3 r4 x4 _ h4 rfl (by omega),trivial⟩ ?_;refine AX.rung ti ?_;obtain⟨⟨⟨r5,b5⟩,xv⟩,h5⟩:=Ex (Sf.valueS ⟨r4,s.bad⟩);have c5:=bqb (ver:=ver) ⟨r4,s.bad⟩ (by dsimp only;omega) [ZI,IB x1 x2 x3 x4 [.int .i64 0,.int .i64 0,.str [],.sl 0 .nil [],.sl 0 .nil []] 0 false false (.sl 0 .nil [])] [];have l5:=Sf.valueS_le ⟨r4,s.bad⟩;rw[h5]at c5 l5;obtain⟨vk,vn,vs,vi,vy⟩:=xv;have hVA:(V.mk vk vn vs vi vy).A=.agg [.int .i64 vk,.int .i64 vn,.str vs,.sl 5 .no (V.cellss vi),.sl 1 .no (strsA vy)]:=by simp only[V.A,V.cells]
 dsimp only at c5 l5;rw[hVA]at c5;unfold RB ZI IB at c5;refine azb ti ?_;refine use c5 ?_;refine azb ti ?_;refine use (aqa (i:=1) (r:=r5) rfl (by omega)) ?_;have l6:=Wire.numR_rest r5;obtain⟨⟨r6,x6⟩,h6⟩:=Ex (Wire.numR r5);rw[h6]at l6 ⊢;dsimp only at l6 ⊢;obtain⟨⟨⟨r7,b7⟩,x7⟩,h7⟩:=Ex (Sf.flagS ⟨r6,b5⟩);have l7:=Sf.flagS_le ⟨r6,b5⟩;have c7:=ay6 (ver:=ver) ⟨r6,b5⟩ (by dsimp only;omega) [ZI,IB x1 x2 x3 x4 [.int .i64 vk,.int .i64 vn,.str vs,.sl 5 .no (V.cellss vi),.sl 1 .no (strsA vy)] x6 false false (.sl 0 .nil [])] [];rw[h7]at c7 l7;dsimp only at c7 l7;unfold RB ZI IB at c7;simp only[Zl,Zi]at c7;refine azb ti ?_;refine use c7 ?_;have fin:∀(r8:Wire.St) (b8 x8:Bool) (c0:Wire.St×Nat) (rr:Wire.St) (bw:Bool) (ds:List (List UInt8)),(if ver=2 then Sf.flagS ⟨r7,b7⟩else(⟨r7,b7⟩,false))=(⟨r8,b8⟩,x8)→Wire.cntR r8 1=c0→Sf.wordsS c0.2 ⟨c0.1,b8⟩ []=(⟨rr,bw⟩,ds)→Sf.instS ver s=(⟨rr,bw⟩,⟨x1,x2,x3,x4,.mk vk vn vs vi vy,x6,x7,x8,ds⟩):=by
  intro r8 b8 x8 c0 rr bw ds h8 hc hw;unfold Sf.instS Sf.strS Sf.numS Sf.cntS;simp only[h1,h2,h3,h4,h5,h6,h7,h8,hc,hw]
 have branch:∃(r8:Wire.St) (b8 x8:Bool),(if ver=2 then Sf.flagS ⟨r7,b7⟩else(⟨r7,b7⟩,false))=(⟨r8,b8⟩,x8)∧r8.rest.length≤r7.rest.length:=by
  by_cases hv:ver=2
  ·rw[if_pos hv];exact⟨(Sf.flagS ⟨r7,b7⟩).1.r,(Sf.flagS ⟨r7,b7⟩).1.bad,(Sf.flagS ⟨r7,b7⟩).2,rfl,Sf.flagS_le _⟩
  ·rw[if_neg hv];exact⟨r7,b7,false,rfl,Zf _⟩
 obtain⟨r8,b8,x8,h8,l8⟩:=branch;have hfin:=fin r8 b8 x8;have c8:=ay6 (ver:=ver) ⟨r7,b7⟩ (by dsimp only;omega) [ZI,IB x1 x2 x3 x4 [.int .i64 vk,.int .i64 vn,.str vs,.sl 5 .no (V.cellss vi),.sl 1 .no (strsA vy)] x6 x7 false (.sl 0 .nil [])] [];unfold RB ZI IB at c8;simp only[Zl,Zi]at c8;have hv12:∀ {G:Prop},(((ver==2)=false)→r8=r7→b8=b7→x8=false→G)→((ver==2)=true→Sf.flagS ⟨r7,b7⟩=(⟨r8,b8⟩,x8)→G)→G:=fun a b=>by
  rcases hver with rfl|rfl
  ·rw[if_neg (by decide)]at h8;injection h8 with h8 h9;injection h8 with h8 h10;exact a rfl h8.symm h10.symm h9.symm
  ·rw[if_pos rfl]at h8;exact b rfl h8
 have hval:=h8;refine hv12 (fun e2 er eb ex=>?_) (fun e2 hf=>?_)
 ·refine azb e2 ?_;subst er;subst eb;subst ex;refine use (akw (i:=1) (r:=r8) rfl (by omega)) ?_;have lc:=Wire.cntR_rest r8 1;have lk:=Wire.cntR_cnt r8;obtain⟨⟨rc,c⟩,hc⟩:=Ex (Wire.cntR r8 1);rw[hc]at lc lk ⊢;dsimp only at lc lk ⊢;obtain⟨⟨⟨rr,bw⟩,dw⟩,hw⟩:=Ex (Sf.wordsS c ⟨rc,b8⟩ []);refine azb ti ?_
  refine azf (fun mm ts h=>∃(j:Nat) (p:Wire.St) (ds:List (List UInt8)) (W:Nat) (o:Own) (t:List (TypeId×Nat×Nat)),mm=c-j∧j≤c ∧
   h=⟨[.cells 188 [.ptr 1 0,.int .i64 ver,.bool b8],rdr p,.cells 43 [.str [],.str [],.str [],.str [],.int .i64 0,.int .i64 0,.str [],.sl 0 .nil [],.sl 0 .nil [],.int .i64 0,.bool false,.bool false,.sl 0 .nil []],.cells 43 [.str x1,.str x2,.str x3,.str x4,.int .i64 vk,.int .i64 vn,.str vs,.sl 5 .no (V.cellss vi),.sl 1 .no (strsA vy),.int .i64 x6,.bool x7,.bool false,.sl W o (strsA ds)]],t⟩ ∧
   Sf.wordsS (c-j) ⟨p,b8⟩ ds=(⟨rr,bw⟩,dw)∧ds.length=j∧p.rest.length≤rc.rest.length∧Gs 9 1 0 ⟨[],t⟩ (strsA ds) (.sl W o (strsA ds)) ∧
   ts 0=.ptr 0 0∧ts 2=.ptr 2 0∧ts 3=.ptr 3 0∧ts 49=.int .i64 (c:Nat)∧ts 50=.int .i64 (j:Nat)) c ?_ ?_
  ·exact⟨0,rc,[],0,.nil,[],by omega,by omega,rfl,hw,rfl,Zf _,.inl ⟨rfl,rfl⟩,by(exact ev0 ti),by(exact ev0 ti),by(exact ev0 ti),by(exact ev0 ti),by(exact azq ti)⟩
  ·rintro mm ts h ⟨j,p,ds,W,o,t,rfl,hjc,rfl,hit,hdl,hpl,gX,t0,t2,t3,t49,t50⟩;by_cases hj:j<c
   ·have hlt:(j:Int)<(c:Int):=by omega
    have ei:IntKind.i64.wrap ((j:Int)+1)=((j+1:Nat):Int):=by rw[wrap64 (by omega) (by omega)];omega
    have lp:=Wire.strR_rest p;have cp:=fun h hb=>str p (Wire.strR p).1 (Wire.strR p).2 h rfl hb (by omega)
    obtain⟨⟨p2,s2⟩,hp2⟩:=Ex (Wire.strR p);have hstep:Sf.wordsS (c-(j+1)) ⟨p2,b8⟩ (ds++[s2])=(⟨rr,bw⟩,dw):=by
     rw[show c-j=(c-(j+1))+1 by omega,Sf.wordsS]at hit;unfold Sf.strS at hit;simp only[hp2]at hit;exact hit
    rw[hp2]at lp cp;dsimp only at lp cp;obtain⟨W',o',t',hX,gX',_⟩:=gX.grow 16 [.str s2] (by rw[aze];omega) (by decide);rw[←aq3]at gX';simp only[←aq3]at hX;refine azb (ai t0 (ai t2 (ai t3 (ai t49 (ai t50 hlt))))) ?_;refine use (cp _ rfl) ?_;refine azb (ai t0 (ai t2 (ai t3 (ai t49 (ai t50 (ai hX ei)))))) ?_;exact⟨c-(j+1),by omega,j+1,p2,ds++[s2],W',o',t',rfl,by omega,rfl,hstep,by simp[hdl],by omega,gX',by(exact ev0 t0),by(exact ev0 t2),by(exact ev0 t3),by(exact ev0 t49),by(exact ev0 ei)⟩
   ·have hlt:¬((j:Int)<(c:Int)):=by omega
    rw[show c-j=0 by omega,Sf.wordsS]at hit;injection hit with hit hit2;injection hit with hit hit3;subst hit;subst hit2;subst hit3;refine azb (ai t0 (ai t2 (ai t3 (ai t49 (ai t50 hlt))))) ?_;rw[hfin _ _ _ _ hval hc hw];exact⟨.agg [.str x1,.str x2,.str x3,.str x4,.int .i64 vk,.int .i64 vn,.str vs,.sl 5 .no (V.cellss vi),.sl 1 .no (strsA vy),.int .i64 x6,.bool x7,.bool false,.sl 1 .no (strsA ds)],⟨aza _,aza _,aza _,aza _,aza _,aza _,aza _,aza _,aza _,aza _,aza _,aza _,Gs.le gX,trivial⟩,rfl,rfl,rfl⟩
 ·refine azb e2 ?_;rw[hf]at c8;dsimp only at c8;refine use c8 ?_;refine azb ti ?_;refine use (akw (i:=1) (r:=r8) rfl (by omega)) ?_;have lc:=Wire.cntR_rest r8 1;have lk:=Wire.cntR_cnt r8;obtain⟨⟨rc,c⟩,hc⟩:=Ex (Wire.cntR r8 1);rw[hc]at lc lk ⊢;dsimp only at lc lk ⊢;obtain⟨⟨⟨rr,bw⟩,dw⟩,hw⟩:=Ex (Sf.wordsS c ⟨rc,b8⟩ []);refine azb ti ?_
  refine azf (fun mm ts h=>∃(j:Nat) (p:Wire.St) (ds:List (List UInt8)) (W:Nat) (o:Own) (t:List (TypeId×Nat×Nat)),mm=c-j∧j≤c ∧
   h=⟨[.cells 188 [.ptr 1 0,.int .i64 ver,.bool b8],rdr p,.cells 43 [.str [],.str [],.str [],.str [],.int .i64 0,.int .i64 0,.str [],.sl 0 .nil [],.sl 0 .nil [],.int .i64 0,.bool false,.bool false,.sl 0 .nil []],.cells 43 [.str x1,.str x2,.str x3,.str x4,.int .i64 vk,.int .i64 vn,.str vs,.sl 5 .no (V.cellss vi),.sl 1 .no (strsA vy),.int .i64 x6,.bool x7,.bool x8,.sl W o (strsA ds)]],t⟩ ∧
   Sf.wordsS (c-j) ⟨p,b8⟩ ds=(⟨rr,bw⟩,dw)∧ds.length=j∧p.rest.length≤rc.rest.length∧Gs 9 1 0 ⟨[],t⟩ (strsA ds) (.sl W o (strsA ds)) ∧
   ts 0=.ptr 0 0∧ts 2=.ptr 2 0∧ts 3=.ptr 3 0∧ts 49=.int .i64 (c:Nat)∧ts 50=.int .i64 (j:Nat)) c ?_ ?_
  ·exact⟨0,rc,[],0,.nil,[],by omega,by omega,rfl,hw,rfl,Zf _,.inl ⟨rfl,rfl⟩,by(exact ev0 ti),by(exact ev0 ti),by(exact ev0 ti),by(exact ev0 ti),by(exact azq ti)⟩
  ·rintro mm ts h ⟨j,p,ds,W,o,t,rfl,hjc,rfl,hit,hdl,hpl,gX,t0,t2,t3,t49,t50⟩;by_cases hj:j<c
   ·have hlt:(j:Int)<(c:Int):=by omega
    have ei:IntKind.i64.wrap ((j:Int)+1)=((j+1:Nat):Int):=by rw[wrap64 (by omega) (by omega)];omega
    have lp:=Wire.strR_rest p;have cp:=fun h hb=>str p (Wire.strR p).1 (Wire.strR p).2 h rfl hb (by omega)
    obtain⟨⟨p2,s2⟩,hp2⟩:=Ex (Wire.strR p);have hstep:Sf.wordsS (c-(j+1)) ⟨p2,b8⟩ (ds++[s2])=(⟨rr,bw⟩,dw):=by
     rw[show c-j=(c-(j+1))+1 by omega,Sf.wordsS]at hit;unfold Sf.strS at hit;simp only[hp2]at hit;exact hit
    rw[hp2]at lp cp;dsimp only at lp cp;obtain⟨W',o',t',hX,gX',_⟩:=gX.grow 16 [.str s2] (by rw[aze];omega) (by decide);rw[←aq3]at gX';simp only[←aq3]at hX;refine azb (ai t0 (ai t2 (ai t3 (ai t49 (ai t50 hlt))))) ?_;refine use (cp _ rfl) ?_;refine azb (ai t0 (ai t2 (ai t3 (ai t49 (ai t50 (ai hX ei)))))) ?_;exact⟨c-(j+1),by omega,j+1,p2,ds++[s2],W',o',t',rfl,by omega,rfl,hstep,by simp[hdl],by omega,gX',by(exact ev0 t0),by(exact ev0 t2),by(exact ev0 t3),by(exact ev0 t49),by(exact ev0 ei)⟩
   ·have hlt:¬((j:Int)<(c:Int)):=by omega
    rw[show c-j=0 by omega,Sf.wordsS]at hit;injection hit with hit hit2;injection hit with hit hit3;subst hit;subst hit2;subst hit3;refine azb (ai t0 (ai t2 (ai t3 (ai t49 (ai t50 hlt))))) ?_;rw[hfin _ _ _ _ hval hc hw];exact⟨.agg [.str x1,.str x2,.str x3,.str x4,.int .i64 vk,.int .i64 vn,.str vs,.sl 5 .no (V.cellss vi),.sl 1 .no (strsA vy),.int .i64 x6,.bool x7,.bool x8,.sl 1 .no (strsA ds)],⟨aza _,aza _,aza _,aza _,aza _,aza _,aza _,aza _,aza _,aza _,aza _,aza _,Gs.le gX,trivial⟩,rfl,rfl,rfl⟩
end AX
structure Jr where
 kind:Int
 base:Sf.St
 step:Int
 op:Int
 addr:List UInt8
 dep:List UInt8
 typ:List UInt8
 tok:List UInt8
 err:Int
 after:Sf.Inst
namespace Jr
def shortB(l:List (List UInt8)):Bool:=l.all fun s=>decide ((s.length:Int)≤4096)
def zeroV:V→Bool
 |.mk k n s is ks=>k==0&&n==0&&s == []&&(is.length:Int)==0&&(ks.length:Int)==0
def noneB(x:Sf.Inst):Bool:=zeroV x.attrs&&x.addr == []&&x.dep == []&&x.id == []&&x.typ == []&&x.ver==0&&!x.tainted&&!x.first&&(x.deps.length:Int)==0
def emptyB(s:Sf.St):Bool:=s.lin == []&&s.ser==0&&(s.insts.length:Int)==0&&(s.pends.length:Int)==0&&(s.outs.length:Int)==0
def instB(x:Sf.Inst):Bool:=shortB [x.addr,x.dep,x.id,x.typ]&&shortB x.deps&&decide ((x.deps.length:Int)≤512)&&Val.checkZ x.attrs==0&&decide (x.ver≥0)&&decide (x.ver≤9007199254740992)
def stepB(r:Jr):Bool:=decide (r.step≥0)&&decide (r.step<2048)&&decide (r.op≥1)&&decide (r.op≤4)&&shortB [r.addr,r.dep,r.typ]
def bareB(r:Jr):Bool:=r.step==0&&r.op==0&&r.addr == []&&r.dep == []&&r.typ == []
def makesB(op:Int):Bool:=op==1||op==2
def afterB(r:Jr):Bool:=noneB r.after||makesB r.op&&instB r.after
def badB(r:Jr):Bool:=r.kind !=1&&!emptyB r.base||r.kind !=2&&r.tok != []||r.kind !=4&&r.err !=0
def validB(r:Jr):Bool:=
 if badB r=true then false
 else if r.kind=1∨r.kind=5 then bareB r&&noneB r.after
 else if r.kind=2 then stepB r&&noneB r.after&&shortB [r.tok]&&(r.op==1||r.tok == [])
 else if r.kind=3 then stepB r&&afterB r
 else if r.kind=4 then stepB r&&afterB r&&decide (r.err≥1)&&decide (r.err≤42)
 else false
def cells(r:Jr):List AX.A:=
 [.int .i64 r.kind,.str r.base.lin,.int .i64 r.base.ser,.sl 13 .no (r.base.insts.map Sf.Inst.cells),.sl 3 .no (r.base.pends.map Sf.Pend.cells),.sl 7 .no (r.base.outs.map Sf.Outp.cells),.int .i64 r.step,.int .i64 r.op,.str r.addr,.str r.dep,.str r.typ,.str r.tok,.int .i64 r.err]++Sf.Inst.cells r.after
end Jr
namespace AX
theorem axg{α:Type}(f:α→List A)(l:List α)(i:Nat)(h:i<l.length)(hl:l.length≤4611686018427387904) :
  (l.map f).length=l.length∧(i:Int)<(l.length:Int)∧(0:Int)≤(i:Int)∧(l.map f).getD i []=f l[i]∧IntKind.i64.wrap ((i:Int)+1)=((i+1:Nat):Int):=
 ⟨Zj _,by omega,by omega,by simp[List.getD,h],by rw[wrap64 (by omega) (by omega)];omega⟩
theorem ajl{α:Type}(f:α→List A)(l:List α)(i:Nat)(h:l.length≤i):(l.map f).length=l.length∧¬(i:Int)<(l.length:Int):=⟨Zj _,by omega⟩
end AX
def gfind{α:Type}(n:Int):List (Int×α)→Option α
 |[]=>none
 |(k,x)::l=>if n=k then some x else gfind n l
def gput{α:Type}(n:Int)(x:α):List (Int×α)→List (Int×α)
 |[]=>[(n,x)]
 |(k,y)::l=>if n=k then(n,x)::l else(k,y)::gput n x l
section
variable {α:Type} (f:α→AX.A) (n:Int)
end
structure Fo where
 n:Int
 ended:Bool
 ints:List (Int×Jr)
 ress:List (Int×Bool)
 c1:Nat
 c2:Nat
namespace Fo
def next(f:Fo)(r:Jr):Bool×Fo:=
 let f1:Fo:={ f with n:=IntKind.i64.wrap (f.n+1) }
 if(f.ended||!((f.n==0)==(r.kind==1)))=true then(false,f1)
 else if r.kind=2 then(!(gfind r.step f.ints).isSome,{ f1 with ints:=gput r.step r f.ints,c1:=if(gfind r.step f.ints).isSome=true then f.c1 else f.c1+1 })
 else if r.kind=3∨r.kind=4 then
  ((match gfind r.step f.ints with
   |some i=>!((gfind r.step f.ress).getD false)&&i.op==r.op&&i.addr==r.addr&&i.typ==r.typ
   |none=>false),{ f1 with ress:=gput r.step true f.ress,c2:=if(gfind r.step f.ress).isSome=true then f.c2 else f.c2+1 })
 else if r.kind=5 then((f.ints.length:Int)==(f.ress.length:Int),{ f1 with ended:=true })
 else(true,f1)
def check:Fo→List Jr→Int
 |_,[]=>0
 |f,r::l=>if(!r.validB||(r.kind==1&&Sf.checkZ r.base !=0))=true then 1 else if(f.next r).1=true then check (f.next r).2 l else 38
end Fo
namespace Jr
end Jr
end Go.Proofs.YtdgcbckcameggadGreatDoor

namespace Go.Proofs.YtdgcbckcameggadGreatDoor
open Go.RowKit
namespace AX
theorem ax6(s p:List UInt8)(h:Hp):AT 154 [.str s,.str p] h (.bool (decide (p.length≤s.length)&&s.take p.length==p)):=by
 refine pcall ?_ rfl (by simp[A.pure,A.data]) h;refine fo ?_;by_cases hl:p.length≤s.length
 ·have h1:(s.length:Int)≥(p.length:Int):=by omega
  have h2:(p.length:Int)≤(s.length:Int):=by omega
  refine go0 (ai h1 h2) ?_;exact⟨_,le_refl _,by rw[azj,Yr hl];rfl⟩
 ·have h1:¬(s.length:Int)≥(p.length:Int):=by omega
  refine go0 h1 ?_;exact⟨_,le_refl _,by rw[azj,YH hl];rfl⟩
theorem ajv(s p:List UInt8)(h:Hp):AT 128 [.str s,.str p] h (.bool (decide (p.length≤s.length)&&s.take p.length==p)):=by
 refine pcall ?_ rfl (by simp[A.pure,A.data]) h;refine fo ?_;refine go0 ti ?_;refine gc0 ti ?_;refine(ax6 s p _).mono ?_;rintro v h1 ⟨rfl,rfl⟩;refine go0 ti ?_;exact⟨_,le_refl _,rfl⟩
def magic:List UInt8:=[80,86,83,84]
def preB(s:List UInt8):Bool:=decide (magic.length≤s.length)&&s.take magic.length==magic
def versionS(s:List UInt8):Int×Int:=
 if preB s=false then(0,2)else
 let r:=Wire.numR ⟨s.drop 4,0⟩
 if r.1.e≠0 then(0,2)else if r.2≠1∧r.2≠2 then(0,21)else(r.2,0)
theorem cq6(s:List UInt8)(hs:s.length≤100000000)(h:Hp):AT 130 [.str s] h (.tup [.int .i64 (versionS s).1,.int .i64 (versionS s).2]):=by
 refine pcall ?_ rfl (by simp[A.pure,A.data]) h;refine fo ?_;refine go0 ti ?_;refine gc0 ti ?_;refine(ajv s magic _).mono ?_;rintro v h1 ⟨rfl,rfl⟩;have hV:versionS s=if preB s=false then(0,2)else if(Wire.numR ⟨s.drop 4,0⟩).1.e≠0 then(0,2)else if(Wire.numR ⟨s.drop 4,0⟩).2≠1∧(Wire.numR ⟨s.drop 4,0⟩).2≠2 then(0,21)else((Wire.numR ⟨s.drop 4,0⟩).2,0):=rfl
 rcases azl (preB s)with hp|hp;rotate_left
 ·rw[if_pos hp]at hV;unfold preB at hp;rw[hp,hV];refine go0 ti ?_;exact⟨_,le_refl _,rfl⟩
 ·rw[if_neg (by simp[hp])]at hV;have hl4:(4:Int)≤(s.length:Int):=by
   unfold preB at hp;simp only[Zc,Zq]at hp;have:=hp.1;simp only[magic,Zh,ZA]at this;omega
  unfold preB at hp;rw[hp];have h04:(0:Int)≤4:=by decide
  have h4:(4:Int).toNat=4:=rfl;refine go0 (ai hl4 (ai h04 h4)) ?_;refine gc0 ti ?_;refine(axq (s.drop 4) _).mono ?_;rintro v h1 ⟨rfl,rfl⟩;refine go0 ti ?_;refine gc0 ti ?_;refine(aqa (i:=0) (r:=⟨s.drop 4,0⟩) rfl (by simp;omega)).mono ?_;rintro v h1 ⟨rfl,rfl⟩;refine go0 ti ?_;refine gc0 ti ?_;refine(bqj (i:=0) (r:=(Wire.numR ⟨s.drop 4,0⟩).1) rfl).mono ?_;rintro v h1 ⟨rfl,rfl⟩;obtain⟨q,hq⟩:=Ex (Wire.numR ⟨s.drop 4,0⟩);rw[hq]at hV ⊢;by_cases he:q.1.e=0
  rotate_left
  ·have e1:(q.1.e !=0)=true:=by simp[he]
   rw[if_pos he]at hV;rw[hV];refine go0 e1 ?_;exact⟨_,le_refl _,rfl⟩
  ·have e1:(q.1.e !=0)=false:=by simp[he]
   rw[if_neg (by simp[he])]at hV;by_cases h1:q.2=1
   ·have e2:(q.2 !=1)=false:=by simp[h1]
    rw[if_neg (by simp[h1])]at hV;rw[hV];refine go0 (ai e1 e2) ?_;exact⟨_,le_refl _,rfl⟩
   ·have e2:(q.2 !=1)=true:=by simp[h1]
    by_cases h2:q.2=2
    ·have e3:(q.2 !=2)=false:=by simp[h2]
     rw[if_neg (by simp[h2])]at hV;rw[hV];refine go0 (ai e1 (ai e2 e3)) ?_;exact⟨_,le_refl _,rfl⟩
    ·have e3:(q.2 !=2)=true:=by simp[h2]
     rw[if_pos ⟨h1,h2⟩]at hV;rw[hV];refine go0 (ai e1 (ai e2 e3)) ?_;exact⟨_,le_refl _,rfl⟩
theorem cqd{P:Program}{G:World→Prop}{c:ACode}{Q:AExit→Ts→Hp→Prop}{ts:Ts}{h:Hp}(k:awp P G c (thenA (fun _ _=>False) Q) ts h):awp P G (.loop c) Q ts h:=⟨1,k⟩
theorem WP.bx{i:Nat}{ver:Int}{l:List UInt8}{h h':Hp}(hp:WP i ver l h h')(h0:l≠[]):h'.b[i]?=some (wtr ver l):=by
 rcases hp.1 with h1|⟨h1,_⟩
 ·exact h1
 ·exact absurd h1 h0
end AX
end Go.Proofs.YtdgcbckcameggadGreatDoor

namespace Go.Proofs.YtdgcbckcameggadGreatDoor
open Go.Lib
namespace Num
def valA(n:Nat)(s:List UInt8):Nat:=s.foldl (fun n c=>10*n+(c.toNat-48)) n
theorem valA_cons(n:Nat)(c:UInt8)(s:List UInt8):valA n (c::s)=valA (10*n+(c.toNat-48)) s:=by unfold valA;rw[List.foldl_cons]
theorem val_valA(s:List UInt8):val s=valA 0 s:=rfl
theorem valA_ge:∀(s:List UInt8) (n:Nat),n*10^s.length≤valA n s
 |[],n=>by simp[valA]
 |c::s,n=>by
  rw[valA_cons,Zh,Nat.pow_succ];refine Zn ?_ (valA_ge s _);have e:n*(10^s.length*10)=(10*n)*10^s.length:=by
   rw[Nat.mul_comm (10^s.length) 10,←Nat.mul_assoc,Nat.mul_comm n 10]
  rw[e];exact YZ _ (by omega)
theorem valA_le(s:List UInt8)(n:Nat):n≤valA n s:=by
 have h:=valA_ge s n;have h1:1≤10^s.length:=Nat.one_le_pow _ _ (by omega);exact Zn (by simpa using Nat.mul_le_mul_left n h1) h
theorem digB_iff(c:UInt8):digB c=true↔48≤c.toNat∧c.toNat≤57:=by simp[digB]
theorem uintM_digits:∀(l:List UInt8) (acc:Nat),l.all digB=true→parseUintM 18446744073709551615 acc l=if valA acc l≤18446744073709551615 then .ok (valA acc l)else if l=[]then .ok acc else .range
 |[],acc,_=>by simp[parseUintM,valA]
 |c::r,acc,h=>by
  rw[ZE,Zc,digB_iff]at h;have h1:=valA_le r (10*acc+(c.toNat-48));rw[valA_cons];unfold parseUintM;rw[if_pos h.1];split
  ·rw[if_neg (by omega),if_neg (by simp)]
  ·split
   ·rw[if_neg (by omega),if_neg (by simp)]
   ·rw[uintM_digits r _ h.2,Nat.mul_comm acc 10];by_cases hv:valA (10*acc+(c.toNat-48)) r≤18446744073709551615
    ·rw[if_pos hv,if_pos hv]
    ·rw[if_neg hv,if_neg hv,if_neg (show¬(c::r=[]) by simp)];cases r with
     |nil =>
      exfalso
      apply hv;unfold valA;rw[List.foldl_nil];omega
     |cons d q=>rw[if_neg (by simp)]
def body(s:List UInt8):List UInt8:=if s.getD 0 0==45 then s.drop 1 else s
def canonB(s:List UInt8):Bool:=digits (body s)&&!(s.getD 0 0==45&&body s == [48])
theorem digits_long{t:List UInt8}(h:digits t=true)(hl:16<t.length):9007199254740992<val t:=by
 cases t with
 |nil=>simp at hl
 |cons c r =>
  unfold digits at h;rw[Zc,ZS,ZC,Zc,ZE,Zc,digB_iff]at h;obtain⟨⟨h1,h2⟩,h3⟩:=h;rcases h3 with h3|h3
  ·injection h3 with _ h3;subst h3;simp at hl
  ·have h4:c≠48:=by simpa using h3.2
   have h5:c.toNat≠48:=fun e=>h4 (Z9.1 (by simpa using e))
   have h6:=valA_ge r (c.toNat-48);have h7:10^16≤10^r.length:=YL (by omega) (by simp at hl;omega);have h8:1*10^r.length≤(c.toNat-48)*10^r.length:=YZ _ (by omega);have e:val (c::r)=valA (c.toNat-48) r:=by rw[val_valA,valA_cons];simp
   rw[e];have h9:(10:Nat)^16=10000000000000000:=by decide
   omega
theorem parse_form(s:List UInt8):parse s=if canonB s=false then(0,2)else if 9007199254740992<val (body s)then(0,5)else(if s.getD 0 0==45 then -(val (body s):Int)else(val (body s):Int),0):=by
 have e:parse s=if(!digits (body s)||(s.getD 0 0==45&&body s == [48]))=true then(0,2)else if 16<(body s).length then(0,5)else if 9007199254740992<val (body s)then(0,5)else(if s.getD 0 0==45 then -(val (body s):Int)else(val (body s):Int),0):=rfl
 rw[e];unfold canonB;cases hd:digits (body s)
 ·simp
 ·cases hm:(s.getD 0 0==45&&body s == [48])
  ·simp only[ZR,Y8,Zk,if_false,ZM,Bool.and_self,Bool.true_eq_false];split
   ·next hl=>rw[if_pos (digits_long hd hl)]
   ·rfl
  ·simp
theorem parseIntB_canon(s:List UInt8)(h:canonB s=true) :
  (val (body s)≤9007199254740992∧parseIntB 64 s=.ok (if s.getD 0 0==45 then -(val (body s):Int)else(val (body s):Int))) ∨
  (9007199254740992<val (body s)∧(parseIntB 64 s=.range∨∃ v,parseIntB 64 s=.ok v∧¬(-9007199254740992≤v∧v≤9007199254740992))):=by
 unfold canonB at h;rw[Zc]at h;obtain⟨hd,_⟩:=h;cases s with
 |nil=>simp[body,digits]at hd
 |cons c r =>
  have hne:body (c::r)≠[]:=by
   intro e;rw[e]at hd;simp[digits]at hd
  have hall:(body (c::r)).all digB=true:=by
   unfold digits at hd;rw[Zc]at hd;exact hd.1
  have hneg:((c::r).getD 0 0==45)=decide (c.toNat=45):=by
   show(c==45)=_
   rw[Yf,ZC,Zq];exact⟨fun e=>by rw[e];rfl,fun e=>Z9.1 (by simpa using e)⟩
  have h43:c.toNat≠43:=by
   intro e;have e2:((c::r).getD 0 0==45)=false:=by rw[hneg];simp[e]
   unfold body at hall;rw[e2]at hall;simp only[Zk,if_false,ZE,Zc,digB_iff]at hall;omega
  have hb:(if c.toNat=43∨c.toNat=45 then r else c::r)=body (c::r):=by
   unfold body;rw[hneg];by_cases e:c.toNat=45
   ·simp[e]
   ·simp[e,h43]
  have hu:parseUintB 64 (body (c::r))=if val (body (c::r))≤18446744073709551615 then .ok (val (body (c::r)))else .range:=by
   unfold parseUintB;rw[if_neg hne];have:=uintM_digits _ 0 hall;rw[if_neg hne,←val_valA]at this;exact this
  have hp:parseIntB 64 (c::r)=match parseUintB 64 (body (c::r))with
    |NumEnd.syntax=>NumEnd.syntax
    |.range => .range
    |.ok u=>if¬c.toNat=45∧2^(64-1)≤u then .range else if c.toNat=45∧2^(64-1)<u then .range else .ok (if c.toNat=45 then -(u:Int)else u):=by
   rw[←hb];rfl
  rw[hp,hu,hneg];have e63:2^(64-1)=9223372036854775808:=by decide
  rw[e63];generalize val (body (c::r))=u;by_cases hm:u≤9007199254740992
  ·refine .inl ⟨hm,?_⟩;rw[if_pos (by omega)];dsimp only;rw[if_neg (by omega),if_neg (by omega)];simp
  ·refine .inr ⟨by omega,?_⟩;by_cases h64:u≤18446744073709551615
   ·rw[if_pos h64];dsimp only;split
    ·exact .inl rfl
    ·split
     ·exact .inl rfl
     ·refine .inr ⟨_,rfl,?_⟩;split<;>omega
   ·rw[if_neg h64];exact .inl rfl
end Num
end Go.Proofs.YtdgcbckcameggadGreatDoor

namespace Go.Proofs.YtdgcbckcameggadGreatDoor
open Go.RowKit
open Go.Op (bytesLess)
namespace Num
theorem digB_int(c:UInt8):digB c=(decide (48≤(c.toNat:Int))&&decide ((c.toNat:Int)≤57)):=by
 unfold digB;have e1:decide (48≤c.toNat)=decide (48≤(c.toNat:Int)):=decide_eq_decide.2 (by omega);have e2:decide (c.toNat≤57)=decide ((c.toNat:Int)≤57):=decide_eq_decide.2 (by omega);rw[e1,e2]
theorem all_fail{s:List UInt8}{j:Nat}(hj:j<s.length)(h:digB (s.getD j 0)=false):digits s=false:=by
 have:s.all digB=false:=by
  rw[List.all_eq_false];refine⟨s[j],Zp hj,?_⟩;have e:s.getD j 0=s[j]:=by simp[List.getD,hj]
  rw[e]at h;rw[h];decide
 unfold digits;rw[this];rfl
theorem all_end{s:List UInt8}(h:∀ k,k<s.length→digB (s.getD k 0)=true):digits s=(s != []&&(s.getD 0 0 !=48||s.length==1)):=by
 have h1:s.all digB=true:=by
  rw[ZF];intro x hx;obtain⟨j,hj,rfl⟩:=List.getElem_of_mem hx;have:=h j hj;have e:s.getD j 0=s[j]:=by simp[List.getD,hj]
  rwa [e]at this
 unfold digits;rw[h1,Zx]
 match s with
 |[]=>rfl
 |[c] =>
  by_cases e:c=48
  ·subst e;rfl
  ·have e1:(c==48)=false:=by simp[e]
   have e2:([c] == [48])=false:=by simp[e]
   have e3:(c !=48)=true:=by simp[e]
   show([c] == [48]||([c] != []&&c !=48))=([c] != []&&(c !=48||([c].length==1)))
   rw[e2,e3];rfl
 |c::d::r=>simp
end Num
namespace AX
theorem cqx(c:UInt8)(n:UInt8):((c.toNat:Int)==(n.toNat:Int))=(c==n):=by
 rw[Yf,ZC,ZC];exact⟨fun e=>Z9.1 (by omega),fun e=>by rw[e]⟩
theorem bwv{P:Program}{G:World→Prop}{f:FuncId}{args:List A}{vs:List Value}{w:World}{b:Bool}(hc:ACall P G f args ⟨[],[]⟩ fun v _=>v=.bool b)(hG:∀ w':World,(∀ g,g<w.heap.size→w'.heap[g]?=w.heap[g]?)→G w')
  (ha:RepL (Ctx.of w) args vs):Calls P f vs.toArray w fun e w'=>e=.returned (.bool b)∧Below w.heap.size w w':=by
 refine(hc (Ctx.of w) vs (inv_of hG) ha).mono ?_;rintro e w' ⟨C',h',v,cv,rfl,rfl,_,st,hr,rfl⟩;rw[aqo]at hr;subst hr;exact⟨rfl,st.os,st.tape,st.output,st.size,fun g hg=>st.frame g hg rfl fun t ht=>by simp[Ctx.of]at ht⟩
theorem cks(s:List UInt8)(hl:s.length≤2000000)(h:Hp):AT 160 [.str s] h (.bool (Num.canonB s)):=by
 refine pcall ?_ rfl (by simp[A.pure,A.data]) h;refine fo ?_;obtain⟨R,hR⟩:=Ex (Num.canonB s);rw[hR];unfold Num.canonB Num.body at hR;by_cases hn:s=[]
 ·subst hn;have e0:¬((0:Nat):Int)>0:=by decide
  have e1:¬(0:Int)<((0:Nat):Int):=by decide
  have hR':R=false:=by rw[←hR];rfl
  subst hR';refine azb e0 ?_;refine cqd ?_;refine azb e1 ?_;exact⟨_,le_refl _,rfl⟩
 have hpos:(s.length:Int)>0:=by
  have:=YK.2 hn;omega
 have h0:(0:Int)<(s.length:Int):=hpos;obtain⟨c,hc⟩:=Ex (s.getD 0 0);rw[hc]at hR;have e45:((c.toNat:Int)==45)=(c==45):=cqx c 45;have hbody:∃ t:List UInt8,t=(if c==45 then s.drop 1 else s):=⟨_,rfl⟩;obtain⟨t,ht⟩:=hbody;rw[←ht]at hR;have htl:t.length≤2000000:=by
  rw[ht];split
  ·rw[ZB];omega
  ·exact hl
 have hgr:∀ j:Nat,t.getD j 0=t.getD j 0:=fun _=>rfl
 have h1le:(1:Int)≤(s.length:Int):=by omega
 have z1:(0:Int)≤1:=by decide
 have n1:(1:Int).toNat=1:=rfl;have n0:(0:Int).toNat=0:=rfl;have key:∀ {G:Prop},((c==45)=true→t=s.drop 1→G)→((c==45)=false→t=s→G)→G:=fun p q=>by
  cases e:c==45
  ·exact q e (by rw[ht,e];rfl)
  ·exact p e (by rw[ht,e];rfl)
 refine key (fun m1 m2=>?_) (fun m1 m2=>?_)
 ·rw[m1,Zx]at hR;have m3:s.drop 1=t:=m2.symm;have e10:((c.toNat:Int)==45)=true:=by rw[e45,m1]
  cases h48:t == [48];rotate_left
  ·rw[h48]at hR;have hR':R=false:=by rw[←hR,ZR,Y6]
   subst hR';refine azb (ai hpos (ai h0 (ai n0 (ai hc (ai e10 (ai h1le (ai z1 (ai n1 (ai m3 h48))))))))) ?_;exact⟨_,le_refl _,rfl⟩
  rw[h48,ZM,Z0]at hR;refine azb (ai hpos (ai h0 (ai n0 (ai hc (ai e10 (ai h1le (ai z1 (ai n1 (ai m3 h48))))))))) ?_;refine azf (fun mm ts h=>∃(j:Nat),mm=t.length-j∧j≤t.length∧h=⟨[],[]⟩∧(∀ k,k<j→Num.digB (t.getD k 0)=true)∧ts 0=.str t∧ts 17=.int .i64 (t.length:Nat)∧ts 18=.int .i64 (j:Nat)) t.length ?_ ?_
  ·exact⟨0,by omega,by omega,rfl,fun k hk=>absurd hk (Nat.not_lt_zero k),by(exact ev0 m3),by(exact ev0 m3),by(exact azq ti)⟩
  rintro mm ts h ⟨j,rfl,hjc,rfl,hok,t0,t17,t18⟩;by_cases hj:j<t.length
  ·have hlt:(j:Int)<(t.length:Int):=by omega
   have hj0:(0:Int)≤(j:Int):=by omega
   have ei:IntKind.i64.wrap ((j:Int)+1)=((j+1:Nat):Int):=by rw[wrap64 (by omega) (by omega)];omega
   obtain⟨b,hb⟩:=Ex (t.getD j 0);have hdg:=Num.digB_int b;obtain⟨x,hx⟩:∃ x:Int,(b.toNat:Int)=x:=⟨_,rfl⟩;rw[hx]at hdg;by_cases x1:x<48
   ·have hR':R=false:=by rw[←hR];exact Num.all_fail hj (by rw[hb,hdg,YH (by omega)];rfl)
    subst hR';refine azb (ai t0 (ai t17 (ai t18 (ai hlt (ai hj0 (ai hb (ai hx x1))))))) ?_;exact⟨_,le_refl _,rfl⟩
   by_cases x2:x>57
   ·have hR':R=false:=by rw[←hR];exact Num.all_fail hj (by rw[hb,hdg,Yr (show 48≤x by omega),YH (by omega)];rfl)
    subst hR';refine azb (ai t0 (ai t17 (ai t18 (ai hlt (ai hj0 (ai hb (ai hx (ai x1 x2)))))))) ?_;exact⟨_,le_refl _,rfl⟩
   ·refine azb (ai t0 (ai t17 (ai t18 (ai hlt (ai hj0 (ai hb (ai hx (ai x1 (ai x2 ei))))))))) ?_;refine⟨t.length-(j+1),by omega,j+1,rfl,by omega,rfl,fun k hk=>?_,by(exact ev0 t0),by(exact ev0 t17),by(exact ev0 ei)⟩;by_cases e:k=j
    ·rw[e,hb,hdg,Yr (show 48≤x by omega),Yr (show x≤57 by omega)];rfl
    ·exact hok k (by omega)
  ·have hlt:¬((j:Int)<(t.length:Int)):=by omega
   have hje:j=t.length:=by omega
   rw[hje]at hok;have hE:=Num.all_end hok;rw[hR]at hE;cases hnt:t != []
   ·rw[hnt,Yb]at hE;subst hE;refine azb (ai t0 (ai t17 (ai t18 (ai hlt hnt)))) ?_;exact⟨_,le_refl _,rfl⟩
   rw[hnt,Zx]at hE;have hp2:(0:Int)<(t.length:Int):=by
    have:t≠[]:=by simpa using hnt
    have:=YK.2 this;omega
   obtain⟨b,hb⟩:=Ex (t.getD 0 0);rw[hb]at hE;have e48:((b.toNat:Int)!=48)=(b !=48):=congrArg (!·) (cqx b 48);cases hb48:b !=48
   ·rw[hb48,Ys]at hE;rw[hb48]at e48;have el:((t.length:Int)==1)=(t.length==1):=by
     rw[Yf,ZC,ZC];omega
    rw[←hE]at el;refine azb (ai t0 (ai t17 (ai t18 (ai hlt (ai hnt (ai hp2 (ai n0 (ai hb (ai e48 el))))))))) ?_;exact⟨_,le_refl _,rfl⟩
   ·rw[hb48,YT]at hE;subst hE;rw[hb48]at e48;refine azb (ai t0 (ai t17 (ai t18 (ai hlt (ai hnt (ai hp2 (ai n0 (ai hb e48)))))))) ?_;exact⟨_,le_refl _,rfl⟩
 ·have e10:((c.toNat:Int)==45)=false:=by rw[e45,m1]
  rw[m1,Yb,ZM,Z0]at hR;have m3:s=t:=m2.symm;refine azb (ai hpos (ai h0 (ai n0 (ai hc e10)))) ?_;refine azf (fun mm ts h=>∃(j:Nat),mm=t.length-j∧j≤t.length∧h=⟨[],[]⟩∧(∀ k,k<j→Num.digB (t.getD k 0)=true)∧ts 0=.str t∧ts 17=.int .i64 (t.length:Nat)∧ts 18=.int .i64 (j:Nat)) t.length ?_ ?_
  ·exact⟨0,by omega,by omega,rfl,fun k hk=>absurd hk (Nat.not_lt_zero k),by(exact ev0 m3),by(exact ev0 m3),by(exact azq ti)⟩
  rintro mm ts h ⟨j,rfl,hjc,rfl,hok,t0,t17,t18⟩;by_cases hj:j<t.length
  ·have hlt:(j:Int)<(t.length:Int):=by omega
   have hj0:(0:Int)≤(j:Int):=by omega
   have ei:IntKind.i64.wrap ((j:Int)+1)=((j+1:Nat):Int):=by rw[wrap64 (by omega) (by omega)];omega
   obtain⟨b,hb⟩:=Ex (t.getD j 0);have hdg:=Num.digB_int b;obtain⟨x,hx⟩:∃ x:Int,(b.toNat:Int)=x:=⟨_,rfl⟩;rw[hx]at hdg;by_cases x1:x<48
   ·have hR':R=false:=by rw[←hR];exact Num.all_fail hj (by rw[hb,hdg,YH (by omega)];rfl)
    subst hR';refine azb (ai t0 (ai t17 (ai t18 (ai hlt (ai hj0 (ai hb (ai hx x1))))))) ?_;exact⟨_,le_refl _,rfl⟩
   by_cases x2:x>57
   ·have hR':R=false:=by rw[←hR];exact Num.all_fail hj (by rw[hb,hdg,Yr (show 48≤x by omega),YH (by omega)];rfl)
    subst hR';refine azb (ai t0 (ai t17 (ai t18 (ai hlt (ai hj0 (ai hb (ai hx (ai x1 x2)))))))) ?_;exact⟨_,le_refl _,rfl⟩
   ·refine azb (ai t0 (ai t17 (ai t18 (ai hlt (ai hj0 (ai hb (ai hx (ai x1 (ai x2 ei))))))))) ?_;refine⟨t.length-(j+1),by omega,j+1,rfl,by omega,rfl,fun k hk=>?_,by(exact ev0 t0),by(exact ev0 t17),by(exact ev0 ei)⟩;by_cases e:k=j
    ·rw[e,hb,hdg,Yr (show 48≤x by omega),Yr (show x≤57 by omega)];rfl
    ·exact hok k (by omega)
  ·have hlt:¬((j:Int)<(t.length:Int)):=by omega
   have hje:j=t.length:=by omega
   rw[hje]at hok;have hE:=Num.all_end hok;rw[hR]at hE;cases hnt:t != []
   ·rw[hnt,Yb]at hE;subst hE;refine azb (ai t0 (ai t17 (ai t18 (ai hlt hnt)))) ?_;exact⟨_,le_refl _,rfl⟩
   rw[hnt,Zx]at hE;have hp2:(0:Int)<(t.length:Int):=by
    have:t≠[]:=by simpa using hnt
    have:=YK.2 this;omega
   obtain⟨b,hb⟩:=Ex (t.getD 0 0);rw[hb]at hE;have e48:((b.toNat:Int)!=48)=(b !=48):=congrArg (!·) (cqx b 48);cases hb48:b !=48
   ·rw[hb48,Ys]at hE;rw[hb48]at e48;have el:((t.length:Int)==1)=(t.length==1):=by
     rw[Yf,ZC,ZC];omega
    rw[←hE]at el;refine azb (ai t0 (ai t17 (ai t18 (ai hlt (ai hnt (ai hp2 (ai n0 (ai hb (ai e48 el))))))))) ?_;exact⟨_,le_refl _,rfl⟩
   ·rw[hb48,YT]at hE;subst hE;rw[hb48]at e48;refine azb (ai t0 (ai t17 (ai t18 (ai hlt (ai hnt (ai hp2 (ai n0 (ai hb e48)))))))) ?_;exact⟨_,le_refl _,rfl⟩
end AX
theorem bq6(l:List UInt8)(hl:l.length≤2000000)(w:World)(g:GT w) :
  Calls Tryz.prog 137 #[.string ⟨l.toArray⟩] w fun e w'=>e=.returned (.tuple #[.int .i64 (Num.parse l).1,.int .i64 (Num.parse l).2])∧Below w.heap.size w w':=by
 have hc:=AX.bwv (w:=w) (vs:=[.string ⟨l.toArray⟩]) ((AX.cks l hl ⟨[],[]⟩).mono fun v h' hv=>hv.1) (AX.cq9 g) (AX.repL_cons.2 ⟨_,_,rfl,AX.rep_str.2 rfl,AX.repL_nil.2 rfl⟩);have hf:=Num.parse_form l;obtain⟨P1,hP1⟩:=Ex (Num.parse l);rw[hP1]at hf ⊢;cases hB:Num.canonB l
 ·rw[hB,if_pos rfl]at hf;subst hf;rw[hB]at hc;go_enter Tryz.func137,Tryz.ntmps137;go_wp2_with fail;refine hc.mono ?_;rintro e w1 ⟨rfl,b1⟩;have B1:=kept b1;clear b1;go_wp2;refine bodyPost_ret (v:=.tuple #[.int .i64 0,.int .i64 2]) (by simp[results,Tryz.results137,go_sem]) rfl ⟨rfl,B1.out⟩
 ·rw[hB,if_neg (by decide)]at hf;rw[hB]at hc;have hsz:(⟨l.toArray⟩:ByteArray).size≤9223372036854775806:=by rw[size_mk];omega
  have hlim:(⟨l.toArray⟩:ByteArray).size≤281474976710656:=by rw[size_mk];omega
  have hsyn:=g.esyn;obtain⟨ev,hev,hev2⟩:=g.erng;have nilne:∀(a b:Value),True:=fun _ _=>AX.ti
  rcases Num.parseIntB_canon l hB with⟨h1,h2⟩|⟨h1,h2|⟨v,h2,h3⟩⟩
  ·rw[if_neg (by omega)]at hf;obtain⟨v,hv⟩:∃ v:Int,(if l.getD 0 0==45 then -(Num.val (Num.body l):Int)else(Num.val (Num.body l):Int))=v:=⟨_,rfl⟩;rw[hv]at h2 hf;have hvr:-9007199254740992≤v∧v≤9007199254740992:=by rw[←hv];split<;>omega
   have hp:∀ w':World,Calls Tryz.prog 161 #[.string ⟨l.toArray⟩,.int .i64 10,.int .i64 64] w' fun e w2=>e=.returned (.tuple #[.int .i64 v,.nilIface])∧(w2=w'∨∃ t,w2=Lib.bytesWorld w' 5 t):=fun w'=>Any.strconv_ParseInt_10_at64_ok (P:=Tryz.prog) Tryz.lays174 ⟨l.toArray⟩ hsz v h2 w'
   have Hnv:=kept (fun w'=>ax8 v w');rw[Yr hvr]at Hnv;subst hf;have Hp:=kept hp;clear hp hsz hlim hsyn hev hev2 hvr hv h1 h2 hB;go_enter Tryz.func137,Tryz.ntmps137;go_wp2_with fail;refine hc.mono ?_;rintro e w1 ⟨rfl,b1⟩;have B1:=kept b1;clear b1;go_wp2_with fail;(with_reducible refine(Hp.out _).mono ?_);rintro e w2 ⟨rfl,hw⟩
   have B2:Kept (Below w.heap.size w w2):=kept (by
    rcases hw with rfl|⟨t,rfl⟩
    ·exact B1.out
    ·exact bthen B1.out (Lib.bytesWorld_below _ _ _))
   clear hw;go_wp2_with fail;(with_reducible refine(Hnv.out _).mono ?_);rintro e w3 ⟨rfl,rfl⟩
   go_wp2;refine bodyPost_ret (v:=.tuple #[.int .i64 v,.int .i64 0]) (by simp[results,Tryz.results137,go_sem]) rfl ⟨rfl,B2.out⟩
  ·rw[if_pos (by omega)]at hf;have hp:∀ w':World,w'.cell? ⟨4,0,none⟩=some ev→Calls Tryz.prog 161 #[.string ⟨l.toArray⟩,.int .i64 10,.int .i64 64] w' fun e w2=>(∃ a b c,e=.returned (.tuple #[.int .i64 a,.iface b c]))∧Below w'.heap.size w' w2:=fun w' hv=>(Any.strconv_ParseInt_10_at64_range (P:=Tryz.prog) Tryz.lays174 ⟨l.toArray⟩ hlim h2 ev w' hv hev2).mono fun e w2 ⟨N,q1,q2,q3,q4⟩=>⟨⟨_,_,_,q1⟩,q4⟩
   subst hf;have Hp:=kept hp;have Hev:=kept hev;clear hp hsz hlim hsyn hev hev2 h1 h2 hB;go_enter Tryz.func137,Tryz.ntmps137;go_wp2_with fail;refine hc.mono ?_;rintro e w1 ⟨rfl,b1⟩;have B1:=kept b1;have Hev1:=kept (show w1.cell? ⟨4,0,none⟩=some ev from by rw[←Hev.out];simp only[World.cell?,b1.block _ (aqy Hev.out).2]);clear b1;go_wp2_with fail;(with_reducible refine(Hp.out _ Hev1.out).mono ?_);rintro e w2 ⟨⟨a,b,c,rfl⟩,b2⟩
   have B2:Kept (Below w.heap.size w w2):=kept (bthen B1.out b2);clear b2;go_wp2;refine bodyPost_ret (v:=.tuple #[.int .i64 0,.int .i64 5]) (by simp[results,Tryz.results137,go_sem]) rfl ⟨rfl,B2.out⟩
  ·rw[if_pos (by omega)]at hf;have hp:∀ w':World,Calls Tryz.prog 161 #[.string ⟨l.toArray⟩,.int .i64 10,.int .i64 64] w' fun e w2=>e=.returned (.tuple #[.int .i64 v,.nilIface])∧(w2=w'∨∃ t,w2=Lib.bytesWorld w' 5 t):=fun w'=>Any.strconv_ParseInt_10_at64_ok (P:=Tryz.prog) Tryz.lays174 ⟨l.toArray⟩ hsz v h2 w'
   have Hnv:=kept (fun w'=>ax8 v w');rw[YH h3]at Hnv;subst hf;have Hp:=kept hp;clear hp hsz hlim hsyn hev hev2 h3 h1 h2 hB;go_enter Tryz.func137,Tryz.ntmps137;go_wp2_with fail;refine hc.mono ?_;rintro e w1 ⟨rfl,b1⟩;have B1:=kept b1;clear b1;go_wp2_with fail;(with_reducible refine(Hp.out _).mono ?_);rintro e w2 ⟨rfl,hw⟩
   have B2:Kept (Below w.heap.size w w2):=kept (by
    rcases hw with rfl|⟨t,rfl⟩
    ·exact B1.out
    ·exact bthen B1.out (Lib.bytesWorld_below _ _ _))
   clear hw;go_wp2_with fail;(with_reducible refine(Hnv.out _).mono ?_);rintro e w3 ⟨rfl,rfl⟩
   go_wp2;refine bodyPost_ret (v:=.tuple #[.int .i64 0,.int .i64 5]) (by simp[results,Tryz.results137,go_sem]) rfl ⟨rfl,B2.out⟩
theorem AX.a_numParse(s:List UInt8)(hl:s.length≤2000000)(h:AX.Hp):AX.AT 137 [.str s] h (.tup [.int .i64 (Num.parse s).1,.int .i64 (Num.parse s).2]):=
 AX.azs (AX.axv AX.aq8) (fun w hg=>bq6 s hl w hg) (fun C=>AX.rep_tup.2 ⟨_,rfl,AX.repL_cons.2 ⟨_,_,rfl,AX.rep_int.2 rfl,AX.repL_cons.2 ⟨_,_,rfl,AX.rep_int.2 rfl,AX.repL_nil.2 rfl⟩⟩⟩) h
end Go.Proofs.YtdgcbckcameggadGreatDoor
