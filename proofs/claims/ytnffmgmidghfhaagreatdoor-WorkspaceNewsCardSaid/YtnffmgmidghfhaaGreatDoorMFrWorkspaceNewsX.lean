/- Part of what the proof needs. -/
import Derived.Test.YtnffmgmidghfhaaGreatDoorMFrWorkspaceNewsW
set_option maxHeartbeats 4000000
set_option maxRecDepth 100000
set_option linter.all false
namespace Go.Proofs.YtnffmgmidghfhaaGreatDoor
section
open Go.RowKit
namespace AX
open Sto
def keyT:List UInt8:=[107,101,121]
def netN:List UInt8:=[110,101,116]
def outId:Sf.Outp:=⟨[105,100],.mk 3 0 [110,101,116,45,49] [] [],false⟩
def st1:Sf.St:=nextS (st0 netN) [outId] false
theorem dqc:OutsOk [outId]:=⟨by simp,fun o ho=>by rw[ZB.1 ho];unfold outId V.few V.fews;simp,by simp⟩
theorem ckg:(V.mk 3 0 [110,101,116,45,49] [] []).lens:=by unfold V.lens V.lensS;simp[maxLen]
theorem cwa(n:List UInt8):CutW [] n 0:=⟨Ze _,fun i h=>absurd h (Nat.not_lt_zero _),fun i h=>absurd h (Nat.not_lt_zero _)⟩
theorem dz7{e:Ent}{W:List Ent}{n:List UInt8}(h:∀x∈e::W,0<=cmpZ x.name n):CutW (e::W) n 0:=⟨Z0 _,fun i _ h=>absurd h (Nat.not_lt_zero _),fun i hi _=>h _ (ZF hi)⟩
def bxv:AX.AFn:=⟨38,aS [aR 2 (.box 32 (.t 0)),aR 4 (.alloc 32 [.int .i64 0,.int .i64 0,.str [],.sl 0 .nil [],.sl 0 .nil []]),aR 5 (.mv (.c (.bool false)))] (.seq (aS [aF 7 0 2,aL 8 7,aR 9 (.bin .neq (.t 8) (aI 5))] (.cond (.t 9) (aS [aR 10 (.build [.int .i64 0,.int .i64 0,.str [],.sl 0 .nil [],.sl 0 .nil []] []),aU (.store 5 (.t 4) (.t 10)),aR 5 (.mv (.c (.bool false)))] (.ret)) (.skip))) (.seq (aS [aR 6 (.mv (aI 0))] (.block 0 (.loop (.seq (aS [aM 11 6,aF 12 4 2,aL 13 12,aR 14 (.len false (.t 13)),aR 15 (.bin .lss (.t 11) (.t 14)),aM 16 15,aG 17 (.mv (.t 6)) 16 true,aG 18 (.faddr 3 (.t 2)) 16 true,aG 19 (.load false 1 (.t 18)) 16 true,aG 20 (.len false (.t 19)) 16 true,aG 21 (.bin .lss (.t 17) (.t 20)) 16 true,aR 22 (.pick (.t 16) (.t 21) (.c (.bool false)))] (.cond (.t 22) (.skip) (.exit 0))) (.seq (.block 1 (aS [aF 25 4 2,aL 26 25,aM 27 6,aR 28 (.iaddr 1 (.t 26) (.t 27)),aL 29 28,aM 30 1,aR 31 (.bin .eql (.t 29) (.t 30))] (.cond (.t 31) (aS [aF 32 3 2,aL 33 32,aM 34 6,aR 35 (.iaddr 5 (.t 33) (.t 34)),aR 36 (.load true 5 (.t 35)),aU (.store 5 (.t 4) (.t 36)),aR 5 (.mv (.c (.bool true)))] (.ret)) (.skip)))) (.reg false [aM 23 6,aR 24 (.bin .add (.t 23) (aI 1)),aM 6 24])))))) (aS [aR 37 (.build [.int .i64 0,.int .i64 0,.str [],.sl 0 .nil [],.sl 0 .nil []] []),aU (.store 5 (.t 4) (.t 37)),aR 5 (.mv (.c (.bool false)))] (.ret)))),[.c 4 true 5,.t 5]⟩
theorem cww:AX.compFn Tryz.prog 15=some bxv:=by kernel_rfl
theorem cvq(x:V)(k:List UInt8)(h:Hp):AT 15 [(V.mk 5 0 [] [x] [k]).A,.str k] h (.tup [x.A,.bool true]):=by
 obtain⟨kd,n,s,is,ks⟩:=x;refine pcall ?_ rfl (by simp[A.pure,A.data,V.A,V.cells]) h;simp only[V.A,V.cells,V.cellss,strsA,ZO,Yg];refine aza mixedT cww (by simp[bxv]) ?_;dsimp only[bxv];obtain⟨I,hI⟩:=Ex (V.cellss is);rw[hI];have z1:(0:Int)<1:=by decide
 have z2:(0:Int)<((1:Nat):Int):=by decide
 refine azo (ai z1 z2) ti ?_;refine ax3 ?_;refine azo (ai z1 z2) ti ?_;exact Fn rfl
theorem st1_in:Sf.StIn st1/\Sf.TypIn st1:=by
 refine⟨⟨?_,?_,?_,fun x hx=>?_,?_,?_,?_⟩,⟨?_,?_⟩⟩
 ·decide
 ·intro x hx;cases hx
 ·intro x hx;cases hx
 ·rw[ZB.1 (show x∈[outId]from hx)];exact⟨by decide,ckg⟩
 ·decide
 ·decide
 ·decide
 ·intro x hx;cases hx
 ·intro x hx;cases hx
theorem cv0:(Sf.stE 2 st1).length+20<=1000000000:=by decide +kernel
theorem cy0:(wrS (newS keyT netN) st1).2=0:=by
 unfold wrS;rw[if_pos (aj0 _ _).1];decide +kernel
theorem dz8(key:List UInt8)(v:Vs (newS keyT netN) ([]++[st0 netN])):Vs (wrS (newS keyT netN) st1).1 (([]++[st0 netN])++[st1]):=by
 have h:=cy0;unfold wrS at h⊢;rw[if_pos (aj0 _ _).1]at h⊢;rcases(v.lock meT 1000).write (by decide) meT st1 st1_in.1 st1_in.2 with⟨h1,_⟩|⟨_,_,_,_,h1,_⟩
 ·exact absurd h h1
 ·exact h1.unlock meT
def opB:Blk:=.cells 45 [.int .u8 2,.str [110,101,116],.sl 7 (.tok 0) [[.str [105,100],.int .i64 3,.int .i64 0,.str [110,101,116,45,49],.sl 0 .nil [],.sl 0 .nil [],.bool false]],.bool false]
theorem ACall.wkA{P:Program}{G:World->Prop}{f:FuncId}{l l':List A}{h:Hp}{Q:A->Hp->Prop}(hc:ACall P G f l' h Q)(hw:∀C cs,RepL C l cs->RepL C l' cs):ACall P G f l h Q:=fun C cs hI ha=>hc C cs hI (hw C cs ha)
theorem ckf{i:Nat}(C:Ctx)(cs:List Value)(r:RepL C [.ptr i 0,.agg [.int .u8 2,.str [110,101,116],.sl 7 (.tok 0) [[.str [105,100],.int .i64 3,.int .i64 0,.str [110,101,116,45,49],.sl 0 .nil [],.sl 0 .nil [],.bool false]],.bool false]] cs):
  RepL C [.ptr i 0,.agg [.int .u8 2,.str netN,.sl 7 .no ([outId].map Sf.Outp.cells),.bool false]] cs:=by
 obtain⟨c0,cs0,rfl,r0,rl⟩:=repL_cons.1 r;obtain⟨c1,cs1,rfl,r1,rl⟩:=repL_cons.1 rl;refine repL_cons.2 ⟨_,_,rfl,r0,repL_cons.2 ⟨_,_,rfl,?_,rl⟩⟩;obtain⟨ds,rfl,dl⟩:=rep_agg.1 r1;obtain⟨d0,ds0,rfl,x0,dl⟩:=repL_cons.1 dl;obtain⟨d1,ds1,rfl,x1,dl⟩:=repL_cons.1 dl;obtain⟨d2,ds2,rfl,x2,dl⟩:=repL_cons.1 dl;refine rep_agg.2 ⟨_,rfl,repL_cons.2 ⟨_,_,rfl,x0,repL_cons.2 ⟨_,_,rfl,x1,repL_cons.2 ⟨_,_,rfl,?_,dl⟩⟩⟩⟩;obtain⟨a,cap,rfl,hc,rr,_⟩:=rep_sl.1 x2;refine rep_sl.2 ⟨a,cap,rfl,hc,?_,trivial⟩;unfold RepRows at rr;obtain⟨⟨g,off,e,hl,ra⟩,_⟩:=rr;show RepRows C 7 [outId.cells] a 0
 have hw:WkL [.str [105,100],.int .i64 3,.int .i64 0,.str [110,101,116,45,49],.sl 0 .nil [],.sl 0 .nil [],.bool false] outId.cells:=
  ⟨.inl rfl,.inl rfl,.inl rfl,.inl rfl,.inr ⟨0,5,rfl,rfl⟩,.inr ⟨0,1,rfl,rfl⟩,.inl rfl,trivial⟩
 unfold RepRows RepRows;exact⟨⟨g,off,e,by rw[hw.len,hl],ayn hw ra⟩,trivial⟩
def vb3:Blk:=.cells 32 [.int .i64 3,.int .i64 0,.str [110,101,116,45,49],.sl 5 .no [],.sl 1 .no []]
def vb2:Blk:=.cells 32 [.int .i64 5,.int .i64 0,.str [],.sl 5 .no [[.int .i64 3,.int .i64 0,.str [110,101,116,45,49],.sl 5 .no [],.sl 1 .no []]],.sl 1 .no [[.str [105,100]]]]
def vb1:Blk:=.cells 32 [.int .i64 5,.int .i64 0,.str [],.sl 5 .no [[.int .i64 5,.int .i64 0,.str [],.sl 5 .no [[.int .i64 3,.int .i64 0,.str [110,101,116,45,49],.sl 5 .no [],.sl 1 .no []]],.sl 1 .no [[.str [105,100]]]]],.sl 1 .no [[.str [110,101,116]]]]
theorem dql(b:List Blk)(x y z:Blk):(b++[x]++[y]++[z])[b.length]?=some x/\(b++[x]++[y]++[z])[b.length+1]?=some y/\(b++[x]++[y]++[z])[b.length+1+1]?=some z:=
 ⟨azc (azc Zs _) _,azc (az6 (by simp)) _,az6 (by simp)⟩
theorem cxt:(V.mk 5 0 [] [outsV [outId]] [netN]).lens:=by
 simp[outsV,outId,V.lens,V.lensS,netN,maxLen]
theorem dzc:Val.checkZ (.mk 5 0 [] [outsV [outId]] [netN])=0:=by decide +kernel
def aky:AX.AFn:=⟨113,aS [aR 0 (.mv (.c (.bool false)))] (aS [aR 14 (.call 6 [.c (.str [107,101,121])]),aM 13 14,aE 15 13 0,aE 16 13 1,aM 1 15,aM 2 16] (.seq (aS [aM 17 2,aR 18 (.bin .neq (.t 17) (aI 0)),aM 19 18,aG 20 (.mv (.t 1)) 19 false,aG 21 (.eq 4 [] false (.t 20) (.c (.nilp))) 19 false,aR 22 (.pick (.t 19) (.c (.bool true)) (.t 21)),aM 23 22,aG 24 (.mv (.t 1)) 23 false,aG 25 (.call 12 [.t 24,.c (.str [110,101,116])]) 23 false,aG 26 (.bin .neq (.t 25) (aI 0)) 23 false,aR 27 (.pick (.t 23) (.c (.bool true)) (.t 26)),aM 28 27,aG 29 (.mv (.t 1)) 28 false,aG 30 (.call 12 [.t 29,.c (.str [109,97,105,110])]) 28 false,aG 31 (.bin .neq (.t 30) (aI 0)) 28 false,aR 32 (.pick (.t 28) (.c (.bool true)) (.t 31)),aM 33 32,aG 34 (.mv (.t 1)) 33 false,aG 35 (.call 12 [.t 34,.c (.str [109,97,105,110])]) 33 false,aG 36 (.bin .neq (.t 35) (aI 8)) 33 false,aR 37 (.pick (.t 33) (.c (.bool true)) (.t 36))] (.cond (.t 37) (aS [aR 0 (.mv (.c (.bool false)))] (.ret)) (.skip))) (aS [aR 38 (.build [.int .i64 0,.int .i64 0,.str [],.sl 0 .nil [],.sl 0 .nil []] [(0,1,aI 3),(2,1,.c (.str [110,101,116,45,49]))]),aR 39 (.build [.str [],.int .i64 0,.int .i64 0,.str [],.sl 0 .nil [],.sl 0 .nil [],.bool false] [(0,1,.c (.str [105,100])),(1,5,.t 38)]),aR 40 (.mkl 42 7 [.t 39]),aR 41 (.build [.int .u8 0,.str [],.sl 0 .nil [],.bool false] [(0,1,.c (.int .u8 2)),(1,1,.c (.str [110,101,116])),(2,1,.t 40)]),aR 3 (.alloc 45 [.int .u8 0,.str [],.sl 0 .nil [],.bool false]),aU (.store 4 (.t 3) (.t 41))] (.seq (aS [aM 42 1,aR 43 (.load true 4 (.t 3)),aR 44 (.call 14 [.t 42,.t 43]),aR 45 (.bin .neq (.t 44) (aI 0))] (.cond (.t 45) (aS [aR 0 (.mv (.c (.bool false)))] (.ret)) (.skip))) (aS [aM 47 1,aR 48 (.call 8 [.t 47,.c (.str [109,97,105,110])]),aM 46 48,aE 49 46 0,aE 50 46 1,aR 4 (.alloc 32 [.int .i64 0,.int .i64 0,.str [],.sl 0 .nil [],.sl 0 .nil []]),aU (.store 5 (.t 4) (.t 49)),aM 5 50] (aS [aR 52 (.load true 5 (.t 4)),aR 53 (.call 15 [.t 52,.c (.str [110,101,116])]),aM 51 53,aE 54 51 0,aE 55 51 1,aR 6 (.alloc 32 [.int .i64 0,.int .i64 0,.str [],.sl 0 .nil [],.sl 0 .nil []]),aU (.store 5 (.t 6) (.t 54)),aM 7 55] (aS [aR 57 (.load true 5 (.t 6)),aR 58 (.call 15 [.t 57,.c (.str [105,100])]),aM 56 58,aE 59 56 0,aE 60 56 1,aR 8 (.alloc 32 [.int .i64 0,.int .i64 0,.str [],.sl 0 .nil [],.sl 0 .nil []]),aU (.store 5 (.t 8) (.t 59)),aM 9 60] (aS [aM 61 1,aR 62 (.call 9 [.t 61]),aM 10 62] (aS [aM 64 1,aR 65 (.call 10 [.t 64,.c (.str [122,122])]),aM 63 65,aE 66 63 0,aE 67 63 1,aM 11 66,aM 12 67] (aS [aM 68 5,aR 69 (.bin .eql (.t 68) (aI 0)),aM 70 69,aG 71 (.faddr 4 (.t 4)) 70 true,aG 72 (.load false 1 (.t 71)) 70 true,aG 73 (.len false (.t 72)) 70 true,aG 74 (.bin .eql (.t 73) (aI 1)) 70 true,aR 75 (.pick (.t 70) (.t 74) (.c (.bool false))),aM 76 75,aG 77 (.mv (.t 7)) 76 true,aR 78 (.pick (.t 76) (.t 77) (.c (.bool false))),aM 79 78,aG 80 (.mv (.t 9)) 79 true,aR 81 (.pick (.t 79) (.t 80) (.c (.bool false))),aM 82 81,aG 83 (.faddr 2 (.t 8)) 82 true,aG 84 (.load false 1 (.t 83)) 82 true,aG 85 (.bin .eql (.t 84) (.c (.str [110,101,116,45,49]))) 82 true,aR 86 (.pick (.t 82) (.t 85) (.c (.bool false))),aM 87 86,aG 88 (.mv (.t 10)) 87 true,aG 89 (.len false (.t 88)) 87 true,aG 90 (.bin .eql (.t 89) (aI 2)) 87 true,aR 91 (.pick (.t 87) (.t 90) (.c (.bool false))),aM 92 91,aG 93 (.mv (.t 10)) 92 true,aG 94 (.iaddr 1 (.t 93) (aI 0)) 92 true,aG 95 (.load false 1 (.t 94)) 92 true,aG 96 (.bin .eql (.t 95) (.c (.str [109,97,105,110]))) 92 true,aR 97 (.pick (.t 92) (.t 96) (.c (.bool false))),aM 98 97,aG 99 (.mv (.t 12)) 98 true,aG 100 (.bin .eql (.t 99) (aI 9)) 98 true,aR 101 (.pick (.t 98) (.t 100) (.c (.bool false))),aM 102 101,aG 103 (.mv (.t 1)) 102 true,aG 104 (.call 13 [.t 103,.c (.str [109,97,105,110])]) 102 true,aG 105 (.bin .eql (.t 104) (aI 0)) 102 true,aR 106 (.pick (.t 102) (.t 105) (.c (.bool false))),aM 107 106,aG 108 (.mv (.t 1)) 107 true,aG 109 (.call 9 [.t 108]) 107 true,aG 110 (.len false (.t 109)) 107 true,aG 111 (.bin .eql (.t 110) (aI 1)) 107 true,aR 112 (.pick (.t 107) (.t 111) (.c (.bool false))),aM 0 112] (.ret))))))))))),[.t 0]⟩
theorem czp:AX.compFn Tryz.prog 5=some aky:=by kernel_rfl
theorem ck4(h:Hp):AT 5 [] h (.bool true):=by
 refine pcall ?_ rfl rfl h;have hk:Seal.check keyT=0:=by decide +kernel
 have v1:=by4 (key:=keyT) (lin:=netN) hk (by decide) (by decide) (by decide +kernel);have v2:=by4 (key:=keyT) (lin:=mainN) hk (by decide) (by decide) (by decide +kernel);have c0:=bvx hk ⟨[],[]⟩;refine aza mixedT czp (by simp[aky]) ?_;dsimp only[aky];have t1:keyT=[107,101,121]:=rfl;have t2:netN=[110,101,116]:=rfl;have t3:mainN=[109,97,105,110]:=rfl;rw[t1]at c0;refine go0 ti ?_;refine gc0 ti ?_;refine c0.mono ?_;rintro v ⟨B,T⟩ ⟨i,rfl,rfl,-,-,w⟩;rw[<-t1]at w;have c1:=awl (h:=⟨B,[]⟩) w hk netN 0 (cwa _) (by decide +kernel);rw[t2]at c1;refine go0 ti ?_;refine gc0 ti ?_;refine c1.mono ?_;rintro v ⟨B,T⟩ ⟨rfl,rfl,⟨sp,p1,m1,w⟩,-,-⟩;rw[<-t2]at w;have w:WsAt B i keyT sp [⟨netN,newS keyT netN,p1,m1⟩]:=w;have l1:0<=cmpZ netN mainN:=by decide +kernel
 have l2:0<=cmpZ mainN mainN:=by decide +kernel
 have l3:cmpZ mainN netN<0:=by decide +kernel
 have l4:0<=cmpZ netN netN:=by decide +kernel
 have cm:∀x∈[(⟨netN,newS keyT netN,p1,m1⟩:Ent)],0<=cmpZ x.name mainN:=fun x hx=>by rw[ZB.1 hx];exact l1
 have c2:=awl (h:=⟨B,[]⟩) w hk mainN 0 (dz7 cm) (by
  unfold crE
  rw[if_neg (by decide +kernel),if_neg (by show¬(cmpZ netN mainN==0)=true;decide +kernel),if_neg (by show¬32<=1;decide)])
 rw[t3]at c2;refine go0 ti ?_;refine gc0 ti ?_;refine c2.mono ?_;rintro v ⟨B,T⟩ ⟨rfl,rfl,⟨sp,p2,m2,w⟩,-,-⟩;rw[<-t3]at w;have w:WsAt B i keyT sp [⟨mainN,newS keyT mainN,p2,m2⟩,⟨netN,newS keyT netN,p1,m1⟩]:=w
 have c3:=bk6 (h:=⟨B,[]⟩) w mainN (by decide) 0 (dz7 (fun x hx=>by
  rcases ZM.1 hx with rfl|hx
  ·exact l2
  ·exact cm x hx)) (by
  unfold crE;rw[if_neg (by decide +kernel),if_pos (by show(cmpZ mainN mainN==0)=true;decide +kernel)]
  decide)
 rw[show crE [⟨mainN,newS keyT mainN,p2,m2⟩,⟨netN,newS keyT netN,p1,m1⟩] mainN 0=8 by
  unfold crE
  rw[if_neg (by decide +kernel),if_pos (by show(cmpZ mainN mainN==0)=true;decide +kernel)],t3]at c3
 refine go0 ti ?_;refine gc0 ti ?_;refine c3.mono ?_;rintro v h' ⟨rfl,L,rfl⟩;have w:=w.more L;obtain⟨B1,hB1⟩:=Ex (B++L);simp only[hB1]at w⊢;clear hB1 c1 c2 c3;have w:=w.more [opB];have s1:stOf ⟨netN,newS keyT netN,p1,m1⟩=st0 netN:=Vs.stOf (e:=⟨netN,newS keyT netN,p1,m1⟩) v1
 have cd:=dqd (h:=⟨B1++[opB],[(42,7,1)]⟩) w netN 1 ⟨by simp,fun i hi h=>by
  obtain rfl:i=0:=by omega
  exact l3,fun i hi h=>by
  obtain rfl:i=1:=by simp at hi;omega
  exact l4⟩ (by show(cmpZ netN netN==0)=true;decide +kernel) ⟨netN,newS keyT netN,p1,m1⟩ rfl (Vs.ok (e:=⟨netN,newS keyT netN,p1,m1⟩) v1 bvp) [outId] false (by rw[s1];decide) (by rw[s1];decide) (by rw[s1];exact st1_in.1) (by rw[s1];exact cv0)
 rw[s1]at cd;rw[show nextS (st0 netN) [outId] false=st1 from rfl,cy0,t2]at cd;rw[<-t2]at cd;have vS:=dz8 keyT v1;obtain⟨S,hS⟩:=Ex ((wrS (newS keyT netN) st1).1);rw[hS]at cd vS;unfold opB at cd;refine go0 ti ?_;refine gc0 ti ?_;refine(cd.wkA ckf).mono ?_;rintro v ⟨B3,T⟩ ⟨rfl,rfl,-,-,w⟩;have w:WsAt B3 i keyT sp [⟨mainN,newS keyT mainN,p2,m2⟩,⟨netN,S,p1,m1⟩]:=w;have o2:EntOk ⟨mainN,newS keyT mainN,p2,m2⟩:=Vs.ok (e:=⟨mainN,newS keyT mainN,p2,m2⟩) v2 bvp;have o1:EntOk ⟨netN,S,p1,m1⟩:=Vs.ok (e:=⟨netN,S,p1,m1⟩) vS dqc;have q1:stOf ⟨netN,S,p1,m1⟩=st1:=Vs.stOf (e:=⟨netN,S,p1,m1⟩) vS;have hR:remV [⟨mainN,newS keyT mainN,p2,m2⟩,⟨netN,S,p1,m1⟩] mainN=.mk 5 0 [] [outsV [outId]] [netN]:=by
  unfold remV;rw[show remL [⟨mainN,newS keyT mainN,p2,m2⟩,⟨netN,S,p1,m1⟩] mainN=[⟨netN,S,p1,m1⟩] by simp[remL,mainN,netN]];simp only[vlR,nmR,ZO,Yg,q1];rfl
 have c5:=bq2 (h:=⟨B3,[(42,7,1)]⟩) w (fun e he=>by
  rcases ZM.1 he with rfl|he
  ·exact o2
  ·rw[ZB.1 he];exact o1) mainN (by rw[hR];exact cxt)
 unfold remA at c5;rw[hR,if_pos dzc,t3]at c5;have g1:=fun h=>cvq (outsV [outId]) netN h
 have g2:=fun h=>cvq (.mk 3 0 [110,101,116,45,49] [] []) [105,100] h
 simp only[outsV,outId,V.A,V.cells,V.cellss,strsA,ZO,Yg,t2]at c5 g1 g2;refine go0 ti ?_;refine gc0 ti ?_;refine c5.mono ?_;rintro v h' ⟨rfl,L,rfl⟩;have w:=w.more L;obtain⟨B4,hB4⟩:=Ex (B3++L);simp only[hB4]at w⊢;refine go0 ti ?_;refine gc0 ti ?_;refine(g1 _).mono ?_;rintro v h' ⟨rfl,rfl⟩;refine go0 ti ?_;refine gc0 ti ?_;refine(g2 _).mono ?_;rintro v h' ⟨rfl,rfl⟩;refine go0 ti ?_;have fb:=dql B4 vb1 vb2 vb3;have w:=((w.more [vb1]).more [vb2]).more [vb3];obtain⟨B5,hB5⟩:=Ex (B4++[vb1]++[vb2]++[vb3]);rw[hB5]at fb w;unfold vb1 vb2 vb3 at fb hB5;simp only[hB5];have c6:=ayr (h:=⟨B5,[(42,7,1)]⟩) w;simp only[ZO,Yg,strsA,t2,t3]at c6;refine gc0 ti ?_;refine c6.mono ?_;rintro v h' ⟨rfl,L,T,rfl⟩;have w:=w.more L;have fb:=ai (azc fb.1 L) (ai (azc fb.2.1 L) (azc fb.2.2 L));obtain⟨B6,hB6⟩:=Ex (B5++L);simp only[hB6]at w fb⊢;have l5:cmpZ mainN [122,122]<0:=by decide +kernel
 have l6:cmpZ netN [122,122]<0:=by decide +kernel
 have c7:=bj9 (h:=⟨B6,T⟩) w [122,122] 2 ⟨by simp,fun i hi h=>by
  rcases(show i=0\/i=1 by omega)with rfl|rfl
  ·exact l5
  ·exact l6,fun i hi h=>by simp at hi;omega⟩
 rw[if_neg (by show¬(false=true);decide)]at c7;refine go0 ti ?_;refine gc0 ti ?_;refine c7.mono ?_;rintro v h' ⟨rfl,L,rfl⟩;have w:=w.more L;have fb:=ai (azc fb.1 L) (ai (azc fb.2.1 L) (azc fb.2.2 L));obtain⟨B7,hB7⟩:=Ex (B6++L);simp only[hB7]at w fb⊢
 have c8:=czn (h:=⟨B7,T⟩) w mainN 0 (dz7 (fun x hx=>by
  rcases ZM.1 hx with rfl|hx
  ·exact l2
  ·rw[ZB.1 hx];exact l1)) (by show(cmpZ mainN mainN==0)=true;decide +kernel) ⟨mainN,newS keyT mainN,p2,m2⟩ rfl (st0 mainN) v2.last (by decide) v2.keyLen (fun b h=>v2.find _ b h)
 rw[show dlE ⟨mainN,newS keyT mainN,p2,m2⟩ (st0 mainN)=0 by unfold dlE;rw[if_neg (by simp[(aj0 keyT mainN).1]),if_neg (by decide)],t3]at c8;obtain⟨fb1,fb2,fb3⟩:=fb;have z1:(0:Int)<((2:Nat):Int):=by decide
 have z2:(((1:Nat):Int)==1)=true:=rfl;have z3:(((2:Nat):Int)==2)=true:=rfl;refine go0 (ai fb1 (ai fb2 (ai fb3 (ai z1 (ai z2 z3))))) ?_;refine gc0 (ai fb1 (ai fb2 (ai fb3 (ai z1 (ai z2 z3))))) ?_;refine c8.mono ?_;rintro v ⟨B8,T8⟩ ⟨rfl,-,-,g⟩;obtain⟨⟨sp',w8⟩,-,-⟩:=g rfl;have w8:WsAt B8 i keyT sp' [⟨netN,S,p1,m1⟩]:=w8;have c9:=ayr (h:=⟨B8,T8⟩) w8;simp only[ZO,Yg,strsA,t2]at c9;refine go0 ti ?_;refine gc0 ti ?_;refine c9.mono ?_;rintro v h' ⟨rfl,L,T',rfl⟩;refine go0 z2 ?_;exact Fn rfl
end AX
end
section
open Go.RowKit
namespace AX
namespace Sf
end Sf
theorem bxl(k:List UInt8)(hk:k.length<=1000000000)(h:Hp):AT 7 [.str k] h (.int .i64 (Seal.check k)):=
 azs (ajp aqy) (fun w hg=>(bqv ⟨k.toArray⟩ w (by rw[size_mk];exact hk)).mono fun e w' ⟨h1,h2⟩=>⟨h1,by rw[h2];exact Below.refl _ _⟩) (fun C=>rep_int.2 rfl) h
def ayk:AX.AFn:=⟨17,aS [aR 2 (.mv (.c (.nilp))),aR 3 (.mv (aI 0))] (.seq (aS [aM 7 0,aR 8 (.call 16 [.t 7,.c (.str [109,97,105,110])]),aM 6 8,aE 9 6 0,aE 10 6 1,aM 4 9,aM 5 10] (aS [aM 11 5,aR 12 (.bin .neq (.t 11) (aI 0))] (.cond (.t 12) (aS [aM 13 5,aR 2 (.mv (.c (.nilp))),aM 3 13] (.ret)) (.skip)))) (aS [aM 14 0,aR 15 (.build [.str [],.bool false,.sl 0 .nil []] [(0,1,.t 14),(1,1,.c (.bool true))]),aR 16 (.box 52 (.t 15)),aM 2 16,aR 3 (.mv (aI 0))] (.ret))),[.t 2,.t 3]⟩
theorem cxs:AX.compFn Tryz.prog 6=some ayk:=by kernel_rfl
def bzd:AX.AFn:=⟨57,aS [aR 2 (.mv (.c (.bool false)))] (.seq (aS [aM 7 0,aR 8 (.len true (.t 7)),aR 9 (.bin .gtr (.t 8) (aI 200))] (.cond (.t 9) (aS [aR 10 (.call 5 []),aM 2 10] (.ret)) (.skip))) (aS [aM 12 0,aR 13 (.call 6 [.t 12]),aM 11 13,aE 14 11 0,aE 15 11 1,aM 3 14,aM 4 15] (.seq (aS [aM 16 4,aM 17 0,aR 18 (.call 7 [.t 17]),aR 19 (.bin .neq (.t 16) (.t 18)),aM 20 19,aG 21 (.mv (.t 3)) 20 false,aG 22 (.eq 4 [] false (.t 21) (.c (.nilp))) 20 false,aG 23 (.mv (.t 4)) 20 false,aG 24 (.bin .neq (.t 23) (aI 0)) 20 false,aG 25 (.eq 0 [] true (.t 22) (.t 24)) 20 false,aR 26 (.pick (.t 20) (.c (.bool true)) (.t 25))] (.cond (.t 26) (aS [aR 2 (.mv (.c (.bool false)))] (.ret)) (.skip))) (.seq (aS [aM 27 4,aR 28 (.bin .neq (.t 27) (aI 0))] (.cond (.t 28) (aS [aR 29 (.call 5 []),aM 2 29] (.ret)) (.skip))) (aS [aM 31 3,aR 32 (.call 8 [.t 31,.c (.str [120])]),aM 30 32,aE 33 30 0,aE 34 30 1,aR 5 (.alloc 32 [.int .i64 0,.int .i64 0,.str [],.sl 0 .nil [],.sl 0 .nil []]),aU (.store 5 (.t 5) (.t 33)),aM 6 34] (aS [aM 35 3,aR 36 (.call 9 [.t 35]),aR 37 (.len false (.t 36)),aR 38 (.bin .eql (.t 37) (aI 0)),aM 39 38,aG 40 (.mv (.t 6)) 39 true,aG 41 (.bin .eql (.t 40) (aI 0)) 39 true,aR 42 (.pick (.t 39) (.t 41) (.c (.bool false))),aM 43 42,aG 44 (.faddr 0 (.t 5)) 43 true,aG 45 (.load false 1 (.t 44)) 43 true,aG 46 (.bin .eql (.t 45) (aI 5)) 43 true,aR 47 (.pick (.t 43) (.t 46) (.c (.bool false))),aM 48 47,aG 49 (.faddr 4 (.t 5)) 48 true,aG 50 (.load false 1 (.t 49)) 48 true,aG 51 (.len false (.t 50)) 48 true,aG 52 (.bin .eql (.t 51) (aI 0)) 48 true,aR 53 (.pick (.t 48) (.t 52) (.c (.bool false))),aM 54 53,aG 55 (.call 5 []) 54 true,aR 56 (.pick (.t 54) (.t 55) (.c (.bool false))),aM 2 56] (.ret))))))),[.t 2]⟩
theorem cxo:AX.compFn Tryz.prog 3=some bzd:=by kernel_rfl
theorem cjh{key:List UInt8}(hk:key.length<=1000000000)(hz:Seal.check key≠0):AT 6 [.str key] ⟨[],[]⟩ (.tup [.nilp,.int .i64 (Seal.check key)]):=by
 have c:=cvg key mainN hk (by decide) (by decide +kernel);rw[show Sto.newE key mainN=Seal.check key by unfold Sto.newE;rw[if_pos hz],show Sto.newH key mainN=[] by unfold Sto.newH;rw[if_pos hz],if_neg hz]at c;unfold mainN at c;have hb:(Seal.check key !=0)=true:=by simp[hz]
 obtain⟨Z,hZ⟩:=Ex (Seal.check key);rw[hZ]at c hb⊢;refine aza mixedT cxs (by simp[ayk]) ?_;dsimp only[ayk];refine azo hb (ai c ti) ?_;exact⟨_,le_refl _,rfl,rfl⟩
def nb0:Blk:=.cells 32 [.int .i64 5,.int .i64 0,.str [],.sl 5 .no [],.sl 1 .no []]
theorem byt:(V.mk 5 0 [] [] []).lens:=by simp[V.lens,V.lensS,maxLen]
theorem cwm:Val.checkZ (.mk 5 0 [] [] [])=0:=by decide +kernel
theorem cv1(key:List UInt8){n:Nat}(_k:n<=maxLen):AC 3 [.str key] ⟨[],[]⟩ fun r _=>r=.bool true:=by
 have aw:=ck4;refine aza mixedT cxo (by simp[bzd]) ?_;dsimp only[bzd];by_cases g:(key.length:Int)>200
 ·refine azo g (ai aw ti) ?_;exact Fn rfl
 have hk:key.length<=1000000000:=by omega
 have ce:=bxl key hk;by_cases hz:Seal.check key=0
 ·have cn:=bvx hz ⟨[],[]⟩;rw[hz]at ce;refine go0 g ?_;refine gc0 g ?_;refine cn.mono ?_;rintro v ⟨B,T⟩ ⟨i,rfl,rfl,-,-,w⟩;refine go0 ti ?_;refine gc0 ti ?_;refine(ce _).mono ?_;rintro v h' ⟨rfl,rfl⟩;have c5:=bq2 (h:=⟨B,[]⟩) w (fun e he=>by cases he) [120] byt;rw[show remA [] [120]=.tup [(V.mk 5 0 [] [] []).A,.int .i64 0]from if_pos cwm]at c5;simp only[V.A,V.cells,V.cellss,strsA,Yg]at c5;refine go0 ti ?_;refine gc0 ti ?_;refine c5.mono ?_;rintro v h' ⟨rfl,L,rfl⟩;have w:=(w.more L).more [nb0];obtain⟨B1,hB1⟩:=Ex (B++L);simp only[hB1]at w⊢;have fb:(B1++[nb0])[B1.length]?=some nb0:=Zs;obtain⟨B2,hB2⟩:=Ex (B1++[nb0]);rw[hB2]at fb w;unfold nb0 at hB2 fb;have c6:=ayr (h:=⟨B2,[]⟩) w;simp only[Yg,strsA]at c6;refine go0 hB2 ?_;refine gc0 hB2 ?_;refine c6.mono ?_;rintro v h' ⟨rfl,L2,T2,rfl⟩;have fb:=azc fb L2;obtain⟨B3,hB3⟩:=Ex (B2++L2);simp only[hB3]at fb⊢;have z0:(((0:Nat):Int)==0)=true:=rfl;refine go0 (ai fb z0) ?_;refine gc0 (ai fb z0) ?_;refine(aw _).mono ?_;rintro v h' ⟨rfl,rfl⟩;refine go0 ti ?_;exact Fn rfl
 ·have cn:=cjh hk hz;have hb:(Seal.check key !=0)=true:=by simp[hz]
  obtain⟨Z,hZ⟩:=Ex (Seal.check key);rw[hZ]at cn hb ce;refine azo (ai g hb) (ai cn (ai ce (ai aw ti))) ?_;exact Fn rfl
end AX
end
end Go.Proofs.YtnffmgmidghfhaaGreatDoor
