/- Part of what the proof needs. -/
import Derived.Test.YtnffmgmidghfhaaGreatDoorMFrWorkspaceNewsV
set_option maxHeartbeats 4000000
set_option maxRecDepth 100000
set_option linter.all false
namespace Go.Proofs.YtnffmgmidghfhaaGreatDoor
section
open Go.RowKit
open Go.Op (bytesLess)
namespace AX
def stOf(e:Ent):Sf.St:=(e.s.at' e.s.latest).1
structure EntOk(e:Ent):Prop where
 rd:e.s.at' e.s.latest=(stOf e,0)
 kl:e.s.key.length<=1000000000
 hb:∀b,lfind e.s.latest e.s.es=some b->b.length<=1048600
 outs:OutsOk (stOf e).outs
def remL(W:List Ent)(ex:List UInt8):List Ent:=W.filter fun e=>!(e.name==ex)
def nmR(W:List Ent):List (List UInt8):=W.map fun e=>e.name
def vlR(W:List Ent):List V:=W.map fun e=>outsV (stOf e).outs
def remV(W:List Ent)(ex:List UInt8):V:=.mk 5 0 [] (vlR (remL W ex)) (nmR (remL W ex))
theorem ajn(W:List Ent)(ex:List UInt8):(remL W ex).Sublist W:=List.filter_sublist
theorem byi(W:List Ent)(e:Ent)(ex:List UInt8):remL (W++[e]) ex=if e.name==ex then remL W ex else remL W ex++[e]:=by
 unfold remL;rw[List.filter_append];cases h:(e.name==ex)with
 |true=>rw[if_pos rfl];simp[h]
 |false=>rw[if_neg (by decide)];simp[h]
def remA(W:List Ent)(ex:List UInt8):A:=if Val.checkZ (remV W ex)=0 then .tup [(remV W ex).A,.int .i64 0]else .tup [(V.mk 0 0 [] [] []).A,.int .i64 (Val.checkZ (remV W ex))]
def ak9:AX.AFn:=⟨54,aS [aR 4 (.alloc 32 [.int .i64 0,.int .i64 0,.str [],.sl 0 .nil [],.sl 0 .nil []]),aR 5 (.mv (aI 0))] (.seq (aS [aM 12 0,aR 13 (.call 17 [.t 12]),aR 14 (.un .not (.t 13))] (.cond (.t 14) (aS [aR 15 (.build [.int .i64 0,.int .i64 0,.str [],.sl 0 .nil [],.sl 0 .nil []] []),aU (.store 5 (.t 4) (.t 15)),aR 5 (.mv (aI 38))] (.ret)) (.skip))) (aS [aR 16 (.build [.int .i64 0,.int .i64 0,.str [],.sl 0 .nil [],.sl 0 .nil []] [(0,1,aI 5)]),aR 6 (.alloc 32 [.int .i64 0,.int .i64 0,.str [],.sl 0 .nil [],.sl 0 .nil []]),aU (.store 5 (.t 6) (.t 16))] (.seq (aS [aM 17 0,aR 18 (.nilck (.t 17)),aF 19 2 18,aL 20 19,aR 21 (.len false (.t 20)),aR 22 (.mv (aI 0))] (.block 0 (.loop (aS [aR 23 (.bin .lss (.t 22) (.t 21))] (.seq (.cond (.t 23) (.skip) (.exit 0)) (.seq (.block 1 (aS [aR 24 (.iaddr 2 (.t 20) (.t 22)),aR 25 (.load true 2 (.t 24)),aR 8 (.alloc 54 [.str [],.nilp]),aU (.store 2 (.t 8) (.t 25))] (.seq (aS [aF 26 0 8,aL 27 26,aM 28 1,aR 29 (.bin .eql (.t 27) (.t 28))] (.cond (.t 29) (.exit 1) (.skip))) (aS [aF 31 1 8,aL 32 31,aR 33 (.call 18 [.t 32]),aM 30 33,aE 34 30 0,aE 35 30 1,aR 9 (.alloc 58 [.str [],.int .i64 0,.sl 0 .nil [],.sl 0 .nil [],.sl 0 .nil []]),aU (.store 5 (.t 9) (.t 34)),aM 10 35] (.seq (aS [aM 36 10,aR 37 (.bin .neq (.t 36) (aI 0))] (.cond (.t 37) (aS [aR 38 (.build [.int .i64 0,.int .i64 0,.str [],.sl 0 .nil [],.sl 0 .nil []] []),aM 39 10,aU (.store 5 (.t 4) (.t 38)),aM 5 39] (.ret)) (.skip))) (.reg true [aR 40 (.load true 5 (.t 6)),aF 41 0 8,⟨some 42,.load false 1 (.t 41),none,[1]⟩,aR 43 (.load true 5 (.t 9)),⟨some 44,.call 20 [.t 43],none,[3]⟩,⟨some 45,.call 19 [.t 40,.t 42,.t 44],none,[0,2,4,4]⟩,⟨none,.store 5 (.t 6) (.t 45),none,[5,5,0,1,2,3,4,5]⟩])))))) (.reg false [aR 46 (.bin .add (.t 22) (aI 1)),aM 22 46]))))))) (.seq (aS [aR 47 (.load true 5 (.t 6)),aR 48 (.call 21 [.t 47]),aM 11 48] (aS [aM 49 11,aR 50 (.bin .neq (.t 49) (aI 0))] (.cond (.t 50) (aS [aR 51 (.build [.int .i64 0,.int .i64 0,.str [],.sl 0 .nil [],.sl 0 .nil []] []),aM 52 11,aU (.store 5 (.t 4) (.t 51)),aM 5 52] (.ret)) (.skip)))) (aS [aR 53 (.load true 5 (.t 6)),aU (.store 5 (.t 4) (.t 53)),aR 5 (.mv (aI 0))] (.ret)))))),[.c 4 true 5,.t 5]⟩
theorem bwv:AX.compFn Tryz.prog 8=some ak9:=by kernel_rfl
theorem bq2{h:Hp}{i:Nat}{key:List UInt8}{sp:A}{W:List Ent}(w:WsAt h.b i key sp W)(ok:∀e∈W,EntOk e)(ex:List UInt8)(hlens:(remV W ex).lens):
  AC 8 [.ptr i 0,.str ex] h fun v h'=>v=remA W ex/\∃L,h'=⟨h.b++L,h.t⟩:=by
 have cr:=aq9 w.set;have hb:=w.set;have hlen:=w.len;unfold setC at hb;have cC:=avv (remV W ex) hlens;clear hlens;obtain⟨b,t⟩:=h;dsimp only at w cr hb⊢;have hi0:=get_lt hb;have f1:∀x:Blk,(b++[x])[i]?=some (.cells 52 [.str key,.bool true,sp]):=fun x=>azc hb _
 have f2:∀x y:Blk,(b++[x]++[y])[i]?=some (.cells 52 [.str key,.bool true,sp]):=fun x y=>azc (f1 x) _
 have crB:=fun x=>aq9 (h:=⟨b++[x],t⟩) (i:=i) (key:=key) (sp:=sp) (azc w.set _)
 refine aza mixedT bwv (by simp[ak9]) ?_;dsimp only[ak9];have vA:(remV W ex).A=.agg [.int .i64 5,.int .i64 0,.str [],.sl 5 .no (V.cellss (vlR (remL W ex))),.sl 1 .no (strsA (nmR (remL W ex)))]:=by simp only[remV,V.A,V.cells]
 have cC':∀h,AT 21 [.agg [.int .i64 5,.int .i64 0,.str [],mapI (vlR (remL W ex)),mapK (nmR (remL W ex))]] h (.int .i64 (Val.checkZ (remV W ex))):=fun h=>by
  rw[vA]at cC;exact ACall.args (as':=[.agg [.int .i64 5,.int .i64 0,.str [],.sl 5 .no (V.cellss (vlR (remL W ex))),.sl 1 .no (strsA (nmR (remL W ex)))]]) ⟨czt _ _,trivial⟩ (cC h)
 clear cC;unfold remA;rw[vA];have hle:=czt (vlR (remL W ex)) (nmR (remL W ex));have i1:=(avt (vlR (remL W ex))).1;have k1:=(avz (nmR (remL W ex))).1;obtain⟨Z,hZ⟩:=Ex (Val.checkZ (remV W ex));rw[hZ]at cC'⊢;have sp0:=w.sp;have hst:=fun e (he:e∈W)=>w.st he
 clear vA hZ;refine go0 ti ?_;refine gc0 ti ?_;refine(crB _).mono ?_;rintro v h' ⟨rfl,rfl⟩;have pre:∀(B:List Blk) (L:List Blk),B=b++L->∀j x,b[j]?=some x->B[j]?=some x:=fun B L e j x h=>by rw[e];exact azc h L
 revert f1 f2 hb;cases sp0 with
 |nil=>
  intro hb f1 f2;have eI:mapI (vlR (remL [] ex))=.sl 0 .nil []:=rfl;have eK:mapK (nmR (remL [] ex))=.sl 0 .nil []:=rfl;rw[eI,eK]at hle cC';have z0:¬(0:Int)<((0:Nat):Int):=by decide
  refine go0 (ai f1 f2) ?_;refine ax3 ?_;by_cases hz:Z=0
  ·subst hz;rw[if_pos rfl];refine azo z0 (ai cC' ti) ?_;refine⟨_,?_,rfl,_,by rw[Zh]⟩;exact⟨hle,axw _,trivial⟩
  ·have hzb:(Z !=0)=true:=by simp[hz]
   rw[if_neg hz];refine azo (ai z0 hzb) (ai cC' ti) ?_;exact⟨.tup [(V.mk 0 0 [] [] []).A,.int .i64 Z],⟨⟨azd _,azd _,azd _,⟨rfl,.inr rfl,.inl rfl⟩,⟨rfl,.inr rfl,.inl rfl⟩,trivial⟩,axw _,trivial⟩,rfl,_,by rw[Zh]⟩
 |@row k _ hk=>
  intro hb f1 f2;have hrow:=ave W;have lF:=axq W;obtain⟨F,hF⟩:=Ex (rowW W);rw[hF]at hrow hk lF;refine go0 f2 ?_
  refine azh (fun m ts hh=>∃(j:Nat) (B L:List Blk),m=W.length-j/\j<=W.length/\hh=⟨B,t⟩/\B=b++L/\B[b.length]?=some (.cells 32 [.int .i64 0,.int .i64 0,.str [],.sl 0 .nil [],.sl 0 .nil []]) /\
   B[b.length+1]?=some (.cells 32 [.int .i64 5,.int .i64 0,.str [],mapI (vlR (remL (W.take j) ex)),mapK (nmR (remL (W.take j) ex))]) /\
   (ts 1=.str ex/\ts 4=.ptr b.length 0/\ts 6=.ptr (b.length+1) 0/\ts 20=.bs k 2 W.length/\ts 21=.int .i64 (W.length:Nat)/\ts 22=.int .i64 (j:Nat))) W.length ?_ ?_
  ·refine⟨0,_,_,rfl,Z0 _,rfl,Zh _ _ _,?_,?_,by(exact aqj (ai f1 f2))⟩
   ·exact azc (az6 rfl) _
   ·exact az6 (by rw[Za];rfl)
  clear f1 f2 crB cr;rintro m ts hh ⟨j,B,L,rfl,hj,rfl,hBL,r0,o0,ht⟩;have hkB:=pre B L hBL k _ hk;rcases YF j W.length with hlt|hge;rotate_left
  ·have hf:¬(j:Int)<(W.length:Int):=by omega
   rw[Zy hge]at o0;obtain⟨I,hI⟩:=Ex (mapI (vlR (remL W ex)));obtain⟨K,hK⟩:=Ex (mapK (nmR (remL W ex)));rw[hI,hK]at hle o0 cC';rw[hI]at i1;rw[hK]at k1;simp only[A.one]at i1 k1;have hn1:b.length<B.length:=get_lt r0;obtain⟨B1,hB1⟩:=Ex (B.set b.length (.cells 32 [.int .i64 5,.int .i64 0,.str [],I,K]));have b1:B1[b.length]?=some (.cells 32 [.int .i64 5,.int .i64 0,.str [],I,K]):=by rw[<-hB1];exact axk r0
   have e1:∃L,B1=b++L:=⟨L.set 0 (.cells 32 [.int .i64 5,.int .i64 0,.str [],I,K]),by rw[<-hB1,hBL,List.set_append_right _ _ (Ze _),Nat.sub_self]⟩;obtain⟨L1,hL1⟩:=e1;by_cases hz:Z=0
   ·subst hz;rw[if_pos rfl];refine azo (ai ht (ai hf (ai r0 (ai o0 (ai i1 (ai k1 (ai hB1 b1))))))) (ai cC' ti) ?_;refine⟨_,?_,rfl,L1,by rw[hL1]⟩;exact⟨hle,axw _,trivial⟩
   ·have hzb:(Z !=0)=true:=by simp[hz]
    rw[if_neg hz];obtain⟨B2,hB2⟩:=Ex (B.set b.length (.cells 32 [.int .i64 0,.int .i64 0,.str [],.sl 0 .nil [],.sl 0 .nil []]));have b2:B2[b.length]?=some (.cells 32 [.int .i64 0,.int .i64 0,.str [],.sl 0 .nil [],.sl 0 .nil []]):=by rw[<-hB2];exact axk r0
    refine azo (ai ht (ai hf (ai r0 (ai o0 (ai i1 (ai k1 (ai hzb (ai hB2 b2)))))))) (ai cC' ti) ?_;refine⟨.tup [(V.mk 0 0 [] [] []).A,.int .i64 Z],⟨⟨azd _,azd _,azd _,⟨rfl,.inr rfl,.inl rfl⟩,⟨rfl,.inr rfl,.inl rfl⟩,trivial⟩,axw _,trivial⟩,rfl,L.set 0 (.cells 32 [.int .i64 0,.int .i64 0,.str [],.sl 0 .nil [],.sl 0 .nil []]),?_⟩;rw[<-hB2,hBL,List.set_append_right _ _ (Ze _),Nat.sub_self]
  ·have hz:(0:Int)<=(j:Int)/\(j:Int)<(W.length:Int):=by omega
   have wj:IntKind.i64.wrap ((j:Int)+1)=((j+1:Nat):Int):=by rw[wrap64 (by omega) (by omega)];omega
   obtain⟨g1,g2,_⟩:=hrow j hlt;have hem:=ZF hlt;have et:W.take (j+1)=W.take j++[W[j]]:=(List.take_append_getElem hlt).symm;have es:=byi (W.take j) W[j] ex;rw[<-et]at es;have hs:=(hst _ hem).more L;rw[<-hBL]at hs;have eok:=ok _ hem;have hnb:b.length<B.length:=get_lt r0;have srt:=w.srt
   have cP:=cvi (vlR (remL (W.take j) ex)) (nmR (remL (W.take j) ex)) W[j].name (outsV (stOf W[j]).outs) (by unfold vlR nmR;rw[Zl,Zl]) (bjh (by
     have:=(ajn (W.take j) ex).length_le
     unfold vlR;rw[Zl];rw[Zm]at this;omega) (by
     have:=(ajn (W.take j) ex).length_le
     unfold nmR;rw[Zl];rw[Zm]at this;omega) fun v hv=>by
    obtain⟨e,he,rfl⟩:=Yb.1 hv
    exact bq8 (ok e (List.mem_of_mem_take ((ajn _ _).mem he))).outs) (bq8 eok.outs) (fun s hs=>by
    obtain⟨e,he,rfl⟩:=Yb.1 hs;obtain⟨i,hi,rfl⟩:=List.mem_take_iff_getElem.1 ((ajn _ _).mem he)
    exact(Sf.cmpZ_lt _ _).1 (List.pairwise_iff_getElem.1 srt i j (by omega) hlt (by omega))) (by
     have:=(ajn (W.take j) ex).length_le
     unfold nmR;rw[Zl];rw[Zm]at this;omega)
   have e1:vlR (remL (W.take j) ex)++[outsV (stOf W[j]).outs]=vlR (remL (W.take j) ex++[W[j]]):=by unfold vlR;rw[YP];rfl
   have e2:nmR (remL (W.take j) ex)++[W[j].name]=nmR (remL (W.take j) ex++[W[j]]):=by unfold nmR;rw[YP];rfl
   rw[e1,e2]at cP;clear e1 e2;obtain⟨e,he⟩:=Ex (W[j]);rw[he]at g2 es hs eok cP;clear he hst ok et hrow srt;obtain⟨B1,hB1⟩:=Ex (B++[.cells 54 [.str e.name,.ptr e.p 0]]);have l1:B1.length=B.length+1:=by rw[<-hB1,Za];rfl
   have r1:B1[b.length]?=some (.cells 32 [.int .i64 0,.int .i64 0,.str [],.sl 0 .nil [],.sl 0 .nil []]):=by rw[<-hB1];exact azc r0 _
   have o1:B1[b.length+1]?=some (.cells 32 [.int .i64 5,.int .i64 0,.str [],mapI (vlR (remL (W.take j) ex)),mapK (nmR (remL (W.take j) ex))]):=by rw[<-hB1];exact azc o0 _
   have x1:B1[B.length]?=some (.cells 54 [.str e.name,.ptr e.p 0]):=by rw[<-hB1];exact az6 rfl
   have hs1:StAt B1 e.p e.m e.s:=by rw[<-hB1];exact hs.more _
   have b1:B1=b++(L++[.cells 54 [.str e.name,.ptr e.p 0]]):=by rw[<-hB1,hBL,Zh]
   cases hne:(e.name==ex)with
   |true=>
    rw[hne,if_pos rfl]at es;refine azo (ai ht (ai hkB (ai hz (ai g1 (ai g2 (ai hB1 (ai x1 (ai hne wj)))))))) ti ?_;exact⟨_,by omega,j+1,B1,_,rfl,by omega,rfl,b1,r1,by rw[es];exact o1,by(exact aqj (ai ht wj))⟩
   |false=>
    rw[hne,if_neg (by decide)]at es;have cR:=czl (h:=⟨B1,t⟩) hs1 eok.kl eok.hb;rw[eok.rd]at cR;have cO:=bk0 (stOf e) eok.outs;obtain⟨⟨lin,ser,ins,ps,os⟩,hst⟩:=Ex (stOf e);rw[hst]at cR cO cP;simp only[Sf.St.A]at cR cO;dsimp only at cO cP;have vO:(outsV os).A=.agg [.int .i64 5,.int .i64 0,.str [],.sl 5 .no (V.cellss (os.map (·.value))),.sl 1 .no (strsA (os.map (·.name)))]:=by simp only[outsV,V.A,V.cells]
    rw[vO]at cO cP;obtain⟨B2,hB2⟩:=Ex (B1++[.cells 58 [.str lin,.int .i64 ser,.sl 13 .no (ins.map Sf.Inst.cells),.sl 3 .no (ps.map Sf.Pend.cells),.sl 7 .no (os.map Sf.Outp.cells)]]);have r2:B2[b.length]?=some (.cells 32 [.int .i64 0,.int .i64 0,.str [],.sl 0 .nil [],.sl 0 .nil []]):=by rw[<-hB2];exact azc r1 _
    have o2:B2[b.length+1]?=some (.cells 32 [.int .i64 5,.int .i64 0,.str [],mapI (vlR (remL (W.take j) ex)),mapK (nmR (remL (W.take j) ex))]):=by rw[<-hB2];exact azc o1 _
    have x2:B2[B.length]?=some (.cells 54 [.str e.name,.ptr e.p 0]):=by rw[<-hB2];exact azc x1 _
    have y2:B2[B1.length]?=some (.cells 58 [.str lin,.int .i64 ser,.sl 13 .no (ins.map Sf.Inst.cells),.sl 3 .no (ps.map Sf.Pend.cells),.sl 7 .no (os.map Sf.Outp.cells)]):=by rw[<-hB2];exact az6 rfl
    have i1':=(avt (vlR (remL (W.take j) ex++[e]))).1;have k1':=(avz (nmR (remL (W.take j) ex++[e]))).1;obtain⟨I,hI⟩:=Ex (mapI (vlR (remL (W.take j) ex)));obtain⟨K,hK⟩:=Ex (mapK (nmR (remL (W.take j) ex)));obtain⟨I',hI'⟩:=Ex (mapI (vlR (remL (W.take j) ex++[e])));obtain⟨K',hK'⟩:=Ex (mapK (nmR (remL (W.take j) ex++[e])));rw[hI,hK,hI',hK']at cP;rw[hI,hK]at o2;rw[hI']at i1';rw[hK']at k1';simp only[A.one]at i1' k1';obtain⟨B3,hB3⟩:=Ex (B2.set (b.length+1) (.cells 32 [.int .i64 5,.int .i64 0,.str [],I',K']));have r3:B3[b.length]?=some (.cells 32 [.int .i64 0,.int .i64 0,.str [],.sl 0 .nil [],.sl 0 .nil []]):=by rw[<-hB3];exact(azp (by omega)).trans r2
    have o3:B3[b.length+1]?=some (.cells 32 [.int .i64 5,.int .i64 0,.str [],I',K']):=by rw[<-hB3];exact axk o2
    have b3:∃L',B3=b++L':=by
     rw[<-hB3,<-hB2,b1,Zh,List.set_append_right _ _ (by omega)];exact⟨_,rfl⟩
    obtain⟨L3,b3⟩:=b3;clear r1 o1 o0 r0 hs hs1 eok hI hK pre;refine azo (ai ht (ai hkB (ai hz (ai g1 (ai g2 (ai hB1 (ai x1 (ai hne (ai wj (ai hB2 (ai o2 (ai x2 y2)))))))))))) (ai cR ti) ?_;refine use (cO _) ?_ (hm:=⟨fun e=>absurd e (by decide),fun _=>cvb (ai ht (ai o2 x2))⟩);refine azo (ai ht (ai hkB (ai hz (ai g1 (ai g2 (ai x1 (ai wj (ai o2 (ai x2 (ai y2 hB3)))))))))) ti ?_;refine use (cP _) ?_ (hm:=⟨fun e=>absurd e (by decide),fun _=>cvb (ai ht (ai o2 x2))⟩);refine azo (ai ht (ai wj (ai o2 (ai x2 (ai y2 (ai i1' (ai k1' hB3))))))) ti ?_;exact⟨_,by omega,j+1,B3,L3,rfl,by omega,rfl,b3,r3,by rw[es,hI',hK'];exact o3,by(exact aqj (ai ht wj))⟩
end AX
end
section
namespace Sf
def rd(l:List UInt8):Rs:=⟨⟨l,0⟩,false⟩
theorem rd_ok(l:List UInt8):(rd l).fails=false:=rfl
theorem num_enc(n:Int)(l:List UInt8)(h0:-9223372036854775808<=n)(h1:n<=9223372036854775807):numS (rd (Wire.num n++l))=(rd l,n):=by
 unfold numS rd;rw[Val.numR_enc n l h0 h1]
theorem str_enc(s l:List UInt8)(h:s.length<=9223372036854775807):strS (rd (Wire.strE s++l))=(rd l,s):=by
 unfold strS rd;rw[Val.strR_enc s l h]
theorem cnt_enc(n:Nat)(l:List UInt8)(h:n<=l.length)(h1:n<=9223372036854775807):cntS (rd (Wire.num n++l))=(rd l,n):=by
 unfold cntS rd;rw[Val.cntR_enc n l h h1]
theorem flag_enc(b:Bool)(l:List UInt8):flagS (rd (flagE b++l))=(rd l,b):=by
 unfold flagS rd flagE;cases b
 ·rw[if_neg (by decide),Val.numR_enc 0 l (by decide) (by decide)];rfl
 ·rw[if_pos rfl,Val.numR_enc 1 l (by decide) (by decide)];rfl
theorem value_enc(v:V)(l:List UInt8)(h:Val.checkZ v=0):valueS (rd (Val.enc v++l))=(rd l,v):=by
 unfold valueS rd;rw[Val.value_back v l h];rfl
theorem words_enc:∀(ws acc:List (List UInt8)) (l:List UInt8),(∀w∈ws,w.length<=2000000)->wordsS ws.length (rd (wordsE ws++l)) acc=(rd l,acc++ws)
 |[],acc,l,h=>by simp[wordsS,wordsE]
 |w::ws,acc,l,h=>by
  have e:wordsE (w::ws)++l=Wire.strE w++(wordsE ws++l):=by simp[wordsE,Zh]
  show wordsS ws.length (strS (rd (wordsE (w::ws)++l))).1 (acc++[(strS (rd (wordsE (w::ws)++l))).2])=_
  rw[e,str_enc _ _ (by have:=h w Yc;omega)];rw[words_enc ws _ l fun x hx=>h x (ZK _ hx)];simp
theorem strE_pos(s:List UInt8):1<=(Wire.strE s).length:=by
 have:=Val.num_len s.length;unfold Wire.strE;rw[Za];omega
theorem flat_len{α:Type}(f:α->List UInt8)(hf:∀x,1<=(f x).length):∀l:List α,l.length<=(l.flatMap f).length
 |[]=>by simp
 |x::l=>by
  have:=hf x;have:=flat_len f hf l;rw[YJ,Za,Zf];omega
def oldI(ver:Int)(x:Inst):Inst:=if ver=2 then x else { x with first:=false }
theorem inst_enc(ver:Int)(x:Inst)(l:List UInt8)(hx:AX.Sf.InstIn x)(ht:x.typ.length<=2000000)(hz:instZ x=0):instS ver (rd (instE ver x++l))=(rd l,oldI ver x):=by
 obtain⟨h1,h2,h3⟩:=inst_zero hz;obtain⟨ad,dep,id,typ,at',v,ta,fi,ds⟩:=x;have ha:=hx.a;have hd:=hx.d;have hi:=hx.i;have hn:=hx.n;have hs:=hx.ds;dsimp only at h1 h2 h3 ha hd hi hn hs ht;have e:instE ver ⟨ad,dep,id,typ,at',v,ta,fi,ds⟩++l=Wire.strE ad++(Wire.strE dep++(Wire.strE id++(Wire.strE typ++(Val.enc at'++(Wire.num v++(flagE ta++((if ver=2 then flagE fi else[])++(Wire.num ds.length++(wordsE ds++l))))))))):=by
  unfold instE;simp only[Zh]
 have hc:ds.length<=(wordsE ds++l).length:=by
  have:=flat_len Wire.strE strE_pos ds;unfold wordsE;rw[Za];omega
 rw[e];unfold instS;dsimp only;rw[str_enc ad _ (by omega)];dsimp only;rw[str_enc dep _ (by omega)];dsimp only;rw[str_enc id _ (by omega)];dsimp only;rw[str_enc typ _ (by omega)];dsimp only;rw[value_enc at' _ h1];dsimp only;rw[num_enc v _ (by omega) (by omega)];dsimp only;rw[flag_enc ta];dsimp only;by_cases hv:ver=2
 ·subst hv;simp only[if_true];rw[flag_enc fi];dsimp only;rw[cnt_enc _ _ hc (by omega)];dsimp only;rw[words_enc ds [] l hs];simp[oldI]
 ·simp only[if_neg hv,ZA];rw[cnt_enc _ _ hc (by omega)];dsimp only;rw[words_enc ds [] l hs];simp[oldI,hv]
theorem pend_enc(p:Pend)(l:List UInt8)(ha:p.addr.length<=2000000)(ht:p.typ.length<=2000000)(hk:p.tok.length<=2000000):pendS (rd (pendE p++l))=(rd l,p):=by
 obtain⟨a,t,k⟩:=p;dsimp only at ha ht hk;have e:pendE ⟨a,t,k⟩++l=Wire.strE a++(Wire.strE t++(Wire.strE k++l)):=by unfold pendE;simp only[Zh]
 rw[e];unfold pendS;dsimp only;rw[str_enc a _ (by omega)];dsimp only;rw[str_enc t _ (by omega)];dsimp only;rw[str_enc k _ (by omega)]
theorem out_enc(o:Outp)(l:List UInt8)(hn:o.name.length<=2000000)(hz:outZ o=0):outS (rd (outE o++l))=(rd l,o):=by
 have h1:=out_zero hz;obtain⟨n,v,b⟩:=o;dsimp only at hn h1;have e:outE ⟨n,v,b⟩++l=Wire.strE n++(Val.enc v++(flagE b++l)):=by unfold outE;simp only[Zh]
 rw[e];unfold outS;dsimp only;rw[str_enc n _ (by omega)];dsimp only;rw[value_enc v _ h1];dsimp only;rw[flag_enc b]
theorem insts_enc(ver:Int):∀(xs acc:List Inst) (l:List UInt8),(∀x∈xs,AX.Sf.InstIn x/\x.typ.length<=2000000/\instZ x=0)->instsS ver xs.length (rd (xs.flatMap (instE ver)++l)) acc=(rd l,acc++xs.map (oldI ver),true)
 |[],acc,l,h=>by simp[instsS]
 |x::xs,acc,l,h=>by
  obtain⟨h1,h2,h3⟩:=h x Yc;rw[Zf,YJ,Zh];unfold instsS;rw[if_neg (by rw[rd_ok];decide),inst_enc ver x _ h1 h2 h3];dsimp only;rw[insts_enc ver xs _ l fun y hy=>h y (ZK _ hy)];simp
theorem pends_enc:∀(xs acc:List Pend) (l:List UInt8),(∀x∈xs,x.addr.length<=2000000/\x.typ.length<=2000000/\x.tok.length<=2000000)->pendsS xs.length (rd (xs.flatMap pendE++l)) acc=(rd l,acc++xs)
 |[],acc,l,h=>by simp[pendsS]
 |x::xs,acc,l,h=>by
  obtain⟨h1,h2,h3⟩:=h x Yc;rw[Zf,YJ,Zh];unfold pendsS;rw[pend_enc x _ h1 h2 h3];dsimp only;rw[pends_enc xs _ l fun y hy=>h y (ZK _ hy)];simp
theorem outs_enc:∀(xs acc:List Outp) (l:List UInt8),(∀x∈xs,x.name.length<=2000000/\outZ x=0)->outsS xs.length (rd (xs.flatMap outE++l)) acc=(rd l,acc++xs,true)
 |[],acc,l,h=>by simp[outsS]
 |x::xs,acc,l,h=>by
  obtain⟨h1,h2⟩:=h x Yc;rw[Zf,YJ,Zh];unfold outsS;rw[if_neg (by rw[rd_ok];decide),out_enc x _ h1 h2];dsimp only;rw[outs_enc xs _ l fun y hy=>h y (ZK _ hy)];simp
theorem instE_pos(ver:Int)(x:Inst):1<=(instE ver x).length:=by
 have:=strE_pos x.addr;unfold instE;simp only[Za];omega
theorem pendE_pos(x:Pend):1<=(pendE x).length:=by
 have:=strE_pos x.addr;unfold pendE;simp only[Za];omega
theorem outE_pos(x:Outp):1<=(outE x).length:=by
 have:=strE_pos x.name;unfold outE;simp only[Za];omega
structure TypIn(s:St):Prop where
 insts:∀x∈s.insts,x.typ.length<=2000000
 pends:∀x∈s.pends,x.typ.length<=2000000
def oldS(ver:Int)(s:St):St:=if ver=2 then s else { s with insts:=s.insts.map (oldI ver),pends:=[] }
theorem oldI_two:oldI 2=id:=by funext x;simp[oldI]
theorem state_enc(ver:Int)(s:St)(l:List UInt8)(hz:checkZ s=0)(hin:AX.Sf.StIn s)(ht:TypIn s):stateS ver (rd (restE ver s++l))=(rd l,oldS ver s):=by
 obtain⟨h1,h2,h3,h4,h5,h6,h7,h8⟩:=check_parts hz;obtain⟨lin,ser,ins,ps,os⟩:=s;have hl:=hin.lin;have hi:=hin.insts;have hp:=hin.pends;have ho:=hin.outs;have ti:=ht.insts;have tp:=ht.pends;dsimp only at h1 h2 h3 h4 h5 h6 h7 h8 hl hi hp ho ti tp;have e:restE ver ⟨lin,ser,ins,ps,os⟩++l=Wire.strE lin++(Wire.num ser++(Wire.num ins.length++(ins.flatMap (instE ver)++((if ver=2 then Wire.num ps.length++ps.flatMap pendE else[])++(Wire.num os.length++(os.flatMap outE++l)))))):=by
  unfold restE;simp only[Zh]
 have li:=flat_len (instE ver) (instE_pos ver) ins;have lp:=flat_len pendE pendE_pos ps;have lo:=flat_len outE outE_pos os;rw[e];unfold stateS;dsimp only;rw[str_enc lin _ (by omega)];dsimp only;rw[num_enc ser _ (by omega) (by omega)];dsimp only;rw[cnt_enc ins.length _ (by rw[Za];omega) (by omega)];dsimp only;rw[insts_enc ver ins [] _ fun x hx=>⟨hi x hx,ti x hx,insts_zero _ _ h6 x hx⟩];dsimp only;rw[if_neg (by decide)];by_cases hv:ver=2
 ·subst hv;simp only[if_true,Zh];rw[cnt_enc ps.length _ (by rw[Za];omega) (by omega)];dsimp only;rw[pends_enc ps [] _ fun x hx=>⟨(hp x hx).1,tp x hx,(hp x hx).2⟩];dsimp only;rw[cnt_enc os.length _ (by rw[Za];omega) (by omega)];dsimp only;rw[outs_enc os [] l fun x hx=>⟨(ho x hx).1,outs_zero _ _ h8 x hx⟩];simp[oldS,oldI_two]
 ·simp only[if_neg hv,ZA];rw[cnt_enc os.length _ (by rw[Za];omega) (by omega)];dsimp only;have:=outs_enc os [] l fun x hx=>⟨(ho x hx).1,outs_zero _ _ h8 x hx⟩
  rw[this];simp[oldS,hv]
theorem instsZ_old(ver:Int):∀(l:List Inst) (p:Option Inst),instsZ (p.map (oldI ver)) (l.map (oldI ver))=instsZ p l
 |[],p=>by cases p<;>rfl
 |x::l,p=>by
  have hx:instZ (oldI ver x)=instZ x:=by unfold oldI;split<;>rfl
  have hb:∀y,behind (oldI ver y) (oldI ver x)=behind y x:=fun y=>by unfold oldI;split<;>rfl
  have ih:=instsZ_old ver l (some x);rw[ZO];unfold instsZ;rw[hx,show instsZ (some (oldI ver x)) (l.map (oldI ver))=instsZ (some x) l from ih];cases p with
  |none=>rfl
  |some y=>simp only[ZR,hb]
theorem check_old(ver:Int)(s:St)(hz:checkZ s=0):checkZ (oldS ver s)=0:=by
 unfold oldS;split
 ·exact hz
 ·obtain⟨lin,ser,ins,ps,os⟩:=s;obtain⟨h1,h2,h3,h4,h5,h6,h7,h8⟩:=check_parts hz;have ht:text lin=true:=by
   cases h:text lin with
   |true=>rfl
   |false=>unfold checkZ at hz;simp[h]at hz
  dsimp only at h1 h2 h3 h4 h5 h6 h7 h8;have e:=instsZ_old ver ins none;rw[h6]at e;have e':instsZ none (ins.map (oldI ver))=0:=e;unfold checkZ;simp only[ht,e',h8,pendsZ,Zl,Zp];rw[if_neg (by decide),if_neg (by omega),if_neg (by omega)];simp
theorem decode_enc(ver:Int)(hv:ver=1\/ver=2)(s:St)(hz:checkZ s=0)(hin:AX.Sf.StIn s)(ht:TypIn s)(hl:(stE ver s).length<=1048572):encode ver s=(Crc.app (stE ver s),0)/\decode (Crc.app (stE ver s))=(oldS ver s,0):=by
 refine⟨by unfold encode;rw[if_neg (by simp[hz]),if_neg (by omega)],?_⟩;have happ:Crc.app (stE ver s)=stE ver s++(Crc.app (stE ver s)).drop (stE ver s).length:=by
  unfold Crc.app;simp
 have hlen:(Crc.app (stE ver s)).length=(stE ver s).length+4:=by
  unfold Crc.app;simp[Crc.four_length]
 have hm:∀t:List UInt8,AX.preB (stE ver s++t)=true:=fun t=>by
  rw[stE_rest];unfold AX.preB;simp[magic,AX.magic]
 have hvb:AX.versionS (stE ver s)=(ver,0):=by
  have h0:AX.preB (stE ver s)=true:=by have:=hm [];rwa [Zx]at this
  unfold AX.versionS;rw[h0,if_neg (by decide),stE_rest];have hd:(magic++Wire.num ver++restE ver s).drop 4=Wire.num ver++restE ver s:=by simp[magic]
  rw[hd,Val.numR_enc ver _ (by omega) (by omega)];dsimp only;rw[if_neg (by simp),if_neg (by omega)]
 have hdr:(Wire.numR ⟨(stE ver s).drop 4,0⟩).1=⟨restE ver s,0⟩:=by
  rw[stE_rest];have hd:(magic++Wire.num ver++restE ver s).drop 4=Wire.num ver++restE ver s:=by simp[magic]
  rw[hd,Val.numR_enc ver _ (by omega) (by omega)]
 have hst:=state_enc ver s [] hz hin ht;rw[Zx]at hst;unfold decode;rw[if_neg (by omega),if_neg (by rw[happ,hm];decide),ver_app];dsimp only;rw[if_neg (by simp),hvb];dsimp only;rw[if_neg (by simp),hdr];rw[show(⟨⟨restE ver s,0⟩,false⟩:Rs)=rd (restE ver s)from rfl,hst];dsimp only;rw[if_neg (by simp[rd,Rs.fails,check_old ver s hz])]
end Sf
end
section
open Go.RowKit
namespace AX
theorem bz0(n:Int)(x:List UInt8):∀es,lfind n (lput n x es)=some x
 |[]=>by simp[lput,lfind]
 |(k,y)::l=>by
  unfold lput;split
  ·simp[lfind]
  ·next h=>simp only[lfind,if_neg h];exact bz0 n x l
theorem avf(m n:Int)(x:List UInt8)(h:m≠n):∀es,lfind m (lput n x es)=lfind m es
 |[]=>by simp[lput,lfind,h]
 |(k,y)::l=>by
  unfold lput;split
  ·next e=>subst e;simp only[lfind,if_neg h]
  ·unfold lfind;split
   ·rfl
   ·exact avf m n x h l
theorem bq0(n:Int)(x:List UInt8):∀es,lfind n es=some x->(n,x)∈es
 |[],h=>by simp[lfind]at h
 |(k,y)::l,h=>by
  unfold lfind at h;split at h
  ·next e=>subst e;injection h with h;subst h;simp
  ·exact ZK _ (bq0 n x l h)
theorem czu{m n:Int}{x y:List UInt8}:∀{es},(m,y)∈lput n x es->(m=n/\y=x)\/(m,y)∈es
 |[],h=>by simp[lput]at h;exact .inl h
 |(k,z)::l,h=>by
  unfold lput at h;split at h
  ·rcases ZM.1 h with h|h
   ·injection h with h1 h2;exact .inl ⟨h1,h2⟩
   ·exact .inr (ZK _ h)
  ·rcases ZM.1 h with h|h
   ·exact .inr (by rw[h];simp)
   ·rcases czu h with h|h
    ·exact .inl h
    ·exact .inr (ZK _ h)
namespace Sto
structure Vs(s:Sto)(wr:List Sf.St):Prop where
 lat:s.latest+1=(wr.length:Int)
 pos:1<=wr.length
 key:Seal.check s.key=0
 has:∀(n:Nat) (h:n<wr.length),∃b p,lfind (n:Int) s.es=some b/\Seal.dec s.key b=(p,0)/\Sf.decode p=(wr[n],0)/\Sf.checkZ wr[n]=0
 only:∀n b,(n,b)∈s.es->b.length<=1048600
theorem Vs.at'{s:Sto}{wr:List Sf.St}(v:Vs s wr)(n:Nat)(h:n<wr.length):s.at' (n:Int)=(wr[n],0):=by
 obtain⟨b,p,h1,h2,h3,h4⟩:=v.has n h;have hp:s.plain (n:Int)=(p,0):=by unfold Sto.plain;rw[h1];exact h2
 unfold Sto.at';rw[hp,if_neg (by simp)];dsimp only;rw[h3,if_pos rfl,h4]
theorem Vs.keyLen{s:Sto}{wr:List Sf.St}(v:Vs s wr):s.key.length<=1000000000:=by
 have:=v.key;unfold Seal.check at this;split at this
 ·cases this
 ·split at this
  ·cases this
  ·omega
theorem Vs.same{s s':Sto}{wr:List Sf.St}(v:Vs s wr)(h1:s'.latest=s.latest)(h2:s'.key=s.key)(h3:s'.es=s.es):Vs s' wr:=
 ⟨by rw[h1];exact v.lat,v.pos,by rw[h2];exact v.key,by rw[h2,h3];exact v.has,by rw[h3];exact v.only⟩
theorem Vs.lock{s:Sto}{wr:List Sf.St}(v:Vs s wr)(who:List UInt8)(n:Int):Vs (s.lock who n).1 wr:=by
 unfold Sto.lock;split
 ·exact v
 ·split
  ·exact v
  ·exact v.same rfl rfl rfl
theorem Vs.unlock{s:Sto}{wr:List Sf.St}(v:Vs s wr)(who:List UInt8):Vs (s.unlock who).1 wr:=by
 unfold Sto.unlock;split
 ·exact v
 ·exact v.same rfl rfl rfl
theorem enc_len1(k:List UInt8)(n:Int)(p:List UInt8):(Seal.enc k n p).1.length<=1048600:=by
 unfold Seal.enc;split
 ·simp
 ·split
  ·simp
  ·show(Crc.app _).length<=_
   have hz:∀m,(Seal.eight m).length=8:=Seal.eight_length;unfold Crc.app Seal.body;simp only[Za,Crc.four_length,hz,Seal.comb_length,Zf,Zp];omega
theorem lfind_erase(m n:Int)(h:m≠n):∀es,lfind m (lerase n es)=lfind m es
 |[]=>rfl
 |(k,y)::l=>by
  unfold lerase;split
  ·next e=>subst e;simp only[lfind,if_neg h]
  ·unfold lfind;split
   ·rfl
   ·exact lfind_erase m n h l
theorem keep_vs{s:Sto}{wr:List Sf.St}(st:Sf.St)(hk:Seal.check s.key=0)(hser:st.ser=(wr.length:Int))(hwl:wr.length<60)
  (has:∀(n:Nat) (h:n<wr.length),∃b p,lfind (n:Int) s.es=some b/\Seal.dec s.key b=(p,0)/\Sf.decode p=(wr[n],0)/\Sf.checkZ wr[n]=0)
  (only:∀n b,(n,b)∈s.es->b.length<=1048600) (hin:Sf.StIn st) (ht:Sf.TypIn st) (he:(s.keep st).2=0):
  Vs (s.keep st).1 (wr++[st]):=by
 unfold Sto.keep at he⊢;by_cases h1:(Sf.encode 2 st).2=0
 rotate_left
 ·rw[if_pos h1]at he;exact absurd he h1
 rw[if_neg (by rw[h1];simp)]at he⊢;by_cases h2:(Seal.enc s.key (IntKind.u64.wrap st.ser) (Sf.encode 2 st).1).2=0
 rotate_left
 ·rw[if_pos h2]at he;exact absurd he h2
 rw[if_neg (by rw[h2];simp)];have hz:Sf.checkZ st=0:=by
  unfold Sf.encode at h1;split at h1
  ·next h=>exact absurd h1 h
  ·next h=>simpa using h
 have hl:(Sf.stE 2 st).length<=1048572:=by
  unfold Sf.encode at h1;rw[if_neg (by rw[hz];simp)]at h1;split at h1
  ·cases h1
  ·omega
 obtain⟨e1,e2⟩:=Sf.decode_enc 2 (.inr rfl) st hz hin ht hl;rw[show Sf.oldS 2 st=st from if_pos rfl]at e2;have hp:(Sf.encode 2 st).1.length<=1048576:=Sf.encode_len 2 st;have e3:=Seal.enc_ok s.key (IntKind.u64.wrap st.ser) (Sf.encode 2 st).1 hk hp;have e4:=Seal.dec_enc s.key (IntKind.u64.wrap st.ser) (Sf.encode 2 st).1 hk (bjs _) hp;have hw:IntKind.i64.wrap (st.ser-64)=st.ser-64:=by rw[hser];exact wrap64 (by omega) (by omega)
 have hmem:∀n b,(n,b)∈lerase (IntKind.i64.wrap (st.ser-64)) (lput st.ser (Seal.enc s.key (IntKind.u64.wrap st.ser) (Sf.encode 2 st).1).1 s.es)->b.length<=1048600:=by
  intro n b hm;have:∀es,(n,b)∈lerase (IntKind.i64.wrap (st.ser-64)) es->(n,b)∈es:=by
   intro es;induction es with
   |nil=>intro h;exact h
   |cons x l ih=>
    intro h;unfold lerase at h;split at h
    ·exact ZK _ h
    ·rcases ZM.1 h with h|h
     ·rw[h];exact Yc
     ·exact ZK _ (ih h)
  rcases czu (this _ hm)with⟨rfl,rfl⟩|h
  ·exact enc_len1 _ _ _
  ·exact only n b h
 refine⟨?_,?_,hk,?_,hmem⟩
 ·show st.ser+1=_
  rw[hser,Za];simp
 ·rw[Za];simp
 ·intro n h;rw[hw];rw[Za,Yv]at h;show ∃b p,lfind (n:Int) (lerase (st.ser-64) (lput st.ser _ s.es))=some b/\Seal.dec s.key b=(p,0)/\_
  rw[lfind_erase _ _ (by omega)];by_cases hn:n<wr.length
  ·rw[avf _ _ _ (by omega),List.getElem_append_left hn];exact has n hn
  ·obtain rfl:n=wr.length:=by omega
   rw[hser,bz0];refine⟨_,(Sf.encode 2 st).1,rfl,?_,?_,?_⟩
   ·rw[<-hser,e3];exact e4
   ·simp only[List.getElem_concat_length];rw[e1];exact e2
   ·simp only[List.getElem_concat_length];exact hz
theorem Vs.find{s:Sto}{wr:List Sf.St}(v:Vs s wr)(n:Int)(b:List UInt8)(h:lfind n s.es=some b):b.length<=1048600:=v.only n b (bq0 n b _ h)
theorem Vs.write{s:Sto}{wr:List Sf.St}(v:Vs s wr)(hwl:wr.length<60)(who:List UInt8)(st:Sf.St)(hin:Sf.StIn st)(ht:Sf.TypIn st):
  ((s.write who st).2≠0/\(s.write who st).1=s)\/((s.write who st).2=0/\s.holds who=true/\st.lin=s.lin/\st.ser=(wr.length:Int)/\Vs (s.write who st).1 (wr++[st])/\(s.write who st).1.lin=s.lin/\(s.write who st).1.own=s.own/\(s.write who st).1.left=s.left):=by
 unfold Sto.write;by_cases h1:s.holds who=false
 ·rw[if_pos h1];exact .inl ⟨(by decide:(25:Int)≠0),rfl⟩
 rw[if_neg h1];by_cases h2:st.lin≠s.lin
 ·rw[if_pos h2];exact .inl ⟨(by decide:(23:Int)≠0),rfl⟩
 rw[if_neg h2];by_cases h3:st.ser≠IntKind.i64.wrap (s.latest+1)
 ·rw[if_pos h3];exact .inl ⟨(by decide:(22:Int)≠0),rfl⟩
 rw[if_neg h3];have h4:st.ser=(wr.length:Int):=by
  have:=Decidable.not_not.1 h3;rw[this,v.lat];exact wrap64 (by omega) (by omega)
 by_cases h5:(s.keep st).2=0
 ·refine .inr ⟨h5,by cases h:s.holds who<;>simp_all,Decidable.not_not.1 h2,h4,keep_vs st v.key h4 hwl v.has v.only hin ht h5,?_⟩;unfold Sto.keep at h5⊢;split at h5
  ·next h=>exact absurd h5 h
  ·next h=>
   rw[if_neg h];split at h5
   ·next h'=>exact absurd h5 h'
   ·next h'=>rw[if_neg h'];exact⟨rfl,rfl,rfl⟩
 ·refine .inl ⟨h5,?_⟩;unfold Sto.keep at h5⊢;split
  ·rfl
  ·split
   ·rfl
   ·next h h'=>rw[if_neg h,if_neg h']at h5;exact absurd rfl h5
end Sto
def meT:List UInt8:=[109,101]
def dqf:Sf.Inst:=⟨[110,101,116,46,97],[],[110,101,116,45,49],[110,101,116],.mk 5 0 [] [] [],1,false,false,[]⟩
def nextS(st:Sf.St)(os:List Sf.Outp)(full:Bool):Sf.St:=⟨st.lin,st.ser+1,if full then[dqf]else[],[],os⟩
def Wk1(x y:A):Prop:=x=y\/∃W0 W,x=.sl W0 .nil []/\y=.sl W .no []
def WkL:List A->List A->Prop
 |[],[]=>True
 |x::l,y::m=>Wk1 x y/\WkL l m
 |_,_=>False
theorem cye{C:Ctx}{x y:A}{v:Value}(h:Wk1 x y)(r:Rep C x v):Rep C y v:=by
 rcases h with rfl|⟨W0,W,rfl,rfl⟩
 ·exact r
 ·obtain⟨a,cap,rfl,hc,_,_⟩:=rep_sl.1 r;exact rep_sl.2 ⟨a,cap,rfl,hc,by unfold RepRows;trivial,trivial⟩
theorem WkL.len:∀{l m:List A},WkL l m->m.length=l.length
 |[],[],_=>rfl
 |x::l,y::m,h=>by rw[Zf,Zf,WkL.len h.2]
 |[],_::_,h=>h.elim
 |_::_,[],h=>h.elim
theorem ayn{C:Ctx}{g:Nat}:∀{l m:List A} {o:Nat},WkL l m->RepAt C l g o->RepAt C m g o
 |[],[],o,_,r=>r
 |x::l,y::m,o,h,r=>by
  unfold RepAt at r⊢;obtain⟨⟨h1,h2,v,h3,h4⟩,h5⟩:=r;refine⟨⟨h1,?_,v,h3,cye h.1 h4⟩,ayn h.2 h5⟩;rcases h.1 with rfl|⟨W0,W,rfl,rfl⟩
  ·exact h2
  ·rfl
 |[],_::_,_,h,_=>h.elim
 |_::_,[],_,h,_=>h.elim
theorem ACall.wk{P:Program}{G:World->Prop}{f:FuncId}{args:List A}{h:Hp}{x y:A}(hc:ACall P G f args h fun v h'=>v=x/\h'=h)(hw:∀C cv,Rep C x cv->Rep C y cv):ACall P G f args h fun v h'=>v=y/\h'=h:=fun C cs hI ha=>
 (hc C cs hI ha).mono fun e w' ⟨C',h',v,cv,h1,h2,h3,h4,h5,h6,h7⟩=>⟨C',h',y,cv,h1,h2,h3,h4,by subst h6;exact hw C' cv h5,rfl,h7⟩
def axl:AX.AFn:=⟨21,aS [aR 3 (.box 58 (.t 0)),aR 6 (.alloc 58 [.str [],.int .i64 0,.sl 0 .nil [],.sl 0 .nil [],.sl 0 .nil []])] (aS [aF 8 0 3,aL 9 8,aF 10 1 3,aL 11 10,aR 12 (.bin .add (.t 11) (aI 1)),aM 13 1,aR 14 (.build [.str [],.int .i64 0,.sl 0 .nil [],.sl 0 .nil [],.sl 0 .nil []] [(0,1,.t 9),(1,1,.t 12),(4,1,.t 13)]),aR 7 (.alloc 58 [.str [],.int .i64 0,.sl 0 .nil [],.sl 0 .nil [],.sl 0 .nil []]),aU (.store 5 (.t 7) (.t 14))] (.seq (aS [aM 15 2] (.cond (.t 15) (.reg false [aR 16 (.build [.int .i64 0,.int .i64 0,.str [],.sl 0 .nil [],.sl 0 .nil []] [(0,1,aI 5)]),aR 17 (.build [.str [],.str [],.str [],.str [],.int .i64 0,.int .i64 0,.str [],.sl 0 .nil [],.sl 0 .nil [],.int .i64 0,.bool false,.bool false,.sl 0 .nil []] [(0,1,.c (.str [110,101,116,46,97])),(2,1,.c (.str [110,101,116,45,49])),(3,1,.c (.str [110,101,116])),(4,5,.t 16),(9,1,aI 1)]),aR 18 (.mkl 89 13 [.t 17]),aF 19 2 7,aU (.store 1 (.t 19) (.t 18))]) (.skip))) (aS [aR 20 (.load true 5 (.t 7)),aU (.store 5 (.t 6) (.t 20))] (.ret)))),[.c 6 true 5]⟩
theorem bqx:AX.compFn Tryz.prog 30=some axl:=by kernel_rfl
theorem bw5(st:Sf.St)(os:List Sf.Outp)(full:Bool)(h1:-1000000<=st.ser)(h2:st.ser<=1000000)(h:Hp):AT 30 [st.A,.sl 7 .no (os.map Sf.Outp.cells),.bool full] h ((nextS st os full).A):=by
 obtain⟨lin,ser,ins,ps,os0⟩:=st;dsimp only at h1 h2;have w1:IntKind.i64.wrap (ser+1)=ser+1:=wrap64 (by omega) (by omega);unfold nextS;simp only[Sf.St.A];cases full with
 |false=>
  refine pcall ?_ rfl (by simp[A.pure,A.data]) h;refine aza mixedT bqx (by simp[axl]) ?_;dsimp only[axl];refine azo w1 ti ?_;exact⟨.agg [.str lin,.int .i64 (ser+1),.sl 13 .no [],.sl 3 .no [],.sl 7 .no (os.map Sf.Outp.cells)],⟨azd _,azd _,⟨rfl,.inr rfl,.inl rfl⟩,⟨rfl,.inr rfl,.inl rfl⟩,azd _,trivial⟩,rfl⟩
 |true=>
  obtain⟨R,hR⟩:∃R,R=[A.str [110,101,116,46,97],.str [],.str [110,101,116,45,49],.str [110,101,116],.int .i64 5,.int .i64 0,.str [],.sl 0 .nil [],.sl 0 .nil [],.int .i64 1,.bool false,.bool false,.sl 0 .nil []]:=⟨_,rfl⟩;have c:∀h,AT 30 [.agg [.str lin,.int .i64 ser,.sl 13 .no (ins.map Sf.Inst.cells),.sl 3 .no (ps.map Sf.Pend.cells),.sl 7 .no (os0.map Sf.Outp.cells)],.sl 7 .no (os.map Sf.Outp.cells),.bool true] h (.agg [.str lin,.int .i64 (ser+1),.sl 13 .no [R],.sl 3 .no [],.sl 7 .no (os.map Sf.Outp.cells)]):=fun h=>by
   refine pcall ?_ rfl (by simp[A.pure,A.data]) h;refine aza mixedT bqx (by simp[axl]) ?_;dsimp only[axl];rw[hR];refine azo w1 ti ?_;exact⟨.agg [.str lin,.int .i64 (ser+1),.sl 13 .no [[.str [110,101,116,46,97],.str [],.str [110,101,116,45,49],.str [110,101,116],.int .i64 5,.int .i64 0,.str [],.sl 0 .nil [],.sl 0 .nil [],.int .i64 1,.bool false,.bool false,.sl 0 .nil []]],.sl 3 .no [],.sl 7 .no (os.map Sf.Outp.cells)],⟨azd _,azd _,⟨rfl,.inl rfl,.inl rfl⟩,⟨rfl,.inr rfl,.inl rfl⟩,azd _,trivial⟩,rfl⟩
  refine(c h).wk fun C cv r=>?_
  have hw:WkL R (Sf.Inst.cells dqf):=by
   rw[hR];exact⟨.inl rfl,.inl rfl,.inl rfl,.inl rfl,.inl rfl,.inl rfl,.inl rfl,.inr ⟨0,5,rfl,rfl⟩,.inr ⟨0,1,rfl,rfl⟩,.inl rfl,.inl rfl,.inl rfl,.inr ⟨0,1,rfl,rfl⟩,trivial⟩
  obtain⟨cs,rfl,rl⟩:=rep_agg.1 r;obtain⟨c0,cs0,rfl,r0,rl⟩:=repL_cons.1 rl;obtain⟨c1,cs1,rfl,r1,rl⟩:=repL_cons.1 rl;obtain⟨c2,cs2,rfl,r2,rl⟩:=repL_cons.1 rl;refine rep_agg.2 ⟨_,rfl,repL_cons.2 ⟨_,_,rfl,r0,repL_cons.2 ⟨_,_,rfl,r1,repL_cons.2 ⟨_,_,rfl,?_,rl⟩⟩⟩⟩;obtain⟨a,cap,rfl,hc,rr,_⟩:=rep_sl.1 r2;refine rep_sl.2 ⟨a,cap,rfl,hc,?_,trivial⟩;unfold RepRows at rr;obtain⟨⟨g,off,e,hl,ra⟩,_⟩:=rr;show RepRows C 13 [(Sf.Inst.cells dqf)] a 0
  unfold RepRows RepRows;exact⟨⟨g,off,e,by rw[hw.len,hl],ayn hw ra⟩,trivial⟩
def wrS(s:Sto)(st:Sf.St):Sto×Int:=
 if s.own=[]then((((s.lock meT 1000).1.write meT st).1.unlock meT).1,((s.lock meT 1000).1.write meT st).2)else s.write meT st
theorem aqv{α β:Type}(f:α->β){l:List α}{q:Nat}{x y:α}(h:l[q]?=some y)(e:f x=f y):(l.set q x).map f=l.map f:=by
 apply List.ext_getElem?;intro j;rw[List.getElem?_map,List.getElem?_map,Zj];split
 ·next hj=>
  subst hj;split
  ·rw[h];simp[e]
  ·next hl=>rw[Z6 (by omega)]
 ·rfl
theorem bvk{l:List Nat}(h:l.Nodup){i j:Nat}(hi:i<l.length)(hj:j<l.length)(hne:i≠j):l[i]≠l[j]:=by
 rcases Nat.lt_or_gt_of_ne hne with h1|h1
 ·exact List.pairwise_iff_getElem.1 h i j hi hj h1
 ·exact fun e=>List.pairwise_iff_getElem.1 h j i hj hi h1 e.symm
theorem WsAt.upd{b:List Blk}{i:Nat}{key:List UInt8}{sp:A}{W:List Ent}(w:WsAt b i key sp W){q:Nat}{e:Ent}(hq:W[q]?=some e)(s':Sto):WsAt ((b.set e.m s'.M).set e.p (s'.Bk e.m)) i key sp (W.set q { e with s:=s' }):=by
 have hlt:=(Zc.1 hq).1;have heq:=(Zc.1 hq).2;have hem:e∈W:=by rw[<-heq];exact ZF hlt
 obtain⟨n1,n2⟩:=w.set_ne e hem;have hpm:=(w.st hem).ne;have mp:(W.set q { e with s:=s' }).map (·.p)=W.map (·.p):=aqv _ hq rfl;have mm:(W.set q { e with s:=s' }).map (·.m)=W.map (·.m):=aqv _ hq rfl;have mr:rowW (W.set q { e with s:=s' })=rowW W:=by unfold rowW;rw[aqv (x:={ e with s:=s' }) Ent.row hq rfl]
 have mn:(W.set q { e with s:=s' }).map (·.name)=W.map (·.name):=aqv _ hq rfl;refine⟨(azp n2).trans ((azp n1).trans w.set),?_,fun x hx=>?_,by rw[mp];exact w.ps,by rw[mm];exact w.ms,?_,by rw[Zv];exact w.len⟩
 ·obtain hs:=w.sp;cases hs with
  |nil=>exact absurd hlt (Nat.not_lt_zero _)
  |row hk=>
   obtain⟨_,hne⟩:=w.row_ne hk;obtain⟨_,_,n3,n4⟩:=hne e hem;rw[show W.length=(W.set q { e with s:=s' }).length by rw[Zv]];refine .row ?_;rw[mr];exact(azp n4).trans ((azp n3).trans hk)
 ·obtain⟨j,hj,rfl⟩:=List.mem_iff_getElem.1 hx;have hj':j<W.length:=by rw[Zv]at hj;exact hj
  have hpp:∀x∈W,x.p≠e.m:=fun x hx ee=>by
   have h1:=(w.ent x hx).2;have h2:=(w.ent e hem).1;unfold Sto.Bk at h1;unfold Sto.M at h2;rw[ee,h2]at h1;cases h1
  have hmm:∀x∈W,x.m≠e.p:=fun x hx ee=>by
   have h1:=(w.ent x hx).1;have h2:=(w.ent e hem).2;unfold Sto.Bk at h2;unfold Sto.M at h1;rw[ee,h2]at h1;cases h1
  rw[List.getElem_set];by_cases hqj:q=j
  ·subst hqj;rw[if_pos rfl];exact⟨(azp (Ne.symm (hmm e hem))).trans (axk (w.ent e hem).1),axk ((azp (Ne.symm (hpp e hem))).trans (w.ent e hem).2)⟩
  ·rw[if_neg hqj];have hxm:=ZF hj';obtain⟨h1,h2⟩:=w.ent _ hxm;have d1:W[j].p≠e.p:=fun ee=>bvk w.ps (i:=j) (j:=q) (by rw[Zl];exact hj') (by rw[Zl];exact hlt) (Ne.symm hqj) (by rw[List.getElem_map,List.getElem_map,heq];exact ee)
   have d2:W[j].m≠e.m:=fun ee=>bvk w.ms (i:=j) (j:=q) (by rw[Zl];exact hj') (by rw[Zl];exact hlt) (Ne.symm hqj) (by rw[List.getElem_map,List.getElem_map,heq];exact ee)
   exact⟨(azp (Ne.symm (hmm _ hxm))).trans ((azp (Ne.symm d2)).trans h1),(azp (Ne.symm d1)).trans ((azp (Ne.symm (hpp _ hxm))).trans h2)⟩
 ·unfold SrtW;have e1:∀V:List Ent,(V.Pairwise fun x y=>cmpZ x.name y.name<0)↔(V.map (·.name)).Pairwise fun x y=>cmpZ x y<0:=fun V=>by rw[List.pairwise_map]
  rw[e1,mn,<-e1];exact w.srt
def KeepT(b b':List Blk):Prop:=∀(j:Nat) T l,T≠75->T≠52->b[j]?=some (.cells T l)->b'[j]?=some (.cells T l)
theorem KeepT.trans{a b c:List Blk}(h:KeepT a b)(k:KeepT b c):KeepT a c:=fun j T l h1 h2 h3=>k j T l h1 h2 (h j T l h1 h2 h3)
theorem KeepT.more(b L:List Blk):KeepT b (b++L):=fun j T l _ _ h=>azc h L
theorem StAt.keepT{b:List Blk}{p m:Nat}{s s':Sto}(w:StAt b p m s):KeepT b ((b.set m s'.M).set p (s'.Bk m)):=fun j T l h1 h2 h3=>by
 have hm:=w.bm;have hp:=w.bp;unfold Sto.M at hm;unfold Sto.Bk at hp;refine(azp (fun e=>?_)).trans ((azp (fun e=>?_)).trans h3)
 ·subst e;rw[hp]at h3;injection h3 with h3;injection h3 with h3 _;exact h1 h3.symm
 ·subst e;rw[hm]at h3;cases h3
theorem Sto.lock_free{s:Sto}(h:s.own=[]):s.lock meT 1000=({ s with own:=meT,left:=1000 },0):=by
 unfold Sto.lock;rw[if_neg (by decide +kernel),h];rfl
theorem Sto.write_own(s:Sto)(who:List UInt8)(st:Sf.St):(s.write who st).1.own=s.own:=by
 unfold Sto.write;split
 ·rfl
 split
 ·rfl
 split
 ·rfl
 unfold Sto.keep;split
 ·rfl
 split<;>rfl
theorem Sto.unlock_me{s:Sto}(h:s.own=meT):s.unlock meT=({ s with own:=[],left:=0 },0):=by
 have hh:s.holds meT=true:=by unfold Sto.holds;rw[h];decide +kernel
 unfold Sto.unlock;rw[if_neg (by rw[hh];decide)]
def bxz:AX.AFn:=⟨88,aS [aR 3 (.box 45 (.t 1)),aR 4 (.mv (aI 0))] (.seq (aS [aF 11 0 3,aL 12 11,aR 13 (.bin .eql (.t 12) (.c (.int .u8 0)))] (.cond (.t 13) (aS [aM 14 0,aF 15 1 3,aL 16 15,aR 17 (.call 12 [.t 14,.t 16]),aM 4 17] (.ret)) (.skip))) (.seq (aS [aF 18 0 3,aL 19 18,aR 20 (.bin .eql (.t 19) (.c (.int .u8 1)))] (.cond (.t 20) (aS [aM 21 0,aF 22 1 3,aL 23 22,aR 24 (.call 13 [.t 21,.t 23]),aM 4 24] (.ret)) (.skip))) (.seq (aS [aF 25 0 3,aL 26 25,aR 27 (.bin .gtr (.t 26) (.c (.int .u8 4)))] (.cond (.t 27) (aS [aR 4 (.mv (aI 0))] (.ret)) (.skip))) (aS [aM 29 0,aF 30 1 3,aL 31 30,aR 32 (.call 10 [.t 29,.t 31]),aM 28 32,aE 33 28 0,aE 34 28 1,aM 5 33,aM 6 34] (.seq (aS [aM 35 6,aR 36 (.bin .neq (.t 35) (aI 0)),aM 37 36,aG 38 (.mv (.t 5)) 37 false,aG 39 (.eq 4 [] false (.t 38) (.c (.nilp))) 37 false,aR 40 (.pick (.t 37) (.c (.bool true)) (.t 39))] (.cond (.t 40) (aS [aM 41 6,aM 4 41] (.ret)) (.skip))) (.seq (aS [aF 42 0 3,aL 43 42,aR 44 (.bin .eql (.t 43) (.c (.int .u8 3)))] (.cond (.t 44) (aS [aM 45 5,aR 46 (.call 27 [.t 45,.c (.str [109,101]),aI 1000]),aM 4 46] (.ret)) (.skip))) (.seq (aS [aF 47 0 3,aL 48 47,aR 49 (.bin .eql (.t 48) (.c (.int .u8 4)))] (.cond (.t 49) (aS [aM 50 5,aR 51 (.call 28 [.t 50,.c (.str [109,101])]),aM 4 51] (.ret)) (.skip))) (aS [aM 53 5,aR 54 (.call 18 [.t 53]),aM 52 54,aE 55 52 0,aE 56 52 1,aR 7 (.alloc 58 [.str [],.int .i64 0,.sl 0 .nil [],.sl 0 .nil [],.sl 0 .nil []]),aU (.store 5 (.t 7) (.t 55)),aM 8 56] (.seq (aS [aM 57 8,aR 58 (.bin .neq (.t 57) (aI 0))] (.cond (.t 58) (aS [aM 59 8,aM 4 59] (.ret)) (.skip))) (aS [aM 61 5,aR 62 (.call 25 [.t 61]),aM 60 62,aE 63 60 0,aE 64 60 1,aM 9 63,aM 10 64] (.seq (aS [aM 65 9,aR 66 (.bin .eql (.t 65) (.c (.str []))),aM 67 66,aG 68 (.mv (.t 5)) 67 true,aG 69 (.call 27 [.t 68,.c (.str [109,101]),aI 1000]) 67 true,aG 70 (.bin .neq (.t 69) (aI 0)) 67 true,aR 71 (.pick (.t 67) (.t 70) (.c (.bool false)))] (.cond (.t 71) (aS [aR 4 (.mv (aI 25))] (.ret)) (.skip))) (aS [aM 72 5,aR 73 (.load true 5 (.t 7)),aF 74 2 3,aL 75 74,aF 76 3 3,aL 77 76,aR 78 (.call 30 [.t 73,.t 75,.t 77]),aR 79 (.call 29 [.t 72,.c (.str [109,101]),.t 78]),aM 6 79] (.seq (aS [aM 80 9,aR 81 (.bin .eql (.t 80) (.c (.str []))),aM 82 81,aG 83 (.mv (.t 5)) 82 true,aG 84 (.call 28 [.t 83,.c (.str [109,101])]) 82 true,aG 85 (.bin .neq (.t 84) (aI 0)) 82 true,aR 86 (.pick (.t 82) (.t 85) (.c (.bool false)))] (.cond (.t 86) (aS [aR 4 (.mv (aI 25))] (.ret)) (.skip))) (aS [aM 87 6,aM 4 87] (.ret))))))))))))))),[.t 4]⟩
theorem cwl:AX.compFn Tryz.prog 14=some bxz:=by kernel_rfl
theorem dqd{h:Hp}{i:Nat}{key:List UInt8}{sp:A}{W:List Ent}(w:WsAt h.b i key sp W)(n:List UInt8)(q:Nat)(hc:CutW W n q)(hh:hasW W n q=true)(e:Ent)(he:W[q]?=some e)(ok:EntOk e)(os:List Sf.Outp)(full:Bool)
  (g1:-1000000<=(stOf e).ser) (g2:(stOf e).ser<=1000000) (hin:Sf.StIn (nextS (stOf e) os full)) (hE:(Sf.stE 2 (nextS (stOf e) os full)).length+20<=1000000000):
  AC 14 [.ptr i 0,.agg [.int .u8 2,.str n,.sl 7 .no (os.map Sf.Outp.cells),.bool full]] h fun v h'=>v=.int .i64 (wrS e.s (nextS (stOf e) os full)).2/\h'.t=h.t/\h.b.length<=h'.b.length/\KeepT h.b h'.b/\WsAt h'.b i key sp (W.set q { e with s:=(wrS e.s (nextS (stOf e) os full)).1 }):=by
 obtain⟨b,t⟩:=h;dsimp only at w⊢;have cn:=fun h=>bw5 (stOf e) os full g1 g2 h
 obtain⟨N,hN⟩:=Ex (nextS (stOf e) os full);rw[hN]at cn hin hE⊢;have hrd:=ok.rd;obtain⟨st,hst⟩:=Ex (stOf e);rw[hst]at hrd cn;obtain⟨OS,hOS⟩:=Ex (os.map Sf.Outp.cells);rw[hOS]at cn⊢;have hem:e∈W:=by obtain⟨hl,rfl⟩:=Zc.1 he;exact ZF hl
 have hw0:=w.st hem;have cs:=bj9 (h:=⟨b++[.cells 45 [.int .u8 2,.str n,.sl 7 .no OS,.bool full]],t⟩) (w.more _) n q hc;have hp:ptrW W q=e.p:=by unfold ptrW;rw[he];rfl
 rw[hh,if_pos rfl,hp]at cs;refine aza mixedT cwl (by simp[bxz]) ?_;dsimp only[bxz];have z4:¬(2:Int)>4:=by decide
 refine go0 z4 ?_;refine gc0 z4 ?_;refine cs.mono ?_;rintro v h' ⟨rfl,L,rfl⟩;have ob:(b++[Blk.cells 45 [.int .u8 2,.str n,.sl 7 .no OS,.bool full]]++L)[b.length]?=some (.cells 45 [.int .u8 2,.str n,.sl 7 .no OS,.bool full]):=azc Zs L;have sw:=(hw0.more [.cells 45 [.int .u8 2,.str n,.sl 7 .no OS,.bool full]]).more L;have ww:=(w.more [.cells 45 [.int .u8 2,.str n,.sl 7 .no OS,.bool full]]).more L;have kk:KeepT b (b++[.cells 45 [.int .u8 2,.str n,.sl 7 .no OS,.bool full]]++L):=(KeepT.more _ _).trans (KeepT.more _ _);have ln:b.length<=(b++[Blk.cells 45 [.int .u8 2,.str n,.sl 7 .no OS,.bool full]]++L).length:=by rw[Za,Za];omega
 obtain⟨o,ho⟩:=Ex (b.length);obtain⟨B,hB⟩:=Ex (b++[.cells 45 [.int .u8 2,.str n,.sl 7 .no OS,.bool full]]++L);dsimp only;simp only[hB,ho]at ob sw ww kk ln⊢;clear hB;have c2:=czl (h:=⟨B,t⟩) sw ok.kl ok.hb;rw[hrd]at c2;obtain⟨lin,ser,ins,ps,outs⟩:=st;simp only[Sf.St.A]at c2 cn;obtain⟨B1,hB1⟩:=Ex (B++[.cells 58 [.str lin,.int .i64 ser,.sl 13 .no (ins.map Sf.Inst.cells),.sl 3 .no (ps.map Sf.Pend.cells),.sl 7 .no (outs.map Sf.Outp.cells)]]);have sb1:B1[B.length]?=some (.cells 58 [.str lin,.int .i64 ser,.sl 13 .no (ins.map Sf.Inst.cells),.sl 3 .no (ps.map Sf.Pend.cells),.sl 7 .no (outs.map Sf.Outp.cells)]):=by rw[<-hB1];exact Zs
 have ob1:B1[o]?=some (.cells 45 [.int .u8 2,.str n,.sl 7 .no OS,.bool full]):=by rw[<-hB1];exact azc ob _
 have sw1:StAt B1 e.p e.m e.s:=by rw[<-hB1];exact sw.more _
 have ww1:WsAt B1 i key sp W:=by rw[<-hB1];exact ww.more _
 have kk1:KeepT b B1:=by rw[<-hB1];exact kk.trans (KeepT.more _ _)
 have ln1:o<=B1.length:=by rw[<-hB1,Za];omega
 have ch:=bvi (h:=⟨B1,t⟩) sw1;unfold wrS;by_cases h1:e.s.own=[]
 ·have cl:=cy7 (h:=⟨B1,t⟩) sw1 meT (by decide) 1000;rw[if_pos h1];rw[Sto.lock_free h1]at cl⊢;rw[h1]at ch;dsimp only at cl⊢;obtain⟨s1,hs1⟩:∃s1:Sto,{ e.s with own:=meT,left:=1000 }=s1:=⟨_,rfl⟩;have k1:s1.key.length<=1000000000:=by rw[<-hs1];exact ok.kl
  have o1:s1.own=meT:=by rw[<-hs1]
  rw[hs1]at cl⊢;clear hs1;have kt1:=sw1.keepT (s':=s1);have ww2:=ww1.upd he s1;have sw2:StAt ((B1.set e.m s1.M).set e.p (s1.Bk e.m)) e.p e.m s1:=⟨(azp sw1.ne).trans (axk sw1.bm),axk ((azp (Ne.symm sw1.ne)).trans sw1.bp)⟩;obtain⟨B2,hB2⟩:=Ex ((B1.set e.m s1.M).set e.p (s1.Bk e.m));have ln2:B2.length=B1.length:=by rw[<-hB2,Zv,Zv]
  rw[hB2]at cl kt1 ww2 sw2;clear hB2;have sb2:=kt1 _ _ _ (by decide) (by decide) sb1;have ob2:=kt1 _ _ _ (by decide) (by decide) ob1;have he2:(W.set q { e with s:=s1 })[q]?=some { e with s:=s1 }:=Yw (Zc.1 he).1;have cw:=cza (h:=⟨B2,t⟩) sw2 meT N hin k1 hE;have o2:=Sto.write_own s1 meT N;obtain⟨s2,hs2⟩:=Ex ((s1.write meT N).1);obtain⟨er,her⟩:=Ex ((s1.write meT N).2);rw[hs2,her]at cw;rw[hs2,o1]at o2;rw[hs2,her];clear hs2 her;have kt2:=sw2.keepT (s':=s2);have ww3:=ww2.upd he2 s2;have sw3:StAt ((B2.set e.m s2.M).set e.p (s2.Bk e.m)) e.p e.m s2:=⟨(azp sw2.ne).trans (axk sw2.bm),axk ((azp (Ne.symm sw2.ne)).trans sw2.bp)⟩;obtain⟨B3,hB3⟩:=Ex ((B2.set e.m s2.M).set e.p (s2.Bk e.m));have ln3:B3.length=B2.length:=by rw[<-hB3,Zv,Zv]
  dsimp only at ww3;rw[List.set_set]at ww3;rw[hB3]at cw kt2 ww3 sw3;clear hB3;have he3:(W.set q { e with s:=s2 })[q]?=some { e with s:=s2 }:=Yw (Zc.1 he).1;have cu:=cjx (h:=⟨B3,t⟩) sw3 meT;rw[Sto.unlock_me o2]at cu⊢;dsimp only at cu⊢;obtain⟨s3,hs3⟩:∃s3:Sto,{ s2 with own:=[],left:=0 }=s3:=⟨_,rfl⟩;rw[hs3]at cu⊢;clear hs3;have kt3:=sw3.keepT (s':=s3);have ww4:=ww3.upd he3 s3;obtain⟨B4,hB4⟩:=Ex ((B3.set e.m s3.M).set e.p (s3.Bk e.m));have ln4:B4.length=B3.length:=by rw[<-hB4,Zv,Zv]
  dsimp only at ww4;rw[List.set_set]at ww4;rw[hB4]at cu kt3 ww4;clear hB4;have fin:o<=B4.length/\KeepT b B4/\WsAt B4 i key sp (W.set q { e with s:=s3 }):=⟨by omega,((kk1.trans kt1).trans kt2).trans kt3,ww4⟩;have e1:(([]:List UInt8) == [])=true:=rfl;have mt:meT=[109,101]:=rfl;rw[mt]at cl cw cu;clear ww ww1 ww2 ww3 ww4 kk kk1 kt1 kt2 kt3 sw sw1 sw2 sw3 hw0 w;refine go0 ob ?_;refine gc0 ob ?_;refine c2.mono ?_;rintro v h' ⟨rfl,rfl⟩;refine go0 hB1 ?_;refine gc0 hB1 ?_;refine ch.mono ?_;rintro v h' ⟨rfl,rfl⟩;refine go0 e1 ?_;refine gc0 e1 ?_;refine cl.mono ?_;rintro v h' ⟨rfl,rfl⟩;refine go0 (ai sb2 ob2) ?_;refine gc0 (ai sb2 ob2) ?_;refine(cn _).mono ?_;rintro v h' ⟨rfl,rfl⟩;refine go0 ti ?_;refine gc0 ti ?_;refine cw.mono ?_;rintro v h' ⟨rfl,rfl⟩;refine go0 e1 ?_;refine gc0 e1 ?_;refine cu.mono ?_;rintro v h' ⟨rfl,rfl⟩;refine go0 ti ?_;exact⟨_,le_refl _,rfl,rfl,fin⟩
 ·have e1:(e.s.own == [])=false:=by simp[h1]
  rw[if_neg h1];have cw:=cza (h:=⟨B1,t⟩) sw1 meT N hin ok.kl hE;obtain⟨s2,hs2⟩:=Ex ((e.s.write meT N).1);obtain⟨er,her⟩:=Ex ((e.s.write meT N).2);rw[hs2,her]at cw⊢;have kt1:=sw1.keepT (s':=s2);have ww2:=ww1.upd he s2;obtain⟨B2,hB2⟩:=Ex ((B1.set e.m s2.M).set e.p (s2.Bk e.m));have ln2:B2.length=B1.length:=by rw[<-hB2,Zv,Zv]
  rw[hB2]at cw kt1 ww2;clear hB2;have fin:o<=B2.length/\KeepT b B2/\WsAt B2 i key sp (W.set q { e with s:=s2 }):=⟨by omega,kk1.trans kt1,ww2⟩;obtain⟨own,hown⟩:∃own,e.s.own=own:=⟨_,rfl⟩;rw[hown]at ch e1;have mt:meT=[109,101]:=rfl;rw[mt]at cw;clear ww ww1 ww2 kk kk1 kt1 sw sw1 hw0 w;refine go0 ob ?_;refine gc0 ob ?_;refine c2.mono ?_;rintro v h' ⟨rfl,rfl⟩;refine go0 hB1 ?_;refine gc0 hB1 ?_;refine ch.mono ?_;rintro v h' ⟨rfl,rfl⟩;refine go0 (ai e1 (ai sb1 ob1)) ?_;refine gc0 (ai e1 (ai sb1 ob1)) ?_;refine(cn _).mono ?_;rintro v h' ⟨rfl,rfl⟩;refine go0 ti ?_;refine gc0 ti ?_;refine cw.mono ?_;rintro v h' ⟨rfl,rfl⟩;refine go0 e1 ?_;exact⟨_,le_refl _,rfl,rfl,fin⟩
end AX
end
section
open Go.RowKit
namespace AX
open Sto
def st0(lin:List UInt8):Sf.St:=⟨lin,0,[],[],[]⟩
theorem aj0(key lin:List UInt8):(newS key lin).own=[]/\(newS key lin).lin=lin/\(newS key lin).key=key:=by
 unfold newS newK Sto.keep;split
 ·exact⟨rfl,rfl,rfl⟩
 ·split<;>exact⟨rfl,rfl,rfl⟩
theorem by4{key lin:List UInt8}(hk:Seal.check key=0)(h1:lin≠[])(h2:lin.length<=64)(h3:Str.valid lin=true):Vs (newS key lin) ([]++[st0 lin]):=by
 have e0:=Sto.new_ok hk h1 h2 h3;have ht:Sto.txt lin=true:=by unfold Sto.txt;rw[h3,ZW,Y9];exact h1
 unfold newE at e0;rw[if_neg (by simp[hk]),if_neg (by rw[ht];decide)]at e0;exact keep_vs (s:=Sto.new key lin) (wr:=[]) (st0 lin) hk rfl (by decide) (fun n h=>absurd h (by simp)) (fun n b h=>by cases h)
  ⟨by unfold st0;show lin.length<=_;omega,by simp[st0],by simp[st0],by simp[st0],by simp[st0],by simp[st0],by simp[st0]⟩ ⟨by simp[st0],by simp[st0]⟩ e0
theorem Sto.Vs.last{s:Sto}{wr:List Sf.St}{st:Sf.St}(v:Vs s (wr++[st])):s.at' s.latest=(st,0):=by
 have hl:=v.lat;rw[Za,Yv]at hl;have:=v.at' wr.length (by rw[Za,Yv];omega);rw[List.getElem_concat_length rfl]at this;rw[show s.latest=(wr.length:Int) by omega];exact this
theorem Sto.Vs.stOf{e:Ent}{wr:List Sf.St}{st:Sf.St}(v:Vs e.s (wr++[st])):stOf e=st:=by
 unfold AX.stOf;rw[v.last]
theorem Sto.Vs.ok{e:Ent}{wr:List Sf.St}{st:Sf.St}(v:Vs e.s (wr++[st]))(ho:OutsOk st.outs):EntOk e:=
 ⟨by rw[v.stOf];exact v.last,v.keyLen,fun b h=>v.find _ b h,by rw[v.stOf];exact ho⟩
theorem bvp:OutsOk []:=⟨List.Pairwise.nil,by simp,by simp⟩
def mainN:List UInt8:=[109,97,105,110]
def bjf:AX.AFn:=⟨17,aS [aR 2 (.mv (.c (.nilp))),aR 3 (.mv (aI 0))] (.seq (aS [aM 7 0,aR 8 (.call 16 [.t 7,.c (.str [109,97,105,110])]),aM 6 8,aE 9 6 0,aE 10 6 1,aM 4 9,aM 5 10] (aS [aM 11 5,aR 12 (.bin .neq (.t 11) (aI 0))] (.cond (.t 12) (aS [aM 13 5,aR 2 (.mv (.c (.nilp))),aM 3 13] (.ret)) (.skip)))) (aS [aM 14 0,aR 15 (.build [.str [],.bool false,.sl 0 .nil []] [(0,1,.t 14),(1,1,.c (.bool true))]),aR 16 (.box 52 (.t 15)),aM 2 16,aR 3 (.mv (aI 0))] (.ret))),[.t 2,.t 3]⟩
theorem cko:AX.compFn Tryz.prog 6=some bjf:=by kernel_rfl
theorem bvx{key:List UInt8}(hk:Seal.check key=0)(h:Hp):AC 6 [.str key] h fun v h'=>∃i,v=.tup [.ptr i 0,.int .i64 0]/\h'.t=h.t/\h.b.length<=h'.b.length/\KeepT h.b h'.b/\WsAt h'.b i key (.sl 0 .nil []) []:=by
 have c:=czh (lin:=mainN) hk (by decide) (by decide) (by decide +kernel) h;unfold mainN at c;obtain⟨s,hs⟩:=Ex (newS key [109,97,105,110]);rw[hs]at c;obtain⟨b,t⟩:=h;dsimp only at c⊢;have hw:WsAt (b++[s.M,s.Bk b.length]++[setC key (.sl 0 .nil [])]) (b++[s.M,s.Bk b.length]).length key (.sl 0 .nil []) []:=
  ⟨Zs,.nil,by simp,by simp,by simp,List.Pairwise.nil,by simp⟩
 have kt:KeepT b (b++[s.M,s.Bk b.length]++[setC key (.sl 0 .nil [])]):=(KeepT.more _ _).trans (KeepT.more _ _);have ln:b.length<=(b++[s.M,s.Bk b.length]++[setC key (.sl 0 .nil [])]).length:=by rw[Za,Za];omega
 obtain⟨B,hB⟩:=Ex (b++[s.M,s.Bk b.length]);rw[hB]at c hw kt ln;unfold setC at hw kt ln;refine aza mixedT cko (by simp[bjf]) ?_;dsimp only[bjf];refine go0 ti ?_;refine gc0 ti ?_;refine c.mono ?_;rintro v h' ⟨rfl,rfl⟩;refine go0 ti ?_;exact⟨_,le_refl _,_,rfl,rfl,ln,kt,hw⟩
end AX
end
end Go.Proofs.YtnffmgmidghfhaaGreatDoor
