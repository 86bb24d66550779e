/- Part of what the proof needs. -/
import Derived.Test.YthhpocnmfknalaaGreatDoorMFrWorkspaceCallsV
set_option maxHeartbeats 4000000
set_option maxRecDepth 100000
set_option linter.all false
namespace Go.Proofs.YthhpocnmfknalaaGreatDoor
section
open Go.RowKit
open Go.Op (bytesLess)
namespace AX
def mapI(is:List V):A:=if is=[]then .sl 0 .nil []else .sl 5 .no (V.cellss is)
def mapK(ks:List (List UInt8)):A:=if ks=[]then .sl 0 .nil []else .sl 1 .no (strsA ks)
theorem cym(is:List V)(ks:List (List UInt8))(key:List UInt8)(x:V)(hik:is.length=ks.length)(hf:(V.mk 5 0 [] is ks).few)(hx:x.few)(hl:∀s∈ks,bytesLess s key=true)(hn:ks.length<=100000)(h:Hp):
  AT 41 [.agg [.int .i64 5,.int .i64 0,.str [],mapI is,mapK ks],.str key,x.A] h (.agg [.int .i64 5,.int .i64 0,.str [],mapI (is++[x]),mapK (ks++[key])]):=by
 have e1:∀is:List V,is≠[]->mapI is=.sl 5 .no (V.cellss is):=fun is h=>if_neg h
 have e2:∀ks:List (List UInt8),ks≠[]->mapK ks=.sl 1 .no (strsA ks):=fun ks h=>if_neg h
 have hV:∀is ks,is≠[]->ks≠[]->(V.mk 5 0 [] is ks).A=.agg [.int .i64 5,.int .i64 0,.str [],mapI is,mapK ks]:=fun is ks h1 h2=>by rw[e1 is h1,e2 ks h2];simp only[V.A,V.cells]
 rw[<-hV (is++[x]) (ks++[key]) (by simp) (by simp)];by_cases h0:is=[]
 ·subst h0;obtain rfl:ks=[]:=YL.1 hik.symm;exact dqb key x hx h
 ·have hk:ks≠[]:=fun e=>h0 (YL.1 (by rw[hik,e];rfl))
  rw[<-hV is ks h0 hk];exact cyu is ks key x h0 hik hf hx hl hn h
theorem axf(is:List V):(mapI is).one=true/\(mapI is).data=true:=by unfold mapI;split<;>exact⟨rfl,rfl⟩
theorem axd(ks:List (List UInt8)):(mapK ks).one=true/\(mapK ks).data=true:=by unfold mapK;split<;>exact⟨rfl,rfl⟩
theorem awb(is:List V)(ks:List (List UInt8)):leL [.int .i64 5,.int .i64 0,.str [],mapI is,mapK ks] [.int .i64 5,.int .i64 0,.str [],.sl 5 .no (V.cellss is),.sl 1 .no (strsA ks)]:=by
 refine⟨aze _,aze _,aze _,?_,?_,trivial⟩
 ·unfold mapI;split
  ·next h=>subst h;rw[V.cellss];exact⟨rfl,.inr rfl,.inl rfl⟩
  ·exact aze _
 ·unfold mapK;split
  ·next h=>subst h;exact⟨rfl,.inr rfl,.inl rfl⟩
  ·exact aze _
def outsV(os:List Sf.Outp):V:=.mk 5 0 [] (os.map (·.value)) (os.map (·.name))
structure OutsOk(os:List Sf.Outp):Prop where
 srt:os.Pairwise fun x y=>bytesLess x.name y.name=true
 few:∀o∈os,o.value.few
 len:os.length<=1000
theorem akv:∀l:List V,(∀v∈l,v.few)->V.fews l
 |[],_=>by unfold V.fews;trivial
 |v::l,h=>by unfold V.fews;exact⟨h v Yq,akv l fun x hx=>h x (ZV _ hx)⟩
theorem bvs{is:List V}{ks:List (List UInt8)}(h1:is.length<=2000000)(h2:ks.length<=2000000)(h3:∀v∈is,v.few):(V.mk 5 0 [] is ks).few:=by
 unfold V.few;exact⟨h1,h2,akv is h3⟩
theorem bx9{os:List Sf.Outp}(ok:OutsOk os):(outsV os).few:=by
 have:=ok.len;exact bvs (by rw[Zh];omega) (by rw[Zh];omega) fun v hv=>by
  obtain⟨o,ho,rfl⟩:=ZW.1 hv;exact ok.few o ho
theorem byw(st:Sf.St)(ok:OutsOk st.outs)(h:Hp):AT 42 [st.A] h ((outsV st.outs).A):=by
 obtain⟨lin,ser,ins,ps,os⟩:=st;dsimp only at ok⊢;have hVA:(outsV os).A=.agg [.int .i64 5,.int .i64 0,.str [],.sl 5 .no (V.cellss (os.map (·.value))),.sl 1 .no (strsA (os.map (·.name)))]:=by simp only[outsV,V.A,V.cells]
 rw[hVA];simp only[Sf.St.A];refine pcall ?_ rfl (by simp[A.pure,A.data]) h;have lo:(os.map Sf.Outp.cells).length=os.length:=Zh _;have hlen:=ok.len;refine fo ?_;refine azj lo ti ?_
 refine azg (fun m ts hh=>∃(j:Nat) (L:List Blk),m=os.length-j/\j<=os.length/\hh=⟨.cells 42 [.str lin,.int .i64 ser,.sl 13 .no (ins.map Sf.Inst.cells),.sl 3 .no (ps.map Sf.Pend.cells),.sl 7 .no (os.map Sf.Outp.cells)] :: .cells 51 [.int .i64 0,.int .i64 0,.str [],.sl 0 .nil [],.sl 0 .nil []] :: .cells 51 [.int .i64 5,.int .i64 0,.str [],mapI ((os.take j).map (·.value)),mapK ((os.take j).map (·.name))]::L,[]⟩ /\
  (ts 1=.ptr 0 0/\ts 2=.ptr 1 0/\ts 3=.ptr 2 0/\ts 8=.sl 7 .no (os.map Sf.Outp.cells)/\ts 9=.int .i64 (os.length:Nat)/\ts 10=.int .i64 (j:Nat))) os.length ?_ ?_
 ·exact⟨0,[],rfl,ZB _,rfl,by(exact azv lo)⟩
 rintro m ts hh ⟨j,L,rfl,hj,rfl,ht⟩;rcases Z0 j os.length with hlt|hge
 ·have hf:=az6 Sf.Outp.cells os j hlt (by omega);have et:os.take (j+1)=os.take j++[os[j]]:=(List.take_append_getElem hlt).symm
  have cp:=cym ((os.take j).map (·.value)) ((os.take j).map (·.name)) os[j].name os[j].value (by rw[Zh,Zh]) (bvs (by rw[Zh,Zk];omega) (by rw[Zh,Zk];omega) fun v hv=>by
   obtain⟨o,ho,rfl⟩:=ZW.1 hv
   exact ok.few o (List.mem_of_mem_take ho)) (ok.few _ (Zl hlt)) (fun s hs=>by
   obtain⟨o,ho,rfl⟩:=ZW.1 hs;obtain⟨i,hi,rfl⟩:=List.mem_take_iff_getElem.1 ho
   exact List.pairwise_iff_getElem.1 ok.srt i j (by omega) hlt (by omega)) (by rw[Zh,Zk];omega)
  have ev:(os.take j).map (·.value)++[os[j].value]=(os.take (j+1)).map (·.value):=by rw[et,Z6];rfl
  have en:(os.take j).map (·.name)++[os[j].name]=(os.take (j+1)).map (·.name):=by rw[et,Z6];rfl
  rw[ev,en]at cp;clear et ev en;obtain⟨o,ho⟩:=Ex (os[j]);rw[ho]at hf cp;clear ho;have i1:=(axf ((os.take (j+1)).map (·.value))).1;have k1:=(axd ((os.take (j+1)).map (·.name))).1;obtain⟨I,hI⟩:=Ex (mapI ((os.take j).map (·.value)));obtain⟨K,hK⟩:=Ex (mapK ((os.take j).map (·.name)));obtain⟨I',hI'⟩:=Ex (mapI ((os.take (j+1)).map (·.value)));obtain⟨K',hK'⟩:=Ex (mapK ((os.take (j+1)).map (·.name)));rw[hI,hK,hI',hK']at cp;rw[hI']at i1;rw[hK']at k1;rw[hI,hK];simp only[A.one]at i1 k1;obtain⟨nm,v,sn⟩:=o;obtain⟨k,n,s,is,ks⟩:=v;simp only[Sf.Outp.cells,V.A,V.cells,ZE,Zq]at hf cp
  try dsimp only at cp
  refine azj (ai ht (ai hf (ai i1 k1))) (ai cp ti) ?_;exact⟨_,by omega,j+1,L++[.cells 55 [.str nm,.int .i64 k,.int .i64 n,.str s,.sl 5 .no (V.cellss is),.sl 1 .no (strsA ks),.bool sn]],rfl,by omega,by rw[hI',hK'],by(exact azv (ai ht hf))⟩
 ·have hf:=aqk Sf.Outp.cells os j hge;rw[Zy hge];have i1:=(axf (os.map (·.value))).1;have k1:=(axd (os.map (·.name))).1;have hle:=awb (os.map (·.value)) (os.map (·.name));obtain⟨I,hI⟩:=Ex (mapI (os.map (·.value)));obtain⟨K,hK⟩:=Ex (mapK (os.map (·.name)));rw[hI,hK]at hle⊢;rw[hI]at i1;rw[hK]at k1;simp only[A.one]at i1 k1;refine azj (ai ht (ai hf (ai i1 k1))) ti ?_;refine⟨.agg [.int .i64 5,.int .i64 0,.str [],.sl 5 .no (V.cellss (os.map (·.value))),.sl 1 .no (strsA (os.map (·.name)))],?_,rfl⟩;rw[azk];exact hle
def stOf(e:Ent):Sf.St:=(e.s.at' e.s.latest).1
structure EntOk(e:Ent):Prop where
 rd:e.s.at' e.s.latest=(stOf e,0)
 kl:e.s.key.length<=1000000000
 hb:∀b,lfind e.s.latest e.s.es=some b->b.length<=1048600
 outs:OutsOk (stOf e).outs
def remL(W:List Ent)(ex:List UInt8):List Ent:=W.filter fun e=>!(e.name==ex)
def nmR(W:List Ent):List (List UInt8):=W.map fun e=>e.name
def vlR(W:List Ent):List V:=W.map fun e=>outsV (stOf e).outs
def remV(W:List Ent)(ex:List UInt8):V:=.mk 5 0 [] (vlR (remL W ex)) (nmR (remL W ex))
theorem aqm(W:List Ent)(ex:List UInt8):(remL W ex).Sublist W:=List.filter_sublist
theorem bvd(W:List Ent)(e:Ent)(ex:List UInt8):remL (W++[e]) ex=if e.name==ex then remL W ex else remL W ex++[e]:=by
 unfold remL;rw[List.filter_append];cases h:(e.name==ex)with
 |true=>rw[if_pos rfl];simp[h]
 |false=>rw[if_neg (by decide)];simp[h]
def remA(W:List Ent)(ex:List UInt8):A:=if Val.checkZ (remV W ex)=0 then .tup [(remV W ex).A,.int .i64 0]else .tup [(V.mk 0 0 [] [] []).A,.int .i64 (Val.checkZ (remV W ex))]
theorem bx1{h:Hp}{i:Nat}{key:List UInt8}{sp:A}{W:List Ent}(w:WsAt h.b i key sp W)(ok:∀e∈W,EntOk e)(ex:List UInt8)(hlens:(remV W ex).lens):
  AC 17 [.ptr i 0,.str ex] h fun v h'=>v=remA W ex/\∃L,h'=⟨h.b++L,h.t⟩:=by
 have cr:=axe w.set;have hb:=w.set;have hlen:=w.len;unfold setC at hb;have cC:=aku (remV W ex) hlens;clear hlens;obtain⟨b,t⟩:=h;dsimp only at w cr hb⊢;have hi0:=get_lt hb;have f1:∀x:Blk,(b++[x])[i]?=some (.cells 72 [.str key,.bool true,sp]):=fun x=>azc hb _
 have f2:∀x y:Blk,(b++[x]++[y])[i]?=some (.cells 72 [.str key,.bool true,sp]):=fun x y=>azc (f1 x) _
 have crB:=fun x=>axe (h:=⟨b++[x],t⟩) (i:=i) (key:=key) (sp:=sp) (azc w.set _)
 refine fo ?_;have vA:(remV W ex).A=.agg [.int .i64 5,.int .i64 0,.str [],.sl 5 .no (V.cellss (vlR (remL W ex))),.sl 1 .no (strsA (nmR (remL W ex)))]:=by simp only[remV,V.A,V.cells]
 have cC':∀h,AT 19 [.agg [.int .i64 5,.int .i64 0,.str [],mapI (vlR (remL W ex)),mapK (nmR (remL W ex))]] h (.int .i64 (Val.checkZ (remV W ex))):=fun h=>by
  rw[vA]at cC;exact ACall.args (as':=[.agg [.int .i64 5,.int .i64 0,.str [],.sl 5 .no (V.cellss (vlR (remL W ex))),.sl 1 .no (strsA (nmR (remL W ex)))]]) ⟨awb _ _,trivial⟩ (cC h)
 clear cC;unfold remA;rw[vA];have hle:=awb (vlR (remL W ex)) (nmR (remL W ex));have i1:=(axf (vlR (remL W ex))).1;have k1:=(axd (nmR (remL W ex))).1;obtain⟨Z,hZ⟩:=Ex (Val.checkZ (remV W ex));rw[hZ]at cC'⊢;have sp0:=w.sp;have hst:=fun e (he:e∈W)=>w.st he
 clear vA hZ;refine go0 ti ?_;refine gc0 ti ?_;refine(crB _).mono ?_;rintro v h' ⟨rfl,rfl⟩;have pre:∀(B:List Blk) (L:List Blk),B=b++L->∀j x,b[j]?=some x->B[j]?=some x:=fun B L e j x h=>by rw[e];exact azc h L
 revert f1 f2 hb;cases sp0 with
 |nil=>
  intro hb f1 f2;have eI:mapI (vlR (remL [] ex))=.sl 0 .nil []:=rfl;have eK:mapK (nmR (remL [] ex))=.sl 0 .nil []:=rfl;rw[eI,eK]at hle cC';have z0:¬(0:Int)<((0:Nat):Int):=by decide
  refine go0 (ai f1 f2) ?_;refine ajx ?_;by_cases hz:Z=0
  ·subst hz;rw[if_pos rfl];refine azj z0 (ai cC' ti) ?_;refine⟨_,?_,rfl,_,by rw[Zi]⟩;exact⟨hle,az3 _,trivial⟩
  ·have hzb:(Z !=0)=true:=by simp[hz]
   rw[if_neg hz];refine azj (ai z0 hzb) (ai cC' ti) ?_;exact⟨.tup [(V.mk 0 0 [] [] []).A,.int .i64 Z],⟨⟨aze _,aze _,aze _,⟨rfl,.inr rfl,.inl rfl⟩,⟨rfl,.inr rfl,.inl rfl⟩,trivial⟩,az3 _,trivial⟩,rfl,_,by rw[Zi]⟩
 |@row k _ hk=>
  intro hb f1 f2;have hrow:=avz W;have lF:=ajl W;obtain⟨F,hF⟩:=Ex (rowW W);rw[hF]at hrow hk lF;refine go0 f2 ?_
  refine azg (fun m ts hh=>∃(j:Nat) (B L:List Blk),m=W.length-j/\j<=W.length/\hh=⟨B,t⟩/\B=b++L/\B[b.length]?=some (.cells 51 [.int .i64 0,.int .i64 0,.str [],.sl 0 .nil [],.sl 0 .nil []]) /\
   B[b.length+1]?=some (.cells 51 [.int .i64 5,.int .i64 0,.str [],mapI (vlR (remL (W.take j) ex)),mapK (nmR (remL (W.take j) ex))]) /\
   (ts 1=.str ex/\ts 4=.ptr b.length 0/\ts 6=.ptr (b.length+1) 0/\ts 20=.bs k 2 W.length/\ts 21=.int .i64 (W.length:Nat)/\ts 22=.int .i64 (j:Nat))) W.length ?_ ?_
  ·refine⟨0,_,_,rfl,ZB _,rfl,Zi _ _ _,?_,?_,by(exact azv (ai f1 f2))⟩
   ·exact azc (aqj rfl) _
   ·exact aqj (by rw[Za];rfl)
  clear f1 f2 crB cr;rintro m ts hh ⟨j,B,L,rfl,hj,rfl,hBL,r0,o0,ht⟩;have hkB:=pre B L hBL k _ hk;rcases Z0 j W.length with hlt|hge;rotate_left
  ·have hf:¬(j:Int)<(W.length:Int):=by omega
   rw[Zy hge]at o0;obtain⟨I,hI⟩:=Ex (mapI (vlR (remL W ex)));obtain⟨K,hK⟩:=Ex (mapK (nmR (remL W ex)));rw[hI,hK]at hle o0 cC';rw[hI]at i1;rw[hK]at k1;simp only[A.one]at i1 k1;have hn1:b.length<B.length:=get_lt r0;obtain⟨B1,hB1⟩:=Ex (B.set b.length (.cells 51 [.int .i64 5,.int .i64 0,.str [],I,K]));have b1:B1[b.length]?=some (.cells 51 [.int .i64 5,.int .i64 0,.str [],I,K]):=by rw[<-hB1];exact axz r0
   have e1:∃L,B1=b++L:=⟨L.set 0 (.cells 51 [.int .i64 5,.int .i64 0,.str [],I,K]),by rw[<-hB1,hBL,List.set_append_right _ _ (Ze _),Nat.sub_self]⟩;obtain⟨L1,hL1⟩:=e1;by_cases hz:Z=0
   ·subst hz;rw[if_pos rfl];refine azj (ai ht (ai hf (ai r0 (ai o0 (ai i1 (ai k1 (ai hB1 b1))))))) (ai cC' ti) ?_;refine⟨_,?_,rfl,L1,by rw[hL1]⟩;exact⟨hle,az3 _,trivial⟩
   ·have hzb:(Z !=0)=true:=by simp[hz]
    rw[if_neg hz];obtain⟨B2,hB2⟩:=Ex (B.set b.length (.cells 51 [.int .i64 0,.int .i64 0,.str [],.sl 0 .nil [],.sl 0 .nil []]));have b2:B2[b.length]?=some (.cells 51 [.int .i64 0,.int .i64 0,.str [],.sl 0 .nil [],.sl 0 .nil []]):=by rw[<-hB2];exact axz r0
    refine azj (ai ht (ai hf (ai r0 (ai o0 (ai i1 (ai k1 (ai hzb (ai hB2 b2)))))))) (ai cC' ti) ?_;refine⟨.tup [(V.mk 0 0 [] [] []).A,.int .i64 Z],⟨⟨aze _,aze _,aze _,⟨rfl,.inr rfl,.inl rfl⟩,⟨rfl,.inr rfl,.inl rfl⟩,trivial⟩,az3 _,trivial⟩,rfl,L.set 0 (.cells 51 [.int .i64 0,.int .i64 0,.str [],.sl 0 .nil [],.sl 0 .nil []]),?_⟩;rw[<-hB2,hBL,List.set_append_right _ _ (Ze _),Nat.sub_self]
  ·have hz:(0:Int)<=(j:Int)/\(j:Int)<(W.length:Int):=by omega
   have wj:IntKind.i64.wrap ((j:Int)+1)=((j+1:Nat):Int):=by rw[wrap64 (by omega) (by omega)];omega
   obtain⟨g1,g2,_⟩:=hrow j hlt;have hem:=Zl hlt;have et:W.take (j+1)=W.take j++[W[j]]:=(List.take_append_getElem hlt).symm;have es:=bvd (W.take j) W[j] ex;rw[<-et]at es;have hs:=(hst _ hem).more L;rw[<-hBL]at hs;have eok:=ok _ hem;have hnb:b.length<B.length:=get_lt r0;have srt:=w.srt
   have cP:=cym (vlR (remL (W.take j) ex)) (nmR (remL (W.take j) ex)) W[j].name (outsV (stOf W[j]).outs) (by unfold vlR nmR;rw[Zh,Zh]) (bvs (by
     have:=(aqm (W.take j) ex).length_le
     unfold vlR;rw[Zh];rw[Zk]at this;omega) (by
     have:=(aqm (W.take j) ex).length_le
     unfold nmR;rw[Zh];rw[Zk]at this;omega) fun v hv=>by
    obtain⟨e,he,rfl⟩:=ZW.1 hv
    exact bx9 (ok e (List.mem_of_mem_take ((aqm _ _).mem he))).outs) (bx9 eok.outs) (fun s hs=>by
    obtain⟨e,he,rfl⟩:=ZW.1 hs;obtain⟨i,hi,rfl⟩:=List.mem_take_iff_getElem.1 ((aqm _ _).mem he)
    exact(Sf.cmpZ_lt _ _).1 (List.pairwise_iff_getElem.1 srt i j (by omega) hlt (by omega))) (by
     have:=(aqm (W.take j) ex).length_le
     unfold nmR;rw[Zh];rw[Zk]at this;omega)
   have e1:vlR (remL (W.take j) ex)++[outsV (stOf W[j]).outs]=vlR (remL (W.take j) ex++[W[j]]):=by unfold vlR;rw[Z6];rfl
   have e2:nmR (remL (W.take j) ex)++[W[j].name]=nmR (remL (W.take j) ex++[W[j]]):=by unfold nmR;rw[Z6];rfl
   rw[e1,e2]at cP;clear e1 e2;obtain⟨e,he⟩:=Ex (W[j]);rw[he]at g2 es hs eok cP;clear he hst ok et hrow srt;obtain⟨B1,hB1⟩:=Ex (B++[.cells 78 [.str e.name,.ptr e.p 0]]);have l1:B1.length=B.length+1:=by rw[<-hB1,Za];rfl
   have r1:B1[b.length]?=some (.cells 51 [.int .i64 0,.int .i64 0,.str [],.sl 0 .nil [],.sl 0 .nil []]):=by rw[<-hB1];exact azc r0 _
   have o1:B1[b.length+1]?=some (.cells 51 [.int .i64 5,.int .i64 0,.str [],mapI (vlR (remL (W.take j) ex)),mapK (nmR (remL (W.take j) ex))]):=by rw[<-hB1];exact azc o0 _
   have x1:B1[B.length]?=some (.cells 78 [.str e.name,.ptr e.p 0]):=by rw[<-hB1];exact aqj rfl
   have hs1:StAt B1 e.p e.m e.s:=by rw[<-hB1];exact hs.more _
   have b1:B1=b++(L++[.cells 78 [.str e.name,.ptr e.p 0]]):=by rw[<-hB1,hBL,Zi]
   cases hne:(e.name==ex)with
   |true=>
    rw[hne,if_pos rfl]at es;refine azj (ai ht (ai hkB (ai hz (ai g1 (ai g2 (ai hB1 (ai x1 (ai hne wj)))))))) ti ?_;exact⟨_,by omega,j+1,B1,_,rfl,by omega,rfl,b1,r1,by rw[es];exact o1,by(exact azv (ai ht wj))⟩
   |false=>
    rw[hne,if_neg (by decide)]at es;have cR:=bws (h:=⟨B1,t⟩) hs1 eok.kl eok.hb;rw[eok.rd]at cR;have cO:=byw (stOf e) eok.outs;obtain⟨⟨lin,ser,ins,ps,os⟩,hst⟩:=Ex (stOf e);rw[hst]at cR cO cP;simp only[Sf.St.A]at cR cO;dsimp only at cO cP;have vO:(outsV os).A=.agg [.int .i64 5,.int .i64 0,.str [],.sl 5 .no (V.cellss (os.map (·.value))),.sl 1 .no (strsA (os.map (·.name)))]:=by simp only[outsV,V.A,V.cells]
    rw[vO]at cO cP;obtain⟨B2,hB2⟩:=Ex (B1++[.cells 42 [.str lin,.int .i64 ser,.sl 13 .no (ins.map Sf.Inst.cells),.sl 3 .no (ps.map Sf.Pend.cells),.sl 7 .no (os.map Sf.Outp.cells)]]);have r2:B2[b.length]?=some (.cells 51 [.int .i64 0,.int .i64 0,.str [],.sl 0 .nil [],.sl 0 .nil []]):=by rw[<-hB2];exact azc r1 _
    have o2:B2[b.length+1]?=some (.cells 51 [.int .i64 5,.int .i64 0,.str [],mapI (vlR (remL (W.take j) ex)),mapK (nmR (remL (W.take j) ex))]):=by rw[<-hB2];exact azc o1 _
    have x2:B2[B.length]?=some (.cells 78 [.str e.name,.ptr e.p 0]):=by rw[<-hB2];exact azc x1 _
    have y2:B2[B1.length]?=some (.cells 42 [.str lin,.int .i64 ser,.sl 13 .no (ins.map Sf.Inst.cells),.sl 3 .no (ps.map Sf.Pend.cells),.sl 7 .no (os.map Sf.Outp.cells)]):=by rw[<-hB2];exact aqj rfl
    have i1':=(axf (vlR (remL (W.take j) ex++[e]))).1;have k1':=(axd (nmR (remL (W.take j) ex++[e]))).1;obtain⟨I,hI⟩:=Ex (mapI (vlR (remL (W.take j) ex)));obtain⟨K,hK⟩:=Ex (mapK (nmR (remL (W.take j) ex)));obtain⟨I',hI'⟩:=Ex (mapI (vlR (remL (W.take j) ex++[e])));obtain⟨K',hK'⟩:=Ex (mapK (nmR (remL (W.take j) ex++[e])));rw[hI,hK,hI',hK']at cP;rw[hI,hK]at o2;rw[hI']at i1';rw[hK']at k1';simp only[A.one]at i1' k1';obtain⟨B3,hB3⟩:=Ex (B2.set (b.length+1) (.cells 51 [.int .i64 5,.int .i64 0,.str [],I',K']));have r3:B3[b.length]?=some (.cells 51 [.int .i64 0,.int .i64 0,.str [],.sl 0 .nil [],.sl 0 .nil []]):=by rw[<-hB3];exact(azt (by omega)).trans r2
    have o3:B3[b.length+1]?=some (.cells 51 [.int .i64 5,.int .i64 0,.str [],I',K']):=by rw[<-hB3];exact axz o2
    have b3:∃L',B3=b++L':=by
     rw[<-hB3,<-hB2,b1,Zi,List.set_append_right _ _ (by omega)];exact⟨_,rfl⟩
    obtain⟨L3,b3⟩:=b3;clear r1 o1 o0 r0 hs hs1 eok hI hK pre;refine azj (ai ht (ai hkB (ai hz (ai g1 (ai g2 (ai hB1 (ai x1 (ai hne (ai wj (ai hB2 (ai o2 (ai x2 y2)))))))))))) (ai cR ti) ?_;refine use (cO _) ?_ (hm:=⟨fun e=>absurd e (by decide),fun _=>bvp (ai ht (ai o2 x2))⟩);refine azj (ai ht (ai hkB (ai hz (ai g1 (ai g2 (ai x1 (ai wj (ai o2 (ai x2 (ai y2 hB3)))))))))) ti ?_;refine use (cP _) ?_ (hm:=⟨fun e=>absurd e (by decide),fun _=>bvp (ai ht (ai o2 x2))⟩);refine azj (ai ht (ai wj (ai o2 (ai x2 (ai y2 (ai i1' (ai k1' hB3))))))) ti ?_;exact⟨_,by omega,j+1,B3,L3,rfl,by omega,rfl,b3,r3,by rw[es,hI',hK'];exact o3,by(exact azv (ai ht wj))⟩
end AX
end
section
namespace Sf
def rd(l:List UInt8):Rs:=⟨⟨l,0⟩,false⟩
theorem rd_ok(l:List UInt8):(rd l).fails=false:=rfl
theorem num_enc(n:Int)(l:List UInt8)(h0:-9223372036854775808<=n)(h1:n<=9223372036854775807):numS (rd (Wire.num n++l))=(rd l,n):=by
 unfold numS rd;rw[Val.numR_enc n l h0 h1]
theorem str_enc(s l:List UInt8)(h:s.length<=9223372036854775807):strS (rd (Wire.strE s++l))=(rd l,s):=by
 unfold strS rd;rw[Val.strR_enc s l h]
theorem cnt_enc(n:Nat)(l:List UInt8)(h:n<=l.length)(h1:n<=9223372036854775807):cntS (rd (Wire.num n++l))=(rd l,n):=by
 unfold cntS rd;rw[Val.cntR_enc n l h h1]
theorem flag_enc(b:Bool)(l:List UInt8):flagS (rd (flagE b++l))=(rd l,b):=by
 unfold flagS rd flagE;cases b
 ·rw[if_neg (by decide),Val.numR_enc 0 l (by decide) (by decide)];rfl
 ·rw[if_pos rfl,Val.numR_enc 1 l (by decide) (by decide)];rfl
theorem value_enc(v:V)(l:List UInt8)(h:Val.checkZ v=0):valueS (rd (Val.enc v++l))=(rd l,v):=by
 unfold valueS rd;rw[Val.value_back v l h];rfl
theorem words_enc:∀(ws acc:List (List UInt8)) (l:List UInt8),(∀w∈ws,w.length<=2000000)->wordsS ws.length (rd (wordsE ws++l)) acc=(rd l,acc++ws)
 |[],acc,l,h=>by simp[wordsS,wordsE]
 |w::ws,acc,l,h=>by
  have e:wordsE (w::ws)++l=Wire.strE w++(wordsE ws++l):=by simp[wordsE,Zi]
  show wordsS ws.length (strS (rd (wordsE (w::ws)++l))).1 (acc++[(strS (rd (wordsE (w::ws)++l))).2])=_
  rw[e,str_enc _ _ (by have:=h w Yq;omega)];rw[words_enc ws _ l fun x hx=>h x (ZV _ hx)];simp
theorem strE_pos(s:List UInt8):1<=(Wire.strE s).length:=by
 have:=Val.num_len s.length;unfold Wire.strE;rw[Za];omega
theorem flat_len{α:Type}(f:α->List UInt8)(hf:∀x,1<=(f x).length):∀l:List α,l.length<=(l.flatMap f).length
 |[]=>by simp
 |x::l=>by
  have:=hf x;have:=flat_len f hf l;rw[YP,Za,Zf];omega
def oldI(ver:Int)(x:Inst):Inst:=if ver=2 then x else { x with first:=false }
theorem inst_enc(ver:Int)(x:Inst)(l:List UInt8)(hx:AX.Sf.InstIn x)(ht:x.typ.length<=2000000)(hz:instZ x=0):instS ver (rd (instE ver x++l))=(rd l,oldI ver x):=by
 obtain⟨h1,h2,h3⟩:=inst_zero hz;obtain⟨ad,dep,id,typ,at',v,ta,fi,ds⟩:=x;have ha:=hx.a;have hd:=hx.d;have hi:=hx.i;have hn:=hx.n;have hs:=hx.ds;dsimp only at h1 h2 h3 ha hd hi hn hs ht;have e:instE ver ⟨ad,dep,id,typ,at',v,ta,fi,ds⟩++l=Wire.strE ad++(Wire.strE dep++(Wire.strE id++(Wire.strE typ++(Val.enc at'++(Wire.num v++(flagE ta++((if ver=2 then flagE fi else[])++(Wire.num ds.length++(wordsE ds++l))))))))):=by
  unfold instE;simp only[Zi]
 have hc:ds.length<=(wordsE ds++l).length:=by
  have:=flat_len Wire.strE strE_pos ds;unfold wordsE;rw[Za];omega
 rw[e];unfold instS;dsimp only;rw[str_enc ad _ (by omega)];dsimp only;rw[str_enc dep _ (by omega)];dsimp only;rw[str_enc id _ (by omega)];dsimp only;rw[str_enc typ _ (by omega)];dsimp only;rw[value_enc at' _ h1];dsimp only;rw[num_enc v _ (by omega) (by omega)];dsimp only;rw[flag_enc ta];dsimp only;by_cases hv:ver=2
 ·subst hv;simp only[if_true];rw[flag_enc fi];dsimp only;rw[cnt_enc _ _ hc (by omega)];dsimp only;rw[words_enc ds [] l hs];simp[oldI]
 ·simp only[if_neg hv,Zq];rw[cnt_enc _ _ hc (by omega)];dsimp only;rw[words_enc ds [] l hs];simp[oldI,hv]
theorem pend_enc(p:Pend)(l:List UInt8)(ha:p.addr.length<=2000000)(ht:p.typ.length<=2000000)(hk:p.tok.length<=2000000):pendS (rd (pendE p++l))=(rd l,p):=by
 obtain⟨a,t,k⟩:=p;dsimp only at ha ht hk;have e:pendE ⟨a,t,k⟩++l=Wire.strE a++(Wire.strE t++(Wire.strE k++l)):=by unfold pendE;simp only[Zi]
 rw[e];unfold pendS;dsimp only;rw[str_enc a _ (by omega)];dsimp only;rw[str_enc t _ (by omega)];dsimp only;rw[str_enc k _ (by omega)]
theorem out_enc(o:Outp)(l:List UInt8)(hn:o.name.length<=2000000)(hz:outZ o=0):outS (rd (outE o++l))=(rd l,o):=by
 have h1:=out_zero hz;obtain⟨n,v,b⟩:=o;dsimp only at hn h1;have e:outE ⟨n,v,b⟩++l=Wire.strE n++(Val.enc v++(flagE b++l)):=by unfold outE;simp only[Zi]
 rw[e];unfold outS;dsimp only;rw[str_enc n _ (by omega)];dsimp only;rw[value_enc v _ h1];dsimp only;rw[flag_enc b]
theorem insts_enc(ver:Int):∀(xs acc:List Inst) (l:List UInt8),(∀x∈xs,AX.Sf.InstIn x/\x.typ.length<=2000000/\instZ x=0)->instsS ver xs.length (rd (xs.flatMap (instE ver)++l)) acc=(rd l,acc++xs.map (oldI ver),true)
 |[],acc,l,h=>by simp[instsS]
 |x::xs,acc,l,h=>by
  obtain⟨h1,h2,h3⟩:=h x Yq;rw[Zf,YP,Zi];unfold instsS;rw[if_neg (by rw[rd_ok];decide),inst_enc ver x _ h1 h2 h3];dsimp only;rw[insts_enc ver xs _ l fun y hy=>h y (ZV _ hy)];simp
theorem pends_enc:∀(xs acc:List Pend) (l:List UInt8),(∀x∈xs,x.addr.length<=2000000/\x.typ.length<=2000000/\x.tok.length<=2000000)->pendsS xs.length (rd (xs.flatMap pendE++l)) acc=(rd l,acc++xs)
 |[],acc,l,h=>by simp[pendsS]
 |x::xs,acc,l,h=>by
  obtain⟨h1,h2,h3⟩:=h x Yq;rw[Zf,YP,Zi];unfold pendsS;rw[pend_enc x _ h1 h2 h3];dsimp only;rw[pends_enc xs _ l fun y hy=>h y (ZV _ hy)];simp
theorem outs_enc:∀(xs acc:List Outp) (l:List UInt8),(∀x∈xs,x.name.length<=2000000/\outZ x=0)->outsS xs.length (rd (xs.flatMap outE++l)) acc=(rd l,acc++xs,true)
 |[],acc,l,h=>by simp[outsS]
 |x::xs,acc,l,h=>by
  obtain⟨h1,h2⟩:=h x Yq;rw[Zf,YP,Zi];unfold outsS;rw[if_neg (by rw[rd_ok];decide),out_enc x _ h1 h2];dsimp only;rw[outs_enc xs _ l fun y hy=>h y (ZV _ hy)];simp
theorem instE_pos(ver:Int)(x:Inst):1<=(instE ver x).length:=by
 have:=strE_pos x.addr;unfold instE;simp only[Za];omega
theorem pendE_pos(x:Pend):1<=(pendE x).length:=by
 have:=strE_pos x.addr;unfold pendE;simp only[Za];omega
theorem outE_pos(x:Outp):1<=(outE x).length:=by
 have:=strE_pos x.name;unfold outE;simp only[Za];omega
structure TypIn(s:St):Prop where
 insts:∀x∈s.insts,x.typ.length<=2000000
 pends:∀x∈s.pends,x.typ.length<=2000000
def oldS(ver:Int)(s:St):St:=if ver=2 then s else { s with insts:=s.insts.map (oldI ver),pends:=[] }
theorem oldI_two:oldI 2=id:=by funext x;simp[oldI]
theorem state_enc(ver:Int)(s:St)(l:List UInt8)(hz:checkZ s=0)(hin:AX.Sf.StIn s)(ht:TypIn s):stateS ver (rd (restE ver s++l))=(rd l,oldS ver s):=by
 obtain⟨h1,h2,h3,h4,h5,h6,h7,h8⟩:=check_parts hz;obtain⟨lin,ser,ins,ps,os⟩:=s;have hl:=hin.lin;have hi:=hin.insts;have hp:=hin.pends;have ho:=hin.outs;have ti:=ht.insts;have tp:=ht.pends;dsimp only at h1 h2 h3 h4 h5 h6 h7 h8 hl hi hp ho ti tp;have e:restE ver ⟨lin,ser,ins,ps,os⟩++l=Wire.strE lin++(Wire.num ser++(Wire.num ins.length++(ins.flatMap (instE ver)++((if ver=2 then Wire.num ps.length++ps.flatMap pendE else[])++(Wire.num os.length++(os.flatMap outE++l)))))):=by
  unfold restE;simp only[Zi]
 have li:=flat_len (instE ver) (instE_pos ver) ins;have lp:=flat_len pendE pendE_pos ps;have lo:=flat_len outE outE_pos os;rw[e];unfold stateS;dsimp only;rw[str_enc lin _ (by omega)];dsimp only;rw[num_enc ser _ (by omega) (by omega)];dsimp only;rw[cnt_enc ins.length _ (by rw[Za];omega) (by omega)];dsimp only;rw[insts_enc ver ins [] _ fun x hx=>⟨hi x hx,ti x hx,insts_zero _ _ h6 x hx⟩];dsimp only;rw[if_neg (by decide)];by_cases hv:ver=2
 ·subst hv;simp only[if_true,Zi];rw[cnt_enc ps.length _ (by rw[Za];omega) (by omega)];dsimp only;rw[pends_enc ps [] _ fun x hx=>⟨(hp x hx).1,tp x hx,(hp x hx).2⟩];dsimp only;rw[cnt_enc os.length _ (by rw[Za];omega) (by omega)];dsimp only;rw[outs_enc os [] l fun x hx=>⟨(ho x hx).1,outs_zero _ _ h8 x hx⟩];simp[oldS,oldI_two]
 ·simp only[if_neg hv,Zq];rw[cnt_enc os.length _ (by rw[Za];omega) (by omega)];dsimp only;have:=outs_enc os [] l fun x hx=>⟨(ho x hx).1,outs_zero _ _ h8 x hx⟩
  rw[this];simp[oldS,hv]
theorem instsZ_old(ver:Int):∀(l:List Inst) (p:Option Inst),instsZ (p.map (oldI ver)) (l.map (oldI ver))=instsZ p l
 |[],p=>by cases p<;>rfl
 |x::l,p=>by
  have hx:instZ (oldI ver x)=instZ x:=by unfold oldI;split<;>rfl
  have hb:∀y,behind (oldI ver y) (oldI ver x)=behind y x:=fun y=>by unfold oldI;split<;>rfl
  have ih:=instsZ_old ver l (some x);rw[ZM];unfold instsZ;rw[hx,show instsZ (some (oldI ver x)) (l.map (oldI ver))=instsZ (some x) l from ih];cases p with
  |none=>rfl
  |some y=>simp only[ZY,hb]
theorem check_old(ver:Int)(s:St)(hz:checkZ s=0):checkZ (oldS ver s)=0:=by
 unfold oldS;split
 ·exact hz
 ·obtain⟨lin,ser,ins,ps,os⟩:=s;obtain⟨h1,h2,h3,h4,h5,h6,h7,h8⟩:=check_parts hz;have ht:text lin=true:=by
   cases h:text lin with
   |true=>rfl
   |false=>unfold checkZ at hz;simp[h]at hz
  dsimp only at h1 h2 h3 h4 h5 h6 h7 h8;have e:=instsZ_old ver ins none;rw[h6]at e;have e':instsZ none (ins.map (oldI ver))=0:=e;unfold checkZ;simp only[ht,e',h8,pendsZ,Zh,Zo];rw[if_neg (by decide),if_neg (by omega),if_neg (by omega)];simp
theorem decode_enc(ver:Int)(hv:ver=1\/ver=2)(s:St)(hz:checkZ s=0)(hin:AX.Sf.StIn s)(ht:TypIn s)(hl:(stE ver s).length<=1048572):encode ver s=(Crc.app (stE ver s),0)/\decode (Crc.app (stE ver s))=(oldS ver s,0):=by
 refine⟨by unfold encode;rw[if_neg (by simp[hz]),if_neg (by omega)],?_⟩;have happ:Crc.app (stE ver s)=stE ver s++(Crc.app (stE ver s)).drop (stE ver s).length:=by
  unfold Crc.app;simp
 have hlen:(Crc.app (stE ver s)).length=(stE ver s).length+4:=by
  unfold Crc.app;simp[Crc.four_length]
 have hm:∀t:List UInt8,AX.preB (stE ver s++t)=true:=fun t=>by
  rw[stE_rest];unfold AX.preB;simp[magic,AX.magic]
 have hvb:AX.versionS (stE ver s)=(ver,0):=by
  have h0:AX.preB (stE ver s)=true:=by have:=hm [];rwa [Zz]at this
  unfold AX.versionS;rw[h0,if_neg (by decide),stE_rest];have hd:(magic++Wire.num ver++restE ver s).drop 4=Wire.num ver++restE ver s:=by simp[magic]
  rw[hd,Val.numR_enc ver _ (by omega) (by omega)];dsimp only;rw[if_neg (by simp),if_neg (by omega)]
 have hdr:(Wire.numR ⟨(stE ver s).drop 4,0⟩).1=⟨restE ver s,0⟩:=by
  rw[stE_rest];have hd:(magic++Wire.num ver++restE ver s).drop 4=Wire.num ver++restE ver s:=by simp[magic]
  rw[hd,Val.numR_enc ver _ (by omega) (by omega)]
 have hst:=state_enc ver s [] hz hin ht;rw[Zz]at hst;unfold decode;rw[if_neg (by omega),if_neg (by rw[happ,hm];decide),ver_app];dsimp only;rw[if_neg (by simp),hvb];dsimp only;rw[if_neg (by simp),hdr];rw[show(⟨⟨restE ver s,0⟩,false⟩:Rs)=rd (restE ver s)from rfl,hst];dsimp only;rw[if_neg (by simp[rd,Rs.fails,check_old ver s hz])]
end Sf
end
section
open Go.RowKit
namespace AX
theorem bxz(n:Int)(x:List UInt8):∀es,lfind n (lput n x es)=some x
 |[]=>by simp[lput,lfind]
 |(k,y)::l=>by
  unfold lput;split
  ·simp[lfind]
  ·next h=>simp only[lfind,if_neg h];exact bxz n x l
theorem akj(m n:Int)(x:List UInt8)(h:m≠n):∀es,lfind m (lput n x es)=lfind m es
 |[]=>by simp[lput,lfind,h]
 |(k,y)::l=>by
  unfold lput;split
  ·next e=>subst e;simp only[lfind,if_neg h]
  ·unfold lfind;split
   ·rfl
   ·exact akj m n x h l
theorem bx6(n:Int)(x:List UInt8):∀es,lfind n es=some x->(n,x)∈es
 |[],h=>by simp[lfind]at h
 |(k,y)::l,h=>by
  unfold lfind at h;split at h
  ·next e=>subst e;injection h with h;subst h;simp
  ·exact ZV _ (bx6 n x l h)
theorem cxq{m n:Int}{x y:List UInt8}:∀{es},(m,y)∈lput n x es->(m=n/\y=x)\/(m,y)∈es
 |[],h=>by simp[lput]at h;exact .inl h
 |(k,z)::l,h=>by
  unfold lput at h;split at h
  ·rcases ZL.1 h with h|h
   ·injection h with h1 h2;exact .inl ⟨h1,h2⟩
   ·exact .inr (ZV _ h)
  ·rcases ZL.1 h with h|h
   ·exact .inr (by rw[h];simp)
   ·rcases cxq h with h|h
    ·exact .inl h
    ·exact .inr (ZV _ h)
namespace Sto
structure Vs(s:Sto)(wr:List Sf.St):Prop where
 lat:s.latest+1=(wr.length:Int)
 pos:1<=wr.length
 key:Seal.check s.key=0
 has:∀(n:Nat) (h:n<wr.length),∃b p,lfind (n:Int) s.es=some b/\Seal.dec s.key b=(p,0)/\Sf.decode p=(wr[n],0)/\Sf.checkZ wr[n]=0
 only:∀n b,(n,b)∈s.es->b.length<=1048600
theorem Vs.at'{s:Sto}{wr:List Sf.St}(v:Vs s wr)(n:Nat)(h:n<wr.length):s.at' (n:Int)=(wr[n],0):=by
 obtain⟨b,p,h1,h2,h3,h4⟩:=v.has n h;have hp:s.plain (n:Int)=(p,0):=by unfold Sto.plain;rw[h1];exact h2
 unfold Sto.at';rw[hp,if_neg (by simp)];dsimp only;rw[h3,if_pos rfl,h4]
theorem Vs.keyLen{s:Sto}{wr:List Sf.St}(v:Vs s wr):s.key.length<=1000000000:=by
 have:=v.key;unfold Seal.check at this;split at this
 ·cases this
 ·split at this
  ·cases this
  ·omega
theorem Vs.same{s s':Sto}{wr:List Sf.St}(v:Vs s wr)(h1:s'.latest=s.latest)(h2:s'.key=s.key)(h3:s'.es=s.es):Vs s' wr:=
 ⟨by rw[h1];exact v.lat,v.pos,by rw[h2];exact v.key,by rw[h2,h3];exact v.has,by rw[h3];exact v.only⟩
theorem Vs.lock{s:Sto}{wr:List Sf.St}(v:Vs s wr)(who:List UInt8)(n:Int):Vs (s.lock who n).1 wr:=by
 unfold Sto.lock;split
 ·exact v
 ·split
  ·exact v
  ·exact v.same rfl rfl rfl
theorem Vs.unlock{s:Sto}{wr:List Sf.St}(v:Vs s wr)(who:List UInt8):Vs (s.unlock who).1 wr:=by
 unfold Sto.unlock;split
 ·exact v
 ·exact v.same rfl rfl rfl
theorem enc_len1(k:List UInt8)(n:Int)(p:List UInt8):(Seal.enc k n p).1.length<=1048600:=by
 unfold Seal.enc;split
 ·simp
 ·split
  ·simp
  ·show(Crc.app _).length<=_
   have hz:∀m,(Seal.eight m).length=8:=Seal.eight_length;unfold Crc.app Seal.body;simp only[Za,Crc.four_length,hz,Seal.comb_length,Zf,Zo];omega
theorem lfind_erase(m n:Int)(h:m≠n):∀es,lfind m (lerase n es)=lfind m es
 |[]=>rfl
 |(k,y)::l=>by
  unfold lerase;split
  ·next e=>subst e;simp only[lfind,if_neg h]
  ·unfold lfind;split
   ·rfl
   ·exact lfind_erase m n h l
theorem keep_vs{s:Sto}{wr:List Sf.St}(st:Sf.St)(hk:Seal.check s.key=0)(hser:st.ser=(wr.length:Int))(hwl:wr.length<60)
  (has:∀(n:Nat) (h:n<wr.length),∃b p,lfind (n:Int) s.es=some b/\Seal.dec s.key b=(p,0)/\Sf.decode p=(wr[n],0)/\Sf.checkZ wr[n]=0)
  (only:∀n b,(n,b)∈s.es->b.length<=1048600) (hin:Sf.StIn st) (ht:Sf.TypIn st) (he:(s.keep st).2=0):
  Vs (s.keep st).1 (wr++[st]):=by
 unfold Sto.keep at he⊢;by_cases h1:(Sf.encode 2 st).2=0
 rotate_left
 ·rw[if_pos h1]at he;exact absurd he h1
 rw[if_neg (by rw[h1];simp)]at he⊢;by_cases h2:(Seal.enc s.key (IntKind.u64.wrap st.ser) (Sf.encode 2 st).1).2=0
 rotate_left
 ·rw[if_pos h2]at he;exact absurd he h2
 rw[if_neg (by rw[h2];simp)];have hz:Sf.checkZ st=0:=by
  unfold Sf.encode at h1;split at h1
  ·next h=>exact absurd h1 h
  ·next h=>simpa using h
 have hl:(Sf.stE 2 st).length<=1048572:=by
  unfold Sf.encode at h1;rw[if_neg (by rw[hz];simp)]at h1;split at h1
  ·cases h1
  ·omega
 obtain⟨e1,e2⟩:=Sf.decode_enc 2 (.inr rfl) st hz hin ht hl;rw[show Sf.oldS 2 st=st from if_pos rfl]at e2;have hp:(Sf.encode 2 st).1.length<=1048576:=Sf.encode_len 2 st;have e3:=Seal.enc_ok s.key (IntKind.u64.wrap st.ser) (Sf.encode 2 st).1 hk hp;have e4:=Seal.dec_enc s.key (IntKind.u64.wrap st.ser) (Sf.encode 2 st).1 hk (bk8 _) hp;have hw:IntKind.i64.wrap (st.ser-64)=st.ser-64:=by rw[hser];exact wrap64 (by omega) (by omega)
 have hmem:∀n b,(n,b)∈lerase (IntKind.i64.wrap (st.ser-64)) (lput st.ser (Seal.enc s.key (IntKind.u64.wrap st.ser) (Sf.encode 2 st).1).1 s.es)->b.length<=1048600:=by
  intro n b hm;have:∀es,(n,b)∈lerase (IntKind.i64.wrap (st.ser-64)) es->(n,b)∈es:=by
   intro es;induction es with
   |nil=>intro h;exact h
   |cons x l ih=>
    intro h;unfold lerase at h;split at h
    ·exact ZV _ h
    ·rcases ZL.1 h with h|h
     ·rw[h];exact Yq
     ·exact ZV _ (ih h)
  rcases cxq (this _ hm)with⟨rfl,rfl⟩|h
  ·exact enc_len1 _ _ _
  ·exact only n b h
 refine⟨?_,?_,hk,?_,hmem⟩
 ·show st.ser+1=_
  rw[hser,Za];simp
 ·rw[Za];simp
 ·intro n h;rw[hw];rw[Za,Yi]at h;show ∃b p,lfind (n:Int) (lerase (st.ser-64) (lput st.ser _ s.es))=some b/\Seal.dec s.key b=(p,0)/\_
  rw[lfind_erase _ _ (by omega)];by_cases hn:n<wr.length
  ·rw[akj _ _ _ (by omega),List.getElem_append_left hn];exact has n hn
  ·obtain rfl:n=wr.length:=by omega
   rw[hser,bxz];refine⟨_,(Sf.encode 2 st).1,rfl,?_,?_,?_⟩
   ·rw[<-hser,e3];exact e4
   ·simp only[List.getElem_concat_length];rw[e1];exact e2
   ·simp only[List.getElem_concat_length];exact hz
theorem Vs.find{s:Sto}{wr:List Sf.St}(v:Vs s wr)(n:Int)(b:List UInt8)(h:lfind n s.es=some b):b.length<=1048600:=v.only n b (bx6 n b _ h)
theorem Vs.write{s:Sto}{wr:List Sf.St}(v:Vs s wr)(hwl:wr.length<60)(who:List UInt8)(st:Sf.St)(hin:Sf.StIn st)(ht:Sf.TypIn st):
  ((s.write who st).2≠0/\(s.write who st).1=s)\/((s.write who st).2=0/\s.holds who=true/\st.lin=s.lin/\st.ser=(wr.length:Int)/\Vs (s.write who st).1 (wr++[st])/\(s.write who st).1.lin=s.lin/\(s.write who st).1.own=s.own/\(s.write who st).1.left=s.left):=by
 unfold Sto.write;by_cases h1:s.holds who=false
 ·rw[if_pos h1];exact .inl ⟨(by decide:(25:Int)≠0),rfl⟩
 rw[if_neg h1];by_cases h2:st.lin≠s.lin
 ·rw[if_pos h2];exact .inl ⟨(by decide:(23:Int)≠0),rfl⟩
 rw[if_neg h2];by_cases h3:st.ser≠IntKind.i64.wrap (s.latest+1)
 ·rw[if_pos h3];exact .inl ⟨(by decide:(22:Int)≠0),rfl⟩
 rw[if_neg h3];have h4:st.ser=(wr.length:Int):=by
  have:=Decidable.not_not.1 h3;rw[this,v.lat];exact wrap64 (by omega) (by omega)
 by_cases h5:(s.keep st).2=0
 ·refine .inr ⟨h5,by cases h:s.holds who<;>simp_all,Decidable.not_not.1 h2,h4,keep_vs st v.key h4 hwl v.has v.only hin ht h5,?_⟩;unfold Sto.keep at h5⊢;split at h5
  ·next h=>exact absurd h5 h
  ·next h=>
   rw[if_neg h];split at h5
   ·next h'=>exact absurd h5 h'
   ·next h'=>rw[if_neg h'];exact⟨rfl,rfl,rfl⟩
 ·refine .inl ⟨h5,?_⟩;unfold Sto.keep at h5⊢;split
  ·rfl
  ·split
   ·rfl
   ·next h h'=>rw[if_neg h,if_neg h']at h5;exact absurd rfl h5
end Sto
def meT:List UInt8:=[109,101]
def aj2:Sf.Inst:=⟨[110,101,116,46,97],[],[110,101,116,45,49],[110,101,116],.mk 5 0 [] [] [],1,false,false,[]⟩
def nextS(st:Sf.St)(os:List Sf.Outp)(full:Bool):Sf.St:=⟨st.lin,st.ser+1,if full then[aj2]else[],[],os⟩
def Wk1(x y:A):Prop:=x=y\/∃W0 W,x=.sl W0 .nil []/\y=.sl W .no []
def WkL:List A->List A->Prop
 |[],[]=>True
 |x::l,y::m=>Wk1 x y/\WkL l m
 |_,_=>False
theorem dzh{C:Ctx}{x y:A}{v:Value}(h:Wk1 x y)(r:Rep C x v):Rep C y v:=by
 rcases h with rfl|⟨W0,W,rfl,rfl⟩
 ·exact r
 ·obtain⟨a,cap,rfl,hc,_,_⟩:=rep_sl.1 r;exact rep_sl.2 ⟨a,cap,rfl,hc,by unfold RepRows;trivial,trivial⟩
theorem WkL.len:∀{l m:List A},WkL l m->m.length=l.length
 |[],[],_=>rfl
 |x::l,y::m,h=>by rw[Zf,Zf,WkL.len h.2]
 |[],_::_,h=>h.elim
 |_::_,[],h=>h.elim
theorem aks{C:Ctx}{g:Nat}:∀{l m:List A} {o:Nat},WkL l m->RepAt C l g o->RepAt C m g o
 |[],[],o,_,r=>r
 |x::l,y::m,o,h,r=>by
  unfold RepAt at r⊢;obtain⟨⟨h1,h2,v,h3,h4⟩,h5⟩:=r;refine⟨⟨h1,?_,v,h3,dzh h.1 h4⟩,aks h.2 h5⟩;rcases h.1 with rfl|⟨W0,W,rfl,rfl⟩
  ·exact h2
  ·rfl
 |[],_::_,_,h,_=>h.elim
 |_::_,[],_,h,_=>h.elim
theorem ACall.wk{P:Program}{G:World->Prop}{f:FuncId}{args:List A}{h:Hp}{x y:A}(hc:ACall P G f args h fun v h'=>v=x/\h'=h)(hw:∀C cv,Rep C x cv->Rep C y cv):ACall P G f args h fun v h'=>v=y/\h'=h:=fun C cs hI ha=>
 (hc C cs hI ha).mono fun e w' ⟨C',h',v,cv,h1,h2,h3,h4,h5,h6,h7⟩=>⟨C',h',y,cv,h1,h2,h3,h4,by subst h6;exact hw C' cv h5,rfl,h7⟩
theorem bjw(st:Sf.St)(os:List Sf.Outp)(full:Bool)(h1:-1000000<=st.ser)(h2:st.ser<=1000000)(h:Hp):AT 36 [st.A,.sl 7 .no (os.map Sf.Outp.cells),.bool full] h ((nextS st os full).A):=by
 obtain⟨lin,ser,ins,ps,os0⟩:=st;dsimp only at h1 h2;have w1:IntKind.i64.wrap (ser+1)=ser+1:=wrap64 (by omega) (by omega);unfold nextS;simp only[Sf.St.A];cases full with
 |false=>
  refine pcall ?_ rfl (by simp[A.pure,A.data]) h;refine fo ?_;refine azj w1 ti ?_;exact⟨.agg [.str lin,.int .i64 (ser+1),.sl 13 .no [],.sl 3 .no [],.sl 7 .no (os.map Sf.Outp.cells)],⟨aze _,aze _,⟨rfl,.inr rfl,.inl rfl⟩,⟨rfl,.inr rfl,.inl rfl⟩,aze _,trivial⟩,rfl⟩
 |true=>
  obtain⟨R,hR⟩:∃R,R=[A.str [110,101,116,46,97],.str [],.str [110,101,116,45,49],.str [110,101,116],.int .i64 5,.int .i64 0,.str [],.sl 0 .nil [],.sl 0 .nil [],.int .i64 1,.bool false,.bool false,.sl 0 .nil []]:=⟨_,rfl⟩;have c:∀h,AT 36 [.agg [.str lin,.int .i64 ser,.sl 13 .no (ins.map Sf.Inst.cells),.sl 3 .no (ps.map Sf.Pend.cells),.sl 7 .no (os0.map Sf.Outp.cells)],.sl 7 .no (os.map Sf.Outp.cells),.bool true] h (.agg [.str lin,.int .i64 (ser+1),.sl 13 .no [R],.sl 3 .no [],.sl 7 .no (os.map Sf.Outp.cells)]):=fun h=>by
   refine pcall ?_ rfl (by simp[A.pure,A.data]) h;refine fo ?_;rw[hR];refine azj w1 ti ?_;exact⟨.agg [.str lin,.int .i64 (ser+1),.sl 13 .no [[.str [110,101,116,46,97],.str [],.str [110,101,116,45,49],.str [110,101,116],.int .i64 5,.int .i64 0,.str [],.sl 0 .nil [],.sl 0 .nil [],.int .i64 1,.bool false,.bool false,.sl 0 .nil []]],.sl 3 .no [],.sl 7 .no (os.map Sf.Outp.cells)],⟨aze _,aze _,⟨rfl,.inl rfl,.inl rfl⟩,⟨rfl,.inr rfl,.inl rfl⟩,aze _,trivial⟩,rfl⟩
  refine(c h).wk fun C cv r=>?_
  have hw:WkL R (Sf.Inst.cells aj2):=by
   rw[hR];exact⟨.inl rfl,.inl rfl,.inl rfl,.inl rfl,.inl rfl,.inl rfl,.inl rfl,.inr ⟨0,5,rfl,rfl⟩,.inr ⟨0,1,rfl,rfl⟩,.inl rfl,.inl rfl,.inl rfl,.inr ⟨0,1,rfl,rfl⟩,trivial⟩
  obtain⟨cs,rfl,rl⟩:=rep_agg.1 r;obtain⟨c0,cs0,rfl,r0,rl⟩:=repL_cons.1 rl;obtain⟨c1,cs1,rfl,r1,rl⟩:=repL_cons.1 rl;obtain⟨c2,cs2,rfl,r2,rl⟩:=repL_cons.1 rl;refine rep_agg.2 ⟨_,rfl,repL_cons.2 ⟨_,_,rfl,r0,repL_cons.2 ⟨_,_,rfl,r1,repL_cons.2 ⟨_,_,rfl,?_,rl⟩⟩⟩⟩;obtain⟨a,cap,rfl,hc,rr,_⟩:=rep_sl.1 r2;refine rep_sl.2 ⟨a,cap,rfl,hc,?_,trivial⟩;unfold RepRows at rr;obtain⟨⟨g,off,e,hl,ra⟩,_⟩:=rr;show RepRows C 13 [(Sf.Inst.cells aj2)] a 0
  unfold RepRows RepRows;exact⟨⟨g,off,e,by rw[hw.len,hl],aks hw ra⟩,trivial⟩
def wrS(s:Sto)(st:Sf.St):Sto×Int:=
 if s.own=[]then((((s.lock meT 1000).1.write meT st).1.unlock meT).1,((s.lock meT 1000).1.write meT st).2)else s.write meT st
theorem axc{α β:Type}(f:α->β){l:List α}{q:Nat}{x y:α}(h:l[q]?=some y)(e:f x=f y):(l.set q x).map f=l.map f:=by
 apply List.ext_getElem?;intro j;rw[List.getElem?_map,List.getElem?_map,Zm];split
 ·next hj=>
  subst hj;split
  ·rw[h];simp[e]
  ·next hl=>rw[Yh (by omega)]
 ·rfl
theorem bw8{l:List Nat}(h:l.Nodup){i j:Nat}(hi:i<l.length)(hj:j<l.length)(hne:i≠j):l[i]≠l[j]:=by
 rcases Nat.lt_or_gt_of_ne hne with h1|h1
 ·exact List.pairwise_iff_getElem.1 h i j hi hj h1
 ·exact fun e=>List.pairwise_iff_getElem.1 h j i hj hi h1 e.symm
theorem WsAt.upd{b:List Blk}{i:Nat}{key:List UInt8}{sp:A}{W:List Ent}(w:WsAt b i key sp W){q:Nat}{e:Ent}(hq:W[q]?=some e)(s':Sto):WsAt ((b.set e.m s'.M).set e.p (s'.Bk e.m)) i key sp (W.set q { e with s:=s' }):=by
 have hlt:=(Zb.1 hq).1;have heq:=(Zb.1 hq).2;have hem:e∈W:=by rw[<-heq];exact Zl hlt
 obtain⟨n1,n2⟩:=w.set_ne e hem;have hpm:=(w.st hem).ne;have mp:(W.set q { e with s:=s' }).map (·.p)=W.map (·.p):=axc _ hq rfl;have mm:(W.set q { e with s:=s' }).map (·.m)=W.map (·.m):=axc _ hq rfl;have mr:rowW (W.set q { e with s:=s' })=rowW W:=by unfold rowW;rw[axc (x:={ e with s:=s' }) Ent.row hq rfl]
 have mn:(W.set q { e with s:=s' }).map (·.name)=W.map (·.name):=axc _ hq rfl;refine⟨(azt n2).trans ((azt n1).trans w.set),?_,fun x hx=>?_,by rw[mp];exact w.ps,by rw[mm];exact w.ms,?_,by rw[ZA];exact w.len⟩
 ·obtain hs:=w.sp;cases hs with
  |nil=>exact absurd hlt (Nat.not_lt_zero _)
  |row hk=>
   obtain⟨_,hne⟩:=w.row_ne hk;obtain⟨_,_,n3,n4⟩:=hne e hem;rw[show W.length=(W.set q { e with s:=s' }).length by rw[ZA]];refine .row ?_;rw[mr];exact(azt n4).trans ((azt n3).trans hk)
 ·obtain⟨j,hj,rfl⟩:=List.mem_iff_getElem.1 hx;have hj':j<W.length:=by rw[ZA]at hj;exact hj
  have hpp:∀x∈W,x.p≠e.m:=fun x hx ee=>by
   have h1:=(w.ent x hx).2;have h2:=(w.ent e hem).1;unfold Sto.Bk at h1;unfold Sto.M at h2;rw[ee,h2]at h1;cases h1
  have hmm:∀x∈W,x.m≠e.p:=fun x hx ee=>by
   have h1:=(w.ent x hx).1;have h2:=(w.ent e hem).2;unfold Sto.Bk at h2;unfold Sto.M at h1;rw[ee,h2]at h1;cases h1
  rw[List.getElem_set];by_cases hqj:q=j
  ·subst hqj;rw[if_pos rfl];exact⟨(azt (Ne.symm (hmm e hem))).trans (axz (w.ent e hem).1),axz ((azt (Ne.symm (hpp e hem))).trans (w.ent e hem).2)⟩
  ·rw[if_neg hqj];have hxm:=Zl hj';obtain⟨h1,h2⟩:=w.ent _ hxm;have d1:W[j].p≠e.p:=fun ee=>bw8 w.ps (i:=j) (j:=q) (by rw[Zh];exact hj') (by rw[Zh];exact hlt) (Ne.symm hqj) (by rw[List.getElem_map,List.getElem_map,heq];exact ee)
   have d2:W[j].m≠e.m:=fun ee=>bw8 w.ms (i:=j) (j:=q) (by rw[Zh];exact hj') (by rw[Zh];exact hlt) (Ne.symm hqj) (by rw[List.getElem_map,List.getElem_map,heq];exact ee)
   exact⟨(azt (Ne.symm (hmm _ hxm))).trans ((azt (Ne.symm d2)).trans h1),(azt (Ne.symm d1)).trans ((azt (Ne.symm (hpp _ hxm))).trans h2)⟩
 ·unfold SrtW;have e1:∀V:List Ent,(V.Pairwise fun x y=>cmpZ x.name y.name<0)↔(V.map (·.name)).Pairwise fun x y=>cmpZ x y<0:=fun V=>by rw[List.pairwise_map]
  rw[e1,mn,<-e1];exact w.srt
def KeepT(b b':List Blk):Prop:=∀(j:Nat) T l,T≠88->T≠72->b[j]?=some (.cells T l)->b'[j]?=some (.cells T l)
theorem KeepT.trans{a b c:List Blk}(h:KeepT a b)(k:KeepT b c):KeepT a c:=fun j T l h1 h2 h3=>k j T l h1 h2 (h j T l h1 h2 h3)
theorem KeepT.more(b L:List Blk):KeepT b (b++L):=fun j T l _ _ h=>azc h L
theorem KeepC.toT{i:Nat}{b b':List Blk}{key:List UInt8}{sp:A}(h:KeepC i b b')(hs:b[i]?=some (setC key sp)):KeepT b b':=fun j T l h1 h2 h3=>h j T l (fun e=>by
 subst e;unfold setC at hs;rw[hs]at h3;injection h3 with h3;injection h3 with h3 _
 exact h2 h3.symm) h3
theorem StAt.keepT{b:List Blk}{p m:Nat}{s s':Sto}(w:StAt b p m s):KeepT b ((b.set m s'.M).set p (s'.Bk m)):=fun j T l h1 h2 h3=>by
 have hm:=w.bm;have hp:=w.bp;unfold Sto.M at hm;unfold Sto.Bk at hp;refine(azt (fun e=>?_)).trans ((azt (fun e=>?_)).trans h3)
 ·subst e;rw[hp]at h3;injection h3 with h3;injection h3 with h3 _;exact h1 h3.symm
 ·subst e;rw[hm]at h3;cases h3
theorem Sto.lock_free{s:Sto}(h:s.own=[]):s.lock meT 1000=({ s with own:=meT,left:=1000 },0):=by
 unfold Sto.lock;rw[if_neg (by decide +kernel),h];rfl
theorem Sto.write_own(s:Sto)(who:List UInt8)(st:Sf.St):(s.write who st).1.own=s.own:=by
 unfold Sto.write;split
 ·rfl
 split
 ·rfl
 split
 ·rfl
 unfold Sto.keep;split
 ·rfl
 split<;>rfl
theorem Sto.unlock_me{s:Sto}(h:s.own=meT):s.unlock meT=({ s with own:=[],left:=0 },0):=by
 have hh:s.holds meT=true:=by unfold Sto.holds;rw[h];decide +kernel
 unfold Sto.unlock;rw[if_neg (by rw[hh];decide)]
theorem djl{h:Hp}{i:Nat}{key:List UInt8}{sp:A}{W:List Ent}(w:WsAt h.b i key sp W)(n:List UInt8)(q:Nat)(hc:CutW W n q)(hh:hasW W n q=true)(e:Ent)(he:W[q]?=some e)(ok:EntOk e)(os:List Sf.Outp)(full:Bool)
  (g1:-1000000<=(stOf e).ser) (g2:(stOf e).ser<=1000000) (hin:Sf.StIn (nextS (stOf e) os full)) (hE:(Sf.stE 2 (nextS (stOf e) os full)).length+20<=1000000000):
  AC 11 [.ptr i 0,.agg [.int .u8 2,.str n,.sl 7 .no (os.map Sf.Outp.cells),.bool full]] h fun v h'=>v=.int .i64 (wrS e.s (nextS (stOf e) os full)).2/\h'.t=h.t/\h.b.length<=h'.b.length/\KeepT h.b h'.b/\WsAt h'.b i key sp (W.set q { e with s:=(wrS e.s (nextS (stOf e) os full)).1 }):=by
 obtain⟨b,t⟩:=h;dsimp only at w⊢;have cn:=fun h=>bjw (stOf e) os full g1 g2 h
 obtain⟨N,hN⟩:=Ex (nextS (stOf e) os full);rw[hN]at cn hin hE⊢;have hrd:=ok.rd;obtain⟨st,hst⟩:=Ex (stOf e);rw[hst]at hrd cn;obtain⟨OS,hOS⟩:=Ex (os.map Sf.Outp.cells);rw[hOS]at cn⊢;have hem:e∈W:=by obtain⟨hl,rfl⟩:=Zb.1 he;exact Zl hl
 have hw0:=w.st hem;have cs:=aj9 (h:=⟨b++[.cells 25 [.int .u8 2,.str n,.sl 7 .no OS,.bool full]],t⟩) (w.more _) n q hc;have hp:ptrW W q=e.p:=by unfold ptrW;rw[he];rfl
 rw[hh,if_pos rfl,hp]at cs;refine fo ?_;have z4:¬(2:Int)>4:=by decide
 refine go0 z4 ?_;refine gc0 z4 ?_;refine cs.mono ?_;rintro v h' ⟨rfl,L,rfl⟩;have ob:(b++[Blk.cells 25 [.int .u8 2,.str n,.sl 7 .no OS,.bool full]]++L)[b.length]?=some (.cells 25 [.int .u8 2,.str n,.sl 7 .no OS,.bool full]):=azc Zt L;have sw:=(hw0.more [.cells 25 [.int .u8 2,.str n,.sl 7 .no OS,.bool full]]).more L;have ww:=(w.more [.cells 25 [.int .u8 2,.str n,.sl 7 .no OS,.bool full]]).more L;have kk:KeepT b (b++[.cells 25 [.int .u8 2,.str n,.sl 7 .no OS,.bool full]]++L):=(KeepT.more _ _).trans (KeepT.more _ _);have ln:b.length<=(b++[Blk.cells 25 [.int .u8 2,.str n,.sl 7 .no OS,.bool full]]++L).length:=by rw[Za,Za];omega
 obtain⟨o,ho⟩:=Ex (b.length);obtain⟨B,hB⟩:=Ex (b++[.cells 25 [.int .u8 2,.str n,.sl 7 .no OS,.bool full]]++L);dsimp only;simp only[hB,ho]at ob sw ww kk ln⊢;clear hB;have c2:=bws (h:=⟨B,t⟩) sw ok.kl ok.hb;rw[hrd]at c2;obtain⟨lin,ser,ins,ps,outs⟩:=st;simp only[Sf.St.A]at c2 cn;obtain⟨B1,hB1⟩:=Ex (B++[.cells 42 [.str lin,.int .i64 ser,.sl 13 .no (ins.map Sf.Inst.cells),.sl 3 .no (ps.map Sf.Pend.cells),.sl 7 .no (outs.map Sf.Outp.cells)]]);have sb1:B1[B.length]?=some (.cells 42 [.str lin,.int .i64 ser,.sl 13 .no (ins.map Sf.Inst.cells),.sl 3 .no (ps.map Sf.Pend.cells),.sl 7 .no (outs.map Sf.Outp.cells)]):=by rw[<-hB1];exact Zt
 have ob1:B1[o]?=some (.cells 25 [.int .u8 2,.str n,.sl 7 .no OS,.bool full]):=by rw[<-hB1];exact azc ob _
 have sw1:StAt B1 e.p e.m e.s:=by rw[<-hB1];exact sw.more _
 have ww1:WsAt B1 i key sp W:=by rw[<-hB1];exact ww.more _
 have kk1:KeepT b B1:=by rw[<-hB1];exact kk.trans (KeepT.more _ _)
 have ln1:o<=B1.length:=by rw[<-hB1,Za];omega
 have ch:=bwo (h:=⟨B1,t⟩) sw1;unfold wrS;by_cases h1:e.s.own=[]
 ·have cl:=cyl (h:=⟨B1,t⟩) sw1 meT (by decide) 1000;rw[if_pos h1];rw[Sto.lock_free h1]at cl⊢;rw[h1]at ch;dsimp only at cl⊢;obtain⟨s1,hs1⟩:∃s1:Sto,{ e.s with own:=meT,left:=1000 }=s1:=⟨_,rfl⟩;have k1:s1.key.length<=1000000000:=by rw[<-hs1];exact ok.kl
  have o1:s1.own=meT:=by rw[<-hs1]
  rw[hs1]at cl⊢;clear hs1;have kt1:=sw1.keepT (s':=s1);have ww2:=ww1.upd he s1;have sw2:StAt ((B1.set e.m s1.M).set e.p (s1.Bk e.m)) e.p e.m s1:=⟨(azt sw1.ne).trans (axz sw1.bm),axz ((azt (Ne.symm sw1.ne)).trans sw1.bp)⟩;obtain⟨B2,hB2⟩:=Ex ((B1.set e.m s1.M).set e.p (s1.Bk e.m));have ln2:B2.length=B1.length:=by rw[<-hB2,ZA,ZA]
  rw[hB2]at cl kt1 ww2 sw2;clear hB2;have sb2:=kt1 _ _ _ (by decide) (by decide) sb1;have ob2:=kt1 _ _ _ (by decide) (by decide) ob1;have he2:(W.set q { e with s:=s1 })[q]?=some { e with s:=s1 }:=YE (Zb.1 he).1;have cw:=cx2 (h:=⟨B2,t⟩) sw2 meT N hin k1 hE;have o2:=Sto.write_own s1 meT N;obtain⟨s2,hs2⟩:=Ex ((s1.write meT N).1);obtain⟨er,her⟩:=Ex ((s1.write meT N).2);rw[hs2,her]at cw;rw[hs2,o1]at o2;rw[hs2,her];clear hs2 her;have kt2:=sw2.keepT (s':=s2);have ww3:=ww2.upd he2 s2;have sw3:StAt ((B2.set e.m s2.M).set e.p (s2.Bk e.m)) e.p e.m s2:=⟨(azt sw2.ne).trans (axz sw2.bm),axz ((azt (Ne.symm sw2.ne)).trans sw2.bp)⟩;obtain⟨B3,hB3⟩:=Ex ((B2.set e.m s2.M).set e.p (s2.Bk e.m));have ln3:B3.length=B2.length:=by rw[<-hB3,ZA,ZA]
  dsimp only at ww3;rw[List.set_set]at ww3;rw[hB3]at cw kt2 ww3 sw3;clear hB3;have he3:(W.set q { e with s:=s2 })[q]?=some { e with s:=s2 }:=YE (Zb.1 he).1;have cu:=bwi (h:=⟨B3,t⟩) sw3 meT;rw[Sto.unlock_me o2]at cu⊢;dsimp only at cu⊢;obtain⟨s3,hs3⟩:∃s3:Sto,{ s2 with own:=[],left:=0 }=s3:=⟨_,rfl⟩;rw[hs3]at cu⊢;clear hs3;have kt3:=sw3.keepT (s':=s3);have ww4:=ww3.upd he3 s3;obtain⟨B4,hB4⟩:=Ex ((B3.set e.m s3.M).set e.p (s3.Bk e.m));have ln4:B4.length=B3.length:=by rw[<-hB4,ZA,ZA]
  dsimp only at ww4;rw[List.set_set]at ww4;rw[hB4]at cu kt3 ww4;clear hB4;have fin:o<=B4.length/\KeepT b B4/\WsAt B4 i key sp (W.set q { e with s:=s3 }):=⟨by omega,((kk1.trans kt1).trans kt2).trans kt3,ww4⟩;have e1:(([]:List UInt8) == [])=true:=rfl;have mt:meT=[109,101]:=rfl;rw[mt]at cl cw cu;clear ww ww1 ww2 ww3 ww4 kk kk1 kt1 kt2 kt3 sw sw1 sw2 sw3 hw0 w;refine go0 ob ?_;refine gc0 ob ?_;refine c2.mono ?_;rintro v h' ⟨rfl,rfl⟩;refine go0 hB1 ?_;refine gc0 hB1 ?_;refine ch.mono ?_;rintro v h' ⟨rfl,rfl⟩;refine go0 e1 ?_;refine gc0 e1 ?_;refine cl.mono ?_;rintro v h' ⟨rfl,rfl⟩;refine go0 (ai sb2 ob2) ?_;refine gc0 (ai sb2 ob2) ?_;refine(cn _).mono ?_;rintro v h' ⟨rfl,rfl⟩;refine go0 ti ?_;refine gc0 ti ?_;refine cw.mono ?_;rintro v h' ⟨rfl,rfl⟩;refine go0 e1 ?_;refine gc0 e1 ?_;refine cu.mono ?_;rintro v h' ⟨rfl,rfl⟩;refine go0 ti ?_;exact⟨_,le_refl _,rfl,rfl,fin⟩
 ·have e1:(e.s.own == [])=false:=by simp[h1]
  rw[if_neg h1];have cw:=cx2 (h:=⟨B1,t⟩) sw1 meT N hin ok.kl hE;obtain⟨s2,hs2⟩:=Ex ((e.s.write meT N).1);obtain⟨er,her⟩:=Ex ((e.s.write meT N).2);rw[hs2,her]at cw⊢;have kt1:=sw1.keepT (s':=s2);have ww2:=ww1.upd he s2;obtain⟨B2,hB2⟩:=Ex ((B1.set e.m s2.M).set e.p (s2.Bk e.m));have ln2:B2.length=B1.length:=by rw[<-hB2,ZA,ZA]
  rw[hB2]at cw kt1 ww2;clear hB2;have fin:o<=B2.length/\KeepT b B2/\WsAt B2 i key sp (W.set q { e with s:=s2 }):=⟨by omega,kk1.trans kt1,ww2⟩;obtain⟨own,hown⟩:∃own,e.s.own=own:=⟨_,rfl⟩;rw[hown]at ch e1;have mt:meT=[109,101]:=rfl;rw[mt]at cw;clear ww ww1 ww2 kk kk1 kt1 sw sw1 hw0 w;refine go0 ob ?_;refine gc0 ob ?_;refine c2.mono ?_;rintro v h' ⟨rfl,rfl⟩;refine go0 hB1 ?_;refine gc0 hB1 ?_;refine ch.mono ?_;rintro v h' ⟨rfl,rfl⟩;refine go0 (ai e1 (ai sb1 ob1)) ?_;refine gc0 (ai e1 (ai sb1 ob1)) ?_;refine(cn _).mono ?_;rintro v h' ⟨rfl,rfl⟩;refine go0 ti ?_;refine gc0 ti ?_;refine cw.mono ?_;rintro v h' ⟨rfl,rfl⟩;refine go0 e1 ?_;exact⟨_,le_refl _,rfl,rfl,fin⟩
end AX
end
section
open Go.RowKit
namespace AX
def acS(k:Int)(s:Sto)(st:Sf.St)(os:List Sf.Outp)(full:Bool):Sto×Int:=
 if k=2 then wrS s (nextS st os full)else if k=3 then s.lock meT 1000 else s.unlock meT
structure DoR(key:List UInt8)(W:List Ent)(k:Int)(n:List UInt8)(os:List Sf.Outp)(full:Bool)(q:Nat)(W':List Ent)(er:Int):Prop where
 cr:k=0->(crE W n q≠0/\W'=W/\er=crE W n q)\/(crE W n q=0/\er=0/\∃p m,W'=insW W q ⟨n,newS key n,p,m⟩)
 dl:k=1->(hasW W n q=false/\W'=W/\er=9)\/(hasW W n q=true/\∃e,W[q]?=some e/\er=dlE e (stOf e)/\(er≠0->W'=W)/\(er=0->W'=W.take q++W.drop (q+1)))
 no:4<k->W'=W/\er=0
 ac:2<=k->k<=4->(hasW W n q=false/\W'=W/\er=9)\/(hasW W n q=true/\∃e,W[q]?=some e/\W'=W.set q { e with s:=(acS k e.s (stOf e) os full).1 }/\er=(acS k e.s (stOf e) os full).2)
structure After(b b':List Blk)(i:Nat)(key:List UInt8)(W':List Ent):Prop where
 len:b.length<=b'.length
 keep:KeepT b b'
 at':∃sp,WsAt b' i key sp W'
section
variable {h:Hp} {i:Nat} {key:List UInt8} {sp:A} {W:List Ent}
def opA(k:Int)(n:List UInt8)(os:List Sf.Outp)(full:Bool):List A:=[.int .u8 k,.str n,.sl 7 .no (os.map Sf.Outp.cells),.bool full]
theorem opK(b:List Blk)(l:List A):KeepT b (b++[.cells 25 l]):=KeepT.more _ _
theorem dj3(w:WsAt h.b i key sp W)(k:Int)(n:List UInt8)(os:List Sf.Outp)(full:Bool)(hk:4<k):
  AC 11 [.ptr i 0,.agg (opA k n os full)] h fun v h'=>v=.int .i64 0/\h'=⟨h.b++[.cells 25 (opA k n os full)],h.t⟩:=by
 obtain⟨b,t⟩:=h;unfold opA;obtain⟨OS,hOS⟩:=Ex (os.map Sf.Outp.cells);rw[hOS];have e0:(k==0)=false:=by simp;omega
 have e1:(k==1)=false:=by simp;omega
 have e2:k>4:=hk;refine fo ?_;refine go0 (ai e0 (ai e1 e2)) ?_;exact⟨_,le_refl _,rfl,rfl⟩
theorem dj1(hkey:Seal.check key=0)(w:WsAt h.b i key sp W)(n:List UInt8)(hn:n.length<=2000000)(os:List Sf.Outp)(full:Bool)(q:Nat)(hc:CutW W n q):
  AC 11 [.ptr i 0,.agg (opA 0 n os full)] h fun v h'=>h'.t=h.t/\∃W' er,v=.int .i64 er/\DoR key W 0 n os full q W' er/\After h.b h'.b i key W':=by
 obtain⟨b,t⟩:=h;dsimp only at w⊢;unfold opA;obtain⟨OS,hOS⟩:=Ex (os.map Sf.Outp.cells);rw[hOS];have kt:=opK b [.int .u8 0,.str n,.sl 7 .no OS,.bool full];have w:=w.more [.cells 25 [.int .u8 0,.str n,.sl 7 .no OS,.bool full]];have ln:b.length<=(b++[Blk.cells 25 [.int .u8 0,.str n,.sl 7 .no OS,.bool full]]).length:=by rw[Za];omega
 have ob:(b++[Blk.cells 25 [.int .u8 0,.str n,.sl 7 .no OS,.bool full]])[b.length]?=some (.cells 25 [.int .u8 0,.str n,.sl 7 .no OS,.bool full]):=Zt;obtain⟨B,hB⟩:=Ex (b++[Blk.cells 25 [.int .u8 0,.str n,.sl 7 .no OS,.bool full]]);rw[hB]at kt w ln ob;refine fo ?_;by_cases he:crE W n q=0
 ·have c:=avv (h:=⟨B,t⟩) w hkey n q hc he;refine go0 (ai hB ob) ?_;refine gc0 (ai hB ob) ?_;refine c.mono ?_;rintro v ⟨B1,T⟩ ⟨rfl,rfl,⟨sp1,p1,m1,w1⟩,k1,l1⟩;dsimp only at w1 k1 l1;refine go0 ti ?_;exact⟨_,le_refl _,rfl,_,_,rfl,⟨fun _=> .inr ⟨he,rfl,p1,m1,rfl⟩,fun e=>absurd e (by decide),fun e=>absurd e (by decide),fun e=>absurd e (by decide)⟩,⟨Zr ln l1,kt.trans (k1.toT w.set),sp1,w1⟩⟩
 ·have c:=ay2 (h:=⟨B,t⟩) w n (Zr hn (by decide)) q hc he;refine go0 (ai hB ob) ?_;refine gc0 (ai hB ob) ?_;refine c.mono ?_;rintro v h' ⟨rfl,L,rfl⟩;refine go0 ti ?_;exact⟨_,le_refl _,rfl,W,_,rfl,⟨fun _=> .inl ⟨he,rfl,rfl⟩,fun e=>absurd e (by decide),fun e=>absurd e (by decide),fun e=>absurd e (by decide)⟩,⟨by rw[Za];omega,kt.trans (KeepT.more _ _),sp,w.more L⟩⟩
theorem dj8(w:WsAt h.b i key sp W)(n:List UInt8)(os:List Sf.Outp)(full:Bool)(q:Nat)(hc:CutW W n q)(ok:∀e∈W,EntOk e)(hl:∀e∈W,(stOf e).insts.length+(stOf e).pends.length<=1000000):
  AC 11 [.ptr i 0,.agg (opA 1 n os full)] h fun v h'=>h'.t=h.t/\∃W' er,v=.int .i64 er/\DoR key W 1 n os full q W' er/\After h.b h'.b i key W':=by
 obtain⟨b,t⟩:=h;dsimp only at w⊢;unfold opA;obtain⟨OS,hOS⟩:=Ex (os.map Sf.Outp.cells);rw[hOS];have kt:=opK b [.int .u8 1,.str n,.sl 7 .no OS,.bool full];have w:=w.more [.cells 25 [.int .u8 1,.str n,.sl 7 .no OS,.bool full]];have ln:b.length<=(b++[Blk.cells 25 [.int .u8 1,.str n,.sl 7 .no OS,.bool full]]).length:=by rw[Za];omega
 have ob:(b++[Blk.cells 25 [.int .u8 1,.str n,.sl 7 .no OS,.bool full]])[b.length]?=some (.cells 25 [.int .u8 1,.str n,.sl 7 .no OS,.bool full]):=Zt;obtain⟨B,hB⟩:=Ex (b++[Blk.cells 25 [.int .u8 1,.str n,.sl 7 .no OS,.bool full]]);rw[hB]at kt w ln ob;refine fo ?_;cases hh:hasW W n q with
 |false=>
  have c:=bys (h:=⟨B,t⟩) w n q hc hh;refine go0 (ai hB ob) ?_;refine gc0 (ai hB ob) ?_;refine c.mono ?_;rintro v h' ⟨rfl,L,rfl⟩;refine go0 ti ?_;exact⟨_,le_refl _,rfl,W,_,rfl,⟨fun e=>absurd e (by decide),fun _=> .inl ⟨hh,rfl,rfl⟩,fun e=>absurd e (by decide),fun e=>absurd e (by decide)⟩,⟨by rw[Za];omega,kt.trans (KeepT.more _ _),sp,w.more L⟩⟩
 |true=>
  have hq:=bjl hh;have hem:=Zl hq;have hoe:=ok _ hem;have c:=bxp (h:=⟨B,t⟩) w n q hc hh W[q] (Zj hq) (stOf W[q]) hoe.rd (hl _ hem) hoe.kl hoe.hb;refine go0 (ai hB ob) ?_;refine gc0 (ai hB ob) ?_;refine c.mono ?_;rintro v ⟨B1,T⟩ ⟨rfl,rfl,g1,g2⟩;dsimp only at g1 g2;refine go0 ti ?_;by_cases hz:dlE W[q] (stOf W[q])=0
  ·obtain⟨⟨sp1,w1⟩,k1,l1⟩:=g2 hz;exact⟨_,le_refl _,rfl,_,_,rfl,⟨fun e=>absurd e (by decide),fun _=> .inr ⟨hh,_,Zj hq,rfl,fun e=>absurd hz e,fun _=>rfl⟩,fun e=>absurd e (by decide),fun e=>absurd e (by decide)⟩,⟨Zr ln l1,kt.trans (k1.toT w.set),sp1,w1⟩⟩
  ·obtain⟨L,rfl⟩:=g1 hz;exact⟨_,le_refl _,rfl,W,_,rfl,⟨fun e=>absurd e (by decide),fun _=> .inr ⟨hh,_,Zj hq,rfl,fun _=>rfl,fun e=>absurd e hz⟩,fun e=>absurd e (by decide),fun e=>absurd e (by decide)⟩,⟨by rw[Za];omega,kt.trans (KeepT.more _ _),sp,w.more L⟩⟩
theorem dvc(w:WsAt h.b i key sp W)(k:Int)(h2:2<=k)(h4:k<=4)(n:List UInt8)(os:List Sf.Outp)(full:Bool)(q:Nat)(hc:CutW W n q)(hh:hasW W n q=false):
  AC 11 [.ptr i 0,.agg (opA k n os full)] h fun v h'=>h'.t=h.t/\∃W' er,v=.int .i64 er/\DoR key W k n os full q W' er/\After h.b h'.b i key W':=by
 obtain⟨b,t⟩:=h;dsimp only at w⊢;unfold opA;obtain⟨OS,hOS⟩:=Ex (os.map Sf.Outp.cells);rw[hOS];have kt:=opK b [.int .u8 k,.str n,.sl 7 .no OS,.bool full];have w:=w.more [.cells 25 [.int .u8 k,.str n,.sl 7 .no OS,.bool full]];have ln:b.length<=(b++[Blk.cells 25 [.int .u8 k,.str n,.sl 7 .no OS,.bool full]]).length:=by rw[Za];omega
 have ob:(b++[Blk.cells 25 [.int .u8 k,.str n,.sl 7 .no OS,.bool full]])[b.length]?=some (.cells 25 [.int .u8 k,.str n,.sl 7 .no OS,.bool full]):=Zt;obtain⟨B,hB⟩:=Ex (b++[Blk.cells 25 [.int .u8 k,.str n,.sl 7 .no OS,.bool full]]);rw[hB]at kt w ln ob;have e0:(k==0)=false:=by simp;omega
 have e1:(k==1)=false:=by simp;omega
 have e2:¬k>4:=by omega
 have c:=aj9 (h:=⟨B,t⟩) w n q hc;rw[hh,if_neg (by decide)]at c;refine fo ?_;refine go0 (ai hB (ai ob (ai e0 (ai e1 e2)))) ?_;refine gc0 (ai hB (ai ob (ai e0 (ai e1 e2)))) ?_;refine c.mono ?_;rintro v h' ⟨rfl,L,rfl⟩;refine go0 ti ?_;exact⟨_,le_refl _,rfl,W,_,rfl,⟨fun e=>absurd e (by omega),fun e=>absurd e (by omega),fun e=>absurd e (by omega),fun _ _=> .inl ⟨hh,rfl,rfl⟩⟩,⟨by rw[Za];omega,kt.trans (KeepT.more _ _),sp,w.more L⟩⟩
theorem djv(w:WsAt h.b i key sp W)(k:Int)(h2:k=3\/k=4)(n:List UInt8)(os:List Sf.Outp)(full:Bool)(q:Nat)(hc:CutW W n q)(hh:hasW W n q=true):
  AC 11 [.ptr i 0,.agg (opA k n os full)] h fun v h'=>h'.t=h.t/\∃W' er,v=.int .i64 er/\DoR key W k n os full q W' er/\After h.b h'.b i key W':=by
 have hq:=bjl hh;have hem:=Zl hq;have heq:W[q]?=some W[q]:=Zj hq;obtain⟨e,he⟩:=Ex (W[q]);rw[he]at hem heq;obtain⟨b,t⟩:=h;dsimp only at w⊢;unfold opA;obtain⟨OS,hOS⟩:=Ex (os.map Sf.Outp.cells);rw[hOS];have c:=aj9 (h:=⟨b++[.cells 25 [.int .u8 k,.str n,.sl 7 .no OS,.bool full]],t⟩) (w.more _) n q hc;have hp:ptrW W q=e.p:=by unfold ptrW;rw[heq];rfl
 rw[hh,if_pos rfl,hp]at c;have kt:=opK b [.int .u8 k,.str n,.sl 7 .no OS,.bool full];have w:=w.more [.cells 25 [.int .u8 k,.str n,.sl 7 .no OS,.bool full]];have ln:b.length<=(b++[Blk.cells 25 [.int .u8 k,.str n,.sl 7 .no OS,.bool full]]).length:=by rw[Za];omega
 have ob:(b++[Blk.cells 25 [.int .u8 k,.str n,.sl 7 .no OS,.bool full]])[b.length]?=some (.cells 25 [.int .u8 k,.str n,.sl 7 .no OS,.bool full]):=Zt;obtain⟨B,hB⟩:=Ex (b++[Blk.cells 25 [.int .u8 k,.str n,.sl 7 .no OS,.bool full]]);rw[hB]at kt w ln ob c;have e0:(k==0)=false:=by rcases h2 with rfl|rfl<;>rfl
 have e1:(k==1)=false:=by rcases h2 with rfl|rfl<;>rfl
 have e2:¬k>4:=by omega
 have fin:∀(L:List Blk) (er:Int),er=(acS k e.s (stOf e) os full).2->∀s',s'=(acS k e.s (stOf e) os full).1 ->
   ∃W' er',A.int .i64 er=.int .i64 er'/\DoR key W k n os full q W' er'/\After b (((B++L).set e.m s'.M).set e.p (s'.Bk e.m)) i key W':=fun L er he s' hs=>by
  subst he;subst hs;refine⟨_,_,rfl,⟨fun e=>absurd e (by omega),fun e=>absurd e (by omega),fun e=>absurd e (by omega),fun _ _=> .inr ⟨hh,e,heq,rfl,rfl⟩⟩,?_⟩;have sw:=(w.more L).st hem;exact⟨by rw[ZA,ZA,Za];omega,(kt.trans (KeepT.more _ _)).trans sw.keepT,sp,(w.more L).upd heq _⟩
 refine fo ?_;refine go0 (ai hB (ai ob (ai e0 (ai e1 e2)))) ?_;refine gc0 (ai hB (ai ob (ai e0 (ai e1 e2)))) ?_;refine c.mono ?_;rintro v h' ⟨rfl,L,rfl⟩;have sw:=(w.more L).st hem;have ob:=azc ob L;obtain⟨B1,hB1⟩:=Ex (B++L);have fin:=fin L;dsimp only at sw ob⊢;simp only[hB1]at sw ob fin⊢;rcases h2 with rfl|rfl
 ·have cl:=cyl (h:=⟨B1,t⟩) sw meT (by decide) 1000;unfold meT at cl;have e3:((3:Int)==3)=true:=rfl;refine go0 (ai ob e3) ?_;refine gc0 (ai ob e3) ?_;refine cl.mono ?_;rintro v h' ⟨rfl,rfl⟩;refine go0 ti ?_;exact⟨_,le_refl _,rfl,fin _ rfl _ rfl⟩
 ·have cl:=bwi (h:=⟨B1,t⟩) sw meT;unfold meT at cl;have e3:((4:Int)==3)=false:=rfl;have e4:((4:Int)==4)=true:=rfl;refine go0 (ai ob (ai e3 e4)) ?_;refine gc0 (ai ob (ai e3 e4)) ?_;refine cl.mono ?_;rintro v h' ⟨rfl,rfl⟩;refine go0 ti ?_;exact⟨_,le_refl _,rfl,fin _ rfl _ rfl⟩
theorem dvl(hkey:Seal.check key=0)(w:WsAt h.b i key sp W)(k:Int)(hk:0<=k)(n:List UInt8)(hn:n.length<=2000000)(os:List Sf.Outp)(full:Bool)(q:Nat)(hc:CutW W n q)
  (ok:∀e∈W,EntOk e) (hl:∀e∈W,(stOf e).insts.length+(stOf e).pends.length<=1000000) (hs:∀e∈W,-1000000<=(stOf e).ser/\(stOf e).ser<=1000000)
  (hin:∀e∈W,Sf.StIn (nextS (stOf e) os full)) (hE:∀e∈W,(Sf.stE 2 (nextS (stOf e) os full)).length+20<=1000000000):
  AC 11 [.ptr i 0,.agg (opA k n os full)] h fun v h'=>h'.t=h.t/\∃W' er,v=.int .i64 er/\DoR key W k n os full q W' er/\After h.b h'.b i key W':=by
 rcases Int.lt_or_le 4 k with h4|h4
 ·refine(dj3 w k n os full h4).mono ?_;rintro v h' ⟨rfl,rfl⟩;exact⟨rfl,W,_,rfl,⟨fun e=>absurd e (by omega),fun e=>absurd e (by omega),fun _=>⟨rfl,rfl⟩,fun _ e=>absurd e (by omega)⟩,⟨by rw[Za];omega,opK _ _,sp,w.more _⟩⟩
 rcases(show k=0\/k=1\/2<=k by omega)with rfl|rfl|h2
 ·exact dj1 hkey w n hn os full q hc
 ·exact dj8 w n os full q hc ok hl
 cases hh:hasW W n q with
 |false=>exact dvc w k h2 h4 n os full q hc hh
 |true=>
  rcases(show k=2\/(k=3\/k=4) by omega)with rfl|h3
  ·have hq:=bjl hh;have hem:=Zl hq;refine(djl w n q hc hh W[q] (Zj hq) (ok _ hem) os full (hs _ hem).1 (hs _ hem).2 (hin _ hem) (hE _ hem)).mono ?_;rintro v h' ⟨rfl,h1,h2,h3,h4⟩;exact⟨h1,_,_,rfl,⟨fun e=>absurd e (by decide),fun e=>absurd e (by decide),fun e=>absurd e (by decide),fun _ _=> .inr ⟨hh,_,Zj hq,rfl,rfl⟩⟩,⟨h2,h3,sp,h4⟩⟩
  ·exact djv w k h3 n os full q hc hh
end
end AX
end
section
open Go.RowKit
namespace AX
open Sto
def st0(lin:List UInt8):Sf.St:=⟨lin,0,[],[],[]⟩
theorem axk(key lin:List UInt8):(newS key lin).own=[]/\(newS key lin).lin=lin/\(newS key lin).key=key:=by
 unfold newS newK Sto.keep;split
 ·exact⟨rfl,rfl,rfl⟩
 ·split<;>exact⟨rfl,rfl,rfl⟩
theorem bqp{key lin:List UInt8}(hk:Seal.check key=0)(h1:lin≠[])(h2:lin.length<=64)(h3:Str.valid lin=true):Vs (newS key lin) ([]++[st0 lin]):=by
 have e0:=Sto.new_ok hk h1 h2 h3;have ht:Sto.txt lin=true:=by unfold Sto.txt;rw[h3,ZX,Y2];exact h1
 unfold newE at e0;rw[if_neg (by simp[hk]),if_neg (by rw[ht];decide)]at e0;exact keep_vs (s:=Sto.new key lin) (wr:=[]) (st0 lin) hk rfl (by decide) (fun n h=>absurd h (by simp)) (fun n b h=>by cases h)
  ⟨by unfold st0;show lin.length<=_;omega,by simp[st0],by simp[st0],by simp[st0],by simp[st0],by simp[st0],by simp[st0]⟩ ⟨by simp[st0],by simp[st0]⟩ e0
theorem Sto.Vs.last{s:Sto}{wr:List Sf.St}{st:Sf.St}(v:Vs s (wr++[st])):s.at' s.latest=(st,0):=by
 have hl:=v.lat;rw[Za,Yi]at hl;have:=v.at' wr.length (by rw[Za,Yi];omega);rw[List.getElem_concat_length rfl]at this;rw[show s.latest=(wr.length:Int) by omega];exact this
theorem Sto.Vs.stOf{e:Ent}{wr:List Sf.St}{st:Sf.St}(v:Vs e.s (wr++[st])):stOf e=st:=by
 unfold AX.stOf;rw[v.last]
theorem Sto.Vs.ok{e:Ent}{wr:List Sf.St}{st:Sf.St}(v:Vs e.s (wr++[st]))(ho:OutsOk st.outs):EntOk e:=
 ⟨by rw[v.stOf];exact v.last,v.keyLen,fun b h=>v.find _ b h,by rw[v.stOf];exact ho⟩
theorem bwx:OutsOk []:=⟨List.Pairwise.nil,by simp,by simp⟩
def mainN:List UInt8:=[109,97,105,110]
def bvv:AX.AFn:=⟨17,aS [aR 2 (.mv (.c (.nilp))),aR 3 (.mv (aI 0))] (.seq (aS [aM 7 0,aR 8 (.call 27 [.t 7,.c (.str [109,97,105,110])]),aM 6 8,aE 9 6 0,aE 10 6 1,aM 4 9,aM 5 10] (aS [aM 11 5,aR 12 (.bin .neq (.t 11) (aI 0))] (.cond (.t 12) (aS [aM 13 5,aR 2 (.mv (.c (.nilp))),aM 3 13] (.ret)) (.skip)))) (aS [aM 14 0,aR 15 (.build [.str [],.bool false,.sl 0 .nil []] [(0,1,.t 14),(1,1,.c (.bool true))]),aR 16 (.box 72 (.t 15)),aM 2 16,aR 3 (.mv (aI 0))] (.ret))),[.t 2,.t 3]⟩
theorem dz3:AX.compFn Tryz.prog 9=some bvv:=by kernel_rfl
theorem bk1{key:List UInt8}(hk:Seal.check key=0)(h:Hp):AC 9 [.str key] h fun v h'=>∃i,v=.tup [.ptr i 0,.int .i64 0]/\h'.t=h.t/\h.b.length<=h'.b.length/\KeepT h.b h'.b/\WsAt h'.b i key (.sl 0 .nil []) []:=by
 have c:=cx7 (lin:=mainN) hk (by decide) (by decide) (by decide +kernel) h;unfold mainN at c;obtain⟨s,hs⟩:=Ex (newS key [109,97,105,110]);rw[hs]at c;obtain⟨b,t⟩:=h;dsimp only at c⊢;have hw:WsAt (b++[s.M,s.Bk b.length]++[setC key (.sl 0 .nil [])]) (b++[s.M,s.Bk b.length]).length key (.sl 0 .nil []) []:=
  ⟨Zt,.nil,by simp,by simp,by simp,List.Pairwise.nil,by simp⟩
 have kt:KeepT b (b++[s.M,s.Bk b.length]++[setC key (.sl 0 .nil [])]):=(KeepT.more _ _).trans (KeepT.more _ _);have ln:b.length<=(b++[s.M,s.Bk b.length]++[setC key (.sl 0 .nil [])]).length:=by rw[Za,Za];omega
 obtain⟨B,hB⟩:=Ex (b++[s.M,s.Bk b.length]);rw[hB]at c hw kt ln;unfold setC at hw kt ln;refine azf mixedT dz3 (by simp[bvv]) ?_;dsimp only[bvv];refine go0 ti ?_;refine gc0 ti ?_;refine c.mono ?_;rintro v h' ⟨rfl,rfl⟩;refine go0 ti ?_;exact⟨_,le_refl _,_,rfl,rfl,ln,kt,hw⟩
end AX
end
end Go.Proofs.YthhpocnmfknalaaGreatDoor
