/- Part of what the proof needs. -/
import Derived.Test.YthhpocnmfknalaaGreatDoorMFrWs3Y
set_option maxHeartbeats 4000000
set_option maxRecDepth 100000
set_option linter.all false
namespace Go.Proofs.YthhpocnmfknalaaGreatDoor
section
open Go.RowKit
open Go.Op (bytesLess)
namespace AX
open Sto
theorem dzo(key name:List UInt8)(l:List Sf.Outp)(ho:∀o∈l,o.value.lens):
  AC 3 [.str key,.str name,.sl 7 .no (l.map Sf.Outp.cells)] ⟨[],[]⟩ fun r _=>r=.bool true:=by
 have aw:=bkb;have cf:=bkq key [⟨0,name,l,false⟩] (fun x hx=>by rw[Zy.1 hx];exact ho);have hcells:([⟨0,name,l,false⟩]:List Op51).map Op51.cells=[[.int .u8 0,.str name,.sl 7 .no (l.map Sf.Outp.cells),.bool false]]:=rfl;rw[hcells]at cf;have cf':∀h,AT 7 [.str key,.sl 4 (.tok 0) [[.int .u8 0,.str name,.sl 7 .no (l.map Sf.Outp.cells),.bool false]]] h (.bool (awc key [⟨0,name,l,false⟩])):=fun h=>
  ACall.args (as':=[.str key,.sl 4 .no [[.int .u8 0,.str name,.sl 7 .no (l.map Sf.Outp.cells),.bool false]]]) ⟨axc _,⟨rfl,.inl rfl,.inl rfl⟩,trivial⟩ (cf h)
 clear cf hcells;obtain⟨OS,hOS⟩:=Ex (l.map Sf.Outp.cells);rw[hOS]at cf'⊢;refine fo ?_;cases hf:awc key [⟨0,name,l,false⟩]with
 |false=>
  rw[hf]at cf';refine azq ti (ai cf' (ai aw ti)) ?_;exact Fn rfl
 |true=>
 rw[hf]at cf';obtain⟨_,hkey,hok⟩:=bqq hf (fun x hx=>by rw[Zy.1 hx];exact Int.le_refl 0);have hok:=hok _ (Zy.2 rfl);have hv:OutsV l:=hok.outs;have hn:name.length<=2000000:=by have:name.length<=100:=hok.name;omega
 refine go0 ti ?_;refine gc0 ti ?_;refine(cf' _).mono ?_;rintro v h' ⟨rfl,rfl⟩;refine go0 ti ?_;refine gc0 ti ?_;refine(aku hkey _).mono ?_;rintro v ⟨B,T⟩ ⟨i,rfl,rfl,-,-,w⟩;by_cases he:crE [] name 0=0
 rotate_left
 ·have c1:=ajp (h:=⟨B,[(25,4,1)]⟩) w name (Zs hn (by decide)) 0 (aj4 _) he;obtain⟨E,hE⟩:=Ex (crE [] name 0);rw[hE]at c1 he;have e1:(E !=0)=true:=by simp[he]
  refine go0 ti ?_;refine gc0 ti ?_;refine c1.mono ?_;rintro v h' ⟨rfl,L,rfl⟩;refine go0 e1 ?_;refine gc0 e1 ?_;refine(aw _).mono ?_;rintro v h' ⟨rfl,rfl⟩;refine go0 ti ?_;exact Fn rfl
 have hid:=(avb he).1;have c1:=aqx (h:=⟨B,[(25,4,1)]⟩) w hkey name 0 (aj4 _) he;refine go0 ti ?_;refine gc0 ti ?_;refine c1.mono ?_;rintro v ⟨B1,T⟩ ⟨rfl,rfl,⟨sp,p,m,w⟩,-,-⟩;have w:WsAt B1 i key sp [⟨name,newS key name,p,m⟩]:=w;have v0:=EInv.new hkey hid p m 0;obtain⟨e0,he0⟩:=Ex ((⟨name,newS key name,p,m⟩:Ent));have n0:e0.name=name:=by rw[<-he0]
 have o0:e0.s.own=[]:=by rw[<-he0];exact(aqv key name).1
 rw[he0]at w v0;clear he0;obtain⟨k0,hh0⟩:=ayt n0;have f0:=v0.few (by decide);have x0:=v0.next (by decide) true hv;have c2:=cwf (h:=⟨B1,[(25,4,1)]⟩) w name 0 k0 hh0 e0 rfl v0.ok l true (by omega) (by omega) x0.2.2.1 (by have:=x0.2.1;omega);obtain⟨y1,y2,y3,y4⟩:=v0.wr (by decide) true hv;rw[y1,hOS]at c2;refine go0 ti ?_;refine gc0 ti ?_;refine c2.mono ?_;rintro v ⟨B2,T⟩ ⟨rfl,rfl,-,-,w⟩;obtain⟨e1,he1⟩:=Ex (({ e0 with s:=(wrS e0.s (nextS (stOf e0) l true)).1 }:Ent));have w:WsAt B2 i key sp [{ e0 with s:=(wrS e0.s (nextS (stOf e0) l true)).1 }]:=w;have n1:e1.name=name:=by rw[<-he1];exact n0
 have o1:e1.s.own=[]:=by rw[<-he1];exact y2.trans o0
 rw[he1]at w y3 y4;clear he1 c2;obtain⟨k1,hh1⟩:=ayt n1;have q1:(stOf e1).insts.length+(stOf e1).pends.length=1:=by rw[y3];rfl
 have c3:=avr (h:=⟨B2,[(25,4,1)]⟩) w name 0 k1 hh1 e1 rfl (stOf e1) y4.ok.rd (by omega) y4.ok.kl y4.ok.hb;rw[show dlE e1 (stOf e1)=38 by unfold dlE;rw[if_neg (by simp[o1]),if_pos (by omega)]]at c3;refine go0 ti ?_;refine gc0 ti ?_;refine c3.mono ?_;rintro v ⟨B3,T⟩ ⟨rfl,rfl,hb3,-⟩;obtain⟨L3,rfl⟩:=hb3 (by decide);have w:=w.more L3;obtain⟨B3,hB3⟩:=Ex (B2++L3);simp only[hB3]at w⊢;have f1:=y4.few (by decide);have x1:=y4.next (by decide) false hv;have c4:=cwf (h:=⟨B3,[(25,4,1)]⟩) w name 0 k1 hh1 e1 rfl y4.ok l false (by omega) (by omega) x1.2.2.1 (by have:=x1.2.1;omega);obtain⟨z1,z2,z3,z4⟩:=y4.wr (by decide) false hv;rw[z1,hOS]at c4;refine go0 ti ?_;refine gc0 ti ?_;refine c4.mono ?_;rintro v ⟨B4,T⟩ ⟨rfl,rfl,-,-,w⟩;obtain⟨e2,he2⟩:=Ex (({ e1 with s:=(wrS e1.s (nextS (stOf e1) l false)).1 }:Ent));have w:WsAt B4 i key sp [{ e1 with s:=(wrS e1.s (nextS (stOf e1) l false)).1 }]:=w;have n2:e2.name=name:=by rw[<-he2];exact n1
 have o2:e2.s.own=[]:=by rw[<-he2];exact z2.trans o1
 rw[he2]at w z3 z4;clear he2 c4;obtain⟨k2,hh2⟩:=ayt n2;have q2:(stOf e2).insts.length+(stOf e2).pends.length=0:=by rw[z3];rfl
 have c5:=avr (h:=⟨B4,[(25,4,1)]⟩) w name 0 k2 hh2 e2 rfl (stOf e2) z4.ok.rd (by omega) z4.ok.kl z4.ok.hb;rw[show dlE e2 (stOf e2)=0 by unfold dlE;rw[if_neg (by simp[o2]),if_neg (by omega)]]at c5;refine go0 ti ?_;refine gc0 ti ?_;refine c5.mono ?_;rintro v ⟨B5,T⟩ ⟨rfl,rfl,-,g5⟩;obtain⟨⟨sp5,w⟩,-,-⟩:=g5 rfl;have w:WsAt B5 i key sp5 []:=w;have c6:=akt (h:=⟨B5,[(25,4,1)]⟩) w;simp only[Z6,strsA]at c6;refine go0 ti ?_;refine gc0 ti ?_;refine c6.mono ?_;rintro v h' ⟨rfl,L6,T6,rfl⟩;have w:=w.more L6;obtain⟨B6,hB6⟩:=Ex (B5++L6)
 try dsimp only
 simp only[hB6]at w⊢;have u0:(((0:Nat):Int)!=0)=false:=rfl;have c7:=bzm (h:=⟨B6,T6⟩) w name 0 (aj4 _) rfl;refine go0 u0 ?_;refine gc0 u0 ?_;refine c7.mono ?_;rintro v h' ⟨rfl,L7,rfl⟩;have w:=w.more L7;obtain⟨B7,hB7⟩:=Ex (B6++L7)
 try dsimp only
 simp only[hB7]at w⊢;have c8:=aqx (h:=⟨B7,T6⟩) w hkey name 0 (aj4 _) he;refine go0 ti ?_;refine gc0 ti ?_;refine c8.mono ?_;rintro v ⟨B8,T⟩ ⟨rfl,rfl,⟨sp8,p8,m8,w⟩,-,-⟩;have w:WsAt B8 i key sp8 [⟨name,newS key name,p8,m8⟩]:=w;obtain⟨k8,hh8⟩:=ayt (e:=⟨name,newS key name,p8,m8⟩) (n:=name) rfl;have c9:=axa (h:=⟨B8,T⟩) w name 0 k8;rw[hh8,if_pos rfl]at c9;have c9:AC _ _ _ fun v h'=>v=.tup [.ptr p8 0,.int .i64 0]/\∃L,h'=⟨B8++L,T⟩:=c9
 refine go0 ti ?_;refine gc0 ti ?_;refine c9.mono ?_;rintro v h' ⟨rfl,L9,rfl⟩;have v8:=EInv.new hkey hid p8 m8 0;have ok8:=v8.ok;have s8:stOf ⟨name,newS key name,p8,m8⟩=st0 name:=by
  obtain⟨n1,n2,n3⟩:=az2 hid;exact Vs.stOf (e:=⟨name,newS key name,p8,m8⟩) (av2 hkey n1 n2 n3)
 have sw:=(w.more L9).st (Zy.2 rfl);obtain⟨B9,hB9⟩:=Ex (B8++L9);dsimp only at sw⊢;simp only[hB9]at sw⊢;have c10:=awy (h:=⟨B9,T⟩) sw ok8.kl ok8.hb;have hrd:=ok8.rd;rw[hrd,s8]at c10;unfold st0 at c10;simp only[Sf.St.A,Z6]at c10;have ce:=bvd (st0 name) ⟨by simp[st0],by simp[st0],by simp[st0],by simp[st0],by simp[st0]⟩;unfold st0 at ce;simp only[Sf.St.A,Z6]at ce;have ce':∀h,AT 16 [.agg [.str name,.int .i64 0,.sl 13 .no [],.sl 3 .no [],.sl 7 .no []],.agg [.str name,.int .i64 0,.sl 0 .nil [],.sl 0 .nil [],.sl 0 .nil []]] h (.bool true):=fun h=>
  ACall.args (as':=[.agg [.str name,.int .i64 0,.sl 13 .no [],.sl 3 .no [],.sl 7 .no []],.agg [.str name,.int .i64 0,.sl 13 .no [],.sl 3 .no [],.sl 7 .no []]]) ⟨axc _,⟨azf _,azf _,⟨rfl,.inr rfl,.inl rfl⟩,⟨rfl,.inr rfl,.inl rfl⟩,⟨rfl,.inr rfl,.inl rfl⟩,trivial⟩,trivial⟩ (ce h)
 clear ce;refine go0 ti ?_;refine gc0 ti ?_;refine c10.mono ?_;rintro v h' ⟨rfl,rfl⟩;refine go0 ti ?_;refine gc0 ti ?_;refine(ce' _).mono ?_;rintro v h' ⟨rfl,rfl⟩;refine go0 ti ?_;refine gc0 ti ?_;refine(aw _).mono ?_;rintro v h' ⟨rfl,rfl⟩;refine go0 ti ?_;exact Fn rfl
end AX
end
section
open Go.RowKit Go.ChangeShapes Go.WideShapes Go.Deep
mutual
def D.bulk:D->Nat
 |.int ..=>1
 |.str l=>l.length+1
 |.bool _=>1
 |.agg l=>D.bulks l+1
 |.sl _ l=>D.bulks l+1
def D.bulks:List D->Nat
 |[]=>0
 |d::l=>d.bulk+D.bulks l
end
theorem byj{H:Type}:∀(l:List D) (xs:List (DataW H)),l.length=xs.length->(∀i (hi:i<l.length) (hj:i<xs.length),l[i].bulk<=Rows.uptoBulk xs[i])->D.bulks l<=Rows.uptoBulkAll xs
 |[],[],_,_=>by rw[D.bulks];exact ZH _
 |[],_::_,h,_=>by simp at h
 |_::_,[],h,_=>by simp at h
 |d::l,x::xs,h,hb=>by
  rw[D.bulks,Rows.uptoBulkAll];exact Nat.add_le_add (hb 0 (by simp) (by simp)) (byj l xs (by simpa using h) fun i hi hj=>hb (i+1) (Nat.succ_lt_succ hi) (Nat.succ_lt_succ hj))
section
variable {H:Type} {enc:TypeId×Value->H} {P:Program} {w:World} {base:Nat} {spare:Nat->Bool} {held:Bool} {K:List TypeId}
theorem ako{n:Nat}(ih:∀t,t∈K->∀cs x,DataW.trod enc P w base spare held n t cs=some x->∃d,Rd w (Old w) d cs/\Conf P d t/\d.bulk<=Rows.uptoBulk x.1)(cs:List Value):
  ∀(fs:List Field) (o tot:Nat) (ys:List (DataW H×List MemPlace)),(∀f∈fs,f.type∈K)->flat P fs o=some tot->cs.length=tot->ys.length=fs.length ->
   (∀(i:Nat) (f:Field),fs[i]?=some f->DataW.trod enc P w base spare held n f.type ((cs.drop f.offset).take (P.cellsOf f.type))=ys[i]?) ->
   ∃l,RdAgg w (Old w) l (cs.drop o)/\ConfL P l (fs.map (·.type))/\D.bulks l<=Rows.uptoBulkAll (ys.map (·.1))
 |[],o,tot,ys,hK,hf,hc,hy,hg=>by
  simp only[flat,Zc]at hf;exact⟨[],by unfold RdAgg;exact ZP (by omega),by unfold ConfL;rfl,by unfold D.bulks;exact ZH _⟩
 |f::fs,o,tot,ys,hK,hf,hc,hy,hg=>by
  simp only[flat]at hf;split at hf
  ·next hfo=>
   match ys,hy with
   |y::ys,hy=>
    have h0:=hg 0 f rfl;obtain⟨d,hd,hcf,hdb⟩:=ih f.type (hK f (by simp)) _ _ h0;obtain⟨l,hl,hcl2,hlb⟩:=ako ih cs fs (o+P.cellsOf f.type) tot ys (fun g hg=>hK g (by simp[hg])) hf hc (by simpa using hy) (fun i g hi=>by simpa using hg (i+1) g (by simpa using hi));refine⟨d::l,?_,?_,?_⟩
    ·unfold RdAgg;refine⟨_,cs.drop (o+P.cellsOf f.type),?_,by rw[hfo]at hd;exact hd,hl⟩;rw[<-Y5,Yj]
    ·unfold ConfL;exact⟨f.type,fs.map (·.type),rfl,hcf,hcl2⟩
    ·rw[ZO,Rows.uptoBulkAll,D.bulks];exact Nat.add_le_add hdb hlb
  ·cases hf
theorem bq0(hP:plainAll P K=true):∀(n:Nat) (t:TypeId),t∈K->∀cs x,DataW.trod enc P w base spare held n t cs=some x->∃d,Rd w (Old w) d cs/\Conf P d t/\d.bulk<=Rows.uptoBulk x.1
 |0,t,hK,cs,x,h=>by simp[DataW.trod]at h
 |n+1,t,hK,cs,x,h=>by
  have hk:plainB P K t=true:=by
   unfold plainAll at hP;rw[ZE]at hP;exact hP t hK
  unfold plainB at hk;split at hk
  ·next k hu=>
   obtain⟨m,rfl,rfl,hw⟩:=DataW.trod_int hu h;exact⟨.int k m,by unfold Rd;rfl,by unfold Conf;exact⟨hu,hw⟩,by unfold D.bulk Rows.uptoBulk;exact Ze _⟩
  ·next hu=>
   obtain⟨s,rfl,rfl,hs⟩:=DataW.trod_string hu h;exact⟨.str s.data.toList,by unfold Rd;simp,by unfold Conf;exact⟨hu,by simpa using hs⟩,by unfold D.bulk Rows.uptoBulk;exact Ze _⟩
  ·next hu=>
   obtain⟨b,rfl,rfl⟩:=DataW.trod_bool hu h;exact⟨.bool b,by unfold Rd;rfl,by unfold Conf;exact hu,by unfold D.bulk Rows.uptoBulk;exact Ze _⟩
  ·next fs hu=>
   rw[Zf,ZE,ZS]at hk;obtain⟨xs,n',hn,rfl,hcl,hxl,hg⟩:=DataW.trod_struct hu h;obtain rfl:n'=n:=by omega
   obtain⟨l,hl,hcf,hlb⟩:=ako (fun t hK cs x h=>bq0 hP n' t hK cs x h) cs fs.toList 0 _ xs (fun f hf=>by simpa using hk.1 f hf) hk.2 hcl (by simpa using hxl) (fun i f hi=>hg i f (by simpa using hi));exact⟨.agg l,by unfold Rd;exact hl,by unfold Conf;exact⟨fs,hu,hcf⟩,by rw[D.bulk,Rows.uptoBulk];exact Nat.succ_le_succ hlb⟩
  ·next e hu=>
   rw[Zf,Zv]at hk;have heK:e∈K:=by simpa using hk.1
   have hpos:=hk.2;rcases DataW.trod_slice hu h with⟨rfl,rfl⟩|⟨a,len,cap,elems,rest,n',hn,rfl,rfl,hb,hlc,hcm,hel,hi,_⟩
   ·exact⟨.sl (P.cellsOf e) [],by unfold Rd;exact⟨none,0,rfl,Ze _,by unfold RdRow;trivial⟩,by unfold Conf;exact⟨e,hu,rfl,by unfold ConfA;trivial,by simp⟩,by simp[D.bulk,D.bulks,Rows.uptoBulk]⟩
   ·obtain rfl:n'=n:=by omega
    have hex:∀i,i<len->∃d:D,∃c,c.length=P.cellsOf e/\(∀j,j<P.cellsOf e->w.cell? ((a.add (i*P.cellsOf e)).add j)=c[j]?)/\Rd w (Old w) d c/\Conf P d e/\∀y,elems[i]?=some y->d.bulk<=Rows.uptoBulk y.1:=by
     intro i hil;have h1:=hi i hil;have h2:elems[i]?=some (elems[i]'(by omega)):=Zh (by omega);rw[h2]at h1;obtain⟨c,hc,ht⟩:=Zd.1 h1;obtain⟨d,hd,hcf,hdb⟩:=bq0 hP n' e heK c _ ht;obtain⟨_,hcl,hat⟩:=World.cells?_some hc;exact⟨d,c,hcl,hat,hd,hcf,fun y hy=>by rw[h2]at hy;injection hy with hy;subst hy;exact hdb⟩
    haveI:Inhabited D:=⟨.bool true⟩
    obtain⟨f,hf⟩:=choose_lt hex;refine⟨.sl (P.cellsOf e) ((List.range len).map f),?_,?_,?_⟩
    ·unfold Rd;refine⟨some a,cap,by simp,by simpa using hlc,RdRow.of _ _ _ fun k hk=>?_⟩;have hkl:k<len:=by simpa using hk
     obtain⟨c,hcl,hat,hrd,_⟩:=hf k hkl;obtain⟨c0,hcl0,hat0,_,_⟩:=hf 0 (by omega);obtain⟨g,off,sp⟩:=a;have h0:=hat0 0 hpos;rw[Zh (by omega)]at h0;have hs:sp=none:=by
      have:=(aqw h0).1;simpa [Addr.add]using this
     subst hs;have h1:=hat 0 hpos;rw[Zh (by omega)]at h1;have hlt:=(aqw h1).2;rw[aq6,aq6]at hlt;refine⟨g,off,c,rfl,hlt,hcl,fun j hj=>?_,by simpa using hrd⟩;have:=hat j hj;rw[aq6,aq6]at this;rw[Yl];exact this
    ·unfold Conf;exact⟨e,hu,rfl,bwn P e _ fun k hk=>by simpa using (hf k (by simpa using hk)).choose_spec.2.2.2.1,by simp;omega⟩
    ·rw[D.bulk,Rows.uptoBulk]
     have:=byj ((List.range len).map f) (elems.map (·.1)) (by simp;omega) (fun i hi hj=>by
      obtain⟨c,_,_,_,_,h9⟩:=hf i (by simpa using hi)
      simpa using h9 (elems[i]'(by simpa using hj)) (Zh _))
     omega
  ·cases hk
end
end
section
open Go.RowKit Go.ChangeShapes Go.WideShapes
theorem ak4{α:Type}{f:α->D}{Q:α->Prop}:∀l:List D,(∀d∈l,∃x,d=f x/\Q x)->∃xs:List α,l=xs.map f/\∀x∈xs,Q x
 |[],h=>⟨[],rfl,by simp⟩
 |d::l,h=>by
  obtain⟨x,rfl,hx⟩:=h d (by simp);obtain⟨xs,rfl,hxs⟩:=ak4 l fun d hd=>h d (by simp[hd])
  exact⟨x::xs,rfl,Y6.2 ⟨hx,hxs⟩⟩
namespace Sf
def Inst.toD(x:Inst):D:=.agg [.str x.addr,.str x.dep,.str x.id,.str x.typ,x.attrs.toD,.int .i64 x.ver,.bool x.tainted,.bool x.first,.sl 1 (x.deps.map .str)]
def Pend.toD(p:Pend):D:=.agg [.str p.addr,.str p.typ,.str p.tok]
def Outp.toD(o:Outp):D:=.agg [.str o.name,o.value.toD,.bool o.sens]
def St.toD(s:St):D:=.agg [.str s.lin,.int .i64 s.ser,.sl 13 (s.insts.map Inst.toD),.sl 3 (s.pends.map Pend.toD),.sl 7 (s.outs.map Outp.toD)]
structure St.Wf(s:St):Prop where
 insts:∀x∈s.insts,x.attrs.Wf
 outs:∀x∈s.outs,x.value.Wf
 ser:(Lit.int .i64 s.ser).wf=true
theorem Inst.cells_toD(x:Inst):x.toD.cells=x.cells:=by
 obtain⟨a,d,i,t,⟨k,n,s,is,ks⟩,v,tn,fi,ds⟩:=x;unfold Inst.toD Inst.cells;simp only[D.cells,D.cellsL,V.cells_toD,V.cells,ave,ZD,Zw,Zx]
theorem Pend.cells_toD(x:Pend):x.toD.cells=x.cells:=by
 unfold Pend.toD Pend.cells;simp only[D.cells,D.cellsL,ZD,Zw,Zx]
theorem Outp.cells_toD(x:Outp):x.toD.cells=x.cells:=by
 obtain⟨m,⟨k,n,s,is,ks⟩,b⟩:=x;unfold Outp.toD Outp.cells;simp only[D.cells,D.cellsL,V.cells_toD,V.cells,ave,ZD,Zw,Zx]
theorem rows_map{α:Type}(f:α->D)(g:α->List AX.A)(h:∀x,(f x).cells=g x):∀l:List α,D.rows (l.map f)=l.map g
 |[]=>by simp[D.rows]
 |x::l=>by simp only[ZO,D.rows,h,rows_map f g h l]
theorem St.cells_toD(s:St):AX.A.agg s.toD.cells=s.A:=by
 unfold St.toD St.A;simp only[D.cells,D.cellsL,rows_map _ _ Inst.cells_toD,rows_map _ _ Pend.cells_toD,rows_map _ _ Outp.cells_toD,ZD,Zw,Zx]
theorem conf_outp{d:D}(h:Conf Tryz.prog d 55):∃x:Outp,d=x.toD/\x.value.Wf:=by
 obtain⟨l',rfl,h2⟩:=axv Tryz.underlying55 h;obtain⟨d0,l1,rfl,c0,h2⟩:=azx h2;obtain⟨d1,l2,rfl,c1,h2⟩:=azx h2;obtain⟨d2,l3,rfl,c2,h2⟩:=azx h2;obtain rfl:=aw5 h2;obtain⟨a,rfl,_⟩:=ak2 Tryz.underlying9 c0;obtain⟨v,rfl,hv⟩:=ckm c1;obtain⟨t,rfl⟩:=bvg Tryz.underlying4 c2;exact⟨⟨a,v,t⟩,rfl,hv⟩
end Sf
namespace Sf
end Sf
end
section
open Go.RowKit Go.ChangeShapes Go.WideShapes
namespace AX
section
variable {H:Type} {enc:TypeId×Value->H} {w:World} {base:Nat} {spare:Nat->Bool} {held:Bool} {r:Reach} {b0:Nat} {v:Value} {d:DataW H} {p:List MemPlace}
theorem bz5{K:List TypeId}{t e:TypeId}(hK:plainAll Tryz.prog K=true)(ht:t∈K)(hu:Tryz.prog.underlying t=some (.slice e))(hval:Value.okWide Tryz.prog w r b0 t v)(h:DataW.Trod enc Tryz.prog w base spare held t v d p):
  ∃x:List D,ConfA Tryz.prog x e/\x.length<=maxLen/\D.bulks x<=Rows.uptoBulk d/\Rep (Ctx.of w) (.sl (Tryz.prog.cellsOf e) .no (D.rows x)) v:=by
 obtain⟨a,len,cap,rfl⟩:=okWide_slice hu hval;obtain⟨fuel,hf⟩:=h;obtain⟨x,h1,h2,h3⟩:=bq0 hK fuel t ht _ _ hf;obtain⟨l,rfl,h4,h5⟩:=axj hu h2;refine⟨l,h4,h5,?_,?_⟩
 ·rw[D.bulk]at h3;exact Zs (by omega) h3
 ·have:=dvc h1;rw[D.cells]at this;obtain⟨c,cs',e1,e2,e3⟩:=repL_cons.1 this;rw[azo]at e3;subst e3;injection e1 with e1;rw[e1];exact e2
end
end AX
end
section
open Go.RowKit Go.ChangeShapes Go.WideShapes
namespace AX
structure Outs where
 l:List Sf.Outp
def kOuts:List TypeId:=[22,55,51,48,3,9,4,49,34]
theorem bkc:plainAll Tryz.prog kOuts=true:=by kernel_rfl
section
variable {H:Type} {enc:TypeId×Value->H} {w:World} {base:Nat} {spare:Nat->Bool} {held:Bool} {r:Reach} {b0:Nat} {v:Value} {d:DataW H} {p:List MemPlace}
theorem bqw(hval:Value.okWide Tryz.prog w r b0 22 v)(h:DataW.Trod enc Tryz.prog w base spare held 22 v d p):
  ∃(x:Outs) (_:∀a∈x.l,a.value.Wf),Rep (Ctx.of w) (.sl 7 .no (x.l.map Sf.Outp.cells)) v:=by
 obtain⟨l,h1,h2,h3,h4⟩:=bz5 bkc (by decide) Tryz.underlying22 hval h;obtain⟨xs,rfl,hx⟩:=ak4 l fun d hd=>Sf.conf_outp (ax6 h1 d hd)
 rw[Sf.rows_map Sf.Outp.toD Sf.Outp.cells Sf.Outp.cells_toD]at h4;have hw:Tryz.prog.cellsOf 55=7:=by kernel_rfl
 rw[hw]at h4;exact⟨⟨xs⟩,hx,h4⟩
end
end AX
end
section
open Go.RowKit
namespace AX
theorem cwh(key:List UInt8){n:Nat}(_k:n<=maxLen)(name:List UInt8){n2:Nat}(_k2:n2<=maxLen)(x:Outs)(k:∀a∈x.l,a.value.Wf):
  AC 3 [.str key,.str name,.sl 7 .no (x.l.map Sf.Outp.cells)] ⟨[],[]⟩ fun r _=>r=.bool true:=
 dzo key name x.l fun o ho=>V.Wf.lens o.value (k o ho)
end AX
end
section
open Go.RowKit
open Go.Op (bytesLess)
namespace AX
open Sto
theorem dzt(key name:List UInt8)(hn:name.length<=maxLen)(l:List Op51)(ho:∀x∈l,∀o∈x.outs,o.value.lens)(hkd:∀x∈l,0<=x.kind):
  AC 4 [.str key,.sl 4 .no (l.map Op51.cells),.str name] ⟨[],[]⟩ fun r _=>r=.bool true:=by
 have aw:=bkb;have cf:=bkq key l ho;refine fo ?_;cases hf:awc key l with
 |false=>
  rw[hf]at cf;refine azq ti (ai cf (ai aw ti)) ?_;exact Fn rfl
 |true=>
 rw[hf]at cf;obtain⟨hl20,hkey,hok⟩:=bqq hf hkd;refine go0 ti ?_;refine gc0 ti ?_;refine(cf _).mono ?_;rintro v h' ⟨rfl,rfl⟩;refine go0 ti ?_;refine gc0 ti ?_;refine(aku hkey _).mono ?_;rintro v ⟨B,T⟩ ⟨i,rfl,rfl,-,-,w⟩;by_cases he:crE [] name 0=0
 rotate_left
 ·have c1:=ajp (h:=⟨B,[]⟩) w name hn 0 (aj4 _) he;obtain⟨E,hE⟩:=Ex (crE [] name 0);rw[hE]at c1 he;have e1:(E !=0)=true:=by simp[he]
  refine go0 ti ?_;refine gc0 ti ?_;refine c1.mono ?_;rintro v h' ⟨rfl,L,rfl⟩;refine go0 e1 ?_;refine gc0 e1 ?_;refine(aw _).mono ?_;rintro v h' ⟨rfl,rfl⟩;refine go0 ti ?_;exact Fn rfl
 have hid:=(avb he).1;have c1:=aqx (h:=⟨B,[]⟩) w hkey name 0 (aj4 _) he;refine go0 ti ?_;refine gc0 ti ?_;refine c1.mono ?_;rintro v ⟨B1,T⟩ ⟨rfl,rfl,⟨sp,p,m,w⟩,-,-⟩;have w:WsAt B1 i key sp [⟨name,newS key name,p,m⟩]:=w;have v0:=EInv.new hkey hid p m 0;have s0:stOf ⟨name,newS key name,p,m⟩=st0 name:=by
  obtain⟨n1,n2,n3⟩:=az2 hid;exact Vs.stOf (e:=⟨name,newS key name,p,m⟩) (av2 hkey n1 n2 n3)
 obtain⟨k8,hh8⟩:=ayt (e:=⟨name,newS key name,p,m⟩) (n:=name) rfl;have c2:=axa (h:=⟨B1,[]⟩) w name 0 k8;rw[hh8,if_pos rfl]at c2;have c2:AC _ _ _ fun v h'=>v=.tup [.ptr p 0,.int .i64 0]/\∃L,h'=⟨B1++L,[]⟩:=c2
 obtain⟨e0,he0⟩:=Ex ((⟨name,newS key name,p,m⟩:Ent));have n0:e0.name=name:=by rw[<-he0]
 have p0:e0.p=p:=by rw[<-he0]
 rw[he0]at w v0 s0;clear he0 hh8 k8;have ok0:=v0.ok;have hrd:=ok0.rd;rw[s0]at hrd;have rA:(st0 name).A=.agg [.str name,.int .i64 0,.sl 13 .no [],.sl 3 .no [],.sl 7 .no []]:=by unfold st0;simp only[Sf.St.A,Z6]
 refine go0 ti ?_;refine gc0 ti ?_;refine c2.mono ?_;rintro v h' ⟨rfl,L2,rfl⟩;have w:=w.more L2;obtain⟨B2,hB2⟩:=Ex (B1++L2)
 try dsimp only
 simp only[hB2]at w⊢;have sw:=w.st (Zy.2 rfl);rw[p0]at sw;have c3:=awy (h:=⟨B2,[]⟩) sw ok0.kl ok0.hb;rw[hrd,rA]at c3;refine go0 ti ?_;refine gc0 ti ?_;refine c3.mono ?_;rintro v h' ⟨rfl,rfl⟩;have xb:(B2++[Blk.cells 42 [.str name,.int .i64 0,.sl 13 .no [],.sl 3 .no [],.sl 7 .no []]])[B2.length]?=some (.cells 42 [.str name,.int .i64 0,.sl 13 .no [],.sl 3 .no [],.sl 7 .no []]):=Zl;have w:=w.more [.cells 42 [.str name,.int .i64 0,.sl 13 .no [],.sl 3 .no [],.sl 7 .no []]];obtain⟨B3,hB3⟩:=Ex (B2++[.cells 42 [.str name,.int .i64 0,.sl 13 .no [],.sl 3 .no [],.sl 7 .no []]]);obtain⟨xi,hxi⟩:=Ex (B2.length);rw[hxi]at xb;rw[hB3]at xb w;refine go0 hB3 ?_
 refine azg (fun mm ts hh=>∃(j:Nat) (W:List Ent) (b:List Blk),mm=l.length-j/\j<=l.length/\hh=⟨b,[]⟩/\Live b i key W j/\e0∈W/\b[xi]?=some (.cells 42 [.str name,.int .i64 0,.sl 13 .no [],.sl 3 .no [],.sl 7 .no []]) /\
  (ts 1=.sl 4 .no (l.map Op51.cells)/\ts 2=.str name/\ts 7=.ptr i 0/\ts 9=.ptr p 0/\ts 11=.ptr xi 0/\ts 12=.int .i64 0/\ts 13=.int .i64 (j:Nat))) l.length ?_ ?_
 ·exact⟨0,[e0],B3,rfl,ZH _,rfl,⟨⟨sp,w⟩,fun x hx=>by rw[Zy.1 hx];exact v0⟩,Zy.2 rfl,xb,by(exact azy hxi)⟩
 clear w xb hB3 hB2 c3 sw;rintro mm ts hh ⟨j,W,b,rfl,hj,rfl,lv,hem,xb,ht⟩;rcases Yd j l.length with hlt|hge
 ·have hf:=ayn Op51.cells l j hlt (by omega);have hx:=hok _ (Zk hlt);obtain⟨x,hx'⟩:=Ex (l[j]);rw[hx']at hf hx;have cs:=cyg (h:=⟨b,[]⟩) hkey lv (by omega) x hx;obtain⟨kd,nm,os,fu⟩:=x;dsimp only[Op51.cells,opA]at hf cs;by_cases hne:nm=name
  ·have e1:=bne_bytes.2 hne;refine go0 (ai ht (ai hf e1)) ?_;exact⟨_,by omega,j+1,W,b,rfl,by omega,rfl,⟨lv.at',fun e he=>(lv.inv e he).mono (Nat.le_succ j)⟩,hem,xb,by(exact azy (ai ht hf))⟩
  ·have e1:=bne_bytes.1 hne;refine go0 (ai ht (ai hf e1)) ?_;refine gc0 (ai ht (ai hf e1)) ?_;refine cs.mono ?_;rintro v ⟨b',T⟩ ⟨rfl,W',er,rfl,s⟩;have hm:=s.apart hx hem (by rw[n0];exact Ne.symm hne);have xb':=s.keep _ _ _ (by decide) (by decide) xb;have lv':=s.live;clear s cs;refine go0 (ai ht hf) ?_;exact⟨_,by omega,j+1,W',b',rfl,by omega,rfl,lv',hm,xb',by(exact azy (ai ht hf))⟩
 ·have hf:=ak1 Op51.cells l j hge;obtain⟨sp',w⟩:=lv.at';have sw:=w.st hem;rw[p0]at sw;have c3:=awy (h:=⟨b,[]⟩) sw ok0.kl ok0.hb;rw[hrd,rA]at c3;refine go0 (ai ht hf) ?_;refine gc0 (ai ht hf) ?_;refine c3.mono ?_;rintro v h' ⟨rfl,rfl⟩;have w:=w.more [.cells 42 [.str name,.int .i64 0,.sl 13 .no [],.sl 3 .no [],.sl 7 .no []]];have xb:=azd xb [.cells 42 [.str name,.int .i64 0,.sl 13 .no [],.sl 3 .no [],.sl 7 .no []]];have yb:(b++[Blk.cells 42 [.str name,.int .i64 0,.sl 13 .no [],.sl 3 .no [],.sl 7 .no []]])[b.length]?=some (.cells 42 [.str name,.int .i64 0,.sl 13 .no [],.sl 3 .no [],.sl 7 .no []]):=Zl;obtain⟨b1,hb1⟩:=Ex (b++[.cells 42 [.str name,.int .i64 0,.sl 13 .no [],.sl 3 .no [],.sl 7 .no []]]);rw[hb1]at w xb yb;obtain⟨q,hc⟩:=bqv e0.name W w.srt;obtain⟨_,hh,hp⟩:=cx3 w.srt hem hc;have c4:=axa (h:=⟨b1,[]⟩) w e0.name q hc;rw[hh,if_pos rfl,hp,p0,n0]at c4;have ce:=bvd (st0 name) ⟨by simp[st0],by simp[st0],by simp[st0],by simp[st0],by simp[st0]⟩;rw[rA]at ce;refine go0 (ai ht hb1) ?_;refine gc0 (ai ht hb1) ?_;refine c4.mono ?_;rintro v h' ⟨rfl,L4,rfl⟩;have xb:=azd xb L4;have yb:=azd yb L4;obtain⟨b2,hb2⟩:=Ex (b1++L4);dsimp only at xb yb⊢;simp only[hb2]at xb yb⊢;refine go0 (ai ht (ai xb yb)) ?_;refine gc0 (ai ht (ai xb yb)) ?_;refine(ce _).mono ?_;rintro v h' ⟨rfl,rfl⟩;refine go0 (ai ht (ai xb yb)) ?_;refine gc0 (ai ht (ai xb yb)) ?_;refine(aw _).mono ?_;rintro v h' ⟨rfl,rfl⟩;refine go0 ht ?_;exact Fn rfl
end AX
end
section
open Go.RowKit Go.ChangeShapes Go.WideShapes
namespace AX
def Op51.toD(a:Op51):D:=.agg [.int .u8 a.kind,.str a.name,.sl 7 (a.outs.map Sf.Outp.toD),.bool a.full]
theorem Op51.cells_toD(a:Op51):a.toD.cells=a.cells:=by
 unfold Op51.toD Op51.cells opA;simp only[D.cells,D.cellsL,Sf.rows_map _ _ Sf.Outp.cells_toD,ZD,Zw,Zx]
theorem dxm{n:Int}(h:(Lit.int .u8 n).wf=true):0<=n:=(wf_u8 h).1
theorem cjx{d:D}(h:Conf Tryz.prog d 25):∃x:Op51,d=x.toD/\0<=x.kind/\∀o∈x.outs,o.value.Wf:=by
 obtain⟨l',rfl,h2⟩:=axv Tryz.underlying25 h;obtain⟨d0,l1,rfl,c0,h2⟩:=azx h2;obtain⟨d1,l2,rfl,c1,h2⟩:=azx h2;obtain⟨d2,l3,rfl,c2,h2⟩:=azx h2;obtain⟨d3,l4,rfl,c3,h2⟩:=azx h2;obtain rfl:=aw5 h2;obtain⟨k,rfl,hk⟩:=bqt (k:=.u8) Tryz.underlying5 c0;obtain⟨n,rfl,_⟩:=ak2 Tryz.underlying9 c1;obtain⟨l,rfl,k3,_⟩:=axj Tryz.underlying22 c2;obtain⟨os,rfl,ho⟩:=ak4 l fun d hd=>Sf.conf_outp (ax6 k3 d hd)
 obtain⟨f,rfl⟩:=bvg Tryz.underlying4 c3;have hw:Tryz.prog.cellsOf 55=7:=by kernel_rfl
 rw[hw];exact⟨⟨k,n,os,f⟩,rfl,dxm hk,ho⟩
structure Ops51 where
 l:List Op51
def djh:List TypeId:=[26,25,5,22,55,51,48,3,9,4,49,34]
theorem bjd:plainAll Tryz.prog djh=true:=by kernel_rfl
section
variable {H:Type} {enc:TypeId×Value->H} {w:World} {base:Nat} {spare:Nat->Bool} {held:Bool} {r:Reach} {b0:Nat} {v:Value} {d:DataW H} {p:List MemPlace}
theorem ajv(hval:Value.okWide Tryz.prog w r b0 26 v)(h:DataW.Trod enc Tryz.prog w base spare held 26 v d p):
  ∃(x:Ops51) (_:∀a∈x.l,0<=a.kind/\∀o∈a.outs,o.value.Wf),Rep (Ctx.of w) (.sl 4 .no (x.l.map Op51.cells)) v:=by
 obtain⟨l,h1,h2,h3,h4⟩:=bz5 bjd (by decide) Tryz.underlying26 hval h;obtain⟨xs,rfl,hx⟩:=ak4 l fun d hd=>cjx (ax6 h1 d hd)
 rw[Sf.rows_map Op51.toD Op51.cells Op51.cells_toD]at h4;have hw:Tryz.prog.cellsOf 25=4:=by kernel_rfl
 rw[hw]at h4;exact⟨⟨xs⟩,hx,h4⟩
end
end AX
end
section
open Go.RowKit
namespace AX
theorem cve(key:List UInt8){n:Nat}(_k:n<=maxLen)(x:Ops51)(k:∀a∈x.l,0<=a.kind/\∀o∈a.outs,o.value.Wf)(name:List UInt8)(k2:name.length<=maxLen):
  AC 4 [.str key,.sl 4 .no (x.l.map Op51.cells),.str name] ⟨[],[]⟩ fun r _=>r=.bool true:=
 dzt key name k2 x.l (fun y hy o ho=>V.Wf.lens o.value ((k y hy).2 o ho)) fun y hy=>(k y hy).1
end AX
end
section
open Go.RowKit
open Go.Op (bytesLess)
namespace AX
open Sto
theorem cxk{os:List Sf.Outp}(v:OutsV os){o:Sf.Outp}(h:o∈os):o.value.lens:=Val.chk_lens _ _ _ (v.one h).2.1
theorem bk6(key except:List UInt8)(l:List Op51)(ho:∀x∈l,∀o∈x.outs,o.value.lens)(hkd:∀x∈l,0<=x.kind):
  AC 5 [.str key,.sl 4 .no (l.map Op51.cells),.str except] ⟨[],[]⟩ fun r _=>r=.bool true:=by
 have aw:=bkb;have cf:=bkq key l ho;refine fo ?_;cases hf:awc key l with
 |false=>
  rw[hf]at cf;refine azq ti (ai cf (ai aw ti)) ?_;exact Fn rfl
 |true=>
 rw[hf]at cf;obtain⟨hl20,hkey,hok⟩:=bqq hf hkd;by_cases hex:(except.length:Int)>100
 ·refine azq hex (ai cf (ai aw ti)) ?_;exact Fn rfl
 refine go0 hex ?_;refine gc0 hex ?_;refine(cf _).mono ?_;rintro v h' ⟨rfl,rfl⟩;refine go0 hex ?_;refine gc0 hex ?_;refine(aku hkey _).mono ?_;rintro v ⟨B,T⟩ ⟨i,rfl,rfl,-,-,w⟩;refine go0 ti ?_
 refine azg (fun mm ts hh=>∃(j:Nat) (W:List Ent) (b:List Blk),mm=l.length-j/\j<=l.length/\hh=⟨b,[]⟩/\Live b i key W j /\
  (ts 1=.sl 4 .no (l.map Op51.cells)/\ts 2=.str except/\ts 7=.ptr i 0/\ts 9=.int .i64 (j:Nat))) l.length ?_ ?_
 ·exact⟨0,[],B,rfl,ZH _,rfl,⟨⟨_,w⟩,fun x hx=>by cases hx⟩,by(exact azy ti)⟩
 clear w;rintro mm ts hh ⟨j,W,b,rfl,hj,rfl,lv,ht⟩;rcases Yd j l.length with hlt|hge
 ·have hf:=ayn Op51.cells l j hlt (by omega);have hx:=hok _ (Zk hlt);obtain⟨x,hx'⟩:=Ex (l[j]);rw[hx']at hf hx;have cs:=cyg (h:=⟨b,[]⟩) hkey lv (by omega) x hx;obtain⟨kd,nm,os,fu⟩:=x;dsimp only[Op51.cells,opA]at hf cs;refine go0 (ai ht hf) ?_;refine gc0 (ai ht hf) ?_;refine cs.mono ?_;rintro v ⟨b',T⟩ ⟨rfl,W',er,rfl,s⟩;have lv':=s.live;clear s cs;refine go0 (ai ht hf) ?_;exact⟨_,by omega,j+1,W',b',rfl,by omega,rfl,lv',by(exact azy (ai ht hf))⟩
 have hf:=ak1 Op51.cells l j hge;obtain⟨sp,w⟩:=lv.at';have hi:=lv.inv;have hwl:=w.len;have c5:=bvc (h:=⟨b,[]⟩) w lv.ok except (bxz hi hwl except);have cV:=avs (remV W except) (bxz hi hwl except);unfold remA at c5;by_cases hz:Val.checkZ (remV W except)=0
 rotate_left
 ·rw[if_neg hz]at c5;simp only[V.A,V.cells,V.cellss,strsA,Z6]at c5;obtain⟨Z,hZ⟩:=Ex (Val.checkZ (remV W except));rw[hZ]at c5 hz;have hzb:(Z !=0)=true:=by simp[hz]
  refine go0 (ai ht hf) ?_;refine gc0 (ai ht hf) ?_;refine c5.mono ?_;rintro v h' ⟨rfl,L,rfl⟩;obtain⟨b1,hb1⟩:=Ex (b++L);simp only[hb1];refine go0 hzb ?_;refine gc0 hzb ?_;refine(aw _).mono ?_;rintro v h' ⟨rfl,rfl⟩;refine go0 ti ?_;exact Fn rfl
 rw[if_pos hz]at c5;rw[hz]at cV;have vA:(remV W except).A=.agg [.int .i64 5,.int .i64 0,.str [],.sl 5 .no (V.cellss (vlR (remL W except))),.sl 1 .no (strsA (nmR (remL W except)))]:=by simp only[remV,V.A,V.cells]
 rw[vA]at c5 cV;obtain⟨I,hI⟩:=Ex (V.cellss (vlR (remL W except)));obtain⟨K,hK⟩:=Ex (strsA (nmR (remL W except)));rw[hI,hK]at c5 cV;have lI:I.length=(remL W except).length:=by rw[<-hI];unfold vlR;rw[V.cellss_length,Zj]
 have lK:K.length=(remL W except).length:=by rw[<-hK];unfold nmR strsA;rw[Zj,Zj]
 have gK:∀k (h:k<(remL W except).length),K.getD k []=[.str (remL W except)[k].name]:=fun k h=>by
  rw[<-hK];unfold nmR strsA;rw[List.map_map,azv _ _ k h];rfl
 have gI:∀k (h:k<(remL W except).length),I.getD k []=(outsV (stOf (remL W except)[k]).outs).cells:=fun k h=>by
  rw[<-hI,V.cellss_map];unfold vlR;rw[List.map_map,azv _ _ k h];rfl
 clear hI hK vA;refine go0 (ai ht hf) ?_;refine gc0 (ai ht hf) ?_;refine c5.mono ?_;rintro v h' ⟨rfl,L,rfl⟩;have w:=(w.more L).more [.cells 51 [.int .i64 5,.int .i64 0,.str [],.sl 5 .no I,.sl 1 .no K]];have vb:((b++L)++[Blk.cells 51 [.int .i64 5,.int .i64 0,.str [],.sl 5 .no I,.sl 1 .no K]])[(b++L).length]?=some (.cells 51 [.int .i64 5,.int .i64 0,.str [],.sl 5 .no I,.sl 1 .no K]):=Zl;obtain⟨b1,hb1⟩:=Ex (b++L);simp only[hb1]at w vb⊢;obtain⟨vi,hvi⟩:=Ex (b1.length);rw[hvi]at vb;obtain⟨b2,hb2⟩:=Ex (b1++[.cells 51 [.int .i64 5,.int .i64 0,.str [],.sl 5 .no I,.sl 1 .no K]]);rw[hb2]at w vb;have c6:=akt (h:=⟨b2,[]⟩) w;refine go0 (ai ht hb2) ?_;refine gc0 (ai ht hb2) ?_;refine c6.mono ?_;rintro v h' ⟨rfl,L6,T6,rfl⟩;have w:=w.more L6;have vb:=azd vb L6;obtain⟨b3,hb3⟩:=Ex (b2++L6);dsimp only at w vb⊢;simp only[hb3]at w vb⊢;have lN:(strsA (W.map (·.name))).length=W.length:=by unfold strsA;rw[Zj,Zj]
 have gN:∀k (h:k<W.length),(strsA (W.map (·.name))).getD k []=[.str W[k].name]:=fun k h=>by
  unfold strsA;rw[List.map_map,azv _ _ k h];rfl
 obtain⟨NN,hNN⟩:=Ex (strsA (W.map (·.name)));rw[hNN]at lN gN;simp only[hNN];clear hNN hb1 hb2 hb3 c5 c6;have kz:((kR W except 0:Nat):Int)=0:=rfl;have z00:((0:Nat):Int)=0:=rfl;refine go0 ti ?_
 refine azg (fun mm ts hh=>∃(j:Nat) (sp:A) (b:List Blk),mm=W.length-j/\j<=W.length/\hh=⟨b,T6⟩/\WsAt b i key sp W/\b[vi]?=some (.cells 51 [.int .i64 5,.int .i64 0,.str [],.sl 5 .no I,.sl 1 .no K]) /\
  (ts 2=.str except/\ts 7=.ptr i 0/\ts 10=.ptr vi 0/\ts 12=.sl 1 .no NN/\ts 13=.int .i64 (kR W except j:Nat)/\ts 14=.int .i64 (j:Nat))) W.length ?_ ?_
 ·exact⟨0,_,b3,rfl,ZH _,rfl,w,vb,by(exact azy (ai ht (ai hvi (ai kz z00))))⟩
 clear hvi kz z00 w vb ht hf hge hj lv ts;rintro mm ts hh ⟨j,sp,b,rfl,hj,rfl,w,vb,ht⟩;rcases Yd j W.length with hlt|hge;rotate_left
 ·obtain rfl:j=W.length:=by omega
  rw[dx9]at ht;have hf:¬(W.length:Int)<(NN.length:Int):=by omega
  have e1:(((remL W except).length:Int)==(K.length:Int))=true:=by rw[lK];simp
  refine azq (ai ht (ai hf (ai vb e1))) (ai cV (ai aw ti)) ?_;exact Fn rfl
 have hf:(0:Int)<=(j:Int)/\(j:Int)<(NN.length:Int)/\NN.getD j []=[.str W[j].name]/\IntKind.i64.wrap ((j:Int)+1)=((j+1:Nat):Int):=⟨by omega,by omega,gN j hlt,by rw[wrap64 (by omega) (by omega)];omega⟩;have hks:=dxc (ex:=except) hlt;by_cases hne:W[j].name=except
 ·rw[if_pos hne]at hks;have e1:(W[j].name==except)=true:=by simp[hne]
  refine go0 (ai ht (ai hf e1)) ?_;exact⟨_,by omega,j+1,sp,b,rfl,by omega,rfl,w,vb,by rw[hks];(exact azy (ai ht hf))⟩
 rw[if_neg hne]at hks;have e1:(W[j].name==except)=false:=by simp[hne]
 obtain⟨hk',hkg⟩:=dxs hlt hne;have gKj:=gK _ hk';have gIj:=gI _ hk';rw[hkg]at gKj gIj;have hkl:=(aqr W except).length_le;have hwk:IntKind.i64.wrap ((kR W except j:Nat)+1:Int)=((kR W except j+1:Nat):Int):=by rw[wrap64 (by omega) (by omega)];omega
 have hkk:(0:Int)<=(kR W except j:Nat)/\((kR W except j:Nat):Int)<(K.length:Int)/\((kR W except j:Nat):Int)<(I.length:Int)/\¬((kR W except j:Nat):Int)>=(K.length:Int)/\¬((kR W except j:Nat):Int)>=(I.length:Int):=⟨by omega,by omega,by omega,by omega,by omega⟩;have hem:=Zk hlt;obtain⟨e,hee⟩:=Ex (W[j]);rw[hee]at hf hem gKj gIj e1;obtain⟨kk,hkkk⟩:=Ex (kR W except j);rw[hkkk]at ht hks hwk hkk gKj gIj;obtain⟨q,hc⟩:=bqv e.name W w.srt;obtain⟨_,hh,hp⟩:=cx3 w.srt hem hc;have c4:=axa (h:=⟨b,T6⟩) w e.name q hc;rw[hh,if_pos rfl,hp]at c4;have ve:=hi e hem;have ok:=ve.ok;have hv:=ve.os;have e2:(e.name !=e.name)=false:=by simp
 refine go0 (ai ht (ai hf e1)) ?_;refine gc0 (ai ht (ai hf e1)) ?_;refine c4.mono ?_;rintro v h' ⟨rfl,L4,rfl⟩;have w:=w.more L4;have vb:=azd vb L4;obtain⟨b1,hb1⟩:=Ex (b++L4);dsimp only at w vb⊢;simp only[hb1]at w vb⊢;have c3:=awy (h:=⟨b1,T6⟩) (w.st hem) ok.kl ok.hb;rw[ok.rd]at c3;obtain⟨st,hst⟩:=Ex (stOf e);rw[hst]at c3 gIj hv;obtain⟨lin,ser,ins,ps,os⟩:=st;dsimp only at hv gIj;simp only[Sf.St.A]at c3;simp only[outsV,V.cells]at gIj;have lo:(os.map Sf.Outp.cells).length=os.length:=Zj _;have l5:=hv.len;have lk:(strsA (os.map (·.name))).length=os.length:=by unfold strsA;rw[Zj,Zj]
 have li:(V.cellss (os.map (·.value))).length=os.length:=by rw[V.cellss_length,Zj]
 have gk:∀k (h:k<os.length),(strsA (os.map (·.name))).getD k []=[.str os[k].name]:=fun k h=>by unfold strsA;rw[List.map_map,azv _ _ k h];rfl
 have gi:∀k (h:k<os.length),(V.cellss (os.map (·.value))).getD k []=os[k].value.cells:=fun k h=>by rw[V.cellss_map,List.map_map,azv _ _ k h];rfl
 obtain⟨KK,hKK⟩:=Ex (strsA (os.map (·.name)));obtain⟨II,hII⟩:=Ex (V.cellss (os.map (·.value)));rw[hKK]at lk gk gIj;rw[hII]at li gi gIj;clear hKK hII c4;refine go0 (ai ht (ai hf e1)) ?_;refine avt (by decide) ?_;refine go0 (ai ht (ai hf (ai e1 (ai vb (ai hkk (ai gKj e2)))))) ?_;refine gc0 (ai ht (ai hf (ai e1 (ai vb (ai hkk (ai gKj e2)))))) ?_;refine c3.mono ?_;rintro v h' ⟨rfl,rfl⟩;have w:=(w.more [.cells 42 [.str lin,.int .i64 ser,.sl 13 .no (ins.map Sf.Inst.cells),.sl 3 .no (ps.map Sf.Pend.cells),.sl 7 .no (os.map Sf.Outp.cells)]]).more [.cells 51 [.int .i64 5,.int .i64 0,.str [],.sl 5 .no II,.sl 1 .no KK]];have vb':=azd vb [.cells 42 [.str lin,.int .i64 ser,.sl 13 .no (ins.map Sf.Inst.cells),.sl 3 .no (ps.map Sf.Pend.cells),.sl 7 .no (os.map Sf.Outp.cells)]];have vb2:=azd vb' [.cells 51 [.int .i64 5,.int .i64 0,.str [],.sl 5 .no II,.sl 1 .no KK]];have xb:(b1++[Blk.cells 42 [.str lin,.int .i64 ser,.sl 13 .no (ins.map Sf.Inst.cells),.sl 3 .no (ps.map Sf.Pend.cells),.sl 7 .no (os.map Sf.Outp.cells)]]++[Blk.cells 51 [.int .i64 5,.int .i64 0,.str [],.sl 5 .no II,.sl 1 .no KK]])[b1.length]?=some (.cells 42 [.str lin,.int .i64 ser,.sl 13 .no (ins.map Sf.Inst.cells),.sl 3 .no (ps.map Sf.Pend.cells),.sl 7 .no (os.map Sf.Outp.cells)]):=azd Zl _;have mb:(b1++[Blk.cells 42 [.str lin,.int .i64 ser,.sl 13 .no (ins.map Sf.Inst.cells),.sl 3 .no (ps.map Sf.Pend.cells),.sl 7 .no (os.map Sf.Outp.cells)]]++[Blk.cells 51 [.int .i64 5,.int .i64 0,.str [],.sl 5 .no II,.sl 1 .no KK]])[b1.length+1]?=some (.cells 51 [.int .i64 5,.int .i64 0,.str [],.sl 5 .no II,.sl 1 .no KK]):=aqa (by simp);obtain⟨b2,hb2⟩:=Ex (b1++[Blk.cells 42 [.str lin,.int .i64 ser,.sl 13 .no (ins.map Sf.Inst.cells),.sl 3 .no (ps.map Sf.Pend.cells),.sl 7 .no (os.map Sf.Outp.cells)]]++[Blk.cells 51 [.int .i64 5,.int .i64 0,.str [],.sl 5 .no II,.sl 1 .no KK]]);rw[hb2]at w vb2 xb mb;refine go0 (ai ht (ai vb (ai vb' (ai hkk (ai gIj (ai hb2 (ai xb (ai mb (ai lk (ai li lo)))))))))) ?_
 refine azg (fun mm ts hh=>∃(u:Nat),mm=os.length-u/\u<=os.length/\hh=⟨b2,T6⟩ /\
  (ts 2=.str except/\ts 7=.ptr i 0/\ts 10=.ptr vi 0/\ts 12=.sl 1 .no NN/\ts 13=.int .i64 (kk:Nat)/\ts 14=.int .i64 (j:Nat)/\ts 17=.ptr b1.length 0/\ts 19=.ptr (b1.length+1) 0/\ts 20=.int .i64 (u:Nat))) os.length ?_ ?_
 ·exact⟨0,rfl,ZH _,rfl,by(exact azy ht)⟩
 clear ht ts;rintro mm ts hh ⟨u,rfl,hu,rfl,ht⟩;rcases Yd u os.length with hult|huge;rotate_left
 ·have hu2:¬(u:Int)<(os.length:Int):=by omega
  refine go0 (ai ht (ai hf (ai xb (ai lo (ai hu2 hwk))))) ?_;exact⟨_,by omega,j+1,_,b2,rfl,by omega,rfl,w,vb2,by rw[hks];(exact azy (ai ht (ai hf hwk)))⟩
 have hr:=ayn Sf.Outp.cells os u hult (by omega);have gku:=gk u hult;have giu:=gi u hult;have hon:=cxk hv (Zk hult);have cE:=bxb os[u].value os[u].value hon hon;rw[awm]at cE;have hu2:(u:Int)<(os.length:Int)/\(0:Int)<=(u:Int)/\(u:Int)<(KK.length:Int)/\(u:Int)<(II.length:Int):=⟨by omega,by omega,by omega,by omega⟩;obtain⟨o,hoo⟩:=Ex (os[u]);rw[hoo]at hr gku giu cE;obtain⟨nm,⟨a1,a2,a3,a4,a5⟩,sn⟩:=o;dsimp only[Sf.Outp.cells]at hr gku;simp only[V.A,V.cells]at giu cE hr;have e3:(nm !=nm)=false:=by simp
 refine azq (ai ht (ai hf (ai xb (ai mb (ai lo (ai hu2 (ai hr (ai gku (ai giu e3))))))))) (ai cE ti) ?_;exact⟨_,by omega,u+1,rfl,by omega,rfl,by(exact azy (ai ht hr))⟩
end AX
end
section
open Go.RowKit
namespace AX
theorem bvp(key:List UInt8){n:Nat}(_k:n<=maxLen)(x:Ops51)(k:∀a∈x.l,0<=a.kind/\∀o∈a.outs,o.value.Wf)(except:List UInt8){n2:Nat}(_k2:n2<=maxLen):
  AC 5 [.str key,.sl 4 .no (x.l.map Op51.cells),.str except] ⟨[],[]⟩ fun r _=>r=.bool true:=
 bk6 key except x.l (fun y hy o ho=>V.Wf.lens o.value ((k y hy).2 o ho)) fun y hy=>(k y hy).1
end AX
end
end Go.Proofs.YthhpocnmfknalaaGreatDoor
