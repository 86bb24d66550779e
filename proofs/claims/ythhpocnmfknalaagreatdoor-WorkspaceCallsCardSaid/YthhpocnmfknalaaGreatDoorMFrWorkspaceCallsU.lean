/- Part of what the proof needs. -/
import Derived.Test.YthhpocnmfknalaaGreatDoorMFrWorkspaceCallsT
import Derived.Laws.CopyRow
import Derived.Lib.AppendZerosOnto
import Derived.Lib.Overlaps
import Derived.Shelf.RegionOpenPlain
import Derived.Lib.JoinLaws
import Derived.Lib.AppendZeros
import Derived.Laws.Externs
import Derived.Laws.NewBlocks
set_option maxHeartbeats 4000000
set_option maxRecDepth 100000
set_option linter.all false
namespace Go.Proofs.YthhpocnmfknalaaGreatDoor
section
open Go.RowKit
namespace AX
theorem Sto.at_any{P:Program}{G:World->Prop}{f:FuncId}{args:List A}{s s':Sto}{v:A}(hc:∀l t,ACall P G f (.ptr 1 0::args) ⟨s.M::s.B::l,t⟩ fun v' h'=>v'=v/\h'=⟨s'.M::s'.B::l,t⟩)(ha:A.locL 0 args=true)(hv:v.loc 0=true)
  {h:Hp} {i k:Nat} (hik:i≠k) (hk:h.b[k]?=some s.M) (hi:h.b[i]?=some (s.Bk k)):
  ACall P G f (.ptr i 0::args) h fun v' h'=>v'=v/\h'=⟨(h.b.set k s'.M).set i (s'.Bk k),h.t⟩:=by
 have m0:∀s:Sto,s.M.loc 0:=fun s=>by
  show((strM s.es).all fun e=>e.2.loc 0)=true
  rw[ZD];intro e he;obtain⟨x,hx,rfl⟩:=ZW.1 he;rfl
 have ml:=fun s=>Blk.loc0 2 _ (m0 s)
 have key:=ACall.lift ((hc [] []).mono fun v' h' ⟨e1,e2⟩=>(⟨e1,by rw[e2];rfl,by rw[e2];rfl⟩:v'=v/\h'.b[0]?=some s'.M/\h'.b[1]?=some s'.B)) (fun j=>if j=0 then k else i) (fun a b ha hb e=>by
   simp only[Zf,Zo]at ha hb;have h1:a=0\/a=1:=by omega
   have h2:b=0\/b=1:=by omega
   rcases h1 with rfl|rfl<;>rcases h2 with rfl|rfl<;>simp at e⊢
   ·exact hik e.symm
   ·exact hik e) (by unfold A.locL;rw[(A.locL0 _ args ha).1];rfl)
  (fun x hx=>by
   rcases ZL.1 hx with rfl|hx
   ·exact(ml s).1
   ·rw[ZJ.1 hx];rfl)
  (fun v' h' ⟨e,h0,h1⟩=>⟨by rw[e];exact(A.loc0 _ v hv).1,fun j x hj hx=>by
   have:j=0\/j=1:=by simp only[Zf,Zo]at hj;omega
   rcases this with rfl|rfl
   ·rw[h0]at hx;injection hx with hx;subst hx;exact(ml s').1
   ·rw[h1]at hx;injection hx with hx;subst hx;rfl⟩)
  (h:=h) (fun j hj=>by
   have:j=0\/j=1:=by simp only[Zf,Zo]at hj;omega
   rcases this with rfl|rfl
   ·show h.b[k]?=some (s.M.ren _);rw[(ml s).2];exact hk
   ·exact hi)
 have e0:A.renL (fun j=>if j=0 then k else i) (.ptr 1 0::args)=.ptr i 0::args:=by unfold A.renL;rw[(A.locL0 2 args ha).2];rfl
 rw[e0]at key;refine key.mono ?_;rintro v' h' ⟨v0,h0,⟨rfl,k0,k1⟩,rfl,rfl⟩;refine⟨(A.loc0 2 _ hv).2 _,?_⟩;have et:h0.b.take 2=[s'.M,s'.B]:=by
  rcases hb:h0.b with _|⟨x,_|⟨y,l⟩⟩
  ·rw[hb]at k0;cases k0
  ·rw[hb]at k1;cases k1
  ·rw[hb]at k0 k1;injection k0 with k0;injection k1 with k1;subst k0;subst k1;rfl
 show(⟨setAll _ h.b 0 (h0.b.take 2),h.t⟩:Hp)=_
 rw[et];show(⟨(h.b.set k (s'.M.ren _)).set i (s'.B.ren _),h.t⟩:Hp)=_
 rw[(ml s').2];rfl
namespace Sto
def lo(s:Sto):Int:=if 0>s.latest-63 then 0 else s.latest-63
end Sto
def Sto.new(key lin:List UInt8):Sto:=⟨key,lin,0,[],0,[],0⟩
theorem cql(lin:List UInt8)(hl:lin.length<=900000):Sf.StIn ⟨lin,0,[],[],[]⟩:=⟨by dsimp only;omega,by simp,by simp,by simp,by simp,by simp,by simp⟩
theorem dj4(key lin:List UInt8)(hk:key.length<=1000000000)(hl:lin.length<=900000)(hE:(Sf.stE 2 ⟨lin,0,[],[],[]⟩).length+20<=1000000000)(hc:Seal.check key=0)(ht:Sto.txt lin=true)(hz:((Sto.new key lin).keep ⟨lin,0,[],[],[]⟩).2=0):
  AC 27 [.str key,.str lin] ⟨[],[]⟩ fun r h'=>r=.tup [.ptr 1 0,.int .i64 0]/\h'=⟨[((Sto.new key lin).keep ⟨lin,0,[],[],[]⟩).1.M,((Sto.new key lin).keep ⟨lin,0,[],[],[]⟩).1.B],[]⟩:=by
 refine fo ?_;have hkp:=cxt (Sto.new key lin) [] [] ⟨lin,0,[],[],[]⟩ (cql lin hl) hk hE;obtain⟨⟨s2,e⟩,hq⟩:=Ex ((Sto.new key lin).keep ⟨lin,0,[],[],[]⟩);rw[hq]at hkp hz⊢;dsimp only at hkp hz⊢;subst hz;have hkp':AC 55 [.ptr 1 0,.agg [.str lin,.int .i64 0,.sl 0 .nil [],.sl 0 .nil [],.sl 0 .nil []]] ⟨[(Sto.new key lin).M,(Sto.new key lin).B],[]⟩ (fun r h'=>r=.int .i64 0/\h'=⟨[s2.M,s2.B],[]⟩):=by
  refine ACall.args ?_ hkp;exact⟨rfl,⟨aze _,aze _,⟨rfl,.inr rfl,.inl rfl⟩,⟨rfl,.inr rfl,.inl rfl⟩,⟨rfl,.inr rfl,.inl rfl⟩,trivial⟩,trivial⟩
 have hM:(Sto.new key lin).M=.map [] 0:=rfl;have hB:(Sto.new key lin).B=.cells 88 [.str key,.str lin,.int .i64 0,.mp 0,.str [],.int .i64 0]:=rfl;rw[hM,hB]at hkp';have hc':=fun h=>awd key hk h
 rw[hc]at hc';have ht':=fun h=>bz9 lin (by omega) h
 rw[ht]at ht';refine aza ti ?_;refine use (hc' _) ?_;refine aza ti ?_;refine use (ht' _) ?_;refine aza ti ?_;refine use hkp' ?_;refine aza ti ?_;exact⟨_,le_refl _,rfl,rfl⟩
namespace Sto
def newK(key lin:List UInt8):Sto×Int:=(Sto.new key lin).keep ⟨lin,0,[],[],[]⟩
def newE(key lin:List UInt8):Int:=if Seal.check key≠0 then Seal.check key else if txt lin=false then 1 else(newK key lin).2
def newH(key lin:List UInt8):List Blk:=if Seal.check key≠0 then[]else if txt lin=false then[]else[(newK key lin).1.M,(newK key lin).1.B]
end Sto
theorem dju(key lin:List UInt8)(hk:key.length<=1000000000)(hl:lin.length<=900000)(hE:(Sf.stE 2 ⟨lin,0,[],[],[]⟩).length+20<=1000000000):
  AC 27 [.str key,.str lin] ⟨[],[]⟩ fun r h'=>r=.tup [if Sto.newE key lin=0 then .ptr 1 0 else .nilp,.int .i64 (Sto.newE key lin)]/\h'=⟨Sto.newH key lin,[]⟩:=by
 have hc':=fun h=>awd key hk h
 have ht':=fun h=>bz9 lin (by omega) h
 have hE':Sto.newE key lin=if Seal.check key≠0 then Seal.check key else if Sto.txt lin=false then 1 else((Sto.new key lin).keep ⟨lin,0,[],[],[]⟩).2:=rfl
 have hH':Sto.newH key lin=if Seal.check key≠0 then[]else if Sto.txt lin=false then[]else[((Sto.new key lin).keep ⟨lin,0,[],[],[]⟩).1.M,((Sto.new key lin).keep ⟨lin,0,[],[],[]⟩).1.B]:=rfl
 by_cases z1:Seal.check key=0
 rotate_left
 ·rw[if_pos z1]at hE' hH';rw[hE',hH',if_neg z1];obtain⟨Z,hZ⟩:=Ex (Seal.check key);rw[hZ]at hc' z1⊢;have e1:(Z !=0)=true:=by simp[z1]
  refine fo ?_;refine aza ti ?_;refine use (hc' _) ?_;refine aza e1 ?_;exact⟨_,le_refl _,rfl,rfl⟩
 rw[if_neg (by simp[z1])]at hE' hH';rw[z1]at hc';by_cases z2:Sto.txt lin=false
 ·rw[if_pos z2]at hE' hH';rw[hE',hH',if_neg (by decide)];rw[z2]at ht';refine fo ?_;refine aza ti ?_;refine use (hc' _) ?_;refine aza ti ?_;refine use (ht' _) ?_;refine aza ti ?_;exact⟨_,le_refl _,rfl,rfl⟩
 rw[if_neg z2]at hE' hH';rw[hE',hH'];have z2':Sto.txt lin=true:=by cases h:Sto.txt lin<;>simp_all
 by_cases z3:((Sto.new key lin).keep ⟨lin,0,[],[],[]⟩).2=0
 ·rw[if_pos z3,z3];exact dj4 key lin hk hl hE z1 z2' z3
 rw[if_neg z3];rw[z2']at ht';refine fo ?_;have hkp:=cxt (Sto.new key lin) [] [] ⟨lin,0,[],[],[]⟩ (cql lin hl) hk hE;obtain⟨⟨s2,e⟩,hq⟩:=Ex ((Sto.new key lin).keep ⟨lin,0,[],[],[]⟩);rw[hq]at hkp z3⊢;dsimp only at hkp z3⊢;have e1:(e !=0)=true:=by simp[z3]
 have hkp':AC 55 [.ptr 1 0,.agg [.str lin,.int .i64 0,.sl 0 .nil [],.sl 0 .nil [],.sl 0 .nil []]] ⟨[(Sto.new key lin).M,(Sto.new key lin).B],[]⟩ (fun r h'=>r=.int .i64 e/\h'=⟨[s2.M,s2.B],[]⟩):=by
  refine ACall.args ?_ hkp;exact⟨rfl,⟨aze _,aze _,⟨rfl,.inr rfl,.inl rfl⟩,⟨rfl,.inr rfl,.inl rfl⟩,⟨rfl,.inr rfl,.inl rfl⟩,trivial⟩,trivial⟩
 have hM:(Sto.new key lin).M=.map [] 0:=rfl;have hB:(Sto.new key lin).B=.cells 88 [.str key,.str lin,.int .i64 0,.mp 0,.str [],.int .i64 0]:=rfl;rw[hM,hB]at hkp';refine aza ti ?_;refine use (hc' _) ?_;refine aza ti ?_;refine use (ht' _) ?_;refine aza ti ?_;refine use hkp' ?_;refine aza e1 ?_;exact⟨_,le_refl _,rfl,rfl⟩
end AX
end
section
open Go.RowKit
namespace AX
section
variable {P:Program} {G:World->Prop}
end
theorem ACall.fresh{P:Program}{G:World->Prop}{f:FuncId}{args:List A}{Q:A->Hp->Prop}(hc:ACall P G f args ⟨[],[]⟩ Q)(hq:∀v h',Q v h'->v.loc h'.b.length=true/\∀b∈h'.b,b.loc h'.b.length\/b=.gone)(ha:args.all A.pure=true)(h:Hp):
  ACall P G f args h fun v h'=>∃v0 h0,Q v0 h0/\v=v0.ren (fun i=>h.b.length+i)/\h'=⟨h.b++h0.b.map (Blk.ren fun i=>h.b.length+i),h.t⟩:=by
 intro C cs hI hr;have hid:Inv G C.hid ⟨[],[]⟩:=by
  refine⟨rfl,fun i b hb=>by simp at hb,⟨fun i b hb=>by simp at hb,fun i j b b' hb=>by simp at hb⟩,fun g i hg=>by simp[Ctx.hid]at hg,fun g j hs=>?_,fun t E W m ht=>by simp[Ctx.hid]at ht,fun t t' ht=>by simp[Ctx.hid]at ht,fun t=>by simp[Ctx.hid],hI.base,hI.glob⟩;exact⟨(hI.prot g j hs).1,rfl,fun t E W m ht=>by simp[Ctx.hid]at ht⟩
 refine(hc C.hid cs hid (RepL.pures (C:=C) (C':=C.hid) ⟨fun g j hs=>⟨hs,rfl⟩⟩ args cs ha hr)).mono ?_;rintro e w' ⟨C1,h1,v,cv,rfl,rfl,I1,S1,r1,q1⟩;obtain⟨qv,qb⟩:=hq v h1 q1;rw[I1.nb]at qv qb;have hblk:∀g,g<C.w.heap.size->C1.w.heap[g]?=C.w.heap[g]?:=fun g hg=>S1.frame g hg rfl fun t ht=>by simp[Ctx.hid]at ht
 have hno:∀g,g<C.w.heap.size->C1.own g=none:=fun g hg=>S1.own g hg
 have hsz:C.w.heap.size<=C1.w.heap.size:=S1.size;have hprot:∀g j,C1.S g j->C.S g j\/C.w.heap.size<=g:=fun g j hs=>by
  rcases S1.prot g j hs with h2|h2|⟨t,h2,_⟩
  ·exact .inl h2
  ·exact .inr h2
  ·simp[Ctx.hid]at h2
 let C2:Ctx:={ C with w:=C1.w,S:=C1.S,κ:=fun i=>if i<C.nb then C.κ i else C1.κ (i-C.nb),nb:=C.nb+C1.nb,own:=fun g=>if g<C.w.heap.size then C.own g else(C1.own g).map (·+C.nb),kap:=fun i=>if i<C.nb then C.kap i else C1.kap (i-C.nb),lab:=fun i=>if i<C.nb then C.lab i else C1.lab (i-C.nb)+C.nb }
 have k2:∀i,C2.κ (C.nb+i)=C1.κ i/\C2.kap (C.nb+i)=C1.kap i/\C2.lab (C.nb+i)=C1.lab i+C.nb:=fun i=>by
  have h0:¬C.nb+i<C.nb:=by omega
  have h3:C.nb+i-C.nb=i:=by omega
  refine⟨?_,?_,?_⟩
  ·show(if C.nb+i<C.nb then _ else C1.κ (C.nb+i-C.nb))=_
   rw[if_neg h0,h3]
  ·show(if C.nb+i<C.nb then _ else C1.kap (C.nb+i-C.nb))=_
   rw[if_neg h0,h3]
  ·show(if C.nb+i<C.nb then _ else C1.lab (C.nb+i-C.nb)+C.nb)=_
   rw[if_neg h0,h3]
 have k1:∀i,i<C.nb->C2.κ i=C.κ i/\C2.kap i=C.kap i/\C2.lab i=C.lab i:=fun i hi=>⟨if_pos hi,if_pos hi,if_pos hi⟩
 have o1:∀g,g<C.w.heap.size->C2.own g=C.own g:=fun g hg=>if_pos hg
 have o2:∀g l,C2.own g=some (l+C.nb)↔C1.own g=some l:=fun g l=>by
  by_cases hg:g<C.w.heap.size
  ·rw[o1 g hg,hno g hg];exact⟨fun e=>by have:=(hI.ownlt g _ e).1;omega,fun e=>by cases e⟩
  ·show(if g<C.w.heap.size then C.own g else(C1.own g).map (·+C.nb))=_↔_
   rw[if_neg hg];cases C1.own g with
   |none=>simp
   |some l'=>simp
 have o3:∀g l,l<C.nb->(C2.own g=some l↔C.own g=some l):=fun g l hl=>by
  by_cases hg:g<C.w.heap.size
  ·rw[o1 g hg]
  ·show(if g<C.w.heap.size then C.own g else(C1.own g).map (·+C.nb))=_↔_
   rw[if_neg hg];constructor
   ·intro e;cases e2:C1.own g with
    |none=>rw[e2]at e;cases e
    |some l'=>rw[e2]at e;simp at e;omega
   ·intro e;exact absurd (hI.ownlt g l e).2.1 hg
 have hE:Ext C C2:=by
  refine⟨fun g j hs=>S1.ext.cells g j hs,Nat.le_add_right _ _,k1,fun t E W m ht=>?_⟩;obtain⟨h0,_,cap,h2,_⟩:=hI.rows t E W m ht;exact⟨m,ht,.inr ⟨rfl,rfl,fun cap hc=>hc.same (hblk _ h2.lt)⟩⟩
 have hlen:=hI.nb
 have rN:Ren C1 C2 (fun i=>h.b.length+i) C1.nb:=⟨fun g j hs=>⟨hs,rfl⟩,fun j hj=>by
  rw[hlen]
  exact⟨Nat.add_lt_add_left hj _,(k2 j).1,(k2 j).2.1⟩⟩
 have hsp:∀(i:Nat) (b:Blk),(h.b++h1.b.map (Blk.ren fun i=>h.b.length+i))[i]?=some b->(i<C.nb/\h.b[i]?=some b)\/∃j b1,i=C.nb+j/\j<C1.nb/\h1.b[j]?=some b1/\b=b1.ren fun i=>h.b.length+i:=fun i b hib=>by
  rw[YZ]at hib;split at hib
  ·next hi=>exact .inl ⟨by rw[<-hlen];exact hi,hib⟩
  ·next hi=>
   rw[List.getElem?_map,Zv]at hib;obtain⟨b1,hb1,rfl⟩:=hib;exact .inr ⟨i-h.b.length,b1,by omega,by rw[<-I1.nb];exact(Zb.1 hb1).1,hb1,rfl⟩
 have hlive:∀(b1:Blk) (σ:Nat->Nat),(b1.ren σ).live=b1.live:=fun b1 σ=>by cases b1<;>rfl
 refine⟨C2,⟨h.b++h1.b.map (Blk.ren fun i=>h.b.length+i),h.t⟩,v.ren fun i=>h.b.length+i,cv,rfl,rfl,⟨?_,fun i b hib=>?_,⟨fun i b hib hl=>?_,fun i j b b' hib hjb hl hl' e=>?_⟩,fun g l hg=>?_,fun g j hs=>?_,fun t E W m ht=>?_,hI.inj,hI.toks,Zr hI.base hsz,fun w2 hw=>?_⟩,⟨hE,S1.os,S1.tape,S1.output,hsz,rfl,fun g hg _ _=>hblk g hg,o1,fun g j hs=>?_,fun t ht=> .inr ⟨ht,rfl⟩⟩,Rep.ren rN v cv qv r1,v,h1,q1,rfl,rfl⟩
 ·rw[Za,Zh,hlen,I1.nb]
 ·rcases hsp i b hib with⟨hi,hb⟩|⟨j,b1,rfl,hj,hb1,rfl⟩
  ·exact(hI.box i b hb).ext hE hi (fun hl=>⟨hI.ok hb hl,fun g hg=>hblk g (hI.ownlt g _ hg).2.1,fun g=>o3 g _ (hI.lablt hb hl)⟩) hsz
  ·have hB:=I1.box j b1 hb1;rcases qb b1 (List.mem_of_getElem? hb1)with hl|rfl
   ·cases b1 with
    |cells T l=>
     obtain⟨cs,m1,m2⟩:=hB;exact⟨cs,by rw[(k2 j).1];exact m1,RepL.ren rN l cs hl m2⟩
    |opq R vis=>
     have e:(fun g=>C2.own g=some (C2.lab (C.nb+j)))=fun g=>C1.own g=some (C1.lab j):=by rw[(k2 j).2.2];exact funext fun g=>propext (o2 g _)
     refine⟨fun w' hw hs=>?_,fun o x hx=>?_⟩
     ·rw[e,(k2 j).1];exact hB.1 w' (fun g hg=>hw g (by rw[(k2 j).2.2];exact(o2 g _).2 hg)) hs
     ·obtain⟨u,m1,m2⟩:=hB.2 o x hx;exact⟨u,by rw[(k2 j).1];exact m1,Rep.same (C:=C1) (C':=C2) ⟨fun g j hs=>⟨hs,rfl⟩⟩ x u (hl o x hx) m2⟩
    |row T l=>
     obtain⟨cs,rest,m1,m2,m3⟩:=hB;exact⟨cs,rest,by rw[(k2 j).1];exact m1,RepL.ren rN l cs hl m2,by rw[(k2 j).2.1];exact m3⟩
    |map l c=>
     obtain⟨es,m1,m2,m3⟩:=hB;exact⟨es,by rw[(k2 j).1];exact m1,RepEs.ren rN hl m2,m3⟩
    |gone=>trivial
   ·trivial
 ·rcases hsp i b hib with⟨hi,hb⟩|⟨j,b1,rfl,hj,hb1,rfl⟩
  ·rw[(k1 i hi).1,(k1 i hi).2.2];exact(o3 _ _ (hI.lablt hb hl)).2 (hI.ok hb hl)
  ·rw[(k2 j).1,(k2 j).2.2];exact(o2 _ _).2 (I1.ok hb1 (by rw[<-hlive b1];exact hl))
 ·rcases hsp i b hib with⟨hi,hb⟩|⟨m,b1,rfl,hm,hb1,rfl⟩
  ·rw[(k1 i hi).2.2]at e;have l1:=hI.lablt hb hl;rcases hsp j b' hjb with⟨hj,hb'⟩|⟨n,b2,rfl,hn,hb2,rfl⟩
   ·rw[(k1 j hj).2.2]at e;exact hI.ownk.2 i j b b' hb hb' hl hl' e
   ·rw[(k2 n).2.2]at e;omega
  ·rw[(k2 m).2.2]at e;rcases hsp j b' hjb with⟨hj,hb'⟩|⟨n,b2,rfl,hn,hb2,rfl⟩
   ·rw[(k1 j hj).2.2]at e;have l1:=hI.lablt hb' hl';omega
   ·rw[(k2 n).2.2]at e;rw[I1.ownk.2 m n b1 b2 hb1 hb2 (by rw[<-hlive b1];exact hl) (by rw[<-hlive b2];exact hl') (by omega)]
 ·by_cases hg':g<C.w.heap.size
  ·rw[o1 g hg']at hg;obtain⟨m1,m2,m3⟩:=hI.ownlt g l hg;exact⟨ZG m1 (Nat.le_add_right _ _),ZG m2 hsz,m3⟩
  ·have hg2:(if g<C.w.heap.size then C.own g else(C1.own g).map (·+C.nb))=some l:=hg;rw[if_neg hg']at hg2;cases e:C1.own g with
   |none=>rw[e]at hg2;cases hg2
   |some l'=>
    rw[e]at hg2;simp at hg2;obtain⟨m1,m2,m3⟩:=I1.ownlt g l' e;exact⟨by show l<C.nb+C1.nb;omega,m2,by rw[S1.base]at m3;exact m3⟩
 ·have hlt:=(I1.prot g j hs).1;have hn1:=(I1.prot g j hs).2.1;rcases hprot g j hs with h2|h2
  ·obtain⟨m1,m2,m3⟩:=hI.prot g j h2;exact⟨hlt,by rw[o1 g m1];exact m2,m3⟩
  ·refine⟨hlt,by show(if g<C.w.heap.size then C.own g else(C1.own g).map (·+C.nb))=none;rw[if_neg (by omega),hn1];rfl,fun t E W m ht e=>?_⟩;obtain⟨_,_,cap,m1,_⟩:=hI.rows t E W m ht;have:=m1.lt;have e':C.τ t=g:=e;omega
 ·obtain⟨m1,m2,cap,m3,m4⟩:=hI.rows t E W m ht;exact⟨(o1 _ m3.lt).trans m1,m2,cap,m3.same (hblk _ m3.lt),m4⟩
 ·exact hI.glob w2 fun g hg=>(hw g hg).trans (hblk g (ZG hg hI.base))
 ·rcases hprot g j hs with h2|h2
  ·exact .inl h2
  ·exact .inr (.inl h2)
end AX
end
section
open Go.RowKit
section
variable {P:Program}
theorem aqv(w:World)(dT sT ty elem:TypeId)(it:TypeInfo)(g o dLen dCap:Nat)(a:Addr)(sLen sCap:Nat)(cur:Array Value)(t:TypeId)(cs:List Value)
  (hu:P.underlying dT=some (.slice elem)) (hs:P.info? elem=some it) (hg:w.heap[g]?=some (.cells cur t (0,0))) (hn:cs.length=Nat.min sLen dLen*it.size)
  (hsrc:∀j v,cs[j]?=some v->w.cell? (a.add j)=some v) (hfit:o+cs.length<=cur.size) (h1:∀v∈cs,v.oneCell'=true):
  (Builtin.copy_ #[dT,sT] ty #[.slice (some ⟨g,o,none⟩) dLen dCap,.slice (some a) sLen sCap]).run P w =
   .ok (goInt (Nat.min sLen dLen)) (w.setRow g (cur.toList.take o++cs++cur.toList.drop (o+cs.length)).toArray):=by
 have hl:=run_loadCells_list (P:=P) w a cs hsrc;have hst:=run_storeCells_at P g o t cs 0 cur w hg (by simpa using hfit) h1;simp only[Yr]at hst;simp[Builtin.copy_,run_underlying hu,Builtin.lenOf,Builtin.firstCells,sizeOf,typeInfo,hs,<-hn,hl,hst]
theorem bw7(w:World){o:Oper}{a:Act}{K:Act->World->Prop}{Q:Exit->Act->World->Prop}(d s:Operand)(t t':TypeId)
  (ho:o.op=.call { callee:=.builtin .copy,args:=#[d,s],argTypes:=#[t,t'] }) (v u:Value) (hd:a.eval d=v) (hs:a.eval s=u) {v':Value} {w':World}
  (hr:(Builtin.copy_ #[t,t'] o.type #[v,u]).run P w=.ok v' w') (h:K (a.put o.dst v') w'):o.wp P a w K Q:=by
 unfold Oper.wp execOp;simp only[ho,resolve,invoke,builtin,Sem.run_bind,Sem.run_pure,Result.andThen_ok,List.map_toArray,ZM,Yn,hd,hs,hr];exact h
theorem axy(w:World){ops:Array Oper}{rest:List Oper}{o:Oper}{a:Act}{Q:Exit->Act->World->Prop}(hgd:o.guard=none)(d s:Operand)(t t':TypeId)
  (ho:o.op=.call { callee:=.builtin .copy,args:=#[d,s],argTypes:=#[t,t'] }) (v u:Value) (hd:a.eval d=v) (hs:a.eval s=u) {v':Value} {w':World}
  (hr:(Builtin.copy_ #[t,t'] o.type #[v,u]).run P w=.ok v' w') (h:wpList P ops Q rest (a.put o.dst v') w'):wpList P ops Q (o::rest) a w:=
 wpList_plain hgd fun _ hK=>bw7 w d s t t' ho v u hd hs hr (hK _ _ h)
theorem bxh{ops:Array Oper}{o:Oper}{a:Act}{w:World}{K:Act->World->Prop}{Q:Exit->Act->World->Prop}{E:Prop}
  (hg:o.guard=none) (s x:Operand) (t t':TypeId) (hop:o.op=Op.call { callee:=Callee.builtin Builtin.append,args:=#[s,x],argTypes:=#[t,t'] })
  (v u:Value) (hs:a.eval s=v) (hx:a.eval x=u) {v':Value} {w':World} (hr:(Builtin.append_ #[t,t'] o.type #[v,u]).run P w=.ok v' w') (hK:K (a.put o.dst v') w'):
  if Region.wanted o (yielded ops a.tmps)=true then Oper.wp P o a w K Q else E:=by
 have hw:Region.wanted o (yielded ops a.tmps)=true:=by simp[Region.wanted,hg]
 rw[if_pos hw];unfold Oper.wp execOp;simp only[hop,resolve,invoke,builtin,Sem.run_bind,Sem.run_pure,Result.andThen_ok,List.map_toArray,ZM,Yn,hs,hx,hr];exact hK
theorem bzj{ops:Array Oper}{o:Oper}{a:Act}{w:World}{K:Act->World->Prop}{Q:Exit->Act->World->Prop}{E:Prop}
  (hg:o.guard=none) (d x:Operand) (dT sT:TypeId) (hop:o.op=Op.call { callee:=Callee.builtin Builtin.copy,args:=#[d,x],argTypes:=#[dT,sT] })
  (v u:Value) (hd:a.eval d=v) (hx:a.eval x=u) {v':Value} {w':World} (hr:(Builtin.copy_ #[dT,sT] o.type #[v,u]).run P w=.ok v' w') (hK:K (a.put o.dst v') w'):
  if Region.wanted o (yielded ops a.tmps)=true then Oper.wp P o a w K Q else E:=by
 have hw:Region.wanted o (yielded ops a.tmps)=true:=by simp[Region.wanted,hg]
 rw[if_pos hw];exact bw7 w d x dT sT hop v u hd hx hr hK
theorem bx4{B g:Nat}{w0 w:World}(hb:Below B w0 w)(hBg:B<=g)(cs:Array Value):Below B w0 (w.setRow g cs):=
 hb.trans ⟨rfl,rfl,rfl,by simp[World.setRow],fun k hk=>setRow_other w g k cs (by omega)⟩
theorem ayz(w:World)(t e ty:TypeId)(z:Value)(g o n c k:Nat)(cur:Array Value)(T:TypeId)(ht:P.underlying t=some (.slice e))(hv:∀w,(zeroValue e).run P w=.ok z w)(hk:z.cells.size=k)(h1:∀v∈z.cells.toList,v.oneCell'=true)
  (hg:w.heap[g]?=some (.cells cur T (0,0))) (hfit:o+n*k<=cur.size) (hn:0<n):
  (Builtin.clear_ #[t] ty #[.slice (some ⟨g,o,none⟩) n c]).run P w=.ok (.tuple #[]) (w.setRow g (cur.toList.take o++(Builtin.zeroCells z.cells n).toList++cur.toList.drop (o+(Builtin.zeroCells z.cells n).toList.length)).toArray):=by
 have hz1:∀v∈(Builtin.zeroCells z.cells n).toList,v.oneCell'=true:=by
  intro v hv;simp only[Builtin.zeroCells,Array.toList_map,ZW]at hv;obtain⟨i,hi,rfl⟩:=hv
  have hlt:i%z.cells.size<z.cells.size:=Nat.mod_lt _ (by
   rcases Nat.eq_zero_or_pos z.cells.size with h0|h0
   ·rw[h0]at hi;simp at hi
   ·exact h0)
  rw[getElem!_pos z.cells _ hlt];exact h1 _ (by simp)
 have hzl:(Builtin.zeroCells z.cells n).toList.length=n*k:=by rw[ZO,size_zeroCells,hk]
 have hst:=run_storeCells_at P g o T (Builtin.zeroCells z.cells n).toList 0 cur w hg (by rw[hzl];simpa using hfit) hz1;simp only[Yr]at hst;obtain⟨m,rfl⟩:∃m,n=m+1:=⟨n-1,by omega⟩;simp[Builtin.clear_,run_underlying ht,hv,hst]
theorem bqq(w:World)(tS tR e:TypeId)(ht:P.underlying tS=some (.slice e))(size:Nat)(hz:∀w,(Go.sizeOf e).run P w=.ok size w)
  (a b:Addr) (la ca lb cb:Nat) (hne:a.block≠b.block) {curA curB:Array Value} {tA tB:TypeId} {fr:Nat×Nat} (ha:w.heap[a.block]?=some (.cells curA tA fr)) (hA:curA.size≠0) (hb:w.heap[b.block]?=some (.cells curB tB (0,0))):
  (Extern.SlicesOverlaps.overlaps #[tS,tS] #[tR] #[.slice (some a) la ca,.slice (some b) lb cb]).run P w=.ok (.bool false) w:=by
 have hnb:(a.block !=b.block)=true:=by simpa using hne
 have hnb':(a.block==b.block)=false:=by simpa using hne
 have hsa:w.shape? a.block=some (tA,curA.size):=by simp[World.shape?,ha]
 have hsb:w.shape? b.block=some (tB,curB.size):=by simp[World.shape?,hb]
 have hfb:∀o s,w.frozen? ⟨b.block,o,s⟩=false:=fun o s=>by simp[World.frozen?,hb]
 have hfb':w.frozen? b=false:=hfb b.off b.spot
 change Sem.run P (α:=Value) (do
  let some t := (#[tS, tS] : Array TypeId)[0]? | stuck "slices.overlaps: no parameter types"
  let .slice elem ← underlying t | stuck "slices.overlaps: slice type expected"
  let size <-sizeOf elem
  match (some a:Option Addr),(some b:Option Addr)with
  |some a,some b=>
   if la=0\/lb=0\/size=0 then pure (Value.bool false)
   else if a.block !=b.block&&(<-frozen a)&&(<-frozen b)then unsupported .addressObserved
   else do
    if a.block !=b.block then do
     noView a;noView b
     if ← mayBeOne a b then return Value.bool ((← choose (.extern "sameAddr.stringBytes" 2)) == 1)
    pure (Value.bool (a.block==b.block&&a.off<b.off+lb*size&&b.off<a.off+la*size))
  |_,_=>pure (Value.bool false)) w=_
 by_cases h0:la=0\/lb=0\/size=0
 ·simp[run_underlying ht,hz,h0]
 ·obtain⟨kA,hkA⟩:∃kA,curA.size=kA+1:=⟨curA.size-1,by omega⟩;rw[hkA]at hsa;cases hfa:w.frozen? a<;>cases hfe:w.frozen? { block:=a.block,off:=kA+1 }<;>
   simp[run_underlying ht,hz,h0,hnb,hnb',frozen,noView,viewAt,mayBeOne,stringish,shape,Sem.run,hsa,hsb,hfa,hfe,hfb,hfb']
end
end
section
open Go.RowKit
namespace AX
section
variable {P:Program} {G:World->Prop} {C:Ctx} {h:Hp}
theorem bw1{i W n' cap:Nat}{T:TypeId}{l l':List A}{w':World}{cs rest:List Value}(hI:Inv G C h)(hb:h.b[i]?=some (.row T l))(hh:w'.heap[C.κ i]?=some (.cells (cs++rest).toArray T (0,0)))(hlen:(cs++rest).length=C.kap i)
  (hg:C.w.grownBy w' (some (C.κ i))) (hl:RepL C l' cs) (hcap:n'<=cap) (hcm:cap<=maxLen) (hk:cap*W<=C.kap i):
  ∃C':Ctx,C'.w=w'/\Inv G C' ⟨h.b.set i .gone++[.row T l'],h.t⟩/\Step C C'/\Rep C' (.bs h.b.length W n') (.slice (some ⟨C.κ i,0,none⟩) n' cap):=by
 have hown:=hI.ok hb rfl;obtain⟨i1,s1⟩:=aqx (w':=w') (b':=.row T l') false hI hb rfl hg.os hg.tape hg.output hg.size (fun g' h1 hne=>hg.block g' h1 fun e=>hne (by injection e with e;rw[e];exact hown))
  (fun hS=>⟨cs,rest,hh,RepL.ext hS.ext _ _ hl,hlen⟩)
 have hb2:(⟨h.b.set i (.row T l'),h.t⟩:Hp).b[i]?=some (.row T l'):=by
  show(h.b.set i _)[i]?=_
  rw[YE (Zb.1 hb).1]
 obtain⟨C2,n1,n2,n3,n4,n5,n6⟩:=bkw i1 hb2;have hll:(⟨h.b.set i (.row T l'),h.t⟩:Hp).b.length=h.b.length:=ZA;rw[hll]at n4 n5 n6;have hss:(h.b.set i (.row T l')).set i .gone=h.b.set i .gone:=List.set_set ..;simp only[hss]at n2;exact⟨C2,n1,n2,s1.trans n3,rep_bs.2 ⟨cap,by rw[n4];rfl,hcap,n6,hcm,by rw[n5];exact hk⟩⟩
theorem bwy{i W n' cap:Nat}{T:TypeId}{l':List A}{b0:Blk}{w':World}{cs rest:List Value}(hI:Inv G C h)(hb:h.b[i]?=some b0)(hh:w'.heap[C.w.heap.size]?=some (.cells (cs++rest).toArray T (0,0)))(hlen:(cs++rest).length=cap*W)
  (hg:Below C.w.heap.size C.w w') (hl:RepL C l' cs) (hcap:n'<=cap) (hcm:cap<=maxLen):
  ∃C':Ctx,C'.w=w'/\Inv G C' ⟨h.b.set i .gone++[.row T l'],h.t⟩/\Step C C'/\Rep C' (.bs h.b.length W n') (.slice (some ⟨C.w.heap.size,0,none⟩) n' cap):=by
 obtain⟨C',m1,m2,m3,m4,m5,m6⟩:=ajd hI hg (Ze _) hh hl;have hi:i<h.b.length:=(Zb.1 hb).1;have m2':=bwr (i:=i) (b:=b0) m2 (by show(h.b++_)[i]?=_;rw[ZF hi];exact hb);rw[show(⟨h.b++[Blk.row T l'],h.t⟩:Hp).b.set i .gone=h.b.set i .gone++[.row T l']from List.set_append_left _ _ hi]at m2';exact⟨C',m1,m2',m3,rep_bs.2 ⟨cap,by rw[m4],hcap,m5,hcm,by rw[m6,hlen];exact Ze _⟩⟩
theorem cy2{W n' cap:Nat}{T:TypeId}{l':List A}{w':World}{cs rest:List Value}(hI:Inv G C h)(hh:w'.heap[C.w.heap.size]?=some (.cells (cs++rest).toArray T (0,0)))(hlen:(cs++rest).length=cap*W)
  (hg:Below C.w.heap.size C.w w') (hl:RepL C l' cs) (hcap:n'<=cap) (hcm:cap<=maxLen):
  ∃C':Ctx,C'.w=w'/\Inv G C' ⟨h.b++[.row T l'],h.t⟩/\Step C C'/\Rep C' (.bs h.b.length W n') (.slice (some ⟨C.w.heap.size,0,none⟩) n' cap):=by
 obtain⟨C',m1,m2,m3,m4,m5,m6⟩:=ajd hI hg (Ze _) hh hl;exact⟨C',m1,m2,m3,rep_bs.2 ⟨cap,by rw[m4],hcap,m5,hcm,by rw[m6,hlen];exact Ze _⟩⟩
theorem by9{w:World}{g o:Nat}{v:Value}(hc:w.cell? ⟨g,o,none⟩=some v):∃c T fr,w.heap[g]?=some (.cells c T fr)/\c.size≠0:=by
 unfold World.cell? at hc;split at hc
 ·next c T fr hh=>
  refine⟨c,T,fr,hh,?_⟩;simp only[Zac,Zn,if_false]at hc;have:=(ZS.1 hc).1;omega
 ·cases hc
theorem czo{E:TypeId}{W i g off cap:Nat}{v:A}{l2:List A}{b:Blk}(hI:Inv G C h)(hW:0<W)(hr:Rep C v (.slice (some ⟨g,off,none⟩) 1 cap))(hs:rowC h E W v=some (1,l2))(hb:h.b[i]?=some b)(hl:b.live=true)(hne:∀n,v≠.bs i W n):g≠C.κ i:=by
 intro e;have hown:=hI.ok hb hl;rw[<-e]at hown;cases v with
 |sl W' o ys=>
  simp only[rowC]at hs;split at hs
  ·next e2=>
   subst e2;simp only[Zc,Zw]at hs;obtain⟨h1,rfl⟩:=hs;obtain⟨a,cap',e1,_,hrows,_⟩:=rep_sl.1 hr;injection e1 with e1 _ _;obtain⟨g',off',e3,hlen,hat⟩:=aq7 hrows 0 (by omega);rw[<-e1]at e3;injection e3 with e3;injection e3 with e3 e4;subst e3;cases hy:ys[0]with
   |nil=>rw[hy]at hlen;simp at hlen;omega
   |cons x r=>
    rw[hy,RepAt]at hat;have:=(hI.prot _ _ hat.1.1).2.1;rw[hown]at this;cases this
  ·cases hs
 |bs j W' m=>
  obtain⟨cap',e1,_,hj,_⟩:=rep_bs.1 hr;simp only[rowC]at hs;split at hs
  ·next e2=>
   subst e2;split at hs
   ·next E' l hb'=>
    injection e1 with e1 _ _;injection e1 with e1;injection e1 with e1 _;have h2:=hI.ok hb' rfl;rw[<-e1,hown]at h2;injection h2 with h2;by_cases hij:i=j
    ·subst hij;exact hne _ rfl
    ·exact hI.labne hb hb' hl rfl hij h2
   ·cases hs
  ·cases hs
 |_=>simp[rowC]at hs
end
end AX
end
section
open Go.RowKit Go.Lib
theorem cxl(b n c k vb vo vc:Nat)(cs vs:List Value)(w:World)(hk:k<n)(hnc:n<=c)(hroom:c<n+1)(hbig:(n+1)*24<=140737488355328)
  (hcl:cs.length=n*2) (hvl:vs.length=2) (hbw:b<w.heap.size) (hvw:vb<w.heap.size)
  (hcs:∀j v,cs[j]?=some v->w.cell? ⟨b,j,none⟩=some v) (hvs:∀j v,vs[j]?=some v->w.cell? ⟨vb,vo+j,none⟩=some v) (h1c:∀v∈cs,v.oneCell'=true) (h1v:∀v∈vs,v.oneCell'=true):
  Calls Tryz.prog 31 #[.slice (some ⟨b,0,none⟩) n c,.int .i64 k,.slice (some ⟨vb,vo,none⟩) 1 vc] w fun e w'=>
   ∃(G:Nat) (rest:List Value),e=.returned (.slice (some ⟨w.heap.size,0,none⟩) (n+1) G)/\n+1<=G/\G<=maxLen /\
   w'.heap[w.heap.size]?=some (.cells (cs.take (k*2)++vs++cs.drop (k*2)++rest).toArray 78 (0,0))/\(cs.take (k*2)++vs++cs.drop (k*2)++rest).length=G*2/\Below w.heap.size w w':=by
 obtain⟨i0,hi0,hz0,hzs,hzb⟩:=info_parts (show(Tryz.prog.info? 78).map (fun i=>(i.zero,i.size,i.bytes))=some (some (.agg #[.string ⟨#[]⟩,.pointer none]:Value),2,24) by kernel_rfl);have uS:∀w,Sem.run Tryz.prog (underlying 70) w=.ok (TypeDesc.slice 78) w:=run_underlying Tryz.underlying70;have mixed:Tryz.prog.follows .mixedOrders=true:=by kernel_rfl
 have hz1:¬((1:Int)=0):=by omega
 have hz2:¬((k:Int)=(n:Int)):=by omega
 have hz3:(c:Int)<(n:Int)+(1:Int):=by omega
 have hik:k+(n+1-k)=n+1:=by omega
 have hkk:(n:Int)+1-(k:Int)=((n+1-k:Nat):Int):=by omega
 have hold:(Builtin.firstCells i0.size k (.slice (some ⟨b,0,none⟩) k c)).run Tryz.prog w.drew=.ok (cs.take (k*2)).toArray w.drew:=by
  rw[hzs]
  exact run_firstCells_some w.drew 2 k ⟨b,0,none⟩ k c (cs.take (k*2)) (by rw[Zk];omega) (fun j v hj=>by
   rw[Addr.add_lit,Yj];rw[List.getElem?_take]at hj;split at hj
   ·exact hcs j v hj
   ·cases hj)
 have hrz:∀ty,(Builtin.append_ #[70,3] ty #[.slice (some ⟨b,0,none⟩) k c,.int .i64 ((n:Int)+1-(k:Int))]).run Tryz.prog w =
   .ok (.slice (some ⟨w.heap.size,0,none⟩) (n+1) (grownCap w (n+1) c 78)) (w.drew.alloc (.cells ((cs.take (k*2)).toArray++Builtin.zeroCells ((.agg #[.string ⟨#[]⟩,.pointer none]:Value):Value).cells (n+1-k)++Builtin.zeroCells ((.agg #[.string ⟨#[]⟩,.pointer none]:Value):Value).cells (grownCap w (n+1) c 78-(n+1))) 78)):=fun ty=>by
  have h:=Lib.run_append_grow_zeros w 70 3 ty 78 i0 _ .i64 .i64 Tryz.underlying70 (by kernel_rfl) hi0 hz0 (some ⟨b,0,none⟩) k c (cs.take (k*2)) hold (n+1-k) (by omega) (by omega) (by omega) (by omega) (by rw[hzb];omega) (by rw[hzb,hik];exact growslice_fits hroom hbig);rw[hik]at h;rw[hkk];exact h
 have hGm:=grownCap_le_maxLen w (n+1) c 78 (by unfold maxLen;omega);have hGn:=grownCap_ge w (n+1) c 78;obtain⟨G,hG⟩:∃G,G=grownCap w (n+1) c 78:=⟨_,rfl⟩;rw[<-hG]at hrz hGm hGn;obtain⟨ROW,hROW⟩:∃ROW:Array Value,ROW=(cs.take (k*2)).toArray++Builtin.zeroCells ((.agg #[.string ⟨#[]⟩,.pointer none]:Value):Value).cells (n+1-k)++Builtin.zeroCells ((.agg #[.string ⟨#[]⟩,.pointer none]:Value):Value).cells (G-(n+1)):=⟨_,rfl⟩;rw[<-hROW]at hrz;have hzc:((.agg #[.string ⟨#[]⟩,.pointer none]:Value):Value).cells.size=2:=rfl;have hRl:ROW.size=G*2:=by
  rw[hROW];simp only[Array.size_append,size_zeroCells,hzc,List.size_toArray,Zk,hcl];have:min (k*2) (n*2)=k*2:=by omega
  omega
 have hRt:ROW.toList.take (k*2)=cs.take (k*2):=by
  rw[hROW];simp only[Array.toList_append,Zi];rw[List.take_append_of_le_length (by simp;omega),Zy (by simp;omega)]
 obtain⟨W1,hW1⟩:∃W1,W1=w.drew.alloc (.cells ROW 78):=⟨_,rfl⟩;rw[<-hW1]at hrz;have hg1:W1.heap[w.heap.size]?=some (.cells ROW 78 (0,0)):=by rw[hW1];exact heap_alloc_new w.drew _
 have hOb:∀j v,w.cell? ⟨b,j,none⟩=some v->W1.cell? ⟨b,j,none⟩=some v:=fun j v h=>by rw[hW1,World.cell?_alloc_past (w:=w.drew) _ b j hbw];exact h
 have hOv:∀j v,w.cell? ⟨vb,j,none⟩=some v->W1.cell? ⟨vb,j,none⟩=some v:=fun j v h=>by rw[hW1,World.cell?_alloc_past (w:=w.drew) _ vb j hvw];exact h
 have hB1:Below w.heap.size w W1:=by rw[hW1];exact((Below.refl w.heap.size w).drew).alloc (Ze _) _
 have hmin1:Nat.min 1 (n+1-k)=1:=by simp only[Nat.min_def];split<;>omega
 have hmin2:Nat.min (n-k) (n+1-(k+1))=n-k:=by simp only[Nat.min_def];split<;>omega
 obtain⟨R1,hR1⟩:∃R1:Array Value,R1=(ROW.toList.take (k*2)++vs++ROW.toList.drop (k*2+vs.length)).toArray:=⟨_,rfl⟩;have hR1l:R1.size=G*2:=by
  rw[hR1];simp only[List.size_toArray,Za,Zk,ZC,ZO];omega
 have hcpA:∀(W:World),W.heap=W1.heap->∀ty dc,(Builtin.copy_ #[70,70] ty #[.slice (some ⟨w.heap.size,k*2,none⟩) (n+1-k) dc,.slice (some ⟨vb,vo,none⟩) 1 vc]).run Tryz.prog W=.ok (goInt 1) (W.setRow w.heap.size R1):=fun W hW ty dc=>by
  have h:=aqv (P:=Tryz.prog) W 70 70 ty 78 i0 w.heap.size (k*2) (n+1-k) dc ⟨vb,vo,none⟩ 1 vc ROW 78 vs Tryz.underlying70 hi0 (by rw[hW];exact hg1) (by rw[hmin1,hzs,hvl])
   (fun j v hj=>by rw[Addr.add_lit,show W.cell? ⟨vb,vo+j,none⟩=W1.cell? ⟨vb,vo+j,none⟩ by simp only[World.cell?,hW]];exact hOv _ v (hvs j v hj)) (by omega) h1v
  rw[hmin1,<-hR1]at h;exact h
 obtain⟨W2,hW2⟩:∃W2,W2=W1.setRow w.heap.size R1:=⟨_,rfl⟩;have hg2:W2.heap[w.heap.size]?=some (.cells R1 78 (0,0)):=by rw[hW2];exact setRow_heap W1 _ _ _ _ _ hg1
 have hdl:(cs.drop (k*2)).length=(n-k)*2:=by rw[ZC,hcl];omega
 obtain⟨R2,hR2⟩:∃R2:Array Value,R2=(R1.toList.take ((k+1)*2)++cs.drop (k*2)++R1.toList.drop ((k+1)*2+(cs.drop (k*2)).length)).toArray:=⟨_,rfl⟩;have hcpB:∀(W:World),W.heap=W2.heap->∀ty dc sc,(Builtin.copy_ #[70,70] ty #[.slice (some ⟨w.heap.size,(k+1)*2,none⟩) (n+1-(k+1)) dc,.slice (some ⟨b,k*2,none⟩) (n-k) sc]).run Tryz.prog W=.ok (goInt (n-k:Nat)) (W.setRow w.heap.size R2):=fun W hW ty dc sc=>by
  have h:=aqv (P:=Tryz.prog) W 70 70 ty 78 i0 w.heap.size ((k+1)*2) (n+1-(k+1)) dc ⟨b,k*2,none⟩ (n-k) sc R1 78 (cs.drop (k*2)) Tryz.underlying70 hi0 (by rw[hW];exact hg2) (by rw[hmin2,hzs,hdl])
   (fun j v hj=>by
    rw[Addr.add_lit,show W.cell? ⟨b,k*2+j,none⟩=W1.cell? ⟨b,k*2+j,none⟩ by
     have:W.heap[b]?=W1.heap[b]?:=by rw[hW,hW2];exact setRow_other W1 _ _ _ (by omega)
     simp only[World.cell?,this]]
    exact hOb _ v (hcs _ v (by rwa [List.getElem?_drop]at hj))) (by omega) (fun v hv=>h1c v (List.mem_of_mem_drop hv))
  rw[hmin2,<-hR2]at h;exact h
 have hfin:R2.toList=cs.take (k*2)++vs++cs.drop (k*2)++ROW.toList.drop ((n+1)*2):=by
  have e1:R1.toList.take ((k+1)*2)=cs.take (k*2)++vs:=by
   rw[hR1];simp only[List.toList_toArray];rw[List.take_append_of_le_length (by simp only[Za,Zk,ZO];omega),Zy (by simp only[Za,Zk,ZO];omega),hRt]
  have e2:R1.toList.drop ((k+1)*2+(cs.drop (k*2)).length)=ROW.toList.drop ((n+1)*2):=by
   rw[hR1,hdl];simp only[List.toList_toArray];rw[List.drop_append,ZQ (by simp only[Za,Zk,ZO];omega),Zq,Y6];congr 1;simp only[Za,Zk,ZO];omega
  rw[hR2,List.toList_toArray,e1,e2]
 have hw1 : IntKind.i64.wrap ((k : Int) + 1) = (k : Int) + 1 := by rw [IntKind.wrap_i64]; have : c <= 9000000000000000000 := by omega
                                                                   omega
 have hb1:(0:Int)<=(k:Int)+1:=by omega
 have hin:k<=n:=by omega
 have htn:((k:Int)+1).toNat=k+1:=by omega
 have hb3:(k:Int)<=(n:Int):=by omega
 have hGk:¬(G=k):=by omega
 have hGk1:¬(G=k+1):=by omega
 have hck:¬(c=k):=by omega
 have hK1:=kept hfin;have hK2:=kept hRl;have hK3:=kept hg2;have hK4:=kept hB1;have hK5:=kept hW2;have hK6:=kept hW1;clear hkk hik hold hROW hG hRl hfin hg1 hg2 hR1 hR2 hRt hB1 hOb hOv hcs hvs h1c h1v hR1l hdl;have hE1:((w.alloc (.cells ROW 78)).drew).heap=W1.heap:=by rw[hK6.out];rfl
 have hE1':W1.heap=W1.heap:=rfl;go_enter Tryz.func31,Tryz.ntmps31
 go_wp2_with (first
  |(at_builtin;refine Lib.wpList_append_run _ rfl _ _ _ _ rfl _ _ rfl rfl _ _ (hrz _) ?_)
  |(at_builtin;refine axy _ rfl _ _ 70 70 rfl _ _ rfl rfl (hcpA _ (by first|rfl|exact hE1) _ _) ?_)
  |(at_builtin;refine axy _ rfl _ _ 70 70 rfl _ _ rfl rfl (hcpB _ (by first|rfl|exact hE1) _ _ _) ?_))
 have hE2:((w.alloc (.cells ROW 78)).drew.setRow w.heap.size R1).heap=W2.heap:=by rw[hK5.out,hK6.out];rfl
 have hB2:Below w.heap.size w ((w.alloc (.cells ROW 78)).drew.setRow w.heap.size R1).drew:=(bx4 (((Below.refl w.heap.size w).alloc (Ze _) _).drew) (Ze _) _).drew
 go_region_law_o (refine bzj rfl _ _ 70 70 rfl (.slice (some ⟨w.heap.size,(k+1)*2,none⟩) (n+1-(k+1)) (G-(k+1))) (.slice (some ⟨b,k*2,none⟩) (n-k) (c-k)) (by simp[Act.eval,Act.put]) (by simp[Act.eval,Act.put]) (hcpB _ (by first|exact hE2|rfl) _ _ _) ?_)
 go_wp2
 go_ret
 have hfin:=hK1.out;have hg3:((w.alloc (.cells ROW 78)).drew.setRow w.heap.size R1).drew.heap[w.heap.size]?=some (.cells R1 78 (0,0)):=by
  show((w.alloc (.cells ROW 78)).drew.setRow w.heap.size R1).heap[w.heap.size]?=_
  rw[hE2];exact hK3.out
 refine⟨G,ROW.toList.drop ((n+1)*2),rfl,hGn,hGm,?_,?_,bx4 hB2 (Ze _) _⟩
 ·rw[setRow_heap _ _ _ _ _ _ hg3,<-hfin,Array.toArray_toList]
 ·have hr:=hK2.out;simp only[Za,Zk,ZC,ZO,hcl,hvl];omega
theorem byo(b n c k vb vo vc:Nat)(cur cs vs:List Value)(curA:Array Value)(tA:TypeId)(fr:Nat×Nat)(w:World)(hk:k<n)(hroom:n+1<=c)(hcm:c<=maxLen)
  (hg:w.heap[b]?=some (.cells cur.toArray 78 (0,0))) (hcap:c*2<=cur.length) (hcs:cs=cur.take (n*2)) (hvl:vs.length=2) (hne:vb≠b) (hA:w.heap[vb]?=some (.cells curA tA fr)) (hA0:curA.size≠0)
  (hvs:∀j v,vs[j]?=some v->w.cell? ⟨vb,vo+j,none⟩=some v) (h1c:∀v∈cs,v.oneCell'=true) (h1v:∀v∈vs,v.oneCell'=true):
  Calls Tryz.prog 31 #[.slice (some ⟨b,0,none⟩) n c,.int .i64 k,.slice (some ⟨vb,vo,none⟩) 1 vc] w fun e w'=>
   ∃rest:List Value,e=.returned (.slice (some ⟨b,0,none⟩) (n+1) c) /\
   w'.heap[b]?=some (.cells (cs.take (k*2)++vs++cs.drop (k*2)++rest).toArray 78 (0,0))/\(cs.take (k*2)++vs++cs.drop (k*2)++rest).length=cur.length/\w.grownBy w' (some b):=by
 obtain⟨i0,hi0,hz0,hzs,hzb⟩:=info_parts (show(Tryz.prog.info? 78).map (fun i=>(i.zero,i.size,i.bytes))=some (some (.agg #[.string ⟨#[]⟩,.pointer none]:Value),2,24) by kernel_rfl);have uS:∀w,Sem.run Tryz.prog (underlying 70) w=.ok (TypeDesc.slice 78) w:=run_underlying Tryz.underlying70;have mixed:Tryz.prog.follows .mixedOrders=true:=by kernel_rfl
 have hz1:¬((1:Int)=0):=by omega
 have hz2:¬((k:Int)=(n:Int)):=by omega
 have hz3:¬((c:Int)<(n:Int)+(1:Int)):=by omega
 have hcl:cs.length=n*2:=by rw[hcs,Zk];omega
 have hcsC:∀j v,cs[j]?=some v->w.cell? ⟨b,j,none⟩=some v:=fun j v hj=>by
  rw[hcs,List.getElem?_take]at hj;split at hj
  ·simp[World.cell?,hg,hj]
  ·cases hj
 have hov:∀lb cb,(callFunc 59 #[.slice (some ⟨vb,vo,none⟩) 1 vc,.slice (some ⟨b,(k+1)*2,none⟩) lb cb]).run Tryz.prog w=.ok (.value (.bool false)) w:=fun lb cb=>by
  rw[run_callFunc_extern Tryz.func59 (by kernel_rfl) (by kernel_rfl) (by kernel_rfl) (e:=Extern.SlicesOverlaps.overlaps #[70,70] #[4]) (by kernel_rfl),
   bqq w 70 4 78 Tryz.underlying70 2 (by intro w;simp[sizeOf,typeInfo,hi0,hzs]) ⟨vb,vo,none⟩ ⟨b,(k+1)*2,none⟩ 1 vc lb cb hne hA hA0 hg]
  rfl
 have hmin1:Nat.min (n+1-k) (n-k)=n-k:=by simp only[Nat.min_def];split<;>omega
 have hmin2:Nat.min 1 (n+1-k)=1:=by simp only[Nat.min_def];split<;>omega
 have hdl:(cs.drop (k*2)).length=(n-k)*2:=by rw[ZC,hcl];omega
 obtain⟨R1,hR1⟩:∃R1:Array Value,R1=(cur.take ((k+1)*2)++cs.drop (k*2)++cur.drop ((k+1)*2+(cs.drop (k*2)).length)).toArray:=⟨_,rfl⟩;have hR1l:R1.size=cur.length:=by rw[hR1];simp only[List.size_toArray,Za,Zk,ZC,hdl];omega
 have hcpA:∀ty dc sc,(Builtin.copy_ #[70,70] ty #[.slice (some ⟨b,(k+1)*2,none⟩) (n-k) dc,.slice (some ⟨b,k*2,none⟩) (n+1-k) sc]).run Tryz.prog w.drew=.ok (goInt (n-k:Nat)) (w.drew.setRow b R1):=fun ty dc sc=>by
  have h:=aqv (P:=Tryz.prog) w.drew 70 70 ty 78 i0 b ((k+1)*2) (n-k) dc ⟨b,k*2,none⟩ (n+1-k) sc cur.toArray 78 (cs.drop (k*2)) Tryz.underlying70 hi0 hg (by rw[hmin1,hzs,hdl])
   (fun j v hj=>by rw[Addr.add_lit];exact hcsC _ v (by rwa [List.getElem?_drop]at hj)) (by simp only[List.size_toArray];omega) (fun v hv=>h1c v (List.mem_of_mem_drop hv))
  rw[hmin1,List.toList_toArray,<-hR1]at h;exact h
 obtain⟨W1,hW1⟩:∃W1,W1=w.drew.setRow b R1:=⟨_,rfl⟩;rw[<-hW1]at hcpA;have hg1:W1.heap[b]?=some (.cells R1 78 (0,0)):=by rw[hW1];exact setRow_heap w.drew _ _ _ _ _ hg
 obtain⟨R2,hR2⟩:∃R2:Array Value,R2=(R1.toList.take (k*2)++vs++R1.toList.drop (k*2+vs.length)).toArray:=⟨_,rfl⟩;have hcpB:∀(W:World),W.heap=W1.heap->∀ty dc,(Builtin.copy_ #[70,70] ty #[.slice (some ⟨b,k*2,none⟩) (n+1-k) dc,.slice (some ⟨vb,vo,none⟩) 1 vc]).run Tryz.prog W=.ok (goInt 1) (W.setRow b R2):=fun W hW ty dc=>by
  have h:=aqv (P:=Tryz.prog) W 70 70 ty 78 i0 b (k*2) (n+1-k) dc ⟨vb,vo,none⟩ 1 vc R1 78 vs Tryz.underlying70 hi0 (by rw[hW];exact hg1) (by rw[hmin2,hzs,hvl])
   (fun j v hj=>by
    rw[Addr.add_lit,show W.cell? ⟨vb,vo+j,none⟩=w.cell? ⟨vb,vo+j,none⟩ by
     have:W.heap[vb]?=w.heap[vb]?:=by rw[hW,hW1];exact setRow_other w.drew _ _ _ hne
     simp only[World.cell?,this]]
    exact hvs j v hj) (by omega) h1v
  rw[hmin2,<-hR2]at h;exact h
 have hfin:R2.toList=cs.take (k*2)++vs++cs.drop (k*2)++cur.drop ((n+1)*2):=by
  have e1:R1.toList.take (k*2)=cs.take (k*2):=by
   rw[hR1,List.toList_toArray,Zi,List.take_append_of_le_length (by rw[Zk];omega),List.take_take,hcs,List.take_take];congr 1;omega
  have e2:R1.toList.drop (k*2+vs.length)=cs.drop (k*2)++cur.drop ((n+1)*2):=by
   have hl:(cur.take ((k+1)*2)).length=k*2+vs.length:=by rw[Zk,hvl];omega
   rw[hR1,List.toList_toArray,Zi,<-hl,List.drop_left,hdl];congr 2;omega
  rw[hR2,List.toList_toArray,e1,e2];simp only[Zi]
 have hw1:IntKind.i64.wrap ((k:Int)+1)=(k:Int)+1:=by rw[IntKind.wrap_i64];unfold maxLen at hcm;omega
 have hw2:IntKind.i64.wrap ((n:Int)+1)=(n:Int)+1:=by rw[IntKind.wrap_i64];unfold maxLen at hcm;omega
 have hb1:(0:Int)<=(k:Int)+1:=by omega
 have hb2:(0:Int)<=(n:Int)+1:=by omega
 have hin:k<=n:=by omega
 have htn:((k:Int)+1).toNat=k+1:=by omega
 have htn2:((n:Int)+1).toNat=n+1:=by omega
 have hb3:(k:Int)<=(n:Int):=by omega
 have hb4:(k:Int)<=(n:Int)+1:=by omega
 have hck:¬(c=k):=by omega
 have hck1:¬(c=k+1):=by omega
 have hK1:=kept hfin;have hK3:=kept hg;have hK5:=kept hW1;have hK6:=kept hR1l;have hK7:=kept hcap;clear hfin hg hg1 hR1 hR2 hcs hvs h1c h1v hR1l hdl hcsC hcap hA;go_enter Tryz.func31,Tryz.ntmps31;go_wp2_with (simp only[hov])
 go_region_law_o (refine bzj rfl _ _ 70 70 rfl _ _ (by simp[Act.eval,Act.put]) (by simp[Act.eval,Act.put]) (hcpA _ _ _) ?_)
 go_wp2_with (at_builtin;refine axy _ rfl _ _ 70 70 rfl _ _ rfl rfl (hcpB _ rfl _ _) ?_)
 go_ret
 have hfin:=hK1.out;have hg3:W1.heap[b]?=some (.cells R1 78 (0,0)):=by rw[hK5.out];exact setRow_heap w.drew _ _ _ _ _ hK3.out
 have hgr:w.grownBy W1 (some b):=by
  rw[hK5.out];exact⟨rfl,rfl,rfl,by simp,fun j _ hj=>setRow_other w.drew _ j _ fun e=>hj (by rw[e])⟩
 rw[<-hK5.out];refine⟨cur.drop ((n+1)*2),rfl,?_,?_,⟨hgr.os,hgr.tape,hgr.output,by simpa using hgr.size,fun j h1 hj=>(setRow_other W1 _ j _ fun e=>hj (by rw[e])).trans (hgr.block j h1 hj)⟩⟩
 ·rw[setRow_heap _ _ _ _ _ _ hg3,<-hfin,Array.toArray_toList]
 ·have hc:=hK7.out;simp only[Za,Zk,ZC,hcl,hvl];have:=Ym 2 hroom;omega
theorem delW(b n c k:Nat)(cur cs:List Value)(w:World)(hk:k<n)(hnc:n<=c)(hcm:c<=maxLen)
  (hg:w.heap[b]?=some (.cells cur.toArray 78 (0,0))) (hcap:c*2<=cur.length) (hcs:cs=cur.take (n*2)) (h1c:∀v∈cs,v.oneCell'=true):
  Calls Tryz.prog 37 #[.slice (some ⟨b,0,none⟩) n c,.int .i64 k,.int .i64 ((k:Int)+1)] w fun e w'=>
   ∃rest:List Value,e=.returned (.slice (some ⟨b,0,none⟩) (n-1) c) /\
   w'.heap[b]?=some (.cells (cs.take (k*2)++cs.drop ((k+1)*2)++rest).toArray 78 (0,0))/\(cs.take (k*2)++cs.drop ((k+1)*2)++rest).length=cur.length/\w.grownBy w' (some b):=by
 obtain⟨i0,hi0,hz0,hzs,hzb⟩:=info_parts (show(Tryz.prog.info? 78).map (fun i=>(i.zero,i.size,i.bytes))=some (some (.agg #[.string ⟨#[]⟩,.pointer none]:Value),2,24) by kernel_rfl);have mixed:Tryz.prog.follows .mixedOrders=true:=by kernel_rfl
 have uS:∀w,Sem.run Tryz.prog (underlying 70) w=.ok (TypeDesc.slice 78) w:=run_underlying Tryz.underlying70;have hcl:cs.length=n*2:=by rw[hcs,Zk];omega
 have hcsC:∀j v,cs[j]?=some v->w.cell? ⟨b,j,none⟩=some v:=fun j v hj=>by
  rw[hcs,List.getElem?_take]at hj;split at hj
  ·simp[World.cell?,hg,hj]
  ·cases hj
 have hz1:¬((k:Int)=(k:Int)+1):=by omega
 have hdl:(cs.drop ((k+1)*2)).length=(n-(k+1))*2:=by rw[ZC,hcl];omega
 obtain⟨R1,hR1⟩:∃R1:Array Value,R1=(cur.take (k*2)++cs.drop ((k+1)*2)++cur.drop (k*2+(cs.drop ((k+1)*2)).length)).toArray:=⟨_,rfl⟩;have hR1l:R1.size=cur.length:=by rw[hR1];simp only[List.size_toArray,Za,Zk,ZC,hdl];omega
 have hap:∀(W:World),W.heap=w.heap->∀ty (ad:Addr) c2,(n-(k+1)=0\/ad=⟨b,(k+1)*2,none⟩)->(Builtin.append_ #[70,70] ty #[.slice (some ⟨b,0,none⟩) k c,.slice (some ad) (n-(k+1)) c2]).run Tryz.prog W=.ok (.slice (some ⟨b,0,none⟩) (n-1) c) (W.setRow b R1):=fun W hW ty ad c2 had=>by
  have h:=run_append_room (P:=Tryz.prog) W 70 ty 78 i0 Tryz.underlying70 hi0 b k c cur.toArray (by rw[hW];exact hg) ad (n-(k+1)) c2 (cs.drop ((k+1)*2)) (by rw[hzs];exact hdl)
   (fun j u hj=>by
    rcases had with h0|rfl
    ·have:(cs.drop ((k+1)*2)).length=0:=by rw[hdl,h0,Nat.zero_mul]
     rw[ZN this]at hj;simp at hj
    ·rw[Addr.add_lit,show W.cell? ⟨b,(k+1)*2+j,none⟩=w.cell? ⟨b,(k+1)*2+j,none⟩ by simp only[World.cell?,hW]]
     exact hcsC _ u (by rwa [List.getElem?_drop]at hj))
   (fun v hv=>h1c v (List.mem_of_mem_drop hv)) (by omega) (by rw[hzs,hdl];simp only[List.size_toArray];omega)
  rw[hzs,List.toList_toArray,<-hR1,show k+(n-(k+1))=n-1 by omega]at h;exact h
 obtain⟨W1,hW1⟩:∃W1,W1=w.setRow b R1:=⟨_,rfl⟩;have hg1:W1.heap[b]?=some (.cells R1 78 (0,0)):=by rw[hW1];exact setRow_heap w _ _ _ _ _ hg
 have hzv:∀w,(zeroValue 78).run Tryz.prog w=.ok ((.agg #[.string ⟨#[]⟩,.pointer none]:Value)) w:=by intro w;simp[zeroValue,typeInfo,hi0,hz0]
 have hcK:(n-1)*2+1*2<=R1.size:=by
  rw[hR1l];have:=Ym 2 hnc;omega
 obtain⟨Z,hZ⟩:∃Z:List Value,Z=(Builtin.zeroCells ((.agg #[.string ⟨#[]⟩,.pointer none]:Value)).cells 1).toList:=⟨_,rfl⟩;have hZl:Z.length=2:=by rw[hZ];simp[size_zeroCells,Value.cells]
 obtain⟨R2,hR2⟩:∃R2:Array Value,R2=(R1.toList.take ((n-1)*2)++Z++R1.toList.drop ((n-1)*2+Z.length)).toArray:=⟨_,rfl⟩;have hcr:∀(W:World),W.heap=W1.heap->∀ty c2,(Builtin.clear_ #[70] ty #[.slice (some ⟨b,(n-1)*2,none⟩) 1 c2]).run Tryz.prog W=.ok (.tuple #[]) (W.setRow b R2):=fun W hW ty c2=>by
  rw[hR2,hZ];exact ayz W 70 78 ty ((.agg #[.string ⟨#[]⟩,.pointer none]:Value)) b ((n-1)*2) 1 c2 2 R1 78 Tryz.underlying70 hzv rfl (by decide) (by rw[hW];exact hg1) hcK (by decide)
 have hfin:R2.toList=cs.take (k*2)++cs.drop ((k+1)*2)++(Z++R1.toList.drop ((n-1)*2+Z.length)):=by
  have e1:R1.toList.take ((n-1)*2)=cs.take (k*2)++cs.drop ((k+1)*2):=by
   have h1:cur.take (k*2)=cs.take (k*2):=by rw[hcs,List.take_take];congr 1;omega
   rw[hR1,List.toList_toArray,List.take_append_of_le_length (by rw[Za,Zk,hdl];omega),Zy (by rw[Za,Zk,hdl];omega),h1]
  rw[hR2,List.toList_toArray,e1,Zi]
 have hw1:IntKind.i64.wrap ((n:Int)-1)=(n:Int)-1:=by rw[IntKind.wrap_i64];unfold maxLen at hcm;omega
 have hb1:(0:Int)<=(k:Int)+1:=by omega
 have hb2:(k:Int)<=(k:Int)+1:=by omega
 have hb3:(k:Int)+1<=(n:Int):=by omega
 have hb4:(k:Int)<=(n:Int):=by omega
 have hb5:(n:Int)<=(c:Int):=by omega
 have htn:((k:Int)+1).toNat=k+1:=by omega
 have hck:¬(c=k):=by omega
 obtain⟨A,hA,had⟩:∃A:Addr,(if c=k+1 then(some ⟨b,0,none⟩:Option Addr)else some ⟨b,(k+1)*2,none⟩)=some A/\(n-(k+1)=0\/A=⟨b,(k+1)*2,none⟩):=by
  by_cases h:c=k+1
  ·exact⟨_,if_pos h,.inl (by omega)⟩
  ·exact⟨_,if_neg h,.inr rfl⟩
 have hcn:¬(c=n-1):=by omega
 have hkc:k<=c:=by omega
 have hn1:n-(n-1)=1:=by omega
 have hn2:((n-1:Nat):Int)<=(n:Int):=by omega
 have hK0:=kept hfin;have hK1:=kept hcK;have hK2:=kept hg;have hK3:=kept hR1;have hK4:=kept hW1;have hK5:=kept hg1;have hK6:=kept hcs;have hK7:=kept hR1l;clear hfin hcK hg hR1 hcs h1c hR1l hdl hcsC hcap hg1 hZ hR2;go_enter Tryz.func37,Tryz.ntmps37;go_wp2_with fail
 go_region_law_o (refine bxh rfl _ _ 70 70 rfl (.slice (some ⟨b,0,none⟩) k c) (.slice (some A) (n-(k+1)) (c-(k+1))) (by simp[Act.eval,Act.put]) (by simp[Act.eval,Act.put]) (hap w.drew rfl _ _ _ had) ?_)
 go_wp2;rw[hcr (w.drew.setRow b R1) (by rw[hK4.out];rfl)];go_wp2
 go_ret
 have hg3:(w.drew.setRow b R1).heap[b]?=some (.cells R1 78 (0,0)):=setRow_heap w.drew _ _ _ _ _ hK2.out;refine⟨Z++R1.toList.drop ((n-1)*2+Z.length),rfl,?_,?_,⟨rfl,rfl,rfl,by simp,fun j _ hj=>(setRow_other _ _ j _ fun e=>hj (by rw[e])).trans (setRow_other w.drew _ j _ fun e=>hj (by rw[e]))⟩⟩
 ·rw[setRow_heap _ _ _ _ _ _ hg3,<-hK0.out,Array.toArray_toList]
 ·have h1:=hK1.out;have h7:=hK7.out;simp only[Za,Zk,ZC,ZO,hcl,hZl];omega
theorem cws(b n c vb vo vc:Nat)(cur cs vs:List Value)(w:World)(hnc:n<=c)(hcm:c<=maxLen)(hn1:n+1<=maxLen)(hbig:(n+1)*24<=140737488355328)
  (hg:w.heap[b]?=some (.cells cur.toArray 78 (0,0))) (hcap:c*2<=cur.length) (hcs:cs=cur.take (n*2)) (hvl:vs.length=2)
  (hvs:∀j v,vs[j]?=some v->w.cell? ⟨vb,vo+j,none⟩=some v) (h1v:∀v∈vs,v.oneCell'=true):
  Calls Tryz.prog 31 #[.slice (some ⟨b,0,none⟩) n c,.int .i64 n,.slice (some ⟨vb,vo,none⟩) 1 vc] w fun e w'=>
   (∃rest:List Value,n+1<=c/\e=.returned (.slice (some ⟨b,0,none⟩) (n+1) c)/\w'.heap[b]?=some (.cells (cs++vs++rest).toArray 78 (0,0))/\(cs++vs++rest).length=cur.length/\w.grownBy w' (some b)) \/
   ∃(G:Nat) (rest:List Value),e=.returned (.slice (some ⟨w.heap.size,0,none⟩) (n+1) G)/\n+1<=G/\G<=maxLen/\w'.heap[w.heap.size]?=some (.cells (cs++vs++rest).toArray 78 (0,0))/\(cs++vs++rest).length=G*2/\Below w.heap.size w w':=by
 obtain⟨i0,hi0,hz0,hzs,hzb⟩:=info_parts (show(Tryz.prog.info? 78).map (fun i=>(i.zero,i.size,i.bytes))=some (some (.agg #[.string ⟨#[]⟩,.pointer none]:Value),2,24) by kernel_rfl);have uS:∀w,Sem.run Tryz.prog (underlying 70) w=.ok (TypeDesc.slice 78) w:=run_underlying Tryz.underlying70;have mixed:Tryz.prog.follows .mixedOrders=true:=by kernel_rfl
 have hz1:¬((1:Int)=0):=by omega
 have hcl:cs.length=n*2:=by rw[hcs,Zk];have:=Ym 2 hnc;omega
 have hvs':∀j v,vs[j]?=some v->w.cell? ((⟨vb,vo,none⟩:Addr).add j)=some v:=fun j v hj=>by rw[Addr.add_lit];exact hvs j v hj
 by_cases hroom:n+1<=c
 ·have hk:=Ym 2 hroom;have hrun:∀ty,(Builtin.append_ #[70,70] ty #[.slice (some ⟨b,0,none⟩) n c,.slice (some ⟨vb,vo,none⟩) 1 vc]).run Tryz.prog w=.ok (.slice (some ⟨b,0,none⟩) (n+1) c) (w.setRow b (cs++vs++cur.drop (n*2+2)).toArray):=fun ty=>by
   have h:=run_append_room (P:=Tryz.prog) w 70 ty 78 i0 Tryz.underlying70 hi0 b n c cur.toArray hg ⟨vb,vo,none⟩ 1 vc vs (by rw[hzs,hvl]) hvs' h1v hroom (by rw[hzs,hvl];simp only[List.size_toArray];omega);rw[hzs,List.toList_toArray,hvl,<-hcs]at h;exact h
  have hKg:=kept hg;have hKc:=kept hcap;clear hg hvs hvs' h1v hcs hcap;go_enter Tryz.func31,Tryz.ntmps31;go_wp2_with (at_builtin;refine Lib.wpList_append_run _ rfl _ _ _ _ rfl _ _ rfl rfl _ _ (hrun _) ?_);all_goals (go_ret;refine .inl ⟨cur.drop (n*2+2),hroom,rfl,by rw[Zi];exact setRow_heap _ _ _ _ _ _ hKg.out,?_,⟨rfl,rfl,rfl,by simp,fun j _ hj=>setRow_other _ _ j _ fun e=>hj (by rw[e])⟩⟩;have:=hKc.out;simp only[Za,ZC,hcl,hvl];omega)
 ·have hrun:∀ty,(Builtin.append_ #[70,70] ty #[.slice (some ⟨b,0,none⟩) n c,.slice (some ⟨vb,vo,none⟩) 1 vc]).run Tryz.prog w=_:=fun ty=>
   run_append_grow (P:=Tryz.prog) w 70 ty 78 i0 _ Tryz.underlying70 hi0 hz0 ⟨b,0,none⟩ n c cs (by rw[hzs,hcl]) (fun j v hj=>by
    rw[Addr.add_lit,Yj];rw[hcs,List.getElem?_take]at hj;split at hj
    ·simp[World.cell?,hg,hj]
    ·cases hj) ⟨vb,vo,none⟩ 1 vc vs (by rw[hzs,hvl]) hvs' (by omega) (by unfold maxLen at hn1;omega) (by rw[hzb];exact growslice_fits (by omega) hbig)
  have hGm:=grownCap_le_maxLen w (n+1) c 78 hn1;have hGn:=grownCap_ge w (n+1) c 78;obtain⟨G,hG⟩:∃G,G=grownCap w (n+1) c 78:=⟨_,rfl⟩;rw[<-hG]at hrun hGm hGn;obtain⟨X,hX⟩:∃X,X=(Builtin.zeroCells ((.agg #[.string ⟨#[]⟩,.pointer none]:Value)).cells (G-(n+1))).toList:=⟨_,rfl⟩;have hrow:cs.toArray++vs.toArray++Builtin.zeroCells ((.agg #[.string ⟨#[]⟩,.pointer none]:Value)).cells (G-(n+1))=(cs++vs++X).toArray:=by rw[hX];apply Ya.1;simp
  have hXl:X.length=(G-(n+1))*2:=by rw[hX,ZO,size_zeroCells];rfl
  simp only[hrow]at hrun;have hKx:=kept hXl;clear hg hvs hvs' h1v hcs hcap hX hrow hXl hG;go_enter Tryz.func31,Tryz.ntmps31;go_wp2_with (at_builtin;refine Lib.wpList_append_run _ rfl _ _ _ _ rfl _ _ rfl rfl _ _ (hrun _) ?_);all_goals (go_ret;refine .inr ⟨G,X,rfl,hGn,hGm,by rw[Zi];exact heap_alloc_new w.drew _,?_,((Below.refl w.heap.size w).drew).alloc (Ze _) _⟩;rw[Za,Za,hcl,hvl,hKx.out];omega)
theorem cv7(vb vo vc:Nat)(vs:List Value)(w:World)(hvl:vs.length=2)
  (hvs:∀j v,vs[j]?=some v->w.cell? ⟨vb,vo+j,none⟩=some v):
  Calls Tryz.prog 31 #[.slice none 0 0,.int .i64 0,.slice (some ⟨vb,vo,none⟩) 1 vc] w fun e w'=>
   ∃(G:Nat) (rest:List Value),e=.returned (.slice (some ⟨w.heap.size,0,none⟩) 1 G)/\1<=G/\G<=maxLen/\w'.heap[w.heap.size]?=some (.cells (vs++rest).toArray 78 (0,0))/\(vs++rest).length=G*2/\Below w.heap.size w w':=by
 obtain⟨i0,hi0,hz0,hzs,hzb⟩:=info_parts (show(Tryz.prog.info? 78).map (fun i=>(i.zero,i.size,i.bytes))=some (some (.agg #[.string ⟨#[]⟩,.pointer none]:Value),2,24) by kernel_rfl);have uS:∀w,Sem.run Tryz.prog (underlying 70) w=.ok (TypeDesc.slice 78) w:=run_underlying Tryz.underlying70;have mixed:Tryz.prog.follows .mixedOrders=true:=by kernel_rfl
 have hz1:¬((1:Int)=0):=by omega
 have hrun:∀ty,(Builtin.append_ #[70,70] ty #[.slice none 0 0,.slice (some ⟨vb,vo,none⟩) 1 vc]).run Tryz.prog w=_:=fun ty=>
  run_append_nil (P:=Tryz.prog) w 70 ty 78 i0 _ Tryz.underlying70 hi0 hz0 ⟨vb,vo,none⟩ 1 vc vs (by rw[hzs,hvl]) (fun j v hj=>by rw[Addr.add_lit];exact hvs j v hj) (by omega) (by omega) (by rw[hzb];omega)
 have hGm:=grownCap_le_maxLen w 1 0 78 (by unfold maxLen;omega);have hGn:=grownCap_ge w 1 0 78;obtain⟨G,hG⟩:∃G,G=grownCap w 1 0 78:=⟨_,rfl⟩;rw[<-hG]at hrun hGm hGn;obtain⟨X,hX⟩:∃X,X=(Builtin.zeroCells ((.agg #[.string ⟨#[]⟩,.pointer none]:Value)).cells (G-1)).toList:=⟨_,rfl⟩;have hrow:vs.toArray++Builtin.zeroCells ((.agg #[.string ⟨#[]⟩,.pointer none]:Value)).cells (G-1)=(vs++X).toArray:=by rw[hX];apply Ya.1;simp
 have hXl:X.length=(G-1)*2:=by rw[hX,ZO,size_zeroCells];rfl
 simp only[hrow]at hrun;have hKx:=kept hXl;clear hvs hX hrow hXl hG;go_enter Tryz.func31,Tryz.ntmps31;go_wp2_with (at_builtin;refine Lib.wpList_append_run _ rfl _ _ _ _ rfl _ _ rfl rfl _ _ (hrun _) ?_);all_goals (go_ret;refine⟨G,X,rfl,hGn,hGm,heap_alloc_new w.drew _,?_,((Below.refl w.heap.size w).drew).alloc (Ze _) _⟩;rw[Za,hvl,hKx.out];omega)
namespace AX
theorem djs{Gw:World->Prop}{h:Hp}{i n k:Nat}{l x:List A}{V:A}(hb:h.b[i]?=some (.row 78 l))(hl:l.length=n*2)(hk:k<=n)(hV:rowC h 78 2 V=some (1,x))(hne:∀m,V≠.bs i 2 m)(hn:n+1<=1000000)(h1:l.all A.one=true):
  ACall Tryz.prog Gw 31 [.bs i 2 n,.int .i64 k,V] h fun v h'=>v=.bs h.b.length 2 (n+1)/\h'=⟨h.b.set i .gone++[.row 78 (l.take (k*2)++x++l.drop (k*2))],h.t⟩:=by
 intro C es hI ha;obtain⟨c0,es1,rfl,r0,ha⟩:=repL_cons.1 ha;obtain⟨c1,es2,rfl,r1,ha⟩:=repL_cons.1 ha;obtain⟨c2,es3,rfl,r2,ha⟩:=repL_cons.1 ha;rw[azp]at ha;subst ha;obtain⟨cap,rfl,hcap,hilt,hcm,hkap⟩:=rep_bs.1 r0;rw[rep_int]at r1;subst r1;obtain⟨g,off,capv,vs,rfl,v1,v2,v3,v4⟩:=ayh hI r2 hV (by decide);obtain⟨cs,rest,q1,q2,q3⟩:=hI.box i _ hb;have hcl:cs.length=n*2:=(azi q2).trans hl;have hap:=czo hI (by decide) r2 hV hb rfl hne;have hcsC:∀j v,cs[j]?=some v->C.w.cell? ⟨C.κ i,j,none⟩=some v:=fun j v hj=>by
  rw[cell_of_row _ _ _ _ _ _ q1];simp only[List.getElem?_toArray];rw[ZF (Zb.1 hj).1];exact hj
 have hvsC:∀j v,vs[j]?=some v->C.w.cell? ⟨g,off+j,none⟩=some v:=fun j v hj=>by
  have:=v4 j v hj
  rwa [Addr.add_lit]at this
 have hvl:vs.length=2:=by rw[v2]
 obtain⟨curA,tA,fr,hA,hA0⟩:=by9 (hvsC 0 _ (Zj (by omega)));have h1c:=aqo q2 h1;have htk:cs=(cs++rest).take (n*2):=by rw[List.take_append_of_le_length (by omega),Zy (by omega)]
 have hL:RepL C (l.take (k*2)++x++l.drop (k*2)) (cs.take (k*2)++vs++cs.drop (k*2)):=azo (azo (az1 _ q2) v1) (aqp _ q2);have hkl:cap*2<=(cs++rest).length:=by rw[q3];exact hkap
 rcases Z0 k n with hlt|hge
 ·by_cases hroom:n+1<=cap
  ·refine(byo (C.κ i) n cap k g off capv (cs++rest) cs vs curA tA fr C.w hlt hroom hcm q1 hkl htk hvl hap hA hA0 hvsC h1c v3).mono ?_;rintro e w' ⟨rest',rfl,hh,hlen,hg⟩;obtain⟨C',m1,m2,m3,m4⟩:=bw1 (W:=2) (n':=n+1) (cap:=cap) hI hb hh (hlen.trans q3) hg hL hroom hcm hkap;exact⟨C',_,_,_,rfl,m1,m2,m3,m4,rfl,rfl⟩
  ·refine(cxl (C.κ i) n cap k g off capv cs vs C.w hlt hcap (by omega) (by omega) hcl hvl (ZS.1 q1).1 (ZS.1 hA).1 hcsC hvsC h1c v3).mono ?_;rintro e w' ⟨G,rest',rfl,hG1,hG2,hh,hlen,hg⟩;obtain⟨C',m1,m2,m3,m4⟩:=bwy (W:=2) (n':=n+1) (cap:=G) hI hb hh hlen hg hL hG1 hG2;exact⟨C',_,_,_,rfl,m1,m2,m3,m4,rfl,rfl⟩
 ·obtain rfl:k=n:=by omega
  have e1:l.take (k*2)++x++l.drop (k*2)=l++x:=by rw[Zy (by omega),ZQ (by omega),Zz]
  rw[e1];refine(cws (C.κ i) k cap g off capv (cs++rest) cs vs C.w hcap hcm (by unfold maxLen;omega) (by omega) q1 hkl htk hvl hvsC v3).mono ?_;rintro e w' (⟨rest',hroom,rfl,hh,hlen,hg⟩|⟨G,rest',rfl,hG1,hG2,hh,hlen,hg⟩)
  ·obtain⟨C',m1,m2,m3,m4⟩:=bw1 (W:=2) (n':=k+1) (cap:=cap) hI hb hh (hlen.trans q3) hg (azo q2 v1) hroom hcm hkap;exact⟨C',_,_,_,rfl,m1,m2,m3,m4,rfl,rfl⟩
  ·obtain⟨C',m1,m2,m3,m4⟩:=bwy (W:=2) (n':=k+1) (cap:=G) hI hb hh hlen hg (azo q2 v1) hG1 hG2;exact⟨C',_,_,_,rfl,m1,m2,m3,m4,rfl,rfl⟩
theorem cjs{Gw:World->Prop}{h:Hp}{W0:Nat}{x:List A}{V:A}(hV:rowC h 78 2 V=some (1,x)):
  ACall Tryz.prog Gw 31 [.sl W0 .nil [],.int .i64 0,V] h fun v h'=>v=.bs h.b.length 2 1/\h'=⟨h.b++[.row 78 x],h.t⟩:=by
 intro C es hI ha;obtain⟨c0,es1,rfl,r0,ha⟩:=repL_cons.1 ha;obtain⟨c1,es2,rfl,r1,ha⟩:=repL_cons.1 ha;obtain⟨c2,es3,rfl,r2,ha⟩:=repL_cons.1 ha;rw[azp]at ha;subst ha;obtain⟨ad,cap,rfl,_,_,hn⟩:=rep_sl.1 r0;obtain⟨rfl,rfl,_⟩:=hn;rw[rep_int]at r1;subst r1;obtain⟨g,off,capv,vs,rfl,v1,v2,v3,v4⟩:=ayh hI r2 hV (by decide);refine(cv7 g off capv vs C.w (by rw[v2]) (fun j v hj=>by have:=v4 j v hj;rwa [Addr.add_lit]at this)).mono ?_;rintro e w' ⟨G,rest',rfl,hG1,hG2,hh,hlen,hg⟩;obtain⟨C',m1,m2,m3,m4⟩:=cy2 (W:=2) (n':=1) (cap:=G) hI hh hlen hg v1 hG1 hG2;exact⟨C',_,_,_,rfl,m1,m2,m3,m4,rfl,rfl⟩
theorem djj{Gw:World->Prop}{h:Hp}{i n k:Nat}{l:List A}(hb:h.b[i]?=some (.row 78 l))(hl:l.length=n*2)(hk:k<n)(h1:l.all A.one=true):
  ACall Tryz.prog Gw 37 [.bs i 2 n,.int .i64 k,.int .i64 ((k+1:Nat):Int)] h fun v h'=>v=.bs i 2 (n-1)/\h'=⟨h.b.set i (.row 78 (l.take (k*2)++l.drop ((k+1)*2))),h.t⟩:=by
 intro C es hI ha;obtain⟨c0,es1,rfl,r0,ha⟩:=repL_cons.1 ha;obtain⟨c1,es2,rfl,r1,ha⟩:=repL_cons.1 ha;obtain⟨c2,es3,rfl,r2,ha⟩:=repL_cons.1 ha;rw[azp]at ha;subst ha;obtain⟨cap,rfl,hcap,hilt,hcm,hkap⟩:=rep_bs.1 r0;rw[rep_int]at r1 r2;subst r1;subst r2;obtain⟨cs,rest,q1,q2,q3⟩:=hI.box i _ hb;have hcl:cs.length=n*2:=(azi q2).trans hl;have htk:cs=(cs++rest).take (n*2):=by rw[List.take_append_of_le_length (by omega),Zy (by omega)]
 have hown:=hI.ok hb rfl;refine(delW (C.κ i) n cap k (cs++rest) cs C.w hk hcap hcm q1 (by rw[q3];exact hkap) htk (aqo q2 h1)).mono ?_;rintro e w' ⟨rest',rfl,hh,hlen,hg⟩;obtain⟨i1,s1⟩:=aqx (w':=w') (b':=.row 78 (l.take (k*2)++l.drop ((k+1)*2))) false hI hb rfl hg.os hg.tape hg.output hg.size (fun g' h1 hne=>hg.block g' h1 fun e=>hne (by injection e with e;rw[e];exact hown))
  (fun hS=>⟨_,rest',hh,azo (az1 _ (RepL.ext hS.ext _ _ q2)) (aqp _ (RepL.ext hS.ext _ _ q2)),by rw[hlen];exact q3⟩)
 exact⟨_,_,.bs i 2 (n-1),_,rfl,rfl,i1,s1,rep_bs.2 ⟨cap,rfl,by omega,hilt,hcm,hkap⟩,rfl,rfl⟩
end AX
end
section
open Go.RowKit
theorem by5(c:UInt8)(h:Adr.wordB c=true):c.toNat<128:=by
 have key:∀n,n<256->Adr.wordB (UInt8.ofNat n)=true->n<128:=by decide +kernel
 have:=key c.toNat (UInt8.toNat_lt c);rw[UInt8.ofNat_toNat]at this;exact this h
theorem aw0:∀s:List UInt8,s.all Adr.wordB=true->Lib.validD s=true
 |[],_=>rfl
 |c::s,h=>by
  rw[ZK,Zg]at h;have hc:=by5 c h.1;rw[Str.valid_step (c::s) (by simp)];rcases Str.dec_cases (c::s)with⟨_,e⟩|⟨e,_⟩
  ·have e':Lib.decodeL (c::s)=(c.toNat,1):=e;rw[e',if_neg (by unfold Str.Bad;rintro⟨h1,_⟩;dsimp only at h1;omega)];exact aw0 s h.2
  ·have e':128<=c.toNat:=e;omega
theorem az7{s:List UInt8}(h:Adr.ident s=true):s≠[]/\s.length<=64/\Str.valid s=true:=by
 unfold Adr.ident at h;simp only[Zg,Y2,ne_eq,Zx]at h;refine⟨h.1.1.1,h.1.1.2,?_⟩;unfold Str.valid;rw[aw0 s h.2,ZX,Zx];have:=h.1.1.2;omega
namespace AX
namespace Sto
theorem new_enc{lin:List UInt8}(h1:lin≠[])(h2:lin.length<=64)(h3:Str.valid lin=true):Sf.checkZ ⟨lin,0,[],[],[]⟩=0/\(Sf.stE 2 ⟨lin,0,[],[],[]⟩).length<=200:=by
 refine⟨?_,?_⟩
 ·unfold Sf.checkZ;have ht:Sf.text lin=true:=by unfold Sf.text;rw[h3,ZX,Y2];exact h1
  rw[show(Sf.St.mk lin 0 [] [] []).lin=lin from rfl,ht,if_neg (by decide),if_neg (by dsimp only;omega),if_neg (by simp),if_neg (by simp[Sf.instsZ]),if_neg (by simp[Sf.pendsZ])];rfl
 ·have n2:=cjf 2;have n0:=cjf 0;have nl:=cjf (lin.length:Int);unfold Sf.stE Wire.strE;simp only[Za,Zo,Int.natCast_zero,Zae,if_true,Sf.magic,Zf,Int.ofNat_zero]at *;omega
theorem new_ok{key lin:List UInt8}(hk:Seal.check key=0)(h1:lin≠[])(h2:lin.length<=64)(h3:Str.valid lin=true):newE key lin=0:=by
 obtain⟨z,l⟩:=new_enc h1 h2 h3;have ht:txt lin=true:=by unfold txt;rw[h3,ZX,Y2];exact h1
 unfold newE;rw[if_neg (by simp[hk]),if_neg (by rw[ht];decide)];unfold newK Sto.keep;have he:(Sf.encode 2 ⟨lin,0,[],[],[]⟩)=(Crc.app (Sf.stE 2 ⟨lin,0,[],[],[]⟩),0):=by unfold Sf.encode;rw[if_neg (by simp[z]),if_neg (by omega)]
 rw[he,if_neg (by simp)];have e2:(Seal.enc (Sto.new key lin).key (IntKind.u64.wrap (Sf.St.ser ⟨lin,0,[],[],[]⟩)) (Crc.app (Sf.stE 2 ⟨lin,0,[],[],[]⟩))).2=0:=by
  unfold Seal.enc;rw[if_neg (by simp[Sto.new,hk]),if_neg (by unfold Crc.app;rw[Za,Crc.four_length];omega)]
 rw[if_neg (by simp[e2])]
end Sto
theorem cwb{key:List UInt8}(h:Seal.check key=0):key.length<=64:=by
 unfold Seal.check at h;split at h
 ·cases h
 ·split at h
  ·cases h
  ·omega
def newS(key lin:List UInt8):Sto:=(Sto.newK key lin).1
theorem cx7{key lin:List UInt8}(hk:Seal.check key=0)(h1:lin≠[])(h2:lin.length<=64)(h3:Str.valid lin=true)(h:Hp):
  AC 27 [.str key,.str lin] h fun v h'=>v=.tup [.ptr (h.b.length+1) 0,.int .i64 0]/\h'=⟨h.b++[(newS key lin).M,(newS key lin).Bk h.b.length],h.t⟩:=by
 have hkl:=cwb hk;have hE:=(Sto.new_enc h1 h2 h3).2;have c:=dju key lin (by omega) (by omega) (by omega);rw[Sto.new_ok hk h1 h2 h3,if_pos rfl]at c;have ht:Sto.txt lin=true:=by unfold Sto.txt;rw[h3,ZX,Y2];exact h1
 have hH:Sto.newH key lin=[(newS key lin).M,(newS key lin).B]:=by unfold Sto.newH;rw[if_neg (by simp[hk]),if_neg (by rw[ht];decide)];rfl
 rw[hH]at c;have m0:(newS key lin).M.loc 0:=by
  show((strM (newS key lin).es).all fun e=>e.2.loc 0)=true
  rw[ZD];intro e he;obtain⟨x,hx,rfl⟩:=ZW.1 he;rfl
 obtain⟨s,hs⟩:=Ex (newS key lin);rw[hs]at c m0⊢;refine(ACall.fresh c ?_ (by simp[A.pure,A.data]) h).mono ?_
 ·rintro v h' ⟨rfl,rfl⟩;refine⟨by simp[A.loc,A.locL],fun b hb=>?_⟩;rcases ZL.1 hb with rfl|hb
  ·exact .inl (Blk.loc0 _ _ m0).1
  ·rw[ZJ.1 hb];refine .inl ?_;show A.locL 2 _=true
   simp[A.locL,A.loc]
 ·rintro v h' ⟨v0,h0,⟨rfl,rfl⟩,rfl,rfl⟩;refine⟨by simp[A.ren,A.renL],?_⟩;show(⟨h.b++[s.M.ren _,s.B.ren _],h.t⟩:Hp)=_
  rw[(Blk.loc0 0 _ m0).2];rfl
section
variable {h:Hp}
def bxa:AX.AFn:=⟨27,aS [aR 4 (.mv (.c (.nilp))),aR 5 (.mv (aI 0))] (.seq (aS [aM 8 0,aR 9 (.call 28 [.t 8]),aR 10 (.un .not (.t 9))] (.cond (.t 10) (aS [aR 4 (.mv (.c (.nilp))),aR 5 (.mv (aI 38))] (.ret)) (.skip))) (aS [aM 12 0,aM 13 1,aR 14 (.call 30 [.t 12,.t 13]),aM 11 14,aE 15 11 0,aE 16 11 1,aM 6 15,aM 7 16] (.seq (aS [aM 17 7,aR 18 (.un .not (.t 17))] (.cond (.t 18) (aS [aR 4 (.mv (.c (.nilp))),aR 5 (.mv (aI 9))] (.ret)) (.skip))) (aS [aM 19 0,aR 20 (.nilck (.t 19)),aF 21 2 20,aL 22 21,aM 23 6,aR 24 (.iaddr 2 (.t 22) (.t 23)),aF 25 1 24,aL 26 25,aM 4 26,aR 5 (.mv (aI 0))] (.ret))))),[.t 4,.t 5]⟩
theorem cwr:AX.compFn Tryz.prog 14=some bxa:=by kernel_rfl
def ptrW(W:List Ent)(p:Nat):Nat:=(W[p]?.map (·.p)).getD 0
theorem bjl{W:List Ent}{n:List UInt8}{p:Nat}(h:hasW W n p=true):p<W.length:=by
 unfold hasW at h;rcases Z0 p W.length with h1|h1
 ·exact h1
 ·rw[Yh h1]at h;cases h
theorem aj9{i:Nat}{key:List UInt8}{sp:A}{W:List Ent}(w:WsAt h.b i key sp W)(n:List UInt8)(p:Nat)(hc:CutW W n p):
  AC 14 [.ptr i 0,.str n] h fun v h'=>v=(if hasW W n p=true then .tup [.ptr (ptrW W p) 0,.int .i64 0]else .tup [.nilp,.int .i64 9])/\∃L,h'=⟨h.b++L,h.t⟩:=by
 have cr:=axe w.set;have cf:=awa w n p hc;have hb:=fun L=>azc w.set L
 unfold setC at hb;refine azf mixedT cwr (by simp[bxa]) ?_;dsimp only[bxa];refine go0 ti ?_;refine gc0 ti ?_;refine cr.mono ?_;rintro v h' ⟨rfl,rfl⟩;refine go0 ti ?_;refine gc0 ti ?_;refine cf.mono ?_;rintro v h' ⟨rfl,L,rfl⟩;have hb:=hb L;cases hh:hasW W n p with
 |false=>
  refine go0 ti ?_;exact⟨_,le_refl _,rfl,L,rfl⟩
 |true=>
  have hlt:=bjl hh;have hz:(0:Int)<=(p:Int)/\(p:Int)<(W.length:Int):=by omega
  have hr:=avz W p hlt;have hp:ptrW W p=W[p].p:=by unfold ptrW;rw[Zj hlt];rfl
  rw[hp];have hs:=w.sp;revert hb;cases hs with
  |nil=>exact absurd hlt (Nat.not_lt_zero _)
  |row hk=>
   intro hb;have hk:=azc hk L;obtain⟨g1,_,g3⟩:=hr;have g1':p*2+1+1<=(rowW W).length:=by omega
   obtain⟨F,hF⟩:=Ex (rowW W);rw[hF]at g1' g3 hk;obtain⟨q,hq⟩:=Ex (W[p].p);rw[hq]at g3⊢;refine go0 (ai hb (ai hk (ai hz (ai g1' g3)))) ?_;exact⟨_,le_refl _,rfl,L,rfl⟩
theorem bqr{i:Nat}{key:List UInt8}{sp:A}{W:List Ent}(w:WsAt h.b i key sp W):
  AC 13 [.ptr i 0] h fun v h'=>v=.sl 1 .no (strsA (W.map (·.name)))/\∃L t,h'=⟨h.b++L,t⟩:=by
 have cr:=axe w.set;have hb:=w.set;have hbL:=fun L=>azc w.set L
 have hlen:=w.len;unfold setC at hb hbL;refine fo ?_;have hs:=w.sp;revert hb hbL cr;cases hs with
 |nil=>
  intro cr hb hbL;refine azj hb (ai cr ti) ?_;refine ajx ?_;have z0:¬(0:Int)<((0:Nat):Int):=by decide
  refine azj z0 ti ?_;exact⟨.sl 1 .no [],⟨rfl,.inr rfl,.inl rfl⟩,rfl,[],_,by rw[Zz]⟩
 |@row k _ hk=>
  intro cr hb hbL;have hrow:=avz W;have hkL:=fun L=>azc hk L
  obtain⟨F,hF⟩:=Ex (rowW W);rw[hF]at hrow hkL;clear hk hF w;obtain⟨b,t0⟩:=h;dsimp only at hb hbL hkL⊢;refine azj hb (ai cr ti) ?_
  refine azg (fun m ts hh=>∃(j:Nat) (L:List Blk) (W1:Nat) (o:Own) (t:List (TypeId×Nat×Nat)),m=W.length-j/\j<=W.length/\hh=⟨b++L,t⟩/\Gs 9 1 0 ⟨[],t⟩ (strsA ((W.take j).map (·.name))) (.sl W1 o (strsA ((W.take j).map (·.name)))) /\
   (ts 3=.sl W1 o (strsA ((W.take j).map (·.name)))/\ts 12=.bs k 2 W.length/\ts 13=.int .i64 (W.length:Nat)/\ts 14=.int .i64 (j:Nat))) W.length ?_ ?_
  ·exact⟨0,[],0,.nil,t0,rfl,ZB _,by rw[Zz],.inl ⟨rfl,rfl⟩,by(exact azv hb)⟩
  clear cr hb;rintro m ts hh ⟨j,L,W1,o,t,rfl,hj,rfl,hg,ht⟩;rcases Z0 j W.length with hlt|hge
  ·have hz:(0:Int)<=(j:Int)/\(j:Int)<(W.length:Int):=by omega
   have wj:IntKind.i64.wrap ((j:Int)+1)=((j+1:Nat):Int):=by rw[wrap64 (by omega) (by omega)];omega
   obtain⟨g1,g2,_⟩:=hrow j hlt;have hk2:=hkL L;have hl2:(strsA ((W.take j).map (·.name))).length=j:=by rw[azd,Zh,Zk];omega
   have em:strsA ((W.take j).map (·.name))++[[.str W[j].name]]=strsA ((W.take (j+1)).map (·.name)):=by
    rw[show W.take (j+1)=W.take j++[W[j]]from(List.take_append_getElem hlt).symm,Z6];simp[strsA]
   obtain⟨W',o',t',hX,gX,_⟩:=hg.grow 16 [.str W[j].name] (by omega) (by decide);rw[em]at gX;simp only[em]at hX;obtain⟨x,hx⟩:=Ex (W[j]);rw[hx]at g2 hX;clear hx em hrow hkL hbL;obtain⟨N1,hN1⟩:=Ex (strsA ((W.take j).map (·.name)));obtain⟨N2,hN2⟩:=Ex (strsA ((W.take (j+1)).map (·.name)));rw[hN1]at ht hX hg;rw[hN2]at hX gX;obtain⟨B,hB⟩:=Ex (b++L);rw[hB]at hk2⊢;refine azj (ai ht (ai hk2 (ai hz (ai g1 (ai g2 (ai hX wj)))))) ti ?_;exact⟨_,by omega,j+1,L++[.cells 78 [.str x.name,.ptr x.p 0]],W',o',t',rfl,by omega,by rw[<-hB,Zi],by rw[hN2];exact gX,by rw[hN2];(exact azv (ai ht wj))⟩
  ·have hf:¬(j:Int)<(W.length:Int):=by omega
   obtain rfl:j=W.length:=by omega
   rw[Yy]at ht hg;refine azj (ai ht hf) ti ?_;refine⟨.sl 1 .no (strsA (W.map (·.name))),?_,rfl,L,t,rfl⟩;rw[azk];exact Gs.le hg
end
end AX
end
end Go.Proofs.YthhpocnmfknalaaGreatDoor
