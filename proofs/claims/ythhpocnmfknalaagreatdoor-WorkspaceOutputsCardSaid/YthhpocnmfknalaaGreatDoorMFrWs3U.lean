/- Part of what the proof needs. -/
import Derived.Test.YthhpocnmfknalaaGreatDoorMFrWs3T
import Derived.Laws.CopyRow
import Derived.Lib.AppendZerosOnto
import Derived.Lib.Overlaps
set_option maxHeartbeats 4000000
set_option maxRecDepth 100000
set_option linter.all false
namespace Go.Proofs.YthhpocnmfknalaaGreatDoor
section
open Go.RowKit
namespace AX
def Sto.Bk(s:Sto)(k:Nat):Blk:=.cells 88 [.str s.key,.str s.lin,.int .i64 s.latest,.mp k,.str s.own,.int .i64 s.left]
structure Ent where
 name:List UInt8
 s:Sto
 p:Nat
 m:Nat
def Ent.row(e:Ent):List A:=[.str e.name,.ptr e.p 0]
def rowW(W:List Ent):List A:=(W.map Ent.row).flatten
def setC(key:List UInt8)(sp:A):Blk:=.cells 72 [.str key,.bool true,sp]
inductive SpAt(b:List Blk):A->List Ent->Prop
 |nil:SpAt b (.sl 0 .nil []) []
 |row {k:Nat} {W:List Ent} (h:b[k]?=some (.row 78 (rowW W))):SpAt b (.bs k 2 W.length) W
def SrtW(W:List Ent):Prop:=W.Pairwise fun x y=>cmpZ x.name y.name<0
structure WsAt(b:List Blk)(i:Nat)(key:List UInt8)(sp:A)(W:List Ent):Prop where
 set:b[i]?=some (setC key sp)
 sp:SpAt b sp W
 ent:∀e∈W,b[e.m]?=some e.s.M/\b[e.p]?=some (e.s.Bk e.m)
 ps:(W.map (·.p)).Nodup
 ms:(W.map (·.m)).Nodup
 srt:SrtW W
 len:W.length<=1000
theorem azd{b:List Blk}{k:Nat}{x:Blk}(h:b[k]?=some x)(L:List Blk):(b++L)[k]?=some x:=by
 rw[ZB (Zb.1 h).1];exact h
theorem SpAt.more{b:List Blk}{sp:A}{W:List Ent}(h:SpAt b sp W)(L:List Blk):SpAt (b++L) sp W:=by
 cases h with
 |nil=>exact .nil
 |row h=>exact .row (azd h L)
theorem WsAt.more{b:List Blk}{i:Nat}{key:List UInt8}{sp:A}{W:List Ent}(h:WsAt b i key sp W)(L:List Blk):WsAt (b++L) i key sp W:=
 ⟨azd h.set L,h.sp.more L,fun e he=>⟨azd (h.ent e he).1 L,azd (h.ent e he).2 L⟩,h.ps,h.ms,h.srt,h.len⟩
theorem ajo(W:List Ent):(rowW W).length=W.length*2:=by
 unfold rowW;induction W with
 |nil=>rfl
 |cons e W ih=>rw[ZO,ZV,Za,ih,Zg];simp[Ent.row];omega
theorem av9:∀(W:List Ent) (k:Nat) (hk:k<W.length),k*2+2<=(rowW W).length/\((rowW W).drop (k*2)).take 2=[.str W[k].name,.ptr W[k].p 0]/\(((rowW W).drop (k*2+1)).take 1)[0]?=some (.ptr W[k].p 0)
 |e::W,0,hk=>by
  rw[ajo];exact⟨by simp only[Zg];omega,rfl,rfl⟩
 |e::W,k+1,hk=>by
  obtain⟨h1,h2,h3⟩:=av9 W k (by simp only[Zg]at hk;omega);have e1:rowW (e::W)=.str e.name :: .ptr e.p 0::rowW W:=rfl;refine⟨by rw[ajo]at h1⊢;simp only[Zg];omega,?_,?_⟩
  ·rw[e1,show(k+1)*2=k*2+1+1 by omega,Z0,Z0];exact h2
  ·rw[e1,show(k+1)*2+1=k*2+1+1+1 by omega,Z0,Z0];exact h3
theorem bwi(W:List Ent):(rowW W).all A.one=true:=by
 unfold rowW;induction W with
 |nil=>rfl
 |cons e W ih=>rw[ZO,ZV,List.all_append,ih];rfl
structure CutW(W:List Ent)(n:List UInt8)(p:Nat):Prop where
 le:p<=W.length
 lt:∀i (h:i<W.length),i<p->cmpZ W[i].name n<0
 ge:∀i (h:i<W.length),p<=i->0<=cmpZ W[i].name n
def hasW(W:List Ent)(n:List UInt8)(p:Nat):Bool:=match W[p]? with
 |some e=>cmpZ e.name n==0
 |none=>false
theorem bqv(n:List UInt8):∀W:List Ent,SrtW W->∃p,CutW W n p
 |[],_=>⟨0,⟨Ze _,fun i h=>absurd h (Nat.not_lt_zero _),fun i h=>absurd h (Nat.not_lt_zero _)⟩⟩
 |e::W,hs=>by
  have hs':=List.pairwise_cons.1 hs;by_cases h:cmpZ e.name n<0
  ·obtain⟨p,c⟩:=bqv n W hs'.2;refine⟨p+1,⟨by rw[Zg];exact Nat.succ_le_succ c.le,fun i hi hp=>?_,fun i hi hp=>?_⟩⟩
   ·cases i with
    |zero=>exact h
    |succ i=>exact c.lt i (by simpa using hi) (by omega)
   ·cases i with
    |zero=>omega
    |succ i=>exact c.ge i (by simpa using hi) (by omega)
  ·refine⟨0,⟨ZH _,fun i hi hp=>by omega,fun i hi hp=>?_⟩⟩;cases i with
   |zero=>show 0<=cmpZ e.name n;omega
   |succ i=>
    have hi':i<W.length:=by simpa using hi
    have h1:=hs'.1 _ (Zk hi');show 0<=cmpZ W[i].name n
    rcases Int.lt_or_le (cmpZ W[i].name n) 0 with h2|h2
    ·exact absurd (Sf.cmpZ_trans h1 h2) h
    ·exact h2
section
variable {h:Hp}
def bxc:AX.AFn:=⟨11,aS [aR 2 (.mv (.c (.bool false)))] (aS [aM 3 0,aR 4 (.eq 4 [] true (.t 3) (.c (.nilp))),aM 5 4,aG 6 (.mv (.t 0)) 5 true,aG 7 (.nilck (.t 6)) 5 true,aG 8 (.faddr 1 (.t 7)) 5 true,aG 9 (.load false 1 (.t 8)) 5 true,aR 10 (.pick (.t 5) (.t 9) (.c (.bool false))),aM 2 10] (.ret)),[.t 2]⟩
theorem cvo:AX.compFn Tryz.prog 28=some bxc:=by kernel_rfl
def ayg:AX.AFn:=⟨14,aS [aR 4 (.mv (aI 0)),aR 5 (.mv (.c (.bool false)))] (aS [aM 6 0,aR 7 (.nilck (.t 6)),aF 8 2 7,aL 9 8,aM 10 1,aR 11 (.call 56 [.t 9,.t 10,.c (.fn 57 [])]),aE 12 11 0,aE 13 11 1,aM 4 12,aM 5 13] (.ret)),[.t 4,.t 5]⟩
theorem cj1:AX.compFn Tryz.prog 30=some ayg:=by kernel_rfl
def bqb:AX.AFn:=⟨9,aS [aR 2 (.box 78 (.t 0)),aR 4 (.mv (aI 0))] (aS [aF 5 0 2,aL 6 5,aM 7 1,aR 8 (.call 58 [.t 6,.t 7]),aM 4 8] (.ret)),[.t 4]⟩
theorem cvt:AX.compFn Tryz.prog 57=some bqb:=by kernel_rfl
theorem axe{i:Nat}{key:List UInt8}{sp:A}(hb:h.b[i]?=some (setC key sp)):AT 28 [.ptr i 0] h (.bool true):=by
 unfold setC at hb;refine azc mixedT cvo (by simp[bxc]) ?_;dsimp only[bxc];refine azq hb ti ?_;exact⟨_,le_refl _,rfl,rfl⟩
theorem cv1(a n:List UInt8)(q:Nat):AC 57 [.agg [.str a,.ptr q 0],.str n] h fun v h'=>v=.int .i64 (cmpZ a n)/\h'=⟨h.b++[.cells 78 [.str a,.ptr q 0]],h.t⟩:=by
 have c:=dxp a n;refine azc mixedT cvt (by simp[bqb]) ?_;dsimp only[bqb];refine azq ti (ai c ti) ?_;exact⟨_,le_refl _,rfl,rfl⟩
theorem djb{k:Nat}{W:List Ent}(hk:h.b[k]?=some (.row 78 (rowW W)))(n:List UInt8)(p:Nat)(hc:CutW W n p)(hn:W.length<=1000000):
  AC 56 [.bs k 2 W.length,.str n,.fn 57 []] h fun v h'=>v=.tup [.int .i64 (p:Nat),.bool (hasW W n p)]/\∃L,h'=⟨h.b++L,h.t⟩:=by
 have cs:=fun(a:List UInt8) (q:Nat) (L:List Blk)=>cv1 (h:=⟨h.b++L,h.t⟩) a n q
 have hrow:=av9 W;have hkL:=fun L=>azd hk L
 obtain⟨F,hF⟩:=Ex (rowW W);rw[hF]at hrow hkL;clear hk hF;obtain⟨b,t⟩:=h;dsimp only at cs hkL⊢;refine fo ?_;refine azq ti ti ?_
 refine azg (fun m ts hh=>∃(i j:Nat) (L:List Blk),m=j-i/\i<=p/\p<=j/\j<=W.length/\hh=⟨b++L,t⟩ /\
  (ts 0=.bs k 2 W.length/\ts 1=.str n/\ts 2=.fn 57 []/\ts 8=.int .i64 (W.length:Nat)/\ts 9=.int .i64 (i:Nat)/\ts 10=.int .i64 (j:Nat))) W.length ?_ ?_
 ·exact⟨0,W.length,[],rfl,ZH _,hc.le,Ze _,by rw[Zx],by(exact azy ti)⟩
 rintro m ts hh ⟨i,j,L,rfl,hip,hpj,hjl,rfl,ht⟩;rcases Yd i j with hlt|hge
 ·have hf:(i:Int)<(j:Int):=by omega
  obtain⟨e1,e2,e3,e4,e5⟩:=bx4 hlt hjl hn;obtain⟨q,hq⟩:=Ex ((i+j)/2);have hk1:i<=q/\q<j:=by omega
  have hkl:q<W.length:=by omega
  rw[hq]at e3 e4 e5;have hki:(q:Int)<(W.length:Int):=by omega
  obtain⟨g1,g2,_⟩:=hrow q hkl;have hL:=hc.lt q hkl;have hG:=hc.ge q hkl;obtain⟨x,hx⟩:=Ex (W[q]);rw[hx]at g2 hL hG;have cx:=cs x.name x.p L;obtain⟨c,hcc⟩:=Ex (cmpZ x.name n);rw[hcc]at cx hL hG;have hk2:=hkL L;clear hcc hx cs hrow hkL;by_cases hneg:c<0
  ·refine azq (ai ht (ai hf (ai e1 (ai e2 (ai e3 (ai e4 (ai e5 (ai g1 (ai g2 (ai hk2 (ai hki hneg))))))))))) (ai cx ti) ?_;exact⟨_,by omega,q+1,j,_,rfl,by rcases Yd q p with h|h;exact h;have:=hG h;omega,hpj,hjl,by rw[Zi],by(exact azy (ai ht e5))⟩
  ·refine azq (ai ht (ai hf (ai e1 (ai e2 (ai e3 (ai e4 (ai e5 (ai g1 (ai g2 (ai hk2 (ai hki hneg))))))))))) (ai cx ti) ?_;exact⟨_,by omega,i,q,_,rfl,hip,by rcases Yd q p with h|h;exact absurd (hL h) hneg;exact h,by omega,by rw[Zi],by(exact azy ht)⟩
 ·have hf:¬(i:Int)<(j:Int):=by omega
  obtain rfl:i=p:=by omega
  have hk2:=hkL L;rcases Yd i W.length with hlt|hge2
  ·have hf2:(i:Int)<(W.length:Int):=by omega
   obtain⟨g1,g2,_⟩:=hrow i hlt;have hB:hasW W n i=(cmpZ W[i].name n==0):=by unfold hasW;rw[Zh hlt]
   rw[hB];obtain⟨x,hx⟩:=Ex (W[i]);rw[hx]at g2⊢;have cx:=cs x.name x.p L;obtain⟨c,hcc⟩:=Ex (cmpZ x.name n);rw[hcc]at cx⊢;clear hcc hx cs hrow hkL;refine azq (ai ht (ai hf (ai hf2 (ai g1 (ai g2 hk2))))) (ai cx ti) ?_;exact⟨_,le_refl _,rfl,_,by rw[Zi]⟩
  ·have hf2:¬(i:Int)<(W.length:Int):=by omega
   have hB:hasW W n i=false:=by unfold hasW;rw[Yi hge2]
   rw[hB];refine azq (ai ht (ai hf hf2)) ti ?_;exact⟨_,le_refl _,rfl,_,rfl⟩
theorem dzl(n:List UInt8):AT 56 [.sl 0 .nil [],.str n,.fn 57 []] h (.tup [.int .i64 (0:Nat),.bool false]):=by
 have e0:¬(0:Int)<((0:Nat):Int):=by decide
 refine fo ?_;refine azq ti ti ?_;refine aj6 ?_;refine azq e0 ti ?_;exact⟨_,le_refl _,rfl,rfl⟩
theorem awr{i:Nat}{key:List UInt8}{sp:A}{W:List Ent}(w:WsAt h.b i key sp W)(n:List UInt8)(p:Nat)(hc:CutW W n p):
  AC 30 [.ptr i 0,.str n] h fun v h'=>v=.tup [.int .i64 (p:Nat),.bool (hasW W n p)]/\∃L,h'=⟨h.b++L,h.t⟩:=by
 have hb:=w.set;unfold setC at hb;have hl:=w.len;cases w.sp with
 |nil=>
  have c:=dzl (h:=h) n;obtain rfl:p=0:=Nat.le_zero.1 hc.le;refine azc mixedT cj1 (by simp[ayg]) ?_;dsimp only[ayg];refine azq hb (ai c ti) ?_;exact⟨_,le_refl _,rfl,[],by rw[Zx]⟩
 |row hk=>
  have c:=djb hk n p hc (by omega);refine azc mixedT cj1 (by simp[ayg]) ?_;dsimp only[ayg];refine go0 hb ?_;refine gc0 hb ?_;refine c.mono ?_;rintro v h' ⟨rfl,L,rfl⟩;refine go0 ti ?_;exact⟨_,le_refl _,rfl,L,rfl⟩
end
end AX
end
section
open Go.RowKit
namespace AX
theorem Sto.at_any{P:Program}{G:World->Prop}{f:FuncId}{args:List A}{s s':Sto}{v:A}(hc:∀l t,ACall P G f (.ptr 1 0::args) ⟨s.M::s.B::l,t⟩ fun v' h'=>v'=v/\h'=⟨s'.M::s'.B::l,t⟩)(ha:A.locL 0 args=true)(hv:v.loc 0=true)
  {h:Hp} {i k:Nat} (hik:i≠k) (hk:h.b[k]?=some s.M) (hi:h.b[i]?=some (s.Bk k)):
  ACall P G f (.ptr i 0::args) h fun v' h'=>v'=v/\h'=⟨(h.b.set k s'.M).set i (s'.Bk k),h.t⟩:=by
 have m0:∀s:Sto,s.M.loc 0:=fun s=>by
  show((strM s.es).all fun e=>e.2.loc 0)=true
  rw[ZE];intro e he;obtain⟨x,hx,rfl⟩:=Z4.1 he;rfl
 have ml:=fun s=>Blk.loc0 2 _ (m0 s)
 have key:=ACall.lift ((hc [] []).mono fun v' h' ⟨e1,e2⟩=>(⟨e1,by rw[e2];rfl,by rw[e2];rfl⟩:v'=v/\h'.b[0]?=some s'.M/\h'.b[1]?=some s'.B)) (fun j=>if j=0 then k else i) (fun a b ha hb e=>by
   simp only[Zg,Zq]at ha hb;have h1:a=0\/a=1:=by omega
   have h2:b=0\/b=1:=by omega
   rcases h1 with rfl|rfl<;>rcases h2 with rfl|rfl<;>simp at e⊢
   ·exact hik e.symm
   ·exact hik e) (by unfold A.locL;rw[(A.locL0 _ args ha).1];rfl)
  (fun x hx=>by
   rcases ZL.1 hx with rfl|hx
   ·exact(ml s).1
   ·rw[Zy.1 hx];rfl)
  (fun v' h' ⟨e,h0,h1⟩=>⟨by rw[e];exact(A.loc0 _ v hv).1,fun j x hj hx=>by
   have:j=0\/j=1:=by simp only[Zg,Zq]at hj;omega
   rcases this with rfl|rfl
   ·rw[h0]at hx;injection hx with hx;subst hx;exact(ml s').1
   ·rw[h1]at hx;injection hx with hx;subst hx;rfl⟩)
  (h:=h) (fun j hj=>by
   have:j=0\/j=1:=by simp only[Zg,Zq]at hj;omega
   rcases this with rfl|rfl
   ·show h.b[k]?=some (s.M.ren _);rw[(ml s).2];exact hk
   ·exact hi)
 have e0:A.renL (fun j=>if j=0 then k else i) (.ptr 1 0::args)=.ptr i 0::args:=by unfold A.renL;rw[(A.locL0 2 args ha).2];rfl
 rw[e0]at key;refine key.mono ?_;rintro v' h' ⟨v0,h0,⟨rfl,k0,k1⟩,rfl,rfl⟩;refine⟨(A.loc0 2 _ hv).2 _,?_⟩;have et:h0.b.take 2=[s'.M,s'.B]:=by
  rcases hb:h0.b with _|⟨x,_|⟨y,l⟩⟩
  ·rw[hb]at k0;cases k0
  ·rw[hb]at k1;cases k1
  ·rw[hb]at k0 k1;injection k0 with k0;injection k1 with k1;subst k0;subst k1;rfl
 show(⟨setAll _ h.b 0 (h0.b.take 2),h.t⟩:Hp)=_
 rw[et];show(⟨(h.b.set k (s'.M.ren _)).set i (s'.B.ren _),h.t⟩:Hp)=_
 rw[(ml s').2];rfl
namespace Sto
def lo(s:Sto):Int:=if 0>s.latest-63 then 0 else s.latest-63
end Sto
def avg:AX.AFn:=⟨30,aS [aR 4 (.mv (.c (.nilp))),aR 5 (.mv (aI 0))] (.seq (aS [aM 9 0,aR 10 (.call 53 [.t 9]),aM 6 10] (aS [aM 11 6,aR 12 (.bin .neq (.t 11) (aI 0))] (.cond (.t 12) (aS [aM 13 6,aR 4 (.mv (.c (.nilp))),aM 5 13] (.ret)) (.skip)))) (.seq (aS [aM 14 1,aR 15 (.call 54 [.t 14]),aR 16 (.un .not (.t 15))] (.cond (.t 16) (aS [aR 4 (.mv (.c (.nilp))),aR 5 (.mv (aI 1))] (.ret)) (.skip))) (aS [aM 17 0,aM 18 1,aR 19 (.mkmap),aR 20 (.build [.str [],.str [],.int .i64 0,.nilm,.str [],.int .i64 0] [(0,1,.t 17),(1,1,.t 18),(3,1,.t 19)]),aR 21 (.box 88 (.t 20)),aM 7 21] (.seq (aS [aM 22 7,aM 23 1,aR 24 (.build [.str [],.int .i64 0,.sl 0 .nil [],.sl 0 .nil [],.sl 0 .nil []] [(0,1,.t 23)]),aR 25 (.call 55 [.t 22,.t 24]),aM 8 25] (aS [aM 26 8,aR 27 (.bin .neq (.t 26) (aI 0))] (.cond (.t 27) (aS [aM 28 8,aR 4 (.mv (.c (.nilp))),aM 5 28] (.ret)) (.skip)))) (aS [aM 29 7,aM 4 29,aR 5 (.mv (aI 0))] (.ret)))))),[.t 4,.t 5]⟩
theorem bk8:AX.compFn Tryz.prog 27=some avg:=by kernel_rfl
def Sto.new(key lin:List UInt8):Sto:=⟨key,lin,0,[],0,[],0⟩
theorem cqt(lin:List UInt8)(hl:lin.length<=900000):Sf.StIn ⟨lin,0,[],[],[]⟩:=⟨by dsimp only;omega,by simp,by simp,by simp,by simp,by simp,by simp⟩
theorem dvl(key lin:List UInt8)(hk:key.length<=1000000000)(hl:lin.length<=900000)(hE:(Sf.stE 2 ⟨lin,0,[],[],[]⟩).length+20<=1000000000)(hc:Seal.check key=0)(ht:Sto.txt lin=true)(hz:((Sto.new key lin).keep ⟨lin,0,[],[],[]⟩).2=0):
  AC 27 [.str key,.str lin] ⟨[],[]⟩ fun r h'=>r=.tup [.ptr 1 0,.int .i64 0]/\h'=⟨[((Sto.new key lin).keep ⟨lin,0,[],[],[]⟩).1.M,((Sto.new key lin).keep ⟨lin,0,[],[],[]⟩).1.B],[]⟩:=by
 refine azc mixedT bk8 (by simp[avg]) ?_;dsimp only[avg];have hkp:=cx4 (Sto.new key lin) [] [] ⟨lin,0,[],[],[]⟩ (cqt lin hl) hk hE;obtain⟨⟨s2,e⟩,hq⟩:=Ex ((Sto.new key lin).keep ⟨lin,0,[],[],[]⟩);rw[hq]at hkp hz⊢;dsimp only at hkp hz⊢;subst hz;have hkp':AC 55 [.ptr 1 0,.agg [.str lin,.int .i64 0,.sl 0 .nil [],.sl 0 .nil [],.sl 0 .nil []]] ⟨[(Sto.new key lin).M,(Sto.new key lin).B],[]⟩ (fun r h'=>r=.int .i64 0/\h'=⟨[s2.M,s2.B],[]⟩):=by
  refine ACall.args ?_ hkp;exact⟨rfl,⟨azf _,azf _,⟨rfl,.inr rfl,.inl rfl⟩,⟨rfl,.inr rfl,.inl rfl⟩,⟨rfl,.inr rfl,.inl rfl⟩,trivial⟩,trivial⟩
 have hM:(Sto.new key lin).M=.map [] 0:=rfl;have hB:(Sto.new key lin).B=.cells 88 [.str key,.str lin,.int .i64 0,.mp 0,.str [],.int .i64 0]:=rfl;rw[hM,hB]at hkp';have hc':=fun h=>ays key hk h
 rw[hc]at hc';have ht':=fun h=>bxf lin (by omega) h
 rw[ht]at ht';refine aza ti ?_;refine use (hc' _) ?_;refine aza ti ?_;refine use (ht' _) ?_;refine aza ti ?_;refine use hkp' ?_;refine aza ti ?_;exact⟨_,le_refl _,rfl,rfl⟩
namespace Sto
def newK(key lin:List UInt8):Sto×Int:=(Sto.new key lin).keep ⟨lin,0,[],[],[]⟩
def newE(key lin:List UInt8):Int:=if Seal.check key≠0 then Seal.check key else if txt lin=false then 1 else(newK key lin).2
def newH(key lin:List UInt8):List Blk:=if Seal.check key≠0 then[]else if txt lin=false then[]else[(newK key lin).1.M,(newK key lin).1.B]
end Sto
theorem djx(key lin:List UInt8)(hk:key.length<=1000000000)(hl:lin.length<=900000)(hE:(Sf.stE 2 ⟨lin,0,[],[],[]⟩).length+20<=1000000000):
  AC 27 [.str key,.str lin] ⟨[],[]⟩ fun r h'=>r=.tup [if Sto.newE key lin=0 then .ptr 1 0 else .nilp,.int .i64 (Sto.newE key lin)]/\h'=⟨Sto.newH key lin,[]⟩:=by
 have hc':=fun h=>ays key hk h
 have ht':=fun h=>bxf lin (by omega) h
 have hE':Sto.newE key lin=if Seal.check key≠0 then Seal.check key else if Sto.txt lin=false then 1 else((Sto.new key lin).keep ⟨lin,0,[],[],[]⟩).2:=rfl
 have hH':Sto.newH key lin=if Seal.check key≠0 then[]else if Sto.txt lin=false then[]else[((Sto.new key lin).keep ⟨lin,0,[],[],[]⟩).1.M,((Sto.new key lin).keep ⟨lin,0,[],[],[]⟩).1.B]:=rfl
 by_cases z1:Seal.check key=0
 rotate_left
 ·rw[if_pos z1]at hE' hH';rw[hE',hH',if_neg z1];obtain⟨Z,hZ⟩:=Ex (Seal.check key);rw[hZ]at hc' z1⊢;have e1:(Z !=0)=true:=by simp[z1]
  refine azc mixedT bk8 (by simp[avg]) ?_;dsimp only[avg];refine aza ti ?_;refine use (hc' _) ?_;refine aza e1 ?_;exact⟨_,le_refl _,rfl,rfl⟩
 rw[if_neg (by simp[z1])]at hE' hH';rw[z1]at hc';by_cases z2:Sto.txt lin=false
 ·rw[if_pos z2]at hE' hH';rw[hE',hH',if_neg (by decide)];rw[z2]at ht';refine azc mixedT bk8 (by simp[avg]) ?_;dsimp only[avg];refine aza ti ?_;refine use (hc' _) ?_;refine aza ti ?_;refine use (ht' _) ?_;refine aza ti ?_;exact⟨_,le_refl _,rfl,rfl⟩
 rw[if_neg z2]at hE' hH';rw[hE',hH'];have z2':Sto.txt lin=true:=by cases h:Sto.txt lin<;>simp_all
 by_cases z3:((Sto.new key lin).keep ⟨lin,0,[],[],[]⟩).2=0
 ·rw[if_pos z3,z3];exact dvl key lin hk hl hE z1 z2' z3
 rw[if_neg z3];rw[z2']at ht';refine azc mixedT bk8 (by simp[avg]) ?_;dsimp only[avg];have hkp:=cx4 (Sto.new key lin) [] [] ⟨lin,0,[],[],[]⟩ (cqt lin hl) hk hE;obtain⟨⟨s2,e⟩,hq⟩:=Ex ((Sto.new key lin).keep ⟨lin,0,[],[],[]⟩);rw[hq]at hkp z3⊢;dsimp only at hkp z3⊢;have e1:(e !=0)=true:=by simp[z3]
 have hkp':AC 55 [.ptr 1 0,.agg [.str lin,.int .i64 0,.sl 0 .nil [],.sl 0 .nil [],.sl 0 .nil []]] ⟨[(Sto.new key lin).M,(Sto.new key lin).B],[]⟩ (fun r h'=>r=.int .i64 e/\h'=⟨[s2.M,s2.B],[]⟩):=by
  refine ACall.args ?_ hkp;exact⟨rfl,⟨azf _,azf _,⟨rfl,.inr rfl,.inl rfl⟩,⟨rfl,.inr rfl,.inl rfl⟩,⟨rfl,.inr rfl,.inl rfl⟩,trivial⟩,trivial⟩
 have hM:(Sto.new key lin).M=.map [] 0:=rfl;have hB:(Sto.new key lin).B=.cells 88 [.str key,.str lin,.int .i64 0,.mp 0,.str [],.int .i64 0]:=rfl;rw[hM,hB]at hkp';refine aza ti ?_;refine use (hc' _) ?_;refine aza ti ?_;refine use (ht' _) ?_;refine aza ti ?_;refine use hkp' ?_;refine aza e1 ?_;exact⟨_,le_refl _,rfl,rfl⟩
end AX
end
section
open Go.RowKit
namespace AX
section
variable {P:Program} {G:World->Prop}
end
theorem ACall.fresh{P:Program}{G:World->Prop}{f:FuncId}{args:List A}{Q:A->Hp->Prop}(hc:ACall P G f args ⟨[],[]⟩ Q)(hq:∀v h',Q v h'->v.loc h'.b.length=true/\∀b∈h'.b,b.loc h'.b.length\/b=.gone)(ha:args.all A.pure=true)(h:Hp):
  ACall P G f args h fun v h'=>∃v0 h0,Q v0 h0/\v=v0.ren (fun i=>h.b.length+i)/\h'=⟨h.b++h0.b.map (Blk.ren fun i=>h.b.length+i),h.t⟩:=by
 intro C cs hI hr;have hid:Inv G C.hid ⟨[],[]⟩:=by
  refine⟨rfl,fun i b hb=>by simp at hb,⟨fun i b hb=>by simp at hb,fun i j b b' hb=>by simp at hb⟩,fun g i hg=>by simp[Ctx.hid]at hg,fun g j hs=>?_,fun t E W m ht=>by simp[Ctx.hid]at ht,fun t t' ht=>by simp[Ctx.hid]at ht,fun t=>by simp[Ctx.hid],hI.base,hI.glob⟩;exact⟨(hI.prot g j hs).1,rfl,fun t E W m ht=>by simp[Ctx.hid]at ht⟩
 refine(hc C.hid cs hid (RepL.pures (C:=C) (C':=C.hid) ⟨fun g j hs=>⟨hs,rfl⟩⟩ args cs ha hr)).mono ?_;rintro e w' ⟨C1,h1,v,cv,rfl,rfl,I1,S1,r1,q1⟩;obtain⟨qv,qb⟩:=hq v h1 q1;rw[I1.nb]at qv qb;have hblk:∀g,g<C.w.heap.size->C1.w.heap[g]?=C.w.heap[g]?:=fun g hg=>S1.frame g hg rfl fun t ht=>by simp[Ctx.hid]at ht
 have hno:∀g,g<C.w.heap.size->C1.own g=none:=fun g hg=>S1.own g hg
 have hsz:C.w.heap.size<=C1.w.heap.size:=S1.size;have hprot:∀g j,C1.S g j->C.S g j\/C.w.heap.size<=g:=fun g j hs=>by
  rcases S1.prot g j hs with h2|h2|⟨t,h2,_⟩
  ·exact .inl h2
  ·exact .inr h2
  ·simp[Ctx.hid]at h2
 let C2:Ctx:={ C with w:=C1.w,S:=C1.S,κ:=fun i=>if i<C.nb then C.κ i else C1.κ (i-C.nb),nb:=C.nb+C1.nb,own:=fun g=>if g<C.w.heap.size then C.own g else(C1.own g).map (·+C.nb),kap:=fun i=>if i<C.nb then C.kap i else C1.kap (i-C.nb),lab:=fun i=>if i<C.nb then C.lab i else C1.lab (i-C.nb)+C.nb }
 have k2:∀i,C2.κ (C.nb+i)=C1.κ i/\C2.kap (C.nb+i)=C1.kap i/\C2.lab (C.nb+i)=C1.lab i+C.nb:=fun i=>by
  have h0:¬C.nb+i<C.nb:=by omega
  have h3:C.nb+i-C.nb=i:=by omega
  refine⟨?_,?_,?_⟩
  ·show(if C.nb+i<C.nb then _ else C1.κ (C.nb+i-C.nb))=_
   rw[if_neg h0,h3]
  ·show(if C.nb+i<C.nb then _ else C1.kap (C.nb+i-C.nb))=_
   rw[if_neg h0,h3]
  ·show(if C.nb+i<C.nb then _ else C1.lab (C.nb+i-C.nb)+C.nb)=_
   rw[if_neg h0,h3]
 have k1:∀i,i<C.nb->C2.κ i=C.κ i/\C2.kap i=C.kap i/\C2.lab i=C.lab i:=fun i hi=>⟨if_pos hi,if_pos hi,if_pos hi⟩
 have o1:∀g,g<C.w.heap.size->C2.own g=C.own g:=fun g hg=>if_pos hg
 have o2:∀g l,C2.own g=some (l+C.nb)↔C1.own g=some l:=fun g l=>by
  by_cases hg:g<C.w.heap.size
  ·rw[o1 g hg,hno g hg];exact⟨fun e=>by have:=(hI.ownlt g _ e).1;omega,fun e=>by cases e⟩
  ·show(if g<C.w.heap.size then C.own g else(C1.own g).map (·+C.nb))=_↔_
   rw[if_neg hg];cases C1.own g with
   |none=>simp
   |some l'=>simp
 have o3:∀g l,l<C.nb->(C2.own g=some l↔C.own g=some l):=fun g l hl=>by
  by_cases hg:g<C.w.heap.size
  ·rw[o1 g hg]
  ·show(if g<C.w.heap.size then C.own g else(C1.own g).map (·+C.nb))=_↔_
   rw[if_neg hg];constructor
   ·intro e;cases e2:C1.own g with
    |none=>rw[e2]at e;cases e
    |some l'=>rw[e2]at e;simp at e;omega
   ·intro e;exact absurd (hI.ownlt g l e).2.1 hg
 have hE:Ext C C2:=by
  refine⟨fun g j hs=>S1.ext.cells g j hs,Nat.le_add_right _ _,k1,fun t E W m ht=>?_⟩;obtain⟨h0,_,cap,h2,_⟩:=hI.rows t E W m ht;exact⟨m,ht,.inr ⟨rfl,rfl,fun cap hc=>hc.same (hblk _ h2.lt)⟩⟩
 have hlen:=hI.nb
 have rN:Ren C1 C2 (fun i=>h.b.length+i) C1.nb:=⟨fun g j hs=>⟨hs,rfl⟩,fun j hj=>by
  rw[hlen]
  exact⟨Nat.add_lt_add_left hj _,(k2 j).1,(k2 j).2.1⟩⟩
 have hsp:∀(i:Nat) (b:Blk),(h.b++h1.b.map (Blk.ren fun i=>h.b.length+i))[i]?=some b->(i<C.nb/\h.b[i]?=some b)\/∃j b1,i=C.nb+j/\j<C1.nb/\h1.b[j]?=some b1/\b=b1.ren fun i=>h.b.length+i:=fun i b hib=>by
  rw[YY]at hib;split at hib
  ·next hi=>exact .inl ⟨by rw[<-hlen];exact hi,hib⟩
  ·next hi=>
   rw[List.getElem?_map,Zt]at hib;obtain⟨b1,hb1,rfl⟩:=hib;exact .inr ⟨i-h.b.length,b1,by omega,by rw[<-I1.nb];exact(Zb.1 hb1).1,hb1,rfl⟩
 have hlive:∀(b1:Blk) (σ:Nat->Nat),(b1.ren σ).live=b1.live:=fun b1 σ=>by cases b1<;>rfl
 refine⟨C2,⟨h.b++h1.b.map (Blk.ren fun i=>h.b.length+i),h.t⟩,v.ren fun i=>h.b.length+i,cv,rfl,rfl,⟨?_,fun i b hib=>?_,⟨fun i b hib hl=>?_,fun i j b b' hib hjb hl hl' e=>?_⟩,fun g l hg=>?_,fun g j hs=>?_,fun t E W m ht=>?_,hI.inj,hI.toks,Zs hI.base hsz,fun w2 hw=>?_⟩,⟨hE,S1.os,S1.tape,S1.output,hsz,rfl,fun g hg _ _=>hblk g hg,o1,fun g j hs=>?_,fun t ht=> .inr ⟨ht,rfl⟩⟩,Rep.ren rN v cv qv r1,v,h1,q1,rfl,rfl⟩
 ·rw[Za,Zj,hlen,I1.nb]
 ·rcases hsp i b hib with⟨hi,hb⟩|⟨j,b1,rfl,hj,hb1,rfl⟩
  ·exact(hI.box i b hb).ext hE hi (fun hl=>⟨hI.ok hb hl,fun g hg=>hblk g (hI.ownlt g _ hg).2.1,fun g=>o3 g _ (hI.lablt hb hl)⟩) hsz
  ·have hB:=I1.box j b1 hb1;rcases qb b1 (List.mem_of_getElem? hb1)with hl|rfl
   ·cases b1 with
    |cells T l=>
     obtain⟨cs,m1,m2⟩:=hB;exact⟨cs,by rw[(k2 j).1];exact m1,RepL.ren rN l cs hl m2⟩
    |opq R vis=>
     have e:(fun g=>C2.own g=some (C2.lab (C.nb+j)))=fun g=>C1.own g=some (C1.lab j):=by rw[(k2 j).2.2];exact funext fun g=>propext (o2 g _)
     refine⟨fun w' hw hs=>?_,fun o x hx=>?_⟩
     ·rw[e,(k2 j).1];exact hB.1 w' (fun g hg=>hw g (by rw[(k2 j).2.2];exact(o2 g _).2 hg)) hs
     ·obtain⟨u,m1,m2⟩:=hB.2 o x hx;exact⟨u,by rw[(k2 j).1];exact m1,Rep.same (C:=C1) (C':=C2) ⟨fun g j hs=>⟨hs,rfl⟩⟩ x u (hl o x hx) m2⟩
    |row T l=>
     obtain⟨cs,rest,m1,m2,m3⟩:=hB;exact⟨cs,rest,by rw[(k2 j).1];exact m1,RepL.ren rN l cs hl m2,by rw[(k2 j).2.1];exact m3⟩
    |map l c=>
     obtain⟨es,m1,m2,m3⟩:=hB;exact⟨es,by rw[(k2 j).1];exact m1,RepEs.ren rN hl m2,m3⟩
    |gone=>trivial
   ·trivial
 ·rcases hsp i b hib with⟨hi,hb⟩|⟨j,b1,rfl,hj,hb1,rfl⟩
  ·rw[(k1 i hi).1,(k1 i hi).2.2];exact(o3 _ _ (hI.lablt hb hl)).2 (hI.ok hb hl)
  ·rw[(k2 j).1,(k2 j).2.2];exact(o2 _ _).2 (I1.ok hb1 (by rw[<-hlive b1];exact hl))
 ·rcases hsp i b hib with⟨hi,hb⟩|⟨m,b1,rfl,hm,hb1,rfl⟩
  ·rw[(k1 i hi).2.2]at e;have l1:=hI.lablt hb hl;rcases hsp j b' hjb with⟨hj,hb'⟩|⟨n,b2,rfl,hn,hb2,rfl⟩
   ·rw[(k1 j hj).2.2]at e;exact hI.ownk.2 i j b b' hb hb' hl hl' e
   ·rw[(k2 n).2.2]at e;omega
  ·rw[(k2 m).2.2]at e;rcases hsp j b' hjb with⟨hj,hb'⟩|⟨n,b2,rfl,hn,hb2,rfl⟩
   ·rw[(k1 j hj).2.2]at e;have l1:=hI.lablt hb' hl';omega
   ·rw[(k2 n).2.2]at e;rw[I1.ownk.2 m n b1 b2 hb1 hb2 (by rw[<-hlive b1];exact hl) (by rw[<-hlive b2];exact hl') (by omega)]
 ·by_cases hg':g<C.w.heap.size
  ·rw[o1 g hg']at hg;obtain⟨m1,m2,m3⟩:=hI.ownlt g l hg;exact⟨ZF m1 (Nat.le_add_right _ _),ZF m2 hsz,m3⟩
  ·have hg2:(if g<C.w.heap.size then C.own g else(C1.own g).map (·+C.nb))=some l:=hg;rw[if_neg hg']at hg2;cases e:C1.own g with
   |none=>rw[e]at hg2;cases hg2
   |some l'=>
    rw[e]at hg2;simp at hg2;obtain⟨m1,m2,m3⟩:=I1.ownlt g l' e;exact⟨by show l<C.nb+C1.nb;omega,m2,by rw[S1.base]at m3;exact m3⟩
 ·have hlt:=(I1.prot g j hs).1;have hn1:=(I1.prot g j hs).2.1;rcases hprot g j hs with h2|h2
  ·obtain⟨m1,m2,m3⟩:=hI.prot g j h2;exact⟨hlt,by rw[o1 g m1];exact m2,m3⟩
  ·refine⟨hlt,by show(if g<C.w.heap.size then C.own g else(C1.own g).map (·+C.nb))=none;rw[if_neg (by omega),hn1];rfl,fun t E W m ht e=>?_⟩;obtain⟨_,_,cap,m1,_⟩:=hI.rows t E W m ht;have:=m1.lt;have e':C.τ t=g:=e;omega
 ·obtain⟨m1,m2,cap,m3,m4⟩:=hI.rows t E W m ht;exact⟨(o1 _ m3.lt).trans m1,m2,cap,m3.same (hblk _ m3.lt),m4⟩
 ·exact hI.glob w2 fun g hg=>(hw g hg).trans (hblk g (ZF hg hI.base))
 ·rcases hprot g j hs with h2|h2
  ·exact .inl h2
  ·exact .inr (.inl h2)
end AX
end
section
open Go.RowKit
section
variable {P:Program}
theorem aqq(w:World)(dT sT ty elem:TypeId)(it:TypeInfo)(g o dLen dCap:Nat)(a:Addr)(sLen sCap:Nat)(cur:Array Value)(t:TypeId)(cs:List Value)
  (hu:P.underlying dT=some (.slice elem)) (hs:P.info? elem=some it) (hg:w.heap[g]?=some (.cells cur t (0,0))) (hn:cs.length=Nat.min sLen dLen*it.size)
  (hsrc:∀j v,cs[j]?=some v->w.cell? (a.add j)=some v) (hfit:o+cs.length<=cur.size) (h1:∀v∈cs,v.oneCell'=true):
  (Builtin.copy_ #[dT,sT] ty #[.slice (some ⟨g,o,none⟩) dLen dCap,.slice (some a) sLen sCap]).run P w =
   .ok (goInt (Nat.min sLen dLen)) (w.setRow g (cur.toList.take o++cs++cur.toList.drop (o+cs.length)).toArray):=by
 have hl:=run_loadCells_list (P:=P) w a cs hsrc;have hst:=run_storeCells_at P g o t cs 0 cur w hg (by simpa using hfit) h1;simp only[Yq]at hst;simp[Builtin.copy_,run_underlying hu,Builtin.lenOf,Builtin.firstCells,sizeOf,typeInfo,hs,<-hn,hl,hst]
theorem bw6(w:World){o:Oper}{a:Act}{K:Act->World->Prop}{Q:Exit->Act->World->Prop}(d s:Operand)(t t':TypeId)
  (ho:o.op=.call { callee:=.builtin .copy,args:=#[d,s],argTypes:=#[t,t'] }) (v u:Value) (hd:a.eval d=v) (hs:a.eval s=u) {v':Value} {w':World}
  (hr:(Builtin.copy_ #[t,t'] o.type #[v,u]).run P w=.ok v' w') (h:K (a.put o.dst v') w'):o.wp P a w K Q:=by
 unfold Oper.wp execOp;simp only[ho,resolve,invoke,builtin,Sem.run_bind,Sem.run_pure,Result.andThen_ok,List.map_toArray,ZO,Z6,hd,hs,hr];exact h
theorem ajf(w:World){ops:Array Oper}{rest:List Oper}{o:Oper}{a:Act}{Q:Exit->Act->World->Prop}(hgd:o.guard=none)(d s:Operand)(t t':TypeId)
  (ho:o.op=.call { callee:=.builtin .copy,args:=#[d,s],argTypes:=#[t,t'] }) (v u:Value) (hd:a.eval d=v) (hs:a.eval s=u) {v':Value} {w':World}
  (hr:(Builtin.copy_ #[t,t'] o.type #[v,u]).run P w=.ok v' w') (h:wpList P ops Q rest (a.put o.dst v') w'):wpList P ops Q (o::rest) a w:=
 wpList_plain hgd fun _ hK=>bw6 w d s t t' ho v u hd hs hr (hK _ _ h)
theorem bxw{ops:Array Oper}{o:Oper}{a:Act}{w:World}{K:Act->World->Prop}{Q:Exit->Act->World->Prop}{E:Prop}
  (hg:o.guard=none) (s x:Operand) (t t':TypeId) (hop:o.op=Op.call { callee:=Callee.builtin Builtin.append,args:=#[s,x],argTypes:=#[t,t'] })
  (v u:Value) (hs:a.eval s=v) (hx:a.eval x=u) {v':Value} {w':World} (hr:(Builtin.append_ #[t,t'] o.type #[v,u]).run P w=.ok v' w') (hK:K (a.put o.dst v') w'):
  if Region.wanted o (yielded ops a.tmps)=true then Oper.wp P o a w K Q else E:=by
 have hw:Region.wanted o (yielded ops a.tmps)=true:=by simp[Region.wanted,hg]
 rw[if_pos hw];unfold Oper.wp execOp;simp only[hop,resolve,invoke,builtin,Sem.run_bind,Sem.run_pure,Result.andThen_ok,List.map_toArray,ZO,Z6,hs,hx,hr];exact hK
theorem bzq{ops:Array Oper}{o:Oper}{a:Act}{w:World}{K:Act->World->Prop}{Q:Exit->Act->World->Prop}{E:Prop}
  (hg:o.guard=none) (d x:Operand) (dT sT:TypeId) (hop:o.op=Op.call { callee:=Callee.builtin Builtin.copy,args:=#[d,x],argTypes:=#[dT,sT] })
  (v u:Value) (hd:a.eval d=v) (hx:a.eval x=u) {v':Value} {w':World} (hr:(Builtin.copy_ #[dT,sT] o.type #[v,u]).run P w=.ok v' w') (hK:K (a.put o.dst v') w'):
  if Region.wanted o (yielded ops a.tmps)=true then Oper.wp P o a w K Q else E:=by
 have hw:Region.wanted o (yielded ops a.tmps)=true:=by simp[Region.wanted,hg]
 rw[if_pos hw];exact bw6 w d x dT sT hop v u hd hx hr hK
theorem bji{B g:Nat}{w0 w:World}(hb:Below B w0 w)(hBg:B<=g)(cs:Array Value):Below B w0 (w.setRow g cs):=
 hb.trans ⟨rfl,rfl,rfl,by simp[World.setRow],fun k hk=>setRow_other w g k cs (by omega)⟩
theorem ay9(w:World)(t e ty:TypeId)(z:Value)(g o n c k:Nat)(cur:Array Value)(T:TypeId)(ht:P.underlying t=some (.slice e))(hv:∀w,(zeroValue e).run P w=.ok z w)(hk:z.cells.size=k)(h1:∀v∈z.cells.toList,v.oneCell'=true)
  (hg:w.heap[g]?=some (.cells cur T (0,0))) (hfit:o+n*k<=cur.size) (hn:0<n):
  (Builtin.clear_ #[t] ty #[.slice (some ⟨g,o,none⟩) n c]).run P w=.ok (.tuple #[]) (w.setRow g (cur.toList.take o++(Builtin.zeroCells z.cells n).toList++cur.toList.drop (o+(Builtin.zeroCells z.cells n).toList.length)).toArray):=by
 have hz1:∀v∈(Builtin.zeroCells z.cells n).toList,v.oneCell'=true:=by
  intro v hv;simp only[Builtin.zeroCells,Array.toList_map,Z4]at hv;obtain⟨i,hi,rfl⟩:=hv
  have hlt:i%z.cells.size<z.cells.size:=Nat.mod_lt _ (by
   rcases Nat.eq_zero_or_pos z.cells.size with h0|h0
   ·rw[h0]at hi;simp at hi
   ·exact h0)
  rw[getElem!_pos z.cells _ hlt];exact h1 _ (by simp)
 have hzl:(Builtin.zeroCells z.cells n).toList.length=n*k:=by rw[ZN,size_zeroCells,hk]
 have hst:=run_storeCells_at P g o T (Builtin.zeroCells z.cells n).toList 0 cur w hg (by rw[hzl];simpa using hfit) hz1;simp only[Yq]at hst;obtain⟨m,rfl⟩:∃m,n=m+1:=⟨n-1,by omega⟩;simp[Builtin.clear_,run_underlying ht,hv,hst]
theorem bxa(w:World)(tS tR e:TypeId)(ht:P.underlying tS=some (.slice e))(size:Nat)(hz:∀w,(Go.sizeOf e).run P w=.ok size w)
  (a b:Addr) (la ca lb cb:Nat) (hne:a.block≠b.block) {curA curB:Array Value} {tA tB:TypeId} {fr:Nat×Nat} (ha:w.heap[a.block]?=some (.cells curA tA fr)) (hA:curA.size≠0) (hb:w.heap[b.block]?=some (.cells curB tB (0,0))):
  (Extern.SlicesOverlaps.overlaps #[tS,tS] #[tR] #[.slice (some a) la ca,.slice (some b) lb cb]).run P w=.ok (.bool false) w:=by
 have hnb:(a.block !=b.block)=true:=by simpa using hne
 have hnb':(a.block==b.block)=false:=by simpa using hne
 have hsa:w.shape? a.block=some (tA,curA.size):=by simp[World.shape?,ha]
 have hsb:w.shape? b.block=some (tB,curB.size):=by simp[World.shape?,hb]
 have hfb:∀o s,w.frozen? ⟨b.block,o,s⟩=false:=fun o s=>by simp[World.frozen?,hb]
 have hfb':w.frozen? b=false:=hfb b.off b.spot
 change Sem.run P (α:=Value) (do
  let some t := (#[tS, tS] : Array TypeId)[0]? | stuck "slices.overlaps: no parameter types"
  let .slice elem ← underlying t | stuck "slices.overlaps: slice type expected"
  let size <-sizeOf elem
  match (some a:Option Addr),(some b:Option Addr)with
  |some a,some b=>
   if la=0\/lb=0\/size=0 then pure (Value.bool false)
   else if a.block !=b.block&&(<-frozen a)&&(<-frozen b)then unsupported .addressObserved
   else do
    if a.block !=b.block then do
     noView a;noView b
     if ← mayBeOne a b then return Value.bool ((← choose (.extern "sameAddr.stringBytes" 2)) == 1)
    pure (Value.bool (a.block==b.block&&a.off<b.off+lb*size&&b.off<a.off+la*size))
  |_,_=>pure (Value.bool false)) w=_
 by_cases h0:la=0\/lb=0\/size=0
 ·simp[run_underlying ht,hz,h0]
 ·obtain⟨kA,hkA⟩:∃kA,curA.size=kA+1:=⟨curA.size-1,by omega⟩;rw[hkA]at hsa;cases hfa:w.frozen? a<;>cases hfe:w.frozen? { block:=a.block,off:=kA+1 }<;>
   simp[run_underlying ht,hz,h0,hnb,hnb',frozen,noView,viewAt,mayBeOne,stringish,shape,Sem.run,hsa,hsb,hfa,hfe,hfb,hfb']
end
end
section
open Go.RowKit
namespace AX
section
variable {P:Program} {G:World->Prop} {C:Ctx} {h:Hp}
theorem bw3{i W n' cap:Nat}{T:TypeId}{l l':List A}{w':World}{cs rest:List Value}(hI:Inv G C h)(hb:h.b[i]?=some (.row T l))(hh:w'.heap[C.κ i]?=some (.cells (cs++rest).toArray T (0,0)))(hlen:(cs++rest).length=C.kap i)
  (hg:C.w.grownBy w' (some (C.κ i))) (hl:RepL C l' cs) (hcap:n'<=cap) (hcm:cap<=maxLen) (hk:cap*W<=C.kap i):
  ∃C':Ctx,C'.w=w'/\Inv G C' ⟨h.b.set i .gone++[.row T l'],h.t⟩/\Step C C'/\Rep C' (.bs h.b.length W n') (.slice (some ⟨C.κ i,0,none⟩) n' cap):=by
 have hown:=hI.ok hb rfl;obtain⟨i1,s1⟩:=aqs (w':=w') (b':=.row T l') false hI hb rfl hg.os hg.tape hg.output hg.size (fun g' h1 hne=>hg.block g' h1 fun e=>hne (by injection e with e;rw[e];exact hown))
  (fun hS=>⟨cs,rest,hh,RepL.ext hS.ext _ _ hl,hlen⟩)
 have hb2:(⟨h.b.set i (.row T l'),h.t⟩:Hp).b[i]?=some (.row T l'):=by
  show(h.b.set i _)[i]?=_
  rw[YD (Zb.1 hb).1]
 obtain⟨C2,n1,n2,n3,n4,n5,n6⟩:=bwa i1 hb2;have hll:(⟨h.b.set i (.row T l'),h.t⟩:Hp).b.length=h.b.length:=Zz;rw[hll]at n4 n5 n6;have hss:(h.b.set i (.row T l')).set i .gone=h.b.set i .gone:=List.set_set ..;simp only[hss]at n2;exact⟨C2,n1,n2,s1.trans n3,rep_bs.2 ⟨cap,by rw[n4];rfl,hcap,n6,hcm,by rw[n5];exact hk⟩⟩
theorem bwb{i W n' cap:Nat}{T:TypeId}{l':List A}{b0:Blk}{w':World}{cs rest:List Value}(hI:Inv G C h)(hb:h.b[i]?=some b0)(hh:w'.heap[C.w.heap.size]?=some (.cells (cs++rest).toArray T (0,0)))(hlen:(cs++rest).length=cap*W)
  (hg:Below C.w.heap.size C.w w') (hl:RepL C l' cs) (hcap:n'<=cap) (hcm:cap<=maxLen):
  ∃C':Ctx,C'.w=w'/\Inv G C' ⟨h.b.set i .gone++[.row T l'],h.t⟩/\Step C C'/\Rep C' (.bs h.b.length W n') (.slice (some ⟨C.w.heap.size,0,none⟩) n' cap):=by
 obtain⟨C',m1,m2,m3,m4,m5,m6⟩:=aje hI hg (Ze _) hh hl;have hi:i<h.b.length:=(Zb.1 hb).1;have m2':=bw8 (i:=i) (b:=b0) m2 (by show(h.b++_)[i]?=_;rw[ZB hi];exact hb);rw[show(⟨h.b++[Blk.row T l'],h.t⟩:Hp).b.set i .gone=h.b.set i .gone++[.row T l']from List.set_append_left _ _ hi]at m2';exact⟨C',m1,m2',m3,rep_bs.2 ⟨cap,by rw[m4],hcap,m5,hcm,by rw[m6,hlen];exact Ze _⟩⟩
theorem cyv{W n' cap:Nat}{T:TypeId}{l':List A}{w':World}{cs rest:List Value}(hI:Inv G C h)(hh:w'.heap[C.w.heap.size]?=some (.cells (cs++rest).toArray T (0,0)))(hlen:(cs++rest).length=cap*W)
  (hg:Below C.w.heap.size C.w w') (hl:RepL C l' cs) (hcap:n'<=cap) (hcm:cap<=maxLen):
  ∃C':Ctx,C'.w=w'/\Inv G C' ⟨h.b++[.row T l'],h.t⟩/\Step C C'/\Rep C' (.bs h.b.length W n') (.slice (some ⟨C.w.heap.size,0,none⟩) n' cap):=by
 obtain⟨C',m1,m2,m3,m4,m5,m6⟩:=aje hI hg (Ze _) hh hl;exact⟨C',m1,m2,m3,rep_bs.2 ⟨cap,by rw[m4],hcap,m5,hcm,by rw[m6,hlen];exact Ze _⟩⟩
theorem czs{w:World}{g o:Nat}{v:Value}(hc:w.cell? ⟨g,o,none⟩=some v):∃c T fr,w.heap[g]?=some (.cells c T fr)/\c.size≠0:=by
 unfold World.cell? at hc;split at hc
 ·next c T fr hh=>
  refine⟨c,T,fr,hh,?_⟩;simp only[Zab,Zm,if_false]at hc;have:=(ZR.1 hc).1;omega
 ·cases hc
theorem czu{E:TypeId}{W i g off cap:Nat}{v:A}{l2:List A}{b:Blk}(hI:Inv G C h)(hW:0<W)(hr:Rep C v (.slice (some ⟨g,off,none⟩) 1 cap))(hs:rowC h E W v=some (1,l2))(hb:h.b[i]?=some b)(hl:b.live=true)(hne:∀n,v≠.bs i W n):g≠C.κ i:=by
 intro e;have hown:=hI.ok hb hl;rw[<-e]at hown;cases v with
 |sl W' o ys=>
  simp only[rowC]at hs;split at hs
  ·next e2=>
   subst e2;simp only[Zc,Zu]at hs;obtain⟨h1,rfl⟩:=hs;obtain⟨a,cap',e1,_,hrows,_⟩:=rep_sl.1 hr;injection e1 with e1 _ _;obtain⟨g',off',e3,hlen,hat⟩:=aq1 hrows 0 (by omega);rw[<-e1]at e3;injection e3 with e3;injection e3 with e3 e4;subst e3;cases hy:ys[0]with
   |nil=>rw[hy]at hlen;simp at hlen;omega
   |cons x r=>
    rw[hy,RepAt]at hat;have:=(hI.prot _ _ hat.1.1).2.1;rw[hown]at this;cases this
  ·cases hs
 |bs j W' m=>
  obtain⟨cap',e1,_,hj,_⟩:=rep_bs.1 hr;simp only[rowC]at hs;split at hs
  ·next e2=>
   subst e2;split at hs
   ·next E' l hb'=>
    injection e1 with e1 _ _;injection e1 with e1;injection e1 with e1 _;have h2:=hI.ok hb' rfl;rw[<-e1,hown]at h2;injection h2 with h2;by_cases hij:i=j
    ·subst hij;exact hne _ rfl
    ·exact hI.labne hb hb' hl rfl hij h2
   ·cases hs
  ·cases hs
 |_=>simp[rowC]at hs
end
end AX
end
end Go.Proofs.YthhpocnmfknalaaGreatDoor
