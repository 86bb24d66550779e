/- Part of what the proof needs. -/
import Derived.Test.YthhpocnmfknalaaGreatDoorMFrWorkspaceCallsC
import Derived.LoopN
import Derived.Tactics
import Derived.Orders
set_option maxHeartbeats 4000000
set_option maxRecDepth 100000
set_option linter.all false
namespace Go.Proofs.YthhpocnmfknalaaGreatDoor
section
open Go.RowKit
namespace AX
section
variable {P:Program} {G:World->Prop} {C:Ctx} {a:Act} {o:Oper} {h:Hp} {ts:Nat->A} {n:Nat}
theorem bwr{i:Nat}{b:Blk}(hI:Inv G C h)(hb:h.b[i]?=some b):Inv G C ⟨h.b.set i .gone,h.t⟩:=
 ⟨by rw[ZA];exact hI.nb,fun j b' hjb=>by
  rw[Zm]at hjb;split at hjb
  ·split at hjb
   ·injection hjb with hjb;subst hjb;trivial
   ·cases hjb
  ·exact hI.box j b' hjb,hI.ownk.set hb (fun e=>by cases e) (fun _=>rfl) (fun _ _ e=>e) (fun _=>rfl),hI.ownlt,hI.prot,hI.rows,hI.inj,hI.toks,hI.base,hI.glob⟩
theorem bkw{i:Nat}{T:TypeId}{l:List A}(hI:Inv G C h)(hb:h.b[i]?=some (.row T l)):
  ∃C':Ctx,C'.w=C.w/\Inv G C' ⟨h.b.set i .gone++[.row T l],h.t⟩/\Step C C'/\C'.κ h.b.length=C.κ i/\C'.kap h.b.length=C.kap i/\h.b.length<C'.nb:=by
 have hi:i<C.nb:=by rw[<-hI.nb];exact(Zb.1 hb).1
 let C':Ctx:={ C with κ:=fun j=>if j=C.nb then C.κ i else C.κ j,nb:=C.nb+1,kap:=fun j=>if j=C.nb then C.kap i else C.kap j,lab:=fun j=>if j=C.nb then C.lab i else C.lab j }
 have hE:Ext C C':=by
  refine⟨fun g j hs=>⟨hs,rfl⟩,Nat.le_succ _,fun j hj=>⟨?_,?_,?_⟩,fun t E W m ht=>⟨m,ht,.inr ⟨rfl,rfl,fun cap hc=>hc⟩⟩⟩
  ·show(if j=C.nb then C.κ i else C.κ j)=C.κ j
   rw[if_neg (by omega)]
  ·show(if j=C.nb then C.kap i else C.kap j)=C.kap j
   rw[if_neg (by omega)]
  ·show(if j=C.nb then C.lab i else C.lab j)=C.lab j
   rw[if_neg (by omega)]
 have hlen:(h.b.set i Blk.gone).length=C.nb:=by rw[ZA];exact hI.nb
 have hsp:∀(j:Nat) (b:Blk),(h.b.set i Blk.gone++[Blk.row T l])[j]?=some b->(j<C.nb/\b=.gone)\/(j<C.nb/\j≠i/\h.b[j]?=some b)\/(j=C.nb/\b=.row T l):=fun j b hjb=>by
  rw[YZ]at hjb;split at hjb
  ·next hj=>
   rw[hlen]at hj;rw[Zm]at hjb;split at hjb
   ·split at hjb
    ·injection hjb with hjb;exact .inl ⟨hj,hjb.symm⟩
    ·cases hjb
   ·next hne=>exact .inr (.inl ⟨hj,fun e=>hne e.symm,hjb⟩)
  ·next hj=>
   rw[hlen]at hj hjb;refine .inr (.inr ?_);rcases Nat.eq_zero_or_pos (j-C.nb)with e|e
   ·rw[e]at hjb;simp only[ZU,Zc]at hjb;exact⟨by omega,hjb.symm⟩
   ·rw[Yh (by simp only[Zf,Zo];omega)]at hjb;cases hjb
 have hκ:∀j,j<C.nb->C'.κ j=C.κ j/\C'.lab j=C.lab j:=fun j hj=>⟨(hE.box j hj).1,(hE.box j hj).2.2⟩
 have hκn:C'.κ C.nb=C.κ i/\C'.lab C.nb=C.lab i/\C'.kap C.nb=C.kap i:=⟨if_pos rfl,if_pos rfl,if_pos rfl⟩;refine⟨C',rfl,⟨by rw[Za,hlen];rfl,fun j b hjb=>?_,⟨fun j b hjb hl=>?_,fun j k b b' hjb hkb hl hl' e=>?_⟩,fun g j hg=>?_,fun g j hs=>hI.prot g j hs,fun t E W m ht=>?_,hI.inj,hI.toks,hI.base,hI.glob⟩,⟨hE,rfl,rfl,rfl,Ze _,rfl,fun _ _ _ _=>rfl,fun _ _=>rfl,fun _ _ hs=> .inl hs,fun t ht=> .inr ⟨ht,rfl⟩⟩,?_⟩
 ·rcases hsp j b hjb with⟨hj,rfl⟩|⟨hj,hne,hb'⟩|⟨rfl,rfl⟩
  ·trivial
  ·exact(hI.box j b hb').ext hE hj (fun hl=>⟨hI.ok hb' hl,fun _ _=>rfl,fun _=>Iff.rfl⟩) (Ze _)
  ·obtain⟨cs,rest,k1,k2,k3⟩:=hI.box i _ hb;exact⟨cs,rest,by rw[hκn.1];exact k1,RepL.ext hE _ _ k2,by rw[hκn.2.2];exact k3⟩
 ·rcases hsp j b hjb with⟨hj,rfl⟩|⟨hj,hne,hb'⟩|⟨rfl,rfl⟩
  ·cases hl
  ·rw[(hκ j hj).1,(hκ j hj).2];exact hI.ok hb' hl
  ·rw[hκn.1,hκn.2.1];exact hI.ok hb rfl
 ·rcases hsp j b hjb with⟨hj,rfl⟩|⟨hj,hne,hb1⟩|⟨rfl,rfl⟩
  ·cases hl
  ·rw[(hκ j hj).2]at e;rcases hsp k b' hkb with⟨hk,rfl⟩|⟨hk,hne2,hb2⟩|⟨rfl,rfl⟩
   ·cases hl'
   ·rw[(hκ k hk).2]at e;exact hI.ownk.2 j k b b' hb1 hb2 hl hl' e
   ·rw[hκn.2.1]at e;exact absurd e (hI.labne hb1 hb hl rfl hne)
  ·rw[hκn.2.1]at e;rcases hsp k b' hkb with⟨hk,rfl⟩|⟨hk,hne2,hb2⟩|⟨rfl,rfl⟩
   ·cases hl'
   ·rw[(hκ k hk).2]at e;exact absurd e.symm (hI.labne hb2 hb hl' rfl hne2)
   ·rfl
 ·obtain⟨k1,k2,k3⟩:=hI.ownlt g j hg;exact⟨Nat.lt_succ_of_lt k1,k2,k3⟩
 ·obtain⟨k1,k2,cap,k3,k4⟩:=hI.rows t E W m ht;exact⟨k1,k2,cap,k3,k4⟩
 ·rw[hI.nb];exact⟨hκn.1,hκn.2.2,Nat.lt_succ_self _⟩
theorem ayh{E:TypeId}{W m:Nat}{v:A}{l2:List A}{cv:Value}(hI:Inv G C h)(hr:Rep C v cv)(hs:rowC h E W v=some (m,l2))(h0:0<m):
  ∃g off cap cs,cv=.slice (some ⟨g,off,none⟩) m cap/\RepL C l2 cs/\cs.length=m*W/\(∀u∈cs,u.oneCell'=true)/\(∀(j:Nat) (u:Value),cs[j]?=some u->C.w.cell? ((⟨g,off,none⟩:Addr).add j)=some u):=by
 cases v with
 |sl W' o ys=>
  simp only[rowC]at hs;split at hs
  ·next e=>
   subst e;simp only[Zc,Zw]at hs;obtain⟨rfl,rfl⟩:=hs;obtain⟨g,off,cap,cs,k0,k1,k2,k3,k4,k5⟩:=awe hr h0;exact⟨g,off,cap,cs,k0,k1,k2,aqo k1 (aj6 k3),k5⟩
  ·cases hs
 |bs j W' m'=>
  simp only[rowC]at hs;split at hs
  ·next e=>
   subst e;split at hs
   ·next E' l hb=>
    split at hs
    ·next hc=>
     obtain⟨rfl,hle,h1⟩:=hc;simp only[Zc,Zw]at hs;obtain⟨rfl,rfl⟩:=hs;obtain⟨cap,rfl,hcap,hj,_⟩:=rep_bs.1 hr;obtain⟨cs,rest,k1,k2,k3⟩:=hI.box j _ hb;have hcl:=azi k2;refine⟨C.κ j,0,cap,cs.take (m'*W'),rfl,az1 _ k2,by rw[Zk];omega,aqo (az1 _ k2) h1,fun k u hu=>?_⟩;rw[Addr.add_lit,Yj,cell_of_row _ _ _ _ _ _ k1];rw[List.getElem?_take]at hu;split at hu
     ·simp only[List.getElem?_toArray];rw[ZF (Zb.1 hu).1];exact hu
     ·cases hu
    ·cases hs
   ·cases hs
  ·cases hs
 |_=>simp[rowC]at hs
theorem dxp{c:Call}{T E:TypeId}{x y:Operand}{it:TypeInfo}{z:Value}{u v r:A}{h':Hp}(hI:Inv G C h)(hop:o.op=.call c)(hc:c.callee=.builtin .append)(ha:c.args=#[x,y])(hT:c.argTypes=#[T,T])(ht:P.underlying T=some (.slice E))(hi:P.info? E=some it)(hz:it.zero=some z)
  (hzs:z.cells.size=it.size) (hpos:0<it.size) (hx:Rep C u (a.eval x)) (hy:Rep C v (a.eval y)) (hs:appB h E it.size it.bytes u v=some (r,h')):OpOk P G C a o r h':=by
 have hexec:(execOp a.eval o).run P C.w=((Builtin.append_ #[T,T] o.type #[a.eval x,a.eval y]).run P C.w).andThen fun v w=> .ok (.value v) w:=by
  unfold execOp;simp[hop,resolve,hc,ha,hT,invoke,builtin]
 have hzc:∀k,(Builtin.zeroCells z.cells k).toList.length=k*it.size:=fun k=>by rw[ZO,size_zeroCells,hzs]
 unfold appB at hs;split at hs
 ·next m l2 hrc=>
  split at hs
  ·next h0=>
   obtain⟨g,off,capy,cs,ey,k1,k2,k3,k5⟩:=ayh hI hy hrc h0;cases u with
   |sl W1 ow xs=>
    cases ow with
    |nil=>
     simp only at hs;split at hs
     ·next hcond=>
      simp only[Zc,Zw]at hs;obtain⟨rfl,rfl⟩:=hs;obtain⟨hml,hby⟩:=hcond;obtain⟨ad,cap',ex,_,_,hown⟩:=rep_sl.1 hx;obtain⟨rfl,rfl,hn0⟩:=hown;rw[hn0]at ex;have hr:=run_append_nil (P:=P) C.w T o.type E it z ht hi hz ⟨g,off,none⟩ m capy cs k2 k5 h0 (by simp only[maxLen]at hml;omega) (by omega);have hge:=grownCap_ge C.w m 0 E;have hle:=grownCap_le_maxLen C.w m 0 E hml;obtain⟨C',m1,m2,m3,m4,m5,m6⟩:=ajd (w':=C.w.drew.alloc (.cells (cs++(Builtin.zeroCells z.cells (grownCap C.w m 0 E-m)).toList).toArray E)) (g:=C.w.heap.size) (T:=E) (l:=l2) (cs:=cs) (rest:=(Builtin.zeroCells z.cells (grownCap C.w m 0 E-m)).toList) hI
       (((Below.refl C.w.heap.size C.w).drew).alloc (Ze _) _) (Ze _) (heap_alloc_new C.w.drew _) k1
      refine⟨C',.slice (some ⟨C.w.heap.size,0,none⟩) m (grownCap C.w m 0 E),.inl ?_,m2,m3,rep_bs.2 ⟨_,by rw[m4],hge,m5,hle,by rw[m6,Za,k2,hzc,<-YB];exact Ym _ (by omega)⟩⟩;rw[hexec,ex,ey,hr,m1];simp only[Result.andThen_ok];rw[show cs.toArray++Builtin.zeroCells z.cells (grownCap C.w m 0 E-m)=(cs++(Builtin.zeroCells z.cells (grownCap C.w m 0 E-m)).toList).toArray from Ya.1 (by simp)]
     ·cases hs
    |_=>simp at hs
   |bs i W1 n=>
    simp only at hs;split at hs
    ·next hcond=>
     obtain⟨rfl,hml,hby⟩:=hcond;split at hs
     ·next E1 l hb=>
      split at hs
      ·next hc2=>
       obtain⟨rfl,hle2⟩:=hc2;simp only[Zc,Zw]at hs;obtain⟨rfl,rfl⟩:=hs;obtain⟨cap,ex,hcap,hilt,hcm,hkap⟩:=rep_bs.1 hx;obtain⟨os,rest,q1,q2,q3⟩:=hI.box i _ hb;have hol:=azi q2;have hol2:(os.take (n*it.size)).length=n*it.size:=by rw[Zk];omega
       have hold:∀(j:Nat) (u:Value),(os.take (n*it.size))[j]?=some u->C.w.cell? ⟨C.κ i,j,none⟩=some u:=fun j u hu=>by
        rw[cell_of_row _ _ _ _ _ _ q1];rw[List.getElem?_take]at hu;split at hu
        ·simp only[List.getElem?_toArray];rw[ZF (Zb.1 hu).1];exact hu
        ·cases hu
       have hown:=hI.ok hb rfl;by_cases hroom:n+m<=cap
       ·have hfit:n*it.size+cs.length<=(os++rest).toArray.size:=by
         have:=Ym it.size hroom;rw[YB]at this;simp only[List.size_toArray];omega
        have hr:=run_append_room (P:=P) C.w T o.type E1 it ht hi (C.κ i) n cap (os++rest).toArray q1 ⟨g,off,none⟩ m capy cs k2 k5 k3 hroom hfit;simp only[List.toList_toArray]at hr;have e1:(os++rest).take (n*it.size)=os.take (n*it.size):=List.take_append_of_le_length (by omega);rw[e1]at hr;obtain⟨i1,s1⟩:=aqx (w':=C.w.setRow (C.κ i) (os.take (n*it.size)++cs++(os++rest).drop (n*it.size+cs.length)).toArray) (b':=.row E1 (l.take (n*it.size)++l2)) false hI hb rfl rfl rfl rfl
         (by rw[setRow_size];exact Ze _) (fun g' _ hne=>setRow_other C.w _ g' _ fun e=>hne (by rw[e];exact hown))
         (fun hS=>⟨os.take (n*it.size)++cs,(os++rest).drop (n*it.size+cs.length),setRow_heap C.w (C.κ i) _ _ _ _ q1,azo (az1 _ (RepL.ext hS.ext _ _ q2)) (RepL.ext hS.ext _ _ k1),by
          show _=C.kap i
          rw[<-q3];simp only[Za,Zk,ZC,List.size_toArray]at hfit⊢
          omega⟩)
        have hb2:(⟨h.b.set i (.row E1 (l.take (n*it.size)++l2)),h.t⟩:Hp).b[i]?=some (.row E1 (l.take (n*it.size)++l2)):=by
         show(h.b.set i _)[i]?=_
         rw[YE (Zb.1 hb).1]
        obtain⟨C2,n1,n2,n3,n4,n5,n6⟩:=bkw i1 hb2;have hll:(⟨h.b.set i (.row E1 (l.take (n*it.size)++l2)),h.t⟩:Hp).b.length=h.b.length:=ZA;rw[hll]at n4 n5 n6;have hss:(h.b.set i (.row E1 (l.take (n*it.size)++l2))).set i .gone=h.b.set i .gone:=List.set_set ..;simp only[hss]at n2;refine⟨C2,.slice (some ⟨C.κ i,0,none⟩) (n+m) cap,.inl ?_,n2,s1.trans n3,rep_bs.2 ⟨cap,by rw[n4];rfl,hroom,n6,hcm,by rw[n5];exact hkap⟩⟩;rw[hexec,ex,ey,hr,n1];rfl
       ·have hr:=run_append_grow (P:=P) C.w T o.type E1 it z ht hi hz ⟨C.κ i,0,none⟩ n cap (os.take (n*it.size)) hol2 (fun j u hu=>by rw[aq1,Yj];exact hold j u hu) ⟨g,off,none⟩ m capy cs k2 k5 (by omega) (by simp only[maxLen]at hml;omega) (growslice_fits (by omega) hby);have hge:=grownCap_ge C.w (n+m) cap E1;have hle:=grownCap_le_maxLen C.w (n+m) cap E1 hml;have hnl:((os.take (n*it.size)++cs)++(Builtin.zeroCells z.cells (grownCap C.w (n+m) cap E1-(n+m))).toList).length=grownCap C.w (n+m) cap E1*it.size:=by
         rw[Za,Za,hol2,k2,hzc,<-YB,<-YB];congr 1;omega
        obtain⟨C',m1,m2,m3,m4,m5,m6⟩:=ajd (w':=C.w.drew.alloc (.cells ((os.take (n*it.size)++cs)++(Builtin.zeroCells z.cells (grownCap C.w (n+m) cap E1-(n+m))).toList).toArray E1)) (g:=C.w.heap.size) (T:=E1) (l:=l.take (n*it.size)++l2) (cs:=os.take (n*it.size)++cs) (rest:=(Builtin.zeroCells z.cells (grownCap C.w (n+m) cap E1-(n+m))).toList) hI
         (((Below.refl C.w.heap.size C.w).drew).alloc (Ze _) _) (Ze _) (heap_alloc_new C.w.drew _) (azo (az1 _ q2) k1)
        have hilt':i<h.b.length:=(Zb.1 hb).1;have m2':=bwr (i:=i) (b:=.row E1 l) m2 (by show(h.b++_)[i]?=_;rw[ZF hilt'];exact hb);rw[show(⟨h.b++[Blk.row E1 (l.take (n*it.size)++l2)],h.t⟩:Hp).b.set i .gone=h.b.set i .gone++[.row E1 (l.take (n*it.size)++l2)]from List.set_append_left _ _ hilt']at m2';refine⟨C',.slice (some ⟨C.w.heap.size,0,none⟩) (n+m) (grownCap C.w (n+m) cap E1),.inl ?_,m2',m3,rep_bs.2 ⟨_,by rw[m4],hge,m5,hle,by rw[m6,hnl];exact Ze _⟩⟩;rw[hexec,ex,ey,hr,m1];simp only[Result.andThen_ok];rw[show(os.take (n*it.size)).toArray++cs.toArray++Builtin.zeroCells z.cells (grownCap C.w (n+m) cap E1-(n+m))=((os.take (n*it.size)++cs)++(Builtin.zeroCells z.cells (grownCap C.w (n+m) cap E1-(n+m))).toList).toArray from Ya.1 (by simp)]
      ·cases hs
     ·cases hs
    ·cases hs
   |_=>simp at hs
  ·cases hs
 ·cases hs
end
end AX
end
section
open Go.RowKit
namespace AX
section
variable {P:Program} {B:TypeId->Bool} {G:World->Prop} {C:Ctx} {a:Act} {o:Oper} {h:Hp} {ts:Nat->A} {n:Nat}
theorem aqe{α:Type}{xs:Array α}{l:List α}(h:xs.toList=l):xs=l.toArray:=Ya.1 (by simp[h])
theorem step_ok{ao:AOp}{v:A}{h':Hp}(hI:Inv G C h)(hT:RepT C ts n a)(hc:compOp P B n o=some ao)(hs:astep (evX ts) h ao=some (v,h')):OpOk P G C a o v h':=by
 unfold compOp at hc;split at hc
 ·next x hop=>
  simp only[Zd,Zc]at hc;obtain⟨y,h1,rfl⟩:=hc;simp only[astep,Zc,Zw]at hs;obtain⟨rfl,rfl⟩:=hs;exact djc hI (.inl hop) (azh hT h1)
 ·next x hop=>
  simp only[Zd,Zc]at hc;obtain⟨y,h1,rfl⟩:=hc;simp only[astep,Zc,Zw]at hs;obtain⟨rfl,rfl⟩:=hs;exact djc hI (.inr hop) (azh hT h1)
 ·next c x y hop=>
  simp only[Zd,Zc]at hc;obtain⟨c',h1,x',h2,y',h3,rfl⟩:=hc;simp only[astep]at hs;split at hs
  ·next b hb=>
   simp only[Zc,Zw]at hs;obtain⟨rfl,rfl⟩:=hs;exact dqx hI hop (by rw[<-hb];exact azh hT h1) (azh hT h2) (azh hT h3)
  ·cases hs
 ·next T hop=>
  simp only[Zd,Zc]at hc;obtain⟨i,h1,z,h2,l,h3,rfl⟩:=hc;simp only[astep,Zc,Zw]at hs;obtain⟨rfl,rfl⟩:=hs;exact cj8 hI hop h1 h2 h3
 ·next T x hop=>
  simp only[Zd,Zc]at hc;obtain⟨y,h1,rfl⟩:=hc;simp only[astep,Zc,Zw]at hs;obtain⟨rfl,rfl⟩:=hs;exact dx5 hI hop (azh hT h1)
 ·next t parts hop=>
  split at hc
  ·next fs ht=>
   split at hc
   ·next hall=>
    simp only[Zd,Zc]at hc;obtain⟨i,h1,z,h2,l,h3,ps,h4,rfl⟩:=hc;simp only[astep,Zv,Zw]at hs;obtain⟨r,h5,rfl,rfl⟩:=hs;exact cvc hI hT hop ht hall h1 h2 h3 h4 h5
   ·cases hc
  ·cases hc
 ·next t len parts hop=>
  split at hc
  ·next E ht=>
   simp only[Zd,Zp,Zc]at hc;obtain⟨i,h1,z,h2,⟨h3,h4,h5,h6,h7⟩,ps,h8,hc⟩:=hc;split at hc
   ·injection hc with hc;subst hc;simp only[astep,Zv,Zw]at hs;obtain⟨r,h9,rfl,rfl⟩:=hs;exact dx7 hI hT hop ht h1 h2 h3 h4 h5 h6 h7 h8 h9
   ·injection hc with hc;subst hc;simp only[astep,Zv,Zw]at hs;obtain⟨r,h9,rfl,rfl⟩:=hs;exact djb hI hT hop ht h1 h2 h3 h4 h5 h6 h7 h8 h9
  ·cases hc
 ·next t p hop=>
  simp only[Zd,Zp,Zc]at hc;obtain⟨d,h1,i,h2,y,h3,h4,rfl⟩:=hc;simp only[astep,Zv,Zw]at hs;obtain⟨r,h5,rfl,rfl⟩:=hs;exact dz0 hI hop h1 h2 h4 (azh hT h3) h5
 ·next t p x hop=>
  simp only[Zd,Zc]at hc;obtain⟨i,h1,y,h2,z,h3,rfl⟩:=hc;simp only[astep,Zv,Zw]at hs;obtain⟨r,h5,rfl,rfl⟩:=hs;exact cwt hI hop h1 (azh hT h2) (azh hT h3) h5
 ·next x hop=>
  simp only[Zd,Zc]at hc;obtain⟨y,h1,rfl⟩:=hc;simp only[astep]at hs;have hx:=azh hT h1;split at hs
  ·next i p e=>
   simp only[Zc,Zw]at hs;obtain⟨rfl,rfl⟩:=hs;rw[e]at hx;exact bwk hI hop hx (.inl ⟨_,_,rfl⟩)
  ·next l e=>
   simp only[Zc,Zw]at hs;obtain⟨rfl,rfl⟩:=hs;rw[e]at hx;exact bwk hI hop hx (.inr ⟨_,rfl⟩)
  ·cases hs
 ·next op t x y yt hop=>
  split at hc
  ·simp only[Zd,Zc]at hc;obtain⟨x',h1,y',h2,rfl⟩:=hc;simp only[astep,Zv,Zw]at hs;obtain⟨r,h5,rfl,rfl⟩:=hs;exact cyj hI hop (azh hT h1) (azh hT h2) h5
  ·simp only[Zd,Zc]at hc;obtain⟨x',h1,y',h2,rfl⟩:=hc;simp only[astep,Zv,Zw]at hs;obtain⟨r,h5,rfl,rfl⟩:=hs;exact cyj hI hop (azh hT h1) (azh hT h2) h5
  ·next ht=>
   split at hc
   ·next hq=>
    simp only[Zd,Zc]at hc;obtain⟨x',h1,y',h2,rfl⟩:=hc;simp only[astep,Zv,Zw]at hs;obtain⟨r,h5,rfl,rfl⟩:=hs;exact ok_eq hI hop hq (azh hT h1) (azh hT h2) (.inl ⟨rfl,ht⟩) h5
   ·cases hc
  ·next e ht=>
   split at hc
   ·next hq=>
    have k1:∀{hc:((compX n x).bind fun a=>(compX n y).bind fun b=>some (AOp.eq 1 [] (op == .neq) a b))=some ao},OpOk P G C a o v h':=fun {hc}=>by
     simp only[Zd,Zc]at hc;obtain⟨x',h1,y',h2,rfl⟩:=hc;simp only[astep,Zv,Zw]at hs;obtain⟨r,h5,rfl,rfl⟩:=hs;exact ok_eq hI hop hq (azh hT h1) (azh hT h2) (.inr (.inl ⟨rfl,e,ht⟩)) h5
    split at hc
    ·next i hi=>
     split at hc
     ·next h0=>
      simp only[Zd,Zc]at hc;obtain⟨x',h1,y',h2,rfl⟩:=hc;simp only[astep,Zv,Zw]at hs;obtain⟨r,h5,rfl,rfl⟩:=hs;exact ok_eq hI hop hq (azh hT h1) (azh hT h2) (.inr (.inr (.inl ⟨rfl,e,i,ht,hi,h0⟩))) h5
     ·exact k1 (hc:=hc)
    ·exact k1 (hc:=hc)
   ·cases hc
  ·next q e ht=>
   split at hc
   ·next hq=>
    simp only[Zd,Zc]at hc;obtain⟨x',h1,y',h2,rfl⟩:=hc;simp only[astep,Zv,Zw]at hs;obtain⟨r,h5,rfl,rfl⟩:=hs;exact ok_eq hI hop hq (azh hT h1) (azh hT h2) (.inr (.inr (.inr (.inl ⟨rfl,q,e,ht⟩)))) h5
   ·cases hc
  ·next fs ht=>
   split at hc
   ·next hq=>
    simp only[Zd,Zc]at hc;obtain⟨ks,h0,x',h1,y',h2,rfl⟩:=hc;simp only[astep,Zv,Zw]at hs;obtain⟨r,h5,rfl,rfl⟩:=hs;exact ok_eq hI hop hq.1 (azh hT h1) (azh hT h2) (.inr (.inr (.inr (.inr ⟨rfl,fs,ht,hq.2.1,hq.2.2,h0⟩)))) h5
   ·cases hc
  ·cases hc
 ·next op t x hop=>
  simp only[Zd,Zc]at hc;obtain⟨y,h1,rfl⟩:=hc;simp only[astep,Zv,Zw]at hs;obtain⟨r,h5,rfl,rfl⟩:=hs;exact djz hI hop (azh hT h1) h5
 ·next src dst x hop=>
  split at hc
  ·next k0 k hsrc hdst=>
   simp only[Zd,Zc]at hc;obtain⟨y,h1,rfl⟩:=hc;have hx:=azh hT h1;simp only[astep]at hs;split at hs
   ·next j m e=>
    simp only[Zc,Zw]at hs;obtain⟨rfl,rfl⟩:=hs;rw[e]at hx;exact dzx hI hop hsrc hdst hx
   ·cases hs
  ·cases hc
 ·next f first caps hop=>
  split at hc
  ·next hb=>
   split at hc
   ·next hf=>
    simp only[Zd,Zc]at hc;obtain⟨l,h1,rfl⟩:=hc;simp only[astep,Zc,Zw]at hs;obtain⟨rfl,rfl⟩:=hs;exact dzv hI hop hb (aqe (by simpa using hf)) (ajn hT h1)
   ·split at hc
    ·next hf=>
     simp only[Zd,Zc]at hc;obtain⟨l,h1,rfl⟩:=hc;simp only[astep,Zc,Zw]at hs;obtain⟨rfl,rfl⟩:=hs;exact dzk hI hop hb (aqe (by simpa using hf)) (ajn hT h1)
    ·cases hc
  ·cases hc
 ·next t x lo hi mx hop=>
  split at hc
  ·next ht=>
   simp only[Zd,Zc]at hc;obtain⟨y,h1,l,h2,k,h3,rfl⟩:=hc;simp only[astep,Zv,Zw]at hs;obtain⟨r,h5,rfl,rfl⟩:=hs;exact djm hI hT hop ht (azh hT h1) h2 h3 h5
  ·next e ht=>
   simp only[Zd,Zc]at hc;obtain⟨ie,h0,y,h1,l,h2,k,h3,rfl⟩:=hc;simp only[astep,Zv,Zw]at hs;obtain⟨r,h5,rfl,rfl⟩:=hs;exact dzm hI hT hop ht h0 (azh hT h1) h2 h3 h5
  ·cases hc
 ·next s x j hop=>
  split at hc
  ·next fs hsx=>
   simp only[Zd,Zc,Zp]at hc;obtain⟨f,h1,i,h2,h3,y,h4,rfl⟩:=hc;have hx:=azh hT h4;simp only[astep]at hs;split at hs
   ·next b p e=>
    simp only[Zc,Zw]at hs;obtain⟨rfl,rfl⟩:=hs;exact bk2 hI hop hsx h1 h2 h3 hx (.inl ⟨b,p,e,rfl⟩)
   ·next l e=>
    simp only[Zp,Zc,Zw]at hs;obtain⟨_,rfl,rfl⟩:=hs;exact bk2 hI hop hsx h1 h2 h3 hx (.inr ⟨l,e,rfl⟩)
   ·cases hs
  ·cases hc
 ·next t x i hop=>
  split at hc
  ·next e ht=>
   simp only[Zd,Zc]at hc;obtain⟨ie,h1,y,h2,z,h3,rfl⟩:=hc;have hx:=azh hT h2;have hi:=azh hT h3;simp only[astep]at hs;split at hs
   ·next W' ow rows k m e1 e2=>
    simp only[Zp,Zc,Zw]at hs;obtain⟨⟨h4,h5,rfl⟩,rfl,rfl⟩:=hs;rw[e1]at hx;rw[e2]at hi;exact cwz hI hop ht h1 hx hi h4 h5
   ·next b W' m' k m e1 e2=>
    simp only[Zp,Zc,Zw]at hs;obtain⟨⟨h4,h5,rfl⟩,rfl,rfl⟩:=hs;rw[e1]at hx;rw[e2]at hi;exact cx5 hI hop ht h1 hx hi h4 h5
   ·cases hs
  ·cases hc
 ·next t x i hop=>
  split at hc
  ·next ht=>
   simp only[Zd,Zc]at hc;obtain⟨y,h2,z,h3,rfl⟩:=hc;have hx:=azh hT h2;have hi:=azh hT h3;simp only[astep]at hs;split at hs
   ·next l k m e1 e2=>
    simp only[Zp,Zc,Zw]at hs;obtain⟨⟨h4,h5⟩,rfl,rfl⟩:=hs;rw[e1]at hx;rw[e2]at hi;exact dq8 hI hop ht hx hi h4 h5
   ·cases hs
  ·cases hc
 ·next t x j hop=>
  split at hc
  ·next fs ht=>
   simp only[Zd,Zp,Zc]at hc;obtain⟨f,h1,d,h2,i,h3,y,h4,h5,rfl⟩:=hc;have hx:=azh hT h4;simp only[astep]at hs;split at hs
   ·next l e=>
    simp only[Zv,Zw]at hs;obtain⟨r,h6,rfl,rfl⟩:=hs;rw[e]at hx;exact cwi hI hop ht h1 h2 h3 hx h6
   ·cases hs
  ·cases hc
 ·next x i hop=>
  simp only[Zd,Zc]at hc;obtain⟨y,h1,rfl⟩:=hc;have hx:=azh hT h1;simp only[astep]at hs;split at hs
  ·next l e=>
   simp only[Zv,Zw]at hs;obtain⟨r,h5,rfl,rfl⟩:=hs;rw[e]at hx;exact czc hI hop hx h5
  ·cases hs
 ·next t hop=>
  split at hc
  ·next hm=>
   simp only[Zc]at hc;subst hc;simp only[astep,Zc,Zw]at hs;obtain⟨rfl,rfl⟩:=hs;exact cvs hI hop
  ·cases hc
 ·next t m k ok hop=>
  split at hc
  ·next hm=>
   simp only[Zd,Zc]at hc;obtain⟨z,h0,x',h1,y',h2,rfl⟩:=hc;simp only[astep,Zv,Zw]at hs;obtain⟨r,h5,rfl,rfl⟩:=hs;exact dq1 hI hop hm h0 (azh hT h1) (azh hT h2) h5
  ·cases hc
 ·next t m k x hop=>
  split at hc
  ·next hm=>
   simp only[Zd,Zc]at hc;obtain⟨x',h1,y',h2,z',h3,rfl⟩:=hc;simp only[astep,Zv,Zw]at hs;obtain⟨r,h5,rfl,rfl⟩:=hs;exact dqm hI hop hm (azh hT h1) (azh hT h2) (azh hT h3) h5
  ·cases hc
 ·next t l c hop=>
  split at hc
  ·next E ht=>
   simp only[Zd,Zc,Zp]at hc;obtain⟨i,h1,z,h2,⟨h3,h4,h5⟩,Z,h6,x',h7,y',h8,rfl⟩:=hc;simp only[astep]at hs;split at hs
   ·next k1 m k2 c' e1 e2=>
    split at hs
    ·next hcond=>
     simp only[Zc,Zw]at hs;obtain⟨rfl,rfl⟩:=hs;have hx:=azh hT h7;have hy:=azh hT h8;rw[e1]at hx;rw[e2]at hy;exact djd hI hop ht h1 h2 h4 h5 h6 (rep_int.1 hx) (rep_int.1 hy) hcond.1 hcond.2.1 hcond.2.2.1 hcond.2.2.2
    ·cases hs
   ·cases hs
  ·cases hc
 ·next c hop=>
  unfold compCall at hc;split at hc
  ·simp only[Zd,Zc,Zp]at hc;obtain⟨_,l,h1,rfl⟩:=hc;simp[astep]at hs
  ·simp only[Zd,Zc,Zp]at hc;obtain⟨_,l,h1,rfl⟩:=hc;simp[astep]at hs
  ·next hcal=>
   split at hc
   ·next x T ha hTy=>
    split at hc
    ·next ht=>
     simp only[Zd,Zc]at hc;obtain⟨y,h1,rfl⟩:=hc;have hx:=azh hT h1;simp only[astep]at hs;split at hs
     ·next l _ e=>
      simp only[Zc,Zw]at hs;obtain⟨rfl,rfl⟩:=hs;exact cxk hI hop hcal (aqe ha) (aqe hTy) hx (.inl ⟨ht,l,e,rfl⟩)
     ·next hf _=>cases hf
     ·next hf _=>cases hf
     ·cases hs
    ·next e' ht=>
     simp only[Zd,Zc]at hc;obtain⟨y,h1,rfl⟩:=hc;have hx:=azh hT h1;simp only[astep]at hs;split at hs
     ·next hf _=>cases hf
     ·next W ow rows _ e=>
      simp only[Zc,Zw]at hs;obtain⟨rfl,rfl⟩:=hs;exact cxk hI hop hcal (aqe ha) (aqe hTy) hx (.inr (.inl ⟨e',ht,W,ow,rows,e,rfl⟩))
     ·next b W m _ e=>
      simp only[Zc,Zw]at hs;obtain⟨rfl,rfl⟩:=hs;exact cxk hI hop hcal (aqe ha) (aqe hTy) hx (.inr (.inr ⟨e',ht,b,W,e⟩))
     ·cases hs
    ·next q e' ht=>
     simp only[Zd,Zc]at hc;obtain⟨y,h1,rfl⟩:=hc;simp only[astep,Zv,Zw]at hs;obtain⟨r,h5,rfl,rfl⟩:=hs;exact dq3 (t:=T) hI hop hcal (aqe ha) (aqe hTy) ht (azh hT h1) h5
    ·cases hc
   ·cases hc
  ·next hcal=>
   split at hc
   ·next x y T T' ha hTy=>
    split at hc
    ·next hTT=>
     subst hTT;split at hc
     ·next E ht=>
      simp only[Zd,Zc,Zp]at hc;obtain⟨i,h1,z,h2,⟨h3,h4⟩,x',h5,y',h6,rfl⟩:=hc;by_cases hbs:B E=true
      ·rw[if_pos hbs]at hs;simp only[astep]at hs;exact dxp hI hop hcal (aqe ha) (aqe hTy) ht h1 h2 h3 h4 (azh hT h5) (azh hT h6) hs
      ·rw[if_neg hbs]at hs;simp only[astep]at hs;exact dxf hI hop hcal (aqe ha) (aqe hTy) ht h1 h2 h3 h4 (azh hT h5) (azh hT h6) hs
     ·cases hc
    ·cases hc
   ·cases hc
  ·next hcal=>
   split at hc
   ·next x y T Ts ha hTy=>
    split at hc
    ·next hm=>
     simp only[Zd,Zc]at hc;obtain⟨x',h1,y',h2,rfl⟩:=hc;simp only[astep,Zv,Zw]at hs;obtain⟨r,h5,rfl,rfl⟩:=hs;exact dqt hI hop hcal (aqe ha) hTy hm (azh hT h1) (azh hT h2) h5
    ·cases hc
   ·cases hc
  ·next hcal=>
   split at hc
   ·next x T Ts ha hTy=>
    split at hc
    ·next hm=>
     simp only[Zd,Zc]at hc;obtain⟨x',h1,rfl⟩:=hc;simp only[astep,Zv,Zw]at hs;obtain⟨r,h5,rfl,rfl⟩:=hs;exact dq9 hI hop hcal (aqe ha) hTy hm (azh hT h1) h5
    ·cases hc
   ·cases hc
  ·next hcal=>
   split at hc
   ·next x y z ha=>
    simp only[Zd,Zc]at hc;obtain⟨x',h1,y',h2,z',h3,rfl⟩:=hc;have hx:=azh hT h1;have hy:=azh hT h2;have hz:=azh hT h3;simp only[astep]at hs;split at hs
    ·next k a' _ b' _ c' e1 e2 e3=>
     simp only[Zc,Zw]at hs;obtain⟨rfl,rfl⟩:=hs;rw[e1]at hx;rw[e2]at hy;rw[e3]at hz;exact dqp hI hop hcal (aqe ha) hx hy hz
    ·cases hs
   ·next x y ha=>
    simp only[Zd,Zc]at hc;obtain⟨x',h1,y',h2,rfl⟩:=hc;have hx:=azh hT h1;have hy:=azh hT h2;simp only[astep]at hs;split at hs
    ·next k a' _ b' e1 e2=>
     simp only[Zc,Zw]at hs;obtain⟨rfl,rfl⟩:=hs;rw[e1]at hx;rw[e2]at hy;exact dxr (mx:=true) hI hop hcal (aqe ha) hx hy
    ·cases hs
   ·cases hc
  ·next hcal=>
   split at hc
   ·next x y ha=>
    simp only[Zd,Zc]at hc;obtain⟨x',h1,y',h2,rfl⟩:=hc;have hx:=azh hT h1;have hy:=azh hT h2;simp only[astep]at hs;split at hs
    ·next k a' _ b' e1 e2=>
     simp only[Zc,Zw]at hs;obtain⟨rfl,rfl⟩:=hs;rw[e1]at hx;rw[e2]at hy;exact dxr (mx:=false) hI hop hcal (aqe ha) hx hy
    ·cases hs
   ·cases hc
  ·cases hc
 ·cases hc
end
end AX
end
section
open Go.RowKit
namespace AX
inductive AExit where
 |normal
 |exit (id:Nat)
 |ret
abbrev Ts:=Nat->A
def put(ts:Ts)(d:Option Nat)(v:A):Ts:=
 match d with
 |some d=>fun i=>if i=d then v else ts i
 |none=>ts
def condP:A->Prop->Prop->Prop
 |.bool t,p,q=>(t=true->p)/\(t=false->q)
 |_,_,_=>False
def guardP(ts:Ts):Option (Nat×Bool)->Prop->Prop->Prop
 |none,p,_=>p
 |some (t,b),p,q=>
  match ts t with
  |.bool c=>(c=b->p)/\(c=!b->q)
  |.tup []=>q
  |_=>False
def optP:Option (A×Hp)->(A->Hp->Prop)->Prop
 |some (v,h),K=>K v h
 |none,_=>False
def vF(f:FuncId):FuncId:=if f<bmk then f else f%bmk
def vA{α:Type}(f:FuncId)(as caps:List α):List α:=if f<bmk then as++caps else caps++as
def aopP(P:Program)(G:World->Prop)(ev:Opd->A)(h:Hp)(K:A->Hp->Prop):AOp->Prop
 |.call f args=>ACall P G f (args.map ev) h K
 |.callv x args=>∃f caps,ev x=.fn f caps/\callOk P (vF f)=true/\ACall P G (vF f) (vA f (args.map ev) caps) h K
 |op=>optP (astep ev h op) K
def aops(P:Program)(G:World->Prop):List AOper->(Ts->Hp->Prop)->Ts->Hp->Prop
 |[],K,ts,h=>K ts h
 |o::os,K,ts,h=>guardP ts o.guard (aopP P G (evX ts) h (fun v h'=>aops P G os K (put ts o.dst v) h') o.op) (aops P G os K (put ts o.dst (.tup [])) h)
section
variable {P:Program} {B:TypeId->Bool} {G:World->Prop} {C:Ctx} {a:Act} {o:Oper} {h:Hp} {ts:Ts} {n:Nat}
theorem RepT.ext{C':Ctx}(hT:RepT C ts n a)(he:Ext C C'):RepT C' ts n a:=⟨hT.size,fun i hi=>Rep.ext he _ _ (hT.rep i hi)⟩
theorem RepT.put{dst:Option Tmp}{v:A}{cv:Value}(hT:RepT C ts n a)(hd:compDst n dst=true)(hv:Rep C v cv):RepT C (put ts dst v) n (a.put dst cv):=by
 cases dst with
 |none=>exact hT
 |some d=>
  have hd':d<n:=by simpa [compDst]using hd
  refine⟨by simp[Act.put,hT.size],fun i hi=>?_⟩;show Rep C (if i=d then v else ts i) ((a.tmps.setIfInBounds d cv).getD i undef)
  by_cases e:i=d
  ·subst e;rw[if_pos rfl];simpa [hT.size,hd']using hv
  ·rw[if_neg e];have:=hT.rep i hi;rw[Yx]at this⊢
   rwa [Array.getElem?_setIfInBounds_ne (fun h=>e h.symm)]
theorem put_defers{dst:Option Tmp}{v:Value}:(a.put dst v).defers=a.defers:=by cases dst<;>rfl
theorem avo{f:FuncId}(w:World)(args:Array Value)(hf:callOk P f=true):(callFunc f args).run P w=.ok (.enter f args) w:=by
 unfold callOk at hf;split at hf
 ·next fn hfn=>
  rw[Zg]at hf;obtain⟨h1,h2⟩:=hf;unfold callFunc
  have h3 : (fn.name == "runtime.NumGoroutine") = false := by simpa using h1
  have h4:fn.body.isNone=false:=by cases hb:fn.body<;>simp_all
  simp only[Sem.run_bind,run_program,Result.andThen_ok,hfn,h3,h4,Zn,if_false,Sem.run_pure]
 ·cases hf
def AOp.isCall:AOp->Bool
 |.call ..=>true
 |.callv ..=>true
 |_=>false
theorem bj9{r:AOp}(hc:compOp P B n o=some r)(hr:r.isCall=true):∃c,o.op=.call c/\compCall P B n c o.type=some r:=by
 unfold compOp at hc;split at hc
 case h_25 c hop=>exact⟨c,hop,hc⟩
 all_goals
  exfalso
  cases r<;>simp only[AOp.isCall,Zn]at hr
  all_goals
   revert hc
   repeat' split
   all_goals simp[Zd]
theorem bkx{ao:AOp}{K:A->Hp->Prop}{next:Act->World->Prop}{Q:Exit->Act->World->Prop}(hI:Inv G C h)(hT:RepT C ts n a)(hc:compOp P B n o=some ao)(hk:aopP P G (evX ts) h K ao)
  (hn:∀(C':Ctx) (h':Hp) (v:A) (cv:Value),Inv G C' h'->Step C C'->Rep C' v cv->K v h'->next (a.put o.dst cv) C'.w):o.wp P a C.w next Q:=by
 have plain:optP (astep (evX ts) h ao) K->o.wp P a C.w next Q:=fun hk=>by
  cases hs:astep (evX ts) h ao with
  |none=>rw[hs]at hk;exact hk.elim
  |some r=>
   obtain⟨v,h'⟩:=r;rw[hs]at hk;obtain⟨C',cv,hr,h1,h2,h3⟩:=step_ok hI hT hc hs;unfold Oper.wp;rcases hr with hr|⟨hr,rfl⟩
   ·rw[hr];exact hn C' h' v cv h1 h2 h3 hk
   ·rw[hr];exact hn C' h' v undef h1 h2 h3 hk
 have called:∀(f:FuncId) (as:List A) (cs:List Value),RepL C as cs->ACall P G f as h K->(execOp a.eval o).run P C.w=.ok (.enter f cs.toArray) C.w->o.wp P a C.w next Q:=fun f as cs hl hcall hr=>by
  unfold Oper.wp;rw[hr,Oper.upon_enter];refine(hcall C cs hI hl).mono ?_;rintro e w' ⟨C',h',v,cv,rfl,rfl,h1,h2,h3,h4⟩;exact hn C' h' v cv h1 h2 h3 h4
 cases ao with
 |call f args=>
  obtain⟨c,hop,hcc⟩:=bj9 hc rfl;unfold compCall at hcc;split at hcc
  ·next g hcal=>
   simp only[Zp,Zd,Zc,AOp.call.injEq]at hcc;obtain⟨hok,l,h1,rfl,rfl⟩:=hcc;refine called g _ _ (ajn hT h1) hk ?_;unfold execOp;have e:c.args.map a.eval=(c.args.toList.map a.eval).toArray:=Ya.1 (by simp);simp only[hop,resolve,hcal,Deferred.ofValue,Act.eval,Sem.run_bind,Sem.run_pure,Result.andThen_ok,invoke,Array.append_empty,Array.empty_append,e];exact avo C.w _ hok
  ·simp only[Zp,Zd,Zc,reduceCtorEq,and_false,exists_false]at hcc
  ·exfalso
   revert hcc
   repeat' split
   all_goals simp[Zd]
  ·exfalso
   revert hcc
   repeat' split
   all_goals simp[Zd]
  ·exfalso
   revert hcc
   repeat' split
   all_goals simp[Zd]
  ·exfalso
   revert hcc
   repeat' split
   all_goals simp[Zd]
  ·exfalso
   revert hcc
   repeat' split
   all_goals simp[Zd]
  ·exfalso
   revert hcc
   repeat' split
   all_goals simp[Zd]
  ·cases hcc
 |callv x args=>
  obtain⟨f,caps,hx,hok,hk⟩:=hk;obtain⟨c,hop,hcc⟩:=bj9 hc rfl;unfold compCall at hcc;split at hcc
  ·simp only[Zp,Zd,Zc,reduceCtorEq,and_false,exists_false]at hcc
  ·next t hcal=>
   simp only[Zp,Zd,Zc,AOp.callv.injEq]at hcc;obtain⟨hlt,l,h1,rfl,rfl⟩:=hcc;have hf:Rep C (.fn f caps) (a.eval (.tmp t)):=by
    rw[<-hx];exact hT.rep t hlt
   obtain⟨cs,hev,hcs⟩:=rep_fn.1 hf;by_cases hb:f<bmk
   ·unfold vF at hok hk;unfold vA at hk;unfold fnV at hev;rw[if_pos hb]at hok hev;rw[if_pos hb,if_pos hb]at hk;refine called f _ _ (azo (ajn hT h1) hcs) hk ?_;unfold execOp;have e:c.args.map a.eval=(c.args.toList.map a.eval).toArray:=Ya.1 (by simp);have e2:(c.args.toList.map a.eval).toArray++cs.toArray=(c.args.toList.map a.eval++cs).toArray:=Ya.1 (by simp);simp only[hop,resolve,hcal,Sem.run_bind,e];rw[hev];simp only[Deferred.ofValue,Sem.run_pure,Result.andThen_ok,invoke,Array.empty_append,e2];exact avo C.w _ hok
   ·unfold vF at hok hk;unfold vA at hk;unfold fnV at hev;rw[if_neg hb]at hok hev;rw[if_neg hb,if_neg hb]at hk;refine called (f%bmk) _ _ (azo hcs (ajn hT h1)) hk ?_;unfold execOp;have e:c.args.map a.eval=(c.args.toList.map a.eval).toArray:=Ya.1 (by simp);have e2:cs.toArray++(c.args.toList.map a.eval).toArray=(cs++c.args.toList.map a.eval).toArray:=Ya.1 (by simp);simp only[hop,resolve,hcal,Sem.run_bind,e];rw[hev];simp only[Deferred.ofValue,Sem.run_pure,Result.andThen_ok,invoke,Array.append_empty,e2];exact avo C.w _ hok
  ·exfalso
   revert hcc
   repeat' split
   all_goals simp[Zd]
  ·exfalso
   revert hcc
   repeat' split
   all_goals simp[Zd]
  ·exfalso
   revert hcc
   repeat' split
   all_goals simp[Zd]
  ·exfalso
   revert hcc
   repeat' split
   all_goals simp[Zd]
  ·exfalso
   revert hcc
   repeat' split
   all_goals simp[Zd]
  ·exfalso
   revert hcc
   repeat' split
   all_goals simp[Zd]
  ·cases hcc
 |_=>exact plain hk
theorem dxm{W E:Nat}{ps:List Opd}{t len:Nat}{parts:Array (Nat×Operand)}(h0:compOp P B n o=some (.mks W ps))(hop:o.op=.buildSlice t len parts)(ht:P.underlying t=some (.slice E)):
  ∃it z,P.info? E=some it/\it.zero=some z/\z.cells.size=it.size/\0<it.size/\parts.toList.length=len/\0<len/\len*it.size<=1000/\compRow n 0 parts.toList=some ps/\W=it.size:=by
 unfold compOp at h0;rw[hop]at h0;simp only[ht,Zd,Zp]at h0;obtain⟨i,h1,z,h2,⟨h3,h4,h5,h6,h7⟩,ps',h8,h9⟩:=h0;split at h9
 ·cases h9
 ·injection h9 with h9;injection h9 with e1 e2;subst e1;subst e2;exact⟨i,z,h1,h2,h3,h4,h5,h6,h7,h8,rfl⟩
theorem cqr{os:List Oper}{ao:AOp}{K:A->Hp->Prop}{next:Act->World->Prop}{Q:Exit->Act->World->Prop}(hI:Inv G C h)(hT:RepT C ts n a)(hc:compOp' P B n os o=some ao)(hk:aopP P G (evX ts) h K ao)
  (hn:∀(C':Ctx) (h':Hp) (v:A) (cv:Value),Inv G C' h'->Step C C'->Rep C' v cv->K v h'->next (a.put o.dst cv) C'.w):o.wp P a C.w next Q:=by
 unfold compOp' at hc;split at hc
 ·next hlit=>
  rw[Zv]at hc;obtain⟨ao0,h0,rfl⟩:=hc;unfold litA at hk;split at hk
  ·next W ps=>
   split at hk
   ·next t len parts hop=>
    split at hk
    ·next E ht=>
     obtain⟨it,z,h1,h2,h3,h4,h5,h6,h7,h8,rfl⟩:=dxm h0 hop ht;simp only[aopP,astep]at hk;cases hr:rowsA (evX ts) it.size ps with
     |none=>rw[hr]at hk;exact hk.elim
     |some rows=>
      rw[hr]at hk;obtain⟨C',cv,hr',k1,k2,k3⟩:=dx1 (G:=G) hI hT hop ht h1 h2 h3 h4 h5 h6 h7 h8 hr;unfold Oper.wp;rcases hr' with hr'|⟨hr',rfl⟩
      ·rw[hr'];exact hn C' _ _ cv k1 k2 k3 hk
      ·rw[hr'];exact hn C' _ _ undef k1 k2 k3 hk
    ·exact bkx hI hT h0 hk hn
   ·exact bkx hI hT h0 hk hn
  ·exact bkx hI hT h0 hk hn
 ·exact bkx hI hT hc hk hn
end
end AX
end
section
open Go.RowKit
namespace AX
section
variable {P:Program} {G:World->Prop}
theorem azr{ts:Ts}{g:Option (Nat×Bool)}{p p' q q':Prop}(hp:p->p')(hq:q->q')(h:guardP ts g p q):guardP ts g p' q':=by
 unfold guardP at *;split at h
 ·exact hp h
 ·split at h
  ·exact⟨fun e=>hp (h.1 e),fun e=>hq (h.2 e)⟩
  ·exact hq h
  ·exact h.elim
theorem cqj{r:Option (A×Hp)}{K K':A->Hp->Prop}(hk:∀v h,K v h->K' v h)(h:optP r K):optP r K':=by
 cases r with
 |none=>exact h
 |some r=>exact hk _ _ h
theorem axl{ev:Opd->A}{h:Hp}{K K':A->Hp->Prop}(hk:∀v h,K v h->K' v h){o:AOp}(hp:aopP P G ev h K o):aopP P G ev h K' o:=by
 cases o with
 |call f args=>exact ACall.mono hp hk
 |callv x args=>
  obtain⟨f,caps,h1,h2,h3⟩:=hp;exact⟨f,caps,h1,h2,ACall.mono h3 hk⟩
 |_=>simp only[aopP]at hp⊢;exact cqj hk hp
end
def TD(ops:List AOper)(vals:Nat->A)(ts:Ts)(D:Nat->Bool):Ts:=fun x=>
 match ops.findIdx? (fun o=>o.dst==some x)with
 |some j=>if D j=true then vals j else ts x
 |none=>ts x
def Closed(ops:List AOper)(D:Nat->Bool):Prop:=∀j o,ops[j]?=some o->D j=true->∀k∈o.after,D k=true
def adraw(P:Program)(G:World->Prop)(ops:List AOper)(K:Ts->Hp->Prop)(ts:Ts)(h:Hp):Prop:=
 ∃I:(Nat->Bool)->Ts->Hp->Prop,I (fun _=>false) ts h /\
  (∀D i o ts h,I D ts h->ops[i]?=some o->D i=false->Closed ops D->(∀j∈o.after,D j=true) ->
   guardP ts o.guard (aopP P G (evX ts) h (fun v h'=>I (fun j=>j==i||D j) (put ts o.dst v) h') o.op) (I (fun j=>j==i||D j) (put ts o.dst (.tup [])) h)) /\
  ∀ts h,I (fun j=>decide (j<ops.length)) ts h->K ts h
def edgesB:Nat->List AOper->Bool
 |_,[]=>true
 |i,o::os=>o.after.all (fun j=>decide (j<i))&&(match o.dst with|none=>true|some d=>os.all fun o'=>o'.dst !=some d)&&edgesB (i+1) os
inductive AExit.Is:AExit->Exit->Prop
 |normal:AExit.Is .normal .normal
 |exit (id:Nat):AExit.Is (.exit id) (.exit id)
 |ret:AExit.Is .ret .ret
def thenA(next:Ts->Hp->Prop)(Q:AExit->Ts->Hp->Prop):AExit->Ts->Hp->Prop
 |.normal=>next
 |e=>Q e
def blkA(id:Nat)(Q:AExit->Ts->Hp->Prop):AExit->Ts->Hp->Prop
 |.exit id'=>fun ts h=>if id'=id then Q .normal ts h else Q (.exit id') ts h
 |e=>Q e
def aloop(body:(AExit->Ts->Hp->Prop)->Ts->Hp->Prop)(Q:AExit->Ts->Hp->Prop):Nat->Ts->Hp->Prop
 |0=>fun _ _=>False
 |k+1=>body (thenA (aloop body Q k) Q)
def Post(G:World->Prop)(C0:Ctx)(n:Nat)(Q:AExit->Ts->Hp->Prop)(e:Exit)(a:Act)(w:World):Prop:=
 ∃(C:Ctx) (ts:Ts) (h:Hp) (ae:AExit),ae.Is e/\C.w=w/\Inv G C h/\Step C0 C/\RepT C ts n a/\a.defers=[]/\Q ae ts h
def awp(P:Program)(G:World->Prop):ACode->(AExit->Ts->Hp->Prop)->Ts->Hp->Prop
 |.skip,Q=>Q .normal
 |.reg false ops,Q=>aops P G ops (Q .normal)
 |.reg true ops,Q=>fun ts h=>edgesB 0 ops=true/\adraw P G ops (Q .normal) ts h
 |.seq x y,Q=>awp P G x (thenA (awp P G y Q) Q)
 |.cond c x y,Q=>fun ts h=>condP (evX ts c) (awp P G x Q ts h) (awp P G y Q ts h)
 |.block id c,Q=>awp P G c (blkA id Q)
 |.loop c,Q=>fun ts h=>∃k,aloop (awp P G c) Q k ts h
 |.exit id,Q=>Q (.exit id)
 |.ret,Q=>Q .ret
 |.prim n c,Q=>fun ts h=>∀(C:Ctx) (a:Act),Inv G C h->RepT C ts n a->a.defers=[]->c.wp P (Post G C n Q) a C.w
section
variable {P:Program} {B:TypeId->Bool} {G:World->Prop} {n:Nat} {C0:Ctx}
theorem awu{C:Ctx}{ts:Ts}{a:Act}{o:Oper}{ops:Array Oper}{g:Option (Nat×Bool)}{p q:Prop}(hT:RepT C ts n a)(hg:compGuard n ops o.guard=some g)(hp:guardP ts g p q):
  (Region.wanted o (yielded ops a.tmps)=true/\p)\/(Region.wanted o (yielded ops a.tmps)=false/\q):=by
 cases hog:o.guard with
 |none=>
  rw[hog]at hg;simp only[compGuard,Zc]at hg;subst hg;exact .inl ⟨by simp[Region.wanted,hog],hp⟩
 |some jb=>
  obtain⟨j,b⟩:=jb;rw[hog]at hg;simp only[compGuard,Zd,Zp,Zc]at hg;obtain⟨t,⟨oj,h1,h2⟩,h3,rfl⟩:=hg;have hr:=hT.rep t h3;have hlt:t<a.tmps.size:=by rw[hT.size];exact h3
  have hy:yielded ops a.tmps j=match a.tmps.getD t undef with|.bool b=>some b|_=>none:=by
   unfold yielded;rw[h1,YN,h2,YN];rw[Y1 hlt];rw[show a.tmps.getD t undef=a.tmps[t] by rw[Yx,Y1 hlt];rfl];cases a.tmps[t]<;>rfl
  simp only[guardP]at hp;unfold Region.wanted;rw[hog];simp only[hy];split at hp
  ·next c e=>
   rw[e,aqn]at hr;rw[hr];by_cases hcb:c=b
   ·exact .inl ⟨by simp[hcb],hp.1 hcb⟩
   ·exact .inr ⟨by simp[hcb],hp.2 (by cases c<;>cases b<;>simp_all)⟩
  ·next e=>
   rw[e]at hr;obtain⟨cs,h4,h5⟩:=rep_tup.1 hr;rw[azp]at h5;subst h5;rw[h4];exact .inr ⟨by simp,hp⟩
  ·exact hp.elim
theorem avg{C:Ctx}:Rep C (.tup []) undef:=rep_tup.2 ⟨[],rfl,azp.2 rfl⟩
theorem ay4{ops:Array Oper}{draw:Bool}{K:Ts->Hp->Prop}{Q:Exit->Act->World->Prop}(hK:∀(C:Ctx) (ts:Ts) (h:Hp) (a:Act),Inv G C h->Step C0 C->RepT C ts n a->a.defers=[]->K ts h->Q .normal a C.w):
  ∀(os:List Oper) (l:List AOper),compOpers P B n draw ops os=some l->∀(C:Ctx) (ts:Ts) (h:Hp) (a:Act),Inv G C h->Step C0 C->RepT C ts n a->a.defers=[]->aops P G l K ts h->wpList P ops Q os a C.w
 |[],l,hc,C,ts,h,a,hI,hS,hT,hd,hk=>by
  simp only[compOpers,Zc]at hc;subst hc;exact hK C ts h a hI hS hT hd hk
 |o::os,l,hc,C,ts,h,a,hI,hS,hT,hd,hk=>by
  simp only[compOpers,Zp,Zd,Zc]at hc;obtain⟨hdst,ao,h1,g,h2,l',h3,rfl⟩:=hc;simp only[aops]at hk;have ih:=ay4 hK os l' h3;unfold wpList;rcases awu hT h2 hk with⟨hw,hk⟩|⟨hw,hk⟩
  ·rw[if_pos hw];refine .inl (cqr hI hT h1 hk fun C' h' v cv k1 k2 k3 k4=>?_);exact ih C' _ h' _ k1 (hS.trans k2) ((hT.ext k2.ext).put hdst k3) (by rw[put_defers];exact hd) k4
  ·rw[if_neg (by simp[hw])];exact ih C _ h _ hI hS (hT.put hdst avg) (by rw[put_defers];exact hd) hk
theorem aqb:∀{ops:List AOper} {k:Nat},edgesB k ops=true->∀i o,ops[i]?=some o->∀j∈o.after,j<k+i
 |[],k,h,i,o,hi=>by simp at hi
 |x::ops,k,h,0,o,hi=>by
  simp only[edgesB,Zg,ZD,Zx]at h;simp at hi;subst hi;intro j hj;simpa using h.1.1 j hj
 |x::ops,k,h,i+1,o,hi=>by
  simp only[edgesB,Zg]at h;intro j hj;have:=aqb h.2 i o (by simpa using hi) j hj;omega
theorem bzf:∀{ops:List AOper} {k:Nat},edgesB k ops=true->∀(i:Nat) (o:AOper) (d:Nat),ops[i]?=some o->o.dst=some d->ops.findIdx? (fun o=>o.dst==some d)=some i
 |[],k,h,i,o,d,hi,hd=>by simp at hi
 |x::ops,k,h,0,o,d,hi,hd=>by
  simp at hi;subst hi;simp[List.findIdx?_cons,hd]
 |x::ops,k,h,i+1,o,d,hi,hd=>by
  simp only[edgesB,Zg]at h;have hi':ops[i]?=some o:=by simpa using hi
  have:=bzf h.2 i o d hi' hd;rw[List.findIdx?_cons];have hx:(x.dst==some d)=false:=by
   cases hxd:x.dst with
   |none=>rfl
   |some e=>
    have h2:=h.1.2;rw[hxd]at h2;simp only[ZD,Y2,ne_eq]at h2;have:=h2 o (List.mem_of_getElem? hi');rw[hd]at this;simp only[Zc]at this;simp only[Zs,ne_eq,Zc];exact fun e'=>this e'.symm
  rw[hx,this];simp
theorem axp{draw:Bool}{ops:Array Oper}:∀{os:List Oper} {l:List AOper},compOpers P B n draw ops os=some l->l.length=os.length/\∀(i:Nat) (o:Oper),os[i]?=some o->∃ao g,l[i]?=some ⟨o.dst,ao,g,if draw then afterOf o else[]⟩/\compDst n o.dst=true/\compOp' P B n ops.toList o=some ao/\compGuard n ops o.guard=some g
 |[],l,hc=>by
  simp only[compOpers,Zc]at hc;subst hc;exact⟨rfl,fun i o hi=>by simp at hi⟩
 |x::os,l,hc=>by
  simp only[compOpers,Zp,Zd,Zc]at hc;obtain⟨hdst,ao,h1,g,h2,l',h3,rfl⟩:=hc;obtain⟨ih1,ih2⟩:=axp h3;refine⟨by simp[ih1],fun i o hi=>?_⟩;cases i with
  |zero=>
   simp at hi;subst hi;exact⟨ao,g,rfl,hdst,h1,h2⟩
  |succ i=>exact ih2 i o (by simpa using hi)
theorem afterOf_mem{o:Oper}{j:Nat}:j∈afterOf o↔∃e∈o.after,Region.binds .any e=true/\e.on=j:=by
 unfold afterOf;rw[List.mem_filterMap];constructor
 ·rintro⟨e,h1,h2⟩;split at h2
  ·next hb=>injection h2 with h2;exact⟨e,by simpa using h1,hb,h2⟩
  ·cases h2
 ·rintro⟨e,h1,h2,h3⟩;exact⟨e,by simpa using h1,by rw[if_pos h2,h3]⟩
theorem cw2{l:List AOper}(he:edgesB 0 l=true){vals:Nat->A}{ts:Ts}{D:Nat->Bool}{i:Nat}{o:AOper}(k1:l[i]?=some o):
  put (TD l vals ts D) o.dst (vals i)=TD l vals ts (fun j=>j==i||D j):=by
  funext x
  cases hd':o.dst with
  |none=>
   show TD l vals ts _ x=_
   unfold TD;cases hf:l.findIdx? (fun o=>o.dst==some x)with
   |none=>rfl
   |some j=>
    have hji:j≠i:=fun e=>by
     subst e;obtain⟨hj,hj2,_⟩:=List.findIdx?_eq_some_iff_getElem.1 hf;rw[Zj hj]at k1;injection k1 with k1;rw[k1,hd']at hj2;simp at hj2
    simp[hji]
  |some d=>
   show(if x=d then vals i else TD l vals ts _ x)=_
   have hfd:=bzf he i _ d k1 hd';by_cases e:x=d
   ·subst e;rw[if_pos rfl];unfold TD;rw[hfd];simp
   ·rw[if_neg e];unfold TD;cases hf:l.findIdx? (fun o=>o.dst==some x)with
    |none=>rfl
    |some j=>
     have hji:j≠i:=fun e'=>by
      subst e';obtain⟨hj,hj2,_⟩:=List.findIdx?_eq_some_iff_getElem.1 hf;rw[Zj hj]at k1;injection k1 with k1;rw[k1,hd']at hj2;simp at hj2;exact e hj2.symm
     simp[hji]
theorem akm{P:Program}{G:World->Prop}{ops:List AOper}{K:Ts->Hp->Prop}{ts:Ts}{h:Hp}(he:edgesB 0 ops=true)(vals:Nat->A)(HD:(Nat->Bool)->Hp)(h0:HD (fun _=>false)=h)
  (hop:∀D i o,ops[i]?=some o->D i=false->Closed ops D->(∀j∈o.after,D j=true) ->
   guardP (TD ops vals ts D) o.guard (aopP P G (evX (TD ops vals ts D)) (HD D) (fun v h'=>v=vals i/\h'=HD (fun j=>j==i||D j)) o.op) (vals i=.tup []/\HD (fun j=>j==i||D j)=HD D))
  (hfin:K (TD ops vals ts fun j=>decide (j<ops.length)) (HD fun j=>decide (j<ops.length))):adraw P G ops K ts h:=by
 refine⟨fun D ts' h'=>ts'=TD ops vals ts D/\h'=HD D,⟨?_,h0.symm⟩,?_,?_⟩
 ·funext x
  unfold TD;split<;>simp
 ·rintro D i o ts' h' ⟨rfl,rfl⟩ k1 hDi hcl haf;refine azr (fun hq=>axl (fun v h' hv=>?_) hq) (fun hq=>?_) (hop D i o k1 hDi hcl haf)
  ·obtain⟨rfl,rfl⟩:=hv;exact⟨cw2 he k1,rfl⟩
  ·refine⟨?_,hq.2.symm⟩;rw[<-cw2 he k1,hq.1]
 ·rintro ts' h' ⟨rfl,rfl⟩;exact hfin
theorem bkh{ops:Array Oper}{l:List AOper}{K:Ts->Hp->Prop}{Q:Exit->Act->World->Prop}(hK:∀(C:Ctx) (ts:Ts) (h:Hp) (a:Act),Inv G C h->Step C0 C->RepT C ts n a->a.defers=[]->K ts h->Q .normal a C.w)
  (hc:compOpers P B n true ops ops.toList=some l) (he:edgesB 0 l=true) (I:(Nat->Bool)->Ts->Hp->Prop)
  (hop:∀D i o ts h,I D ts h->l[i]?=some o->D i=false->Closed l D->(∀j∈o.after,D j=true) ->
   guardP ts o.guard (aopP P G (evX ts) h (fun v h'=>I (fun j=>j==i||D j) (put ts o.dst v) h') o.op) (I (fun j=>j==i||D j) (put ts o.dst (.tup [])) h))
  (hfin:∀ts h,I (fun j=>decide (j<l.length)) ts h->K ts h):
  ∀(fuel:Nat) (listed:Array Bool) (C:Ctx) (a:Act) (ts:Ts) (h:Hp),listed.size=ops.size->Closed l (fun j=>listed.getD j false)->(listed.toList.filter (· == false)).length<=fuel ->
   I (fun j=>listed.getD j false) ts h->Inv G C h->Step C0 C->RepT C ts n a->a.defers=[]->wpAny P .any ops Q fuel listed a C.w:=by
 obtain⟨hlen,hget⟩:=axp hc;have hlen':l.length=ops.size:=by rw[hlen];simp
 have hdone:∀(listed:Array Bool) (C:Ctx) (a:Act) (ts:Ts) (h:Hp),listed.size=ops.size->I (fun j=>listed.getD j false) ts h->Inv G C h->Step C0 C->RepT C ts n a->a.defers=[]->Region.ready .any ops listed=[]->Q .normal a C.w:=by
  intro listed C a ts h hsz hi0 hI hS hT hd hr;have hall:∀j,j<ops.size->listed.getD j false=true:=by
   intro j;induction j using Nat.strongRecOn with
   |_ j ih=>
    intro hj;cases hlj:listed.getD j false with
    |true=>rfl
    |false=>
     exfalso
     have hoj:ops[j]?=some ops[j]:=Y1 hj;obtain⟨ao,g,h1,h2,h3,h4⟩:=hget j ops[j] (by simpa using hoj);have:j∈Region.ready .any ops listed:=by
      refine mem_ready.2 ⟨?_,ops[j],hoj,fun e hem hb=>?_⟩
      ·rw[Yx]at hlj⊢;rw[Y1 (by omega)]at hlj⊢;exact hlj
      ·have hlt:=aqb he j _ h1 e.on (by simp only[if_true];exact afterOf_mem.2 ⟨e,hem,hb,rfl⟩);exact ih e.on (by omega) (by omega)
     rw[hr]at this;simp at this
  have hD:(fun j=>listed.getD j false)=fun j=>decide (j<l.length):=by
   funext j
   by_cases hj:j<ops.size
   ·rw[hall j hj];simp[hlen',hj]
   ·rw[Yx,Array.getElem?_eq_none (by omega)];simp[hlen',hj]
  rw[hD]at hi0;exact hK C _ _ a hI hS hT hd (hfin _ _ hi0)
 intro fuel;induction fuel with
 |zero=>
  intro listed C a ts h hsz hcl hf hi0 hI hS hT hd;have hnil:Region.ready .any ops listed=[]:=by
   cases hr:Region.ready .any ops listed with
   |nil=>rfl
   |cons i rs=>
    exfalso
    obtain⟨h1,o,h2,_⟩:=mem_ready.1 (by rw[hr];simp:i∈Region.ready .any ops listed);have hi:i<listed.size:=by rw[hsz];exact(ZS.1 h2).1
    have:listed[i]=false:=by
     rw[Yx,Y1 hi]at h1;exact h1
    have hm:listed[i]∈listed.toList.filter (· == false):=List.mem_filter.2 ⟨by simp,by rw[this];rfl⟩;have:=List.length_pos_of_mem hm;omega
  exact⟨hnil,hdone listed C a ts h hsz hi0 hI hS hT hd hnil⟩
 |succ fuel ih=>
  intro listed C a ts h hsz hcl hf hi0 hI hS hT hd;refine⟨fun hr=>hdone listed C a ts h hsz hi0 hI hS hT hd hr,fun i hi=>?_⟩;obtain⟨h1,o,h2,h3⟩:=mem_ready.1 hi;have hilt:i<ops.size:=(ZS.1 h2).1;have hil:i<listed.size:=by omega
  have hif:listed[i]=false:=by
   rw[Yx,Y1 hil]at h1;exact h1
  have hDi:listed.getD i false=false:=by rw[Yx,Y1 hil];exact hif
  obtain⟨ao,g,k1,k2,k3,k4⟩:=hget i o (by simpa using h2);have hset:(fun j=>(listed.setIfInBounds i true).getD j false)=fun j=>j==i||listed.getD j false:=by
   funext j
   by_cases e:j=i
   ·subst e;simp[hil]
   ·rw[getD_set_ne false (fun h=>e h.symm)];simp[e]
  have hcl':Closed l (fun j=>(listed.setIfInBounds i true).getD j false):=by
   rw[hset];intro j oj hj hDj k hk;simp only[ZZ,ZT]at hDj⊢;rcases hDj with rfl|hDj
   ·rw[k1]at hj;injection hj with hj;subst hj
    simp only[if_true]at hk;obtain⟨e,he1,he2,rfl⟩:=afterOf_mem.1 hk;exact .inr (h3 e he1 he2)
   ·exact .inr (hcl j oj hj hDj k hk)
  have hf':((listed.setIfInBounds i true).toList.filter (· == false)).length<=fuel:=by
   rw[Array.toList_setIfInBounds];have hsplit:listed.toList=listed.toList.take i++false::listed.toList.drop (i+1):=by
    have:listed.toList[i]'(by simpa using hil)=false:=by simpa using hif
    conv=>lhs;rw[<-Yo i listed.toList,Zu (by simpa using hil),this]
   have h4:(listed.toList.filter (· == false)).length=((listed.toList.take i).filter (· == false)).length+(((listed.toList.drop (i+1)).filter (· == false)).length+1):=by
    conv=>lhs;rw[hsplit]
    simp[List.filter_append]
   rw[List.set_eq_take_append_cons_drop,if_pos (by simpa using hil)];simp only[List.filter_append,Za];rw[List.filter_cons_of_neg (by simp)];omega
  have hgd:=hop (fun j=>listed.getD j false) i _ ts h hi0 k1 hDi hcl (fun j hj=>by
   simp only[if_true]at hj;obtain⟨e,he1,he2,rfl⟩:=afterOf_mem.1 hj
   exact h3 e he1 he2)
  unfold wpOp;rw[h2];simp only;rcases awu hT k4 hgd with⟨hw,hk⟩|⟨hw,hk⟩
  ·rw[if_pos hw];refine .inl (cqr hI hT k3 hk fun C' h' v cv q1 q2 q3 q4=>?_);refine ih _ C' _ (put ts o.dst v) h' (by simpa using hsz) hcl' hf' (by rw[hset];exact q4) q1 (hS.trans q2) ?_ (by rw[put_defers];exact hd);exact(hT.ext q2.ext).put k2 q3
  ·rw[if_neg (by simp[hw])];refine ih _ C _ (put ts o.dst (.tup [])) h (by simpa using hsz) hcl' hf' (by rw[hset];exact hk) hI hS ?_ (by rw[put_defers];exact hd);exact hT.put k2 avg
theorem cq0(hm:P.follows .mixedOrders=true):∀(c:Code) (ac:ACode),comp P B n c=some ac->∀(Q:AExit->Ts->Hp->Prop) (ts:Ts) (h:Hp),awp P G ac Q ts h->∀(C:Ctx) (a:Act),Inv G C h->Step C0 C->RepT C ts n a->a.defers=[]->c.wp P (Post G C0 n Q) a C.w:=by
 intro c;induction c with
 |skip=>
  intro ac hc Q ts h hw C a hI hS hT hd;simp only[comp,Zc]at hc;subst hc;exact wp_skip ⟨C,ts,h,.normal,.normal,rfl,hI,hS,hT,hd,hw⟩
 |region id ops draw=>
  intro ac hc Q ts h hw C a hI hS hT hd;simp only[comp]at hc;split at hc;rotate_left
  ·injection hc with hc;subst hc;refine wp_mono (hw C a hI hT hd) ?_;rintro e a' w ⟨C1,ts1,hp1,ae,hae,rfl,i1,s1,t1,d1,q1⟩;exact⟨C1,ts1,hp1,ae,hae,rfl,i1,hS.trans s1,t1,d1,q1⟩
  next l h1=>
  injection hc with hc;subst hc;have hK:∀(C:Ctx) (ts:Ts) (h:Hp) (a:Act),Inv G C h->Step C0 C->RepT C ts n a->a.defers=[]->Q .normal ts h->Post G C0 n Q .normal a C.w:=fun C ts h a hI hS hT hd hq=>⟨C,ts,h,.normal,.normal,rfl,hI,hS,hT,hd,hq⟩
  cases draw with
  |false=>exact wp_region_list (ay4 hK ops.toList l h1 C ts h a hI hS hT hd hw)
  |true=>
   obtain⟨he,I,h0,hop,hfin⟩:=hw;refine wp_region_any hm ?_;have hlen:=(axp h1).1;have hD:(fun j=>(Array.replicate ops.size false).getD j false)=fun _=>false:=by
    funext j
    rw[Yx];by_cases hj:j<ops.size
    ·simp[hj]
    ·simp[hj]
   have hb:Below C.w.heap.size C.w C.w.drew:=bdrew C.w;obtain⟨i1,s1⟩:=aq8 hI hb;refine bkh hK h1 he I hop hfin ops.size (Array.replicate ops.size false) (C.at C.w.drew) a ts h (by simp) ?_ (by simp[List.filter_replicate]) (by rw[hD];exact h0) i1 (hS.trans s1) (hT.ext s1.ext) hd;rw[hD];intro j o _ hj;cases hj
 |seq x y ihx ihy=>
  intro ac hc Q ts h hw C a hI hS hT hd;simp only[comp,Zd,Zc]at hc;obtain⟨ax,h1,ay,h2,rfl⟩:=hc;refine wp_seq (wp_mono (ihx ax h1 _ ts h hw C a hI hS hT hd) ?_);rintro e a' w ⟨C1,ts1,hp1,ae,hae,rfl,i1,s1,t1,d1,q1⟩;cases hae with
  |normal=>exact ihy ay h2 Q ts1 hp1 q1 C1 a' i1 s1 t1 d1
  |exit id=>exact⟨C1,ts1,hp1,.exit id,.exit id,rfl,i1,s1,t1,d1,q1⟩
  |ret=>exact⟨C1,ts1,hp1,.ret,.ret,rfl,i1,s1,t1,d1,q1⟩
 |cond b x y ihx ihy=>
  intro ac hc Q ts h hw C a hI hS hT hd;simp only[comp,Zd,Zc]at hc;obtain⟨ab,h0,ax,h1,ay,h2,rfl⟩:=hc;simp only[awp]at hw;have hr:=azh hT h0;cases hb:evX ts ab with
  |bool t=>
   rw[hb]at hw hr;rw[aqn]at hr;refine wp_cond_split hr (fun ht=>?_) (fun ht=>?_)
   ·exact ihx ax h1 Q ts h (hw.1 ht) C a hI hS hT hd
   ·exact ihy ay h2 Q ts h (hw.2 ht) C a hI hS hT hd
  |_=>rw[hb]at hw;exact hw.elim
 |block id x ihx=>
  intro ac hc Q ts h hw C a hI hS hT hd;simp only[comp,Zd,Zc]at hc;obtain⟨ax,h1,rfl⟩:=hc;refine wp_block (wp_mono (ihx ax h1 _ ts h hw C a hI hS hT hd) ?_);rintro e a' w ⟨C1,ts1,hp1,ae,hae,rfl,i1,s1,t1,d1,q1⟩;cases hae with
  |normal=>exact⟨C1,ts1,hp1,.normal,.normal,rfl,i1,s1,t1,d1,q1⟩
  |exit id'=>
   simp only[blkA]at q1;show if id'=id then _ else _
   split at q1
   ·next e=>rw[if_pos e];exact⟨C1,ts1,hp1,.normal,.normal,rfl,i1,s1,t1,d1,q1⟩
   ·next e=>rw[if_neg e];exact⟨C1,ts1,hp1,.exit id',.exit id',rfl,i1,s1,t1,d1,q1⟩
  |ret=>exact⟨C1,ts1,hp1,.ret,.ret,rfl,i1,s1,t1,d1,q1⟩
 |loop x ihx=>
  intro ac hc Q ts h hw C a hI hS hT hd;simp only[comp,Zd,Zc]at hc;obtain⟨ax,h1,rfl⟩:=hc;obtain⟨k,hk⟩:=hw;refine wp_loop_rounds k ?_;revert ts h C a;induction k with
  |zero=>intro ts h C a hI hS hT hd hk;exact hk.elim
  |succ k ih=>
   intro ts h C a hI hS hT hd hk;refine wp_mono (ihx ax h1 _ ts h hk C a hI hS hT hd) ?_;rintro e a' w ⟨C1,ts1,hp1,ae,hae,rfl,i1,s1,t1,d1,q1⟩;cases hae with
   |normal=>exact ih ts1 hp1 C1 a' i1 s1 t1 d1 q1
   |exit id=>exact⟨C1,ts1,hp1,.exit id,.exit id,rfl,i1,s1,t1,d1,q1⟩
   |ret=>exact⟨C1,ts1,hp1,.ret,.ret,rfl,i1,s1,t1,d1,q1⟩
 |exit id=>
  intro ac hc Q ts h hw C a hI hS hT hd;simp only[comp,Zc]at hc;subst hc;exact wp_exit ⟨C,ts,h,.exit id,.exit id,rfl,hI,hS,hT,hd,hw⟩
 |ret=>
  intro ac hc Q ts h hw C a hI hS hT hd;simp only[comp,Zc]at hc;subst hc;exact wp_ret ⟨C,ts,h,.ret,.ret,rfl,hI,hS,hT,hd,hw⟩
 |_=>
  intro ac hc Q ts h hw;simp only[comp,Zc]at hc;subst hc;exact hw.elim
end
end AX
end
section
open Go.RowKit
namespace AX
def le1:A->A->Prop
 |.sl W o rows,.sl W' o' rows'=>rows=rows'/\(W=W'\/rows'=[])/\(o'=.no\/o'=o/\W=W')
 |x,y=>x=y
def leL:List A->List A->Prop
 |[],[]=>True
 |x::l,y::m=>le1 x y/\leL l m
 |_,_=>False
def le2:A->A->Prop
 |.agg l,.agg m=>leL l m
 |x,y=>le1 x y
def dzb:List A->List A->Prop
 |[],[]=>True
 |x::l,y::m=>le2 x y/\dzb l m
 |_,_=>False
def le:A->A->Prop
 |.tup l,.tup m=>dzb l m
 |x,y=>le2 x y
section
variable {C:Ctx}
theorem cqc{x y:A}{v:Value}(h:le1 x y)(hr:Rep C x v):Rep C y v:=by
 unfold le1 at h;split at h
 ·next W o rows W' o' rows'=>
  obtain⟨rfl,h1,h2⟩:=h;obtain⟨a,cap,e,h3,h4,h5⟩:=rep_sl.1 hr;refine rep_sl.2 ⟨a,cap,e,h3,?_,?_⟩
  ·rcases h1 with rfl|rfl
   ·exact h4
   ·unfold RepRows;trivial
  ·rcases h2 with rfl|⟨rfl,rfl⟩
   ·trivial
   ·exact h5
 ·subst h;exact hr
theorem cqn:∀{l m:List A} {cs:List Value},leL l m->RepL C l cs->RepL C m cs
 |[],[],cs,_,hr=>hr
 |x::l,y::m,cs,h,hr=>by
  obtain⟨c,cs',rfl,h1,h2⟩:=repL_cons.1 hr;exact repL_cons.2 ⟨c,cs',rfl,cqc h.1 h1,cqn h.2 h2⟩
 |[],y::m,cs,h,hr=>h.elim
 |x::l,[],cs,h,hr=>h.elim
theorem cxj{x y:A}{v:Value}(h:le2 x y)(hr:Rep C x v):Rep C y v:=by
 unfold le2 at h;split at h
 ·obtain⟨cs,e,h1⟩:=rep_agg.1 hr;exact rep_agg.2 ⟨cs,e,cqn h h1⟩
 ·exact cqc h hr
theorem bqx:∀{l m:List A} {cs:List Value},dzb l m->RepL C l cs->RepL C m cs
 |[],[],cs,_,hr=>hr
 |x::l,y::m,cs,h,hr=>by
  obtain⟨c,cs',rfl,h1,h2⟩:=repL_cons.1 hr;exact repL_cons.2 ⟨c,cs',rfl,cxj h.1 h1,bqx h.2 h2⟩
 |[],y::m,cs,h,hr=>h.elim
 |x::l,[],cs,h,hr=>h.elim
theorem dxw{x y:A}{v:Value}(h:le x y)(hr:Rep C x v):Rep C y v:=by
 unfold le at h;split at h
 ·obtain⟨cs,e,h1⟩:=rep_tup.1 hr;exact rep_tup.2 ⟨cs,e,bqx h h1⟩
 ·exact cxj h hr
theorem aze(x:A):le1 x x:=by
 unfold le1;split
 ·exact⟨rfl,.inl rfl,.inr ⟨rfl,rfl⟩⟩
 ·rfl
theorem bw5:∀l:List A,leL l l
 |[]=>trivial
 |x::l=>⟨aze x,bw5 l⟩
theorem az3(x:A):le2 x x:=by
 unfold le2;split
 ·exact bw5 _
 ·exact aze x
theorem bxw:∀l:List A,dzb l l
 |[]=>trivial
 |x::l=>⟨az3 x,bxw l⟩
theorem le_refl(x:A):le x x:=by
 unfold le;split
 ·exact bxw _
 ·exact az3 x
end
theorem ACall.args{P:Program}{G:World->Prop}{f:FuncId}{as as':List A}{h:Hp}{K:A->Hp->Prop}(hle:dzb as as')(hc:ACall P G f as' h K):ACall P G f as h K:=
 fun C cs hI hr=>hc C cs hI (bqx hle hr)
inductive ARes where
 |t (n:Nat)
 |c (n:Nat) (agg:Bool) (size:Nat)
def compRes(P:Program)(n:Nat):List ResultVar->Option (List ARes)
 |[]=>some []
 |.tmp t::rs=>if t<n then(compRes P n rs).bind fun l=>some (.t t::l)else none
 |.cell t T::rs=>if t<n then(P.underlying T).bind fun d=>(P.info? T).bind fun i=>if isAggB d=true\/i.size=1 then(compRes P n rs).bind fun l=>some (.c t (isAggB d) i.size::l)else none else none
def resA(ts:Ts)(h:Hp):List ARes->Option (List A)
 |[]=>some []
 |.t t::rs=>(resA ts h rs).bind fun l=>some (ts t::l)
 |.c t g n::rs=>(loadA h g n (ts t)).bind fun v=>(resA ts h rs).bind fun l=>some (v::l)
def tupA:List A->A
 |[v]=>v
 |l=> .tup l
def finO(r:Option (List A))(Q:A->Hp->Prop)(h:Hp):Prop:=
 match r with
 |some l=>∃v,le (tupA l) v/\Q v h
 |none=>False
def finP(rs:List ARes)(Q:A->Hp->Prop)(ts:Ts)(h:Hp):Prop:=finO (resA ts h rs) Q h
def finQ(rs:List ARes)(Q:A->Hp->Prop):AExit->Ts->Hp->Prop
 |.normal=>finP rs Q
 |.ret=>finP rs Q
 |.exit _=>fun _ _=>False
structure AFn where
 n:Nat
 code:ACode
 res:List ARes
def bsT(f:FuncId)(E:TypeId):Bool:=(E==78||(E==51&&(f==100||f==69))||(E==9&&f==68)||(E==64&&f==20))
def compFn(P:Program)(f:FuncId):Option AFn:=
 match P.funcs[f]? with
 |some fn=>(fn.body).bind fun c=>(comp P (bsT f) fn.ntmps c).bind fun ac=>(compRes P fn.ntmps fn.results.toList).bind fun rs=>some ⟨fn.ntmps,ac,rs⟩
 |none=>none
def rg(P:Program)(f:FuncId)(k:Nat):Code:=
 match compFn P f with
 |some m=>(prims m.code).getD k .skip
 |none=> .skip
def initTs(args:List A):Ts:=fun i=>args.getD i (.tup [])
section
variable {P:Program} {G:World->Prop} {n:Nat}
def resOf(tmps:Array Value):ResultVar->Sem Value
 |.tmp t=>pure (tmps.getD t undef)
 |.cell b t=>do loadVar t (<-asAddr (tmps.getD b undef))
theorem by7(g:Func)(tmps:Array Value):results g tmps=(g.results.mapM (resOf tmps) >>= fun vs=>pure (if h:vs.size=1 then vs[0]else .tuple vs)):=by
 unfold results;congr 1
theorem bv7{C:Ctx}{h:Hp}{ts:Ts}{a:Act}(hI:Inv G C h)(hT:RepT C ts n a):∀(rs:List ResultVar) (rl:List ARes) (l:List A),compRes P n rs=some rl->resA ts h rl=some l ->
  ∃vs:List Value,(rs.mapM (resOf a.tmps)).run P C.w=Result.ok vs C.w/\RepL C l vs
 |[],rl,l,hc,hr=>by
  simp only[compRes,Zc]at hc;subst hc;simp only[resA,Zc]at hr;subst hr;exact⟨[],by simp,azp.2 rfl⟩
 |.tmp t::rs,rl,l,hc,hr=>by
  simp only[compRes,Zp,Zd,Zc]at hc;obtain⟨hlt,rl',h1,rfl⟩:=hc;simp only[resA,Zd,Zc]at hr;obtain⟨l',h2,rfl⟩:=hr;obtain⟨vs,k1,k2⟩:=bv7 hI hT rs rl' l' h1 h2;exact⟨_::vs,by simp[List.mapM_cons,k1,resOf],repL_cons.2 ⟨_,vs,rfl,hT.rep t hlt,k2⟩⟩
 |.cell t T::rs,rl,l,hc,hr=>by
  simp only[compRes,Zp,Zd,Zc]at hc;obtain⟨hlt,d,hd,i,hi,h1,rl',h2,rfl⟩:=hc;simp only[resA,Zd,Zc]at hr;obtain⟨v,h3,l',h4,rfl⟩:=hr;obtain⟨vs,k1,k2⟩:=bv7 hI hT rs rl' l' h2 h4;obtain⟨ad,cv,e,hrun,hv⟩:=bkt hI hd hi h1 (hT.rep t hlt) h3;rw[e]at hrun;have hrun':(loadVar T ad).run P C.w=.ok cv C.w:=by
   unfold Instr.loadAt at hrun;simpa [Instr.sureAddr]using hrun
  refine⟨cv::vs,?_,repL_cons.2 ⟨cv,vs,rfl,hv,k2⟩⟩;simp[List.mapM_cons,resOf,e,asAddr,hrun',k1]
theorem azf(hm:P.follows .mixedOrders=true){f:FuncId}{fn:AFn}{args:List A}{h:Hp}{Q:A->Hp->Prop}(hf:compFn P f=some fn)(hl:args.length<=fn.n)(hw:awp P G fn.code (finQ fn.res Q) (initTs args) h):ACall P G f args h Q:=by
 unfold compFn at hf;split at hf
 ·next g hg=>
  simp only[Zd,Zc]at hf;obtain⟨c,hb,ac,hc,rs,hr,rfl⟩:=hf;intro C cs hI hargs;have hcl:=azi hargs;refine calls_of_wp hg hb ?_;have hT:RepT C (initTs args) g.ntmps { tmps:=cs.toArray++Array.replicate (g.ntmps-cs.toArray.size) undef,defers:=[] }:=by
   simp only at hl;refine⟨by simp;omega,fun i hi=>?_⟩;unfold initTs;rw[Yx];by_cases hlt:i<cs.length
   ·have hx:args[i]?=some args[i]:=Zj (by omega);obtain⟨v,k1,k2⟩:=axb hargs i _ hx;rw[Array.getElem?_append_left (by simpa using hlt)];simp only[List.getElem?_toArray,k1,Yb];simpa [List.getD,hx]using k2
   ·rw[Array.getElem?_append_right (by simp;omega)];rw[Yf,Yh (by omega)];rw[Array.getElem?_replicate];split
    ·exact avg
    ·exact avg
  have key:=cq0 (C0:=C) hm c ac hc _ _ _ hw C _ hI (Step.refl C) hT rfl;refine wp_mono key ?_;rintro e a' w ⟨C1,ts1,h1,ae,hae,rfl,i1,s1,t1,d1,q1⟩;have fin:finP rs Q ts1 h1->a'.defers=[]/\∃v,(results g a'.tmps).run P C1.w=.ok v C1.w/\∃(C':Ctx) (h':Hp) (u:A) (cv:Value),Ending.returned v=.returned cv/\C'.w=C1.w/\Inv G C' h'/\Step C C'/\Rep C' u cv/\Q u h':=by
   intro hq;unfold finP finO at hq;split at hq
   ·next l hl'=>
    obtain⟨u,hu,hQ⟩:=hq;obtain⟨vs,k1,k2⟩:=bv7 i1 t1 g.results.toList rs l hr hl';have hvl:=azi k2;refine⟨d1,_,?_,C1,h1,u,if hh:vs.toArray.size=1 then vs.toArray[0]else .tuple vs.toArray,rfl,rfl,i1,s1,dxw hu ?_,hQ⟩
    ·have hmap:(g.results.mapM (resOf a'.tmps)).run P C1.w=.ok vs.toArray C1.w:=by
      rw[<-Array.toArray_toList (xs:=g.results),List.mapM_toArray];simp[k1]
     rw[by7,Sem.run_bind,hmap];rfl
    ·split
     ·next h1'=>
      have:vs.length=1:=by simpa using h1'
      match l,vs,k2,hvl,this with
      |[x],[v],k2,_,_=>
       obtain⟨c,cs',e,r1,_⟩:=repL_cons.1 k2;injection e with e1 e2;subst e1;exact r1
     ·next h1'=>
      have hne:l.length≠1:=by rw[<-hvl];simpa using h1'
      have:tupA l=.tup l:=by
       unfold tupA;split
       ·simp at hne
       ·rfl
      rw[this];exact rep_tup.2 ⟨vs,rfl,k2⟩
   ·exact hq.elim
  cases hae with
  |normal=>exact fin q1
  |ret=>exact fin q1
  |exit id=>exact q1.elim
 ·cases hf
end
end AX
end
end Go.Proofs.YthhpocnmfknalaaGreatDoor
