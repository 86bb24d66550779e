/- Part of what the proof needs. -/
import Derived.Test.YthhpocnmfknalaaGreatDoorMFrWorkspaceCallsB
import Derived.Deep.Upon
import Derived.MapKept
set_option maxHeartbeats 4000000
set_option maxRecDepth 100000
set_option linter.all false
namespace Go.Proofs.YthhpocnmfknalaaGreatDoor
section
open Go.RowKit
namespace AX
section
variable {P:Program} {G:World->Prop} {C:Ctx} {a:Act} {o:Oper} {h:Hp} {ts:Nat->A} {n:Nat}
theorem bvg{w:World}{E:TypeId}{W m t cap:Nat}{cs rest:List Value}{hs:List (TypeId×Nat×Nat)}(hw:w=C.w.drew\/w=C.w)(hI:Inv G C h)(hcap:(cs++rest).length=cap*W)(hm:m<=cap)(hcm:cap<=maxLen)(hcs:cs.length=m*W)
  (ht:(t=h.t.length/\hs=h.t++[(E,W,m)])\/(∃m0,C.hw t=some (E,W,m0)/\m0<m/\hs=h.t.set t (E,W,m))):
  ∃C':Ctx,C'.w=w.alloc (.cells (cs++rest).toArray E)/\Inv G C' ⟨h.b,hs⟩/\Step C C'/\(∀j,j<m*W->C'.S C.w.heap.size j)/\(∀(j:Nat) (v:Value),cs[j]?=some v->C'.w.cell? ⟨C.w.heap.size,j,none⟩=some v) /\
   C'.hw t=some (E,W,m)/\C'.τ t=C.w.heap.size/\RowAt C' C.w.heap.size E W cap:=by
 have hwh:w.heap=C.w.heap:=by rcases hw with rfl|rfl<;>rfl
 have hwo:w.os=C.w.os:=by rcases hw with rfl|rfl<;>rfl
 have hwt:w.tape=C.w.tape:=by rcases hw with rfl|rfl<;>rfl
 have hwu:w.output=C.w.output:=by rcases hw with rfl|rfl<;>rfl
 let C':Ctx:={ C with w:=w.alloc (.cells (cs++rest).toArray E),S:=fun g j=>C.S g j\/(g=C.w.heap.size/\j<m*W),τ:=fun u=>if u=t then C.w.heap.size else C.τ u,hw:=fun u=>if u=t then some (E,W,m)else C.hw u }
 have hblk:∀g,g<C.w.heap.size->C'.w.heap[g]?=C.w.heap[g]?:=fun g hg=>(Below.heap_alloc w _ g (by rw[hwh];exact hg)).trans (by rw[hwh])
 have hsz:C'.w.heap.size=C.w.heap.size+1:=by show(w.alloc _).heap.size=_;simp[hwh]
 have hnew:C'.w.heap[C.w.heap.size]?=some (.cells (cs++rest).toArray E (0,0)):=by
  show(w.alloc _).heap[C.w.heap.size]?=_
  rw[<-hwh];exact heap_alloc_new w _
 have hrow:RowAt C' C.w.heap.size E W cap:=⟨_,hnew,by simpa using hcap,hcm⟩;have htok:∀u E' W' m',u≠t->(C'.hw u=some (E',W',m')↔C.hw u=some (E',W',m')):=fun u E' W' m' hu=>by
  show(if u=t then some (E,W,m)else C.hw u)=_↔_
  rw[if_neg hu]
 have htt:C'.hw t=some (E,W,m):=by show(if t=t then some (E,W,m)else C.hw t)=_;rw[if_pos rfl]
 have hτt:C'.τ t=C.w.heap.size:=by show(if t=t then _ else _)=_;rw[if_pos rfl]
 have hτ:∀u,u≠t->C'.τ u=C.τ u:=fun u hu=>by show(if u=t then _ else _)=_;rw[if_neg hu]
 have hno:C.own C.w.heap.size=none:=by
  cases e:C.own C.w.heap.size with
  |none=>rfl
  |some i=>have:=(hI.ownlt _ _ e).2.1;omega
 have hE:Ext C C':=by
  refine⟨fun g j hs=>⟨.inl hs,cell_of_block (hblk g (hI.prot g j hs).1)⟩,Ze _,fun i hi=>⟨rfl,rfl,rfl⟩,fun u E' W' m' hu=>?_⟩;by_cases e:u=t
  ·subst e;rcases ht with⟨rfl,_⟩|⟨m0,h1,h2,_⟩
   ·rw[hI.toks,Yh (Ze _)]at hu;cases hu
   ·rw[h1]at hu;injection hu with hu;injection hu with e1 e2;injection e2 with e2 e3;subst e1;subst e2;subst e3
    exact⟨m,htt,.inl h2⟩
  ·obtain⟨_,_,cap,h1,_⟩:=hI.rows u E' W' m' hu;exact⟨m',(htok u E' W' m' e).2 hu,.inr ⟨rfl,hτ u e,fun cap hc=>hc.same (hblk _ h1.lt)⟩⟩
 have hlt:∀u,(C.hw u).isSome=true->C.τ u<C.w.heap.size:=fun u hu=>by
  obtain⟨⟨E',W',m'⟩,e⟩:=Option.isSome_iff_exists.1 hu;obtain⟨_,_,cap,h1,_⟩:=hI.rows u E' W' m' e;exact h1.lt
 have hsome:∀u,u≠t->(C'.hw u).isSome=(C.hw u).isSome:=fun u hu=>by show(if u=t then some (E,W,m)else C.hw u).isSome=_;rw[if_neg hu]
 refine⟨C',rfl,⟨hI.nb,fun i b hib=>?_,hI.ownk,fun g i hg=>?_,fun g j hs=>?_,fun u E' W' m' hu=>?_,fun u u' hu hu' e=>?_,fun u=>?_,?_,fun w2 hw2=>?_⟩,⟨hE,hwo,hwt,hwu,by omega,rfl,fun g hg _ _=>hblk g hg,fun _ _=>rfl,fun g j hs=>?_,fun u hu=>?_⟩,fun j hj=> .inr ⟨rfl,hj⟩,fun j v hv=>?_,htt,hτt,hrow⟩
 ·have hi':i<C.nb:=by rw[<-hI.nb];exact(Zb.1 hib).1
  exact(hI.box i b hib).ext hE hi' (fun hl=>⟨hI.ok hib hl,fun g hg=>hblk g (hI.ownlt g _ hg).2.1,fun g=>Iff.rfl⟩) (by omega)
 ·obtain⟨k1,k2,k3⟩:=hI.ownlt g i hg;exact⟨k1,by omega,k3⟩
 ·rcases hs with hs|⟨rfl,hj⟩
  ·obtain⟨k1,k2,k3⟩:=hI.prot g j hs;refine⟨by omega,k2,fun u E' W' m' hu e=>?_⟩;by_cases e2:u=t
   ·subst e2;rw[hτt]at e;omega
   ·rw[hτ u e2]at e;exact k3 u E' W' m' ((htok u E' W' m' e2).1 hu) e
  ·refine⟨by omega,hno,fun u E' W' m' hu e=>?_⟩;by_cases e2:u=t
   ·subst e2;rw[htt]at hu;injection hu with hu;injection hu with e1 e2;injection e2 with e2 e3;subst e1;subst e2;subst e3
    exact hj
   ·rw[hτ u e2]at e;have:=hlt u (by rw[<-hsome u e2,hu];rfl);omega
 ·by_cases e2:u=t
  ·subst e2;rw[htt]at hu;injection hu with hu;injection hu with e1 e2;injection e2 with e2 e3;subst e1;subst e2;subst e3
   rw[hτt];exact⟨hno,hI.base,cap,hrow,hm⟩
  ·rw[hτ u e2];obtain⟨k1,k2,cap',k3,k4⟩:=hI.rows u E' W' m' ((htok u E' W' m' e2).1 hu);exact⟨k1,k2,cap',k3.same (hblk _ k3.lt),k4⟩
 ·by_cases e2:u=t
  ·by_cases e3:u'=t
   ·rw[e2,e3]
   ·rw[e2,hτt,hτ u' e3]at e;have:=hlt u' (by rw[<-hsome u' e3];exact hu');omega
  ·by_cases e3:u'=t
   ·rw[e3,hτt,hτ u e2]at e;have:=hlt u (by rw[<-hsome u e2];exact hu);omega
   ·rw[hτ u e2,hτ u' e3]at e;exact hI.inj u u' (by rw[<-hsome u e2];exact hu) (by rw[<-hsome u' e3];exact hu') e
 ·show(if u=t then some (E,W,m)else C.hw u)=hs[u]?
  rcases ht with⟨rfl,rfl⟩|⟨m0,h1,_,rfl⟩
  ·by_cases e2:u=h.t.length
   ·subst e2;simp
   ·rw[if_neg e2,hI.toks];rcases Z0 u h.t.length with h3|h3
    ·rw[ZF h3]
    ·rw[Yh h3,Yh (by simp;omega)]
  ·have hlt':t<h.t.length:=by
    rw[hI.toks]at h1;exact(Zb.1 h1).1
   by_cases e2:u=t
   ·subst e2;simp[hlt']
   ·rw[if_neg e2,hI.toks,Zas (fun e=>e2 e.symm)]
 ·show C.base<=C'.w.heap.size
  have:=hI.base;omega
 ·exact hI.glob w2 fun g hg=>(hw2 g hg).trans (hblk g (ZG hg hI.base))
 ·rcases hs with hs|⟨rfl,hj⟩
  ·exact .inl hs
  ·exact .inr (.inl (Ze _))
 ·by_cases e2:u=t
  ·subst e2;left;rw[hτt];exact Ze _
  ·right;rw[hτ u e2];exact⟨by rw[<-hsome u e2];exact hu,rfl⟩
 ·rw[cell_of_row _ _ _ _ _ _ hnew];have:j<cs.length:=(Zb.1 hv).1;simp[ZF this,hv]
theorem ckh{E:TypeId}{W m0 m t cap:Nat}{cs:List Value}{cur:Array Value}(hI:Inv G C h)(ht:C.hw t=some (E,W,m0))(hlt:m0<m)(hcur:C.w.heap[C.τ t]?=some (.cells cur E (0,0)))(hcs:cs.length=cur.size)(hsz:cur.size=cap*W)(hm:m<=cap)(hcm:cap<=maxLen)
  (hpre:cs.take (m0*W)=cur.toList.take (m0*W)):
  ∃C':Ctx,C'.w=C.w.setRow (C.τ t) cs.toArray/\Inv G C' ⟨h.b,h.t.set t (E,W,m)⟩/\Step C C'/\(∀j,j<m*W->C'.S (C.τ t) j)/\(∀(j:Nat) (v:Value),cs[j]?=some v->C'.w.cell? ⟨C.τ t,j,none⟩=some v) /\
   C'.hw t=some (E,W,m)/\C'.τ t=C.τ t/\RowAt C' (C.τ t) E W cap:=by
 obtain⟨hown,hbase,cap0,hr0,_⟩:=hI.rows t E W m0 ht
 let C':Ctx:={ C with w:=C.w.setRow (C.τ t) cs.toArray,S:=fun g j=>C.S g j\/(g=C.τ t/\j<m*W),hw:=fun u=>if u=t then some (E,W,m)else C.hw u }
 have hblk:∀g,g≠C.τ t->C'.w.heap[g]?=C.w.heap[g]?:=fun g hg=>setRow_other C.w _ g _ hg
 have hws:C'.w.heap.size=C.w.heap.size:=setRow_size _ _ _;have hnew:C'.w.heap[C.τ t]?=some (.cells cs.toArray E (0,0)):=setRow_heap C.w _ _ _ E _ hcur;have hrow:RowAt C' (C.τ t) E W cap:=⟨_,hnew,by simpa [hcs]using hsz,hcm⟩;have htok:∀u E' W' m',u≠t->(C'.hw u=some (E',W',m')↔C.hw u=some (E',W',m')):=fun u E' W' m' hu=>by
  show(if u=t then some (E,W,m)else C.hw u)=_↔_
  rw[if_neg hu]
 have htt:C'.hw t=some (E,W,m):=by show(if t=t then some (E,W,m)else C.hw t)=_;rw[if_pos rfl]
 have hsome:∀u,(C'.hw u).isSome=(C.hw u).isSome:=fun u=>by
  show(if u=t then some (E,W,m)else C.hw u).isSome=_
  by_cases e:u=t
  ·subst e;rw[if_pos rfl,ht];rfl
  ·rw[if_neg e]
 have hother:∀u,u≠t->(C.hw u).isSome=true->C.τ u≠C.τ t:=fun u hu hs e=>hu (hI.inj u t hs (by rw[ht];rfl) e)
 have hcell:∀j,j<m0*W->C'.w.cell? ⟨C.τ t,j,none⟩=C.w.cell? ⟨C.τ t,j,none⟩:=fun j hj=>by
  rw[cell_of_row _ _ _ _ _ _ hnew,cell_of_row _ _ _ _ _ _ hcur];have h1:(cs.take (m0*W))[j]?=cs[j]?:=List.getElem?_take_of_lt hj;have h2:(cur.toList.take (m0*W))[j]?=cur.toList[j]?:=List.getElem?_take_of_lt hj;rw[hpre,h2]at h1;simpa using h1.symm
 have hE:Ext C C':=by
  refine⟨fun g j hs=>⟨.inl hs,?_⟩,Ze _,fun i hi=>⟨rfl,rfl,rfl⟩,fun u E' W' m' hu=>?_⟩
  ·by_cases e:g=C.τ t
   ·subst e;exact hcell j ((hI.prot _ j hs).2.2 t E W m0 ht rfl)
   ·exact cell_of_block (hblk g e)
  ·by_cases e:u=t
   ·subst e;rw[ht]at hu;injection hu with hu;injection hu with e1 e2;injection e2 with e2 e3;subst e1;subst e2;subst e3
    exact⟨m,htt,.inl hlt⟩
   ·exact⟨m',(htok u E' W' m' e).2 hu,.inr ⟨rfl,rfl,fun cap hc=>hc.same (hblk _ (hother u e (by rw[hu];rfl)))⟩⟩
 refine⟨C',rfl,⟨hI.nb,fun i b hib=>?_,hI.ownk,fun g i hg=>?_,fun g j hs=>?_,fun u E' W' m' hu=>?_,fun u u' hu hu' e=>?_,fun u=>?_,?_,fun w2 hw2=>?_⟩,⟨hE,rfl,rfl,rfl,by omega,rfl,fun g hg _ hx=>hblk g fun e=>hx t (by rw[ht];rfl) e.symm,fun _ _=>rfl,fun g j hs=>?_,fun u hu=> .inr ⟨by rw[<-hsome u];exact hu,rfl⟩⟩,fun j hj=> .inr ⟨rfl,hj⟩,fun j v hv=>?_,htt,rfl,hrow⟩
 ·have hi':i<C.nb:=by rw[<-hI.nb];exact(Zb.1 hib).1
  exact(hI.box i b hib).ext hE hi' (fun hl=>⟨hI.ok hib hl,(fun g hg=>hblk g fun e=>(by rw[e,hown]at hg;cases hg)),fun g=>Iff.rfl⟩) (by omega)
 ·obtain⟨k1,k2,k3⟩:=hI.ownlt g i hg;exact⟨k1,by omega,k3⟩
 ·rcases hs with hs|⟨rfl,hj⟩
  ·obtain⟨k1,k2,k3⟩:=hI.prot g j hs;refine⟨by omega,k2,fun u E' W' m' hu e=>?_⟩;by_cases e2:u=t
   ·subst e2;rw[htt]at hu;injection hu with hu;injection hu with e1 e2;injection e2 with e2 e3;subst e1;subst e2;subst e3
    have h1:=k3 u E W m0 ht e;exact ZG h1 (Ym _ (Nat.le_of_lt hlt))
   ·exact k3 u E' W' m' ((htok u E' W' m' e2).1 hu) e
  ·refine⟨by have:=hr0.lt;omega,hown,fun u E' W' m' hu e=>?_⟩;by_cases e2:u=t
   ·subst e2;rw[htt]at hu;injection hu with hu;injection hu with e1 e2;injection e2 with e2 e3;subst e1;subst e2;subst e3
    exact hj
   ·exact absurd e (hother u e2 (by rw[<-hsome u,hu];rfl))
 ·by_cases e2:u=t
  ·subst e2;rw[htt]at hu;injection hu with hu;injection hu with e1 e2;injection e2 with e2 e3;subst e1;subst e2;subst e3
   exact⟨hown,hbase,cap,hrow,hm⟩
  ·obtain⟨k1,k2,cap',k3,k4⟩:=hI.rows u E' W' m' ((htok u E' W' m' e2).1 hu);exact⟨k1,k2,cap',k3.same (hblk _ (hother u e2 (by rw[<-hsome u,hu];rfl))),k4⟩
 ·exact hI.inj u u' (by rw[<-hsome u];exact hu) (by rw[<-hsome u'];exact hu') e
 ·show(if u=t then some (E,W,m)else C.hw u)=(h.t.set t (E,W,m))[u]?
  have hlt':t<h.t.length:=by
   rw[hI.toks]at ht;exact(Zb.1 ht).1
  by_cases e2:u=t
  ·subst e2;simp[hlt']
  ·rw[if_neg e2,hI.toks,Zas (fun e=>e2 e.symm)]
 ·show C.base<=C'.w.heap.size
  have:=hI.base;omega
 ·exact hI.glob w2 fun g hg=>(hw2 g hg).trans (hblk g (by omega))
 ·rcases hs with hs|⟨rfl,hj⟩
  ·exact .inl hs
  ·exact .inr (.inr ⟨t,by rw[ht];rfl,rfl⟩)
 ·rw[cell_of_row _ _ _ _ _ _ hnew];simpa using hv
theorem aj6:∀{l:List A},l.all A.data=true->l.all A.one=true
 |[],_=>rfl
 |x::l,hd=>by
  rw[ZK,Zg]at hd⊢;refine⟨?_,aj6 hd.2⟩;have:=hd.1;cases x<;>simp_all [A.data,A.one]
theorem awe{W:Nat}{ow:Own}{ys:List (List A)}{v:Value}(hr:Rep C (.sl W ow ys) v)(h0:0<ys.length):
  ∃g off cap cs,v=.slice (some ⟨g,off,none⟩) ys.length cap/\RepL C ys.flatten cs/\cs.length=ys.length*W/\ys.flatten.all A.data=true/\(∀r∈ys,r.length=W)/\(∀(j:Nat) (u:Value),cs[j]?=some u->C.w.cell? ((⟨g,off,none⟩:Addr).add j)=some u):=by
 obtain⟨ad,cap,e,hcap,hrows,_⟩:=rep_sl.1 hr;obtain⟨g,off,rfl,_⟩:=aq7 hrows 0 h0;obtain⟨cs,h1,h2,h3,h4,h5⟩:=axt hrows;refine⟨g,off,cap,cs,e,h1,h2,h3,h4,fun j u hu=>?_⟩;rw[aq1];have:=h5 j u hu
 rwa [Nat.zero_mul,Yr]at this
theorem bwl{T E:TypeId}{x y:Operand}{it:TypeInfo}{W1 W':Nat}{o1 o2:Own}{xs ys:List (List A)}(hI:Inv G C h)(ht:P.underlying T=some (.slice E))(hi:P.info? E=some it)
  (hexec:(execOp a.eval o).run P C.w=((Builtin.append_ #[T,T] o.type #[a.eval x,a.eval y]).run P C.w).andThen fun v w=> .ok (.value v) w) (hx:Rep C (.sl W1 o1 xs) (a.eval x)) (hy:Rep C (.sl W' o2 ys) (a.eval y)) (h0:ys.length=0):OpOk P G C a o (.sl W1 o1 xs) h:=by
 refine azs hI (cv:=a.eval x) ?_ hx;obtain⟨ax,cx,ex,hcx,_,_⟩:=rep_sl.1 hx;obtain⟨ay,cy,ey,_,_,_⟩:=rep_sl.1 hy;rw[h0]at ey;have hsrc:Src P it.size T (a.eval y) 0 [] C.w:=by
  rw[ey];cases ay with
  |none=>exact Src.ofNil C.w ht cy
  |some ad=>exact Src.ofSlice C.w ht ad 0 cy [] (by simp) (fun j u hu=>by simp at hu) (fun u hu=>by cases hu)
 have:=run_append_nothing C.w T T o.type E it ht hi ax xs.length cx hcx (a.eval y) hsrc;rw[hexec,ex,this];rfl
theorem dxf{c:Call}{T E:TypeId}{x y:Operand}{it:TypeInfo}{z:Value}{u v r:A}{h':Hp}(hI:Inv G C h)(hop:o.op=.call c)(hc:c.callee=.builtin .append)(ha:c.args=#[x,y])(hT:c.argTypes=#[T,T])(ht:P.underlying T=some (.slice E))(hi:P.info? E=some it)(hz:it.zero=some z)
  (hzs:z.cells.size=it.size) (hpos:0<it.size) (hx:Rep C u (a.eval x)) (hy:Rep C v (a.eval y)) (hs:appA h E it.size it.bytes u v=some (r,h')):OpOk P G C a o r h':=by
 have hexec:(execOp a.eval o).run P C.w=((Builtin.append_ #[T,T] o.type #[a.eval x,a.eval y]).run P C.w).andThen fun v w=> .ok (.value v) w:=by
  unfold execOp;simp[hop,resolve,hc,ha,hT,invoke,builtin]
 have hzc:∀k,(Builtin.zeroCells z.cells k).toList.length=k*it.size:=fun k=>by rw[ZO,size_zeroCells,hzs]
 cases u with
 |sl W1 ow xs=>
  cases v with
  |sl W' ow' ys=>
   cases ow with
   |no=>simp[appA]at hs
   |emp=>simp[appA]at hs
   |nil=>
    simp only[appA]at hs;split at hs
    ·next hcond=>
     obtain⟨rfl,h0,hml,hby⟩:=hcond;simp only[Zc,Zw]at hs;obtain⟨rfl,rfl⟩:=hs;obtain⟨g,off,cap,cs,ey,k1,k2,k3,k4,k5⟩:=awe hy h0;obtain⟨ad,cap',ex,_,_,hown⟩:=rep_sl.1 hx;obtain⟨rfl,rfl,hn0⟩:=hown;rw[hn0]at ex;have hr:=run_append_nil (P:=P) C.w T o.type E it z ht hi hz ⟨g,off,none⟩ ys.length cap cs k2 k5 h0 (by simp only[maxLen]at hml;omega) (by omega);have hge:=grownCap_ge C.w ys.length 0 E;have hle:=grownCap_le_maxLen C.w ys.length 0 E hml;obtain⟨C',m1,m2,m3,m4,m5,m6,m7,m8⟩:=bvg (w:=C.w.drew) (E:=E) (W:=it.size) (m:=ys.length) (t:=h.t.length) (cap:=grownCap C.w ys.length 0 E) (cs:=cs) (rest:=(Builtin.zeroCells z.cells (grownCap C.w ys.length 0 E-ys.length)).toList) (hs:=h.t++[(E,it.size,ys.length)]) (.inl rfl) hI
      (by rw[Za,k2,hzc,<-YB];congr 1;omega) hge hle k2 (.inl ⟨rfl,rfl⟩)
     refine⟨C',.slice (some ⟨C.w.heap.size,0,none⟩) ys.length (grownCap C.w ys.length 0 E),.inl ?_,m2,m3,rep_sl.2 ⟨_,_,rfl,hge,aqi ys cs 0 k4 k3 (RepL.ext m3.ext _ _ k1) (fun j hj=>?_) (fun j u hu=>?_),E,ys.length,m6,Ze _,fun _=>⟨by rw[m7],by rw[m7];exact m8⟩⟩⟩
     ·rw[hexec,ex,ey,hr,m1];simp only[Result.andThen_ok];rw[show cs.toArray++Builtin.zeroCells z.cells (grownCap C.w ys.length 0 E-ys.length)=(cs++(Builtin.zeroCells z.cells (grownCap C.w ys.length 0 E-ys.length)).toList).toArray from Ya.1 (by simp)]
     ·rw[show 0+0*it.size+j=j by omega];exact m4 j hj
     ·rw[show 0+0*it.size+j=j by omega];exact m5 j u hu
    ·split at hs
     ·next h0=>
      simp only[Zc,Zw]at hs;obtain⟨rfl,rfl⟩:=hs;exact bwl hI ht hi hexec hx hy h0
     ·cases hs
   |tok t=>
    simp only[appA]at hs;split at hs
    ·next hcond=>
     obtain⟨rfl,rfl,h0,htok,hml,hby⟩:=hcond;simp only[Zc,Zw]at hs;obtain⟨rfl,rfl⟩:=hs;obtain⟨g,off,capy,cs,ey,k1,k2,k3,k4,k5⟩:=awe hy h0;obtain⟨ad,cap,ex,hcap,hrx,E',m,q1,q2,q3⟩:=rep_sl.1 hx;rw[<-hI.toks,q1]at htok;injection htok with htok;injection htok with e1 e2;injection e2 with e2 e3;subst e1;subst e3;obtain⟨rfl,hrow⟩:=q3 rfl;obtain⟨cur,hcur,hcs,hcm⟩:=hrow;obtain⟨cs1,p1,p2,p3,p4,p5⟩:=axt hrx;have p5':∀(j:Nat) (u:Value),cs1[j]?=some u->C.w.cell? ⟨C.τ t,j,none⟩=some u:=fun j u hu=>by
      have:=p5 j u hu
      rwa [show 0+0*it.size+j=j by omega]at this
     have hall:(xs++ys).flatten.all A.data=true:=by rw[List.flatten_append,List.all_append,Zg];exact⟨p3,k3⟩
     have hrl:∀r∈xs++ys,r.length=it.size:=fun r hr=>by
      rcases Yk.1 hr with hm|hm
      ·exact p4 r hm
      ·exact k4 r hm
     have hL:RepL C (xs++ys).flatten (cs1++cs):=by rw[List.flatten_append];exact azo p1 k1
     have hll:(cs1++cs).length=(xs.length+ys.length)*it.size:=by rw[Za,p2,k2,YB]
     by_cases hroom:xs.length+ys.length<=cap
     ·have hfit:xs.length*it.size+cs.length<=cur.size:=by rw[k2,hcs,<-YB];exact Ym _ hroom
      have hxs:xs.length*it.size<=cur.size:=by omega
      have hr:=run_append_room (P:=P) C.w T o.type E' it ht hi (C.τ t) xs.length cap cur hcur ⟨g,off,none⟩ ys.length capy cs k2 k5 (aqo k1 (aj6 k3)) hroom hfit;obtain⟨C',m1,m2,m3,m4,m5,m6,m7,m8⟩:=ckh (m:=xs.length+ys.length) (cap:=cap) (cs:=cur.toList.take (xs.length*it.size)++cs++cur.toList.drop (xs.length*it.size+cs.length)) hI q1 (by omega) hcur (by rw[Za,Za,Zk,ZC,ZO (xs:=cur)];omega) hcs hroom hcm
       (by rw[Zi,List.take_append_of_le_length (by rw[Zk,ZO (xs:=cur)];omega),List.take_take,Nat.min_self])
      refine⟨C',.slice (some ⟨C.τ t,0,none⟩) (xs.length+ys.length) cap,.inl ?_,m2,m3,rep_sl.2 ⟨some ⟨C.τ t,0,none⟩,cap,by simp,by simpa using hroom,aqi _ _ 0 hrl hall (RepL.ext m3.ext _ _ hL) (fun j hj=>?_) (fun j u hu=>?_),E',xs.length+ys.length,m6,by simp,fun _=>⟨by rw[m7],by rw[m7];exact m8⟩⟩⟩
      ·rw[hexec,ex,ey,hr,m1];rfl
      ·rw[show 0+0*it.size+j=j by omega];exact m4 j (by simpa using hj)
      ·rw[show 0+0*it.size+j=j by omega];refine m5 j u ?_;rw[YZ]at hu;have hlt:j<(cs1++cs).length:=by
        rw[Za];split at hu
        ·omega
        ·have:=(Zb.1 hu).1;omega
       rw[hll,YB]at hlt;rw[Zi,YZ];have hxs':cs1.length<=cur.size:=by rw[p2];exact hxs
       simp only[Zk,ZO,<-p2,Nat.min_eq_left hxs'];split at hu
       ·next hj=>
        rw[if_pos hj];have h5:=p5' j u hu;rw[cell_of_row _ _ _ _ _ _ hcur]at h5;rw[List.getElem?_take_of_lt hj];simpa using h5
       ·next hj=>
        rw[if_neg hj,ZF (by rw[k2];omega)];exact hu
     ·have hr:=run_append_grow (P:=P) C.w T o.type E' it z ht hi hz ⟨C.τ t,0,none⟩ xs.length cap cs1 p2 (fun j u hu=>by rw[aq1,Yj];exact p5' j u hu) ⟨g,off,none⟩ ys.length capy cs k2 k5 (by omega) (by simp only[maxLen]at hml;omega) (growslice_fits (by omega) hby);have hge:=grownCap_ge C.w (xs.length+ys.length) cap E';have hle:=grownCap_le_maxLen C.w (xs.length+ys.length) cap E' hml;obtain⟨C',m1,m2,m3,m4,m5,m6,m7,m8⟩:=bvg (w:=C.w.drew) (E:=E') (W:=it.size) (m:=xs.length+ys.length) (t:=t) (cap:=grownCap C.w (xs.length+ys.length) cap E') (cs:=cs1++cs) (rest:=(Builtin.zeroCells z.cells (grownCap C.w (xs.length+ys.length) cap E'-(xs.length+ys.length))).toList) (hs:=h.t.set t (E',it.size,xs.length+ys.length)) (.inl rfl) hI
       (by rw[Za,hll,hzc,<-YB];congr 1;omega) hge hle hll (.inr ⟨xs.length,q1,by omega,rfl⟩)
      refine⟨C',.slice (some ⟨C.w.heap.size,0,none⟩) (xs.length+ys.length) (grownCap C.w (xs.length+ys.length) cap E'),.inl ?_,m2,m3,rep_sl.2 ⟨some ⟨C.w.heap.size,0,none⟩,_,by rw[Za],by simpa using hge,aqi _ _ 0 hrl hall (RepL.ext m3.ext _ _ hL) (fun j hj=>?_) (fun j u hu=>?_),E',xs.length+ys.length,m6,by simp,fun _=>⟨by rw[m7],by rw[m7];exact m8⟩⟩⟩
      ·rw[hexec,ex,ey,hr,m1];simp only[Result.andThen_ok];rw[show cs1.toArray++cs.toArray++Builtin.zeroCells z.cells (grownCap C.w (xs.length+ys.length) cap E'-(xs.length+ys.length))=(cs1++cs++(Builtin.zeroCells z.cells (grownCap C.w (xs.length+ys.length) cap E'-(xs.length+ys.length))).toList).toArray from Ya.1 (by simp)]
      ·rw[show 0+0*it.size+j=j by omega];exact m4 j (by simpa using hj)
      ·rw[show 0+0*it.size+j=j by omega];exact m5 j u hu
    ·split at hs
     ·next h0=>
      simp only[Zc,Zw]at hs;obtain⟨rfl,rfl⟩:=hs;exact bwl hI ht hi hexec hx hy h0
     ·cases hs
  |_=>cases ow<;>simp[appA]at hs
 |_=>simp[appA]at hs
theorem dx1{t E:TypeId}{len:Nat}{parts:Array (Nat×Operand)}{it:TypeInfo}{z:Value}{ps:List Opd}{rows:List (List A)}(hI:Inv G C h)(hT:RepT C ts n a)(hop:o.op=.buildSlice t len parts)(ht:P.underlying t=some (.slice E))(hi:P.info? E=some it)(hz:it.zero=some z)
  (hzs:z.cells.size=it.size) (hpos:0<it.size) (hpl:parts.toList.length=len) (hl0:0<len) (hsm:len*it.size<=1000) (hc:compRow n 0 parts.toList=some ps) (hr:rowsA (evX ts) it.size ps=some rows):OpOk P G C a o (.sl it.size (.tok h.t.length) rows) ⟨h.b,h.t++[(E,it.size,rows.length)]⟩:=by
 have hsl:((Array.range (len*it.size)).map (z.cells[· % z.cells.size]!)).toList.length=parts.toList.length*it.size:=by simp[hpl]
 obtain⟨out,k1,k2,k3,k4,k5,k6⟩:=bqd hT it.size hpos parts.toList ps rows 0 [] _ hc hr (by simp) hsl;have hlen:rows.length=len:=by rw[k5,hpl]
 simp only[Zq,Array.toArray_toList]at k1;have hlm:len<=maxLen:=by
  have:len<=len*it.size:=Nat.le_mul_of_pos_right _ hpos;simp only[maxLen];omega
 obtain⟨C',m1,m2,m3,m4,m5,m6,m7,m8⟩:=bvg (w:=C.w) (E:=E) (W:=it.size) (m:=rows.length) (t:=h.t.length) (cap:=len) (cs:=out) (rest:=[]) (hs:=h.t++[(E,it.size,rows.length)]) (.inr rfl) hI (by rw[Zz,k6,hpl]) (by omega) hlm (by rw[k6,hpl,hlen]) (.inl ⟨rfl,rfl⟩);refine⟨C',.slice (some ⟨C.w.heap.size,0,none⟩) len len,.inl ?_,m2,m3,rep_sl.2 ⟨some ⟨C.w.heap.size,0,none⟩,len,by rw[hlen],by omega,aqi rows out 0 k4 k3 (RepL.ext m3.ext _ _ k2) (fun j hj=>?_) (fun j v hv=>?_),E,rows.length,m6,Ze _,fun _=>⟨by rw[m7],by rw[m7];exact m8⟩⟩⟩
 ·rw[m1,Zz];have hrun:=run_buildSlice (P:=P) C.w t E len (parts.map fun p=>(p.1,a.eval p.2)) out.toArray it z ht hi hz (by omega) (by have:=Nat.mul_pos hl0 hpos;omega) (by rw[Array.toList_map];exact k1);unfold execOp;simp only[hop,Sem.run_bind];erw [hrun];rfl
 ·rw[show 0+0*it.size+j=j by omega];exact m4 j hj
 ·rw[show 0+0*it.size+j=j by omega];exact m5 j v hv
end
end AX
end
section
open Go.RowKit
namespace AX
theorem bjf(l:List UInt8)(i j:Nat):(⟨l.toArray⟩:ByteArray).extract i j=⟨((l.take j).drop i).toArray⟩:=by
 apply ByteArray.ext;apply Ya.1;simp[List.drop_take]
section
variable {P:Program} {G:World->Prop} {C:Ctx} {a:Act} {o:Oper} {h:Hp} {ts:Nat->A} {n:Nat}
theorem ajm(hT:RepT C ts n a){x:Option Operand}{y:Option Opd}(hc:compO n x=some y):(x=none/\y=none)\/∃u v,x=some u/\y=some v/\Rep C (evX ts v) (a.eval u):=by
 cases x with
 |none=>simp only[compO,Zc]at hc;exact .inl ⟨rfl,hc.symm⟩
 |some u=>
  simp only[compO,Zd,Zc]at hc;obtain⟨v,h1,rfl⟩:=hc;exact .inr ⟨u,v,rfl,rfl,azh hT h1⟩
theorem djm{t:TypeId}{x:Operand}{lo hi:Option Operand}{lo' hi':Option Opd}{u r:A}(hI:Inv G C h)(hT:RepT C ts n a)(hop:o.op=.slice t x lo hi none)(ht:P.underlying t=some .string)(hx:Rep C u (a.eval x))(hlo:compO n lo=some lo')(hhi:compO n hi=some hi')
  (hs:ssliceA (lo'.map (evX ts)) (hi'.map (evX ts)) u=some r):OpOk P G C a o r h:=by
 cases u with
 |str l=>
  rw[rep_str]at hx;have hb:∀(k:IntKind) (i:Int) (y:Nat) (code:BoundsCode),0<=i->i<=(y:Int)->(Instr.sliceBound (.int k i) y code).run P C.w=.ok i.toNat C.w:=fun k i y code h0 h1=>by
   unfold Instr.sliceBound;simp[asIntOf,h0,h1]
  have hsz:(⟨l.toArray⟩:ByteArray).size=l.length:=size_mk l;have fin:∀i j:Nat,(execOp a.eval o).run P C.w=.ok (.value (.string ((⟨l.toArray⟩:ByteArray).extract i j))) C.w->r=.str ((l.take j).drop i)->OpOk P G C a o r h:=fun i j h1 h2=>by
   rw[bjf]at h1;subst h2;exact azs hI h1 (rep_str.2 rfl)
  rcases ajm hT hlo with⟨rfl,rfl⟩|⟨ul,vl,rfl,rfl,hl⟩<;>rcases ajm hT hhi with⟨rfl,rfl⟩|⟨uh,vh,rfl,rfl,hh⟩<;>simp only[ssliceA,Yz,ZY,YD,Yb]at hs
  ·split at hs
   ·injection hs with hs;refine fin 0 l.length ?_ (by rw[<-hs];simp);unfold execOp;simp only[hop,Instr.sliceAt,Sem.run_bind,run_underlying ht,Result.andThen_ok,hx,Yz,run_slice_string_all C.w t _ ht,hsz,Sem.run_pure]
   ·cases hs
  ·split at hs
   ·next x1 x2 k a' k' b' e1 e2=>
    injection e1 with e0 e1;subst e1;rw[e2,rep_int]at hh;split at hs
    ·next hc=>
     injection hs with hs;refine fin 0 b'.toNat ?_ (by rw[<-hs];simp);unfold execOp;simp[hop,Instr.sliceAt,Instr.slice,run_underlying ht,hx,hh,Instr.sliceBounds,hsz,hb _ _ _ _ (show 0<=b' by omega) (show b'<=(l.length:Int) by omega)]
    ·cases hs
   ·cases hs
  ·split at hs
   ·next x1 x2 k a' k' b' e1 e2=>
    injection e2 with e0 e2;subst e2;rw[e1,rep_int]at hl;split at hs
    ·next hc=>
     injection hs with hs;refine fin a'.toNat l.length ?_ (by rw[<-hs];simp);unfold execOp;simp[hop,Instr.sliceAt,Instr.slice,run_underlying ht,hx,hl,Instr.sliceBounds,hsz,hb _ _ _ _ (show 0<=a' by omega) (show a'<=(l.length:Int) by omega)]
    ·cases hs
   ·cases hs
  ·split at hs
   ·next x1 x2 k a' k' b' e1 e2=>
    rw[e1,rep_int]at hl;rw[e2,rep_int]at hh;split at hs
    ·next hc=>
     injection hs with hs;refine fin a'.toNat b'.toNat ?_ hs.symm;unfold execOp;simp[hop,Instr.sliceAt,Instr.slice,run_underlying ht,hx,hl,hh,Instr.sliceBounds,hsz,hb _ _ _ _ (show 0<=b' by omega) (show b'<=(l.length:Int) by omega),hb _ a' b'.toNat _ (show 0<=a' by omega) (by omega)]
    ·cases hs
   ·cases hs
 |_=>simp[ssliceA]at hs
theorem av9{W:Nat}{ad:Option Addr}:∀{rows:List (List A)} {i:Nat} (k:Nat),RepRows C W rows ad i->RepRows C W (rows.drop k) ad (i+k)
 |rows,i,0,r=>r
 |[],i,k+1,r=>by rw[List.drop_nil];unfold RepRows;trivial
 |x::rows,i,k+1,r=>by
  unfold RepRows at r;rw[Z4,show i+(k+1)=i+1+k by omega];exact av9 k r.2
theorem av7{W:Nat}{ad:Option Addr}:∀{rows:List (List A)} {i:Nat} (k:Nat),RepRows C W rows ad i->RepRows C W (rows.take k) ad i
 |rows,i,0,r=>by rw[Yt];unfold RepRows;trivial
 |[],i,k+1,r=>by rw[Zab];unfold RepRows;trivial
 |x::rows,i,k+1,r=>by
  unfold RepRows at r;rw[Yd];unfold RepRows;exact⟨r.1,av7 k r.2⟩
theorem av5{W g off k:Nat}:∀{rows:List (List A)} {i:Nat},RepRows C W rows (some ⟨g,off,none⟩) (i+k)->RepRows C W rows (some ⟨g,off+k*W,none⟩) i
 |[],i,r=>by unfold RepRows;trivial
 |x::rows,i,r=>by
  unfold RepRows at r;unfold RepRows;obtain⟨⟨g',off',e,h1,h2⟩,h3⟩:=r;injection e with e;injection e with e1 e2;subst e1;subst e2;refine⟨⟨g,off+k*W,rfl,h1,?_⟩,av5 (by rw[show i+1+k=i+k+1 by omega];exact h3)⟩;rw[YB,Nat.add_comm (i*W),<-Nat.add_assoc]at h2;exact h2
theorem dzm{t e:TypeId}{ie:TypeInfo}{x:Operand}{lo hi:Option Operand}{lo' hi':Option Opd}{u r:A}(hI:Inv G C h)(hT:RepT C ts n a)(hop:o.op=.slice t x lo hi none)(ht:P.underlying t=some (.slice e))(hie:P.info? e=some ie)(hx:Rep C u (a.eval x))(hlo:compO n lo=some lo')(hhi:compO n hi=some hi')
  (hs:sslA ie.size (lo'.map (evX ts)) (hi'.map (evX ts)) u=some r):OpOk P G C a o r h:=by
 cases u with
 |sl W' ow rows=>
  obtain⟨ad,cap,ex,hcap,hrows,_⟩:=rep_sl.1 hx;have hel:P.elem t=e:=by simp[Program.elem,ht]
  have ht':P.underlying t=some (.slice (P.elem t)):=by rw[hel];exact ht
  have hsz:(sizeOf (P.elem t)).run P C.w=.ok ie.size C.w:=by rw[hel];simp[sizeOf,typeInfo,hie]
  have fin:∀i j:Nat,i<=j->j<=rows.length->(W'=ie.size\/rows.length=0)->(execOp a.eval o).run P C.w=.ok (.value (sliced ad i j cap ie.size)) C.w->r=.sl ie.size .no ((rows.take j).drop i)->OpOk P G C a o r h:=fun i j h0 h1 hw h2 h3=>by
   subst h3;refine azs hI h2 (rep_sl.2 ?_);unfold sliced;have hlen:((rows.take j).drop i).length=j-i:=by rw[ZC,Zk];omega
   refine⟨_,cap-i,by rw[hlen],by rw[hlen];omega,?_,trivial⟩;rcases Nat.eq_zero_or_pos (j-i)with hz|hp
   ·rw[ZN (l:=(rows.take j).drop i) (by rw[hlen];exact hz)];unfold RepRows;trivial
   ·rw[if_neg (by omega)];have hW:W'=ie.size:=by rcases hw with hw|hw;exact hw;omega
    subst hW;obtain⟨g,off,rfl,_,_⟩:=aq7 hrows 0 (by omega);have:=av9 i (av7 j hrows);show RepRows C ie.size _ (some ((⟨g,off,none⟩:Addr).add (i*ie.size))) 0
    rw[aq1];exact av5 (i:=0) this
  have hex:(execOp a.eval o).run P C.w=((Instr.slice t (a.eval x) (lo.map a.eval) (hi.map a.eval) none).run P C.w).andThen fun v w=> .ok (.value v) w:=by
   unfold execOp;simp only[hop,run_sliceAt_slice C.w t _ _ _ _ ht',Sem.run_bind,Yz];rfl
  rw[ex]at hex;rcases ajm hT hlo with⟨rfl,rfl⟩|⟨ul,vl,rfl,rfl,hl⟩<;>rcases ajm hT hhi with⟨rfl,rfl⟩|⟨uh,vh,rfl,rfl,hh⟩<;>simp only[sslA,Yz,ZY,YD,Yb]at hs hex
  ·split at hs
   ·next hc=>
    injection hs with hs;refine fin 0 rows.length (by omega) (Ze _) hc.2.2.2 ?_ (by rw[<-hs];simp);rw[hex,run_slice_all C.w t ad rows.length cap ht',hsz];rfl
   ·cases hs
  ·split at hs
   ·next x1 x2 k a' k' b' e1 e2=>
    injection e1 with e0 e1;subst e1;rw[e2,rep_int]at hh;split at hs
    ·next hc=>
     injection hs with hs;refine fin 0 b'.toNat (by omega) (by omega) hc.2.2.2 ?_ (by rw[<-hs];simp);rw[hex,hh,run_slice_h C.w t ad rows.length cap ht' k' b' (by omega) (by omega),hsz];rfl
    ·cases hs
   ·cases hs
  ·split at hs
   ·next x1 x2 k a' k' b' e1 e2=>
    injection e2 with e0 e2;subst e2;rw[e1,rep_int]at hl;split at hs
    ·next hc=>
     injection hs with hs;refine fin a'.toNat rows.length (by omega) (Ze _) hc.2.2.2 ?_ (by rw[<-hs];simp);rw[hex,hl,run_slice_l C.w t ad rows.length cap ht' k a' (by omega) (by omega),hsz];rfl
    ·cases hs
   ·cases hs
  ·split at hs
   ·next x1 x2 k a' k' b' e1 e2=>
    rw[e1,rep_int]at hl;rw[e2,rep_int]at hh;split at hs
    ·next hc=>
     injection hs with hs;refine fin a'.toNat b'.toNat (by omega) (by omega) hc.2.2.2 ?_ hs.symm;rw[hex,hl,hh,run_slice_lh C.w t ad rows.length cap ht' k k' a' b' (by omega) (by omega) (by omega),hsz];rfl
    ·cases hs
   ·cases hs
 |bs ib W' m=>
  obtain⟨cap,ex,hcap,_⟩:=rep_bs.1 hx;have hel:P.elem t=e:=by simp[Program.elem,ht]
  have ht':P.underlying t=some (.slice (P.elem t)):=by rw[hel];exact ht
  have hsz:(sizeOf (P.elem t)).run P C.w=.ok ie.size C.w:=by rw[hel];simp[sizeOf,typeInfo,hie]
  have hex:(execOp a.eval o).run P C.w=((Instr.slice t (a.eval x) (lo.map a.eval) (hi.map a.eval) none).run P C.w).andThen fun v w=> .ok (.value v) w:=by
   unfold execOp;simp only[hop,run_sliceAt_slice C.w t _ _ _ _ ht',Sem.run_bind,Yz];rfl
  rw[ex]at hex;rcases ajm hT hlo with⟨rfl,rfl⟩|⟨ul,vl,rfl,rfl,hl⟩<;>rcases ajm hT hhi with⟨rfl,rfl⟩|⟨uh,vh,rfl,rfl,hh⟩<;>simp only[sslA,Yz,ZY,reduceCtorEq]at hs hex
  split at hs
  ·next x1 x2 k a' e1 e2=>
   injection e1 with e1;rw[e1,rep_int]at hl;split at hs
   ·next hc=>
    injection hs with hs;subst hs;obtain⟨rfl,rfl⟩:=hc;have hx2:(execOp a.eval o).run P C.w=.ok (.value (sliced (some ⟨C.κ ib,0,none⟩) m m cap ie.size)) C.w:=by
     rw[hex,hl,run_slice_l C.w t _ m cap ht' k m (by omega) (by omega),hsz];rfl
    refine azs hI hx2 (rep_sl.2 ?_);unfold sliced;refine⟨_,cap-m,(by rw[Nat.sub_self];rfl),ZB _,?_,trivial⟩;unfold RepRows;trivial
   ·cases hs
  ·cases hs
  ·exfalso
   revert hs;split<;>simp_all
 |_=>simp[sslA]at hs
theorem akf(d:Nat):∀(fs:List Field) (ks:List Nat) (l m:List A) (cs ds pre pre':List Value) (b:Bool) (w:World),kindsB P fs pre.length=some ks->pre'.length=pre.length->RepL C l cs->RepL C m ds->eqCells ks l m=some b ->
  (Op.eqFields (d+1) (pre++cs).toArray (pre'++ds).toArray fs).run P w=.ok b w
 |[],ks,l,m,cs,ds,pre,pre',b,w,hf,hp,hl,hm,he=>by
  simp only[kindsB,Zc]at hf;subst hf;cases l<;>cases m<;>simp only[eqCells,Zc,reduceCtorEq]at he
  subst he;simp[Op.eqFields]
 |f::fs,ks,l,m,cs,ds,pre,pre',b,w,hf,hp,hl,hm,he=>by
  simp only[kindsB]at hf;split at hf
  ·next hcond=>
   obtain⟨ho,hn⟩:=hcond;have key:∃k ks',ks=k::ks'/\kindsB P fs (pre.length+1)=some ks'/\((k=0/\∃q,P.underlying f.type=some (.int q))\/(k=1/\P.underlying f.type=some .string)\/(k=2/\P.underlying f.type=some .bool)):=by
    split at hf<;>simp only[Zd,Zc,reduceCtorEq]at hf
    ·next q hu=>obtain⟨l,h1,rfl⟩:=hf;exact⟨0,l,rfl,h1,.inl ⟨rfl,q,hu⟩⟩
    ·next hu=>obtain⟨l,h1,rfl⟩:=hf;exact⟨1,l,rfl,h1,.inr (.inl ⟨rfl,hu⟩)⟩
    ·next hu=>obtain⟨l,h1,rfl⟩:=hf;exact⟨2,l,rfl,h1,.inr (.inr ⟨rfl,hu⟩)⟩
   obtain⟨k,ks',rfl,hrest,hty⟩:=key;have hxy:∃x l' y m',l=x::l'/\m=y::m':=by
    cases l with
    |nil=>rcases hty with⟨rfl,_⟩|⟨rfl,_⟩|⟨rfl,_⟩<;>simp[eqCells]at he
    |cons x l=>
     cases m with
     |nil=>rcases hty with⟨rfl,_⟩|⟨rfl,_⟩|⟨rfl,_⟩<;>cases x<;>simp[eqCells]at he
     |cons y m=>exact⟨x,l,y,m,rfl,rfl⟩
   obtain⟨x,l',y,m',rfl,rfl⟩:=hxy;obtain⟨c,cs',rfl,h1,h2⟩:=repL_cons.1 hl;obtain⟨e,ds',rfl,k1,k2⟩:=repL_cons.1 hm;have ih:=fun b' hb=>akf d fs ks' l' m' cs' ds' (pre++[c]) (pre'++[e]) b' w (by rw[Za];exact hrest) (by simp[hp]) h2 k2 hb
   rw[Zi,Zi]at ih;simp only[List.singleton_append]at ih;have g1:(pre++c::cs').toArray[f.offset]?=some c:=by simp[ho]
   have g2:(pre'++e::ds').toArray[f.offset]?=some e:=by simp[ho,<-hp]
   have hagg:∀w,(isAgg f.type).run P w=.ok false w:=fun w=>by
    unfold isAgg;rcases hty with⟨_,q,hu⟩|⟨_,hu⟩|⟨_,hu⟩<;>simp[run_underlying hu]
   have hp1:∀w,(part f.type (pre++c::cs').toArray f.offset).run P w=.ok c w:=fun w=>by
    unfold part;simp only[Sem.run_bind,hagg,Result.andThen_ok,Zn,if_false,g1,Sem.run_pure]
   have hp2:∀w,(part f.type (pre'++e::ds').toArray f.offset).run P w=.ok e w:=fun w=>by
    unfold part;simp only[Sem.run_bind,hagg,Result.andThen_ok,Zn,if_false,g2,Sem.run_pure]
   have step:∀q b',(∀w,(Op.equalIn (d+1) f.type c e).run P w=.ok q w)->eqCells ks' l' m'=some b'->(q&&b')=b->(Op.eqFields (d+1) (pre++c::cs').toArray (pre'++e::ds').toArray (f::fs)).run P w=.ok b w:=fun q b' hq hb hqb=>by
    rw[Op.eqFields,if_pos hn];simp only[Sem.run_bind,hp1,hp2,hq,Result.andThen_ok];cases q
    ·subst hqb;simp
    ·simp only[Yc,Zn,if_false];rw[ih b' hb,<-hqb,ZH]
   rcases hty with⟨rfl,q,hu⟩|⟨rfl,hu⟩|⟨rfl,hu⟩<;>cases x<;>cases y<;>simp only[eqCells,reduceCtorEq]at he
   ·next k p k' p'=>
    rw[rep_int]at h1 k1;subst h1;subst k1;split at he
    ·next hk=>
     subst hk;simp only[Zv]at he;obtain⟨b',hb,hqb⟩:=he;exact step _ b' (fun w=>run_equalIn_int w d f.type k q p p' hu) hb hqb
    ·cases he
   ·next p p'=>
    rw[rep_str]at h1 k1;subst h1;subst k1;simp only[Zv]at he;obtain⟨b',hb,hqb⟩:=he;refine step _ b' (fun w=>?_) hb hqb;rw[run_equalIn_string w d f.type _ _ hu,ByteArray.toList_eq,ByteArray.toList_eq]
   ·next p p'=>
    rw[aqn]at h1 k1;subst h1;subst k1;simp only[Zv]at he;obtain⟨b',hb,hqb⟩:=he;exact step _ b' (fun w=>run_equalIn_bool w d f.type p p' hu) hb hqb
  ·cases hf
theorem ok_eq{op:BinOp}{t yt:TypeId}{x y:Operand}{u v:A}{b:Bool}{k:Nat}{ks:List Nat}(hI:Inv G C h)(hop:o.op=.binOp op t x y yt)(hn:op=.eql\/op=.neq)(hx:Rep C u (a.eval x))(hy:Rep C v (a.eval y))
  (ht:(k=0/\P.underlying t=some .bool)\/(k=1/\∃e,P.underlying t=some (.pointer e))\/(k=4/\∃e it,P.underlying t=some (.pointer e)/\P.info? e=some it/\0<it.size)\/(k=3/\∃q e,P.underlying t=some (.map q e))\/(k=2/\∃fs,P.underlying t=some (.struct fs)/\P.stoodInHeld t=false/\P.eqGuardType P.depth t=false/\kindsB P fs.toList 0=some ks)) (hb:eqA k ks u v=some b):OpOk P G C a o (.bool (if(op == .neq)=true then !b else b)) h:=by
 have key:(Op.equal t (a.eval x) (a.eval y)).run P C.w=.ok b C.w/\(eqGuard op t x y (a.eval x) (a.eval y)).run P C.w=.ok () C.w/\(binOp op t (a.eval x) (a.eval y)=match op with|.eql=>do pure (.bool (<-Op.equal t (a.eval x) (a.eval y)))|_=>do pure (.bool (!(<-Op.equal t (a.eval x) (a.eval y))))):=by
  rcases ht with⟨rfl,ht⟩|⟨rfl,e,ht⟩|⟨rfl,e,it,ht,hi,hsz⟩|⟨rfl,q,e,ht⟩|⟨rfl,fs,ht,hst,hg,hk⟩
  ·cases u<;>cases v<;>simp only[eqA,reduceCtorEq,Zc]at hb
   next p q=>
   subst hb;rw[aqn]at hx hy;rw[hx,hy];refine⟨run_equalIn_bool C.w 9999 t p q ht,by simp[eqGuard],by rcases hn with rfl|rfl<;>rfl⟩
  ·cases u<;>cases v<;>simp only[eqA,reduceCtorEq,Zc]at hb<;>subst hb
   all_goals
    first
     |(rw[az2]at hx hy;rw[hx,hy])
     |(rw[az2]at hx;have hy:=(rep_ptr.1 hy).1;rw[hx,hy])
     |(rw[az2]at hy;have hx:=(rep_ptr.1 hx).1;rw[hx,hy])
     |(rw[az2]at hx;obtain⟨g,off,hy,_⟩:=rep_vptr.1 hy;rw[hx,hy])
     |(rw[az2]at hy;obtain⟨g,off,hx,_⟩:=rep_vptr.1 hx;rw[hx,hy])
    refine⟨?_,by simp[eqGuard],by rcases hn with rfl|rfl<;>rfl⟩;obtain⟨d,hd⟩:∃d:Nat,10000=d+1:=⟨9999,rfl⟩;unfold Op.equal Op.maxDepth;rw[hd];simp[Op.equalIn,run_underlying ht]
  ·by_cases hpp:∃i o j p,u=.ptr i o/\v=.ptr j p
   ·obtain⟨i,o',j,p,rfl,rfl⟩:=hpp;simp only[eqA,Zp,Zc]at hb;obtain⟨⟨rfl,rfl⟩,rfl⟩:=hb;have hx:=(rep_ptr.1 hx).1;have hy:=(rep_ptr.1 hy).1;rw[hx,hy];refine⟨?_,by simp[eqGuard],by rcases hn with rfl|rfl<;>rfl⟩;obtain⟨d,hd⟩:∃d:Nat,10000=d+1:=⟨9999,rfl⟩;unfold Op.equal Op.maxDepth;rw[hd];simp[Op.equalIn,run_underlying ht,sizeOf,typeInfo,hi,sameAddr]
    try (intro h0;omega)
   ·cases u<;>cases v<;>(try (exact absurd ⟨_,_,_,_,rfl,rfl⟩ hpp))<;>simp only[eqA,reduceCtorEq,Zc]at hb<;>subst hb
    all_goals
     first
      |(rw[az2]at hx hy;rw[hx,hy])
      |(rw[az2]at hx;have hy:=(rep_ptr.1 hy).1;rw[hx,hy])
      |(rw[az2]at hy;have hx:=(rep_ptr.1 hx).1;rw[hx,hy])
      |(rw[az2]at hx;obtain⟨g,off,hy,_⟩:=rep_vptr.1 hy;rw[hx,hy])
      |(rw[az2]at hy;obtain⟨g,off,hx,_⟩:=rep_vptr.1 hx;rw[hx,hy])
     refine⟨?_,by simp[eqGuard],by rcases hn with rfl|rfl<;>rfl⟩;obtain⟨d,hd⟩:∃d:Nat,10000=d+1:=⟨9999,rfl⟩;unfold Op.equal Op.maxDepth;rw[hd];simp[Op.equalIn,run_underlying ht]
  ·cases u<;>cases v<;>simp only[eqA,reduceCtorEq,Zc]at hb<;>subst hb
   all_goals
    first
     |(rw[axw]at hx hy;rw[hx,hy])
     |(rw[axw]at hx;have hy:=(rep_mp.1 hy).1;rw[hx,hy])
     |(rw[axw]at hy;have hx:=(rep_mp.1 hx).1;rw[hx,hy])
    refine⟨?_,by simp[eqGuard],by rcases hn with rfl|rfl<;>rfl⟩;obtain⟨d,hd⟩:∃d:Nat,10000=d+1:=⟨9999,rfl⟩;unfold Op.equal Op.maxDepth;rw[hd];simp[Op.equalIn,run_underlying ht]
  ·cases u<;>cases v<;>simp only[eqA,reduceCtorEq]at hb
   next l m=>
   obtain⟨cs,hx',hl⟩:=rep_agg.1 hx;obtain⟨ds,hy',hm⟩:=rep_agg.1 hy;rw[hx',hy'];have hfs:P.fieldsOf t=fs:=by unfold Program.fieldsOf;rw[ht]
   refine⟨?_,run_eqGuard_agg C.w op t x y _ _ hg,by rcases hn with rfl|rfl<;>rfl⟩;unfold Op.equal Op.maxDepth;rw[run_equalIn_agg C.w 9999 t _ _ (by rw[hfs];exact ht) hst,hfs];exact akf (C:=C) 9998 fs.toList ks l m cs ds [] [] b C.w hk rfl hl hm hb
 obtain⟨h1,h2,h3⟩:=key;refine azs hI ?_ (aqn.2 rfl);unfold execOp;simp only[hop,Sem.run_bind,h2,Result.andThen_ok,h3];rcases hn with rfl|rfl<;>simp[h1]
end
end AX
end
section
open Go.RowKit
namespace AX
def Ctx.turn(C:Ctx)(w':World)(i:Nat)(claim:Bool):Ctx:={ C with w:=w',own:=fun g=>if g<C.w.heap.size then C.own g else if claim=true/\g<w'.heap.size then some (C.lab i)else none }
theorem aqx{G:World->Prop}{C:Ctx}{h:Hp}{w':World}{i:Nat}{b':Blk}(claim:Bool)(hI:Inv G C h){b0:Blk}(hb0:h.b[i]?=some b0)(hl0:b0.live=true)(hos:w'.os=C.w.os)(htape:w'.tape=C.w.tape)(hout:w'.output=C.w.output)(hsz:C.w.heap.size<=w'.heap.size)
  (hblk:∀g,g<C.w.heap.size->C.own g≠some (C.lab i)->w'.heap[g]?=C.w.heap[g]?) (hrep:Step C (C.turn w' i claim)->BlkRep (C.turn w' i claim) i b'):Inv G (C.turn w' i claim) ⟨h.b.set i b',h.t⟩/\Step C (C.turn w' i claim):=by
 have hi:i<C.nb:=by rw[<-hI.nb];exact(Zb.1 hb0).1
 have hlt:∀g,C.own g=none->g<C.w.heap.size->w'.heap[g]?=C.w.heap[g]?:=fun g hg hl=>hblk g hl (by rw[hg];simp)
 have hE:Ext C (C.turn w' i claim):=by
  refine⟨fun g j hs=>⟨hs,?_⟩,Ze _,fun _ _=>⟨rfl,rfl,rfl⟩,fun t E W m ht=>?_⟩
  ·obtain⟨h1,h2,_⟩:=hI.prot g j hs;exact cell_of_block (hlt g h2 h1)
  ·obtain⟨h0,_,cap,h1,_⟩:=hI.rows t E W m ht;exact⟨m,ht,.inr ⟨rfl,rfl,fun cap hc=>hc.same (hlt _ h0 h1.lt)⟩⟩
 have hown:∀g,g<C.w.heap.size->(C.turn w' i claim).own g=C.own g:=fun g hg=>by
  show(if g<C.w.heap.size then C.own g else _)=_
  rw[if_pos hg]
 have hown':∀j,j≠C.lab i->∀g,(C.turn w' i claim).own g=some j↔C.own g=some j:=fun j hj g=>by
  show(if g<C.w.heap.size then C.own g else if claim=true/\g<w'.heap.size then some (C.lab i)else none)=some j↔_
  split
  ·exact Iff.rfl
  ·next hg=>
   constructor
   ·intro e;split at e
    ·injection e with e;exact absurd e.symm hj
    ·cases e
   ·intro e;exact absurd (hI.ownlt g j e).2.1 hg
 have hS:Step C (C.turn w' i claim):=⟨hE,hos,htape,hout,hsz,rfl,fun g hg ho _=>hlt g ho hg,hown,fun g j hs=> .inl hs,fun t ht=> .inr ⟨ht,rfl⟩⟩;refine⟨⟨by rw[ZA];exact hI.nb,fun j b hjb=>?_,hI.ownk.set hb0 (fun _=>hl0) (fun _=>rfl) (fun j l e=>(hown _ (hI.ownlt _ _ e).2.1).trans e) (fun _=>rfl),fun g j hg=>?_,fun g j hs=>?_,fun t E W m ht=>?_,hI.inj,hI.toks,?_,fun w2 hw2=>?_⟩,hS⟩
 ·rw[Zm]at hjb;split at hjb
  ·next e=>
   subst e;split at hjb
   ·injection hjb with hjb;subst hjb;exact hrep hS
   ·cases hjb
  ·next hne=>
   have hj:j<C.nb:=by rw[<-hI.nb];exact(Zb.1 hjb).1
   refine(hI.box j b hjb).ext hE hj (fun hl=>⟨hI.ok hjb hl,fun g hg=>hblk g (hI.ownlt g _ hg).2.1 (by rw[hg];intro e;injection e with e;exact hI.labne hb0 hjb hl0 hl hne e.symm),fun g=>hown' _ (fun e=>hI.labne hb0 hjb hl0 hl hne e.symm) g⟩) hsz
 ·have hg':(if g<C.w.heap.size then C.own g else if claim=true/\g<w'.heap.size then some (C.lab i)else none)=some j:=hg;split at hg'
  ·obtain⟨k1,k2,k3⟩:=hI.ownlt g j hg';exact⟨k1,ZG k2 hsz,k3⟩
  ·next hge=>
   split at hg'
   ·next hc=>injection hg' with hg';subst hg';exact⟨hI.lablt hb0 hl0,hc.2,by have:=hI.base;show C.base<=g;omega⟩
   ·cases hg'
 ·obtain⟨k1,k2,k3⟩:=hI.prot g j hs;exact⟨ZG k1 hsz,(hown g k1).trans k2,k3⟩
 ·obtain⟨k1,k2,cap,k3,k4⟩:=hI.rows t E W m ht;exact⟨(hown _ k3.lt).trans k1,k2,cap,k3.same (hlt _ k1 k3.lt),k4⟩
 ·exact Zr hI.base hsz
 ·refine hI.glob w2 fun g hg=>(hw2 g hg).trans ?_
  have hg':g<C.w.heap.size:=ZG hg hI.base;refine hblk g hg' fun e=>?_
  have:=(hI.ownlt g _ e).2.2;omega
section
variable {P:Program} {G:World->Prop} {C:Ctx} {a:Act} {o:Oper} {h:Hp} {ts:Nat->A} {n:Nat}
theorem bqh{t:TypeId}(hm:mapB P t=true):∃q e k,P.underlying t=some (.map q e)/\P.underlying q=some (.int k):=by
 unfold mapB at hm;split at hm
 ·next q e hu=>
  split at hm
  ·next k hk=>exact⟨q,e,k,hu,hk⟩
  ·cases hm
 ·cases hm
theorem run_checkKey{q:TypeId}{k:IntKind}(w:World)(b:Bool)(d:Nat)(n:Int)(hq:P.underlying q=some (.int k)):(Instr.checkKey b (d+1) q (.int .i64 n)).run P w=.ok () w:=by
 simp[Instr.checkKey,run_underlying hq]
theorem bqm{k:IntKind}(n:Int):∀(l:List (Int×A)) (es:List MapEntry) (i:Nat),RepEs C l es ->
  (mfind n l=none/\Instr.findNow (.int k) (.int .i64 n) es i=some none)\/∃x j e,mfind n l=some x/\Instr.findNow (.int k) (.int .i64 n) es i=some (some (i+j,e.val))/\es[j]?=some e/\e.key=.int .i64 n/\Rep C x e.val /\
   (∀y v,Rep C y v->RepEs C (mput n y l) (es.modify j fun e=>{ e with key:=.int .i64 n,val:=v }))/\RepEs C (merase n l) (es.eraseIdx j)
 |[],es,i,hr=>by
  have:es=[]:=hr;subst this;exact .inl ⟨rfl,rfl⟩
 |(m,x)::l,es,i,hr=>by
  obtain⟨e,es',rfl,h1,h2,h3⟩:=hr;by_cases hn:n=m
  ·subst hn;refine .inr ⟨x,0,e,by simp[mfind],by simp[Instr.findNow,Instr.sameNow,h1],rfl,h1,h2,fun y v hv=>?_,?_⟩
   ·simp only[mput,if_true,List.modify_cons];exact⟨_,es',rfl,rfl,hv,h3⟩
   ·simp only[merase,if_true,List.eraseIdx_cons_zero];exact h3
  ·have hb:(n==m)=false:=by simp[hn]
   have hf:Instr.findNow (.int k) (.int .i64 n) (e::es') i=Instr.findNow (.int k) (.int .i64 n) es' (i+1):=by
    simp[Instr.findNow,Instr.sameNow,h1,hb]
   rw[hf];rcases bqm n l es' (i+1) h3 with⟨k1,k2⟩|⟨y,j,e',k1,k2,k3,k4,k5,k6,k7⟩
   ·exact .inl ⟨by simp only[mfind,if_neg hn];exact k1,k2⟩
   ·refine .inr ⟨y,j+1,e',by simp only[mfind,if_neg hn];exact k1,by rw[k2,show i+1+j=i+(j+1) by omega],by simpa using k3,k4,k5,fun z v hv=>?_,?_⟩
    ·simp only[mput,if_neg hn,List.modify_succ_cons];exact⟨e,_,rfl,h1,h2,k6 z v hv⟩
    ·simp only[merase,if_neg hn,List.eraseIdx_cons_succ];exact⟨e,_,rfl,h1,h2,k7⟩
theorem cyi(n:Int):∀(l:List (Int×A)) (es:List MapEntry) (y:A) (v:Value) (b:Nat),RepEs C l es->mfind n l=none->Rep C y v->RepEs C (mput n y l) (es++[{ key:=.int .i64 n,val:=v,born:=b }])
 |[],es,y,v,b,hr,hf,hv=>by
  have:es=[]:=hr;subst this;exact⟨_,[],rfl,rfl,hv,rfl⟩
 |(m,x)::l,es,y,v,b,hr,hf,hv=>by
  obtain⟨e,es',rfl,h1,h2,h3⟩:=hr;have hn:n≠m:=by
   intro e;simp[mfind,e]at hf
  simp only[mfind,if_neg hn]at hf;simp only[mput,if_neg hn];exact⟨e,_,rfl,h1,h2,cyi n l es' y v b h3 hf hv⟩
theorem run_findKey{q:TypeId}{k:IntKind}(w:World)(n:Int)(es:List MapEntry)(r:Option (Nat×Value))(hq:P.underlying q=some (.int k))(hf:Instr.findNow (.int k) (.int .i64 n) es 0=some r):(Instr.findKey q (.int .i64 n) es).run P w=.ok r w:=by
 simp[Instr.findKey,run_underlying hq,hf]
theorem aqa{w:World}{b:Nat}{es:Array MapEntry}{c:Nat}(hb:w.heap[b]?=some (.map es c)):(getObj b).run P w=.ok (.map es c) w:=MapKept.run_getObj_map hb
theorem cq6{w:World}{ob:Obj}{b0:Blk}(hw:w=C.w\/w=C.w.drew)(hI:Inv G C h)(hrep:∀(C':Ctx) (i:Nat),Ext C C'->C'.κ i=C.w.heap.size->C'.own (C'.κ i)=some (C'.lab i)->C'.w.heap[C'.κ i]?=some ob->BlkRep C' i b0):
  ∃C':Ctx,C'.w=w.alloc ob/\Inv G C' ⟨h.b++[b0],h.t⟩/\Step C C'/\C'.κ h.b.length=C.w.heap.size/\h.b.length<C'.nb:=by
 have hh:w.heap=C.w.heap:=by rcases hw with rfl|rfl<;>rfl
 have hos:w.os=C.w.os/\w.tape=C.w.tape/\w.output=C.w.output:=by rcases hw with rfl|rfl<;>exact⟨rfl,rfl,rfl⟩
 let C':Ctx:={ C with w:=w.alloc ob,κ:=fun i=>if i=C.nb then C.w.heap.size else C.κ i,nb:=C.nb+1,own:=fun g=>if g=C.w.heap.size then some C.nb else C.own g,lab:=fun i=>if i=C.nb then C.nb else C.lab i }
 have hblk:∀g,g<C.w.heap.size->C'.w.heap[g]?=C.w.heap[g]?:=fun g hg=>by
  show(w.alloc ob).heap[g]?=_
  rw[Below.heap_alloc w _ g (by rw[hh];exact hg),hh]
 have hsz:C'.w.heap.size=C.w.heap.size+1:=by show(w.alloc ob).heap.size=_;simp[hh]
 have hE:Ext C C':=by
  refine⟨fun g j hs=>⟨hs,cell_of_block (hblk g (hI.prot g j hs).1)⟩,Nat.le_succ _,fun i hi=>?_,fun t E W m ht=>?_⟩
  ·refine⟨?_,rfl,?_⟩
   ·show(if i=C.nb then C.w.heap.size else C.κ i)=C.κ i
    rw[if_neg (by omega)]
   ·show(if i=C.nb then C.nb else C.lab i)=C.lab i
    rw[if_neg (by omega)]
  ·obtain⟨_,_,cap,h1,_⟩:=hI.rows t E W m ht;exact⟨m,ht,.inr ⟨rfl,rfl,fun cap hc=>hc.same (hblk _ h1.lt)⟩⟩
 have hown:∀g,g<C.w.heap.size->C'.own g=C.own g:=fun g hg=>by
  show(if g=C.w.heap.size then some C.nb else C.own g)=_
  rw[if_neg (by omega)]
 have hown':∀g i,i<C.nb->(C'.own g=some i↔C.own g=some i):=fun g i hi=>by
  show(if g=C.w.heap.size then some C.nb else C.own g)=some i↔_
  split
  ·next e=>exact⟨fun e=>by injection e with e;omega,fun e'=>by have:=(hI.ownlt g i e').2.1;omega⟩
  ·exact Iff.rfl
 refine⟨C',rfl,⟨?_,fun i b hib=>?_,hI.ownk.push hI.nb (fun g i hg=>⟨(hI.ownlt g i hg).1,(hI.ownlt g i hg).2.1⟩) (Ze _) (fun _=>rfl) (fun _=>rfl) (fun _=>rfl),fun g i hg=>?_,fun g j hs=>?_,fun t E W m ht=>?_,hI.inj,hI.toks,?_,fun w2 hw2=>?_⟩,⟨hE,hos.1,hos.2.1,hos.2.2,by omega,rfl,fun g hg _ _=>hblk g hg,hown,fun g j hs=> .inl hs,fun t ht=> .inr ⟨ht,rfl⟩⟩,?_⟩
 ·show(h.b++[b0]).length=C.nb+1
  rw[Za,hI.nb];rfl
 ·rw[YZ]at hib;split at hib
  ·next hi=>
   have hi':i<C.nb:=by rw[<-hI.nb];exact hi
   exact(hI.box i b hib).ext hE hi' (fun hl=>⟨hI.ok hib hl,fun g hg=>hblk g (hI.ownlt g _ hg).2.1,fun g=>hown' g _ (hI.lablt hib hl)⟩) (by omega)
  ·next hi=>
   have hk:i-h.b.length=0:=by
    rcases Nat.eq_zero_or_pos (i-h.b.length)with e|e
    ·exact e
    ·rw[Yh (by simp only[Zf,Zo];omega)]at hib;cases hib
   rw[hk]at hib;simp only[ZU,Zc]at hib;subst hib;have hi':i=C.nb:=by have:=hI.nb;omega
   have hκ:C'.κ i=C.w.heap.size:=by show(if i=C.nb then C.w.heap.size else C.κ i)=_;rw[if_pos hi']
   refine hrep C' i hE hκ (by rw[hκ];show(if C.w.heap.size=C.w.heap.size then some C.nb else _)=some (if i=C.nb then C.nb else C.lab i);rw[if_pos rfl,if_pos hi']) ?_;show(w.alloc ob).heap[if i=C.nb then C.w.heap.size else C.κ i]?=_
   rw[if_pos hi',<-hh];exact heap_alloc_new w _
 ·have hg':(if g=C.w.heap.size then some C.nb else C.own g)=some i:=hg;split at hg'
  ·next e=>
   injection hg' with hg';exact⟨by show i<C.nb+1;omega,by omega,by rw[e];exact hI.base⟩
  ·obtain⟨k1,k2,k3⟩:=hI.ownlt g i hg';exact⟨by show i<C.nb+1;omega,by omega,k3⟩
 ·obtain⟨k1,k2,k3⟩:=hI.prot g j hs;exact⟨by omega,(hown g k1).trans k2,k3⟩
 ·obtain⟨k1,k2,cap,k3,k4⟩:=hI.rows t E W m ht;exact⟨(hown _ k3.lt).trans k1,k2,cap,k3.same (hblk _ k3.lt),k4⟩
 ·show C.base<=C'.w.heap.size
  have:=hI.base;omega
 ·exact hI.glob w2 fun g hg=>(hw2 g hg).trans (hblk g (ZG hg hI.base))
 ·refine⟨?_,by show h.b.length<C.nb+1;have:=hI.nb;omega⟩;show(if h.b.length=C.nb then C.w.heap.size else C.κ h.b.length)=_
  rw[if_pos hI.nb]
theorem cvs{t:TypeId}(hI:Inv G C h)(hop:o.op=.makeMap t none):OpOk P G C a o (.mp h.b.length) ⟨h.b++[.map [] 0],h.t⟩:=by
 obtain⟨C',h1,h2,h3,h4,h5⟩:=cq6 (w:=C.w) (ob:=.map #[] 0) (b0:=.map [] 0) (.inl rfl) hI (fun C' i hE _ _ hh=>⟨#[],hh,rfl,by simp[BornOk],by simp⟩);refine⟨C',.map (some C.w.heap.size),.inl ?_,h2,h3,rep_mp.2 ⟨by rw[h4],h5⟩⟩;rw[h1];unfold execOp;simp[hop,Instr.makeMap]
theorem cjx{t q e:TypeId}{z:A}(hu:P.underlying t=some (.map q e))(hz:zeroOf P t=some z):∃zv,(∀w,(zeroValue e).run P w=.ok zv w)/\∀C,Rep C z zv:=by
 unfold zeroOf at hz;rw[hu]at hz;simp only[Zd]at hz;obtain⟨i,h1,zv,h2,h3⟩:=hz;exact⟨zv,fun w=>by simp[zeroValue,typeInfo,h1,h2],fun C=>bjx h3⟩
theorem dq1{t:TypeId}{m k:Operand}{ok:Bool}{z u v r:A}(hI:Inv G C h)(hop:o.op=.lookup t m k ok)(hm:mapB P t=true)(hz:zeroOf P t=some z)(hx:Rep C u (a.eval m))(hy:Rep C v (a.eval k))(hg:mgetA h z ok u v=some r):OpOk P G C a o r h:=by
 obtain⟨q,e,kk,hu,hq⟩:=bqh hm;obtain⟨zv,hz1,hz2⟩:=cjx hu hz;have fin:∀(x:A) (xv:Value) (b:Bool),Rep C x xv->r=(if ok then .tup [x,.bool b]else x)->(Instr.lookup t (a.eval m) (a.eval k) ok).run P C.w=.ok (if ok then .tuple #[xv,.bool b]else xv) C.w->OpOk P G C a o r h:=fun x xv b h1 h2 h3=>by
  subst h2;refine azs (cv:=if ok then .tuple #[xv,.bool b]else xv) hI ?_ ?_
  ·unfold execOp;simp only[hop,Sem.run_bind,h3,Result.andThen_ok];rfl
  ·cases ok
   ·exact h1
   ·exact rep_tup.2 ⟨[xv,.bool b],rfl,repL_cons.2 ⟨_,_,rfl,h1,repL_cons.2 ⟨_,_,rfl,aqn.2 rfl,azp.2 rfl⟩⟩⟩
 have hck:∀b n,(Instr.checkKey b 10000 q (.int .i64 n)).run P C.w=.ok () C.w:=fun b n=>run_checkKey C.w b 9999 n hq
 unfold mgetA at hg;split at hg
 ·next n=>
  rw[axw]at hx;rw[rep_int]at hy;simp only[Zc,mgetV,YD,Zac]at hg;refine fin z zv false (hz2 C) hg.symm ?_;rw[hx,hy];have hf:=run_findKey (P:=P) C.w n [] none hq rfl;simp[Instr.lookup,run_underlying hu,hck,hf,hz1,Result.andThen]
 ·next i n=>
  obtain⟨hx,hi⟩:=rep_mp.1 hx;rw[rep_int]at hy;split at hg
  ·next es c hb=>
   obtain⟨es',k1,k2,k3⟩:=hI.box i _ hb;simp only[Zc]at hg;rcases bqm (k:=kk) n es es'.toList 0 k2 with⟨e1,e2⟩|⟨x,j,en,e1,e2,e3,e4,e5,e6,e7⟩
   ·rw[e1]at hg;simp only[mgetV,YD,Zac]at hg;refine fin z zv false (hz2 C) hg.symm ?_;rw[hx,hy];have hf:=run_findKey (P:=P) C.w n es'.toList none hq e2;simp[Instr.lookup,run_underlying hu,aqa k1,hck,hf,hz1,Result.andThen]
   ·rw[e1]at hg;simp only[mgetV,Yb,Zai]at hg;refine fin x en.val true e5 hg.symm ?_;rw[hx,hy];have hf:=run_findKey (P:=P) C.w n es'.toList _ hq e2;simp[Instr.lookup,run_underlying hu,aqa k1,hck,hf,Result.andThen]
  ·cases hg
 ·cases hg
theorem dq3{t:TypeId}{c:Call}{m:Operand}{u r:A}{T:TypeId}{e q:TypeId}(hI:Inv G C h)(hop:o.op=.call c)(hcal:c.callee=.builtin .len)(ha:c.args=#[m])(hty:c.argTypes=#[T])(hu:P.underlying T=some (.map q e))(hx:Rep C u (a.eval m))(hg:mlenA h u=some r):OpOk P G C a o r h:=by
 have key:∃n:Nat,r=.int .i64 n/\(Builtin.len_ #[T] o.type #[a.eval m]).run P C.w=.ok (.int .i64 n) C.w:=by
  unfold mlenA at hg;split at hg
  ·rw[axw]at hx;simp only[Zc]at hg;refine⟨0,hg.symm,?_⟩;rw[hx];simp[Builtin.len_,run_underlying hu,goInt]
  ·next i=>
   obtain⟨hx,hi⟩:=rep_mp.1 hx;split at hg
   ·next es c hb=>
    obtain⟨es',k1,k2,k3⟩:=hI.box i _ hb;simp only[Zc]at hg;have hl:es'.size=es.length:=by
     have:∀(l:List (Int×A)) (es:List MapEntry),RepEs C l es->es.length=l.length:=by
      intro l;induction l with
      |nil=>intro es h;have:es=[]:=h;simp[this]
      |cons x l ih=>
       intro es h;obtain⟨e,es',rfl,_,_,h4⟩:=h;simp[ih _ h4]
     simpa using this _ _ k2
    refine⟨es.length,hg.symm,?_⟩;rw[hx];simp[Builtin.len_,run_underlying hu,aqa k1,hl,goInt]
   ·cases hg
  ·cases hg
 obtain⟨n,rfl,h1⟩:=key;refine azs hI ?_ (rep_int.2 rfl);unfold execOp;simp[hop,resolve,hcal,ha,hty,invoke,builtin,h1]
theorem bzv{i:Nat}{l l':List (Int×A)}{c c':Nat}{es:Array MapEntry}(es':Array MapEntry)(hI:Inv G C h)(hb:h.b[i]?=some (.map l c))(h1:C.w.heap[C.κ i]?=some (.map es c))
  (h2:RepEs C l' es'.toList) (h3:BornOk es'.toList c'):∃C':Ctx,C'.w={ C.w with heap:=C.w.heap.setIfInBounds (C.κ i) (.map es' c') }/\Inv G C' ⟨h.b.set i (.map l' c'),h.t⟩/\Step C C':=by
 have hi:i<C.nb:=by rw[<-hI.nb];exact(Zb.1 hb).1
 have hk:C.κ i<C.w.heap.size:=(ZS.1 h1).1
 obtain⟨k1,k2⟩:=aqx (w':={ C.w with heap:=C.w.heap.setIfInBounds (C.κ i) (.map es' c') }) (i:=i) (b':=.map l' c') false hI hb rfl rfl rfl rfl (by simp) (fun g hg ho=>by
   have hne:C.κ i≠g:=fun e=>ho (by rw[<-e];exact hI.ok hb rfl)
   show(C.w.heap.setIfInBounds (C.κ i) (.map es' c'))[g]?=_
   rw[Array.getElem?_setIfInBounds_ne hne]) (fun hS=>by
   refine⟨es',?_,h2.ext hS.ext,h3⟩;show(C.w.heap.setIfInBounds (C.κ i) (.map es' c'))[C.κ i]?=_
   rw[Array.getElem?_setIfInBounds_self_of_lt hk])
 exact⟨_,rfl,k1,k2⟩
theorem bqz{es:List MapEntry}{c:Nat}(hb:BornOk es c)(j:Nat)(f:MapEntry->MapEntry)(hf:∀e,(f e).born=e.born):BornOk (es.modify j f) c:=by
 have e:(es.modify j f).map (·.born)=es.map (·.born):=by
  have key:∀(l:List MapEntry) (j:Nat),(l.modify j f).map (·.born)=l.map (·.born):=by
   intro l;induction l with
   |nil=>intro j;cases j<;>simp
   |cons x l ih=>intro j;cases j<;>simp[ih,hf]
  exact key es j
 refine⟨by rw[e];exact hb.1,fun x hx=>?_⟩;have:x.born∈(es.modify j f).map (·.born):=ZW.2 ⟨x,hx,rfl⟩;rw[e]at this;obtain⟨y,hy,e2⟩:=ZW.1 this;rw[<-e2];exact hb.2 y hy
theorem bjy{es:List MapEntry}{c:Nat}(hb:BornOk es c)(j:Nat):BornOk (es.eraseIdx j) c:=
 ⟨hb.1.sublist ((List.eraseIdx_sublist es j).map _),fun x hx=>hb.2 x (List.mem_of_mem_eraseIdx hx)⟩
theorem bkg{es:List MapEntry}{c:Nat}(hb:BornOk es c)(k v:Value):BornOk (es++[{ key:=k,val:=v,born:=c }]) (c+1):=by
 refine⟨?_,fun x hx=>?_⟩
 ·rw[Z6,List.nodup_append];refine⟨hb.1,by simp,fun a ha b hb'=>?_⟩;simp at hb';obtain⟨y,hy,rfl⟩:=ZW.1 ha;have:=hb.2 y hy;omega
 ·rcases Yk.1 hx with hx|hx
  ·exact Nat.lt_succ_of_lt (hb.2 x hx)
  ·simp at hx;subst hx;exact Nat.lt_succ_self _
theorem bj7(w:World)(n:Int):(Instr.keyThatStays (.int .i64 n) (.int .i64 n)).run P w=.ok (.int .i64 n) w:=by
 simp[Instr.keyThatStays,Instr.sameBits]
theorem bzi(es:Array MapEntry)(j:Nat)(f:MapEntry->MapEntry):(es.modify j f).toList=es.toList.modify j f:=by simp
theorem dqm{t:TypeId}{m k x:Operand}{u v y:A}{h':Hp}(hI:Inv G C h)(hop:o.op=.mapUpdate t m k x)(hm:mapB P t=true)(hx:Rep C u (a.eval m))(hy:Rep C v (a.eval k))(hv:Rep C y (a.eval x))(hg:msetA h y u v=some h'):OpOk P G C a o (.tup []) h':=by
 obtain⟨q,e,kk,hu,hq⟩:=bqh hm;have hck:∀b n,(Instr.checkKey b 10000 q (.int .i64 n)).run P C.w=.ok () C.w:=fun b n=>run_checkKey C.w b 9999 n hq
 unfold msetA at hg;split at hg
 ·next i n=>
  obtain⟨hx,hi⟩:=rep_mp.1 hx;rw[rep_int]at hy;split at hg
  ·next es c hb=>
   obtain⟨es',k1,k2,k3⟩:=hI.box i _ hb;simp only[Zc]at hg;subst hg;have fin:∀(es2:Array MapEntry) (c2:Nat),c2=mclock n es c->RepEs C (mput n y es) es2.toList->BornOk es2.toList c2->(Instr.mapUpdate t (a.eval m) (a.eval k) (a.eval x)).run P C.w=.ok () { C.w with heap:=C.w.heap.setIfInBounds (C.κ i) (.map es2 c2) }->OpOk P G C a o (.tup []) ⟨h.b.set i (.map (mput n y es) (mclock n es c)),h.t⟩:=fun es2 c2 hc2 q1 q2 q3=>by
    subst hc2;obtain⟨C',r1,r2,r3⟩:=bzv es2 hI hb k1 q1 q2;refine⟨C',undef,.inr ⟨?_,rfl⟩,r2,r3,rep_tup.2 ⟨[],rfl,azp.2 rfl⟩⟩;rw[r1];unfold execOp;simp only[hop,Sem.run_bind,q3,Result.andThen_ok,Sem.run_pure]
   rw[hx,hy]at fin;rcases bqm (k:=kk) n es es'.toList 0 k2 with⟨e1,e2⟩|⟨z,j,en,e1,e2,e3,e4,e5,e6,e7⟩
   ·have hf:=run_findKey (P:=P) C.w n es'.toList none hq e2;refine fin (es'.push { key:=.int .i64 n,val:=a.eval x,born:=c }) (c+1) (by unfold mclock;rw[e1];rfl) ?_ ?_ ?_
    ·rw[Array.toList_push];exact cyi n es es'.toList y _ c k2 e1 hv
    ·rw[Array.toList_push];exact bkg k3 _ _
    ·simp[Instr.mapUpdate,run_underlying hu,aqa k1,hck,hf,MapKept.run_setObj_map _ k1,Result.andThen]
   ·have hf:=run_findKey (P:=P) C.w n es'.toList _ hq e2;have hj:es'[j]?=some en:=by simpa using e3
    have hks:=bj7 (P:=P) C.w n;rw[Yj]at hf;refine fin (es'.modify j fun e=>{ e with key:=.int .i64 n,val:=a.eval x }) c (by unfold mclock;rw[e1];rfl) ?_ ?_ ?_
    ·rw[bzi];exact e6 y _ hv
    ·rw[bzi];exact bqz k3 j _ fun _=>rfl
    ·simp[Instr.mapUpdate,run_underlying hu,aqa k1,hck,hf,hj,e4,hks,MapKept.run_setObj_map _ k1,Result.andThen]
  ·cases hg
 ·cases hg
theorem dqt{c:Call}{m k:Operand}{u v:A}{h':Hp}{T:TypeId}{Ts:List TypeId}(hI:Inv G C h)(hop:o.op=.call c)(hcal:c.callee=.builtin .delete)(ha:c.args=#[m,k])(hty:c.argTypes.toList=T::Ts)(hm:mapB P T=true)(hx:Rep C u (a.eval m))(hy:Rep C v (a.eval k))(hg:mdelA h u v=some h'):OpOk P G C a o (.tup []) h':=by
 obtain⟨q,e,kk,hu,hq⟩:=bqh hm;have hck:∀b n,(Instr.checkKey b 10000 q (.int .i64 n)).run P C.w=.ok () C.w:=fun b n=>run_checkKey C.w b 9999 n hq
 have hT:c.argTypes[0]?=some T:=by rw[<-Array.getElem?_toList,hty];rfl
 unfold mdelA at hg;split at hg
 ·next i n=>
  obtain⟨hx,hi⟩:=rep_mp.1 hx;rw[rep_int]at hy;split at hg
  ·next es c0 hb=>
   obtain⟨es',k1,k2,k3⟩:=hI.box i _ hb;simp only[Zc]at hg;subst hg;have fin:∀(es2:Array MapEntry),RepEs C (merase n es) es2.toList->BornOk es2.toList c0->(Builtin.delete_ c.argTypes o.type #[a.eval m,a.eval k]).run P C.w=.ok (.tuple #[]) { C.w with heap:=C.w.heap.setIfInBounds (C.κ i) (.map es2 c0) }->OpOk P G C a o (.tup []) ⟨h.b.set i (.map (merase n es) c0),h.t⟩:=fun es2 q1 q2 q3=>by
    obtain⟨C',r1,r2,r3⟩:=bzv es2 hI hb k1 q1 q2;refine⟨C',.tuple #[],.inl ?_,r2,r3,rep_tup.2 ⟨[],rfl,azp.2 rfl⟩⟩;rw[r1];unfold execOp;simp[hop,resolve,hcal,ha,invoke,builtin,q3]
   rw[hx,hy]at fin;rcases bqm (k:=kk) n es es'.toList 0 k2 with⟨e1,e2⟩|⟨z,j,en,e1,e2,e3,e4,e5,e6,e7⟩
   ·have hf:=run_findKey (P:=P) C.w n es'.toList none hq e2;have he:merase n es=es:=by
     have key:∀l:List (Int×A),mfind n l=none->merase n l=l:=by
      intro l;induction l with
      |nil=>intro _;rfl
      |cons p l ih=>
       intro hp;obtain⟨k,w⟩:=p;have hne:n≠k:=by intro e;simp[mfind,e]at hp
       simp only[mfind,if_neg hne]at hp;simp only[merase,if_neg hne,ih hp]
     exact key es e1
    refine fin es' (by rw[he];exact k2) k3 ?_;simp[Builtin.delete_,hT,run_underlying hu,aqa k1,hck,hf,MapKept.run_setObj_map _ k1,Result.andThen]
   ·have hf:=run_findKey (P:=P) C.w n es'.toList _ hq e2;rw[Yj]at hf;refine fin (es'.eraseIdxIfInBounds j) ?_ ?_ ?_
    ·rw[Array.toList_eraseIdxIfInBounds];exact e7
    ·rw[Array.toList_eraseIdxIfInBounds];exact bjy k3 j
    ·simp[Builtin.delete_,hT,run_underlying hu,aqa k1,hck,hf,MapKept.run_setObj_map _ k1,Result.andThen]
  ·cases hg
 ·cases hg
theorem dq9{c:Call}{m:Operand}{u:A}{h':Hp}{T:TypeId}{Ts:List TypeId}(hI:Inv G C h)(hop:o.op=.call c)(hcal:c.callee=.builtin .clear)(ha:c.args=#[m])(hty:c.argTypes.toList=T::Ts)(hm:mapB P T=true)(hx:Rep C u (a.eval m))(hg:mclrA h u=some h'):OpOk P G C a o (.tup []) h':=by
 obtain⟨q,e,kk,hu,hq⟩:=bqh hm;have hT:c.argTypes[0]?=some T:=by rw[<-Array.getElem?_toList,hty];rfl
 unfold mclrA at hg;split at hg
 ·next i=>
  obtain⟨hx,hi⟩:=rep_mp.1 hx;split at hg
  ·next es c0 hb=>
   obtain⟨es',k1,k2,k3⟩:=hI.box i _ hb;simp only[Zc]at hg;subst hg;obtain⟨C',r1,r2,r3⟩:=bzv (l':=[]) (c':=c0) #[] hI hb k1 rfl ⟨by simp,by simp⟩;refine⟨C',.tuple #[],.inl ?_,r2,r3,rep_tup.2 ⟨[],rfl,azp.2 rfl⟩⟩;rw[r1];unfold execOp;simp[hop,resolve,hcal,ha,invoke,builtin,Builtin.clear_,hT,hx,run_underlying hu,aqa k1,MapKept.run_setObj_map _ k1]
  ·cases hg
 ·cases hg
end
end AX
end
end Go.Proofs.YthhpocnmfknalaaGreatDoor
