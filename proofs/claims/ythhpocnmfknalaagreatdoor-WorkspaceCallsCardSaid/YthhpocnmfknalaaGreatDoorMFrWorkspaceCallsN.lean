/- Part of what the proof needs. -/
import Derived.Test.YthhpocnmfknalaaGreatDoorMFrWorkspaceCallsF
import Derived.Test.YthhpocnmfknalaaGreatDoorMFrWorkspaceCallsH
import Derived.Test.YthhpocnmfknalaaGreatDoorMFrWorkspaceCallsL
import Derived.Test.YthhpocnmfknalaaGreatDoorCards
import Derived.Test.YthhpocnmfknalaaGreatDoorTie
import Derived.ProofKit
import Derived.OpenShut
import Derived.ShutString
import Derived.ChangeOld
import Derived.Deep.DeepHandedRow
import Derived.Lib.LaidU8
import Derived.MakeChecks
set_option maxHeartbeats 4000000
set_option maxRecDepth 100000
set_option linter.all false
namespace Go.Proofs.YthhpocnmfknalaaGreatDoor
section
open Go.RowKit
def strsA(l:List (List UInt8)):List (List AX.A):=l.map fun s=>[.str s]
mutual
def V.cells:V->List AX.A
 |.mk k n s is ks=>[.int .i64 k,.int .i64 n,.str s,.sl 5 .no (V.cellss is),.sl 1 .no (strsA ks)]
def V.cellss:List V->List (List AX.A)
 |[]=>[]
 |v::l=>v.cells::V.cellss l
end
def V.A(v:V):AX.A:=.agg v.cells
theorem V.cellss_map:∀l:List V,V.cellss l=l.map V.cells
 |[]=>rfl
 |v::l=>by rw[V.cellss,V.cellss_map l];rfl
theorem V.cellss_length(l:List V):(V.cellss l).length=l.length:=by rw[V.cellss_map];simp
theorem azd(l:List (List UInt8)):(strsA l).length=l.length:=by simp[strsA]
theorem az5(l:List (List UInt8))(i:Nat)(h:i<l.length):(strsA l).getD i []=[.str l[i]]:=by simp[strsA,List.getD,h]
theorem V.cellss_get(l:List V)(i:Nat)(h:i<l.length):(V.cellss l).getD i []=l[i].cells:=by rw[V.cellss_map];simp[List.getD,h]
theorem V.pure(v:V):v.A.pure=true:=by cases v;unfold V.A V.cells;rfl
mutual
def V.lens:V->Prop
 |.mk k n s is ks=>is.length<=maxLen/\ks.length<=maxLen/\s.length<=maxLen/\(∀q∈ks,q.length<=maxLen)/\V.lensS is
def V.lensS:List V->Prop
 |[]=>True
 |v::l=>v.lens/\V.lensS l
end
theorem V.lensS_mem:∀{l:List V},V.lensS l->∀x∈l,x.lens
 |[],_=>by simp
 |v::l,h=>by
  unfold V.lensS at h;exact Y7.2 ⟨h.1,V.lensS_mem h.2⟩
theorem V.lens_mk{k n:Int}{s:List UInt8}{is:List V}{ks:List (List UInt8)}(h:(V.mk k n s is ks).lens):is.length<=9223372036854775807/\ks.length<=9223372036854775807/\s.length<=9223372036854775807/\(∀x∈is,x.lens):=by
 unfold V.lens at h;simp only[maxLen]at h;exact⟨by omega,by omega,by omega,V.lensS_mem h.2.2.2.2⟩
def IfaceAt(g:Nat)(w:World):Prop:=∃ev,w.cell? ⟨g,0,none⟩=some ev/\(ev=.nilIface\/∃te pe,ev=.iface te pe)
structure GT(w:World):Prop where
 tabs:Lib.Utf8Tabs 1 2 w
 esyn:IfaceAt 3 w
 erng:IfaceAt 4 w
 tz:w.cell? ⟨7,15,none⟩=some (.int .u8 4)
namespace AX
abbrev AT(f:FuncId)(l:List A)(h:Hp)(x:A):Prop:=ACall Tryz.prog GT f l h fun v h'=>v=x/\h'=h
abbrev AC:=ACall Tryz.prog GT
theorem Fn{v:A}{Q:A->Prop}(h:Q v):∃a,le v a/\Q a:=⟨_,le_refl _,h⟩
theorem mixedT:Tryz.prog.follows Departure.mixedOrders=true:=by kernel_rfl
theorem fo{G:World->Prop}{f:FuncId}{args:List A}{h:Hp}{Q:A->Hp->Prop}{n:Nat}{code:ACode}{res:List ARes}(k:awp Tryz.prog G code (finQ res Q) (initTs args) h)(hc:compFn Tryz.prog f=some ⟨n,code,res⟩:=by set_option maxRecDepth 1000000 in (conv=>lhs;cbv))(hl:args.length<=n:=by simp):ACall Tryz.prog G f args h Q:=azf mixedT hc hl k
theorem aj3{x:A}{v:Value}(h:∀C c,Rep C x c->c=v):∀C cs,RepL C [x] cs->cs=[v]:=fun C cs hr=>by
 obtain⟨c,cs',rfl,h1,h2⟩:=repL_cons.1 hr;rw[azp]at h2;subst h2;rw[h C c h1]
theorem cza{x y:A}{v u:Value}(h:∀C c,Rep C x c->c=v)(h':∀C c,Rep C y c->c=u):∀C cs,RepL C [x,y] cs->cs=[v,u]:=fun C cs hr=>by
 obtain⟨c,cs',rfl,h1,h2⟩:=repL_cons.1 hr;rw[aj3 h' C cs' h2,h C c h1]
theorem axh{l:List UInt8}:∀C c,Rep C (.str l) c->c=.string ⟨l.toArray⟩:=fun C c h=>rep_str.1 h
theorem by1{k:IntKind}{n:Int}:∀C c,Rep C (.int k n) c->c=.int k n:=fun C c h=>rep_int.1 h
theorem bkf(s:List UInt8)(hl:s.length<=2000000)(h:Hp):ACall Tryz.prog GT 79 [.str s] h fun v h'=>v=.bool (Str.valid s)/\h'=h:=
 azu (aj3 axh) (fun w hg=>bju ⟨s.toArray⟩ w (by rw[size_mk];exact hl) hg.tabs) (fun C=>aqn.2 rfl) h
theorem cxm(s:List UInt8)(h:Hp):ACall Tryz.prog GT 72 [.str s] h fun v h'=>v=.int .i64 (Val.textZ s)/\h'=h:=
 azu (aj3 axh) (fun w hg=>cw0 s w hg.tabs) (fun C=>rep_int.2 rfl) h
theorem cz6(s:List UInt8)(h:Hp):ACall Tryz.prog GT 142 [.str s] h fun v h'=>v=.int .i64 (Val.textZ s)/\h'=h:=
 azu (aj3 axh) (fun w hg=>bkj s w) (fun C=>rep_int.2 rfl) h
theorem cwx(n:Int)(h:Hp):ACall Tryz.prog GT 71 [.int .i64 n] h fun v h'=>v=.bool (decide (-9007199254740992<=n/\n<=9007199254740992))/\h'=h:=
 azu (aj3 by1) (fun w hg=>(ax1 n w).mono fun e w' ⟨h1,h2⟩=>⟨h1,by rw[h2];exact Below.refl _ _⟩) (fun C=>aqn.2 rfl) h
theorem bja(n:Int)(h:Hp):ACall Tryz.prog GT 141 [.int .i64 n] h fun v h'=>v=.bool (decide (-9007199254740992<=n/\n<=9007199254740992))/\h'=h:=
 azu (aj3 by1) (fun w hg=>(awq n w).mono fun e w' ⟨h1,h2⟩=>⟨h1,by rw[h2];exact Below.refl _ _⟩) (fun C=>aqn.2 rfl) h
theorem ayy(dst:List UInt8)(n:Int)(hd:dst.length<=1000000000)(h0:-9223372036854775808<=n)(h1:n<=9223372036854775807)(h:Hp):ACall Tryz.prog GT 185 [.str dst,.int .i64 n] h fun v h'=>v=.str (dst++Wire.num n)/\h'=h:=
 azu (cza axh by1) (fun w hg=>akk dst n w hd h0 h1) (fun C=>rep_str.2 rfl) h
theorem cv2(k n:Int)(s:List UInt8)(o o':Own)(W W':Nat)(rs rs':List (List A))(h:Hp):ACall Tryz.prog GT 70 [.agg [.int .i64 k,.int .i64 n,.str s,.sl W o rs,.sl W' o' rs']] h fun v h'=>v=.bool (Val.shapedB k n s rs.length rs'.length)/\h'=h:=by
 intro C cs hI ha;obtain⟨c,cs',rfl,h1,h2⟩:=repL_cons.1 ha;rw[azp]at h2;subst h2;obtain⟨ds,rfl,h3⟩:=rep_agg.1 h1;obtain⟨c0,d0,rfl,e0,h3⟩:=repL_cons.1 h3;obtain⟨c1,d1,rfl,e1,h3⟩:=repL_cons.1 h3;obtain⟨c2,d2,rfl,e2,h3⟩:=repL_cons.1 h3;obtain⟨c3,d3,rfl,e3,h3⟩:=repL_cons.1 h3;obtain⟨c4,d4,rfl,e4,h3⟩:=repL_cons.1 h3;rw[azp]at h3;subst h3;rw[rep_int]at e0 e1;rw[rep_str]at e2;subst e0;subst e1;subst e2;obtain⟨a,ca,rfl,_⟩:=rep_sl.1 e3;obtain⟨b,cb,rfl,_⟩:=rep_sl.1 e4;refine(byb k n s a b rs.length ca rs'.length cb C.w).mono ?_;rintro e w' ⟨rfl,hb⟩;obtain⟨i1,s1⟩:=aq8 hI hb;exact⟨C.at w',h,_,_,rfl,rfl,i1,s1,aqn.2 rfl,rfl,rfl⟩
theorem bkk(k n:Int)(s:List UInt8)(o o':Own)(W W':Nat)(rs rs':List (List A))(h:Hp):ACall Tryz.prog GT 140 [.agg [.int .i64 k,.int .i64 n,.str s,.sl W o rs,.sl W' o' rs']] h fun v h'=>v=.bool (Val.shapedB k n s rs.length rs'.length)/\h'=h:=by
 intro C cs hI ha;obtain⟨c,cs',rfl,h1,h2⟩:=repL_cons.1 ha;rw[azp]at h2;subst h2;obtain⟨ds,rfl,h3⟩:=rep_agg.1 h1;obtain⟨c0,d0,rfl,e0,h3⟩:=repL_cons.1 h3;obtain⟨c1,d1,rfl,e1,h3⟩:=repL_cons.1 h3;obtain⟨c2,d2,rfl,e2,h3⟩:=repL_cons.1 h3;obtain⟨c3,d3,rfl,e3,h3⟩:=repL_cons.1 h3;obtain⟨c4,d4,rfl,e4,h3⟩:=repL_cons.1 h3;rw[azp]at h3;subst h3;rw[rep_int]at e0 e1;rw[rep_str]at e2;subst e0;subst e1;subst e2;obtain⟨a,ca,rfl,_⟩:=rep_sl.1 e3;obtain⟨b,cb,rfl,_⟩:=rep_sl.1 e4;refine(bzu k n s a b rs.length ca rs'.length cb C.w).mono ?_;rintro e w' ⟨rfl,hb⟩;obtain⟨i1,s1⟩:=aq8 hI hb;exact⟨C.at w',h,_,_,rfl,rfl,i1,s1,aqn.2 rfl,rfl,rfl⟩
def rdr(r:Wire.St):Blk:=.cells 164 [.str r.rest,.int .i64 r.e,.bool true]
theorem dj9{r:Wire.St}:∀C es,RepL C [.str r.rest,.int .i64 r.e,.bool true] es->es=[.string ⟨r.rest.toArray⟩,.int .i64 r.e,.bool true]:=fun C es h=>by
 obtain⟨c0,d0,rfl,e0,h⟩:=repL_cons.1 h;obtain⟨c1,d1,rfl,e1,h⟩:=repL_cons.1 h;obtain⟨c2,d2,rfl,e2,h⟩:=repL_cons.1 h;rw[azp]at h;subst h;rw[rep_str.1 e0,rep_int.1 e1,aqn.1 e2]
theorem dje{r:Wire.St}(C:Ctx):RepL C [.str r.rest,.int .i64 r.e,.bool true] [.string ⟨r.rest.toArray⟩,.int .i64 r.e,.bool true]:=
 repL_cons.2 ⟨_,_,rfl,rep_str.2 rfl,repL_cons.2 ⟨_,_,rfl,rep_int.2 rfl,repL_cons.2 ⟨_,_,rfl,aqn.2 rfl,azp.2 rfl⟩⟩⟩
theorem cx4{f:FuncId}{extra:List A}{ecs:List Value}{v:A}{cv:Value}{r r':Wire.St}(hargs:∀C es,RepL C extra es->es=ecs)(hv:∀C,Rep C v cv)
  (hc:∀g w,Rdr w g r->Calls Tryz.prog f (.pointer (some ⟨g,0,none⟩)::ecs).toArray w fun e w'=>e=.returned cv/\Rdr w' g r'/\w.grownBy w' (some g)) {h:Hp} {i:Nat} (hb:h.b[i]?=some (rdr r)):
  ACall Tryz.prog GT f (.ptr i 0::extra) h fun v' h'=>v'=v/\h'=⟨h.b.set i (rdr r'),h.t⟩:=
 cqe hargs dj9 dje hv (fun w g hw=>hc g w hw) hb
theorem cke:∀C es,RepL C [] es->es=[]:=fun C es h=>azp.1 h
theorem axr{h:Hp}{i:Nat}{r:Wire.St}(hb:h.b[i]?=some (rdr r))(hl:r.rest.length<=100000000):ACall Tryz.prog GT 89 [.ptr i 0] h fun v h'=>v=.int .i64 (Wire.numR r).2/\h'=⟨h.b.set i (rdr (Wire.numR r).1),h.t⟩:=
 cx4 cke (fun C=>rep_int.2 rfl) (fun g w hw=>czm g r w hw hl) hb
theorem avl{h:Hp}{i:Nat}{r:Wire.St}(hb:h.b[i]?=some (rdr r))(hl:r.rest.length<=100000000):ACall Tryz.prog GT 127 [.ptr i 0] h fun v h'=>v=.str (Wire.strR r).2/\h'=⟨h.b.set i (rdr (Wire.strR r).1),h.t⟩:=
 cx4 cke (fun C=>rep_str.2 rfl) (fun g w hw=>byx g r w hw hl) hb
theorem bz6{h:Hp}{i:Nat}{r:Wire.St}(hb:h.b[i]?=some (rdr r))(hl:r.rest.length<=100000000):ACall Tryz.prog GT 128 [.ptr i 0,.int .i64 1] h fun v h'=>v=.int .i64 ((Wire.cntR r 1).2:Nat)/\h'=⟨h.b.set i (rdr (Wire.cntR r 1).1),h.t⟩:=
 cx4 (aj3 by1) (fun C=>rep_int.2 rfl) (fun g w hw=>count_any g r w hw hl) hb
theorem set_self{h:Hp}{i:Nat}{b:Blk}(hb:h.b[i]?=some b):(⟨h.b.set i b,h.t⟩:Hp)=h:=by
 have hi:i<h.b.length:=(Zb.1 hb).1;have:h.b.set i b=h.b:=by
  apply List.ext_getElem?;intro j;rw[Zm];by_cases e:i=j
  ·subst e;rw[if_pos rfl,if_pos hi,hb]
  ·rw[if_neg e]
 rw[this]
theorem djk{h:Hp}{i:Nat}{r:Wire.St}(hb:h.b[i]?=some (rdr r)):ACall Tryz.prog GT 92 [.ptr i 0] h fun v h'=>v=.int .i64 r.rest.length/\h'=h:=by
 have:=cx4 (v:=.int .i64 r.rest.length) (r':=r) cke (fun C=>rep_int.2 rfl) (fun g w hw=>(cv9 g r w hw).mono fun e w' ⟨h1,h2⟩=>⟨h1,by rw[h2];exact hw,by rw[h2];exact avx w _⟩) hb;rw[set_self hb]at this;exact this
theorem czj{h:Hp}{i:Nat}{r:Wire.St}(hb:h.b[i]?=some (rdr r)):ACall Tryz.prog GT 122 [.ptr i 0] h fun v h'=>v=.int .i64 r.e/\h'=h:=by
 have:=cx4 (v:=.int .i64 r.e) (r':=r) cke (fun C=>rep_int.2 rfl) (fun g w hw=>(dzl g r w hw).mono fun e w' ⟨h1,h2⟩=>⟨h1,by rw[h2];exact hw,by rw[h2];exact avx w _⟩) hb;rw[set_self hb]at this;exact this
def wtr(ver:Int)(l:List UInt8):Blk:=.opq (fun F g w=>WF F g ver l w) (fun o=>if o=2 then some (.int .i64 ver)else none)
def dead:Blk:=.opq (fun _ _ _=>True) (fun _=>none)
def Wt(h:Hp)(i:Nat)(ver:Int)(l:List UInt8):Prop:=h.b[i]?=some (wtr ver l)\/(l=[]/\h.b[i]?=some (.cells 194 [.nilp,.sl 0 .nil [],.int .i64 ver]))
theorem WF.stable{F:Nat->Prop}{b:Nat}{ver:Int}{l:List UInt8}{w w':World}(h:WF F b ver l w)(hs:∀g,F g->w'.heap[g]?=w.heap[g]?):WF F b ver l w':=by
 obtain⟨p,v,hp,hb,hown,hne,hF,hFk⟩:=h;refine⟨p,v,hp,(hs b hF).trans hb,⟨hown.1,?_⟩,hne,hF,hFk⟩;rcases hown.2 with h1|⟨g,cap,cur,fz,rfl,h2,h3,h4⟩
 ·exact .inl h1
 ·exact .inr ⟨g,cap,cur,fz,rfl,h2,(hs g (hFk g rfl)).trans h3,h4⟩
theorem Wt.lt{h:Hp}{i:Nat}{ver:Int}{l:List UInt8}(hw:Wt h i ver l):i<h.b.length:=by
 rcases hw with h1|⟨_,h1⟩
 ·exact(Zb.1 h1).1
 ·exact(Zb.1 h1).1
theorem Wt.live{h:Hp}{i:Nat}{ver:Int}{l:List UInt8}(hw:Wt h i ver l):∃b0:Blk,h.b[i]?=some b0/\b0.live=true:=by
 rcases hw with h1|⟨_,h1⟩<;>exact⟨_,h1,rfl⟩
theorem Wt.wf{h:Hp}{i:Nat}{ver:Int}{l:List UInt8}{C:Ctx}{G:World->Prop}(hw:Wt h i ver l)(hI:Inv G C h):WF (fun g=>C.own g=some (C.lab i)) (C.κ i) ver l C.w:=by
 have hi:i<C.nb:=by rw[<-hI.nb];exact hw.lt
 rcases hw with h1|⟨rfl,h1⟩
 ·exact(hI.box i _ h1).1 C.w (fun _ _=>rfl) (Ze _)
 ·obtain⟨cs,k1,k2⟩:=hI.box i _ h1;obtain⟨c0,d0,rfl,e0,k2⟩:=repL_cons.1 k2;obtain⟨c1,d1,rfl,e1,k2⟩:=repL_cons.1 k2;obtain⟨c2,d2,rfl,e2,k2⟩:=repL_cons.1 k2;rw[azp]at k2;subst k2;rw[az2]at e0;rw[rep_int]at e2;subst e0;subst e2;obtain⟨a,cap,rfl,_,_,e3,e4,_⟩:=rep_sl.1 e1;subst e3;subst e4;exact⟨_,_,.inl rfl,k1,⟨rfl,.inl ⟨rfl,rfl⟩⟩,by simp[Value.ownBlock],hI.ok h1 rfl,fun k hk=>by simp[Value.ownBlock]at hk⟩
theorem dzw{C:Ctx}{i:Nat}{ver:Int}{l:List UInt8}(h:WF (fun g=>C.own g=some (C.lab i)) (C.κ i) ver l C.w):BlkRep C i (wtr ver l):=by
 refine⟨fun w' hw _=>WF.stable h hw,fun o x hx=>?_⟩;have hx':(if o=2 then some (A.int .i64 ver)else none)=some x:=hx;split at hx'
 ·next e=>
  injection hx' with hx';subst hx';subst e;obtain⟨p,v,hp,hb,_⟩:=h;exact⟨_,(aqg hb).2.2.1,rep_int.2 rfl⟩
 ·cases hx'
theorem bvx{h:Hp}{i:Nat}{ver:Int}{l:List UInt8}(hw:Wt h i ver l)(s:List UInt8)(hlen:l.length+s.length<=1000000000):
  ACall Tryz.prog GT 166 [.ptr i 0,.str s] h fun v h'=>v=.tup [.int .i64 s.length,.nili]/\h'=⟨h.b.set i (wtr ver (l++s)),h.t⟩:=by
 intro C es hI ha;obtain⟨c,es',rfl,h1,h2⟩:=repL_cons.1 ha;obtain⟨rfl,hi⟩:=rep_ptr.1 h1;obtain rfl:=aj3 axh C es' h2;refine(ckf (hw.wf hI) s hlen).mono ?_;rintro e w' ⟨rfl,m1,m2⟩;have hrep:BlkRep (C.turn w' i true) i (wtr ver (l++s)):=by
  refine dzw ?_;obtain⟨p,v,hp,hb,hown,hne,hF,hFk⟩:=m1;have hlt:=(aqg hb).2.2.2.2.2;have hcl:∀k,k<w'.heap.size->(C.own k=some (C.lab i)\/C.w.heap.size<=k)->(C.turn w' i true).own k=some (C.lab i):=fun k hk hor=>by
   show(if k<C.w.heap.size then C.own k else if true=true/\k<w'.heap.size then some (C.lab i)else none)=some (C.lab i)
   split
   ·rcases hor with h3|h3
    ·exact h3
    ·omega
   ·rw[if_pos ⟨rfl,hk⟩]
  refine⟨p,v,hp,hb,hown,hne,hcl _ hlt hF,fun k hk=>hcl k ?_ (hFk k hk)⟩;rcases hown.2 with⟨rfl,_⟩|⟨g,cap,cur,fz,rfl,_,h3,_⟩
  ·simp[Value.ownBlock]at hk
  ·simp only[Value.ownBlock,Zc]at hk;subst hk;exact(ZS.1 h3).1
 obtain⟨i1,s1⟩:=aqx (b':=wtr ver (l++s)) true hI (hw.live).choose_spec.1 (hw.live).choose_spec.2 m2.os m2.tape m2.output m2.size (fun g hg hne=>m2.block g hg hne) (fun _=>hrep);exact⟨_,_,.tup [.int .i64 s.length,.nili],_,rfl,rfl,i1,s1,rep_tup.2 ⟨_,rfl,repL_cons.2 ⟨_,_,rfl,rep_int.2 rfl,repL_cons.2 ⟨_,_,rfl,bk9.2 rfl,azp.2 rfl⟩⟩⟩,rfl,rfl⟩
theorem dxj{h:Hp}{i:Nat}{ver:Int}{l:List UInt8}(hw:Wt h i ver l):ACall Tryz.prog GT 145 [.ptr i 0] h fun v h'=>v=.int .i64 l.length/\h'=h:=by
 intro C es hI ha;obtain⟨c,es',rfl,h1,h2⟩:=repL_cons.1 ha;obtain⟨rfl,hi⟩:=rep_ptr.1 h1;rw[azp]at h2;subst h2;refine(dqe (hw.wf hI).wtr).mono ?_;rintro e w' ⟨rfl,rfl⟩;exact⟨C,h,_,_,rfl,rfl,hI,Step.refl C,rep_int.2 rfl,rfl,rfl⟩
theorem cqm{h:Hp}{i:Nat}{ver:Int}{l:List UInt8}(hw:Wt h i ver l)(h0:l≠[]):ACall Tryz.prog GT 146 [.ptr i 0] h fun v h'=>v=.str l/\h'=⟨h.b.set i dead,h.t⟩:=by
 intro C es hI ha;obtain⟨c,es',rfl,h1,h2⟩:=repL_cons.1 ha;obtain⟨rfl,hi⟩:=rep_ptr.1 h1;rw[azp]at h2;subst h2;refine(cj5 (hw.wf hI) h0).mono ?_;rintro e w' ⟨rfl,m2⟩;obtain⟨i1,s1⟩:=aqx (b':=dead) false hI (hw.live).choose_spec.1 (hw.live).choose_spec.2 m2.os m2.tape m2.output m2.size (fun g hg hne=>m2.block g hg hne) (fun _=>⟨fun _ _ _=>trivial,fun o x hx=>by cases hx⟩);exact⟨_,_,.str l,_,rfl,rfl,i1,s1,rep_str.2 rfl,rfl,rfl⟩
end AX
end
section
open Go.ChangeShapes Go.WideShapes Go.ChangeAt Go.RowKit
namespace Card
theorem own:ownKnob Tryz.prog.godebug=none:=by kernel_rfl
theorem first_eq:Go.Pinned.utf8First=Lib.firstData:=by kernel_rfl
theorem accept_eq:(Rows.laid_unicode_utf8_acceptRanges:DataW Unit)=Lib.acceptData:=by kernel_rfl
theorem tz_name : Tryz.prog.globalNamed "math/bits.deBruijn64tab" = some 7 := by kernel_rfl
theorem tz_type:(Tryz.prog.globals[7]?).map (·.type)=some 284:=by kernel_rfl
theorem tz_cells:Tryz.prog.cellsOf 284=64:=by kernel_rfl
theorem tz_cell:Tryz.prog.cellsOf 5=1:=by kernel_rfl
def tab64:List Int:=[0,1,56,2,57,49,28,3,61,58,42,50,38,29,17,4,62,47,59,36,45,43,51,22,53,39,33,30,24,18,12,5,63,55,48,27,60,41,37,16,46,35,44,21,52,32,23,11,54,26,40,15,34,20,31,10,25,14,19,9,13,8,7,6]
theorem tab64_eq:(Rows.laid_math_bits_deBruijn64tab:DataW Unit)=Lib.tabData .u8 tab64:=by kernel_rfl
theorem iface_reads{P:Program}{w:World}{n:String}{g:Nat}{t:TypeId}{d:DataW Unit}{m:Array (String×TypeId)}(hg:P.globalNamed n=some g)(ht:(P.globals[g]?).map (·.type)=some t)(hu:P.underlying t=some (.interface m))(h:Lib.VarReads P w n d):IfaceAt g w:=by
 obtain⟨g',t',cs,fuel,p,h1,h2,h3,h4⟩:=h;rw[hg]at h1;injection h1 with h1;subst h1
 rw[ht]at h2;injection h2 with h2;subst h2
 have hc:=World.var?_cell hg h3 0;obtain⟨l⟩:=cs;cases fuel with
 |zero=>simp[DataW.trod]at h4
 |succ k=>
  match l,hc with
  |[],_=>simp[DataW.trod,hu]at h4
  |[.nilIface],hc=>exact⟨_,hc,.inl rfl⟩
  |[.iface u v],hc=>exact⟨_,hc,.inr ⟨u,v,rfl⟩⟩
  |v::x::l,_=>cases v<;>simp[DataW.trod,hu]at h4
  |[v],hc=>cases v<;>first|exact⟨_,hc,.inl rfl⟩|exact⟨_,hc,.inr ⟨_,_,rfl⟩⟩|simp[DataW.trod,hu]at h4
theorem tz_of {W : World} (r3 : Lib.VarReads Tryz.prog W "math/bits.deBruijn64tab" (Lib.tabData .u8 tab64)) : W.cell? ⟨7, 15, none⟩ = some (.int .u8 4) := by
 obtain⟨g,t,cs,fuel,p,hg,hty,hvar,hd⟩:=r3;obtain rfl:=Zap (tz_name.symm.trans hg);obtain rfl:=Zap (tz_type.symm.trans hty);have hcs:=Lib.cells_of_tab Tryz.underlying284 Tryz.underlying5 tz_cell tz_cells hd;have:=World.var?_cell hg hvar 15;rw[this,<-Array.getElem?_toList,hcs];rfl
theorem gt_of{W:World}(h:laidMetH Tryz.prog Rows.workspaceAgainRow.laid W):GT W:=by
 have hL:laidMet Tryz.prog Rows.workspaceAgainRow.laid W:=by
  have e:=Go.MakeChecks.laidMetH_plain Tryz.prog Rows.workspaceAgainRow.laid W (by kernel_rfl)
  rwa [e]at h
 have r1 : Lib.VarReads Tryz.prog W "unicode/utf8.first" Lib.firstData := by
  rw[<-first_eq];exact Lib.laidMet.reads hL (.tail _ (.tail _ (.tail _ (.tail _ (.tail _ (.tail _ (.head _)))))))
 have r2 : Lib.VarReads Tryz.prog W "unicode/utf8.acceptRanges" Lib.acceptData := by
  rw[<-accept_eq];exact Lib.laidMet.reads hL (.tail _ (.tail _ (.tail _ (.head _))))
 exact⟨utf8Tabs_of_reads (ρ:=Tryz.lays260_ren) Tryz.lays260 ⟨by kernel_rfl,by kernel_rfl,by kernel_rfl,by kernel_rfl,by kernel_rfl,by kernel_rfl,by kernel_rfl⟩ r1 r2,
  iface_reads (by kernel_rfl) (by kernel_rfl) Tryz.underlying216 (Lib.laidMet.reads hL (.tail _ (.tail _ (.tail _ (.tail _ (.tail _ (.head _))))))),iface_reads (by kernel_rfl) (by kernel_rfl) Tryz.underlying216 (Lib.laidMet.reads hL (.tail _ (.tail _ (.tail _ (.tail _ (.head _)))))),tz_of (by rw[<-tab64_eq];exact Lib.laidMet.reads hL (.tail _ (.head _)))⟩
def ints(k:IntKind)(l:List Int):Array Value:=(l.map fun z=>Value.int k z).toArray
def u8s(l:List Int):Array Value:=ints .u8 l
def setTab(h:Array Obj)(g:Nat)(cs:Array Value):Array Obj:=h.modify g fun
 |.cells _ t frozen=> .cells cs t frozen
 |o=>o
noncomputable def low:Nat:=(World.holding Tryz.prog default ⟨#[],#[],[]⟩).heap.size
noncomputable def laidWorld(os:Os)(args:Array Value):World:=
 { World.holding Tryz.prog os ⟨#[.cells #[.string { data:=#[118,97,108,117,101,32,111,117,116,32,111,102,32,114,97,110,103,101] }] 277,.cells #[.string { data:=#[105,110,118,97,108,105,100,32,115,121,110,116,97,120] }] 277],args,[]⟩with
  heap:=(setTab (setTab (setTab (setTab (setTab (setTab (setTab (World.holding Tryz.prog os ⟨#[.cells #[.string { data:=#[118,97,108,117,101,32,111,117,116,32,111,102,32,114,97,110,103,101] }] 277,.cells #[.string { data:=#[105,110,118,97,108,105,100,32,115,121,110,116,97,120] }] 277],args,[]⟩).heap 6 (ints .u8 [0,1,28,2,29,14,24,3,30,22,20,15,25,17,4,8,31,27,13,23,21,19,16,7,26,12,18,6,11,5,10,9])) 7 (ints .u8 [0,1,56,2,57,49,28,3,61,58,42,50,38,29,17,4,62,47,59,36,45,43,51,22,53,39,33,30,24,18,12,5,63,55,48,27,60,41,37,16,46,35,44,21,52,32,23,11,54,26,40,15,34,20,31,10,25,14,19,9,13,8,7,6])) 5 (ints .u64 [1,10,100,1000,10000,100000,1000000,10000000,100000000,1000000000,10000000000,100000000000,1000000000000,10000000000000,100000000000000,1000000000000000,10000000000000000,100000000000000000,1000000000000000000,10000000000000000000])) 2 (ints .u8 [128,191,160,191,128,159,144,191,128,143,0,0,0,0,0,0,0,0,0,0,0,0,0,0,0,0,0,0,0,0,0,0])) 4 (#[.iface 275 (.pointer (some ⟨low+0,0,none⟩))])) 3 (#[.iface 275 (.pointer (some ⟨low+1,0,none⟩))])) 1 (u8s Lib.firstTab)) }
end Card
end
section
open Go.RowKit
mutual
def D.cells:D->List AX.A
 |.int k n=>[.int k n]
 |.str l=>[.str l]
 |.bool b=>[.bool b]
 |.agg l=>D.cellsL l
 |.sl W l=>[.sl W .no (D.rows l)]
def D.cellsL:List D->List AX.A
 |[]=>[]
 |d::l=>d.cells++D.cellsL l
def D.rows:List D->List (List AX.A)
 |[]=>[]
 |d::l=>d.cells::D.rows l
end
theorem D.rows_length:∀l:List D,(D.rows l).length=l.length
 |[]=>by simp[D.rows]
 |d::l=>by simp[D.rows,D.rows_length l]
mutual
theorem D.cells_data:∀(d:D) (x:AX.A),x∈d.cells->x.data=true
 |.int k n,x,h=>by unfold D.cells at h;simp at h;subst h;rfl
 |.str l,x,h=>by unfold D.cells at h;simp at h;subst h;rfl
 |.bool b,x,h=>by unfold D.cells at h;simp at h;subst h;rfl
 |.agg l,x,h=>by unfold D.cells at h;exact D.cellsL_data l x h
 |.sl W l,x,h=>by unfold D.cells at h;simp at h;subst h;rfl
theorem D.cellsL_data:∀(l:List D) (x:AX.A),x∈D.cellsL l->x.data=true
 |[],x,h=>by unfold D.cellsL at h;simp at h
 |d::l,x,h=>by
  unfold D.cellsL at h;rcases Yk.1 h with h|h
  ·exact D.cells_data d x h
  ·exact D.cellsL_data l x h
end
namespace AX
theorem bjp{C:Ctx}:∀{l m:List A} {cs ds:List Value},RepL C l cs->RepL C m ds->RepL C (l++m) (cs++ds)
 |[],m,cs,ds,h,k=>by
  rw[azp]at h;subst h;exact k
 |x::l,m,cs,ds,h,k=>by
  obtain⟨c,cs',rfl,h1,h2⟩:=repL_cons.1 h;exact repL_cons.2 ⟨c,cs'++ds,rfl,h1,bjp h2 k⟩
theorem bjj{C:Ctx}{g:Nat}(hS:∀j,C.S g j):∀(l:List A) (c:List Value) (o:Nat),RepL C l c->(∀x∈l,x.data=true)->(∀j,j<l.length->C.w.cell? ⟨g,o+j,none⟩=c[j]?)->RepAt C l g o
 |[],c,o,h,hd,hc=>by unfold RepAt;trivial
 |x::l,c,o,h,hd,hc=>by
  obtain⟨v,c',rfl,h1,h2⟩:=repL_cons.1 h;unfold RepAt;refine⟨⟨hS o,hd x (by simp),v,by simpa using hc 0 (by simp),h1⟩,bjj hS l c' (o+1) h2 (fun y hy=>hd y (by simp[hy])) fun j hj=>?_⟩;have:=hc (j+1) (by simpa using hj);rw[show o+1+j=o+(j+1) by omega];simpa using this
mutual
theorem cjr{C:Ctx}{S:Nat->Prop}(hS:∀g,S g->∀j,C.S g j):∀(d:D) (cs:List Value),Rd C.w S d cs->RepL C d.cells cs
 |.int k n,cs,h=>by unfold Rd at h;unfold D.cells;subst h;exact repL_cons.2 ⟨_,_,rfl,rep_int.2 rfl,azp.2 rfl⟩
 |.str l,cs,h=>by unfold Rd at h;unfold D.cells;subst h;exact repL_cons.2 ⟨_,_,rfl,rep_str.2 rfl,azp.2 rfl⟩
 |.bool b,cs,h=>by unfold Rd at h;unfold D.cells;subst h;exact repL_cons.2 ⟨_,_,rfl,aqn.2 rfl,azp.2 rfl⟩
 |.agg l,cs,h=>by unfold Rd at h;unfold D.cells;exact bj0 hS l cs h
 |.sl W l,cs,h=>by
  unfold Rd at h;unfold D.cells;obtain⟨a,cap,rfl,h1,h2⟩:=h;refine repL_cons.2 ⟨_,_,rfl,rep_sl.2 ⟨a,cap,by rw[D.rows_length],by rw[D.rows_length];exact h1,bxn hS W l a 0 h2,trivial⟩,azp.2 rfl⟩
theorem bj0{C:Ctx}{S:Nat->Prop}(hS:∀g,S g->∀j,C.S g j):∀(l:List D) (cs:List Value),RdAgg C.w S l cs->RepL C (D.cellsL l) cs
 |[],cs,h=>by unfold RdAgg at h;unfold D.cellsL;exact azp.2 h
 |d::l,cs,h=>by
  unfold RdAgg at h;unfold D.cellsL;obtain⟨c1,c2,rfl,h1,h2⟩:=h;exact bjp (cjr hS d c1 h1) (bj0 hS l c2 h2)
theorem bxn{C:Ctx}{S:Nat->Prop}(hS:∀g,S g->∀j,C.S g j)(W:Nat):∀(l:List D) (a:Option Addr) (i:Nat),RdRow C.w S W l a i->RepRows C W (D.rows l) a i
 |[],a,i,h=>by unfold D.rows RepRows;trivial
 |d::l,a,i,h=>by
  unfold RdRow at h;unfold D.rows RepRows;obtain⟨⟨g,off,c,h1,h2,h3,h4,h5⟩,h6⟩:=h;have hr:=cjr hS d c h5;have hl:=azi hr;refine⟨⟨g,off,h1,by omega,bjj (hS g h2) d.cells c _ hr (D.cells_data d) fun j hj=>h4 j (by omega)⟩,bxn hS W l a (i+1) h6⟩
end
def Ctx.of(w:World):Ctx:={ w:=w,S:=fun g _=>g<w.heap.size,κ:=fun _=>0,nb:=0,τ:=fun _=>0,hw:=fun _=>none,own:=fun _=>none,base:=w.heap.size,kap:=fun _=>0,lab:=fun i=>i }
theorem inv_of{G:World->Prop}{w:World}(hG:∀w':World,(∀g,g<w.heap.size->w'.heap[g]?=w.heap[g]?)->G w'):Inv G (Ctx.of w) ⟨[],[]⟩ where
 nb:=rfl
 box:=fun i b h=>by simp at h
 ownk:=⟨fun i b h=>by simp at h,fun i j b b' h=>by simp at h⟩
 ownlt:=fun g i h=>by simp[Ctx.of]at h
 prot:=fun g j h=>⟨h,rfl,fun t E W m ht=>by simp[Ctx.of]at ht⟩
 rows:=fun t E W m h=>by simp[Ctx.of]at h
 inj:=fun t t' h=>by simp[Ctx.of]at h
 toks:=fun t=>by simp[Ctx.of]
 base:=Ze _
 glob:=hG
theorem dj2{w:World}{d:D}{cs:List Value}(h:Rd w (Old w) d cs):RepL (Ctx.of w) d.cells cs:=cjr (C:=Ctx.of w) (S:=Old w) (fun g hg j=>hg) d cs h
theorem ckn{P:Program}{G:World->Prop}{f:FuncId}{args:List A}{vs:List Value}{w:World}(hc:ACall P G f args ⟨[],[]⟩ fun v _=>v=.bool true)(hG:∀w':World,(∀g,g<w.heap.size->w'.heap[g]?=w.heap[g]?)->G w')
  (ha:RepL (Ctx.of w) args vs):Calls P f vs.toArray w fun e w'=>e=.returned (.bool true)/\Below w.heap.size w w':=by
 refine(hc (Ctx.of w) vs (inv_of hG) ha).mono ?_;rintro e w' ⟨C',h',v,cv,rfl,rfl,_,st,hr,rfl⟩;rw[aqn]at hr;subst hr;exact⟨rfl,st.os,st.tape,st.output,st.size,fun g hg=>st.frame g hg rfl fun t ht=>by simp[Ctx.of]at ht⟩
theorem cqh{a b:Nat}{w:World}(h:Lib.Utf8Tabs a b w):∀w':World,(∀g,g<w.heap.size->w'.heap[g]?=w.heap[g]?)->Lib.Utf8Tabs a b w':=by
 intro w' hw;have hlt:∀{g j:Nat} {v:Value},w.cell? ⟨g,j,none⟩=some v->g<w.heap.size:=fun {g j v} h=>(aqy h).2
 have hc:∀{g j:Nat} {v:Value},w.cell? ⟨g,j,none⟩=some v->w'.cell? ⟨g,j,none⟩=some v:=fun {g j v} h=>by
  rw[<-h];simp only[World.cell?,hw g (hlt h)]
 exact⟨fun c hcl=>hc (h.1 c hcl),fun i hi=>⟨hc (h.2 i hi).1,hc (h.2 i hi).2⟩⟩
end AX
end
section
open Go.RowKit Go.ChangeShapes Go.WideShapes
theorem aj8:∀ks:List (List UInt8),D.rows (ks.map .str)=strsA ks
 |[]=>by simp[D.rows,strsA]
 |k::ks=>by
  have:=aj8 ks;simp only[ZM,D.rows,D.cells,this];rfl
mutual
theorem V.cells_toD:∀v:V,v.toD.cells=v.cells
 |.mk k n s is ks=>by
  unfold V.toD V.cells;simp only[D.cells,D.cellsL,ZE,Zq,Zz,V.rows_toDs is,aj8]
theorem V.rows_toDs:∀l:List V,D.rows (V.toDs l)=V.cellss l
 |[]=>by unfold V.toDs D.rows V.cellss;rfl
 |v::l=>by unfold V.toDs D.rows V.cellss;rw[V.cells_toD v,V.rows_toDs l]
end
mutual
theorem V.Wf.lens:∀v:V,v.Wf->v.lens
 |.mk k n s is ks,h=>by
  unfold V.Wf at h;unfold V.lens;exact⟨h.1.2.2.2.1,h.1.2.2.2.2.1,h.1.2.2.1,h.1.2.2.2.2.2,V.Wfs.lens is h.2⟩
theorem V.Wfs.lens:∀l:List V,V.Wfs l->V.lensS l
 |[],h=>by unfold V.lensS;trivial
 |v::l,h=>by
  unfold V.Wfs at h;unfold V.lensS;exact⟨V.Wf.lens v h.1,V.Wfs.lens l h.2⟩
end
namespace AX
theorem cqk{w:World}(g:GT w):∀w':World,(∀g,g<w.heap.size->w'.heap[g]?=w.heap[g]?)->GT w':=fun w' hw=>by
 have hi:∀{n:Nat},IfaceAt n w->IfaceAt n w':=fun⟨ev,h1,h2⟩=>⟨ev,by rw[<-h1];simp only[World.cell?,hw _ (aqy h1).2],h2⟩
 exact⟨cqh g.tabs w' hw,hi g.esyn,hi g.erng,by rw[<-g.tz];simp only[World.cell?,hw _ (aqy g.tz).2]⟩
theorem bwp(a:ByteArray):Value.string a=.string ⟨a.data.toList.toArray⟩:=by simp
section
variable {H:Type} {enc:TypeId×Value->H} {w:World} {base:Nat} {spare:Nat->Bool} {held:Bool} {r:Reach} {b0:Nat} {v:Value} {d:DataW H} {p:List MemPlace}
end
end AX
end
section
open Go.RowKit
namespace AX
theorem akp{P:Program}{G:World->Prop}{ops:List AOper}{Q:AExit->Ts->Hp->Prop}{ts:Ts}{h:Hp}(m:Nat)(hb:(seqB m ops&&chainB (closeOps ops) (actsF m 0 (closeOps ops)))=true)(hp:aseq P G m 0 (flagsOf m ops) ops [] [] (Q .normal) ts h):awp P G (.reg true ops) Q ts h:=
 dqi m (Bool.and_eq_true_iff.1 hb).1 hp
theorem evp{A F:Prop}(f:F)(h:F->A:=by intro f;simp only[f]<;>with_reducible rfl):A:=h f
theorem ev0{A F:Prop}(f:F)(h:F->A:=by intro f;simp only[aq6,aqf,aqc,ayj,ayg,aqd,ax8,ajc,ajf,azk,aqh,astep,bop,uop,loadA,storeA,appA,ssliceA,eqA,eqCells,fillA,rowsA,setCells,A.cells,A.one,A.data,az4,ZK,YK,ZX,ZH,Z7,ZY,Yz,YN,Y3,Yb,YD,ZM,Yn,Ye,Z5,ZU,ZR,Zt,av4,akg,ajt,av8,av6,awv,ayc,awl,awc,ayf,aws,Zf,Zo,Zq,ZE,Zz,YT,YU,YW,Z4,Yd,Yt,Zab,Yy,Za,ZA,Nat.reduceAdd,Nat.reduceSub,Nat.reduceMul,Nat.reduceLeDiff,Nat.reduceEqDiff,Nat.reduceBEq,Yu,YJ,Int.reduceBEq,Int.reduceBNe,Int.reduceLT,Int.reduceLE,Int.reduceEq,Int.le_refl,Zan,if_true,if_false,reduceIte,ite_true,ite_false,true_and,and_true,ne_eq,Yw,YH,Zn,reduceCtorEq,and_self,Yj,Yr,Ze,Yc,Z9,and_self,decide_true,decide_false,Y9,Zag,Bool.or_true,Zaf,Zaa,YF,Zad,Bool.not_not,ay5,bjo,bxt,cxa,bz8,bqu,rowsR,ZP,List.flatten_nil,mgetA,msetA,mdelA,mclrA,mlenA,mgetV,Zai,Zac,f]<;>with_reducible rfl):A:=h f
theorem djy{A F:Prop}(f:F)(h:F->A:=by intro f;simp only[aq6,aqf,aqc,ayj,ayg,aqd,ax8,ajc,ajf,azk,aqh,astep,bop,uop,loadA,storeA,appA,ssliceA,eqA,eqCells,fillA,rowsA,setCells,A.cells,A.one,A.data,az4,ZK,YK,ZX,ZH,Z7,ZY,Yz,YN,Y3,Yb,YD,ZM,Yn,Ye,Z5,ZU,ZR,Zt,av4,akg,ajt,av8,av6,awv,ayc,awl,awc,ayf,aws,Zf,Zo,Zq,ZE,Zz,YT,YU,YW,Z4,Yd,Yt,Zab,Yy,Za,ZA,Nat.reduceAdd,Nat.reduceSub,Nat.reduceMul,Nat.reduceLeDiff,Nat.reduceEqDiff,Nat.reduceBEq,Yu,YJ,Int.reduceBEq,Int.reduceBNe,Int.reduceLT,Int.reduceLE,Int.reduceEq,Int.le_refl,Zan,if_true,if_false,reduceIte,ite_true,ite_false,true_and,and_true,ne_eq,Yw,YH,Zn,reduceCtorEq,and_self,Yj,Yr,Ze,Yc,Z9,and_self,decide_true,decide_false,Y9,Zag,Bool.or_true,Zaf,Zaa,YF,Zad,Bool.not_not,ay5,bjo,bxt,cxa,bz8,bqu,rowsR,ZP,List.flatten_nil,mgetA,msetA,mdelA,mclrA,mlenA,mgetV,Zai,Zac,f];first|with_reducible exact rfl|with_reducible exact(ay5 _).symm):A:=h f
theorem eu0{A F:Prop}(f:F)(h:F->A:=by intro f;simp only[aq6,aqf,aqc,ayj,ayg,aqd,ax8,ajc,ajf,azk,aqh,astep,bop,uop,loadA,storeA,appA,ssliceA,eqA,eqCells,fillA,rowsA,setCells,A.cells,A.one,A.data,az4,ZK,YK,ZX,ZH,Z7,ZY,Yz,YN,Y3,Yb,YD,ZM,Yn,Ye,Z5,ZU,ZR,Zt,av4,akg,ajt,av8,av6,awv,ayc,awl,awc,ayf,aws,Zf,Zo,Zq,ZE,Zz,YT,YU,YW,Z4,Yd,Yt,Zab,Yy,Za,ZA,Nat.reduceAdd,Nat.reduceSub,Nat.reduceMul,Nat.reduceLeDiff,Nat.reduceEqDiff,Nat.reduceBEq,Yu,YJ,Int.reduceBEq,Int.reduceBNe,Int.reduceLT,Int.reduceLE,Int.reduceEq,Int.le_refl,Zan,if_true,if_false,reduceIte,ite_true,ite_false,true_and,and_true,ne_eq,Yw,YH,Zn,reduceCtorEq,and_self,Yj,Yr,Ze,Yc,Z9,and_self,decide_true,decide_false,Y9,Zag,Bool.or_true,Zaf,Zaa,YF,Zad,Bool.not_not,ay5,bjo,bxt,cxa,bz8,bqu,rowsR,ZP,List.flatten_nil,mgetA,msetA,mdelA,mclrA,mlenA,mgetV,Zai,Zac,f];rw[if_pos (by first|omega|(refine⟨?_,?_⟩<;>omega)|(simp only[true_and,and_true];omega))];with_reducible rfl):A:=h f
theorem azv{A F:Prop}(f:F)(h:F->A:=by intro f;simp only[aq6,aqf,aqc,ayj,ayg,aqd,ax8,ajc,ajf,azk,aqh,astep,bop,uop,loadA,storeA,appA,ssliceA,eqA,eqCells,fillA,rowsA,setCells,A.cells,A.one,A.data,az4,ZK,YK,ZX,ZH,Z7,ZY,Yz,YN,Y3,Yb,YD,ZM,Yn,Ye,Z5,ZU,ZR,Zt,av4,akg,ajt,av8,av6,awv,ayc,awl,awc,ayf,aws,Zf,Zo,Zq,ZE,Zz,YT,YU,YW,Z4,Yd,Yt,Zab,Yy,Za,ZA,Nat.reduceAdd,Nat.reduceSub,Nat.reduceMul,Nat.reduceLeDiff,Nat.reduceEqDiff,Nat.reduceBEq,Yu,YJ,Int.reduceBEq,Int.reduceBNe,Int.reduceLT,Int.reduceLE,Int.reduceEq,Int.le_refl,Zan,if_true,if_false,reduceIte,ite_true,ite_false,true_and,and_true,ne_eq,Yw,YH,Zn,reduceCtorEq,and_self,Yj,Yr,Ze,Yc,Z9,and_self,decide_true,decide_false,Y9,Zag,Bool.or_true,Zaf,Zaa,YF,Zad,Bool.not_not,ay5,bjo,bxt,cxa,bz8,bqu,rowsR,ZP,List.flatten_nil,mgetA,msetA,mdelA,mclrA,mlenA,mgetV,Zai,Zac,f,Int.natCast_add,Int.natCast_one]<;>trivial):A:=h f
theorem bvp{A F:Prop}(f:F)(h:F->A:=by intro f;simp only[aq6,aqf,aqc,ayj,ayg,aqd,ax8,ajc,ajf,azk,aqh,astep,bop,uop,loadA,storeA,appA,ssliceA,eqA,eqCells,fillA,rowsA,setCells,A.cells,A.one,A.data,az4,ZK,YK,ZX,ZH,Z7,ZY,Yz,YN,Y3,Yb,YD,ZM,Yn,Ye,Z5,ZU,ZR,Zt,av4,akg,ajt,av8,av6,awv,ayc,awl,awc,ayf,aws,Zf,Zo,Zq,ZE,Zz,YT,YU,YW,Z4,Yd,Yt,Zab,Yy,Za,ZA,Nat.reduceAdd,Nat.reduceSub,Nat.reduceMul,Nat.reduceLeDiff,Nat.reduceEqDiff,Nat.reduceBEq,Yu,YJ,Int.reduceBEq,Int.reduceBNe,Int.reduceLT,Int.reduceLE,Int.reduceEq,Int.le_refl,Zan,if_true,if_false,reduceIte,ite_true,ite_false,true_and,and_true,ne_eq,Yw,YH,Zn,reduceCtorEq,and_self,Yj,Yr,Ze,Yc,Z9,and_self,decide_true,decide_false,Y9,Zag,Bool.or_true,Zaf,Zaa,YF,Zad,Bool.not_not,ay5,bjo,bxt,cxa,bz8,bqu,rowsR,ZP,List.flatten_nil,mgetA,msetA,mdelA,mclrA,mlenA,mgetV,Zai,Zac,forH,pastN,obsP,obsD,obsN,memN,YF,Zaa,Zaf,Bool.or_true,true_or,or_true,false_or,or_false,f]<;>exact ti):A:=h f
theorem go0{A B F:Prop}(f:F)(k:B)(h:F->B->A:=by intro f k;(repeat (first|with_reducible refine cx0 ?_|with_reducible refine dji ?_|with_reducible refine cye ?_|with_reducible refine dza ?_|with_reducible refine dqy ?_|with_reducible refine cxd ?_|with_reducible refine bv2 ?_|with_reducible refine go_ret ?_|with_reducible refine dqz ?_|with_reducible refine dqs ?_|with_reducible refine dzu ?_|with_reducible refine dq7 ?_|with_reducible refine dqw ?_|((with_reducible refine dzn ?_ ?_);exact rfl)|with_reducible refine cyb ?_|((with_reducible apply cjm);exact rfl;exact ev0 f)|((with_reducible apply cjm);exact rfl;exact eu0 f)|((with_reducible apply dz8);exact rfl;exact ev0 f)|((with_reducible apply dz8);exact rfl;exact eu0 f)|((with_reducible refine cku ?_ ?_);exact ev0 f)|((with_reducible refine go_skip ?_ ?_);exact ev0 f)|((with_reducible refine cvk ?_ ?_);exact ev0 f)|((with_reducible refine cy4 ?_ ?_);exact ev0 f)|((with_reducible apply cw6);exact ev0 f;exact rfl;exact ev0 f)|((with_reducible apply cw6);exact ev0 f;exact rfl;exact eu0 f)|((with_reducible apply cyk);exact ev0 f;exact rfl;exact ev0 f)|((with_reducible apply cyk);exact ev0 f;exact rfl;exact eu0 f)|((with_reducible refine cy3 ?_ ?_);exact ev0 f)|((with_reducible refine dqo ?_ ?_);exact ev0 f)|((with_reducible apply ck8);exact ev0 f)|((with_reducible apply cxn);exact ev0 f)));exact k):A:=h f k
theorem gc0{A B F:Prop}(f:F)(k:B)(h:F->B->A:=by intro f k;first|((with_reducible apply go_call);exact ev0 f;exact k)|((with_reducible apply cvh);exact ev0 f;exact ev0 f;exact k)|((with_reducible apply cwf);exact ev0 f;exact rfl;kernel_rfl;exact ev0 f;exact k)):A:=h f k
theorem aza{A B F:Prop}(f:F)(k:B)(h:F->B->A:=by intro f k;(repeat (first|with_reducible refine cx0 ?_|with_reducible refine cjg ?_|with_reducible refine cyc ?_|with_reducible refine dza ?_|with_reducible refine dqy ?_|with_reducible refine cxd ?_|with_reducible refine bv2 ?_|with_reducible refine go_ret ?_|with_reducible refine dqz ?_|with_reducible refine dqs ?_|with_reducible refine dzu ?_|with_reducible refine dq7 ?_|with_reducible refine dqw ?_|((with_reducible refine dzn ?_ ?_);exact rfl)|((with_reducible apply cqf);exact rfl;exact ev0 f;exact ev0 f;(first|exact evp f|exact ev0 f|exact eu0 f))|((with_reducible apply bjv);exact rfl;exact rfl;exact ev0 f)|((with_reducible apply bjv);exact rfl;exact rfl;exact eu0 f)|((with_reducible apply bj5);exact rfl;exact ev0 f)|((with_reducible apply bw9);exact rfl;exact ev0 f)|((with_reducible apply bk7);exact ev0 f)|((with_reducible apply cjl);exact ev0 f;exact ev0 f;(first|exact evp f|exact ev0 f|exact eu0 f);(first|exact ti|exact bvp f))|((with_reducible apply cwv);exact rfl;decide +kernel;exact rfl;exact ev0 f)|((with_reducible apply bjz);exact rfl;exact rfl;exact ev0 f;(first|exact ti|exact bvp f))|((with_reducible apply cwv);exact rfl;decide +kernel;exact rfl;exact eu0 f)|((with_reducible apply bjz);exact rfl;exact rfl;exact eu0 f;(first|exact ti|exact bvp f))|((with_reducible apply cqp);exact rfl;decide +kernel;exact rfl;exact ev0 f;(first|exact ti|exact bvp f))|((with_reducible apply bwu);decide +kernel;exact rfl;exact ev0 f)|((with_reducible apply cqy);decide +kernel;exact rfl;exact ev0 f)|((with_reducible apply cz4);exact ev0 f)|((with_reducible apply bk3);exact ev0 f;exact rfl;kernel_rfl;exact ev0 f)|((with_reducible apply bw0);exact ev0 f;exact rfl;exact rfl;kernel_rfl;exact ev0 f)|((with_reducible refine cy3 ?_ ?_);exact ev0 f)|((with_reducible refine dqo ?_ ?_);exact ev0 f)|((with_reducible apply ck8);exact ev0 f)|((with_reducible apply cxn);exact ev0 f)|((with_reducible refine akp 1 ?_ ?_);decide +kernel)|((with_reducible refine akp 2 ?_ ?_);decide +kernel)));exact k):A:=h f k
theorem V_A:∀v:V,V.A v=.agg v.cells:=fun _=>rfl
theorem azb:∀k n s is ks,V.cells (.mk k n s is ks)=[.int .i64 k,.int .i64 n,.str s,.sl 5 .no (V.cellss is),.sl 1 .no (strsA ks)]:=fun k n s is ks=>by rw[V.cells]
theorem djo:∀(ver:Int) (l:List UInt8),wtr ver l=.opq (fun F g w=>WF F g ver l w) (fun o=>if o=2 then some (.int .i64 ver)else none):=fun _ _=>rfl
theorem use{P:Program}{G:World->Prop}{m i:Nat}{fl:List Bool}{past:List Hp}{obs:Obs}{d:Option Nat}{af:List Nat}{os:List AOper}{K:Ts->Hp->Prop}{ts:Ts}{h:Hp}{f:FuncId}{vs:List A}{h':Hp}{v:A}(hc:ACall P G f vs h fun v' h''=>v'=v/\h''=h')(k:aseq P G m (i+1) fl.tail os (pastN m h past) (obsN m af obs) K (put ts d v) h')(hm:(m=2->h'=h/\fl.headD false=false)/\(m≠2->obsP af obs h'):=by first|exact⟨fun e=>absurd e (by decide),fun _=>ti⟩|exact⟨fun e=>absurd e (by decide),fun _=>bvp ti⟩|exact⟨fun _=>⟨rfl,by decide +kernel⟩,fun e=>absurd rfl e⟩):CallK P G m i fl f vs h d af os past obs K ts:=rt hc hm k
theorem azz{A B F C:Prop}(f:F)(c:C)(k:B)(h:F->C->B->A:=by intro f c k;(repeat (first|with_reducible refine cx0 ?_|with_reducible refine cjg ?_|with_reducible refine cyc ?_|with_reducible refine dza ?_|with_reducible refine dqy ?_|with_reducible refine cxd ?_|with_reducible refine bv2 ?_|with_reducible refine go_ret ?_|with_reducible refine dqz ?_|with_reducible refine dqs ?_|with_reducible refine dzu ?_|with_reducible refine dq7 ?_|with_reducible refine dqw ?_|((with_reducible refine dzn ?_ ?_);exact rfl)|((with_reducible apply cqf);exact rfl;exact ev0 f;exact ev0 f;(first|exact evp f|exact ev0 f|exact eu0 f))|((with_reducible apply bjv);exact rfl;exact rfl;exact ev0 f)|((with_reducible apply bjv);exact rfl;exact rfl;exact eu0 f)|((with_reducible apply bj5);exact rfl;exact ev0 f)|((with_reducible apply bw9);exact rfl;exact ev0 f)|((with_reducible apply bk7);exact ev0 f)|((with_reducible apply cjl);exact ev0 f;exact ev0 f;(first|exact evp f|exact ev0 f|exact eu0 f);(first|exact ti|exact bvp f))|((with_reducible apply cwv);exact rfl;decide +kernel;exact rfl;exact ev0 f)|((with_reducible apply bjz);exact rfl;exact rfl;exact ev0 f;(first|exact ti|exact bvp f))|((with_reducible apply cwv);exact rfl;decide +kernel;exact rfl;exact eu0 f)|((with_reducible apply bjz);exact rfl;exact rfl;exact eu0 f;(first|exact ti|exact bvp f))|((with_reducible apply cqp);exact rfl;decide +kernel;exact rfl;exact ev0 f;(first|exact ti|exact bvp f))|((with_reducible apply bwu);decide +kernel;exact rfl;exact ev0 f)|((with_reducible apply cqy);decide +kernel;exact rfl;exact ev0 f)|((with_reducible apply cz4);exact ev0 f)|((with_reducible apply bk3);exact ev0 f;exact rfl;kernel_rfl;exact ev0 f)|((with_reducible apply bw0);exact ev0 f;exact rfl;exact rfl;kernel_rfl;exact ev0 f)|((with_reducible refine cy3 ?_ ?_);exact ev0 f)|((with_reducible refine dqo ?_ ?_);exact ev0 f)|((with_reducible apply ck8);exact ev0 f)|((with_reducible apply cxn);exact ev0 f)|((with_reducible refine akp 1 ?_ ?_);decide +kernel)|((with_reducible refine akp 2 ?_ ?_);decide +kernel)|((with_reducible apply dja);exact rfl;exact rfl;exact djy f;(intro hp;simp only[bz8,bqu,ZH,ZX,Zg,YI]at hp<;>first|exact ev0 (ai hp f)|(have hq:=hp;simp only[Zx,Y5,Y2,ne_eq,ZT,Zar,Zs]at hq;exact ev0 (ai hq (ai hp f)))))|((with_reducible apply dj6);exact rfl;decide +kernel;exact rfl;exact djy f;(intro hp;simp only[bz8,bqu,ZH,ZX,Zg,YI]at hp<;>first|exact ev0 (ai hp f)|(have hq:=hp;simp only[Zx,Y5,Y2,ne_eq,ZT,Zar,Zs]at hq;exact ev0 (ai hq (ai hp f)))))|((with_reducible apply ck3);exact rfl;exact djy f;(intro hp;simp only[bz8,bqu,ZH,ZX,Zg,YI]at hp<;>first|exact ev0 (ai hp f)|(have hq:=hp;simp only[Zx,Y5,Y2,ne_eq,ZT,Zar,Zs]at hq;exact ev0 (ai hq (ai hp f)))))|((with_reducible apply cvp);decide +kernel;exact djy f;(intro hp;simp only[bz8,bqu,ZH,ZX,Zg,YI]at hp<;>first|exact ev0 (ai hp f)|(have hq:=hp;simp only[Zx,Y5,Y2,ne_eq,ZT,Zar,Zs]at hq;exact ev0 (ai hq (ai hp f)))))|refine use (c.1 _) ?_|refine use (c.1 _ _) ?_|refine use c.1 ?_|refine use (c.2.1 _) ?_|refine use (c.2.1 _ _) ?_|refine use c.2.1 ?_|refine use (c.2.2.1 _) ?_|refine use (c.2.2.1 _ _) ?_|refine use c.2.2.1 ?_|refine use (c.2.2.2.1 _) ?_|refine use (c.2.2.2.1 _ _) ?_|refine use c.2.2.2.1 ?_|refine use (c.2.2.2.2.1 _) ?_|refine use (c.2.2.2.2.1 _ _) ?_|refine use c.2.2.2.2.1 ?_|refine use (c.2.2.2.2.2.1 _) ?_|refine use (c.2.2.2.2.2.1 _ _) ?_|refine use c.2.2.2.2.2.1 ?_|refine use (c.2.2.2.2.2.2.1 _) ?_|refine use (c.2.2.2.2.2.2.1 _ _) ?_|refine use c.2.2.2.2.2.2.1 ?_|refine use (c.2.2.2.2.2.2.2.1 _) ?_|refine use (c.2.2.2.2.2.2.2.1 _ _) ?_|refine use c.2.2.2.2.2.2.2.1 ?_|refine use (c.2.2.2.2.2.2.2.2.1 _) ?_|refine use (c.2.2.2.2.2.2.2.2.1 _ _) ?_|refine use c.2.2.2.2.2.2.2.2.1 ?_|refine usew (c.1 _) ?_|refine usew (c.1 _ _) ?_|refine usew c.1 ?_|refine usew (c.2.1 _) ?_|refine usew (c.2.1 _ _) ?_|refine usew c.2.1 ?_|refine usew (c.2.2.1 _) ?_|refine usew (c.2.2.1 _ _) ?_|refine usew c.2.2.1 ?_|refine usew (c.2.2.2.1 _) ?_|refine usew (c.2.2.2.1 _ _) ?_|refine usew c.2.2.2.1 ?_|refine usew (c.2.2.2.2.1 _) ?_|refine usew (c.2.2.2.2.1 _ _) ?_|refine usew c.2.2.2.2.1 ?_|refine usew (c.2.2.2.2.2.1 _) ?_|refine usew (c.2.2.2.2.2.1 _ _) ?_|refine usew c.2.2.2.2.2.1 ?_|refine usew (c.2.2.2.2.2.2.1 _) ?_|refine usew (c.2.2.2.2.2.2.1 _ _) ?_|refine usew c.2.2.2.2.2.2.1 ?_|refine usew (c.2.2.2.2.2.2.2.1 _) ?_|refine usew (c.2.2.2.2.2.2.2.1 _ _) ?_|refine usew c.2.2.2.2.2.2.2.1 ?_|refine usew (c.2.2.2.2.2.2.2.2.1 _) ?_|refine usew (c.2.2.2.2.2.2.2.2.1 _ _) ?_|refine usew c.2.2.2.2.2.2.2.2.1 ?_));exact k):A:=h f c k
theorem azj{A B F C:Prop}(f:F)(c:C)(k:B)(h:F->C->B->A:=by intro f c k;refine aza f ?_;(repeat ((first|refine use (c.1 _) ?_|refine use (c.1 _ _) ?_|refine use c.1 ?_|refine use (c.2.1 _) ?_|refine use (c.2.1 _ _) ?_|refine use c.2.1 ?_|refine use (c.2.2.1 _) ?_|refine use (c.2.2.1 _ _) ?_|refine use c.2.2.1 ?_|refine use (c.2.2.2.1 _) ?_|refine use (c.2.2.2.1 _ _) ?_|refine use c.2.2.2.1 ?_|refine use (c.2.2.2.2.1 _) ?_|refine use (c.2.2.2.2.1 _ _) ?_|refine use c.2.2.2.2.1 ?_|refine use (c.2.2.2.2.2.1 _) ?_|refine use (c.2.2.2.2.2.1 _ _) ?_|refine use c.2.2.2.2.2.1 ?_|refine use (c.2.2.2.2.2.2.1 _) ?_|refine use (c.2.2.2.2.2.2.1 _ _) ?_|refine use c.2.2.2.2.2.2.1 ?_|refine use (c.2.2.2.2.2.2.2.1 _) ?_|refine use (c.2.2.2.2.2.2.2.1 _ _) ?_|refine use c.2.2.2.2.2.2.2.1 ?_|refine use (c.2.2.2.2.2.2.2.2.1 _) ?_|refine use (c.2.2.2.2.2.2.2.2.1 _ _) ?_|refine use c.2.2.2.2.2.2.2.2.1 ?_);refine aza f ?_));exact k):A:=h f c k
theorem evg{A F:Prop}(f:F)(h:F->A:=by intro f;simp only[aq6,aqf,aqc,ayj,ayg,aqd,ax8,ajc,ajf,azk,aqh,astep,bop,uop,loadA,storeA,appA,ssliceA,eqA,eqCells,fillA,rowsA,setCells,A.cells,A.one,A.data,az4,ZK,YK,ZX,ZH,Z7,ZY,Yz,YN,Y3,Yb,YD,ZM,Yn,Ye,Z5,ZU,ZR,Zt,av4,akg,ajt,av8,av6,awv,ayc,awl,awc,ayf,aws,Zf,Zo,Zq,ZE,Zz,YT,YU,YW,Z4,Yd,Yt,Zab,Yy,Za,ZA,Nat.reduceAdd,Nat.reduceSub,Nat.reduceMul,Nat.reduceLeDiff,Nat.reduceEqDiff,Nat.reduceBEq,Yu,YJ,Int.reduceBEq,Int.reduceBNe,Int.reduceLT,Int.reduceLE,Int.reduceEq,Int.le_refl,Zan,if_true,if_false,reduceIte,ite_true,ite_false,true_and,and_true,ne_eq,Yw,YH,Zn,reduceCtorEq,and_self,Yj,Yr,Ze,Yc,Z9,and_self,decide_true,decide_false,Y9,Zag,forL,czw,Nat.reduceMod,Zc,Ye,Z5,f]<;>with_reducible rfl):A:=h f
theorem ing{A F:Prop}(f:F)(h:F->A:=by intro f;simp only[aq6,aqf,aqc,ayj,ayg,aqd,ax8,ajc,ajf,azk,aqh,astep,bop,uop,loadA,storeA,appA,ssliceA,eqA,eqCells,fillA,rowsA,setCells,A.cells,A.one,A.data,az4,ZK,YK,ZX,ZH,Z7,ZY,Yz,YN,Y3,Yb,YD,ZM,Yn,Ye,Z5,ZU,ZR,Zt,av4,akg,ajt,av8,av6,awv,ayc,awl,awc,ayf,aws,Zf,Zo,Zq,ZE,Zz,YT,YU,YW,Z4,Yd,Yt,Zab,Yy,Za,ZA,Nat.reduceAdd,Nat.reduceSub,Nat.reduceMul,Nat.reduceLeDiff,Nat.reduceEqDiff,Nat.reduceBEq,Yu,YJ,Int.reduceBEq,Int.reduceBNe,Int.reduceLT,Int.reduceLE,Int.reduceEq,Int.le_refl,Zan,if_true,if_false,reduceIte,ite_true,ite_false,true_and,and_true,ne_eq,Yw,YH,Zn,reduceCtorEq,and_self,Yj,Yr,Ze,Yc,Z9,and_self,decide_true,decide_false,Y9,Zag,forL,czw,Nat.reduceMod,Zc,Ye,Z5,f]<;>exact ti):A:=h f
theorem rung{A B F:Prop}(f:F)(k:B)(h:F->B->A:=by intro f k;(repeat (first|with_reducible refine djh ?_|((with_reducible apply dj5);exact rfl;(refine⟨?_,?_⟩);exact evg f;(first|exact ti|exact ing f))));exact k):A:=h f k
def bz0:AX.AFn:=⟨11,aS [aR 1 (.box 51 (.t 0)),aR 2 (.mv (aI 0))] (aS [aR 6 (.load true 5 (.t 1)),aR 7 (.call 75 [.t 6,aI 1,aI 0]),aM 5 7,aE 8 5 0,aE 9 5 1,aM 3 8,aM 4 9] (aS [aM 10 3,aM 2 10] (.ret))),[.t 2]⟩
theorem cvl:AX.compFn Tryz.prog 50=some bz0:=by kernel_rfl
theorem Val.lefts_neg:∀(l:List V) (n lv:Int),n<0->Val.lefts l n lv=n
 |[],n,lv,h=>by simp[Val.lefts]
 |v::l,n,lv,h=>by rw[Val.lefts,if_neg (by omega)]
theorem Val.left_le:∀(v:V) (nd lv:Int),0<=nd->Val.left v nd lv<=nd/\-1<=Val.left v nd lv:=by
 refine V.induct fun k n s is ks ih=>?_
 intro nd lv hnd;rw[Val.left];split
 ·omega
 ·next h=>
  have key:∀(l:List V),(∀x∈l,x∈is)->∀m:Int,-1<=m->Val.lefts l m (lv-1)<=max m (-1)/\-1<=Val.lefts l m (lv-1):=by
   intro l;induction l with
   |nil=>intro _ m hm;rw[Val.lefts];omega
   |cons v l ihl=>
    intro hl m hm;rw[Val.lefts];split
    ·next h0=>
     have h1:=ih v (hl v (by simp)) m (lv-1) h0;have h2:=ihl (fun x hx=>hl x (by simp[hx])) _ h1.2;omega
    ·omega
  have:=key is (fun x hx=>hx) (nd-1) (by omega);omega
theorem dx9:∀(v:V) (nd lv:Int),-1000<=nd->nd<=1000000->-1000<=lv->lv<=1000000->v.lens->AC 76 [v.A,.int .i64 nd,.int .i64 lv] ⟨[],[]⟩ fun r _=>r=.int .i64 (Val.left v nd lv):=by
 refine V.induct fun k n s is ks ih=>?_
 intro nd lv hn0 hn1 hl0 hl1 hlen;refine fo ?_;by_cases h1:nd<1
 ·refine go0 (ai @V_A (ai @azb h1)) ?_;exact⟨_,le_refl _,by simp[azk,Val.left,h1]⟩
 by_cases h2:lv<1
 ·refine go0 (ai @V_A (ai @azb (ai h1 h2))) ?_;exact⟨_,le_refl _,by simp[azk,Val.left,h2]⟩
 have e1:IntKind.i64.wrap (nd-1)=nd-1:=wrap64 (by omega) (by omega);have e2:IntKind.i64.wrap (lv-1)=lv-1:=wrap64 (by omega) (by omega);refine go0 (ai @V_A (ai @azb (ai h1 (ai h2 e1)))) ?_;obtain⟨hil,_,_,hks⟩:=V.lens_mk hlen;have hL:Val.left (.mk k n s is ks) nd lv=Val.lefts is (nd-1) (lv-1):=by rw[Val.left,if_neg (by omega)]
 have hwrap:=fun i (hi:i<is.length)=>wrap64 (x:=(i:Int)+1) (by omega) (by omega)
 refine azg (fun m ts h=>h=⟨[.cells 51 (V.mk k n s is ks).cells],[]⟩/\∃(i:Nat) (q:Int),m=is.length-i/\i<=is.length/\-1<=q/\q<=nd/\Val.lefts (is.drop i) q (lv-1)=Val.lefts is (nd-1) (lv-1)/\ts 2=.int .i64 lv/\ts 3=.ptr 0 0/\ts 7=.int .i64 q/\ts 8=.int .i64 i) is.length ?_ ?_
 ·refine⟨rfl,0,nd-1,rfl,ZB _,by omega,by omega,rfl,?_⟩;(exact azv ti)
 ·rintro m ts h ⟨rfl,i,q,rfl,hi,hq0,hq1,heq,t2,t3,t7,t8⟩;by_cases hlt:i<is.length
  ·have hlt':(i:Int)<((V.cellss is).length:Int):=by rw[V.cellss_length];omega
   by_cases hq:q>=0
   ·obtain⟨⟨k',n',s',is',ks'⟩,hv⟩:=Ex (is[i]);have ee:=V.cellss_get is i hlt;have ei:=hwrap i hlt;have hcall:=ih is[i] (Zl hlt) q (lv-1) (by omega) (by omega) (by omega) (by omega) (hks _ (Zl hlt));rw[hv]at ee hcall;refine go0 (ai @azb (ai t2 (ai t3 (ai t7 (ai t8 (ai hlt' (ai hq (ai ee (ai e2 ei))))))))) ?_;refine gc0 (ai @azb (ai t2 (ai t3 (ai t7 (ai t8 e2))))) ?_;refine(pcall hcall rfl (by simp[V.A,V.cells,A.pure,A.data]) _).mono ?_;rintro v h' ⟨rfl,rfl⟩;refine go0 (ai @azb (ai t2 (ai t3 (ai t7 (ai t8 (ai hlt' (ai hq (ai ee (ai e2 ei))))))))) ?_;have hll:=Val.left_le (.mk k' n' s' is' ks') q (lv-1) hq;refine⟨is.length-(i+1),by omega,rfl,i+1,Val.left (.mk k' n' s' is' ks') q (lv-1),rfl,by omega,hll.2,by omega,?_,?_⟩
    ·rw[<-heq,Zu hlt,hv,Val.lefts,if_pos hq]
    ·(exact azv (ai t2 (ai t3 (ai t7 (ai t8 ei)))))
   ·refine go0 (ai @azb (ai t2 (ai t3 (ai t7 (ai t8 (ai hlt' hq)))))) ?_;refine⟨_,le_refl _,?_⟩;rw[azk,hL,<-heq,Val.lefts_neg _ _ _ (by omega)]
  ·have hlt':¬(i:Int)<((V.cellss is).length:Int):=by rw[V.cellss_length];omega
   refine go0 (ai @azb (ai t2 (ai t3 (ai t7 (ai t8 hlt'))))) ?_;refine⟨_,le_refl _,?_⟩;rw[azk,hL,<-heq,ZQ (by omega),Val.lefts]
theorem cks(lv b:Nat):Val.chks [] lv b=(0,b):=by rw[Val.chks]
theorem cq2(v:V)(l:List V)(lv b:Nat):Val.chks (v::l) lv b=if(Val.chk v lv b).1≠0 then Val.chk v lv b else Val.chks l lv (Val.chk v lv b).2:=by rw[Val.chks]
theorem dxc(k n:Int)(s:List UInt8)(is:List V)(ks:List (List UInt8))(hlen:(V.mk k n s is ks).lens)(h:Hp):AT 108 [(V.mk k n s is ks).A] h (.int .i64 (Val.nodeZ (.mk k n s is ks))):=by
 refine pcall ?_ rfl (by simp[V.A,V.cells,A.pure,A.data]) h;obtain⟨hil,hkl,_,_⟩:=V.lens_mk hlen;refine fo ?_;refine go0 (ai @V_A @azb) ?_;refine gc0 (ai @V_A @azb) ?_;refine(bkk k n s .no .no 5 1 _ _ _).mono ?_;rintro v h' ⟨rfl,rfl⟩;rw[V.cellss_length,azd];have hZ:Val.nodeZ (.mk k n s is ks)=if Val.shapedB k n s is.length ks.length=false then 1 else if k=2/\¬(-9007199254740992<=n/\n<=9007199254740992)then 5 else if Val.textZ s≠0 then Val.textZ s else Val.keysZ none ks:=by rw[Val.nodeZ]
 rcases azl (Val.shapedB k n s is.length ks.length)with hs|hs
 ·rw[hs];rw[if_neg (by rw[hs];simp)]at hZ;have hc:(k=2/\¬(-9007199254740992<=n/\n<=9007199254740992))\/(k=2/\(-9007199254740992<=n/\n<=9007199254740992))\/k≠2:=by
   by_cases hk:k=2
   ·by_cases hn:-9007199254740992<=n/\n<=9007199254740992
    ·exact .inr (.inl ⟨hk,hn⟩)
    ·exact .inl ⟨hk,hn⟩
   ·exact .inr (.inr hk)
  rcases hc with⟨hk,hn⟩|⟨hk,hn⟩|hk
  ·have hk':(k==2)=true:=by simp[hk]
   rw[if_pos ⟨hk,hn⟩]at hZ;(refine AX.go0 (AX.ai @V_A (AX.ai @azb hk')) ?_);(refine AX.gc0 (AX.ai @V_A (AX.ai @azb hk')) ?_);refine(bja n _).mono ?_;rintro v h' ⟨rfl, rfl⟩;(refine AX.go0 (AX.ai @V_A (AX.ai @azb (AX.ai hn hk'))) ?_);exact⟨_, le_refl _, by rw[azk, hZ]⟩
  all_goals first
   | (have hn' := hn.1
      have hk' : (k == 2) = true := by simp [hk]
      rw [if_neg (by simp [hn])] at hZ;(refine AX.go0 (AX.ai @V_A (AX.ai @azb hk')) ?_);(refine AX.gc0 (AX.ai @V_A (AX.ai @azb hk')) ?_);refine (bja n _).mono ?_;rintro v h' ⟨rfl, rfl⟩
      (refine AX.go0 (AX.ai @V_A (AX.ai @azb (AX.ai hn hk'))) ?_))
   | (have hk' : (k == 2) = false := by simp [hk]
      rw [if_neg (by simp [hk])] at hZ
      (refine AX.go0 (AX.ai @V_A (AX.ai @azb hk')) ?_))
  all_goals
   refine gc0 (ai @V_A @azb) ?_;refine(cz6 s _).mono ?_;rintro v h' ⟨rfl,rfl⟩;by_cases ht:Val.textZ s=0
   ·rw[if_neg (by simp[ht])]at hZ;rw[ht];refine go0 (ai @V_A @azb) ?_;refine azg (fun m ts h=>h=⟨[.cells 51 (V.mk k n s is ks).cells],[]⟩/\∃(i:Nat),m=ks.length-i/\i<=ks.length/\Val.keysZ (if i=0 then none else ks[i-1]?) (ks.drop i)=Val.keysZ none ks/\ts 1=.ptr 0 0/\ts 4=.int .i64 i) ks.length ?_ ?_
    ·refine⟨rfl,0,rfl,ZB _,rfl,?_⟩;(exact azv ti)
    ·rintro m ts h ⟨rfl,i,rfl,hi,heq,t1,t4⟩;by_cases hlt:i<ks.length
     ·have hlt':(i:Int)<((strsA ks).length:Int):=by rw[azd];omega
      have ee:=az5 ks i hlt;have ei:IntKind.i64.wrap ((i:Int)+1)=(i:Int)+1:=wrap64 (by omega) (by omega);rw[Zu hlt,Val.keysZ]at heq;refine go0 (ai @azb (ai t1 (ai t4 (ai hlt' (ai ee ei))))) ?_;refine gc0 (ai @azb (ai t1 (ai t4 (ai hlt' (ai ee ei))))) ?_;refine(cz6 ks[i] _).mono ?_;rintro v h' ⟨rfl,rfl⟩;by_cases ht2:Val.textZ ks[i]=0
      ·rw[if_neg (by simp[ht2])]at heq;rw[ht2];refine go0 (ai @azb (ai t1 (ai t4 (ai hlt' (ai ee ei))))) ?_;refine ayd (by decide) ?_;cases i with
       |zero=>
        have h0:¬((0:Nat):Int)>0:=by omega
        simp only[Nat.reduceAdd,if_true,Val.badB,Zn,if_false]at heq;refine go0 (ai @azb (ai t1 (ai t4 (ai hlt' (ai ee (ai ei h0)))))) ?_;refine⟨ks.length-1,by omega,rfl,1,rfl,by omega,?_,?_⟩
        ·rw[<-heq];simp[hlt]
        ·(exact azv (ai t1 (ai t4 ei)))
       |succ j=>
        have h0:((j+1:Nat):Int)>0:=by omega
        have ej:IntKind.i64.wrap (((j+1:Nat):Int)-1)=(j:Int):=by rw[wrap64 (by omega) (by omega)];omega
        have ee2:=az5 ks j (by omega);have hj':(j:Int)<((strsA ks).length:Int):=by omega
        have hkj:ks[j+1-1]?=some (ks[j]'(by omega)):=Zj (by omega);rw[show(if j+1=0 then none else ks[j+1-1]?)=some (ks[j]'(by omega))from by rw[if_neg (by omega)];exact hkj]at heq;simp only[Val.badB]at heq;rcases azl (Op.bytesLess (ks[j]'(by omega)) ks[j+1])with hb|hb
        ·simp only[hb,Yc,Z9,Zn,if_false,if_true]at heq;refine go0 (ai @azb (ai t1 (ai t4 (ai hlt' (ai ee (ai ee2 (ai ei (ai ej (ai h0 (ai hj' hb)))))))))) ?_;refine⟨ks.length-(j+1+1),by omega,rfl,j+1+1,rfl,by omega,?_,?_⟩
         ·rw[<-heq];simp[hlt]
         ·(exact azv (ai t1 (ai t4 ei)))
        ·simp only[hb,Yc,Z9,Zn,if_false,if_true]at heq;refine go0 (ai @azb (ai t1 (ai t4 (ai hlt' (ai ee (ai ee2 (ai ei (ai ej (ai h0 (ai hj' hb)))))))))) ?_;exact⟨_,le_refl _,by rw[azk,hZ,<-heq]⟩
      ·have ht3:(Val.textZ ks[i]!=0)=true:=by simp[ht2]
       rw[if_pos (by simp[ht2])]at heq;refine go0 (ai @azb (ai t1 (ai t4 (ai hlt' (ai ee (ai ei ht3)))))) ?_;exact⟨_,le_refl _,by rw[azk,hZ,<-heq]⟩
     ·have hlt':¬(i:Int)<((strsA ks).length:Int):=by rw[azd];omega
      refine go0 (ai @azb (ai t1 (ai t4 hlt'))) ?_;refine⟨_,le_refl _,?_⟩;rw[azk,hZ,<-heq,ZQ (by omega)];cases(if i=0 then none else ks[i-1]?)<;>rfl
   ·have ht':(Val.textZ s !=0)=true:=by simp[ht]
    rw[if_pos (by simp[ht])]at hZ;refine go0 (ai @V_A (ai @azb ht')) ?_;exact⟨_,le_refl _,by rw[azk,hZ]⟩
 ·rw[hs];refine go0 (ai @V_A @azb) ?_;exact⟨_,le_refl _,by rw[azk,hZ,if_pos hs]⟩
theorem dz4:∀(v:V) (lv b:Nat),v.lens->AC 75 [v.A,.int .i64 lv,.int .i64 b] ⟨[],[]⟩ fun r _=>r=.tup [.int .i64 (Val.chk v lv b).1,.int .i64 (Val.chk v lv b).2]:=by
 refine V.induct fun k n s is ks ih=>?_
 intro lv b hlen;refine fo ?_;obtain⟨hil,hkl,_,hmem⟩:=V.lens_mk hlen;by_cases h1:(lv:Int)>32
 ·refine go0 (ai @V_A (ai @azb h1)) ?_;exact⟨_,le_refl _,by rw[aqh,Val.chk,if_pos (by omega)]⟩
 by_cases h2:(b:Int)>=4096
 ·refine go0 (ai @V_A (ai @azb (ai h1 h2))) ?_;exact⟨_,le_refl _,by rw[aqh,Val.chk,if_neg (by omega),if_pos (by omega)]⟩
 refine go0 (ai @V_A (ai @azb (ai h1 h2))) ?_;refine gc0 (ai @V_A (ai @azb (ai h1 h2))) ?_;refine(dxc k n s is ks hlen _).mono ?_;rintro v h' ⟨rfl,rfl⟩;by_cases hn:Val.nodeZ (.mk k n s is ks)=0
 ·rw[hn];have eb:IntKind.i64.wrap ((b:Int)+1)=((b+1:Nat):Int):=by rw[wrap64 (by omega) (by omega)];omega
  have elv:IntKind.i64.wrap ((lv:Int)+1)=((lv+1:Nat):Int):=by rw[wrap64 (by omega) (by omega)];omega
  refine go0 (ai @V_A (ai @azb (ai h1 (ai h2 eb)))) ?_;have hC:Val.chk (.mk k n s is ks) lv b=Val.chks is (lv+1) (b+1):=by rw[Val.chk,if_neg (by omega),if_neg (by omega),if_neg (by simp[hn])]
  refine azg (fun m ts h=>h=⟨[.cells 51 (V.mk k n s is ks).cells],[]⟩/\∃(i q:Nat),m=is.length-i/\i<=is.length/\Val.chks (is.drop i) (lv+1) q=Val.chks is (lv+1) (b+1)/\ts 1=.int .i64 lv/\ts 3=.ptr 0 0/\ts 9=.int .i64 q/\ts 10=.int .i64 i) is.length ?_ ?_
  ·refine⟨rfl,0,b+1,rfl,ZB _,rfl,?_⟩;(exact azv ti)
  ·rintro m ts h ⟨rfl,i,q,rfl,hi,heq,t1,t3,t9,t10⟩;by_cases hlt:i<is.length
   ·have hlt':(i:Int)<((V.cellss is).length:Int):=by rw[V.cellss_length];omega
    have ei:IntKind.i64.wrap ((i:Int)+1)=(i:Int)+1:=wrap64 (by omega) (by omega);have ee:=V.cellss_get is i hlt;have hcall:=ih is[i] (Zl hlt) (lv+1) q (hmem _ (Zl hlt));rw[Zu hlt,cq2]at heq;obtain⟨⟨k',n',s',is',ks'⟩,hv⟩:=Ex (is[i]);rw[hv]at ee hcall heq;refine go0 (ai @azb (ai t1 (ai t3 (ai t9 (ai t10 (ai hlt' (ai ee (ai elv ei)))))))) ?_;refine gc0 (ai @azb (ai t1 (ai t3 (ai t9 (ai t10 elv))))) ?_;refine(pcall hcall rfl (by simp[V.A,V.cells,A.pure,A.data]) _).mono ?_;rintro v h' ⟨rfl,rfl⟩;by_cases hz:(Val.chk (.mk k' n' s' is' ks') (lv+1) q).1=0
    ·rw[if_neg (by simp[hz])]at heq;rw[hz];refine go0 (ai @azb (ai t1 (ai t3 (ai t9 (ai t10 (ai hlt' (ai ee (ai elv ei)))))))) ?_;refine⟨is.length-(i+1),by omega,rfl,i+1,_,rfl,by omega,heq,?_⟩;(exact azv (ai t1 (ai t3 (ai t9 (ai t10 ei)))))
    ·have hz':((Val.chk (.mk k' n' s' is' ks') (lv+1) q).1 !=0)=true:=by simp[hz]
     rw[if_pos (by simp[hz])]at heq;refine go0 (ai @azb (ai t1 (ai t3 (ai t9 (ai t10 (ai hlt' (ai ee (ai elv (ai ei hz'))))))))) ?_;exact⟨_,le_refl _,by rw[aqh,hC,<-heq]⟩
   ·have hlt':¬(i:Int)<((V.cellss is).length:Int):=by rw[V.cellss_length];omega
    refine go0 (ai @azb (ai t1 (ai t3 (ai t9 (ai t10 hlt'))))) ?_;refine⟨_,le_refl _,?_⟩;rw[aqh,hC,<-heq,ZQ (by omega),cks]
 ·have hn':(Val.nodeZ (.mk k n s is ks)!=0)=true:=by simp[hn]
  refine go0 (ai @V_A (ai @azb (ai h1 (ai h2 hn')))) ?_;exact⟨_,le_refl _,by rw[aqh,Val.chk,if_neg (by omega),if_neg (by omega),if_pos (by simp[hn])]⟩
theorem bwj(v:V)(hlen:v.lens)(h:Hp):AT 50 [v.A] h (.int .i64 (Val.checkZ v)):=by
 have ht:AC 75 [v.A,.int .i64 1,.int .i64 0] ⟨[],[]⟩ fun r _=>r=.tup [.int .i64 (Val.chk v 1 0).1,.int .i64 (Val.chk v 1 0).2]:=dz4 v 1 0 hlen
 obtain⟨k,n,s,is,ks⟩:=v;refine pcall ?_ rfl (by simp[V.A,V.cells,A.pure,A.data]) h;refine azf mixedT cvl (by simp[bz0]) ?_;dsimp only[bz0];refine go0 (ai @V_A @azb) ?_;refine gc0 (ai @V_A @azb) ?_;refine(pcall ht rfl (by simp[V.A,V.cells,A.pure,A.data]) _).mono ?_;rintro v h' ⟨rfl,rfl⟩;refine go0 (ai @V_A @azb) ?_;exact Fn rfl
def bqv:AX.AFn:=⟨9,aS [aR 1 (.box 51 (.t 0)),aR 2 (.mv (aI 0))] (aS [aR 3 (.alloc 3 [.int .i64 0]),aU (.store 1 (.t 3) (aI 0))] (aS [aR 4 (.alloc 96 [.nilf])] (aS [aR 5 (.mkfn 43 [.t 3,.t 4]),aU (.store 1 (.t 4) (.t 5))] (aS [aL 6 4,aR 7 (.load true 5 (.t 1)),aR 8 (.callv (.t 6) [.t 7,aI 1]),aM 2 8] (.ret))))),[.t 2]⟩
theorem cv5:AX.compFn Tryz.prog 19=some bqv:=by kernel_rfl
theorem bxd{k n:Int}{s:List UInt8}{is:List V}{ks:List (List UInt8)}(h:Val.shapedB k n s is.length ks.length=true):(k≠3->s=[])/\(k≠5->ks=[]):=by
 unfold Val.shapedB at h;simp only[Zg,ZZ,Zx,ZT]at h;obtain⟨⟨⟨⟨_,_⟩,h1⟩,_⟩,h2⟩:=h;refine⟨fun hk=>?_,fun hk=>?_⟩
 ·rcases h1 with h1|h1
  ·exact absurd h1 hk
  ·exact h1
 ·rw[if_neg hk]at h2;exact ZN (by simpa using h2)
theorem dqk(k n:Int)(s:List UInt8)(is:List V)(ks:List (List UInt8))(hlen:(V.mk k n s is ks).lens)(h:Hp):AT 44 [(V.mk k n s is ks).A] h (.int .i64 (Val.nodeZ (.mk k n s is ks))):=by
 refine pcall ?_ rfl (by simp[V.A,V.cells,A.pure,A.data]) h;obtain⟨hil,hkl,_,_⟩:=V.lens_mk hlen;refine fo ?_;refine go0 (ai @V_A @azb) ?_;refine gc0 (ai @V_A @azb) ?_;refine(cv2 k n s .no .no 5 1 _ _ _).mono ?_;rintro v h' ⟨rfl,rfl⟩;rw[V.cellss_length,azd];rcases azl (Val.shapedB k n s is.length ks.length)with hs|hs
 ·rw[hs];obtain⟨hs3,hs5⟩:=bxd hs;have hZ:Val.nodeZ (.mk k n s is ks)=if k=2/\¬(-9007199254740992<=n/\n<=9007199254740992)then 5 else if Val.textZ s≠0 then Val.textZ s else Val.keysZ none ks:=by rw[Val.nodeZ,if_neg (by rw[hs];simp)]
  have ht0:Val.textZ []=0:=by decide
  have hk0:Val.keysZ none []=0:=rfl;by_cases h2:k=2
  ·have e2:(k==2)=true:=by simp[h2]
   obtain rfl:s=[]:=hs3 (by omega);obtain rfl:ks=[]:=hs5 (by omega);refine go0 (ai @V_A (ai @azb e2)) ?_;refine gc0 (ai @V_A (ai @azb e2)) ?_;refine(cwx n _).mono ?_;rintro v h' ⟨rfl,rfl⟩;by_cases hn:-9007199254740992<=n/\n<=9007199254740992
   ·refine go0 (ai @V_A (ai @azb (ai e2 hn))) ?_;exact⟨_,le_refl _,by rw[azk,hZ,if_neg (by simp[hn]),ht0];simp[hk0]⟩
   ·refine go0 (ai @V_A (ai @azb (ai e2 hn))) ?_;exact⟨_,le_refl _,by rw[azk,hZ,if_pos ⟨h2,hn⟩]⟩
  have e2:(k==2)=false:=by simp[h2]
  rw[if_neg (by simp[h2])]at hZ;by_cases h3:k=3
  ·have e3:(k==3)=true:=by simp[h3]
   obtain rfl:ks=[]:=hs5 (by omega);refine go0 (ai @V_A (ai @azb (ai e2 e3))) ?_;refine gc0 (ai @V_A (ai @azb (ai e2 e3))) ?_;refine(cxm s _).mono ?_;rintro v h' ⟨rfl,rfl⟩;refine go0 (ai @V_A (ai @azb (ai e2 e3))) ?_
   exact⟨_,le_refl _,by
    rw[azk,hZ];split
    ·rfl
    ·next h=>rw[hk0];simp at h;rw[h]⟩
  have e3:(k==3)=false:=by simp[h3]
  obtain rfl:s=[]:=hs3 h3;rw[ht0,if_neg (by simp)]at hZ;by_cases h5:k=5
  ·have e5:(k==5)=true:=by simp[h5]
   refine go0 (ai @V_A (ai @azb (ai e2 (ai e3 e5)))) ?_;refine azg (fun m ts h=>h=⟨[.cells 51 (V.mk k n [] is ks).cells],[]⟩/\∃(i:Nat),m=ks.length-i/\i<=ks.length/\Val.keysZ (if i=0 then none else ks[i-1]?) (ks.drop i)=Val.keysZ none ks/\ts 1=.ptr 0 0/\ts 25=.sl 1 .no (strsA ks)/\ts 26=.int .i64 ks.length/\ts 27=.int .i64 i) ks.length ?_ ?_
   ·refine⟨rfl,0,rfl,ZB _,rfl,?_⟩;(exact azv @azd)
   ·rintro m ts h ⟨rfl,i,rfl,hi,heq,t1,t25,t26,t27⟩;by_cases hlt:i<ks.length
    ·have hlt2:(i:Int)<(ks.length:Int):=by omega
     have hlt':(i:Int)<((strsA ks).length:Int):=by rw[azd];omega
     have ee:=az5 ks i hlt;have ei:IntKind.i64.wrap ((i:Int)+1)=(i:Int)+1:=wrap64 (by omega) (by omega);rw[Zu hlt,Val.keysZ]at heq;refine go0 (ai @azb (ai t1 (ai t25 (ai t26 (ai t27 (ai hlt' (ai hlt2 (ai ee ei)))))))) ?_;refine gc0 (ai @azb (ai t1 (ai t25 (ai t26 (ai t27 (ai hlt' (ai ee ei))))))) ?_;refine(cxm ks[i] _).mono ?_;rintro v h' ⟨rfl,rfl⟩;by_cases ht2:Val.textZ ks[i]=0
     ·rw[if_neg (by simp[ht2])]at heq;rw[ht2];cases i with
      |zero=>
       have h0:¬((0:Nat):Int)>0:=by omega
       simp only[Nat.reduceAdd,if_true,Val.badB,Zn,if_false]at heq;refine go0 (ai @azb (ai t1 (ai t25 (ai t26 (ai t27 (ai hlt' (ai hlt2 (ai ee (ai ei h0))))))))) ?_;refine⟨ks.length-1,by omega,rfl,1,rfl,by omega,?_,?_⟩
       ·rw[<-heq];simp[hlt]
       ·(exact azv (ai t1 (ai t25 (ai t26 (ai t27 ei)))))
      |succ j=>
       have h0:((j+1:Nat):Int)>0:=by omega
       have ej:IntKind.i64.wrap (((j+1:Nat):Int)-1)=(j:Int):=by rw[wrap64 (by omega) (by omega)];omega
       have ee2:=az5 ks j (by omega);have hj':(j:Int)<((strsA ks).length:Int):=by omega
       have hkj:ks[j+1-1]?=some (ks[j]'(by omega)):=Zj (by omega);rw[show(if j+1=0 then none else ks[j+1-1]?)=some (ks[j]'(by omega))from by rw[if_neg (by omega)];exact hkj]at heq;simp only[Val.badB,Val.less_total]at heq;rcases azl (Op.bytesLess ks[j+1] (ks[j]'(by omega))||ks[j+1]==(ks[j]'(by omega)))with hb|hb
       ·simp only[hb,Yc,Z9,Zn,if_false,if_true]at heq;refine go0 (ai @azb (ai t1 (ai t25 (ai t26 (ai t27 (ai hlt' (ai hlt2 (ai ee (ai ee2 (ai ei (ai ej (ai h0 (ai hj' hb))))))))))))) ?_;exact⟨_,le_refl _,by rw[azk,hZ,<-heq]⟩
       ·simp only[hb,Yc,Z9,Zn,if_false,if_true]at heq;refine go0 (ai @azb (ai t1 (ai t25 (ai t26 (ai t27 (ai hlt' (ai hlt2 (ai ee (ai ee2 (ai ei (ai ej (ai h0 (ai hj' hb))))))))))))) ?_;refine⟨ks.length-(j+1+1),by omega,rfl,j+1+1,rfl,by omega,?_,?_⟩
        ·rw[<-heq];simp[hlt]
        ·(exact azv (ai t1 (ai t25 (ai t26 (ai t27 ei)))))
     ·have ht3:(Val.textZ ks[i]!=0)=true:=by simp[ht2]
      rw[if_pos (by simp[ht2])]at heq;refine go0 (ai @azb (ai t1 (ai t25 (ai t26 (ai t27 (ai hlt' (ai hlt2 (ai ee (ai ei ht3))))))))) ?_;exact⟨_,le_refl _,by rw[azk,hZ,<-heq]⟩
    ·have hlt2:¬(i:Int)<(ks.length:Int):=by omega
     refine go0 (ai @azb (ai t1 (ai t25 (ai t26 (ai t27 hlt2))))) ?_;refine⟨_,le_refl _,?_⟩;rw[azk,hZ,<-heq,ZQ (by omega)];cases(if i=0 then none else ks[i-1]?)<;>rfl
  have e5:(k==5)=false:=by simp[h5]
  obtain rfl:ks=[]:=hs5 h5;refine go0 (ai @V_A (ai @azb (ai e2 (ai e3 e5)))) ?_;exact⟨_,le_refl _,by rw[azk,hZ,hk0]⟩
 ·rw[hs];refine go0 (ai @V_A @azb) ?_;exact⟨_,le_refl _,by rw[azk,Val.nodeZ,if_pos hs]⟩
end AX
end
end Go.Proofs.YthhpocnmfknalaaGreatDoor
