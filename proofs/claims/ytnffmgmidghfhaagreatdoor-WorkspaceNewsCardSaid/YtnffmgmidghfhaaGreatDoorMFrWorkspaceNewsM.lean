/- Part of what the proof needs. -/
import Derived.Test.YtnffmgmidghfhaaGreatDoorMFrWorkspaceNewsF
import Derived.Test.YtnffmgmidghfhaaGreatDoorMFrWorkspaceNewsH
import Derived.Test.YtnffmgmidghfhaaGreatDoorMFrWorkspaceNewsK
import Derived.Test.YtnffmgmidghfhaaGreatDoorCards
import Derived.Test.YtnffmgmidghfhaaGreatDoorTie
import Derived.ProofKit
import Derived.OpenShut
import Derived.ShutString
import Derived.ChangeOld
import Derived.Deep.DeepHandedRow
import Derived.Lib.LaidU8
import Derived.MakeChecks
set_option maxHeartbeats 4000000
set_option maxRecDepth 100000
set_option linter.all false
namespace Go.Proofs.YtnffmgmidghfhaaGreatDoor
section
open Go.RowKit
def strsA(l:List (List UInt8)):List (List AX.A):=l.map fun s=>[.str s]
mutual
def V.cells:V->List AX.A
 |.mk k n s is ks=>[.int .i64 k,.int .i64 n,.str s,.sl 5 .no (V.cellss is),.sl 1 .no (strsA ks)]
def V.cellss:List V->List (List AX.A)
 |[]=>[]
 |v::l=>v.cells::V.cellss l
end
def V.A(v:V):AX.A:=.agg v.cells
theorem V.cellss_map:∀l:List V,V.cellss l=l.map V.cells
 |[]=>rfl
 |v::l=>by rw[V.cellss,V.cellss_map l];rfl
theorem V.cellss_length(l:List V):(V.cellss l).length=l.length:=by rw[V.cellss_map];simp
theorem azg(l:List (List UInt8)):(strsA l).length=l.length:=by simp[strsA]
theorem aqr(l:List (List UInt8))(i:Nat)(h:i<l.length):(strsA l).getD i []=[.str l[i]]:=by simp[strsA,List.getD,h]
theorem V.cellss_get(l:List V)(i:Nat)(h:i<l.length):(V.cellss l).getD i []=l[i].cells:=by rw[V.cellss_map];simp[List.getD,h]
theorem V.pure(v:V):v.A.pure=true:=by cases v;unfold V.A V.cells;rfl
mutual
def V.lens:V->Prop
 |.mk k n s is ks=>is.length<=maxLen/\ks.length<=maxLen/\s.length<=maxLen/\(∀q∈ks,q.length<=maxLen)/\V.lensS is
def V.lensS:List V->Prop
 |[]=>True
 |v::l=>v.lens/\V.lensS l
end
theorem V.lensS_mem:∀{l:List V},V.lensS l->∀x∈l,x.lens
 |[],_=>by simp
 |v::l,h=>by
  unfold V.lensS at h;exact Zak.2 ⟨h.1,V.lensS_mem h.2⟩
theorem V.lens_mk{k n:Int}{s:List UInt8}{is:List V}{ks:List (List UInt8)}(h:(V.mk k n s is ks).lens):is.length<=9223372036854775807/\ks.length<=9223372036854775807/\s.length<=9223372036854775807/\(∀x∈is,x.lens):=by
 unfold V.lens at h;simp only[maxLen]at h;exact⟨by omega,by omega,by omega,V.lensS_mem h.2.2.2.2⟩
def IfaceAt(g:Nat)(w:World):Prop:=∃ev,w.cell? ⟨g,0,none⟩=some ev/\(ev=.nilIface\/∃te pe,ev=.iface te pe)
structure GT(w:World):Prop where
 tabs:Lib.Utf8Tabs 1 2 w
 esyn:IfaceAt 3 w
 erng:IfaceAt 4 w
 tz:w.cell? ⟨7,15,none⟩=some (.int .u8 4)
namespace AX
abbrev AT(f:FuncId)(l:List A)(h:Hp)(x:A):Prop:=ACall Tryz.prog GT f l h fun v h'=>v=x/\h'=h
abbrev AC:=ACall Tryz.prog GT
theorem Fn{v:A}{Q:A->Prop}(h:Q v):∃a,le v a/\Q a:=⟨_,le_refl _,h⟩
theorem mixedT:Tryz.prog.follows Departure.mixedOrders=true:=by kernel_rfl
theorem ajp{x:A}{v:Value}(h:∀C c,Rep C x c->c=v):∀C cs,RepL C [x] cs->cs=[v]:=fun C cs hr=>by
 obtain⟨c,cs',rfl,h1,h2⟩:=repL_cons.1 hr;rw[azm]at h2;subst h2;rw[h C c h1]
theorem bky{x y:A}{v u:Value}(h:∀C c,Rep C x c->c=v)(h':∀C c,Rep C y c->c=u):∀C cs,RepL C [x,y] cs->cs=[v,u]:=fun C cs hr=>by
 obtain⟨c,cs',rfl,h1,h2⟩:=repL_cons.1 hr;rw[ajp h' C cs' h2,h C c h1]
theorem aqy{l:List UInt8}:∀C c,Rep C (.str l) c->c=.string ⟨l.toArray⟩:=fun C c h=>rep_str.1 h
theorem bk7{k:IntKind}{n:Int}:∀C c,Rep C (.int k n) c->c=.int k n:=fun C c h=>rep_int.1 h
theorem bx6(s:List UInt8)(hl:s.length<=2000000)(h:Hp):ACall Tryz.prog GT 48 [.str s] h fun v h'=>v=.bool (Str.valid s)/\h'=h:=
 azs (ajp aqy) (fun w hg=>bz7 ⟨s.toArray⟩ w (by rw[size_mk];exact hl) hg.tabs) (fun C=>az7.2 rfl) h
theorem cz4(s:List UInt8)(h:Hp):ACall Tryz.prog GT 64 [.str s] h fun v h'=>v=.int .i64 (Val.textZ s)/\h'=h:=
 azs (ajp aqy) (fun w hg=>cqx s w hg.tabs) (fun C=>rep_int.2 rfl) h
theorem cxw(n:Int)(h:Hp):ACall Tryz.prog GT 63 [.int .i64 n] h fun v h'=>v=.bool (decide (-9007199254740992<=n/\n<=9007199254740992))/\h'=h:=
 azs (ajp bk7) (fun w hg=>(axg n w).mono fun e w' ⟨h1,h2⟩=>⟨h1,by rw[h2];exact Below.refl _ _⟩) (fun C=>az7.2 rfl) h
theorem awe(dst:List UInt8)(n:Int)(hd:dst.length<=1000000000)(h0:-9223372036854775808<=n)(h1:n<=9223372036854775807)(h:Hp):ACall Tryz.prog GT 142 [.str dst,.int .i64 n] h fun v h'=>v=.str (dst++Wire.num n)/\h'=h:=
 azs (bky aqy bk7) (fun w hg=>avr dst n w hd h0 h1) (fun C=>rep_str.2 rfl) h
theorem cqo(k n:Int)(s:List UInt8)(o o':Own)(W W':Nat)(rs rs':List (List A))(h:Hp):ACall Tryz.prog GT 62 [.agg [.int .i64 k,.int .i64 n,.str s,.sl W o rs,.sl W' o' rs']] h fun v h'=>v=.bool (Val.shapedB k n s rs.length rs'.length)/\h'=h:=by
 intro C cs hI ha;obtain⟨c,cs',rfl,h1,h2⟩:=repL_cons.1 ha;rw[azm]at h2;subst h2;obtain⟨ds,rfl,h3⟩:=rep_agg.1 h1;obtain⟨c0,d0,rfl,e0,h3⟩:=repL_cons.1 h3;obtain⟨c1,d1,rfl,e1,h3⟩:=repL_cons.1 h3;obtain⟨c2,d2,rfl,e2,h3⟩:=repL_cons.1 h3;obtain⟨c3,d3,rfl,e3,h3⟩:=repL_cons.1 h3;obtain⟨c4,d4,rfl,e4,h3⟩:=repL_cons.1 h3;rw[azm]at h3;subst h3;rw[rep_int]at e0 e1;rw[rep_str]at e2;subst e0;subst e1;subst e2;obtain⟨a,ca,rfl,_⟩:=rep_sl.1 e3;obtain⟨b,cb,rfl,_⟩:=rep_sl.1 e4;refine(bkf k n s a b rs.length ca rs'.length cb C.w).mono ?_;rintro e w' ⟨rfl,hb⟩;obtain⟨i1,s1⟩:=aq3 hI hb;exact⟨C.at w',h,_,_,rfl,rfl,i1,s1,az7.2 rfl,rfl,rfl⟩
def rdr(r:Wire.St):Blk:=.cells 157 [.str r.rest,.int .i64 r.e,.bool true]
theorem dqe{r:Wire.St}:∀C es,RepL C [.str r.rest,.int .i64 r.e,.bool true] es->es=[.string ⟨r.rest.toArray⟩,.int .i64 r.e,.bool true]:=fun C es h=>by
 obtain⟨c0,d0,rfl,e0,h⟩:=repL_cons.1 h;obtain⟨c1,d1,rfl,e1,h⟩:=repL_cons.1 h;obtain⟨c2,d2,rfl,e2,h⟩:=repL_cons.1 h;rw[azm]at h;subst h;rw[rep_str.1 e0,rep_int.1 e1,az7.1 e2]
theorem dzj{r:Wire.St}(C:Ctx):RepL C [.str r.rest,.int .i64 r.e,.bool true] [.string ⟨r.rest.toArray⟩,.int .i64 r.e,.bool true]:=
 repL_cons.2 ⟨_,_,rfl,rep_str.2 rfl,repL_cons.2 ⟨_,_,rfl,rep_int.2 rfl,repL_cons.2 ⟨_,_,rfl,az7.2 rfl,azm.2 rfl⟩⟩⟩
theorem bw9{f:FuncId}{extra:List A}{ecs:List Value}{v:A}{cv:Value}{r r':Wire.St}(hargs:∀C es,RepL C extra es->es=ecs)(hv:∀C,Rep C v cv)
  (hc:∀g w,Rdr w g r->Calls Tryz.prog f (.pointer (some ⟨g,0,none⟩)::ecs).toArray w fun e w'=>e=.returned cv/\Rdr w' g r'/\w.grownBy w' (some g)) {h:Hp} {i:Nat} (hb:h.b[i]?=some (rdr r)):
  ACall Tryz.prog GT f (.ptr i 0::extra) h fun v' h'=>v'=v/\h'=⟨h.b.set i (rdr r'),h.t⟩:=
 bwh hargs dqe dzj hv (fun w g hw=>hc g w hw) hb
theorem cji:∀C es,RepL C [] es->es=[]:=fun C es h=>azm.1 h
theorem axa{h:Hp}{i:Nat}{r:Wire.St}(hb:h.b[i]?=some (rdr r))(hl:r.rest.length<=100000000):ACall Tryz.prog GT 79 [.ptr i 0] h fun v h'=>v=.int .i64 (Wire.numR r).2/\h'=⟨h.b.set i (rdr (Wire.numR r).1),h.t⟩:=
 bw9 cji (fun C=>rep_int.2 rfl) (fun g w hw=>bkx g r w hw hl) hb
theorem ajq{h:Hp}{i:Nat}{r:Wire.St}(hb:h.b[i]?=some (rdr r))(hl:r.rest.length<=100000000):ACall Tryz.prog GT 109 [.ptr i 0] h fun v h'=>v=.str (Wire.strR r).2/\h'=⟨h.b.set i (rdr (Wire.strR r).1),h.t⟩:=
 bw9 cji (fun C=>rep_str.2 rfl) (fun g w hw=>bka g r w hw hl) hb
theorem ays{h:Hp}{i:Nat}{r:Wire.St}(hb:h.b[i]?=some (rdr r))(hl:r.rest.length<=100000000):ACall Tryz.prog GT 110 [.ptr i 0,.int .i64 1] h fun v h'=>v=.int .i64 ((Wire.cntR r 1).2:Nat)/\h'=⟨h.b.set i (rdr (Wire.cntR r 1).1),h.t⟩:=
 bw9 (ajp bk7) (fun C=>rep_int.2 rfl) (fun g w hw=>count_any g r w hw hl) hb
theorem set_self{h:Hp}{i:Nat}{b:Blk}(hb:h.b[i]?=some b):(⟨h.b.set i b,h.t⟩:Hp)=h:=by
 have hi:i<h.b.length:=(Zc.1 hb).1;have:h.b.set i b=h.b:=by
  apply List.ext_getElem?;intro j;rw[Zj];by_cases e:i=j
  ·subst e;rw[if_pos rfl,if_pos hi,hb]
  ·rw[if_neg e]
 rw[this]
theorem dzf{h:Hp}{i:Nat}{r:Wire.St}(hb:h.b[i]?=some (rdr r)):ACall Tryz.prog GT 82 [.ptr i 0] h fun v h'=>v=.int .i64 r.rest.length/\h'=h:=by
 have:=bw9 (v:=.int .i64 r.rest.length) (r':=r) cji (fun C=>rep_int.2 rfl) (fun g w hw=>(cj4 g r w hw).mono fun e w' ⟨h1,h2⟩=>⟨h1,by rw[h2];exact hw,by rw[h2];exact aj3 w _⟩) hb;rw[set_self hb]at this;exact this
theorem bv2{h:Hp}{i:Nat}{r:Wire.St}(hb:h.b[i]?=some (rdr r)):ACall Tryz.prog GT 104 [.ptr i 0] h fun v h'=>v=.int .i64 r.e/\h'=h:=by
 have:=bw9 (v:=.int .i64 r.e) (r':=r) cji (fun C=>rep_int.2 rfl) (fun g w hw=>(cwx g r w hw).mono fun e w' ⟨h1,h2⟩=>⟨h1,by rw[h2];exact hw,by rw[h2];exact aj3 w _⟩) hb;rw[set_self hb]at this;exact this
def wtr(ver:Int)(l:List UInt8):Blk:=.opq (fun F g w=>WF F g ver l w) (fun o=>if o=2 then some (.int .i64 ver)else none)
def dead:Blk:=.opq (fun _ _ _=>True) (fun _=>none)
def Wt(h:Hp)(i:Nat)(ver:Int)(l:List UInt8):Prop:=h.b[i]?=some (wtr ver l)\/(l=[]/\h.b[i]?=some (.cells 144 [.nilp,.sl 0 .nil [],.int .i64 ver]))
theorem WF.stable{F:Nat->Prop}{b:Nat}{ver:Int}{l:List UInt8}{w w':World}(h:WF F b ver l w)(hs:∀g,F g->w'.heap[g]?=w.heap[g]?):WF F b ver l w':=by
 obtain⟨p,v,hp,hb,hown,hne,hF,hFk⟩:=h;refine⟨p,v,hp,(hs b hF).trans hb,⟨hown.1,?_⟩,hne,hF,hFk⟩;rcases hown.2 with h1|⟨g,cap,cur,fz,rfl,h2,h3,h4⟩
 ·exact .inl h1
 ·exact .inr ⟨g,cap,cur,fz,rfl,h2,(hs g (hFk g rfl)).trans h3,h4⟩
theorem Wt.lt{h:Hp}{i:Nat}{ver:Int}{l:List UInt8}(hw:Wt h i ver l):i<h.b.length:=by
 rcases hw with h1|⟨_,h1⟩
 ·exact(Zc.1 h1).1
 ·exact(Zc.1 h1).1
theorem Wt.live{h:Hp}{i:Nat}{ver:Int}{l:List UInt8}(hw:Wt h i ver l):∃b0:Blk,h.b[i]?=some b0/\b0.live=true:=by
 rcases hw with h1|⟨_,h1⟩<;>exact⟨_,h1,rfl⟩
theorem Wt.wf{h:Hp}{i:Nat}{ver:Int}{l:List UInt8}{C:Ctx}{G:World->Prop}(hw:Wt h i ver l)(hI:Inv G C h):WF (fun g=>C.own g=some (C.lab i)) (C.κ i) ver l C.w:=by
 have hi:i<C.nb:=by rw[<-hI.nb];exact hw.lt
 rcases hw with h1|⟨rfl,h1⟩
 ·exact(hI.box i _ h1).1 C.w (fun _ _=>rfl) (Ze _)
 ·obtain⟨cs,k1,k2⟩:=hI.box i _ h1;obtain⟨c0,d0,rfl,e0,k2⟩:=repL_cons.1 k2;obtain⟨c1,d1,rfl,e1,k2⟩:=repL_cons.1 k2;obtain⟨c2,d2,rfl,e2,k2⟩:=repL_cons.1 k2;rw[azm]at k2;subst k2;rw[azx]at e0;rw[rep_int]at e2;subst e0;subst e2;obtain⟨a,cap,rfl,_,_,e3,e4,_⟩:=rep_sl.1 e1;subst e3;subst e4;exact⟨_,_,.inl rfl,k1,⟨rfl,.inl ⟨rfl,rfl⟩⟩,by simp[Value.ownBlock],hI.ok h1 rfl,fun k hk=>by simp[Value.ownBlock]at hk⟩
theorem cwr{C:Ctx}{i:Nat}{ver:Int}{l:List UInt8}(h:WF (fun g=>C.own g=some (C.lab i)) (C.κ i) ver l C.w):BlkRep C i (wtr ver l):=by
 refine⟨fun w' hw _=>WF.stable h hw,fun o x hx=>?_⟩;have hx':(if o=2 then some (A.int .i64 ver)else none)=some x:=hx;split at hx'
 ·next e=>
  injection hx' with hx';subst hx';subst e;obtain⟨p,v,hp,hb,_⟩:=h;exact⟨_,(az4 hb).2.2.1,rep_int.2 rfl⟩
 ·cases hx'
theorem bxp{h:Hp}{i:Nat}{ver:Int}{l:List UInt8}(hw:Wt h i ver l)(s:List UInt8)(hlen:l.length+s.length<=1000000000):
  ACall Tryz.prog GT 121 [.ptr i 0,.str s] h fun v h'=>v=.tup [.int .i64 s.length,.nili]/\h'=⟨h.b.set i (wtr ver (l++s)),h.t⟩:=by
 intro C es hI ha;obtain⟨c,es',rfl,h1,h2⟩:=repL_cons.1 ha;obtain⟨rfl,hi⟩:=rep_ptr.1 h1;obtain rfl:=ajp aqy C es' h2;refine(cq2 (hw.wf hI) s hlen).mono ?_;rintro e w' ⟨rfl,m1,m2⟩;have hrep:BlkRep (C.turn w' i true) i (wtr ver (l++s)):=by
  refine cwr ?_;obtain⟨p,v,hp,hb,hown,hne,hF,hFk⟩:=m1;have hlt:=(az4 hb).2.2.2.2.2;have hcl:∀k,k<w'.heap.size->(C.own k=some (C.lab i)\/C.w.heap.size<=k)->(C.turn w' i true).own k=some (C.lab i):=fun k hk hor=>by
   show(if k<C.w.heap.size then C.own k else if true=true/\k<w'.heap.size then some (C.lab i)else none)=some (C.lab i)
   split
   ·rcases hor with h3|h3
    ·exact h3
    ·omega
   ·rw[if_pos ⟨rfl,hk⟩]
  refine⟨p,v,hp,hb,hown,hne,hcl _ hlt hF,fun k hk=>hcl k ?_ (hFk k hk)⟩;rcases hown.2 with⟨rfl,_⟩|⟨g,cap,cur,fz,rfl,_,h3,_⟩
  ·simp[Value.ownBlock]at hk
  ·simp only[Value.ownBlock,Zb]at hk;subst hk;exact(ZJ.1 h3).1
 obtain⟨i1,s1⟩:=aqe (b':=wtr ver (l++s)) true hI (hw.live).choose_spec.1 (hw.live).choose_spec.2 m2.os m2.tape m2.output m2.size (fun g hg hne=>m2.block g hg hne) (fun _=>hrep);exact⟨_,_,.tup [.int .i64 s.length,.nili],_,rfl,rfl,i1,s1,rep_tup.2 ⟨_,rfl,repL_cons.2 ⟨_,_,rfl,rep_int.2 rfl,repL_cons.2 ⟨_,_,rfl,bvs.2 rfl,azm.2 rfl⟩⟩⟩,rfl,rfl⟩
theorem cyy{h:Hp}{i:Nat}{ver:Int}{l:List UInt8}(hw:Wt h i ver l):ACall Tryz.prog GT 96 [.ptr i 0] h fun v h'=>v=.int .i64 l.length/\h'=h:=by
 intro C es hI ha;obtain⟨c,es',rfl,h1,h2⟩:=repL_cons.1 ha;obtain⟨rfl,hi⟩:=rep_ptr.1 h1;rw[azm]at h2;subst h2;refine(cw2 (hw.wf hI).wtr).mono ?_;rintro e w' ⟨rfl,rfl⟩;exact⟨C,h,_,_,rfl,rfl,hI,Step.refl C,rep_int.2 rfl,rfl,rfl⟩
theorem bwj{h:Hp}{i:Nat}{ver:Int}{l:List UInt8}(hw:Wt h i ver l)(h0:l≠[]):ACall Tryz.prog GT 97 [.ptr i 0] h fun v h'=>v=.str l/\h'=⟨h.b.set i dead,h.t⟩:=by
 intro C es hI ha;obtain⟨c,es',rfl,h1,h2⟩:=repL_cons.1 ha;obtain⟨rfl,hi⟩:=rep_ptr.1 h1;rw[azm]at h2;subst h2;refine(cze (hw.wf hI) h0).mono ?_;rintro e w' ⟨rfl,m2⟩;obtain⟨i1,s1⟩:=aqe (b':=dead) false hI (hw.live).choose_spec.1 (hw.live).choose_spec.2 m2.os m2.tape m2.output m2.size (fun g hg hne=>m2.block g hg hne) (fun _=>⟨fun _ _ _=>trivial,fun o x hx=>by cases hx⟩);exact⟨_,_,.str l,_,rfl,rfl,i1,s1,rep_str.2 rfl,rfl,rfl⟩
end AX
end
section
open Go.ChangeShapes Go.WideShapes Go.ChangeAt Go.RowKit
namespace Card
theorem own:ownKnob Tryz.prog.godebug=none:=by kernel_rfl
theorem first_eq:Go.Pinned.utf8First=Lib.firstData:=by kernel_rfl
theorem accept_eq:(Rows.laid_unicode_utf8_acceptRanges:DataW Unit)=Lib.acceptData:=by kernel_rfl
theorem tz_name : Tryz.prog.globalNamed "math/bits.deBruijn64tab" = some 7 := by kernel_rfl
theorem tz_type:(Tryz.prog.globals[7]?).map (·.type)=some 260:=by kernel_rfl
theorem tz_cells:Tryz.prog.cellsOf 260=64:=by kernel_rfl
theorem tz_cell:Tryz.prog.cellsOf 5=1:=by kernel_rfl
def tab64:List Int:=[0,1,56,2,57,49,28,3,61,58,42,50,38,29,17,4,62,47,59,36,45,43,51,22,53,39,33,30,24,18,12,5,63,55,48,27,60,41,37,16,46,35,44,21,52,32,23,11,54,26,40,15,34,20,31,10,25,14,19,9,13,8,7,6]
theorem tab64_eq:(Rows.laid_math_bits_deBruijn64tab:DataW Unit)=Lib.tabData .u8 tab64:=by kernel_rfl
theorem iface_reads{P:Program}{w:World}{n:String}{g:Nat}{t:TypeId}{d:DataW Unit}{m:Array (String×TypeId)}(hg:P.globalNamed n=some g)(ht:(P.globals[g]?).map (·.type)=some t)(hu:P.underlying t=some (.interface m))(h:Lib.VarReads P w n d):IfaceAt g w:=by
 obtain⟨g',t',cs,fuel,p,h1,h2,h3,h4⟩:=h;rw[hg]at h1;injection h1 with h1;subst h1
 rw[ht]at h2;injection h2 with h2;subst h2
 have hc:=World.var?_cell hg h3 0;obtain⟨l⟩:=cs;cases fuel with
 |zero=>simp[DataW.trod]at h4
 |succ k=>
  match l,hc with
  |[],_=>simp[DataW.trod,hu]at h4
  |[.nilIface],hc=>exact⟨_,hc,.inl rfl⟩
  |[.iface u v],hc=>exact⟨_,hc,.inr ⟨u,v,rfl⟩⟩
  |v::x::l,_=>cases v<;>simp[DataW.trod,hu]at h4
  |[v],hc=>cases v<;>first|exact⟨_,hc,.inl rfl⟩|exact⟨_,hc,.inr ⟨_,_,rfl⟩⟩|simp[DataW.trod,hu]at h4
theorem tz_of {W : World} (r3 : Lib.VarReads Tryz.prog W "math/bits.deBruijn64tab" (Lib.tabData .u8 tab64)) : W.cell? ⟨7, 15, none⟩ = some (.int .u8 4) := by
 obtain⟨g,t,cs,fuel,p,hg,hty,hvar,hd⟩:=r3;obtain rfl:=Zan (tz_name.symm.trans hg);obtain rfl:=Zan (tz_type.symm.trans hty);have hcs:=Lib.cells_of_tab Tryz.underlying260 Tryz.underlying5 tz_cell tz_cells hd;have:=World.var?_cell hg hvar 15;rw[this,<-Array.getElem?_toList,hcs];rfl
theorem gt_of{W:World}(h:laidMetH Tryz.prog Rows.workspaceNilRow.laid W):GT W:=by
 have hL:laidMet Tryz.prog Rows.workspaceNilRow.laid W:=by
  have e:=Go.MakeChecks.laidMetH_plain Tryz.prog Rows.workspaceNilRow.laid W (by kernel_rfl)
  rwa [e]at h
 have r1 : Lib.VarReads Tryz.prog W "unicode/utf8.first" Lib.firstData := by
  rw[<-first_eq];exact Lib.laidMet.reads hL (.tail _ (.tail _ (.tail _ (.tail _ (.tail _ (.tail _ (.head _)))))))
 have r2 : Lib.VarReads Tryz.prog W "unicode/utf8.acceptRanges" Lib.acceptData := by
  rw[<-accept_eq];exact Lib.laidMet.reads hL (.tail _ (.tail _ (.tail _ (.head _))))
 exact⟨utf8Tabs_of_reads (ρ:=Tryz.lays260_ren) Tryz.lays260 ⟨by kernel_rfl,by kernel_rfl,by kernel_rfl,by kernel_rfl,by kernel_rfl,by kernel_rfl,by kernel_rfl⟩ r1 r2,
  iface_reads (by kernel_rfl) (by kernel_rfl) Tryz.underlying178 (Lib.laidMet.reads hL (.tail _ (.tail _ (.tail _ (.tail _ (.tail _ (.head _))))))),iface_reads (by kernel_rfl) (by kernel_rfl) Tryz.underlying178 (Lib.laidMet.reads hL (.tail _ (.tail _ (.tail _ (.tail _ (.head _)))))),tz_of (by rw[<-tab64_eq];exact Lib.laidMet.reads hL (.tail _ (.head _)))⟩
def ints(k:IntKind)(l:List Int):Array Value:=(l.map fun z=>Value.int k z).toArray
def u8s(l:List Int):Array Value:=ints .u8 l
def setTab(h:Array Obj)(g:Nat)(cs:Array Value):Array Obj:=h.modify g fun
 |.cells _ t frozen=> .cells cs t frozen
 |o=>o
noncomputable def low:Nat:=(World.holding Tryz.prog default ⟨#[],#[],[]⟩).heap.size
noncomputable def laidWorld(os:Os)(args:Array Value):World:=
 { World.holding Tryz.prog os ⟨#[.cells #[.string { data:=#[118,97,108,117,101,32,111,117,116,32,111,102,32,114,97,110,103,101] }] 253,.cells #[.string { data:=#[105,110,118,97,108,105,100,32,115,121,110,116,97,120] }] 253],args,[]⟩with
  heap:=(setTab (setTab (setTab (setTab (setTab (setTab (setTab (World.holding Tryz.prog os ⟨#[.cells #[.string { data:=#[118,97,108,117,101,32,111,117,116,32,111,102,32,114,97,110,103,101] }] 253,.cells #[.string { data:=#[105,110,118,97,108,105,100,32,115,121,110,116,97,120] }] 253],args,[]⟩).heap 6 (ints .u8 [0,1,28,2,29,14,24,3,30,22,20,15,25,17,4,8,31,27,13,23,21,19,16,7,26,12,18,6,11,5,10,9])) 7 (ints .u8 [0,1,56,2,57,49,28,3,61,58,42,50,38,29,17,4,62,47,59,36,45,43,51,22,53,39,33,30,24,18,12,5,63,55,48,27,60,41,37,16,46,35,44,21,52,32,23,11,54,26,40,15,34,20,31,10,25,14,19,9,13,8,7,6])) 5 (ints .u64 [1,10,100,1000,10000,100000,1000000,10000000,100000000,1000000000,10000000000,100000000000,1000000000000,10000000000000,100000000000000,1000000000000000,10000000000000000,100000000000000000,1000000000000000000,10000000000000000000])) 2 (ints .u8 [128,191,160,191,128,159,144,191,128,143,0,0,0,0,0,0,0,0,0,0,0,0,0,0,0,0,0,0,0,0,0,0])) 4 (#[.iface 251 (.pointer (some ⟨low+0,0,none⟩))])) 3 (#[.iface 251 (.pointer (some ⟨low+1,0,none⟩))])) 1 (u8s Lib.firstTab)) }
end Card
end
section
open Go.RowKit
mutual
def D.cells:D->List AX.A
 |.int k n=>[.int k n]
 |.str l=>[.str l]
 |.bool b=>[.bool b]
 |.agg l=>D.cellsL l
 |.sl W l=>[.sl W .no (D.rows l)]
def D.cellsL:List D->List AX.A
 |[]=>[]
 |d::l=>d.cells++D.cellsL l
def D.rows:List D->List (List AX.A)
 |[]=>[]
 |d::l=>d.cells::D.rows l
end
mutual
theorem D.cells_data:∀(d:D) (x:AX.A),x∈d.cells->x.data=true
 |.int k n,x,h=>by unfold D.cells at h;simp at h;subst h;rfl
 |.str l,x,h=>by unfold D.cells at h;simp at h;subst h;rfl
 |.bool b,x,h=>by unfold D.cells at h;simp at h;subst h;rfl
 |.agg l,x,h=>by unfold D.cells at h;exact D.cellsL_data l x h
 |.sl W l,x,h=>by unfold D.cells at h;simp at h;subst h;rfl
theorem D.cellsL_data:∀(l:List D) (x:AX.A),x∈D.cellsL l->x.data=true
 |[],x,h=>by unfold D.cellsL at h;simp at h
 |d::l,x,h=>by
  unfold D.cellsL at h;rcases Ya.1 h with h|h
  ·exact D.cells_data d x h
  ·exact D.cellsL_data l x h
end
namespace AX
def Ctx.of(w:World):Ctx:={ w:=w,S:=fun g _=>g<w.heap.size,κ:=fun _=>0,nb:=0,τ:=fun _=>0,hw:=fun _=>none,own:=fun _=>none,base:=w.heap.size,kap:=fun _=>0,lab:=fun i=>i }
theorem inv_of{G:World->Prop}{w:World}(hG:∀w':World,(∀g,g<w.heap.size->w'.heap[g]?=w.heap[g]?)->G w'):Inv G (Ctx.of w) ⟨[],[]⟩ where
 nb:=rfl
 box:=fun i b h=>by simp at h
 ownk:=⟨fun i b h=>by simp at h,fun i j b b' h=>by simp at h⟩
 ownlt:=fun g i h=>by simp[Ctx.of]at h
 prot:=fun g j h=>⟨h,rfl,fun t E W m ht=>by simp[Ctx.of]at ht⟩
 rows:=fun t E W m h=>by simp[Ctx.of]at h
 inj:=fun t t' h=>by simp[Ctx.of]at h
 toks:=fun t=>by simp[Ctx.of]
 base:=Ze _
 glob:=hG
theorem cqg{P:Program}{G:World->Prop}{f:FuncId}{args:List A}{vs:List Value}{w:World}(hc:ACall P G f args ⟨[],[]⟩ fun v _=>v=.bool true)(hG:∀w':World,(∀g,g<w.heap.size->w'.heap[g]?=w.heap[g]?)->G w')
  (ha:RepL (Ctx.of w) args vs):Calls P f vs.toArray w fun e w'=>e=.returned (.bool true)/\Below w.heap.size w w':=by
 refine(hc (Ctx.of w) vs (inv_of hG) ha).mono ?_;rintro e w' ⟨C',h',v,cv,rfl,rfl,_,st,hr,rfl⟩;rw[az7]at hr;subst hr;exact⟨rfl,st.os,st.tape,st.output,st.size,fun g hg=>st.frame g hg rfl fun t ht=>by simp[Ctx.of]at ht⟩
theorem czr{a b:Nat}{w:World}(h:Lib.Utf8Tabs a b w):∀w':World,(∀g,g<w.heap.size->w'.heap[g]?=w.heap[g]?)->Lib.Utf8Tabs a b w':=by
 intro w' hw;have hlt:∀{g j:Nat} {v:Value},w.cell? ⟨g,j,none⟩=some v->g<w.heap.size:=fun {g j v} h=>(axv h).2
 have hc:∀{g j:Nat} {v:Value},w.cell? ⟨g,j,none⟩=some v->w'.cell? ⟨g,j,none⟩=some v:=fun {g j v} h=>by
  rw[<-h];simp only[World.cell?,hw g (hlt h)]
 exact⟨fun c hcl=>hc (h.1 c hcl),fun i hi=>⟨hc (h.2 i hi).1,hc (h.2 i hi).2⟩⟩
end AX
end
section
open Go.RowKit Go.ChangeShapes Go.WideShapes
namespace AX
theorem bw0{w:World}(g:GT w):∀w':World,(∀g,g<w.heap.size->w'.heap[g]?=w.heap[g]?)->GT w':=fun w' hw=>by
 have hi:∀{n:Nat},IfaceAt n w->IfaceAt n w':=fun⟨ev,h1,h2⟩=>⟨ev,by rw[<-h1];simp only[World.cell?,hw _ (axv h1).2],h2⟩
 exact⟨czr g.tabs w' hw,hi g.esyn,hi g.erng,by rw[<-g.tz];simp only[World.cell?,hw _ (axv g.tz).2]⟩
theorem cqn(a:ByteArray):Value.string a=.string ⟨a.data.toList.toArray⟩:=by simp
section
variable {H:Type} {enc:TypeId×Value->H} {w:World} {base:Nat} {spare:Nat->Bool} {held:Bool} {r:Reach} {b0:Nat} {v:Value} {d:DataW H} {p:List MemPlace}
end
end AX
end
section
open Go.RowKit
namespace AX
theorem bv0{P:Program}{G:World->Prop}{ops:List AOper}{Q:AExit->Ts->Hp->Prop}{ts:Ts}{h:Hp}(m:Nat)(hb:(seqB m ops&&chainB (closeOps ops) (actsF m 0 (closeOps ops)))=true)(hp:aseq P G m 0 (flagsOf m ops) ops [] [] (Q .normal) ts h):awp P G (.reg true ops) Q ts h:=
 ckj m (Bool.and_eq_true_iff.1 hb).1 hp
theorem evp{A F:Prop}(f:F)(h:F->A:=by intro f;simp only[f]<;>with_reducible rfl):A:=h f
theorem ev0{A F:Prop}(f:F)(h:F->A:=by intro f;simp only[aq5,aqg,aqf,bzw,bzt,aqh,ajz,ajc,aji,azq,axm,astep,bop,uop,loadA,storeA,appA,ssliceA,eqA,eqCells,fillA,rowsA,setCells,A.cells,A.one,A.data,az3,ZH,YN,ZW,Z5,Yz,ZR,Yx,YR,Y2,Z7,YB,ZO,Yg,Yj,ZT,ZQ,ZY,Zs,akm,ak7,ajo,ak2,aku,awo,awq,awi,awz,awx,aw2,Zf,Zp,ZA,ZL,Zx,YV,YW,YX,ZS,Yd,Yp,Y8,Yu,Za,Zv,Nat.reduceAdd,Nat.reduceSub,Nat.reduceMul,Nat.reduceLeDiff,Nat.reduceEqDiff,Nat.reduceBEq,Yt,YO,Int.reduceBEq,Int.reduceBNe,Int.reduceLT,Int.reduceLE,Int.reduceEq,Int.le_refl,Zal,if_true,if_false,reduceIte,ite_true,ite_false,true_and,and_true,ne_eq,YD,YT,Zo,reduceCtorEq,and_self,Yf,Yl,Ze,Ye,Z9,and_self,decide_true,decide_false,Y7,Zah,Bool.or_true,Zab,Y1,YA,Zad,Bool.not_not,bju,bvf,bj7,cqd,cqa,cqs,rowsR,ZN,List.flatten_nil,mgetA,msetA,mdelA,mclrA,mlenA,mgetV,Zai,Y6,f]<;>with_reducible rfl):A:=h f
theorem eu0{A F:Prop}(f:F)(h:F->A:=by intro f;simp only[aq5,aqg,aqf,bzw,bzt,aqh,ajz,ajc,aji,azq,axm,astep,bop,uop,loadA,storeA,appA,ssliceA,eqA,eqCells,fillA,rowsA,setCells,A.cells,A.one,A.data,az3,ZH,YN,ZW,Z5,Yz,ZR,Yx,YR,Y2,Z7,YB,ZO,Yg,Yj,ZT,ZQ,ZY,Zs,akm,ak7,ajo,ak2,aku,awo,awq,awi,awz,awx,aw2,Zf,Zp,ZA,ZL,Zx,YV,YW,YX,ZS,Yd,Yp,Y8,Yu,Za,Zv,Nat.reduceAdd,Nat.reduceSub,Nat.reduceMul,Nat.reduceLeDiff,Nat.reduceEqDiff,Nat.reduceBEq,Yt,YO,Int.reduceBEq,Int.reduceBNe,Int.reduceLT,Int.reduceLE,Int.reduceEq,Int.le_refl,Zal,if_true,if_false,reduceIte,ite_true,ite_false,true_and,and_true,ne_eq,YD,YT,Zo,reduceCtorEq,and_self,Yf,Yl,Ze,Ye,Z9,and_self,decide_true,decide_false,Y7,Zah,Bool.or_true,Zab,Y1,YA,Zad,Bool.not_not,bju,bvf,bj7,cqd,cqa,cqs,rowsR,ZN,List.flatten_nil,mgetA,msetA,mdelA,mclrA,mlenA,mgetV,Zai,Y6,f];rw[if_pos (by first|omega|(refine⟨?_,?_⟩<;>omega)|(simp only[true_and,and_true];omega))];with_reducible rfl):A:=h f
theorem aqj{A F:Prop}(f:F)(h:F->A:=by intro f;simp only[aq5,aqg,aqf,bzw,bzt,aqh,ajz,ajc,aji,azq,axm,astep,bop,uop,loadA,storeA,appA,ssliceA,eqA,eqCells,fillA,rowsA,setCells,A.cells,A.one,A.data,az3,ZH,YN,ZW,Z5,Yz,ZR,Yx,YR,Y2,Z7,YB,ZO,Yg,Yj,ZT,ZQ,ZY,Zs,akm,ak7,ajo,ak2,aku,awo,awq,awi,awz,awx,aw2,Zf,Zp,ZA,ZL,Zx,YV,YW,YX,ZS,Yd,Yp,Y8,Yu,Za,Zv,Nat.reduceAdd,Nat.reduceSub,Nat.reduceMul,Nat.reduceLeDiff,Nat.reduceEqDiff,Nat.reduceBEq,Yt,YO,Int.reduceBEq,Int.reduceBNe,Int.reduceLT,Int.reduceLE,Int.reduceEq,Int.le_refl,Zal,if_true,if_false,reduceIte,ite_true,ite_false,true_and,and_true,ne_eq,YD,YT,Zo,reduceCtorEq,and_self,Yf,Yl,Ze,Ye,Z9,and_self,decide_true,decide_false,Y7,Zah,Bool.or_true,Zab,Y1,YA,Zad,Bool.not_not,bju,bvf,bj7,cqd,cqa,cqs,rowsR,ZN,List.flatten_nil,mgetA,msetA,mdelA,mclrA,mlenA,mgetV,Zai,Y6,f,Int.natCast_add,Int.natCast_one]<;>trivial):A:=h f
theorem cvb{A F:Prop}(f:F)(h:F->A:=by intro f;simp only[aq5,aqg,aqf,bzw,bzt,aqh,ajz,ajc,aji,azq,axm,astep,bop,uop,loadA,storeA,appA,ssliceA,eqA,eqCells,fillA,rowsA,setCells,A.cells,A.one,A.data,az3,ZH,YN,ZW,Z5,Yz,ZR,Yx,YR,Y2,Z7,YB,ZO,Yg,Yj,ZT,ZQ,ZY,Zs,akm,ak7,ajo,ak2,aku,awo,awq,awi,awz,awx,aw2,Zf,Zp,ZA,ZL,Zx,YV,YW,YX,ZS,Yd,Yp,Y8,Yu,Za,Zv,Nat.reduceAdd,Nat.reduceSub,Nat.reduceMul,Nat.reduceLeDiff,Nat.reduceEqDiff,Nat.reduceBEq,Yt,YO,Int.reduceBEq,Int.reduceBNe,Int.reduceLT,Int.reduceLE,Int.reduceEq,Int.le_refl,Zal,if_true,if_false,reduceIte,ite_true,ite_false,true_and,and_true,ne_eq,YD,YT,Zo,reduceCtorEq,and_self,Yf,Yl,Ze,Ye,Z9,and_self,decide_true,decide_false,Y7,Zah,Bool.or_true,Zab,Y1,YA,Zad,Bool.not_not,bju,bvf,bj7,cqd,cqa,cqs,rowsR,ZN,List.flatten_nil,mgetA,msetA,mdelA,mclrA,mlenA,mgetV,Zai,Y6,forH,pastN,obsP,obsD,obsN,memN,YA,Y1,Zab,Bool.or_true,true_or,or_true,false_or,or_false,f]<;>exact ti):A:=h f
theorem go0{A B F:Prop}(f:F)(k:B)(h:F->B->A:=by intro f k;(repeat (first|with_reducible refine cvf ?_|with_reducible refine cyu ?_|with_reducible refine cvm ?_|with_reducible refine cyp ?_|with_reducible refine cyo ?_|with_reducible refine cvh ?_|with_reducible refine byo ?_|with_reducible refine go_ret ?_|with_reducible refine dzs ?_|with_reducible refine cys ?_|with_reducible refine dzm ?_|with_reducible refine dza ?_|with_reducible refine dzb ?_|((with_reducible refine dzq ?_ ?_);exact rfl)|with_reducible refine cvp ?_|((with_reducible apply by5);exact rfl;exact ev0 f)|((with_reducible apply by5);exact rfl;exact eu0 f)|((with_reducible apply ckl);exact rfl;exact ev0 f)|((with_reducible apply ckl);exact rfl;exact eu0 f)|((with_reducible refine cjs ?_ ?_);exact ev0 f)|((with_reducible refine go_skip ?_ ?_);exact ev0 f)|((with_reducible refine cqj ?_ ?_);exact ev0 f)|((with_reducible refine cws ?_ ?_);exact ev0 f)|((with_reducible apply cvu);exact ev0 f;exact rfl;exact ev0 f)|((with_reducible apply cvu);exact ev0 f;exact rfl;exact eu0 f)|((with_reducible apply cvw);exact ev0 f;exact rfl;exact ev0 f)|((with_reducible apply cvw);exact ev0 f;exact rfl;exact eu0 f)|((with_reducible refine cy8 ?_ ?_);exact ev0 f)|((with_reducible refine dz0 ?_ ?_);exact ev0 f)|((with_reducible apply ckd);exact ev0 f)|((with_reducible apply cxm);exact ev0 f)));exact k):A:=h f k
theorem gc0{A B F:Prop}(f:F)(k:B)(h:F->B->A:=by intro f k;first|((with_reducible apply go_call);exact ev0 f;exact k)|((with_reducible apply cqt);exact ev0 f;exact ev0 f;exact k)|((with_reducible apply cje);exact ev0 f;exact rfl;kernel_rfl;exact ev0 f;exact k)):A:=h f k
theorem azb{A B F:Prop}(f:F)(k:B)(h:F->B->A:=by intro f k;(repeat (first|with_reducible refine cvf ?_|with_reducible refine cw4 ?_|with_reducible refine dzo ?_|with_reducible refine cyp ?_|with_reducible refine cyo ?_|with_reducible refine cvh ?_|with_reducible refine byo ?_|with_reducible refine go_ret ?_|with_reducible refine dzs ?_|with_reducible refine cys ?_|with_reducible refine dzm ?_|with_reducible refine dza ?_|with_reducible refine dzb ?_|((with_reducible refine dzq ?_ ?_);exact rfl)|((with_reducible apply ckh);exact rfl;exact ev0 f;exact ev0 f;(first|exact evp f|exact ev0 f|exact eu0 f))|((with_reducible apply bwm);exact rfl;exact rfl;exact ev0 f)|((with_reducible apply bwm);exact rfl;exact rfl;exact eu0 f)|((with_reducible apply czx);exact rfl;exact ev0 f)|((with_reducible apply cxu);exact rfl;exact ev0 f)|((with_reducible apply cqi);exact ev0 f)|((with_reducible apply cwy);exact ev0 f;exact ev0 f;(first|exact evp f|exact ev0 f|exact eu0 f);(first|exact ti|exact cvb f))|((with_reducible apply dzp);exact rfl;decide +kernel;exact rfl;exact ev0 f)|((with_reducible apply bwe);exact rfl;exact rfl;exact ev0 f;(first|exact ti|exact cvb f))|((with_reducible apply dzp);exact rfl;decide +kernel;exact rfl;exact eu0 f)|((with_reducible apply bwe);exact rfl;exact rfl;exact eu0 f;(first|exact ti|exact cvb f))|((with_reducible apply cv9);exact rfl;decide +kernel;exact rfl;exact ev0 f;(first|exact ti|exact cvb f))|((with_reducible apply cj1);decide +kernel;exact rfl;exact ev0 f)|((with_reducible apply ckz);decide +kernel;exact rfl;exact ev0 f)|((with_reducible apply cky);exact ev0 f)|((with_reducible apply cqe);exact ev0 f;exact rfl;kernel_rfl;exact ev0 f)|((with_reducible apply cjb);exact ev0 f;exact rfl;exact rfl;kernel_rfl;exact ev0 f)|((with_reducible refine cy8 ?_ ?_);exact ev0 f)|((with_reducible refine dz0 ?_ ?_);exact ev0 f)|((with_reducible apply ckd);exact ev0 f)|((with_reducible apply cxm);exact ev0 f)|((with_reducible refine bv0 1 ?_ ?_);decide +kernel)|((with_reducible refine bv0 2 ?_ ?_);decide +kernel)));exact k):A:=h f k
theorem V_A:∀v:V,V.A v=.agg v.cells:=fun _=>rfl
theorem azk:∀k n s is ks,V.cells (.mk k n s is ks)=[.int .i64 k,.int .i64 n,.str s,.sl 5 .no (V.cellss is),.sl 1 .no (strsA ks)]:=fun k n s is ks=>by rw[V.cells]
theorem cym:∀(ver:Int) (l:List UInt8),wtr ver l=.opq (fun F g w=>WF F g ver l w) (fun o=>if o=2 then some (.int .i64 ver)else none):=fun _ _=>rfl
theorem use{P:Program}{G:World->Prop}{m i:Nat}{fl:List Bool}{past:List Hp}{obs:Obs}{d:Option Nat}{af:List Nat}{os:List AOper}{K:Ts->Hp->Prop}{ts:Ts}{h:Hp}{f:FuncId}{vs:List A}{h':Hp}{v:A}(hc:ACall P G f vs h fun v' h''=>v'=v/\h''=h')(k:aseq P G m (i+1) fl.tail os (pastN m h past) (obsN m af obs) K (put ts d v) h')(hm:(m=2->h'=h/\fl.headD false=false)/\(m≠2->obsP af obs h'):=by first|exact⟨fun e=>absurd e (by decide),fun _=>ti⟩|exact⟨fun e=>absurd e (by decide),fun _=>cvb ti⟩|exact⟨fun _=>⟨rfl,by decide +kernel⟩,fun e=>absurd rfl e⟩):CallK P G m i fl f vs h d af os past obs K ts:=rt hc hm k
theorem azo{A B F C:Prop}(f:F)(c:C)(k:B)(h:F->C->B->A:=by intro f c k;refine azb f ?_;(repeat ((first|refine use (c.1 _) ?_|refine use (c.1 _ _) ?_|refine use c.1 ?_|refine use (c.2.1 _) ?_|refine use (c.2.1 _ _) ?_|refine use c.2.1 ?_|refine use (c.2.2.1 _) ?_|refine use (c.2.2.1 _ _) ?_|refine use c.2.2.1 ?_|refine use (c.2.2.2.1 _) ?_|refine use (c.2.2.2.1 _ _) ?_|refine use c.2.2.2.1 ?_|refine use (c.2.2.2.2.1 _) ?_|refine use (c.2.2.2.2.1 _ _) ?_|refine use c.2.2.2.2.1 ?_|refine use (c.2.2.2.2.2.1 _) ?_|refine use (c.2.2.2.2.2.1 _ _) ?_|refine use c.2.2.2.2.2.1 ?_|refine use (c.2.2.2.2.2.2.1 _) ?_|refine use (c.2.2.2.2.2.2.1 _ _) ?_|refine use c.2.2.2.2.2.2.1 ?_|refine use (c.2.2.2.2.2.2.2.1 _) ?_|refine use (c.2.2.2.2.2.2.2.1 _ _) ?_|refine use c.2.2.2.2.2.2.2.1 ?_|refine use (c.2.2.2.2.2.2.2.2.1 _) ?_|refine use (c.2.2.2.2.2.2.2.2.1 _ _) ?_|refine use c.2.2.2.2.2.2.2.2.1 ?_);refine azb f ?_));exact k):A:=h f c k
theorem evg{A F:Prop}(f:F)(h:F->A:=by intro f;simp only[aq5,aqg,aqf,bzw,bzt,aqh,ajz,ajc,aji,azq,axm,astep,bop,uop,loadA,storeA,appA,ssliceA,eqA,eqCells,fillA,rowsA,setCells,A.cells,A.one,A.data,az3,ZH,YN,ZW,Z5,Yz,ZR,Yx,YR,Y2,Z7,YB,ZO,Yg,Yj,ZT,ZQ,ZY,Zs,akm,ak7,ajo,ak2,aku,awo,awq,awi,awz,awx,aw2,Zf,Zp,ZA,ZL,Zx,YV,YW,YX,ZS,Yd,Yp,Y8,Yu,Za,Zv,Nat.reduceAdd,Nat.reduceSub,Nat.reduceMul,Nat.reduceLeDiff,Nat.reduceEqDiff,Nat.reduceBEq,Yt,YO,Int.reduceBEq,Int.reduceBNe,Int.reduceLT,Int.reduceLE,Int.reduceEq,Int.le_refl,Zal,if_true,if_false,reduceIte,ite_true,ite_false,true_and,and_true,ne_eq,YD,YT,Zo,reduceCtorEq,and_self,Yf,Yl,Ze,Ye,Z9,and_self,decide_true,decide_false,Y7,Zah,forL,byx,Nat.reduceMod,Zb,Yj,ZT,f]<;>with_reducible rfl):A:=h f
theorem ing{A F:Prop}(f:F)(h:F->A:=by intro f;simp only[aq5,aqg,aqf,bzw,bzt,aqh,ajz,ajc,aji,azq,axm,astep,bop,uop,loadA,storeA,appA,ssliceA,eqA,eqCells,fillA,rowsA,setCells,A.cells,A.one,A.data,az3,ZH,YN,ZW,Z5,Yz,ZR,Yx,YR,Y2,Z7,YB,ZO,Yg,Yj,ZT,ZQ,ZY,Zs,akm,ak7,ajo,ak2,aku,awo,awq,awi,awz,awx,aw2,Zf,Zp,ZA,ZL,Zx,YV,YW,YX,ZS,Yd,Yp,Y8,Yu,Za,Zv,Nat.reduceAdd,Nat.reduceSub,Nat.reduceMul,Nat.reduceLeDiff,Nat.reduceEqDiff,Nat.reduceBEq,Yt,YO,Int.reduceBEq,Int.reduceBNe,Int.reduceLT,Int.reduceLE,Int.reduceEq,Int.le_refl,Zal,if_true,if_false,reduceIte,ite_true,ite_false,true_and,and_true,ne_eq,YD,YT,Zo,reduceCtorEq,and_self,Yf,Yl,Ze,Ye,Z9,and_self,decide_true,decide_false,Y7,Zah,forL,byx,Nat.reduceMod,Zb,Yj,ZT,f]<;>exact ti):A:=h f
theorem rung{A B F:Prop}(f:F)(k:B)(h:F->B->A:=by intro f k;(repeat (first|with_reducible refine dzl ?_|((with_reducible apply dqb);exact rfl;(refine⟨?_,?_⟩);exact evg f;(first|exact ti|exact ing f))));exact k):A:=h f k
def bxy:AX.AFn:=⟨50,aS [aR 1 (.box 32 (.t 0)),aR 2 (.mv (aI 0))] (.seq (aS [aR 6 (.load true 5 (.t 1)),aR 7 (.call 62 [.t 6]),aR 8 (.un .not (.t 7))] (.cond (.t 8) (aS [aR 2 (.mv (aI 1))] (.ret)) (.skip))) (.seq (aS [aF 9 0 1,aL 10 9] (.block 0 (aS [aR 12 (.bin .eql (.t 10) (aI 2)),aM 11 12] (.cond (.t 11) (aS [aF 13 1 1,aL 14 13,aR 15 (.call 63 [.t 14]),aR 16 (.un .not (.t 15))] (.cond (.t 16) (aS [aR 2 (.mv (aI 5))] (.ret)) (.skip))) (aS [aR 18 (.bin .eql (.t 10) (aI 3)),aM 17 18] (.cond (.t 17) (aS [aF 19 2 1,aL 20 19,aR 21 (.call 64 [.t 20]),aM 2 21] (.ret)) (aS [aR 23 (.bin .eql (.t 10) (aI 5)),aM 22 23] (.cond (.t 22) (aS [aF 24 4 1,aL 25 24,aR 26 (.len false (.t 25)),aR 27 (.mv (aI 0))] (.block 1 (.loop (aS [aR 28 (.bin .lss (.t 27) (.t 26))] (.seq (.cond (.t 28) (.skip) (.exit 1)) (.seq (.block 2 (aS [aM 29 27,aR 30 (.iaddr 1 (.t 25) (.t 27)),aL 31 30,aM 3 29,aM 4 31] (.seq (aS [aM 32 4,aR 33 (.call 64 [.t 32]),aM 5 33] (aS [aM 34 5,aR 35 (.bin .neq (.t 34) (aI 0))] (.cond (.t 35) (aS [aM 36 5,aM 2 36] (.ret)) (.skip)))) (aS [aM 37 3,aR 38 (.bin .gtr (.t 37) (aI 0)),aM 39 38,aG 40 (.mv (.t 4)) 39 true,aG 41 (.faddr 4 (.t 1)) 39 true,aG 42 (.load false 1 (.t 41)) 39 true,aG 43 (.mv (.t 3)) 39 true,aG 44 (.bin .sub (.t 43) (aI 1)) 39 true,aG 45 (.iaddr 1 (.t 42) (.t 44)) 39 true,aG 46 (.load false 1 (.t 45)) 39 true,aG 47 (.bin .leq (.t 40) (.t 46)) 39 true,aR 48 (.pick (.t 39) (.t 47) (.c (.bool false)))] (.cond (.t 48) (aS [aR 2 (.mv (aI 1))] (.ret)) (.skip)))))) (.reg false [aR 49 (.bin .add (.t 27) (aI 1)),aM 27 49]))))))) (.skip))))))))) (aS [aR 2 (.mv (aI 0))] (.ret)))),[.t 2]⟩
theorem cwh:AX.compFn Tryz.prog 41=some bxy:=by kernel_rfl
def ay3:AX.AFn:=⟨9,aS [aR 1 (.box 32 (.t 0)),aR 2 (.mv (aI 0))] (aS [aR 3 (.alloc 3 [.int .i64 0]),aU (.store 1 (.t 3) (aI 0))] (aS [aR 4 (.alloc 82 [.nilf])] (aS [aR 5 (.mkfn 40 [.t 3,.t 4]),aU (.store 1 (.t 4) (.t 5))] (aS [aL 6 4,aR 7 (.load true 5 (.t 1)),aR 8 (.callv (.t 6) [.t 7,aI 1]),aM 2 8] (.ret))))),[.t 2]⟩
theorem cq1:AX.compFn Tryz.prog 21=some ay3:=by kernel_rfl
def ayx:AX.AFn:=⟨38,aS [aR 4 (.box 32 (.t 0)),aR 6 (.mv (aI 0))] (.seq (aS [aM 11 1,aR 12 (.bin .gtr (.t 11) (aI 32))] (.cond (.t 12) (aS [aR 6 (.mv (aI 4))] (.ret)) (.skip))) (.seq (aS [aL 13 2,aR 14 (.bin .geq (.t 13) (aI 4096))] (.cond (.t 14) (aS [aR 6 (.mv (aI 14))] (.ret)) (.skip))) (aS [aL 15 2,aR 16 (.bin .add (.t 15) (aI 1)),aU (.store 1 (.t 2) (.t 16))] (.seq (aS [aR 17 (.load true 5 (.t 4)),aR 18 (.call 41 [.t 17]),aM 7 18] (aS [aM 19 7,aR 20 (.bin .neq (.t 19) (aI 0))] (.cond (.t 20) (aS [aM 21 7,aM 6 21] (.ret)) (.skip)))) (.seq (aS [aF 22 3 4,aL 23 22,aR 24 (.len false (.t 23)),aR 25 (.mv (aI 0))] (.block 0 (.loop (aS [aR 26 (.bin .lss (.t 25) (.t 24))] (.seq (.cond (.t 26) (.skip) (.exit 0)) (.seq (.block 1 (aS [aR 27 (.iaddr 5 (.t 23) (.t 25)),aR 28 (.load true 5 (.t 27)),aR 9 (.alloc 32 [.int .i64 0,.int .i64 0,.str [],.sl 0 .nil [],.sl 0 .nil []]),aU (.store 5 (.t 9) (.t 28))] (aS [aL 29 3,aR 30 (.load true 5 (.t 9)),aM 31 1,aR 32 (.bin .add (.t 31) (aI 1)),aR 33 (.callv (.t 29) [.t 30,.t 32]),aM 10 33] (aS [aM 34 10,aR 35 (.bin .neq (.t 34) (aI 0))] (.cond (.t 35) (aS [aM 36 10,aM 6 36] (.ret)) (.skip)))))) (.reg false [aR 37 (.bin .add (.t 25) (aI 1)),aM 25 37]))))))) (aS [aR 6 (.mv (aI 0))] (.ret))))))),[.t 6]⟩
theorem cq5:AX.compFn Tryz.prog 40=some ayx:=by kernel_rfl
theorem bql{k n:Int}{s:List UInt8}{is:List V}{ks:List (List UInt8)}(h:Val.shapedB k n s is.length ks.length=true):(k≠3->s=[])/\(k≠5->ks=[]):=by
 unfold Val.shapedB at h;simp only[Zg,ZU,ZE,Z3]at h;obtain⟨⟨⟨⟨_,_⟩,h1⟩,_⟩,h2⟩:=h;refine⟨fun hk=>?_,fun hk=>?_⟩
 ·rcases h1 with h1|h1
  ·exact absurd h1 hk
  ·exact h1
 ·rw[if_neg hk]at h2;exact ZD (by simpa using h2)
theorem ck5(k n:Int)(s:List UInt8)(is:List V)(ks:List (List UInt8))(hlen:(V.mk k n s is ks).lens)(h:Hp):AT 41 [(V.mk k n s is ks).A] h (.int .i64 (Val.nodeZ (.mk k n s is ks))):=by
 refine pcall ?_ rfl (by simp[V.A,V.cells,A.pure,A.data]) h;obtain⟨hil,hkl,_,_⟩:=V.lens_mk hlen;refine aza mixedT cwh (by simp[bxy]) ?_;dsimp only[bxy];refine go0 (ai @V_A @azk) ?_;refine gc0 (ai @V_A @azk) ?_;refine(cqo k n s .no .no 5 1 _ _ _).mono ?_;rintro v h' ⟨rfl,rfl⟩;rw[V.cellss_length,azg];rcases azr (Val.shapedB k n s is.length ks.length)with hs|hs
 ·rw[hs];obtain⟨hs3,hs5⟩:=bql hs;have hZ:Val.nodeZ (.mk k n s is ks)=if k=2/\¬(-9007199254740992<=n/\n<=9007199254740992)then 5 else if Val.textZ s≠0 then Val.textZ s else Val.keysZ none ks:=by rw[Val.nodeZ,if_neg (by rw[hs];simp)]
  have ht0:Val.textZ []=0:=by decide
  have hk0:Val.keysZ none []=0:=rfl;by_cases h2:k=2
  ·have e2:(k==2)=true:=by simp[h2]
   obtain rfl:s=[]:=hs3 (by omega);obtain rfl:ks=[]:=hs5 (by omega);refine go0 (ai @V_A (ai @azk e2)) ?_;refine gc0 (ai @V_A (ai @azk e2)) ?_;refine(cxw n _).mono ?_;rintro v h' ⟨rfl,rfl⟩;by_cases hn:-9007199254740992<=n/\n<=9007199254740992
   ·refine go0 (ai @V_A (ai @azk (ai e2 hn))) ?_;exact⟨_,le_refl _,by rw[azq,hZ,if_neg (by simp[hn]),ht0];simp[hk0]⟩
   ·refine go0 (ai @V_A (ai @azk (ai e2 hn))) ?_;exact⟨_,le_refl _,by rw[azq,hZ,if_pos ⟨h2,hn⟩]⟩
  have e2:(k==2)=false:=by simp[h2]
  rw[if_neg (by simp[h2])]at hZ;by_cases h3:k=3
  ·have e3:(k==3)=true:=by simp[h3]
   obtain rfl:ks=[]:=hs5 (by omega);refine go0 (ai @V_A (ai @azk (ai e2 e3))) ?_;refine gc0 (ai @V_A (ai @azk (ai e2 e3))) ?_;refine(cz4 s _).mono ?_;rintro v h' ⟨rfl,rfl⟩;refine go0 (ai @V_A (ai @azk (ai e2 e3))) ?_
   exact⟨_,le_refl _,by
    rw[azq,hZ];split
    ·rfl
    ·next h=>rw[hk0];simp at h;rw[h]⟩
  have e3:(k==3)=false:=by simp[h3]
  obtain rfl:s=[]:=hs3 h3;rw[ht0,if_neg (by simp)]at hZ;by_cases h5:k=5
  ·have e5:(k==5)=true:=by simp[h5]
   refine go0 (ai @V_A (ai @azk (ai e2 (ai e3 e5)))) ?_;refine azh (fun m ts h=>h=⟨[.cells 32 (V.mk k n [] is ks).cells],[]⟩/\∃(i:Nat),m=ks.length-i/\i<=ks.length/\Val.keysZ (if i=0 then none else ks[i-1]?) (ks.drop i)=Val.keysZ none ks/\ts 1=.ptr 0 0/\ts 25=.sl 1 .no (strsA ks)/\ts 26=.int .i64 ks.length/\ts 27=.int .i64 i) ks.length ?_ ?_
   ·refine⟨rfl,0,rfl,Z0 _,rfl,?_⟩;(exact aqj @azg)
   ·rintro m ts h ⟨rfl,i,rfl,hi,heq,t1,t25,t26,t27⟩;by_cases hlt:i<ks.length
    ·have hlt2:(i:Int)<(ks.length:Int):=by omega
     have hlt':(i:Int)<((strsA ks).length:Int):=by rw[azg];omega
     have ee:=aqr ks i hlt;have ei:IntKind.i64.wrap ((i:Int)+1)=(i:Int)+1:=wrap64 (by omega) (by omega);rw[ZX hlt,Val.keysZ]at heq;refine go0 (ai @azk (ai t1 (ai t25 (ai t26 (ai t27 (ai hlt' (ai hlt2 (ai ee ei)))))))) ?_;refine gc0 (ai @azk (ai t1 (ai t25 (ai t26 (ai t27 (ai hlt' (ai ee ei))))))) ?_;refine(cz4 ks[i] _).mono ?_;rintro v h' ⟨rfl,rfl⟩;by_cases ht2:Val.textZ ks[i]=0
     ·rw[if_neg (by simp[ht2])]at heq;rw[ht2];cases i with
      |zero=>
       have h0:¬((0:Nat):Int)>0:=by omega
       simp only[Nat.reduceAdd,if_true,Val.badB,Zo,if_false]at heq;refine go0 (ai @azk (ai t1 (ai t25 (ai t26 (ai t27 (ai hlt' (ai hlt2 (ai ee (ai ei h0))))))))) ?_;refine⟨ks.length-1,by omega,rfl,1,rfl,by omega,?_,?_⟩
       ·rw[<-heq];simp[hlt]
       ·(exact aqj (ai t1 (ai t25 (ai t26 (ai t27 ei)))))
      |succ j=>
       have h0:((j+1:Nat):Int)>0:=by omega
       have ej:IntKind.i64.wrap (((j+1:Nat):Int)-1)=(j:Int):=by rw[wrap64 (by omega) (by omega)];omega
       have ee2:=aqr ks j (by omega);have hj':(j:Int)<((strsA ks).length:Int):=by omega
       have hkj:ks[j+1-1]?=some (ks[j]'(by omega)):=Zi (by omega);rw[show(if j+1=0 then none else ks[j+1-1]?)=some (ks[j]'(by omega))from by rw[if_neg (by omega)];exact hkj]at heq;simp only[Val.badB,Val.less_total]at heq;rcases azr (Op.bytesLess ks[j+1] (ks[j]'(by omega))||ks[j+1]==(ks[j]'(by omega)))with hb|hb
       ·simp only[hb,Ye,Z9,Zo,if_false,if_true]at heq;refine go0 (ai @azk (ai t1 (ai t25 (ai t26 (ai t27 (ai hlt' (ai hlt2 (ai ee (ai ee2 (ai ei (ai ej (ai h0 (ai hj' hb))))))))))))) ?_;exact⟨_,le_refl _,by rw[azq,hZ,<-heq]⟩
       ·simp only[hb,Ye,Z9,Zo,if_false,if_true]at heq;refine go0 (ai @azk (ai t1 (ai t25 (ai t26 (ai t27 (ai hlt' (ai hlt2 (ai ee (ai ee2 (ai ei (ai ej (ai h0 (ai hj' hb))))))))))))) ?_;refine⟨ks.length-(j+1+1),by omega,rfl,j+1+1,rfl,by omega,?_,?_⟩
        ·rw[<-heq];simp[hlt]
        ·(exact aqj (ai t1 (ai t25 (ai t26 (ai t27 ei)))))
     ·have ht3:(Val.textZ ks[i]!=0)=true:=by simp[ht2]
      rw[if_pos (by simp[ht2])]at heq;refine go0 (ai @azk (ai t1 (ai t25 (ai t26 (ai t27 (ai hlt' (ai hlt2 (ai ee (ai ei ht3))))))))) ?_;exact⟨_,le_refl _,by rw[azq,hZ,<-heq]⟩
    ·have hlt2:¬(i:Int)<(ks.length:Int):=by omega
     refine go0 (ai @azk (ai t1 (ai t25 (ai t26 (ai t27 hlt2))))) ?_;refine⟨_,le_refl _,?_⟩;rw[azq,hZ,<-heq,Y0 (by omega)];cases(if i=0 then none else ks[i-1]?)<;>rfl
  have e5:(k==5)=false:=by simp[h5]
  obtain rfl:ks=[]:=hs5 h5;refine go0 (ai @V_A (ai @azk (ai e2 (ai e3 e5)))) ?_;exact⟨_,le_refl _,by rw[azq,hZ,hk0]⟩
 ·rw[hs];refine go0 (ai @V_A @azk) ?_;exact⟨_,le_refl _,by rw[azq,Val.nodeZ,if_pos hs]⟩
theorem bwg(lv b:Nat):Val.chks [] lv b=(0,b):=by rw[Val.chks]
theorem bv9(v:V)(l:List V)(lv b:Nat):Val.chks (v::l) lv b=if(Val.chk v lv b).1≠0 then Val.chk v lv b else Val.chks l lv (Val.chk v lv b).2:=by rw[Val.chks]
def cntB(b:Nat):Blk:=.cells 3 [.int .i64 b]
def visB:Blk:=.cells 82 [.fn 40 [.ptr 1 0,.ptr 2 0]]
theorem ake{l m:List Blk}{i:Nat}{x:Blk}(h:l[i]?=some x):(l++m)[i]?=some x:=by
 rw[Zt (Zc.1 h).1];exact h
theorem cwj(l:List Blk)(x y:Blk):(l++[x]).set l.length y=l++[y]:=by
 rw[List.set_append_right _ _ (Ze _)];simp
theorem ck9:∀(v:V) (lv b:Nat) (h:Hp),v.lens->h.b[1]?=some (cntB b)->h.b[2]?=some visB->AC 40 [v.A,.int .i64 lv,.ptr 1 0,.ptr 2 0] h fun r h'=>r=.int .i64 (Val.chk v lv b).1/\((Val.chk v lv b).1=0->h'.b[1]?=some (cntB (Val.chk v lv b).2)/\h'.b[2]?=some visB):=by
 refine V.induct fun k n s is ks ih=>?_
 intro lv b h hlen hb1 hb2;refine aza mixedT cq5 (by simp[ayx]) ?_;dsimp only[ayx];obtain⟨hil,hkl,_,hmem⟩:=V.lens_mk hlen;have hbl:2<h.b.length:=(Zc.1 hb2).1;have g1:∀m,(h.b++m)[1]?=some (.cells 3 [.int .i64 b]):=fun m=>ake hb1
 have g2:∀m,(h.b++m)[2]?=some visB:=fun m=>ake hb2
 have hC:¬(lv:Int)>32->¬(b:Int)>=4096->Val.chk (.mk k n s is ks) lv b=if Val.nodeZ (.mk k n s is ks)≠0 then(Val.nodeZ (.mk k n s is ks),b)else Val.chks is (lv+1) (b+1):=fun h1 h2=>by rw[Val.chk,if_neg (by omega),if_neg (by omega)]
 by_cases h1:(lv:Int)>32
 ·have hC1:Val.chk (.mk k n s is ks) lv b=(4,b):=by rw[Val.chk,if_pos (by omega)]
  refine go0 (ai @V_A (ai @azk h1)) ?_;exact⟨_,le_refl _,by rw[azq,hC1],fun e=>by rw[hC1]at e;simp at e⟩
 by_cases h2:(b:Int)>=4096
 ·have hC1:Val.chk (.mk k n s is ks) lv b=(14,b):=by rw[Val.chk,if_neg (by omega),if_pos (by omega)]
  refine go0 (ai @V_A (ai @azk (ai h1 (ai h2 (ai g1 g2))))) ?_;exact⟨_,le_refl _,by rw[azq,hC1],fun e=>by rw[hC1]at e;simp at e⟩
 have eb:IntKind.i64.wrap ((b:Int)+1)=((b+1:Nat):Int):=by rw[wrap64 (by omega) (by omega)];omega
 have hne1:¬(1=h.b.length):=by omega
 have hle1:1<=1:=by omega
 refine go0 (ai @V_A (ai @azk (ai h1 (ai h2 (ai g1 (ai g2 (ai eb (ai (@Zj AX.Blk) hne1)))))))) ?_;refine gc0 (ai @V_A (ai @azk (ai h1 h2))) ?_;refine(ck5 k n s is ks hlen _).mono ?_;rintro v h' ⟨rfl,rfl⟩;have hC':=hC h1 h2;by_cases hn:Val.nodeZ (.mk k n s is ks)=0
 ·rw[hn];rw[if_neg (by simp[hn])]at hC';have elv:IntKind.i64.wrap ((lv:Int)+1)=((lv+1:Nat):Int):=by rw[wrap64 (by omega) (by omega)];omega
  refine go0 (ai @V_A (ai @azk (ai h1 (ai h2 (ai (@Zj AX.Blk) hne1))))) ?_;refine azh (fun m ts hh=>∃(i q:Nat),m=is.length-i/\i<=is.length/\Val.chks (is.drop i) (lv+1) q=Val.chks is (lv+1) (b+1)/\hh.b[1]?=some (cntB q)/\hh.b[2]?=some visB/\ts 1=.int .i64 lv/\ts 3=.ptr 2 0/\ts 23=.sl 5 .no (V.cellss is)/\ts 24=.int .i64 is.length/\ts 25=.int .i64 i) is.length ?_ ?_
  ·refine⟨0,b+1,rfl,Z0 _,rfl,?_,?_,?_⟩
   ·show(List.set _ 1 _)[1]?=_
    rw[Zj,if_pos rfl,if_pos (by simp;omega)];rfl
   ·show(List.set _ 1 _)[2]?=_
    rw[Zj,if_neg (by omega)];exact g2 _
   ·(exact aqj @V.cellss_length)
  ·rintro m ts hh ⟨i,q,rfl,hi,heq,p1,p2,t1,t3,t23,t24,t25⟩;by_cases hlt:i<is.length
   ·have hlt2:(i:Int)<(is.length:Int):=by omega
    have hlt':(i:Int)<((V.cellss is).length:Int):=by rw[V.cellss_length];omega
    have ei:IntKind.i64.wrap ((i:Int)+1)=(i:Int)+1:=wrap64 (by omega) (by omega);have ee:=V.cellss_get is i hlt;have hcall:=fun(h:Hp)=>ih is[i] (ZF hlt) (lv+1) q h (hmem _ (ZF hlt))
    rw[ZX hlt,bv9]at heq;obtain⟨⟨k',n',s',is',ks'⟩,hv⟩:=Ex (is[i]);rw[hv]at ee hcall heq;have q2:∀m,(hh.b++m)[2]?=some (.cells 82 [.fn 40 [.ptr 1 0,.ptr 2 0]]):=fun m=>ake p2
    refine go0 (ai @azk (ai t1 (ai t3 (ai t23 (ai t24 (ai t25 (ai hlt' (ai hlt2 (ai ee (ai elv (ai ei (ai @cwj q2)))))))))))) ?_;refine gc0 (ai @azk (ai t1 (ai t3 (ai t23 (ai t24 (ai t25 elv)))))) ?_;refine(hcall _ (ake p1) (ake p2)).mono ?_;rintro v h' ⟨rfl,hcnt⟩;by_cases hz:(Val.chk (.mk k' n' s' is' ks') (lv+1) q).1=0
    ·rw[if_neg (by simp[hz])]at heq;rw[hz];obtain⟨r1,r2⟩:=hcnt hz;refine go0 (ai @azk (ai t1 (ai t3 (ai t23 (ai t24 (ai t25 ei)))))) ?_;refine⟨is.length-(i+1),by omega,i+1,_,rfl,by omega,heq,r1,r2,?_⟩;(exact aqj (ai t1 (ai t3 (ai t23 (ai t24 (ai t25 ei))))))
    ·have hz':((Val.chk (.mk k' n' s' is' ks') (lv+1) q).1 !=0)=true:=by simp[hz]
     rw[if_pos (by simp[hz])]at heq;refine go0 (ai @azk (ai t1 (ai t3 (ai t23 (ai t24 (ai t25 (ai ei hz'))))))) ?_;exact⟨_,le_refl _,by rw[azq,hC',<-heq],fun e=>by rw[hC',<-heq]at e;exact absurd e hz⟩
   ·have hlt2:¬(i:Int)<(is.length:Int):=by omega
    rw[Y0 (by omega),bwg]at heq;refine go0 (ai @azk (ai t1 (ai t3 (ai t23 (ai t24 (ai t25 hlt2)))))) ?_;exact⟨_,le_refl _,by rw[azq,hC',<-heq],fun _=>by rw[hC',<-heq];exact⟨p1,p2⟩⟩
 ·have hn':(Val.nodeZ (.mk k n s is ks)!=0)=true:=by simp[hn]
  rw[if_pos (by simp[hn])]at hC';refine go0 (ai @V_A (ai @azk (ai h1 (ai h2 hn')))) ?_;exact⟨_,le_refl _,by rw[azq,hC'],fun e=>by rw[hC']at e;exact absurd e hn⟩
theorem avv(v:V)(hlen:v.lens)(h:Hp):AT 21 [v.A] h (.int .i64 (Val.checkZ v)):=by
 have ht:∀h:Hp,h.b[1]?=some (cntB 0)->h.b[2]?=some visB->AC 40 [v.A,.int .i64 1,.ptr 1 0,.ptr 2 0] h fun r h'=>r=.int .i64 (Val.chk v 1 0).1/\((Val.chk v 1 0).1=0->h'.b[1]?=some (cntB (Val.chk v 1 0).2)/\h'.b[2]?=some visB):=fun h=>ck9 v 1 0 h hlen
 obtain⟨k,n,s,is,ks⟩:=v;refine pcall ?_ rfl (by simp[V.A,V.cells,A.pure,A.data]) h;refine aza mixedT cq1 (by simp[ay3]) ?_;dsimp only[ay3];refine go0 (ai @V_A @azk) ?_;refine gc0 (ai @V_A @azk) ?_;refine(ht _ rfl rfl).mono ?_;rintro v h' ⟨rfl,_⟩;refine go0 (ai @V_A @azk) ?_;exact Fn rfl
def bwo:AX.AFn:=⟨10,.reg true [aM 4 0,⟨some 5,.nilck (.t 4),none,[0]⟩,⟨some 6,.faddr 0 (.t 5),none,[1]⟩,aM 7 1,⟨some 8,.call 142 [.c (.str []),.t 7],none,[3]⟩,⟨some 9,.call 121 [.t 6,.t 8],none,[2,4,4]⟩],[]⟩
theorem dz4:AX.compFn Tryz.prog 122=some bwo:=by kernel_rfl
def bxg:AX.AFn:=⟨13,aS [aM 4 0,aM 5 1,aR 6 (.len true (.t 5)),aR 7 (.call 122 [.t 4,.t 6])] (.reg false [aM 8 0,aR 9 (.nilck (.t 8)),aF 10 0 9,aM 11 1,aR 12 (.call 121 [.t 10,.t 11])]),[]⟩
theorem ckk:AX.compFn Tryz.prog 123=some bxg:=by kernel_rfl
def bzp:AX.AFn:=⟨55,aS [aR 3 (.box 32 (.t 1))] (aS [aM 6 0,aF 7 0 3,aL 8 7,aR 9 (.call 122 [.t 6,.t 8])] (aS [aF 10 0 3,aL 11 10] (.block 0 (.seq (aS [aR 13 (.bin .eql (.t 11) (aI 1)),aM 12 13] (.cond (.t 12) (.skip) (.reg false [aR 14 (.bin .eql (.t 11) (aI 2)),aM 12 14]))) (.cond (.t 12) (.reg false [aM 15 0,aF 16 1 3,aL 17 16,aR 18 (.call 122 [.t 15,.t 17])]) (aS [aR 20 (.bin .eql (.t 11) (aI 3)),aM 19 20] (.cond (.t 19) (.reg false [aM 21 0,aF 22 2 3,aL 23 22,aR 24 (.call 123 [.t 21,.t 23])]) (.seq (aS [aR 26 (.bin .eql (.t 11) (aI 4)),aM 25 26] (.cond (.t 25) (.skip) (.reg false [aR 27 (.bin .eql (.t 11) (aI 5)),aM 25 27]))) (.cond (.t 25) (aS [aM 28 0,aF 29 3 3,aL 30 29,aR 31 (.len false (.t 30)),aR 32 (.call 122 [.t 28,.t 31])] (aS [aF 33 3 3,aL 34 33,aR 35 (.len false (.t 34)),aR 36 (.mv (aI 0))] (.block 1 (.loop (aS [aR 37 (.bin .lss (.t 36) (.t 35))] (.seq (.cond (.t 37) (.skip) (.exit 1)) (.seq (.block 2 (aS [aM 38 36,aR 39 (.iaddr 5 (.t 34) (.t 36)),aR 40 (.load true 5 (.t 39)),aR 5 (.alloc 32 [.int .i64 0,.int .i64 0,.str [],.sl 0 .nil [],.sl 0 .nil []]),aM 4 38,aU (.store 5 (.t 5) (.t 40))] (.seq (aS [aF 41 0 3,aL 42 41,aR 43 (.bin .eql (.t 42) (aI 5))] (.cond (.t 43) (.reg false [aM 44 0,aF 45 4 3,aL 46 45,aM 47 4,aR 48 (.iaddr 1 (.t 46) (.t 47)),aL 49 48,aR 50 (.call 123 [.t 44,.t 49])]) (.skip))) (.reg false [aM 51 0,aR 52 (.load true 5 (.t 5)),aR 53 (.call 125 [.t 51,.t 52])])))) (.reg false [aR 54 (.bin .add (.t 36) (aI 1)),aM 36 54])))))))) (.skip)))))))))),[]⟩
theorem cxh:AX.compFn Tryz.prog 125=some bzp:=by kernel_rfl
def WP(i:Nat)(ver:Int)(l:List UInt8)(h h':Hp):Prop:=Wt h' i ver l/\h'.t=h.t/\∀j x,j≠i->h.b[j]?=some x->h'.b[j]?=some x
theorem WP.of{h:Hp}{i:Nat}{ver:Int}{l l':List UInt8}(hw:Wt h i ver l):WP i ver l' h ⟨h.b.set i (wtr ver l'),h.t⟩:=by
 refine⟨.inl ?_,rfl,fun j x hj hx=>?_⟩
 ·show(List.set _ i _)[i]?=_
  rw[Zj,if_pos rfl,if_pos hw.lt]
 ·show(List.set _ i _)[j]?=_
  rw[Zj,if_neg (Ne.symm hj)];exact hx
theorem WP.tr{i:Nat}{ver:Int}{l l':List UInt8}{h h' h'':Hp}(a:WP i ver l h h')(b:WP i ver l' h' h''):WP i ver l' h h'':=
 ⟨b.1,b.2.1.trans a.2.1,fun j x hj hx=>b.2.2 j x hj (a.2.2 j x hj hx)⟩
theorem avx{l m:List Blk}{i:Nat}{x:Blk}(h:l[i]?=some x):(l++m)[i]?=some x:=by
 rw[Zt (Zc.1 h).1];exact h
theorem bjz(l:List Blk)(x y:Blk):(l++[x]).set l.length y=l++[y]:=by
 rw[List.set_append_right _ _ (Ze _)];simp
theorem Wt.app{b:List Blk}{t:_}{i:Nat}{ver:Int}{l:List UInt8}(hw:Wt ⟨b,t⟩ i ver l)(m:List Blk):Wt ⟨b++m,t⟩ i ver l:=by
 rcases hw with h|⟨h0,h⟩
 ·exact .inl (avx h)
 ·exact .inr ⟨h0,avx h⟩
theorem WP.app{b:List Blk}{t:_}{m:List Blk}{h':Hp}{i:Nat}{ver:Int}{l:List UInt8}(hp:WP i ver l ⟨b++m,t⟩ h'):WP i ver l ⟨b,t⟩ h':=
 ⟨hp.1,hp.2.1,fun j x hj hx=>hp.2.2 j x hj (avx hx)⟩
theorem num_len(n:Int):(Wire.num n).length<=10:=(Wire.encF_len 9 (Wire.zig n)).2
theorem bz8{h:Hp}{i:Nat}{ver:Int}{l:List UInt8}(hw:Wt h i ver l)(n:Int)(hlen:l.length+10<=1000000000)(h0:-9223372036854775808<=n)(h1:n<=9223372036854775807):
  AC 122 [.ptr i 0,.int .i64 n] h fun u h'=>u=.tup []/\WP i ver (l++Wire.num n) h h':=by
 have hn:=num_len n;refine aza mixedT dz4 (by simp[bwo]) ?_;dsimp only[bwo];refine cxx _ _ ⟨h.b.set i (wtr ver (l++Wire.num n)),h.t⟩ (.tup [.int .i64 (Wire.num n).length,.nili]) (List.dropLast_concat_getLast (l:=_::_) (by simp)).symm (by decide) ?_;dsimp only[List.dropLast,List.getLast];refine go0 ti ?_;refine cv7 (vs:=[.str [],.int .i64 n]) (r:=.str (Wire.num n)) (by(exact ev0 ti)) ?_ ?_
 ·refine(awe [] n (by simp) h0 h1 _).mono ?_;rintro v h' ⟨rfl,rfl⟩;exact⟨by simp,rfl⟩
 refine cvp ⟨?_,?_⟩
 ·show ACall _ _ _ _ _ _
  simp only[aq5,aqg,aqf,bzw,bzt,aqh,ajz,ajc,aji,azq,axm,astep,bop,uop,loadA,storeA,appA,ssliceA,eqA,eqCells,fillA,rowsA,setCells,A.cells,A.one,A.data,az3,ZH,YN,ZW,Z5,ZR,Yx,YR,Y2,Z7,YB,ZO,Yg,Yj,ZT,ZQ,ZY,Zf,Zp,ZA,ZL,Zx,YV,YW,YX,ZS,Yd,Yp,Y8,Za,Zv,Nat.reduceAdd,Nat.reduceSub,Nat.reduceMul,Nat.reduceLeDiff,Nat.reduceEqDiff,Nat.reduceBEq,Yt,YO,if_true,if_false,reduceIte,ite_true,ite_false,true_and,and_true,ne_eq,YD,YT,Zo,reduceCtorEq,and_self,Yf,Yl,Ze,Ye,Z9,decide_true,decide_false];exact bxp hw _ (by omega)
 ·exact cxm rfl ⟨_,le_refl _,rfl,WP.of hw⟩
theorem bxu{h:Hp}{i:Nat}{ver:Int}{l:List UInt8}(hw:Wt h i ver l)(s:List UInt8)(hlen:l.length+s.length+10<=1000000000):
  AC 123 [.ptr i 0,.str s] h fun u h'=>u=.tup []/\WP i ver (l++Wire.strE s) h h':=by
 have hn:=num_len s.length;refine aza mixedT ckk (by simp[bxg]) ?_;dsimp only[bxg];refine go0 ti ?_;refine gc0 ti ?_;refine(bz8 hw s.length (by omega) (by omega) (by omega)).mono ?_;rintro v h' ⟨-,hp⟩;refine go0 ti ?_;refine gc0 ti ?_;refine(bxp hp.1 s (by rw[Za];omega)).mono ?_;rintro v h' ⟨rfl,rfl⟩;refine cvm (cxm rfl ⟨_,le_refl _,rfl,?_⟩);rw[Wire.strE,<-Zh];exact hp.tr (WP.of hp.1)
theorem byd(m:Bool)(is:List V)(ks:List (List UInt8))(j:Nat)(hj:j<is.length):(Val.encs m (is.take j) ks).length+(Val.keyE m (ks.drop j)).length+(Val.enc is[j]).length<=(Val.encs m is ks).length:=by
 have key:∀d,j+1+d<=is.length->(Val.encs m (is.take (j+1)) ks).length<=(Val.encs m (is.take (j+1+d)) ks).length:=by
  intro d;induction d with
  |zero=>intro _;exact Ze _
  |succ d ihd=>
   intro hd;have h1:=Val.encs_take m is ks (j+1+d) (by omega);have h2:=ihd (by omega);have h3:(Val.encs m (is.take (j+1+(d+1))) ks).length=_:=congrArg List.length h1;rw[Za]at h3;omega
 have h1:=Val.encs_take m is ks j hj;have h2:=key (is.length-(j+1)) (by omega);rw[show j+1+(is.length-(j+1))=is.length by omega,Yu,h1,Za,Za]at h2;omega
theorem cwf:∀(v:V) (i:Nat) (ver:Int) (l:List UInt8) (h:Hp),Wt h i ver l->(∃lv b,(Val.chk v lv b).1=0)->l.length+(Val.enc v).length+10<=1000000000->v.lens->AC 125 [.ptr i 0,v.A] h fun u h'=>u=.tup []/\WP i ver (l++Val.enc v) h h':=by
 refine V.induct fun k n s is ks ih=>?_
 rintro i ver l ⟨hb,ht⟩ hw ⟨lv,b,hchk⟩ hlen hlens;refine aza mixedT cxh (by simp[bzp]) ?_;dsimp only[bzp];obtain⟨hil,hkl,_,hmem⟩:=V.lens_mk hlens;obtain⟨_,_,hz,hcs⟩:=Val.chk_parts hchk;obtain⟨hsh,hn2,hts,hks⟩:=Val.shaped_of hz;have hs:=Val.text_len hts;have hkk:=Val.keys_len ks none hks;unfold Val.shapedB at hsh;simp only[Zg,ZU,ZE,Z3]at hsh;obtain⟨⟨⟨⟨⟨hk0,hk6⟩,hnn⟩,_⟩,_⟩,hkn⟩:=hsh;have hne:¬(i=hb.length):=by have:=hw.lt;simp at this;omega
 have hE:Val.enc (.mk k n s is ks)=Wire.num k++(if k=1\/k=2 then Wire.num n else if k=3 then Wire.strE s else if k=4\/k=5 then Wire.num is.length++Val.encs (k==5) is ks else[]):=by rw[Val.enc]
 rw[hE]at hlen⊢;simp only[Za]at hlen;refine go0 (ai @V_A @azk) ?_;refine gc0 (ai @V_A @azk) ?_;refine(bz8 (hw.app _) k (by omega) (by omega) (by omega)).mono ?_;rintro v0 h1 ⟨-,hp1⟩;have g1:h1.b[hb.length]?=some (.cells 32 (V.mk k n s is ks).cells):=hp1.2.2 _ _ (Ne.symm hne) Zs;simp only[V.cells]at g1;have hlk:=num_len k;by_cases hk12:k=1\/k=2
 ·rw[if_pos hk12]at hlen⊢;have hn:-9223372036854775808<=n/\n<=9223372036854775807:=by
   rcases hk12 with rfl|rfl
   ·rcases hnn with(h|h)|h
    ·exact absurd h (by decide)
    ·omega
    ·omega
   ·have:=hn2 rfl;omega
  rcases hk12 with rfl|rfl;all_goals
   refine go0 g1 ?_;refine gc0 g1 ?_;refine(bz8 hp1.1 n (by rw[Za];omega) (by omega) (by omega)).mono ?_;rintro v2 h2 ⟨-,hp2⟩;refine go0 g1 ?_;refine⟨_,le_refl _,rfl,?_⟩;rw[<-Zh];exact(hp1.tr hp2).app
 rw[if_neg hk12]at hlen⊢;have e1:(k==1)=false:=by simp;omega
 have e2:(k==2)=false:=by simp;omega
 by_cases hk3:k=3
 ·rw[if_pos hk3]at hlen⊢;subst hk3;refine go0 g1 ?_;refine gc0 g1 ?_;unfold Wire.strE at hlen;rw[Za]at hlen;refine(bxu hp1.1 s (by rw[Za];omega)).mono ?_;rintro v2 h2 ⟨-,hp2⟩;refine go0 g1 ?_;refine⟨_,le_refl _,rfl,?_⟩;rw[<-Zh];exact(hp1.tr hp2).app
 rw[if_neg hk3]at hlen⊢;have e3:(k==3)=false:=by simp;omega
 by_cases hk45:k=4\/k=5
 ·rw[if_pos hk45]at hlen⊢;rw[Za]at hlen;have hkl5:(k==5)=true->ks.length=is.length:=fun e=>by
   rw[if_pos (by simpa using e)]at hkn;simpa using hkn
  have hln:=num_len is.length;have step:∀(j:Nat) (hj:j<is.length),(Val.encs (k==5) (is.take j) ks).length+(Val.keyE (k==5) (ks.drop j)).length+(Val.enc is[j]).length<=(Val.encs (k==5) is ks).length:=byd _ _ _;have e45:(k==4)=true\/(k==4)=false/\(k==5)=true:=by
   rcases hk45 with rfl|rfl
   ·exact .inl rfl
   ·exact .inr ⟨rfl,rfl⟩
  rcases e45 with e4|⟨e4,e5⟩;all_goals
   refine go0 (ai g1 (ai e1 (ai e2 (ai e3 (ai e4 @V.cellss_length))))) ?_
   try (refine go0 (ai g1 (ai e1 (ai e2 (ai e3 (ai e4 (ai e5 @V.cellss_length)))))) ?_)
   refine gc0 g1 ?_;refine(bz8 hp1.1 is.length (by rw[Za];omega) (by omega) (by omega)).mono ?_;rintro v2 h2 ⟨-,hp2⟩;have g2:=hp2.2.2 _ _ (Ne.symm hne) g1;refine go0 (ai g2 @V.cellss_length) ?_;refine azh (fun m ts hh=>∃(j:Nat),m=is.length-j/\j<=is.length/\WP i ver (l++Wire.num k++Wire.num is.length++Val.encs (k==5) (is.take j) ks) ⟨hb,ht⟩ hh/\hh.b[hb.length]?=some (.cells 32 [.int .i64 k,.int .i64 n,.str s,.sl 5 .no (V.cellss is),.sl 1 .no (strsA ks)])/\ts 0=.ptr i 0/\ts 3=.ptr hb.length 0/\ts 34=.sl 5 .no (V.cellss is)/\ts 35=.int .i64 is.length/\ts 36=.int .i64 j) is.length ?_ ?_
   ·refine⟨0,rfl,Z0 _,?_,g2,?_⟩
    ·have:=(hp1.tr hp2).app;simpa [Val.encs]using this
    ·(exact aqj @V.cellss_length)
   ·rintro m ts hh ⟨j,rfl,hj,hp,g3,t0,t3,t34,t35,t36⟩;by_cases hlt:j<is.length
    ·have hlt2:(j:Int)<(is.length:Int):=by omega
     have hla:(j:Int)<((V.cellss is).length:Int):=by rw[V.cellss_length];omega
     have ei:IntKind.i64.wrap ((j:Int)+1)=(j:Int)+1:=wrap64 (by omega) (by omega);have ee:=V.cellss_get is j hlt;have hst:=step j hlt;have htk:=Val.encs_take (k==5) is ks j hlt;have hcall:=fun(l':List UInt8) (h:Hp) (hw:Wt h i ver l') (hb:l'.length+(Val.enc is[j]).length+10<=1000000000)=>ih is[j] (ZF hlt) i ver l' h hw ((Val.chks_get is _ _ hcs j hlt).elim fun b' hb'=>⟨_,b',hb'⟩) hb (hmem _ (ZF hlt))
     obtain⟨⟨k',n',s',is',ks'⟩,hv⟩:=Ex (is[j]);rw[hv]at ee hcall htk hst;have hil2:hh.b.length≠i:=fun e=>by have:=hp.1.lt;omega
     have q3:∀m,(hh.b++m)[hb.length]?=some (.cells 32 [.int .i64 k,.int .i64 n,.str s,.sl 5 .no (V.cellss is),.sl 1 .no (strsA ks)]):=fun m=>avx g3
     rcases azr (k==5)with e5'|e5'
     ·have hkj:j<ks.length:=by rw[hkl5 e5'];exact hlt
      have hlk2:(j:Int)<((strsA ks).length:Int):=by rw[azg];omega
      have ek:=aqr ks j hkj;have hke:Val.keyE (k==5) (ks.drop j)=Wire.strE ks[j]:=by rw[e5',ZX hkj];rfl
      rw[hke]at htk hst;have hsl:(Wire.strE ks[j]).length=(Wire.num ks[j].length).length+ks[j].length:=by unfold Wire.strE;rw[Za]
      refine go0 (ai @azk (ai t0 (ai t3 (ai t34 (ai t35 (ai t36 (ai hla (ai hlt2 (ai ee (ai ei (ai @bjz (ai q3 (ai e5' (ai hlk2 ek)))))))))))))) ?_;refine gc0 (ai t0 (ai t3 (ai t34 (ai t35 t36)))) ?_;refine(bxu (hp.1.app _) ks[j] (by simp only[Za];omega)).mono ?_;rintro v3 h3 ⟨-,hp3⟩;have g4:=hp3.2.2 _ _ (Ne.symm hne) (q3 _);have g5:=hp3.2.2 _ _ hil2 Zs;refine go0 (ai t0 (ai t3 (ai t34 (ai t35 (ai t36 (ai g4 g5)))))) ?_;refine gc0 (ai t0 (ai t3 (ai t34 (ai t35 t36)))) ?_;refine(hcall _ _ hp3.1 (by simp only[Za];omega)).mono ?_;rintro v4 h4 ⟨-,hp4⟩;have g6:=hp4.2.2 _ _ (Ne.symm hne) g4;refine go0 (ai t0 (ai t3 (ai t34 (ai t35 (ai t36 ei))))) ?_;refine⟨is.length-(j+1),by omega,j+1,rfl,by omega,?_,g6,?_⟩
      ·rw[htk,<-Zh,<-Zh];exact hp.tr (hp3.tr hp4).app
      ·(exact aqj (ai t0 (ai t3 (ai t34 (ai t35 (ai t36 ei))))))
     ·have hke:Val.keyE (k==5) (ks.drop j)=[]:=by rw[e5'];rfl
      rw[hke]at htk hst;refine go0 (ai @azk (ai t0 (ai t3 (ai t34 (ai t35 (ai t36 (ai hla (ai hlt2 (ai ee (ai ei (ai @bjz (ai q3 e5')))))))))))) ?_;refine gc0 (ai t0 (ai t3 (ai t34 (ai t35 t36)))) ?_;refine(hcall _ _ (hp.1.app _) (by simp only[Za];omega)).mono ?_;rintro v4 h4 ⟨-,hp4⟩;have g6:=hp4.2.2 _ _ (Ne.symm hne) (q3 _);refine go0 (ai t0 (ai t3 (ai t34 (ai t35 (ai t36 ei))))) ?_;refine⟨is.length-(j+1),by omega,j+1,rfl,by omega,?_,g6,?_⟩
      ·rw[htk,ZA,<-Zh];exact hp.tr hp4.app
      ·(exact aqj (ai t0 (ai t3 (ai t34 (ai t35 (ai t36 ei))))))
    ·have hlt2:¬(j:Int)<(is.length:Int):=by omega
     rw[Zy (by omega)]at hp;refine go0 (ai t0 (ai t3 (ai t34 (ai t35 (ai t36 hlt2))))) ?_;refine⟨_,le_refl _,rfl,?_⟩;rw[<-Zh,<-Zh];exact hp
 ·rw[if_neg hk45]at hlen⊢;rw[Zx];have e4:(k==4)=false:=by simp;omega
  have e5:(k==5)=false:=by simp;omega
  refine go0 (ai g1 (ai e1 (ai e2 (ai e3 (ai e4 e5))))) ?_;exact⟨_,le_refl _,rfl,hp1.app⟩
theorem cy4(v:V):Val.enc v≠[]:=by
 obtain⟨k,n,s,is,ks⟩:=v;rw[Val.enc];intro h;have:=(List.append_eq_nil_iff.1 h).1;unfold Wire.num Wire.encF at this;split at this<;>simp at this
end AX
end
end Go.Proofs.YtnffmgmidghfhaaGreatDoor
