/- Part of what the proof needs. -/
import Derived.Test.YtnffmgmidghfhaaGreatDoorMFrWorkspaceNilF
import Derived.Test.YtnffmgmidghfhaaGreatDoorMFrWorkspaceNilH
import Derived.Test.YtnffmgmidghfhaaGreatDoorMFrWorkspaceNilK
import Derived.Test.YtnffmgmidghfhaaGreatDoorCards
import Derived.Test.YtnffmgmidghfhaaGreatDoorTie
import Derived.ProofKit
import Derived.OpenShut
import Derived.ShutString
import Derived.ChangeOld
import Derived.Deep.DeepHandedRow
import Derived.Lib.LaidU8
import Derived.MakeChecks
set_option maxHeartbeats 4000000
set_option maxRecDepth 100000
set_option linter.all false
namespace Go.Proofs.YtnffmgmidghfhaaGreatDoor
section
open Go.RowKit
def strsA(l:List (List UInt8)):List (List AX.A):=l.map fun s=>[.str s]
mutual
def V.cells:V->List AX.A
 |.mk k n s is ks=>[.int .i64 k,.int .i64 n,.str s,.sl 5 .no (V.cellss is),.sl 1 .no (strsA ks)]
def V.cellss:List V->List (List AX.A)
 |[]=>[]
 |v::l=>v.cells::V.cellss l
end
def V.A(v:V):AX.A:=.agg v.cells
theorem V.cellss_map:∀l:List V,V.cellss l=l.map V.cells
 |[]=>rfl
 |v::l=>by rw[V.cellss,V.cellss_map l];rfl
theorem V.cellss_length(l:List V):(V.cellss l).length=l.length:=by rw[V.cellss_map];simp
theorem aze(l:List (List UInt8)):(strsA l).length=l.length:=by simp[strsA]
theorem az3(l:List (List UInt8))(i:Nat)(h:i<l.length):(strsA l).getD i []=[.str l[i]]:=by simp[strsA,List.getD,h]
theorem V.cellss_get(l:List V)(i:Nat)(h:i<l.length):(V.cellss l).getD i []=l[i].cells:=by rw[V.cellss_map];simp[List.getD,h]
theorem V.pure(v:V):v.A.pure=true:=by cases v;unfold V.A V.cells;rfl
mutual
def V.lens:V->Prop
 |.mk k n s is ks=>is.length<=maxLen/\ks.length<=maxLen/\s.length<=maxLen/\(∀q∈ks,q.length<=maxLen)/\V.lensS is
def V.lensS:List V->Prop
 |[]=>True
 |v::l=>v.lens/\V.lensS l
end
theorem V.lensS_mem:∀{l:List V},V.lensS l->∀x∈l,x.lens
 |[],_=>by simp
 |v::l,h=>by
  unfold V.lensS at h;exact Zak.2 ⟨h.1,V.lensS_mem h.2⟩
theorem V.lens_mk{k n:Int}{s:List UInt8}{is:List V}{ks:List (List UInt8)}(h:(V.mk k n s is ks).lens):is.length<=9223372036854775807/\ks.length<=9223372036854775807/\s.length<=9223372036854775807/\(∀x∈is,x.lens):=by
 unfold V.lens at h;simp only[maxLen]at h;exact⟨by omega,by omega,by omega,V.lensS_mem h.2.2.2.2⟩
def IfaceAt(g:Nat)(w:World):Prop:=∃ev,w.cell? ⟨g,0,none⟩=some ev/\(ev=.nilIface\/∃te pe,ev=.iface te pe)
structure GT(w:World):Prop where
 tabs:Lib.Utf8Tabs 1 2 w
 esyn:IfaceAt 3 w
 erng:IfaceAt 4 w
 tz:w.cell? ⟨7,15,none⟩=some (.int .u8 4)
namespace AX
abbrev AT(f:FuncId)(l:List A)(h:Hp)(x:A):Prop:=ACall Tryz.prog GT f l h fun v h'=>v=x/\h'=h
abbrev AC:=ACall Tryz.prog GT
theorem Fn{v:A}{Q:A->Prop}(h:Q v):∃a,le v a/\Q a:=⟨_,le_refl _,h⟩
theorem mixedT:Tryz.prog.follows Departure.mixedOrders=true:=by kernel_rfl
theorem aj9{x:A}{v:Value}(h:∀C c,Rep C x c->c=v):∀C cs,RepL C [x] cs->cs=[v]:=fun C cs hr=>by
 obtain⟨c,cs',rfl,h1,h2⟩:=repL_cons.1 hr;rw[azo]at h2;subst h2;rw[h C c h1]
theorem bwh{x y:A}{v u:Value}(h:∀C c,Rep C x c->c=v)(h':∀C c,Rep C y c->c=u):∀C cs,RepL C [x,y] cs->cs=[v,u]:=fun C cs hr=>by
 obtain⟨c,cs',rfl,h1,h2⟩:=repL_cons.1 hr;rw[aj9 h' C cs' h2,h C c h1]
theorem aq3{l:List UInt8}:∀C c,Rep C (.str l) c->c=.string ⟨l.toArray⟩:=fun C c h=>rep_str.1 h
theorem cqm{k:IntKind}{n:Int}:∀C c,Rep C (.int k n) c->c=.int k n:=fun C c h=>rep_int.1 h
theorem bje(s:List UInt8)(hl:s.length<=2000000)(h:Hp):ACall Tryz.prog GT 48 [.str s] h fun v h'=>v=.bool (Str.valid s)/\h'=h:=
 azt (aj9 aq3) (fun w hg=>bq2 ⟨s.toArray⟩ w (by rw[size_mk];exact hl) hg.tabs) (fun C=>aqc.2 rfl) h
theorem cqb(s:List UInt8)(h:Hp):ACall Tryz.prog GT 64 [.str s] h fun v h'=>v=.int .i64 (Val.textZ s)/\h'=h:=
 azt (aj9 aq3) (fun w hg=>cjq s w hg.tabs) (fun C=>rep_int.2 rfl) h
theorem cq7(n:Int)(h:Hp):ACall Tryz.prog GT 63 [.int .i64 n] h fun v h'=>v=.bool (decide (-9007199254740992<=n/\n<=9007199254740992))/\h'=h:=
 azt (aj9 cqm) (fun w hg=>(axf n w).mono fun e w' ⟨h1,h2⟩=>⟨h1,by rw[h2];exact Below.refl _ _⟩) (fun C=>aqc.2 rfl) h
theorem awj(dst:List UInt8)(n:Int)(hd:dst.length<=1000000000)(h0:-9223372036854775808<=n)(h1:n<=9223372036854775807)(h:Hp):ACall Tryz.prog GT 142 [.str dst,.int .i64 n] h fun v h'=>v=.str (dst++Wire.num n)/\h'=h:=
 azt (bwh aq3 cqm) (fun w hg=>avu dst n w hd h0 h1) (fun C=>rep_str.2 rfl) h
theorem cjc(k n:Int)(s:List UInt8)(o o':Own)(W W':Nat)(rs rs':List (List A))(h:Hp):ACall Tryz.prog GT 62 [.agg [.int .i64 k,.int .i64 n,.str s,.sl W o rs,.sl W' o' rs']] h fun v h'=>v=.bool (Val.shapedB k n s rs.length rs'.length)/\h'=h:=by
 intro C cs hI ha;obtain⟨c,cs',rfl,h1,h2⟩:=repL_cons.1 ha;rw[azo]at h2;subst h2;obtain⟨ds,rfl,h3⟩:=rep_agg.1 h1;obtain⟨c0,d0,rfl,e0,h3⟩:=repL_cons.1 h3;obtain⟨c1,d1,rfl,e1,h3⟩:=repL_cons.1 h3;obtain⟨c2,d2,rfl,e2,h3⟩:=repL_cons.1 h3;obtain⟨c3,d3,rfl,e3,h3⟩:=repL_cons.1 h3;obtain⟨c4,d4,rfl,e4,h3⟩:=repL_cons.1 h3;rw[azo]at h3;subst h3;rw[rep_int]at e0 e1;rw[rep_str]at e2;subst e0;subst e1;subst e2;obtain⟨a,ca,rfl,_⟩:=rep_sl.1 e3;obtain⟨b,cb,rfl,_⟩:=rep_sl.1 e4;refine(bwd k n s a b rs.length ca rs'.length cb C.w).mono ?_;rintro e w' ⟨rfl,hb⟩;obtain⟨i1,s1⟩:=aq2 hI hb;exact⟨C.at w',h,_,_,rfl,rfl,i1,s1,aqc.2 rfl,rfl,rfl⟩
def rdr(r:Wire.St):Blk:=.cells 157 [.str r.rest,.int .i64 r.e,.bool true]
theorem dqy{r:Wire.St}:∀C es,RepL C [.str r.rest,.int .i64 r.e,.bool true] es->es=[.string ⟨r.rest.toArray⟩,.int .i64 r.e,.bool true]:=fun C es h=>by
 obtain⟨c0,d0,rfl,e0,h⟩:=repL_cons.1 h;obtain⟨c1,d1,rfl,e1,h⟩:=repL_cons.1 h;obtain⟨c2,d2,rfl,e2,h⟩:=repL_cons.1 h;rw[azo]at h;subst h;rw[rep_str.1 e0,rep_int.1 e1,aqc.1 e2]
theorem dz4{r:Wire.St}(C:Ctx):RepL C [.str r.rest,.int .i64 r.e,.bool true] [.string ⟨r.rest.toArray⟩,.int .i64 r.e,.bool true]:=
 repL_cons.2 ⟨_,_,rfl,rep_str.2 rfl,repL_cons.2 ⟨_,_,rfl,rep_int.2 rfl,repL_cons.2 ⟨_,_,rfl,aqc.2 rfl,azo.2 rfl⟩⟩⟩
theorem bwv{f:FuncId}{extra:List A}{ecs:List Value}{v:A}{cv:Value}{r r':Wire.St}(hargs:∀C es,RepL C extra es->es=ecs)(hv:∀C,Rep C v cv)
  (hc:∀g w,Rdr w g r->Calls Tryz.prog f (.pointer (some ⟨g,0,none⟩)::ecs).toArray w fun e w'=>e=.returned cv/\Rdr w' g r'/\w.grownBy w' (some g)) {h:Hp} {i:Nat} (hb:h.b[i]?=some (rdr r)):
  ACall Tryz.prog GT f (.ptr i 0::extra) h fun v' h'=>v'=v/\h'=⟨h.b.set i (rdr r'),h.t⟩:=
 byc hargs dqy dz4 hv (fun w g hw=>hc g w hw) hb
theorem cvc:∀C es,RepL C [] es->es=[]:=fun C es h=>azo.1 h
theorem aq5{h:Hp}{i:Nat}{r:Wire.St}(hb:h.b[i]?=some (rdr r))(hl:r.rest.length<=100000000):ACall Tryz.prog GT 79 [.ptr i 0] h fun v h'=>v=.int .i64 (Wire.numR r).2/\h'=⟨h.b.set i (rdr (Wire.numR r).1),h.t⟩:=
 bwv cvc (fun C=>rep_int.2 rfl) (fun g w hw=>bkf g r w hw hl) hb
theorem ajx{h:Hp}{i:Nat}{r:Wire.St}(hb:h.b[i]?=some (rdr r))(hl:r.rest.length<=100000000):ACall Tryz.prog GT 109 [.ptr i 0] h fun v h'=>v=.str (Wire.strR r).2/\h'=⟨h.b.set i (rdr (Wire.strR r).1),h.t⟩:=
 bwv cvc (fun C=>rep_str.2 rfl) (fun g w hw=>bkw g r w hw hl) hb
theorem bz4{h:Hp}{i:Nat}{r:Wire.St}(hb:h.b[i]?=some (rdr r))(hl:r.rest.length<=100000000):ACall Tryz.prog GT 110 [.ptr i 0,.int .i64 1] h fun v h'=>v=.int .i64 ((Wire.cntR r 1).2:Nat)/\h'=⟨h.b.set i (rdr (Wire.cntR r 1).1),h.t⟩:=
 bwv (aj9 cqm) (fun C=>rep_int.2 rfl) (fun g w hw=>count_any g r w hw hl) hb
theorem set_self{h:Hp}{i:Nat}{b:Blk}(hb:h.b[i]?=some b):(⟨h.b.set i b,h.t⟩:Hp)=h:=by
 have hi:i<h.b.length:=(Zc.1 hb).1;have:h.b.set i b=h.b:=by
  apply List.ext_getElem?;intro j;rw[Zj];by_cases e:i=j
  ·subst e;rw[if_pos rfl,if_pos hi,hb]
  ·rw[if_neg e]
 rw[this]
theorem dql{h:Hp}{i:Nat}{r:Wire.St}(hb:h.b[i]?=some (rdr r)):ACall Tryz.prog GT 82 [.ptr i 0] h fun v h'=>v=.int .i64 r.rest.length/\h'=h:=by
 have:=bwv (v:=.int .i64 r.rest.length) (r':=r) cvc (fun C=>rep_int.2 rfl) (fun g w hw=>(cvr g r w hw).mono fun e w' ⟨h1,h2⟩=>⟨h1,by rw[h2];exact hw,by rw[h2];exact aj3 w _⟩) hb;rw[set_self hb]at this;exact this
theorem bkd{h:Hp}{i:Nat}{r:Wire.St}(hb:h.b[i]?=some (rdr r)):ACall Tryz.prog GT 104 [.ptr i 0] h fun v h'=>v=.int .i64 r.e/\h'=h:=by
 have:=bwv (v:=.int .i64 r.e) (r':=r) cvc (fun C=>rep_int.2 rfl) (fun g w hw=>(cwo g r w hw).mono fun e w' ⟨h1,h2⟩=>⟨h1,by rw[h2];exact hw,by rw[h2];exact aj3 w _⟩) hb;rw[set_self hb]at this;exact this
def wtr(ver:Int)(l:List UInt8):Blk:=.opq (fun F g w=>WF F g ver l w) (fun o=>if o=2 then some (.int .i64 ver)else none)
def dead:Blk:=.opq (fun _ _ _=>True) (fun _=>none)
def Wt(h:Hp)(i:Nat)(ver:Int)(l:List UInt8):Prop:=h.b[i]?=some (wtr ver l)\/(l=[]/\h.b[i]?=some (.cells 144 [.nilp,.sl 0 .nil [],.int .i64 ver]))
theorem WF.stable{F:Nat->Prop}{b:Nat}{ver:Int}{l:List UInt8}{w w':World}(h:WF F b ver l w)(hs:∀g,F g->w'.heap[g]?=w.heap[g]?):WF F b ver l w':=by
 obtain⟨p,v,hp,hb,hown,hne,hF,hFk⟩:=h;refine⟨p,v,hp,(hs b hF).trans hb,⟨hown.1,?_⟩,hne,hF,hFk⟩;rcases hown.2 with h1|⟨g,cap,cur,fz,rfl,h2,h3,h4⟩
 ·exact .inl h1
 ·exact .inr ⟨g,cap,cur,fz,rfl,h2,(hs g (hFk g rfl)).trans h3,h4⟩
theorem Wt.lt{h:Hp}{i:Nat}{ver:Int}{l:List UInt8}(hw:Wt h i ver l):i<h.b.length:=by
 rcases hw with h1|⟨_,h1⟩
 ·exact(Zc.1 h1).1
 ·exact(Zc.1 h1).1
theorem Wt.live{h:Hp}{i:Nat}{ver:Int}{l:List UInt8}(hw:Wt h i ver l):∃b0:Blk,h.b[i]?=some b0/\b0.live=true:=by
 rcases hw with h1|⟨_,h1⟩<;>exact⟨_,h1,rfl⟩
theorem Wt.wf{h:Hp}{i:Nat}{ver:Int}{l:List UInt8}{C:Ctx}{G:World->Prop}(hw:Wt h i ver l)(hI:Inv G C h):WF (fun g=>C.own g=some (C.lab i)) (C.κ i) ver l C.w:=by
 have hi:i<C.nb:=by rw[<-hI.nb];exact hw.lt
 rcases hw with h1|⟨rfl,h1⟩
 ·exact(hI.box i _ h1).1 C.w (fun _ _=>rfl) (Ze _)
 ·obtain⟨cs,k1,k2⟩:=hI.box i _ h1;obtain⟨c0,d0,rfl,e0,k2⟩:=repL_cons.1 k2;obtain⟨c1,d1,rfl,e1,k2⟩:=repL_cons.1 k2;obtain⟨c2,d2,rfl,e2,k2⟩:=repL_cons.1 k2;rw[azo]at k2;subst k2;rw[azx]at e0;rw[rep_int]at e2;subst e0;subst e2;obtain⟨a,cap,rfl,_,_,e3,e4,_⟩:=rep_sl.1 e1;subst e3;subst e4;exact⟨_,_,.inl rfl,k1,⟨rfl,.inl ⟨rfl,rfl⟩⟩,by simp[Value.ownBlock],hI.ok h1 rfl,fun k hk=>by simp[Value.ownBlock]at hk⟩
theorem ckh{C:Ctx}{i:Nat}{ver:Int}{l:List UInt8}(h:WF (fun g=>C.own g=some (C.lab i)) (C.κ i) ver l C.w):BlkRep C i (wtr ver l):=by
 refine⟨fun w' hw _=>WF.stable h hw,fun o x hx=>?_⟩;have hx':(if o=2 then some (A.int .i64 ver)else none)=some x:=hx;split at hx'
 ·next e=>
  injection hx' with hx';subst hx';subst e;obtain⟨p,v,hp,hb,_⟩:=h;exact⟨_,(az2 hb).2.2.1,rep_int.2 rfl⟩
 ·cases hx'
theorem bjl{h:Hp}{i:Nat}{ver:Int}{l:List UInt8}(hw:Wt h i ver l)(s:List UInt8)(hlen:l.length+s.length<=1000000000):
  ACall Tryz.prog GT 121 [.ptr i 0,.str s] h fun v h'=>v=.tup [.int .i64 s.length,.nili]/\h'=⟨h.b.set i (wtr ver (l++s)),h.t⟩:=by
 intro C es hI ha;obtain⟨c,es',rfl,h1,h2⟩:=repL_cons.1 ha;obtain⟨rfl,hi⟩:=rep_ptr.1 h1;obtain rfl:=aj9 aq3 C es' h2;refine(cxa (hw.wf hI) s hlen).mono ?_;rintro e w' ⟨rfl,m1,m2⟩;have hrep:BlkRep (C.turn w' i true) i (wtr ver (l++s)):=by
  refine ckh ?_;obtain⟨p,v,hp,hb,hown,hne,hF,hFk⟩:=m1;have hlt:=(az2 hb).2.2.2.2.2;have hcl:∀k,k<w'.heap.size->(C.own k=some (C.lab i)\/C.w.heap.size<=k)->(C.turn w' i true).own k=some (C.lab i):=fun k hk hor=>by
   show(if k<C.w.heap.size then C.own k else if true=true/\k<w'.heap.size then some (C.lab i)else none)=some (C.lab i)
   split
   ·rcases hor with h3|h3
    ·exact h3
    ·omega
   ·rw[if_pos ⟨rfl,hk⟩]
  refine⟨p,v,hp,hb,hown,hne,hcl _ hlt hF,fun k hk=>hcl k ?_ (hFk k hk)⟩;rcases hown.2 with⟨rfl,_⟩|⟨g,cap,cur,fz,rfl,_,h3,_⟩
  ·simp[Value.ownBlock]at hk
  ·simp only[Value.ownBlock,Zb]at hk;subst hk;exact(ZJ.1 h3).1
 obtain⟨i1,s1⟩:=aqk (b':=wtr ver (l++s)) true hI (hw.live).choose_spec.1 (hw.live).choose_spec.2 m2.os m2.tape m2.output m2.size (fun g hg hne=>m2.block g hg hne) (fun _=>hrep);exact⟨_,_,.tup [.int .i64 s.length,.nili],_,rfl,rfl,i1,s1,rep_tup.2 ⟨_,rfl,repL_cons.2 ⟨_,_,rfl,rep_int.2 rfl,repL_cons.2 ⟨_,_,rfl,bvg.2 rfl,azo.2 rfl⟩⟩⟩,rfl,rfl⟩
theorem dz2{h:Hp}{i:Nat}{ver:Int}{l:List UInt8}(hw:Wt h i ver l):ACall Tryz.prog GT 96 [.ptr i 0] h fun v h'=>v=.int .i64 l.length/\h'=h:=by
 intro C es hI ha;obtain⟨c,es',rfl,h1,h2⟩:=repL_cons.1 ha;obtain⟨rfl,hi⟩:=rep_ptr.1 h1;rw[azo]at h2;subst h2;refine(ck3 (hw.wf hI).wtr).mono ?_;rintro e w' ⟨rfl,rfl⟩;exact⟨C,h,_,_,rfl,rfl,hI,Step.refl C,rep_int.2 rfl,rfl,rfl⟩
theorem czn{h:Hp}{i:Nat}{ver:Int}{l:List UInt8}(hw:Wt h i ver l)(h0:l≠[]):ACall Tryz.prog GT 97 [.ptr i 0] h fun v h'=>v=.str l/\h'=⟨h.b.set i dead,h.t⟩:=by
 intro C es hI ha;obtain⟨c,es',rfl,h1,h2⟩:=repL_cons.1 ha;obtain⟨rfl,hi⟩:=rep_ptr.1 h1;rw[azo]at h2;subst h2;refine(bw0 (hw.wf hI) h0).mono ?_;rintro e w' ⟨rfl,m2⟩;obtain⟨i1,s1⟩:=aqk (b':=dead) false hI (hw.live).choose_spec.1 (hw.live).choose_spec.2 m2.os m2.tape m2.output m2.size (fun g hg hne=>m2.block g hg hne) (fun _=>⟨fun _ _ _=>trivial,fun o x hx=>by cases hx⟩);exact⟨_,_,.str l,_,rfl,rfl,i1,s1,rep_str.2 rfl,rfl,rfl⟩
end AX
end
section
open Go.ChangeShapes Go.WideShapes Go.ChangeAt Go.RowKit
namespace Card
theorem own:ownKnob Tryz.prog.godebug=none:=by kernel_rfl
theorem first_eq:Go.Pinned.utf8First=Lib.firstData:=by kernel_rfl
theorem accept_eq:(Rows.laid_unicode_utf8_acceptRanges:DataW Unit)=Lib.acceptData:=by kernel_rfl
theorem tz_name : Tryz.prog.globalNamed "math/bits.deBruijn64tab" = some 7 := by kernel_rfl
theorem tz_type:(Tryz.prog.globals[7]?).map (·.type)=some 260:=by kernel_rfl
theorem tz_cells:Tryz.prog.cellsOf 260=64:=by kernel_rfl
theorem tz_cell:Tryz.prog.cellsOf 5=1:=by kernel_rfl
def tab64:List Int:=[0,1,56,2,57,49,28,3,61,58,42,50,38,29,17,4,62,47,59,36,45,43,51,22,53,39,33,30,24,18,12,5,63,55,48,27,60,41,37,16,46,35,44,21,52,32,23,11,54,26,40,15,34,20,31,10,25,14,19,9,13,8,7,6]
theorem tab64_eq:(Rows.laid_math_bits_deBruijn64tab:DataW Unit)=Lib.tabData .u8 tab64:=by kernel_rfl
theorem iface_reads{P:Program}{w:World}{n:String}{g:Nat}{t:TypeId}{d:DataW Unit}{m:Array (String×TypeId)}(hg:P.globalNamed n=some g)(ht:(P.globals[g]?).map (·.type)=some t)(hu:P.underlying t=some (.interface m))(h:Lib.VarReads P w n d):IfaceAt g w:=by
 obtain⟨g',t',cs,fuel,p,h1,h2,h3,h4⟩:=h;rw[hg]at h1;injection h1 with h1;subst h1
 rw[ht]at h2;injection h2 with h2;subst h2
 have hc:=World.var?_cell hg h3 0;obtain⟨l⟩:=cs;cases fuel with
 |zero=>simp[DataW.trod]at h4
 |succ k=>
  match l,hc with
  |[],_=>simp[DataW.trod,hu]at h4
  |[.nilIface],hc=>exact⟨_,hc,.inl rfl⟩
  |[.iface u v],hc=>exact⟨_,hc,.inr ⟨u,v,rfl⟩⟩
  |v::x::l,_=>cases v<;>simp[DataW.trod,hu]at h4
  |[v],hc=>cases v<;>first|exact⟨_,hc,.inl rfl⟩|exact⟨_,hc,.inr ⟨_,_,rfl⟩⟩|simp[DataW.trod,hu]at h4
theorem tz_of {W : World} (r3 : Lib.VarReads Tryz.prog W "math/bits.deBruijn64tab" (Lib.tabData .u8 tab64)) : W.cell? ⟨7, 15, none⟩ = some (.int .u8 4) := by
 obtain⟨g,t,cs,fuel,p,hg,hty,hvar,hd⟩:=r3;obtain rfl:=Zan (tz_name.symm.trans hg);obtain rfl:=Zan (tz_type.symm.trans hty);have hcs:=Lib.cells_of_tab Tryz.underlying260 Tryz.underlying5 tz_cell tz_cells hd;have:=World.var?_cell hg hvar 15;rw[this,<-Array.getElem?_toList,hcs];rfl
theorem gt_of{W:World}(h:laidMetH Tryz.prog Rows.workspaceNilRow.laid W):GT W:=by
 have hL:laidMet Tryz.prog Rows.workspaceNilRow.laid W:=by
  have e:=Go.MakeChecks.laidMetH_plain Tryz.prog Rows.workspaceNilRow.laid W (by kernel_rfl)
  rwa [e]at h
 have r1 : Lib.VarReads Tryz.prog W "unicode/utf8.first" Lib.firstData := by
  rw[<-first_eq];exact Lib.laidMet.reads hL (.tail _ (.tail _ (.tail _ (.tail _ (.tail _ (.tail _ (.head _)))))))
 have r2 : Lib.VarReads Tryz.prog W "unicode/utf8.acceptRanges" Lib.acceptData := by
  rw[<-accept_eq];exact Lib.laidMet.reads hL (.tail _ (.tail _ (.tail _ (.head _))))
 exact⟨utf8Tabs_of_reads (ρ:=Tryz.lays260_ren) Tryz.lays260 ⟨by kernel_rfl,by kernel_rfl,by kernel_rfl,by kernel_rfl,by kernel_rfl,by kernel_rfl,by kernel_rfl⟩ r1 r2,
  iface_reads (by kernel_rfl) (by kernel_rfl) Tryz.underlying178 (Lib.laidMet.reads hL (.tail _ (.tail _ (.tail _ (.tail _ (.tail _ (.head _))))))),iface_reads (by kernel_rfl) (by kernel_rfl) Tryz.underlying178 (Lib.laidMet.reads hL (.tail _ (.tail _ (.tail _ (.tail _ (.head _)))))),tz_of (by rw[<-tab64_eq];exact Lib.laidMet.reads hL (.tail _ (.head _)))⟩
def ints(k:IntKind)(l:List Int):Array Value:=(l.map fun z=>Value.int k z).toArray
def u8s(l:List Int):Array Value:=ints .u8 l
def setTab(h:Array Obj)(g:Nat)(cs:Array Value):Array Obj:=h.modify g fun
 |.cells _ t frozen=> .cells cs t frozen
 |o=>o
noncomputable def low:Nat:=(World.holding Tryz.prog default ⟨#[],#[],[]⟩).heap.size
noncomputable def laidWorld(os:Os)(args:Array Value):World:=
 { World.holding Tryz.prog os ⟨#[.cells #[.string { data:=#[118,97,108,117,101,32,111,117,116,32,111,102,32,114,97,110,103,101] }] 253,.cells #[.string { data:=#[105,110,118,97,108,105,100,32,115,121,110,116,97,120] }] 253],args,[]⟩with
  heap:=(setTab (setTab (setTab (setTab (setTab (setTab (setTab (World.holding Tryz.prog os ⟨#[.cells #[.string { data:=#[118,97,108,117,101,32,111,117,116,32,111,102,32,114,97,110,103,101] }] 253,.cells #[.string { data:=#[105,110,118,97,108,105,100,32,115,121,110,116,97,120] }] 253],args,[]⟩).heap 6 (ints .u8 [0,1,28,2,29,14,24,3,30,22,20,15,25,17,4,8,31,27,13,23,21,19,16,7,26,12,18,6,11,5,10,9])) 7 (ints .u8 [0,1,56,2,57,49,28,3,61,58,42,50,38,29,17,4,62,47,59,36,45,43,51,22,53,39,33,30,24,18,12,5,63,55,48,27,60,41,37,16,46,35,44,21,52,32,23,11,54,26,40,15,34,20,31,10,25,14,19,9,13,8,7,6])) 5 (ints .u64 [1,10,100,1000,10000,100000,1000000,10000000,100000000,1000000000,10000000000,100000000000,1000000000000,10000000000000,100000000000000,1000000000000000,10000000000000000,100000000000000000,1000000000000000000,10000000000000000000])) 2 (ints .u8 [128,191,160,191,128,159,144,191,128,143,0,0,0,0,0,0,0,0,0,0,0,0,0,0,0,0,0,0,0,0,0,0])) 4 (#[.iface 251 (.pointer (some ⟨low+0,0,none⟩))])) 3 (#[.iface 251 (.pointer (some ⟨low+1,0,none⟩))])) 1 (u8s Lib.firstTab)) }
end Card
end
section
open Go.RowKit
mutual
def D.cells:D->List AX.A
 |.int k n=>[.int k n]
 |.str l=>[.str l]
 |.bool b=>[.bool b]
 |.agg l=>D.cellsL l
 |.sl W l=>[.sl W .no (D.rows l)]
def D.cellsL:List D->List AX.A
 |[]=>[]
 |d::l=>d.cells++D.cellsL l
def D.rows:List D->List (List AX.A)
 |[]=>[]
 |d::l=>d.cells::D.rows l
end
mutual
theorem D.cells_data:∀(d:D) (x:AX.A),x∈d.cells->x.data=true
 |.int k n,x,h=>by unfold D.cells at h;simp at h;subst h;rfl
 |.str l,x,h=>by unfold D.cells at h;simp at h;subst h;rfl
 |.bool b,x,h=>by unfold D.cells at h;simp at h;subst h;rfl
 |.agg l,x,h=>by unfold D.cells at h;exact D.cellsL_data l x h
 |.sl W l,x,h=>by unfold D.cells at h;simp at h;subst h;rfl
theorem D.cellsL_data:∀(l:List D) (x:AX.A),x∈D.cellsL l->x.data=true
 |[],x,h=>by unfold D.cellsL at h;simp at h
 |d::l,x,h=>by
  unfold D.cellsL at h;rcases Yd.1 h with h|h
  ·exact D.cells_data d x h
  ·exact D.cellsL_data l x h
end
namespace AX
def Ctx.of(w:World):Ctx:={ w:=w,S:=fun g _=>g<w.heap.size,κ:=fun _=>0,nb:=0,τ:=fun _=>0,hw:=fun _=>none,own:=fun _=>none,base:=w.heap.size,kap:=fun _=>0,lab:=fun i=>i }
theorem inv_of{G:World->Prop}{w:World}(hG:∀w':World,(∀g,g<w.heap.size->w'.heap[g]?=w.heap[g]?)->G w'):Inv G (Ctx.of w) ⟨[],[]⟩ where
 nb:=rfl
 box:=fun i b h=>by simp at h
 ownk:=⟨fun i b h=>by simp at h,fun i j b b' h=>by simp at h⟩
 ownlt:=fun g i h=>by simp[Ctx.of]at h
 prot:=fun g j h=>⟨h,rfl,fun t E W m ht=>by simp[Ctx.of]at ht⟩
 rows:=fun t E W m h=>by simp[Ctx.of]at h
 inj:=fun t t' h=>by simp[Ctx.of]at h
 toks:=fun t=>by simp[Ctx.of]
 base:=Ze _
 glob:=hG
theorem cxq{P:Program}{G:World->Prop}{f:FuncId}{args:List A}{vs:List Value}{w:World}(hc:ACall P G f args ⟨[],[]⟩ fun v _=>v=.bool true)(hG:∀w':World,(∀g,g<w.heap.size->w'.heap[g]?=w.heap[g]?)->G w')
  (ha:RepL (Ctx.of w) args vs):Calls P f vs.toArray w fun e w'=>e=.returned (.bool true)/\Below w.heap.size w w':=by
 refine(hc (Ctx.of w) vs (inv_of hG) ha).mono ?_;rintro e w' ⟨C',h',v,cv,rfl,rfl,_,st,hr,rfl⟩;rw[aqc]at hr;subst hr;exact⟨rfl,st.os,st.tape,st.output,st.size,fun g hg=>st.frame g hg rfl fun t ht=>by simp[Ctx.of]at ht⟩
theorem byw{a b:Nat}{w:World}(h:Lib.Utf8Tabs a b w):∀w':World,(∀g,g<w.heap.size->w'.heap[g]?=w.heap[g]?)->Lib.Utf8Tabs a b w':=by
 intro w' hw;have hlt:∀{g j:Nat} {v:Value},w.cell? ⟨g,j,none⟩=some v->g<w.heap.size:=fun {g j v} h=>(axx h).2
 have hc:∀{g j:Nat} {v:Value},w.cell? ⟨g,j,none⟩=some v->w'.cell? ⟨g,j,none⟩=some v:=fun {g j v} h=>by
  rw[<-h];simp only[World.cell?,hw g (hlt h)]
 exact⟨fun c hcl=>hc (h.1 c hcl),fun i hi=>⟨hc (h.2 i hi).1,hc (h.2 i hi).2⟩⟩
end AX
end
section
open Go.RowKit Go.ChangeShapes Go.WideShapes
namespace AX
theorem czj{w:World}(g:GT w):∀w':World,(∀g,g<w.heap.size->w'.heap[g]?=w.heap[g]?)->GT w':=fun w' hw=>by
 have hi:∀{n:Nat},IfaceAt n w->IfaceAt n w':=fun⟨ev,h1,h2⟩=>⟨ev,by rw[<-h1];simp only[World.cell?,hw _ (axx h1).2],h2⟩
 exact⟨byw g.tabs w' hw,hi g.esyn,hi g.erng,by rw[<-g.tz];simp only[World.cell?,hw _ (axx g.tz).2]⟩
theorem cx0(a:ByteArray):Value.string a=.string ⟨a.data.toList.toArray⟩:=by simp
section
variable {H:Type} {enc:TypeId×Value->H} {w:World} {base:Nat} {spare:Nat->Bool} {held:Bool} {r:Reach} {b0:Nat} {v:Value} {d:DataW H} {p:List MemPlace}
end
end AX
end
section
open Go.RowKit
namespace AX
theorem bvp{P:Program}{G:World->Prop}{ops:List AOper}{Q:AExit->Ts->Hp->Prop}{ts:Ts}{h:Hp}(m:Nat)(hb:(seqB m ops&&chainB (closeOps ops) (actsF m 0 (closeOps ops)))=true)(hp:aseq P G m 0 (flagsOf m ops) ops [] [] (Q .normal) ts h):awp P G (.reg true ops) Q ts h:=
 ckt m (Bool.and_eq_true_iff.1 hb).1 hp
theorem evp{A F:Prop}(f:F)(h:F->A:=by intro f;simp only[f]<;>with_reducible rfl):A:=h f
theorem ev0{A F:Prop}(f:F)(h:F->A:=by intro f;simp only[aqy,az8,az9,awr,awl,aqa,ax6,ax5,ax3,azm,axc,astep,bop,uop,loadA,storeA,appA,ssliceA,eqA,eqCells,fillA,rowsA,setCells,A.cells,A.one,A.data,azy,ZH,YI,ZW,Z0,YC,ZU,Yx,YJ,Y1,Z3,Yz,ZQ,Yk,Yg,ZT,ZO,ZX,Zu,akl,av6,ajn,akr,ak2,awt,awv,awz,awx,aw1,ayc,Zf,Zo,ZA,ZK,Zx,YT,YU,YW,ZS,Ya,Ym,Y4,Yv,Za,Zv,Nat.reduceAdd,Nat.reduceSub,Nat.reduceMul,Nat.reduceLeDiff,Nat.reduceEqDiff,Nat.reduceBEq,Yo,YG,Int.reduceBEq,Int.reduceBNe,Int.reduceLT,Int.reduceLE,Int.reduceEq,Int.le_refl,Zal,if_true,if_false,reduceIte,ite_true,ite_false,true_and,and_true,ne_eq,YA,YO,Zn,reduceCtorEq,and_self,Yc,Yj,Ze,Yb,Z8,and_self,decide_true,decide_false,Y3,Zah,Bool.or_true,Zab,Y2,YD,Zad,Bool.not_not,bv6,bvz,bv4,cxo,cj8,cq0,rowsR,ZP,List.flatten_nil,mgetA,msetA,mdelA,mclrA,mlenA,mgetV,Zai,Y8,f]<;>with_reducible rfl):A:=h f
theorem eu0{A F:Prop}(f:F)(h:F->A:=by intro f;simp only[aqy,az8,az9,awr,awl,aqa,ax6,ax5,ax3,azm,axc,astep,bop,uop,loadA,storeA,appA,ssliceA,eqA,eqCells,fillA,rowsA,setCells,A.cells,A.one,A.data,azy,ZH,YI,ZW,Z0,YC,ZU,Yx,YJ,Y1,Z3,Yz,ZQ,Yk,Yg,ZT,ZO,ZX,Zu,akl,av6,ajn,akr,ak2,awt,awv,awz,awx,aw1,ayc,Zf,Zo,ZA,ZK,Zx,YT,YU,YW,ZS,Ya,Ym,Y4,Yv,Za,Zv,Nat.reduceAdd,Nat.reduceSub,Nat.reduceMul,Nat.reduceLeDiff,Nat.reduceEqDiff,Nat.reduceBEq,Yo,YG,Int.reduceBEq,Int.reduceBNe,Int.reduceLT,Int.reduceLE,Int.reduceEq,Int.le_refl,Zal,if_true,if_false,reduceIte,ite_true,ite_false,true_and,and_true,ne_eq,YA,YO,Zn,reduceCtorEq,and_self,Yc,Yj,Ze,Yb,Z8,and_self,decide_true,decide_false,Y3,Zah,Bool.or_true,Zab,Y2,YD,Zad,Bool.not_not,bv6,bvz,bv4,cxo,cj8,cq0,rowsR,ZP,List.flatten_nil,mgetA,msetA,mdelA,mclrA,mlenA,mgetV,Zai,Y8,f];rw[if_pos (by first|omega|(refine⟨?_,?_⟩<;>omega)|(simp only[true_and,and_true];omega))];with_reducible rfl):A:=h f
theorem aqg{A F:Prop}(f:F)(h:F->A:=by intro f;simp only[aqy,az8,az9,awr,awl,aqa,ax6,ax5,ax3,azm,axc,astep,bop,uop,loadA,storeA,appA,ssliceA,eqA,eqCells,fillA,rowsA,setCells,A.cells,A.one,A.data,azy,ZH,YI,ZW,Z0,YC,ZU,Yx,YJ,Y1,Z3,Yz,ZQ,Yk,Yg,ZT,ZO,ZX,Zu,akl,av6,ajn,akr,ak2,awt,awv,awz,awx,aw1,ayc,Zf,Zo,ZA,ZK,Zx,YT,YU,YW,ZS,Ya,Ym,Y4,Yv,Za,Zv,Nat.reduceAdd,Nat.reduceSub,Nat.reduceMul,Nat.reduceLeDiff,Nat.reduceEqDiff,Nat.reduceBEq,Yo,YG,Int.reduceBEq,Int.reduceBNe,Int.reduceLT,Int.reduceLE,Int.reduceEq,Int.le_refl,Zal,if_true,if_false,reduceIte,ite_true,ite_false,true_and,and_true,ne_eq,YA,YO,Zn,reduceCtorEq,and_self,Yc,Yj,Ze,Yb,Z8,and_self,decide_true,decide_false,Y3,Zah,Bool.or_true,Zab,Y2,YD,Zad,Bool.not_not,bv6,bvz,bv4,cxo,cj8,cq0,rowsR,ZP,List.flatten_nil,mgetA,msetA,mdelA,mclrA,mlenA,mgetV,Zai,Y8,f,Int.natCast_add,Int.natCast_one]<;>trivial):A:=h f
theorem cv8{A F:Prop}(f:F)(h:F->A:=by intro f;simp only[aqy,az8,az9,awr,awl,aqa,ax6,ax5,ax3,azm,axc,astep,bop,uop,loadA,storeA,appA,ssliceA,eqA,eqCells,fillA,rowsA,setCells,A.cells,A.one,A.data,azy,ZH,YI,ZW,Z0,YC,ZU,Yx,YJ,Y1,Z3,Yz,ZQ,Yk,Yg,ZT,ZO,ZX,Zu,akl,av6,ajn,akr,ak2,awt,awv,awz,awx,aw1,ayc,Zf,Zo,ZA,ZK,Zx,YT,YU,YW,ZS,Ya,Ym,Y4,Yv,Za,Zv,Nat.reduceAdd,Nat.reduceSub,Nat.reduceMul,Nat.reduceLeDiff,Nat.reduceEqDiff,Nat.reduceBEq,Yo,YG,Int.reduceBEq,Int.reduceBNe,Int.reduceLT,Int.reduceLE,Int.reduceEq,Int.le_refl,Zal,if_true,if_false,reduceIte,ite_true,ite_false,true_and,and_true,ne_eq,YA,YO,Zn,reduceCtorEq,and_self,Yc,Yj,Ze,Yb,Z8,and_self,decide_true,decide_false,Y3,Zah,Bool.or_true,Zab,Y2,YD,Zad,Bool.not_not,bv6,bvz,bv4,cxo,cj8,cq0,rowsR,ZP,List.flatten_nil,mgetA,msetA,mdelA,mclrA,mlenA,mgetV,Zai,Y8,forH,pastN,obsP,obsD,obsN,memN,YD,Y2,Zab,Bool.or_true,true_or,or_true,false_or,or_false,f]<;>exact ti):A:=h f
theorem go0{A B F:Prop}(f:F)(k:B)(h:F->B->A:=by intro f k;(repeat (first|with_reducible refine cv0 ?_|with_reducible refine dzy ?_|with_reducible refine ckc ?_|with_reducible refine dqj ?_|with_reducible refine dzs ?_|with_reducible refine cvy ?_|with_reducible refine bys ?_|with_reducible refine go_ret ?_|with_reducible refine dqi ?_|with_reducible refine dzf ?_|with_reducible refine cy7 ?_|with_reducible refine dqb ?_|with_reducible refine dzi ?_|((with_reducible refine dzv ?_ ?_);exact rfl)|with_reducible refine cka ?_|((with_reducible apply bw6);exact rfl;exact ev0 f)|((with_reducible apply bw6);exact rfl;exact eu0 f)|((with_reducible apply ck4);exact rfl;exact ev0 f)|((with_reducible apply ck4);exact rfl;exact eu0 f)|((with_reducible refine cq1 ?_ ?_);exact ev0 f)|((with_reducible refine go_skip ?_ ?_);exact ev0 f)|((with_reducible refine cxl ?_ ?_);exact ev0 f)|((with_reducible refine cyp ?_ ?_);exact ev0 f)|((with_reducible apply cvx);exact ev0 f;exact rfl;exact ev0 f)|((with_reducible apply cvx);exact ev0 f;exact rfl;exact eu0 f)|((with_reducible apply cv9);exact ev0 f;exact rfl;exact ev0 f)|((with_reducible apply cv9);exact ev0 f;exact rfl;exact eu0 f)|((with_reducible refine dzn ?_ ?_);exact ev0 f)|((with_reducible refine dzh ?_ ?_);exact ev0 f)|((with_reducible apply cw6);exact ev0 f)|((with_reducible apply cje);exact ev0 f)));exact k):A:=h f k
theorem gc0{A B F:Prop}(f:F)(k:B)(h:F->B->A:=by intro f k;first|((with_reducible apply go_call);exact ev0 f;exact k)|((with_reducible apply cjx);exact ev0 f;exact ev0 f;exact k)|((with_reducible apply cxb);exact ev0 f;exact rfl;kernel_rfl;exact ev0 f;exact k)):A:=h f k
theorem azb{A B F:Prop}(f:F)(k:B)(h:F->B->A:=by intro f k;(repeat (first|with_reducible refine cv0 ?_|with_reducible refine cwc ?_|with_reducible refine dzu ?_|with_reducible refine dqj ?_|with_reducible refine dzs ?_|with_reducible refine cvy ?_|with_reducible refine bys ?_|with_reducible refine go_ret ?_|with_reducible refine dqi ?_|with_reducible refine dzf ?_|with_reducible refine cy7 ?_|with_reducible refine dqb ?_|with_reducible refine dzi ?_|((with_reducible refine dzv ?_ ?_);exact rfl)|((with_reducible apply cyv);exact rfl;exact ev0 f;exact ev0 f;(first|exact evp f|exact ev0 f|exact eu0 f))|((with_reducible apply byy);exact rfl;exact rfl;exact ev0 f)|((with_reducible apply byy);exact rfl;exact rfl;exact eu0 f)|((with_reducible apply bwz);exact rfl;exact ev0 f)|((with_reducible apply cx3);exact rfl;exact ev0 f)|((with_reducible apply cq4);exact ev0 f)|((with_reducible apply ck7);exact ev0 f;exact ev0 f;(first|exact evp f|exact ev0 f|exact eu0 f);(first|exact ti|exact cv8 f))|((with_reducible apply dzd);exact rfl;decide +kernel;exact rfl;exact ev0 f)|((with_reducible apply by1);exact rfl;exact rfl;exact ev0 f;(first|exact ti|exact cv8 f))|((with_reducible apply dzd);exact rfl;decide +kernel;exact rfl;exact eu0 f)|((with_reducible apply by1);exact rfl;exact rfl;exact eu0 f;(first|exact ti|exact cv8 f))|((with_reducible apply cwl);exact rfl;decide +kernel;exact rfl;exact ev0 f;(first|exact ti|exact cv8 f))|((with_reducible apply cj9);decide +kernel;exact rfl;exact ev0 f)|((with_reducible apply ckm);decide +kernel;exact rfl;exact ev0 f)|((with_reducible apply cyq);exact ev0 f)|((with_reducible apply cxr);exact ev0 f;exact rfl;kernel_rfl;exact ev0 f)|((with_reducible apply cjh);exact ev0 f;exact rfl;exact rfl;kernel_rfl;exact ev0 f)|((with_reducible refine dzn ?_ ?_);exact ev0 f)|((with_reducible refine dzh ?_ ?_);exact ev0 f)|((with_reducible apply cw6);exact ev0 f)|((with_reducible apply cje);exact ev0 f)|((with_reducible refine bvp 1 ?_ ?_);decide +kernel)|((with_reducible refine bvp 2 ?_ ?_);decide +kernel)));exact k):A:=h f k
theorem V_A:∀v:V,V.A v=.agg v.cells:=fun _=>rfl
theorem azi:∀k n s is ks,V.cells (.mk k n s is ks)=[.int .i64 k,.int .i64 n,.str s,.sl 5 .no (V.cellss is),.sl 1 .no (strsA ks)]:=fun k n s is ks=>by rw[V.cells]
theorem dzm:∀(ver:Int) (l:List UInt8),wtr ver l=.opq (fun F g w=>WF F g ver l w) (fun o=>if o=2 then some (.int .i64 ver)else none):=fun _ _=>rfl
theorem use{P:Program}{G:World->Prop}{m i:Nat}{fl:List Bool}{past:List Hp}{obs:Obs}{d:Option Nat}{af:List Nat}{os:List AOper}{K:Ts->Hp->Prop}{ts:Ts}{h:Hp}{f:FuncId}{vs:List A}{h':Hp}{v:A}(hc:ACall P G f vs h fun v' h''=>v'=v/\h''=h')(k:aseq P G m (i+1) fl.tail os (pastN m h past) (obsN m af obs) K (put ts d v) h')(hm:(m=2->h'=h/\fl.headD false=false)/\(m≠2->obsP af obs h'):=by first|exact⟨fun e=>absurd e (by decide),fun _=>ti⟩|exact⟨fun e=>absurd e (by decide),fun _=>cv8 ti⟩|exact⟨fun _=>⟨rfl,by decide +kernel⟩,fun e=>absurd rfl e⟩):CallK P G m i fl f vs h d af os past obs K ts:=rt hc hm k
theorem azn{A B F C:Prop}(f:F)(c:C)(k:B)(h:F->C->B->A:=by intro f c k;refine azb f ?_;(repeat ((first|refine use (c.1 _) ?_|refine use (c.1 _ _) ?_|refine use c.1 ?_|refine use (c.2.1 _) ?_|refine use (c.2.1 _ _) ?_|refine use c.2.1 ?_|refine use (c.2.2.1 _) ?_|refine use (c.2.2.1 _ _) ?_|refine use c.2.2.1 ?_|refine use (c.2.2.2.1 _) ?_|refine use (c.2.2.2.1 _ _) ?_|refine use c.2.2.2.1 ?_|refine use (c.2.2.2.2.1 _) ?_|refine use (c.2.2.2.2.1 _ _) ?_|refine use c.2.2.2.2.1 ?_|refine use (c.2.2.2.2.2.1 _) ?_|refine use (c.2.2.2.2.2.1 _ _) ?_|refine use c.2.2.2.2.2.1 ?_|refine use (c.2.2.2.2.2.2.1 _) ?_|refine use (c.2.2.2.2.2.2.1 _ _) ?_|refine use c.2.2.2.2.2.2.1 ?_|refine use (c.2.2.2.2.2.2.2.1 _) ?_|refine use (c.2.2.2.2.2.2.2.1 _ _) ?_|refine use c.2.2.2.2.2.2.2.1 ?_|refine use (c.2.2.2.2.2.2.2.2.1 _) ?_|refine use (c.2.2.2.2.2.2.2.2.1 _ _) ?_|refine use c.2.2.2.2.2.2.2.2.1 ?_);refine azb f ?_));exact k):A:=h f c k
theorem evg{A F:Prop}(f:F)(h:F->A:=by intro f;simp only[aqy,az8,az9,awr,awl,aqa,ax6,ax5,ax3,azm,axc,astep,bop,uop,loadA,storeA,appA,ssliceA,eqA,eqCells,fillA,rowsA,setCells,A.cells,A.one,A.data,azy,ZH,YI,ZW,Z0,YC,ZU,Yx,YJ,Y1,Z3,Yz,ZQ,Yk,Yg,ZT,ZO,ZX,Zu,akl,av6,ajn,akr,ak2,awt,awv,awz,awx,aw1,ayc,Zf,Zo,ZA,ZK,Zx,YT,YU,YW,ZS,Ya,Ym,Y4,Yv,Za,Zv,Nat.reduceAdd,Nat.reduceSub,Nat.reduceMul,Nat.reduceLeDiff,Nat.reduceEqDiff,Nat.reduceBEq,Yo,YG,Int.reduceBEq,Int.reduceBNe,Int.reduceLT,Int.reduceLE,Int.reduceEq,Int.le_refl,Zal,if_true,if_false,reduceIte,ite_true,ite_false,true_and,and_true,ne_eq,YA,YO,Zn,reduceCtorEq,and_self,Yc,Yj,Ze,Yb,Z8,and_self,decide_true,decide_false,Y3,Zah,forL,cqc,Nat.reduceMod,Zb,Yg,ZT,f]<;>with_reducible rfl):A:=h f
theorem ing{A F:Prop}(f:F)(h:F->A:=by intro f;simp only[aqy,az8,az9,awr,awl,aqa,ax6,ax5,ax3,azm,axc,astep,bop,uop,loadA,storeA,appA,ssliceA,eqA,eqCells,fillA,rowsA,setCells,A.cells,A.one,A.data,azy,ZH,YI,ZW,Z0,YC,ZU,Yx,YJ,Y1,Z3,Yz,ZQ,Yk,Yg,ZT,ZO,ZX,Zu,akl,av6,ajn,akr,ak2,awt,awv,awz,awx,aw1,ayc,Zf,Zo,ZA,ZK,Zx,YT,YU,YW,ZS,Ya,Ym,Y4,Yv,Za,Zv,Nat.reduceAdd,Nat.reduceSub,Nat.reduceMul,Nat.reduceLeDiff,Nat.reduceEqDiff,Nat.reduceBEq,Yo,YG,Int.reduceBEq,Int.reduceBNe,Int.reduceLT,Int.reduceLE,Int.reduceEq,Int.le_refl,Zal,if_true,if_false,reduceIte,ite_true,ite_false,true_and,and_true,ne_eq,YA,YO,Zn,reduceCtorEq,and_self,Yc,Yj,Ze,Yb,Z8,and_self,decide_true,decide_false,Y3,Zah,forL,cqc,Nat.reduceMod,Zb,Yg,ZT,f]<;>exact ti):A:=h f
theorem rung{A B F:Prop}(f:F)(k:B)(h:F->B->A:=by intro f k;(repeat (first|with_reducible refine cyz ?_|((with_reducible apply dqv);exact rfl;(refine⟨?_,?_⟩);exact evg f;(first|exact ti|exact ing f))));exact k):A:=h f k
def bjm:AX.AFn:=⟨50,aS [aR 1 (.box 32 (.t 0)),aR 2 (.mv (aI 0))] (.seq (aS [aR 6 (.load true 5 (.t 1)),aR 7 (.call 62 [.t 6]),aR 8 (.un .not (.t 7))] (.cond (.t 8) (aS [aR 2 (.mv (aI 1))] (.ret)) (.skip))) (.seq (aS [aF 9 0 1,aL 10 9] (.block 0 (aS [aR 12 (.bin .eql (.t 10) (aI 2)),aM 11 12] (.cond (.t 11) (aS [aF 13 1 1,aL 14 13,aR 15 (.call 63 [.t 14]),aR 16 (.un .not (.t 15))] (.cond (.t 16) (aS [aR 2 (.mv (aI 5))] (.ret)) (.skip))) (aS [aR 18 (.bin .eql (.t 10) (aI 3)),aM 17 18] (.cond (.t 17) (aS [aF 19 2 1,aL 20 19,aR 21 (.call 64 [.t 20]),aM 2 21] (.ret)) (aS [aR 23 (.bin .eql (.t 10) (aI 5)),aM 22 23] (.cond (.t 22) (aS [aF 24 4 1,aL 25 24,aR 26 (.len false (.t 25)),aR 27 (.mv (aI 0))] (.block 1 (.loop (aS [aR 28 (.bin .lss (.t 27) (.t 26))] (.seq (.cond (.t 28) (.skip) (.exit 1)) (.seq (.block 2 (aS [aM 29 27,aR 30 (.iaddr 1 (.t 25) (.t 27)),aL 31 30,aM 3 29,aM 4 31] (.seq (aS [aM 32 4,aR 33 (.call 64 [.t 32]),aM 5 33] (aS [aM 34 5,aR 35 (.bin .neq (.t 34) (aI 0))] (.cond (.t 35) (aS [aM 36 5,aM 2 36] (.ret)) (.skip)))) (aS [aM 37 3,aR 38 (.bin .gtr (.t 37) (aI 0)),aM 39 38,aG 40 (.mv (.t 4)) 39 true,aG 41 (.faddr 4 (.t 1)) 39 true,aG 42 (.load false 1 (.t 41)) 39 true,aG 43 (.mv (.t 3)) 39 true,aG 44 (.bin .sub (.t 43) (aI 1)) 39 true,aG 45 (.iaddr 1 (.t 42) (.t 44)) 39 true,aG 46 (.load false 1 (.t 45)) 39 true,aG 47 (.bin .leq (.t 40) (.t 46)) 39 true,aR 48 (.pick (.t 39) (.t 47) (.c (.bool false)))] (.cond (.t 48) (aS [aR 2 (.mv (aI 1))] (.ret)) (.skip)))))) (.reg false [aR 49 (.bin .add (.t 27) (aI 1)),aM 27 49]))))))) (.skip))))))))) (aS [aR 2 (.mv (aI 0))] (.ret)))),[.t 2]⟩
theorem ck8:AX.compFn Tryz.prog 41=some bjm:=by kernel_rfl
def bzc:AX.AFn:=⟨9,aS [aR 1 (.box 32 (.t 0)),aR 2 (.mv (aI 0))] (aS [aR 3 (.alloc 3 [.int .i64 0]),aU (.store 1 (.t 3) (aI 0))] (aS [aR 4 (.alloc 82 [.nilf])] (aS [aR 5 (.mkfn 40 [.t 3,.t 4]),aU (.store 1 (.t 4) (.t 5))] (aS [aL 6 4,aR 7 (.load true 5 (.t 1)),aR 8 (.callv (.t 6) [.t 7,aI 1]),aM 2 8] (.ret))))),[.t 2]⟩
theorem cvs:AX.compFn Tryz.prog 21=some bzc:=by kernel_rfl
def bzo:AX.AFn:=⟨38,aS [aR 4 (.box 32 (.t 0)),aR 6 (.mv (aI 0))] (.seq (aS [aM 11 1,aR 12 (.bin .gtr (.t 11) (aI 32))] (.cond (.t 12) (aS [aR 6 (.mv (aI 4))] (.ret)) (.skip))) (.seq (aS [aL 13 2,aR 14 (.bin .geq (.t 13) (aI 4096))] (.cond (.t 14) (aS [aR 6 (.mv (aI 14))] (.ret)) (.skip))) (aS [aL 15 2,aR 16 (.bin .add (.t 15) (aI 1)),aU (.store 1 (.t 2) (.t 16))] (.seq (aS [aR 17 (.load true 5 (.t 4)),aR 18 (.call 41 [.t 17]),aM 7 18] (aS [aM 19 7,aR 20 (.bin .neq (.t 19) (aI 0))] (.cond (.t 20) (aS [aM 21 7,aM 6 21] (.ret)) (.skip)))) (.seq (aS [aF 22 3 4,aL 23 22,aR 24 (.len false (.t 23)),aR 25 (.mv (aI 0))] (.block 0 (.loop (aS [aR 26 (.bin .lss (.t 25) (.t 24))] (.seq (.cond (.t 26) (.skip) (.exit 0)) (.seq (.block 1 (aS [aR 27 (.iaddr 5 (.t 23) (.t 25)),aR 28 (.load true 5 (.t 27)),aR 9 (.alloc 32 [.int .i64 0,.int .i64 0,.str [],.sl 0 .nil [],.sl 0 .nil []]),aU (.store 5 (.t 9) (.t 28))] (aS [aL 29 3,aR 30 (.load true 5 (.t 9)),aM 31 1,aR 32 (.bin .add (.t 31) (aI 1)),aR 33 (.callv (.t 29) [.t 30,.t 32]),aM 10 33] (aS [aM 34 10,aR 35 (.bin .neq (.t 34) (aI 0))] (.cond (.t 35) (aS [aM 36 10,aM 6 36] (.ret)) (.skip)))))) (.reg false [aR 37 (.bin .add (.t 25) (aI 1)),aM 25 37]))))))) (aS [aR 6 (.mv (aI 0))] (.ret))))))),[.t 6]⟩
theorem cj0:AX.compFn Tryz.prog 40=some bzo:=by kernel_rfl
theorem bqn{k n:Int}{s:List UInt8}{is:List V}{ks:List (List UInt8)}(h:Val.shapedB k n s is.length ks.length=true):(k≠3->s=[])/\(k≠5->ks=[]):=by
 unfold Val.shapedB at h;simp only[Zg,ZY,ZF,Z5]at h;obtain⟨⟨⟨⟨_,_⟩,h1⟩,_⟩,h2⟩:=h;refine⟨fun hk=>?_,fun hk=>?_⟩
 ·rcases h1 with h1|h1
  ·exact absurd h1 hk
  ·exact h1
 ·rw[if_neg hk]at h2;exact ZE (by simpa using h2)
theorem cyx(k n:Int)(s:List UInt8)(is:List V)(ks:List (List UInt8))(hlen:(V.mk k n s is ks).lens)(h:Hp):AT 41 [(V.mk k n s is ks).A] h (.int .i64 (Val.nodeZ (.mk k n s is ks))):=by
 refine pcall ?_ rfl (by simp[V.A,V.cells,A.pure,A.data]) h;obtain⟨hil,hkl,_,_⟩:=V.lens_mk hlen;refine aza mixedT ck8 (by simp[bjm]) ?_;dsimp only[bjm];refine go0 (ai @V_A @azi) ?_;refine gc0 (ai @V_A @azi) ?_;refine(cjc k n s .no .no 5 1 _ _ _).mono ?_;rintro v h' ⟨rfl,rfl⟩;rw[V.cellss_length,aze];rcases azr (Val.shapedB k n s is.length ks.length)with hs|hs
 ·rw[hs];obtain⟨hs3,hs5⟩:=bqn hs;have hZ:Val.nodeZ (.mk k n s is ks)=if k=2/\¬(-9007199254740992<=n/\n<=9007199254740992)then 5 else if Val.textZ s≠0 then Val.textZ s else Val.keysZ none ks:=by rw[Val.nodeZ,if_neg (by rw[hs];simp)]
  have ht0:Val.textZ []=0:=by decide
  have hk0:Val.keysZ none []=0:=rfl;by_cases h2:k=2
  ·have e2:(k==2)=true:=by simp[h2]
   obtain rfl:s=[]:=hs3 (by omega);obtain rfl:ks=[]:=hs5 (by omega);refine go0 (ai @V_A (ai @azi e2)) ?_;refine gc0 (ai @V_A (ai @azi e2)) ?_;refine(cq7 n _).mono ?_;rintro v h' ⟨rfl,rfl⟩;by_cases hn:-9007199254740992<=n/\n<=9007199254740992
   ·refine go0 (ai @V_A (ai @azi (ai e2 hn))) ?_;exact⟨_,le_refl _,by rw[azm,hZ,if_neg (by simp[hn]),ht0];simp[hk0]⟩
   ·refine go0 (ai @V_A (ai @azi (ai e2 hn))) ?_;exact⟨_,le_refl _,by rw[azm,hZ,if_pos ⟨h2,hn⟩]⟩
  have e2:(k==2)=false:=by simp[h2]
  rw[if_neg (by simp[h2])]at hZ;by_cases h3:k=3
  ·have e3:(k==3)=true:=by simp[h3]
   obtain rfl:ks=[]:=hs5 (by omega);refine go0 (ai @V_A (ai @azi (ai e2 e3))) ?_;refine gc0 (ai @V_A (ai @azi (ai e2 e3))) ?_;refine(cqb s _).mono ?_;rintro v h' ⟨rfl,rfl⟩;refine go0 (ai @V_A (ai @azi (ai e2 e3))) ?_
   exact⟨_,le_refl _,by
    rw[azm,hZ];split
    ·rfl
    ·next h=>rw[hk0];simp at h;rw[h]⟩
  have e3:(k==3)=false:=by simp[h3]
  obtain rfl:s=[]:=hs3 h3;rw[ht0,if_neg (by simp)]at hZ;by_cases h5:k=5
  ·have e5:(k==5)=true:=by simp[h5]
   refine go0 (ai @V_A (ai @azi (ai e2 (ai e3 e5)))) ?_;refine azh (fun m ts h=>h=⟨[.cells 32 (V.mk k n [] is ks).cells],[]⟩/\∃(i:Nat),m=ks.length-i/\i<=ks.length/\Val.keysZ (if i=0 then none else ks[i-1]?) (ks.drop i)=Val.keysZ none ks/\ts 1=.ptr 0 0/\ts 25=.sl 1 .no (strsA ks)/\ts 26=.int .i64 ks.length/\ts 27=.int .i64 i) ks.length ?_ ?_
   ·refine⟨rfl,0,rfl,ZV _,rfl,?_⟩;(exact aqg @aze)
   ·rintro m ts h ⟨rfl,i,rfl,hi,heq,t1,t25,t26,t27⟩;by_cases hlt:i<ks.length
    ·have hlt2:(i:Int)<(ks.length:Int):=by omega
     have hlt':(i:Int)<((strsA ks).length:Int):=by rw[aze];omega
     have ee:=az3 ks i hlt;have ei:IntKind.i64.wrap ((i:Int)+1)=(i:Int)+1:=wrap64 (by omega) (by omega);rw[ZM hlt,Val.keysZ]at heq;refine go0 (ai @azi (ai t1 (ai t25 (ai t26 (ai t27 (ai hlt' (ai hlt2 (ai ee ei)))))))) ?_;refine gc0 (ai @azi (ai t1 (ai t25 (ai t26 (ai t27 (ai hlt' (ai ee ei))))))) ?_;refine(cqb ks[i] _).mono ?_;rintro v h' ⟨rfl,rfl⟩;by_cases ht2:Val.textZ ks[i]=0
     ·rw[if_neg (by simp[ht2])]at heq;rw[ht2];cases i with
      |zero=>
       have h0:¬((0:Nat):Int)>0:=by omega
       simp only[Nat.reduceAdd,if_true,Val.badB,Zn,if_false]at heq;refine go0 (ai @azi (ai t1 (ai t25 (ai t26 (ai t27 (ai hlt' (ai hlt2 (ai ee (ai ei h0))))))))) ?_;refine⟨ks.length-1,by omega,rfl,1,rfl,by omega,?_,?_⟩
       ·rw[<-heq];simp[hlt]
       ·(exact aqg (ai t1 (ai t25 (ai t26 (ai t27 ei)))))
      |succ j=>
       have h0:((j+1:Nat):Int)>0:=by omega
       have ej:IntKind.i64.wrap (((j+1:Nat):Int)-1)=(j:Int):=by rw[wrap64 (by omega) (by omega)];omega
       have ee2:=az3 ks j (by omega);have hj':(j:Int)<((strsA ks).length:Int):=by omega
       have hkj:ks[j+1-1]?=some (ks[j]'(by omega)):=Zi (by omega);rw[show(if j+1=0 then none else ks[j+1-1]?)=some (ks[j]'(by omega))from by rw[if_neg (by omega)];exact hkj]at heq;simp only[Val.badB,Val.less_total]at heq;rcases azr (Op.bytesLess ks[j+1] (ks[j]'(by omega))||ks[j+1]==(ks[j]'(by omega)))with hb|hb
       ·simp only[hb,Yb,Z8,Zn,if_false,if_true]at heq;refine go0 (ai @azi (ai t1 (ai t25 (ai t26 (ai t27 (ai hlt' (ai hlt2 (ai ee (ai ee2 (ai ei (ai ej (ai h0 (ai hj' hb))))))))))))) ?_;exact⟨_,le_refl _,by rw[azm,hZ,<-heq]⟩
       ·simp only[hb,Yb,Z8,Zn,if_false,if_true]at heq;refine go0 (ai @azi (ai t1 (ai t25 (ai t26 (ai t27 (ai hlt' (ai hlt2 (ai ee (ai ee2 (ai ei (ai ej (ai h0 (ai hj' hb))))))))))))) ?_;refine⟨ks.length-(j+1+1),by omega,rfl,j+1+1,rfl,by omega,?_,?_⟩
        ·rw[<-heq];simp[hlt]
        ·(exact aqg (ai t1 (ai t25 (ai t26 (ai t27 ei)))))
     ·have ht3:(Val.textZ ks[i]!=0)=true:=by simp[ht2]
      rw[if_pos (by simp[ht2])]at heq;refine go0 (ai @azi (ai t1 (ai t25 (ai t26 (ai t27 (ai hlt' (ai hlt2 (ai ee (ai ei ht3))))))))) ?_;exact⟨_,le_refl _,by rw[azm,hZ,<-heq]⟩
    ·have hlt2:¬(i:Int)<(ks.length:Int):=by omega
     refine go0 (ai @azi (ai t1 (ai t25 (ai t26 (ai t27 hlt2))))) ?_;refine⟨_,le_refl _,?_⟩;rw[azm,hZ,<-heq,Yq (by omega)];cases(if i=0 then none else ks[i-1]?)<;>rfl
  have e5:(k==5)=false:=by simp[h5]
  obtain rfl:ks=[]:=hs5 h5;refine go0 (ai @V_A (ai @azi (ai e2 (ai e3 e5)))) ?_;exact⟨_,le_refl _,by rw[azm,hZ,hk0]⟩
 ·rw[hs];refine go0 (ai @V_A @azi) ?_;exact⟨_,le_refl _,by rw[azm,Val.nodeZ,if_pos hs]⟩
theorem byi(lv b:Nat):Val.chks [] lv b=(0,b):=by rw[Val.chks]
theorem bkr(v:V)(l:List V)(lv b:Nat):Val.chks (v::l) lv b=if(Val.chk v lv b).1≠0 then Val.chk v lv b else Val.chks l lv (Val.chk v lv b).2:=by rw[Val.chks]
def cntB(b:Nat):Blk:=.cells 3 [.int .i64 b]
def visB:Blk:=.cells 82 [.fn 40 [.ptr 1 0,.ptr 2 0]]
theorem aks{l m:List Blk}{i:Nat}{x:Blk}(h:l[i]?=some x):(l++m)[i]?=some x:=by
 rw[Zt (Zc.1 h).1];exact h
theorem cwt(l:List Blk)(x y:Blk):(l++[x]).set l.length y=l++[y]:=by
 rw[List.set_append_right _ _ (Ze _)];simp
theorem cws:∀(v:V) (lv b:Nat) (h:Hp),v.lens->h.b[1]?=some (cntB b)->h.b[2]?=some visB->AC 40 [v.A,.int .i64 lv,.ptr 1 0,.ptr 2 0] h fun r h'=>r=.int .i64 (Val.chk v lv b).1/\((Val.chk v lv b).1=0->h'.b[1]?=some (cntB (Val.chk v lv b).2)/\h'.b[2]?=some visB):=by
 refine V.induct fun k n s is ks ih=>?_
 intro lv b h hlen hb1 hb2;refine aza mixedT cj0 (by simp[bzo]) ?_;dsimp only[bzo];obtain⟨hil,hkl,_,hmem⟩:=V.lens_mk hlen;have hbl:2<h.b.length:=(Zc.1 hb2).1;have g1:∀m,(h.b++m)[1]?=some (.cells 3 [.int .i64 b]):=fun m=>aks hb1
 have g2:∀m,(h.b++m)[2]?=some visB:=fun m=>aks hb2
 have hC:¬(lv:Int)>32->¬(b:Int)>=4096->Val.chk (.mk k n s is ks) lv b=if Val.nodeZ (.mk k n s is ks)≠0 then(Val.nodeZ (.mk k n s is ks),b)else Val.chks is (lv+1) (b+1):=fun h1 h2=>by rw[Val.chk,if_neg (by omega),if_neg (by omega)]
 by_cases h1:(lv:Int)>32
 ·have hC1:Val.chk (.mk k n s is ks) lv b=(4,b):=by rw[Val.chk,if_pos (by omega)]
  refine go0 (ai @V_A (ai @azi h1)) ?_;exact⟨_,le_refl _,by rw[azm,hC1],fun e=>by rw[hC1]at e;simp at e⟩
 by_cases h2:(b:Int)>=4096
 ·have hC1:Val.chk (.mk k n s is ks) lv b=(14,b):=by rw[Val.chk,if_neg (by omega),if_pos (by omega)]
  refine go0 (ai @V_A (ai @azi (ai h1 (ai h2 (ai g1 g2))))) ?_;exact⟨_,le_refl _,by rw[azm,hC1],fun e=>by rw[hC1]at e;simp at e⟩
 have eb:IntKind.i64.wrap ((b:Int)+1)=((b+1:Nat):Int):=by rw[wrap64 (by omega) (by omega)];omega
 have hne1:¬(1=h.b.length):=by omega
 have hle1:1<=1:=by omega
 refine go0 (ai @V_A (ai @azi (ai h1 (ai h2 (ai g1 (ai g2 (ai eb (ai (@Zj AX.Blk) hne1)))))))) ?_;refine gc0 (ai @V_A (ai @azi (ai h1 h2))) ?_;refine(cyx k n s is ks hlen _).mono ?_;rintro v h' ⟨rfl,rfl⟩;have hC':=hC h1 h2;by_cases hn:Val.nodeZ (.mk k n s is ks)=0
 ·rw[hn];rw[if_neg (by simp[hn])]at hC';have elv:IntKind.i64.wrap ((lv:Int)+1)=((lv+1:Nat):Int):=by rw[wrap64 (by omega) (by omega)];omega
  refine go0 (ai @V_A (ai @azi (ai h1 (ai h2 (ai (@Zj AX.Blk) hne1))))) ?_;refine azh (fun m ts hh=>∃(i q:Nat),m=is.length-i/\i<=is.length/\Val.chks (is.drop i) (lv+1) q=Val.chks is (lv+1) (b+1)/\hh.b[1]?=some (cntB q)/\hh.b[2]?=some visB/\ts 1=.int .i64 lv/\ts 3=.ptr 2 0/\ts 23=.sl 5 .no (V.cellss is)/\ts 24=.int .i64 is.length/\ts 25=.int .i64 i) is.length ?_ ?_
  ·refine⟨0,b+1,rfl,ZV _,rfl,?_,?_,?_⟩
   ·show(List.set _ 1 _)[1]?=_
    rw[Zj,if_pos rfl,if_pos (by simp;omega)];rfl
   ·show(List.set _ 1 _)[2]?=_
    rw[Zj,if_neg (by omega)];exact g2 _
   ·(exact aqg @V.cellss_length)
  ·rintro m ts hh ⟨i,q,rfl,hi,heq,p1,p2,t1,t3,t23,t24,t25⟩;by_cases hlt:i<is.length
   ·have hlt2:(i:Int)<(is.length:Int):=by omega
    have hlt':(i:Int)<((V.cellss is).length:Int):=by rw[V.cellss_length];omega
    have ei:IntKind.i64.wrap ((i:Int)+1)=(i:Int)+1:=wrap64 (by omega) (by omega);have ee:=V.cellss_get is i hlt;have hcall:=fun(h:Hp)=>ih is[i] (ZB hlt) (lv+1) q h (hmem _ (ZB hlt))
    rw[ZM hlt,bkr]at heq;obtain⟨⟨k',n',s',is',ks'⟩,hv⟩:=Ex (is[i]);rw[hv]at ee hcall heq;have q2:∀m,(hh.b++m)[2]?=some (.cells 82 [.fn 40 [.ptr 1 0,.ptr 2 0]]):=fun m=>aks p2
    refine go0 (ai @azi (ai t1 (ai t3 (ai t23 (ai t24 (ai t25 (ai hlt' (ai hlt2 (ai ee (ai elv (ai ei (ai @cwt q2)))))))))))) ?_;refine gc0 (ai @azi (ai t1 (ai t3 (ai t23 (ai t24 (ai t25 elv)))))) ?_;refine(hcall _ (aks p1) (aks p2)).mono ?_;rintro v h' ⟨rfl,hcnt⟩;by_cases hz:(Val.chk (.mk k' n' s' is' ks') (lv+1) q).1=0
    ·rw[if_neg (by simp[hz])]at heq;rw[hz];obtain⟨r1,r2⟩:=hcnt hz;refine go0 (ai @azi (ai t1 (ai t3 (ai t23 (ai t24 (ai t25 ei)))))) ?_;refine⟨is.length-(i+1),by omega,i+1,_,rfl,by omega,heq,r1,r2,?_⟩;(exact aqg (ai t1 (ai t3 (ai t23 (ai t24 (ai t25 ei))))))
    ·have hz':((Val.chk (.mk k' n' s' is' ks') (lv+1) q).1 !=0)=true:=by simp[hz]
     rw[if_pos (by simp[hz])]at heq;refine go0 (ai @azi (ai t1 (ai t3 (ai t23 (ai t24 (ai t25 (ai ei hz'))))))) ?_;exact⟨_,le_refl _,by rw[azm,hC',<-heq],fun e=>by rw[hC',<-heq]at e;exact absurd e hz⟩
   ·have hlt2:¬(i:Int)<(is.length:Int):=by omega
    rw[Yq (by omega),byi]at heq;refine go0 (ai @azi (ai t1 (ai t3 (ai t23 (ai t24 (ai t25 hlt2)))))) ?_;exact⟨_,le_refl _,by rw[azm,hC',<-heq],fun _=>by rw[hC',<-heq];exact⟨p1,p2⟩⟩
 ·have hn':(Val.nodeZ (.mk k n s is ks)!=0)=true:=by simp[hn]
  rw[if_pos (by simp[hn])]at hC';refine go0 (ai @V_A (ai @azi (ai h1 (ai h2 hn')))) ?_;exact⟨_,le_refl _,by rw[azm,hC'],fun e=>by rw[hC']at e;exact absurd e hn⟩
theorem avw(v:V)(hlen:v.lens)(h:Hp):AT 21 [v.A] h (.int .i64 (Val.checkZ v)):=by
 have ht:∀h:Hp,h.b[1]?=some (cntB 0)->h.b[2]?=some visB->AC 40 [v.A,.int .i64 1,.ptr 1 0,.ptr 2 0] h fun r h'=>r=.int .i64 (Val.chk v 1 0).1/\((Val.chk v 1 0).1=0->h'.b[1]?=some (cntB (Val.chk v 1 0).2)/\h'.b[2]?=some visB):=fun h=>cws v 1 0 h hlen
 obtain⟨k,n,s,is,ks⟩:=v;refine pcall ?_ rfl (by simp[V.A,V.cells,A.pure,A.data]) h;refine aza mixedT cvs (by simp[bzc]) ?_;dsimp only[bzc];refine go0 (ai @V_A @azi) ?_;refine gc0 (ai @V_A @azi) ?_;refine(ht _ rfl rfl).mono ?_;rintro v h' ⟨rfl,_⟩;refine go0 (ai @V_A @azi) ?_;exact Fn rfl
theorem bva:∀{l l':List V},Val.eqBs l l'=true->l.length=l'.length
 |[],[],_=>rfl
 |[],_::_,h=>by simp[Val.eqBs]at h
 |_::_,[],h=>by simp[Val.eqBs]at h
 |v::l,v'::l',h=>by
  rw[Val.eqBs,Zg]at h;simp[bva h.2]
def ak0:AX.AFn:=⟨81,aS [aR 2 (.box 32 (.t 0)),aR 3 (.box 32 (.t 1)),aR 4 (.mv (.c (.bool false)))] (.seq (aS [aF 7 0 2,aL 8 7,aF 9 0 3,aL 10 9,aR 11 (.bin .neq (.t 8) (.t 10)),aM 12 11,aG 13 (.faddr 1 (.t 2)) 12 false,aG 14 (.load false 1 (.t 13)) 12 false,aG 15 (.faddr 1 (.t 3)) 12 false,aG 16 (.load false 1 (.t 15)) 12 false,aG 17 (.bin .neq (.t 14) (.t 16)) 12 false,aR 18 (.pick (.t 12) (.c (.bool true)) (.t 17)),aM 19 18,aG 20 (.faddr 2 (.t 2)) 19 false,aG 21 (.load false 1 (.t 20)) 19 false,aG 22 (.faddr 2 (.t 3)) 19 false,aG 23 (.load false 1 (.t 22)) 19 false,aG 24 (.bin .neq (.t 21) (.t 23)) 19 false,aR 25 (.pick (.t 19) (.c (.bool true)) (.t 24)),aM 26 25,aG 27 (.faddr 3 (.t 2)) 26 false,aG 28 (.load false 1 (.t 27)) 26 false,aG 29 (.len false (.t 28)) 26 false,aG 30 (.faddr 3 (.t 3)) 26 false,aG 31 (.load false 1 (.t 30)) 26 false,aG 32 (.len false (.t 31)) 26 false,aG 33 (.bin .neq (.t 29) (.t 32)) 26 false,aR 34 (.pick (.t 26) (.c (.bool true)) (.t 33)),aM 35 34,aG 36 (.faddr 4 (.t 2)) 35 false,aG 37 (.load false 1 (.t 36)) 35 false,aG 38 (.len false (.t 37)) 35 false,aG 39 (.faddr 4 (.t 3)) 35 false,aG 40 (.load false 1 (.t 39)) 35 false,aG 41 (.len false (.t 40)) 35 false,aG 42 (.bin .neq (.t 38) (.t 41)) 35 false,aR 43 (.pick (.t 35) (.c (.bool true)) (.t 42))] (.cond (.t 43) (aS [aR 4 (.mv (.c (.bool false)))] (.ret)) (.skip))) (.seq (aS [aR 5 (.mv (aI 0))] (.block 0 (.loop (.seq (aS [aM 44 5,aF 45 4 2,aL 46 45,aR 47 (.len false (.t 46)),aR 48 (.bin .lss (.t 44) (.t 47))] (.cond (.t 48) (.skip) (.exit 0))) (.seq (.block 1 (.seq (.reg true [aF 51 4 2,⟨some 52,.load false 1 (.t 51),none,[0]⟩,aM 53 5,⟨some 54,.iaddr 1 (.t 52) (.t 53),none,[1,2]⟩,⟨some 55,.load false 1 (.t 54),none,[3]⟩,aF 56 4 3,⟨some 57,.load false 1 (.t 56),none,[5]⟩,aM 58 5,⟨some 59,.iaddr 1 (.t 57) (.t 58),none,[6,7]⟩,⟨some 60,.load false 1 (.t 59),none,[8]⟩,⟨some 61,.bin .neq (.t 55) (.t 60),none,[4,9]⟩]) (.cond (.t 61) (aS [aR 4 (.mv (.c (.bool false)))] (.ret)) (.skip)))) (.reg false [aM 49 5,aR 50 (.bin .add (.t 49) (aI 1)),aM 5 50])))))) (.seq (aS [aR 6 (.mv (aI 0))] (.block 2 (.loop (.seq (aS [aM 62 6,aF 63 3 2,aL 64 63,aR 65 (.len false (.t 64)),aR 66 (.bin .lss (.t 62) (.t 65))] (.cond (.t 66) (.skip) (.exit 2))) (.seq (.block 3 (.seq (.reg true [aF 69 3 2,⟨some 70,.load false 1 (.t 69),none,[0]⟩,aM 71 6,⟨some 72,.iaddr 5 (.t 70) (.t 71),none,[1,2]⟩,⟨some 73,.load true 5 (.t 72),none,[3]⟩,aF 74 3 3,⟨some 75,.load false 1 (.t 74),none,[5]⟩,aM 76 6,⟨some 77,.iaddr 5 (.t 75) (.t 76),none,[6,7]⟩,⟨some 78,.load true 5 (.t 77),none,[8]⟩,⟨some 79,.call 11 [.t 73,.t 78],none,[4,9]⟩,⟨some 80,.un .not (.t 79),none,[10]⟩]) (.cond (.t 80) (aS [aR 4 (.mv (.c (.bool false)))] (.ret)) (.skip)))) (.reg false [aM 67 6,aR 68 (.bin .add (.t 67) (aI 1)),aM 6 68])))))) (aS [aR 4 (.mv (.c (.bool true)))] (.ret))))),[.t 4]⟩
theorem cze:AX.compFn Tryz.prog 11=some ak0:=by kernel_rfl
theorem cxn:∀(v v':V),v.lens->v'.lens->∀h,AT 11 [v.A,v'.A] h (.bool (Val.eqB v v')):=by
 refine V.induct fun k n s is ks ih=>?_
 rintro⟨k',n',s',is',ks'⟩ hlen hlen' h;refine pcall ?_ rfl (by simp[V.A,V.cells,A.pure,A.data]) h;refine aza mixedT cze (by simp[ak0]) ?_;dsimp only[ak0];obtain⟨hil,hkl,_,hmem⟩:=V.lens_mk hlen;obtain⟨hil',hkl',_,hmem'⟩:=V.lens_mk hlen';have hE:Val.eqB (.mk k n s is ks) (.mk k' n' s' is' ks')=(k==k'&&n==n'&&s==s'&&ks==ks'&&Val.eqBs is is'):=by rw[Val.eqB]
 have hno:∀b,b=false->Val.eqB (.mk k n s is ks) (.mk k' n' s' is' ks')=b->True:=fun _ _ _=>trivial
 by_cases h1:k=k'
 rotate_left
 ·have e1:(k !=k')=true:=by simp[h1]
  refine go0 (ai @V_A (ai @azi e1)) ?_;exact⟨_,le_refl _,by rw[azm,hE,Zs.2 h1];rfl⟩
 have e1:(k !=k')=false:=by simp[h1]
 by_cases h2:n=n'
 rotate_left
 ·have e2:(n !=n')=true:=by simp[h2]
  refine go0 (ai @V_A (ai @azi (ai e1 e2))) ?_;exact⟨_,le_refl _,by rw[azm,hE,Zs.2 h2];simp⟩
 have e2:(n !=n')=false:=by simp[h2]
 by_cases h3:s=s'
 rotate_left
 ·have e3:(s !=s')=true:=by simp[h3]
  refine go0 (ai @V_A (ai @azi (ai e1 (ai e2 e3)))) ?_;exact⟨_,le_refl _,by rw[azm,hE,Zs.2 h3];simp⟩
 have e3:(s !=s')=false:=by simp[h3]
 by_cases h4:is.length=is'.length
 rotate_left
 ·have e4:((is.length:Int)!=(is'.length:Int))=true:=by simp;omega
  have hb:Val.eqBs is is'=false:=by rw[YP];exact fun e=>h4 (bva e)
  refine go0 (ai @V_A (ai @azi (ai e1 (ai e2 (ai e3 (ai @V.cellss_length e4)))))) ?_;exact⟨_,le_refl _,by rw[azm,hE,hb];simp⟩
 have e4:((is.length:Int)!=(is'.length:Int))=false:=by simp[h4]
 by_cases h5:ks.length=ks'.length
 rotate_left
 ·have e5:((ks.length:Int)!=(ks'.length:Int))=true:=by simp;omega
  have hb:(ks==ks')=false:=by rw[Zs];rintro rfl;exact h5 rfl
  refine go0 (ai @V_A (ai @azi (ai e1 (ai e2 (ai e3 (ai @V.cellss_length (ai e4 (ai @aze e5)))))))) ?_;exact⟨_,le_refl _,by rw[azm,hE,hb];simp⟩
 have e5:((ks.length:Int)!=(ks'.length:Int))=false:=by simp[h5]
 have hE2:Val.eqB (.mk k n s is ks) (.mk k' n' s' is' ks')=(ks==ks'&&Val.eqBs is is'):=by rw[hE];simp[h1,h2,h3]
 refine go0 (ai @V_A (ai @azi (ai e1 (ai e2 (ai e3 (ai @V.cellss_length (ai e4 (ai @aze e5)))))))) ?_;refine azh (fun m ts hh=>hh=⟨[.cells 32 [.int .i64 k,.int .i64 n,.str s,.sl 5 .no (V.cellss is),.sl 1 .no (strsA ks)],.cells 32 [.int .i64 k',.int .i64 n',.str s',.sl 5 .no (V.cellss is'),.sl 1 .no (strsA ks')]],[]⟩/\∃(i:Nat),m=ks.length-i/\i<=ks.length/\(ks.drop i==ks'.drop i)=(ks==ks')/\ts 2=.ptr 0 0/\ts 3=.ptr 1 0/\ts 5=.int .i64 i) ks.length ?_ ?_
 ·refine⟨rfl,0,rfl,ZV _,rfl,?_⟩;(exact aqg @aze)
 ·rintro m ts hh ⟨rfl,i,rfl,hi,heq,t2,t3,t5⟩;by_cases hlt:i<ks.length
  ·have hla:(i:Int)<((strsA ks).length:Int):=by rw[aze];omega
   have hlb:(i:Int)<((strsA ks').length:Int):=by rw[aze];omega
   have ei:IntKind.i64.wrap ((i:Int)+1)=(i:Int)+1:=wrap64 (by omega) (by omega);have ea:=az3 ks i hlt;have eb:=az3 ks' i (by omega);rw[ZM hlt,ZM (by omega:i<ks'.length)]at heq;refine go0 (ai t2 (ai t3 (ai t5 hla))) ?_;refine bqs (by decide) ?_;by_cases hc:ks[i]=ks'[i]
   ·have hc':(ks[i]!=ks'[i])=false:=by simp[hc]
    refine go0 (ai t2 (ai t3 (ai t5 (ai hla (ai hlb (ai ea (ai eb (ai hc' ei)))))))) ?_;refine⟨ks.length-(i+1),by omega,rfl,i+1,rfl,by omega,?_,?_⟩
    ·rw[<-heq,List.cons_beq_cons,hc,Y3,Z0]
    ·(exact aqg (ai t2 (ai t3 (ai t5 ei))))
   ·have hc':(ks[i]!=ks'[i])=true:=by simp[hc]
    refine go0 (ai t2 (ai t3 (ai t5 (ai hla (ai hlb (ai ea (ai eb (ai hc' ei)))))))) ?_;exact⟨_,le_refl _,by rw[azm,hE2,<-heq,List.cons_beq_cons,Zs.2 hc];simp⟩
  ·have hla:¬(i:Int)<((strsA ks).length:Int):=by rw[aze];omega
   rw[Yq (by omega),Yq (by omega)]at heq;have hE3:Val.eqB (.mk k n s is ks) (.mk k' n' s' is' ks')=Val.eqBs is is':=by rw[hE2,<-heq];simp
   refine go0 (ai t2 (ai t3 (ai t5 hla))) ?_;refine azh (fun m ts hh=>hh=⟨[.cells 32 [.int .i64 k,.int .i64 n,.str s,.sl 5 .no (V.cellss is),.sl 1 .no (strsA ks)],.cells 32 [.int .i64 k',.int .i64 n',.str s',.sl 5 .no (V.cellss is'),.sl 1 .no (strsA ks')]],[]⟩/\∃(i:Nat),m=is.length-i/\i<=is.length/\Val.eqBs (is.drop i) (is'.drop i)=Val.eqBs is is'/\ts 2=.ptr 0 0/\ts 3=.ptr 1 0/\ts 6=.int .i64 i) is.length ?_ ?_
   ·refine⟨rfl,0,rfl,ZV _,rfl,?_⟩;(exact aqg (ai @aze (ai t2 t3)))
   ·clear heq;rintro m ts hh ⟨rfl,i,rfl,hi,heq,t2,t3,t6⟩;by_cases hlt:i<is.length
    ·have hla:(i:Int)<((V.cellss is).length:Int):=by rw[V.cellss_length];omega
     have hlb:(i:Int)<((V.cellss is').length:Int):=by rw[V.cellss_length];omega
     have ei:IntKind.i64.wrap ((i:Int)+1)=(i:Int)+1:=wrap64 (by omega) (by omega);have ea:=V.cellss_get is i hlt;have eb:=V.cellss_get is' i (by omega);have hcall:=fun(h:Hp)=>ih is[i] (ZB hlt) (is'[i]'(by omega)) (hmem _ (ZB hlt)) (hmem' _ (ZB (by omega))) h
     rw[ZM hlt,ZM (by omega:i<is'.length),Val.eqBs]at heq;obtain⟨⟨k1,n1,s1,is1,ks1⟩,hv⟩:=Ex (is[i]);obtain⟨⟨k2,n2,s2,is2,ks2⟩,hv2⟩:=Ex (is'[i]'(by omega));rw[hv]at ea hcall heq;rw[hv2]at eb hcall heq;simp only[V.A,V.cells]at hcall;refine go0 (ai @azi (ai t2 (ai t3 (ai t6 hla)))) ?_;refine bqs (by decide) ?_;refine go0 (ai @azi (ai t2 (ai t3 (ai t6 (ai hla (ai hlb (ai ea eb))))))) ?_;refine cz0 (by simp only[aqy,az8,az9,awr,awl,aqa,ax6,ax5,ax3,azm,axc,astep,bop,uop,loadA,storeA,appA,ssliceA,eqA,eqCells,fillA,rowsA,setCells,A.cells,A.one,A.data,azy,ZH,YI,ZW,Z0,ZU,Yx,YJ,Y1,Z3,Yz,ZQ,Yk,Yg,ZT,ZO,ZX,Zf,Zo,ZA,ZK,Zx,YT,YU,YW,ZS,Ya,Ym,Y4,Za,Zv,Nat.reduceAdd,Nat.reduceSub,Nat.reduceMul,Nat.reduceLeDiff,Nat.reduceEqDiff,Nat.reduceBEq,Yo,YG,if_true,if_false,reduceIte,ite_true,ite_false,true_and,and_true,ne_eq,YA,YO,Zn,reduceCtorEq,and_self,Yc,Yj,Ze,Yb,Z8,decide_true,decide_false,t2,t3,t6]<;>with_reducible rfl) (hcall _) ?_;rcases azr (Val.eqB (.mk k1 n1 s1 is1 ks1) (.mk k2 n2 s2 is2 ks2))with hz|hz
     ·rw[hz]at heq⊢;refine go0 (ai t2 (ai t3 (ai t6 ei))) ?_;refine⟨is.length-(i+1),by omega,rfl,i+1,rfl,by omega,by simpa using heq,?_⟩;(exact aqg (ai t2 (ai t3 (ai t6 ei))))
     ·rw[hz]at heq⊢;refine go0 (ai t2 (ai t3 (ai t6 ei))) ?_;exact⟨_,le_refl _,by rw[azm,hE3,<-heq];rfl⟩
    ·have hla:¬(i:Int)<((V.cellss is).length:Int):=by rw[V.cellss_length];omega
     rw[Yq (by omega),Yq (by omega)]at heq;refine go0 (ai t2 (ai t3 (ai t6 hla))) ?_;exact⟨_,le_refl _,by rw[azm,hE3,<-heq];rfl⟩
end AX
end
end Go.Proofs.YtnffmgmidghfhaaGreatDoor
