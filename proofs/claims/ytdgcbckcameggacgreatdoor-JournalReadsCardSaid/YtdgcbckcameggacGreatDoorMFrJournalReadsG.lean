/- Part of what the proof needs. -/
import Derived.Test.YtdgcbckcameggacGreatDoorMFrJournalReads0
import Derived.Test.YtdgcbckcameggacGreatDoorMFrJournalReadsA
import Derived.Test.YtdgcbckcameggacGreatDoorMFrJournalReadsB
import Derived.Test.YtdgcbckcameggacGreatDoorMFrJournalReadsC
import Derived.Test.YtdgcbckcameggacGreatDoorMFrJournalReadsE
import Derived.Test.YtdgcbckcameggacGreatDoorMFrJournalReadsF
import Derived.Test.YtdgcbckcameggacGreatDoorProg
import Derived.KernelRfl
import Derived.Test.YtdgcbckcameggacGreatDoorCards
import Derived.Test.YtdgcbckcameggacGreatDoorTie
import Derived.ProofKit
import Derived.OpenShut
import Derived.ShutString
import Derived.ChangeOld
import Derived.Below
import Derived.Deep.DeepHandedRow
import Derived.Lib.LaidU8
import Derived.MakeChecks
import Derived.Shelf.Unicode.DecodeSlow
set_option maxHeartbeats 4000000
set_option maxRecDepth 100000
set_option linter.all false
namespace Go.Proofs.YtdgcbckcameggacGreatDoor
section
open Go.RowKit
def strsA(l:List (List UInt8)):List (List AX.A):=l.map fun s=>[.str s]
mutual
def V.cells:V→List AX.A
 |.mk k n s is ks=>[.int .i64 k,.int .i64 n,.str s,.sl 5 .no (V.cellss is),.sl 1 .no (strsA ks)]
def V.cellss:List V→List (List AX.A)
 |[]=>[]
 |v::l=>v.cells::V.cellss l
end
def V.A(v:V):AX.A:=.agg v.cells
theorem V.cellss_map:∀l:List V,V.cellss l=l.map V.cells
 |[]=>rfl
 |v::l=>by rw[V.cellss,V.cellss_map l];rfl
theorem V.cellss_length(l:List V):(V.cellss l).length=l.length:=by rw[V.cellss_map];simp
theorem aze(l:List (List UInt8)):(strsA l).length=l.length:=by simp[strsA]
theorem azv(l:List (List UInt8))(i:Nat)(h:i<l.length):(strsA l).getD i []=[.str l[i]]:=by simp[strsA,List.getD,h]
theorem V.cellss_get(l:List V)(i:Nat)(h:i<l.length):(V.cellss l).getD i []=l[i].cells:=by rw[V.cellss_map];simp[List.getD,h]
theorem V.pure(v:V):v.A.pure=true:=by cases v;unfold V.A V.cells;rfl
mutual
def V.lens:V→Prop
 |.mk k n s is ks=>is.length≤maxLen∧ks.length≤maxLen∧s.length≤maxLen∧(∀q∈ks,q.length≤maxLen)∧V.lensS is
def V.lensS:List V→Prop
 |[]=>True
 |v::l=>v.lens∧V.lensS l
end
theorem V.lensS_mem:∀{l:List V},V.lensS l→∀x∈l,x.lens
 |[],_=>by simp
 |v::l,h=>by
  unfold V.lensS at h;exact Zar.2 ⟨h.1,V.lensS_mem h.2⟩
theorem V.lens_mk{k n:Int}{s:List UInt8}{is:List V}{ks:List (List UInt8)}(h:(V.mk k n s is ks).lens):is.length≤9223372036854775807∧ks.length≤9223372036854775807∧s.length≤9223372036854775807∧(∀x∈is,x.lens):=by
 unfold V.lens at h;simp only[maxLen]at h;exact⟨by omega,by omega,by omega,V.lensS_mem h.2.2.2.2⟩
def IfaceAt(g:Nat)(w:World):Prop:=∃ev,w.cell? ⟨g,0,none⟩=some ev∧(ev=.nilIface∨∃te pe,ev=.iface te pe)
structure GT(w:World):Prop where
 tabs:Lib.Utf8Tabs 0 1 w
 esyn:IfaceAt 3 w
 erng:IfaceAt 4 w
 tz:w.cell? ⟨7,15,none⟩=some (.int .u8 4)
namespace AX
abbrev AT(f:FuncId)(l:List A)(h:Hp)(x:A):Prop:=ACall Tryz.prog GT f l h fun v h'=>v=x∧h'=h
abbrev AC:=ACall Tryz.prog GT
theorem Fn{v:A}{Q:A→Prop}(h:Q v):∃a,le v a∧Q a:=⟨_,le_refl _,h⟩
theorem mixedT:Tryz.prog.follows Departure.mixedOrders=true:=by kernel_rfl
theorem fo{G:World→Prop}{f:FuncId}{args:List A}{h:Hp}{Q:A→Hp→Prop}{n:Nat}{code:ACode}{res:List ARes}(k:awp Tryz.prog G code (finQ res Q) (initTs args) h)(hc:compFn Tryz.prog f=some ⟨n,code,res⟩:=by set_option maxRecDepth 1000000 in (conv=>lhs;cbv))(hl:args.length≤n:=by simp):ACall Tryz.prog G f args h Q:=bzc mixedT hc hl k
theorem aqu{x:A}{v:Value}(h:∀C c,Rep C x c→c=v):∀C cs,RepL C [x] cs→cs=[v]:=fun C cs hr=>by
 obtain⟨c,cs',rfl,h1,h2⟩:=repL_cons.1 hr;rw[repL_nil]at h2;subst h2;rw[h C c h1]
theorem bwb{x y:A}{v u:Value}(h:∀C c,Rep C x c→c=v)(h':∀C c,Rep C y c→c=u):∀C cs,RepL C [x,y] cs→cs=[v,u]:=fun C cs hr=>by
 obtain⟨c,cs',rfl,h1,h2⟩:=repL_cons.1 hr;rw[aqu h' C cs' h2,h C c h1]
theorem aqt{l:List UInt8}:∀C c,Rep C (.str l) c→c=.string ⟨l.toArray⟩:=fun C c h=>rep_str.1 h
theorem bx9{k:IntKind}{n:Int}:∀C c,Rep C (.int k n) c→c=.int k n:=fun C c h=>rep_int.1 h
theorem bx8(s:List UInt8)(hl:s.length≤2000000)(h:Hp):ACall Tryz.prog GT 99 [.str s] h fun v h'=>v=.bool (Str.valid s)∧h'=h:=
 azo (aqu aqt) (fun w hg=>bq6 ⟨s.toArray⟩ w (by rw[size_mk];exact hl) hg.tabs) (fun C=>aqn.2 rfl) h
theorem ayg(s:List UInt8)(hl:s.length≤2000000)(h:Hp):ACall Tryz.prog GT 203 [.str s] h fun v h'=>v=.bool (Str.valid s)∧h'=h:=
 azo (aqu aqt) (fun w hg=>avu ⟨s.toArray⟩ w (by rw[size_mk];exact hl)) (fun C=>aqn.2 rfl) h
theorem bjb(s:List UInt8)(h:Hp):ACall Tryz.prog GT 168 [.str s] h fun v h'=>v=.int .i64 (Val.textZ s)∧h'=h:=
 azo (aqu aqt) (fun w hg=>cvr s w hg.tabs) (fun C=>rep_int.2 rfl) h
theorem cz9(s:List UInt8)(h:Hp):ACall Tryz.prog GT 233 [.str s] h fun v h'=>v=.int .i64 (Val.textZ s)∧h'=h:=
 azo (aqu aqt) (fun w hg=>bj2 s w) (fun C=>rep_int.2 rfl) h
theorem cvt(n:Int)(h:Hp):ACall Tryz.prog GT 167 [.int .i64 n] h fun v h'=>v=.bool (decide (-9007199254740992≤n∧n≤9007199254740992))∧h'=h:=
 azo (aqu bx9) (fun w hg=>(axx n w).mono fun e w' ⟨h1,h2⟩=>⟨h1,by rw[h2];exact Below.refl _ _⟩) (fun C=>aqn.2 rfl) h
theorem bx2(n:Int)(h:Hp):ACall Tryz.prog GT 232 [.int .i64 n] h fun v h'=>v=.bool (decide (-9007199254740992≤n∧n≤9007199254740992))∧h'=h:=
 azo (aqu bx9) (fun w hg=>(ak8 n w).mono fun e w' ⟨h1,h2⟩=>⟨h1,by rw[h2];exact Below.refl _ _⟩) (fun C=>aqn.2 rfl) h
theorem aqo(dst:List UInt8)(n:Int)(hd:dst.length≤1000000000)(h0:-9223372036854775808≤n)(h1:n≤9223372036854775807)(h:Hp):ACall Tryz.prog GT 52 [.str dst,.int .i64 n] h fun v h'=>v=.str (dst++Wire.num n)∧h'=h:=
 azo (bwb aqt bx9) (fun w hg=>akd dst n w hd h0 h1) (fun C=>rep_str.2 rfl) h
theorem azg(dst:List UInt8)(n:Int)(hd:dst.length≤1000000000)(h0:-9223372036854775808≤n)(h1:n≤9223372036854775807)(h:Hp):ACall Tryz.prog GT 128 [.str dst,.int .i64 n] h fun v h'=>v=.str (dst++Wire.num n)∧h'=h:=
 azo (bwb aqt bx9) (fun w hg=>ajq dst n w hd h0 h1) (fun C=>rep_str.2 rfl) h
theorem cxe(k n:Int)(s:List UInt8)(o o':Own)(W W':Nat)(rs rs':List (List A))(h:Hp):ACall Tryz.prog GT 166 [.agg [.int .i64 k,.int .i64 n,.str s,.sl W o rs,.sl W' o' rs']] h fun v h'=>v=.bool (Val.shapedB k n s rs.length rs'.length)∧h'=h:=by
 intro C cs hI ha;obtain⟨c,cs',rfl,h1,h2⟩:=repL_cons.1 ha;rw[repL_nil]at h2;subst h2;obtain⟨ds,rfl,h3⟩:=rep_agg.1 h1;obtain⟨c0,d0,rfl,e0,h3⟩:=repL_cons.1 h3;obtain⟨c1,d1,rfl,e1,h3⟩:=repL_cons.1 h3;obtain⟨c2,d2,rfl,e2,h3⟩:=repL_cons.1 h3;obtain⟨c3,d3,rfl,e3,h3⟩:=repL_cons.1 h3;obtain⟨c4,d4,rfl,e4,h3⟩:=repL_cons.1 h3;rw[repL_nil]at h3;subst h3;rw[rep_int]at e0 e1;rw[rep_str]at e2;subst e0;subst e1;subst e2;obtain⟨a,ca,rfl,_⟩:=rep_sl.1 e3;obtain⟨b,cb,rfl,_⟩:=rep_sl.1 e4;refine(bwk k n s a b rs.length ca rs'.length cb C.w).mono ?_;rintro e w' ⟨rfl,hb⟩;obtain⟨i1,s1⟩:=aq0 hI hb;exact⟨C.at w',h,_,_,rfl,rfl,i1,s1,aqn.2 rfl,rfl,rfl⟩
theorem bj9(k n:Int)(s:List UInt8)(o o':Own)(W W':Nat)(rs rs':List (List A))(h:Hp):ACall Tryz.prog GT 231 [.agg [.int .i64 k,.int .i64 n,.str s,.sl W o rs,.sl W' o' rs']] h fun v h'=>v=.bool (Val.shapedB k n s rs.length rs'.length)∧h'=h:=by
 intro C cs hI ha;obtain⟨c,cs',rfl,h1,h2⟩:=repL_cons.1 ha;rw[repL_nil]at h2;subst h2;obtain⟨ds,rfl,h3⟩:=rep_agg.1 h1;obtain⟨c0,d0,rfl,e0,h3⟩:=repL_cons.1 h3;obtain⟨c1,d1,rfl,e1,h3⟩:=repL_cons.1 h3;obtain⟨c2,d2,rfl,e2,h3⟩:=repL_cons.1 h3;obtain⟨c3,d3,rfl,e3,h3⟩:=repL_cons.1 h3;obtain⟨c4,d4,rfl,e4,h3⟩:=repL_cons.1 h3;rw[repL_nil]at h3;subst h3;rw[rep_int]at e0 e1;rw[rep_str]at e2;subst e0;subst e1;subst e2;obtain⟨a,ca,rfl,_⟩:=rep_sl.1 e3;obtain⟨b,cb,rfl,_⟩:=rep_sl.1 e4;refine(bzr k n s a b rs.length ca rs'.length cb C.w).mono ?_;rintro e w' ⟨rfl,hb⟩;obtain⟨i1,s1⟩:=aq0 hI hb;exact⟨C.at w',h,_,_,rfl,rfl,i1,s1,aqn.2 rfl,rfl,rfl⟩
def rdr(r:Wire.St):Blk:=.cells 134 [.str r.rest,.int .i64 r.e,.bool true]
theorem dz8{r:Wire.St}:∀C es,RepL C [.str r.rest,.int .i64 r.e,.bool true] es→es=[.string ⟨r.rest.toArray⟩,.int .i64 r.e,.bool true]:=fun C es h=>by
 obtain⟨c0,d0,rfl,e0,h⟩:=repL_cons.1 h;obtain⟨c1,d1,rfl,e1,h⟩:=repL_cons.1 h;obtain⟨c2,d2,rfl,e2,h⟩:=repL_cons.1 h;rw[repL_nil]at h;subst h;rw[rep_str.1 e0,rep_int.1 e1,aqn.1 e2]
theorem cyx{r:Wire.St}(C:Ctx):RepL C [.str r.rest,.int .i64 r.e,.bool true] [.string ⟨r.rest.toArray⟩,.int .i64 r.e,.bool true]:=
 repL_cons.2 ⟨_,_,rfl,rep_str.2 rfl,repL_cons.2 ⟨_,_,rfl,rep_int.2 rfl,repL_cons.2 ⟨_,_,rfl,aqn.2 rfl,repL_nil.2 rfl⟩⟩⟩
theorem byq{f:FuncId}{extra:List A}{ecs:List Value}{v:A}{cv:Value}{r r':Wire.St}(hargs:∀C es,RepL C extra es→es=ecs)(hv:∀C,Rep C v cv)
  (hc:∀g w,Rdr w g r→Calls Tryz.prog f (.pointer (some ⟨g,0,none⟩)::ecs).toArray w fun e w'=>e=.returned cv∧Rdr w' g r'∧w.grownBy w' (some g)) {h:Hp} {i:Nat} (hb:h.b[i]?=some (rdr r)):
  ACall Tryz.prog GT f (.ptr i 0::extra) h fun v' h'=>v'=v∧h'=⟨h.b.set i (rdr r'),h.t⟩:=
 cqu hargs dz8 cyx hv (fun w g hw=>hc g w hw) hb
theorem cvf:∀C es,RepL C [] es→es=[]:=fun C es h=>repL_nil.1 h
theorem aqc{h:Hp}{i:Nat}{r:Wire.St}(hb:h.b[i]?=some (rdr r))(hl:r.rest.length≤100000000):ACall Tryz.prog GT 75 [.ptr i 0] h fun v h'=>v=.int .i64 (Wire.numR r).2∧h'=⟨h.b.set i (rdr (Wire.numR r).1),h.t⟩:=
 byq cvf (fun C=>rep_int.2 rfl) (fun g w hw=>bwu g r w hw hl) hb
theorem aqh{h:Hp}{i:Nat}{r:Wire.St}(hb:h.b[i]?=some (rdr r))(hl:r.rest.length≤100000000):ACall Tryz.prog GT 33 [.ptr i 0] h fun v h'=>v=.str (Wire.strR r).2∧h'=⟨h.b.set i (rdr (Wire.strR r).1),h.t⟩:=
 byq cvf (fun C=>rep_str.2 rfl) (fun g w hw=>bk2 g r w hw hl) hb
theorem akz{h:Hp}{i:Nat}{r:Wire.St}(hb:h.b[i]?=some (rdr r))(hl:r.rest.length≤100000000):ACall Tryz.prog GT 116 [.ptr i 0,.int .i64 1] h fun v h'=>v=.int .i64 ((Wire.cntR r 1).2:Nat)∧h'=⟨h.b.set i (rdr (Wire.cntR r 1).1),h.t⟩:=
 byq (aqu bx9) (fun C=>rep_int.2 rfl) (fun g w hw=>count_any g r w hw hl) hb
theorem set_self{h:Hp}{i:Nat}{b:Blk}(hb:h.b[i]?=some b):(⟨h.b.set i b,h.t⟩:Hp)=h:=by
 have hi:i<h.b.length:=(Zd.1 hb).1;have:h.b.set i b=h.b:=by
  apply List.ext_getElem?;intro j;rw[Zs];by_cases e:i=j
  ·subst e;rw[if_pos rfl,if_pos hi,hb]
  ·rw[if_neg e]
 rw[this]
theorem akt{h:Hp}{i:Nat}{r:Wire.St}(hb:h.b[i]?=some (rdr r)):ACall Tryz.prog GT 34 [.ptr i 0] h fun v h'=>v=.int .i64 r.rest.length∧h'=h:=by
 have:=byq (v:=.int .i64 r.rest.length) (r':=r) cvf (fun C=>rep_int.2 rfl) (fun g w hw=>(cju g r w hw).mono fun e w' ⟨h1,h2⟩=>⟨h1,by rw[h2];exact hw,by rw[h2];exact avo w _⟩) hb;rw[set_self hb]at this;exact this
theorem bxe{h:Hp}{i:Nat}{r:Wire.St}(hb:h.b[i]?=some (rdr r)):ACall Tryz.prog GT 35 [.ptr i 0] h fun v h'=>v=.int .i64 r.e∧h'=h:=by
 have:=byq (v:=.int .i64 r.e) (r':=r) cvf (fun C=>rep_int.2 rfl) (fun g w hw=>(cyg g r w hw).mono fun e w' ⟨h1,h2⟩=>⟨h1,by rw[h2];exact hw,by rw[h2];exact avo w _⟩) hb;rw[set_self hb]at this;exact this
def wtr(ver:Int)(l:List UInt8):Blk:=.opq (fun F g w=>WF F g ver l w) (fun o=>if o=2 then some (.int .i64 ver)else none)
def dead:Blk:=.opq (fun _ _ _=>True) (fun _=>none)
def Wt(h:Hp)(i:Nat)(ver:Int)(l:List UInt8):Prop:=h.b[i]?=some (wtr ver l)∨(l=[]∧h.b[i]?=some (.cells 160 [.nilp,.sl 0 .nil [],.int .i64 ver]))
theorem WF.stable{F:Nat→Prop}{b:Nat}{ver:Int}{l:List UInt8}{w w':World}(h:WF F b ver l w)(hs:∀g,F g→w'.heap[g]?=w.heap[g]?):WF F b ver l w':=by
 obtain⟨p,v,hp,hb,hown,hne,hF,hFk⟩:=h;refine⟨p,v,hp,(hs b hF).trans hb,⟨hown.1,?_⟩,hne,hF,hFk⟩;rcases hown.2 with h1|⟨g,cap,cur,fz,rfl,h2,h3,h4⟩
 ·exact .inl h1
 ·exact .inr ⟨g,cap,cur,fz,rfl,h2,(hs g (hFk g rfl)).trans h3,h4⟩
theorem Wt.lt{h:Hp}{i:Nat}{ver:Int}{l:List UInt8}(hw:Wt h i ver l):i<h.b.length:=by
 rcases hw with h1|⟨_,h1⟩
 ·exact(Zd.1 h1).1
 ·exact(Zd.1 h1).1
theorem Wt.wf{h:Hp}{i:Nat}{ver:Int}{l:List UInt8}{C:Ctx}{G:World→Prop}(hw:Wt h i ver l)(hI:Inv G C h):WF (fun g=>C.own g=some i) (C.κ i) ver l C.w:=by
 have hi:i<C.nb:=by rw[←hI.nb];exact hw.lt
 rcases hw with h1|⟨rfl,h1⟩
 ·exact(hI.box i _ h1).1 C.w (fun _ _=>rfl) (Zf _)
 ·obtain⟨cs,k1,k2⟩:=hI.box i _ h1;obtain⟨c0,d0,rfl,e0,k2⟩:=repL_cons.1 k2;obtain⟨c1,d1,rfl,e1,k2⟩:=repL_cons.1 k2;obtain⟨c2,d2,rfl,e2,k2⟩:=repL_cons.1 k2;rw[repL_nil]at k2;subst k2;rw[aqp]at e0;rw[rep_int]at e2;subst e0;subst e2;obtain⟨a,cap,rfl,_,_,e3,e4,_⟩:=rep_sl.1 e1;subst e3;subst e4;exact⟨_,_,.inl rfl,k1,⟨rfl,.inl ⟨rfl,rfl⟩⟩,by simp[Value.ownBlock],hI.ownk i hi,fun k hk=>by simp[Value.ownBlock]at hk⟩
theorem cky{C:Ctx}{i:Nat}{ver:Int}{l:List UInt8}(h:WF (fun g=>C.own g=some i) (C.κ i) ver l C.w):BlkRep C i (wtr ver l):=by
 refine⟨fun w' hw _=>WF.stable h hw,fun o x hx=>?_⟩;have hx':(if o=2 then some (A.int .i64 ver)else none)=some x:=hx;split at hx'
 ·next e=>
  injection hx' with hx';subst hx';subst e;obtain⟨p,v,hp,hb,_⟩:=h;exact⟨_,(aqi hb).2.2.1,rep_int.2 rfl⟩
 ·cases hx'
theorem bjs{h:Hp}{i:Nat}{ver:Int}{l:List UInt8}(hw:Wt h i ver l)(s:List UInt8)(hlen:l.length+s.length≤1000000000):
  ACall Tryz.prog GT 27 [.ptr i 0,.str s] h fun v h'=>v=.tup [.int .i64 s.length,.nili]∧h'=⟨h.b.set i (wtr ver (l++s)),h.t⟩:=by
 intro C es hI ha;obtain⟨c,es',rfl,h1,h2⟩:=repL_cons.1 ha;obtain⟨rfl,hi⟩:=rep_ptr.1 h1;obtain rfl:=aqu aqt C es' h2;refine(cx5 (hw.wf hI) s hlen).mono ?_;rintro e w' ⟨rfl,m1,m2⟩;have hrep:BlkRep (C.turn w' i true) i (wtr ver (l++s)):=by
  refine cky ?_;obtain⟨p,v,hp,hb,hown,hne,hF,hFk⟩:=m1;have hlt:=(aqi hb).2.2.2.2.2;have hcl:∀k,k<w'.heap.size→(C.own k=some i∨C.w.heap.size≤k)→(C.turn w' i true).own k=some i:=fun k hk hor=>by
   show(if k<C.w.heap.size then C.own k else if true=true∧k<w'.heap.size then some i else none)=some i
   split
   ·rcases hor with h3|h3
    ·exact h3
    ·omega
   ·rw[if_pos ⟨rfl,hk⟩]
  refine⟨p,v,hp,hb,hown,hne,hcl _ hlt hF,fun k hk=>hcl k ?_ (hFk k hk)⟩;rcases hown.2 with⟨rfl,_⟩|⟨g,cap,cur,fz,rfl,_,h3,_⟩
  ·simp[Value.ownBlock]at hk
  ·simp only[Value.ownBlock,Zb]at hk;subst hk;exact(Z0.1 h3).1
 obtain⟨i1,s1⟩:=aq8 (b':=wtr ver (l++s)) true hI hi m2.os m2.tape m2.output m2.size (fun g hg hne=>m2.block g hg hne) (fun _=>hrep);exact⟨_,_,.tup [.int .i64 s.length,.nili],_,rfl,rfl,i1,s1,rep_tup.2 ⟨_,rfl,repL_cons.2 ⟨_,_,rfl,rep_int.2 rfl,repL_cons.2 ⟨_,_,rfl,bv1.2 rfl,repL_nil.2 rfl⟩⟩⟩,rfl,rfl⟩
theorem dzl{h:Hp}{i:Nat}{ver:Int}{l:List UInt8}(hw:Wt h i ver l):ACall Tryz.prog GT 26 [.ptr i 0] h fun v h'=>v=.int .i64 l.length∧h'=h:=by
 intro C es hI ha;obtain⟨c,es',rfl,h1,h2⟩:=repL_cons.1 ha;obtain⟨rfl,hi⟩:=rep_ptr.1 h1;rw[repL_nil]at h2;subst h2;refine(cw8 (hw.wf hI).wtr).mono ?_;rintro e w' ⟨rfl,rfl⟩;exact⟨C,h,_,_,rfl,rfl,hI,Step.refl C,rep_int.2 rfl,rfl,rfl⟩
theorem bqu{h:Hp}{i:Nat}{ver:Int}{l:List UInt8}(hw:Wt h i ver l)(h0:l≠[]):ACall Tryz.prog GT 28 [.ptr i 0] h fun v h'=>v=.str l∧h'=⟨h.b.set i dead,h.t⟩:=by
 intro C es hI ha;obtain⟨c,es',rfl,h1,h2⟩:=repL_cons.1 ha;obtain⟨rfl,hi⟩:=rep_ptr.1 h1;rw[repL_nil]at h2;subst h2;refine(czi (hw.wf hI) h0).mono ?_;rintro e w' ⟨rfl,m2⟩;obtain⟨i1,s1⟩:=aq8 (b':=dead) false hI hi m2.os m2.tape m2.output m2.size (fun g hg hne=>m2.block g hg hne) (fun _=>⟨fun _ _ _=>trivial,fun o x hx=>by cases hx⟩);exact⟨_,_,.str l,_,rfl,rfl,i1,s1,rep_str.2 rfl,rfl,rfl⟩
end AX
end
section
open Go.ChangeShapes Go.WideShapes Go.ChangeAt Go.RowKit
namespace Card
theorem own:ownKnob Tryz.prog.godebug=none:=by kernel_rfl
theorem first_eq:Go.Pinned.utf8First=Lib.firstData:=by kernel_rfl
theorem accept_eq:(Rows.laid_unicode_utf8_acceptRanges:DataW Unit)=Lib.acceptData:=by kernel_rfl
theorem tz_name : Tryz.prog.globalNamed "math/bits.deBruijn64tab" = some 7 := by kernel_rfl
theorem tz_type:(Tryz.prog.globals[7]?).map (·.type)=some 301:=by kernel_rfl
theorem tz_cells:Tryz.prog.cellsOf 301=64:=by kernel_rfl
theorem tz_cell:Tryz.prog.cellsOf 5=1:=by kernel_rfl
def tab64:List Int:=[0,1,56,2,57,49,28,3,61,58,42,50,38,29,17,4,62,47,59,36,45,43,51,22,53,39,33,30,24,18,12,5,63,55,48,27,60,41,37,16,46,35,44,21,52,32,23,11,54,26,40,15,34,20,31,10,25,14,19,9,13,8,7,6]
theorem tab64_eq:(Rows.laid_math_bits_deBruijn64tab:DataW Unit)=Lib.tabData .u8 tab64:=by kernel_rfl
theorem iface_reads{P:Program}{w:World}{n:String}{g:Nat}{t:TypeId}{d:DataW Unit}{m:Array (String×TypeId)}(hg:P.globalNamed n=some g)(ht:(P.globals[g]?).map (·.type)=some t)(hu:P.underlying t=some (.interface m))(h:Lib.VarReads P w n d):IfaceAt g w:=by
 obtain⟨g',t',cs,fuel,p,h1,h2,h3,h4⟩:=h;rw[hg]at h1;injection h1 with h1;subst h1
 rw[ht]at h2;injection h2 with h2;subst h2
 have hc:=World.var?_cell hg h3 0;obtain⟨l⟩:=cs;cases fuel with
 |zero=>simp[DataW.trod]at h4
 |succ k=>
  match l,hc with
  |[],_=>simp[DataW.trod,hu]at h4
  |[.nilIface],hc=>exact⟨_,hc,.inl rfl⟩
  |[.iface u v],hc=>exact⟨_,hc,.inr ⟨u,v,rfl⟩⟩
  |v::x::l,_=>cases v<;>simp[DataW.trod,hu]at h4
  |[v],hc=>cases v<;>first|exact⟨_,hc,.inl rfl⟩|exact⟨_,hc,.inr ⟨_,_,rfl⟩⟩|simp[DataW.trod,hu]at h4
theorem tz_of {W : World} (r3 : Lib.VarReads Tryz.prog W "math/bits.deBruijn64tab" (Lib.tabData .u8 tab64)) : W.cell? ⟨7, 15, none⟩ = some (.int .u8 4) := by
 obtain⟨g,t,cs,fuel,p,hg,hty,hvar,hd⟩:=r3;obtain rfl:=Zaq (tz_name.symm.trans hg);obtain rfl:=Zaq (tz_type.symm.trans hty);have hcs:=Lib.cells_of_tab Tryz.underlying301 Tryz.underlying5 tz_cell tz_cells hd;have:=World.var?_cell hg hvar 15;rw[this,←Array.getElem?_toList,hcs];rfl
theorem gt_of{W:World}(h:laidMetH Tryz.prog Rows.journalReadsRow.laid W):GT W:=by
 have hL:laidMet Tryz.prog Rows.journalReadsRow.laid W:=by
  have e:=Go.MakeChecks.laidMetH_plain Tryz.prog Rows.journalReadsRow.laid W (by kernel_rfl)
  rwa [e]at h
 have r1 : Lib.VarReads Tryz.prog W "unicode/utf8.first" Lib.firstData := by
  rw[←first_eq];exact Lib.laidMet.reads hL (.tail _ (.tail _ (.tail _ (.tail _ (.tail _ (.tail _ (.head _)))))))
 have r2 : Lib.VarReads Tryz.prog W "unicode/utf8.acceptRanges" Lib.acceptData := by
  rw[←accept_eq];exact Lib.laidMet.reads hL (.tail _ (.tail _ (.tail _ (.head _))))
 exact⟨utf8Tabs_of_reads (ρ:=Tryz.lays260_ren) Tryz.lays260 ⟨by kernel_rfl,by kernel_rfl,by kernel_rfl,by kernel_rfl,by kernel_rfl,by kernel_rfl,by kernel_rfl⟩ r1 r2,
  iface_reads (by kernel_rfl) (by kernel_rfl) Tryz.underlying78 (Lib.laidMet.reads hL (.tail _ (.tail _ (.tail _ (.tail _ (.tail _ (.head _))))))),iface_reads (by kernel_rfl) (by kernel_rfl) Tryz.underlying78 (Lib.laidMet.reads hL (.tail _ (.tail _ (.tail _ (.tail _ (.head _)))))),tz_of (by rw[←tab64_eq];exact Lib.laidMet.reads hL (.tail _ (.head _)))⟩
def ints(k:IntKind)(l:List Int):Array Value:=(l.map fun z=>Value.int k z).toArray
def u8s(l:List Int):Array Value:=ints .u8 l
def setTab(h:Array Obj)(g:Nat)(cs:Array Value):Array Obj:=h.modify g fun
 |.cells _ t frozen=> .cells cs t frozen
 |o=>o
noncomputable def low:Nat:=(World.holding Tryz.prog default ⟨#[],#[],[]⟩).heap.size
noncomputable def laidWorld(os:Os)(args:Array Value):World:=
 { World.holding Tryz.prog os ⟨#[.cells #[.string { data:=#[118,97,108,117,101,32,111,117,116,32,111,102,32,114,97,110,103,101] }] 288,.cells #[.string { data:=#[105,110,118,97,108,105,100,32,115,121,110,116,97,120] }] 288],args,[]⟩with
  heap:=(setTab (setTab (setTab (setTab (setTab (setTab (setTab (World.holding Tryz.prog os ⟨#[.cells #[.string { data:=#[118,97,108,117,101,32,111,117,116,32,111,102,32,114,97,110,103,101] }] 288,.cells #[.string { data:=#[105,110,118,97,108,105,100,32,115,121,110,116,97,120] }] 288],args,[]⟩).heap 6 (ints .u8 [0,1,28,2,29,14,24,3,30,22,20,15,25,17,4,8,31,27,13,23,21,19,16,7,26,12,18,6,11,5,10,9])) 7 (ints .u8 [0,1,56,2,57,49,28,3,61,58,42,50,38,29,17,4,62,47,59,36,45,43,51,22,53,39,33,30,24,18,12,5,63,55,48,27,60,41,37,16,46,35,44,21,52,32,23,11,54,26,40,15,34,20,31,10,25,14,19,9,13,8,7,6])) 5 (ints .u64 [1,10,100,1000,10000,100000,1000000,10000000,100000000,1000000000,10000000000,100000000000,1000000000000,10000000000000,100000000000000,1000000000000000,10000000000000000,100000000000000000,1000000000000000000,10000000000000000000])) 1 (ints .u8 [128,191,160,191,128,159,144,191,128,143,0,0,0,0,0,0,0,0,0,0,0,0,0,0,0,0,0,0,0,0,0,0])) 4 (#[.iface 286 (.pointer (some ⟨low+0,0,none⟩))])) 3 (#[.iface 286 (.pointer (some ⟨low+1,0,none⟩))])) 0 (u8s Lib.firstTab)) }
end Card
end
section
open Go.RowKit
mutual
def D.cells:D→List AX.A
 |.int k n=>[.int k n]
 |.str l=>[.str l]
 |.bool b=>[.bool b]
 |.agg l=>D.cellsL l
 |.sl W l=>[.sl W .no (D.rows l)]
def D.cellsL:List D→List AX.A
 |[]=>[]
 |d::l=>d.cells++D.cellsL l
def D.rows:List D→List (List AX.A)
 |[]=>[]
 |d::l=>d.cells::D.rows l
end
mutual
theorem D.cells_data:∀(d:D) (x:AX.A),x∈d.cells→x.data=true
 |.int k n,x,h=>by unfold D.cells at h;simp at h;subst h;rfl
 |.str l,x,h=>by unfold D.cells at h;simp at h;subst h;rfl
 |.bool b,x,h=>by unfold D.cells at h;simp at h;subst h;rfl
 |.agg l,x,h=>by unfold D.cells at h;exact D.cellsL_data l x h
 |.sl W l,x,h=>by unfold D.cells at h;simp at h;subst h;rfl
theorem D.cellsL_data:∀(l:List D) (x:AX.A),x∈D.cellsL l→x.data=true
 |[],x,h=>by unfold D.cellsL at h;simp at h
 |d::l,x,h=>by
  unfold D.cellsL at h;rcases Yz.1 h with h|h
  ·exact D.cells_data d x h
  ·exact D.cellsL_data l x h
end
namespace AX
def Ctx.of(w:World):Ctx:={ w:=w,S:=fun g _=>g<w.heap.size,κ:=fun _=>0,nb:=0,τ:=fun _=>0,hw:=fun _=>none,own:=fun _=>none,base:=w.heap.size }
theorem inv_of{G:World→Prop}{w:World}(hG:∀w':World,(∀g,g<w.heap.size→w'.heap[g]?=w.heap[g]?)→G w'):Inv G (Ctx.of w) ⟨[],[]⟩ where
 nb:=rfl
 box:=fun i b h=>by simp at h
 ownk:=fun i h=>by simp[Ctx.of]at h
 ownlt:=fun g i h=>by simp[Ctx.of]at h
 prot:=fun g j h=>⟨h,rfl,fun t E W m ht=>by simp[Ctx.of]at ht⟩
 rows:=fun t E W m h=>by simp[Ctx.of]at h
 inj:=fun t t' h=>by simp[Ctx.of]at h
 toks:=fun t=>by simp[Ctx.of]
 base:=Zf _
 glob:=hG
theorem cxn{P:Program}{G:World→Prop}{f:FuncId}{args:List A}{vs:List Value}{w:World}(hc:ACall P G f args ⟨[],[]⟩ fun v _=>v=.bool true)(hG:∀w':World,(∀g,g<w.heap.size→w'.heap[g]?=w.heap[g]?)→G w')
  (ha:RepL (Ctx.of w) args vs):Calls P f vs.toArray w fun e w'=>e=.returned (.bool true)∧Below w.heap.size w w':=by
 refine(hc (Ctx.of w) vs (inv_of hG) ha).mono ?_;rintro e w' ⟨C',h',v,cv,rfl,rfl,_,st,hr,rfl⟩;rw[aqn]at hr;subst hr;exact⟨rfl,st.os,st.tape,st.output,st.size,fun g hg=>st.frame g hg rfl fun t ht=>by simp[Ctx.of]at ht⟩
theorem cql{a b:Nat}{w:World}(h:Lib.Utf8Tabs a b w):∀w':World,(∀g,g<w.heap.size→w'.heap[g]?=w.heap[g]?)→Lib.Utf8Tabs a b w':=by
 intro w' hw;have hlt:∀{g j:Nat} {v:Value},w.cell? ⟨g,j,none⟩=some v→g<w.heap.size:=fun {g j v} h=>(ax4 h).2
 have hc:∀{g j:Nat} {v:Value},w.cell? ⟨g,j,none⟩=some v→w'.cell? ⟨g,j,none⟩=some v:=fun {g j v} h=>by
  rw[←h];simp only[World.cell?,hw g (hlt h)]
 exact⟨fun c hcl=>hc (h.1 c hcl),fun i hi=>⟨hc (h.2 i hi).1,hc (h.2 i hi).2⟩⟩
end AX
end
section
open Go.RowKit Go.ChangeShapes Go.WideShapes
namespace AX
theorem bys{w:World}(g:GT w):∀w':World,(∀g,g<w.heap.size→w'.heap[g]?=w.heap[g]?)→GT w':=fun w' hw=>by
 have hi:∀{n:Nat},IfaceAt n w→IfaceAt n w':=fun⟨ev,h1,h2⟩=>⟨ev,by rw[←h1];simp only[World.cell?,hw _ (ax4 h1).2],h2⟩
 exact⟨cql g.tabs w' hw,hi g.esyn,hi g.erng,by rw[←g.tz];simp only[World.cell?,hw _ (ax4 g.tz).2]⟩
theorem cxf(a:ByteArray):Value.string a=.string ⟨a.data.toList.toArray⟩:=by simp
section
variable {H:Type} {enc:TypeId×Value→H} {w:World} {base:Nat} {spare:Nat→Bool} {held:Bool} {r:Reach} {b0:Nat} {v:Value} {d:DataW H} {p:List MemPlace}
end
end AX
end
section
open Go.RowKit
namespace AX
theorem akp{P:Program}{G:World→Prop}{ops:List AOper}{Q:AExit→Ts→Hp→Prop}{ts:Ts}{h:Hp}(m:Nat)(hb:(seqB m ops&&chainB (closeOps ops) (actsF m 0 (closeOps ops)))=true)(hp:aseq P G m 0 (flagsOf m ops) ops [] [] (Q .normal) ts h):awp P G (.reg true ops) Q ts h:=
 bva m (Bool.and_eq_true_iff.1 hb).1 hp
theorem evp{A F:Prop}(f:F)(h:F→A:=by intro f;simp only[f]<;>with_reducible rfl):A:=h f
theorem ev0{A F:Prop}(f:F)(h:F→A:=by intro f;simp only[aql,az5,az6,aj7,avd,az4,aq9,aq7,aq6,azi,aqa,astep,bop,uop,loadA,storeA,appA,ssliceA,eqA,eqCells,fillA,rowsA,setCells,A.cells,A.one,A.data,azy,ZC,Yt,ZY,Zx,ZT,ZR,YA,YH,YO,ZZ,Yo,ZW,Ym,ZN,ZH,ZM,ZF,ZJ,av8,avz,ax0,avw,av6,av0,awv,awr,av4,awd,awn,Zh,Zy,Zk,Zo,ZB,Yf,Yu,Yv,ZU,Z3,Yk,YY,Yj,Za,Yl,Nat.reduceAdd,Nat.reduceSub,Nat.reduceMul,Nat.reduceLeDiff,Nat.reduceEqDiff,Nat.reduceBEq,Yb,YI,Int.reduceBEq,Int.reduceBNe,Int.reduceLT,Int.reduceLE,Int.reduceEq,Int.le_refl,Zao,if_true,if_false,reduceIte,ite_true,ite_false,true_and,and_true,ne_eq,Yh,Ys,Zi,reduceCtorEq,and_self,YD,Yg,Zf,ZP,ZL,and_self,decide_true,decide_false,YV,Zag,Bool.or_true,Y6,YR,Yr,Y2,Bool.not_not,ayy,bq1,bqm,cqd,bz1,bzs,rowsR,YP,List.flatten_nil,mgetA,msetA,mdelA,mclrA,mlenA,mgetV,Zaj,Zae,f]<;>with_reducible rfl):A:=h f
theorem dz2{A F:Prop}(f:F)(h:F→A:=by intro f;simp only[aql,az5,az6,aj7,avd,az4,aq9,aq7,aq6,azi,aqa,astep,bop,uop,loadA,storeA,appA,ssliceA,eqA,eqCells,fillA,rowsA,setCells,A.cells,A.one,A.data,azy,ZC,Yt,ZY,Zx,ZT,ZR,YA,YH,YO,ZZ,Yo,ZW,Ym,ZN,ZH,ZM,ZF,ZJ,av8,avz,ax0,avw,av6,av0,awv,awr,av4,awd,awn,Zh,Zy,Zk,Zo,ZB,Yf,Yu,Yv,ZU,Z3,Yk,YY,Yj,Za,Yl,Nat.reduceAdd,Nat.reduceSub,Nat.reduceMul,Nat.reduceLeDiff,Nat.reduceEqDiff,Nat.reduceBEq,Yb,YI,Int.reduceBEq,Int.reduceBNe,Int.reduceLT,Int.reduceLE,Int.reduceEq,Int.le_refl,Zao,if_true,if_false,reduceIte,ite_true,ite_false,true_and,and_true,ne_eq,Yh,Ys,Zi,reduceCtorEq,and_self,YD,Yg,Zf,ZP,ZL,and_self,decide_true,decide_false,YV,Zag,Bool.or_true,Y6,YR,Yr,Y2,Bool.not_not,ayy,bq1,bqm,cqd,bz1,bzs,rowsR,YP,List.flatten_nil,mgetA,msetA,mdelA,mclrA,mlenA,mgetV,Zaj,Zae,f];first|with_reducible exact rfl|with_reducible exact(ayy _).symm):A:=h f
theorem eu0{A F:Prop}(f:F)(h:F→A:=by intro f;simp only[aql,az5,az6,aj7,avd,az4,aq9,aq7,aq6,azi,aqa,astep,bop,uop,loadA,storeA,appA,ssliceA,eqA,eqCells,fillA,rowsA,setCells,A.cells,A.one,A.data,azy,ZC,Yt,ZY,Zx,ZT,ZR,YA,YH,YO,ZZ,Yo,ZW,Ym,ZN,ZH,ZM,ZF,ZJ,av8,avz,ax0,avw,av6,av0,awv,awr,av4,awd,awn,Zh,Zy,Zk,Zo,ZB,Yf,Yu,Yv,ZU,Z3,Yk,YY,Yj,Za,Yl,Nat.reduceAdd,Nat.reduceSub,Nat.reduceMul,Nat.reduceLeDiff,Nat.reduceEqDiff,Nat.reduceBEq,Yb,YI,Int.reduceBEq,Int.reduceBNe,Int.reduceLT,Int.reduceLE,Int.reduceEq,Int.le_refl,Zao,if_true,if_false,reduceIte,ite_true,ite_false,true_and,and_true,ne_eq,Yh,Ys,Zi,reduceCtorEq,and_self,YD,Yg,Zf,ZP,ZL,and_self,decide_true,decide_false,YV,Zag,Bool.or_true,Y6,YR,Yr,Y2,Bool.not_not,ayy,bq1,bqm,cqd,bz1,bzs,rowsR,YP,List.flatten_nil,mgetA,msetA,mdelA,mclrA,mlenA,mgetV,Zaj,Zae,f];rw[if_pos (by first|omega|(refine⟨?_,?_⟩<;>omega)|(simp only[true_and,and_true];omega))];with_reducible rfl):A:=h f
theorem azq{A F:Prop}(f:F)(h:F→A:=by intro f;simp only[aql,az5,az6,aj7,avd,az4,aq9,aq7,aq6,azi,aqa,astep,bop,uop,loadA,storeA,appA,ssliceA,eqA,eqCells,fillA,rowsA,setCells,A.cells,A.one,A.data,azy,ZC,Yt,ZY,Zx,ZT,ZR,YA,YH,YO,ZZ,Yo,ZW,Ym,ZN,ZH,ZM,ZF,ZJ,av8,avz,ax0,avw,av6,av0,awv,awr,av4,awd,awn,Zh,Zy,Zk,Zo,ZB,Yf,Yu,Yv,ZU,Z3,Yk,YY,Yj,Za,Yl,Nat.reduceAdd,Nat.reduceSub,Nat.reduceMul,Nat.reduceLeDiff,Nat.reduceEqDiff,Nat.reduceBEq,Yb,YI,Int.reduceBEq,Int.reduceBNe,Int.reduceLT,Int.reduceLE,Int.reduceEq,Int.le_refl,Zao,if_true,if_false,reduceIte,ite_true,ite_false,true_and,and_true,ne_eq,Yh,Ys,Zi,reduceCtorEq,and_self,YD,Yg,Zf,ZP,ZL,and_self,decide_true,decide_false,YV,Zag,Bool.or_true,Y6,YR,Yr,Y2,Bool.not_not,ayy,bq1,bqm,cqd,bz1,bzs,rowsR,YP,List.flatten_nil,mgetA,msetA,mdelA,mclrA,mlenA,mgetV,Zaj,Zae,f,Int.natCast_add,Int.natCast_one]<;>trivial):A:=h f
theorem cjm{A F:Prop}(f:F)(h:F→A:=by intro f;simp only[aql,az5,az6,aj7,avd,az4,aq9,aq7,aq6,azi,aqa,astep,bop,uop,loadA,storeA,appA,ssliceA,eqA,eqCells,fillA,rowsA,setCells,A.cells,A.one,A.data,azy,ZC,Yt,ZY,Zx,ZT,ZR,YA,YH,YO,ZZ,Yo,ZW,Ym,ZN,ZH,ZM,ZF,ZJ,av8,avz,ax0,avw,av6,av0,awv,awr,av4,awd,awn,Zh,Zy,Zk,Zo,ZB,Yf,Yu,Yv,ZU,Z3,Yk,YY,Yj,Za,Yl,Nat.reduceAdd,Nat.reduceSub,Nat.reduceMul,Nat.reduceLeDiff,Nat.reduceEqDiff,Nat.reduceBEq,Yb,YI,Int.reduceBEq,Int.reduceBNe,Int.reduceLT,Int.reduceLE,Int.reduceEq,Int.le_refl,Zao,if_true,if_false,reduceIte,ite_true,ite_false,true_and,and_true,ne_eq,Yh,Ys,Zi,reduceCtorEq,and_self,YD,Yg,Zf,ZP,ZL,and_self,decide_true,decide_false,YV,Zag,Bool.or_true,Y6,YR,Yr,Y2,Bool.not_not,ayy,bq1,bqm,cqd,bz1,bzs,rowsR,YP,List.flatten_nil,mgetA,msetA,mdelA,mclrA,mlenA,mgetV,Zaj,Zae,forH,pastN,obsP,obsD,obsN,memN,Yr,YR,Y6,Bool.or_true,true_or,or_true,false_or,or_false,f]<;>exact ti):A:=h f
theorem go0{A B F:Prop}(f:F)(k:B)(h:F→B→A:=by intro f k;(repeat (first|with_reducible refine bvo ?_|with_reducible refine dza ?_|with_reducible refine ckj ?_|with_reducible refine cym ?_|with_reducible refine cyk ?_|with_reducible refine bkp ?_|with_reducible refine bvf ?_|with_reducible refine go_ret ?_|with_reducible refine ck4 ?_|with_reducible refine cwa ?_|with_reducible refine cwe ?_|with_reducible refine cwx ?_|with_reducible refine cja ?_|((with_reducible refine cxq ?_ ?_);exact rfl)|with_reducible refine ckn ?_|((with_reducible apply byk);exact rfl;exact ev0 f)|((with_reducible apply byk);exact rfl;exact eu0 f)|((with_reducible apply cwf);exact rfl;exact ev0 f)|((with_reducible apply cwf);exact rfl;exact eu0 f)|((with_reducible refine cxo ?_ ?_);exact ev0 f)|((with_reducible refine go_skip ?_ ?_);exact ev0 f)|((with_reducible refine cjl ?_ ?_);exact ev0 f)|((with_reducible refine cye ?_ ?_);exact ev0 f)|((with_reducible apply cv8);exact ev0 f;exact rfl;exact ev0 f)|((with_reducible apply cv8);exact ev0 f;exact rfl;exact eu0 f)|((with_reducible apply cki);exact ev0 f;exact rfl;exact ev0 f)|((with_reducible apply cki);exact ev0 f;exact rfl;exact eu0 f)|((with_reducible refine cxg ?_ ?_);exact ev0 f)|((with_reducible refine cjr ?_ ?_);exact ev0 f)|((with_reducible apply cx4);exact ev0 f)|((with_reducible apply by1);exact ev0 f)));exact k):A:=h f k
theorem gc0{A B F:Prop}(f:F)(k:B)(h:F→B→A:=by intro f k;first|((with_reducible apply go_call);exact ev0 f;exact k)|((with_reducible apply cjd);exact ev0 f;exact ev0 f;exact k)|((with_reducible apply cjf);exact ev0 f;exact rfl;kernel_rfl;exact ev0 f;exact k)):A:=h f k
theorem azb{A B F:Prop}(f:F)(k:B)(h:F→B→A:=by intro f k;(repeat (first|with_reducible refine bvo ?_|with_reducible refine bvc ?_|with_reducible refine cv9 ?_|with_reducible refine cym ?_|with_reducible refine cyk ?_|with_reducible refine bkp ?_|with_reducible refine bvf ?_|with_reducible refine go_ret ?_|with_reducible refine ck4 ?_|with_reducible refine cwa ?_|with_reducible refine cwe ?_|with_reducible refine cwx ?_|with_reducible refine cja ?_|((with_reducible refine cxq ?_ ?_);exact rfl)|((with_reducible apply czx);exact rfl;exact ev0 f;exact ev0 f;(first|exact evp f|exact ev0 f|exact eu0 f))|((with_reducible apply bxs);exact rfl;exact rfl;exact ev0 f)|((with_reducible apply bxs);exact rfl;exact rfl;exact eu0 f)|((with_reducible apply bxw);exact rfl;exact ev0 f)|((with_reducible apply bv0);exact rfl;exact ev0 f)|((with_reducible apply bvy);exact ev0 f)|((with_reducible apply cq1);exact ev0 f;exact ev0 f;(first|exact evp f|exact ev0 f|exact eu0 f);(first|exact ti|exact cjm f))|((with_reducible apply cxl);exact rfl;decide +kernel;exact rfl;exact ev0 f)|((with_reducible apply bxk);exact rfl;exact rfl;exact ev0 f;(first|exact ti|exact cjm f))|((with_reducible apply cxl);exact rfl;decide +kernel;exact rfl;exact eu0 f)|((with_reducible apply bxk);exact rfl;exact rfl;exact eu0 f;(first|exact ti|exact cjm f))|((with_reducible apply byl);exact rfl;decide +kernel;exact rfl;exact ev0 f;(first|exact ti|exact cjm f))|((with_reducible apply bvl);decide +kernel;exact rfl;exact ev0 f)|((with_reducible apply czb);decide +kernel;exact rfl;exact ev0 f)|((with_reducible apply cqp);exact ev0 f)|((with_reducible apply bkg);exact ev0 f;exact rfl;kernel_rfl;exact ev0 f)|((with_reducible apply bkq);exact ev0 f;exact rfl;exact rfl;kernel_rfl;exact ev0 f)|((with_reducible refine cxg ?_ ?_);exact ev0 f)|((with_reducible refine cjr ?_ ?_);exact ev0 f)|((with_reducible apply cx4);exact ev0 f)|((with_reducible apply by1);exact ev0 f)|((with_reducible refine akp 1 ?_ ?_);decide +kernel)|((with_reducible refine akp 2 ?_ ?_);decide +kernel)));exact k):A:=h f k
theorem dqh{P:Program}{G:World→Prop}{c:Opd}{b:Bool}{x y:ACode}{Q:AExit→Ts→Hp→Prop}{ts:Ts}{h:Hp}{F:Prop}(f:F)(k1:b=true→awp P G x Q ts h)(k2:b=false→awp P G y Q ts h)(hc:F→evX ts c=.bool b:=by intro f;exact ev0 f):awp P G (.cond c x y) Q ts h:=cyo (hc f) k1 k2
theorem V_A:∀v:V,V.A v=.agg v.cells:=fun _=>rfl
theorem azd:∀k n s is ks,V.cells (.mk k n s is ks)=[.int .i64 k,.int .i64 n,.str s,.sl 5 .no (V.cellss is),.sl 1 .no (strsA ks)]:=fun k n s is ks=>by rw[V.cells]
theorem cy4:∀(ver:Int) (l:List UInt8),wtr ver l=.opq (fun F g w=>WF F g ver l w) (fun o=>if o=2 then some (.int .i64 ver)else none):=fun _ _=>rfl
theorem use{P:Program}{G:World→Prop}{m i:Nat}{fl:List Bool}{past:List Hp}{obs:Obs}{d:Option Nat}{af:List Nat}{os:List AOper}{K:Ts→Hp→Prop}{ts:Ts}{h:Hp}{f:FuncId}{vs:List A}{h':Hp}{v:A}(hc:ACall P G f vs h fun v' h''=>v'=v∧h''=h')(k:aseq P G m (i+1) fl.tail os (pastN m h past) (obsN m af obs) K (put ts d v) h')(hm:(m=2→h'=h∧fl.headD false=false)∧(m≠2→obsP af obs h'):=by first|exact⟨fun e=>absurd e (by decide),fun _=>ti⟩|exact⟨fun e=>absurd e (by decide),fun _=>cjm ti⟩|exact⟨fun _=>⟨rfl,by decide +kernel⟩,fun e=>absurd rfl e⟩):CallK P G m i fl f vs h d af os past obs K ts:=rt hc hm k
theorem azc{A B F C:Prop}(f:F)(c:C)(k:B)(h:F→C→B→A:=by intro f c k;(repeat (first|with_reducible refine bvo ?_|with_reducible refine bvc ?_|with_reducible refine cv9 ?_|with_reducible refine cym ?_|with_reducible refine cyk ?_|with_reducible refine bkp ?_|with_reducible refine bvf ?_|with_reducible refine go_ret ?_|with_reducible refine ck4 ?_|with_reducible refine cwa ?_|with_reducible refine cwe ?_|with_reducible refine cwx ?_|with_reducible refine cja ?_|((with_reducible refine cxq ?_ ?_);exact rfl)|((with_reducible apply czx);exact rfl;exact ev0 f;exact ev0 f;(first|exact evp f|exact ev0 f|exact eu0 f))|((with_reducible apply bxs);exact rfl;exact rfl;exact ev0 f)|((with_reducible apply bxs);exact rfl;exact rfl;exact eu0 f)|((with_reducible apply bxw);exact rfl;exact ev0 f)|((with_reducible apply bv0);exact rfl;exact ev0 f)|((with_reducible apply bvy);exact ev0 f)|((with_reducible apply cq1);exact ev0 f;exact ev0 f;(first|exact evp f|exact ev0 f|exact eu0 f);(first|exact ti|exact cjm f))|((with_reducible apply cxl);exact rfl;decide +kernel;exact rfl;exact ev0 f)|((with_reducible apply bxk);exact rfl;exact rfl;exact ev0 f;(first|exact ti|exact cjm f))|((with_reducible apply cxl);exact rfl;decide +kernel;exact rfl;exact eu0 f)|((with_reducible apply bxk);exact rfl;exact rfl;exact eu0 f;(first|exact ti|exact cjm f))|((with_reducible apply byl);exact rfl;decide +kernel;exact rfl;exact ev0 f;(first|exact ti|exact cjm f))|((with_reducible apply bvl);decide +kernel;exact rfl;exact ev0 f)|((with_reducible apply czb);decide +kernel;exact rfl;exact ev0 f)|((with_reducible apply cqp);exact ev0 f)|((with_reducible apply bkg);exact ev0 f;exact rfl;kernel_rfl;exact ev0 f)|((with_reducible apply bkq);exact ev0 f;exact rfl;exact rfl;kernel_rfl;exact ev0 f)|((with_reducible refine cxg ?_ ?_);exact ev0 f)|((with_reducible refine cjr ?_ ?_);exact ev0 f)|((with_reducible apply cx4);exact ev0 f)|((with_reducible apply by1);exact ev0 f)|((with_reducible refine akp 1 ?_ ?_);decide +kernel)|((with_reducible refine akp 2 ?_ ?_);decide +kernel)|((with_reducible apply cy6);exact rfl;exact rfl;exact dz2 f;(intro hp;simp only[bz1,bzs,Zx,ZY,Zc,YG]at hp<;>first|exact ev0 (ai hp f)|(have hq:=hp;simp only[Zm,YW,Y8,ne_eq,ZA,Zap,Zq]at hq;exact ev0 (ai hq (ai hp f)))))|((with_reducible apply dqd);exact rfl;decide +kernel;exact rfl;exact dz2 f;(intro hp;simp only[bz1,bzs,Zx,ZY,Zc,YG]at hp<;>first|exact ev0 (ai hp f)|(have hq:=hp;simp only[Zm,YW,Y8,ne_eq,ZA,Zap,Zq]at hq;exact ev0 (ai hq (ai hp f)))))|((with_reducible apply cvh);exact rfl;exact dz2 f;(intro hp;simp only[bz1,bzs,Zx,ZY,Zc,YG]at hp<;>first|exact ev0 (ai hp f)|(have hq:=hp;simp only[Zm,YW,Y8,ne_eq,ZA,Zap,Zq]at hq;exact ev0 (ai hq (ai hp f)))))|((with_reducible apply cvz);decide +kernel;exact dz2 f;(intro hp;simp only[bz1,bzs,Zx,ZY,Zc,YG]at hp<;>first|exact ev0 (ai hp f)|(have hq:=hp;simp only[Zm,YW,Y8,ne_eq,ZA,Zap,Zq]at hq;exact ev0 (ai hq (ai hp f)))))|refine use (c.1 _) ?_|refine use (c.1 _ _) ?_|refine use c.1 ?_|refine use (c.2.1 _) ?_|refine use (c.2.1 _ _) ?_|refine use c.2.1 ?_|refine use (c.2.2.1 _) ?_|refine use (c.2.2.1 _ _) ?_|refine use c.2.2.1 ?_|refine use (c.2.2.2.1 _) ?_|refine use (c.2.2.2.1 _ _) ?_|refine use c.2.2.2.1 ?_|refine use (c.2.2.2.2.1 _) ?_|refine use (c.2.2.2.2.1 _ _) ?_|refine use c.2.2.2.2.1 ?_|refine use (c.2.2.2.2.2.1 _) ?_|refine use (c.2.2.2.2.2.1 _ _) ?_|refine use c.2.2.2.2.2.1 ?_|refine use (c.2.2.2.2.2.2.1 _) ?_|refine use (c.2.2.2.2.2.2.1 _ _) ?_|refine use c.2.2.2.2.2.2.1 ?_|refine use (c.2.2.2.2.2.2.2.1 _) ?_|refine use (c.2.2.2.2.2.2.2.1 _ _) ?_|refine use c.2.2.2.2.2.2.2.1 ?_|refine use (c.2.2.2.2.2.2.2.2.1 _) ?_|refine use (c.2.2.2.2.2.2.2.2.1 _ _) ?_|refine use c.2.2.2.2.2.2.2.2.1 ?_|refine usew (c.1 _) ?_|refine usew (c.1 _ _) ?_|refine usew c.1 ?_|refine usew (c.2.1 _) ?_|refine usew (c.2.1 _ _) ?_|refine usew c.2.1 ?_|refine usew (c.2.2.1 _) ?_|refine usew (c.2.2.1 _ _) ?_|refine usew c.2.2.1 ?_|refine usew (c.2.2.2.1 _) ?_|refine usew (c.2.2.2.1 _ _) ?_|refine usew c.2.2.2.1 ?_|refine usew (c.2.2.2.2.1 _) ?_|refine usew (c.2.2.2.2.1 _ _) ?_|refine usew c.2.2.2.2.1 ?_|refine usew (c.2.2.2.2.2.1 _) ?_|refine usew (c.2.2.2.2.2.1 _ _) ?_|refine usew c.2.2.2.2.2.1 ?_|refine usew (c.2.2.2.2.2.2.1 _) ?_|refine usew (c.2.2.2.2.2.2.1 _ _) ?_|refine usew c.2.2.2.2.2.2.1 ?_|refine usew (c.2.2.2.2.2.2.2.1 _) ?_|refine usew (c.2.2.2.2.2.2.2.1 _ _) ?_|refine usew c.2.2.2.2.2.2.2.1 ?_|refine usew (c.2.2.2.2.2.2.2.2.1 _) ?_|refine usew (c.2.2.2.2.2.2.2.2.1 _ _) ?_|refine usew c.2.2.2.2.2.2.2.2.1 ?_));exact k):A:=h f c k
theorem azj{A B F C:Prop}(f:F)(c:C)(k:B)(h:F→C→B→A:=by intro f c k;refine azb f ?_;(repeat ((first|refine use (c.1 _) ?_|refine use (c.1 _ _) ?_|refine use c.1 ?_|refine use (c.2.1 _) ?_|refine use (c.2.1 _ _) ?_|refine use c.2.1 ?_|refine use (c.2.2.1 _) ?_|refine use (c.2.2.1 _ _) ?_|refine use c.2.2.1 ?_|refine use (c.2.2.2.1 _) ?_|refine use (c.2.2.2.1 _ _) ?_|refine use c.2.2.2.1 ?_|refine use (c.2.2.2.2.1 _) ?_|refine use (c.2.2.2.2.1 _ _) ?_|refine use c.2.2.2.2.1 ?_|refine use (c.2.2.2.2.2.1 _) ?_|refine use (c.2.2.2.2.2.1 _ _) ?_|refine use c.2.2.2.2.2.1 ?_|refine use (c.2.2.2.2.2.2.1 _) ?_|refine use (c.2.2.2.2.2.2.1 _ _) ?_|refine use c.2.2.2.2.2.2.1 ?_|refine use (c.2.2.2.2.2.2.2.1 _) ?_|refine use (c.2.2.2.2.2.2.2.1 _ _) ?_|refine use c.2.2.2.2.2.2.2.1 ?_|refine use (c.2.2.2.2.2.2.2.2.1 _) ?_|refine use (c.2.2.2.2.2.2.2.2.1 _ _) ?_|refine use c.2.2.2.2.2.2.2.2.1 ?_);refine azb f ?_));exact k):A:=h f c k
theorem evg{A F:Prop}(f:F)(h:F→A:=by intro f;simp only[aql,az5,az6,aj7,avd,az4,aq9,aq7,aq6,azi,aqa,astep,bop,uop,loadA,storeA,appA,ssliceA,eqA,eqCells,fillA,rowsA,setCells,A.cells,A.one,A.data,azy,ZC,Yt,ZY,Zx,ZT,ZR,YA,YH,YO,ZZ,Yo,ZW,Ym,ZN,ZH,ZM,ZF,ZJ,av8,avz,ax0,avw,av6,av0,awv,awr,av4,awd,awn,Zh,Zy,Zk,Zo,ZB,Yf,Yu,Yv,ZU,Z3,Yk,YY,Yj,Za,Yl,Nat.reduceAdd,Nat.reduceSub,Nat.reduceMul,Nat.reduceLeDiff,Nat.reduceEqDiff,Nat.reduceBEq,Yb,YI,Int.reduceBEq,Int.reduceBNe,Int.reduceLT,Int.reduceLE,Int.reduceEq,Int.le_refl,Zao,if_true,if_false,reduceIte,ite_true,ite_false,true_and,and_true,ne_eq,Yh,Ys,Zi,reduceCtorEq,and_self,YD,Yg,Zf,ZP,ZL,and_self,decide_true,decide_false,YV,Zag,forL,bw5,Nat.reduceMod,Zb,ZN,ZH,f]<;>with_reducible rfl):A:=h f
theorem ing{A F:Prop}(f:F)(h:F→A:=by intro f;simp only[aql,az5,az6,aj7,avd,az4,aq9,aq7,aq6,azi,aqa,astep,bop,uop,loadA,storeA,appA,ssliceA,eqA,eqCells,fillA,rowsA,setCells,A.cells,A.one,A.data,azy,ZC,Yt,ZY,Zx,ZT,ZR,YA,YH,YO,ZZ,Yo,ZW,Ym,ZN,ZH,ZM,ZF,ZJ,av8,avz,ax0,avw,av6,av0,awv,awr,av4,awd,awn,Zh,Zy,Zk,Zo,ZB,Yf,Yu,Yv,ZU,Z3,Yk,YY,Yj,Za,Yl,Nat.reduceAdd,Nat.reduceSub,Nat.reduceMul,Nat.reduceLeDiff,Nat.reduceEqDiff,Nat.reduceBEq,Yb,YI,Int.reduceBEq,Int.reduceBNe,Int.reduceLT,Int.reduceLE,Int.reduceEq,Int.le_refl,Zao,if_true,if_false,reduceIte,ite_true,ite_false,true_and,and_true,ne_eq,Yh,Ys,Zi,reduceCtorEq,and_self,YD,Yg,Zf,ZP,ZL,and_self,decide_true,decide_false,YV,Zag,forL,bw5,Nat.reduceMod,Zb,ZN,ZH,f]<;>exact ti):A:=h f
theorem rung{A B F:Prop}(f:F)(k:B)(h:F→B→A:=by intro f k;(repeat (first|with_reducible refine dzk ?_|((with_reducible apply dqb);exact rfl;(refine⟨?_,?_⟩);exact evg f;(first|exact ti|exact ing f))));exact k):A:=h f k
theorem cjc(lv b:Nat):Val.chks [] lv b=(0,b):=by rw[Val.chks]
theorem czs(v:V)(l:List V)(lv b:Nat):Val.chks (v::l) lv b=if(Val.chk v lv b).1≠0 then Val.chk v lv b else Val.chks l lv (Val.chk v lv b).2:=by rw[Val.chks]
theorem ck3(k n:Int)(s:List UInt8)(is:List V)(ks:List (List UInt8))(hlen:(V.mk k n s is ks).lens)(h:Hp):AT 210 [(V.mk k n s is ks).A] h (.int .i64 (Val.nodeZ (.mk k n s is ks))):=by
 refine pcall ?_ rfl (by simp[V.A,V.cells,A.pure,A.data]) h;obtain⟨hil,hkl,_,_⟩:=V.lens_mk hlen;refine fo ?_;refine go0 (ai @V_A @azd) ?_;refine gc0 (ai @V_A @azd) ?_;refine(bj9 k n s .no .no 5 1 _ _ _).mono ?_;rintro v h' ⟨rfl,rfl⟩;rw[V.cellss_length,aze];have hZ:Val.nodeZ (.mk k n s is ks)=if Val.shapedB k n s is.length ks.length=false then 1 else if k=2∧¬(-9007199254740992≤n∧n≤9007199254740992)then 5 else if Val.textZ s≠0 then Val.textZ s else Val.keysZ none ks:=by rw[Val.nodeZ]
 rcases azk (Val.shapedB k n s is.length ks.length)with hs|hs
 ·rw[hs];rw[if_neg (by rw[hs];simp)]at hZ;have hc:(k=2∧¬(-9007199254740992≤n∧n≤9007199254740992))∨(k=2∧(-9007199254740992≤n∧n≤9007199254740992))∨k≠2:=by
   by_cases hk:k=2
   ·by_cases hn:-9007199254740992≤n∧n≤9007199254740992
    ·exact .inr (.inl ⟨hk,hn⟩)
    ·exact .inl ⟨hk,hn⟩
   ·exact .inr (.inr hk)
  rcases hc with⟨hk,hn⟩|⟨hk,hn⟩|hk
  ·have hk':(k==2)=true:=by simp[hk]
   rw[if_pos ⟨hk,hn⟩]at hZ;(refine AX.go0 (AX.ai @V_A (AX.ai @azd hk')) ?_);(refine AX.gc0 (AX.ai @V_A (AX.ai @azd hk')) ?_);refine(bx2 n _).mono ?_;rintro v h' ⟨rfl, rfl⟩;(refine AX.go0 (AX.ai @V_A (AX.ai @azd (AX.ai hn hk'))) ?_);exact⟨_, le_refl _, by rw[azi, hZ]⟩
  all_goals first
   | (have hn' := hn.1
      have hk' : (k == 2) = true := by simp [hk]
      rw [if_neg (by simp [hn])] at hZ;(refine AX.go0 (AX.ai @V_A (AX.ai @azd hk')) ?_);(refine AX.gc0 (AX.ai @V_A (AX.ai @azd hk')) ?_);refine (bx2 n _).mono ?_;rintro v h' ⟨rfl, rfl⟩
      (refine AX.go0 (AX.ai @V_A (AX.ai @azd (AX.ai hn hk'))) ?_))
   | (have hk' : (k == 2) = false := by simp [hk]
      rw [if_neg (by simp [hk])] at hZ
      (refine AX.go0 (AX.ai @V_A (AX.ai @azd hk')) ?_))
  all_goals
   refine gc0 (ai @V_A @azd) ?_;refine(cz9 s _).mono ?_;rintro v h' ⟨rfl,rfl⟩;by_cases ht:Val.textZ s=0
   ·rw[if_neg (by simp[ht])]at hZ;rw[ht];refine go0 (ai @V_A @azd) ?_;refine azf (fun m ts h=>h=⟨[.cells 40 (V.mk k n s is ks).cells],[]⟩∧∃(i:Nat),m=ks.length-i∧i≤ks.length∧Val.keysZ (if i=0 then none else ks[i-1]?) (ks.drop i)=Val.keysZ none ks∧ts 1=.ptr 0 0∧ts 4=.int .i64 i) ks.length ?_ ?_
    ·refine⟨rfl,0,rfl,Zz _,rfl,?_⟩;(exact azq ti)
    ·rintro m ts h ⟨rfl,i,rfl,hi,heq,t1,t4⟩;by_cases hlt:i<ks.length
     ·have hlt':(i:Int)<((strsA ks).length:Int):=by rw[aze];omega
      have ee:=azv ks i hlt;have ei:IntKind.i64.wrap ((i:Int)+1)=(i:Int)+1:=wrap64 (by omega) (by omega);rw[Zr hlt,Val.keysZ]at heq;refine go0 (ai @azd (ai t1 (ai t4 (ai hlt' (ai ee ei))))) ?_;refine gc0 (ai @azd (ai t1 (ai t4 (ai hlt' (ai ee ei))))) ?_;refine(cz9 ks[i] _).mono ?_;rintro v h' ⟨rfl,rfl⟩;by_cases ht2:Val.textZ ks[i]=0
      ·rw[if_neg (by simp[ht2])]at heq;rw[ht2];refine go0 (ai @azd (ai t1 (ai t4 (ai hlt' (ai ee ei))))) ?_;refine ak3 (by decide) ?_;cases i with
       |zero=>
        have h0:¬((0:Nat):Int)>0:=by omega
        simp only[Nat.reduceAdd,if_true,Val.badB,Zi,if_false]at heq;refine go0 (ai @azd (ai t1 (ai t4 (ai hlt' (ai ee (ai ei h0)))))) ?_;refine⟨ks.length-1,by omega,rfl,1,rfl,by omega,?_,?_⟩
        ·rw[←heq];simp[hlt]
        ·(exact azq (ai t1 (ai t4 ei)))
       |succ j=>
        have h0:((j+1:Nat):Int)>0:=by omega
        have ej:IntKind.i64.wrap (((j+1:Nat):Int)-1)=(j:Int):=by rw[wrap64 (by omega) (by omega)];omega
        have ee2:=azv ks j (by omega);have hj':(j:Int)<((strsA ks).length:Int):=by omega
        have hkj:ks[j+1-1]?=some (ks[j]'(by omega)):=Zn (by omega);rw[show(if j+1=0 then none else ks[j+1-1]?)=some (ks[j]'(by omega))from by rw[if_neg (by omega)];exact hkj]at heq;simp only[Val.badB]at heq;rcases azk (Op.bytesLess (ks[j]'(by omega)) ks[j+1])with hb|hb
        ·simp only[hb,ZP,ZL,Zi,if_false,if_true]at heq;refine go0 (ai @azd (ai t1 (ai t4 (ai hlt' (ai ee (ai ee2 (ai ei (ai ej (ai h0 (ai hj' hb)))))))))) ?_;refine⟨ks.length-(j+1+1),by omega,rfl,j+1+1,rfl,by omega,?_,?_⟩
         ·rw[←heq];simp[hlt]
         ·(exact azq (ai t1 (ai t4 ei)))
        ·simp only[hb,ZP,ZL,Zi,if_false,if_true]at heq;refine go0 (ai @azd (ai t1 (ai t4 (ai hlt' (ai ee (ai ee2 (ai ei (ai ej (ai h0 (ai hj' hb)))))))))) ?_;exact⟨_,le_refl _,by rw[azi,hZ,←heq]⟩
      ·have ht3:(Val.textZ ks[i]!=0)=true:=by simp[ht2]
       rw[if_pos (by simp[ht2])]at heq;refine go0 (ai @azd (ai t1 (ai t4 (ai hlt' (ai ee (ai ei ht3)))))) ?_;exact⟨_,le_refl _,by rw[azi,hZ,←heq]⟩
     ·have hlt':¬(i:Int)<((strsA ks).length:Int):=by rw[aze];omega
      refine go0 (ai @azd (ai t1 (ai t4 hlt'))) ?_;refine⟨_,le_refl _,?_⟩;rw[azi,hZ,←heq,ZG (by omega)];cases(if i=0 then none else ks[i-1]?)<;>rfl
   ·have ht':(Val.textZ s !=0)=true:=by simp[ht]
    rw[if_pos (by simp[ht])]at hZ;refine go0 (ai @V_A (ai @azd ht')) ?_;exact⟨_,le_refl _,by rw[azi,hZ]⟩
 ·rw[hs];refine go0 (ai @V_A @azd) ?_;exact⟨_,le_refl _,by rw[azi,hZ,if_pos hs]⟩
theorem cws:∀(v:V) (lv b:Nat),v.lens→AC 186 [v.A,.int .i64 lv,.int .i64 b] ⟨[],[]⟩ fun r _=>r=.tup [.int .i64 (Val.chk v lv b).1,.int .i64 (Val.chk v lv b).2]:=by
 refine V.induct fun k n s is ks ih=>?_
 intro lv b hlen;refine fo ?_;obtain⟨hil,hkl,_,hmem⟩:=V.lens_mk hlen;by_cases h1:(lv:Int)>32
 ·refine go0 (ai @V_A (ai @azd h1)) ?_;exact⟨_,le_refl _,by rw[aqa,Val.chk,if_pos (by omega)]⟩
 by_cases h2:(b:Int)≥4096
 ·refine go0 (ai @V_A (ai @azd (ai h1 h2))) ?_;exact⟨_,le_refl _,by rw[aqa,Val.chk,if_neg (by omega),if_pos (by omega)]⟩
 refine go0 (ai @V_A (ai @azd (ai h1 h2))) ?_;refine gc0 (ai @V_A (ai @azd (ai h1 h2))) ?_;refine(ck3 k n s is ks hlen _).mono ?_;rintro v h' ⟨rfl,rfl⟩;by_cases hn:Val.nodeZ (.mk k n s is ks)=0
 ·rw[hn];have eb:IntKind.i64.wrap ((b:Int)+1)=((b+1:Nat):Int):=by rw[wrap64 (by omega) (by omega)];omega
  have elv:IntKind.i64.wrap ((lv:Int)+1)=((lv+1:Nat):Int):=by rw[wrap64 (by omega) (by omega)];omega
  refine go0 (ai @V_A (ai @azd (ai h1 (ai h2 eb)))) ?_;have hC:Val.chk (.mk k n s is ks) lv b=Val.chks is (lv+1) (b+1):=by rw[Val.chk,if_neg (by omega),if_neg (by omega),if_neg (by simp[hn])]
  refine azf (fun m ts h=>h=⟨[.cells 40 (V.mk k n s is ks).cells],[]⟩∧∃(i q:Nat),m=is.length-i∧i≤is.length∧Val.chks (is.drop i) (lv+1) q=Val.chks is (lv+1) (b+1)∧ts 1=.int .i64 lv∧ts 3=.ptr 0 0∧ts 9=.int .i64 q∧ts 10=.int .i64 i) is.length ?_ ?_
  ·refine⟨rfl,0,b+1,rfl,Zz _,rfl,?_⟩;(exact azq ti)
  ·rintro m ts h ⟨rfl,i,q,rfl,hi,heq,t1,t3,t9,t10⟩;by_cases hlt:i<is.length
   ·have hlt':(i:Int)<((V.cellss is).length:Int):=by rw[V.cellss_length];omega
    have ei:IntKind.i64.wrap ((i:Int)+1)=(i:Int)+1:=wrap64 (by omega) (by omega);have ee:=V.cellss_get is i hlt;have hcall:=ih is[i] (Zt hlt) (lv+1) q (hmem _ (Zt hlt));rw[Zr hlt,czs]at heq;obtain⟨⟨k',n',s',is',ks'⟩,hv⟩:=Ex (is[i]);rw[hv]at ee hcall heq;refine go0 (ai @azd (ai t1 (ai t3 (ai t9 (ai t10 (ai hlt' (ai ee (ai elv ei)))))))) ?_;refine gc0 (ai @azd (ai t1 (ai t3 (ai t9 (ai t10 elv))))) ?_;refine(pcall hcall rfl (by simp[V.A,V.cells,A.pure,A.data]) _).mono ?_;rintro v h' ⟨rfl,rfl⟩;by_cases hz:(Val.chk (.mk k' n' s' is' ks') (lv+1) q).1=0
    ·rw[if_neg (by simp[hz])]at heq;rw[hz];refine go0 (ai @azd (ai t1 (ai t3 (ai t9 (ai t10 (ai hlt' (ai ee (ai elv ei)))))))) ?_;refine⟨is.length-(i+1),by omega,rfl,i+1,_,rfl,by omega,heq,?_⟩;(exact azq (ai t1 (ai t3 (ai t9 (ai t10 ei)))))
    ·have hz':((Val.chk (.mk k' n' s' is' ks') (lv+1) q).1 !=0)=true:=by simp[hz]
     rw[if_pos (by simp[hz])]at heq;refine go0 (ai @azd (ai t1 (ai t3 (ai t9 (ai t10 (ai hlt' (ai ee (ai elv (ai ei hz'))))))))) ?_;exact⟨_,le_refl _,by rw[aqa,hC,←heq]⟩
   ·have hlt':¬(i:Int)<((V.cellss is).length:Int):=by rw[V.cellss_length];omega
    refine go0 (ai @azd (ai t1 (ai t3 (ai t9 (ai t10 hlt'))))) ?_;refine⟨_,le_refl _,?_⟩;rw[aqa,hC,←heq,ZG (by omega),cjc]
 ·have hn':(Val.nodeZ (.mk k n s is ks)!=0)=true:=by simp[hn]
  refine go0 (ai @V_A (ai @azd (ai h1 (ai h2 hn')))) ?_;exact⟨_,le_refl _,by rw[aqa,Val.chk,if_neg (by omega),if_neg (by omega),if_pos (by simp[hn])]⟩
theorem ake(v:V)(hlen:v.lens)(h:Hp):AT 159 [v.A] h (.int .i64 (Val.checkZ v)):=by
 have ht:AC 186 [v.A,.int .i64 1,.int .i64 0] ⟨[],[]⟩ fun r _=>r=.tup [.int .i64 (Val.chk v 1 0).1,.int .i64 (Val.chk v 1 0).2]:=cws v 1 0 hlen
 obtain⟨k,n,s,is,ks⟩:=v;refine pcall ?_ rfl (by simp[V.A,V.cells,A.pure,A.data]) h;refine fo ?_;refine go0 (ai @V_A @azd) ?_;refine gc0 (ai @V_A @azd) ?_;refine(pcall ht rfl (by simp[V.A,V.cells,A.pure,A.data]) _).mono ?_;rintro v h' ⟨rfl,rfl⟩;refine go0 (ai @V_A @azd) ?_;exact Fn rfl
theorem bqw{k n:Int}{s:List UInt8}{is:List V}{ks:List (List UInt8)}(h:Val.shapedB k n s is.length ks.length=true):(k≠3→s=[])∧(k≠5→ks=[]):=by
 unfold Val.shapedB at h;simp only[Zc,ZS,Zm,ZA]at h;obtain⟨⟨⟨⟨_,_⟩,h1⟩,_⟩,h2⟩:=h;refine⟨fun hk=>?_,fun hk=>?_⟩
 ·rcases h1 with h1|h1
  ·exact absurd h1 hk
  ·exact h1
 ·rw[if_neg hk]at h2;exact Z4 (by simpa using h2)
theorem ckr(k n:Int)(s:List UInt8)(is:List V)(ks:List (List UInt8))(hlen:(V.mk k n s is ks).lens)(h:Hp):AT 132 [(V.mk k n s is ks).A] h (.int .i64 (Val.nodeZ (.mk k n s is ks))):=by
 refine pcall ?_ rfl (by simp[V.A,V.cells,A.pure,A.data]) h;obtain⟨hil,hkl,_,_⟩:=V.lens_mk hlen;refine fo ?_;refine go0 (ai @V_A @azd) ?_;refine gc0 (ai @V_A @azd) ?_;refine(cxe k n s .no .no 5 1 _ _ _).mono ?_;rintro v h' ⟨rfl,rfl⟩;rw[V.cellss_length,aze];rcases azk (Val.shapedB k n s is.length ks.length)with hs|hs
 ·rw[hs];obtain⟨hs3,hs5⟩:=bqw hs;have hZ:Val.nodeZ (.mk k n s is ks)=if k=2∧¬(-9007199254740992≤n∧n≤9007199254740992)then 5 else if Val.textZ s≠0 then Val.textZ s else Val.keysZ none ks:=by rw[Val.nodeZ,if_neg (by rw[hs];simp)]
  have ht0:Val.textZ []=0:=by decide
  have hk0:Val.keysZ none []=0:=rfl;by_cases h2:k=2
  ·have e2:(k==2)=true:=by simp[h2]
   obtain rfl:s=[]:=hs3 (by omega);obtain rfl:ks=[]:=hs5 (by omega);refine go0 (ai @V_A (ai @azd e2)) ?_;refine gc0 (ai @V_A (ai @azd e2)) ?_;refine(cvt n _).mono ?_;rintro v h' ⟨rfl,rfl⟩;by_cases hn:-9007199254740992≤n∧n≤9007199254740992
   ·refine go0 (ai @V_A (ai @azd (ai e2 hn))) ?_;exact⟨_,le_refl _,by rw[azi,hZ,if_neg (by simp[hn]),ht0];simp[hk0]⟩
   ·refine go0 (ai @V_A (ai @azd (ai e2 hn))) ?_;exact⟨_,le_refl _,by rw[azi,hZ,if_pos ⟨h2,hn⟩]⟩
  have e2:(k==2)=false:=by simp[h2]
  rw[if_neg (by simp[h2])]at hZ;by_cases h3:k=3
  ·have e3:(k==3)=true:=by simp[h3]
   obtain rfl:ks=[]:=hs5 (by omega);refine go0 (ai @V_A (ai @azd (ai e2 e3))) ?_;refine gc0 (ai @V_A (ai @azd (ai e2 e3))) ?_;refine(bjb s _).mono ?_;rintro v h' ⟨rfl,rfl⟩;refine go0 (ai @V_A (ai @azd (ai e2 e3))) ?_
   exact⟨_,le_refl _,by
    rw[azi,hZ];split
    ·rfl
    ·next h=>rw[hk0];simp at h;rw[h]⟩
  have e3:(k==3)=false:=by simp[h3]
  obtain rfl:s=[]:=hs3 h3;rw[ht0,if_neg (by simp)]at hZ;by_cases h5:k=5
  ·have e5:(k==5)=true:=by simp[h5]
   refine go0 (ai @V_A (ai @azd (ai e2 (ai e3 e5)))) ?_;refine azf (fun m ts h=>h=⟨[.cells 40 (V.mk k n [] is ks).cells],[]⟩∧∃(i:Nat),m=ks.length-i∧i≤ks.length∧Val.keysZ (if i=0 then none else ks[i-1]?) (ks.drop i)=Val.keysZ none ks∧ts 1=.ptr 0 0∧ts 25=.sl 1 .no (strsA ks)∧ts 26=.int .i64 ks.length∧ts 27=.int .i64 i) ks.length ?_ ?_
   ·refine⟨rfl,0,rfl,Zz _,rfl,?_⟩;(exact azq @aze)
   ·rintro m ts h ⟨rfl,i,rfl,hi,heq,t1,t25,t26,t27⟩;by_cases hlt:i<ks.length
    ·have hlt2:(i:Int)<(ks.length:Int):=by omega
     have hlt':(i:Int)<((strsA ks).length:Int):=by rw[aze];omega
     have ee:=azv ks i hlt;have ei:IntKind.i64.wrap ((i:Int)+1)=(i:Int)+1:=wrap64 (by omega) (by omega);rw[Zr hlt,Val.keysZ]at heq;refine go0 (ai @azd (ai t1 (ai t25 (ai t26 (ai t27 (ai hlt' (ai hlt2 (ai ee ei)))))))) ?_;refine gc0 (ai @azd (ai t1 (ai t25 (ai t26 (ai t27 (ai hlt' (ai ee ei))))))) ?_;refine(bjb ks[i] _).mono ?_;rintro v h' ⟨rfl,rfl⟩;by_cases ht2:Val.textZ ks[i]=0
     ·rw[if_neg (by simp[ht2])]at heq;rw[ht2];cases i with
      |zero=>
       have h0:¬((0:Nat):Int)>0:=by omega
       simp only[Nat.reduceAdd,if_true,Val.badB,Zi,if_false]at heq;refine go0 (ai @azd (ai t1 (ai t25 (ai t26 (ai t27 (ai hlt' (ai hlt2 (ai ee (ai ei h0))))))))) ?_;refine⟨ks.length-1,by omega,rfl,1,rfl,by omega,?_,?_⟩
       ·rw[←heq];simp[hlt]
       ·(exact azq (ai t1 (ai t25 (ai t26 (ai t27 ei)))))
      |succ j=>
       have h0:((j+1:Nat):Int)>0:=by omega
       have ej:IntKind.i64.wrap (((j+1:Nat):Int)-1)=(j:Int):=by rw[wrap64 (by omega) (by omega)];omega
       have ee2:=azv ks j (by omega);have hj':(j:Int)<((strsA ks).length:Int):=by omega
       have hkj:ks[j+1-1]?=some (ks[j]'(by omega)):=Zn (by omega);rw[show(if j+1=0 then none else ks[j+1-1]?)=some (ks[j]'(by omega))from by rw[if_neg (by omega)];exact hkj]at heq;simp only[Val.badB,Val.less_total]at heq;rcases azk (Op.bytesLess ks[j+1] (ks[j]'(by omega))||ks[j+1]==(ks[j]'(by omega)))with hb|hb
       ·simp only[hb,ZP,ZL,Zi,if_false,if_true]at heq;refine go0 (ai @azd (ai t1 (ai t25 (ai t26 (ai t27 (ai hlt' (ai hlt2 (ai ee (ai ee2 (ai ei (ai ej (ai h0 (ai hj' hb))))))))))))) ?_;exact⟨_,le_refl _,by rw[azi,hZ,←heq]⟩
       ·simp only[hb,ZP,ZL,Zi,if_false,if_true]at heq;refine go0 (ai @azd (ai t1 (ai t25 (ai t26 (ai t27 (ai hlt' (ai hlt2 (ai ee (ai ee2 (ai ei (ai ej (ai h0 (ai hj' hb))))))))))))) ?_;refine⟨ks.length-(j+1+1),by omega,rfl,j+1+1,rfl,by omega,?_,?_⟩
        ·rw[←heq];simp[hlt]
        ·(exact azq (ai t1 (ai t25 (ai t26 (ai t27 ei)))))
     ·have ht3:(Val.textZ ks[i]!=0)=true:=by simp[ht2]
      rw[if_pos (by simp[ht2])]at heq;refine go0 (ai @azd (ai t1 (ai t25 (ai t26 (ai t27 (ai hlt' (ai hlt2 (ai ee (ai ei ht3))))))))) ?_;exact⟨_,le_refl _,by rw[azi,hZ,←heq]⟩
    ·have hlt2:¬(i:Int)<(ks.length:Int):=by omega
     refine go0 (ai @azd (ai t1 (ai t25 (ai t26 (ai t27 hlt2))))) ?_;refine⟨_,le_refl _,?_⟩;rw[azi,hZ,←heq,ZG (by omega)];cases(if i=0 then none else ks[i-1]?)<;>rfl
  have e5:(k==5)=false:=by simp[h5]
  obtain rfl:ks=[]:=hs5 h5;refine go0 (ai @V_A (ai @azd (ai e2 (ai e3 e5)))) ?_;exact⟨_,le_refl _,by rw[azi,hZ,hk0]⟩
 ·rw[hs];refine go0 (ai @V_A @azd) ?_;exact⟨_,le_refl _,by rw[azi,Val.nodeZ,if_pos hs]⟩
theorem czy(lv b:Nat):Val.chks [] lv b=(0,b):=by rw[Val.chks]
theorem bkw(v:V)(l:List V)(lv b:Nat):Val.chks (v::l) lv b=if(Val.chk v lv b).1≠0 then Val.chk v lv b else Val.chks l lv (Val.chk v lv b).2:=by rw[Val.chks]
def cntB(b:Nat):Blk:=.cells 3 [.int .i64 b]
def visB:Blk:=.cells 202 [.fn 131 [.ptr 1 0,.ptr 2 0]]
theorem akv{l m:List Blk}{i:Nat}{x:Blk}(h:l[i]?=some x):(l++m)[i]?=some x:=by
 rw[ZO (Zd.1 h).1];exact h
theorem cwk(l:List Blk)(x y:Blk):(l++[x]).set l.length y=l++[y]:=by
 rw[List.set_append_right _ _ (Zf _)];simp
theorem cku:∀(v:V) (lv b:Nat) (h:Hp),v.lens→h.b[1]?=some (cntB b)→h.b[2]?=some visB→AC 131 [v.A,.int .i64 lv,.ptr 1 0,.ptr 2 0] h fun r h'=>r=.int .i64 (Val.chk v lv b).1∧((Val.chk v lv b).1=0→h'.b[1]?=some (cntB (Val.chk v lv b).2)∧h'.b[2]?=some visB):=by
 refine V.induct fun k n s is ks ih=>?_
 intro lv b h hlen hb1 hb2;refine fo ?_;obtain⟨hil,hkl,_,hmem⟩:=V.lens_mk hlen;have hbl:2<h.b.length:=(Zd.1 hb2).1;have g1:∀m,(h.b++m)[1]?=some (.cells 3 [.int .i64 b]):=fun m=>akv hb1
 have g2:∀m,(h.b++m)[2]?=some visB:=fun m=>akv hb2
 have hC:¬(lv:Int)>32→¬(b:Int)≥4096→Val.chk (.mk k n s is ks) lv b=if Val.nodeZ (.mk k n s is ks)≠0 then(Val.nodeZ (.mk k n s is ks),b)else Val.chks is (lv+1) (b+1):=fun h1 h2=>by rw[Val.chk,if_neg (by omega),if_neg (by omega)]
 by_cases h1:(lv:Int)>32
 ·have hC1:Val.chk (.mk k n s is ks) lv b=(4,b):=by rw[Val.chk,if_pos (by omega)]
  refine go0 (ai @V_A (ai @azd h1)) ?_;exact⟨_,le_refl _,by rw[azi,hC1],fun e=>by rw[hC1]at e;simp at e⟩
 by_cases h2:(b:Int)≥4096
 ·have hC1:Val.chk (.mk k n s is ks) lv b=(14,b):=by rw[Val.chk,if_neg (by omega),if_pos (by omega)]
  refine go0 (ai @V_A (ai @azd (ai h1 (ai h2 (ai g1 g2))))) ?_;exact⟨_,le_refl _,by rw[azi,hC1],fun e=>by rw[hC1]at e;simp at e⟩
 have eb:IntKind.i64.wrap ((b:Int)+1)=((b+1:Nat):Int):=by rw[wrap64 (by omega) (by omega)];omega
 have hne1:¬(1=h.b.length):=by omega
 have hle1:1≤1:=by omega
 refine go0 (ai @V_A (ai @azd (ai h1 (ai h2 (ai g1 (ai g2 (ai eb (ai (@Zs AX.Blk) hne1)))))))) ?_;refine gc0 (ai @V_A (ai @azd (ai h1 h2))) ?_;refine(ckr k n s is ks hlen _).mono ?_;rintro v h' ⟨rfl,rfl⟩;have hC':=hC h1 h2;by_cases hn:Val.nodeZ (.mk k n s is ks)=0
 ·rw[hn];rw[if_neg (by simp[hn])]at hC';have elv:IntKind.i64.wrap ((lv:Int)+1)=((lv+1:Nat):Int):=by rw[wrap64 (by omega) (by omega)];omega
  refine go0 (ai @V_A (ai @azd (ai h1 (ai h2 (ai (@Zs AX.Blk) hne1))))) ?_;refine azf (fun m ts hh=>∃(i q:Nat),m=is.length-i∧i≤is.length∧Val.chks (is.drop i) (lv+1) q=Val.chks is (lv+1) (b+1)∧hh.b[1]?=some (cntB q)∧hh.b[2]?=some visB∧ts 1=.int .i64 lv∧ts 3=.ptr 2 0∧ts 23=.sl 5 .no (V.cellss is)∧ts 24=.int .i64 is.length∧ts 25=.int .i64 i) is.length ?_ ?_
  ·refine⟨0,b+1,rfl,Zz _,rfl,?_,?_,?_⟩
   ·show(List.set _ 1 _)[1]?=_
    rw[Zs,if_pos rfl,if_pos (by simp;omega)];rfl
   ·show(List.set _ 1 _)[2]?=_
    rw[Zs,if_neg (by omega)];exact g2 _
   ·(exact azq @V.cellss_length)
  ·rintro m ts hh ⟨i,q,rfl,hi,heq,p1,p2,t1,t3,t23,t24,t25⟩;by_cases hlt:i<is.length
   ·have hlt2:(i:Int)<(is.length:Int):=by omega
    have hlt':(i:Int)<((V.cellss is).length:Int):=by rw[V.cellss_length];omega
    have ei:IntKind.i64.wrap ((i:Int)+1)=(i:Int)+1:=wrap64 (by omega) (by omega);have ee:=V.cellss_get is i hlt;have hcall:=fun(h:Hp)=>ih is[i] (Zt hlt) (lv+1) q h (hmem _ (Zt hlt))
    rw[Zr hlt,bkw]at heq;obtain⟨⟨k',n',s',is',ks'⟩,hv⟩:=Ex (is[i]);rw[hv]at ee hcall heq;have q2:∀m,(hh.b++m)[2]?=some (.cells 202 [.fn 131 [.ptr 1 0,.ptr 2 0]]):=fun m=>akv p2
    refine go0 (ai @azd (ai t1 (ai t3 (ai t23 (ai t24 (ai t25 (ai hlt' (ai hlt2 (ai ee (ai elv (ai ei (ai @cwk q2)))))))))))) ?_;refine gc0 (ai @azd (ai t1 (ai t3 (ai t23 (ai t24 (ai t25 elv)))))) ?_;refine(hcall _ (akv p1) (akv p2)).mono ?_;rintro v h' ⟨rfl,hcnt⟩;by_cases hz:(Val.chk (.mk k' n' s' is' ks') (lv+1) q).1=0
    ·rw[if_neg (by simp[hz])]at heq;rw[hz];obtain⟨r1,r2⟩:=hcnt hz;refine go0 (ai @azd (ai t1 (ai t3 (ai t23 (ai t24 (ai t25 ei)))))) ?_;refine⟨is.length-(i+1),by omega,i+1,_,rfl,by omega,heq,r1,r2,?_⟩;(exact azq (ai t1 (ai t3 (ai t23 (ai t24 (ai t25 ei))))))
    ·have hz':((Val.chk (.mk k' n' s' is' ks') (lv+1) q).1 !=0)=true:=by simp[hz]
     rw[if_pos (by simp[hz])]at heq;refine go0 (ai @azd (ai t1 (ai t3 (ai t23 (ai t24 (ai t25 (ai ei hz'))))))) ?_;exact⟨_,le_refl _,by rw[azi,hC',←heq],fun e=>by rw[hC',←heq]at e;exact absurd e hz⟩
   ·have hlt2:¬(i:Int)<(is.length:Int):=by omega
    rw[ZG (by omega),czy]at heq;refine go0 (ai @azd (ai t1 (ai t3 (ai t23 (ai t24 (ai t25 hlt2)))))) ?_;exact⟨_,le_refl _,by rw[azi,hC',←heq],fun _=>by rw[hC',←heq];exact⟨p1,p2⟩⟩
 ·have hn':(Val.nodeZ (.mk k n s is ks)!=0)=true:=by simp[hn]
  rw[if_pos (by simp[hn])]at hC';refine go0 (ai @V_A (ai @azd (ai h1 (ai h2 hn')))) ?_;exact⟨_,le_refl _,by rw[azi,hC'],fun e=>by rw[hC']at e;exact absurd e hn⟩
theorem akg(v:V)(hlen:v.lens)(h:Hp):AT 92 [v.A] h (.int .i64 (Val.checkZ v)):=by
 have ht:∀h:Hp,h.b[1]?=some (cntB 0)→h.b[2]?=some visB→AC 131 [v.A,.int .i64 1,.ptr 1 0,.ptr 2 0] h fun r h'=>r=.int .i64 (Val.chk v 1 0).1∧((Val.chk v 1 0).1=0→h'.b[1]?=some (cntB (Val.chk v 1 0).2)∧h'.b[2]?=some visB):=fun h=>cku v 1 0 h hlen
 obtain⟨k,n,s,is,ks⟩:=v;refine pcall ?_ rfl (by simp[V.A,V.cells,A.pure,A.data]) h;refine fo ?_;refine go0 (ai @V_A @azd) ?_;refine gc0 (ai @V_A @azd) ?_;refine(ht _ rfl rfl).mono ?_;rintro v h' ⟨rfl,_⟩;refine go0 (ai @V_A @azd) ?_;exact Fn rfl
theorem bvx:∀{l l':List V},Val.eqBs l l'=true→l.length=l'.length
 |[],[],_=>rfl
 |[],_::_,h=>by simp[Val.eqBs]at h
 |_::_,[],h=>by simp[Val.eqBs]at h
 |v::l,v'::l',h=>by
  rw[Val.eqBs,Zc]at h;simp[bvx h.2]
def WP(i:Nat)(ver:Int)(l:List UInt8)(h h':Hp):Prop:=Wt h' i ver l∧h'.t=h.t∧∀j x,j≠i→h.b[j]?=some x→h'.b[j]?=some x
theorem WP.of{h:Hp}{i:Nat}{ver:Int}{l l':List UInt8}(hw:Wt h i ver l):WP i ver l' h ⟨h.b.set i (wtr ver l'),h.t⟩:=by
 refine⟨.inl ?_,rfl,fun j x hj hx=>?_⟩
 ·show(List.set _ i _)[i]?=_
  rw[Zs,if_pos rfl,if_pos hw.lt]
 ·show(List.set _ i _)[j]?=_
  rw[Zs,if_neg (Ne.symm hj)];exact hx
theorem WP.tr{i:Nat}{ver:Int}{l l':List UInt8}{h h' h'':Hp}(a:WP i ver l h h')(b:WP i ver l' h' h''):WP i ver l' h h'':=
 ⟨b.1,b.2.1.trans a.2.1,fun j x hj hx=>b.2.2 j x hj (a.2.2 j x hj hx)⟩
theorem akf{l m:List Blk}{i:Nat}{x:Blk}(h:l[i]?=some x):(l++m)[i]?=some x:=by
 rw[ZO (Zd.1 h).1];exact h
theorem bkk(l:List Blk)(x y:Blk):(l++[x]).set l.length y=l++[y]:=by
 rw[List.set_append_right _ _ (Zf _)];simp
theorem Wt.app{b:List Blk}{t:_}{i:Nat}{ver:Int}{l:List UInt8}(hw:Wt ⟨b,t⟩ i ver l)(m:List Blk):Wt ⟨b++m,t⟩ i ver l:=by
 rcases hw with h|⟨h0,h⟩
 ·exact .inl (akf h)
 ·exact .inr ⟨h0,akf h⟩
theorem WP.app{b:List Blk}{t:_}{m:List Blk}{h':Hp}{i:Nat}{ver:Int}{l:List UInt8}(hp:WP i ver l ⟨b++m,t⟩ h'):WP i ver l ⟨b,t⟩ h':=
 ⟨hp.1,hp.2.1,fun j x hj hx=>hp.2.2 j x hj (akf hx)⟩
theorem num_len(n:Int):(Wire.num n).length≤10:=(Wire.encF_len 9 (Wire.zig n)).2
theorem bxr{h:Hp}{i:Nat}{ver:Int}{l:List UInt8}(hw:Wt h i ver l)(n:Int)(hlen:l.length+10≤1000000000)(h0:-9223372036854775808≤n)(h1:n≤9223372036854775807):
  AC 134 [.ptr i 0,.int .i64 n] h fun u h'=>u=.tup []∧WP i ver (l++Wire.num n) h h':=by
 have hn:=num_len n;refine fo ?_;refine cjh _ _ ⟨h.b.set i (wtr ver (l++Wire.num n)),h.t⟩ (.tup [.int .i64 (Wire.num n).length,.nili]) (List.dropLast_concat_getLast (l:=_::_) (by simp)).symm (by decide) ?_;dsimp only[List.dropLast,List.getLast];refine go0 ti ?_;refine byu (vs:=[.str [],.int .i64 n]) (r:=.str (Wire.num n)) (by(exact ev0 ti)) ?_ ?_
 ·refine(aqo [] n (by simp) h0 h1 _).mono ?_;rintro v h' ⟨rfl,rfl⟩;exact⟨by simp,rfl⟩
 refine ckn ⟨?_,?_⟩
 ·show ACall _ _ _ _ _ _
  simp only[aql,az5,az6,aj7,avd,az4,aq9,aq7,aq6,azi,aqa,astep,bop,uop,loadA,storeA,appA,ssliceA,eqA,eqCells,fillA,rowsA,setCells,A.cells,A.one,A.data,azy,ZC,Yt,ZY,Zx,ZR,YA,YH,YO,ZZ,Yo,ZW,Ym,ZN,ZH,ZM,ZF,Zh,Zy,Zk,Zo,ZB,Yf,Yu,Yv,ZU,Z3,Yk,YY,Za,Yl,Nat.reduceAdd,Nat.reduceSub,Nat.reduceMul,Nat.reduceLeDiff,Nat.reduceEqDiff,Nat.reduceBEq,Yb,YI,if_true,if_false,reduceIte,ite_true,ite_false,true_and,and_true,ne_eq,Yh,Ys,Zi,reduceCtorEq,and_self,YD,Yg,Zf,ZP,ZL,decide_true,decide_false];exact bjs hw _ (by omega)
 ·exact by1 rfl ⟨_,le_refl _,rfl,WP.of hw⟩
theorem bjm{h:Hp}{i:Nat}{ver:Int}{l:List UInt8}(hw:Wt h i ver l)(s:List UInt8)(hlen:l.length+s.length+10≤1000000000):
  AC 135 [.ptr i 0,.str s] h fun u h'=>u=.tup []∧WP i ver (l++Wire.strE s) h h':=by
 have hn:=num_len s.length;refine fo ?_;refine go0 ti ?_;refine gc0 ti ?_;refine(bxr hw s.length (by omega) (by omega) (by omega)).mono ?_;rintro v h' ⟨-,hp⟩;refine go0 ti ?_;refine gc0 ti ?_;refine(bjs hp.1 s (by rw[Za];omega)).mono ?_;rintro v h' ⟨rfl,rfl⟩;refine ckj (by1 rfl ⟨_,le_refl _,rfl,?_⟩);rw[Wire.strE,←Zg];exact hp.tr (WP.of hp.1)
theorem bx0(m:Bool)(is:List V)(ks:List (List UInt8))(j:Nat)(hj:j<is.length):(Val.encs m (is.take j) ks).length+(Val.keyE m (ks.drop j)).length+(Val.enc is[j]).length≤(Val.encs m is ks).length:=by
 have key:∀d,j+1+d≤is.length→(Val.encs m (is.take (j+1)) ks).length≤(Val.encs m (is.take (j+1+d)) ks).length:=by
  intro d;induction d with
  |zero=>intro _;exact Zf _
  |succ d ihd=>
   intro hd;have h1:=Val.encs_take m is ks (j+1+d) (by omega);have h2:=ihd (by omega);have h3:(Val.encs m (is.take (j+1+(d+1))) ks).length=_:=congrArg List.length h1;rw[Za]at h3;omega
 have h1:=Val.encs_take m is ks j hj;have h2:=key (is.length-(j+1)) (by omega);rw[show j+1+(is.length-(j+1))=is.length by omega,Yj,h1,Za,Za]at h2;omega
theorem czu:∀(v:V) (i:Nat) (ver:Int) (l:List UInt8) (h:Hp),Wt h i ver l→(∃lv b,(Val.chk v lv b).1=0)→l.length+(Val.enc v).length+10≤1000000000→v.lens→AC 96 [.ptr i 0,v.A] h fun u h'=>u=.tup []∧WP i ver (l++Val.enc v) h h':=by
 refine V.induct fun k n s is ks ih=>?_
 rintro i ver l ⟨hb,ht⟩ hw ⟨lv,b,hchk⟩ hlen hlens;refine fo ?_;obtain⟨hil,hkl,_,hmem⟩:=V.lens_mk hlens;obtain⟨_,_,hz,hcs⟩:=Val.chk_parts hchk;obtain⟨hsh,hn2,hts,hks⟩:=Val.shaped_of hz;have hs:=Val.text_len hts;have hkk:=Val.keys_len ks none hks;unfold Val.shapedB at hsh;simp only[Zc,ZS,Zm,ZA]at hsh;obtain⟨⟨⟨⟨⟨hk0,hk6⟩,hnn⟩,_⟩,_⟩,hkn⟩:=hsh;have hne:¬(i=hb.length):=by have:=hw.lt;simp at this;omega
 have hE:Val.enc (.mk k n s is ks)=Wire.num k++(if k=1∨k=2 then Wire.num n else if k=3 then Wire.strE s else if k=4∨k=5 then Wire.num is.length++Val.encs (k==5) is ks else[]):=by rw[Val.enc]
 rw[hE]at hlen⊢;simp only[Za]at hlen;refine go0 (ai @V_A @azd) ?_;refine gc0 (ai @V_A @azd) ?_;refine(bxr (hw.app _) k (by omega) (by omega) (by omega)).mono ?_;rintro v0 h1 ⟨-,hp1⟩;have g1:h1.b[hb.length]?=some (.cells 40 (V.mk k n s is ks).cells):=hp1.2.2 _ _ (Ne.symm hne) ZJ;simp only[V.cells]at g1;have hlk:=num_len k;by_cases hk12:k=1∨k=2
 ·rw[if_pos hk12]at hlen⊢;have hn:-9223372036854775808≤n∧n≤9223372036854775807:=by
   rcases hk12 with rfl|rfl
   ·rcases hnn with(h|h)|h
    ·exact absurd h (by decide)
    ·omega
    ·omega
   ·have:=hn2 rfl;omega
  rcases hk12 with rfl|rfl;all_goals
   refine go0 g1 ?_;refine gc0 g1 ?_;refine(bxr hp1.1 n (by rw[Za];omega) (by omega) (by omega)).mono ?_;rintro v2 h2 ⟨-,hp2⟩;refine go0 g1 ?_;refine⟨_,le_refl _,rfl,?_⟩;rw[←Zg];exact(hp1.tr hp2).app
 rw[if_neg hk12]at hlen⊢;have e1:(k==1)=false:=by simp;omega
 have e2:(k==2)=false:=by simp;omega
 by_cases hk3:k=3
 ·rw[if_pos hk3]at hlen⊢;subst hk3;refine go0 g1 ?_;refine gc0 g1 ?_;unfold Wire.strE at hlen;rw[Za]at hlen;refine(bjm hp1.1 s (by rw[Za];omega)).mono ?_;rintro v2 h2 ⟨-,hp2⟩;refine go0 g1 ?_;refine⟨_,le_refl _,rfl,?_⟩;rw[←Zg];exact(hp1.tr hp2).app
 rw[if_neg hk3]at hlen⊢;have e3:(k==3)=false:=by simp;omega
 by_cases hk45:k=4∨k=5
 ·rw[if_pos hk45]at hlen⊢;rw[Za]at hlen;have hkl5:(k==5)=true→ks.length=is.length:=fun e=>by
   rw[if_pos (by simpa using e)]at hkn;simpa using hkn
  have hln:=num_len is.length;have step:∀(j:Nat) (hj:j<is.length),(Val.encs (k==5) (is.take j) ks).length+(Val.keyE (k==5) (ks.drop j)).length+(Val.enc is[j]).length≤(Val.encs (k==5) is ks).length:=bx0 _ _ _;have e45:(k==4)=true∨(k==4)=false∧(k==5)=true:=by
   rcases hk45 with rfl|rfl
   ·exact .inl rfl
   ·exact .inr ⟨rfl,rfl⟩
  rcases e45 with e4|⟨e4,e5⟩;all_goals
   refine go0 (ai g1 (ai e1 (ai e2 (ai e3 (ai e4 @V.cellss_length))))) ?_
   try (refine go0 (ai g1 (ai e1 (ai e2 (ai e3 (ai e4 (ai e5 @V.cellss_length)))))) ?_)
   refine gc0 g1 ?_;refine(bxr hp1.1 is.length (by rw[Za];omega) (by omega) (by omega)).mono ?_;rintro v2 h2 ⟨-,hp2⟩;have g2:=hp2.2.2 _ _ (Ne.symm hne) g1;refine go0 (ai g2 @V.cellss_length) ?_;refine azf (fun m ts hh=>∃(j:Nat),m=is.length-j∧j≤is.length∧WP i ver (l++Wire.num k++Wire.num is.length++Val.encs (k==5) (is.take j) ks) ⟨hb,ht⟩ hh∧hh.b[hb.length]?=some (.cells 40 [.int .i64 k,.int .i64 n,.str s,.sl 5 .no (V.cellss is),.sl 1 .no (strsA ks)])∧ts 0=.ptr i 0∧ts 3=.ptr hb.length 0∧ts 34=.sl 5 .no (V.cellss is)∧ts 35=.int .i64 is.length∧ts 36=.int .i64 j) is.length ?_ ?_
   ·refine⟨0,rfl,Zz _,?_,g2,?_⟩
    ·have:=(hp1.tr hp2).app;simpa [Val.encs]using this
    ·(exact azq @V.cellss_length)
   ·rintro m ts hh ⟨j,rfl,hj,hp,g3,t0,t3,t34,t35,t36⟩;by_cases hlt:j<is.length
    ·have hlt2:(j:Int)<(is.length:Int):=by omega
     have hla:(j:Int)<((V.cellss is).length:Int):=by rw[V.cellss_length];omega
     have ei:IntKind.i64.wrap ((j:Int)+1)=(j:Int)+1:=wrap64 (by omega) (by omega);have ee:=V.cellss_get is j hlt;have hst:=step j hlt;have htk:=Val.encs_take (k==5) is ks j hlt;have hcall:=fun(l':List UInt8) (h:Hp) (hw:Wt h i ver l') (hb:l'.length+(Val.enc is[j]).length+10≤1000000000)=>ih is[j] (Zt hlt) i ver l' h hw ((Val.chks_get is _ _ hcs j hlt).elim fun b' hb'=>⟨_,b',hb'⟩) hb (hmem _ (Zt hlt))
     obtain⟨⟨k',n',s',is',ks'⟩,hv⟩:=Ex (is[j]);rw[hv]at ee hcall htk hst;have hil2:hh.b.length≠i:=fun e=>by have:=hp.1.lt;omega
     have q3:∀m,(hh.b++m)[hb.length]?=some (.cells 40 [.int .i64 k,.int .i64 n,.str s,.sl 5 .no (V.cellss is),.sl 1 .no (strsA ks)]):=fun m=>akf g3
     rcases azk (k==5)with e5'|e5'
     ·have hkj:j<ks.length:=by rw[hkl5 e5'];exact hlt
      have hlk2:(j:Int)<((strsA ks).length:Int):=by rw[aze];omega
      have ek:=azv ks j hkj;have hke:Val.keyE (k==5) (ks.drop j)=Wire.strE ks[j]:=by rw[e5',Zr hkj];rfl
      rw[hke]at htk hst;have hsl:(Wire.strE ks[j]).length=(Wire.num ks[j].length).length+ks[j].length:=by unfold Wire.strE;rw[Za]
      refine go0 (ai @azd (ai t0 (ai t3 (ai t34 (ai t35 (ai t36 (ai hla (ai hlt2 (ai ee (ai ei (ai @bkk (ai q3 (ai e5' (ai hlk2 ek)))))))))))))) ?_;refine gc0 (ai t0 (ai t3 (ai t34 (ai t35 t36)))) ?_;refine(bjm (hp.1.app _) ks[j] (by simp only[Za];omega)).mono ?_;rintro v3 h3 ⟨-,hp3⟩;have g4:=hp3.2.2 _ _ (Ne.symm hne) (q3 _);have g5:=hp3.2.2 _ _ hil2 ZJ;refine go0 (ai t0 (ai t3 (ai t34 (ai t35 (ai t36 (ai g4 g5)))))) ?_;refine gc0 (ai t0 (ai t3 (ai t34 (ai t35 t36)))) ?_;refine(hcall _ _ hp3.1 (by simp only[Za];omega)).mono ?_;rintro v4 h4 ⟨-,hp4⟩;have g6:=hp4.2.2 _ _ (Ne.symm hne) g4;refine go0 (ai t0 (ai t3 (ai t34 (ai t35 (ai t36 ei))))) ?_;refine⟨is.length-(j+1),by omega,j+1,rfl,by omega,?_,g6,?_⟩
      ·rw[htk,←Zg,←Zg];exact hp.tr (hp3.tr hp4).app
      ·(exact azq (ai t0 (ai t3 (ai t34 (ai t35 (ai t36 ei))))))
     ·have hke:Val.keyE (k==5) (ks.drop j)=[]:=by rw[e5'];rfl
      rw[hke]at htk hst;refine go0 (ai @azd (ai t0 (ai t3 (ai t34 (ai t35 (ai t36 (ai hla (ai hlt2 (ai ee (ai ei (ai @bkk (ai q3 e5')))))))))))) ?_;refine gc0 (ai t0 (ai t3 (ai t34 (ai t35 t36)))) ?_;refine(hcall _ _ (hp.1.app _) (by simp only[Za];omega)).mono ?_;rintro v4 h4 ⟨-,hp4⟩;have g6:=hp4.2.2 _ _ (Ne.symm hne) (q3 _);refine go0 (ai t0 (ai t3 (ai t34 (ai t35 (ai t36 ei))))) ?_;refine⟨is.length-(j+1),by omega,j+1,rfl,by omega,?_,g6,?_⟩
      ·rw[htk,Zk,←Zg];exact hp.tr hp4.app
      ·(exact azq (ai t0 (ai t3 (ai t34 (ai t35 (ai t36 ei))))))
    ·have hlt2:¬(j:Int)<(is.length:Int):=by omega
     rw[ZD (by omega)]at hp;refine go0 (ai t0 (ai t3 (ai t34 (ai t35 (ai t36 hlt2))))) ?_;refine⟨_,le_refl _,rfl,?_⟩;rw[←Zg,←Zg];exact hp
 ·rw[if_neg hk45]at hlen⊢;rw[ZB];have e4:(k==4)=false:=by simp;omega
  have e5:(k==5)=false:=by simp;omega
  refine go0 (ai g1 (ai e1 (ai e2 (ai e3 (ai e4 e5))))) ?_;exact⟨_,le_refl _,rfl,hp1.app⟩
theorem ckk(v:V):Val.enc v≠[]:=by
 obtain⟨k,n,s,is,ks⟩:=v;rw[Val.enc];intro h;have:=(List.append_eq_nil_iff.1 h).1;unfold Wire.num Wire.encF at this;split at this<;>simp at this
theorem bqh(dst:List UInt8)(hd:dst.length≤1000000000)(v:V)(hchk:∃lv b,(Val.chk v lv b).1=0)(hlen:(Val.enc v).length+10≤1000000000)(hl:v.lens)(h:Hp):AT 56 [.str dst,v.A] h (.str (dst++Val.enc v)):=by
 have ht:=fun(h:Hp) (hw:Wt h 1 0 [])=>(czu v 1 0 [] h hw hchk (by simpa using hlen) hl).mono fun _ _ h=>h.2
 have hne:=ckk v;obtain⟨k,n,s,is,ks⟩:=v;refine pcall ?_ rfl (by simp[V.A,V.cells,A.pure,A.data]) h;refine fo ?_;refine go0 (ai @V_A @azd) ?_;refine gc0 (ai @V_A @azd) ?_;refine(ht _ (.inr ⟨rfl,rfl⟩)).mono ?_;intro v1 h1 hp;refine go0 (ai @V_A @azd) ?_;refine gc0 (ai @V_A @azd) ?_;refine(bqu hp.1 hne).mono ?_;rintro v2 h2 ⟨rfl,rfl⟩;have hsum:dst.length+(Val.enc (.mk k n s is ks)).length<1099511627776:=by omega
 refine go0 (ai @V_A (ai @azd hsum)) ?_;exact Fn rfl
end AX
namespace Wire
theorem numR_rest(r:St):(numR r).1.rest.length≤r.rest.length:=by
 unfold numR;split
 ·exact Zf _
 ·split
  ·exact Zf _
  ·simp
theorem cntR_rest(r:St)(n:Nat):(cntR r n).1.rest.length≤r.rest.length:=by
 unfold cntR;split
 ·exact Zf _
 ·split
  ·exact Zf _
  ·split
   ·exact Zf _
   ·split
    ·exact Zf _
    ·simp
theorem cntR_cnt(r:St):(cntR r 1).2≤r.rest.length:=by
 unfold cntR;split
 ·simp
 ·split
  ·simp
  ·split
   ·simp
   ·split
    ·simp
    ·next h=>simp only[Nat.div_one]at h⊢;omega
theorem strR_rest(r:St):(strR r).1.rest.length≤r.rest.length:=by
 have:=cntR_rest r 1;unfold strR;dsimp only;split
 ·exact this
 ·simp;omega
end Wire
namespace Val
theorem itemsW_step(one:Wire.St→Res)(m:Bool)(c:Nat)(r:Wire.St)(is:List V)(ks:List (List UInt8))(q:Wire.St×List UInt8)(hq:q=if m then Wire.strR r else(r,[])):itemsW one m (c+1) r is ks=if(one q.1).2.1≠0 then((one q.1).1,(one q.1).2.1,is,ks)else itemsW one m c (one q.1).1 (is++[(one q.1).2.2]) (if m then ks++[q.2]else ks):=by
 subst hq;rw[itemsW]
theorem itemsW_le{one:Wire.St→Res}(h1:∀r,(one r).1.rest.length≤r.rest.length)(m:Bool):∀(c:Nat) (r:Wire.St) (is:List V) (ks:List (List UInt8)),(itemsW one m c r is ks).1.rest.length≤r.rest.length
 |0,r,is,ks=>Zf _
 |c+1,r,is,ks=>by
  obtain⟨q,hqe⟩:∃q,q=if m then Wire.strR r else(r,[]):=⟨_,rfl⟩
  have hq:q.1.rest.length≤r.rest.length:=by
   rw[hqe];split
   ·exact Wire.strR_rest r
   ·exact Zf _
  rw[itemsW_step one m c r is ks q hqe];have h2:=h1 q.1;split
  ·show(one q.1).1.rest.length≤_
   omega
  ·have:=itemsW_le h1 m c (one q.1).1 (is++[(one q.1).2.2]) (if m then ks++[q.2]else ks);omega
theorem read_le:∀(f:Nat) (r:Wire.St),(read f r).1.rest.length≤r.rest.length
 |0,r=>by rw[read];exact Zf _
 |f+1,r=>by
  have ih:=read_le f;have hn:=Wire.numR_rest r;have hn2:=Wire.numR_rest (Wire.numR r).1;have hs2:=Wire.strR_rest (Wire.numR r).1;have hc2:=Wire.cntR_rest (Wire.numR r).1 1;have hi2:=itemsW_le ih ((Wire.numR r).2==5) (Wire.cntR (Wire.numR r).1 1).2 (Wire.cntR (Wire.numR r).1 1).1 [] [];rw[read];unfold readW;dsimp only;split
  ·exact Zf _
  ·split
   ·exact hn
   ·split
    ·exact hn
    ·split
     ·simp only;omega
     ·split
      ·simp only;omega
      ·split
       ·simp only;omega
       ·exact hn
end Val
namespace AX
def RQ(i:Nat)(r:Wire.St)(h h':Hp):Prop:=h'.b[i]?=some (rdr r)∧(∀(j:Nat) x,j≠i→h.b[j]?=some x→h'.b[j]?=some x)∧∀(t:Nat) x,h.t[t]?=some x→h'.t[t]?=some x
theorem RQ.of{i:Nat}{r r':Wire.St}{h:Hp}(hb:h.b[i]?=some (rdr r)):RQ i r' h ⟨h.b.set i (rdr r'),h.t⟩:=by
 have hlt:=(Zd.1 hb).1;refine⟨?_,fun j x hj hx=>?_,fun _ _ hx=>hx⟩
 ·show(List.set _ i _)[i]?=_
  rw[Zs,if_pos rfl,if_pos hlt]
 ·show(List.set _ i _)[j]?=_
  rw[Zs,if_neg (Ne.symm hj)];exact hx
theorem RQ.tr{i:Nat}{r r':Wire.St}{h h' h'':Hp}(a:RQ i r h h')(b:RQ i r' h' h''):RQ i r' h h'':=
 ⟨b.1,fun j x hj hx=>b.2.1 j x hj (a.2.1 j x hj hx),fun t x hx=>b.2.2 t x (a.2.2 t x hx)⟩
theorem azn{l m:List Blk}{i:Nat}{x:Blk}(h:l[i]?=some x):(l++m)[i]?=some x:=by
 rw[ZO (Zd.1 h).1];exact h
theorem azw(l:List Blk)(x y:Blk):(l++[x]).set l.length y=l++[y]:=by
 rw[List.set_append_right _ _ (Zf _)];simp
theorem RQ.app{b:List Blk}{t:_}{m:List Blk}{h':Hp}{i:Nat}{r:Wire.St}(hp:RQ i r ⟨b++m,t⟩ h'):RQ i r ⟨b,t⟩ h':=
 ⟨hp.1,fun j x hj hx=>hp.2.1 j x hj (azn hx),hp.2.2⟩
def Gs(E:TypeId)(W lo:Nat)(h:Hp)(rows:List (List A))(x:A):Prop:=(rows=[]∧x=.sl 0 .nil [])∨∃t,lo≤t∧x=.sl W (.tok t) rows∧h.t[t]?=some (E,W,rows.length)
theorem Gs.app{E:TypeId}{W lo:Nat}{h:Hp}{rows:List (List A)}{x:A}(hg:Gs E W lo h rows x)(hlo:lo≤h.t.length)(bytes:Nat)(y:List A)(h1:rows.length+1≤1000000000)(h2:bytes≤1000):
  ∃x' t',(∀b,appA ⟨b,h.t⟩ E W bytes x (.sl W .no [y])=some (x',⟨b,t'⟩))∧(∀b,Gs E W lo ⟨b,t'⟩ (rows++[y]) x')∧(∀(t:Nat) z,t<lo→h.t[t]?=some z→t'[t]?=some z)∧lo≤t'.length∧∀(t:Nat) E' W' n,E'≠E→h.t[t]?=some (E',W',n)→t'[t]?=some (E',W',n):=by
 have hb1:(rows.length+1)*bytes≤140737488355328:=Zl (Nat.mul_le_mul h1 h2) (by decide);have hb2:1*bytes≤140737488355328:=by omega
 rcases hg with⟨rfl,rfl⟩|⟨t,ht,rfl,htt⟩
 ·refine⟨.sl W (.tok h.t.length) [y],h.t++[(E,W,1)],?_,?_,?_,?_,?_⟩
  ·intro b;exact if_pos (show W=W∧0 < [y].length∧[y].length≤maxLen∧[y].length*bytes≤140737488355328 from⟨rfl,by simp,by simp[maxLen],by simpa using hb2⟩)
  ·intro b;exact .inr ⟨h.t.length,hlo,rfl,by simp⟩
  ·intro t z _ hz;rw[ZO (Zd.1 hz).1];exact hz
  ·simp;omega
  ·intro t E' W' n _ hz;rw[ZO (Zd.1 hz).1];exact hz
 ·refine⟨.sl W (.tok t) (rows++[y]),h.t.set t (E,W,rows.length+1),?_,?_,?_,?_,?_⟩
  ·intro b;exact if_pos (show W=W∧W=W∧0 < [y].length∧h.t[t]?=some (E,W,rows.length)∧rows.length+[y].length≤maxLen∧(rows.length+[y].length)*bytes≤140737488355328 from⟨rfl,rfl,by simp,htt,by simp[maxLen];omega,by simpa using hb1⟩)
  ·intro b;refine .inr ⟨t,ht,rfl,?_⟩;show(h.t.set t _)[t]?=_
   rw[Zs,if_pos rfl,if_pos (Zd.1 htt).1];simp
  ·intro t' z hlt hz;rw[Zs,if_neg (by omega)];exact hz
  ·simpa using hlo
  ·intro t' E' W' n hne hz;rw[Zs,if_neg (fun e=>by subst e;rw[htt]at hz;injection hz with hz;injection hz with hz;exact hne hz.symm)];exact hz
theorem Gs.sl{E:TypeId}{W lo:Nat}{h:Hp}{rows:List (List A)}{x:A}(hg:Gs E W lo h rows x):∃W' o,x=.sl W' o rows:=by
 rcases hg with⟨rfl,rfl⟩|⟨t,_,rfl,_⟩<;>exact⟨_,_,rfl⟩
theorem Gs.one{E:TypeId}{W lo:Nat}{h:Hp}{rows:List (List A)}{x:A}(hg:Gs E W lo h rows x):x.one=true:=by
 rcases hg with⟨_,rfl⟩|⟨t,_,rfl,_⟩<;>rfl
theorem Gs.le{E:TypeId}{W lo:Nat}{h:Hp}{rows:List (List A)}{x:A}(hg:Gs E W lo h rows x):le1 x (.sl W .no rows):=by
 rcases hg with⟨rfl,rfl⟩|⟨t,_,rfl,_⟩<;>simp[le1]
theorem Gs.keep{E:TypeId}{W lo:Nat}{h h':Hp}{rows:List (List A)}{x:A}(hg:Gs E W lo h rows x)(hk:∀(t:Nat) n,h.t[t]?=some (E,W,n)→h'.t[t]?=some (E,W,n)):Gs E W lo h' rows x:=by
 rcases hg with h1|⟨t,h1,h2,h3⟩
 ·exact .inl h1
 ·exact .inr ⟨t,h1,h2,hk _ _ h3⟩
theorem RQ.keep{i:Nat}{r:Wire.St}{h:Hp}(hb:h.b[i]?=some (rdr r))(m:List Blk):RQ i r h ⟨h.b++m,h.t⟩:=⟨azn hb,fun j x _ hx=>azn hx,fun _ _ hx=>hx⟩
theorem RQ.set{i k:Nat}{r:Wire.St}{h h':Hp}(hp:RQ i r h h')(hk:h.b.length≤k)(hi:i≠k)(x:Blk)(t':_)(ht:t'=h'.t):RQ i r h ⟨h'.b.set k x,t'⟩:=by
 subst ht;refine⟨?_,fun j y hj hy=>?_,hp.2.2⟩
 ·show(List.set _ k _)[i]?=_
  rw[Zs,if_neg (Ne.symm hi)];exact hp.1
 ·have:=(Zd.1 hy).1;show(List.set _ k _)[j]?=_
  rw[Zs,if_neg (by omega)];exact hp.2.1 j y hj hy
theorem axd(e:Int):le (.tup [.agg [.int .i64 0,.int .i64 0,.str [],.sl 0 .nil [],.sl 0 .nil []],.int .i64 e]) (.tup [Val.zeroV.A,.int .i64 e]):=by
 simp[le,bw6,le2,leL,le1,V.A,V.cells,Val.zeroV,V.cellss,strsA]
def VR(res:Val.Res)(v:A):Prop:=∃l,v=.tup [.agg l,.int .i64 res.2.1]∧l.length=5∧l.all A.one=true∧(res.2.1=0→l=res.2.2.cells)
theorem V.cells_data(v:V):v.cells.all A.data=true:=by
 obtain⟨k,n,s,is,ks⟩:=v;rfl
theorem V.cells_one(v:V):v.cells.length=5∧v.cells.all A.one=true:=by
 obtain⟨k,n,s,is,ks⟩:=v;exact⟨rfl,rfl⟩
theorem VR.err{res:Val.Res}{e:Int}(h:res.2.1=e)(he:e≠0):VR res (.tup [Val.zeroV.A,.int .i64 e]):=
 ⟨Val.zeroV.cells,by rw[h];rfl,(V.cells_one _).1,(V.cells_one _).2,fun h0=>absurd (h.symm.trans h0) he⟩
theorem RQ.tlen{i:Nat}{r:Wire.St}{h h':Hp}(hp:RQ i r h h'):h.t.length≤h'.t.length:=by
 by_cases h0:h.t.length=0
 ·omega
 ·have:=hp.2.2 (h.t.length-1) _ (Zn (by omega));have:=(Zd.1 this).1;omega
theorem cyh{l:List A}(hl:l.length=5):∃a0 a1 a2 a3 a4,l=[a0,a1,a2,a3,a4]:=by
 match l,hl with
 |[a0,a1,a2,a3,a4],_=>exact⟨_,_,_,_,_,rfl⟩
theorem aqx(l:List V)(v:V):V.cellss (l++[v])=V.cellss l++[v.cells]:=by
 rw[V.cellss_map,V.cellss_map];simp
theorem az8(l:List (List UInt8))(s:List UInt8):strsA (l++[s])=strsA l++[[.str s]]:=by simp[strsA]
def tailOps:List AOper:=[⟨some 86,.load true 5 (.t 9),none,[]⟩,⟨some 87,.mv (.t 0),none,[]⟩,⟨some 88,.call 35 [.t 87],none,[1]⟩,⟨none,.store 5 (.t 4) (.t 86),none,[0,2,0]⟩,⟨some 5,.mv (.t 88),none,[2,3,0,1,2,3]⟩]
theorem czj{ts:Ts}{hh:Hp}{i b4 b9:Nat}{q:Wire.St}{l l0:List A}{T:TypeId}{Q:AExit→Ts→Hp→Prop}(t0:ts 0=.ptr i 0)(t4:ts 4=.ptr b4 0)(t9:ts 9=.ptr b9 0)(hi:hh.b[i]?=some (rdr q))(h4:hh.b[b4]?=some (.cells T l0))(hl0:l0.length=5)(h9:hh.b[b9]?=some (.cells T l))(hl:l.length=5)(hlo:l.all A.one=true)
  (hQ:Q .normal (put (put (put (put (put ts (some 86) (.agg l)) (some 87) (.ptr i 0)) (some 88) (.int .i64 q.e)) none (.tup [])) (some 5) (.int .i64 q.e)) ⟨hh.b.set b4 (.cells T l),hh.t⟩):awp Tryz.prog GT (.reg true tailOps) Q ts hh:=by
 refine bxg [3] [hh,⟨hh.b.set b4 (.cells T l),hh.t⟩] [[0],[0,1],[0],[0],[1]] rfl (by decide) ?_;obtain⟨a0,a1,a2,a3,a4,rfl⟩:∃a0 a1 a2 a3 a4,l=[a0,a1,a2,a3,a4]:=by
  match l,hl with
  |[a0,a1,a2,a3,a4],_=>exact⟨_,_,_,_,_,rfl⟩
 obtain⟨c0,c1,c2,c3,c4,rfl⟩:∃a0 a1 a2 a3 a4,l0=[a0,a1,a2,a3,a4]:=by
  match l0,hl0 with
  |[a0,a1,a2,a3,a4],_=>exact⟨_,_,_,_,_,rfl⟩
 refine akx (v:=.agg [a0,a1,a2,a3,a4]) rfl ⟨?_,trivial⟩ ?_
 ·simp[evX,astep,loadA,t9,h9]
 refine akx (v:=.ptr i 0) rfl ⟨?_,?_,trivial⟩ ?_
 ·simp[evX,put,astep,t0]
 ·simp[evX,put,astep,t0]
 refine czk (vs:=[.ptr i 0]) (v:=.int .i64 q.e) (by simp[evX,put]) ⟨bxe hi,trivial⟩ ?_;refine akx (v:=.tup []) rfl ⟨?_,trivial⟩ ?_
 ·simp only[ZC,Yt,ZY,Zc]at hlo;simp[evX,put,astep,storeA,t4,h4,setCells,A.cells,hlo]
 refine akx (v:=.int .i64 q.e) rfl ⟨?_,trivial⟩ ?_
 ·simp[evX,put,astep]
 exact cv3 hQ
theorem cyy:∀(f:Nat) (r:Wire.St) (i:Nat) (h:Hp),f≤32→h.b[i]?=some (rdr r)→r.rest.length≤100000000→AC 154 [.ptr i 0,.int .i64 (33-(f:Int))] h fun v h'=>VR (Val.read f r) v∧RQ i (Val.read f r).1 h h':=by
 intro f;induction f with
 |zero=>
  rintro r i ⟨hb,ht⟩ hf hbi hlen;refine fo ?_;have hil:=(Zd.1 hbi).1;refine go0 ti ?_;refine gc0 ti ?_;refine(bxe (azn hbi)).mono ?_;rintro v h' ⟨rfl,rfl⟩;by_cases he:r.e=0
  ·have he':(r.e !=0)=false:=by simp[he]
   have hlv:(33-((0:Nat):Int))>32:=by decide
   refine go0 (ai he' (ai hlv @azw)) ?_;have hRR:Val.read 0 r=(r,4,Val.zeroV):=by rw[Val.read,if_neg (by simp[he])]
   rw[hRR];exact⟨_,axd 4,VR.err rfl (by decide),RQ.keep hbi _⟩
  ·have he':(r.e !=0)=true:=by simp[he]
   refine go0 (ai he' @azw) ?_;have hRR:Val.read 0 r=(r,r.e,Val.zeroV):=by rw[Val.read,if_pos (by simp[he])]
   rw[hRR];exact⟨_,axd r.e,VR.err rfl he,RQ.keep hbi _⟩
 |succ f ih=>
  rintro r i ⟨hb,ht⟩ hf hbi hlen;refine fo ?_;have hil:i<hb.length:=(Zd.1 hbi).1;have hR:Val.read (f+1) r=Val.readW (Val.read f) r:=by rw[Val.read]
  refine go0 ti ?_;refine gc0 ti ?_;refine(bxe (azn hbi)).mono ?_;rintro v h' ⟨rfl,rfl⟩;by_cases he:r.e=0
  rotate_left
  ·have he':(r.e !=0)=true:=by simp[he]
   refine go0 (ai he' @azw) ?_;have hRR:Val.read (f+1) r=(r,r.e,Val.zeroV):=by rw[hR,Val.readW,if_pos he]
   rw[hRR];exact⟨_,axd r.e,VR.err rfl he,RQ.keep hbi _⟩
  have he':(r.e !=0)=false:=by simp[he]
  have hlv:¬(33-((f+1:Nat):Int))>32:=by omega
  refine go0 (ai he' hlv) ?_;refine gc0 ti ?_;refine(aqc (azn hbi) hlen).mono ?_;rintro v h1 ⟨rfl,hh1⟩;have hq1:RQ i (Wire.numR r).1 ⟨hb,ht⟩ h1:=by rw[hh1];exact(RQ.of (h:=⟨hb++_,ht⟩) (azn hbi)).app
  have hz1:h1.b[hb.length]?=some (.cells 40 [.int .i64 0,.int .i64 0,.str [],.sl 0 .nil [],.sl 0 .nil []]):=by
   rw[hh1];show(List.set _ i _)[hb.length]?=_
   rw[Zs,if_neg (by omega)];exact ZJ
  clear hh1;have hn:=Wire.numR_rest r;obtain⟨q,hq⟩:=Ex (Wire.numR r);rw[hq]at hq1 hn⊢;have hsz:∀(i':Nat) x,(h1.b++[x])[hb.length]?=some (.cells 40 [.int .i64 0,.int .i64 0,.str [],.sl 0 .nil [],.sl 0 .nil []]):=fun _ x=>azn hz1
  have hset:∀y,(h1.b.set hb.length y)[hb.length]?=some y:=fun y=>by
   rw[Zs,if_pos rfl,if_pos (Zd.1 hz1).1]
  refine go0 ti ?_;refine gc0 ti ?_;refine(bxe hq1.1).mono ?_;rintro v h1 ⟨rfl,rfl⟩;by_cases hqe:q.1.e=0
  rotate_left
  ·have he':(q.1.e !=0)=true:=by simp[hqe]
   refine go0 (ai he' (ai hz1 hset)) ?_;have hRR:Val.read (f+1) r=(q.1,q.1.e,Val.zeroV):=by
    rw[hR,Val.readW,if_neg (by simp[he])];dsimp only;rw[hq,if_pos hqe]
   rw[hRR];exact⟨_,axd q.1.e,VR.err rfl hqe,hq1.set (Zf _) (by show i≠hb.length;omega) _ _ rfl⟩
  have he'':(q.1.e !=0)=false:=by simp[hqe]
  have hil1:i≠h1.b.length:=fun e=>by have:=(Zd.1 hq1.1).1;omega
  have hb4:hb.length≠h1.b.length:=fun e=>by have:=(Zd.1 hz1).1;omega
  have hib4:i≠hb.length:=by omega
  have hbl:hb.length≤h1.b.length:=by have:=(Zd.1 hz1).1;omega
  have hW:Val.readW (Val.read f) r=if q.2<0∨6<q.2 then(q.1,1,Val.zeroV)
   else if q.2=1∨q.2=2 then((Wire.numR q.1).1,(Wire.numR q.1).1.e,.mk q.2 (Wire.numR q.1).2 [] [] [])
   else if q.2=3 then((Wire.strR q.1).1,(Wire.strR q.1).1.e,.mk q.2 0 (Wire.strR q.1).2 [] [])
   else if q.2=4∨q.2=5 then((Val.itemsW (Val.read f) (q.2==5) (Wire.cntR q.1 1).2 (Wire.cntR q.1 1).1 [] []).1,(Val.itemsW (Val.read f) (q.2==5) (Wire.cntR q.1 1).2 (Wire.cntR q.1 1).1 [] []).2.1,.mk q.2 0 [] (Val.itemsW (Val.read f) (q.2==5) (Wire.cntR q.1 1).2 (Wire.cntR q.1 1).1 [] []).2.2.1 (Val.itemsW (Val.read f) (q.2==5) (Wire.cntR q.1 1).2 (Wire.cntR q.1 1).1 [] []).2.2.2)
   else(q.1,0,.mk q.2 0 [] [] []):=by
   rw[Val.readW,if_neg (by simp[he])];dsimp only;rw[hq,if_neg (by simp[hqe])]
  by_cases hk0:q.2<0
  ·refine go0 (ai he'' (ai hk0 (ai hz1 hset))) ?_;have hRR:Val.read (f+1) r=(q.1,1,Val.zeroV):=by rw[hR,hW,if_pos (.inl hk0)]
   rw[hRR];exact⟨_,axd 1,VR.err rfl (by decide),hq1.set (Zf _) hib4 _ _ rfl⟩
  by_cases hk6:q.2>6
  ·refine go0 (ai he'' (ai hk0 (ai hk6 (ai hz1 hset)))) ?_;have hRR:Val.read (f+1) r=(q.1,1,Val.zeroV):=by rw[hR,hW,if_pos (.inr hk6)]
   rw[hRR];exact⟨_,axd 1,VR.err rfl (by decide),hq1.set (Zf _) hib4 _ _ rfl⟩
  rw[if_neg (by omega)]at hW;have fin:∀(h2:Hp) (q2:Wire.St) (n:Int) (s:List UInt8) (is:List V) (ks:List (List UInt8)) (X Y:A),RQ i q2 ⟨hb,ht⟩ h2→Val.read (f+1) r=(q2,q2.e,.mk q.2 n s is ks)→le1 X (.sl 5 .no (V.cellss is))→le1 Y (.sl 1 .no (strsA ks)) →
    ∃v,le (.tup [.agg [.int .i64 q.2,.int .i64 n,.str s,X,Y],.int .i64 q2.e]) v∧VR (Val.read (f+1) r) v∧RQ i (Val.read (f+1) r).1 ⟨hb,ht⟩ ⟨h2.b.set hb.length (.cells 40 [.int .i64 q.2,.int .i64 n,.str s,X,Y]),h2.t⟩:=by
   intro h2 q2 n s is ks X Y hp e hX hY;rw[e];refine⟨.tup [(V.mk q.2 n s is ks).A,.int .i64 q2.e],?_,⟨_,rfl,(V.cells_one (V.mk q.2 n s is ks)).1,(V.cells_one (V.mk q.2 n s is ks)).2,fun _=>rfl⟩,hp.set (Zf _) hib4 _ _ rfl⟩;simp only[V.A,V.cells,le,bw6,le2,leL,hX,hY,and_true,true_and];simp[le1]
  have hnilX:le1 (.sl 0 .nil []) (.sl 5 .no (V.cellss [])):=by simp[le1,V.cellss]
  have hnilY:le1 (.sl 0 .nil []) (.sl 1 .no (strsA [])):=by simp[le1,strsA]
  have leaf:∀(ts:Ts) (h2:Hp) (q2:Wire.St) (n:Int) (s:List UInt8) (is:List V) (ks:List (List UInt8)) (X Y:A),ts 0=.ptr i 0→ts 4=.ptr hb.length 0→ts 9=.ptr h1.b.length 0→RQ i q2 ⟨hb,ht⟩ h2 →
    h2.b[hb.length]?=some (.cells 40 [.int .i64 0,.int .i64 0,.str [],.sl 0 .nil [],.sl 0 .nil []])→h2.b[h1.b.length]?=some (.cells 40 [.int .i64 q.2,.int .i64 n,.str s,X,Y])→X.one=true→Y.one=true →
    Val.read (f+1) r=(q2,q2.e,.mk q.2 n s is ks)→le1 X (.sl 5 .no (V.cellss is))→le1 Y (.sl 1 .no (strsA ks)) →
    awp Tryz.prog GT (.reg true tailOps) (thenA (awp Tryz.prog GT .ret (finQ [.c 4 true 5,.t 5] fun v h'=>VR (Val.read (f+1) r) v∧RQ i (Val.read (f+1) r).1 ⟨hb,ht⟩ h')) (finQ [.c 4 true 5,.t 5] fun v h'=>VR (Val.read (f+1) r) v∧RQ i (Val.read (f+1) r).1 ⟨hb,ht⟩ h')) ts h2:=by
   intro ts h2 q2 n s is ks X Y t0 t4 t9 hp g4 g9 hX1 hY1 e hX hY;refine czj t0 t4 t9 hp.1 g4 rfl g9 rfl (by simp only[ZC,Yt,hX1,hY1];rfl) ?_;have hs4:∀y,(h2.b.set hb.length y)[hb.length]?=some y:=fun y=>by
    rw[Zs,if_pos rfl,if_pos (Zd.1 g4).1]
   refine go0 (ai t4 hs4) ?_;exact fin h2 q2 n s is ks X Y hp e hX hY
  have aft:∀(q2:Wire.St) (h2:Hp),h2=⟨(h1.b++[(.cells 40 [.int .i64 q.2,.int .i64 0,.str [],.sl 0 .nil [],.sl 0 .nil []]:Blk)]).set i (rdr q2),h1.t⟩→RQ i q2 ⟨hb,ht⟩ h2 ∧
    h2.b[hb.length]?=some (.cells 40 [.int .i64 0,.int .i64 0,.str [],.sl 0 .nil [],.sl 0 .nil []])∧h2.b[h1.b.length]?=some (.cells 40 [.int .i64 q.2,.int .i64 0,.str [],.sl 0 .nil [],.sl 0 .nil []]):=by
   rintro q2 h2 rfl;refine⟨hq1.tr (RQ.of (h:=⟨h1.b++_,h1.t⟩) (azn hq1.1)).app,?_,?_⟩
   ·show(List.set _ i _)[_]?=_
    rw[Zs,if_neg hib4];exact azn hz1
   ·show(List.set _ i _)[_]?=_
    rw[Zs,if_neg hil1];exact ZJ
  by_cases hk12:q.2=1∨q.2=2
  ·rw[if_pos hk12]at hW;have e12:(q.2==1)=true∨(q.2==1)=false∧(q.2==2)=true:=by
    rcases hk12 with h|h
    ·exact .inl (by simp[h])
    ·exact .inr ⟨by simp[h],by simp[h]⟩
   rcases e12 with e1|⟨e1,e2⟩;all_goals
    refine go0 (ai he'' (ai hk0 (ai hk6 (ai @azw e1)))) ?_
    try (refine go0 (ai he'' (ai hk0 (ai hk6 (ai @azw (ai e1 e2))))) ?_)
    refine gc0 ti ?_;refine(aqc (azn hq1.1) (by omega)).mono ?_;rintro v h2 ⟨rfl,hh2⟩;obtain⟨hq2,g4,g9⟩:=aft _ _ hh2;have h9:∀y,(h2.b.set h1.b.length y)[h1.b.length]?=some y:=fun y=>by
     rw[Zs,if_pos rfl,if_pos (Zd.1 g9).1]
    clear hh2;refine go0 g9 ?_;refine leaf _ _ (Wire.numR q.1).1 (Wire.numR q.1).2 [] [] [] _ _ (by(exact ev0 ti)) (by(exact ev0 ti)) (by(exact ev0 ti)) (hq2.set (by exact hbl) hil1 _ _ rfl) ?_ (h9 _) rfl rfl (by rw[hR,hW]) hnilX hnilY;show(List.set _ _ _)[_]?=_
    rw[Zs,if_neg (Ne.symm hb4)];exact g4
  rw[if_neg hk12]at hW;have e1:(q.2==1)=false:=by simp;omega
  have e2:(q.2==2)=false:=by simp;omega
  by_cases hk3:q.2=3
  ·rw[if_pos hk3]at hW;have e3:(q.2==3)=true:=by simp[hk3]
   refine go0 (ai he'' (ai hk0 (ai hk6 (ai @azw (ai e1 (ai e2 e3)))))) ?_;refine gc0 ti ?_;refine(aqh (azn hq1.1) (by omega)).mono ?_;rintro v h2 ⟨rfl,hh2⟩;obtain⟨hq2,g4,g9⟩:=aft _ _ hh2;have h9:∀y,(h2.b.set h1.b.length y)[h1.b.length]?=some y:=fun y=>by
    rw[Zs,if_pos rfl,if_pos (Zd.1 g9).1]
   clear hh2;refine go0 g9 ?_;refine leaf _ _ (Wire.strR q.1).1 0 (Wire.strR q.1).2 [] [] _ _ (by(exact ev0 ti)) (by(exact ev0 ti)) (by(exact ev0 ti)) (hq2.set (by exact hbl) hil1 _ _ rfl) ?_ (h9 _) rfl rfl (by rw[hR,hW]) hnilX hnilY;show(List.set _ _ _)[_]?=_
   rw[Zs,if_neg (Ne.symm hb4)];exact g4
  rw[if_neg hk3]at hW;have e3:(q.2==3)=false:=by simp[hk3]
  by_cases hk45:q.2=4∨q.2=5
  ·rw[if_pos hk45]at hW;have e45:(q.2==4)=true∨(q.2==4)=false∧(q.2==5)=true:=by
    rcases hk45 with h|h
    ·exact .inl (by simp[h])
    ·exact .inr ⟨by simp[h],by simp[h]⟩
   rcases e45 with e4|⟨e4,e5⟩;all_goals
    refine go0 (ai he'' (ai hk0 (ai hk6 (ai @azw (ai e1 (ai e2 (ai e3 e4))))))) ?_
    try (refine go0 (ai he'' (ai hk0 (ai hk6 (ai @azw (ai e1 (ai e2 (ai e3 (ai e4 e5)))))))) ?_)
    refine gc0 ti ?_;refine(akz (azn hq1.1) (by omega)).mono ?_;rintro v h2 ⟨rfl,hh2⟩;obtain⟨hq2,g4,g9⟩:=aft _ _ hh2;clear hh2;have hcr:=Wire.cntR_rest q.1 1;have hcc:=Wire.cntR_cnt q.1;obtain⟨c0,hc0⟩:=Ex (Wire.cntR q.1 1);rw[hc0]at hq2 hcr hcc hW⊢;refine go0 g9 ?_
    refine azf (fun m ts hh=>∃(j:Nat) (p:Wire.St) (is:List V) (ks:List (List UInt8)) (X Y:A),m=c0.2-j∧j≤c0.2∧Val.itemsW (Val.read f) (q.2==5) (c0.2-j) p is ks=Val.itemsW (Val.read f) (q.2==5) c0.2 c0.1 [] []∧RQ i p ⟨hb,ht⟩ hh∧p.rest.length≤q.1.rest.length∧is.length≤j∧ks.length≤j ∧
      hh.b[hb.length]?=some (.cells 40 [.int .i64 0,.int .i64 0,.str [],.sl 0 .nil [],.sl 0 .nil []])∧hh.b[h1.b.length]?=some (.cells 40 [.int .i64 q.2,.int .i64 0,.str [],X,Y])∧Gs 40 5 ht.length hh (V.cellss is) X∧Gs 9 1 ht.length hh (strsA ks) Y∧ht.length≤hh.t.length ∧
      ts 0=.ptr i 0∧ts 1=.int .i64 (33-((f+1:Nat):Int))∧ts 4=.ptr hb.length 0∧ts 9=.ptr h1.b.length 0∧ts 55=.int .i64 c0.2∧ts 56=.int .i64 j) c0.2 ?_ ?_
    ·refine⟨0,c0.1,[],[],_,_,rfl,Zz _,rfl,hq2,hcr,Zf _,Zf _,g4,g9,.inl ⟨rfl,rfl⟩,.inl ⟨rfl,rfl⟩,hq2.tlen,?_⟩;(exact azq ti)
    ·rintro m ts hh ⟨j,p,is,ks,X,Y,rfl,hj,hit,hp,hpl,hil2,hkl2,g4,g9,gX,gY,htl,t0,t1,t4,t9,t55,t56⟩;by_cases hlt:j<c0.2
     ·have hlt2:(j:Int)<(c0.2:Int):=by omega
      have ei:IntKind.i64.wrap ((j:Int)+1)=(j:Int)+1:=wrap64 (by omega) (by omega);have elv:IntKind.i64.wrap ((33-((f+1:Nat):Int))+1)=33-(f:Int):=by rw[wrap64 (by omega) (by omega)];omega
      obtain⟨d,hd⟩:∃d,c0.2-j=d+1:=⟨c0.2-j-1,by omega⟩;obtain⟨q2,hq2e⟩:∃q2,q2=if(q.2==5)=true then Wire.strR p else(p,[]):=⟨_,rfl⟩
      rw[hd,Val.itemsW_step _ _ _ _ _ _ q2 hq2e]at hit;have hbi:=hp.1;have hcell:∀y,(hh.b.set i y)[h1.b.length]?=some (.cells 40 [.int .i64 q.2,.int .i64 0,.str [],X,Y]):=fun y=>by
       rw[Zs,if_neg hil1];exact g9
      rcases azk (q.2==5)with e5'|e5'
      ·rw[if_pos e5']at hq2e;have hp':RQ i q2.1 ⟨hb,ht⟩ ⟨hh.b.set i (rdr q2.1),hh.t⟩:=hp.tr (RQ.of hbi);have hpl':q2.1.rest.length≤p.rest.length:=by rw[hq2e];exact Wire.strR_rest p
       obtain⟨ks',hks'⟩:∃l,l=(if(q.2==5)=true then ks++[q2.2]else ks):=⟨_,rfl⟩;rw[←hks']at hit;rw[if_pos e5']at hks';obtain⟨Y',t',hY1,hY2,hY3,hY4,hY5⟩:=gY.app htl 16 [.str q2.2] (by rw[aze];omega) (by decide);obtain⟨Wy0,oy0,rfl⟩:=Gs.sl gY;obtain⟨Wy1,oy1,rfl⟩:=Gs.sl (hY2 []);refine go0 (ai t0 (ai t1 (ai t4 (ai t9 (ai t55 (ai t56 (ai hlt2 (ai g9 e5')))))))) ?_;refine bxg [3,5,7] [hh,⟨hh.b.set i (rdr q2.1),hh.t⟩,⟨hh.b.set i (rdr q2.1),t'⟩,⟨(hh.b.set i (rdr q2.1)).set h1.b.length (.cells 40 [.int .i64 q.2,.int .i64 0,.str [],X,.sl Wy1 oy1 (strsA ks++[[.str q2.2]])]),t'⟩] [[0,1,2],[0,1],[0],[0],[1],[1],[2],[2]] rfl (by decide) ?_;refine akx (v:=.ptr h1.b.length 4) rfl ⟨?_,?_,?_,trivial⟩ ?_
       ·simp[evX,put,astep,t9]
       ·simp[evX,put,astep,t9]
       ·simp[evX,put,astep,t9]
       refine akx (v:=.sl Wy0 oy0 (strsA ks)) rfl ⟨?_,?_,trivial⟩ ?_
       ·simp[evX,put,astep,loadA,g9]
       ·simp[evX,put,astep,loadA,hcell]
       refine akx (v:=.ptr i 0) rfl ⟨?_,trivial⟩ ?_
       ·simp[evX,put,astep,t0]
       refine czk (vs:=[.ptr i 0]) (v:=.str q2.2) (by simp[evX,put]) ⟨?_,trivial⟩ ?_
       ·rw[hq2e];exact aqh hp.1 (by omega)
       refine akx (v:=.sl 1 .no [[.str q2.2]]) rfl ⟨?_,trivial⟩ ?_
       ·simp[evX,put,astep,rowsA,A.cells,A.data]
       refine akx (v:=.sl Wy1 oy1 (strsA ks++[[.str q2.2]])) rfl ⟨?_,trivial⟩ ?_
       ·show appA _ _ _ _ _ _=_
        simp only[evX,put,Nat.reduceEqDiff,if_true,if_false,ite_true,ite_false,reduceIte];exact hY1 _
       refine akx (v:=.ptr h1.b.length 4) rfl ⟨?_,trivial⟩ ?_
       ·simp[evX,put,astep,t9]
       refine akx (v:=.tup []) rfl ⟨?_,trivial⟩ ?_
       ·simp[evX,put,astep,storeA,hcell,setCells,A.cells,A.one]
       refine cv3 ?_;have hsetl:h1.b.length<(hh.b.set i (rdr q2.1)).length:=(Zd.1 (hcell (rdr q2.1))).1;show thenA _ _ .normal _ (⟨(hh.b.set i (rdr q2.1)).set h1.b.length (.cells 40 [.int .i64 q.2,.int .i64 0,.str [],X,.sl Wy1 oy1 (strsA ks++[[.str q2.2]])]),t'⟩:Hp)
       have g4:((hh.b.set i (rdr q2.1)).set h1.b.length (.cells 40 [.int .i64 q.2,.int .i64 0,.str [],X,.sl Wy1 oy1 (strsA ks++[[.str q2.2]])]))[hb.length]?=some (.cells 40 [.int .i64 0,.int .i64 0,.str [],.sl 0 .nil [],.sl 0 .nil []]):=by
        rw[Zs,if_neg (Ne.symm hb4),Zs,if_neg hib4];exact g4
       have g9:((hh.b.set i (rdr q2.1)).set h1.b.length (.cells 40 [.int .i64 q.2,.int .i64 0,.str [],X,.sl Wy1 oy1 (strsA ks++[[.str q2.2]])]))[h1.b.length]?=some (.cells 40 [.int .i64 q.2,.int .i64 0,.str [],X,.sl Wy1 oy1 (strsA ks++[[.str q2.2]])]):=by
        rw[Zs,if_pos rfl,if_pos hsetl]
       have gX:=Gs.keep (h':=⟨(hh.b.set i (rdr q2.1)).set h1.b.length (.cells 40 [.int .i64 q.2,.int .i64 0,.str [],X,.sl Wy1 oy1 (strsA ks++[[.str q2.2]])]),t'⟩) gX fun t n hz=>hY5 t _ _ _ (by decide) hz
       have gY:Gs 9 1 ht.length ⟨(hh.b.set i (rdr q2.1)).set h1.b.length (.cells 40 [.int .i64 q.2,.int .i64 0,.str [],X,.sl Wy1 oy1 (strsA ks++[[.str q2.2]])]),t'⟩ (strsA ks') (.sl Wy1 oy1 (strsA ks++[[.str q2.2]])):=by
        rw[hks',az8];exact hY2 _
       have htl:=hY4;have hkl2:ks'.length≤j+1:=by rw[hks'];simp;omega
       have hp':RQ i q2.1 ⟨hb,ht⟩ ⟨(hh.b.set i (rdr q2.1)).set h1.b.length (.cells 40 [.int .i64 q.2,.int .i64 0,.str [],X,.sl Wy1 oy1 (strsA ks++[[.str q2.2]])]),t'⟩:=by
        refine⟨?_,fun j y hj hy=>?_,fun t y hy=>?_⟩
        ·show(List.set _ _ _)[i]?=_
         rw[Zs,if_neg (Ne.symm hil1)];exact hp'.1
        ·have hjl:j<hb.length:=(Zd.1 hy).1;show(List.set _ _ _)[j]?=_
         rw[Zs,if_neg (by omega)];exact hp'.2.1 j y hj hy
        ·exact hY3 t y (Zd.1 hy).1 (hp'.2.2 t y hy)
       have u0:=t0;have u1:=t1;refine go0 (ai t0 (ai t1 (ai t4 (ai t9 (ai t55 (ai t56 elv)))))) ?_;refine gc0 (ai t0 (ai t1 (ai t4 (ai t9 (ai elv (ai u0 u1)))))) ?_;refine(ih q2.1 i _ (by omega) hp'.1 (by omega)).mono ?_;rintro v h3 ⟨⟨l3,rfl,hl3,ho3,hv3⟩,hp3⟩;obtain⟨x,hx⟩:=Ex (Val.read f q2.1);have hxl:=Val.read_le f q2.1;rw[hx]at hit hv3 hp3 hxl⊢;obtain⟨a0,a1,a2,a3,a4,rfl⟩:=cyh hl3;have g4':=hp3.2.1 _ _ (Ne.symm hib4) g4;have g9':=hp3.2.1 _ _ (Ne.symm hil1) g9;have h4n:∀y,(h3.b++[y])[hb.length]?=_:=fun y=>azn g4'
       have h9n:∀y,(h3.b++[y])[h1.b.length]?=_:=fun y=>azn g9'
       have hl4:hb.length<h3.b.length:=(Zd.1 g4').1;have hl9:h1.b.length<h3.b.length:=(Zd.1 g9').1;have hs4:∀y z,((h3.b++[y]).set hb.length z)[hb.length]?=some z:=fun y z=>by
        rw[Zs,if_pos rfl,if_pos (by simp;omega)]
       simp only[ZC,Yt,ZY,Zc]at ho3;simp only[A.one]at ho3;obtain⟨o0,o1,o2,o3,o4⟩:=ho3;by_cases hx0:x.2.1=0
       rotate_left
       ·have hx0':(x.2.1 !=0)=true:=by simp[hx0]
        rw[if_pos hx0]at hit;have hRR:Val.read (f+1) r=(x.1,x.2.1,.mk q.2 0 [] is ks):=by rw[hR,hW,←hit]
        refine go0 (ai t0 (ai t1 (ai t4 (ai t9 (ai t55 (ai t56 (ai @azw (ai hx0' (ai h4n (ai hs4 (ai o0 (ai o1 (ai o2 (ai o3 o4)))))))))))))) ?_;rw[hRR];exact⟨_,axd x.2.1,VR.err rfl hx0,RQ.set (h':=⟨h3.b++_,h3.t⟩) ⟨azn (hp'.tr hp3).1,fun j x hj hx=>azn ((hp'.tr hp3).2.1 j x hj hx),(hp'.tr hp3).2.2⟩ (Zf _) hib4 _ _ rfl⟩
       ·have hx0':(x.2.1 !=0)=false:=by simp[hx0]
        rw[if_neg (by simp[hx0])]at hit;have hv:=hv3 hx0;obtain⟨X',t'',hX1,hX2,hX3,hX4,hX5⟩:=(Gs.keep (h':=h3) gX fun t n hh=>hp3.2.2 _ _ hh).app (Zl htl hp3.tlen) 80 x.2.2.cells (by rw[V.cellss_length];omega) (by decide);rw[←hv]at hX1 hX2;have hdd:=V.cells_data x.2.2;rw[←hv]at hdd;simp only[ZC,Yt,ZY,Zc,A.data]at hdd;obtain⟨d0,d1,d2,d3,d4⟩:=hdd;obtain⟨Wx,ox,rfl⟩:=Gs.sl (hX2 []);have hdummy:=trivial;refine go0 (ai t0 (ai t1 (ai t4 (ai t9 (ai t55 (ai t56 (ai @azw (ai hx0' (ai h4n (ai h9n (ai hs4 (ai o0 (ai o1 (ai o2 (ai o3 (ai o4 (ai ei (ai d0 (ai d1 (ai d2 (ai d3 d4))))))))))))))))))))) ?_;refine byk (v:=.sl Wx ox (V.cellss is++[[a0,a1,a2,a3,a4]])) (h':=⟨h3.b++[.cells 40 [a0,a1,a2,a3,a4]],t''⟩) rfl ?_ ?_
        ·simp only[aql,az5,az6,aj7,avd,az4,aq9,aq7,aq6,azi,aqa,astep,bop,uop,loadA,storeA,ssliceA,eqA,eqCells,fillA,rowsA,setCells,A.cells,azy,ZC,Yt,ZY,Zx,ZR,YA,YH,YO,ZZ,Yo,ZW,Ym,ZN,ZH,ZM,ZF,Zh,Zy,Zk,Zo,ZB,Yf,Yu,Yv,ZU,Z3,Yk,YY,Za,Yl,Nat.reduceAdd,Nat.reduceSub,Nat.reduceMul,Nat.reduceLeDiff,Nat.reduceEqDiff,Nat.reduceBEq,Yb,YI,if_true,if_false,reduceIte,ite_true,ite_false,true_and,and_true,ne_eq,Yh,Ys,Zi,reduceCtorEq,and_self,YD,Yg,Zf,ZP,ZL,decide_true,decide_false];exact hX1 _
        refine go0 (ai t0 (ai t1 (ai t4 (ai t9 (ai t55 (ai t56 (ai h9n ei))))))) ?_;refine⟨c0.2-(j+1),by omega,j+1,x.1,is++[x.2.2],ks',.sl Wx ox (V.cellss is++[[a0,a1,a2,a3,a4]]),.sl Wy1 oy1 (strsA ks++[[.str q2.2]]),rfl,by omega,?_,?_,by omega,by simp;omega,by omega,?_,?_,?_,?_,hX4,?_⟩
        ·rw[show c0.2-(j+1)=d by omega];exact hit
        ·have hp3':=hp'.tr hp3;refine⟨?_,fun j y hj hy=>?_,fun t y hy=>?_⟩
         ·show(List.set _ _ _)[i]?=_
          rw[Zs,if_neg (Ne.symm hil1)];exact azn hp3'.1
         ·have hjl:j<hb.length:=(Zd.1 hy).1;show(List.set _ _ _)[j]?=_
          rw[Zs,if_neg (by omega)];exact azn (hp3'.2.1 j y hj hy)
         ·exact hX3 t y (Zd.1 hy).1 (hp3'.2.2 t y hy)
        ·show(List.set _ _ _)[_]?=_
         rw[Zs,if_neg (Ne.symm hb4)];exact h4n _
        ·show(List.set _ _ _)[_]?=_
         rw[Zs,if_pos rfl,if_pos (by simp;omega)]
        ·rw[aqx,←hv];exact hX2 _
        ·exact Gs.keep (Gs.keep (h':=h3) gY fun t n hh=>hp3.2.2 _ _ hh) fun t n hh=>hX5 t _ _ _ (by decide) hh
        ·(exact azq (ai t0 (ai t1 (ai t4 (ai t9 (ai t55 (ai t56 ei)))))))
      ·rw[if_neg (by simp[e5'])]at hq2e;have hp':RQ i q2.1 ⟨hb,ht⟩ hh:=by rw[hq2e];exact hp
       have hpl':q2.1.rest.length≤p.rest.length:=by rw[hq2e];exact Zf _
       obtain⟨ks',hks'⟩:∃l,l=(if(q.2==5)=true then ks++[q2.2]else ks):=⟨_,rfl⟩;rw[←hks']at hit;rw[if_neg (by simp[e5'])]at hks';rw[←hks']at gY hkl2;have u0:=t0;have u1:=t1;refine go0 (ai t0 (ai t1 (ai t4 (ai t9 (ai t55 (ai t56 (ai hlt2 (ai g9 (ai e5' elv))))))))) ?_;refine gc0 (ai t0 (ai t1 (ai t4 (ai t9 (ai elv (ai u0 u1)))))) ?_;refine(ih q2.1 i _ (by omega) hp'.1 (by omega)).mono ?_;rintro v h3 ⟨⟨l3,rfl,hl3,ho3,hv3⟩,hp3⟩;obtain⟨x,hx⟩:=Ex (Val.read f q2.1);have hxl:=Val.read_le f q2.1;rw[hx]at hit hv3 hp3 hxl⊢;obtain⟨a0,a1,a2,a3,a4,rfl⟩:=cyh hl3;have g4':=hp3.2.1 _ _ (Ne.symm hib4) g4;have g9':=hp3.2.1 _ _ (Ne.symm hil1) g9;have h4n:∀y,(h3.b++[y])[hb.length]?=_:=fun y=>azn g4'
       have h9n:∀y,(h3.b++[y])[h1.b.length]?=_:=fun y=>azn g9'
       have hl4:hb.length<h3.b.length:=(Zd.1 g4').1;have hl9:h1.b.length<h3.b.length:=(Zd.1 g9').1;have hs4:∀y z,((h3.b++[y]).set hb.length z)[hb.length]?=some z:=fun y z=>by
        rw[Zs,if_pos rfl,if_pos (by simp;omega)]
       simp only[ZC,Yt,ZY,Zc]at ho3;simp only[A.one]at ho3;obtain⟨o0,o1,o2,o3,o4⟩:=ho3;by_cases hx0:x.2.1=0
       rotate_left
       ·have hx0':(x.2.1 !=0)=true:=by simp[hx0]
        rw[if_pos hx0]at hit;have hRR:Val.read (f+1) r=(x.1,x.2.1,.mk q.2 0 [] is ks):=by rw[hR,hW,←hit]
        refine go0 (ai t0 (ai t1 (ai t4 (ai t9 (ai t55 (ai t56 (ai @azw (ai hx0' (ai h4n (ai hs4 (ai o0 (ai o1 (ai o2 (ai o3 o4)))))))))))))) ?_;rw[hRR];exact⟨_,axd x.2.1,VR.err rfl hx0,RQ.set (h':=⟨h3.b++_,h3.t⟩) ⟨azn (hp'.tr hp3).1,fun j x hj hx=>azn ((hp'.tr hp3).2.1 j x hj hx),(hp'.tr hp3).2.2⟩ (Zf _) hib4 _ _ rfl⟩
       ·have hx0':(x.2.1 !=0)=false:=by simp[hx0]
        rw[if_neg (by simp[hx0])]at hit;have hv:=hv3 hx0;obtain⟨X',t'',hX1,hX2,hX3,hX4,hX5⟩:=(Gs.keep (h':=h3) gX fun t n hh=>hp3.2.2 _ _ hh).app (Zl htl hp3.tlen) 80 x.2.2.cells (by rw[V.cellss_length];omega) (by decide);rw[←hv]at hX1 hX2;have hdd:=V.cells_data x.2.2;rw[←hv]at hdd;simp only[ZC,Yt,ZY,Zc,A.data]at hdd;obtain⟨d0,d1,d2,d3,d4⟩:=hdd;obtain⟨Wx,ox,rfl⟩:=Gs.sl (hX2 []);obtain⟨Wy,oy,rfl⟩:=Gs.sl gY;refine go0 (ai t0 (ai t1 (ai t4 (ai t9 (ai t55 (ai t56 (ai @azw (ai hx0' (ai h4n (ai h9n (ai hs4 (ai o0 (ai o1 (ai o2 (ai o3 (ai o4 (ai ei (ai d0 (ai d1 (ai d2 (ai d3 d4))))))))))))))))))))) ?_;refine byk (v:=.sl Wx ox (V.cellss is++[[a0,a1,a2,a3,a4]])) (h':=⟨h3.b++[.cells 40 [a0,a1,a2,a3,a4]],t''⟩) rfl ?_ ?_
        ·simp only[aql,az5,az6,aj7,avd,az4,aq9,aq7,aq6,azi,aqa,astep,bop,uop,loadA,storeA,ssliceA,eqA,eqCells,fillA,rowsA,setCells,A.cells,azy,ZC,Yt,ZY,Zx,ZR,YA,YH,YO,ZZ,Yo,ZW,Ym,ZN,ZH,ZM,ZF,Zh,Zy,Zk,Zo,ZB,Yf,Yu,Yv,ZU,Z3,Yk,YY,Za,Yl,Nat.reduceAdd,Nat.reduceSub,Nat.reduceMul,Nat.reduceLeDiff,Nat.reduceEqDiff,Nat.reduceBEq,Yb,YI,if_true,if_false,reduceIte,ite_true,ite_false,true_and,and_true,ne_eq,Yh,Ys,Zi,reduceCtorEq,and_self,YD,Yg,Zf,ZP,ZL,decide_true,decide_false];exact hX1 _
        refine go0 (ai t0 (ai t1 (ai t4 (ai t9 (ai t55 (ai t56 (ai h9n ei))))))) ?_;refine⟨c0.2-(j+1),by omega,j+1,x.1,is++[x.2.2],ks',.sl Wx ox (V.cellss is++[[a0,a1,a2,a3,a4]]),.sl Wy oy (strsA ks'),rfl,by omega,?_,?_,by omega,by simp;omega,by omega,?_,?_,?_,?_,hX4,?_⟩
        ·rw[show c0.2-(j+1)=d by omega];exact hit
        ·have hp3':=hp'.tr hp3;refine⟨?_,fun j y hj hy=>?_,fun t y hy=>?_⟩
         ·show(List.set _ _ _)[i]?=_
          rw[Zs,if_neg (Ne.symm hil1)];exact azn hp3'.1
         ·have hjl:j<hb.length:=(Zd.1 hy).1;show(List.set _ _ _)[j]?=_
          rw[Zs,if_neg (by omega)];exact azn (hp3'.2.1 j y hj hy)
         ·exact hX3 t y (Zd.1 hy).1 (hp3'.2.2 t y hy)
        ·show(List.set _ _ _)[_]?=_
         rw[Zs,if_neg (Ne.symm hb4)];exact h4n _
        ·show(List.set _ _ _)[_]?=_
         rw[Zs,if_pos rfl,if_pos (by simp;omega)]
        ·rw[aqx,←hv];exact hX2 _
        ·exact Gs.keep (Gs.keep (h':=h3) gY fun t n hh=>hp3.2.2 _ _ hh) fun t n hh=>hX5 t _ _ _ (by decide) hh
        ·(exact azq (ai t0 (ai t1 (ai t4 (ai t9 (ai t55 (ai t56 ei)))))))
     ·have hlt2:¬(j:Int)<(c0.2:Int):=by omega
      rw[show c0.2-j=0 by omega,Val.itemsW]at hit;refine go0 (ai t0 (ai t1 (ai t4 (ai t9 (ai t55 (ai t56 hlt2)))))) ?_;exact leaf _ _ p 0 [] is ks X Y (by(exact ev0 t0)) (by(exact ev0 t4)) (by(exact ev0 t9)) hp g4 g9 (Gs.one gX) (Gs.one gY) (by rw[hR,hW,←hit]) (Gs.le gX) (Gs.le gY)
  rw[if_neg hk45]at hW;have e4:(q.2==4)=false:=by simp;omega
  have e5:(q.2==5)=false:=by simp;omega
  have g9:(h1.b++[(.cells 40 [.int .i64 q.2,.int .i64 0,.str [],.sl 0 .nil [],.sl 0 .nil []]:Blk)])[h1.b.length]?=some (.cells 40 [.int .i64 q.2,.int .i64 0,.str [],.sl 0 .nil [],.sl 0 .nil []]):=ZJ;refine go0 (ai he'' (ai hk0 (ai hk6 (ai @azw (ai e1 (ai e2 (ai e3 (ai e4 e5)))))))) ?_;exact leaf _ _ q.1 0 [] [] [] _ _ (by(exact ev0 ti)) (by(exact ev0 ti)) (by(exact ev0 ti)) ⟨azn hq1.1,fun j x hj hx=>azn (hq1.2.1 j x hj hx),hq1.2.2⟩ (azn hz1) g9 rfl rfl (by rw[hR,hW,hqe]) hnilX hnilY
end AX
theorem Wire.strR_len(r:Wire.St):(Wire.strR r).2.length≤r.rest.length:=by
 have:=Wire.cntR_rest r 1;unfold Wire.strR;dsimp only;split
 ·simp
 ·simp;omega
theorem V.lensS_of:∀{l:List V},(∀x∈l,x.lens)→V.lensS l
 |[],_=>by unfold V.lensS;trivial
 |v::l,h=>by
  unfold V.lensS;exact⟨h v (by simp),V.lensS_of fun x hx=>h x (by simp[hx])⟩
theorem V.lens_of{k n:Int}{s:List UInt8}{is:List V}{ks:List (List UInt8)}(h1:is.length≤1000000000)(h2:ks.length≤1000000000)(h3:s.length≤1000000000)(h4:∀q∈ks,q.length≤1000000000)(h5:∀x∈is,x.lens):(V.mk k n s is ks).lens:=by
 unfold V.lens;simp only[maxLen];exact⟨by omega,by omega,by omega,fun q hq=>by have:=h4 q hq;omega,V.lensS_of h5⟩
namespace Val
theorem itemsW_lens{one:Wire.St→Res}(h1:∀r,r.rest.length≤100000000→(one r).2.2.lens)(hle:∀r,(one r).1.rest.length≤r.rest.length)(m:Bool):∀(c:Nat) (r:Wire.St) (is:List V) (ks:List (List UInt8)),r.rest.length≤100000000→(∀x∈is,x.lens)→(∀k∈ks,k.length≤1000000000) →
  (∀x∈(itemsW one m c r is ks).2.2.1,x.lens)∧(∀k∈(itemsW one m c r is ks).2.2.2,k.length≤1000000000)∧(itemsW one m c r is ks).2.2.1.length≤is.length+c∧(itemsW one m c r is ks).2.2.2.length≤ks.length+c
 |0,r,is,ks,hr,hi,hk=>by rw[itemsW];exact⟨hi,hk,Zf _,Zf _⟩
 |c+1,r,is,ks,hr,hi,hk=>by
  obtain⟨q,hqe⟩:∃q,q=if m then Wire.strR r else(r,[]):=⟨_,rfl⟩
  have hq:q.1.rest.length≤r.rest.length∧q.2.length≤r.rest.length:=by
   rw[hqe];split
   ·exact⟨Wire.strR_rest r,Wire.strR_len r⟩
   ·exact⟨Zf _,by simp⟩
  rw[itemsW_step one m c r is ks q hqe];have h2:=hle q.1;split
  ·exact⟨hi,hk,by simp,by simp⟩
  ·have ih:=itemsW_lens h1 hle m c (one q.1).1 (is++[(one q.1).2.2]) (if m then ks++[q.2]else ks) (by omega) (fun x hx=>by
    rcases Yz.1 hx with hx|hx
    ·exact hi x hx
    ·rw[Yw.1 hx];exact h1 _ (by omega)) (fun k hkk=>by
    split at hkk
    ·rcases Yz.1 hkk with hkk|hkk
     ·exact hk k hkk
     ·rw[Yw.1 hkk];omega
    ·exact hk k hkk)
   refine⟨ih.1,ih.2.1,?_,?_⟩
   ·have:=ih.2.2.1;simp only[Za,Zh,Zy]at this;omega
   ·have:=ih.2.2.2;have hl:(if m then ks++[q.2]else ks).length≤ks.length+1:=by split<;>simp
    omega
theorem zero_lens:zeroV.lens:=V.lens_of (by simp) (by simp) (by simp) (by simp) (by simp)
theorem read_lens:∀(f:Nat) (r:Wire.St),r.rest.length≤100000000→(read f r).2.2.lens
 |0,r,hr=>by rw[read];exact zero_lens
 |f+1,r,hr=>by
  have ih:=read_lens f;have hn:=Wire.numR_rest r;have hs2:=Wire.strR_len (Wire.numR r).1;have hc2:=Wire.cntR_rest (Wire.numR r).1 1;have hc3:=Wire.cntR_cnt (Wire.numR r).1;have hi2:=itemsW_lens ih (read_le f) ((Wire.numR r).2==5) (Wire.cntR (Wire.numR r).1 1).2 (Wire.cntR (Wire.numR r).1 1).1 [] [] (by omega) (by simp) (by simp);simp only[Zy]at hi2;rw[read];unfold readW;dsimp only;split
  ·exact zero_lens
  ·split
   ·exact zero_lens
   ·split
    ·exact zero_lens
    ·split
     ·exact V.lens_of (by simp) (by simp) (by simp) (by simp) (by simp)
     ·split
      ·exact V.lens_of (by simp) (by simp) (by omega) (by simp) (by simp)
      ·split
       ·exact V.lens_of (by omega) (by omega) (by simp) hi2.2.1 hi2.1
       ·exact V.lens_of (by simp) (by simp) (by simp) (by simp) (by simp)
end Val
namespace AX
theorem bjf(r:Wire.St)(i:Nat)(h:Hp)(hbi:h.b[i]?=some (rdr r))(hlen:r.rest.length≤100000000):AC 114 [.ptr i 0] h fun v h'=>v=.tup [(Val.readValue r).2.2.A,.int .i64 (Val.readValue r).2.1]∧RQ i (Val.readValue r).1 h h':=by
 obtain⟨hb,ht⟩:=h;refine fo ?_;have hil:i<hb.length:=(Zd.1 hbi).1;have hR:Val.readValue r=if(Val.read 32 r).2.1≠0 then((Val.read 32 r).1,(Val.read 32 r).2.1,Val.zeroV)else if Val.checkZ (Val.read 32 r).2.2≠0 then((Val.read 32 r).1,Val.checkZ (Val.read 32 r).2.2,Val.zeroV)else Val.read 32 r:=by rw[Val.readValue]
 have hlens:=Val.read_lens 32 r hlen;refine go0 ti ?_;refine gc0 ti ?_;refine(cyy 32 r i _ (Zf _) (azn hbi) hlen).mono ?_;rintro v h1 ⟨⟨l3,rfl,hl3,ho3,hv3⟩,hp⟩;obtain⟨x,hx⟩:=Ex (Val.read 32 r);rw[hx]at hR hv3 hp hlens⊢;obtain⟨a0,a1,a2,a3,a4,rfl⟩:=cyh hl3;have g2:h1.b[hb.length]?=some (.cells 40 [.int .i64 0,.int .i64 0,.str [],.sl 0 .nil [],.sl 0 .nil []]):=hp.2.1 _ _ (by omega) ZJ;have hl2:hb.length<h1.b.length:=(Zd.1 g2).1;have hib:i≠hb.length:=by omega
 have h2n:∀y,(h1.b++[y])[hb.length]?=_:=fun y=>azn g2
 have hs2:∀y z,((h1.b++[y]).set hb.length z)[hb.length]?=some z:=fun y z=>by
  rw[Zs,if_pos rfl,if_pos (by simp;omega)]
 have hout:∀y z,RQ i x.1 ⟨hb,ht⟩ ⟨(h1.b++[y]).set hb.length z,h1.t⟩:=fun y z=>
  RQ.set (h:=⟨hb,ht⟩) (h':=⟨h1.b++[y],h1.t⟩) ⟨azn hp.1,fun j w hj hw=>azn (hp.2.1 j w hj (azn hw)),hp.2.2⟩ (Zf _) hib _ _ rfl
 simp only[ZC,Yt,ZY,Zc,A.one]at ho3;obtain⟨o0,o1,o2,o3,o4⟩:=ho3;by_cases hx0:x.2.1=0
 rotate_left
 ·have e1:(x.2.1==0)=false:=by simp[hx0]
  have e2:(x.2.1 !=0)=true:=by simp[hx0]
  rw[if_pos hx0]at hR;refine go0 (ai @azw (ai o0 (ai o1 (ai o2 (ai o3 (ai o4 (ai e1 (ai e2 (ai h2n hs2))))))))) ?_;rw[hR];exact⟨_,axd x.2.1,rfl,hout _ _⟩
 have e1:(x.2.1==0)=true:=by simp[hx0]
 rw[if_neg (by simp[hx0])]at hR;have hv:=hv3 hx0;refine go0 (ai @azw (ai o0 (ai o1 (ai o2 (ai o3 (ai o4 (ai e1 (ai h2n hs2)))))))) ?_;refine gc0 @azw ?_;have hck:=fun h=>akg x.2.2 hlens h
 rw[V.A,←hv]at hck;refine(hck _).mono ?_;rintro v h2 ⟨rfl,rfl⟩;by_cases hz:Val.checkZ x.2.2=0
 ·rw[if_neg (by simp[hz])]at hR;have e2:(Val.checkZ x.2.2 !=0)=false:=by simp[hz]
  refine go0 (ai @azw (ai o0 (ai o1 (ai o2 (ai o3 (ai o4 (ai e2 (ai h2n hs2)))))))) ?_;rw[hR];refine⟨_,le_refl _,?_,hout _ _⟩;rw[aqa,V.A,←hv,hx0]
 ·rw[if_pos hz]at hR;have e2:(Val.checkZ x.2.2 !=0)=true:=by simp[hz]
  refine go0 (ai @azw (ai o0 (ai o1 (ai o2 (ai o3 (ai o4 (ai e2 (ai h2n hs2)))))))) ?_;rw[hR];exact⟨_,axd (Val.checkZ x.2.2),rfl,hout _ _⟩
theorem axh(l:List UInt8)(h:Hp):AC 32 [.str l] h fun v h'=>v=.ptr h.b.length 0∧h'=⟨h.b++[rdr ⟨l,0⟩],h.t⟩:=by
 refine fo ?_;refine go0 ti ?_;exact⟨_,le_refl _,rfl,rfl⟩
theorem by3(r:Wire.St):(rdr r).loc 0:=rfl
theorem av3{h:Hp}{i:Nat}{r:Wire.St}(hb:h.b[i]?=some (rdr r))(hlen:r.rest.length≤100000000):AC 114 [.ptr i 0] h fun v h'=>v=.tup [(Val.readValue r).2.2.A,.int .i64 (Val.readValue r).2.1]∧h'=⟨h.b.set i (rdr (Val.readValue r).1),h.t⟩:=by
 have h1:AC 114 [.ptr 0 0] ⟨[rdr r],[]⟩ fun v h'=>∃b',h'.b[0]?=some b'∧v=.tup [(Val.readValue r).2.2.A,.int .i64 (Val.readValue r).2.1]∧b'=rdr (Val.readValue r).1:=
  (bjf r 0 ⟨[rdr r],[]⟩ rfl hlen).mono fun v h' ⟨e,hp⟩=>⟨_,hp.1,e,rfl⟩
 refine(ACall.lift1 h1 rfl (by3 r) ?_ hb).mono ?_
 ·rintro v b' ⟨rfl,rfl⟩;refine⟨?_,by3 _⟩;obtain⟨k,n,s,is,ks⟩:=(Val.readValue r).2.2;rfl
 ·rintro v h' ⟨b',⟨rfl,rfl⟩,rfl⟩;exact⟨rfl,rfl⟩
theorem axa(r:Wire.St)(hlen:r.rest.length≤100000000):(Val.readValue r).2.2.lens:=by
 unfold Val.readValue;dsimp only;split
 ·exact Val.zero_lens
 ·split
  ·exact Val.zero_lens
  ·exact Val.read_lens 32 r hlen
end AX
namespace Wire
theorem cntR_err(r:St)(n:Nat):(cntR r n).1.e=0∨(cntR r n).2=0:=by
 unfold cntR;split
 ·exact .inr rfl
 ·split
  ·exact .inr rfl
  ·split
   ·exact .inr rfl
   ·split
    ·exact .inr rfl
    ·left;simp_all
end Wire
namespace Val
theorem itemsW_m(one:Wire.St→Res)(c:Nat)(r:Wire.St)(is:List V)(ks:List (List UInt8)):itemsW one true (c+1) r is ks=if(one (Wire.strR r).1).2.1≠0 then((one (Wire.strR r).1).1,(one (Wire.strR r).1).2.1,is,ks)else itemsW one true c (one (Wire.strR r).1).1 (is++[(one (Wire.strR r).1).2.2]) (ks++[(Wire.strR r).2]):=itemsW_step one true c r is ks (Wire.strR r) rfl
theorem itemsW_l(one:Wire.St→Res)(c:Nat)(r:Wire.St)(is:List V)(ks:List (List UInt8)):itemsW one false (c+1) r is ks=if(one r).2.1≠0 then((one r).1,(one r).2.1,is,ks)else itemsW one false c (one r).1 (is++[(one r).2.2]) ks:=itemsW_step one false c r is ks (r,[]) rfl
theorem read_err(f:Nat)(r:Wire.St)(h:r.e≠0):read f r=(r,r.e,zeroV):=by
 cases f with
 |zero=>rw[read,if_pos h]
 |succ f=>rw[read,readW,if_pos h]
theorem itemsW_e{one:Wire.St→Res}(h1:∀r,(one r).2.1=0→(one r).1.e=0)(m:Bool):∀(c:Nat) (r:Wire.St) (is:List V) (ks:List (List UInt8)),(itemsW one m c r is ks).2.1=0→(itemsW one m c r is ks).1.e=0
 |0,r,is,ks,h=>h
 |c+1,r,is,ks,h=>by
  obtain⟨q,hqe⟩:∃q,q=if m then Wire.strR r else(r,[]):=⟨_,rfl⟩
  rw[Val.itemsW_step one m c r is ks q hqe]at h⊢;by_cases hx:(one q.1).2.1≠0
  ·rw[if_pos hx]at h;exact absurd h hx
  ·rw[if_neg hx]at h⊢;exact itemsW_e h1 m c _ _ _ h
theorem read_e:∀(f:Nat) (r:Wire.St),(read f r).2.1=0→(read f r).1.e=0
 |0,r,h=>by
  rw[read]at h⊢;split at h
  ·next hr=>exact absurd h hr
  ·simp at h
 |f+1,r,h=>by
  have ih:=read_e f;rw[read]at h⊢;unfold readW at h⊢;dsimp only at h⊢;split
  ·next h1=>rw[if_pos h1]at h;exact h
  ·next h1=>
   rw[if_neg h1]at h;split
   ·next h2=>rw[if_pos h2]at h;exact h
   ·next h2=>
    rw[if_neg h2]at h;split
    ·next h3=>rw[if_pos h3]at h;simp at h
    ·next h3=>
     rw[if_neg h3]at h;split
     ·next h4=>rw[if_pos h4]at h;exact h
     ·next h4=>
      rw[if_neg h4]at h;split
      ·next h5=>rw[if_pos h5]at h;exact h
      ·next h5=>
       rw[if_neg h5]at h;split
       ·next h6=>rw[if_pos h6]at h;exact itemsW_e ih _ _ _ _ _ h
       ·next h6=>simpa using h2
end Val
namespace AX
theorem cxy{r:Wire.St}:∀C c,Rep C (.agg [.str r.rest,.int .i64 r.e]) c→c=.agg #[.string ⟨r.rest.toArray⟩,.int .i64 r.e]:=fun C c h=>by
 obtain⟨cs,rfl,h2⟩:=rep_agg.1 h;obtain⟨c0,d0,rfl,e0,h3⟩:=repL_cons.1 h2;obtain⟨c1,d1,rfl,e1,h4⟩:=repL_cons.1 h3;rw[repL_nil]at h4;subst h4;rw[rep_str.1 e0,rep_int.1 e1]
theorem cxc{r:Wire.St}(C:Ctx):Rep C (.agg [.str r.rest,.int .i64 r.e]) (rdV r):=
 rep_agg.2 ⟨[.string ⟨r.rest.toArray⟩,.int .i64 r.e],rfl,repL_cons.2 ⟨_,_,rfl,rep_str.2 rfl,repL_cons.2 ⟨_,_,rfl,rep_int.2 rfl,repL_nil.2 rfl⟩⟩⟩
theorem cz1{x y:A}{a b:Value}(hx:∀C,Rep C x a)(hy:∀C,Rep C y b)(C:Ctx):Rep C (.tup [x,y]) (.tuple #[a,b]):=
 rep_tup.2 ⟨[a,b],rfl,repL_cons.2 ⟨_,_,rfl,hx C,repL_cons.2 ⟨_,_,rfl,hy C,repL_nil.2 rfl⟩⟩⟩
theorem ajt(r:Wire.St)(hl:r.rest.length≤100000000)(h:Hp):AT 83 [.agg [.str r.rest,.int .i64 r.e]] h (.tup [.agg [.str (Wire.numR r).1.rest,.int .i64 (Wire.numR r).1.e],.int .i64 (Wire.numR r).2]):=
 azo (aqu cxy) (fun w _=>aj2 r w hl) (cz1 cxc fun C=>rep_int.2 rfl) h
theorem ajo(r:Wire.St)(hl:r.rest.length≤100000000)(h:Hp):AT 37 [.agg [.str r.rest,.int .i64 r.e]] h (.tup [.agg [.str (Wire.strR r).1.rest,.int .i64 (Wire.strR r).1.e],.str (Wire.strR r).2]):=
 azo (aqu cxy) (fun w _=>bz5 r w hl) (cz1 cxc fun C=>rep_str.2 rfl) h
theorem ayi(r:Wire.St)(hl:r.rest.length≤100000000)(h:Hp):AT 80 [.agg [.str r.rest,.int .i64 r.e],.int .i64 1] h (.tup [.agg [.str (Wire.cntR r 1).1.rest,.int .i64 (Wire.cntR r 1).1.e],.int .i64 ((Wire.cntR r 1).2:Nat)]):=
 azo (bwb cxy bx9) (fun w _=>avq r w hl) (cz1 cxc fun C=>rep_int.2 rfl) h
theorem akn(l:List UInt8)(h:Hp):AT 38 [.str l] h (.agg [.str l,.int .i64 0]):=
 azo (aqu aqt) (fun w _=>akb l w) (cxc (r:=⟨l,0⟩)) h
theorem czl(r:Wire.St)(h:Hp):AT 39 [.agg [.str r.rest,.int .i64 r.e]] h (.int .i64 r.rest.length):=
 azo (aqu cxy) (fun w _=>bjo r w) (fun C=>rep_int.2 rfl) h
def RRA(x:Val.Res):A:=.tup [.agg [.str x.1.rest,.int .i64 x.1.e],(if x.2.1=0 then x.2.2 else Val.zeroV).A,.int .i64 x.2.1]
theorem akh(x:Val.Res):(RRA x).pure=true:=by
 have:=V.pure (if x.2.1=0 then x.2.2 else Val.zeroV);unfold RRA;simp[A.pure,A.data]at this⊢;exact this
theorem aqg(q:Wire.St)(e:Int)(he:e≠0)(v:V):le (.tup [.agg [.str q.rest,.int .i64 q.e],.agg [.int .i64 0,.int .i64 0,.str [],.sl 0 .nil [],.sl 0 .nil []],.int .i64 e]) (RRA (q,e,v)):=by
 unfold RRA;dsimp only;rw[if_neg he];simp[le,bw6,le2,leL,le1,V.A,V.cells,Val.zeroV,V.cellss,strsA]
theorem bxt(q:Wire.St)(he:q.e=0)(k n:Int)(s:List UInt8)(is:List V)(ks:List (List UInt8)){X Y:A}(hX:le1 X (.sl 5 .no (V.cellss is)))(hY:le1 Y (.sl 1 .no (strsA ks))):
  le (.tup [.agg [.str q.rest,.int .i64 q.e],.agg [.int .i64 k,.int .i64 n,.str s,X,Y],.int .i64 0]) (RRA (q,q.e,.mk k n s is ks)):=by
 unfold RRA;dsimp only;rw[if_pos he,he];simp only[V.A,V.cells,le,bw6,le2,leL,hX,hY,and_true,true_and];simp[le1]
theorem Gs.grow{E:TypeId}{W:Nat}{t:List (TypeId×Nat×Nat)}{W1:Nat}{o1:Own}{rows:List (List A)}(hg:Gs E W 0 ⟨[],t⟩ rows (.sl W1 o1 rows))(bytes:Nat)(y:List A)(h1:rows.length+1≤1000000000)(h2:bytes≤1000):
  ∃W' o' t',(∀b,appA ⟨b,t⟩ E W bytes (.sl W1 o1 rows) (.sl W .no [y])=some (.sl W' o' (rows++[y]),⟨b,t'⟩))∧Gs E W 0 ⟨[],t'⟩ (rows++[y]) (.sl W' o' (rows++[y]))∧(∀(E':TypeId) (W':Nat) (rows':List (List A)) (x'':A),E'≠E→Gs E' W' 0 ⟨[],t⟩ rows' x''→Gs E' W' 0 ⟨[],t'⟩ rows' x''):=by
 obtain⟨x',t',k1,k2,k3,k4,k5⟩:=hg.app (Zz _) bytes y h1 h2;obtain⟨W',o',rfl⟩:=(k2 []).sl;exact⟨W',o',t',k1,k2 [],fun E' W' rows' x'' hne hg'=>Gs.keep hg' fun k n hh=>k5 k _ _ _ hne hh⟩
theorem cqn(one:Wire.St→Val.Res)(r:Wire.St)(h:(Wire.numR r).1.e≠0):Val.readW one r=((Wire.numR r).1,(Wire.numR r).1.e,Val.zeroV):=by
 unfold Val.readW;by_cases hr:r.e≠0
 ·rw[if_pos hr];have:Wire.numR r=(r,0):=by unfold Wire.numR;rw[if_pos hr]
  rw[this]
 ·rw[if_neg hr];dsimp only;rw[if_pos h]
theorem cvp(one:Wire.St→Val.Res)(r:Wire.St)(h:(Wire.numR r).1.e=0):r.e=0:=by
 by_cases hr:r.e=0
 ·exact hr
 ·have:Wire.numR r=(r,0):=by unfold Wire.numR;rw[if_pos hr]
  rw[this]at h;exact absurd h hr
theorem ck2:∀(f:Nat) (r:Wire.St),f≤32→(f=0→r.e=0)→r.rest.length≤100000000→AC 158 [.agg [.str r.rest,.int .i64 r.e],.int .i64 (33-(f:Int))] ⟨[],[]⟩ fun v _=>v=RRA (Val.read f r):=by
 intro f;induction f with
 |zero=>
  intro r hf he hlen;have he:=he rfl;refine fo ?_;have hlv:(33-((0:Nat):Int))>32:=by decide
  refine azb hlv ?_;have hR:Val.read 0 r=(r,4,Val.zeroV):=by rw[Val.read,if_neg (by simp[he])]
  rw[hR];exact⟨_,aqg r 4 (by decide) _,rfl⟩
 |succ f ih=>
  intro r hf he hlen;refine fo ?_;have hlv:¬(33-((f+1:Nat):Int))>32:=by omega
  have hR:Val.read (f+1) r=Val.readW (Val.read f) r:=by rw[Val.read]
  rw[hR];have hn:=Wire.numR_rest r;refine azb hlv ?_;refine use (ajt r hlen _) ?_;by_cases hqe:(Wire.numR r).1.e=0
  rotate_left
  ·have hb:((Wire.numR r).1.e !=0)=true:=by simp[hqe]
   refine azb hb ?_;rw[cqn _ _ hqe];exact⟨_,aqg _ _ hqe _,rfl⟩
  have hb:((Wire.numR r).1.e !=0)=false:=by simp[hqe]
  have hre:=cvp (Val.read f) r hqe;unfold Val.readW;rw[if_neg (by simp[hre])];dsimp only;rw[if_neg (by simp[hqe])];obtain⟨q,hq⟩:=Ex (Wire.numR r);rw[hq]at hqe hb hn⊢;by_cases h0:q.2=0
  ·have e0:(q.2==0)=true:=by simp[h0]
   refine azb (ai hb e0) ?_;rw[if_neg (by omega),if_neg (by omega),if_neg (by omega),if_neg (by omega)];exact⟨_,bxt q.1 hqe q.2 0 [] [] [] (by simp[le1,V.cellss]) (by simp[le1,strsA]),by rw[hqe]⟩
  have e0:(q.2==0)=false:=by simp[h0]
  by_cases h6:q.2=6
  ·have e6:(q.2==6)=true:=by simp[h6]
   refine azb (ai hb (ai e0 e6)) ?_;rw[if_neg (by omega),if_neg (by omega),if_neg (by omega),if_neg (by omega)];exact⟨_,bxt q.1 hqe q.2 0 [] [] [] (by simp[le1,V.cellss]) (by simp[le1,strsA]),by rw[hqe]⟩
  have e6:(q.2==6)=false:=by simp[h6]
  by_cases h12:q.2=1∨q.2=2
  ·rw[if_neg (by omega),if_pos h12];have hnum:∀{G:Prop},((q.2==1)=true→G)→((q.2==1)=false→(q.2==2)=true→G)→G:=fun a b=>by
    rcases h12 with h|h
    ·exact a (by simp[h])
    ·exact b (by simp[h]) (by simp[h])
   refine hnum (fun e1=>?_) (fun e1 e2=>?_);all_goals
    first|(refine azb (ai hb (ai e0 (ai e6 (ai e1 e2)))) ?_)|(refine azb (ai hb (ai e0 (ai e6 e1))) ?_)
    refine use (ajt q.1 (by omega) _) ?_;by_cases hz:(Wire.numR q.1).1.e=0
    ·have hz':((Wire.numR q.1).1.e !=0)=false:=by simp[hz]
     refine azb hz' ?_;exact⟨_,bxt _ hz q.2 (Wire.numR q.1).2 [] [] [] (by simp[le1,V.cellss]) (by simp[le1,strsA]),by rw[hz]⟩
    ·have hz':((Wire.numR q.1).1.e !=0)=true:=by simp[hz]
     refine azb hz' ?_;exact⟨_,aqg _ _ hz _,rfl⟩
  have e1:(q.2==1)=false:=by simp;omega
  have e2:(q.2==2)=false:=by simp;omega
  by_cases h3:q.2=3
  ·rw[if_neg (by omega),if_neg (by omega),if_pos h3];have e3:(q.2==3)=true:=by simp[h3]
   refine azb (ai hb (ai e0 (ai e6 (ai e1 (ai e2 e3))))) ?_;refine use (ajo q.1 (by omega) _) ?_;by_cases hz:(Wire.strR q.1).1.e=0
   ·have hz':((Wire.strR q.1).1.e !=0)=false:=by simp[hz]
    refine azb hz' ?_;exact⟨_,bxt _ hz q.2 0 (Wire.strR q.1).2 [] [] (by simp[le1,V.cellss]) (by simp[le1,strsA]),by rw[hz]⟩
   ·have hz':((Wire.strR q.1).1.e !=0)=true:=by simp[hz]
    refine azb hz' ?_;exact⟨_,aqg _ _ hz _,rfl⟩
  have e3:(q.2==3)=false:=by simp[h3]
  by_cases h45:q.2=4∨q.2=5
  rotate_left
  ·have e4:(q.2==4)=false:=by simp;omega
   have e5:(q.2==5)=false:=by simp;omega
   refine azb (ai hb (ai e0 (ai e6 (ai e1 (ai e2 (ai e3 (ai e4 e5))))))) ?_;rw[if_pos (by omega)];exact⟨_,aqg q.1 1 (by decide) _,rfl⟩
  rw[if_neg (by omega),if_neg (by omega),if_neg h3,if_pos h45];have hcl:=Wire.cntR_rest q.1 1;have hcc:=Wire.cntR_cnt q.1;have hce:=Wire.cntR_err q.1 1;have hent:∀{G:Prop},((q.2==4)=true→G)→((q.2==4)=false→(q.2==5)=true→G)→G:=fun a b=>by
   rcases h45 with h|h
   ·exact a (by simp[h])
   ·exact b (by simp[h]) (by simp[h])
  have hzA:Val.zeroV.A=.agg [.int .i64 0,.int .i64 0,.str [],.sl 5 .no [],.sl 1 .no []]:=by simp[V.A,V.cells,Val.zeroV,V.cellss,strsA]
  have hlw:IntKind.i64.wrap (33-((f+1:Nat):Int)+1)=33-(f:Int):=by rw[wrap64 (by omega) (by omega)];omega
  refine hent (fun e4=>?_) (fun e4 e5=>?_);all_goals
   first|(refine azb (ai hb (ai e0 (ai e6 (ai e1 (ai e2 (ai e3 (ai e4 e5))))))) ?_)|(refine azb (ai hb (ai e0 (ai e6 (ai e1 (ai e2 (ai e3 e4)))))) ?_)
   refine use (ayi q.1 (by omega) _) ?_;obtain⟨c0,hc0⟩:=Ex (Wire.cntR q.1 1);rw[hc0]at hcl hcc hce⊢;obtain⟨it,hit⟩:=Ex (Val.itemsW (Val.read f) (q.2==5) c0.2 c0.1 [] []);rw[hit];refine azb ti ?_
   refine azf (fun mm ts h=>∃(j:Nat) (p:Wire.St) (is:List V) (ks:List (List UInt8)) (Wx Wy:Nat) (ox oy:Own) (l:List Blk) (t:List (TypeId×Nat×Nat)),mm=c0.2-j∧j≤c0.2 ∧
    h=⟨.cells 94 [.str p.rest,.int .i64 p.e] :: .cells 94 [.str [],.int .i64 0] :: .cells 40 [.int .i64 0,.int .i64 0,.str [],.sl 0 .nil [],.sl 0 .nil []] :: .cells 40 [.int .i64 q.2,.int .i64 0,.str [],.sl Wx ox (V.cellss is),.sl Wy oy (strsA ks)]::l,t⟩ ∧
    Val.itemsW (Val.read f) (q.2==5) (c0.2-j) p is ks=it∧(j<c0.2→p.e=0)∧is.length=j∧ks.length≤j∧p.rest.length≤q.1.rest.length∧Gs 40 5 0 ⟨[],t⟩ (V.cellss is) (.sl Wx ox (V.cellss is))∧Gs 9 1 0 ⟨[],t⟩ (strsA ks) (.sl Wy oy (strsA ks)) ∧
    ts 1=.int .i64 (33-((f+1:Nat):Int))∧ts 2=.ptr 0 0∧ts 4=.ptr 1 0∧ts 5=.ptr 2 0∧ts 8=.ptr 3 0∧ts 9=.int .i64 (c0.2:Nat)∧ts 10=.int .i64 (j:Nat)) c0.2 ?_ ?_
   ·exact⟨0,c0.1,[],[],0,0,.nil,.nil,[],[],by omega,by omega,rfl,hit,fun h=>by omega,rfl,by simp,by omega,.inl ⟨by simp[V.cellss],rfl⟩,.inl ⟨by simp[strsA],rfl⟩,by(exact ev0 ti),by(exact ev0 ti),by(exact ev0 ti),by(exact ev0 ti),by(exact ev0 ti),by(exact ev0 ti),by(exact azq ti)⟩
   ·rintro mm ts h ⟨j,p,is,ks,Wx,Wy,ox,oy,l,t,rfl,hjc,rfl,hit',hpe,hil,hkl,hpl,gX,gY,t1,t2,t4,t5,t8,t9,t10⟩;by_cases hj:j<c0.2
    rotate_left
    ·have hlt:¬((j:Int)<(c0.2:Int)):=by omega
     rw[show c0.2-j=0 by omega,Val.itemsW]at hit';have lX:=Gs.le gX;have lY:=Gs.le gY;by_cases hz:p.e=0
     ·have hz':(p.e !=0)=false:=by simp[hz]
      refine azb (ai t1 (ai t2 (ai t4 (ai t5 (ai t8 (ai t9 (ai t10 (ai hlt hz')))))))) ?_;exact⟨_,bxt p hz q.2 0 [] is ks lX lY,by rw[←hit']⟩
     ·have hz':(p.e !=0)=true:=by simp[hz]
      refine azb (ai t1 (ai t2 (ai t4 (ai t5 (ai t8 (ai t9 (ai t10 (ai hlt hz')))))))) ?_;exact⟨_,aqg p _ hz _,by rw[←hit']⟩
    have hlt:(j:Int)<(c0.2:Int):=by omega
    have hp0:=hpe hj;have hz':(p.e==0)=true:=by simp[hp0]
    have ei:IntKind.i64.wrap ((j:Int)+1)=((j+1:Nat):Int):=by rw[wrap64 (by omega) (by omega)];omega
    obtain⟨d,hd⟩:∃d,c0.2-j=d+1:=⟨c0.2-j-1,by omega⟩;rw[hd]at hit';rcases azk (q.2==5)with e5|e5
    ·rw[e5,Val.itemsW_m]at hit';have hsl:=Wire.strR_rest p;refine azb (ai t1 (ai t2 (ai t4 (ai t5 (ai t8 (ai t9 (ai t10 (ai hlt (ai hz' e5))))))))) ?_;refine use (ajo p (by omega) _) ?_;obtain⟨s,hs⟩:=Ex (Wire.strR p);rw[hs]at hit' hsl⊢;by_cases hse:s.1.e=0
     rotate_left
     ·have hse':(s.1.e !=0)=true:=by simp[hse]
      refine azb (ai t1 (ai t2 (ai t4 (ai t5 (ai t8 (ai t9 (ai t10 hse'))))))) ?_;rw[Val.read_err _ _ hse,if_pos (by simpa using hse)]at hit';exact⟨_,aqg s.1 _ hse _,by rw[←hit']⟩
     have hse':(s.1.e !=0)=false:=by simp[hse]
     obtain⟨Wy',oy',t',hY1,gY',kY⟩:=gY.grow 16 [.str s.2] (by rw[aze];omega) (by decide);have gX':=kY _ _ _ _ (by decide) gX;rw[←az8]at gY';simp only[←az8]at hY1;refine azb (ai t1 (ai t2 (ai t4 (ai t5 (ai t8 (ai t9 (ai t10 (ai hse' (ai hY1 hlw))))))))) ?_;refine use (pcall (ih s.1 (by omega) (fun _=>hse) (by omega)) (akh _) (by simp[A.pure,A.data]) _) ?_;obtain⟨⟨x1,x2,x3⟩,hx⟩:=Ex (Val.read f s.1);have hxl:=Val.read_le f s.1;have hxe:=Val.read_e f s.1;rw[hx]at hit' hxl hxe⊢;by_cases hx0:x2=0
     rotate_left
     ·have hx0':(x2 !=0)=true:=by simp[hx0]
      rw[if_pos hx0]at hit';have hA:RRA (x1,x2,x3)=.tup [.agg [.str x1.rest,.int .i64 x1.e],.agg [.int .i64 0,.int .i64 0,.str [],.sl 5 .no [],.sl 1 .no []],.int .i64 x2]:=by unfold RRA;dsimp only;rw[if_neg hx0,hzA]
      rw[hA];refine azb (ai t1 (ai t2 (ai t4 (ai t5 (ai t8 (ai t9 (ai t10 hx0'))))))) ?_;exact⟨_,aqg x1 _ hx0 _,by rw[←hit']⟩
     have hx0':(x2 !=0)=false:=by simp[hx0]
     rw[if_neg (by simpa using hx0)]at hit';obtain⟨Wx',ox',t'',hX1,gX'',kX⟩:=gX'.grow 80 x3.cells (by rw[V.cellss_length];omega) (by decide);have gY'':=kX _ _ _ _ (by decide) gY';rw[←aqx]at gX'';simp only[←aqx]at hX1;have hA:RRA (x1,x2,x3)=.tup [.agg [.str x1.rest,.int .i64 x1.e],x3.A,.int .i64 x2]:=by unfold RRA;dsimp only;rw[if_pos hx0]
     rw[hA];obtain⟨vk,vn,vs,vi,vy⟩:=x3;have hVA:(V.mk vk vn vs vi vy).A=.agg [.int .i64 vk,.int .i64 vn,.str vs,.sl 5 .no (V.cellss vi),.sl 1 .no (strsA vy)]:=by simp only[V.A,V.cells]
     simp only[V.cells]at hX1;rw[hVA];refine azb (ai t1 (ai t2 (ai t4 (ai t5 (ai t8 (ai t9 (ai t10 (ai hx0' (ai hX1 ei))))))))) ?_;exact⟨c0.2-(j+1),by omega,j+1,x1,_,_,Wx',Wy',ox',oy',_,t'',rfl,by omega,rfl,by rw[show c0.2-(j+1)=d by omega,e5];exact hit',fun _=>hxe hx0,by simp;omega,by(try simp);omega,by(try simp only at hxl);omega,gX'',gY'',by(exact ev0 t1),by(exact ev0 t2),by(exact ev0 t4),by(exact ev0 t5),by(exact ev0 t8),by(exact ev0 t9),by(exact ev0 ei)⟩
    ·rw[e5,Val.itemsW_l]at hit';refine azb (ai t1 (ai t2 (ai t4 (ai t5 (ai t8 (ai t9 (ai t10 (ai hlt (ai hz' (ai e5 hlw)))))))))) ?_;refine use (pcall (ih p (by omega) (fun _=>hp0) (by omega)) (akh _) (by simp[A.pure,A.data]) _) ?_;obtain⟨⟨x1,x2,x3⟩,hx⟩:=Ex (Val.read f p);have hxl:=Val.read_le f p;have hxe:=Val.read_e f p;rw[hx]at hit' hxl hxe⊢;by_cases hx0:x2=0
     rotate_left
     ·have hx0':(x2 !=0)=true:=by simp[hx0]
      rw[if_pos hx0]at hit';have hA:RRA (x1,x2,x3)=.tup [.agg [.str x1.rest,.int .i64 x1.e],.agg [.int .i64 0,.int .i64 0,.str [],.sl 5 .no [],.sl 1 .no []],.int .i64 x2]:=by unfold RRA;dsimp only;rw[if_neg hx0,hzA]
      rw[hA];refine azb (ai t1 (ai t2 (ai t4 (ai t5 (ai t8 (ai t9 (ai t10 hx0'))))))) ?_;exact⟨_,aqg x1 _ hx0 _,by rw[←hit']⟩
     have hx0':(x2 !=0)=false:=by simp[hx0]
     rw[if_neg (by simpa using hx0)]at hit';obtain⟨Wx',ox',t'',hX1,gX'',kX⟩:=gX.grow 80 x3.cells (by rw[V.cellss_length];omega) (by decide);have gY'':=kX _ _ _ _ (by decide) gY;rw[←aqx]at gX'';simp only[←aqx]at hX1;have hA:RRA (x1,x2,x3)=.tup [.agg [.str x1.rest,.int .i64 x1.e],x3.A,.int .i64 x2]:=by unfold RRA;dsimp only;rw[if_pos hx0]
     rw[hA];obtain⟨vk,vn,vs,vi,vy⟩:=x3;have hVA:(V.mk vk vn vs vi vy).A=.agg [.int .i64 vk,.int .i64 vn,.str vs,.sl 5 .no (V.cellss vi),.sl 1 .no (strsA vy)]:=by simp only[V.A,V.cells]
     simp only[V.cells]at hX1;rw[hVA];refine azb (ai t1 (ai t2 (ai t4 (ai t5 (ai t8 (ai t9 (ai t10 (ai hx0' (ai hX1 ei))))))))) ?_;exact⟨c0.2-(j+1),by omega,j+1,x1,_,_,Wx',Wy,ox',oy,_,t'',rfl,by omega,rfl,by rw[show c0.2-(j+1)=d by omega,e5];exact hit',fun _=>hxe hx0,by simp;omega,by(try simp);omega,by(try simp only at hxl);omega,gX'',gY'',by(exact ev0 t1),by(exact ev0 t2),by(exact ev0 t4),by(exact ev0 t5),by(exact ev0 t8),by(exact ev0 t9),by(exact ev0 ei)⟩
theorem bql(r:Wire.St)(hlen:r.rest.length≤100000000)(h:Hp):AT 122 [.agg [.str r.rest,.int .i64 r.e]] h (RRA (Val.readValue r)):=by
 refine pcall ?_ (akh _) (by simp[A.pure,A.data]) h;refine fo ?_;have hR:Val.readValue r=if(Val.read 32 r).2.1≠0 then((Val.read 32 r).1,(Val.read 32 r).2.1,Val.zeroV)else if Val.checkZ (Val.read 32 r).2.2≠0 then((Val.read 32 r).1,Val.checkZ (Val.read 32 r).2.2,Val.zeroV)else Val.read 32 r:=by rw[Val.readValue]
 have hlens:=Val.read_lens 32 r hlen;have hzA:Val.zeroV.A=.agg [.int .i64 0,.int .i64 0,.str [],.sl 5 .no [],.sl 1 .no []]:=by simp[V.A,V.cells,Val.zeroV,V.cellss,strsA]
 rw[hR];refine azb ti ?_;refine use (pcall (ck2 32 r (Zf _) (fun h=>absurd h (by decide)) hlen) (akh _) (by simp[A.pure,A.data]) _) ?_;obtain⟨⟨x1,x2,x3⟩,hx⟩:=Ex (Val.read 32 r);rw[hx]at hlens⊢;dsimp only at hlens⊢;by_cases hx0:x2=0
 rotate_left
 ·have e1:(x2==0)=false:=by simp[hx0]
  have e2:(x2 !=0)=true:=by simp[hx0]
  have hA:RRA (x1,x2,x3)=.tup [.agg [.str x1.rest,.int .i64 x1.e],.agg [.int .i64 0,.int .i64 0,.str [],.sl 5 .no [],.sl 1 .no []],.int .i64 x2]:=by unfold RRA;dsimp only;rw[if_neg hx0,hzA]
  rw[hA,if_pos hx0];refine azb (ai e1 e2) ?_;exact⟨_,aqg x1 _ hx0 _,rfl⟩
 have e1:(x2==0)=true:=by simp[hx0]
 have hA:RRA (x1,x2,x3)=.tup [.agg [.str x1.rest,.int .i64 x1.e],x3.A,.int .i64 x2]:=by unfold RRA;dsimp only;rw[if_pos hx0]
 rw[hA,if_neg (by simp[hx0])];have hck:=fun h=>ake x3 hlens h
 obtain⟨k',n',s',is',ks2⟩:=x3;have hVA:(V.mk k' n' s' is' ks2).A=.agg [.int .i64 k',.int .i64 n',.str s',.sl 5 .no (V.cellss is'),.sl 1 .no (strsA ks2)]:=by simp only[V.A,V.cells]
 rw[hVA]at hck⊢;refine azb e1 ?_;refine use (hck _) ?_;by_cases hz:Val.checkZ (.mk k' n' s' is' ks2)=0
 ·have e2:(Val.checkZ (.mk k' n' s' is' ks2)!=0)=false:=by simp[hz]
  refine azb e2 ?_;rw[if_neg (by simp[hz]),hA,hx0,hVA];exact Fn rfl
 ·have e2:(Val.checkZ (.mk k' n' s' is' ks2)!=0)=true:=by simp[hz]
  refine azb e2 ?_;rw[if_pos hz];exact⟨_,aqg x1 _ hz _,rfl⟩
end AX
end
section
namespace Sf
structure Rs where
 r:Wire.St
 bad:Bool
def Rs.fails(s:Rs):Bool:=s.bad||s.r.e !=0
def numS(s:Rs):Rs×Int:=(⟨(Wire.numR s.r).1,s.bad⟩,(Wire.numR s.r).2)
def strS(s:Rs):Rs×List UInt8:=(⟨(Wire.strR s.r).1,s.bad⟩,(Wire.strR s.r).2)
def cntS(s:Rs):Rs×Nat:=(⟨(Wire.cntR s.r 1).1,s.bad⟩,(Wire.cntR s.r 1).2)
def flagS(s:Rs):Rs×Bool:=
 let q:=Wire.numR s.r
 (⟨q.1,s.bad||(q.2 !=0&&q.2 !=1)⟩,q.2==1)
def valueS(s:Rs):Rs×V:=
 let x:=Val.readValue s.r
 (⟨x.1,s.bad||x.2.1 !=0⟩,x.2.2)
def wordsS:Nat→Rs→List (List UInt8)→Rs×List (List UInt8)
 |0,s,l=>(s,l)
 |c+1,s,l=>wordsS c (strS s).1 (l++[(strS s).2])
def instS(ver:Int)(s:Rs):Rs×Inst:=
 let a:=strS s
 let b:=strS a.1
 let c:=strS b.1
 let d:=strS c.1
 let v:=valueS d.1
 let n:=numS v.1
 let t:=flagS n.1
 let f:=if ver=2 then flagS t.1 else(t.1,false)
 let k:=cntS f.1
 let w:=wordsS k.2 k.1 []
 (w.1,⟨a.2,b.2,c.2,d.2,v.2,n.2,t.2,f.2,w.2⟩)
def pendS(s:Rs):Rs×Pend:=
 let a:=strS s
 let b:=strS a.1
 let c:=strS b.1
 (c.1,⟨a.2,b.2,c.2⟩)
def outS(s:Rs):Rs×Outp:=
 let a:=strS s
 let v:=valueS a.1
 let f:=flagS v.1
 (f.1,⟨a.2,v.2,f.2⟩)
def instsS(ver:Int):Nat→Rs→List Inst→Rs×List Inst×Bool
 |0,s,l=>(s,l,true)
 |c+1,s,l=>if s.fails then(s,l,false)else instsS ver c (instS ver s).1 (l++[(instS ver s).2])
def pendsS:Nat→Rs→List Pend→Rs×List Pend
 |0,s,l=>(s,l)
 |c+1,s,l=>pendsS c (pendS s).1 (l++[(pendS s).2])
def outsS:Nat→Rs→List Outp→Rs×List Outp×Bool
 |0,s,l=>(s,l,true)
 |c+1,s,l=>if s.fails then(s,l,false)else outsS c (outS s).1 (l++[(outS s).2])
def stateS(ver:Int)(s:Rs):Rs×St:=
 let a:=strS s
 let n:=numS a.1
 let ci:=cntS n.1
 let i:=instsS ver ci.2 ci.1 []
 if i.2.2=false then(i.1,⟨a.2,n.2,i.2.1,[],[]⟩)
 else
  let p:=if ver=2 then pendsS (cntS i.1).2 (cntS i.1).1 []else(i.1,[])
  let co:=cntS p.1
  let o:=outsS co.2 co.1 []
  (o.1,⟨a.2,n.2,i.2.1,p.2,o.2.1⟩)
end Sf
end
section
open Go.RowKit
namespace Sf
def Inst.cells:Inst→List AX.A
 |⟨a,d,i,t,.mk k n s is ks,v,tn,fi,ds⟩=>[.str a,.str d,.str i,.str t,.int .i64 k,.int .i64 n,.str s,.sl 5 .no (V.cellss is),.sl 1 .no (strsA ks),.int .i64 v,.bool tn,.bool fi,.sl 1 .no (strsA ds)]
def Pend.cells(p:Pend):List AX.A:=[.str p.addr,.str p.typ,.str p.tok]
def Outp.cells:Outp→List AX.A
 |⟨m,.mk k n s is ks,b⟩=>[.str m,.int .i64 k,.int .i64 n,.str s,.sl 5 .no (V.cellss is),.sl 1 .no (strsA ks),.bool b]
def St.A(s:St):AX.A:=.agg [.str s.lin,.int .i64 s.ser,.sl 13 .no (s.insts.map Inst.cells),.sl 3 .no (s.pends.map Pend.cells),.sl 7 .no (s.outs.map Outp.cells)]
end Sf
namespace Val
theorem readValue_le(r:Wire.St):(readValue r).1.rest.length≤r.rest.length:=by
 have:=read_le 32 r;unfold readValue;dsimp only;split
 ·exact this
 ·split<;>exact this
end Val
namespace Sf
theorem strS_le(s:Rs):(strS s).1.r.rest.length≤s.r.rest.length:=Wire.strR_rest _
theorem numS_le(s:Rs):(numS s).1.r.rest.length≤s.r.rest.length:=Wire.numR_rest _
theorem cntS_le(s:Rs):(cntS s).1.r.rest.length≤s.r.rest.length:=Wire.cntR_rest _ _
theorem cntS_cnt(s:Rs):(cntS s).2≤s.r.rest.length:=Wire.cntR_cnt _
theorem flagS_le(s:Rs):(flagS s).1.r.rest.length≤s.r.rest.length:=Wire.numR_rest _
theorem valueS_le(s:Rs):(valueS s).1.r.rest.length≤s.r.rest.length:=Val.readValue_le _
theorem wordsS_le:∀(c:Nat) (s:Rs) (l:List (List UInt8)),(wordsS c s l).1.r.rest.length≤s.r.rest.length
 |0,s,l=>Zf _
 |c+1,s,l=>Zl (wordsS_le c _ _) (strS_le s)
end Sf
namespace AX
def RB(ver:Int)(bad:Bool):Blk:=.cells 188 [.ptr 1 0,.int .i64 ver,.bool bad]
theorem liftR{P:Program}{G:World→Prop}{f:FuncId}{args:List A}{ver:Int}{s s':Sf.Rs}{v:A}(hc:ACall P G f (.ptr 0 0::args) ⟨[RB ver s.bad,rdr s.r],[]⟩ fun v' h'=>v'=v∧h'.b[0]?=some (RB ver s'.bad)∧h'.b[1]?=some (rdr s'.r))(ha:A.locL 0 args=true)(hv:v.loc 0=true)(l:List Blk)(t:List (TypeId×Nat×Nat)):
  ACall P G f (.ptr 0 0::args) ⟨RB ver s.bad::rdr s.r::l,t⟩ fun v' h'=>v'=v∧h'=⟨RB ver s'.bad::rdr s'.r::l,t⟩:=by
 have key:=ACall.lift hc (fun i=>i) (fun a b _ _ e=>e) (by unfold A.locL;rw[(A.locL0 _ args ha).1];rfl)
  (fun x hx=>by
   rcases Z8.1 hx with rfl|hx
   ·rfl
   ·rw[Yw.1 hx];rfl)
  (fun v' h' ⟨e,h0,h1⟩=>⟨by rw[e];exact(A.loc0 _ v hv).1,fun j x hj hx=>by
   have:j=0∨j=1:=by simp only[Zh,Zy]at hj;omega
   rcases this with rfl|rfl
   ·rw[h0]at hx;injection hx with hx;subst hx;rfl
   ·rw[h1]at hx;injection hx with hx;subst hx;rfl⟩)
  (h:=⟨RB ver s.bad::rdr s.r::l,t⟩) (fun j hj=>by
   have:j=0∨j=1:=by simp only[Zh,Zy]at hj;omega
   rcases this with rfl|rfl<;>rfl)
 have e:A.renL (fun i=>i) (.ptr 0 0::args)=.ptr 0 0::args:=by unfold A.renL;rw[(A.locL0 0 args ha).2];rfl
 rw[e]at key;refine key.mono ?_;rintro v' h' ⟨v0,⟨b0,t0⟩,⟨rfl,h0,h1⟩,rfl,rfl⟩;refine⟨(A.loc0 0 _ hv).2 _,?_⟩
 match b0,h0,h1 with
 |x::y::b,h0,h1=>
  simp only[ZM,ZF,Zb]at h0 h1;subst h0;subst h1;rfl
theorem bzy{ver:Int}(s:Sf.Rs)(hl:s.r.rest.length≤100000000)(l:List Blk)(t:List (TypeId×Nat×Nat)):
  AC 153 [.ptr 0 0] ⟨RB ver s.bad::rdr s.r::l,t⟩ fun v h'=>v=.bool (Sf.flagS s).2∧h'=⟨RB ver (Sf.flagS s).1.bad::rdr (Sf.flagS s).1.r::l,t⟩:=by
 refine liftR ?_ rfl rfl l t;refine fo ?_;unfold RB;refine azb ti ?_;refine use (aqc (i:=1) (r:=s.r) rfl hl) ?_;obtain⟨q,hq⟩:=Ex (Wire.numR s.r);have hF:Sf.flagS s=(⟨q.1,s.bad||(q.2 !=0&&q.2 !=1)⟩,q.2==1):=by unfold Sf.flagS;rw[hq]
 rw[hq,hF];rcases azk s.bad with e0|e0
 ·rw[e0];refine azb ti ?_;exact⟨_,le_refl _,rfl,rfl,rfl⟩
 ·rw[e0];rcases azk (q.2 !=0)with e1|e1
  ·refine azb e1 ?_;exact⟨_,le_refl _,rfl,by rw[e1];rfl,rfl⟩
  ·refine azb e1 ?_;exact⟨_,le_refl _,rfl,by rw[e1];rfl,rfl⟩
theorem akr{ver:Int}(s:Sf.Rs)(l:List Blk)(t:List (TypeId×Nat×Nat)):
  AT 113 [.ptr 0 0] ⟨RB ver s.bad::rdr s.r::l,t⟩ (.bool s.fails):=by
 refine fo ?_;unfold RB;unfold Sf.Rs.fails;rcases azk s.bad with e0|e0
 ·rw[e0];refine azb ti ?_;exact⟨_,le_refl _,rfl,rfl⟩
 ·rw[e0];refine azb ti ?_;refine use (bxe (i:=1) (r:=s.r) rfl) ?_;refine azb ti ?_;exact⟨_,le_refl _,rfl,rfl⟩
theorem bze{ver:Int}(s:Sf.Rs)(hl:s.r.rest.length≤100000000)(l:List Blk)(t:List (TypeId×Nat×Nat)):
  AC 152 [.ptr 0 0] ⟨RB ver s.bad::rdr s.r::l,t⟩ fun v h'=>v=(Sf.valueS s).2.A∧h'=⟨RB ver (Sf.valueS s).1.bad::rdr (Sf.valueS s).1.r::l,t⟩:=by
 obtain⟨⟨x1,x2,x3⟩,hx⟩:=Ex (Val.readValue s.r);have hF:Sf.valueS s=(⟨x1,s.bad||x2 !=0⟩,x3):=by unfold Sf.valueS;rw[hx]
 have hrd:=av3 (i:=1) (r:=s.r) (h:=⟨[RB ver s.bad,rdr s.r,.cells 40 [.int .i64 0,.int .i64 0,.str [],.sl 0 .nil [],.sl 0 .nil []]],[]⟩) rfl hl;rw[hx]at hrd;rw[hF];obtain⟨k,n,w,is,ks⟩:=x3;have hVA:(V.mk k n w is ks).A=.agg [.int .i64 k,.int .i64 n,.str w,.sl 5 .no (V.cellss is),.sl 1 .no (strsA ks)]:=by simp only[V.A,V.cells]
 dsimp only at hrd⊢;rw[hVA]at hrd⊢;unfold RB at hrd;refine liftR (s':=⟨x1,s.bad||x2 !=0⟩) ?_ rfl rfl l t;refine fo ?_;unfold RB;refine azb ti ?_;refine use hrd ?_;rcases azk s.bad with e0|e0
 ·rw[e0];refine azb ti ?_;exact⟨_,le_refl _,rfl,rfl,rfl⟩
 ·rw[e0];refine azb ti ?_;exact⟨_,le_refl _,rfl,rfl,rfl⟩
def ZI:Blk:=.cells 42 [.str [],.str [],.str [],.str [],.int .i64 0,.int .i64 0,.str [],.sl 0 .nil [],.sl 0 .nil [],.int .i64 0,.bool false,.bool false,.sl 0 .nil []]
def IB(a b c d:List UInt8)(v:List A)(n:Int)(tn fi:Bool)(x:A):Blk:=.cells 42 ([.str a,.str b,.str c,.str d]++v++[.int .i64 n,.bool tn,.bool fi,x])
theorem cwr{ver:Int}(hver:ver=1∨ver=2)(s:Sf.Rs)(hl:s.r.rest.length≤100000000)(l:List Blk)(t:List (TypeId×Nat×Nat)):
  AC 151 [.ptr 0 0] ⟨RB ver s.bad::rdr s.r::l,t⟩ fun v h'=>v=.agg (Sf.instS ver s).2.cells∧h'=⟨RB ver (Sf.instS ver s).1.bad::rdr (Sf.instS ver s).1.r::l,t⟩:=by
 refine liftR (s':=(Sf.instS ver s).1) (v:=.agg (Sf.instS ver s).2.cells) ?_ rfl ?_ l t;rotate_left
 ·obtain⟨a,d,i,ty,⟨k,n,w,is,ks⟩,v,tn,fi,ds⟩:=(Sf.instS ver s).2;rfl
 refine fo ?_;unfold RB;obtain⟨⟨r1,x1⟩,h1⟩:=Ex (Wire.strR s.r);have l1:=Wire.strR_rest s.r;rw[h1]at l1;obtain⟨⟨r2,x2⟩,h2⟩:=Ex (Wire.strR r1);have l2:=Wire.strR_rest r1;rw[h2]at l2;obtain⟨⟨r3,x3⟩,h3⟩:=Ex (Wire.strR r2);have l3:=Wire.strR_rest r2;rw[h3]at l3;obtain⟨⟨r4,x4⟩,h4⟩:=Ex (Wire.strR r3);have l4:=Wire.strR_rest r3;rw[h4]at l4;dsimp only at l1 l2 l3 l4;have str:∀(r r':Wire.St) (x:List UInt8) (h:Hp),Wire.strR r=(r',x)→h.b[1]?=some (rdr r)→r.rest.length≤100000000→AC 33 [.ptr 1 0] h fun v h'=>v=.str x∧h'=⟨h.b.set 1 (rdr r'),h.t⟩:=fun r r' x h e hb hl=>by
  have:=aqh hb hl;rw[e]at this;exact this
 refine azb ti ?_;refine cz3 [4,9,14,19,22] 21 [⟨[.cells 188 [.ptr 1 0,.int .i64 ver,.bool s.bad],rdr s.r,.cells 42 [.str [],.str [],.str [],.str [],.int .i64 0,.int .i64 0,.str [],.sl 0 .nil [],.sl 0 .nil [],.int .i64 0,.bool false,.bool false,.sl 0 .nil []]],[]⟩,⟨[.cells 188 [.ptr 1 0,.int .i64 ver,.bool s.bad],rdr r1,.cells 42 [.str [],.str [],.str [],.str [],.int .i64 0,.int .i64 0,.str [],.sl 0 .nil [],.sl 0 .nil [],.int .i64 0,.bool false,.bool false,.sl 0 .nil []]],[]⟩,⟨[.cells 188 [.ptr 1 0,.int .i64 ver,.bool s.bad],rdr r2,.cells 42 [.str [],.str [],.str [],.str [],.int .i64 0,.int .i64 0,.str [],.sl 0 .nil [],.sl 0 .nil [],.int .i64 0,.bool false,.bool false,.sl 0 .nil []]],[]⟩,⟨[.cells 188 [.ptr 1 0,.int .i64 ver,.bool s.bad],rdr r3,.cells 42 [.str [],.str [],.str [],.str [],.int .i64 0,.int .i64 0,.str [],.sl 0 .nil [],.sl 0 .nil [],.int .i64 0,.bool false,.bool false,.sl 0 .nil []]],[]⟩,⟨[.cells 188 [.ptr 1 0,.int .i64 ver,.bool s.bad],rdr r4,.cells 42 [.str [],.str [],.str [],.str [],.int .i64 0,.int .i64 0,.str [],.sl 0 .nil [],.sl 0 .nil [],.int .i64 0,.bool false,.bool false,.sl 0 .nil []]],[]⟩,⟨[],[]⟩,⟨[.cells 188 [.ptr 1 0,.int .i64 ver,.bool s.bad],rdr s.r,.cells 42 [.str [],.str [],.str [],.str [],.int .i64 0,.int .i64 0,.str [],.sl 0 .nil [],.sl 0 .nil [],.int .i64 0,.bool false,.bool false,.sl 0 .nil []],.cells 42 [.str [],.str [],.str [],.str [],.int .i64 0,.int .i64 0,.str [],.sl 0 .nil [],.sl 0 .nil [],.int .i64 0,.bool false,.bool false,.sl 0 .nil []]],[]⟩,⟨[.cells 188 [.ptr 1 0,.int .i64 ver,.bool s.bad],rdr r1,.cells 42 [.str [],.str [],.str [],.str [],.int .i64 0,.int .i64 0,.str [],.sl 0 .nil [],.sl 0 .nil [],.int .i64 0,.bool false,.bool false,.sl 0 .nil []],.cells 42 [.str [],.str [],.str [],.str [],.int .i64 0,.int .i64 0,.str [],.sl 0 .nil [],.sl 0 .nil [],.int .i64 0,.bool false,.bool false,.sl 0 .nil []]],[]⟩,⟨[.cells 188 [.ptr 1 0,.int .i64 ver,.bool s.bad],rdr r2,.cells 42 [.str [],.str [],.str [],.str [],.int .i64 0,.int .i64 0,.str [],.sl 0 .nil [],.sl 0 .nil [],.int .i64 0,.bool false,.bool false,.sl 0 .nil []],.cells 42 [.str [],.str [],.str [],.str [],.int .i64 0,.int .i64 0,.str [],.sl 0 .nil [],.sl 0 .nil [],.int .i64 0,.bool false,.bool false,.sl 0 .nil []]],[]⟩,⟨[.cells 188 [.ptr 1 0,.int .i64 ver,.bool s.bad],rdr r3,.cells 42 [.str [],.str [],.str [],.str [],.int .i64 0,.int .i64 0,.str [],.sl 0 .nil [],.sl 0 .nil [],.int .i64 0,.bool false,.bool false,.sl 0 .nil []],.cells 42 [.str [],.str [],.str [],.str [],.int .i64 0,.int .i64 0,.str [],.sl 0 .nil [],.sl 0 .nil [],.int .i64 0,.bool false,.bool false,.sl 0 .nil []]],[]⟩,⟨[.cells 188 [.ptr 1 0,.int .i64 ver,.bool s.bad],rdr r4,.cells 42 [.str [],.str [],.str [],.str [],.int .i64 0,.int .i64 0,.str [],.sl 0 .nil [],.sl 0 .nil [],.int .i64 0,.bool false,.bool false,.sl 0 .nil []],.cells 42 [.str [],.str [],.str [],.str [],.int .i64 0,.int .i64 0,.str [],.sl 0 .nil [],.sl 0 .nil [],.int .i64 0,.bool false,.bool false,.sl 0 .nil []]],[]⟩,⟨[.cells 188 [.ptr 1 0,.int .i64 ver,.bool s.bad],rdr r4,.cells 42 [.str [],.str [],.str [],.str [],.int .i64 0,.int .i64 0,.str [],.sl 0 .nil [],.sl 0 .nil [],.int .i64 0,.bool false,.bool false,.sl 0 .nil []],.cells 42 [.str x1,.str x2,.str x3,.str x4,.int .i64 0,.int .i64 0,.str [],.sl 0 .nil [],.sl 0 .nil [],.int .i64 0,.bool false,.bool false,.sl 0 .nil []]],[]⟩] [[0,6],[0,6],[0,6],[0,6],[0,6],[0,1,6,7],[0,1,6,7],[0,1,6,7],[0,1,6,7],[1,7],[0,1,2,6,7,8],[0,1,2,6,7,8],[0,1,2,6,7,8],[0,1,2,6,7,8],[2,8],[0,1,2,3,6,7,8,9],[0,1,2,3,6,7,8,9],[0,1,2,3,6,7,8,9],[0,1,2,3,6,7,8,9],[3,9],[4,10],[0,1,2,3,4],[10]] rfl (by decide +kernel) ?_;refine AX.rung ti ?_;refine avf (vs:=[.ptr 1 0]) (by(exact ev0 ti)) ⟨str s.r r1 x1 _ h1 rfl (by omega),str s.r r1 x1 _ h1 rfl (by omega),trivial⟩ ?_;refine AX.rung ti ?_;refine avf (vs:=[.ptr 1 0]) (by(exact ev0 ti)) ⟨str r1 r2 x2 _ h2 rfl (by omega),str r1 r2 x2 _ h2 rfl (by omega),trivial⟩ ?_;refine AX.rung ti ?_;refine avf (vs:=[.ptr 1 0]) (by(exact ev0 ti)) ⟨str r2 r3 x3 _ h3 rfl (by omega),str r2 r3 x3 _ h3 rfl (by omega),trivial⟩ ?_;refine AX.rung ti ?_;refine avf (vs:=[.ptr 1 0]) (by(exact ev0 ti)) ⟨str r3 r4 x4 _ h4 rfl (by omega),str r3 r4 x4 _ h4 rfl (by omega),trivial⟩ ?_;refine AX.rung ti ?_;obtain⟨⟨⟨r5,b5⟩,xv⟩,h5⟩:=Ex (Sf.valueS ⟨r4,s.bad⟩);have c5:=bze (ver:=ver) ⟨r4,s.bad⟩ (by dsimp only;omega) [ZI,IB x1 x2 x3 x4 [.int .i64 0,.int .i64 0,.str [],.sl 0 .nil [],.sl 0 .nil []] 0 false false (.sl 0 .nil [])] [];have l5:=Sf.valueS_le ⟨r4,s.bad⟩;rw[h5]at c5 l5;obtain⟨vk,vn,vs,vi,vy⟩:=xv;have hVA:(V.mk vk vn vs vi vy).A=.agg [.int .i64 vk,.int .i64 vn,.str vs,.sl 5 .no (V.cellss vi),.sl 1 .no (strsA vy)]:=by simp only[V.A,V.cells]
 dsimp only at c5 l5;rw[hVA]at c5;unfold RB ZI IB at c5;refine azb ti ?_;refine use c5 ?_;refine azb ti ?_;refine use (aqc (i:=1) (r:=r5) rfl (by omega)) ?_;have l6:=Wire.numR_rest r5;obtain⟨⟨r6,x6⟩,h6⟩:=Ex (Wire.numR r5);rw[h6]at l6⊢;dsimp only at l6⊢;obtain⟨⟨⟨r7,b7⟩,x7⟩,h7⟩:=Ex (Sf.flagS ⟨r6,b5⟩);have l7:=Sf.flagS_le ⟨r6,b5⟩;have c7:=bzy (ver:=ver) ⟨r6,b5⟩ (by dsimp only;omega) [ZI,IB x1 x2 x3 x4 [.int .i64 vk,.int .i64 vn,.str vs,.sl 5 .no (V.cellss vi),.sl 1 .no (strsA vy)] x6 false false (.sl 0 .nil [])] [];rw[h7]at c7 l7;dsimp only at c7 l7;unfold RB ZI IB at c7;simp only[Zo,Zk]at c7;refine azb ti ?_;refine use c7 ?_;have fin:∀(r8:Wire.St) (b8 x8:Bool) (c0:Wire.St×Nat) (rr:Wire.St) (bw:Bool) (ds:List (List UInt8)),(if ver=2 then Sf.flagS ⟨r7,b7⟩else(⟨r7,b7⟩,false))=(⟨r8,b8⟩,x8)→Wire.cntR r8 1=c0→Sf.wordsS c0.2 ⟨c0.1,b8⟩ []=(⟨rr,bw⟩,ds)→Sf.instS ver s=(⟨rr,bw⟩,⟨x1,x2,x3,x4,.mk vk vn vs vi vy,x6,x7,x8,ds⟩):=by
  intro r8 b8 x8 c0 rr bw ds h8 hc hw;unfold Sf.instS Sf.strS Sf.numS Sf.cntS;simp only[h1,h2,h3,h4,h5,h6,h7,h8,hc,hw]
 have branch:∃(r8:Wire.St) (b8 x8:Bool),(if ver=2 then Sf.flagS ⟨r7,b7⟩else(⟨r7,b7⟩,false))=(⟨r8,b8⟩,x8)∧r8.rest.length≤r7.rest.length:=by
  by_cases hv:ver=2
  ·rw[if_pos hv];exact⟨(Sf.flagS ⟨r7,b7⟩).1.r,(Sf.flagS ⟨r7,b7⟩).1.bad,(Sf.flagS ⟨r7,b7⟩).2,rfl,Sf.flagS_le _⟩
  ·rw[if_neg hv];exact⟨r7,b7,false,rfl,Zf _⟩
 obtain⟨r8,b8,x8,h8,l8⟩:=branch;have hfin:=fin r8 b8 x8;have c8:=bzy (ver:=ver) ⟨r7,b7⟩ (by dsimp only;omega) [ZI,IB x1 x2 x3 x4 [.int .i64 vk,.int .i64 vn,.str vs,.sl 5 .no (V.cellss vi),.sl 1 .no (strsA vy)] x6 x7 false (.sl 0 .nil [])] [];unfold RB ZI IB at c8;simp only[Zo,Zk]at c8;have hv12:∀{G:Prop},(((ver==2)=false)→r8=r7→b8=b7→x8=false→G)→((ver==2)=true→Sf.flagS ⟨r7,b7⟩=(⟨r8,b8⟩,x8)→G)→G:=fun a b=>by
  rcases hver with rfl|rfl
  ·rw[if_neg (by decide)]at h8;injection h8 with h8 h9;injection h8 with h8 h10;exact a rfl h8.symm h10.symm h9.symm
  ·rw[if_pos rfl]at h8;exact b rfl h8
 have hval:=h8;refine hv12 (fun e2 er eb ex=>?_) (fun e2 hf=>?_)
 ·refine azb e2 ?_;subst er;subst eb;subst ex;refine use (akz (i:=1) (r:=r8) rfl (by omega)) ?_;have lc:=Wire.cntR_rest r8 1;have lk:=Wire.cntR_cnt r8;obtain⟨⟨rc,c⟩,hc⟩:=Ex (Wire.cntR r8 1);rw[hc]at lc lk⊢;dsimp only at lc lk⊢;obtain⟨⟨⟨rr,bw⟩,dw⟩,hw⟩:=Ex (Sf.wordsS c ⟨rc,b8⟩ []);refine azb ti ?_
  refine azf (fun mm ts h=>∃(j:Nat) (p:Wire.St) (ds:List (List UInt8)) (W:Nat) (o:Own) (t:List (TypeId×Nat×Nat)),mm=c-j∧j≤c ∧
   h=⟨[.cells 188 [.ptr 1 0,.int .i64 ver,.bool b8],rdr p,.cells 42 [.str [],.str [],.str [],.str [],.int .i64 0,.int .i64 0,.str [],.sl 0 .nil [],.sl 0 .nil [],.int .i64 0,.bool false,.bool false,.sl 0 .nil []],.cells 42 [.str x1,.str x2,.str x3,.str x4,.int .i64 vk,.int .i64 vn,.str vs,.sl 5 .no (V.cellss vi),.sl 1 .no (strsA vy),.int .i64 x6,.bool x7,.bool false,.sl W o (strsA ds)]],t⟩ ∧
   Sf.wordsS (c-j) ⟨p,b8⟩ ds=(⟨rr,bw⟩,dw)∧ds.length=j∧p.rest.length≤rc.rest.length∧Gs 9 1 0 ⟨[],t⟩ (strsA ds) (.sl W o (strsA ds)) ∧
   ts 0=.ptr 0 0∧ts 2=.ptr 2 0∧ts 3=.ptr 3 0∧ts 49=.int .i64 (c:Nat)∧ts 50=.int .i64 (j:Nat)) c ?_ ?_
  ·exact⟨0,rc,[],0,.nil,[],by omega,by omega,rfl,hw,rfl,Zf _,.inl ⟨rfl,rfl⟩,by(exact ev0 ti),by(exact ev0 ti),by(exact ev0 ti),by(exact ev0 ti),by(exact azq ti)⟩
  ·rintro mm ts h ⟨j,p,ds,W,o,t,rfl,hjc,rfl,hit,hdl,hpl,gX,t0,t2,t3,t49,t50⟩;by_cases hj:j<c
   ·have hlt:(j:Int)<(c:Int):=by omega
    have ei:IntKind.i64.wrap ((j:Int)+1)=((j+1:Nat):Int):=by rw[wrap64 (by omega) (by omega)];omega
    have lp:=Wire.strR_rest p;have cp:=fun h hb=>str p (Wire.strR p).1 (Wire.strR p).2 h rfl hb (by omega)
    obtain⟨⟨p2,s2⟩,hp2⟩:=Ex (Wire.strR p);have hstep:Sf.wordsS (c-(j+1)) ⟨p2,b8⟩ (ds++[s2])=(⟨rr,bw⟩,dw):=by
     rw[show c-j=(c-(j+1))+1 by omega,Sf.wordsS]at hit;unfold Sf.strS at hit;simp only[hp2]at hit;exact hit
    rw[hp2]at lp cp;dsimp only at lp cp;obtain⟨W',o',t',hX,gX',_⟩:=gX.grow 16 [.str s2] (by rw[aze];omega) (by decide);rw[←az8]at gX';simp only[←az8]at hX;refine azb (ai t0 (ai t2 (ai t3 (ai t49 (ai t50 hlt))))) ?_;refine use (cp _ rfl) ?_;refine azb (ai t0 (ai t2 (ai t3 (ai t49 (ai t50 (ai hX ei)))))) ?_;exact⟨c-(j+1),by omega,j+1,p2,ds++[s2],W',o',t',rfl,by omega,rfl,hstep,by simp[hdl],by omega,gX',by(exact ev0 t0),by(exact ev0 t2),by(exact ev0 t3),by(exact ev0 t49),by(exact ev0 ei)⟩
   ·have hlt:¬((j:Int)<(c:Int)):=by omega
    rw[show c-j=0 by omega,Sf.wordsS]at hit;injection hit with hit hit2;injection hit with hit hit3;subst hit;subst hit2;subst hit3;refine azb (ai t0 (ai t2 (ai t3 (ai t49 (ai t50 hlt))))) ?_;rw[hfin _ _ _ _ hval hc hw];exact⟨.agg [.str x1,.str x2,.str x3,.str x4,.int .i64 vk,.int .i64 vn,.str vs,.sl 5 .no (V.cellss vi),.sl 1 .no (strsA vy),.int .i64 x6,.bool x7,.bool false,.sl 1 .no (strsA ds)],⟨aza _,aza _,aza _,aza _,aza _,aza _,aza _,aza _,aza _,aza _,aza _,aza _,Gs.le gX,trivial⟩,rfl,rfl,rfl⟩
 ·refine azb e2 ?_;rw[hf]at c8;dsimp only at c8;refine use c8 ?_;refine azb ti ?_;refine use (akz (i:=1) (r:=r8) rfl (by omega)) ?_;have lc:=Wire.cntR_rest r8 1;have lk:=Wire.cntR_cnt r8;obtain⟨⟨rc,c⟩,hc⟩:=Ex (Wire.cntR r8 1);rw[hc]at lc lk⊢;dsimp only at lc lk⊢;obtain⟨⟨⟨rr,bw⟩,dw⟩,hw⟩:=Ex (Sf.wordsS c ⟨rc,b8⟩ []);refine azb ti ?_
  refine azf (fun mm ts h=>∃(j:Nat) (p:Wire.St) (ds:List (List UInt8)) (W:Nat) (o:Own) (t:List (TypeId×Nat×Nat)),mm=c-j∧j≤c ∧
   h=⟨[.cells 188 [.ptr 1 0,.int .i64 ver,.bool b8],rdr p,.cells 42 [.str [],.str [],.str [],.str [],.int .i64 0,.int .i64 0,.str [],.sl 0 .nil [],.sl 0 .nil [],.int .i64 0,.bool false,.bool false,.sl 0 .nil []],.cells 42 [.str x1,.str x2,.str x3,.str x4,.int .i64 vk,.int .i64 vn,.str vs,.sl 5 .no (V.cellss vi),.sl 1 .no (strsA vy),.int .i64 x6,.bool x7,.bool x8,.sl W o (strsA ds)]],t⟩ ∧
   Sf.wordsS (c-j) ⟨p,b8⟩ ds=(⟨rr,bw⟩,dw)∧ds.length=j∧p.rest.length≤rc.rest.length∧Gs 9 1 0 ⟨[],t⟩ (strsA ds) (.sl W o (strsA ds)) ∧
   ts 0=.ptr 0 0∧ts 2=.ptr 2 0∧ts 3=.ptr 3 0∧ts 49=.int .i64 (c:Nat)∧ts 50=.int .i64 (j:Nat)) c ?_ ?_
  ·exact⟨0,rc,[],0,.nil,[],by omega,by omega,rfl,hw,rfl,Zf _,.inl ⟨rfl,rfl⟩,by(exact ev0 ti),by(exact ev0 ti),by(exact ev0 ti),by(exact ev0 ti),by(exact azq ti)⟩
  ·rintro mm ts h ⟨j,p,ds,W,o,t,rfl,hjc,rfl,hit,hdl,hpl,gX,t0,t2,t3,t49,t50⟩;by_cases hj:j<c
   ·have hlt:(j:Int)<(c:Int):=by omega
    have ei:IntKind.i64.wrap ((j:Int)+1)=((j+1:Nat):Int):=by rw[wrap64 (by omega) (by omega)];omega
    have lp:=Wire.strR_rest p;have cp:=fun h hb=>str p (Wire.strR p).1 (Wire.strR p).2 h rfl hb (by omega)
    obtain⟨⟨p2,s2⟩,hp2⟩:=Ex (Wire.strR p);have hstep:Sf.wordsS (c-(j+1)) ⟨p2,b8⟩ (ds++[s2])=(⟨rr,bw⟩,dw):=by
     rw[show c-j=(c-(j+1))+1 by omega,Sf.wordsS]at hit;unfold Sf.strS at hit;simp only[hp2]at hit;exact hit
    rw[hp2]at lp cp;dsimp only at lp cp;obtain⟨W',o',t',hX,gX',_⟩:=gX.grow 16 [.str s2] (by rw[aze];omega) (by decide);rw[←az8]at gX';simp only[←az8]at hX;refine azb (ai t0 (ai t2 (ai t3 (ai t49 (ai t50 hlt))))) ?_;refine use (cp _ rfl) ?_;refine azb (ai t0 (ai t2 (ai t3 (ai t49 (ai t50 (ai hX ei)))))) ?_;exact⟨c-(j+1),by omega,j+1,p2,ds++[s2],W',o',t',rfl,by omega,rfl,hstep,by simp[hdl],by omega,gX',by(exact ev0 t0),by(exact ev0 t2),by(exact ev0 t3),by(exact ev0 t49),by(exact ev0 ei)⟩
   ·have hlt:¬((j:Int)<(c:Int)):=by omega
    rw[show c-j=0 by omega,Sf.wordsS]at hit;injection hit with hit hit2;injection hit with hit hit3;subst hit;subst hit2;subst hit3;refine azb (ai t0 (ai t2 (ai t3 (ai t49 (ai t50 hlt))))) ?_;rw[hfin _ _ _ _ hval hc hw];exact⟨.agg [.str x1,.str x2,.str x3,.str x4,.int .i64 vk,.int .i64 vn,.str vs,.sl 5 .no (V.cellss vi),.sl 1 .no (strsA vy),.int .i64 x6,.bool x7,.bool x8,.sl 1 .no (strsA ds)],⟨aza _,aza _,aza _,aza _,aza _,aza _,aza _,aza _,aza _,aza _,aza _,aza _,Gs.le gX,trivial⟩,rfl,rfl,rfl⟩
end AX
namespace Sf
theorem instS_le(ver:Int)(s:Rs):(instS ver s).1.r.rest.length≤s.r.rest.length:=by
 unfold instS;dsimp only;refine Zl (wordsS_le _ _ _) (Zl (cntS_le _) ?_);have k:(flagS (numS (valueS (strS (strS (strS (strS s).1).1).1).1).1).1).1.r.rest.length≤s.r.rest.length:=
  Zl (flagS_le _) (Zl (numS_le _) (Zl (valueS_le _) (Zl (strS_le _) (Zl (strS_le _) (Zl (strS_le _) (strS_le _))))))
 split
 ·exact Zl (flagS_le _) k
 ·exact k
end Sf
namespace AX
theorem cxh{ver:Int}(hver:ver=1∨ver=2)(s:Sf.Rs)(hl:s.r.rest.length≤100000000)(l:List Blk)(t:List (TypeId×Nat×Nat)):
  AC 112 [.ptr 0 0] ⟨RB ver s.bad::rdr s.r::l,t⟩ fun v h'=>v=(Sf.stateS ver s).2.A∧h'=⟨RB ver (Sf.stateS ver s).1.bad::rdr (Sf.stateS ver s).1.r::l,t⟩:=by
 refine liftR (s':=(Sf.stateS ver s).1) (v:=(Sf.stateS ver s).2.A) ?_ rfl rfl l t;refine fo ?_;unfold RB;obtain⟨⟨r1,x1⟩,h1⟩:=Ex (Wire.strR s.r);have l1:=Wire.strR_rest s.r;rw[h1]at l1;obtain⟨⟨r2,x2⟩,h2⟩:=Ex (Wire.numR r1);have l2:=Wire.numR_rest r1;rw[h2]at l2;obtain⟨⟨rc,c⟩,hc⟩:=Ex (Wire.cntR r2 1);have lc:=Wire.cntR_rest r2 1;have lk:=Wire.cntR_cnt r2;rw[hc]at lc lk;dsimp only at l1 l2 lc lk;have str:∀(r r':Wire.St) (x:List UInt8) (h:Hp),Wire.strR r=(r',x)→h.b[1]?=some (rdr r)→r.rest.length≤100000000→AC 33 [.ptr 1 0] h fun v h'=>v=.str x∧h'=⟨h.b.set 1 (rdr r'),h.t⟩:=fun r r' x h e hb hl=>by
  have:=aqh hb hl;rw[e]at this;exact this
 have num:∀(r r':Wire.St) (x:Int) (h:Hp),Wire.numR r=(r',x)→h.b[1]?=some (rdr r)→r.rest.length≤100000000→AC 75 [.ptr 1 0] h fun v h'=>v=.int .i64 x∧h'=⟨h.b.set 1 (rdr r'),h.t⟩:=fun r r' x h e hb hl=>by
  have:=aqc hb hl;rw[e]at this;exact this
 have cnt:∀(r r':Wire.St) (x:Nat) (h:Hp),Wire.cntR r 1=(r',x)→h.b[1]?=some (rdr r)→r.rest.length≤100000000→AC 116 [.ptr 1 0,.int .i64 1] h fun v h'=>v=.int .i64 (x:Nat)∧h'=⟨h.b.set 1 (rdr r'),h.t⟩:=fun r r' x h e hb hl=>by
  have:=akz hb hl;rw[e]at this;exact this
 obtain⟨res,hres⟩:=Ex (Sf.instsS ver c ⟨rc,s.bad⟩ [])
 have hS:Sf.stateS ver s=(if res.2.2=false then(res.1,⟨x1,x2,res.2.1,[],[]⟩)else
   let p:=if ver=2 then Sf.pendsS (Sf.cntS res.1).2 (Sf.cntS res.1).1 []else(res.1,[])
   let co:=Sf.cntS p.1
   let o:=Sf.outsS co.2 co.1 []
   (o.1,⟨x1,x2,res.2.1,p.2,o.2.1⟩)):=by
  rw[←hres];unfold Sf.stateS Sf.strS Sf.numS;simp only[h1,h2];rw[show Sf.cntS ⟨r2,s.bad⟩=(⟨rc,s.bad⟩,c) by unfold Sf.cntS;simp only[hc]]
 have fin1:∀{p:Sf.Rs} {is:List Sf.Inst},(p,is,false)=res→Sf.stateS ver s=(p,⟨x1,x2,is,[],[]⟩):=fun e=>by rw[hS,←e];rfl
 have fin2:∀{p:Sf.Rs} {is:List Sf.Inst},(p,is,true)=res→∀(q:Sf.Rs) (ps:List Sf.Pend) (rc3:Wire.St) (c3:Nat) {r3:Sf.Rs×List Sf.Outp×Bool},(if ver=2 then Sf.pendsS (Sf.cntS p).2 (Sf.cntS p).1 []else(p,[]))=(q,ps)→Wire.cntR q.r 1=(rc3,c3)→Sf.outsS c3 ⟨rc3,q.bad⟩ []=r3→Sf.stateS ver s=(r3.1,⟨x1,x2,is,ps,r3.2.1⟩):=by
  intro p is e q ps rc3 c3 r3 h h3 hr;rw[hS,←e];dsimp only;rw[if_neg (by decide),h];dsimp only;rw[show Sf.cntS q=(⟨rc3,q.bad⟩,c3) by unfold Sf.cntS;rw[h3]];dsimp only;rw[hr]
 have hv12:∀{G:Prop},((ver==2)=false→G)→((ver==2)=true→G)→G:=fun p q=>by
  rcases azk (ver==2)with e|e
  ·first|exact q e|exact p e
  ·first|exact p e|exact q e
 refine azb ti ?_;refine cz3 [4,9,12] 11 [⟨[.cells 188 [.ptr 1 0,.int .i64 ver,.bool s.bad],rdr s.r,.cells 33 [.str [],.int .i64 0,.sl 0 .nil [],.sl 0 .nil [],.sl 0 .nil []]],[]⟩,⟨[.cells 188 [.ptr 1 0,.int .i64 ver,.bool s.bad],rdr r1,.cells 33 [.str [],.int .i64 0,.sl 0 .nil [],.sl 0 .nil [],.sl 0 .nil []]],[]⟩,⟨[.cells 188 [.ptr 1 0,.int .i64 ver,.bool s.bad],rdr r2,.cells 33 [.str [],.int .i64 0,.sl 0 .nil [],.sl 0 .nil [],.sl 0 .nil []]],[]⟩,⟨[],[]⟩,⟨[.cells 188 [.ptr 1 0,.int .i64 ver,.bool s.bad],rdr s.r,.cells 33 [.str [],.int .i64 0,.sl 0 .nil [],.sl 0 .nil [],.sl 0 .nil []],.cells 33 [.str [],.int .i64 0,.sl 0 .nil [],.sl 0 .nil [],.sl 0 .nil []]],[]⟩,⟨[.cells 188 [.ptr 1 0,.int .i64 ver,.bool s.bad],rdr r1,.cells 33 [.str [],.int .i64 0,.sl 0 .nil [],.sl 0 .nil [],.sl 0 .nil []],.cells 33 [.str [],.int .i64 0,.sl 0 .nil [],.sl 0 .nil [],.sl 0 .nil []]],[]⟩,⟨[.cells 188 [.ptr 1 0,.int .i64 ver,.bool s.bad],rdr r2,.cells 33 [.str [],.int .i64 0,.sl 0 .nil [],.sl 0 .nil [],.sl 0 .nil []],.cells 33 [.str [],.int .i64 0,.sl 0 .nil [],.sl 0 .nil [],.sl 0 .nil []]],[]⟩,⟨[.cells 188 [.ptr 1 0,.int .i64 ver,.bool s.bad],rdr r2,.cells 33 [.str [],.int .i64 0,.sl 0 .nil [],.sl 0 .nil [],.sl 0 .nil []],.cells 33 [.str x1,.int .i64 x2,.sl 0 .nil [],.sl 0 .nil [],.sl 0 .nil []]],[]⟩] [[0,4],[0,4],[0,4],[0,4],[0,4],[0,1,4,5],[0,1,4,5],[0,1,4,5],[0,1,4,5],[1,5],[2,6],[0,1,2],[6]] rfl (by decide +kernel) ?_;refine AX.rung ti ?_;refine avf (vs:=[.ptr 1 0]) (by(exact ev0 ti)) ⟨str s.r r1 x1 _ h1 rfl (by omega),str s.r r1 x1 _ h1 rfl (by omega),trivial⟩ ?_;refine AX.rung ti ?_;refine avf (vs:=[.ptr 1 0]) (by(exact ev0 ti)) ⟨num r1 r2 x2 _ h2 rfl (by omega),num r1 r2 x2 _ h2 rfl (by omega),trivial⟩ ?_;refine AX.rung ti ?_;refine azb ti ?_;refine use (cnt r2 rc c _ hc rfl (by omega)) ?_;refine azb ti ?_;refine azf (fun mm ts h=>∃(j:Nat) (p:Sf.Rs) (is:List Sf.Inst) (W:Nat) (o:Own) (t:List (TypeId×Nat×Nat)),mm=c-j∧j≤c∧h=⟨[.cells 188 [.ptr 1 0,.int .i64 ver,.bool p.bad],rdr p.r,.cells 33 [.str [],.int .i64 0,.sl 0 .nil [],.sl 0 .nil [],.sl 0 .nil []],.cells 33 [.str x1,.int .i64 x2,(.sl W o (is.map Sf.Inst.cells)),.sl 0 .nil [],.sl 0 .nil []]],t⟩∧Sf.instsS ver (c-j) p is=res∧is.length=j∧p.r.rest.length≤100000000∧Gs 42 13 0 ⟨[],t⟩ (is.map Sf.Inst.cells) (.sl W o (is.map Sf.Inst.cells))∧ts 0=.ptr 0 0∧ts 2=.ptr 2 0∧ts 3=.ptr 3 0∧ts 20=.int .i64 (c:Nat)∧ts 21=.int .i64 (j:Nat)) c ?_ ?_
 ·exact⟨0,⟨rc,s.bad⟩,[],0,.nil,[],by omega,by omega,rfl,hres,rfl,(by dsimp only;omega),.inl ⟨rfl,rfl⟩,by(exact ev0 ti),by(exact ev0 ti),by(exact ev0 ti),by(exact ev0 ti),by(exact azq ti)⟩
 rintro mm ts h ⟨j,p,is,W,o,t,rfl,hjc,rfl,hit,hdl,hpl,gX,t0,t2,t3,ta,tb⟩;by_cases hj:j<c
 ·have cf:=akr (ver:=ver) p [.cells 33 [.str [],.int .i64 0,.sl 0 .nil [],.sl 0 .nil [],.sl 0 .nil []],.cells 33 [.str x1,.int .i64 x2,(.sl W o (is.map Sf.Inst.cells)),.sl 0 .nil [],.sl 0 .nil []]] t;unfold RB at cf;have hlt:(j:Int)<(c:Int):=by omega
  have ei:IntKind.i64.wrap ((j:Int)+1)=((j+1:Nat):Int):=by rw[wrap64 (by omega) (by omega)];omega
  rw[show c-j=(c-(j+1))+1 by omega]at hit;unfold Sf.instsS at hit;refine azb (ai t0 (ai t2 (ai t3 (ai ta (ai tb hlt))))) ?_;refine use cf ?_;rcases azk p.fails with e|e
  ·rw[e,if_pos rfl]at hit;rw[e];refine azb (ai t0 (ai t2 (ai t3 (ai ta tb)))) ?_;subst hit;have hfin:=fin1 rfl;exact⟨.agg [.str x1,.int .i64 x2,.sl 13 .no (is.map Sf.Inst.cells),.sl 3 .no (([]:List Sf.Pend).map Sf.Pend.cells),.sl 7 .no (([]:List Sf.Outp).map Sf.Outp.cells)],⟨aza _,aza _,Gs.le gX,⟨rfl,.inr rfl,.inl rfl⟩,⟨rfl,.inr rfl,.inl rfl⟩,trivial⟩,by rw[hfin];rfl,by rw[hfin];rfl,by rw[hfin];rfl⟩
  rw[e,if_neg (by decide)]at hit;rw[e];have ci:=cwr hver p hpl [.cells 33 [.str [],.int .i64 0,.sl 0 .nil [],.sl 0 .nil [],.sl 0 .nil []],.cells 33 [.str x1,.int .i64 x2,(.sl W o (is.map Sf.Inst.cells)),.sl 0 .nil [],.sl 0 .nil []]] t;have li:=Sf.instS_le ver p;obtain⟨⟨p2,x⟩,hx⟩:=Ex (Sf.instS ver p);rw[hx]at ci hit li;dsimp only at ci hit li;unfold RB at ci;obtain⟨W',o',t',hX,gX',_⟩:=gX.grow 184 x.cells (by rw[Zj];omega) (by decide);have em:is.map Sf.Inst.cells++[x.cells]=(is++[x]).map Sf.Inst.cells:=by simp
  rw[em]at gX';simp only[em]at hX;have hil:(is++[x]).length=j+1:=by simp[hdl]
  obtain⟨is2,hi2⟩:=Ex (is++[x]);rw[hi2]at hX gX' hit hil;clear em hi2 hx;obtain⟨a,d,id,ty,⟨k,n,w,vi,vy⟩,v,tn,fi,ds⟩:=x;simp only[Sf.Inst.cells]at ci hX;refine azb (ai t0 (ai t2 (ai t3 (ai ta tb)))) ?_;refine use ci ?_;refine azb (ai t0 (ai t2 (ai t3 (ai ta (ai tb (ai hX ei)))))) ?_;exact⟨c-(j+1),by omega,j+1,p2,is2,W',o',t',rfl,by omega,rfl,hit,hil,by omega,gX',by(exact ev0 t0),by(exact ev0 t2),by(exact ev0 t3),by(exact ev0 ta),by(exact ev0 ei)⟩
 have hlt:¬((j:Int)<(c:Int)):=by omega
 rw[show c-j=0 by omega]at hit;unfold Sf.instsS at hit;subst hit;have cb:∀q:Wire.St,(Wire.cntR q 1).2≤q.rest.length:=fun q=>Wire.cntR_cnt q
 refine hv12 (fun e2=>?_) (fun e2=>?_)
 ·have gY:Gs 123 3 0 ⟨[],t⟩ (([]:List Sf.Pend).map Sf.Pend.cells) (.sl 0 .nil (([]:List Sf.Pend).map Sf.Pend.cells)):=.inl ⟨rfl,rfl⟩;refine azb (ai t0 (ai t2 (ai t3 (ai ta (ai tb (ai hlt e2)))))) ?_;obtain⟨q,hq⟩:=Ex p;obtain⟨ps,hps⟩:∃ps:List Sf.Pend,[]=ps:=⟨_,rfl⟩;have fin2:=fin2 rfl;have hv0:ver≠2:=by simpa using e2
  subst hq;obtain⟨q,hq⟩:=Ex p;rw[hq]at hpl⊢;obtain⟨⟨rc3,c3⟩,hc3⟩:=Ex (Wire.cntR q.r 1);have lc3:=Wire.cntR_rest q.r 1;have lk3:=Wire.cntR_cnt q.r;rw[hc3]at lc3 lk3;dsimp only at lc3 lk3;obtain⟨res3,hres3⟩:=Ex (Sf.outsS c3 ⟨rc3,q.bad⟩ []);have fin3:∀{r3:Sf.Rs×List Sf.Outp×Bool},r3=res3→Sf.stateS ver s=(r3.1,⟨x1,x2,is,ps,r3.2.1⟩):=fun e=>by rw[e];exact fin2 q ps rc3 c3 (by rw[if_neg hv0,hq,hps]) hc3 hres3
  obtain⟨W2,o2,hW2⟩:∃(W2:Nat) (o2:Own),W2=0∧o2=.nil:=⟨_,_,rfl,rfl⟩;have hY0:(A.sl 0 .nil []:A)=.sl W2 o2 (ps.map Sf.Pend.cells):=by rw[hW2.1,hW2.2,←hps];rfl
  rw[hps]at gY;have gY:Gs 123 3 0 ⟨[],t⟩ (ps.map Sf.Pend.cells) (.sl W2 o2 (ps.map Sf.Pend.cells)):=by rw[hW2.1,hW2.2];exact gY
  refine use (cnt q.r rc3 c3 _ hc3 rfl (by omega)) ?_;refine azb (ai t0 (ai t2 t3)) ?_;refine azf (fun mm ts h=>∃(j:Nat) (p:Sf.Rs) (os:List Sf.Outp) (W3:Nat) (o3:Own) (l:List Blk) (t:List (TypeId×Nat×Nat)),mm=c3-j∧j≤c3∧h=⟨.cells 188 [.ptr 1 0,.int .i64 ver,.bool p.bad]::rdr p.r :: .cells 33 [.str [],.int .i64 0,.sl 0 .nil [],.sl 0 .nil [],.sl 0 .nil []] :: .cells 33 [.str x1,.int .i64 x2,(.sl W o (is.map Sf.Inst.cells)),(.sl W2 o2 (ps.map Sf.Pend.cells)),(.sl W3 o3 (os.map Sf.Outp.cells))]::l,t⟩∧Sf.outsS (c3-j) p os=res3∧os.length=j∧p.r.rest.length≤100000000∧Gs 42 13 0 ⟨[],t⟩ (is.map Sf.Inst.cells) (.sl W o (is.map Sf.Inst.cells))∧Gs 123 3 0 ⟨[],t⟩ (ps.map Sf.Pend.cells) (.sl W2 o2 (ps.map Sf.Pend.cells))∧Gs 126 7 0 ⟨[],t⟩ (os.map Sf.Outp.cells) (.sl W3 o3 (os.map Sf.Outp.cells))∧ts 0=.ptr 0 0∧ts 2=.ptr 2 0∧ts 3=.ptr 3 0∧ts 72=.int .i64 (c3:Nat)∧ts 73=.int .i64 (j:Nat)) c3 ?_ ?_
  ·exact⟨0,⟨rc3,q.bad⟩,[],0,.nil,[],t,by omega,by omega,(by rw[←hY0];rfl),hres3,rfl,(by dsimp only;omega),gX,gY,.inl ⟨rfl,rfl⟩,by(exact ev0 t0),by(exact ev0 t2),by(exact ev0 t3),by(exact ev0 ti),by(exact azq ti)⟩
  rintro mm ts h ⟨j,p,os,W3,o3,l,t,rfl,hjc,rfl,hit,hdl,hpl,gX,gY,gZ,t0,t2,t3,ta,tb⟩;by_cases hj:j<c3
  ·have cf:=akr (ver:=ver) p (.cells 33 [.str [],.int .i64 0,.sl 0 .nil [],.sl 0 .nil [],.sl 0 .nil []] :: .cells 33 [.str x1,.int .i64 x2,(.sl W o (is.map Sf.Inst.cells)),(.sl W2 o2 (ps.map Sf.Pend.cells)),(.sl W3 o3 (os.map Sf.Outp.cells))]::l) t;unfold RB at cf;have hlt:(j:Int)<(c3:Int):=by omega
   have ei:IntKind.i64.wrap ((j:Int)+1)=((j+1:Nat):Int):=by rw[wrap64 (by omega) (by omega)];omega
   rw[show c3-j=(c3-(j+1))+1 by omega]at hit;unfold Sf.outsS at hit;refine azb (ai t0 (ai t2 (ai t3 (ai ta (ai tb hlt))))) ?_;refine use cf ?_;rcases azk p.fails with e|e
   ·rw[e,if_pos rfl]at hit;rw[e];refine azb (ai t0 (ai t2 (ai t3 (ai ta tb)))) ?_;subst hit;have hfin:=fin3 rfl;exact⟨.agg [.str x1,.int .i64 x2,.sl 13 .no (is.map Sf.Inst.cells),.sl 3 .no (ps.map Sf.Pend.cells),.sl 7 .no (os.map Sf.Outp.cells)],⟨aza _,aza _,Gs.le gX,Gs.le gY,Gs.le gZ,trivial⟩,by rw[hfin];rfl,by rw[hfin];rfl,by rw[hfin];rfl⟩
   rw[e,if_neg (by decide)]at hit;rw[e];refine azb (ai t0 (ai t2 (ai t3 (ai ta tb)))) ?_;obtain⟨⟨q1,y1⟩,g1⟩:=Ex (Wire.strR p.r);have m1:=Wire.strR_rest p.r;rw[g1]at m1;dsimp only at m1;refine use (str p.r q1 y1 _ g1 rfl hpl) ?_;refine azb (ai t0 (ai t2 (ai t3 (ai ta tb)))) ?_;have cv:=bze (ver:=ver) ⟨q1,p.bad⟩ (by dsimp only;omega) (.cells 33 [.str [],.int .i64 0,.sl 0 .nil [],.sl 0 .nil [],.sl 0 .nil []] :: .cells 33 [.str x1,.int .i64 x2,(.sl W o (is.map Sf.Inst.cells)),(.sl W2 o2 (ps.map Sf.Pend.cells)),(.sl W3 o3 (os.map Sf.Outp.cells))]::(l++[.cells 126 [.str y1,.int .i64 0,.int .i64 0,.str [],.sl 0 .nil [],.sl 0 .nil [],.bool false]])) t;have m2:=Sf.valueS_le ⟨q1,p.bad⟩;obtain⟨⟨⟨q2,b2⟩,y2⟩,g2⟩:=Ex (Sf.valueS ⟨q1,p.bad⟩);rw[g2]at cv m2;dsimp only at cv m2;obtain⟨⟨⟨q3,b3⟩,y3⟩,g3⟩:=Ex (Sf.flagS ⟨q2,b2⟩);have m3:=Sf.flagS_le ⟨q2,b2⟩;rw[g3]at m3;dsimp only at m3;have ho:Sf.outS p=(⟨q3,b3⟩,⟨y1,y2,y3⟩):=by unfold Sf.outS Sf.strS;simp only[g1,g2,g3]
   rw[ho]at hit;dsimp only at hit;obtain⟨x,hxe⟩:∃x:Sf.Outp,x=⟨y1,y2,y3⟩:=⟨_,rfl⟩;rw[←hxe]at hit;obtain⟨W',o',t',hX,gZ',kZ⟩:=gZ.grow 104 x.cells (by rw[Zj];omega) (by decide);have gX':=kZ _ _ _ _ (by decide) gX;have gY':=kZ _ _ _ _ (by decide) gY;have em:os.map Sf.Outp.cells++[x.cells]=(os++[x]).map Sf.Outp.cells:=by simp
   rw[em]at gZ';simp only[em]at hX;have hil:(os++[x]).length=j+1:=by simp[hdl]
   obtain⟨os2,hi2⟩:=Ex (os++[x]);rw[hi2]at hX gZ' hit hil;clear em hi2;subst hxe;obtain⟨k,n,w,vi,vy⟩:=y2;have hVA:(V.mk k n w vi vy).A=.agg [.int .i64 k,.int .i64 n,.str w,.sl 5 .no (V.cellss vi),.sl 1 .no (strsA vy)]:=by simp only[V.A,V.cells]
   rw[hVA]at cv;unfold RB at cv;simp only[Sf.Outp.cells]at hX;refine use cv ?_;refine azb (ai t0 (ai t2 (ai t3 (ai ta tb)))) ?_;have cg:=bzy (ver:=ver) ⟨q2,b2⟩ (by dsimp only;omega) (.cells 33 [.str [],.int .i64 0,.sl 0 .nil [],.sl 0 .nil [],.sl 0 .nil []] :: .cells 33 [.str x1,.int .i64 x2,(.sl W o (is.map Sf.Inst.cells)),(.sl W2 o2 (ps.map Sf.Pend.cells)),(.sl W3 o3 (os.map Sf.Outp.cells))]::(l++[.cells 126 [.str y1,.int .i64 k,.int .i64 n,.str w,.sl 5 .no (V.cellss vi),.sl 1 .no (strsA vy),.bool false]])) t;rw[g3]at cg;dsimp only at cg;unfold RB at cg;refine use cg ?_;refine azb (ai t0 (ai t2 (ai t3 (ai ta (ai tb (ai hX ei)))))) ?_;exact⟨c3-(j+1),by omega,j+1,⟨q3,b3⟩,os2,W',o',l++[.cells 126 [.str y1,.int .i64 k,.int .i64 n,.str w,.sl 5 .no (V.cellss vi),.sl 1 .no (strsA vy),.bool y3]],t',rfl,by omega,rfl,hit,hil,(by dsimp only;omega),gX',gY',gZ',by(exact ev0 t0),by(exact ev0 t2),by(exact ev0 t3),by(exact ev0 ta),by(exact ev0 ei)⟩
  have hlt:¬((j:Int)<(c3:Int)):=by omega
  rw[show c3-j=0 by omega]at hit;unfold Sf.outsS at hit;subst hit;refine azb (ai t0 (ai t2 (ai t3 (ai ta (ai tb hlt))))) ?_;have hfin:=fin3 rfl;exact⟨.agg [.str x1,.int .i64 x2,.sl 13 .no (is.map Sf.Inst.cells),.sl 3 .no (ps.map Sf.Pend.cells),.sl 7 .no (os.map Sf.Outp.cells)],⟨aza _,aza _,Gs.le gX,Gs.le gY,Gs.le gZ,trivial⟩,by rw[hfin];rfl,by rw[hfin];rfl,by rw[hfin];rfl⟩
 ·obtain⟨⟨rc2,c2⟩,hc2⟩:=Ex (Wire.cntR p.r 1);have lc2:=Wire.cntR_rest p.r 1;have lk2:=Wire.cntR_cnt p.r;rw[hc2]at lc2 lk2;dsimp only at lc2 lk2;obtain⟨res2,hres2⟩:=Ex (Sf.pendsS c2 ⟨rc2,p.bad⟩ []);have hv2:ver=2:=by simpa using e2
  have fin2:=fin2 rfl;have hp2:(if ver=2 then Sf.pendsS (Sf.cntS p).2 (Sf.cntS p).1 []else(p,[]))=res2:=by rw[if_pos hv2];unfold Sf.cntS;rw[hc2];exact hres2
  rw[hp2]at fin2;refine azb (ai t0 (ai t2 (ai t3 (ai ta (ai tb (ai hlt e2)))))) ?_;refine use (cnt p.r rc2 c2 _ hc2 rfl (by omega)) ?_;refine azb (ai t0 (ai t2 t3)) ?_;refine azf (fun mm ts h=>∃(j:Nat) (p:Sf.Rs) (ps:List Sf.Pend) (W2:Nat) (o2:Own) (t:List (TypeId×Nat×Nat)),mm=c2-j∧j≤c2∧h=⟨[.cells 188 [.ptr 1 0,.int .i64 ver,.bool p.bad],rdr p.r,.cells 33 [.str [],.int .i64 0,.sl 0 .nil [],.sl 0 .nil [],.sl 0 .nil []],.cells 33 [.str x1,.int .i64 x2,(.sl W o (is.map Sf.Inst.cells)),(.sl W2 o2 (ps.map Sf.Pend.cells)),.sl 0 .nil []]],t⟩∧Sf.pendsS (c2-j) p ps=res2∧ps.length=j∧p.r.rest.length≤100000000∧Gs 42 13 0 ⟨[],t⟩ (is.map Sf.Inst.cells) (.sl W o (is.map Sf.Inst.cells))∧Gs 123 3 0 ⟨[],t⟩ (ps.map Sf.Pend.cells) (.sl W2 o2 (ps.map Sf.Pend.cells))∧ts 0=.ptr 0 0∧ts 2=.ptr 2 0∧ts 3=.ptr 3 0∧ts 43=.int .i64 (c2:Nat)∧ts 44=.int .i64 (j:Nat)) c2 ?_ ?_
  ·exact⟨0,⟨rc2,p.bad⟩,[],0,.nil,t,by omega,by omega,rfl,hres2,rfl,(by dsimp only;omega),gX,.inl ⟨rfl,rfl⟩,by(exact ev0 t0),by(exact ev0 t2),by(exact ev0 t3),by(exact ev0 ti),by(exact azq ti)⟩
  rintro mm ts h ⟨j,q,ps,W2,o2,t,rfl,hjc,rfl,hit,hdl,hpl,gX,gY,t0,t2,t3,ta,tb⟩;by_cases hj:j<c2
  ·have hq:=hpl;have hlt:(j:Int)<(c2:Int):=by omega
   have ei:IntKind.i64.wrap ((j:Int)+1)=((j+1:Nat):Int):=by rw[wrap64 (by omega) (by omega)];omega
   rw[show c2-j=(c2-(j+1))+1 by omega]at hit;unfold Sf.pendsS at hit;obtain⟨⟨q1,y1⟩,g1⟩:=Ex (Wire.strR q.r);have m1:=Wire.strR_rest q.r;rw[g1]at m1;dsimp only at m1;obtain⟨⟨q2,y2⟩,g2⟩:=Ex (Wire.strR q1);have m2:=Wire.strR_rest q1;rw[g2]at m2;dsimp only at m2;obtain⟨⟨q3,y3⟩,g3⟩:=Ex (Wire.strR q2);have m3:=Wire.strR_rest q2;rw[g3]at m3;dsimp only at m3;have ho:Sf.pendS q=(⟨q3,q.bad⟩,⟨y1,y2,y3⟩):=by unfold Sf.pendS Sf.strS;simp only[g1,g2,g3]
   rw[ho]at hit;dsimp only at hit;obtain⟨x,hxe⟩:∃x:Sf.Pend,x=⟨y1,y2,y3⟩:=⟨_,rfl⟩;rw[←hxe]at hit;obtain⟨W',o',t',hX,gY',kY⟩:=gY.grow 48 x.cells (by rw[Zj];omega) (by decide);have gX':=kY _ _ _ _ (by decide) gX;have em:ps.map Sf.Pend.cells++[x.cells]=(ps++[x]).map Sf.Pend.cells:=by simp
   rw[em]at gY';simp only[em]at hX;have hil:(ps++[x]).length=j+1:=by simp[hdl]
   obtain⟨ps2,hi2⟩:=Ex (ps++[x]);rw[hi2]at hX gY' hit hil;clear em hi2;subst hxe;simp only[Sf.Pend.cells]at hX;refine azb (ai t0 (ai t2 (ai t3 (ai ta (ai tb hlt))))) ?_;refine use (str q.r q1 y1 _ g1 rfl hpl) ?_;refine azb (ai t0 (ai t2 (ai t3 (ai ta tb)))) ?_;refine use (str q1 q2 y2 _ g2 rfl (by omega)) ?_;refine azb (ai t0 (ai t2 (ai t3 (ai ta tb)))) ?_;refine use (str q2 q3 y3 _ g3 rfl (by omega)) ?_;refine azb (ai t0 (ai t2 (ai t3 (ai ta (ai tb (ai hX ei)))))) ?_;exact⟨c2-(j+1),by omega,j+1,⟨q3,q.bad⟩,ps2,W',o',t',rfl,by omega,rfl,hit,hil,(by dsimp only;omega),gX',gY',by(exact ev0 t0),by(exact ev0 t2),by(exact ev0 t3),by(exact ev0 ta),by(exact ev0 ei)⟩
  have hlt:¬((j:Int)<(c2:Int)):=by omega
  rw[show c2-j=0 by omega]at hit;unfold Sf.pendsS at hit;subst hit;obtain⟨⟨rc3,c3⟩,hc3⟩:=Ex (Wire.cntR q.r 1);have lc3:=Wire.cntR_rest q.r 1;have lk3:=Wire.cntR_cnt q.r;rw[hc3]at lc3 lk3;dsimp only at lc3 lk3;obtain⟨res3,hres3⟩:=Ex (Sf.outsS c3 ⟨rc3,q.bad⟩ []);have fin3:∀{r3:Sf.Rs×List Sf.Outp×Bool},r3=res3→Sf.stateS ver s=(r3.1,⟨x1,x2,is,ps,r3.2.1⟩):=fun e=>by rw[e];exact fin2 q ps rc3 c3 rfl hc3 hres3
  refine azb (ai t0 (ai t2 (ai t3 (ai ta (ai tb hlt))))) ?_;refine use (cnt q.r rc3 c3 _ hc3 rfl (by omega)) ?_;refine azb (ai t0 (ai t2 t3)) ?_;refine azf (fun mm ts h=>∃(j:Nat) (p:Sf.Rs) (os:List Sf.Outp) (W3:Nat) (o3:Own) (l:List Blk) (t:List (TypeId×Nat×Nat)),mm=c3-j∧j≤c3∧h=⟨.cells 188 [.ptr 1 0,.int .i64 ver,.bool p.bad]::rdr p.r :: .cells 33 [.str [],.int .i64 0,.sl 0 .nil [],.sl 0 .nil [],.sl 0 .nil []] :: .cells 33 [.str x1,.int .i64 x2,(.sl W o (is.map Sf.Inst.cells)),(.sl W2 o2 (ps.map Sf.Pend.cells)),(.sl W3 o3 (os.map Sf.Outp.cells))]::l,t⟩∧Sf.outsS (c3-j) p os=res3∧os.length=j∧p.r.rest.length≤100000000∧Gs 42 13 0 ⟨[],t⟩ (is.map Sf.Inst.cells) (.sl W o (is.map Sf.Inst.cells))∧Gs 123 3 0 ⟨[],t⟩ (ps.map Sf.Pend.cells) (.sl W2 o2 (ps.map Sf.Pend.cells))∧Gs 126 7 0 ⟨[],t⟩ (os.map Sf.Outp.cells) (.sl W3 o3 (os.map Sf.Outp.cells))∧ts 0=.ptr 0 0∧ts 2=.ptr 2 0∧ts 3=.ptr 3 0∧ts 72=.int .i64 (c3:Nat)∧ts 73=.int .i64 (j:Nat)) c3 ?_ ?_
  ·exact⟨0,⟨rc3,q.bad⟩,[],0,.nil,[],t,by omega,by omega,rfl,hres3,rfl,(by dsimp only;omega),gX,gY,.inl ⟨rfl,rfl⟩,by(exact ev0 t0),by(exact ev0 t2),by(exact ev0 t3),by(exact ev0 ti),by(exact azq ti)⟩
  rintro mm ts h ⟨j,p,os,W3,o3,l,t,rfl,hjc,rfl,hit,hdl,hpl,gX,gY,gZ,t0,t2,t3,ta,tb⟩;by_cases hj:j<c3
  ·have cf:=akr (ver:=ver) p (.cells 33 [.str [],.int .i64 0,.sl 0 .nil [],.sl 0 .nil [],.sl 0 .nil []] :: .cells 33 [.str x1,.int .i64 x2,(.sl W o (is.map Sf.Inst.cells)),(.sl W2 o2 (ps.map Sf.Pend.cells)),(.sl W3 o3 (os.map Sf.Outp.cells))]::l) t;unfold RB at cf;have hlt:(j:Int)<(c3:Int):=by omega
   have ei:IntKind.i64.wrap ((j:Int)+1)=((j+1:Nat):Int):=by rw[wrap64 (by omega) (by omega)];omega
   rw[show c3-j=(c3-(j+1))+1 by omega]at hit;unfold Sf.outsS at hit;refine azb (ai t0 (ai t2 (ai t3 (ai ta (ai tb hlt))))) ?_;refine use cf ?_;rcases azk p.fails with e|e
   ·rw[e,if_pos rfl]at hit;rw[e];refine azb (ai t0 (ai t2 (ai t3 (ai ta tb)))) ?_;subst hit;have hfin:=fin3 rfl;exact⟨.agg [.str x1,.int .i64 x2,.sl 13 .no (is.map Sf.Inst.cells),.sl 3 .no (ps.map Sf.Pend.cells),.sl 7 .no (os.map Sf.Outp.cells)],⟨aza _,aza _,Gs.le gX,Gs.le gY,Gs.le gZ,trivial⟩,by rw[hfin];rfl,by rw[hfin];rfl,by rw[hfin];rfl⟩
   rw[e,if_neg (by decide)]at hit;rw[e];refine azb (ai t0 (ai t2 (ai t3 (ai ta tb)))) ?_;obtain⟨⟨q1,y1⟩,g1⟩:=Ex (Wire.strR p.r);have m1:=Wire.strR_rest p.r;rw[g1]at m1;dsimp only at m1;refine use (str p.r q1 y1 _ g1 rfl hpl) ?_;refine azb (ai t0 (ai t2 (ai t3 (ai ta tb)))) ?_;have cv:=bze (ver:=ver) ⟨q1,p.bad⟩ (by dsimp only;omega) (.cells 33 [.str [],.int .i64 0,.sl 0 .nil [],.sl 0 .nil [],.sl 0 .nil []] :: .cells 33 [.str x1,.int .i64 x2,(.sl W o (is.map Sf.Inst.cells)),(.sl W2 o2 (ps.map Sf.Pend.cells)),(.sl W3 o3 (os.map Sf.Outp.cells))]::(l++[.cells 126 [.str y1,.int .i64 0,.int .i64 0,.str [],.sl 0 .nil [],.sl 0 .nil [],.bool false]])) t;have m2:=Sf.valueS_le ⟨q1,p.bad⟩;obtain⟨⟨⟨q2,b2⟩,y2⟩,g2⟩:=Ex (Sf.valueS ⟨q1,p.bad⟩);rw[g2]at cv m2;dsimp only at cv m2;obtain⟨⟨⟨q3,b3⟩,y3⟩,g3⟩:=Ex (Sf.flagS ⟨q2,b2⟩);have m3:=Sf.flagS_le ⟨q2,b2⟩;rw[g3]at m3;dsimp only at m3;have ho:Sf.outS p=(⟨q3,b3⟩,⟨y1,y2,y3⟩):=by unfold Sf.outS Sf.strS;simp only[g1,g2,g3]
   rw[ho]at hit;dsimp only at hit;obtain⟨x,hxe⟩:∃x:Sf.Outp,x=⟨y1,y2,y3⟩:=⟨_,rfl⟩;rw[←hxe]at hit;obtain⟨W',o',t',hX,gZ',kZ⟩:=gZ.grow 104 x.cells (by rw[Zj];omega) (by decide);have gX':=kZ _ _ _ _ (by decide) gX;have gY':=kZ _ _ _ _ (by decide) gY;have em:os.map Sf.Outp.cells++[x.cells]=(os++[x]).map Sf.Outp.cells:=by simp
   rw[em]at gZ';simp only[em]at hX;have hil:(os++[x]).length=j+1:=by simp[hdl]
   obtain⟨os2,hi2⟩:=Ex (os++[x]);rw[hi2]at hX gZ' hit hil;clear em hi2;subst hxe;obtain⟨k,n,w,vi,vy⟩:=y2;have hVA:(V.mk k n w vi vy).A=.agg [.int .i64 k,.int .i64 n,.str w,.sl 5 .no (V.cellss vi),.sl 1 .no (strsA vy)]:=by simp only[V.A,V.cells]
   rw[hVA]at cv;unfold RB at cv;simp only[Sf.Outp.cells]at hX;refine use cv ?_;refine azb (ai t0 (ai t2 (ai t3 (ai ta tb)))) ?_;have cg:=bzy (ver:=ver) ⟨q2,b2⟩ (by dsimp only;omega) (.cells 33 [.str [],.int .i64 0,.sl 0 .nil [],.sl 0 .nil [],.sl 0 .nil []] :: .cells 33 [.str x1,.int .i64 x2,(.sl W o (is.map Sf.Inst.cells)),(.sl W2 o2 (ps.map Sf.Pend.cells)),(.sl W3 o3 (os.map Sf.Outp.cells))]::(l++[.cells 126 [.str y1,.int .i64 k,.int .i64 n,.str w,.sl 5 .no (V.cellss vi),.sl 1 .no (strsA vy),.bool false]])) t;rw[g3]at cg;dsimp only at cg;unfold RB at cg;refine use cg ?_;refine azb (ai t0 (ai t2 (ai t3 (ai ta (ai tb (ai hX ei)))))) ?_;exact⟨c3-(j+1),by omega,j+1,⟨q3,b3⟩,os2,W',o',l++[.cells 126 [.str y1,.int .i64 k,.int .i64 n,.str w,.sl 5 .no (V.cellss vi),.sl 1 .no (strsA vy),.bool y3]],t',rfl,by omega,rfl,hit,hil,(by dsimp only;omega),gX',gY',gZ',by(exact ev0 t0),by(exact ev0 t2),by(exact ev0 t3),by(exact ev0 ta),by(exact ev0 ei)⟩
  have hlt:¬((j:Int)<(c3:Int)):=by omega
  rw[show c3-j=0 by omega]at hit;unfold Sf.outsS at hit;subst hit;refine azb (ai t0 (ai t2 (ai t3 (ai ta (ai tb hlt))))) ?_;have hfin:=fin3 rfl;exact⟨.agg [.str x1,.int .i64 x2,.sl 13 .no (is.map Sf.Inst.cells),.sl 3 .no (ps.map Sf.Pend.cells),.sl 7 .no (os.map Sf.Outp.cells)],⟨aza _,aza _,Gs.le gX,Gs.le gY,Gs.le gZ,trivial⟩,by rw[hfin];rfl,by rw[hfin];rfl,by rw[hfin];rfl⟩
theorem ax3(s p:List UInt8)(h:Hp):AT 150 [.str s,.str p] h (.bool (decide (p.length≤s.length)&&s.take p.length==p)):=by
 refine pcall ?_ rfl (by simp[A.pure,A.data]) h;refine fo ?_;by_cases hl:p.length≤s.length
 ·have h1:(s.length:Int)≥(p.length:Int):=by omega
  have h2:(p.length:Int)≤(s.length:Int):=by omega
  refine go0 (ai h1 h2) ?_;exact⟨_,le_refl _,by rw[azi,Yd hl];rfl⟩
 ·have h1:¬(s.length:Int)≥(p.length:Int):=by omega
  refine go0 h1 ?_;exact⟨_,le_refl _,by rw[azi,YC hl];rfl⟩
theorem ajp(s p:List UInt8)(h:Hp):AT 109 [.str s,.str p] h (.bool (decide (p.length≤s.length)&&s.take p.length==p)):=by
 refine pcall ?_ rfl (by simp[A.pure,A.data]) h;refine fo ?_;refine go0 ti ?_;refine gc0 ti ?_;refine(ax3 s p _).mono ?_;rintro v h1 ⟨rfl,rfl⟩;refine go0 ti ?_;exact Fn rfl
def magic:List UInt8:=[80,86,83,84]
def preB(s:List UInt8):Bool:=decide (magic.length≤s.length)&&s.take magic.length==magic
def versionS(s:List UInt8):Int×Int:=
 if preB s=false then(0,2)else
 let r:=Wire.numR ⟨s.drop 4,0⟩
 if r.1.e≠0 then(0,2)else if r.2≠1∧r.2≠2 then(0,21)else(r.2,0)
theorem cq7(s:List UInt8)(hs:s.length≤100000000)(h:Hp):AT 111 [.str s] h (.tup [.int .i64 (versionS s).1,.int .i64 (versionS s).2]):=by
 refine pcall ?_ rfl (by simp[A.pure,A.data]) h;refine fo ?_;refine go0 ti ?_;refine gc0 ti ?_;refine(ajp s magic _).mono ?_;rintro v h1 ⟨rfl,rfl⟩;have hV:versionS s=if preB s=false then(0,2)else if(Wire.numR ⟨s.drop 4,0⟩).1.e≠0 then(0,2)else if(Wire.numR ⟨s.drop 4,0⟩).2≠1∧(Wire.numR ⟨s.drop 4,0⟩).2≠2 then(0,21)else((Wire.numR ⟨s.drop 4,0⟩).2,0):=rfl
 rcases azk (preB s)with hp|hp;rotate_left
 ·rw[if_pos hp]at hV;unfold preB at hp;rw[hp,hV];refine go0 ti ?_;exact Fn rfl
 ·rw[if_neg (by simp[hp])]at hV;have hl4:(4:Int)≤(s.length:Int):=by
   unfold preB at hp;simp only[Zc,Zm]at hp;have:=hp.1;simp only[magic,Zh,Zy]at this;omega
  unfold preB at hp;rw[hp];have h04:(0:Int)≤4:=by decide
  have h4:(4:Int).toNat=4:=rfl;refine go0 (ai hl4 (ai h04 h4)) ?_;refine gc0 ti ?_;refine(axh (s.drop 4) _).mono ?_;rintro v h1 ⟨rfl,rfl⟩;refine go0 ti ?_;refine gc0 ti ?_;refine(aqc (i:=0) (r:=⟨s.drop 4,0⟩) rfl (by simp;omega)).mono ?_;rintro v h1 ⟨rfl,rfl⟩;refine go0 ti ?_;refine gc0 ti ?_;refine(bxe (i:=0) (r:=(Wire.numR ⟨s.drop 4,0⟩).1) rfl).mono ?_;rintro v h1 ⟨rfl,rfl⟩;obtain⟨q,hq⟩:=Ex (Wire.numR ⟨s.drop 4,0⟩);rw[hq]at hV⊢;by_cases he:q.1.e=0
  rotate_left
  ·have e1:(q.1.e !=0)=true:=by simp[he]
   rw[if_pos he]at hV;rw[hV];refine go0 e1 ?_;exact Fn rfl
  ·have e1:(q.1.e !=0)=false:=by simp[he]
   rw[if_neg (by simp[he])]at hV;by_cases h1:q.2=1
   ·have e2:(q.2 !=1)=false:=by simp[h1]
    rw[if_neg (by simp[h1])]at hV;rw[hV];refine go0 (ai e1 e2) ?_;exact Fn rfl
   ·have e2:(q.2 !=1)=true:=by simp[h1]
    by_cases h2:q.2=2
    ·have e3:(q.2 !=2)=false:=by simp[h2]
     rw[if_neg (by simp[h2])]at hV;rw[hV];refine go0 (ai e1 (ai e2 e3)) ?_;exact Fn rfl
    ·have e3:(q.2 !=2)=true:=by simp[h2]
     rw[if_pos ⟨h1,h2⟩]at hV;rw[hV];refine go0 (ai e1 (ai e2 e3)) ?_;exact Fn rfl
theorem cz4{P:Program}{G:World→Prop}{c:ACode}{Q:AExit→Ts→Hp→Prop}{ts:Ts}{h:Hp}(k:awp P G c (thenA (fun _ _=>False) Q) ts h):awp P G (.loop c) Q ts h:=⟨1,k⟩
theorem WP.bx{i:Nat}{ver:Int}{l:List UInt8}{h h':Hp}(hp:WP i ver l h h')(h0:l≠[]):h'.b[i]?=some (wtr ver l):=by
 rcases hp.1 with h1|⟨h1,_⟩
 ·exact h1
 ·exact absurd h1 h0
theorem awk(ver:Int)(l:List UInt8):(wtr ver l).loc 0:=by
 intro o x h;simp only[wtr]at h;split at h
 ·injection h with h;subst h;rfl
 ·cases h
theorem liftW{f:FuncId}{args:List A}{ver:Int}{l l':List UInt8}(hl':l'≠[])(hc:AC f (.ptr 0 0::args) ⟨[wtr ver l],[]⟩ fun u h'=>u=.tup []∧WP 0 ver l' ⟨[wtr ver l],[]⟩ h')(ha:A.locL 0 args=true){h:Hp}{i:Nat}(hb:h.b[i]?=some (wtr ver l)):
  AC f (.ptr i 0::args) h fun u h'=>u=.tup []∧h'=⟨h.b.set i (wtr ver l'),h.t⟩:=by
 have h1:AC f (.ptr 0 0::args) ⟨[wtr ver l],[]⟩ fun u h'=>∃b',h'.b[0]?=some b'∧u=.tup []∧b'=wtr ver l':=hc.mono fun u h' ⟨e,hp⟩=>⟨wtr ver l',WP.bx hp hl',e,rfl⟩
 refine(ACall.lift1 h1 ha (awk ver l) ?_ hb).mono ?_
 ·rintro u b' ⟨rfl,rfl⟩;exact⟨rfl,awk ver l'⟩
 ·rintro u h' ⟨b',⟨rfl,rfl⟩,rfl⟩;exact⟨rfl,rfl⟩
theorem cq6(n:Int):Wire.num n≠[]:=by
 have:=(Wire.encF_len 9 (Wire.zig n)).1;intro e;have h:(Wire.num n).length=0:=by rw[e];rfl
 unfold Wire.num at h;omega
theorem cxa{a b:List UInt8}(h:b≠[]):a++b≠[]:=by simp[h]
theorem byt(s:List UInt8):Wire.strE s≠[]:=by
 unfold Wire.strE;intro e;exact cq6 _ (List.append_eq_nil_iff.1 e).1
theorem wn{h:Hp}{i:Nat}{ver:Int}{l:List UInt8}(hb:h.b[i]?=some (wtr ver l))(n:Int)(hlen:l.length+10≤1000000000)(h0:-9223372036854775808≤n)(h1:n≤9223372036854775807):
  AC 134 [.ptr i 0,.int .i64 n] h fun u h'=>u=.tup []∧h'=⟨h.b.set i (wtr ver (l++Wire.num n)),h.t⟩:=
 liftW (cxa (cq6 n)) (bxr (h:=⟨[wtr ver l],[]⟩) (.inl rfl) n hlen h0 h1) rfl hb
theorem wt{h:Hp}{i:Nat}{ver:Int}{l:List UInt8}(hb:h.b[i]?=some (wtr ver l))(s:List UInt8)(hlen:l.length+s.length+10≤1000000000):
  AC 135 [.ptr i 0,.str s] h fun u h'=>u=.tup []∧h'=⟨h.b.set i (wtr ver (l++Wire.strE s)),h.t⟩:=
 liftW (cxa (byt s)) (bjm (h:=⟨[wtr ver l],[]⟩) (.inl rfl) s hlen) rfl hb
theorem wv{h:Hp}{i:Nat}{ver:Int}{l:List UInt8}(hb:h.b[i]?=some (wtr ver l))(v:V)(hz:∃lv b,(Val.chk v lv b).1=0)(hlen:l.length+(Val.enc v).length+10≤1000000000)(hv:v.lens):
  AC 96 [.ptr i 0,v.A] h fun u h'=>u=.tup []∧h'=⟨h.b.set i (wtr ver (l++Val.enc v)),h.t⟩:=
 liftW (cxa (ckk v)) (czu v 0 ver l ⟨[wtr ver l],[]⟩ (.inl rfl) hz hlen hv) (by obtain⟨k,n,s,is,ks⟩:=v;rfl) hb
theorem wf{h:Hp}{i:Nat}{ver:Int}{l:List UInt8}(hb:h.b[i]?=some (wtr ver l))(b:Bool)(hlen:l.length+10≤1000000000):
  AC 137 [.ptr i 0,.bool b] h fun u h'=>u=.tup []∧h'=⟨h.b.set i (wtr ver (l++Sf.flagE b)),h.t⟩:=by
 refine fo ?_;cases b
 ·refine azb ti ?_;refine use (wn hb _ hlen (by decide) (by decide)) ?_;refine azb ti ?_;exact⟨_,le_refl _,rfl,rfl⟩
 ·refine azb ti ?_;refine use (wn hb _ hlen (by decide) (by decide)) ?_;refine azb ti ?_;exact⟨_,le_refl _,rfl,rfl⟩
structure Sf.InstOk(x:Sf.Inst):Prop where
 z:∃lv b,(Val.chk x.attrs lv b).1=0
 lens:x.attrs.lens
 v0:-9223372036854775808≤x.ver
 v1:x.ver≤9223372036854775807
theorem aqs(s:List UInt8):s.length≤(Wire.strE s).length:=by unfold Wire.strE;rw[Za];omega
theorem ax5(ds:List (List UInt8))(j:Nat)(hj:j<ds.length):Sf.wordsE (ds.take (j+1))=Sf.wordsE (ds.take j)++Wire.strE ds[j]:=by
 unfold Sf.wordsE;rw[ZV hj,Yn];simp
theorem ajx(ds:List (List UInt8))(j:Nat):(Sf.wordsE (ds.take j)).length≤(Sf.wordsE ds).length:=by
 have:Sf.wordsE ds=Sf.wordsE (ds.take j)++Sf.wordsE (ds.drop j):=by unfold Sf.wordsE;rw[←Yn,Yq]
 rw[this,Za];omega
theorem dzn{ver:Int}(hver:ver=1∨ver=2)(x:Sf.Inst)(hx:Sf.InstOk x)(l:List UInt8)(hlen:l.length+(Sf.instE ver x).length+20≤1000000000){h:Hp}{i:Nat}(hb:h.b[i]?=some (wtr ver l)):
  AC 136 [.ptr i 0,.agg x.cells] h fun u h'=>u=.tup []∧h'=⟨h.b.set i (wtr ver (l++Sf.instE ver x)),h.t⟩:=by
 have key:AC 136 [.ptr 0 0,.agg x.cells] ⟨[wtr ver l],[]⟩ fun u h'=>∃b',h'.b[0]?=some b'∧u=.tup []∧b'=wtr ver (l++Sf.instE ver x):=by
  have hz:=hx.z;have hl:=hx.lens;have v0:=hx.v0;have v1:=hx.v1;obtain⟨a,d,id,ty,⟨k,n,s,is,ks⟩,v,tn,fi,ds⟩:=x;have hE:Sf.instE ver ⟨a,d,id,ty,.mk k n s is ks,v,tn,fi,ds⟩=Wire.strE a++Wire.strE d++Wire.strE id++Wire.strE ty++Val.enc (.mk k n s is ks)++Wire.num v++Sf.flagE tn++(if ver=2 then Sf.flagE fi else[])++Wire.num ds.length++Sf.wordsE ds:=rfl;rw[hE]at hlen⊢;have la:=aqs a;have lb:=aqs d;have lc:=aqs id;have ld:=aqs ty;have hVA:(V.mk k n s is ks).A=.agg [.int .i64 k,.int .i64 n,.str s,.sl 5 .no (V.cellss is),.sl 1 .no (strsA ks)]:=by simp only[V.A,V.cells]
  have cv:=fun(m:List UInt8) (h:Hp) (hb:h.b[0]?=some (wtr ver m)) (hm:m.length+(Val.enc (.mk k n s is ks)).length+10≤1000000000)=>wv hb (.mk k n s is ks) hz hm hl
  rw[hVA]at cv;simp only[Za]at hlen;obtain⟨F,hF⟩:=Ex ((if ver=2 then Sf.flagE fi else[]));rw[hF]at hlen⊢;have hdl:ds.length≤1000000000:=by
   have:∀l:List (List UInt8),l.length≤(Sf.wordsE l).length:=by
    intro l;induction l with
    |nil=>simp
    |cons x l ih=>
     have h1:Sf.wordsE (x::l)=Wire.strE x++Sf.wordsE l:=by simp[Sf.wordsE]
     have h2:(Wire.strE x).length≠0:=fun e=>byt x (Zab.1 e)
     rw[h1,Za,Zh];omega
   have:=this ds;omega
  refine fo ?_;dsimp only[Sf.Inst.cells];refine azb ti ?_;refine use (wt rfl a (by omega)) ?_;refine azb ti ?_;refine use (wt rfl d (by simp only[Za];omega)) ?_;refine azb ti ?_;refine use (wt rfl id (by simp only[Za];omega)) ?_;refine azb ti ?_;refine use (wt rfl ty (by simp only[Za];omega)) ?_;refine azb ti ?_;refine use (cv _ _ rfl (by simp only[Za];omega)) ?_;refine azb ti ?_;refine use (wn rfl v (by simp only[Za];omega) v0 v1) ?_;refine azb ti ?_;refine use (wf rfl tn (by simp only[Za];omega)) ?_;have hv12:∀{G:Prop},((ver==2)=false→F=[]→G)→((ver==2)=true→F=Sf.flagE fi→G)→G:=fun p q=>by
   rcases hver with rfl|rfl
   ·rw[if_neg (by decide)]at hF;exact p rfl hF.symm
   ·rw[if_pos rfl]at hF;exact q rfl hF.symm
  refine hv12 (fun e2 eF=>?_) (fun e2 eF=>?_);all_goals subst eF
  ·refine azb (ai @cy4 (ai e2 @aze)) ?_;refine use (wn rfl _ (by simp only[Za];omega) (by omega) (by omega)) ?_;refine azb @aze ?_;refine azf (fun mm ts h=>∃j:Nat,mm=ds.length-j∧j≤ds.length∧h=⟨[wtr ver (l++Wire.strE a++Wire.strE d++Wire.strE id++Wire.strE ty++Val.enc (.mk k n s is ks)++Wire.num v++Sf.flagE tn++Wire.num ds.length++Sf.wordsE (ds.take j)),.cells 42 [.str a,.str d,.str id,.str ty,.int .i64 k,.int .i64 n,.str s,.sl 5 .no (V.cellss is),.sl 1 .no (strsA ks),.int .i64 v,.bool tn,.bool fi,.sl 1 .no (strsA ds)]],[]⟩∧ts 0=.ptr 0 0∧ts 49=.sl 1 .no (strsA ds)∧ts 50=.int .i64 (ds.length:Nat)∧ts 51=.int .i64 (j:Nat)) ds.length ?_ ?_
   ·exact⟨0,by omega,by omega,by simp only[Sf.wordsE,Yk,Zai,ZB],by(exact ev0 ti),by(exact ev0 ti),by(exact ev0 @aze),by(exact azq ti)⟩
   ·rintro mm ts h ⟨j,rfl,hjc,rfl,t0,t49,t50,t51⟩;by_cases hj:j<ds.length
    ·have hlt:(j:Int)<(ds.length:Int):=by omega
     have ei:IntKind.i64.wrap ((j:Int)+1)=((j+1:Nat):Int):=by rw[wrap64 (by omega) (by omega)];omega
     have hg:=azv ds j hj;have hlt':(j:Int)<((strsA ds).length:Int):=by rw[aze];exact hlt
     have hj0:(0:Int)≤(j:Int):=by omega
     have ht:=ajx ds (j+1);rw[ax5 ds j hj,Za]at ht;have hsl:=aqs ds[j];refine azb (ai t0 (ai t49 (ai t50 (ai t51 (ai hlt (ai hg (ai hlt' hj0))))))) ?_;refine use (wt rfl ds[j] (by simp only[Za];omega)) ?_;refine azb (ai t0 (ai t49 (ai t50 (ai t51 ei)))) ?_;exact⟨ds.length-(j+1),by omega,j+1,rfl,by omega,by rw[ax5 ds j hj];simp only[Zg],by(exact ev0 t0),by(exact ev0 t49),by(exact ev0 t50),by(exact ev0 ei)⟩
    ·have hlt:¬((j:Int)<(ds.length:Int)):=by omega
     have hjl:j=ds.length:=by omega
     subst hjl;refine azb (ai t0 (ai t49 (ai t50 (ai t51 hlt)))) ?_;exact⟨_,le_refl _,_,rfl,rfl,by simp only[Yj,Zg,Zk]⟩
  ·refine azb (ai @cy4 e2) ?_;refine use (wf rfl fi (by simp only[Za];omega)) ?_;refine azb @aze ?_;refine use (wn rfl _ (by simp only[Za];omega) (by omega) (by omega)) ?_;refine azb @aze ?_;refine azf (fun mm ts h=>∃j:Nat,mm=ds.length-j∧j≤ds.length∧h=⟨[wtr ver (l++Wire.strE a++Wire.strE d++Wire.strE id++Wire.strE ty++Val.enc (.mk k n s is ks)++Wire.num v++Sf.flagE tn++Sf.flagE fi++Wire.num ds.length++Sf.wordsE (ds.take j)),.cells 42 [.str a,.str d,.str id,.str ty,.int .i64 k,.int .i64 n,.str s,.sl 5 .no (V.cellss is),.sl 1 .no (strsA ks),.int .i64 v,.bool tn,.bool fi,.sl 1 .no (strsA ds)]],[]⟩∧ts 0=.ptr 0 0∧ts 49=.sl 1 .no (strsA ds)∧ts 50=.int .i64 (ds.length:Nat)∧ts 51=.int .i64 (j:Nat)) ds.length ?_ ?_
   ·exact⟨0,by omega,by omega,by simp only[Sf.wordsE,Yk,Zai,ZB],by(exact ev0 ti),by(exact ev0 ti),by(exact ev0 @aze),by(exact azq ti)⟩
   ·rintro mm ts h ⟨j,rfl,hjc,rfl,t0,t49,t50,t51⟩;by_cases hj:j<ds.length
    ·have hlt:(j:Int)<(ds.length:Int):=by omega
     have ei:IntKind.i64.wrap ((j:Int)+1)=((j+1:Nat):Int):=by rw[wrap64 (by omega) (by omega)];omega
     have hg:=azv ds j hj;have hlt':(j:Int)<((strsA ds).length:Int):=by rw[aze];exact hlt
     have hj0:(0:Int)≤(j:Int):=by omega
     have ht:=ajx ds (j+1);rw[ax5 ds j hj,Za]at ht;have hsl:=aqs ds[j];refine azb (ai t0 (ai t49 (ai t50 (ai t51 (ai hlt (ai hg (ai hlt' hj0))))))) ?_;refine use (wt rfl ds[j] (by simp only[Za];omega)) ?_;refine azb (ai t0 (ai t49 (ai t50 (ai t51 ei)))) ?_;exact⟨ds.length-(j+1),by omega,j+1,rfl,by omega,by rw[ax5 ds j hj];simp only[Zg],by(exact ev0 t0),by(exact ev0 t49),by(exact ev0 t50),by(exact ev0 ei)⟩
    ·have hlt:¬((j:Int)<(ds.length:Int)):=by omega
     have hjl:j=ds.length:=by omega
     subst hjl;refine azb (ai t0 (ai t49 (ai t50 (ai t51 hlt)))) ?_;exact⟨_,le_refl _,_,rfl,rfl,by simp only[Yj,Zg,Zk]⟩
 refine(ACall.lift1 key (by obtain⟨a,d,id,ty,⟨k,n,s,is,ks⟩,v,tn,fi,ds⟩:=x;rfl) (awk ver l) ?_ hb).mono ?_
 ·rintro u b' ⟨rfl,rfl⟩;exact⟨rfl,awk _ _⟩
 ·rintro u h' ⟨b',⟨rfl,rfl⟩,rfl⟩;exact⟨rfl,rfl⟩
theorem bzh{α:Type}(f:α→List UInt8)(l:List α)(j:Nat)(hj:j<l.length):(l.take (j+1)).flatMap f=(l.take j).flatMap f++f l[j]:=by
 rw[ZV hj,Yn];simp
theorem cxr{α:Type}(f:α→List UInt8)(l:List α)(j:Nat):((l.take j).flatMap f).length≤(l.flatMap f).length:=by
 have:l.flatMap f=(l.take j).flatMap f++(l.drop j).flatMap f:=by rw[←Yn,Yq]
 rw[this,Za];omega
theorem az3{α:Type}(f:α→List A)(l:List α)(j:Nat)(hj:j<l.length):(l.map f).getD j []=f l[j]:=by simp[List.getD,hj]
structure Sf.StOk(s:Sf.St):Prop where
 insts:∀x∈s.insts,Sf.InstOk x
 outs:∀x∈s.outs,(∃lv b,(Val.chk x.value lv b).1=0)∧x.value.lens
 ser0:-9223372036854775808≤s.ser
 ser1:s.ser≤9223372036854775807
 li:s.insts.length≤1000000000
 lp:s.pends.length≤1000000000
 lo:s.outs.length≤1000000000
theorem cw7{ver:Int}(hver:ver=1∨ver=2)(st:Sf.St)(ok:Sf.StOk st)(hlen:(Sf.stE ver st).length+20≤1000000000):
  AC 95 [.ptr 0 0,st.A] ⟨[.cells 160 [.nilp,.sl 0 .nil [],.int .i64 ver]],[]⟩ fun u h'=>∃b',h'.b[0]?=some b'∧u=.tup []∧b'=wtr ver (Sf.stE ver st):=by
 obtain⟨lin,ser,ins,ps,os⟩:=st;have s0:-9223372036854775808≤ser:=ok.ser0;have s1:ser≤9223372036854775807:=ok.ser1;have li:ins.length≤1000000000:=ok.li;have lp:ps.length≤1000000000:=ok.lp;have lo:os.length≤1000000000:=ok.lo;have hml:magic.length=4:=rfl;have lm1:(ins.map Sf.Inst.cells).length=ins.length:=Zj _;have lm2:(ps.map Sf.Pend.cells).length=ps.length:=Zj _;have lm3:(os.map Sf.Outp.cells).length=os.length:=Zj _;obtain⟨F,hF⟩:=Ex ((if ver=2 then Wire.num ps.length++ps.flatMap Sf.pendE else[]));have hE:Sf.stE ver ⟨lin,ser,ins,ps,os⟩=magic++Wire.num ver++Wire.strE lin++Wire.num ser++Wire.num ins.length++ins.flatMap (Sf.instE ver)++F++Wire.num os.length++os.flatMap Sf.outE:=by rw[←hF];rfl
 rw[hE]at hlen;simp only[Za,hml]at hlen;have k0:=aqs lin;have hv12:∀{G:Prop},((ver==2)=false→F=[]→G)→((ver==2)=true→F=Wire.num ps.length++ps.flatMap Sf.pendE→G)→G:=fun p q=>by
  rcases hver with rfl|rfl
  ·rw[if_neg (by decide)]at hF;exact p rfl hF.symm
  ·rw[if_pos rfl]at hF;exact q rfl hF.symm
 have hv1:1≤ver∧ver≤2:=by omega
 refine fo ?_;dsimp only[Sf.St.A];refine azb ti ?_;refine use (bjs (.inr ⟨rfl,rfl⟩) magic (by simp only[Zy,hml];decide)) ?_;refine azb @cy4 ?_;refine use (wn (i:=0) (ver:=ver) (l:=magic) rfl ver (by simp only[Za,hml];omega) (by omega) (by omega)) ?_;refine azb ti ?_;refine use (wt rfl lin (by simp only[Za,hml];omega)) ?_;refine azb ti ?_;refine use (wn rfl ser (by simp only[Za,hml];omega) s0 s1) ?_;refine azb (ai lm1 (ai lm2 lm3)) ?_;refine use (wn rfl _ (by simp only[Za,hml];omega) (by omega) (by omega)) ?_;refine azb (ai lm1 (ai lm2 lm3)) ?_;refine azf (fun mm ts h=>∃(j:Nat) (l:List Blk),mm=ins.length-j∧j≤ins.length∧h=⟨wtr ver (magic++Wire.num ver++Wire.strE lin++Wire.num ser++Wire.num ins.length++(ins.take j).flatMap (Sf.instE ver)) :: .cells 33 [.str lin,.int .i64 ser,.sl 13 .no (ins.map Sf.Inst.cells),.sl 3 .no (ps.map Sf.Pend.cells),.sl 7 .no (os.map Sf.Outp.cells)]::l,[]⟩∧ts 0=.ptr 0 0∧ts 3=.ptr 1 0∧ts 34=.sl 13 .no (ins.map Sf.Inst.cells)∧ts 35=.int .i64 (ins.length:Nat)∧ts 36=.int .i64 (j:Nat)) ins.length ?_ ?_
 ·exact⟨0,[],by omega,by omega,by simp only[Yk,Zai,ZB],by(exact ev0 ti),by(exact ev0 ti),by(exact ev0 ti),by(exact ev0 (ai lm1 (ai lm2 lm3))),by(exact azq ti)⟩
 ·rintro mm ts h ⟨j,l,rfl,hjc,rfl,t0,t3,ta,tb,tc⟩;by_cases hj:j<ins.length
  ·have hlt:(j:Int)<(ins.length:Int):=by omega
   have hlt':(j:Int)<((ins.map Sf.Inst.cells).length:Int):=by rw[Zj];exact hlt
   have hj0:(0:Int)≤(j:Int):=by omega
   have ei:IntKind.i64.wrap ((j:Int)+1)=((j+1:Nat):Int):=by rw[wrap64 (by omega) (by omega)];omega
   have hs:=bzh (Sf.instE ver) ins j hj;have ht:=cxr (Sf.instE ver) ins (j+1);have hg:=az3 Sf.Inst.cells ins j hj;have hm:=Zt hj;have hok:=ok.insts _ hm;obtain⟨x,hx⟩:=Ex (ins[j]);rw[hx]at hs hg hok;rw[hs,Za]at ht;have cw:=fun(m:List UInt8) (h:Hp) (hb:h.b[0]?=some (wtr ver m)) (hm:m.length+(Sf.instE ver x).length+20≤1000000000)=>dzn hver x hok m hm hb
   obtain⟨a,d,id,ty,⟨k,n,s,is,ks⟩,v,tn,fi,ds⟩:=x;simp only[Sf.Inst.cells]at hg cw;refine azb (ai t0 (ai t3 (ai ta (ai tb (ai tc (ai hlt (ai hg (ai hlt' hj0)))))))) ?_;refine use (cw _ _ rfl (by simp only[Za,hml];omega)) ?_;refine azb (ai t0 (ai t3 (ai ta (ai tb (ai tc ei))))) ?_;exact⟨ins.length-(j+1),by omega,j+1,l++[.cells 42 [.str a,.str d,.str id,.str ty,.int .i64 k,.int .i64 n,.str s,.sl 5 .no (V.cellss is),.sl 1 .no (strsA ks),.int .i64 v,.bool tn,.bool fi,.sl 1 .no (strsA ds)]],rfl,by omega,by rw[hs];simp only[Zg],by(exact ev0 t0),by(exact ev0 t3),by(exact ev0 ta),by(exact ev0 tb),by(exact ev0 ei)⟩
  ·have hlt:¬((j:Int)<(ins.length:Int)):=by omega
   have hjl:j=ins.length:=by omega
   subst hjl;rw[Yj];refine hv12 (fun e2 eF=>?_) (fun e2 eF=>?_);all_goals subst eF
   all_goals first|(simp only[Za]at hlen)|skip
   ·refine azb (ai t0 (ai t3 (ai ta (ai tb (ai tc (ai hlt (ai @cy4 (ai e2 (ai lm1 (ai lm2 lm3)))))))))) ?_;refine use (wn (i:=0) (ver:=ver) (l:=magic++Wire.num ver++Wire.strE lin++Wire.num ser++Wire.num ins.length++ins.flatMap (Sf.instE ver)) rfl _ (by simp only[Za,hml];omega) (by omega) (by omega)) ?_;refine azb (ai t0 (ai t3 (ai lm1 (ai lm2 lm3)))) ?_;refine azf (fun mm ts h=>∃(j:Nat) (l:List Blk),mm=os.length-j∧j≤os.length∧h=⟨wtr ver (magic++Wire.num ver++Wire.strE lin++Wire.num ser++Wire.num ins.length++ins.flatMap (Sf.instE ver)++Wire.num os.length++(os.take j).flatMap Sf.outE) :: .cells 33 [.str lin,.int .i64 ser,.sl 13 .no (ins.map Sf.Inst.cells),.sl 3 .no (ps.map Sf.Pend.cells),.sl 7 .no (os.map Sf.Outp.cells)]::l,[]⟩∧ts 0=.ptr 0 0∧ts 3=.ptr 1 0∧ts 80=.sl 7 .no (os.map Sf.Outp.cells)∧ts 81=.int .i64 (os.length:Nat)∧ts 82=.int .i64 (j:Nat)) os.length ?_ ?_
    ·exact⟨0,l,by omega,by omega,by simp only[Yk,Zai,ZB],by(exact ev0 t0),by(exact ev0 t3),by(exact ev0 (ai t0 t3)),by(exact ev0 (ai t0 (ai t3 (ai lm1 (ai lm2 lm3))))),by(exact azq (ai t0 t3))⟩
    ·rintro mm ts h ⟨j,l,rfl,hjc,rfl,t0,t3,ta,tb,tc⟩;by_cases hj:j<os.length
     ·have hlt:(j:Int)<(os.length:Int):=by omega
      have hlt':(j:Int)<((os.map Sf.Outp.cells).length:Int):=by rw[Zj];exact hlt
      have hj0:(0:Int)≤(j:Int):=by omega
      have ei:IntKind.i64.wrap ((j:Int)+1)=((j+1:Nat):Int):=by rw[wrap64 (by omega) (by omega)];omega
      have hs:=bzh Sf.outE os j hj;have ht:=cxr Sf.outE os (j+1);have hg:=az3 Sf.Outp.cells os j hj;have hm:=Zt hj;have hok:=ok.outs _ hm;obtain⟨x,hx⟩:=Ex (os[j]);rw[hx]at hs hg hok;rw[hs,Za]at ht;obtain⟨m,⟨k,n,s,is,ks⟩,b⟩:=x;have hVA:(V.mk k n s is ks).A=.agg [.int .i64 k,.int .i64 n,.str s,.sl 5 .no (V.cellss is),.sl 1 .no (strsA ks)]:=by simp only[V.A,V.cells]
      have cv:=fun(m:List UInt8) (h:Hp) (hb:h.b[0]?=some (wtr ver m)) (hm:m.length+(Val.enc (.mk k n s is ks)).length+10≤1000000000)=>wv hb (.mk k n s is ks) hok.1 hm hok.2
      rw[hVA]at cv;simp only[Sf.Outp.cells]at hg;simp only[Sf.outE]at hs ht;simp only[Za]at ht;have k1:=aqs m;refine azb (ai t0 (ai t3 (ai ta (ai tb (ai tc (ai hlt (ai hg (ai hlt' hj0)))))))) ?_;refine use (wt rfl m (by simp only[Za,hml];omega)) ?_;refine azb (ai t0 (ai t3 (ai ta (ai tb tc)))) ?_;refine use (cv _ _ rfl (by simp only[Za,hml];omega)) ?_;refine azb (ai t0 (ai t3 (ai ta (ai tb tc)))) ?_;refine use (wf rfl b (by simp only[Za,hml];omega)) ?_;refine azb (ai t0 (ai t3 (ai ta (ai tb (ai tc ei))))) ?_;exact⟨os.length-(j+1),by omega,j+1,l++[.cells 126 [.str m,.int .i64 k,.int .i64 n,.str s,.sl 5 .no (V.cellss is),.sl 1 .no (strsA ks),.bool b]],rfl,by omega,by rw[hs];simp only[Zg],by(exact ev0 t0),by(exact ev0 t3),by(exact ev0 ta),by(exact ev0 tb),by(exact ev0 ei)⟩
     ·have hlt:¬((j:Int)<(os.length:Int)):=by omega
      have hjl:j=os.length:=by omega
      subst hjl;rw[Yj];refine azb (ai t0 (ai t3 (ai ta (ai tb (ai tc hlt))))) ?_;exact⟨_,le_refl _,_,rfl,rfl,by rw[hE];simp only[Zg,Zk]⟩
   ·refine azb (ai t0 (ai t3 (ai ta (ai tb (ai tc (ai hlt (ai @cy4 (ai e2 (ai lm1 (ai lm2 lm3)))))))))) ?_;refine use (wn (i:=0) (ver:=ver) (l:=magic++Wire.num ver++Wire.strE lin++Wire.num ser++Wire.num ins.length++ins.flatMap (Sf.instE ver)) rfl _ (by simp only[Za,hml];omega) (by omega) (by omega)) ?_;refine azb (ai t0 (ai t3 (ai lm1 (ai lm2 lm3)))) ?_;refine azf (fun mm ts h=>∃(j:Nat) (l:List Blk),mm=ps.length-j∧j≤ps.length∧h=⟨wtr ver (magic++Wire.num ver++Wire.strE lin++Wire.num ser++Wire.num ins.length++ins.flatMap (Sf.instE ver)++Wire.num ps.length++(ps.take j).flatMap Sf.pendE) :: .cells 33 [.str lin,.int .i64 ser,.sl 13 .no (ins.map Sf.Inst.cells),.sl 3 .no (ps.map Sf.Pend.cells),.sl 7 .no (os.map Sf.Outp.cells)]::l,[]⟩∧ts 0=.ptr 0 0∧ts 3=.ptr 1 0∧ts 55=.sl 3 .no (ps.map Sf.Pend.cells)∧ts 56=.int .i64 (ps.length:Nat)∧ts 57=.int .i64 (j:Nat)) ps.length ?_ ?_
    ·exact⟨0,l,by omega,by omega,by simp only[Yk,Zai,ZB],by(exact ev0 t0),by(exact ev0 t3),by(exact ev0 (ai t0 t3)),by(exact ev0 (ai t0 (ai t3 (ai lm1 (ai lm2 lm3))))),by(exact azq (ai t0 t3))⟩
    ·rintro mm ts h ⟨j,l,rfl,hjc,rfl,t0,t3,ta,tb,tc⟩;by_cases hj:j<ps.length
     ·have hlt:(j:Int)<(ps.length:Int):=by omega
      have hlt':(j:Int)<((ps.map Sf.Pend.cells).length:Int):=by rw[Zj];exact hlt
      have hj0:(0:Int)≤(j:Int):=by omega
      have ei:IntKind.i64.wrap ((j:Int)+1)=((j+1:Nat):Int):=by rw[wrap64 (by omega) (by omega)];omega
      have hs:=bzh Sf.pendE ps j hj;have ht:=cxr Sf.pendE ps (j+1);have hg:=az3 Sf.Pend.cells ps j hj;have hm:=Zt hj;obtain⟨x,hx⟩:=Ex (ps[j]);rw[hx]at hs hg;rw[hs,Za]at ht;simp only[Sf.Pend.cells]at hg;simp only[Sf.pendE]at hs ht;simp only[Za]at ht;have k1:=aqs x.addr;have k2:=aqs x.typ;have k3:=aqs x.tok;refine azb (ai t0 (ai t3 (ai ta (ai tb (ai tc (ai hlt (ai hg (ai hlt' hj0)))))))) ?_;refine use (wt rfl x.addr (by simp only[Za,hml];omega)) ?_;refine azb (ai t0 (ai t3 (ai ta (ai tb tc)))) ?_;refine use (wt rfl x.typ (by simp only[Za,hml];omega)) ?_;refine azb (ai t0 (ai t3 (ai ta (ai tb tc)))) ?_;refine use (wt rfl x.tok (by simp only[Za,hml];omega)) ?_;refine azb (ai t0 (ai t3 (ai ta (ai tb (ai tc ei))))) ?_;exact⟨ps.length-(j+1),by omega,j+1,l++[.cells 123 [.str x.addr,.str x.typ,.str x.tok]],rfl,by omega,by rw[hs];simp only[Zg],by(exact ev0 t0),by(exact ev0 t3),by(exact ev0 ta),by(exact ev0 tb),by(exact ev0 ei)⟩
     ·have hlt:¬((j:Int)<(ps.length:Int)):=by omega
      have hjl:j=ps.length:=by omega
      subst hjl;rw[Yj];refine azb (ai t0 (ai t3 (ai ta (ai tb (ai tc (ai hlt (ai lm1 (ai lm2 lm3)))))))) ?_;refine use (wn rfl _ (by simp only[Za,hml];omega) (by omega) (by omega)) ?_;refine azb (ai t0 (ai t3 (ai lm1 (ai lm2 lm3)))) ?_;refine azf (fun mm ts h=>∃(j:Nat) (l:List Blk),mm=os.length-j∧j≤os.length∧h=⟨wtr ver (magic++Wire.num ver++Wire.strE lin++Wire.num ser++Wire.num ins.length++ins.flatMap (Sf.instE ver)++Wire.num ps.length++ps.flatMap Sf.pendE++Wire.num os.length++(os.take j).flatMap Sf.outE) :: .cells 33 [.str lin,.int .i64 ser,.sl 13 .no (ins.map Sf.Inst.cells),.sl 3 .no (ps.map Sf.Pend.cells),.sl 7 .no (os.map Sf.Outp.cells)]::l,[]⟩∧ts 0=.ptr 0 0∧ts 3=.ptr 1 0∧ts 80=.sl 7 .no (os.map Sf.Outp.cells)∧ts 81=.int .i64 (os.length:Nat)∧ts 82=.int .i64 (j:Nat)) os.length ?_ ?_
      ·exact⟨0,l,by omega,by omega,by simp only[Yk,Zai,ZB],by(exact ev0 t0),by(exact ev0 t3),by(exact ev0 (ai t0 t3)),by(exact ev0 (ai t0 (ai t3 (ai lm1 (ai lm2 lm3))))),by(exact azq (ai t0 t3))⟩
      ·rintro mm ts h ⟨j,l,rfl,hjc,rfl,t0,t3,ta,tb,tc⟩;by_cases hj:j<os.length
       ·have hlt:(j:Int)<(os.length:Int):=by omega
        have hlt':(j:Int)<((os.map Sf.Outp.cells).length:Int):=by rw[Zj];exact hlt
        have hj0:(0:Int)≤(j:Int):=by omega
        have ei:IntKind.i64.wrap ((j:Int)+1)=((j+1:Nat):Int):=by rw[wrap64 (by omega) (by omega)];omega
        have hs:=bzh Sf.outE os j hj;have ht:=cxr Sf.outE os (j+1);have hg:=az3 Sf.Outp.cells os j hj;have hm:=Zt hj;have hok:=ok.outs _ hm;obtain⟨x,hx⟩:=Ex (os[j]);rw[hx]at hs hg hok;rw[hs,Za]at ht;obtain⟨m,⟨k,n,s,is,ks⟩,b⟩:=x;have hVA:(V.mk k n s is ks).A=.agg [.int .i64 k,.int .i64 n,.str s,.sl 5 .no (V.cellss is),.sl 1 .no (strsA ks)]:=by simp only[V.A,V.cells]
        have cv:=fun(m:List UInt8) (h:Hp) (hb:h.b[0]?=some (wtr ver m)) (hm:m.length+(Val.enc (.mk k n s is ks)).length+10≤1000000000)=>wv hb (.mk k n s is ks) hok.1 hm hok.2
        rw[hVA]at cv;simp only[Sf.Outp.cells]at hg;simp only[Sf.outE]at hs ht;simp only[Za]at ht;have k1:=aqs m;refine azb (ai t0 (ai t3 (ai ta (ai tb (ai tc (ai hlt (ai hg (ai hlt' hj0)))))))) ?_;refine use (wt rfl m (by simp only[Za,hml];omega)) ?_;refine azb (ai t0 (ai t3 (ai ta (ai tb tc)))) ?_;refine use (cv _ _ rfl (by simp only[Za,hml];omega)) ?_;refine azb (ai t0 (ai t3 (ai ta (ai tb tc)))) ?_;refine use (wf rfl b (by simp only[Za,hml];omega)) ?_;refine azb (ai t0 (ai t3 (ai ta (ai tb (ai tc ei))))) ?_;exact⟨os.length-(j+1),by omega,j+1,l++[.cells 126 [.str m,.int .i64 k,.int .i64 n,.str s,.sl 5 .no (V.cellss is),.sl 1 .no (strsA ks),.bool b]],rfl,by omega,by rw[hs];simp only[Zg],by(exact ev0 t0),by(exact ev0 t3),by(exact ev0 ta),by(exact ev0 tb),by(exact ev0 ei)⟩
       ·have hlt:¬((j:Int)<(os.length:Int)):=by omega
        have hjl:j=os.length:=by omega
        subst hjl;rw[Yj];refine azb (ai t0 (ai t3 (ai ta (ai tb (ai tc hlt))))) ?_;exact⟨_,le_refl _,_,rfl,rfl,by rw[hE];simp only[Zg,Zk]⟩
theorem ckv(s:List UInt8)(hs:s.length≤2000000)(h:Hp):AT 62 [.str s] h (.bool (s != []&&Str.valid s)):=by
 refine pcall ?_ rfl (by simp[A.pure,A.data]) h;refine fo ?_;rcases azk (s != [])with h1|h1
 ·refine go0 h1 ?_;refine gc0 h1 ?_;refine(bx8 s hs _).mono ?_;rintro v h1' ⟨rfl,rfl⟩;refine go0 h1 ?_;exact⟨_,le_refl _,by rw[azi,h1];rfl⟩
 ·refine go0 h1 ?_;exact⟨_,le_refl _,by rw[azi,h1];rfl⟩
theorem avk(s:List UInt8)(hs:s.length≤1000000000)(h:Hp):AT 24 [.str s] h (.str (Crc.app s)):=
 azo (aqu aqt) (fun w hg=>bw3 ⟨s.toArray⟩ w (by rw[size_mk];exact hs)) (fun C=>rep_str.2 rfl) h
theorem ayo(s:List UInt8)(hs:s.length≤1000000000)(h:Hp):AT 110 [.str s] h (.tup [.str (Crc.ver s).1,.int .i64 (Crc.ver s).2]):=
 azo (aqu aqt) (fun w hg=>bwi ⟨s.toArray⟩ w (by rw[size_mk];exact hs)) (fun C=>rep_tup.2 ⟨_,rfl,repL_cons.2 ⟨_,_,rfl,rep_str.2 rfl,repL_cons.2 ⟨_,_,rfl,rep_int.2 rfl,repL_nil.2 rfl⟩⟩⟩) h
def stE:A:=.agg [.str [],.int .i64 0,.sl 0 .nil [],.sl 0 .nil [],.sl 0 .nil []]
end AX
namespace Sf
def zero:St:=⟨[],0,[],[],[]⟩
def encode(ver:Int)(st:St):List UInt8×Int:=
 if checkZ st≠0 then([],checkZ st)else if 1048572<(stE ver st).length then([],3)else(Crc.app (stE ver st),0)
def decode(s:List UInt8):St×Int:=
 if 1048576<s.length then(zero,3)
 else if AX.preB s=false then(zero,2)
 else if(Crc.ver s).2≠0 then(zero,20)
 else if(AX.versionS (Crc.ver s).1).2≠0 then(zero,(AX.versionS (Crc.ver s).1).2)
 else
  let r:=stateS (AX.versionS (Crc.ver s).1).1 ⟨(Wire.numR ⟨(Crc.ver s).1.drop 4,0⟩).1,false⟩
  if r.1.fails||decide (0<r.1.r.rest.length)||checkZ r.2 !=0 then(zero,2)else(r.2,0)
end Sf
namespace AX
def SCheck(st:Sf.St):Prop:=∀h,AT 29 [st.A] h (.int .i64 (Sf.checkZ st))
theorem cxs{ver:Int}(hver:ver=1∨ver=2)(st:Sf.St)(ok:Sf.StOk st)(hlen:(Sf.stE ver st).length+20≤1000000000){h:Hp}{i:Nat}(hb:h.b[i]?=some (.cells 160 [.nilp,.sl 0 .nil [],.int .i64 ver])):
  AC 95 [.ptr i 0,st.A] h fun u h'=>u=.tup []∧h'=⟨h.b.set i (wtr ver (Sf.stE ver st)),h.t⟩:=by
 refine(ACall.lift1 (cw7 hver st ok hlen) rfl (by intros;rfl) ?_ hb).mono ?_
 ·rintro u b' ⟨rfl,rfl⟩;exact⟨rfl,awk _ _⟩
 ·rintro u h' ⟨b',⟨rfl,rfl⟩,rfl⟩;exact⟨rfl,rfl⟩
theorem dzc(ver:Int)(st:Sf.St):Sf.stE ver st≠[]:=by
 unfold Sf.stE Sf.magic;simp
theorem cvg{ver:Int}(hver:ver=1∨ver=2)(st:Sf.St)(hck:SCheck st)(hok:Sf.checkZ st=0→Sf.StOk st∧(Sf.stE ver st).length+20≤1000000000)(h:Hp):
  AT 53 [st.A,.int .i64 ver] h (.tup [.str (Sf.encode ver st).1,.int .i64 (Sf.encode ver st).2]):=by
 refine pcall ?_ rfl (by simp[A.pure,A.data,Sf.St.A]) h;refine fo ?_;have hw:=fun h hb hz=>cxs hver st (hok hz).1 (hok hz).2 (h:=h) (i:=1) hb
 have hE:Sf.encode ver st=if Sf.checkZ st≠0 then([],Sf.checkZ st)else if 1048572<(Sf.stE ver st).length then([],3)else(Crc.app (Sf.stE ver st),0):=rfl
 unfold SCheck at hck;unfold Sf.St.A at hck hw⊢;by_cases hz:Sf.checkZ st=0
 ·have e1:(Sf.checkZ st !=0)=false:=by simp[hz]
  rw[if_neg (by simp[hz])]at hE;refine azb ti ?_;refine use (hck _) ?_;refine azb e1 ?_;refine use (hw _ rfl hz) ?_;refine azb ti ?_;refine use (dzl (i:=1) (ver:=ver) (l:=Sf.stE ver st) (.inl rfl)) ?_;by_cases hl:((Sf.stE ver st).length:Int)>1048572
  ·rw[if_pos (by omega)]at hE;refine azb hl ?_;exact⟨_,le_refl _,by rw[hE];rfl⟩
  ·rw[if_neg (by omega)]at hE;refine azb hl ?_;refine use (bqu (i:=1) (ver:=ver) (l:=Sf.stE ver st) (.inl rfl) (dzc _ _)) ?_;refine azb ti ?_;refine use (avk _ (by omega) _) ?_;refine azb ti ?_;exact⟨_,le_refl _,by rw[hE];rfl⟩
 ·have e1:(Sf.checkZ st !=0)=true:=by simp[hz]
  rw[if_pos hz]at hE;refine azb ti ?_;refine use (hck _) ?_;refine azb e1 ?_;exact⟨_,le_refl _,by rw[hE];rfl⟩
theorem cjs(st:Sf.St)(hck:SCheck st)(hok:Sf.checkZ st=0→Sf.StOk st∧(Sf.stE 2 st).length+20≤1000000000)(h:Hp):
  AT 20 [st.A] h (.tup [.str (Sf.encode 2 st).1,.int .i64 (Sf.encode 2 st).2]):=by
 refine pcall ?_ rfl (by simp[A.pure,A.data,Sf.St.A]) h;refine fo ?_;have he:=fun h=>cvg (.inr rfl) st hck hok h
 unfold Sf.St.A at he⊢;refine azb ti ?_;refine use (he _) ?_;refine azb ti ?_;exact Fn rfl
theorem liftD{P:Program}{G:World→Prop}{f:FuncId}{args:List A}{ver:Int}{s s':Sf.Rs}{v:A}(hc:ACall P G f (.ptr 0 0::args) ⟨[RB ver s.bad,rdr s.r],[]⟩ fun v' h'=>v'=v∧h'=⟨[RB ver s'.bad,rdr s'.r],[]⟩)(ha:A.locL 0 args=true)(hv:v.loc 0=true)(z:Blk)(l:List Blk)(t:List (TypeId×Nat×Nat)):
  ACall P G f (.ptr 2 0::args) ⟨z::rdr s.r::RB ver s.bad::l,t⟩ fun v' h'=>v'=v∧h'=⟨z::rdr s'.r::RB ver s'.bad::l,t⟩:=by
 have key:=ACall.lift hc (fun i=>if i=0 then 2 else i) (fun a b ha hb e=>by
   simp only[Zh,Zy]at ha hb;have h1:a=0∨a=1:=by omega
   have h2:b=0∨b=1:=by omega
   rcases h1 with rfl|rfl<;>rcases h2 with rfl|rfl<;>simp at e⊢) (by unfold A.locL;rw[(A.locL0 _ args ha).1];rfl)
  (fun x hx=>by
   rcases Z8.1 hx with rfl|hx
   ·rfl
   ·rw[Yw.1 hx];rfl)
  (fun v' h' ⟨e,h0⟩=>⟨by rw[e];exact(A.loc0 _ v hv).1,fun j x hj hx=>by
   have:j=0∨j=1:=by simp only[Zh,Zy]at hj;omega
   rw[h0]at hx;rcases this with rfl|rfl
   ·simp only[ZM]at hx;injection hx with hx;subst hx;rfl
   ·simp only[ZM,ZF]at hx;injection hx with hx;subst hx;rfl⟩)
  (h:=⟨z::rdr s.r::RB ver s.bad::l,t⟩) (fun j hj=>by
   have:j=0∨j=1:=by simp only[Zh,Zy]at hj;omega
   rcases this with rfl|rfl<;>rfl)
 have e:A.renL (fun i=>if i=0 then 2 else i) (.ptr 0 0::args)=.ptr 2 0::args:=by unfold A.renL;rw[(A.locL0 0 args ha).2];rfl
 rw[e]at key;refine key.mono ?_;rintro v' h' ⟨v0,h0,⟨rfl,rfl⟩,rfl,rfl⟩;exact⟨(A.loc0 0 _ hv).2 _,rfl⟩
theorem awt{s:List UInt8}(h:(versionS s).2=0):(versionS s).1=1∨(versionS s).1=2:=by
 unfold versionS at h⊢;split at h
 ·cases h
 ·rename_i h1;rw[if_neg h1];dsimp only at h⊢;split at h
  ·cases h
  ·rename_i h2;rw[if_neg h2];split at h
   ·cases h
   ·rename_i h3;rw[if_neg h3];dsimp only;omega
theorem cxz(s:List UInt8)(hlen:s.length≤1000000000)(hvl:(Crc.ver s).1.length≤s.length)(hck:∀ver r,r.rest.length≤s.length→SCheck (Sf.stateS ver ⟨r,false⟩).2)(h:Hp):
  AT 76 [.str s] h (.tup [(Sf.decode s).1.A,.int .i64 (Sf.decode s).2]):=by
 refine pcall ?_ rfl (by simp[A.pure,A.data]) h;refine fo ?_;obtain⟨D,hD⟩:=Ex (Sf.decode s);rw[hD];unfold Sf.decode at hD;have hzA:Sf.zero.A=.agg [.str [],.int .i64 0,.sl 13 .no [],.sl 3 .no [],.sl 7 .no []]:=rfl;have hz:∀e:Int,le (.tup [.agg [.str [],.int .i64 0,.sl 0 .nil [],.sl 0 .nil [],.sl 0 .nil []],.int .i64 e]) (.tup [Sf.zero.A,.int .i64 e]):=fun e=>⟨⟨aza _,aza _,⟨rfl,.inr rfl,.inl rfl⟩,⟨rfl,.inr rfl,.inl rfl⟩,⟨rfl,.inr rfl,.inl rfl⟩,trivial⟩,rfl,trivial⟩
 by_cases hl:(s.length:Int)>1048576
 ·rw[if_pos (by omega)]at hD;refine azb hl ?_;exact⟨_,hz _,by subst hD;rfl⟩
 rw[if_neg (by omega)]at hD;refine azb hl ?_;refine use (ajp s magic _) ?_;by_cases hp:preB s=false
 ·rw[if_pos hp]at hD;unfold preB at hp;refine azb hp ?_;exact⟨_,hz _,by subst hD;rfl⟩
 rw[if_neg hp]at hD;have hp':(decide (magic.length≤s.length)&&s.take magic.length==magic)=true:=by unfold preB at hp;simpa using hp
 refine azb hp' ?_;refine use (ayo s hlen _) ?_;obtain⟨⟨b,e⟩,hv⟩:=Ex (Crc.ver s);rw[hv]at hD hvl⊢;dsimp only at hD hvl⊢;by_cases he:e=0
 rotate_left
 ·have e1:(e !=0)=true:=by simp[he]
  rw[if_pos he]at hD;refine azb e1 ?_;exact⟨_,hz _,by subst hD;rfl⟩
 have e1:(e !=0)=false:=by simp[he]
 rw[if_neg (by simp[he])]at hD;refine azb e1 ?_;refine use (cq7 b (by omega) _) ?_;have h12:=@awt b;obtain⟨⟨n,e2⟩,hn⟩:=Ex (versionS b);rw[hn]at hD h12⊢;dsimp only at hD h12⊢;by_cases he2:e2=0
 rotate_left
 ·have e3:(e2 !=0)=true:=by simp[he2]
  rw[if_pos he2]at hD;refine azb e3 ?_;exact⟨_,hz _,by subst hD;rfl⟩
 have e3:(e2 !=0)=false:=by simp[he2]
 rw[if_neg (by simp[he2])]at hD;have hb4:4≤b.length:=by
  have hp4:preB b=true:=by
   rcases azk (preB b)with h1|h1
   ·first|exact h1|(exfalso;unfold versionS at hn;rw[if_pos h1]at hn;injection hn with _ hn;omega)
   ·first|exact h1|(exfalso;unfold versionS at hn;rw[if_pos h1]at hn;injection hn with _ hn;omega)
  unfold preB at hp4;have hml:magic.length=4:=rfl;simp only[Zc,Zm,hml]at hp4;exact hp4.1
 have hb5:(4:Int)≤(b.length:Int):=by omega
 refine azb (ai e3 hb5) ?_;refine use (axh (b.drop 4) _) ?_;refine azb ti ?_;refine use (aqc (i:=1) (r:=⟨b.drop 4,0⟩) rfl (by rw[Zv];omega)) ?_;have hql:=Wire.numR_rest ⟨b.drop 4,0⟩;obtain⟨⟨q,qn⟩,hq⟩:=Ex (Wire.numR ⟨b.drop 4,0⟩);rw[hq]at hD hql⊢;dsimp only at hD hql⊢;rw[Zv]at hql;have cs:=liftD (cxh (h12 he2) ⟨q,false⟩ (by dsimp only;omega) [] []) rfl rfl (.cells 33 [.str [],.int .i64 0,.sl 0 .nil [],.sl 0 .nil [],.sl 0 .nil []]) [] [];have hc:=hck n q (by omega);obtain⟨⟨⟨r,bad⟩,st⟩,hs⟩:=Ex (Sf.stateS n ⟨q,false⟩);rw[hs]at cs hc hD;unfold SCheck at hc;unfold Sf.St.A at cs hc;unfold RB at cs;dsimp only at cs hc hD;have cf:=liftD (akr (ver:=n) ⟨r,bad⟩ [] []) rfl rfl (.cells 33 [.str [],.int .i64 0,.sl 0 .nil [],.sl 0 .nil [],.sl 0 .nil []]) [.cells 33 [.str st.lin,.int .i64 st.ser,.sl 13 .no (st.insts.map Sf.Inst.cells),.sl 3 .no (st.pends.map Sf.Pend.cells),.sl 7 .no (st.outs.map Sf.Outp.cells)]] [];unfold RB at cf;dsimp only at cf;refine azb ti ?_;refine use cs ?_;refine azb ti ?_;refine use cf ?_;obtain⟨F,hF⟩:=Ex ((⟨r,bad⟩:Sf.Rs).fails);rw[hF]at hD⊢;cases F;rotate_left
 ·rw[if_pos (by simp only[YR])]at hD;refine azb ti ?_;exact⟨_,hz _,by subst hD;rfl⟩
 simp only[Yr]at hD;refine azb ti ?_;refine use (akt (i:=1) (r:=r) rfl) ?_;by_cases hL:(r.rest.length:Int)>0
 ·rw[Yd (show 0<r.rest.length by omega),if_pos (by simp only[YR])]at hD;refine azb hL ?_;exact⟨_,hz _,by subst hD;rfl⟩
 have hL2:decide (0<r.rest.length)=false:=YC (by omega);simp only[hL2,Yr]at hD;refine azb hL ?_;refine use (hc _) ?_;by_cases hk:Sf.checkZ st=0
 ·have e4:(Sf.checkZ st !=0)=false:=by simp[hk]
  rw[if_neg (by simp[e4])]at hD;refine azb e4 ?_;exact⟨_,le_refl _,by subst hD;rfl⟩
 ·have e4:(Sf.checkZ st !=0)=true:=by simp[hk]
  rw[if_pos e4]at hD;refine azb e4 ?_;exact⟨_,hz _,by subst hD;rfl⟩
end AX
end
section
namespace Wire
theorem zig_zag(u:Nat):zig (zag u)=u:=by
 unfold zig zag;by_cases h:u%2=1
 ·rw[if_pos h,if_pos (by omega)];omega
 ·rw[if_neg h,if_neg (by omega)];omega
theorem grpF_back:∀(f i acc:Nat) (l:List UInt8) (n:Int) (long:Nat),i+f=9→grpF (f+1) i acc l=.ok n long→∃u,(0<i→u≠0)∧n=zag (acc+u*2^(7*i))∧i<long∧l=encF f u++l.drop (long-i)
 |f,i,acc,[],n,long,hi,h=>by simp[grpF]at h
 |0,i,acc,c::r,n,long,hi,h=>by
  simp only[grpF]at h;have hc:=c.toNat_lt;split at h
  ·cases h
  ·next h1=>
   split at h
   ·cases h
   ·next h2=>
    split at h
    ·cases h
    ·next h3=>
     injection h with e1 e2;refine⟨c.toNat,fun hp e=>h3 ⟨hp,Z9.1 (by simpa using e)⟩,?_,by omega,?_⟩
     ·rw[←e1,YM (by omega)]
     ·rw[show long-i=1 by omega];simp[encF]
 |f+1,i,acc,c::r,n,long,hi,h=>by
  have hc:=c.toNat_lt
  have e0:grpF (f+1+1) i acc (c::r)=(if i=9∧1<c.toNat then .err 5
    else if 128≤c.toNat then grpF (f+1) (i+1) (acc+c.toNat%128*2^(7*i)) r
    else if 0<i∧c=0 then .err 1
    else .ok (zag (acc+c.toNat%128*2^(7*i))) (i+1)):=rfl
  rw[e0,if_neg (by omega)]at h;by_cases h2:128≤c.toNat
  ·rw[if_pos h2]at h;obtain⟨u,hu0,hn,hlt,hr⟩:=grpF_back f (i+1) _ r n long (by omega) h;have hu:=hu0 (by omega);have hp:(2:Nat)^(7*(i+1))=128*2^(7*i):=by rw[show 7*(i+1)=7+7*i by omega,Nat.pow_add]
   refine⟨c.toNat%128+128*u,fun _=>by omega,?_,by omega,?_⟩
   ·rw[hn,hp,YS,←Nat.mul_assoc,Nat.mul_comm u 128,Nat.add_assoc]
   ·unfold encF;rw[if_neg (by omega),show(c.toNat%128+128*u)%128=c.toNat%128 by omega,show(c.toNat%128+128*u)/128=u by omega,show c.toNat%128+128=c.toNat by omega,show long-i=(long-(i+1))+1 by omega,ZU];rw[Zo,←hr];simp
  ·rw[if_neg h2]at h;split at h
   ·cases h
   ·next h3=>
    injection h with e1 e2;refine⟨c.toNat,fun hp e=>h3 ⟨hp,Z9.1 (by simpa using e)⟩,?_,by omega,?_⟩
    ·rw[←e1,YM (by omega)]
    ·unfold encF;rw[if_pos (by omega),show long-i=1 by omega];simp
theorem grp_back{l:List UInt8}{n:Int}{long:Nat}(h:grp l=.ok n long):l=num n++l.drop long:=by
 obtain⟨u,_,hn,_,hl⟩:=grpF_back 9 0 0 l n long rfl h;unfold num;rw[hn];simp only[YD,Nat.mul_zero,Nat.pow_zero,Nat.mul_one,zig_zag];exact hl
theorem grpF_err0:∀(f i u:Nat) (l:List UInt8),grpF f i u l≠.err 0
 |0,i,u,l,h=>by simp[grpF]at h
 |f+1,i,u,[],h=>by simp[grpF]at h
 |f+1,i,u,c::r,h=>by
  simp only[grpF]at h;split at h
  ·cases h
  ·split at h
   ·exact grpF_err0 f _ _ r h
   ·split at h<;>cases h
theorem numR_back{r:St}(h:(numR r).1.e=0):r.e=0∧r.rest=num (numR r).2++(numR r).1.rest:=by
 unfold numR at h⊢;by_cases he:r.e=0
 ·refine⟨he,?_⟩;rw[if_neg (by simp[he])]at h⊢;cases hg:grp r.rest with
  |err e=>
   exfalso
   rw[hg]at h;have h':e=0:=h;subst h';unfold grp at hg;exact grpF_err0 _ _ _ _ hg
  |ok n long=>exact grp_back hg
 ·rw[if_pos he]at h;exact absurd h he
theorem cntR_back{r:St}(h:(cntR r 1).1.e=0):r.e=0∧r.rest=num ((cntR r 1).2:Nat)++(cntR r 1).1.rest:=by
 unfold cntR at h⊢;by_cases he:r.e=0
 ·refine⟨he,?_⟩;rw[if_neg (by simp[he])]at h⊢;cases hg:grp r.rest with
  |err e=>
   exfalso
   rw[hg]at h;have h':e=0:=h;subst h';exact grpF_err0 _ _ _ _ hg
  |ok n long=>
   rw[hg]at h;dsimp only at h⊢;split at h
   ·simp at h
   ·next h1=>
    rw[if_neg h1];split at h
    ·simp at h
    ·next h2=>
     rw[if_neg h2];have:=grp_back hg;dsimp only;rw[show((n.toNat:Nat):Int)=n by omega];exact this
 ·rw[if_pos he]at h;exact absurd h he
theorem cntR_fit{r:St}(h:(cntR r 1).1.e=0):(cntR r 1).2≤(cntR r 1).1.rest.length:=by
 unfold cntR at h⊢;by_cases he:r.e=0
 ·rw[if_neg (by simp[he])]at h⊢;cases hg:grp r.rest with
  |err e=>
   rw[hg]at h;have h':e=0:=h;subst h';exact absurd hg (grpF_err0 _ _ _ _)
  |ok n long=>
   rw[hg]at h;dsimp only at h⊢;split at h
   ·simp at h
   ·next h1=>
    rw[if_neg h1];split at h
    ·simp at h
    ·next h2=>
     rw[if_neg h2];rw[Nat.div_one]at h2;dsimp only;rw[Zv];omega
 ·rw[if_pos he]at h;exact absurd h he
theorem strR_back{r:St}(h:(strR r).1.e=0):r.e=0∧r.rest=strE (strR r).2++(strR r).1.rest:=by
 unfold strR at h⊢;dsimp only at h⊢;split at h
 ·next h1=>exact absurd h h1
 ·next h1=>
  rw[if_neg h1];have h2:(cntR r 1).1.e=0:=by simpa using h1
  obtain⟨q1,q2⟩:=cntR_back h2;have q3:=cntR_fit h2;refine⟨q1,?_⟩;dsimp only;unfold strE;rw[ZQ,Nat.min_eq_left q3,Zg,Yq];exact q2
end Wire
namespace Val
def Good(one:Wire.St→Res):Prop:=∀r,(one r).2.1=0→r.e=0∧(one r).1.e=0∧r.rest=enc (one r).2.2++(one r).1.rest
theorem encs_cons(m:Bool)(v:V)(l:List V)(ks:List (List UInt8)):encs m (v::l) ks=keyE m ks++(enc v++encs m l ks.tail):=by rw[encs]
theorem encs_false:∀(is:List V) (k1 k2:List (List UInt8)),encs false is k1=encs false is k2
 |[],_,_=>by rw[encs,encs]
 |v::l,k1,k2=>by rw[encs_cons,encs_cons,encs_false l k1.tail k2.tail];simp[keyE]
theorem itemsW_back{one:Wire.St→Res}(hg:Good one)(m:Bool):∀(c:Nat) (r:Wire.St) (is:List V) (ks:List (List UInt8)),(itemsW one m c r is ks).2.1=0 →
  r.e=0∧(itemsW one m c r is ks).1.e=0∧∃is' ks',(itemsW one m c r is ks).2.2=(is++is',ks++ks')∧is'.length=c∧r.rest=encs m is' ks'++(itemsW one m c r is ks).1.rest
 |0,r,is,ks,h=>by
  unfold itemsW at h⊢;exact⟨h,h,[],[],by simp,rfl,by rw[encs];rfl⟩
 |c+1,r,is,ks,h=>by
  have step:∀(q:Wire.St×List UInt8) (k2:List (List UInt8)),(if(one q.1).2.1≠0 then((one q.1).1,(one q.1).2.1,is,ks)else itemsW one m c (one q.1).1 (is++[(one q.1).2.2]) k2).2.1=0 →
    ∃(is':List V) (ks':List (List UInt8)),q.1.e=0∧(if(one q.1).2.1≠0 then((one q.1).1,(one q.1).2.1,is,ks)else itemsW one m c (one q.1).1 (is++[(one q.1).2.2]) k2).1.e=0 ∧
     (if(one q.1).2.1≠0 then((one q.1).1,(one q.1).2.1,is,ks)else itemsW one m c (one q.1).1 (is++[(one q.1).2.2]) k2).2.2=(is++(one q.1).2.2::is',k2++ks')∧is'.length=c ∧
     q.1.rest=enc (one q.1).2.2++(encs m is' ks'++(if(one q.1).2.1≠0 then((one q.1).1,(one q.1).2.1,is,ks)else itemsW one m c (one q.1).1 (is++[(one q.1).2.2]) k2).1.rest):=fun q k2 h=>by
   by_cases h1:(one q.1).2.1=0
   rotate_left
   ·rw[if_pos h1]at h;exact absurd h h1
   rw[if_neg (by simp[h1])]at h⊢;obtain⟨q1,q2,q3⟩:=hg _ h1;obtain⟨p1,p2,is',ks',p3,p4,p5⟩:=itemsW_back hg m c _ _ _ h;exact⟨is',ks',q1,p2,by rw[p3];simp,p4,by rw[←p5];exact q3⟩
  cases m with
  |false=>
   have e:itemsW one false (c+1) r is ks=(if(one r).2.1≠0 then((one r).1,(one r).2.1,is,ks)else itemsW one false c (one r).1 (is++[(one r).2.2]) ks):=by rw[itemsW];rfl
   rw[e]at h⊢;obtain⟨is',ks',s1,s2,s3,s4,s5⟩:=step (r,[]) ks h;refine⟨s1,s2,_::is',ks',s3,by simp[s4],?_⟩;rw[encs_cons,encs_false is' ks'.tail ks'];simp only[keyE,Zk,Zg];exact s5
  |true=>
   have e:itemsW one true (c+1) r is ks=(if(one (Wire.strR r).1).2.1≠0 then((one (Wire.strR r).1).1,(one (Wire.strR r).1).2.1,is,ks)else itemsW one true c (one (Wire.strR r).1).1 (is++[(one (Wire.strR r).1).2.2]) (ks++[(Wire.strR r).2])):=by rw[itemsW];rfl
   rw[e]at h⊢;obtain⟨is',ks',s1,s2,s3,s4,s5⟩:=step (Wire.strR r) (ks++[(Wire.strR r).2]) h;obtain⟨t1,t2⟩:=Wire.strR_back s1;refine⟨t1,s2,(one (Wire.strR r).1).2.2::is',(Wire.strR r).2::ks',by rw[s3];simp,by simp[s4],?_⟩;rw[encs_cons,t2,s5];simp only[keyE,Zas,Zg]
theorem readW_back{one:Wire.St→Res}(hg:Good one):Good (readW one):=by
 intro r h;unfold readW at h⊢;by_cases he:r.e=0
 rotate_left
 ·rw[if_pos he]at h;exact absurd h he
 rw[if_neg (by simp[he])]at h⊢;dsimp only at h⊢;by_cases hq:(Wire.numR r).1.e=0
 rotate_left
 ·rw[if_pos hq]at h;exact absurd h hq
 rw[if_neg (by simp[hq])]at h⊢;obtain⟨_,hr⟩:=Wire.numR_back hq;obtain⟨⟨q,k⟩,hk⟩:=Ex (Wire.numR r);rw[hk]at h hq hr⊢;dsimp only at h hq hr⊢;split at h
 ·simp at h
 ·next h1=>
  rw[if_neg h1];split at h
  ·next h2=>
   rw[if_pos h2];obtain⟨n1,n2⟩:=Wire.numR_back h;refine⟨he,h,?_⟩;unfold enc;rw[if_pos h2,Zg,←n2];exact hr
  ·next h2=>
   rw[if_neg h2];split at h
   ·next h3=>
    rw[if_pos h3];obtain⟨n1,n2⟩:=Wire.strR_back h;refine⟨he,h,?_⟩;unfold enc;rw[if_neg h2,if_pos h3,Zg,←n2];exact hr
   ·next h3=>
    rw[if_neg h3];split at h
    ·next h4=>
     rw[if_pos h4];obtain⟨p1,p2,is',ks',p3,p4,p5⟩:=itemsW_back hg (k==5) _ _ _ _ h;refine⟨he,p2,?_⟩;rw[Zk,Zk]at p3;dsimp only;rw[p3];dsimp only;unfold enc;rw[if_neg h2,if_neg h3,if_pos h4,Zg,Zg,←p5,p4,hr];obtain⟨_,c2⟩:=Wire.cntR_back p1;rw[←c2]
    ·next h4=>
     rw[if_neg h4];refine⟨he,hq,?_⟩;unfold enc;rw[if_neg h2,if_neg h3,if_neg h4,ZB];exact hr
theorem read_back:∀f,Good (read f)
 |0=>fun r h=>by
  exfalso
  unfold read at h;dsimp only at h;split at h
  ·next h1=>exact h1 h
  ·simp at h
 |f+1=>by
  have:read (f+1)=readW (read f):=by funext r;rw[read]
  rw[this];exact readW_back (read_back f)
theorem readValue_back{r:Wire.St}(h:(readValue r).2.1=0):r.e=0∧(readValue r).1.e=0∧r.rest=enc (readValue r).2.2++(readValue r).1.rest:=by
 unfold readValue at h⊢;dsimp only at h⊢;split at h
 ·next h1=>exact absurd h h1
 ·next h1=>
  rw[if_neg h1];split at h
  ·next h2=>exact absurd h h2
  ·next h2=>
   rw[if_neg h2];exact read_back 32 r h
end Val
namespace Sf
theorem fails_iff(s:Rs):s.fails=false↔s.bad=false∧s.r.e=0:=by
 unfold Rs.fails;rw[Yp,bne_eq_false_iff_eq]
def Took(s s':Rs)(l:List UInt8):Prop:=s.fails=false∧s.r.rest=l++s'.r.rest
theorem Took.trans{a b c:Rs}{l m:List UInt8}(h:Took a b l)(k:Took b c m):Took a c (l++m):=⟨h.1,by rw[h.2,k.2,Zg]⟩
theorem num_took{s:Rs}(h:(numS s).1.fails=false):Took s (numS s).1 (Wire.num (numS s).2):=by
 obtain⟨h1,h2⟩:=(fails_iff _).1 h;obtain⟨q1,q2⟩:=Wire.numR_back h2;exact⟨(fails_iff _).2 ⟨h1,q1⟩,q2⟩
theorem str_took{s:Rs}(h:(strS s).1.fails=false):Took s (strS s).1 (Wire.strE (strS s).2):=by
 obtain⟨h1,h2⟩:=(fails_iff _).1 h;obtain⟨q1,q2⟩:=Wire.strR_back h2;exact⟨(fails_iff _).2 ⟨h1,q1⟩,q2⟩
theorem cnt_took{s:Rs}(h:(cntS s).1.fails=false):Took s (cntS s).1 (Wire.num ((cntS s).2:Nat)):=by
 obtain⟨h1,h2⟩:=(fails_iff _).1 h;obtain⟨q1,q2⟩:=Wire.cntR_back h2;exact⟨(fails_iff _).2 ⟨h1,q1⟩,q2⟩
theorem flag_took{s:Rs}(h:(flagS s).1.fails=false):Took s (flagS s).1 (flagE (flagS s).2):=by
 obtain⟨h1,h2⟩:=(fails_iff _).1 h;obtain⟨q1,q2⟩:=Wire.numR_back h2;have h1':(s.bad||((Wire.numR s.r).2 !=0&&(Wire.numR s.r).2 !=1))=false:=h1;rw[Yp]at h1';refine⟨(fails_iff _).2 ⟨h1'.1,q1⟩,?_⟩;have e:flagE (flagS s).2=Wire.num (Wire.numR s.r).2:=by
  show Wire.num (if((Wire.numR s.r).2==1)=true then 1 else 0)=_
  have h3:=h1'.2;rw[Zac,bne_eq_false_iff_eq,bne_eq_false_iff_eq]at h3;rcases h3 with h3|h3<;>rw[h3]<;>rfl
 rw[e];exact q2
theorem value_took{s:Rs}(h:(valueS s).1.fails=false):Took s (valueS s).1 (Val.enc (valueS s).2):=by
 obtain⟨h1,h2⟩:=(fails_iff _).1 h;have h1':(s.bad||(Val.readValue s.r).2.1 !=0)=false:=h1;rw[Yp,bne_eq_false_iff_eq]at h1';obtain⟨q1,q2,q3⟩:=Val.readValue_back h1'.2;exact⟨(fails_iff _).2 ⟨h1'.1,q1⟩,q3⟩
theorem words_took:∀(c:Nat) (s:Rs) (l:List (List UInt8)),(wordsS c s l).1.fails=false→∃l',(wordsS c s l).2=l++l'∧l'.length=c∧Took s (wordsS c s l).1 (wordsE l')
 |0,s,l,h=>⟨[],by simp[wordsS],rfl,h,rfl⟩
 |c+1,s,l,h=>by
  unfold wordsS at h⊢;obtain⟨l',h1,h2,h3⟩:=words_took c _ _ h;exact⟨(strS s).2::l',by rw[h1];simp,by simp[h2],(str_took h3.1).trans h3⟩
theorem inst_took{ver:Int}{s:Rs}(h:(instS ver s).1.fails=false):Took s (instS ver s).1 (instE ver (instS ver s).2):=by
 unfold instS at h⊢;dsimp only at h⊢;obtain⟨ws,w1,w2,w3⟩:=words_took _ _ _ h;have k:=cnt_took w3.1;have f:Took (flagS (numS (valueS (strS (strS (strS (strS s).1).1).1).1).1).1).1 (if ver=2 then flagS (flagS (numS (valueS (strS (strS (strS (strS s).1).1).1).1).1).1).1 else((flagS (numS (valueS (strS (strS (strS (strS s).1).1).1).1).1).1).1,false)).1 (if ver=2 then flagE (if ver=2 then flagS (flagS (numS (valueS (strS (strS (strS (strS s).1).1).1).1).1).1).1 else((flagS (numS (valueS (strS (strS (strS (strS s).1).1).1).1).1).1).1,false)).2 else[]):=by
  have:=k.1;by_cases hv:ver=2
  ·simp only[if_pos hv]at this⊢;exact flag_took this
  ·simp only[if_neg hv]at this⊢;exact⟨this,rfl⟩
 have t:=flag_took f.1;have n:=num_took t.1;have v:=value_took n.1;have d:=str_took v.1;have c:=str_took d.1;have b:=str_took c.1;have a:=str_took b.1;have all:=((((((((a.trans b).trans c).trans d).trans v).trans n).trans t).trans f).trans k).trans w3;unfold instE;dsimp only;rw[Zk]at w1;rw[w1,w2];exact all
theorem pend_took{s:Rs}(h:(pendS s).1.fails=false):Took s (pendS s).1 (pendE (pendS s).2):=by
 unfold pendS at h⊢;dsimp only at h⊢;have c:=str_took h;have b:=str_took c.1;have a:=str_took b.1;exact(a.trans b).trans c
theorem out_took{s:Rs}(h:(outS s).1.fails=false):Took s (outS s).1 (outE (outS s).2):=by
 unfold outS at h⊢;dsimp only at h⊢;have c:=flag_took h;have b:=value_took c.1;have a:=str_took b.1;exact(a.trans b).trans c
theorem insts_took{ver:Int}:∀(c:Nat) (s:Rs) (l:List Inst),(instsS ver c s l).1.fails=false→∃l',(instsS ver c s l).2=(l++l',true)∧l'.length=c∧Took s (instsS ver c s l).1 (l'.flatMap (instE ver))
 |0,s,l,h=>⟨[],by simp[instsS],rfl,h,rfl⟩
 |c+1,s,l,h=>by
  unfold instsS at h⊢;by_cases hf:s.fails=true
  ·rw[if_pos hf]at h;rw[hf]at h;cases h
  ·rw[if_neg hf]at h⊢;obtain⟨l',h1,h2,h3⟩:=insts_took c _ _ h;exact⟨(instS ver s).2::l',by rw[h1];simp,by simp[h2],by rw[Y9];exact(inst_took h3.1).trans h3⟩
theorem pends_took:∀(c:Nat) (s:Rs) (l:List Pend),(pendsS c s l).1.fails=false→∃l',(pendsS c s l).2=l++l'∧l'.length=c∧Took s (pendsS c s l).1 (l'.flatMap pendE)
 |0,s,l,h=>⟨[],by simp[pendsS],rfl,h,rfl⟩
 |c+1,s,l,h=>by
  unfold pendsS at h⊢;obtain⟨l',h1,h2,h3⟩:=pends_took c _ _ h;exact⟨(pendS s).2::l',by rw[h1];simp,by simp[h2],by rw[Y9];exact(pend_took h3.1).trans h3⟩
theorem outs_took:∀(c:Nat) (s:Rs) (l:List Outp),(outsS c s l).1.fails=false→∃l',(outsS c s l).2=(l++l',true)∧l'.length=c∧Took s (outsS c s l).1 (l'.flatMap outE)
 |0,s,l,h=>⟨[],by simp[outsS],rfl,h,rfl⟩
 |c+1,s,l,h=>by
  unfold outsS at h⊢;by_cases hf:s.fails=true
  ·rw[if_pos hf]at h;rw[hf]at h;cases h
  ·rw[if_neg hf]at h⊢;obtain⟨l',h1,h2,h3⟩:=outs_took c _ _ h;exact⟨(outS s).2::l',by rw[h1];simp,by simp[h2],by rw[Y9];exact(out_took h3.1).trans h3⟩
def restE(ver:Int)(s:St):List UInt8:=
 Wire.strE s.lin++Wire.num s.ser++Wire.num s.insts.length++s.insts.flatMap (instE ver)++(if ver=2 then Wire.num s.pends.length++s.pends.flatMap pendE else[])++Wire.num s.outs.length++s.outs.flatMap outE
theorem stE_rest(ver:Int)(s:St):stE ver s=magic++Wire.num ver++restE ver s:=by
 unfold stE restE;simp only[Zg]
theorem state_took{ver:Int}{s:Rs}(h:(stateS ver s).1.fails=false):Took s (stateS ver s).1 (restE ver (stateS ver s).2):=by
 unfold stateS at h⊢;dsimp only at h⊢;obtain⟨A,hA⟩:=Ex (strS s);obtain⟨N,hN⟩:=Ex (numS A.1);obtain⟨CI,hCI⟩:=Ex (cntS N.1);obtain⟨I,hI⟩:=Ex (instsS ver CI.2 CI.1 []);rw[hA,hN,hCI,hI]at h⊢;have front:I.1.fails=false→I.2.2=true∧Took s I.1 (Wire.strE A.2++Wire.num N.2++Wire.num I.2.1.length++I.2.1.flatMap (instE ver)):=fun hi=>by
  obtain⟨is,i1,i2,i3⟩:=insts_took CI.2 CI.1 [] (by rw[hI];exact hi);rw[hI,Zk]at i1;rw[hI]at i3;have c:=cnt_took (s:=N.1) (by rw[hCI];exact i3.1);have n:=num_took (s:=A.1) (by rw[hN];exact c.1);have a:=str_took (s:=s) (by rw[hA];exact n.1);rw[hCI]at c;rw[hN]at n;rw[hA]at a;rw[i1];refine⟨rfl,?_⟩;dsimp only;rw[i2];exact((a.trans n).trans c).trans i3
 cases hb:I.2.2
 ·rw[hb,if_pos rfl]at h;have:=(front h).1;rw[hb]at this;cases this
 ·rw[hb,if_neg (by decide)]at h;rw[if_neg (by decide)];dsimp only at h⊢;obtain⟨P,hP⟩:=Ex ((if ver=2 then pendsS (cntS I.1).2 (cntS I.1).1 []else(I.1,[])));rw[hP]at h⊢;obtain⟨os,o1,o2,o3⟩:=outs_took _ _ _ h;rw[Zk]at o1;have c:=cnt_took (s:=P.1) o3.1;have mid:Took I.1 P.1 (if ver=2 then Wire.num P.2.length++P.2.flatMap pendE else[]):=by
   by_cases hv:ver=2
   ·rw[if_pos hv]at hP⊢;obtain⟨ps,p1,p2,p3⟩:=pends_took (cntS I.1).2 (cntS I.1).1 [] (by rw[hP];exact c.1);rw[hP,Zk]at p1;rw[hP]at p3;rw[p1,p2];exact(cnt_took p3.1).trans p3
   ·rw[if_neg hv]at hP⊢;subst hP;exact⟨c.1,rfl⟩
  obtain⟨_,fr⟩:=front mid.1;have all:=((fr.trans mid).trans c).trans o3;unfold restE;dsimp only;rw[o1];dsimp only;rw[o2];exact all
end Sf
end
section
namespace Wire
theorem numR_bad{r:St}(h:r.e≠0):numR r=(r,0):=by unfold numR;rw[if_pos h]
theorem cntR_bad{r:St}(h:r.e≠0):cntR r 1=(r,0):=by unfold cntR;rw[if_pos h]
theorem strR_bad{r:St}(h:r.e≠0):strR r=(r,[]):=by unfold strR;rw[cntR_bad h];dsimp only;rw[if_pos h]
end Wire
theorem Val.readValue_bad{r:Wire.St}(h:r.e≠0):Val.readValue r=(r,r.e,Val.zeroV):=by
 have e:Val.read 32 r=(r,r.e,Val.zeroV):=by
  show Val.readW (Val.read 31) r=_
  unfold Val.readW;rw[if_pos h]
 unfold Val.readValue;rw[e];dsimp only;rw[if_pos h]
namespace Sf
open Wire (numR strR cntR numR_bad strR_bad cntR_bad)
def flagQ(r:Wire.St):Wire.St×Bool×Bool:=((numR r).1,(numR r).2==1,(numR r).1.e==0&&((numR r).2==0||(numR r).2==1))
def wordsQ:Nat→Wire.St→List (List UInt8)→Wire.St×List (List UInt8)
 |0,r,l=>(r,l)
 |c+1,r,l=>if r.e≠0 then(r,l)else wordsQ c (strR r).1 (l++[(strR r).2])
def zeroIn:Inst:=⟨[],[],[],[],.mk 0 0 [] [] [],0,false,false,[]⟩
def depsQ(r:Wire.St)(x:Inst):Wire.St×Inst×Bool:=
 let k:=cntR r 1
 let w:=wordsQ k.2 k.1 []
 (w.1,{ x with deps:=w.2 },w.1.e==0)
def instQ(ver:Int)(r:Wire.St):Wire.St×Inst×Bool:=
 let a:=strR r
 let b:=strR a.1
 let c:=strR b.1
 let d:=strR c.1
 let v:=Val.readValue d.1
 if v.2.1≠0 then(v.1,zeroIn,false)
 else
  let n:=numR v.1
  let t:=flagQ n.1
  let f:=if ver≥2∧t.2.2=true then flagQ t.1 else(t.1,false,t.2.2)
  if f.2.2=false then(f.1,zeroIn,false)else depsQ f.1 ⟨a.2,b.2,c.2,d.2,v.2.2,n.2,t.2.1,f.2.1,[]⟩
def instsQ(ver:Int):Nat→Wire.St→List Inst→Option (Wire.St×List Inst)
 |0,r,l=>some (r,l)
 |c+1,r,l=>if(instQ ver r).2.2=false then none else instsQ ver c (instQ ver r).1 (l++[(instQ ver r).2.1])
def pendQ(r:Wire.St):Wire.St×Pend:=
 let a:=strR r
 let b:=strR a.1
 let c:=strR b.1
 (c.1,⟨a.2,b.2,c.2⟩)
def pendsQ:Nat→Wire.St→List Pend→Wire.St×List Pend
 |0,r,l=>(r,l)
 |c+1,r,l=>if r.e≠0 then(r,l)else pendsQ c (pendQ r).1 (l++[(pendQ r).2])
def outsQ:Nat→Wire.St→List Outp→Wire.St×List Outp×Bool
 |0,r,l=>(r,l,r.e==0)
 |c+1,r,l=>
  if r.e≠0 then(r,l,false)
  else
   let a:=strR r
   let v:=Val.readValue a.1
   if v.2.1≠0 then(v.1,[],false)
   else
    let f:=flagQ v.1
    if f.2.2=false then(f.1,[],false)else outsQ c f.1 (l++[⟨a.2,v.2.2,f.2.1⟩])
def stateQ(ver:Int)(r:Wire.St):St×Bool:=
 let a:=strR r
 let n:=numR a.1
 let k:=cntR n.1 1
 match instsQ ver k.2 k.1 []with
 |none=>(zero,false)
 |some (r1,is)=>
  let p:=if ver≥2 then pendsQ (cntR r1 1).2 (cntR r1 1).1 []else(r1,[])
  let co:=cntR p.1 1
  let o:=outsQ co.2 co.1 []
  (⟨a.2,n.2,is,p.2,o.2.1⟩,o.2.2&&o.1.rest.length==0&&checkZ ⟨a.2,n.2,is,p.2,o.2.1⟩==0)
section
variable {s:Rs}
theorem fails_or:s.fails=true↔s.bad=true∨s.r.e≠0:=by
 unfold Rs.fails;rw[ZS,Y8]
theorem numS_f(h:s.fails=true):(numS s).1.fails=true:=by
 rw[fails_or]at h⊢;rcases h with h|h
 ·exact .inl h
 ·refine .inr ?_;unfold numS;rw[numR_bad h];exact h
theorem strS_f(h:s.fails=true):(strS s).1.fails=true:=by
 rw[fails_or]at h⊢;rcases h with h|h
 ·exact .inl h
 ·refine .inr ?_;unfold strS;rw[strR_bad h];exact h
theorem cntS_f(h:s.fails=true):(cntS s).1.fails=true:=by
 rw[fails_or]at h⊢;rcases h with h|h
 ·exact .inl h
 ·refine .inr ?_;unfold cntS;rw[cntR_bad h];exact h
theorem flagS_f(h:s.fails=true):(flagS s).1.fails=true:=by
 rw[fails_or]at h⊢;rcases h with h|h
 ·refine .inl ?_;unfold flagS;dsimp only;rw[h];rfl
 ·refine .inr ?_;unfold flagS;rw[numR_bad h];exact h
theorem instsS_f{ver:Int}:∀(c:Nat) (s:Rs) (l:List Inst),s.fails=true→(instsS ver c s l).1.fails=true
 |0,s,l,h=>h
 |c+1,s,l,h=>by unfold instsS;rw[if_pos h];exact h
theorem pendsS_f:∀(c:Nat) (s:Rs) (l:List Pend),s.fails=true→(pendsS c s l).1.fails=true
 |0,s,l,h=>h
 |c+1,s,l,h=>by unfold pendsS;exact pendsS_f c _ _ (strS_f (strS_f (strS_f h)))
theorem outsS_f:∀(c:Nat) (s:Rs) (l:List Outp),s.fails=true→(outsS c s l).1.fails=true
 |0,s,l,h=>h
 |c+1,s,l,h=>by unfold outsS;rw[if_pos h];exact h
theorem wordsS_f:∀(c:Nat) (s:Rs) (l:List (List UInt8)),s.fails=true→(wordsS c s l).1.fails=true
 |0,s,l,h=>h
 |c+1,s,l,h=>wordsS_f c _ _ (strS_f h)
end
theorem bad_f(r:Wire.St)(h:r.e≠0):(⟨r,false⟩:Rs).fails=true:=fails_or.2 (.inr h)
theorem good_f(r:Wire.St)(h:r.e=0):(⟨r,false⟩:Rs).fails=false:=(fails_iff _).2 ⟨rfl,h⟩
theorem words_agree:∀(c:Nat) (r:Wire.St) (l:List (List UInt8)),((wordsQ c r l).1.e=0→wordsS c ⟨r,false⟩ l=(⟨(wordsQ c r l).1,false⟩,(wordsQ c r l).2))∧((wordsQ c r l).1.e≠0→(wordsS c ⟨r,false⟩ l).1.fails=true)
 |0,r,l=>⟨fun _=>rfl,fun h=>bad_f r h⟩
 |c+1,r,l=>by
  unfold wordsQ;by_cases h:r.e≠0
  ·rw[if_pos h];exact⟨fun h'=>absurd h' h,fun _=>wordsS_f _ _ _ (bad_f r h)⟩
  ·rw[if_neg h];exact words_agree c (strR r).1 _
theorem flag_agree(r:Wire.St):((flagQ r).2.2=true→flagS ⟨r,false⟩=(⟨(flagQ r).1,false⟩,(flagQ r).2.1))∧((flagQ r).2.2=false→(flagS ⟨r,false⟩).1.fails=true):=by
 unfold flagQ flagS;dsimp only;obtain⟨⟨r1,n⟩,h1⟩:=Ex (numR r);rw[h1];dsimp only;refine⟨fun h=>?_,fun h=>?_⟩
 ·simp only[Zc,ZS,ZA]at h;rcases h.2 with e|e<;>subst e<;>rfl
 ·rw[fails_or];by_cases e:r1.e=0
  ·refine .inl ?_;have e':(r1.e==0)=true:=by simp[e]
   rw[e',Zx,Yp]at h;simp[bne,h.1,h.2]
  ·exact .inr e
theorem inst_agree(ver:Int)(hv:ver=1∨ver=2)(r:Wire.St):((instQ ver r).2.2=true→instS ver ⟨r,false⟩=(⟨(instQ ver r).1,false⟩,(instQ ver r).2.1))∧((instQ ver r).2.2=false→(instS ver ⟨r,false⟩).1.fails=true):=by
 unfold instQ instS;obtain⟨⟨r1,x1⟩,h1⟩:=Ex (strR r);obtain⟨⟨r2,x2⟩,h2⟩:=Ex (strR r1);obtain⟨⟨r3,x3⟩,h3⟩:=Ex (strR r2);obtain⟨⟨r4,x4⟩,h4⟩:=Ex (strR r3);have s1:strS ⟨r,false⟩=(⟨r1,false⟩,x1):=by unfold strS;rw[h1]
 have s2:strS ⟨r1,false⟩=(⟨r2,false⟩,x2):=by unfold strS;rw[h2]
 have s3:strS ⟨r2,false⟩=(⟨r3,false⟩,x3):=by unfold strS;rw[h3]
 have s4:strS ⟨r3,false⟩=(⟨r4,false⟩,x4):=by unfold strS;rw[h4]
 simp only[h1,h2,h3,h4,s1,s2,s3,s4];clear h1 h2 h3 h4 s1 s2 s3 s4;obtain⟨⟨r5,e5,v5⟩,h5⟩:=Ex (Val.readValue r4);have s5:valueS ⟨r4,false⟩=(⟨r5,e5 !=0⟩,v5):=by unfold valueS;rw[h5];rfl
 simp only[h5,s5];clear h5 s5;by_cases he:e5=0
 rotate_left
 ·rw[if_pos he];refine⟨fun h=>(by cases h),fun _=>?_⟩;have f0:(⟨r5,e5 !=0⟩:Rs).fails=true:=fails_or.2 (.inl (by simp[he]));have f1:=flagS_f (numS_f f0);refine wordsS_f _ _ _ (cntS_f ?_);split
  ·exact flagS_f f1
  ·exact f1
 subst he;rw[if_neg (by decide)];have eb:((0:Int)!=0)=false:=rfl;rw[eb];obtain⟨⟨r6,x6⟩,h6⟩:=Ex (numR r5);have s6:numS ⟨r5,false⟩=(⟨r6,false⟩,x6):=by unfold numS;rw[h6]
 simp only[h6,s6];clear h6 s6;have h7:=flag_agree r6;obtain⟨⟨r7,x7,o7⟩,hq7⟩:=Ex (flagQ r6);rw[hq7]at h7⊢;dsimp only at h7⊢;cases o7 with
 |false=>
  rw[show(if ver≥2∧false=true then flagQ r7 else(r7,false,false))=(r7,false,false)from if_neg (by rintro⟨_,h⟩;cases h)];dsimp only;rw[if_pos rfl];refine⟨fun h=>(by cases h),fun _=>?_⟩;have f1:=h7.2 rfl;refine wordsS_f _ _ _ (cntS_f ?_);split
  ·exact flagS_f f1
  ·exact f1
 |true=>
  rw[h7.1 rfl];dsimp only;have tail:∀(r8:Wire.St) (x:Inst),((depsQ r8 x).2.2=true→((wordsS (cntS ⟨r8,false⟩).2 (cntS ⟨r8,false⟩).1 []).1,({ x with deps:=(wordsS (cntS ⟨r8,false⟩).2 (cntS ⟨r8,false⟩).1 []).2 }:Inst))=(⟨(depsQ r8 x).1,false⟩,(depsQ r8 x).2.1))∧((depsQ r8 x).2.2=false→(wordsS (cntS ⟨r8,false⟩).2 (cntS ⟨r8,false⟩).1 []).1.fails=true):=by
   intro r8 x;unfold depsQ cntS;dsimp only;obtain⟨a1,a2⟩:=words_agree (cntR r8 1).2 (cntR r8 1).1 [];refine⟨fun h=>?_,fun h=>a2 (by simpa using h)⟩;rw[a1 (by simpa using h)]
  rcases hv with rfl|rfl
  ·rw[show(if(1:Int)≥2∧true=true then flagQ r7 else(r7,false,true))=(r7,false,true)from if_neg (by rintro⟨h,_⟩;exact absurd h (by decide)),if_neg (show¬(1:Int)=2 by decide)];dsimp only;rw[if_neg (by decide)];exact tail r7 _
  ·rw[show(if(2:Int)≥2∧true=true then flagQ r7 else(r7,false,true))=flagQ r7 from if_pos ⟨by decide,rfl⟩,if_pos rfl];have h8:=flag_agree r7;obtain⟨⟨r8,x8,o8⟩,hq8⟩:=Ex (flagQ r7);rw[hq8]at h8⊢;dsimp only at h8⊢;cases o8 with
   |false=>
    rw[if_pos rfl];exact⟨fun h=>(by cases h),fun _=>wordsS_f _ _ _ (cntS_f (h8.2 rfl))⟩
   |true=>
    rw[if_neg (by decide),h8.1 rfl];exact tail r8 _
theorem instQ_bad{ver:Int}{r:Wire.St}(h:r.e≠0):(instQ ver r).2.2=false:=by
 unfold instQ;simp only[strR_bad h,Val.readValue_bad h];rw[if_pos h]
theorem insts_agree(ver:Int)(hv:ver=1∨ver=2):∀(c:Nat) (r:Wire.St) (l:List Inst),(∀r' l',instsQ ver c r l=some (r',l')→instsS ver c ⟨r,false⟩ l=(⟨r',false⟩,l',true))∧(instsQ ver c r l=none→(instsS ver c ⟨r,false⟩ l).1.fails=true)
 |0,r,l=>⟨fun r' l' h=>by
   unfold instsQ at h;injection h with h;injection h with h1 h2
   subst h1;subst h2;rfl,fun h=>by unfold instsQ at h;cases h⟩
 |c+1,r,l=>by
  unfold instsQ instsS;by_cases he:r.e≠0
  ·rw[if_pos (instQ_bad he),if_pos (bad_f r he)];exact⟨fun _ _ h=>(by cases h),fun _=>bad_f r he⟩
  ·rw[if_neg (show¬(⟨r,false⟩:Rs).fails=true by rw[good_f r (by simpa using he)];decide)];obtain⟨i1,i2⟩:=inst_agree ver hv r;cases hq:(instQ ver r).2.2 with
   |false=>
    rw[if_pos rfl];exact⟨fun _ _ h=>(by cases h),fun _=>instsS_f _ _ _ (i2 hq)⟩
   |true=>
    rw[if_neg (by decide),i1 hq];exact insts_agree ver hv c _ _
theorem pends_agree:∀(c:Nat) (r:Wire.St) (l:List Pend),((pendsQ c r l).1.e=0→pendsS c ⟨r,false⟩ l=(⟨(pendsQ c r l).1,false⟩,(pendsQ c r l).2))∧((pendsQ c r l).1.e≠0→(pendsS c ⟨r,false⟩ l).1.fails=true)
 |0,r,l=>⟨fun _=>rfl,fun h=>bad_f r h⟩
 |c+1,r,l=>by
  unfold pendsQ;by_cases h:r.e≠0
  ·rw[if_pos h];exact⟨fun h'=>absurd h' h,fun _=>pendsS_f _ _ _ (bad_f r h)⟩
  ·rw[if_neg h];exact pends_agree c (pendQ r).1 _
theorem outs_agree:∀(c:Nat) (r:Wire.St) (l:List Outp),((outsQ c r l).2.2=true→outsS c ⟨r,false⟩ l=(⟨(outsQ c r l).1,false⟩,(outsQ c r l).2.1,true))∧((outsQ c r l).2.2=false→(outsS c ⟨r,false⟩ l).1.fails=true)
 | 0,r,l=>⟨fun _=>rfl,fun h=>bad_f r (by
   have h:(r.e == 0)=false:=h
   simpa using h)⟩
 |c+1,r,l=>by
  unfold outsQ outsS;by_cases h:r.e≠0
  ·rw[if_pos h,if_pos (bad_f r h)];exact⟨fun h'=>(by cases h'),fun _=>bad_f r h⟩
  rw[if_neg h,if_neg (show¬(⟨r,false⟩:Rs).fails=true by rw[good_f r (by simpa using h)];decide)];unfold outS;obtain⟨⟨r1,x1⟩,h1⟩:=Ex (strR r);have s1:strS ⟨r,false⟩=(⟨r1,false⟩,x1):=by unfold strS;rw[h1]
  obtain⟨⟨r5,e5,v5⟩,h5⟩:=Ex (Val.readValue r1);have s5:valueS ⟨r1,false⟩=(⟨r5,e5 !=0⟩,v5):=by unfold valueS;rw[h5];rfl
  simp only[h1,s1,h5,s5];by_cases he:e5=0
  rotate_left
  ·rw[if_pos he];exact⟨fun h'=>(by cases h'),fun _=>outsS_f _ _ _ (flagS_f (fails_or.2 (.inl (by simp[he]))))⟩
  subst he;rw[if_neg (by decide)];have eb:((0:Int)!=0)=false:=rfl;rw[eb];obtain⟨f1,f2⟩:=flag_agree r5;cases hq:(flagQ r5).2.2 with
  |false=>
   rw[if_pos rfl];exact⟨fun h'=>(by cases h'),fun _=>outsS_f _ _ _ (f2 hq)⟩
  |true=>
   rw[if_neg (by decide),f1 hq];exact outs_agree c _ _
theorem state_agree(ver:Int)(hv:ver=1∨ver=2)(r:Wire.St):((stateQ ver r).2=true→((stateS ver ⟨r,false⟩).1.fails||decide (0<(stateS ver ⟨r,false⟩).1.r.rest.length)||checkZ (stateS ver ⟨r,false⟩).2 !=0)=false∧(stateS ver ⟨r,false⟩).2=(stateQ ver r).1) ∧
  ((stateQ ver r).2=false→((stateS ver ⟨r,false⟩).1.fails||decide (0<(stateS ver ⟨r,false⟩).1.r.rest.length)||checkZ (stateS ver ⟨r,false⟩).2 !=0)=true):=by
 unfold stateQ stateS;obtain⟨⟨r1,x1⟩,h1⟩:=Ex (strR r);have s1:strS ⟨r,false⟩=(⟨r1,false⟩,x1):=by unfold strS;rw[h1]
 obtain⟨⟨r2,x2⟩,h2⟩:=Ex (numR r1);have s2:numS ⟨r1,false⟩=(⟨r2,false⟩,x2):=by unfold numS;rw[h2]
 obtain⟨⟨r3,c3⟩,h3⟩:=Ex (cntR r2 1);have s3:cntS ⟨r2,false⟩=(⟨r3,false⟩,c3):=by unfold cntS;rw[h3]
 simp only[h1,s1,h2,s2,h3,s3];clear h1 h2 h3 s1 s2 s3;obtain⟨i1,i2⟩:=insts_agree ver hv c3 r3 [];cases hi:instsQ ver c3 r3 []with
 |none=>
  have f:=i2 hi;dsimp only;refine⟨fun h=>(by cases h),fun _=>?_⟩;obtain⟨I,hI⟩:=Ex (instsS ver c3 ⟨r3,false⟩ []);rw[hI]at f⊢;have key:∀(q:Rs×St),q.1.fails=true→(q.1.fails||decide (0<q.1.r.rest.length)||checkZ q.2 !=0)=true:=fun q h=>by rw[h];rfl
  refine key _ ?_;split
  ·exact f
  ·refine outsS_f _ _ _ (cntS_f ?_);split
   ·exact pendsS_f _ _ _ (cntS_f f)
   ·exact f
 |some p=>
  obtain⟨r4,is⟩:=p;rw[i1 _ _ hi];dsimp only;rw[if_neg (show¬(true=false) by decide)];have hge:(ver≥2)↔ver=2:=by omega
  have main:∀(r5:Wire.St) (ps:List Pend),((outsQ (cntR r5 1).2 (cntR r5 1).1 []).2.2&&(outsQ (cntR r5 1).2 (cntR r5 1).1 []).1.rest.length==0&&checkZ ⟨x1,x2,is,ps,(outsQ (cntR r5 1).2 (cntR r5 1).1 []).2.1⟩==0)=true →
    ((outsS (cntS ⟨r5,false⟩).2 (cntS ⟨r5,false⟩).1 []).1.fails||decide (0<(outsS (cntS ⟨r5,false⟩).2 (cntS ⟨r5,false⟩).1 []).1.r.rest.length)||checkZ ⟨x1,x2,is,ps,(outsS (cntS ⟨r5,false⟩).2 (cntS ⟨r5,false⟩).1 []).2.1⟩!=0)=false∧(⟨x1,x2,is,ps,(outsS (cntS ⟨r5,false⟩).2 (cntS ⟨r5,false⟩).1 []).2.1⟩:St)=⟨x1,x2,is,ps,(outsQ (cntR r5 1).2 (cntR r5 1).1 []).2.1⟩:=by
   intro r5 ps h;have sc:cntS ⟨r5,false⟩=(⟨(cntR r5 1).1,false⟩,(cntR r5 1).2):=rfl;rw[sc];dsimp only;rw[Zc,Zc,ZA,ZA]at h;obtain⟨⟨h1,h2⟩,h3⟩:=h;rw[(outs_agree _ _ _).1 h1];dsimp only;have e0:(outsQ (cntR r5 1).2 (cntR r5 1).1 []).1.e=0:=by
    have:∀(c:Nat) (r:Wire.St) (l:List Outp),(outsQ c r l).2.2=true→(outsQ c r l).1.e=0:=fun c=>by
     induction c with
     |zero=>intro r l h;have h:(r.e==0)=true:=h;show r.e=0;simpa using h
     |succ c ih=>
      intro r l h;unfold outsQ at h⊢;split at h
      ·cases h
      next n1=>
      rw[if_neg n1];dsimp only at h⊢;split at h
      ·cases h
      next n2=>
      rw[if_neg n2];split at h
      ·cases h
      next n3=>
      rw[if_neg n3];exact ih _ _ h
    exact this _ _ _ h1
   rw[good_f _ e0,h2,h3];exact⟨rfl,rfl⟩
  have main2:∀(r5:Wire.St) (ps:List Pend),((outsQ (cntR r5 1).2 (cntR r5 1).1 []).2.2&&(outsQ (cntR r5 1).2 (cntR r5 1).1 []).1.rest.length==0&&checkZ ⟨x1,x2,is,ps,(outsQ (cntR r5 1).2 (cntR r5 1).1 []).2.1⟩==0)=false →
    ((outsS (cntS ⟨r5,false⟩).2 (cntS ⟨r5,false⟩).1 []).1.fails||decide (0<(outsS (cntS ⟨r5,false⟩).2 (cntS ⟨r5,false⟩).1 []).1.r.rest.length)||checkZ ⟨x1,x2,is,ps,(outsS (cntS ⟨r5,false⟩).2 (cntS ⟨r5,false⟩).1 []).2.1⟩!=0)=true:=by
   intro r5 ps h;have sc:cntS ⟨r5,false⟩=(⟨(cntR r5 1).1,false⟩,(cntR r5 1).2):=rfl;rw[sc];dsimp only;obtain⟨o1,o2⟩:=outs_agree (cntR r5 1).2 (cntR r5 1).1 [];cases ho:(outsQ (cntR r5 1).2 (cntR r5 1).1 []).2.2 with
   |false=>rw[o2 ho];rfl
   |true=>
    rw[o1 ho];dsimp only;rw[ho,Zx,Zac]at h;rcases h with h|h
    ·have:0<(outsQ (cntR r5 1).2 (cntR r5 1).1 []).1.rest.length:=by
      have:(outsQ (cntR r5 1).2 (cntR r5 1).1 []).1.rest.length≠0:=by simpa using h
      omega
     rw[Yd this];simp
    ·have:(checkZ ⟨x1,x2,is,ps,(outsQ (cntR r5 1).2 (cntR r5 1).1 []).2.1⟩!=0)=true:=by
      rw[bne,h];rfl
     rw[this];simp
  by_cases h2:ver=2
  ·rw[if_pos (hge.2 h2),if_pos h2];have sc:cntS ⟨r4,false⟩=(⟨(cntR r4 1).1,false⟩,(cntR r4 1).2):=rfl;rw[sc];dsimp only;obtain⟨p1,p2⟩:=pends_agree (cntR r4 1).2 (cntR r4 1).1 [];by_cases he:(pendsQ (cntR r4 1).2 (cntR r4 1).1 []).1.e=0
   ·rw[p1 he];dsimp only;exact⟨main _ _,main2 _ _⟩
   ·have f:=p2 he;have hno:(outsQ (cntR (pendsQ (cntR r4 1).2 (cntR r4 1).1 []).1 1).2 (cntR (pendsQ (cntR r4 1).2 (cntR r4 1).1 []).1 1).1 []).2.2=false:=by
     rw[cntR_bad he];show(_==_)=false
     simpa using he
    rw[hno,ZT,ZT];refine⟨fun h=>(by cases h),fun _=>?_⟩;rw[outsS_f _ _ _ (cntS_f f)];rfl
  ·rw[if_neg (fun h=>h2 (hge.1 h)),if_neg h2];dsimp only;exact⟨main _ _,main2 _ _⟩
def decodeQ(s:List UInt8):St×Int:=
 if 1048576<s.length then(zero,3)
 else if AX.preB s=false then(zero,2)
 else if(Crc.ver s).2≠0 then(zero,20)
 else if(AX.versionS (Crc.ver s).1).2≠0 then(zero,(AX.versionS (Crc.ver s).1).2)
 else if(stateQ (AX.versionS (Crc.ver s).1).1 (numR ⟨(Crc.ver s).1.drop 4,0⟩).1).2=false then(zero,2)else((stateQ (AX.versionS (Crc.ver s).1).1 (numR ⟨(Crc.ver s).1.drop 4,0⟩).1).1,0)
theorem version_one(s:List UInt8)(h:(AX.versionS s).2=0):(AX.versionS s).1=1∨(AX.versionS s).1=2:=by
 unfold AX.versionS at h⊢;split at h
 ·exact absurd h (by decide)
 next h1=>
 rw[if_neg h1];dsimp only at h⊢;split at h
 ·exact absurd h (by decide)
 next h2=>
 rw[if_neg h2];split at h
 ·exact absurd h (by decide)
 next h3=>
 rw[if_neg h3];dsimp only;omega
theorem decode_agree(s:List UInt8):decodeQ s=decode s:=by
 unfold decodeQ decode;split
 ·rfl
 split
 ·rfl
 split
 ·rfl
 split
 ·rfl
 next h=>
 obtain⟨a1,a2⟩:=state_agree _ (version_one _ (by simpa using h)) (numR ⟨(Crc.ver s).1.drop 4,0⟩).1;cases hq:(stateQ (AX.versionS (Crc.ver s).1).1 (numR ⟨(Crc.ver s).1.drop 4,0⟩).1).2 with
 |false=>
  rw[if_pos rfl];dsimp only;rw[if_pos (a2 hq)]
 |true=>
  rw[if_neg (by decide)];obtain⟨b1,b2⟩:=a1 hq;dsimp only;rw[if_neg (by rw[b1];decide),b2]
end Sf
end
section
open Go.RowKit
structure Jr where
 kind:Int
 base:Sf.St
 step:Int
 op:Int
 addr:List UInt8
 dep:List UInt8
 typ:List UInt8
 tok:List UInt8
 err:Int
 after:Sf.Inst
namespace Jr
def shortB(l:List (List UInt8)):Bool:=l.all fun s=>decide ((s.length:Int)≤4096)
def zeroV:V→Bool
 |.mk k n s is ks=>k==0&&n==0&&s == []&&(is.length:Int)==0&&(ks.length:Int)==0
def noneB(x:Sf.Inst):Bool:=zeroV x.attrs&&x.addr == []&&x.dep == []&&x.id == []&&x.typ == []&&x.ver==0&&!x.tainted&&!x.first&&(x.deps.length:Int)==0
def emptyB(s:Sf.St):Bool:=s.lin == []&&s.ser==0&&(s.insts.length:Int)==0&&(s.pends.length:Int)==0&&(s.outs.length:Int)==0
def instB(x:Sf.Inst):Bool:=shortB [x.addr,x.dep,x.id,x.typ]&&shortB x.deps&&decide ((x.deps.length:Int)≤512)&&Val.checkZ x.attrs==0&&decide (x.ver≥0)&&decide (x.ver≤9007199254740992)
def stepB(r:Jr):Bool:=decide (r.step≥0)&&decide (r.step<2048)&&decide (r.op≥1)&&decide (r.op≤4)&&shortB [r.addr,r.dep,r.typ]
def bareB(r:Jr):Bool:=r.step==0&&r.op==0&&r.addr == []&&r.dep == []&&r.typ == []
def makesB(op:Int):Bool:=op==1||op==2
def afterB(r:Jr):Bool:=noneB r.after||makesB r.op&&instB r.after
def badB(r:Jr):Bool:=r.kind !=1&&!emptyB r.base||r.kind !=2&&r.tok != []||r.kind !=4&&r.err !=0
def validB(r:Jr):Bool:=
 if badB r=true then false
 else if r.kind=1∨r.kind=5 then bareB r&&noneB r.after
 else if r.kind=2 then stepB r&&noneB r.after&&shortB [r.tok]&&(r.op==1||r.tok == [])
 else if r.kind=3 then stepB r&&afterB r
 else if r.kind=4 then stepB r&&afterB r&&decide (r.err≥1)&&decide (r.err≤42)
 else false
def cells(r:Jr):List AX.A:=
 [.int .i64 r.kind,.str r.base.lin,.int .i64 r.base.ser,.sl 13 .no (r.base.insts.map Sf.Inst.cells),.sl 3 .no (r.base.pends.map Sf.Pend.cells),.sl 7 .no (r.base.outs.map Sf.Outp.cells),.int .i64 r.step,.int .i64 r.op,.str r.addr,.str r.dep,.str r.typ,.str r.tok,.int .i64 r.err]++Sf.Inst.cells r.after
end Jr
namespace AX
theorem ajn{α:Type}(f:α→List A)(l:List α)(i:Nat)(h:i<l.length)(hl:l.length≤4611686018427387904):
  (l.map f).length=l.length∧(i:Int)<(l.length:Int)∧(0:Int)≤(i:Int)∧(l.map f).getD i []=f l[i]∧IntKind.i64.wrap ((i:Int)+1)=((i+1:Nat):Int):=
 ⟨Zj _,by omega,by omega,by simp[List.getD,h],by rw[wrap64 (by omega) (by omega)];omega⟩
theorem akl{α:Type}(f:α→List A)(l:List α)(i:Nat)(h:l.length≤i):(l.map f).length=l.length∧¬(i:Int)<(l.length:Int):=⟨Zj _,by omega⟩
end AX
def gfind{α:Type}(n:Int):List (Int×α)→Option α
 |[]=>none
 |(k,x)::l=>if n=k then some x else gfind n l
def gput{α:Type}(n:Int)(x:α):List (Int×α)→List (Int×α)
 |[]=>[(n,x)]
 |(k,y)::l=>if n=k then(n,x)::l else(k,y)::gput n x l
section
variable {α:Type} (f:α→AX.A) (n:Int)
end
structure Fo where
 n:Int
 ended:Bool
 ints:List (Int×Jr)
 ress:List (Int×Bool)
 c1:Nat
 c2:Nat
namespace Fo
def next(f:Fo)(r:Jr):Bool×Fo:=
 let f1:Fo:={ f with n:=IntKind.i64.wrap (f.n+1) }
 if(f.ended||!((f.n==0)==(r.kind==1)))=true then(false,f1)
 else if r.kind=2 then(!(gfind r.step f.ints).isSome,{ f1 with ints:=gput r.step r f.ints,c1:=if(gfind r.step f.ints).isSome=true then f.c1 else f.c1+1 })
 else if r.kind=3∨r.kind=4 then
  ((match gfind r.step f.ints with
   |some i=>!((gfind r.step f.ress).getD false)&&i.op==r.op&&i.addr==r.addr&&i.typ==r.typ
   |none=>false),{ f1 with ress:=gput r.step true f.ress,c2:=if(gfind r.step f.ress).isSome=true then f.c2 else f.c2+1 })
 else if r.kind=5 then((f.ints.length:Int)==(f.ress.length:Int),{ f1 with ended:=true })
 else(true,f1)
def check:Fo→List Jr→Int
 |_,[]=>0
 |f,r::l=>if(!r.validB||(r.kind==1&&Sf.checkZ r.base !=0))=true then 1 else if(f.next r).1=true then check (f.next r).2 l else 38
end Fo
namespace Jr
end Jr
end
end Go.Proofs.YtdgcbckcameggacGreatDoor
