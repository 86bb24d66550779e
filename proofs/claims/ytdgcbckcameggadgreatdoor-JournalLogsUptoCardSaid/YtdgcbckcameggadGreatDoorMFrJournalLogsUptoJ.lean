/- Part of what the proof needs. -/
import Derived.Test.YtdgcbckcameggadGreatDoorMFrJournalLogsUpto0
import Derived.Test.YtdgcbckcameggadGreatDoorMFrJournalLogsUptoC
import Derived.Test.YtdgcbckcameggadGreatDoorMFrJournalLogsUptoD
import Derived.Test.YtdgcbckcameggadGreatDoorMFrJournalLogsUptoE
import Derived.Test.YtdgcbckcameggadGreatDoorMFrJournalLogsUptoH
import Derived.Test.YtdgcbckcameggadGreatDoorProg
import Derived.KernelRfl
import Derived.Test.YtdgcbckcameggadGreatDoorCards
import Derived.Test.YtdgcbckcameggadGreatDoorTie
import Derived.ProofKit
import Derived.OpenShut
import Derived.ShutString
import Derived.ChangeOld
import Derived.Below
import Derived.Deep.DeepHandedRow
import Derived.Lib.LaidU8
import Derived.MakeChecks
import Derived.Shelf.Unicode.DecodeSlow
set_option maxHeartbeats 4000000
set_option linter.unusedSimpArgs false
set_option linter.unusedVariables false
set_option linter.unnecessarySimpa false
namespace Go.Proofs.YtdgcbckcameggadGreatDoor
open Go.RowKit
def strsA(l:List (List UInt8)):List (List AX.A):=l.map fun s=>[.str s]
mutual
def V.cells:V→List AX.A
 |.mk k n s is ks=>[.int .i64 k,.int .i64 n,.str s,.sl 5 .no (V.cellss is),.sl 1 .no (strsA ks)]
def V.cellss:List V→List (List AX.A)
 |[]=>[]
 |v::l=>v.cells::V.cellss l
end
def V.A(v:V):AX.A:=.agg v.cells
theorem V.cellss_map:∀ l:List V,V.cellss l=l.map V.cells
 |[]=>rfl
 |v::l=>by rw[V.cellss,V.cellss_map l];rfl
theorem V.cellss_length(l:List V):(V.cellss l).length=l.length:=by rw[V.cellss_map];simp
theorem aze(l:List (List UInt8)):(strsA l).length=l.length:=by simp[strsA]
theorem azv(l:List (List UInt8))(i:Nat)(h:i<l.length):(strsA l).getD i []=[.str l[i]]:=by simp[strsA,List.getD,h]
theorem V.cellss_get(l:List V)(i:Nat)(h:i<l.length):(V.cellss l).getD i []=l[i].cells:=by rw[V.cellss_map];simp[List.getD,h]
theorem V.pure(v:V):v.A.pure=true:=by cases v;unfold V.A V.cells;rfl
mutual
def V.lens:V→Prop
 |.mk k n s is ks=>is.length≤maxLen∧ks.length≤maxLen∧s.length≤maxLen∧(∀ q∈ks,q.length≤maxLen)∧V.lensS is
def V.lensS:List V→Prop
 |[]=>True
 |v::l=>v.lens∧V.lensS l
end
theorem V.lensS_mem:∀ {l:List V},V.lensS l→∀ x∈l,x.lens
 |[],_=>by simp
 |v::l,h=>by
  unfold V.lensS at h;exact Zad.2 ⟨h.1,V.lensS_mem h.2⟩
theorem V.lens_mk{k n:Int}{s:List UInt8}{is:List V}{ks:List (List UInt8)}(h:(V.mk k n s is ks).lens):is.length≤9223372036854775807∧ks.length≤9223372036854775807∧s.length≤9223372036854775807∧(∀ x∈is,x.lens):=by
 unfold V.lens at h;simp only[maxLen]at h;exact⟨by omega,by omega,by omega,V.lensS_mem h.2.2.2.2⟩
def IfaceAt(g:Nat)(w:World):Prop:=∃ ev,w.cell? ⟨g,0,none⟩=some ev∧(ev=.nilIface∨∃ te pe,ev=.iface te pe)
structure GT(w:World):Prop where
 tabs:Lib.Utf8Tabs 0 1 w
 esyn:IfaceAt 3 w
 erng:IfaceAt 4 w
 tz:w.cell? ⟨7,15,none⟩=some (.int .u8 4)
namespace AX
abbrev AT(f:FuncId)(l:List A)(h:Hp)(x:A):Prop:=ACall Tryz.prog GT f l h fun v h'=>v=x∧h'=h
abbrev AC:=ACall Tryz.prog GT
theorem mixedT:Tryz.prog.follows Departure.mixedOrders=true:=by kernel_rfl
theorem fo{G:World→Prop}{f:FuncId}{args:List A}{h:Hp}{Q:A→Hp→Prop}{n:Nat}{code:ACode}{res:List ARes}(k:awp Tryz.prog G code (finQ res Q) (initTs args) h)(hc:compFn Tryz.prog f=some ⟨n,code,res⟩:=by set_option maxRecDepth 1000000 in (conv=>lhs;cbv))(hl:args.length≤n:=by simp):ACall Tryz.prog G f args h Q:=ayz mixedT hc hl k
theorem axv{x:A}{v:Value}(h:∀ C c,Rep C x c→c=v):∀ C cs,RepL C [x] cs→cs=[v]:=fun C cs hr=>by
 obtain⟨c,cs',rfl,h1,h2⟩:=repL_cons.1 hr;rw[repL_nil]at h2;subst h2;rw[h C c h1]
theorem byj{x y:A}{v u:Value}(h:∀ C c,Rep C x c→c=v)(h':∀ C c,Rep C y c→c=u):∀ C cs,RepL C [x,y] cs→cs=[v,u]:=fun C cs hr=>by
 obtain⟨c,cs',rfl,h1,h2⟩:=repL_cons.1 hr;rw[axv h' C cs' h2,h C c h1]
theorem aq8{l:List UInt8}:∀ C c,Rep C (.str l) c→c=.string ⟨l.toArray⟩:=fun C c h=>rep_str.1 h
theorem bk5{k:IntKind}{n:Int}:∀ C c,Rep C (.int k n) c→c=.int k n:=fun C c h=>rep_int.1 h
theorem bjm(s:List UInt8)(hl:s.length≤2000000)(h:Hp):ACall Tryz.prog GT 103 [.str s] h fun v h'=>v=.bool (Str.valid s)∧h'=h:=
 azs (axv aq8) (fun w hg=>bxa ⟨s.toArray⟩ w (by rw[size_mk];exact hl) hg.tabs) (fun C=>aqo.2 rfl) h
theorem ayu(s:List UInt8)(hl:s.length≤2000000)(h:Hp):ACall Tryz.prog GT 196 [.str s] h fun v h'=>v=.bool (Str.valid s)∧h'=h:=
 azs (axv aq8) (fun w hg=>av6 ⟨s.toArray⟩ w (by rw[size_mk];exact hl)) (fun C=>aqo.2 rfl) h
theorem bjn(s:List UInt8)(h:Hp):ACall Tryz.prog GT 153 [.str s] h fun v h'=>v=.int .i64 (Val.textZ s)∧h'=h:=
 azs (axv aq8) (fun w hg=>cvn s w hg.tabs) (fun C=>rep_int.2 rfl) h
theorem cqa(s:List UInt8)(h:Hp):ACall Tryz.prog GT 195 [.str s] h fun v h'=>v=.int .i64 (Val.textZ s)∧h'=h:=
 azs (axv aq8) (fun w hg=>bjg s w) (fun C=>rep_int.2 rfl) h
theorem cv0(n:Int)(h:Hp):ACall Tryz.prog GT 152 [.int .i64 n] h fun v h'=>v=.bool (decide (-9007199254740992≤n∧n≤9007199254740992))∧h'=h:=
 azs (axv bk5) (fun w hg=>(ax8 n w).mono fun e w' ⟨h1,h2⟩=>⟨h1,by rw[h2];exact Below.refl _ _⟩) (fun C=>aqo.2 rfl) h
theorem bxj(n:Int)(h:Hp):ACall Tryz.prog GT 194 [.int .i64 n] h fun v h'=>v=.bool (decide (-9007199254740992≤n∧n≤9007199254740992))∧h'=h:=
 azs (axv bk5) (fun w hg=>(akn n w).mono fun e w' ⟨h1,h2⟩=>⟨h1,by rw[h2];exact Below.refl _ _⟩) (fun C=>aqo.2 rfl) h
theorem aqn(dst:List UInt8)(n:Int)(hd:dst.length≤1000000000)(h0:-9223372036854775808≤n)(h1:n≤9223372036854775807)(h:Hp):ACall Tryz.prog GT 53 [.str dst,.int .i64 n] h fun v h'=>v=.str (dst++Wire.num n)∧h'=h:=
 azs (byj aq8 bk5) (fun w hg=>aka dst n w hd h0 h1) (fun C=>rep_str.2 rfl) h
theorem azg(dst:List UInt8)(n:Int)(hd:dst.length≤1000000000)(h0:-9223372036854775808≤n)(h1:n≤9223372036854775807)(h:Hp):ACall Tryz.prog GT 80 [.str dst,.int .i64 n] h fun v h'=>v=.str (dst++Wire.num n)∧h'=h:=
 azs (byj aq8 bk5) (fun w hg=>ajs dst n w hd h0 h1) (fun C=>rep_str.2 rfl) h
theorem cxl(k n:Int)(s:List UInt8)(o o':Own)(W W':Nat)(rs rs':List (List A))(h:Hp):ACall Tryz.prog GT 151 [.agg [.int .i64 k,.int .i64 n,.str s,.sl W o rs,.sl W' o' rs']] h fun v h'=>v=.bool (Val.shapedB k n s rs.length rs'.length)∧h'=h:=by
 intro C cs hI ha;obtain⟨c,cs',rfl,h1,h2⟩:=repL_cons.1 ha;rw[repL_nil]at h2;subst h2;obtain⟨ds,rfl,h3⟩:=rep_agg.1 h1;obtain⟨c0,d0,rfl,e0,h3⟩:=repL_cons.1 h3;obtain⟨c1,d1,rfl,e1,h3⟩:=repL_cons.1 h3;obtain⟨c2,d2,rfl,e2,h3⟩:=repL_cons.1 h3;obtain⟨c3,d3,rfl,e3,h3⟩:=repL_cons.1 h3;obtain⟨c4,d4,rfl,e4,h3⟩:=repL_cons.1 h3;rw[repL_nil]at h3;subst h3;rw[rep_int]at e0 e1;rw[rep_str]at e2;subst e0;subst e1;subst e2;obtain⟨a,ca,rfl,_⟩:=rep_sl.1 e3;obtain⟨b,cb,rfl,_⟩:=rep_sl.1 e4;refine(bws k n s a b rs.length ca rs'.length cb C.w).mono ?_;rintro e w' ⟨rfl,hb⟩;obtain⟨i1,s1⟩:=aq7 hI hb;exact⟨C.at w',h,_,_,rfl,rfl,i1,s1,aqo.2 rfl,rfl,rfl⟩
theorem bva(k n:Int)(s:List UInt8)(o o':Own)(W W':Nat)(rs rs':List (List A))(h:Hp):ACall Tryz.prog GT 193 [.agg [.int .i64 k,.int .i64 n,.str s,.sl W o rs,.sl W' o' rs']] h fun v h'=>v=.bool (Val.shapedB k n s rs.length rs'.length)∧h'=h:=by
 intro C cs hI ha;obtain⟨c,cs',rfl,h1,h2⟩:=repL_cons.1 ha;rw[repL_nil]at h2;subst h2;obtain⟨ds,rfl,h3⟩:=rep_agg.1 h1;obtain⟨c0,d0,rfl,e0,h3⟩:=repL_cons.1 h3;obtain⟨c1,d1,rfl,e1,h3⟩:=repL_cons.1 h3;obtain⟨c2,d2,rfl,e2,h3⟩:=repL_cons.1 h3;obtain⟨c3,d3,rfl,e3,h3⟩:=repL_cons.1 h3;obtain⟨c4,d4,rfl,e4,h3⟩:=repL_cons.1 h3;rw[repL_nil]at h3;subst h3;rw[rep_int]at e0 e1;rw[rep_str]at e2;subst e0;subst e1;subst e2;obtain⟨a,ca,rfl,_⟩:=rep_sl.1 e3;obtain⟨b,cb,rfl,_⟩:=rep_sl.1 e4;refine(bzu k n s a b rs.length ca rs'.length cb C.w).mono ?_;rintro e w' ⟨rfl,hb⟩;obtain⟨i1,s1⟩:=aq7 hI hb;exact⟨C.at w',h,_,_,rfl,rfl,i1,s1,aqo.2 rfl,rfl,rfl⟩
def rdr(r:Wire.St):Blk:=.cells 149 [.str r.rest,.int .i64 r.e,.bool true]
theorem dqg{r:Wire.St}:∀ C es,RepL C [.str r.rest,.int .i64 r.e,.bool true] es→es=[.string ⟨r.rest.toArray⟩,.int .i64 r.e,.bool true]:=fun C es h=>by
 obtain⟨c0,d0,rfl,e0,h⟩:=repL_cons.1 h;obtain⟨c1,d1,rfl,e1,h⟩:=repL_cons.1 h;obtain⟨c2,d2,rfl,e2,h⟩:=repL_cons.1 h;rw[repL_nil]at h;subst h;rw[rep_str.1 e0,rep_int.1 e1,aqo.1 e2]
theorem cyy{r:Wire.St}(C:Ctx):RepL C [.str r.rest,.int .i64 r.e,.bool true] [.string ⟨r.rest.toArray⟩,.int .i64 r.e,.bool true]:=
 repL_cons.2 ⟨_,_,rfl,rep_str.2 rfl,repL_cons.2 ⟨_,_,rfl,rep_int.2 rfl,repL_cons.2 ⟨_,_,rfl,aqo.2 rfl,repL_nil.2 rfl⟩⟩⟩
theorem by8{f:FuncId}{extra:List A}{ecs:List Value}{v:A}{cv:Value}{r r':Wire.St}(hargs:∀ C es,RepL C extra es→es=ecs)(hv:∀ C,Rep C v cv)
  (hc:∀ g w,Rdr w g r→Calls Tryz.prog f (.pointer (some ⟨g,0,none⟩)::ecs).toArray w fun e w'=>e=.returned cv∧Rdr w' g r'∧w.grownBy w' (some g)) {h:Hp} {i:Nat} (hb:h.b[i]?=some (rdr r)) :
  ACall Tryz.prog GT f (.ptr i 0::extra) h fun v' h'=>v'=v∧h'=⟨h.b.set i (rdr r'),h.t⟩:=
 cz2 hargs dqg cyy hv (fun w g hw=>hc g w hw) hb
theorem cvq:∀ C es,RepL C [] es→es=[]:=fun C es h=>repL_nil.1 h
theorem aqa{h:Hp}{i:Nat}{r:Wire.St}(hb:h.b[i]?=some (rdr r))(hl:r.rest.length≤100000000):ACall Tryz.prog GT 98 [.ptr i 0] h fun v h'=>v=.int .i64 (Wire.numR r).2∧h'=⟨h.b.set i (rdr (Wire.numR r).1),h.t⟩:=
 by8 cvq (fun C=>rep_int.2 rfl) (fun g w hw=>bwo g r w hw hl) hb
theorem aqj{h:Hp}{i:Nat}{r:Wire.St}(hb:h.b[i]?=some (rdr r))(hl:r.rest.length≤100000000):ACall Tryz.prog GT 63 [.ptr i 0] h fun v h'=>v=.str (Wire.strR r).2∧h'=⟨h.b.set i (rdr (Wire.strR r).1),h.t⟩:=
 by8 cvq (fun C=>rep_str.2 rfl) (fun g w hw=>bw3 g r w hw hl) hb
theorem akw{h:Hp}{i:Nat}{r:Wire.St}(hb:h.b[i]?=some (rdr r))(hl:r.rest.length≤100000000):ACall Tryz.prog GT 135 [.ptr i 0,.int .i64 1] h fun v h'=>v=.int .i64 ((Wire.cntR r 1).2:Nat)∧h'=⟨h.b.set i (rdr (Wire.cntR r 1).1),h.t⟩:=
 by8 (axv bk5) (fun C=>rep_int.2 rfl) (fun g w hw=>count_any g r w hw hl) hb
theorem set_self{h:Hp}{i:Nat}{b:Blk}(hb:h.b[i]?=some b):(⟨h.b.set i b,h.t⟩:Hp)=h:=by
 have hi:i<h.b.length:=(Zd.1 hb).1;have:h.b.set i b=h.b:=by
  apply List.ext_getElem?;intro j;rw[Zs];by_cases e:i=j
  ·subst e;rw[if_pos rfl,if_pos hi,hb]
  ·rw[if_neg e]
 rw[this]
theorem awm{h:Hp}{i:Nat}{r:Wire.St}(hb:h.b[i]?=some (rdr r)):ACall Tryz.prog GT 64 [.ptr i 0] h fun v h'=>v=.int .i64 r.rest.length∧h'=h:=by
 have:=by8 (v:=.int .i64 r.rest.length) (r':=r) cvq (fun C=>rep_int.2 rfl) (fun g w hw=>(cjl g r w hw).mono fun e w' ⟨h1,h2⟩=>⟨h1,by rw[h2];exact hw,by rw[h2];exact avn w _⟩) hb;rw[set_self hb]at this;exact this
theorem bqj{h:Hp}{i:Nat}{r:Wire.St}(hb:h.b[i]?=some (rdr r)):ACall Tryz.prog GT 65 [.ptr i 0] h fun v h'=>v=.int .i64 r.e∧h'=h:=by
 have:=by8 (v:=.int .i64 r.e) (r':=r) cvq (fun C=>rep_int.2 rfl) (fun g w hw=>(cwh g r w hw).mono fun e w' ⟨h1,h2⟩=>⟨h1,by rw[h2];exact hw,by rw[h2];exact avn w _⟩) hb;rw[set_self hb]at this;exact this
def wtr(ver:Int)(l:List UInt8):Blk:=.opq (fun F g w=>WF F g ver l w) (fun o=>if o=2 then some (.int .i64 ver)else none)
def dead:Blk:=.opq (fun _ _ _=>True) (fun _=>none)
def Wt(h:Hp)(i:Nat)(ver:Int)(l:List UInt8):Prop:=h.b[i]?=some (wtr ver l)∨(l=[]∧h.b[i]?=some (.cells 140 [.nilp,.sl 0 .nil [],.int .i64 ver]))
theorem WF.stable{F:Nat→Prop}{b:Nat}{ver:Int}{l:List UInt8}{w w':World}(h:WF F b ver l w)(hs:∀ g,F g→w'.heap[g]?=w.heap[g]?):WF F b ver l w':=by
 obtain⟨p,v,hp,hb,hown,hne,hF,hFk⟩:=h;refine⟨p,v,hp,(hs b hF).trans hb,⟨hown.1,?_⟩,hne,hF,hFk⟩;rcases hown.2 with h1|⟨g,cap,cur,fz,rfl,h2,h3,h4⟩
 ·exact .inl h1
 ·exact .inr ⟨g,cap,cur,fz,rfl,h2,(hs g (hFk g rfl)).trans h3,h4⟩
theorem Wt.lt{h:Hp}{i:Nat}{ver:Int}{l:List UInt8}(hw:Wt h i ver l):i<h.b.length:=by
 rcases hw with h1|⟨_,h1⟩
 ·exact(Zd.1 h1).1
 ·exact(Zd.1 h1).1
theorem Wt.wf{h:Hp}{i:Nat}{ver:Int}{l:List UInt8}{C:Ctx}{G:World→Prop}(hw:Wt h i ver l)(hI:Inv G C h):WF (fun g=>C.own g=some i) (C.κ i) ver l C.w:=by
 have hi:i<C.nb:=by rw[←hI.nb];exact hw.lt
 rcases hw with h1|⟨rfl,h1⟩
 ·exact(hI.box i _ h1).1 C.w (fun _ _=>rfl) (Zf _)
 ·obtain⟨cs,k1,k2⟩:=hI.box i _ h1;obtain⟨c0,d0,rfl,e0,k2⟩:=repL_cons.1 k2;obtain⟨c1,d1,rfl,e1,k2⟩:=repL_cons.1 k2;obtain⟨c2,d2,rfl,e2,k2⟩:=repL_cons.1 k2;rw[repL_nil]at k2;subst k2;rw[aqk]at e0;rw[rep_int]at e2;subst e0;subst e2;obtain⟨a,cap,rfl,_,_,e3,e4,_⟩:=rep_sl.1 e1;subst e3;subst e4;exact⟨_,_,.inl rfl,k1,⟨rfl,.inl ⟨rfl,rfl⟩⟩,by simp[Value.ownBlock],hI.ownk i hi,fun k hk=>by simp[Value.ownBlock]at hk⟩
theorem cku{C:Ctx}{i:Nat}{ver:Int}{l:List UInt8}(h:WF (fun g=>C.own g=some i) (C.κ i) ver l C.w):BlkRep C i (wtr ver l):=by
 refine⟨fun w' hw _=>WF.stable h hw,fun o x hx=>?_⟩;have hx':(if o=2 then some (A.int .i64 ver)else none)=some x:=hx;split at hx'
 ·next e =>
  injection hx' with hx';subst hx';subst e;obtain⟨p,v,hp,hb,_⟩:=h;exact⟨_,(aqi hb).2.2.1,rep_int.2 rfl⟩
 ·cases hx'
theorem bj1{h:Hp}{i:Nat}{ver:Int}{l:List UInt8}(hw:Wt h i ver l)(s:List UInt8)(hlen:l.length+s.length≤1000000000) :
  ACall Tryz.prog GT 20 [.ptr i 0,.str s] h fun v h'=>v=.tup [.int .i64 s.length,.nili]∧h'=⟨h.b.set i (wtr ver (l++s)),h.t⟩:=by
 intro C es hI ha;obtain⟨c,es',rfl,h1,h2⟩:=repL_cons.1 ha;obtain⟨rfl,hi⟩:=rep_ptr.1 h1;obtain rfl:=axv aq8 C es' h2;refine(cve (hw.wf hI) s hlen).mono ?_;rintro e w' ⟨rfl,m1,m2⟩;have hrep:BlkRep (C.turn w' i true) i (wtr ver (l++s)):=by
  refine cku ?_;obtain⟨p,v,hp,hb,hown,hne,hF,hFk⟩:=m1;have hlt:=(aqi hb).2.2.2.2.2;have hcl:∀ k,k<w'.heap.size→(C.own k=some i∨C.w.heap.size≤k)→(C.turn w' i true).own k=some i:=fun k hk hor=>by
   show(if k<C.w.heap.size then C.own k else if true=true∧k<w'.heap.size then some i else none)=some i
   split
   ·rcases hor with h3|h3
    ·exact h3
    ·omega
   ·rw[if_pos ⟨rfl,hk⟩]
  refine⟨p,v,hp,hb,hown,hne,hcl _ hlt hF,fun k hk=>hcl k ?_ (hFk k hk)⟩;rcases hown.2 with⟨rfl,_⟩|⟨g,cap,cur,fz,rfl,_,h3,_⟩
  ·simp[Value.ownBlock]at hk
  ·simp only[Value.ownBlock,Zb]at hk;subst hk;exact(ZX.1 h3).1
 obtain⟨i1,s1⟩:=aqp (b':=wtr ver (l++s)) true hI hi m2.os m2.tape m2.output m2.size (fun g hg hne=>m2.block g hg hne) (fun _=>hrep);exact⟨_,_,.tup [.int .i64 s.length,.nili],_,rfl,rfl,i1,s1,rep_tup.2 ⟨_,rfl,repL_cons.2 ⟨_,_,rfl,rep_int.2 rfl,repL_cons.2 ⟨_,_,rfl,bkl.2 rfl,repL_nil.2 rfl⟩⟩⟩,rfl,rfl⟩
theorem dzz{h:Hp}{i:Nat}{ver:Int}{l:List UInt8}(hw:Wt h i ver l):ACall Tryz.prog GT 19 [.ptr i 0] h fun v h'=>v=.int .i64 l.length∧h'=h:=by
 intro C es hI ha;obtain⟨c,es',rfl,h1,h2⟩:=repL_cons.1 ha;obtain⟨rfl,hi⟩:=rep_ptr.1 h1;rw[repL_nil]at h2;subst h2;refine(cww (hw.wf hI).wtr).mono ?_;rintro e w' ⟨rfl,rfl⟩;exact⟨C,h,_,_,rfl,rfl,hI,Step.refl C,rep_int.2 rfl,rfl,rfl⟩
theorem bql{h:Hp}{i:Nat}{ver:Int}{l:List UInt8}(hw:Wt h i ver l)(h0:l≠[]):ACall Tryz.prog GT 21 [.ptr i 0] h fun v h'=>v=.str l∧h'=⟨h.b.set i dead,h.t⟩:=by
 intro C es hI ha;obtain⟨c,es',rfl,h1,h2⟩:=repL_cons.1 ha;obtain⟨rfl,hi⟩:=rep_ptr.1 h1;rw[repL_nil]at h2;subst h2;refine(cz6 (hw.wf hI) h0).mono ?_;rintro e w' ⟨rfl,m2⟩;obtain⟨i1,s1⟩:=aqp (b':=dead) false hI hi m2.os m2.tape m2.output m2.size (fun g hg hne=>m2.block g hg hne) (fun _=>⟨fun _ _ _=>trivial,fun o x hx=>by cases hx⟩);exact⟨_,_,.str l,_,rfl,rfl,i1,s1,rep_str.2 rfl,rfl,rfl⟩
end AX
end Go.Proofs.YtdgcbckcameggadGreatDoor

namespace Go.Proofs.YtdgcbckcameggadGreatDoor
open Go.ChangeShapes Go.WideShapes Go.ChangeAt Go.RowKit
namespace Card
theorem own:ownKnob Tryz.prog.godebug=none:=by kernel_rfl
theorem first_eq:Go.Pinned.utf8First=Lib.firstData:=by kernel_rfl
theorem accept_eq:(Rows.laid_unicode_utf8_acceptRanges:DataW Unit)=Lib.acceptData:=by kernel_rfl
theorem tz_name : Tryz.prog.globalNamed "math/bits.deBruijn64tab" = some 7 := by kernel_rfl
theorem tz_type:(Tryz.prog.globals[7]?).map (·.type)=some 285:=by kernel_rfl
theorem tz_cells:Tryz.prog.cellsOf 285=64:=by kernel_rfl
theorem tz_cell:Tryz.prog.cellsOf 5=1:=by kernel_rfl
def tab64:List Int:=[0,1,56,2,57,49,28,3,61,58,42,50,38,29,17,4,62,47,59,36,45,43,51,22,53,39,33,30,24,18,12,5,63,55,48,27,60,41,37,16,46,35,44,21,52,32,23,11,54,26,40,15,34,20,31,10,25,14,19,9,13,8,7,6]
theorem tab64_eq:(Rows.laid_math_bits_deBruijn64tab:DataW Unit)=Lib.tabData .u8 tab64:=by kernel_rfl
theorem iface_reads{P:Program}{w:World}{n:String}{g:Nat}{t:TypeId}{d:DataW Unit}{m:Array (String×TypeId)}(hg:P.globalNamed n=some g)(ht:(P.globals[g]?).map (·.type)=some t)(hu:P.underlying t=some (.interface m))(h:Lib.VarReads P w n d):IfaceAt g w:=by
 obtain⟨g',t',cs,fuel,p,h1,h2,h3,h4⟩:=h;rw[hg]at h1;injection h1 with h1;subst h1
 rw[ht]at h2;injection h2 with h2;subst h2
 have hc:=World.var?_cell hg h3 0;obtain⟨l⟩:=cs;cases fuel with
 |zero=>simp[DataW.trod]at h4
 |succ k =>
  match l,hc with
  |[],_=>simp[DataW.trod,hu]at h4
  |[.nilIface],hc=>exact⟨_,hc,.inl rfl⟩
  |[.iface u v],hc=>exact⟨_,hc,.inr ⟨u,v,rfl⟩⟩
  |v::x::l,_=>cases v<;>simp[DataW.trod,hu]at h4
  |[v],hc=>cases v<;>first|exact⟨_,hc,.inl rfl⟩|exact⟨_,hc,.inr ⟨_,_,rfl⟩⟩|simp[DataW.trod,hu]at h4
theorem tz_of {W : World} (r3 : Lib.VarReads Tryz.prog W "math/bits.deBruijn64tab" (Lib.tabData .u8 tab64)) : W.cell? ⟨7, 15, none⟩ = some (.int .u8 4) := by
 obtain⟨g,t,cs,fuel,p,hg,hty,hvar,hd⟩:=r3;obtain rfl:=Zat (tz_name.symm.trans hg);obtain rfl:=Zat (tz_type.symm.trans hty);have hcs:=Lib.cells_of_tab Tryz.underlying285 Tryz.underlying5 tz_cell tz_cells hd;have:=World.var?_cell hg hvar 15;rw[this,←Array.getElem?_toList,hcs];rfl
theorem gt_of{W:World}(h:laidMetH Tryz.prog Rows.journalLogsRow.laid W):GT W:=by
 have hL:laidMet Tryz.prog Rows.journalLogsRow.laid W:=by
  have e:=Go.MakeChecks.laidMetH_plain Tryz.prog Rows.journalLogsRow.laid W (by kernel_rfl)
  rwa [e]at h
 have r1 : Lib.VarReads Tryz.prog W "unicode/utf8.first" Lib.firstData := by
  rw[←first_eq];exact Lib.laidMet.reads hL (.tail _ (.tail _ (.tail _ (.tail _ (.tail _ (.tail _ (.head _)))))))
 have r2 : Lib.VarReads Tryz.prog W "unicode/utf8.acceptRanges" Lib.acceptData := by
  rw[←accept_eq];exact Lib.laidMet.reads hL (.tail _ (.tail _ (.tail _ (.head _))))
 exact⟨utf8Tabs_of_reads (ρ:=Tryz.lays260_ren) Tryz.lays260 ⟨by kernel_rfl,by kernel_rfl,by kernel_rfl,by kernel_rfl,by kernel_rfl,by kernel_rfl,by kernel_rfl⟩ r1 r2,
  iface_reads (by kernel_rfl) (by kernel_rfl) Tryz.underlying65 (Lib.laidMet.reads hL (.tail _ (.tail _ (.tail _ (.tail _ (.tail _ (.head _))))))),iface_reads (by kernel_rfl) (by kernel_rfl) Tryz.underlying65 (Lib.laidMet.reads hL (.tail _ (.tail _ (.tail _ (.tail _ (.head _)))))),tz_of (by rw[←tab64_eq];exact Lib.laidMet.reads hL (.tail _ (.head _)))⟩
def ints(k:IntKind)(l:List Int):Array Value:=(l.map fun z=>Value.int k z).toArray
def u8s(l:List Int):Array Value:=ints .u8 l
def setTab(h:Array Obj)(g:Nat)(cs:Array Value):Array Obj:=h.modify g fun
 |.cells _ t frozen => .cells cs t frozen
 |o=>o
noncomputable def low:Nat:=(World.holding Tryz.prog default ⟨#[],#[],[]⟩).heap.size
noncomputable def laidWorld(os:Os)(args:Array Value):World:=
 { World.holding Tryz.prog os ⟨#[.cells #[.string { data:=#[118,97,108,117,101,32,111,117,116,32,111,102,32,114,97,110,103,101] }] 272,.cells #[.string { data:=#[105,110,118,97,108,105,100,32,115,121,110,116,97,120] }] 272],args,[]⟩with
  heap:=(setTab (setTab (setTab (setTab (setTab (setTab (setTab (World.holding Tryz.prog os ⟨#[.cells #[.string { data:=#[118,97,108,117,101,32,111,117,116,32,111,102,32,114,97,110,103,101] }] 272,.cells #[.string { data:=#[105,110,118,97,108,105,100,32,115,121,110,116,97,120] }] 272],args,[]⟩).heap 6 (ints .u8 [0,1,28,2,29,14,24,3,30,22,20,15,25,17,4,8,31,27,13,23,21,19,16,7,26,12,18,6,11,5,10,9])) 7 (ints .u8 [0,1,56,2,57,49,28,3,61,58,42,50,38,29,17,4,62,47,59,36,45,43,51,22,53,39,33,30,24,18,12,5,63,55,48,27,60,41,37,16,46,35,44,21,52,32,23,11,54,26,40,15,34,20,31,10,25,14,19,9,13,8,7,6])) 5 (ints .u64 [1,10,100,1000,10000,100000,1000000,10000000,100000000,1000000000,10000000000,100000000000,1000000000000,10000000000000,100000000000000,1000000000000000,10000000000000000,100000000000000000,1000000000000000000,10000000000000000000])) 1 (ints .u8 [128,191,160,191,128,159,144,191,128,143,0,0,0,0,0,0,0,0,0,0,0,0,0,0,0,0,0,0,0,0,0,0])) 4 (#[.iface 270 (.pointer (some ⟨low+0,0,none⟩))])) 3 (#[.iface 270 (.pointer (some ⟨low+1,0,none⟩))])) 0 (u8s Lib.firstTab)) }
end Card
end Go.Proofs.YtdgcbckcameggadGreatDoor

namespace Go.Proofs.YtdgcbckcameggadGreatDoor
open Go.RowKit
mutual
def D.cells:D→List AX.A
 |.int k n=>[.int k n]
 |.str l=>[.str l]
 |.bool b=>[.bool b]
 |.agg l=>D.cellsL l
 |.sl W l=>[.sl W .no (D.rows l)]
def D.cellsL:List D→List AX.A
 |[]=>[]
 |d::l=>d.cells++D.cellsL l
def D.rows:List D→List (List AX.A)
 |[]=>[]
 |d::l=>d.cells::D.rows l
end
theorem D.rows_length:∀ l:List D,(D.rows l).length=l.length
 |[]=>by simp[D.rows]
 |d::l=>by simp[D.rows,D.rows_length l]
mutual
theorem D.cells_data:∀(d:D) (x:AX.A),x∈d.cells→x.data=true
 |.int k n,x,h=>by unfold D.cells at h;simp at h;subst h;rfl
 |.str l,x,h=>by unfold D.cells at h;simp at h;subst h;rfl
 |.bool b,x,h=>by unfold D.cells at h;simp at h;subst h;rfl
 |.agg l,x,h=>by unfold D.cells at h;exact D.cellsL_data l x h
 |.sl W l,x,h=>by unfold D.cells at h;simp at h;subst h;rfl
theorem D.cellsL_data:∀(l:List D) (x:AX.A),x∈D.cellsL l→x.data=true
 |[],x,h=>by unfold D.cellsL at h;simp at h
 |d::l,x,h=>by
  unfold D.cellsL at h;rcases YQ.1 h with h|h
  ·exact D.cells_data d x h
  ·exact D.cellsL_data l x h
end
namespace AX
theorem bxe{C:Ctx}:∀ {l m:List A} {cs ds:List Value},RepL C l cs→RepL C m ds→RepL C (l++m) (cs++ds)
 |[],m,cs,ds,h,k=>by
  rw[repL_nil]at h;subst h;exact k
 |x::l,m,cs,ds,h,k=>by
  obtain⟨c,cs',rfl,h1,h2⟩:=repL_cons.1 h;exact repL_cons.2 ⟨c,cs'++ds,rfl,h1,bxe h2 k⟩
theorem bq1{C:Ctx}{g:Nat}(hS:∀ j,C.S g j):∀(l:List A) (c:List Value) (o:Nat),RepL C l c→(∀ x∈l,x.data=true)→(∀ j,j<l.length→C.w.cell? ⟨g,o+j,none⟩=c[j]?)→RepAt C l g o
 |[],c,o,h,hd,hc=>by unfold RepAt;trivial
 |x::l,c,o,h,hd,hc=>by
  obtain⟨v,c',rfl,h1,h2⟩:=repL_cons.1 h;unfold RepAt;refine⟨⟨hS o,hd x (by simp),v,by simpa using hc 0 (by simp),h1⟩,bq1 hS l c' (o+1) h2 (fun y hy=>hd y (by simp[hy])) fun j hj=>?_⟩;have:=hc (j+1) (by simpa using hj);rw[show o+1+j=o+(j+1) by omega];simpa using this
mutual
theorem by0{C:Ctx}{S:Nat→Prop}(hS:∀ g,S g→∀ j,C.S g j):∀(d:D) (cs:List Value),Rd C.w S d cs→RepL C d.cells cs
 |.int k n,cs,h=>by unfold Rd at h;unfold D.cells;subst h;exact repL_cons.2 ⟨_,_,rfl,rep_int.2 rfl,repL_nil.2 rfl⟩
 |.str l,cs,h=>by unfold Rd at h;unfold D.cells;subst h;exact repL_cons.2 ⟨_,_,rfl,rep_str.2 rfl,repL_nil.2 rfl⟩
 |.bool b,cs,h=>by unfold Rd at h;unfold D.cells;subst h;exact repL_cons.2 ⟨_,_,rfl,aqo.2 rfl,repL_nil.2 rfl⟩
 |.agg l,cs,h=>by unfold Rd at h;unfold D.cells;exact bq7 hS l cs h
 |.sl W l,cs,h=>by
  unfold Rd at h;unfold D.cells;obtain⟨a,cap,rfl,h1,h2⟩:=h;refine repL_cons.2 ⟨_,_,rfl,rep_sl.2 ⟨a,cap,by rw[D.rows_length],by rw[D.rows_length];exact h1,bqq hS W l a 0 h2,trivial⟩,repL_nil.2 rfl⟩
theorem bq7{C:Ctx}{S:Nat→Prop}(hS:∀ g,S g→∀ j,C.S g j):∀(l:List D) (cs:List Value),RdAgg C.w S l cs→RepL C (D.cellsL l) cs
 |[],cs,h=>by unfold RdAgg at h;unfold D.cellsL;exact repL_nil.2 h
 |d::l,cs,h=>by
  unfold RdAgg at h;unfold D.cellsL;obtain⟨c1,c2,rfl,h1,h2⟩:=h;exact bxe (by0 hS d c1 h1) (bq7 hS l c2 h2)
theorem bqq{C:Ctx}{S:Nat→Prop}(hS:∀ g,S g→∀ j,C.S g j)(W:Nat):∀(l:List D) (a:Option Addr) (i:Nat),RdRow C.w S W l a i→RepRows C W (D.rows l) a i
 |[],a,i,h=>by unfold D.rows RepRows;trivial
 |d::l,a,i,h=>by
  unfold RdRow at h;unfold D.rows RepRows;obtain⟨⟨g,off,c,h1,h2,h3,h4,h5⟩,h6⟩:=h;have hr:=by0 hS d c h5;have hl:=azm hr;refine⟨⟨g,off,h1,by omega,bq1 (hS g h2) d.cells c _ hr (D.cells_data d) fun j hj=>h4 j (by omega)⟩,bqq hS W l a (i+1) h6⟩
end
def Ctx.of(w:World):Ctx:={ w:=w,S:=fun g _=>g<w.heap.size,κ:=fun _=>0,nb:=0,τ:=fun _=>0,hw:=fun _=>none,own:=fun _=>none,base:=w.heap.size }
theorem inv_of{G:World→Prop}{w:World}(hG:∀ w':World,(∀ g,g<w.heap.size→w'.heap[g]?=w.heap[g]?)→G w'):Inv G (Ctx.of w) ⟨[],[]⟩ where
 nb:=rfl
 box:=fun i b h=>by simp at h
 ownk:=fun i h=>by simp[Ctx.of]at h
 ownlt:=fun g i h=>by simp[Ctx.of]at h
 prot:=fun g j h=>⟨h,rfl,fun t E W m ht=>by simp[Ctx.of]at ht⟩
 rows:=fun t E W m h=>by simp[Ctx.of]at h
 inj:=fun t t' h=>by simp[Ctx.of]at h
 toks:=fun t=>by simp[Ctx.of]
 base:=Zf _
 glob:=hG
theorem dqa{w:World}{d:D}{cs:List Value}(h:Rd w (Old w) d cs):RepL (Ctx.of w) d.cells cs:=by0 (C:=Ctx.of w) (S:=Old w) (fun g hg j=>hg) d cs h
theorem cvy{P:Program}{G:World→Prop}{f:FuncId}{args:List A}{vs:List Value}{w:World}(hc:ACall P G f args ⟨[],[]⟩ fun v _=>v=.bool true)(hG:∀ w':World,(∀ g,g<w.heap.size→w'.heap[g]?=w.heap[g]?)→G w')
  (ha:RepL (Ctx.of w) args vs):Calls P f vs.toArray w fun e w'=>e=.returned (.bool true)∧Below w.heap.size w w':=by
 refine(hc (Ctx.of w) vs (inv_of hG) ha).mono ?_;rintro e w' ⟨C',h',v,cv,rfl,rfl,_,st,hr,rfl⟩;rw[aqo]at hr;subst hr;exact⟨rfl,st.os,st.tape,st.output,st.size,fun g hg=>st.frame g hg rfl fun t ht=>by simp[Ctx.of]at ht⟩
theorem cqi{a b:Nat}{w:World}(h:Lib.Utf8Tabs a b w):∀ w':World,(∀ g,g<w.heap.size→w'.heap[g]?=w.heap[g]?)→Lib.Utf8Tabs a b w':=by
 intro w' hw;have hlt:∀ {g j:Nat} {v:Value},w.cell? ⟨g,j,none⟩=some v→g<w.heap.size:=fun {g j v} h=>(aqy h).2
 have hc:∀ {g j:Nat} {v:Value},w.cell? ⟨g,j,none⟩=some v→w'.cell? ⟨g,j,none⟩=some v:=fun {g j v} h=>by
  rw[←h];simp only[World.cell?,hw g (hlt h)]
 exact⟨fun c hcl=>hc (h.1 c hcl),fun i hi=>⟨hc (h.2 i hi).1,hc (h.2 i hi).2⟩⟩
end AX
end Go.Proofs.YtdgcbckcameggadGreatDoor

namespace Go.Proofs.YtdgcbckcameggadGreatDoor
open Go.RowKit Go.ChangeShapes Go.WideShapes
theorem aj0:∀ ks:List (List UInt8),D.rows (ks.map .str)=strsA ks
 |[]=>by simp[D.rows,strsA]
 |k::ks=>by
  have:=aj0 ks;simp only[ZH,D.rows,D.cells,this];rfl
mutual
theorem V.cells_toD:∀ v:V,v.toD.cells=v.cells
 |.mk k n s is ks=>by
  unfold V.toD V.cells;simp only[D.cells,D.cellsL,Zl,Zi,Zr,V.rows_toDs is,aj0]
theorem V.rows_toDs:∀ l:List V,D.rows (V.toDs l)=V.cellss l
 |[]=>by unfold V.toDs D.rows V.cellss;rfl
 |v::l=>by unfold V.toDs D.rows V.cellss;rw[V.cells_toD v,V.rows_toDs l]
end
mutual
theorem V.Wf.lens:∀ v:V,v.Wf→v.lens
 |.mk k n s is ks,h=>by
  unfold V.Wf at h;unfold V.lens;exact⟨h.1.2.2.2.1,h.1.2.2.2.2.1,h.1.2.2.1,h.1.2.2.2.2.2,V.Wfs.lens is h.2⟩
theorem V.Wfs.lens:∀ l:List V,V.Wfs l→V.lensS l
 |[],h=>by unfold V.lensS;trivial
 |v::l,h=>by
  unfold V.Wfs at h;unfold V.lensS;exact⟨V.Wf.lens v h.1,V.Wfs.lens l h.2⟩
end
namespace AX
theorem cq9{w:World}(g:GT w):∀ w':World,(∀ g,g<w.heap.size→w'.heap[g]?=w.heap[g]?)→GT w':=fun w' hw=>by
 have hi:∀ {n:Nat},IfaceAt n w→IfaceAt n w':=fun⟨ev,h1,h2⟩=>⟨ev,by rw[←h1];simp only[World.cell?,hw _ (aqy h1).2],h2⟩
 exact⟨cqi g.tabs w' hw,hi g.esyn,hi g.erng,by rw[←g.tz];simp only[World.cell?,hw _ (aqy g.tz).2]⟩
section
variable {H:Type} {enc:TypeId×Value→H} {w:World} {base:Nat} {spare:Nat→Bool} {held:Bool} {r:Reach} {b0:Nat} {v:Value} {d:DataW H} {p:List MemPlace}
end
end AX
end Go.Proofs.YtdgcbckcameggadGreatDoor

namespace Go.Proofs.YtdgcbckcameggadGreatDoor
open Go.RowKit
def BWtr(B b:Nat)(l:List UInt8)(w:World):Prop:=
 B≤b∧∃ p v,(p=.pointer none∨p=.pointer (some ⟨b,0,none⟩))∧w.heap[b]?=some (.cells #[p,v] 60 (0,0))∧w.ownsRowF B 5 1 v l.length (Lib.byteCells l)∧v.ownBlock≠some b
def BWtrU(B b:Nat)(l:List UInt8)(w:World):Prop:=
 B≤b∧∃ v,w.heap[b]?=some (.cells #[.pointer (some ⟨b,0,none⟩),v] 60 (0,0))∧w.ownsRowF B 5 1 v l.length (Lib.byteCells l)∧v.ownBlock≠some b
set_option maxRecDepth 100000 in
theorem bk0(b:Nat)(w:World)(h0:w.cell? ⟨b,0,none⟩=some (.pointer none))(hsh:w.shape? b=some (60,2))(hfz:w.frozen? ⟨b,0,none⟩=false) :
  Calls Tryz.prog 41 #[.pointer (some ⟨b,0,none⟩)] w fun e w'=>e=.returned (.tuple #[])∧w'=w.setCell ⟨b,0,none⟩ (.pointer (some ⟨b,0,none⟩)):=by
 obtain⟨j,hj,hjs⟩:=Zt.1 (show(Tryz.prog.info? 60).map (·.size)=some 2 by kernel_rfl);have hlies:liesAt Tryz.prog Tryz.prog.depth 60 (2/Tryz.prog.cellsOf 60) 0 60 1=true:=by kernel_rfl
 go_enter Tryz.func41,Tryz.ntmps41;go_wp2;rw[Lib.run_to_unsafe w ⟨b,0,none⟩ Tryz.underlying57 Tryz.underlying130 hj (by rw[hjs];decide) hsh (by show 0<2;omega)];simp only[Result.andThen];rw[Oper.upon_value];go_wp2;rw[run_callFunc_extern Tryz.func85 (by kernel_rfl) (by kernel_rfl) (by kernel_rfl) (e:=Extern.AbiNoEscape.same) (by kernel_rfl)];rw[Lib.run_noEscape];simp only[Result.andThen];rw[Oper.upon_value];go_wp2;rw[Lib.run_from_unsafe w ⟨b,0,none⟩ Tryz.underlying130 Tryz.underlying57 hj hsh hlies];simp only[Result.andThen];rw[Oper.upon_value];go_wp2
 go_end0
 exact⟨rfl,rfl⟩
theorem azt{w:World}{b:Nat}{p v:Value}{T:TypeId}(h:w.heap[b]?=some (.cells #[p,v] T (0,0))):w.cell? ⟨b,0,none⟩=some p∧w.cell? ⟨b,1,none⟩=some v∧(∀ i,w.frozen? ⟨b,i,none⟩=false)∧w.shape? b=some (T,2)∧b<w.heap.size:=by
 refine⟨?_,?_,fun i=>?_,?_,(ZX.1 h).1⟩
 ·rw[cell_of_row _ _ _ _ _ _ h];rfl
 ·rw[cell_of_row _ _ _ _ _ _ h];rfl
 ·simp[World.frozen?,h]
 ·simp[World.shape?,h]
theorem BWtr.used{B b:Nat}{l:List UInt8}{w:World}{p v:Value}(hB:B≤b)(hb:w.heap[b]?=some (.cells #[p,v] 60 (0,0)))(hown:w.ownsRowF B 5 1 v l.length (Lib.byteCells l))(hne:v.ownBlock≠some b) :
  BWtrU B b l (w.setCell ⟨b,0,none⟩ (.pointer (some ⟨b,0,none⟩))):=by
 refine⟨hB,v,?_,?_,hne⟩
 ·simp[World.setCell,ZZ,hb]
 ·exact hown.kept (row:=some b) ⟨rfl,rfl,rfl,by simp[World.setCell],fun k _ hk=>Below.heap_setCell _ _ _ _ (fun e=>hk (by simp[e]))⟩ (Or.inr hne)
def BF(F:Nat→Prop)(b:Nat)(l:List UInt8)(w:World):Prop:=
 ∃ p v,(p=.pointer none∨p=.pointer (some ⟨b,0,none⟩))∧w.heap[b]?=some (.cells #[p,v] 60 (0,0))∧w.ownsRowF 0 5 1 v l.length (Lib.byteCells l)∧v.ownBlock≠some b∧F b∧∀ k,v.ownBlock=some k→F k
theorem cjj{F:Nat→Prop}{b:Nat}{l:List UInt8}{w:World}(h:BF F b l w) :
  Calls Tryz.prog 41 #[.pointer (some ⟨b,0,none⟩)] w fun e w'=>e=.returned (.tuple #[])∧(∃ v,w'.heap[b]?=some (.cells #[.pointer (some ⟨b,0,none⟩),v] 60 (0,0))∧w'.ownsRowF 0 5 1 v l.length (Lib.byteCells l)∧v.ownBlock≠some b∧F b∧∀ k,v.ownBlock=some k→F k)∧Fr F w w':=by
 obtain⟨p,v,hp,hb,hown,hne,hF,hFk⟩:=h;obtain⟨c0,c1,hf,hsh,hlt⟩:=azt hb;rcases hp with rfl|rfl
 ·refine(bk0 b w c0 hsh (hf 0)).mono ?_;rintro e w' ⟨rfl,rfl⟩;obtain⟨_,v',hb',hown',hne'⟩:=BWtr.used (B:=0) (Zy _) hb hown hne;have hv:v'=v:=by
   have:=(azt hb').2.1;have h2:(w.setCell ⟨b,0,none⟩ (.pointer (some ⟨b,0,none⟩))).heap[b]?=some (.cells #[.pointer (some ⟨b,0,none⟩),v] 60 (0,0)):=by simp[World.setCell,ZZ,hb]
   have h3:=(azt h2).2.1;rw[h3]at this;injection this with this;exact this.symm
  subst hv;exact⟨rfl,⟨v',hb',hown',hne',hF,hFk⟩,Fr.set w b 0 _ hF⟩
 ·refine(Any.Builder_copyCheck_used Tryz.lays240 Tryz.Builder_X72_240 b w c0).mono ?_;rintro e w' ⟨rfl,rfl⟩;exact⟨rfl,⟨v,hb,hown,hne,hF,hFk⟩,Fr.refl F _⟩
set_option maxRecDepth 100000 in
theorem cx6{F:Nat→Prop}{b:Nat}{l:List UInt8}{w:World}(h:BF F b l w)(s:List UInt8)(hlen:l.length+s.length≤1000000000) :
  Calls Tryz.prog 20 #[.pointer (some ⟨b,0,none⟩),.string ⟨s.toArray⟩] w fun e w'=>e=.returned (.tuple #[.int .i64 s.length,.nilIface])∧BF (fun k=>F k∨w.heap.size≤k) b (l++s) w'∧Fr F w w':=by
 obtain⟨i0,hi,hz0,hz1,hz2⟩:=info_parts aws;go_enter Tryz.func20,Tryz.ntmps20;go_wp2_with fail;(with_reducible refine(cjj h).mono ?_);rintro e w1 ⟨rfl,⟨v,hbk,hown,hne,hF,hFk⟩,hb1⟩;obtain⟨c0,c1,hf,hsh,hlt⟩:=azt hbk;go_wp2_with (at_builtin;refine aq5 _ rfl _ _ 58 9 rfl 5 i0 Tryz.underlying58 Tryz.underlying9 hi hz0 hz1 hz2 _ _ _ rfl hown ⟨s.toArray⟩ rfl ?c3 ?c4 ?_)
 case c3=>rw[size_mk];unfold maxLen;omega
 case c4=>rw[size_mk];omega
 intro v' w2 hown' hgrow hwhere;have hb2:w2.heap[b]?=some (.cells #[.pointer (some ⟨b,0,none⟩),v] 60 (0,0)):=(hgrow.block b hlt (fun e=>hne e.symm)).trans hbk;obtain⟨d0,d1,hf2,_,hlt2⟩:=azt hb2;have f1:=hf2 1;have hown2:w2.ownsRowF 0 5 1 v' (l++s).length (Lib.byteCells (l++s)):=by
  have e1:(⟨s.toArray⟩:ByteArray).size=s.length:=size_mk s;have e2:Lib.byteCells l++Lib.strCells ⟨s.toArray⟩=Lib.byteCells (l++s):=by unfold Lib.strCells Lib.byteCells;simp
  rw[Za,←e2,←e1];exact hown'
 have hne2:=Lib.ownBlock_neF hown2 hb2 (show 60≠5 by decide);have hwb1:=hb1.size
 have Hfin:=kept (show BF (fun k=>F k∨w.heap.size≤k) b (l++s) (w2.setCell ⟨b,1,none⟩ v')from by
  refine⟨_,v',.inr rfl,?_,?_,hne2,.inl hF,fun k hk=>?_⟩
  ·simp[World.setCell,ZZ,hb2]
  ·exact hown2.kept (row:=some b) ⟨rfl,rfl,rfl,by simp[World.setCell],fun k _ hk=>Below.heap_setCell _ _ _ _ (fun e=>hk (by simp[e]))⟩ (Or.inr hne2)
  ·rcases hwhere k hk with h1|h1
   ·exact .inl (hFk k h1)
   ·exact .inr (by omega))
 have Hfr:=kept ((hb1.trans (Fr.grown hgrow fun k hk=>hFk k hk)).trans (Fr.set w2 b 1 v' hF));obtain⟨ao,n',cap,rfl⟩:∃ ao n' cap,v'=.slice ao n' cap:=by
  rcases hown'.2 with⟨hv,_⟩|⟨g,cap,cur,fz,hv,_⟩
  ·exact⟨_,_,_,hv⟩
  ·exact⟨_,_,_,hv⟩
 clear hown' hown2 hne2 hb2 hbk hown hne hgrow hb1 h hwhere;go_wp2
 go_ret2
 exact⟨by simp,Hfin.out,Hfr.out⟩
set_option maxRecDepth 100000 in
theorem cqe{F:Nat→Prop}{b:Nat}{l:List UInt8}{w:World}(h:BF F b l w)(h0:l≠[]) :
  Calls Tryz.prog 21 #[.pointer (some ⟨b,0,none⟩)] w fun e w'=>e=.returned (.string ⟨l.toArray⟩)∧Fr F w w':=by
 obtain⟨p,v,hp,hbk,hown,hne,hFb,hFk⟩:=h;have hl0:l.length≠0:=by simpa using h0
 obtain⟨g,cap,cur,fz,rfl,hbg,hg,hfz,hnc,hcm,hcs,htake⟩:∃ g cap cur fz,v=.slice (some ⟨g,0,none⟩) l.length cap∧0≤g∧w.heap[g]?=some (.cells cur 5 fz)∧fz.2≤l.length*1∧l.length≤cap∧cap≤maxLen∧cur.size=cap*1∧cur.toList.take (l.length*1)=Lib.byteCells l:=by
  rcases hown.2 with⟨_,hz⟩|⟨g,cap,cur,fz,hv,r⟩
  ·exact absurd hz hl0
  ·exact⟨g,cap,cur,fz,hv,r⟩
 have HFg:=kept (hFk g rfl);have c1:w.drew.cell? ⟨b,1,none⟩=some (.slice (some ⟨g,0,none⟩) l.length cap):=(azt hbk).2.1;have hSD:(Builtin.unsafeSliceData_ #[58] 90 #[.slice (some ⟨g,0,none⟩) l.length cap]).run Tryz.prog w.drew=.ok (.pointer (some ⟨g,0,none⟩)) w.drew:=
  Lib.run_unsafeSliceData_row _ _ _ _ _ _ (by omega)
 have hUS:(Builtin.unsafeString_ #[90,3] 9 #[.pointer (some ⟨g,0,none⟩),.int .i64 l.length]).run Tryz.prog w.drew=.ok (.string ⟨l.toArray⟩) (w.drew.freeze ⟨g,0,none⟩ l.length):=by
  refine Lib.run_unsafeString_row w.drew 90 3 9 5 Tryz.underlying90 Tryz.Builder_Extra_169.cellsByte g cur.size (by have hg':w.drew.heap[g]?=some (.cells cur 5 fz):=hg;simp[World.shape?,hg']) l h0 (by omega) (by unfold maxLen at hcm;omega) ?_;intro j x hx;have:=hown.cells (g:=g) rfl j (.int .u8 x.toNat) (by simp[Lib.byteCells,hx]);exact this
 have Hfr:=kept (show Fr F w (w.drew.freeze ⟨g,0,none⟩ l.length)from by
  unfold World.freeze;split
  ·exact⟨rfl,rfl,rfl,Zf _,fun _ _ _=>rfl⟩
  ·refine⟨rfl,rfl,rfl,by simp,fun k hk hn=>?_⟩;have hkg:k≠g:=fun e=>hn (by rw[e];exact HFg.out)
   simp only[ZZ,if_neg hkg.symm];rfl)
 clear hown hp hne hbk hnc hcm hcs htake hfz hg hl0 h0 hFk hFb;have mixed:=Tryz.lays169.mixed;go_enter Tryz.func21,Tryz.ntmps21;go_wp2
 go_region_o
 all_goals (go_wp2;go_ret;exact⟨rfl,Hfr.out⟩)
namespace AX
def bwt(l:List UInt8):Blk:=.opq (fun F g w=>BF F g l w) (fun _=>none)
def Bt(h:Hp)(i:Nat)(l:List UInt8):Prop:=h.b[i]?=some (bwt l)∨(l=[]∧h.b[i]?=some (.cells 60 [.nilp,.sl 0 .nil []]))
theorem BF.stable{F:Nat→Prop}{b:Nat}{l:List UInt8}{w w':World}(h:BF F b l w)(hs:∀ g,F g→w'.heap[g]?=w.heap[g]?):BF F b l w':=by
 obtain⟨p,v,hp,hb,hown,hne,hF,hFk⟩:=h;refine⟨p,v,hp,(hs b hF).trans hb,⟨hown.1,?_⟩,hne,hF,hFk⟩;rcases hown.2 with h1|⟨g,cap,cur,fz,rfl,h2,h3,h4⟩
 ·exact .inl h1
 ·exact .inr ⟨g,cap,cur,fz,rfl,h2,(hs g (hFk g rfl)).trans h3,h4⟩
theorem Bt.lt{h:Hp}{i:Nat}{l:List UInt8}(hw:Bt h i l):i<h.b.length:=by
 rcases hw with h1|⟨_,h1⟩
 ·exact(Zd.1 h1).1
 ·exact(Zd.1 h1).1
theorem Bt.bf{h:Hp}{i:Nat}{l:List UInt8}{C:Ctx}{G:World→Prop}(hw:Bt h i l)(hI:Inv G C h):BF (fun g=>C.own g=some i) (C.κ i) l C.w:=by
 have hi:i<C.nb:=by rw[←hI.nb];exact hw.lt
 rcases hw with h1|⟨rfl,h1⟩
 ·exact(hI.box i _ h1).1 C.w (fun _ _=>rfl) (Zf _)
 ·obtain⟨cs,k1,k2⟩:=hI.box i _ h1;obtain⟨c0,d0,rfl,e0,k2⟩:=repL_cons.1 k2;obtain⟨c1,d1,rfl,e1,k2⟩:=repL_cons.1 k2;rw[repL_nil]at k2;subst k2;rw[aqk]at e0;subst e0;obtain⟨a,cap,rfl,_,_,e3,e4,_⟩:=rep_sl.1 e1;subst e3;subst e4;exact⟨_,_,.inl rfl,k1,⟨rfl,.inl ⟨rfl,rfl⟩⟩,by simp[Value.ownBlock],hI.ownk i hi,fun k hk=>by simp[Value.ownBlock]at hk⟩
theorem cvp{C:Ctx}{i:Nat}{l:List UInt8}(h:BF (fun g=>C.own g=some i) (C.κ i) l C.w):BlkRep C i (bwt l):=by
 refine⟨fun w' hw _=>BF.stable h hw,fun o x hx=>?_⟩;cases hx
theorem akc{h:Hp}{i:Nat}{l:List UInt8}(hw:Bt h i l)(s:List UInt8)(hlen:l.length+s.length≤1000000000) :
  AC 20 [.ptr i 0,.str s] h fun v h'=>v=.tup [.int .i64 s.length,.nili]∧h'=⟨h.b.set i (bwt (l++s)),h.t⟩:=by
 intro C es hI ha;obtain⟨c,es',rfl,h1,h2⟩:=repL_cons.1 ha;obtain⟨rfl,hi⟩:=rep_ptr.1 h1;obtain rfl:=axv aq8 C es' h2;refine(cx6 (hw.bf hI) s hlen).mono ?_;rintro e w' ⟨rfl,m1,m2⟩;have hrep:BlkRep (C.turn w' i true) i (bwt (l++s)):=by
  refine cvp ?_;obtain⟨p,v,hp,hb,hown,hne,hF,hFk⟩:=m1;have hlt:=(azt hb).2.2.2.2;have hcl:∀ k,k<w'.heap.size→(C.own k=some i∨C.w.heap.size≤k)→(C.turn w' i true).own k=some i:=fun k hk hor=>by
   show(if k<C.w.heap.size then C.own k else if true=true∧k<w'.heap.size then some i else none)=some i
   split
   ·rcases hor with h3|h3
    ·exact h3
    ·omega
   ·rw[if_pos ⟨rfl,hk⟩]
  refine⟨p,v,hp,hb,hown,hne,hcl _ hlt hF,fun k hk=>hcl k ?_ (hFk k hk)⟩;rcases hown.2 with⟨rfl,_⟩|⟨g,cap,cur,fz,rfl,_,h3,_⟩
  ·simp[Value.ownBlock]at hk
  ·simp only[Value.ownBlock,Zb]at hk;subst hk;exact(ZX.1 h3).1
 obtain⟨i1,s1⟩:=aqp (b':=bwt (l++s)) true hI hi m2.os m2.tape m2.output m2.size (fun g hg hne=>m2.block g hg hne) (fun _=>hrep);exact⟨_,_,.tup [.int .i64 s.length,.nili],_,rfl,rfl,i1,s1,rep_tup.2 ⟨_,rfl,repL_cons.2 ⟨_,_,rfl,rep_int.2 rfl,repL_cons.2 ⟨_,_,rfl,bkl.2 rfl,repL_nil.2 rfl⟩⟩⟩,rfl,rfl⟩
theorem bxs{h:Hp}{i:Nat}{l:List UInt8}(hw:Bt h i l)(h0:l≠[]):AC 21 [.ptr i 0] h fun v h'=>v=.str l∧h'=⟨h.b.set i dead,h.t⟩:=by
 intro C es hI ha;obtain⟨c,es',rfl,h1,h2⟩:=repL_cons.1 ha;obtain⟨rfl,hi⟩:=rep_ptr.1 h1;rw[repL_nil]at h2;subst h2;refine(cqe (hw.bf hI) h0).mono ?_;rintro e w' ⟨rfl,m2⟩;obtain⟨i1,s1⟩:=aqp (b':=dead) false hI hi m2.os m2.tape m2.output m2.size (fun g hg hne=>m2.block g hg hne) (fun _=>⟨fun _ _ _=>trivial,fun o x hx=>by cases hx⟩);exact⟨_,_,.str l,_,rfl,rfl,i1,s1,rep_str.2 rfl,rfl,rfl⟩
end AX
def LWtr(B b:Nat)(l:List UInt8)(w:World):Prop:=
 B≤b∧∃ p v,(p=.pointer none∨p=.pointer (some ⟨b,0,none⟩))∧w.heap[b]?=some (.cells #[p,v] 62 (0,0))∧w.ownsRowF B 5 1 v l.length (Lib.byteCells l)∧v.ownBlock≠some b
def LWtrU(B b:Nat)(l:List UInt8)(w:World):Prop:=
 B≤b∧∃ v,w.heap[b]?=some (.cells #[.pointer (some ⟨b,0,none⟩),v] 62 (0,0))∧w.ownsRowF B 5 1 v l.length (Lib.byteCells l)∧v.ownBlock≠some b
theorem LWtrU.lwtr{B b:Nat}{l:List UInt8}{w:World}(h:LWtrU B b l w):LWtr B b l w:=by
 obtain⟨h1,v,h2,h3⟩:=h;exact⟨h1,_,v,.inr rfl,h2,h3⟩
set_option maxRecDepth 100000 in
theorem byd(b:Nat)(w:World)(h0:w.cell? ⟨b,0,none⟩=some (.pointer none))(hsh:w.shape? b=some (62,2))(hfz:w.frozen? ⟨b,0,none⟩=false) :
  Calls Tryz.prog 41 #[.pointer (some ⟨b,0,none⟩)] w fun e w'=>e=.returned (.tuple #[])∧w'=w.setCell ⟨b,0,none⟩ (.pointer (some ⟨b,0,none⟩)):=by
 obtain⟨j,hj,hjs⟩:=Zt.1 (show(Tryz.prog.info? 60).map (·.size)=some 2 by kernel_rfl);have hlies:liesAt Tryz.prog Tryz.prog.depth 62 (2/Tryz.prog.cellsOf 62) 0 60 1=true:=by kernel_rfl
 go_enter Tryz.func41,Tryz.ntmps41;go_wp2;rw[Lib.run_to_unsafe w ⟨b,0,none⟩ Tryz.underlying57 Tryz.underlying130 hj (by rw[hjs];decide) hsh (by show 0<2;omega)];simp only[Result.andThen];rw[Oper.upon_value];go_wp2;rw[run_callFunc_extern Tryz.func85 (by kernel_rfl) (by kernel_rfl) (by kernel_rfl) (e:=Extern.AbiNoEscape.same) (by kernel_rfl)];rw[Lib.run_noEscape];simp only[Result.andThen];rw[Oper.upon_value];go_wp2;rw[Lib.run_from_unsafe w ⟨b,0,none⟩ Tryz.underlying130 Tryz.underlying57 hj hsh hlies];simp only[Result.andThen];rw[Oper.upon_value];go_wp2
 go_end0
 exact⟨rfl,rfl⟩
theorem LWtr.used{B b:Nat}{l:List UInt8}{w:World}{p v:Value}(hB:B≤b)(hb:w.heap[b]?=some (.cells #[p,v] 62 (0,0)))(hown:w.ownsRowF B 5 1 v l.length (Lib.byteCells l))(hne:v.ownBlock≠some b) :
  LWtrU B b l (w.setCell ⟨b,0,none⟩ (.pointer (some ⟨b,0,none⟩))):=by
 refine⟨hB,v,?_,?_,hne⟩
 ·simp[World.setCell,ZZ,hb]
 ·exact hown.kept (row:=some b) ⟨rfl,rfl,rfl,by simp[World.setCell],fun k _ hk=>Below.heap_setCell _ _ _ _ (fun e=>hk (by simp[e]))⟩ (Or.inr hne)
theorem cjb{B b:Nat}{l:List UInt8}{w:World}(h:LWtr B b l w) :
  Calls Tryz.prog 19 #[.pointer (some ⟨b,0,none⟩)] w fun e w'=>e=.returned (.int .i64 l.length)∧w'=w:=by
 obtain⟨hB,p,v,hp,hb,hown,hne⟩:=h;obtain⟨c0,c1,hf,hsh,hlt⟩:=azt hb;obtain⟨ao,cap,rfl⟩:∃ ao cap,v=.slice ao l.length cap:=by
  rcases hown.2 with⟨hv,h0⟩|⟨g,cap,cur,fz,hv,_⟩
  ·exact⟨none,0,by rw[hv,h0]⟩
  ·exact⟨_,_,hv⟩
 clear hown hp hne hb;go_enter Tryz.func19,Tryz.ntmps19;go_wp2
 go_ret
 exact⟨rfl,rfl⟩
def LF(F:Nat→Prop)(b:Nat)(l:List UInt8)(w:World):Prop:=
 ∃ p v,(p=.pointer none∨p=.pointer (some ⟨b,0,none⟩))∧w.heap[b]?=some (.cells #[p,v] 62 (0,0))∧w.ownsRowF 0 5 1 v l.length (Lib.byteCells l)∧v.ownBlock≠some b∧F b∧∀ k,v.ownBlock=some k→F k
theorem LF.lwtr{F:Nat→Prop}{b:Nat}{l:List UInt8}{w:World}(h:LF F b l w):LWtr 0 b l w:=by
 obtain⟨p,v,hp,hb,hown,hne,_⟩:=h;exact⟨Zy _,p,v,hp,hb,hown,hne⟩
theorem cva{F:Nat→Prop}{b:Nat}{l:List UInt8}{w:World}(h:LF F b l w) :
  Calls Tryz.prog 41 #[.pointer (some ⟨b,0,none⟩)] w fun e w'=>e=.returned (.tuple #[])∧(∃ v,w'.heap[b]?=some (.cells #[.pointer (some ⟨b,0,none⟩),v] 62 (0,0))∧w'.ownsRowF 0 5 1 v l.length (Lib.byteCells l)∧v.ownBlock≠some b∧F b∧∀ k,v.ownBlock=some k→F k)∧Fr F w w':=by
 obtain⟨p,v,hp,hb,hown,hne,hF,hFk⟩:=h;obtain⟨c0,c1,hf,hsh,hlt⟩:=azt hb;rcases hp with rfl|rfl
 ·refine(byd b w c0 hsh (hf 0)).mono ?_;rintro e w' ⟨rfl,rfl⟩;obtain⟨_,v',hb',hown',hne'⟩:=LWtr.used (B:=0) (Zy _) hb hown hne;have hv:v'=v:=by
   have:=(azt hb').2.1;have h2:(w.setCell ⟨b,0,none⟩ (.pointer (some ⟨b,0,none⟩))).heap[b]?=some (.cells #[.pointer (some ⟨b,0,none⟩),v] 62 (0,0)):=by simp[World.setCell,ZZ,hb]
   have h3:=(azt h2).2.1;rw[h3]at this;injection this with this;exact this.symm
  subst hv;exact⟨rfl,⟨v',hb',hown',hne',hF,hFk⟩,Fr.set w b 0 _ hF⟩
 ·refine(Any.Builder_copyCheck_used Tryz.lays240 Tryz.Builder_X72_240 b w c0).mono ?_;rintro e w' ⟨rfl,rfl⟩;exact⟨rfl,⟨v,hb,hown,hne,hF,hFk⟩,Fr.refl F _⟩
set_option maxRecDepth 100000 in
theorem cx4{F:Nat→Prop}{b:Nat}{l:List UInt8}{w:World}(h:LF F b l w)(s:List UInt8)(hlen:l.length+s.length≤1000000000) :
  Calls Tryz.prog 20 #[.pointer (some ⟨b,0,none⟩),.string ⟨s.toArray⟩] w fun e w'=>e=.returned (.tuple #[.int .i64 s.length,.nilIface])∧LF (fun k=>F k∨w.heap.size≤k) b (l++s) w'∧Fr F w w':=by
 obtain⟨i0,hi,hz0,hz1,hz2⟩:=info_parts aws;go_enter Tryz.func20,Tryz.ntmps20;go_wp2_with fail;(with_reducible refine(cva h).mono ?_);rintro e w1 ⟨rfl,⟨v,hbk,hown,hne,hF,hFk⟩,hb1⟩;obtain⟨c0,c1,hf,hsh,hlt⟩:=azt hbk;go_wp2_with (at_builtin;refine aq5 _ rfl _ _ 58 9 rfl 5 i0 Tryz.underlying58 Tryz.underlying9 hi hz0 hz1 hz2 _ _ _ rfl hown ⟨s.toArray⟩ rfl ?c3 ?c4 ?_)
 case c3=>rw[size_mk];unfold maxLen;omega
 case c4=>rw[size_mk];omega
 intro v' w2 hown' hgrow hwhere;have hb2:w2.heap[b]?=some (.cells #[.pointer (some ⟨b,0,none⟩),v] 62 (0,0)):=(hgrow.block b hlt (fun e=>hne e.symm)).trans hbk;obtain⟨d0,d1,hf2,_,hlt2⟩:=azt hb2;have f1:=hf2 1;have hown2:w2.ownsRowF 0 5 1 v' (l++s).length (Lib.byteCells (l++s)):=by
  have e1:(⟨s.toArray⟩:ByteArray).size=s.length:=size_mk s;have e2:Lib.byteCells l++Lib.strCells ⟨s.toArray⟩=Lib.byteCells (l++s):=by unfold Lib.strCells Lib.byteCells;simp
  rw[Za,←e2,←e1];exact hown'
 have hne2:=Lib.ownBlock_neF hown2 hb2 (show 62≠5 by decide);have hwb1:=hb1.size
 have Hfin:=kept (show LF (fun k=>F k∨w.heap.size≤k) b (l++s) (w2.setCell ⟨b,1,none⟩ v')from by
  refine⟨_,v',.inr rfl,?_,?_,hne2,.inl hF,fun k hk=>?_⟩
  ·simp[World.setCell,ZZ,hb2]
  ·exact hown2.kept (row:=some b) ⟨rfl,rfl,rfl,by simp[World.setCell],fun k _ hk=>Below.heap_setCell _ _ _ _ (fun e=>hk (by simp[e]))⟩ (Or.inr hne2)
  ·rcases hwhere k hk with h1|h1
   ·exact .inl (hFk k h1)
   ·exact .inr (by omega))
 have Hfr:=kept ((hb1.trans (Fr.grown hgrow fun k hk=>hFk k hk)).trans (Fr.set w2 b 1 v' hF));obtain⟨ao,n',cap,rfl⟩:∃ ao n' cap,v'=.slice ao n' cap:=by
  rcases hown'.2 with⟨hv,_⟩|⟨g,cap,cur,fz,hv,_⟩
  ·exact⟨_,_,_,hv⟩
  ·exact⟨_,_,_,hv⟩
 clear hown' hown2 hne2 hb2 hbk hown hne hgrow hb1 h hwhere;go_wp2
 go_ret2
 exact⟨by simp,Hfin.out,Hfr.out⟩
set_option maxRecDepth 100000 in
theorem cq1{F:Nat→Prop}{b:Nat}{l:List UInt8}{w:World}(h:LF F b l w)(h0:l≠[]) :
  Calls Tryz.prog 21 #[.pointer (some ⟨b,0,none⟩)] w fun e w'=>e=.returned (.string ⟨l.toArray⟩)∧Fr F w w':=by
 obtain⟨p,v,hp,hbk,hown,hne,hFb,hFk⟩:=h;have hl0:l.length≠0:=by simpa using h0
 obtain⟨g,cap,cur,fz,rfl,hbg,hg,hfz,hnc,hcm,hcs,htake⟩:∃ g cap cur fz,v=.slice (some ⟨g,0,none⟩) l.length cap∧0≤g∧w.heap[g]?=some (.cells cur 5 fz)∧fz.2≤l.length*1∧l.length≤cap∧cap≤maxLen∧cur.size=cap*1∧cur.toList.take (l.length*1)=Lib.byteCells l:=by
  rcases hown.2 with⟨_,hz⟩|⟨g,cap,cur,fz,hv,r⟩
  ·exact absurd hz hl0
  ·exact⟨g,cap,cur,fz,hv,r⟩
 have HFg:=kept (hFk g rfl);have c1:w.drew.cell? ⟨b,1,none⟩=some (.slice (some ⟨g,0,none⟩) l.length cap):=(azt hbk).2.1;have hSD:(Builtin.unsafeSliceData_ #[58] 90 #[.slice (some ⟨g,0,none⟩) l.length cap]).run Tryz.prog w.drew=.ok (.pointer (some ⟨g,0,none⟩)) w.drew:=
  Lib.run_unsafeSliceData_row _ _ _ _ _ _ (by omega)
 have hUS:(Builtin.unsafeString_ #[90,3] 9 #[.pointer (some ⟨g,0,none⟩),.int .i64 l.length]).run Tryz.prog w.drew=.ok (.string ⟨l.toArray⟩) (w.drew.freeze ⟨g,0,none⟩ l.length):=by
  refine Lib.run_unsafeString_row w.drew 90 3 9 5 Tryz.underlying90 Tryz.Builder_Extra_169.cellsByte g cur.size (by have hg':w.drew.heap[g]?=some (.cells cur 5 fz):=hg;simp[World.shape?,hg']) l h0 (by omega) (by unfold maxLen at hcm;omega) ?_;intro j x hx;have:=hown.cells (g:=g) rfl j (.int .u8 x.toNat) (by simp[Lib.byteCells,hx]);exact this
 have Hfr:=kept (show Fr F w (w.drew.freeze ⟨g,0,none⟩ l.length)from by
  unfold World.freeze;split
  ·exact⟨rfl,rfl,rfl,Zf _,fun _ _ _=>rfl⟩
  ·refine⟨rfl,rfl,rfl,by simp,fun k hk hn=>?_⟩;have hkg:k≠g:=fun e=>hn (by rw[e];exact HFg.out)
   simp only[ZZ,if_neg hkg.symm];rfl)
 clear hown hp hne hbk hnc hcm hcs htake hfz hg hl0 h0 hFk hFb;have mixed:=Tryz.lays169.mixed;go_enter Tryz.func21,Tryz.ntmps21;go_wp2
 go_region_o
 all_goals (go_wp2;go_ret;exact⟨rfl,Hfr.out⟩)
namespace AX
def lwt(l:List UInt8):Blk:=.opq (fun F g w=>LF F g l w) (fun _=>none)
def Lt(h:Hp)(i:Nat)(l:List UInt8):Prop:=h.b[i]?=some (lwt l)∨(l=[]∧h.b[i]?=some (.cells 62 [.nilp,.sl 0 .nil []]))
theorem LF.stable{F:Nat→Prop}{b:Nat}{l:List UInt8}{w w':World}(h:LF F b l w)(hs:∀ g,F g→w'.heap[g]?=w.heap[g]?):LF F b l w':=by
 obtain⟨p,v,hp,hb,hown,hne,hF,hFk⟩:=h;refine⟨p,v,hp,(hs b hF).trans hb,⟨hown.1,?_⟩,hne,hF,hFk⟩;rcases hown.2 with h1|⟨g,cap,cur,fz,rfl,h2,h3,h4⟩
 ·exact .inl h1
 ·exact .inr ⟨g,cap,cur,fz,rfl,h2,(hs g (hFk g rfl)).trans h3,h4⟩
theorem Lt.lt{h:Hp}{i:Nat}{l:List UInt8}(hw:Lt h i l):i<h.b.length:=by
 rcases hw with h1|⟨_,h1⟩
 ·exact(Zd.1 h1).1
 ·exact(Zd.1 h1).1
theorem Lt.lf{h:Hp}{i:Nat}{l:List UInt8}{C:Ctx}{G:World→Prop}(hw:Lt h i l)(hI:Inv G C h):LF (fun g=>C.own g=some i) (C.κ i) l C.w:=by
 have hi:i<C.nb:=by rw[←hI.nb];exact hw.lt
 rcases hw with h1|⟨rfl,h1⟩
 ·exact(hI.box i _ h1).1 C.w (fun _ _=>rfl) (Zf _)
 ·obtain⟨cs,k1,k2⟩:=hI.box i _ h1;obtain⟨c0,d0,rfl,e0,k2⟩:=repL_cons.1 k2;obtain⟨c1,d1,rfl,e1,k2⟩:=repL_cons.1 k2;rw[repL_nil]at k2;subst k2;rw[aqk]at e0;subst e0;obtain⟨a,cap,rfl,_,_,e3,e4,_⟩:=rep_sl.1 e1;subst e3;subst e4;exact⟨_,_,.inl rfl,k1,⟨rfl,.inl ⟨rfl,rfl⟩⟩,by simp[Value.ownBlock],hI.ownk i hi,fun k hk=>by simp[Value.ownBlock]at hk⟩
theorem bv1{C:Ctx}{i:Nat}{l:List UInt8}(h:LF (fun g=>C.own g=some i) (C.κ i) l C.w):BlkRep C i (lwt l):=by
 refine⟨fun w' hw _=>LF.stable h hw,fun o x hx=>?_⟩;cases hx
theorem bvm{h:Hp}{i:Nat}{l:List UInt8}(hw:Lt h i l)(s:List UInt8)(hlen:l.length+s.length≤1000000000) :
  AC 20 [.ptr i 0,.str s] h fun v h'=>v=.tup [.int .i64 s.length,.nili]∧h'=⟨h.b.set i (lwt (l++s)),h.t⟩:=by
 intro C es hI ha;obtain⟨c,es',rfl,h1,h2⟩:=repL_cons.1 ha;obtain⟨rfl,hi⟩:=rep_ptr.1 h1;obtain rfl:=axv aq8 C es' h2;refine(cx4 (hw.lf hI) s hlen).mono ?_;rintro e w' ⟨rfl,m1,m2⟩;have hrep:BlkRep (C.turn w' i true) i (lwt (l++s)):=by
  refine bv1 ?_;obtain⟨p,v,hp,hb,hown,hne,hF,hFk⟩:=m1;have hlt:=(azt hb).2.2.2.2;have hcl:∀ k,k<w'.heap.size→(C.own k=some i∨C.w.heap.size≤k)→(C.turn w' i true).own k=some i:=fun k hk hor=>by
   show(if k<C.w.heap.size then C.own k else if true=true∧k<w'.heap.size then some i else none)=some i
   split
   ·rcases hor with h3|h3
    ·exact h3
    ·omega
   ·rw[if_pos ⟨rfl,hk⟩]
  refine⟨p,v,hp,hb,hown,hne,hcl _ hlt hF,fun k hk=>hcl k ?_ (hFk k hk)⟩;rcases hown.2 with⟨rfl,_⟩|⟨g,cap,cur,fz,rfl,_,h3,_⟩
  ·simp[Value.ownBlock]at hk
  ·simp only[Value.ownBlock,Zb]at hk;subst hk;exact(ZX.1 h3).1
 obtain⟨i1,s1⟩:=aqp (b':=lwt (l++s)) true hI hi m2.os m2.tape m2.output m2.size (fun g hg hne=>m2.block g hg hne) (fun _=>hrep);exact⟨_,_,.tup [.int .i64 s.length,.nili],_,rfl,rfl,i1,s1,rep_tup.2 ⟨_,rfl,repL_cons.2 ⟨_,_,rfl,rep_int.2 rfl,repL_cons.2 ⟨_,_,rfl,bkl.2 rfl,repL_nil.2 rfl⟩⟩⟩,rfl,rfl⟩
theorem ckm{h:Hp}{i:Nat}{l:List UInt8}(hw:Lt h i l):AT 19 [.ptr i 0] h (.int .i64 l.length):=by
 intro C es hI ha;obtain⟨c,es',rfl,h1,h2⟩:=repL_cons.1 ha;obtain⟨rfl,hi⟩:=rep_ptr.1 h1;rw[repL_nil]at h2;subst h2;refine(cjb (hw.lf hI).lwtr).mono ?_;rintro e w' ⟨rfl,rfl⟩;exact⟨C,h,_,_,rfl,rfl,hI,Step.refl C,rep_int.2 rfl,rfl,rfl⟩
theorem cz8{h:Hp}{i:Nat}{l:List UInt8}(hw:Lt h i l)(h0:l≠[]):AC 21 [.ptr i 0] h fun v h'=>v=.str l∧h'=⟨h.b.set i dead,h.t⟩:=by
 intro C es hI ha;obtain⟨c,es',rfl,h1,h2⟩:=repL_cons.1 ha;obtain⟨rfl,hi⟩:=rep_ptr.1 h1;rw[repL_nil]at h2;subst h2;refine(cq1 (hw.lf hI) h0).mono ?_;rintro e w' ⟨rfl,m2⟩;obtain⟨i1,s1⟩:=aqp (b':=dead) false hI hi m2.os m2.tape m2.output m2.size (fun g hg hne=>m2.block g hg hne) (fun _=>⟨fun _ _ _=>trivial,fun o x hx=>by cases hx⟩);exact⟨_,_,.str l,_,rfl,rfl,i1,s1,rep_str.2 rfl,rfl,rfl⟩
end AX
set_option maxRecDepth 100000 in
theorem byb{F:Nat→Prop}{b:Nat}{l:List UInt8}{w:World}(h:LF F b l w)(h0:l≠[]) :
  Calls Tryz.prog 21 #[.pointer (some ⟨b,0,none⟩)] w fun e w'=>e=.returned (.string ⟨l.toArray⟩)∧LF F b l w'∧w'.heap.size=w.heap.size∧Fr F w w':=by
 obtain⟨p,v,hp,hbk,hown,hne,hFb,hFk⟩:=h;have hl0:l.length≠0:=by simpa using h0
 obtain⟨g,cap,cur,fz,rfl,hbg,hg,hfz,hnc,hcm,hcs,htake⟩:∃ g cap cur fz,v=.slice (some ⟨g,0,none⟩) l.length cap∧0≤g∧w.heap[g]?=some (.cells cur 5 fz)∧fz.2≤l.length*1∧l.length≤cap∧cap≤maxLen∧cur.size=cap*1∧cur.toList.take (l.length*1)=Lib.byteCells l:=by
  rcases hown.2 with⟨_,hz⟩|⟨g,cap,cur,fz,hv,r⟩
  ·exact absurd hz hl0
  ·exact⟨g,cap,cur,fz,hv,r⟩
 have HFg:=kept (hFk g rfl);have c1:w.drew.cell? ⟨b,1,none⟩=some (.slice (some ⟨g,0,none⟩) l.length cap):=(azt hbk).2.1;have hSD:(Builtin.unsafeSliceData_ #[58] 90 #[.slice (some ⟨g,0,none⟩) l.length cap]).run Tryz.prog w.drew=.ok (.pointer (some ⟨g,0,none⟩)) w.drew:=
  Lib.run_unsafeSliceData_row _ _ _ _ _ _ (by omega)
 have hUS:(Builtin.unsafeString_ #[90,3] 9 #[.pointer (some ⟨g,0,none⟩),.int .i64 l.length]).run Tryz.prog w.drew=.ok (.string ⟨l.toArray⟩) (w.drew.freeze ⟨g,0,none⟩ l.length):=by
  refine Lib.run_unsafeString_row w.drew 90 3 9 5 Tryz.underlying90 Tryz.Builder_Extra_169.cellsByte g cur.size (by have hg':w.drew.heap[g]?=some (.cells cur 5 fz):=hg;simp[World.shape?,hg']) l h0 (by omega) (by unfold maxLen at hcm;omega) ?_;intro j x hx;have:=hown.cells (g:=g) rfl j (.int .u8 x.toNat) (by simp[Lib.byteCells,hx]);exact this
 have Hfr:=kept (show Fr F w (w.drew.freeze ⟨g,0,none⟩ l.length)from by
  unfold World.freeze;split
  ·exact⟨rfl,rfl,rfl,Zf _,fun _ _ _=>rfl⟩
  ·refine⟨rfl,rfl,rfl,by simp,fun k hk hn=>?_⟩;have hkg:k≠g:=fun e=>hn (by rw[e];exact HFg.out)
   simp only[ZZ,if_neg hkg.symm];rfl)
 have Hlf:=kept (show LF F b l (w.drew.freeze ⟨g,0,none⟩ l.length)∧(w.drew.freeze ⟨g,0,none⟩ l.length).heap.size=w.heap.size from by
  have hbg':b≠g:=fun e=>hne (by simp[Value.ownBlock,e])
  unfold World.freeze;rw[if_neg hl0];refine⟨⟨p,.slice (some ⟨g,0,none⟩) l.length cap,hp,?_,⟨hown.1,.inr ⟨g,cap,cur,(if fz.1==fz.2 then(0,0+l.length)else(min fz.1 0,max fz.2 (0+l.length))),rfl,hbg,?_,?_,hnc,hcm,hcs,htake⟩⟩,hne,hFb,hFk⟩,?_⟩
  ·simp only[ZZ,if_neg hbg'.symm];exact hbk
  ·have hg':w.drew.heap[g]?=some (.cells cur 5 fz):=hg;simp only[ZZ,if_true,hg',ZO]
  ·split
   ·simp
   ·show max fz.2 (0+l.length)≤l.length*1
    omega
  ·simp)
 clear hown hp hne hbk hnc hcm hcs htake hfz hg hl0 h0 hFk hFb;have mixed:=Tryz.lays169.mixed;go_enter Tryz.func21,Tryz.ntmps21;go_wp2
 go_region_o
 all_goals (go_wp2;go_ret;exact⟨rfl,Hlf.out.1,Hlf.out.2,Hfr.out⟩)
namespace AX
theorem bwu{h:Hp}{i:Nat}{l:List UInt8}(hw:Lt h i l)(h0:l≠[]):AC 21 [.ptr i 0] h fun v h'=>v=.str l∧h'=⟨h.b.set i (lwt l),h.t⟩:=by
 intro C es hI ha;obtain⟨c,es',rfl,h1,h2⟩:=repL_cons.1 ha;obtain⟨rfl,hi⟩:=rep_ptr.1 h1;rw[repL_nil]at h2;subst h2;refine(byb (hw.lf hI) h0).mono ?_;rintro e w' ⟨rfl,m1,ms,m2⟩;have hrep:BlkRep (C.turn w' i false) i (lwt l):=by
  refine bv1 ?_;obtain⟨p,v,hp,hb,hown,hne,hF,hFk⟩:=m1;have hlt:=(azt hb).2.2.2.2;have hcl:∀ k,k<w'.heap.size→C.own k=some i→(C.turn w' i false).own k=some i:=fun k hk hor=>by
   show(if k<C.w.heap.size then C.own k else if false=true∧k<w'.heap.size then some i else none)=some i
   rw[if_pos (by omega)];exact hor
  refine⟨p,v,hp,hb,hown,hne,hcl _ hlt hF,fun k hk=>hcl k ?_ (hFk k hk)⟩;rcases hown.2 with⟨rfl,_⟩|⟨g,cap,cur,fz,rfl,_,h3,_⟩
  ·simp[Value.ownBlock]at hk
  ·simp only[Value.ownBlock,Zb]at hk;subst hk;exact(ZX.1 h3).1
 obtain⟨i1,s1⟩:=aqp (b':=lwt l) false hI hi m2.os m2.tape m2.output m2.size (fun g hg hne=>m2.block g hg hne) (fun _=>hrep);exact⟨_,_,.str l,_,rfl,rfl,i1,s1,rep_str.2 rfl,rfl,rfl⟩
theorem aki{P:Program}{G:World→Prop}{ops:List AOper}{Q:AExit→Ts→Hp→Prop}{ts:Ts}{h:Hp}(m:Nat)(hb:(seqB m ops&&chainB (closeOps ops) (actsF m 0 (closeOps ops)))=true)(hp:aseq P G m 0 (flagsOf m ops) ops [] [] (Q .normal) ts h):awp P G (.reg true ops) Q ts h:=
 bjz m (Bool.and_eq_true_iff.1 hb).1 hp
theorem evp{A F:Prop}(f:F)(h:F→A:=by intro f;simp only[f]<;>with_reducible rfl):A:=h f
theorem ev0{A F:Prop}(f:F)(h:F→A:=by intro f;simp only[aqh,az4,az6,aj1,aj7,az5,axb,axa,aq9,azj,az8,astep,bop,uop,loadA,storeA,appA,ssliceA,eqA,eqCells,fillA,rowsA,setCells,A.cells,A.one,A.data,azy,ZE,Yo,Z0,Zx,Yb,ZO,YB,YF,YO,Z3,Yq,ZH,Yn,ZQ,ZK,ZN,ZG,ZP,avx,av0,ajq,av5,av3,awe,awd,akm,akt,aku,akz,Zh,ZA,Zi,Zl,Zr,Yc,Yw,Yx,ZU,Z6,Yl,YY,Yk,Za,Ym,Nat.reduceAdd,Nat.reduceSub,Nat.reduceMul,Nat.reduceLeDiff,Nat.reduceEqDiff,Nat.reduceBEq,Yd,YG,Int.reduceBEq,Int.reduceBNe,Int.reduceLT,Int.reduceLE,Int.reduceEq,Int.le_refl,Zaq,if_true,if_false,reduceIte,ite_true,ite_false,true_and,and_true,ne_eq,Yi,Yu,Zk,reduceCtorEq,and_self,Yt,Yh,Zf,ZR,ZM,and_self,decide_true,decide_false,Y2,Zah,Bool.or_true,Y8,YT,Ys,Y6,Bool.not_not,aye,bqx,bx3,cz5,bzc,ay0,rowsR,YP,List.flatten_nil,mgetA,msetA,mdelA,mclrA,mlenA,mgetV,Zaj,Zaf,f]<;>with_reducible rfl):A:=h f
theorem dz6{A F:Prop}(f:F)(h:F→A:=by intro f;simp only[aqh,az4,az6,aj1,aj7,az5,axb,axa,aq9,azj,az8,astep,bop,uop,loadA,storeA,appA,ssliceA,eqA,eqCells,fillA,rowsA,setCells,A.cells,A.one,A.data,azy,ZE,Yo,Z0,Zx,Yb,ZO,YB,YF,YO,Z3,Yq,ZH,Yn,ZQ,ZK,ZN,ZG,ZP,avx,av0,ajq,av5,av3,awe,awd,akm,akt,aku,akz,Zh,ZA,Zi,Zl,Zr,Yc,Yw,Yx,ZU,Z6,Yl,YY,Yk,Za,Ym,Nat.reduceAdd,Nat.reduceSub,Nat.reduceMul,Nat.reduceLeDiff,Nat.reduceEqDiff,Nat.reduceBEq,Yd,YG,Int.reduceBEq,Int.reduceBNe,Int.reduceLT,Int.reduceLE,Int.reduceEq,Int.le_refl,Zaq,if_true,if_false,reduceIte,ite_true,ite_false,true_and,and_true,ne_eq,Yi,Yu,Zk,reduceCtorEq,and_self,Yt,Yh,Zf,ZR,ZM,and_self,decide_true,decide_false,Y2,Zah,Bool.or_true,Y8,YT,Ys,Y6,Bool.not_not,aye,bqx,bx3,cz5,bzc,ay0,rowsR,YP,List.flatten_nil,mgetA,msetA,mdelA,mclrA,mlenA,mgetV,Zaj,Zaf,f];first|with_reducible exact rfl|with_reducible exact(aye _).symm):A:=h f
theorem eu0{A F:Prop}(f:F)(h:F→A:=by intro f;simp only[aqh,az4,az6,aj1,aj7,az5,axb,axa,aq9,azj,az8,astep,bop,uop,loadA,storeA,appA,ssliceA,eqA,eqCells,fillA,rowsA,setCells,A.cells,A.one,A.data,azy,ZE,Yo,Z0,Zx,Yb,ZO,YB,YF,YO,Z3,Yq,ZH,Yn,ZQ,ZK,ZN,ZG,ZP,avx,av0,ajq,av5,av3,awe,awd,akm,akt,aku,akz,Zh,ZA,Zi,Zl,Zr,Yc,Yw,Yx,ZU,Z6,Yl,YY,Yk,Za,Ym,Nat.reduceAdd,Nat.reduceSub,Nat.reduceMul,Nat.reduceLeDiff,Nat.reduceEqDiff,Nat.reduceBEq,Yd,YG,Int.reduceBEq,Int.reduceBNe,Int.reduceLT,Int.reduceLE,Int.reduceEq,Int.le_refl,Zaq,if_true,if_false,reduceIte,ite_true,ite_false,true_and,and_true,ne_eq,Yi,Yu,Zk,reduceCtorEq,and_self,Yt,Yh,Zf,ZR,ZM,and_self,decide_true,decide_false,Y2,Zah,Bool.or_true,Y8,YT,Ys,Y6,Bool.not_not,aye,bqx,bx3,cz5,bzc,ay0,rowsR,YP,List.flatten_nil,mgetA,msetA,mdelA,mclrA,mlenA,mgetV,Zaj,Zaf,f];rw[if_pos (by first|omega|(refine⟨?_,?_⟩<;>omega)|(simp only[true_and,and_true];omega))];with_reducible rfl):A:=h f
theorem azq{A F:Prop}(f:F)(h:F→A:=by intro f;simp only[aqh,az4,az6,aj1,aj7,az5,axb,axa,aq9,azj,az8,astep,bop,uop,loadA,storeA,appA,ssliceA,eqA,eqCells,fillA,rowsA,setCells,A.cells,A.one,A.data,azy,ZE,Yo,Z0,Zx,Yb,ZO,YB,YF,YO,Z3,Yq,ZH,Yn,ZQ,ZK,ZN,ZG,ZP,avx,av0,ajq,av5,av3,awe,awd,akm,akt,aku,akz,Zh,ZA,Zi,Zl,Zr,Yc,Yw,Yx,ZU,Z6,Yl,YY,Yk,Za,Ym,Nat.reduceAdd,Nat.reduceSub,Nat.reduceMul,Nat.reduceLeDiff,Nat.reduceEqDiff,Nat.reduceBEq,Yd,YG,Int.reduceBEq,Int.reduceBNe,Int.reduceLT,Int.reduceLE,Int.reduceEq,Int.le_refl,Zaq,if_true,if_false,reduceIte,ite_true,ite_false,true_and,and_true,ne_eq,Yi,Yu,Zk,reduceCtorEq,and_self,Yt,Yh,Zf,ZR,ZM,and_self,decide_true,decide_false,Y2,Zah,Bool.or_true,Y8,YT,Ys,Y6,Bool.not_not,aye,bqx,bx3,cz5,bzc,ay0,rowsR,YP,List.flatten_nil,mgetA,msetA,mdelA,mclrA,mlenA,mgetV,Zaj,Zaf,f,Int.natCast_add,Int.natCast_one]<;>trivial):A:=h f
theorem cj2{A F:Prop}(f:F)(h:F→A:=by intro f;simp only[aqh,az4,az6,aj1,aj7,az5,axb,axa,aq9,azj,az8,astep,bop,uop,loadA,storeA,appA,ssliceA,eqA,eqCells,fillA,rowsA,setCells,A.cells,A.one,A.data,azy,ZE,Yo,Z0,Zx,Yb,ZO,YB,YF,YO,Z3,Yq,ZH,Yn,ZQ,ZK,ZN,ZG,ZP,avx,av0,ajq,av5,av3,awe,awd,akm,akt,aku,akz,Zh,ZA,Zi,Zl,Zr,Yc,Yw,Yx,ZU,Z6,Yl,YY,Yk,Za,Ym,Nat.reduceAdd,Nat.reduceSub,Nat.reduceMul,Nat.reduceLeDiff,Nat.reduceEqDiff,Nat.reduceBEq,Yd,YG,Int.reduceBEq,Int.reduceBNe,Int.reduceLT,Int.reduceLE,Int.reduceEq,Int.le_refl,Zaq,if_true,if_false,reduceIte,ite_true,ite_false,true_and,and_true,ne_eq,Yi,Yu,Zk,reduceCtorEq,and_self,Yt,Yh,Zf,ZR,ZM,and_self,decide_true,decide_false,Y2,Zah,Bool.or_true,Y8,YT,Ys,Y6,Bool.not_not,aye,bqx,bx3,cz5,bzc,ay0,rowsR,YP,List.flatten_nil,mgetA,msetA,mdelA,mclrA,mlenA,mgetV,Zaj,Zaf,forH,pastN,obsP,obsD,obsN,memN,Ys,YT,Y8,Bool.or_true,true_or,or_true,false_or,or_false,f]<;>exact ti):A:=h f
theorem go0{A B F:Prop}(f:F)(k:B)(h:F→B→A:=by intro f k;(repeat (first|with_reducible refine bkd ?_|with_reducible refine dzn ?_|with_reducible refine ckd ?_|with_reducible refine cyd ?_|with_reducible refine cwi ?_|with_reducible refine bvx ?_|with_reducible refine bjd ?_|with_reducible refine go_ret ?_|with_reducible refine cyl ?_|with_reducible refine cyw ?_|with_reducible refine ckw ?_|with_reducible refine cwy ?_|with_reducible refine cj8 ?_|((with_reducible refine cvi ?_ ?_);exact rfl)|with_reducible refine cko ?_|((with_reducible apply byi);exact rfl;exact ev0 f)|((with_reducible apply byi);exact rfl;exact eu0 f)|((with_reducible apply cwx);exact rfl;exact ev0 f)|((with_reducible apply cwx);exact rfl;exact eu0 f)|((with_reducible refine cvv ?_ ?_);exact ev0 f)|((with_reducible refine go_skip ?_ ?_);exact ev0 f)|((with_reducible refine cja ?_ ?_);exact ev0 f)|((with_reducible refine cyu ?_ ?_);exact ev0 f)|((with_reducible apply cv4);exact ev0 f;exact rfl;exact ev0 f)|((with_reducible apply cv4);exact ev0 f;exact rfl;exact eu0 f)|((with_reducible apply cv9);exact ev0 f;exact rfl;exact ev0 f)|((with_reducible apply cv9);exact ev0 f;exact rfl;exact eu0 f)|((with_reducible refine cxz ?_ ?_);exact ev0 f)|((with_reducible refine cvu ?_ ?_);exact ev0 f)|((with_reducible apply cj5);exact ev0 f)|((with_reducible apply cxd);exact ev0 f)));exact k):A:=h f k
theorem gc0{A B F:Prop}(f:F)(k:B)(h:F→B→A:=by intro f k;first|((with_reducible apply go_call);exact ev0 f;exact k)|((with_reducible apply cjp);exact ev0 f;exact ev0 f;exact k)|((with_reducible apply cvb);exact ev0 f;exact rfl;kernel_rfl;exact ev0 f;exact k)):A:=h f k
theorem azb{A B F:Prop}(f:F)(k:B)(h:F→B→A:=by intro f k;(repeat (first|with_reducible refine bkd ?_|with_reducible refine bjr ?_|with_reducible refine cv6 ?_|with_reducible refine cyd ?_|with_reducible refine cwi ?_|with_reducible refine bvx ?_|with_reducible refine bjd ?_|with_reducible refine go_ret ?_|with_reducible refine cyl ?_|with_reducible refine cyw ?_|with_reducible refine ckw ?_|with_reducible refine cwy ?_|with_reducible refine cj8 ?_|((with_reducible refine cvi ?_ ?_);exact rfl)|((with_reducible apply cqg);exact rfl;exact ev0 f;exact ev0 f;(first|exact evp f|exact ev0 f|exact eu0 f))|((with_reducible apply bq9);exact rfl;exact rfl;exact ev0 f)|((with_reducible apply bq9);exact rfl;exact rfl;exact eu0 f)|((with_reducible apply bqi);exact rfl;exact ev0 f)|((with_reducible apply bvq);exact rfl;exact ev0 f)|((with_reducible apply bv6);exact ev0 f)|((with_reducible apply czc);exact ev0 f;exact ev0 f;(first|exact evp f|exact ev0 f|exact eu0 f);(first|exact ti|exact cj2 f))|((with_reducible apply cxr);exact rfl;decide +kernel;exact rfl;exact ev0 f)|((with_reducible apply bqk);exact rfl;exact rfl;exact ev0 f;(first|exact ti|exact cj2 f))|((with_reducible apply cxr);exact rfl;decide +kernel;exact rfl;exact eu0 f)|((with_reducible apply bqk);exact rfl;exact rfl;exact eu0 f;(first|exact ti|exact cj2 f))|((with_reducible apply by6);exact rfl;decide +kernel;exact rfl;exact ev0 f;(first|exact ti|exact cj2 f))|((with_reducible apply bv3);decide +kernel;exact rfl;exact ev0 f)|((with_reducible apply cz4);decide +kernel;exact rfl;exact ev0 f)|((with_reducible apply cqm);exact ev0 f)|((with_reducible apply bvn);exact ev0 f;exact rfl;kernel_rfl;exact ev0 f)|((with_reducible apply bvv);exact ev0 f;exact rfl;exact rfl;kernel_rfl;exact ev0 f)|((with_reducible refine cxz ?_ ?_);exact ev0 f)|((with_reducible refine cvu ?_ ?_);exact ev0 f)|((with_reducible apply cj5);exact ev0 f)|((with_reducible apply cxd);exact ev0 f)|((with_reducible refine aki 1 ?_ ?_);decide +kernel)|((with_reducible refine aki 2 ?_ ?_);decide +kernel)));exact k):A:=h f k
theorem dqk{P:Program}{G:World→Prop}{c:Opd}{b:Bool}{x y:ACode}{Q:AExit→Ts→Hp→Prop}{ts:Ts}{h:Hp}{F:Prop}(f:F)(k1:b=true→awp P G x Q ts h)(k2:b=false→awp P G y Q ts h)(hc:F→evX ts c=.bool b:=by intro f;exact ev0 f):awp P G (.cond c x y) Q ts h:=ckz (hc f) k1 k2
theorem V_A:∀ v:V,V.A v=.agg v.cells:=fun _=>rfl
theorem azc:∀ k n s is ks,V.cells (.mk k n s is ks)=[.int .i64 k,.int .i64 n,.str s,.sl 5 .no (V.cellss is),.sl 1 .no (strsA ks)]:=fun k n s is ks=>by rw[V.cells]
theorem cy2:∀(ver:Int) (l:List UInt8),wtr ver l=.opq (fun F g w=>WF F g ver l w) (fun o=>if o=2 then some (.int .i64 ver)else none):=fun _ _=>rfl
theorem use{P:Program}{G:World→Prop}{m i:Nat}{fl:List Bool}{past:List Hp}{obs:Obs}{d:Option Nat}{af:List Nat}{os:List AOper}{K:Ts→Hp→Prop}{ts:Ts}{h:Hp}{f:FuncId}{vs:List A}{h':Hp}{v:A}(hc:ACall P G f vs h fun v' h''=>v'=v∧h''=h')(k:aseq P G m (i+1) fl.tail os (pastN m h past) (obsN m af obs) K (put ts d v) h')(hm:(m=2→h'=h∧fl.headD false=false)∧(m≠2→obsP af obs h'):=by first|exact⟨fun e=>absurd e (by decide),fun _=>ti⟩|exact⟨fun e=>absurd e (by decide),fun _=>cj2 ti⟩|exact⟨fun _=>⟨rfl,by decide +kernel⟩,fun e=>absurd rfl e⟩):CallK P G m i fl f vs h d af os past obs K ts:=rt hc hm k
theorem azd{A B F C:Prop}(f:F)(c:C)(k:B)(h:F→C→B→A:=by intro f c k;(repeat (first|with_reducible refine bkd ?_|with_reducible refine bjr ?_|with_reducible refine cv6 ?_|with_reducible refine cyd ?_|with_reducible refine cwi ?_|with_reducible refine bvx ?_|with_reducible refine bjd ?_|with_reducible refine go_ret ?_|with_reducible refine cyl ?_|with_reducible refine cyw ?_|with_reducible refine ckw ?_|with_reducible refine cwy ?_|with_reducible refine cj8 ?_|((with_reducible refine cvi ?_ ?_);exact rfl)|((with_reducible apply cqg);exact rfl;exact ev0 f;exact ev0 f;(first|exact evp f|exact ev0 f|exact eu0 f))|((with_reducible apply bq9);exact rfl;exact rfl;exact ev0 f)|((with_reducible apply bq9);exact rfl;exact rfl;exact eu0 f)|((with_reducible apply bqi);exact rfl;exact ev0 f)|((with_reducible apply bvq);exact rfl;exact ev0 f)|((with_reducible apply bv6);exact ev0 f)|((with_reducible apply czc);exact ev0 f;exact ev0 f;(first|exact evp f|exact ev0 f|exact eu0 f);(first|exact ti|exact cj2 f))|((with_reducible apply cxr);exact rfl;decide +kernel;exact rfl;exact ev0 f)|((with_reducible apply bqk);exact rfl;exact rfl;exact ev0 f;(first|exact ti|exact cj2 f))|((with_reducible apply cxr);exact rfl;decide +kernel;exact rfl;exact eu0 f)|((with_reducible apply bqk);exact rfl;exact rfl;exact eu0 f;(first|exact ti|exact cj2 f))|((with_reducible apply by6);exact rfl;decide +kernel;exact rfl;exact ev0 f;(first|exact ti|exact cj2 f))|((with_reducible apply bv3);decide +kernel;exact rfl;exact ev0 f)|((with_reducible apply cz4);decide +kernel;exact rfl;exact ev0 f)|((with_reducible apply cqm);exact ev0 f)|((with_reducible apply bvn);exact ev0 f;exact rfl;kernel_rfl;exact ev0 f)|((with_reducible apply bvv);exact ev0 f;exact rfl;exact rfl;kernel_rfl;exact ev0 f)|((with_reducible refine cxz ?_ ?_);exact ev0 f)|((with_reducible refine cvu ?_ ?_);exact ev0 f)|((with_reducible apply cj5);exact ev0 f)|((with_reducible apply cxd);exact ev0 f)|((with_reducible refine aki 1 ?_ ?_);decide +kernel)|((with_reducible refine aki 2 ?_ ?_);decide +kernel)|((with_reducible apply dzw);exact rfl;exact rfl;exact dz6 f;(intro hp;simp only[bzc,ay0,Zx,Z0,Zc,Yv]at hp<;>first|exact ev0 (ai hp f)|(have hq:=hp;simp only[Zq,YW,Zab,ne_eq,ZC,Zar,Zu]at hq;exact ev0 (ai hq (ai hp f)))))|((with_reducible apply dqi);exact rfl;decide +kernel;exact rfl;exact dz6 f;(intro hp;simp only[bzc,ay0,Zx,Z0,Zc,Yv]at hp<;>first|exact ev0 (ai hp f)|(have hq:=hp;simp only[Zq,YW,Zab,ne_eq,ZC,Zar,Zu]at hq;exact ev0 (ai hq (ai hp f)))))|((with_reducible apply cxx);exact rfl;exact dz6 f;(intro hp;simp only[bzc,ay0,Zx,Z0,Zc,Yv]at hp<;>first|exact ev0 (ai hp f)|(have hq:=hp;simp only[Zq,YW,Zab,ne_eq,ZC,Zar,Zu]at hq;exact ev0 (ai hq (ai hp f)))))|((with_reducible apply cvh);decide +kernel;exact dz6 f;(intro hp;simp only[bzc,ay0,Zx,Z0,Zc,Yv]at hp<;>first|exact ev0 (ai hp f)|(have hq:=hp;simp only[Zq,YW,Zab,ne_eq,ZC,Zar,Zu]at hq;exact ev0 (ai hq (ai hp f)))))|refine use (c.1 _) ?_|refine use (c.1 _ _) ?_|refine use c.1 ?_|refine use (c.2.1 _) ?_|refine use (c.2.1 _ _) ?_|refine use c.2.1 ?_|refine use (c.2.2.1 _) ?_|refine use (c.2.2.1 _ _) ?_|refine use c.2.2.1 ?_|refine use (c.2.2.2.1 _) ?_|refine use (c.2.2.2.1 _ _) ?_|refine use c.2.2.2.1 ?_|refine use (c.2.2.2.2.1 _) ?_|refine use (c.2.2.2.2.1 _ _) ?_|refine use c.2.2.2.2.1 ?_|refine use (c.2.2.2.2.2.1 _) ?_|refine use (c.2.2.2.2.2.1 _ _) ?_|refine use c.2.2.2.2.2.1 ?_|refine use (c.2.2.2.2.2.2.1 _) ?_|refine use (c.2.2.2.2.2.2.1 _ _) ?_|refine use c.2.2.2.2.2.2.1 ?_|refine use (c.2.2.2.2.2.2.2.1 _) ?_|refine use (c.2.2.2.2.2.2.2.1 _ _) ?_|refine use c.2.2.2.2.2.2.2.1 ?_|refine use (c.2.2.2.2.2.2.2.2.1 _) ?_|refine use (c.2.2.2.2.2.2.2.2.1 _ _) ?_|refine use c.2.2.2.2.2.2.2.2.1 ?_|refine usew (c.1 _) ?_|refine usew (c.1 _ _) ?_|refine usew c.1 ?_|refine usew (c.2.1 _) ?_|refine usew (c.2.1 _ _) ?_|refine usew c.2.1 ?_|refine usew (c.2.2.1 _) ?_|refine usew (c.2.2.1 _ _) ?_|refine usew c.2.2.1 ?_|refine usew (c.2.2.2.1 _) ?_|refine usew (c.2.2.2.1 _ _) ?_|refine usew c.2.2.2.1 ?_|refine usew (c.2.2.2.2.1 _) ?_|refine usew (c.2.2.2.2.1 _ _) ?_|refine usew c.2.2.2.2.1 ?_|refine usew (c.2.2.2.2.2.1 _) ?_|refine usew (c.2.2.2.2.2.1 _ _) ?_|refine usew c.2.2.2.2.2.1 ?_|refine usew (c.2.2.2.2.2.2.1 _) ?_|refine usew (c.2.2.2.2.2.2.1 _ _) ?_|refine usew c.2.2.2.2.2.2.1 ?_|refine usew (c.2.2.2.2.2.2.2.1 _) ?_|refine usew (c.2.2.2.2.2.2.2.1 _ _) ?_|refine usew c.2.2.2.2.2.2.2.1 ?_|refine usew (c.2.2.2.2.2.2.2.2.1 _) ?_|refine usew (c.2.2.2.2.2.2.2.2.1 _ _) ?_|refine usew c.2.2.2.2.2.2.2.2.1 ?_));exact k):A:=h f c k
theorem azx{A B F C:Prop}(f:F)(c:C)(k:B)(h:F→C→B→A:=by intro f c k;refine azb f ?_;(repeat ((first|refine use (c.1 _) ?_|refine use (c.1 _ _) ?_|refine use c.1 ?_|refine use (c.2.1 _) ?_|refine use (c.2.1 _ _) ?_|refine use c.2.1 ?_|refine use (c.2.2.1 _) ?_|refine use (c.2.2.1 _ _) ?_|refine use c.2.2.1 ?_|refine use (c.2.2.2.1 _) ?_|refine use (c.2.2.2.1 _ _) ?_|refine use c.2.2.2.1 ?_|refine use (c.2.2.2.2.1 _) ?_|refine use (c.2.2.2.2.1 _ _) ?_|refine use c.2.2.2.2.1 ?_|refine use (c.2.2.2.2.2.1 _) ?_|refine use (c.2.2.2.2.2.1 _ _) ?_|refine use c.2.2.2.2.2.1 ?_|refine use (c.2.2.2.2.2.2.1 _) ?_|refine use (c.2.2.2.2.2.2.1 _ _) ?_|refine use c.2.2.2.2.2.2.1 ?_|refine use (c.2.2.2.2.2.2.2.1 _) ?_|refine use (c.2.2.2.2.2.2.2.1 _ _) ?_|refine use c.2.2.2.2.2.2.2.1 ?_|refine use (c.2.2.2.2.2.2.2.2.1 _) ?_|refine use (c.2.2.2.2.2.2.2.2.1 _ _) ?_|refine use c.2.2.2.2.2.2.2.2.1 ?_);refine azb f ?_));exact k):A:=h f c k
theorem evg{A F:Prop}(f:F)(h:F→A:=by intro f;simp only[aqh,az4,az6,aj1,aj7,az5,axb,axa,aq9,azj,az8,astep,bop,uop,loadA,storeA,appA,ssliceA,eqA,eqCells,fillA,rowsA,setCells,A.cells,A.one,A.data,azy,ZE,Yo,Z0,Zx,Yb,ZO,YB,YF,YO,Z3,Yq,ZH,Yn,ZQ,ZK,ZN,ZG,ZP,avx,av0,ajq,av5,av3,awe,awd,akm,akt,aku,akz,Zh,ZA,Zi,Zl,Zr,Yc,Yw,Yx,ZU,Z6,Yl,YY,Yk,Za,Ym,Nat.reduceAdd,Nat.reduceSub,Nat.reduceMul,Nat.reduceLeDiff,Nat.reduceEqDiff,Nat.reduceBEq,Yd,YG,Int.reduceBEq,Int.reduceBNe,Int.reduceLT,Int.reduceLE,Int.reduceEq,Int.le_refl,Zaq,if_true,if_false,reduceIte,ite_true,ite_false,true_and,and_true,ne_eq,Yi,Yu,Zk,reduceCtorEq,and_self,Yt,Yh,Zf,ZR,ZM,and_self,decide_true,decide_false,Y2,Zah,forL,bye,Nat.reduceMod,Zb,ZQ,ZK,f]<;>with_reducible rfl):A:=h f
theorem ing{A F:Prop}(f:F)(h:F→A:=by intro f;simp only[aqh,az4,az6,aj1,aj7,az5,axb,axa,aq9,azj,az8,astep,bop,uop,loadA,storeA,appA,ssliceA,eqA,eqCells,fillA,rowsA,setCells,A.cells,A.one,A.data,azy,ZE,Yo,Z0,Zx,Yb,ZO,YB,YF,YO,Z3,Yq,ZH,Yn,ZQ,ZK,ZN,ZG,ZP,avx,av0,ajq,av5,av3,awe,awd,akm,akt,aku,akz,Zh,ZA,Zi,Zl,Zr,Yc,Yw,Yx,ZU,Z6,Yl,YY,Yk,Za,Ym,Nat.reduceAdd,Nat.reduceSub,Nat.reduceMul,Nat.reduceLeDiff,Nat.reduceEqDiff,Nat.reduceBEq,Yd,YG,Int.reduceBEq,Int.reduceBNe,Int.reduceLT,Int.reduceLE,Int.reduceEq,Int.le_refl,Zaq,if_true,if_false,reduceIte,ite_true,ite_false,true_and,and_true,ne_eq,Yi,Yu,Zk,reduceCtorEq,and_self,Yt,Yh,Zf,ZR,ZM,and_self,decide_true,decide_false,Y2,Zah,forL,bye,Nat.reduceMod,Zb,ZQ,ZK,f]<;>exact ti):A:=h f
theorem rung{A B F:Prop}(f:F)(k:B)(h:F→B→A:=by intro f k;(repeat (first|with_reducible refine dzx ?_|((with_reducible apply dqr);exact rfl;(refine⟨?_,?_⟩);exact evg f;(first|exact ti|exact ing f))));exact k):A:=h f k
theorem Val.lefts_neg:∀(l:List V) (n lv:Int),n<0→Val.lefts l n lv=n
 |[],n,lv,h=>by simp[Val.lefts]
 |v::l,n,lv,h=>by rw[Val.lefts,if_neg (by omega)]
theorem Val.left_le:∀(v:V) (nd lv:Int),0≤nd→Val.left v nd lv≤nd∧-1≤Val.left v nd lv:=by
 refine V.induct fun k n s is ks ih=>?_
 intro nd lv hnd;rw[Val.left];split
 ·omega
 ·next h =>
  have key:∀(l:List V),(∀ x∈l,x∈is)→∀ m:Int,-1≤m→Val.lefts l m (lv-1)≤max m (-1)∧-1≤Val.lefts l m (lv-1):=by
   intro l;induction l with
   |nil=>intro _ m hm;rw[Val.lefts];omega
   |cons v l ihl =>
    intro hl m hm;rw[Val.lefts];split
    ·next h0 =>
     have h1:=ih v (hl v (by simp)) m (lv-1) h0;have h2:=ihl (fun x hx=>hl x (by simp[hx])) _ h1.2;omega
    ·omega
  have:=key is (fun x hx=>hx) (nd-1) (by omega);omega
theorem dzq:∀(v:V) (nd lv:Int),-1000≤nd→nd≤1000000→-1000≤lv→lv≤1000000→v.lens→AC 44 [v.A,.int .i64 nd,.int .i64 lv] ⟨[],[]⟩ fun r _=>r=.int .i64 (Val.left v nd lv):=by
 refine V.induct fun k n s is ks ih=>?_
 intro nd lv hn0 hn1 hl0 hl1 hlen;refine fo ?_;by_cases h1:nd<1
 ·refine go0 (ai @V_A (ai @azc h1)) ?_;exact⟨_,le_refl _,by simp[azj,Val.left,h1]⟩
 by_cases h2:lv<1
 ·refine go0 (ai @V_A (ai @azc (ai h1 h2))) ?_;exact⟨_,le_refl _,by simp[azj,Val.left,h2]⟩
 have e1:IntKind.i64.wrap (nd-1)=nd-1:=wrap64 (by omega) (by omega);have e2:IntKind.i64.wrap (lv-1)=lv-1:=wrap64 (by omega) (by omega);refine go0 (ai @V_A (ai @azc (ai h1 (ai h2 e1)))) ?_;obtain⟨hil,_,_,hks⟩:=V.lens_mk hlen;have hL:Val.left (.mk k n s is ks) nd lv=Val.lefts is (nd-1) (lv-1):=by rw[Val.left,if_neg (by omega)]
 have hwrap:=fun i (hi:i<is.length)=>wrap64 (x:=(i:Int)+1) (by omega) (by omega)
 refine azf (fun m ts h=>h=⟨[.cells 41 (V.mk k n s is ks).cells],[]⟩∧∃(i:Nat) (q:Int),m=is.length-i∧i≤is.length∧-1≤q∧q≤nd∧Val.lefts (is.drop i) q (lv-1)=Val.lefts is (nd-1) (lv-1)∧ts 2=.int .i64 lv∧ts 3=.ptr 0 0∧ts 7=.int .i64 q∧ts 8=.int .i64 i) is.length ?_ ?_
 ·refine⟨rfl,0,nd-1,rfl,Zy _,by omega,by omega,rfl,?_⟩;(exact azq ti)
 ·rintro m ts h ⟨rfl,i,q,rfl,hi,hq0,hq1,heq,t2,t3,t7,t8⟩;by_cases hlt:i<is.length
  ·have hlt':(i:Int)<((V.cellss is).length:Int):=by rw[V.cellss_length];omega
   by_cases hq:q≥0
   ·obtain⟨⟨k',n',s',is',ks'⟩,hv⟩:=Ex (is[i]);have ee:=V.cellss_get is i hlt;have ei:=hwrap i hlt;have hcall:=ih is[i] (Zp hlt) q (lv-1) (by omega) (by omega) (by omega) (by omega) (hks _ (Zp hlt));rw[hv]at ee hcall;refine go0 (ai @azc (ai t2 (ai t3 (ai t7 (ai t8 (ai hlt' (ai hq (ai ee (ai e2 ei))))))))) ?_;refine gc0 (ai @azc (ai t2 (ai t3 (ai t7 (ai t8 e2))))) ?_;refine(pcall hcall rfl (by simp[V.A,V.cells,A.pure,A.data]) _).mono ?_;rintro v h' ⟨rfl,rfl⟩;refine go0 (ai @azc (ai t2 (ai t3 (ai t7 (ai t8 (ai hlt' (ai hq (ai ee (ai e2 ei))))))))) ?_;have hll:=Val.left_le (.mk k' n' s' is' ks') q (lv-1) hq;refine⟨is.length-(i+1),by omega,rfl,i+1,Val.left (.mk k' n' s' is' ks') q (lv-1),rfl,by omega,hll.2,by omega,?_,?_⟩
    ·rw[←heq,Zo hlt,hv,Val.lefts,if_pos hq]
    ·(exact azq (ai t2 (ai t3 (ai t7 (ai t8 ei)))))
   ·refine go0 (ai @azc (ai t2 (ai t3 (ai t7 (ai t8 (ai hlt' hq)))))) ?_;refine⟨_,le_refl _,?_⟩;rw[azj,hL,←heq,Val.lefts_neg _ _ _ (by omega)]
  ·have hlt':¬(i:Int)<((V.cellss is).length:Int):=by rw[V.cellss_length];omega
   refine go0 (ai @azc (ai t2 (ai t3 (ai t7 (ai t8 hlt'))))) ?_;refine⟨_,le_refl _,?_⟩;rw[azj,hL,←heq,Zw (by omega),Val.lefts]
theorem cjm(lv b:Nat):Val.chks [] lv b=(0,b):=by rw[Val.chks]
theorem by7(v:V)(l:List V)(lv b:Nat):Val.chks (v::l) lv b=if(Val.chk v lv b).1≠0 then Val.chk v lv b else Val.chks l lv (Val.chk v lv b).2:=by rw[Val.chks]
theorem cw3(k n:Int)(s:List UInt8)(is:List V)(ks:List (List UInt8))(hlen:(V.mk k n s is ks).lens)(h:Hp):AT 171 [(V.mk k n s is ks).A] h (.int .i64 (Val.nodeZ (.mk k n s is ks))):=by
 refine pcall ?_ rfl (by simp[V.A,V.cells,A.pure,A.data]) h;obtain⟨hil,hkl,_,_⟩:=V.lens_mk hlen;refine fo ?_;refine go0 (ai @V_A @azc) ?_;refine gc0 (ai @V_A @azc) ?_;refine(bva k n s .no .no 5 1 _ _ _).mono ?_;rintro v h' ⟨rfl,rfl⟩;rw[V.cellss_length,aze];have hZ:Val.nodeZ (.mk k n s is ks)=if Val.shapedB k n s is.length ks.length=false then 1 else if k=2∧¬(-9007199254740992≤n∧n≤9007199254740992)then 5 else if Val.textZ s≠0 then Val.textZ s else Val.keysZ none ks:=by rw[Val.nodeZ]
 rcases azl (Val.shapedB k n s is.length ks.length)with hs|hs
 ·rw[hs];rw[if_neg (by rw[hs];simp)]at hZ;have hc:(k=2∧¬(-9007199254740992≤n∧n≤9007199254740992))∨(k=2∧(-9007199254740992≤n∧n≤9007199254740992))∨k≠2:=by
   by_cases hk:k=2
   ·by_cases hn:-9007199254740992≤n∧n≤9007199254740992
    ·exact .inr (.inl ⟨hk,hn⟩)
    ·exact .inl ⟨hk,hn⟩
   ·exact .inr (.inr hk)
  rcases hc with⟨hk,hn⟩|⟨hk,hn⟩|hk
  ·have hk':(k==2)=true:=by simp[hk]
   rw[if_pos ⟨hk,hn⟩]at hZ;(refine AX.go0 (AX.ai @V_A (AX.ai @azc hk')) ?_);(refine AX.gc0 (AX.ai @V_A (AX.ai @azc hk')) ?_);refine(bxj n _).mono ?_;rintro v h' ⟨rfl, rfl⟩;(refine AX.go0 (AX.ai @V_A (AX.ai @azc (AX.ai hn hk'))) ?_);exact⟨_, le_refl _, by rw[azj, hZ]⟩
  all_goals first
   | (have hn' := hn.1
      have hk' : (k == 2) = true := by simp [hk]
      rw [if_neg (by simp [hn])] at hZ;(refine AX.go0 (AX.ai @V_A (AX.ai @azc hk')) ?_);(refine AX.gc0 (AX.ai @V_A (AX.ai @azc hk')) ?_);refine (bxj n _).mono ?_;rintro v h' ⟨rfl, rfl⟩
      (refine AX.go0 (AX.ai @V_A (AX.ai @azc (AX.ai hn hk'))) ?_))
   | (have hk' : (k == 2) = false := by simp [hk]
      rw [if_neg (by simp [hk])] at hZ
      (refine AX.go0 (AX.ai @V_A (AX.ai @azc hk')) ?_))
  all_goals
   refine gc0 (ai @V_A @azc) ?_;refine(cqa s _).mono ?_;rintro v h' ⟨rfl,rfl⟩;by_cases ht:Val.textZ s=0
   ·rw[if_neg (by simp[ht])]at hZ;rw[ht];refine go0 (ai @V_A @azc) ?_;refine azf (fun m ts h=>h=⟨[.cells 41 (V.mk k n s is ks).cells],[]⟩∧∃(i:Nat),m=ks.length-i∧i≤ks.length∧Val.keysZ (if i=0 then none else ks[i-1]?) (ks.drop i)=Val.keysZ none ks∧ts 1=.ptr 0 0∧ts 4=.int .i64 i) ks.length ?_ ?_
    ·refine⟨rfl,0,rfl,Zy _,rfl,?_⟩;(exact azq ti)
    ·rintro m ts h ⟨rfl,i,rfl,hi,heq,t1,t4⟩;by_cases hlt:i<ks.length
     ·have hlt':(i:Int)<((strsA ks).length:Int):=by rw[aze];omega
      have ee:=azv ks i hlt;have ei:IntKind.i64.wrap ((i:Int)+1)=(i:Int)+1:=wrap64 (by omega) (by omega);rw[Zo hlt,Val.keysZ]at heq;refine go0 (ai @azc (ai t1 (ai t4 (ai hlt' (ai ee ei))))) ?_;refine gc0 (ai @azc (ai t1 (ai t4 (ai hlt' (ai ee ei))))) ?_;refine(cqa ks[i] _).mono ?_;rintro v h' ⟨rfl,rfl⟩;by_cases ht2:Val.textZ ks[i]=0
      ·rw[if_neg (by simp[ht2])]at heq;rw[ht2];refine go0 (ai @azc (ai t1 (ai t4 (ai hlt' (ai ee ei))))) ?_;refine awq (by decide) ?_;cases i with
       |zero =>
        have h0:¬((0:Nat):Int)>0:=by omega
        simp only[Nat.reduceAdd,if_true,Val.badB,Zk,if_false]at heq;refine go0 (ai @azc (ai t1 (ai t4 (ai hlt' (ai ee (ai ei h0)))))) ?_;refine⟨ks.length-1,by omega,rfl,1,rfl,by omega,?_,?_⟩
        ·rw[←heq];simp[hlt]
        ·(exact azq (ai t1 (ai t4 ei)))
       |succ j =>
        have h0:((j+1:Nat):Int)>0:=by omega
        have ej:IntKind.i64.wrap (((j+1:Nat):Int)-1)=(j:Int):=by rw[wrap64 (by omega) (by omega)];omega
        have ee2:=azv ks j (by omega);have hj':(j:Int)<((strsA ks).length:Int):=by omega
        have hkj:ks[j+1-1]?=some (ks[j]'(by omega)):=Zm (by omega);rw[show(if j+1=0 then none else ks[j+1-1]?)=some (ks[j]'(by omega))from by rw[if_neg (by omega)];exact hkj]at heq;simp only[Val.badB]at heq;rcases azl (Op.bytesLess (ks[j]'(by omega)) ks[j+1])with hb|hb
        ·simp only[hb,ZR,ZM,Zk,if_false,if_true]at heq;refine go0 (ai @azc (ai t1 (ai t4 (ai hlt' (ai ee (ai ee2 (ai ei (ai ej (ai h0 (ai hj' hb)))))))))) ?_;refine⟨ks.length-(j+1+1),by omega,rfl,j+1+1,rfl,by omega,?_,?_⟩
         ·rw[←heq];simp[hlt]
         ·(exact azq (ai t1 (ai t4 ei)))
        ·simp only[hb,ZR,ZM,Zk,if_false,if_true]at heq;refine go0 (ai @azc (ai t1 (ai t4 (ai hlt' (ai ee (ai ee2 (ai ei (ai ej (ai h0 (ai hj' hb)))))))))) ?_;exact⟨_,le_refl _,by rw[azj,hZ,←heq]⟩
      ·have ht3:(Val.textZ ks[i]!=0)=true:=by simp[ht2]
       rw[if_pos (by simp[ht2])]at heq;refine go0 (ai @azc (ai t1 (ai t4 (ai hlt' (ai ee (ai ei ht3)))))) ?_;exact⟨_,le_refl _,by rw[azj,hZ,←heq]⟩
     ·have hlt':¬(i:Int)<((strsA ks).length:Int):=by rw[aze];omega
      refine go0 (ai @azc (ai t1 (ai t4 hlt'))) ?_;refine⟨_,le_refl _,?_⟩;rw[azj,hZ,←heq,Zw (by omega)];cases(if i=0 then none else ks[i-1]?)<;>rfl
   ·have ht':(Val.textZ s !=0)=true:=by simp[ht]
    rw[if_pos (by simp[ht])]at hZ;refine go0 (ai @V_A (ai @azc ht')) ?_;exact⟨_,le_refl _,by rw[azj,hZ]⟩
 ·rw[hs];refine go0 (ai @V_A @azc) ?_;exact⟨_,le_refl _,by rw[azj,hZ,if_pos hs]⟩
theorem ckt:∀(v:V) (lv b:Nat),v.lens→AC 148 [v.A,.int .i64 lv,.int .i64 b] ⟨[],[]⟩ fun r _=>r=.tup [.int .i64 (Val.chk v lv b).1,.int .i64 (Val.chk v lv b).2]:=by
 refine V.induct fun k n s is ks ih=>?_
 intro lv b hlen;refine fo ?_;obtain⟨hil,hkl,_,hmem⟩:=V.lens_mk hlen;by_cases h1:(lv:Int)>32
 ·refine go0 (ai @V_A (ai @azc h1)) ?_;exact⟨_,le_refl _,by rw[az8,Val.chk,if_pos (by omega)]⟩
 by_cases h2:(b:Int)≥4096
 ·refine go0 (ai @V_A (ai @azc (ai h1 h2))) ?_;exact⟨_,le_refl _,by rw[az8,Val.chk,if_neg (by omega),if_pos (by omega)]⟩
 refine go0 (ai @V_A (ai @azc (ai h1 h2))) ?_;refine gc0 (ai @V_A (ai @azc (ai h1 h2))) ?_;refine(cw3 k n s is ks hlen _).mono ?_;rintro v h' ⟨rfl,rfl⟩;by_cases hn:Val.nodeZ (.mk k n s is ks)=0
 ·rw[hn];have eb:IntKind.i64.wrap ((b:Int)+1)=((b+1:Nat):Int):=by rw[wrap64 (by omega) (by omega)];omega
  have elv:IntKind.i64.wrap ((lv:Int)+1)=((lv+1:Nat):Int):=by rw[wrap64 (by omega) (by omega)];omega
  refine go0 (ai @V_A (ai @azc (ai h1 (ai h2 eb)))) ?_;have hC:Val.chk (.mk k n s is ks) lv b=Val.chks is (lv+1) (b+1):=by rw[Val.chk,if_neg (by omega),if_neg (by omega),if_neg (by simp[hn])]
  refine azf (fun m ts h=>h=⟨[.cells 41 (V.mk k n s is ks).cells],[]⟩∧∃(i q:Nat),m=is.length-i∧i≤is.length∧Val.chks (is.drop i) (lv+1) q=Val.chks is (lv+1) (b+1)∧ts 1=.int .i64 lv∧ts 3=.ptr 0 0∧ts 9=.int .i64 q∧ts 10=.int .i64 i) is.length ?_ ?_
  ·refine⟨rfl,0,b+1,rfl,Zy _,rfl,?_⟩;(exact azq ti)
  ·rintro m ts h ⟨rfl,i,q,rfl,hi,heq,t1,t3,t9,t10⟩;by_cases hlt:i<is.length
   ·have hlt':(i:Int)<((V.cellss is).length:Int):=by rw[V.cellss_length];omega
    have ei:IntKind.i64.wrap ((i:Int)+1)=(i:Int)+1:=wrap64 (by omega) (by omega);have ee:=V.cellss_get is i hlt;have hcall:=ih is[i] (Zp hlt) (lv+1) q (hmem _ (Zp hlt));rw[Zo hlt,by7]at heq;obtain⟨⟨k',n',s',is',ks'⟩,hv⟩:=Ex (is[i]);rw[hv]at ee hcall heq;refine go0 (ai @azc (ai t1 (ai t3 (ai t9 (ai t10 (ai hlt' (ai ee (ai elv ei)))))))) ?_;refine gc0 (ai @azc (ai t1 (ai t3 (ai t9 (ai t10 elv))))) ?_;refine(pcall hcall rfl (by simp[V.A,V.cells,A.pure,A.data]) _).mono ?_;rintro v h' ⟨rfl,rfl⟩;by_cases hz:(Val.chk (.mk k' n' s' is' ks') (lv+1) q).1=0
    ·rw[if_neg (by simp[hz])]at heq;rw[hz];refine go0 (ai @azc (ai t1 (ai t3 (ai t9 (ai t10 (ai hlt' (ai ee (ai elv ei)))))))) ?_;refine⟨is.length-(i+1),by omega,rfl,i+1,_,rfl,by omega,heq,?_⟩;(exact azq (ai t1 (ai t3 (ai t9 (ai t10 ei)))))
    ·have hz':((Val.chk (.mk k' n' s' is' ks') (lv+1) q).1 !=0)=true:=by simp[hz]
     rw[if_pos (by simp[hz])]at heq;refine go0 (ai @azc (ai t1 (ai t3 (ai t9 (ai t10 (ai hlt' (ai ee (ai elv (ai ei hz'))))))))) ?_;exact⟨_,le_refl _,by rw[az8,hC,←heq]⟩
   ·have hlt':¬(i:Int)<((V.cellss is).length:Int):=by rw[V.cellss_length];omega
    refine go0 (ai @azc (ai t1 (ai t3 (ai t9 (ai t10 hlt'))))) ?_;refine⟨_,le_refl _,?_⟩;rw[az8,hC,←heq,Zw (by omega),cjm]
 ·have hn':(Val.nodeZ (.mk k n s is ks)!=0)=true:=by simp[hn]
  refine go0 (ai @V_A (ai @azc (ai h1 (ai h2 hn')))) ?_;exact⟨_,le_refl _,by rw[az8,Val.chk,if_neg (by omega),if_neg (by omega),if_pos (by simp[hn])]⟩
theorem bzz(v:V)(hlen:v.lens)(h:Hp):AT 113 [v.A] h (.int .i64 (Val.checkZ v)):=by
 have ht:AC 148 [v.A,.int .i64 1,.int .i64 0] ⟨[],[]⟩ fun r _=>r=.tup [.int .i64 (Val.chk v 1 0).1,.int .i64 (Val.chk v 1 0).2]:=ckt v 1 0 hlen
 obtain⟨k,n,s,is,ks⟩:=v;refine pcall ?_ rfl (by simp[V.A,V.cells,A.pure,A.data]) h;refine fo ?_;refine go0 (ai @V_A @azc) ?_;refine gc0 (ai @V_A @azc) ?_;refine(pcall ht rfl (by simp[V.A,V.cells,A.pure,A.data]) _).mono ?_;rintro v h' ⟨rfl,rfl⟩;refine go0 (ai @V_A @azc) ?_;exact⟨_,le_refl _,rfl⟩
theorem bq4{k n:Int}{s:List UInt8}{is:List V}{ks:List (List UInt8)}(h:Val.shapedB k n s is.length ks.length=true):(k≠3→s=[])∧(k≠5→ks=[]):=by
 unfold Val.shapedB at h;simp only[Zc,ZS,Zq,ZC]at h;obtain⟨⟨⟨⟨_,_⟩,h1⟩,_⟩,h2⟩:=h;refine⟨fun hk=>?_,fun hk=>?_⟩
 ·rcases h1 with h1|h1
  ·exact absurd h1 hk
  ·exact h1
 ·rw[if_neg hk]at h2;exact ZD (by simpa using h2)
theorem cye(k n:Int)(s:List UInt8)(is:List V)(ks:List (List UInt8))(hlen:(V.mk k n s is ks).lens)(h:Hp):AT 121 [(V.mk k n s is ks).A] h (.int .i64 (Val.nodeZ (.mk k n s is ks))):=by
 refine pcall ?_ rfl (by simp[V.A,V.cells,A.pure,A.data]) h;obtain⟨hil,hkl,_,_⟩:=V.lens_mk hlen;refine fo ?_;refine go0 (ai @V_A @azc) ?_;refine gc0 (ai @V_A @azc) ?_;refine(cxl k n s .no .no 5 1 _ _ _).mono ?_;rintro v h' ⟨rfl,rfl⟩;rw[V.cellss_length,aze];rcases azl (Val.shapedB k n s is.length ks.length)with hs|hs
 ·rw[hs];obtain⟨hs3,hs5⟩:=bq4 hs;have hZ:Val.nodeZ (.mk k n s is ks)=if k=2∧¬(-9007199254740992≤n∧n≤9007199254740992)then 5 else if Val.textZ s≠0 then Val.textZ s else Val.keysZ none ks:=by rw[Val.nodeZ,if_neg (by rw[hs];simp)]
  have ht0:Val.textZ []=0:=by decide
  have hk0:Val.keysZ none []=0:=rfl;by_cases h2:k=2
  ·have e2:(k==2)=true:=by simp[h2]
   obtain rfl:s=[]:=hs3 (by omega);obtain rfl:ks=[]:=hs5 (by omega);refine go0 (ai @V_A (ai @azc e2)) ?_;refine gc0 (ai @V_A (ai @azc e2)) ?_;refine(cv0 n _).mono ?_;rintro v h' ⟨rfl,rfl⟩;by_cases hn:-9007199254740992≤n∧n≤9007199254740992
   ·refine go0 (ai @V_A (ai @azc (ai e2 hn))) ?_;exact⟨_,le_refl _,by rw[azj,hZ,if_neg (by simp[hn]),ht0];simp[hk0]⟩
   ·refine go0 (ai @V_A (ai @azc (ai e2 hn))) ?_;exact⟨_,le_refl _,by rw[azj,hZ,if_pos ⟨h2,hn⟩]⟩
  have e2:(k==2)=false:=by simp[h2]
  rw[if_neg (by simp[h2])]at hZ;by_cases h3:k=3
  ·have e3:(k==3)=true:=by simp[h3]
   obtain rfl:ks=[]:=hs5 (by omega);refine go0 (ai @V_A (ai @azc (ai e2 e3))) ?_;refine gc0 (ai @V_A (ai @azc (ai e2 e3))) ?_;refine(bjn s _).mono ?_;rintro v h' ⟨rfl,rfl⟩;refine go0 (ai @V_A (ai @azc (ai e2 e3))) ?_
   exact⟨_,le_refl _,by
    rw[azj,hZ];split
    ·rfl
    ·next h=>rw[hk0];simp at h;rw[h]⟩
  have e3:(k==3)=false:=by simp[h3]
  obtain rfl:s=[]:=hs3 h3;rw[ht0,if_neg (by simp)]at hZ;by_cases h5:k=5
  ·have e5:(k==5)=true:=by simp[h5]
   refine go0 (ai @V_A (ai @azc (ai e2 (ai e3 e5)))) ?_;refine azf (fun m ts h=>h=⟨[.cells 41 (V.mk k n [] is ks).cells],[]⟩∧∃(i:Nat),m=ks.length-i∧i≤ks.length∧Val.keysZ (if i=0 then none else ks[i-1]?) (ks.drop i)=Val.keysZ none ks∧ts 1=.ptr 0 0∧ts 25=.sl 1 .no (strsA ks)∧ts 26=.int .i64 ks.length∧ts 27=.int .i64 i) ks.length ?_ ?_
   ·refine⟨rfl,0,rfl,Zy _,rfl,?_⟩;(exact azq @aze)
   ·rintro m ts h ⟨rfl,i,rfl,hi,heq,t1,t25,t26,t27⟩;by_cases hlt:i<ks.length
    ·have hlt2:(i:Int)<(ks.length:Int):=by omega
     have hlt':(i:Int)<((strsA ks).length:Int):=by rw[aze];omega
     have ee:=azv ks i hlt;have ei:IntKind.i64.wrap ((i:Int)+1)=(i:Int)+1:=wrap64 (by omega) (by omega);rw[Zo hlt,Val.keysZ]at heq;refine go0 (ai @azc (ai t1 (ai t25 (ai t26 (ai t27 (ai hlt' (ai hlt2 (ai ee ei)))))))) ?_;refine gc0 (ai @azc (ai t1 (ai t25 (ai t26 (ai t27 (ai hlt' (ai ee ei))))))) ?_;refine(bjn ks[i] _).mono ?_;rintro v h' ⟨rfl,rfl⟩;by_cases ht2:Val.textZ ks[i]=0
     ·rw[if_neg (by simp[ht2])]at heq;rw[ht2];cases i with
      |zero =>
       have h0:¬((0:Nat):Int)>0:=by omega
       simp only[Nat.reduceAdd,if_true,Val.badB,Zk,if_false]at heq;refine go0 (ai @azc (ai t1 (ai t25 (ai t26 (ai t27 (ai hlt' (ai hlt2 (ai ee (ai ei h0))))))))) ?_;refine⟨ks.length-1,by omega,rfl,1,rfl,by omega,?_,?_⟩
       ·rw[←heq];simp[hlt]
       ·(exact azq (ai t1 (ai t25 (ai t26 (ai t27 ei)))))
      |succ j =>
       have h0:((j+1:Nat):Int)>0:=by omega
       have ej:IntKind.i64.wrap (((j+1:Nat):Int)-1)=(j:Int):=by rw[wrap64 (by omega) (by omega)];omega
       have ee2:=azv ks j (by omega);have hj':(j:Int)<((strsA ks).length:Int):=by omega
       have hkj:ks[j+1-1]?=some (ks[j]'(by omega)):=Zm (by omega);rw[show(if j+1=0 then none else ks[j+1-1]?)=some (ks[j]'(by omega))from by rw[if_neg (by omega)];exact hkj]at heq;simp only[Val.badB,Val.less_total]at heq;rcases azl (Op.bytesLess ks[j+1] (ks[j]'(by omega))||ks[j+1]==(ks[j]'(by omega)))with hb|hb
       ·simp only[hb,ZR,ZM,Zk,if_false,if_true]at heq;refine go0 (ai @azc (ai t1 (ai t25 (ai t26 (ai t27 (ai hlt' (ai hlt2 (ai ee (ai ee2 (ai ei (ai ej (ai h0 (ai hj' hb))))))))))))) ?_;exact⟨_,le_refl _,by rw[azj,hZ,←heq]⟩
       ·simp only[hb,ZR,ZM,Zk,if_false,if_true]at heq;refine go0 (ai @azc (ai t1 (ai t25 (ai t26 (ai t27 (ai hlt' (ai hlt2 (ai ee (ai ee2 (ai ei (ai ej (ai h0 (ai hj' hb))))))))))))) ?_;refine⟨ks.length-(j+1+1),by omega,rfl,j+1+1,rfl,by omega,?_,?_⟩
        ·rw[←heq];simp[hlt]
        ·(exact azq (ai t1 (ai t25 (ai t26 (ai t27 ei)))))
     ·have ht3:(Val.textZ ks[i]!=0)=true:=by simp[ht2]
      rw[if_pos (by simp[ht2])]at heq;refine go0 (ai @azc (ai t1 (ai t25 (ai t26 (ai t27 (ai hlt' (ai hlt2 (ai ee (ai ei ht3))))))))) ?_;exact⟨_,le_refl _,by rw[azj,hZ,←heq]⟩
    ·have hlt2:¬(i:Int)<(ks.length:Int):=by omega
     refine go0 (ai @azc (ai t1 (ai t25 (ai t26 (ai t27 hlt2))))) ?_;refine⟨_,le_refl _,?_⟩;rw[azj,hZ,←heq,Zw (by omega)];cases(if i=0 then none else ks[i-1]?)<;>rfl
  have e5:(k==5)=false:=by simp[h5]
  obtain rfl:ks=[]:=hs5 h5;refine go0 (ai @V_A (ai @azc (ai e2 (ai e3 e5)))) ?_;exact⟨_,le_refl _,by rw[azj,hZ,hk0]⟩
 ·rw[hs];refine go0 (ai @V_A @azc) ?_;exact⟨_,le_refl _,by rw[azj,Val.nodeZ,if_pos hs]⟩
theorem cq3(lv b:Nat):Val.chks [] lv b=(0,b):=by rw[Val.chks]
theorem bwg(v:V)(l:List V)(lv b:Nat):Val.chks (v::l) lv b=if(Val.chk v lv b).1≠0 then Val.chk v lv b else Val.chks l lv (Val.chk v lv b).2:=by rw[Val.chks]
def cntB(b:Nat):Blk:=.cells 3 [.int .i64 b]
def visB:Blk:=.cells 178 [.fn 120 [.ptr 1 0,.ptr 2 0]]
theorem awr{l m:List Blk}{i:Nat}{x:Blk}(h:l[i]?=some x):(l++m)[i]?=some x:=by
 rw[ZV (Zd.1 h).1];exact h
theorem ckv(l:List Blk)(x y:Blk):(l++[x]).set l.length y=l++[y]:=by
 rw[List.set_append_right _ _ (Zf _)];simp
theorem cyh:∀(v:V) (lv b:Nat) (h:Hp),v.lens→h.b[1]?=some (cntB b)→h.b[2]?=some visB→AC 120 [v.A,.int .i64 lv,.ptr 1 0,.ptr 2 0] h fun r h'=>r=.int .i64 (Val.chk v lv b).1∧((Val.chk v lv b).1=0→h'.b[1]?=some (cntB (Val.chk v lv b).2)∧h'.b[2]?=some visB):=by
 refine V.induct fun k n s is ks ih=>?_
 intro lv b h hlen hb1 hb2;refine fo ?_;obtain⟨hil,hkl,_,hmem⟩:=V.lens_mk hlen;have hbl:2<h.b.length:=(Zd.1 hb2).1;have g1:∀ m,(h.b++m)[1]?=some (.cells 3 [.int .i64 b]):=fun m=>awr hb1
 have g2:∀ m,(h.b++m)[2]?=some visB:=fun m=>awr hb2
 have hC:¬(lv:Int)>32→¬(b:Int)≥4096→Val.chk (.mk k n s is ks) lv b=if Val.nodeZ (.mk k n s is ks)≠0 then(Val.nodeZ (.mk k n s is ks),b)else Val.chks is (lv+1) (b+1):=fun h1 h2=>by rw[Val.chk,if_neg (by omega),if_neg (by omega)]
 by_cases h1:(lv:Int)>32
 ·have hC1:Val.chk (.mk k n s is ks) lv b=(4,b):=by rw[Val.chk,if_pos (by omega)]
  refine go0 (ai @V_A (ai @azc h1)) ?_;exact⟨_,le_refl _,by rw[azj,hC1],fun e=>by rw[hC1]at e;simp at e⟩
 by_cases h2:(b:Int)≥4096
 ·have hC1:Val.chk (.mk k n s is ks) lv b=(14,b):=by rw[Val.chk,if_neg (by omega),if_pos (by omega)]
  refine go0 (ai @V_A (ai @azc (ai h1 (ai h2 (ai g1 g2))))) ?_;exact⟨_,le_refl _,by rw[azj,hC1],fun e=>by rw[hC1]at e;simp at e⟩
 have eb:IntKind.i64.wrap ((b:Int)+1)=((b+1:Nat):Int):=by rw[wrap64 (by omega) (by omega)];omega
 have hne1:¬(1=h.b.length):=by omega
 have hle1:1≤1:=by omega
 refine go0 (ai @V_A (ai @azc (ai h1 (ai h2 (ai g1 (ai g2 (ai eb (ai (@Zs AX.Blk) hne1)))))))) ?_;refine gc0 (ai @V_A (ai @azc (ai h1 h2))) ?_;refine(cye k n s is ks hlen _).mono ?_;rintro v h' ⟨rfl,rfl⟩;have hC':=hC h1 h2;by_cases hn:Val.nodeZ (.mk k n s is ks)=0
 ·rw[hn];rw[if_neg (by simp[hn])]at hC';have elv:IntKind.i64.wrap ((lv:Int)+1)=((lv+1:Nat):Int):=by rw[wrap64 (by omega) (by omega)];omega
  refine go0 (ai @V_A (ai @azc (ai h1 (ai h2 (ai (@Zs AX.Blk) hne1))))) ?_;refine azf (fun m ts hh=>∃(i q:Nat),m=is.length-i∧i≤is.length∧Val.chks (is.drop i) (lv+1) q=Val.chks is (lv+1) (b+1)∧hh.b[1]?=some (cntB q)∧hh.b[2]?=some visB∧ts 1=.int .i64 lv∧ts 3=.ptr 2 0∧ts 23=.sl 5 .no (V.cellss is)∧ts 24=.int .i64 is.length∧ts 25=.int .i64 i) is.length ?_ ?_
  ·refine⟨0,b+1,rfl,Zy _,rfl,?_,?_,?_⟩
   ·show(List.set _ 1 _)[1]?=_
    rw[Zs,if_pos rfl,if_pos (by simp;omega)];rfl
   ·show(List.set _ 1 _)[2]?=_
    rw[Zs,if_neg (by omega)];exact g2 _
   ·(exact azq @V.cellss_length)
  ·rintro m ts hh ⟨i,q,rfl,hi,heq,p1,p2,t1,t3,t23,t24,t25⟩;by_cases hlt:i<is.length
   ·have hlt2:(i:Int)<(is.length:Int):=by omega
    have hlt':(i:Int)<((V.cellss is).length:Int):=by rw[V.cellss_length];omega
    have ei:IntKind.i64.wrap ((i:Int)+1)=(i:Int)+1:=wrap64 (by omega) (by omega);have ee:=V.cellss_get is i hlt;have hcall:=fun(h:Hp)=>ih is[i] (Zp hlt) (lv+1) q h (hmem _ (Zp hlt))
    rw[Zo hlt,bwg]at heq;obtain⟨⟨k',n',s',is',ks'⟩,hv⟩:=Ex (is[i]);rw[hv]at ee hcall heq;have q2:∀ m,(hh.b++m)[2]?=some (.cells 178 [.fn 120 [.ptr 1 0,.ptr 2 0]]):=fun m=>awr p2
    refine go0 (ai @azc (ai t1 (ai t3 (ai t23 (ai t24 (ai t25 (ai hlt' (ai hlt2 (ai ee (ai elv (ai ei (ai @ckv q2)))))))))))) ?_;refine gc0 (ai @azc (ai t1 (ai t3 (ai t23 (ai t24 (ai t25 elv)))))) ?_;refine(hcall _ (awr p1) (awr p2)).mono ?_;rintro v h' ⟨rfl,hcnt⟩;by_cases hz:(Val.chk (.mk k' n' s' is' ks') (lv+1) q).1=0
    ·rw[if_neg (by simp[hz])]at heq;rw[hz];obtain⟨r1,r2⟩:=hcnt hz;refine go0 (ai @azc (ai t1 (ai t3 (ai t23 (ai t24 (ai t25 ei)))))) ?_;refine⟨is.length-(i+1),by omega,i+1,_,rfl,by omega,heq,r1,r2,?_⟩;(exact azq (ai t1 (ai t3 (ai t23 (ai t24 (ai t25 ei))))))
    ·have hz':((Val.chk (.mk k' n' s' is' ks') (lv+1) q).1 !=0)=true:=by simp[hz]
     rw[if_pos (by simp[hz])]at heq;refine go0 (ai @azc (ai t1 (ai t3 (ai t23 (ai t24 (ai t25 (ai ei hz'))))))) ?_;exact⟨_,le_refl _,by rw[azj,hC',←heq],fun e=>by rw[hC',←heq]at e;exact absurd e hz⟩
   ·have hlt2:¬(i:Int)<(is.length:Int):=by omega
    rw[Zw (by omega),cq3]at heq;refine go0 (ai @azc (ai t1 (ai t3 (ai t23 (ai t24 (ai t25 hlt2)))))) ?_;exact⟨_,le_refl _,by rw[azj,hC',←heq],fun _=>by rw[hC',←heq];exact⟨p1,p2⟩⟩
 ·have hn':(Val.nodeZ (.mk k n s is ks)!=0)=true:=by simp[hn]
  rw[if_pos (by simp[hn])]at hC';refine go0 (ai @V_A (ai @azc (ai h1 (ai h2 hn')))) ?_;exact⟨_,le_refl _,by rw[azj,hC'],fun e=>by rw[hC']at e;exact absurd e hn⟩
theorem akk(v:V)(hlen:v.lens)(h:Hp):AT 88 [v.A] h (.int .i64 (Val.checkZ v)):=by
 have ht:∀ h:Hp,h.b[1]?=some (cntB 0)→h.b[2]?=some visB→AC 120 [v.A,.int .i64 1,.ptr 1 0,.ptr 2 0] h fun r h'=>r=.int .i64 (Val.chk v 1 0).1∧((Val.chk v 1 0).1=0→h'.b[1]?=some (cntB (Val.chk v 1 0).2)∧h'.b[2]?=some visB):=fun h=>cyh v 1 0 h hlen
 obtain⟨k,n,s,is,ks⟩:=v;refine pcall ?_ rfl (by simp[V.A,V.cells,A.pure,A.data]) h;refine fo ?_;refine go0 (ai @V_A @azc) ?_;refine gc0 (ai @V_A @azc) ?_;refine(ht _ rfl rfl).mono ?_;rintro v h' ⟨rfl,_⟩;refine go0 (ai @V_A @azc) ?_;exact⟨_,le_refl _,rfl⟩
theorem bkm:∀ {l l':List V},Val.eqBs l l'=true→l.length=l'.length
 |[],[],_=>rfl
 |[],_::_,h=>by simp[Val.eqBs]at h
 |_::_,[],h=>by simp[Val.eqBs]at h
 |v::l,v'::l',h=>by
  rw[Val.eqBs,Zc]at h;simp[bkm h.2]
theorem bx8:∀(l:List V) (i:Nat) (h:i<l.length),Val.keysNs (l.drop i)=Val.keysN l[i]+Val.keysNs (l.drop (i+1)):=by
 intro l i h;rw[Zo h,Val.keysNs]
theorem wrap_wrap(a b:Int):IntKind.i64.wrap (IntKind.i64.wrap a+IntKind.i64.wrap b)=IntKind.i64.wrap (a+b):=by
 have e:∀ x,IntKind.i64.wrap x=(x+9223372036854775808)%18446744073709551616-9223372036854775808:=fun x=>by
  unfold IntKind.wrap;simp[IntKind.bits,IntKind.signed];split<;>omega
 rw[e,e,e,e];omega
theorem ck7:∀(v:V),v.lens→∀ h,AT 45 [v.A] h (.int .i64 (IntKind.i64.wrap (Val.keysN v))):=by
 refine V.induct fun k n s is ks ih=>?_
 intro hlen h;refine pcall ?_ rfl (by simp[V.A,V.cells,A.pure,A.data]) h;refine fo ?_;obtain⟨hil,hkl,_,hmem⟩:=V.lens_mk hlen;have hK:Val.keysN (.mk k n s is ks)=ks.length+Val.keysNs is:=by rw[Val.keysN]
 rw[hK];have hkw:IntKind.i64.wrap (ks.length:Int)=(ks.length:Int):=wrap64 (by omega) (by omega);refine go0 (ai @V_A (ai @azc @aze)) ?_;refine azf (fun m ts hh=>hh=⟨[.cells 41 (V.mk k n s is ks).cells],[]⟩∧∃(i:Nat) (q:Nat),m=is.length-i∧i≤is.length∧q+Val.keysNs (is.drop i)=ks.length+Val.keysNs is∧ts 1=.ptr 0 0∧ts 3=.int .i64 (IntKind.i64.wrap (q:Int))∧ts 4=.int .i64 i) is.length ?_ ?_
 ·refine⟨rfl,0,ks.length,rfl,Zy _,rfl,?_⟩;(exact azq (ai @aze hkw))
 ·rintro m ts hh ⟨rfl,i,q,rfl,hi,heq,t1,t3,t4⟩;by_cases hlt:i<is.length
  ·have hlt':(i:Int)<((V.cellss is).length:Int):=by rw[V.cellss_length];omega
   have ee:=V.cellss_get is i hlt;have ei:IntKind.i64.wrap ((i:Int)+1)=(i:Int)+1:=wrap64 (by omega) (by omega);rw[bx8 is i hlt]at heq;have hcall:=ih is[i] (Zp hlt) (hmem _ (Zp hlt));obtain⟨⟨k',n',s',is',ks'⟩,hv⟩:=Ex (is[i]);rw[hv]at ee hcall heq;have eq':IntKind.i64.wrap (IntKind.i64.wrap (q:Int)+IntKind.i64.wrap (Val.keysN (.mk k' n' s' is' ks'):Int))=IntKind.i64.wrap ((q+Val.keysN (.mk k' n' s' is' ks'):Nat):Int):=by rw[wrap_wrap];simp
   refine go0 (ai @azc (ai t1 (ai t3 (ai t4 (ai hlt' (ai ee ei)))))) ?_;refine gc0 (ai @azc (ai t1 (ai t3 t4))) ?_;refine(hcall _).mono ?_;rintro v h' ⟨rfl,rfl⟩;refine go0 (ai @azc (ai t1 (ai t3 (ai t4 (ai hlt' (ai ee (ai ei eq'))))))) ?_;refine⟨is.length-(i+1),by omega,rfl,i+1,q+Val.keysN (.mk k' n' s' is' ks'),rfl,by omega,by omega,?_⟩;(exact azq (ai t1 (ai t3 (ai t4 (ai ei eq')))))
  ·have hlt':¬(i:Int)<((V.cellss is).length:Int):=by rw[V.cellss_length];omega
   refine go0 (ai @azc (ai t1 (ai t3 (ai t4 hlt')))) ?_;rw[Zw (by omega),Val.keysNs]at heq;exact⟨_,le_refl _,by rw[azj,←heq];rfl⟩
theorem bqd(v:V)(nd:Nat)(hn:nd≤1000000)(hlen:v.lens)(h:Hp):AT 24 [v.A,.int .i64 nd] h (.bool (decide (0≤Val.left v nd 40)&&decide (IntKind.i64.wrap (Val.keysN v)≤2*(nd:Int)))):=by
 have hL:=dzq v nd 40 (by omega) (by omega) (by decide) (by decide) hlen;have hK:=ck7 v hlen;have hp:=V.pure v;obtain⟨k,n,s,is,ks⟩:=v;refine pcall ?_ rfl (by simp[V.A,V.cells,A.pure,A.data]) h;refine fo ?_;refine go0 (ai @V_A @azc) ?_;refine gc0 (ai @V_A @azc) ?_;refine(pcall hL rfl (by simp[V.A,V.cells,A.pure,A.data]) _).mono ?_;rintro v1 h' ⟨rfl,rfl⟩;have e2:IntKind.i64.wrap (2*(nd:Int))=2*(nd:Int):=wrap64 (by omega) (by omega);by_cases h0:Val.left (.mk k n s is ks) nd 40≥0
 ·refine go0 (ai @V_A (ai @azc h0)) ?_;refine gc0 (ai @V_A (ai @azc h0)) ?_;refine(hK _).mono ?_;rintro v2 h' ⟨rfl,rfl⟩;refine go0 (ai @V_A (ai @azc (ai h0 e2))) ?_;exact⟨_,le_refl _,by rw[azj,Yr h0,Zx]⟩
 ·refine go0 (ai @V_A (ai @azc h0)) ?_;exact⟨_,le_refl _,by rw[azj,YH h0,Yb]⟩
end AX
end Go.Proofs.YtdgcbckcameggadGreatDoor
