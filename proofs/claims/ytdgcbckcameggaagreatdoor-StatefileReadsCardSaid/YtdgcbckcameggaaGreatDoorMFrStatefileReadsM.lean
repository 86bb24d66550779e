/- Part of what the proof needs. -/
import Derived.Test.YtdgcbckcameggaaGreatDoorMFrStatefileReadsD
import Derived.Test.YtdgcbckcameggaaGreatDoorMFrStatefileReadsE
import Derived.Test.YtdgcbckcameggaaGreatDoorMFrStatefileReadsF
import Derived.Test.YtdgcbckcameggaaGreatDoorMFrStatefileReadsG
import Derived.Test.YtdgcbckcameggaaGreatDoorMFrStatefileReadsJ
import Derived.Test.YtdgcbckcameggaaGreatDoorProg
import Derived.KernelRfl
import Derived.Test.YtdgcbckcameggaaGreatDoorCards
import Derived.Test.YtdgcbckcameggaaGreatDoorTie
import Derived.ProofKit
import Derived.OpenShut
import Derived.ShutString
import Derived.ChangeOld
import Derived.Below
import Derived.Deep.DeepHandedRow
import Derived.Lib.LaidU8
import Derived.MakeChecks
import Derived.Shelf.Unicode.DecodeSlow
set_option maxHeartbeats 4000000
set_option linter.unusedSimpArgs false
set_option linter.unusedVariables false
set_option linter.unnecessarySimpa false
namespace Go.Proofs.YtdgcbckcameggaaGreatDoor
open Go.RowKit
def strsA (l:List (List UInt8)):List (List AX.A):=l.map fun s=>[.str s]
mutual
def V.cells:V→List AX.A
 | .mk k n s is ks=>[.int .i64 k,.int .i64 n,.str s,.sl 5 .no (V.cellss is),.sl 1 .no (strsA ks)]
def V.cellss:List V→List (List AX.A)
 | []=>[]
 | v::l=>v.cells::V.cellss l
end
def V.A (v:V):AX.A:=.agg v.cells
theorem V.cellss_map:∀ l:List V,V.cellss l=l.map V.cells
 | []=>rfl
 | v::l=>by rw [V.cellss,V.cellss_map l]; rfl
theorem V.cellss_length (l:List V):(V.cellss l).length=l.length:=by rw [V.cellss_map]; simp
theorem strsA_length (l:List (List UInt8)):(strsA l).length=l.length:=by simp [strsA]
theorem strsA_get (l:List (List UInt8)) (i:Nat) (h:i < l.length):(strsA l).getD i []=[.str l[i]]:=by simp [strsA,List.getD,h]
theorem V.cellss_get (l:List V) (i:Nat) (h:i < l.length):(V.cellss l).getD i []=l[i].cells:=by rw [V.cellss_map]; simp [List.getD,h]
theorem V.pure (v:V):v.A.pure=true:=by cases v; unfold V.A V.cells; rfl
mutual
def V.lens:V→Prop
 | .mk k n s is ks=>is.length≤maxLen∧ks.length≤maxLen∧s.length≤maxLen∧(∀ q∈ks,q.length≤maxLen)∧V.lensS is
def V.lensS:List V→Prop
 | []=>True
 | v::l=>v.lens∧V.lensS l
end
theorem V.lensS_mem:∀ {l:List V},V.lensS l→∀ x∈l,x.lens
 | [],_=>by simp
 | v::l,h=>by
  unfold V.lensS at h
  exact List.forall_mem_cons.2 ⟨h.1,V.lensS_mem h.2⟩
theorem V.lens_mk {k n:Int} {s:List UInt8} {is:List V} {ks:List (List UInt8)} (h:(V.mk k n s is ks).lens):is.length≤9223372036854775807∧ks.length≤9223372036854775807∧s.length≤9223372036854775807∧(∀ x∈is,x.lens):=by
 unfold V.lens at h
 simp only [maxLen] at h
 exact ⟨by omega,by omega,by omega,V.lensS_mem h.2.2.2.2⟩
def IfaceAt (g:Nat) (w:World):Prop:=∃ ev,w.cell? ⟨g,0,none⟩=some ev∧(ev = .nilIface∨∃ te pe,ev = .iface te pe)
structure GT (w:World):Prop where
 tabs:Lib.Utf8Tabs 0 1 w
 esyn:IfaceAt 3 w
 erng:IfaceAt 4 w
 tz:w.cell? ⟨7,15,none⟩=some (.int .u8 4)
namespace AX
theorem mixedT:Tryz.prog.follows Departure.mixedOrders=true:=by kernel_rfl
theorem fo {G:World→Prop} {f:FuncId} {args:List A} {h:Hp} {Q:A→Hp→Prop} {n:Nat} {code:ACode} {res:List ARes} (k:awp Tryz.prog G code (finQ res Q) (initTs args) h) (hc:compFn Tryz.prog f=some ⟨n,code,res⟩:=by set_option maxRecDepth 1000000 in (conv=>lhs; cbv)) (hl:args.length≤n:=by simp):ACall Tryz.prog G f args h Q:=acall_of mixedT hc hl k
theorem args1 {x:A} {v:Value} (h:∀ C c,Rep C x c→c=v):∀ C cs,RepL C [x] cs→cs=[v]:=fun C cs hr=>by
 obtain ⟨c,cs',rfl,h1,h2⟩:=repL_cons.1 hr
 rw [repL_nil] at h2; subst h2
 rw [h C c h1]
theorem args2 {x y:A} {v u:Value} (h:∀ C c,Rep C x c→c=v) (h':∀ C c,Rep C y c→c=u):∀ C cs,RepL C [x,y] cs→cs=[v,u]:=fun C cs hr=>by
 obtain ⟨c,cs',rfl,h1,h2⟩:=repL_cons.1 hr
 rw [args1 h' C cs' h2,h C c h1]
theorem r_str {l:List UInt8}:∀ C c,Rep C (.str l) c→c = .string ⟨l.toArray⟩:=fun C c h=>rep_str.1 h
theorem r_int {k:IntKind} {n:Int}:∀ C c,Rep C (.int k n) c→c = .int k n:=fun C c h=>rep_int.1 h
theorem a_valid (s:List UInt8) (hl:s.length≤2000000) (h:Hp):ACall Tryz.prog GT 68 [.str s] h fun v h'=>v = .bool (Str.valid s)∧h'=h:=
 acall_imp (args1 r_str) (fun w hg=>valid_any ⟨s.toArray⟩ w (by rw [size_mk]; exact hl) hg.tabs) (fun C=>rep_bool.2 rfl) h
theorem a_refValid (s:List UInt8) (hl:s.length≤2000000) (h:Hp):ACall Tryz.prog GT 107 [.str s] h fun v h'=>v = .bool (Str.valid s)∧h'=h:=
 acall_imp (args1 r_str) (fun w hg=>refValid_any ⟨s.toArray⟩ w (by rw [size_mk]; exact hl)) (fun C=>rep_bool.2 rfl) h
theorem a_vtext (s:List UInt8) (h:Hp):ACall Tryz.prog GT 120 [.str s] h fun v h'=>v = .int .i64 (Val.textZ s)∧h'=h:=
 acall_imp (args1 r_str) (fun w hg=>text_any s w hg.tabs) (fun C=>rep_int.2 rfl) h
theorem a_rtext (s:List UInt8) (h:Hp):ACall Tryz.prog GT 176 [.str s] h fun v h'=>v = .int .i64 (Val.textZ s)∧h'=h:=
 acall_imp (args1 r_str) (fun w hg=>refText_any s w) (fun C=>rep_int.2 rfl) h
theorem a_nvalid (n:Int) (h:Hp):ACall Tryz.prog GT 118 [.int .i64 n] h fun v h'=>v = .bool (decide (-9007199254740992≤n∧n≤9007199254740992))∧h'=h:=
 acall_imp (args1 r_int) (fun w hg=>(numValid_any n w).mono fun e w' ⟨h1,h2⟩=>⟨h1,by rw [h2]; exact Below.refl _ _⟩) (fun C=>rep_bool.2 rfl) h
theorem a_rnvalid (n:Int) (h:Hp):ACall Tryz.prog GT 157 [.int .i64 n] h fun v h'=>v = .bool (decide (-9007199254740992≤n∧n≤9007199254740992))∧h'=h:=
 acall_imp (args1 r_int) (fun w hg=>(refNumValid_any n w).mono fun e w' ⟨h1,h2⟩=>⟨h1,by rw [h2]; exact Below.refl _ _⟩) (fun C=>rep_bool.2 rfl) h
theorem a_appendNumber (dst:List UInt8) (n:Int) (hd:dst.length≤1000000000) (h0:-9223372036854775808≤n) (h1:n≤9223372036854775807) (h:Hp):ACall Tryz.prog GT 88 [.str dst,.int .i64 n] h fun v h'=>v = .str (dst++Wire.num n)∧h'=h:=
 acall_imp (args2 r_str r_int) (fun w hg=>appendNumber_any dst n w hd h0 h1) (fun C=>rep_str.2 rfl) h
theorem a_shaped (k n:Int) (s:List UInt8) (o o':Own) (W W':Nat) (rs rs':List (List A)) (h:Hp):ACall Tryz.prog GT 119 [.agg [.int .i64 k,.int .i64 n,.str s,.sl W o rs,.sl W' o' rs']] h fun v h'=>v = .bool (Val.shapedB k n s rs.length rs'.length)∧h'=h:=by
 intro C cs hI ha
 obtain ⟨c,cs',rfl,h1,h2⟩:=repL_cons.1 ha
 rw [repL_nil] at h2; subst h2
 obtain ⟨ds,rfl,h3⟩:=rep_agg.1 h1
 obtain ⟨c0,d0,rfl,e0,h3⟩:=repL_cons.1 h3
 obtain ⟨c1,d1,rfl,e1,h3⟩:=repL_cons.1 h3
 obtain ⟨c2,d2,rfl,e2,h3⟩:=repL_cons.1 h3
 obtain ⟨c3,d3,rfl,e3,h3⟩:=repL_cons.1 h3
 obtain ⟨c4,d4,rfl,e4,h3⟩:=repL_cons.1 h3
 rw [repL_nil] at h3; subst h3
 rw [rep_int] at e0 e1; rw [rep_str] at e2; subst e0; subst e1; subst e2
 obtain ⟨a,ca,rfl,_⟩:=rep_sl.1 e3
 obtain ⟨b,cb,rfl,_⟩:=rep_sl.1 e4
 refine (shaped_any k n s a b rs.length ca rs'.length cb C.w).mono ?_
 rintro e w' ⟨rfl,hb⟩
 obtain ⟨i1,s1⟩:=inv_below hI hb
 exact ⟨C.at w',h,_,_,rfl,rfl,i1,s1,rep_bool.2 rfl,rfl,rfl⟩
theorem a_refShaped (k n:Int) (s:List UInt8) (o o':Own) (W W':Nat) (rs rs':List (List A)) (h:Hp):ACall Tryz.prog GT 175 [.agg [.int .i64 k,.int .i64 n,.str s,.sl W o rs,.sl W' o' rs']] h fun v h'=>v = .bool (Val.shapedB k n s rs.length rs'.length)∧h'=h:=by
 intro C cs hI ha
 obtain ⟨c,cs',rfl,h1,h2⟩:=repL_cons.1 ha
 rw [repL_nil] at h2; subst h2
 obtain ⟨ds,rfl,h3⟩:=rep_agg.1 h1
 obtain ⟨c0,d0,rfl,e0,h3⟩:=repL_cons.1 h3
 obtain ⟨c1,d1,rfl,e1,h3⟩:=repL_cons.1 h3
 obtain ⟨c2,d2,rfl,e2,h3⟩:=repL_cons.1 h3
 obtain ⟨c3,d3,rfl,e3,h3⟩:=repL_cons.1 h3
 obtain ⟨c4,d4,rfl,e4,h3⟩:=repL_cons.1 h3
 rw [repL_nil] at h3; subst h3
 rw [rep_int] at e0 e1; rw [rep_str] at e2; subst e0; subst e1; subst e2
 obtain ⟨a,ca,rfl,_⟩:=rep_sl.1 e3
 obtain ⟨b,cb,rfl,_⟩:=rep_sl.1 e4
 refine (refShaped_any k n s a b rs.length ca rs'.length cb C.w).mono ?_
 rintro e w' ⟨rfl,hb⟩
 obtain ⟨i1,s1⟩:=inv_below hI hb
 exact ⟨C.at w',h,_,_,rfl,rfl,i1,s1,rep_bool.2 rfl,rfl,rfl⟩
def rdr (r:Wire.St):Blk:=.cells 85 [.str r.rest,.int .i64 r.e,.bool true]
theorem rdr_l {r:Wire.St}:∀ C es,RepL C [.str r.rest,.int .i64 r.e,.bool true] es→es=[.string ⟨r.rest.toArray⟩,.int .i64 r.e,.bool true]:=fun C es h=>by
 obtain ⟨c0,d0,rfl,e0,h⟩:=repL_cons.1 h
 obtain ⟨c1,d1,rfl,e1,h⟩:=repL_cons.1 h
 obtain ⟨c2,d2,rfl,e2,h⟩:=repL_cons.1 h
 rw [repL_nil] at h; subst h
 rw [rep_str.1 e0,rep_int.1 e1,rep_bool.1 e2]
theorem rdr_l' {r:Wire.St} (C:Ctx):RepL C [.str r.rest,.int .i64 r.e,.bool true] [.string ⟨r.rest.toArray⟩,.int .i64 r.e,.bool true]:=
 repL_cons.2 ⟨_,_,rfl,rep_str.2 rfl,repL_cons.2 ⟨_,_,rfl,rep_int.2 rfl,repL_cons.2 ⟨_,_,rfl,rep_bool.2 rfl,repL_nil.2 rfl⟩⟩⟩
theorem a_rdr {f:FuncId} {extra:List A} {ecs:List Value} {v:A} {cv:Value} {r r':Wire.St} (hargs:∀ C es,RepL C extra es→es=ecs) (hv:∀ C,Rep C v cv)
  (hc:∀ g w,Rdr w g r→Calls Tryz.prog f (.pointer (some ⟨g,0,none⟩)::ecs).toArray w fun e w'=>e = .returned cv∧Rdr w' g r'∧w.grownBy w' (some g)) {h:Hp} {i:Nat} (hb:h.b[i]?=some (rdr r)) :
  ACall Tryz.prog GT f (.ptr i 0::extra) h fun v' h'=>v'=v∧h'=⟨h.b.set i (rdr r'),h.t⟩:=
 acall_box hargs rdr_l rdr_l' hv (fun w g hw=>hc g w hw) hb
theorem args0:∀ C es,RepL C [] es→es=[]:=fun C es h=>repL_nil.1 h
theorem a_number {h:Hp} {i:Nat} {r:Wire.St} (hb:h.b[i]?=some (rdr r)) (hl:r.rest.length≤100000000):ACall Tryz.prog GT 16 [.ptr i 0] h fun v h'=>v = .int .i64 (Wire.numR r).2∧h'=⟨h.b.set i (rdr (Wire.numR r).1),h.t⟩:=
 a_rdr args0 (fun C=>rep_int.2 rfl) (fun g w hw=>number_any g r w hw hl) hb
theorem a_rstring {h:Hp} {i:Nat} {r:Wire.St} (hb:h.b[i]?=some (rdr r)) (hl:r.rest.length≤100000000):ACall Tryz.prog GT 38 [.ptr i 0] h fun v h'=>v = .str (Wire.strR r).2∧h'=⟨h.b.set i (rdr (Wire.strR r).1),h.t⟩:=
 a_rdr args0 (fun C=>rep_str.2 rfl) (fun g w hw=>string_any g r w hw hl) hb
theorem a_count {h:Hp} {i:Nat} {r:Wire.St} (hb:h.b[i]?=some (rdr r)) (hl:r.rest.length≤100000000):ACall Tryz.prog GT 39 [.ptr i 0,.int .i64 1] h fun v h'=>v = .int .i64 ((Wire.cntR r 1).2:Nat)∧h'=⟨h.b.set i (rdr (Wire.cntR r 1).1),h.t⟩:=
 a_rdr (args1 r_int) (fun C=>rep_int.2 rfl) (fun g w hw=>count_any g r w hw hl) hb
theorem set_self {h:Hp} {i:Nat} {b:Blk} (hb:h.b[i]?=some b):(⟨h.b.set i b,h.t⟩:Hp)=h:=by
 have hi:i < h.b.length:=(List.getElem?_eq_some_iff.1 hb).1
 have:h.b.set i b=h.b:=by
  apply List.ext_getElem?
  intro j
  rw [List.getElem?_set]
  by_cases e:i=j
  ·subst e; rw [if_pos rfl,if_pos hi,hb]
  ·rw [if_neg e]
 rw [this]
theorem a_left {h:Hp} {i:Nat} {r:Wire.St} (hb:h.b[i]?=some (rdr r)):ACall Tryz.prog GT 19 [.ptr i 0] h fun v h'=>v = .int .i64 r.rest.length∧h'=h:=by
 have:=a_rdr (v:=.int .i64 r.rest.length) (r':=r) args0 (fun C=>rep_int.2 rfl) (fun g w hw=>(left_any g r w hw).mono fun e w' ⟨h1,h2⟩=>⟨h1,by rw [h2]; exact hw,by rw [h2]; exact grown_refl w _⟩) hb
 rw [set_self hb] at this; exact this
theorem a_err {h:Hp} {i:Nat} {r:Wire.St} (hb:h.b[i]?=some (rdr r)):ACall Tryz.prog GT 25 [.ptr i 0] h fun v h'=>v = .int .i64 r.e∧h'=h:=by
 have:=a_rdr (v:=.int .i64 r.e) (r':=r) args0 (fun C=>rep_int.2 rfl) (fun g w hw=>(err_any g r w hw).mono fun e w' ⟨h1,h2⟩=>⟨h1,by rw [h2]; exact hw,by rw [h2]; exact grown_refl w _⟩) hb
 rw [set_self hb] at this; exact this
def wtr (ver:Int) (l:List UInt8):Blk:=.opq (fun F g w=>WF F g ver l w) (fun o=>if o=2 then some (.int .i64 ver) else none)
def dead:Blk:=.opq (fun _ _ _=>True) (fun _=>none)
def Wt (h:Hp) (i:Nat) (ver:Int) (l:List UInt8):Prop:=h.b[i]?=some (wtr ver l)∨(l=[]∧h.b[i]?=some (.cells 76 [.nilp,.sl 0 .nil [],.int .i64 ver]))
theorem WF.stable {F:Nat→Prop} {b:Nat} {ver:Int} {l:List UInt8} {w w':World} (h:WF F b ver l w) (hs:∀ g,F g→w'.heap[g]?=w.heap[g]?):WF F b ver l w':=by
 obtain ⟨p,v,hp,hb,hown,hne,hF,hFk⟩:=h
 refine ⟨p,v,hp,(hs b hF).trans hb,⟨hown.1,?_⟩,hne,hF,hFk⟩
 rcases hown.2 with h1 | ⟨g,cap,cur,fz,rfl,h2,h3,h4⟩
 ·exact .inl h1
 ·exact .inr ⟨g,cap,cur,fz,rfl,h2,(hs g (hFk g rfl)).trans h3,h4⟩
theorem Wt.lt {h:Hp} {i:Nat} {ver:Int} {l:List UInt8} (hw:Wt h i ver l):i < h.b.length:=by
 rcases hw with h1 | ⟨_,h1⟩
 ·exact (List.getElem?_eq_some_iff.1 h1).1
 ·exact (List.getElem?_eq_some_iff.1 h1).1
theorem Wt.wf {h:Hp} {i:Nat} {ver:Int} {l:List UInt8} {C:Ctx} {G:World→Prop} (hw:Wt h i ver l) (hI:Inv G C h):WF (fun g=>C.own g=some i) (C.κ i) ver l C.w:=by
 have hi:i < C.nb:=by rw [←hI.nb]; exact hw.lt
 rcases hw with h1 | ⟨rfl,h1⟩
 ·exact (hI.box i _ h1).1 C.w (fun _ _=>rfl) (Nat.le_refl _)
 ·obtain ⟨cs,k1,k2⟩:=hI.box i _ h1
  obtain ⟨c0,d0,rfl,e0,k2⟩:=repL_cons.1 k2
  obtain ⟨c1,d1,rfl,e1,k2⟩:=repL_cons.1 k2
  obtain ⟨c2,d2,rfl,e2,k2⟩:=repL_cons.1 k2
  rw [repL_nil] at k2; subst k2
  rw [rep_nilp] at e0; rw [rep_int] at e2; subst e0; subst e2
  obtain ⟨a,cap,rfl,_,_,e3,e4,_⟩:=rep_sl.1 e1
  subst e3; subst e4
  exact ⟨_,_,.inl rfl,k1,⟨rfl,.inl ⟨rfl,rfl⟩⟩,by simp [Value.ownBlock],hI.ownk i hi,fun k hk=>by simp [Value.ownBlock] at hk⟩
theorem wtr_rep {C:Ctx} {i:Nat} {ver:Int} {l:List UInt8} (h:WF (fun g=>C.own g=some i) (C.κ i) ver l C.w):BlkRep C i (wtr ver l):=by
 refine ⟨fun w' hw _=>WF.stable h hw,fun o x hx=>?_⟩
 have hx':(if o=2 then some (A.int .i64 ver) else none)=some x:=hx
 split at hx'
 ·next e =>
  injection hx' with hx'; subst hx'; subst e
  obtain ⟨p,v,hp,hb,_⟩:=h
  exact ⟨_,(cell_row3 hb).2.2.1,rep_int.2 rfl⟩
 ·cases hx'
theorem a_write {h:Hp} {i:Nat} {ver:Int} {l:List UInt8} (hw:Wt h i ver l) (s:List UInt8) (hlen:l.length+s.length≤1000000000) :
  ACall Tryz.prog GT 85 [.ptr i 0,.str s] h fun v h'=>v = .tup [.int .i64 s.length,.nili]∧h'=⟨h.b.set i (wtr ver (l++s)),h.t⟩:=by
 intro C es hI ha
 obtain ⟨c,es',rfl,h1,h2⟩:=repL_cons.1 ha
 obtain ⟨rfl,hi⟩:=rep_ptr.1 h1
 obtain rfl:=args1 r_str C es' h2
 refine (wf_write (hw.wf hI) s hlen).mono ?_
 rintro e w' ⟨rfl,m1,m2⟩
 have hrep:BlkRep (C.turn w' i true) i (wtr ver (l++s)):=by
  refine wtr_rep ?_
  obtain ⟨p,v,hp,hb,hown,hne,hF,hFk⟩:=m1
  have hlt:=(cell_row3 hb).2.2.2.2.2
  have hcl:∀ k,k < w'.heap.size→(C.own k=some i∨C.w.heap.size≤k)→(C.turn w' i true).own k=some i:=fun k hk hor=>by
   show (if k < C.w.heap.size then C.own k else if true=true∧k < w'.heap.size then some i else none)=some i
   split
   ·rcases hor with h3 | h3
    ·exact h3
    ·omega
   ·rw [if_pos ⟨rfl,hk⟩]
  refine ⟨p,v,hp,hb,hown,hne,hcl _ hlt hF,fun k hk=>hcl k ?_ (hFk k hk)⟩
  rcases hown.2 with ⟨rfl,_⟩ | ⟨g,cap,cur,fz,rfl,_,h3,_⟩
  ·simp [Value.ownBlock] at hk
  ·simp only [Value.ownBlock,Option.some.injEq] at hk; subst hk
   exact (Array.getElem?_eq_some_iff.1 h3).1
 obtain ⟨i1,s1⟩:=box_turn (b':=wtr ver (l++s)) true hI hi m2.os m2.tape m2.output m2.size (fun g hg hne=>m2.block g hg hne) (fun _=>hrep)
 exact ⟨_,_,.tup [.int .i64 s.length,.nili],_,rfl,rfl,i1,s1,rep_tup.2 ⟨_,rfl,repL_cons.2 ⟨_,_,rfl,rep_int.2 rfl,repL_cons.2 ⟨_,_,rfl,rep_nili.2 rfl,repL_nil.2 rfl⟩⟩⟩,rfl,rfl⟩
theorem a_wlen {h:Hp} {i:Nat} {ver:Int} {l:List UInt8} (hw:Wt h i ver l):ACall Tryz.prog GT 61 [.ptr i 0] h fun v h'=>v = .int .i64 l.length∧h'=h:=by
 intro C es hI ha
 obtain ⟨c,es',rfl,h1,h2⟩:=repL_cons.1 ha
 obtain ⟨rfl,hi⟩:=rep_ptr.1 h1
 rw [repL_nil] at h2; subst h2
 refine (wtr_len (hw.wf hI).wtr).mono ?_
 rintro e w' ⟨rfl,rfl⟩
 exact ⟨C,h,_,_,rfl,rfl,hI,Step.refl C,rep_int.2 rfl,rfl,rfl⟩
theorem a_wstring {h:Hp} {i:Nat} {ver:Int} {l:List UInt8} (hw:Wt h i ver l) (h0:l≠[]):ACall Tryz.prog GT 30 [.ptr i 0] h fun v h'=>v = .str l∧h'=⟨h.b.set i dead,h.t⟩:=by
 intro C es hI ha
 obtain ⟨c,es',rfl,h1,h2⟩:=repL_cons.1 ha
 obtain ⟨rfl,hi⟩:=rep_ptr.1 h1
 rw [repL_nil] at h2; subst h2
 refine (wf_string (hw.wf hI) h0).mono ?_
 rintro e w' ⟨rfl,m2⟩
 obtain ⟨i1,s1⟩:=box_turn (b':=dead) false hI hi m2.os m2.tape m2.output m2.size (fun g hg hne=>m2.block g hg hne) (fun _=>⟨fun _ _ _=>trivial,fun o x hx=>by cases hx⟩)
 exact ⟨_,_,.str l,_,rfl,rfl,i1,s1,rep_str.2 rfl,rfl,rfl⟩
end AX
end Go.Proofs.YtdgcbckcameggaaGreatDoor

namespace Go.Proofs.YtdgcbckcameggaaGreatDoor
open Go.ChangeShapes Go.WideShapes Go.ChangeAt Go.RowKit
namespace Card
theorem own:ownKnob Tryz.prog.godebug=none:=by kernel_rfl
theorem first_eq:Go.Pinned.utf8First=Lib.firstData:=by kernel_rfl
theorem accept_eq:(Rows.laid_unicode_utf8_acceptRanges:DataW Unit)=Lib.acceptData:=by kernel_rfl
theorem tz_name : Tryz.prog.globalNamed "math/bits.deBruijn64tab" = some 7 := by kernel_rfl
theorem tz_type:(Tryz.prog.globals[7]?).map (·.type)=some 245:=by kernel_rfl
theorem tz_cells:Tryz.prog.cellsOf 245=64:=by kernel_rfl
theorem tz_cell:Tryz.prog.cellsOf 5=1:=by kernel_rfl
def tab64:List Int:=[0,1,56,2,57,49,28,3,61,58,42,50,38,29,17,4,62,47,59,36,45,43,51,22,53,39,33,30,24,18,12,5,63,55,48,27,60,41,37,16,46,35,44,21,52,32,23,11,54,26,40,15,34,20,31,10,25,14,19,9,13,8,7,6]
theorem tab64_eq:(Rows.laid_math_bits_deBruijn64tab:DataW Unit)=Lib.tabData .u8 tab64:=by kernel_rfl
theorem iface_reads {P:Program} {w:World} {n:String} {g:Nat} {t:TypeId} {d:DataW Unit} {m:Array (String×TypeId)} (hg:P.globalNamed n=some g) (ht:(P.globals[g]?).map (·.type)=some t) (hu:P.underlying t=some (.interface m)) (h:Lib.VarReads P w n d):IfaceAt g w:=by
 obtain ⟨g',t',cs,fuel,p,h1,h2,h3,h4⟩:=h
 rw [hg] at h1; injection h1 with h1; subst h1
 rw [ht] at h2; injection h2 with h2; subst h2
 have hc:=World.var?_cell hg h3 0
 obtain ⟨l⟩:=cs
 cases fuel with
 | zero=>simp [DataW.trod] at h4
 | succ k =>
  match l,hc with
  | [],_=>simp [DataW.trod,hu] at h4
  | [.nilIface],hc=>exact ⟨_,hc,.inl rfl⟩
  | [.iface u v],hc=>exact ⟨_,hc,.inr ⟨u,v,rfl⟩⟩
  | v::x::l,_=>cases v <;> simp [DataW.trod,hu] at h4
  | [v],hc=>cases v <;> first | exact ⟨_,hc,.inl rfl⟩ | exact ⟨_,hc,.inr ⟨_,_,rfl⟩⟩ | simp [DataW.trod,hu] at h4
theorem tz_of {W : World} (r3 : Lib.VarReads Tryz.prog W "math/bits.deBruijn64tab" (Lib.tabData .u8 tab64)) : W.cell? ⟨7, 15, none⟩ = some (.int .u8 4) := by
 obtain ⟨g,t,cs,fuel,p,hg,hty,hvar,hd⟩:=r3
 obtain rfl:=Option.some.inj (tz_name.symm.trans hg)
 obtain rfl:=Option.some.inj (tz_type.symm.trans hty)
 have hcs:=Lib.cells_of_tab Tryz.underlying245 Tryz.underlying5 tz_cell tz_cells hd
 have:=World.var?_cell hg hvar 15
 rw [this,←Array.getElem?_toList,hcs]
 rfl
theorem gt_of {W:World} (h:laidMetH Tryz.prog Rows.statefileReadsRow.laid W):GT W:=by
 have hL:laidMet Tryz.prog Rows.statefileReadsRow.laid W:=by
  have e:=Go.MakeChecks.laidMetH_plain Tryz.prog Rows.statefileReadsRow.laid W (by kernel_rfl)
  rwa [e] at h
 have r1 : Lib.VarReads Tryz.prog W "unicode/utf8.first" Lib.firstData := by
  rw [←first_eq]; exact Lib.laidMet.reads hL (.tail _ (.tail _ (.tail _ (.tail _ (.tail _ (.tail _ (.head _)))))))
 have r2 : Lib.VarReads Tryz.prog W "unicode/utf8.acceptRanges" Lib.acceptData := by
  rw [←accept_eq]; exact Lib.laidMet.reads hL (.tail _ (.tail _ (.tail _ (.head _))))
 exact ⟨utf8Tabs_of_reads (ρ:=Tryz.lays260_ren) Tryz.lays260 ⟨by kernel_rfl,by kernel_rfl,by kernel_rfl,by kernel_rfl,by kernel_rfl,by kernel_rfl,by kernel_rfl⟩ r1 r2,
  iface_reads (by kernel_rfl) (by kernel_rfl) Tryz.underlying144 (Lib.laidMet.reads hL (.tail _ (.tail _ (.tail _ (.tail _ (.tail _ (.head _))))))),iface_reads (by kernel_rfl) (by kernel_rfl) Tryz.underlying144 (Lib.laidMet.reads hL (.tail _ (.tail _ (.tail _ (.tail _ (.head _)))))),tz_of (by rw [←tab64_eq]; exact Lib.laidMet.reads hL (.tail _ (.head _)))⟩
def ints (k:IntKind) (l:List Int):Array Value:=(l.map fun z=>Value.int k z).toArray
def u8s (l:List Int):Array Value:=ints .u8 l
def setTab (h:Array Obj) (g:Nat) (cs:Array Value):Array Obj:=h.modify g fun
 | .cells _ t frozen => .cells cs t frozen
 | o=>o
noncomputable def low:Nat:=(World.holding Tryz.prog default ⟨#[],#[],[]⟩).heap.size
noncomputable def laidWorld (os:Os) (args:Array Value):World:=
 { World.holding Tryz.prog os ⟨#[.cells #[.string { data:=#[118,97,108,117,101,32,111,117,116,32,111,102,32,114,97,110,103,101] }] 236,.cells #[.string { data:=#[105,110,118,97,108,105,100,32,115,121,110,116,97,120] }] 236],args,[]⟩ with
  heap:=(setTab (setTab (setTab (setTab (setTab (setTab (setTab (World.holding Tryz.prog os ⟨#[.cells #[.string { data:=#[118,97,108,117,101,32,111,117,116,32,111,102,32,114,97,110,103,101] }] 236,.cells #[.string { data:=#[105,110,118,97,108,105,100,32,115,121,110,116,97,120] }] 236],args,[]⟩).heap 6 (ints .u8 [0,1,28,2,29,14,24,3,30,22,20,15,25,17,4,8,31,27,13,23,21,19,16,7,26,12,18,6,11,5,10,9])) 7 (ints .u8 [0,1,56,2,57,49,28,3,61,58,42,50,38,29,17,4,62,47,59,36,45,43,51,22,53,39,33,30,24,18,12,5,63,55,48,27,60,41,37,16,46,35,44,21,52,32,23,11,54,26,40,15,34,20,31,10,25,14,19,9,13,8,7,6])) 5 (ints .u64 [1,10,100,1000,10000,100000,1000000,10000000,100000000,1000000000,10000000000,100000000000,1000000000000,10000000000000,100000000000000,1000000000000000,10000000000000000,100000000000000000,1000000000000000000,10000000000000000000])) 1 (ints .u8 [128,191,160,191,128,159,144,191,128,143,0,0,0,0,0,0,0,0,0,0,0,0,0,0,0,0,0,0,0,0,0,0])) 4 (#[.iface 234 (.pointer (some ⟨low+0,0,none⟩))])) 3 (#[.iface 234 (.pointer (some ⟨low+1,0,none⟩))])) 0 (u8s Lib.firstTab)) }
end Card
end Go.Proofs.YtdgcbckcameggaaGreatDoor

namespace Go.Proofs.YtdgcbckcameggaaGreatDoor
open Go.RowKit
mutual
def D.cells:D→List AX.A
 | .int k n=>[.int k n]
 | .str l=>[.str l]
 | .bool b=>[.bool b]
 | .agg l=>D.cellsL l
 | .sl W l=>[.sl W .no (D.rows l)]
def D.cellsL:List D→List AX.A
 | []=>[]
 | d::l=>d.cells++D.cellsL l
def D.rows:List D→List (List AX.A)
 | []=>[]
 | d::l=>d.cells::D.rows l
end
mutual
theorem D.cells_data:∀ (d:D) (x:AX.A),x∈d.cells→x.data=true
 | .int k n,x,h=>by unfold D.cells at h; simp at h; subst h; rfl
 | .str l,x,h=>by unfold D.cells at h; simp at h; subst h; rfl
 | .bool b,x,h=>by unfold D.cells at h; simp at h; subst h; rfl
 | .agg l,x,h=>by unfold D.cells at h; exact D.cellsL_data l x h
 | .sl W l,x,h=>by unfold D.cells at h; simp at h; subst h; rfl
theorem D.cellsL_data:∀ (l:List D) (x:AX.A),x∈D.cellsL l→x.data=true
 | [],x,h=>by unfold D.cellsL at h; simp at h
 | d::l,x,h=>by
  unfold D.cellsL at h
  rcases List.mem_append.1 h with h | h
  ·exact D.cells_data d x h
  ·exact D.cellsL_data l x h
end
namespace AX
def Ctx.of (w:World):Ctx:={ w:=w,S:=fun g _=>g < w.heap.size,κ:=fun _=>0,nb:=0,τ:=fun _=>0,hw:=fun _=>none,own:=fun _=>none,base:=w.heap.size }
theorem inv_of {G:World→Prop} {w:World} (hG:∀ w':World,(∀ g,g < w.heap.size→w'.heap[g]?=w.heap[g]?)→G w'):Inv G (Ctx.of w) ⟨[],[]⟩ where
 nb:=rfl
 box:=fun i b h=>by simp at h
 ownk:=fun i h=>by simp [Ctx.of] at h
 ownlt:=fun g i h=>by simp [Ctx.of] at h
 prot:=fun g j h=>⟨h,rfl,fun t E W m ht=>by simp [Ctx.of] at ht⟩
 rows:=fun t E W m h=>by simp [Ctx.of] at h
 inj:=fun t t' h=>by simp [Ctx.of] at h
 toks:=fun t=>by simp [Ctx.of]
 base:=Nat.le_refl _
 glob:=hG
theorem calls_of {P:Program} {G:World→Prop} {f:FuncId} {args:List A} {vs:List Value} {w:World} (hc:ACall P G f args ⟨[],[]⟩ fun v _=>v = .bool true) (hG:∀ w':World,(∀ g,g < w.heap.size→w'.heap[g]?=w.heap[g]?)→G w')
  (ha:RepL (Ctx.of w) args vs):Calls P f vs.toArray w fun e w'=>e = .returned (.bool true)∧Below w.heap.size w w':=by
 refine (hc (Ctx.of w) vs (inv_of hG) ha).mono ?_
 rintro e w' ⟨C',h',v,cv,rfl,rfl,_,st,hr,rfl⟩
 rw [rep_bool] at hr; subst hr
 exact ⟨rfl,st.os,st.tape,st.output,st.size,fun g hg=>st.frame g hg rfl fun t ht=>by simp [Ctx.of] at ht⟩
theorem tabs_keep {a b:Nat} {w:World} (h:Lib.Utf8Tabs a b w):∀ w':World,(∀ g,g < w.heap.size→w'.heap[g]?=w.heap[g]?)→Lib.Utf8Tabs a b w':=by
 intro w' hw
 have hlt:∀ {g j:Nat} {v:Value},w.cell? ⟨g,j,none⟩=some v→g < w.heap.size:=fun {g j v} h=>(cell_there h).2
 have hc:∀ {g j:Nat} {v:Value},w.cell? ⟨g,j,none⟩=some v→w'.cell? ⟨g,j,none⟩=some v:=fun {g j v} h=>by
  rw [←h]; simp only [World.cell?,hw g (hlt h)]
 exact ⟨fun c hcl=>hc (h.1 c hcl),fun i hi=>⟨hc (h.2 i hi).1,hc (h.2 i hi).2⟩⟩
end AX
end Go.Proofs.YtdgcbckcameggaaGreatDoor

namespace Go.Proofs.YtdgcbckcameggaaGreatDoor
open Go.RowKit Go.ChangeShapes Go.WideShapes
namespace AX
theorem gt_keep {w:World} (g:GT w):∀ w':World,(∀ g,g < w.heap.size→w'.heap[g]?=w.heap[g]?)→GT w':=fun w' hw=>by
 have hi:∀ {n:Nat},IfaceAt n w→IfaceAt n w':=fun ⟨ev,h1,h2⟩=>⟨ev,by rw [←h1]; simp only [World.cell?,hw _ (cell_there h1).2],h2⟩
 exact ⟨tabs_keep g.tabs w' hw,hi g.esyn,hi g.erng,by rw [←g.tz]; simp only [World.cell?,hw _ (cell_there g.tz).2]⟩
theorem str_list (a:ByteArray):Value.string a = .string ⟨a.data.toList.toArray⟩:=by simp
section
variable {H:Type} {enc:TypeId×Value→H} {w:World} {base:Nat} {spare:Nat→Bool} {held:Bool} {r:Reach} {b0:Nat} {v:Value} {d:DataW H} {p:List MemPlace}
end
end AX
end Go.Proofs.YtdgcbckcameggaaGreatDoor

namespace Go.Proofs.YtdgcbckcameggaaGreatDoor
open Go.RowKit
namespace AX
theorem go_drawB {P:Program} {G:World→Prop} {ops:List AOper} {Q:AExit→Ts→Hp→Prop} {ts:Ts} {h:Hp} (m:Nat) (hb:(seqB m ops&&chainB (closeOps ops) (actsF m 0 (closeOps ops)))=true) (hp:aseq P G m 0 (flagsOf m ops) ops [] [] (Q .normal) ts h):awp P G (.reg true ops) Q ts h:=
 go_draw m (Bool.and_eq_true_iff.1 hb).1 hp
theorem evp {A F:Prop} (f:F) (h:F→A:=by intro f; simp only [f] <;> with_reducible rfl):A:=h f
theorem ev0 {A F:Prop} (f:F) (h:F→A:=by intro f; simp only [put_app,put_none,init_app,evX_t,evX_c,resA_nil,resA_t,resA_c,tupA_0,tupA_1,tupA_2,astep,bop,uop,loadA,storeA,appA,ssliceA,eqA,eqCells,fillA,rowsA,setCells,A.cells,A.one,A.data,optP_some,List.all_cons,List.all_nil,Bool.and_true,Bool.true_and,Bool.false_and,Option.map_some,Option.map_none,Option.bind_some,Option.bind_none,Option.getD_some,Option.getD_none,List.map_cons,List.map_nil,List.getD_cons_zero,List.getD_cons_succ,List.getElem?_cons_zero,List.getElem?_cons_succ,List.getElem?_concat_length,get_p1,get_p2,set_p0,set_p1,set_p2,get_q1,get_q2,get_q3,set_q1,set_q2,set_q3,List.length_cons,List.length_nil,List.nil_append,List.cons_append,List.append_nil,List.set_cons_zero,List.set_cons_succ,List.drop_zero,List.drop_succ_cons,List.take_succ_cons,List.take_zero,List.take_nil,List.take_length,List.length_append,List.length_set,Nat.reduceAdd,Nat.reduceSub,Nat.reduceMul,Nat.reduceLeDiff,Nat.reduceEqDiff,Nat.reduceBEq,Int.toNat_natCast,Int.natCast_nonneg,Int.reduceBEq,Int.reduceBNe,Int.reduceLT,Int.reduceLE,Int.reduceEq,Int.le_refl,Int.toNat_zero,if_true,if_false,reduceIte,ite_true,ite_false,true_and,and_true,ne_eq,not_true_eq_false,not_false_eq_true,Bool.false_eq_true,reduceCtorEq,and_self,Nat.zero_add,Nat.add_zero,Nat.le_refl,Bool.not_true,Bool.not_false,and_self,decide_true,decide_false,beq_self_eq_true,bne_self_eq_false,Bool.or_true,Bool.or_false,Bool.true_or,Bool.false_or,Bool.and_false,Bool.not_not,when_t,when_f,pk_and,pk_or,gok_t,gok_f,rowsR,List.flatten_cons,List.flatten_nil,mgetA,msetA,mdelA,mclrA,mlenA,mgetV,Option.isSome_some,Option.isSome_none,f] <;> with_reducible rfl):A:=h f
theorem evw0 {A F:Prop} (f:F) (h:F→A:=by intro f; simp only [put_app,put_none,init_app,evX_t,evX_c,resA_nil,resA_t,resA_c,tupA_0,tupA_1,tupA_2,astep,bop,uop,loadA,storeA,appA,ssliceA,eqA,eqCells,fillA,rowsA,setCells,A.cells,A.one,A.data,optP_some,List.all_cons,List.all_nil,Bool.and_true,Bool.true_and,Bool.false_and,Option.map_some,Option.map_none,Option.bind_some,Option.bind_none,Option.getD_some,Option.getD_none,List.map_cons,List.map_nil,List.getD_cons_zero,List.getD_cons_succ,List.getElem?_cons_zero,List.getElem?_cons_succ,List.getElem?_concat_length,get_p1,get_p2,set_p0,set_p1,set_p2,get_q1,get_q2,get_q3,set_q1,set_q2,set_q3,List.length_cons,List.length_nil,List.nil_append,List.cons_append,List.append_nil,List.set_cons_zero,List.set_cons_succ,List.drop_zero,List.drop_succ_cons,List.take_succ_cons,List.take_zero,List.take_nil,List.take_length,List.length_append,List.length_set,Nat.reduceAdd,Nat.reduceSub,Nat.reduceMul,Nat.reduceLeDiff,Nat.reduceEqDiff,Nat.reduceBEq,Int.toNat_natCast,Int.natCast_nonneg,Int.reduceBEq,Int.reduceBNe,Int.reduceLT,Int.reduceLE,Int.reduceEq,Int.le_refl,Int.toNat_zero,if_true,if_false,reduceIte,ite_true,ite_false,true_and,and_true,ne_eq,not_true_eq_false,not_false_eq_true,Bool.false_eq_true,reduceCtorEq,and_self,Nat.zero_add,Nat.add_zero,Nat.le_refl,Bool.not_true,Bool.not_false,and_self,decide_true,decide_false,beq_self_eq_true,bne_self_eq_false,Bool.or_true,Bool.or_false,Bool.true_or,Bool.false_or,Bool.and_false,Bool.not_not,when_t,when_f,pk_and,pk_or,gok_t,gok_f,rowsR,List.flatten_cons,List.flatten_nil,mgetA,msetA,mdelA,mclrA,mlenA,mgetV,Option.isSome_some,Option.isSome_none,f]; first | with_reducible exact rfl | with_reducible exact (when_t _).symm):A:=h f
theorem eu0 {A F:Prop} (f:F) (h:F→A:=by intro f; simp only [put_app,put_none,init_app,evX_t,evX_c,resA_nil,resA_t,resA_c,tupA_0,tupA_1,tupA_2,astep,bop,uop,loadA,storeA,appA,ssliceA,eqA,eqCells,fillA,rowsA,setCells,A.cells,A.one,A.data,optP_some,List.all_cons,List.all_nil,Bool.and_true,Bool.true_and,Bool.false_and,Option.map_some,Option.map_none,Option.bind_some,Option.bind_none,Option.getD_some,Option.getD_none,List.map_cons,List.map_nil,List.getD_cons_zero,List.getD_cons_succ,List.getElem?_cons_zero,List.getElem?_cons_succ,List.getElem?_concat_length,get_p1,get_p2,set_p0,set_p1,set_p2,get_q1,get_q2,get_q3,set_q1,set_q2,set_q3,List.length_cons,List.length_nil,List.nil_append,List.cons_append,List.append_nil,List.set_cons_zero,List.set_cons_succ,List.drop_zero,List.drop_succ_cons,List.take_succ_cons,List.take_zero,List.take_nil,List.take_length,List.length_append,List.length_set,Nat.reduceAdd,Nat.reduceSub,Nat.reduceMul,Nat.reduceLeDiff,Nat.reduceEqDiff,Nat.reduceBEq,Int.toNat_natCast,Int.natCast_nonneg,Int.reduceBEq,Int.reduceBNe,Int.reduceLT,Int.reduceLE,Int.reduceEq,Int.le_refl,Int.toNat_zero,if_true,if_false,reduceIte,ite_true,ite_false,true_and,and_true,ne_eq,not_true_eq_false,not_false_eq_true,Bool.false_eq_true,reduceCtorEq,and_self,Nat.zero_add,Nat.add_zero,Nat.le_refl,Bool.not_true,Bool.not_false,and_self,decide_true,decide_false,beq_self_eq_true,bne_self_eq_false,Bool.or_true,Bool.or_false,Bool.true_or,Bool.false_or,Bool.and_false,Bool.not_not,when_t,when_f,pk_and,pk_or,gok_t,gok_f,rowsR,List.flatten_cons,List.flatten_nil,mgetA,msetA,mdelA,mclrA,mlenA,mgetV,Option.isSome_some,Option.isSome_none,f]; rw [if_pos (by first | omega | (refine ⟨?_,?_⟩ <;> omega) | (simp only [true_and,and_true]; omega))]; with_reducible rfl):A:=h f
theorem inv0 {A F:Prop} (f:F) (h:F→A:=by intro f; simp only [put_app,put_none,init_app,evX_t,evX_c,resA_nil,resA_t,resA_c,tupA_0,tupA_1,tupA_2,astep,bop,uop,loadA,storeA,appA,ssliceA,eqA,eqCells,fillA,rowsA,setCells,A.cells,A.one,A.data,optP_some,List.all_cons,List.all_nil,Bool.and_true,Bool.true_and,Bool.false_and,Option.map_some,Option.map_none,Option.bind_some,Option.bind_none,Option.getD_some,Option.getD_none,List.map_cons,List.map_nil,List.getD_cons_zero,List.getD_cons_succ,List.getElem?_cons_zero,List.getElem?_cons_succ,List.getElem?_concat_length,get_p1,get_p2,set_p0,set_p1,set_p2,get_q1,get_q2,get_q3,set_q1,set_q2,set_q3,List.length_cons,List.length_nil,List.nil_append,List.cons_append,List.append_nil,List.set_cons_zero,List.set_cons_succ,List.drop_zero,List.drop_succ_cons,List.take_succ_cons,List.take_zero,List.take_nil,List.take_length,List.length_append,List.length_set,Nat.reduceAdd,Nat.reduceSub,Nat.reduceMul,Nat.reduceLeDiff,Nat.reduceEqDiff,Nat.reduceBEq,Int.toNat_natCast,Int.natCast_nonneg,Int.reduceBEq,Int.reduceBNe,Int.reduceLT,Int.reduceLE,Int.reduceEq,Int.le_refl,Int.toNat_zero,if_true,if_false,reduceIte,ite_true,ite_false,true_and,and_true,ne_eq,not_true_eq_false,not_false_eq_true,Bool.false_eq_true,reduceCtorEq,and_self,Nat.zero_add,Nat.add_zero,Nat.le_refl,Bool.not_true,Bool.not_false,and_self,decide_true,decide_false,beq_self_eq_true,bne_self_eq_false,Bool.or_true,Bool.or_false,Bool.true_or,Bool.false_or,Bool.and_false,Bool.not_not,when_t,when_f,pk_and,pk_or,gok_t,gok_f,rowsR,List.flatten_cons,List.flatten_nil,mgetA,msetA,mdelA,mclrA,mlenA,mgetV,Option.isSome_some,Option.isSome_none,f,Int.natCast_add,Int.natCast_one] <;> trivial):A:=h f
theorem inw0 {A F:Prop} (f:F) (h:F→A:=by intro f; simp only [put_app,put_none,init_app,evX_t,evX_c,resA_nil,resA_t,resA_c,tupA_0,tupA_1,tupA_2,astep,bop,uop,loadA,storeA,appA,ssliceA,eqA,eqCells,fillA,rowsA,setCells,A.cells,A.one,A.data,optP_some,List.all_cons,List.all_nil,Bool.and_true,Bool.true_and,Bool.false_and,Option.map_some,Option.map_none,Option.bind_some,Option.bind_none,Option.getD_some,Option.getD_none,List.map_cons,List.map_nil,List.getD_cons_zero,List.getD_cons_succ,List.getElem?_cons_zero,List.getElem?_cons_succ,List.getElem?_concat_length,get_p1,get_p2,set_p0,set_p1,set_p2,get_q1,get_q2,get_q3,set_q1,set_q2,set_q3,List.length_cons,List.length_nil,List.nil_append,List.cons_append,List.append_nil,List.set_cons_zero,List.set_cons_succ,List.drop_zero,List.drop_succ_cons,List.take_succ_cons,List.take_zero,List.take_nil,List.take_length,List.length_append,List.length_set,Nat.reduceAdd,Nat.reduceSub,Nat.reduceMul,Nat.reduceLeDiff,Nat.reduceEqDiff,Nat.reduceBEq,Int.toNat_natCast,Int.natCast_nonneg,Int.reduceBEq,Int.reduceBNe,Int.reduceLT,Int.reduceLE,Int.reduceEq,Int.le_refl,Int.toNat_zero,if_true,if_false,reduceIte,ite_true,ite_false,true_and,and_true,ne_eq,not_true_eq_false,not_false_eq_true,Bool.false_eq_true,reduceCtorEq,and_self,Nat.zero_add,Nat.add_zero,Nat.le_refl,Bool.not_true,Bool.not_false,and_self,decide_true,decide_false,beq_self_eq_true,bne_self_eq_false,Bool.or_true,Bool.or_false,Bool.true_or,Bool.false_or,Bool.and_false,Bool.not_not,when_t,when_f,pk_and,pk_or,gok_t,gok_f,rowsR,List.flatten_cons,List.flatten_nil,mgetA,msetA,mdelA,mclrA,mlenA,mgetV,Option.isSome_some,Option.isSome_none,forH,pastN,obsP,obsD,obsN,memN,Bool.false_or,Bool.true_or,Bool.or_false,Bool.or_true,true_or,or_true,false_or,or_false,f] <;> exact ti):A:=h f
theorem go0 {A B F:Prop} (f:F) (k:B) (h:F→B→A:=by intro f k; (repeat (first | with_reducible refine go_seq ?_ | with_reducible refine go_reg ?_ | with_reducible refine go_nil ?_ | with_reducible refine go_tn ?_ | with_reducible refine go_sk ?_ | with_reducible refine go_blk ?_ | with_reducible refine go_exit ?_ | with_reducible refine go_ret ?_ | with_reducible refine go_tr ?_ | with_reducible refine go_te ?_ | with_reducible refine go_bn ?_ | with_reducible refine go_br ?_ | with_reducible refine go_be ?_ | ((with_reducible refine go_bo ?_ ?_); exact rfl) | with_reducible refine gq_nil ?_ | ((with_reducible apply go_op); exact rfl; exact ev0 f) | ((with_reducible apply go_op); exact rfl; exact eu0 f) | ((with_reducible apply gq_op); exact rfl; exact ev0 f) | ((with_reducible apply gq_op); exact rfl; exact eu0 f) | ((with_reducible refine go_skipu ?_ ?_); exact ev0 f) | ((with_reducible refine go_skip ?_ ?_); exact ev0 f) | ((with_reducible refine gq_skipu ?_ ?_); exact ev0 f) | ((with_reducible refine gq_skip ?_ ?_); exact ev0 f) | ((with_reducible apply go_gop); exact ev0 f; exact rfl; exact ev0 f) | ((with_reducible apply go_gop); exact ev0 f; exact rfl; exact eu0 f) | ((with_reducible apply gq_gop); exact ev0 f; exact rfl; exact ev0 f) | ((with_reducible apply gq_gop); exact ev0 f; exact rfl; exact eu0 f) | ((with_reducible refine go_ct ?_ ?_); exact ev0 f) | ((with_reducible refine go_cf ?_ ?_); exact ev0 f) | ((with_reducible apply go_fr); exact ev0 f) | ((with_reducible apply go_fn); exact ev0 f))); exact k):A:=h f k
theorem gc0 {A B F:Prop} (f:F) (k:B) (h:F→B→A:=by intro f k; first | ((with_reducible apply go_call); exact ev0 f; exact k) | ((with_reducible apply go_gcall); exact ev0 f; exact ev0 f; exact k) | ((with_reducible apply go_callv); exact ev0 f; exact rfl; kernel_rfl; exact ev0 f; exact k)):A:=h f k
theorem run0 {A B F:Prop} (f:F) (k:B) (h:F→B→A:=by intro f k; (repeat (first | with_reducible refine go_seq ?_ | with_reducible refine go_regS ?_ | with_reducible refine gs_nil ?_ | with_reducible refine go_tn ?_ | with_reducible refine go_sk ?_ | with_reducible refine go_blk ?_ | with_reducible refine go_exit ?_ | with_reducible refine go_ret ?_ | with_reducible refine go_tr ?_ | with_reducible refine go_te ?_ | with_reducible refine go_bn ?_ | with_reducible refine go_br ?_ | with_reducible refine go_be ?_ | ((with_reducible refine go_bo ?_ ?_); exact rfl) | ((with_reducible apply gs_app0); exact rfl; exact ev0 f; exact ev0 f; (first | exact evp f | exact ev0 f | exact eu0 f)) | ((with_reducible apply gs_op0); exact rfl; exact rfl; exact ev0 f) | ((with_reducible apply gs_op0); exact rfl; exact rfl; exact eu0 f) | ((with_reducible apply gs_skipu0); exact rfl; exact ev0 f) | ((with_reducible apply gs_skip0); exact rfl; exact ev0 f) | ((with_reducible apply gs_guard); exact ev0 f) | ((with_reducible apply gs_appm); exact ev0 f; exact ev0 f; (first | exact evp f | exact ev0 f | exact eu0 f); (first | exact ti | exact inw0 f)) | ((with_reducible apply gs_op); exact rfl; decide +kernel; exact rfl; exact ev0 f) | ((with_reducible apply gs_act); exact rfl; exact rfl; exact ev0 f; (first | exact ti | exact inw0 f)) | ((with_reducible apply gs_op); exact rfl; decide +kernel; exact rfl; exact eu0 f) | ((with_reducible apply gs_act); exact rfl; exact rfl; exact eu0 f; (first | exact ti | exact inw0 f)) | ((with_reducible apply gs_load); exact rfl; decide +kernel; exact rfl; exact ev0 f; (first | exact ti | exact inw0 f)) | ((with_reducible apply gs_skipu); decide +kernel; exact rfl; exact ev0 f) | ((with_reducible apply gs_skip); decide +kernel; exact rfl; exact ev0 f) | ((with_reducible apply gs_call); exact ev0 f) | ((with_reducible apply gs_callv); exact ev0 f; exact rfl; kernel_rfl; exact ev0 f) | ((with_reducible apply gs_callb); exact ev0 f; exact rfl; exact rfl; kernel_rfl; exact ev0 f) | ((with_reducible refine go_ct ?_ ?_); exact ev0 f) | ((with_reducible refine go_cf ?_ ?_); exact ev0 f) | ((with_reducible apply go_fr); exact ev0 f) | ((with_reducible apply go_fn); exact ev0 f) | ((with_reducible refine go_drawB 1 ?_ ?_); decide +kernel) | ((with_reducible refine go_drawB 2 ?_ ?_); decide +kernel))); exact k):A:=h f k
theorem V_A:∀ v:V,V.A v = .agg v.cells:=fun _=>rfl
theorem V_cells:∀ k n s is ks,V.cells (.mk k n s is ks)=[.int .i64 k,.int .i64 n,.str s,.sl 5 .no (V.cellss is),.sl 1 .no (strsA ks)]:=fun k n s is ks=>by rw [V.cells]
theorem use {P:Program} {G:World→Prop} {m i:Nat} {fl:List Bool} {past:List Hp} {obs:Obs} {d:Option Nat} {af:List Nat} {os:List AOper} {K:Ts→Hp→Prop} {ts:Ts} {h:Hp} {f:FuncId} {vs:List A} {h':Hp} {v:A} (hc:ACall P G f vs h fun v' h''=>v'=v∧h''=h') (k:aseq P G m (i+1) fl.tail os (pastN m h past) (obsN m af obs) K (put ts d v) h') (hm:(m=2→h'=h∧fl.headD false=false)∧(m≠2→obsP af obs h'):=by first | exact ⟨fun e=>absurd e (by decide),fun _=>ti⟩ | exact ⟨fun e=>absurd e (by decide),fun _=>inw0 ti⟩ | exact ⟨fun _=>⟨rfl,by decide +kernel⟩,fun e=>absurd rfl e⟩):CallK P G m i fl f vs h d af os past obs K ts:=rt hc hm k
theorem runx0 {A B F C:Prop} (f:F) (c:C) (k:B) (h:F→C→B→A:=by intro f c k; (repeat (first | with_reducible refine go_seq ?_ | with_reducible refine go_regS ?_ | with_reducible refine gs_nil ?_ | with_reducible refine go_tn ?_ | with_reducible refine go_sk ?_ | with_reducible refine go_blk ?_ | with_reducible refine go_exit ?_ | with_reducible refine go_ret ?_ | with_reducible refine go_tr ?_ | with_reducible refine go_te ?_ | with_reducible refine go_bn ?_ | with_reducible refine go_br ?_ | with_reducible refine go_be ?_ | ((with_reducible refine go_bo ?_ ?_); exact rfl) | ((with_reducible apply gs_app0); exact rfl; exact ev0 f; exact ev0 f; (first | exact evp f | exact ev0 f | exact eu0 f)) | ((with_reducible apply gs_op0); exact rfl; exact rfl; exact ev0 f) | ((with_reducible apply gs_op0); exact rfl; exact rfl; exact eu0 f) | ((with_reducible apply gs_skipu0); exact rfl; exact ev0 f) | ((with_reducible apply gs_skip0); exact rfl; exact ev0 f) | ((with_reducible apply gs_guard); exact ev0 f) | ((with_reducible apply gs_appm); exact ev0 f; exact ev0 f; (first | exact evp f | exact ev0 f | exact eu0 f); (first | exact ti | exact inw0 f)) | ((with_reducible apply gs_op); exact rfl; decide +kernel; exact rfl; exact ev0 f) | ((with_reducible apply gs_act); exact rfl; exact rfl; exact ev0 f; (first | exact ti | exact inw0 f)) | ((with_reducible apply gs_op); exact rfl; decide +kernel; exact rfl; exact eu0 f) | ((with_reducible apply gs_act); exact rfl; exact rfl; exact eu0 f; (first | exact ti | exact inw0 f)) | ((with_reducible apply gs_load); exact rfl; decide +kernel; exact rfl; exact ev0 f; (first | exact ti | exact inw0 f)) | ((with_reducible apply gs_skipu); decide +kernel; exact rfl; exact ev0 f) | ((with_reducible apply gs_skip); decide +kernel; exact rfl; exact ev0 f) | ((with_reducible apply gs_call); exact ev0 f) | ((with_reducible apply gs_callv); exact ev0 f; exact rfl; kernel_rfl; exact ev0 f) | ((with_reducible apply gs_callb); exact ev0 f; exact rfl; exact rfl; kernel_rfl; exact ev0 f) | ((with_reducible refine go_ct ?_ ?_); exact ev0 f) | ((with_reducible refine go_cf ?_ ?_); exact ev0 f) | ((with_reducible apply go_fr); exact ev0 f) | ((with_reducible apply go_fn); exact ev0 f) | ((with_reducible refine go_drawB 1 ?_ ?_); decide +kernel) | ((with_reducible refine go_drawB 2 ?_ ?_); decide +kernel) | ((with_reducible apply gw_op0); exact rfl; exact rfl; exact evw0 f; (intro hp; simp only [gok_t,gok_f,Bool.true_and,Bool.and_true,Bool.and_eq_true,Bool.not_eq_true'] at hp <;> first | exact ev0 (ai hp f) | (have hq:=hp; simp only [decide_eq_true_eq,decide_eq_false_iff_not,bne_iff_ne,ne_eq,beq_iff_eq,Bool.not_eq_true,beq_eq_false_iff_ne] at hq; exact ev0 (ai hq (ai hp f))))) | ((with_reducible apply gw_op); exact rfl; decide +kernel; exact rfl; exact evw0 f; (intro hp; simp only [gok_t,gok_f,Bool.true_and,Bool.and_true,Bool.and_eq_true,Bool.not_eq_true'] at hp <;> first | exact ev0 (ai hp f) | (have hq:=hp; simp only [decide_eq_true_eq,decide_eq_false_iff_not,bne_iff_ne,ne_eq,beq_iff_eq,Bool.not_eq_true,beq_eq_false_iff_ne] at hq; exact ev0 (ai hq (ai hp f))))) | ((with_reducible apply gw_call0); exact rfl; exact evw0 f; (intro hp; simp only [gok_t,gok_f,Bool.true_and,Bool.and_true,Bool.and_eq_true,Bool.not_eq_true'] at hp <;> first | exact ev0 (ai hp f) | (have hq:=hp; simp only [decide_eq_true_eq,decide_eq_false_iff_not,bne_iff_ne,ne_eq,beq_iff_eq,Bool.not_eq_true,beq_eq_false_iff_ne] at hq; exact ev0 (ai hq (ai hp f))))) | ((with_reducible apply gw_call2); decide +kernel; exact evw0 f; (intro hp; simp only [gok_t,gok_f,Bool.true_and,Bool.and_true,Bool.and_eq_true,Bool.not_eq_true'] at hp <;> first | exact ev0 (ai hp f) | (have hq:=hp; simp only [decide_eq_true_eq,decide_eq_false_iff_not,bne_iff_ne,ne_eq,beq_iff_eq,Bool.not_eq_true,beq_eq_false_iff_ne] at hq; exact ev0 (ai hq (ai hp f))))) | refine use (c.1 _) ?_ | refine use (c.1 _ _) ?_ | refine use c.1 ?_ | refine use (c.2.1 _) ?_ | refine use (c.2.1 _ _) ?_ | refine use c.2.1 ?_ | refine use (c.2.2.1 _) ?_ | refine use (c.2.2.1 _ _) ?_ | refine use c.2.2.1 ?_ | refine use (c.2.2.2.1 _) ?_ | refine use (c.2.2.2.1 _ _) ?_ | refine use c.2.2.2.1 ?_ | refine use (c.2.2.2.2.1 _) ?_ | refine use (c.2.2.2.2.1 _ _) ?_ | refine use c.2.2.2.2.1 ?_ | refine use (c.2.2.2.2.2.1 _) ?_ | refine use (c.2.2.2.2.2.1 _ _) ?_ | refine use c.2.2.2.2.2.1 ?_ | refine use (c.2.2.2.2.2.2.1 _) ?_ | refine use (c.2.2.2.2.2.2.1 _ _) ?_ | refine use c.2.2.2.2.2.2.1 ?_ | refine use (c.2.2.2.2.2.2.2.1 _) ?_ | refine use (c.2.2.2.2.2.2.2.1 _ _) ?_ | refine use c.2.2.2.2.2.2.2.1 ?_ | refine use (c.2.2.2.2.2.2.2.2.1 _) ?_ | refine use (c.2.2.2.2.2.2.2.2.1 _ _) ?_ | refine use c.2.2.2.2.2.2.2.2.1 ?_ | refine usew (c.1 _) ?_ | refine usew (c.1 _ _) ?_ | refine usew c.1 ?_ | refine usew (c.2.1 _) ?_ | refine usew (c.2.1 _ _) ?_ | refine usew c.2.1 ?_ | refine usew (c.2.2.1 _) ?_ | refine usew (c.2.2.1 _ _) ?_ | refine usew c.2.2.1 ?_ | refine usew (c.2.2.2.1 _) ?_ | refine usew (c.2.2.2.1 _ _) ?_ | refine usew c.2.2.2.1 ?_ | refine usew (c.2.2.2.2.1 _) ?_ | refine usew (c.2.2.2.2.1 _ _) ?_ | refine usew c.2.2.2.2.1 ?_ | refine usew (c.2.2.2.2.2.1 _) ?_ | refine usew (c.2.2.2.2.2.1 _ _) ?_ | refine usew c.2.2.2.2.2.1 ?_ | refine usew (c.2.2.2.2.2.2.1 _) ?_ | refine usew (c.2.2.2.2.2.2.1 _ _) ?_ | refine usew c.2.2.2.2.2.2.1 ?_ | refine usew (c.2.2.2.2.2.2.2.1 _) ?_ | refine usew (c.2.2.2.2.2.2.2.1 _ _) ?_ | refine usew c.2.2.2.2.2.2.2.1 ?_ | refine usew (c.2.2.2.2.2.2.2.2.1 _) ?_ | refine usew (c.2.2.2.2.2.2.2.2.1 _ _) ?_ | refine usew c.2.2.2.2.2.2.2.2.1 ?_)); exact k):A:=h f c k
theorem runc0 {A B F C:Prop} (f:F) (c:C) (k:B) (h:F→C→B→A:=by intro f c k; refine run0 f ?_; (repeat ((first | refine use (c.1 _) ?_ | refine use (c.1 _ _) ?_ | refine use c.1 ?_ | refine use (c.2.1 _) ?_ | refine use (c.2.1 _ _) ?_ | refine use c.2.1 ?_ | refine use (c.2.2.1 _) ?_ | refine use (c.2.2.1 _ _) ?_ | refine use c.2.2.1 ?_ | refine use (c.2.2.2.1 _) ?_ | refine use (c.2.2.2.1 _ _) ?_ | refine use c.2.2.2.1 ?_ | refine use (c.2.2.2.2.1 _) ?_ | refine use (c.2.2.2.2.1 _ _) ?_ | refine use c.2.2.2.2.1 ?_ | refine use (c.2.2.2.2.2.1 _) ?_ | refine use (c.2.2.2.2.2.1 _ _) ?_ | refine use c.2.2.2.2.2.1 ?_ | refine use (c.2.2.2.2.2.2.1 _) ?_ | refine use (c.2.2.2.2.2.2.1 _ _) ?_ | refine use c.2.2.2.2.2.2.1 ?_ | refine use (c.2.2.2.2.2.2.2.1 _) ?_ | refine use (c.2.2.2.2.2.2.2.1 _ _) ?_ | refine use c.2.2.2.2.2.2.2.1 ?_ | refine use (c.2.2.2.2.2.2.2.2.1 _) ?_ | refine use (c.2.2.2.2.2.2.2.2.1 _ _) ?_ | refine use c.2.2.2.2.2.2.2.2.1 ?_); refine run0 f ?_)); exact k):A:=h f c k
theorem evg {A F:Prop} (f:F) (h:F→A:=by intro f; simp only [put_app,put_none,init_app,evX_t,evX_c,resA_nil,resA_t,resA_c,tupA_0,tupA_1,tupA_2,astep,bop,uop,loadA,storeA,appA,ssliceA,eqA,eqCells,fillA,rowsA,setCells,A.cells,A.one,A.data,optP_some,List.all_cons,List.all_nil,Bool.and_true,Bool.true_and,Bool.false_and,Option.map_some,Option.map_none,Option.bind_some,Option.bind_none,Option.getD_some,Option.getD_none,List.map_cons,List.map_nil,List.getD_cons_zero,List.getD_cons_succ,List.getElem?_cons_zero,List.getElem?_cons_succ,List.getElem?_concat_length,get_p1,get_p2,set_p0,set_p1,set_p2,get_q1,get_q2,get_q3,set_q1,set_q2,set_q3,List.length_cons,List.length_nil,List.nil_append,List.cons_append,List.append_nil,List.set_cons_zero,List.set_cons_succ,List.drop_zero,List.drop_succ_cons,List.take_succ_cons,List.take_zero,List.take_nil,List.take_length,List.length_append,List.length_set,Nat.reduceAdd,Nat.reduceSub,Nat.reduceMul,Nat.reduceLeDiff,Nat.reduceEqDiff,Nat.reduceBEq,Int.toNat_natCast,Int.natCast_nonneg,Int.reduceBEq,Int.reduceBNe,Int.reduceLT,Int.reduceLE,Int.reduceEq,Int.le_refl,Int.toNat_zero,if_true,if_false,reduceIte,ite_true,ite_false,true_and,and_true,ne_eq,not_true_eq_false,not_false_eq_true,Bool.false_eq_true,reduceCtorEq,and_self,Nat.zero_add,Nat.add_zero,Nat.le_refl,Bool.not_true,Bool.not_false,and_self,decide_true,decide_false,beq_self_eq_true,bne_self_eq_false,forL,nxt2,Nat.reduceMod,Option.some.injEq,List.getD_cons_zero,List.getD_cons_succ,f] <;> with_reducible rfl):A:=h f
theorem ing {A F:Prop} (f:F) (h:F→A:=by intro f; simp only [put_app,put_none,init_app,evX_t,evX_c,resA_nil,resA_t,resA_c,tupA_0,tupA_1,tupA_2,astep,bop,uop,loadA,storeA,appA,ssliceA,eqA,eqCells,fillA,rowsA,setCells,A.cells,A.one,A.data,optP_some,List.all_cons,List.all_nil,Bool.and_true,Bool.true_and,Bool.false_and,Option.map_some,Option.map_none,Option.bind_some,Option.bind_none,Option.getD_some,Option.getD_none,List.map_cons,List.map_nil,List.getD_cons_zero,List.getD_cons_succ,List.getElem?_cons_zero,List.getElem?_cons_succ,List.getElem?_concat_length,get_p1,get_p2,set_p0,set_p1,set_p2,get_q1,get_q2,get_q3,set_q1,set_q2,set_q3,List.length_cons,List.length_nil,List.nil_append,List.cons_append,List.append_nil,List.set_cons_zero,List.set_cons_succ,List.drop_zero,List.drop_succ_cons,List.take_succ_cons,List.take_zero,List.take_nil,List.take_length,List.length_append,List.length_set,Nat.reduceAdd,Nat.reduceSub,Nat.reduceMul,Nat.reduceLeDiff,Nat.reduceEqDiff,Nat.reduceBEq,Int.toNat_natCast,Int.natCast_nonneg,Int.reduceBEq,Int.reduceBNe,Int.reduceLT,Int.reduceLE,Int.reduceEq,Int.le_refl,Int.toNat_zero,if_true,if_false,reduceIte,ite_true,ite_false,true_and,and_true,ne_eq,not_true_eq_false,not_false_eq_true,Bool.false_eq_true,reduceCtorEq,and_self,Nat.zero_add,Nat.add_zero,Nat.le_refl,Bool.not_true,Bool.not_false,and_self,decide_true,decide_false,beq_self_eq_true,bne_self_eq_false,forL,nxt2,Nat.reduceMod,Option.some.injEq,List.getD_cons_zero,List.getD_cons_succ,f] <;> exact ti):A:=h f
theorem rung {A B F:Prop} (f:F) (k:B) (h:F→B→A:=by intro f k; (repeat (first | with_reducible refine gn_nil ?_ | ((with_reducible apply gn_op); exact rfl; (refine ⟨?_,?_⟩); exact evg f; (first | exact ti | exact ing f)))); exact k):A:=h f k
def c_rcheck:AX.AFn:=⟨52,aS [aR 3 (.box 42 (.t 0)),aR 6 (.mv (aI 0)),aR 7 (.mv (aI 0))] (.seq (aS [aM 13 1,aR 14 (.bin .gtr (.t 13) (aI 32))] (.cond (.t 14) (aS [aM 15 2,aR 6 (.mv (aI 4)),aM 7 15] (.ret)) (.skip))) (.seq (aS [aM 16 2,aR 17 (.bin .geq (.t 16) (aI 4096))] (.cond (.t 17) (aS [aM 18 2,aR 6 (.mv (aI 14)),aM 7 18] (.ret)) (.skip))) (.seq (aS [aR 19 (.load true 5 (.t 3)),aR 20 (.call 153 [.t 19]),aM 8 20] (aS [aM 21 8,aR 22 (.bin .neq (.t 21) (aI 0))] (.cond (.t 22) (aS [aM 23 8,aM 24 2,aM 6 23,aM 7 24] (.ret)) (.skip)))) (aS [aM 25 2,aR 26 (.bin .add (.t 25) (aI 1)),aM 9 26] (.seq (aS [aR 10 (.mv (aI 0))] (.block 0 (.loop (.seq (aS [aM 27 10,aF 28 3 3,aL 29 28,aR 30 (.len false (.t 29)),aR 31 (.bin .lss (.t 27) (.t 30))] (.cond (.t 31) (.skip) (.exit 0))) (.seq (.block 1 (aS [aF 35 3 3,aL 36 35,aM 37 10,aR 38 (.iaddr 5 (.t 36) (.t 37)),aR 39 (.load true 5 (.t 38)),aM 40 1,aR 41 (.bin .add (.t 40) (aI 1)),aM 42 9,aR 43 (.call 130 [.t 39,.t 41,.t 42]),aM 34 43,aE 44 34 0,aE 45 34 1,aM 11 44,aM 12 45] (.seq (aS [aM 46 11,aR 47 (.bin .neq (.t 46) (aI 0))] (.cond (.t 47) (aS [aM 48 11,aM 49 12,aM 6 48,aM 7 49] (.ret)) (.skip))) (.reg false [aM 50 12,aM 9 50])))) (.reg false [aM 32 10,aR 33 (.bin .add (.t 32) (aI 1)),aM 10 33])))))) (aS [aM 51 9,aR 6 (.mv (aI 0)),aM 7 51] (.ret))))))),[.t 6,.t 7]⟩
theorem h_rcheck:AX.compFn Tryz.prog 130=some c_rcheck:=by kernel_rfl
def c_rCheck:AX.AFn:=⟨11,aS [aR 1 (.box 42 (.t 0)),aR 2 (.mv (aI 0))] (aS [aR 6 (.load true 5 (.t 1)),aR 7 (.call 130 [.t 6,aI 1,aI 0]),aM 5 7,aE 8 5 0,aE 9 5 1,aM 3 8,aM 4 9] (aS [aM 10 3,aM 2 10] (.ret))),[.t 2]⟩
theorem h_rCheck:AX.compFn Tryz.prog 106=some c_rCheck:=by kernel_rfl
theorem chks_nil (lv b:Nat):Val.chks [] lv b=(0,b):=by rw [Val.chks]
theorem chks_cons (v:V) (l:List V) (lv b:Nat):Val.chks (v::l) lv b=if (Val.chk v lv b).1≠0 then Val.chk v lv b else Val.chks l lv (Val.chk v lv b).2:=by rw [Val.chks]
theorem a_rnode (k n:Int) (s:List UInt8) (is:List V) (ks:List (List UInt8)) (hlen:(V.mk k n s is ks).lens) (h:Hp):ACall Tryz.prog GT 153 [(V.mk k n s is ks).A] h fun r h'=>r = .int .i64 (Val.nodeZ (.mk k n s is ks))∧h'=h:=by
 refine pcall ?_ rfl (by simp [V.A,V.cells,A.pure,A.data]) h
 obtain ⟨hil,hkl,_,_⟩:=V.lens_mk hlen
 refine fo ?_
 refine go0 (ai @V_A @V_cells) ?_
 refine gc0 (ai @V_A @V_cells) ?_
 refine (a_refShaped k n s .no .no 5 1 _ _ _).mono ?_
 rintro v h' ⟨rfl,rfl⟩
 rw [V.cellss_length,strsA_length]
 have hZ:Val.nodeZ (.mk k n s is ks)=if Val.shapedB k n s is.length ks.length=false then 1 else if k=2∧¬ (-9007199254740992≤n∧n≤9007199254740992) then 5 else if Val.textZ s≠0 then Val.textZ s else Val.keysZ none ks:=by rw [Val.nodeZ]
 rcases bool_or (Val.shapedB k n s is.length ks.length) with hs | hs
 ·rw [hs]
  rw [if_neg (by rw [hs]; simp)] at hZ
  have hc:(k=2∧¬ (-9007199254740992≤n∧n≤9007199254740992))∨(k=2∧(-9007199254740992≤n∧n≤9007199254740992))∨k≠2:=by
   by_cases hk:k=2
   ·by_cases hn:-9007199254740992≤n∧n≤9007199254740992
    ·exact .inr (.inl ⟨hk,hn⟩)
    ·exact .inl ⟨hk,hn⟩
   ·exact .inr (.inr hk)
  rcases hc with ⟨hk,hn⟩ | ⟨hk,hn⟩ | hk
  ·have hk':(k == 2)=true:=by simp [hk]
   rw [if_pos ⟨hk,hn⟩] at hZ
   (refine AX.go0 (AX.ai @V_A (AX.ai @V_cells hk')) ?_)
   (refine AX.gc0 (AX.ai @V_A (AX.ai @V_cells hk')) ?_)
   refine (a_rnvalid n _).mono ?_
   rintro v h' ⟨rfl, rfl⟩
   (refine AX.go0 (AX.ai @V_A (AX.ai @V_cells (AX.ai hn hk'))) ?_)
   exact ⟨_, le_refl _, by rw [tupA_1, hZ]⟩
  all_goals first
   | (have hn' := hn.1
      have hk' : (k == 2) = true := by simp [hk]
      rw [if_neg (by simp [hn])] at hZ
      (refine AX.go0 (AX.ai @V_A (AX.ai @V_cells hk')) ?_)
      (refine AX.gc0 (AX.ai @V_A (AX.ai @V_cells hk')) ?_)
      refine (a_rnvalid n _).mono ?_
      rintro v h' ⟨rfl, rfl⟩
      (refine AX.go0 (AX.ai @V_A (AX.ai @V_cells (AX.ai hn hk'))) ?_))
   | (have hk' : (k == 2) = false := by simp [hk]
      rw [if_neg (by simp [hk])] at hZ
      (refine AX.go0 (AX.ai @V_A (AX.ai @V_cells hk')) ?_))
  all_goals
   refine gc0 (ai @V_A @V_cells) ?_
   refine (a_rtext s _).mono ?_
   rintro v h' ⟨rfl,rfl⟩
   by_cases ht:Val.textZ s=0
   ·rw [if_neg (by simp [ht])] at hZ
    rw [ht]
    refine go0 (ai @V_A @V_cells) ?_
    refine awp_loop (fun m ts h=>h=⟨[.cells 42 (V.mk k n s is ks).cells],[]⟩∧∃ (i:Nat),m=ks.length - i∧i≤ks.length∧Val.keysZ (if i=0 then none else ks[i - 1]?) (ks.drop i)=Val.keysZ none ks∧ts 1 = .ptr 0 0∧ts 4 = .int .i64 i) ks.length ?_ ?_
    ·refine ⟨rfl,0,rfl,Nat.zero_le _,rfl,?_⟩
     (exact inv0 ti)
    ·rintro m ts h ⟨rfl,i,rfl,hi,heq,t1,t4⟩
     by_cases hlt:i < ks.length
     ·have hlt':(i:Int) < ((strsA ks).length:Int):=by rw [strsA_length]; omega
      have ee:=strsA_get ks i hlt
      have ei:IntKind.i64.wrap ((i:Int)+1)=(i:Int)+1:=wrap64 (by omega) (by omega)
      rw [List.drop_eq_getElem_cons hlt,Val.keysZ] at heq
      refine go0 (ai @V_cells (ai t1 (ai t4 (ai hlt' (ai ee ei))))) ?_
      refine gc0 (ai @V_cells (ai t1 (ai t4 (ai hlt' (ai ee ei))))) ?_
      refine (a_rtext ks[i] _).mono ?_
      rintro v h' ⟨rfl,rfl⟩
      by_cases ht2:Val.textZ ks[i]=0
      ·rw [if_neg (by simp [ht2])] at heq
       rw [ht2]
       refine go0 (ai @V_cells (ai t1 (ai t4 (ai hlt' (ai ee ei))))) ?_
       refine awp_quiet (by decide) ?_
       cases i with
       | zero =>
        have h0:¬ ((0:Nat):Int) > 0:=by omega
        simp only [Nat.reduceAdd,if_true,Val.badB,Bool.false_eq_true,if_false] at heq
        refine go0 (ai @V_cells (ai t1 (ai t4 (ai hlt' (ai ee (ai ei h0)))))) ?_
        refine ⟨ks.length - 1,by omega,rfl,1,rfl,by omega,?_,?_⟩
        ·rw [←heq]; simp [hlt]
        ·(exact inv0 (ai t1 (ai t4 ei)))
       | succ j =>
        have h0:((j+1:Nat):Int) > 0:=by omega
        have ej:IntKind.i64.wrap (((j+1:Nat):Int) - 1)=(j:Int):=by rw [wrap64 (by omega) (by omega)]; omega
        have ee2:=strsA_get ks j (by omega)
        have hj':(j:Int) < ((strsA ks).length:Int):=by omega
        have hkj:ks[j+1 - 1]?=some (ks[j]'(by omega)):=List.getElem?_eq_getElem (by omega)
        rw [show (if j+1=0 then none else ks[j+1 - 1]?)=some (ks[j]'(by omega)) from by rw [if_neg (by omega)]; exact hkj] at heq
        simp only [Val.badB] at heq
        rcases bool_or (Op.bytesLess (ks[j]'(by omega)) ks[j+1]) with hb | hb
        ·simp only [hb,Bool.not_true,Bool.not_false,Bool.false_eq_true,if_false,if_true] at heq
         refine go0 (ai @V_cells (ai t1 (ai t4 (ai hlt' (ai ee (ai ee2 (ai ei (ai ej (ai h0 (ai hj' hb)))))))))) ?_
         refine ⟨ks.length - (j+1+1),by omega,rfl,j+1+1,rfl,by omega,?_,?_⟩
         ·rw [←heq]; simp [hlt]
         ·(exact inv0 (ai t1 (ai t4 ei)))
        ·simp only [hb,Bool.not_true,Bool.not_false,Bool.false_eq_true,if_false,if_true] at heq
         refine go0 (ai @V_cells (ai t1 (ai t4 (ai hlt' (ai ee (ai ee2 (ai ei (ai ej (ai h0 (ai hj' hb)))))))))) ?_
         exact ⟨_,le_refl _,by rw [tupA_1,hZ,←heq]⟩
      ·have ht3:(Val.textZ ks[i] != 0)=true:=by simp [ht2]
       rw [if_pos (by simp [ht2])] at heq
       refine go0 (ai @V_cells (ai t1 (ai t4 (ai hlt' (ai ee (ai ei ht3)))))) ?_
       exact ⟨_,le_refl _,by rw [tupA_1,hZ,←heq]⟩
     ·have hlt':¬ (i:Int) < ((strsA ks).length:Int):=by rw [strsA_length]; omega
      refine go0 (ai @V_cells (ai t1 (ai t4 hlt'))) ?_
      refine ⟨_,le_refl _,?_⟩
      rw [tupA_1,hZ,←heq,List.drop_of_length_le (by omega)]
      cases (if i=0 then none else ks[i - 1]?) <;> rfl
   ·have ht':(Val.textZ s != 0)=true:=by simp [ht]
    rw [if_pos (by simp [ht])] at hZ
    refine go0 (ai @V_A (ai @V_cells ht')) ?_
    exact ⟨_,le_refl _,by rw [tupA_1,hZ]⟩
 ·rw [hs]
  refine go0 (ai @V_A @V_cells) ?_
  exact ⟨_,le_refl _,by rw [tupA_1,hZ,if_pos hs]⟩
theorem t_check:∀ (v:V) (lv b:Nat),v.lens→ACall Tryz.prog GT 130 [v.A,.int .i64 lv,.int .i64 b] ⟨[],[]⟩ fun r _=>r = .tup [.int .i64 (Val.chk v lv b).1,.int .i64 (Val.chk v lv b).2]:=by
 refine V.induct fun k n s is ks ih=>?_
 intro lv b hlen
 refine acall_of mixedT h_rcheck (by simp [c_rcheck]) ?_
 dsimp only [c_rcheck]
 obtain ⟨hil,hkl,_,hmem⟩:=V.lens_mk hlen
 by_cases h1:(lv:Int) > 32
 ·refine go0 (ai @V_A (ai @V_cells h1)) ?_
  exact ⟨_,le_refl _,by rw [tupA_2,Val.chk,if_pos (by omega)]⟩
 by_cases h2:(b:Int)≥4096
 ·refine go0 (ai @V_A (ai @V_cells (ai h1 h2))) ?_
  exact ⟨_,le_refl _,by rw [tupA_2,Val.chk,if_neg (by omega),if_pos (by omega)]⟩
 refine go0 (ai @V_A (ai @V_cells (ai h1 h2))) ?_
 refine gc0 (ai @V_A (ai @V_cells (ai h1 h2))) ?_
 refine (a_rnode k n s is ks hlen _).mono ?_
 rintro v h' ⟨rfl,rfl⟩
 by_cases hn:Val.nodeZ (.mk k n s is ks)=0
 ·rw [hn]
  have eb:IntKind.i64.wrap ((b:Int)+1)=((b+1:Nat):Int):=by rw [wrap64 (by omega) (by omega)]; omega
  have elv:IntKind.i64.wrap ((lv:Int)+1)=((lv+1:Nat):Int):=by rw [wrap64 (by omega) (by omega)]; omega
  refine go0 (ai @V_A (ai @V_cells (ai h1 (ai h2 eb)))) ?_
  have hC:Val.chk (.mk k n s is ks) lv b=Val.chks is (lv+1) (b+1):=by rw [Val.chk,if_neg (by omega),if_neg (by omega),if_neg (by simp [hn])]
  refine awp_loop (fun m ts h=>h=⟨[.cells 42 (V.mk k n s is ks).cells],[]⟩∧∃ (i q:Nat),m=is.length - i∧i≤is.length∧Val.chks (is.drop i) (lv+1) q=Val.chks is (lv+1) (b+1)∧ts 1 = .int .i64 lv∧ts 3 = .ptr 0 0∧ts 9 = .int .i64 q∧ts 10 = .int .i64 i) is.length ?_ ?_
  ·refine ⟨rfl,0,b+1,rfl,Nat.zero_le _,rfl,?_⟩
   (exact inv0 ti)
  ·rintro m ts h ⟨rfl,i,q,rfl,hi,heq,t1,t3,t9,t10⟩
   by_cases hlt:i < is.length
   ·have hlt':(i:Int) < ((V.cellss is).length:Int):=by rw [V.cellss_length]; omega
    have ei:IntKind.i64.wrap ((i:Int)+1)=(i:Int)+1:=wrap64 (by omega) (by omega)
    have ee:=V.cellss_get is i hlt
    have hcall:=ih is[i] (List.getElem_mem hlt) (lv+1) q (hmem _ (List.getElem_mem hlt))
    rw [List.drop_eq_getElem_cons hlt,chks_cons] at heq
    obtain ⟨⟨k',n',s',is',ks'⟩,hv⟩:∃ x,is[i]=x:=⟨_,rfl⟩
    rw [hv] at ee hcall heq
    refine go0 (ai @V_cells (ai t1 (ai t3 (ai t9 (ai t10 (ai hlt' (ai ee (ai elv ei)))))))) ?_
    refine gc0 (ai @V_cells (ai t1 (ai t3 (ai t9 (ai t10 elv))))) ?_
    refine (pcall hcall rfl (by simp [V.A,V.cells,A.pure,A.data]) _).mono ?_
    rintro v h' ⟨rfl,rfl⟩
    by_cases hz:(Val.chk (.mk k' n' s' is' ks') (lv+1) q).1=0
    ·rw [if_neg (by simp [hz])] at heq
     rw [hz]
     refine go0 (ai @V_cells (ai t1 (ai t3 (ai t9 (ai t10 (ai hlt' (ai ee (ai elv ei)))))))) ?_
     refine ⟨is.length - (i+1),by omega,rfl,i+1,_,rfl,by omega,heq,?_⟩
     (exact inv0 (ai t1 (ai t3 (ai t9 (ai t10 ei)))))
    ·have hz':((Val.chk (.mk k' n' s' is' ks') (lv+1) q).1 != 0)=true:=by simp [hz]
     rw [if_pos (by simp [hz])] at heq
     refine go0 (ai @V_cells (ai t1 (ai t3 (ai t9 (ai t10 (ai hlt' (ai ee (ai elv (ai ei hz'))))))))) ?_
     exact ⟨_,le_refl _,by rw [tupA_2,hC,←heq]⟩
   ·have hlt':¬ (i:Int) < ((V.cellss is).length:Int):=by rw [V.cellss_length]; omega
    refine go0 (ai @V_cells (ai t1 (ai t3 (ai t9 (ai t10 hlt'))))) ?_
    refine ⟨_,le_refl _,?_⟩
    rw [tupA_2,hC,←heq,List.drop_of_length_le (by omega),chks_nil]
 ·have hn':(Val.nodeZ (.mk k n s is ks) != 0)=true:=by simp [hn]
  refine go0 (ai @V_A (ai @V_cells (ai h1 (ai h2 hn')))) ?_
  exact ⟨_,le_refl _,by rw [tupA_2,Val.chk,if_neg (by omega),if_neg (by omega),if_pos (by simp [hn])]⟩
theorem a_rCheck (v:V) (hlen:v.lens) (h:Hp):ACall Tryz.prog GT 106 [v.A] h fun r h'=>r = .int .i64 (Val.checkZ v)∧h'=h:=by
 have ht:ACall Tryz.prog GT 130 [v.A,.int .i64 1,.int .i64 0] ⟨[],[]⟩ fun r _=>r = .tup [.int .i64 (Val.chk v 1 0).1,.int .i64 (Val.chk v 1 0).2]:=t_check v 1 0 hlen
 obtain ⟨k,n,s,is,ks⟩:=v
 refine pcall ?_ rfl (by simp [V.A,V.cells,A.pure,A.data]) h
 refine acall_of mixedT h_rCheck (by simp [c_rCheck]) ?_
 dsimp only [c_rCheck]
 refine go0 (ai @V_A @V_cells) ?_
 refine gc0 (ai @V_A @V_cells) ?_
 refine (pcall ht rfl (by simp [V.A,V.cells,A.pure,A.data]) _).mono ?_
 rintro v h' ⟨rfl,rfl⟩
 refine go0 (ai @V_A @V_cells) ?_
 exact ⟨_,le_refl _,rfl⟩
def c_vnode:AX.AFn:=⟨50,aS [aR 1 (.box 42 (.t 0)),aR 2 (.mv (aI 0))] (.seq (aS [aR 6 (.load true 5 (.t 1)),aR 7 (.call 119 [.t 6]),aR 8 (.un .not (.t 7))] (.cond (.t 8) (aS [aR 2 (.mv (aI 1))] (.ret)) (.skip))) (.seq (aS [aF 9 0 1,aL 10 9] (.block 0 (aS [aR 12 (.bin .eql (.t 10) (aI 2)),aM 11 12] (.cond (.t 11) (aS [aF 13 1 1,aL 14 13,aR 15 (.call 118 [.t 14]),aR 16 (.un .not (.t 15))] (.cond (.t 16) (aS [aR 2 (.mv (aI 5))] (.ret)) (.skip))) (aS [aR 18 (.bin .eql (.t 10) (aI 3)),aM 17 18] (.cond (.t 17) (aS [aF 19 2 1,aL 20 19,aR 21 (.call 120 [.t 20]),aM 2 21] (.ret)) (aS [aR 23 (.bin .eql (.t 10) (aI 5)),aM 22 23] (.cond (.t 22) (aS [aF 24 4 1,aL 25 24,aR 26 (.len false (.t 25)),aR 27 (.mv (aI 0))] (.block 1 (.loop (aS [aR 28 (.bin .lss (.t 27) (.t 26))] (.seq (.cond (.t 28) (.skip) (.exit 1)) (.seq (.block 2 (aS [aM 29 27,aR 30 (.iaddr 1 (.t 25) (.t 27)),aL 31 30,aM 3 29,aM 4 31] (.seq (aS [aM 32 4,aR 33 (.call 120 [.t 32]),aM 5 33] (aS [aM 34 5,aR 35 (.bin .neq (.t 34) (aI 0))] (.cond (.t 35) (aS [aM 36 5,aM 2 36] (.ret)) (.skip)))) (aS [aM 37 3,aR 38 (.bin .gtr (.t 37) (aI 0)),aM 39 38,aG 40 (.mv (.t 4)) 39 true,aG 41 (.faddr 4 (.t 1)) 39 true,aG 42 (.load false 1 (.t 41)) 39 true,aG 43 (.mv (.t 3)) 39 true,aG 44 (.bin .sub (.t 43) (aI 1)) 39 true,aG 45 (.iaddr 1 (.t 42) (.t 44)) 39 true,aG 46 (.load false 1 (.t 45)) 39 true,aG 47 (.bin .leq (.t 40) (.t 46)) 39 true,aR 48 (.pick (.t 39) (.t 47) (.c (.bool false)))] (.cond (.t 48) (aS [aR 2 (.mv (aI 1))] (.ret)) (.skip)))))) (.reg false [aR 49 (.bin .add (.t 27) (aI 1)),aM 27 49]))))))) (.skip))))))))) (aS [aR 2 (.mv (aI 0))] (.ret)))),[.t 2]⟩
theorem h_vnode:AX.compFn Tryz.prog 93=some c_vnode:=by kernel_rfl
def c_vCheck:AX.AFn:=⟨9,aS [aR 1 (.box 42 (.t 0)),aR 2 (.mv (aI 0))] (aS [aR 3 (.alloc 3 [.int .i64 0]),aU (.store 1 (.t 3) (aI 0))] (aS [aR 4 (.alloc 151 [.nilf])] (aS [aR 5 (.mkfn 92 [.t 3,.t 4]),aU (.store 1 (.t 4) (.t 5))] (aS [aL 6 4,aR 7 (.load true 5 (.t 1)),aR 8 (.callv (.t 6) [.t 7,aI 1]),aM 2 8] (.ret))))),[.t 2]⟩
theorem h_vCheck:AX.compFn Tryz.prog 70=some c_vCheck:=by kernel_rfl
def c_vvisit:AX.AFn:=⟨38,aS [aR 4 (.box 42 (.t 0)),aR 6 (.mv (aI 0))] (.seq (aS [aM 11 1,aR 12 (.bin .gtr (.t 11) (aI 32))] (.cond (.t 12) (aS [aR 6 (.mv (aI 4))] (.ret)) (.skip))) (.seq (aS [aL 13 2,aR 14 (.bin .geq (.t 13) (aI 4096))] (.cond (.t 14) (aS [aR 6 (.mv (aI 14))] (.ret)) (.skip))) (aS [aL 15 2,aR 16 (.bin .add (.t 15) (aI 1)),aU (.store 1 (.t 2) (.t 16))] (.seq (aS [aR 17 (.load true 5 (.t 4)),aR 18 (.call 93 [.t 17]),aM 7 18] (aS [aM 19 7,aR 20 (.bin .neq (.t 19) (aI 0))] (.cond (.t 20) (aS [aM 21 7,aM 6 21] (.ret)) (.skip)))) (.seq (aS [aF 22 3 4,aL 23 22,aR 24 (.len false (.t 23)),aR 25 (.mv (aI 0))] (.block 0 (.loop (aS [aR 26 (.bin .lss (.t 25) (.t 24))] (.seq (.cond (.t 26) (.skip) (.exit 0)) (.seq (.block 1 (aS [aR 27 (.iaddr 5 (.t 23) (.t 25)),aR 28 (.load true 5 (.t 27)),aR 9 (.alloc 42 [.int .i64 0,.int .i64 0,.str [],.sl 0 .nil [],.sl 0 .nil []]),aU (.store 5 (.t 9) (.t 28))] (aS [aL 29 3,aR 30 (.load true 5 (.t 9)),aM 31 1,aR 32 (.bin .add (.t 31) (aI 1)),aR 33 (.callv (.t 29) [.t 30,.t 32]),aM 10 33] (aS [aM 34 10,aR 35 (.bin .neq (.t 34) (aI 0))] (.cond (.t 35) (aS [aM 36 10,aM 6 36] (.ret)) (.skip)))))) (.reg false [aR 37 (.bin .add (.t 25) (aI 1)),aM 25 37]))))))) (aS [aR 6 (.mv (aI 0))] (.ret))))))),[.t 6]⟩
theorem h_vvisit:AX.compFn Tryz.prog 92=some c_vvisit:=by kernel_rfl
theorem shaped_parts {k n:Int} {s:List UInt8} {is:List V} {ks:List (List UInt8)} (h:Val.shapedB k n s is.length ks.length=true):(k≠3→s=[])∧(k≠5→ks=[]):=by
 unfold Val.shapedB at h
 simp only [Bool.and_eq_true,Bool.or_eq_true,decide_eq_true_eq,beq_iff_eq] at h
 obtain ⟨⟨⟨⟨_,_⟩,h1⟩,_⟩,h2⟩:=h
 refine ⟨fun hk=>?_,fun hk=>?_⟩
 ·rcases h1 with h1 | h1
  ·exact absurd h1 hk
  ·exact h1
 ·rw [if_neg hk] at h2
  exact List.eq_nil_of_length_eq_zero (by simpa using h2)
theorem a_vnode (k n:Int) (s:List UInt8) (is:List V) (ks:List (List UInt8)) (hlen:(V.mk k n s is ks).lens) (h:Hp):ACall Tryz.prog GT 93 [(V.mk k n s is ks).A] h fun r h'=>r = .int .i64 (Val.nodeZ (.mk k n s is ks))∧h'=h:=by
 refine pcall ?_ rfl (by simp [V.A,V.cells,A.pure,A.data]) h
 obtain ⟨hil,hkl,_,_⟩:=V.lens_mk hlen
 refine acall_of mixedT h_vnode (by simp [c_vnode]) ?_
 dsimp only [c_vnode]
 refine go0 (ai @V_A @V_cells) ?_
 refine gc0 (ai @V_A @V_cells) ?_
 refine (a_shaped k n s .no .no 5 1 _ _ _).mono ?_
 rintro v h' ⟨rfl,rfl⟩
 rw [V.cellss_length,strsA_length]
 rcases bool_or (Val.shapedB k n s is.length ks.length) with hs | hs
 ·rw [hs]
  obtain ⟨hs3,hs5⟩:=shaped_parts hs
  have hZ:Val.nodeZ (.mk k n s is ks)=if k=2∧¬ (-9007199254740992≤n∧n≤9007199254740992) then 5 else if Val.textZ s≠0 then Val.textZ s else Val.keysZ none ks:=by rw [Val.nodeZ,if_neg (by rw [hs]; simp)]
  have ht0:Val.textZ []=0:=by decide
  have hk0:Val.keysZ none []=0:=rfl
  by_cases h2:k=2
  ·have e2:(k == 2)=true:=by simp [h2]
   obtain rfl:s=[]:=hs3 (by omega)
   obtain rfl:ks=[]:=hs5 (by omega)
   refine go0 (ai @V_A (ai @V_cells e2)) ?_
   refine gc0 (ai @V_A (ai @V_cells e2)) ?_
   refine (a_nvalid n _).mono ?_
   rintro v h' ⟨rfl,rfl⟩
   by_cases hn:-9007199254740992≤n∧n≤9007199254740992
   ·refine go0 (ai @V_A (ai @V_cells (ai e2 hn))) ?_
    exact ⟨_,le_refl _,by rw [tupA_1,hZ,if_neg (by simp [hn]),ht0]; simp [hk0]⟩
   ·refine go0 (ai @V_A (ai @V_cells (ai e2 hn))) ?_
    exact ⟨_,le_refl _,by rw [tupA_1,hZ,if_pos ⟨h2,hn⟩]⟩
  have e2:(k == 2)=false:=by simp [h2]
  rw [if_neg (by simp [h2])] at hZ
  by_cases h3:k=3
  ·have e3:(k == 3)=true:=by simp [h3]
   obtain rfl:ks=[]:=hs5 (by omega)
   refine go0 (ai @V_A (ai @V_cells (ai e2 e3))) ?_
   refine gc0 (ai @V_A (ai @V_cells (ai e2 e3))) ?_
   refine (a_vtext s _).mono ?_
   rintro v h' ⟨rfl,rfl⟩
   refine go0 (ai @V_A (ai @V_cells (ai e2 e3))) ?_
   exact ⟨_,le_refl _,by
    rw [tupA_1,hZ]
    split
    ·rfl
    ·next h=>rw [hk0]; simp at h; rw [h]⟩
  have e3:(k == 3)=false:=by simp [h3]
  obtain rfl:s=[]:=hs3 h3
  rw [ht0,if_neg (by simp)] at hZ
  by_cases h5:k=5
  ·have e5:(k == 5)=true:=by simp [h5]
   refine go0 (ai @V_A (ai @V_cells (ai e2 (ai e3 e5)))) ?_
   refine awp_loop (fun m ts h=>h=⟨[.cells 42 (V.mk k n [] is ks).cells],[]⟩∧∃ (i:Nat),m=ks.length - i∧i≤ks.length∧Val.keysZ (if i=0 then none else ks[i - 1]?) (ks.drop i)=Val.keysZ none ks∧ts 1 = .ptr 0 0∧ts 25 = .sl 1 .no (strsA ks)∧ts 26 = .int .i64 ks.length∧ts 27 = .int .i64 i) ks.length ?_ ?_
   ·refine ⟨rfl,0,rfl,Nat.zero_le _,rfl,?_⟩
    (exact inv0 @strsA_length)
   ·rintro m ts h ⟨rfl,i,rfl,hi,heq,t1,t25,t26,t27⟩
    by_cases hlt:i < ks.length
    ·have hlt2:(i:Int) < (ks.length:Int):=by omega
     have hlt':(i:Int) < ((strsA ks).length:Int):=by rw [strsA_length]; omega
     have ee:=strsA_get ks i hlt
     have ei:IntKind.i64.wrap ((i:Int)+1)=(i:Int)+1:=wrap64 (by omega) (by omega)
     rw [List.drop_eq_getElem_cons hlt,Val.keysZ] at heq
     refine go0 (ai @V_cells (ai t1 (ai t25 (ai t26 (ai t27 (ai hlt' (ai hlt2 (ai ee ei)))))))) ?_
     refine gc0 (ai @V_cells (ai t1 (ai t25 (ai t26 (ai t27 (ai hlt' (ai ee ei))))))) ?_
     refine (a_vtext ks[i] _).mono ?_
     rintro v h' ⟨rfl,rfl⟩
     by_cases ht2:Val.textZ ks[i]=0
     ·rw [if_neg (by simp [ht2])] at heq
      rw [ht2]
      cases i with
      | zero =>
       have h0:¬ ((0:Nat):Int) > 0:=by omega
       simp only [Nat.reduceAdd,if_true,Val.badB,Bool.false_eq_true,if_false] at heq
       refine go0 (ai @V_cells (ai t1 (ai t25 (ai t26 (ai t27 (ai hlt' (ai hlt2 (ai ee (ai ei h0))))))))) ?_
       refine ⟨ks.length - 1,by omega,rfl,1,rfl,by omega,?_,?_⟩
       ·rw [←heq]; simp [hlt]
       ·(exact inv0 (ai t1 (ai t25 (ai t26 (ai t27 ei)))))
      | succ j =>
       have h0:((j+1:Nat):Int) > 0:=by omega
       have ej:IntKind.i64.wrap (((j+1:Nat):Int) - 1)=(j:Int):=by rw [wrap64 (by omega) (by omega)]; omega
       have ee2:=strsA_get ks j (by omega)
       have hj':(j:Int) < ((strsA ks).length:Int):=by omega
       have hkj:ks[j+1 - 1]?=some (ks[j]'(by omega)):=List.getElem?_eq_getElem (by omega)
       rw [show (if j+1=0 then none else ks[j+1 - 1]?)=some (ks[j]'(by omega)) from by rw [if_neg (by omega)]; exact hkj] at heq
       simp only [Val.badB,Val.less_total] at heq
       rcases bool_or (Op.bytesLess ks[j+1] (ks[j]'(by omega))||ks[j+1] == (ks[j]'(by omega))) with hb | hb
       ·simp only [hb,Bool.not_true,Bool.not_false,Bool.false_eq_true,if_false,if_true] at heq
        refine go0 (ai @V_cells (ai t1 (ai t25 (ai t26 (ai t27 (ai hlt' (ai hlt2 (ai ee (ai ee2 (ai ei (ai ej (ai h0 (ai hj' hb))))))))))))) ?_
        exact ⟨_,le_refl _,by rw [tupA_1,hZ,←heq]⟩
       ·simp only [hb,Bool.not_true,Bool.not_false,Bool.false_eq_true,if_false,if_true] at heq
        refine go0 (ai @V_cells (ai t1 (ai t25 (ai t26 (ai t27 (ai hlt' (ai hlt2 (ai ee (ai ee2 (ai ei (ai ej (ai h0 (ai hj' hb))))))))))))) ?_
        refine ⟨ks.length - (j+1+1),by omega,rfl,j+1+1,rfl,by omega,?_,?_⟩
        ·rw [←heq]; simp [hlt]
        ·(exact inv0 (ai t1 (ai t25 (ai t26 (ai t27 ei)))))
     ·have ht3:(Val.textZ ks[i] != 0)=true:=by simp [ht2]
      rw [if_pos (by simp [ht2])] at heq
      refine go0 (ai @V_cells (ai t1 (ai t25 (ai t26 (ai t27 (ai hlt' (ai hlt2 (ai ee (ai ei ht3))))))))) ?_
      exact ⟨_,le_refl _,by rw [tupA_1,hZ,←heq]⟩
    ·have hlt2:¬ (i:Int) < (ks.length:Int):=by omega
     refine go0 (ai @V_cells (ai t1 (ai t25 (ai t26 (ai t27 hlt2))))) ?_
     refine ⟨_,le_refl _,?_⟩
     rw [tupA_1,hZ,←heq,List.drop_of_length_le (by omega)]
     cases (if i=0 then none else ks[i - 1]?) <;> rfl
  have e5:(k == 5)=false:=by simp [h5]
  obtain rfl:ks=[]:=hs5 h5
  refine go0 (ai @V_A (ai @V_cells (ai e2 (ai e3 e5)))) ?_
  exact ⟨_,le_refl _,by rw [tupA_1,hZ,hk0]⟩
 ·rw [hs]
  refine go0 (ai @V_A @V_cells) ?_
  exact ⟨_,le_refl _,by rw [tupA_1,Val.nodeZ,if_pos hs]⟩
theorem chks_nil' (lv b:Nat):Val.chks [] lv b=(0,b):=by rw [Val.chks]
theorem chks_cons' (v:V) (l:List V) (lv b:Nat):Val.chks (v::l) lv b=if (Val.chk v lv b).1≠0 then Val.chk v lv b else Val.chks l lv (Val.chk v lv b).2:=by rw [Val.chks]
def cntB (b:Nat):Blk:=.cells 3 [.int .i64 b]
def visB:Blk:=.cells 151 [.fn 92 [.ptr 1 0,.ptr 2 0]]
theorem get_app {l m:List Blk} {i:Nat} {x:Blk} (h:l[i]?=some x):(l++m)[i]?=some x:=by
 rw [List.getElem?_append_left (List.getElem?_eq_some_iff.1 h).1]; exact h
theorem set_new (l:List Blk) (x y:Blk):(l++[x]).set l.length y=l++[y]:=by
 rw [List.set_append_right _ _ (Nat.le_refl _)]; simp
theorem t_visit:∀ (v:V) (lv b:Nat) (h:Hp),v.lens→h.b[1]?=some (cntB b)→h.b[2]?=some visB→ACall Tryz.prog GT 92 [v.A,.int .i64 lv,.ptr 1 0,.ptr 2 0] h fun r h'=>r = .int .i64 (Val.chk v lv b).1∧((Val.chk v lv b).1=0→h'.b[1]?=some (cntB (Val.chk v lv b).2)∧h'.b[2]?=some visB):=by
 refine V.induct fun k n s is ks ih=>?_
 intro lv b h hlen hb1 hb2
 refine acall_of mixedT h_vvisit (by simp [c_vvisit]) ?_
 dsimp only [c_vvisit]
 obtain ⟨hil,hkl,_,hmem⟩:=V.lens_mk hlen
 have hbl:2 < h.b.length:=(List.getElem?_eq_some_iff.1 hb2).1
 have g1:∀ m,(h.b++m)[1]?=some (.cells 3 [.int .i64 b]):=fun m=>get_app hb1
 have g2:∀ m,(h.b++m)[2]?=some visB:=fun m=>get_app hb2
 have hC:¬ (lv:Int) > 32→¬ (b:Int)≥4096→Val.chk (.mk k n s is ks) lv b=if Val.nodeZ (.mk k n s is ks)≠0 then (Val.nodeZ (.mk k n s is ks),b) else Val.chks is (lv+1) (b+1):=fun h1 h2=>by rw [Val.chk,if_neg (by omega),if_neg (by omega)]
 by_cases h1:(lv:Int) > 32
 ·have hC1:Val.chk (.mk k n s is ks) lv b=(4,b):=by rw [Val.chk,if_pos (by omega)]
  refine go0 (ai @V_A (ai @V_cells h1)) ?_
  exact ⟨_,le_refl _,by rw [tupA_1,hC1],fun e=>by rw [hC1] at e; simp at e⟩
 by_cases h2:(b:Int)≥4096
 ·have hC1:Val.chk (.mk k n s is ks) lv b=(14,b):=by rw [Val.chk,if_neg (by omega),if_pos (by omega)]
  refine go0 (ai @V_A (ai @V_cells (ai h1 (ai h2 (ai g1 g2))))) ?_
  exact ⟨_,le_refl _,by rw [tupA_1,hC1],fun e=>by rw [hC1] at e; simp at e⟩
 have eb:IntKind.i64.wrap ((b:Int)+1)=((b+1:Nat):Int):=by rw [wrap64 (by omega) (by omega)]; omega
 have hne1:¬ (1=h.b.length):=by omega
 have hle1:1≤1:=by omega
 refine go0 (ai @V_A (ai @V_cells (ai h1 (ai h2 (ai g1 (ai g2 (ai eb (ai (@List.getElem?_set AX.Blk) hne1)))))))) ?_
 refine gc0 (ai @V_A (ai @V_cells (ai h1 h2))) ?_
 refine (a_vnode k n s is ks hlen _).mono ?_
 rintro v h' ⟨rfl,rfl⟩
 have hC':=hC h1 h2
 by_cases hn:Val.nodeZ (.mk k n s is ks)=0
 ·rw [hn]
  rw [if_neg (by simp [hn])] at hC'
  have elv:IntKind.i64.wrap ((lv:Int)+1)=((lv+1:Nat):Int):=by rw [wrap64 (by omega) (by omega)]; omega
  refine go0 (ai @V_A (ai @V_cells (ai h1 (ai h2 (ai (@List.getElem?_set AX.Blk) hne1))))) ?_
  refine awp_loop (fun m ts hh=>∃ (i q:Nat),m=is.length - i∧i≤is.length∧Val.chks (is.drop i) (lv+1) q=Val.chks is (lv+1) (b+1)∧hh.b[1]?=some (cntB q)∧hh.b[2]?=some visB∧ts 1 = .int .i64 lv∧ts 3 = .ptr 2 0∧ts 23 = .sl 5 .no (V.cellss is)∧ts 24 = .int .i64 is.length∧ts 25 = .int .i64 i) is.length ?_ ?_
  ·refine ⟨0,b+1,rfl,Nat.zero_le _,rfl,?_,?_,?_⟩
   ·show (List.set _ 1 _)[1]?=_
    rw [List.getElem?_set,if_pos rfl,if_pos (by simp; omega)]; rfl
   ·show (List.set _ 1 _)[2]?=_
    rw [List.getElem?_set,if_neg (by omega)]; exact g2 _
   ·(exact inv0 @V.cellss_length)
  ·rintro m ts hh ⟨i,q,rfl,hi,heq,p1,p2,t1,t3,t23,t24,t25⟩
   by_cases hlt:i < is.length
   ·have hlt2:(i:Int) < (is.length:Int):=by omega
    have hlt':(i:Int) < ((V.cellss is).length:Int):=by rw [V.cellss_length]; omega
    have ei:IntKind.i64.wrap ((i:Int)+1)=(i:Int)+1:=wrap64 (by omega) (by omega)
    have ee:=V.cellss_get is i hlt
    have hcall:=fun (h:Hp)=>ih is[i] (List.getElem_mem hlt) (lv+1) q h (hmem _ (List.getElem_mem hlt))
    rw [List.drop_eq_getElem_cons hlt,chks_cons'] at heq
    obtain ⟨⟨k',n',s',is',ks'⟩,hv⟩:∃ x,is[i]=x:=⟨_,rfl⟩
    rw [hv] at ee hcall heq
    have q2:∀ m,(hh.b++m)[2]?=some (.cells 151 [.fn 92 [.ptr 1 0,.ptr 2 0]]):=fun m=>get_app p2
    refine go0 (ai @V_cells (ai t1 (ai t3 (ai t23 (ai t24 (ai t25 (ai hlt' (ai hlt2 (ai ee (ai elv (ai ei (ai @set_new q2)))))))))))) ?_
    refine gc0 (ai @V_cells (ai t1 (ai t3 (ai t23 (ai t24 (ai t25 elv)))))) ?_
    refine (hcall _ (get_app p1) (get_app p2)).mono ?_
    rintro v h' ⟨rfl,hcnt⟩
    by_cases hz:(Val.chk (.mk k' n' s' is' ks') (lv+1) q).1=0
    ·rw [if_neg (by simp [hz])] at heq
     rw [hz]
     obtain ⟨r1,r2⟩:=hcnt hz
     refine go0 (ai @V_cells (ai t1 (ai t3 (ai t23 (ai t24 (ai t25 ei)))))) ?_
     refine ⟨is.length - (i+1),by omega,i+1,_,rfl,by omega,heq,r1,r2,?_⟩
     (exact inv0 (ai t1 (ai t3 (ai t23 (ai t24 (ai t25 ei))))))
    ·have hz':((Val.chk (.mk k' n' s' is' ks') (lv+1) q).1 != 0)=true:=by simp [hz]
     rw [if_pos (by simp [hz])] at heq
     refine go0 (ai @V_cells (ai t1 (ai t3 (ai t23 (ai t24 (ai t25 (ai ei hz'))))))) ?_
     exact ⟨_,le_refl _,by rw [tupA_1,hC',←heq],fun e=>by rw [hC',←heq] at e; exact absurd e hz⟩
   ·have hlt2:¬ (i:Int) < (is.length:Int):=by omega
    rw [List.drop_of_length_le (by omega),chks_nil'] at heq
    refine go0 (ai @V_cells (ai t1 (ai t3 (ai t23 (ai t24 (ai t25 hlt2)))))) ?_
    exact ⟨_,le_refl _,by rw [tupA_1,hC',←heq],fun _=>by rw [hC',←heq]; exact ⟨p1,p2⟩⟩
 ·have hn':(Val.nodeZ (.mk k n s is ks) != 0)=true:=by simp [hn]
  rw [if_pos (by simp [hn])] at hC'
  refine go0 (ai @V_A (ai @V_cells (ai h1 (ai h2 hn')))) ?_
  exact ⟨_,le_refl _,by rw [tupA_1,hC'],fun e=>by rw [hC'] at e; exact absurd e hn⟩
theorem a_vCheck (v:V) (hlen:v.lens) (h:Hp):ACall Tryz.prog GT 70 [v.A] h fun r h'=>r = .int .i64 (Val.checkZ v)∧h'=h:=by
 have ht:∀ h:Hp,h.b[1]?=some (cntB 0)→h.b[2]?=some visB→ACall Tryz.prog GT 92 [v.A,.int .i64 1,.ptr 1 0,.ptr 2 0] h fun r h'=>r = .int .i64 (Val.chk v 1 0).1∧((Val.chk v 1 0).1=0→h'.b[1]?=some (cntB (Val.chk v 1 0).2)∧h'.b[2]?=some visB):=fun h=>t_visit v 1 0 h hlen
 obtain ⟨k,n,s,is,ks⟩:=v
 refine pcall ?_ rfl (by simp [V.A,V.cells,A.pure,A.data]) h
 refine acall_of mixedT h_vCheck (by simp [c_vCheck]) ?_
 dsimp only [c_vCheck]
 refine go0 (ai @V_A @V_cells) ?_
 refine gc0 (ai @V_A @V_cells) ?_
 refine (ht _ rfl rfl).mono ?_
 rintro v h' ⟨rfl,_⟩
 refine go0 (ai @V_A @V_cells) ?_
 exact ⟨_,le_refl _,rfl⟩
end AX
end Go.Proofs.YtdgcbckcameggaaGreatDoor
