/- Part of what the proof needs. -/
import Derived.Test.YtahmpiioegemaaaGreatDoorMFrJournalRecordsUptoD
import Derived.Test.YtahmpiioegemaaaGreatDoorMFrJournalRecordsUptoE
import Derived.Test.YtahmpiioegemaaaGreatDoorMFrJournalRecordsUptoF
import Derived.Test.YtahmpiioegemaaaGreatDoorMFrJournalRecordsUptoI
import Derived.Test.YtahmpiioegemaaaGreatDoorProg
import Derived.KernelRfl
import Derived.Test.YtahmpiioegemaaaGreatDoorCards
import Derived.Test.YtahmpiioegemaaaGreatDoorTie
import Derived.ProofKit
import Derived.OpenShut
import Derived.ShutString
import Derived.ChangeOld
import Derived.Below
import Derived.Deep.DeepHandedRow
import Derived.Lib.LaidU8
import Derived.MakeChecks
import Derived.Shelf.Unicode.DecodeSlow
set_option maxHeartbeats 4000000
set_option linter.unusedSimpArgs false
set_option linter.unusedVariables false
set_option linter.unnecessarySimpa false
namespace Go.Proofs.YtahmpiioegemaaaGreatDoor
open Go.RowKit
def strsA (l:List (List UInt8)):List (List AX.A):=l.map fun s=>[.str s]
mutual
def V.cells:V→List AX.A
 | .mk k n s is ks=>[.int .i64 k,.int .i64 n,.str s,.sl 5 .no (V.cellss is),.sl 1 .no (strsA ks)]
def V.cellss:List V→List (List AX.A)
 | []=>[]
 | v::l=>v.cells::V.cellss l
end
def V.A (v:V):AX.A:=.agg v.cells
theorem V.cellss_map:∀ l:List V,V.cellss l=l.map V.cells
 | []=>rfl
 | v::l=>by rw [V.cellss,V.cellss_map l]; rfl
theorem V.cellss_length (l:List V):(V.cellss l).length=l.length:=by rw [V.cellss_map]; simp
theorem strsA_length (l:List (List UInt8)):(strsA l).length=l.length:=by simp [strsA]
theorem strsA_get (l:List (List UInt8)) (i:Nat) (h:i < l.length):(strsA l).getD i []=[.str l[i]]:=by simp [strsA,List.getD,h]
theorem V.cellss_get (l:List V) (i:Nat) (h:i < l.length):(V.cellss l).getD i []=l[i].cells:=by rw [V.cellss_map]; simp [List.getD,h]
theorem V.pure (v:V):v.A.pure=true:=by cases v; unfold V.A V.cells; rfl
mutual
def V.lens:V→Prop
 | .mk k n s is ks=>is.length≤maxLen∧ks.length≤maxLen∧s.length≤maxLen∧(∀ q∈ks,q.length≤maxLen)∧V.lensS is
def V.lensS:List V→Prop
 | []=>True
 | v::l=>v.lens∧V.lensS l
end
theorem V.lensS_mem:∀ {l:List V},V.lensS l→∀ x∈l,x.lens
 | [],_=>by simp
 | v::l,h=>by
  unfold V.lensS at h
  exact List.forall_mem_cons.2 ⟨h.1,V.lensS_mem h.2⟩
theorem V.lens_mk {k n:Int} {s:List UInt8} {is:List V} {ks:List (List UInt8)} (h:(V.mk k n s is ks).lens):is.length≤9223372036854775807∧ks.length≤9223372036854775807∧s.length≤9223372036854775807∧(∀ x∈is,x.lens):=by
 unfold V.lens at h
 simp only [maxLen] at h
 exact ⟨by omega,by omega,by omega,V.lensS_mem h.2.2.2.2⟩
def IfaceAt (g:Nat) (w:World):Prop:=∃ ev,w.cell? ⟨g,0,none⟩=some ev∧(ev = .nilIface∨∃ te pe,ev = .iface te pe)
structure GT (w:World):Prop where
 tabs:Lib.Utf8Tabs 0 1 w
 esyn:IfaceAt 3 w
 erng:IfaceAt 4 w
 tz:w.cell? ⟨7,15,none⟩=some (.int .u8 4)
namespace AX
theorem mixedT:Tryz.prog.follows Departure.mixedOrders=true:=by kernel_rfl
theorem fo {G:World→Prop} {f:FuncId} {args:List A} {h:Hp} {Q:A→Hp→Prop} {n:Nat} {code:ACode} {res:List ARes} (k:awp Tryz.prog G code (finQ res Q) (initTs args) h) (hc:compFn Tryz.prog f=some ⟨n,code,res⟩:=by set_option maxRecDepth 1000000 in (conv=>lhs; cbv)) (hl:args.length≤n:=by simp):ACall Tryz.prog G f args h Q:=acall_of mixedT hc hl k
theorem args1 {x:A} {v:Value} (h:∀ C c,Rep C x c→c=v):∀ C cs,RepL C [x] cs→cs=[v]:=fun C cs hr=>by
 obtain ⟨c,cs',rfl,h1,h2⟩:=repL_cons.1 hr
 rw [repL_nil] at h2; subst h2
 rw [h C c h1]
theorem args2 {x y:A} {v u:Value} (h:∀ C c,Rep C x c→c=v) (h':∀ C c,Rep C y c→c=u):∀ C cs,RepL C [x,y] cs→cs=[v,u]:=fun C cs hr=>by
 obtain ⟨c,cs',rfl,h1,h2⟩:=repL_cons.1 hr
 rw [args1 h' C cs' h2,h C c h1]
theorem r_str {l:List UInt8}:∀ C c,Rep C (.str l) c→c = .string ⟨l.toArray⟩:=fun C c h=>rep_str.1 h
theorem r_int {k:IntKind} {n:Int}:∀ C c,Rep C (.int k n) c→c = .int k n:=fun C c h=>rep_int.1 h
theorem a_valid (s:List UInt8) (hl:s.length≤2000000) (h:Hp):ACall Tryz.prog GT 127 [.str s] h fun v h'=>v = .bool (Str.valid s)∧h'=h:=
 acall_imp (args1 r_str) (fun w hg=>valid_any ⟨s.toArray⟩ w (by rw [size_mk]; exact hl) hg.tabs) (fun C=>rep_bool.2 rfl) h
theorem a_refValid (s:List UInt8) (hl:s.length≤2000000) (h:Hp):ACall Tryz.prog GT 204 [.str s] h fun v h'=>v = .bool (Str.valid s)∧h'=h:=
 acall_imp (args1 r_str) (fun w hg=>refValid_any ⟨s.toArray⟩ w (by rw [size_mk]; exact hl)) (fun C=>rep_bool.2 rfl) h
theorem a_vtext (s:List UInt8) (h:Hp):ACall Tryz.prog GT 175 [.str s] h fun v h'=>v = .int .i64 (Val.textZ s)∧h'=h:=
 acall_imp (args1 r_str) (fun w hg=>text_any s w hg.tabs) (fun C=>rep_int.2 rfl) h
theorem a_rtext (s:List UInt8) (h:Hp):ACall Tryz.prog GT 203 [.str s] h fun v h'=>v = .int .i64 (Val.textZ s)∧h'=h:=
 acall_imp (args1 r_str) (fun w hg=>refText_any s w) (fun C=>rep_int.2 rfl) h
theorem a_nvalid (n:Int) (h:Hp):ACall Tryz.prog GT 174 [.int .i64 n] h fun v h'=>v = .bool (decide (-9007199254740992≤n∧n≤9007199254740992))∧h'=h:=
 acall_imp (args1 r_int) (fun w hg=>(numValid_any n w).mono fun e w' ⟨h1,h2⟩=>⟨h1,by rw [h2]; exact Below.refl _ _⟩) (fun C=>rep_bool.2 rfl) h
theorem a_rnvalid (n:Int) (h:Hp):ACall Tryz.prog GT 202 [.int .i64 n] h fun v h'=>v = .bool (decide (-9007199254740992≤n∧n≤9007199254740992))∧h'=h:=
 acall_imp (args1 r_int) (fun w hg=>(refNumValid_any n w).mono fun e w' ⟨h1,h2⟩=>⟨h1,by rw [h2]; exact Below.refl _ _⟩) (fun C=>rep_bool.2 rfl) h
theorem a_appendNumber (dst:List UInt8) (n:Int) (hd:dst.length≤1000000000) (h0:-9223372036854775808≤n) (h1:n≤9223372036854775807) (h:Hp):ACall Tryz.prog GT 57 [.str dst,.int .i64 n] h fun v h'=>v = .str (dst++Wire.num n)∧h'=h:=
 acall_imp (args2 r_str r_int) (fun w hg=>appendNumber_any dst n w hd h0 h1) (fun C=>rep_str.2 rfl) h
theorem a_refAppendNumber (dst:List UInt8) (n:Int) (hd:dst.length≤1000000000) (h0:-9223372036854775808≤n) (h1:n≤9223372036854775807) (h:Hp):ACall Tryz.prog GT 70 [.str dst,.int .i64 n] h fun v h'=>v = .str (dst++Wire.num n)∧h'=h:=
 acall_imp (args2 r_str r_int) (fun w hg=>refAppendNumber_any dst n w hd h0 h1) (fun C=>rep_str.2 rfl) h
theorem a_shaped (k n:Int) (s:List UInt8) (o o':Own) (W W':Nat) (rs rs':List (List A)) (h:Hp):ACall Tryz.prog GT 173 [.agg [.int .i64 k,.int .i64 n,.str s,.sl W o rs,.sl W' o' rs']] h fun v h'=>v = .bool (Val.shapedB k n s rs.length rs'.length)∧h'=h:=by
 intro C cs hI ha
 obtain ⟨c,cs',rfl,h1,h2⟩:=repL_cons.1 ha
 rw [repL_nil] at h2; subst h2
 obtain ⟨ds,rfl,h3⟩:=rep_agg.1 h1
 obtain ⟨c0,d0,rfl,e0,h3⟩:=repL_cons.1 h3
 obtain ⟨c1,d1,rfl,e1,h3⟩:=repL_cons.1 h3
 obtain ⟨c2,d2,rfl,e2,h3⟩:=repL_cons.1 h3
 obtain ⟨c3,d3,rfl,e3,h3⟩:=repL_cons.1 h3
 obtain ⟨c4,d4,rfl,e4,h3⟩:=repL_cons.1 h3
 rw [repL_nil] at h3; subst h3
 rw [rep_int] at e0 e1; rw [rep_str] at e2; subst e0; subst e1; subst e2
 obtain ⟨a,ca,rfl,_⟩:=rep_sl.1 e3
 obtain ⟨b,cb,rfl,_⟩:=rep_sl.1 e4
 refine (shaped_any k n s a b rs.length ca rs'.length cb C.w).mono ?_
 rintro e w' ⟨rfl,hb⟩
 obtain ⟨i1,s1⟩:=inv_below hI hb
 exact ⟨C.at w',h,_,_,rfl,rfl,i1,s1,rep_bool.2 rfl,rfl,rfl⟩
theorem a_refShaped (k n:Int) (s:List UInt8) (o o':Own) (W W':Nat) (rs rs':List (List A)) (h:Hp):ACall Tryz.prog GT 201 [.agg [.int .i64 k,.int .i64 n,.str s,.sl W o rs,.sl W' o' rs']] h fun v h'=>v = .bool (Val.shapedB k n s rs.length rs'.length)∧h'=h:=by
 intro C cs hI ha
 obtain ⟨c,cs',rfl,h1,h2⟩:=repL_cons.1 ha
 rw [repL_nil] at h2; subst h2
 obtain ⟨ds,rfl,h3⟩:=rep_agg.1 h1
 obtain ⟨c0,d0,rfl,e0,h3⟩:=repL_cons.1 h3
 obtain ⟨c1,d1,rfl,e1,h3⟩:=repL_cons.1 h3
 obtain ⟨c2,d2,rfl,e2,h3⟩:=repL_cons.1 h3
 obtain ⟨c3,d3,rfl,e3,h3⟩:=repL_cons.1 h3
 obtain ⟨c4,d4,rfl,e4,h3⟩:=repL_cons.1 h3
 rw [repL_nil] at h3; subst h3
 rw [rep_int] at e0 e1; rw [rep_str] at e2; subst e0; subst e1; subst e2
 obtain ⟨a,ca,rfl,_⟩:=rep_sl.1 e3
 obtain ⟨b,cb,rfl,_⟩:=rep_sl.1 e4
 refine (refShaped_any k n s a b rs.length ca rs'.length cb C.w).mono ?_
 rintro e w' ⟨rfl,hb⟩
 obtain ⟨i1,s1⟩:=inv_below hI hb
 exact ⟨C.at w',h,_,_,rfl,rfl,i1,s1,rep_bool.2 rfl,rfl,rfl⟩
def wtr (ver:Int) (l:List UInt8):Blk:=.opq (fun F g w=>WF F g ver l w) (fun o=>if o=2 then some (.int .i64 ver) else none)
def dead:Blk:=.opq (fun _ _ _=>True) (fun _=>none)
def Wt (h:Hp) (i:Nat) (ver:Int) (l:List UInt8):Prop:=h.b[i]?=some (wtr ver l)∨(l=[]∧h.b[i]?=some (.cells 151 [.nilp,.sl 0 .nil [],.int .i64 ver]))
theorem WF.stable {F:Nat→Prop} {b:Nat} {ver:Int} {l:List UInt8} {w w':World} (h:WF F b ver l w) (hs:∀ g,F g→w'.heap[g]?=w.heap[g]?):WF F b ver l w':=by
 obtain ⟨p,v,hp,hb,hown,hne,hF,hFk⟩:=h
 refine ⟨p,v,hp,(hs b hF).trans hb,⟨hown.1,?_⟩,hne,hF,hFk⟩
 rcases hown.2 with h1 | ⟨g,cap,cur,fz,rfl,h2,h3,h4⟩
 ·exact .inl h1
 ·exact .inr ⟨g,cap,cur,fz,rfl,h2,(hs g (hFk g rfl)).trans h3,h4⟩
theorem Wt.lt {h:Hp} {i:Nat} {ver:Int} {l:List UInt8} (hw:Wt h i ver l):i < h.b.length:=by
 rcases hw with h1 | ⟨_,h1⟩
 ·exact (List.getElem?_eq_some_iff.1 h1).1
 ·exact (List.getElem?_eq_some_iff.1 h1).1
theorem Wt.wf {h:Hp} {i:Nat} {ver:Int} {l:List UInt8} {C:Ctx} {G:World→Prop} (hw:Wt h i ver l) (hI:Inv G C h):WF (fun g=>C.own g=some i) (C.κ i) ver l C.w:=by
 have hi:i < C.nb:=by rw [←hI.nb]; exact hw.lt
 rcases hw with h1 | ⟨rfl,h1⟩
 ·exact (hI.box i _ h1).1 C.w (fun _ _=>rfl) (Nat.le_refl _)
 ·obtain ⟨cs,k1,k2⟩:=hI.box i _ h1
  obtain ⟨c0,d0,rfl,e0,k2⟩:=repL_cons.1 k2
  obtain ⟨c1,d1,rfl,e1,k2⟩:=repL_cons.1 k2
  obtain ⟨c2,d2,rfl,e2,k2⟩:=repL_cons.1 k2
  rw [repL_nil] at k2; subst k2
  rw [rep_nilp] at e0; rw [rep_int] at e2; subst e0; subst e2
  obtain ⟨a,cap,rfl,_,_,e3,e4,_⟩:=rep_sl.1 e1
  subst e3; subst e4
  exact ⟨_,_,.inl rfl,k1,⟨rfl,.inl ⟨rfl,rfl⟩⟩,by simp [Value.ownBlock],hI.ownk i hi,fun k hk=>by simp [Value.ownBlock] at hk⟩
theorem wtr_rep {C:Ctx} {i:Nat} {ver:Int} {l:List UInt8} (h:WF (fun g=>C.own g=some i) (C.κ i) ver l C.w):BlkRep C i (wtr ver l):=by
 refine ⟨fun w' hw _=>WF.stable h hw,fun o x hx=>?_⟩
 have hx':(if o=2 then some (A.int .i64 ver) else none)=some x:=hx
 split at hx'
 ·next e =>
  injection hx' with hx'; subst hx'; subst e
  obtain ⟨p,v,hp,hb,_⟩:=h
  exact ⟨_,(cell_row3 hb).2.2.1,rep_int.2 rfl⟩
 ·cases hx'
theorem a_write {h:Hp} {i:Nat} {ver:Int} {l:List UInt8} (hw:Wt h i ver l) (s:List UInt8) (hlen:l.length+s.length≤1000000000) :
  ACall Tryz.prog GT 43 [.ptr i 0,.str s] h fun v h'=>v = .tup [.int .i64 s.length,.nili]∧h'=⟨h.b.set i (wtr ver (l++s)),h.t⟩:=by
 intro C es hI ha
 obtain ⟨c,es',rfl,h1,h2⟩:=repL_cons.1 ha
 obtain ⟨rfl,hi⟩:=rep_ptr.1 h1
 obtain rfl:=args1 r_str C es' h2
 refine (wf_write (hw.wf hI) s hlen).mono ?_
 rintro e w' ⟨rfl,m1,m2⟩
 have hrep:BlkRep (C.turn w' i true) i (wtr ver (l++s)):=by
  refine wtr_rep ?_
  obtain ⟨p,v,hp,hb,hown,hne,hF,hFk⟩:=m1
  have hlt:=(cell_row3 hb).2.2.2.2.2
  have hcl:∀ k,k < w'.heap.size→(C.own k=some i∨C.w.heap.size≤k)→(C.turn w' i true).own k=some i:=fun k hk hor=>by
   show (if k < C.w.heap.size then C.own k else if true=true∧k < w'.heap.size then some i else none)=some i
   split
   ·rcases hor with h3 | h3
    ·exact h3
    ·omega
   ·rw [if_pos ⟨rfl,hk⟩]
  refine ⟨p,v,hp,hb,hown,hne,hcl _ hlt hF,fun k hk=>hcl k ?_ (hFk k hk)⟩
  rcases hown.2 with ⟨rfl,_⟩ | ⟨g,cap,cur,fz,rfl,_,h3,_⟩
  ·simp [Value.ownBlock] at hk
  ·simp only [Value.ownBlock,Option.some.injEq] at hk; subst hk
   exact (Array.getElem?_eq_some_iff.1 h3).1
 obtain ⟨i1,s1⟩:=box_turn (b':=wtr ver (l++s)) true hI hi m2.os m2.tape m2.output m2.size (fun g hg hne=>m2.block g hg hne) (fun _=>hrep)
 exact ⟨_,_,.tup [.int .i64 s.length,.nili],_,rfl,rfl,i1,s1,rep_tup.2 ⟨_,rfl,repL_cons.2 ⟨_,_,rfl,rep_int.2 rfl,repL_cons.2 ⟨_,_,rfl,rep_nili.2 rfl,repL_nil.2 rfl⟩⟩⟩,rfl,rfl⟩
theorem a_wlen {h:Hp} {i:Nat} {ver:Int} {l:List UInt8} (hw:Wt h i ver l):ACall Tryz.prog GT 42 [.ptr i 0] h fun v h'=>v = .int .i64 l.length∧h'=h:=by
 intro C es hI ha
 obtain ⟨c,es',rfl,h1,h2⟩:=repL_cons.1 ha
 obtain ⟨rfl,hi⟩:=rep_ptr.1 h1
 rw [repL_nil] at h2; subst h2
 refine (wtr_len (hw.wf hI).wtr).mono ?_
 rintro e w' ⟨rfl,rfl⟩
 exact ⟨C,h,_,_,rfl,rfl,hI,Step.refl C,rep_int.2 rfl,rfl,rfl⟩
theorem a_wstring {h:Hp} {i:Nat} {ver:Int} {l:List UInt8} (hw:Wt h i ver l) (h0:l≠[]):ACall Tryz.prog GT 44 [.ptr i 0] h fun v h'=>v = .str l∧h'=⟨h.b.set i dead,h.t⟩:=by
 intro C es hI ha
 obtain ⟨c,es',rfl,h1,h2⟩:=repL_cons.1 ha
 obtain ⟨rfl,hi⟩:=rep_ptr.1 h1
 rw [repL_nil] at h2; subst h2
 refine (wf_string (hw.wf hI) h0).mono ?_
 rintro e w' ⟨rfl,m2⟩
 obtain ⟨i1,s1⟩:=box_turn (b':=dead) false hI hi m2.os m2.tape m2.output m2.size (fun g hg hne=>m2.block g hg hne) (fun _=>⟨fun _ _ _=>trivial,fun o x hx=>by cases hx⟩)
 exact ⟨_,_,.str l,_,rfl,rfl,i1,s1,rep_str.2 rfl,rfl,rfl⟩
end AX
end Go.Proofs.YtahmpiioegemaaaGreatDoor

namespace Go.Proofs.YtahmpiioegemaaaGreatDoor
open Go.ChangeShapes Go.WideShapes Go.ChangeAt Go.RowKit
namespace Card
theorem own:ownKnob Tryz.prog.godebug=none:=by kernel_rfl
theorem first_eq:Go.Pinned.utf8First=Lib.firstData:=by kernel_rfl
theorem accept_eq:(Rows.laid_unicode_utf8_acceptRanges:DataW Unit)=Lib.acceptData:=by kernel_rfl
theorem tz_name : Tryz.prog.globalNamed "math/bits.deBruijn64tab" = some 7 := by kernel_rfl
theorem tz_type:(Tryz.prog.globals[7]?).map (·.type)=some 315:=by kernel_rfl
theorem tz_cells:Tryz.prog.cellsOf 315=64:=by kernel_rfl
theorem tz_cell:Tryz.prog.cellsOf 5=1:=by kernel_rfl
def tab64:List Int:=[0,1,56,2,57,49,28,3,61,58,42,50,38,29,17,4,62,47,59,36,45,43,51,22,53,39,33,30,24,18,12,5,63,55,48,27,60,41,37,16,46,35,44,21,52,32,23,11,54,26,40,15,34,20,31,10,25,14,19,9,13,8,7,6]
theorem tab64_eq:(Rows.laid_math_bits_deBruijn64tab:DataW Unit)=Lib.tabData .u8 tab64:=by kernel_rfl
theorem iface_reads {P:Program} {w:World} {n:String} {g:Nat} {t:TypeId} {d:DataW Unit} {m:Array (String×TypeId)} (hg:P.globalNamed n=some g) (ht:(P.globals[g]?).map (·.type)=some t) (hu:P.underlying t=some (.interface m)) (h:Lib.VarReads P w n d):IfaceAt g w:=by
 obtain ⟨g',t',cs,fuel,p,h1,h2,h3,h4⟩:=h
 rw [hg] at h1; injection h1 with h1; subst h1
 rw [ht] at h2; injection h2 with h2; subst h2
 have hc:=World.var?_cell hg h3 0
 obtain ⟨l⟩:=cs
 cases fuel with
 | zero=>simp [DataW.trod] at h4
 | succ k =>
  match l,hc with
  | [],_=>simp [DataW.trod,hu] at h4
  | [.nilIface],hc=>exact ⟨_,hc,.inl rfl⟩
  | [.iface u v],hc=>exact ⟨_,hc,.inr ⟨u,v,rfl⟩⟩
  | v::x::l,_=>cases v <;> simp [DataW.trod,hu] at h4
  | [v],hc=>cases v <;> first | exact ⟨_,hc,.inl rfl⟩ | exact ⟨_,hc,.inr ⟨_,_,rfl⟩⟩ | simp [DataW.trod,hu] at h4
theorem tz_of {W : World} (r3 : Lib.VarReads Tryz.prog W "math/bits.deBruijn64tab" (Lib.tabData .u8 tab64)) : W.cell? ⟨7, 15, none⟩ = some (.int .u8 4) := by
 obtain ⟨g,t,cs,fuel,p,hg,hty,hvar,hd⟩:=r3
 obtain rfl:=Option.some.inj (tz_name.symm.trans hg)
 obtain rfl:=Option.some.inj (tz_type.symm.trans hty)
 have hcs:=Lib.cells_of_tab Tryz.underlying315 Tryz.underlying5 tz_cell tz_cells hd
 have:=World.var?_cell hg hvar 15
 rw [this,←Array.getElem?_toList,hcs]
 rfl
theorem gt_of {W:World} (h:laidMetH Tryz.prog Rows.journalRecordsRow.laid W):GT W:=by
 have hL:laidMet Tryz.prog Rows.journalRecordsRow.laid W:=by
  have e:=Go.MakeChecks.laidMetH_plain Tryz.prog Rows.journalRecordsRow.laid W (by kernel_rfl)
  rwa [e] at h
 have r1 : Lib.VarReads Tryz.prog W "unicode/utf8.first" Lib.firstData := by
  rw [←first_eq]; exact Lib.laidMet.reads hL (.tail _ (.tail _ (.tail _ (.tail _ (.tail _ (.tail _ (.head _)))))))
 have r2 : Lib.VarReads Tryz.prog W "unicode/utf8.acceptRanges" Lib.acceptData := by
  rw [←accept_eq]; exact Lib.laidMet.reads hL (.tail _ (.tail _ (.tail _ (.head _))))
 exact ⟨utf8Tabs_of_reads (ρ:=Tryz.lays260_ren) Tryz.lays260 ⟨by kernel_rfl,by kernel_rfl,by kernel_rfl,by kernel_rfl,by kernel_rfl,by kernel_rfl,by kernel_rfl⟩ r1 r2,
  iface_reads (by kernel_rfl) (by kernel_rfl) Tryz.underlying91 (Lib.laidMet.reads hL (.tail _ (.tail _ (.tail _ (.tail _ (.tail _ (.head _))))))),iface_reads (by kernel_rfl) (by kernel_rfl) Tryz.underlying91 (Lib.laidMet.reads hL (.tail _ (.tail _ (.tail _ (.tail _ (.head _)))))),tz_of (by rw [←tab64_eq]; exact Lib.laidMet.reads hL (.tail _ (.head _)))⟩
def ints (k:IntKind) (l:List Int):Array Value:=(l.map fun z=>Value.int k z).toArray
def u8s (l:List Int):Array Value:=ints .u8 l
def setTab (h:Array Obj) (g:Nat) (cs:Array Value):Array Obj:=h.modify g fun
 | .cells _ t frozen => .cells cs t frozen
 | o=>o
noncomputable def low:Nat:=(World.holding Tryz.prog default ⟨#[],#[],[]⟩).heap.size
noncomputable def laidWorld (os:Os) (args:Array Value):World:=
 { World.holding Tryz.prog os ⟨#[.cells #[.string { data:=#[118,97,108,117,101,32,111,117,116,32,111,102,32,114,97,110,103,101] }] 306,.cells #[.string { data:=#[105,110,118,97,108,105,100,32,115,121,110,116,97,120] }] 306],args,[]⟩ with
  heap:=(setTab (setTab (setTab (setTab (setTab (setTab (setTab (World.holding Tryz.prog os ⟨#[.cells #[.string { data:=#[118,97,108,117,101,32,111,117,116,32,111,102,32,114,97,110,103,101] }] 306,.cells #[.string { data:=#[105,110,118,97,108,105,100,32,115,121,110,116,97,120] }] 306],args,[]⟩).heap 6 (ints .u8 [0,1,28,2,29,14,24,3,30,22,20,15,25,17,4,8,31,27,13,23,21,19,16,7,26,12,18,6,11,5,10,9])) 7 (ints .u8 [0,1,56,2,57,49,28,3,61,58,42,50,38,29,17,4,62,47,59,36,45,43,51,22,53,39,33,30,24,18,12,5,63,55,48,27,60,41,37,16,46,35,44,21,52,32,23,11,54,26,40,15,34,20,31,10,25,14,19,9,13,8,7,6])) 5 (ints .u64 [1,10,100,1000,10000,100000,1000000,10000000,100000000,1000000000,10000000000,100000000000,1000000000000,10000000000000,100000000000000,1000000000000000,10000000000000000,100000000000000000,1000000000000000000,10000000000000000000])) 1 (ints .u8 [128,191,160,191,128,159,144,191,128,143,0,0,0,0,0,0,0,0,0,0,0,0,0,0,0,0,0,0,0,0,0,0])) 4 (#[.iface 304 (.pointer (some ⟨low+0,0,none⟩))])) 3 (#[.iface 304 (.pointer (some ⟨low+1,0,none⟩))])) 0 (u8s Lib.firstTab)) }
end Card
end Go.Proofs.YtahmpiioegemaaaGreatDoor

namespace Go.Proofs.YtahmpiioegemaaaGreatDoor
open Go.RowKit
mutual
def D.cells:D→List AX.A
 | .int k n=>[.int k n]
 | .str l=>[.str l]
 | .bool b=>[.bool b]
 | .agg l=>D.cellsL l
 | .sl W l=>[.sl W .no (D.rows l)]
def D.cellsL:List D→List AX.A
 | []=>[]
 | d::l=>d.cells++D.cellsL l
def D.rows:List D→List (List AX.A)
 | []=>[]
 | d::l=>d.cells::D.rows l
end
theorem D.rows_length:∀ l:List D,(D.rows l).length=l.length
 | []=>by simp [D.rows]
 | d::l=>by simp [D.rows,D.rows_length l]
mutual
theorem D.cells_data:∀ (d:D) (x:AX.A),x∈d.cells→x.data=true
 | .int k n,x,h=>by unfold D.cells at h; simp at h; subst h; rfl
 | .str l,x,h=>by unfold D.cells at h; simp at h; subst h; rfl
 | .bool b,x,h=>by unfold D.cells at h; simp at h; subst h; rfl
 | .agg l,x,h=>by unfold D.cells at h; exact D.cellsL_data l x h
 | .sl W l,x,h=>by unfold D.cells at h; simp at h; subst h; rfl
theorem D.cellsL_data:∀ (l:List D) (x:AX.A),x∈D.cellsL l→x.data=true
 | [],x,h=>by unfold D.cellsL at h; simp at h
 | d::l,x,h=>by
  unfold D.cellsL at h
  rcases List.mem_append.1 h with h | h
  ·exact D.cells_data d x h
  ·exact D.cellsL_data l x h
end
namespace AX
theorem repL_app2 {C:Ctx}:∀ {l m:List A} {cs ds:List Value},RepL C l cs→RepL C m ds→RepL C (l++m) (cs++ds)
 | [],m,cs,ds,h,k=>by
  rw [repL_nil] at h; subst h
  exact k
 | x::l,m,cs,ds,h,k=>by
  obtain ⟨c,cs',rfl,h1,h2⟩:=repL_cons.1 h
  exact repL_cons.2 ⟨c,cs'++ds,rfl,h1,repL_app2 h2 k⟩
theorem repAt_of2 {C:Ctx} {g:Nat} (hS:∀ j,C.S g j):∀ (l:List A) (c:List Value) (o:Nat),RepL C l c→(∀ x∈l,x.data=true)→(∀ j,j < l.length→C.w.cell? ⟨g,o+j,none⟩=c[j]?)→RepAt C l g o
 | [],c,o,h,hd,hc=>by unfold RepAt; trivial
 | x::l,c,o,h,hd,hc=>by
  obtain ⟨v,c',rfl,h1,h2⟩:=repL_cons.1 h
  unfold RepAt
  refine ⟨⟨hS o,hd x (by simp),v,by simpa using hc 0 (by simp),h1⟩,repAt_of2 hS l c' (o+1) h2 (fun y hy=>hd y (by simp [hy])) fun j hj=>?_⟩
  have:=hc (j+1) (by simpa using hj)
  rw [show o+1+j=o+(j+1) by omega]
  simpa using this
mutual
theorem rd_rep {C:Ctx} {S:Nat→Prop} (hS:∀ g,S g→∀ j,C.S g j):∀ (d:D) (cs:List Value),Rd C.w S d cs→RepL C d.cells cs
 | .int k n,cs,h=>by unfold Rd at h; unfold D.cells; subst h; exact repL_cons.2 ⟨_,_,rfl,rep_int.2 rfl,repL_nil.2 rfl⟩
 | .str l,cs,h=>by unfold Rd at h; unfold D.cells; subst h; exact repL_cons.2 ⟨_,_,rfl,rep_str.2 rfl,repL_nil.2 rfl⟩
 | .bool b,cs,h=>by unfold Rd at h; unfold D.cells; subst h; exact repL_cons.2 ⟨_,_,rfl,rep_bool.2 rfl,repL_nil.2 rfl⟩
 | .agg l,cs,h=>by unfold Rd at h; unfold D.cells; exact rdAgg_rep hS l cs h
 | .sl W l,cs,h=>by
  unfold Rd at h; unfold D.cells
  obtain ⟨a,cap,rfl,h1,h2⟩:=h
  refine repL_cons.2 ⟨_,_,rfl,rep_sl.2 ⟨a,cap,by rw [D.rows_length],by rw [D.rows_length]; exact h1,rdRow_rep hS W l a 0 h2,trivial⟩,repL_nil.2 rfl⟩
theorem rdAgg_rep {C:Ctx} {S:Nat→Prop} (hS:∀ g,S g→∀ j,C.S g j):∀ (l:List D) (cs:List Value),RdAgg C.w S l cs→RepL C (D.cellsL l) cs
 | [],cs,h=>by unfold RdAgg at h; unfold D.cellsL; exact repL_nil.2 h
 | d::l,cs,h=>by
  unfold RdAgg at h; unfold D.cellsL
  obtain ⟨c1,c2,rfl,h1,h2⟩:=h
  exact repL_app2 (rd_rep hS d c1 h1) (rdAgg_rep hS l c2 h2)
theorem rdRow_rep {C:Ctx} {S:Nat→Prop} (hS:∀ g,S g→∀ j,C.S g j) (W:Nat):∀ (l:List D) (a:Option Addr) (i:Nat),RdRow C.w S W l a i→RepRows C W (D.rows l) a i
 | [],a,i,h=>by unfold D.rows RepRows; trivial
 | d::l,a,i,h=>by
  unfold RdRow at h; unfold D.rows RepRows
  obtain ⟨⟨g,off,c,h1,h2,h3,h4,h5⟩,h6⟩:=h
  have hr:=rd_rep hS d c h5
  have hl:=repL_length hr
  refine ⟨⟨g,off,h1,by omega,repAt_of2 (hS g h2) d.cells c _ hr (D.cells_data d) fun j hj=>h4 j (by omega)⟩,rdRow_rep hS W l a (i+1) h6⟩
end
def Ctx.of (w:World):Ctx:={ w:=w,S:=fun g _=>g < w.heap.size,κ:=fun _=>0,nb:=0,τ:=fun _=>0,hw:=fun _=>none,own:=fun _=>none,base:=w.heap.size }
theorem inv_of {G:World→Prop} {w:World} (hG:∀ w':World,(∀ g,g < w.heap.size→w'.heap[g]?=w.heap[g]?)→G w'):Inv G (Ctx.of w) ⟨[],[]⟩ where
 nb:=rfl
 box:=fun i b h=>by simp at h
 ownk:=fun i h=>by simp [Ctx.of] at h
 ownlt:=fun g i h=>by simp [Ctx.of] at h
 prot:=fun g j h=>⟨h,rfl,fun t E W m ht=>by simp [Ctx.of] at ht⟩
 rows:=fun t E W m h=>by simp [Ctx.of] at h
 inj:=fun t t' h=>by simp [Ctx.of] at h
 toks:=fun t=>by simp [Ctx.of]
 base:=Nat.le_refl _
 glob:=hG
theorem rd_of {w:World} {d:D} {cs:List Value} (h:Rd w (Old w) d cs):RepL (Ctx.of w) d.cells cs:=rd_rep (C:=Ctx.of w) (S:=Old w) (fun g hg j=>hg) d cs h
theorem calls_of {P:Program} {G:World→Prop} {f:FuncId} {args:List A} {vs:List Value} {w:World} (hc:ACall P G f args ⟨[],[]⟩ fun v _=>v = .bool true) (hG:∀ w':World,(∀ g,g < w.heap.size→w'.heap[g]?=w.heap[g]?)→G w')
  (ha:RepL (Ctx.of w) args vs):Calls P f vs.toArray w fun e w'=>e = .returned (.bool true)∧Below w.heap.size w w':=by
 refine (hc (Ctx.of w) vs (inv_of hG) ha).mono ?_
 rintro e w' ⟨C',h',v,cv,rfl,rfl,_,st,hr,rfl⟩
 rw [rep_bool] at hr; subst hr
 exact ⟨rfl,st.os,st.tape,st.output,st.size,fun g hg=>st.frame g hg rfl fun t ht=>by simp [Ctx.of] at ht⟩
theorem tabs_keep {a b:Nat} {w:World} (h:Lib.Utf8Tabs a b w):∀ w':World,(∀ g,g < w.heap.size→w'.heap[g]?=w.heap[g]?)→Lib.Utf8Tabs a b w':=by
 intro w' hw
 have hlt:∀ {g j:Nat} {v:Value},w.cell? ⟨g,j,none⟩=some v→g < w.heap.size:=fun {g j v} h=>(cell_there h).2
 have hc:∀ {g j:Nat} {v:Value},w.cell? ⟨g,j,none⟩=some v→w'.cell? ⟨g,j,none⟩=some v:=fun {g j v} h=>by
  rw [←h]; simp only [World.cell?,hw g (hlt h)]
 exact ⟨fun c hcl=>hc (h.1 c hcl),fun i hi=>⟨hc (h.2 i hi).1,hc (h.2 i hi).2⟩⟩
end AX
end Go.Proofs.YtahmpiioegemaaaGreatDoor

namespace Go.Proofs.YtahmpiioegemaaaGreatDoor
open Go.RowKit Go.ChangeShapes Go.WideShapes
theorem strs_rows:∀ ks:List (List UInt8),D.rows (ks.map .str)=strsA ks
 | []=>by simp [D.rows,strsA]
 | k::ks=>by
  have:=strs_rows ks
  simp only [List.map_cons,D.rows,D.cells,this]
  rfl
mutual
theorem V.cells_toD:∀ v:V,v.toD.cells=v.cells
 | .mk k n s is ks=>by
  unfold V.toD V.cells
  simp only [D.cells,D.cellsL,List.cons_append,List.nil_append,List.append_nil,V.rows_toDs is,strs_rows]
theorem V.rows_toDs:∀ l:List V,D.rows (V.toDs l)=V.cellss l
 | []=>by unfold V.toDs D.rows V.cellss; rfl
 | v::l=>by unfold V.toDs D.rows V.cellss; rw [V.cells_toD v,V.rows_toDs l]
end
mutual
theorem V.Wf.lens:∀ v:V,v.Wf→v.lens
 | .mk k n s is ks,h=>by
  unfold V.Wf at h; unfold V.lens
  exact ⟨h.1.2.2.2.1,h.1.2.2.2.2.1,h.1.2.2.1,h.1.2.2.2.2.2,V.Wfs.lens is h.2⟩
theorem V.Wfs.lens:∀ l:List V,V.Wfs l→V.lensS l
 | [],h=>by unfold V.lensS; trivial
 | v::l,h=>by
  unfold V.Wfs at h; unfold V.lensS
  exact ⟨V.Wf.lens v h.1,V.Wfs.lens l h.2⟩
end
namespace AX
theorem gt_keep {w:World} (g:GT w):∀ w':World,(∀ g,g < w.heap.size→w'.heap[g]?=w.heap[g]?)→GT w':=fun w' hw=>by
 have hi:∀ {n:Nat},IfaceAt n w→IfaceAt n w':=fun ⟨ev,h1,h2⟩=>⟨ev,by rw [←h1]; simp only [World.cell?,hw _ (cell_there h1).2],h2⟩
 exact ⟨tabs_keep g.tabs w' hw,hi g.esyn,hi g.erng,by rw [←g.tz]; simp only [World.cell?,hw _ (cell_there g.tz).2]⟩
section
variable {H:Type} {enc:TypeId×Value→H} {w:World} {base:Nat} {spare:Nat→Bool} {held:Bool} {r:Reach} {b0:Nat} {v:Value} {d:DataW H} {p:List MemPlace}
end
end AX
end Go.Proofs.YtahmpiioegemaaaGreatDoor

namespace Go.Proofs.YtahmpiioegemaaaGreatDoor
open Go.RowKit
def BWtr (B b:Nat) (l:List UInt8) (w:World):Prop:=
 B≤b∧∃ p v,(p = .pointer none∨p = .pointer (some ⟨b,0,none⟩))∧w.heap[b]?=some (.cells #[p,v] 86 (0,0))∧w.ownsRowF B 5 1 v l.length (Lib.byteCells l)∧v.ownBlock≠some b
def BWtrU (B b:Nat) (l:List UInt8) (w:World):Prop:=
 B≤b∧∃ v,w.heap[b]?=some (.cells #[.pointer (some ⟨b,0,none⟩),v] 86 (0,0))∧w.ownsRowF B 5 1 v l.length (Lib.byteCells l)∧v.ownBlock≠some b
set_option maxRecDepth 100000 in
theorem bwtr_fresh (b:Nat) (w:World) (h0:w.cell? ⟨b,0,none⟩=some (.pointer none)) (hsh:w.shape? b=some (86,2)) (hfz:w.frozen? ⟨b,0,none⟩=false) :
  Calls Tryz.prog 87 #[.pointer (some ⟨b,0,none⟩)] w fun e w'=>e = .returned (.tuple #[])∧w'=w.setCell ⟨b,0,none⟩ (.pointer (some ⟨b,0,none⟩)):=by
 obtain ⟨j,hj,hjs⟩:=Option.map_eq_some_iff.1 (show (Tryz.prog.info? 86).map (·.size)=some 2 by kernel_rfl)
 have hlies:liesAt Tryz.prog Tryz.prog.depth 86 (2 / Tryz.prog.cellsOf 86) 0 86 1=true:=by kernel_rfl
 go_enter Tryz.func87,Tryz.ntmps87
 go_wp2
 rw [Lib.run_to_unsafe w ⟨b,0,none⟩ Tryz.underlying84 Tryz.underlying183 hj (by rw [hjs]; decide) hsh (by show 0 < 2; omega)]
 simp only [Result.andThen]
 rw [Oper.upon_value]
 go_wp2
 rw [run_callFunc_extern Tryz.func126 (by kernel_rfl) (by kernel_rfl) (by kernel_rfl) (e:=Extern.AbiNoEscape.same) (by kernel_rfl)]
 rw [Lib.run_noEscape]
 simp only [Result.andThen]
 rw [Oper.upon_value]
 go_wp2
 rw [Lib.run_from_unsafe w ⟨b,0,none⟩ Tryz.underlying183 Tryz.underlying84 hj hsh hlies]
 simp only [Result.andThen]
 rw [Oper.upon_value]
 go_wp2
 go_end0
 exact ⟨rfl,rfl⟩
theorem cell_row2 {w:World} {b:Nat} {p v:Value} {T:TypeId} (h:w.heap[b]?=some (.cells #[p,v] T (0,0))):w.cell? ⟨b,0,none⟩=some p∧w.cell? ⟨b,1,none⟩=some v∧(∀ i,w.frozen? ⟨b,i,none⟩=false)∧w.shape? b=some (T,2)∧b < w.heap.size:=by
 refine ⟨?_,?_,fun i=>?_,?_,(Array.getElem?_eq_some_iff.1 h).1⟩
 ·rw [cell_of_row _ _ _ _ _ _ h]; rfl
 ·rw [cell_of_row _ _ _ _ _ _ h]; rfl
 ·simp [World.frozen?,h]
 ·simp [World.shape?,h]
theorem BWtr.used {B b:Nat} {l:List UInt8} {w:World} {p v:Value} (hB:B≤b) (hb:w.heap[b]?=some (.cells #[p,v] 86 (0,0))) (hown:w.ownsRowF B 5 1 v l.length (Lib.byteCells l)) (hne:v.ownBlock≠some b) :
  BWtrU B b l (w.setCell ⟨b,0,none⟩ (.pointer (some ⟨b,0,none⟩))):=by
 refine ⟨hB,v,?_,?_,hne⟩
 ·simp [World.setCell,Array.getElem?_modify,hb]
 ·exact hown.kept (row:=some b) ⟨rfl,rfl,rfl,by simp [World.setCell],fun k _ hk=>Below.heap_setCell _ _ _ _ (fun e=>hk (by simp [e]))⟩ (Or.inr hne)
def BF (F:Nat→Prop) (b:Nat) (l:List UInt8) (w:World):Prop:=
 ∃ p v,(p = .pointer none∨p = .pointer (some ⟨b,0,none⟩))∧w.heap[b]?=some (.cells #[p,v] 86 (0,0))∧w.ownsRowF 0 5 1 v l.length (Lib.byteCells l)∧v.ownBlock≠some b∧F b∧∀ k,v.ownBlock=some k→F k
theorem bf_check {F:Nat→Prop} {b:Nat} {l:List UInt8} {w:World} (h:BF F b l w) :
  Calls Tryz.prog 87 #[.pointer (some ⟨b,0,none⟩)] w fun e w'=>e = .returned (.tuple #[])∧(∃ v,w'.heap[b]?=some (.cells #[.pointer (some ⟨b,0,none⟩),v] 86 (0,0))∧w'.ownsRowF 0 5 1 v l.length (Lib.byteCells l)∧v.ownBlock≠some b∧F b∧∀ k,v.ownBlock=some k→F k)∧Fr F w w':=by
 obtain ⟨p,v,hp,hb,hown,hne,hF,hFk⟩:=h
 obtain ⟨c0,c1,hf,hsh,hlt⟩:=cell_row2 hb
 rcases hp with rfl | rfl
 ·refine (bwtr_fresh b w c0 hsh (hf 0)).mono ?_
  rintro e w' ⟨rfl,rfl⟩
  obtain ⟨_,v',hb',hown',hne'⟩:=BWtr.used (B:=0) (Nat.zero_le _) hb hown hne
  have hv:v'=v:=by
   have:=(cell_row2 hb').2.1
   have h2:(w.setCell ⟨b,0,none⟩ (.pointer (some ⟨b,0,none⟩))).heap[b]?=some (.cells #[.pointer (some ⟨b,0,none⟩),v] 86 (0,0)):=by simp [World.setCell,Array.getElem?_modify,hb]
   have h3:=(cell_row2 h2).2.1
   rw [h3] at this; injection this with this; exact this.symm
  subst hv
  exact ⟨rfl,⟨v',hb',hown',hne',hF,hFk⟩,Fr.set w b 0 _ hF⟩
 ·refine (Any.Builder_copyCheck_used Tryz.lays240 Tryz.Builder_X72_240 b w c0).mono ?_
  rintro e w' ⟨rfl,rfl⟩
  exact ⟨rfl,⟨v,hb,hown,hne,hF,hFk⟩,Fr.refl F _⟩
set_option maxRecDepth 100000 in
theorem bf_write {F:Nat→Prop} {b:Nat} {l:List UInt8} {w:World} (h:BF F b l w) (s:List UInt8) (hlen:l.length+s.length≤1000000000) :
  Calls Tryz.prog 43 #[.pointer (some ⟨b,0,none⟩),.string ⟨s.toArray⟩] w fun e w'=>e = .returned (.tuple #[.int .i64 s.length,.nilIface])∧BF (fun k=>F k∨w.heap.size≤k) b (l++s) w'∧Fr F w w':=by
 obtain ⟨i0,hi,hz0,hz1,hz2⟩:=info_parts info_byte
 go_enter Tryz.func43,Tryz.ntmps43
 go_wp2_with fail
 (with_reducible refine (bf_check h).mono ?_)
 rintro e w1 ⟨rfl,⟨v,hbk,hown,hne,hF,hFk⟩,hb1⟩
 obtain ⟨c0,c1,hf,hsh,hlt⟩:=cell_row2 hbk
 go_wp2_with (at_builtin; refine wpList_append_F _ rfl _ _ 61 9 rfl 5 i0 Tryz.underlying61 Tryz.underlying9 hi hz0 hz1 hz2 _ _ _ rfl hown ⟨s.toArray⟩ rfl ?c3 ?c4 ?_)
 case c3=>rw [size_mk]; unfold maxLen; omega
 case c4=>rw [size_mk]; omega
 intro v' w2 hown' hgrow hwhere
 have hb2:w2.heap[b]?=some (.cells #[.pointer (some ⟨b,0,none⟩),v] 86 (0,0)):=(hgrow.block b hlt (fun e=>hne e.symm)).trans hbk
 obtain ⟨d0,d1,hf2,_,hlt2⟩:=cell_row2 hb2
 have f1:=hf2 1
 have hown2:w2.ownsRowF 0 5 1 v' (l++s).length (Lib.byteCells (l++s)):=by
  have e1:(⟨s.toArray⟩:ByteArray).size=s.length:=size_mk s
  have e2:Lib.byteCells l++Lib.strCells ⟨s.toArray⟩=Lib.byteCells (l++s):=by unfold Lib.strCells Lib.byteCells; simp
  rw [List.length_append,←e2,←e1]; exact hown'
 have hne2:=Lib.ownBlock_neF hown2 hb2 (show 86≠5 by decide)
 have hwb1:=hb1.size
 have Hfin:=kept (show BF (fun k=>F k∨w.heap.size≤k) b (l++s) (w2.setCell ⟨b,1,none⟩ v') from by
  refine ⟨_,v',.inr rfl,?_,?_,hne2,.inl hF,fun k hk=>?_⟩
  ·simp [World.setCell,Array.getElem?_modify,hb2]
  ·exact hown2.kept (row:=some b) ⟨rfl,rfl,rfl,by simp [World.setCell],fun k _ hk=>Below.heap_setCell _ _ _ _ (fun e=>hk (by simp [e]))⟩ (Or.inr hne2)
  ·rcases hwhere k hk with h1 | h1
   ·exact .inl (hFk k h1)
   ·exact .inr (by omega))
 have Hfr:=kept ((hb1.trans (Fr.grown hgrow fun k hk=>hFk k hk)).trans (Fr.set w2 b 1 v' hF))
 obtain ⟨ao,n',cap,rfl⟩:∃ ao n' cap,v' = .slice ao n' cap:=by
  rcases hown'.2 with ⟨hv,_⟩ | ⟨g,cap,cur,fz,hv,_⟩
  ·exact ⟨_,_,_,hv⟩
  ·exact ⟨_,_,_,hv⟩
 clear hown' hown2 hne2 hb2 hbk hown hne hgrow hb1 h hwhere
 go_wp2
 go_ret2
 exact ⟨by simp,Hfin.out,Hfr.out⟩
set_option maxRecDepth 100000 in
theorem bf_string {F:Nat→Prop} {b:Nat} {l:List UInt8} {w:World} (h:BF F b l w) (h0:l≠[]) :
  Calls Tryz.prog 44 #[.pointer (some ⟨b,0,none⟩)] w fun e w'=>e = .returned (.string ⟨l.toArray⟩)∧Fr F w w':=by
 obtain ⟨p,v,hp,hbk,hown,hne,hFb,hFk⟩:=h
 have hl0:l.length≠0:=by simpa using h0
 obtain ⟨g,cap,cur,fz,rfl,hbg,hg,hfz,hnc,hcm,hcs,htake⟩:∃ g cap cur fz,v = .slice (some ⟨g,0,none⟩) l.length cap∧0≤g∧w.heap[g]?=some (.cells cur 5 fz)∧fz.2≤l.length*1∧l.length≤cap∧cap≤maxLen∧cur.size=cap*1∧cur.toList.take (l.length*1)=Lib.byteCells l:=by
  rcases hown.2 with ⟨_,hz⟩ | ⟨g,cap,cur,fz,hv,r⟩
  ·exact absurd hz hl0
  ·exact ⟨g,cap,cur,fz,hv,r⟩
 have HFg:=kept (hFk g rfl)
 have c1:w.drew.cell? ⟨b,1,none⟩=some (.slice (some ⟨g,0,none⟩) l.length cap):=(cell_row2 hbk).2.1
 have hSD:(Builtin.unsafeSliceData_ #[61] 133 #[.slice (some ⟨g,0,none⟩) l.length cap]).run Tryz.prog w.drew = .ok (.pointer (some ⟨g,0,none⟩)) w.drew:=
  Lib.run_unsafeSliceData_row _ _ _ _ _ _ (by omega)
 have hUS:(Builtin.unsafeString_ #[133,3] 9 #[.pointer (some ⟨g,0,none⟩),.int .i64 l.length]).run Tryz.prog w.drew = .ok (.string ⟨l.toArray⟩) (w.drew.freeze ⟨g,0,none⟩ l.length):=by
  refine Lib.run_unsafeString_row w.drew 133 3 9 5 Tryz.underlying133 Tryz.Builder_Extra_169.cellsByte g cur.size (by have hg':w.drew.heap[g]?=some (.cells cur 5 fz):=hg; simp [World.shape?,hg']) l h0 (by omega) (by unfold maxLen at hcm; omega) ?_
  intro j x hx
  have:=hown.cells (g:=g) rfl j (.int .u8 x.toNat) (by simp [Lib.byteCells,hx])
  exact this
 have Hfr:=kept (show Fr F w (w.drew.freeze ⟨g,0,none⟩ l.length) from by
  unfold World.freeze
  split
  ·exact ⟨rfl,rfl,rfl,Nat.le_refl _,fun _ _ _=>rfl⟩
  ·refine ⟨rfl,rfl,rfl,by simp,fun k hk hn=>?_⟩
   have hkg:k≠g:=fun e=>hn (by rw [e]; exact HFg.out)
   simp only [Array.getElem?_modify,if_neg hkg.symm]; rfl)
 clear hown hp hne hbk hnc hcm hcs htake hfz hg hl0 h0 hFk hFb
 have mixed:=Tryz.lays169.mixed
 go_enter Tryz.func44,Tryz.ntmps44
 go_wp2
 go_region_o
 all_goals (go_wp2; go_ret; exact ⟨rfl,Hfr.out⟩)
namespace AX
def bwt (l:List UInt8):Blk:=.opq (fun F g w=>BF F g l w) (fun _=>none)
def Bt (h:Hp) (i:Nat) (l:List UInt8):Prop:=h.b[i]?=some (bwt l)∨(l=[]∧h.b[i]?=some (.cells 86 [.nilp,.sl 0 .nil []]))
theorem BF.stable {F:Nat→Prop} {b:Nat} {l:List UInt8} {w w':World} (h:BF F b l w) (hs:∀ g,F g→w'.heap[g]?=w.heap[g]?):BF F b l w':=by
 obtain ⟨p,v,hp,hb,hown,hne,hF,hFk⟩:=h
 refine ⟨p,v,hp,(hs b hF).trans hb,⟨hown.1,?_⟩,hne,hF,hFk⟩
 rcases hown.2 with h1 | ⟨g,cap,cur,fz,rfl,h2,h3,h4⟩
 ·exact .inl h1
 ·exact .inr ⟨g,cap,cur,fz,rfl,h2,(hs g (hFk g rfl)).trans h3,h4⟩
theorem Bt.lt {h:Hp} {i:Nat} {l:List UInt8} (hw:Bt h i l):i < h.b.length:=by
 rcases hw with h1 | ⟨_,h1⟩
 ·exact (List.getElem?_eq_some_iff.1 h1).1
 ·exact (List.getElem?_eq_some_iff.1 h1).1
theorem Bt.bf {h:Hp} {i:Nat} {l:List UInt8} {C:Ctx} {G:World→Prop} (hw:Bt h i l) (hI:Inv G C h):BF (fun g=>C.own g=some i) (C.κ i) l C.w:=by
 have hi:i < C.nb:=by rw [←hI.nb]; exact hw.lt
 rcases hw with h1 | ⟨rfl,h1⟩
 ·exact (hI.box i _ h1).1 C.w (fun _ _=>rfl) (Nat.le_refl _)
 ·obtain ⟨cs,k1,k2⟩:=hI.box i _ h1
  obtain ⟨c0,d0,rfl,e0,k2⟩:=repL_cons.1 k2
  obtain ⟨c1,d1,rfl,e1,k2⟩:=repL_cons.1 k2
  rw [repL_nil] at k2; subst k2
  rw [rep_nilp] at e0; subst e0
  obtain ⟨a,cap,rfl,_,_,e3,e4,_⟩:=rep_sl.1 e1
  subst e3; subst e4
  exact ⟨_,_,.inl rfl,k1,⟨rfl,.inl ⟨rfl,rfl⟩⟩,by simp [Value.ownBlock],hI.ownk i hi,fun k hk=>by simp [Value.ownBlock] at hk⟩
theorem bwtr_rep {C:Ctx} {i:Nat} {l:List UInt8} (h:BF (fun g=>C.own g=some i) (C.κ i) l C.w):BlkRep C i (bwt l):=by
 refine ⟨fun w' hw _=>BF.stable h hw,fun o x hx=>?_⟩
 cases hx
theorem a_bwrite {h:Hp} {i:Nat} {l:List UInt8} (hw:Bt h i l) (s:List UInt8) (hlen:l.length+s.length≤1000000000) :
  ACall Tryz.prog GT 43 [.ptr i 0,.str s] h fun v h'=>v = .tup [.int .i64 s.length,.nili]∧h'=⟨h.b.set i (bwt (l++s)),h.t⟩:=by
 intro C es hI ha
 obtain ⟨c,es',rfl,h1,h2⟩:=repL_cons.1 ha
 obtain ⟨rfl,hi⟩:=rep_ptr.1 h1
 obtain rfl:=args1 r_str C es' h2
 refine (bf_write (hw.bf hI) s hlen).mono ?_
 rintro e w' ⟨rfl,m1,m2⟩
 have hrep:BlkRep (C.turn w' i true) i (bwt (l++s)):=by
  refine bwtr_rep ?_
  obtain ⟨p,v,hp,hb,hown,hne,hF,hFk⟩:=m1
  have hlt:=(cell_row2 hb).2.2.2.2
  have hcl:∀ k,k < w'.heap.size→(C.own k=some i∨C.w.heap.size≤k)→(C.turn w' i true).own k=some i:=fun k hk hor=>by
   show (if k < C.w.heap.size then C.own k else if true=true∧k < w'.heap.size then some i else none)=some i
   split
   ·rcases hor with h3 | h3
    ·exact h3
    ·omega
   ·rw [if_pos ⟨rfl,hk⟩]
  refine ⟨p,v,hp,hb,hown,hne,hcl _ hlt hF,fun k hk=>hcl k ?_ (hFk k hk)⟩
  rcases hown.2 with ⟨rfl,_⟩ | ⟨g,cap,cur,fz,rfl,_,h3,_⟩
  ·simp [Value.ownBlock] at hk
  ·simp only [Value.ownBlock,Option.some.injEq] at hk; subst hk
   exact (Array.getElem?_eq_some_iff.1 h3).1
 obtain ⟨i1,s1⟩:=box_turn (b':=bwt (l++s)) true hI hi m2.os m2.tape m2.output m2.size (fun g hg hne=>m2.block g hg hne) (fun _=>hrep)
 exact ⟨_,_,.tup [.int .i64 s.length,.nili],_,rfl,rfl,i1,s1,rep_tup.2 ⟨_,rfl,repL_cons.2 ⟨_,_,rfl,rep_int.2 rfl,repL_cons.2 ⟨_,_,rfl,rep_nili.2 rfl,repL_nil.2 rfl⟩⟩⟩,rfl,rfl⟩
theorem a_bstring {h:Hp} {i:Nat} {l:List UInt8} (hw:Bt h i l) (h0:l≠[]):ACall Tryz.prog GT 44 [.ptr i 0] h fun v h'=>v = .str l∧h'=⟨h.b.set i dead,h.t⟩:=by
 intro C es hI ha
 obtain ⟨c,es',rfl,h1,h2⟩:=repL_cons.1 ha
 obtain ⟨rfl,hi⟩:=rep_ptr.1 h1
 rw [repL_nil] at h2; subst h2
 refine (bf_string (hw.bf hI) h0).mono ?_
 rintro e w' ⟨rfl,m2⟩
 obtain ⟨i1,s1⟩:=box_turn (b':=dead) false hI hi m2.os m2.tape m2.output m2.size (fun g hg hne=>m2.block g hg hne) (fun _=>⟨fun _ _ _=>trivial,fun o x hx=>by cases hx⟩)
 exact ⟨_,_,.str l,_,rfl,rfl,i1,s1,rep_str.2 rfl,rfl,rfl⟩
end AX
def LWtr (B b:Nat) (l:List UInt8) (w:World):Prop:=
 B≤b∧∃ p v,(p = .pointer none∨p = .pointer (some ⟨b,0,none⟩))∧w.heap[b]?=some (.cells #[p,v] 88 (0,0))∧w.ownsRowF B 5 1 v l.length (Lib.byteCells l)∧v.ownBlock≠some b
def LWtrU (B b:Nat) (l:List UInt8) (w:World):Prop:=
 B≤b∧∃ v,w.heap[b]?=some (.cells #[.pointer (some ⟨b,0,none⟩),v] 88 (0,0))∧w.ownsRowF B 5 1 v l.length (Lib.byteCells l)∧v.ownBlock≠some b
theorem LWtrU.lwtr {B b:Nat} {l:List UInt8} {w:World} (h:LWtrU B b l w):LWtr B b l w:=by
 obtain ⟨h1,v,h2,h3⟩:=h
 exact ⟨h1,_,v,.inr rfl,h2,h3⟩
set_option maxRecDepth 100000 in
theorem lwtr_fresh (b:Nat) (w:World) (h0:w.cell? ⟨b,0,none⟩=some (.pointer none)) (hsh:w.shape? b=some (88,2)) (hfz:w.frozen? ⟨b,0,none⟩=false) :
  Calls Tryz.prog 87 #[.pointer (some ⟨b,0,none⟩)] w fun e w'=>e = .returned (.tuple #[])∧w'=w.setCell ⟨b,0,none⟩ (.pointer (some ⟨b,0,none⟩)):=by
 obtain ⟨j,hj,hjs⟩:=Option.map_eq_some_iff.1 (show (Tryz.prog.info? 86).map (·.size)=some 2 by kernel_rfl)
 have hlies:liesAt Tryz.prog Tryz.prog.depth 88 (2 / Tryz.prog.cellsOf 88) 0 86 1=true:=by kernel_rfl
 go_enter Tryz.func87,Tryz.ntmps87
 go_wp2
 rw [Lib.run_to_unsafe w ⟨b,0,none⟩ Tryz.underlying84 Tryz.underlying183 hj (by rw [hjs]; decide) hsh (by show 0 < 2; omega)]
 simp only [Result.andThen]
 rw [Oper.upon_value]
 go_wp2
 rw [run_callFunc_extern Tryz.func126 (by kernel_rfl) (by kernel_rfl) (by kernel_rfl) (e:=Extern.AbiNoEscape.same) (by kernel_rfl)]
 rw [Lib.run_noEscape]
 simp only [Result.andThen]
 rw [Oper.upon_value]
 go_wp2
 rw [Lib.run_from_unsafe w ⟨b,0,none⟩ Tryz.underlying183 Tryz.underlying84 hj hsh hlies]
 simp only [Result.andThen]
 rw [Oper.upon_value]
 go_wp2
 go_end0
 exact ⟨rfl,rfl⟩
theorem LWtr.used {B b:Nat} {l:List UInt8} {w:World} {p v:Value} (hB:B≤b) (hb:w.heap[b]?=some (.cells #[p,v] 88 (0,0))) (hown:w.ownsRowF B 5 1 v l.length (Lib.byteCells l)) (hne:v.ownBlock≠some b) :
  LWtrU B b l (w.setCell ⟨b,0,none⟩ (.pointer (some ⟨b,0,none⟩))):=by
 refine ⟨hB,v,?_,?_,hne⟩
 ·simp [World.setCell,Array.getElem?_modify,hb]
 ·exact hown.kept (row:=some b) ⟨rfl,rfl,rfl,by simp [World.setCell],fun k _ hk=>Below.heap_setCell _ _ _ _ (fun e=>hk (by simp [e]))⟩ (Or.inr hne)
theorem lwtr_len {B b:Nat} {l:List UInt8} {w:World} (h:LWtr B b l w) :
  Calls Tryz.prog 42 #[.pointer (some ⟨b,0,none⟩)] w fun e w'=>e = .returned (.int .i64 l.length)∧w'=w:=by
 obtain ⟨hB,p,v,hp,hb,hown,hne⟩:=h
 obtain ⟨c0,c1,hf,hsh,hlt⟩:=cell_row2 hb
 obtain ⟨ao,cap,rfl⟩:∃ ao cap,v = .slice ao l.length cap:=by
  rcases hown.2 with ⟨hv,h0⟩ | ⟨g,cap,cur,fz,hv,_⟩
  ·exact ⟨none,0,by rw [hv,h0]⟩
  ·exact ⟨_,_,hv⟩
 clear hown hp hne hb
 go_enter Tryz.func42,Tryz.ntmps42
 go_wp2
 go_ret
 exact ⟨rfl,rfl⟩
def LF (F:Nat→Prop) (b:Nat) (l:List UInt8) (w:World):Prop:=
 ∃ p v,(p = .pointer none∨p = .pointer (some ⟨b,0,none⟩))∧w.heap[b]?=some (.cells #[p,v] 88 (0,0))∧w.ownsRowF 0 5 1 v l.length (Lib.byteCells l)∧v.ownBlock≠some b∧F b∧∀ k,v.ownBlock=some k→F k
theorem LF.lwtr {F:Nat→Prop} {b:Nat} {l:List UInt8} {w:World} (h:LF F b l w):LWtr 0 b l w:=by
 obtain ⟨p,v,hp,hb,hown,hne,_⟩:=h
 exact ⟨Nat.zero_le _,p,v,hp,hb,hown,hne⟩
theorem lf_check {F:Nat→Prop} {b:Nat} {l:List UInt8} {w:World} (h:LF F b l w) :
  Calls Tryz.prog 87 #[.pointer (some ⟨b,0,none⟩)] w fun e w'=>e = .returned (.tuple #[])∧(∃ v,w'.heap[b]?=some (.cells #[.pointer (some ⟨b,0,none⟩),v] 88 (0,0))∧w'.ownsRowF 0 5 1 v l.length (Lib.byteCells l)∧v.ownBlock≠some b∧F b∧∀ k,v.ownBlock=some k→F k)∧Fr F w w':=by
 obtain ⟨p,v,hp,hb,hown,hne,hF,hFk⟩:=h
 obtain ⟨c0,c1,hf,hsh,hlt⟩:=cell_row2 hb
 rcases hp with rfl | rfl
 ·refine (lwtr_fresh b w c0 hsh (hf 0)).mono ?_
  rintro e w' ⟨rfl,rfl⟩
  obtain ⟨_,v',hb',hown',hne'⟩:=LWtr.used (B:=0) (Nat.zero_le _) hb hown hne
  have hv:v'=v:=by
   have:=(cell_row2 hb').2.1
   have h2:(w.setCell ⟨b,0,none⟩ (.pointer (some ⟨b,0,none⟩))).heap[b]?=some (.cells #[.pointer (some ⟨b,0,none⟩),v] 88 (0,0)):=by simp [World.setCell,Array.getElem?_modify,hb]
   have h3:=(cell_row2 h2).2.1
   rw [h3] at this; injection this with this; exact this.symm
  subst hv
  exact ⟨rfl,⟨v',hb',hown',hne',hF,hFk⟩,Fr.set w b 0 _ hF⟩
 ·refine (Any.Builder_copyCheck_used Tryz.lays240 Tryz.Builder_X72_240 b w c0).mono ?_
  rintro e w' ⟨rfl,rfl⟩
  exact ⟨rfl,⟨v,hb,hown,hne,hF,hFk⟩,Fr.refl F _⟩
set_option maxRecDepth 100000 in
theorem lf_write {F:Nat→Prop} {b:Nat} {l:List UInt8} {w:World} (h:LF F b l w) (s:List UInt8) (hlen:l.length+s.length≤1000000000) :
  Calls Tryz.prog 43 #[.pointer (some ⟨b,0,none⟩),.string ⟨s.toArray⟩] w fun e w'=>e = .returned (.tuple #[.int .i64 s.length,.nilIface])∧LF (fun k=>F k∨w.heap.size≤k) b (l++s) w'∧Fr F w w':=by
 obtain ⟨i0,hi,hz0,hz1,hz2⟩:=info_parts info_byte
 go_enter Tryz.func43,Tryz.ntmps43
 go_wp2_with fail
 (with_reducible refine (lf_check h).mono ?_)
 rintro e w1 ⟨rfl,⟨v,hbk,hown,hne,hF,hFk⟩,hb1⟩
 obtain ⟨c0,c1,hf,hsh,hlt⟩:=cell_row2 hbk
 go_wp2_with (at_builtin; refine wpList_append_F _ rfl _ _ 61 9 rfl 5 i0 Tryz.underlying61 Tryz.underlying9 hi hz0 hz1 hz2 _ _ _ rfl hown ⟨s.toArray⟩ rfl ?c3 ?c4 ?_)
 case c3=>rw [size_mk]; unfold maxLen; omega
 case c4=>rw [size_mk]; omega
 intro v' w2 hown' hgrow hwhere
 have hb2:w2.heap[b]?=some (.cells #[.pointer (some ⟨b,0,none⟩),v] 88 (0,0)):=(hgrow.block b hlt (fun e=>hne e.symm)).trans hbk
 obtain ⟨d0,d1,hf2,_,hlt2⟩:=cell_row2 hb2
 have f1:=hf2 1
 have hown2:w2.ownsRowF 0 5 1 v' (l++s).length (Lib.byteCells (l++s)):=by
  have e1:(⟨s.toArray⟩:ByteArray).size=s.length:=size_mk s
  have e2:Lib.byteCells l++Lib.strCells ⟨s.toArray⟩=Lib.byteCells (l++s):=by unfold Lib.strCells Lib.byteCells; simp
  rw [List.length_append,←e2,←e1]; exact hown'
 have hne2:=Lib.ownBlock_neF hown2 hb2 (show 88≠5 by decide)
 have hwb1:=hb1.size
 have Hfin:=kept (show LF (fun k=>F k∨w.heap.size≤k) b (l++s) (w2.setCell ⟨b,1,none⟩ v') from by
  refine ⟨_,v',.inr rfl,?_,?_,hne2,.inl hF,fun k hk=>?_⟩
  ·simp [World.setCell,Array.getElem?_modify,hb2]
  ·exact hown2.kept (row:=some b) ⟨rfl,rfl,rfl,by simp [World.setCell],fun k _ hk=>Below.heap_setCell _ _ _ _ (fun e=>hk (by simp [e]))⟩ (Or.inr hne2)
  ·rcases hwhere k hk with h1 | h1
   ·exact .inl (hFk k h1)
   ·exact .inr (by omega))
 have Hfr:=kept ((hb1.trans (Fr.grown hgrow fun k hk=>hFk k hk)).trans (Fr.set w2 b 1 v' hF))
 obtain ⟨ao,n',cap,rfl⟩:∃ ao n' cap,v' = .slice ao n' cap:=by
  rcases hown'.2 with ⟨hv,_⟩ | ⟨g,cap,cur,fz,hv,_⟩
  ·exact ⟨_,_,_,hv⟩
  ·exact ⟨_,_,_,hv⟩
 clear hown' hown2 hne2 hb2 hbk hown hne hgrow hb1 h hwhere
 go_wp2
 go_ret2
 exact ⟨by simp,Hfin.out,Hfr.out⟩
set_option maxRecDepth 100000 in
theorem lf_string {F:Nat→Prop} {b:Nat} {l:List UInt8} {w:World} (h:LF F b l w) (h0:l≠[]) :
  Calls Tryz.prog 44 #[.pointer (some ⟨b,0,none⟩)] w fun e w'=>e = .returned (.string ⟨l.toArray⟩)∧Fr F w w':=by
 obtain ⟨p,v,hp,hbk,hown,hne,hFb,hFk⟩:=h
 have hl0:l.length≠0:=by simpa using h0
 obtain ⟨g,cap,cur,fz,rfl,hbg,hg,hfz,hnc,hcm,hcs,htake⟩:∃ g cap cur fz,v = .slice (some ⟨g,0,none⟩) l.length cap∧0≤g∧w.heap[g]?=some (.cells cur 5 fz)∧fz.2≤l.length*1∧l.length≤cap∧cap≤maxLen∧cur.size=cap*1∧cur.toList.take (l.length*1)=Lib.byteCells l:=by
  rcases hown.2 with ⟨_,hz⟩ | ⟨g,cap,cur,fz,hv,r⟩
  ·exact absurd hz hl0
  ·exact ⟨g,cap,cur,fz,hv,r⟩
 have HFg:=kept (hFk g rfl)
 have c1:w.drew.cell? ⟨b,1,none⟩=some (.slice (some ⟨g,0,none⟩) l.length cap):=(cell_row2 hbk).2.1
 have hSD:(Builtin.unsafeSliceData_ #[61] 133 #[.slice (some ⟨g,0,none⟩) l.length cap]).run Tryz.prog w.drew = .ok (.pointer (some ⟨g,0,none⟩)) w.drew:=
  Lib.run_unsafeSliceData_row _ _ _ _ _ _ (by omega)
 have hUS:(Builtin.unsafeString_ #[133,3] 9 #[.pointer (some ⟨g,0,none⟩),.int .i64 l.length]).run Tryz.prog w.drew = .ok (.string ⟨l.toArray⟩) (w.drew.freeze ⟨g,0,none⟩ l.length):=by
  refine Lib.run_unsafeString_row w.drew 133 3 9 5 Tryz.underlying133 Tryz.Builder_Extra_169.cellsByte g cur.size (by have hg':w.drew.heap[g]?=some (.cells cur 5 fz):=hg; simp [World.shape?,hg']) l h0 (by omega) (by unfold maxLen at hcm; omega) ?_
  intro j x hx
  have:=hown.cells (g:=g) rfl j (.int .u8 x.toNat) (by simp [Lib.byteCells,hx])
  exact this
 have Hfr:=kept (show Fr F w (w.drew.freeze ⟨g,0,none⟩ l.length) from by
  unfold World.freeze
  split
  ·exact ⟨rfl,rfl,rfl,Nat.le_refl _,fun _ _ _=>rfl⟩
  ·refine ⟨rfl,rfl,rfl,by simp,fun k hk hn=>?_⟩
   have hkg:k≠g:=fun e=>hn (by rw [e]; exact HFg.out)
   simp only [Array.getElem?_modify,if_neg hkg.symm]; rfl)
 clear hown hp hne hbk hnc hcm hcs htake hfz hg hl0 h0 hFk hFb
 have mixed:=Tryz.lays169.mixed
 go_enter Tryz.func44,Tryz.ntmps44
 go_wp2
 go_region_o
 all_goals (go_wp2; go_ret; exact ⟨rfl,Hfr.out⟩)
namespace AX
def lwt (l:List UInt8):Blk:=.opq (fun F g w=>LF F g l w) (fun _=>none)
def Lt (h:Hp) (i:Nat) (l:List UInt8):Prop:=h.b[i]?=some (lwt l)∨(l=[]∧h.b[i]?=some (.cells 88 [.nilp,.sl 0 .nil []]))
theorem LF.stable {F:Nat→Prop} {b:Nat} {l:List UInt8} {w w':World} (h:LF F b l w) (hs:∀ g,F g→w'.heap[g]?=w.heap[g]?):LF F b l w':=by
 obtain ⟨p,v,hp,hb,hown,hne,hF,hFk⟩:=h
 refine ⟨p,v,hp,(hs b hF).trans hb,⟨hown.1,?_⟩,hne,hF,hFk⟩
 rcases hown.2 with h1 | ⟨g,cap,cur,fz,rfl,h2,h3,h4⟩
 ·exact .inl h1
 ·exact .inr ⟨g,cap,cur,fz,rfl,h2,(hs g (hFk g rfl)).trans h3,h4⟩
theorem Lt.lt {h:Hp} {i:Nat} {l:List UInt8} (hw:Lt h i l):i < h.b.length:=by
 rcases hw with h1 | ⟨_,h1⟩
 ·exact (List.getElem?_eq_some_iff.1 h1).1
 ·exact (List.getElem?_eq_some_iff.1 h1).1
theorem Lt.lf {h:Hp} {i:Nat} {l:List UInt8} {C:Ctx} {G:World→Prop} (hw:Lt h i l) (hI:Inv G C h):LF (fun g=>C.own g=some i) (C.κ i) l C.w:=by
 have hi:i < C.nb:=by rw [←hI.nb]; exact hw.lt
 rcases hw with h1 | ⟨rfl,h1⟩
 ·exact (hI.box i _ h1).1 C.w (fun _ _=>rfl) (Nat.le_refl _)
 ·obtain ⟨cs,k1,k2⟩:=hI.box i _ h1
  obtain ⟨c0,d0,rfl,e0,k2⟩:=repL_cons.1 k2
  obtain ⟨c1,d1,rfl,e1,k2⟩:=repL_cons.1 k2
  rw [repL_nil] at k2; subst k2
  rw [rep_nilp] at e0; subst e0
  obtain ⟨a,cap,rfl,_,_,e3,e4,_⟩:=rep_sl.1 e1
  subst e3; subst e4
  exact ⟨_,_,.inl rfl,k1,⟨rfl,.inl ⟨rfl,rfl⟩⟩,by simp [Value.ownBlock],hI.ownk i hi,fun k hk=>by simp [Value.ownBlock] at hk⟩
theorem lwtr_rep {C:Ctx} {i:Nat} {l:List UInt8} (h:LF (fun g=>C.own g=some i) (C.κ i) l C.w):BlkRep C i (lwt l):=by
 refine ⟨fun w' hw _=>LF.stable h hw,fun o x hx=>?_⟩
 cases hx
theorem a_lwrite {h:Hp} {i:Nat} {l:List UInt8} (hw:Lt h i l) (s:List UInt8) (hlen:l.length+s.length≤1000000000) :
  ACall Tryz.prog GT 43 [.ptr i 0,.str s] h fun v h'=>v = .tup [.int .i64 s.length,.nili]∧h'=⟨h.b.set i (lwt (l++s)),h.t⟩:=by
 intro C es hI ha
 obtain ⟨c,es',rfl,h1,h2⟩:=repL_cons.1 ha
 obtain ⟨rfl,hi⟩:=rep_ptr.1 h1
 obtain rfl:=args1 r_str C es' h2
 refine (lf_write (hw.lf hI) s hlen).mono ?_
 rintro e w' ⟨rfl,m1,m2⟩
 have hrep:BlkRep (C.turn w' i true) i (lwt (l++s)):=by
  refine lwtr_rep ?_
  obtain ⟨p,v,hp,hb,hown,hne,hF,hFk⟩:=m1
  have hlt:=(cell_row2 hb).2.2.2.2
  have hcl:∀ k,k < w'.heap.size→(C.own k=some i∨C.w.heap.size≤k)→(C.turn w' i true).own k=some i:=fun k hk hor=>by
   show (if k < C.w.heap.size then C.own k else if true=true∧k < w'.heap.size then some i else none)=some i
   split
   ·rcases hor with h3 | h3
    ·exact h3
    ·omega
   ·rw [if_pos ⟨rfl,hk⟩]
  refine ⟨p,v,hp,hb,hown,hne,hcl _ hlt hF,fun k hk=>hcl k ?_ (hFk k hk)⟩
  rcases hown.2 with ⟨rfl,_⟩ | ⟨g,cap,cur,fz,rfl,_,h3,_⟩
  ·simp [Value.ownBlock] at hk
  ·simp only [Value.ownBlock,Option.some.injEq] at hk; subst hk
   exact (Array.getElem?_eq_some_iff.1 h3).1
 obtain ⟨i1,s1⟩:=box_turn (b':=lwt (l++s)) true hI hi m2.os m2.tape m2.output m2.size (fun g hg hne=>m2.block g hg hne) (fun _=>hrep)
 exact ⟨_,_,.tup [.int .i64 s.length,.nili],_,rfl,rfl,i1,s1,rep_tup.2 ⟨_,rfl,repL_cons.2 ⟨_,_,rfl,rep_int.2 rfl,repL_cons.2 ⟨_,_,rfl,rep_nili.2 rfl,repL_nil.2 rfl⟩⟩⟩,rfl,rfl⟩
theorem a_llen {h:Hp} {i:Nat} {l:List UInt8} (hw:Lt h i l):ACall Tryz.prog GT 42 [.ptr i 0] h fun v h'=>v = .int .i64 l.length∧h'=h:=by
 intro C es hI ha
 obtain ⟨c,es',rfl,h1,h2⟩:=repL_cons.1 ha
 obtain ⟨rfl,hi⟩:=rep_ptr.1 h1
 rw [repL_nil] at h2; subst h2
 refine (lwtr_len (hw.lf hI).lwtr).mono ?_
 rintro e w' ⟨rfl,rfl⟩
 exact ⟨C,h,_,_,rfl,rfl,hI,Step.refl C,rep_int.2 rfl,rfl,rfl⟩
theorem a_lstring {h:Hp} {i:Nat} {l:List UInt8} (hw:Lt h i l) (h0:l≠[]):ACall Tryz.prog GT 44 [.ptr i 0] h fun v h'=>v = .str l∧h'=⟨h.b.set i dead,h.t⟩:=by
 intro C es hI ha
 obtain ⟨c,es',rfl,h1,h2⟩:=repL_cons.1 ha
 obtain ⟨rfl,hi⟩:=rep_ptr.1 h1
 rw [repL_nil] at h2; subst h2
 refine (lf_string (hw.lf hI) h0).mono ?_
 rintro e w' ⟨rfl,m2⟩
 obtain ⟨i1,s1⟩:=box_turn (b':=dead) false hI hi m2.os m2.tape m2.output m2.size (fun g hg hne=>m2.block g hg hne) (fun _=>⟨fun _ _ _=>trivial,fun o x hx=>by cases hx⟩)
 exact ⟨_,_,.str l,_,rfl,rfl,i1,s1,rep_str.2 rfl,rfl,rfl⟩
theorem go_drawB {P:Program} {G:World→Prop} {ops:List AOper} {Q:AExit→Ts→Hp→Prop} {ts:Ts} {h:Hp} (m:Nat) (hb:(seqB m ops&&chainB (closeOps ops) (actsF m 0 (closeOps ops)))=true) (hp:aseq P G m 0 (flagsOf m ops) ops [] [] (Q .normal) ts h):awp P G (.reg true ops) Q ts h:=
 go_draw m (Bool.and_eq_true_iff.1 hb).1 hp
theorem evp {A F:Prop} (f:F) (h:F→A:=by intro f; simp only [f] <;> with_reducible rfl):A:=h f
theorem ev0 {A F:Prop} (f:F) (h:F→A:=by intro f; simp only [put_app,put_none,init_app,evX_t,evX_c,resA_nil,resA_t,resA_c,tupA_0,tupA_1,tupA_2,astep,bop,uop,loadA,storeA,appA,ssliceA,eqA,eqCells,fillA,rowsA,setCells,A.cells,A.one,A.data,optP_some,List.all_cons,List.all_nil,Bool.and_true,Bool.true_and,Bool.false_and,Option.map_some,Option.map_none,Option.bind_some,Option.bind_none,Option.getD_some,Option.getD_none,List.map_cons,List.map_nil,List.getD_cons_zero,List.getD_cons_succ,List.getElem?_cons_zero,List.getElem?_cons_succ,List.getElem?_concat_length,get_p1,get_p2,set_p0,set_p1,set_p2,get_q1,get_q2,get_q3,set_q1,set_q2,set_q3,List.length_cons,List.length_nil,List.nil_append,List.cons_append,List.append_nil,List.set_cons_zero,List.set_cons_succ,List.drop_zero,List.drop_succ_cons,List.take_succ_cons,List.take_zero,List.take_nil,List.take_length,List.length_append,List.length_set,Nat.reduceAdd,Nat.reduceSub,Nat.reduceMul,Nat.reduceLeDiff,Nat.reduceEqDiff,Nat.reduceBEq,Int.toNat_natCast,Int.natCast_nonneg,Int.reduceBEq,Int.reduceBNe,Int.reduceLT,Int.reduceLE,Int.reduceEq,Int.le_refl,Int.toNat_zero,if_true,if_false,reduceIte,ite_true,ite_false,true_and,and_true,ne_eq,not_true_eq_false,not_false_eq_true,Bool.false_eq_true,reduceCtorEq,and_self,Nat.zero_add,Nat.add_zero,Nat.le_refl,Bool.not_true,Bool.not_false,and_self,decide_true,decide_false,beq_self_eq_true,bne_self_eq_false,Bool.or_true,Bool.or_false,Bool.true_or,Bool.false_or,Bool.and_false,Bool.not_not,when_t,when_f,pk_and,pk_or,gok_t,gok_f,rowsR,List.flatten_cons,List.flatten_nil,mgetA,msetA,mdelA,mclrA,mlenA,mgetV,Option.isSome_some,Option.isSome_none,f] <;> with_reducible rfl):A:=h f
theorem evw0 {A F:Prop} (f:F) (h:F→A:=by intro f; simp only [put_app,put_none,init_app,evX_t,evX_c,resA_nil,resA_t,resA_c,tupA_0,tupA_1,tupA_2,astep,bop,uop,loadA,storeA,appA,ssliceA,eqA,eqCells,fillA,rowsA,setCells,A.cells,A.one,A.data,optP_some,List.all_cons,List.all_nil,Bool.and_true,Bool.true_and,Bool.false_and,Option.map_some,Option.map_none,Option.bind_some,Option.bind_none,Option.getD_some,Option.getD_none,List.map_cons,List.map_nil,List.getD_cons_zero,List.getD_cons_succ,List.getElem?_cons_zero,List.getElem?_cons_succ,List.getElem?_concat_length,get_p1,get_p2,set_p0,set_p1,set_p2,get_q1,get_q2,get_q3,set_q1,set_q2,set_q3,List.length_cons,List.length_nil,List.nil_append,List.cons_append,List.append_nil,List.set_cons_zero,List.set_cons_succ,List.drop_zero,List.drop_succ_cons,List.take_succ_cons,List.take_zero,List.take_nil,List.take_length,List.length_append,List.length_set,Nat.reduceAdd,Nat.reduceSub,Nat.reduceMul,Nat.reduceLeDiff,Nat.reduceEqDiff,Nat.reduceBEq,Int.toNat_natCast,Int.natCast_nonneg,Int.reduceBEq,Int.reduceBNe,Int.reduceLT,Int.reduceLE,Int.reduceEq,Int.le_refl,Int.toNat_zero,if_true,if_false,reduceIte,ite_true,ite_false,true_and,and_true,ne_eq,not_true_eq_false,not_false_eq_true,Bool.false_eq_true,reduceCtorEq,and_self,Nat.zero_add,Nat.add_zero,Nat.le_refl,Bool.not_true,Bool.not_false,and_self,decide_true,decide_false,beq_self_eq_true,bne_self_eq_false,Bool.or_true,Bool.or_false,Bool.true_or,Bool.false_or,Bool.and_false,Bool.not_not,when_t,when_f,pk_and,pk_or,gok_t,gok_f,rowsR,List.flatten_cons,List.flatten_nil,mgetA,msetA,mdelA,mclrA,mlenA,mgetV,Option.isSome_some,Option.isSome_none,f]; first | with_reducible exact rfl | with_reducible exact (when_t _).symm):A:=h f
theorem eu0 {A F:Prop} (f:F) (h:F→A:=by intro f; simp only [put_app,put_none,init_app,evX_t,evX_c,resA_nil,resA_t,resA_c,tupA_0,tupA_1,tupA_2,astep,bop,uop,loadA,storeA,appA,ssliceA,eqA,eqCells,fillA,rowsA,setCells,A.cells,A.one,A.data,optP_some,List.all_cons,List.all_nil,Bool.and_true,Bool.true_and,Bool.false_and,Option.map_some,Option.map_none,Option.bind_some,Option.bind_none,Option.getD_some,Option.getD_none,List.map_cons,List.map_nil,List.getD_cons_zero,List.getD_cons_succ,List.getElem?_cons_zero,List.getElem?_cons_succ,List.getElem?_concat_length,get_p1,get_p2,set_p0,set_p1,set_p2,get_q1,get_q2,get_q3,set_q1,set_q2,set_q3,List.length_cons,List.length_nil,List.nil_append,List.cons_append,List.append_nil,List.set_cons_zero,List.set_cons_succ,List.drop_zero,List.drop_succ_cons,List.take_succ_cons,List.take_zero,List.take_nil,List.take_length,List.length_append,List.length_set,Nat.reduceAdd,Nat.reduceSub,Nat.reduceMul,Nat.reduceLeDiff,Nat.reduceEqDiff,Nat.reduceBEq,Int.toNat_natCast,Int.natCast_nonneg,Int.reduceBEq,Int.reduceBNe,Int.reduceLT,Int.reduceLE,Int.reduceEq,Int.le_refl,Int.toNat_zero,if_true,if_false,reduceIte,ite_true,ite_false,true_and,and_true,ne_eq,not_true_eq_false,not_false_eq_true,Bool.false_eq_true,reduceCtorEq,and_self,Nat.zero_add,Nat.add_zero,Nat.le_refl,Bool.not_true,Bool.not_false,and_self,decide_true,decide_false,beq_self_eq_true,bne_self_eq_false,Bool.or_true,Bool.or_false,Bool.true_or,Bool.false_or,Bool.and_false,Bool.not_not,when_t,when_f,pk_and,pk_or,gok_t,gok_f,rowsR,List.flatten_cons,List.flatten_nil,mgetA,msetA,mdelA,mclrA,mlenA,mgetV,Option.isSome_some,Option.isSome_none,f]; rw [if_pos (by first | omega | (refine ⟨?_,?_⟩ <;> omega) | (simp only [true_and,and_true]; omega))]; with_reducible rfl):A:=h f
theorem inv0 {A F:Prop} (f:F) (h:F→A:=by intro f; simp only [put_app,put_none,init_app,evX_t,evX_c,resA_nil,resA_t,resA_c,tupA_0,tupA_1,tupA_2,astep,bop,uop,loadA,storeA,appA,ssliceA,eqA,eqCells,fillA,rowsA,setCells,A.cells,A.one,A.data,optP_some,List.all_cons,List.all_nil,Bool.and_true,Bool.true_and,Bool.false_and,Option.map_some,Option.map_none,Option.bind_some,Option.bind_none,Option.getD_some,Option.getD_none,List.map_cons,List.map_nil,List.getD_cons_zero,List.getD_cons_succ,List.getElem?_cons_zero,List.getElem?_cons_succ,List.getElem?_concat_length,get_p1,get_p2,set_p0,set_p1,set_p2,get_q1,get_q2,get_q3,set_q1,set_q2,set_q3,List.length_cons,List.length_nil,List.nil_append,List.cons_append,List.append_nil,List.set_cons_zero,List.set_cons_succ,List.drop_zero,List.drop_succ_cons,List.take_succ_cons,List.take_zero,List.take_nil,List.take_length,List.length_append,List.length_set,Nat.reduceAdd,Nat.reduceSub,Nat.reduceMul,Nat.reduceLeDiff,Nat.reduceEqDiff,Nat.reduceBEq,Int.toNat_natCast,Int.natCast_nonneg,Int.reduceBEq,Int.reduceBNe,Int.reduceLT,Int.reduceLE,Int.reduceEq,Int.le_refl,Int.toNat_zero,if_true,if_false,reduceIte,ite_true,ite_false,true_and,and_true,ne_eq,not_true_eq_false,not_false_eq_true,Bool.false_eq_true,reduceCtorEq,and_self,Nat.zero_add,Nat.add_zero,Nat.le_refl,Bool.not_true,Bool.not_false,and_self,decide_true,decide_false,beq_self_eq_true,bne_self_eq_false,Bool.or_true,Bool.or_false,Bool.true_or,Bool.false_or,Bool.and_false,Bool.not_not,when_t,when_f,pk_and,pk_or,gok_t,gok_f,rowsR,List.flatten_cons,List.flatten_nil,mgetA,msetA,mdelA,mclrA,mlenA,mgetV,Option.isSome_some,Option.isSome_none,f,Int.natCast_add,Int.natCast_one] <;> trivial):A:=h f
theorem inw0 {A F:Prop} (f:F) (h:F→A:=by intro f; simp only [put_app,put_none,init_app,evX_t,evX_c,resA_nil,resA_t,resA_c,tupA_0,tupA_1,tupA_2,astep,bop,uop,loadA,storeA,appA,ssliceA,eqA,eqCells,fillA,rowsA,setCells,A.cells,A.one,A.data,optP_some,List.all_cons,List.all_nil,Bool.and_true,Bool.true_and,Bool.false_and,Option.map_some,Option.map_none,Option.bind_some,Option.bind_none,Option.getD_some,Option.getD_none,List.map_cons,List.map_nil,List.getD_cons_zero,List.getD_cons_succ,List.getElem?_cons_zero,List.getElem?_cons_succ,List.getElem?_concat_length,get_p1,get_p2,set_p0,set_p1,set_p2,get_q1,get_q2,get_q3,set_q1,set_q2,set_q3,List.length_cons,List.length_nil,List.nil_append,List.cons_append,List.append_nil,List.set_cons_zero,List.set_cons_succ,List.drop_zero,List.drop_succ_cons,List.take_succ_cons,List.take_zero,List.take_nil,List.take_length,List.length_append,List.length_set,Nat.reduceAdd,Nat.reduceSub,Nat.reduceMul,Nat.reduceLeDiff,Nat.reduceEqDiff,Nat.reduceBEq,Int.toNat_natCast,Int.natCast_nonneg,Int.reduceBEq,Int.reduceBNe,Int.reduceLT,Int.reduceLE,Int.reduceEq,Int.le_refl,Int.toNat_zero,if_true,if_false,reduceIte,ite_true,ite_false,true_and,and_true,ne_eq,not_true_eq_false,not_false_eq_true,Bool.false_eq_true,reduceCtorEq,and_self,Nat.zero_add,Nat.add_zero,Nat.le_refl,Bool.not_true,Bool.not_false,and_self,decide_true,decide_false,beq_self_eq_true,bne_self_eq_false,Bool.or_true,Bool.or_false,Bool.true_or,Bool.false_or,Bool.and_false,Bool.not_not,when_t,when_f,pk_and,pk_or,gok_t,gok_f,rowsR,List.flatten_cons,List.flatten_nil,mgetA,msetA,mdelA,mclrA,mlenA,mgetV,Option.isSome_some,Option.isSome_none,forH,pastN,obsP,obsD,obsN,memN,Bool.false_or,Bool.true_or,Bool.or_false,Bool.or_true,true_or,or_true,false_or,or_false,f] <;> exact ti):A:=h f
theorem go0 {A B F:Prop} (f:F) (k:B) (h:F→B→A:=by intro f k; (repeat (first | with_reducible refine go_seq ?_ | with_reducible refine go_reg ?_ | with_reducible refine go_nil ?_ | with_reducible refine go_tn ?_ | with_reducible refine go_sk ?_ | with_reducible refine go_blk ?_ | with_reducible refine go_exit ?_ | with_reducible refine go_ret ?_ | with_reducible refine go_tr ?_ | with_reducible refine go_te ?_ | with_reducible refine go_bn ?_ | with_reducible refine go_br ?_ | with_reducible refine go_be ?_ | ((with_reducible refine go_bo ?_ ?_); exact rfl) | with_reducible refine gq_nil ?_ | ((with_reducible apply go_op); exact rfl; exact ev0 f) | ((with_reducible apply go_op); exact rfl; exact eu0 f) | ((with_reducible apply gq_op); exact rfl; exact ev0 f) | ((with_reducible apply gq_op); exact rfl; exact eu0 f) | ((with_reducible refine go_skipu ?_ ?_); exact ev0 f) | ((with_reducible refine go_skip ?_ ?_); exact ev0 f) | ((with_reducible refine gq_skipu ?_ ?_); exact ev0 f) | ((with_reducible refine gq_skip ?_ ?_); exact ev0 f) | ((with_reducible apply go_gop); exact ev0 f; exact rfl; exact ev0 f) | ((with_reducible apply go_gop); exact ev0 f; exact rfl; exact eu0 f) | ((with_reducible apply gq_gop); exact ev0 f; exact rfl; exact ev0 f) | ((with_reducible apply gq_gop); exact ev0 f; exact rfl; exact eu0 f) | ((with_reducible refine go_ct ?_ ?_); exact ev0 f) | ((with_reducible refine go_cf ?_ ?_); exact ev0 f) | ((with_reducible apply go_fr); exact ev0 f) | ((with_reducible apply go_fn); exact ev0 f))); exact k):A:=h f k
theorem gc0 {A B F:Prop} (f:F) (k:B) (h:F→B→A:=by intro f k; first | ((with_reducible apply go_call); exact ev0 f; exact k) | ((with_reducible apply go_gcall); exact ev0 f; exact ev0 f; exact k) | ((with_reducible apply go_callv); exact ev0 f; exact rfl; kernel_rfl; exact ev0 f; exact k)):A:=h f k
theorem run0 {A B F:Prop} (f:F) (k:B) (h:F→B→A:=by intro f k; (repeat (first | with_reducible refine go_seq ?_ | with_reducible refine go_regS ?_ | with_reducible refine gs_nil ?_ | with_reducible refine go_tn ?_ | with_reducible refine go_sk ?_ | with_reducible refine go_blk ?_ | with_reducible refine go_exit ?_ | with_reducible refine go_ret ?_ | with_reducible refine go_tr ?_ | with_reducible refine go_te ?_ | with_reducible refine go_bn ?_ | with_reducible refine go_br ?_ | with_reducible refine go_be ?_ | ((with_reducible refine go_bo ?_ ?_); exact rfl) | ((with_reducible apply gs_app0); exact rfl; exact ev0 f; exact ev0 f; (first | exact evp f | exact ev0 f | exact eu0 f)) | ((with_reducible apply gs_op0); exact rfl; exact rfl; exact ev0 f) | ((with_reducible apply gs_op0); exact rfl; exact rfl; exact eu0 f) | ((with_reducible apply gs_skipu0); exact rfl; exact ev0 f) | ((with_reducible apply gs_skip0); exact rfl; exact ev0 f) | ((with_reducible apply gs_guard); exact ev0 f) | ((with_reducible apply gs_appm); exact ev0 f; exact ev0 f; (first | exact evp f | exact ev0 f | exact eu0 f); (first | exact ti | exact inw0 f)) | ((with_reducible apply gs_op); exact rfl; decide +kernel; exact rfl; exact ev0 f) | ((with_reducible apply gs_act); exact rfl; exact rfl; exact ev0 f; (first | exact ti | exact inw0 f)) | ((with_reducible apply gs_op); exact rfl; decide +kernel; exact rfl; exact eu0 f) | ((with_reducible apply gs_act); exact rfl; exact rfl; exact eu0 f; (first | exact ti | exact inw0 f)) | ((with_reducible apply gs_load); exact rfl; decide +kernel; exact rfl; exact ev0 f; (first | exact ti | exact inw0 f)) | ((with_reducible apply gs_skipu); decide +kernel; exact rfl; exact ev0 f) | ((with_reducible apply gs_skip); decide +kernel; exact rfl; exact ev0 f) | ((with_reducible apply gs_call); exact ev0 f) | ((with_reducible apply gs_callv); exact ev0 f; exact rfl; kernel_rfl; exact ev0 f) | ((with_reducible apply gs_callb); exact ev0 f; exact rfl; exact rfl; kernel_rfl; exact ev0 f) | ((with_reducible refine go_ct ?_ ?_); exact ev0 f) | ((with_reducible refine go_cf ?_ ?_); exact ev0 f) | ((with_reducible apply go_fr); exact ev0 f) | ((with_reducible apply go_fn); exact ev0 f) | ((with_reducible refine go_drawB 1 ?_ ?_); decide +kernel) | ((with_reducible refine go_drawB 2 ?_ ?_); decide +kernel))); exact k):A:=h f k
theorem alt0 {P:Program} {G:World→Prop} {c:Opd} {b:Bool} {x y:ACode} {Q:AExit→Ts→Hp→Prop} {ts:Ts} {h:Hp} {F:Prop} (f:F) (k1:b=true→awp P G x Q ts h) (k2:b=false→awp P G y Q ts h) (hc:F→evX ts c = .bool b:=by intro f; exact ev0 f):awp P G (.cond c x y) Q ts h:=go_cond (hc f) k1 k2
theorem V_A:∀ v:V,V.A v = .agg v.cells:=fun _=>rfl
theorem V_cells:∀ k n s is ks,V.cells (.mk k n s is ks)=[.int .i64 k,.int .i64 n,.str s,.sl 5 .no (V.cellss is),.sl 1 .no (strsA ks)]:=fun k n s is ks=>by rw [V.cells]
theorem wtr_:∀ (ver:Int) (l:List UInt8),wtr ver l = .opq (fun F g w=>WF F g ver l w) (fun o=>if o=2 then some (.int .i64 ver) else none):=fun _ _=>rfl
theorem use {P:Program} {G:World→Prop} {m i:Nat} {fl:List Bool} {past:List Hp} {obs:Obs} {d:Option Nat} {af:List Nat} {os:List AOper} {K:Ts→Hp→Prop} {ts:Ts} {h:Hp} {f:FuncId} {vs:List A} {h':Hp} {v:A} (hc:ACall P G f vs h fun v' h''=>v'=v∧h''=h') (k:aseq P G m (i+1) fl.tail os (pastN m h past) (obsN m af obs) K (put ts d v) h') (hm:(m=2→h'=h∧fl.headD false=false)∧(m≠2→obsP af obs h'):=by first | exact ⟨fun e=>absurd e (by decide),fun _=>ti⟩ | exact ⟨fun e=>absurd e (by decide),fun _=>inw0 ti⟩ | exact ⟨fun _=>⟨rfl,by decide +kernel⟩,fun e=>absurd rfl e⟩):CallK P G m i fl f vs h d af os past obs K ts:=rt hc hm k
theorem runx0 {A B F C:Prop} (f:F) (c:C) (k:B) (h:F→C→B→A:=by intro f c k; (repeat (first | with_reducible refine go_seq ?_ | with_reducible refine go_regS ?_ | with_reducible refine gs_nil ?_ | with_reducible refine go_tn ?_ | with_reducible refine go_sk ?_ | with_reducible refine go_blk ?_ | with_reducible refine go_exit ?_ | with_reducible refine go_ret ?_ | with_reducible refine go_tr ?_ | with_reducible refine go_te ?_ | with_reducible refine go_bn ?_ | with_reducible refine go_br ?_ | with_reducible refine go_be ?_ | ((with_reducible refine go_bo ?_ ?_); exact rfl) | ((with_reducible apply gs_app0); exact rfl; exact ev0 f; exact ev0 f; (first | exact evp f | exact ev0 f | exact eu0 f)) | ((with_reducible apply gs_op0); exact rfl; exact rfl; exact ev0 f) | ((with_reducible apply gs_op0); exact rfl; exact rfl; exact eu0 f) | ((with_reducible apply gs_skipu0); exact rfl; exact ev0 f) | ((with_reducible apply gs_skip0); exact rfl; exact ev0 f) | ((with_reducible apply gs_guard); exact ev0 f) | ((with_reducible apply gs_appm); exact ev0 f; exact ev0 f; (first | exact evp f | exact ev0 f | exact eu0 f); (first | exact ti | exact inw0 f)) | ((with_reducible apply gs_op); exact rfl; decide +kernel; exact rfl; exact ev0 f) | ((with_reducible apply gs_act); exact rfl; exact rfl; exact ev0 f; (first | exact ti | exact inw0 f)) | ((with_reducible apply gs_op); exact rfl; decide +kernel; exact rfl; exact eu0 f) | ((with_reducible apply gs_act); exact rfl; exact rfl; exact eu0 f; (first | exact ti | exact inw0 f)) | ((with_reducible apply gs_load); exact rfl; decide +kernel; exact rfl; exact ev0 f; (first | exact ti | exact inw0 f)) | ((with_reducible apply gs_skipu); decide +kernel; exact rfl; exact ev0 f) | ((with_reducible apply gs_skip); decide +kernel; exact rfl; exact ev0 f) | ((with_reducible apply gs_call); exact ev0 f) | ((with_reducible apply gs_callv); exact ev0 f; exact rfl; kernel_rfl; exact ev0 f) | ((with_reducible apply gs_callb); exact ev0 f; exact rfl; exact rfl; kernel_rfl; exact ev0 f) | ((with_reducible refine go_ct ?_ ?_); exact ev0 f) | ((with_reducible refine go_cf ?_ ?_); exact ev0 f) | ((with_reducible apply go_fr); exact ev0 f) | ((with_reducible apply go_fn); exact ev0 f) | ((with_reducible refine go_drawB 1 ?_ ?_); decide +kernel) | ((with_reducible refine go_drawB 2 ?_ ?_); decide +kernel) | ((with_reducible apply gw_op0); exact rfl; exact rfl; exact evw0 f; (intro hp; simp only [gok_t,gok_f,Bool.true_and,Bool.and_true,Bool.and_eq_true,Bool.not_eq_true'] at hp <;> first | exact ev0 (ai hp f) | (have hq:=hp; simp only [decide_eq_true_eq,decide_eq_false_iff_not,bne_iff_ne,ne_eq,beq_iff_eq,Bool.not_eq_true,beq_eq_false_iff_ne] at hq; exact ev0 (ai hq (ai hp f))))) | ((with_reducible apply gw_op); exact rfl; decide +kernel; exact rfl; exact evw0 f; (intro hp; simp only [gok_t,gok_f,Bool.true_and,Bool.and_true,Bool.and_eq_true,Bool.not_eq_true'] at hp <;> first | exact ev0 (ai hp f) | (have hq:=hp; simp only [decide_eq_true_eq,decide_eq_false_iff_not,bne_iff_ne,ne_eq,beq_iff_eq,Bool.not_eq_true,beq_eq_false_iff_ne] at hq; exact ev0 (ai hq (ai hp f))))) | ((with_reducible apply gw_call0); exact rfl; exact evw0 f; (intro hp; simp only [gok_t,gok_f,Bool.true_and,Bool.and_true,Bool.and_eq_true,Bool.not_eq_true'] at hp <;> first | exact ev0 (ai hp f) | (have hq:=hp; simp only [decide_eq_true_eq,decide_eq_false_iff_not,bne_iff_ne,ne_eq,beq_iff_eq,Bool.not_eq_true,beq_eq_false_iff_ne] at hq; exact ev0 (ai hq (ai hp f))))) | ((with_reducible apply gw_call2); decide +kernel; exact evw0 f; (intro hp; simp only [gok_t,gok_f,Bool.true_and,Bool.and_true,Bool.and_eq_true,Bool.not_eq_true'] at hp <;> first | exact ev0 (ai hp f) | (have hq:=hp; simp only [decide_eq_true_eq,decide_eq_false_iff_not,bne_iff_ne,ne_eq,beq_iff_eq,Bool.not_eq_true,beq_eq_false_iff_ne] at hq; exact ev0 (ai hq (ai hp f))))) | refine use (c.1 _) ?_ | refine use (c.1 _ _) ?_ | refine use c.1 ?_ | refine use (c.2.1 _) ?_ | refine use (c.2.1 _ _) ?_ | refine use c.2.1 ?_ | refine use (c.2.2.1 _) ?_ | refine use (c.2.2.1 _ _) ?_ | refine use c.2.2.1 ?_ | refine use (c.2.2.2.1 _) ?_ | refine use (c.2.2.2.1 _ _) ?_ | refine use c.2.2.2.1 ?_ | refine use (c.2.2.2.2.1 _) ?_ | refine use (c.2.2.2.2.1 _ _) ?_ | refine use c.2.2.2.2.1 ?_ | refine use (c.2.2.2.2.2.1 _) ?_ | refine use (c.2.2.2.2.2.1 _ _) ?_ | refine use c.2.2.2.2.2.1 ?_ | refine use (c.2.2.2.2.2.2.1 _) ?_ | refine use (c.2.2.2.2.2.2.1 _ _) ?_ | refine use c.2.2.2.2.2.2.1 ?_ | refine use (c.2.2.2.2.2.2.2.1 _) ?_ | refine use (c.2.2.2.2.2.2.2.1 _ _) ?_ | refine use c.2.2.2.2.2.2.2.1 ?_ | refine use (c.2.2.2.2.2.2.2.2.1 _) ?_ | refine use (c.2.2.2.2.2.2.2.2.1 _ _) ?_ | refine use c.2.2.2.2.2.2.2.2.1 ?_ | refine usew (c.1 _) ?_ | refine usew (c.1 _ _) ?_ | refine usew c.1 ?_ | refine usew (c.2.1 _) ?_ | refine usew (c.2.1 _ _) ?_ | refine usew c.2.1 ?_ | refine usew (c.2.2.1 _) ?_ | refine usew (c.2.2.1 _ _) ?_ | refine usew c.2.2.1 ?_ | refine usew (c.2.2.2.1 _) ?_ | refine usew (c.2.2.2.1 _ _) ?_ | refine usew c.2.2.2.1 ?_ | refine usew (c.2.2.2.2.1 _) ?_ | refine usew (c.2.2.2.2.1 _ _) ?_ | refine usew c.2.2.2.2.1 ?_ | refine usew (c.2.2.2.2.2.1 _) ?_ | refine usew (c.2.2.2.2.2.1 _ _) ?_ | refine usew c.2.2.2.2.2.1 ?_ | refine usew (c.2.2.2.2.2.2.1 _) ?_ | refine usew (c.2.2.2.2.2.2.1 _ _) ?_ | refine usew c.2.2.2.2.2.2.1 ?_ | refine usew (c.2.2.2.2.2.2.2.1 _) ?_ | refine usew (c.2.2.2.2.2.2.2.1 _ _) ?_ | refine usew c.2.2.2.2.2.2.2.1 ?_ | refine usew (c.2.2.2.2.2.2.2.2.1 _) ?_ | refine usew (c.2.2.2.2.2.2.2.2.1 _ _) ?_ | refine usew c.2.2.2.2.2.2.2.2.1 ?_)); exact k):A:=h f c k
theorem runc0 {A B F C:Prop} (f:F) (c:C) (k:B) (h:F→C→B→A:=by intro f c k; refine run0 f ?_; (repeat ((first | refine use (c.1 _) ?_ | refine use (c.1 _ _) ?_ | refine use c.1 ?_ | refine use (c.2.1 _) ?_ | refine use (c.2.1 _ _) ?_ | refine use c.2.1 ?_ | refine use (c.2.2.1 _) ?_ | refine use (c.2.2.1 _ _) ?_ | refine use c.2.2.1 ?_ | refine use (c.2.2.2.1 _) ?_ | refine use (c.2.2.2.1 _ _) ?_ | refine use c.2.2.2.1 ?_ | refine use (c.2.2.2.2.1 _) ?_ | refine use (c.2.2.2.2.1 _ _) ?_ | refine use c.2.2.2.2.1 ?_ | refine use (c.2.2.2.2.2.1 _) ?_ | refine use (c.2.2.2.2.2.1 _ _) ?_ | refine use c.2.2.2.2.2.1 ?_ | refine use (c.2.2.2.2.2.2.1 _) ?_ | refine use (c.2.2.2.2.2.2.1 _ _) ?_ | refine use c.2.2.2.2.2.2.1 ?_ | refine use (c.2.2.2.2.2.2.2.1 _) ?_ | refine use (c.2.2.2.2.2.2.2.1 _ _) ?_ | refine use c.2.2.2.2.2.2.2.1 ?_ | refine use (c.2.2.2.2.2.2.2.2.1 _) ?_ | refine use (c.2.2.2.2.2.2.2.2.1 _ _) ?_ | refine use c.2.2.2.2.2.2.2.2.1 ?_); refine run0 f ?_)); exact k):A:=h f c k
end AX
end Go.Proofs.YtahmpiioegemaaaGreatDoor
