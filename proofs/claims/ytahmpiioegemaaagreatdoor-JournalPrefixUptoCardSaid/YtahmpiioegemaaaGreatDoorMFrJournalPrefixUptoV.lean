/- Part of what the proof needs. -/
import Derived.Test.YtahmpiioegemaaaGreatDoorMFrJournalPrefixUptoE
import Derived.Test.YtahmpiioegemaaaGreatDoorMFrJournalPrefixUptoG
import Derived.Test.YtahmpiioegemaaaGreatDoorMFrJournalPrefixUptoK
import Derived.Test.YtahmpiioegemaaaGreatDoorMFrJournalPrefixUptoL
import Derived.Test.YtahmpiioegemaaaGreatDoorMFrJournalPrefixUptoM
import Derived.Test.YtahmpiioegemaaaGreatDoorMFrJournalPrefixUptoN
import Derived.Test.YtahmpiioegemaaaGreatDoorMFrJournalPrefixUptoP
import Derived.Test.YtahmpiioegemaaaGreatDoorMFrJournalPrefixUptoQ
import Derived.Test.YtahmpiioegemaaaGreatDoorMFrJournalPrefixUptoR
import Derived.Test.YtahmpiioegemaaaGreatDoorMFrJournalPrefixUptoS
import Derived.Test.YtahmpiioegemaaaGreatDoorMFrJournalPrefixUptoT
import Derived.Test.YtahmpiioegemaaaGreatDoorMFrJournalPrefixUptoU
import Derived.Test.YtahmpiioegemaaaGreatDoorRows
set_option maxHeartbeats 4000000
set_option linter.unusedSimpArgs false
set_option linter.unusedVariables false
set_option linter.unnecessarySimpa false
namespace Go.Proofs.YtahmpiioegemaaaGreatDoor
open Go.RowKit Go.ChangeShapes Go.WideShapes Go.Deep
mutual
def D.bulk:D→Nat
 | .int ..=>1
 | .str l=>l.length+1
 | .bool _=>1
 | .agg l=>D.bulks l+1
 | .sl _ l=>D.bulks l+1
def D.bulks:List D→Nat
 | []=>0
 | d::l=>d.bulk+D.bulks l
end
theorem bulks_le {H:Type}:∀ (l:List D) (xs:List (DataW H)),l.length=xs.length→(∀ i (hi:i < l.length) (hj:i < xs.length),l[i].bulk≤Rows.uptoBulk xs[i])→D.bulks l≤Rows.uptoBulkAll xs
 | [],[],_,_=>by rw [D.bulks]; exact Nat.zero_le _
 | [],_::_,h,_=>by simp at h
 | _::_,[],h,_=>by simp at h
 | d::l,x::xs,h,hb=>by
  rw [D.bulks,Rows.uptoBulkAll]
  exact Nat.add_le_add (hb 0 (by simp) (by simp)) (bulks_le l xs (by simpa using h) fun i hi hj=>hb (i+1) (Nat.succ_lt_succ hi) (Nat.succ_lt_succ hj))
section
variable {H:Type} {enc:TypeId×Value→H} {P:Program} {w:World} {base:Nat} {spare:Nat→Bool} {held:Bool} {K:List TypeId}
theorem trod_fieldsB {n:Nat} (ih:∀ t,t∈K→∀ cs x,DataW.trod enc P w base spare held n t cs=some x→∃ d,Rd w (Old w) d cs∧Conf P d t∧d.bulk≤Rows.uptoBulk x.1) (cs:List Value) :
  ∀ (fs:List Field) (o tot:Nat) (ys:List (DataW H×List MemPlace)),(∀ f∈fs,f.type∈K)→flat P fs o=some tot→cs.length=tot→ys.length=fs.length →
   (∀ (i:Nat) (f:Field),fs[i]?=some f→DataW.trod enc P w base spare held n f.type ((cs.drop f.offset).take (P.cellsOf f.type))=ys[i]?) →
   ∃ l,RdAgg w (Old w) l (cs.drop o)∧ConfL P l (fs.map (·.type))∧D.bulks l≤Rows.uptoBulkAll (ys.map (·.1))
 | [],o,tot,ys,hK,hf,hc,hy,hg=>by
  simp only [flat,Option.some.injEq] at hf
  exact ⟨[],by unfold RdAgg; exact List.drop_of_length_le (by omega),by unfold ConfL; rfl,by unfold D.bulks; exact Nat.zero_le _⟩
 | f::fs,o,tot,ys,hK,hf,hc,hy,hg=>by
  simp only [flat] at hf
  split at hf
  ·next hfo =>
   match ys,hy with
   | y::ys,hy =>
    have h0:=hg 0 f rfl
    obtain ⟨d,hd,hcf,hdb⟩:=ih f.type (hK f (by simp)) _ _ h0
    obtain ⟨l,hl,hcl2,hlb⟩:=trod_fieldsB ih cs fs (o+P.cellsOf f.type) tot ys (fun g hg=>hK g (by simp [hg])) hf hc (by simpa using hy) (fun i g hi=>by simpa using hg (i+1) g (by simpa using hi))
    refine ⟨d::l,?_,?_,?_⟩
    ·unfold RdAgg
     refine ⟨_,cs.drop (o+P.cellsOf f.type),?_,by rw [hfo] at hd; exact hd,hl⟩
     rw [←List.drop_drop,List.take_append_drop]
    ·unfold ConfL
     exact ⟨f.type,fs.map (·.type),rfl,hcf,hcl2⟩
    ·rw [List.map_cons,Rows.uptoBulkAll,D.bulks]
     exact Nat.add_le_add hdb hlb
  ·cases hf
theorem trod_rdB (hP:plainAll P K=true):∀ (n:Nat) (t:TypeId),t∈K→∀ cs x,DataW.trod enc P w base spare held n t cs=some x→∃ d,Rd w (Old w) d cs∧Conf P d t∧d.bulk≤Rows.uptoBulk x.1
 | 0,t,hK,cs,x,h=>by simp [DataW.trod] at h
 | n+1,t,hK,cs,x,h=>by
  have hk:plainB P K t=true:=by
   unfold plainAll at hP
   rw [List.all_eq_true] at hP
   exact hP t hK
  unfold plainB at hk
  split at hk
  ·next k hu =>
   obtain ⟨m,rfl,rfl,hw⟩:=DataW.trod_int hu h
   exact ⟨.int k m,by unfold Rd; rfl,by unfold Conf; exact ⟨hu,hw⟩,by unfold D.bulk Rows.uptoBulk; exact Nat.le_refl _⟩
  ·next hu =>
   obtain ⟨s,rfl,rfl,hs⟩:=DataW.trod_string hu h
   exact ⟨.str s.data.toList,by unfold Rd; simp,by unfold Conf; exact ⟨hu,by simpa using hs⟩,by unfold D.bulk Rows.uptoBulk; exact Nat.le_refl _⟩
  ·next hu =>
   obtain ⟨b,rfl,rfl⟩:=DataW.trod_bool hu h
   exact ⟨.bool b,by unfold Rd; rfl,by unfold Conf; exact hu,by unfold D.bulk Rows.uptoBulk; exact Nat.le_refl _⟩
  ·next fs hu =>
   rw [Bool.and_eq_true,List.all_eq_true,beq_iff_eq] at hk
   obtain ⟨xs,n',hn,rfl,hcl,hxl,hg⟩:=DataW.trod_struct hu h
   obtain rfl:n'=n:=by omega
   obtain ⟨l,hl,hcf,hlb⟩:=trod_fieldsB (fun t hK cs x h=>trod_rdB hP n' t hK cs x h) cs fs.toList 0 _ xs (fun f hf=>by simpa using hk.1 f hf) hk.2 hcl (by simpa using hxl) (fun i f hi=>hg i f (by simpa using hi))
   exact ⟨.agg l,by unfold Rd; exact hl,by unfold Conf; exact ⟨fs,hu,hcf⟩,by rw [D.bulk,Rows.uptoBulk]; exact Nat.succ_le_succ hlb⟩
  ·next e hu =>
   rw [Bool.and_eq_true,decide_eq_true_eq] at hk
   have heK:e∈K:=by simpa using hk.1
   have hpos:=hk.2
   rcases DataW.trod_slice hu h with ⟨rfl,rfl⟩ | ⟨a,len,cap,elems,rest,n',hn,rfl,rfl,hb,hlc,hcm,hel,hi,_⟩
   ·exact ⟨.sl (P.cellsOf e) [],by unfold Rd; exact ⟨none,0,rfl,Nat.le_refl _,by unfold RdRow; trivial⟩,by unfold Conf; exact ⟨e,hu,rfl,by unfold ConfA; trivial,by simp⟩,by simp [D.bulk,D.bulks,Rows.uptoBulk]⟩
   ·obtain rfl:n'=n:=by omega
    have hex:∀ i,i < len→∃ d:D,∃ c,c.length=P.cellsOf e∧(∀ j,j < P.cellsOf e→w.cell? ((a.add (i*P.cellsOf e)).add j)=c[j]?)∧Rd w (Old w) d c∧Conf P d e∧∀ y,elems[i]?=some y→d.bulk≤Rows.uptoBulk y.1:=by
     intro i hil
     have h1:=hi i hil
     have h2:elems[i]?=some (elems[i]'(by omega)):=List.getElem?_eq_getElem (by omega)
     rw [h2] at h1
     obtain ⟨c,hc,ht⟩:=Option.bind_eq_some_iff.1 h1
     obtain ⟨d,hd,hcf,hdb⟩:=trod_rdB hP n' e heK c _ ht
     obtain ⟨_,hcl,hat⟩:=World.cells?_some hc
     exact ⟨d,c,hcl,hat,hd,hcf,fun y hy=>by rw [h2] at hy; injection hy with hy; subst hy; exact hdb⟩
    haveI:Inhabited D:=⟨.bool true⟩
    obtain ⟨f,hf⟩:=choose_lt hex
    refine ⟨.sl (P.cellsOf e) ((List.range len).map f),?_,?_,?_⟩
    ·unfold Rd
     refine ⟨some a,cap,by simp,by simpa using hlc,RdRow.of _ _ _ fun k hk=>?_⟩
     have hkl:k < len:=by simpa using hk
     obtain ⟨c,hcl,hat,hrd,_⟩:=hf k hkl
     obtain ⟨c0,hcl0,hat0,_,_⟩:=hf 0 (by omega)
     obtain ⟨g,off,sp⟩:=a
     have h0:=hat0 0 hpos
     rw [List.getElem?_eq_getElem (by omega)] at h0
     have hs:sp=none:=by
      have:=(cell_there h0).1
      simpa [Addr.add] using this
     subst hs
     have h1:=hat 0 hpos
     rw [List.getElem?_eq_getElem (by omega)] at h1
     have hlt:=(cell_there h1).2
     rw [add_off,add_off] at hlt
     refine ⟨g,off,c,rfl,hlt,hcl,fun j hj=>?_,by simpa using hrd⟩
     have:=hat j hj
     rw [add_off,add_off] at this
     rw [Nat.zero_add]
     exact this
    ·unfold Conf
     exact ⟨e,hu,rfl,confA_of P e _ fun k hk=>by simpa using (hf k (by simpa using hk)).choose_spec.2.2.2.1,by simp; omega⟩
    ·rw [D.bulk,Rows.uptoBulk]
     have:=bulks_le ((List.range len).map f) (elems.map (·.1)) (by simp; omega) (fun i hi hj=>by
      obtain ⟨c,_,_,_,_,h9⟩:=hf i (by simpa using hi)
      simpa using h9 (elems[i]'(by simpa using hj)) (List.getElem?_eq_getElem _))
     omega
  ·cases hk
end
end Go.Proofs.YtahmpiioegemaaaGreatDoor

namespace Go.Proofs.YtahmpiioegemaaaGreatDoor
open Go.RowKit Go.ChangeShapes Go.WideShapes
theorem list_of_ {α:Type} {f:α→D} {Q:α→Prop}:∀ l:List D,(∀ d∈l,∃ x,d=f x∧Q x)→∃ xs:List α,l=xs.map f∧∀ x∈xs,Q x
 | [],h=>⟨[],rfl,by simp⟩
 | d::l,h=>by
  obtain ⟨x,rfl,hx⟩:=h d (by simp)
  obtain ⟨xs,rfl,hxs⟩:=list_of_ l fun d hd=>h d (by simp [hd])
  exact ⟨x::xs,rfl,List.forall_mem_cons.2 ⟨hx,hxs⟩⟩
namespace Sf
def Inst.toD (x:Inst):D:=.agg [.str x.addr,.str x.dep,.str x.id,.str x.typ,x.attrs.toD,.int .i64 x.ver,.bool x.tainted,.bool x.first,.sl 1 (x.deps.map .str)]
def Pend.toD (p:Pend):D:=.agg [.str p.addr,.str p.typ,.str p.tok]
def Outp.toD (o:Outp):D:=.agg [.str o.name,o.value.toD,.bool o.sens]
def St.toD (s:St):D:=.agg [.str s.lin,.int .i64 s.ser,.sl 13 (s.insts.map Inst.toD),.sl 3 (s.pends.map Pend.toD),.sl 7 (s.outs.map Outp.toD)]
structure St.Wf (s:St):Prop where
 insts:∀ x∈s.insts,x.attrs.Wf
 outs:∀ x∈s.outs,x.value.Wf
 ser:(Lit.int .i64 s.ser).wf=true
theorem Inst.cells_toD (x:Inst):x.toD.cells=x.cells:=by
 obtain ⟨a,d,i,t,⟨k,n,s,is,ks⟩,v,tn,fi,ds⟩:=x
 unfold Inst.toD Inst.cells
 simp only [D.cells,D.cellsL,V.cells_toD,V.cells,strs_rows,List.cons_append,List.nil_append,List.append_nil]
theorem Pend.cells_toD (x:Pend):x.toD.cells=x.cells:=by
 unfold Pend.toD Pend.cells
 simp only [D.cells,D.cellsL,List.cons_append,List.nil_append,List.append_nil]
theorem Outp.cells_toD (x:Outp):x.toD.cells=x.cells:=by
 obtain ⟨m,⟨k,n,s,is,ks⟩,b⟩:=x
 unfold Outp.toD Outp.cells
 simp only [D.cells,D.cellsL,V.cells_toD,V.cells,strs_rows,List.cons_append,List.nil_append,List.append_nil]
theorem rows_map {α:Type} (f:α→D) (g:α→List AX.A) (h:∀ x,(f x).cells=g x):∀ l:List α,D.rows (l.map f)=l.map g
 | []=>by simp [D.rows]
 | x::l=>by simp only [List.map_cons,D.rows,h,rows_map f g h l]
theorem St.cells_toD (s:St):AX.A.agg s.toD.cells=s.A:=by
 unfold St.toD St.A
 simp only [D.cells,D.cellsL,rows_map _ _ Inst.cells_toD,rows_map _ _ Pend.cells_toD,rows_map _ _ Outp.cells_toD,List.cons_append,List.nil_append,List.append_nil]
set_option maxRecDepth 100000 in
theorem conf_inst {d:D} (h:Conf Tryz.prog d 36):∃ x:Inst,d=x.toD∧x.attrs.Wf:=by
 obtain ⟨l',rfl,h2⟩:=conf_struct Tryz.underlying36 h
 obtain ⟨d0,l1,rfl,c0,h2⟩:=confL_cons h2
 obtain ⟨d1,l2,rfl,c1,h2⟩:=confL_cons h2
 obtain ⟨d2,l3,rfl,c2,h2⟩:=confL_cons h2
 obtain ⟨d3,l4,rfl,c3,h2⟩:=confL_cons h2
 obtain ⟨d4,l5,rfl,c4,h2⟩:=confL_cons h2
 obtain ⟨d5,l6,rfl,c5,h2⟩:=confL_cons h2
 obtain ⟨d6,l7,rfl,c6,h2⟩:=confL_cons h2
 obtain ⟨d7,l8,rfl,c7,h2⟩:=confL_cons h2
 obtain ⟨d8,l9,rfl,c8,h2⟩:=confL_cons h2
 obtain rfl:=confL_nil h2
 obtain ⟨a,rfl,_⟩:=conf_str Tryz.underlying9 c0
 obtain ⟨b,rfl,_⟩:=conf_str Tryz.underlying9 c1
 obtain ⟨c,rfl,_⟩:=conf_str Tryz.underlying9 c2
 obtain ⟨e,rfl,_⟩:=conf_str Tryz.underlying9 c3
 obtain ⟨v,rfl,hv⟩:=conf_val c4
 obtain ⟨n,rfl,_⟩:=conf_int (k:=.i64) Tryz.underlying3 c5
 obtain ⟨t,rfl⟩:=conf_bool Tryz.underlying4 c6
 obtain ⟨f,rfl⟩:=conf_bool Tryz.underlying4 c7
 obtain ⟨l4,rfl,c9,_⟩:=conf_slice Tryz.underlying32 c8
 obtain ⟨ks,rfl,_⟩:=conf_strs Tryz.underlying9 l4 c9
 have hw:Tryz.prog.cellsOf 9=1:=by kernel_rfl
 rw [hw]
 exact ⟨⟨a,b,c,e,v,n,t,f,ks⟩,rfl,hv⟩
set_option maxRecDepth 100000 in
theorem conf_pend {d:D} (h:Conf Tryz.prog d 140):∃ x:Pend,d=x.toD∧True:=by
 obtain ⟨l',rfl,h2⟩:=conf_struct Tryz.underlying140 h
 obtain ⟨d0,l1,rfl,c0,h2⟩:=confL_cons h2
 obtain ⟨d1,l2,rfl,c1,h2⟩:=confL_cons h2
 obtain ⟨d2,l3,rfl,c2,h2⟩:=confL_cons h2
 obtain rfl:=confL_nil h2
 obtain ⟨a,rfl,_⟩:=conf_str Tryz.underlying9 c0
 obtain ⟨b,rfl,_⟩:=conf_str Tryz.underlying9 c1
 obtain ⟨c,rfl,_⟩:=conf_str Tryz.underlying9 c2
 exact ⟨⟨a,b,c⟩,rfl,trivial⟩
set_option maxRecDepth 100000 in
theorem conf_outp {d:D} (h:Conf Tryz.prog d 95):∃ x:Outp,d=x.toD∧x.value.Wf:=by
 obtain ⟨l',rfl,h2⟩:=conf_struct Tryz.underlying95 h
 obtain ⟨d0,l1,rfl,c0,h2⟩:=confL_cons h2
 obtain ⟨d1,l2,rfl,c1,h2⟩:=confL_cons h2
 obtain ⟨d2,l3,rfl,c2,h2⟩:=confL_cons h2
 obtain rfl:=confL_nil h2
 obtain ⟨a,rfl,_⟩:=conf_str Tryz.underlying9 c0
 obtain ⟨v,rfl,hv⟩:=conf_val c1
 obtain ⟨t,rfl⟩:=conf_bool Tryz.underlying4 c2
 exact ⟨⟨a,v,t⟩,rfl,hv⟩
set_option maxRecDepth 100000 in
theorem conf_st {d:D} (h:Conf Tryz.prog d 27):∃ x:St,d=x.toD∧x.Wf:=by
 obtain ⟨l',rfl,h2⟩:=conf_struct Tryz.underlying27 h
 obtain ⟨d0,l1,rfl,c0,h2⟩:=confL_cons h2
 obtain ⟨d1,l2,rfl,c1,h2⟩:=confL_cons h2
 obtain ⟨d2,l3,rfl,c2,h2⟩:=confL_cons h2
 obtain ⟨d3,l4,rfl,c3,h2⟩:=confL_cons h2
 obtain ⟨d4,l5,rfl,c4,h2⟩:=confL_cons h2
 obtain rfl:=confL_nil h2
 obtain ⟨a,rfl,_⟩:=conf_str Tryz.underlying9 c0
 obtain ⟨n,rfl,hn⟩:=conf_int (k:=.i64) Tryz.underlying3 c1
 obtain ⟨l2,rfl,k2,_⟩:=conf_slice Tryz.underlying23 c2
 obtain ⟨l3,rfl,k3,_⟩:=conf_slice Tryz.underlying24 c3
 obtain ⟨l4,rfl,k4,_⟩:=conf_slice Tryz.underlying25 c4
 obtain ⟨xs,rfl,hx⟩:=list_of_ l2 fun d hd=>conf_inst (confA_mem k2 d hd)
 obtain ⟨ps,rfl,_⟩:=list_of_ l3 fun d hd=>conf_pend (confA_mem k3 d hd)
 obtain ⟨os,rfl,ho⟩:=list_of_ l4 fun d hd=>conf_outp (confA_mem k4 d hd)
 have hw1:Tryz.prog.cellsOf 36=13:=by kernel_rfl
 have hw2:Tryz.prog.cellsOf 140=3:=by kernel_rfl
 have hw3:Tryz.prog.cellsOf 95=7:=by kernel_rfl
 rw [hw1,hw2,hw3]
 exact ⟨⟨a,n,xs,ps,os⟩,rfl,hx,ho,hn⟩
end Sf
theorem strs_bulk:∀ ks:List (List UInt8),ks.length≤D.bulks (ks.map .str)∧∀ s∈ks,s.length+1≤D.bulks (ks.map .str)
 | []=>by simp
 | k::ks=>by
  obtain ⟨h1,h2⟩:=strs_bulk ks
  rw [List.map_cons,D.bulks,D.bulk]
  refine ⟨by simp only [List.length_cons]; omega,fun s hs=>?_⟩
  rcases List.mem_cons.1 hs with rfl | hs
  ·omega
  ·have:=h2 s hs; omega
theorem num10 (n:Int):(Wire.num n).length≤10:=(Wire.encF_len 9 (Wire.zig n)).2
theorem strE10 (s:List UInt8):(Wire.strE s).length≤10+s.length:=by
 unfold Wire.strE
 rw [List.length_append]
 have:=num10 (s.length:Int)
 omega
theorem bulk_pos (d:D):1≤d.bulk:=by cases d <;> rw [D.bulk] <;> omega
mutual
theorem enc_bulk:∀ v:V,(Val.enc v).length≤30*v.toD.bulk
 | .mk k n s is ks=>by
  have h1:=encs_bulk (k == 5) is ks
  have n1:=num10 k
  have n2:=num10 n
  have n3:=strE10 s
  have n4:=num10 (is.length:Int)
  rw [Val.enc,V.toD,D.bulk,D.bulks,D.bulks,D.bulks,D.bulks,D.bulks,D.bulks,D.bulk,D.bulk,D.bulk,D.bulk,D.bulk,List.length_append]
  split
  ·omega
  ·split
   ·omega
   ·split
    ·rw [List.length_append]; omega
    ·simp only [List.length_nil]; omega
theorem encs_bulk:∀ (m:Bool) (l:List V) (ks:List (List UInt8)),(Val.encs m l ks).length≤30*(D.bulks (V.toDs l)+D.bulks (ks.map .str))
 | m,[],ks=>by rw [Val.encs]; simp
 | m,v::l,ks=>by
  have h1:=enc_bulk v
  have hp:=bulk_pos v.toD
  rw [Val.encs,V.toDs,D.bulks,List.length_append,List.length_append]
  cases ks with
  | nil =>
   have h2:=encs_bulk m l ([]:List (List UInt8)).tail
   have:(Val.keyE m []).length=0:=by cases m <;> rfl
   simp only [List.tail_nil] at h2 ⊢
   omega
  | cons k ks =>
   have h2:=encs_bulk m l (k::ks).tail
   have h3:(Val.keyE m (k::ks)).length≤10+k.length:=by
    cases m
    ·simp [Val.keyE]
    ·exact strE10 k
   rw [List.tail_cons] at h2
   rw [List.map_cons,D.bulks,D.bulk,List.tail_cons]
   omega
end
theorem flat_bulk {α:Type} (f:α→List UInt8) (g:α→D) (h:∀ x,(f x).length≤30*(g x).bulk):∀ l:List α,(l.flatMap f).length≤30*D.bulks (l.map g)
 | []=>by simp
 | x::l=>by
  have:=h x
  have:=flat_bulk f g h l
  rw [List.flatMap_cons,List.map_cons,D.bulks,List.length_append]
  omega
theorem map_bulk {α:Type} (g:α→D):∀ l:List α,l.length≤D.bulks (l.map g)∧∀ x∈l,(g x).bulk≤D.bulks (l.map g)
 | []=>by simp
 | x::l=>by
  obtain ⟨h1,h2⟩:=map_bulk g l
  have:=bulk_pos (g x)
  rw [List.map_cons,D.bulks]
  refine ⟨by simp only [List.length_cons]; omega,fun y hy=>?_⟩
  rcases List.mem_cons.1 hy with rfl | hy
  ·omega
  ·have:=h2 y hy; omega
namespace Sf
theorem flag10 (b:Bool):(flagE b).length≤10:=num10 _
theorem instE_bulk (ver:Int) (x:Inst):(instE ver x).length≤30*x.toD.bulk:=by
 have a1:=strE10 x.addr
 have a2:=strE10 x.dep
 have a3:=strE10 x.id
 have a4:=strE10 x.typ
 have a5:=enc_bulk x.attrs
 have a6:=num10 x.ver
 have a7:=flag10 x.tainted
 have a8:(if ver=2 then flagE x.first else []).length≤10:=by
  split
  ·exact flag10 _
  ·simp
 have a9:=num10 (x.deps.length:Int)
 have a10:=flat_bulk Wire.strE D.str (fun s=>by rw [D.bulk]; have:=strE10 s; omega) x.deps
 unfold instE wordsE Inst.toD
 simp only [List.length_append,D.bulk,D.bulks]
 omega
theorem pendE_bulk (x:Pend):(pendE x).length≤30*x.toD.bulk:=by
 have a1:=strE10 x.addr
 have a2:=strE10 x.typ
 have a3:=strE10 x.tok
 unfold pendE Pend.toD
 simp only [List.length_append,D.bulk,D.bulks]
 omega
theorem outE_bulk (x:Outp):(outE x).length≤30*x.toD.bulk:=by
 have a1:=strE10 x.name
 have a2:=enc_bulk x.value
 have a3:=flag10 x.sens
 unfold outE Outp.toD
 simp only [List.length_append,D.bulk,D.bulks]
 omega
theorem stE_bulk (ver:Int) (s:St):(stE ver s).length≤30*s.toD.bulk:=by
 have a0:magic.length=4:=rfl
 have a1:=num10 ver
 have a2:=strE10 s.lin
 have a3:=num10 s.ser
 have a4:=num10 (s.insts.length:Int)
 have a5:=flat_bulk (instE ver) Inst.toD (instE_bulk ver) s.insts
 have a6:(if ver=2 then Wire.num s.pends.length++s.pends.flatMap pendE else []).length≤10+30*D.bulks (s.pends.map Pend.toD):=by
  have b1:=num10 (s.pends.length:Int)
  have b2:=flat_bulk pendE Pend.toD pendE_bulk s.pends
  split
  ·rw [List.length_append]; omega
  ·simp
 have a7:=num10 (s.outs.length:Int)
 have a8:=flat_bulk outE Outp.toD outE_bulk s.outs
 unfold stE St.toD
 simp only [List.length_append,D.bulk,D.bulks]
 omega
structure Fit (s:St):Prop where
 sin:AX.Sf.StIn s
 tin:TypIn s
 len:∀ ver,(stE ver s).length+20≤1000000000
theorem inst_fit {x:Inst} (hw:x.attrs.Wf) (hb:x.toD.bulk≤1500000):AX.Sf.InstIn x∧x.typ.length≤2000000:=by
 unfold Inst.toD at hb
 simp only [D.bulk,D.bulks] at hb
 obtain ⟨h1,h2⟩:=strs_bulk x.deps
 exact ⟨⟨by omega,by omega,by omega,V.Wf.lens _ hw,by omega,fun s hs=>by have:=h2 s hs; omega⟩,by omega⟩
theorem fit_of {s:St} (hw:s.Wf) (hb:s.toD.bulk≤1500000):Fit s:=by
 have hE:=fun ver=>stE_bulk ver s
 have hb':=hb
 unfold St.toD at hb'
 simp only [D.bulk,D.bulks] at hb'
 obtain ⟨i1,i2⟩:=map_bulk Inst.toD s.insts
 obtain ⟨p1,p2⟩:=map_bulk Pend.toD s.pends
 obtain ⟨o1,o2⟩:=map_bulk Outp.toD s.outs
 have hi:∀ x∈s.insts,AX.Sf.InstIn x∧x.typ.length≤2000000:=fun x hx=>inst_fit (hw.insts x hx) (by have:=i2 x hx; omega)
 have hp:∀ x∈s.pends,x.addr.length≤2000000∧x.typ.length≤2000000∧x.tok.length≤2000000:=fun x hx=>by
  have:x.toD.bulk≤1500000:=by have:=p2 x hx; omega
  unfold Pend.toD at this
  simp only [D.bulk,D.bulks] at this
  refine ⟨?_,?_,?_⟩ <;> omega
 have ho:∀ x∈s.outs,x.name.length≤2000000∧x.value.lens:=fun x hx=>by
  have:x.toD.bulk≤1500000:=by have:=o2 x hx; omega
  unfold Outp.toD at this
  simp only [D.bulk,D.bulks] at this
  exact ⟨by omega,V.Wf.lens _ (hw.outs x hx)⟩
 refine ⟨⟨by omega,fun x hx=>(hi x hx).1,fun x hx=>⟨(hp x hx).1,(hp x hx).2.2⟩,ho,by omega,by omega,by omega⟩,⟨fun x hx=>(hi x hx).2,fun x hx=>(hp x hx).2.1⟩,fun ver=>?_⟩
 have:=hE ver
 omega
end Sf
end Go.Proofs.YtahmpiioegemaaaGreatDoor

namespace Go.Proofs.YtahmpiioegemaaaGreatDoor
open Go.RowKit
mutual
def V.few:V→Prop
 | .mk k n s is ks=>is.length≤2000000∧ks.length≤2000000∧V.fews is
def V.fews:List V→Prop
 | []=>True
 | v::l=>v.few∧V.fews l
end
theorem toDs_bulk:∀ l:List V,l.length≤D.bulks (V.toDs l)
 | []=>Nat.zero_le _
 | v::l=>by
  have:=toDs_bulk l
  have h1:1≤v.toD.bulk:=by cases h:v.toD <;> rw [D.bulk] <;> omega
  rw [V.toDs,D.bulks,List.length_cons]; omega
mutual
theorem V.few_of:∀ v:V,v.toD.bulk≤1500000→v.few
 | .mk k n s is ks,h=>by
  rw [V.toD,D.bulk,D.bulks,D.bulks,D.bulks,D.bulks,D.bulks,D.bulks,D.bulk,D.bulk,D.bulk,D.bulk,D.bulk] at h
  have h1:=toDs_bulk is
  have h2:=(strs_bulk ks).1
  unfold V.few
  exact ⟨by omega,by omega,V.fews_of is (by omega)⟩
theorem V.fews_of:∀ l:List V,D.bulks (V.toDs l)≤1500000→V.fews l
 | [],_=>by unfold V.fews; trivial
 | v::l,h=>by
  rw [V.toDs,D.bulks] at h
  unfold V.fews
  exact ⟨V.few_of v (by omega),V.fews_of l (by omega)⟩
end
namespace AX
structure JrFew (r:Jr):Prop where
 inn:JrIn r
 vfew:r.after.attrs.few
 ins:r.base.insts.length≤2000000∧∀ x∈r.base.insts,x.attrs.few∧x.deps.length≤1000000000
 ps:r.base.pends.length≤2000000
 os:r.base.outs.length≤2000000∧∀ x∈r.base.outs,x.value.few
end AX
namespace Jr
end Jr
namespace Jr
end Jr
namespace AX
theorem i80 {n:Nat} (h:n≤2000000):IntKind.i64.wrap ((n:Int)+1)=((n+1:Nat):Int):=by rw [wrap64 (by omega) (by omega)]; omega
end AX
def Str.at' (i:Nat) (r:List UInt8×Nat×Int):List UInt8×Nat×Int:=if r.2.2=0 then (r.1,i+r.2.1,0) else ([],0,r.2.2)
namespace AX
end AX
end Go.Proofs.YtahmpiioegemaaaGreatDoor

namespace Go.Proofs.YtahmpiioegemaaaGreatDoor
open Go.RowKit
open Go.Op (bytesLess)
namespace AX
end AX
end Go.Proofs.YtahmpiioegemaaaGreatDoor

namespace Go.Proofs.YtahmpiioegemaaaGreatDoor
open Go.RowKit
namespace AX
end AX
namespace Jr
end Jr
namespace AX
def c_r31Small:AX.AFn:=⟨71,aS [aR 3 (.box 27 (.t 0)),aR 6 (.mv (.c (.bool false)))] (.seq (aS [aF 9 2 3,aL 10 9,aR 11 (.len false (.t 10)),aM 12 1,aR 13 (.bin .gtr (.t 11) (.t 12)),aM 14 13,aG 15 (.faddr 3 (.t 3)) 14 false,aG 16 (.load false 1 (.t 15)) 14 false,aG 17 (.len false (.t 16)) 14 false,aG 18 (.mv (.t 1)) 14 false,aG 19 (.bin .gtr (.t 17) (.t 18)) 14 false,aR 20 (.pick (.t 14) (.c (.bool true)) (.t 19)),aM 21 20,aG 22 (.faddr 4 (.t 3)) 21 false,aG 23 (.load false 1 (.t 22)) 21 false,aG 24 (.len false (.t 23)) 21 false,aG 25 (.mv (.t 1)) 21 false,aG 26 (.bin .gtr (.t 24) (.t 25)) 21 false,aR 27 (.pick (.t 21) (.c (.bool true)) (.t 26))] (.cond (.t 27) (aS [aR 6 (.mv (.c (.bool false)))] (.ret)) (.skip))) (.seq (aS [aR 7 (.mv (aI 0))] (.block 0 (.loop (.seq (aS [aM 28 7,aF 29 2 3,aL 30 29,aR 31 (.len false (.t 30)),aR 32 (.bin .lss (.t 28) (.t 31))] (.cond (.t 32) (.skip) (.exit 0))) (.seq (.block 1 (aS [aF 35 2 3,aL 36 35,aM 37 7,aR 38 (.iaddr 13 (.t 36) (.t 37)),aF 39 4 38,aR 40 (.load true 5 (.t 39)),aM 41 2,aR 42 (.call 23 [.t 40,.t 41]),aR 43 (.un .not (.t 42)),aM 44 43,aG 45 (.faddr 2 (.t 3)) 44 false,aG 46 (.load false 1 (.t 45)) 44 false,aG 47 (.mv (.t 7)) 44 false,aG 48 (.iaddr 13 (.t 46) (.t 47)) 44 false,aG 49 (.faddr 12 (.t 48)) 44 false,aG 50 (.load false 1 (.t 49)) 44 false,aG 51 (.len false (.t 50)) 44 false,aG 52 (.mv (.t 1)) 44 false,aG 53 (.bin .gtr (.t 51) (.t 52)) 44 false,aR 54 (.pick (.t 44) (.c (.bool true)) (.t 53))] (.cond (.t 54) (aS [aR 6 (.mv (.c (.bool false)))] (.ret)) (.skip)))) (.reg false [aM 33 7,aR 34 (.bin .add (.t 33) (aI 1)),aM 7 34])))))) (.seq (aS [aR 8 (.mv (aI 0))] (.block 2 (.loop (.seq (aS [aM 55 8,aF 56 4 3,aL 57 56,aR 58 (.len false (.t 57)),aR 59 (.bin .lss (.t 55) (.t 58))] (.cond (.t 59) (.skip) (.exit 2))) (.seq (.block 3 (aS [aF 62 4 3,aL 63 62,aM 64 8,aR 65 (.iaddr 7 (.t 63) (.t 64)),aF 66 1 65,aR 67 (.load true 5 (.t 66)),aM 68 2,aR 69 (.call 23 [.t 67,.t 68]),aR 70 (.un .not (.t 69))] (.cond (.t 70) (aS [aR 6 (.mv (.c (.bool false)))] (.ret)) (.skip)))) (.reg false [aM 60 8,aR 61 (.bin .add (.t 60) (aI 1)),aM 8 61])))))) (aS [aR 6 (.mv (.c (.bool true)))] (.ret))))),[.t 6]⟩
theorem h_r31Small:AX.compFn Tryz.prog 22=some c_r31Small:=by kernel_rfl
theorem eqB_refl_:∀ v:V,Val.eqB v v=true:=by
 refine V.induct fun k n s is ks ih=>?_
 rw [Val.eqB]
 have:Val.eqBs is is=true:=by
  have key:∀ l:List V,(∀ x∈l,Val.eqB x x=true)→Val.eqBs l l=true:=by
   intro l
   induction l with
   | nil=>intro _; rw [Val.eqBs]
   | cons x l ihl =>
    intro hl
    rw [Val.eqBs,hl x (by simp),ihl fun y hy=>hl y (by simp [hy])]
    rfl
  exact key is ih
 simp [this]
namespace Sf
def smallV (v:V) (nd:Nat):Bool:=decide (0≤Val.left v nd 40)&&decide (IntKind.i64.wrap (Val.keysN v)≤2*(nd:Int))
def smallI (parts:Int) (nd:Nat) (x:Sf.Inst):Bool:=smallV x.attrs nd&&!decide ((x.deps.length:Int) > parts)
def smallP (parts:Int) (nd:Nat) (s:Sf.St):Bool:=
 !(decide ((s.insts.length:Int) > parts)||decide ((s.pends.length:Int) > parts)||decide ((s.outs.length:Int) > parts))&&(s.insts.all (smallI parts nd)&&s.outs.all fun o=>smallV o.value nd)
end Sf
theorem all_drop {α:Type} (p:α→Bool) (l:List α) (i:Nat) (h:i < l.length):(l.drop i).all p=(p l[i]&&(l.drop (i+1)).all p):=by
 rw [List.drop_eq_getElem_cons h,List.all_cons]
theorem a_r31Small (st:Sf.St) (hin:Sf.StIn st) (parts:Int) (nd:Nat) (hp:0≤parts) (hp2:parts≤1000000) (hn:nd≤1000000) (h:Hp):ACall Tryz.prog GT 22 [st.A,.int .i64 parts,.int .i64 (nd:Int)] h fun r h'=>r = .bool (Sf.smallP parts nd st)∧h'=h:=by
 refine pcall ?_ rfl (by simp [A.pure,A.data,Sf.St.A]) h
 refine acall_of mixedT h_r31Small (by simp [c_r31Small]) ?_
 dsimp only [c_r31Small]
 have hli:=hin.li
 have hlo:=hin.lo
 have hci:=fun x (hx:x∈st.insts)=>a_rSmall x.attrs nd hn (hin.insts x hx).l
 have hdi:=fun x (hx:x∈st.insts)=>(hin.insts x hx).n
 have hco:=fun x (hx:x∈st.outs)=>a_rSmall x.value nd hn (hin.outs x hx).2
 obtain ⟨lin,ser,ins,ps,os⟩:=st
 simp only [Sf.St.A]
 dsimp only at hli hlo hci hdi hco
 have lm1:(ins.map Sf.Inst.cells).length=ins.length:=List.length_map _
 have lm2:(ps.map Sf.Pend.cells).length=ps.length:=List.length_map _
 have lm3:(os.map Sf.Outp.cells).length=os.length:=List.length_map _
 obtain ⟨q,hq⟩:∃ q,Sf.smallP parts nd ⟨lin,ser,ins,ps,os⟩=q:=⟨_,rfl⟩
 rw [hq]
 unfold Sf.smallP at hq
 dsimp only at hq
 by_cases g1:(ins.length:Int) > parts
 ·have:false=q:=by rw [←hq]; simp [g1]
  subst this
  refine run0 (ai lm1 (ai lm2 (ai lm3 g1))) ?_
  exact ⟨_,le_refl _,rfl⟩
 by_cases g2:(ps.length:Int) > parts
 ·have:false=q:=by rw [←hq]; simp [g2]
  subst this
  refine run0 (ai lm1 (ai lm2 (ai lm3 (ai g1 g2)))) ?_
  exact ⟨_,le_refl _,rfl⟩
 by_cases g3:(os.length:Int) > parts
 ·have:false=q:=by rw [←hq]; simp [g3]
  subst this
  refine run0 (ai lm1 (ai lm2 (ai lm3 (ai g1 (ai g2 g3))))) ?_
  exact ⟨_,le_refl _,rfl⟩
 have hq':(ins.all (Sf.smallI parts nd)&&os.all fun o=>Sf.smallV o.value nd)=q:=by rw [←hq]; simp [g1,g2,g3]
 refine run0 (ai lm1 (ai lm2 (ai lm3 (ai g1 (ai g2 g3))))) ?_
 refine awp_loop (fun m ts hh=>hh=⟨[.cells 27 [.str lin,.int .i64 ser,.sl 13 .no (ins.map Sf.Inst.cells),.sl 3 .no (ps.map Sf.Pend.cells),.sl 7 .no (os.map Sf.Outp.cells)]],[]⟩∧∃ (i:Nat),m=ins.length - i∧i≤ins.length∧(ins.drop i).all (Sf.smallI parts nd)=ins.all (Sf.smallI parts nd)∧ts 1 = .int .i64 parts∧ts 2 = .int .i64 (nd:Int)∧ts 3 = .ptr 0 0∧ts 7 = .int .i64 (i:Nat)) ins.length ?_ ?_
 ·exact ⟨rfl,0,rfl,Nat.zero_le _,rfl,by (exact ev0 ti),by (exact ev0 ti),by (exact ev0 ti),by (exact inv0 ti)⟩
 ·rintro m ts hh ⟨rfl,i,rfl,hi,heq,t1,t2,t3,t7⟩
  by_cases hlt:i < ins.length
  ·have hlt2:(i:Int) < (ins.length:Int):=by omega
   have hla:(i:Int) < ((ins.map Sf.Inst.cells).length:Int):=by rw [lm1]; omega
   have hj0:(0:Int)≤(i:Int):=by omega
   have ei:IntKind.i64.wrap ((i:Int)+1)=((i+1:Nat):Int):=by rw [wrap64 (by omega) (by omega)]; omega
   have hg:=map_getD Sf.Inst.cells ins i hlt
   have hc:=hci _ (List.getElem_mem hlt)
   rw [all_drop _ _ _ hlt] at heq
   obtain ⟨x,hxx⟩:∃ x,ins[i]=x:=⟨_,rfl⟩
   rw [hxx] at hg hc heq
   obtain ⟨a,d,id,ty,⟨k,n,w,vi,vy⟩,v,tn,fi,ds⟩:=x
   simp only [Sf.Inst.cells] at hg
   obtain ⟨b,hb⟩:∃ b,Sf.smallV (.mk k n w vi vy) nd=b:=⟨_,rfl⟩
   have hb':(decide (0≤Val.left (.mk k n w vi vy) nd 40)&&decide (IntKind.i64.wrap (Val.keysN (.mk k n w vi vy))≤2*(nd:Int)))=b:=hb
   dsimp only at hc
   rw [hb'] at hc
   have hsx:Sf.smallI parts nd ⟨a,d,id,ty,⟨k,n,w,vi,vy⟩,v,tn,fi,ds⟩=(Sf.smallV (.mk k n w vi vy) nd&&!decide ((ds.length:Int) > parts)):=rfl
   rw [hsx,hb] at heq
   have ld:(strsA ds).length=ds.length:=strsA_length ds
   simp only [V.A,V.cells] at hc
   refine run0 (ai t1 (ai t2 (ai t3 (ai t7 (ai lm1 (ai hlt2 (ai hla (ai hj0 hg)))))))) ?_
   refine use (hc _) ?_
   cases b
   ·refine run0 (ai t1 (ai t2 (ai t3 t7))) ?_
    exact ⟨_,le_refl _,by rw [tupA_1,←hq',show ins.all (Sf.smallI parts nd)=false from heq.symm]; rfl⟩
   ·by_cases gd:(ds.length:Int) > parts
    ·refine run0 (ai t1 (ai t2 (ai t3 (ai t7 (ai lm1 (ai hlt2 (ai hla (ai hj0 (ai hg (ai ld gd)))))))))) ?_
     exact ⟨_,le_refl _,by rw [tupA_1,←hq',show ins.all (Sf.smallI parts nd)=false from heq.symm.trans (by simp [gd])]; rfl⟩
    ·have hn:(true&&!decide ((ds.length:Int) > parts))=true:=by simp [gd]
     rw [hn,Bool.true_and] at heq
     refine run0 (ai t1 (ai t2 (ai t3 (ai t7 (ai lm1 (ai hlt2 (ai hla (ai hj0 (ai hg (ai ld (ai gd ei))))))))))) ?_
     exact ⟨ins.length - (i+1),by omega,rfl,i+1,rfl,by omega,heq,by (exact ev0 t1),by (exact ev0 t2),by (exact ev0 t3),by (exact ev0 ei)⟩
  ·have hlt2:¬ (i:Int) < (ins.length:Int):=by omega
   rw [List.drop_of_length_le (by omega),List.all_nil] at heq
   rw [←heq,Bool.true_and] at hq'
   refine run0 (ai t1 (ai t2 (ai t3 (ai t7 (ai lm1 hlt2))))) ?_
   refine awp_loop (fun m ts hh=>hh=⟨[.cells 27 [.str lin,.int .i64 ser,.sl 13 .no (ins.map Sf.Inst.cells),.sl 3 .no (ps.map Sf.Pend.cells),.sl 7 .no (os.map Sf.Outp.cells)]],[]⟩∧∃ (i:Nat),m=os.length - i∧i≤os.length∧((os.drop i).all fun o=>Sf.smallV o.value nd)=(os.all fun o=>Sf.smallV o.value nd)∧ts 2 = .int .i64 (nd:Int)∧ts 3 = .ptr 0 0∧ts 8 = .int .i64 (i:Nat)) os.length ?_ ?_
   ·exact ⟨rfl,0,rfl,Nat.zero_le _,rfl,by (exact ev0 t2),by (exact ev0 t3),by (exact inv0 ti)⟩
   ·rintro m ts hh ⟨rfl,i,rfl,hi,heq,t2,t3,t8⟩
    by_cases hlt:i < os.length
    ·have hlt2:(i:Int) < (os.length:Int):=by omega
     have hla:(i:Int) < ((os.map Sf.Outp.cells).length:Int):=by rw [lm3]; omega
     have hj0:(0:Int)≤(i:Int):=by omega
     have ei:IntKind.i64.wrap ((i:Int)+1)=((i+1:Nat):Int):=by rw [wrap64 (by omega) (by omega)]; omega
     have hg:=map_getD Sf.Outp.cells os i hlt
     have hc:=hco _ (List.getElem_mem hlt)
     rw [all_drop _ _ _ hlt] at heq
     obtain ⟨x,hxx⟩:∃ x,os[i]=x:=⟨_,rfl⟩
     rw [hxx] at hg hc heq
     obtain ⟨a,⟨k,n,w,vi,vy⟩,sn⟩:=x
     simp only [Sf.Outp.cells] at hg
     obtain ⟨b,hb⟩:∃ b,Sf.smallV (.mk k n w vi vy) nd=b:=⟨_,rfl⟩
     have hb':(decide (0≤Val.left (.mk k n w vi vy) nd 40)&&decide (IntKind.i64.wrap (Val.keysN (.mk k n w vi vy))≤2*(nd:Int)))=b:=hb
     dsimp only at hc heq
     rw [hb'] at hc
     rw [hb] at heq
     simp only [V.A,V.cells] at hc
     refine run0 (ai t2 (ai t3 (ai t8 (ai lm3 (ai hlt2 (ai hla (ai hj0 hg))))))) ?_
     refine use (hc _) ?_
     cases b
     ·refine run0 (ai t2 (ai t3 t8)) ?_
      exact ⟨_,le_refl _,by rw [tupA_1,←hq',←heq]; rfl⟩
     ·rw [Bool.true_and] at heq
      refine run0 (ai t2 (ai t3 (ai t8 ei))) ?_
      exact ⟨os.length - (i+1),by omega,rfl,i+1,rfl,by omega,heq,by (exact ev0 t2),by (exact ev0 t3),by (exact ev0 ei)⟩
    ·have hlt2:¬ (i:Int) < (os.length:Int):=by omega
     rw [List.drop_of_length_le (by omega),List.all_nil] at heq
     refine run0 (ai t2 (ai t3 (ai t8 (ai lm3 hlt2)))) ?_
     exact ⟨_,le_refl _,by rw [tupA_1,←hq',←heq]⟩
end AX
end Go.Proofs.YtahmpiioegemaaaGreatDoor

namespace Go.Proofs.YtahmpiioegemaaaGreatDoor
open Go.RowKit Go.ChangeShapes Go.WideShapes
namespace AX
section
variable {H:Type} {enc:TypeId×Value→H} {w:World} {base:Nat} {spare:Nat→Bool} {held:Bool} {r:Reach} {b0:Nat} {v:Value} {d:DataW H} {p:List MemPlace}
set_option maxRecDepth 100000 in
theorem arg_sliceB {K:List TypeId} {t e:TypeId} (hK:plainAll Tryz.prog K=true) (ht:t∈K) (hu:Tryz.prog.underlying t=some (.slice e)) (hval:Value.okWide Tryz.prog w r b0 t v) (h:DataW.Trod enc Tryz.prog w base spare held t v d p) :
  ∃ x:List D,ConfA Tryz.prog x e∧x.length≤maxLen∧D.bulks x≤Rows.uptoBulk d∧Rep (Ctx.of w) (.sl (Tryz.prog.cellsOf e) .no (D.rows x)) v:=by
 obtain ⟨a,len,cap,rfl⟩:=okWide_slice hu hval
 obtain ⟨fuel,hf⟩:=h
 obtain ⟨x,h1,h2,h3⟩:=trod_rdB hK fuel t ht _ _ hf
 obtain ⟨l,rfl,h4,h5⟩:=conf_slice hu h2
 refine ⟨l,h4,h5,?_,?_⟩
 ·rw [D.bulk] at h3
  exact Nat.le_trans (by omega) h3
 ·have:=rd_of h1
  rw [D.cells] at this
  obtain ⟨c,cs',e1,e2,e3⟩:=repL_cons.1 this
  rw [repL_nil] at e3
  subst e3
  injection e1 with e1
  rw [e1]
  exact e2
end
end AX
end Go.Proofs.YtahmpiioegemaaaGreatDoor

namespace Go.Proofs.YtahmpiioegemaaaGreatDoor
open Go.RowKit Go.ChangeShapes Go.WideShapes
namespace Jr
def toD (r:Jr):D:=.agg [.int .i64 r.kind,r.base.toD,.int .i64 r.step,.int .i64 r.op,.str r.addr,.str r.dep,.str r.typ,.str r.tok,.int .i64 r.err,r.after.toD]
theorem cells_toD (r:Jr):r.toD.cells=r.cells:=by
 obtain ⟨kd,st0,st,op,ad,dp,ty,tk,er,af⟩:=r
 have h:=Sf.St.cells_toD st0
 have h2:=Sf.Inst.cells_toD af
 unfold Sf.St.A at h
 injection h with h
 unfold toD cells
 simp only [D.cells,D.cellsL,h,h2,List.cons_append,List.nil_append,List.append_nil]
structure Wf (r:Jr):Prop where
 base:r.base.Wf
 after:r.after.attrs.Wf
end Jr
set_option maxRecDepth 100000 in
theorem conf_jr {d:D} (h:Conf Tryz.prog d 38):∃ x:Jr,d=x.toD∧x.Wf:=by
 obtain ⟨l',rfl,h2⟩:=conf_struct Tryz.underlying38 h
 obtain ⟨d0,l1,rfl,c0,h2⟩:=confL_cons h2
 obtain ⟨d1,l2,rfl,c1,h2⟩:=confL_cons h2
 obtain ⟨d2,l3,rfl,c2,h2⟩:=confL_cons h2
 obtain ⟨d3,l4,rfl,c3,h2⟩:=confL_cons h2
 obtain ⟨d4,l5,rfl,c4,h2⟩:=confL_cons h2
 obtain ⟨d5,l6,rfl,c5,h2⟩:=confL_cons h2
 obtain ⟨d6,l7,rfl,c6,h2⟩:=confL_cons h2
 obtain ⟨d7,l8,rfl,c7,h2⟩:=confL_cons h2
 obtain ⟨d8,l9,rfl,c8,h2⟩:=confL_cons h2
 obtain ⟨d9,l10,rfl,c9,h2⟩:=confL_cons h2
 obtain rfl:=confL_nil h2
 obtain ⟨k,rfl,_⟩:=conf_int (k:=.i64) Tryz.underlying22 c0
 obtain ⟨st,rfl,hs⟩:=Sf.conf_st c1
 obtain ⟨n,rfl,_⟩:=conf_int (k:=.i64) Tryz.underlying3 c2
 obtain ⟨o,rfl,_⟩:=conf_int (k:=.i64) Tryz.underlying28 c3
 obtain ⟨a,rfl,_⟩:=conf_str Tryz.underlying9 c4
 obtain ⟨b,rfl,_⟩:=conf_str Tryz.underlying9 c5
 obtain ⟨c,rfl,_⟩:=conf_str Tryz.underlying9 c6
 obtain ⟨t,rfl,_⟩:=conf_str Tryz.underlying9 c7
 obtain ⟨e,rfl,_⟩:=conf_int (k:=.i64) Tryz.underlying29 c8
 obtain ⟨x,rfl,hx⟩:=Sf.conf_inst c9
 exact ⟨⟨k,st,n,o,a,b,c,t,e,x⟩,rfl,hs,hx⟩
structure Jrs where
 l:List Jr
def Jrs.bulkD (x:Jrs):Nat:=D.bulks (x.l.map Jr.toD)
namespace AX
def kJrs:List TypeId:=[43,38,22,28,29,27,36,140,95,23,24,25,34,30,3,9,4,31,32]
theorem kJrs_plain:plainAll Tryz.prog kJrs=true:=by kernel_rfl
section
variable {H:Type} {enc:TypeId×Value→H} {w:World} {base:Nat} {spare:Nat→Bool} {held:Bool} {r:Reach} {b0:Nat} {v:Value} {d:DataW H} {p:List MemPlace}
set_option maxRecDepth 100000 in
theorem arg_conf_jrs (hval:Value.okWide Tryz.prog w r b0 43 v) (h:DataW.Trod enc Tryz.prog w base spare held 43 v d p) :
  ∃ (x:Jrs) (_:((∀ a∈x.l,a.Wf)∧x.l.length≤maxLen)∧x.bulkD≤Rows.uptoBulk d),Rep (Ctx.of w) (.sl 26 .no (x.l.map Jr.cells)) v:=by
 obtain ⟨l,h1,h2,h3,h4⟩:=arg_sliceB kJrs_plain (by decide) Tryz.underlying43 hval h
 obtain ⟨xs,rfl,hx⟩:=list_of_ l fun d hd=>conf_jr (confA_mem h1 d hd)
 rw [Sf.rows_map Jr.toD Jr.cells Jr.cells_toD] at h4
 have hw:Tryz.prog.cellsOf 38=26:=by kernel_rfl
 rw [hw] at h4
 exact ⟨⟨xs⟩,⟨⟨hx,by simpa using h2⟩,h3⟩,h4⟩
end
structure JrFit (r:Jr):Prop where
 few:JrFew r
 strs:r.addr.length≤2000000∧r.dep.length≤2000000∧r.typ.length≤2000000∧r.tok.length≤2000000∧r.after.addr.length≤2000000∧r.after.dep.length≤2000000∧r.after.id.length≤2000000∧r.after.typ.length≤2000000
 deps:r.after.deps.length≤2000000∧∀ s∈r.after.deps,s.length≤2000000
theorem jr_fit {r:Jr} (hw:r.Wf) (hb:r.toD.bulk≤1048576):JrFit r:=by
 unfold Jr.toD at hb
 simp only [D.bulk,D.bulks] at hb
 have hb1:r.base.toD.bulk≤1048576:=by omega
 have hb2:r.after.toD.bulk≤1048576:=by omega
 have f1:=(Sf.fit_of hw.base (Nat.le_trans hb1 (by decide))).sin
 have f2:=Sf.inst_fit hw.after (Nat.le_trans hb2 (by decide))
 have vf:∀ x:Sf.Inst,x.toD.bulk≤1500000→x.attrs.few∧x.deps.length≤1000000000:=fun x hx=>by
  unfold Sf.Inst.toD at hx
  simp only [D.bulk,D.bulks] at hx
  have:=(strs_bulk x.deps).1
  exact ⟨V.few_of _ (by omega),by omega⟩
 have hb3:=hb1
 unfold Sf.St.toD at hb3
 simp only [D.bulk,D.bulks] at hb3
 obtain ⟨i1,i2⟩:=map_bulk Sf.Inst.toD r.base.insts
 obtain ⟨p1,p2⟩:=map_bulk Sf.Pend.toD r.base.pends
 obtain ⟨o1,o2⟩:=map_bulk Sf.Outp.toD r.base.outs
 have hb4:=hb2
 unfold Sf.Inst.toD at hb4
 simp only [D.bulk,D.bulks] at hb4
 obtain ⟨d1,d2⟩:=strs_bulk r.after.deps
 refine ⟨⟨⟨f1,V.Wf.lens _ hw.after,by omega⟩,V.few_of _ (by omega),⟨by omega,fun x hx=>vf x (by have:=i2 x hx; omega)⟩,by omega,by omega,fun x hx=>?_⟩,⟨by omega,by omega,by omega,by omega,by omega,by omega,by omega,by omega⟩,by omega,fun s hs=>by have:=d2 s hs; omega⟩
 have h1:x.toD.bulk≤1048576:=by have:=o2 x hx; omega
 unfold Sf.Outp.toD at h1
 simp only [D.bulk,D.bulks] at h1
 exact V.few_of _ (by omega)
def c_jlight:AX.AFn:=⟨75,aS [aR 1 (.box 38 (.t 0)),aR 2 (.mv (.c (.bool false)))] (aS [aF 5 8 1,aL 6 5,aR 7 (.len true (.t 6)),aF 8 9 1,aL 9 8,aR 10 (.len true (.t 9)),aR 11 (.bin .add (.t 7) (.t 10)),aF 12 10 1,aL 13 12,aR 14 (.len true (.t 13)),aR 15 (.bin .add (.t 11) (.t 14)),aF 16 11 1,aL 17 16,aR 18 (.len true (.t 17)),aR 19 (.bin .add (.t 15) (.t 18)),aF 20 13 1,aF 21 0 20,aL 22 21,aR 23 (.len true (.t 22)),aR 24 (.bin .add (.t 19) (.t 23)),aF 25 13 1,aF 26 1 25,aL 27 26,aR 28 (.len true (.t 27)),aR 29 (.bin .add (.t 24) (.t 28)),aF 30 13 1,aF 31 2 30,aL 32 31,aR 33 (.len true (.t 32)),aR 34 (.bin .add (.t 29) (.t 33)),aF 35 13 1,aF 36 3 35,aL 37 36,aR 38 (.len true (.t 37)),aR 39 (.bin .add (.t 34) (.t 38)),aM 3 39] (.seq (aS [aR 4 (.mv (aI 0))] (.block 0 (.loop (.seq (aS [aM 40 4,aF 41 13 1,aF 42 12 41,aL 43 42,aR 44 (.len false (.t 43)),aR 45 (.bin .lss (.t 40) (.t 44)),aM 46 45,aG 47 (.mv (.t 3)) 46 true,aG 48 (.bin .leq (.t 47) (aI 20000)) 46 true,aR 49 (.pick (.t 46) (.t 48) (.c (.bool false)))] (.cond (.t 49) (.skip) (.exit 0))) (.seq (.block 1 (.reg false [aM 52 3,aR 53 (.bin .add (.t 52) (aI 1)),aF 54 13 1,aF 55 12 54,aL 56 55,aM 57 4,aR 58 (.iaddr 1 (.t 56) (.t 57)),aL 59 58,aR 60 (.len true (.t 59)),aR 61 (.bin .add (.t 53) (.t 60)),aM 3 61])) (.reg false [aM 50 4,aR 51 (.bin .add (.t 50) (aI 1)),aM 4 51])))))) (aS [aM 62 3,aR 63 (.bin .leq (.t 62) (aI 20000)),aM 64 63,aG 65 (.faddr 1 (.t 1)) 64 true,aG 66 (.load true 5 (.t 65)) 64 true,aG 67 (.call 22 [.t 66,aI 30,aI 200]) 64 true,aR 68 (.pick (.t 64) (.t 67) (.c (.bool false))),aM 69 68,aG 70 (.faddr 13 (.t 1)) 69 true,aG 71 (.faddr 4 (.t 70)) 69 true,aG 72 (.load true 5 (.t 71)) 69 true,aG 73 (.call 23 [.t 72,aI 200]) 69 true,aR 74 (.pick (.t 69) (.t 73) (.c (.bool false))),aM 2 74] (.ret)))),[.t 2]⟩
theorem h_jlight:AX.compFn Tryz.prog 8=some c_jlight:=by kernel_rfl
def lsum:List (List UInt8)→Int→Int
 | [],n=>n
 | s::l,n=>if n≤20000 then lsum l (n+1+s.length) else n
def lightB (r:Jr):Bool:=
 decide (lsum r.after.deps ((r.addr.length:Int)+r.dep.length+r.typ.length+r.tok.length+r.after.addr.length+r.after.dep.length+r.after.id.length+r.after.typ.length)≤20000)&&Sf.smallP 30 200 r.base&&(decide (0≤Val.left r.after.attrs ((200:Nat):Int) 40)&&decide (IntKind.i64.wrap (Val.keysN r.after.attrs)≤2*((200:Nat):Int)))
theorem a_jlight (r:Jr) (hf:JrFit r) (h:Hp):ACall Tryz.prog GT 8 [.agg r.cells] h fun v h'=>v = .bool (lightB r)∧h'=h:=by
 have c1:=a_r31Small r.base hf.few.inn.base 30 200 (by decide) (by decide) (by decide)
 have c2:=a_rSmall r.after.attrs 200 (by decide) hf.few.inn.lens
 obtain ⟨s1,s2,s3,s4,s5,s6,s7,s8⟩:=hf.strs
 obtain ⟨d1,d2⟩:=hf.deps
 clear hf
 unfold lightB
 obtain ⟨B1,hB1⟩:∃ B,Sf.smallP 30 200 r.base=B:=⟨_,rfl⟩
 obtain ⟨B2,hB2⟩:∃ B,(decide (0≤Val.left r.after.attrs ((200:Nat):Int) 40)&&decide (IntKind.i64.wrap (Val.keysN r.after.attrs)≤2*((200:Nat):Int)))=B:=⟨_,rfl⟩
 rw [hB1] at c1 ⊢
 rw [hB2] at c2 ⊢
 clear hB1 hB2
 have c2:∀ h,ACall Tryz.prog GT 23 [r.after.attrs.A,.int .i64 200] h fun v h'=>v = .bool B2∧h'=h:=c2
 obtain ⟨kd,⟨lin,ser,ins,ps,os⟩,st,op,ad,dp,ty,tk,er,⟨a1,a2,a3,a4,⟨k,nn,ss,is,ks⟩,v,tn,fi,ds⟩⟩:=r
 dsimp only at s1 s2 s3 s4 s5 s6 s7 s8 d1 d2 ⊢
 simp only [Jr.cells,Sf.Inst.cells,List.cons_append,List.nil_append,Sf.St.A,V.A,V.cells] at *
 have w1:IntKind.i64.wrap ((ad.length:Int)+dp.length)=(ad.length:Int)+dp.length:=wrap64 (by omega) (by omega)
 have w2:IntKind.i64.wrap ((ad.length:Int)+dp.length+ty.length)=(ad.length:Int)+dp.length+ty.length:=wrap64 (by omega) (by omega)
 have w3:IntKind.i64.wrap ((ad.length:Int)+dp.length+ty.length+tk.length)=(ad.length:Int)+dp.length+ty.length+tk.length:=wrap64 (by omega) (by omega)
 have w4:IntKind.i64.wrap ((ad.length:Int)+dp.length+ty.length+tk.length+a1.length)=(ad.length:Int)+dp.length+ty.length+tk.length+a1.length:=wrap64 (by omega) (by omega)
 have w5:IntKind.i64.wrap ((ad.length:Int)+dp.length+ty.length+tk.length+a1.length+a2.length)=(ad.length:Int)+dp.length+ty.length+tk.length+a1.length+a2.length:=wrap64 (by omega) (by omega)
 have w6:IntKind.i64.wrap ((ad.length:Int)+dp.length+ty.length+tk.length+a1.length+a2.length+a3.length)=(ad.length:Int)+dp.length+ty.length+tk.length+a1.length+a2.length+a3.length:=wrap64 (by omega) (by omega)
 have w7:IntKind.i64.wrap ((ad.length:Int)+dp.length+ty.length+tk.length+a1.length+a2.length+a3.length+a4.length)=(ad.length:Int)+dp.length+ty.length+tk.length+a1.length+a2.length+a3.length+a4.length:=wrap64 (by omega) (by omega)
 obtain ⟨N,hN⟩:∃ N,(ad.length:Int)+dp.length+ty.length+tk.length+a1.length+a2.length+a3.length+a4.length=N:=⟨_,rfl⟩
 have hN0:0≤N∧N≤16000000:=by omega
 have w7:IntKind.i64.wrap ((ad.length:Int)+dp.length+ty.length+tk.length+a1.length+a2.length+a3.length+a4.length)=N:=w7.trans hN
 rw [hN]
 have li:=strsA_length ds
 refine pcall ?_ rfl (by simp [A.pure,A.data]) h
 refine acall_of mixedT h_jlight (by simp [c_jlight]) ?_
 dsimp only [c_jlight]
 refine runx0 (ai w1 (ai w2 (ai w3 (ai w4 (ai w5 (ai w6 w7)))))) ti ?_
 obtain ⟨D,hD⟩:∃ D,lsum ds N=D:=⟨_,rfl⟩
 rw [hD]
 refine awp_loop (fun m ts hh=>∃ (j:Nat) (n:Int),m=ds.length - j∧j≤ds.length∧hh=⟨[.cells 38 [.int .i64 kd,.str lin,.int .i64 ser,.sl 13 .no (ins.map Sf.Inst.cells),.sl 3 .no (ps.map Sf.Pend.cells),.sl 7 .no (os.map Sf.Outp.cells),.int .i64 st,.int .i64 op,.str ad,.str dp,.str ty,.str tk,.int .i64 er,.str a1,.str a2,.str a3,.str a4,.int .i64 k,.int .i64 nn,.str ss,.sl 5 .no (V.cellss is),.sl 1 .no (strsA ks),.int .i64 v,.bool tn,.bool fi,.sl 1 .no (strsA ds)]],[]⟩∧lsum (ds.drop j) n=D∧0≤n∧n≤16000000∧(ts 1 = .ptr 0 0∧ts 3 = .int .i64 n∧ts 4 = .int .i64 (j:Nat))) ds.length ?_ ?_
 ·exact ⟨0,N,rfl,Nat.zero_le _,rfl,hD,hN0.1,hN0.2,by (exact inv0 (ai w1 (ai w2 (ai w3 (ai w4 (ai w5 (ai w6 w7)))))))⟩
 rintro m ts hh ⟨j,n,rfl,hj,rfl,hs,hn0,hn1,ht⟩
 rcases Nat.lt_or_ge j ds.length with hlt | hge
 rotate_left
 ·have hf:¬ (j:Int) < (ds.length:Int):=by omega
  rw [List.drop_of_length_le hge] at hs
  have hs:n=D:=hs
  subst hs
  refine runx0 (ai ht (ai li hf)) (ai c1 (ai c2 ti)) ?_
  exact ⟨_,le_refl _,rfl⟩
 have hf':=rowj_at (fun s:List UInt8=>[A.str s]) ds j hlt (by omega)
 have hf:(strsA ds).length=ds.length∧(j:Int) < (ds.length:Int)∧(0:Int)≤(j:Int)∧(strsA ds).getD j []=[.str ds[j]]∧IntKind.i64.wrap ((j:Int)+1)=((j+1:Nat):Int):=hf'
 clear hf'
 rw [List.drop_eq_getElem_cons hlt] at hs
 unfold lsum at hs
 have hds:=d2 _ (List.getElem_mem hlt)
 obtain ⟨s,hs'⟩:∃ s,ds[j]=s:=⟨_,rfl⟩
 rw [hs'] at hf hs hds
 by_cases hle:n≤20000
 ·rw [if_pos hle] at hs
  have u1:IntKind.i64.wrap (n+1)=n+1:=wrap64 (by omega) (by omega)
  have u2:IntKind.i64.wrap (n+1+s.length)=n+1+s.length:=wrap64 (by omega) (by omega)
  refine runx0 (ai ht (ai hf (ai hle (ai u1 u2)))) ti ?_
  exact ⟨_,by omega,j+1,n+1+s.length,rfl,by omega,rfl,hs,by omega,by omega,by (exact inv0 (ai ht hf))⟩
 ·rw [if_neg hle] at hs
  subst hs
  refine runx0 (ai ht (ai hf hle)) ti ?_
  exact ⟨_,le_refl _,by simp [hle,tupA]⟩
end AX
end Go.Proofs.YtahmpiioegemaaaGreatDoor

namespace Go.Proofs.YtahmpiioegemaaaGreatDoor
open Go.RowKit Go.ChangeShapes Go.WideShapes
def Sf.St.bulkD (s:Sf.St):Nat:=s.toD.bulk
namespace AX
section
variable {H:Type} {enc:TypeId×Value→H} {w:World} {base:Nat} {spare:Nat→Bool} {held:Bool} {r:Reach} {b0:Nat} {v:Value} {d:DataW H} {p:List MemPlace}
end
end AX
end Go.Proofs.YtahmpiioegemaaaGreatDoor

namespace Go.Proofs.YtahmpiioegemaaaGreatDoor
open Go.RowKit
namespace AX
inductive T where
 | z
 | n (l:T) (v:A) (r:T)
def T.get:T→Nat→A
 | .z,_ => .tup []
 | .n l v r,i=>bif i.beq 0 then v else bif (i % 2).beq 1 then l.get (i / 2) else r.get (i / 2 - 1)
def T.set:T→Nat→A→Option T
 | .z,_,_=>none
 | .n l v r,i,x=>bif i.beq 0 then some (.n l x r) else bif (i % 2).beq 1 then (match l.set (i / 2) x with | some l'=>some (.n l' v r) | none=>none) else (match r.set (i / 2 - 1) x with | some r'=>some (.n l v r') | none=>none)
def T.full:Nat→T
 | 0 => .z
 | d+1 => .n (T.full d) (.tup []) (T.full d)
theorem T.get_full:∀ (d i:Nat),(T.full d).get i = .tup []
 | 0,i=>rfl
 | d+1,i=>by
  simp only [T.full,T.get,T.get_full d]
  cases i.beq 0 <;> cases (i % 2).beq 1 <;> rfl
theorem beq_iff {i j:Nat}:i.beq j=true↔i=j:=⟨Nat.eq_of_beq_eq_true,fun h=>by subst h; exact Nat.beq_refl i⟩
theorem beq_no {i j:Nat}:i.beq j=false↔i≠j:=by rw [←Bool.not_eq_true,beq_iff]
theorem T.get_set:∀ {t t':T} {i:Nat} {x:A},t.set i x=some t'→∀ j,t'.get j=if j=i then x else t.get j
 | .z,t',i,x,h,j=>by cases h
 | .n l v r,t',i,x,h,j=>by
  unfold T.set at h
  cases h0:i.beq 0 with
  | true =>
   rw [h0] at h; injection h with h; subst h
   have:=beq_iff.1 h0; subst this
   simp only [T.get]
   cases hj:j.beq 0 with
   | true=>rw [if_pos (beq_iff.1 hj)]; rfl
   | false=>rw [if_neg (beq_no.1 hj)]; rfl
  | false =>
   have n0:=beq_no.1 h0
   rw [h0] at h
   cases h1:(i % 2).beq 1 with
   | true =>
    have m1:=beq_iff.1 h1
    rw [h1] at h
    simp only [cond_false,cond_true] at h
    split at h
    ·next l' hl =>
     injection h with h; subst h
     have ih:=T.get_set hl
     simp only [T.get]
     cases hj:j.beq 0 with
     | true=>rw [if_neg (by have:=beq_iff.1 hj; omega)]; rfl
     | false =>
      have nj:=beq_no.1 hj
      cases hm:(j % 2).beq 1 with
      | true =>
       have:=beq_iff.1 hm
       simp only [cond_false,cond_true,ih]
       by_cases e:j=i
       ·subst e; simp
       ·rw [if_neg (by omega),if_neg e]
      | false =>
       have:=beq_no.1 hm
       rw [if_neg (by intro e; subst e; omega)]; rfl
    ·cases h
   | false =>
    have m1:=beq_no.1 h1
    rw [h1] at h
    simp only [cond_false,cond_true] at h
    split at h
    ·next r' hr =>
     injection h with h; subst h
     have ih:=T.get_set hr
     simp only [T.get]
     cases hj:j.beq 0 with
     | true=>rw [if_neg (by have:=beq_iff.1 hj; omega)]; rfl
     | false =>
      have nj:=beq_no.1 hj
      cases hm:(j % 2).beq 1 with
      | true =>
       have:=beq_iff.1 hm
       rw [if_neg (by intro e; subst e; omega)]; rfl
      | false =>
       have:=beq_no.1 hm
       simp only [cond_false,ih]
       by_cases e:j=i
       ·subst e; simp
       ·rw [if_neg (by omega),if_neg e]
    ·cases h
def T.put (t:T) (d:Option Nat) (v:A):Option T:=
 match d with
 | some d=>t.set d v
 | none=>some t
theorem T.put_ok {t t':T} {d:Option Nat} {v:A} (h:t.put d v=some t'):t'.get=AX.put t.get d v:=by
 cases d with
 | none=>injection h with h; subst h; rfl
 | some d=>exact funext fun j=>T.get_set h j
def T.initF:List A→Nat→T→Option T
 | [],_,t=>some t
 | a::l,i,t=>match t.set i a with
  | some t'=>T.initF l (i+1) t'
  | none=>none
theorem T.initF_ok:∀ {l:List A} {i:Nat} {t t':T},T.initF l i t=some t'→∀ j,t'.get j=if j < i then t.get j else if j < i+l.length then l.getD (j - i) (.tup []) else t.get j
 | [],i,t,t',h,j=>by
  injection h with h; subst h
  split
  ·rfl
  ·rw [if_neg (by simpa using by omega)]
 | a::l,i,t,t',h,j=>by
  unfold T.initF at h
  split at h
  ·next t1 h1 =>
   rw [T.initF_ok h j,T.get_set h1]
   by_cases e:j=i
   ·subst e; simp
   ·by_cases e2:j < i
    ·rw [if_pos (by omega),if_neg e,if_pos e2]
    ·rw [if_neg (by omega),if_neg e2,if_neg e]
     have:j - i=(j - (i+1))+1:=by omega
     rw [this,List.getD_cons_succ]
     simp only [List.length_cons]
     by_cases e3:j < i+1+l.length
     ·rw [if_pos e3,if_pos (by omega)]
     ·rw [if_neg e3,if_neg (by omega)]
  ·cases h
def T.init (args:List A):Option T:=T.initF args 0 (T.full 10)
theorem T.init_ok {args:List A} {t:T} (h:T.init args=some t):t.get=initTs args:=by
 funext j
 rw [T.initF_ok h j,if_neg (by omega),T.get_full]
 show _=args.getD j _
 split
 ·simp
 ·rw [List.getD_eq_getElem?_getD,List.getElem?_eq_none (by omega)]; rfl
def fN:Nat→Option Nat
 | 0=>some 0
 | m+1=>some (m+1)
theorem fN_ok {n m:Nat} (h:fN n=some m):m=n:=by cases n <;> (injection h with h; exact h.symm)
def fI:Int→Option Int
 | .ofNat n=>match fN n with | some n=>some (.ofNat n) | none=>none
 | .negSucc n=>match fN n with | some n=>some (.negSucc n) | none=>none
theorem fI_ok {n m:Int} (h:fI n=some m):m=n:=by
 cases n <;> (simp only [fI] at h; split at h) <;> first | (next e=>injection h with h; rw [←h,fN_ok e]) | cases h
def mapO {α β:Type} (f:α→Option β):List α→Option (List β)
 | []=>some []
 | x::l=>match f x with
  | some y=>(match mapO f l with | some m=>some (y::m) | none=>none)
  | none=>none
theorem mapO_ok {α β:Type} {f:α→Option β} {g:α→β} (hf:∀ x y,f x=some y→y=g x):∀ {l:List α} {m:List β},mapO f l=some m→m=l.map g
 | [],m,h=>by injection h with h; exact h.symm
 | x::l,m,h=>by
  unfold mapO at h
  split at h
  ·next y e =>
   split at h
   ·next m' e' =>
    injection h with h
    rw [←h,hf x y e,mapO_ok hf e',List.map_cons]
   ·cases h
  ·cases h
theorem mapO_id {α:Type} {f:α→Option α} (hf:∀ x y,f x=some y→y=x) {l m:List α} (h:mapO f l=some m):m=l:=by rw [mapO_ok (g:=id) hf h,List.map_id]
def fU (u:UInt8):Option UInt8:=match fN u.toNat with | some n=>some (UInt8.ofNat n) | none=>none
theorem fU_ok (u v:UInt8) (h:fU u=some v):v=u:=by
 unfold fU at h
 split at h
 ·next e=>injection h with h; rw [←h,fN_ok e]; simp
 ·cases h
def fH:A→Option A
 | .int k n=>some (.int k n)
 | .str l=>some (.str l)
 | .bool b=>(match b with | true=>some (.bool true) | false=>some (.bool false))
 | .sl W o rows=>some (.sl W o rows)
 | .ptr i off=>some (.ptr i off)
 | .vptr c=>some (.vptr c)
 | .nilp=>some .nilp
 | .nili=>some .nili
 | .nilf=>some .nilf
 | .nilm=>some .nilm
 | .mp i=>some (.mp i)
 | .bs i W n=>some (.bs i W n)
 | .fn f c=>some (.fn f c)
 | .agg l=>some (.agg l)
 | .tup l=>some (.tup l)
theorem fH_ok (x y:A) (h:fH x=some y):y=x:=by
 cases x <;> first | (injection h with h; exact h.symm) | (simp only [fH] at h; split at h <;> (injection h with h; rw [←h]))
def fO:Own→Option Own
 | .no=>some .no
 | .nil=>some .nil
 | .tok t=>match fN t with | some t=>some (.tok t) | none=>none
theorem fO_ok {x y:Own} (h:fO x=some y):y=x:=by
 cases x with
 | tok t=>(simp only [fO] at h; split at h) <;> first | (next e=>injection h with h; rw [←h,fN_ok e]) | cases h
 | _=>injection h with h; exact h.symm
def fA:A→Option A
 | .int k n=>(match fI n with | some n=>some (.int k n) | none=>none)
 | .str l=>(match mapO fU l with | some l=>some (.str l) | none=>none)
 | .bool b=>(match b with | true=>some (.bool true) | false=>some (.bool false))
 | .sl W o rows=>(match fN W,fO o,mapO (mapO fH) rows with | some W,some o,some rows=>some (.sl W o rows) | _,_,_=>none)
 | .ptr i off=>(match fN i,fN off with | some i,some off=>some (.ptr i off) | _,_=>none)
 | .vptr c=>(match mapO fH c with | some c=>some (.vptr c) | none=>none)
 | .mp i=>(match fN i with | some i=>some (.mp i) | none=>none)
 | .bs i W n=>(match fN i,fN W,fN n with | some i,some W,some n=>some (.bs i W n) | _,_,_=>none)
 | .fn f c=>(match mapO fH c with | some c=>some (.fn f c) | none=>none)
 | .agg l=>(match mapO fH l with | some c=>some (.agg c) | none=>none)
 | .tup l=>(match mapO fH l with | some c=>some (.tup c) | none=>none)
 | x=>fH x
theorem fA_ok (x y:A) (h:fA x=some y):y=x:=by
 cases x with
 | int k n=>(simp only [fA] at h; split at h) <;> first | (next e=>injection h with h; rw [←h,fI_ok e]) | cases h
 | str l=>(simp only [fA] at h; split at h) <;> first | (next e=>injection h with h; rw [←h,mapO_id fU_ok e]) | cases h
 | bool b=>simp only [fA] at h; split at h <;> (injection h with h; rw [←h])
 | sl W o rows=>(simp only [fA] at h; split at h) <;> first | (next e1 e2 e3=>injection h with h; rw [←h,fN_ok e1,fO_ok e2,mapO_id (fun _ _ e=>mapO_id fH_ok e) e3]) | cases h
 | ptr i off=>(simp only [fA] at h; split at h) <;> first | (next e1 e2=>injection h with h; rw [←h,fN_ok e1,fN_ok e2]) | cases h
 | vptr c=>(simp only [fA] at h; split at h) <;> first | (next e=>injection h with h; rw [←h,mapO_id fH_ok e]) | cases h
 | mp i=>(simp only [fA] at h; split at h) <;> first | (next e=>injection h with h; rw [←h,fN_ok e]) | cases h
 | bs i W n=>(simp only [fA] at h; split at h) <;> first | (next e1 e2 e3=>injection h with h; rw [←h,fN_ok e1,fN_ok e2,fN_ok e3]) | cases h
 | fn f c=>(simp only [fA] at h; split at h) <;> first | (next e=>injection h with h; rw [←h,mapO_id fH_ok e]) | cases h
 | agg l=>(simp only [fA] at h; split at h) <;> first | (next e=>injection h with h; rw [←h,mapO_id fH_ok e]) | cases h
 | tup l=>(simp only [fA] at h; split at h) <;> first | (next e=>injection h with h; rw [←h,mapO_id fH_ok e]) | cases h
 | _=>exact fH_ok _ _ h
def fR:A→Option A
 | .tup l=>(match mapO fA l with | some c=>some (.tup c) | none=>none)
 | x=>fA x
theorem fR_ok (x y:A) (h:fR x=some y):y=x:=by
 cases x with
 | tup l=>(simp only [fR] at h; split at h) <;> first | (next e=>injection h with h; rw [←h,mapO_id fA_ok e]) | cases h
 | _=>exact fA_ok _ _ h
def snoc {α:Type}:List α→α→Option (List α)
 | [],x=>some [x]
 | y::l,x=>match snoc l x with
  | some m=>some (y::m)
  | none=>none
theorem snoc_ok {α:Type} {x:α}:∀ {l m:List α},snoc l x=some m→m=l++[x]
 | [],m,h=>by injection h with h; exact h.symm
 | y::l,m,h=>by
  unfold snoc at h
  split at h
  ·next e=>injection h with h; rw [←h,snoc_ok e]; rfl
  ·cases h
def setO {α:Type}:List α→Nat→α→Option (List α)
 | [],_,_=>none
 | y::l,0,x=>some (x::l)
 | y::l,i+1,x=>match setO l i x with
  | some m=>some (y::m)
  | none=>none
theorem setO_ok {α:Type} {x:α}:∀ {l m:List α} {i:Nat},setO l i x=some m→m=l.set i x
 | [],m,i,h=>by cases i <;> cases h
 | y::l,m,0,h=>by injection h with h; exact h.symm
 | y::l,m,i+1,h=>by
  unfold setO at h
  split at h
  ·next e=>injection h with h; rw [←h,setO_ok e]; rfl
  ·cases h
def all2 {α:Type} (p:α→α→Bool):List α→List α→Bool
 | [],[]=>true
 | x::l,y::m=>p x y&&all2 p l m
 | _,_=>false
theorem all2_ok {α:Type} {p:α→α→Bool} (hp:∀ x y,p x y=true→x=y):∀ {l m:List α},all2 p l m=true→l=m
 | [],[],_=>rfl
 | x::l,y::m,h=>by
  simp only [all2,Bool.and_eq_true] at h
  rw [hp x y h.1,all2_ok hp h.2]
 | [],y::m,h=>by cases h
 | x::l,[],h=>by cases h
def eqo:Own→Own→Bool
 | .no,.no=>true
 | .nil,.nil=>true
 | .tok a,.tok b=>a.beq b
 | _,_=>false
theorem eqo_ok {a b:Own} (h:eqo a b=true):a=b:=by
 cases a <;> cases b <;> first | rfl | cases h | (simp only [eqo,beq_iff] at h; rw [h])
def eqb:Nat→A→A→Bool
 | 0,_,_=>false
 | d+1,.int k n,.int k' n'=>decide (k=k')&&decide (n=n')
 | d+1,.str a,.str b=>decide (a=b)
 | d+1,.bool a,.bool b=>decide (a=b)
 | d+1,.sl W o r,.sl W' o' r'=>W.beq W'&&eqo o o'&&all2 (all2 (eqb d)) r r'
 | d+1,.ptr i o,.ptr i' o'=>i.beq i'&&o.beq o'
 | d+1,.vptr c,.vptr c'=>all2 (eqb d) c c'
 | d+1,.nilp,.nilp=>true
 | d+1,.nili,.nili=>true
 | d+1,.nilf,.nilf=>true
 | d+1,.nilm,.nilm=>true
 | d+1,.mp i,.mp j=>i.beq j
 | d+1,.bs i W n,.bs i' W' n'=>i.beq i'&&W.beq W'&&n.beq n'
 | d+1,.agg l,.agg m=>all2 (eqb d) l m
 | d+1,.tup l,.tup m=>all2 (eqb d) l m
 | _,_,_=>false
theorem eqb_ok:∀ (d:Nat) (x y:A),eqb d x y=true→x=y
 | 0,x,y,h=>by cases h
 | d+1,x,y,h=>by
  have ih:=eqb_ok d
  cases x <;> cases y <;> simp only [eqb,Bool.false_eq_true,Bool.and_eq_true,decide_eq_true_eq,beq_iff] at h <;> first | (obtain ⟨rfl,rfl⟩:=h; rfl) | (subst h; rfl) | (obtain ⟨⟨rfl,rfl⟩,rfl⟩:=h; rfl) | (rw [all2_ok ih h]) | (obtain ⟨⟨rfl,h1⟩,h2⟩:=h; rw [eqo_ok h1,all2_ok (fun _ _ e=>all2_ok ih e) h2]) | exact rfl
inductive EB where
 | cells (T:TypeId) (l:List A)
 | map (es:List (Int×A)) (clock:Nat)
 | row (T:TypeId) (l:List A)
 | obj (k:Nat) (d:A)
structure EH where
 b:List EB
 t:List (TypeId×Nat×Nat)
abbrev Tab:=Nat→A→Blk
def EB.blk (tab:Tab):EB→Blk
 | .cells T l => .cells T l
 | .map es c => .map es c
 | .row T l => .row T l
 | .obj k d=>tab k d
def EH.abs (tab:Tab) (h:EH):Hp:=⟨h.b.map (EB.blk tab),h.t⟩
theorem abs_get {tab:Tab} {h:EH} {i:Nat} {x:EB} (e:h.b[i]?=some x):(h.abs tab).b[i]?=some (x.blk tab):=by
 simp [EH.abs,e]
theorem abs_len {tab:Tab} (h:EH):(h.abs tab).b.length=h.b.length:=by simp [EH.abs]
theorem abs_set {tab:Tab} {h:EH} {i:Nat} {x:EB} {b':List EB} (e:setO h.b i x=some b'):(EH.abs tab ⟨b',h.t⟩)=⟨(h.abs tab).b.set i (x.blk tab),(h.abs tab).t⟩:=by
 rw [setO_ok e]; simp [EH.abs,List.map_set]
theorem abs_snoc {tab:Tab} {h:EH} {x:EB} {b':List EB} (e:snoc h.b x=some b'):(EH.abs tab ⟨b',h.t⟩)=⟨(h.abs tab).b++[x.blk tab],(h.abs tab).t⟩:=by
 rw [snoc_ok e]; simp [EH.abs]
def nbE (h:EH) (x:EB) (mk:Nat→A):Option (A×Option EH):=
 match fN h.b.length,snoc h.b x with
 | some n,some b=>some (mk n,some ⟨b,h.t⟩)
 | _,_=>none
theorem nbE_ok {tab:Tab} {h:EH} {x:EB} {mk:Nat→A} {v:A} {oh:Option EH} (e:nbE h x mk=some (v,oh)):v=mk (h.abs tab).b.length∧(oh.getD h).abs tab=⟨(h.abs tab).b++[x.blk tab],(h.abs tab).t⟩:=by
 unfold nbE at e
 split at e
 ·next n b e1 e2 =>
  injection e with e; injection e with e3 e4; subst e3; subst e4
  exact ⟨by rw [fN_ok e1,abs_len],abs_snoc e2⟩
 ·cases e
def putE (h:EH) (i:Nat) (x:EB):Option (A×Option EH):=
 match setO h.b i x with
 | some b=>some (.tup [],some ⟨b,h.t⟩)
 | none=>none
theorem putE_ok {tab:Tab} {h:EH} {x:EB} {i:Nat} {v:A} {oh:Option EH} (e:putE h i x=some (v,oh)):v = .tup []∧(oh.getD h).abs tab=⟨(h.abs tab).b.set i (x.blk tab),(h.abs tab).t⟩:=by
 unfold putE at e
 split at e
 ·next b e1 =>
  injection e with e; injection e with e3 e4; subst e3; subst e4
  exact ⟨rfl,abs_set e1⟩
 ·cases e
def storeE (h:EH) (n:Nat) (x:A):A→Option (A×Option EH)
 | .ptr i o=>(match h.b[i]? with
  | some (.cells T l)=>if x.cells.length=n∧o+n≤l.length∧x.cells.all A.one=true then (match mapO fH (setCells l o x.cells) with | some l'=>putE h i (.cells T l') | none=>none) else none
  | some (.row T l)=>if x.cells.length=n∧o+n≤l.length∧x.cells.all A.one=true then (match mapO fH (setCells l o x.cells) with | some l'=>putE h i (.row T l') | none=>none) else none
  | _=>none)
 | _=>none
theorem storeE_ok {tab:Tab} {h:EH} {n:Nat} {x p v:A} {oh:Option EH} (e:storeE h n x p=some (v,oh)):v = .tup []∧storeA (h.abs tab) n x p=some ((oh.getD h).abs tab):=by
 unfold storeE at e
 split at e
 ·next i o =>
  split at e
  ·next T l hb =>
   split at e
   ·next hc =>
    split at e
    ·next l' e1 =>
     obtain ⟨h1,h2⟩:=putE_ok (tab:=tab) e
     refine ⟨h1,?_⟩
     unfold storeA
     simp only [abs_get hb,EB.blk]
     rw [if_pos hc,h2,mapO_id fH_ok e1]; rfl
    ·cases e
   ·cases e
  ·next T l hb =>
   split at e
   ·next hc =>
    split at e
    ·next l' e1 =>
     obtain ⟨h1,h2⟩:=putE_ok (tab:=tab) e
     refine ⟨h1,?_⟩
     unfold storeA
     simp only [abs_get hb,EB.blk]
     rw [if_pos hc,h2,mapO_id fH_ok e1]; rfl
    ·cases e
   ·cases e
  ·cases e
 ·cases e
def fP (e:Int×A):Option (Int×A):=match e with | (n,x)=>some (n,x)
theorem fP_ok (x y:Int×A) (h:fP x=some y):y=x:=by injection h with h; exact h.symm
def mapE (h:EH) (g:List (Int×A)→Nat→List (Int×A)×Nat):A→Option (A×Option EH)
 | .mp i=>(match h.b[i]? with
  | some (.map es c)=>(match mapO fP (g es c).1,fN (g es c).2 with | some es',some c'=>putE h i (.map es' c') | _,_=>none)
  | _=>none)
 | _=>none
theorem mapE_ok {tab:Tab} {h:EH} {g:List (Int×A)→Nat→List (Int×A)×Nat} {m v:A} {oh:Option EH} (e:mapE h g m=some (v,oh)):v = .tup []∧∃ i es c,m = .mp i∧(h.abs tab).b[i]?=some (.map es c)∧(oh.getD h).abs tab=⟨(h.abs tab).b.set i (.map (g es c).1 (g es c).2),(h.abs tab).t⟩:=by
 unfold mapE at e
 split at e
 ·next i =>
  split at e
  ·next es c hb =>
   split at e
   ·next es' c' e1 e2 =>
    obtain ⟨h1,h2⟩:=putE_ok (tab:=tab) e
    refine ⟨h1,i,es,c,rfl,abs_get hb,?_⟩
    rw [h2,mapO_id fP_ok e1,fN_ok e2]; rfl
   ·cases e
  ·cases e
 ·cases e
def fT (x:TypeId×Nat×Nat):Option (TypeId×Nat×Nat):=
 match x with
 | (a,b,c)=>(match fN c with | some c=>some (a,b,c) | none=>none)
theorem fT_ok (x y:TypeId×Nat×Nat) (h:fT x=some y):y=x:=by
 obtain ⟨a,b,c⟩:=x
 unfold fT at h
 simp only at h
 split at h
 ·next e=>injection h with h; rw [←h,fN_ok e]
 ·cases h
def keyE (f:Int→A→Option (A×Option EH)) (m:A):A→Option (A×Option EH)
 | .int .i64 n=>f n m
 | _=>none
def opE (tab:Tab) (ev:Opd→A) (h:EH):AOp→Option (A×Option EH)
 | .mv x=>(match fH (ev x) with | some v=>some (v,none) | none=>none)
 | .alloc T z=>(match mapO fH z with | some z=>nbE h (.cells T z) (.ptr · 0) | none=>none)
 | .box T x=>(match mapO fH (ev x).cells with | some z=>nbE h (.cells T z) (.ptr · 0) | none=>none)
 | .mkr E W ps=>(match rowsR ev W ps with
  | some r=>(match mapO fH r.flatten,fN r.length with | some z,some n=>nbE h (.row E z) (.bs · W n) | _,_=>none)
  | none=>none)
 | .mkl E W ps=>(match rowsA ev W ps with
  | some r=>(match mapO (mapO fH) r,fN h.t.length,fN r.length with
   | some r',some k,some n=>(match snoc h.t (E,W,n) with | some t=>some (.sl W (.tok k) r',some ⟨h.b,t⟩) | none=>none)
   | _,_,_=>none)
  | none=>none)
 | .store n p x=>storeE h n (ev x) (ev p)
 | .app E W by_ x y=>(match appA ⟨[],h.t⟩ E W by_ (ev x) (ev y) with
  | some (v,h')=>(match fA v,mapO fT h'.t with | some v,some t=>some (v,some ⟨h.b,t⟩) | _,_=>none)
  | none=>none)
 | .mkmap=>nbE h (.map [] 0) .mp
 | .mset m k x=>keyE (fun n m=>mapE h (fun es c=>(mput n (ev x) es,mclock n es c)) m) (ev m) (ev k)
 | .mdel m k=>keyE (fun n m=>mapE h (fun es c=>(merase n es,c)) m) (ev m) (ev k)
 | .mclr m=>mapE h (fun es c=>([],c)) (ev m)
 | .load false n p=>(match loadA (h.abs tab) false n (ev p) with | some v=>(match fH v with | some v=>some (v,none) | none=>none) | none=>none)
 | .pick c a b=>(match ev c with | .bool t=>(match fH (bif t then ev a else ev b) with | some v=>some (v,none) | none=>none) | _=>none)
 | .extract x i=>(match ev x with | .tup l=>(match l[i]? with | some v=>(match fH v with | some v=>some (v,none) | none=>none) | none=>none) | _=>none)
 | .call ..=>none
 | .callv ..=>none
 | op=>match astep ev (h.abs tab) op with
  | some (v,_)=>(match fA v with | some v=>some (v,none) | none=>none)
  | none=>none
theorem app_frame {bs:List Blk} {t:List (TypeId×Nat×Nat)} {E:TypeId} {W b:Nat} {x y v:A} {h':Hp} (h:appA ⟨[],t⟩ E W b x y=some (v,h')):appA ⟨bs,t⟩ E W b x y=some (v,⟨bs,h'.t⟩):=by
 unfold appA at h ⊢
 split at h
 ·split at h
  ·next hc=>injection h with h; injection h with h1 h2; subst h1; subst h2; simp only [if_pos hc]
  ·next hc =>
   split at h
   ·next hc2=>injection h with h; injection h with h1 h2; subst h1; subst h2; simp only [if_neg hc,if_pos hc2]
   ·cases h
 ·split at h
  ·next hc=>injection h with h; injection h with h1 h2; subst h1; subst h2; simp only [if_pos hc]
  ·next hc =>
   split at h
   ·next hc2=>injection h with h; injection h with h1 h2; subst h1; subst h2; simp only [if_neg hc,if_pos hc2]
   ·cases h
 ·cases h
theorem opE_ok {tab:Tab} {ev:Opd→A} {h:EH} {op:AOp} {v:A} {oh:Option EH} (e:opE tab ev h op=some (v,oh)):op.isCall=false∧astep ev (h.abs tab) op=some (v,(oh.getD h).abs tab):=by
 have fin:∀ {w:A} {f:A→Option A},(∀ x y,f x=some y→y=x)→(match f w with | some v=>some (v,(none:Option EH)) | none=>none)=some (v,oh)→v=w∧oh=none:=by
  intro w f hf h1
  split at h1
  ·next e1=>injection h1 with h1; injection h1 with h2 h3; exact ⟨h2 ▸ hf _ _ e1,h3.symm⟩
  ·cases h1
 have gen:astep ev (h.abs tab) op≠none→(∀ v' h'',astep ev (h.abs tab) op=some (v',h'')→h''=h.abs tab)→(match astep ev (h.abs tab) op with | some (v,_)=>(match fA v with | some v=>some (v,(none:Option EH)) | none=>none) | none=>none)=some (v,oh)→astep ev (h.abs tab) op=some (v,(oh.getD h).abs tab):=by
  intro _ hq h1
  split at h1
  ·next v' h' e1 =>
   obtain ⟨rfl,rfl⟩:=fin fA_ok h1
   rw [e1,hq _ _ e1]; rfl
  ·cases h1
 have quiet:(match astep ev (h.abs tab) op with | some (v,_)=>(match fA v with | some v=>some (v,(none:Option EH)) | none=>none) | none=>none)=some (v,oh)→(∀ v' h'',astep ev (h.abs tab) op=some (v',h'')→h''=h.abs tab)→astep ev (h.abs tab) op=some (v,(oh.getD h).abs tab):=by
  intro h1 hq
  exact gen (fun hn=>by rw [hn] at h1; cases h1) hq h1
 cases op with
 | call=>cases e
 | callv=>cases e
 | mv x =>
  obtain ⟨rfl,rfl⟩:=fin fH_ok e
  exact ⟨rfl,rfl⟩
 | alloc T z =>
  simp only [opE] at e
  split at e
  ·next z' e1 =>
   obtain ⟨h1,h2⟩:=nbE_ok (tab:=tab) e
   exact ⟨rfl,by rw [h1,h2,mapO_id fH_ok e1]; rfl⟩
  ·cases e
 | box T x =>
  simp only [opE] at e
  split at e
  ·next z' e1 =>
   obtain ⟨h1,h2⟩:=nbE_ok (tab:=tab) e
   exact ⟨rfl,by rw [h1,h2,mapO_id fH_ok e1]; rfl⟩
  ·cases e
 | mkmap =>
  obtain ⟨h1,h2⟩:=nbE_ok (tab:=tab) e
  exact ⟨rfl,by rw [h1,h2]; rfl⟩
 | mkr E W ps =>
  simp only [opE] at e
  split at e
  ·next r hr =>
   split at e
   ·next z n e1 e2 =>
    obtain ⟨h1,h2⟩:=nbE_ok (tab:=tab) e
    exact ⟨rfl,by rw [h1,h2,mapO_id fH_ok e1,fN_ok e2]; simp only [astep,hr]; rfl⟩
   ·cases e
  ·cases e
 | mkl E W ps =>
  simp only [opE] at e
  split at e
  ·next r hr =>
   split at e
   ·next r' k n e1 e2 e3 =>
    split at e
    ·next t e4 =>
     injection e with e; injection e with h1 h2; subst h1; subst h2
     exact ⟨rfl,by
      simp only [astep,hr,Option.map_some,Option.getD_some]
      rw [mapO_id (fun _ _ e=>mapO_id fH_ok e) e1,fN_ok e2]
      congr 2
      simp only [EH.abs,Hp.mk.injEq,true_and]
      rw [snoc_ok e4,fN_ok e3]⟩
    ·cases e
   ·cases e
  ·cases e
 | store n p x =>
  obtain ⟨h1,h2⟩:=storeE_ok (tab:=tab) e
  exact ⟨rfl,by simp only [astep,h2,h1]; rfl⟩
 | app E W b x y =>
  simp only [opE] at e
  split at e
  ·next v' h' e1 =>
   split at e
   ·next v2 t e2 e3 =>
    injection e with e; injection e with h1 h2; subst h1; subst h2
    refine ⟨rfl,?_⟩
    simp only [astep]
    have:=app_frame (bs:=(h.abs tab).b) e1
    rw [show h.abs tab=⟨(h.abs tab).b,h.t⟩ from rfl,this,fA_ok _ _ e2,mapO_id fT_ok e3]
    rfl
   ·cases e
  ·cases e
 | mset m k x =>
  simp only [opE] at e
  unfold keyE at e
  split at e
  ·next n hk =>
   obtain ⟨h1,i,es,c,h2,h3,h4⟩:=mapE_ok (tab:=tab) e
   refine ⟨rfl,?_⟩
   simp only [astep,h2,hk,msetA,h3,h1,h4]
   rfl
  ·cases e
 | mdel m k =>
  simp only [opE] at e
  unfold keyE at e
  split at e
  ·next n hk =>
   obtain ⟨h1,i,es,c,h2,h3,h4⟩:=mapE_ok (tab:=tab) e
   refine ⟨rfl,?_⟩
   simp only [astep,h2,hk,mdelA,h3,h1,h4]
   rfl
  ·cases e
 | mclr m =>
  simp only [opE] at e
  obtain ⟨h1,i,es,c,h2,h3,h4⟩:=mapE_ok (tab:=tab) e
  refine ⟨rfl,?_⟩
  simp only [astep,h2,mclrA,h3,h1,h4]
  rfl
 | load g n p =>
  refine ⟨rfl,?_⟩
  cases g with
  | false =>
   simp only [opE] at e
   split at e
   ·next v' e1 =>
    obtain ⟨rfl,rfl⟩:=fin fH_ok e
    simp only [astep,e1]; rfl
   ·cases e
  | true =>
   refine quiet e fun v' h'' h1=>?_
   simp only [astep,Option.map_eq_some_iff] at h1
   obtain ⟨_,_,h1⟩:=h1
   injection h1 with _ h1; exact h1.symm
 | pick c a b =>
  refine ⟨rfl,?_⟩
  simp only [opE] at e
  split at e
  ·next t ht =>
   obtain ⟨rfl,rfl⟩:=fin fH_ok e
   simp only [astep,ht]
   cases t <;> rfl
  ·cases e
 | extract x i =>
  refine ⟨rfl,?_⟩
  simp only [opE] at e
  split at e
  ·next l hl =>
   split at e
   ·next v' hv =>
    obtain ⟨rfl,rfl⟩:=fin fH_ok e
    simp only [astep,hl,hv]; rfl
   ·cases e
  ·cases e
 | _ =>
  refine ⟨rfl,quiet e fun v' h'' h1=>?_⟩
  revert h1
  simp only [astep]
  repeat' split
  all_goals (intro h1; first | cases h1 | skip)
  all_goals (first | rfl | (simp only [Option.map_eq_some_iff,Prod.mk.injEq] at h1; obtain ⟨_,_,_,h1⟩:=h1; exact h1.symm) | skip)
end AX
end Go.Proofs.YtahmpiioegemaaaGreatDoor
