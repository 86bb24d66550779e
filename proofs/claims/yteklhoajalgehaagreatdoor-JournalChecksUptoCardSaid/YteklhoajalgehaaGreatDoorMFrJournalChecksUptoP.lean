/- Part of what the proof needs. -/
import Derived.Test.YteklhoajalgehaaGreatDoorMFrJournalChecksUptoD
import Derived.Test.YteklhoajalgehaaGreatDoorMFrJournalChecksUptoF
import Derived.Test.YteklhoajalgehaaGreatDoorMFrJournalChecksUptoH
import Derived.Test.YteklhoajalgehaaGreatDoorMFrJournalChecksUptoL
import Derived.Test.YteklhoajalgehaaGreatDoorMFrJournalChecksUptoM
import Derived.Test.YteklhoajalgehaaGreatDoorMFrJournalChecksUptoN
import Derived.Test.YteklhoajalgehaaGreatDoorMFrJournalChecksUptoO
import Derived.Test.YteklhoajalgehaaGreatDoorRows
import Derived.Maps.RangeRun
set_option maxHeartbeats 4000000
set_option linter.unusedSimpArgs false
set_option linter.unusedVariables false
set_option linter.unnecessarySimpa false
namespace Go.Proofs.YteklhoajalgehaaGreatDoor
open Go.RowKit Go.ChangeShapes Go.WideShapes Go.Deep
mutual
def D.bulk : D → Nat
 | .int .. => 1
 | .str l => l.length + 1
 | .bool _ => 1
 | .agg l => D.bulks l + 1
 | .sl _ l => D.bulks l + 1
def D.bulks : List D → Nat
 | [] => 0
 | d :: l => d.bulk + D.bulks l
end
theorem bulks_le {H : Type} : ∀ (l : List D) (xs : List (DataW H)),l.length = xs.length → (∀ i (hi : i < l.length) (hj : i < xs.length),l[i].bulk ≤ Rows.uptoBulk xs[i]) → D.bulks l ≤ Rows.uptoBulkAll xs
 | [],[],_,_ => by rw [D.bulks]; exact Nat.zero_le _
 | [],_ :: _,h,_ => by simp at h
 | _ :: _,[],h,_ => by simp at h
 | d :: l,x :: xs,h,hb => by
  rw [D.bulks,Rows.uptoBulkAll]
  exact Nat.add_le_add (hb 0 (by simp) (by simp)) (bulks_le l xs (by simpa using h) fun i hi hj => hb (i + 1) (Nat.succ_lt_succ hi) (Nat.succ_lt_succ hj))
section
variable {H : Type} {enc : TypeId × Value → H} {P : Program} {w : World} {base : Nat} {spare : Nat → Bool} {held : Bool} {K : List TypeId}
theorem trod_fieldsB {n : Nat} (ih : ∀ t,t ∈ K → ∀ cs x,DataW.trod enc P w base spare held n t cs = some x → ∃ d,Rd w (Old w) d cs ∧ Conf P d t ∧ d.bulk ≤ Rows.uptoBulk x.1) (cs : List Value) :
  ∀ (fs : List Field) (o tot : Nat) (ys : List (DataW H × List MemPlace)),(∀ f ∈ fs,f.type ∈ K) → flat P fs o = some tot → cs.length = tot → ys.length = fs.length →
   (∀ (i : Nat) (f : Field),fs[i]? = some f → DataW.trod enc P w base spare held n f.type ((cs.drop f.offset).take (P.cellsOf f.type)) = ys[i]?) →
   ∃ l,RdAgg w (Old w) l (cs.drop o) ∧ ConfL P l (fs.map (·.type)) ∧ D.bulks l ≤ Rows.uptoBulkAll (ys.map (·.1))
 | [],o,tot,ys,hK,hf,hc,hy,hg => by
  simp only [flat,Option.some.injEq] at hf
  exact ⟨[],by unfold RdAgg; exact List.drop_of_length_le (by omega),by unfold ConfL; rfl,by unfold D.bulks; exact Nat.zero_le _⟩
 | f :: fs,o,tot,ys,hK,hf,hc,hy,hg => by
  simp only [flat] at hf
  split at hf
  ·next hfo =>
   match ys,hy with
   | y :: ys,hy =>
    have h0:=hg 0 f rfl
    obtain ⟨d,hd,hcf,hdb⟩:=ih f.type (hK f (by simp)) _ _ h0
    obtain ⟨l,hl,hcl2,hlb⟩:=trod_fieldsB ih cs fs (o + P.cellsOf f.type) tot ys (fun g hg => hK g (by simp [hg])) hf hc (by simpa using hy) (fun i g hi => by simpa using hg (i + 1) g (by simpa using hi))
    refine ⟨d :: l,?_,?_,?_⟩
    ·unfold RdAgg
     refine ⟨_,cs.drop (o + P.cellsOf f.type),?_,by rw [hfo] at hd; exact hd,hl⟩
     rw [← List.drop_drop,List.take_append_drop]
    ·unfold ConfL
     exact ⟨f.type,fs.map (·.type),rfl,hcf,hcl2⟩
    ·rw [List.map_cons,Rows.uptoBulkAll,D.bulks]
     exact Nat.add_le_add hdb hlb
  ·cases hf
theorem trod_rdB (hP : plainAll P K = true) : ∀ (n : Nat) (t : TypeId),t ∈ K → ∀ cs x,DataW.trod enc P w base spare held n t cs = some x → ∃ d,Rd w (Old w) d cs ∧ Conf P d t ∧ d.bulk ≤ Rows.uptoBulk x.1
 | 0,t,hK,cs,x,h => by simp [DataW.trod] at h
 | n + 1,t,hK,cs,x,h => by
  have hk : plainB P K t = true:=by
   unfold plainAll at hP
   rw [List.all_eq_true] at hP
   exact hP t hK
  unfold plainB at hk
  split at hk
  ·next k hu =>
   obtain ⟨m,rfl,rfl,hw⟩:=DataW.trod_int hu h
   exact ⟨.int k m,by unfold Rd; rfl,by unfold Conf; exact ⟨hu,hw⟩,by unfold D.bulk Rows.uptoBulk; exact Nat.le_refl _⟩
  ·next hu =>
   obtain ⟨s,rfl,rfl,hs⟩:=DataW.trod_string hu h
   exact ⟨.str s.data.toList,by unfold Rd; simp,by unfold Conf; exact ⟨hu,by simpa using hs⟩,by unfold D.bulk Rows.uptoBulk; exact Nat.le_refl _⟩
  ·next hu =>
   obtain ⟨b,rfl,rfl⟩:=DataW.trod_bool hu h
   exact ⟨.bool b,by unfold Rd; rfl,by unfold Conf; exact hu,by unfold D.bulk Rows.uptoBulk; exact Nat.le_refl _⟩
  ·next fs hu =>
   rw [Bool.and_eq_true,List.all_eq_true,beq_iff_eq] at hk
   obtain ⟨xs,n',hn,rfl,hcl,hxl,hg⟩:=DataW.trod_struct hu h
   obtain rfl : n' = n:=by omega
   obtain ⟨l,hl,hcf,hlb⟩:=trod_fieldsB (fun t hK cs x h => trod_rdB hP n' t hK cs x h) cs fs.toList 0 _ xs (fun f hf => by simpa using hk.1 f hf) hk.2 hcl (by simpa using hxl) (fun i f hi => hg i f (by simpa using hi))
   exact ⟨.agg l,by unfold Rd; exact hl,by unfold Conf; exact ⟨fs,hu,hcf⟩,by rw [D.bulk,Rows.uptoBulk]; exact Nat.succ_le_succ hlb⟩
  ·next e hu =>
   rw [Bool.and_eq_true,decide_eq_true_eq] at hk
   have heK : e ∈ K:=by simpa using hk.1
   have hpos:=hk.2
   rcases DataW.trod_slice hu h with ⟨rfl,rfl⟩ | ⟨a,len,cap,elems,rest,n',hn,rfl,rfl,hb,hlc,hcm,hel,hi,_⟩
   ·exact ⟨.sl (P.cellsOf e) [],by unfold Rd; exact ⟨none,0,rfl,Nat.le_refl _,by unfold RdRow; trivial⟩,by unfold Conf; exact ⟨e,hu,rfl,by unfold ConfA; trivial,by simp⟩,by simp [D.bulk,D.bulks,Rows.uptoBulk]⟩
   ·obtain rfl : n' = n:=by omega
    have hex : ∀ i,i < len → ∃ d : D,∃ c,c.length = P.cellsOf e ∧ (∀ j,j < P.cellsOf e → w.cell? ((a.add (i * P.cellsOf e)).add j) = c[j]?) ∧ Rd w (Old w) d c ∧ Conf P d e ∧ ∀ y,elems[i]? = some y → d.bulk ≤ Rows.uptoBulk y.1:=by
     intro i hil
     have h1:=hi i hil
     have h2 : elems[i]? = some (elems[i]'(by omega)):=List.getElem?_eq_getElem (by omega)
     rw [h2] at h1
     obtain ⟨c,hc,ht⟩:=Option.bind_eq_some_iff.1 h1
     obtain ⟨d,hd,hcf,hdb⟩:=trod_rdB hP n' e heK c _ ht
     obtain ⟨_,hcl,hat⟩:=World.cells?_some hc
     exact ⟨d,c,hcl,hat,hd,hcf,fun y hy => by rw [h2] at hy; injection hy with hy; subst hy; exact hdb⟩
    haveI : Inhabited D:=⟨.bool true⟩
    obtain ⟨f,hf⟩:=choose_lt hex
    refine ⟨.sl (P.cellsOf e) ((List.range len).map f),?_,?_,?_⟩
    ·unfold Rd
     refine ⟨some a,cap,by simp,by simpa using hlc,RdRow.of _ _ _ fun k hk => ?_⟩
     have hkl : k < len:=by simpa using hk
     obtain ⟨c,hcl,hat,hrd,_⟩:=hf k hkl
     obtain ⟨c0,hcl0,hat0,_,_⟩:=hf 0 (by omega)
     obtain ⟨g,off,sp⟩:=a
     have h0:=hat0 0 hpos
     rw [List.getElem?_eq_getElem (by omega)] at h0
     have hs : sp = none:=by
      have:=(cell_there h0).1
      simpa [Addr.add] using this
     subst hs
     have h1:=hat 0 hpos
     rw [List.getElem?_eq_getElem (by omega)] at h1
     have hlt:=(cell_there h1).2
     rw [add_off,add_off] at hlt
     refine ⟨g,off,c,rfl,hlt,hcl,fun j hj => ?_,by simpa using hrd⟩
     have:=hat j hj
     rw [add_off,add_off] at this
     rw [Nat.zero_add]
     exact this
    ·unfold Conf
     exact ⟨e,hu,rfl,confA_of P e _ fun k hk => by simpa using (hf k (by simpa using hk)).choose_spec.2.2.2.1,by simp; omega⟩
    ·rw [D.bulk,Rows.uptoBulk]
     have:=bulks_le ((List.range len).map f) (elems.map (·.1)) (by simp; omega) (fun i hi hj => by
      obtain ⟨c,_,_,_,_,h9⟩:=hf i (by simpa using hi)
      simpa using h9 (elems[i]'(by simpa using hj)) (List.getElem?_eq_getElem _))
     omega
  ·cases hk
end
end Go.Proofs.YteklhoajalgehaaGreatDoor

namespace Go.Proofs.YteklhoajalgehaaGreatDoor
namespace Wire
end Wire
namespace Val
end Val
namespace Sf
end Sf
end Go.Proofs.YteklhoajalgehaaGreatDoor

namespace Go.Proofs.YteklhoajalgehaaGreatDoor
open Go.RowKit
namespace Sf
end Sf
end Go.Proofs.YteklhoajalgehaaGreatDoor

namespace Go.Proofs.YteklhoajalgehaaGreatDoor
namespace Sf
structure TypIn (s : St) : Prop where
 insts : ∀ x ∈ s.insts,x.typ.length ≤ 2000000
 pends : ∀ x ∈ s.pends,x.typ.length ≤ 2000000
end Sf
end Go.Proofs.YteklhoajalgehaaGreatDoor

namespace Go.Proofs.YteklhoajalgehaaGreatDoor
open Go.RowKit Go.ChangeShapes Go.WideShapes
theorem list_of_ {α : Type} {f : α → D} {Q : α → Prop} : ∀ l : List D,(∀ d ∈ l,∃ x,d = f x ∧ Q x) → ∃ xs : List α,l = xs.map f ∧ ∀ x ∈ xs,Q x
 | [],h => ⟨[],rfl,by simp⟩
 | d :: l,h => by
  obtain ⟨x,rfl,hx⟩:=h d (by simp)
  obtain ⟨xs,rfl,hxs⟩:=list_of_ l fun d hd => h d (by simp [hd])
  exact ⟨x :: xs,rfl,List.forall_mem_cons.2 ⟨hx,hxs⟩⟩
namespace Sf
def Inst.toD (x : Inst) : D:=.agg [.str x.addr,.str x.dep,.str x.id,.str x.typ,x.attrs.toD,.int .i64 x.ver,.bool x.tainted,.bool x.first,.sl 1 (x.deps.map .str)]
def Pend.toD (p : Pend) : D:=.agg [.str p.addr,.str p.typ,.str p.tok]
def Outp.toD (o : Outp) : D:=.agg [.str o.name,o.value.toD,.bool o.sens]
def St.toD (s : St) : D:=.agg [.str s.lin,.int .i64 s.ser,.sl 13 (s.insts.map Inst.toD),.sl 3 (s.pends.map Pend.toD),.sl 7 (s.outs.map Outp.toD)]
structure St.Wf (s : St) : Prop where
 insts : ∀ x ∈ s.insts,x.attrs.Wf
 outs : ∀ x ∈ s.outs,x.value.Wf
 ser : (Lit.int .i64 s.ser).wf = true
theorem Inst.cells_toD (x : Inst) : x.toD.cells = x.cells:=by
 obtain ⟨a,d,i,t,⟨k,n,s,is,ks⟩,v,tn,fi,ds⟩:=x
 unfold Inst.toD Inst.cells
 simp only [D.cells,D.cellsL,V.cells_toD,V.cells,strs_rows,List.cons_append,List.nil_append,List.append_nil]
theorem Pend.cells_toD (x : Pend) : x.toD.cells = x.cells:=by
 unfold Pend.toD Pend.cells
 simp only [D.cells,D.cellsL,List.cons_append,List.nil_append,List.append_nil]
theorem Outp.cells_toD (x : Outp) : x.toD.cells = x.cells:=by
 obtain ⟨m,⟨k,n,s,is,ks⟩,b⟩:=x
 unfold Outp.toD Outp.cells
 simp only [D.cells,D.cellsL,V.cells_toD,V.cells,strs_rows,List.cons_append,List.nil_append,List.append_nil]
theorem rows_map {α : Type} (f : α → D) (g : α → List AX.A) (h : ∀ x,(f x).cells = g x) : ∀ l : List α,D.rows (l.map f) = l.map g
 | [] => by simp [D.rows]
 | x :: l => by simp only [List.map_cons,D.rows,h,rows_map f g h l]
theorem St.cells_toD (s : St) : AX.A.agg s.toD.cells = s.A:=by
 unfold St.toD St.A
 simp only [D.cells,D.cellsL,rows_map _ _ Inst.cells_toD,rows_map _ _ Pend.cells_toD,rows_map _ _ Outp.cells_toD,List.cons_append,List.nil_append,List.append_nil]
set_option maxRecDepth 100000 in
theorem conf_inst {d : D} (h : Conf Tryz.prog d 73) : ∃ x : Inst,d = x.toD ∧ x.attrs.Wf:=by
 obtain ⟨l',rfl,h2⟩:=conf_struct Tryz.underlying73 h
 obtain ⟨d0,l1,rfl,c0,h2⟩:=confL_cons h2
 obtain ⟨d1,l2,rfl,c1,h2⟩:=confL_cons h2
 obtain ⟨d2,l3,rfl,c2,h2⟩:=confL_cons h2
 obtain ⟨d3,l4,rfl,c3,h2⟩:=confL_cons h2
 obtain ⟨d4,l5,rfl,c4,h2⟩:=confL_cons h2
 obtain ⟨d5,l6,rfl,c5,h2⟩:=confL_cons h2
 obtain ⟨d6,l7,rfl,c6,h2⟩:=confL_cons h2
 obtain ⟨d7,l8,rfl,c7,h2⟩:=confL_cons h2
 obtain ⟨d8,l9,rfl,c8,h2⟩:=confL_cons h2
 obtain rfl:=confL_nil h2
 obtain ⟨a,rfl,_⟩:=conf_str Tryz.underlying9 c0
 obtain ⟨b,rfl,_⟩:=conf_str Tryz.underlying9 c1
 obtain ⟨c,rfl,_⟩:=conf_str Tryz.underlying9 c2
 obtain ⟨e,rfl,_⟩:=conf_str Tryz.underlying9 c3
 obtain ⟨v,rfl,hv⟩:=conf_val c4
 obtain ⟨n,rfl,_⟩:=conf_int (k:=.i64) Tryz.underlying3 c5
 obtain ⟨t,rfl⟩:=conf_bool Tryz.underlying4 c6
 obtain ⟨f,rfl⟩:=conf_bool Tryz.underlying4 c7
 obtain ⟨l4,rfl,c9,_⟩:=conf_slice Tryz.underlying30 c8
 obtain ⟨ks,rfl,_⟩:=conf_strs Tryz.underlying9 l4 c9
 have hw : Tryz.prog.cellsOf 9 = 1:=by kernel_rfl
 rw [hw]
 exact ⟨⟨a,b,c,e,v,n,t,f,ks⟩,rfl,hv⟩
set_option maxRecDepth 100000 in
theorem conf_pend {d : D} (h : Conf Tryz.prog d 121) : ∃ x : Pend,d = x.toD ∧ True:=by
 obtain ⟨l',rfl,h2⟩:=conf_struct Tryz.underlying121 h
 obtain ⟨d0,l1,rfl,c0,h2⟩:=confL_cons h2
 obtain ⟨d1,l2,rfl,c1,h2⟩:=confL_cons h2
 obtain ⟨d2,l3,rfl,c2,h2⟩:=confL_cons h2
 obtain rfl:=confL_nil h2
 obtain ⟨a,rfl,_⟩:=conf_str Tryz.underlying9 c0
 obtain ⟨b,rfl,_⟩:=conf_str Tryz.underlying9 c1
 obtain ⟨c,rfl,_⟩:=conf_str Tryz.underlying9 c2
 exact ⟨⟨a,b,c⟩,rfl,trivial⟩
set_option maxRecDepth 100000 in
theorem conf_outp {d : D} (h : Conf Tryz.prog d 132) : ∃ x : Outp,d = x.toD ∧ x.value.Wf:=by
 obtain ⟨l',rfl,h2⟩:=conf_struct Tryz.underlying132 h
 obtain ⟨d0,l1,rfl,c0,h2⟩:=confL_cons h2
 obtain ⟨d1,l2,rfl,c1,h2⟩:=confL_cons h2
 obtain ⟨d2,l3,rfl,c2,h2⟩:=confL_cons h2
 obtain rfl:=confL_nil h2
 obtain ⟨a,rfl,_⟩:=conf_str Tryz.underlying9 c0
 obtain ⟨v,rfl,hv⟩:=conf_val c1
 obtain ⟨t,rfl⟩:=conf_bool Tryz.underlying4 c2
 exact ⟨⟨a,v,t⟩,rfl,hv⟩
set_option maxRecDepth 100000 in
theorem conf_st {d : D} (h : Conf Tryz.prog d 39) : ∃ x : St,d = x.toD ∧ x.Wf:=by
 obtain ⟨l',rfl,h2⟩:=conf_struct Tryz.underlying39 h
 obtain ⟨d0,l1,rfl,c0,h2⟩:=confL_cons h2
 obtain ⟨d1,l2,rfl,c1,h2⟩:=confL_cons h2
 obtain ⟨d2,l3,rfl,c2,h2⟩:=confL_cons h2
 obtain ⟨d3,l4,rfl,c3,h2⟩:=confL_cons h2
 obtain ⟨d4,l5,rfl,c4,h2⟩:=confL_cons h2
 obtain rfl:=confL_nil h2
 obtain ⟨a,rfl,_⟩:=conf_str Tryz.underlying9 c0
 obtain ⟨n,rfl,hn⟩:=conf_int (k:=.i64) Tryz.underlying3 c1
 obtain ⟨l2,rfl,k2,_⟩:=conf_slice Tryz.underlying35 c2
 obtain ⟨l3,rfl,k3,_⟩:=conf_slice Tryz.underlying36 c3
 obtain ⟨l4,rfl,k4,_⟩:=conf_slice Tryz.underlying37 c4
 obtain ⟨xs,rfl,hx⟩:=list_of_ l2 fun d hd => conf_inst (confA_mem k2 d hd)
 obtain ⟨ps,rfl,_⟩:=list_of_ l3 fun d hd => conf_pend (confA_mem k3 d hd)
 obtain ⟨os,rfl,ho⟩:=list_of_ l4 fun d hd => conf_outp (confA_mem k4 d hd)
 have hw1 : Tryz.prog.cellsOf 73 = 13:=by kernel_rfl
 have hw2 : Tryz.prog.cellsOf 121 = 3:=by kernel_rfl
 have hw3 : Tryz.prog.cellsOf 132 = 7:=by kernel_rfl
 rw [hw1,hw2,hw3]
 exact ⟨⟨a,n,xs,ps,os⟩,rfl,hx,ho,hn⟩
end Sf
theorem strs_bulk : ∀ ks : List (List UInt8),ks.length ≤ D.bulks (ks.map .str) ∧ ∀ s ∈ ks,s.length + 1 ≤ D.bulks (ks.map .str)
 | [] => by simp
 | k :: ks => by
  obtain ⟨h1,h2⟩:=strs_bulk ks
  rw [List.map_cons,D.bulks,D.bulk]
  refine ⟨by simp only [List.length_cons]; omega,fun s hs => ?_⟩
  rcases List.mem_cons.1 hs with rfl | hs
  ·omega
  ·have:=h2 s hs; omega
theorem num10 (n : Int) : (Wire.num n).length ≤ 10:=(Wire.encF_len 9 (Wire.zig n)).2
theorem strE10 (s : List UInt8) : (Wire.strE s).length ≤ 10 + s.length:=by
 unfold Wire.strE
 rw [List.length_append]
 have:=num10 (s.length : Int)
 omega
theorem bulk_pos (d : D) : 1 ≤ d.bulk:=by cases d <;> rw [D.bulk] <;> omega
mutual
theorem enc_bulk : ∀ v : V,(Val.enc v).length ≤ 30 * v.toD.bulk
 | .mk k n s is ks => by
  have h1:=encs_bulk (k == 5) is ks
  have n1:=num10 k
  have n2:=num10 n
  have n3:=strE10 s
  have n4:=num10 (is.length : Int)
  rw [Val.enc,V.toD,D.bulk,D.bulks,D.bulks,D.bulks,D.bulks,D.bulks,D.bulks,D.bulk,D.bulk,D.bulk,D.bulk,D.bulk,List.length_append]
  split
  ·omega
  ·split
   ·omega
   ·split
    ·rw [List.length_append]; omega
    ·simp only [List.length_nil]; omega
theorem encs_bulk : ∀ (m : Bool) (l : List V) (ks : List (List UInt8)),(Val.encs m l ks).length ≤ 30 * (D.bulks (V.toDs l) + D.bulks (ks.map .str))
 | m,[],ks => by rw [Val.encs]; simp
 | m,v :: l,ks => by
  have h1:=enc_bulk v
  have hp:=bulk_pos v.toD
  rw [Val.encs,V.toDs,D.bulks,List.length_append,List.length_append]
  cases ks with
  | nil =>
   have h2:=encs_bulk m l ([] : List (List UInt8)).tail
   have : (Val.keyE m []).length = 0:=by cases m <;> rfl
   simp only [List.tail_nil] at h2 ⊢
   omega
  | cons k ks =>
   have h2:=encs_bulk m l (k :: ks).tail
   have h3 : (Val.keyE m (k :: ks)).length ≤ 10 + k.length:=by
    cases m
    ·simp [Val.keyE]
    ·exact strE10 k
   rw [List.tail_cons] at h2
   rw [List.map_cons,D.bulks,D.bulk,List.tail_cons]
   omega
end
theorem flat_bulk {α : Type} (f : α → List UInt8) (g : α → D) (h : ∀ x,(f x).length ≤ 30 * (g x).bulk) : ∀ l : List α,(l.flatMap f).length ≤ 30 * D.bulks (l.map g)
 | [] => by simp
 | x :: l => by
  have:=h x
  have:=flat_bulk f g h l
  rw [List.flatMap_cons,List.map_cons,D.bulks,List.length_append]
  omega
theorem map_bulk {α : Type} (g : α → D) : ∀ l : List α,l.length ≤ D.bulks (l.map g) ∧ ∀ x ∈ l,(g x).bulk ≤ D.bulks (l.map g)
 | [] => by simp
 | x :: l => by
  obtain ⟨h1,h2⟩:=map_bulk g l
  have:=bulk_pos (g x)
  rw [List.map_cons,D.bulks]
  refine ⟨by simp only [List.length_cons]; omega,fun y hy => ?_⟩
  rcases List.mem_cons.1 hy with rfl | hy
  ·omega
  ·have:=h2 y hy; omega
namespace Sf
theorem flag10 (b : Bool) : (flagE b).length ≤ 10:=num10 _
theorem instE_bulk (ver : Int) (x : Inst) : (instE ver x).length ≤ 30 * x.toD.bulk:=by
 have a1:=strE10 x.addr
 have a2:=strE10 x.dep
 have a3:=strE10 x.id
 have a4:=strE10 x.typ
 have a5:=enc_bulk x.attrs
 have a6:=num10 x.ver
 have a7:=flag10 x.tainted
 have a8 : (if ver = 2 then flagE x.first else []).length ≤ 10:=by
  split
  ·exact flag10 _
  ·simp
 have a9:=num10 (x.deps.length : Int)
 have a10:=flat_bulk Wire.strE D.str (fun s => by rw [D.bulk]; have:=strE10 s; omega) x.deps
 unfold instE wordsE Inst.toD
 simp only [List.length_append,D.bulk,D.bulks]
 omega
theorem pendE_bulk (x : Pend) : (pendE x).length ≤ 30 * x.toD.bulk:=by
 have a1:=strE10 x.addr
 have a2:=strE10 x.typ
 have a3:=strE10 x.tok
 unfold pendE Pend.toD
 simp only [List.length_append,D.bulk,D.bulks]
 omega
theorem outE_bulk (x : Outp) : (outE x).length ≤ 30 * x.toD.bulk:=by
 have a1:=strE10 x.name
 have a2:=enc_bulk x.value
 have a3:=flag10 x.sens
 unfold outE Outp.toD
 simp only [List.length_append,D.bulk,D.bulks]
 omega
theorem stE_bulk (ver : Int) (s : St) : (stE ver s).length ≤ 30 * s.toD.bulk:=by
 have a0 : magic.length = 4:=rfl
 have a1:=num10 ver
 have a2:=strE10 s.lin
 have a3:=num10 s.ser
 have a4:=num10 (s.insts.length : Int)
 have a5:=flat_bulk (instE ver) Inst.toD (instE_bulk ver) s.insts
 have a6 : (if ver = 2 then Wire.num s.pends.length ++ s.pends.flatMap pendE else []).length ≤ 10 + 30 * D.bulks (s.pends.map Pend.toD):=by
  have b1:=num10 (s.pends.length : Int)
  have b2:=flat_bulk pendE Pend.toD pendE_bulk s.pends
  split
  ·rw [List.length_append]; omega
  ·simp
 have a7:=num10 (s.outs.length : Int)
 have a8:=flat_bulk outE Outp.toD outE_bulk s.outs
 unfold stE St.toD
 simp only [List.length_append,D.bulk,D.bulks]
 omega
structure Fit (s : St) : Prop where
 sin : AX.Sf.StIn s
 tin : TypIn s
 len : ∀ ver,(stE ver s).length + 20 ≤ 1000000000
theorem inst_fit {x : Inst} (hw : x.attrs.Wf) (hb : x.toD.bulk ≤ 1500000) : AX.Sf.InstIn x ∧ x.typ.length ≤ 2000000:=by
 unfold Inst.toD at hb
 simp only [D.bulk,D.bulks] at hb
 obtain ⟨h1,h2⟩:=strs_bulk x.deps
 exact ⟨⟨by omega,by omega,by omega,V.Wf.lens _ hw,by omega,fun s hs => by have:=h2 s hs; omega⟩,by omega⟩
theorem fit_of {s : St} (hw : s.Wf) (hb : s.toD.bulk ≤ 1500000) : Fit s:=by
 have hE:=fun ver => stE_bulk ver s
 have hb':=hb
 unfold St.toD at hb'
 simp only [D.bulk,D.bulks] at hb'
 obtain ⟨i1,i2⟩:=map_bulk Inst.toD s.insts
 obtain ⟨p1,p2⟩:=map_bulk Pend.toD s.pends
 obtain ⟨o1,o2⟩:=map_bulk Outp.toD s.outs
 have hi : ∀ x ∈ s.insts,AX.Sf.InstIn x ∧ x.typ.length ≤ 2000000:=fun x hx => inst_fit (hw.insts x hx) (by have:=i2 x hx; omega)
 have hp : ∀ x ∈ s.pends,x.addr.length ≤ 2000000 ∧ x.typ.length ≤ 2000000 ∧ x.tok.length ≤ 2000000:=fun x hx => by
  have : x.toD.bulk ≤ 1500000:=by have:=p2 x hx; omega
  unfold Pend.toD at this
  simp only [D.bulk,D.bulks] at this
  refine ⟨?_,?_,?_⟩ <;> omega
 have ho : ∀ x ∈ s.outs,x.name.length ≤ 2000000 ∧ x.value.lens:=fun x hx => by
  have : x.toD.bulk ≤ 1500000:=by have:=o2 x hx; omega
  unfold Outp.toD at this
  simp only [D.bulk,D.bulks] at this
  exact ⟨by omega,V.Wf.lens _ (hw.outs x hx)⟩
 refine ⟨⟨by omega,fun x hx => (hi x hx).1,fun x hx => ⟨(hp x hx).1,(hp x hx).2.2⟩,ho,by omega,by omega,by omega⟩,⟨fun x hx => (hi x hx).2,fun x hx => (hp x hx).2.1⟩,fun ver => ?_⟩
 have:=hE ver
 omega
end Sf
end Go.Proofs.YteklhoajalgehaaGreatDoor

namespace Go.Proofs.YteklhoajalgehaaGreatDoor
open Go.RowKit
mutual
def V.few : V → Prop
 | .mk k n s is ks => is.length ≤ 2000000 ∧ ks.length ≤ 2000000 ∧ V.fews is
def V.fews : List V → Prop
 | [] => True
 | v :: l => v.few ∧ V.fews l
end
theorem V.fews_mem : ∀ {l : List V},V.fews l → ∀ x ∈ l,x.few
 | [],_ => by simp
 | v :: l,h => by
  unfold V.fews at h
  exact List.forall_mem_cons.2 ⟨h.1,V.fews_mem h.2⟩
theorem toDs_bulk : ∀ l : List V,l.length ≤ D.bulks (V.toDs l)
 | [] => Nat.zero_le _
 | v :: l => by
  have:=toDs_bulk l
  have h1 : 1 ≤ v.toD.bulk:=by cases h : v.toD <;> rw [D.bulk] <;> omega
  rw [V.toDs,D.bulks,List.length_cons]; omega
mutual
theorem V.few_of : ∀ v : V,v.toD.bulk ≤ 1500000 → v.few
 | .mk k n s is ks,h => by
  rw [V.toD,D.bulk,D.bulks,D.bulks,D.bulks,D.bulks,D.bulks,D.bulks,D.bulk,D.bulk,D.bulk,D.bulk,D.bulk] at h
  have h1:=toDs_bulk is
  have h2:=(strs_bulk ks).1
  unfold V.few
  exact ⟨by omega,by omega,V.fews_of is (by omega)⟩
theorem V.fews_of : ∀ l : List V,D.bulks (V.toDs l) ≤ 1500000 → V.fews l
 | [],_ => by unfold V.fews; trivial
 | v :: l,h => by
  rw [V.toDs,D.bulks] at h
  unfold V.fews
  exact ⟨V.few_of v (by omega),V.fews_of l (by omega)⟩
end
namespace AX
theorem a_jcopied : ∀ v : V,v.few → ∀ h,ACall Tryz.prog GT 127 [v.A] h fun r h' => r = v.A ∧ h' = h:=by
 refine V.induct ?_
 intro k n s is ks ih hfew h
 unfold V.few at hfew
 obtain ⟨hl1,hl2,hfs⟩:=hfew
 have ck:=a_clones ks (by omega)
 have li:=V.cellss_length is
 have hVA : (V.mk k n s is ks).A = .agg [.int .i64 k,.int .i64 n,.str s,.sl 5 .no (V.cellss is),.sl 1 .no (strsA ks)]:=by simp only [V.A,V.cells]
 rw [hVA]
 refine pcall ?_ rfl (by simp [A.pure,A.data]) h
 refine fo ?_
 refine runc0 li (ai ck ti) ?_
 refine awp_loop (fun m ts hh => ∃ (j : Nat) (W : Nat) (o : Own) (l' : List Blk) (t : List (TypeId × Nat × Nat)),m = is.length - j ∧ j ≤ is.length ∧ hh = ⟨.cells 71 [.int .i64 k,.int .i64 n,.str s,.sl 5 .no (V.cellss is),.sl 1 .no (strsA ks)] :: .cells 71 [.int .i64 0,.int .i64 0,.str [],.sl 0 .nil [],.sl 0 .nil []] :: l',t⟩ ∧ Gs 71 5 0 ⟨[],t⟩ (V.cellss (is.take j)) (.sl W o (V.cellss (is.take j))) ∧
  (ts 1 = .ptr 0 0 ∧ ts 2 = .ptr 1 0 ∧ ts 3 = .sl W o (V.cellss (is.take j)) ∧ ts 11 = .sl 5 .no (V.cellss is) ∧ ts 12 = .int .i64 (is.length : Nat) ∧ ts 13 = .int .i64 (j : Nat))) is.length ?_ ?_
 ·exact ⟨0,0,.nil,[],[],rfl,Nat.zero_le _,rfl,.inl ⟨rfl,rfl⟩,by (exact inv0 li)⟩
 rintro m ts hh ⟨j,W,o,l',t,rfl,hj,rfl,gX,ht⟩
 rcases Nat.lt_or_ge j is.length with hlt | hge
 rotate_left
 ·have hf : ¬ (j : Int) < (is.length : Int):=by omega
  rw [List.take_of_length_le hge] at gX ht
  refine run0 (ai ht hf) ?_
  exact ⟨.agg [.int .i64 k,.int .i64 n,.str s,.sl 5 .no (V.cellss is),.sl 1 .no (strsA ks)],⟨le1_refl _,le1_refl _,le1_refl _,Gs.le gX,le1_refl _,trivial⟩,rfl⟩
 have hf : (V.cellss is).length = is.length ∧ (j : Int) < (is.length : Int) ∧ (0 : Int) ≤ (j : Int) ∧ (V.cellss is).getD j [] = is[j].cells ∧ IntKind.i64.wrap ((j : Int) + 1) = ((j + 1 : Nat) : Int):=
  ⟨li,by omega,by omega,V.cellss_get is j hlt,by rw [wrap64 (by omega) (by omega)]; omega⟩
 have cx:=ih _ (List.getElem_mem hlt) (V.fews_mem hfs _ (List.getElem_mem hlt))
 have em : V.cellss (is.take j) ++ [is[j].cells] = V.cellss (is.take (j + 1)):=by
  have e : is.take (j + 1) = is.take j ++ [is[j]]:=(List.take_append_getElem hlt).symm
  rw [e,V.cellss_map,V.cellss_map,List.map_append]; rfl
 have hrl : (V.cellss (is.take j)).length = j:=by rw [V.cellss_length,List.length_take]; omega
 obtain ⟨W',o',t',hX,gX',_⟩:=gX.grow 80 is[j].cells (by rw [hrl]; omega) (by decide)
 rw [em] at gX'
 simp only [em] at hX
 clear em ih gX
 obtain ⟨x,hx⟩ : ∃ x,is[j] = x:=⟨_,rfl⟩
 rw [hx] at hf cx hX
 obtain ⟨k2,n2,w,vi,vy⟩:=x
 simp only [V.A,V.cells] at hf cx hX
 refine runc0 (ai ht (ai hf hX)) (ai cx ti) ?_
 exact ⟨_,by omega,j + 1,W',o',_,t',rfl,by omega,rfl,gX',by (exact inv0 (ai ht hf))⟩
theorem a_jobject (x : Sf.Inst) (hv : x.attrs.few) (hd : x.deps.length ≤ 1000000000) (h : Hp) : ACall Tryz.prog GT 126 [.agg (Sf.Inst.cells x)] h fun r h' => r = .agg (Sf.Inst.cells x) ∧ h' = h:=by
 have cc:=a_jcopied x.attrs hv
 have cs:=a_clones x.deps hd
 obtain ⟨a,d,i,t,⟨k,n,s,is,ks⟩,v,tn,fi,ds⟩:=x
 simp only [V.A,V.cells,Sf.Inst.cells] at cc cs ⊢
 refine pcall ?_ rfl (by simp [A.pure,A.data]) h
 refine fo ?_
 refine runc0 ti (ai cc (ai cs ti)) ?_
 exact ⟨_,le_refl _,rfl⟩
structure JrFew (r : Jr) : Prop where
 inn : JrIn r
 vfew : r.after.attrs.few
 ins : r.base.insts.length ≤ 2000000 ∧ ∀ x ∈ r.base.insts,x.attrs.few ∧ x.deps.length ≤ 1000000000
 ps : r.base.pends.length ≤ 2000000
 os : r.base.outs.length ≤ 2000000 ∧ ∀ x ∈ r.base.outs,x.value.few
theorem a_jclone (r : Jr) (hr : JrFew r) (h : Hp) : ACall Tryz.prog GT 68 [.agg r.cells] h fun v h' => v = .agg r.cells ∧ h' = h:=by
 have co:=a_jobject r.after hr.vfew hr.inn.deps
 have cp:=a_clonep r.base.pends (by have:=hr.ps; omega)
 obtain ⟨hin,hio⟩:=hr.ins
 obtain ⟨hon,hoo⟩:=hr.os
 clear hr
 obtain ⟨kd,⟨lin,ser,ins,ps,os⟩,st,op,ad,dp,ty,tk,er,⟨a1,a2,a3,a4,⟨k,nn,ss,is,ks⟩,v,tn,fi,ds⟩⟩:=r
 simp only [Jr.cells,Sf.Inst.cells,List.cons_append,List.nil_append] at *
 refine pcall ?_ rfl (by simp [A.pure,A.data]) h
 refine fo ?_
 have li : (ins.map Sf.Inst.cells).length = ins.length:=List.length_map _
 have lo : (os.map Sf.Outp.cells).length = os.length:=List.length_map _
 refine runc0 li (ai co ti) ?_
 refine awp_loop (fun m ts hh => ∃ (j : Nat) (W : Nat) (o : Own) (l' : List Blk) (t : List (TypeId × Nat × Nat)),m = ins.length - j ∧ j ≤ ins.length ∧ hh = ⟨.cells 75 [.int .i64 kd,.str lin,.int .i64 ser,.sl 13 .no (ins.map Sf.Inst.cells),.sl 3 .no (ps.map Sf.Pend.cells),.sl 7 .no (os.map Sf.Outp.cells),.int .i64 st,.int .i64 op,.str ad,.str dp,.str ty,.str tk,.int .i64 er,.str a1,.str a2,.str a3,.str a4,.int .i64 k,.int .i64 nn,.str ss,.sl 5 .no (V.cellss is),.sl 1 .no (strsA ks),.int .i64 v,.bool tn,.bool fi,.sl 1 .no (strsA ds)] :: .cells 75 [.int .i64 0,.str [],.int .i64 0,.sl 0 .nil [],.sl 0 .nil [],.sl 0 .nil [],.int .i64 0,.int .i64 0,.str [],.str [],.str [],.str [],.int .i64 0,.str [],.str [],.str [],.str [],.int .i64 0,.int .i64 0,.str [],.sl 0 .nil [],.sl 0 .nil [],.int .i64 0,.bool false,.bool false,.sl 0 .nil []] :: l',t⟩ ∧ Gs 73 13 0 ⟨[],t⟩ ((ins.take j).map Sf.Inst.cells) (.sl W o ((ins.take j).map Sf.Inst.cells)) ∧
  (ts 1 = .ptr 0 0 ∧ ts 2 = .ptr 1 0 ∧ ts 3 = .sl W o ((ins.take j).map Sf.Inst.cells) ∧ ts 15 = .sl 13 .no (ins.map Sf.Inst.cells) ∧ ts 16 = .int .i64 (ins.length : Nat) ∧ ts 17 = .int .i64 (j : Nat))) ins.length ?_ ?_
 ·exact ⟨0,0,.nil,[],[],rfl,Nat.zero_le _,rfl,.inl ⟨rfl,rfl⟩,by (exact inv0 li)⟩
 rintro m ts hh ⟨j,W,o,l',t,rfl,hj,rfl,gX,ht⟩
 rcases Nat.lt_or_ge j ins.length with hlt | hge
 ·have hf:=rowj_at Sf.Inst.cells ins j hlt (by omega)
  have hx:=hio _ (List.getElem_mem hlt)
  have cx:=a_jobject _ hx.1 hx.2
  have em : (ins.take j).map Sf.Inst.cells ++ [Sf.Inst.cells ins[j]] = (ins.take (j + 1)).map Sf.Inst.cells:=by
   have e : ins.take (j + 1) = ins.take j ++ [ins[j]]:=(List.take_append_getElem hlt).symm
   rw [e,List.map_append]; rfl
  obtain ⟨W',o',t',hX,gX',_⟩:=gX.grow 184 (Sf.Inst.cells ins[j]) (by rw [List.length_map,List.length_take]; omega) (by decide)
  rw [em] at gX'
  simp only [em] at hX
  clear em gX hx
  obtain ⟨x,hx⟩ : ∃ x,ins[j] = x:=⟨_,rfl⟩
  rw [hx] at hf cx hX
  obtain ⟨b1,b2,b3,b4,⟨jk2,jn,js,jis,jks⟩,jv,jtn,jfi,jds⟩:=x
  simp only [Sf.Inst.cells] at hf cx hX
  refine runc0 (ai ht (ai hf hX)) (ai cx ti) ?_
  exact ⟨_,by omega,j + 1,W',o',_,t',rfl,by omega,rfl,gX',by (exact inv0 (ai ht hf))⟩
 have hf:=rowj_end Sf.Inst.cells ins j hge
 rw [List.take_of_length_le hge] at gX ht
 have lX:=Gs.le gX
 clear gX li hio co
 refine runc0 (ai ht (ai hf lo)) ti ?_
 refine awp_loop (fun m ts hh => ∃ (j : Nat) (W2 : Nat) (o2 : Own) (l' : List Blk) (t : List (TypeId × Nat × Nat)),m = os.length - j ∧ j ≤ os.length ∧ hh = ⟨.cells 75 [.int .i64 kd,.str lin,.int .i64 ser,.sl 13 .no (ins.map Sf.Inst.cells),.sl 3 .no (ps.map Sf.Pend.cells),.sl 7 .no (os.map Sf.Outp.cells),.int .i64 st,.int .i64 op,.str ad,.str dp,.str ty,.str tk,.int .i64 er,.str a1,.str a2,.str a3,.str a4,.int .i64 k,.int .i64 nn,.str ss,.sl 5 .no (V.cellss is),.sl 1 .no (strsA ks),.int .i64 v,.bool tn,.bool fi,.sl 1 .no (strsA ds)] :: .cells 75 [.int .i64 0,.str [],.int .i64 0,.sl 0 .nil [],.sl 0 .nil [],.sl 0 .nil [],.int .i64 0,.int .i64 0,.str [],.str [],.str [],.str [],.int .i64 0,.str [],.str [],.str [],.str [],.int .i64 0,.int .i64 0,.str [],.sl 0 .nil [],.sl 0 .nil [],.int .i64 0,.bool false,.bool false,.sl 0 .nil []] :: l',t⟩ ∧ Gs 132 7 0 ⟨[],t⟩ ((os.take j).map Sf.Outp.cells) (.sl W2 o2 ((os.take j).map Sf.Outp.cells)) ∧
  (ts 1 = .ptr 0 0 ∧ ts 2 = .ptr 1 0 ∧ ts 3 = .sl W o (ins.map Sf.Inst.cells) ∧ ts 6 = .sl W2 o2 ((os.take j).map Sf.Outp.cells) ∧ ts 29 = .sl 7 .no (os.map Sf.Outp.cells) ∧ ts 30 = .int .i64 (os.length : Nat) ∧ ts 31 = .int .i64 (j : Nat))) os.length ?_ ?_
 ·exact ⟨0,0,.nil,l',t,rfl,Nat.zero_le _,rfl,.inl ⟨rfl,rfl⟩,by (exact inv0 (ai lo ht))⟩
 clear hf ht hj hge t l' ts j
 rintro m ts hh ⟨j,W2,o2,l',t,rfl,hj,rfl,gX,ht⟩
 rcases Nat.lt_or_ge j os.length with hlt | hge
 ·have hf:=rowj_at Sf.Outp.cells os j hlt (by omega)
  have cx:=a_jcopied _ (hoo _ (List.getElem_mem hlt))
  have em : (os.take j).map Sf.Outp.cells ++ [Sf.Outp.cells os[j]] = (os.take (j + 1)).map Sf.Outp.cells:=by
   have e : os.take (j + 1) = os.take j ++ [os[j]]:=(List.take_append_getElem hlt).symm
   rw [e,List.map_append]; rfl
  obtain ⟨W',o',t',hX,gX',_⟩:=gX.grow 104 (Sf.Outp.cells os[j]) (by rw [List.length_map,List.length_take]; omega) (by decide)
  rw [em] at gX'
  simp only [em] at hX
  clear em gX
  obtain ⟨x,hx⟩ : ∃ x,os[j] = x:=⟨_,rfl⟩
  rw [hx] at hf cx hX
  obtain ⟨b1,⟨jk2,jn,js,jis,jks⟩,jb⟩:=x
  simp only [Sf.Outp.cells,V.A,V.cells] at hf cx hX
  refine runc0 (ai ht (ai hf hX)) (ai cx ti) ?_
  exact ⟨_,by omega,j + 1,W',o',_,t',rfl,by omega,rfl,gX',by (exact inv0 (ai ht hf))⟩
 have hf:=rowj_end Sf.Outp.cells os j hge
 rw [List.take_of_length_le hge] at gX ht
 have lY:=Gs.le gX
 refine runc0 (ai ht hf) (ai cp ti) ?_
 exact ⟨.agg [.int .i64 kd,.str lin,.int .i64 ser,.sl 13 .no (ins.map Sf.Inst.cells),.sl 3 .no (ps.map Sf.Pend.cells),.sl 7 .no (os.map Sf.Outp.cells),.int .i64 st,.int .i64 op,.str ad,.str dp,.str ty,.str tk,.int .i64 er,.str a1,.str a2,.str a3,.str a4,.int .i64 k,.int .i64 nn,.str ss,.sl 5 .no (V.cellss is),.sl 1 .no (strsA ks),.int .i64 v,.bool tn,.bool fi,.sl 1 .no (strsA ds)],⟨le1_refl _,le1_refl _,le1_refl _,lX,le1_refl _,lY,le1_refl _,le1_refl _,le1_refl _,le1_refl _,le1_refl _,le1_refl _,le1_refl _,le1_refl _,le1_refl _,le1_refl _,le1_refl _,le1_refl _,le1_refl _,le1_refl _,le1_refl _,le1_refl _,le1_refl _,le1_refl _,le1_refl _,le1_refl _,trivial⟩,rfl⟩
theorem gfind_put {α : Type} (n k : Int) (x : α) : ∀ m : List (Int × α),gfind n (gput k x m) = if n = k then some x else gfind n m
 | [] => rfl
 | (q,y) :: m => by
  unfold gput
  by_cases h : k = q
  ·subst h
   rw [if_pos rfl]
   unfold gfind
   by_cases h2 : n = k
   ·rw [if_pos h2,if_pos h2]
   ·rw [if_neg h2,if_neg h2,if_neg h2]
  ·rw [if_neg h]
   unfold gfind
   by_cases h2 : n = q
   ·subst h2
    rw [if_pos rfl,if_neg (fun e => h e.symm),if_pos rfl]
   ·rw [if_neg h2,if_neg h2]
    exact gfind_put n k x m
theorem ends_gen (n : Int) : ∀ (l : List Jr) (m : List (Int × Bool)),(gfind n (l.foldl (fun m r => if (r.kind == 3 || r.kind == 4) = true then gput r.step true m else m) m)).getD false = ((gfind n m).getD false || Jr.endedB n l)
 | [],m => by simp [Jr.endedB]
 | r :: l,m => by
  rw [List.foldl_cons,ends_gen n l]
  unfold Jr.endedB
  rw [List.any_cons]
  cases h : (r.kind == 3 || r.kind == 4)
  ·simp
  ·rw [if_pos rfl,gfind_put]
   by_cases h2 : n = r.step
   ·subst h2; simp
   ·rw [if_neg h2,show (r.step == n) = false by simp; exact fun e => h2 e.symm]; simp
theorem ends_find (n : Int) (l : List Jr) : (gfind n (Jr.ends l)).getD false = Jr.endedB n l:=by
 unfold Jr.ends
 rw [ends_gen]
 rfl
theorem ends_snoc (l : List Jr) (r : Jr) : Jr.ends (l ++ [r]) = if (r.kind == 3 || r.kind == 4) = true then gput r.step true (Jr.ends l) else Jr.ends l:=by
 unfold Jr.ends
 rw [List.foldl_append]; rfl
theorem a_junfin (l : List Jr) (hin : ∀ r ∈ l,JrFew r) (hl : l.length ≤ 1000000) (h : Hp) : ACall Tryz.prog GT 31 [.sl 26 .no (l.map Jr.cells)] h fun v h' => v = .sl 26 .no ((Jr.unfin l).map Jr.cells) ∧ h' = h:=by
 refine pcall ?_ rfl (by simp [A.pure,A.data]) h
 refine fo ?_
 have li : (l.map Jr.cells).length = l.length:=List.length_map _
 refine run0 li ?_
 refine awp_loop (fun m ts hh => ∃ (i c : Nat) (l' : List Blk) (t : List (TypeId × Nat × Nat)),m = l.length - i ∧ i ≤ l.length ∧ hh = ⟨.map (gmap A.bool (Jr.ends (l.take i))) c :: l',t⟩ ∧
  (ts 0 = .sl 26 .no (l.map Jr.cells) ∧ ts 3 = .mp 0 ∧ ts 10 = .sl 26 .no (l.map Jr.cells) ∧ ts 11 = .int .i64 (l.length : Nat) ∧ ts 12 = .int .i64 (i : Nat))) l.length ?_ ?_
 ·exact ⟨0,0,[],[],rfl,Nat.zero_le _,rfl,by (exact inv0 li)⟩
 rintro m ts hh ⟨i,c,l',t,rfl,hi,rfl,ht⟩
 rcases Nat.lt_or_ge i l.length with hlt | hge
 ·have hf:=rowj_at Jr.cells l i hlt (by omega)
  have es : l.take (i + 1) = l.take i ++ [l[i]]:=(List.take_append_getElem hlt).symm
  have e2:=ends_snoc (l.take i) l[i]
  rw [← es] at e2
  obtain ⟨r,hr⟩ : ∃ r,l[i] = r:=⟨_,rfl⟩
  rw [hr] at hf e2
  have p2:=gmap_put A.bool r.step true (Jr.ends (l.take i))
  have k2:=gmap_clock A.bool r.step (Jr.ends (l.take i)) c
  clear hr es
  obtain ⟨E,hE⟩ : ∃ E,Jr.ends (l.take i) = E:=⟨_,rfl⟩
  rw [hE] at e2 p2 k2 ⊢
  obtain ⟨kd,⟨lin,ser,ins,ps,os⟩,st,op,ad,dp,ty,tk,er,⟨a1,a2,a3,a4,⟨k,nn,ss,is,ks⟩,v,tn,fi,ds⟩⟩:=r
  simp only [Jr.cells,Sf.Inst.cells,List.cons_append,List.nil_append] at hf
  dsimp only at e2 p2 k2
  refine runx0 (ai ht hf) ti ?_
  (refine AX.alt0 ht ?_ ?_)
  ·intro hb
   rw [if_pos hb] at e2
   refine runx0 (ai ht (ai hf (ai p2 k2))) ti ?_
   exact ⟨_,by omega,i + 1,_,_,_,rfl,by omega,by rw [e2],by (exact inv0 (ai ht hf))⟩
  ·intro hb
   rw [if_neg (by rw [hb]; decide)] at e2
   refine runx0 (ai ht hf) ti ?_
   exact ⟨_,by omega,i + 1,c,_,_,rfl,by omega,by rw [e2],by (exact inv0 (ai ht hf))⟩
 have hf:=rowj_end Jr.cells l i hge
 rw [List.take_of_length_le hge]
 have ef:=fun n => ends_find n l
 have gf:=fun n => gmap_find A.bool n (Jr.ends l)
 obtain ⟨E,hE⟩ : ∃ E,Jr.ends l = E:=⟨_,rfl⟩
 rw [hE] at ⊢
 simp only [hE] at ef gf
 refine run0 (ai ht hf) ?_
 refine awp_loop (fun m ts hh => ∃ (j : Nat) (W : Nat) (o : Own) (l' : List Blk) (t : List (TypeId × Nat × Nat)),m = l.length - j ∧ j ≤ l.length ∧ hh = ⟨.map (gmap A.bool E) c :: l',t⟩ ∧ Gs 75 26 0 ⟨[],t⟩ (((l.take j).filter fun r => r.kind == 2 && !Jr.endedB r.step l).map Jr.cells) (.sl W o (((l.take j).filter fun r => r.kind == 2 && !Jr.endedB r.step l).map Jr.cells)) ∧
  (ts 3 = .mp 0 ∧ ts 6 = .sl W o (((l.take j).filter fun r => r.kind == 2 && !Jr.endedB r.step l).map Jr.cells) ∧ ts 28 = .sl 26 .no (l.map Jr.cells) ∧ ts 29 = .int .i64 (l.length : Nat) ∧ ts 30 = .int .i64 (j : Nat))) l.length ?_ ?_
 ·exact ⟨0,0,.nil,l',t,rfl,Nat.zero_le _,rfl,.inl ⟨rfl,rfl⟩,by (exact inv0 (ai li ht))⟩
 clear hf ht hi hge i l' t ts
 rintro m ts hh ⟨j,W,o,l',t,rfl,hj,rfl,gX,ht⟩
 rcases Nat.lt_or_ge j l.length with hlt | hge
 rotate_left
 ·have hf:=rowj_end Jr.cells l j hge
  rw [List.take_of_length_le hge] at gX ht
  have lX:=Gs.le gX
  refine run0 (ai ht hf) ?_
  exact ⟨.sl 26 .no ((Jr.unfin l).map Jr.cells),lX,rfl⟩
 have hf:=rowj_at Jr.cells l j hlt (by omega)
 have hrf:=hin _ (List.getElem_mem hlt)
 have es : l.take (j + 1) = l.take j ++ [l[j]]:=(List.take_append_getElem hlt).symm
 have em : ((l.take (j + 1)).filter fun r => r.kind == 2 && !Jr.endedB r.step l) = ((l.take j).filter fun r => r.kind == 2 && !Jr.endedB r.step l) ++ (if (l[j].kind == 2 && !Jr.endedB l[j].step l) = true then [l[j]] else []):=by
  rw [es,List.filter_append,List.filter_cons,List.filter_nil]
 have hlen : ((l.take j).filter fun r => r.kind == 2 && !Jr.endedB r.step l).length ≤ j:=Nat.le_trans (List.length_filter_le _ _) (by rw [List.length_take]; omega)
 obtain ⟨F,hF⟩ : ∃ F,((l.take j).filter fun r => r.kind == 2 && !Jr.endedB r.step l) = F:=⟨_,rfl⟩
 rw [hF] at gX ht em hlen
 obtain ⟨W',o',t',hX,gX',_⟩:=gX.grow 376 (Jr.cells l[j]) (by rw [List.length_map]; omega) (by decide)
 have cc:=a_jclone l[j] hrf
 have ef1:=ef l[j].step
 have gf1:=gf l[j].step
 obtain ⟨r,hr⟩ : ∃ r,l[j] = r:=⟨_,rfl⟩
 rw [hr] at hf em hX gX' cc ef1 gf1
 clear hr es ef gf hrf
 obtain ⟨B,hB⟩ : ∃ B,Jr.endedB r.step l = B:=⟨_,rfl⟩
 rw [hB] at em ef1
 have hG : mgetV (.bool false) false (mfind r.step (gmap A.bool E)) = .bool B:=by rw [gf1,← ef1]; cases gfind r.step E <;> rfl
 have hG' : (mfind r.step (gmap A.bool E)).getD (.bool false) = .bool B:=hG
 clear gf1 ef1 hB
 have em2 : F.map Jr.cells ++ [r.cells] = (F ++ [r]).map Jr.cells:=by simp
 rw [em2] at gX'
 simp only [em2] at hX
 obtain ⟨F2,hF2⟩ : ∃ F2,F ++ [r] = F2:=⟨_,rfl⟩
 rw [hF2] at gX' hX
 have em3 : (r.kind == 2 && !B) = true → ((l.take (j + 1)).filter fun r => r.kind == 2 && !Jr.endedB r.step l) = F2:=fun hb => by rw [em,if_pos hb,hF2]
 have em4 : (r.kind == 2 && !B) = false → ((l.take (j + 1)).filter fun r => r.kind == 2 && !Jr.endedB r.step l) = F:=fun hb => by rw [em,if_neg (by rw [hb]; decide)]; simp
 clear em em2 hF2
 obtain ⟨kd,⟨lin,ser,ins,ps,os⟩,st,op,ad,dp,ty,tk,er,⟨a1,a2,a3,a4,⟨k,nn,ss,is,ks⟩,v,tn,fi,ds⟩⟩:=r
 simp only [Jr.cells,Sf.Inst.cells,List.cons_append,List.nil_append] at hf hX cc
 dsimp only at hG hG' em3 em4
 refine runx0 (ai ht (ai hf (ai hG hG'))) ti ?_
 (refine AX.alt0 ht ?_ ?_)
 ·intro hb
  refine runc0 (ai ht (ai hf hX)) (ai cc ti) ?_
  exact ⟨_,by omega,j + 1,W',o',_,t',rfl,by omega,rfl,by rw [em3 hb]; exact gX',by rw [em3 hb]; (exact inv0 (ai ht hf))⟩
 ·intro hb
  refine runx0 (ai ht hf) ti ?_
  exact ⟨_,by omega,j + 1,W,o,_,t,rfl,by omega,rfl,by rw [em4 hb]; exact gX,by rw [em4 hb]; (exact inv0 (ai ht hf))⟩
structure Sto where
 key : List UInt8
 lin : List UInt8
 latest : Int
 es : List (Int × List UInt8)
 c : Nat
 own : List UInt8
 left : Int
def strM (es : List (Int × List UInt8)) : List (Int × A):=es.map fun e => (e.1,.str e.2)
def lfind (n : Int) : List (Int × List UInt8) → Option (List UInt8)
 | [] => none
 | (k,x) :: l => if n = k then some x else lfind n l
def lput (n : Int) (x : List UInt8) : List (Int × List UInt8) → List (Int × List UInt8)
 | [] => [(n,x)]
 | (k,y) :: l => if n = k then (n,x) :: l else (k,y) :: lput n x l
def lerase (n : Int) : List (Int × List UInt8) → List (Int × List UInt8)
 | [] => []
 | (k,y) :: l => if n = k then l else (k,y) :: lerase n l
def Sto.M (s : Sto) : Blk:=.map (strM s.es) s.c
def Sto.B (s : Sto) : Blk:=.cells 93 [.str s.key,.str s.lin,.int .i64 s.latest,.mp 0,.str s.own,.int .i64 s.left]
namespace Sto
def txt (s : List UInt8) : Bool:=s != [] && Str.valid s
def lock (s : Sto) (who : List UInt8) (n : Int) : Sto × Int:=
 if (txt who && decide (1 ≤ n) && decide (n ≤ 1099511627776)) = false then (s,1)
 else if (s.own != [] && s.own != who) = true then (s,24)
 else ({ s with own:=who,left:=n },0)
def holds (s : Sto) (who : List UInt8) : Bool:=s.own != [] && s.own == who
def tick (s : Sto) (n : Int) : Sto:=
 if n ≤ 0 ∨ s.own = [] then s
 else if s.left - (if s.left < n then s.left else n) = 0 then { s with own:=[],left:=0 } else { s with left:=s.left - (if s.left < n then s.left else n) }
def keep (s : Sto) (st : Sf.St) : Sto × Int:=
 if (Sf.encode 2 st).2 ≠ 0 then (s,(Sf.encode 2 st).2)
 else if (Seal.enc s.key (IntKind.u64.wrap st.ser) (Sf.encode 2 st).1).2 ≠ 0 then (s,(Seal.enc s.key (IntKind.u64.wrap st.ser) (Sf.encode 2 st).1).2)
 else ({ s with latest:=st.ser,es:=lerase (IntKind.i64.wrap (st.ser - 64)) (lput st.ser (Seal.enc s.key (IntKind.u64.wrap st.ser) (Sf.encode 2 st).1).1 s.es),c:=mclock st.ser (strM s.es) s.c },0)
def write (s : Sto) (who : List UInt8) (st : Sf.St) : Sto × Int:=
 if s.holds who = false then (s,25) else if st.lin ≠ s.lin then (s,23) else if st.ser ≠ IntKind.i64.wrap (s.latest + 1) then (s,22) else s.keep st
def plain (s : Sto) (n : Int) : List UInt8 × Int:=match lfind n s.es with
 | none => ([],9)
 | some b => Seal.dec s.key b
def at' (s : Sto) (n : Int) : Sf.St × Int:=
 if (s.plain n).2 ≠ 0 then (Sf.zero,(s.plain n).2)
 else
  let d:=Sf.decode (s.plain n).1
  if d.2 = 0 then (d.1,Sf.checkZ d.1) else d
end Sto
section
variable (s : Sto) (l : List Blk) (t : List (TypeId × Nat × Nat))
end
end AX
end Go.Proofs.YteklhoajalgehaaGreatDoor

namespace Go.Proofs.YteklhoajalgehaaGreatDoor
open Go.RowKit
namespace AX
section
variable (s : Sto) (l : List Blk) (t : List (TypeId × Nat × Nat))
end
end AX
end Go.Proofs.YteklhoajalgehaaGreatDoor

namespace Go.Proofs.YteklhoajalgehaaGreatDoor
open Go.RowKit
namespace AX
namespace Sto
def lo (s : Sto) : Int:=if 0 > s.latest - 63 then 0 else s.latest - 63
end Sto
def Sto.new (key lin : List UInt8) : Sto:=⟨key,lin,0,[],0,[],0⟩
end AX
end Go.Proofs.YteklhoajalgehaaGreatDoor

namespace Go.Proofs.YteklhoajalgehaaGreatDoor
open Go.RowKit
open Go.ChangeMaps (setBlock)
namespace AX
section
variable {P : Program} {G : World → Prop} {C0 : Ctx} {n : Nat}
end
end AX
end Go.Proofs.YteklhoajalgehaaGreatDoor

namespace Go.Proofs.YteklhoajalgehaaGreatDoor
open Go.RowKit
namespace AX
namespace Sto
end Sto
namespace Sto
def stX (n : Int) : Sf.St:=⟨[120],n,[],[],[]⟩
def w0 : Sto:=(Sto.new [107] [120]).keep (stX 0) |>.1
def w1 : Sto:=(w0.lock [97] 5).1
def w2 : Sto:=(w1.write [97] (stX 1)).1
def w3 : Sto:=w2.tick 2
end Sto
namespace Sto
end Sto
structure Act where
 kind : Int
 who : List UInt8
 n : Int
 st : Sf.St
 next : Bool
 key : List UInt8
def Act.cells (a : Act) : List A:=[.int .i64 a.kind,.str a.who,.int .i64 a.n,.str a.st.lin,.int .i64 a.st.ser,.sl 13 .no (a.st.insts.map Sf.Inst.cells),.sl 3 .no (a.st.pends.map Sf.Pend.cells),.sl 7 .no (a.st.outs.map Sf.Outp.cells),.bool a.next,.str a.key]
def Act.ok (a : Act) : Bool:=Sf.smallP 8 60 a.st && (decide (a.who.length ≤ 100) && decide (a.key.length ≤ 100))
end AX
end Go.Proofs.YteklhoajalgehaaGreatDoor

namespace Go.Proofs.YteklhoajalgehaaGreatDoor
open Go.RowKit Go.ChangeShapes Go.WideShapes
namespace AX
def Act.toD (a : Act) : D:=.agg [.int .i64 a.kind,.str a.who,.int .i64 a.n,a.st.toD,.bool a.next,.str a.key]
theorem Act.cells_toD (a : Act) : a.toD.cells = a.cells:=by
 obtain ⟨k,who,n,st,nx,q⟩:=a
 have h:=Sf.St.cells_toD st
 unfold Sf.St.A at h
 injection h with h
 unfold Act.toD Act.cells
 simp only [D.cells,D.cellsL,h,List.cons_append,List.nil_append,List.append_nil]
section
variable {H : Type} {enc : TypeId × Value → H} {w : World} {base : Nat} {spare : Nat → Bool} {held : Bool} {r : Reach} {b0 : Nat} {v : Value} {d : DataW H} {p : List MemPlace}
set_option maxRecDepth 100000 in
theorem arg_sliceB {K : List TypeId} {t e : TypeId} (hK : plainAll Tryz.prog K = true) (ht : t ∈ K) (hu : Tryz.prog.underlying t = some (.slice e)) (hval : Value.okWide Tryz.prog w r b0 t v) (h : DataW.Trod enc Tryz.prog w base spare held t v d p) :
  ∃ x : List D,ConfA Tryz.prog x e ∧ x.length ≤ maxLen ∧ D.bulks x ≤ Rows.uptoBulk d ∧ Rep (Ctx.of w) (.sl (Tryz.prog.cellsOf e) .no (D.rows x)) v:=by
 obtain ⟨a,len,cap,rfl⟩:=okWide_slice hu hval
 obtain ⟨fuel,hf⟩:=h
 obtain ⟨x,h1,h2,h3⟩:=trod_rdB hK fuel t ht _ _ hf
 obtain ⟨l,rfl,h4,h5⟩:=conf_slice hu h2
 refine ⟨l,h4,h5,?_,?_⟩
 ·rw [D.bulk] at h3
  exact Nat.le_trans (by omega) h3
 ·have:=rd_of h1
  rw [D.cells] at this
  obtain ⟨c,cs',e1,e2,e3⟩:=repL_cons.1 this
  rw [repL_nil] at e3
  subst e3
  injection e1 with e1
  rw [e1]
  exact e2
end
end AX
end Go.Proofs.YteklhoajalgehaaGreatDoor

namespace Go.Proofs.YteklhoajalgehaaGreatDoor
open Go.RowKit Go.ChangeShapes Go.WideShapes
namespace Jr
def toD (r : Jr) : D:=.agg [.int .i64 r.kind,r.base.toD,.int .i64 r.step,.int .i64 r.op,.str r.addr,.str r.dep,.str r.typ,.str r.tok,.int .i64 r.err,r.after.toD]
theorem cells_toD (r : Jr) : r.toD.cells = r.cells:=by
 obtain ⟨kd,st0,st,op,ad,dp,ty,tk,er,af⟩:=r
 have h:=Sf.St.cells_toD st0
 have h2:=Sf.Inst.cells_toD af
 unfold Sf.St.A at h
 injection h with h
 unfold toD cells
 simp only [D.cells,D.cellsL,h,h2,List.cons_append,List.nil_append,List.append_nil]
structure Wf (r : Jr) : Prop where
 base : r.base.Wf
 after : r.after.attrs.Wf
end Jr
set_option maxRecDepth 100000 in
theorem conf_jr {d : D} (h : Conf Tryz.prog d 75) : ∃ x : Jr,d = x.toD ∧ x.Wf:=by
 obtain ⟨l',rfl,h2⟩:=conf_struct Tryz.underlying75 h
 obtain ⟨d0,l1,rfl,c0,h2⟩:=confL_cons h2
 obtain ⟨d1,l2,rfl,c1,h2⟩:=confL_cons h2
 obtain ⟨d2,l3,rfl,c2,h2⟩:=confL_cons h2
 obtain ⟨d3,l4,rfl,c3,h2⟩:=confL_cons h2
 obtain ⟨d4,l5,rfl,c4,h2⟩:=confL_cons h2
 obtain ⟨d5,l6,rfl,c5,h2⟩:=confL_cons h2
 obtain ⟨d6,l7,rfl,c6,h2⟩:=confL_cons h2
 obtain ⟨d7,l8,rfl,c7,h2⟩:=confL_cons h2
 obtain ⟨d8,l9,rfl,c8,h2⟩:=confL_cons h2
 obtain ⟨d9,l10,rfl,c9,h2⟩:=confL_cons h2
 obtain rfl:=confL_nil h2
 obtain ⟨k,rfl,_⟩:=conf_int (k:=.i64) Tryz.underlying66 c0
 obtain ⟨st,rfl,hs⟩:=Sf.conf_st c1
 obtain ⟨n,rfl,_⟩:=conf_int (k:=.i64) Tryz.underlying3 c2
 obtain ⟨o,rfl,_⟩:=conf_int (k:=.i64) Tryz.underlying67 c3
 obtain ⟨a,rfl,_⟩:=conf_str Tryz.underlying9 c4
 obtain ⟨b,rfl,_⟩:=conf_str Tryz.underlying9 c5
 obtain ⟨c,rfl,_⟩:=conf_str Tryz.underlying9 c6
 obtain ⟨t,rfl,_⟩:=conf_str Tryz.underlying9 c7
 obtain ⟨e,rfl,_⟩:=conf_int (k:=.i64) Tryz.underlying26 c8
 obtain ⟨x,rfl,hx⟩:=Sf.conf_inst c9
 exact ⟨⟨k,st,n,o,a,b,c,t,e,x⟩,rfl,hs,hx⟩
structure Jrs where
 l : List Jr
def Jrs.bulkD (x : Jrs) : Nat:=D.bulks (x.l.map Jr.toD)
namespace AX
def kJrs : List TypeId:=[62,75,66,67,26,39,73,121,132,35,36,37,71,68,3,9,4,69,30]
theorem kJrs_plain : plainAll Tryz.prog kJrs = true:=by kernel_rfl
section
variable {H : Type} {enc : TypeId × Value → H} {w : World} {base : Nat} {spare : Nat → Bool} {held : Bool} {r : Reach} {b0 : Nat} {v : Value} {d : DataW H} {p : List MemPlace}
set_option maxRecDepth 100000 in
theorem arg_conf_jrs (hval : Value.okWide Tryz.prog w r b0 62 v) (h : DataW.Trod enc Tryz.prog w base spare held 62 v d p) :
  ∃ (x : Jrs) (_ : ((∀ a ∈ x.l,a.Wf) ∧ x.l.length ≤ maxLen) ∧ x.bulkD ≤ Rows.uptoBulk d),Rep (Ctx.of w) (.sl 26 .no (x.l.map Jr.cells)) v:=by
 obtain ⟨l,h1,h2,h3,h4⟩:=arg_sliceB kJrs_plain (by decide) Tryz.underlying62 hval h
 obtain ⟨xs,rfl,hx⟩:=list_of_ l fun d hd => conf_jr (confA_mem h1 d hd)
 rw [Sf.rows_map Jr.toD Jr.cells Jr.cells_toD] at h4
 have hw : Tryz.prog.cellsOf 75 = 26:=by kernel_rfl
 rw [hw] at h4
 exact ⟨⟨xs⟩,⟨⟨hx,by simpa using h2⟩,h3⟩,h4⟩
end
structure JrFit (r : Jr) : Prop where
 few : JrFew r
 strs : r.addr.length ≤ 2000000 ∧ r.dep.length ≤ 2000000 ∧ r.typ.length ≤ 2000000 ∧ r.tok.length ≤ 2000000 ∧ r.after.addr.length ≤ 2000000 ∧ r.after.dep.length ≤ 2000000 ∧ r.after.id.length ≤ 2000000 ∧ r.after.typ.length ≤ 2000000
 deps : r.after.deps.length ≤ 2000000 ∧ ∀ s ∈ r.after.deps,s.length ≤ 2000000
theorem jr_fit {r : Jr} (hw : r.Wf) (hb : r.toD.bulk ≤ 1048576) : JrFit r:=by
 unfold Jr.toD at hb
 simp only [D.bulk,D.bulks] at hb
 have hb1 : r.base.toD.bulk ≤ 1048576:=by omega
 have hb2 : r.after.toD.bulk ≤ 1048576:=by omega
 have f1:=(Sf.fit_of hw.base (Nat.le_trans hb1 (by decide))).sin
 have f2:=Sf.inst_fit hw.after (Nat.le_trans hb2 (by decide))
 have vf : ∀ x : Sf.Inst,x.toD.bulk ≤ 1500000 → x.attrs.few ∧ x.deps.length ≤ 1000000000:=fun x hx => by
  unfold Sf.Inst.toD at hx
  simp only [D.bulk,D.bulks] at hx
  have:=(strs_bulk x.deps).1
  exact ⟨V.few_of _ (by omega),by omega⟩
 have hb3:=hb1
 unfold Sf.St.toD at hb3
 simp only [D.bulk,D.bulks] at hb3
 obtain ⟨i1,i2⟩:=map_bulk Sf.Inst.toD r.base.insts
 obtain ⟨p1,p2⟩:=map_bulk Sf.Pend.toD r.base.pends
 obtain ⟨o1,o2⟩:=map_bulk Sf.Outp.toD r.base.outs
 have hb4:=hb2
 unfold Sf.Inst.toD at hb4
 simp only [D.bulk,D.bulks] at hb4
 obtain ⟨d1,d2⟩:=strs_bulk r.after.deps
 refine ⟨⟨⟨f1,V.Wf.lens _ hw.after,by omega⟩,V.few_of _ (by omega),⟨by omega,fun x hx => vf x (by have:=i2 x hx; omega)⟩,by omega,by omega,fun x hx => ?_⟩,⟨by omega,by omega,by omega,by omega,by omega,by omega,by omega,by omega⟩,by omega,fun s hs => by have:=d2 s hs; omega⟩
 have h1 : x.toD.bulk ≤ 1048576:=by have:=o2 x hx; omega
 unfold Sf.Outp.toD at h1
 simp only [D.bulk,D.bulks] at h1
 exact V.few_of _ (by omega)
def lsum : List (List UInt8) → Int → Int
 | [],n => n
 | s :: l,n => if n ≤ 20000 then lsum l (n + 1 + s.length) else n
def lightB (r : Jr) : Bool:=
 decide (lsum r.after.deps ((r.addr.length : Int) + r.dep.length + r.typ.length + r.tok.length + r.after.addr.length + r.after.dep.length + r.after.id.length + r.after.typ.length) ≤ 20000) && Sf.smallP 30 200 r.base && (decide (0 ≤ Val.left r.after.attrs ((200 : Nat) : Int) 40) && decide (IntKind.i64.wrap (Val.keysN r.after.attrs) ≤ 2 * ((200 : Nat) : Int)))
theorem a_jlight (r : Jr) (hf : JrFit r) (h : Hp) : ACall Tryz.prog GT 59 [.agg r.cells] h fun v h' => v = .bool (lightB r) ∧ h' = h:=by
 have c1:=a_r31Small r.base hf.few.inn.base 30 200 (by decide) (by decide) (by decide)
 have c2:=a_rSmall r.after.attrs 200 (by decide) hf.few.inn.lens
 obtain ⟨s1,s2,s3,s4,s5,s6,s7,s8⟩:=hf.strs
 obtain ⟨d1,d2⟩:=hf.deps
 clear hf
 unfold lightB
 obtain ⟨B1,hB1⟩ : ∃ B,Sf.smallP 30 200 r.base = B:=⟨_,rfl⟩
 obtain ⟨B2,hB2⟩ : ∃ B,(decide (0 ≤ Val.left r.after.attrs ((200 : Nat) : Int) 40) && decide (IntKind.i64.wrap (Val.keysN r.after.attrs) ≤ 2 * ((200 : Nat) : Int))) = B:=⟨_,rfl⟩
 rw [hB1] at c1 ⊢
 rw [hB2] at c2 ⊢
 clear hB1 hB2
 have c2 : ∀ h,ACall Tryz.prog GT 84 [r.after.attrs.A,.int .i64 200] h fun v h' => v = .bool B2 ∧ h' = h:=c2
 obtain ⟨kd,⟨lin,ser,ins,ps,os⟩,st,op,ad,dp,ty,tk,er,⟨a1,a2,a3,a4,⟨k,nn,ss,is,ks⟩,v,tn,fi,ds⟩⟩:=r
 dsimp only at s1 s2 s3 s4 s5 s6 s7 s8 d1 d2 ⊢
 simp only [Jr.cells,Sf.Inst.cells,List.cons_append,List.nil_append,Sf.St.A,V.A,V.cells] at *
 have w1 : IntKind.i64.wrap ((ad.length : Int) + dp.length) = (ad.length : Int) + dp.length:=wrap64 (by omega) (by omega)
 have w2 : IntKind.i64.wrap ((ad.length : Int) + dp.length + ty.length) = (ad.length : Int) + dp.length + ty.length:=wrap64 (by omega) (by omega)
 have w3 : IntKind.i64.wrap ((ad.length : Int) + dp.length + ty.length + tk.length) = (ad.length : Int) + dp.length + ty.length + tk.length:=wrap64 (by omega) (by omega)
 have w4 : IntKind.i64.wrap ((ad.length : Int) + dp.length + ty.length + tk.length + a1.length) = (ad.length : Int) + dp.length + ty.length + tk.length + a1.length:=wrap64 (by omega) (by omega)
 have w5 : IntKind.i64.wrap ((ad.length : Int) + dp.length + ty.length + tk.length + a1.length + a2.length) = (ad.length : Int) + dp.length + ty.length + tk.length + a1.length + a2.length:=wrap64 (by omega) (by omega)
 have w6 : IntKind.i64.wrap ((ad.length : Int) + dp.length + ty.length + tk.length + a1.length + a2.length + a3.length) = (ad.length : Int) + dp.length + ty.length + tk.length + a1.length + a2.length + a3.length:=wrap64 (by omega) (by omega)
 have w7 : IntKind.i64.wrap ((ad.length : Int) + dp.length + ty.length + tk.length + a1.length + a2.length + a3.length + a4.length) = (ad.length : Int) + dp.length + ty.length + tk.length + a1.length + a2.length + a3.length + a4.length:=wrap64 (by omega) (by omega)
 obtain ⟨N,hN⟩ : ∃ N,(ad.length : Int) + dp.length + ty.length + tk.length + a1.length + a2.length + a3.length + a4.length = N:=⟨_,rfl⟩
 have hN0 : 0 ≤ N ∧ N ≤ 16000000:=by omega
 have w7 : IntKind.i64.wrap ((ad.length : Int) + dp.length + ty.length + tk.length + a1.length + a2.length + a3.length + a4.length) = N:=w7.trans hN
 rw [hN]
 have li:=strsA_length ds
 refine pcall ?_ rfl (by simp [A.pure,A.data]) h
 refine fo ?_
 refine runx0 (ai w1 (ai w2 (ai w3 (ai w4 (ai w5 (ai w6 w7)))))) ti ?_
 obtain ⟨D,hD⟩ : ∃ D,lsum ds N = D:=⟨_,rfl⟩
 rw [hD]
 refine awp_loop (fun m ts hh => ∃ (j : Nat) (n : Int),m = ds.length - j ∧ j ≤ ds.length ∧ hh = ⟨[.cells 75 [.int .i64 kd,.str lin,.int .i64 ser,.sl 13 .no (ins.map Sf.Inst.cells),.sl 3 .no (ps.map Sf.Pend.cells),.sl 7 .no (os.map Sf.Outp.cells),.int .i64 st,.int .i64 op,.str ad,.str dp,.str ty,.str tk,.int .i64 er,.str a1,.str a2,.str a3,.str a4,.int .i64 k,.int .i64 nn,.str ss,.sl 5 .no (V.cellss is),.sl 1 .no (strsA ks),.int .i64 v,.bool tn,.bool fi,.sl 1 .no (strsA ds)]],[]⟩ ∧ lsum (ds.drop j) n = D ∧ 0 ≤ n ∧ n ≤ 16000000 ∧ (ts 1 = .ptr 0 0 ∧ ts 3 = .int .i64 n ∧ ts 4 = .int .i64 (j : Nat))) ds.length ?_ ?_
 ·exact ⟨0,N,rfl,Nat.zero_le _,rfl,hD,hN0.1,hN0.2,by (exact inv0 (ai w1 (ai w2 (ai w3 (ai w4 (ai w5 (ai w6 w7)))))))⟩
 rintro m ts hh ⟨j,n,rfl,hj,rfl,hs,hn0,hn1,ht⟩
 rcases Nat.lt_or_ge j ds.length with hlt | hge
 rotate_left
 ·have hf : ¬ (j : Int) < (ds.length : Int):=by omega
  rw [List.drop_of_length_le hge] at hs
  have hs : n = D:=hs
  subst hs
  refine runx0 (ai ht (ai li hf)) (ai c1 (ai c2 ti)) ?_
  exact ⟨_,le_refl _,rfl⟩
 have hf':=rowj_at (fun s : List UInt8 => [A.str s]) ds j hlt (by omega)
 have hf : (strsA ds).length = ds.length ∧ (j : Int) < (ds.length : Int) ∧ (0 : Int) ≤ (j : Int) ∧ (strsA ds).getD j [] = [.str ds[j]] ∧ IntKind.i64.wrap ((j : Int) + 1) = ((j + 1 : Nat) : Int):=hf'
 clear hf'
 rw [List.drop_eq_getElem_cons hlt] at hs
 unfold lsum at hs
 have hds:=d2 _ (List.getElem_mem hlt)
 obtain ⟨s,hs'⟩ : ∃ s,ds[j] = s:=⟨_,rfl⟩
 rw [hs'] at hf hs hds
 by_cases hle : n ≤ 20000
 ·rw [if_pos hle] at hs
  have u1 : IntKind.i64.wrap (n + 1) = n + 1:=wrap64 (by omega) (by omega)
  have u2 : IntKind.i64.wrap (n + 1 + s.length) = n + 1 + s.length:=wrap64 (by omega) (by omega)
  refine runx0 (ai ht (ai hf (ai hle (ai u1 u2)))) ti ?_
  exact ⟨_,by omega,j + 1,n + 1 + s.length,rfl,by omega,rfl,hs,by omega,by omega,by (exact inv0 (ai ht hf))⟩
 ·rw [if_neg hle] at hs
  subst hs
  refine runx0 (ai ht (ai hf hle)) ti ?_
  exact ⟨_,le_refl _,by simp [hle,tupA]⟩
end AX
end Go.Proofs.YteklhoajalgehaaGreatDoor

namespace Go.Proofs.YteklhoajalgehaaGreatDoor
open Go.RowKit
namespace AX
def fewJ (l : List Jr) : Bool:=(l.take 41).all lightB && decide (l.length ≤ 40)
theorem a_jfew (l : List Jr) (hin : ∀ a ∈ l,JrFit a) (hl : l.length ≤ 1000000000) (h : Hp) : ACall Tryz.prog GT 28 [.sl 26 .no (l.map Jr.cells)] h fun r h' => r = .bool (fewJ l) ∧ h' = h:=by
 refine pcall ?_ rfl (by simp [A.pure,A.data]) h
 refine fo ?_
 obtain ⟨q,hq⟩ : ∃ q,fewJ l = q:=⟨_,rfl⟩
 rw [hq]
 unfold fewJ at hq
 have e40 : decide ((l.length : Int) ≤ 40) = decide (l.length ≤ 40):=by rw [decide_eq_decide]; omega
 have lt41 : (l.take 41).length = min 41 l.length:=List.length_take
 have li : (l.map Jr.cells).length = l.length:=List.length_map _
 refine run0 ti ?_
 refine awp_loop (fun m ts hh => hh = ⟨[],[]⟩ ∧ ∃ i : Nat,m = l.length - i ∧ i ≤ l.length ∧ i ≤ 41 ∧ ((l.take 41).drop i).all lightB = (l.take 41).all lightB ∧ (ts 0 = .sl 26 .no (l.map Jr.cells) ∧ ts 3 = .int .i64 (i : Nat))) l.length ?_ ?_
 ·exact ⟨rfl,0,rfl,Nat.zero_le _,by omega,rfl,by (exact inv0 ti)⟩
 rintro m ts hh ⟨rfl,i,rfl,hi,h41,heq,ht⟩
 have fin : l.length ≤ i ∨ 41 ≤ i → (l.take 41).all lightB = true:=fun hc => by
  rw [← heq,List.drop_of_length_le (by omega)]; rfl
 rcases Nat.lt_or_ge i l.length with hlt | hge
 rotate_left
 ·have hf:=rowj_end Jr.cells l i hge
  rw [fin (.inl hge),Bool.true_and] at hq
  refine runx0 (ai ht hf) ti ?_
  exact ⟨_,le_refl _,by rw [tupA_1,← hq,e40]⟩
 have hf:=rowj_at Jr.cells l i hlt (by omega)
 rcases Nat.lt_or_ge i 41 with h3 | h3
 rotate_left
 ·have g3 : ¬ (i : Int) ≤ 40:=by omega
  rw [fin (.inr h3),Bool.true_and] at hq
  refine runx0 (ai ht (ai hf g3)) ti ?_
  exact ⟨_,le_refl _,by rw [tupA_1,← hq,e40]⟩
 have g3 : (i : Int) ≤ 40:=by omega
 have hlt' : i < (l.take 41).length:=by omega
 rw [all_drop _ _ _ hlt',List.getElem_take] at heq
 have hc:=a_jlight l[i] (hin _ (List.getElem_mem hlt))
 obtain ⟨a,ha⟩ : ∃ a,l[i] = a:=⟨_,rfl⟩
 rw [ha] at hf heq hc
 obtain ⟨b,hb⟩ : ∃ b,lightB a = b:=⟨_,rfl⟩
 rw [hb] at heq hc
 have no : (l.take 41).all lightB = false → q = false:=fun e => by rw [← hq,e]; rfl
 clear hb ha
 obtain ⟨kd,⟨lin,ser,ins,ps,os⟩,st,op,ad,dp,ty,tk,er,⟨a1,a2,a3,a4,⟨k,nn,ss,is,ks⟩,v,tn,fi,ds⟩⟩:=a
 simp only [Jr.cells,Sf.Inst.cells,List.cons_append,List.nil_append] at hf hc
 cases b with
 | false =>
  rw [no (by rw [← heq]; rfl)]
  refine runx0 (ai ht (ai hf g3)) (ai hc ti) ?_
  exact ⟨_,le_refl _,rfl⟩
 | true =>
  refine runx0 (ai ht (ai hf g3)) (ai hc ti) ?_
  exact ⟨_,by omega,rfl,i + 1,rfl,by omega,by omega,by rw [← heq,Bool.true_and],by (exact inv0 (ai ht hf))⟩
theorem jrs_fit (x : Jrs) (k : ((∀ a ∈ x.l,a.Wf) ∧ x.l.length ≤ maxLen) ∧ x.bulkD ≤ 1048576) : (∀ a ∈ x.l,JrFit a) ∧ x.l.length ≤ 1000000000:=by
 have hm:=map_bulk Jr.toD x.l
 have h3 : D.bulks (x.l.map Jr.toD) ≤ 1048576:=k.2
 exact ⟨fun a ha => jr_fit (k.1.1 a ha) (Nat.le_trans (hm.2 a ha) h3),by have:=hm.1; omega⟩
end AX
namespace Jr
def noneR (x : Sf.Inst) : Bool:=x.addr == [] && x.dep == [] && x.id == [] && x.typ == [] && Val.eqB x.attrs (.mk 0 0 [] [] []) && x.ver == 0 && !x.tainted && !x.first && (x.deps.length : Int) == 0
def emptyR (s : Sf.St) : Bool:=s.lin == [] && s.ser == 0 && ((s.insts.length : Int) + s.pends.length + s.outs.length) == 0
def stepR (r : Jr) : Bool:=emptyR r.base && decide (r.step ≥ 0) && decide (r.step < 2048) && decide (r.op ≥ 1) && decide (r.op ≤ 4) && shortB [r.addr,r.dep,r.typ,r.tok]
def validR (r : Jr) : Bool:=
 if r.kind = 1 then r.step == 0 && r.op == 0 && r.addr == [] && r.dep == [] && r.typ == [] && r.tok == [] && r.err == 0 && noneR r.after
 else if r.kind = 5 then r.step == 0 && r.op == 0 && r.addr == [] && r.dep == [] && r.typ == [] && r.tok == [] && r.err == 0 && noneR r.after && emptyR r.base
 else if r.kind = 2 then stepR r && r.err == 0 && noneR r.after && (r.op == 1 || r.tok == [])
 else if r.kind = 3 then stepR r && r.err == 0 && r.tok == [] && instB r.after && (r.op == 1 || r.op == 2 || noneR r.after)
 else if r.kind = 4 then stepR r && decide (r.err > 0) && decide (r.err ≤ 42) && r.tok == [] && instB r.after && (r.op == 1 || r.op == 2 || noneR r.after)
 else false
theorem noneR_eq (x : Sf.Inst) : noneR x = noneB x:=by
 obtain ⟨a,d,i,t,⟨k,n,s,is,ks⟩,v,tn,fi,ds⟩:=x
 unfold noneR noneB zeroV
 simp only [Val.eqB]
 have h1 : (ks == []) = ((ks.length : Int) == 0):=by cases ks <;> simp <;> omega
 have h2 : Val.eqBs is [] = ((is.length : Int) == 0):=by
  cases is with
  | nil => simp [Val.eqBs]
  | cons v l =>
   simp only [Val.eqBs,List.length_cons]
   symm
   simp
   omega
 rw [h1,h2]
 cases (k == 0) <;> cases (n == 0) <;> cases (s == []) <;> cases ((is.length : Int) == 0) <;> cases ((ks.length : Int) == 0) <;> simp
theorem emptyR_eq (s : Sf.St) : emptyR s = emptyB s:=by
 unfold emptyR emptyB
 have h : (((s.insts.length : Int) + s.pends.length + s.outs.length) == 0) = (((s.insts.length : Int) == 0) && ((s.pends.length : Int) == 0) && ((s.outs.length : Int) == 0)):=by
  rw [Bool.eq_iff_iff]
  simp only [beq_iff_eq,Bool.and_eq_true]
  omega
 rw [h]
 simp only [Bool.and_assoc]
theorem none_inst {x : Sf.Inst} (h : noneB x = true) : instB x = true:=by
 obtain ⟨a,d,i,t,⟨k,n,s,is,ks⟩,v,tn,fi,ds⟩:=x
 unfold noneB zeroV at h
 simp only [Bool.and_eq_true,beq_iff_eq] at h
 obtain ⟨⟨⟨⟨⟨⟨⟨⟨⟨⟨⟨⟨hk,hn⟩,hs⟩,hi⟩,hks⟩,ha⟩,hd⟩,hid⟩,ht⟩,hv⟩,_⟩,_⟩,hde⟩:=h
 have e1 : is = []:=List.eq_nil_of_length_eq_zero (by omega)
 have e2 : ks = []:=List.eq_nil_of_length_eq_zero (by omega)
 have e3 : ds = []:=List.eq_nil_of_length_eq_zero (by omega)
 subst hk hn hs ha hd hid ht hv e1 e2 e3
 cases tn <;> cases fi <;> decide +kernel
theorem validR_eq (r : Jr) : validR r = validB r:=by
 unfold validR validB stepR stepB afterB bareB makesB
 rw [noneR_eq,emptyR_eq]
 have hs4 : shortB [r.addr,r.dep,r.typ,r.tok] = (shortB [r.addr,r.dep,r.typ] && shortB [r.tok]):=by
  simp only [shortB,List.all_cons,List.all_nil,Bool.and_true,Bool.and_assoc]
 have ht : (r.tok == []) = true → shortB [r.tok] = true:=fun h => by
  rw [beq_iff_eq] at h; rw [h]; rfl
 have hni:=@none_inst r.after
 have he : decide (r.err > 0) = decide (r.err ≥ 1):=by rw [decide_eq_decide]; omega
 rw [hs4,he]
 have hb : badB r = (!(r.kind == 1) && !emptyB r.base || !(r.kind == 2) && !(r.tok == []) || !(r.kind == 4) && !(r.err == 0)):=rfl
 generalize badB r = B at *
 clear hs4 he
 obtain ⟨kd,base,st,op,ad,dp,ty,tk,er,af⟩:=r
 dsimp only at *
 generalize shortB [tk] = T at *
 generalize shortB [ad,dp,ty] = S at *
 generalize noneB af = N at *
 generalize instB af = I at *
 generalize emptyB base = E at *
 generalize (tk == []) = K at *
 generalize (er == 0) = R at *
 generalize decide (er ≥ 1) = R1 at *
 generalize decide (er ≤ 42) = R2 at *
 generalize (st == 0) = P0 at *
 generalize (op == 0) = P1 at *
 generalize (op == 1) = O1 at *
 generalize (op == 2) = O2 at *
 generalize decide (st ≥ 0) = P2 at *
 generalize decide (st < 2048) = P3 at *
 generalize decide (op ≥ 1) = P4 at *
 generalize decide (op ≤ 4) = P5 at *
 generalize (ad == []) = Q1 at *
 generalize (dp == []) = Q2 at *
 generalize (ty == []) = Q3 at *
 by_cases k1 : kd = 1
 ·subst k1
  simp at hb
  subst hb
  clear hni ht
  cases K <;> cases R <;> simp
 by_cases k5 : kd = 5
 ·subst k5
  simp at hb
  subst hb
  clear hni ht
  cases E <;> cases K <;> cases R <;> simp
 by_cases k2 : kd = 2
 ·subst k2
  simp at hb
  subst hb
  clear hni
  cases K
  ·clear ht; cases E <;> cases R <;> cases T <;> cases S <;> cases N <;> simp
  ·have:=ht rfl; subst this; cases E <;> cases R <;> cases S <;> cases N <;> simp
 have hT : K = true → T = true:=ht
 by_cases k3 : kd = 3
 ·subst k3
  simp at hb
  subst hb
  cases K
  ·clear ht; simp
  ·have:=ht rfl; subst this; clear ht hT; cases E <;> cases R <;> cases S <;> simp <;> (cases N <;> cases I <;> cases O1 <;> cases O2 <;> simp at hni ⊢)
 by_cases k4 : kd = 4
 ·subst k4
  simp at hb
  subst hb
  cases K
  ·clear ht; simp
  ·have:=ht rfl; subst this; clear ht hT; cases E <;> cases R1 <;> cases R2 <;> cases S <;> simp <;> (cases N <;> cases I <;> cases O1 <;> cases O2 <;> simp at hni ⊢)
 simp [k1,k2,k3,k4,k5]
end Jr
namespace Jr
def isInt (n : Int) (r : Jr) : Bool:=r.kind == 2 && r.step == n
def intentR (l : List Jr) (n : Int) : Option Jr:=l.find? (isInt n)
def lastEnd (l : List Jr) : Bool:=match l.getLast? with
 | some r => r.kind == 5
 | none => false
def followsR (l : List Jr) (r : Jr) : Bool:=
 if l.isEmpty || r.kind == 1 then l.isEmpty && r.kind == 1
 else if lastEnd l = true then false
 else if r.kind = 2 then !(intentR l r.step).isSome
 else if r.kind = 5 then (unfin l).isEmpty
 else match intentR l r.step with
  | some i => !endedB r.step l && i.op == r.op && i.addr == r.addr && i.typ == r.typ
  | none => false
def chkR : List Jr → List Jr → Int
 | _,[] => 0
 | p,r :: l => if (!r.validR || (r.kind == 1 && Sf.checkZ r.base != 0)) = true then 1 else if followsR p r = true then chkR (p ++ [r]) l else 38
end Jr
theorem len_sub {α : Type} [DecidableEq α] : ∀ (b a : List α),b.Nodup → b ⊆ a → b.length ≤ a.length
 | [],a,_,_ => Nat.zero_le _
 | x :: b,a,hn,hs => by
  have hx : x ∈ a:=hs (List.mem_cons_self)
  have hn':=List.nodup_cons.1 hn
  have h1 : b ⊆ a.erase x:=fun y hy => (List.mem_erase_of_ne (fun e => hn'.1 (by rw [← e]; exact hy))).2 (hs (List.mem_cons_of_mem _ hy))
  have h2:=len_sub b (a.erase x) hn'.2 h1
  have h3:=List.length_erase_of_mem hx
  have h4 : 0 < a.length:=List.length_pos_of_mem hx
  rw [List.length_cons]
  omega
theorem len_eq_sub {α : Type} [DecidableEq α] {a b : List α} (ha : a.Nodup) (hb : b.Nodup) (hs : b ⊆ a) : a.length = b.length ↔ a ⊆ b:=by
 constructor
 ·intro h x hx
  refine Classical.byContradiction fun hc => ?_
  have h1 : b ⊆ a.erase x:=fun y hy => (List.mem_erase_of_ne (fun e => hc (by rw [← e]; exact hy))).2 (hs hy)
  have h2:=len_sub b _ hb h1
  have h3:=List.length_erase_of_mem hx
  have h4 : 0 < a.length:=List.length_pos_of_mem hx
  omega
 ·intro h
  exact Nat.le_antisymm (len_sub _ _ ha h) (len_sub _ _ hb hs)
def gkeys {α : Type} (m : List (Int × α)) : List Int:=m.map (·.1)
theorem gfind_some {α : Type} (n : Int) : ∀ m : List (Int × α),(gfind n m).isSome = true ↔ n ∈ gkeys m
 | [] => by simp [gfind,gkeys]
 | (k,x) :: m => by
  have ih:=gfind_some n m
  have e : gfind n ((k,x) :: m) = if n = k then some x else gfind n m:=rfl
  rw [e]
  by_cases h : n = k
  ·subst h; simp [gkeys]
  ·rw [if_neg h,ih]
   unfold gkeys
   rw [List.map_cons,List.mem_cons]
   simp [h]
theorem gput_keys {α : Type} (n : Int) (x : α) : ∀ m : List (Int × α),gkeys (gput n x m) = if n ∈ gkeys m then gkeys m else gkeys m ++ [n]
 | [] => by simp [gput,gkeys]
 | (k,y) :: m => by
  have ih:=gput_keys n x m
  unfold gput
  by_cases h : n = k
  ·subst h; simp [gkeys]
  ·rw [if_neg h]
   unfold gkeys at *
   simp only [List.map_cons,List.mem_cons,h,false_or,ih]
   split <;> rfl
theorem gput_nodup {α : Type} (n : Int) (x : α) (m : List (Int × α)) (h : (gkeys m).Nodup) : (gkeys (gput n x m)).Nodup:=by
 rw [gput_keys]
 split
 ·exact h
 ·next hc =>
  rw [List.nodup_append]
  exact ⟨h,by simp,by rintro a ha b hb rfl; rw [List.mem_singleton] at hb; subst hb; exact hc ha⟩
theorem gput_mem {α : Type} (n k : Int) (x : α) (m : List (Int × α)) : k ∈ gkeys (gput n x m) ↔ k = n ∨ k ∈ gkeys m := by
 rw [gput_keys]
 split
 ·next hc => constructor
             · exact .inr
             · rintro (rfl | h)
               · exact hc
               · exact h
 ·rw [List.mem_append,List.mem_singleton]; exact Or.comm
namespace Jr
structure Foo (f : Fo) (p : List Jr) : Prop where
 n : f.n = (p.length : Int)
 e : f.ended = lastEnd p
 i : ∀ n,gfind n f.ints = intentR p n
 r : ∀ n,(gfind n f.ress).isSome = endedB n p
 rt : ∀ n,(gfind n f.ress).getD false = endedB n p
 di : (gkeys f.ints).Nodup
 dr : (gkeys f.ress).Nodup
 s : gkeys f.ress ⊆ gkeys f.ints
theorem foo0 : Foo ⟨0,false,[],[],0,0⟩ []:=⟨rfl,rfl,fun _ => rfl,fun _ => rfl,fun _ => rfl,by simp [gkeys],by simp [gkeys],by simp [gkeys]⟩
theorem unfin_nil (l : List Jr) : (unfin l).isEmpty = true ↔ ∀ n,(intentR l n).isSome = true → endedB n l = true:=by
 unfold unfin intentR
 rw [List.isEmpty_iff,List.filter_eq_nil_iff]
 constructor
 ·intro h n hn
  rw [List.find?_isSome] at hn
  obtain ⟨r,hr,hi⟩:=hn
  have:=h r hr
  unfold isInt at hi
  rw [Bool.and_eq_true,beq_iff_eq,beq_iff_eq] at hi
  rw [hi.1,hi.2] at this
  simpa using this
 ·intro h r hr hc
  rw [Bool.and_eq_true,beq_iff_eq] at hc
  have:=h r.step (by rw [List.find?_isSome]; exact ⟨r,hr,by unfold isInt; rw [hc.1]; simp⟩)
  rw [this] at hc
  simp at hc
theorem Foo.lens {f : Fo} {p : List Jr} (h : Foo f p) : ((f.ints.length : Int) == (f.ress.length : Int)) = (unfin p).isEmpty:=by
 rw [Bool.eq_iff_iff,unfin_nil,beq_iff_eq]
 have h1:=len_eq_sub h.di h.dr h.s
 have e1 : (gkeys f.ints).length = f.ints.length:=List.length_map _
 have e2 : (gkeys f.ress).length = f.ress.length:=List.length_map _
 rw [e1,e2] at h1
 have h2 : ((f.ints.length : Int) = (f.ress.length : Int)) ↔ f.ints.length = f.ress.length:=by omega
 rw [h2,h1]
 constructor
 ·intro hs n hn
  rw [← h.i] at hn
  rw [← h.r]
  exact (gfind_some n _).2 (hs ((gfind_some n _).1 hn))
 ·intro hs n hn
  have:=hs n (by rw [← h.i]; exact (gfind_some n _).2 hn)
  rw [← h.r] at this
  exact (gfind_some n _).1 this
theorem lastEnd_snoc (p : List Jr) (r : Jr) : lastEnd (p ++ [r]) = (r.kind == 5):=by unfold lastEnd; rw [List.getLast?_append]; rfl
theorem intentR_snoc (p : List Jr) (r : Jr) (n : Int) : intentR (p ++ [r]) n = (intentR p n).or (if isInt n r = true then some r else none):=by
 unfold intentR
 rw [List.find?_append]
 congr 1
 cases h : isInt n r <;> simp [List.find?,h]
theorem endedB_snoc (p : List Jr) (r : Jr) (n : Int) : endedB n (p ++ [r]) = (endedB n p || ((r.kind == 3 || r.kind == 4) && r.step == n)):=by
 unfold endedB
 rw [List.any_append]; simp
theorem foo_next {f : Fo} {p : List Jr} (h : Foo f p) (hl : p.length < 1000000) {r : Jr} (hk : r.kind = 1 ∨ r.kind = 2 ∨ r.kind = 3 ∨ r.kind = 4 ∨ r.kind = 5) :
  (f.next r).1 = followsR p r ∧ (followsR p r = true → Foo (f.next r).2 (p ++ [r])):=by
 have hw : IntKind.i64.wrap (f.n + 1) = ((p ++ [r]).length : Int):=by
  rw [h.n,AX.wrap64 (by omega) (by omega),List.length_append]; simp
 have hz : (f.n == 0) = p.isEmpty:=by
  rw [h.n]; cases p <;> simp <;> omega
 unfold Fo.next followsR
 rw [h.e,hz]
 cases p with
 | nil =>
  have h0 : lastEnd ([] : List Jr) = false:=rfl
  rw [h0]
  by_cases k1 : r.kind = 1
  ·have : (r.kind == 1) = true:=by rw [k1]; rfl
   simp only [this,k1]
   refine ⟨by simp,fun _ => ?_⟩
   simp
   refine ⟨hw,?_,?_,?_,?_,h.di,h.dr,h.s⟩
   ·show false = lastEnd [r]
    unfold lastEnd; simp [k1]
   ·intro n
    show gfind n f.ints = _
    rw [h.i]; unfold intentR isInt; simp [List.find?,k1]
   ·intro n
    show (gfind n f.ress).isSome = _
    rw [h.r]; unfold endedB; simp [k1]
   ·intro n
    show (gfind n f.ress).getD false = _
    rw [h.rt]; unfold endedB; simp [k1]
  ·have : (r.kind == 1) = false:=by simp [k1]
   simp [this]
 | cons a p' =>
  generalize hp : a :: p' = p at *
  have he : p.isEmpty = false:=by rw [← hp]; rfl
  rw [he]
  by_cases k1 : r.kind = 1
  ·have : (r.kind == 1) = true:=by rw [k1]; rfl
   simp [this]
  have hk1 : (r.kind == 1) = false:=by simp [k1]
  rw [hk1]
  cases hE : lastEnd p
  rotate_left
  ·simp
  simp only [Bool.false_or,Bool.or_false,beq_self_eq_true,Bool.not_true,Bool.false_eq_true,if_false]
  by_cases k2 : r.kind = 2
  ·simp only [k2,if_true]
   rw [h.i]
   refine ⟨rfl,fun hf => ?_⟩
   rw [Bool.not_eq_true'] at hf
   refine ⟨hw,?_,?_,?_,?_,gput_nodup _ _ _ h.di,h.dr,fun x hx => (gput_mem _ _ _ _).2 (.inr (h.s hx))⟩
   ·show false = _
    rw [lastEnd_snoc,k2]; rfl
   ·intro n
    show gfind n (gput r.step r f.ints) = _
    rw [AX.gfind_put,intentR_snoc,h.i]
    by_cases hn : n = r.step
    ·subst hn
     rw [if_pos rfl]
     cases hq : intentR p r.step with
     | some x => rw [hq] at hf; simp at hf
     | none => unfold isInt; simp [k2]
    ·rw [if_neg hn]
     have : isInt n r = false:=by unfold isInt; simp; intro _ e; exact hn e.symm
     rw [this]; simp
   ·intro n
    show (gfind n f.ress).isSome = _
    rw [h.r,endedB_snoc,k2]; simp
   ·intro n
    show (gfind n f.ress).getD false = _
    rw [h.rt,endedB_snoc,k2]; simp
  by_cases k5 : r.kind = 5
  ·simp only [k5]
   simp
   refine ⟨h.lens,fun _ => ⟨hw,?_,?_,?_,?_,h.di,h.dr,h.s⟩⟩
   ·show true = _
    rw [lastEnd_snoc,k5]; rfl
   ·intro n
    show gfind n f.ints = _
    rw [intentR_snoc,h.i]
    have : isInt n r = false:=by unfold isInt; simp [k5]
    rw [this]; simp
   ·intro n
    show (gfind n f.ress).isSome = _
    rw [h.r,endedB_snoc,k5]; simp
   ·intro n
    show (gfind n f.ress).getD false = _
    rw [h.rt,endedB_snoc,k5]; simp
  have k34 : r.kind = 3 ∨ r.kind = 4:=by omega
  have hb34 : (r.kind == 3 || r.kind == 4) = true:=by rcases k34 with e | e <;> rw [e] <;> rfl
  simp only [k2,k5,k34,if_true,if_false]
  rw [h.i,h.rt]
  refine ⟨rfl,fun hf => ?_⟩
  cases hq : intentR p r.step with
  | none => rw [hq] at hf; simp at hf
  | some x =>
   refine ⟨hw,?_,?_,?_,?_,h.di,gput_nodup _ _ _ h.dr,?_⟩
   ·show false = _
    rw [lastEnd_snoc]; simp [k5]
   ·intro n
    show gfind n f.ints = _
    rw [intentR_snoc,h.i]
    have : isInt n r = false:=by unfold isInt; simp [k2]
    rw [this]; simp
   ·intro n
    show (gfind n (gput r.step true f.ress)).isSome = _
    rw [AX.gfind_put,endedB_snoc,hb34]
    by_cases hn : n = r.step
    ·subst hn; simp
    ·rw [if_neg hn,h.r,show (r.step == n) = false by simp; exact fun e => hn e.symm]; simp
   ·intro n
    show (gfind n (gput r.step true f.ress)).getD false = _
    rw [AX.gfind_put,endedB_snoc,hb34]
    by_cases hn : n = r.step
    ·subst hn; simp
    ·rw [if_neg hn,h.rt,show (r.step == n) = false by simp; exact fun e => hn e.symm]; simp
   ·intro k hk
    rcases (gput_mem _ _ _ _).1 hk with rfl | hk
    ·exact (gfind_some _ _).1 (by rw [h.i,hq]; rfl)
    ·exact h.s hk
theorem valid_kind {r : Jr} (h : r.validB = true) : r.kind = 1 ∨ r.kind = 2 ∨ r.kind = 3 ∨ r.kind = 4 ∨ r.kind = 5:=by
 unfold validB at h
 by_cases k1 : r.kind = 1
 ·exact .inl k1
 by_cases k2 : r.kind = 2
 ·exact .inr (.inl k2)
 by_cases k3 : r.kind = 3
 ·exact .inr (.inr (.inl k3))
 by_cases k4 : r.kind = 4
 ·exact .inr (.inr (.inr (.inl k4)))
 by_cases k5 : r.kind = 5
 ·exact .inr (.inr (.inr (.inr k5)))
 simp [k1,k2,k3,k4,k5] at h
theorem chk_eq : ∀ (l p : List Jr) (f : Fo),Foo f p → p.length + l.length ≤ 1000000 → Fo.check f l = chkR p l
 | [],p,f,h,hl => rfl
 | r :: l,p,f,h,hl => by
  unfold Fo.check chkR
  rw [validR_eq]
  cases hv : (!r.validB || (r.kind == 1 && Sf.checkZ r.base != 0))
  rotate_left
  ·rfl
  have hv' : r.validB = true:=by
   cases hb : r.validB
   ·rw [hb] at hv; simp at hv
   ·rfl
  rw [List.length_cons] at hl
  have hn:=foo_next h (by omega) (valid_kind hv')
  simp only [Bool.false_eq_true,if_false]
  rw [hn.1]
  cases hf : followsR p r
  ·rfl
  ·rw [if_pos rfl,if_pos rfl]
   exact chk_eq l (p ++ [r]) _ (hn.2 hf) (by rw [List.length_append]; simp; omega)
end Jr
namespace AX
theorem a_r6letter (c : UInt8) (h : Hp) : ACall Tryz.prog GT 253 [.int .u8 (c.toNat : Int)] h fun r h' => r = .bool (Adr.letter c) ∧ h' = h:=by
 refine pcall ?_ rfl (by simp [A.pure,A.data]) h
 refine fo ?_
 refine runx0 ti ti ?_
 refine ⟨_,le_refl _,?_⟩
 rw [tupA_1]
 congr 1
 unfold Adr.letter
 have e1 : decide ((c.toNat : Int) ≥ 97) = decide (97 ≤ c.toNat):=by rw [decide_eq_decide]; omega
 have e2 : decide ((c.toNat : Int) ≤ 122) = decide (c.toNat ≤ 122):=by rw [decide_eq_decide]; omega
 have e3 : decide ((c.toNat : Int) ≥ 65) = decide (65 ≤ c.toNat):=by rw [decide_eq_decide]; omega
 have e4 : decide ((c.toNat : Int) ≤ 90) = decide (c.toNat ≤ 90):=by rw [decide_eq_decide]; omega
 have e5 : ((c.toNat : Int) == 95) = (c == 95):=by
  rw [Bool.eq_iff_iff,beq_iff_eq,beq_iff_eq,← UInt8.toNat_inj]
  show _ ↔ c.toNat = 95
  omega
 rw [e1,e2,e3,e4,e5]
theorem i80 {n : Nat} (h : n ≤ 2000000) : IntKind.i64.wrap ((n : Int) + 1) = ((n + 1 : Nat) : Int):=by rw [wrap64 (by omega) (by omega)]; omega
theorem word_no (c : UInt8) : (!Adr.letter c && (decide ((c.toNat : Int) < 48) || decide ((c.toNat : Int) > 57))) = !Adr.wordB c:=by
 unfold Adr.wordB Num.digB
 have e1 : decide ((c.toNat : Int) < 48) = !decide (48 ≤ c.toNat):=by rw [← decide_not,decide_eq_decide]; omega
 have e2 : decide ((c.toNat : Int) > 57) = !decide (c.toNat ≤ 57):=by rw [← decide_not,decide_eq_decide]; omega
 rw [e1,e2,Bool.not_or,Bool.not_and]
theorem word_yes (c : UInt8) : (Adr.letter c || (decide ((c.toNat : Int) ≥ 48) && decide ((c.toNat : Int) ≤ 57))) = Adr.wordB c:=by
 unfold Adr.wordB Num.digB
 have e1 : decide ((c.toNat : Int) ≥ 48) = decide (48 ≤ c.toNat):=by rw [decide_eq_decide]; omega
 have e2 : decide ((c.toNat : Int) ≤ 57) = decide (c.toNat ≤ 57):=by rw [decide_eq_decide]; omega
 rw [e1,e2]
theorem a_r6ident (s : List UInt8) (hl : s.length ≤ 2000000) (h : Hp) : ACall Tryz.prog GT 201 [.str s] h fun r h' => r = .bool (Adr.ident s) ∧ h' = h:=by
 refine pcall ?_ rfl (by simp [A.pure,A.data]) h
 refine fo ?_
 obtain ⟨q,hq⟩ : ∃ q,Adr.ident s = q:=⟨_,rfl⟩
 rw [hq]
 unfold Adr.ident at hq
 cases s with
 | nil =>
  refine runx0 ti ti ?_
  exact ⟨_,le_refl _,by rw [← hq]; rfl⟩
 | cons c0 t =>
 have e0 : ((c0 :: t) == ([] : List UInt8)) = false:=rfl
 have e0' : ((c0 :: t) != ([] : List UInt8)) = true:=rfl
 have h0 : (0 : Int) < ((t.length + 1 : Nat) : Int):=by omega
 have hc:=a_r6letter
 rw [e0',Bool.true_and] at hq
 by_cases h64 : (t.length + 1 : Nat) ≤ 64
 rotate_left
 ·have e1 : ((t.length + 1 : Nat) : Int) > 64:=by omega
  have : false = q:=by rw [← hq]; simp; omega
  subst this
  refine runx0 (ai e0 e1) ti ?_
  exact ⟨_,le_refl _,rfl⟩
 have e1 : ¬ ((t.length + 1 : Nat) : Int) > 64:=by omega
 rw [show decide ((c0 :: t).length ≤ 64) = true from decide_eq_true h64,Bool.true_and,List.getD_cons_zero] at hq
 cases hL : Adr.letter c0 with
 | false =>
  rw [hL] at hq
  have : false = q:=hq
  subst this
  have hc0:=hc c0
  rw [hL] at hc0
  refine runx0 (ai e0 (ai e1 h0)) (ai hc0 ti) ?_
  exact ⟨_,le_refl _,rfl⟩
 | true =>
 rw [hL,Bool.true_and] at hq
 have hc0:=hc c0
 rw [hL] at hc0
 refine runx0 (ai e0 (ai e1 h0)) (ai hc0 ti) ?_
 obtain ⟨s,hs⟩ : ∃ s,c0 :: t = s:=⟨_,rfl⟩
 have hsl : t.length + 1 = s.length:=by rw [← hs]; rfl
 rw [hs] at hq ⊢
 refine awp_loop (fun m ts hh => hh = ⟨[],[]⟩ ∧ ∃ j : Nat,m = s.length - j ∧ j ≤ s.length ∧ (s.drop j).all Adr.wordB = s.all Adr.wordB ∧ (ts 0 = .str s ∧ ts 3 = .int .i64 (j : Nat))) s.length ?_ ?_
 ·exact ⟨rfl,0,rfl,Nat.zero_le _,rfl,by (exact inv0 hs)⟩
 rintro m ts hh ⟨rfl,j,rfl,hj,heq,ht⟩
 rcases Nat.lt_or_ge j s.length with hlt | hge
 ·have hf : (j : Int) < (s.length : Int) ∧ (0 : Int) ≤ (j : Int) ∧ IntKind.i64.wrap ((j : Int) + 1) = ((j + 1 : Nat) : Int):=⟨by omega,by omega,i80 (by omega)⟩
  rw [List.drop_eq_getElem_cons hlt,List.all_cons] at heq
  have hg : s.getD j 0 = s[j]:=by simp [List.getD,hlt]
  obtain ⟨c,hcc⟩ : ∃ c,s[j] = c:=⟨_,rfl⟩
  rw [hcc] at heq hg
  have hw:=word_no c
  cases hB : Adr.wordB c with
  | false =>
   rw [hB] at heq hw
   have : false = q:=by rw [← hq,← heq]; rfl
   subst this
   refine runx0 (ai ht (ai hf (ai hg hw))) (ai (hc c) ti) ?_
   exact ⟨_,le_refl _,rfl⟩
  | true =>
   rw [hB] at heq hw
   refine runx0 (ai ht (ai hf (ai hg hw))) (ai (hc c) ti) ?_
   exact ⟨_,by omega,rfl,j + 1,rfl,by omega,heq,by (exact inv0 (ai ht hf))⟩
 ·have hf : ¬ (j : Int) < (s.length : Int):=by omega
  rw [List.drop_of_length_le hge,List.all_nil] at heq
  refine runx0 (ai ht hf) ti ?_
  exact ⟨_,le_refl _,by rw [← hq,← heq]; rfl⟩
theorem a_r6begins (s p : List UInt8) (hl : s.length ≤ 2000000) (hp : p.length ≤ 2000000) (h : Hp) : ACall Tryz.prog GT 289 [.str s,.str p] h fun r h' => r = .bool (Adr.begins s p) ∧ h' = h:=by
 refine pcall ?_ rfl (by simp [A.pure,A.data]) h
 refine fo ?_
 have hb : Adr.begins s p = (decide (p.length ≤ s.length) && (s.take p.length == p)):=by
  unfold Adr.begins
  rw [Bool.eq_iff_iff,List.isPrefixOf_iff_prefix,Bool.and_eq_true,decide_eq_true_eq,beq_iff_eq,List.prefix_iff_eq_take]
  exact ⟨fun e => ⟨by have:=congrArg List.length e; rw [List.length_take] at this; omega,e.symm⟩,fun e => e.2.symm⟩
 rw [hb]
 by_cases hc : p.length ≤ s.length
 ·have e1 : (s.length : Int) ≥ (p.length : Int):=by omega
  have e2 : (0 : Int) ≤ (p.length : Int) ∧ (p.length : Int) ≤ (s.length : Int):=⟨by omega,by omega⟩
  rw [decide_eq_true hc,Bool.true_and]
  refine runx0 (ai e1 e2) ti ?_
  exact ⟨_,le_refl _,rfl⟩
 ·have e1 : ¬ (s.length : Int) ≥ (p.length : Int):=by omega
  rw [decide_eq_false hc,Bool.false_and]
  refine runx0 e1 ti ?_
  exact ⟨_,le_refl _,rfl⟩
theorem take_stop {p : UInt8 → Bool} : ∀ (s : List UInt8) (j : Nat),j ≤ s.length → (s.take j).all p = true → (j = s.length ∨ p (s.getD j 0) = false) → s.takeWhile p = s.take j ∧ s.dropWhile p = s.drop j
 | [],0,_,_,_ => ⟨rfl,rfl⟩
 | c :: s,0,_,_,h => by
  rcases h with h | h
  ·simp at h
  ·simp only [List.getD_cons_zero] at h
   exact ⟨by simp [h],by simp [h]⟩
 | c :: s,j + 1,hj,ha,h => by
  rw [List.take_succ_cons,List.all_cons,Bool.and_eq_true] at ha
  have:=take_stop s j (by simpa using hj) ha.2 (by simpa using h)
  rw [List.takeWhile_cons_of_pos ha.1,List.dropWhile_cons_of_pos ha.1,this.1,this.2]
  exact ⟨rfl,rfl⟩
theorem a_r6word (s : List UInt8) (hl : s.length ≤ 2000000) (h : Hp) : ACall Tryz.prog GT 291 [.str s] h fun r h' => r = .tup [.str (s.takeWhile Adr.wordB),.str (s.dropWhile Adr.wordB)] ∧ h' = h:=by
 refine pcall ?_ rfl (by simp [A.pure,A.data]) h
 refine fo ?_
 have hc:=a_r6letter
 refine runx0 ti ti ?_
 refine awp_loop (fun m ts hh => hh = ⟨[],[]⟩ ∧ ∃ j : Nat,m = s.length - j ∧ j ≤ s.length ∧ (s.take j).all Adr.wordB = true ∧ (ts 0 = .str s ∧ ts 4 = .int .i64 (j : Nat))) s.length ?_ ?_
 ·exact ⟨rfl,0,rfl,Nat.zero_le _,rfl,by (exact inv0 ti)⟩
 rintro m ts hh ⟨rfl,j,rfl,hj,hall,ht⟩
 have hs : (0 : Int) ≤ (j : Int) ∧ (j : Int) ≤ (s.length : Int):=⟨by omega,by omega⟩
 rcases Nat.lt_or_ge j s.length with hlt | hge
 ·have hf : (j : Int) < (s.length : Int) ∧ IntKind.i64.wrap ((j : Int) + 1) = ((j + 1 : Nat) : Int):=⟨by omega,i80 (by omega)⟩
  have hg : s.getD j 0 = s[j]:=by simp [List.getD,hlt]
  obtain ⟨c,hcc⟩ : ∃ c,s[j] = c:=⟨_,rfl⟩
  rw [hcc] at hg
  have hw:=word_yes c
  cases hB : Adr.wordB c with
  | false =>
   rw [hB] at hw
   obtain ⟨k1,k2⟩:=take_stop s j hj hall (.inr (by rw [hg]; exact hB))
   rw [k1,k2]
   refine runx0 (ai ht (ai hf (ai hs (ai hg hw)))) (ai (hc c) ti) ?_
   exact ⟨_,le_refl _,rfl⟩
  | true =>
   rw [hB] at hw
   refine runx0 (ai ht (ai hf (ai hs (ai hg hw)))) (ai (hc c) ti) ?_
   refine ⟨_,?_,rfl,j + 1,rfl,by omega,?_,by (exact inv0 (ai ht hf))⟩
   ·omega
   ·rw [List.take_succ_eq_append_getElem hlt,List.all_append,hall,hcc]
    simp [hB]
 ·have hf : ¬ (j : Int) < (s.length : Int):=by omega
  obtain ⟨k1,k2⟩:=take_stop s j hj hall (.inl (by omega))
  rw [k1,k2]
  refine runx0 (ai ht (ai hf hs)) ti ?_
  exact ⟨_,le_refl _,rfl⟩
theorem a_r6res (s : List UInt8) (h : Hp) : ACall Tryz.prog GT 292 [.str s] h fun r h' => r = .bool (Adr.reserved s) ∧ h' = h:=by
 refine pcall ?_ rfl (by simp [A.pure,A.data]) h
 refine fo ?_
 obtain ⟨L,hL⟩ : ∃ L,Adr.reservedL = L:=⟨_,rfl⟩
 have hr : Adr.reserved s = L.contains s:=by unfold Adr.reserved; rw [hL]
 have h11 : L.length = 11:=by rw [← hL]; rfl
 rw [hr]
 refine runx0 ti ti ?_
 refine awp_loop (fun m ts hh => hh = ⟨[],[]⟩ ∧ ∃ j : Nat,m = L.length - j ∧ j ≤ L.length ∧ (L.drop j).contains s = L.contains s ∧ (ts 0 = .str s ∧ ts 3 = .sl 1 .no (strsA L) ∧ ts 4 = .int .i64 (j : Nat))) L.length ?_ ?_
 ·exact ⟨rfl,0,rfl,Nat.zero_le _,rfl,rfl,by rw [← hL]; rfl,rfl⟩
 rintro m ts hh ⟨rfl,j,rfl,hj,heq,ht⟩
 rcases Nat.lt_or_ge j L.length with hlt | hge
 ·have hf : (strsA L).length = L.length ∧ (j : Int) < (L.length : Int) ∧ (0 : Int) ≤ (j : Int) ∧ IntKind.i64.wrap ((j : Int) + 1) = ((j + 1 : Nat) : Int) ∧ (strsA L).getD j [] = [.str L[j]]:=⟨strsA_length L,by omega,by omega,i80 (by omega),strsA_get L j hlt⟩
  rw [List.drop_eq_getElem_cons hlt,List.contains_cons] at heq
  obtain ⟨w,hw⟩ : ∃ w,L[j] = w:=⟨_,rfl⟩
  rw [hw] at heq hf
  by_cases e : w = s
  ·subst e
   rw [show (w == w) = true from beq_self_eq_true _,Bool.true_or] at heq
   refine runx0 (ai ht hf) ti ?_
   exact ⟨_,le_refl _,by rw [← heq]; rfl⟩
  ·have e1 : (w == s) = false:=by simp [e]
   have e2 : (s == w) = false:=by simpa using fun h => e h.symm
   rw [e2,Bool.false_or] at heq
   refine runx0 (ai ht (ai hf e1)) ti ?_
   exact ⟨_,by omega,rfl,j + 1,rfl,by omega,heq,by (exact inv0 (ai ht hf))⟩
 ·have hf : (strsA L).length = L.length ∧ ¬ (j : Int) < (L.length : Int):=⟨strsA_length L,by omega⟩
  rw [List.drop_of_length_le hge] at heq
  refine runx0 (ai ht hf) ti ?_
  exact ⟨_,le_refl _,by rw [← heq]; rfl⟩
end AX
end Go.Proofs.YteklhoajalgehaaGreatDoor
