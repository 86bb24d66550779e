/- Part of what the proof needs. -/
import Derived.Test.YteklhoajalgehaaGreatDoorMFrRecoveryNothingUptoF
import Derived.Test.YteklhoajalgehaaGreatDoorMFrRecoveryNothingUptoG
import Derived.Test.YteklhoajalgehaaGreatDoorMFrRecoveryNothingUptoI
import Derived.Test.YteklhoajalgehaaGreatDoorMFrRecoveryNothingUptoM
import Derived.Test.YteklhoajalgehaaGreatDoorMFrRecoveryNothingUptoN
import Derived.Test.YteklhoajalgehaaGreatDoorMFrRecoveryNothingUptoO
import Derived.Test.YteklhoajalgehaaGreatDoorMFrRecoveryNothingUptoP
import Derived.Test.YteklhoajalgehaaGreatDoorMFrRecoveryNothingUptoQ
import Derived.Test.YteklhoajalgehaaGreatDoorRows
set_option maxHeartbeats 4000000
set_option linter.unusedSimpArgs false
set_option linter.unusedVariables false
set_option linter.unnecessarySimpa false
namespace Go.Proofs.YteklhoajalgehaaGreatDoor
open Go.RowKit Go.ChangeShapes Go.WideShapes Go.Deep
mutual
def D.bulk : D → Nat
 | .int .. => 1
 | .str l => l.length + 1
 | .bool _ => 1
 | .agg l => D.bulks l + 1
 | .sl _ l => D.bulks l + 1
def D.bulks : List D → Nat
 | [] => 0
 | d :: l => d.bulk + D.bulks l
end
theorem bulks_le {H : Type} : ∀ (l : List D) (xs : List (DataW H)),l.length = xs.length → (∀ i (hi : i < l.length) (hj : i < xs.length),l[i].bulk ≤ Rows.uptoBulk xs[i]) → D.bulks l ≤ Rows.uptoBulkAll xs
 | [],[],_,_ => by rw [D.bulks]; exact Nat.zero_le _
 | [],_ :: _,h,_ => by simp at h
 | _ :: _,[],h,_ => by simp at h
 | d :: l,x :: xs,h,hb => by
  rw [D.bulks,Rows.uptoBulkAll]
  exact Nat.add_le_add (hb 0 (by simp) (by simp)) (bulks_le l xs (by simpa using h) fun i hi hj => hb (i + 1) (Nat.succ_lt_succ hi) (Nat.succ_lt_succ hj))
section
variable {H : Type} {enc : TypeId × Value → H} {P : Program} {w : World} {base : Nat} {spare : Nat → Bool} {held : Bool} {K : List TypeId}
theorem trod_fieldsB {n : Nat} (ih : ∀ t,t ∈ K → ∀ cs x,DataW.trod enc P w base spare held n t cs = some x → ∃ d,Rd w (Old w) d cs ∧ Conf P d t ∧ d.bulk ≤ Rows.uptoBulk x.1) (cs : List Value) :
  ∀ (fs : List Field) (o tot : Nat) (ys : List (DataW H × List MemPlace)),(∀ f ∈ fs,f.type ∈ K) → flat P fs o = some tot → cs.length = tot → ys.length = fs.length →
   (∀ (i : Nat) (f : Field),fs[i]? = some f → DataW.trod enc P w base spare held n f.type ((cs.drop f.offset).take (P.cellsOf f.type)) = ys[i]?) →
   ∃ l,RdAgg w (Old w) l (cs.drop o) ∧ ConfL P l (fs.map (·.type)) ∧ D.bulks l ≤ Rows.uptoBulkAll (ys.map (·.1))
 | [],o,tot,ys,hK,hf,hc,hy,hg => by
  simp only [flat,Option.some.injEq] at hf
  exact ⟨[],by unfold RdAgg; exact List.drop_of_length_le (by omega),by unfold ConfL; rfl,by unfold D.bulks; exact Nat.zero_le _⟩
 | f :: fs,o,tot,ys,hK,hf,hc,hy,hg => by
  simp only [flat] at hf
  split at hf
  ·next hfo =>
   match ys,hy with
   | y :: ys,hy =>
    have h0:=hg 0 f rfl
    obtain ⟨d,hd,hcf,hdb⟩:=ih f.type (hK f (by simp)) _ _ h0
    obtain ⟨l,hl,hcl2,hlb⟩:=trod_fieldsB ih cs fs (o + P.cellsOf f.type) tot ys (fun g hg => hK g (by simp [hg])) hf hc (by simpa using hy) (fun i g hi => by simpa using hg (i + 1) g (by simpa using hi))
    refine ⟨d :: l,?_,?_,?_⟩
    ·unfold RdAgg
     refine ⟨_,cs.drop (o + P.cellsOf f.type),?_,by rw [hfo] at hd; exact hd,hl⟩
     rw [← List.drop_drop,List.take_append_drop]
    ·unfold ConfL
     exact ⟨f.type,fs.map (·.type),rfl,hcf,hcl2⟩
    ·rw [List.map_cons,Rows.uptoBulkAll,D.bulks]
     exact Nat.add_le_add hdb hlb
  ·cases hf
theorem trod_rdB (hP : plainAll P K = true) : ∀ (n : Nat) (t : TypeId),t ∈ K → ∀ cs x,DataW.trod enc P w base spare held n t cs = some x → ∃ d,Rd w (Old w) d cs ∧ Conf P d t ∧ d.bulk ≤ Rows.uptoBulk x.1
 | 0,t,hK,cs,x,h => by simp [DataW.trod] at h
 | n + 1,t,hK,cs,x,h => by
  have hk : plainB P K t = true:=by
   unfold plainAll at hP
   rw [List.all_eq_true] at hP
   exact hP t hK
  unfold plainB at hk
  split at hk
  ·next k hu =>
   obtain ⟨m,rfl,rfl,hw⟩:=DataW.trod_int hu h
   exact ⟨.int k m,by unfold Rd; rfl,by unfold Conf; exact ⟨hu,hw⟩,by unfold D.bulk Rows.uptoBulk; exact Nat.le_refl _⟩
  ·next hu =>
   obtain ⟨s,rfl,rfl,hs⟩:=DataW.trod_string hu h
   exact ⟨.str s.data.toList,by unfold Rd; simp,by unfold Conf; exact ⟨hu,by simpa using hs⟩,by unfold D.bulk Rows.uptoBulk; exact Nat.le_refl _⟩
  ·next hu =>
   obtain ⟨b,rfl,rfl⟩:=DataW.trod_bool hu h
   exact ⟨.bool b,by unfold Rd; rfl,by unfold Conf; exact hu,by unfold D.bulk Rows.uptoBulk; exact Nat.le_refl _⟩
  ·next fs hu =>
   rw [Bool.and_eq_true,List.all_eq_true,beq_iff_eq] at hk
   obtain ⟨xs,n',hn,rfl,hcl,hxl,hg⟩:=DataW.trod_struct hu h
   obtain rfl : n' = n:=by omega
   obtain ⟨l,hl,hcf,hlb⟩:=trod_fieldsB (fun t hK cs x h => trod_rdB hP n' t hK cs x h) cs fs.toList 0 _ xs (fun f hf => by simpa using hk.1 f hf) hk.2 hcl (by simpa using hxl) (fun i f hi => hg i f (by simpa using hi))
   exact ⟨.agg l,by unfold Rd; exact hl,by unfold Conf; exact ⟨fs,hu,hcf⟩,by rw [D.bulk,Rows.uptoBulk]; exact Nat.succ_le_succ hlb⟩
  ·next e hu =>
   rw [Bool.and_eq_true,decide_eq_true_eq] at hk
   have heK : e ∈ K:=by simpa using hk.1
   have hpos:=hk.2
   rcases DataW.trod_slice hu h with ⟨rfl,rfl⟩ | ⟨a,len,cap,elems,rest,n',hn,rfl,rfl,hb,hlc,hcm,hel,hi,_⟩
   ·exact ⟨.sl (P.cellsOf e) [],by unfold Rd; exact ⟨none,0,rfl,Nat.le_refl _,by unfold RdRow; trivial⟩,by unfold Conf; exact ⟨e,hu,rfl,by unfold ConfA; trivial,by simp⟩,by simp [D.bulk,D.bulks,Rows.uptoBulk]⟩
   ·obtain rfl : n' = n:=by omega
    have hex : ∀ i,i < len → ∃ d : D,∃ c,c.length = P.cellsOf e ∧ (∀ j,j < P.cellsOf e → w.cell? ((a.add (i * P.cellsOf e)).add j) = c[j]?) ∧ Rd w (Old w) d c ∧ Conf P d e ∧ ∀ y,elems[i]? = some y → d.bulk ≤ Rows.uptoBulk y.1:=by
     intro i hil
     have h1:=hi i hil
     have h2 : elems[i]? = some (elems[i]'(by omega)):=List.getElem?_eq_getElem (by omega)
     rw [h2] at h1
     obtain ⟨c,hc,ht⟩:=Option.bind_eq_some_iff.1 h1
     obtain ⟨d,hd,hcf,hdb⟩:=trod_rdB hP n' e heK c _ ht
     obtain ⟨_,hcl,hat⟩:=World.cells?_some hc
     exact ⟨d,c,hcl,hat,hd,hcf,fun y hy => by rw [h2] at hy; injection hy with hy; subst hy; exact hdb⟩
    haveI : Inhabited D:=⟨.bool true⟩
    obtain ⟨f,hf⟩:=choose_lt hex
    refine ⟨.sl (P.cellsOf e) ((List.range len).map f),?_,?_,?_⟩
    ·unfold Rd
     refine ⟨some a,cap,by simp,by simpa using hlc,RdRow.of _ _ _ fun k hk => ?_⟩
     have hkl : k < len:=by simpa using hk
     obtain ⟨c,hcl,hat,hrd,_⟩:=hf k hkl
     obtain ⟨c0,hcl0,hat0,_,_⟩:=hf 0 (by omega)
     obtain ⟨g,off,sp⟩:=a
     have h0:=hat0 0 hpos
     rw [List.getElem?_eq_getElem (by omega)] at h0
     have hs : sp = none:=by
      have:=(cell_there h0).1
      simpa [Addr.add] using this
     subst hs
     have h1:=hat 0 hpos
     rw [List.getElem?_eq_getElem (by omega)] at h1
     have hlt:=(cell_there h1).2
     rw [add_off,add_off] at hlt
     refine ⟨g,off,c,rfl,hlt,hcl,fun j hj => ?_,by simpa using hrd⟩
     have:=hat j hj
     rw [add_off,add_off] at this
     rw [Nat.zero_add]
     exact this
    ·unfold Conf
     exact ⟨e,hu,rfl,confA_of P e _ fun k hk => by simpa using (hf k (by simpa using hk)).choose_spec.2.2.2.1,by simp; omega⟩
    ·rw [D.bulk,Rows.uptoBulk]
     have:=bulks_le ((List.range len).map f) (elems.map (·.1)) (by simp; omega) (fun i hi hj => by
      obtain ⟨c,_,_,_,_,h9⟩:=hf i (by simpa using hi)
      simpa using h9 (elems[i]'(by simpa using hj)) (List.getElem?_eq_getElem _))
     omega
  ·cases hk
end
end Go.Proofs.YteklhoajalgehaaGreatDoor

namespace Go.Proofs.YteklhoajalgehaaGreatDoor
namespace Wire
end Wire
namespace Val
end Val
namespace Sf
end Sf
end Go.Proofs.YteklhoajalgehaaGreatDoor

namespace Go.Proofs.YteklhoajalgehaaGreatDoor
open Go.RowKit
namespace Sf
end Sf
end Go.Proofs.YteklhoajalgehaaGreatDoor

namespace Go.Proofs.YteklhoajalgehaaGreatDoor
namespace Sf
theorem flat_len {α : Type} (f : α → List UInt8) (hf : ∀ x,1 ≤ (f x).length) : ∀ l : List α,l.length ≤ (l.flatMap f).length
 | [] => by simp
 | x :: l => by
  have:=hf x
  have:=flat_len f hf l
  rw [List.flatMap_cons,List.length_append,List.length_cons]; omega
structure TypIn (s : St) : Prop where
 insts : ∀ x ∈ s.insts,x.typ.length ≤ 2000000
 pends : ∀ x ∈ s.pends,x.typ.length ≤ 2000000
end Sf
end Go.Proofs.YteklhoajalgehaaGreatDoor

namespace Go.Proofs.YteklhoajalgehaaGreatDoor
open Go.RowKit Go.ChangeShapes Go.WideShapes
theorem list_of_ {α : Type} {f : α → D} {Q : α → Prop} : ∀ l : List D,(∀ d ∈ l,∃ x,d = f x ∧ Q x) → ∃ xs : List α,l = xs.map f ∧ ∀ x ∈ xs,Q x
 | [],h => ⟨[],rfl,by simp⟩
 | d :: l,h => by
  obtain ⟨x,rfl,hx⟩:=h d (by simp)
  obtain ⟨xs,rfl,hxs⟩:=list_of_ l fun d hd => h d (by simp [hd])
  exact ⟨x :: xs,rfl,List.forall_mem_cons.2 ⟨hx,hxs⟩⟩
namespace Sf
def Inst.toD (x : Inst) : D:=.agg [.str x.addr,.str x.dep,.str x.id,.str x.typ,x.attrs.toD,.int .i64 x.ver,.bool x.tainted,.bool x.first,.sl 1 (x.deps.map .str)]
def Pend.toD (p : Pend) : D:=.agg [.str p.addr,.str p.typ,.str p.tok]
def Outp.toD (o : Outp) : D:=.agg [.str o.name,o.value.toD,.bool o.sens]
def St.toD (s : St) : D:=.agg [.str s.lin,.int .i64 s.ser,.sl 13 (s.insts.map Inst.toD),.sl 3 (s.pends.map Pend.toD),.sl 7 (s.outs.map Outp.toD)]
structure St.Wf (s : St) : Prop where
 insts : ∀ x ∈ s.insts,x.attrs.Wf
 outs : ∀ x ∈ s.outs,x.value.Wf
 ser : (Lit.int .i64 s.ser).wf = true
theorem Inst.cells_toD (x : Inst) : x.toD.cells = x.cells:=by
 obtain ⟨a,d,i,t,⟨k,n,s,is,ks⟩,v,tn,fi,ds⟩:=x
 unfold Inst.toD Inst.cells
 simp only [D.cells,D.cellsL,V.cells_toD,V.cells,strs_rows,List.cons_append,List.nil_append,List.append_nil]
theorem Pend.cells_toD (x : Pend) : x.toD.cells = x.cells:=by
 unfold Pend.toD Pend.cells
 simp only [D.cells,D.cellsL,List.cons_append,List.nil_append,List.append_nil]
theorem Outp.cells_toD (x : Outp) : x.toD.cells = x.cells:=by
 obtain ⟨m,⟨k,n,s,is,ks⟩,b⟩:=x
 unfold Outp.toD Outp.cells
 simp only [D.cells,D.cellsL,V.cells_toD,V.cells,strs_rows,List.cons_append,List.nil_append,List.append_nil]
theorem rows_map {α : Type} (f : α → D) (g : α → List AX.A) (h : ∀ x,(f x).cells = g x) : ∀ l : List α,D.rows (l.map f) = l.map g
 | [] => by simp [D.rows]
 | x :: l => by simp only [List.map_cons,D.rows,h,rows_map f g h l]
theorem St.cells_toD (s : St) : AX.A.agg s.toD.cells = s.A:=by
 unfold St.toD St.A
 simp only [D.cells,D.cellsL,rows_map _ _ Inst.cells_toD,rows_map _ _ Pend.cells_toD,rows_map _ _ Outp.cells_toD,List.cons_append,List.nil_append,List.append_nil]
set_option maxRecDepth 100000 in
theorem conf_inst {d : D} (h : Conf Tryz.prog d 73) : ∃ x : Inst,d = x.toD ∧ x.attrs.Wf:=by
 obtain ⟨l',rfl,h2⟩:=conf_struct Tryz.underlying73 h
 obtain ⟨d0,l1,rfl,c0,h2⟩:=confL_cons h2
 obtain ⟨d1,l2,rfl,c1,h2⟩:=confL_cons h2
 obtain ⟨d2,l3,rfl,c2,h2⟩:=confL_cons h2
 obtain ⟨d3,l4,rfl,c3,h2⟩:=confL_cons h2
 obtain ⟨d4,l5,rfl,c4,h2⟩:=confL_cons h2
 obtain ⟨d5,l6,rfl,c5,h2⟩:=confL_cons h2
 obtain ⟨d6,l7,rfl,c6,h2⟩:=confL_cons h2
 obtain ⟨d7,l8,rfl,c7,h2⟩:=confL_cons h2
 obtain ⟨d8,l9,rfl,c8,h2⟩:=confL_cons h2
 obtain rfl:=confL_nil h2
 obtain ⟨a,rfl,_⟩:=conf_str Tryz.underlying9 c0
 obtain ⟨b,rfl,_⟩:=conf_str Tryz.underlying9 c1
 obtain ⟨c,rfl,_⟩:=conf_str Tryz.underlying9 c2
 obtain ⟨e,rfl,_⟩:=conf_str Tryz.underlying9 c3
 obtain ⟨v,rfl,hv⟩:=conf_val c4
 obtain ⟨n,rfl,_⟩:=conf_int (k:=.i64) Tryz.underlying3 c5
 obtain ⟨t,rfl⟩:=conf_bool Tryz.underlying4 c6
 obtain ⟨f,rfl⟩:=conf_bool Tryz.underlying4 c7
 obtain ⟨l4,rfl,c9,_⟩:=conf_slice Tryz.underlying30 c8
 obtain ⟨ks,rfl,_⟩:=conf_strs Tryz.underlying9 l4 c9
 have hw : Tryz.prog.cellsOf 9 = 1:=by kernel_rfl
 rw [hw]
 exact ⟨⟨a,b,c,e,v,n,t,f,ks⟩,rfl,hv⟩
set_option maxRecDepth 100000 in
theorem conf_pend {d : D} (h : Conf Tryz.prog d 121) : ∃ x : Pend,d = x.toD ∧ True:=by
 obtain ⟨l',rfl,h2⟩:=conf_struct Tryz.underlying121 h
 obtain ⟨d0,l1,rfl,c0,h2⟩:=confL_cons h2
 obtain ⟨d1,l2,rfl,c1,h2⟩:=confL_cons h2
 obtain ⟨d2,l3,rfl,c2,h2⟩:=confL_cons h2
 obtain rfl:=confL_nil h2
 obtain ⟨a,rfl,_⟩:=conf_str Tryz.underlying9 c0
 obtain ⟨b,rfl,_⟩:=conf_str Tryz.underlying9 c1
 obtain ⟨c,rfl,_⟩:=conf_str Tryz.underlying9 c2
 exact ⟨⟨a,b,c⟩,rfl,trivial⟩
set_option maxRecDepth 100000 in
theorem conf_outp {d : D} (h : Conf Tryz.prog d 132) : ∃ x : Outp,d = x.toD ∧ x.value.Wf:=by
 obtain ⟨l',rfl,h2⟩:=conf_struct Tryz.underlying132 h
 obtain ⟨d0,l1,rfl,c0,h2⟩:=confL_cons h2
 obtain ⟨d1,l2,rfl,c1,h2⟩:=confL_cons h2
 obtain ⟨d2,l3,rfl,c2,h2⟩:=confL_cons h2
 obtain rfl:=confL_nil h2
 obtain ⟨a,rfl,_⟩:=conf_str Tryz.underlying9 c0
 obtain ⟨v,rfl,hv⟩:=conf_val c1
 obtain ⟨t,rfl⟩:=conf_bool Tryz.underlying4 c2
 exact ⟨⟨a,v,t⟩,rfl,hv⟩
set_option maxRecDepth 100000 in
theorem conf_st {d : D} (h : Conf Tryz.prog d 39) : ∃ x : St,d = x.toD ∧ x.Wf:=by
 obtain ⟨l',rfl,h2⟩:=conf_struct Tryz.underlying39 h
 obtain ⟨d0,l1,rfl,c0,h2⟩:=confL_cons h2
 obtain ⟨d1,l2,rfl,c1,h2⟩:=confL_cons h2
 obtain ⟨d2,l3,rfl,c2,h2⟩:=confL_cons h2
 obtain ⟨d3,l4,rfl,c3,h2⟩:=confL_cons h2
 obtain ⟨d4,l5,rfl,c4,h2⟩:=confL_cons h2
 obtain rfl:=confL_nil h2
 obtain ⟨a,rfl,_⟩:=conf_str Tryz.underlying9 c0
 obtain ⟨n,rfl,hn⟩:=conf_int (k:=.i64) Tryz.underlying3 c1
 obtain ⟨l2,rfl,k2,_⟩:=conf_slice Tryz.underlying35 c2
 obtain ⟨l3,rfl,k3,_⟩:=conf_slice Tryz.underlying36 c3
 obtain ⟨l4,rfl,k4,_⟩:=conf_slice Tryz.underlying37 c4
 obtain ⟨xs,rfl,hx⟩:=list_of_ l2 fun d hd => conf_inst (confA_mem k2 d hd)
 obtain ⟨ps,rfl,_⟩:=list_of_ l3 fun d hd => conf_pend (confA_mem k3 d hd)
 obtain ⟨os,rfl,ho⟩:=list_of_ l4 fun d hd => conf_outp (confA_mem k4 d hd)
 have hw1 : Tryz.prog.cellsOf 73 = 13:=by kernel_rfl
 have hw2 : Tryz.prog.cellsOf 121 = 3:=by kernel_rfl
 have hw3 : Tryz.prog.cellsOf 132 = 7:=by kernel_rfl
 rw [hw1,hw2,hw3]
 exact ⟨⟨a,n,xs,ps,os⟩,rfl,hx,ho,hn⟩
end Sf
theorem strs_bulk : ∀ ks : List (List UInt8),ks.length ≤ D.bulks (ks.map .str) ∧ ∀ s ∈ ks,s.length + 1 ≤ D.bulks (ks.map .str)
 | [] => by simp
 | k :: ks => by
  obtain ⟨h1,h2⟩:=strs_bulk ks
  rw [List.map_cons,D.bulks,D.bulk]
  refine ⟨by simp only [List.length_cons]; omega,fun s hs => ?_⟩
  rcases List.mem_cons.1 hs with rfl | hs
  ·omega
  ·have:=h2 s hs; omega
theorem num10 (n : Int) : (Wire.num n).length ≤ 10:=(Wire.encF_len 9 (Wire.zig n)).2
theorem strE10 (s : List UInt8) : (Wire.strE s).length ≤ 10 + s.length:=by
 unfold Wire.strE
 rw [List.length_append]
 have:=num10 (s.length : Int)
 omega
theorem bulk_pos (d : D) : 1 ≤ d.bulk:=by cases d <;> rw [D.bulk] <;> omega
mutual
theorem enc_bulk : ∀ v : V,(Val.enc v).length ≤ 30 * v.toD.bulk
 | .mk k n s is ks => by
  have h1:=encs_bulk (k == 5) is ks
  have n1:=num10 k
  have n2:=num10 n
  have n3:=strE10 s
  have n4:=num10 (is.length : Int)
  rw [Val.enc,V.toD,D.bulk,D.bulks,D.bulks,D.bulks,D.bulks,D.bulks,D.bulks,D.bulk,D.bulk,D.bulk,D.bulk,D.bulk,List.length_append]
  split
  ·omega
  ·split
   ·omega
   ·split
    ·rw [List.length_append]; omega
    ·simp only [List.length_nil]; omega
theorem encs_bulk : ∀ (m : Bool) (l : List V) (ks : List (List UInt8)),(Val.encs m l ks).length ≤ 30 * (D.bulks (V.toDs l) + D.bulks (ks.map .str))
 | m,[],ks => by rw [Val.encs]; simp
 | m,v :: l,ks => by
  have h1:=enc_bulk v
  have hp:=bulk_pos v.toD
  rw [Val.encs,V.toDs,D.bulks,List.length_append,List.length_append]
  cases ks with
  | nil =>
   have h2:=encs_bulk m l ([] : List (List UInt8)).tail
   have : (Val.keyE m []).length = 0:=by cases m <;> rfl
   simp only [List.tail_nil] at h2 ⊢
   omega
  | cons k ks =>
   have h2:=encs_bulk m l (k :: ks).tail
   have h3 : (Val.keyE m (k :: ks)).length ≤ 10 + k.length:=by
    cases m
    ·simp [Val.keyE]
    ·exact strE10 k
   rw [List.tail_cons] at h2
   rw [List.map_cons,D.bulks,D.bulk,List.tail_cons]
   omega
end
theorem flat_bulk {α : Type} (f : α → List UInt8) (g : α → D) (h : ∀ x,(f x).length ≤ 30 * (g x).bulk) : ∀ l : List α,(l.flatMap f).length ≤ 30 * D.bulks (l.map g)
 | [] => by simp
 | x :: l => by
  have:=h x
  have:=flat_bulk f g h l
  rw [List.flatMap_cons,List.map_cons,D.bulks,List.length_append]
  omega
theorem map_bulk {α : Type} (g : α → D) : ∀ l : List α,l.length ≤ D.bulks (l.map g) ∧ ∀ x ∈ l,(g x).bulk ≤ D.bulks (l.map g)
 | [] => by simp
 | x :: l => by
  obtain ⟨h1,h2⟩:=map_bulk g l
  have:=bulk_pos (g x)
  rw [List.map_cons,D.bulks]
  refine ⟨by simp only [List.length_cons]; omega,fun y hy => ?_⟩
  rcases List.mem_cons.1 hy with rfl | hy
  ·omega
  ·have:=h2 y hy; omega
namespace Sf
theorem flag10 (b : Bool) : (flagE b).length ≤ 10:=num10 _
theorem instE_bulk (ver : Int) (x : Inst) : (instE ver x).length ≤ 30 * x.toD.bulk:=by
 have a1:=strE10 x.addr
 have a2:=strE10 x.dep
 have a3:=strE10 x.id
 have a4:=strE10 x.typ
 have a5:=enc_bulk x.attrs
 have a6:=num10 x.ver
 have a7:=flag10 x.tainted
 have a8 : (if ver = 2 then flagE x.first else []).length ≤ 10:=by
  split
  ·exact flag10 _
  ·simp
 have a9:=num10 (x.deps.length : Int)
 have a10:=flat_bulk Wire.strE D.str (fun s => by rw [D.bulk]; have:=strE10 s; omega) x.deps
 unfold instE wordsE Inst.toD
 simp only [List.length_append,D.bulk,D.bulks]
 omega
theorem pendE_bulk (x : Pend) : (pendE x).length ≤ 30 * x.toD.bulk:=by
 have a1:=strE10 x.addr
 have a2:=strE10 x.typ
 have a3:=strE10 x.tok
 unfold pendE Pend.toD
 simp only [List.length_append,D.bulk,D.bulks]
 omega
theorem outE_bulk (x : Outp) : (outE x).length ≤ 30 * x.toD.bulk:=by
 have a1:=strE10 x.name
 have a2:=enc_bulk x.value
 have a3:=flag10 x.sens
 unfold outE Outp.toD
 simp only [List.length_append,D.bulk,D.bulks]
 omega
theorem stE_bulk (ver : Int) (s : St) : (stE ver s).length ≤ 30 * s.toD.bulk:=by
 have a0 : magic.length = 4:=rfl
 have a1:=num10 ver
 have a2:=strE10 s.lin
 have a3:=num10 s.ser
 have a4:=num10 (s.insts.length : Int)
 have a5:=flat_bulk (instE ver) Inst.toD (instE_bulk ver) s.insts
 have a6 : (if ver = 2 then Wire.num s.pends.length ++ s.pends.flatMap pendE else []).length ≤ 10 + 30 * D.bulks (s.pends.map Pend.toD):=by
  have b1:=num10 (s.pends.length : Int)
  have b2:=flat_bulk pendE Pend.toD pendE_bulk s.pends
  split
  ·rw [List.length_append]; omega
  ·simp
 have a7:=num10 (s.outs.length : Int)
 have a8:=flat_bulk outE Outp.toD outE_bulk s.outs
 unfold stE St.toD
 simp only [List.length_append,D.bulk,D.bulks]
 omega
structure Fit (s : St) : Prop where
 sin : AX.Sf.StIn s
 tin : TypIn s
 len : ∀ ver,(stE ver s).length + 20 ≤ 1000000000
theorem inst_fit {x : Inst} (hw : x.attrs.Wf) (hb : x.toD.bulk ≤ 1500000) : AX.Sf.InstIn x ∧ x.typ.length ≤ 2000000:=by
 unfold Inst.toD at hb
 simp only [D.bulk,D.bulks] at hb
 obtain ⟨h1,h2⟩:=strs_bulk x.deps
 exact ⟨⟨by omega,by omega,by omega,V.Wf.lens _ hw,by omega,fun s hs => by have:=h2 s hs; omega⟩,by omega⟩
theorem fit_of {s : St} (hw : s.Wf) (hb : s.toD.bulk ≤ 1500000) : Fit s:=by
 have hE:=fun ver => stE_bulk ver s
 have hb':=hb
 unfold St.toD at hb'
 simp only [D.bulk,D.bulks] at hb'
 obtain ⟨i1,i2⟩:=map_bulk Inst.toD s.insts
 obtain ⟨p1,p2⟩:=map_bulk Pend.toD s.pends
 obtain ⟨o1,o2⟩:=map_bulk Outp.toD s.outs
 have hi : ∀ x ∈ s.insts,AX.Sf.InstIn x ∧ x.typ.length ≤ 2000000:=fun x hx => inst_fit (hw.insts x hx) (by have:=i2 x hx; omega)
 have hp : ∀ x ∈ s.pends,x.addr.length ≤ 2000000 ∧ x.typ.length ≤ 2000000 ∧ x.tok.length ≤ 2000000:=fun x hx => by
  have : x.toD.bulk ≤ 1500000:=by have:=p2 x hx; omega
  unfold Pend.toD at this
  simp only [D.bulk,D.bulks] at this
  refine ⟨?_,?_,?_⟩ <;> omega
 have ho : ∀ x ∈ s.outs,x.name.length ≤ 2000000 ∧ x.value.lens:=fun x hx => by
  have : x.toD.bulk ≤ 1500000:=by have:=o2 x hx; omega
  unfold Outp.toD at this
  simp only [D.bulk,D.bulks] at this
  exact ⟨by omega,V.Wf.lens _ (hw.outs x hx)⟩
 refine ⟨⟨by omega,fun x hx => (hi x hx).1,fun x hx => ⟨(hp x hx).1,(hp x hx).2.2⟩,ho,by omega,by omega,by omega⟩,⟨fun x hx => (hi x hx).2,fun x hx => (hp x hx).2.1⟩,fun ver => ?_⟩
 have:=hE ver
 omega
end Sf
end Go.Proofs.YteklhoajalgehaaGreatDoor

namespace Go.Proofs.YteklhoajalgehaaGreatDoor
open Go.RowKit
mutual
def V.few : V → Prop
 | .mk k n s is ks => is.length ≤ 2000000 ∧ ks.length ≤ 2000000 ∧ V.fews is
def V.fews : List V → Prop
 | [] => True
 | v :: l => v.few ∧ V.fews l
end
theorem V.fews_mem : ∀ {l : List V},V.fews l → ∀ x ∈ l,x.few
 | [],_ => by simp
 | v :: l,h => by
  unfold V.fews at h
  exact List.forall_mem_cons.2 ⟨h.1,V.fews_mem h.2⟩
theorem toDs_bulk : ∀ l : List V,l.length ≤ D.bulks (V.toDs l)
 | [] => Nat.zero_le _
 | v :: l => by
  have:=toDs_bulk l
  have h1 : 1 ≤ v.toD.bulk:=by cases h : v.toD <;> rw [D.bulk] <;> omega
  rw [V.toDs,D.bulks,List.length_cons]; omega
mutual
theorem V.few_of : ∀ v : V,v.toD.bulk ≤ 1500000 → v.few
 | .mk k n s is ks,h => by
  rw [V.toD,D.bulk,D.bulks,D.bulks,D.bulks,D.bulks,D.bulks,D.bulks,D.bulk,D.bulk,D.bulk,D.bulk,D.bulk] at h
  have h1:=toDs_bulk is
  have h2:=(strs_bulk ks).1
  unfold V.few
  exact ⟨by omega,by omega,V.fews_of is (by omega)⟩
theorem V.fews_of : ∀ l : List V,D.bulks (V.toDs l) ≤ 1500000 → V.fews l
 | [],_ => by unfold V.fews; trivial
 | v :: l,h => by
  rw [V.toDs,D.bulks] at h
  unfold V.fews
  exact ⟨V.few_of v (by omega),V.fews_of l (by omega)⟩
end
namespace AX
end AX
set_option maxRecDepth 100000 in
theorem clone_vals (b off n c : Nat) (news : List Value) (w : World) (hl : news.length = n * 5) (hn : 0 < n) (hbig : n * 80 ≤ 140737488355328) (hmax : n ≤ maxLen) (hc : ∀ j v,news[j]? = some v → w.cell? ((⟨b,off,none⟩ : Addr).add j) = some v) (h1 : ∀ u ∈ news,u.oneCell' = true) :
  Calls Tryz.prog 298 #[.slice (some ⟨b,off,none⟩) n c] w fun e w' => ∃ v',e = .returned v' ∧ w'.ownsRow w.heap.size 71 5 v' n news ∧ Below w.heap.size w w':=by
 obtain ⟨i0,hi,hz0,hz1,hz2⟩:=info_parts (show (Tryz.prog.info? 71).map (fun i => (i.zero,i.size,i.bytes)) = some (some (.agg #[.int .i64 0,.int .i64 0,.string ⟨#[]⟩,.slice none 0 0,.slice none 0 0]),5,80) by kernel_rfl)
 have q22 : ∀ (w : World) (a : Option Addr) (n c n' c' : Nat),(binOp .eql 69 (.slice a n c) (.slice none n' c')).run Tryz.prog w = .ok (.bool a.isNone) w:=fun w a n c n' c' => Lib.run_eql_slice_nil w _ _ a n c n' c' Tryz.underlying69
 have u22 : ∀ w,Sem.run Tryz.prog (underlying 69) w = .ok (TypeDesc.slice 71) w:=run_underlying Tryz.underlying69
 have HC:=kept hc
 have H1:=kept h1
 clear hc h1
 go_enter Tryz.func298,Tryz.ntmps298
 go_wp2_with (at_builtin; refine wpList_append_own _ rfl _ _ 69 rfl w.heap.size 71 i0 (.agg #[.int .i64 0,.int .i64 0,.string ⟨#[]⟩,.slice none 0 0,.slice none 0 0]) 5 80 Tryz.underlying69 hi hz0 hz1 hz2 rfl (by decide) _ _ _ rfl (World.ownsRow_made w #[] 0 (Nat.le_refl _) (Nat.zero_le _) rfl) ⟨b,off,none⟩ n c news rfl ?qc1 ?qc2 ?qc3 ?qc4 ?qc5 ?qc6 ?_)
 case qc1 => exact hl
 case qc2 =>
  intro j u hj
  have:=HC.out j u hj
  rw [Addr.add_lit] at this ⊢
  exact Lib.cell?_alloc_some _ this
 case qc3 => exact H1.out
 case qc4 => omega
 case qc5 => omega
 case qc6 => simp
 intro v' w1 hown hgrow hnil
 have Hb:=kept (((Below.refl _ w).alloc (Nat.le_refl _) (.cells #[] 71)).grown hgrow (by simp) (by intro k hk; simp [Value.ownBlock] at hk; omega))
 have Ho:=kept (show w1.ownsRow w.heap.size 71 5 v' n news by simpa using hown)
 clear hown hgrow hnil HC H1
 go_wp2
 go_ret
 exact ⟨v',rfl,Ho.out,Hb.out⟩
theorem clone_vals0 (a : Option Addr) (c : Nat) (w : World) :
  Calls Tryz.prog 298 #[.slice a 0 c] w fun e w' => (∃ a' c',e = .returned (.slice a' 0 c')) ∧ Below w.heap.size w w':=by
 have q22 : ∀ (w : World) (a : Option Addr) (n c n' c' : Nat),(binOp .eql 69 (.slice a n c) (.slice none n' c')).run Tryz.prog w = .ok (.bool a.isNone) w:=fun w a n c n' c' => Lib.run_eql_slice_nil w _ _ a n c n' c' Tryz.underlying69
 have u22 : ∀ w,Sem.run Tryz.prog (underlying 69) w = .ok (TypeDesc.slice 71) w:=run_underlying Tryz.underlying69
 cases a with
 | none =>
  go_enter Tryz.func298,Tryz.ntmps298
  go_wp2
  go_ret
  exact ⟨⟨_,_,rfl⟩,Below.refl _ _⟩
 | some ad =>
  obtain ⟨i0,hi,hz0,hz1,hz2⟩:=info_parts (show (Tryz.prog.info? 71).map (fun i => (i.zero,i.size,i.bytes)) = some (some (.agg #[.int .i64 0,.int .i64 0,.string ⟨#[]⟩,.slice none 0 0,.slice none 0 0]),5,80) by kernel_rfl)
  go_enter Tryz.func298,Tryz.ntmps298
  go_wp2_with (at_builtin; refine wpList_append_own _ rfl _ _ 69 rfl w.heap.size 71 i0 (.agg #[.int .i64 0,.int .i64 0,.string ⟨#[]⟩,.slice none 0 0,.slice none 0 0]) 5 80 Tryz.underlying69 hi hz0 hz1 hz2 rfl (by decide) _ _ _ rfl (World.ownsRow_made w #[] 0 (Nat.le_refl _) (Nat.zero_le _) rfl) ad 0 c [] rfl rfl (by intro j u hj; simp at hj) (by intro u hu; cases hu) (by unfold maxLen; omega) (by omega) (by simp) ?_)
  intro v' w1 hown hgrow hnil
  have Hb:=kept (((Below.refl _ w).alloc (Nat.le_refl _) (.cells #[] 71)).grown hgrow (by simp) (by intro k hk; simp [Value.ownBlock] at hk; omega))
  have Hv : ∃ a' c',v' = .slice a' 0 c':=by
   rcases hown.2 with ⟨rfl,_⟩ | ⟨g,cap,cur,rfl,_⟩
   ·exact ⟨_,_,rfl⟩
   ·exact ⟨_,_,rfl⟩
  obtain ⟨a',c',rfl⟩:=Hv
  clear hown hgrow hnil
  go_wp2
  go_ret
  exact ⟨⟨_,_,rfl⟩,Hb.out⟩
namespace AX
theorem a_clone_vals0 (W0 : Nat) (o : Own) (h : Hp) : ACall Tryz.prog GT 298 [.sl W0 o []] h fun v h' => v = .sl 5 .no [] ∧ h' = h:=by
 intro C es hI ha
 obtain ⟨c,es',rfl,h1,h2⟩:=repL_cons.1 ha
 rw [repL_nil] at h2; subst h2
 obtain ⟨a,cap,rfl,_,_,_⟩:=rep_sl.1 h1
 refine (clone_vals0 a cap C.w).mono ?_
 rintro e w' ⟨⟨a',c',rfl⟩,hb⟩
 obtain ⟨i1,s1⟩:=inv_below hI hb
 exact ⟨C.at w',h,.sl 5 .no [],_,rfl,rfl,i1,s1,rep_sl.2 ⟨a',c',rfl,Nat.zero_le _,by unfold RepRows; trivial,trivial⟩,rfl,rfl⟩
theorem a_clone_vals (o : Own) (rows : List (List A)) (h0 : rows ≠ []) (hbig : rows.length * 80 ≤ 140737488355328) (hmax : rows.length ≤ maxLen) (h : Hp) :
  ACall Tryz.prog GT 298 [.sl 5 o rows] h fun v h' => v = .bs h.b.length 5 rows.length ∧ h' = ⟨h.b ++ [.row 71 rows.flatten],h.t⟩:=by
 intro C es hI ha
 obtain ⟨c,es',rfl,h1,h2⟩:=repL_cons.1 ha
 rw [repL_nil] at h2; subst h2
 have hpos : 0 < rows.length:=List.length_pos_iff.2 h0
 obtain ⟨g,off,cap,cs,rfl,k1,k2,k3,k4,k5⟩:=sl_open h1 hpos
 refine (clone_vals g off rows.length cap cs C.w k2 hpos hbig hmax k5 (repL_one k1 (data_one k3))).mono ?_
 rintro e w' ⟨v',rfl,hown,hb⟩
 rcases hown.2 with ⟨_,hz⟩ | ⟨g',cap',cur,rfl,hg,hh,hcap,_,hcs,htake⟩
 ·omega
 ·have hcur : cur = (cs ++ cur.toList.drop (rows.length * 5)).toArray:=by
   apply Array.toList_inj.1
   rw [← htake]
   simp
  rw [hcur] at hh
  obtain ⟨C',m1,m2,m3,m4,m5⟩:=new_row hI hb hg hh k1
  exact ⟨C',_,.bs h.b.length 5 rows.length,_,rfl,m1,m2,m3,rep_bs.2 ⟨cap',by rw [m4],hcap,m5⟩,rfl,rfl⟩
end AX
set_option maxRecDepth 100000 in
theorem clone_outp (b off n c : Nat) (news : List Value) (w : World) (hl : news.length = n * 7) (hn : 0 < n) (hbig : n * 104 ≤ 140737488355328) (hmax : n ≤ maxLen) (hc : ∀ j v,news[j]? = some v → w.cell? ((⟨b,off,none⟩ : Addr).add j) = some v) (h1 : ∀ u ∈ news,u.oneCell' = true) :
  Calls Tryz.prog 255 #[.slice (some ⟨b,off,none⟩) n c] w fun e w' => ∃ v',e = .returned v' ∧ w'.ownsRow w.heap.size 132 7 v' n news ∧ Below w.heap.size w w':=by
 obtain ⟨i0,hi,hz0,hz1,hz2⟩:=info_parts (show (Tryz.prog.info? 132).map (fun i => (i.zero,i.size,i.bytes)) = some (some (.agg #[.string ⟨#[]⟩,.int .i64 0,.int .i64 0,.string ⟨#[]⟩,.slice none 0 0,.slice none 0 0,.bool false]),7,104) by kernel_rfl)
 have q22 : ∀ (w : World) (a : Option Addr) (n c n' c' : Nat),(binOp .eql 37 (.slice a n c) (.slice none n' c')).run Tryz.prog w = .ok (.bool a.isNone) w:=fun w a n c n' c' => Lib.run_eql_slice_nil w _ _ a n c n' c' Tryz.underlying37
 have u22 : ∀ w,Sem.run Tryz.prog (underlying 37) w = .ok (TypeDesc.slice 132) w:=run_underlying Tryz.underlying37
 have HC:=kept hc
 have H1:=kept h1
 clear hc h1
 go_enter Tryz.func255,Tryz.ntmps255
 go_wp2_with (at_builtin; refine wpList_append_own _ rfl _ _ 37 rfl w.heap.size 132 i0 (.agg #[.string ⟨#[]⟩,.int .i64 0,.int .i64 0,.string ⟨#[]⟩,.slice none 0 0,.slice none 0 0,.bool false]) 7 104 Tryz.underlying37 hi hz0 hz1 hz2 rfl (by decide) _ _ _ rfl (World.ownsRow_made w #[] 0 (Nat.le_refl _) (Nat.zero_le _) rfl) ⟨b,off,none⟩ n c news rfl ?qc1 ?qc2 ?qc3 ?qc4 ?qc5 ?qc6 ?_)
 case qc1 => exact hl
 case qc2 =>
  intro j u hj
  have:=HC.out j u hj
  rw [Addr.add_lit] at this ⊢
  exact Lib.cell?_alloc_some _ this
 case qc3 => exact H1.out
 case qc4 => omega
 case qc5 => omega
 case qc6 => simp
 intro v' w1 hown hgrow hnil
 have Hb:=kept (((Below.refl _ w).alloc (Nat.le_refl _) (.cells #[] 132)).grown hgrow (by simp) (by intro k hk; simp [Value.ownBlock] at hk; omega))
 have Ho:=kept (show w1.ownsRow w.heap.size 132 7 v' n news by simpa using hown)
 clear hown hgrow hnil HC H1
 go_wp2
 go_ret
 exact ⟨v',rfl,Ho.out,Hb.out⟩
theorem clone_outp0 (a : Option Addr) (c : Nat) (w : World) :
  Calls Tryz.prog 255 #[.slice a 0 c] w fun e w' => (∃ a' c',e = .returned (.slice a' 0 c')) ∧ Below w.heap.size w w':=by
 have q22 : ∀ (w : World) (a : Option Addr) (n c n' c' : Nat),(binOp .eql 37 (.slice a n c) (.slice none n' c')).run Tryz.prog w = .ok (.bool a.isNone) w:=fun w a n c n' c' => Lib.run_eql_slice_nil w _ _ a n c n' c' Tryz.underlying37
 have u22 : ∀ w,Sem.run Tryz.prog (underlying 37) w = .ok (TypeDesc.slice 132) w:=run_underlying Tryz.underlying37
 cases a with
 | none =>
  go_enter Tryz.func255,Tryz.ntmps255
  go_wp2
  go_ret
  exact ⟨⟨_,_,rfl⟩,Below.refl _ _⟩
 | some ad =>
  obtain ⟨i0,hi,hz0,hz1,hz2⟩:=info_parts (show (Tryz.prog.info? 132).map (fun i => (i.zero,i.size,i.bytes)) = some (some (.agg #[.string ⟨#[]⟩,.int .i64 0,.int .i64 0,.string ⟨#[]⟩,.slice none 0 0,.slice none 0 0,.bool false]),7,104) by kernel_rfl)
  go_enter Tryz.func255,Tryz.ntmps255
  go_wp2_with (at_builtin; refine wpList_append_own _ rfl _ _ 37 rfl w.heap.size 132 i0 (.agg #[.string ⟨#[]⟩,.int .i64 0,.int .i64 0,.string ⟨#[]⟩,.slice none 0 0,.slice none 0 0,.bool false]) 7 104 Tryz.underlying37 hi hz0 hz1 hz2 rfl (by decide) _ _ _ rfl (World.ownsRow_made w #[] 0 (Nat.le_refl _) (Nat.zero_le _) rfl) ad 0 c [] rfl rfl (by intro j u hj; simp at hj) (by intro u hu; cases hu) (by unfold maxLen; omega) (by omega) (by simp) ?_)
  intro v' w1 hown hgrow hnil
  have Hb:=kept (((Below.refl _ w).alloc (Nat.le_refl _) (.cells #[] 132)).grown hgrow (by simp) (by intro k hk; simp [Value.ownBlock] at hk; omega))
  have Hv : ∃ a' c',v' = .slice a' 0 c':=by
   rcases hown.2 with ⟨rfl,_⟩ | ⟨g,cap,cur,rfl,_⟩
   ·exact ⟨_,_,rfl⟩
   ·exact ⟨_,_,rfl⟩
  obtain ⟨a',c',rfl⟩:=Hv
  clear hown hgrow hnil
  go_wp2
  go_ret
  exact ⟨⟨_,_,rfl⟩,Hb.out⟩
namespace AX
theorem a_clone_outp0 (W0 : Nat) (o : Own) (h : Hp) : ACall Tryz.prog GT 255 [.sl W0 o []] h fun v h' => v = .sl 7 .no [] ∧ h' = h:=by
 intro C es hI ha
 obtain ⟨c,es',rfl,h1,h2⟩:=repL_cons.1 ha
 rw [repL_nil] at h2; subst h2
 obtain ⟨a,cap,rfl,_,_,_⟩:=rep_sl.1 h1
 refine (clone_outp0 a cap C.w).mono ?_
 rintro e w' ⟨⟨a',c',rfl⟩,hb⟩
 obtain ⟨i1,s1⟩:=inv_below hI hb
 exact ⟨C.at w',h,.sl 7 .no [],_,rfl,rfl,i1,s1,rep_sl.2 ⟨a',c',rfl,Nat.zero_le _,by unfold RepRows; trivial,trivial⟩,rfl,rfl⟩
theorem a_clone_outp (o : Own) (rows : List (List A)) (h0 : rows ≠ []) (hbig : rows.length * 104 ≤ 140737488355328) (hmax : rows.length ≤ maxLen) (h : Hp) :
  ACall Tryz.prog GT 255 [.sl 7 o rows] h fun v h' => v = .bs h.b.length 7 rows.length ∧ h' = ⟨h.b ++ [.row 132 rows.flatten],h.t⟩:=by
 intro C es hI ha
 obtain ⟨c,es',rfl,h1,h2⟩:=repL_cons.1 ha
 rw [repL_nil] at h2; subst h2
 have hpos : 0 < rows.length:=List.length_pos_iff.2 h0
 obtain ⟨g,off,cap,cs,rfl,k1,k2,k3,k4,k5⟩:=sl_open h1 hpos
 refine (clone_outp g off rows.length cap cs C.w k2 hpos hbig hmax k5 (repL_one k1 (data_one k3))).mono ?_
 rintro e w' ⟨v',rfl,hown,hb⟩
 rcases hown.2 with ⟨_,hz⟩ | ⟨g',cap',cur,rfl,hg,hh,hcap,_,hcs,htake⟩
 ·omega
 ·have hcur : cur = (cs ++ cur.toList.drop (rows.length * 7)).toArray:=by
   apply Array.toList_inj.1
   rw [← htake]
   simp
  rw [hcur] at hh
  obtain ⟨C',m1,m2,m3,m4,m5⟩:=new_row hI hb hg hh k1
  exact ⟨C',_,.bs h.b.length 7 rows.length,_,rfl,m1,m2,m3,rep_bs.2 ⟨cap',by rw [m4],hcap,m5⟩,rfl,rfl⟩
end AX
namespace AX
def c_scopied : AX.AFn:=⟨30,aS [aR 1 (.box 71 (.t 0)),aR 2 (.alloc 71 [.int .i64 0,.int .i64 0,.str [],.sl 0 .nil [],.sl 0 .nil []])] (aS [aF 4 4 1,aL 5 4,aR 6 (.call 195 [.t 5]),aF 7 4 1,aU (.store 1 (.t 7) (.t 6))] (aS [aF 8 3 1,aL 9 8,aR 10 (.call 298 [.t 9]),aF 11 3 1,aU (.store 1 (.t 11) (.t 10))] (.seq (aS [aF 12 3 1,aL 13 12,aR 14 (.len false (.t 13)),aR 15 (.mv (aI 0))] (.block 0 (.loop (aS [aR 16 (.bin .lss (.t 15) (.t 14))] (.seq (.cond (.t 16) (.skip) (.exit 0)) (.seq (.block 1 (aS [aM 17 15,aM 3 17] (.reg true [aF 18 3 1,⟨some 19,.load false 1 (.t 18),none,[0]⟩,aM 20 3,aF 21 3 1,⟨some 22,.load false 1 (.t 21),none,[3]⟩,aM 23 3,⟨some 24,.iaddr 5 (.t 22) (.t 23),none,[4,5]⟩,⟨some 25,.load true 5 (.t 24),none,[6]⟩,⟨some 26,.call 256 [.t 25],none,[7]⟩,⟨some 27,.iaddr 5 (.t 19) (.t 20),none,[1,2,0,1,2,3,4,5,6,7,8]⟩,⟨none,.store 5 (.t 27) (.t 26),none,[9,8,8,0,1,2,3,4,5,6,7,8]⟩]))) (.reg false [aR 28 (.bin .add (.t 15) (aI 1)),aM 15 28]))))))) (aS [aR 29 (.load true 5 (.t 1)),aU (.store 5 (.t 2) (.t 29))] (.ret))))),[.c 2 true 5]⟩
theorem h_scopied : AX.compFn Tryz.prog 256 = some c_scopied:=by kernel_rfl
def c_srecord : AX.AFn:=⟨12,aS [aR 1 (.box 73 (.t 0)),aR 2 (.alloc 73 [.str [],.str [],.str [],.str [],.int .i64 0,.int .i64 0,.str [],.sl 0 .nil [],.sl 0 .nil [],.int .i64 0,.bool false,.bool false,.sl 0 .nil []])] (aS [aF 3 4 1,aR 4 (.load true 5 (.t 3)),aR 5 (.call 256 [.t 4]),aF 6 4 1,aU (.store 5 (.t 6) (.t 5))] (aS [aF 7 12 1,aL 8 7,aR 9 (.call 195 [.t 8]),aF 10 12 1,aU (.store 1 (.t 10) (.t 9))] (aS [aR 11 (.load true 13 (.t 1)),aU (.store 13 (.t 2) (.t 11))] (.ret)))),[.c 2 true 13]⟩
theorem h_srecord : AX.compFn Tryz.prog 254 = some c_srecord:=by kernel_rfl
def c_soutputs : AX.AFn:=⟨24,aS [aR 2 (.mv (.c (.sl 0 .nil [])))] (aS [aM 5 0,aR 6 (.call 255 [.t 5]),aM 3 6] (.seq (aS [aM 7 3,aR 8 (.len false (.t 7)),aR 9 (.mv (aI 0))] (.block 0 (.loop (aS [aR 10 (.bin .lss (.t 9) (.t 8))] (.seq (.cond (.t 10) (.skip) (.exit 0)) (.seq (.block 1 (aS [aM 11 9,aM 4 11] (.reg false [aM 12 3,aM 13 4,aM 14 3,aM 15 4,aR 16 (.iaddr 7 (.t 14) (.t 15)),aF 17 1 16,aR 18 (.load true 5 (.t 17)),aR 19 (.call 256 [.t 18]),aR 20 (.iaddr 7 (.t 12) (.t 13)),aF 21 1 20,aU (.store 5 (.t 21) (.t 19))]))) (.reg false [aR 22 (.bin .add (.t 9) (aI 1)),aM 9 22]))))))) (aS [aM 23 3,aM 2 23] (.ret)))),[.t 2]⟩
theorem h_soutputs : AX.compFn Tryz.prog 203 = some c_soutputs:=by kernel_rfl
def c_sclone : AX.AFn:=⟨33,aS [aR 1 (.box 39 (.t 0)),aR 2 (.alloc 39 [.str [],.int .i64 0,.sl 0 .nil [],.sl 0 .nil [],.sl 0 .nil []])] (.seq (.reg true [aF 6 0 1,⟨some 7,.load false 1 (.t 6),none,[0]⟩,aF 8 1 1,⟨some 9,.load false 1 (.t 8),none,[2]⟩,aF 10 3 1,⟨some 11,.load false 1 (.t 10),none,[4]⟩,⟨some 12,.call 128 [.t 11],none,[5]⟩,aF 13 4 1,⟨some 14,.load false 1 (.t 13),none,[7]⟩,⟨some 15,.call 203 [.t 14],none,[8,6]⟩,⟨some 16,.build [.str [],.int .i64 0,.sl 0 .nil [],.sl 0 .nil [],.sl 0 .nil []] [(0,1,.t 7),(1,1,.t 9),(3,1,.t 12),(4,1,.t 15)],none,[1,3,6,9]⟩,aR 3 (.alloc 39 [.str [],.int .i64 0,.sl 0 .nil [],.sl 0 .nil [],.sl 0 .nil []]),⟨none,.store 5 (.t 3) (.t 16),none,[11,10,9,0,1,2,3,4,5,6,7,8,9,10,11]⟩]) (.seq (aS [aF 17 2 1,aL 18 17,aR 19 (.len false (.t 18)),aR 20 (.mv (aI 0))] (.block 0 (.loop (aS [aR 21 (.bin .lss (.t 20) (.t 19))] (.seq (.cond (.t 21) (.skip) (.exit 0)) (.seq (.block 1 (aS [aR 22 (.iaddr 13 (.t 18) (.t 20)),aR 23 (.load true 13 (.t 22)),aR 5 (.alloc 73 [.str [],.str [],.str [],.str [],.int .i64 0,.int .i64 0,.str [],.sl 0 .nil [],.sl 0 .nil [],.int .i64 0,.bool false,.bool false,.sl 0 .nil []]),aU (.store 13 (.t 5) (.t 23))] (.reg true [aF 24 2 3,⟨some 25,.load false 1 (.t 24),none,[0]⟩,aR 26 (.load true 13 (.t 5)),⟨some 27,.call 254 [.t 26],none,[2]⟩,⟨some 28,.mks 13 [.t 27],none,[3]⟩,⟨some 29,.app 73 13 184 (.t 25) (.t 28),none,[1,4,3]⟩,⟨some 30,.faddr 2 (.t 3),none,[0,1,2,3,4,5]⟩,⟨none,.store 1 (.t 30) (.t 29),none,[6,5,5,0,1,2,3,4,5]⟩]))) (.reg false [aR 31 (.bin .add (.t 20) (aI 1)),aM 20 31]))))))) (aS [aR 32 (.load true 5 (.t 3)),aU (.store 5 (.t 2) (.t 32))] (.ret)))),[.c 2 true 5]⟩
theorem h_sclone : AX.compFn Tryz.prog 202 = some c_sclone:=by kernel_rfl
def c_ssetouts : AX.AFn:=⟨12,aS [aR 2 (.box 39 (.t 0)),aR 4 (.alloc 39 [.str [],.int .i64 0,.sl 0 .nil [],.sl 0 .nil [],.sl 0 .nil []])] (aS [aR 6 (.load true 5 (.t 2)),aR 7 (.call 202 [.t 6]),aR 5 (.alloc 39 [.str [],.int .i64 0,.sl 0 .nil [],.sl 0 .nil [],.sl 0 .nil []]),aU (.store 5 (.t 5) (.t 7))] (aS [aM 8 1,aR 9 (.call 203 [.t 8]),aF 10 4 5,aU (.store 1 (.t 10) (.t 9))] (aS [aR 11 (.load true 5 (.t 5)),aU (.store 5 (.t 4) (.t 11))] (.ret)))),[.c 4 true 5]⟩
theorem h_ssetouts : AX.compFn Tryz.prog 141 = some c_ssetouts:=by kernel_rfl
theorem setCells_same : ∀ (xs l : List A) (off : Nat),(l.drop off).take xs.length = xs → setCells l off xs = l:=by
 intro xs
 induction xs with
 | nil => intro l off _; rfl
 | cons x xs ih =>
  intro l off h
  rcases hd : l.drop off with _ | ⟨y,r⟩
  ·rw [hd] at h; simp at h
  ·rw [hd,List.length_cons,List.take_succ_cons] at h
   injection h with h1 h2
   subst h1
   have hlt : off < l.length:=by
    rcases Nat.lt_or_ge off l.length with h3 | h3
    ·exact h3
    ·rw [List.drop_of_length_le h3] at hd; cases hd
   have hd':=hd
   rw [List.drop_eq_getElem_cons hlt] at hd'
   injection hd' with e1 e2
   unfold setCells
   rw [show l.set off y = l by rw [← e1]; exact List.set_getElem_self hlt]
   exact ih l (off + 1) (by rw [e2]; exact h2)
theorem flat_len {α : Type} (f : α → List A) (W : Nat) (hf : ∀ x,(f x).length = W) : ∀ l : List α,((l.map f).flatten).length = l.length * W
 | [] => by simp
 | x :: l => by rw [List.map_cons,List.flatten_cons,List.length_append,flat_len f W hf l,hf,List.length_cons,Nat.add_mul]; omega
theorem flat_row {α : Type} (f : α → List A) (W : Nat) (hf : ∀ x,(f x).length = W) : ∀ (l : List α) (j : Nat) (h : j < l.length),(((l.map f).flatten).drop (j * W)).take W = f l[j]
 | x :: l,0,_ => by
  rw [List.map_cons,List.flatten_cons,Nat.zero_mul,List.drop_zero,List.take_append_of_le_length (by rw [hf]; exact Nat.le_refl _),← hf x,List.take_length]; rfl
 | x :: l,j + 1,h => by
  rw [List.map_cons,List.flatten_cons,List.drop_append,List.drop_of_length_le (by rw [hf,Nat.add_mul]; omega),List.nil_append,hf,show (j + 1) * W - W = j * W by rw [Nat.add_mul]; omega]
  exact flat_row f W hf l j (by rw [List.length_cons] at h; omega)
theorem V.cells_len (v : V) : v.cells.length = 5:=by obtain ⟨k,n,s,is,ks⟩:=v; rw [V.cells]; rfl
theorem rows_data {α : Type} (f : α → List A) (hf : ∀ x,(f x).all A.data = true) (l : List α) : (l.map f).flatten.all A.data = true:=by
 rw [List.all_flatten,List.all_eq_true]
 intro r hr
 obtain ⟨s,_,rfl⟩:=List.mem_map.1 hr
 exact hf s
theorem a_scopied : ∀ v : V,v.few → ∀ h,ACall Tryz.prog GT 256 [v.A] h fun r h' => r = v.A ∧ h' = h:=by
 refine V.induct ?_
 intro k n s is ks ih hfew h
 unfold V.few at hfew
 obtain ⟨hl1,hl2,hfs⟩:=hfew
 have ck:=a_clones ks (by omega)
 have li:=V.cellss_length is
 have hVA : (V.mk k n s is ks).A = .agg [.int .i64 k,.int .i64 n,.str s,.sl 5 .no (V.cellss is),.sl 1 .no (strsA ks)]:=by simp only [V.A,V.cells]
 rw [hVA]
 refine pcallv ?_ (by simp [A.pure,A.data]) h
 refine acall_of mixedT h_scopied (by simp [c_scopied]) ?_
 dsimp only [c_scopied]
 by_cases hm : is = []
 ·subst hm
  have e0 : V.cellss [] = []:=by rw [V.cellss]
  have cv:=fun h => a_clone_vals0 5 .no h
  rw [e0]
  refine runc0 ti (ai ck (ai cv ti)) ?_
  refine go_once ?_
  have hz : ¬ (0 : Int) < ((0 : Nat) : Int):=by decide
  refine run0 hz ?_
  exact ⟨_,le_refl _,.agg ⟨.inl ⟨rfl,rfl⟩,.inl ⟨rfl,rfl⟩,.inl ⟨rfl,rfl⟩,.inl ⟨rfl,rfl⟩,.inl ⟨rfl,rfl⟩,trivial⟩⟩
 have hne : V.cellss is ≠ []:=fun e => hm (List.length_eq_zero_iff.1 (by rw [← li,e]; rfl))
 have cv:=fun h => a_clone_vals .no (V.cellss is) hne (by rw [li]; omega) (by rw [li]; unfold maxLen; omega) h
 rw [li] at cv
 have eF : V.cellss is = is.map V.cells:=V.cellss_map is
 obtain ⟨F,hF⟩ : ∃ F,(V.cellss is).flatten = F:=⟨_,rfl⟩
 rw [hF] at cv
 refine runc0 li (ai ck (ai cv ti)) ?_
 refine awp_loop (fun m ts hh => ∃ j : Nat,m = is.length - j ∧ j ≤ is.length ∧ hh = ⟨[.cells 71 [.int .i64 k,.int .i64 n,.str s,.bs 2 5 is.length,.sl 1 .no (strsA ks)],.cells 71 [.int .i64 0,.int .i64 0,.str [],.sl 0 .nil [],.sl 0 .nil []],.row 71 F],[]⟩ ∧
  (ts 1 = .ptr 0 0 ∧ ts 2 = .ptr 1 0 ∧ ts 14 = .int .i64 (is.length : Nat) ∧ ts 15 = .int .i64 (j : Nat))) is.length ?_ ?_
 ·exact ⟨0,rfl,Nat.zero_le _,rfl,by (exact inv0 li)⟩
 rintro m ts hh ⟨j,rfl,hj,rfl,ht⟩
 rcases Nat.lt_or_ge j is.length with hlt | hge
 rotate_left
 ·have hf : ¬ (j : Int) < (is.length : Int):=by omega
  refine run0 (ai ht hf) ?_
  exact ⟨_,le_refl _,.agg ⟨.inl ⟨rfl,rfl⟩,.inl ⟨rfl,rfl⟩,.inl ⟨rfl,rfl⟩,.inr ⟨2,5,71,V.cellss is,by rw [li],by rw [hF]; rfl,rfl,fun r hr => by rw [eF] at hr; obtain ⟨x,_,rfl⟩:=List.mem_map.1 hr; exact V.cells_len x,by rw [eF]; exact rows_data _ V.cells_data is⟩,.inl ⟨rfl,rfl⟩,trivial⟩⟩
 have hf : (j : Int) < (is.length : Int) ∧ (0 : Int) ≤ (j : Int) ∧ IntKind.i64.wrap ((j : Int) + 1) = ((j + 1 : Nat) : Int):=
  ⟨by omega,by omega,by rw [wrap64 (by omega) (by omega)]; omega⟩
 have hln : j * 5 + 5 ≤ F.length:=by rw [← hF,eF,flat_len V.cells 5 V.cells_len]; omega
 have hrow : (F.drop (j * 5)).take 5 = is[j].cells:=by rw [← hF,eF]; exact flat_row V.cells 5 V.cells_len is j hlt
 have hset : setCells F (j * 5) is[j].cells = F:=setCells_same _ _ _ (by rw [V.cells_len]; exact hrow)
 have cx:=ih _ (List.getElem_mem hlt) (V.fews_mem hfs _ (List.getElem_mem hlt))
 obtain ⟨x,hx⟩ : ∃ x,is[j] = x:=⟨_,rfl⟩
 rw [hx] at cx hrow hset
 obtain ⟨k2,n2,w,vi,vy⟩:=x
 simp only [V.A,V.cells] at cx hrow hset
 simp only [setCells] at hset
 refine runc0 (ai ht (ai hf (ai hln (ai hrow hset)))) (ai cx ti) ?_
 exact ⟨_,by omega,j + 1,rfl,by omega,rfl,by (exact inv0 (ai ht hf))⟩
theorem a_srecord (x : Sf.Inst) (hv : x.attrs.few) (hd : x.deps.length ≤ 1000000000) (h : Hp) : ACall Tryz.prog GT 254 [.agg (Sf.Inst.cells x)] h fun r h' => r = .agg (Sf.Inst.cells x) ∧ h' = h:=by
 have cc:=a_scopied x.attrs hv
 have cs:=a_clones x.deps hd
 obtain ⟨a,d,i,t,⟨k,n,s,is,ks⟩,v,tn,fi,ds⟩:=x
 simp only [V.A,V.cells,Sf.Inst.cells] at cc cs ⊢
 refine pcall ?_ rfl (by simp [A.pure,A.data]) h
 refine acall_of mixedT h_srecord (by simp [c_srecord]) ?_
 dsimp only [c_srecord]
 refine runc0 ti (ai cc (ai cs ti)) ?_
 exact ⟨_,le_refl _,rfl⟩
theorem Sf.Outp.cells_len (o : Sf.Outp) : o.cells.length = 7:=by obtain ⟨a,v,b⟩:=o; obtain ⟨k,n,s,is,ks⟩:=v; simp [Sf.Outp.cells,V.cells]
theorem Sf.Outp.cells_data (o : Sf.Outp) : o.cells.all A.data = true:=by obtain ⟨a,v,b⟩:=o; obtain ⟨k,n,s,is,ks⟩:=v; simp [Sf.Outp.cells,V.cells,A.data]
theorem a_soutputs (os : List Sf.Outp) (hn : os.length ≤ 2000000) (hv : ∀ x ∈ os,x.value.few) (h : Hp) : ACall Tryz.prog GT 203 [.sl 7 .no (os.map Sf.Outp.cells)] h fun r h' => r = .sl 7 .no (os.map Sf.Outp.cells) ∧ h' = h:=by
 have lo : (os.map Sf.Outp.cells).length = os.length:=List.length_map _
 refine pcallv ?_ (by simp [A.pure,A.data]) h
 refine acall_of mixedT h_soutputs (by simp [c_soutputs]) ?_
 dsimp only [c_soutputs]
 by_cases hm : os = []
 ·subst hm
  have cv:=fun h => a_clone_outp0 7 .no h
  simp only [List.map_nil]
  refine runc0 ti (ai cv ti) ?_
  refine go_once ?_
  have hz : ¬ (0 : Int) < ((0 : Nat) : Int):=by decide
  refine run0 hz ?_
  exact ⟨_,le_refl _,.one (.inl ⟨rfl,rfl⟩)⟩
 have hne : os.map Sf.Outp.cells ≠ []:=by simpa using hm
 have cv:=fun h => a_clone_outp .no (os.map Sf.Outp.cells) hne (by rw [lo]; omega) (by rw [lo]; unfold maxLen; omega) h
 rw [lo] at cv
 obtain ⟨F,hF⟩ : ∃ F,(os.map Sf.Outp.cells).flatten = F:=⟨_,rfl⟩
 rw [hF] at cv
 refine runc0 lo (ai cv ti) ?_
 refine awp_loop (fun m ts hh => ∃ j : Nat,m = os.length - j ∧ j ≤ os.length ∧ hh = ⟨[.row 132 F],[]⟩ ∧
  (ts 3 = .bs 0 7 os.length ∧ ts 8 = .int .i64 (os.length : Nat) ∧ ts 9 = .int .i64 (j : Nat))) os.length ?_ ?_
 ·exact ⟨0,rfl,Nat.zero_le _,rfl,by (exact inv0 lo)⟩
 rintro m ts hh ⟨j,rfl,hj,rfl,ht⟩
 rcases Nat.lt_or_ge j os.length with hlt | hge
 rotate_left
 ·have hf : ¬ (j : Int) < (os.length : Int):=by omega
  refine run0 (ai ht hf) ?_
  exact ⟨_,le_refl _,.one (.inr ⟨0,7,132,os.map Sf.Outp.cells,by rw [lo]; rfl,by rw [hF]; rfl,rfl,fun r hr => by obtain ⟨x,_,rfl⟩:=List.mem_map.1 hr; exact Sf.Outp.cells_len x,rows_data _ Sf.Outp.cells_data os⟩)⟩
 have hf : (j : Int) < (os.length : Int) ∧ (0 : Int) ≤ (j : Int) ∧ IntKind.i64.wrap ((j : Int) + 1) = ((j + 1 : Nat) : Int):=
  ⟨by omega,by omega,by rw [wrap64 (by omega) (by omega)]; omega⟩
 have hln : j * 7 + 1 + 5 ≤ F.length:=by rw [← hF,flat_len Sf.Outp.cells 7 Sf.Outp.cells_len]; omega
 have hrow0 : (F.drop (j * 7)).take 7 = os[j].cells:=by rw [← hF]; exact flat_row Sf.Outp.cells 7 Sf.Outp.cells_len os j hlt
 have hrow : (F.drop (j * 7 + 1)).take 5 = os[j].value.cells:=by
  have h5 : ((F.drop (j * 7)).take 7).drop 1 = os[j].cells.drop 1:=by rw [hrow0]
  rw [← List.drop_drop]
  rw [List.drop_take] at h5
  have h6:=congrArg (List.take 5) h5
  rw [List.take_take] at h6
  have h7 : (os[j].cells.drop 1).take 5 = os[j].value.cells:=by
   obtain ⟨a,v,b⟩:=os[j]
   obtain ⟨k,n,s,is,ks⟩:=v
   simp [Sf.Outp.cells,V.cells]
  rw [h7] at h6
  exact h6
 have hset : setCells F (j * 7 + 1) os[j].value.cells = F:=setCells_same _ _ _ (by rw [V.cells_len]; exact hrow)
 have cx:=a_scopied _ (hv _ (List.getElem_mem hlt))
 clear hrow0
 obtain ⟨x,hx⟩ : ∃ x,os[j].value = x:=⟨_,rfl⟩
 rw [hx] at cx hrow hset
 obtain ⟨k2,n2,w,vi,vy⟩:=x
 simp only [V.A,V.cells] at cx hrow hset
 simp only [setCells] at hset
 refine runc0 (ai ht (ai hf (ai hln (ai hrow hset)))) (ai cx ti) ?_
 exact ⟨_,by omega,j + 1,rfl,by omega,rfl,by (exact inv0 (ai ht hf))⟩
theorem eqB_refl_ : ∀ v : V,Val.eqB v v = true:=by
 refine V.induct fun k n s is ks ih => ?_
 rw [Val.eqB]
 have : Val.eqBs is is = true:=by
  have key : ∀ l : List V,(∀ x ∈ l,Val.eqB x x = true) → Val.eqBs l l = true:=by
   intro l
   induction l with
   | nil => intro _; rw [Val.eqBs]
   | cons x l ihl =>
    intro hl
    rw [Val.eqBs,hl x (by simp),ihl fun y hy => hl y (by simp [hy])]
    rfl
  exact key is ih
 simp [this]
namespace Sf
end Sf
def c_r9Equal : AX.AFn:=⟨81,aS [aR 2 (.box 71 (.t 0)),aR 3 (.box 71 (.t 1)),aR 4 (.mv (.c (.bool false)))] (.seq (aS [aF 7 0 2,aL 8 7,aF 9 0 3,aL 10 9,aR 11 (.bin .neq (.t 8) (.t 10)),aM 12 11,aG 13 (.faddr 1 (.t 2)) 12 false,aG 14 (.load false 1 (.t 13)) 12 false,aG 15 (.faddr 1 (.t 3)) 12 false,aG 16 (.load false 1 (.t 15)) 12 false,aG 17 (.bin .neq (.t 14) (.t 16)) 12 false,aR 18 (.pick (.t 12) (.c (.bool true)) (.t 17)),aM 19 18,aG 20 (.faddr 2 (.t 2)) 19 false,aG 21 (.load false 1 (.t 20)) 19 false,aG 22 (.faddr 2 (.t 3)) 19 false,aG 23 (.load false 1 (.t 22)) 19 false,aG 24 (.bin .neq (.t 21) (.t 23)) 19 false,aR 25 (.pick (.t 19) (.c (.bool true)) (.t 24)),aM 26 25,aG 27 (.faddr 3 (.t 2)) 26 false,aG 28 (.load false 1 (.t 27)) 26 false,aG 29 (.len false (.t 28)) 26 false,aG 30 (.faddr 3 (.t 3)) 26 false,aG 31 (.load false 1 (.t 30)) 26 false,aG 32 (.len false (.t 31)) 26 false,aG 33 (.bin .neq (.t 29) (.t 32)) 26 false,aR 34 (.pick (.t 26) (.c (.bool true)) (.t 33)),aM 35 34,aG 36 (.faddr 4 (.t 2)) 35 false,aG 37 (.load false 1 (.t 36)) 35 false,aG 38 (.len false (.t 37)) 35 false,aG 39 (.faddr 4 (.t 3)) 35 false,aG 40 (.load false 1 (.t 39)) 35 false,aG 41 (.len false (.t 40)) 35 false,aG 42 (.bin .neq (.t 38) (.t 41)) 35 false,aR 43 (.pick (.t 35) (.c (.bool true)) (.t 42))] (.cond (.t 43) (aS [aR 4 (.mv (.c (.bool false)))] (.ret)) (.skip))) (.seq (aS [aR 5 (.mv (aI 0))] (.block 0 (.loop (.seq (aS [aM 44 5,aF 45 4 2,aL 46 45,aR 47 (.len false (.t 46)),aR 48 (.bin .lss (.t 44) (.t 47))] (.cond (.t 48) (.skip) (.exit 0))) (.seq (.block 1 (.seq (.reg true [aF 51 4 2,⟨some 52,.load false 1 (.t 51),none,[0]⟩,aM 53 5,⟨some 54,.iaddr 1 (.t 52) (.t 53),none,[1,2]⟩,⟨some 55,.load false 1 (.t 54),none,[3]⟩,aF 56 4 3,⟨some 57,.load false 1 (.t 56),none,[5]⟩,aM 58 5,⟨some 59,.iaddr 1 (.t 57) (.t 58),none,[6,7]⟩,⟨some 60,.load false 1 (.t 59),none,[8]⟩,⟨some 61,.bin .neq (.t 55) (.t 60),none,[4,9]⟩]) (.cond (.t 61) (aS [aR 4 (.mv (.c (.bool false)))] (.ret)) (.skip)))) (.reg false [aM 49 5,aR 50 (.bin .add (.t 49) (aI 1)),aM 5 50])))))) (.seq (aS [aR 6 (.mv (aI 0))] (.block 2 (.loop (.seq (aS [aM 62 6,aF 63 3 2,aL 64 63,aR 65 (.len false (.t 64)),aR 66 (.bin .lss (.t 62) (.t 65))] (.cond (.t 66) (.skip) (.exit 2))) (.seq (.block 3 (.seq (.reg true [aF 69 3 2,⟨some 70,.load false 1 (.t 69),none,[0]⟩,aM 71 6,⟨some 72,.iaddr 5 (.t 70) (.t 71),none,[1,2]⟩,⟨some 73,.load true 5 (.t 72),none,[3]⟩,aF 74 3 3,⟨some 75,.load false 1 (.t 74),none,[5]⟩,aM 76 6,⟨some 77,.iaddr 5 (.t 75) (.t 76),none,[6,7]⟩,⟨some 78,.load true 5 (.t 77),none,[8]⟩,⟨some 79,.call 83 [.t 73,.t 78],none,[4,9]⟩,⟨some 80,.un .not (.t 79),none,[10]⟩]) (.cond (.t 80) (aS [aR 4 (.mv (.c (.bool false)))] (.ret)) (.skip)))) (.reg false [aM 67 6,aR 68 (.bin .add (.t 67) (aI 1)),aM 6 68])))))) (aS [aR 4 (.mv (.c (.bool true)))] (.ret))))),[.t 4]⟩
theorem h_r9Equal : AX.compFn Tryz.prog 83 = some c_r9Equal:=by kernel_rfl
theorem t_rEqual : ∀ (v v' : V),v.lens → v'.lens → ∀ h,ACall Tryz.prog GT 83 [v.A,v'.A] h fun r h' => r = .bool (Val.eqB v v') ∧ h' = h:=by
 refine V.induct fun k n s is ks ih => ?_
 rintro ⟨k',n',s',is',ks'⟩ hlen hlen' h
 refine pcall ?_ rfl (by simp [V.A,V.cells,A.pure,A.data]) h
 refine acall_of mixedT h_r9Equal (by simp [c_r9Equal]) ?_
 dsimp only [c_r9Equal]
 obtain ⟨hil,hkl,_,hmem⟩:=V.lens_mk hlen
 obtain ⟨hil',hkl',_,hmem'⟩:=V.lens_mk hlen'
 have hE : Val.eqB (.mk k n s is ks) (.mk k' n' s' is' ks') = (k == k' && n == n' && s == s' && ks == ks' && Val.eqBs is is'):=by rw [Val.eqB]
 have hno : ∀ b,b = false → Val.eqB (.mk k n s is ks) (.mk k' n' s' is' ks') = b → True:=fun _ _ _ => trivial
 by_cases h1 : k = k'
 rotate_left
 ·have e1 : (k != k') = true:=by simp [h1]
  refine go0 (ai @V_A (ai @V_cells e1)) ?_
  exact ⟨_,le_refl _,by rw [tupA_1,hE,beq_eq_false_iff_ne.2 h1]; rfl⟩
 have e1 : (k != k') = false:=by simp [h1]
 by_cases h2 : n = n'
 rotate_left
 ·have e2 : (n != n') = true:=by simp [h2]
  refine go0 (ai @V_A (ai @V_cells (ai e1 e2))) ?_
  exact ⟨_,le_refl _,by rw [tupA_1,hE,beq_eq_false_iff_ne.2 h2]; simp⟩
 have e2 : (n != n') = false:=by simp [h2]
 by_cases h3 : s = s'
 rotate_left
 ·have e3 : (s != s') = true:=by simp [h3]
  refine go0 (ai @V_A (ai @V_cells (ai e1 (ai e2 e3)))) ?_
  exact ⟨_,le_refl _,by rw [tupA_1,hE,beq_eq_false_iff_ne.2 h3]; simp⟩
 have e3 : (s != s') = false:=by simp [h3]
 by_cases h4 : is.length = is'.length
 rotate_left
 ·have e4 : ((is.length : Int) != (is'.length : Int)) = true:=by simp; omega
  have hb : Val.eqBs is is' = false:=by rw [Bool.eq_false_iff]; exact fun e => h4 (eqBs_len e)
  refine go0 (ai @V_A (ai @V_cells (ai e1 (ai e2 (ai e3 (ai @V.cellss_length e4)))))) ?_
  exact ⟨_,le_refl _,by rw [tupA_1,hE,hb]; simp⟩
 have e4 : ((is.length : Int) != (is'.length : Int)) = false:=by simp [h4]
 by_cases h5 : ks.length = ks'.length
 rotate_left
 ·have e5 : ((ks.length : Int) != (ks'.length : Int)) = true:=by simp; omega
  have hb : (ks == ks') = false:=by rw [beq_eq_false_iff_ne]; rintro rfl; exact h5 rfl
  refine go0 (ai @V_A (ai @V_cells (ai e1 (ai e2 (ai e3 (ai @V.cellss_length (ai e4 (ai @strsA_length e5)))))))) ?_
  exact ⟨_,le_refl _,by rw [tupA_1,hE,hb]; simp⟩
 have e5 : ((ks.length : Int) != (ks'.length : Int)) = false:=by simp [h5]
 have hE2 : Val.eqB (.mk k n s is ks) (.mk k' n' s' is' ks') = (ks == ks' && Val.eqBs is is'):=by rw [hE]; simp [h1,h2,h3]
 refine go0 (ai @V_A (ai @V_cells (ai e1 (ai e2 (ai e3 (ai @V.cellss_length (ai e4 (ai @strsA_length e5)))))))) ?_
 refine awp_loop (fun m ts hh => hh = ⟨[.cells 71 [.int .i64 k,.int .i64 n,.str s,.sl 5 .no (V.cellss is),.sl 1 .no (strsA ks)],.cells 71 [.int .i64 k',.int .i64 n',.str s',.sl 5 .no (V.cellss is'),.sl 1 .no (strsA ks')]],[]⟩ ∧ ∃ (i : Nat),m = ks.length - i ∧ i ≤ ks.length ∧ (ks.drop i == ks'.drop i) = (ks == ks') ∧ ts 2 = .ptr 0 0 ∧ ts 3 = .ptr 1 0 ∧ ts 5 = .int .i64 i) ks.length ?_ ?_
 ·refine ⟨rfl,0,rfl,Nat.zero_le _,rfl,?_⟩
  (exact inv0 @strsA_length)
 ·rintro m ts hh ⟨rfl,i,rfl,hi,heq,t2,t3,t5⟩
  by_cases hlt : i < ks.length
  ·have hla : (i : Int) < ((strsA ks).length : Int):=by rw [strsA_length]; omega
   have hlb : (i : Int) < ((strsA ks').length : Int):=by rw [strsA_length]; omega
   have ei : IntKind.i64.wrap ((i : Int) + 1) = (i : Int) + 1:=wrap64 (by omega) (by omega)
   have ea:=strsA_get ks i hlt
   have eb:=strsA_get ks' i (by omega)
   rw [List.drop_eq_getElem_cons hlt,List.drop_eq_getElem_cons (by omega : i < ks'.length)] at heq
   refine go0 (ai t2 (ai t3 (ai t5 hla))) ?_
   refine awp_quiet (by decide) ?_
   by_cases hc : ks[i] = ks'[i]
   ·have hc' : (ks[i] != ks'[i]) = false:=by simp [hc]
    refine go0 (ai t2 (ai t3 (ai t5 (ai hla (ai hlb (ai ea (ai eb (ai hc' ei)))))))) ?_
    refine ⟨ks.length - (i + 1),by omega,rfl,i + 1,rfl,by omega,?_,?_⟩
    ·rw [← heq,List.cons_beq_cons,hc,beq_self_eq_true,Bool.true_and]
    ·(exact inv0 (ai t2 (ai t3 (ai t5 ei))))
   ·have hc' : (ks[i] != ks'[i]) = true:=by simp [hc]
    refine go0 (ai t2 (ai t3 (ai t5 (ai hla (ai hlb (ai ea (ai eb (ai hc' ei)))))))) ?_
    exact ⟨_,le_refl _,by rw [tupA_1,hE2,← heq,List.cons_beq_cons,beq_eq_false_iff_ne.2 hc]; simp⟩
  ·have hla : ¬ (i : Int) < ((strsA ks).length : Int):=by rw [strsA_length]; omega
   rw [List.drop_of_length_le (by omega),List.drop_of_length_le (by omega)] at heq
   have hE3 : Val.eqB (.mk k n s is ks) (.mk k' n' s' is' ks') = Val.eqBs is is':=by rw [hE2,← heq]; simp
   refine go0 (ai t2 (ai t3 (ai t5 hla))) ?_
   refine awp_loop (fun m ts hh => hh = ⟨[.cells 71 [.int .i64 k,.int .i64 n,.str s,.sl 5 .no (V.cellss is),.sl 1 .no (strsA ks)],.cells 71 [.int .i64 k',.int .i64 n',.str s',.sl 5 .no (V.cellss is'),.sl 1 .no (strsA ks')]],[]⟩ ∧ ∃ (i : Nat),m = is.length - i ∧ i ≤ is.length ∧ Val.eqBs (is.drop i) (is'.drop i) = Val.eqBs is is' ∧ ts 2 = .ptr 0 0 ∧ ts 3 = .ptr 1 0 ∧ ts 6 = .int .i64 i) is.length ?_ ?_
   ·refine ⟨rfl,0,rfl,Nat.zero_le _,rfl,?_⟩
    (exact inv0 (ai @strsA_length (ai t2 t3)))
   ·clear heq
    rintro m ts hh ⟨rfl,i,rfl,hi,heq,t2,t3,t6⟩
    by_cases hlt : i < is.length
    ·have hla : (i : Int) < ((V.cellss is).length : Int):=by rw [V.cellss_length]; omega
     have hlb : (i : Int) < ((V.cellss is').length : Int):=by rw [V.cellss_length]; omega
     have ei : IntKind.i64.wrap ((i : Int) + 1) = (i : Int) + 1:=wrap64 (by omega) (by omega)
     have ea:=V.cellss_get is i hlt
     have eb:=V.cellss_get is' i (by omega)
     have hcall:=fun (h : Hp) => ih is[i] (List.getElem_mem hlt) (is'[i]'(by omega)) (hmem _ (List.getElem_mem hlt)) (hmem' _ (List.getElem_mem (by omega))) h
     rw [List.drop_eq_getElem_cons hlt,List.drop_eq_getElem_cons (by omega : i < is'.length),Val.eqBs] at heq
     obtain ⟨⟨k1,n1,s1,is1,ks1⟩,hv⟩ : ∃ x,is[i] = x:=⟨_,rfl⟩
     obtain ⟨⟨k2,n2,s2,is2,ks2⟩,hv2⟩ : ∃ x,is'[i]'(by omega) = x:=⟨_,rfl⟩
     rw [hv] at ea hcall heq
     rw [hv2] at eb hcall heq
     simp only [V.A,V.cells] at hcall
     refine go0 (ai @V_cells (ai t2 (ai t3 (ai t6 hla)))) ?_
     refine awp_quiet (by decide) ?_
     refine go0 (ai @V_cells (ai t2 (ai t3 (ai t6 (ai hla (ai hlb (ai ea eb))))))) ?_
     refine gq_call (by simp only [put_app,put_none,init_app,evX_t,evX_c,resA_nil,resA_t,resA_c,tupA_0,tupA_1,tupA_2,astep,bop,uop,loadA,storeA,appA,ssliceA,eqA,eqCells,fillA,rowsA,setCells,A.cells,A.one,A.data,optP_some,List.all_cons,List.all_nil,Bool.and_true,Bool.true_and,Option.map_some,Option.map_none,Option.bind_some,Option.bind_none,Option.getD_some,Option.getD_none,List.map_cons,List.map_nil,List.getD_cons_zero,List.getD_cons_succ,List.getElem?_cons_zero,List.getElem?_cons_succ,List.length_cons,List.length_nil,List.nil_append,List.cons_append,List.append_nil,List.set_cons_zero,List.set_cons_succ,List.drop_zero,List.drop_succ_cons,List.take_succ_cons,List.take_zero,List.take_nil,List.length_append,List.length_set,Nat.reduceAdd,Nat.reduceSub,Nat.reduceMul,Nat.reduceLeDiff,Nat.reduceEqDiff,Nat.reduceBEq,Int.toNat_natCast,Int.natCast_nonneg,if_true,if_false,reduceIte,ite_true,ite_false,true_and,and_true,ne_eq,not_true_eq_false,not_false_eq_true,Bool.false_eq_true,reduceCtorEq,and_self,Nat.zero_add,Nat.add_zero,Nat.le_refl,Bool.not_true,Bool.not_false,decide_true,decide_false,t2,t3,t6] <;> with_reducible rfl) (hcall _) ?_
     rcases bool_or (Val.eqB (.mk k1 n1 s1 is1 ks1) (.mk k2 n2 s2 is2 ks2)) with hz | hz
     ·rw [hz] at heq ⊢
      refine go0 (ai t2 (ai t3 (ai t6 ei))) ?_
      refine ⟨is.length - (i + 1),by omega,rfl,i + 1,rfl,by omega,by simpa using heq,?_⟩
      (exact inv0 (ai t2 (ai t3 (ai t6 ei))))
     ·rw [hz] at heq ⊢
      refine go0 (ai t2 (ai t3 (ai t6 ei))) ?_
      exact ⟨_,le_refl _,by rw [tupA_1,hE3,← heq]; rfl⟩
    ·have hla : ¬ (i : Int) < ((V.cellss is).length : Int):=by rw [V.cellss_length]; omega
     rw [List.drop_of_length_le (by omega),List.drop_of_length_le (by omega)] at heq
     refine go0 (ai t2 (ai t3 (ai t6 hla))) ?_
     exact ⟨_,le_refl _,by rw [tupA_1,hE3,← heq]; rfl⟩
def c_qsame : AX.AFn:=⟨26,aS [aR 4 (.mv (.c (.bool false)))] (.seq (aS [aM 6 0,aR 7 (.len false (.t 6)),aM 8 1,aR 9 (.len false (.t 8)),aR 10 (.bin .neq (.t 7) (.t 9))] (.cond (.t 10) (aS [aR 4 (.mv (.c (.bool false)))] (.ret)) (.skip))) (.seq (aS [aR 5 (.mv (aI 0))] (.block 0 (.loop (.seq (aS [aM 11 5,aM 12 0,aR 13 (.len false (.t 12)),aR 14 (.bin .lss (.t 11) (.t 13))] (.cond (.t 14) (.skip) (.exit 0))) (.seq (.block 1 (.seq (.reg true [aM 17 0,aM 18 5,⟨some 19,.iaddr 1 (.t 17) (.t 18),none,[0,1]⟩,⟨some 20,.load false 1 (.t 19),none,[2]⟩,aM 21 1,aM 22 5,⟨some 23,.iaddr 1 (.t 21) (.t 22),none,[4,5]⟩,⟨some 24,.load false 1 (.t 23),none,[6]⟩,⟨some 25,.bin .neq (.t 20) (.t 24),none,[3,7]⟩]) (.cond (.t 25) (aS [aR 4 (.mv (.c (.bool false)))] (.ret)) (.skip)))) (.reg false [aM 15 5,aR 16 (.bin .add (.t 15) (aI 1)),aM 5 16])))))) (aS [aR 4 (.mv (.c (.bool true)))] (.ret)))),[.t 4]⟩
theorem h_qsame : AX.compFn Tryz.prog 146 = some c_qsame:=by kernel_rfl
def c_qeqinst : AX.AFn:=⟨66,aS [aR 2 (.box 73 (.t 0)),aR 3 (.box 73 (.t 1)),aR 4 (.mv (.c (.bool false)))] (aS [aF 5 0 2,aL 6 5,aF 7 0 3,aL 8 7,aR 9 (.bin .eql (.t 6) (.t 8)),aM 10 9,aG 11 (.faddr 1 (.t 2)) 10 true,aG 12 (.load false 1 (.t 11)) 10 true,aG 13 (.faddr 1 (.t 3)) 10 true,aG 14 (.load false 1 (.t 13)) 10 true,aG 15 (.bin .eql (.t 12) (.t 14)) 10 true,aR 16 (.pick (.t 10) (.t 15) (.c (.bool false))),aM 17 16,aG 18 (.faddr 2 (.t 2)) 17 true,aG 19 (.load false 1 (.t 18)) 17 true,aG 20 (.faddr 2 (.t 3)) 17 true,aG 21 (.load false 1 (.t 20)) 17 true,aG 22 (.bin .eql (.t 19) (.t 21)) 17 true,aR 23 (.pick (.t 17) (.t 22) (.c (.bool false))),aM 24 23,aG 25 (.faddr 3 (.t 2)) 24 true,aG 26 (.load false 1 (.t 25)) 24 true,aG 27 (.faddr 3 (.t 3)) 24 true,aG 28 (.load false 1 (.t 27)) 24 true,aG 29 (.bin .eql (.t 26) (.t 28)) 24 true,aR 30 (.pick (.t 24) (.t 29) (.c (.bool false))),aM 31 30,aG 32 (.faddr 4 (.t 2)) 31 true,aG 33 (.load true 5 (.t 32)) 31 true,aG 34 (.faddr 4 (.t 3)) 31 true,aG 35 (.load true 5 (.t 34)) 31 true,aG 36 (.call 83 [.t 33,.t 35]) 31 true,aR 37 (.pick (.t 31) (.t 36) (.c (.bool false))),aM 38 37,aG 39 (.faddr 9 (.t 2)) 38 true,aG 40 (.load false 1 (.t 39)) 38 true,aG 41 (.faddr 9 (.t 3)) 38 true,aG 42 (.load false 1 (.t 41)) 38 true,aG 43 (.bin .eql (.t 40) (.t 42)) 38 true,aR 44 (.pick (.t 38) (.t 43) (.c (.bool false))),aM 45 44,aG 46 (.faddr 10 (.t 2)) 45 true,aG 47 (.load false 1 (.t 46)) 45 true,aG 48 (.faddr 10 (.t 3)) 45 true,aG 49 (.load false 1 (.t 48)) 45 true,aG 50 (.eq 0 [] false (.t 47) (.t 49)) 45 true,aR 51 (.pick (.t 45) (.t 50) (.c (.bool false))),aM 52 51,aG 53 (.faddr 11 (.t 2)) 52 true,aG 54 (.load false 1 (.t 53)) 52 true,aG 55 (.faddr 11 (.t 3)) 52 true,aG 56 (.load false 1 (.t 55)) 52 true,aG 57 (.eq 0 [] false (.t 54) (.t 56)) 52 true,aR 58 (.pick (.t 52) (.t 57) (.c (.bool false))),aM 59 58,aG 60 (.faddr 12 (.t 2)) 59 true,aG 61 (.load false 1 (.t 60)) 59 true,aG 62 (.faddr 12 (.t 3)) 59 true,aG 63 (.load false 1 (.t 62)) 59 true,aG 64 (.call 146 [.t 61,.t 63]) 59 true,aR 65 (.pick (.t 59) (.t 64) (.c (.bool false))),aM 4 65] (.ret)),[.t 4]⟩
theorem h_qeqinst : AX.compFn Tryz.prog 82 = some c_qeqinst:=by kernel_rfl
def c_qequal : AX.AFn:=⟨123,aS [aR 2 (.box 39 (.t 0)),aR 3 (.box 39 (.t 1)),aR 4 (.mv (.c (.bool false)))] (.seq (aS [aF 10 0 2,aL 11 10,aF 12 0 3,aL 13 12,aR 14 (.bin .neq (.t 11) (.t 13)),aM 15 14,aG 16 (.faddr 1 (.t 2)) 15 false,aG 17 (.load false 1 (.t 16)) 15 false,aG 18 (.faddr 1 (.t 3)) 15 false,aG 19 (.load false 1 (.t 18)) 15 false,aG 20 (.bin .neq (.t 17) (.t 19)) 15 false,aR 21 (.pick (.t 15) (.c (.bool true)) (.t 20)),aM 22 21,aG 23 (.faddr 2 (.t 2)) 22 false,aG 24 (.load false 1 (.t 23)) 22 false,aG 25 (.len false (.t 24)) 22 false,aG 26 (.faddr 2 (.t 3)) 22 false,aG 27 (.load false 1 (.t 26)) 22 false,aG 28 (.len false (.t 27)) 22 false,aG 29 (.bin .neq (.t 25) (.t 28)) 22 false,aR 30 (.pick (.t 22) (.c (.bool true)) (.t 29)),aM 31 30,aG 32 (.faddr 3 (.t 2)) 31 false,aG 33 (.load false 1 (.t 32)) 31 false,aG 34 (.len false (.t 33)) 31 false,aG 35 (.faddr 3 (.t 3)) 31 false,aG 36 (.load false 1 (.t 35)) 31 false,aG 37 (.len false (.t 36)) 31 false,aG 38 (.bin .neq (.t 34) (.t 37)) 31 false,aR 39 (.pick (.t 31) (.c (.bool true)) (.t 38)),aM 40 39,aG 41 (.faddr 4 (.t 2)) 40 false,aG 42 (.load false 1 (.t 41)) 40 false,aG 43 (.len false (.t 42)) 40 false,aG 44 (.faddr 4 (.t 3)) 40 false,aG 45 (.load false 1 (.t 44)) 40 false,aG 46 (.len false (.t 45)) 40 false,aG 47 (.bin .neq (.t 43) (.t 46)) 40 false,aR 48 (.pick (.t 40) (.c (.bool true)) (.t 47))] (.cond (.t 48) (aS [aR 4 (.mv (.c (.bool false)))] (.ret)) (.skip))) (.seq (aS [aR 5 (.mv (aI 0))] (.block 0 (.loop (.seq (aS [aM 49 5,aF 50 2 2,aL 51 50,aR 52 (.len false (.t 51)),aR 53 (.bin .lss (.t 49) (.t 52))] (.cond (.t 53) (.skip) (.exit 0))) (.seq (.block 1 (.seq (.reg true [aF 56 2 2,⟨some 57,.load false 1 (.t 56),none,[0]⟩,aM 58 5,⟨some 59,.iaddr 13 (.t 57) (.t 58),none,[1,2]⟩,⟨some 60,.load true 13 (.t 59),none,[3]⟩,aF 61 2 3,⟨some 62,.load false 1 (.t 61),none,[5]⟩,aM 63 5,⟨some 64,.iaddr 13 (.t 62) (.t 63),none,[6,7]⟩,⟨some 65,.load true 13 (.t 64),none,[8]⟩,⟨some 66,.call 82 [.t 60,.t 65],none,[4,9]⟩,⟨some 67,.un .not (.t 66),none,[10]⟩]) (.cond (.t 67) (aS [aR 4 (.mv (.c (.bool false)))] (.ret)) (.skip)))) (.reg false [aM 54 5,aR 55 (.bin .add (.t 54) (aI 1)),aM 5 55])))))) (.seq (aS [aR 6 (.mv (aI 0))] (.block 2 (.loop (.seq (aS [aM 68 6,aF 69 3 2,aL 70 69,aR 71 (.len false (.t 70)),aR 72 (.bin .lss (.t 68) (.t 71))] (.cond (.t 72) (.skip) (.exit 2))) (.seq (.block 3 (.seq (.reg true [aF 75 3 2,⟨some 76,.load false 1 (.t 75),none,[0]⟩,aM 77 6,⟨some 78,.iaddr 3 (.t 76) (.t 77),none,[1,2]⟩,⟨some 79,.load true 3 (.t 78),none,[3]⟩,aF 80 3 3,⟨some 81,.load false 1 (.t 80),none,[5]⟩,aM 82 6,⟨some 83,.iaddr 3 (.t 81) (.t 82),none,[6,7]⟩,⟨some 84,.load true 3 (.t 83),none,[8]⟩,⟨some 85,.eq 2 [1,1,1] true (.t 79) (.t 84),none,[4,9]⟩]) (.cond (.t 85) (aS [aR 4 (.mv (.c (.bool false)))] (.ret)) (.skip)))) (.reg false [aM 73 6,aR 74 (.bin .add (.t 73) (aI 1)),aM 6 74])))))) (.seq (aS [aR 7 (.mv (aI 0))] (.block 4 (.loop (.seq (aS [aM 86 7,aF 87 4 2,aL 88 87,aR 89 (.len false (.t 88)),aR 90 (.bin .lss (.t 86) (.t 89))] (.cond (.t 90) (.skip) (.exit 4))) (.seq (.block 5 (.seq (.reg true [aF 93 4 2,⟨some 94,.load false 1 (.t 93),none,[0]⟩,aM 95 7,⟨some 96,.iaddr 7 (.t 94) (.t 95),none,[1,2]⟩,⟨some 97,.load true 7 (.t 96),none,[3]⟩,aF 98 4 3,⟨some 99,.load false 1 (.t 98),none,[5]⟩,aM 100 7,⟨some 101,.iaddr 7 (.t 99) (.t 100),none,[6,7]⟩,⟨some 102,.load true 7 (.t 101),none,[8]⟩,aR 8 (.alloc 132 [.str [],.int .i64 0,.int .i64 0,.str [],.sl 0 .nil [],.sl 0 .nil [],.bool false]),aR 9 (.alloc 132 [.str [],.int .i64 0,.int .i64 0,.str [],.sl 0 .nil [],.sl 0 .nil [],.bool false]),⟨none,.store 7 (.t 8) (.t 97),none,[10,4,0,1,2,3,4,10,11]⟩,⟨none,.store 7 (.t 9) (.t 102),none,[11,9,12,0,1,2,3,4,5,6,7,8,9,10,11,12]⟩]) (aS [aF 103 0 8,aL 104 103,aF 105 0 9,aL 106 105,aR 107 (.bin .neq (.t 104) (.t 106)),aM 108 107,aG 109 (.faddr 6 (.t 8)) 108 false,aG 110 (.load false 1 (.t 109)) 108 false,aG 111 (.faddr 6 (.t 9)) 108 false,aG 112 (.load false 1 (.t 111)) 108 false,aG 113 (.eq 0 [] true (.t 110) (.t 112)) 108 false,aR 114 (.pick (.t 108) (.c (.bool true)) (.t 113)),aM 115 114,aG 116 (.faddr 1 (.t 8)) 115 false,aG 117 (.load true 5 (.t 116)) 115 false,aG 118 (.faddr 1 (.t 9)) 115 false,aG 119 (.load true 5 (.t 118)) 115 false,aG 120 (.call 83 [.t 117,.t 119]) 115 false,aG 121 (.un .not (.t 120)) 115 false,aR 122 (.pick (.t 115) (.c (.bool true)) (.t 121))] (.cond (.t 122) (aS [aR 4 (.mv (.c (.bool false)))] (.ret)) (.skip))))) (.reg false [aM 91 7,aR 92 (.bin .add (.t 91) (aI 1)),aM 7 92])))))) (aS [aR 4 (.mv (.c (.bool true)))] (.ret)))))),[.t 4]⟩
theorem h_qequal : AX.compFn Tryz.prog 40 = some c_qequal:=by kernel_rfl
theorem a_qsame (l : List (List UInt8)) (hl : l.length ≤ 1000000000) (h : Hp) : ACall Tryz.prog GT 146 [.sl 1 .no (strsA l),.sl 1 .no (strsA l)] h fun r h' => r = .bool true ∧ h' = h:=by
 refine pcall ?_ rfl (by simp [A.pure,A.data]) h
 refine acall_of mixedT h_qsame (by simp [c_qsame]) ?_
 dsimp only [c_qsame]
 have li:=strsA_length l
 refine run0 li ?_
 refine awp_loop (fun m ts hh => hh = ⟨[],[]⟩ ∧ ∃ i : Nat,m = l.length - i ∧ i ≤ l.length ∧ (ts 0 = .sl 1 .no (strsA l) ∧ ts 1 = .sl 1 .no (strsA l) ∧ ts 5 = .int .i64 (i : Nat))) l.length ?_ ?_
 ·exact ⟨rfl,0,rfl,Nat.zero_le _,by (exact inv0 li)⟩
 rintro m ts hh ⟨rfl,i,rfl,hi,ht⟩
 rcases Nat.lt_or_ge i l.length with hlt | hge
 ·have hf : (strsA l).length = l.length ∧ (i : Int) < (l.length : Int) ∧ (0 : Int) ≤ (i : Int) ∧ (strsA l).getD i [] = [.str l[i]] ∧ IntKind.i64.wrap ((i : Int) + 1) = ((i + 1 : Nat) : Int):=rowj_at (fun s : List UInt8 => [A.str s]) l i hlt (by omega)
  refine run0 (ai ht hf) ?_
  exact ⟨_,by omega,rfl,i + 1,rfl,by omega,by (exact inv0 (ai ht hf))⟩
 ·have hf : ¬ (i : Int) < (l.length : Int):=by omega
  refine run0 (ai ht (ai li hf)) ?_
  exact ⟨_,le_refl _,rfl⟩
theorem a_qeqinst (x : Sf.Inst) (hx : x.attrs.lens) (hd : x.deps.length ≤ 1000000000) (h : Hp) : ACall Tryz.prog GT 82 [.agg x.cells,.agg x.cells] h fun r h' => r = .bool true ∧ h' = h:=by
 have c1:=t_rEqual x.attrs x.attrs hx hx
 rw [eqB_refl_] at c1
 have c2:=a_qsame x.deps hd
 obtain ⟨a1,a2,a3,a4,⟨k,nn,ss,is,ks⟩,v,tn,fi,ds⟩:=x
 simp only [Sf.Inst.cells,List.cons_append,List.nil_append,V.A,V.cells] at *
 refine pcall ?_ rfl (by simp [A.pure,A.data]) h
 refine acall_of mixedT h_qeqinst (by simp [c_qeqinst]) ?_
 dsimp only [c_qeqinst]
 refine runc0 ti (ai c1 (ai c2 ti)) ?_
 exact ⟨_,le_refl _,rfl⟩
theorem a_qequal (st : Sf.St) (hin : Sf.StIn st) (h : Hp) : ACall Tryz.prog GT 40 [st.A,st.A] h fun r h' => r = .bool true ∧ h' = h:=by
 refine pcall ?_ rfl (by simp [A.pure,A.data,Sf.St.A]) h
 refine acall_of mixedT h_qequal (by simp [c_qequal]) ?_
 dsimp only [c_qequal]
 have hli:=hin.li
 have hlp:=hin.lp
 have hlo:=hin.lo
 have hci:=fun x (hx : x ∈ st.insts) => a_qeqinst x (hin.insts x hx).l (hin.insts x hx).n
 have hco:=fun x (hx : x ∈ st.outs) => t_rEqual x.value x.value (hin.outs x hx).2 (hin.outs x hx).2
 obtain ⟨lin,ser,ins,ps,os⟩:=st
 simp only [Sf.St.A]
 dsimp only at hli hlp hlo hci hco
 have lm1 : (ins.map Sf.Inst.cells).length = ins.length:=List.length_map _
 have lm2 : (ps.map Sf.Pend.cells).length = ps.length:=List.length_map _
 have lm3 : (os.map Sf.Outp.cells).length = os.length:=List.length_map _
 refine runx0 (ai lm1 (ai lm2 lm3)) ti ?_
 refine awp_loop (fun m ts hh => hh = ⟨[.cells 39 [.str lin,.int .i64 ser,.sl 13 .no (ins.map Sf.Inst.cells),.sl 3 .no (ps.map Sf.Pend.cells),.sl 7 .no (os.map Sf.Outp.cells)],.cells 39 [.str lin,.int .i64 ser,.sl 13 .no (ins.map Sf.Inst.cells),.sl 3 .no (ps.map Sf.Pend.cells),.sl 7 .no (os.map Sf.Outp.cells)]],[]⟩ ∧ ∃ (i : Nat),m = ins.length - i ∧ i ≤ ins.length ∧ (ts 2 = .ptr 0 0 ∧ ts 3 = .ptr 1 0 ∧ ts 5 = .int .i64 (i : Nat))) ins.length ?_ ?_
 ·exact ⟨rfl,0,rfl,Nat.zero_le _,by (exact inv0 (ai lm1 (ai lm2 lm3)))⟩
 rintro m ts hh ⟨rfl,i,rfl,hi,ht⟩
 rcases Nat.lt_or_ge i ins.length with hlt | hge
 ·have hf:=rowj_at Sf.Inst.cells ins i hlt (by omega)
  have cx:=hci _ (List.getElem_mem hlt)
  obtain ⟨x,hx⟩ : ∃ x,ins[i] = x:=⟨_,rfl⟩
  rw [hx] at hf cx
  obtain ⟨a1,a2,a3,a4,⟨k,nn,ss,is,ks⟩,v,tn,fi,ds⟩:=x
  simp only [Sf.Inst.cells,List.cons_append,List.nil_append] at hf cx
  refine runx0 (ai ht hf) (ai cx ti) ?_
  exact ⟨_,by omega,rfl,i + 1,rfl,by omega,by (exact inv0 (ai ht hf))⟩
 have hf:=rowj_end Sf.Inst.cells ins i hge
 refine runx0 (ai ht hf) ti ?_
 refine awp_loop (fun m ts hh => hh = ⟨[.cells 39 [.str lin,.int .i64 ser,.sl 13 .no (ins.map Sf.Inst.cells),.sl 3 .no (ps.map Sf.Pend.cells),.sl 7 .no (os.map Sf.Outp.cells)],.cells 39 [.str lin,.int .i64 ser,.sl 13 .no (ins.map Sf.Inst.cells),.sl 3 .no (ps.map Sf.Pend.cells),.sl 7 .no (os.map Sf.Outp.cells)]],[]⟩ ∧ ∃ (i : Nat),m = ps.length - i ∧ i ≤ ps.length ∧ (ts 2 = .ptr 0 0 ∧ ts 3 = .ptr 1 0 ∧ ts 6 = .int .i64 (i : Nat))) ps.length ?_ ?_
 ·exact ⟨rfl,0,rfl,Nat.zero_le _,by (exact inv0 ht)⟩
 clear ht hf hi hge ts i
 rintro m ts hh ⟨rfl,i,rfl,hi,ht⟩
 rcases Nat.lt_or_ge i ps.length with hlt | hge
 ·have hf:=rowj_at Sf.Pend.cells ps i hlt (by omega)
  obtain ⟨x,hx⟩ : ∃ x,ps[i] = x:=⟨_,rfl⟩
  rw [hx] at hf
  obtain ⟨a1,a2,a3⟩:=x
  simp only [Sf.Pend.cells] at hf
  refine runx0 (ai ht hf) ti ?_
  exact ⟨_,by omega,rfl,i + 1,rfl,by omega,by (exact inv0 (ai ht hf))⟩
 have hf:=rowj_end Sf.Pend.cells ps i hge
 refine runx0 (ai ht hf) ti ?_
 refine awp_loop (fun m ts hh => ∃ (i : Nat) (l : List Blk),m = os.length - i ∧ i ≤ os.length ∧ hh = ⟨.cells 39 [.str lin,.int .i64 ser,.sl 13 .no (ins.map Sf.Inst.cells),.sl 3 .no (ps.map Sf.Pend.cells),.sl 7 .no (os.map Sf.Outp.cells)] :: .cells 39 [.str lin,.int .i64 ser,.sl 13 .no (ins.map Sf.Inst.cells),.sl 3 .no (ps.map Sf.Pend.cells),.sl 7 .no (os.map Sf.Outp.cells)] :: l,[]⟩ ∧ (ts 2 = .ptr 0 0 ∧ ts 3 = .ptr 1 0 ∧ ts 7 = .int .i64 (i : Nat))) os.length ?_ ?_
 ·exact ⟨0,[],rfl,Nat.zero_le _,rfl,by (exact inv0 ht)⟩
 clear ht hf hi hge ts i
 rintro m ts hh ⟨i,l,rfl,hi,rfl,ht⟩
 rcases Nat.lt_or_ge i os.length with hlt | hge
 rotate_left
 ·have hf:=rowj_end Sf.Outp.cells os i hge
  refine runx0 (ai ht hf) ti ?_
  exact ⟨_,le_refl _,rfl⟩
 have hf:=rowj_at Sf.Outp.cells os i hlt (by omega)
 have cx:=hco _ (List.getElem_mem hlt)
 rw [eqB_refl_] at cx
 obtain ⟨x,hx⟩ : ∃ x,os[i] = x:=⟨_,rfl⟩
 rw [hx] at hf cx
 obtain ⟨a1,⟨k,nn,ss,is,ks⟩,b1⟩:=x
 simp only [Sf.Outp.cells,V.A,V.cells,List.cons_append,List.nil_append] at hf cx
 refine runx0 (ai ht hf) (ai cx ti) ?_
 refine awp_two 10 (by decide +kernel) ?_ ?_
 all_goals simp only [edgeA,swapA,swap2,swN,aR,aF,aL,aM,List.map_cons,List.map_nil,reduceIte,Nat.reduceEqDiff,Nat.reduceAdd]
 ·refine runx0 (ai ht hf) (ai cx ti) ?_
  exact ⟨_,by omega,i + 1,_,rfl,by omega,rfl,by (exact inv0 (ai ht hf))⟩
 ·refine runx0 (ai ht hf) (ai cx ti) ?_
  exact ⟨_,by omega,i + 1,_,rfl,by omega,rfl,by (exact inv0 (ai ht hf))⟩
end AX
end Go.Proofs.YteklhoajalgehaaGreatDoor
