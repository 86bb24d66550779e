/- Part of what the proof needs. -/
import Derived.Test.YtdgcbckcameggaaGreatDoorMFrStatefileReadsA
import Derived.Laws.AppendOwn
import Derived.Great.BuildSlice
import Derived.Deep.Upon
set_option maxHeartbeats 4000000
set_option linter.unusedSimpArgs false
set_option linter.unusedVariables false
set_option linter.unnecessarySimpa false
namespace Go.Proofs.YtdgcbckcameggaaGreatDoor
open Go.RowKit
namespace AX
section
variable {P:Program} {G:World→Prop} {C:Ctx} {a:Act} {o:Oper} {h:Hp} {ts:Nat→A} {n:Nat}
theorem repL_append {l m:List A}:∀ {cs ds:List Value},RepL C l cs→RepL C m ds→RepL C (l++m) (cs++ds):=by
 induction l with
 | nil=>intro cs ds h1 h2; rw [repL_nil] at h1; subst h1; exact h2
 | cons x l ih =>
  intro cs ds h1 h2
  obtain ⟨c,cs',rfl,k1,k2⟩:=repL_cons.1 h1
  exact repL_cons.2 ⟨c,cs'++ds,rfl,k1,ih k2 h2⟩
theorem repAt_of:∀ (l:List A) (cs:List Value) (g off:Nat),RepL C l cs→l.all A.data=true→(∀ j,j < l.length→C.S g (off+j))→(∀ (j:Nat) (v:Value),cs[j]?=some v→C.w.cell? ⟨g,off+j,none⟩=some v)→RepAt C l g off
 | [],cs,g,off,h1,h2,h3,h4=>by unfold RepAt; trivial
 | x::l,cs,g,off,h1,h2,h3,h4=>by
  obtain ⟨c,cs',rfl,k1,k2⟩:=repL_cons.1 h1
  rw [List.all_cons,Bool.and_eq_true] at h2
  rw [RepAt]
  refine ⟨⟨h3 0 (by simp),h2.1,c,h4 0 c rfl,k1⟩,repAt_of l cs' g (off+1) k2 h2.2 (fun j hj=>?_) fun j v hv=>?_⟩
  ·have:=h3 (j+1) (by simpa using hj)
   rwa [show off+(j+1)=off+1+j by omega] at this
  ·have:=h4 (j+1) v (by simpa using hv)
   rwa [show off+(j+1)=off+1+j by omega] at this
theorem repAt_data:∀ {l:List A} {g off:Nat},RepAt C l g off→l.all A.data=true
 | [],g,off,h=>rfl
 | x::l,g,off,h=>by
  rw [RepAt] at h
  rw [List.all_cons,Bool.and_eq_true]
  exact ⟨h.1.2.1,repAt_data h.2⟩
theorem repRows_of {W g off:Nat}:∀ (rows:List (List A)) (cs:List Value) (i:Nat),(∀ r∈rows,r.length=W)→rows.flatten.all A.data=true→RepL C rows.flatten cs→(∀ j,j < rows.length*W→C.S g (off+i*W+j)) →
  (∀ (j:Nat) (v:Value),cs[j]?=some v→C.w.cell? ⟨g,off+i*W+j,none⟩=some v)→RepRows C W rows (some ⟨g,off,none⟩) i
 | [],cs,i,h1,h2,h3,h4,h5=>by unfold RepRows; trivial
 | r::rs,cs,i,h1,h2,h3,h4,h5=>by
  rw [List.flatten_cons] at h2 h3
  rw [List.all_append,Bool.and_eq_true] at h2
  have hr:r.length=W:=h1 r (by simp)
  have hl:=repL_length h3
  rw [List.length_append,hr] at hl
  have k1:=repL_take W h3
  have k2:=repL_drop W h3
  rw [show (r++rs.flatten).take W=r by rw [←hr]; simp] at k1
  rw [show (r++rs.flatten).drop W=rs.flatten by rw [←hr]; simp] at k2
  have e1:(i+1)*W=i*W+W:=by rw [Nat.add_mul,Nat.one_mul]
  have e2:(rs.length+1)*W=rs.length*W+W:=by rw [Nat.add_mul,Nat.one_mul]
  rw [RepRows]
  refine ⟨⟨g,off,rfl,hr,repAt_of r _ g _ k1 h2.1 (fun j hj=>h4 j (by simp only [List.length_cons]; omega)) fun j v hv=>?_⟩,repRows_of rs _ (i+1) (fun r' hr'=>h1 r' (by simp [hr'])) h2.2 k2 (fun j hj=>?_) fun j v hv=>?_⟩
  ·rw [List.getElem?_take] at hv
   split at hv
   ·exact h5 j v hv
   ·cases hv
  ·have:=h4 (W+j) (by simp only [List.length_cons]; omega)
   rwa [show off+i*W+(W+j)=off+(i+1)*W+j by omega] at this
  ·rw [List.getElem?_drop] at hv
   have:=h5 _ v hv
   rwa [show off+i*W+(W+j)=off+(i+1)*W+j by omega] at this
theorem repRows_cells {W g off:Nat}:∀ {rows:List (List A)} {i:Nat},RepRows C W rows (some ⟨g,off,none⟩) i→∃ cs:List Value,RepL C rows.flatten cs∧cs.length=rows.length*W∧rows.flatten.all A.data=true∧(∀ r∈rows,r.length=W) ∧
  (∀ (j:Nat) (v:Value),cs[j]?=some v→C.w.cell? ⟨g,off+i*W+j,none⟩=some v)
 | [],i,h=>⟨[],repL_nil.2 rfl,by simp,rfl,by simp,fun j v hv=>by simp at hv⟩
 | r::rs,i,h=>by
  rw [RepRows] at h
  obtain ⟨⟨g',off',e,hr,hat⟩,hrs⟩:=h
  injection e with e; injection e with e1 e2; subst e1; subst e2
  obtain ⟨cs1,k1,k2⟩:=repAt_cells hat
  obtain ⟨cs2,m1,m2,m3,m4,m5⟩:=repRows_cells hrs
  have hl1:cs1.length=W:=(repL_length k1).trans hr
  have e1:(i+1)*W=i*W+W:=by rw [Nat.add_mul,Nat.one_mul]
  refine ⟨cs1++cs2,?_,?_,?_,?_,fun j v hv=>?_⟩
  ·rw [List.flatten_cons]; exact repL_append k1 m1
  ·rw [List.length_append,hl1,m2,List.length_cons,Nat.add_mul,Nat.one_mul]; omega
  ·rw [List.flatten_cons,List.all_append,Bool.and_eq_true]; exact ⟨repAt_data hat,m3⟩
  ·intro r' hr'
   rcases List.mem_cons.1 hr' with rfl | hm
   ·exact hr
   ·exact m4 r' hm
  ·rw [List.getElem?_append] at hv
   split at hv
   ·exact k2 j v hv
   ·have:=m5 _ v hv
    rw [show off+(i+1)*W+(j - cs1.length)=off+i*W+j by omega] at this
    exact this
theorem rep_cells {x:A} {v:Value} (hr:Rep C x v):RepL C x.cells v.cells.toList:=by
 cases x with
 | agg l =>
  obtain ⟨cs,rfl,hl⟩:=rep_agg.1 hr
  simpa [A.cells,Value.cells] using hl
 | _ =>
  have e:v.cells.toList=[v]:=by
   first
    | (rw [rep_int] at hr; subst hr; rfl)
    | (rw [rep_str] at hr; subst hr; rfl)
    | (rw [rep_bool] at hr; subst hr; rfl)
    | (rw [rep_nilp] at hr; subst hr; rfl)
    | (rw [rep_nili] at hr; subst hr; rfl)
    | (rw [rep_nilf] at hr; subst hr; rfl)
    | (rw [rep_nilm] at hr; subst hr; rfl)
    | (obtain ⟨rfl,_⟩:=rep_mp.1 hr; rfl)
    | (obtain ⟨cap,rfl,_⟩:=rep_bs.1 hr; rfl)
    | (obtain ⟨ad,cap,rfl,_⟩:=rep_sl.1 hr; rfl)
    | (obtain ⟨rfl,_⟩:=rep_ptr.1 hr; rfl)
    | (obtain ⟨g,off,rfl,_⟩:=rep_vptr.1 hr; rfl)
    | (obtain ⟨cs,rfl,_⟩:=rep_fn.1 hr; unfold fnV; split <;> rfl)
    | (obtain ⟨cs,rfl,_⟩:=rep_tup.1 hr; rfl)
  rw [e]
  exact repL_cons.2 ⟨v,[],rfl,hr,repL_nil.2 rfl⟩
theorem rep_one {x:A} {v:Value} (hr:Rep C x v) (h1:x.one=true):v.oneCell'=true:=by
 cases x with
 | agg l=>simp [A.one] at h1
 | tup l=>simp [A.one] at h1
 | _ =>
  first
   | (rw [rep_int] at hr; subst hr; rfl)
   | (rw [rep_str] at hr; subst hr; rfl)
   | (rw [rep_bool] at hr; subst hr; rfl)
   | (rw [rep_nilp] at hr; subst hr; rfl)
   | (rw [rep_nili] at hr; subst hr; rfl)
   | (rw [rep_nilf] at hr; subst hr; rfl)
   | (rw [rep_nilm] at hr; subst hr; rfl)
   | (obtain ⟨rfl,_⟩:=rep_mp.1 hr; rfl)
   | (obtain ⟨cap,rfl,_⟩:=rep_bs.1 hr; rfl)
   | (obtain ⟨ad,cap,rfl,_⟩:=rep_sl.1 hr; rfl)
   | (obtain ⟨rfl,_⟩:=rep_ptr.1 hr; rfl)
   | (obtain ⟨g,off,rfl,_⟩:=rep_vptr.1 hr; rfl)
   | (obtain ⟨cs,rfl,_⟩:=rep_fn.1 hr; unfold fnV; split <;> rfl)
theorem repL_one:∀ {l:List A} {cs:List Value},RepL C l cs→l.all A.one=true→∀ v∈cs,v.oneCell'=true
 | [],cs,hr,h1=>by rw [repL_nil] at hr; subst hr; simp
 | x::l,cs,hr,h1=>by
  obtain ⟨c,cs',rfl,k1,k2⟩:=repL_cons.1 hr
  rw [List.all_cons,Bool.and_eq_true] at h1
  intro v hv
  rcases List.mem_cons.1 hv with rfl | hm
  ·exact rep_one k1 h1.1
  ·exact repL_one k2 h1.2 v hm
theorem alloc_box {w:World} {T:TypeId} {l:List A} {cs:List Value} (hw:w=C.w∨w=C.w.drew) (hI:Inv G C h) (hl:RepL C l cs) :
  ∃ C':Ctx,C'.w=w.alloc (.cells cs.toArray T)∧Inv G C' ⟨h.b++[.cells T l],h.t⟩∧Step C C'∧Rep C' (.ptr h.b.length 0) (.pointer (some ⟨C.w.heap.size,0,none⟩)):=by
 have hh:w.heap=C.w.heap:=by rcases hw with rfl | rfl <;> rfl
 have hos:w.os=C.w.os∧w.tape=C.w.tape∧w.output=C.w.output:=by rcases hw with rfl | rfl <;> exact ⟨rfl,rfl,rfl⟩
 let C':Ctx:={ C with w:=w.alloc (.cells cs.toArray T),κ:=fun i=>if i=C.nb then C.w.heap.size else C.κ i,nb:=C.nb+1,own:=fun g=>if g=C.w.heap.size then some C.nb else C.own g }
 have hblk:∀ g,g < C.w.heap.size→C'.w.heap[g]?=C.w.heap[g]?:=fun g hg=>by
  show (w.alloc (.cells cs.toArray T)).heap[g]?=_
  rw [Below.heap_alloc w _ g (by rw [hh]; exact hg),hh]
 have hsz:C'.w.heap.size=C.w.heap.size+1:=by show (w.alloc (.cells cs.toArray T)).heap.size=_; simp [hh]
 have hE:Ext C C':=by
  refine ⟨fun g j hs=>⟨hs,cell_of_block (hblk g (hI.prot g j hs).1)⟩,Nat.le_succ _,fun i hi=>?_,fun t E W m ht=>?_⟩
  ·show (if i=C.nb then C.w.heap.size else C.κ i)=C.κ i
   rw [if_neg (by omega)]
  ·obtain ⟨_,_,cap,h1,_⟩:=hI.rows t E W m ht
   exact ⟨m,ht,.inr ⟨rfl,rfl,fun cap hc=>hc.same (hblk _ h1.lt)⟩⟩
 have hown:∀ g,g < C.w.heap.size→C'.own g=C.own g:=fun g hg=>by
  show (if g=C.w.heap.size then some C.nb else C.own g)=_
  rw [if_neg (by omega)]
 have hown':∀ g i,i < C.nb→(C'.own g=some i↔C.own g=some i):=fun g i hi=>by
  show (if g=C.w.heap.size then some C.nb else C.own g)=some i↔_
  split
  ·next e=>exact ⟨fun e=>by injection e with e; omega,fun e'=>by have:=(hI.ownlt g i e').2.1; omega⟩
  ·exact Iff.rfl
 refine ⟨C',rfl,⟨?_,fun i b hib=>?_,fun i hi=>?_,fun g i hg=>?_,fun g j hs=>?_,fun t E W m ht=>?_,hI.inj,hI.toks,?_,fun w2 hw2=>?_⟩,⟨hE,hos.1,hos.2.1,hos.2.2,by omega,rfl,fun g hg _ _=>hblk g hg,hown,fun g j hs => .inl hs,fun t ht => .inr ⟨ht,rfl⟩⟩,?_⟩
 ·show (h.b++[Blk.cells T l]).length=C.nb+1
  rw [List.length_append,hI.nb]; rfl
 ·rw [List.getElem?_append] at hib
  split at hib
  ·next hi =>
   have hi':i < C.nb:=by rw [←hI.nb]; exact hi
   exact (hI.box i b hib).ext hE hi' (hI.ownk i hi') (fun g j hg=>(hI.ownlt g j hg).2.1) (fun g hg=>hblk g (hI.ownlt g i hg).2.1) (fun g=>hown' g i hi') (by omega)
  ·next hi =>
   have hk:i - h.b.length=0:=by
    rcases Nat.eq_zero_or_pos (i - h.b.length) with e | e
    ·exact e
    ·rw [List.getElem?_eq_none (by simp only [List.length_cons,List.length_nil]; omega)] at hib; cases hib
   rw [hk] at hib
   simp only [List.getElem?_cons_zero,Option.some.injEq] at hib
   subst hib
   have hi':i=C.nb:=by have:=hI.nb; omega
   refine ⟨cs,?_,RepL.ext hE l cs hl⟩
   show (w.alloc (.cells cs.toArray T)).heap[if i=C.nb then C.w.heap.size else C.κ i]?=_
   rw [if_pos hi',←hh]
   exact heap_alloc_new w _
 ·show (if (if i=C.nb then C.w.heap.size else C.κ i)=C.w.heap.size then some C.nb else C.own (if i=C.nb then C.w.heap.size else C.κ i))=some i
  by_cases hi':i=C.nb
  ·rw [if_pos hi',if_pos rfl,hi']
  ·have hi2:i < C.nb:=by have:i < C.nb+1:=hi; omega
   have:=(hI.ownlt _ _ (hI.ownk i hi2)).2.1
   rw [if_neg hi',if_neg (by omega)]
   exact hI.ownk i hi2
 ·have hg':(if g=C.w.heap.size then some C.nb else C.own g)=some i:=hg
  split at hg'
  ·next e =>
   injection hg' with hg'
   exact ⟨by show i < C.nb+1; omega,by omega,by rw [e]; exact hI.base⟩
  ·obtain ⟨k1,k2,k3⟩:=hI.ownlt g i hg'
   exact ⟨by show i < C.nb+1; omega,by omega,k3⟩
 ·obtain ⟨k1,k2,k3⟩:=hI.prot g j hs
  exact ⟨by omega,(hown g k1).trans k2,k3⟩
 ·obtain ⟨k1,k2,cap,k3,k4⟩:=hI.rows t E W m ht
  exact ⟨(hown _ k3.lt).trans k1,k2,cap,k3.same (hblk _ k3.lt),k4⟩
 ·show C.base≤C'.w.heap.size
  have:=hI.base; omega
 ·exact hI.glob w2 fun g hg=>(hw2 g hg).trans (hblk g (Nat.lt_of_lt_of_le hg hI.base))
 ·refine rep_ptr.2 ⟨?_,by show h.b.length < C.nb+1; have:=hI.nb; omega⟩
  show _=Value.pointer (some ⟨if h.b.length=C.nb then C.w.heap.size else C.κ h.b.length,0,none⟩)
  rw [if_pos hI.nb]
theorem ok_alloc {T:TypeId} {i:TypeInfo} {z:Value} {l:List A} (hI:Inv G C h) (hop:o.op = .alloc T) (hi:P.info? T=some i) (hz:i.zero=some z) (hl:convs z.cells.toList=some l):OpOk P G C a o (.ptr h.b.length 0) ⟨h.b++[.cells T l],h.t⟩:=by
 obtain ⟨C',h1,h2,h3,h4⟩:=alloc_box (T:=T) (w:=C.w) (.inl rfl) hI (rep_convs hl)
 refine ⟨C',_,.inl ?_,h2,h3,h4⟩
 rw [h1]
 unfold execOp
 simp [hop,Instr.alloc,zeroValue,typeInfo,hi,hz,newVar,newRow]
theorem ok_box {T:TypeId} {x:Operand} {u:A} (hI:Inv G C h) (hop:o.op = .box T x) (hx:Rep C u (a.eval x)):OpOk P G C a o (.ptr h.b.length 0) ⟨h.b++[.cells T u.cells],h.t⟩:=by
 obtain ⟨C',h1,h2,h3,h4⟩:=alloc_box (T:=T) (w:=C.w) (.inl rfl) hI (rep_cells hx)
 refine ⟨C',_,.inl ?_,h2,h3,h4⟩
 rw [h1]
 unfold execOp
 simp [hop,Instr.box,newVar,newRow]
theorem alloc_view {w:World} {T:TypeId} {cs:List Value} (hw:w=C.w∨w=C.w.drew) (hI:Inv G C h) :
  ∃ C':Ctx,C'.w=w.alloc (.cells cs.toArray T)∧Inv G C' h∧Step C C'∧(∀ j,j < cs.length→C'.S C.w.heap.size j)∧(∀ (j:Nat) (v:Value),cs[j]?=some v→C'.w.cell? ⟨C.w.heap.size,j,none⟩=some v):=by
 have hh:w.heap=C.w.heap:=by rcases hw with rfl | rfl <;> rfl
 have hos:w.os=C.w.os∧w.tape=C.w.tape∧w.output=C.w.output:=by rcases hw with rfl | rfl <;> exact ⟨rfl,rfl,rfl⟩
 let C':Ctx:={ C with w:=w.alloc (.cells cs.toArray T),S:=fun g j=>C.S g j∨(g=C.w.heap.size∧j < cs.length) }
 have hblk:∀ g,g < C.w.heap.size→C'.w.heap[g]?=C.w.heap[g]?:=fun g hg=>by
  show (w.alloc (.cells cs.toArray T)).heap[g]?=_
  rw [Below.heap_alloc w _ g (by rw [hh]; exact hg),hh]
 have hsz:C'.w.heap.size=C.w.heap.size+1:=by show (w.alloc (.cells cs.toArray T)).heap.size=_; simp [hh]
 have hnew:C'.w.heap[C.w.heap.size]?=some (.cells cs.toArray T (0,0)):=by
  show (w.alloc (.cells cs.toArray T)).heap[C.w.heap.size]?=_
  rw [←hh]; exact heap_alloc_new w _
 have hE:Ext C C':=by
  refine ⟨fun g j hs=>⟨.inl hs,cell_of_block (hblk g (hI.prot g j hs).1)⟩,Nat.le_refl _,fun i hi=>rfl,fun t E W m ht=>?_⟩
  obtain ⟨_,_,cap,h1,_⟩:=hI.rows t E W m ht
  exact ⟨m,ht,.inr ⟨rfl,rfl,fun cap hc=>hc.same (hblk _ h1.lt)⟩⟩
 have hno:C.own C.w.heap.size=none:=by
  cases e:C.own C.w.heap.size with
  | none=>rfl
  | some i=>have:=(hI.ownlt _ _ e).2.1; omega
 refine ⟨C',rfl,⟨hI.nb,fun i b hib=>?_,hI.ownk,fun g i hg=>?_,fun g j hs=>?_,fun t E W m ht=>?_,hI.inj,hI.toks,?_,fun w2 hw2=>?_⟩,⟨hE,hos.1,hos.2.1,hos.2.2,by omega,rfl,fun g hg _ _=>hblk g hg,fun _ _=>rfl,fun g j hs=>?_,fun t ht => .inr ⟨ht,rfl⟩⟩,fun j hj => .inr ⟨rfl,hj⟩,fun j v hv=>?_⟩
 ·have hi':i < C.nb:=by rw [←hI.nb]; exact (List.getElem?_eq_some_iff.1 hib).1
  exact (hI.box i b hib).ext hE hi' (hI.ownk i hi') (fun g j hg=>(hI.ownlt g j hg).2.1) (fun g hg=>hblk g (hI.ownlt g i hg).2.1) (fun g=>Iff.rfl) (by omega)
 ·obtain ⟨k1,k2,k3⟩:=hI.ownlt g i hg
  exact ⟨k1,by omega,k3⟩
 ·rcases hs with hs | ⟨rfl,hj⟩
  ·obtain ⟨k1,k2,k3⟩:=hI.prot g j hs
   exact ⟨by omega,k2,k3⟩
  ·refine ⟨by omega,hno,fun t E W m ht e=>?_⟩
   obtain ⟨_,_,cap,k3,k4⟩:=hI.rows t E W m ht
   have:=k3.lt
   have e':C.τ t=C.w.heap.size:=e
   omega
 ·obtain ⟨k1,k2,cap,k3,k4⟩:=hI.rows t E W m ht
  exact ⟨k1,k2,cap,k3.same (hblk _ k3.lt),k4⟩
 ·show C.base≤C'.w.heap.size
  have:=hI.base; omega
 ·exact hI.glob w2 fun g hg=>(hw2 g hg).trans (hblk g (Nat.lt_of_lt_of_le hg hI.base))
 ·rcases hs with hs | ⟨rfl,hj⟩
  ·exact .inl hs
  ·exact .inr (.inl (Nat.le_refl _))
 ·rw [cell_of_row _ _ _ _ _ _ hnew]
  simpa using hv
theorem store_box {i off:Nat} {T:TypeId} {l xs:List A} {cs vs:List Value} (hI:Inv G C h) (hb:h.b[i]?=some (.cells T l)) (hc:C.w.heap[C.κ i]?=some (.cells cs.toArray T (0,0))) (hl:RepL C l cs) (hx:RepL C xs vs) (hle:off+xs.length≤l.length) :
  ∃ C':Ctx,C'.w=C.w.setRow (C.κ i) (cs.take off++vs++cs.drop (off+vs.length)).toArray∧Inv G C' ⟨h.b.set i (.cells T (setCells l off xs)),h.t⟩∧Step C C':=by
 have hi:i < C.nb:=by rw [←hI.nb]; exact (List.getElem?_eq_some_iff.1 hb).1
 have hok:=hI.ownk i hi
 let C':Ctx:={ C with w:=C.w.setRow (C.κ i) (cs.take off++vs++cs.drop (off+vs.length)).toArray }
 have hblk:∀ g,g≠C.κ i→C'.w.heap[g]?=C.w.heap[g]?:=fun g hg=>setRow_other C.w _ g _ hg
 have hsz:C'.w.heap.size=C.w.heap.size:=setRow_size _ _ _
 have hne:∀ g,C.own g=none→g≠C.κ i:=fun g hg e=>by rw [e,hok] at hg; cases hg
 have hE:Ext C C':=by
  refine ⟨fun g j hs=>⟨hs,cell_of_block (hblk g (hne g (hI.prot g j hs).2.1))⟩,Nat.le_refl _,fun i hi=>rfl,fun t E W m ht=>?_⟩
  obtain ⟨k1,_,cap,h1,_⟩:=hI.rows t E W m ht
  exact ⟨m,ht,.inr ⟨rfl,rfl,fun cap hc=>hc.same (hblk _ (hne _ k1))⟩⟩
 have hset:∀ (xs l:List A) (off:Nat),off+xs.length≤l.length→setCells l off xs=l.take off++xs++l.drop (off+xs.length):=by
  intro xs
  induction xs with
  | nil=>intro l off _; simp [setCells]
  | cons x xs ih =>
   intro l off hlt
   rw [List.length_cons] at hlt
   rw [setCells,ih _ _ (by simp; omega),List.take_add_one,List.getElem?_set_self (by omega),List.take_set_of_le (Nat.le_refl _),List.drop_set_of_lt (by omega)]
   simp [show off+1+xs.length=off+(xs.length+1) by omega]
 have hvl:vs.length=xs.length:=repL_length hx
 refine ⟨C',rfl,⟨by rw [List.length_set]; exact hI.nb,fun j b hjb=>?_,hI.ownk,fun g i hg=>?_,fun g j hs=>?_,fun t E W m ht=>?_,hI.inj,hI.toks,?_,fun w2 hw2=>?_⟩,⟨hE,rfl,rfl,rfl,by omega,rfl,fun g hg ho _=>hblk g (hne g ho),fun _ _=>rfl,fun g j hs => .inl hs,fun t ht => .inr ⟨ht,rfl⟩⟩⟩
 ·rw [List.getElem?_set] at hjb
  split at hjb
  ·next e =>
   subst e
   split at hjb
   ·injection hjb with hjb; subst hjb
    refine ⟨cs.take off++vs++cs.drop (off+vs.length),setRow_heap C.w (C.κ i) _ _ T _ hc,?_⟩
    rw [hset xs l off hle,hvl]
    exact repL_append (repL_append (repL_take _ (RepL.ext hE _ _ hl)) (RepL.ext hE _ _ hx)) (repL_drop _ (RepL.ext hE _ _ hl))
   ·cases hjb
  ·next hne' =>
   have hj:j < C.nb:=by rw [←hI.nb]; exact (List.getElem?_eq_some_iff.1 hjb).1
   refine (hI.box j b hjb).ext hE hj (hI.ownk j hj) (fun g j hg=>(hI.ownlt g j hg).2.1) (fun g hg=>hblk g fun e=>?_) (fun g=>Iff.rfl) (by omega)
   rw [e,hok] at hg; injection hg with hg; exact hne' hg
 ·obtain ⟨k1,k2,k3⟩:=hI.ownlt g i hg
  exact ⟨k1,by omega,k3⟩
 ·obtain ⟨k1,k2,k3⟩:=hI.prot g j hs
  exact ⟨by omega,k2,k3⟩
 ·obtain ⟨k1,k2,cap,k3,k4⟩:=hI.rows t E W m ht
  exact ⟨k1,k2,cap,k3.same (hblk _ (hne _ k1)),k4⟩
 ·show C.base≤C'.w.heap.size
  have:=hI.base; omega
 ·refine hI.glob w2 fun g hg=>(hw2 g hg).trans (hblk g fun e=>?_)
  have:=(hI.ownlt _ _ hok).2.2
  have e':g=C.κ i:=e
  omega
theorem store_row {i off:Nat} {T:TypeId} {l xs:List A} {cs vs rest:List Value} (hI:Inv G C h) (hb:h.b[i]?=some (.row T l)) (hc:C.w.heap[C.κ i]?=some (.cells (cs++rest).toArray T (0,0))) (hl:RepL C l cs) (hx:RepL C xs vs) (hle:off+xs.length≤l.length) :
  ∃ C':Ctx,C'.w=C.w.setRow (C.κ i) (cs.take off++vs++cs.drop (off+vs.length)++rest).toArray∧Inv G C' ⟨h.b.set i (.row T (setCells l off xs)),h.t⟩∧Step C C':=by
 have hi:i < C.nb:=by rw [←hI.nb]; exact (List.getElem?_eq_some_iff.1 hb).1
 have hok:=hI.ownk i hi
 let C':Ctx:={ C with w:=C.w.setRow (C.κ i) (cs.take off++vs++cs.drop (off+vs.length)++rest).toArray }
 have hblk:∀ g,g≠C.κ i→C'.w.heap[g]?=C.w.heap[g]?:=fun g hg=>setRow_other C.w _ g _ hg
 have hsz:C'.w.heap.size=C.w.heap.size:=setRow_size _ _ _
 have hne:∀ g,C.own g=none→g≠C.κ i:=fun g hg e=>by rw [e,hok] at hg; cases hg
 have hE:Ext C C':=by
  refine ⟨fun g j hs=>⟨hs,cell_of_block (hblk g (hne g (hI.prot g j hs).2.1))⟩,Nat.le_refl _,fun i hi=>rfl,fun t E W m ht=>?_⟩
  obtain ⟨k1,_,cap,h1,_⟩:=hI.rows t E W m ht
  exact ⟨m,ht,.inr ⟨rfl,rfl,fun cap hc=>hc.same (hblk _ (hne _ k1))⟩⟩
 have hset:∀ (xs l:List A) (off:Nat),off+xs.length≤l.length→setCells l off xs=l.take off++xs++l.drop (off+xs.length):=by
  intro xs
  induction xs with
  | nil=>intro l off _; simp [setCells]
  | cons x xs ih =>
   intro l off hlt
   rw [List.length_cons] at hlt
   rw [setCells,ih _ _ (by simp; omega),List.take_add_one,List.getElem?_set_self (by omega),List.take_set_of_le (Nat.le_refl _),List.drop_set_of_lt (by omega)]
   simp [show off+1+xs.length=off+(xs.length+1) by omega]
 have hvl:vs.length=xs.length:=repL_length hx
 refine ⟨C',rfl,⟨by rw [List.length_set]; exact hI.nb,fun j b hjb=>?_,hI.ownk,fun g i hg=>?_,fun g j hs=>?_,fun t E W m ht=>?_,hI.inj,hI.toks,?_,fun w2 hw2=>?_⟩,⟨hE,rfl,rfl,rfl,by omega,rfl,fun g hg ho _=>hblk g (hne g ho),fun _ _=>rfl,fun g j hs => .inl hs,fun t ht => .inr ⟨ht,rfl⟩⟩⟩
 ·rw [List.getElem?_set] at hjb
  split at hjb
  ·next e =>
   subst e
   split at hjb
   ·injection hjb with hjb; subst hjb
    refine ⟨cs.take off++vs++cs.drop (off+vs.length),rest,setRow_heap C.w (C.κ i) _ _ T _ hc,?_⟩
    rw [hset xs l off hle,hvl]
    exact repL_append (repL_append (repL_take _ (RepL.ext hE _ _ hl)) (RepL.ext hE _ _ hx)) (repL_drop _ (RepL.ext hE _ _ hl))
   ·cases hjb
  ·next hne' =>
   have hj:j < C.nb:=by rw [←hI.nb]; exact (List.getElem?_eq_some_iff.1 hjb).1
   refine (hI.box j b hjb).ext hE hj (hI.ownk j hj) (fun g j hg=>(hI.ownlt g j hg).2.1) (fun g hg=>hblk g fun e=>?_) (fun g=>Iff.rfl) (by omega)
   rw [e,hok] at hg; injection hg with hg; exact hne' hg
 ·obtain ⟨k1,k2,k3⟩:=hI.ownlt g i hg
  exact ⟨k1,by omega,k3⟩
 ·obtain ⟨k1,k2,k3⟩:=hI.prot g j hs
  exact ⟨by omega,k2,k3⟩
 ·obtain ⟨k1,k2,cap,k3,k4⟩:=hI.rows t E W m ht
  exact ⟨k1,k2,cap,k3.same (hblk _ (hne _ k1)),k4⟩
 ·show C.base≤C'.w.heap.size
  have:=hI.base; omega
 ·refine hI.glob w2 fun g hg=>(hw2 g hg).trans (hblk g fun e=>?_)
  have:=(hI.ownlt _ _ hok).2.2
  have e':g=C.κ i:=e
  omega
theorem ok_store {t:TypeId} {it:TypeInfo} {p x:Operand} {u v:A} {h':Hp} (hI:Inv G C h) (hop:o.op = .store t p x) (hi:P.info? t=some it) (hp:Rep C u (a.eval p)) (hx:Rep C v (a.eval x)) (hs:storeA h it.size v u=some h'):OpOk P G C a o (.tup []) h':=by
 cases u with
 | ptr i off =>
  simp only [storeA] at hs
  split at hs
  ·next T l hb =>
   split at hs
   ·next hcond =>
    injection hs with hs; subst hs
    obtain ⟨hn,hle,h1⟩:=hcond
    obtain ⟨e,hlt⟩:=rep_ptr.1 hp
    obtain ⟨cs,k1,k2⟩:=hI.box i _ hb
    have hv:=rep_cells hx
    have hvl:=repL_length hv
    obtain ⟨C',m1,m2,m3⟩:=store_box (off:=off) hI hb k1 k2 hv (by omega)
    refine ⟨C',undef,.inr ⟨?_,rfl⟩,m2,m3,rep_tup.2 ⟨[],rfl,repL_nil.2 rfl⟩⟩
    have hrun:=run_storeCells_at P (C.κ i) off T (a.eval x).cells.toList 0 cs.toArray C.w k1 (by have:=repL_length k2; simp only [List.size_toArray,Nat.add_zero]; omega) (repL_one hv h1)
    rw [m1]
    unfold execOp
    have hsz:(a.eval x).cells.size=it.size:=by rw [←Array.length_toList]; omega
    simp only [hop,Instr.storeAt,e,Instr.sureAddr,storeVar,Sem.run_bind,Sem.run_pure,Result.andThen_ok,sizeOf,typeInfo,run_program,hi,hsz,ne_eq,not_true_eq_false,if_false,hrun,Nat.add_zero,List.toList_toArray]
   ·cases hs
  ·next T l hb =>
   split at hs
   ·next hcond =>
    injection hs with hs; subst hs
    obtain ⟨hn,hle,h1⟩:=hcond
    obtain ⟨e,hlt⟩:=rep_ptr.1 hp
    obtain ⟨cs,rest,k1,k2⟩:=hI.box i _ hb
    have hv:=rep_cells hx
    have hvl:=repL_length hv
    have hcl:=repL_length k2
    obtain ⟨C',m1,m2,m3⟩:=store_row (off:=off) hI hb k1 k2 hv (by omega)
    refine ⟨C',undef,.inr ⟨?_,rfl⟩,m2,m3,rep_tup.2 ⟨[],rfl,repL_nil.2 rfl⟩⟩
    have hrun:=run_storeCells_at P (C.κ i) off T (a.eval x).cells.toList 0 (cs++rest).toArray C.w k1 (by simp only [List.size_toArray,Nat.add_zero,List.length_append]; omega) (repL_one hv h1)
    rw [m1]
    unfold execOp
    have hsz:(a.eval x).cells.size=it.size:=by rw [←Array.length_toList]; omega
    have e1:(cs++rest).take off=cs.take off:=List.take_append_of_le_length (by omega)
    have e2:(cs++rest).drop (off+(a.eval x).cells.toList.length)=cs.drop (off+(a.eval x).cells.toList.length)++rest:=List.drop_append_of_le_length (by omega)
    simp only [List.toList_toArray,Nat.add_zero,e1,e2] at hrun
    simp only [hop,Instr.storeAt,e,Instr.sureAddr,storeVar,Sem.run_bind,Sem.run_pure,Result.andThen_ok,sizeOf,typeInfo,run_program,hi,hsz,ne_eq,not_true_eq_false,if_false,hrun,Nat.add_zero,List.toList_toArray,List.append_assoc]
   ·cases hs
  ·cases hs
 | _=>simp [storeA] at hs
end
end AX
end Go.Proofs.YtdgcbckcameggaaGreatDoor

namespace Go.Proofs.YtdgcbckcameggaaGreatDoor
open Go.RowKit
namespace AX
section
variable {P:Program} {G:World→Prop} {C:Ctx} {a:Act} {o:Oper} {h:Hp} {ts:Nat→A} {n:Nat}
theorem rep_setCells:∀ (xs:List A) (vs:List Value) (k off:Nat) (l:List A) (cells:Array Value),RepL C xs vs→RepL C l cells.toList →
  RepL C (setCells l (off+k) xs) ((vs.zipIdx k).foldl (fun cs (p:Value×Nat)=>cs.setIfInBounds (off+p.2) p.1) cells).toList
 | [],vs,k,off,l,cells,hx,hl=>by
  rw [repL_nil] at hx; subst hx
  exact hl
 | x::xs,vs,k,off,l,cells,hx,hl=>by
  obtain ⟨v,vs',rfl,h1,h2⟩:=repL_cons.1 hx
  rw [List.zipIdx_cons,List.foldl_cons,setCells]
  have:=rep_setCells xs vs' (k+1) off (l.set (off+k) x) (cells.setIfInBounds (off+k) v) h2 ?_
  ·rw [show off+(k+1)=off+k+1 by omega] at this; exact this
  ·refine repL_of _ _ (by simp [repL_length hl]) fun i y c h3 h4=>?_
   rw [Array.toList_setIfInBounds,List.getElem?_set] at h4
   rw [List.getElem?_set] at h3
   by_cases e:off+k=i
   ·simp only [e,if_true] at h3 h4
    split at h3
    ·next hlt =>
     rw [if_pos (by rw [repL_length hl]; exact hlt)] at h4
     injection h3 with h3; injection h4 with h4; subst h3; subst h4
     exact h1
    ·cases h3
   ·simp only [e,if_false] at h3 h4
    obtain ⟨c',k1,k2⟩:=repL_get hl i y h3
    rw [k1] at h4; injection h4 with h4; subst h4
    exact k2
theorem rep_fill (hT:RepT C ts n a) (fs:Array Field) (pls:Array (Nat×Nat)) (hpl:∀ (j:Nat) (f:Field),fs[j]?=some f→∀ it,P.info? f.type=some it→pls[j]?=some (f.offset,it.size)) :
  ∀ (parts:List (Nat×Operand)) (ps:List (Nat×Nat×Opd)) (z r:List A) (cells:Array Value),compParts P n fs parts=some ps→RepL C z cells.toList→fillA (evX ts) z ps=some r →
  ∃ out,Instr.fill (pls[·]?) cells (parts.map fun p=>(p.1,a.eval p.2))=some out∧RepL C r out.toList
 | [],ps,z,r,cells,hc,hz,hf=>by
  simp only [compParts,Option.some.injEq] at hc; subst hc
  simp only [fillA,Option.some.injEq] at hf; subst hf
  exact ⟨cells,rfl,hz⟩
 | (j,x)::parts,ps,z,r,cells,hc,hz,hf=>by
  simp only [compParts,Option.bind_eq_some_iff,Option.some.injEq] at hc
  obtain ⟨f,h1,it,h2,y,h3,l,h4,rfl⟩:=hc
  simp only [fillA] at hf
  split at hf
  ·next hcond =>
   have hx:=rep_opd hT h3
   have hcl:=rep_cells hx
   have hlen:=repL_length hcl
   rw [Array.length_toList] at hlen
   have hzl:=repL_length hz
   rw [Array.length_toList] at hzl
   have key:=rep_setCells (evX ts y).cells (a.eval x).cells.toList 0 f.offset z cells hcl hz
   obtain ⟨out,k1,k2⟩:=rep_fill hT fs pls hpl parts l _ r _ h4 (by simpa using key) hf
   refine ⟨out,?_,k2⟩
   simp only [List.map_cons,Instr.fill,hpl j f h1 it h2]
   rw [if_neg (by simp; omega)]
   rw [←k1]
   congr 1
   rw [←Array.foldl_toList,Array.toList_zipIdx]
  ·cases hf
theorem places_of (fs:Array Field) (hall:fs.toList.all (fun f=>(P.info? f.type).isSome)=true):∃ places:List (Nat×Nat),fs.toList.mapM (fun f=>(P.info? f.type).map fun i=>(f.offset,i.size))=some places∧∀ (j:Nat) (f:Field),fs[j]?=some f→∀ it,P.info? f.type=some it→places.toArray[j]?=some (f.offset,it.size):=by
 have key:∀ l:List Field,l.all (fun f=>(P.info? f.type).isSome)=true→∃ places:List (Nat×Nat),l.mapM (fun f=>(P.info? f.type).map fun i=>(f.offset,i.size))=some places∧∀ (j:Nat) (f:Field),l[j]?=some f→∀ it,P.info? f.type=some it→places[j]?=some (f.offset,it.size):=by
  intro l
  induction l with
  | nil=>intro _; exact ⟨[],rfl,fun j f h=>by simp at h⟩
  | cons f l ih =>
   intro hl
   rw [List.all_cons,Bool.and_eq_true] at hl
   obtain ⟨ps,h1,h2⟩:=ih hl.2
   obtain ⟨it,hit⟩:=Option.isSome_iff_exists.1 hl.1
   refine ⟨(f.offset,it.size)::ps,by simp [List.mapM_cons,hit,h1],fun j g hj it' hit'=>?_⟩
   cases j with
   | zero=>simp at hj; subst hj; rw [hit] at hit'; injection hit' with e; subst e; rfl
   | succ j=>exact h2 j g (by simpa using hj) it' hit'
 obtain ⟨ps,h1,h2⟩:=key _ hall
 exact ⟨ps,h1,fun j f hj it hit=>by simpa using h2 j f (by simpa using hj) it hit⟩
theorem ok_build {t:TypeId} {parts:Array (Nat×Operand)} {fs:Array Field} {it:TypeInfo} {z:Value} {zl r:List A} {ps:List (Nat×Nat×Opd)} (hI:Inv G C h) (hT:RepT C ts n a) (hop:o.op = .build t parts) (ht:P.underlying t=some (.struct fs)) (hall:fs.toList.all (fun f=>(P.info? f.type).isSome)=true)
  (hi:P.info? t=some it) (hz:it.zero=some z) (hzl:convs z.cells.toList=some zl) (hc:compParts P n fs parts.toList=some ps) (hf:fillA (evX ts) zl ps=some r):OpOk P G C a o (.agg r) h:=by
 obtain ⟨places,h1,h2⟩:=places_of (P:=P) fs hall
 obtain ⟨out,k1,k2⟩:=rep_fill hT fs places.toArray h2 parts.toList ps zl r z.cells hc (rep_convs hzl) hf
 refine ok_same hI ?_ (rep_agg.2 ⟨out.toList,rfl,k2⟩)
 have hb:P.built t (parts.map fun p=>(p.1,a.eval p.2)).toList=some out:=by
  unfold Program.built
  simp only [hi,ht,hz,h1,Array.toList_map]
  exact k1
 unfold execOp
 simp [hop,run_build C.w t _ out hb]
theorem rep_rows (hT:RepT C ts n a) (W:Nat) (hW:0 < W):∀ (parts:List (Nat×Operand)) (ps:List Opd) (rows:List (List A)) (k:Nat) (pre:List Value) (suf:List Value),compRow n k parts=some ps→rowsA (evX ts) W ps=some rows→pre.length=k*W→suf.length=parts.length*W →
  ∃ out:List Value,Instr.fill (fun i=>some (i*W,W)) (pre++suf).toArray (parts.map fun p=>(p.1,a.eval p.2))=some (pre++out).toArray∧RepL C rows.flatten out∧rows.flatten.all A.data=true∧(∀ r∈rows,r.length=W)∧rows.length=parts.length∧out.length=parts.length*W
 | [],ps,rows,k,pre,suf,hc,hr,hp,hs=>by
  simp only [compRow,Option.some.injEq] at hc; subst hc
  simp only [rowsA,Option.some.injEq] at hr; subst hr
  have:suf=[]:=List.eq_nil_of_length_eq_zero (by simpa using hs)
  subst this
  exact ⟨[],rfl,repL_nil.2 rfl,rfl,by simp,rfl,by simp⟩
 | (j,x)::parts,ps,rows,k,pre,suf,hc,hr,hp,hs=>by
  simp only [compRow] at hc
  split at hc
  ·next hj =>
   subst hj
   simp only [Option.bind_eq_some_iff,Option.some.injEq] at hc
   obtain ⟨y,h3,l,h4,rfl⟩:=hc
   simp only [rowsA] at hr
   split at hr
   ·next hcond =>
    simp only [Option.map_eq_some_iff] at hr
    obtain ⟨rs,h5,rfl⟩:=hr
    have hx:=rep_opd hT h3
    have hcl:=rep_cells hx
    have hlen:=repL_length hcl
    have hsl:suf.length=W+parts.length*W:=by rw [hs,List.length_cons,Nat.add_mul,Nat.one_mul]; omega
    obtain ⟨out,k1,k2,k3,k4,k5,k6⟩:=rep_rows hT W hW parts l rs (j+1) (pre++(a.eval x).cells.toList) (suf.drop W) h4 h5 (by rw [List.length_append,hp,hlen,hcond.1,Nat.add_mul,Nat.one_mul]) (by rw [List.length_drop,hsl]; omega)
    refine ⟨(a.eval x).cells.toList++out,?_,by rw [List.flatten_cons]; exact repL_append hcl k2,by rw [List.flatten_cons,List.all_append,Bool.and_eq_true]; exact ⟨hcond.2,k3⟩,?_,by simp [k5],by rw [List.length_append,hlen,hcond.1,k6,List.length_cons,Nat.add_mul,Nat.one_mul]; omega⟩
    ·simp only [List.map_cons,Instr.fill]
     have hsz:(a.eval x).cells.size=W:=by rw [←Array.length_toList,hlen,hcond.1]
     rw [if_neg (by simp [hsz,hp,hsl])]
     rw [←List.append_assoc,←k1]
     congr 1
     apply Array.toList_inj.1
     rw [←Array.foldl_toList,Array.toList_zipIdx]
     have hset:∀ (vs:List Value) (q:Nat) (off:Nat) (cells:List Value),off+q+vs.length≤cells.length→((vs.zipIdx q).foldl (fun cs (p:Value×Nat)=>cs.setIfInBounds (off+p.2) p.1) cells.toArray).toList=cells.take (off+q)++vs++cells.drop (off+q+vs.length):=by
      intro vs
      induction vs with
      | nil=>intro q off cells _; simp
      | cons v vs ih =>
       intro q off cells hle
       rw [List.length_cons] at hle
       rw [List.zipIdx_cons,List.foldl_cons]
       have e:cells.toArray.setIfInBounds (off+q) v=(cells.set (off+q) v).toArray:=by simp
       rw [e,ih (q+1) off _ (by simp; omega),show off+(q+1)=off+q+1 by omega,List.take_add_one,List.getElem?_set_self (by omega),List.take_set_of_le (Nat.le_refl _),List.drop_set_of_lt (by omega)]
       simp [show off+q+1+vs.length=off+q+(vs.length+1) by omega]
     rw [hset _ 0 (j*W) _ (by rw [Array.length_toList,hsz,List.length_append,hp,hsl]; omega)]
     rw [Nat.add_zero,Array.length_toList,hsz]
     rw [show (pre++suf).take (j*W)=pre by rw [←hp]; simp,show (pre++suf).drop (j*W+W)=suf.drop W by rw [←hp,←List.drop_drop]; simp]
    ·intro r hr
     rcases List.mem_cons.1 hr with rfl | hm
     ·exact hcond.1
     ·exact k4 r hm
   ·cases hr
  ·cases hc
theorem rep_rowsR (hT:RepT C ts n a) (W:Nat) (hW:0 < W):∀ (parts:List (Nat×Operand)) (ps:List Opd) (rows:List (List A)) (k:Nat) (pre:List Value) (suf:List Value),compRow n k parts=some ps→rowsR (evX ts) W ps=some rows→pre.length=k*W→suf.length=parts.length*W →
  ∃ out:List Value,Instr.fill (fun i=>some (i*W,W)) (pre++suf).toArray (parts.map fun p=>(p.1,a.eval p.2))=some (pre++out).toArray∧RepL C rows.flatten out∧(∀ r∈rows,r.length=W)∧rows.length=parts.length∧out.length=parts.length*W
 | [],ps,rows,k,pre,suf,hc,hr,hp,hs=>by
  simp only [compRow,Option.some.injEq] at hc; subst hc
  simp only [rowsR,Option.some.injEq] at hr; subst hr
  have:suf=[]:=List.eq_nil_of_length_eq_zero (by simpa using hs)
  subst this
  exact ⟨[],rfl,repL_nil.2 rfl,by simp,rfl,by simp⟩
 | (j,x)::parts,ps,rows,k,pre,suf,hc,hr,hp,hs=>by
  simp only [compRow] at hc
  split at hc
  ·next hj =>
   subst hj
   simp only [Option.bind_eq_some_iff,Option.some.injEq] at hc
   obtain ⟨y,h3,l,h4,rfl⟩:=hc
   simp only [rowsR] at hr
   split at hr
   ·next hcond =>
    simp only [Option.map_eq_some_iff] at hr
    obtain ⟨rs,h5,rfl⟩:=hr
    have hx:=rep_opd hT h3
    have hcl:=rep_cells hx
    have hlen:=repL_length hcl
    have hsl:suf.length=W+parts.length*W:=by rw [hs,List.length_cons,Nat.add_mul,Nat.one_mul]; omega
    obtain ⟨out,k1,k2,k4,k5,k6⟩:=rep_rowsR hT W hW parts l rs (j+1) (pre++(a.eval x).cells.toList) (suf.drop W) h4 h5 (by rw [List.length_append,hp,hlen,hcond,Nat.add_mul,Nat.one_mul]) (by rw [List.length_drop,hsl]; omega)
    refine ⟨(a.eval x).cells.toList++out,?_,by rw [List.flatten_cons]; exact repL_append hcl k2,?_,by simp [k5],by rw [List.length_append,hlen,hcond,k6,List.length_cons,Nat.add_mul,Nat.one_mul]; omega⟩
    ·simp only [List.map_cons,Instr.fill]
     have hsz:(a.eval x).cells.size=W:=by rw [←Array.length_toList,hlen,hcond]
     rw [if_neg (by simp [hsz,hp,hsl])]
     rw [←List.append_assoc,←k1]
     congr 1
     apply Array.toList_inj.1
     rw [←Array.foldl_toList,Array.toList_zipIdx]
     have hset:∀ (vs:List Value) (q:Nat) (off:Nat) (cells:List Value),off+q+vs.length≤cells.length→((vs.zipIdx q).foldl (fun cs (p:Value×Nat)=>cs.setIfInBounds (off+p.2) p.1) cells.toArray).toList=cells.take (off+q)++vs++cells.drop (off+q+vs.length):=by
      intro vs
      induction vs with
      | nil=>intro q off cells _; simp
      | cons v vs ih =>
       intro q off cells hle
       rw [List.length_cons] at hle
       rw [List.zipIdx_cons,List.foldl_cons]
       have e:cells.toArray.setIfInBounds (off+q) v=(cells.set (off+q) v).toArray:=by simp
       rw [e,ih (q+1) off _ (by simp; omega),show off+(q+1)=off+q+1 by omega,List.take_add_one,List.getElem?_set_self (by omega),List.take_set_of_le (Nat.le_refl _),List.drop_set_of_lt (by omega)]
       simp [show off+q+1+vs.length=off+q+(vs.length+1) by omega]
     rw [hset _ 0 (j*W) _ (by rw [Array.length_toList,hsz,List.length_append,hp,hsl]; omega)]
     rw [Nat.add_zero,Array.length_toList,hsz]
     rw [show (pre++suf).take (j*W)=pre by rw [←hp]; simp,show (pre++suf).drop (j*W+W)=suf.drop W by rw [←hp,←List.drop_drop]; simp]
    ·intro r hr
     rcases List.mem_cons.1 hr with rfl | hm
     ·exact hcond
     ·exact k4 r hm
   ·cases hr
  ·cases hc
theorem ok_mks {t E:TypeId} {len:Nat} {parts:Array (Nat×Operand)} {it:TypeInfo} {z:Value} {ps:List Opd} {rows:List (List A)} (hI:Inv G C h) (hT:RepT C ts n a) (hop:o.op = .buildSlice t len parts) (ht:P.underlying t=some (.slice E)) (hi:P.info? E=some it) (hz:it.zero=some z)
  (hzs:z.cells.size=it.size) (hpos:0 < it.size) (hpl:parts.toList.length=len) (hl0:0 < len) (hsm:len*it.size≤1000) (hc:compRow n 0 parts.toList=some ps) (hr:rowsA (evX ts) it.size ps=some rows):OpOk P G C a o (.sl it.size .no rows) h:=by
 have hsl:((Array.range (len*it.size)).map (z.cells[· % z.cells.size]!)).toList.length=parts.toList.length*it.size:=by simp [hpl]
 obtain ⟨out,k1,k2,k3,k4,k5,k6⟩:=rep_rows hT it.size hpos parts.toList ps rows 0 [] _ hc hr (by simp) hsl
 have hlen:rows.length=len:=by rw [k5,hpl]
 simp only [List.nil_append,Array.toArray_toList] at k1
 obtain ⟨C',m1,m2,m3,m4,m5⟩:=alloc_view (T:=E) (cs:=out) (w:=C.w) (.inl rfl) hI
 refine ⟨C',.slice (some ⟨C.w.heap.size,0,none⟩) len len,.inl ?_,m2,m3,rep_sl.2 ⟨some ⟨C.w.heap.size,0,none⟩,len,by rw [hlen],by omega,repRows_of rows out 0 k4 k3 (RepL.ext m3.ext _ _ k2) (fun j hj=>?_) (fun j v hv=>?_),trivial⟩⟩
 ·rw [m1]
  have hrun:=run_buildSlice (P:=P) C.w t E len (parts.map fun p=>(p.1,a.eval p.2)) out.toArray it z ht hi hz (by omega) (by have:=Nat.mul_pos hl0 hpos; omega) (by rw [Array.toList_map]; exact k1)
  unfold execOp
  simp only [hop,Sem.run_bind]
  erw [hrun]
  rfl
 ·rw [show 0+0*it.size+j=j by omega]
  exact m4 j (by rw [k6,←k5]; exact hj)
 ·rw [show 0+0*it.size+j=j by omega]
  exact m5 j v hv
theorem new_row {w':World} {g:Nat} {T:TypeId} {l:List A} {cs rest:List Value} (hI:Inv G C h) (hb:Below C.w.heap.size C.w w') (hg:C.w.heap.size≤g) (hh:w'.heap[g]?=some (.cells (cs++rest).toArray T (0,0))) (hl:RepL C l cs) :
  ∃ C':Ctx,C'.w=w'∧Inv G C' ⟨h.b++[.row T l],h.t⟩∧Step C C'∧C'.κ h.b.length=g∧h.b.length < C'.nb:=by
 have hglt:g < w'.heap.size:=(Array.getElem?_eq_some_iff.1 hh).1
 let C':Ctx:={ C with w:=w',κ:=fun i=>if i=C.nb then g else C.κ i,nb:=C.nb+1,own:=fun k=>if k=g then some C.nb else C.own k }
 have hblk:∀ k,k < C.w.heap.size→C'.w.heap[k]?=C.w.heap[k]?:=fun k hk=>hb.block k hk
 have hsz:C.w.heap.size≤C'.w.heap.size:=hb.size
 have hE:Ext C C':=by
  refine ⟨fun k j hs=>⟨hs,cell_of_block (hblk k (hI.prot k j hs).1)⟩,Nat.le_succ _,fun i hi=>?_,fun t E W m ht=>?_⟩
  ·show (if i=C.nb then g else C.κ i)=C.κ i
   rw [if_neg (by omega)]
  ·obtain ⟨_,_,cap,h1,_⟩:=hI.rows t E W m ht
   exact ⟨m,ht,.inr ⟨rfl,rfl,fun cap hc=>hc.same (hblk _ h1.lt)⟩⟩
 have hown:∀ k,k < C.w.heap.size→C'.own k=C.own k:=fun k hk=>by
  show (if k=g then some C.nb else C.own k)=_
  rw [if_neg (by omega)]
 have hown':∀ k i,i < C.nb→(C'.own k=some i↔C.own k=some i):=fun k i hi=>by
  show (if k=g then some C.nb else C.own k)=some i↔_
  split
  ·next e=>exact ⟨fun e=>by injection e with e; omega,fun e'=>by have:=(hI.ownlt k i e').2.1; omega⟩
  ·exact Iff.rfl
 refine ⟨C',rfl,⟨?_,fun i b hib=>?_,fun i hi=>?_,fun k i hk=>?_,fun k j hs=>?_,fun t E W m ht=>?_,hI.inj,hI.toks,?_,fun w2 hw2=>?_⟩,⟨hE,hb.os,hb.tape,hb.output,hsz,rfl,fun k hk _ _=>hblk k hk,hown,fun k j hs => .inl hs,fun t ht => .inr ⟨ht,rfl⟩⟩,?_⟩
 ·show (h.b++[Blk.row T l]).length=C.nb+1
  rw [List.length_append,hI.nb]; rfl
 ·rw [List.getElem?_append] at hib
  split at hib
  ·next hi =>
   have hi':i < C.nb:=by rw [←hI.nb]; exact hi
   exact (hI.box i b hib).ext hE hi' (hI.ownk i hi') (fun k j hk=>(hI.ownlt k j hk).2.1) (fun k hk=>hblk k (hI.ownlt k i hk).2.1) (fun k=>hown' k i hi') hsz
  ·next hi =>
   have hk:i - h.b.length=0:=by
    rcases Nat.eq_zero_or_pos (i - h.b.length) with e | e
    ·exact e
    ·rw [List.getElem?_eq_none (by simp only [List.length_cons,List.length_nil]; omega)] at hib; cases hib
   rw [hk] at hib
   simp only [List.getElem?_cons_zero,Option.some.injEq] at hib
   subst hib
   have hi':i=C.nb:=by have:=hI.nb; omega
   refine ⟨cs,rest,?_,RepL.ext hE l cs hl⟩
   show w'.heap[if i=C.nb then g else C.κ i]?=_
   rw [if_pos hi']
   exact hh
 ·show (if (if i=C.nb then g else C.κ i)=g then some C.nb else C.own (if i=C.nb then g else C.κ i))=some i
  by_cases hi':i=C.nb
  ·rw [if_pos hi',if_pos rfl,hi']
  ·have hi2:i < C.nb:=by have:i < C.nb+1:=hi; omega
   have:=(hI.ownlt _ _ (hI.ownk i hi2)).2.1
   rw [if_neg hi',if_neg (by omega)]
   exact hI.ownk i hi2
 ·have hk':(if k=g then some C.nb else C.own k)=some i:=hk
  split at hk'
  ·next e =>
   injection hk' with hk'
   exact ⟨by show i < C.nb+1; omega,by rw [e]; exact hglt,by rw [e]; have:=hI.base; show C.base≤g; omega⟩
  ·obtain ⟨k1,k2,k3⟩:=hI.ownlt k i hk'
   exact ⟨by show i < C.nb+1; omega,by omega,k3⟩
 ·obtain ⟨k1,k2,k3⟩:=hI.prot k j hs
  exact ⟨by omega,(hown k k1).trans k2,k3⟩
 ·obtain ⟨k1,k2,cap,k3,k4⟩:=hI.rows t E W m ht
  exact ⟨(hown _ k3.lt).trans k1,k2,cap,k3.same (hblk _ k3.lt),k4⟩
 ·show C.base≤C'.w.heap.size
  have:=hI.base; omega
 ·exact hI.glob w2 fun k hk=>(hw2 k hk).trans (hblk k (Nat.lt_of_lt_of_le hk hI.base))
 ·refine ⟨?_,by show h.b.length < C.nb+1; have:=hI.nb; omega⟩
  show (if h.b.length=C.nb then g else C.κ h.b.length)=_
  rw [if_pos hI.nb]
theorem ok_mkr {t E:TypeId} {len:Nat} {parts:Array (Nat×Operand)} {it:TypeInfo} {z:Value} {ps:List Opd} {rows:List (List A)} (hI:Inv G C h) (hT:RepT C ts n a) (hop:o.op = .buildSlice t len parts) (ht:P.underlying t=some (.slice E)) (hi:P.info? E=some it) (hz:it.zero=some z)
  (hzs:z.cells.size=it.size) (hpos:0 < it.size) (hpl:parts.toList.length=len) (hl0:0 < len) (hsm:len*it.size≤1000) (hc:compRow n 0 parts.toList=some ps) (hr:rowsR (evX ts) it.size ps=some rows):OpOk P G C a o (.bs h.b.length it.size rows.length) ⟨h.b++[.row E rows.flatten],h.t⟩:=by
 have hsl:((Array.range (len*it.size)).map (z.cells[· % z.cells.size]!)).toList.length=parts.toList.length*it.size:=by simp [hpl]
 obtain ⟨out,k1,k2,k4,k5,k6⟩:=rep_rowsR hT it.size hpos parts.toList ps rows 0 [] _ hc hr (by simp) hsl
 have hlen:rows.length=len:=by rw [k5,hpl]
 simp only [List.nil_append,Array.toArray_toList] at k1
 obtain ⟨C',m1,m2,m3,m4,m5⟩:=new_row (w':=C.w.alloc (.cells out.toArray E)) (g:=C.w.heap.size) (T:=E) (rest:=[]) hI ((Below.refl _ _).alloc (Nat.le_refl _) _) (Nat.le_refl _) (by rw [List.append_nil]; exact Array.getElem?_push_size) k2
 refine ⟨C',.slice (some ⟨C.w.heap.size,0,none⟩) len len,.inl ?_,m2,m3,?_⟩
 ·rw [m1]
  have hrun:=run_buildSlice (P:=P) C.w t E len (parts.map fun p=>(p.1,a.eval p.2)) out.toArray it z ht hi hz (by omega) (by have:=Nat.mul_pos hl0 hpos; omega) (by rw [Array.toList_map]; exact k1)
  unfold execOp
  simp only [hop,Sem.run_bind]
  erw [hrun]
  rfl
 ·show ∃ cap,_
  exact ⟨len,by rw [m4,hlen],by omega,m5⟩
end
end AX
end Go.Proofs.YtdgcbckcameggaaGreatDoor

namespace Go.Proofs.YtdgcbckcameggaaGreatDoor
open Go.RowKit
namespace AX
section
variable {P:Program} {G:World→Prop} {C:Ctx} {a:Act} {o:Oper} {h:Hp} {ts:Nat→A} {n:Nat}
theorem row_new {w:World} {E:TypeId} {W m t cap:Nat} {cs rest:List Value} {hs:List (TypeId×Nat×Nat)} (hw:w=C.w.drew∨w=C.w) (hI:Inv G C h) (hcap:(cs++rest).length=cap*W) (hm:m≤cap) (hcm:cap≤maxLen) (hcs:cs.length=m*W)
  (ht:(t=h.t.length∧hs=h.t++[(E,W,m)])∨(∃ m0,C.hw t=some (E,W,m0)∧m0 < m∧hs=h.t.set t (E,W,m))) :
  ∃ C':Ctx,C'.w=w.alloc (.cells (cs++rest).toArray E)∧Inv G C' ⟨h.b,hs⟩∧Step C C'∧(∀ j,j < m*W→C'.S C.w.heap.size j)∧(∀ (j:Nat) (v:Value),cs[j]?=some v→C'.w.cell? ⟨C.w.heap.size,j,none⟩=some v) ∧
   C'.hw t=some (E,W,m)∧C'.τ t=C.w.heap.size∧RowAt C' C.w.heap.size E W cap:=by
 have hwh:w.heap=C.w.heap:=by rcases hw with rfl | rfl <;> rfl
 have hwo:w.os=C.w.os:=by rcases hw with rfl | rfl <;> rfl
 have hwt:w.tape=C.w.tape:=by rcases hw with rfl | rfl <;> rfl
 have hwu:w.output=C.w.output:=by rcases hw with rfl | rfl <;> rfl
 let C':Ctx:={ C with w:=w.alloc (.cells (cs++rest).toArray E),S:=fun g j=>C.S g j∨(g=C.w.heap.size∧j < m*W),τ:=fun u=>if u=t then C.w.heap.size else C.τ u,hw:=fun u=>if u=t then some (E,W,m) else C.hw u }
 have hblk:∀ g,g < C.w.heap.size→C'.w.heap[g]?=C.w.heap[g]?:=fun g hg=>(Below.heap_alloc w _ g (by rw [hwh]; exact hg)).trans (by rw [hwh])
 have hsz:C'.w.heap.size=C.w.heap.size+1:=by show (w.alloc _).heap.size=_; simp [hwh]
 have hnew:C'.w.heap[C.w.heap.size]?=some (.cells (cs++rest).toArray E (0,0)):=by
  show (w.alloc _).heap[C.w.heap.size]?=_
  rw [←hwh]; exact heap_alloc_new w _
 have hrow:RowAt C' C.w.heap.size E W cap:=⟨_,hnew,by simpa using hcap,hcm⟩
 have htok:∀ u E' W' m',u≠t→(C'.hw u=some (E',W',m')↔C.hw u=some (E',W',m')):=fun u E' W' m' hu=>by
  show (if u=t then some (E,W,m) else C.hw u)=_↔_
  rw [if_neg hu]
 have htt:C'.hw t=some (E,W,m):=by show (if t=t then some (E,W,m) else C.hw t)=_; rw [if_pos rfl]
 have hτt:C'.τ t=C.w.heap.size:=by show (if t=t then _ else _)=_; rw [if_pos rfl]
 have hτ:∀ u,u≠t→C'.τ u=C.τ u:=fun u hu=>by show (if u=t then _ else _)=_; rw [if_neg hu]
 have hno:C.own C.w.heap.size=none:=by
  cases e:C.own C.w.heap.size with
  | none=>rfl
  | some i=>have:=(hI.ownlt _ _ e).2.1; omega
 have hE:Ext C C':=by
  refine ⟨fun g j hs=>⟨.inl hs,cell_of_block (hblk g (hI.prot g j hs).1)⟩,Nat.le_refl _,fun i hi=>rfl,fun u E' W' m' hu=>?_⟩
  by_cases e:u=t
  ·subst e
   rcases ht with ⟨rfl,_⟩ | ⟨m0,h1,h2,_⟩
   ·rw [hI.toks,List.getElem?_eq_none (Nat.le_refl _)] at hu; cases hu
   ·rw [h1] at hu; injection hu with hu; injection hu with e1 e2; injection e2 with e2 e3; subst e1; subst e2; subst e3
    exact ⟨m,htt,.inl h2⟩
  ·obtain ⟨_,_,cap,h1,_⟩:=hI.rows u E' W' m' hu
   exact ⟨m',(htok u E' W' m' e).2 hu,.inr ⟨rfl,hτ u e,fun cap hc=>hc.same (hblk _ h1.lt)⟩⟩
 have hlt:∀ u,(C.hw u).isSome=true→C.τ u < C.w.heap.size:=fun u hu=>by
  obtain ⟨⟨E',W',m'⟩,e⟩:=Option.isSome_iff_exists.1 hu
  obtain ⟨_,_,cap,h1,_⟩:=hI.rows u E' W' m' e
  exact h1.lt
 have hsome:∀ u,u≠t→(C'.hw u).isSome=(C.hw u).isSome:=fun u hu=>by show (if u=t then some (E,W,m) else C.hw u).isSome=_; rw [if_neg hu]
 refine ⟨C',rfl,⟨hI.nb,fun i b hib=>?_,hI.ownk,fun g i hg=>?_,fun g j hs=>?_,fun u E' W' m' hu=>?_,fun u u' hu hu' e=>?_,fun u=>?_,?_,fun w2 hw2=>?_⟩,⟨hE,hwo,hwt,hwu,by omega,rfl,fun g hg _ _=>hblk g hg,fun _ _=>rfl,fun g j hs=>?_,fun u hu=>?_⟩,fun j hj => .inr ⟨rfl,hj⟩,fun j v hv=>?_,htt,hτt,hrow⟩
 ·have hi':i < C.nb:=by rw [←hI.nb]; exact (List.getElem?_eq_some_iff.1 hib).1
  exact (hI.box i b hib).ext hE hi' (hI.ownk i hi') (fun g j hg=>(hI.ownlt g j hg).2.1) (fun g hg=>hblk g (hI.ownlt g i hg).2.1) (fun g=>Iff.rfl) (by omega)
 ·obtain ⟨k1,k2,k3⟩:=hI.ownlt g i hg
  exact ⟨k1,by omega,k3⟩
 ·rcases hs with hs | ⟨rfl,hj⟩
  ·obtain ⟨k1,k2,k3⟩:=hI.prot g j hs
   refine ⟨by omega,k2,fun u E' W' m' hu e=>?_⟩
   by_cases e2:u=t
   ·subst e2; rw [hτt] at e; omega
   ·rw [hτ u e2] at e
    exact k3 u E' W' m' ((htok u E' W' m' e2).1 hu) e
  ·refine ⟨by omega,hno,fun u E' W' m' hu e=>?_⟩
   by_cases e2:u=t
   ·subst e2
    rw [htt] at hu; injection hu with hu; injection hu with e1 e2; injection e2 with e2 e3; subst e1; subst e2; subst e3
    exact hj
   ·rw [hτ u e2] at e
    have:=hlt u (by rw [←hsome u e2,hu]; rfl)
    omega
 ·by_cases e2:u=t
  ·subst e2
   rw [htt] at hu; injection hu with hu; injection hu with e1 e2; injection e2 with e2 e3; subst e1; subst e2; subst e3
   rw [hτt]
   exact ⟨hno,hI.base,cap,hrow,hm⟩
  ·rw [hτ u e2]
   obtain ⟨k1,k2,cap',k3,k4⟩:=hI.rows u E' W' m' ((htok u E' W' m' e2).1 hu)
   exact ⟨k1,k2,cap',k3.same (hblk _ k3.lt),k4⟩
 ·by_cases e2:u=t
  ·by_cases e3:u'=t
   ·rw [e2,e3]
   ·rw [e2,hτt,hτ u' e3] at e
    have:=hlt u' (by rw [←hsome u' e3]; exact hu')
    omega
  ·by_cases e3:u'=t
   ·rw [e3,hτt,hτ u e2] at e
    have:=hlt u (by rw [←hsome u e2]; exact hu)
    omega
   ·rw [hτ u e2,hτ u' e3] at e
    exact hI.inj u u' (by rw [←hsome u e2]; exact hu) (by rw [←hsome u' e3]; exact hu') e
 ·show (if u=t then some (E,W,m) else C.hw u)=hs[u]?
  rcases ht with ⟨rfl,rfl⟩ | ⟨m0,h1,_,rfl⟩
  ·by_cases e2:u=h.t.length
   ·subst e2; simp
   ·rw [if_neg e2,hI.toks]
    rcases Nat.lt_or_ge u h.t.length with h3 | h3
    ·rw [List.getElem?_append_left h3]
    ·rw [List.getElem?_eq_none h3,List.getElem?_eq_none (by simp; omega)]
  ·have hlt':t < h.t.length:=by
    rw [hI.toks] at h1
    exact (List.getElem?_eq_some_iff.1 h1).1
   by_cases e2:u=t
   ·subst e2; simp [hlt']
   ·rw [if_neg e2,hI.toks,List.getElem?_set_ne (fun e=>e2 e.symm)]
 ·show C.base≤C'.w.heap.size
  have:=hI.base; omega
 ·exact hI.glob w2 fun g hg=>(hw2 g hg).trans (hblk g (Nat.lt_of_lt_of_le hg hI.base))
 ·rcases hs with hs | ⟨rfl,hj⟩
  ·exact .inl hs
  ·exact .inr (.inl (Nat.le_refl _))
 ·by_cases e2:u=t
  ·subst e2; left; rw [hτt]; exact Nat.le_refl _
  ·right; rw [hτ u e2]; exact ⟨by rw [←hsome u e2]; exact hu,rfl⟩
 ·rw [cell_of_row _ _ _ _ _ _ hnew]
  have:j < cs.length:=(List.getElem?_eq_some_iff.1 hv).1
  simp [List.getElem?_append_left this,hv]
theorem row_room {E:TypeId} {W m0 m t cap:Nat} {cs:List Value} {cur:Array Value} (hI:Inv G C h) (ht:C.hw t=some (E,W,m0)) (hlt:m0 < m) (hcur:C.w.heap[C.τ t]?=some (.cells cur E (0,0))) (hcs:cs.length=cur.size) (hsz:cur.size=cap*W) (hm:m≤cap) (hcm:cap≤maxLen)
  (hpre:cs.take (m0*W)=cur.toList.take (m0*W)) :
  ∃ C':Ctx,C'.w=C.w.setRow (C.τ t) cs.toArray∧Inv G C' ⟨h.b,h.t.set t (E,W,m)⟩∧Step C C'∧(∀ j,j < m*W→C'.S (C.τ t) j)∧(∀ (j:Nat) (v:Value),cs[j]?=some v→C'.w.cell? ⟨C.τ t,j,none⟩=some v) ∧
   C'.hw t=some (E,W,m)∧C'.τ t=C.τ t∧RowAt C' (C.τ t) E W cap:=by
 obtain ⟨hown,hbase,cap0,hr0,_⟩:=hI.rows t E W m0 ht
 let C':Ctx:={ C with w:=C.w.setRow (C.τ t) cs.toArray,S:=fun g j=>C.S g j∨(g=C.τ t∧j < m*W),hw:=fun u=>if u=t then some (E,W,m) else C.hw u }
 have hblk:∀ g,g≠C.τ t→C'.w.heap[g]?=C.w.heap[g]?:=fun g hg=>setRow_other C.w _ g _ hg
 have hws:C'.w.heap.size=C.w.heap.size:=setRow_size _ _ _
 have hnew:C'.w.heap[C.τ t]?=some (.cells cs.toArray E (0,0)):=setRow_heap C.w _ _ _ E _ hcur
 have hrow:RowAt C' (C.τ t) E W cap:=⟨_,hnew,by simpa [hcs] using hsz,hcm⟩
 have htok:∀ u E' W' m',u≠t→(C'.hw u=some (E',W',m')↔C.hw u=some (E',W',m')):=fun u E' W' m' hu=>by
  show (if u=t then some (E,W,m) else C.hw u)=_↔_
  rw [if_neg hu]
 have htt:C'.hw t=some (E,W,m):=by show (if t=t then some (E,W,m) else C.hw t)=_; rw [if_pos rfl]
 have hsome:∀ u,(C'.hw u).isSome=(C.hw u).isSome:=fun u=>by
  show (if u=t then some (E,W,m) else C.hw u).isSome=_
  by_cases e:u=t
  ·subst e; rw [if_pos rfl,ht]; rfl
  ·rw [if_neg e]
 have hother:∀ u,u≠t→(C.hw u).isSome=true→C.τ u≠C.τ t:=fun u hu hs e=>hu (hI.inj u t hs (by rw [ht]; rfl) e)
 have hcell:∀ j,j < m0*W→C'.w.cell? ⟨C.τ t,j,none⟩=C.w.cell? ⟨C.τ t,j,none⟩:=fun j hj=>by
  rw [cell_of_row _ _ _ _ _ _ hnew,cell_of_row _ _ _ _ _ _ hcur]
  have h1:(cs.take (m0*W))[j]?=cs[j]?:=List.getElem?_take_of_lt hj
  have h2:(cur.toList.take (m0*W))[j]?=cur.toList[j]?:=List.getElem?_take_of_lt hj
  rw [hpre,h2] at h1
  simpa using h1.symm
 have hE:Ext C C':=by
  refine ⟨fun g j hs=>⟨.inl hs,?_⟩,Nat.le_refl _,fun i hi=>rfl,fun u E' W' m' hu=>?_⟩
  ·by_cases e:g=C.τ t
   ·subst e
    exact hcell j ((hI.prot _ j hs).2.2 t E W m0 ht rfl)
   ·exact cell_of_block (hblk g e)
  ·by_cases e:u=t
   ·subst e
    rw [ht] at hu; injection hu with hu; injection hu with e1 e2; injection e2 with e2 e3; subst e1; subst e2; subst e3
    exact ⟨m,htt,.inl hlt⟩
   ·exact ⟨m',(htok u E' W' m' e).2 hu,.inr ⟨rfl,rfl,fun cap hc=>hc.same (hblk _ (hother u e (by rw [hu]; rfl)))⟩⟩
 refine ⟨C',rfl,⟨hI.nb,fun i b hib=>?_,hI.ownk,fun g i hg=>?_,fun g j hs=>?_,fun u E' W' m' hu=>?_,fun u u' hu hu' e=>?_,fun u=>?_,?_,fun w2 hw2=>?_⟩,⟨hE,rfl,rfl,rfl,by omega,rfl,fun g hg _ hx=>hblk g fun e=>hx t (by rw [ht]; rfl) e.symm,fun _ _=>rfl,fun g j hs=>?_,fun u hu => .inr ⟨by rw [←hsome u]; exact hu,rfl⟩⟩,fun j hj => .inr ⟨rfl,hj⟩,fun j v hv=>?_,htt,rfl,hrow⟩
 ·have hi':i < C.nb:=by rw [←hI.nb]; exact (List.getElem?_eq_some_iff.1 hib).1
  exact (hI.box i b hib).ext hE hi' (hI.ownk i hi') (fun g j hg=>(hI.ownlt g j hg).2.1) (fun g hg=>hblk g fun e=>by rw [e,hown] at hg; cases hg) (fun g=>Iff.rfl) (by omega)
 ·obtain ⟨k1,k2,k3⟩:=hI.ownlt g i hg
  exact ⟨k1,by omega,k3⟩
 ·rcases hs with hs | ⟨rfl,hj⟩
  ·obtain ⟨k1,k2,k3⟩:=hI.prot g j hs
   refine ⟨by omega,k2,fun u E' W' m' hu e=>?_⟩
   by_cases e2:u=t
   ·subst e2
    rw [htt] at hu; injection hu with hu; injection hu with e1 e2; injection e2 with e2 e3; subst e1; subst e2; subst e3
    have h1:=k3 u E W m0 ht e
    exact Nat.lt_of_lt_of_le h1 (Nat.mul_le_mul_right _ (Nat.le_of_lt hlt))
   ·exact k3 u E' W' m' ((htok u E' W' m' e2).1 hu) e
  ·refine ⟨by have:=hr0.lt; omega,hown,fun u E' W' m' hu e=>?_⟩
   by_cases e2:u=t
   ·subst e2
    rw [htt] at hu; injection hu with hu; injection hu with e1 e2; injection e2 with e2 e3; subst e1; subst e2; subst e3
    exact hj
   ·exact absurd e (hother u e2 (by rw [←hsome u,hu]; rfl))
 ·by_cases e2:u=t
  ·subst e2
   rw [htt] at hu; injection hu with hu; injection hu with e1 e2; injection e2 with e2 e3; subst e1; subst e2; subst e3
   exact ⟨hown,hbase,cap,hrow,hm⟩
  ·obtain ⟨k1,k2,cap',k3,k4⟩:=hI.rows u E' W' m' ((htok u E' W' m' e2).1 hu)
   exact ⟨k1,k2,cap',k3.same (hblk _ (hother u e2 (by rw [←hsome u,hu]; rfl))),k4⟩
 ·exact hI.inj u u' (by rw [←hsome u]; exact hu) (by rw [←hsome u']; exact hu') e
 ·show (if u=t then some (E,W,m) else C.hw u)=(h.t.set t (E,W,m))[u]?
  have hlt':t < h.t.length:=by
   rw [hI.toks] at ht
   exact (List.getElem?_eq_some_iff.1 ht).1
  by_cases e2:u=t
  ·subst e2; simp [hlt']
  ·rw [if_neg e2,hI.toks,List.getElem?_set_ne (fun e=>e2 e.symm)]
 ·show C.base≤C'.w.heap.size
  have:=hI.base; omega
 ·exact hI.glob w2 fun g hg=>(hw2 g hg).trans (hblk g (by omega))
 ·rcases hs with hs | ⟨rfl,hj⟩
  ·exact .inl hs
  ·exact .inr (.inr ⟨t,by rw [ht]; rfl,rfl⟩)
 ·rw [cell_of_row _ _ _ _ _ _ hnew]
  simpa using hv
theorem data_one:∀ {l:List A},l.all A.data=true→l.all A.one=true
 | [],_=>rfl
 | x::l,hd=>by
  rw [List.all_cons,Bool.and_eq_true] at hd ⊢
  refine ⟨?_,data_one hd.2⟩
  have:=hd.1
  cases x <;> simp_all [A.data,A.one]
theorem sl_open {W:Nat} {ow:Own} {ys:List (List A)} {v:Value} (hr:Rep C (.sl W ow ys) v) (h0:0 < ys.length) :
  ∃ g off cap cs,v = .slice (some ⟨g,off,none⟩) ys.length cap∧RepL C ys.flatten cs∧cs.length=ys.length*W∧ys.flatten.all A.data=true∧(∀ r∈ys,r.length=W)∧(∀ (j:Nat) (u:Value),cs[j]?=some u→C.w.cell? ((⟨g,off,none⟩:Addr).add j)=some u):=by
 obtain ⟨ad,cap,e,hcap,hrows,_⟩:=rep_sl.1 hr
 obtain ⟨g,off,rfl,_⟩:=repRows_get hrows 0 h0
 obtain ⟨cs,h1,h2,h3,h4,h5⟩:=repRows_cells hrows
 refine ⟨g,off,cap,cs,e,h1,h2,h3,h4,fun j u hu=>?_⟩
 rw [add_off]
 have:=h5 j u hu
 rwa [Nat.zero_mul,Nat.add_zero] at this
theorem app_none {T E:TypeId} {x y:Operand} {it:TypeInfo} {W1 W':Nat} {o1 o2:Own} {xs ys:List (List A)} (hI:Inv G C h) (ht:P.underlying T=some (.slice E)) (hi:P.info? E=some it)
  (hexec:(execOp a.eval o).run P C.w=((Builtin.append_ #[T,T] o.type #[a.eval x,a.eval y]).run P C.w).andThen fun v w => .ok (.value v) w) (hx:Rep C (.sl W1 o1 xs) (a.eval x)) (hy:Rep C (.sl W' o2 ys) (a.eval y)) (h0:ys.length=0):OpOk P G C a o (.sl W1 o1 xs) h:=by
 refine ok_same hI (cv:=a.eval x) ?_ hx
 obtain ⟨ax,cx,ex,hcx,_,_⟩:=rep_sl.1 hx
 obtain ⟨ay,cy,ey,_,_,_⟩:=rep_sl.1 hy
 rw [h0] at ey
 have hsrc:Src P it.size T (a.eval y) 0 [] C.w:=by
  rw [ey]
  cases ay with
  | none=>exact Src.ofNil C.w ht cy
  | some ad=>exact Src.ofSlice C.w ht ad 0 cy [] (by simp) (fun j u hu=>by simp at hu) (fun u hu=>by cases hu)
 have:=run_append_nothing C.w T T o.type E it ht hi ax xs.length cx hcx (a.eval y) hsrc
 rw [hexec,ex,this]
 rfl
theorem ok_app {c:Call} {T E:TypeId} {x y:Operand} {it:TypeInfo} {z:Value} {u v r:A} {h':Hp} (hI:Inv G C h) (hop:o.op = .call c) (hc:c.callee = .builtin .append) (ha:c.args=#[x,y]) (hT:c.argTypes=#[T,T]) (ht:P.underlying T=some (.slice E)) (hi:P.info? E=some it) (hz:it.zero=some z)
  (hzs:z.cells.size=it.size) (hpos:0 < it.size) (hx:Rep C u (a.eval x)) (hy:Rep C v (a.eval y)) (hs:appA h E it.size it.bytes u v=some (r,h')):OpOk P G C a o r h':=by
 have hexec:(execOp a.eval o).run P C.w=((Builtin.append_ #[T,T] o.type #[a.eval x,a.eval y]).run P C.w).andThen fun v w => .ok (.value v) w:=by
  unfold execOp
  simp [hop,resolve,hc,ha,hT,invoke,builtin]
 have hzc:∀ k,(Builtin.zeroCells z.cells k).toList.length=k*it.size:=fun k=>by rw [Array.length_toList,size_zeroCells,hzs]
 cases u with
 | sl W1 ow xs =>
  cases v with
  | sl W' ow' ys =>
   cases ow with
   | no=>simp [appA] at hs
   | nil =>
    simp only [appA] at hs
    split at hs
    ·next hcond =>
     obtain ⟨rfl,h0,hml,hby⟩:=hcond
     simp only [Option.some.injEq,Prod.mk.injEq] at hs
     obtain ⟨rfl,rfl⟩:=hs
     obtain ⟨g,off,cap,cs,ey,k1,k2,k3,k4,k5⟩:=sl_open hy h0
     obtain ⟨ad,cap',ex,_,_,hown⟩:=rep_sl.1 hx
     obtain ⟨rfl,rfl,hn0⟩:=hown
     rw [hn0] at ex
     have hr:=run_append_nil (P:=P) C.w T o.type E it z ht hi hz ⟨g,off,none⟩ ys.length cap cs k2 k5 h0 (by simp only [maxLen] at hml; omega) (by omega)
     have hge:=grownCap_ge C.w ys.length 0 E
     have hle:=grownCap_le_maxLen C.w ys.length 0 E hml
     obtain ⟨C',m1,m2,m3,m4,m5,m6,m7,m8⟩:=row_new (w:=C.w.drew) (E:=E) (W:=it.size) (m:=ys.length) (t:=h.t.length) (cap:=grownCap C.w ys.length 0 E) (cs:=cs) (rest:=(Builtin.zeroCells z.cells (grownCap C.w ys.length 0 E - ys.length)).toList) (hs:=h.t++[(E,it.size,ys.length)]) (.inl rfl) hI
      (by rw [List.length_append,k2,hzc,←Nat.add_mul]; congr 1; omega) hge hle k2 (.inl ⟨rfl,rfl⟩)
     refine ⟨C',.slice (some ⟨C.w.heap.size,0,none⟩) ys.length (grownCap C.w ys.length 0 E),.inl ?_,m2,m3,rep_sl.2 ⟨_,_,rfl,hge,repRows_of ys cs 0 k4 k3 (RepL.ext m3.ext _ _ k1) (fun j hj=>?_) (fun j u hu=>?_),E,ys.length,m6,Nat.le_refl _,fun _=>⟨by rw [m7],by rw [m7]; exact m8⟩⟩⟩
     ·rw [hexec,ex,ey,hr,m1]
      simp only [Result.andThen_ok]
      rw [show cs.toArray++Builtin.zeroCells z.cells (grownCap C.w ys.length 0 E - ys.length)=(cs++(Builtin.zeroCells z.cells (grownCap C.w ys.length 0 E - ys.length)).toList).toArray from Array.toList_inj.1 (by simp)]
     ·rw [show 0+0*it.size+j=j by omega]; exact m4 j hj
     ·rw [show 0+0*it.size+j=j by omega]; exact m5 j u hu
    ·split at hs
     ·next h0 =>
      simp only [Option.some.injEq,Prod.mk.injEq] at hs
      obtain ⟨rfl,rfl⟩:=hs
      exact app_none hI ht hi hexec hx hy h0
     ·cases hs
   | tok t =>
    simp only [appA] at hs
    split at hs
    ·next hcond =>
     obtain ⟨rfl,rfl,h0,htok,hml,hby⟩:=hcond
     simp only [Option.some.injEq,Prod.mk.injEq] at hs
     obtain ⟨rfl,rfl⟩:=hs
     obtain ⟨g,off,capy,cs,ey,k1,k2,k3,k4,k5⟩:=sl_open hy h0
     obtain ⟨ad,cap,ex,hcap,hrx,E',m,q1,q2,q3⟩:=rep_sl.1 hx
     rw [←hI.toks,q1] at htok
     injection htok with htok; injection htok with e1 e2; injection e2 with e2 e3; subst e1; subst e3
     obtain ⟨rfl,hrow⟩:=q3 rfl
     obtain ⟨cur,hcur,hcs,hcm⟩:=hrow
     obtain ⟨cs1,p1,p2,p3,p4,p5⟩:=repRows_cells hrx
     have p5':∀ (j:Nat) (u:Value),cs1[j]?=some u→C.w.cell? ⟨C.τ t,j,none⟩=some u:=fun j u hu=>by
      have:=p5 j u hu
      rwa [show 0+0*it.size+j=j by omega] at this
     have hall:(xs++ys).flatten.all A.data=true:=by rw [List.flatten_append,List.all_append,Bool.and_eq_true]; exact ⟨p3,k3⟩
     have hrl:∀ r∈xs++ys,r.length=it.size:=fun r hr=>by
      rcases List.mem_append.1 hr with hm | hm
      ·exact p4 r hm
      ·exact k4 r hm
     have hL:RepL C (xs++ys).flatten (cs1++cs):=by rw [List.flatten_append]; exact repL_append p1 k1
     have hll:(cs1++cs).length=(xs.length+ys.length)*it.size:=by rw [List.length_append,p2,k2,Nat.add_mul]
     by_cases hroom:xs.length+ys.length≤cap
     ·have hfit:xs.length*it.size+cs.length≤cur.size:=by rw [k2,hcs,←Nat.add_mul]; exact Nat.mul_le_mul_right _ hroom
      have hxs:xs.length*it.size≤cur.size:=by omega
      have hr:=run_append_room (P:=P) C.w T o.type E' it ht hi (C.τ t) xs.length cap cur hcur ⟨g,off,none⟩ ys.length capy cs k2 k5 (repL_one k1 (data_one k3)) hroom hfit
      obtain ⟨C',m1,m2,m3,m4,m5,m6,m7,m8⟩:=row_room (m:=xs.length+ys.length) (cap:=cap) (cs:=cur.toList.take (xs.length*it.size)++cs++cur.toList.drop (xs.length*it.size+cs.length)) hI q1 (by omega) hcur (by rw [List.length_append,List.length_append,List.length_take,List.length_drop,Array.length_toList (xs:=cur)]; omega) hcs hroom hcm
       (by rw [List.append_assoc,List.take_append_of_le_length (by rw [List.length_take,Array.length_toList (xs:=cur)]; omega),List.take_take,Nat.min_self])
      refine ⟨C',.slice (some ⟨C.τ t,0,none⟩) (xs.length+ys.length) cap,.inl ?_,m2,m3,rep_sl.2 ⟨some ⟨C.τ t,0,none⟩,cap,by simp,by simpa using hroom,repRows_of _ _ 0 hrl hall (RepL.ext m3.ext _ _ hL) (fun j hj=>?_) (fun j u hu=>?_),E',xs.length+ys.length,m6,by simp,fun _=>⟨by rw [m7],by rw [m7]; exact m8⟩⟩⟩
      ·rw [hexec,ex,ey,hr,m1]; rfl
      ·rw [show 0+0*it.size+j=j by omega]; exact m4 j (by simpa using hj)
      ·rw [show 0+0*it.size+j=j by omega]
       refine m5 j u ?_
       rw [List.getElem?_append] at hu
       have hlt:j < (cs1++cs).length:=by
        rw [List.length_append]
        split at hu
        ·omega
        ·have:=(List.getElem?_eq_some_iff.1 hu).1; omega
       rw [hll,Nat.add_mul] at hlt
       rw [List.append_assoc,List.getElem?_append]
       have hxs':cs1.length≤cur.size:=by rw [p2]; exact hxs
       simp only [List.length_take,Array.length_toList,←p2,Nat.min_eq_left hxs']
       split at hu
       ·next hj =>
        rw [if_pos hj]
        have h5:=p5' j u hu
        rw [cell_of_row _ _ _ _ _ _ hcur] at h5
        rw [List.getElem?_take_of_lt hj]
        simpa using h5
       ·next hj =>
        rw [if_neg hj,List.getElem?_append_left (by rw [k2]; omega)]
        exact hu
     ·have hr:=run_append_grow (P:=P) C.w T o.type E' it z ht hi hz ⟨C.τ t,0,none⟩ xs.length cap cs1 p2 (fun j u hu=>by rw [add_off,Nat.zero_add]; exact p5' j u hu) ⟨g,off,none⟩ ys.length capy cs k2 k5 (by omega) (by simp only [maxLen] at hml; omega) (growslice_fits (by omega) hby)
      have hge:=grownCap_ge C.w (xs.length+ys.length) cap E'
      have hle:=grownCap_le_maxLen C.w (xs.length+ys.length) cap E' hml
      obtain ⟨C',m1,m2,m3,m4,m5,m6,m7,m8⟩:=row_new (w:=C.w.drew) (E:=E') (W:=it.size) (m:=xs.length+ys.length) (t:=t) (cap:=grownCap C.w (xs.length+ys.length) cap E') (cs:=cs1++cs) (rest:=(Builtin.zeroCells z.cells (grownCap C.w (xs.length+ys.length) cap E' - (xs.length+ys.length))).toList) (hs:=h.t.set t (E',it.size,xs.length+ys.length)) (.inl rfl) hI
       (by rw [List.length_append,hll,hzc,←Nat.add_mul]; congr 1; omega) hge hle hll (.inr ⟨xs.length,q1,by omega,rfl⟩)
      refine ⟨C',.slice (some ⟨C.w.heap.size,0,none⟩) (xs.length+ys.length) (grownCap C.w (xs.length+ys.length) cap E'),.inl ?_,m2,m3,rep_sl.2 ⟨some ⟨C.w.heap.size,0,none⟩,_,by rw [List.length_append],by simpa using hge,repRows_of _ _ 0 hrl hall (RepL.ext m3.ext _ _ hL) (fun j hj=>?_) (fun j u hu=>?_),E',xs.length+ys.length,m6,by simp,fun _=>⟨by rw [m7],by rw [m7]; exact m8⟩⟩⟩
      ·rw [hexec,ex,ey,hr,m1]
       simp only [Result.andThen_ok]
       rw [show cs1.toArray++cs.toArray++Builtin.zeroCells z.cells (grownCap C.w (xs.length+ys.length) cap E' - (xs.length+ys.length))=(cs1++cs++(Builtin.zeroCells z.cells (grownCap C.w (xs.length+ys.length) cap E' - (xs.length+ys.length))).toList).toArray from Array.toList_inj.1 (by simp)]
      ·rw [show 0+0*it.size+j=j by omega]; exact m4 j (by simpa using hj)
      ·rw [show 0+0*it.size+j=j by omega]; exact m5 j u hu
    ·split at hs
     ·next h0 =>
      simp only [Option.some.injEq,Prod.mk.injEq] at hs
      obtain ⟨rfl,rfl⟩:=hs
      exact app_none hI ht hi hexec hx hy h0
     ·cases hs
  | _=>cases ow <;> simp [appA] at hs
 | _=>simp [appA] at hs
theorem ok_mkl {t E:TypeId} {len:Nat} {parts:Array (Nat×Operand)} {it:TypeInfo} {z:Value} {ps:List Opd} {rows:List (List A)} (hI:Inv G C h) (hT:RepT C ts n a) (hop:o.op = .buildSlice t len parts) (ht:P.underlying t=some (.slice E)) (hi:P.info? E=some it) (hz:it.zero=some z)
  (hzs:z.cells.size=it.size) (hpos:0 < it.size) (hpl:parts.toList.length=len) (hl0:0 < len) (hsm:len*it.size≤1000) (hc:compRow n 0 parts.toList=some ps) (hr:rowsA (evX ts) it.size ps=some rows):OpOk P G C a o (.sl it.size (.tok h.t.length) rows) ⟨h.b,h.t++[(E,it.size,rows.length)]⟩:=by
 have hsl:((Array.range (len*it.size)).map (z.cells[· % z.cells.size]!)).toList.length=parts.toList.length*it.size:=by simp [hpl]
 obtain ⟨out,k1,k2,k3,k4,k5,k6⟩:=rep_rows hT it.size hpos parts.toList ps rows 0 [] _ hc hr (by simp) hsl
 have hlen:rows.length=len:=by rw [k5,hpl]
 simp only [List.nil_append,Array.toArray_toList] at k1
 have hlm:len≤maxLen:=by
  have:len≤len*it.size:=Nat.le_mul_of_pos_right _ hpos
  simp only [maxLen]; omega
 obtain ⟨C',m1,m2,m3,m4,m5,m6,m7,m8⟩:=row_new (w:=C.w) (E:=E) (W:=it.size) (m:=rows.length) (t:=h.t.length) (cap:=len) (cs:=out) (rest:=[]) (hs:=h.t++[(E,it.size,rows.length)]) (.inr rfl) hI (by rw [List.append_nil,k6,hpl]) (by omega) hlm (by rw [k6,hpl,hlen]) (.inl ⟨rfl,rfl⟩)
 refine ⟨C',.slice (some ⟨C.w.heap.size,0,none⟩) len len,.inl ?_,m2,m3,rep_sl.2 ⟨some ⟨C.w.heap.size,0,none⟩,len,by rw [hlen],by omega,repRows_of rows out 0 k4 k3 (RepL.ext m3.ext _ _ k2) (fun j hj=>?_) (fun j v hv=>?_),E,rows.length,m6,Nat.le_refl _,fun _=>⟨by rw [m7],by rw [m7]; exact m8⟩⟩⟩
 ·rw [m1,List.append_nil]
  have hrun:=run_buildSlice (P:=P) C.w t E len (parts.map fun p=>(p.1,a.eval p.2)) out.toArray it z ht hi hz (by omega) (by have:=Nat.mul_pos hl0 hpos; omega) (by rw [Array.toList_map]; exact k1)
  unfold execOp
  simp only [hop,Sem.run_bind]
  erw [hrun]
  rfl
 ·rw [show 0+0*it.size+j=j by omega]
  exact m4 j hj
 ·rw [show 0+0*it.size+j=j by omega]
  exact m5 j v hv
end
end AX
end Go.Proofs.YtdgcbckcameggaaGreatDoor

namespace Go.Proofs.YtdgcbckcameggaaGreatDoor
open Go.RowKit
namespace AX
theorem extract_list (l:List UInt8) (i j:Nat):(⟨l.toArray⟩:ByteArray).extract i j=⟨((l.take j).drop i).toArray⟩:=by
 apply ByteArray.ext
 apply Array.toList_inj.1
 simp [List.drop_take]
section
variable {P:Program} {G:World→Prop} {C:Ctx} {a:Act} {o:Oper} {h:Hp} {ts:Nat→A} {n:Nat}
theorem rep_opdO (hT:RepT C ts n a) {x:Option Operand} {y:Option Opd} (hc:compO n x=some y):(x=none∧y=none)∨∃ u v,x=some u∧y=some v∧Rep C (evX ts v) (a.eval u):=by
 cases x with
 | none=>simp only [compO,Option.some.injEq] at hc; exact .inl ⟨rfl,hc.symm⟩
 | some u =>
  simp only [compO,Option.bind_eq_some_iff,Option.some.injEq] at hc
  obtain ⟨v,h1,rfl⟩:=hc
  exact .inr ⟨u,v,rfl,rfl,rep_opd hT h1⟩
theorem ok_ssl {t:TypeId} {x:Operand} {lo hi:Option Operand} {lo' hi':Option Opd} {u r:A} (hI:Inv G C h) (hT:RepT C ts n a) (hop:o.op = .slice t x lo hi none) (ht:P.underlying t=some .string) (hx:Rep C u (a.eval x)) (hlo:compO n lo=some lo') (hhi:compO n hi=some hi')
  (hs:ssliceA (lo'.map (evX ts)) (hi'.map (evX ts)) u=some r):OpOk P G C a o r h:=by
 cases u with
 | str l =>
  rw [rep_str] at hx
  have hb:∀ (k:IntKind) (i:Int) (y:Nat) (code:BoundsCode),0≤i→i≤(y:Int)→(Instr.sliceBound (.int k i) y code).run P C.w = .ok i.toNat C.w:=fun k i y code h0 h1=>by
   unfold Instr.sliceBound
   simp [asIntOf,h0,h1]
  have hsz:(⟨l.toArray⟩:ByteArray).size=l.length:=size_mk l
  have fin:∀ i j:Nat,(execOp a.eval o).run P C.w = .ok (.value (.string ((⟨l.toArray⟩:ByteArray).extract i j))) C.w→r = .str ((l.take j).drop i)→OpOk P G C a o r h:=fun i j h1 h2=>by
   rw [extract_list] at h1
   subst h2
   exact ok_same hI h1 (rep_str.2 rfl)
  rcases rep_opdO hT hlo with ⟨rfl,rfl⟩ | ⟨ul,vl,rfl,rfl,hl⟩ <;> rcases rep_opdO hT hhi with ⟨rfl,rfl⟩ | ⟨uh,vh,rfl,rfl,hh⟩ <;> simp only [ssliceA,Option.map_none,Option.map_some,Option.getD_none,Option.getD_some] at hs
  ·split at hs
   ·injection hs with hs
    refine fin 0 l.length ?_ (by rw [←hs]; simp)
    unfold execOp
    simp only [hop,Instr.sliceAt,Sem.run_bind,run_underlying ht,Result.andThen_ok,hx,Option.map_none,run_slice_string_all C.w t _ ht,hsz,Sem.run_pure]
   ·cases hs
  ·split at hs
   ·next x1 x2 k a' k' b' e1 e2 =>
    injection e1 with e0 e1; subst e1
    rw [e2,rep_int] at hh
    split at hs
    ·next hc =>
     injection hs with hs
     refine fin 0 b'.toNat ?_ (by rw [←hs]; simp)
     unfold execOp
     simp [hop,Instr.sliceAt,Instr.slice,run_underlying ht,hx,hh,Instr.sliceBounds,hsz,hb _ _ _ _ (show 0≤b' by omega) (show b'≤(l.length:Int) by omega)]
    ·cases hs
   ·cases hs
  ·split at hs
   ·next x1 x2 k a' k' b' e1 e2 =>
    injection e2 with e0 e2; subst e2
    rw [e1,rep_int] at hl
    split at hs
    ·next hc =>
     injection hs with hs
     refine fin a'.toNat l.length ?_ (by rw [←hs]; simp)
     unfold execOp
     simp [hop,Instr.sliceAt,Instr.slice,run_underlying ht,hx,hl,Instr.sliceBounds,hsz,hb _ _ _ _ (show 0≤a' by omega) (show a'≤(l.length:Int) by omega)]
    ·cases hs
   ·cases hs
  ·split at hs
   ·next x1 x2 k a' k' b' e1 e2 =>
    rw [e1,rep_int] at hl
    rw [e2,rep_int] at hh
    split at hs
    ·next hc =>
     injection hs with hs
     refine fin a'.toNat b'.toNat ?_ hs.symm
     unfold execOp
     simp [hop,Instr.sliceAt,Instr.slice,run_underlying ht,hx,hl,hh,Instr.sliceBounds,hsz,hb _ _ _ _ (show 0≤b' by omega) (show b'≤(l.length:Int) by omega),hb _ a' b'.toNat _ (show 0≤a' by omega) (by omega)]
    ·cases hs
   ·cases hs
 | _=>simp [ssliceA] at hs
theorem repRows_drop {W:Nat} {ad:Option Addr}:∀ {rows:List (List A)} {i:Nat} (k:Nat),RepRows C W rows ad i→RepRows C W (rows.drop k) ad (i+k)
 | rows,i,0,r=>r
 | [],i,k+1,r=>by rw [List.drop_nil]; unfold RepRows; trivial
 | x::rows,i,k+1,r=>by
  unfold RepRows at r
  rw [List.drop_succ_cons,show i+(k+1)=i+1+k by omega]
  exact repRows_drop k r.2
theorem repRows_take {W:Nat} {ad:Option Addr}:∀ {rows:List (List A)} {i:Nat} (k:Nat),RepRows C W rows ad i→RepRows C W (rows.take k) ad i
 | rows,i,0,r=>by rw [List.take_zero]; unfold RepRows; trivial
 | [],i,k+1,r=>by rw [List.take_nil]; unfold RepRows; trivial
 | x::rows,i,k+1,r=>by
  unfold RepRows at r
  rw [List.take_succ_cons]
  unfold RepRows
  exact ⟨r.1,repRows_take k r.2⟩
theorem repRows_move {W g off k:Nat}:∀ {rows:List (List A)} {i:Nat},RepRows C W rows (some ⟨g,off,none⟩) (i+k)→RepRows C W rows (some ⟨g,off+k*W,none⟩) i
 | [],i,r=>by unfold RepRows; trivial
 | x::rows,i,r=>by
  unfold RepRows at r
  unfold RepRows
  obtain ⟨⟨g',off',e,h1,h2⟩,h3⟩:=r
  injection e with e; injection e with e1 e2; subst e1; subst e2
  refine ⟨⟨g,off+k*W,rfl,h1,?_⟩,repRows_move (by rw [show i+1+k=i+k+1 by omega]; exact h3)⟩
  rw [Nat.add_mul,Nat.add_comm (i*W),←Nat.add_assoc] at h2
  exact h2
theorem ok_slsl {t e:TypeId} {ie:TypeInfo} {x:Operand} {lo hi:Option Operand} {lo' hi':Option Opd} {u r:A} (hI:Inv G C h) (hT:RepT C ts n a) (hop:o.op = .slice t x lo hi none) (ht:P.underlying t=some (.slice e)) (hie:P.info? e=some ie) (hx:Rep C u (a.eval x)) (hlo:compO n lo=some lo') (hhi:compO n hi=some hi')
  (hs:sslA ie.size (lo'.map (evX ts)) (hi'.map (evX ts)) u=some r):OpOk P G C a o r h:=by
 cases u with
 | sl W' ow rows =>
  obtain ⟨ad,cap,ex,hcap,hrows,_⟩:=rep_sl.1 hx
  have hel:P.elem t=e:=by simp [Program.elem,ht]
  have ht':P.underlying t=some (.slice (P.elem t)):=by rw [hel]; exact ht
  have hsz:(sizeOf (P.elem t)).run P C.w = .ok ie.size C.w:=by rw [hel]; simp [sizeOf,typeInfo,hie]
  have fin:∀ i j:Nat,i≤j→j≤rows.length→(W'=ie.size∨rows.length=0)→(execOp a.eval o).run P C.w = .ok (.value (sliced ad i j cap ie.size)) C.w→r = .sl ie.size .no ((rows.take j).drop i)→OpOk P G C a o r h:=fun i j h0 h1 hw h2 h3=>by
   subst h3
   refine ok_same hI h2 (rep_sl.2 ?_)
   unfold sliced
   have hlen:((rows.take j).drop i).length=j - i:=by rw [List.length_drop,List.length_take]; omega
   refine ⟨_,cap - i,by rw [hlen],by rw [hlen]; omega,?_,trivial⟩
   rcases Nat.eq_zero_or_pos (j - i) with hz | hp
   ·rw [List.eq_nil_of_length_eq_zero (l:=(rows.take j).drop i) (by rw [hlen]; exact hz)]
    unfold RepRows; trivial
   ·rw [if_neg (by omega)]
    have hW:W'=ie.size:=by rcases hw with hw | hw; exact hw; omega
    subst hW
    obtain ⟨g,off,rfl,_,_⟩:=repRows_get hrows 0 (by omega)
    have:=repRows_drop i (repRows_take j hrows)
    show RepRows C ie.size _ (some ((⟨g,off,none⟩:Addr).add (i*ie.size))) 0
    rw [add_off]
    exact repRows_move (i:=0) this
  have hex:(execOp a.eval o).run P C.w=((Instr.slice t (a.eval x) (lo.map a.eval) (hi.map a.eval) none).run P C.w).andThen fun v w => .ok (.value v) w:=by
   unfold execOp
   simp only [hop,run_sliceAt_slice C.w t _ _ _ _ ht',Sem.run_bind,Option.map_none]
   rfl
  rw [ex] at hex
  rcases rep_opdO hT hlo with ⟨rfl,rfl⟩ | ⟨ul,vl,rfl,rfl,hl⟩ <;> rcases rep_opdO hT hhi with ⟨rfl,rfl⟩ | ⟨uh,vh,rfl,rfl,hh⟩ <;> simp only [sslA,Option.map_none,Option.map_some,Option.getD_none,Option.getD_some] at hs hex
  ·split at hs
   ·next hc =>
    injection hs with hs
    refine fin 0 rows.length (by omega) (Nat.le_refl _) hc.2.2.2 ?_ (by rw [←hs]; simp)
    rw [hex,run_slice_all C.w t ad rows.length cap ht',hsz]
    rfl
   ·cases hs
  ·split at hs
   ·next x1 x2 k a' k' b' e1 e2 =>
    injection e1 with e0 e1; subst e1
    rw [e2,rep_int] at hh
    split at hs
    ·next hc =>
     injection hs with hs
     refine fin 0 b'.toNat (by omega) (by omega) hc.2.2.2 ?_ (by rw [←hs]; simp)
     rw [hex,hh,run_slice_h C.w t ad rows.length cap ht' k' b' (by omega) (by omega),hsz]
     rfl
    ·cases hs
   ·cases hs
  ·split at hs
   ·next x1 x2 k a' k' b' e1 e2 =>
    injection e2 with e0 e2; subst e2
    rw [e1,rep_int] at hl
    split at hs
    ·next hc =>
     injection hs with hs
     refine fin a'.toNat rows.length (by omega) (Nat.le_refl _) hc.2.2.2 ?_ (by rw [←hs]; simp)
     rw [hex,hl,run_slice_l C.w t ad rows.length cap ht' k a' (by omega) (by omega),hsz]
     rfl
    ·cases hs
   ·cases hs
  ·split at hs
   ·next x1 x2 k a' k' b' e1 e2 =>
    rw [e1,rep_int] at hl
    rw [e2,rep_int] at hh
    split at hs
    ·next hc =>
     injection hs with hs
     refine fin a'.toNat b'.toNat (by omega) (by omega) hc.2.2.2 ?_ hs.symm
     rw [hex,hl,hh,run_slice_lh C.w t ad rows.length cap ht' k k' a' b' (by omega) (by omega) (by omega),hsz]
     rfl
    ·cases hs
   ·cases hs
 | _=>simp [sslA] at hs
theorem run_eqFields (d:Nat):∀ (fs:List Field) (ks:List Nat) (l m:List A) (cs ds pre pre':List Value) (b:Bool) (w:World),kindsB P fs pre.length=some ks→pre'.length=pre.length→RepL C l cs→RepL C m ds→eqCells ks l m=some b →
  (Op.eqFields (d+1) (pre++cs).toArray (pre'++ds).toArray fs).run P w = .ok b w
 | [],ks,l,m,cs,ds,pre,pre',b,w,hf,hp,hl,hm,he=>by
  simp only [kindsB,Option.some.injEq] at hf; subst hf
  cases l <;> cases m <;> simp only [eqCells,Option.some.injEq,reduceCtorEq] at he
  subst he
  simp [Op.eqFields]
 | f::fs,ks,l,m,cs,ds,pre,pre',b,w,hf,hp,hl,hm,he=>by
  simp only [kindsB] at hf
  split at hf
  ·next hcond =>
   obtain ⟨ho,hn⟩:=hcond
   have key:∃ k ks',ks=k::ks'∧kindsB P fs (pre.length+1)=some ks'∧((k=0∧∃ q,P.underlying f.type=some (.int q))∨(k=1∧P.underlying f.type=some .string)∨(k=2∧P.underlying f.type=some .bool)):=by
    split at hf <;> simp only [Option.bind_eq_some_iff,Option.some.injEq,reduceCtorEq] at hf
    ·next q hu=>obtain ⟨l,h1,rfl⟩:=hf; exact ⟨0,l,rfl,h1,.inl ⟨rfl,q,hu⟩⟩
    ·next hu=>obtain ⟨l,h1,rfl⟩:=hf; exact ⟨1,l,rfl,h1,.inr (.inl ⟨rfl,hu⟩)⟩
    ·next hu=>obtain ⟨l,h1,rfl⟩:=hf; exact ⟨2,l,rfl,h1,.inr (.inr ⟨rfl,hu⟩)⟩
   obtain ⟨k,ks',rfl,hrest,hty⟩:=key
   have hxy:∃ x l' y m',l=x::l'∧m=y::m':=by
    cases l with
    | nil=>rcases hty with ⟨rfl,_⟩ | ⟨rfl,_⟩ | ⟨rfl,_⟩ <;> simp [eqCells] at he
    | cons x l =>
     cases m with
     | nil=>rcases hty with ⟨rfl,_⟩ | ⟨rfl,_⟩ | ⟨rfl,_⟩ <;> cases x <;> simp [eqCells] at he
     | cons y m=>exact ⟨x,l,y,m,rfl,rfl⟩
   obtain ⟨x,l',y,m',rfl,rfl⟩:=hxy
   obtain ⟨c,cs',rfl,h1,h2⟩:=repL_cons.1 hl
   obtain ⟨e,ds',rfl,k1,k2⟩:=repL_cons.1 hm
   have ih:=fun b' hb=>run_eqFields d fs ks' l' m' cs' ds' (pre++[c]) (pre'++[e]) b' w (by rw [List.length_append]; exact hrest) (by simp [hp]) h2 k2 hb
   rw [List.append_assoc,List.append_assoc] at ih
   simp only [List.singleton_append] at ih
   have g1:(pre++c::cs').toArray[f.offset]?=some c:=by simp [ho]
   have g2:(pre'++e::ds').toArray[f.offset]?=some e:=by simp [ho,←hp]
   have hagg:∀ w,(isAgg f.type).run P w = .ok false w:=fun w=>by
    unfold isAgg
    rcases hty with ⟨_,q,hu⟩ | ⟨_,hu⟩ | ⟨_,hu⟩ <;> simp [run_underlying hu]
   have hp1:∀ w,(part f.type (pre++c::cs').toArray f.offset).run P w = .ok c w:=fun w=>by
    unfold part
    simp only [Sem.run_bind,hagg,Result.andThen_ok,Bool.false_eq_true,if_false,g1,Sem.run_pure]
   have hp2:∀ w,(part f.type (pre'++e::ds').toArray f.offset).run P w = .ok e w:=fun w=>by
    unfold part
    simp only [Sem.run_bind,hagg,Result.andThen_ok,Bool.false_eq_true,if_false,g2,Sem.run_pure]
   have step:∀ q b',(∀ w,(Op.equalIn (d+1) f.type c e).run P w = .ok q w)→eqCells ks' l' m'=some b'→(q&&b')=b→(Op.eqFields (d+1) (pre++c::cs').toArray (pre'++e::ds').toArray (f::fs)).run P w = .ok b w:=fun q b' hq hb hqb=>by
    rw [Op.eqFields,if_pos hn]
    simp only [Sem.run_bind,hp1,hp2,hq,Result.andThen_ok]
    cases q
    ·subst hqb; simp
    ·simp only [Bool.not_true,Bool.false_eq_true,if_false]
     rw [ih b' hb,←hqb,Bool.true_and]
   rcases hty with ⟨rfl,q,hu⟩ | ⟨rfl,hu⟩ | ⟨rfl,hu⟩ <;> cases x <;> cases y <;> simp only [eqCells,reduceCtorEq] at he
   ·next k p k' p' =>
    rw [rep_int] at h1 k1; subst h1; subst k1
    split at he
    ·next hk =>
     subst hk
     simp only [Option.map_eq_some_iff] at he
     obtain ⟨b',hb,hqb⟩:=he
     exact step _ b' (fun w=>run_equalIn_int w d f.type k q p p' hu) hb hqb
    ·cases he
   ·next p p' =>
    rw [rep_str] at h1 k1; subst h1; subst k1
    simp only [Option.map_eq_some_iff] at he
    obtain ⟨b',hb,hqb⟩:=he
    refine step _ b' (fun w=>?_) hb hqb
    rw [run_equalIn_string w d f.type _ _ hu,ByteArray.toList_eq,ByteArray.toList_eq]
   ·next p p' =>
    rw [rep_bool] at h1 k1; subst h1; subst k1
    simp only [Option.map_eq_some_iff] at he
    obtain ⟨b',hb,hqb⟩:=he
    exact step _ b' (fun w=>run_equalIn_bool w d f.type p p' hu) hb hqb
  ·cases hf
theorem ok_eq {op:BinOp} {t yt:TypeId} {x y:Operand} {u v:A} {b:Bool} {k:Nat} {ks:List Nat} (hI:Inv G C h) (hop:o.op = .binOp op t x y yt) (hn:op = .eql∨op = .neq) (hx:Rep C u (a.eval x)) (hy:Rep C v (a.eval y))
  (ht:(k=0∧P.underlying t=some .bool)∨(k=1∧∃ e,P.underlying t=some (.pointer e))∨(k=3∧∃ q e,P.underlying t=some (.map q e))∨(k=2∧∃ fs,P.underlying t=some (.struct fs)∧P.stoodInHeld t=false∧P.eqGuardType P.depth t=false∧kindsB P fs.toList 0=some ks)) (hb:eqA k ks u v=some b):OpOk P G C a o (.bool (if (op == .neq)=true then !b else b)) h:=by
 have key:(Op.equal t (a.eval x) (a.eval y)).run P C.w = .ok b C.w∧(eqGuard op t x y (a.eval x) (a.eval y)).run P C.w = .ok () C.w∧(binOp op t (a.eval x) (a.eval y)=match op with | .eql=>do pure (.bool (←Op.equal t (a.eval x) (a.eval y))) | _=>do pure (.bool (!(←Op.equal t (a.eval x) (a.eval y))))):=by
  rcases ht with ⟨rfl,ht⟩ | ⟨rfl,e,ht⟩ | ⟨rfl,q,e,ht⟩ | ⟨rfl,fs,ht,hst,hg,hk⟩
  ·cases u <;> cases v <;> simp only [eqA,reduceCtorEq,Option.some.injEq] at hb
   next p q =>
   subst hb
   rw [rep_bool] at hx hy; rw [hx,hy]
   refine ⟨run_equalIn_bool C.w 9999 t p q ht,by simp [eqGuard],by rcases hn with rfl | rfl <;> rfl⟩
  ·cases u <;> cases v <;> simp only [eqA,reduceCtorEq,Option.some.injEq] at hb <;> subst hb
   all_goals
    first
     | (rw [rep_nilp] at hx hy; rw [hx,hy])
     | (rw [rep_nilp] at hx; have hy:=(rep_ptr.1 hy).1; rw [hx,hy])
     | (rw [rep_nilp] at hy; have hx:=(rep_ptr.1 hx).1; rw [hx,hy])
     | (rw [rep_nilp] at hx; obtain ⟨g,off,hy,_⟩:=rep_vptr.1 hy; rw [hx,hy])
     | (rw [rep_nilp] at hy; obtain ⟨g,off,hx,_⟩:=rep_vptr.1 hx; rw [hx,hy])
    refine ⟨?_,by simp [eqGuard],by rcases hn with rfl | rfl <;> rfl⟩
    obtain ⟨d,hd⟩:∃ d:Nat,10000=d+1:=⟨9999,rfl⟩
    unfold Op.equal Op.maxDepth
    rw [hd]
    simp [Op.equalIn,run_underlying ht]
  ·cases u <;> cases v <;> simp only [eqA,reduceCtorEq,Option.some.injEq] at hb <;> subst hb
   all_goals
    first
     | (rw [rep_nilm] at hx hy; rw [hx,hy])
     | (rw [rep_nilm] at hx; have hy:=(rep_mp.1 hy).1; rw [hx,hy])
     | (rw [rep_nilm] at hy; have hx:=(rep_mp.1 hx).1; rw [hx,hy])
    refine ⟨?_,by simp [eqGuard],by rcases hn with rfl | rfl <;> rfl⟩
    obtain ⟨d,hd⟩:∃ d:Nat,10000=d+1:=⟨9999,rfl⟩
    unfold Op.equal Op.maxDepth
    rw [hd]
    simp [Op.equalIn,run_underlying ht]
  ·cases u <;> cases v <;> simp only [eqA,reduceCtorEq] at hb
   next l m =>
   obtain ⟨cs,hx',hl⟩:=rep_agg.1 hx
   obtain ⟨ds,hy',hm⟩:=rep_agg.1 hy
   rw [hx',hy']
   have hfs:P.fieldsOf t=fs:=by unfold Program.fieldsOf; rw [ht]
   refine ⟨?_,run_eqGuard_agg C.w op t x y _ _ hg,by rcases hn with rfl | rfl <;> rfl⟩
   unfold Op.equal Op.maxDepth
   rw [run_equalIn_agg C.w 9999 t _ _ (by rw [hfs]; exact ht) hst,hfs]
   exact run_eqFields (C:=C) 9998 fs.toList ks l m cs ds [] [] b C.w hk rfl hl hm hb
 obtain ⟨h1,h2,h3⟩:=key
 refine ok_same hI ?_ (rep_bool.2 rfl)
 unfold execOp
 simp only [hop,Sem.run_bind,h2,Result.andThen_ok,h3]
 rcases hn with rfl | rfl <;> simp [h1]
end
end AX
end Go.Proofs.YtdgcbckcameggaaGreatDoor
