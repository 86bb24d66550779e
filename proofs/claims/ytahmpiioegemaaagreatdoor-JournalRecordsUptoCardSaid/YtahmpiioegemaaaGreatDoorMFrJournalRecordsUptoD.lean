/- Part of what the proof needs. -/
import Derived.Test.YtahmpiioegemaaaGreatDoorMFrJournalRecordsUptoC
import Derived.Orders
import Derived.IntWalk
set_option maxHeartbeats 4000000
set_option linter.unusedSimpArgs false
set_option linter.unusedVariables false
set_option linter.unnecessarySimpa false
namespace Go.Proofs.YtahmpiioegemaaaGreatDoor
open Go.RowKit
namespace AX
section
variable {P:Program} {G:World→Prop}
theorem guardP_mono {ts:Ts} {g:Option (Nat×Bool)} {p p' q q':Prop} (hp:p→p') (hq:q→q') (h:guardP ts g p q):guardP ts g p' q':=by
 unfold guardP at *
 split at h
 ·exact hp h
 ·split at h
  ·exact ⟨fun e=>hp (h.1 e),fun e=>hq (h.2 e)⟩
  ·exact hq h
  ·exact h.elim
theorem optP_mono {r:Option (A×Hp)} {K K':A→Hp→Prop} (hk:∀ v h,K v h→K' v h) (h:optP r K):optP r K':=by
 cases r with
 | none=>exact h
 | some r=>exact hk _ _ h
theorem aopP_mono {ev:Opd→A} {h:Hp} {K K':A→Hp→Prop} (hk:∀ v h,K v h→K' v h) {o:AOp} (hp:aopP P G ev h K o):aopP P G ev h K' o:=by
 cases o with
 | call f args=>exact ACall.mono hp hk
 | callv x args =>
  obtain ⟨f,caps,h1,h2,h3⟩:=hp
  exact ⟨f,caps,h1,h2,ACall.mono h3 hk⟩
 | _=>simp only [aopP] at hp ⊢; exact optP_mono hk hp
end
def TD (ops:List AOper) (vals:Nat→A) (ts:Ts) (D:Nat→Bool):Ts:=fun x =>
 match ops.findIdx? (fun o=>o.dst == some x) with
 | some j=>if D j=true then vals j else ts x
 | none=>ts x
def Closed (ops:List AOper) (D:Nat→Bool):Prop:=∀ j o,ops[j]?=some o→D j=true→∀ k∈o.after,D k=true
def adraw (P:Program) (G:World→Prop) (ops:List AOper) (K:Ts→Hp→Prop) (ts:Ts) (h:Hp):Prop:=
 ∃ I:(Nat→Bool)→Ts→Hp→Prop,I (fun _=>false) ts h ∧
  (∀ D i o ts h,I D ts h→ops[i]?=some o→D i=false→Closed ops D→(∀ j∈o.after,D j=true) →
   guardP ts o.guard (aopP P G (evX ts) h (fun v h'=>I (fun j=>j == i||D j) (put ts o.dst v) h') o.op) (I (fun j=>j == i||D j) (put ts o.dst (.tup [])) h)) ∧
  ∀ ts h,I (fun j=>decide (j < ops.length)) ts h→K ts h
def edgesB:Nat→List AOper→Bool
 | _,[]=>true
 | i,o::os=>o.after.all (fun j=>decide (j < i))&&(match o.dst with | none=>true | some d=>os.all fun o'=>o'.dst != some d)&&edgesB (i+1) os
inductive AExit.Is:AExit→Exit→Prop
 | normal:AExit.Is .normal .normal
 | exit (id:Nat):AExit.Is (.exit id) (.exit id)
 | ret:AExit.Is .ret .ret
def thenA (next:Ts→Hp→Prop) (Q:AExit→Ts→Hp→Prop):AExit→Ts→Hp→Prop
 | .normal=>next
 | e=>Q e
def blkA (id:Nat) (Q:AExit→Ts→Hp→Prop):AExit→Ts→Hp→Prop
 | .exit id'=>fun ts h=>if id'=id then Q .normal ts h else Q (.exit id') ts h
 | e=>Q e
def aloop (body:(AExit→Ts→Hp→Prop)→Ts→Hp→Prop) (Q:AExit→Ts→Hp→Prop):Nat→Ts→Hp→Prop
 | 0=>fun _ _=>False
 | k+1=>body (thenA (aloop body Q k) Q)
def Post (G:World→Prop) (C0:Ctx) (n:Nat) (Q:AExit→Ts→Hp→Prop) (e:Exit) (a:Act) (w:World):Prop:=
 ∃ (C:Ctx) (ts:Ts) (h:Hp) (ae:AExit),ae.Is e∧C.w=w∧Inv G C h∧Step C0 C∧RepT C ts n a∧a.defers=[]∧Q ae ts h
def awp (P:Program) (G:World→Prop):ACode→(AExit→Ts→Hp→Prop)→Ts→Hp→Prop
 | .skip,Q=>Q .normal
 | .reg false ops,Q=>aops P G ops (Q .normal)
 | .reg true ops,Q=>fun ts h=>edgesB 0 ops=true∧adraw P G ops (Q .normal) ts h
 | .seq x y,Q=>awp P G x (thenA (awp P G y Q) Q)
 | .cond c x y,Q=>fun ts h=>condP (evX ts c) (awp P G x Q ts h) (awp P G y Q ts h)
 | .block id c,Q=>awp P G c (blkA id Q)
 | .loop c,Q=>fun ts h=>∃ k,aloop (awp P G c) Q k ts h
 | .exit id,Q=>Q (.exit id)
 | .ret,Q=>Q .ret
 | .prim n c,Q=>fun ts h=>∀ (C:Ctx) (a:Act),Inv G C h→RepT C ts n a→a.defers=[]→c.wp P (Post G C n Q) a C.w
section
variable {P:Program} {G:World→Prop} {n:Nat} {C0:Ctx}
theorem guard_cases {C:Ctx} {ts:Ts} {a:Act} {o:Oper} {ops:Array Oper} {g:Option (Nat×Bool)} {p q:Prop} (hT:RepT C ts n a) (hg:compGuard n ops o.guard=some g) (hp:guardP ts g p q) :
  (Region.wanted o (yielded ops a.tmps)=true∧p)∨(Region.wanted o (yielded ops a.tmps)=false∧q):=by
 cases hog:o.guard with
 | none =>
  rw [hog] at hg
  simp only [compGuard,Option.some.injEq] at hg
  subst hg
  exact .inl ⟨by simp [Region.wanted,hog],hp⟩
 | some jb =>
  obtain ⟨j,b⟩:=jb
  rw [hog] at hg
  simp only [compGuard,Option.bind_eq_some_iff,Option.ite_none_right_eq_some,Option.some.injEq] at hg
  obtain ⟨t,⟨oj,h1,h2⟩,h3,rfl⟩:=hg
  have hr:=hT.rep t h3
  have hlt:t < a.tmps.size:=by rw [hT.size]; exact h3
  have hy:yielded ops a.tmps j=match a.tmps.getD t undef with | .bool b=>some b | _=>none:=by
   unfold yielded
   rw [h1,Option.bind_some,h2,Option.bind_some]
   rw [Array.getElem?_eq_getElem hlt]
   rw [show a.tmps.getD t undef=a.tmps[t] by rw [Array.getD_eq_getD_getElem?,Array.getElem?_eq_getElem hlt]; rfl]
   cases a.tmps[t] <;> rfl
  simp only [guardP] at hp
  unfold Region.wanted
  rw [hog]
  simp only [hy]
  split at hp
  ·next c e =>
   rw [e,rep_bool] at hr
   rw [hr]
   by_cases hcb:c=b
   ·exact .inl ⟨by simp [hcb],hp.1 hcb⟩
   ·exact .inr ⟨by simp [hcb],hp.2 (by cases c <;> cases b <;> simp_all)⟩
  ·next e =>
   rw [e] at hr
   obtain ⟨cs,h4,h5⟩:=rep_tup.1 hr
   rw [repL_nil] at h5; subst h5
   rw [h4]
   exact .inr ⟨by simp,hp⟩
  ·exact hp.elim
theorem rep_undef {C:Ctx}:Rep C (.tup []) undef:=rep_tup.2 ⟨[],rfl,repL_nil.2 rfl⟩
theorem aops_sound {ops:Array Oper} {draw:Bool} {K:Ts→Hp→Prop} {Q:Exit→Act→World→Prop} (hK:∀ (C:Ctx) (ts:Ts) (h:Hp) (a:Act),Inv G C h→Step C0 C→RepT C ts n a→a.defers=[]→K ts h→Q .normal a C.w) :
  ∀ (os:List Oper) (l:List AOper),compOpers P n draw ops os=some l→∀ (C:Ctx) (ts:Ts) (h:Hp) (a:Act),Inv G C h→Step C0 C→RepT C ts n a→a.defers=[]→aops P G l K ts h→wpList P ops Q os a C.w
 | [],l,hc,C,ts,h,a,hI,hS,hT,hd,hk=>by
  simp only [compOpers,Option.some.injEq] at hc; subst hc
  exact hK C ts h a hI hS hT hd hk
 | o::os,l,hc,C,ts,h,a,hI,hS,hT,hd,hk=>by
  simp only [compOpers,Option.ite_none_right_eq_some,Option.bind_eq_some_iff,Option.some.injEq] at hc
  obtain ⟨hdst,ao,h1,g,h2,l',h3,rfl⟩:=hc
  simp only [aops] at hk
  have ih:=aops_sound hK os l' h3
  unfold wpList
  rcases guard_cases hT h2 hk with ⟨hw,hk⟩ | ⟨hw,hk⟩
  ·rw [if_pos hw]
   refine .inl (aop_wp' hI hT h1 hk fun C' h' v cv k1 k2 k3 k4=>?_)
   exact ih C' _ h' _ k1 (hS.trans k2) ((hT.ext k2.ext).put hdst k3) (by rw [put_defers]; exact hd) k4
  ·rw [if_neg (by simp [hw])]
   exact ih C _ h _ hI hS (hT.put hdst rep_undef) (by rw [put_defers]; exact hd) hk
theorem edgesB_after:∀ {ops:List AOper} {k:Nat},edgesB k ops=true→∀ i o,ops[i]?=some o→∀ j∈o.after,j < k+i
 | [],k,h,i,o,hi=>by simp at hi
 | x::ops,k,h,0,o,hi=>by
  simp only [edgesB,Bool.and_eq_true,List.all_eq_true,decide_eq_true_eq] at h
  simp at hi; subst hi
  intro j hj
  simpa using h.1.1 j hj
 | x::ops,k,h,i+1,o,hi=>by
  simp only [edgesB,Bool.and_eq_true] at h
  intro j hj
  have:=edgesB_after h.2 i o (by simpa using hi) j hj
  omega
theorem edgesB_dst:∀ {ops:List AOper} {k:Nat},edgesB k ops=true→∀ (i:Nat) (o:AOper) (d:Nat),ops[i]?=some o→o.dst=some d→ops.findIdx? (fun o=>o.dst == some d)=some i
 | [],k,h,i,o,d,hi,hd=>by simp at hi
 | x::ops,k,h,0,o,d,hi,hd=>by
  simp at hi; subst hi
  simp [List.findIdx?_cons,hd]
 | x::ops,k,h,i+1,o,d,hi,hd=>by
  simp only [edgesB,Bool.and_eq_true] at h
  have hi':ops[i]?=some o:=by simpa using hi
  have:=edgesB_dst h.2 i o d hi' hd
  rw [List.findIdx?_cons]
  have hx:(x.dst == some d)=false:=by
   cases hxd:x.dst with
   | none=>rfl
   | some e =>
    have h2:=h.1.2
    rw [hxd] at h2
    simp only [List.all_eq_true,bne_iff_ne,ne_eq] at h2
    have:=h2 o (List.mem_of_getElem? hi')
    rw [hd] at this
    simp only [Option.some.injEq] at this
    simp only [beq_eq_false_iff_ne,ne_eq,Option.some.injEq]
    exact fun e'=>this e'.symm
  rw [hx,this]
  simp
theorem compOpers_get {draw:Bool} {ops:Array Oper}:∀ {os:List Oper} {l:List AOper},compOpers P n draw ops os=some l→l.length=os.length∧∀ (i:Nat) (o:Oper),os[i]?=some o→∃ ao g,l[i]?=some ⟨o.dst,ao,g,if draw then afterOf o else []⟩∧compDst n o.dst=true∧compOp' P n ops.toList o=some ao∧compGuard n ops o.guard=some g
 | [],l,hc=>by
  simp only [compOpers,Option.some.injEq] at hc; subst hc
  exact ⟨rfl,fun i o hi=>by simp at hi⟩
 | x::os,l,hc=>by
  simp only [compOpers,Option.ite_none_right_eq_some,Option.bind_eq_some_iff,Option.some.injEq] at hc
  obtain ⟨hdst,ao,h1,g,h2,l',h3,rfl⟩:=hc
  obtain ⟨ih1,ih2⟩:=compOpers_get h3
  refine ⟨by simp [ih1],fun i o hi=>?_⟩
  cases i with
  | zero =>
   simp at hi; subst hi
   exact ⟨ao,g,rfl,hdst,h1,h2⟩
  | succ i=>exact ih2 i o (by simpa using hi)
theorem afterOf_mem {o:Oper} {j:Nat}:j∈afterOf o↔∃ e∈o.after,Region.binds .any e=true∧e.on=j:=by
 unfold afterOf
 rw [List.mem_filterMap]
 constructor
 ·rintro ⟨e,h1,h2⟩
  split at h2
  ·next hb=>injection h2 with h2; exact ⟨e,by simpa using h1,hb,h2⟩
  ·cases h2
 ·rintro ⟨e,h1,h2,h3⟩
  exact ⟨e,by simpa using h1,by rw [if_pos h2,h3]⟩
theorem put_TD {l:List AOper} (he:edgesB 0 l=true) {vals:Nat→A} {ts:Ts} {D:Nat→Bool} {i:Nat} {o:AOper} (k1:l[i]?=some o) :
  put (TD l vals ts D) o.dst (vals i)=TD l vals ts (fun j=>j == i||D j):=by
  funext x
  cases hd':o.dst with
  | none =>
   show TD l vals ts _ x=_
   unfold TD
   cases hf:l.findIdx? (fun o=>o.dst == some x) with
   | none=>rfl
   | some j =>
    have hji:j≠i:=fun e=>by
     subst e
     obtain ⟨hj,hj2,_⟩:=List.findIdx?_eq_some_iff_getElem.1 hf
     rw [List.getElem?_eq_getElem hj] at k1
     injection k1 with k1
     rw [k1,hd'] at hj2
     simp at hj2
    simp [hji]
  | some d =>
   show (if x=d then vals i else TD l vals ts _ x)=_
   have hfd:=edgesB_dst he i _ d k1 hd'
   by_cases e:x=d
   ·subst e
    rw [if_pos rfl]
    unfold TD
    rw [hfd]
    simp
   ·rw [if_neg e]
    unfold TD
    cases hf:l.findIdx? (fun o=>o.dst == some x) with
    | none=>rfl
    | some j =>
     have hji:j≠i:=fun e'=>by
      subst e'
      obtain ⟨hj,hj2,_⟩:=List.findIdx?_eq_some_iff_getElem.1 hf
      rw [List.getElem?_eq_getElem hj] at k1
      injection k1 with k1
      rw [k1,hd'] at hj2
      simp at hj2
      exact e hj2.symm
     simp [hji]
theorem adraw_of {P:Program} {G:World→Prop} {ops:List AOper} {K:Ts→Hp→Prop} {ts:Ts} {h:Hp} (he:edgesB 0 ops=true) (vals:Nat→A) (HD:(Nat→Bool)→Hp) (h0:HD (fun _=>false)=h)
  (hop:∀ D i o,ops[i]?=some o→D i=false→Closed ops D→(∀ j∈o.after,D j=true) →
   guardP (TD ops vals ts D) o.guard (aopP P G (evX (TD ops vals ts D)) (HD D) (fun v h'=>v=vals i∧h'=HD (fun j=>j == i||D j)) o.op) (vals i = .tup []∧HD (fun j=>j == i||D j)=HD D))
  (hfin:K (TD ops vals ts fun j=>decide (j < ops.length)) (HD fun j=>decide (j < ops.length))):adraw P G ops K ts h:=by
 refine ⟨fun D ts' h'=>ts'=TD ops vals ts D∧h'=HD D,⟨?_,h0.symm⟩,?_,?_⟩
 ·funext x
  unfold TD
  split <;> simp
 ·rintro D i o ts' h' ⟨rfl,rfl⟩ k1 hDi hcl haf
  refine guardP_mono (fun hq=>aopP_mono (fun v h' hv=>?_) hq) (fun hq=>?_) (hop D i o k1 hDi hcl haf)
  ·obtain ⟨rfl,rfl⟩:=hv
   exact ⟨put_TD he k1,rfl⟩
  ·refine ⟨?_,hq.2.symm⟩
   rw [←put_TD he k1,hq.1]
 ·rintro ts' h' ⟨rfl,rfl⟩
  exact hfin
theorem adraw_sound {ops:Array Oper} {l:List AOper} {K:Ts→Hp→Prop} {Q:Exit→Act→World→Prop} (hK:∀ (C:Ctx) (ts:Ts) (h:Hp) (a:Act),Inv G C h→Step C0 C→RepT C ts n a→a.defers=[]→K ts h→Q .normal a C.w)
  (hc:compOpers P n true ops ops.toList=some l) (he:edgesB 0 l=true) (I:(Nat→Bool)→Ts→Hp→Prop)
  (hop:∀ D i o ts h,I D ts h→l[i]?=some o→D i=false→Closed l D→(∀ j∈o.after,D j=true) →
   guardP ts o.guard (aopP P G (evX ts) h (fun v h'=>I (fun j=>j == i||D j) (put ts o.dst v) h') o.op) (I (fun j=>j == i||D j) (put ts o.dst (.tup [])) h))
  (hfin:∀ ts h,I (fun j=>decide (j < l.length)) ts h→K ts h) :
  ∀ (fuel:Nat) (listed:Array Bool) (C:Ctx) (a:Act) (ts:Ts) (h:Hp),listed.size=ops.size→Closed l (fun j=>listed.getD j false)→(listed.toList.filter (· == false)).length≤fuel →
   I (fun j=>listed.getD j false) ts h→Inv G C h→Step C0 C→RepT C ts n a→a.defers=[]→wpAny P .any ops Q fuel listed a C.w:=by
 obtain ⟨hlen,hget⟩:=compOpers_get hc
 have hlen':l.length=ops.size:=by rw [hlen]; simp
 have hdone:∀ (listed:Array Bool) (C:Ctx) (a:Act) (ts:Ts) (h:Hp),listed.size=ops.size→I (fun j=>listed.getD j false) ts h→Inv G C h→Step C0 C→RepT C ts n a→a.defers=[]→Region.ready .any ops listed=[]→Q .normal a C.w:=by
  intro listed C a ts h hsz hi0 hI hS hT hd hr
  have hall:∀ j,j < ops.size→listed.getD j false=true:=by
   intro j
   induction j using Nat.strongRecOn with
   | _ j ih =>
    intro hj
    cases hlj:listed.getD j false with
    | true=>rfl
    | false =>
     exfalso
     have hoj:ops[j]?=some ops[j]:=Array.getElem?_eq_getElem hj
     obtain ⟨ao,g,h1,h2,h3,h4⟩:=hget j ops[j] (by simpa using hoj)
     have:j∈Region.ready .any ops listed:=by
      refine mem_ready.2 ⟨?_,ops[j],hoj,fun e hem hb=>?_⟩
      ·rw [Array.getD_eq_getD_getElem?] at hlj ⊢
       rw [Array.getElem?_eq_getElem (by omega)] at hlj ⊢
       exact hlj
      ·have hlt:=edgesB_after he j _ h1 e.on (by simp only [if_true]; exact afterOf_mem.2 ⟨e,hem,hb,rfl⟩)
       exact ih e.on (by omega) (by omega)
     rw [hr] at this
     simp at this
  have hD:(fun j=>listed.getD j false)=fun j=>decide (j < l.length):=by
   funext j
   by_cases hj:j < ops.size
   ·rw [hall j hj]; simp [hlen',hj]
   ·rw [Array.getD_eq_getD_getElem?,Array.getElem?_eq_none (by omega)]; simp [hlen',hj]
  rw [hD] at hi0
  exact hK C _ _ a hI hS hT hd (hfin _ _ hi0)
 intro fuel
 induction fuel with
 | zero =>
  intro listed C a ts h hsz hcl hf hi0 hI hS hT hd
  have hnil:Region.ready .any ops listed=[]:=by
   cases hr:Region.ready .any ops listed with
   | nil=>rfl
   | cons i rs =>
    exfalso
    obtain ⟨h1,o,h2,_⟩:=mem_ready.1 (by rw [hr]; simp:i∈Region.ready .any ops listed)
    have hi:i < listed.size:=by rw [hsz]; exact (Array.getElem?_eq_some_iff.1 h2).1
    have:listed[i]=false:=by
     rw [Array.getD_eq_getD_getElem?,Array.getElem?_eq_getElem hi] at h1
     exact h1
    have hm:listed[i]∈listed.toList.filter (· == false):=List.mem_filter.2 ⟨by simp,by rw [this]; rfl⟩
    have:=List.length_pos_of_mem hm
    omega
  exact ⟨hnil,hdone listed C a ts h hsz hi0 hI hS hT hd hnil⟩
 | succ fuel ih =>
  intro listed C a ts h hsz hcl hf hi0 hI hS hT hd
  refine ⟨fun hr=>hdone listed C a ts h hsz hi0 hI hS hT hd hr,fun i hi=>?_⟩
  obtain ⟨h1,o,h2,h3⟩:=mem_ready.1 hi
  have hilt:i < ops.size:=(Array.getElem?_eq_some_iff.1 h2).1
  have hil:i < listed.size:=by omega
  have hif:listed[i]=false:=by
   rw [Array.getD_eq_getD_getElem?,Array.getElem?_eq_getElem hil] at h1
   exact h1
  have hDi:listed.getD i false=false:=by rw [Array.getD_eq_getD_getElem?,Array.getElem?_eq_getElem hil]; exact hif
  obtain ⟨ao,g,k1,k2,k3,k4⟩:=hget i o (by simpa using h2)
  have hset:(fun j=>(listed.setIfInBounds i true).getD j false)=fun j=>j == i||listed.getD j false:=by
   funext j
   by_cases e:j=i
   ·subst e; simp [hil]
   ·rw [getD_set_ne false (fun h=>e h.symm)]; simp [e]
  have hcl':Closed l (fun j=>(listed.setIfInBounds i true).getD j false):=by
   rw [hset]
   intro j oj hj hDj k hk
   simp only [Bool.or_eq_true,beq_iff_eq] at hDj ⊢
   rcases hDj with rfl | hDj
   ·rw [k1] at hj; injection hj with hj; subst hj
    simp only [if_true] at hk
    obtain ⟨e,he1,he2,rfl⟩:=afterOf_mem.1 hk
    exact .inr (h3 e he1 he2)
   ·exact .inr (hcl j oj hj hDj k hk)
  have hf':((listed.setIfInBounds i true).toList.filter (· == false)).length≤fuel:=by
   rw [Array.toList_setIfInBounds]
   have hsplit:listed.toList=listed.toList.take i++false::listed.toList.drop (i+1):=by
    have:listed.toList[i]'(by simpa using hil)=false:=by simpa using hif
    conv=>lhs; rw [←List.take_append_drop i listed.toList,List.drop_eq_getElem_cons (by simpa using hil),this]
   have h4:(listed.toList.filter (· == false)).length=((listed.toList.take i).filter (· == false)).length+(((listed.toList.drop (i+1)).filter (· == false)).length+1):=by
    conv=>lhs; rw [hsplit]
    simp [List.filter_append]
   rw [List.set_eq_take_append_cons_drop,if_pos (by simpa using hil)]
   simp only [List.filter_append,List.length_append]
   rw [List.filter_cons_of_neg (by simp)]
   omega
  have hgd:=hop (fun j=>listed.getD j false) i _ ts h hi0 k1 hDi hcl (fun j hj=>by
   simp only [if_true] at hj
   obtain ⟨e,he1,he2,rfl⟩:=afterOf_mem.1 hj
   exact h3 e he1 he2)
  unfold wpOp
  rw [h2]
  simp only
  rcases guard_cases hT k4 hgd with ⟨hw,hk⟩ | ⟨hw,hk⟩
  ·rw [if_pos hw]
   refine .inl (aop_wp' hI hT k3 hk fun C' h' v cv q1 q2 q3 q4=>?_)
   refine ih _ C' _ (put ts o.dst v) h' (by simpa using hsz) hcl' hf' (by rw [hset]; exact q4) q1 (hS.trans q2) ?_ (by rw [put_defers]; exact hd)
   exact (hT.ext q2.ext).put k2 q3
  ·rw [if_neg (by simp [hw])]
   refine ih _ C _ (put ts o.dst (.tup [])) h (by simpa using hsz) hcl' hf' (by rw [hset]; exact hk) hI hS ?_ (by rw [put_defers]; exact hd)
   exact hT.put k2 rep_undef
theorem awp_sound (hm:P.follows .mixedOrders=true):∀ (c:Code) (ac:ACode),comp P n c=some ac→∀ (Q:AExit→Ts→Hp→Prop) (ts:Ts) (h:Hp),awp P G ac Q ts h→∀ (C:Ctx) (a:Act),Inv G C h→Step C0 C→RepT C ts n a→a.defers=[]→c.wp P (Post G C0 n Q) a C.w:=by
 intro c
 induction c with
 | skip =>
  intro ac hc Q ts h hw C a hI hS hT hd
  simp only [comp,Option.some.injEq] at hc; subst hc
  exact wp_skip ⟨C,ts,h,.normal,.normal,rfl,hI,hS,hT,hd,hw⟩
 | region id ops draw =>
  intro ac hc Q ts h hw C a hI hS hT hd
  simp only [comp] at hc
  split at hc
  rotate_left
  ·injection hc with hc; subst hc
   refine wp_mono (hw C a hI hT hd) ?_
   rintro e a' w ⟨C1,ts1,hp1,ae,hae,rfl,i1,s1,t1,d1,q1⟩
   exact ⟨C1,ts1,hp1,ae,hae,rfl,i1,hS.trans s1,t1,d1,q1⟩
  next l h1 =>
  injection hc with hc; subst hc
  have hK:∀ (C:Ctx) (ts:Ts) (h:Hp) (a:Act),Inv G C h→Step C0 C→RepT C ts n a→a.defers=[]→Q .normal ts h→Post G C0 n Q .normal a C.w:=fun C ts h a hI hS hT hd hq=>⟨C,ts,h,.normal,.normal,rfl,hI,hS,hT,hd,hq⟩
  cases draw with
  | false=>exact wp_region_list (aops_sound hK ops.toList l h1 C ts h a hI hS hT hd hw)
  | true =>
   obtain ⟨he,I,h0,hop,hfin⟩:=hw
   refine wp_region_any hm ?_
   have hlen:=(compOpers_get h1).1
   have hD:(fun j=>(Array.replicate ops.size false).getD j false)=fun _=>false:=by
    funext j
    rw [Array.getD_eq_getD_getElem?]
    by_cases hj:j < ops.size
    ·simp [hj]
    ·simp [hj]
   have hb:Below C.w.heap.size C.w C.w.drew:=bdrew C.w
   obtain ⟨i1,s1⟩:=inv_below hI hb
   refine adraw_sound hK h1 he I hop hfin ops.size (Array.replicate ops.size false) (C.at C.w.drew) a ts h (by simp) ?_ (by simp [List.filter_replicate]) (by rw [hD]; exact h0) i1 (hS.trans s1) (hT.ext s1.ext) hd
   rw [hD]; intro j o _ hj; cases hj
 | seq x y ihx ihy =>
  intro ac hc Q ts h hw C a hI hS hT hd
  simp only [comp,Option.bind_eq_some_iff,Option.some.injEq] at hc
  obtain ⟨ax,h1,ay,h2,rfl⟩:=hc
  refine wp_seq (wp_mono (ihx ax h1 _ ts h hw C a hI hS hT hd) ?_)
  rintro e a' w ⟨C1,ts1,hp1,ae,hae,rfl,i1,s1,t1,d1,q1⟩
  cases hae with
  | normal=>exact ihy ay h2 Q ts1 hp1 q1 C1 a' i1 s1 t1 d1
  | exit id=>exact ⟨C1,ts1,hp1,.exit id,.exit id,rfl,i1,s1,t1,d1,q1⟩
  | ret=>exact ⟨C1,ts1,hp1,.ret,.ret,rfl,i1,s1,t1,d1,q1⟩
 | cond b x y ihx ihy =>
  intro ac hc Q ts h hw C a hI hS hT hd
  simp only [comp,Option.bind_eq_some_iff,Option.some.injEq] at hc
  obtain ⟨ab,h0,ax,h1,ay,h2,rfl⟩:=hc
  simp only [awp] at hw
  have hr:=rep_opd hT h0
  cases hb:evX ts ab with
  | bool t =>
   rw [hb] at hw hr
   rw [rep_bool] at hr
   refine wp_cond_split hr (fun ht=>?_) (fun ht=>?_)
   ·exact ihx ax h1 Q ts h (hw.1 ht) C a hI hS hT hd
   ·exact ihy ay h2 Q ts h (hw.2 ht) C a hI hS hT hd
  | _=>rw [hb] at hw; exact hw.elim
 | block id x ihx =>
  intro ac hc Q ts h hw C a hI hS hT hd
  simp only [comp,Option.bind_eq_some_iff,Option.some.injEq] at hc
  obtain ⟨ax,h1,rfl⟩:=hc
  refine wp_block (wp_mono (ihx ax h1 _ ts h hw C a hI hS hT hd) ?_)
  rintro e a' w ⟨C1,ts1,hp1,ae,hae,rfl,i1,s1,t1,d1,q1⟩
  cases hae with
  | normal=>exact ⟨C1,ts1,hp1,.normal,.normal,rfl,i1,s1,t1,d1,q1⟩
  | exit id' =>
   simp only [blkA] at q1
   show if id'=id then _ else _
   split at q1
   ·next e=>rw [if_pos e]; exact ⟨C1,ts1,hp1,.normal,.normal,rfl,i1,s1,t1,d1,q1⟩
   ·next e=>rw [if_neg e]; exact ⟨C1,ts1,hp1,.exit id',.exit id',rfl,i1,s1,t1,d1,q1⟩
  | ret=>exact ⟨C1,ts1,hp1,.ret,.ret,rfl,i1,s1,t1,d1,q1⟩
 | loop x ihx =>
  intro ac hc Q ts h hw C a hI hS hT hd
  simp only [comp,Option.bind_eq_some_iff,Option.some.injEq] at hc
  obtain ⟨ax,h1,rfl⟩:=hc
  obtain ⟨k,hk⟩:=hw
  refine wp_loop_rounds k ?_
  revert ts h C a
  induction k with
  | zero=>intro ts h C a hI hS hT hd hk; exact hk.elim
  | succ k ih =>
   intro ts h C a hI hS hT hd hk
   refine wp_mono (ihx ax h1 _ ts h hk C a hI hS hT hd) ?_
   rintro e a' w ⟨C1,ts1,hp1,ae,hae,rfl,i1,s1,t1,d1,q1⟩
   cases hae with
   | normal=>exact ih ts1 hp1 C1 a' i1 s1 t1 d1 q1
   | exit id=>exact ⟨C1,ts1,hp1,.exit id,.exit id,rfl,i1,s1,t1,d1,q1⟩
   | ret=>exact ⟨C1,ts1,hp1,.ret,.ret,rfl,i1,s1,t1,d1,q1⟩
 | exit id =>
  intro ac hc Q ts h hw C a hI hS hT hd
  simp only [comp,Option.some.injEq] at hc; subst hc
  exact wp_exit ⟨C,ts,h,.exit id,.exit id,rfl,hI,hS,hT,hd,hw⟩
 | ret =>
  intro ac hc Q ts h hw C a hI hS hT hd
  simp only [comp,Option.some.injEq] at hc; subst hc
  exact wp_ret ⟨C,ts,h,.ret,.ret,rfl,hI,hS,hT,hd,hw⟩
 | _ =>
  intro ac hc Q ts h hw
  simp only [comp,Option.some.injEq] at hc
  subst hc
  exact hw.elim
end
end AX
end Go.Proofs.YtahmpiioegemaaaGreatDoor

namespace Go.Proofs.YtahmpiioegemaaaGreatDoor
open Go.RowKit
namespace AX
def le1:A→A→Prop
 | .sl W o rows,.sl W' o' rows'=>rows=rows'∧(W=W'∨rows'=[])∧(o' = .no∨o'=o∧W=W')
 | x,y=>x=y
def leL:List A→List A→Prop
 | [],[]=>True
 | x::l,y::m=>le1 x y∧leL l m
 | _,_=>False
def le2:A→A→Prop
 | .agg l,.agg m=>leL l m
 | x,y=>le1 x y
def leL2:List A→List A→Prop
 | [],[]=>True
 | x::l,y::m=>le2 x y∧leL2 l m
 | _,_=>False
def le:A→A→Prop
 | .tup l,.tup m=>leL2 l m
 | x,y=>le2 x y
section
variable {C:Ctx}
theorem rep_le1 {x y:A} {v:Value} (h:le1 x y) (hr:Rep C x v):Rep C y v:=by
 unfold le1 at h
 split at h
 ·next W o rows W' o' rows' =>
  obtain ⟨rfl,h1,h2⟩:=h
  obtain ⟨a,cap,e,h3,h4,h5⟩:=rep_sl.1 hr
  refine rep_sl.2 ⟨a,cap,e,h3,?_,?_⟩
  ·rcases h1 with rfl | rfl
   ·exact h4
   ·unfold RepRows; trivial
  ·rcases h2 with rfl | ⟨rfl,rfl⟩
   ·trivial
   ·exact h5
 ·subst h; exact hr
theorem repL_le:∀ {l m:List A} {cs:List Value},leL l m→RepL C l cs→RepL C m cs
 | [],[],cs,_,hr=>hr
 | x::l,y::m,cs,h,hr=>by
  obtain ⟨c,cs',rfl,h1,h2⟩:=repL_cons.1 hr
  exact repL_cons.2 ⟨c,cs',rfl,rep_le1 h.1 h1,repL_le h.2 h2⟩
 | [],y::m,cs,h,hr=>h.elim
 | x::l,[],cs,h,hr=>h.elim
theorem rep_le2 {x y:A} {v:Value} (h:le2 x y) (hr:Rep C x v):Rep C y v:=by
 unfold le2 at h
 split at h
 ·obtain ⟨cs,e,h1⟩:=rep_agg.1 hr
  exact rep_agg.2 ⟨cs,e,repL_le h h1⟩
 ·exact rep_le1 h hr
theorem repL_le2:∀ {l m:List A} {cs:List Value},leL2 l m→RepL C l cs→RepL C m cs
 | [],[],cs,_,hr=>hr
 | x::l,y::m,cs,h,hr=>by
  obtain ⟨c,cs',rfl,h1,h2⟩:=repL_cons.1 hr
  exact repL_cons.2 ⟨c,cs',rfl,rep_le2 h.1 h1,repL_le2 h.2 h2⟩
 | [],y::m,cs,h,hr=>h.elim
 | x::l,[],cs,h,hr=>h.elim
theorem rep_le {x y:A} {v:Value} (h:le x y) (hr:Rep C x v):Rep C y v:=by
 unfold le at h
 split at h
 ·obtain ⟨cs,e,h1⟩:=rep_tup.1 hr
  exact rep_tup.2 ⟨cs,e,repL_le2 h h1⟩
 ·exact rep_le2 h hr
theorem le1_refl (x:A):le1 x x:=by
 unfold le1
 split
 ·exact ⟨rfl,.inl rfl,.inr ⟨rfl,rfl⟩⟩
 ·rfl
theorem leL_refl:∀ l:List A,leL l l
 | []=>trivial
 | x::l=>⟨le1_refl x,leL_refl l⟩
theorem le2_refl (x:A):le2 x x:=by
 unfold le2
 split
 ·exact leL_refl _
 ·exact le1_refl x
theorem leL2_refl:∀ l:List A,leL2 l l
 | []=>trivial
 | x::l=>⟨le2_refl x,leL2_refl l⟩
theorem le_refl (x:A):le x x:=by
 unfold le
 split
 ·exact leL2_refl _
 ·exact le2_refl x
end
theorem ACall.args {P:Program} {G:World→Prop} {f:FuncId} {as as':List A} {h:Hp} {K:A→Hp→Prop} (hle:leL2 as as') (hc:ACall P G f as' h K):ACall P G f as h K:=
 fun C cs hI hr=>hc C cs hI (repL_le2 hle hr)
inductive ARes where
 | t (n:Nat)
 | c (n:Nat) (agg:Bool) (size:Nat)
def compRes (P:Program) (n:Nat):List ResultVar→Option (List ARes)
 | []=>some []
 | .tmp t::rs=>if t < n then (compRes P n rs).bind fun l=>some (.t t::l) else none
 | .cell t T::rs=>if t < n then (P.underlying T).bind fun d=>(P.info? T).bind fun i=>if isAggB d=true∨i.size=1 then (compRes P n rs).bind fun l=>some (.c t (isAggB d) i.size::l) else none else none
def resA (ts:Ts) (h:Hp):List ARes→Option (List A)
 | []=>some []
 | .t t::rs=>(resA ts h rs).bind fun l=>some (ts t::l)
 | .c t g n::rs=>(loadA h g n (ts t)).bind fun v=>(resA ts h rs).bind fun l=>some (v::l)
def tupA:List A→A
 | [v]=>v
 | l => .tup l
def finO (r:Option (List A)) (Q:A→Hp→Prop) (h:Hp):Prop:=
 match r with
 | some l=>∃ v,le (tupA l) v∧Q v h
 | none=>False
def finP (rs:List ARes) (Q:A→Hp→Prop) (ts:Ts) (h:Hp):Prop:=finO (resA ts h rs) Q h
def finQ (rs:List ARes) (Q:A→Hp→Prop):AExit→Ts→Hp→Prop
 | .normal=>finP rs Q
 | .ret=>finP rs Q
 | .exit _=>fun _ _=>False
structure AFn where
 n:Nat
 code:ACode
 res:List ARes
def compFn (P:Program) (f:FuncId):Option AFn:=
 match P.funcs[f]? with
 | some fn=>(fn.body).bind fun c=>(comp P fn.ntmps c).bind fun ac=>(compRes P fn.ntmps fn.results.toList).bind fun rs=>some ⟨fn.ntmps,ac,rs⟩
 | none=>none
def initTs (args:List A):Ts:=fun i=>args.getD i (.tup [])
section
variable {P:Program} {G:World→Prop} {n:Nat}
def resOf (tmps:Array Value):ResultVar→Sem Value
 | .tmp t=>pure (tmps.getD t undef)
 | .cell b t=>do loadVar t (←asAddr (tmps.getD b undef))
theorem results_eq (g:Func) (tmps:Array Value):results g tmps=(g.results.mapM (resOf tmps) >>= fun vs=>pure (if h:vs.size=1 then vs[0] else .tuple vs)):=by
 unfold results
 congr 1
theorem rep_res {C:Ctx} {h:Hp} {ts:Ts} {a:Act} (hI:Inv G C h) (hT:RepT C ts n a):∀ (rs:List ResultVar) (rl:List ARes) (l:List A),compRes P n rs=some rl→resA ts h rl=some l →
  ∃ vs:List Value,(rs.mapM (resOf a.tmps)).run P C.w=Result.ok vs C.w∧RepL C l vs
 | [],rl,l,hc,hr=>by
  simp only [compRes,Option.some.injEq] at hc; subst hc
  simp only [resA,Option.some.injEq] at hr; subst hr
  exact ⟨[],by simp,repL_nil.2 rfl⟩
 | .tmp t::rs,rl,l,hc,hr=>by
  simp only [compRes,Option.ite_none_right_eq_some,Option.bind_eq_some_iff,Option.some.injEq] at hc
  obtain ⟨hlt,rl',h1,rfl⟩:=hc
  simp only [resA,Option.bind_eq_some_iff,Option.some.injEq] at hr
  obtain ⟨l',h2,rfl⟩:=hr
  obtain ⟨vs,k1,k2⟩:=rep_res hI hT rs rl' l' h1 h2
  exact ⟨_::vs,by simp [List.mapM_cons,k1,resOf],repL_cons.2 ⟨_,vs,rfl,hT.rep t hlt,k2⟩⟩
 | .cell t T::rs,rl,l,hc,hr=>by
  simp only [compRes,Option.ite_none_right_eq_some,Option.bind_eq_some_iff,Option.some.injEq] at hc
  obtain ⟨hlt,d,hd,i,hi,h1,rl',h2,rfl⟩:=hc
  simp only [resA,Option.bind_eq_some_iff,Option.some.injEq] at hr
  obtain ⟨v,h3,l',h4,rfl⟩:=hr
  obtain ⟨vs,k1,k2⟩:=rep_res hI hT rs rl' l' h2 h4
  obtain ⟨ad,cv,e,hrun,hv⟩:=load_run hI hd hi h1 (hT.rep t hlt) h3
  rw [e] at hrun
  have hrun':(loadVar T ad).run P C.w = .ok cv C.w:=by
   unfold Instr.loadAt at hrun
   simpa [Instr.sureAddr] using hrun
  refine ⟨cv::vs,?_,repL_cons.2 ⟨cv,vs,rfl,hv,k2⟩⟩
  simp [List.mapM_cons,resOf,e,asAddr,hrun',k1]
theorem acall_of (hm:P.follows .mixedOrders=true) {f:FuncId} {fn:AFn} {args:List A} {h:Hp} {Q:A→Hp→Prop} (hf:compFn P f=some fn) (hl:args.length≤fn.n) (hw:awp P G fn.code (finQ fn.res Q) (initTs args) h):ACall P G f args h Q:=by
 unfold compFn at hf
 split at hf
 ·next g hg =>
  simp only [Option.bind_eq_some_iff,Option.some.injEq] at hf
  obtain ⟨c,hb,ac,hc,rs,hr,rfl⟩:=hf
  intro C cs hI hargs
  have hcl:=repL_length hargs
  refine calls_of_wp hg hb ?_
  have hT:RepT C (initTs args) g.ntmps { tmps:=cs.toArray++Array.replicate (g.ntmps - cs.toArray.size) undef,defers:=[] }:=by
   simp only at hl
   refine ⟨by simp; omega,fun i hi=>?_⟩
   unfold initTs
   rw [Array.getD_eq_getD_getElem?]
   by_cases hlt:i < cs.length
   ·have hx:args[i]?=some args[i]:=List.getElem?_eq_getElem (by omega)
    obtain ⟨v,k1,k2⟩:=repL_get hargs i _ hx
    rw [Array.getElem?_append_left (by simpa using hlt)]
    simp only [List.getElem?_toArray,k1,Option.getD_some]
    simpa [List.getD,hx] using k2
   ·rw [Array.getElem?_append_right (by simp; omega)]
    rw [List.getD_eq_getElem?_getD,List.getElem?_eq_none (by omega)]
    rw [Array.getElem?_replicate]
    split
    ·exact rep_undef
    ·exact rep_undef
  have key:=awp_sound (C0:=C) hm c ac hc _ _ _ hw C _ hI (Step.refl C) hT rfl
  refine wp_mono key ?_
  rintro e a' w ⟨C1,ts1,h1,ae,hae,rfl,i1,s1,t1,d1,q1⟩
  have fin:finP rs Q ts1 h1→a'.defers=[]∧∃ v,(results g a'.tmps).run P C1.w = .ok v C1.w∧∃ (C':Ctx) (h':Hp) (u:A) (cv:Value),Ending.returned v = .returned cv∧C'.w=C1.w∧Inv G C' h'∧Step C C'∧Rep C' u cv∧Q u h':=by
   intro hq
   unfold finP finO at hq
   split at hq
   ·next l hl' =>
    obtain ⟨u,hu,hQ⟩:=hq
    obtain ⟨vs,k1,k2⟩:=rep_res i1 t1 g.results.toList rs l hr hl'
    have hvl:=repL_length k2
    refine ⟨d1,_,?_,C1,h1,u,if hh:vs.toArray.size=1 then vs.toArray[0] else .tuple vs.toArray,rfl,rfl,i1,s1,rep_le hu ?_,hQ⟩
    ·have hmap:(g.results.mapM (resOf a'.tmps)).run P C1.w = .ok vs.toArray C1.w:=by
      rw [←Array.toArray_toList (xs:=g.results),List.mapM_toArray]
      simp [k1]
     rw [results_eq,Sem.run_bind,hmap]
     rfl
    ·split
     ·next h1' =>
      have:vs.length=1:=by simpa using h1'
      match l,vs,k2,hvl,this with
      | [x],[v],k2,_,_ =>
       obtain ⟨c,cs',e,r1,_⟩:=repL_cons.1 k2
       injection e with e1 e2; subst e1
       exact r1
     ·next h1' =>
      have hne:l.length≠1:=by rw [←hvl]; simpa using h1'
      have:tupA l = .tup l:=by
       unfold tupA
       split
       ·simp at hne
       ·rfl
      rw [this]
      exact rep_tup.2 ⟨vs,rfl,k2⟩
   ·exact hq.elim
  cases hae with
  | normal=>exact fin q1
  | ret=>exact fin q1
  | exit id=>exact q1.elim
 ·cases hf
end
end AX
end Go.Proofs.YtahmpiioegemaaaGreatDoor

namespace Go.Proofs.YtahmpiioegemaaaGreatDoor
open Go.RowKit
namespace AX
section
variable {P:Program} {G:World→Prop}
theorem aops_mono {K K':Ts→Hp→Prop} (hk:∀ ts h,K ts h→K' ts h):∀ (l:List AOper) (ts:Ts) (h:Hp),aops P G l K ts h→aops P G l K' ts h
 | [],ts,h,hp=>hk _ _ hp
 | o::l,ts,h,hp=>guardP_mono (aopP_mono fun v h'=>aops_mono hk l _ h') (aops_mono hk l _ h) hp
theorem adraw_mono {K K':Ts→Hp→Prop} (hk:∀ ts h,K ts h→K' ts h) {l:List AOper} {ts:Ts} {h:Hp} (hp:adraw P G l K ts h):adraw P G l K' ts h:=by
 obtain ⟨I,h1,h2,h3⟩:=hp
 exact ⟨I,h1,h2,fun ts h hi=>hk _ _ (h3 ts h hi)⟩
theorem thenA_mono {K K':Ts→Hp→Prop} {Q Q':AExit→Ts→Hp→Prop} (hk:∀ ts h,K ts h→K' ts h) (hq:∀ e ts h,Q e ts h→Q' e ts h):∀ e ts h,thenA K Q e ts h→thenA K' Q' e ts h:=by
 intro e ts h hp
 cases e with
 | normal=>exact hk _ _ hp
 | exit id=>exact hq _ _ _ hp
 | ret=>exact hq _ _ _ hp
theorem awp_mono:∀ (c:ACode) (Q Q':AExit→Ts→Hp→Prop),(∀ e ts h,Q e ts h→Q' e ts h)→∀ ts h,awp P G c Q ts h→awp P G c Q' ts h:=by
 intro c
 induction c with
 | skip=>intro Q Q' hq ts h hp; exact hq _ _ _ hp
 | reg d l =>
  intro Q Q' hq ts h hp
  cases d with
  | false=>exact aops_mono (hq .normal) l ts h hp
  | true=>exact ⟨hp.1,adraw_mono (hq .normal) hp.2⟩
 | seq x y ihx ihy=>intro Q Q' hq ts h hp; exact ihx _ _ (thenA_mono (ihy _ _ hq) hq) ts h hp
 | cond b x y ihx ihy =>
  intro Q Q' hq ts h hp
  simp only [awp] at hp ⊢
  generalize evX ts b=v at *
  cases v with
  | bool t=>exact ⟨fun e=>ihx _ _ hq _ _ (hp.1 e),fun e=>ihy _ _ hq _ _ (hp.2 e)⟩
  | _=>exact hp.elim
 | block id x ih =>
  intro Q Q' hq ts h hp
  refine ih _ _ (fun e ts h hp=>?_) ts h hp
  cases e with
  | normal=>exact hq _ _ _ hp
  | exit id' =>
   simp only [blkA] at hp ⊢
   split at hp
   ·next e=>rw [if_pos e]; exact hq _ _ _ hp
   ·next e=>rw [if_neg e]; exact hq _ _ _ hp
  | ret=>exact hq _ _ _ hp
 | loop x ih =>
  intro Q Q' hq ts h hp
  obtain ⟨k,hk⟩:=hp
  refine ⟨k,?_⟩
  revert ts h
  induction k with
  | zero=>intro ts h hk; exact hk
  | succ k ihk=>intro ts h hk; exact ih _ _ (thenA_mono (fun ts h=>ihk ts h) hq) ts h hk
 | exit id=>intro Q Q' hq ts h hp; exact hq _ _ _ hp
 | ret=>intro Q Q' hq ts h hp; exact hq _ _ _ hp
 | prim n c =>
  intro Q Q' hq ts h hp C a hI hT hd
  refine wp_mono (hp C a hI hT hd) ?_
  rintro e a' w ⟨C1,ts1,hp1,ae,hae,rfl,i1,s1,t1,d1,q1⟩
  exact ⟨C1,ts1,hp1,ae,hae,rfl,i1,s1,t1,d1,hq _ _ _ q1⟩
theorem aloop_succ (c:ACode) (Q:AExit→Ts→Hp→Prop):∀ (k:Nat) (ts:Ts) (h:Hp),aloop (awp P G c) Q k ts h→aloop (awp P G c) Q (k+1) ts h
 | 0,ts,h,hp=>hp.elim
 | k+1,ts,h,hp=>awp_mono c _ _ (thenA_mono (fun ts h=>aloop_succ c Q k ts h) fun _ _ _ h=>h) ts h hp
theorem aloop_le (c:ACode) (Q:AExit→Ts→Hp→Prop) {k m:Nat} (hkm:k≤m) (ts:Ts) (h:Hp) (hp:aloop (awp P G c) Q k ts h):aloop (awp P G c) Q m ts h:=by
 induction hkm with
 | refl=>exact hp
 | step _ ih=>exact aloop_succ c Q _ ts h ih
theorem awp_loop {c:ACode} {Q:AExit→Ts→Hp→Prop} {ts:Ts} {h:Hp} (I:Nat→Ts→Hp→Prop) (m:Nat) (h0:I m ts h) (hr:∀ m ts h,I m ts h→awp P G c (thenA (fun ts' h'=>∃ m',m' < m∧I m' ts' h') Q) ts h):awp P G (.loop c) Q ts h:=by
 refine ⟨m+1,?_⟩
 revert ts h
 induction m using Nat.strongRecOn with
 | _ m ih =>
  intro ts h h0
  refine awp_mono c _ _ (thenA_mono (fun ts' h' hp=>?_) fun _ _ _ h=>h) ts h (hr m ts h h0)
  obtain ⟨m',h1,h2⟩:=hp
  exact aloop_le c Q h1 ts' h' (ih m' h1 h2)
def opnds:AOp→List Opd
 | .mv x=>[x]
 | .pick c a b=>[c,a,b]
 | .alloc ..=>[]
 | .box _ x=>[x]
 | .build _ ps=>ps.map fun p=>p.2.2
 | .mks _ ps=>ps
 | .mkr _ _ ps=>ps
 | .mkl _ _ ps=>ps
 | .slsl _ x lo hi=>x::(lo.toList++hi.toList)
 | .load _ _ p=>[p]
 | .store _ p x=>[p,x]
 | .nilck x=>[x]
 | .faddr _ x=>[x]
 | .iaddr _ x i=>[x,i]
 | .sidx x i=>[x,i]
 | .ssl x lo hi=>x::(lo.toList++hi.toList)
 | .len _ x=>[x]
 | .app _ _ _ x y=>[x,y]
 | .bin _ x y=>[x,y]
 | .eq _ _ _ x y=>[x,y]
 | .un _ x=>[x]
 | .conv _ x=>[x]
 | .extract x _=>[x]
 | .max3 x y z=>[x,y,z]
 | .mkfn _ caps=>caps
 | .mkmap=>[]
 | .mget _ _ m k=>[m,k]
 | .mset m k x=>[m,k,x]
 | .mdel m k=>[m,k]
 | .mclr m=>[m]
 | .mlen m=>[m]
 | .mm _ x y=>[x,y]
 | .call _ args=>args
 | .callv x args=>x::args
theorem fillA_congr {ev ev':Opd→A}:∀ (ps:List (Nat×Nat×Opd)) (z:List A),(∀ p∈ps,ev p.2.2=ev' p.2.2)→fillA ev z ps=fillA ev' z ps
 | [],z,h=>rfl
 | (o,n,x)::ps,z,h=>by
  have h1:=h (o,n,x) (by simp)
  simp only at h1
  simp only [fillA,h1]
  split
  ·exact fillA_congr ps _ fun p hp=>h p (by simp [hp])
  ·rfl
theorem rowsA_congr {ev ev':Opd→A} (W:Nat):∀ (ps:List Opd),(∀ p∈ps,ev p=ev' p)→rowsA ev W ps=rowsA ev' W ps
 | [],h=>rfl
 | x::ps,h=>by
  have h1:=h x (by simp)
  simp only [rowsA,h1]
  rw [rowsA_congr W ps fun p hp=>h p (by simp [hp])]
theorem rowsR_congr {ev ev':Opd→A} (W:Nat):∀ (ps:List Opd),(∀ p∈ps,ev p=ev' p)→rowsR ev W ps=rowsR ev' W ps
 | [],h=>rfl
 | x::ps,h=>by
  have h1:=h x (by simp)
  simp only [rowsR,h1]
  rw [rowsR_congr W ps fun p hp=>h p (by simp [hp])]
theorem astep_congr {ev ev':Opd→A} {h:Hp} {o:AOp} (he:∀ x∈opnds o,ev x=ev' x):astep ev h o=astep ev' h o:=by
 cases o with
 | build z ps =>
  simp only [astep]
  rw [fillA_congr ps z fun p hp=>he _ (List.mem_map.2 ⟨p,hp,rfl⟩)]
 | mks W ps =>
  simp only [astep]
  rw [rowsA_congr W ps he]
 | mkr E W ps =>
  simp only [astep]
  rw [rowsR_congr W ps he]
 | mkl E W ps =>
  simp only [astep]
  rw [rowsA_congr W ps he]
 | slsl W x lo hi =>
  have h1:=he x (by simp [opnds])
  have h2:lo.map ev=lo.map ev':=by
   cases lo with
   | none=>rfl
   | some l=>simp only [Option.map_some]; rw [he l (by simp [opnds])]
  have h3:hi.map ev=hi.map ev':=by
   cases hi with
   | none=>rfl
   | some l=>simp only [Option.map_some]; rw [he l (by simp [opnds])]
  simp only [astep,h1,h2,h3]
 | mkfn f caps =>
  simp only [opnds] at he
  simp only [astep]
  rw [List.map_congr_left he]
 | ssl x lo hi =>
  have h1:=he x (by simp [opnds])
  have h2:lo.map ev=lo.map ev':=by
   cases lo with
   | none=>rfl
   | some l=>simp only [Option.map_some]; rw [he l (by simp [opnds])]
  have h3:hi.map ev=hi.map ev':=by
   cases hi with
   | none=>rfl
   | some l=>simp only [Option.map_some]; rw [he l (by simp [opnds])]
  simp only [astep,h1,h2,h3]
 | alloc=>rfl
 | mkmap=>rfl
 | call=>rfl
 | callv=>rfl
 | _ =>
  simp only [opnds,List.mem_cons,List.not_mem_nil,or_false,forall_eq_or_imp,forall_eq] at he
  simp only [astep,he]
theorem aopP_congr {ev ev':Opd→A} {h:Hp} {K:A→Hp→Prop} {o:AOp} (he:∀ x∈opnds o,ev x=ev' x) (hp:aopP P G ev h K o):aopP P G ev' h K o:=by
 cases o with
 | call f args =>
  simp only [opnds] at he
  show ACall P G f (args.map ev') h K
  rw [←List.map_congr_left he]
  exact hp
 | callv x args =>
  obtain ⟨f,caps,h1,h2,h3⟩:=hp
  refine ⟨f,caps,by rw [←he x (by simp [opnds])]; exact h1,h2,?_⟩
  rw [←List.map_congr_left fun y hy=>he y (by simp [opnds,hy])]
  exact h3
 | _ =>
  have hs:=astep_congr (h:=h) he
  simp only [aopP] at hp ⊢
  rw [←hs]; exact hp
def aopQ (P:Program) (G:World→Prop) (ev:Opd→A) (h:Hp) (K:A→Prop):AOp→Prop
 | .call f args=>∃ v,ACall P G f (args.map ev) h (fun v' h'=>v'=v∧h'=h)∧K v
 | .callv x args=>∃ v f caps,ev x = .fn f caps∧callOk P (vF f)=true∧ACall P G (vF f) (vA f (args.map ev) caps) h (fun v' h'=>v'=v∧h'=h)∧K v
 | op=>optP (astep ev h op) fun v h'=>h'=h∧K v
def aquiet (P:Program) (G:World→Prop) (h:Hp):List AOper→(Ts→Prop)→Ts→Prop
 | [],K,ts=>K ts
 | o::os,K,ts=>guardP ts o.guard (aopQ P G (evX ts) h (fun v=>aquiet P G h os K (put ts o.dst v)) o.op) (aquiet P G h os K (put ts o.dst (.tup [])))
theorem aopQ_val {ev:Opd→A} {h:Hp} {K:A→Prop} {o:AOp} (hp:aopQ P G ev h K o):∃ v,aopP P G ev h (fun v' h'=>v'=v∧h'=h) o∧K v:=by
 cases o with
 | call f args =>
  obtain ⟨v,h1,h2⟩:=hp
  exact ⟨v,h1,h2⟩
 | callv x args =>
  obtain ⟨v,f,caps,h0,h1,h2,h3⟩:=hp
  exact ⟨v,⟨f,caps,h0,h1,h2⟩,h3⟩
 | _ =>
  simp only [aopQ] at hp
  simp only [aopP]
  generalize astep ev h _=r at hp ⊢
  cases r with
  | none=>exact hp.elim
  | some r =>
   obtain ⟨v,h'⟩:=r
   exact ⟨v,⟨rfl,hp.1⟩,hp.2⟩
def seesT (o:AOper):List Nat:=((opnds o.op).filterMap fun x=>match x with | .t n=>some n | .c _=>none)++(match o.guard with | some (t,_)=>[t] | none=>[])
def seesB (ops:List AOper):Bool:=
 ops.zipIdx.all fun (o,i)=>(seesT o).all fun x=>ops.zipIdx.all fun (o',j)=>o'.dst != some x||i == j||o.after.contains j||o'.after.contains i
def pre:Ts→List AOper→(Nat→A)→Nat→Ts
 | ts,_,_,0=>ts
 | ts,[],_,_+1=>ts
 | ts,o::os,vs,i+1=>pre (put ts o.dst (vs 0)) os (fun k=>vs (k+1)) i
theorem aquiet_trace {h:Hp} {K:Ts→Prop}:∀ (os:List AOper) (ts:Ts),aquiet P G h os K ts →
  ∃ vs:Nat→A,(∀ (i:Nat) (o:AOper),os[i]?=some o→guardP (pre ts os vs i) o.guard (aopP P G (evX (pre ts os vs i)) h (fun v' h'=>v'=vs i∧h'=h) o.op) (vs i = .tup []))∧K (pre ts os vs os.length)
 | [],ts,hp=>⟨fun _ => .tup [],fun i o hi=>by simp at hi,hp⟩
 | o::os,ts,hp=>by
  have key:∃ v,guardP ts o.guard (aopP P G (evX ts) h (fun v' h'=>v'=v∧h'=h) o.op) (v = .tup [])∧aquiet P G h os K (put ts o.dst v):=by
   simp only [aquiet] at hp
   cases hg:o.guard with
   | none =>
    rw [hg] at hp
    obtain ⟨v,h1,h2⟩:=aopQ_val hp
    exact ⟨v,h1,h2⟩
   | some tb =>
    obtain ⟨t,b⟩:=tb
    rw [hg] at hp
    simp only [guardP] at hp ⊢
    split at hp
    ·next c e =>
     by_cases hcb:c=b
     ·obtain ⟨v,h1,h2⟩:=aopQ_val (hp.1 hcb)
      refine ⟨v,⟨fun _=>h1,fun hc=>?_⟩,h2⟩
      rw [hcb] at hc; cases b <;> cases hc
     ·have hcb':c=!b:=by cases c <;> cases b <;> simp_all
      exact ⟨.tup [],⟨fun hc=>absurd hc hcb,fun _=>rfl⟩,hp.2 hcb'⟩
    ·next e=>exact ⟨.tup [],rfl,hp⟩
    ·exact hp.elim
  obtain ⟨v,h1,h2⟩:=key
  obtain ⟨vs,h3,h4⟩:=aquiet_trace os _ h2
  refine ⟨fun i=>match i with | 0=>v | i+1=>vs i,fun i o' hi=>?_,h4⟩
  cases i with
  | zero=>simp at hi; subst hi; exact h1
  | succ i=>exact h3 i o' (by simpa using hi)
theorem findIdx_none {os:List AOper} {d:Nat} (h:(os.all fun o'=>o'.dst != some d)=true):os.findIdx? (fun o=>o.dst == some d)=none:=by
 rw [List.findIdx?_eq_none_iff]
 intro o ho
 have:=List.all_eq_true.1 h o ho
 simpa using this
theorem pre_eq:∀ (os:List AOper) (k:Nat) (ts:Ts) (vs:Nat→A) (i:Nat),edgesB k os=true→i≤os.length→∀ x,pre ts os vs i x=TD os vs ts (fun j=>decide (j < i)) x
 | [],k,ts,vs,0,he,hi,x=>rfl
 | [],k,ts,vs,i+1,he,hi,x=>by simp at hi
 | o::os,k,ts,vs,0,he,hi,x=>by
  unfold TD pre
  split <;> simp
 | o::os,k,ts,vs,i+1,he,hi,x=>by
  simp only [edgesB,Bool.and_eq_true] at he
  rw [pre,pre_eq os (k+1) _ _ i he.2 (by simpa using hi) x]
  unfold TD
  rw [List.findIdx?_cons]
  cases hd:o.dst with
  | none =>
   have e:((none:Option Nat) == some x)=false:=rfl
   rw [e]
   simp only [Bool.false_eq_true,if_false]
   cases hf:os.findIdx? (fun o=>o.dst == some x) with
   | none=>simp [put]
   | some j=>simp [put]
  | some d =>
   by_cases hdx:d=x
   ·subst hdx
    have h2:=he.1.2
    rw [hd] at h2
    rw [findIdx_none h2]
    simp [put]
   ·have e:((some d:Option Nat) == some x)=false:=by simp [hdx]
    rw [e]
    simp only [Bool.false_eq_true,if_false]
    cases hf:os.findIdx? (fun o=>o.dst == some x) with
    | none=>simp [put,Ne.symm hdx]
    | some j=>simp [put,Ne.symm hdx]
theorem seesB_spec {ops:List AOper} (hs:seesB ops=true):∀ (i:Nat) (o:AOper),ops[i]?=some o→∀ x∈seesT o,∀ (j:Nat) (o':AOper),ops[j]?=some o'→o'.dst=some x→i=j∨j∈o.after∨i∈o'.after:=by
 intro i o hi x hx j o' hj hd
 unfold seesB at hs
 have h1:=List.all_eq_true.1 hs (o,i) (List.mk_mem_zipIdx_iff_getElem?.2 hi)
 have h2:=List.all_eq_true.1 h1 x hx
 have h3:=List.all_eq_true.1 h2 (o',j) (List.mk_mem_zipIdx_iff_getElem?.2 hj)
 simp only [Bool.or_eq_true,bne_iff_ne,ne_eq,beq_iff_eq,List.contains_iff_mem] at h3
 rcases h3 with ((h3 | h3) | h3) | h3
 ·exact absurd hd h3
 ·exact .inl h3
 ·exact .inr (.inl h3)
 ·exact .inr (.inr h3)
theorem TD_sees {ops:List AOper} (he:edgesB 0 ops=true) (hs:seesB ops=true) {D:Nat→Bool} {i:Nat} {o:AOper} (hi:ops[i]?=some o) (hDi:D i=false) (hcl:Closed ops D) (haf:∀ j∈o.after,D j=true) (vs:Nat→A) (ts:Ts) :
  ∀ x∈seesT o,TD ops vs ts D x=TD ops vs ts (fun j=>decide (j < i)) x:=by
 intro x hx
 unfold TD
 cases hf:ops.findIdx? (fun o=>o.dst == some x) with
 | none=>rfl
 | some j =>
  obtain ⟨hj,hj2,_⟩:=List.findIdx?_eq_some_iff_getElem.1 hf
  have hoj:ops[j]?=some ops[j]:=List.getElem?_eq_getElem hj
  have hdx:ops[j].dst=some x:=by simpa using hj2
  rcases seesB_spec hs i o hi x hx j _ hoj hdx with rfl | h1 | h1
  ·simp [hDi]
  ·have h2:=edgesB_after he i o hi j h1
   have h3:j < i:=by omega
   simp [haf j h1,h3]
  ·have h2:=edgesB_after he j _ hoj i h1
   have h3:¬ j < i:=by omega
   have h4:D j=false:=by
    cases hDj:D j with
    | false=>rfl
    | true=>rw [hcl j _ hoj hDj i h1] at hDi; cases hDi
   simp [h4,h3]
theorem evX_sees {o:AOper} {ts ts':Ts} (h:∀ x∈seesT o,ts x=ts' x):∀ y∈opnds o.op,evX ts y=evX ts' y:=by
 intro y hy
 cases y with
 | c a=>rfl
 | t n =>
  refine h n (List.mem_append_left _ (List.mem_filterMap.2 ⟨.t n,hy,rfl⟩))
theorem guardP_sees {o:AOper} {ts ts':Ts} {p q:Prop} (h:∀ x∈seesT o,ts x=ts' x) (hp:guardP ts o.guard p q):guardP ts' o.guard p q:=by
 cases hg:o.guard with
 | none=>rw [hg] at hp; exact hp
 | some tb =>
  obtain ⟨t,b⟩:=tb
  rw [hg] at hp
  simp only [guardP] at hp ⊢
  rw [←h t (List.mem_append_right _ (by rw [hg]; simp))]
  exact hp
theorem adraw_quiet {ops:List AOper} {K:Ts→Hp→Prop} {ts:Ts} {h:Hp} (he:edgesB 0 ops=true) (hs:seesB ops=true) (hp:aquiet P G h ops (fun ts=>K ts h) ts):adraw P G ops K ts h:=by
 obtain ⟨vs,h1,h2⟩:=aquiet_trace ops ts hp
 refine adraw_of he vs (fun _=>h) rfl (fun D i o hi hDi hcl haf=>?_) ?_
 ·have hsee:=TD_sees he hs hi hDi hcl haf vs ts
  have hlt:i < ops.length:=(List.getElem?_eq_some_iff.1 hi).1
  have hpre:pre ts ops vs i=TD ops vs ts (fun j=>decide (j < i)):=funext fun x=>pre_eq ops 0 ts vs i he (by omega) x
  have h3:=h1 i o hi
  rw [hpre] at h3
  refine guardP_sees (fun x hx=>(hsee x hx).symm) (guardP_mono (fun hq=>?_) (fun hq=>⟨hq,rfl⟩) h3)
  exact aopP_congr (evX_sees fun x hx=>(hsee x hx).symm) hq
 ·have hpre:pre ts ops vs ops.length=TD ops vs ts (fun j=>decide (j < ops.length)):=funext fun x=>pre_eq ops 0 ts vs _ he (Nat.le_refl _) x
  rw [←hpre]
  exact h2
end
end AX
end Go.Proofs.YtahmpiioegemaaaGreatDoor

namespace Go.Proofs.YtahmpiioegemaaaGreatDoor
open Go.RowKit
namespace AX
section
variable {P:Program} {G:World→Prop}
theorem put_app (ts:Ts) (d:Nat) (v:A) (i:Nat):put ts (some d) v i=if i=d then v else ts i:=rfl
theorem put_none (ts:Ts) (v:A):put ts none v=ts:=rfl
theorem init_app (args:List A) (i:Nat):initTs args i=args.getD i (.tup []):=rfl
theorem optP_some (v:A) (h:Hp) (K:A→Hp→Prop):optP (some (v,h)) K=K v h:=rfl
theorem awp_quiet {ops:List AOper} {Q:AExit→Ts→Hp→Prop} {ts:Ts} {h:Hp} (hb:(edgesB 0 ops&&seesB ops)=true) (hq:aquiet P G h ops (fun ts=>Q .normal ts h) ts):awp P G (.reg true ops) Q ts h:=by
 rw [Bool.and_eq_true] at hb
 exact ⟨hb.1,adraw_quiet hb.1 hb.2 hq⟩
theorem evX_t (ts:Ts) (n:Nat):evX ts (.t n)=ts n:=rfl
theorem evX_c (ts:Ts) (a:A):evX ts (.c a)=a:=rfl
theorem resA_nil (ts:Ts) (h:Hp):resA ts h []=some []:=rfl
theorem resA_t (ts:Ts) (h:Hp) (t:Nat) (rs:List ARes):resA ts h (.t t::rs)=(resA ts h rs).bind fun l=>some (ts t::l):=rfl
theorem resA_c (ts:Ts) (h:Hp) (t:Nat) (g:Bool) (n:Nat) (rs:List ARes):resA ts h (.c t g n::rs)=(loadA h g n (ts t)).bind fun v=>(resA ts h rs).bind fun l=>some (v::l):=rfl
theorem tupA_1 (v:A):tupA [v]=v:=rfl
theorem tupA_2 (u v:A) (l:List A):tupA (u::v::l) = .tup (u::v::l):=rfl
theorem tupA_0:tupA [] = .tup []:=rfl
end
end AX
end Go.Proofs.YtahmpiioegemaaaGreatDoor

namespace Go.Proofs.YtahmpiioegemaaaGreatDoor
open Go.RowKit
namespace AX
theorem wrap64 {x:Int} (h1:-9223372036854775808≤x) (h2:x≤9223372036854775807):IntKind.i64.wrap x=x:=Go.IntWalk.i64_in x ⟨h1,h2⟩
def sinkB (ops:List AOper):Bool:=
 ops.zipIdx.all fun (_,i)=>i+1 == ops.length||ops.zipIdx.any fun (o',j)=>decide (i < j)&&o'.after.contains i
theorem sink_all {ops:List AOper} (hs:sinkB ops=true) {n:Nat} (hn:n+1=ops.length) {o:AOper} (ho:ops[n]?=some o) {D:Nat→Bool} (hcl:Closed ops D) (haf:∀ j∈o.after,D j=true):∀ i,i < n→D i=true:=by
 have key:∀ d i,n - i=d→i < n→D i=true:=by
  intro d
  induction d using Nat.strongRecOn with
  | _ d ih =>
   intro i hd hi
   have hoi:ops[i]?=some (ops[i]'(by omega)):=List.getElem?_eq_getElem (by omega)
   unfold sinkB at hs
   have h1:=List.all_eq_true.1 hs (ops[i]'(by omega),i) (List.mk_mem_zipIdx_iff_getElem?.2 hoi)
   simp only [Bool.or_eq_true,beq_iff_eq] at h1
   rcases h1 with h1 | h1
   ·omega
   ·obtain ⟨⟨o',j⟩,hm,hj⟩:=List.any_eq_true.1 h1
    simp only [Bool.and_eq_true,decide_eq_true_eq,List.contains_iff_mem] at hj
    have hoj:=List.mk_mem_zipIdx_iff_getElem?.1 hm
    have hjl:j < ops.length:=(List.getElem?_eq_some_iff.1 hoj).1
    by_cases hjn:j=n
    ·subst hjn
     rw [ho] at hoj; injection hoj with hoj; subst hoj
     exact haf i hj.2
    ·have hjlt:j < n:=by omega
     exact hcl j o' hoj (ih (n - j) (by omega) j rfl hjlt) i hj.2
 intro i hi
 exact key (n - i) i rfl hi
theorem adraw_last {P:Program} {G:World→Prop} {ops:List AOper} {os:List AOper} {o:AOper} {K:Ts→Hp→Prop} {ts:Ts} {h h1:Hp} {v:A} (hops:ops=os++[o]) (he:edgesB 0 ops=true) (hs:seesB ops=true) (hk:sinkB ops=true) (hg:o.guard=none)
  (hp:aquiet P G h os (fun ts=>aopP P G (evX ts) h (fun v' h'=>v'=v∧h'=h1) o.op∧K (put ts o.dst v) h1) ts):adraw P G ops K ts h:=by
 obtain ⟨vs,t1,t2,t3⟩:=aquiet_trace os ts hp
 have hlen:ops.length=os.length+1:=by rw [hops]; simp
 have hon:ops[os.length]?=some o:=by rw [hops]; simp
 have hgo:∀ i,i < os.length→ops[i]?=os[i]?:=fun i hi=>by rw [hops,List.getElem?_append_left hi]
 let vals:Nat→A:=fun i=>if i=os.length then v else vs i
 have hpre:∀ i,i≤os.length→pre ts os vs i=TD ops vals ts (fun j=>decide (j < i)):=by
  intro i hi
  have hpe:∀ (xs:List AOper) (k:Nat) (ts:Ts) (w1 w2:Nat→A),(∀ q,q < k→w1 q=w2 q)→pre ts xs w1 k=pre ts (xs++[o]) w2 k∨xs.length < k:=by
   intro xs
   induction xs with
   | nil=>intro k ts w1 w2 hq; cases k with
    | zero=>exact .inl rfl
    | succ k=>exact .inr (by simp)
   | cons x xs ih =>
    intro k ts w1 w2 hq
    cases k with
    | zero=>exact .inl rfl
    | succ k =>
     rcases ih k (put ts x.dst (w1 0)) (fun q=>w1 (q+1)) (fun q=>w2 (q+1)) (fun q hq'=>hq (q+1) (by omega)) with h2 | h2
     ·left
      simp only [pre,List.cons_append]
      rw [h2,hq 0 (by omega)]
     ·right; simp; omega
  rcases hpe os i ts vs vals (fun q hq=>by show vs q=if q=os.length then v else vs q; rw [if_neg (by omega)]) with h2 | h2
  ·rw [h2,←hops]
   exact funext fun x=>pre_eq ops 0 ts vals i he (by omega) x
  ·omega
 refine adraw_of he vals (fun D=>if D os.length=true then h1 else h) (by simp) (fun D i oi hi hDi hcl haf=>?_) ?_
 ·have hsee:=TD_sees he hs hi hDi hcl haf vals ts
  have hilt:i < ops.length:=(List.getElem?_eq_some_iff.1 hi).1
  by_cases hin:i=os.length
  ·subst hin
   rw [hon] at hi; injection hi with hi; subst hi
   rw [←hpre _ (Nat.le_refl _)] at hsee
   rw [hg]
   simp only [hDi,Bool.false_eq_true,if_false,beq_self_eq_true,Bool.true_or,if_true]
   show aopP P G _ h _ o.op
   have hv:vals os.length=v:=by show (if os.length=os.length then v else _)=v; rw [if_pos rfl]
   rw [hv]
   exact aopP_congr (evX_sees fun x hx=>(hsee x hx).symm) t2
  ·have hi':i < os.length:=by omega
   have hDn:D os.length=false:=by
    cases hDn:D os.length with
    | false=>rfl
    | true =>
     rw [sink_all hk hlen.symm hon hcl (fun j hj=>hcl _ _ hon hDn j hj) i hi'] at hDi
     cases hDi
   have h3:=t1 i oi (by rw [←hgo i hi']; exact hi)
   rw [hpre i (by omega)] at h3
   have hne:(os.length == i)=false:=by simp; omega
   simp only [hDn,hne,Bool.false_eq_true,if_false,Bool.false_or]
   have hv:vals i=vs i:=by show (if i=os.length then v else vs i)=vs i; rw [if_neg hin]
   rw [hv]
   refine guardP_sees (fun x hx=>(hsee x hx).symm) (guardP_mono (fun hq=>?_) (fun hq=>⟨hq,trivial⟩) h3)
   exact aopP_congr (evX_sees fun x hx=>(hsee x hx).symm) hq
 ·have h4:TD ops vals ts (fun j=>decide (j < ops.length))=put (TD ops vals ts fun j=>decide (j < os.length)) o.dst v:=by
   have e1:pre ts ops vals ops.length=TD ops vals ts (fun j=>decide (j < ops.length)):=funext fun x=>pre_eq ops 0 ts vals _ he (Nat.le_refl _) x
   have e2:pre ts ops vals os.length=TD ops vals ts (fun j=>decide (j < os.length)):=funext fun x=>pre_eq ops 0 ts vals _ he (by omega) x
   rw [←e1,←e2,hlen,hops]
   have hstep:∀ (xs:List AOper) (ts:Ts) (w1:Nat→A),pre ts (xs++[o]) w1 (xs.length+1)=put (pre ts (xs++[o]) w1 xs.length) o.dst (w1 xs.length):=by
    intro xs
    induction xs with
    | nil=>intro ts w1; rfl
    | cons x xs ih=>intro ts w1; exact ih _ _
   rw [hstep]
   congr 1
   show (if os.length=os.length then v else _)=v
   rw [if_pos rfl]
  rw [h4,←hpre _ (Nat.le_refl _)]
  simp only [hlen,Nat.lt_succ_self,decide_true,if_true]
  exact t3
theorem awp_last {P:Program} {G:World→Prop} {ops:List AOper} {Q:AExit→Ts→Hp→Prop} {ts:Ts} {h:Hp} (os:List AOper) (o:AOper) (h1:Hp) (v:A) (hops:ops=os++[o]) (hb:(edgesB 0 ops&&seesB ops&&sinkB ops&&o.guard.isNone)=true)
  (hq:aquiet P G h os (fun ts=>aopP P G (evX ts) h (fun v' h'=>v'=v∧h'=h1) o.op∧Q .normal (put ts o.dst v) h1) ts):awp P G (.reg true ops) Q ts h:=by
 simp only [Bool.and_eq_true,Option.isNone_iff_eq_none] at hb
 exact ⟨hb.1.1.1,adraw_last hops hb.1.1.1 hb.1.1.2 hb.1.2 hb.2 hq⟩
section
variable {P:Program} {G:World→Prop}
theorem go_nil {K:Ts→Hp→Prop} {ts:Ts} {h:Hp} (k:K ts h):aops P G [] K ts h:=k
theorem go_op {d:Option Nat} {o:AOp} {af:List Nat} {os:List AOper} {K:Ts→Hp→Prop} {ts:Ts} {h h':Hp} {v:A} (hc:o.isCall=false) (hs:astep (evX ts) h o=some (v,h')) (k:aops P G os K (put ts d v) h'):aops P G (⟨d,o,none,af⟩::os) K ts h:=by
 show aopP P G (evX ts) h _ o
 cases o with
 | call=>simp [AOp.isCall] at hc
 | callv=>simp [AOp.isCall] at hc
 | _=>simp only [aopP]; rw [hs]; exact k
theorem go_gop {d:Option Nat} {o:AOp} {t:Nat} {b:Bool} {af:List Nat} {os:List AOper} {K:Ts→Hp→Prop} {ts:Ts} {h h':Hp} {v:A} (hg:ts t = .bool b) (hc:o.isCall=false) (hs:astep (evX ts) h o=some (v,h')) (k:aops P G os K (put ts d v) h'):aops P G (⟨d,o,some (t,b),af⟩::os) K ts h:=by
 have key:=go_op (P:=P) (G:=G) (d:=d) (af:=af) hc hs k
 show guardP ts (some (t,b)) _ _
 simp only [guardP,hg]
 exact ⟨fun _=>key,fun e=>(by cases b <;> cases e)⟩
theorem go_skip {d:Option Nat} {o:AOp} {t:Nat} {b:Bool} {af:List Nat} {os:List AOper} {K:Ts→Hp→Prop} {ts:Ts} {h:Hp} (hg:ts t = .bool (!b)) (k:aops P G os K (put ts d (.tup [])) h):aops P G (⟨d,o,some (t,b),af⟩::os) K ts h:=by
 show guardP ts (some (t,b)) _ _
 simp only [guardP,hg]
 exact ⟨fun e=>(by cases b <;> cases e),fun _=>k⟩
theorem go_skipu {d:Option Nat} {o:AOp} {t:Nat} {b:Bool} {af:List Nat} {os:List AOper} {K:Ts→Hp→Prop} {ts:Ts} {h:Hp} (hg:ts t = .tup []) (k:aops P G os K (put ts d (.tup [])) h):aops P G (⟨d,o,some (t,b),af⟩::os) K ts h:=by
 show guardP ts (some (t,b)) _ _
 simp only [guardP,hg]
 exact k
theorem go_call {d:Option Nat} {f:FuncId} {as:List Opd} {vs:List A} {af:List Nat} {os:List AOper} {K:Ts→Hp→Prop} {ts:Ts} {h:Hp} (ha:as.map (evX ts)=vs) (k:ACall P G f vs h fun v h'=>aops P G os K (put ts d v) h'):aops P G (⟨d,.call f as,none,af⟩::os) K ts h:=by
 subst ha; exact k
theorem go_gcall {d:Option Nat} {f:FuncId} {t:Nat} {b:Bool} {as:List Opd} {vs:List A} {af:List Nat} {os:List AOper} {K:Ts→Hp→Prop} {ts:Ts} {h:Hp} (hg:ts t = .bool b) (ha:as.map (evX ts)=vs) (k:ACall P G f vs h fun v h'=>aops P G os K (put ts d v) h'):aops P G (⟨d,.call f as,some (t,b),af⟩::os) K ts h:=by
 subst ha
 show guardP ts (some (t,b)) _ _
 simp only [guardP,hg]
 exact ⟨fun _=>k,fun e=>(by cases b <;> cases e)⟩
theorem go_callv {d:Option Nat} {x:Opd} {f:FuncId} {caps:List A} {as:List Opd} {vs:List A} {af:List Nat} {os:List AOper} {K:Ts→Hp→Prop} {ts:Ts} {h:Hp} (hx:evX ts x = .fn f caps) (hb:Nat.blt f bmk=true) (hok:callOk P f=true) (ha:as.map (evX ts)++caps=vs) (k:ACall P G f vs h fun v h'=>aops P G os K (put ts d v) h'):aops P G (⟨d,.callv x as,none,af⟩::os) K ts h:=by
 subst ha
 have hb:=Nat.blt_eq.mp hb
 exact ⟨f,caps,hx,by rw [vF,if_pos hb]; exact hok,by rw [vF,vA,if_pos hb,if_pos hb]; exact k⟩
theorem gq_nil {K:Ts→Prop} {ts:Ts} {h:Hp} (k:K ts):aquiet P G h [] K ts:=k
theorem gq_op {d:Option Nat} {o:AOp} {af:List Nat} {os:List AOper} {K:Ts→Prop} {ts:Ts} {h:Hp} {v:A} (hc:o.isCall=false) (hs:astep (evX ts) h o=some (v,h)) (k:aquiet P G h os K (put ts d v)):aquiet P G h (⟨d,o,none,af⟩::os) K ts:=by
 show aopQ P G (evX ts) h _ o
 cases o with
 | call=>simp [AOp.isCall] at hc
 | callv=>simp [AOp.isCall] at hc
 | _=>simp only [aopQ]; rw [hs]; exact ⟨rfl,k⟩
theorem gq_gop {d:Option Nat} {o:AOp} {t:Nat} {b:Bool} {af:List Nat} {os:List AOper} {K:Ts→Prop} {ts:Ts} {h:Hp} {v:A} (hg:ts t = .bool b) (hc:o.isCall=false) (hs:astep (evX ts) h o=some (v,h)) (k:aquiet P G h os K (put ts d v)):aquiet P G h (⟨d,o,some (t,b),af⟩::os) K ts:=by
 have key:=gq_op (P:=P) (G:=G) (d:=d) (af:=af) hc hs k
 show guardP ts (some (t,b)) _ _
 simp only [guardP,hg]
 exact ⟨fun _=>key,fun e=>(by cases b <;> cases e)⟩
theorem gq_skip {d:Option Nat} {o:AOp} {t:Nat} {b:Bool} {af:List Nat} {os:List AOper} {K:Ts→Prop} {ts:Ts} {h:Hp} (hg:ts t = .bool (!b)) (k:aquiet P G h os K (put ts d (.tup []))):aquiet P G h (⟨d,o,some (t,b),af⟩::os) K ts:=by
 show guardP ts (some (t,b)) _ _
 simp only [guardP,hg]
 exact ⟨fun e=>(by cases b <;> cases e),fun _=>k⟩
theorem gq_skipu {d:Option Nat} {o:AOp} {t:Nat} {b:Bool} {af:List Nat} {os:List AOper} {K:Ts→Prop} {ts:Ts} {h:Hp} (hg:ts t = .tup []) (k:aquiet P G h os K (put ts d (.tup []))):aquiet P G h (⟨d,o,some (t,b),af⟩::os) K ts:=by
 show guardP ts (some (t,b)) _ _
 simp only [guardP,hg]
 exact k
theorem gq_call {d:Option Nat} {f:FuncId} {as:List Opd} {vs:List A} {r:A} {af:List Nat} {os:List AOper} {K:Ts→Prop} {ts:Ts} {h:Hp} (ha:as.map (evX ts)=vs) (hcall:ACall P G f vs h fun v' h'=>v'=r∧h'=h) (k:aquiet P G h os K (put ts d r)):aquiet P G h (⟨d,.call f as,none,af⟩::os) K ts:=by
 subst ha; exact ⟨r,hcall,k⟩
theorem go_sk {Q:AExit→Ts→Hp→Prop} {ts:Ts} {h:Hp} (k:Q .normal ts h):awp P G .skip Q ts h:=k
theorem go_reg {ops:List AOper} {Q:AExit→Ts→Hp→Prop} {ts:Ts} {h:Hp} (k:aops P G ops (Q .normal) ts h):awp P G (.reg false ops) Q ts h:=k
theorem go_seq {x y:ACode} {Q:AExit→Ts→Hp→Prop} {ts:Ts} {h:Hp} (k:awp P G x (thenA (awp P G y Q) Q) ts h):awp P G (.seq x y) Q ts h:=k
theorem go_ct {c:Opd} {x y:ACode} {Q:AExit→Ts→Hp→Prop} {ts:Ts} {h:Hp} (hc:evX ts c = .bool true) (k:awp P G x Q ts h):awp P G (.cond c x y) Q ts h:=by
 show condP (evX ts c) _ _
 rw [hc]; exact ⟨fun _=>k,fun e=>(by cases e)⟩
theorem go_cf {c:Opd} {x y:ACode} {Q:AExit→Ts→Hp→Prop} {ts:Ts} {h:Hp} (hc:evX ts c = .bool false) (k:awp P G y Q ts h):awp P G (.cond c x y) Q ts h:=by
 show condP (evX ts c) _ _
 rw [hc]; exact ⟨fun e=>(by cases e),fun _=>k⟩
theorem go_cond {c:Opd} {b:Bool} {x y:ACode} {Q:AExit→Ts→Hp→Prop} {ts:Ts} {h:Hp} (hc:evX ts c = .bool b) (k1:b=true→awp P G x Q ts h) (k2:b=false→awp P G y Q ts h):awp P G (.cond c x y) Q ts h:=by
 show condP (evX ts c) _ _
 rw [hc]; exact ⟨k1,k2⟩
theorem go_blk {id:Nat} {c:ACode} {Q:AExit→Ts→Hp→Prop} {ts:Ts} {h:Hp} (k:awp P G c (blkA id Q) ts h):awp P G (.block id c) Q ts h:=k
theorem go_exit {id:Nat} {Q:AExit→Ts→Hp→Prop} {ts:Ts} {h:Hp} (k:Q (.exit id) ts h):awp P G (.exit id) Q ts h:=k
theorem go_ret {Q:AExit→Ts→Hp→Prop} {ts:Ts} {h:Hp} (k:Q .ret ts h):awp P G .ret Q ts h:=k
theorem go_tn {K:Ts→Hp→Prop} {Q:AExit→Ts→Hp→Prop} {ts:Ts} {h:Hp} (k:K ts h):thenA K Q .normal ts h:=k
theorem go_tr {K:Ts→Hp→Prop} {Q:AExit→Ts→Hp→Prop} {ts:Ts} {h:Hp} (k:Q .ret ts h):thenA K Q .ret ts h:=k
theorem go_te {K:Ts→Hp→Prop} {Q:AExit→Ts→Hp→Prop} {id:Nat} {ts:Ts} {h:Hp} (k:Q (.exit id) ts h):thenA K Q (.exit id) ts h:=k
theorem go_bn {id:Nat} {Q:AExit→Ts→Hp→Prop} {ts:Ts} {h:Hp} (k:Q .normal ts h):blkA id Q .normal ts h:=k
theorem go_br {id:Nat} {Q:AExit→Ts→Hp→Prop} {ts:Ts} {h:Hp} (k:Q .ret ts h):blkA id Q .ret ts h:=k
theorem go_be {id:Nat} {Q:AExit→Ts→Hp→Prop} {ts:Ts} {h:Hp} (k:Q .normal ts h):blkA id Q (.exit id) ts h:=by
 show if id=id then _ else _
 rw [if_pos rfl]; exact k
theorem go_bo {id id':Nat} {Q:AExit→Ts→Hp→Prop} {ts:Ts} {h:Hp} (hne:(id' == id)=false) (k:Q (.exit id') ts h):blkA id Q (.exit id') ts h:=by
 show if id'=id then _ else _
 rw [if_neg (by simpa using hne)]; exact k
theorem go_fr {rs:List ARes} {Q:A→Hp→Prop} {ts:Ts} {h:Hp} {l:List A} (hr:resA ts h rs=some l) (k:∃ v,le (tupA l) v∧Q v h):finQ rs Q .ret ts h:=by
 show finO (resA ts h rs) Q h
 rw [hr]; exact k
theorem go_fn {rs:List ARes} {Q:A→Hp→Prop} {ts:Ts} {h:Hp} {l:List A} (hr:resA ts h rs=some l) (k:∃ v,le (tupA l) v∧Q v h):finQ rs Q .normal ts h:=go_fr hr k
theorem pcall {f:FuncId} {args:List A} {r:A} (hc:ACall P G f args ⟨[],[]⟩ fun v _=>v=r) (hp:r.pure=true) (ha:args.all A.pure=true) (h:Hp):ACall P G f args h fun v h'=>v=r∧h'=h:=
 (hc.beside (fun v h' e=>by rw [e]; exact hp) ha h).mono fun v h' ⟨h1,_,h2⟩=>⟨h2,h1⟩
end
end AX
end Go.Proofs.YtahmpiioegemaaaGreatDoor

namespace Go.Proofs.YtahmpiioegemaaaGreatDoor
open Go.RowKit
namespace AX
def stageB (ops:List AOper) (acts:List Nat) (i k:Nat):Bool:=
 acts.zipIdx.all fun (a,m)=>(!((ops[i]?.map (·.after)).getD []).contains a||decide (m < k))&&(!(((ops[a]?.map (·.after)).getD []).contains i||a == i)||decide (k≤m))
def chainB (ops:List AOper) (acts:List Nat):Bool:=
 acts.zipIdx.all fun (a,m)=>decide (a < ops.length)&&((ops[a]?.map (·.guard.isNone)).getD false)&&(acts.take m).all fun a'=>((ops[a]?.map (·.after)).getD []).contains a'
def chainG (ops:List AOper) (acts:List Nat):Bool:=
 acts.zipIdx.all fun (a,m)=>decide (a < ops.length)&&(acts.take m).all fun a'=>((ops[a]?.map (·.after)).getD []).contains a'
theorem chainG_of {ops:List AOper} {acts:List Nat} (h:chainB ops acts=true):chainG ops acts=true:=by
 unfold chainB at h
 unfold chainG
 rw [List.all_eq_true] at h ⊢
 intro x hx
 have:=h x hx
 simp only [Bool.and_eq_true] at this ⊢
 exact ⟨this.1.1,this.2⟩
def stagesB (ops:List AOper) (acts:List Nat) (stg:List (List Nat)):Bool:=
 (List.range ops.length).all fun i=>(List.range (acts.length+1)).all fun k=>!stageB ops acts i k||(stg.getD i []).contains k
def forL (p:Nat→Prop):List Nat→Prop
 | []=>True
 | k::ks=>p k∧forL p ks
theorem forL_mem {p:Nat→Prop}:∀ {ks:List Nat},forL p ks→∀ k∈ks,p k
 | [],_,k,hk=>by simp at hk
 | a::ks,h,k,hk=>by
  rcases List.mem_cons.1 hk with rfl | hk
  ·exact h.1
  ·exact forL_mem h.2 k hk
def achain (P:Program) (G:World→Prop) (acts:List Nat) (hl:List Hp):Nat→List AOper→List (List Nat)→(Ts→Prop)→Ts→Prop
 | _,[],_,K,ts=>K ts
 | i,o::os,stg,K,ts=>∃ v,forL (fun k=>guardP ts o.guard (aopP P G (evX ts) (hl.getD k ⟨[],[]⟩) (fun v' h'=>v'=v∧h'=hl.getD (if acts[k]?=some i then k+1 else k) ⟨[],[]⟩) o.op) (v = .tup []∧hl.getD (if acts[k]?=some i then k+1 else k) ⟨[],[]⟩=hl.getD k ⟨[],[]⟩)) (stg.headD [])∧achain P G acts hl (i+1) os stg.tail K (put ts o.dst v)
section
variable {P:Program} {G:World→Prop}
theorem achain_trace {acts:List Nat} {hl:List Hp} {K:Ts→Prop}:∀ (os:List AOper) (b:Nat) (stg:List (List Nat)) (ts:Ts),achain P G acts hl b os stg K ts →
  ∃ vs:Nat→A,(∀ (i:Nat) (o:AOper),os[i]?=some o→∀ k∈stg.getD i [],guardP (pre ts os vs i) o.guard (aopP P G (evX (pre ts os vs i)) (hl.getD k ⟨[],[]⟩) (fun v' h'=>v'=vs i∧h'=hl.getD (if acts[k]?=some (b+i) then k+1 else k) ⟨[],[]⟩) o.op) (vs i = .tup []∧hl.getD (if acts[k]?=some (b+i) then k+1 else k) ⟨[],[]⟩=hl.getD k ⟨[],[]⟩))∧K (pre ts os vs os.length)
 | [],b,stg,ts,hp=>⟨fun _ => .tup [],fun i o hi=>by simp at hi,hp⟩
 | o::os,b,stg,ts,hp=>by
  obtain ⟨v,h1,h2⟩:=hp
  obtain ⟨vs,h3,h4⟩:=achain_trace os (b+1) stg.tail _ h2
  refine ⟨fun i=>match i with | 0=>v | i+1=>vs i,fun i o' hi k hk=>?_,h4⟩
  cases i with
  | zero =>
   simp at hi; subst hi
   have hk':k∈stg.headD []:=by cases stg with
    | nil=>simp at hk
    | cons a l=>simpa using hk
   exact forL_mem h1 k hk'
  | succ i =>
   have hk':k∈stg.tail.getD i []:=by cases stg with
    | nil=>simp at hk
    | cons a l=>simpa using hk
   have:=h3 i o' (by simpa using hi) k hk'
   rw [show b+1+i=b+(i+1) by omega] at this
   exact this
def cnt (acts:List Nat) (D:Nat→Bool):Nat:=(acts.takeWhile D).length
theorem cnt_of:∀ (acts:List Nat) (D:Nat→Bool) (c:Nat),c≤acts.length→(∀ m (h:m < acts.length),D acts[m]=true↔m < c)→cnt acts D=c
 | [],D,c,hc,h=>by simp at hc; subst hc; rfl
 | a::l,D,0,hc,h=>by
  have h0:=h 0 (by simp)
  simp at h0
  simp [cnt,List.takeWhile_cons,h0]
 | a::l,D,c+1,hc,h=>by
  have h0:=h 0 (by simp)
  simp at h0
  have ih:=cnt_of l D c (by simpa using hc) fun m hm=>by
   have:=h (m+1) (by simp; omega)
   simpa using this
  unfold cnt at ih ⊢
  rw [List.takeWhile_cons,h0]
  simp [ih]
theorem chain_after {ops:List AOper} {acts:List Nat} (hc:chainG ops acts=true) {m m':Nat} (hm:m < acts.length) (hlt:m' < m):∃ o,ops[acts[m]]?=some o∧acts[m']'(by omega)∈o.after:=by
 have h1:=List.all_eq_true.1 hc (acts[m],m) (List.mk_mem_zipIdx_iff_getElem?.2 (List.getElem?_eq_getElem hm))
 simp only [Bool.and_eq_true,decide_eq_true_eq] at h1
 have h2:=List.all_eq_true.1 h1.2 (acts[m']'(by omega)) (by rw [List.mem_take_iff_getElem]; exact ⟨m',by omega,rfl⟩)
 have hlt':=h1.1
 refine ⟨ops[acts[m]],List.getElem?_eq_getElem hlt',?_⟩
 rw [List.getElem?_eq_getElem hlt'] at h2
 simpa using h2
theorem cnt_spec {ops:List AOper} {acts:List Nat} (hc:chainG ops acts=true) {D:Nat→Bool} (hcl:Closed ops D):cnt acts D≤acts.length∧∀ m (h:m < acts.length),D acts[m]=true↔m < cnt acts D:=by
 have key:∃ c,c≤acts.length∧∀ m (h:m < acts.length),D acts[m]=true↔m < c:=by
  have hdown:∀ m m' (h:m < acts.length) (hlt:m' < m),D acts[m]=true→D (acts[m']'(by omega))=true:=fun m m' h hlt hD=>by
   obtain ⟨o,h1,h2⟩:=chain_after hc h hlt
   exact hcl _ _ h1 hD _ h2
  have hex:∀ n,n≤acts.length→∃ c,c≤n∧∀ m (h:m < n) (h':m < acts.length),D acts[m]=true↔m < c:=by
   intro n
   induction n with
   | zero=>exact fun _=>⟨0,Nat.le_refl _,fun m h=>by omega⟩
   | succ n ih =>
    intro hn
    obtain ⟨c,h1,h2⟩:=ih (by omega)
    by_cases hD:D (acts[n]'(by omega))=true
    ·refine ⟨n+1,Nat.le_refl _,fun m h h'=>⟨fun _=>h,fun _=>?_⟩⟩
     by_cases hmn:m=n
     ·subst hmn; exact hD
     ·exact hdown n m (by omega) (by omega) hD
    ·refine ⟨c,by omega,fun m h h'=>?_⟩
     by_cases hmn:m=n
     ·subst hmn
      exact ⟨fun h=>absurd h hD,fun h=>by omega⟩
     ·exact h2 m (by omega) h'
  obtain ⟨c,h1,h2⟩:=hex acts.length (Nat.le_refl _)
  exact ⟨c,h1,fun m h=>h2 m h h⟩
 obtain ⟨c,h1,h2⟩:=key
 rw [cnt_of acts D c h1 h2]
 exact ⟨h1,h2⟩
theorem adraw_chain {ops:List AOper} {K:Ts→Hp→Prop} {ts:Ts} (acts:List Nat) (hl:List Hp) (stg:List (List Nat)) (he:edgesB 0 ops=true) (hs:seesB ops=true) (hc:chainG ops acts=true) (hst:stagesB ops acts stg=true)
  (hp:achain P G acts hl 0 ops stg (fun ts=>K ts (hl.getD acts.length ⟨[],[]⟩)) ts):adraw P G ops K ts (hl.getD 0 ⟨[],[]⟩):=by
 obtain ⟨vs,t1,t2⟩:=achain_trace ops 0 stg ts hp
 refine adraw_of he vs (fun D=>hl.getD (cnt acts D) ⟨[],[]⟩) ?_ (fun D i o hi hDi hcl haf=>?_) ?_
 ·show hl.getD (cnt acts _) _=_
  rw [cnt_of acts (fun _=>false) 0 (Nat.zero_le _) (fun m h=>by simp)]
 ·obtain ⟨hk1,hk2⟩:=cnt_spec hc hcl
  generalize hkD:cnt acts D=k at hk1 hk2
  have hsee:=TD_sees he hs hi hDi hcl haf vs ts
  have hilt:i < ops.length:=(List.getElem?_eq_some_iff.1 hi).1
  have hmem:k∈stg.getD i []:=by
   have h1:=List.all_eq_true.1 (List.all_eq_true.1 hst i (List.mem_range.2 hilt)) k (List.mem_range.2 (by omega))
   have h2:stageB ops acts i k=true:=by
    unfold stageB
    refine List.all_eq_true.2 ?_
    rintro ⟨a,m⟩ hm
    have hm':=List.mk_mem_zipIdx_iff_getElem?.1 hm
    obtain ⟨hml,hma⟩:=List.getElem?_eq_some_iff.1 hm'
    subst hma
    simp only [Bool.and_eq_true,Bool.or_eq_true,decide_eq_true_eq,Bool.not_eq_true']
    constructor
    ·by_cases hin:acts[m]∈o.after
     ·right; exact (hk2 m hml).1 (haf _ hin)
     ·left; rw [hi]; simpa using hin
    ·by_cases hin:D acts[m]=true
     ·left
      simp only [Bool.or_eq_false_iff]
      constructor
      ·cases ho:ops[acts[m]]? with
       | none=>simp
       | some o' =>
        simp only [Option.map_some,Option.getD_some]
        rw [Bool.eq_false_iff]
        intro hcon
        have:=hcl _ _ ho hin i (by simpa using hcon)
        rw [hDi] at this; cases this
      ·rw [Bool.eq_false_iff]
       intro hcon
       have:acts[m]=i:=by simpa using hcon
       rw [this,hDi] at hin; cases hin
     ·right
      have:=mt (hk2 m hml).2 hin
      omega
   rw [h2] at h1
   simpa using h1
  have h3:=t1 i o hi k hmem
  rw [Nat.zero_add] at h3
  have hpre:pre ts ops vs i=TD ops vs ts (fun j=>decide (j < i)):=funext fun x=>pre_eq ops 0 ts vs i he (by omega) x
  rw [hpre] at h3
  have hcnt:cnt acts (fun j=>j == i||D j)=if acts[k]?=some i then k+1 else k:=by
   have hnd:∀ m m' (h:m < acts.length) (h':m' < m),acts[m]≠acts[m']'(by omega):=fun m m' h h' e=>by
    obtain ⟨o',h1,h2⟩:=chain_after hc h h'
    have:=edgesB_after he _ _ h1 _ h2
    omega
   split
   ·next hki =>
    obtain ⟨hkl,hki⟩:=List.getElem?_eq_some_iff.1 hki
    refine cnt_of acts _ (k+1) (by omega) fun m h=>?_
    simp only [Bool.or_eq_true,beq_iff_eq]
    rw [hk2 m h]
    constructor
    ·rintro (h1 | h1)
     ·rcases Nat.lt_trichotomy m k with h4 | h4 | h4
      ·omega
      ·omega
      ·exact absurd (h1.trans hki.symm) (hnd m k h h4)
     ·omega
    ·intro h1
     by_cases hmk:m=k
     ·subst hmk; exact .inl hki
     ·exact .inr (by omega)
   ·next hki =>
    refine cnt_of acts _ k hk1 fun m h=>?_
    simp only [Bool.or_eq_true,beq_iff_eq]
    rw [hk2 m h]
    constructor
    ·rintro (h1 | h1)
     ·exfalso
      have h5:¬ m < k:=fun h6=>by have:=(hk2 m h).2 h6; rw [h1,hDi] at this; cases this
      have h6:m≠k:=fun e=>by subst e; exact hki (by rw [List.getElem?_eq_getElem h,h1])
      obtain ⟨o',h7,h8⟩:=chain_after hc h (show k < m by omega)
      rw [h1,hi] at h7; injection h7 with h7; subst h7
      have:=(hk2 k (by omega)).1 (haf _ h8)
      omega
     ·exact h1
    ·exact fun h1 => .inr h1
  rw [hcnt]
  refine guardP_sees (fun x hx=>(hsee x hx).symm) ?_
  refine guardP_mono (fun hq=>?_) (fun hq=>hq) h3
  exact aopP_congr (evX_sees fun x hx=>(hsee x hx).symm) hq
 ·have e1:pre ts ops vs ops.length=TD ops vs ts (fun j=>decide (j < ops.length)):=funext fun x=>pre_eq ops 0 ts vs _ he (Nat.le_refl _) x
  show K _ (hl.getD (cnt acts _) _)
  rw [←e1,cnt_of acts _ acts.length (Nat.le_refl _) fun m h=>?_]
  ·exact t2
  ·have h1:=List.all_eq_true.1 hc (acts[m],m) (List.mk_mem_zipIdx_iff_getElem?.2 (List.getElem?_eq_getElem h))
   simp only [Bool.and_eq_true,decide_eq_true_eq] at h1
   simp [h1.1,h]
variable {acts:List Nat} {hl:List Hp} {stg:List (List Nat)} {i:Nat} {ks:List Nat} {d:Option Nat} {af:List Nat} {os:List AOper} {K:Ts→Prop} {ts:Ts} {v:A}
end
end AX
end Go.Proofs.YtahmpiioegemaaaGreatDoor
