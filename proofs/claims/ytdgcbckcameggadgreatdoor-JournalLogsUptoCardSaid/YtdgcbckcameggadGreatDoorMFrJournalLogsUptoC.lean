/- Part of what the proof needs. -/
import Derived.Test.YtdgcbckcameggadGreatDoorMFrJournalLogsUpto0
import Derived.Test.YtdgcbckcameggadGreatDoorMFrJournalLogsUptoB
import Derived.Orders
import Derived.IntWalk
set_option maxHeartbeats 4000000
set_option linter.unusedSimpArgs false
set_option linter.unusedVariables false
set_option linter.unnecessarySimpa false
namespace Go.Proofs.YtdgcbckcameggadGreatDoor
open Go.RowKit
namespace AX
section
variable {P:Program} {G:World→Prop}
theorem azr{ts:Ts}{g:Option (Nat×Bool)}{p p' q q':Prop}(hp:p→p')(hq:q→q')(h:guardP ts g p q):guardP ts g p' q':=by
 unfold guardP at *;split at h
 ·exact hp h
 ·split at h
  ·exact⟨fun e=>hp (h.1 e),fun e=>hq (h.2 e)⟩
  ·exact hq h
  ·exact h.elim
theorem cqs{r:Option (A×Hp)}{K K':A→Hp→Prop}(hk:∀ v h,K v h→K' v h)(h:optP r K):optP r K':=by
 cases r with
 |none=>exact h
 |some r=>exact hk _ _ h
theorem axj{ev:Opd→A}{h:Hp}{K K':A→Hp→Prop}(hk:∀ v h,K v h→K' v h){o:AOp}(hp:aopP P G ev h K o):aopP P G ev h K' o:=by
 cases o with
 |call f args=>exact ACall.mono hp hk
 |callv x args =>
  obtain⟨f,caps,h1,h2,h3⟩:=hp;exact⟨f,caps,h1,h2,ACall.mono h3 hk⟩
 |_=>simp only[aopP]at hp ⊢;exact cqs hk hp
end
def TD(ops:List AOper)(vals:Nat→A)(ts:Ts)(D:Nat→Bool):Ts:=fun x =>
 match ops.findIdx? (fun o=>o.dst==some x)with
 |some j=>if D j=true then vals j else ts x
 |none=>ts x
def Closed(ops:List AOper)(D:Nat→Bool):Prop:=∀ j o,ops[j]?=some o→D j=true→∀ k∈o.after,D k=true
def adraw(P:Program)(G:World→Prop)(ops:List AOper)(K:Ts→Hp→Prop)(ts:Ts)(h:Hp):Prop:=
 ∃ I:(Nat→Bool)→Ts→Hp→Prop,I (fun _=>false) ts h ∧
  (∀ D i o ts h,I D ts h→ops[i]?=some o→D i=false→Closed ops D→(∀ j∈o.after,D j=true) →
   guardP ts o.guard (aopP P G (evX ts) h (fun v h'=>I (fun j=>j==i||D j) (put ts o.dst v) h') o.op) (I (fun j=>j==i||D j) (put ts o.dst (.tup [])) h)) ∧
  ∀ ts h,I (fun j=>decide (j<ops.length)) ts h→K ts h
def edgesB:Nat→List AOper→Bool
 |_,[]=>true
 |i,o::os=>o.after.all (fun j=>decide (j<i))&&(match o.dst with|none=>true|some d=>os.all fun o'=>o'.dst !=some d)&&edgesB (i+1) os
inductive AExit.Is:AExit→Exit→Prop
 |normal:AExit.Is .normal .normal
 |exit (id:Nat):AExit.Is (.exit id) (.exit id)
 |ret:AExit.Is .ret .ret
def thenA(next:Ts→Hp→Prop)(Q:AExit→Ts→Hp→Prop):AExit→Ts→Hp→Prop
 |.normal=>next
 |e=>Q e
def blkA(id:Nat)(Q:AExit→Ts→Hp→Prop):AExit→Ts→Hp→Prop
 |.exit id'=>fun ts h=>if id'=id then Q .normal ts h else Q (.exit id') ts h
 |e=>Q e
def aloop(body:(AExit→Ts→Hp→Prop)→Ts→Hp→Prop)(Q:AExit→Ts→Hp→Prop):Nat→Ts→Hp→Prop
 |0=>fun _ _=>False
 |k+1=>body (thenA (aloop body Q k) Q)
def Post(G:World→Prop)(C0:Ctx)(n:Nat)(Q:AExit→Ts→Hp→Prop)(e:Exit)(a:Act)(w:World):Prop:=
 ∃(C:Ctx) (ts:Ts) (h:Hp) (ae:AExit),ae.Is e∧C.w=w∧Inv G C h∧Step C0 C∧RepT C ts n a∧a.defers=[]∧Q ae ts h
def awp(P:Program)(G:World→Prop):ACode→(AExit→Ts→Hp→Prop)→Ts→Hp→Prop
 |.skip,Q=>Q .normal
 |.reg false ops,Q=>aops P G ops (Q .normal)
 |.reg true ops,Q=>fun ts h=>edgesB 0 ops=true∧adraw P G ops (Q .normal) ts h
 |.seq x y,Q=>awp P G x (thenA (awp P G y Q) Q)
 |.cond c x y,Q=>fun ts h=>condP (evX ts c) (awp P G x Q ts h) (awp P G y Q ts h)
 |.block id c,Q=>awp P G c (blkA id Q)
 |.loop c,Q=>fun ts h=>∃ k,aloop (awp P G c) Q k ts h
 |.exit id,Q=>Q (.exit id)
 |.ret,Q=>Q .ret
 |.prim n c,Q=>fun ts h=>∀(C:Ctx) (a:Act),Inv G C h→RepT C ts n a→a.defers=[]→c.wp P (Post G C n Q) a C.w
section
variable {P:Program} {G:World→Prop} {n:Nat} {C0:Ctx}
theorem awh{C:Ctx}{ts:Ts}{a:Act}{o:Oper}{ops:Array Oper}{g:Option (Nat×Bool)}{p q:Prop}(hT:RepT C ts n a)(hg:compGuard n ops o.guard=some g)(hp:guardP ts g p q) :
  (Region.wanted o (yielded ops a.tmps)=true∧p)∨(Region.wanted o (yielded ops a.tmps)=false∧q):=by
 cases hog:o.guard with
 |none =>
  rw[hog]at hg;simp only[compGuard,Zb]at hg;subst hg;exact .inl ⟨by simp[Region.wanted,hog],hp⟩
 |some jb =>
  obtain⟨j,b⟩:=jb;rw[hog]at hg;simp only[compGuard,Ze,Zv,Zb]at hg;obtain⟨t,⟨oj,h1,h2⟩,h3,rfl⟩:=hg;have hr:=hT.rep t h3;have hlt:t<a.tmps.size:=by rw[hT.size];exact h3
  have hy:yielded ops a.tmps j=match a.tmps.getD t undef with|.bool b=>some b|_=>none:=by
   unfold yielded;rw[h1,YF,h2,YF];rw[Y0 hlt];rw[show a.tmps.getD t undef=a.tmps[t] by rw[YE,Y0 hlt];rfl];cases a.tmps[t]<;>rfl
  simp only[guardP]at hp;unfold Region.wanted;rw[hog];simp only[hy];split at hp
  ·next c e =>
   rw[e,aqo]at hr;rw[hr];by_cases hcb:c=b
   ·exact .inl ⟨by simp[hcb],hp.1 hcb⟩
   ·exact .inr ⟨by simp[hcb],hp.2 (by cases c<;>cases b<;>simp_all)⟩
  ·next e =>
   rw[e]at hr;obtain⟨cs,h4,h5⟩:=rep_tup.1 hr;rw[repL_nil]at h5;subst h5;rw[h4];exact .inr ⟨by simp,hp⟩
  ·exact hp.elim
theorem aj2{C:Ctx}:Rep C (.tup []) undef:=rep_tup.2 ⟨[],rfl,repL_nil.2 rfl⟩
theorem ays{ops:Array Oper}{draw:Bool}{K:Ts→Hp→Prop}{Q:Exit→Act→World→Prop}(hK:∀(C:Ctx) (ts:Ts) (h:Hp) (a:Act),Inv G C h→Step C0 C→RepT C ts n a→a.defers=[]→K ts h→Q .normal a C.w) :
  ∀(os:List Oper) (l:List AOper),compOpers P n draw ops os=some l→∀(C:Ctx) (ts:Ts) (h:Hp) (a:Act),Inv G C h→Step C0 C→RepT C ts n a→a.defers=[]→aops P G l K ts h→wpList P ops Q os a C.w
 |[],l,hc,C,ts,h,a,hI,hS,hT,hd,hk=>by
  simp only[compOpers,Zb]at hc;subst hc;exact hK C ts h a hI hS hT hd hk
 |o::os,l,hc,C,ts,h,a,hI,hS,hT,hd,hk=>by
  simp only[compOpers,Zv,Ze,Zb]at hc;obtain⟨hdst,ao,h1,g,h2,l',h3,rfl⟩:=hc;simp only[aops]at hk;have ih:=ays hK os l' h3;unfold wpList;rcases awh hT h2 hk with⟨hw,hk⟩|⟨hw,hk⟩
  ·rw[if_pos hw];refine .inl (cql hI hT h1 hk fun C' h' v cv k1 k2 k3 k4=>?_);exact ih C' _ h' _ k1 (hS.trans k2) ((hT.ext k2.ext).put hdst k3) (by rw[put_defers];exact hd) k4
  ·rw[if_neg (by simp[hw])];exact ih C _ h _ hI hS (hT.put hdst aj2) (by rw[put_defers];exact hd) hk
theorem aqd:∀ {ops:List AOper} {k:Nat},edgesB k ops=true→∀ i o,ops[i]?=some o→∀ j∈o.after,j<k+i
 |[],k,h,i,o,hi=>by simp at hi
 |x::ops,k,h,0,o,hi=>by
  simp only[edgesB,Zc,ZF,Zq]at h;simp at hi;subst hi;intro j hj;simpa using h.1.1 j hj
 |x::ops,k,h,i+1,o,hi=>by
  simp only[edgesB,Zc]at h;intro j hj;have:=aqd h.2 i o (by simpa using hi) j hj;omega
theorem ayp:∀ {ops:List AOper} {k:Nat},edgesB k ops=true→∀(i:Nat) (o:AOper) (d:Nat),ops[i]?=some o→o.dst=some d→ops.findIdx? (fun o=>o.dst==some d)=some i
 |[],k,h,i,o,d,hi,hd=>by simp at hi
 |x::ops,k,h,0,o,d,hi,hd=>by
  simp at hi;subst hi;simp[List.findIdx?_cons,hd]
 |x::ops,k,h,i+1,o,d,hi,hd=>by
  simp only[edgesB,Zc]at h;have hi':ops[i]?=some o:=by simpa using hi
  have:=ayp h.2 i o d hi' hd;rw[List.findIdx?_cons];have hx:(x.dst==some d)=false:=by
   cases hxd:x.dst with
   |none=>rfl
   |some e =>
    have h2:=h.1.2;rw[hxd]at h2;simp only[ZF,Zab,ne_eq]at h2;have:=h2 o (List.mem_of_getElem? hi');rw[hd]at this;simp only[Zb]at this;simp only[Zu,ne_eq,Zb];exact fun e'=>this e'.symm
  rw[hx,this];simp
theorem axp{draw:Bool}{ops:Array Oper}:∀ {os:List Oper} {l:List AOper},compOpers P n draw ops os=some l→l.length=os.length∧∀(i:Nat) (o:Oper),os[i]?=some o→∃ ao g,l[i]?=some ⟨o.dst,ao,g,if draw then afterOf o else[]⟩∧compDst n o.dst=true∧compOp' P n ops.toList o=some ao∧compGuard n ops o.guard=some g
 |[],l,hc=>by
  simp only[compOpers,Zb]at hc;subst hc;exact⟨rfl,fun i o hi=>by simp at hi⟩
 |x::os,l,hc=>by
  simp only[compOpers,Zv,Ze,Zb]at hc;obtain⟨hdst,ao,h1,g,h2,l',h3,rfl⟩:=hc;obtain⟨ih1,ih2⟩:=axp h3;refine⟨by simp[ih1],fun i o hi=>?_⟩;cases i with
  |zero =>
   simp at hi;subst hi;exact⟨ao,g,rfl,hdst,h1,h2⟩
  |succ i=>exact ih2 i o (by simpa using hi)
theorem afterOf_mem{o:Oper}{j:Nat}:j∈afterOf o↔∃ e∈o.after,Region.binds .any e=true∧e.on=j:=by
 unfold afterOf;rw[List.mem_filterMap];constructor
 ·rintro⟨e,h1,h2⟩;split at h2
  ·next hb=>injection h2 with h2;exact⟨e,by simpa using h1,hb,h2⟩
  ·cases h2
 ·rintro⟨e,h1,h2,h3⟩;exact⟨e,by simpa using h1,by rw[if_pos h2,h3]⟩
theorem ckh{l:List AOper}(he:edgesB 0 l=true){vals:Nat→A}{ts:Ts}{D:Nat→Bool}{i:Nat}{o:AOper}(k1:l[i]?=some o) :
  put (TD l vals ts D) o.dst (vals i)=TD l vals ts (fun j=>j==i||D j):=by
  funext x
  cases hd':o.dst with
  |none =>
   show TD l vals ts _ x=_
   unfold TD;cases hf:l.findIdx? (fun o=>o.dst==some x)with
   |none=>rfl
   |some j =>
    have hji:j≠i:=fun e=>by
     subst e;obtain⟨hj,hj2,_⟩:=List.findIdx?_eq_some_iff_getElem.1 hf;rw[Zm hj]at k1;injection k1 with k1;rw[k1,hd']at hj2;simp at hj2
    simp[hji]
  |some d =>
   show(if x=d then vals i else TD l vals ts _ x)=_
   have hfd:=ayp he i _ d k1 hd';by_cases e:x=d
   ·subst e;rw[if_pos rfl];unfold TD;rw[hfd];simp
   ·rw[if_neg e];unfold TD;cases hf:l.findIdx? (fun o=>o.dst==some x)with
    |none=>rfl
    |some j =>
     have hji:j≠i:=fun e'=>by
      subst e';obtain⟨hj,hj2,_⟩:=List.findIdx?_eq_some_iff_getElem.1 hf;rw[Zm hj]at k1;injection k1 with k1;rw[k1,hd']at hj2;simp at hj2;exact e hj2.symm
     simp[hji]
theorem akg{P:Program}{G:World→Prop}{ops:List AOper}{K:Ts→Hp→Prop}{ts:Ts}{h:Hp}(he:edgesB 0 ops=true)(vals:Nat→A)(HD:(Nat→Bool)→Hp)(h0:HD (fun _=>false)=h)
  (hop:∀ D i o,ops[i]?=some o→D i=false→Closed ops D→(∀ j∈o.after,D j=true) →
   guardP (TD ops vals ts D) o.guard (aopP P G (evX (TD ops vals ts D)) (HD D) (fun v h'=>v=vals i∧h'=HD (fun j=>j==i||D j)) o.op) (vals i=.tup []∧HD (fun j=>j==i||D j)=HD D))
  (hfin:K (TD ops vals ts fun j=>decide (j<ops.length)) (HD fun j=>decide (j<ops.length))):adraw P G ops K ts h:=by
 refine⟨fun D ts' h'=>ts'=TD ops vals ts D∧h'=HD D,⟨?_,h0.symm⟩,?_,?_⟩
 ·funext x
  unfold TD;split<;>simp
 ·rintro D i o ts' h' ⟨rfl,rfl⟩ k1 hDi hcl haf;refine azr (fun hq=>axj (fun v h' hv=>?_) hq) (fun hq=>?_) (hop D i o k1 hDi hcl haf)
  ·obtain⟨rfl,rfl⟩:=hv;exact⟨ckh he k1,rfl⟩
  ·refine⟨?_,hq.2.symm⟩;rw[←ckh he k1,hq.1]
 ·rintro ts' h' ⟨rfl,rfl⟩;exact hfin
theorem bvh{ops:Array Oper}{l:List AOper}{K:Ts→Hp→Prop}{Q:Exit→Act→World→Prop}(hK:∀(C:Ctx) (ts:Ts) (h:Hp) (a:Act),Inv G C h→Step C0 C→RepT C ts n a→a.defers=[]→K ts h→Q .normal a C.w)
  (hc:compOpers P n true ops ops.toList=some l) (he:edgesB 0 l=true) (I:(Nat→Bool)→Ts→Hp→Prop)
  (hop:∀ D i o ts h,I D ts h→l[i]?=some o→D i=false→Closed l D→(∀ j∈o.after,D j=true) →
   guardP ts o.guard (aopP P G (evX ts) h (fun v h'=>I (fun j=>j==i||D j) (put ts o.dst v) h') o.op) (I (fun j=>j==i||D j) (put ts o.dst (.tup [])) h))
  (hfin:∀ ts h,I (fun j=>decide (j<l.length)) ts h→K ts h) :
  ∀(fuel:Nat) (listed:Array Bool) (C:Ctx) (a:Act) (ts:Ts) (h:Hp),listed.size=ops.size→Closed l (fun j=>listed.getD j false)→(listed.toList.filter (· == false)).length≤fuel →
   I (fun j=>listed.getD j false) ts h→Inv G C h→Step C0 C→RepT C ts n a→a.defers=[]→wpAny P .any ops Q fuel listed a C.w:=by
 obtain⟨hlen,hget⟩:=axp hc;have hlen':l.length=ops.size:=by rw[hlen];simp
 have hdone:∀(listed:Array Bool) (C:Ctx) (a:Act) (ts:Ts) (h:Hp),listed.size=ops.size→I (fun j=>listed.getD j false) ts h→Inv G C h→Step C0 C→RepT C ts n a→a.defers=[]→Region.ready .any ops listed=[]→Q .normal a C.w:=by
  intro listed C a ts h hsz hi0 hI hS hT hd hr;have hall:∀ j,j<ops.size→listed.getD j false=true:=by
   intro j;induction j using Nat.strongRecOn with
   |_ j ih =>
    intro hj;cases hlj:listed.getD j false with
    |true=>rfl
    |false =>
     exfalso
     have hoj:ops[j]?=some ops[j]:=Y0 hj;obtain⟨ao,g,h1,h2,h3,h4⟩:=hget j ops[j] (by simpa using hoj);have:j∈Region.ready .any ops listed:=by
      refine mem_ready.2 ⟨?_,ops[j],hoj,fun e hem hb=>?_⟩
      ·rw[YE]at hlj ⊢;rw[Y0 (by omega)]at hlj ⊢;exact hlj
      ·have hlt:=aqd he j _ h1 e.on (by simp only[if_true];exact afterOf_mem.2 ⟨e,hem,hb,rfl⟩);exact ih e.on (by omega) (by omega)
     rw[hr]at this;simp at this
  have hD:(fun j=>listed.getD j false)=fun j=>decide (j<l.length):=by
   funext j
   by_cases hj:j<ops.size
   ·rw[hall j hj];simp[hlen',hj]
   ·rw[YE,Array.getElem?_eq_none (by omega)];simp[hlen',hj]
  rw[hD]at hi0;exact hK C _ _ a hI hS hT hd (hfin _ _ hi0)
 intro fuel;induction fuel with
 |zero =>
  intro listed C a ts h hsz hcl hf hi0 hI hS hT hd;have hnil:Region.ready .any ops listed=[]:=by
   cases hr:Region.ready .any ops listed with
   |nil=>rfl
   |cons i rs =>
    exfalso
    obtain⟨h1,o,h2,_⟩:=mem_ready.1 (by rw[hr];simp:i∈Region.ready .any ops listed);have hi:i<listed.size:=by rw[hsz];exact(ZX.1 h2).1
    have:listed[i]=false:=by
     rw[YE,Y0 hi]at h1;exact h1
    have hm:listed[i]∈listed.toList.filter (· == false):=List.mem_filter.2 ⟨by simp,by rw[this];rfl⟩;have:=List.length_pos_of_mem hm;omega
  exact⟨hnil,hdone listed C a ts h hsz hi0 hI hS hT hd hnil⟩
 |succ fuel ih =>
  intro listed C a ts h hsz hcl hf hi0 hI hS hT hd;refine⟨fun hr=>hdone listed C a ts h hsz hi0 hI hS hT hd hr,fun i hi=>?_⟩;obtain⟨h1,o,h2,h3⟩:=mem_ready.1 hi;have hilt:i<ops.size:=(ZX.1 h2).1;have hil:i<listed.size:=by omega
  have hif:listed[i]=false:=by
   rw[YE,Y0 hil]at h1;exact h1
  have hDi:listed.getD i false=false:=by rw[YE,Y0 hil];exact hif
  obtain⟨ao,g,k1,k2,k3,k4⟩:=hget i o (by simpa using h2);have hset:(fun j=>(listed.setIfInBounds i true).getD j false)=fun j=>j==i||listed.getD j false:=by
   funext j
   by_cases e:j=i
   ·subst e;simp[hil]
   ·rw[getD_set_ne false (fun h=>e h.symm)];simp[e]
  have hcl':Closed l (fun j=>(listed.setIfInBounds i true).getD j false):=by
   rw[hset];intro j oj hj hDj k hk;simp only[ZS,ZC]at hDj ⊢;rcases hDj with rfl|hDj
   ·rw[k1]at hj;injection hj with hj;subst hj
    simp only[if_true]at hk;obtain⟨e,he1,he2,rfl⟩:=afterOf_mem.1 hk;exact .inr (h3 e he1 he2)
   ·exact .inr (hcl j oj hj hDj k hk)
  have hf':((listed.setIfInBounds i true).toList.filter (· == false)).length≤fuel:=by
   rw[Array.toList_setIfInBounds];have hsplit:listed.toList=listed.toList.take i++false::listed.toList.drop (i+1):=by
    have:listed.toList[i]'(by simpa using hil)=false:=by simpa using hif
    conv=>lhs;rw[←Yj i listed.toList,Zo (by simpa using hil),this]
   have h4:(listed.toList.filter (· == false)).length=((listed.toList.take i).filter (· == false)).length+(((listed.toList.drop (i+1)).filter (· == false)).length+1):=by
    conv=>lhs;rw[hsplit]
    simp[List.filter_append]
   rw[List.set_eq_take_append_cons_drop,if_pos (by simpa using hil)];simp only[List.filter_append,Za];rw[List.filter_cons_of_neg (by simp)];omega
  have hgd:=hop (fun j=>listed.getD j false) i _ ts h hi0 k1 hDi hcl (fun j hj=>by
   simp only[if_true]at hj;obtain⟨e,he1,he2,rfl⟩:=afterOf_mem.1 hj
   exact h3 e he1 he2)
  unfold wpOp;rw[h2];simp only;rcases awh hT k4 hgd with⟨hw,hk⟩|⟨hw,hk⟩
  ·rw[if_pos hw];refine .inl (cql hI hT k3 hk fun C' h' v cv q1 q2 q3 q4=>?_);refine ih _ C' _ (put ts o.dst v) h' (by simpa using hsz) hcl' hf' (by rw[hset];exact q4) q1 (hS.trans q2) ?_ (by rw[put_defers];exact hd);exact(hT.ext q2.ext).put k2 q3
  ·rw[if_neg (by simp[hw])];refine ih _ C _ (put ts o.dst (.tup [])) h (by simpa using hsz) hcl' hf' (by rw[hset];exact hk) hI hS ?_ (by rw[put_defers];exact hd);exact hT.put k2 aj2
theorem cqh(hm:P.follows .mixedOrders=true):∀(c:Code) (ac:ACode),comp P n c=some ac→∀(Q:AExit→Ts→Hp→Prop) (ts:Ts) (h:Hp),awp P G ac Q ts h→∀(C:Ctx) (a:Act),Inv G C h→Step C0 C→RepT C ts n a→a.defers=[]→c.wp P (Post G C0 n Q) a C.w:=by
 intro c;induction c with
 |skip =>
  intro ac hc Q ts h hw C a hI hS hT hd;simp only[comp,Zb]at hc;subst hc;exact wp_skip ⟨C,ts,h,.normal,.normal,rfl,hI,hS,hT,hd,hw⟩
 |region id ops draw =>
  intro ac hc Q ts h hw C a hI hS hT hd;simp only[comp]at hc;split at hc;rotate_left
  ·injection hc with hc;subst hc;refine wp_mono (hw C a hI hT hd) ?_;rintro e a' w ⟨C1,ts1,hp1,ae,hae,rfl,i1,s1,t1,d1,q1⟩;exact⟨C1,ts1,hp1,ae,hae,rfl,i1,hS.trans s1,t1,d1,q1⟩
  next l h1 =>
  injection hc with hc;subst hc;have hK:∀(C:Ctx) (ts:Ts) (h:Hp) (a:Act),Inv G C h→Step C0 C→RepT C ts n a→a.defers=[]→Q .normal ts h→Post G C0 n Q .normal a C.w:=fun C ts h a hI hS hT hd hq=>⟨C,ts,h,.normal,.normal,rfl,hI,hS,hT,hd,hq⟩
  cases draw with
  |false=>exact wp_region_list (ays hK ops.toList l h1 C ts h a hI hS hT hd hw)
  |true =>
   obtain⟨he,I,h0,hop,hfin⟩:=hw;refine wp_region_any hm ?_;have hlen:=(axp h1).1;have hD:(fun j=>(Array.replicate ops.size false).getD j false)=fun _=>false:=by
    funext j
    rw[YE];by_cases hj:j<ops.size
    ·simp[hj]
    ·simp[hj]
   have hb:Below C.w.heap.size C.w C.w.drew:=bdrew C.w;obtain⟨i1,s1⟩:=aq7 hI hb;refine bvh hK h1 he I hop hfin ops.size (Array.replicate ops.size false) (C.at C.w.drew) a ts h (by simp) ?_ (by simp[List.filter_replicate]) (by rw[hD];exact h0) i1 (hS.trans s1) (hT.ext s1.ext) hd;rw[hD];intro j o _ hj;cases hj
 |seq x y ihx ihy =>
  intro ac hc Q ts h hw C a hI hS hT hd;simp only[comp,Ze,Zb]at hc;obtain⟨ax,h1,ay,h2,rfl⟩:=hc;refine wp_seq (wp_mono (ihx ax h1 _ ts h hw C a hI hS hT hd) ?_);rintro e a' w ⟨C1,ts1,hp1,ae,hae,rfl,i1,s1,t1,d1,q1⟩;cases hae with
  |normal=>exact ihy ay h2 Q ts1 hp1 q1 C1 a' i1 s1 t1 d1
  |exit id=>exact⟨C1,ts1,hp1,.exit id,.exit id,rfl,i1,s1,t1,d1,q1⟩
  |ret=>exact⟨C1,ts1,hp1,.ret,.ret,rfl,i1,s1,t1,d1,q1⟩
 |cond b x y ihx ihy =>
  intro ac hc Q ts h hw C a hI hS hT hd;simp only[comp,Ze,Zb]at hc;obtain⟨ab,h0,ax,h1,ay,h2,rfl⟩:=hc;simp only[awp]at hw;have hr:=azi hT h0;cases hb:evX ts ab with
  |bool t =>
   rw[hb]at hw hr;rw[aqo]at hr;refine wp_cond_split hr (fun ht=>?_) (fun ht=>?_)
   ·exact ihx ax h1 Q ts h (hw.1 ht) C a hI hS hT hd
   ·exact ihy ay h2 Q ts h (hw.2 ht) C a hI hS hT hd
  |_=>rw[hb]at hw;exact hw.elim
 |block id x ihx =>
  intro ac hc Q ts h hw C a hI hS hT hd;simp only[comp,Ze,Zb]at hc;obtain⟨ax,h1,rfl⟩:=hc;refine wp_block (wp_mono (ihx ax h1 _ ts h hw C a hI hS hT hd) ?_);rintro e a' w ⟨C1,ts1,hp1,ae,hae,rfl,i1,s1,t1,d1,q1⟩;cases hae with
  |normal=>exact⟨C1,ts1,hp1,.normal,.normal,rfl,i1,s1,t1,d1,q1⟩
  |exit id' =>
   simp only[blkA]at q1;show if id'=id then _ else _
   split at q1
   ·next e=>rw[if_pos e];exact⟨C1,ts1,hp1,.normal,.normal,rfl,i1,s1,t1,d1,q1⟩
   ·next e=>rw[if_neg e];exact⟨C1,ts1,hp1,.exit id',.exit id',rfl,i1,s1,t1,d1,q1⟩
  |ret=>exact⟨C1,ts1,hp1,.ret,.ret,rfl,i1,s1,t1,d1,q1⟩
 |loop x ihx =>
  intro ac hc Q ts h hw C a hI hS hT hd;simp only[comp,Ze,Zb]at hc;obtain⟨ax,h1,rfl⟩:=hc;obtain⟨k,hk⟩:=hw;refine wp_loop_rounds k ?_;revert ts h C a;induction k with
  |zero=>intro ts h C a hI hS hT hd hk;exact hk.elim
  |succ k ih =>
   intro ts h C a hI hS hT hd hk;refine wp_mono (ihx ax h1 _ ts h hk C a hI hS hT hd) ?_;rintro e a' w ⟨C1,ts1,hp1,ae,hae,rfl,i1,s1,t1,d1,q1⟩;cases hae with
   |normal=>exact ih ts1 hp1 C1 a' i1 s1 t1 d1 q1
   |exit id=>exact⟨C1,ts1,hp1,.exit id,.exit id,rfl,i1,s1,t1,d1,q1⟩
   |ret=>exact⟨C1,ts1,hp1,.ret,.ret,rfl,i1,s1,t1,d1,q1⟩
 |exit id =>
  intro ac hc Q ts h hw C a hI hS hT hd;simp only[comp,Zb]at hc;subst hc;exact wp_exit ⟨C,ts,h,.exit id,.exit id,rfl,hI,hS,hT,hd,hw⟩
 |ret =>
  intro ac hc Q ts h hw C a hI hS hT hd;simp only[comp,Zb]at hc;subst hc;exact wp_ret ⟨C,ts,h,.ret,.ret,rfl,hI,hS,hT,hd,hw⟩
 |_ =>
  intro ac hc Q ts h hw;simp only[comp,Zb]at hc;subst hc;exact hw.elim
end
end AX
end Go.Proofs.YtdgcbckcameggadGreatDoor

namespace Go.Proofs.YtdgcbckcameggadGreatDoor
open Go.RowKit
namespace AX
def le1:A→A→Prop
 |.sl W o rows,.sl W' o' rows'=>rows=rows'∧(W=W'∨rows'=[])∧(o'=.no∨o'=o∧W=W')
 |x,y=>x=y
def leL:List A→List A→Prop
 |[],[]=>True
 |x::l,y::m=>le1 x y∧leL l m
 |_,_=>False
def le2:A→A→Prop
 |.agg l,.agg m=>leL l m
 |x,y=>le1 x y
def cxf:List A→List A→Prop
 |[],[]=>True
 |x::l,y::m=>le2 x y∧cxf l m
 |_,_=>False
def le:A→A→Prop
 |.tup l,.tup m=>cxf l m
 |x,y=>le2 x y
section
variable {C:Ctx}
theorem by5{x y:A}{v:Value}(h:le1 x y)(hr:Rep C x v):Rep C y v:=by
 unfold le1 at h;split at h
 ·next W o rows W' o' rows' =>
  obtain⟨rfl,h1,h2⟩:=h;obtain⟨a,cap,e,h3,h4,h5⟩:=rep_sl.1 hr;refine rep_sl.2 ⟨a,cap,e,h3,?_,?_⟩
  ·rcases h1 with rfl|rfl
   ·exact h4
   ·unfold RepRows;trivial
  ·rcases h2 with rfl|⟨rfl,rfl⟩
   ·trivial
   ·exact h5
 ·subst h;exact hr
theorem cqv:∀ {l m:List A} {cs:List Value},leL l m→RepL C l cs→RepL C m cs
 |[],[],cs,_,hr=>hr
 |x::l,y::m,cs,h,hr=>by
  obtain⟨c,cs',rfl,h1,h2⟩:=repL_cons.1 hr;exact repL_cons.2 ⟨c,cs',rfl,by5 h.1 h1,cqv h.2 h2⟩
 |[],y::m,cs,h,hr=>h.elim
 |x::l,[],cs,h,hr=>h.elim
theorem czm{x y:A}{v:Value}(h:le2 x y)(hr:Rep C x v):Rep C y v:=by
 unfold le2 at h;split at h
 ·obtain⟨cs,e,h1⟩:=rep_agg.1 hr;exact rep_agg.2 ⟨cs,e,cqv h h1⟩
 ·exact by5 h hr
theorem bzt:∀ {l m:List A} {cs:List Value},cxf l m→RepL C l cs→RepL C m cs
 |[],[],cs,_,hr=>hr
 |x::l,y::m,cs,h,hr=>by
  obtain⟨c,cs',rfl,h1,h2⟩:=repL_cons.1 hr;exact repL_cons.2 ⟨c,cs',rfl,czm h.1 h1,bzt h.2 h2⟩
 |[],y::m,cs,h,hr=>h.elim
 |x::l,[],cs,h,hr=>h.elim
theorem dzi{x y:A}{v:Value}(h:le x y)(hr:Rep C x v):Rep C y v:=by
 unfold le at h;split at h
 ·obtain⟨cs,e,h1⟩:=rep_tup.1 hr;exact rep_tup.2 ⟨cs,e,bzt h h1⟩
 ·exact czm h hr
theorem aza(x:A):le1 x x:=by
 unfold le1;split
 ·exact⟨rfl,.inl rfl,.inr ⟨rfl,rfl⟩⟩
 ·rfl
theorem bz7:∀ l:List A,leL l l
 |[]=>trivial
 |x::l=>⟨aza x,bz7 l⟩
theorem aqu(x:A):le2 x x:=by
 unfold le2;split
 ·exact bz7 _
 ·exact aza x
theorem bqy:∀ l:List A,cxf l l
 |[]=>trivial
 |x::l=>⟨aqu x,bqy l⟩
theorem le_refl(x:A):le x x:=by
 unfold le;split
 ·exact bqy _
 ·exact aqu x
end
theorem ACall.args{P:Program}{G:World→Prop}{f:FuncId}{as as':List A}{h:Hp}{K:A→Hp→Prop}(hle:cxf as as')(hc:ACall P G f as' h K):ACall P G f as h K:=
 fun C cs hI hr=>hc C cs hI (bzt hle hr)
inductive ARes where
 |t (n:Nat)
 |c (n:Nat) (agg:Bool) (size:Nat)
def compRes(P:Program)(n:Nat):List ResultVar→Option (List ARes)
 |[]=>some []
 |.tmp t::rs=>if t<n then(compRes P n rs).bind fun l=>some (.t t::l)else none
 |.cell t T::rs=>if t<n then(P.underlying T).bind fun d=>(P.info? T).bind fun i=>if isAggB d=true∨i.size=1 then(compRes P n rs).bind fun l=>some (.c t (isAggB d) i.size::l)else none else none
def resA(ts:Ts)(h:Hp):List ARes→Option (List A)
 |[]=>some []
 |.t t::rs=>(resA ts h rs).bind fun l=>some (ts t::l)
 |.c t g n::rs=>(loadA h g n (ts t)).bind fun v=>(resA ts h rs).bind fun l=>some (v::l)
def tupA:List A→A
 |[v]=>v
 |l => .tup l
def finO(r:Option (List A))(Q:A→Hp→Prop)(h:Hp):Prop:=
 match r with
 |some l=>∃ v,le (tupA l) v∧Q v h
 |none=>False
def finP(rs:List ARes)(Q:A→Hp→Prop)(ts:Ts)(h:Hp):Prop:=finO (resA ts h rs) Q h
def finQ(rs:List ARes)(Q:A→Hp→Prop):AExit→Ts→Hp→Prop
 |.normal=>finP rs Q
 |.ret=>finP rs Q
 |.exit _=>fun _ _=>False
structure AFn where
 n:Nat
 code:ACode
 res:List ARes
def compFn(P:Program)(f:FuncId):Option AFn:=
 match P.funcs[f]? with
 |some fn=>(fn.body).bind fun c=>(comp P fn.ntmps c).bind fun ac=>(compRes P fn.ntmps fn.results.toList).bind fun rs=>some ⟨fn.ntmps,ac,rs⟩
 |none=>none
def initTs(args:List A):Ts:=fun i=>args.getD i (.tup [])
section
variable {P:Program} {G:World→Prop} {n:Nat}
def resOf(tmps:Array Value):ResultVar→Sem Value
 |.tmp t=>pure (tmps.getD t undef)
 |.cell b t=>do loadVar t (←asAddr (tmps.getD b undef))
theorem bwj(g:Func)(tmps:Array Value):results g tmps=(g.results.mapM (resOf tmps) >>= fun vs=>pure (if h:vs.size=1 then vs[0]else .tuple vs)):=by
 unfold results;congr 1
theorem bjs{C:Ctx}{h:Hp}{ts:Ts}{a:Act}(hI:Inv G C h)(hT:RepT C ts n a):∀(rs:List ResultVar) (rl:List ARes) (l:List A),compRes P n rs=some rl→resA ts h rl=some l →
  ∃ vs:List Value,(rs.mapM (resOf a.tmps)).run P C.w=Result.ok vs C.w∧RepL C l vs
 |[],rl,l,hc,hr=>by
  simp only[compRes,Zb]at hc;subst hc;simp only[resA,Zb]at hr;subst hr;exact⟨[],by simp,repL_nil.2 rfl⟩
 |.tmp t::rs,rl,l,hc,hr=>by
  simp only[compRes,Zv,Ze,Zb]at hc;obtain⟨hlt,rl',h1,rfl⟩:=hc;simp only[resA,Ze,Zb]at hr;obtain⟨l',h2,rfl⟩:=hr;obtain⟨vs,k1,k2⟩:=bjs hI hT rs rl' l' h1 h2;exact⟨_::vs,by simp[List.mapM_cons,k1,resOf],repL_cons.2 ⟨_,vs,rfl,hT.rep t hlt,k2⟩⟩
 |.cell t T::rs,rl,l,hc,hr=>by
  simp only[compRes,Zv,Ze,Zb]at hc;obtain⟨hlt,d,hd,i,hi,h1,rl',h2,rfl⟩:=hc;simp only[resA,Ze,Zb]at hr;obtain⟨v,h3,l',h4,rfl⟩:=hr;obtain⟨vs,k1,k2⟩:=bjs hI hT rs rl' l' h2 h4;obtain⟨ad,cv,e,hrun,hv⟩:=bke hI hd hi h1 (hT.rep t hlt) h3;rw[e]at hrun;have hrun':(loadVar T ad).run P C.w=.ok cv C.w:=by
   unfold Instr.loadAt at hrun;simpa [Instr.sureAddr]using hrun
  refine⟨cv::vs,?_,repL_cons.2 ⟨cv,vs,rfl,hv,k2⟩⟩;simp[List.mapM_cons,resOf,e,asAddr,hrun',k1]
theorem ayz(hm:P.follows .mixedOrders=true){f:FuncId}{fn:AFn}{args:List A}{h:Hp}{Q:A→Hp→Prop}(hf:compFn P f=some fn)(hl:args.length≤fn.n)(hw:awp P G fn.code (finQ fn.res Q) (initTs args) h):ACall P G f args h Q:=by
 unfold compFn at hf;split at hf
 ·next g hg =>
  simp only[Ze,Zb]at hf;obtain⟨c,hb,ac,hc,rs,hr,rfl⟩:=hf;intro C cs hI hargs;have hcl:=azm hargs;refine calls_of_wp hg hb ?_;have hT:RepT C (initTs args) g.ntmps { tmps:=cs.toArray++Array.replicate (g.ntmps-cs.toArray.size) undef,defers:=[] }:=by
   simp only at hl;refine⟨by simp;omega,fun i hi=>?_⟩;unfold initTs;rw[YE];by_cases hlt:i<cs.length
   ·have hx:args[i]?=some args[i]:=Zm (by omega);obtain⟨v,k1,k2⟩:=axr hargs i _ hx;rw[Array.getElem?_append_left (by simpa using hlt)];simp only[List.getElem?_toArray,k1,Z3];simpa [List.getD,hx]using k2
   ·rw[Array.getElem?_append_right (by simp;omega)];rw[ZY,YJ (by omega)];rw[Array.getElem?_replicate];split
    ·exact aj2
    ·exact aj2
  have key:=cqh (C0:=C) hm c ac hc _ _ _ hw C _ hI (Step.refl C) hT rfl;refine wp_mono key ?_;rintro e a' w ⟨C1,ts1,h1,ae,hae,rfl,i1,s1,t1,d1,q1⟩;have fin:finP rs Q ts1 h1→a'.defers=[]∧∃ v,(results g a'.tmps).run P C1.w=.ok v C1.w∧∃(C':Ctx) (h':Hp) (u:A) (cv:Value),Ending.returned v=.returned cv∧C'.w=C1.w∧Inv G C' h'∧Step C C'∧Rep C' u cv∧Q u h':=by
   intro hq;unfold finP finO at hq;split at hq
   ·next l hl' =>
    obtain⟨u,hu,hQ⟩:=hq;obtain⟨vs,k1,k2⟩:=bjs i1 t1 g.results.toList rs l hr hl';have hvl:=azm k2;refine⟨d1,_,?_,C1,h1,u,if hh:vs.toArray.size=1 then vs.toArray[0]else .tuple vs.toArray,rfl,rfl,i1,s1,dzi hu ?_,hQ⟩
    ·have hmap:(g.results.mapM (resOf a'.tmps)).run P C1.w=.ok vs.toArray C1.w:=by
      rw[←Array.toArray_toList (xs:=g.results),List.mapM_toArray];simp[k1]
     rw[bwj,Sem.run_bind,hmap];rfl
    ·split
     ·next h1' =>
      have:vs.length=1:=by simpa using h1'
      match l,vs,k2,hvl,this with
      |[x],[v],k2,_,_ =>
       obtain⟨c,cs',e,r1,_⟩:=repL_cons.1 k2;injection e with e1 e2;subst e1;exact r1
     ·next h1' =>
      have hne:l.length≠1:=by rw[←hvl];simpa using h1'
      have:tupA l=.tup l:=by
       unfold tupA;split
       ·simp at hne
       ·rfl
      rw[this];exact rep_tup.2 ⟨vs,rfl,k2⟩
   ·exact hq.elim
  cases hae with
  |normal=>exact fin q1
  |ret=>exact fin q1
  |exit id=>exact q1.elim
 ·cases hf
end
end AX
end Go.Proofs.YtdgcbckcameggadGreatDoor

namespace Go.Proofs.YtdgcbckcameggadGreatDoor
open Go.RowKit
namespace AX
section
variable {P:Program} {G:World→Prop}
theorem awi{K K':Ts→Hp→Prop}(hk:∀ ts h,K ts h→K' ts h):∀(l:List AOper) (ts:Ts) (h:Hp),aops P G l K ts h→aops P G l K' ts h
 |[],ts,h,hp=>hk _ _ hp
 |o::l,ts,h,hp=>azr (axj fun v h'=>awi hk l _ h') (awi hk l _ h) hp
theorem bw8{K K':Ts→Hp→Prop}(hk:∀ ts h,K ts h→K' ts h){l:List AOper}{ts:Ts}{h:Hp}(hp:adraw P G l K ts h):adraw P G l K' ts h:=by
 obtain⟨I,h1,h2,h3⟩:=hp;exact⟨I,h1,h2,fun ts h hi=>hk _ _ (h3 ts h hi)⟩
theorem ajg{K K':Ts→Hp→Prop}{Q Q':AExit→Ts→Hp→Prop}(hk:∀ ts h,K ts h→K' ts h)(hq:∀ e ts h,Q e ts h→Q' e ts h):∀ e ts h,thenA K Q e ts h→thenA K' Q' e ts h:=by
 intro e ts h hp;cases e with
 |normal=>exact hk _ _ hp
 |exit id=>exact hq _ _ _ hp
 |ret=>exact hq _ _ _ hp
theorem bzj:∀(c:ACode) (Q Q':AExit→Ts→Hp→Prop),(∀ e ts h,Q e ts h→Q' e ts h)→∀ ts h,awp P G c Q ts h→awp P G c Q' ts h:=by
 intro c;induction c with
 |skip=>intro Q Q' hq ts h hp;exact hq _ _ _ hp
 |reg d l =>
  intro Q Q' hq ts h hp;cases d with
  |false=>exact awi (hq .normal) l ts h hp
  |true=>exact⟨hp.1,bw8 (hq .normal) hp.2⟩
 |seq x y ihx ihy=>intro Q Q' hq ts h hp;exact ihx _ _ (ajg (ihy _ _ hq) hq) ts h hp
 |cond b x y ihx ihy =>
  intro Q Q' hq ts h hp;simp only[awp]at hp ⊢;generalize evX ts b=v at *;cases v with
  |bool t=>exact⟨fun e=>ihx _ _ hq _ _ (hp.1 e),fun e=>ihy _ _ hq _ _ (hp.2 e)⟩
  |_=>exact hp.elim
 |block id x ih =>
  intro Q Q' hq ts h hp;refine ih _ _ (fun e ts h hp=>?_) ts h hp;cases e with
  |normal=>exact hq _ _ _ hp
  |exit id' =>
   simp only[blkA]at hp ⊢;split at hp
   ·next e=>rw[if_pos e];exact hq _ _ _ hp
   ·next e=>rw[if_neg e];exact hq _ _ _ hp
  |ret=>exact hq _ _ _ hp
 |loop x ih =>
  intro Q Q' hq ts h hp;obtain⟨k,hk⟩:=hp;refine⟨k,?_⟩;revert ts h;induction k with
  |zero=>intro ts h hk;exact hk
  |succ k ihk=>intro ts h hk;exact ih _ _ (ajg (fun ts h=>ihk ts h) hq) ts h hk
 |exit id=>intro Q Q' hq ts h hp;exact hq _ _ _ hp
 |ret=>intro Q Q' hq ts h hp;exact hq _ _ _ hp
 |prim n c =>
  intro Q Q' hq ts h hp C a hI hT hd;refine wp_mono (hp C a hI hT hd) ?_;rintro e a' w ⟨C1,ts1,hp1,ae,hae,rfl,i1,s1,t1,d1,q1⟩;exact⟨C1,ts1,hp1,ae,hae,rfl,i1,s1,t1,d1,hq _ _ _ q1⟩
theorem ayg(c:ACode)(Q:AExit→Ts→Hp→Prop):∀(k:Nat) (ts:Ts) (h:Hp),aloop (awp P G c) Q k ts h→aloop (awp P G c) Q (k+1) ts h
 |0,ts,h,hp=>hp.elim
 |k+1,ts,h,hp=>bzj c _ _ (ajg (fun ts h=>ayg c Q k ts h) fun _ _ _ h=>h) ts h hp
theorem cvt(c:ACode)(Q:AExit→Ts→Hp→Prop){k m:Nat}(hkm:k≤m)(ts:Ts)(h:Hp)(hp:aloop (awp P G c) Q k ts h):aloop (awp P G c) Q m ts h:=by
 induction hkm with
 |refl=>exact hp
 |step _ ih=>exact ayg c Q _ ts h ih
theorem azf{c:ACode}{Q:AExit→Ts→Hp→Prop}{ts:Ts}{h:Hp}(I:Nat→Ts→Hp→Prop)(m:Nat)(h0:I m ts h)(hr:∀ m ts h,I m ts h→awp P G c (thenA (fun ts' h'=>∃ m',m'<m∧I m' ts' h') Q) ts h):awp P G (.loop c) Q ts h:=by
 refine⟨m+1,?_⟩;revert ts h;induction m using Nat.strongRecOn with
 |_ m ih =>
  intro ts h h0;refine bzj c _ _ (ajg (fun ts' h' hp=>?_) fun _ _ _ h=>h) ts h (hr m ts h h0);obtain⟨m',h1,h2⟩:=hp;exact cvt c Q h1 ts' h' (ih m' h1 h2)
def opnds:AOp→List Opd
 |.mv x=>[x]
 |.pick c a b=>[c,a,b]
 |.alloc ..=>[]
 |.box _ x=>[x]
 |.build _ ps=>ps.map fun p=>p.2.2
 |.mks _ ps=>ps
 |.mkr _ _ ps=>ps
 |.mkl _ _ ps=>ps
 |.slsl _ x lo hi=>x::(lo.toList++hi.toList)
 |.load _ _ p=>[p]
 |.store _ p x=>[p,x]
 |.nilck x=>[x]
 |.faddr _ x=>[x]
 |.iaddr _ x i=>[x,i]
 |.sidx x i=>[x,i]
 |.ssl x lo hi=>x::(lo.toList++hi.toList)
 |.len _ x=>[x]
 |.app _ _ _ x y=>[x,y]
 |.bin _ x y=>[x,y]
 |.eq _ _ _ x y=>[x,y]
 |.un _ x=>[x]
 |.conv _ x=>[x]
 |.extract x _=>[x]
 |.max3 x y z=>[x,y,z]
 |.mkfn _ caps=>caps
 |.mkmap=>[]
 |.mget _ _ m k=>[m,k]
 |.mset m k x=>[m,k,x]
 |.mdel m k=>[m,k]
 |.mclr m=>[m]
 |.mlen m=>[m]
 |.mm _ x y=>[x,y]
 |.call _ args=>args
 |.callv x args=>x::args
theorem awf{ev ev':Opd→A}:∀(ps:List (Nat×Nat×Opd)) (z:List A),(∀ p∈ps,ev p.2.2=ev' p.2.2)→fillA ev z ps=fillA ev' z ps
 |[],z,h=>rfl
 |(o,n,x)::ps,z,h=>by
  have h1:=h (o,n,x) (by simp);simp only at h1;simp only[fillA,h1];split
  ·exact awf ps _ fun p hp=>h p (by simp[hp])
  ·rfl
theorem ajt{ev ev':Opd→A}(W:Nat):∀(ps:List Opd),(∀ p∈ps,ev p=ev' p)→rowsA ev W ps=rowsA ev' W ps
 |[],h=>rfl
 |x::ps,h=>by
  have h1:=h x (by simp);simp only[rowsA,h1];rw[ajt W ps fun p hp=>h p (by simp[hp])]
theorem awo{ev ev':Opd→A}(W:Nat):∀(ps:List Opd),(∀ p∈ps,ev p=ev' p)→rowsR ev W ps=rowsR ev' W ps
 |[],h=>rfl
 |x::ps,h=>by
  have h1:=h x (by simp);simp only[rowsR,h1];rw[awo W ps fun p hp=>h p (by simp[hp])]
theorem bjx{ev ev':Opd→A}{h:Hp}{o:AOp}(he:∀ x∈opnds o,ev x=ev' x):astep ev h o=astep ev' h o:=by
 cases o with
 |build z ps =>
  simp only[astep];rw[awf ps z fun p hp=>he _ (Zaa.2 ⟨p,hp,rfl⟩)]
 |mks W ps =>
  simp only[astep];rw[ajt W ps he]
 |mkr E W ps =>
  simp only[astep];rw[awo W ps he]
 |mkl E W ps =>
  simp only[astep];rw[ajt W ps he]
 |slsl W x lo hi =>
  have h1:=he x (by simp[opnds]);have h2:lo.map ev=lo.map ev':=by
   cases lo with
   |none=>rfl
   |some l=>simp only[ZO];rw[he l (by simp[opnds])]
  have h3:hi.map ev=hi.map ev':=by
   cases hi with
   |none=>rfl
   |some l=>simp only[ZO];rw[he l (by simp[opnds])]
  simp only[astep,h1,h2,h3]
 |mkfn f caps =>
  simp only[opnds]at he;simp only[astep];rw[List.map_congr_left he]
 |ssl x lo hi =>
  have h1:=he x (by simp[opnds]);have h2:lo.map ev=lo.map ev':=by
   cases lo with
   |none=>rfl
   |some l=>simp only[ZO];rw[he l (by simp[opnds])]
  have h3:hi.map ev=hi.map ev':=by
   cases hi with
   |none=>rfl
   |some l=>simp only[ZO];rw[he l (by simp[opnds])]
  simp only[astep,h1,h2,h3]
 |alloc=>rfl
 |mkmap=>rfl
 |call=>rfl
 |callv=>rfl
 |_ =>
  simp only[opnds,Z7,List.not_mem_nil,or_false,forall_eq_or_imp,forall_eq]at he;simp only[astep,he]
theorem aqw{ev ev':Opd→A}{h:Hp}{K:A→Hp→Prop}{o:AOp}(he:∀ x∈opnds o,ev x=ev' x)(hp:aopP P G ev h K o):aopP P G ev' h K o:=by
 cases o with
 |call f args =>
  simp only[opnds]at he;show ACall P G f (args.map ev') h K
  rw[←List.map_congr_left he];exact hp
 |callv x args =>
  obtain⟨f,caps,h1,h2,h3⟩:=hp;refine⟨f,caps,by rw[←he x (by simp[opnds])];exact h1,h2,?_⟩;rw[←List.map_congr_left fun y hy=>he y (by simp[opnds,hy])];exact h3
 |_ =>
  have hs:=bjx (h:=h) he;simp only[aopP]at hp ⊢;rw[←hs];exact hp
def aopQ(P:Program)(G:World→Prop)(ev:Opd→A)(h:Hp)(K:A→Prop):AOp→Prop
 |.call f args=>∃ v,ACall P G f (args.map ev) h (fun v' h'=>v'=v∧h'=h)∧K v
 |.callv x args=>∃ v f caps,ev x=.fn f caps∧callOk P (vF f)=true∧ACall P G (vF f) (vA f (args.map ev) caps) h (fun v' h'=>v'=v∧h'=h)∧K v
 |op=>optP (astep ev h op) fun v h'=>h'=h∧K v
def aquiet(P:Program)(G:World→Prop)(h:Hp):List AOper→(Ts→Prop)→Ts→Prop
 |[],K,ts=>K ts
 |o::os,K,ts=>guardP ts o.guard (aopQ P G (evX ts) h (fun v=>aquiet P G h os K (put ts o.dst v)) o.op) (aquiet P G h os K (put ts o.dst (.tup [])))
theorem bkk{ev:Opd→A}{h:Hp}{K:A→Prop}{o:AOp}(hp:aopQ P G ev h K o):∃ v,aopP P G ev h (fun v' h'=>v'=v∧h'=h) o∧K v:=by
 cases o with
 |call f args =>
  obtain⟨v,h1,h2⟩:=hp;exact⟨v,h1,h2⟩
 |callv x args =>
  obtain⟨v,f,caps,h0,h1,h2,h3⟩:=hp;exact⟨v,⟨f,caps,h0,h1,h2⟩,h3⟩
 |_ =>
  simp only[aopQ]at hp;simp only[aopP];generalize astep ev h _=r at hp ⊢;cases r with
  |none=>exact hp.elim
  |some r =>
   obtain⟨v,h'⟩:=r;exact⟨v,⟨rfl,hp.1⟩,hp.2⟩
def seesT(o:AOper):List Nat:=((opnds o.op).filterMap fun x=>match x with|.t n=>some n|.c _=>none)++(match o.guard with|some (t,_)=>[t]|none=>[])
def seesB(ops:List AOper):Bool:=
 ops.zipIdx.all fun(o,i)=>(seesT o).all fun x=>ops.zipIdx.all fun(o',j)=>o'.dst !=some x||i==j||o.after.contains j||o'.after.contains i
def pre:Ts→List AOper→(Nat→A)→Nat→Ts
 |ts,_,_,0=>ts
 |ts,[],_,_+1=>ts
 |ts,o::os,vs,i+1=>pre (put ts o.dst (vs 0)) os (fun k=>vs (k+1)) i
theorem ax2{h:Hp}{K:Ts→Prop}:∀(os:List AOper) (ts:Ts),aquiet P G h os K ts →
  ∃ vs:Nat→A,(∀(i:Nat) (o:AOper),os[i]?=some o→guardP (pre ts os vs i) o.guard (aopP P G (evX (pre ts os vs i)) h (fun v' h'=>v'=vs i∧h'=h) o.op) (vs i=.tup []))∧K (pre ts os vs os.length)
 |[],ts,hp=>⟨fun _ => .tup [],fun i o hi=>by simp at hi,hp⟩
 |o::os,ts,hp=>by
  have key:∃ v,guardP ts o.guard (aopP P G (evX ts) h (fun v' h'=>v'=v∧h'=h) o.op) (v=.tup [])∧aquiet P G h os K (put ts o.dst v):=by
   simp only[aquiet]at hp;cases hg:o.guard with
   |none =>
    rw[hg]at hp;obtain⟨v,h1,h2⟩:=bkk hp;exact⟨v,h1,h2⟩
   |some tb =>
    obtain⟨t,b⟩:=tb;rw[hg]at hp;simp only[guardP]at hp ⊢;split at hp
    ·next c e =>
     by_cases hcb:c=b
     ·obtain⟨v,h1,h2⟩:=bkk (hp.1 hcb);refine⟨v,⟨fun _=>h1,fun hc=>?_⟩,h2⟩;rw[hcb]at hc;cases b<;>cases hc
     ·have hcb':c=!b:=by cases c<;>cases b<;>simp_all
      exact⟨.tup [],⟨fun hc=>absurd hc hcb,fun _=>rfl⟩,hp.2 hcb'⟩
    ·next e=>exact⟨.tup [],rfl,hp⟩
    ·exact hp.elim
  obtain⟨v,h1,h2⟩:=key;obtain⟨vs,h3,h4⟩:=ax2 os _ h2;refine⟨fun i=>match i with|0=>v|i+1=>vs i,fun i o' hi=>?_,h4⟩;cases i with
  |zero=>simp at hi;subst hi;exact h1
  |succ i=>exact h3 i o' (by simpa using hi)
theorem bxr{os:List AOper}{d:Nat}(h:(os.all fun o'=>o'.dst !=some d)=true):os.findIdx? (fun o=>o.dst==some d)=none:=by
 rw[List.findIdx?_eq_none_iff];intro o ho;have:=ZF.1 h o ho;simpa using this
theorem pre_eq:∀(os:List AOper) (k:Nat) (ts:Ts) (vs:Nat→A) (i:Nat),edgesB k os=true→i≤os.length→∀ x,pre ts os vs i x=TD os vs ts (fun j=>decide (j<i)) x
 |[],k,ts,vs,0,he,hi,x=>rfl
 |[],k,ts,vs,i+1,he,hi,x=>by simp at hi
 |o::os,k,ts,vs,0,he,hi,x=>by
  unfold TD pre;split<;>simp
 |o::os,k,ts,vs,i+1,he,hi,x=>by
  simp only[edgesB,Zc]at he;rw[pre,pre_eq os (k+1) _ _ i he.2 (by simpa using hi) x];unfold TD;rw[List.findIdx?_cons];cases hd:o.dst with
  |none =>
   have e:((none:Option Nat)==some x)=false:=rfl;rw[e];simp only[Zk,if_false];cases hf:os.findIdx? (fun o=>o.dst==some x)with
   |none=>simp[put]
   |some j=>simp[put]
  |some d =>
   by_cases hdx:d=x
   ·subst hdx;have h2:=he.1.2;rw[hd]at h2;rw[bxr h2];simp[put]
   ·have e:((some d:Option Nat)==some x)=false:=by simp[hdx]
    rw[e];simp only[Zk,if_false];cases hf:os.findIdx? (fun o=>o.dst==some x)with
    |none=>simp[put,Ne.symm hdx]
    |some j=>simp[put,Ne.symm hdx]
theorem bk4{ops:List AOper}(hs:seesB ops=true):∀(i:Nat) (o:AOper),ops[i]?=some o→∀ x∈seesT o,∀(j:Nat) (o':AOper),ops[j]?=some o'→o'.dst=some x→i=j∨j∈o.after∨i∈o'.after:=by
 intro i o hi x hx j o' hj hd;unfold seesB at hs;have h1:=ZF.1 hs (o,i) (Ya.2 hi);have h2:=ZF.1 h1 x hx;have h3:=ZF.1 h2 (o',j) (Ya.2 hj);simp only[ZS,Zab,ne_eq,ZC,Zal]at h3;rcases h3 with((h3|h3)|h3)|h3
 ·exact absurd hd h3
 ·exact .inl h3
 ·exact .inr (.inl h3)
 ·exact .inr (.inr h3)
theorem bzy{ops:List AOper}(he:edgesB 0 ops=true)(hs:seesB ops=true){D:Nat→Bool}{i:Nat}{o:AOper}(hi:ops[i]?=some o)(hDi:D i=false)(hcl:Closed ops D)(haf:∀ j∈o.after,D j=true)(vs:Nat→A)(ts:Ts) :
  ∀ x∈seesT o,TD ops vs ts D x=TD ops vs ts (fun j=>decide (j<i)) x:=by
 intro x hx;unfold TD;cases hf:ops.findIdx? (fun o=>o.dst==some x)with
 |none=>rfl
 |some j =>
  obtain⟨hj,hj2,_⟩:=List.findIdx?_eq_some_iff_getElem.1 hf;have hoj:ops[j]?=some ops[j]:=Zm hj;have hdx:ops[j].dst=some x:=by simpa using hj2
  rcases bk4 hs i o hi x hx j _ hoj hdx with rfl|h1|h1
  ·simp[hDi]
  ·have h2:=aqd he i o hi j h1;have h3:j<i:=by omega
   simp[haf j h1,h3]
  ·have h2:=aqd he j _ hoj i h1;have h3:¬j<i:=by omega
   have h4:D j=false:=by
    cases hDj:D j with
    |false=>rfl
    |true=>rw[hcl j _ hoj hDj i h1]at hDi;cases hDi
   simp[h4,h3]
theorem ajc{o:AOper}{ts ts':Ts}(h:∀ x∈seesT o,ts x=ts' x):∀ y∈opnds o.op,evX ts y=evX ts' y:=by
 intro y hy;cases y with
 |c a=>rfl
 |t n =>
  refine h n (List.mem_append_left _ (List.mem_filterMap.2 ⟨.t n,hy,rfl⟩))
theorem axx{o:AOper}{ts ts':Ts}{p q:Prop}(h:∀ x∈seesT o,ts x=ts' x)(hp:guardP ts o.guard p q):guardP ts' o.guard p q:=by
 cases hg:o.guard with
 |none=>rw[hg]at hp;exact hp
 |some tb =>
  obtain⟨t,b⟩:=tb;rw[hg]at hp;simp only[guardP]at hp ⊢;rw[←h t (List.mem_append_right _ (by rw[hg];simp))];exact hp
theorem bj8{ops:List AOper}{K:Ts→Hp→Prop}{ts:Ts}{h:Hp}(he:edgesB 0 ops=true)(hs:seesB ops=true)(hp:aquiet P G h ops (fun ts=>K ts h) ts):adraw P G ops K ts h:=by
 obtain⟨vs,h1,h2⟩:=ax2 ops ts hp;refine akg he vs (fun _=>h) rfl (fun D i o hi hDi hcl haf=>?_) ?_
 ·have hsee:=bzy he hs hi hDi hcl haf vs ts;have hlt:i<ops.length:=(Zd.1 hi).1;have hpre:pre ts ops vs i=TD ops vs ts (fun j=>decide (j<i)):=funext fun x=>pre_eq ops 0 ts vs i he (by omega) x
  have h3:=h1 i o hi;rw[hpre]at h3;refine axx (fun x hx=>(hsee x hx).symm) (azr (fun hq=>?_) (fun hq=>⟨hq,rfl⟩) h3);exact aqw (ajc fun x hx=>(hsee x hx).symm) hq
 ·have hpre:pre ts ops vs ops.length=TD ops vs ts (fun j=>decide (j<ops.length)):=funext fun x=>pre_eq ops 0 ts vs _ he (Zf _) x
  rw[←hpre];exact h2
end
end AX
end Go.Proofs.YtdgcbckcameggadGreatDoor

namespace Go.Proofs.YtdgcbckcameggadGreatDoor
open Go.RowKit
namespace AX
section
variable {P:Program} {G:World→Prop}
theorem aqh(ts:Ts)(d:Nat)(v:A)(i:Nat):put ts (some d) v i=if i=d then v else ts i:=rfl
theorem az4(ts:Ts)(v:A):put ts none v=ts:=rfl
theorem az6(args:List A)(i:Nat):initTs args i=args.getD i (.tup []):=rfl
theorem azy(v:A)(h:Hp)(K:A→Hp→Prop):optP (some (v,h)) K=K v h:=rfl
theorem awq{ops:List AOper}{Q:AExit→Ts→Hp→Prop}{ts:Ts}{h:Hp}(hb:(edgesB 0 ops&&seesB ops)=true)(hq:aquiet P G h ops (fun ts=>Q .normal ts h) ts):awp P G (.reg true ops) Q ts h:=by
 rw[Zc]at hb;exact⟨hb.1,bj8 hb.1 hb.2 hq⟩
theorem aj1(ts:Ts)(n:Nat):evX ts (.t n)=ts n:=rfl
theorem aj7(ts:Ts)(a:A):evX ts (.c a)=a:=rfl
theorem az5(ts:Ts)(h:Hp):resA ts h []=some []:=rfl
theorem axb(ts:Ts)(h:Hp)(t:Nat)(rs:List ARes):resA ts h (.t t::rs)=(resA ts h rs).bind fun l=>some (ts t::l):=rfl
theorem axa(ts:Ts)(h:Hp)(t:Nat)(g:Bool)(n:Nat)(rs:List ARes):resA ts h (.c t g n::rs)=(loadA h g n (ts t)).bind fun v=>(resA ts h rs).bind fun l=>some (v::l):=rfl
theorem azj(v:A):tupA [v]=v:=rfl
theorem az8(u v:A)(l:List A):tupA (u::v::l)=.tup (u::v::l):=rfl
theorem aq9:tupA []=.tup []:=rfl
end
end AX
end Go.Proofs.YtdgcbckcameggadGreatDoor

namespace Go.Proofs.YtdgcbckcameggadGreatDoor
open Go.RowKit
namespace AX
theorem wrap64{x:Int}(h1:-9223372036854775808≤x)(h2:x≤9223372036854775807):IntKind.i64.wrap x=x:=Go.IntWalk.i64_in x ⟨h1,h2⟩
theorem cz2{P:Program}{G:World→Prop}{f:FuncId}{extra:List A}{ecs:List Value}{T:TypeId}{l l':List A}{cs cs':List Value}{v:A}{cv:Value}(hargs:∀ C es,RepL C extra es→es=ecs)(hl:∀ C es,RepL C l es→es=cs)(hl':∀ C,RepL C l' cs')(hv:∀ C,Rep C v cv)
  (hc:∀ w g,w.heap[g]?=some (.cells cs.toArray T (0,0))→Calls P f (.pointer (some ⟨g,0,none⟩)::ecs).toArray w fun e w'=>e=.returned cv∧w'.heap[g]?=some (.cells cs'.toArray T (0,0))∧w.grownBy w' (some g))
  {h:Hp} {i:Nat} (hb:h.b[i]?=some (.cells T l)):ACall P G f (.ptr i 0::extra) h fun v' h'=>v'=v∧h'=⟨h.b.set i (.cells T l'),h.t⟩:=by
 intro C es hI ha;obtain⟨c,es',rfl,h1,h2⟩:=repL_cons.1 ha;obtain⟨rfl,hi⟩:=rep_ptr.1 h1;obtain rfl:=hargs C es' h2;obtain⟨cs1,k1,k2⟩:=hI.box i _ hb;obtain rfl:=hl C cs1 k2;refine(hc C.w (C.κ i) k1).mono ?_;rintro e w' ⟨rfl,m1,m2⟩;obtain⟨i1,s1⟩:=aqp (b':=.cells T l') false hI hi m2.os m2.tape m2.output m2.size (fun g hg hne=>m2.block g hg fun e=>hne (by injection e with e;rw[e];exact hI.ownk i hi)) (fun _=>⟨cs',m1,hl' _⟩);exact⟨_,_,v,cv,rfl,rfl,i1,s1,hv _,rfl,rfl⟩
def sinkB(ops:List AOper):Bool:=
 ops.zipIdx.all fun(_,i)=>i+1==ops.length||ops.zipIdx.any fun(o',j)=>decide (i<j)&&o'.after.contains i
theorem cxu{ops:List AOper}(hs:sinkB ops=true){n:Nat}(hn:n+1=ops.length){o:AOper}(ho:ops[n]?=some o){D:Nat→Bool}(hcl:Closed ops D)(haf:∀ j∈o.after,D j=true):∀ i,i<n→D i=true:=by
 have key:∀ d i,n-i=d→i<n→D i=true:=by
  intro d;induction d using Nat.strongRecOn with
  |_ d ih =>
   intro i hd hi;have hoi:ops[i]?=some (ops[i]'(by omega)):=Zm (by omega);unfold sinkB at hs;have h1:=ZF.1 hs (ops[i]'(by omega),i) (Ya.2 hoi);simp only[ZS,ZC]at h1;rcases h1 with h1|h1
   ·omega
   ·obtain⟨⟨o',j⟩,hm,hj⟩:=List.any_eq_true.1 h1;simp only[Zc,Zq,Zal]at hj;have hoj:=Ya.1 hm;have hjl:j<ops.length:=(Zd.1 hoj).1;by_cases hjn:j=n
    ·subst hjn;rw[ho]at hoj;injection hoj with hoj;subst hoj
     exact haf i hj.2
    ·have hjlt:j<n:=by omega
     exact hcl j o' hoj (ih (n-j) (by omega) j rfl hjlt) i hj.2
 intro i hi;exact key (n-i) i rfl hi
theorem bwa{P:Program}{G:World→Prop}{ops:List AOper}{os:List AOper}{o:AOper}{K:Ts→Hp→Prop}{ts:Ts}{h h1:Hp}{v:A}(hops:ops=os++[o])(he:edgesB 0 ops=true)(hs:seesB ops=true)(hk:sinkB ops=true)(hg:o.guard=none)
  (hp:aquiet P G h os (fun ts=>aopP P G (evX ts) h (fun v' h'=>v'=v∧h'=h1) o.op∧K (put ts o.dst v) h1) ts):adraw P G ops K ts h:=by
 obtain⟨vs,t1,t2,t3⟩:=ax2 os ts hp;have hlen:ops.length=os.length+1:=by rw[hops];simp
 have hon:ops[os.length]?=some o:=by rw[hops];simp
 have hgo:∀ i,i<os.length→ops[i]?=os[i]?:=fun i hi=>by rw[hops,ZV hi]
 let vals:Nat→A:=fun i=>if i=os.length then v else vs i
 have hpre:∀ i,i≤os.length→pre ts os vs i=TD ops vals ts (fun j=>decide (j<i)):=by
  intro i hi;have hpe:∀(xs:List AOper) (k:Nat) (ts:Ts) (w1 w2:Nat→A),(∀ q,q<k→w1 q=w2 q)→pre ts xs w1 k=pre ts (xs++[o]) w2 k∨xs.length<k:=by
   intro xs;induction xs with
   |nil=>intro k ts w1 w2 hq;cases k with
    |zero=>exact .inl rfl
    |succ k=>exact .inr (by simp)
   |cons x xs ih =>
    intro k ts w1 w2 hq;cases k with
    |zero=>exact .inl rfl
    |succ k =>
     rcases ih k (put ts x.dst (w1 0)) (fun q=>w1 (q+1)) (fun q=>w2 (q+1)) (fun q hq'=>hq (q+1) (by omega))with h2|h2
     ·left
      simp only[pre,Zl];rw[h2,hq 0 (by omega)]
     ·right;simp;omega
  rcases hpe os i ts vs vals (fun q hq=>by show vs q=if q=os.length then v else vs q;rw[if_neg (by omega)])with h2|h2
  ·rw[h2,←hops];exact funext fun x=>pre_eq ops 0 ts vals i he (by omega) x
  ·omega
 refine akg he vals (fun D=>if D os.length=true then h1 else h) (by simp) (fun D i oi hi hDi hcl haf=>?_) ?_
 ·have hsee:=bzy he hs hi hDi hcl haf vals ts;have hilt:i<ops.length:=(Zd.1 hi).1;by_cases hin:i=os.length
  ·subst hin;rw[hon]at hi;injection hi with hi;subst hi
   rw[←hpre _ (Zf _)]at hsee;rw[hg];simp only[hDi,Zk,if_false,Y2,YT,if_true];show aopP P G _ h _ o.op
   have hv:vals os.length=v:=by show(if os.length=os.length then v else _)=v;rw[if_pos rfl]
   rw[hv];exact aqw (ajc fun x hx=>(hsee x hx).symm) t2
  ·have hi':i<os.length:=by omega
   have hDn:D os.length=false:=by
    cases hDn:D os.length with
    |false=>rfl
    |true =>
     rw[cxu hk hlen.symm hon hcl (fun j hj=>hcl _ _ hon hDn j hj) i hi']at hDi;cases hDi
   have h3:=t1 i oi (by rw[←hgo i hi'];exact hi);rw[hpre i (by omega)]at h3;have hne:(os.length==i)=false:=by simp;omega
   simp only[hDn,hne,Zk,if_false,Ys];have hv:vals i=vs i:=by show(if i=os.length then v else vs i)=vs i;rw[if_neg hin]
   rw[hv];refine axx (fun x hx=>(hsee x hx).symm) (azr (fun hq=>?_) (fun hq=>⟨hq,trivial⟩) h3);exact aqw (ajc fun x hx=>(hsee x hx).symm) hq
 ·have h4:TD ops vals ts (fun j=>decide (j<ops.length))=put (TD ops vals ts fun j=>decide (j<os.length)) o.dst v:=by
   have e1:pre ts ops vals ops.length=TD ops vals ts (fun j=>decide (j<ops.length)):=funext fun x=>pre_eq ops 0 ts vals _ he (Zf _) x
   have e2:pre ts ops vals os.length=TD ops vals ts (fun j=>decide (j<os.length)):=funext fun x=>pre_eq ops 0 ts vals _ he (by omega) x
   rw[←e1,←e2,hlen,hops];have hstep:∀(xs:List AOper) (ts:Ts) (w1:Nat→A),pre ts (xs++[o]) w1 (xs.length+1)=put (pre ts (xs++[o]) w1 xs.length) o.dst (w1 xs.length):=by
    intro xs;induction xs with
    |nil=>intro ts w1;rfl
    |cons x xs ih=>intro ts w1;exact ih _ _
   rw[hstep];congr 1;show(if os.length=os.length then v else _)=v
   rw[if_pos rfl]
  rw[h4,←hpre _ (Zf _)];simp only[hlen,Nat.lt_succ_self,decide_true,if_true];exact t3
theorem cjn{P:Program}{G:World→Prop}{ops:List AOper}{Q:AExit→Ts→Hp→Prop}{ts:Ts}{h:Hp}(os:List AOper)(o:AOper)(h1:Hp)(v:A)(hops:ops=os++[o])(hb:(edgesB 0 ops&&seesB ops&&sinkB ops&&o.guard.isNone)=true)
  (hq:aquiet P G h os (fun ts=>aopP P G (evX ts) h (fun v' h'=>v'=v∧h'=h1) o.op∧Q .normal (put ts o.dst v) h1) ts):awp P G (.reg true ops) Q ts h:=by
 simp only[Zc,Option.isNone_iff_eq_none]at hb;exact⟨hb.1.1.1,bwa hops hb.1.1.1 hb.1.1.2 hb.1.2 hb.2 hq⟩
section
variable {P:Program} {G:World→Prop}
theorem ckd{K:Ts→Hp→Prop}{ts:Ts}{h:Hp}(k:K ts h):aops P G [] K ts h:=k
theorem byi{d:Option Nat}{o:AOp}{af:List Nat}{os:List AOper}{K:Ts→Hp→Prop}{ts:Ts}{h h':Hp}{v:A}(hc:o.isCall=false)(hs:astep (evX ts) h o=some (v,h'))(k:aops P G os K (put ts d v) h'):aops P G (⟨d,o,none,af⟩::os) K ts h:=by
 show aopP P G (evX ts) h _ o
 cases o with
 |call=>simp[AOp.isCall]at hc
 |callv=>simp[AOp.isCall]at hc
 |_=>simp only[aopP];rw[hs];exact k
theorem cv4{d:Option Nat}{o:AOp}{t:Nat}{b:Bool}{af:List Nat}{os:List AOper}{K:Ts→Hp→Prop}{ts:Ts}{h h':Hp}{v:A}(hg:ts t=.bool b)(hc:o.isCall=false)(hs:astep (evX ts) h o=some (v,h'))(k:aops P G os K (put ts d v) h'):aops P G (⟨d,o,some (t,b),af⟩::os) K ts h:=by
 have key:=byi (P:=P) (G:=G) (d:=d) (af:=af) hc hs k;show guardP ts (some (t,b)) _ _
 simp only[guardP,hg];exact⟨fun _=>key,fun e=>(by cases b<;>cases e)⟩
theorem go_skip{d:Option Nat}{o:AOp}{t:Nat}{b:Bool}{af:List Nat}{os:List AOper}{K:Ts→Hp→Prop}{ts:Ts}{h:Hp}(hg:ts t=.bool (!b))(k:aops P G os K (put ts d (.tup [])) h):aops P G (⟨d,o,some (t,b),af⟩::os) K ts h:=by
 show guardP ts (some (t,b)) _ _
 simp only[guardP,hg];exact⟨fun e=>(by cases b<;>cases e),fun _=>k⟩
theorem cvv{d:Option Nat}{o:AOp}{t:Nat}{b:Bool}{af:List Nat}{os:List AOper}{K:Ts→Hp→Prop}{ts:Ts}{h:Hp}(hg:ts t=.tup [])(k:aops P G os K (put ts d (.tup [])) h):aops P G (⟨d,o,some (t,b),af⟩::os) K ts h:=by
 show guardP ts (some (t,b)) _ _
 simp only[guardP,hg];exact k
theorem go_call{d:Option Nat}{f:FuncId}{as:List Opd}{vs:List A}{af:List Nat}{os:List AOper}{K:Ts→Hp→Prop}{ts:Ts}{h:Hp}(ha:as.map (evX ts)=vs)(k:ACall P G f vs h fun v h'=>aops P G os K (put ts d v) h'):aops P G (⟨d,.call f as,none,af⟩::os) K ts h:=by
 subst ha;exact k
theorem cjp{d:Option Nat}{f:FuncId}{t:Nat}{b:Bool}{as:List Opd}{vs:List A}{af:List Nat}{os:List AOper}{K:Ts→Hp→Prop}{ts:Ts}{h:Hp}(hg:ts t=.bool b)(ha:as.map (evX ts)=vs)(k:ACall P G f vs h fun v h'=>aops P G os K (put ts d v) h'):aops P G (⟨d,.call f as,some (t,b),af⟩::os) K ts h:=by
 subst ha;show guardP ts (some (t,b)) _ _
 simp only[guardP,hg];exact⟨fun _=>k,fun e=>(by cases b<;>cases e)⟩
theorem cvb{d:Option Nat}{x:Opd}{f:FuncId}{caps:List A}{as:List Opd}{vs:List A}{af:List Nat}{os:List AOper}{K:Ts→Hp→Prop}{ts:Ts}{h:Hp}(hx:evX ts x=.fn f caps)(hb:Nat.blt f bmk=true)(hok:callOk P f=true)(ha:as.map (evX ts)++caps=vs)(k:ACall P G f vs h fun v h'=>aops P G os K (put ts d v) h'):aops P G (⟨d,.callv x as,none,af⟩::os) K ts h:=by
 subst ha;have hb:=Nat.blt_eq.mp hb;exact⟨f,caps,hx,by rw[vF,if_pos hb];exact hok,by rw[vF,vA,if_pos hb,if_pos hb];exact k⟩
theorem cko{K:Ts→Prop}{ts:Ts}{h:Hp}(k:K ts):aquiet P G h [] K ts:=k
theorem cwx{d:Option Nat}{o:AOp}{af:List Nat}{os:List AOper}{K:Ts→Prop}{ts:Ts}{h:Hp}{v:A}(hc:o.isCall=false)(hs:astep (evX ts) h o=some (v,h))(k:aquiet P G h os K (put ts d v)):aquiet P G h (⟨d,o,none,af⟩::os) K ts:=by
 show aopQ P G (evX ts) h _ o
 cases o with
 |call=>simp[AOp.isCall]at hc
 |callv=>simp[AOp.isCall]at hc
 |_=>simp only[aopQ];rw[hs];exact⟨rfl,k⟩
theorem cv9{d:Option Nat}{o:AOp}{t:Nat}{b:Bool}{af:List Nat}{os:List AOper}{K:Ts→Prop}{ts:Ts}{h:Hp}{v:A}(hg:ts t=.bool b)(hc:o.isCall=false)(hs:astep (evX ts) h o=some (v,h))(k:aquiet P G h os K (put ts d v)):aquiet P G h (⟨d,o,some (t,b),af⟩::os) K ts:=by
 have key:=cwx (P:=P) (G:=G) (d:=d) (af:=af) hc hs k;show guardP ts (some (t,b)) _ _
 simp only[guardP,hg];exact⟨fun _=>key,fun e=>(by cases b<;>cases e)⟩
theorem cyu{d:Option Nat}{o:AOp}{t:Nat}{b:Bool}{af:List Nat}{os:List AOper}{K:Ts→Prop}{ts:Ts}{h:Hp}(hg:ts t=.bool (!b))(k:aquiet P G h os K (put ts d (.tup []))):aquiet P G h (⟨d,o,some (t,b),af⟩::os) K ts:=by
 show guardP ts (some (t,b)) _ _
 simp only[guardP,hg];exact⟨fun e=>(by cases b<;>cases e),fun _=>k⟩
theorem cja{d:Option Nat}{o:AOp}{t:Nat}{b:Bool}{af:List Nat}{os:List AOper}{K:Ts→Prop}{ts:Ts}{h:Hp}(hg:ts t=.tup [])(k:aquiet P G h os K (put ts d (.tup []))):aquiet P G h (⟨d,o,some (t,b),af⟩::os) K ts:=by
 show guardP ts (some (t,b)) _ _
 simp only[guardP,hg];exact k
theorem by4{d:Option Nat}{f:FuncId}{as:List Opd}{vs:List A}{r:A}{af:List Nat}{os:List AOper}{K:Ts→Prop}{ts:Ts}{h:Hp}(ha:as.map (evX ts)=vs)(hcall:ACall P G f vs h fun v' h'=>v'=r∧h'=h)(k:aquiet P G h os K (put ts d r)):aquiet P G h (⟨d,.call f as,none,af⟩::os) K ts:=by
 subst ha;exact⟨r,hcall,k⟩
theorem cwi{Q:AExit→Ts→Hp→Prop}{ts:Ts}{h:Hp}(k:Q .normal ts h):awp P G .skip Q ts h:=k
theorem dzn{ops:List AOper}{Q:AExit→Ts→Hp→Prop}{ts:Ts}{h:Hp}(k:aops P G ops (Q .normal) ts h):awp P G (.reg false ops) Q ts h:=k
theorem bkd{x y:ACode}{Q:AExit→Ts→Hp→Prop}{ts:Ts}{h:Hp}(k:awp P G x (thenA (awp P G y Q) Q) ts h):awp P G (.seq x y) Q ts h:=k
theorem cxz{c:Opd}{x y:ACode}{Q:AExit→Ts→Hp→Prop}{ts:Ts}{h:Hp}(hc:evX ts c=.bool true)(k:awp P G x Q ts h):awp P G (.cond c x y) Q ts h:=by
 show condP (evX ts c) _ _
 rw[hc];exact⟨fun _=>k,fun e=>(by cases e)⟩
theorem cvu{c:Opd}{x y:ACode}{Q:AExit→Ts→Hp→Prop}{ts:Ts}{h:Hp}(hc:evX ts c=.bool false)(k:awp P G y Q ts h):awp P G (.cond c x y) Q ts h:=by
 show condP (evX ts c) _ _
 rw[hc];exact⟨fun e=>(by cases e),fun _=>k⟩
theorem ckz{c:Opd}{b:Bool}{x y:ACode}{Q:AExit→Ts→Hp→Prop}{ts:Ts}{h:Hp}(hc:evX ts c=.bool b)(k1:b=true→awp P G x Q ts h)(k2:b=false→awp P G y Q ts h):awp P G (.cond c x y) Q ts h:=by
 show condP (evX ts c) _ _
 rw[hc];exact⟨k1,k2⟩
theorem bvx{id:Nat}{c:ACode}{Q:AExit→Ts→Hp→Prop}{ts:Ts}{h:Hp}(k:awp P G c (blkA id Q) ts h):awp P G (.block id c) Q ts h:=k
theorem bjd{id:Nat}{Q:AExit→Ts→Hp→Prop}{ts:Ts}{h:Hp}(k:Q (.exit id) ts h):awp P G (.exit id) Q ts h:=k
theorem go_ret{Q:AExit→Ts→Hp→Prop}{ts:Ts}{h:Hp}(k:Q .ret ts h):awp P G .ret Q ts h:=k
theorem cyd{K:Ts→Hp→Prop}{Q:AExit→Ts→Hp→Prop}{ts:Ts}{h:Hp}(k:K ts h):thenA K Q .normal ts h:=k
theorem cyl{K:Ts→Hp→Prop}{Q:AExit→Ts→Hp→Prop}{ts:Ts}{h:Hp}(k:Q .ret ts h):thenA K Q .ret ts h:=k
theorem cyw{K:Ts→Hp→Prop}{Q:AExit→Ts→Hp→Prop}{id:Nat}{ts:Ts}{h:Hp}(k:Q (.exit id) ts h):thenA K Q (.exit id) ts h:=k
theorem ckw{id:Nat}{Q:AExit→Ts→Hp→Prop}{ts:Ts}{h:Hp}(k:Q .normal ts h):blkA id Q .normal ts h:=k
theorem cwy{id:Nat}{Q:AExit→Ts→Hp→Prop}{ts:Ts}{h:Hp}(k:Q .ret ts h):blkA id Q .ret ts h:=k
theorem cj8{id:Nat}{Q:AExit→Ts→Hp→Prop}{ts:Ts}{h:Hp}(k:Q .normal ts h):blkA id Q (.exit id) ts h:=by
 show if id=id then _ else _
 rw[if_pos rfl];exact k
theorem cvi{id id':Nat}{Q:AExit→Ts→Hp→Prop}{ts:Ts}{h:Hp}(hne:(id'==id)=false)(k:Q (.exit id') ts h):blkA id Q (.exit id') ts h:=by
 show if id'=id then _ else _
 rw[if_neg (by simpa using hne)];exact k
theorem cj5{rs:List ARes}{Q:A→Hp→Prop}{ts:Ts}{h:Hp}{l:List A}(hr:resA ts h rs=some l)(k:∃ v,le (tupA l) v∧Q v h):finQ rs Q .ret ts h:=by
 show finO (resA ts h rs) Q h
 rw[hr];exact k
theorem cxd{rs:List ARes}{Q:A→Hp→Prop}{ts:Ts}{h:Hp}{l:List A}(hr:resA ts h rs=some l)(k:∃ v,le (tupA l) v∧Q v h):finQ rs Q .normal ts h:=cj5 hr k
theorem pcall{f:FuncId}{args:List A}{r:A}(hc:ACall P G f args ⟨[],[]⟩ fun v _=>v=r)(hp:r.pure=true)(ha:args.all A.pure=true)(h:Hp):ACall P G f args h fun v h'=>v=r∧h'=h:=
 (hc.beside (fun v h' e=>by rw[e];exact hp) ha h).mono fun v h' ⟨h1,_,h2⟩=>⟨h2,h1⟩
end
end AX
end Go.Proofs.YtdgcbckcameggadGreatDoor

namespace Go.Proofs.YtdgcbckcameggadGreatDoor
open Go.RowKit
namespace AX
def stageB(ops:List AOper)(acts:List Nat)(i k:Nat):Bool:=
 acts.zipIdx.all fun(a,m)=>(!((ops[i]?.map (·.after)).getD []).contains a||decide (m<k))&&(!(((ops[a]?.map (·.after)).getD []).contains i||a==i)||decide (k≤m))
def chainB(ops:List AOper)(acts:List Nat):Bool:=
 acts.zipIdx.all fun(a,m)=>decide (a<ops.length)&&((ops[a]?.map (·.guard.isNone)).getD false)&&(acts.take m).all fun a'=>((ops[a]?.map (·.after)).getD []).contains a'
def chainG(ops:List AOper)(acts:List Nat):Bool:=
 acts.zipIdx.all fun(a,m)=>decide (a<ops.length)&&(acts.take m).all fun a'=>((ops[a]?.map (·.after)).getD []).contains a'
theorem akx{ops:List AOper}{acts:List Nat}(h:chainB ops acts=true):chainG ops acts=true:=by
 unfold chainB at h;unfold chainG;rw[ZF]at h ⊢;intro x hx;have:=h x hx;simp only[Zc]at this ⊢;exact⟨this.1.1,this.2⟩
def stagesB(ops:List AOper)(acts:List Nat)(stg:List (List Nat)):Bool:=
 (List.range ops.length).all fun i=>(List.range (acts.length+1)).all fun k=>!stageB ops acts i k||(stg.getD i []).contains k
def forL(p:Nat→Prop):List Nat→Prop
 |[]=>True
 |k::ks=>p k∧forL p ks
theorem bzg{p:Nat→Prop}:∀ {ks:List Nat},forL p ks→∀ k∈ks,p k
 |[],_,k,hk=>by simp at hk
 |a::ks,h,k,hk=>by
  rcases Z7.1 hk with rfl|hk
  ·exact h.1
  ·exact bzg h.2 k hk
def achain(P:Program)(G:World→Prop)(acts:List Nat)(hl:List Hp):Nat→List AOper→List (List Nat)→(Ts→Prop)→Ts→Prop
 |_,[],_,K,ts=>K ts
 |i,o::os,stg,K,ts=>∃ v,forL (fun k=>guardP ts o.guard (aopP P G (evX ts) (hl.getD k ⟨[],[]⟩) (fun v' h'=>v'=v∧h'=hl.getD (if acts[k]?=some i then k+1 else k) ⟨[],[]⟩) o.op) (v=.tup []∧hl.getD (if acts[k]?=some i then k+1 else k) ⟨[],[]⟩=hl.getD k ⟨[],[]⟩)) (stg.headD [])∧achain P G acts hl (i+1) os stg.tail K (put ts o.dst v)
section
variable {P:Program} {G:World→Prop}
theorem avy{acts:List Nat}{hl:List Hp}{K:Ts→Prop}:∀(os:List AOper) (b:Nat) (stg:List (List Nat)) (ts:Ts),achain P G acts hl b os stg K ts →
  ∃ vs:Nat→A,(∀(i:Nat) (o:AOper),os[i]?=some o→∀ k∈stg.getD i [],guardP (pre ts os vs i) o.guard (aopP P G (evX (pre ts os vs i)) (hl.getD k ⟨[],[]⟩) (fun v' h'=>v'=vs i∧h'=hl.getD (if acts[k]?=some (b+i)then k+1 else k) ⟨[],[]⟩) o.op) (vs i=.tup []∧hl.getD (if acts[k]?=some (b+i)then k+1 else k) ⟨[],[]⟩=hl.getD k ⟨[],[]⟩))∧K (pre ts os vs os.length)
 |[],b,stg,ts,hp=>⟨fun _ => .tup [],fun i o hi=>by simp at hi,hp⟩
 |o::os,b,stg,ts,hp=>by
  obtain⟨v,h1,h2⟩:=hp;obtain⟨vs,h3,h4⟩:=avy os (b+1) stg.tail _ h2;refine⟨fun i=>match i with|0=>v|i+1=>vs i,fun i o' hi k hk=>?_,h4⟩;cases i with
  |zero =>
   simp at hi;subst hi;have hk':k∈stg.headD []:=by cases stg with
    |nil=>simp at hk
    |cons a l=>simpa using hk
   exact bzg h1 k hk'
  |succ i =>
   have hk':k∈stg.tail.getD i []:=by cases stg with
    |nil=>simp at hk
    |cons a l=>simpa using hk
   have:=h3 i o' (by simpa using hi) k hk';rw[show b+1+i=b+(i+1) by omega]at this;exact this
def cnt(acts:List Nat)(D:Nat→Bool):Nat:=(acts.takeWhile D).length
theorem ajr:∀(acts:List Nat) (D:Nat→Bool) (c:Nat),c≤acts.length→(∀ m (h:m<acts.length),D acts[m]=true↔m<c)→cnt acts D=c
 |[],D,c,hc,h=>by simp at hc;subst hc;rfl
 |a::l,D,0,hc,h=>by
  have h0:=h 0 (by simp);simp at h0;simp[cnt,List.takeWhile_cons,h0]
 |a::l,D,c+1,hc,h=>by
  have h0:=h 0 (by simp);simp at h0;have ih:=ajr l D c (by simpa using hc) fun m hm=>by
   have:=h (m+1) (by simp;omega);simpa using this
  unfold cnt at ih ⊢;rw[List.takeWhile_cons,h0];simp[ih]
theorem aq1 {ops:List AOper} {acts:List Nat} (hc:chainG ops acts=true) {m m':Nat} (hm:m < acts.length) (hlt:m' < m):∃ o,ops[acts[m]]?=some o∧acts[m']'(by omega)∈o.after:=by
 have h1:=ZF.1 hc (acts[m],m) (Ya.2 (Zm hm));simp only [Zc,Zq] at h1;have h2:=ZF.1 h1.2 (acts[m']'(by omega)) (by rw [List.mem_take_iff_getElem]; exact ⟨m',by omega,rfl⟩);have hlt':=h1.1;refine ⟨ops[acts[m]],Zm hlt',?_⟩;rw [Zm hlt'] at h2;simpa using h2
theorem bkq{ops:List AOper}{acts:List Nat}(hc:chainG ops acts=true){D:Nat→Bool}(hcl:Closed ops D):cnt acts D≤acts.length∧∀ m (h:m<acts.length),D acts[m]=true↔m<cnt acts D:=by
 have key:∃ c,c≤acts.length∧∀ m (h:m<acts.length),D acts[m]=true↔m<c:=by
  have hdown:∀ m m' (h:m < acts.length) (hlt:m' < m),D acts[m]=true→D (acts[m']'(by omega))=true:=fun m m' h hlt hD=>by
   obtain⟨o,h1,h2⟩:=aq1 hc h hlt;exact hcl _ _ h1 hD _ h2
  have hex:∀ n,n≤acts.length→∃ c,c≤n∧∀ m (h:m<n) (h':m<acts.length),D acts[m]=true↔m<c:=by
   intro n;induction n with
   |zero=>exact fun _=>⟨0,Zf _,fun m h=>by omega⟩
   |succ n ih =>
    intro hn;obtain⟨c,h1,h2⟩:=ih (by omega);by_cases hD:D (acts[n]'(by omega))=true
    ·refine⟨n+1,Zf _,fun m h h'=>⟨fun _=>h,fun _=>?_⟩⟩;by_cases hmn:m=n
     ·subst hmn;exact hD
     ·exact hdown n m (by omega) (by omega) hD
    ·refine⟨c,by omega,fun m h h'=>?_⟩;by_cases hmn:m=n
     ·subst hmn;exact⟨fun h=>absurd h hD,fun h=>by omega⟩
     ·exact h2 m (by omega) h'
  obtain⟨c,h1,h2⟩:=hex acts.length (Zf _);exact⟨c,h1,fun m h=>h2 m h h⟩
 obtain⟨c,h1,h2⟩:=key;rw[ajr acts D c h1 h2];exact⟨h1,h2⟩
theorem awa{ops:List AOper}{K:Ts→Hp→Prop}{ts:Ts}(acts:List Nat)(hl:List Hp)(stg:List (List Nat))(he:edgesB 0 ops=true)(hs:seesB ops=true)(hc:chainG ops acts=true)(hst:stagesB ops acts stg=true)
  (hp:achain P G acts hl 0 ops stg (fun ts=>K ts (hl.getD acts.length ⟨[],[]⟩)) ts):adraw P G ops K ts (hl.getD 0 ⟨[],[]⟩):=by
 obtain⟨vs,t1,t2⟩:=avy ops 0 stg ts hp;refine akg he vs (fun D=>hl.getD (cnt acts D) ⟨[],[]⟩) ?_ (fun D i o hi hDi hcl haf=>?_) ?_
 ·show hl.getD (cnt acts _) _=_
  rw[ajr acts (fun _=>false) 0 (Zy _) (fun m h=>by simp)]
 ·obtain⟨hk1,hk2⟩:=bkq hc hcl;generalize hkD:cnt acts D=k at hk1 hk2;have hsee:=bzy he hs hi hDi hcl haf vs ts;have hilt:i<ops.length:=(Zd.1 hi).1;have hmem:k∈stg.getD i []:=by
   have h1:=ZF.1 (ZF.1 hst i (List.mem_range.2 hilt)) k (List.mem_range.2 (by omega));have h2:stageB ops acts i k=true:=by
    unfold stageB;refine ZF.2 ?_;rintro⟨a,m⟩ hm;have hm':=Ya.1 hm;obtain⟨hml,hma⟩:=Zd.1 hm';subst hma;simp only[Zc,ZS,Zq,Yv];constructor
    ·by_cases hin:acts[m]∈o.after
     ·right;exact(hk2 m hml).1 (haf _ hin)
     ·left;rw[hi];simpa using hin
    ·by_cases hin:D acts[m]=true
     ·left
      simp only[YC];constructor
      ·cases ho:ops[acts[m]]? with
       |none=>simp
       |some o' =>
        simp only[ZO,Z3];rw[Y4];intro hcon;have:=hcl _ _ ho hin i (by simpa using hcon);rw[hDi]at this;cases this
      ·rw[Y4];intro hcon;have:acts[m]=i:=by simpa using hcon
       rw[this,hDi]at hin;cases hin
     ·right
      have:=mt (hk2 m hml).2 hin;omega
   rw[h2]at h1;simpa using h1
  have h3:=t1 i o hi k hmem;rw[Yt]at h3;have hpre:pre ts ops vs i=TD ops vs ts (fun j=>decide (j<i)):=funext fun x=>pre_eq ops 0 ts vs i he (by omega) x
  rw[hpre]at h3;have hcnt:cnt acts (fun j=>j==i||D j)=if acts[k]?=some i then k+1 else k:=by
   have hnd:∀ m m' (h:m < acts.length) (h':m' < m),acts[m]≠acts[m']'(by omega):=fun m m' h h' e=>by
    obtain⟨o',h1,h2⟩:=aq1 hc h h';have:=aqd he _ _ h1 _ h2;omega
   split
   ·next hki =>
    obtain⟨hkl,hki⟩:=Zd.1 hki;refine ajr acts _ (k+1) (by omega) fun m h=>?_
    simp only[ZS,ZC];rw[hk2 m h];constructor
    ·rintro(h1|h1)
     ·rcases Nat.lt_trichotomy m k with h4|h4|h4
      ·omega
      ·omega
      ·exact absurd (h1.trans hki.symm) (hnd m k h h4)
     ·omega
    ·intro h1;by_cases hmk:m=k
     ·subst hmk;exact .inl hki
     ·exact .inr (by omega)
   ·next hki =>
    refine ajr acts _ k hk1 fun m h=>?_
    simp only[ZS,ZC];rw[hk2 m h];constructor
    ·rintro(h1|h1)
     ·exfalso
      have h5:¬m<k:=fun h6=>by have:=(hk2 m h).2 h6;rw[h1,hDi]at this;cases this
      have h6:m≠k:=fun e=>by subst e;exact hki (by rw[Zm h,h1])
      obtain⟨o',h7,h8⟩:=aq1 hc h (show k<m by omega);rw[h1,hi]at h7;injection h7 with h7;subst h7
      have:=(hk2 k (by omega)).1 (haf _ h8);omega
     ·exact h1
    ·exact fun h1 => .inr h1
  rw[hcnt];refine axx (fun x hx=>(hsee x hx).symm) ?_;refine azr (fun hq=>?_) (fun hq=>hq) h3;exact aqw (ajc fun x hx=>(hsee x hx).symm) hq
 ·have e1:pre ts ops vs ops.length=TD ops vs ts (fun j=>decide (j<ops.length)):=funext fun x=>pre_eq ops 0 ts vs _ he (Zf _) x
  show K _ (hl.getD (cnt acts _) _)
  rw[←e1,ajr acts _ acts.length (Zf _) fun m h=>?_]
  ·exact t2
  ·have h1:=ZF.1 hc (acts[m],m) (Ya.2 (Zm h));simp only[Zc,Zq]at h1;simp[h1.1,h]
theorem bxm{ops:List AOper}{Q:AExit→Ts→Hp→Prop}{ts:Ts}{h:Hp}(acts:List Nat)(hl:List Hp)(stg:List (List Nat))(h0:hl.getD 0 ⟨[],[]⟩=h)(hb:(edgesB 0 ops&&seesB ops&&chainG ops acts&&stagesB ops acts stg)=true)
  (hp:achain P G acts hl 0 ops stg (fun ts=>Q .normal ts (hl.getD acts.length ⟨[],[]⟩)) ts):awp P G (.reg true ops) Q ts h:=by
 simp only[Zc]at hb;subst h0;exact⟨hb.1.1.1,awa acts hl stg hb.1.1.1 hb.1.1.2 hb.1.2 hb.2 hp⟩
variable {acts:List Nat} {hl:List Hp} {stg:List (List Nat)} {i:Nat} {ks:List Nat} {d:Option Nat} {af:List Nat} {os:List AOper} {K:Ts→Prop} {ts:Ts} {v:A}
theorem cka(k:K ts):achain P G acts hl i [] stg K ts:=k
theorem aks{o:AOp}(hc:o.isCall=false)(hs:forL (fun k=>astep (evX ts) (hl.getD k ⟨[],[]⟩) o=some (v,hl.getD (if acts[k]?=some i then k+1 else k) ⟨[],[]⟩)) ks)(k:achain P G acts hl (i+1) os stg K (put ts d v)):achain P G acts hl i (⟨d,o,none,af⟩::os) (ks::stg) K ts:=by
 refine⟨v,?_,k⟩;have key:∀ ks,forL (fun k=>astep (evX ts) (hl.getD k ⟨[],[]⟩) o=some (v,hl.getD (if acts[k]?=some i then k+1 else k) ⟨[],[]⟩)) ks→forL (fun k=>guardP ts none (aopP P G (evX ts) (hl.getD k ⟨[],[]⟩) (fun v' h'=>v'=v∧h'=hl.getD (if acts[k]?=some i then k+1 else k) ⟨[],[]⟩) o) (v=.tup []∧hl.getD (if acts[k]?=some i then k+1 else k) ⟨[],[]⟩=hl.getD k ⟨[],[]⟩)) ks:=by
  intro ks;induction ks with
  |nil=>exact fun h=>h
  |cons a ks ih =>
   intro h;refine⟨?_,ih h.2⟩;have h1:=h.1;show aopP P G _ _ _ o
   cases o with
   |call=>simp[AOp.isCall]at hc
   |callv=>simp[AOp.isCall]at hc
   |_=>simp only[aopP];rw[h1];exact⟨rfl,rfl⟩
 exact key ks hs
theorem czn{f:FuncId}{as:List Opd}{vs:List A}(ha:as.map (evX ts)=vs)(hcall:forL (fun k=>ACall P G f vs (hl.getD k ⟨[],[]⟩) fun v' h'=>v'=v∧h'=hl.getD (if acts[k]?=some i then k+1 else k) ⟨[],[]⟩) ks)(k:achain P G acts hl (i+1) os stg K (put ts d v)):achain P G acts hl i (⟨d,.call f as,none,af⟩::os) (ks::stg) K ts:=by
 subst ha;exact⟨v,hcall,k⟩
end
end AX
end Go.Proofs.YtdgcbckcameggadGreatDoor

namespace Go.Proofs.YtdgcbckcameggadGreatDoor
open Go.RowKit
namespace AX
mutual
def A.ren(σ:Nat→Nat):A→A
 |.int k n => .int k n
 |.str l => .str l
 |.bool b => .bool b
 |.sl W o rows => .sl W o rows
 |.ptr i o => .ptr (σ i) o
 |.vptr l => .vptr l
 |.nilp => .nilp
 |.nili => .nili
 |.nilf => .nilf
 |.nilm => .nilm
 |.mp i => .mp (σ i)
 |.bs i W n => .bs (σ i) W n
 |.fn f caps => .fn f (A.renL σ caps)
 |.agg l => .agg (A.renL σ l)
 |.tup l => .tup (A.renL σ l)
def A.renL(σ:Nat→Nat):List A→List A
 |[]=>[]
 |x::l=>x.ren σ::A.renL σ l
end
mutual
def A.loc(k:Nat):A→Bool
 |.ptr i _=>decide (i<k)
 |.mp i=>decide (i<k)
 |.bs i _ _=>decide (i<k)
 |.sl _ (.tok _) _=>false
 |.fn _ caps=>A.locL k caps
 |.agg l=>A.locL k l
 |.tup l=>A.locL k l
 |_=>true
def A.locL(k:Nat):List A→Bool
 |[]=>true
 |x::l=>x.loc k&&A.locL k l
end
def Blk.ren(σ:Nat→Nat):Blk→Blk
 |.cells T l => .cells T (A.renL σ l)
 |.opq R vis => .opq R vis
 |.map es c => .map (es.map fun e=>(e.1,e.2.ren σ)) c
 |.row T l => .row T (A.renL σ l)
def Blk.loc(k:Nat):Blk→Prop
 |.cells _ l=>A.locL k l=true
 |.opq _ vis=>∀ o x,vis o=some x→x.data=true
 |.map es _=>(es.all fun e=>e.2.loc k)=true
 |.row _ l=>A.locL k l=true
structure Ren(C0 C:Ctx)(σ:Nat→Nat)(k:Nat):Prop where
 cells:∀ g j,C0.S g j→C.S g j∧C.w.cell? ⟨g,j,none⟩=C0.w.cell? ⟨g,j,none⟩
 box:∀ j,j<k→σ j<C.nb∧C.κ (σ j)=C0.κ j
structure RenR(C C0:Ctx)(σ:Nat→Nat)(k:Nat):Prop where
 cells:∀ g j,C.S g j→C0.S g j∧C0.w.cell? ⟨g,j,none⟩=C.w.cell? ⟨g,j,none⟩
 box:∀ j,j<k→j<C0.nb∧C0.κ j=C.κ (σ j)
section
variable {C C0:Ctx} {σ:Nat→Nat} {k:Nat}
mutual
theorem Rep.ren(h:Ren C0 C σ k):∀(x:A) (v:Value),x.loc k=true→Rep C0 x v→Rep C (x.ren σ) v
 |.int _ n,v,d,r=>by unfold A.ren;unfold Rep at r ⊢;exact r
 |.str l,v,d,r=>by unfold A.ren;unfold Rep at r ⊢;exact r
 |.bool b,v,d,r=>by unfold A.ren;unfold Rep at r ⊢;exact r
 |.sl W o rows,v,d,r=>by
  unfold A.ren;cases o with
  |no=>exact Rep.same ⟨h.cells⟩ (.sl W .no rows) v rfl r
  |nil=>exact Rep.same ⟨h.cells⟩ (.sl W .nil rows) v rfl r
  |tok t=>simp[A.loc]at d
 |.ptr i o,v,d,r=>by
  unfold A.ren;unfold Rep at r ⊢;unfold A.loc at d;have hi:=h.box i (by simpa using d);rw[hi.2];exact⟨r.1,hi.1⟩
 |.vptr l,v,d,r=>by
  unfold A.ren;unfold Rep at r ⊢;obtain⟨g,off,h1,h2⟩:=r;exact⟨g,off,h1,RepAt.same ⟨h.cells⟩ l g off h2⟩
 |.nilp,v,d,r=>by unfold A.ren;unfold Rep at r ⊢;exact r
 |.nili,v,d,r=>by unfold A.ren;unfold Rep at r ⊢;exact r
 |.nilf,v,d,r=>by unfold A.ren;unfold Rep at r ⊢;exact r
 |.nilm,v,d,r=>by unfold A.ren;unfold Rep at r ⊢;exact r
 |.mp i,v,d,r=>by
  unfold A.ren;unfold Rep at r ⊢;unfold A.loc at d;have hi:=h.box i (by simpa using d);rw[hi.2];exact⟨r.1,hi.1⟩
 |.bs i W n,v,d,r=>by
  unfold A.ren;unfold Rep at r ⊢;unfold A.loc at d;have hi:=h.box i (by simpa using d);rw[hi.2];obtain⟨cap,h1,h2,h3⟩:=r;exact⟨cap,h1,h2,hi.1⟩
 |.fn f caps,v,d,r=>by
  unfold A.ren;unfold Rep at r ⊢;obtain⟨cs,h1,h2⟩:=r;exact⟨cs,h1,RepL.ren h caps cs (by unfold A.loc at d;exact d) h2⟩
 |.agg l,v,d,r=>by
  unfold A.ren;unfold Rep at r ⊢;obtain⟨cs,h1,h2⟩:=r;exact⟨cs,h1,RepL.ren h l cs (by unfold A.loc at d;exact d) h2⟩
 |.tup l,v,d,r=>by
  unfold A.ren;unfold Rep at r ⊢;obtain⟨cs,h1,h2⟩:=r;exact⟨cs,h1,RepL.ren h l cs (by unfold A.loc at d;exact d) h2⟩
theorem RepL.ren(h:Ren C0 C σ k):∀(l:List A) (cs:List Value),A.locL k l=true→RepL C0 l cs→RepL C (A.renL σ l) cs
 |[],cs,d,r=>by unfold A.renL;unfold RepL at r ⊢;exact r
 |x::l,cs,d,r=>by
  unfold A.renL;unfold RepL at r ⊢;unfold A.locL at d;rw[Zc]at d;obtain⟨c,cs',h1,h2,h3⟩:=r;exact⟨c,cs',h1,Rep.ren h x c d.1 h2,RepL.ren h l cs' d.2 h3⟩
end
mutual
theorem Rep.renR(h:RenR C C0 σ k):∀(x:A) (v:Value),x.loc k=true→Rep C (x.ren σ) v→Rep C0 x v
 |.int _ n,v,d,r=>by unfold A.ren at r;unfold Rep at r ⊢;exact r
 |.str l,v,d,r=>by unfold A.ren at r;unfold Rep at r ⊢;exact r
 |.bool b,v,d,r=>by unfold A.ren at r;unfold Rep at r ⊢;exact r
 |.sl W o rows,v,d,r=>by
  unfold A.ren at r;cases o with
  |no=>exact Rep.same ⟨h.cells⟩ (.sl W .no rows) v rfl r
  |nil=>exact Rep.same ⟨h.cells⟩ (.sl W .nil rows) v rfl r
  |tok t=>simp[A.loc]at d
 |.ptr i o,v,d,r=>by
  unfold A.ren at r;unfold Rep at r ⊢;unfold A.loc at d;have hi:=h.box i (by simpa using d);rw[hi.2];exact⟨r.1,hi.1⟩
 |.vptr l,v,d,r=>by
  unfold A.ren at r;unfold Rep at r ⊢;obtain⟨g,off,h1,h2⟩:=r;exact⟨g,off,h1,RepAt.same ⟨h.cells⟩ l g off h2⟩
 |.nilp,v,d,r=>by unfold A.ren at r;unfold Rep at r ⊢;exact r
 |.nili,v,d,r=>by unfold A.ren at r;unfold Rep at r ⊢;exact r
 |.nilf,v,d,r=>by unfold A.ren at r;unfold Rep at r ⊢;exact r
 |.nilm,v,d,r=>by unfold A.ren at r;unfold Rep at r ⊢;exact r
 |.mp i,v,d,r=>by
  unfold A.ren at r;unfold Rep at r ⊢;unfold A.loc at d;have hi:=h.box i (by simpa using d);rw[hi.2];exact⟨r.1,hi.1⟩
 |.bs i W n,v,d,r=>by
  unfold A.ren at r;unfold Rep at r ⊢;unfold A.loc at d;have hi:=h.box i (by simpa using d);rw[hi.2];obtain⟨cap,h1,h2,h3⟩:=r;exact⟨cap,h1,h2,hi.1⟩
 |.fn f caps,v,d,r=>by
  unfold A.ren at r;unfold Rep at r ⊢;obtain⟨cs,h1,h2⟩:=r;exact⟨cs,h1,RepL.renR h caps cs (by unfold A.loc at d;exact d) h2⟩
 |.agg l,v,d,r=>by
  unfold A.ren at r;unfold Rep at r ⊢;obtain⟨cs,h1,h2⟩:=r;exact⟨cs,h1,RepL.renR h l cs (by unfold A.loc at d;exact d) h2⟩
 |.tup l,v,d,r=>by
  unfold A.ren at r;unfold Rep at r ⊢;obtain⟨cs,h1,h2⟩:=r;exact⟨cs,h1,RepL.renR h l cs (by unfold A.loc at d;exact d) h2⟩
theorem RepL.renR(h:RenR C C0 σ k):∀(l:List A) (cs:List Value),A.locL k l=true→RepL C (A.renL σ l) cs→RepL C0 l cs
 |[],cs,d,r=>by unfold A.renL at r;unfold RepL at r ⊢;exact r
 |x::l,cs,d,r=>by
  unfold A.renL at r;unfold RepL at r ⊢;unfold A.locL at d;rw[Zc]at d;obtain⟨c,cs',h1,h2,h3⟩:=r;exact⟨c,cs',h1,Rep.renR h x c d.1 h2,RepL.renR h l cs' d.2 h3⟩
end
end
theorem RepEs.ren{C C0:Ctx}{σ:Nat→Nat}{k:Nat}(h:Ren C0 C σ k):∀ {l:List (Int×A)} {es:List MapEntry},(l.all fun e=>e.2.loc k)=true→RepEs C0 l es→RepEs C (l.map fun e=>(e.1,e.2.ren σ)) es
 |[],_,_,r=>r
 |(n,x)::l,es,d,r=>by
  obtain⟨e,es',h1,h2,h3,h4⟩:=r;rw[ZE,Zc]at d;exact⟨e,es',h1,h2,Rep.ren h x _ d.1 h3,RepEs.ren h d.2 h4⟩
theorem RepEs.renR{C C0:Ctx}{σ:Nat→Nat}{k:Nat}(h:RenR C C0 σ k):∀ {l:List (Int×A)} {es:List MapEntry},(l.all fun e=>e.2.loc k)=true→RepEs C (l.map fun e=>(e.1,e.2.ren σ)) es→RepEs C0 l es
 |[],_,_,r=>r
 |(n,x)::l,es,d,r=>by
  obtain⟨e,es',h1,h2,h3,h4⟩:=r;rw[ZE,Zc]at d;exact⟨e,es',h1,h2,Rep.renR h x _ d.1 h3,RepEs.renR h d.2 h4⟩
def setAll(σ:Nat→Nat):List Blk→Nat→List Blk→List Blk
 |l,_,[]=>l
 |l,j,b::bs=>setAll σ (l.set (σ j) (b.ren σ)) (j+1) bs
theorem avd(σ:Nat→Nat):∀(bs l:List Blk) (j:Nat),(setAll σ l j bs).length=l.length
 |[],l,j=>rfl
 |b::bs,l,j=>by rw[setAll,avd σ bs];simp
theorem ax9(σ:Nat→Nat){i:Nat}:∀(bs l:List Blk) (j:Nat),(∀ m,j≤m→m<j+bs.length→σ m≠i)→(setAll σ l j bs)[i]?=l[i]?
 |[],l,j,h=>rfl
 |b::bs,l,j,h=>by
  rw[setAll,ax9 σ bs _ _ fun m h1 h2=>h m (by omega) (by simp;omega)];rw[Zs,if_neg (h j (Zf _) (by simp))]
theorem bxx(σ:Nat→Nat){i:Nat}:∀(bs l:List Blk) (j:Nat),(∀ m m',m<j+bs.length→m'<j+bs.length→σ m=σ m'→m=m')→(∀ m,m<j+bs.length→σ m<l.length)→∀ m (hm:m<bs.length),(setAll σ l j bs)[σ (j+m)]?=some (bs[m].ren σ)
 |[],l,j,hi,hl,m,hm=>by simp at hm
 |b::bs,l,j,hi,hl,0,hm=>by
  simp only[Yh]
  rw[setAll,ax9 σ bs _ _ fun m h1 h2 e=>by
   have:=hi m j (by simp;omega) (by simp) e
   omega]
  rw[Zs,if_pos rfl,if_pos (hl j (by simp))];rfl
 |b::bs,l,j,hi,hl,m+1,hm=>by
  rw[setAll,show j+(m+1)=(j+1)+m by omega];have:=bxx σ (i:=i) bs (l.set (σ j) (b.ren σ)) (j+1) (fun m m' h1 h2=>hi m m' (by simp;omega) (by simp;omega)) (fun m h1=>by simpa using hl m (by simp;omega)) m (by simpa using hm);simpa using this
open Classical in
noncomputable def ownOf(C:Ctx)(σ:Nat→Nat)(k:Nat)(g:Nat):Option Nat:=
 if h:∃ j,j<k∧C.own g=some (σ j)then some h.choose else none
theorem bwf{C:Ctx}{σ:Nat→Nat}{k:Nat}(hinj:∀ i j,i<k→j<k→σ i=σ j→i=j)(g j:Nat):ownOf C σ k g=some j↔j<k∧C.own g=some (σ j):=by
 unfold ownOf;constructor
 ·intro e;split at e
  ·next h =>
   injection e with e;have:=h.choose_spec;rw[e]at this;exact this
  ·cases e
 ·rintro⟨h1,h2⟩;have h:∃ j,j<k∧C.own g=some (σ j):=⟨j,h1,h2⟩;rw[dif_pos h];have h3:=h.choose_spec;have:σ h.choose=σ j:=Zat (h3.2.symm.trans h2);rw[hinj _ _ h3.1 h1 this]
theorem ayo{C:Ctx}{σ:Nat→Nat}{k g:Nat}(h:∀ j,j<k→C.own g≠some (σ j)):ownOf C σ k g=none:=by
 unfold ownOf;rw[dif_neg (by rintro⟨j,h1,h2⟩;exact h j h1 h2)]
theorem ACall.lift{P:Program}{G:World→Prop}{f:FuncId}{args:List A}{bs:List Blk}{Q0:A→Hp→Prop}(hc:ACall P G f args ⟨bs,[]⟩ Q0)(σ:Nat→Nat)(hinj:∀ i j,i<bs.length→j<bs.length→σ i=σ j→i=j)
  (ha:A.locL bs.length args=true) (hbs:∀ b∈bs,b.loc bs.length) (hq:∀ v h',Q0 v h'→v.loc bs.length=true∧∀(j:Nat) b,j<bs.length→h'.b[j]?=some b→b.loc bs.length)
  {h:Hp} (hh:∀(j:Nat) (hj:j<bs.length),h.b[σ j]?=some (bs[j].ren σ)) :
  ACall P G f (A.renL σ args) h fun v h'=>∃ v0 h0,Q0 v0 h0∧v=v0.ren σ∧h'=⟨setAll σ h.b 0 (h0.b.take bs.length),h.t⟩:=by
 obtain⟨k,hk⟩:=Ex (bs.length);rw[hk]at hinj ha hbs hq ⊢;intro C cs hI hr;have hσ:∀ j,j<k→σ j<C.nb:=fun j hj=>by
  rw[←hI.nb];exact(Zd.1 (hh j (by omega))).1
 let C0:Ctx:={ C with κ:=fun j=>C.κ (σ j),nb:=k,hw:=fun _=>none,own:=ownOf C σ k }
 have ho:∀ g j,C0.own g=some j↔j<k∧C.own g=some (σ j):=fun g j=>bwf hinj g j
 have hon:∀ g,C.own g=none→C0.own g=none:=fun g hg=>ayo fun j _ e=>by rw[hg]at e;cases e
 have rR:RenR C C0 σ k:=⟨fun g j hs=>⟨hs,rfl⟩,fun j hj=>⟨hj,rfl⟩⟩;have I0:Inv G C0 ⟨bs,[]⟩:=by
  refine⟨hk,fun j b hb=>?_,fun j hj=>(ho _ _).2 ⟨hj,hI.ownk (σ j) (hσ j hj)⟩,fun g j hg=>?_,fun g j hs=>?_,fun t E W m ht=>by simp[C0]at ht,fun t t' ht=>by simp[C0]at ht,fun t=>by simp[C0],hI.base,hI.glob⟩
  ·obtain⟨hj,rfl⟩:=Zd.1 hb;have hj':j<bs.length:=hj;have hB:=hI.box (σ j) _ (hh j hj');have hl:=hbs bs[j] (Zp hj');show BlkRep C0 j bs[j]
   revert hB hl;generalize bs[j]=b;intro hB hl;cases b with
   |cells T l =>
    obtain⟨cs,h1,h2⟩:=hB;exact⟨cs,h1,RepL.renR rR l cs hl h2⟩
   |opq R vis =>
    have e:(fun g=>C0.own g=some j)=fun g=>C.own g=some (σ j):=funext fun g=>propext ⟨fun h=>((ho g j).1 h).2,fun h=>(ho g j).2 ⟨by omega,h⟩⟩
    refine⟨fun w' hw hs=>?_,fun o x hx=>?_⟩
    ·rw[e];exact hB.1 w' (fun g hg=>hw g ((ho g j).2 ⟨by omega,hg⟩)) hs
    ·obtain⟨v,h1,h2⟩:=hB.2 o x hx;exact⟨v,h1,Rep.same (C:=C) (C':=C0) ⟨fun g j hs=>⟨hs,rfl⟩⟩ x v (hl o x hx) h2⟩
   |row T l =>
    obtain⟨cs,rest,h1,h2⟩:=hB;exact⟨cs,rest,h1,RepL.renR rR l cs hl h2⟩
   |map l c =>
    obtain⟨es,h1,h2,h3⟩:=hB;exact⟨es,h1,RepEs.renR rR hl h2,h3⟩
  ·obtain⟨h1,h2⟩:=(ho g j).1 hg;obtain⟨_,h3,h4⟩:=hI.ownlt g _ h2;exact⟨h1,h3,h4⟩
  ·obtain⟨h1,h2,_⟩:=hI.prot g j hs;exact⟨h1,hon g h2,fun t E W m ht=>by simp[C0]at ht⟩
 refine(hc C0 cs I0 (RepL.renR rR args cs ha hr)).mono ?_;rintro e w' ⟨C1,h1,v0,cv,rfl,rfl,I1,S1,r1,q1⟩;obtain⟨qv,qb⟩:=hq _ _ q1;have hk1:k≤C1.nb:=S1.ext.nb;have hκ:∀ j,j<k→C1.κ j=C.κ (σ j):=fun j hj=>S1.ext.box j hj
 have hsz:C.w.heap.size≤C1.w.heap.size:=S1.size;have hblk:∀ g,g<C.w.heap.size→C0.own g=none→C1.w.heap[g]?=C.w.heap[g]?:=fun g hg hn=>S1.frame g hg hn fun t ht=>by simp[C0]at ht
 have ho1:∀ g,g<C.w.heap.size→C1.own g=C0.own g:=S1.own;have hSprot:∀ g j,C1.S g j→C.S g j∨C.w.heap.size≤g:=fun g j hs=>by
  rcases S1.prot g j hs with h2|h2|⟨t,h2,_⟩
  ·exact .inl h2
  ·exact .inr h2
  ·simp[C0]at h2
 let C2:Ctx:={ C with w:=C1.w,S:=C1.S,own:=fun g=>if g<C.w.heap.size then C.own g else match C1.own g with|some j=>if j<k then some (σ j)else none|none=>none }
 have hE:Ext C C2:=by
  refine⟨fun g j hs=>S1.ext.cells g j hs,Zf _,fun _ _=>rfl,fun t E W m ht=>?_⟩;obtain⟨h0,_,cap,h2,_⟩:=hI.rows t E W m ht;exact⟨m,ht,.inr ⟨rfl,rfl,fun cap hc=>hc.same (hblk _ h2.lt (hon _ h0))⟩⟩
 have own2:∀ g,g<C.w.heap.size→C2.own g=C.own g:=fun g hg=>if_pos hg
 have own2σ:∀ g j,j<k→(C2.own g=some (σ j)↔C1.own g=some j):=fun g j hj=>by
  by_cases hg:g<C.w.heap.size
  ·rw[own2 g hg,ho1 g hg,ho g j];exact⟨fun h=>⟨hj,h⟩,fun h=>h.2⟩
  ·show(if g<C.w.heap.size then C.own g else match C1.own g with|some j=>if j<k then some (σ j)else none|none=>none)=_↔_
   rw[if_neg hg];cases e:C1.own g with
   |none=>simp
   |some j' =>
    simp only;split
    ·next hj' =>
     constructor
     ·intro h;injection h with h;rw[hinj _ _ hj' hj h]
     ·intro h;injection h with h;rw[h]
    ·next hj' =>
     constructor
     ·intro h;cases h
     ·intro h;injection h with h;omega
 have own2n:∀ g i,(∀ j,j<k→σ j≠i)→(C2.own g=some i↔C.own g=some i):=fun g i hi=>by
  by_cases hg:g<C.w.heap.size
  ·rw[own2 g hg]
  ·show(if g<C.w.heap.size then C.own g else match C1.own g with|some j=>if j<k then some (σ j)else none|none=>none)=_↔_
   rw[if_neg hg];constructor
   ·intro h;exfalso
    cases e:C1.own g with
    |none=>rw[e]at h;cases h
    |some j' =>
     rw[e]at h;simp only at h;split at h
     ·next hj'=>injection h with h;exact hi j' hj' h
     ·cases h
   ·intro h;exact absurd (hI.ownlt g i h).2.1 hg
 have hlen1:(h1.b.take k).length=k:=by rw[ZT,I1.nb];omega
 have rN:Ren C1 C2 σ k:=⟨fun g j hs=>⟨hs,rfl⟩,fun j hj=>⟨hσ j hj,(hκ j hj).symm⟩⟩;have hset:∀ m,m<k→∃ b1,h1.b[m]?=some b1∧(setAll σ h.b 0 (h1.b.take k))[σ m]?=some (b1.ren σ):=fun m hm=>by
  have hm1:m<h1.b.length:=by rw[I1.nb];omega
  refine⟨h1.b[m],Zm hm1,?_⟩;have:=bxx σ (i:=0) (h1.b.take k) h.b 0 (fun m m' a b=>hinj m m' (by omega) (by omega)) (fun m a=>by rw[hI.nb];exact hσ m (by omega)) m (by omega);rw[Yt]at this;rw[this];simp
 refine⟨C2,⟨setAll σ h.b 0 (h1.b.take k),h.t⟩,v0.ren σ,cv,rfl,rfl,⟨by rw[avd];exact hI.nb,fun i b hib=>?_,fun i hi=>?_,fun g i hg=>?_,fun g j hs=>?_,fun t E W m ht=>?_,hI.inj,hI.toks,Zn hI.base hsz,fun w2 hw=>?_⟩,⟨hE,S1.os,S1.tape,S1.output,hsz,rfl,fun g hg hn ht=>hblk g hg (hon g hn),own2,fun g j hs=>?_,fun t ht => .inr ⟨ht,rfl⟩⟩,Rep.ren rN v0 cv qv r1,v0,h1,q1,rfl,rfl⟩
 ·by_cases hi:∃ j,j<k∧σ j=i
  ·obtain⟨j,hj,rfl⟩:=hi;obtain⟨b1,hb1,hb2⟩:=hset j hj;have hib':(setAll σ h.b 0 (h1.b.take k))[σ j]?=some b:=hib;rw[hb2]at hib';injection hib' with hib';subst hib';have hB:=I1.box j b1 hb1;have hl:=qb j b1 hj hb1;cases b1 with
   |cells T l =>
    obtain⟨cs,k1,k2⟩:=hB;refine⟨cs,?_,RepL.ren rN l cs hl k2⟩;rw[hκ j hj]at k1;exact k1
   |opq R vis =>
    have e:(fun g=>C2.own g=some (σ j))=fun g=>C1.own g=some j:=funext fun g=>propext (own2σ g j hj)
    refine⟨fun w' hw hs=>?_,fun o x hx=>?_⟩
    ·rw[e];have:=hB.1 w' (fun g hg=>hw g ((own2σ g j hj).2 hg)) hs;rw[hκ j hj]at this;exact this
    ·obtain⟨v,k1,k2⟩:=hB.2 o x hx;rw[hκ j hj]at k1;exact⟨v,k1,Rep.same (C:=C1) (C':=C2) ⟨fun g j hs=>⟨hs,rfl⟩⟩ x v (hl o x hx) k2⟩
   |row T l =>
    obtain⟨cs,rest,k1,k2⟩:=hB;refine⟨cs,rest,?_,RepL.ren rN l cs hl k2⟩;rw[hκ j hj]at k1;exact k1
   |map l c =>
    obtain⟨es,k1,k2,k3⟩:=hB;refine⟨es,?_,RepEs.ren rN hl k2,k3⟩;rw[hκ j hj]at k1;exact k1
  ·have hi':∀ j,j<k→σ j≠i:=fun j hj e=>hi ⟨j,hj,e⟩
   have hib':(setAll σ h.b 0 (h1.b.take k))[i]?=some b:=hib;rw[ax9 σ _ _ _ fun m _ hm=>hi' m (by omega)]at hib';have hilt:i<C.nb:=by rw[←hI.nb];exact(Zd.1 hib').1
   refine(hI.box i b hib').ext hE hilt (hI.ownk i hilt) (fun g j hg=>(hI.ownlt g j hg).2.1) (fun g hg=>hblk g (hI.ownlt g i hg).2.1 (ayo fun j hj e=>?_)) (fun g=>own2n g i hi') hsz;rw[hg]at e;injection e with e;exact hi' j hj e.symm
 ·have:=hI.ownk i hi;rw[own2 _ (hI.ownlt _ _ this).2.1];exact this
 ·by_cases hg':g<C.w.heap.size
  ·rw[own2 g hg']at hg;obtain⟨k1,k2,k3⟩:=hI.ownlt g i hg;exact⟨k1,ZL k2 hsz,k3⟩
  ·have hg2:(if g<C.w.heap.size then C.own g else match C1.own g with|some j=>if j<k then some (σ j)else none|none=>none)=some i:=hg;rw[if_neg hg']at hg2;cases e:C1.own g with
   |none=>rw[e]at hg2;cases hg2
   |some j' =>
    rw[e]at hg2;simp only at hg2;split at hg2
    ·next hj' =>
     injection hg2 with hg2;subst hg2;obtain⟨_,k2,k3⟩:=I1.ownlt g j' e;exact⟨hσ j' hj',k2,by rw[S1.base]at k3;exact k3⟩
    ·cases hg2
 ·have hlt:=(I1.prot g j hs).1;have hn1:=(I1.prot g j hs).2.1;rcases hSprot g j hs with h2|h2
  ·obtain⟨k1,k2,k3⟩:=hI.prot g j h2;exact⟨hlt,by rw[own2 g k1];exact k2,k3⟩
  ·refine⟨hlt,?_,fun t E W m ht e=>?_⟩
   ·show(if g<C.w.heap.size then C.own g else match C1.own g with|some j=>if j<k then some (σ j)else none|none=>none)=none
    rw[if_neg (by omega),hn1]
   ·obtain⟨_,_,cap,k1,_⟩:=hI.rows t E W m ht;have:=k1.lt;have e':C.τ t=g:=e;omega
 ·obtain⟨k1,k2,cap,k3,k4⟩:=hI.rows t E W m ht;refine⟨?_,k2,cap,k3.same (hblk _ k3.lt (hon _ k1)),k4⟩;rw[own2 _ k3.lt];exact k1
 ·refine I1.glob w2 fun g hg=>hw g ?_
  rw[S1.base]at hg;exact hg
 ·rcases hSprot g j hs with h2|h2
  ·exact .inl h2
  ·exact .inr (.inl h2)
mutual
theorem A.loc0(k:Nat):∀ x:A,x.loc 0=true→x.loc k=true∧∀ σ,x.ren σ=x
 |.int _ n,h=>⟨rfl,fun σ=>by unfold A.ren;rfl⟩
 |.str l,h=>⟨rfl,fun σ=>by unfold A.ren;rfl⟩
 |.bool b,h=>⟨rfl,fun σ=>by unfold A.ren;rfl⟩
 |.sl W .no rows,h=>⟨rfl,fun σ=>by unfold A.ren;rfl⟩
 |.sl W .nil rows,h=>⟨rfl,fun σ=>by unfold A.ren;rfl⟩
 |.sl W (.tok t) rows,h=>by simp[A.loc]at h
 |.ptr i o,h=>by simp[A.loc]at h
 |.mp i,h=>by simp[A.loc]at h
 |.bs i W n,h=>by simp[A.loc]at h
 |.nilm,h=>⟨rfl,fun σ=>by unfold A.ren;rfl⟩
 |.vptr l,h=>⟨rfl,fun σ=>by unfold A.ren;rfl⟩
 |.nilp,h=>⟨rfl,fun σ=>by unfold A.ren;rfl⟩
 |.nili,h=>⟨rfl,fun σ=>by unfold A.ren;rfl⟩
 |.nilf,h=>⟨rfl,fun σ=>by unfold A.ren;rfl⟩
 |.fn f caps,h=>by
  unfold A.loc at h;obtain⟨k1,k2⟩:=A.locL0 k caps h;exact⟨by unfold A.loc;exact k1,fun σ=>by unfold A.ren;rw[k2]⟩
 |.agg l,h=>by
  unfold A.loc at h;obtain⟨k1,k2⟩:=A.locL0 k l h;exact⟨by unfold A.loc;exact k1,fun σ=>by unfold A.ren;rw[k2]⟩
 |.tup l,h=>by
  unfold A.loc at h;obtain⟨k1,k2⟩:=A.locL0 k l h;exact⟨by unfold A.loc;exact k1,fun σ=>by unfold A.ren;rw[k2]⟩
theorem A.locL0(k:Nat):∀ l:List A,A.locL 0 l=true→A.locL k l=true∧∀ σ,A.renL σ l=l
 |[],h=>⟨rfl,fun σ=>by unfold A.renL;rfl⟩
 |x::l,h=>by
  unfold A.locL at h;rw[Zc]at h;obtain⟨k1,k2⟩:=A.loc0 k x h.1;obtain⟨k3,k4⟩:=A.locL0 k l h.2;exact⟨by unfold A.locL;rw[k1,k3];rfl,fun σ=>by unfold A.renL;rw[k2,k4]⟩
end
theorem Blk.loc0(k:Nat)(b:Blk)(h:b.loc 0):b.loc k∧∀ σ,b.ren σ=b:=by
 cases b with
 |cells T l =>
  have h':A.locL 0 l=true:=h;obtain⟨k1,k2⟩:=A.locL0 k l h';exact⟨k1,fun σ=>by show Blk.cells T (A.renL σ l)=_;rw[k2]⟩
 |opq R vis=>exact⟨h,fun σ=>rfl⟩
 |row T l =>
  have h':A.locL 0 l=true:=h;obtain⟨k1,k2⟩:=A.locL0 k l h';exact⟨k1,fun σ=>by show Blk.row T (A.renL σ l)=_;rw[k2]⟩
 |map l c =>
  have h':(l.all fun e=>e.2.loc 0)=true:=h;rw[ZF]at h';refine⟨by show(l.all fun e=>e.2.loc k)=true;rw[ZF];exact fun e he=>(A.loc0 k e.2 (h' e he)).1,fun σ=>?_⟩;show Blk.map (l.map fun e=>(e.1,e.2.ren σ)) c=_
  have e:(l.map fun e=>(e.1,e.2.ren σ))=l:=by
   conv=>rhs;rw[←List.map_id l]
   exact List.map_congr_left fun e he=>by rw[(A.loc0 k e.2 (h' e he)).2];rfl
  rw[e]
theorem ACall.lift1{P:Program}{G:World→Prop}{f:FuncId}{args:List A}{b:Blk}{Q0:A→Blk→Prop}(hc:ACall P G f (.ptr 0 0::args) ⟨[b],[]⟩ fun v h'=>∃ b',h'.b[0]?=some b'∧Q0 v b')
  (ha:A.locL 0 args=true) (hb:b.loc 0) (hq:∀ v b',Q0 v b'→v.loc 0=true∧b'.loc 0) {h:Hp} {i:Nat} (hh:h.b[i]?=some b) :
  ACall P G f (.ptr i 0::args) h fun v h'=>∃ b',Q0 v b'∧h'=⟨h.b.set i b',h.t⟩:=by
 have key:=ACall.lift hc (fun _=>i) (fun a b ha hb _=>by simp at ha hb;omega) (by unfold A.locL;rw[(A.locL0 _ args ha).1];rfl) (fun x hx=>by simp at hx;subst hx;exact(Blk.loc0 _ _ hb).1)
  (fun v h' ⟨b',h1,h2⟩=>⟨(A.loc0 _ v (hq v b' h2).1).1,fun j x hj hx=>by
   have:j=0:=by simpa using hj
   subst this;rw[h1]at hx;injection hx with hx;subst hx
   exact(Blk.loc0 _ _ (hq v b' h2).2).1⟩) (h:=h) (fun j hj=>by
   have:j=0:=by simpa using hj
   subst this
   rw[hh];show some b=some (b.ren _);rw[(Blk.loc0 0 _ hb).2])
 have e:A.renL (fun _=>i) (.ptr 0 0::args)=.ptr i 0::args:=by unfold A.renL;rw[(A.locL0 0 args ha).2];rfl
 rw[e]at key;refine key.mono ?_;rintro v h' ⟨v0,h0,⟨b',h1,h2⟩,rfl,rfl⟩;obtain⟨k1,k2⟩:=hq v0 b' h2;refine⟨b',by rw[(A.loc0 0 v0 k1).2];exact h2,?_⟩;have:h0.b.take [b].length=[b']:=by
  obtain⟨_|⟨x,l⟩,t0⟩:=h0
  ·simp at h1
  ·simp at h1;subst h1;simp
 rw[this];show(⟨setAll _ h.b 0 [b'],h.t⟩:Hp)=_
 unfold setAll setAll;rw[(Blk.loc0 0 _ k2).2]
end AX
end Go.Proofs.YtdgcbckcameggadGreatDoor
