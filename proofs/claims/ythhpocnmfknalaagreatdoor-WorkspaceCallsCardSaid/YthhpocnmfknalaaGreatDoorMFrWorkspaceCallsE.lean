/- Part of what the proof needs. -/
import Derived.Test.YthhpocnmfknalaaGreatDoorMFrWorkspaceCallsD
import Derived.IntWalk
set_option maxHeartbeats 4000000
set_option maxRecDepth 100000
set_option linter.all false
namespace Go.Proofs.YthhpocnmfknalaaGreatDoor
section
open Go.RowKit
namespace AX
section
variable {P:Program} {G:World->Prop}
theorem akw{K K':Ts->Hp->Prop}(hk:∀ts h,K ts h->K' ts h):∀(l:List AOper) (ts:Ts) (h:Hp),aops P G l K ts h->aops P G l K' ts h
 |[],ts,h,hp=>hk _ _ hp
 |o::l,ts,h,hp=>azr (axl fun v h'=>akw hk l _ h') (akw hk l _ h) hp
theorem byz{K K':Ts->Hp->Prop}(hk:∀ts h,K ts h->K' ts h){l:List AOper}{ts:Ts}{h:Hp}(hp:adraw P G l K ts h):adraw P G l K' ts h:=by
 obtain⟨I,h1,h2,h3⟩:=hp;exact⟨I,h1,h2,fun ts h hi=>hk _ _ (h3 ts h hi)⟩
theorem ajq{K K':Ts->Hp->Prop}{Q Q':AExit->Ts->Hp->Prop}(hk:∀ts h,K ts h->K' ts h)(hq:∀e ts h,Q e ts h->Q' e ts h):∀e ts h,thenA K Q e ts h->thenA K' Q' e ts h:=by
 intro e ts h hp;cases e with
 |normal=>exact hk _ _ hp
 |exit id=>exact hq _ _ _ hp
 |ret=>exact hq _ _ _ hp
theorem bky:∀(c:ACode) (Q Q':AExit->Ts->Hp->Prop),(∀e ts h,Q e ts h->Q' e ts h)->∀ts h,awp P G c Q ts h->awp P G c Q' ts h:=by
 intro c;induction c with
 |skip=>intro Q Q' hq ts h hp;exact hq _ _ _ hp
 |reg d l=>
  intro Q Q' hq ts h hp;cases d with
  |false=>exact akw (hq .normal) l ts h hp
  |true=>exact⟨hp.1,byz (hq .normal) hp.2⟩
 |seq x y ihx ihy=>intro Q Q' hq ts h hp;exact ihx _ _ (ajq (ihy _ _ hq) hq) ts h hp
 |cond b x y ihx ihy=>
  intro Q Q' hq ts h hp;simp only[awp]at hp⊢;generalize evX ts b=v at *;cases v with
  |bool t=>exact⟨fun e=>ihx _ _ hq _ _ (hp.1 e),fun e=>ihy _ _ hq _ _ (hp.2 e)⟩
  |_=>exact hp.elim
 |block id x ih=>
  intro Q Q' hq ts h hp;refine ih _ _ (fun e ts h hp=>?_) ts h hp;cases e with
  |normal=>exact hq _ _ _ hp
  |exit id'=>
   simp only[blkA]at hp⊢;split at hp
   ·next e=>rw[if_pos e];exact hq _ _ _ hp
   ·next e=>rw[if_neg e];exact hq _ _ _ hp
  |ret=>exact hq _ _ _ hp
 |loop x ih=>
  intro Q Q' hq ts h hp;obtain⟨k,hk⟩:=hp;refine⟨k,?_⟩;revert ts h;induction k with
  |zero=>intro ts h hk;exact hk
  |succ k ihk=>intro ts h hk;exact ih _ _ (ajq (fun ts h=>ihk ts h) hq) ts h hk
 |exit id=>intro Q Q' hq ts h hp;exact hq _ _ _ hp
 |ret=>intro Q Q' hq ts h hp;exact hq _ _ _ hp
 |prim n c=>
  intro Q Q' hq ts h hp C a hI hT hd;refine wp_mono (hp C a hI hT hd) ?_;rintro e a' w ⟨C1,ts1,hp1,ae,hae,rfl,i1,s1,t1,d1,q1⟩;exact⟨C1,ts1,hp1,ae,hae,rfl,i1,s1,t1,d1,hq _ _ _ q1⟩
theorem bze(c:ACode)(Q:AExit->Ts->Hp->Prop):∀(k:Nat) (ts:Ts) (h:Hp),aloop (awp P G c) Q k ts h->aloop (awp P G c) Q (k+1) ts h
 |0,ts,h,hp=>hp.elim
 |k+1,ts,h,hp=>bky c _ _ (ajq (fun ts h=>bze c Q k ts h) fun _ _ _ h=>h) ts h hp
theorem cvv(c:ACode)(Q:AExit->Ts->Hp->Prop){k m:Nat}(hkm:k<=m)(ts:Ts)(h:Hp)(hp:aloop (awp P G c) Q k ts h):aloop (awp P G c) Q m ts h:=by
 induction hkm with
 |refl=>exact hp
 |step _ ih=>exact bze c Q _ ts h ih
theorem azg{c:ACode}{Q:AExit->Ts->Hp->Prop}{ts:Ts}{h:Hp}(I:Nat->Ts->Hp->Prop)(m:Nat)(h0:I m ts h)(hr:∀m ts h,I m ts h->awp P G c (thenA (fun ts' h'=>∃m',m'<m/\I m' ts' h') Q) ts h):awp P G (.loop c) Q ts h:=by
 refine⟨m+1,?_⟩;revert ts h;induction m using Nat.strongRecOn with
 |_ m ih=>
  intro ts h h0;refine bky c _ _ (ajq (fun ts' h' hp=>?_) fun _ _ _ h=>h) ts h (hr m ts h h0);obtain⟨m',h1,h2⟩:=hp;exact cvv c Q h1 ts' h' (ih m' h1 h2)
def opnds:AOp->List Opd
 |.mv x=>[x]
 |.pick c a b=>[c,a,b]
 |.alloc ..=>[]
 |.box _ x=>[x]
 |.build _ ps=>ps.map fun p=>p.2.2
 |.mks _ ps=>ps
 |.mkr _ _ ps=>ps
 |.mkc _ _ _ _ l c=>[l,c]
 |.mkl _ _ ps=>ps
 |.slsl _ x lo hi=>x::(lo.toList++hi.toList)
 |.load _ _ p=>[p]
 |.store _ p x=>[p,x]
 |.nilck x=>[x]
 |.faddr _ x=>[x]
 |.iaddr _ x i=>[x,i]
 |.sidx x i=>[x,i]
 |.ssl x lo hi=>x::(lo.toList++hi.toList)
 |.len _ x=>[x]
 |.app _ _ _ x y=>[x,y]
 |.apb _ _ _ x y=>[x,y]
 |.bin _ x y=>[x,y]
 |.eq _ _ _ x y=>[x,y]
 |.un _ x=>[x]
 |.conv _ x=>[x]
 |.fld _ _ x _=>[x]
 |.extract x _=>[x]
 |.max3 x y z=>[x,y,z]
 |.mkfn _ caps=>caps
 |.mkmap=>[]
 |.mget _ _ m k=>[m,k]
 |.mset m k x=>[m,k,x]
 |.mdel m k=>[m,k]
 |.mclr m=>[m]
 |.mlen m=>[m]
 |.mm _ x y=>[x,y]
 |.call _ args=>args
 |.callv x args=>x::args
theorem awn{ev ev':Opd->A}:∀(ps:List (Nat×Nat×Opd)) (z:List A),(∀p∈ps,ev p.2.2=ev' p.2.2)->fillA ev z ps=fillA ev' z ps
 |[],z,h=>rfl
 |(o,n,x)::ps,z,h=>by
  have h1:=h (o,n,x) (by simp);simp only at h1;simp only[fillA,h1];split
  ·exact awn ps _ fun p hp=>h p (by simp[hp])
  ·rfl
theorem ajz{ev ev':Opd->A}(W:Nat):∀(ps:List Opd),(∀p∈ps,ev p=ev' p)->rowsA ev W ps=rowsA ev' W ps
 |[],h=>rfl
 |x::ps,h=>by
  have h1:=h x (by simp);simp only[rowsA,h1];rw[ajz W ps fun p hp=>h p (by simp[hp])]
theorem aky{ev ev':Opd->A}(W:Nat):∀(ps:List Opd),(∀p∈ps,ev p=ev' p)->rowsR ev W ps=rowsR ev' W ps
 |[],h=>rfl
 |x::ps,h=>by
  have h1:=h x (by simp);simp only[rowsR,h1];rw[aky W ps fun p hp=>h p (by simp[hp])]
theorem bke{ev ev':Opd->A}{h:Hp}{o:AOp}(he:∀x∈opnds o,ev x=ev' x):astep ev h o=astep ev' h o:=by
 cases o with
 |build z ps=>
  simp only[astep];rw[awn ps z fun p hp=>he _ (ZW.2 ⟨p,hp,rfl⟩)]
 |mks W ps=>
  simp only[astep];rw[ajz W ps he]
 |mkr E W ps=>
  simp only[astep];rw[aky W ps he]
 |mkl E W ps=>
  simp only[astep];rw[ajz W ps he]
 |slsl W x lo hi=>
  have h1:=he x (by simp[opnds]);have h2:lo.map ev=lo.map ev':=by
   cases lo with
   |none=>rfl
   |some l=>simp only[ZY];rw[he l (by simp[opnds])]
  have h3:hi.map ev=hi.map ev':=by
   cases hi with
   |none=>rfl
   |some l=>simp only[ZY];rw[he l (by simp[opnds])]
  simp only[astep,h1,h2,h3]
 |mkfn f caps=>
  simp only[opnds]at he;simp only[astep];rw[List.map_congr_left he]
 |ssl x lo hi=>
  have h1:=he x (by simp[opnds]);have h2:lo.map ev=lo.map ev':=by
   cases lo with
   |none=>rfl
   |some l=>simp only[ZY];rw[he l (by simp[opnds])]
  have h3:hi.map ev=hi.map ev':=by
   cases hi with
   |none=>rfl
   |some l=>simp only[ZY];rw[he l (by simp[opnds])]
  simp only[astep,h1,h2,h3]
 |alloc=>rfl
 |mkmap=>rfl
 |call=>rfl
 |callv=>rfl
 |_=>
  simp only[opnds,ZL,List.not_mem_nil,or_false,forall_eq_or_imp,forall_eq]at he;simp only[astep,he]
theorem aqz{ev ev':Opd->A}{h:Hp}{K:A->Hp->Prop}{o:AOp}(he:∀x∈opnds o,ev x=ev' x)(hp:aopP P G ev h K o):aopP P G ev' h K o:=by
 cases o with
 |call f args=>
  simp only[opnds]at he;show ACall P G f (args.map ev') h K
  rw[<-List.map_congr_left he];exact hp
 |callv x args=>
  obtain⟨f,caps,h1,h2,h3⟩:=hp;refine⟨f,caps,by rw[<-he x (by simp[opnds])];exact h1,h2,?_⟩;rw[<-List.map_congr_left fun y hy=>he y (by simp[opnds,hy])];exact h3
 |_=>
  have hs:=bke (h:=h) he;simp only[aopP]at hp⊢;rw[<-hs];exact hp
def aopQ(P:Program)(G:World->Prop)(ev:Opd->A)(h:Hp)(K:A->Prop):AOp->Prop
 |.call f args=>∃v,ACall P G f (args.map ev) h (fun v' h'=>v'=v/\h'=h)/\K v
 |.callv x args=>∃v f caps,ev x=.fn f caps/\callOk P (vF f)=true/\ACall P G (vF f) (vA f (args.map ev) caps) h (fun v' h'=>v'=v/\h'=h)/\K v
 |op=>optP (astep ev h op) fun v h'=>h'=h/\K v
def aquiet(P:Program)(G:World->Prop)(h:Hp):List AOper->(Ts->Prop)->Ts->Prop
 |[],K,ts=>K ts
 |o::os,K,ts=>guardP ts o.guard (aopQ P G (evX ts) h (fun v=>aquiet P G h os K (put ts o.dst v)) o.op) (aquiet P G h os K (put ts o.dst (.tup [])))
theorem bku{ev:Opd->A}{h:Hp}{K:A->Prop}{o:AOp}(hp:aopQ P G ev h K o):∃v,aopP P G ev h (fun v' h'=>v'=v/\h'=h) o/\K v:=by
 cases o with
 |call f args=>
  obtain⟨v,h1,h2⟩:=hp;exact⟨v,h1,h2⟩
 |callv x args=>
  obtain⟨v,f,caps,h0,h1,h2,h3⟩:=hp;exact⟨v,⟨f,caps,h0,h1,h2⟩,h3⟩
 |_=>
  simp only[aopQ]at hp;simp only[aopP];generalize astep ev h _=r at hp⊢;cases r with
  |none=>exact hp.elim
  |some r=>
   obtain⟨v,h'⟩:=r;exact⟨v,⟨rfl,hp.1⟩,hp.2⟩
def seesT(o:AOper):List Nat:=((opnds o.op).filterMap fun x=>match x with|.t n=>some n|.c _=>none)++(match o.guard with|some (t,_)=>[t]|none=>[])
def seesB(ops:List AOper):Bool:=
 ops.zipIdx.all fun(o,i)=>(seesT o).all fun x=>ops.zipIdx.all fun(o',j)=>o'.dst !=some x||i==j||o.after.contains j||o'.after.contains i
def pre:Ts->List AOper->(Nat->A)->Nat->Ts
 |ts,_,_,0=>ts
 |ts,[],_,_+1=>ts
 |ts,o::os,vs,i+1=>pre (put ts o.dst (vs 0)) os (fun k=>vs (k+1)) i
theorem ajb{h:Hp}{K:Ts->Prop}:∀(os:List AOper) (ts:Ts),aquiet P G h os K ts ->
  ∃vs:Nat->A,(∀(i:Nat) (o:AOper),os[i]?=some o->guardP (pre ts os vs i) o.guard (aopP P G (evX (pre ts os vs i)) h (fun v' h'=>v'=vs i/\h'=h) o.op) (vs i=.tup []))/\K (pre ts os vs os.length)
 |[],ts,hp=>⟨fun _=> .tup [],fun i o hi=>by simp at hi,hp⟩
 |o::os,ts,hp=>by
  have key:∃v,guardP ts o.guard (aopP P G (evX ts) h (fun v' h'=>v'=v/\h'=h) o.op) (v=.tup [])/\aquiet P G h os K (put ts o.dst v):=by
   simp only[aquiet]at hp;cases hg:o.guard with
   |none=>
    rw[hg]at hp;obtain⟨v,h1,h2⟩:=bku hp;exact⟨v,h1,h2⟩
   |some tb=>
    obtain⟨t,b⟩:=tb;rw[hg]at hp;simp only[guardP]at hp⊢;split at hp
    ·next c e=>
     by_cases hcb:c=b
     ·obtain⟨v,h1,h2⟩:=bku (hp.1 hcb);refine⟨v,⟨fun _=>h1,fun hc=>?_⟩,h2⟩;rw[hcb]at hc;cases b<;>cases hc
     ·have hcb':c=!b:=by cases c<;>cases b<;>simp_all
      exact⟨.tup [],⟨fun hc=>absurd hc hcb,fun _=>rfl⟩,hp.2 hcb'⟩
    ·next e=>exact⟨.tup [],rfl,hp⟩
    ·exact hp.elim
  obtain⟨v,h1,h2⟩:=key;obtain⟨vs,h3,h4⟩:=ajb os _ h2;refine⟨fun i=>match i with|0=>v|i+1=>vs i,fun i o' hi=>?_,h4⟩;cases i with
  |zero=>simp at hi;subst hi;exact h1
  |succ i=>exact h3 i o' (by simpa using hi)
theorem bjt{os:List AOper}{d:Nat}(h:(os.all fun o'=>o'.dst !=some d)=true):os.findIdx? (fun o=>o.dst==some d)=none:=by
 rw[List.findIdx?_eq_none_iff];intro o ho;have:=ZD.1 h o ho;simpa using this
theorem pre_eq:∀(os:List AOper) (k:Nat) (ts:Ts) (vs:Nat->A) (i:Nat),edgesB k os=true->i<=os.length->∀x,pre ts os vs i x=TD os vs ts (fun j=>decide (j<i)) x
 |[],k,ts,vs,0,he,hi,x=>rfl
 |[],k,ts,vs,i+1,he,hi,x=>by simp at hi
 |o::os,k,ts,vs,0,he,hi,x=>by
  unfold TD pre;split<;>simp
 |o::os,k,ts,vs,i+1,he,hi,x=>by
  simp only[edgesB,Zg]at he;rw[pre,pre_eq os (k+1) _ _ i he.2 (by simpa using hi) x];unfold TD;rw[List.findIdx?_cons];cases hd:o.dst with
  |none=>
   have e:((none:Option Nat)==some x)=false:=rfl;rw[e];simp only[Zn,if_false];cases hf:os.findIdx? (fun o=>o.dst==some x)with
   |none=>simp[put]
   |some j=>simp[put]
  |some d=>
   by_cases hdx:d=x
   ·subst hdx;have h2:=he.1.2;rw[hd]at h2;rw[bjt h2];simp[put]
   ·have e:((some d:Option Nat)==some x)=false:=by simp[hdx]
    rw[e];simp only[Zn,if_false];cases hf:os.findIdx? (fun o=>o.dst==some x)with
    |none=>simp[put,Ne.symm hdx]
    |some j=>simp[put,Ne.symm hdx]
theorem czd{ops:List AOper}(hs:seesB ops=true):∀(i:Nat) (o:AOper),ops[i]?=some o->∀x∈seesT o,∀(j:Nat) (o':AOper),ops[j]?=some o'->o'.dst=some x->i=j\/j∈o.after\/i∈o'.after:=by
 intro i o hi x hx j o' hj hd;unfold seesB at hs;have h1:=ZD.1 hs (o,i) (Z8.2 hi);have h2:=ZD.1 h1 x hx;have h3:=ZD.1 h2 (o',j) (Z8.2 hj);simp only[ZZ,Y2,ne_eq,ZT,Zak]at h3;rcases h3 with((h3|h3)|h3)|h3
 ·exact absurd hd h3
 ·exact .inl h3
 ·exact .inr (.inl h3)
 ·exact .inr (.inr h3)
theorem bq8{ops:List AOper}(he:edgesB 0 ops=true)(hs:seesB ops=true){D:Nat->Bool}{i:Nat}{o:AOper}(hi:ops[i]?=some o)(hDi:D i=false)(hcl:Closed ops D)(haf:∀j∈o.after,D j=true)(vs:Nat->A)(ts:Ts):
  ∀x∈seesT o,TD ops vs ts D x=TD ops vs ts (fun j=>decide (j<i)) x:=by
 intro x hx;unfold TD;cases hf:ops.findIdx? (fun o=>o.dst==some x)with
 |none=>rfl
 |some j=>
  obtain⟨hj,hj2,_⟩:=List.findIdx?_eq_some_iff_getElem.1 hf;have hoj:ops[j]?=some ops[j]:=Zj hj;have hdx:ops[j].dst=some x:=by simpa using hj2
  rcases czd hs i o hi x hx j _ hoj hdx with rfl|h1|h1
  ·simp[hDi]
  ·have h2:=aqb he i o hi j h1;have h3:j<i:=by omega
   simp[haf j h1,h3]
  ·have h2:=aqb he j _ hoj i h1;have h3:¬j<i:=by omega
   have h4:D j=false:=by
    cases hDj:D j with
    |false=>rfl
    |true=>rw[hcl j _ hoj hDj i h1]at hDi;cases hDi
   simp[h4,h3]
theorem ajh{o:AOper}{ts ts':Ts}(h:∀x∈seesT o,ts x=ts' x):∀y∈opnds o.op,evX ts y=evX ts' y:=by
 intro y hy;cases y with
 |c a=>rfl
 |t n=>
  refine h n (List.mem_append_left _ (List.mem_filterMap.2 ⟨.t n,hy,rfl⟩))
theorem axv{o:AOper}{ts ts':Ts}{p q:Prop}(h:∀x∈seesT o,ts x=ts' x)(hp:guardP ts o.guard p q):guardP ts' o.guard p q:=by
 cases hg:o.guard with
 |none=>rw[hg]at hp;exact hp
 |some tb=>
  obtain⟨t,b⟩:=tb;rw[hg]at hp;simp only[guardP]at hp⊢;rw[<-h t (List.mem_append_right _ (by rw[hg];simp))];exact hp
theorem bv5{ops:List AOper}{K:Ts->Hp->Prop}{ts:Ts}{h:Hp}(he:edgesB 0 ops=true)(hs:seesB ops=true)(hp:aquiet P G h ops (fun ts=>K ts h) ts):adraw P G ops K ts h:=by
 obtain⟨vs,h1,h2⟩:=ajb ops ts hp;refine akm he vs (fun _=>h) rfl (fun D i o hi hDi hcl haf=>?_) ?_
 ·have hsee:=bq8 he hs hi hDi hcl haf vs ts;have hlt:i<ops.length:=(Zb.1 hi).1;have hpre:pre ts ops vs i=TD ops vs ts (fun j=>decide (j<i)):=funext fun x=>pre_eq ops 0 ts vs i he (by omega) x
  have h3:=h1 i o hi;rw[hpre]at h3;refine axv (fun x hx=>(hsee x hx).symm) (azr (fun hq=>?_) (fun hq=>⟨hq,rfl⟩) h3);exact aqz (ajh fun x hx=>(hsee x hx).symm) hq
 ·have hpre:pre ts ops vs ops.length=TD ops vs ts (fun j=>decide (j<ops.length)):=funext fun x=>pre_eq ops 0 ts vs _ he (Ze _) x
  rw[<-hpre];exact h2
end
end AX
end
section
open Go.RowKit
namespace AX
section
variable {P:Program} {G:World->Prop}
theorem aq6(ts:Ts)(d:Nat)(v:A)(i:Nat):put ts (some d) v i=if i=d then v else ts i:=rfl
theorem aqf(ts:Ts)(v:A):put ts none v=ts:=rfl
theorem aqc(args:List A)(i:Nat):initTs args i=args.getD i (.tup []):=rfl
theorem az4(v:A)(h:Hp)(K:A->Hp->Prop):optP (some (v,h)) K=K v h:=rfl
theorem ayd{ops:List AOper}{Q:AExit->Ts->Hp->Prop}{ts:Ts}{h:Hp}(hb:(edgesB 0 ops&&seesB ops)=true)(hq:aquiet P G h ops (fun ts=>Q .normal ts h) ts):awp P G (.reg true ops) Q ts h:=by
 rw[Zg]at hb;exact⟨hb.1,bv5 hb.1 hb.2 hq⟩
theorem ayj(ts:Ts)(n:Nat):evX ts (.t n)=ts n:=rfl
theorem ayg(ts:Ts)(a:A):evX ts (.c a)=a:=rfl
theorem aqd(ts:Ts)(h:Hp):resA ts h []=some []:=rfl
theorem ax8(ts:Ts)(h:Hp)(t:Nat)(rs:List ARes):resA ts h (.t t::rs)=(resA ts h rs).bind fun l=>some (ts t::l):=rfl
theorem ajc(ts:Ts)(h:Hp)(t:Nat)(g:Bool)(n:Nat)(rs:List ARes):resA ts h (.c t g n::rs)=(loadA h g n (ts t)).bind fun v=>(resA ts h rs).bind fun l=>some (v::l):=rfl
theorem azk(v:A):tupA [v]=v:=rfl
theorem aqh(u v:A)(l:List A):tupA (u::v::l)=.tup (u::v::l):=rfl
theorem ajf:tupA []=.tup []:=rfl
end
end AX
end
section
open Go.RowKit
namespace AX
theorem wrap64{x:Int}(h1:-9223372036854775808<=x)(h2:x<=9223372036854775807):IntKind.i64.wrap x=x:=Go.IntWalk.i64_in x ⟨h1,h2⟩
theorem cqe{P:Program}{G:World->Prop}{f:FuncId}{extra:List A}{ecs:List Value}{T:TypeId}{l l':List A}{cs cs':List Value}{v:A}{cv:Value}(hargs:∀C es,RepL C extra es->es=ecs)(hl:∀C es,RepL C l es->es=cs)(hl':∀C,RepL C l' cs')(hv:∀C,Rep C v cv)
  (hc:∀w g,w.heap[g]?=some (.cells cs.toArray T (0,0))->Calls P f (.pointer (some ⟨g,0,none⟩)::ecs).toArray w fun e w'=>e=.returned cv/\w'.heap[g]?=some (.cells cs'.toArray T (0,0))/\w.grownBy w' (some g))
  {h:Hp} {i:Nat} (hb:h.b[i]?=some (.cells T l)):ACall P G f (.ptr i 0::extra) h fun v' h'=>v'=v/\h'=⟨h.b.set i (.cells T l'),h.t⟩:=by
 intro C es hI ha;obtain⟨c,es',rfl,h1,h2⟩:=repL_cons.1 ha;obtain⟨rfl,hi⟩:=rep_ptr.1 h1;obtain rfl:=hargs C es' h2;obtain⟨cs1,k1,k2⟩:=hI.box i _ hb;obtain rfl:=hl C cs1 k2;refine(hc C.w (C.κ i) k1).mono ?_;rintro e w' ⟨rfl,m1,m2⟩;obtain⟨i1,s1⟩:=aqx (b':=.cells T l') false hI hb rfl m2.os m2.tape m2.output m2.size (fun g hg hne=>m2.block g hg fun e=>hne (by injection e with e;rw[e];exact hI.ok hb rfl)) (fun _=>⟨cs',m1,hl' _⟩);exact⟨_,_,v,cv,rfl,rfl,i1,s1,hv _,rfl,rfl⟩
def sinkB(ops:List AOper):Bool:=
 ops.zipIdx.all fun(_,i)=>i+1==ops.length||ops.zipIdx.any fun(o',j)=>decide (i<j)&&o'.after.contains i
theorem ckx{ops:List AOper}(hs:sinkB ops=true){n:Nat}(hn:n+1=ops.length){o:AOper}(ho:ops[n]?=some o){D:Nat->Bool}(hcl:Closed ops D)(haf:∀j∈o.after,D j=true):∀i,i<n->D i=true:=by
 have key:∀d i,n-i=d->i<n->D i=true:=by
  intro d;induction d using Nat.strongRecOn with
  |_ d ih=>
   intro i hd hi;have hoi:ops[i]?=some (ops[i]'(by omega)):=Zj (by omega);unfold sinkB at hs;have h1:=ZD.1 hs (ops[i]'(by omega),i) (Z8.2 hoi);simp only[ZZ,ZT]at h1;rcases h1 with h1|h1
   ·omega
   ·obtain⟨⟨o',j⟩,hm,hj⟩:=List.any_eq_true.1 h1;simp only[Zg,Zx,Zak]at hj;have hoj:=Z8.1 hm;have hjl:j<ops.length:=(Zb.1 hoj).1;by_cases hjn:j=n
    ·subst hjn;rw[ho]at hoj;injection hoj with hoj;subst hoj
     exact haf i hj.2
    ·have hjlt:j<n:=by omega
     exact hcl j o' hoj (ih (n-j) (by omega) j rfl hjlt) i hj.2
 intro i hi;exact key (n-i) i rfl hi
theorem czr{P:Program}{G:World->Prop}{ops:List AOper}{os:List AOper}{o:AOper}{K:Ts->Hp->Prop}{ts:Ts}{h h1:Hp}{v:A}(hops:ops=os++[o])(he:edgesB 0 ops=true)(hs:seesB ops=true)(hk:sinkB ops=true)(hg:o.guard=none)
  (hp:aquiet P G h os (fun ts=>aopP P G (evX ts) h (fun v' h'=>v'=v/\h'=h1) o.op/\K (put ts o.dst v) h1) ts):adraw P G ops K ts h:=by
 obtain⟨vs,t1,t2,t3⟩:=ajb os ts hp;have hlen:ops.length=os.length+1:=by rw[hops];simp
 have hon:ops[os.length]?=some o:=by rw[hops];simp
 have hgo:∀i,i<os.length->ops[i]?=os[i]?:=fun i hi=>by rw[hops,ZF hi]
 let vals:Nat->A:=fun i=>if i=os.length then v else vs i
 have hpre:∀i,i<=os.length->pre ts os vs i=TD ops vals ts (fun j=>decide (j<i)):=by
  intro i hi;have hpe:∀(xs:List AOper) (k:Nat) (ts:Ts) (w1 w2:Nat->A),(∀q,q<k->w1 q=w2 q)->pre ts xs w1 k=pre ts (xs++[o]) w2 k\/xs.length<k:=by
   intro xs;induction xs with
   |nil=>intro k ts w1 w2 hq;cases k with
    |zero=>exact .inl rfl
    |succ k=>exact .inr (by simp)
   |cons x xs ih=>
    intro k ts w1 w2 hq;cases k with
    |zero=>exact .inl rfl
    |succ k=>
     rcases ih k (put ts x.dst (w1 0)) (fun q=>w1 (q+1)) (fun q=>w2 (q+1)) (fun q hq'=>hq (q+1) (by omega))with h2|h2
     ·left
      simp only[pre,ZE];rw[h2,hq 0 (by omega)]
     ·right;simp;omega
  rcases hpe os i ts vs vals (fun q hq=>by show vs q=if q=os.length then v else vs q;rw[if_neg (by omega)])with h2|h2
  ·rw[h2,<-hops];exact funext fun x=>pre_eq ops 0 ts vals i he (by omega) x
  ·omega
 refine akm he vals (fun D=>if D os.length=true then h1 else h) (by simp) (fun D i oi hi hDi hcl haf=>?_) ?_
 ·have hsee:=bq8 he hs hi hDi hcl haf vals ts;have hilt:i<ops.length:=(Zb.1 hi).1;by_cases hin:i=os.length
  ·subst hin;rw[hon]at hi;injection hi with hi;subst hi
   rw[<-hpre _ (Ze _)]at hsee;rw[hg];simp only[hDi,Zn,if_false,Y9,Zaa,if_true];show aopP P G _ h _ o.op
   have hv:vals os.length=v:=by show(if os.length=os.length then v else _)=v;rw[if_pos rfl]
   rw[hv];exact aqz (ajh fun x hx=>(hsee x hx).symm) t2
  ·have hi':i<os.length:=by omega
   have hDn:D os.length=false:=by
    cases hDn:D os.length with
    |false=>rfl
    |true=>
     rw[ckx hk hlen.symm hon hcl (fun j hj=>hcl _ _ hon hDn j hj) i hi']at hDi;cases hDi
   have h3:=t1 i oi (by rw[<-hgo i hi'];exact hi);rw[hpre i (by omega)]at h3;have hne:(os.length==i)=false:=by simp;omega
   simp only[hDn,hne,Zn,if_false,YF];have hv:vals i=vs i:=by show(if i=os.length then v else vs i)=vs i;rw[if_neg hin]
   rw[hv];refine axv (fun x hx=>(hsee x hx).symm) (azr (fun hq=>?_) (fun hq=>⟨hq,trivial⟩) h3);exact aqz (ajh fun x hx=>(hsee x hx).symm) hq
 ·have h4:TD ops vals ts (fun j=>decide (j<ops.length))=put (TD ops vals ts fun j=>decide (j<os.length)) o.dst v:=by
   have e1:pre ts ops vals ops.length=TD ops vals ts (fun j=>decide (j<ops.length)):=funext fun x=>pre_eq ops 0 ts vals _ he (Ze _) x
   have e2:pre ts ops vals os.length=TD ops vals ts (fun j=>decide (j<os.length)):=funext fun x=>pre_eq ops 0 ts vals _ he (by omega) x
   rw[<-e1,<-e2,hlen,hops];have hstep:∀(xs:List AOper) (ts:Ts) (w1:Nat->A),pre ts (xs++[o]) w1 (xs.length+1)=put (pre ts (xs++[o]) w1 xs.length) o.dst (w1 xs.length):=by
    intro xs;induction xs with
    |nil=>intro ts w1;rfl
    |cons x xs ih=>intro ts w1;exact ih _ _
   rw[hstep];congr 1;show(if os.length=os.length then v else _)=v
   rw[if_pos rfl]
  rw[h4,<-hpre _ (Ze _)];simp only[hlen,Nat.lt_succ_self,decide_true,if_true];exact t3
theorem cva{P:Program}{G:World->Prop}{ops:List AOper}{Q:AExit->Ts->Hp->Prop}{ts:Ts}{h:Hp}(os:List AOper)(o:AOper)(h1:Hp)(v:A)(hops:ops=os++[o])(hb:(edgesB 0 ops&&seesB ops&&sinkB ops&&o.guard.isNone)=true)
  (hq:aquiet P G h os (fun ts=>aopP P G (evX ts) h (fun v' h'=>v'=v/\h'=h1) o.op/\Q .normal (put ts o.dst v) h1) ts):awp P G (.reg true ops) Q ts h:=by
 simp only[Zg,Option.isNone_iff_eq_none]at hb;exact⟨hb.1.1.1,czr hops hb.1.1.1 hb.1.1.2 hb.1.2 hb.2 hq⟩
end AX
end
section
open Go.RowKit
namespace AX
section
variable {P:Program} {G:World->Prop}
theorem cye{K:Ts->Hp->Prop}{ts:Ts}{h:Hp}(k:K ts h):aops P G [] K ts h:=k
theorem cjm{d:Option Nat}{o:AOp}{af:List Nat}{os:List AOper}{K:Ts->Hp->Prop}{ts:Ts}{h h':Hp}{v:A}(hc:o.isCall=false)(hs:astep (evX ts) h o=some (v,h'))(k:aops P G os K (put ts d v) h'):aops P G (⟨d,o,none,af⟩::os) K ts h:=by
 show aopP P G (evX ts) h _ o
 cases o with
 |call=>simp[AOp.isCall]at hc
 |callv=>simp[AOp.isCall]at hc
 |_=>simp only[aopP];rw[hs];exact k
theorem cw6{d:Option Nat}{o:AOp}{t:Nat}{b:Bool}{af:List Nat}{os:List AOper}{K:Ts->Hp->Prop}{ts:Ts}{h h':Hp}{v:A}(hg:ts t=.bool b)(hc:o.isCall=false)(hs:astep (evX ts) h o=some (v,h'))(k:aops P G os K (put ts d v) h'):aops P G (⟨d,o,some (t,b),af⟩::os) K ts h:=by
 have key:=cjm (P:=P) (G:=G) (d:=d) (af:=af) hc hs k;show guardP ts (some (t,b)) _ _
 simp only[guardP,hg];exact⟨fun _=>key,fun e=>(by cases b<;>cases e)⟩
theorem go_skip{d:Option Nat}{o:AOp}{t:Nat}{b:Bool}{af:List Nat}{os:List AOper}{K:Ts->Hp->Prop}{ts:Ts}{h:Hp}(hg:ts t=.bool (!b))(k:aops P G os K (put ts d (.tup [])) h):aops P G (⟨d,o,some (t,b),af⟩::os) K ts h:=by
 show guardP ts (some (t,b)) _ _
 simp only[guardP,hg];exact⟨fun e=>(by cases b<;>cases e),fun _=>k⟩
theorem cku{d:Option Nat}{o:AOp}{t:Nat}{b:Bool}{af:List Nat}{os:List AOper}{K:Ts->Hp->Prop}{ts:Ts}{h:Hp}(hg:ts t=.tup [])(k:aops P G os K (put ts d (.tup [])) h):aops P G (⟨d,o,some (t,b),af⟩::os) K ts h:=by
 show guardP ts (some (t,b)) _ _
 simp only[guardP,hg];exact k
theorem go_call{d:Option Nat}{f:FuncId}{as:List Opd}{vs:List A}{af:List Nat}{os:List AOper}{K:Ts->Hp->Prop}{ts:Ts}{h:Hp}(ha:as.map (evX ts)=vs)(k:ACall P G f vs h fun v h'=>aops P G os K (put ts d v) h'):aops P G (⟨d,.call f as,none,af⟩::os) K ts h:=by
 subst ha;exact k
theorem cvh{d:Option Nat}{f:FuncId}{t:Nat}{b:Bool}{as:List Opd}{vs:List A}{af:List Nat}{os:List AOper}{K:Ts->Hp->Prop}{ts:Ts}{h:Hp}(hg:ts t=.bool b)(ha:as.map (evX ts)=vs)(k:ACall P G f vs h fun v h'=>aops P G os K (put ts d v) h'):aops P G (⟨d,.call f as,some (t,b),af⟩::os) K ts h:=by
 subst ha;show guardP ts (some (t,b)) _ _
 simp only[guardP,hg];exact⟨fun _=>k,fun e=>(by cases b<;>cases e)⟩
theorem cwf{d:Option Nat}{x:Opd}{f:FuncId}{caps:List A}{as:List Opd}{vs:List A}{af:List Nat}{os:List AOper}{K:Ts->Hp->Prop}{ts:Ts}{h:Hp}(hx:evX ts x=.fn f caps)(hb:Nat.blt f bmk=true)(hok:callOk P f=true)(ha:as.map (evX ts)++caps=vs)(k:ACall P G f vs h fun v h'=>aops P G os K (put ts d v) h'):aops P G (⟨d,.callv x as,none,af⟩::os) K ts h:=by
 subst ha;have hb:=Nat.blt_eq.mp hb;exact⟨f,caps,hx,by rw[vF,if_pos hb];exact hok,by rw[vF,vA,if_pos hb,if_pos hb];exact k⟩
theorem cyb{K:Ts->Prop}{ts:Ts}{h:Hp}(k:K ts):aquiet P G h [] K ts:=k
theorem dz8{d:Option Nat}{o:AOp}{af:List Nat}{os:List AOper}{K:Ts->Prop}{ts:Ts}{h:Hp}{v:A}(hc:o.isCall=false)(hs:astep (evX ts) h o=some (v,h))(k:aquiet P G h os K (put ts d v)):aquiet P G h (⟨d,o,none,af⟩::os) K ts:=by
 show aopQ P G (evX ts) h _ o
 cases o with
 |call=>simp[AOp.isCall]at hc
 |callv=>simp[AOp.isCall]at hc
 |_=>simp only[aopQ];rw[hs];exact⟨rfl,k⟩
theorem cyk{d:Option Nat}{o:AOp}{t:Nat}{b:Bool}{af:List Nat}{os:List AOper}{K:Ts->Prop}{ts:Ts}{h:Hp}{v:A}(hg:ts t=.bool b)(hc:o.isCall=false)(hs:astep (evX ts) h o=some (v,h))(k:aquiet P G h os K (put ts d v)):aquiet P G h (⟨d,o,some (t,b),af⟩::os) K ts:=by
 have key:=dz8 (P:=P) (G:=G) (d:=d) (af:=af) hc hs k;show guardP ts (some (t,b)) _ _
 simp only[guardP,hg];exact⟨fun _=>key,fun e=>(by cases b<;>cases e)⟩
theorem cy4{d:Option Nat}{o:AOp}{t:Nat}{b:Bool}{af:List Nat}{os:List AOper}{K:Ts->Prop}{ts:Ts}{h:Hp}(hg:ts t=.bool (!b))(k:aquiet P G h os K (put ts d (.tup []))):aquiet P G h (⟨d,o,some (t,b),af⟩::os) K ts:=by
 show guardP ts (some (t,b)) _ _
 simp only[guardP,hg];exact⟨fun e=>(by cases b<;>cases e),fun _=>k⟩
theorem cvk{d:Option Nat}{o:AOp}{t:Nat}{b:Bool}{af:List Nat}{os:List AOper}{K:Ts->Prop}{ts:Ts}{h:Hp}(hg:ts t=.tup [])(k:aquiet P G h os K (put ts d (.tup []))):aquiet P G h (⟨d,o,some (t,b),af⟩::os) K ts:=by
 show guardP ts (some (t,b)) _ _
 simp only[guardP,hg];exact k
theorem cjk{d:Option Nat}{f:FuncId}{as:List Opd}{vs:List A}{r:A}{af:List Nat}{os:List AOper}{K:Ts->Prop}{ts:Ts}{h:Hp}(ha:as.map (evX ts)=vs)(hcall:ACall P G f vs h fun v' h'=>v'=r/\h'=h)(k:aquiet P G h os K (put ts d r)):aquiet P G h (⟨d,.call f as,none,af⟩::os) K ts:=by
 subst ha;exact⟨r,hcall,k⟩
theorem dqy{Q:AExit->Ts->Hp->Prop}{ts:Ts}{h:Hp}(k:Q .normal ts h):awp P G .skip Q ts h:=k
theorem dji{ops:List AOper}{Q:AExit->Ts->Hp->Prop}{ts:Ts}{h:Hp}(k:aops P G ops (Q .normal) ts h):awp P G (.reg false ops) Q ts h:=k
theorem cx0{x y:ACode}{Q:AExit->Ts->Hp->Prop}{ts:Ts}{h:Hp}(k:awp P G x (thenA (awp P G y Q) Q) ts h):awp P G (.seq x y) Q ts h:=k
theorem cy3{c:Opd}{x y:ACode}{Q:AExit->Ts->Hp->Prop}{ts:Ts}{h:Hp}(hc:evX ts c=.bool true)(k:awp P G x Q ts h):awp P G (.cond c x y) Q ts h:=by
 show condP (evX ts c) _ _
 rw[hc];exact⟨fun _=>k,fun e=>(by cases e)⟩
theorem dqo{c:Opd}{x y:ACode}{Q:AExit->Ts->Hp->Prop}{ts:Ts}{h:Hp}(hc:evX ts c=.bool false)(k:awp P G y Q ts h):awp P G (.cond c x y) Q ts h:=by
 show condP (evX ts c) _ _
 rw[hc];exact⟨fun e=>(by cases e),fun _=>k⟩
theorem cxd{id:Nat}{c:ACode}{Q:AExit->Ts->Hp->Prop}{ts:Ts}{h:Hp}(k:awp P G c (blkA id Q) ts h):awp P G (.block id c) Q ts h:=k
theorem bv2{id:Nat}{Q:AExit->Ts->Hp->Prop}{ts:Ts}{h:Hp}(k:Q (.exit id) ts h):awp P G (.exit id) Q ts h:=k
theorem go_ret{Q:AExit->Ts->Hp->Prop}{ts:Ts}{h:Hp}(k:Q .ret ts h):awp P G .ret Q ts h:=k
theorem dza{K:Ts->Hp->Prop}{Q:AExit->Ts->Hp->Prop}{ts:Ts}{h:Hp}(k:K ts h):thenA K Q .normal ts h:=k
theorem dqz{K:Ts->Hp->Prop}{Q:AExit->Ts->Hp->Prop}{ts:Ts}{h:Hp}(k:Q .ret ts h):thenA K Q .ret ts h:=k
theorem dqs{K:Ts->Hp->Prop}{Q:AExit->Ts->Hp->Prop}{id:Nat}{ts:Ts}{h:Hp}(k:Q (.exit id) ts h):thenA K Q (.exit id) ts h:=k
theorem dzu{id:Nat}{Q:AExit->Ts->Hp->Prop}{ts:Ts}{h:Hp}(k:Q .normal ts h):blkA id Q .normal ts h:=k
theorem dq7{id:Nat}{Q:AExit->Ts->Hp->Prop}{ts:Ts}{h:Hp}(k:Q .ret ts h):blkA id Q .ret ts h:=k
theorem dqw{id:Nat}{Q:AExit->Ts->Hp->Prop}{ts:Ts}{h:Hp}(k:Q .normal ts h):blkA id Q (.exit id) ts h:=by
 show if id=id then _ else _
 rw[if_pos rfl];exact k
theorem dzn{id id':Nat}{Q:AExit->Ts->Hp->Prop}{ts:Ts}{h:Hp}(hne:(id'==id)=false)(k:Q (.exit id') ts h):blkA id Q (.exit id') ts h:=by
 show if id'=id then _ else _
 rw[if_neg (by simpa using hne)];exact k
theorem ck8{rs:List ARes}{Q:A->Hp->Prop}{ts:Ts}{h:Hp}{l:List A}(hr:resA ts h rs=some l)(k:∃v,le (tupA l) v/\Q v h):finQ rs Q .ret ts h:=by
 show finO (resA ts h rs) Q h
 rw[hr];exact k
theorem cxn{rs:List ARes}{Q:A->Hp->Prop}{ts:Ts}{h:Hp}{l:List A}(hr:resA ts h rs=some l)(k:∃v,le (tupA l) v/\Q v h):finQ rs Q .normal ts h:=ck8 hr k
theorem pcall{f:FuncId}{args:List A}{r:A}(hc:ACall P G f args ⟨[],[]⟩ fun v _=>v=r)(hp:r.pure=true)(ha:args.all A.pure=true)(h:Hp):ACall P G f args h fun v h'=>v=r/\h'=h:=
 (hc.beside (fun v h' e=>by rw[e];exact hp) ha h).mono fun v h' ⟨h1,_,h2⟩=>⟨h2,h1⟩
end
end AX
end
section
open Go.RowKit
namespace AX
def stageB(ops:List AOper)(acts:List Nat)(i k:Nat):Bool:=
 acts.zipIdx.all fun(a,m)=>(!((ops[i]?.map (·.after)).getD []).contains a||decide (m<k))&&(!(((ops[a]?.map (·.after)).getD []).contains i||a==i)||decide (k<=m))
def chainB(ops:List AOper)(acts:List Nat):Bool:=
 acts.zipIdx.all fun(a,m)=>decide (a<ops.length)&&((ops[a]?.map (·.guard.isNone)).getD false)&&(acts.take m).all fun a'=>((ops[a]?.map (·.after)).getD []).contains a'
def chainG(ops:List AOper)(acts:List Nat):Bool:=
 acts.zipIdx.all fun(a,m)=>decide (a<ops.length)&&(acts.take m).all fun a'=>((ops[a]?.map (·.after)).getD []).contains a'
theorem ayk{ops:List AOper}{acts:List Nat}(h:chainB ops acts=true):chainG ops acts=true:=by
 unfold chainB at h;unfold chainG;rw[ZD]at h⊢;intro x hx;have:=h x hx;simp only[Zg]at this⊢;exact⟨this.1.1,this.2⟩
def stagesB(ops:List AOper)(acts:List Nat)(stg:List (List Nat)):Bool:=
 (List.range ops.length).all fun i=>(List.range (acts.length+1)).all fun k=>!stageB ops acts i k||(stg.getD i []).contains k
def forL(p:Nat->Prop):List Nat->Prop
 |[]=>True
 |k::ks=>p k/\forL p ks
theorem bql{p:Nat->Prop}:∀{ks:List Nat},forL p ks->∀k∈ks,p k
 |[],_,k,hk=>by simp at hk
 |a::ks,h,k,hk=>by
  rcases ZL.1 hk with rfl|hk
  ·exact h.1
  ·exact bql h.2 k hk
def achain(P:Program)(G:World->Prop)(acts:List Nat)(hl:List Hp):Nat->List AOper->List (List Nat)->(Ts->Prop)->Ts->Prop
 |_,[],_,K,ts=>K ts
 |i,o::os,stg,K,ts=>∃v,forL (fun k=>guardP ts o.guard (aopP P G (evX ts) (hl.getD k ⟨[],[]⟩) (fun v' h'=>v'=v/\h'=hl.getD (if acts[k]?=some i then k+1 else k) ⟨[],[]⟩) o.op) (v=.tup []/\hl.getD (if acts[k]?=some i then k+1 else k) ⟨[],[]⟩=hl.getD k ⟨[],[]⟩)) (stg.headD [])/\achain P G acts hl (i+1) os stg.tail K (put ts o.dst v)
section
variable {P:Program} {G:World->Prop}
theorem akb{acts:List Nat}{hl:List Hp}{K:Ts->Prop}:∀(os:List AOper) (b:Nat) (stg:List (List Nat)) (ts:Ts),achain P G acts hl b os stg K ts ->
  ∃vs:Nat->A,(∀(i:Nat) (o:AOper),os[i]?=some o->∀k∈stg.getD i [],guardP (pre ts os vs i) o.guard (aopP P G (evX (pre ts os vs i)) (hl.getD k ⟨[],[]⟩) (fun v' h'=>v'=vs i/\h'=hl.getD (if acts[k]?=some (b+i)then k+1 else k) ⟨[],[]⟩) o.op) (vs i=.tup []/\hl.getD (if acts[k]?=some (b+i)then k+1 else k) ⟨[],[]⟩=hl.getD k ⟨[],[]⟩))/\K (pre ts os vs os.length)
 |[],b,stg,ts,hp=>⟨fun _=> .tup [],fun i o hi=>by simp at hi,hp⟩
 |o::os,b,stg,ts,hp=>by
  obtain⟨v,h1,h2⟩:=hp;obtain⟨vs,h3,h4⟩:=akb os (b+1) stg.tail _ h2;refine⟨fun i=>match i with|0=>v|i+1=>vs i,fun i o' hi k hk=>?_,h4⟩;cases i with
  |zero=>
   simp at hi;subst hi;have hk':k∈stg.headD []:=by cases stg with
    |nil=>simp at hk
    |cons a l=>simpa using hk
   exact bql h1 k hk'
  |succ i=>
   have hk':k∈stg.tail.getD i []:=by cases stg with
    |nil=>simp at hk
    |cons a l=>simpa using hk
   have:=h3 i o' (by simpa using hi) k hk';rw[show b+1+i=b+(i+1) by omega]at this;exact this
def cnt(acts:List Nat)(D:Nat->Bool):Nat:=(acts.takeWhile D).length
theorem ajs:∀(acts:List Nat) (D:Nat->Bool) (c:Nat),c<=acts.length->(∀m (h:m<acts.length),D acts[m]=true↔m<c)->cnt acts D=c
 |[],D,c,hc,h=>by simp at hc;subst hc;rfl
 |a::l,D,0,hc,h=>by
  have h0:=h 0 (by simp);simp at h0;simp[cnt,List.takeWhile_cons,h0]
 |a::l,D,c+1,hc,h=>by
  have h0:=h 0 (by simp);simp at h0;have ih:=ajs l D c (by simpa using hc) fun m hm=>by
   have:=h (m+1) (by simp;omega);simpa using this
  unfold cnt at ih⊢;rw[List.takeWhile_cons,h0];simp[ih]
theorem aq2 {ops:List AOper} {acts:List Nat} (hc:chainG ops acts=true) {m m':Nat} (hm:m < acts.length) (hlt:m' < m):∃ o,ops[acts[m]]?=some o/\acts[m']'(by omega)∈o.after:=by
 have h1:=ZD.1 hc (acts[m],m) (Z8.2 (Zj hm));simp only [Zg,Zx] at h1;have h2:=ZD.1 h1.2 (acts[m']'(by omega)) (by rw [List.mem_take_iff_getElem]; exact ⟨m',by omega,rfl⟩);have hlt':=h1.1;refine ⟨ops[acts[m]],Zj hlt',?_⟩;rw [Zj hlt'] at h2;simpa using h2
theorem bw2{ops:List AOper}{acts:List Nat}(hc:chainG ops acts=true){D:Nat->Bool}(hcl:Closed ops D):cnt acts D<=acts.length/\∀m (h:m<acts.length),D acts[m]=true↔m<cnt acts D:=by
 have key:∃c,c<=acts.length/\∀m (h:m<acts.length),D acts[m]=true↔m<c:=by
  have hdown:∀ m m' (h:m < acts.length) (hlt:m' < m),D acts[m]=true->D (acts[m']'(by omega))=true:=fun m m' h hlt hD=>by
   obtain⟨o,h1,h2⟩:=aq2 hc h hlt;exact hcl _ _ h1 hD _ h2
  have hex:∀n,n<=acts.length->∃c,c<=n/\∀m (h:m<n) (h':m<acts.length),D acts[m]=true↔m<c:=by
   intro n;induction n with
   |zero=>exact fun _=>⟨0,Ze _,fun m h=>by omega⟩
   |succ n ih=>
    intro hn;obtain⟨c,h1,h2⟩:=ih (by omega);by_cases hD:D (acts[n]'(by omega))=true
    ·refine⟨n+1,Ze _,fun m h h'=>⟨fun _=>h,fun _=>?_⟩⟩;by_cases hmn:m=n
     ·subst hmn;exact hD
     ·exact hdown n m (by omega) (by omega) hD
    ·refine⟨c,by omega,fun m h h'=>?_⟩;by_cases hmn:m=n
     ·subst hmn;exact⟨fun h=>absurd h hD,fun h=>by omega⟩
     ·exact h2 m (by omega) h'
  obtain⟨c,h1,h2⟩:=hex acts.length (Ze _);exact⟨c,h1,fun m h=>h2 m h h⟩
 obtain⟨c,h1,h2⟩:=key;rw[ajs acts D c h1 h2];exact⟨h1,h2⟩
theorem aw9{ops:List AOper}{K:Ts->Hp->Prop}{ts:Ts}(acts:List Nat)(hl:List Hp)(stg:List (List Nat))(he:edgesB 0 ops=true)(hs:seesB ops=true)(hc:chainG ops acts=true)(hst:stagesB ops acts stg=true)
  (hp:achain P G acts hl 0 ops stg (fun ts=>K ts (hl.getD acts.length ⟨[],[]⟩)) ts):adraw P G ops K ts (hl.getD 0 ⟨[],[]⟩):=by
 obtain⟨vs,t1,t2⟩:=akb ops 0 stg ts hp;refine akm he vs (fun D=>hl.getD (cnt acts D) ⟨[],[]⟩) ?_ (fun D i o hi hDi hcl haf=>?_) ?_
 ·show hl.getD (cnt acts _) _=_
  rw[ajs acts (fun _=>false) 0 (ZB _) (fun m h=>by simp)]
 ·obtain⟨hk1,hk2⟩:=bw2 hc hcl;generalize hkD:cnt acts D=k at hk1 hk2;have hsee:=bq8 he hs hi hDi hcl haf vs ts;have hilt:i<ops.length:=(Zb.1 hi).1;have hmem:k∈stg.getD i []:=by
   have h1:=ZD.1 (ZD.1 hst i (List.mem_range.2 hilt)) k (List.mem_range.2 (by omega));have h2:stageB ops acts i k=true:=by
    unfold stageB;refine ZD.2 ?_;rintro⟨a,m⟩ hm;have hm':=Z8.1 hm;obtain⟨hml,hma⟩:=Zb.1 hm';subst hma;simp only[Zg,ZZ,Zx,YI];constructor
    ·by_cases hin:acts[m]∈o.after
     ·right;exact(hk2 m hml).1 (haf _ hin)
     ·left;rw[hi];simpa using hin
    ·by_cases hin:D acts[m]=true
     ·left
      simp only[Yv];constructor
      ·cases ho:ops[acts[m]]? with
       |none=>simp
       |some o'=>
        simp only[ZY,Yb];rw[YR];intro hcon;have:=hcl _ _ ho hin i (by simpa using hcon);rw[hDi]at this;cases this
      ·rw[YR];intro hcon;have:acts[m]=i:=by simpa using hcon
       rw[this,hDi]at hin;cases hin
     ·right
      have:=mt (hk2 m hml).2 hin;omega
   rw[h2]at h1;simpa using h1
  have h3:=t1 i o hi k hmem;rw[Yj]at h3;have hpre:pre ts ops vs i=TD ops vs ts (fun j=>decide (j<i)):=funext fun x=>pre_eq ops 0 ts vs i he (by omega) x
  rw[hpre]at h3;have hcnt:cnt acts (fun j=>j==i||D j)=if acts[k]?=some i then k+1 else k:=by
   have hnd:∀ m m' (h:m < acts.length) (h':m' < m),acts[m]≠acts[m']'(by omega):=fun m m' h h' e=>by
    obtain⟨o',h1,h2⟩:=aq2 hc h h';have:=aqb he _ _ h1 _ h2;omega
   split
   ·next hki=>
    obtain⟨hkl,hki⟩:=Zb.1 hki;refine ajs acts _ (k+1) (by omega) fun m h=>?_
    simp only[ZZ,ZT];rw[hk2 m h];constructor
    ·rintro(h1|h1)
     ·rcases Nat.lt_trichotomy m k with h4|h4|h4
      ·omega
      ·omega
      ·exact absurd (h1.trans hki.symm) (hnd m k h h4)
     ·omega
    ·intro h1;by_cases hmk:m=k
     ·subst hmk;exact .inl hki
     ·exact .inr (by omega)
   ·next hki=>
    refine ajs acts _ k hk1 fun m h=>?_
    simp only[ZZ,ZT];rw[hk2 m h];constructor
    ·rintro(h1|h1)
     ·exfalso
      have h5:¬m<k:=fun h6=>by have:=(hk2 m h).2 h6;rw[h1,hDi]at this;cases this
      have h6:m≠k:=fun e=>by subst e;exact hki (by rw[Zj h,h1])
      obtain⟨o',h7,h8⟩:=aq2 hc h (show k<m by omega);rw[h1,hi]at h7;injection h7 with h7;subst h7
      have:=(hk2 k (by omega)).1 (haf _ h8);omega
     ·exact h1
    ·exact fun h1=> .inr h1
  rw[hcnt];refine axv (fun x hx=>(hsee x hx).symm) ?_;refine azr (fun hq=>?_) (fun hq=>hq) h3;exact aqz (ajh fun x hx=>(hsee x hx).symm) hq
 ·have e1:pre ts ops vs ops.length=TD ops vs ts (fun j=>decide (j<ops.length)):=funext fun x=>pre_eq ops 0 ts vs _ he (Ze _) x
  show K _ (hl.getD (cnt acts _) _)
  rw[<-e1,ajs acts _ acts.length (Ze _) fun m h=>?_]
  ·exact t2
  ·have h1:=ZD.1 hc (acts[m],m) (Z8.2 (Zj h));simp only[Zg,Zx]at h1;simp[h1.1,h]
theorem bx0{ops:List AOper}{Q:AExit->Ts->Hp->Prop}{ts:Ts}{h:Hp}(acts:List Nat)(hl:List Hp)(stg:List (List Nat))(h0:hl.getD 0 ⟨[],[]⟩=h)(hb:(edgesB 0 ops&&seesB ops&&chainG ops acts&&stagesB ops acts stg)=true)
  (hp:achain P G acts hl 0 ops stg (fun ts=>Q .normal ts (hl.getD acts.length ⟨[],[]⟩)) ts):awp P G (.reg true ops) Q ts h:=by
 simp only[Zg]at hb;subst h0;exact⟨hb.1.1.1,aw9 acts hl stg hb.1.1.1 hb.1.1.2 hb.1.2 hb.2 hp⟩
variable {acts:List Nat} {hl:List Hp} {stg:List (List Nat)} {i:Nat} {ks:List Nat} {d:Option Nat} {af:List Nat} {os:List AOper} {K:Ts->Prop} {ts:Ts} {v:A}
theorem cw1(k:K ts):achain P G acts hl i [] stg K ts:=k
theorem ak8{o:AOp}(hc:o.isCall=false)(hs:forL (fun k=>astep (evX ts) (hl.getD k ⟨[],[]⟩) o=some (v,hl.getD (if acts[k]?=some i then k+1 else k) ⟨[],[]⟩)) ks)(k:achain P G acts hl (i+1) os stg K (put ts d v)):achain P G acts hl i (⟨d,o,none,af⟩::os) (ks::stg) K ts:=by
 refine⟨v,?_,k⟩;have key:∀ks,forL (fun k=>astep (evX ts) (hl.getD k ⟨[],[]⟩) o=some (v,hl.getD (if acts[k]?=some i then k+1 else k) ⟨[],[]⟩)) ks->forL (fun k=>guardP ts none (aopP P G (evX ts) (hl.getD k ⟨[],[]⟩) (fun v' h'=>v'=v/\h'=hl.getD (if acts[k]?=some i then k+1 else k) ⟨[],[]⟩) o) (v=.tup []/\hl.getD (if acts[k]?=some i then k+1 else k) ⟨[],[]⟩=hl.getD k ⟨[],[]⟩)) ks:=by
  intro ks;induction ks with
  |nil=>exact fun h=>h
  |cons a ks ih=>
   intro h;refine⟨?_,ih h.2⟩;have h1:=h.1;show aopP P G _ _ _ o
   cases o with
   |call=>simp[AOp.isCall]at hc
   |callv=>simp[AOp.isCall]at hc
   |_=>simp only[aopP];rw[h1];exact⟨rfl,rfl⟩
 exact key ks hs
theorem cqd{f:FuncId}{as:List Opd}{vs:List A}(ha:as.map (evX ts)=vs)(hcall:forL (fun k=>ACall P G f vs (hl.getD k ⟨[],[]⟩) fun v' h'=>v'=v/\h'=hl.getD (if acts[k]?=some i then k+1 else k) ⟨[],[]⟩) ks)(k:achain P G acts hl (i+1) os stg K (put ts d v)):achain P G acts hl i (⟨d,.call f as,none,af⟩::os) (ks::stg) K ts:=by
 subst ha;exact⟨v,hcall,k⟩
end
end AX
end
section
open Go.RowKit
namespace AX
mutual
def A.ren(σ:Nat->Nat):A->A
 |.int k n=> .int k n
 |.str l=> .str l
 |.bool b=> .bool b
 |.sl W o rows=> .sl W o rows
 |.ptr i o=> .ptr (σ i) o
 |.vptr l=> .vptr l
 |.nilp=> .nilp
 |.nili=> .nili
 |.nilf=> .nilf
 |.nilm=> .nilm
 |.mp i=> .mp (σ i)
 |.bs i W n=> .bs (σ i) W n
 |.fn f caps=> .fn f (A.renL σ caps)
 |.agg l=> .agg (A.renL σ l)
 |.tup l=> .tup (A.renL σ l)
def A.renL(σ:Nat->Nat):List A->List A
 |[]=>[]
 |x::l=>x.ren σ::A.renL σ l
end
mutual
def A.loc(k:Nat):A->Bool
 |.ptr i _=>decide (i<k)
 |.mp i=>decide (i<k)
 |.bs i _ _=>decide (i<k)
 |.sl _ (.tok _) _=>false
 |.fn _ caps=>A.locL k caps
 |.agg l=>A.locL k l
 |.tup l=>A.locL k l
 |_=>true
def A.locL(k:Nat):List A->Bool
 |[]=>true
 |x::l=>x.loc k&&A.locL k l
end
def Blk.ren(σ:Nat->Nat):Blk->Blk
 |.cells T l=> .cells T (A.renL σ l)
 |.opq R vis=> .opq R vis
 |.map es c=> .map (es.map fun e=>(e.1,e.2.ren σ)) c
 |.row T l=> .row T (A.renL σ l)
 |.gone=> .gone
def Blk.loc(k:Nat):Blk->Prop
 |.cells _ l=>A.locL k l=true
 |.opq _ vis=>∀o x,vis o=some x->x.data=true
 |.map es _=>(es.all fun e=>e.2.loc k)=true
 |.row _ l=>A.locL k l=true
 |.gone=>False
theorem Blk.loc_live{k:Nat}{σ:Nat->Nat}{b:Blk}(h:b.loc k):b.live=true/\(b.ren σ).live=true:=by cases b<;>first|exact⟨rfl,rfl⟩|exact h.elim
structure Ren(C0 C:Ctx)(σ:Nat->Nat)(k:Nat):Prop where
 cells:∀g j,C0.S g j->C.S g j/\C.w.cell? ⟨g,j,none⟩=C0.w.cell? ⟨g,j,none⟩
 box:∀j,j<k->σ j<C.nb/\C.κ (σ j)=C0.κ j/\C.kap (σ j)=C0.kap j
structure RenR(C C0:Ctx)(σ:Nat->Nat)(k:Nat):Prop where
 cells:∀g j,C.S g j->C0.S g j/\C0.w.cell? ⟨g,j,none⟩=C.w.cell? ⟨g,j,none⟩
 box:∀j,j<k->j<C0.nb/\C0.κ j=C.κ (σ j)/\C0.kap j=C.kap (σ j)
section
variable {C C0:Ctx} {σ:Nat->Nat} {k:Nat}
mutual
theorem Rep.ren(h:Ren C0 C σ k):∀(x:A) (v:Value),x.loc k=true->Rep C0 x v->Rep C (x.ren σ) v
 |.int _ n,v,d,r=>by unfold A.ren;unfold Rep at r⊢;exact r
 |.str l,v,d,r=>by unfold A.ren;unfold Rep at r⊢;exact r
 |.bool b,v,d,r=>by unfold A.ren;unfold Rep at r⊢;exact r
 |.sl W o rows,v,d,r=>by
  unfold A.ren;cases o with
  |no=>exact Rep.same ⟨h.cells⟩ (.sl W .no rows) v rfl r
  |nil=>exact Rep.same ⟨h.cells⟩ (.sl W .nil rows) v rfl r
  |emp=>exact Rep.same ⟨h.cells⟩ (.sl W .emp rows) v rfl r
  |tok t=>simp[A.loc]at d
 |.ptr i o,v,d,r=>by
  unfold A.ren;unfold Rep at r⊢;unfold A.loc at d;have hi:=h.box i (by simpa using d);rw[hi.2.1];exact⟨r.1,hi.1⟩
 |.vptr l,v,d,r=>by
  unfold A.ren;unfold Rep at r⊢;obtain⟨g,off,h1,h2⟩:=r;exact⟨g,off,h1,RepAt.same ⟨h.cells⟩ l g off h2⟩
 |.nilp,v,d,r=>by unfold A.ren;unfold Rep at r⊢;exact r
 |.nili,v,d,r=>by unfold A.ren;unfold Rep at r⊢;exact r
 |.nilf,v,d,r=>by unfold A.ren;unfold Rep at r⊢;exact r
 |.nilm,v,d,r=>by unfold A.ren;unfold Rep at r⊢;exact r
 |.mp i,v,d,r=>by
  unfold A.ren;unfold Rep at r⊢;unfold A.loc at d;have hi:=h.box i (by simpa using d);rw[hi.2.1];exact⟨r.1,hi.1⟩
 |.bs i W n,v,d,r=>by
  unfold A.ren;unfold Rep at r⊢;unfold A.loc at d;have hi:=h.box i (by simpa using d);rw[hi.2.1,hi.2.2];obtain⟨cap,h1,h2,h3,h4⟩:=r;exact⟨cap,h1,h2,hi.1,h4⟩
 |.fn f caps,v,d,r=>by
  unfold A.ren;unfold Rep at r⊢;obtain⟨cs,h1,h2⟩:=r;exact⟨cs,h1,RepL.ren h caps cs (by unfold A.loc at d;exact d) h2⟩
 |.agg l,v,d,r=>by
  unfold A.ren;unfold Rep at r⊢;obtain⟨cs,h1,h2⟩:=r;exact⟨cs,h1,RepL.ren h l cs (by unfold A.loc at d;exact d) h2⟩
 |.tup l,v,d,r=>by
  unfold A.ren;unfold Rep at r⊢;obtain⟨cs,h1,h2⟩:=r;exact⟨cs,h1,RepL.ren h l cs (by unfold A.loc at d;exact d) h2⟩
theorem RepL.ren(h:Ren C0 C σ k):∀(l:List A) (cs:List Value),A.locL k l=true->RepL C0 l cs->RepL C (A.renL σ l) cs
 |[],cs,d,r=>by unfold A.renL;unfold RepL at r⊢;exact r
 |x::l,cs,d,r=>by
  unfold A.renL;unfold RepL at r⊢;unfold A.locL at d;rw[Zg]at d;obtain⟨c,cs',h1,h2,h3⟩:=r;exact⟨c,cs',h1,Rep.ren h x c d.1 h2,RepL.ren h l cs' d.2 h3⟩
end
mutual
theorem Rep.renR(h:RenR C C0 σ k):∀(x:A) (v:Value),x.loc k=true->Rep C (x.ren σ) v->Rep C0 x v
 |.int _ n,v,d,r=>by unfold A.ren at r;unfold Rep at r⊢;exact r
 |.str l,v,d,r=>by unfold A.ren at r;unfold Rep at r⊢;exact r
 |.bool b,v,d,r=>by unfold A.ren at r;unfold Rep at r⊢;exact r
 |.sl W o rows,v,d,r=>by
  unfold A.ren at r;cases o with
  |no=>exact Rep.same ⟨h.cells⟩ (.sl W .no rows) v rfl r
  |nil=>exact Rep.same ⟨h.cells⟩ (.sl W .nil rows) v rfl r
  |emp=>exact Rep.same ⟨h.cells⟩ (.sl W .emp rows) v rfl r
  |tok t=>simp[A.loc]at d
 |.ptr i o,v,d,r=>by
  unfold A.ren at r;unfold Rep at r⊢;unfold A.loc at d;have hi:=h.box i (by simpa using d);rw[hi.2.1];exact⟨r.1,hi.1⟩
 |.vptr l,v,d,r=>by
  unfold A.ren at r;unfold Rep at r⊢;obtain⟨g,off,h1,h2⟩:=r;exact⟨g,off,h1,RepAt.same ⟨h.cells⟩ l g off h2⟩
 |.nilp,v,d,r=>by unfold A.ren at r;unfold Rep at r⊢;exact r
 |.nili,v,d,r=>by unfold A.ren at r;unfold Rep at r⊢;exact r
 |.nilf,v,d,r=>by unfold A.ren at r;unfold Rep at r⊢;exact r
 |.nilm,v,d,r=>by unfold A.ren at r;unfold Rep at r⊢;exact r
 |.mp i,v,d,r=>by
  unfold A.ren at r;unfold Rep at r⊢;unfold A.loc at d;have hi:=h.box i (by simpa using d);rw[hi.2.1];exact⟨r.1,hi.1⟩
 |.bs i W n,v,d,r=>by
  unfold A.ren at r;unfold Rep at r⊢;unfold A.loc at d;have hi:=h.box i (by simpa using d);rw[hi.2.1,hi.2.2];obtain⟨cap,h1,h2,h3,h4⟩:=r;exact⟨cap,h1,h2,hi.1,h4⟩
 |.fn f caps,v,d,r=>by
  unfold A.ren at r;unfold Rep at r⊢;obtain⟨cs,h1,h2⟩:=r;exact⟨cs,h1,RepL.renR h caps cs (by unfold A.loc at d;exact d) h2⟩
 |.agg l,v,d,r=>by
  unfold A.ren at r;unfold Rep at r⊢;obtain⟨cs,h1,h2⟩:=r;exact⟨cs,h1,RepL.renR h l cs (by unfold A.loc at d;exact d) h2⟩
 |.tup l,v,d,r=>by
  unfold A.ren at r;unfold Rep at r⊢;obtain⟨cs,h1,h2⟩:=r;exact⟨cs,h1,RepL.renR h l cs (by unfold A.loc at d;exact d) h2⟩
theorem RepL.renR(h:RenR C C0 σ k):∀(l:List A) (cs:List Value),A.locL k l=true->RepL C (A.renL σ l) cs->RepL C0 l cs
 |[],cs,d,r=>by unfold A.renL at r;unfold RepL at r⊢;exact r
 |x::l,cs,d,r=>by
  unfold A.renL at r;unfold RepL at r⊢;unfold A.locL at d;rw[Zg]at d;obtain⟨c,cs',h1,h2,h3⟩:=r;exact⟨c,cs',h1,Rep.renR h x c d.1 h2,RepL.renR h l cs' d.2 h3⟩
end
end
theorem RepEs.ren{C C0:Ctx}{σ:Nat->Nat}{k:Nat}(h:Ren C0 C σ k):∀{l:List (Int×A)} {es:List MapEntry},(l.all fun e=>e.2.loc k)=true->RepEs C0 l es->RepEs C (l.map fun e=>(e.1,e.2.ren σ)) es
 |[],_,_,r=>r
 |(n,x)::l,es,d,r=>by
  obtain⟨e,es',h1,h2,h3,h4⟩:=r;rw[ZK,Zg]at d;exact⟨e,es',h1,h2,Rep.ren h x _ d.1 h3,RepEs.ren h d.2 h4⟩
theorem RepEs.renR{C C0:Ctx}{σ:Nat->Nat}{k:Nat}(h:RenR C C0 σ k):∀{l:List (Int×A)} {es:List MapEntry},(l.all fun e=>e.2.loc k)=true->RepEs C (l.map fun e=>(e.1,e.2.ren σ)) es->RepEs C0 l es
 |[],_,_,r=>r
 |(n,x)::l,es,d,r=>by
  obtain⟨e,es',h1,h2,h3,h4⟩:=r;rw[ZK,Zg]at d;exact⟨e,es',h1,h2,Rep.renR h x _ d.1 h3,RepEs.renR h d.2 h4⟩
def setAll(σ:Nat->Nat):List Blk->Nat->List Blk->List Blk
 |l,_,[]=>l
 |l,j,b::bs=>setAll σ (l.set (σ j) (b.ren σ)) (j+1) bs
theorem avb(σ:Nat->Nat):∀(bs l:List Blk) (j:Nat),(setAll σ l j bs).length=l.length
 |[],l,j=>rfl
 |b::bs,l,j=>by rw[setAll,avb σ bs];simp
theorem aqr(σ:Nat->Nat){i:Nat}:∀(bs l:List Blk) (j:Nat),(∀m,j<=m->m<j+bs.length->σ m≠i)->(setAll σ l j bs)[i]?=l[i]?
 |[],l,j,h=>rfl
 |b::bs,l,j,h=>by
  rw[setAll,aqr σ bs _ _ fun m h1 h2=>h m (by omega) (by simp;omega)];rw[Zm,if_neg (h j (Ze _) (by simp))]
theorem bxl(σ:Nat->Nat){i:Nat}:∀(bs l:List Blk) (j:Nat),(∀m m',m<j+bs.length->m'<j+bs.length->σ m=σ m'->m=m')->(∀m,m<j+bs.length->σ m<l.length)->∀m (hm:m<bs.length),(setAll σ l j bs)[σ (j+m)]?=some (bs[m].ren σ)
 |[],l,j,hi,hl,m,hm=>by simp at hm
 |b::bs,l,j,hi,hl,0,hm=>by
  simp only[Yr]
  rw[setAll,aqr σ bs _ _ fun m h1 h2 e=>by
   have:=hi m j (by simp;omega) (by simp) e
   omega]
  rw[Zm,if_pos rfl,if_pos (hl j (by simp))];rfl
 |b::bs,l,j,hi,hl,m+1,hm=>by
  rw[setAll,show j+(m+1)=(j+1)+m by omega];have:=bxl σ (i:=i) bs (l.set (σ j) (b.ren σ)) (j+1) (fun m m' h1 h2=>hi m m' (by simp;omega) (by simp;omega)) (fun m h1=>by simpa using hl m (by simp;omega)) m (by simpa using hm);simpa using this
open Classical in
noncomputable def ownOf(C:Ctx)(σ:Nat->Nat)(k:Nat)(g:Nat):Option Nat:=
 if h:∃j,j<k/\C.own g=some (σ j)then some h.choose else none
theorem by0{C:Ctx}{σ:Nat->Nat}{k:Nat}(hinj:∀i j,i<k->j<k->σ i=σ j->i=j)(g j:Nat):ownOf C σ k g=some j↔j<k/\C.own g=some (σ j):=by
 unfold ownOf;constructor
 ·intro e;split at e
  ·next h=>
   injection e with e;have:=h.choose_spec;rw[e]at this;exact this
  ·cases e
 ·rintro⟨h1,h2⟩;have h:∃j,j<k/\C.own g=some (σ j):=⟨j,h1,h2⟩;rw[dif_pos h];have h3:=h.choose_spec;have:σ h.choose=σ j:=Zap (h3.2.symm.trans h2);rw[hinj _ _ h3.1 h1 this]
theorem bzd{C:Ctx}{σ:Nat->Nat}{k g:Nat}(h:∀j,j<k->C.own g≠some (σ j)):ownOf C σ k g=none:=by
 unfold ownOf;rw[dif_neg (by rintro⟨j,h1,h2⟩;exact h j h1 h2)]
theorem ACall.lift{P:Program}{G:World->Prop}{f:FuncId}{args:List A}{bs:List Blk}{Q0:A->Hp->Prop}(hc:ACall P G f args ⟨bs,[]⟩ Q0)(σ:Nat->Nat)(hinj:∀i j,i<bs.length->j<bs.length->σ i=σ j->i=j)
  (ha:A.locL bs.length args=true) (hbs:∀b∈bs,b.loc bs.length) (hq:∀v h',Q0 v h'->v.loc bs.length=true/\∀(j:Nat) b,j<bs.length->h'.b[j]?=some b->b.loc bs.length)
  {h:Hp} (hh:∀(j:Nat) (hj:j<bs.length),h.b[σ j]?=some (bs[j].ren σ)):
  ACall P G f (A.renL σ args) h fun v h'=>∃v0 h0,Q0 v0 h0/\v=v0.ren σ/\h'=⟨setAll σ h.b 0 (h0.b.take bs.length),h.t⟩:=by
 obtain⟨k,hk⟩:=Ex (bs.length);rw[hk]at hinj ha hbs hq⊢;intro C cs hI hr;have hσ:∀j,j<k->σ j<C.nb:=fun j hj=>by
  rw[<-hI.nb];exact(Zb.1 (hh j (by omega))).1
 let C0:Ctx:={ C with κ:=fun j=>C.κ (σ j),kap:=fun j=>C.kap (σ j),lab:=fun j=>j,nb:=k,hw:=fun _=>none,own:=ownOf C (fun j=>C.lab (σ j)) k }
 have hlv:∀j (hj:j<bs.length),bs[j].live=true/\(bs[j].ren σ).live=true:=fun j hj=>Blk.loc_live (hbs _ (Zl hj))
 have hL:∀i j,i<k->j<k->C.lab (σ i)=C.lab (σ j)->i=j:=fun i j hi hj e=>hinj i j hi hj (hI.ownk.2 _ _ _ _ (hh i (by omega)) (hh j (by omega)) (hlv i (by omega)).2 (hlv j (by omega)).2 e)
 have hok:∀j,j<k->C.own (C.κ (σ j))=some (C.lab (σ j)):=fun j hj=>hI.ok (hh j (by omega)) (hlv j (by omega)).2
 have ho:∀g j,C0.own g=some j↔j<k/\C.own g=some (C.lab (σ j)):=fun g j=>by0 hL g j
 have hon:∀g,C.own g=none->C0.own g=none:=fun g hg=>bzd fun j _ e=>by rw[hg]at e;cases e
 have rR:RenR C C0 σ k:=⟨fun g j hs=>⟨hs,rfl⟩,fun j hj=>⟨hj,rfl,rfl⟩⟩;have I0:Inv G C0 ⟨bs,[]⟩:=by
  refine⟨hk,fun j b hb=>?_,⟨fun j b hb hl=>(ho _ _).2 ⟨by rw[<-hk];exact(Zb.1 hb).1,hok j (by rw[<-hk];exact(Zb.1 hb).1)⟩,fun i j b b' hb hb' _ _ e=>e⟩,fun g j hg=>?_,fun g j hs=>?_,fun t E W m ht=>by simp[C0]at ht,fun t t' ht=>by simp[C0]at ht,fun t=>by simp[C0],hI.base,hI.glob⟩
  ·obtain⟨hj,rfl⟩:=Zb.1 hb;have hj':j<bs.length:=hj;have hB:=hI.box (σ j) _ (hh j hj');have hl:=hbs bs[j] (Zl hj');show BlkRep C0 j bs[j]
   revert hB hl;generalize bs[j]=b;intro hB hl;cases b with
   |cells T l=>
    obtain⟨cs,h1,h2⟩:=hB;exact⟨cs,h1,RepL.renR rR l cs hl h2⟩
   |opq R vis=>
    have e:(fun g=>C0.own g=some (C0.lab j))=fun g=>C.own g=some (C.lab (σ j)):=funext fun g=>propext ⟨fun h=>((ho g j).1 h).2,fun h=>(ho g j).2 ⟨by omega,h⟩⟩
    refine⟨fun w' hw hs=>?_,fun o x hx=>?_⟩
    ·rw[e];exact hB.1 w' (fun g hg=>hw g ((ho g j).2 ⟨by omega,hg⟩)) hs
    ·obtain⟨v,h1,h2⟩:=hB.2 o x hx;exact⟨v,h1,Rep.same (C:=C) (C':=C0) ⟨fun g j hs=>⟨hs,rfl⟩⟩ x v (hl o x hx) h2⟩
   |row T l=>
    obtain⟨cs,rest,h1,h2,h3⟩:=hB;exact⟨cs,rest,h1,RepL.renR rR l cs hl h2,h3⟩
   |map l c=>
    obtain⟨es,h1,h2,h3⟩:=hB;exact⟨es,h1,RepEs.renR rR hl h2,h3⟩
   |gone=>trivial
  ·obtain⟨h1,h2⟩:=(ho g j).1 hg;obtain⟨_,h3,h4⟩:=hI.ownlt g _ h2;exact⟨h1,h3,h4⟩
  ·obtain⟨h1,h2,_⟩:=hI.prot g j hs;exact⟨h1,hon g h2,fun t E W m ht=>by simp[C0]at ht⟩
 refine(hc C0 cs I0 (RepL.renR rR args cs ha hr)).mono ?_;rintro e w' ⟨C1,h1,v0,cv,rfl,rfl,I1,S1,r1,q1⟩;obtain⟨qv,qb⟩:=hq _ _ q1;have hk1:k<=C1.nb:=S1.ext.nb;have hκ:∀j,j<k->C1.κ j=C.κ (σ j):=fun j hj=>(S1.ext.box j hj).1
 have hkp:∀j,j<k->C1.kap j=C.kap (σ j):=fun j hj=>(S1.ext.box j hj).2.1
 have hl1:∀j,j<k->C1.lab j=j:=fun j hj=>(S1.ext.box j hj).2.2
 have hsz:C.w.heap.size<=C1.w.heap.size:=S1.size;have hblk:∀g,g<C.w.heap.size->C0.own g=none->C1.w.heap[g]?=C.w.heap[g]?:=fun g hg hn=>S1.frame g hg hn fun t ht=>by simp[C0]at ht
 have ho1:∀g,g<C.w.heap.size->C1.own g=C0.own g:=S1.own;have hSprot:∀g j,C1.S g j->C.S g j\/C.w.heap.size<=g:=fun g j hs=>by
  rcases S1.prot g j hs with h2|h2|⟨t,h2,_⟩
  ·exact .inl h2
  ·exact .inr h2
  ·simp[C0]at h2
 let C2:Ctx:={ C with w:=C1.w,S:=C1.S,own:=fun g=>if g<C.w.heap.size then C.own g else match C1.own g with|some j=>if j<k then some (C.lab (σ j))else none|none=>none }
 have hE:Ext C C2:=by
  refine⟨fun g j hs=>S1.ext.cells g j hs,Ze _,fun _ _=>⟨rfl,rfl,rfl⟩,fun t E W m ht=>?_⟩;obtain⟨h0,_,cap,h2,_⟩:=hI.rows t E W m ht;exact⟨m,ht,.inr ⟨rfl,rfl,fun cap hc=>hc.same (hblk _ h2.lt (hon _ h0))⟩⟩
 have own2:∀g,g<C.w.heap.size->C2.own g=C.own g:=fun g hg=>if_pos hg
 have own2σ:∀g j,j<k->(C2.own g=some (C.lab (σ j))↔C1.own g=some j):=fun g j hj=>by
  by_cases hg:g<C.w.heap.size
  ·rw[own2 g hg,ho1 g hg,ho g j];exact⟨fun h=>⟨hj,h⟩,fun h=>h.2⟩
  ·show(if g<C.w.heap.size then C.own g else match C1.own g with|some j=>if j<k then some (C.lab (σ j))else none|none=>none)=_↔_
   rw[if_neg hg];cases e:C1.own g with
   |none=>simp
   |some j'=>
    simp only;split
    ·next hj'=>
     constructor
     ·intro h;injection h with h;rw[hL _ _ hj' hj h]
     ·intro h;injection h with h;rw[h]
    ·next hj'=>
     constructor
     ·intro h;cases h
     ·intro h;injection h with h;omega
 have own2n:∀g i,(∀j,j<k->C.lab (σ j)≠i)->(C2.own g=some i↔C.own g=some i):=fun g i hi=>by
  by_cases hg:g<C.w.heap.size
  ·rw[own2 g hg]
  ·show(if g<C.w.heap.size then C.own g else match C1.own g with|some j=>if j<k then some (C.lab (σ j))else none|none=>none)=_↔_
   rw[if_neg hg];constructor
   ·intro h;exfalso
    cases e:C1.own g with
    |none=>rw[e]at h;cases h
    |some j'=>
     rw[e]at h;simp only at h;split at h
     ·next hj'=>injection h with h;exact hi j' hj' h
     ·cases h
   ·intro h;exact absurd (hI.ownlt g i h).2.1 hg
 have hlen1:(h1.b.take k).length=k:=by rw[Zk,I1.nb];omega
 have rN:Ren C1 C2 σ k:=⟨fun g j hs=>⟨hs,rfl⟩,fun j hj=>⟨hσ j hj,(hκ j hj).symm,(hkp j hj).symm⟩⟩;have hset:∀m,m<k->∃b1,h1.b[m]?=some b1/\(setAll σ h.b 0 (h1.b.take k))[σ m]?=some (b1.ren σ):=fun m hm=>by
  have hm1:m<h1.b.length:=by rw[I1.nb];omega
  refine⟨h1.b[m],Zj hm1,?_⟩;have:=bxl σ (i:=0) (h1.b.take k) h.b 0 (fun m m' a b=>hinj m m' (by omega) (by omega)) (fun m a=>by rw[hI.nb];exact hσ m (by omega)) m (by omega);rw[Yj]at this;rw[this];simp
 refine⟨C2,⟨setAll σ h.b 0 (h1.b.take k),h.t⟩,v0.ren σ,cv,rfl,rfl,⟨by rw[avb];exact hI.nb,fun i b hib=>?_,⟨fun i b hib hl=>?_,fun i j b b' hib hjb hl hl' e=>?_⟩,fun g i hg=>?_,fun g j hs=>?_,fun t E W m ht=>?_,hI.inj,hI.toks,Zr hI.base hsz,fun w2 hw=>?_⟩,⟨hE,S1.os,S1.tape,S1.output,hsz,rfl,fun g hg hn ht=>hblk g hg (hon g hn),own2,fun g j hs=>?_,fun t ht=> .inr ⟨ht,rfl⟩⟩,Rep.ren rN v0 cv qv r1,v0,h1,q1,rfl,rfl⟩
 ·by_cases hi:∃j,j<k/\σ j=i
  ·obtain⟨j,hj,rfl⟩:=hi;obtain⟨b1,hb1,hb2⟩:=hset j hj;have hib':(setAll σ h.b 0 (h1.b.take k))[σ j]?=some b:=hib;rw[hb2]at hib';injection hib' with hib';subst hib';have hB:=I1.box j b1 hb1;have hl:=qb j b1 hj hb1;cases b1 with
   |cells T l=>
    obtain⟨cs,k1,k2⟩:=hB;refine⟨cs,?_,RepL.ren rN l cs hl k2⟩;rw[hκ j hj]at k1;exact k1
   |opq R vis=>
    have e:(fun g=>C2.own g=some (C2.lab (σ j)))=fun g=>C1.own g=some (C1.lab j):=by rw[hl1 j hj];exact funext fun g=>propext (own2σ g j hj)
    refine⟨fun w' hw hs=>?_,fun o x hx=>?_⟩
    ·rw[e];have:=hB.1 w' (fun g hg=>hw g (by rw[hl1 j hj]at hg;exact(own2σ g j hj).2 hg)) hs;rw[hκ j hj]at this;exact this
    ·obtain⟨v,k1,k2⟩:=hB.2 o x hx;rw[hκ j hj]at k1;exact⟨v,k1,Rep.same (C:=C1) (C':=C2) ⟨fun g j hs=>⟨hs,rfl⟩⟩ x v (hl o x hx) k2⟩
   |row T l=>
    obtain⟨cs,rest,k1,k2,k3⟩:=hB;refine⟨cs,rest,?_,RepL.ren rN l cs hl k2,by rw[hkp j hj]at k3;exact k3⟩;rw[hκ j hj]at k1;exact k1
   |map l c=>
    obtain⟨es,k1,k2,k3⟩:=hB;refine⟨es,?_,RepEs.ren rN hl k2,k3⟩;rw[hκ j hj]at k1;exact k1
   |gone=>trivial
  ·have hi':∀j,j<k->σ j≠i:=fun j hj e=>hi ⟨j,hj,e⟩
   have hib':(setAll σ h.b 0 (h1.b.take k))[i]?=some b:=hib;rw[aqr σ _ _ _ fun m _ hm=>hi' m (by omega)]at hib';have hilt:i<C.nb:=by rw[<-hI.nb];exact(Zb.1 hib').1
   have hne:b.live=true->∀j,j<k->C.lab (σ j)≠C.lab i:=fun hl j hj e=>hi' j hj (hI.ownk.2 _ _ _ _ (hh j (by omega)) hib' (hlv j (by omega)).2 hl e)
   refine(hI.box i b hib').ext hE hilt (fun hl=>⟨hI.ok hib' hl,fun g hg=>hblk g (hI.ownlt g _ hg).2.1 (bzd fun j hj e=>?_),fun g=>own2n g _ (hne hl)⟩) hsz;rw[hg]at e;injection e with e;exact hne hl j hj e.symm
 ·have hwas:∃b0,h.b[i]?=some b0/\b0.live=true:=by
   by_cases hi:∃j,j<k/\σ j=i
   ·obtain⟨j,hj,rfl⟩:=hi;exact⟨_,hh j (by omega),(hlv j (by omega)).2⟩
   ·have hib':(setAll σ h.b 0 (h1.b.take k))[i]?=some b:=hib;rw[aqr σ _ _ _ fun m _ hm e=>hi ⟨m,by omega,e⟩]at hib';exact⟨b,hib',hl⟩
  obtain⟨b0,hb0,hl0⟩:=hwas;have:=hI.ok hb0 hl0;exact(own2 _ (hI.ownlt _ _ this).2.1).trans this
 ·have hwas:∀(i:Nat) (b:Blk),(setAll σ h.b 0 (h1.b.take k))[i]?=some b->b.live=true->∃b0,h.b[i]?=some b0/\b0.live=true:=fun i b hib hl=>by
   by_cases hi:∃j,j<k/\σ j=i
   ·obtain⟨j,hj,rfl⟩:=hi;exact⟨_,hh j (by omega),(hlv j (by omega)).2⟩
   ·rw[aqr σ _ _ _ fun m _ hm e=>hi ⟨m,by omega,e⟩]at hib;exact⟨b,hib,hl⟩
  obtain⟨b0,hb0,hl0⟩:=hwas i b hib hl;obtain⟨b1,hb1,hl1⟩:=hwas j b' hjb hl';exact hI.ownk.2 i j b0 b1 hb0 hb1 hl0 hl1 e
 ·by_cases hg':g<C.w.heap.size
  ·rw[own2 g hg']at hg;obtain⟨k1,k2,k3⟩:=hI.ownlt g i hg;exact⟨k1,ZG k2 hsz,k3⟩
  ·have hg2:(if g<C.w.heap.size then C.own g else match C1.own g with|some j=>if j<k then some (C.lab (σ j))else none|none=>none)=some i:=hg;rw[if_neg hg']at hg2;cases e:C1.own g with
   |none=>rw[e]at hg2;cases hg2
   |some j'=>
    rw[e]at hg2;simp only at hg2;split at hg2
    ·next hj'=>
     injection hg2 with hg2;subst hg2;obtain⟨_,k2,k3⟩:=I1.ownlt g j' e;exact⟨(hI.ownlt _ _ (hok j' hj')).1,k2,by rw[S1.base]at k3;exact k3⟩
    ·cases hg2
 ·have hlt:=(I1.prot g j hs).1;have hn1:=(I1.prot g j hs).2.1;rcases hSprot g j hs with h2|h2
  ·obtain⟨k1,k2,k3⟩:=hI.prot g j h2;exact⟨hlt,by rw[own2 g k1];exact k2,k3⟩
  ·refine⟨hlt,?_,fun t E W m ht e=>?_⟩
   ·show(if g<C.w.heap.size then C.own g else match C1.own g with|some j=>if j<k then some (C.lab (σ j))else none|none=>none)=none
    rw[if_neg (by omega),hn1]
   ·obtain⟨_,_,cap,k1,_⟩:=hI.rows t E W m ht;have:=k1.lt;have e':C.τ t=g:=e;omega
 ·obtain⟨k1,k2,cap,k3,k4⟩:=hI.rows t E W m ht;refine⟨?_,k2,cap,k3.same (hblk _ k3.lt (hon _ k1)),k4⟩;rw[own2 _ k3.lt];exact k1
 ·refine I1.glob w2 fun g hg=>hw g ?_
  rw[S1.base]at hg;exact hg
 ·rcases hSprot g j hs with h2|h2
  ·exact .inl h2
  ·exact .inr (.inl h2)
mutual
theorem A.loc0(k:Nat):∀x:A,x.loc 0=true->x.loc k=true/\∀σ,x.ren σ=x
 |.int _ n,h=>⟨rfl,fun σ=>by unfold A.ren;rfl⟩
 |.str l,h=>⟨rfl,fun σ=>by unfold A.ren;rfl⟩
 |.bool b,h=>⟨rfl,fun σ=>by unfold A.ren;rfl⟩
 |.sl W .no rows,h=>⟨rfl,fun σ=>by unfold A.ren;rfl⟩
 |.sl W .nil rows,h=>⟨rfl,fun σ=>by unfold A.ren;rfl⟩
 |.sl W .emp rows,h=>⟨rfl,fun σ=>by unfold A.ren;rfl⟩
 |.sl W (.tok t) rows,h=>by simp[A.loc]at h
 |.ptr i o,h=>by simp[A.loc]at h
 |.mp i,h=>by simp[A.loc]at h
 |.bs i W n,h=>by simp[A.loc]at h
 |.nilm,h=>⟨rfl,fun σ=>by unfold A.ren;rfl⟩
 |.vptr l,h=>⟨rfl,fun σ=>by unfold A.ren;rfl⟩
 |.nilp,h=>⟨rfl,fun σ=>by unfold A.ren;rfl⟩
 |.nili,h=>⟨rfl,fun σ=>by unfold A.ren;rfl⟩
 |.nilf,h=>⟨rfl,fun σ=>by unfold A.ren;rfl⟩
 |.fn f caps,h=>by
  unfold A.loc at h;obtain⟨k1,k2⟩:=A.locL0 k caps h;exact⟨by unfold A.loc;exact k1,fun σ=>by unfold A.ren;rw[k2]⟩
 |.agg l,h=>by
  unfold A.loc at h;obtain⟨k1,k2⟩:=A.locL0 k l h;exact⟨by unfold A.loc;exact k1,fun σ=>by unfold A.ren;rw[k2]⟩
 |.tup l,h=>by
  unfold A.loc at h;obtain⟨k1,k2⟩:=A.locL0 k l h;exact⟨by unfold A.loc;exact k1,fun σ=>by unfold A.ren;rw[k2]⟩
theorem A.locL0(k:Nat):∀l:List A,A.locL 0 l=true->A.locL k l=true/\∀σ,A.renL σ l=l
 |[],h=>⟨rfl,fun σ=>by unfold A.renL;rfl⟩
 |x::l,h=>by
  unfold A.locL at h;rw[Zg]at h;obtain⟨k1,k2⟩:=A.loc0 k x h.1;obtain⟨k3,k4⟩:=A.locL0 k l h.2;exact⟨by unfold A.locL;rw[k1,k3];rfl,fun σ=>by unfold A.renL;rw[k2,k4]⟩
end
theorem Blk.loc0(k:Nat)(b:Blk)(h:b.loc 0):b.loc k/\∀σ,b.ren σ=b:=by
 cases b with
 |cells T l=>
  have h':A.locL 0 l=true:=h;obtain⟨k1,k2⟩:=A.locL0 k l h';exact⟨k1,fun σ=>by show Blk.cells T (A.renL σ l)=_;rw[k2]⟩
 |opq R vis=>exact⟨h,fun σ=>rfl⟩
 |gone=>exact h.elim
 |row T l=>
  have h':A.locL 0 l=true:=h;obtain⟨k1,k2⟩:=A.locL0 k l h';exact⟨k1,fun σ=>by show Blk.row T (A.renL σ l)=_;rw[k2]⟩
 |map l c=>
  have h':(l.all fun e=>e.2.loc 0)=true:=h;rw[ZD]at h';refine⟨by show(l.all fun e=>e.2.loc k)=true;rw[ZD];exact fun e he=>(A.loc0 k e.2 (h' e he)).1,fun σ=>?_⟩;show Blk.map (l.map fun e=>(e.1,e.2.ren σ)) c=_
  have e:(l.map fun e=>(e.1,e.2.ren σ))=l:=by
   conv=>rhs;rw[<-List.map_id l]
   exact List.map_congr_left fun e he=>by rw[(A.loc0 k e.2 (h' e he)).2];rfl
  rw[e]
theorem ACall.lift1{P:Program}{G:World->Prop}{f:FuncId}{args:List A}{b:Blk}{Q0:A->Blk->Prop}(hc:ACall P G f (.ptr 0 0::args) ⟨[b],[]⟩ fun v h'=>∃b',h'.b[0]?=some b'/\Q0 v b')
  (ha:A.locL 0 args=true) (hb:b.loc 0) (hq:∀v b',Q0 v b'->v.loc 0=true/\b'.loc 0) {h:Hp} {i:Nat} (hh:h.b[i]?=some b):
  ACall P G f (.ptr i 0::args) h fun v h'=>∃b',Q0 v b'/\h'=⟨h.b.set i b',h.t⟩:=by
 have key:=ACall.lift hc (fun _=>i) (fun a b ha hb _=>by simp at ha hb;omega) (by unfold A.locL;rw[(A.locL0 _ args ha).1];rfl) (fun x hx=>by simp at hx;subst hx;exact(Blk.loc0 _ _ hb).1)
  (fun v h' ⟨b',h1,h2⟩=>⟨(A.loc0 _ v (hq v b' h2).1).1,fun j x hj hx=>by
   have:j=0:=by simpa using hj
   subst this;rw[h1]at hx;injection hx with hx;subst hx
   exact(Blk.loc0 _ _ (hq v b' h2).2).1⟩) (h:=h) (fun j hj=>by
   have:j=0:=by simpa using hj
   subst this
   rw[hh];show some b=some (b.ren _);rw[(Blk.loc0 0 _ hb).2])
 have e:A.renL (fun _=>i) (.ptr 0 0::args)=.ptr i 0::args:=by unfold A.renL;rw[(A.locL0 0 args ha).2];rfl
 rw[e]at key;refine key.mono ?_;rintro v h' ⟨v0,h0,⟨b',h1,h2⟩,rfl,rfl⟩;obtain⟨k1,k2⟩:=hq v0 b' h2;refine⟨b',by rw[(A.loc0 0 v0 k1).2];exact h2,?_⟩;have:h0.b.take [b].length=[b']:=by
  obtain⟨_|⟨x,l⟩,t0⟩:=h0
  ·simp at h1
  ·simp at h1;subst h1;simp
 rw[this];show(⟨setAll _ h.b 0 [b'],h.t⟩:Hp)=_
 unfold setAll setAll;rw[(Blk.loc0 0 _ k2).2]
end AX
end
end Go.Proofs.YthhpocnmfknalaaGreatDoor
