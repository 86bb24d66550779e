/- Part of what the proof needs. -/
import Derived.Test.YthhpocnmfknalaaGreatDoorMFrWorkspaceCallsE
set_option maxHeartbeats 4000000
set_option maxRecDepth 100000
set_option linter.all false
namespace Go.Proofs.YthhpocnmfknalaaGreatDoor
section
open Go.RowKit
namespace AX
theorem av4{l:List Blk}(x y:Blk):(l++[x]++[y])[l.length]?=some x:=by
 rw[ZF (by simp)];exact Zt
theorem akg{l:List Blk}(x y:Blk):(l++[x]++[y])[l.length+1]?=some y:=by
 have h:(l++[x]).length=l.length+1:=by simp
 rw[<-h];exact Zt
theorem ajt{l:List Blk}(x z:Blk):(l++[x]).set l.length z=l++[z]:=by
 rw[List.set_append_right _ _ (Ze _)];simp
theorem av8{l:List Blk}(x y z:Blk):(l++[x]++[y]).set l.length z=l++[z]++[y]:=by
 rw[List.set_append_left _ _ (by simp),ajt]
theorem av6{l:List Blk}(x y z:Blk):(l++[x]++[y]).set (l.length+1) z=l++[x]++[z]:=by
 have h:(l++[x]).length=l.length+1:=by simp
 rw[<-h,ajt]
theorem awv{l:List Blk}(x y z:Blk):(l++[x]++[y]++[z])[l.length]?=some x:=by
 rw[ZF (by simp)];exact av4 x y
theorem ayc{l:List Blk}(x y z:Blk):(l++[x]++[y]++[z])[l.length+1]?=some y:=by
 rw[ZF (by simp)];exact akg x y
theorem awl{l:List Blk}(x y z:Blk):(l++[x]++[y]++[z])[l.length+1+1]?=some z:=by
 have h:(l++[x]++[y]).length=l.length+1+1:=by simp
 rw[<-h];exact Zt
theorem awc{l:List Blk}(x y z w:Blk):(l++[x]++[y]++[z]).set l.length w=l++[w]++[y]++[z]:=by
 rw[List.set_append_left _ _ (by simp),av8]
theorem ayf{l:List Blk}(x y z w:Blk):(l++[x]++[y]++[z]).set (l.length+1) w=l++[x]++[w]++[z]:=by
 rw[List.set_append_left _ _ (by simp),av6]
theorem aws{l:List Blk}(x y z w:Blk):(l++[x]++[y]++[z]).set (l.length+1+1) w=l++[x]++[y]++[w]:=by
 have h:(l++[x]++[y]).length=l.length+1+1:=by simp
 rw[<-h,ajt]
def actB(m:Nat):AOp->Bool
 |.alloc ..=>true
 |.box ..=>true
 |.store ..=>true
 |.app ..=>true
 |.apb ..=>true
 |.mkmap=>true
 |.mkr ..=>true
 |.mkc ..=>true
 |.mkl ..=>true
 |.mset ..=>true
 |.mdel ..=>true
 |.mclr ..=>true
 |.call ..=>m !=2
 |.callv ..=>m !=2
 |_=>m==0
def hdepB:AOp->Bool
 |.alloc ..=>true
 |.box ..=>true
 |.store ..=>true
 |.load ..=>true
 |.app ..=>true
 |.apb ..=>true
 |.mkmap=>true
 |.mkr ..=>true
 |.mkc ..=>true
 |.mkl ..=>true
 |.mget ..=>true
 |.mset ..=>true
 |.mdel ..=>true
 |.mclr ..=>true
 |.mlen ..=>true
 |.call ..=>true
 |.callv ..=>true
 |_=>false
def loadB:AOp->Bool
 |.load ..=>true
 |_=>false
def forH(p:Hp->Prop):List Hp->Prop
 |[]=>True
 |h::l=>p h/\forH p l
def quietAt(P:Program)(G:World->Prop)(ts:Ts)(o:AOper)(v:A)(h:Hp):Prop:=
 guardP ts o.guard (aopP P G (evX ts) h (fun v' h''=>v'=v/\h''=h) o.op) (v=.tup [])
theorem cxc{P:Program}{G:World->Prop}{ts:Ts}{o:AOper}{v:A}{h:Hp}(q:quietAt P G ts o v h):guardP ts o.guard (aopP P G (evX ts) h (fun v' h''=>v'=v/\h''=h) o.op) (v=.tup []/\h=h):=azr (fun hq=>hq) (fun hq=>⟨hq,rfl⟩) q
def memN(j:Nat):List Nat->Bool
 |[]=>false
 |x::l=>x==j||memN j l
abbrev Obs:=List (Nat×(Hp->Prop))
def obsP(af:List Nat):Obs->Hp->Prop
 |[],_=>True
 |(j,p)::l,h=>(memN j af=true\/p h)/\obsP af l h
def obsD(af:List Nat):Obs->Obs
 |[]=>[]
 |(j,p)::l=>if memN j af=true then obsD af l else(j,p)::obsD af l
def aseq(P:Program)(G:World->Prop)(m:Nat):Nat->List Bool->List AOper->List Hp->Obs->(Ts->Hp->Prop)->Ts->Hp->Prop
 |_,_,[],_,_,K,ts,h=>K ts h
 |i,fl,o::os,past,obs,K,ts,h=>∃v h',guardP ts o.guard (aopP P G (evX ts) h (fun v' h''=>v'=v/\h''=h') o.op) (v=.tup []/\h'=h)/\(actB m o.op=true\/h'=h) /\
   (if actB m o.op=true then obsP o.after obs h'/\aseq P G m (i+1) fl.tail os (h::past) (obsD o.after obs) K (put ts o.dst v) h'
    else if fl.headD false=true then forH (quietAt P G ts o v) past/\aseq P G m (i+1) fl.tail os past ((i,quietAt P G ts o v)::obs) K (put ts o.dst v) h'
    else aseq P G m (i+1) fl.tail os past obs K (put ts o.dst v) h')
def actsF(m:Nat):Nat->List AOper->List Nat
 |_,[]=>[]
 |b,o::os=>if actB m o.op=true then b::actsF m (b+1) os else actsF m (b+1) os
def hiF(m i:Nat):List AOper->Nat->Nat
 |[],c=>c
 |o::os,c=>if actB m o.op=true then(if memN i o.after=true then c else hiF m i os (c+1))else hiF m i os c
def stgs(m n:Nat):Nat->List Bool->Nat->List AOper->List (List Nat)
 |_,_,_,[]=>[]
 |i,fl,c,o::os=>(if actB m o.op then[c]else if fl.headD false then List.range (hiF m i os c+1)else if hdepB o.op then[c]else List.range (n+1))::stgs m n (i+1) fl.tail (if actB m o.op=true then c+1 else c) os
def flagsF(m:Nat)(all:List AOper)(acts:List Nat):Nat->List AOper->List Bool
 |_,[]=>[]
 |i,o::os=>(loadB o.op&&!actB m o.op&&(List.range (acts.length+1)).any fun k=>stageB all acts i k&&k !=(acts.filter fun a=>decide (a<i)).length)::flagsF m all acts (i+1) os
section
variable {P:Program} {G:World->Prop} {m:Nat}
theorem bq5:∀(os:List AOper) (b x:Nat),x∈actsF m b os->b<=x
 |[],b,x,h=>by simp[actsF]at h
 |o::os,b,x,h=>by
  unfold actsF at h;split at h
  ·rcases ZL.1 h with rfl|h
   ·exact Ze _
   ·have:=bq5 os (b+1) x h;omega
  ·have:=bq5 os (b+1) x h;omega
theorem byv{ev:Opd->A}{h h2:Hp}{o:AOp}(hd:hdepB o=false):astep ev h2 o=(astep ev h o).map fun r=>(r.1,h2):=by
 cases o<;>simp only[hdepB,Bool.true_eq_false,reduceCtorEq]at hd<;>simp only[astep]<;>(try rfl)<;>(try simp only[Option.map_map])<;>(try rfl)<;>(repeat' split)<;>(try rfl)<;>(try simp only[Option.map_map])<;>(try rfl)<;>simp_all
theorem bvt{p:Nat->Prop}:∀{ks:List Nat},(∀k∈ks,p k)->forL p ks
 |[],_=>trivial
 |a::ks,h=>⟨h a (by simp),bvt fun k hk=>h k (by simp[hk])⟩
theorem bwf{p:Hp->Prop}:∀{l:List Hp},forH p l->∀x∈l,p x
 |[],_,x,hx=>by simp at hx
 |a::l,h,x,hx=>by
  rcases ZL.1 hx with rfl|hx
  ·exact h.1
  ·exact bwf h.2 x hx
theorem getD_at(l:List Hp)(x:Hp)(r:List Hp)(n:Nat)(hn:n=l.length):(l++x::r).getD n ⟨[],[]⟩=x:=by
 subst hn;rw[Yf,List.getElem?_append_right (Ze _)];simp
theorem avj{K:Ts->Hp->Prop}:∀(os:List AOper) (i:Nat) (fl:List Bool) (past:List Hp) (obs:Obs) (ts:Ts) (h:Hp),aseq P G m i fl os past obs K ts h->aops P G os K ts h
 |[],i,fl,past,obs,ts,h,hp=>hp
 |o::os,i,fl,past,obs,ts,h,hp=>by
  obtain⟨v,h',h1,h2,h3⟩:=hp;have ih:aops P G os K (put ts o.dst v) h':=by
   split at h3
   ·exact avj os _ _ _ _ _ _ h3.2
   ·split at h3
    ·exact avj os _ _ _ _ _ _ h3.2
    ·exact avj os _ _ _ _ _ _ h3
  show guardP ts o.guard _ _
  refine azr (fun hq=>axl ?_ hq) ?_ h1
  ·rintro v' h'' ⟨rfl,rfl⟩;exact ih
  ·rintro⟨rfl,rfl⟩;exact ih
theorem cjj{m i:Nat}:∀(os:List AOper) (c:Nat),c<=hiF m i os c/\hiF m i os c<=c+(actsF m 0 os).length
 |[],c=>⟨Ze _,Nat.le_add_right _ _⟩
 |o::os,c=>by
  have hlen:∀(os:List AOper) (a b:Nat),(actsF m a os).length=(actsF m b os).length:=by
   intro os;induction os with
   |nil=>intro a b;rfl
   |cons o os ih=>intro a b;unfold actsF;split<;>simp[ih (a+1) (b+1)]
  unfold hiF actsF;split
  ·next ha=>
   split
   ·exact⟨Ze _,Nat.le_add_right _ _⟩
   ·have:=cjj (m:=m) (i:=i) os (c+1);rw[Zf,hlen os (0+1) 0];omega
  ·have:=cjj (m:=m) (i:=i) os c;rw[hlen os (0+1) 0];exact this
theorem bje{m:Nat}:∀(os:List AOper) (a b:Nat),(actsF m a os).length=(actsF m b os).length
 |[],a,b=>rfl
 |o::os,a,b=>by unfold actsF;split<;>simp[bje os (a+1) (b+1)]
def ObsOk(m:Nat)(os:List AOper)(c:Nat)(obs:Obs)(hs:List Hp):Prop:=∀x∈obs,∀k,c+k<hiF m x.1 os c->∀y,hs[k]?=some y->x.2 y
theorem ako{af:List Nat}{h:Hp}:∀{obs:Obs},obsP af obs h->∀x∈obs,memN x.1 af=true\/x.2 h
 |[],_,x,hx=>by simp at hx
 |(j,p)::l,hp,x,hx=>by
  rcases ZL.1 hx with rfl|hx
  ·exact hp.1
  ·exact ako hp.2 x hx
theorem avh{af:List Nat}:∀{obs:Obs},∀x∈obs,memN x.1 af=false->x∈obsD af obs
 |[],x,hx,_=>by simp at hx
 |(j,p)::l,x,hx,hm=>by
  unfold obsD;rcases ZL.1 hx with rfl|hx
  ·rw[if_neg (by simp[hm])];exact Yq
  ·split
   ·exact avh x hx hm
   ·exact ZV _ (avh x hx hm)
theorem ajj{acts:List Nat}{n:Nat}{K:Ts->Hp->Prop}:∀(os:List AOper) (fl:List Bool) (b:Nat) (done:List Nat) (obs:Obs) (ts:Ts) (h:Hp) (past:List Hp),acts=done++actsF m b os->(∀x∈done,x<b)->past.length=done.length->n=acts.length ->
  aseq P G m b fl os past obs K ts h->∃hs:List Hp,hs.length=(actsF m b os).length/\ObsOk m os done.length obs hs/\achain P G acts (past.reverse++h::hs) b os (stgs m n b fl done.length os) (fun ts=>K ts ((past.reverse++h::hs).getD acts.length ⟨[],[]⟩)) ts
 |[],fl,b,done,obs,ts,h,past,ha,hd,hl,hn,hp=>by
  refine⟨[],by simp[actsF],fun x hx k hk y hy=>by simp at hy,?_⟩;show K ts _
  have e:acts.length=past.reverse.length:=by rw[ha];simp[actsF,hl]
  rw[getD_at _ _ _ _ e];exact hp
 |o::os,fl,b,done,obs,ts,h,past,ha,hd,hl,hn,hp=>by
  obtain⟨v,h',h1,h2,h3⟩:=hp;have hpl:done.length=past.reverse.length:=by simp[hl]
  cases hact:actB m o.op with
  |true=>
   rw[if_pos hact]at h3;have ha':acts=(done++[b])++actsF m (b+1) os:=by rw[ha,actsF,if_pos hact];simp
   obtain⟨hs,k1,k0,k2⟩:=ajj os fl.tail (b+1) (done++[b]) _ _ h' (h::past) ha' (fun x hx=>by
    rcases Yk.1 hx with hx|hx
    ·have:=hd x hx;omega
    ·simp at hx;omega) (by simp[hl]) hn h3.2
   have e4:(h::past).reverse++h'::hs=past.reverse++h::h'::hs:=by simp
   rw[e4]at k2;refine⟨h'::hs,by rw[actsF,if_pos hact];simp[k1],fun x hx k hk y hy=>?_,v,?_,?_⟩
   ·unfold hiF at hk;rw[if_pos hact]at hk;split at hk
    ·omega
    ·next hm=>
     cases k with
     |zero=>
      simp at hy;subst hy;rcases ako h3.1 x hx with h5|h5
      ·exact absurd h5 hm
      ·exact h5
     |succ k=>
      simp at hy;refine k0 x (avh x hx (by simpa using hm)) k ?_ y hy;rw[show(done++[b]).length=done.length+1 by simp];omega
   ·unfold stgs;rw[hact];simp only[if_true,List.headD_cons];refine⟨?_,trivial⟩;have e1:(past.reverse++h::h'::hs).getD done.length ⟨[],[]⟩=h:=getD_at _ _ _ _ hpl;have e2:(past.reverse++h::h'::hs).getD (done.length+1) ⟨[],[]⟩=h':=by
     have:=getD_at (past.reverse++[h]) h' hs (done.length+1) (by simp[hl]);simpa using this
    have e3:acts[done.length]?=some b:=by rw[ha'];simp
    dsimp only;rw[e1,if_pos e3,e2];exact azr (fun hq=>hq) (fun hq=>hq) h1
   ·unfold stgs;rw[Zaq,hact,if_pos rfl];simpa using k2
  |false=>
   rw[if_neg (by simp[hact])]at h3;have hh:h'=h:=by
    rcases h2 with h2|h2
    ·rw[hact]at h2;cases h2
    ·exact h2
   subst hh;have ha':acts=done++actsF m (b+1) os:=by rw[ha,actsF,if_neg (by simp[hact])]
   have hnk:∀k,acts[k]?≠some b:=fun k hk=>by
    have hm:=List.mem_of_getElem? hk;rw[ha']at hm;rcases Yk.1 hm with hm|hm
    ·have:=hd b hm;omega
    ·have:=bq5 _ _ _ hm;omega
   have hq0:quietAt P G ts o v h':=azr (fun hq=>hq) (fun hq=>hq.1) h1;have hd':∀x∈done,x<b+1:=fun x hx=>by have:=hd x hx;omega
   have hhi:∀i c,hiF m i (o::os) c=hiF m i os c:=fun i c=>by
    show(if actB m o.op=true then _ else _)=_
    rw[if_neg (by simp[hact])]
   cases hfl:fl.headD false with
   |true=>
    rw[if_pos hfl]at h3;obtain⟨hs,k1,k0,k2⟩:=ajj os fl.tail (b+1) done _ _ h' past ha' hd' hl hn h3.2;refine⟨hs,by rw[actsF,if_neg (by simp[hact])];exact k1,fun x hx k hk y hy=>k0 x (ZV _ hx) k (by rw[hhi]at hk;exact hk) y hy,v,?_,?_⟩
    ·unfold stgs;rw[hact,hfl];simp only[Zn,if_false,if_true,List.headD_cons];refine bvt fun k hk=>?_
     rw[if_neg (hnk _)];have hk':k<hiF m b os done.length+1:=by simpa using hk
     have hge:=cjj (m:=m) (i:=b) os done.length;refine cxc ?_;show quietAt P G ts o v ((past.reverse++h'::hs).getD k ⟨[],[]⟩)
     rw[Yf];by_cases h4:k<past.reverse.length
     ·rw[ZF h4,Zj h4,Yb];exact bwf h3.1 _ (by simpa using Zl h4)
     ·rw[List.getElem?_append_right (by omega)];by_cases h5:k=past.reverse.length
      ·subst h5;simp;exact hq0
      ·obtain⟨q,hq⟩:∃q,k-past.reverse.length=q+1:=⟨k-past.reverse.length-1,by omega⟩;rw[hq,ZR];have hql:q<hs.length:=by rw[k1,bje os (b+1) 0];omega
       rw[Zj hql,Yb];exact k0 _ Yq q (by show done.length+q<hiF m b os done.length;omega) _ (Zj hql)
    ·unfold stgs;rw[Zaq,hact,if_neg (by simp)];exact k2
   |false=>
    rw[if_neg (by simp only[hfl];simp)]at h3;obtain⟨hs,k1,k0,k2⟩:=ajj os fl.tail (b+1) done _ _ h' past ha' hd' hl hn h3;refine⟨hs,by rw[actsF,if_neg (by simp[hact])];exact k1,fun x hx k hk y hy=>k0 x hx k (by rw[hhi]at hk;exact hk) y hy,v,?_,?_⟩
    ·unfold stgs;rw[hact,hfl];simp only[Zn,if_false,List.headD_cons];have e1:(past.reverse++h'::hs).getD done.length ⟨[],[]⟩=h':=getD_at _ _ _ _ hpl;cases hdp:hdepB o.op with
     |true=>
      simp only[if_true];refine⟨?_,trivial⟩;dsimp only;rw[if_neg (hnk _),e1];exact cxc hq0
     |false=>
      simp only[Zn,if_false];refine bvt fun k _=>?_
      rw[if_neg (hnk _)];refine azr (fun hq=>?_) (fun hq=>⟨hq.1,rfl⟩) h1;generalize (past.reverse++h'::hs).getD k ⟨[],[]⟩=h2;have hfree:=byv (ev:=evX ts) (h:=h') (h2:=h2) hdp;cases hop:o.op with
      |call=>rw[hop]at hdp;simp[hdepB]at hdp
      |callv=>rw[hop]at hdp;simp[hdepB]at hdp
      |_=>
       rw[hop]at hq hfree;simp only[aopP]at hq⊢;rw[hfree];generalize astep (evX ts) h' _=r at hq;cases r with
       |none=>exact hq
       |some r=>exact⟨hq.1,rfl⟩
    ·unfold stgs;rw[Zaq,hact,if_neg (by simp)];exact k2
def closeF:List (List Nat)->List AOper->List AOper
 |_,[]=>[]
 |acc,o::os=>⟨o.dst,o.op,o.guard,(o.after++o.after.flatMap fun j=>acc.getD j []).eraseDups⟩::closeF (acc++[(o.after++o.after.flatMap fun j=>acc.getD j []).eraseDups]) os
def closeOps(ops:List AOper):List AOper:=closeF [] ops
theorem ave:∀(os:List AOper) (acc:List (List Nat)),(closeF acc os).length=os.length
 |[],acc=>rfl
 |o::os,acc=>by simp[closeF,ave os]
theorem bzo:∀(os:List AOper) (acc:List (List Nat)),(closeF acc os).map (·.dst)=os.map (·.dst)
 |[],acc=>rfl
 |o::os,acc=>by simp[closeF,bzo os]
theorem awx(all:List AOper):∀(os:List AOper) (acc:List (List Nat)) (pre:List AOper),all=pre++os->acc.length=pre.length->(∀(j:Nat) r,acc[j]?=some r->∀D,Closed all D->D j=true->∀x∈r,D x=true) ->
  ∀(i:Nat) o',(closeF acc os)[i]?=some o'->∃o,os[i]?=some o/\o'.op=o.op/\o'.guard=o.guard/\(∀x∈o.after,x∈o'.after)/\∀D,Closed all D->(∀j∈o.after,D j=true)->∀j∈o'.after,D j=true
 |[],acc,pre,ha,hl,hacc,i,o',hi=>by simp[closeF]at hi
 |o::os,acc,pre,ha,hl,hacc,i,o',hi=>by
  have key:∀D,Closed all D->(∀j∈o.after,D j=true)->∀j∈(o.after++o.after.flatMap fun j=>acc.getD j []).eraseDups,D j=true:=by
   intro D hD haf j hj;rw[List.mem_eraseDups,Yk,List.mem_flatMap]at hj;rcases hj with hj|⟨x,hx,hj⟩
   ·exact haf j hj
   ·cases hq:acc[x]? with
    |none=>rw[Yf,hq]at hj;simp at hj
    |some r=>rw[Yf,hq]at hj;exact hacc x r hq D hD (haf x hx) j hj
  cases i with
  |zero=>
   simp[closeF]at hi;subst hi;exact⟨o,rfl,rfl,rfl,fun x hx=>List.mem_eraseDups.2 (List.mem_append_left _ hx),key⟩
  |succ i=>
   simp only[closeF,ZR]at hi
   obtain⟨o2,h1,h2⟩:=awx all os _ (pre++[o]) (by rw[ha];simp) (by simp[hl]) (fun j r hj D hD hDj x hx=>by
    by_cases hlt:j<acc.length
    ·rw[ZF hlt]at hj;exact hacc j r hj D hD hDj x hx
    ·have hje:j=acc.length:=by
      have:=(Zb.1 hj).1;simp at this;omega
     subst hje;rw[Zt]at hj;injection hj with hj;subst hj;have ho:all[acc.length]?=some o:=by rw[ha,hl];simp
     exact key D hD (hD _ _ ho hDj) x hx) i o' hi
   exact⟨o2,by simpa using h1,h2⟩
theorem awj{ops:List AOper}{K:Ts->Hp->Prop}{ts:Ts}{h:Hp}(hp:adraw P G (closeOps ops) K ts h):adraw P G ops K ts h:=by
 obtain⟨I,h1,h2,h3⟩:=hp;have hl:(closeOps ops).length=ops.length:=ave ops [];have spec:=awx ops ops [] [] rfl rfl (fun j r hj=>by simp at hj);refine⟨I,h1,fun D i o ts h hI hi hDi hcl haf=>?_,fun ts h hI=>h3 ts h (by rw[hl];exact hI)⟩;have hi':i<(closeOps ops).length:=by rw[hl];exact(Zb.1 hi).1
 have ho':=Zj hi';obtain⟨o2,k1,k2,k3,k4,k5⟩:=spec i _ ho';rw[hi]at k1;injection k1 with k1;subst k1
 have hd:(closeOps ops)[i].dst=o.dst:=by
  have h4:=congrArg (fun l:List (Option Nat)=>l[i]?) (show(closeOps ops).map (·.dst)=ops.map (·.dst)from bzo ops []);simp only[List.getElem?_map,hi,ho',ZY]at h4;exact Zap h4
 have:=h2 D i _ ts h hI ho' hDi (fun j oj hj hDj x hx=>by
  obtain⟨o3,m1,m2,m3,m4,m5⟩:=spec j oj hj
  exact m5 D hcl (hcl j o3 m1 hDj) x hx) (k5 D hcl haf)
 rw[k2,k3,hd]at this;exact this
theorem cj7{af af':List Nat}{h:Hp}(ha:∀j,memN j af=true->memN j af'=true){obs obs':Obs}(hs:∀x∈obs',x∈obs)(hp:obsP af obs h):obsP af' obs' h:=by
 induction obs' with
 |nil=>trivial
 |cons x l ih=>
  obtain⟨j,p⟩:=x;refine⟨?_,ih fun y hy=>hs y (ZV _ hy)⟩;rcases ako hp _ (hs (j,p) Yq)with h1|h1
  ·exact .inl (ha j h1)
  ·exact .inr h1
theorem bqo{af af':List Nat}(ha:∀j,memN j af=true->memN j af'=true):∀{obs obs':Obs},(∀x∈obs',x∈obs)->∀x∈obsD af' obs',x∈obsD af obs
 |obs,[],hs,x,hx=>by simp[obsD]at hx
 |obs,(j,p)::l,hs,x,hx=>by
  unfold obsD at hx;split at hx
  ·exact bqo ha (fun y hy=>hs y (ZV _ hy)) x hx
  ·next hm=>
   rcases ZL.1 hx with rfl|hx
   ·refine avh _ (hs _ Yq) ?_;rw[YR];exact fun e=>hm (ha j e)
   ·exact bqo ha (fun y hy=>hs y (ZV _ hy)) x hx
theorem cwg{j:Nat}:∀{l:List Nat},memN j l=true↔j∈l
 |[]=>by simp[memN]
 |x::l=>by
  unfold memN;rw[ZZ,cwg (l:=l),ZT,ZL];exact or_congr eq_comm Iff.rfl
theorem ajp:∀(os:List AOper) (acc:List (List Nat)) (i:Nat) (fl:List Bool) (past:List Hp) (obs obs':Obs) (K:Ts->Hp->Prop) (ts:Ts) (h:Hp),(∀x∈obs',x∈obs)->aseq P G m i fl os past obs K ts h->aseq P G m i fl (closeF acc os) past obs' K ts h
 |[],acc,i,fl,past,obs,obs',K,ts,h,hs,hp=>hp
 |o::os,acc,i,fl,past,obs,obs',K,ts,h,hs,hp=>by
  obtain⟨v,h',h1,h2,h3⟩:=hp;refine⟨v,h',h1,h2,?_⟩;have eq:quietAt P G ts ⟨o.dst,o.op,o.guard,(o.after++o.after.flatMap fun j=>acc.getD j []).eraseDups⟩ v=quietAt P G ts o v:=rfl;rw[eq];have haf:∀j,memN j o.after=true->memN j (o.after++o.after.flatMap fun j=>acc.getD j []).eraseDups=true:=fun j hj=>cwg.2 (List.mem_eraseDups.2 (List.mem_append_left _ (cwg.1 hj)))
  dsimp only;split at h3
  ·next e=>rw[if_pos e];exact⟨cj7 haf hs h3.1,ajp os _ _ _ _ _ _ _ _ _ (bqo haf hs) h3.2⟩
  ·next e=>
   rw[if_neg e];split at h3
   ·next e2=>
    rw[if_pos e2];refine⟨h3.1,ajp os _ _ _ _ _ _ _ _ _ (fun x hx=>?_) h3.2⟩;rcases ZL.1 hx with rfl|hx
    ·exact Yq
    ·exact ZV _ (hs x hx)
   ·next e2=>rw[if_neg e2];exact ajp os _ _ _ _ _ _ _ _ _ hs h3
def flagsOf(m:Nat)(ops:List AOper):List Bool:=flagsF m (closeOps ops) (actsF m 0 (closeOps ops)) 0 (closeOps ops)
def cy0(m:Nat)(ops:List AOper)(fl:List Bool):Bool:=
 edgesB 0 ops&&seesB ops&&chainG ops (actsF m 0 ops)&&stagesB ops (actsF m 0 ops) (stgs m (actsF m 0 ops).length 0 fl 0 ops)
def seqB(m:Nat)(ops:List AOper):Bool:=edgesB 0 ops&&cy0 m (closeOps ops) (flagsOf m ops)
theorem cqu{ops:List AOper}{K:Ts->Hp->Prop}{ts:Ts}{h:Hp}(m:Nat)(fl:List Bool)(hb:cy0 m ops fl=true)(hp:aseq P G m 0 fl ops [] [] K ts h):adraw P G ops K ts h:=by
 obtain⟨hs,h1,_,h2⟩:=ajj (acts:=actsF m 0 ops) (n:=(actsF m 0 ops).length) ops fl 0 [] [] ts h [] rfl (fun x hx=>by cases hx) rfl rfl hp;simp only[cy0,Zg]at hb;exact aw9 (actsF m 0 ops) (h::hs) _ hb.1.1.1 hb.1.1.2 hb.1.2 hb.2 h2
theorem dqi{ops:List AOper}{Q:AExit->Ts->Hp->Prop}{ts:Ts}{h:Hp}(m:Nat)(hb:seqB m ops=true)(hp:aseq P G m 0 (flagsOf m ops) ops [] [] (Q .normal) ts h):awp P G (.reg true ops) Q ts h:=by
 simp only[seqB,Zg]at hb;exact⟨hb.1,awj (cqu m _ hb.2 (ajp ops [] _ _ _ _ [] _ _ _ (fun x hx=>hx) hp))⟩
theorem cjg{ops:List AOper}{Q:AExit->Ts->Hp->Prop}{ts:Ts}{h:Hp}(k:aseq P G 0 0 [] ops [] [] (Q .normal) ts h):awp P G (.reg false ops) Q ts h:=avj ops _ _ _ _ ts h k
section
variable {i:Nat} {fl:List Bool} {past:List Hp} {obs:Obs} {d:Option Nat} {af:List Nat} {os:List AOper} {K:Ts->Hp->Prop} {ts:Ts} {h:Hp}
theorem cyc(k:K ts h):aseq P G m i fl [] past obs K ts h:=k
theorem ajg{o:AOp}{ev:Opd->A}{h h':Hp}{v:A}(hc:o.isCall=false)(hs:astep ev h o=some (v,h')):aopP P G ev h (fun v' h''=>v'=v/\h''=h') o:=by
 cases o with
 |call=>simp[AOp.isCall]at hc
 |callv=>simp[AOp.isCall]at hc
 |_=>simp only[aopP];rw[hs];exact⟨rfl,rfl⟩
theorem ax7{os:List AOper}{i1 i2:Nat}{f1 f2:List Bool}{p1 p2:List Hp}{ts:Ts}{h:Hp}(k:aseq P G 0 i1 f1 os p1 [] K ts h):aseq P G 0 i2 f2 os p2 [] K ts h:=by
 induction os generalizing i1 i2 f1 f2 p1 p2 ts h with
 |nil=>exact k
 |cons o os ih=>
  obtain⟨v,h',h1,h2,h3⟩:=k;have hact:actB 0 o.op=true:=by cases o.op<;>rfl
  rw[if_pos hact]at h3;refine⟨v,h',h1,h2,?_⟩;rw[if_pos hact];exact⟨trivial,ih h3.2⟩
theorem bjv{o:AOp}{h':Hp}{v:A}(hob:obs=[])(hc:o.isCall=false)(hs:astep (evX ts) h o=some (v,h'))(k:aseq P G 0 0 [] os [] [] K (put ts d v) h'):aseq P G 0 i fl (⟨d,o,none,af⟩::os) past obs K ts h:=by
 subst hob;have hact:actB 0 o=true:=by cases o<;>rfl
 refine⟨v,h',ajg hc hs,.inl hact,?_⟩;rw[if_pos hact];exact⟨trivial,ax7 k⟩
theorem cqf{E:TypeId}{W bytes:Nat}{ox oy:Opd}{X Y:A}{h':Hp}{v:A}(hob:obs=[])(hx:evX ts ox=X)(hy:evX ts oy=Y)(hs:appA h E W bytes X Y=some (v,h'))(k:aseq P G 0 0 [] os [] [] K (put ts d v) h'):aseq P G 0 i fl (⟨d,.app E W bytes ox oy,none,af⟩::os) past obs K ts h:=by
 subst hob;exact bjv rfl rfl (by simp only[astep,hx,hy];exact hs) k
theorem bjz{o:AOp}{h':Hp}{v:A}(ha:actB m o=true)(hc:o.isCall=false)(hs:astep (evX ts) h o=some (v,h'))(ho:obsP af obs h')(k:aseq P G m (i+1) fl.tail os (h::past) (obsD af obs) K (put ts d v) h'):aseq P G m i fl (⟨d,o,none,af⟩::os) past obs K ts h:=by
 refine⟨v,h',ajg hc hs,.inl ha,?_⟩;rw[if_pos ha];exact⟨ho,k⟩
theorem cjl{E:TypeId}{W bytes:Nat}{ox oy:Opd}{X Y:A}{h':Hp}{v:A}(hx:evX ts ox=X)(hy:evX ts oy=Y)(hs:appA h E W bytes X Y=some (v,h'))(ho:obsP af obs h')(k:aseq P G m (i+1) fl.tail os (h::past) (obsD af obs) K (put ts d v) h'):aseq P G m i fl (⟨d,.app E W bytes ox oy,none,af⟩::os) past obs K ts h:=
 bjz rfl rfl (by simp only[astep,hx,hy];exact hs) ho k
theorem cwv{o:AOp}{v:A}(ha:actB m o=false)(hf:fl.headD false=false)(hc:o.isCall=false)(hs:astep (evX ts) h o=some (v,h))(k:aseq P G m (i+1) fl.tail os past obs K (put ts d v) h):aseq P G m i fl (⟨d,o,none,af⟩::os) past obs K ts h:=by
 refine⟨v,h,ajg hc hs,.inr rfl,?_⟩;rw[if_neg (by simp[ha]),if_neg (by simp only[hf];simp)];exact k
theorem cjq:∀(os:List AOper) (i:Nat) (fl:List Bool) (past:List Hp) (o1 o2:Obs) (K:Ts->Hp->Prop) (ts:Ts) (h:Hp),(∀x∈o2,∃y∈o1,y.1=x.1/\∀h,y.2 h->x.2 h)->aseq P G m i fl os past o1 K ts h->aseq P G m i fl os past o2 K ts h:=by
 have hP:∀(af:List Nat) (o1 o2:Obs) (h:Hp),(∀x∈o2,∃y∈o1,y.1=x.1/\∀h,y.2 h->x.2 h)->obsP af o1 h->obsP af o2 h:=by
  intro af o1 o2 h hs hp;induction o2 with
  |nil=>trivial
  |cons x l ih=>
   obtain⟨j,p⟩:=x;refine⟨?_,ih fun y hy=>hs y (ZV _ hy)⟩;obtain⟨y,hy,e,hq⟩:=hs (j,p) Yq;rcases ako hp y hy with h1|h1
   ·exact .inl (by have e':y.1=j:=e;rw[<-e'];exact h1)
   ·exact .inr (hq h h1)
 have hD:∀(af:List Nat) (o1 o2:Obs),(∀x∈o2,∃y∈o1,y.1=x.1/\∀h,y.2 h->x.2 h)->∀x∈obsD af o2,∃y∈obsD af o1,y.1=x.1/\∀h,y.2 h->x.2 h:=by
  intro af o1 o2 hs;induction o2 with
  |nil=>intro x hx;simp[obsD]at hx
  |cons z l ih=>
   obtain⟨j,p⟩:=z;intro x hx;unfold obsD at hx;split at hx
   ·exact ih (fun y hy=>hs y (ZV _ hy)) x hx
   ·next hm=>
    rcases ZL.1 hx with rfl|hx
    ·obtain⟨y,hy,e,hq⟩:=hs (j,p) Yq;exact⟨y,avh y hy (by rw[e];simpa using hm),e,hq⟩
    ·exact ih (fun y hy=>hs y (ZV _ hy)) x hx
 intro os;induction os with
 |nil=>exact fun _ _ _ _ _ _ _ _ _ hp=>hp
 |cons o os ih=>
  intro i fl past o1 o2 K ts h hs hp;obtain⟨v,h',h1,h2,h3⟩:=hp;refine⟨v,h',h1,h2,?_⟩;split at h3
  ·next e=>rw[if_pos e];exact⟨hP _ _ _ _ hs h3.1,ih _ _ _ _ _ _ _ _ (hD _ _ _ hs) h3.2⟩
  ·next e=>
   rw[if_neg e];split at h3
   ·next e2=>
    rw[if_pos e2];refine⟨h3.1,ih _ _ _ _ _ _ _ _ (fun x hx=>?_) h3.2⟩;rcases ZL.1 hx with rfl|hx
    ·exact⟨_,Yq,rfl,fun _ h=>h⟩
    ·obtain⟨y,hy,e3⟩:=hs x hx;exact⟨y,ZV _ hy,e3⟩
   ·next e2=>rw[if_neg e2];exact ih _ _ _ _ _ _ _ _ hs h3
theorem cqp{o:AOp}{v:A}(ha:actB m o=false)(hf:fl.headD false=true)(hc:o.isCall=false)(hs:astep (evX ts) h o=some (v,h))(hp:forH (fun h2=>astep (evX ts) h2 o=some (v,h2)) past)(k:aseq P G m (i+1) fl.tail os past ((i,fun h2=>astep (evX ts) h2 o=some (v,h2))::obs) K (put ts d v) h):aseq P G m i fl (⟨d,o,none,af⟩::os) past obs K ts h:=by
 have hq:∀h2,astep (evX ts) h2 o=some (v,h2)->quietAt P G ts ⟨d,o,none,af⟩ v h2:=fun h2 hs=>ajg (P:=P) (G:=G) hc hs
 refine⟨v,h,ajg hc hs,.inr rfl,?_⟩;rw[if_neg (by simp[ha]),if_pos hf];refine⟨?_,cjq _ _ _ _ _ _ _ _ _ (fun x hx=>?_) k⟩
 ·clear k;induction past with
  |nil=>trivial
  |cons a l ih=>exact⟨hq a hp.1,ih hp.2⟩
 ·rcases ZL.1 hx with rfl|hx
  ·exact⟨_,Yq,rfl,hq⟩
  ·exact⟨x,ZV _ hx,rfl,fun _ h=>h⟩
theorem bk7{o:AOp}{t:Nat}{b:Bool}(hg:ts t=.bool b)(k:aseq P G m i fl (⟨d,o,none,af⟩::os) past obs K ts h):aseq P G m i fl (⟨d,o,some (t,b),af⟩::os) past obs K ts h:=by
 have e:∀p q:Prop,guardP ts (some (t,b)) p q↔p:=fun p q=>by
  simp only[guardP,hg];exact⟨fun x=>x.1 trivial,fun x=>⟨fun _=>x,fun e=>(by cases b<;>cases e)⟩⟩
 obtain⟨v,h',h1,h2,h3⟩:=k;refine⟨v,h',(e _ _).2 h1,h2,?_⟩;have eq:quietAt P G ts ⟨d,o,some (t,b),af⟩ v=quietAt P G ts ⟨d,o,none,af⟩ v:=funext fun h2=>propext (e _ _)
 rw[eq];exact h3
theorem cqy{o:AOp}{t:Nat}{b:Bool}(hf:fl.headD false=false)(ha:actB m o=false)(hg:ts t=.bool (!b))(k:aseq P G m (i+1) fl.tail os past obs K (put ts d (.tup [])) h):aseq P G m i fl (⟨d,o,some (t,b),af⟩::os) past obs K ts h:=by
 refine⟨.tup [],h,?_,.inr rfl,?_⟩
 ·simp only[guardP,hg];exact⟨fun e=>(by cases b<;>cases e),fun _=>⟨trivial,trivial⟩⟩
 ·rw[if_neg (by simp[ha]),if_neg (by simp only[hf];simp)];exact k
theorem bwu{o:AOp}{t:Nat}{b:Bool}(hf:fl.headD false=false)(ha:actB m o=false)(hg:ts t=.tup [])(k:aseq P G m (i+1) fl.tail os past obs K (put ts d (.tup [])) h):aseq P G m i fl (⟨d,o,some (t,b),af⟩::os) past obs K ts h:=by
 refine⟨.tup [],h,?_,.inr rfl,?_⟩
 ·simp only[guardP,hg];exact⟨trivial,trivial⟩
 ·rw[if_neg (by simp[ha]),if_neg (by simp only[hf];simp)];exact k
theorem bw9{o:AOp}{t:Nat}{b:Bool}(hob:obs=[])(hg:ts t=.bool (!b))(k:aseq P G 0 0 [] os [] [] K (put ts d (.tup [])) h):aseq P G 0 i fl (⟨d,o,some (t,b),af⟩::os) past obs K ts h:=by
 subst hob;refine⟨.tup [],h,?_,.inr rfl,?_⟩
 ·simp only[guardP,hg];exact⟨fun e=>(by cases b<;>cases e),fun _=>⟨trivial,trivial⟩⟩
 ·rw[if_pos (by cases o<;>rfl)];exact⟨trivial,ax7 k⟩
theorem bj5{o:AOp}{t:Nat}{b:Bool}(hob:obs=[])(hg:ts t=.tup [])(k:aseq P G 0 0 [] os [] [] K (put ts d (.tup [])) h):aseq P G 0 i fl (⟨d,o,some (t,b),af⟩::os) past obs K ts h:=by
 subst hob;refine⟨.tup [],h,?_,.inr rfl,?_⟩
 ·simp only[guardP,hg];exact⟨trivial,trivial⟩
 ·rw[if_pos (by cases o<;>rfl)];exact⟨trivial,ax7 k⟩
structure CallK(P:Program)(G:World->Prop)(m i:Nat)(fl:List Bool)(f:FuncId)(vs:List A)(h:Hp)(d:Option Nat)(af:List Nat)(os:List AOper)(past:List Hp)(obs:Obs)(K:Ts->Hp->Prop)(ts:Ts):Prop where
 out:∃v h',ACall P G f vs h (fun v' h''=>v'=v/\h''=h')/\((m≠2/\obsP af obs h'/\aseq P G m (i+1) fl.tail os (h::past) (obsD af obs) K (put ts d v) h')\/(m=2/\fl.headD false=false/\h'=h/\aseq P G m (i+1) fl.tail os past obs K (put ts d v) h'))
theorem bqt{o:AOp}{f:FuncId}{vs:List A}(ho:o.isCall=true)(hq:∀v h',ACall P G f vs h (fun v' h''=>v'=v/\h''=h')->aopP P G (evX ts) h (fun v' h''=>v'=v/\h''=h') o)(k:CallK P G m i fl f vs h d af os past obs K ts):aseq P G m i fl (⟨d,o,none,af⟩::os) past obs K ts h:=by
 obtain⟨v,h',h1,h2⟩:=k.out;rcases h2 with⟨h2,h3,h4⟩|⟨rfl,h3,rfl,h4⟩
 ·have ha:actB m o=true:=by
   cases o<;>simp_all [AOp.isCall,actB]
  refine⟨v,h',hq v h' h1,.inl ha,?_⟩;rw[if_pos ha];exact⟨h3,h4⟩
 ·have ha:actB 2 o=false:=by
   cases o<;>simp_all [AOp.isCall,actB]
  refine⟨v,h',hq v h' h1,.inr rfl,?_⟩;rw[if_neg (by simp[ha]),if_neg (by simp only[h3];simp)];exact h4
theorem cz4{f:FuncId}{as:List Opd}{vs:List A}(ha:as.map (evX ts)=vs)(k:CallK P G m i fl f vs h d af os past obs K ts):aseq P G m i fl (⟨d,.call f as,none,af⟩::os) past obs K ts h:=by
 subst ha;exact bqt rfl (fun v h' hc=>hc) k
theorem bk3{x:Opd}{f:FuncId}{caps:List A}{as:List Opd}{vs:List A}(hx:evX ts x=.fn f caps)(hb:Nat.blt f bmk=true)(hok:callOk P f=true)(ha:as.map (evX ts)++caps=vs)(k:CallK P G m i fl f vs h d af os past obs K ts):aseq P G m i fl (⟨d,.callv x as,none,af⟩::os) past obs K ts h:=by
 subst ha;have hb:=Nat.blt_eq.mp hb;exact bqt rfl (fun v h' hc=>⟨f,caps,hx,by rw[vF,if_pos hb];exact hok,by rw[vF,vA,if_pos hb,if_pos hb];exact hc⟩) k
theorem bw0{x:Opd}{f f':FuncId}{caps:List A}{as:List Opd}{vs:List A}(hx:evX ts x=.fn f' caps)(hb:f'=f+1000000)(hl:Nat.blt f bmk=true)(hok:callOk P f=true)(ha:caps++as.map (evX ts)=vs)(k:CallK P G m i fl f vs h d af os past obs K ts):aseq P G m i fl (⟨d,.callv x as,none,af⟩::os) past obs K ts h:=by
 subst ha;have hl:=Nat.blt_eq.mp hl;have hb:f'=f+bmk:=hb;subst hb;have hn:¬f+bmk<bmk:=Nat.not_lt.2 (Nat.le_add_left _ _);have e:vF (f+bmk)=f:=by unfold vF;rw[if_neg hn,Nat.add_mod_right,YM hl]
 exact bqt rfl (fun v h' hc=>⟨f+bmk,caps,hx,by rw[e];exact hok,by rw[e,vA,if_neg hn];exact hc⟩) k
def obsN(m:Nat)(af:List Nat)(obs:Obs):Obs:=if m=2 then obs else obsD af obs
def pastN(m:Nat)(h:Hp)(p:List Hp):List Hp:=if m=2 then p else h::p
theorem rt{f:FuncId}{vs:List A}{h':Hp}{v:A}(hc:ACall P G f vs h fun v' h''=>v'=v/\h''=h')(hm:(m=2->h'=h/\fl.headD false=false)/\(m≠2->obsP af obs h'))(k:aseq P G m (i+1) fl.tail os (pastN m h past) (obsN m af obs) K (put ts d v) h'):CallK P G m i fl f vs h d af os past obs K ts:=by
 unfold pastN obsN at k;by_cases e:m=2
 ·rw[if_pos e,if_pos e]at k;exact⟨_,_,hc,.inr ⟨e,(hm.1 e).2,(hm.1 e).1,k⟩⟩
 ·rw[if_neg e,if_neg e]at k;exact⟨_,_,hc,.inl ⟨e,hm.2 e,k⟩⟩
end
end
end AX
end
section
open Go.RowKit
namespace AX
def czw(acts:List Nat)(a n i j:Nat):Nat:=if i=a then j+(n+1)else if acts[j%(n+1)]?=some i then j+1 else j
def agen(P:Program)(G:World->Prop)(acts:List Nat)(a n:Nat)(hl:List Hp):Nat->List AOper->List (List Nat)->(Ts->Prop)->Ts->Prop
 |_,[],_,K,ts=>K ts
 |i,o::os,stg,K,ts=>∃v,forL (fun j=>guardP ts o.guard (aopP P G (evX ts) (hl.getD j ⟨[],[]⟩) (fun v' h'=>v'=v/\h'=hl.getD (czw acts a n i j) ⟨[],[]⟩) o.op) (v=.tup []/\i≠a)) (stg.headD [])/\agen P G acts a n hl (i+1) os stg.tail K (put ts o.dst v)
def possB(ops:List AOper)(acts:List Nat)(a i:Nat)(b:Bool)(k:Nat):Bool:=
 stageB ops acts i k&&(b||(!((ops[i]?.map (·.after)).getD []).contains a&&(acts.take k).all fun m=>!((ops[m]?.map (·.after)).getD []).contains a))&&!(b&&i==a)
def bwq(ops:List AOper)(acts:List Nat)(a:Nat)(stg:List (List Nat)):Bool:=
 (List.range ops.length).all fun i=>(List.range (acts.length+1)).all fun k=>(!possB ops acts a i false k||(stg.getD i []).contains k)&&(!possB ops acts a i true k||(stg.getD i []).contains (k+(acts.length+1)))
section
variable {P:Program} {G:World->Prop}
theorem ay6{acts:List Nat}{a n:Nat}{hl:List Hp}{K:Ts->Prop}:∀(os:List AOper) (b:Nat) (stg:List (List Nat)) (ts:Ts),agen P G acts a n hl b os stg K ts ->
  ∃vs:Nat->A,(∀(i:Nat) (o:AOper),os[i]?=some o->∀j∈stg.getD i [],guardP (pre ts os vs i) o.guard (aopP P G (evX (pre ts os vs i)) (hl.getD j ⟨[],[]⟩) (fun v' h'=>v'=vs i/\h'=hl.getD (czw acts a n (b+i) j) ⟨[],[]⟩) o.op) (vs i=.tup []/\b+i≠a))/\K (pre ts os vs os.length)
 |[],b,stg,ts,hp=>⟨fun _=> .tup [],fun i o hi=>by simp at hi,hp⟩
 |o::os,b,stg,ts,hp=>by
  obtain⟨v,h1,h2⟩:=hp;obtain⟨vs,h3,h4⟩:=ay6 os (b+1) stg.tail _ h2;refine⟨fun i=>match i with|0=>v|i+1=>vs i,fun i o' hi k hk=>?_,h4⟩;cases i with
  |zero=>
   simp at hi;subst hi;have hk':k∈stg.headD []:=by cases stg with
    |nil=>simp at hk
    |cons a l=>simpa using hk
   exact bql h1 k hk'
  |succ i=>
   have hk':k∈stg.tail.getD i []:=by cases stg with
    |nil=>simp at hk
    |cons a l=>simpa using hk
   have:=h3 i o' (by simpa using hi) k hk';rw[show b+1+i=b+(i+1) by omega]at this;exact this
theorem cq9{ops:List AOper}{K:Ts->Hp->Prop}{ts:Ts}(acts:List Nat)(a:Nat)(hl:List Hp)(stg:List (List Nat))(he:edgesB 0 ops=true)(hs:seesB ops=true)(hc:chainB ops acts=true)(hst:bwq ops acts a stg=true)(hna:acts.contains a=false)(hal:a<ops.length)
  (hp:agen P G acts a acts.length hl 0 ops stg (fun ts=>K ts (hl.getD (acts.length+(acts.length+1)) ⟨[],[]⟩)) ts):adraw P G ops K ts (hl.getD 0 ⟨[],[]⟩):=by
 obtain⟨vs,t1,t2⟩:=ay6 ops 0 stg ts hp;have hna':∀m (h:m<acts.length),acts[m]≠a:=fun m h e=>by
  have:acts.contains a=true:=by rw[Zak];rw[<-e];exact Zl h
  rw[hna]at this;cases this
 let idx:(Nat->Bool)->Nat:=fun D=>cnt acts D+if D a=true then acts.length+1 else 0
 refine akm he vs (fun D=>hl.getD (idx D) ⟨[],[]⟩) ?_ (fun D i o hi hDi hcl haf=>?_) ?_
 ·show hl.getD (idx _) _=_
  have:idx (fun _=>false)=0:=by
   show cnt acts _+_=0
   rw[ajs acts (fun _=>false) 0 (ZB _) (fun m h=>by simp)];simp
  rw[this]
 ·obtain⟨hk1,hk2⟩:=bw2 (ayk hc) hcl;obtain⟨k,hkD⟩:=Ex (cnt acts D);rw[hkD]at hk1 hk2;have hsee:=bq8 he hs hi hDi hcl haf vs ts;have hilt:i<ops.length:=(Zb.1 hi).1;have h2:stageB ops acts i k=true:=by
   unfold stageB;refine ZD.2 ?_;rintro⟨a',m⟩ hm;have hm':=Z8.1 hm;obtain⟨hml,hma⟩:=Zb.1 hm';subst hma;simp only[Zg,ZZ,Zx,YI];constructor
   ·by_cases hin:acts[m]∈o.after
    ·right;exact(hk2 m hml).1 (haf _ hin)
    ·left;rw[hi];simpa using hin
   ·by_cases hin:D acts[m]=true
    ·left
     simp only[Yv];constructor
     ·cases ho:ops[acts[m]]? with
      |none=>simp
      |some o'=>
       simp only[ZY,Yb];rw[YR];intro hcon;have:=hcl _ _ ho hin i (by simpa using hcon);rw[hDi]at this;cases this
     ·rw[YR];intro hcon;have:acts[m]=i:=by simpa using hcon
      rw[this,hDi]at hin;cases hin
    ·right
     have:=mt (hk2 m hml).2 hin;omega
  have hposs:possB ops acts a i (D a) k=true:=by
   unfold possB;rw[h2,ZH,Zg];constructor
   ·cases hDa:D a with
    |true=>rfl
    |false=>
     rw[YF,Zg];constructor
     ·rw[hi];simp only[ZY,Yb,YI];rw[YR];intro hcon;have:=haf a (by simpa using hcon);rw[hDa]at this;cases this
     ·refine ZD.2 fun x hx=>?_
      obtain⟨m,hm,rfl⟩:=List.mem_take_iff_getElem.1 hx;have hml:m<acts.length:=by omega
      have hDm:=(hk2 m hml).2 (by omega);cases ho:ops[acts[m]]? with
      |none=>simp
      |some o'=>
       simp only[ZY,Yb,YI];rw[YR];intro hcon;have:=hcl _ _ ho hDm a (by simpa using hcon);rw[hDa]at this;cases this
   ·cases hDa:D a with
    |false=>rfl
    |true=>
     simp only[ZH,YI];rw[YR];intro hcon;have:i=a:=by simpa using hcon
     rw[this,hDa]at hDi;cases hDi
  have hmem:idx D∈stg.getD i []:=by
   have h1:=ZD.1 (ZD.1 hst i (List.mem_range.2 hilt)) k (List.mem_range.2 (by omega));simp only[Zg,ZZ,YI]at h1;show cnt acts D+(if D a=true then acts.length+1 else 0)∈_
   rw[hkD];cases hDa:D a with
   |true=>
    rw[hDa]at hposs;rcases h1.2 with h|h
    ·rw[h]at hposs;cases hposs
    ·simpa using h
   |false=>
    rw[hDa]at hposs;rcases h1.1 with h|h
    ·rw[h]at hposs;cases hposs
    ·simpa using h
  have h3:=t1 i o hi _ hmem;rw[Yj]at h3;have hpre:pre ts ops vs i=TD ops vs ts (fun j=>decide (j<i)):=funext fun x=>pre_eq ops 0 ts vs i he (by omega) x
  rw [hpre] at h3;have hnd:∀ m m' (h:m < acts.length) (h':m' < m),acts[m]≠acts[m']'(by omega):=fun m m' h h' e=>by
   obtain⟨o',h1,h2⟩:=aq2 (ayk hc) h h';have:=aqb he _ _ h1 _ h2;omega
  have hcnt:cnt acts (fun j=>j==i||D j)=if acts[k]?=some i then k+1 else k:=by
   split
   ·next hki=>
    obtain⟨hkl,hki⟩:=Zb.1 hki;refine ajs acts _ (k+1) (by omega) fun m h=>?_
    simp only[ZZ,ZT];rw[hk2 m h];constructor
    ·rintro(h1|h1)
     ·rcases Nat.lt_trichotomy m k with h4|h4|h4
      ·omega
      ·omega
      ·exact absurd (h1.trans hki.symm) (hnd m k h h4)
     ·omega
    ·intro h1;by_cases hmk:m=k
     ·subst hmk;exact .inl hki
     ·exact .inr (by omega)
   ·next hki=>
    refine ajs acts _ k hk1 fun m h=>?_
    simp only[ZZ,ZT];rw[hk2 m h];constructor
    ·rintro(h1|h1)
     ·exfalso
      have h5:¬m<k:=fun h6=>by have:=(hk2 m h).2 h6;rw[h1,hDi]at this;cases this
      have h6:m≠k:=fun e=>by subst e;exact hki (by rw[Zj h,h1])
      obtain⟨o',h7,h8⟩:=aq2 (ayk hc) h (show k<m by omega);rw[h1,hi]at h7;injection h7 with h7;subst h7
      have:=(hk2 k (by omega)).1 (haf _ h8);omega
     ·exact h1
    ·exact fun h1=> .inr h1
  have hidx:idx (fun j=>j==i||D j)=czw acts a acts.length i (idx D):=by
   show cnt acts (fun j=>j==i||D j)+(if(a==i||D a)=true then acts.length+1 else 0)=czw acts a acts.length i (cnt acts D+if D a=true then acts.length+1 else 0)
   rw[hcnt,hkD];unfold czw;by_cases hia:i=a
   ·subst hia;rw[if_pos rfl,hDi];have hk:¬acts[k]?=some i:=fun h=>by
     obtain⟨h1,h2⟩:=Zb.1 h;exact hna' k h1 h2
    rw[if_neg hk];simp
   ·have hai:(a==i)=false:=by simp;omega
    rw[if_neg hia,hai,YF];have hmod:(k+if D a=true then acts.length+1 else 0)%(acts.length+1)=k:=by
     split
     ·rw[Nat.add_mod_right];exact YM (by omega)
     ·rw[Yr];exact YM (by omega)
    rw[hmod];split<;>omega
  show guardP _ _ (aopP P G _ (hl.getD (idx D) _) (fun v h'=>v=vs i/\h'=hl.getD (idx fun j=>j==i||D j) _) o.op) (vs i=.tup []/\hl.getD (idx fun j=>j==i||D j) _=hl.getD (idx D) _)
  rw[hidx];refine axv (fun x hx=>(hsee x hx).symm) ?_;by_cases hki:acts[k]?=some i
  ·obtain⟨hkl,hki⟩:=Zb.1 hki;have h1:=ZD.1 hc (acts[k],k) (Z8.2 (Zj hkl));simp only[Zg,hki,hi,ZY,Yb,Option.isNone_iff_eq_none]at h1;rw[h1.1.2]at h3⊢;exact aqz (ajh fun x hx=>(hsee x hx).symm) h3
  ·refine azr (fun hq=>?_) (fun hq=>?_) h3
   ·exact aqz (ajh fun x hx=>(hsee x hx).symm) hq
   ·refine⟨hq.1,?_⟩;have:czw acts a acts.length i (idx D)=idx D:=by
     unfold czw;rw[if_neg hq.2];have hmod:idx D%(acts.length+1)=k:=by
      show(cnt acts D+if D a=true then acts.length+1 else 0)%(acts.length+1)=k
      rw[hkD];split
      ·rw[Nat.add_mod_right];exact YM (by omega)
      ·rw[Yr];exact YM (by omega)
     rw[hmod,if_neg hki]
    rw[this]
 ·have e1:pre ts ops vs ops.length=TD ops vs ts (fun j=>decide (j<ops.length)):=funext fun x=>pre_eq ops 0 ts vs _ he (Ze _) x
  show K _ (hl.getD (cnt acts _+_) _)
  rw[<-e1,ajs acts _ acts.length (Ze _) fun m h=>?_]
  ·rw[if_pos (by simpa using hal)];exact t2
  ·have h1:=ZD.1 hc (acts[m],m) (Z8.2 (Zj h));simp only[Zg,Zx]at h1;simp[h1.1.1,h]
theorem ay7{acts:List Nat}{a n:Nat}{hl:List Hp}:∀(os:List AOper) (acc:List (List Nat)) (b:Nat) (stg:List (List Nat)) (K:Ts->Prop) (ts:Ts),agen P G acts a n hl b os stg K ts->agen P G acts a n hl b (closeF acc os) stg K ts
 |[],acc,b,stg,K,ts,hp=>hp
 |o::os,acc,b,stg,K,ts,hp=>by
  obtain⟨v,h1,h2⟩:=hp;exact⟨v,h1,ay7 os _ _ _ _ _ h2⟩
def genB(ops:List AOper)(acts:List Nat)(a:Nat)(stg:List (List Nat)):Bool:=
 edgesB 0 ops&&(edgesB 0 (closeOps ops)&&seesB (closeOps ops)&&chainB (closeOps ops) acts&&bwq (closeOps ops) acts a stg&&!acts.contains a&&decide (a<(closeOps ops).length))
theorem cyd{ops:List AOper}{Q:AExit->Ts->Hp->Prop}{ts:Ts}{h:Hp}(acts:List Nat)(a:Nat)(hl:List Hp)(stg:List (List Nat))(h0:hl.getD 0 ⟨[],[]⟩=h)(hb:genB ops acts a stg=true)
  (hp:agen P G acts a acts.length hl 0 ops stg (fun ts=>Q .normal ts (hl.getD (acts.length+(acts.length+1)) ⟨[],[]⟩)) ts):awp P G (.reg true ops) Q ts h:=by
 simp only[genB,Zg,YI,Zx]at hb;subst h0;exact⟨hb.1,awj (cq9 acts a hl stg hb.2.1.1.1.1.1 hb.2.1.1.1.1.2 hb.2.1.1.1.2 hb.2.1.1.2 hb.2.1.2 hb.2.2 (ay7 ops [] _ _ _ _ hp))⟩
variable {acts:List Nat} {a n:Nat} {hl:List Hp} {stg:List (List Nat)} {i:Nat} {js:List Nat} {d:Option Nat} {af:List Nat} {os:List AOper} {K:Ts->Prop} {ts:Ts} {v:A}
theorem djh(k:K ts):agen P G acts a n hl i [] stg K ts:=k
theorem dj5{o:AOp}(hc:o.isCall=false)(hs:forL (fun j=>astep (evX ts) (hl.getD j ⟨[],[]⟩) o=some (v,hl.getD (czw acts a n i j) ⟨[],[]⟩)) js)(k:agen P G acts a n hl (i+1) os stg K (put ts d v)):agen P G acts a n hl i (⟨d,o,none,af⟩::os) (js::stg) K ts:=by
 refine⟨v,?_,k⟩;show forL _ js
 clear k;induction js with
 |nil=>trivial
 |cons x l ih=>exact⟨ajg hc hs.1,ih hs.2⟩
theorem avw{f:FuncId}{as:List Opd}{vs:List A}(ha:as.map (evX ts)=vs)(hcall:forL (fun j=>ACall P G f vs (hl.getD j ⟨[],[]⟩) fun v' h'=>v'=v/\h'=hl.getD (czw acts a n i j) ⟨[],[]⟩) js)(k:agen P G acts a n hl (i+1) os stg K (put ts d v)):agen P G acts a n hl i (⟨d,.call f as,none,af⟩::os) (js::stg) K ts:=by
 subst ha;exact⟨v,hcall,k⟩
end
end AX
end
section
open Go.RowKit
namespace AX
abbrev aR(d:Nat)(o:AOp):AOper:=⟨some d,o,none,[]⟩
abbrev aM(d x:Nat):AOper:=⟨some d,.mv (.t x),none,[]⟩
abbrev aU(o:AOp):AOper:=⟨none,o,none,[]⟩
abbrev aG(d:Nat)(o:AOp)(t:Nat)(b:Bool):AOper:=⟨some d,o,some (t,b),[]⟩
abbrev aL(d x:Nat):AOper:=⟨some d,.load false 1 (.t x),none,[]⟩
abbrev aF(d i x:Nat):AOper:=⟨some d,.faddr i (.t x),none,[]⟩
abbrev aE(d x i:Nat):AOper:=⟨some d,.extract (.t x) i,none,[]⟩
abbrev aS(l:List AOper)(c:ACode):ACode:=.seq (.reg false l) c
abbrev aI(n:Int):Opd:=.c (.int .i64 n)
def A.when(p:Bool)(x:A):A:=if p=true then x else .tup []
theorem ay5(x:A):A.when true x=x:=rfl
theorem bjo(x:A):A.when false x=.tup []:=rfl
theorem bxt(c x:Bool):(if c=true then A.when c (.bool x)else .bool false)=.bool (c&&x):=by cases c<;>rfl
theorem cxa(c x:Bool):(if c=true then A.bool true else A.when (!c) (.bool x))=.bool (c||x):=by cases c<;>rfl
section
variable {P:Program} {G:World->Prop} {m i:Nat} {fl:List Bool} {d:Option Nat} {af:List Nat} {os:List AOper} {past:List Hp} {obs:Obs} {K:Ts->Hp->Prop} {ts:Ts} {h:Hp}
def gok(p c b:Bool):Bool:=p&&(c==b)
theorem bz8(p c:Bool):gok p c true=(p&&c):=by cases c<;>rfl
theorem bqu(p c:Bool):gok p c false=(p&&!c):=by cases c<;>rfl
theorem ajo{t:Nat}{b p c:Bool}{X Y:Prop}(hg:ts t=A.when p (.bool c))(hx:gok p c b=true->X)(hy:gok p c b=false->Y):guardP ts (some (t,b)) X Y:=by
 simp only[guardP,hg];cases p with
 |false=>exact hy rfl
 |true=>
  refine⟨fun e=>hx ?_,fun e=>hy ?_⟩
  ·subst e;cases c<;>rfl
  ·subst e;cases b<;>rfl
theorem dja{o:AOp}{t:Nat}{b p c:Bool}{v:A}(hob:obs=[])(hc:o.isCall=false)(hg:ts t=A.when p (.bool c))(hs:gok p c b=true->astep (evX ts) h o=some (v,h))(k:aseq P G 0 0 [] os [] [] K (put ts d (A.when (gok p c b) v)) h):aseq P G 0 i fl (⟨d,o,some (t,b),af⟩::os) past obs K ts h:=by
 subst hob;have hact:actB 0 o=true:=by cases o<;>rfl
 refine⟨A.when (gok p c b) v,h,ajo hg (fun e=>?_) (fun e=>?_),.inl hact,?_⟩
 ·rw[e];exact ajg hc (hs e)
 ·rw[e];exact⟨rfl,rfl⟩
 ·rw[if_pos hact];exact⟨trivial,ax7 k⟩
theorem dj6{o:AOp}{t:Nat}{b p c:Bool}{v:A}(ha:actB m o=false)(hf:fl.headD false=false)(hc:o.isCall=false)(hg:ts t=A.when p (.bool c))(hs:gok p c b=true->astep (evX ts) h o=some (v,h))(k:aseq P G m (i+1) fl.tail os past obs K (put ts d (A.when (gok p c b) v)) h):aseq P G m i fl (⟨d,o,some (t,b),af⟩::os) past obs K ts h:=by
 refine⟨A.when (gok p c b) v,h,ajo hg (fun e=>?_) (fun e=>?_),.inr rfl,?_⟩
 ·rw[e];exact ajg hc (hs e)
 ·rw[e];exact⟨rfl,rfl⟩
 ·rw[if_neg (by simp[ha]),if_neg (by simp only[hf];simp)];exact k
structure CallW(P:Program)(G:World->Prop)(p:Bool)(f:FuncId)(vs:List A)(h:Hp)(k:A->Prop):Prop where
 out:∃v,(p=true->ACall P G f vs h fun v' h''=>v'=v/\h''=h)/\k v
theorem ck3{t:Nat}{b p c:Bool}{f:FuncId}{as:List Opd}{vs:List A}(hob:obs=[])(hg:ts t=A.when p (.bool c))(ha:gok p c b=true->as.map (evX ts)=vs)(k:CallW P G (gok p c b) f vs h fun v=>aseq P G 0 0 [] os [] [] K (put ts d (A.when (gok p c b) v)) h):aseq P G 0 i fl (⟨d,.call f as,some (t,b),af⟩::os) past obs K ts h:=by
 subst hob;obtain⟨v,h1,h2⟩:=k.out;refine⟨A.when (gok p c b) v,h,ajo hg (fun e=>?_) (fun e=>?_),.inl rfl,?_⟩
 ·rw[e];show ACall P G f (as.map (evX ts)) h _
  rw[ha e];exact h1 e
 ·rw[e];exact⟨rfl,rfl⟩
 ·have e2:actB 0 (.call f as)=true:=rfl;rw[if_pos e2];exact⟨trivial,ax7 h2⟩
theorem cvp{t:Nat}{b p c:Bool}{f:FuncId}{as:List Opd}{vs:List A}(hf:fl.headD false=false)(hg:ts t=A.when p (.bool c))(ha:gok p c b=true->as.map (evX ts)=vs)(k:CallW P G (gok p c b) f vs h fun v=>aseq P G 2 (i+1) fl.tail os past obs K (put ts d (A.when (gok p c b) v)) h):aseq P G 2 i fl (⟨d,.call f as,some (t,b),af⟩::os) past obs K ts h:=by
 obtain⟨v,h1,h2⟩:=k.out;refine⟨A.when (gok p c b) v,h,ajo hg (fun e=>?_) (fun e=>?_),.inr rfl,?_⟩
 ·rw[e];show ACall P G f (as.map (evX ts)) h _
  rw[ha e];exact h1 e
 ·rw[e];exact⟨rfl,rfl⟩
 ·have e2:actB 2 (.call f as)=false:=rfl;rw[if_neg (by simp[e2]),if_neg (by simp only[hf];simp)];exact h2
theorem usew{p:Bool}{f:FuncId}{vs:List A}{k:A->Prop}{v:A}(hc:ACall P G f vs h fun v' h''=>v'=v/\h''=h)(hk:k v):CallW P G p f vs h k:=⟨v,fun _=>hc,hk⟩
end
end AX
end
section
open Go.RowKit
namespace AX
def edgeA:Nat->Nat->List AOper->List AOper
 |_,_,[]=>[]
 |0,x,o::l=>⟨o.dst,o.op,o.guard,x::o.after⟩::l
 |n+1,x,o::l=>o::edgeA n x l
def aw8:Nat->List AOper->List AOper
 |0,x::y::l=>y::x::l
 |n+1,x::l=>x::aw8 n l
 |_,l=>l
def swN(a j:Nat):Nat:=if j=a then a+1 else if j=a+1 then a else j
def swapA(a:Nat)(l:List AOper):List AOper:=(aw8 a l).map fun o=>⟨o.dst,o.op,o.guard,o.after.map (swN a)⟩
def callsB(a:Nat)(ops:List AOper):Bool:=ops.zipIdx.all fun o=>!o.1.op.isCall||(o.2==a||o.2==a+1)||o.1.after.contains a||o.1.after.contains (a+1)
theorem ak1:∀(n x:Nat) (l:List AOper) (i:Nat),(edgeA n x l)[i]?=(l[i]?).map fun o=>if i=n then⟨o.dst,o.op,o.guard,x::o.after⟩else o
 |n,x,[],i=>by cases n<;>simp[edgeA]
 |0,x,o::l,0=>by simp[edgeA]
 |0,x,o::l,i+1=>by simp[edgeA]
 |n+1,x,o::l,0=>by simp[edgeA]
 |n+1,x,o::l,i+1=>by
  rw[edgeA,ZR,ZR,ak1 n x l i];simp
theorem ax6:∀(n x:Nat) (l:List AOper),(edgeA n x l).length=l.length
 |n,x,[]=>by cases n<;>rfl
 |0,x,o::l=>rfl
 |n+1,x,o::l=>by rw[edgeA,Zf,Zf,ax6 n x l]
theorem ck7(a j:Nat):swN (a+1) (j+1)=swN a j+1:=by
 unfold swN;by_cases h:j=a
 ·subst h;simp
 ·by_cases h2:j=a+1
  ·subst h2;simp
  ·rw[if_neg (by omega),if_neg (by omega),if_neg h,if_neg h2]
theorem bxo:∀(a:Nat) (l:List AOper) (i:Nat),a+1<l.length->(aw8 a l)[swN a i]?=l[i]?
 |0,x::y::l,0,_=>by simp[aw8,swN]
 |0,x::y::l,1,_=>by simp[aw8,swN]
 |0,x::y::l,i+2,_=>by simp[aw8,swN]
 |a+1,x::l,0,_=>by
  rw[aw8,show swN (a+1) 0=0 by unfold swN;rw[if_neg (by omega),if_neg (by omega)]];rfl
 |a+1,x::l,i+1,h=>by
  rw[aw8,ck7,ZR,ZR];exact bxo a l i (by simpa using h)
theorem akd:∀(a:Nat) (l:List AOper),(aw8 a l).length=l.length
 |0,[]=>rfl
 |0,[x]=>rfl
 |0,x::y::l=>rfl
 |a+1,[]=>rfl
 |a+1,x::l=>by rw[aw8,Zf,Zf,akd a l]
theorem axs(a j:Nat):swN a (swN a j)=j:=by
 unfold swN;by_cases h:j=a
 ·subst h;simp
 ·by_cases h2:j=a+1
  ·subst h2;simp
  ·rw[if_neg h,if_neg h2,if_neg h,if_neg h2]
theorem dxx(a j n:Nat)(h:a+1<n):swN a j<n↔j<n:=by
 unfold swN;split
 ·omega
 ·split<;>omega
section
variable {P:Program} {G:World->Prop}
theorem czb{ts:Ts}{g:Option (Nat×Bool)}{p p' q q':Prop}(h:guardP ts g p q)(h':guardP ts g p' q'):guardP ts g (p/\p') (q/\q'):=by
 cases g with
 |none=>exact⟨h,h'⟩
 |some g=>
  obtain⟨t,b⟩:=g;simp only[guardP]at h h'⊢;revert h h';generalize ts t=v;intro h h';cases v with
  |bool c=>exact⟨fun e=>⟨h.1 e,h'.1 e⟩,fun e=>⟨h.2 e,h'.2 e⟩⟩
  |tup l=>cases l with
   |nil=>exact⟨h,h'⟩
   |cons=>exact h.elim
  |_=>exact h.elim
theorem cvj{ev:Opd->A}{h:Hp}{K K':A->Hp->Prop}{o:AOp}(hc:o.isCall=false)(p:aopP P G ev h K o)(p':aopP P G ev h K' o):aopP P G ev h (fun v h'=>K v h'/\K' v h') o:=by
 cases o with
 |call=>simp[AOp.isCall]at hc
 |callv=>simp[AOp.isCall]at hc
 |_=>
  simp only[aopP]at p p'⊢;revert p p';generalize astep ev h _=r;intro p p';cases r with
  |none=>exact p
  |some r=>exact⟨p,p'⟩
theorem cxb{ops:List AOper}{K:Ts->Hp->Prop}{ts:Ts}{h:Hp}(a:Nat)(ha:a+1<ops.length)(hn:callsB a ops=true)
  (h1:adraw P G (edgeA (a+1) a ops) K ts h) (h2:adraw P G (edgeA (a+1) a (swapA a ops)) K ts h):adraw P G ops K ts h:=by
 obtain⟨I1,p1,q1,r1⟩:=h1;obtain⟨I2,p2,q2,r2⟩:=h2;have len2:(edgeA (a+1) a (swapA a ops)).length=ops.length:=by rw[ax6];unfold swapA;rw[Zh,akd]
 have g1:∀i,(edgeA (a+1) a ops)[i]?=(ops[i]?).map fun o=>if i=a+1 then⟨o.dst,o.op,o.guard,a::o.after⟩else o:=ak1 _ _ _
 have g2:∀i,(edgeA (a+1) a (swapA a ops))[swN a i]?=(ops[i]?).map fun o=>if swN a i=a+1 then⟨o.dst,o.op,o.guard,a::o.after.map (swN a)⟩else⟨o.dst,o.op,o.guard,o.after.map (swN a)⟩:=fun i=>by
  rw[ak1];unfold swapA;rw[List.getElem?_map,bxo a ops i ha,Option.map_map];rfl
 have s0:swN a a=a+1:=by simp[swN]
 have s1:swN a (a+1)=a:=by simp[swN]
 have st1:∀D i o ts h,I1 D ts h->ops[i]?=some o->D i=false->Closed ops D->(∀j∈o.after,D j=true)->(D (a+1)=true->D a=true)->(i=a+1->D a=true) ->
   guardP ts o.guard (aopP P G (evX ts) h (fun v h'=>I1 (fun j=>j==i||D j) (put ts o.dst v) h') o.op) (I1 (fun j=>j==i||D j) (put ts o.dst (.tup [])) h):=by
  intro D i o ts h hI hi hDi hcl haf hba hia;have hg:=g1 i;rw[hi,ZY]at hg
  have:=q1 D i _ ts h hI hg hDi (fun j oj hj hDj k hk=>by
   rw[g1 j]at hj;obtain⟨o3,m1,rfl⟩:=Zv.1 hj;by_cases e:j=a+1
   ·rw[if_pos e]at hk;rcases ZL.1 hk with rfl|hk
    ·exact hba (e▸hDj)
    ·exact hcl j o3 m1 hDj k hk
   ·rw[if_neg e]at hk
    exact hcl j o3 m1 hDj k hk) (fun j hj=>by
   by_cases e:i=a+1
   ·rw[if_pos e]at hj;rcases ZL.1 hj with rfl|hj
    ·exact hia e
    ·exact haf j hj
   ·rw[if_neg e]at hj
    exact haf j hj)
  by_cases e:i=a+1
  ·rw[if_pos e]at this;exact this
  ·rw[if_neg e]at this;exact this
 have hcomp:∀(D:Nat->Bool) i,(fun j=>j==swN a i||D (swN a j))=fun j=>(fun j=>j==i||D j) (swN a j):=fun D i=>by
  funext j
  show(j==swN a i||D (swN a j))=(swN a j==i||D (swN a j))
  congr 1;by_cases e:j=swN a i
  ·subst e;rw[axs];simp
  ·have e2:swN a j≠i:=fun e2=>e (by rw[<-e2,axs])
   rw[Zs.2 e,Zs.2 e2]
 have st2:∀(D:Nat->Bool) i o ts h,I2 (fun j=>D (swN a j)) ts h->ops[i]?=some o->D i=false->Closed ops D->(∀j∈o.after,D j=true)->(D a=true->D (a+1)=true)->(i=a->D (a+1)=true) ->
   guardP ts o.guard (aopP P G (evX ts) h (fun v h'=>I2 (fun j=>(fun j=>j==i||D j) (swN a j)) (put ts o.dst v) h') o.op) (I2 (fun j=>(fun j=>j==i||D j) (swN a j)) (put ts o.dst (.tup [])) h):=by
  intro D i o ts h hI hi hDi hcl haf hba hia;have hg:=g2 i;rw[hi,ZY]at hg
  have:=q2 (fun j=>D (swN a j)) (swN a i) _ ts h hI hg (by show D (swN a (swN a i))=false;rw[axs];exact hDi) (fun j oj hj hDj k hk=>by
   have hj':=g2 (swN a j);rw[axs]at hj';rw[hj']at hj;obtain⟨o3,m1,rfl⟩:=Zv.1 hj;by_cases e:j=a+1
   ·rw[if_pos e]at hk;rcases ZL.1 hk with rfl|hk
    ·show D (swN k k)=true
     rw[s0];exact hba (by have h9:D (swN k j)=true:=hDj;rw[e,s1]at h9;exact h9)
    ·obtain⟨k0,hk0,rfl⟩:=ZW.1 hk;show D (swN a (swN a k0))=true
     rw[axs];exact hcl _ o3 m1 hDj k0 hk0
   ·rw[if_neg e]at hk;obtain⟨k0,hk0,rfl⟩:=ZW.1 hk;show D (swN a (swN a k0))=true
    rw[axs]
    exact hcl _ o3 m1 hDj k0 hk0) (fun j hj=>by
   by_cases e:swN a i=a+1
   ·have hi':i=a:=by rw[<-axs a i,e,s1]
    rw[if_pos e]at hj;rcases ZL.1 hj with rfl|hj
    ·show D (swN j j)=true
     rw[s0];exact hia hi'
    ·obtain⟨k0,hk0,rfl⟩:=ZW.1 hj;show D (swN a (swN a k0))=true
     rw[axs];exact haf k0 hk0
   ·rw[if_neg e]at hj;obtain⟨k0,hk0,rfl⟩:=ZW.1 hj;show D (swN a (swN a k0))=true
    rw[axs]
    exact haf k0 hk0)
  rw[hcomp]at this;by_cases e:swN a i=a+1
  ·rw[if_pos e]at this;exact this
  ·rw[if_neg e]at this;exact this
 refine⟨fun D ts h=>(D a=true/\I1 D ts h)\/(D (a+1)=true/\I2 (fun j=>D (swN a j)) ts h)\/(D a=false/\D (a+1)=false/\I1 D ts h/\I2 (fun j=>D (swN a j)) ts h),.inr (.inr ⟨rfl,rfl,p1,p2⟩),?_,?_⟩
 ·intro D i o ts h hI hi hDi hcl haf;have left:D a=true\/i=a->I1 D ts h->(D (a+1)=true->D a=true)->guardP ts o.guard (aopP P G (evX ts) h (fun v h'=>((fun j=>j == i||D j) a=true/\I1 (fun j=>j == i||D j) (put ts o.dst v) h')\/((fun j=>j == i||D j) (a+1)=true/\I2 (fun j=>(fun j=>j == i||D j) (swN a j)) (put ts o.dst v) h')\/((fun j=>j == i||D j) a=false/\(fun j=>j == i||D j) (a+1)=false/\I1 (fun j=>j == i||D j) (put ts o.dst v) h'/\I2 (fun j=>(fun j=>j == i||D j) (swN a j)) (put ts o.dst v) h')) o.op)
    (((fun j=>j == i||D j) a=true/\I1 (fun j=>j == i||D j) (put ts o.dst (.tup [])) h)\/((fun j=>j == i||D j) (a+1)=true/\I2 (fun j=>(fun j=>j == i||D j) (swN a j)) (put ts o.dst (.tup [])) h)\/((fun j=>j == i||D j) a=false/\(fun j=>j == i||D j) (a+1)=false/\I1 (fun j=>j == i||D j) (put ts o.dst (.tup [])) h/\I2 (fun j=>(fun j=>j == i||D j) (swN a j)) (put ts o.dst (.tup [])) h)):=by
   intro hl hI1 hba;have hD':(fun j=>j==i||D j) a=true:=by
    rcases hl with e|e
    ·show(a==i||D a)=true;rw[e];simp
    ·subst e;simp
   refine azr (fun hq=>axl (fun v h' hv=> .inl ⟨hD',hv⟩) hq) (fun hv=> .inl ⟨hD',hv⟩) (st1 D i o ts h hI1 hi hDi hcl haf hba fun e=>?_);rcases hl with e2|e2
   ·exact e2
   ·omega
  have right:D (a+1)=true\/i=a+1->I2 (fun j=>D (swN a j)) ts h->(D a=true->D (a+1)=true)->guardP ts o.guard (aopP P G (evX ts) h (fun v h'=>((fun j=>j==i||D j) a=true/\I1 (fun j=>j==i||D j) (put ts o.dst v) h')\/((fun j=>j==i||D j) (a+1)=true/\I2 (fun j=>(fun j=>j==i||D j) (swN a j)) (put ts o.dst v) h')\/((fun j=>j==i||D j) a=false/\(fun j=>j==i||D j) (a+1)=false/\I1 (fun j=>j==i||D j) (put ts o.dst v) h'/\I2 (fun j=>(fun j=>j==i||D j) (swN a j)) (put ts o.dst v) h')) o.op)
    (((fun j=>j==i||D j) a=true/\I1 (fun j=>j==i||D j) (put ts o.dst (.tup [])) h)\/((fun j=>j==i||D j) (a+1)=true/\I2 (fun j=>(fun j=>j==i||D j) (swN a j)) (put ts o.dst (.tup [])) h)\/((fun j=>j==i||D j) a=false/\(fun j=>j==i||D j) (a+1)=false/\I1 (fun j=>j==i||D j) (put ts o.dst (.tup [])) h/\I2 (fun j=>(fun j=>j==i||D j) (swN a j)) (put ts o.dst (.tup [])) h)):=by
   intro hl hI2 hba;have hD':(fun j=>j==i||D j) (a+1)=true:=by
    rcases hl with e|e
    ·show(a+1==i||D (a+1))=true;rw[e];simp
    ·subst e;simp
   refine azr (fun hq=>axl (fun v h' hv=> .inr (.inl ⟨hD',hv⟩)) hq) (fun hv=> .inr (.inl ⟨hD',hv⟩)) (st2 D i o ts h hI2 hi hDi hcl haf hba fun e=>?_);rcases hl with e2|e2
   ·exact e2
   ·omega
  rcases hI with⟨e,hI⟩|⟨e,hI⟩|⟨e1,e2,hI1,hI2⟩
  ·exact left (.inl e) hI fun _=>e
  ·exact right (.inl e) hI fun _=>e
  ·by_cases ei:i=a
   ·exact left (.inr ei) hI1 fun c=>by rw[e2]at c;cases c
   by_cases ei2:i=a+1
   ·exact right (.inr ei2) hI2 fun c=>by rw[e1]at c;cases c
   have k1:=st1 D i o ts h hI1 hi hDi hcl haf (fun c=>by rw[e2]at c;cases c) (fun c=>absurd c ei2);have k2:=st2 D i o ts h hI2 hi hDi hcl haf (fun c=>by rw[e1]at c;cases c) (fun c=>absurd c ei);have hcall:o.op.isCall=false:=by
    have h5:=ZD.1 hn (o,i) (Z8.2 hi);rw[ZZ,ZZ,ZZ]at h5;rcases h5 with((h5|h5)|h5)|h5
    ·simpa using h5
    ·simp[ei,ei2]at h5
    ·rw[haf a (by simpa using h5)]at e1;cases e1
    ·rw[haf (a+1) (by simpa using h5)]at e2;cases e2
   have d1:(fun j=>j==i||D j) a=false:=by
    show(a==i||D a)=false
    rw[e1];simp;omega
   have d2:(fun j=>j==i||D j) (a+1)=false:=by
    show(a+1==i||D (a+1))=false
    rw[e2];simp;omega
   exact azr (fun hq=>axl (fun v h' hv=> .inr (.inr ⟨d1,d2,hv.1,hv.2⟩)) (cvj hcall hq.1 hq.2)) (fun hv=> .inr (.inr ⟨d1,d2,hv.1,hv.2⟩)) (czb k1 k2)
 ·intro ts h hI;have hA:decide (a<ops.length)=true:=by simp;omega
  rcases hI with⟨_,hI⟩|⟨_,hI⟩|⟨e,_⟩
  ·exact r1 ts h (by rw[ax6];exact hI)
  ·refine r2 ts h ?_;rw[len2];have:(fun j=>decide (swN a j<ops.length))=fun j=>decide (j<ops.length):=by
    funext j
    rw[decide_eq_decide];exact dxx a j _ ha
   rw[<-this];exact hI
  ·have e:decide (a<ops.length)=false:=e;rw[hA]at e;cases e
theorem cyp{ops:List AOper}{Q:AExit->Ts->Hp->Prop}{ts:Ts}{h:Hp}(a:Nat)(hb:(edgesB 0 ops&&decide (a+1<ops.length)&&callsB a ops)=true)
  (h1:awp P G (.reg true (edgeA (a+1) a ops)) Q ts h) (h2:awp P G (.reg true (edgeA (a+1) a (swapA a ops))) Q ts h):awp P G (.reg true ops) Q ts h:=by
 simp only[Zg,Zx]at hb;exact⟨hb.1.1,cxb a hb.1.2 hb.2 h1.2 h2.2⟩
end
end AX
end
end Go.Proofs.YthhpocnmfknalaaGreatDoor
