/- Part of what the proof needs. -/
import Derived.Test.YtahmpiioegemaaaGreatDoorMFrJournalDamageUptoD
import Derived.Test.YtahmpiioegemaaaGreatDoorMFrJournalDamageUptoE
import Derived.Test.YtahmpiioegemaaaGreatDoorMFrJournalDamageUptoI
import Derived.Test.YtahmpiioegemaaaGreatDoorMFrJournalDamageUptoL
import Derived.Test.YtahmpiioegemaaaGreatDoorMFrJournalDamageUptoO
import Derived.Test.YtahmpiioegemaaaGreatDoorMFrJournalDamageUptoP
import Derived.Test.YtahmpiioegemaaaGreatDoorMFrJournalDamageUptoS
import Derived.Test.YtahmpiioegemaaaGreatDoorMFrJournalDamageUptoT
import Derived.Test.YtahmpiioegemaaaGreatDoorMFrJournalDamageUptoU
import Derived.Maps.RangeRun
import Derived.Laws.Append
set_option maxHeartbeats 4000000
set_option linter.unusedSimpArgs false
set_option linter.unusedVariables false
set_option linter.unnecessarySimpa false
namespace Go.Proofs.YtahmpiioegemaaaGreatDoor
open Go.RowKit
namespace AX
section
variable (P:Program) (G:World→Prop) (tab:Tab)
structure Ent where
 f:FuncId
 run:List A→EH→Option (A×Option EH)
 ok:∀ avs h v oh,run avs h=some (v,oh)→ACall P G f avs (h.abs tab) fun v' h'=>v'=v∧h'=(oh.getD h).abs tab
end
section
variable {P:Program} {G:World→Prop} {tab:Tab}
def findE (f:FuncId):List (Ent P G tab)→Option (Ent P G tab)
 | []=>none
 | e::l=>bif Nat.beq f e.f then some e else findE f l
theorem findE_ok {f:FuncId}:∀ {l:List (Ent P G tab)} {e:Ent P G tab},findE f l=some e→e.f=f
 | [],e,h=>by cases h
 | x::l,e,h=>by
  unfold findE at h
  cases hb:Nat.beq f x.f with
  | true=>rw [hb] at h; injection h with h; subst h; exact (beq_iff.1 hb).symm
  | false=>rw [hb] at h; exact findE_ok h
def wk1:A→A
 | .sl W (.tok _) rows => .sl W .no rows
 | x=>x
def wk2:A→A
 | .agg l => .agg (l.map wk1)
 | x=>wk1 x
def wk3:A→A
 | .tup l => .tup (l.map wk2)
 | x=>wk2 x
theorem le_wk1 (x:A):le1 x (wk1 x):=by
 unfold wk1
 split
 ·exact ⟨rfl,.inl rfl,.inl rfl⟩
 ·exact le1_refl x
theorem leL_wk:∀ l:List A,leL l (l.map wk1)
 | []=>trivial
 | x::l=>⟨le_wk1 x,leL_wk l⟩
theorem le2_of1 {x y:A} (h:le1 x y) (hx:∀ l,x≠.agg l):le2 x y:=by
 unfold le2
 split
 ·exact absurd rfl (hx _)
 ·exact h
theorem le_wk2 (x:A):le2 x (wk2 x):=by
 unfold wk2
 split
 ·exact leL_wk _
 ·next h=>exact le2_of1 (le_wk1 _) fun l e=>h l e
theorem leL2_wk:∀ l:List A,leL2 l (l.map wk2)
 | []=>trivial
 | x::l=>⟨le_wk2 x,leL2_wk l⟩
theorem le_wk3 (x:A):le x (wk3 x):=by
 unfold wk3
 split
 ·exact leL2_wk _
 ·next h =>
  unfold le
  split
  ·exact absurd rfl (h _)
  ·exact le_wk2 _
abbrev Ih:=ACode→T→EH→Option (AExit×T×EH)
def IhOk (P:Program) (G:World→Prop) (tab:Tab) (ih:Ih):Prop:=∀ c t h e t' h',ih c t h=some (e,t',h')→∀ Q:AExit→Ts→Hp→Prop,Q e t'.get (h'.abs tab)→awp P G c Q t.get (h.abs tab)
def endE:AExit→Bool
 | .exit _=>false
 | _=>true
def finE (tab:Tab) (rs:List ARes) (t:T) (h:EH):Option A:=
 match resA t.get (h.abs tab) rs with
 | some l=>fR (tupA l)
 | none=>none
theorem finE_ok {rs:List ARes} {t:T} {h:EH} {v:A} {e:AExit} (he:endE e=true) (hf:finE tab rs t h=some v) {Q:A→Hp→Prop} {u:A} (hl:le v u) (hq:Q u (h.abs tab)):finQ rs Q e t.get (h.abs tab):=by
 have key:finO (resA t.get (h.abs tab) rs) Q (h.abs tab):=by
  unfold finE at hf
  split at hf
  ·next l hr =>
   rw [hr]
   exact ⟨u,by rw [←fR_ok _ _ hf]; exact hl,hq⟩
  ·cases hf
 cases e with
 | exit=>cases he
 | normal=>exact key
 | ret=>exact key
def callE (lib:List (Ent P G tab)) (inp:List FuncId) (ih:Ih) (f:FuncId) (args:List A) (h:EH):Option (A×Option EH):=
 match findE f lib with
 | some e=>e.run args h
 | none=>match compFn P f with
  | none=>none
  | some fn=>bif args.length.ble fn.n then (match T.init args with
   | none=>none
   | some t=>bif args.all A.pure&&!(inp.any (Nat.beq f)) then (match ih fn.code t ⟨[],[]⟩ with
     | none=>none
     | some (e,t',h')=>bif endE e then (match finE tab fn.res t' h' with
      | none=>none
      | some v=>(match fR (wk3 v) with
       | none=>none
       | some v=>bif v.pure then some (v,none) else none)) else none)
    else (match ih fn.code t h with
     | none=>none
     | some (e,t',h')=>bif endE e then (match finE tab fn.res t' h' with
      | none=>none
      | some v=>some (v,some h')) else none)) else none
theorem callE_ok (hm:P.follows .mixedOrders=true) {lib:List (Ent P G tab)} {inp:List FuncId} {ih:Ih} (hih:IhOk P G tab ih) {f:FuncId} {args:List A} {h:EH} {v:A} {oh:Option EH} (hc:callE lib inp ih f args h=some (v,oh)) :
  ACall P G f args (h.abs tab) fun v' h'=>v'=v∧h'=(oh.getD h).abs tab:=by
 unfold callE at hc
 split at hc
 ·next e he =>
  have:=e.ok args h v oh hc
  rw [findE_ok he] at this
  exact this
 ·split at hc
  ·cases hc
  ·next fn hfn =>
   cases hle:args.length.ble fn.n with
   | false=>rw [hle] at hc; cases hc
   | true =>
    rw [hle] at hc
    simp only [cond_true] at hc
    have hlen:args.length≤fn.n:=Nat.le_of_ble_eq_true hle
    split at hc
    ·cases hc
    ·next t ht =>
     have htg:=T.init_ok ht
     cases hp:(args.all A.pure&&!(inp.any (Nat.beq f))) with
     | true =>
      rw [hp] at hc
      simp only [cond_true] at hc
      rw [Bool.and_eq_true] at hp
      split at hc
      ·cases hc
      ·next e t' h' hr =>
       cases hee:endE e with
       | false=>rw [hee] at hc; cases hc
       | true =>
        rw [hee] at hc
        simp only [cond_true] at hc
        split at hc
        ·cases hc
        ·next u hu =>
         split at hc
         ·cases hc
         ·next u' hu' =>
          cases hpu:u'.pure with
          | false=>rw [hpu] at hc; cases hc
          | true =>
           rw [hpu] at hc
           injection hc with hc; injection hc with h1 h2; subst h1; subst h2
           have hE:ACall P G f args ⟨[],[]⟩ fun v _=>v=u':=by
            refine acall_of hm hfn hlen ?_
            rw [←htg]
            refine hih _ _ _ _ _ _ hr _ (finE_ok hee hu (u:=u') ?_ rfl)
            rw [fR_ok _ _ hu']; exact le_wk3 u
           exact pcall hE hpu hp.1 _
     | false =>
      rw [hp] at hc
      simp only [cond_false] at hc
      split at hc
      ·cases hc
      ·next e t' h' hr =>
       cases hee:endE e with
       | false=>rw [hee] at hc; cases hc
       | true =>
        rw [hee] at hc
        simp only [cond_true] at hc
        split at hc
        ·cases hc
        ·next u hu =>
         injection hc with hc; injection hc with h1 h2; subst h1; subst h2
         refine acall_of hm hfn hlen ?_
         rw [←htg]
         exact hih _ _ _ _ _ _ hr _ (finE_ok hee hu (le_refl _) ⟨rfl,rfl⟩)
def opdE (t:T) (o:Opd):Option A:=fH (evX t.get o)
theorem opdE_ok {t:T} (x:Opd) (y:A) (h:opdE t x=some y):y=evX t.get x:=fH_ok _ _ h
def stepE (lib:List (Ent P G tab)) (inp:List FuncId) (ih:Ih) (t:T) (h:EH):AOp→Option (A×Option EH)
 | .call f avs=>(match mapO (opdE t) avs with
  | some vs=>callE lib inp ih f vs h
  | none=>none)
 | .callv x avs=>(match evX t.get x with
  | .fn f caps=>bif callOk P (vF f) then (match mapO (opdE t) avs with
   | some vs=>(match mapO fH (vA f vs caps) with
    | some vs=>callE lib inp ih (vF f) vs h
    | none=>none)
   | none=>none) else none
  | _=>none)
 | op=>opE tab (evX t.get) h op
theorem stepE_ok (hm:P.follows .mixedOrders=true) {lib:List (Ent P G tab)} {inp:List FuncId} {ih:Ih} (hih:IhOk P G tab ih) {t:T} {h:EH} {op:AOp} {v:A} {oh:Option EH} (hc:stepE lib inp ih t h op=some (v,oh)) :
  aopP P G (evX t.get) (h.abs tab) (fun v' h'=>v'=v∧h'=(oh.getD h).abs tab) op:=by
 have plain:opE tab (evX t.get) h op=some (v,oh)→aopP P G (evX t.get) (h.abs tab) (fun v' h'=>v'=v∧h'=(oh.getD h).abs tab) op:=fun e=>by
  obtain ⟨h1,h2⟩:=opE_ok e
  exact aopP_of h1 h2
 cases op with
 | call f avs =>
  simp only [stepE] at hc
  split at hc
  ·next vs e =>
   have:=mapO_ok opdE_ok e
   subst this
   exact callE_ok hm hih hc
  ·cases hc
 | callv x avs =>
  simp only [stepE] at hc
  split at hc
  ·next f caps hx =>
   cases hok:callOk P (vF f) with
   | false=>rw [hok] at hc; cases hc
   | true =>
    rw [hok] at hc
    simp only [cond_true] at hc
    split at hc
    ·next vs e =>
     have:=mapO_ok opdE_ok e
     subst this
     split at hc
     ·next vs e2 =>
      have:=mapO_id fH_ok e2
      subst this
      exact ⟨f,caps,hx,hok,callE_ok hm hih hc⟩
     ·cases hc
    ·cases hc
  ·cases hc
 | _=>exact plain hc
def gd (t:T):Option (Nat×Bool)→Option Bool
 | none=>some true
 | some (i,b)=>match t.get i with
  | .bool c=>some (bif c then b else !b)
  | .tup []=>some false
  | _=>none
theorem gd_true {t:T} {g:Option (Nat×Bool)} {p q:Prop} (h:gd t g=some true) (hp:p):guardP t.get g p q:=by
 cases g with
 | none=>exact hp
 | some ib =>
  obtain ⟨i,b⟩:=ib
  unfold gd at h
  simp only at h
  simp only [guardP]
  split at h
  ·next c e =>
   rw [e]
   injection h with h
   cases c <;> cases b <;> simp_all
  ·cases h
  ·cases h
theorem gd_false {t:T} {g:Option (Nat×Bool)} {p q:Prop} (h:gd t g=some false) (hq:q):guardP t.get g p q:=by
 cases g with
 | none=>cases h
 | some ib =>
  obtain ⟨i,b⟩:=ib
  unfold gd at h
  simp only at h
  simp only [guardP]
  split at h
  ·next c e =>
   rw [e]
   injection h with h
   cases c <;> cases b <;> simp_all
  ·next e=>rw [e]; exact hq
  ·cases h
def unitB:A→Bool
 | .tup []=>true
 | _=>false
def qchk (tab:Tab) (t:T) (o:AOper) (v:A) (h:EH):Bool:=
 match gd t o.guard with
 | some true=>loadB o.op&&(match astep (evX t.get) (h.abs tab) o.op with | some (v',_)=>eqb 9 v' v | none=>false)
 | some false=>unitB v
 | none=>false
theorem unitB_ok {v:A} (h:unitB v=true):v = .tup []:=by
 unfold unitB at h
 split at h
 ·rfl
 ·cases h
theorem qchk_ok {t:T} {o:AOper} {v:A} {h:EH} (e:qchk tab t o v h=true):quietAt P G t.get o v (h.abs tab):=by
 unfold qchk at e
 unfold quietAt
 split at e
 ·next hg =>
  rw [Bool.and_eq_true] at e
  refine gd_true hg ?_
  obtain ⟨e1,e2⟩:=e
  cases hop:o.op with
  | load g n p =>
   rw [hop] at e2
   refine aopP_of rfl ?_
   simp only [astep] at e2 ⊢
   cases hl:loadA (h.abs tab) g n (evX t.get p) with
   | none=>rw [hl] at e2; cases e2
   | some v'=>rw [hl] at e2; rw [←eqb_ok _ _ _ e2]; rfl
  | _=>rw [hop] at e1; cases e1
 ·next hg=>exact gd_false hg (unitB_ok e)
 ·cases e
abbrev Ob:=Nat×T×AOper×A
def obOk (tab:Tab) (af:List Nat) (h:EH):List Ob→Bool
 | []=>true
 | (j,t,o,v)::l=>(memN j af||qchk tab t o v h)&&obOk tab af h l
def obDrop (af:List Nat):List Ob→List Ob
 | []=>[]
 | (j,t,o,v)::l=>bif memN j af then obDrop af l else (j,t,o,v)::obDrop af l
def obP (P:Program) (G:World→Prop):Ob→Nat×(Hp→Prop):=fun x=>(x.1,quietAt P G x.2.1.get x.2.2.1 x.2.2.2)
theorem obOk_ok {af:List Nat} {h:EH}:∀ {l:List Ob},obOk tab af h l=true→obsP af (l.map (obP P G)) (h.abs tab)
 | [],_=>trivial
 | (j,t,o,v)::l,e=>by
  simp only [obOk,Bool.and_eq_true,Bool.or_eq_true] at e
  exact ⟨e.1.imp id fun e=>qchk_ok e,obOk_ok e.2⟩
theorem obDrop_ok {af:List Nat}:∀ l:List Ob,obsD af (l.map (obP P G))=(obDrop af l).map (obP P G)
 | []=>rfl
 | (j,t,o,v)::l=>by
  simp only [List.map_cons,obDrop]
  rw [show obP P G (j,t,o,v)=(j,quietAt P G t.get o v) from rfl]
  unfold obsD
  have ih:=obDrop_ok (af:=af) l
  cases hm:memN j af with
  | true=>rw [if_pos rfl]; exact ih
  | false =>
   rw [if_neg (by simp)]
   rw [ih]; rfl
def eqB:EB→EB→Bool
 | .cells T l,.cells T' l'=>Nat.beq T T'&&all2 (eqb 20) l l'
 | .map es c,.map es' c'=>all2 (fun x y=>decide (x.1=y.1)&&eqb 20 x.2 y.2) es es'&&c.beq c'
 | .row T l,.row T' l'=>Nat.beq T T'&&all2 (eqb 20) l l'
 | .obj k d,.obj k' d'=>k.beq k'&&eqb 20 d d'
 | _,_=>false
theorem eqB_ok (x y:EB) (h:eqB x y=true):x=y:=by
 have e:=eqb_ok 20
 cases x <;> cases y <;> simp only [eqB,Bool.false_eq_true,Bool.and_eq_true,beq_iff] at h
 ·rw [h.1,all2_ok e h.2]
 ·rw [all2_ok (fun x y hh=>by
   simp only [Bool.and_eq_true,decide_eq_true_eq] at hh
   exact Prod.ext hh.1 (e _ _ hh.2)) h.1,h.2]
 ·rw [h.1,all2_ok e h.2]
 ·rw [h.1,e _ _ h.2]
def eqH (x y:EH):Bool:=all2 eqB x.b y.b&&all2 (fun a b=>decide (a=b)) x.t y.t
theorem eqH_ok {x y:EH} (h:eqH x y=true):x=y:=by
 simp only [eqH,Bool.and_eq_true] at h
 obtain ⟨a,b⟩:=x
 obtain ⟨c,d⟩:=y
 rw [show a=c from all2_ok eqB_ok h.1,show b=d from all2_ok (fun _ _ e=>of_decide_eq_true e) h.2]
def keptB (h:EH):Option EH→Bool
 | none=>true
 | some h'=>eqH h' h
theorem keptB_ok {h:EH} {oh:Option EH} (e:keptB h oh=true):oh.getD h=h:=by
 cases oh with
 | none=>rfl
 | some h'=>exact eqH_ok e
def runD (lib:List (Ent P G tab)) (inp:List FuncId) (ih:Ih) (m:Nat):List AOper→Nat→List Bool→List EH→List Ob→T→EH→Option (T×EH)
 | [],_,_,_,_,t,h=>some (t,h)
 | o::os,i,fl,past,obs,t,h =>
  match gd t o.guard with
  | none=>none
  | some g=>match (bif g then stepE lib inp ih t h o.op else some (.tup [],none)) with
   | none=>none
   | some (v,oh)=>match t.put o.dst v with
    | none=>none
    | some t'=>bif actB m o.op then (match oh with
      | none=>bif obOk tab o.after h obs then runD lib inp ih m os (i+1) fl.tail (h::past) (obDrop o.after obs) t' h else none
      | some h'=>bif obOk tab o.after h' obs then runD lib inp ih m os (i+1) fl.tail (h::past) (obDrop o.after obs) t' h' else none)
     else bif keptB h oh then (bif fl.headD false then (bif qchk tab t o v h&&past.all (qchk tab t o v) then runD lib inp ih m os (i+1) fl.tail past ((i,t,o,v)::obs) t' h else none)
       else runD lib inp ih m os (i+1) fl.tail past obs t' h) else none
theorem runD_ok (hm:P.follows .mixedOrders=true) {lib:List (Ent P G tab)} {inp:List FuncId} {ih:Ih} (hih:IhOk P G tab ih) {m:Nat} {K:Ts→Hp→Prop} {t2:T} {h2:EH} (hK:K t2.get (h2.abs tab)) :
  ∀ (os:List AOper) (i:Nat) (fl:List Bool) (past:List EH) (obs:List Ob) (t:T) (h:EH),runD lib inp ih m os i fl past obs t h=some (t2,h2)→aseq P G m i fl os (past.map (EH.abs tab)) (obs.map (obP P G)) K t.get (h.abs tab)
 | [],i,fl,past,obs,t,h,e=>by
  injection e with e; injection e with e1 e2; subst e1; subst e2
  exact hK
 | o::os,i,fl,past,obs,t,h,e=>by
  have ihr:=runD_ok hm (lib:=lib) (inp:=inp) (m:=m) hih hK os (i+1) fl.tail
  unfold runD at e
  split at e
  ·cases e
  ·next g hg =>
   split at e
   ·cases e
   ·next v oh hs =>
    split at e
    ·cases e
    ·next t' hp =>
     have hput:=T.put_ok hp
     have hgd:guardP t.get o.guard (aopP P G (evX t.get) (h.abs tab) (fun v' h''=>v'=v∧h''=(oh.getD h).abs tab) o.op) (v = .tup []∧(oh.getD h).abs tab=h.abs tab):=by
      cases g with
      | true=>exact gd_true hg (stepE_ok hm hih hs)
      | false =>
       injection hs with hs; injection hs with h1 h2; subst h1; subst h2
       exact gd_false hg ⟨rfl,rfl⟩
     refine ⟨v,(oh.getD h).abs tab,hgd,?_⟩
     cases hact:actB m o.op with
     | true =>
      rw [hact] at e
      simp only [cond_true] at e
      refine ⟨.inl rfl,?_⟩
      rw [if_pos rfl,←hput,obDrop_ok]
      cases oh with
      | none =>
       simp only at e
       cases hob:obOk tab o.after h obs with
       | false=>rw [hob] at e; cases e
       | true =>
        rw [hob] at e
        exact ⟨obOk_ok hob,ihr (h::past) _ t' h e⟩
      | some h' =>
       simp only at e
       cases hob:obOk tab o.after h' obs with
       | false=>rw [hob] at e; cases e
       | true =>
        rw [hob] at e
        exact ⟨obOk_ok hob,ihr (h::past) _ t' h' e⟩
     | false =>
      rw [hact] at e
      simp only [cond_false] at e
      cases hk:keptB h oh with
      | false=>rw [hk] at e; cases e
      | true =>
       rw [hk] at e
       simp only [cond_true] at e
       rw [keptB_ok hk]
       refine ⟨.inr rfl,?_⟩
       rw [if_neg (by simp),←hput]
       cases hfl:fl.headD false with
       | true =>
        rw [hfl] at e
        simp only [cond_true] at e
        rw [if_pos rfl]
        cases hq:(qchk tab t o v h&&past.all (qchk tab t o v)) with
        | false=>rw [hq] at e; cases e
        | true =>
         rw [hq] at e
         rw [Bool.and_eq_true,List.all_eq_true] at hq
         refine ⟨?_,ihr past ((i,t,o,v)::obs) t' h e⟩
         have:∀ l:List EH,(∀ x∈l,qchk tab t o v x=true)→forH (quietAt P G t.get o v) (l.map (EH.abs tab)):=by
          intro l
          induction l with
          | nil=>intro _; trivial
          | cons x l ih=>intro hx; exact ⟨qchk_ok (hx x (by simp)),ih fun y hy=>hx y (by simp [hy])⟩
         exact this past hq.2
       | false =>
        rw [hfl] at e
        rw [if_neg (by simp)]
        exact ihr past obs t' h e
def newB:AOp→Bool
 | .alloc ..=>true
 | _=>false
def findA:Nat→List AOper→Option Nat
 | _,[]=>none
 | i,o::os=>bif newB o.op then some i else findA (i+1) os
def hbs (lib:List (Ent P G tab)) (inp:List FuncId) (ih:Ih) (acts:List Nat) (a:Nat) (va:A):List AOper→Nat→T→EH→Option (List EH)
 | [],_,_,h=>some [h]
 | o::os,i,t,h=>bif i.beq a then (match t.put o.dst va with
   | some t'=>hbs lib inp ih acts a va os (i+1) t' h
   | none=>none)
  else (match gd t o.guard with
   | none=>none
   | some g=>match (bif g then stepE lib inp ih t h o.op else some (.tup [],none)) with
    | none=>none
    | some (v,oh)=>match t.put o.dst v with
     | none=>none
     | some t'=>bif memN i acts then (match hbs lib inp ih acts a va os (i+1) t' (oh.getD h) with
       | some l=>some (h::l)
       | none=>none)
      else hbs lib inp ih acts a va os (i+1) t' h)
def agenE (lib:List (Ent P G tab)) (inp:List FuncId) (ih:Ih) (acts:List Nat) (a:Nat) (hl:List EH):List AOper→Nat→List (List Nat)→T→Option T
 | [],_,_,t=>some t
 | o::os,i,stg,t=>match gd t o.guard with
  | none=>none
  | some g=>match (bif g then (match stepE lib inp ih t (hl.getD ((stg.headD []).headD 0) ⟨[],[]⟩) o.op with | some (v,_)=>some v | none=>none) else some (.tup [])) with
   | none => none
   | some v => bif (stg.headD []).all (fun j => bif g then (match stepE lib inp ih t (hl.getD j ⟨[], []⟩) o.op with
         | some (v', oh) => eqb 20 v' v && eqH (oh.getD (hl.getD j ⟨[], []⟩)) (hl.getD (nxt2 acts a acts.length i j) ⟨[], []⟩)
         | none => false) else !(i.beq a)) then (match t.put o.dst v with
     | some t'=>agenE lib inp ih acts a hl os (i+1) stg.tail t'
     | none=>none) else none
theorem absD {hl:List EH} {j:Nat}:(hl.map (EH.abs tab)).getD j ⟨[],[]⟩=(hl.getD j ⟨[],[]⟩).abs tab:=by
 rw [List.getD_eq_getElem?_getD,List.getD_eq_getElem?_getD,List.getElem?_map]
 cases hl[j]? <;> rfl
theorem forL_intro {p:Nat→Prop}:∀ {l:List Nat},(∀ k∈l,p k)→forL p l
 | [],_=>trivial
 | a::l,h=>⟨h a (by simp),forL_intro fun k hk=>h k (by simp [hk])⟩
theorem agenE_ok (hm:P.follows .mixedOrders=true) {lib:List (Ent P G tab)} {inp:List FuncId} {ih:Ih} (hih:IhOk P G tab ih) {acts:List Nat} {a:Nat} {hl:List EH} {K:Ts→Prop} {t2:T} (hK:K t2.get) :
  ∀ (os:List AOper) (i:Nat) (stg:List (List Nat)) (t:T),agenE lib inp ih acts a hl os i stg t=some t2→agen P G acts a acts.length (hl.map (EH.abs tab)) i os stg K t.get
 | [],i,stg,t,e=>by
  injection e with e; subst e
  exact hK
 | o::os,i,stg,t,e=>by
  have ihr:=agenE_ok hm (lib:=lib) (inp:=inp) hih (acts:=acts) (a:=a) (hl:=hl) hK os (i+1) stg.tail
  unfold agenE at e
  split at e
  ·cases e
  ·next g hg =>
   split at e
   ·cases e
   ·next v hv =>
    cases hall:(stg.headD []).all (fun j=>bif g then (match stepE lib inp ih t (hl.getD j ⟨[],[]⟩) o.op with
      | some (v',oh)=>eqb 20 v' v&&eqH (oh.getD (hl.getD j ⟨[],[]⟩)) (hl.getD (nxt2 acts a acts.length i j) ⟨[],[]⟩)
      | none=>false) else !(i.beq a)) with
    | false=>rw [hall] at e; cases e
    | true =>
     rw [hall] at e
     simp only [cond_true] at e
     split at e
     ·next t' hp =>
      refine ⟨v,forL_intro fun j hj=>?_,by rw [←T.put_ok hp]; exact ihr t' e⟩
      have hj:=List.all_eq_true.1 hall j hj
      rw [absD,absD]
      cases g with
      | true =>
       simp only [cond_true] at hj
       split at hj
       ·next v' oh hs =>
        rw [Bool.and_eq_true] at hj
        refine gd_true hg ?_
        rw [←eqH_ok hj.2,←eqb_ok _ _ _ hj.1]
        exact stepE_ok hm hih hs
       ·cases hj
      | false =>
       simp only [cond_false] at hj hv
       injection hv with hv
       rw [Bool.not_eq_true',beq_no] at hj
       exact gd_false hg ⟨hv.symm,hj⟩
     ·cases e
def cutO (n:Nat) (h:EH):Option EH:=
 match mapO some (h.b.take n) with
 | some b=>some ⟨b,h.t⟩
 | none=>none
def runG (lib:List (Ent P G tab)) (inp:List FuncId) (ih:Ih) (ops:List AOper) (t:T) (h:EH):Option (T×EH):=
 match findA 0 ops with
 | none=>none
 | some a=>bif genB ops ((actsF 1 0 (closeOps ops)).filter fun i=>!(i.beq a)) a (stgs2 (closeOps ops) ((actsF 1 0 (closeOps ops)).filter fun i=>!(i.beq a)) a) then (match ops[a]? with
   | none=>none
   | some o=>match opE tab (evX t.get) h o.op with
    | some (va,some hx)=>(match hbs lib inp ih ((actsF 1 0 (closeOps ops)).filter fun i=>!(i.beq a)) a va ops 0 t hx with
     | none=>none
     | some hb=>match mapO (cutO h.b.length) (hb.drop 1) with
      | none=>none
      | some hn=>match agenE lib inp ih ((actsF 1 0 (closeOps ops)).filter fun i=>!(i.beq a)) a (h::(hn++hb)) ops 0 (stgs2 (closeOps ops) ((actsF 1 0 (closeOps ops)).filter fun i=>!(i.beq a)) a) t with
       | none=>none
       | some t'=>match (h::(hn++hb))[((actsF 1 0 (closeOps ops)).filter fun i=>!(i.beq a)).length+(((actsF 1 0 (closeOps ops)).filter fun i=>!(i.beq a)).length+1)]? with
        | some h'=>some (t',h')
        | none=>none)
    | _=>none) else none
theorem runG_ok (hm:P.follows .mixedOrders=true) {lib:List (Ent P G tab)} {inp:List FuncId} {ih:Ih} (hih:IhOk P G tab ih) {Q:AExit→Ts→Hp→Prop} {ops:List AOper} {t t2:T} {h h2:EH} (hQ:Q .normal t2.get (h2.abs tab)) (e:runG lib inp ih ops t h=some (t2,h2)) :
  awp P G (.reg true ops) Q t.get (h.abs tab):=by
 unfold runG at e
 split at e
 ·cases e
 ·next a ha =>
  obtain ⟨acts,hacts⟩:∃ x,((actsF 1 0 (closeOps ops)).filter fun i=>!(i.beq a))=x:=⟨_,rfl⟩
  rw [hacts] at e
  cases hb:genB ops acts a (stgs2 (closeOps ops) acts a) with
  | false=>rw [hb] at e; cases e
  | true =>
   rw [hb] at e
   simp only [cond_true] at e
   split at e
   ·cases e
   ·split at e
    ·split at e
     ·cases e
     ·next hbl _ =>
      split at e
      ·cases e
      ·next hn _ =>
       split at e
       ·cases e
       ·next t' ht' =>
        split at e
        ·next h' hh =>
         injection e with e; injection e with e1 e2; subst e1; subst e2
         refine go_gen acts a ((h::(hn++hbl)).map (EH.abs tab)) (stgs2 (closeOps ops) acts a) rfl hb (agenE_ok hm hih ?_ ops 0 _ t ht')
         rw [absD,List.getD_eq_getElem?_getD,hh]
         exact hQ
        ·cases e
    ·cases e
def nrm (r:Option (T×EH)):Option (AExit×T×EH):=
 match r with
 | some (t,h)=>some (.normal,t,h)
 | none=>none
def evB (lib:List (Ent P G tab)) (inp:List FuncId) (ih:Ih):Ih:=fun c t h =>
 match c with
 | .skip=>some (.normal,t,h)
 | .reg false ops=>nrm (runD lib inp ih 0 ops 0 [] [] [] t h)
 | .reg true ops=>bif seqB 1 ops then nrm (runD lib inp ih 1 ops 0 (flagsOf 1 ops) [] [] t h) else bif seqB 2 ops then nrm (runD lib inp ih 2 ops 0 (flagsOf 2 ops) [] [] t h) else nrm (runG lib inp ih ops t h)
 | .seq a b=>(match ih a t h with
  | none=>none
  | some (e,t',h')=>(match e with
   | .normal=>ih b t' h'
   | .exit j=>some (.exit j,t',h')
   | .ret=>some (.ret,t',h')))
 | .cond c a b=>(match evX t.get c with
  | .bool x=>bif x then ih a t h else ih b t h
  | _=>none)
 | .block id c=>(match ih c t h with
  | none=>none
  | some (e,t',h')=>(match e with
   | .normal=>some (.normal,t',h')
   | .exit j=>bif Nat.beq j id then some (.normal,t',h') else some (.exit j,t',h')
   | .ret=>some (.ret,t',h')))
 | .loop c=>(match ih c t h with
  | none=>none
  | some (e,t',h')=>(match e with
   | .normal=>ih (.loop c) t' h'
   | .exit j=>some (.exit j,t',h')
   | .ret=>some (.ret,t',h')))
 | .exit id=>some (.exit id,t,h)
 | .ret=>some (.ret,t,h)
 | .prim ..=>none
noncomputable def ev (lib:List (Ent P G tab)) (inp:List FuncId) (n:Nat):Ih:=Nat.rec (motive:=fun _=>Ih) (fun _ _ _=>none) (fun _ ih=>evB lib inp ih) n
theorem nrm_some {r:Option (T×EH)} {e:AExit} {t:T} {h:EH} (hn:nrm r=some (e,t,h)):e = .normal∧r=some (t,h):=by
 cases r with
 | none=>cases hn
 | some x =>
  injection hn with hn; injection hn with h1 h2; injection h2 with h2 h3
  exact ⟨h1.symm,by rw [←h2,←h3]⟩
theorem evB_ok (hm:P.follows .mixedOrders=true) {lib:List (Ent P G tab)} {inp:List FuncId} {ih:Ih} (hih:IhOk P G tab ih):IhOk P G tab (evB lib inp ih):=by
 intro c t h e t' h' hr Q hQ
 cases c with
 | skip=>injection hr with hr; injection hr with h1 h2; injection h2 with h2 h3; subst h1; subst h2; subst h3; exact hQ
 | exit id=>injection hr with hr; injection hr with h1 h2; injection h2 with h2 h3; subst h1; subst h2; subst h3; exact hQ
 | ret=>injection hr with hr; injection hr with h1 h2; injection h2 with h2 h3; subst h1; subst h2; subst h3; exact hQ
 | prim n c=>cases hr
 | reg d ops =>
  cases d with
  | false =>
   obtain ⟨rfl,h1⟩:=nrm_some hr
   exact go_regS (runD_ok hm hih (K:=Q .normal) hQ ops 0 [] [] [] t h h1)
  | true =>
   simp only [evB] at hr
   cases h1:seqB 1 ops with
   | true =>
    rw [h1] at hr
    obtain ⟨rfl,h2⟩:=nrm_some hr
    exact go_draw 1 h1 (runD_ok hm hih (K:=Q .normal) hQ ops 0 _ [] [] t h h2)
   | false =>
    rw [h1] at hr
    simp only [cond_false] at hr
    cases h3:seqB 2 ops with
    | true =>
     rw [h3] at hr
     obtain ⟨rfl,h2⟩:=nrm_some hr
     exact go_draw 2 h3 (runD_ok hm hih (K:=Q .normal) hQ ops 0 _ [] [] t h h2)
    | false =>
     rw [h3] at hr
     obtain ⟨rfl,h2⟩:=nrm_some hr
     exact runG_ok hm hih hQ h2
 | seq a b =>
  simp only [evB] at hr
  split at hr
  ·cases hr
  ·next e1 t1 h1 hx =>
   refine go_seq (hih _ _ _ _ _ _ hx _ ?_)
   cases e1 with
   | normal=>exact hih _ _ _ _ _ _ hr _ hQ
   | exit j=>injection hr with hr; injection hr with h1 h2; injection h2 with h2 h3; subst h1; subst h2; subst h3; exact hQ
   | ret=>injection hr with hr; injection hr with h1 h2; injection h2 with h2 h3; subst h1; subst h2; subst h3; exact hQ
 | cond c a b =>
  simp only [evB] at hr
  split at hr
  ·next x hx =>
   cases x with
   | true=>exact go_ct hx (hih _ _ _ _ _ _ hr _ hQ)
   | false=>exact go_cf hx (hih _ _ _ _ _ _ hr _ hQ)
  ·cases hr
 | block id c =>
  simp only [evB] at hr
  split at hr
  ·cases hr
  ·next e1 t1 h1 hx =>
   refine go_blk (hih _ _ _ _ _ _ hx _ ?_)
   cases e1 with
   | normal=>injection hr with hr; injection hr with h1 h2; injection h2 with h2 h3; subst h1; subst h2; subst h3; exact hQ
   | ret=>injection hr with hr; injection hr with h1 h2; injection h2 with h2 h3; subst h1; subst h2; subst h3; exact hQ
   | exit j =>
    simp only at hr
    cases hj:Nat.beq j id with
    | true =>
     rw [hj] at hr
     injection hr with hr; injection hr with h1 h2; injection h2 with h2 h3; subst h1; subst h2; subst h3
     have:=beq_iff.1 hj; subst this
     exact go_be hQ
    | false =>
     rw [hj] at hr
     injection hr with hr; injection hr with h1 h2; injection h2 with h2 h3; subst h1; subst h2; subst h3
     exact go_bo (by rw [beq_eq_false_iff_ne]; exact beq_no.1 hj) hQ
 | loop c =>
  simp only [evB] at hr
  split at hr
  ·cases hr
  ·next e1 t1 h1 hx =>
   cases e1 with
   | normal =>
    obtain ⟨k,hk⟩:=hih _ _ _ _ _ _ hr Q hQ
    exact ⟨k+1,hih _ _ _ _ _ _ hx _ hk⟩
   | exit j=>injection hr with hr; injection hr with h1 h2; injection h2 with h2 h3; subst h1; subst h2; subst h3; exact ⟨1,hih _ _ _ _ _ _ hx _ hQ⟩
   | ret=>injection hr with hr; injection hr with h1 h2; injection h2 with h2 h3; subst h1; subst h2; subst h3; exact ⟨1,hih _ _ _ _ _ _ hx _ hQ⟩
theorem ev_ok (hm:P.follows .mixedOrders=true) (lib:List (Ent P G tab)) (inp:List FuncId):∀ n,IhOk P G tab (ev lib inp n)
 | 0=>fun c t h e t' h' hr=>by cases hr
 | n+1=>evB_ok hm (ev_ok hm lib inp n)
theorem eval (hm:P.follows .mixedOrders=true) (lib:List (Ent P G tab)) (inp:List FuncId) (n:Nat) {f:FuncId} {args:List A} {h:EH} {v:A} (hc:(callE lib inp (ev lib inp n) f args h).map (·.1)=some v):ACall P G f args (h.abs tab) fun v' _=>v'=v:=by
 rw [Option.map_eq_some_iff] at hc
 obtain ⟨⟨v',oh⟩,h1,rfl⟩:=hc
 exact (callE_ok hm (ev_ok hm lib inp n) h1).mono fun _ _ h=>h.1
end
end AX
end Go.Proofs.YtahmpiioegemaaaGreatDoor

namespace Go.Proofs.YtahmpiioegemaaaGreatDoor
open Go.RowKit
namespace AX
def gate (b:Bool) (v:A):Option (A×Option EH):=bif b then (match fR v with | some v=>some (v,none) | none=>none) else none
theorem gate_ok {b:Bool} {v v':A} {oh:Option EH} (h:gate b v=some (v',oh)):b=true∧v'=v∧oh=none:=by
 unfold gate at h
 cases b with
 | false=>cases h
 | true =>
  simp only [cond_true] at h
  split at h
  ·next e=>injection h with h; injection h with h1 h2; exact ⟨rfl,by rw [←h1,fR_ok _ _ e],h2.symm⟩
  ·cases h
abbrev Bs:=List UInt8
def eS {tab:Tab} (f:FuncId) (b:Bs→Bool) (r:Bs→A) (ok:∀ s,b s=true→∀ h,ACall Tryz.prog GT f [.str s] h fun v h'=>v=r s∧h'=h):Ent Tryz.prog GT tab where
 f:=f
 run avs h:=match avs with
  | [.str s]=>gate (b s) (r s)
  | _=>none
 ok avs h v oh e:=by
  split at e
  ·obtain ⟨h1,rfl,rfl⟩:=gate_ok e
   exact ok _ h1 _
  ·cases e
def eSI {tab:Tab} (f:FuncId) (b:Bs→Int→Bool) (r:Bs→Int→A) (ok:∀ s n,b s n=true→∀ h,ACall Tryz.prog GT f [.str s,.int .i64 n] h fun v h'=>v=r s n∧h'=h):Ent Tryz.prog GT tab where
 f:=f
 run avs h:=match avs with
  | [.str s,.int .i64 n]=>gate (b s n) (r s n)
  | _=>none
 ok avs h v oh e:=by
  split at e
  ·obtain ⟨h1,rfl,rfl⟩:=gate_ok e
   exact ok _ _ h1 _
  ·cases e
theorem fS_ok {l m:Bs} (e:mapO fU l=some m):m=l:=mapO_id fU_ok e
def libP {tab:Tab}:List (Ent Tryz.prog GT tab):=[
 eS 127 (fun s=>s.length.ble 2000000) (fun s => .bool (Str.valid s)) (fun s e h=>a_valid s (Nat.le_of_ble_eq_true e) h),
 eS 175 (fun _=>true) (fun s => .int .i64 (Val.textZ s)) (fun s _ h=>a_vtext s h),
 eSI 57 (fun s n=>s.length.ble 1000000000&&decide (-9223372036854775808≤n∧n≤9223372036854775807)) (fun s n => .str (s++Wire.num n)) (fun s n e h=>by
  rw [Bool.and_eq_true,decide_eq_true_eq] at e
  exact a_appendNumber s n (Nat.le_of_ble_eq_true e.1) e.2.1 e.2.2 h),
 eS 33 (fun s=>s.length.ble 1000000000) (fun s => .str (Crc.app s)) (fun s e h=>a_csAppend s (Nat.le_of_ble_eq_true e) h),
 eS 148 (fun s=>s.length.ble 1000000000) (fun s => .tup [.str (Crc.ver s).1,.int .i64 (Crc.ver s).2]) (fun s e h=>a_csVerify s (Nat.le_of_ble_eq_true e) h)]
def tabL:Tab:=fun k d =>
 match k,d with
 | 3,.str l=>lwt l
 | _,_=>dead
abbrev EntL:=Ent Tryz.prog GT tabL
def turnL (h:EH) (i:Nat) (k:Nat) (d:A) (v:A):Option (A×Option EH):=
 match setO h.b i (.obj k d),fR v with
 | some b,some v=>some (v,some ⟨b,h.t⟩)
 | _,_=>none
theorem turnL_ok {h:EH} {i k:Nat} {d v v':A} {oh:Option EH} (e:turnL h i k d v=some (v',oh)):v'=v∧(oh.getD h).abs tabL=⟨(h.abs tabL).b.set i (tabL k d),(h.abs tabL).t⟩:=by
 unfold turnL at e
 split at e
 ·next b v1 e1 e2 =>
  injection e with e; injection e with h1 h2; subst h1; subst h2
  exact ⟨fR_ok _ _ e2,abs_set e1⟩
 ·cases e
def lxE (h:EH) (i:Nat):Option Bs:=
 match h.b[i]? with
 | some (.obj k (.str l))=>bif k.beq 3 then some l else none
 | some (.cells T [.nilp,.sl 0 .nil []])=>bif Nat.beq T 88 then some [] else none
 | _=>none
theorem lxE_ok {h:EH} {i:Nat} {l:Bs} (e:lxE h i=some l):Lt (h.abs tabL) i l:=by
 unfold lxE at e
 split at e
 ·next k l' hb =>
  cases hk:k.beq 3 with
  | false=>rw [hk] at e; cases e
  | true =>
   rw [hk] at e
   injection e with e; subst e
   have:=beq_iff.1 hk; subst this
   exact .inl (abs_get hb)
 ·next T hb =>
  cases hk:Nat.beq T 88 with
  | false=>rw [hk] at e; cases e
  | true =>
   rw [hk] at e
   injection e with e; subst e
   have:=beq_iff.1 hk; subst this
   exact .inr ⟨rfl,abs_get hb⟩
 ·cases e
def eLWrite:EntL where
 f:=43
 run avs h:=match avs with
  | [.ptr i 0,.str s]=>(match lxE h i with
   | some l=>bif (l.length+s.length).ble 1000000000 then (match mapO fU (l++s) with | some m=>turnL h i 3 (.str m) (.tup [.int .i64 s.length,.nili]) | none=>none) else none
   | none=>none)
  | _=>none
 ok avs h v oh e:=by
  split at e
  ·next i s =>
   split at e
   ·next l hw =>
    cases hb:(l.length+s.length).ble 1000000000 with
    | false=>rw [hb] at e; cases e
    | true =>
     rw [hb] at e
     simp only [cond_true] at e
     split at e
     ·next m hm =>
      obtain ⟨rfl,h2⟩:=turnL_ok e
      rw [h2,fS_ok hm]
      exact a_lwrite (lxE_ok hw) s (Nat.le_of_ble_eq_true hb)
     ·cases e
   ·cases e
  ·cases e
def eLLen:EntL where
 f:=42
 run avs h:=match avs with
  | [.ptr i 0]=>(match lxE h i with
   | some l=>gate true (.int .i64 l.length)
   | none=>none)
  | _=>none
 ok avs h v oh e:=by
  split at e
  ·split at e
   ·next hw =>
    obtain ⟨_,rfl,rfl⟩:=gate_ok e
    exact a_llen (lxE_ok hw)
   ·cases e
  ·cases e
def eLStr:EntL where
 f:=44
 run avs h:=match avs with
  | [.ptr i 0]=>(match lxE h i with
   | some l=>bif l.isEmpty then none else turnL h i 2 .nilp (.str l)
   | none=>none)
  | _=>none
 ok avs h v oh e:=by
  split at e
  ·split at e
   ·next l hw =>
    cases hl:l.isEmpty with
    | true=>rw [hl] at e; cases e
    | false =>
     rw [hl] at e
     obtain ⟨rfl,h2⟩:=turnL_ok e
     rw [h2]
     exact a_lstring (lxE_ok hw) (by intro h0; rw [h0] at hl; cases hl)
   ·cases e
  ·cases e
def eClS:EntL where
 f:=135
 run avs h:=match avs with
  | [.sl W0 o []]=>gate true (.sl 1 .no [])
  | _=>none
 ok avs h v oh e:=by
  split at e
  ·obtain ⟨_,rfl,rfl⟩:=gate_ok e
   exact a_clone_strs0 _ _ _
  ·cases e
def eClP:EntL where
 f:=96
 run avs h:=match avs with
  | [.sl W0 o []]=>gate true (.sl 3 .no [])
  | _=>none
 ok avs h v oh e:=by
  split at e
  ·obtain ⟨_,rfl,rfl⟩:=gate_ok e
   exact a_clone_pend0 _ _ _
  ·cases e
def libL:List EntL:=eLWrite::eLLen::eLStr::eClS::eClP::libP
theorem aw35 (h:Hp):ACall Tryz.prog GT 9 [] h fun r h'=>r = .bool true∧h'=h:=
 pcall (eval (tab:=tabL) mixedT libL [75,16] 100000 (h:=⟨[],[]⟩) (by kernel_rfl)) rfl rfl h
end AX
end Go.Proofs.YtahmpiioegemaaaGreatDoor

namespace Go.Proofs.YtahmpiioegemaaaGreatDoor
open Go.RowKit Go.ChangeShapes Go.WideShapes
def Jr.bulkD (r:Jr):Nat:=r.toD.bulk
namespace AX
section
variable {H:Type} {enc:TypeId×Value→H} {w:World} {base:Nat} {spare:Nat→Bool} {held:Bool} {r:Reach} {b0:Nat} {v:Value} {d:DataW H} {p:List MemPlace}
end
structure JrOk (r:Jr):Prop where
 fit:JrFit r
 len:JrLen r
 st:Sf.Fit r.base
theorem jr_ok {r:Jr} (hw:r.Wf) (hb:r.toD.bulk≤1048576):JrOk r:=by
 have hf:=jr_fit hw hb
 have hi:=Sf.instE_bulk 2 r.after
 unfold Jr.toD at hb
 simp only [D.bulk,D.bulks] at hb
 obtain ⟨s1,s2,s3,s4,s5,s6,s7,s8⟩:=hf.strs
 refine ⟨hf,⟨?_,by omega,s4,hf.few.inn.lens⟩,Sf.fit_of hw.base (by omega)⟩
 have n1:=num10 r.step
 have n2:=num10 r.op
 have e1:=strE10 r.addr
 have e2:=strE10 r.dep
 have e3:=strE10 r.typ
 unfold Jr.stepE
 simp only [List.length_append]
 omega
theorem JrOk.encP {r:Jr} (ok:JrOk r):∀ h,ACall Tryz.prog GT 10 [.agg r.cells] h fun v h'=>v = .tup [.str (Jr.enc r).1,.int .i64 (Jr.enc r).2]∧h'=h:=
 a_jencode r ok.len ok.fit.few.inn.deps (a_stateCheck r.base ok.st.sin) fun hz=>⟨Sf.stOk_of hz ok.st.sin,ok.st.len 2⟩
theorem enc_size (r:Jr):(Jr.enc r).1.length≤1048576:=by
 unfold Jr.enc
 split
 ·simp
 split
 ·simp
 split
 ·simp
 ·dsimp only
  omega
theorem JrOk.baseOk {r:Jr} (ok:JrOk r) (h:(Jr.enc r).2=0):Jr.BaseOk r:=fun k=>by
 have hv:=(Jr.enc_ok h).1
 have he:(Sf.encode 2 r.base).2=0:=by
  by_cases e:(Sf.encode 2 r.base).2=0
  ·exact e
  ·unfold Jr.enc at h
   rw [if_neg (by rw [hv]; decide),if_pos ⟨k,e⟩] at h
   exact h
 have hz:Sf.checkZ r.base=0:=by
  by_cases z:Sf.checkZ r.base=0
  ·exact z
  ·unfold Sf.encode at he
   rw [if_pos z] at he
   exact he
 have hg:(Sf.stE 2 r.base).length≤1048572:=by
  by_cases g:1048572 < (Sf.stE 2 r.base).length
  ·unfold Sf.encode at he
   rw [if_neg (by simp [hz]),if_pos g] at he
   exact absurd (show (3:Int)=0 from he) (by decide)
  ·omega
 obtain ⟨d1,d2⟩:=Sf.decode_enc 2 (.inr rfl) r.base hz ok.st.sin ok.st.tin hg
 rw [show Sf.oldS 2 r.base=r.base from if_pos rfl] at d2
 rw [d1]
 refine ⟨d2,?_⟩
 show (Crc.app _).length≤_
 simp [Crc.app,Crc.four_length]
 omega
end AX
end Go.Proofs.YtahmpiioegemaaaGreatDoor

namespace Go.Proofs.YtahmpiioegemaaaGreatDoor
open Go.RowKit
namespace AX
def c_jlbytes:AX.AFn:=⟨9,aS [aR 2 (.mv (.c (.str [])))] (.seq (aS [aM 3 0,aR 4 (.eq 1 [] false (.t 3) (.c (.nilp)))] (.cond (.t 4) (aS [aR 2 (.mv (.c (.str [])))] (.ret)) (.skip))) (aS [aM 5 0,aR 6 (.nilck (.t 5)),aF 7 0 6,aR 8 (.call 44 [.t 7]),aM 2 8] (.ret))),[.t 2]⟩
theorem h_jlbytes:AX.compFn Tryz.prog 19=some c_jlbytes:=by kernel_rfl
def c_jlnew:AX.AFn:=⟨3,aS [aR 0 (.mv (.c (.nilp)))] (aS [aR 1 (.build [.nilp,.sl 0 .nil []] []),aR 2 (.box 88 (.t 1)),aM 0 2] (.ret)),[.t 0]⟩
theorem h_jlnew:AX.compFn Tryz.prog 16=some c_jlnew:=by kernel_rfl
theorem a_jlnew (h:Hp):ACall Tryz.prog GT 16 [] h fun v h'=>v = .ptr h.b.length 0∧h'=⟨h.b++[.cells 88 [.nilp,.sl 0 .nil []]],h.t⟩:=by
 refine acall_of mixedT h_jlnew (by simp [c_jlnew]) ?_
 dsimp only [c_jlnew]
 refine run0 ti ?_
 exact ⟨_,le_refl _,rfl,rfl⟩
theorem a_jlbytes {h:Hp} {i:Nat} {l:List UInt8} (hw:Lt h i l) (h0:l≠[]):ACall Tryz.prog GT 19 [.ptr i 0] h fun v h'=>v = .str l∧h'=⟨h.b.set i (lwt l),h.t⟩:=by
 have hi:=hw.lt
 refine acall_of mixedT h_jlbytes (by simp [c_jlbytes]) ?_
 dsimp only [c_jlbytes]
 refine run0 ti ?_
 refine use (a_lstring2 hw h0) ?_
 refine run0 ti ?_
 exact ⟨_,le_refl _,rfl,rfl⟩
end AX
namespace Jr
open Sf (Rs rd numS strS flagS cntS Took)
theorem zeroI_lens:zeroI.attrs.lens:=Val.zero_lens
theorem stepJ_le (s:Rs) (x:Jr):(stepJ s x).1.r.rest.length≤s.r.rest.length:=
 Nat.le_trans (Sf.strS_le _) (Nat.le_trans (Sf.strS_le _) (Nat.le_trans (Sf.strS_le _) (Nat.le_trans (Sf.numS_le _) (Sf.numS_le _))))
theorem instJ_lens (s:Rs) (hs:s.r.rest.length≤100000000):(instJ s).2.attrs.lens:=by
 have e1:=Sf.strS_le s
 have e2:=Sf.strS_le (strS s).1
 have e3:=Sf.strS_le (strS (strS s).1).1
 have e4:=Sf.strS_le (strS (strS (strS s).1).1).1
 have lv:=AX.readValue_lens (strS (strS (strS (strS s).1).1).1).1.r (by omega)
 unfold instJ
 dsimp only
 split
 ·exact zeroI_lens
 ·split
  ·exact zeroI_lens
  ·exact lv
theorem recJ_lens (l:List UInt8) (hl:l.length≤100000000):(recJ l).1.after.attrs.lens:=by
 have e0:=Sf.numS_le (rd l)
 have e0':(rd l).r.rest.length=l.length:=rfl
 unfold recJ
 dsimp only
 obtain ⟨q,hq⟩:∃ q,numS (rd l)=q:=⟨_,rfl⟩
 rw [hq] at e0 ⊢
 unfold partJ
 dsimp only
 split
 ·exact zeroI_lens
 ·split
  ·exact zeroI_lens
  ·split
   ·exact instJ_lens _ (Nat.le_trans (stepJ_le q.1 _) (by omega))
   ·split
    ·exact instJ_lens _ (Nat.le_trans (Sf.numS_le _) (Nat.le_trans (stepJ_le q.1 _) (by omega)))
    ·exact zeroI_lens
theorem wordsE_len:∀ ws:List (List UInt8),ws.length≤(Sf.wordsE ws).length
 | []=>Nat.zero_le _
 | w::ws=>by
  have ih:=wordsE_len ws
  have h1:1≤(Wire.num w.length).length:=by
   have:=AX.num_ne (w.length:Int)
   cases h:Wire.num (w.length:Int) with
   | nil=>exact absurd h this
   | cons a t=>simp
  have:Sf.wordsE (w::ws)=Wire.num w.length++w++Sf.wordsE ws:=by simp [Sf.wordsE,Wire.strE]
  rw [this]
  simp only [List.length_append,List.length_cons]
  omega
theorem deps_le (x:Sf.Inst):x.deps.length≤(Sf.instE 2 x).length:=by
 have:=wordsE_len x.deps
 unfold Sf.instE
 simp only [List.length_append]
 omega
theorem zero_in:AX.Sf.StIn Sf.zero:=⟨by decide,by simp [Sf.zero],by simp [Sf.zero],by simp [Sf.zero],by decide,by decide,by decide⟩
theorem rec_size {l:List UInt8} {x:Jr} (h:recJ l=(x,true)) (hl:l.length≤2000000) :
  (stepE x).length≤100000000∧(Sf.instE 2 x.after).length≤100000000∧x.tok.length≤2000000∧x.after.attrs.lens∧x.after.deps.length≤1000000000∧AX.Sf.StIn x.base∧(Sf.checkZ x.base=0→AX.Sf.StOk x.base∧(Sf.stE 2 x.base).length+20≤1000000000):=by
 have hlens:x.after.attrs.lens:=by
  have:=recJ_lens l (by omega)
  rw [h] at this
  exact this
 have hz:(Sf.instE 2 zeroI).length≤100:=by decide +kernel
 have hb:AX.Sf.StIn Sf.zero∧(Sf.checkZ Sf.zero=0→AX.Sf.StOk Sf.zero∧(Sf.stE 2 Sf.zero).length+20≤1000000000):=
  ⟨zero_in,fun e=>⟨Sf.stOk_of e zero_in,by decide +kernel⟩⟩
 have hd:=deps_le x.after
 have sl:∀ s:List UInt8,s.length≤(Wire.strE s).length:=fun s=>by unfold Wire.strE; rw [List.length_append]; omega
 rcases rec_took h with ⟨k1,ka,kt,k2,k3,k4,k5,k6,B,kl,kB⟩ | ⟨k1,kb,ka,kl⟩ | ⟨k1,kb,kt,kl⟩ | ⟨k1,kb,kt,kl⟩ | k
 ·have hB:B.length≤2000000:=by
   have:=sl B
   have:=congrArg List.length kl
   simp only [List.length_append] at this
   omega
  obtain ⟨ver,hver,hvs,hck,henc,hlen,hp1,s0,hs0,hst⟩:=Sf.decode_back kB
  have hin:AX.Sf.StIn x.base:=by rw [hst]; exact Sf.state_in ver s0 (by omega)
  refine ⟨?_,by rw [ka]; omega,by rw [kt]; decide,hlens,by rw [ka]; decide,hin,fun e=>⟨Sf.stOk_of hck hin,?_⟩⟩
  ·unfold stepE
   rw [k2,k3,k4,k5,k6]
   decide +kernel
  ·have hparts:=Sf.check_parts hck
   rcases hver with rfl | rfl
   ·have:=Sf.stE_two x.base (hp1 rfl)
    omega
   ·omega
 ·have:=congrArg List.length kl
  simp only [List.length_append] at this
  have:=sl x.tok
  exact ⟨by omega,by rw [ka]; omega,by omega,hlens,by rw [ka]; decide,by rw [kb]; exact hb.1,by rw [kb]; exact hb.2⟩
 ·have:=congrArg List.length kl
  simp only [List.length_append] at this
  exact ⟨by omega,by omega,by rw [kt]; decide,hlens,by omega,by rw [kb]; exact hb.1,by rw [kb]; exact hb.2⟩
 ·have:=congrArg List.length kl
  simp only [List.length_append] at this
  exact ⟨by omega,by omega,by rw [kt]; decide,hlens,by omega,by rw [kb]; exact hb.1,by rw [kb]; exact hb.2⟩
 ·generalize x.kind=kd at k
  subst k
  refine ⟨?_,Nat.le_trans hz (by decide),Nat.zero_le _,zeroI_lens,Nat.zero_le _,hb.1,hb.2⟩
  have:(stepE zeroR).length≤100000000:=by decide +kernel
  exact this
end Jr
end Go.Proofs.YtahmpiioegemaaaGreatDoor

namespace Go.Proofs.YtahmpiioegemaaaGreatDoor
open Go.RowKit
namespace AX
theorem a_jfirstA (b:List UInt8) (hl:b.length≤2000000) (h:Hp) :
  ACall Tryz.prog GT 39 [.str b] h fun v h'=>v=firstA b∧h'=h:=by
 refine a_jfirst b hl (fun x hx h=>?_) h
 have ht:(Sf.strS (Sf.rd b)).2.length≤2000000:=Nat.le_trans (Sf.strS_len (Sf.rd b)) hl
 obtain ⟨h1,h2,h3,h4,h5,h6,h7⟩:=Jr.rec_size hx ht
 exact a_jencode x ⟨h1,h2,h3,h4⟩ h5 (a_stateCheck x.base h6) h7 h
def c_jread1:AX.AFn:=⟨28,aS [aR 2 (.mv (.c (.sl 0 .nil []))),aR 3 (.mv (aI 0))] (aS [aR 4 (.mv (.c (.sl 0 .nil [])))] (aS [aR 5 (.mv (aI 0))] (.block 0 (.loop (.block 1 (aS [aM 10 0,aM 11 5,aR 12 (.ssl (.t 10) (some (.t 11)) none),aR 13 (.call 39 [.t 12]),aM 9 13,aE 14 9 0,aE 15 9 1,aE 16 9 2,aR 6 (.alloc 38 [.int .i64 0,.str [],.int .i64 0,.sl 0 .nil [],.sl 0 .nil [],.sl 0 .nil [],.int .i64 0,.int .i64 0,.str [],.str [],.str [],.str [],.int .i64 0,.str [],.str [],.str [],.str [],.int .i64 0,.int .i64 0,.str [],.sl 0 .nil [],.sl 0 .nil [],.int .i64 0,.bool false,.bool false,.sl 0 .nil []]),aU (.store 26 (.t 6) (.t 14)),aM 7 15,aM 8 16] (.seq (aS [aM 17 8,aR 18 (.un .not (.t 17))] (.cond (.t 18) (aS [aM 19 4,aM 20 5,aM 2 19,aM 3 20] (.ret)) (.skip))) (aS [aM 21 4,aR 22 (.load true 26 (.t 6)),aR 23 (.mks 26 [.t 22]),aR 24 (.app 38 26 376 (.t 21) (.t 23)),aM 4 24] (.reg false [aM 25 5,aM 26 7,aR 27 (.bin .add (.t 25) (.t 26)),aM 5 27]))))))))),[.t 2,.t 3]⟩
theorem h_jread1:AX.compFn Tryz.prog 12=some c_jread1:=by kernel_rfl
theorem jrs_pure (rs:List Jr) (n:Int):(A.tup [.sl 26 .no (rs.map Jr.cells),.int .i64 n]).pure=true:=by
 simp [A.pure,A.data]
theorem a_jread (b:List UInt8) (hl:b.length≤2000000) (h:Hp) :
  ACall Tryz.prog GT 12 [.str b] h fun v h'=>v = .tup [.sl 26 .no ((Jr.readJ b).1.map Jr.cells),.int .i64 ((Jr.readJ b).2:Nat)]∧h'=h:=by
 refine pcall ?_ (jrs_pure _ _) (by simp [A.pure,A.data]) h
 refine acall_of mixedT h_jread1 (by simp [c_jread1]) ?_
 dsimp only [c_jread1]
 refine run0 ti ?_
 refine awp_loop (fun mm ts h=>∃ (a:Nat) (rs:List Jr) (W:Nat) (o:Own) (l:List Blk) (t:List (TypeId×Nat×Nat)),mm=b.length - a∧a≤b.length∧h=⟨l,t⟩∧Jr.readJ b=(rs++(Jr.readJ (b.drop a)).1,a+(Jr.readJ (b.drop a)).2)∧rs.length≤a∧Gs 38 26 0 ⟨[],t⟩ (rs.map Jr.cells) (.sl W o (rs.map Jr.cells))∧ts 0 = .str b∧ts 4 = .sl W o (rs.map Jr.cells)∧ts 5 = .int .i64 (a:Nat)) b.length ?_ ?_
 ·exact ⟨0,[],0,.nil,[],[],by omega,by omega,rfl,by simp,by simp,.inl ⟨rfl,rfl⟩,by (exact ev0 ti),by (exact ev0 ti),by (exact inv0 ti)⟩
 rintro mm ts h ⟨a,rs,W,o,l,t,rfl,ha,rfl,hr,hn,gX,t0,t4,t5⟩
 have cf:=a_jfirstA (b.drop a) (by rw [List.length_drop]; omega)
 have hs:(0:Int)≤(a:Int)∧(a:Int)≤(b.length:Int):=by omega
 cases hF:Jr.firstJ (b.drop a) with
 | none =>
  have hA:firstA (b.drop a) = .tup [.agg Jr.zeroR.cells,.int .i64 0,.bool false]:=by unfold firstA; rw [hF]
  rw [hA] at cf
  rw [Jr.readJ_none hF] at hr
  simp only [Jr.cells,Jr.zeroR,Jr.zeroI,Sf.zero,Sf.Inst.cells,List.cons_append,List.nil_append] at cf
  rw [hr]
  refine run0 (ai t0 (ai t4 (ai t5 hs))) ?_
  refine use (cf _) ?_
  refine run0 (ai t0 (ai t4 (ai t5 hs))) ?_
  exact ⟨.tup [.sl 26 .no (rs.map Jr.cells),.int .i64 (a:Nat)],⟨Gs.le gX,le2_refl _,trivial⟩,by simp⟩
 | some p =>
  obtain ⟨x,n⟩:=p
  have hsm:=Jr.first_some hF
  have hA:firstA (b.drop a) = .tup [.agg x.cells,.int .i64 (n:Nat),.bool true]:=by unfold firstA; rw [hF]
  rw [hA] at cf
  rw [Jr.readJ_cons hF,List.drop_drop] at hr
  have hlen:n≤b.length - a:=by have:=hsm.2.2; rw [List.length_drop] at this; exact this
  have ei:IntKind.i64.wrap ((a:Int)+(n:Int))=((a+n:Nat):Int):=by rw [wrap64 (by omega) (by omega)]; omega
  obtain ⟨W',o',t',hX,gX',kX⟩:=gX.grow 376 x.cells (by rw [List.length_map]; omega) (by decide)
  have em:rs.map Jr.cells++[x.cells]=(rs++[x]).map Jr.cells:=by simp
  rw [em] at gX'
  simp only [em] at hX
  obtain ⟨rs2,hrs⟩:∃ r,rs++[x]=r:=⟨_,rfl⟩
  have hr2:Jr.readJ b=(rs2++(Jr.readJ (b.drop (a+n))).1,(a+n)+(Jr.readJ (b.drop (a+n))).2):=by
   rw [hr,←hrs,Nat.add_assoc]
   simp
  have hn2:rs2.length≤a+n:=by rw [←hrs]; simp; omega
  rw [hrs] at gX' hX
  clear hrs hr em hA hF
  have h4:=hsm.2.1
  clear hsm
  obtain ⟨B,hB⟩:∃ B,B=Blk.cells 38 x.cells:=⟨_,rfl⟩
  obtain ⟨kd,⟨lin,ser,ins,ps,os⟩,st,op,ad,dp,ty,tk,er,⟨a1,a2,a3,a4,⟨k,nn,ss,is,ks⟩,v,tn,fi,ds⟩⟩:=x
  simp only [Jr.cells,Sf.Inst.cells,List.cons_append,List.nil_append] at cf hX hB
  refine run0 (ai t0 (ai t4 (ai t5 hs))) ?_
  refine use (cf _) ?_
  refine run0 (ai t0 (ai t4 (ai t5 (ai hs (ai hX ei))))) ?_
  exact ⟨b.length - (a+n),by omega,a+n,rs2,W',o',l++[B],t',rfl,by omega,by rw [hB],hr2,hn2,gX',by (exact ev0 t0),by (exact ev0 ti),by (exact ev0 ei)⟩
end AX
set_option maxRecDepth 100000 in
theorem lf_string0 {F:Nat→Prop} {b cap:Nat} {p:Value} {w:World} (hbk:w.heap[b]?=some (.cells #[p,.slice none 0 cap] 88 (0,0))) :
  Calls Tryz.prog 44 #[.pointer (some ⟨b,0,none⟩)] w fun e w'=>e = .returned (.string .empty)∧w'.heap=w.heap∧Fr F w w':=by
 have c1:w.drew.cell? ⟨b,1,none⟩=some (.slice none 0 cap):=(cell_row2 hbk).2.1
 have hSD:(Builtin.unsafeSliceData_ #[61] 133 #[.slice none 0 cap]).run Tryz.prog w.drew = .ok (.pointer none) w.drew:=
  Lib.run_unsafeSliceData_nil _ _ _ _ _
 have hUS:(Builtin.unsafeString_ #[133,3] 9 #[.pointer none,.int .i64 0]).run Tryz.prog w.drew = .ok (.string .empty) w.drew:=
  Lib.run_unsafeString_none _ _ _ _ _
 have Hfr:=kept (show w.drew.heap=w.heap∧Fr F w w.drew from ⟨rfl,⟨rfl,rfl,rfl,Nat.le_refl _,fun _ _ _=>rfl⟩⟩)
 clear hbk
 have mixed:=Tryz.lays169.mixed
 go_enter Tryz.func44,Tryz.ntmps44
 go_wp2
 go_region_o
 all_goals (go_wp2; go_ret; exact ⟨rfl,Hfr.out.1,Hfr.out.2⟩)
namespace AX
theorem a_lstring0 {h:Hp} {i:Nat} (h1:h.b[i]?=some (.cells 88 [.nilp,.sl 0 .nil []])):ACall Tryz.prog GT 44 [.ptr i 0] h fun v h'=>v = .str []∧h'=h:=by
 intro C es hI ha
 obtain ⟨c,es',rfl,g1,g2⟩:=repL_cons.1 ha
 obtain ⟨rfl,hi⟩:=rep_ptr.1 g1
 rw [repL_nil] at g2; subst g2
 obtain ⟨cs,k1,k2⟩:=hI.box i _ h1
 obtain ⟨c0,d0,rfl,e0,k2⟩:=repL_cons.1 k2
 obtain ⟨c1,d1,rfl,e1,k2⟩:=repL_cons.1 k2
 rw [repL_nil] at k2; subst k2
 rw [rep_nilp] at e0; subst e0
 obtain ⟨a,cap,rfl,f1,f2,e3,e4,e5⟩:=rep_sl.1 e1
 subst e3; subst e4
 refine (lf_string0 (F:=fun g=>C.own g=some i) k1).mono ?_
 rintro e w' ⟨rfl,mh,m2⟩
 have hrep:BlkRep (C.turn w' i false) i (.cells 88 [.nilp,.sl 0 .nil []]):=by
  refine ⟨[.pointer none,.slice none 0 0],by show w'.heap[C.κ i]?=_; rw [mh]; exact k1,repL_cons.2 ⟨_,_,rfl,rep_nilp.2 rfl,repL_cons.2 ⟨_,_,rfl,?_,repL_nil.2 rfl⟩⟩⟩
  exact rep_sl.2 ⟨none,0,rfl,f1,by simp [RepRows],by simp [RepOwn]⟩
 obtain ⟨i1,s1⟩:=box_turn (b':=.cells 88 [.nilp,.sl 0 .nil []]) false hI hi m2.os m2.tape m2.output m2.size (fun g hg hne=>m2.block g hg hne) (fun _=>hrep)
 have hh:(⟨h.b.set i (.cells 88 [.nilp,.sl 0 .nil []]),h.t⟩:Hp)=h:=by
  have hs:h.b.set i (.cells 88 [.nilp,.sl 0 .nil []])=h.b:=by
   apply List.ext_getElem?
   intro j
   by_cases e:i=j
   ·subst e
    rw [List.getElem?_set_self (by have:=(List.getElem?_eq_some_iff.1 h1).1; exact this),h1]
   ·rw [List.getElem?_set_ne e]
  rw [hs]
 rw [hh] at i1
 exact ⟨_,_,.str [],_,rfl,rfl,i1,s1,rep_str.2 rfl,rfl,rfl⟩
def c_jlbytes0:AX.AFn:=⟨9,aS [aR 2 (.mv (.c (.str [])))] (.seq (aS [aM 3 0,aR 4 (.eq 1 [] false (.t 3) (.c (.nilp)))] (.cond (.t 4) (aS [aR 2 (.mv (.c (.str [])))] (.ret)) (.skip))) (aS [aM 5 0,aR 6 (.nilck (.t 5)),aF 7 0 6,aR 8 (.call 44 [.t 7]),aM 2 8] (.ret))),[.t 2]⟩
theorem h_jlbytes0:AX.compFn Tryz.prog 19=some c_jlbytes0:=by kernel_rfl
theorem a_jlbytes0 {h:Hp} {i:Nat} (h1:h.b[i]?=some (.cells 88 [.nilp,.sl 0 .nil []])):ACall Tryz.prog GT 19 [.ptr i 0] h fun v h'=>v = .str []∧h'=h:=by
 have hi:i < h.b.length:=(List.getElem?_eq_some_iff.1 h1).1
 refine acall_of mixedT h_jlbytes0 (by simp [c_jlbytes0]) ?_
 dsimp only [c_jlbytes0]
 refine run0 ti ?_
 refine use (a_lstring0 h1) ?_
 refine run0 ti ?_
 exact ⟨_,le_refl _,rfl,rfl⟩
theorem a_jlapp {l:List UInt8} (hl:l.length≤1048576) (r:Jr) (he:(Jr.enc r).1.length≤1048576) (cE:∀ h,ACall Tryz.prog GT 10 [.agg r.cells] h fun v h'=>v = .tup [.str (Jr.enc r).1,.int .i64 (Jr.enc r).2]∧h'=h) {h:Hp} {i:Nat} (hb:h.b[i]?=some (lgB l)) :
  ACall Tryz.prog GT 18 [.ptr i 0,.agg r.cells] h fun v h'=>v = .int .i64 (Jr.appE l r).2∧h'=⟨h.b.set i (lgB (Jr.appE l r).1),h.t⟩:=by
 have key:ACall Tryz.prog GT 18 [.ptr 0 0,.agg r.cells] ⟨[lgB l],[]⟩ fun v h'=>∃ b',h'.b[0]?=some b'∧v = .int .i64 (Jr.appE l r).2∧b'=lgB (Jr.appE l r).1:=
  (a_jlappend (h:=⟨[lgB l],[]⟩) (i:=0) rfl hl r he cE).mono fun v h' ⟨e,h1,_⟩=>⟨_,h1,e,rfl⟩
 refine (ACall.lift1 key (jr_loc r) (lgB_loc l) ?_ hb).mono ?_
 ·rintro v b' ⟨rfl,rfl⟩
  exact ⟨rfl,lgB_loc _⟩
 ·rintro v h' ⟨b',⟨rfl,rfl⟩,rfl⟩
  exact ⟨rfl,rfl⟩
theorem hp_set (h:Hp) (i:Nat) (x:Blk) (hb:h.b[i]?=some x):(⟨h.b.set i x,h.t⟩:Hp)=h:=by
 obtain ⟨b,t⟩:=h
 obtain ⟨h1,h2⟩:=List.getElem?_eq_some_iff.1 hb
 have:b.set i x=b:=by rw [←h2]; exact List.set_getElem_self h1
 dsimp only
 rw [this]
theorem a_jlb {h:Hp} {i:Nat} {l:List UInt8} (hb:h.b[i]?=some (lgB l)):ACall Tryz.prog GT 19 [.ptr i 0] h fun v h'=>v = .str l∧h'=h:=by
 by_cases h0:l=[]
 ·subst h0
  exact a_jlbytes0 hb
 ·refine (a_jlbytes (lgB_lt hb) h0).mono ?_
  rintro v h' ⟨rfl,rfl⟩
  have e:lgB l=lwt l:=if_neg h0
  exact ⟨rfl,hp_set h i _ (by rw [hb,e])⟩
end AX
end Go.Proofs.YtahmpiioegemaaaGreatDoor

namespace Go.Proofs.YtahmpiioegemaaaGreatDoor
namespace Jr
def logF:List Jr→List UInt8→List Jr→List UInt8×List Jr
 | [],b,ks=>(b,ks)
 | r::rs,b,ks=>logF rs (appE b r).1 (if (appE b r).2=0 then ks++[r] else ks)
theorem logF_cons (r:Jr) (rs:List Jr) (b:List UInt8) (ks:List Jr):logF (r::rs) b ks=logF rs (appE b r).1 (if (appE b r).2=0 then ks++[r] else ks):=rfl
theorem appE_zero {b:List UInt8} {r:Jr} (h:(appE b r).2=0):(enc r).2=0∧(appE b r).1=b++(enc r).1∧b.length+(enc r).1.length≤1048576:=by
 unfold appE at h ⊢
 by_cases e:(enc r).2≠0
 ·rw [if_pos e] at h; exact absurd h e
 rw [if_neg e] at h ⊢
 by_cases g:1048576 < b.length+(enc r).1.length
 ·rw [if_pos g] at h; exact absurd (show (3:Int)=0 from h) (by decide)
 rw [if_neg g]
 exact ⟨by simpa using e,rfl,by omega⟩
theorem appE_not {b:List UInt8} {r:Jr} (h:(appE b r).2≠0):(appE b r).1=b:=by
 unfold appE at h ⊢
 by_cases e:(enc r).2≠0
 ·rw [if_pos e]
 rw [if_neg e] at h ⊢
 by_cases g:1048576 < b.length+(enc r).1.length
 ·rw [if_pos g]
 ·rw [if_neg g] at h; exact absurd rfl h
theorem encs_snoc (ks:List Jr) (r:Jr):encs (ks++[r])=encs ks++(enc r).1:=by simp [encs]
theorem logF_encs:∀ (rs:List Jr) (b:List UInt8) (ks:List Jr),b=encs ks→b.length≤1048576→(∀ r∈ks,(enc r).2=0∧BaseOk r)→(∀ r∈rs,(enc r).2=0→BaseOk r) →
  (logF rs b ks).1=encs (logF rs b ks).2∧(logF rs b ks).1.length≤1048576∧∀ r∈(logF rs b ks).2,(enc r).2=0∧BaseOk r
 | [],b,ks,h,hl,hk,_=>⟨h,hl,hk⟩
 | r::rs,b,ks,h,hl,hk,hr=>by
  unfold logF
  by_cases e:(appE b r).2=0
  ·obtain ⟨e1,e2,e3⟩:=appE_zero e
   rw [if_pos e]
   refine logF_encs rs _ _ (by rw [e2,encs_snoc,←h]) (by rw [e2,List.length_append]; exact e3) (fun x hx=>?_) (fun x hx=>hr x (List.mem_cons_of_mem _ hx))
   rcases List.mem_append.1 hx with hx | hx
   ·exact hk x hx
   ·rw [List.mem_singleton.1 hx]; exact ⟨e1,hr r List.mem_cons_self e1⟩
  ·rw [if_neg e,appE_not e]
   exact logF_encs rs _ _ h hl hk (fun x hx=>hr x (List.mem_cons_of_mem _ hx))
def offs (ks:List Jr):List Nat:=(List.range ks.length).map fun i=>(encs (ks.take (i+1))).length
theorem offs_len (ks:List Jr):(offs ks).length=ks.length:=by simp [offs]
theorem offs_snoc (ks:List Jr) (r:Jr):offs (ks++[r])=offs ks++[(encs (ks++[r])).length]:=by
 unfold offs
 rw [List.length_append,List.length_singleton,List.range_succ,List.map_append,List.map_singleton]
 congr 1
 ·apply List.map_congr_left
  intro i hi
  have:=List.mem_range.1 hi
  rw [List.take_append_of_le_length (by omega)]
 ·rw [List.take_of_length_le (by simp)]
theorem offs_at (ks:List Jr) (i:Nat) (h:i < ks.length):(offs ks)[i]'(by rw [offs_len]; exact h)=(encs (ks.take (i+1))).length:=by
 simp [offs]
end Jr
namespace Jr
theorem encs_cons (r:Jr) (l:List Jr):encs (r::l)=(enc r).1++encs l:=by simp [encs]
end Jr
theorem hit1_take (l:List UInt8) (i h:Nat) (x:UInt8) (hi:h≤i):(hit1 l i x).take h=l.take h:=by
 unfold hit1
 rw [List.take_set_of_le hi]
theorem hit_take (l:List UInt8) (i m h:Nat) (hi:h≤i):(hit l i m).take h=l.take h:=by
 unfold hit
 rw [hit1_take _ _ _ _ (by omega),hit1_take _ _ _ _ (by omega),hit1_take _ _ _ _ (by omega),hit1_take _ _ _ _ (by omega)]
theorem hit_len (l:List UInt8) (i m:Nat):(hit l i m).length=l.length:=by simp [hit,hit1]
namespace Jr
open Sf (Rs rd numS strS flagS cntS)
theorem first_hit (r:Jr) (rest:List UInt8) (i m:Nat) (h:(enc r).2=0) (hi:(Wire.num r.body.length).length≤i) (hl:i+4≤(enc r).1.length) (h0:m≠0) (hm:m < 4294967296):firstJ (hit (enc r).1 i m++rest)=none:=by
 cases hf:firstJ (hit (enc r).1 i m++rest) with
 | none=>rfl
 | some p =>
  exfalso
  obtain ⟨x,n⟩:=p
  obtain ⟨h1,h2,h3⟩:=first_some hf
  obtain ⟨_,he,hle⟩:=enc_ok h
  obtain ⟨_,hx,hxl⟩:=enc_ok (r:=x) (by rw [h1])
  have hbad:=burst_bad (Wire.strE r.body) (hit (enc r).1 i m) (8*i) (by
   have:(enc r).1.length=(Wire.strE r.body).length+4:=by rw [he]; simp [Crc.app,Crc.four_length]
   omega) (by
   have:=hit_flipped (enc r).1 i m hl hm
   rw [decide_eq_true h0] at this
   rw [←he]
   exact this)
  have hlen:=hit_len (enc r).1 i m
  have htk:=hit_take (enc r).1 i m _ hi
  obtain ⟨D,hD⟩:∃ D,hit (enc r).1 i m=D:=⟨_,rfl⟩
  rw [hD] at hbad hlen htk h1 h3 hf
  have hel:(enc r).1.length=(Wire.num r.body.length).length+r.body.length+4:=by
   rw [he]; simp [Crc.app,Crc.four_length,Wire.strE]; omega
  have hd:D=Wire.num r.body.length++D.drop (Wire.num r.body.length).length:=by
   have e:(enc r).1.take (Wire.num r.body.length).length=Wire.num r.body.length:=by
    rw [he]
    unfold Crc.app Wire.strE
    rw [List.append_assoc,List.take_append_of_le_length (Nat.le_refl _),List.take_length]
   conv=>lhs; rw [←List.take_append_drop (Wire.num r.body.length).length D,htk,e]
  obtain ⟨T,hT⟩:∃ T,D.drop (Wire.num r.body.length).length=T:=⟨_,rfl⟩
  rw [hT] at hd
  have hTl:T.length=r.body.length+4:=by
   have:=congrArg List.length hd
   rw [List.length_append] at this
   omega
  have hs:strS (rd (D++rest))=(rd (T.drop r.body.length++rest),T.take r.body.length):=by
   have e2:D++rest=Wire.strE (T.take r.body.length)++(T.drop r.body.length++rest):=by
    unfold Wire.strE
    rw [List.length_take,Nat.min_eq_left (by omega),hd,List.append_assoc,List.append_assoc,←List.append_assoc (T.take _),List.take_append_drop]
   rw [e2]
   refine Sf.str_enc _ _ ?_
   rw [List.length_take]
   rw [hel] at hl
   have hq:(enc r).1.length≤1048576:=by rw [he]; exact hle
   omega
  have hn:n=D.length:=by
   unfold firstJ at hf
   split at hf
   ·cases hf
   dsimp only at hf
   rw [hs] at hf
   split at hf
   ·cases hf
   split at hf
   ·cases hf
   split at hf
   ·cases hf
   injection hf with hf; injection hf with _ e
   rw [←e]
   show (D++rest).length - (T.drop r.body.length++rest).length+4=_
   rw [List.length_append,List.length_append,List.length_drop,hTl]
   omega
  rw [hn,List.take_left] at h1
  rw [h1] at hx
  dsimp only at hx
  rw [hx,ver_app] at hbad
  have:=congrArg Prod.snd hbad
  cases this
end Jr
end Go.Proofs.YtahmpiioegemaaaGreatDoor

namespace Go.Proofs.YtahmpiioegemaaaGreatDoor
theorem hit1_app (a b c:List UInt8) (j:Nat) (x:UInt8) (h:j < b.length):hit1 (a++(b++c)) (a.length+j) x=a++(hit1 b j x++c):=by
 unfold hit1
 have e:(a++(b++c)).getD (a.length+j) 0=b.getD j 0:=by
  rw [List.getD_eq_getElem?_getD,List.getD_eq_getElem?_getD,List.getElem?_append_right (by omega),Nat.add_sub_cancel_left,List.getElem?_append_left h]
 rw [e,List.set_append_right _ _ (by omega),Nat.add_sub_cancel_left,List.set_append_left _ _ h]
theorem hit1_len (b:List UInt8) (j:Nat) (x:UInt8):(hit1 b j x).length=b.length:=by simp [hit1]
theorem hit_app (a b c:List UInt8) (j m:Nat) (h:j+4≤b.length):hit (a++(b++c)) (a.length+j) m=a++(hit b j m++c):=by
 unfold hit
 rw [hit1_app a b c j _ (by omega),show a.length+j+1=a.length+(j+1) by omega,hit1_app a _ c (j+1) _ (by rw [hit1_len]; omega),show a.length+j+2=a.length+(j+2) by omega,hit1_app a _ c (j+2) _ (by rw [hit1_len,hit1_len]; omega),show a.length+j+3=a.length+(j+3) by omega,hit1_app a _ c (j+3) _ (by rw [hit1_len,hit1_len,hit1_len]; omega)]
theorem encF_high:∀ f u,u < 2 ^ (7*f+7)→∃ pre x,Wire.encF f u=pre++[x]∧(∀ y∈pre,128≤y.toNat)∧x.toNat < 128
 | 0,u,h=>⟨[],UInt8.ofNat u,rfl,by simp,by
  have h:u < 128:=h
  rw [UInt8.toNat_ofNat']; omega⟩
 | f+1,u,h=>by
  unfold Wire.encF
  by_cases hu:u < 128
  ·rw [if_pos hu]
   exact ⟨[],UInt8.ofNat u,rfl,by simp,by rw [UInt8.toNat_ofNat']; omega⟩
  ·rw [if_neg hu]
   have hp:2 ^ (7*(f+1)+7)=128*2 ^ (7*f+7):=by rw [show 7*(f+1)+7=7+(7*f+7) by omega,Nat.pow_add]
   obtain ⟨pre,x,h1,h2,h3⟩:=encF_high f (u / 128) (by rw [hp] at h; exact Nat.div_lt_of_lt_mul h)
   refine ⟨UInt8.ofNat (u % 128+128)::pre,x,by rw [h1]; rfl,fun y hy=>?_,h3⟩
   rcases List.mem_cons.1 hy with rfl | hy
   ·rw [UInt8.toNat_ofNat']; omega
   ·exact h2 y hy
namespace Jr
theorem encs_app (a b:List Jr):encs (a++b)=encs a++encs b:=by simp [encs]
theorem encs_split (ks:List Jr) (i:Nat) (hi:i < ks.length):encs ks=encs (ks.take i)++((enc ks[i]).1++encs (ks.drop (i+1))):=by
 conv=>lhs; rw [←List.take_append_drop i ks,List.drop_eq_getElem_cons hi]
 rw [encs_app,encs_cons]
theorem enc_parts {r:Jr} (h:(enc r).2=0):(enc r).1=Wire.num r.body.length++(r.body++Crc.four (Crc.upd 0 (Wire.strE r.body)))∧(enc r).1.length=(Wire.num r.body.length).length+r.body.length+4:=by
 obtain ⟨_,he,_⟩:=enc_ok h
 rw [he]
 refine ⟨by unfold Crc.app; conv => lhs; lhs; unfold Wire.strE
            rw [List.append_assoc], ?_⟩
 simp [Crc.app,Crc.four_length,Wire.strE]
 omega
theorem enc_high {r:Jr} (h:(enc r).2=0):∃ n,(Wire.num r.body.length).length=n+1∧(∀ s,s < n→∃ y,(enc r).1[s]?=some y∧128≤y.toNat)∧∃ y,(enc r).1[n]?=some y∧y.toNat < 128:=by
 obtain ⟨he,hl⟩:=enc_parts h
 have hb:(enc r).1.length≤1048576:=by rw [(enc_ok h).2.1]; exact (enc_ok h).2.2
 obtain ⟨pre,x,h1,h2,h3⟩:=encF_high 9 (Wire.zig (r.body.length:Int)) (Nat.lt_of_lt_of_le (Wire.zig_lt _ (by omega) (by omega)) (by decide))
 have hn:Wire.num (r.body.length:Int)=pre++[x]:=h1
 rw [hn] at he
 refine ⟨pre.length,by rw [hn]; simp,fun s hs=>⟨pre[s],?_,h2 _ (List.getElem_mem hs)⟩,x,?_,h3⟩
 ·rw [he,List.append_assoc,List.getElem?_append_left hs,List.getElem?_eq_getElem hs]
 ·rw [he,List.append_assoc,List.getElem?_append_right (Nat.le_refl _)]
  simp
theorem damage (ks:List Jr) (h:∀ r∈ks,(enc r).2=0∧BaseOk r) (i:Nat) (hi:i < ks.length) (p m:Nat) (hp:(Wire.num ks[i].body.length).length≤p) (hl:p+4≤(enc ks[i]).1.length) (h0:m≠0) (hm:m < 4294967296) :
  readJ (hit (encs ks) ((encs (ks.take i)).length+p) m)=(ks.take i,(encs (ks.take i)).length):=by
 have hr:=h _ (List.getElem_mem hi)
 rw [encs_split ks i hi,hit_app _ _ _ _ _ hl,read_encs (ks.take i) _ fun r hr=>h r (List.mem_of_mem_take hr),readJ_none (first_hit ks[i] _ p m hr.1 hp hl h0 hm)]
 simp
end Jr
end Go.Proofs.YtahmpiioegemaaaGreatDoor

namespace Go.Proofs.YtahmpiioegemaaaGreatDoor
open Go.RowKit
namespace AX
def c_jfew:AX.AFn:=⟨23,aS [aR 2 (.mv (.c (.bool false)))] (.seq (aS [aR 3 (.mv (aI 0))] (.block 0 (.loop (.seq (aS [aM 4 3,aM 5 0,aR 6 (.len false (.t 5)),aR 7 (.bin .lss (.t 4) (.t 6)),aM 8 7,aG 9 (.mv (.t 3)) 8 true,aG 10 (.bin .leq (.t 9) (aI 40)) 8 true,aR 11 (.pick (.t 8) (.t 10) (.c (.bool false)))] (.cond (.t 11) (.skip) (.exit 0))) (.seq (.block 1 (aS [aM 14 0,aM 15 3,aR 16 (.iaddr 26 (.t 14) (.t 15)),aR 17 (.load true 26 (.t 16)),aR 18 (.call 8 [.t 17]),aR 19 (.un .not (.t 18))] (.cond (.t 19) (aS [aR 2 (.mv (.c (.bool false)))] (.ret)) (.skip)))) (.reg false [aM 12 3,aR 13 (.bin .add (.t 12) (aI 1)),aM 3 13])))))) (aS [aM 20 0,aR 21 (.len false (.t 20)),aR 22 (.bin .leq (.t 21) (aI 40)),aM 2 22] (.ret))),[.t 2]⟩
theorem h_jfew:AX.compFn Tryz.prog 15=some c_jfew:=by kernel_rfl
def fewJ (l:List Jr):Bool:=(l.take 41).all lightB&&decide (l.length≤40)
theorem a_jfew (l:List Jr) (hin:∀ a∈l,JrFit a) (hl:l.length≤1000000000) (h:Hp):ACall Tryz.prog GT 15 [.sl 26 .no (l.map Jr.cells)] h fun r h'=>r = .bool (fewJ l)∧h'=h:=by
 refine pcall ?_ rfl (by simp [A.pure,A.data]) h
 refine acall_of mixedT h_jfew (by simp [c_jfew]) ?_
 dsimp only [c_jfew]
 obtain ⟨q,hq⟩:∃ q,fewJ l=q:=⟨_,rfl⟩
 rw [hq]
 unfold fewJ at hq
 have e40:decide ((l.length:Int)≤40)=decide (l.length≤40):=by rw [decide_eq_decide]; omega
 have lt41:(l.take 41).length=min 41 l.length:=List.length_take
 have li:(l.map Jr.cells).length=l.length:=List.length_map _
 refine run0 ti ?_
 refine awp_loop (fun m ts hh=>hh=⟨[],[]⟩∧∃ i:Nat,m=l.length - i∧i≤l.length∧i≤41∧((l.take 41).drop i).all lightB=(l.take 41).all lightB∧(ts 0 = .sl 26 .no (l.map Jr.cells)∧ts 3 = .int .i64 (i:Nat))) l.length ?_ ?_
 ·exact ⟨rfl,0,rfl,Nat.zero_le _,by omega,rfl,by (exact inv0 ti)⟩
 rintro m ts hh ⟨rfl,i,rfl,hi,h41,heq,ht⟩
 have fin:l.length≤i∨41≤i→(l.take 41).all lightB=true:=fun hc=>by
  rw [←heq,List.drop_of_length_le (by omega)]; rfl
 rcases Nat.lt_or_ge i l.length with hlt | hge
 rotate_left
 ·have hf:=rowj_end Jr.cells l i hge
  rw [fin (.inl hge),Bool.true_and] at hq
  refine runx0 (ai ht hf) ti ?_
  exact ⟨_,le_refl _,by rw [tupA_1,←hq,e40]⟩
 have hf:=rowj_at Jr.cells l i hlt (by omega)
 rcases Nat.lt_or_ge i 41 with h3 | h3
 rotate_left
 ·have g3:¬ (i:Int)≤40:=by omega
  rw [fin (.inr h3),Bool.true_and] at hq
  refine runx0 (ai ht (ai hf g3)) ti ?_
  exact ⟨_,le_refl _,by rw [tupA_1,←hq,e40]⟩
 have g3:(i:Int)≤40:=by omega
 have hlt':i < (l.take 41).length:=by omega
 rw [all_drop _ _ _ hlt',List.getElem_take] at heq
 have hc:=a_jlight l[i] (hin _ (List.getElem_mem hlt))
 obtain ⟨a,ha⟩:∃ a,l[i]=a:=⟨_,rfl⟩
 rw [ha] at hf heq hc
 obtain ⟨b,hb⟩:∃ b,lightB a=b:=⟨_,rfl⟩
 rw [hb] at heq hc
 have no:(l.take 41).all lightB=false→q=false:=fun e=>by rw [←hq,e]; rfl
 clear hb ha
 obtain ⟨kd,⟨lin,ser,ins,ps,os⟩,st,op,ad,dp,ty,tk,er,⟨a1,a2,a3,a4,⟨k,nn,ss,is,ks⟩,v,tn,fi,ds⟩⟩:=a
 simp only [Jr.cells,Sf.Inst.cells,List.cons_append,List.nil_append] at hf hc
 cases b with
 | false =>
  rw [no (by rw [←heq]; rfl)]
  refine runx0 (ai ht (ai hf g3)) (ai hc ti) ?_
  exact ⟨_,le_refl _,rfl⟩
 | true =>
  refine runx0 (ai ht (ai hf g3)) (ai hc ti) ?_
  exact ⟨_,by omega,rfl,i+1,rfl,by omega,by omega,by rw [←heq,Bool.true_and],by (exact inv0 (ai ht hf))⟩
theorem jrs_fit (x:Jrs) (k:((∀ a∈x.l,a.Wf)∧x.l.length≤maxLen)∧x.bulkD≤1048576):(∀ a∈x.l,JrFit a)∧x.l.length≤1000000000:=by
 have hm:=map_bulk Jr.toD x.l
 have h3:D.bulks (x.l.map Jr.toD)≤1048576:=k.2
 exact ⟨fun a ha=>jr_fit (k.1.1 a ha) (Nat.le_trans (hm.2 a ha) h3),by have:=hm.1; omega⟩
def c_logged35:AX.AFn:=⟨32,aS [aR 2 (.mv (.c (.nilp))),aR 3 (.mv (.c (.sl 0 .nil []))),aR 4 (.mv (.c (.bool false)))] (aS [aR 8 (.call 16 []),aM 5 8] (.seq (aS [aM 9 5,aR 10 (.eq 1 [] false (.t 9) (.c (.nilp)))] (.cond (.t 10) (aS [aR 2 (.mv (.c (.nilp))),aR 3 (.mv (.c (.sl 0 .nil []))),aR 4 (.mv (.c (.bool false)))] (.ret)) (.skip))) (aS [aR 6 (.mv (.c (.sl 0 .nil [])))] (.seq (aS [aR 7 (.mv (aI 0))] (.block 0 (.loop (.seq (aS [aM 11 7,aM 12 0,aR 13 (.len false (.t 12)),aR 14 (.bin .lss (.t 11) (.t 13))] (.cond (.t 14) (.skip) (.exit 0))) (.seq (.block 1 (aS [aM 17 5,aM 18 0,aM 19 7,aR 20 (.iaddr 26 (.t 18) (.t 19)),aR 21 (.load true 26 (.t 20)),aR 22 (.call 18 [.t 17,.t 21]),aR 23 (.bin .eql (.t 22) (aI 0))] (.cond (.t 23) (.reg false [aM 24 6,aM 25 5,aR 26 (.call 19 [.t 25]),aR 27 (.len true (.t 26)),aR 28 (.mks 1 [.t 27]),aR 29 (.app 3 1 8 (.t 24) (.t 28)),aM 6 29]) (.skip)))) (.reg false [aM 15 7,aR 16 (.bin .add (.t 15) (aI 1)),aM 7 16])))))) (aS [aM 30 5,aM 31 6,aM 2 30,aM 3 31,aR 4 (.mv (.c (.bool true)))] (.ret)))))),[.t 2,.t 3,.t 4]⟩
theorem h_logged35:AX.compFn Tryz.prog 21=some c_logged35:=by kernel_rfl
def rowsN (l:List Nat):List (List A):=l.map fun n=>[A.int .i64 (n:Nat)]
theorem rowsN_len (l:List Nat):(rowsN l).length=l.length:=List.length_map _
theorem a_logged (l:List Jr) (ok:∀ a∈l,JrOk a) (hl:l.length≤1000000) :
  ACall Tryz.prog GT 21 [.sl 26 .no (l.map Jr.cells)] ⟨[],[]⟩ fun v h'=>v = .tup [.ptr 0 0,.sl 1 .no (rowsN (Jr.offs (Jr.logF l [] []).2)),.bool true]∧∃ t,h'=⟨[lgB (Jr.logF l [] []).1],t⟩:=by
 refine acall_of mixedT h_logged35 (by simp [c_logged35]) ?_
 dsimp only [c_logged35]
 have li:(l.map Jr.cells).length=l.length:=List.length_map _
 refine run0 ti ?_
 refine use (a_jlnew _) ?_
 refine run0 ti ?_
 refine awp_loop (fun m ts hh=>∃ (i:Nat) (ks:List Jr) (W:Nat) (o:Own) (t:List (TypeId×Nat×Nat)),m=l.length - i∧i≤l.length∧hh=⟨[lgB (Jr.encs ks)],t⟩∧Jr.logF (l.drop i) (Jr.encs ks) ks=Jr.logF l [] []∧(Jr.encs ks).length≤1048576∧ks.length≤i∧Gs 3 1 0 ⟨[],t⟩ (rowsN (Jr.offs ks)) (.sl W o (rowsN (Jr.offs ks))) ∧
  (ts 0 = .sl 26 .no (l.map Jr.cells)∧ts 5 = .ptr 0 0∧ts 6 = .sl W o (rowsN (Jr.offs ks))∧ts 7 = .int .i64 (i:Nat))) l.length ?_ ?_
 ·exact ⟨0,[],0,.nil,[],by omega,by omega,rfl,rfl,by simp [Jr.encs],by simp,.inl ⟨rfl,rfl⟩,by (exact inv0 ti)⟩
 rintro m ts hh ⟨i,ks,W,o,t,rfl,hi,rfl,hF,hbl,hkl,gX,ht⟩
 rcases Nat.lt_or_ge i l.length with hlt | hge
 ·have hf:=rowj_at Jr.cells l i hlt (by omega)
  have okr:=ok _ (List.getElem_mem hlt)
  rw [List.drop_eq_getElem_cons hlt,Jr.logF_cons] at hF
  obtain ⟨r,hr⟩:∃ r,l[i]=r:=⟨_,rfl⟩
  rw [hr] at hf okr hF
  have cA:=fun l' t=>a_jlapp hbl r (enc_size r) okr.encP (h:=⟨lgB (Jr.encs ks)::l',t⟩) (i:=0) rfl
  simp only [List.set_cons_zero] at cA
  have hz:=fun h=>Jr.appE_zero (b:=Jr.encs ks) (r:=r) h
  have hn:=fun h=>Jr.appE_not (b:=Jr.encs ks) (r:=r) h
  have hsn:=Jr.encs_snoc ks r
  have hes:=Jr.offs_snoc ks r
  have hel:=Jr.offs_len ks
  obtain ⟨⟨b',e⟩,hE⟩:∃ q,Jr.appE (Jr.encs ks) r=q:=⟨_,rfl⟩
  rw [hE] at cA hF hz hn
  dsimp only at cA hF hz hn
  by_cases e0:e=0
  ·subst e0
   obtain ⟨_,h2,h3⟩:=hz rfl
   rw [←hsn] at h2
   subst h2
   rw [if_pos rfl] at hF
   have cB:=fun l' t=>a_jlb (l:=Jr.encs (ks++[r])) (h:=⟨lgB (Jr.encs (ks++[r]))::l',t⟩) (i:=0) rfl
   have hbl':(Jr.encs (ks++[r])).length≤1048576:=by rw [hsn,List.length_append]; exact h3
   obtain ⟨W',o',t',hX,gX',kX⟩:=gX.grow 8 [.int .i64 ((Jr.encs (ks++[r])).length:Nat)] (by rw [rowsN_len,hel]; omega) (by decide)
   have em:rowsN (Jr.offs ks)++[[A.int .i64 ((Jr.encs (ks++[r])).length:Nat)]]=rowsN (Jr.offs (ks++[r])):=by rw [hes]; simp [rowsN]
   rw [em] at gX'
   simp only [em] at hX
   have hkl2:(ks++[r]).length≤i+1:=by simp; omega
   obtain ⟨ks2,hks⟩:∃ q,ks++[r]=q:=⟨_,rfl⟩
   rw [hks] at gX' hF cA cB hkl2 hbl' hX
   clear hks em hz hn okr hr hsn hes hE
   obtain ⟨kd,⟨lin,ser,ins,ps,os⟩,st,op,ad,dp,ty,tk,er,⟨a1,a2,a3,a4,⟨k,nn,ss,is,ks'⟩,v,tn,fi,ds⟩⟩:=r
   simp only [Jr.cells,Sf.Inst.cells,List.cons_append,List.nil_append] at hf cA
   refine runc0 (ai ht (ai hf hX)) (ai cA (ai cB ti)) ?_
   exact ⟨_,by omega,i+1,ks2,W',o',t',rfl,by omega,rfl,hF,hbl',hkl2,gX',by (exact inv0 (ai ht (ai hf hX)))⟩
  ·have e1:(e == 0)=false:=by simp [e0]
   rw [if_neg e0,hn e0] at hF
   rw [hn e0] at cA
   clear hz hn okr hr hsn hes hE
   obtain ⟨kd,⟨lin,ser,ins,ps,os⟩,st,op,ad,dp,ty,tk,er,⟨a1,a2,a3,a4,⟨k,nn,ss,is,ks'⟩,v,tn,fi,ds⟩⟩:=r
   simp only [Jr.cells,Sf.Inst.cells,List.cons_append,List.nil_append] at hf cA
   refine runc0 (ai ht (ai hf e1)) (ai cA ti) ?_
   exact ⟨_,by omega,i+1,ks,W,o,t,rfl,by omega,rfl,hF,hbl,by omega,gX,by (exact inv0 (ai ht hf))⟩
 have hf:=rowj_end Jr.cells l i hge
 rw [List.drop_of_length_le hge] at hF
 have hF:(Jr.encs ks,ks)=Jr.logF l [] []:=hF
 rw [←hF]
 refine run0 (ai ht hf) ?_
 exact ⟨.tup [.ptr 0 0,.sl 1 .no (rowsN (Jr.offs ks)),.bool true],⟨le2_refl _,Gs.le gX,le2_refl _,trivial⟩,rfl,_,rfl⟩
theorem rowsN_at (l:List Nat) (i:Nat) (h:i < l.length) (hl:l.length≤4611686018427387904):(rowsN l).length=l.length∧(i:Int) < (l.length:Int)∧(0:Int)≤(i:Int)∧(rowsN l).getD i []=[.int .i64 (l[i]:Nat)]∧IntKind.i64.wrap ((i:Int)+1)=((i+1:Nat):Int):=
 rowj_at (fun n:Nat=>[A.int .i64 (n:Nat)]) l i h hl
end AX
end Go.Proofs.YtahmpiioegemaaaGreatDoor

namespace Go.Proofs.YtahmpiioegemaaaGreatDoor
open Go.RowKit
open Go.ChangeMaps (setBlock)
namespace AX
section
variable {P:Program} {G:World→Prop} {C0:Ctx} {n:Nat}
structure Pst (G:World→Prop) (C0:Ctx) (n:Nat) (ts:Ts) (h:Hp) (a:Act) (w:World):Prop where
 out:∃ C:Ctx,C.w=w∧Inv G C h∧Step C0 C∧RepT C ts n a∧a.defers=[]
theorem pst_of {C:Ctx} {ts:Ts} {h:Hp} {a:Act} (hI:Inv G C h) (hT:RepT C ts n a) (hd:a.defers=[]):Pst G C n ts h a C.w:=⟨C,rfl,hI,Step.refl C,hT,hd⟩
theorem Pst.post {ts:Ts} {h:Hp} {a:Act} {w:World} {Q:AExit→Ts→Hp→Prop} (k:Pst G C0 n ts h a w) (hq:Q .normal ts h):Post G C0 n Q .normal a w:=by
 obtain ⟨C,h1,h2,h3,h4,h5⟩:=k.out
 exact ⟨C,ts,h,.normal,.normal,h1,h2,h3,h4,h5,hq⟩
theorem pl_nil {ops:Array Oper} {Q:Exit→Act→World→Prop} {ts:Ts} {h:Hp} {a:Act} {w:World} (k:Q .normal a w):wpList P ops Q [] a w:=by
 unfold wpList; exact k
theorem pl_op {ops:Array Oper} {os:List Oper} {o:Oper} {ao:AOp} {Q:Exit→Act→World→Prop} {ts:Ts} {h h':Hp} {a:Act} {w:World} {v:A} (k:Pst G C0 n ts h a w) (hg:o.guard=none) (hd:compDst n o.dst=true) (hc:compOp P n o=some ao) (hcall:ao.isCall=false)
  (hs:astep (evX ts) h ao=some (v,h')) (hk:∀ a' w',Pst G C0 n (put ts o.dst v) h' a' w'→wpList P ops Q os a' w'):wpList P ops Q (o::os) a w:=by
 obtain ⟨C,rfl,hI,hS,hT,hdf⟩:=k.out
 unfold wpList
 rw [if_pos (by simp [Region.wanted,hg])]
 have hp:aopP P G (evX ts) h (fun v' h2=>v'=v∧h2=h') ao:=by
  cases ao with
  | call=>simp [AOp.isCall] at hcall
  | callv=>simp [AOp.isCall] at hcall
  | _=>simp only [aopP]; rw [hs]; exact ⟨rfl,rfl⟩
 refine .inl (aop_wp hI hT hc hp fun C' h2 v' cv k1 k2 k3 k4=>?_)
 obtain ⟨rfl,rfl⟩:=k4
 exact hk _ _ ⟨C',rfl,k1,hS.trans k2,(hT.ext k2.ext).put hd k3,by rw [put_defers]; exact hdf⟩
def regId:Code→Nat
 | .region id _ _=>id
 | _=>0
def regOps:Code→Array Oper
 | .region _ ops _=>ops
 | _=>#[]
def opAt (c:Code) (i:Nat):Oper:=(regOps c).toList.getD i default
theorem wp_prim {c:Code} {id:Nat} {ops:Array Oper} {l:List Oper} {Q:Exit→Act→World→Prop} {a:Act} {w:World} (hc:c = .region id ops false) (hl:ops.toList=l) (k:wpList P ops Q l a w):c.wp P Q a w:=by
 subst hc
 exact wp_region_list (by rw [hl]; exact k)
theorem pl_rest {ops:Array Oper} {os:List Oper} {l:List AOper} {Q:AExit→Ts→Hp→Prop} {C:Ctx} {ts:Ts} {h:Hp} {a:Act} {w:World} (k:Pst G C n ts h a w) (hc:compOpers P n false ops os=some l) (hk:aops P G l (Q .normal) ts h):wpList P ops (Post G C n Q) os a w:=by
 obtain ⟨C1,rfl,hI,hS,hT,hd⟩:=k.out
 exact aops_sound (fun C2 ts2 h2 a2 i2 s2 t2 d2 q2=>⟨C2,ts2,h2,.normal,.normal,rfl,i2,s2,t2,d2,q2⟩) os l hc C1 ts h a hI hS hT hd hk
end
end AX
end Go.Proofs.YtahmpiioegemaaaGreatDoor

namespace Go.Proofs.YtahmpiioegemaaaGreatDoor
open Go.RowKit
namespace AX
def bcA (l:List UInt8):List A:=l.map fun b=>A.int .u8 b.toNat
theorem bcA_rep {C:Ctx}:∀ {l:List UInt8} {cs:List Value},RepL C (bcA l) cs↔cs=bcells l
 | [],cs=>repL_nil
 | b::l,cs=>by
  show RepL C (.int .u8 b.toNat::bcA l) cs↔cs = .int .u8 b.toNat::bcells l
  constructor
  ·intro h
   obtain ⟨c,cs',rfl,h1,h2⟩:=repL_cons.1 h
   rw [rep_int.1 h1,bcA_rep.1 h2]
  ·rintro rfl
   exact repL_cons.2 ⟨_,_,rfl,rep_int.2 rfl,bcA_rep.2 rfl⟩
section
variable {P:Program} {G:World→Prop} {C0:Ctx} {n:Nat}
theorem pl_appstr {ops:Array Oper} {os:List Oper} {o:Oper} {c:Call} {T U E:TypeId} {it:TypeInfo} {z:Value} {x y:Operand} {xo yo:Opd} {l:List UInt8} {Q:Exit→Act→World→Prop} {ts:Ts} {h:Hp} {a:Act} {w:World} (k:Pst G C0 n ts h a w) (hg:o.guard=none) (hd:compDst n o.dst=true)
  (hop:o.op = .call c) (hcal:c.callee = .builtin .append) (ha:c.args=#[x,y]) (hT:c.argTypes=#[T,U]) (ht:P.underlying T=some (.slice E)) (hu:P.underlying U=some .string) (hi:P.info? E=some it) (hz:it.zero=some z) (hby:it.bytes=1)
  (hx:compX n x=some xo) (hy:compX n y=some yo) (vx:evX ts xo = .sl 0 .nil []) (vy:evX ts yo = .str l) (h0:0 < l.length) (hl:l.length≤1000000000)
  (hk:∀ a' w',Pst G C0 n (put ts o.dst (.bs h.b.length 1 l.length)) ⟨h.b++[.row E (bcA l)],h.t⟩ a' w'→wpList P ops Q os a' w'):wpList P ops Q (o::os) a w:=by
 obtain ⟨C,rfl,hI,hS,hTT,hdf⟩:=k.out
 have hrx:=rep_opd hTT hx
 rw [vx] at hrx
 obtain ⟨ad,cap',ex,_,_,hown⟩:=rep_sl.1 hrx
 obtain ⟨rfl,rfl,hn0⟩:=hown
 have hry:=rep_opd hTT hy
 rw [vy,rep_str] at hry
 have hsz:(⟨l.toArray⟩:ByteArray).size=l.length:=size_mk l
 have hr:=run_append_nil_string (P:=P) (w:=C.w) T U o.type E it z ht hu hi hz ⟨l.toArray⟩ (by rw [hsz]; exact h0) (by rw [hsz]; omega) (by rw [hsz,hby]; omega)
 rw [hsz] at hr
 have hge:=grownCap_ge C.w l.length 0 E
 have hcells:((⟨l.toArray⟩:ByteArray).data.map (fun b=>Value.int .u8 b.toNat)++Builtin.zeroCells z.cells (grownCap C.w l.length 0 E - l.length))=(bcells l++(Builtin.zeroCells z.cells (grownCap C.w l.length 0 E - l.length)).toList).toArray:=by
  apply Array.toList_inj.1
  simp [bcells]
 rw [hcells] at hr
 obtain ⟨C',m1,m2,m3,m4,m5⟩:=new_row (w':=C.w.drew.alloc (.cells (bcells l++(Builtin.zeroCells z.cells (grownCap C.w l.length 0 E - l.length)).toList).toArray E)) (g:=C.w.heap.size) (T:=E) (l:=bcA l) (cs:=bcells l) (rest:=(Builtin.zeroCells z.cells (grownCap C.w l.length 0 E - l.length)).toList) hI
  (((Below.refl C.w.heap.size C.w).drew).alloc (Nat.le_refl _) _) (Nat.le_refl _) (heap_alloc_new C.w.drew _) (bcA_rep.2 rfl)
 unfold wpList
 rw [if_pos (by simp [Region.wanted,hg])]
 refine .inl ?_
 unfold Oper.wp
 have he:(execOp a.eval o).run P C.w = .ok (.value (.slice (some ⟨C.w.heap.size,0,none⟩) l.length (grownCap C.w l.length 0 E))) C'.w:=by
  have hexec:(execOp a.eval o).run P C.w=((Builtin.append_ #[T,U] o.type #[a.eval x,a.eval y]).run P C.w).andThen fun v w => .ok (.value v) w:=by
   unfold execOp
   simp [hop,resolve,hcal,ha,hT,invoke,builtin]
  rw [hexec,ex,hry,hn0,m1]
  show ((Builtin.append_ #[T,U] o.type #[.slice none 0 0,.string ⟨l.toArray⟩]).run P C.w).andThen _=_
  rw [hr]
  rfl
 rw [he,Oper.upon_value]
 exact hk _ _ ⟨C',rfl,m2,hS.trans m3,(hTT.ext m3.ext).put hd (show ∃ cap,_ from ⟨_,by rw [m4],hge,m5⟩),by rw [put_defers]; exact hdf⟩
theorem pl_tostr {ops:Array Oper} {os:List Oper} {o:Oper} {T U E:TypeId} {x:Operand} {xo:Opd} {i:Nat} {l:List UInt8} {Q:Exit→Act→World→Prop} {ts:Ts} {h:Hp} {a:Act} {w:World} (k:Pst G C0 n ts h a w) (hg:o.guard=none) (hd:compDst n o.dst=true)
  (hop:o.op = .convert T U x) (ht:P.underlying T=some (.slice E)) (he:P.underlying E=some (.int .u8)) (hu:P.underlying U=some .string) (hx:compX n x=some xo) (vx:evX ts xo = .bs i 1 l.length) (hb:h.b[i]?=some (.row E (bcA l)))
  (hk:∀ a' w',Pst G C0 n (put ts o.dst (.str l)) h a' w'→wpList P ops Q os a' w'):wpList P ops Q (o::os) a w:=by
 obtain ⟨C,rfl,hI,hS,hTT,hdf⟩:=k.out
 have hrx:=rep_opd hTT hx
 rw [vx] at hrx
 have hrx':∃ cap,a.eval x = .slice (some ⟨C.κ i,0,none⟩) l.length cap∧l.length≤cap∧i < C.nb:=by
  obtain ⟨cap,q⟩:=(show ∃ cap,a.eval x = .slice (some ⟨C.κ i,0,none⟩) l.length cap∧l.length≤cap∧i < C.nb by unfold Rep at hrx; exact hrx)
  exact ⟨cap,q⟩
 obtain ⟨cap,ex,_,_⟩:=hrx'
 obtain ⟨cs,rest,h1,h2⟩:=hI.box i _ hb
 rw [bcA_rep] at h2
 subst h2
 have hB:BytesAt C.w (C.κ i) E l:=⟨_,0,0,h1,by simp [←bcells_length l],.inr rfl⟩
 have hr:=hB.conv (P:=P) T U cap ht he hu
 unfold wpList
 rw [if_pos (by simp [Region.wanted,hg])]
 refine .inl ?_
 unfold Oper.wp
 have he:(execOp a.eval o).run P C.w = .ok (.value (.string ⟨l.toArray⟩)) C.w:=by
  unfold execOp
  simp only [hop,ex,Sem.run_bind,hr,Result.andThen_ok]
  rfl
 rw [he,Oper.upon_value]
 exact hk _ _ ⟨C,rfl,hI,hS,hTT.put hd (rep_str.2 rfl),by rw [put_defers]; exact hdf⟩
end
end AX
end Go.Proofs.YtahmpiioegemaaaGreatDoor
