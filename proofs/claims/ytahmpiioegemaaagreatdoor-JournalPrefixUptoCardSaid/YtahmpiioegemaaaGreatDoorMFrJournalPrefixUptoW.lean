/- Part of what the proof needs. -/
import Derived.Test.YtahmpiioegemaaaGreatDoorMFrJournalPrefixUptoF
import Derived.Test.YtahmpiioegemaaaGreatDoorMFrJournalPrefixUptoJ
import Derived.Test.YtahmpiioegemaaaGreatDoorMFrJournalPrefixUptoM
import Derived.Test.YtahmpiioegemaaaGreatDoorMFrJournalPrefixUptoP
import Derived.Test.YtahmpiioegemaaaGreatDoorMFrJournalPrefixUptoQ
import Derived.Test.YtahmpiioegemaaaGreatDoorMFrJournalPrefixUptoT
import Derived.Test.YtahmpiioegemaaaGreatDoorMFrJournalPrefixUptoU
import Derived.Test.YtahmpiioegemaaaGreatDoorMFrJournalPrefixUptoV
set_option maxHeartbeats 4000000
set_option linter.unusedSimpArgs false
set_option linter.unusedVariables false
set_option linter.unnecessarySimpa false
namespace Go.Proofs.YtahmpiioegemaaaGreatDoor
open Go.RowKit
namespace AX
section
variable (P:Program) (G:World→Prop) (tab:Tab)
structure Ent where
 f:FuncId
 run:List A→EH→Option (A×Option EH)
 ok:∀ avs h v oh,run avs h=some (v,oh)→ACall P G f avs (h.abs tab) fun v' h'=>v'=v∧h'=(oh.getD h).abs tab
end
section
variable {P:Program} {G:World→Prop} {tab:Tab}
def findE (f:FuncId):List (Ent P G tab)→Option (Ent P G tab)
 | []=>none
 | e::l=>bif Nat.beq f e.f then some e else findE f l
theorem findE_ok {f:FuncId}:∀ {l:List (Ent P G tab)} {e:Ent P G tab},findE f l=some e→e.f=f
 | [],e,h=>by cases h
 | x::l,e,h=>by
  unfold findE at h
  cases hb:Nat.beq f x.f with
  | true=>rw [hb] at h; injection h with h; subst h; exact (beq_iff.1 hb).symm
  | false=>rw [hb] at h; exact findE_ok h
def wk1:A→A
 | .sl W (.tok _) rows => .sl W .no rows
 | x=>x
def wk2:A→A
 | .agg l => .agg (l.map wk1)
 | x=>wk1 x
def wk3:A→A
 | .tup l => .tup (l.map wk2)
 | x=>wk2 x
theorem le_wk1 (x:A):le1 x (wk1 x):=by
 unfold wk1
 split
 ·exact ⟨rfl,.inl rfl,.inl rfl⟩
 ·exact le1_refl x
theorem leL_wk:∀ l:List A,leL l (l.map wk1)
 | []=>trivial
 | x::l=>⟨le_wk1 x,leL_wk l⟩
theorem le2_of1 {x y:A} (h:le1 x y) (hx:∀ l,x≠.agg l):le2 x y:=by
 unfold le2
 split
 ·exact absurd rfl (hx _)
 ·exact h
theorem le_wk2 (x:A):le2 x (wk2 x):=by
 unfold wk2
 split
 ·exact leL_wk _
 ·next h=>exact le2_of1 (le_wk1 _) fun l e=>h l e
theorem leL2_wk:∀ l:List A,leL2 l (l.map wk2)
 | []=>trivial
 | x::l=>⟨le_wk2 x,leL2_wk l⟩
theorem le_wk3 (x:A):le x (wk3 x):=by
 unfold wk3
 split
 ·exact leL2_wk _
 ·next h =>
  unfold le
  split
  ·exact absurd rfl (h _)
  ·exact le_wk2 _
abbrev Ih:=ACode→T→EH→Option (AExit×T×EH)
def IhOk (P:Program) (G:World→Prop) (tab:Tab) (ih:Ih):Prop:=∀ c t h e t' h',ih c t h=some (e,t',h')→∀ Q:AExit→Ts→Hp→Prop,Q e t'.get (h'.abs tab)→awp P G c Q t.get (h.abs tab)
def endE:AExit→Bool
 | .exit _=>false
 | _=>true
def finE (tab:Tab) (rs:List ARes) (t:T) (h:EH):Option A:=
 match resA t.get (h.abs tab) rs with
 | some l=>fR (tupA l)
 | none=>none
theorem finE_ok {rs:List ARes} {t:T} {h:EH} {v:A} {e:AExit} (he:endE e=true) (hf:finE tab rs t h=some v) {Q:A→Hp→Prop} {u:A} (hl:le v u) (hq:Q u (h.abs tab)):finQ rs Q e t.get (h.abs tab):=by
 have key:finO (resA t.get (h.abs tab) rs) Q (h.abs tab):=by
  unfold finE at hf
  split at hf
  ·next l hr =>
   rw [hr]
   exact ⟨u,by rw [←fR_ok _ _ hf]; exact hl,hq⟩
  ·cases hf
 cases e with
 | exit=>cases he
 | normal=>exact key
 | ret=>exact key
def callE (lib:List (Ent P G tab)) (inp:List FuncId) (ih:Ih) (f:FuncId) (args:List A) (h:EH):Option (A×Option EH):=
 match findE f lib with
 | some e=>e.run args h
 | none=>match compFn P f with
  | none=>none
  | some fn=>bif args.length.ble fn.n then (match T.init args with
   | none=>none
   | some t=>bif args.all A.pure&&!(inp.any (Nat.beq f)) then (match ih fn.code t ⟨[],[]⟩ with
     | none=>none
     | some (e,t',h')=>bif endE e then (match finE tab fn.res t' h' with
      | none=>none
      | some v=>(match fR (wk3 v) with
       | none=>none
       | some v=>bif v.pure then some (v,none) else none)) else none)
    else (match ih fn.code t h with
     | none=>none
     | some (e,t',h')=>bif endE e then (match finE tab fn.res t' h' with
      | none=>none
      | some v=>some (v,some h')) else none)) else none
theorem callE_ok (hm:P.follows .mixedOrders=true) {lib:List (Ent P G tab)} {inp:List FuncId} {ih:Ih} (hih:IhOk P G tab ih) {f:FuncId} {args:List A} {h:EH} {v:A} {oh:Option EH} (hc:callE lib inp ih f args h=some (v,oh)) :
  ACall P G f args (h.abs tab) fun v' h'=>v'=v∧h'=(oh.getD h).abs tab:=by
 unfold callE at hc
 split at hc
 ·next e he =>
  have:=e.ok args h v oh hc
  rw [findE_ok he] at this
  exact this
 ·split at hc
  ·cases hc
  ·next fn hfn =>
   cases hle:args.length.ble fn.n with
   | false=>rw [hle] at hc; cases hc
   | true =>
    rw [hle] at hc
    simp only [cond_true] at hc
    have hlen:args.length≤fn.n:=Nat.le_of_ble_eq_true hle
    split at hc
    ·cases hc
    ·next t ht =>
     have htg:=T.init_ok ht
     cases hp:(args.all A.pure&&!(inp.any (Nat.beq f))) with
     | true =>
      rw [hp] at hc
      simp only [cond_true] at hc
      rw [Bool.and_eq_true] at hp
      split at hc
      ·cases hc
      ·next e t' h' hr =>
       cases hee:endE e with
       | false=>rw [hee] at hc; cases hc
       | true =>
        rw [hee] at hc
        simp only [cond_true] at hc
        split at hc
        ·cases hc
        ·next u hu =>
         split at hc
         ·cases hc
         ·next u' hu' =>
          cases hpu:u'.pure with
          | false=>rw [hpu] at hc; cases hc
          | true =>
           rw [hpu] at hc
           injection hc with hc; injection hc with h1 h2; subst h1; subst h2
           have hE:ACall P G f args ⟨[],[]⟩ fun v _=>v=u':=by
            refine acall_of hm hfn hlen ?_
            rw [←htg]
            refine hih _ _ _ _ _ _ hr _ (finE_ok hee hu (u:=u') ?_ rfl)
            rw [fR_ok _ _ hu']; exact le_wk3 u
           exact pcall hE hpu hp.1 _
     | false =>
      rw [hp] at hc
      simp only [cond_false] at hc
      split at hc
      ·cases hc
      ·next e t' h' hr =>
       cases hee:endE e with
       | false=>rw [hee] at hc; cases hc
       | true =>
        rw [hee] at hc
        simp only [cond_true] at hc
        split at hc
        ·cases hc
        ·next u hu =>
         injection hc with hc; injection hc with h1 h2; subst h1; subst h2
         refine acall_of hm hfn hlen ?_
         rw [←htg]
         exact hih _ _ _ _ _ _ hr _ (finE_ok hee hu (le_refl _) ⟨rfl,rfl⟩)
def opdE (t:T) (o:Opd):Option A:=fH (evX t.get o)
theorem opdE_ok {t:T} (x:Opd) (y:A) (h:opdE t x=some y):y=evX t.get x:=fH_ok _ _ h
def stepE (lib:List (Ent P G tab)) (inp:List FuncId) (ih:Ih) (t:T) (h:EH):AOp→Option (A×Option EH)
 | .call f avs=>(match mapO (opdE t) avs with
  | some vs=>callE lib inp ih f vs h
  | none=>none)
 | .callv x avs=>(match evX t.get x with
  | .fn f caps=>bif callOk P (vF f) then (match mapO (opdE t) avs with
   | some vs=>(match mapO fH (vA f vs caps) with
    | some vs=>callE lib inp ih (vF f) vs h
    | none=>none)
   | none=>none) else none
  | _=>none)
 | op=>opE tab (evX t.get) h op
theorem stepE_ok (hm:P.follows .mixedOrders=true) {lib:List (Ent P G tab)} {inp:List FuncId} {ih:Ih} (hih:IhOk P G tab ih) {t:T} {h:EH} {op:AOp} {v:A} {oh:Option EH} (hc:stepE lib inp ih t h op=some (v,oh)) :
  aopP P G (evX t.get) (h.abs tab) (fun v' h'=>v'=v∧h'=(oh.getD h).abs tab) op:=by
 have plain:opE tab (evX t.get) h op=some (v,oh)→aopP P G (evX t.get) (h.abs tab) (fun v' h'=>v'=v∧h'=(oh.getD h).abs tab) op:=fun e=>by
  obtain ⟨h1,h2⟩:=opE_ok e
  exact aopP_of h1 h2
 cases op with
 | call f avs =>
  simp only [stepE] at hc
  split at hc
  ·next vs e =>
   have:=mapO_ok opdE_ok e
   subst this
   exact callE_ok hm hih hc
  ·cases hc
 | callv x avs =>
  simp only [stepE] at hc
  split at hc
  ·next f caps hx =>
   cases hok:callOk P (vF f) with
   | false=>rw [hok] at hc; cases hc
   | true =>
    rw [hok] at hc
    simp only [cond_true] at hc
    split at hc
    ·next vs e =>
     have:=mapO_ok opdE_ok e
     subst this
     split at hc
     ·next vs e2 =>
      have:=mapO_id fH_ok e2
      subst this
      exact ⟨f,caps,hx,hok,callE_ok hm hih hc⟩
     ·cases hc
    ·cases hc
  ·cases hc
 | _=>exact plain hc
def gd (t:T):Option (Nat×Bool)→Option Bool
 | none=>some true
 | some (i,b)=>match t.get i with
  | .bool c=>some (bif c then b else !b)
  | .tup []=>some false
  | _=>none
theorem gd_true {t:T} {g:Option (Nat×Bool)} {p q:Prop} (h:gd t g=some true) (hp:p):guardP t.get g p q:=by
 cases g with
 | none=>exact hp
 | some ib =>
  obtain ⟨i,b⟩:=ib
  unfold gd at h
  simp only at h
  simp only [guardP]
  split at h
  ·next c e =>
   rw [e]
   injection h with h
   cases c <;> cases b <;> simp_all
  ·cases h
  ·cases h
theorem gd_false {t:T} {g:Option (Nat×Bool)} {p q:Prop} (h:gd t g=some false) (hq:q):guardP t.get g p q:=by
 cases g with
 | none=>cases h
 | some ib =>
  obtain ⟨i,b⟩:=ib
  unfold gd at h
  simp only at h
  simp only [guardP]
  split at h
  ·next c e =>
   rw [e]
   injection h with h
   cases c <;> cases b <;> simp_all
  ·next e=>rw [e]; exact hq
  ·cases h
def unitB:A→Bool
 | .tup []=>true
 | _=>false
def qchk (tab:Tab) (t:T) (o:AOper) (v:A) (h:EH):Bool:=
 match gd t o.guard with
 | some true=>loadB o.op&&(match astep (evX t.get) (h.abs tab) o.op with | some (v',_)=>eqb 9 v' v | none=>false)
 | some false=>unitB v
 | none=>false
theorem unitB_ok {v:A} (h:unitB v=true):v = .tup []:=by
 unfold unitB at h
 split at h
 ·rfl
 ·cases h
theorem qchk_ok {t:T} {o:AOper} {v:A} {h:EH} (e:qchk tab t o v h=true):quietAt P G t.get o v (h.abs tab):=by
 unfold qchk at e
 unfold quietAt
 split at e
 ·next hg =>
  rw [Bool.and_eq_true] at e
  refine gd_true hg ?_
  obtain ⟨e1,e2⟩:=e
  cases hop:o.op with
  | load g n p =>
   rw [hop] at e2
   refine aopP_of rfl ?_
   simp only [astep] at e2 ⊢
   cases hl:loadA (h.abs tab) g n (evX t.get p) with
   | none=>rw [hl] at e2; cases e2
   | some v'=>rw [hl] at e2; rw [←eqb_ok _ _ _ e2]; rfl
  | _=>rw [hop] at e1; cases e1
 ·next hg=>exact gd_false hg (unitB_ok e)
 ·cases e
abbrev Ob:=Nat×T×AOper×A
def obOk (tab:Tab) (af:List Nat) (h:EH):List Ob→Bool
 | []=>true
 | (j,t,o,v)::l=>(memN j af||qchk tab t o v h)&&obOk tab af h l
def obDrop (af:List Nat):List Ob→List Ob
 | []=>[]
 | (j,t,o,v)::l=>bif memN j af then obDrop af l else (j,t,o,v)::obDrop af l
def obP (P:Program) (G:World→Prop):Ob→Nat×(Hp→Prop):=fun x=>(x.1,quietAt P G x.2.1.get x.2.2.1 x.2.2.2)
theorem obOk_ok {af:List Nat} {h:EH}:∀ {l:List Ob},obOk tab af h l=true→obsP af (l.map (obP P G)) (h.abs tab)
 | [],_=>trivial
 | (j,t,o,v)::l,e=>by
  simp only [obOk,Bool.and_eq_true,Bool.or_eq_true] at e
  exact ⟨e.1.imp id fun e=>qchk_ok e,obOk_ok e.2⟩
theorem obDrop_ok {af:List Nat}:∀ l:List Ob,obsD af (l.map (obP P G))=(obDrop af l).map (obP P G)
 | []=>rfl
 | (j,t,o,v)::l=>by
  simp only [List.map_cons,obDrop]
  rw [show obP P G (j,t,o,v)=(j,quietAt P G t.get o v) from rfl]
  unfold obsD
  have ih:=obDrop_ok (af:=af) l
  cases hm:memN j af with
  | true=>rw [if_pos rfl]; exact ih
  | false =>
   rw [if_neg (by simp)]
   rw [ih]; rfl
def eqB:EB→EB→Bool
 | .cells T l,.cells T' l'=>Nat.beq T T'&&all2 (eqb 20) l l'
 | .map es c,.map es' c'=>all2 (fun x y=>decide (x.1=y.1)&&eqb 20 x.2 y.2) es es'&&c.beq c'
 | .row T l,.row T' l'=>Nat.beq T T'&&all2 (eqb 20) l l'
 | .obj k d,.obj k' d'=>k.beq k'&&eqb 20 d d'
 | _,_=>false
theorem eqB_ok (x y:EB) (h:eqB x y=true):x=y:=by
 have e:=eqb_ok 20
 cases x <;> cases y <;> simp only [eqB,Bool.false_eq_true,Bool.and_eq_true,beq_iff] at h
 ·rw [h.1,all2_ok e h.2]
 ·rw [all2_ok (fun x y hh=>by
   simp only [Bool.and_eq_true,decide_eq_true_eq] at hh
   exact Prod.ext hh.1 (e _ _ hh.2)) h.1,h.2]
 ·rw [h.1,all2_ok e h.2]
 ·rw [h.1,e _ _ h.2]
def eqH (x y:EH):Bool:=all2 eqB x.b y.b&&all2 (fun a b=>decide (a=b)) x.t y.t
theorem eqH_ok {x y:EH} (h:eqH x y=true):x=y:=by
 simp only [eqH,Bool.and_eq_true] at h
 obtain ⟨a,b⟩:=x
 obtain ⟨c,d⟩:=y
 rw [show a=c from all2_ok eqB_ok h.1,show b=d from all2_ok (fun _ _ e=>of_decide_eq_true e) h.2]
def keptB (h:EH):Option EH→Bool
 | none=>true
 | some h'=>eqH h' h
theorem keptB_ok {h:EH} {oh:Option EH} (e:keptB h oh=true):oh.getD h=h:=by
 cases oh with
 | none=>rfl
 | some h'=>exact eqH_ok e
def runD (lib:List (Ent P G tab)) (inp:List FuncId) (ih:Ih) (m:Nat):List AOper→Nat→List Bool→List EH→List Ob→T→EH→Option (T×EH)
 | [],_,_,_,_,t,h=>some (t,h)
 | o::os,i,fl,past,obs,t,h =>
  match gd t o.guard with
  | none=>none
  | some g=>match (bif g then stepE lib inp ih t h o.op else some (.tup [],none)) with
   | none=>none
   | some (v,oh)=>match t.put o.dst v with
    | none=>none
    | some t'=>bif actB m o.op then (match oh with
      | none=>bif obOk tab o.after h obs then runD lib inp ih m os (i+1) fl.tail (h::past) (obDrop o.after obs) t' h else none
      | some h'=>bif obOk tab o.after h' obs then runD lib inp ih m os (i+1) fl.tail (h::past) (obDrop o.after obs) t' h' else none)
     else bif keptB h oh then (bif fl.headD false then (bif qchk tab t o v h&&past.all (qchk tab t o v) then runD lib inp ih m os (i+1) fl.tail past ((i,t,o,v)::obs) t' h else none)
       else runD lib inp ih m os (i+1) fl.tail past obs t' h) else none
theorem runD_ok (hm:P.follows .mixedOrders=true) {lib:List (Ent P G tab)} {inp:List FuncId} {ih:Ih} (hih:IhOk P G tab ih) {m:Nat} {K:Ts→Hp→Prop} {t2:T} {h2:EH} (hK:K t2.get (h2.abs tab)) :
  ∀ (os:List AOper) (i:Nat) (fl:List Bool) (past:List EH) (obs:List Ob) (t:T) (h:EH),runD lib inp ih m os i fl past obs t h=some (t2,h2)→aseq P G m i fl os (past.map (EH.abs tab)) (obs.map (obP P G)) K t.get (h.abs tab)
 | [],i,fl,past,obs,t,h,e=>by
  injection e with e; injection e with e1 e2; subst e1; subst e2
  exact hK
 | o::os,i,fl,past,obs,t,h,e=>by
  have ihr:=runD_ok hm (lib:=lib) (inp:=inp) (m:=m) hih hK os (i+1) fl.tail
  unfold runD at e
  split at e
  ·cases e
  ·next g hg =>
   split at e
   ·cases e
   ·next v oh hs =>
    split at e
    ·cases e
    ·next t' hp =>
     have hput:=T.put_ok hp
     have hgd:guardP t.get o.guard (aopP P G (evX t.get) (h.abs tab) (fun v' h''=>v'=v∧h''=(oh.getD h).abs tab) o.op) (v = .tup []∧(oh.getD h).abs tab=h.abs tab):=by
      cases g with
      | true=>exact gd_true hg (stepE_ok hm hih hs)
      | false =>
       injection hs with hs; injection hs with h1 h2; subst h1; subst h2
       exact gd_false hg ⟨rfl,rfl⟩
     refine ⟨v,(oh.getD h).abs tab,hgd,?_⟩
     cases hact:actB m o.op with
     | true =>
      rw [hact] at e
      simp only [cond_true] at e
      refine ⟨.inl rfl,?_⟩
      rw [if_pos rfl,←hput,obDrop_ok]
      cases oh with
      | none =>
       simp only at e
       cases hob:obOk tab o.after h obs with
       | false=>rw [hob] at e; cases e
       | true =>
        rw [hob] at e
        exact ⟨obOk_ok hob,ihr (h::past) _ t' h e⟩
      | some h' =>
       simp only at e
       cases hob:obOk tab o.after h' obs with
       | false=>rw [hob] at e; cases e
       | true =>
        rw [hob] at e
        exact ⟨obOk_ok hob,ihr (h::past) _ t' h' e⟩
     | false =>
      rw [hact] at e
      simp only [cond_false] at e
      cases hk:keptB h oh with
      | false=>rw [hk] at e; cases e
      | true =>
       rw [hk] at e
       simp only [cond_true] at e
       rw [keptB_ok hk]
       refine ⟨.inr rfl,?_⟩
       rw [if_neg (by simp),←hput]
       cases hfl:fl.headD false with
       | true =>
        rw [hfl] at e
        simp only [cond_true] at e
        rw [if_pos rfl]
        cases hq:(qchk tab t o v h&&past.all (qchk tab t o v)) with
        | false=>rw [hq] at e; cases e
        | true =>
         rw [hq] at e
         rw [Bool.and_eq_true,List.all_eq_true] at hq
         refine ⟨?_,ihr past ((i,t,o,v)::obs) t' h e⟩
         have:∀ l:List EH,(∀ x∈l,qchk tab t o v x=true)→forH (quietAt P G t.get o v) (l.map (EH.abs tab)):=by
          intro l
          induction l with
          | nil=>intro _; trivial
          | cons x l ih=>intro hx; exact ⟨qchk_ok (hx x (by simp)),ih fun y hy=>hx y (by simp [hy])⟩
         exact this past hq.2
       | false =>
        rw [hfl] at e
        rw [if_neg (by simp)]
        exact ihr past obs t' h e
def newB:AOp→Bool
 | .alloc ..=>true
 | _=>false
def findA:Nat→List AOper→Option Nat
 | _,[]=>none
 | i,o::os=>bif newB o.op then some i else findA (i+1) os
def hbs (lib:List (Ent P G tab)) (inp:List FuncId) (ih:Ih) (acts:List Nat) (a:Nat) (va:A):List AOper→Nat→T→EH→Option (List EH)
 | [],_,_,h=>some [h]
 | o::os,i,t,h=>bif i.beq a then (match t.put o.dst va with
   | some t'=>hbs lib inp ih acts a va os (i+1) t' h
   | none=>none)
  else (match gd t o.guard with
   | none=>none
   | some g=>match (bif g then stepE lib inp ih t h o.op else some (.tup [],none)) with
    | none=>none
    | some (v,oh)=>match t.put o.dst v with
     | none=>none
     | some t'=>bif memN i acts then (match hbs lib inp ih acts a va os (i+1) t' (oh.getD h) with
       | some l=>some (h::l)
       | none=>none)
      else hbs lib inp ih acts a va os (i+1) t' h)
def agenE (lib:List (Ent P G tab)) (inp:List FuncId) (ih:Ih) (acts:List Nat) (a:Nat) (hl:List EH):List AOper→Nat→List (List Nat)→T→Option T
 | [],_,_,t=>some t
 | o::os,i,stg,t=>match gd t o.guard with
  | none=>none
  | some g=>match (bif g then (match stepE lib inp ih t (hl.getD ((stg.headD []).headD 0) ⟨[],[]⟩) o.op with | some (v,_)=>some v | none=>none) else some (.tup [])) with
   | none => none
   | some v => bif (stg.headD []).all (fun j => bif g then (match stepE lib inp ih t (hl.getD j ⟨[], []⟩) o.op with
         | some (v', oh) => eqb 20 v' v && eqH (oh.getD (hl.getD j ⟨[], []⟩)) (hl.getD (nxt2 acts a acts.length i j) ⟨[], []⟩)
         | none => false) else !(i.beq a)) then (match t.put o.dst v with
     | some t'=>agenE lib inp ih acts a hl os (i+1) stg.tail t'
     | none=>none) else none
theorem absD {hl:List EH} {j:Nat}:(hl.map (EH.abs tab)).getD j ⟨[],[]⟩=(hl.getD j ⟨[],[]⟩).abs tab:=by
 rw [List.getD_eq_getElem?_getD,List.getD_eq_getElem?_getD,List.getElem?_map]
 cases hl[j]? <;> rfl
theorem forL_intro {p:Nat→Prop}:∀ {l:List Nat},(∀ k∈l,p k)→forL p l
 | [],_=>trivial
 | a::l,h=>⟨h a (by simp),forL_intro fun k hk=>h k (by simp [hk])⟩
theorem agenE_ok (hm:P.follows .mixedOrders=true) {lib:List (Ent P G tab)} {inp:List FuncId} {ih:Ih} (hih:IhOk P G tab ih) {acts:List Nat} {a:Nat} {hl:List EH} {K:Ts→Prop} {t2:T} (hK:K t2.get) :
  ∀ (os:List AOper) (i:Nat) (stg:List (List Nat)) (t:T),agenE lib inp ih acts a hl os i stg t=some t2→agen P G acts a acts.length (hl.map (EH.abs tab)) i os stg K t.get
 | [],i,stg,t,e=>by
  injection e with e; subst e
  exact hK
 | o::os,i,stg,t,e=>by
  have ihr:=agenE_ok hm (lib:=lib) (inp:=inp) hih (acts:=acts) (a:=a) (hl:=hl) hK os (i+1) stg.tail
  unfold agenE at e
  split at e
  ·cases e
  ·next g hg =>
   split at e
   ·cases e
   ·next v hv =>
    cases hall:(stg.headD []).all (fun j=>bif g then (match stepE lib inp ih t (hl.getD j ⟨[],[]⟩) o.op with
      | some (v',oh)=>eqb 20 v' v&&eqH (oh.getD (hl.getD j ⟨[],[]⟩)) (hl.getD (nxt2 acts a acts.length i j) ⟨[],[]⟩)
      | none=>false) else !(i.beq a)) with
    | false=>rw [hall] at e; cases e
    | true =>
     rw [hall] at e
     simp only [cond_true] at e
     split at e
     ·next t' hp =>
      refine ⟨v,forL_intro fun j hj=>?_,by rw [←T.put_ok hp]; exact ihr t' e⟩
      have hj:=List.all_eq_true.1 hall j hj
      rw [absD,absD]
      cases g with
      | true =>
       simp only [cond_true] at hj
       split at hj
       ·next v' oh hs =>
        rw [Bool.and_eq_true] at hj
        refine gd_true hg ?_
        rw [←eqH_ok hj.2,←eqb_ok _ _ _ hj.1]
        exact stepE_ok hm hih hs
       ·cases hj
      | false =>
       simp only [cond_false] at hj hv
       injection hv with hv
       rw [Bool.not_eq_true',beq_no] at hj
       exact gd_false hg ⟨hv.symm,hj⟩
     ·cases e
def cutO (n:Nat) (h:EH):Option EH:=
 match mapO some (h.b.take n) with
 | some b=>some ⟨b,h.t⟩
 | none=>none
def runG (lib:List (Ent P G tab)) (inp:List FuncId) (ih:Ih) (ops:List AOper) (t:T) (h:EH):Option (T×EH):=
 match findA 0 ops with
 | none=>none
 | some a=>bif genB ops ((actsF 1 0 (closeOps ops)).filter fun i=>!(i.beq a)) a (stgs2 (closeOps ops) ((actsF 1 0 (closeOps ops)).filter fun i=>!(i.beq a)) a) then (match ops[a]? with
   | none=>none
   | some o=>match opE tab (evX t.get) h o.op with
    | some (va,some hx)=>(match hbs lib inp ih ((actsF 1 0 (closeOps ops)).filter fun i=>!(i.beq a)) a va ops 0 t hx with
     | none=>none
     | some hb=>match mapO (cutO h.b.length) (hb.drop 1) with
      | none=>none
      | some hn=>match agenE lib inp ih ((actsF 1 0 (closeOps ops)).filter fun i=>!(i.beq a)) a (h::(hn++hb)) ops 0 (stgs2 (closeOps ops) ((actsF 1 0 (closeOps ops)).filter fun i=>!(i.beq a)) a) t with
       | none=>none
       | some t'=>match (h::(hn++hb))[((actsF 1 0 (closeOps ops)).filter fun i=>!(i.beq a)).length+(((actsF 1 0 (closeOps ops)).filter fun i=>!(i.beq a)).length+1)]? with
        | some h'=>some (t',h')
        | none=>none)
    | _=>none) else none
theorem runG_ok (hm:P.follows .mixedOrders=true) {lib:List (Ent P G tab)} {inp:List FuncId} {ih:Ih} (hih:IhOk P G tab ih) {Q:AExit→Ts→Hp→Prop} {ops:List AOper} {t t2:T} {h h2:EH} (hQ:Q .normal t2.get (h2.abs tab)) (e:runG lib inp ih ops t h=some (t2,h2)) :
  awp P G (.reg true ops) Q t.get (h.abs tab):=by
 unfold runG at e
 split at e
 ·cases e
 ·next a ha =>
  obtain ⟨acts,hacts⟩:∃ x,((actsF 1 0 (closeOps ops)).filter fun i=>!(i.beq a))=x:=⟨_,rfl⟩
  rw [hacts] at e
  cases hb:genB ops acts a (stgs2 (closeOps ops) acts a) with
  | false=>rw [hb] at e; cases e
  | true =>
   rw [hb] at e
   simp only [cond_true] at e
   split at e
   ·cases e
   ·split at e
    ·split at e
     ·cases e
     ·next hbl _ =>
      split at e
      ·cases e
      ·next hn _ =>
       split at e
       ·cases e
       ·next t' ht' =>
        split at e
        ·next h' hh =>
         injection e with e; injection e with e1 e2; subst e1; subst e2
         refine go_gen acts a ((h::(hn++hbl)).map (EH.abs tab)) (stgs2 (closeOps ops) acts a) rfl hb (agenE_ok hm hih ?_ ops 0 _ t ht')
         rw [absD,List.getD_eq_getElem?_getD,hh]
         exact hQ
        ·cases e
    ·cases e
def nrm (r:Option (T×EH)):Option (AExit×T×EH):=
 match r with
 | some (t,h)=>some (.normal,t,h)
 | none=>none
def evB (lib:List (Ent P G tab)) (inp:List FuncId) (ih:Ih):Ih:=fun c t h =>
 match c with
 | .skip=>some (.normal,t,h)
 | .reg false ops=>nrm (runD lib inp ih 0 ops 0 [] [] [] t h)
 | .reg true ops=>bif seqB 1 ops then nrm (runD lib inp ih 1 ops 0 (flagsOf 1 ops) [] [] t h) else bif seqB 2 ops then nrm (runD lib inp ih 2 ops 0 (flagsOf 2 ops) [] [] t h) else nrm (runG lib inp ih ops t h)
 | .seq a b=>(match ih a t h with
  | none=>none
  | some (e,t',h')=>(match e with
   | .normal=>ih b t' h'
   | .exit j=>some (.exit j,t',h')
   | .ret=>some (.ret,t',h')))
 | .cond c a b=>(match evX t.get c with
  | .bool x=>bif x then ih a t h else ih b t h
  | _=>none)
 | .block id c=>(match ih c t h with
  | none=>none
  | some (e,t',h')=>(match e with
   | .normal=>some (.normal,t',h')
   | .exit j=>bif Nat.beq j id then some (.normal,t',h') else some (.exit j,t',h')
   | .ret=>some (.ret,t',h')))
 | .loop c=>(match ih c t h with
  | none=>none
  | some (e,t',h')=>(match e with
   | .normal=>ih (.loop c) t' h'
   | .exit j=>some (.exit j,t',h')
   | .ret=>some (.ret,t',h')))
 | .exit id=>some (.exit id,t,h)
 | .ret=>some (.ret,t,h)
 | .prim ..=>none
noncomputable def ev (lib:List (Ent P G tab)) (inp:List FuncId) (n:Nat):Ih:=Nat.rec (motive:=fun _=>Ih) (fun _ _ _=>none) (fun _ ih=>evB lib inp ih) n
theorem nrm_some {r:Option (T×EH)} {e:AExit} {t:T} {h:EH} (hn:nrm r=some (e,t,h)):e = .normal∧r=some (t,h):=by
 cases r with
 | none=>cases hn
 | some x =>
  injection hn with hn; injection hn with h1 h2; injection h2 with h2 h3
  exact ⟨h1.symm,by rw [←h2,←h3]⟩
theorem evB_ok (hm:P.follows .mixedOrders=true) {lib:List (Ent P G tab)} {inp:List FuncId} {ih:Ih} (hih:IhOk P G tab ih):IhOk P G tab (evB lib inp ih):=by
 intro c t h e t' h' hr Q hQ
 cases c with
 | skip=>injection hr with hr; injection hr with h1 h2; injection h2 with h2 h3; subst h1; subst h2; subst h3; exact hQ
 | exit id=>injection hr with hr; injection hr with h1 h2; injection h2 with h2 h3; subst h1; subst h2; subst h3; exact hQ
 | ret=>injection hr with hr; injection hr with h1 h2; injection h2 with h2 h3; subst h1; subst h2; subst h3; exact hQ
 | prim n c=>cases hr
 | reg d ops =>
  cases d with
  | false =>
   obtain ⟨rfl,h1⟩:=nrm_some hr
   exact go_regS (runD_ok hm hih (K:=Q .normal) hQ ops 0 [] [] [] t h h1)
  | true =>
   simp only [evB] at hr
   cases h1:seqB 1 ops with
   | true =>
    rw [h1] at hr
    obtain ⟨rfl,h2⟩:=nrm_some hr
    exact go_draw 1 h1 (runD_ok hm hih (K:=Q .normal) hQ ops 0 _ [] [] t h h2)
   | false =>
    rw [h1] at hr
    simp only [cond_false] at hr
    cases h3:seqB 2 ops with
    | true =>
     rw [h3] at hr
     obtain ⟨rfl,h2⟩:=nrm_some hr
     exact go_draw 2 h3 (runD_ok hm hih (K:=Q .normal) hQ ops 0 _ [] [] t h h2)
    | false =>
     rw [h3] at hr
     obtain ⟨rfl,h2⟩:=nrm_some hr
     exact runG_ok hm hih hQ h2
 | seq a b =>
  simp only [evB] at hr
  split at hr
  ·cases hr
  ·next e1 t1 h1 hx =>
   refine go_seq (hih _ _ _ _ _ _ hx _ ?_)
   cases e1 with
   | normal=>exact hih _ _ _ _ _ _ hr _ hQ
   | exit j=>injection hr with hr; injection hr with h1 h2; injection h2 with h2 h3; subst h1; subst h2; subst h3; exact hQ
   | ret=>injection hr with hr; injection hr with h1 h2; injection h2 with h2 h3; subst h1; subst h2; subst h3; exact hQ
 | cond c a b =>
  simp only [evB] at hr
  split at hr
  ·next x hx =>
   cases x with
   | true=>exact go_ct hx (hih _ _ _ _ _ _ hr _ hQ)
   | false=>exact go_cf hx (hih _ _ _ _ _ _ hr _ hQ)
  ·cases hr
 | block id c =>
  simp only [evB] at hr
  split at hr
  ·cases hr
  ·next e1 t1 h1 hx =>
   refine go_blk (hih _ _ _ _ _ _ hx _ ?_)
   cases e1 with
   | normal=>injection hr with hr; injection hr with h1 h2; injection h2 with h2 h3; subst h1; subst h2; subst h3; exact hQ
   | ret=>injection hr with hr; injection hr with h1 h2; injection h2 with h2 h3; subst h1; subst h2; subst h3; exact hQ
   | exit j =>
    simp only at hr
    cases hj:Nat.beq j id with
    | true =>
     rw [hj] at hr
     injection hr with hr; injection hr with h1 h2; injection h2 with h2 h3; subst h1; subst h2; subst h3
     have:=beq_iff.1 hj; subst this
     exact go_be hQ
    | false =>
     rw [hj] at hr
     injection hr with hr; injection hr with h1 h2; injection h2 with h2 h3; subst h1; subst h2; subst h3
     exact go_bo (by rw [beq_eq_false_iff_ne]; exact beq_no.1 hj) hQ
 | loop c =>
  simp only [evB] at hr
  split at hr
  ·cases hr
  ·next e1 t1 h1 hx =>
   cases e1 with
   | normal =>
    obtain ⟨k,hk⟩:=hih _ _ _ _ _ _ hr Q hQ
    exact ⟨k+1,hih _ _ _ _ _ _ hx _ hk⟩
   | exit j=>injection hr with hr; injection hr with h1 h2; injection h2 with h2 h3; subst h1; subst h2; subst h3; exact ⟨1,hih _ _ _ _ _ _ hx _ hQ⟩
   | ret=>injection hr with hr; injection hr with h1 h2; injection h2 with h2 h3; subst h1; subst h2; subst h3; exact ⟨1,hih _ _ _ _ _ _ hx _ hQ⟩
theorem ev_ok (hm:P.follows .mixedOrders=true) (lib:List (Ent P G tab)) (inp:List FuncId):∀ n,IhOk P G tab (ev lib inp n)
 | 0=>fun c t h e t' h' hr=>by cases hr
 | n+1=>evB_ok hm (ev_ok hm lib inp n)
theorem eval (hm:P.follows .mixedOrders=true) (lib:List (Ent P G tab)) (inp:List FuncId) (n:Nat) {f:FuncId} {args:List A} {h:EH} {v:A} (hc:(callE lib inp (ev lib inp n) f args h).map (·.1)=some v):ACall P G f args (h.abs tab) fun v' _=>v'=v:=by
 rw [Option.map_eq_some_iff] at hc
 obtain ⟨⟨v',oh⟩,h1,rfl⟩:=hc
 exact (callE_ok hm (ev_ok hm lib inp n) h1).mono fun _ _ h=>h.1
end
end AX
end Go.Proofs.YtahmpiioegemaaaGreatDoor

namespace Go.Proofs.YtahmpiioegemaaaGreatDoor
open Go.RowKit
namespace AX
def gate (b:Bool) (v:A):Option (A×Option EH):=bif b then (match fR v with | some v=>some (v,none) | none=>none) else none
theorem gate_ok {b:Bool} {v v':A} {oh:Option EH} (h:gate b v=some (v',oh)):b=true∧v'=v∧oh=none:=by
 unfold gate at h
 cases b with
 | false=>cases h
 | true =>
  simp only [cond_true] at h
  split at h
  ·next e=>injection h with h; injection h with h1 h2; exact ⟨rfl,by rw [←h1,fR_ok _ _ e],h2.symm⟩
  ·cases h
abbrev Bs:=List UInt8
def eS {tab:Tab} (f:FuncId) (b:Bs→Bool) (r:Bs→A) (ok:∀ s,b s=true→∀ h,ACall Tryz.prog GT f [.str s] h fun v h'=>v=r s∧h'=h):Ent Tryz.prog GT tab where
 f:=f
 run avs h:=match avs with
  | [.str s]=>gate (b s) (r s)
  | _=>none
 ok avs h v oh e:=by
  split at e
  ·obtain ⟨h1,rfl,rfl⟩:=gate_ok e
   exact ok _ h1 _
  ·cases e
def eSI {tab:Tab} (f:FuncId) (b:Bs→Int→Bool) (r:Bs→Int→A) (ok:∀ s n,b s n=true→∀ h,ACall Tryz.prog GT f [.str s,.int .i64 n] h fun v h'=>v=r s n∧h'=h):Ent Tryz.prog GT tab where
 f:=f
 run avs h:=match avs with
  | [.str s,.int .i64 n]=>gate (b s n) (r s n)
  | _=>none
 ok avs h v oh e:=by
  split at e
  ·obtain ⟨h1,rfl,rfl⟩:=gate_ok e
   exact ok _ _ h1 _
  ·cases e
theorem fS_ok {l m:Bs} (e:mapO fU l=some m):m=l:=mapO_id fU_ok e
def libP {tab:Tab}:List (Ent Tryz.prog GT tab):=[
 eS 127 (fun s=>s.length.ble 2000000) (fun s => .bool (Str.valid s)) (fun s e h=>a_valid s (Nat.le_of_ble_eq_true e) h),
 eS 175 (fun _=>true) (fun s => .int .i64 (Val.textZ s)) (fun s _ h=>a_vtext s h),
 eSI 57 (fun s n=>s.length.ble 1000000000&&decide (-9223372036854775808≤n∧n≤9223372036854775807)) (fun s n => .str (s++Wire.num n)) (fun s n e h=>by
  rw [Bool.and_eq_true,decide_eq_true_eq] at e
  exact a_appendNumber s n (Nat.le_of_ble_eq_true e.1) e.2.1 e.2.2 h),
 eS 33 (fun s=>s.length.ble 1000000000) (fun s => .str (Crc.app s)) (fun s e h=>a_csAppend s (Nat.le_of_ble_eq_true e) h),
 eS 148 (fun s=>s.length.ble 1000000000) (fun s => .tup [.str (Crc.ver s).1,.int .i64 (Crc.ver s).2]) (fun s e h=>a_csVerify s (Nat.le_of_ble_eq_true e) h)]
def tabL:Tab:=fun k d =>
 match k,d with
 | 3,.str l=>lwt l
 | _,_=>dead
abbrev EntL:=Ent Tryz.prog GT tabL
def turnL (h:EH) (i:Nat) (k:Nat) (d:A) (v:A):Option (A×Option EH):=
 match setO h.b i (.obj k d),fR v with
 | some b,some v=>some (v,some ⟨b,h.t⟩)
 | _,_=>none
theorem turnL_ok {h:EH} {i k:Nat} {d v v':A} {oh:Option EH} (e:turnL h i k d v=some (v',oh)):v'=v∧(oh.getD h).abs tabL=⟨(h.abs tabL).b.set i (tabL k d),(h.abs tabL).t⟩:=by
 unfold turnL at e
 split at e
 ·next b v1 e1 e2 =>
  injection e with e; injection e with h1 h2; subst h1; subst h2
  exact ⟨fR_ok _ _ e2,abs_set e1⟩
 ·cases e
def lxE (h:EH) (i:Nat):Option Bs:=
 match h.b[i]? with
 | some (.obj k (.str l))=>bif k.beq 3 then some l else none
 | some (.cells T [.nilp,.sl 0 .nil []])=>bif Nat.beq T 88 then some [] else none
 | _=>none
theorem lxE_ok {h:EH} {i:Nat} {l:Bs} (e:lxE h i=some l):Lt (h.abs tabL) i l:=by
 unfold lxE at e
 split at e
 ·next k l' hb =>
  cases hk:k.beq 3 with
  | false=>rw [hk] at e; cases e
  | true =>
   rw [hk] at e
   injection e with e; subst e
   have:=beq_iff.1 hk; subst this
   exact .inl (abs_get hb)
 ·next T hb =>
  cases hk:Nat.beq T 88 with
  | false=>rw [hk] at e; cases e
  | true =>
   rw [hk] at e
   injection e with e; subst e
   have:=beq_iff.1 hk; subst this
   exact .inr ⟨rfl,abs_get hb⟩
 ·cases e
def eLWrite:EntL where
 f:=43
 run avs h:=match avs with
  | [.ptr i 0,.str s]=>(match lxE h i with
   | some l=>bif (l.length+s.length).ble 1000000000 then (match mapO fU (l++s) with | some m=>turnL h i 3 (.str m) (.tup [.int .i64 s.length,.nili]) | none=>none) else none
   | none=>none)
  | _=>none
 ok avs h v oh e:=by
  split at e
  ·next i s =>
   split at e
   ·next l hw =>
    cases hb:(l.length+s.length).ble 1000000000 with
    | false=>rw [hb] at e; cases e
    | true =>
     rw [hb] at e
     simp only [cond_true] at e
     split at e
     ·next m hm =>
      obtain ⟨rfl,h2⟩:=turnL_ok e
      rw [h2,fS_ok hm]
      exact a_lwrite (lxE_ok hw) s (Nat.le_of_ble_eq_true hb)
     ·cases e
   ·cases e
  ·cases e
def eLLen:EntL where
 f:=42
 run avs h:=match avs with
  | [.ptr i 0]=>(match lxE h i with
   | some l=>gate true (.int .i64 l.length)
   | none=>none)
  | _=>none
 ok avs h v oh e:=by
  split at e
  ·split at e
   ·next hw =>
    obtain ⟨_,rfl,rfl⟩:=gate_ok e
    exact a_llen (lxE_ok hw)
   ·cases e
  ·cases e
def eLStr:EntL where
 f:=44
 run avs h:=match avs with
  | [.ptr i 0]=>(match lxE h i with
   | some l=>bif l.isEmpty then none else turnL h i 2 .nilp (.str l)
   | none=>none)
  | _=>none
 ok avs h v oh e:=by
  split at e
  ·split at e
   ·next l hw =>
    cases hl:l.isEmpty with
    | true=>rw [hl] at e; cases e
    | false =>
     rw [hl] at e
     obtain ⟨rfl,h2⟩:=turnL_ok e
     rw [h2]
     exact a_lstring (lxE_ok hw) (by intro h0; rw [h0] at hl; cases hl)
   ·cases e
  ·cases e
def eClS:EntL where
 f:=135
 run avs h:=match avs with
  | [.sl W0 o []]=>gate true (.sl 1 .no [])
  | _=>none
 ok avs h v oh e:=by
  split at e
  ·obtain ⟨_,rfl,rfl⟩:=gate_ok e
   exact a_clone_strs0 _ _ _
  ·cases e
def eClP:EntL where
 f:=96
 run avs h:=match avs with
  | [.sl W0 o []]=>gate true (.sl 3 .no [])
  | _=>none
 ok avs h v oh e:=by
  split at e
  ·obtain ⟨_,rfl,rfl⟩:=gate_ok e
   exact a_clone_pend0 _ _ _
  ·cases e
def libL:List EntL:=eLWrite::eLLen::eLStr::eClS::eClP::libP
theorem aw35 (h:Hp):ACall Tryz.prog GT 9 [] h fun r h'=>r = .bool true∧h'=h:=
 pcall (eval (tab:=tabL) mixedT libL [75,16] 100000 (h:=⟨[],[]⟩) (by kernel_rfl)) rfl rfl h
end AX
end Go.Proofs.YtahmpiioegemaaaGreatDoor

namespace Go.Proofs.YtahmpiioegemaaaGreatDoor
open Go.RowKit Go.ChangeShapes Go.WideShapes
def Jr.bulkD (r:Jr):Nat:=r.toD.bulk
namespace AX
section
variable {H:Type} {enc:TypeId×Value→H} {w:World} {base:Nat} {spare:Nat→Bool} {held:Bool} {r:Reach} {b0:Nat} {v:Value} {d:DataW H} {p:List MemPlace}
end
structure JrOk (r:Jr):Prop where
 fit:JrFit r
 len:JrLen r
 st:Sf.Fit r.base
theorem jr_ok {r:Jr} (hw:r.Wf) (hb:r.toD.bulk≤1048576):JrOk r:=by
 have hf:=jr_fit hw hb
 have hi:=Sf.instE_bulk 2 r.after
 unfold Jr.toD at hb
 simp only [D.bulk,D.bulks] at hb
 obtain ⟨s1,s2,s3,s4,s5,s6,s7,s8⟩:=hf.strs
 refine ⟨hf,⟨?_,by omega,s4,hf.few.inn.lens⟩,Sf.fit_of hw.base (by omega)⟩
 have n1:=num10 r.step
 have n2:=num10 r.op
 have e1:=strE10 r.addr
 have e2:=strE10 r.dep
 have e3:=strE10 r.typ
 unfold Jr.stepE
 simp only [List.length_append]
 omega
theorem JrOk.encP {r:Jr} (ok:JrOk r):∀ h,ACall Tryz.prog GT 10 [.agg r.cells] h fun v h'=>v = .tup [.str (Jr.enc r).1,.int .i64 (Jr.enc r).2]∧h'=h:=
 a_jencode r ok.len ok.fit.few.inn.deps (a_stateCheck r.base ok.st.sin) fun hz=>⟨Sf.stOk_of hz ok.st.sin,ok.st.len 2⟩
theorem enc_size (r:Jr):(Jr.enc r).1.length≤1048576:=by
 unfold Jr.enc
 split
 ·simp
 split
 ·simp
 split
 ·simp
 ·dsimp only
  omega
theorem JrOk.baseOk {r:Jr} (ok:JrOk r) (h:(Jr.enc r).2=0):Jr.BaseOk r:=fun k=>by
 have hv:=(Jr.enc_ok h).1
 have he:(Sf.encode 2 r.base).2=0:=by
  by_cases e:(Sf.encode 2 r.base).2=0
  ·exact e
  ·unfold Jr.enc at h
   rw [if_neg (by rw [hv]; decide),if_pos ⟨k,e⟩] at h
   exact h
 have hz:Sf.checkZ r.base=0:=by
  by_cases z:Sf.checkZ r.base=0
  ·exact z
  ·unfold Sf.encode at he
   rw [if_pos z] at he
   exact he
 have hg:(Sf.stE 2 r.base).length≤1048572:=by
  by_cases g:1048572 < (Sf.stE 2 r.base).length
  ·unfold Sf.encode at he
   rw [if_neg (by simp [hz]),if_pos g] at he
   exact absurd (show (3:Int)=0 from he) (by decide)
  ·omega
 obtain ⟨d1,d2⟩:=Sf.decode_enc 2 (.inr rfl) r.base hz ok.st.sin ok.st.tin hg
 rw [show Sf.oldS 2 r.base=r.base from if_pos rfl] at d2
 rw [d1]
 refine ⟨d2,?_⟩
 show (Crc.app _).length≤_
 simp [Crc.app,Crc.four_length]
 omega
end AX
end Go.Proofs.YtahmpiioegemaaaGreatDoor

namespace Go.Proofs.YtahmpiioegemaaaGreatDoor
open Go.RowKit
namespace AX
def c_jlbytes:AX.AFn:=⟨9,aS [aR 2 (.mv (.c (.str [])))] (.seq (aS [aM 3 0,aR 4 (.eq 1 [] false (.t 3) (.c (.nilp)))] (.cond (.t 4) (aS [aR 2 (.mv (.c (.str [])))] (.ret)) (.skip))) (aS [aM 5 0,aR 6 (.nilck (.t 5)),aF 7 0 6,aR 8 (.call 44 [.t 7]),aM 2 8] (.ret))),[.t 2]⟩
theorem h_jlbytes:AX.compFn Tryz.prog 19=some c_jlbytes:=by kernel_rfl
def c_jlnew:AX.AFn:=⟨3,aS [aR 0 (.mv (.c (.nilp)))] (aS [aR 1 (.build [.nilp,.sl 0 .nil []] []),aR 2 (.box 88 (.t 1)),aM 0 2] (.ret)),[.t 0]⟩
theorem h_jlnew:AX.compFn Tryz.prog 16=some c_jlnew:=by kernel_rfl
theorem a_jlnew (h:Hp):ACall Tryz.prog GT 16 [] h fun v h'=>v = .ptr h.b.length 0∧h'=⟨h.b++[.cells 88 [.nilp,.sl 0 .nil []]],h.t⟩:=by
 refine acall_of mixedT h_jlnew (by simp [c_jlnew]) ?_
 dsimp only [c_jlnew]
 refine run0 ti ?_
 exact ⟨_,le_refl _,rfl,rfl⟩
theorem a_jlbytes {h:Hp} {i:Nat} {l:List UInt8} (hw:Lt h i l) (h0:l≠[]):ACall Tryz.prog GT 19 [.ptr i 0] h fun v h'=>v = .str l∧h'=⟨h.b.set i (lwt l),h.t⟩:=by
 have hi:=hw.lt
 refine acall_of mixedT h_jlbytes (by simp [c_jlbytes]) ?_
 dsimp only [c_jlbytes]
 refine run0 ti ?_
 refine use (a_lstring2 hw h0) ?_
 refine run0 ti ?_
 exact ⟨_,le_refl _,rfl,rfl⟩
end AX
namespace Jr
open Sf (Rs rd numS strS flagS cntS Took)
theorem zeroI_lens:zeroI.attrs.lens:=Val.zero_lens
theorem stepJ_le (s:Rs) (x:Jr):(stepJ s x).1.r.rest.length≤s.r.rest.length:=
 Nat.le_trans (Sf.strS_le _) (Nat.le_trans (Sf.strS_le _) (Nat.le_trans (Sf.strS_le _) (Nat.le_trans (Sf.numS_le _) (Sf.numS_le _))))
theorem instJ_lens (s:Rs) (hs:s.r.rest.length≤100000000):(instJ s).2.attrs.lens:=by
 have e1:=Sf.strS_le s
 have e2:=Sf.strS_le (strS s).1
 have e3:=Sf.strS_le (strS (strS s).1).1
 have e4:=Sf.strS_le (strS (strS (strS s).1).1).1
 have lv:=AX.readValue_lens (strS (strS (strS (strS s).1).1).1).1.r (by omega)
 unfold instJ
 dsimp only
 split
 ·exact zeroI_lens
 ·split
  ·exact zeroI_lens
  ·exact lv
theorem recJ_lens (l:List UInt8) (hl:l.length≤100000000):(recJ l).1.after.attrs.lens:=by
 have e0:=Sf.numS_le (rd l)
 have e0':(rd l).r.rest.length=l.length:=rfl
 unfold recJ
 dsimp only
 obtain ⟨q,hq⟩:∃ q,numS (rd l)=q:=⟨_,rfl⟩
 rw [hq] at e0 ⊢
 unfold partJ
 dsimp only
 split
 ·exact zeroI_lens
 ·split
  ·exact zeroI_lens
  ·split
   ·exact instJ_lens _ (Nat.le_trans (stepJ_le q.1 _) (by omega))
   ·split
    ·exact instJ_lens _ (Nat.le_trans (Sf.numS_le _) (Nat.le_trans (stepJ_le q.1 _) (by omega)))
    ·exact zeroI_lens
theorem wordsE_len:∀ ws:List (List UInt8),ws.length≤(Sf.wordsE ws).length
 | []=>Nat.zero_le _
 | w::ws=>by
  have ih:=wordsE_len ws
  have h1:1≤(Wire.num w.length).length:=by
   have:=AX.num_ne (w.length:Int)
   cases h:Wire.num (w.length:Int) with
   | nil=>exact absurd h this
   | cons a t=>simp
  have:Sf.wordsE (w::ws)=Wire.num w.length++w++Sf.wordsE ws:=by simp [Sf.wordsE,Wire.strE]
  rw [this]
  simp only [List.length_append,List.length_cons]
  omega
theorem deps_le (x:Sf.Inst):x.deps.length≤(Sf.instE 2 x).length:=by
 have:=wordsE_len x.deps
 unfold Sf.instE
 simp only [List.length_append]
 omega
theorem zero_in:AX.Sf.StIn Sf.zero:=⟨by decide,by simp [Sf.zero],by simp [Sf.zero],by simp [Sf.zero],by decide,by decide,by decide⟩
theorem rec_size {l:List UInt8} {x:Jr} (h:recJ l=(x,true)) (hl:l.length≤2000000) :
  (stepE x).length≤100000000∧(Sf.instE 2 x.after).length≤100000000∧x.tok.length≤2000000∧x.after.attrs.lens∧x.after.deps.length≤1000000000∧AX.Sf.StIn x.base∧(Sf.checkZ x.base=0→AX.Sf.StOk x.base∧(Sf.stE 2 x.base).length+20≤1000000000):=by
 have hlens:x.after.attrs.lens:=by
  have:=recJ_lens l (by omega)
  rw [h] at this
  exact this
 have hz:(Sf.instE 2 zeroI).length≤100:=by decide +kernel
 have hb:AX.Sf.StIn Sf.zero∧(Sf.checkZ Sf.zero=0→AX.Sf.StOk Sf.zero∧(Sf.stE 2 Sf.zero).length+20≤1000000000):=
  ⟨zero_in,fun e=>⟨Sf.stOk_of e zero_in,by decide +kernel⟩⟩
 have hd:=deps_le x.after
 have sl:∀ s:List UInt8,s.length≤(Wire.strE s).length:=fun s=>by unfold Wire.strE; rw [List.length_append]; omega
 rcases rec_took h with ⟨k1,ka,kt,k2,k3,k4,k5,k6,B,kl,kB⟩ | ⟨k1,kb,ka,kl⟩ | ⟨k1,kb,kt,kl⟩ | ⟨k1,kb,kt,kl⟩ | k
 ·have hB:B.length≤2000000:=by
   have:=sl B
   have:=congrArg List.length kl
   simp only [List.length_append] at this
   omega
  obtain ⟨ver,hver,hvs,hck,henc,hlen,hp1,s0,hs0,hst⟩:=Sf.decode_back kB
  have hin:AX.Sf.StIn x.base:=by rw [hst]; exact Sf.state_in ver s0 (by omega)
  refine ⟨?_,by rw [ka]; omega,by rw [kt]; decide,hlens,by rw [ka]; decide,hin,fun e=>⟨Sf.stOk_of hck hin,?_⟩⟩
  ·unfold stepE
   rw [k2,k3,k4,k5,k6]
   decide +kernel
  ·have hparts:=Sf.check_parts hck
   rcases hver with rfl | rfl
   ·have:=Sf.stE_two x.base (hp1 rfl)
    omega
   ·omega
 ·have:=congrArg List.length kl
  simp only [List.length_append] at this
  have:=sl x.tok
  exact ⟨by omega,by rw [ka]; omega,by omega,hlens,by rw [ka]; decide,by rw [kb]; exact hb.1,by rw [kb]; exact hb.2⟩
 ·have:=congrArg List.length kl
  simp only [List.length_append] at this
  exact ⟨by omega,by omega,by rw [kt]; decide,hlens,by omega,by rw [kb]; exact hb.1,by rw [kb]; exact hb.2⟩
 ·have:=congrArg List.length kl
  simp only [List.length_append] at this
  exact ⟨by omega,by omega,by rw [kt]; decide,hlens,by omega,by rw [kb]; exact hb.1,by rw [kb]; exact hb.2⟩
 ·generalize x.kind=kd at k
  subst k
  refine ⟨?_,Nat.le_trans hz (by decide),Nat.zero_le _,zeroI_lens,Nat.zero_le _,hb.1,hb.2⟩
  have:(stepE zeroR).length≤100000000:=by decide +kernel
  exact this
end Jr
end Go.Proofs.YtahmpiioegemaaaGreatDoor

namespace Go.Proofs.YtahmpiioegemaaaGreatDoor
open Go.RowKit
namespace AX
theorem a_jfirstA (b:List UInt8) (hl:b.length≤2000000) (h:Hp) :
  ACall Tryz.prog GT 39 [.str b] h fun v h'=>v=firstA b∧h'=h:=by
 refine a_jfirst b hl (fun x hx h=>?_) h
 have ht:(Sf.strS (Sf.rd b)).2.length≤2000000:=Nat.le_trans (Sf.strS_len (Sf.rd b)) hl
 obtain ⟨h1,h2,h3,h4,h5,h6,h7⟩:=Jr.rec_size hx ht
 exact a_jencode x ⟨h1,h2,h3,h4⟩ h5 (a_stateCheck x.base h6) h7 h
def c_jread1:AX.AFn:=⟨28,aS [aR 2 (.mv (.c (.sl 0 .nil []))),aR 3 (.mv (aI 0))] (aS [aR 4 (.mv (.c (.sl 0 .nil [])))] (aS [aR 5 (.mv (aI 0))] (.block 0 (.loop (.block 1 (aS [aM 10 0,aM 11 5,aR 12 (.ssl (.t 10) (some (.t 11)) none),aR 13 (.call 39 [.t 12]),aM 9 13,aE 14 9 0,aE 15 9 1,aE 16 9 2,aR 6 (.alloc 38 [.int .i64 0,.str [],.int .i64 0,.sl 0 .nil [],.sl 0 .nil [],.sl 0 .nil [],.int .i64 0,.int .i64 0,.str [],.str [],.str [],.str [],.int .i64 0,.str [],.str [],.str [],.str [],.int .i64 0,.int .i64 0,.str [],.sl 0 .nil [],.sl 0 .nil [],.int .i64 0,.bool false,.bool false,.sl 0 .nil []]),aU (.store 26 (.t 6) (.t 14)),aM 7 15,aM 8 16] (.seq (aS [aM 17 8,aR 18 (.un .not (.t 17))] (.cond (.t 18) (aS [aM 19 4,aM 20 5,aM 2 19,aM 3 20] (.ret)) (.skip))) (aS [aM 21 4,aR 22 (.load true 26 (.t 6)),aR 23 (.mks 26 [.t 22]),aR 24 (.app 38 26 376 (.t 21) (.t 23)),aM 4 24] (.reg false [aM 25 5,aM 26 7,aR 27 (.bin .add (.t 25) (.t 26)),aM 5 27]))))))))),[.t 2,.t 3]⟩
theorem h_jread1:AX.compFn Tryz.prog 12=some c_jread1:=by kernel_rfl
theorem jrs_pure (rs:List Jr) (n:Int):(A.tup [.sl 26 .no (rs.map Jr.cells),.int .i64 n]).pure=true:=by
 simp [A.pure,A.data]
theorem a_jread (b:List UInt8) (hl:b.length≤2000000) (h:Hp) :
  ACall Tryz.prog GT 12 [.str b] h fun v h'=>v = .tup [.sl 26 .no ((Jr.readJ b).1.map Jr.cells),.int .i64 ((Jr.readJ b).2:Nat)]∧h'=h:=by
 refine pcall ?_ (jrs_pure _ _) (by simp [A.pure,A.data]) h
 refine acall_of mixedT h_jread1 (by simp [c_jread1]) ?_
 dsimp only [c_jread1]
 refine run0 ti ?_
 refine awp_loop (fun mm ts h=>∃ (a:Nat) (rs:List Jr) (W:Nat) (o:Own) (l:List Blk) (t:List (TypeId×Nat×Nat)),mm=b.length - a∧a≤b.length∧h=⟨l,t⟩∧Jr.readJ b=(rs++(Jr.readJ (b.drop a)).1,a+(Jr.readJ (b.drop a)).2)∧rs.length≤a∧Gs 38 26 0 ⟨[],t⟩ (rs.map Jr.cells) (.sl W o (rs.map Jr.cells))∧ts 0 = .str b∧ts 4 = .sl W o (rs.map Jr.cells)∧ts 5 = .int .i64 (a:Nat)) b.length ?_ ?_
 ·exact ⟨0,[],0,.nil,[],[],by omega,by omega,rfl,by simp,by simp,.inl ⟨rfl,rfl⟩,by (exact ev0 ti),by (exact ev0 ti),by (exact inv0 ti)⟩
 rintro mm ts h ⟨a,rs,W,o,l,t,rfl,ha,rfl,hr,hn,gX,t0,t4,t5⟩
 have cf:=a_jfirstA (b.drop a) (by rw [List.length_drop]; omega)
 have hs:(0:Int)≤(a:Int)∧(a:Int)≤(b.length:Int):=by omega
 cases hF:Jr.firstJ (b.drop a) with
 | none =>
  have hA:firstA (b.drop a) = .tup [.agg Jr.zeroR.cells,.int .i64 0,.bool false]:=by unfold firstA; rw [hF]
  rw [hA] at cf
  rw [Jr.readJ_none hF] at hr
  simp only [Jr.cells,Jr.zeroR,Jr.zeroI,Sf.zero,Sf.Inst.cells,List.cons_append,List.nil_append] at cf
  rw [hr]
  refine run0 (ai t0 (ai t4 (ai t5 hs))) ?_
  refine use (cf _) ?_
  refine run0 (ai t0 (ai t4 (ai t5 hs))) ?_
  exact ⟨.tup [.sl 26 .no (rs.map Jr.cells),.int .i64 (a:Nat)],⟨Gs.le gX,le2_refl _,trivial⟩,by simp⟩
 | some p =>
  obtain ⟨x,n⟩:=p
  have hsm:=Jr.first_some hF
  have hA:firstA (b.drop a) = .tup [.agg x.cells,.int .i64 (n:Nat),.bool true]:=by unfold firstA; rw [hF]
  rw [hA] at cf
  rw [Jr.readJ_cons hF,List.drop_drop] at hr
  have hlen:n≤b.length - a:=by have:=hsm.2.2; rw [List.length_drop] at this; exact this
  have ei:IntKind.i64.wrap ((a:Int)+(n:Int))=((a+n:Nat):Int):=by rw [wrap64 (by omega) (by omega)]; omega
  obtain ⟨W',o',t',hX,gX',kX⟩:=gX.grow 376 x.cells (by rw [List.length_map]; omega) (by decide)
  have em:rs.map Jr.cells++[x.cells]=(rs++[x]).map Jr.cells:=by simp
  rw [em] at gX'
  simp only [em] at hX
  obtain ⟨rs2,hrs⟩:∃ r,rs++[x]=r:=⟨_,rfl⟩
  have hr2:Jr.readJ b=(rs2++(Jr.readJ (b.drop (a+n))).1,(a+n)+(Jr.readJ (b.drop (a+n))).2):=by
   rw [hr,←hrs,Nat.add_assoc]
   simp
  have hn2:rs2.length≤a+n:=by rw [←hrs]; simp; omega
  rw [hrs] at gX' hX
  clear hrs hr em hA hF
  have h4:=hsm.2.1
  clear hsm
  obtain ⟨B,hB⟩:∃ B,B=Blk.cells 38 x.cells:=⟨_,rfl⟩
  obtain ⟨kd,⟨lin,ser,ins,ps,os⟩,st,op,ad,dp,ty,tk,er,⟨a1,a2,a3,a4,⟨k,nn,ss,is,ks⟩,v,tn,fi,ds⟩⟩:=x
  simp only [Jr.cells,Sf.Inst.cells,List.cons_append,List.nil_append] at cf hX hB
  refine run0 (ai t0 (ai t4 (ai t5 hs))) ?_
  refine use (cf _) ?_
  refine run0 (ai t0 (ai t4 (ai t5 (ai hs (ai hX ei))))) ?_
  exact ⟨b.length - (a+n),by omega,a+n,rs2,W',o',l++[B],t',rfl,by omega,by rw [hB],hr2,hn2,gX',by (exact ev0 t0),by (exact ev0 ti),by (exact ev0 ei)⟩
def c_jlrecords:AX.AFn:=⟨12,aS [aR 2 (.mv (.c (.sl 0 .nil [])))] (aS [aM 6 0,aR 7 (.call 19 [.t 6]),aR 8 (.call 12 [.t 7]),aM 5 8,aE 9 5 0,aE 10 5 1,aM 3 9,aM 4 10] (aS [aM 11 3,aM 2 11] (.ret))),[.t 2]⟩
theorem h_jlrecords:AX.compFn Tryz.prog 20=some c_jlrecords:=by kernel_rfl
end AX
set_option maxRecDepth 100000 in
theorem lf_string0 {F:Nat→Prop} {b cap:Nat} {p:Value} {w:World} (hbk:w.heap[b]?=some (.cells #[p,.slice none 0 cap] 88 (0,0))) :
  Calls Tryz.prog 44 #[.pointer (some ⟨b,0,none⟩)] w fun e w'=>e = .returned (.string .empty)∧w'.heap=w.heap∧Fr F w w':=by
 have c1:w.drew.cell? ⟨b,1,none⟩=some (.slice none 0 cap):=(cell_row2 hbk).2.1
 have hSD:(Builtin.unsafeSliceData_ #[61] 133 #[.slice none 0 cap]).run Tryz.prog w.drew = .ok (.pointer none) w.drew:=
  Lib.run_unsafeSliceData_nil _ _ _ _ _
 have hUS:(Builtin.unsafeString_ #[133,3] 9 #[.pointer none,.int .i64 0]).run Tryz.prog w.drew = .ok (.string .empty) w.drew:=
  Lib.run_unsafeString_none _ _ _ _ _
 have Hfr:=kept (show w.drew.heap=w.heap∧Fr F w w.drew from ⟨rfl,⟨rfl,rfl,rfl,Nat.le_refl _,fun _ _ _=>rfl⟩⟩)
 clear hbk
 have mixed:=Tryz.lays169.mixed
 go_enter Tryz.func44,Tryz.ntmps44
 go_wp2
 go_region_o
 all_goals (go_wp2; go_ret; exact ⟨rfl,Hfr.out.1,Hfr.out.2⟩)
namespace AX
theorem a_lstring0 {h:Hp} {i:Nat} (h1:h.b[i]?=some (.cells 88 [.nilp,.sl 0 .nil []])):ACall Tryz.prog GT 44 [.ptr i 0] h fun v h'=>v = .str []∧h'=h:=by
 intro C es hI ha
 obtain ⟨c,es',rfl,g1,g2⟩:=repL_cons.1 ha
 obtain ⟨rfl,hi⟩:=rep_ptr.1 g1
 rw [repL_nil] at g2; subst g2
 obtain ⟨cs,k1,k2⟩:=hI.box i _ h1
 obtain ⟨c0,d0,rfl,e0,k2⟩:=repL_cons.1 k2
 obtain ⟨c1,d1,rfl,e1,k2⟩:=repL_cons.1 k2
 rw [repL_nil] at k2; subst k2
 rw [rep_nilp] at e0; subst e0
 obtain ⟨a,cap,rfl,f1,f2,e3,e4,e5⟩:=rep_sl.1 e1
 subst e3; subst e4
 refine (lf_string0 (F:=fun g=>C.own g=some i) k1).mono ?_
 rintro e w' ⟨rfl,mh,m2⟩
 have hrep:BlkRep (C.turn w' i false) i (.cells 88 [.nilp,.sl 0 .nil []]):=by
  refine ⟨[.pointer none,.slice none 0 0],by show w'.heap[C.κ i]?=_; rw [mh]; exact k1,repL_cons.2 ⟨_,_,rfl,rep_nilp.2 rfl,repL_cons.2 ⟨_,_,rfl,?_,repL_nil.2 rfl⟩⟩⟩
  exact rep_sl.2 ⟨none,0,rfl,f1,by simp [RepRows],by simp [RepOwn]⟩
 obtain ⟨i1,s1⟩:=box_turn (b':=.cells 88 [.nilp,.sl 0 .nil []]) false hI hi m2.os m2.tape m2.output m2.size (fun g hg hne=>m2.block g hg hne) (fun _=>hrep)
 have hh:(⟨h.b.set i (.cells 88 [.nilp,.sl 0 .nil []]),h.t⟩:Hp)=h:=by
  have hs:h.b.set i (.cells 88 [.nilp,.sl 0 .nil []])=h.b:=by
   apply List.ext_getElem?
   intro j
   by_cases e:i=j
   ·subst e
    rw [List.getElem?_set_self (by have:=(List.getElem?_eq_some_iff.1 h1).1; exact this),h1]
   ·rw [List.getElem?_set_ne e]
  rw [hs]
 rw [hh] at i1
 exact ⟨_,_,.str [],_,rfl,rfl,i1,s1,rep_str.2 rfl,rfl,rfl⟩
def c_jlbytes0:AX.AFn:=⟨9,aS [aR 2 (.mv (.c (.str [])))] (.seq (aS [aM 3 0,aR 4 (.eq 1 [] false (.t 3) (.c (.nilp)))] (.cond (.t 4) (aS [aR 2 (.mv (.c (.str [])))] (.ret)) (.skip))) (aS [aM 5 0,aR 6 (.nilck (.t 5)),aF 7 0 6,aR 8 (.call 44 [.t 7]),aM 2 8] (.ret))),[.t 2]⟩
theorem h_jlbytes0:AX.compFn Tryz.prog 19=some c_jlbytes0:=by kernel_rfl
theorem a_jlbytes0 {h:Hp} {i:Nat} (h1:h.b[i]?=some (.cells 88 [.nilp,.sl 0 .nil []])):ACall Tryz.prog GT 19 [.ptr i 0] h fun v h'=>v = .str []∧h'=h:=by
 have hi:i < h.b.length:=(List.getElem?_eq_some_iff.1 h1).1
 refine acall_of mixedT h_jlbytes0 (by simp [c_jlbytes0]) ?_
 dsimp only [c_jlbytes0]
 refine run0 ti ?_
 refine use (a_lstring0 h1) ?_
 refine run0 ti ?_
 exact ⟨_,le_refl _,rfl,rfl⟩
theorem a_jlapp {l:List UInt8} (hl:l.length≤1048576) (r:Jr) (he:(Jr.enc r).1.length≤1048576) (cE:∀ h,ACall Tryz.prog GT 10 [.agg r.cells] h fun v h'=>v = .tup [.str (Jr.enc r).1,.int .i64 (Jr.enc r).2]∧h'=h) {h:Hp} {i:Nat} (hb:h.b[i]?=some (lgB l)) :
  ACall Tryz.prog GT 18 [.ptr i 0,.agg r.cells] h fun v h'=>v = .int .i64 (Jr.appE l r).2∧h'=⟨h.b.set i (lgB (Jr.appE l r).1),h.t⟩:=by
 have key:ACall Tryz.prog GT 18 [.ptr 0 0,.agg r.cells] ⟨[lgB l],[]⟩ fun v h'=>∃ b',h'.b[0]?=some b'∧v = .int .i64 (Jr.appE l r).2∧b'=lgB (Jr.appE l r).1:=
  (a_jlappend (h:=⟨[lgB l],[]⟩) (i:=0) rfl hl r he cE).mono fun v h' ⟨e,h1,_⟩=>⟨_,h1,e,rfl⟩
 refine (ACall.lift1 key (jr_loc r) (lgB_loc l) ?_ hb).mono ?_
 ·rintro v b' ⟨rfl,rfl⟩
  exact ⟨rfl,lgB_loc _⟩
 ·rintro v h' ⟨b',⟨rfl,rfl⟩,rfl⟩
  exact ⟨rfl,rfl⟩
theorem hp_set (h:Hp) (i:Nat) (x:Blk) (hb:h.b[i]?=some x):(⟨h.b.set i x,h.t⟩:Hp)=h:=by
 obtain ⟨b,t⟩:=h
 obtain ⟨h1,h2⟩:=List.getElem?_eq_some_iff.1 hb
 have:b.set i x=b:=by rw [←h2]; exact List.set_getElem_self h1
 dsimp only
 rw [this]
theorem a_jlb {h:Hp} {i:Nat} {l:List UInt8} (hb:h.b[i]?=some (lgB l)):ACall Tryz.prog GT 19 [.ptr i 0] h fun v h'=>v = .str l∧h'=h:=by
 by_cases h0:l=[]
 ·subst h0
  exact a_jlbytes0 hb
 ·refine (a_jlbytes (lgB_lt hb) h0).mono ?_
  rintro v h' ⟨rfl,rfl⟩
  have e:lgB l=lwt l:=if_neg h0
  exact ⟨rfl,hp_set h i _ (by rw [hb,e])⟩
theorem a_jlr {h:Hp} {i:Nat} {l:List UInt8} (hb:h.b[i]?=some (lgB l)) (hl:l.length≤2000000):ACall Tryz.prog GT 20 [.ptr i 0] h fun v h'=>v = .sl 26 .no ((Jr.readJ l).1.map Jr.cells)∧h'=h:=by
 refine acall_of mixedT h_jlrecords (by simp [c_jlrecords]) ?_
 dsimp only [c_jlrecords]
 refine run0 ti ?_
 refine use (a_jlb hb) ?_
 refine run0 ti ?_
 refine use (a_jread l hl _) ?_
 refine run0 ti ?_
 exact ⟨_,le_refl _,rfl,rfl⟩
end AX
end Go.Proofs.YtahmpiioegemaaaGreatDoor

namespace Go.Proofs.YtahmpiioegemaaaGreatDoor
namespace Jr
def logF:List Jr→List UInt8→List Jr→List UInt8×List Jr
 | [],b,ks=>(b,ks)
 | r::rs,b,ks=>logF rs (appE b r).1 (if (appE b r).2=0 then ks++[r] else ks)
theorem logF_cons (r:Jr) (rs:List Jr) (b:List UInt8) (ks:List Jr):logF (r::rs) b ks=logF rs (appE b r).1 (if (appE b r).2=0 then ks++[r] else ks):=rfl
theorem appE_zero {b:List UInt8} {r:Jr} (h:(appE b r).2=0):(enc r).2=0∧(appE b r).1=b++(enc r).1∧b.length+(enc r).1.length≤1048576:=by
 unfold appE at h ⊢
 by_cases e:(enc r).2≠0
 ·rw [if_pos e] at h; exact absurd h e
 rw [if_neg e] at h ⊢
 by_cases g:1048576 < b.length+(enc r).1.length
 ·rw [if_pos g] at h; exact absurd (show (3:Int)=0 from h) (by decide)
 rw [if_neg g]
 exact ⟨by simpa using e,rfl,by omega⟩
theorem appE_not {b:List UInt8} {r:Jr} (h:(appE b r).2≠0):(appE b r).1=b:=by
 unfold appE at h ⊢
 by_cases e:(enc r).2≠0
 ·rw [if_pos e]
 rw [if_neg e] at h ⊢
 by_cases g:1048576 < b.length+(enc r).1.length
 ·rw [if_pos g]
 ·rw [if_neg g] at h; exact absurd rfl h
theorem encs_snoc (ks:List Jr) (r:Jr):encs (ks++[r])=encs ks++(enc r).1:=by simp [encs]
theorem logF_encs:∀ (rs:List Jr) (b:List UInt8) (ks:List Jr),b=encs ks→b.length≤1048576→(∀ r∈ks,(enc r).2=0∧BaseOk r)→(∀ r∈rs,(enc r).2=0→BaseOk r) →
  (logF rs b ks).1=encs (logF rs b ks).2∧(logF rs b ks).1.length≤1048576∧∀ r∈(logF rs b ks).2,(enc r).2=0∧BaseOk r
 | [],b,ks,h,hl,hk,_=>⟨h,hl,hk⟩
 | r::rs,b,ks,h,hl,hk,hr=>by
  unfold logF
  by_cases e:(appE b r).2=0
  ·obtain ⟨e1,e2,e3⟩:=appE_zero e
   rw [if_pos e]
   refine logF_encs rs _ _ (by rw [e2,encs_snoc,←h]) (by rw [e2,List.length_append]; exact e3) (fun x hx=>?_) (fun x hx=>hr x (List.mem_cons_of_mem _ hx))
   rcases List.mem_append.1 hx with hx | hx
   ·exact hk x hx
   ·rw [List.mem_singleton.1 hx]; exact ⟨e1,hr r List.mem_cons_self e1⟩
  ·rw [if_neg e,appE_not e]
   exact logF_encs rs _ _ h hl hk (fun x hx=>hr x (List.mem_cons_of_mem _ hx))
theorem log_read (rs:List Jr) (hr:∀ r∈rs,(enc r).2=0→BaseOk r):readJ (logF rs [] []).1=((logF rs [] []).2,(logF rs [] []).1.length):=by
 obtain ⟨h1,_,h3⟩:=logF_encs rs [] [] rfl (by simp) (by simp) hr
 have:=read_encs (logF rs [] []).2 [] h3
 rw [List.append_nil] at this
 have e0:readJ []=([],0):=rfl
 rw [e0,List.append_nil] at this
 rw [h1,this]
 simp
theorem logF_mem:∀ (rs:List Jr) (b:List UInt8) (ks:List Jr) (r:Jr),r∈(logF rs b ks).2→r∈ks∨r∈rs
 | [],b,ks,r,h => .inl h
 | x::rs,b,ks,r,h=>by
  unfold logF at h
  rcases logF_mem rs _ _ r h with h | h
  ·split at h
   ·rcases List.mem_append.1 h with h | h
    ·exact .inl h
    ·rw [List.mem_singleton.1 h]; exact .inr List.mem_cons_self
   ·exact .inl h
  ·exact .inr (List.mem_cons_of_mem _ h)
def offs (ks:List Jr):List Nat:=(List.range ks.length).map fun i=>(encs (ks.take (i+1))).length
theorem offs_len (ks:List Jr):(offs ks).length=ks.length:=by simp [offs]
theorem offs_snoc (ks:List Jr) (r:Jr):offs (ks++[r])=offs ks++[(encs (ks++[r])).length]:=by
 unfold offs
 rw [List.length_append,List.length_singleton,List.range_succ,List.map_append,List.map_singleton]
 congr 1
 ·apply List.map_congr_left
  intro i hi
  have:=List.mem_range.1 hi
  rw [List.take_append_of_le_length (by omega)]
 ·rw [List.take_of_length_le (by simp)]
theorem offs_at (ks:List Jr) (i:Nat) (h:i < ks.length):(offs ks)[i]'(by rw [offs_len]; exact h)=(encs (ks.take (i+1))).length:=by
 simp [offs]
end Jr
namespace Jr
def inside:List Jr→Nat→Nat
 | [],_=>0
 | r::l,n=>if (enc r).1.length≤n then inside l (n - (enc r).1.length)+1 else 0
theorem encs_cons (r:Jr) (l:List Jr):encs (r::l)=(enc r).1++encs l:=by simp [encs]
theorem read_take:∀ (l:List Jr) (n:Nat),(∀ r∈l,(enc r).2=0∧BaseOk r)→readJ ((encs l).take n)=(l.take (inside l n),(encs (l.take (inside l n))).length)
 | [],n,_=>by
  show readJ (([]:List UInt8).take n)=_
  rw [List.take_nil]
  rfl
 | r::l,n,h=>by
  have hr:=h r List.mem_cons_self
  unfold inside
  by_cases hn:(enc r).1.length≤n
  ·have e:(encs (r::l)).take n=(enc r).1++(encs l).take (n - (enc r).1.length):=by
    rw [encs_cons,List.take_append,List.take_of_length_le hn]
   rw [e,if_pos hn,readJ_cons (first_enc r _ hr.1 hr.2),List.drop_left,read_take l _ fun x hx=>h x (List.mem_cons_of_mem _ hx)]
   rw [List.take_succ_cons,encs_cons,List.length_append]
  ·have e:(encs (r::l)).take n=(enc r).1.take n:=by
    rw [encs_cons,List.take_append_of_le_length (by omega)]
   rw [e,if_neg hn,readJ_none (first_part r hr.1 n (by omega))]
   rfl
theorem inside_le:∀ (l:List Jr) (n:Nat),inside l n≤l.length
 | [],n=>Nat.le_refl _
 | r::l,n=>by
  unfold inside
  split
  ·have:=inside_le l (n - (enc r).1.length)
   rw [List.length_cons]; omega
  ·exact Nat.zero_le _
theorem inside_iff:∀ (l:List Jr) (n i:Nat),i≤l.length→((encs (l.take i)).length≤n↔i≤inside l n)
 | l,n,0,_=>by simp [encs]
 | [],n,i+1,h=>by simp at h
 | r::l,n,i+1,h=>by
  unfold inside
  rw [List.take_succ_cons,encs_cons,List.length_append]
  split
  ·have:=inside_iff l (n - (enc r).1.length) i (by simpa using h)
   omega
  ·omega
end Jr
namespace Jr
open Sf (Rs rd numS strS flagS cntS)
end Jr
end Go.Proofs.YtahmpiioegemaaaGreatDoor

namespace Go.Proofs.YtahmpiioegemaaaGreatDoor
namespace Jr
theorem enc_parts {r:Jr} (h:(enc r).2=0):(enc r).1=Wire.num r.body.length++(r.body++Crc.four (Crc.upd 0 (Wire.strE r.body)))∧(enc r).1.length=(Wire.num r.body.length).length+r.body.length+4:=by
 obtain ⟨_,he,_⟩:=enc_ok h
 rw [he]
 refine ⟨by unfold Crc.app; conv => lhs; lhs; unfold Wire.strE
            rw [List.append_assoc], ?_⟩
 simp [Crc.app,Crc.four_length,Wire.strE]
 omega
end Jr
end Go.Proofs.YtahmpiioegemaaaGreatDoor

namespace Go.Proofs.YtahmpiioegemaaaGreatDoor
open Go.RowKit
namespace AX
def c_qsame:AX.AFn:=⟨26,aS [aR 4 (.mv (.c (.bool false)))] (.seq (aS [aM 6 0,aR 7 (.len false (.t 6)),aM 8 1,aR 9 (.len false (.t 8)),aR 10 (.bin .neq (.t 7) (.t 9))] (.cond (.t 10) (aS [aR 4 (.mv (.c (.bool false)))] (.ret)) (.skip))) (.seq (aS [aR 5 (.mv (aI 0))] (.block 0 (.loop (.seq (aS [aM 11 5,aM 12 0,aR 13 (.len false (.t 12)),aR 14 (.bin .lss (.t 11) (.t 13))] (.cond (.t 14) (.skip) (.exit 0))) (.seq (.block 1 (.seq (.reg true [aM 17 0,aM 18 5,⟨some 19,.iaddr 1 (.t 17) (.t 18),none,[0,1]⟩,⟨some 20,.load false 1 (.t 19),none,[2]⟩,aM 21 1,aM 22 5,⟨some 23,.iaddr 1 (.t 21) (.t 22),none,[4,5]⟩,⟨some 24,.load false 1 (.t 23),none,[6]⟩,⟨some 25,.bin .neq (.t 20) (.t 24),none,[3,7]⟩]) (.cond (.t 25) (aS [aR 4 (.mv (.c (.bool false)))] (.ret)) (.skip)))) (.reg false [aM 15 5,aR 16 (.bin .add (.t 15) (aI 1)),aM 5 16])))))) (aS [aR 4 (.mv (.c (.bool true)))] (.ret)))),[.t 4]⟩
theorem h_qsame:AX.compFn Tryz.prog 125=some c_qsame:=by kernel_rfl
def c_qeqinst:AX.AFn:=⟨66,aS [aR 2 (.box 36 (.t 0)),aR 3 (.box 36 (.t 1)),aR 4 (.mv (.c (.bool false)))] (aS [aF 5 0 2,aL 6 5,aF 7 0 3,aL 8 7,aR 9 (.bin .eql (.t 6) (.t 8)),aM 10 9,aG 11 (.faddr 1 (.t 2)) 10 true,aG 12 (.load false 1 (.t 11)) 10 true,aG 13 (.faddr 1 (.t 3)) 10 true,aG 14 (.load false 1 (.t 13)) 10 true,aG 15 (.bin .eql (.t 12) (.t 14)) 10 true,aR 16 (.pick (.t 10) (.t 15) (.c (.bool false))),aM 17 16,aG 18 (.faddr 2 (.t 2)) 17 true,aG 19 (.load false 1 (.t 18)) 17 true,aG 20 (.faddr 2 (.t 3)) 17 true,aG 21 (.load false 1 (.t 20)) 17 true,aG 22 (.bin .eql (.t 19) (.t 21)) 17 true,aR 23 (.pick (.t 17) (.t 22) (.c (.bool false))),aM 24 23,aG 25 (.faddr 3 (.t 2)) 24 true,aG 26 (.load false 1 (.t 25)) 24 true,aG 27 (.faddr 3 (.t 3)) 24 true,aG 28 (.load false 1 (.t 27)) 24 true,aG 29 (.bin .eql (.t 26) (.t 28)) 24 true,aR 30 (.pick (.t 24) (.t 29) (.c (.bool false))),aM 31 30,aG 32 (.faddr 4 (.t 2)) 31 true,aG 33 (.load true 5 (.t 32)) 31 true,aG 34 (.faddr 4 (.t 3)) 31 true,aG 35 (.load true 5 (.t 34)) 31 true,aG 36 (.call 103 [.t 33,.t 35]) 31 true,aR 37 (.pick (.t 31) (.t 36) (.c (.bool false))),aM 38 37,aG 39 (.faddr 9 (.t 2)) 38 true,aG 40 (.load false 1 (.t 39)) 38 true,aG 41 (.faddr 9 (.t 3)) 38 true,aG 42 (.load false 1 (.t 41)) 38 true,aG 43 (.bin .eql (.t 40) (.t 42)) 38 true,aR 44 (.pick (.t 38) (.t 43) (.c (.bool false))),aM 45 44,aG 46 (.faddr 10 (.t 2)) 45 true,aG 47 (.load false 1 (.t 46)) 45 true,aG 48 (.faddr 10 (.t 3)) 45 true,aG 49 (.load false 1 (.t 48)) 45 true,aG 50 (.eq 0 [] false (.t 47) (.t 49)) 45 true,aR 51 (.pick (.t 45) (.t 50) (.c (.bool false))),aM 52 51,aG 53 (.faddr 11 (.t 2)) 52 true,aG 54 (.load false 1 (.t 53)) 52 true,aG 55 (.faddr 11 (.t 3)) 52 true,aG 56 (.load false 1 (.t 55)) 52 true,aG 57 (.eq 0 [] false (.t 54) (.t 56)) 52 true,aR 58 (.pick (.t 52) (.t 57) (.c (.bool false))),aM 59 58,aG 60 (.faddr 12 (.t 2)) 59 true,aG 61 (.load false 1 (.t 60)) 59 true,aG 62 (.faddr 12 (.t 3)) 59 true,aG 63 (.load false 1 (.t 62)) 59 true,aG 64 (.call 125 [.t 61,.t 63]) 59 true,aR 65 (.pick (.t 59) (.t 64) (.c (.bool false))),aM 4 65] (.ret)),[.t 4]⟩
theorem h_qeqinst:AX.compFn Tryz.prog 86=some c_qeqinst:=by kernel_rfl
theorem a_qsame (l:List (List UInt8)) (hl:l.length≤1000000000) (h:Hp):ACall Tryz.prog GT 125 [.sl 1 .no (strsA l),.sl 1 .no (strsA l)] h fun r h'=>r = .bool true∧h'=h:=by
 refine pcall ?_ rfl (by simp [A.pure,A.data]) h
 refine acall_of mixedT h_qsame (by simp [c_qsame]) ?_
 dsimp only [c_qsame]
 have li:=strsA_length l
 refine run0 li ?_
 refine awp_loop (fun m ts hh=>hh=⟨[],[]⟩∧∃ i:Nat,m=l.length - i∧i≤l.length∧(ts 0 = .sl 1 .no (strsA l)∧ts 1 = .sl 1 .no (strsA l)∧ts 5 = .int .i64 (i:Nat))) l.length ?_ ?_
 ·exact ⟨rfl,0,rfl,Nat.zero_le _,by (exact inv0 li)⟩
 rintro m ts hh ⟨rfl,i,rfl,hi,ht⟩
 rcases Nat.lt_or_ge i l.length with hlt | hge
 ·have hf:(strsA l).length=l.length∧(i:Int) < (l.length:Int)∧(0:Int)≤(i:Int)∧(strsA l).getD i []=[.str l[i]]∧IntKind.i64.wrap ((i:Int)+1)=((i+1:Nat):Int):=rowj_at (fun s:List UInt8=>[A.str s]) l i hlt (by omega)
  refine run0 (ai ht hf) ?_
  exact ⟨_,by omega,rfl,i+1,rfl,by omega,by (exact inv0 (ai ht hf))⟩
 ·have hf:¬ (i:Int) < (l.length:Int):=by omega
  refine run0 (ai ht (ai li hf)) ?_
  exact ⟨_,le_refl _,rfl⟩
theorem a_qeqinst (x:Sf.Inst) (hx:x.attrs.lens) (hd:x.deps.length≤1000000000) (h:Hp):ACall Tryz.prog GT 86 [.agg x.cells,.agg x.cells] h fun r h'=>r = .bool true∧h'=h:=by
 have c1:=t_rEqual x.attrs x.attrs hx hx
 rw [eqB_refl_] at c1
 have c2:=a_qsame x.deps hd
 obtain ⟨a1,a2,a3,a4,⟨k,nn,ss,is,ks⟩,v,tn,fi,ds⟩:=x
 simp only [Sf.Inst.cells,List.cons_append,List.nil_append,V.A,V.cells] at *
 refine pcall ?_ rfl (by simp [A.pure,A.data]) h
 refine acall_of mixedT h_qeqinst (by simp [c_qeqinst]) ?_
 dsimp only [c_qeqinst]
 refine runc0 ti (ai c1 (ai c2 ti)) ?_
 exact ⟨_,le_refl _,rfl⟩
theorem a_qequal (st:Sf.St) (hin:Sf.StIn st) (h:Hp):ACall Tryz.prog GT 85 [st.A,st.A] h fun r h'=>r = .bool true∧h'=h:=by
 refine pcall ?_ rfl (by simp [A.pure,A.data,Sf.St.A]) h
 refine fo ?_
 have hli:=hin.li
 have hlp:=hin.lp
 have hlo:=hin.lo
 have hci:=fun x (hx:x∈st.insts)=>a_qeqinst x (hin.insts x hx).l (hin.insts x hx).n
 have hco:=fun x (hx:x∈st.outs)=>t_rEqual x.value x.value (hin.outs x hx).2 (hin.outs x hx).2
 obtain ⟨lin,ser,ins,ps,os⟩:=st
 simp only [Sf.St.A]
 dsimp only at hli hlp hlo hci hco
 have lm1:(ins.map Sf.Inst.cells).length=ins.length:=List.length_map _
 have lm2:(ps.map Sf.Pend.cells).length=ps.length:=List.length_map _
 have lm3:(os.map Sf.Outp.cells).length=os.length:=List.length_map _
 refine runx0 (ai lm1 (ai lm2 lm3)) ti ?_
 refine awp_loop (fun m ts hh=>hh=⟨[.cells 27 [.str lin,.int .i64 ser,.sl 13 .no (ins.map Sf.Inst.cells),.sl 3 .no (ps.map Sf.Pend.cells),.sl 7 .no (os.map Sf.Outp.cells)],.cells 27 [.str lin,.int .i64 ser,.sl 13 .no (ins.map Sf.Inst.cells),.sl 3 .no (ps.map Sf.Pend.cells),.sl 7 .no (os.map Sf.Outp.cells)]],[]⟩∧∃ (i:Nat),m=ins.length - i∧i≤ins.length∧(ts 2 = .ptr 0 0∧ts 3 = .ptr 1 0∧ts 5 = .int .i64 (i:Nat))) ins.length ?_ ?_
 ·exact ⟨rfl,0,rfl,Nat.zero_le _,by (exact inv0 (ai lm1 (ai lm2 lm3)))⟩
 rintro m ts hh ⟨rfl,i,rfl,hi,ht⟩
 rcases Nat.lt_or_ge i ins.length with hlt | hge
 ·have hf:=rowj_at Sf.Inst.cells ins i hlt (by omega)
  have cx:=hci _ (List.getElem_mem hlt)
  obtain ⟨x,hx⟩:∃ x,ins[i]=x:=⟨_,rfl⟩
  rw [hx] at hf cx
  obtain ⟨a1,a2,a3,a4,⟨k,nn,ss,is,ks⟩,v,tn,fi,ds⟩:=x
  simp only [Sf.Inst.cells,List.cons_append,List.nil_append] at hf cx
  refine runx0 (ai ht hf) (ai cx ti) ?_
  exact ⟨_,by omega,rfl,i+1,rfl,by omega,by (exact inv0 (ai ht hf))⟩
 have hf:=rowj_end Sf.Inst.cells ins i hge
 refine runx0 (ai ht hf) ti ?_
 refine awp_loop (fun m ts hh=>hh=⟨[.cells 27 [.str lin,.int .i64 ser,.sl 13 .no (ins.map Sf.Inst.cells),.sl 3 .no (ps.map Sf.Pend.cells),.sl 7 .no (os.map Sf.Outp.cells)],.cells 27 [.str lin,.int .i64 ser,.sl 13 .no (ins.map Sf.Inst.cells),.sl 3 .no (ps.map Sf.Pend.cells),.sl 7 .no (os.map Sf.Outp.cells)]],[]⟩∧∃ (i:Nat),m=ps.length - i∧i≤ps.length∧(ts 2 = .ptr 0 0∧ts 3 = .ptr 1 0∧ts 6 = .int .i64 (i:Nat))) ps.length ?_ ?_
 ·exact ⟨rfl,0,rfl,Nat.zero_le _,by (exact inv0 ht)⟩
 clear ht hf hi hge ts i
 rintro m ts hh ⟨rfl,i,rfl,hi,ht⟩
 rcases Nat.lt_or_ge i ps.length with hlt | hge
 ·have hf:=rowj_at Sf.Pend.cells ps i hlt (by omega)
  obtain ⟨x,hx⟩:∃ x,ps[i]=x:=⟨_,rfl⟩
  rw [hx] at hf
  obtain ⟨a1,a2,a3⟩:=x
  simp only [Sf.Pend.cells] at hf
  refine runx0 (ai ht hf) ti ?_
  exact ⟨_,by omega,rfl,i+1,rfl,by omega,by (exact inv0 (ai ht hf))⟩
 have hf:=rowj_end Sf.Pend.cells ps i hge
 refine runx0 (ai ht hf) ti ?_
 refine awp_loop (fun m ts hh=>∃ (i:Nat) (l:List Blk),m=os.length - i∧i≤os.length∧hh=⟨.cells 27 [.str lin,.int .i64 ser,.sl 13 .no (ins.map Sf.Inst.cells),.sl 3 .no (ps.map Sf.Pend.cells),.sl 7 .no (os.map Sf.Outp.cells)] :: .cells 27 [.str lin,.int .i64 ser,.sl 13 .no (ins.map Sf.Inst.cells),.sl 3 .no (ps.map Sf.Pend.cells),.sl 7 .no (os.map Sf.Outp.cells)]::l,[]⟩∧(ts 2 = .ptr 0 0∧ts 3 = .ptr 1 0∧ts 7 = .int .i64 (i:Nat))) os.length ?_ ?_
 ·exact ⟨0,[],rfl,Nat.zero_le _,rfl,by (exact inv0 ht)⟩
 clear ht hf hi hge ts i
 rintro m ts hh ⟨i,l,rfl,hi,rfl,ht⟩
 rcases Nat.lt_or_ge i os.length with hlt | hge
 rotate_left
 ·have hf:=rowj_end Sf.Outp.cells os i hge
  refine runx0 (ai ht hf) ti ?_
  exact ⟨_,le_refl _,rfl⟩
 have hf:=rowj_at Sf.Outp.cells os i hlt (by omega)
 have cx:=hco _ (List.getElem_mem hlt)
 rw [eqB_refl_] at cx
 obtain ⟨x,hx⟩:∃ x,os[i]=x:=⟨_,rfl⟩
 rw [hx] at hf cx
 obtain ⟨a1,⟨k,nn,ss,is,ks⟩,b1⟩:=x
 simp only [Sf.Outp.cells,V.A,V.cells,List.cons_append,List.nil_append] at hf cx
 refine runx0 (ai ht hf) (ai cx ti) ?_
 refine awp_two 10 (by decide +kernel) ?_ ?_
 all_goals simp only [edgeA,swapA,swap2,swN,aR,aF,aL,aM,List.map_cons,List.map_nil,reduceIte,Nat.reduceEqDiff,Nat.reduceAdd]
 ·refine runx0 (ai ht hf) (ai cx ti) ?_
  exact ⟨_,by omega,i+1,_,rfl,by omega,rfl,by (exact inv0 (ai ht hf))⟩
 ·refine runx0 (ai ht hf) (ai cx ti) ?_
  exact ⟨_,by omega,i+1,_,rfl,by omega,rfl,by (exact inv0 (ai ht hf))⟩
def c_jfew:AX.AFn:=⟨23,aS [aR 2 (.mv (.c (.bool false)))] (.seq (aS [aR 3 (.mv (aI 0))] (.block 0 (.loop (.seq (aS [aM 4 3,aM 5 0,aR 6 (.len false (.t 5)),aR 7 (.bin .lss (.t 4) (.t 6)),aM 8 7,aG 9 (.mv (.t 3)) 8 true,aG 10 (.bin .leq (.t 9) (aI 40)) 8 true,aR 11 (.pick (.t 8) (.t 10) (.c (.bool false)))] (.cond (.t 11) (.skip) (.exit 0))) (.seq (.block 1 (aS [aM 14 0,aM 15 3,aR 16 (.iaddr 26 (.t 14) (.t 15)),aR 17 (.load true 26 (.t 16)),aR 18 (.call 8 [.t 17]),aR 19 (.un .not (.t 18))] (.cond (.t 19) (aS [aR 2 (.mv (.c (.bool false)))] (.ret)) (.skip)))) (.reg false [aM 12 3,aR 13 (.bin .add (.t 12) (aI 1)),aM 3 13])))))) (aS [aM 20 0,aR 21 (.len false (.t 20)),aR 22 (.bin .leq (.t 21) (aI 40)),aM 2 22] (.ret))),[.t 2]⟩
theorem h_jfew:AX.compFn Tryz.prog 15=some c_jfew:=by kernel_rfl
def fewJ (l:List Jr):Bool:=(l.take 41).all lightB&&decide (l.length≤40)
theorem a_jfew (l:List Jr) (hin:∀ a∈l,JrFit a) (hl:l.length≤1000000000) (h:Hp):ACall Tryz.prog GT 15 [.sl 26 .no (l.map Jr.cells)] h fun r h'=>r = .bool (fewJ l)∧h'=h:=by
 refine pcall ?_ rfl (by simp [A.pure,A.data]) h
 refine acall_of mixedT h_jfew (by simp [c_jfew]) ?_
 dsimp only [c_jfew]
 obtain ⟨q,hq⟩:∃ q,fewJ l=q:=⟨_,rfl⟩
 rw [hq]
 unfold fewJ at hq
 have e40:decide ((l.length:Int)≤40)=decide (l.length≤40):=by rw [decide_eq_decide]; omega
 have lt41:(l.take 41).length=min 41 l.length:=List.length_take
 have li:(l.map Jr.cells).length=l.length:=List.length_map _
 refine run0 ti ?_
 refine awp_loop (fun m ts hh=>hh=⟨[],[]⟩∧∃ i:Nat,m=l.length - i∧i≤l.length∧i≤41∧((l.take 41).drop i).all lightB=(l.take 41).all lightB∧(ts 0 = .sl 26 .no (l.map Jr.cells)∧ts 3 = .int .i64 (i:Nat))) l.length ?_ ?_
 ·exact ⟨rfl,0,rfl,Nat.zero_le _,by omega,rfl,by (exact inv0 ti)⟩
 rintro m ts hh ⟨rfl,i,rfl,hi,h41,heq,ht⟩
 have fin:l.length≤i∨41≤i→(l.take 41).all lightB=true:=fun hc=>by
  rw [←heq,List.drop_of_length_le (by omega)]; rfl
 rcases Nat.lt_or_ge i l.length with hlt | hge
 rotate_left
 ·have hf:=rowj_end Jr.cells l i hge
  rw [fin (.inl hge),Bool.true_and] at hq
  refine runx0 (ai ht hf) ti ?_
  exact ⟨_,le_refl _,by rw [tupA_1,←hq,e40]⟩
 have hf:=rowj_at Jr.cells l i hlt (by omega)
 rcases Nat.lt_or_ge i 41 with h3 | h3
 rotate_left
 ·have g3:¬ (i:Int)≤40:=by omega
  rw [fin (.inr h3),Bool.true_and] at hq
  refine runx0 (ai ht (ai hf g3)) ti ?_
  exact ⟨_,le_refl _,by rw [tupA_1,←hq,e40]⟩
 have g3:(i:Int)≤40:=by omega
 have hlt':i < (l.take 41).length:=by omega
 rw [all_drop _ _ _ hlt',List.getElem_take] at heq
 have hc:=a_jlight l[i] (hin _ (List.getElem_mem hlt))
 obtain ⟨a,ha⟩:∃ a,l[i]=a:=⟨_,rfl⟩
 rw [ha] at hf heq hc
 obtain ⟨b,hb⟩:∃ b,lightB a=b:=⟨_,rfl⟩
 rw [hb] at heq hc
 have no:(l.take 41).all lightB=false→q=false:=fun e=>by rw [←hq,e]; rfl
 clear hb ha
 obtain ⟨kd,⟨lin,ser,ins,ps,os⟩,st,op,ad,dp,ty,tk,er,⟨a1,a2,a3,a4,⟨k,nn,ss,is,ks⟩,v,tn,fi,ds⟩⟩:=a
 simp only [Jr.cells,Sf.Inst.cells,List.cons_append,List.nil_append] at hf hc
 cases b with
 | false =>
  rw [no (by rw [←heq]; rfl)]
  refine runx0 (ai ht (ai hf g3)) (ai hc ti) ?_
  exact ⟨_,le_refl _,rfl⟩
 | true =>
  refine runx0 (ai ht (ai hf g3)) (ai hc ti) ?_
  exact ⟨_,by omega,rfl,i+1,rfl,by omega,by omega,by rw [←heq,Bool.true_and],by (exact inv0 (ai ht hf))⟩
theorem jrs_fit (x:Jrs) (k:((∀ a∈x.l,a.Wf)∧x.l.length≤maxLen)∧x.bulkD≤1048576):(∀ a∈x.l,JrFit a)∧x.l.length≤1000000000:=by
 have hm:=map_bulk Jr.toD x.l
 have h3:D.bulks (x.l.map Jr.toD)≤1048576:=k.2
 exact ⟨fun a ha=>jr_fit (k.1.1 a ha) (Nat.le_trans (hm.2 a ha) h3),by have:=hm.1; omega⟩
def c_lsame:AX.AFn:=⟨73,aS [aR 2 (.box 38 (.t 0)),aR 3 (.box 38 (.t 1)),aR 4 (.mv (.c (.bool false)))] (aS [aF 5 0 2,aL 6 5,aF 7 0 3,aL 8 7,aR 9 (.bin .eql (.t 6) (.t 8)),aM 10 9,aG 11 (.faddr 6 (.t 2)) 10 true,aG 12 (.load false 1 (.t 11)) 10 true,aG 13 (.faddr 6 (.t 3)) 10 true,aG 14 (.load false 1 (.t 13)) 10 true,aG 15 (.bin .eql (.t 12) (.t 14)) 10 true,aR 16 (.pick (.t 10) (.t 15) (.c (.bool false))),aM 17 16,aG 18 (.faddr 7 (.t 2)) 17 true,aG 19 (.load false 1 (.t 18)) 17 true,aG 20 (.faddr 7 (.t 3)) 17 true,aG 21 (.load false 1 (.t 20)) 17 true,aG 22 (.bin .eql (.t 19) (.t 21)) 17 true,aR 23 (.pick (.t 17) (.t 22) (.c (.bool false))),aM 24 23,aG 25 (.faddr 8 (.t 2)) 24 true,aG 26 (.load false 1 (.t 25)) 24 true,aG 27 (.faddr 8 (.t 3)) 24 true,aG 28 (.load false 1 (.t 27)) 24 true,aG 29 (.bin .eql (.t 26) (.t 28)) 24 true,aR 30 (.pick (.t 24) (.t 29) (.c (.bool false))),aM 31 30,aG 32 (.faddr 9 (.t 2)) 31 true,aG 33 (.load false 1 (.t 32)) 31 true,aG 34 (.faddr 9 (.t 3)) 31 true,aG 35 (.load false 1 (.t 34)) 31 true,aG 36 (.bin .eql (.t 33) (.t 35)) 31 true,aR 37 (.pick (.t 31) (.t 36) (.c (.bool false))),aM 38 37,aG 39 (.faddr 10 (.t 2)) 38 true,aG 40 (.load false 1 (.t 39)) 38 true,aG 41 (.faddr 10 (.t 3)) 38 true,aG 42 (.load false 1 (.t 41)) 38 true,aG 43 (.bin .eql (.t 40) (.t 42)) 38 true,aR 44 (.pick (.t 38) (.t 43) (.c (.bool false))),aM 45 44,aG 46 (.faddr 11 (.t 2)) 45 true,aG 47 (.load false 1 (.t 46)) 45 true,aG 48 (.faddr 11 (.t 3)) 45 true,aG 49 (.load false 1 (.t 48)) 45 true,aG 50 (.bin .eql (.t 47) (.t 49)) 45 true,aR 51 (.pick (.t 45) (.t 50) (.c (.bool false))),aM 52 51,aG 53 (.faddr 12 (.t 2)) 52 true,aG 54 (.load false 1 (.t 53)) 52 true,aG 55 (.faddr 12 (.t 3)) 52 true,aG 56 (.load false 1 (.t 55)) 52 true,aG 57 (.bin .eql (.t 54) (.t 56)) 52 true,aR 58 (.pick (.t 52) (.t 57) (.c (.bool false))),aM 59 58,aG 60 (.faddr 1 (.t 2)) 59 true,aG 61 (.load true 5 (.t 60)) 59 true,aG 62 (.faddr 1 (.t 3)) 59 true,aG 63 (.load true 5 (.t 62)) 59 true,aG 64 (.call 85 [.t 61,.t 63]) 59 true,aR 65 (.pick (.t 59) (.t 64) (.c (.bool false))),aM 66 65,aG 67 (.faddr 13 (.t 2)) 66 true,aG 68 (.load true 13 (.t 67)) 66 true,aG 69 (.faddr 13 (.t 3)) 66 true,aG 70 (.load true 13 (.t 69)) 66 true,aG 71 (.call 86 [.t 68,.t 70]) 66 true,aR 72 (.pick (.t 66) (.t 71) (.c (.bool false))),aM 4 72] (.ret)),[.t 4]⟩
theorem h_lsame:AX.compFn Tryz.prog 41=some c_lsame:=by kernel_rfl
def c_lall:AX.AFn:=⟨27,aS [aR 4 (.mv (.c (.bool false)))] (.seq (aS [aM 6 0,aR 7 (.len false (.t 6)),aM 8 1,aR 9 (.len false (.t 8)),aR 10 (.bin .neq (.t 7) (.t 9))] (.cond (.t 10) (aS [aR 4 (.mv (.c (.bool false)))] (.ret)) (.skip))) (.seq (aS [aR 5 (.mv (aI 0))] (.block 0 (.loop (.seq (aS [aM 11 5,aM 12 0,aR 13 (.len false (.t 12)),aR 14 (.bin .lss (.t 11) (.t 13))] (.cond (.t 14) (.skip) (.exit 0))) (.seq (.block 1 (.seq (.reg true [aM 17 0,aM 18 5,⟨some 19,.iaddr 26 (.t 17) (.t 18),none,[0,1]⟩,⟨some 20,.load true 26 (.t 19),none,[2]⟩,aM 21 1,aM 22 5,⟨some 23,.iaddr 26 (.t 21) (.t 22),none,[4,5]⟩,⟨some 24,.load true 26 (.t 23),none,[6]⟩,⟨some 25,.call 41 [.t 20,.t 24],none,[3,7]⟩,⟨some 26,.un .not (.t 25),none,[8]⟩]) (.cond (.t 26) (aS [aR 4 (.mv (.c (.bool false)))] (.ret)) (.skip)))) (.reg false [aM 15 5,aR 16 (.bin .add (.t 15) (aI 1)),aM 5 16])))))) (aS [aR 4 (.mv (.c (.bool true)))] (.ret)))),[.t 4]⟩
theorem h_lall:AX.compFn Tryz.prog 14=some c_lall:=by kernel_rfl
theorem a_lsame (r:Jr) (hf:JrFit r) (h:Hp):ACall Tryz.prog GT 41 [.agg r.cells,.agg r.cells] h fun v h'=>v = .bool true∧h'=h:=by
 have c1:=a_qequal r.base hf.few.inn.base
 have c2:=a_qeqinst r.after hf.few.inn.lens hf.few.inn.deps
 clear hf
 obtain ⟨kd,⟨lin,ser,ins,ps,os⟩,st,op,ad,dp,ty,tk,er,⟨a1,a2,a3,a4,⟨k,nn,ss,is,ks⟩,v,tn,fi,ds⟩⟩:=r
 simp only [Jr.cells,Sf.Inst.cells,List.cons_append,List.nil_append,Sf.St.A] at *
 refine pcall ?_ rfl (by simp [A.pure,A.data]) h
 refine acall_of mixedT h_lsame (by simp [c_lsame]) ?_
 dsimp only [c_lsame]
 refine runc0 ti (ai c1 (ai c2 ti)) ?_
 exact ⟨_,le_refl _,rfl⟩
theorem a_lall (l:List Jr) (hin:∀ r∈l,JrFit r) (hl:l.length≤1000000000) (h:Hp):ACall Tryz.prog GT 14 [.sl 26 .no (l.map Jr.cells),.sl 26 .no (l.map Jr.cells)] h fun v h'=>v = .bool true∧h'=h:=by
 refine pcall ?_ rfl (by simp [A.pure,A.data]) h
 refine acall_of mixedT h_lall (by simp [c_lall]) ?_
 dsimp only [c_lall]
 have li:(l.map Jr.cells).length=l.length:=List.length_map _
 refine run0 li ?_
 refine awp_loop (fun m ts hh=>hh=⟨[],[]⟩∧∃ i:Nat,m=l.length - i∧i≤l.length∧(ts 0 = .sl 26 .no (l.map Jr.cells)∧ts 1 = .sl 26 .no (l.map Jr.cells)∧ts 5 = .int .i64 (i:Nat))) l.length ?_ ?_
 ·exact ⟨rfl,0,rfl,Nat.zero_le _,by (exact inv0 li)⟩
 rintro m ts hh ⟨rfl,i,rfl,hi,ht⟩
 rcases Nat.lt_or_ge i l.length with hlt | hge
 ·have hf:=rowj_at Jr.cells l i hlt (by omega)
  have cx:=a_lsame _ (hin _ (List.getElem_mem hlt))
  obtain ⟨x,hx⟩:∃ x,l[i]=x:=⟨_,rfl⟩
  rw [hx] at hf cx
  obtain ⟨kd,⟨lin,ser,ins,ps,os⟩,st,op,ad,dp,ty,tk,er,⟨a1,a2,a3,a4,⟨k,nn,ss,is,ks⟩,v,tn,fi,ds⟩⟩:=x
  simp only [Jr.cells,Sf.Inst.cells,List.cons_append,List.nil_append] at hf cx
  refine runc0 (ai ht hf) (ai cx ti) ?_
  exact ⟨_,by omega,rfl,i+1,rfl,by omega,by (exact inv0 (ai ht hf))⟩
 ·have hf:=rowj_end Jr.cells l i hge
  refine run0 (ai ht hf) ?_
  exact ⟨_,le_refl _,rfl⟩
end AX
end Go.Proofs.YtahmpiioegemaaaGreatDoor
