/- Part of what the proof needs. -/
import Derived.Test.YtdgcbckcameggaaGreatDoorMFrStatefileReadsE
import Derived.Test.YtdgcbckcameggaaGreatDoorMFrStatefileReadsN
import Derived.Test.YtdgcbckcameggaaGreatDoorMFrStatefileReadsO
import Derived.Test.YtdgcbckcameggaaGreatDoorMFrStatefileReadsQ
import Derived.Test.YtdgcbckcameggaaGreatDoorMFrStatefileReadsT
set_option maxHeartbeats 4000000
set_option linter.unusedSimpArgs false
set_option linter.unusedVariables false
set_option linter.unnecessarySimpa false
namespace Go.Proofs.YtdgcbckcameggaaGreatDoor
open Go.RowKit
namespace AX
inductive T where
 | z
 | n (l:T) (v:A) (r:T)
def T.get:T→Nat→A
 | .z,_ => .tup []
 | .n l v r,i=>bif i.beq 0 then v else bif (i % 2).beq 1 then l.get (i / 2) else r.get (i / 2 - 1)
def T.set:T→Nat→A→Option T
 | .z,_,_=>none
 | .n l v r,i,x=>bif i.beq 0 then some (.n l x r) else bif (i % 2).beq 1 then (match l.set (i / 2) x with | some l'=>some (.n l' v r) | none=>none) else (match r.set (i / 2 - 1) x with | some r'=>some (.n l v r') | none=>none)
def T.full:Nat→T
 | 0 => .z
 | d+1 => .n (T.full d) (.tup []) (T.full d)
theorem T.get_full:∀ (d i:Nat),(T.full d).get i = .tup []
 | 0,i=>rfl
 | d+1,i=>by
  simp only [T.full,T.get,T.get_full d]
  cases i.beq 0 <;> cases (i % 2).beq 1 <;> rfl
theorem beq_iff {i j:Nat}:i.beq j=true↔i=j:=⟨Nat.eq_of_beq_eq_true,fun h=>by subst h; exact Nat.beq_refl i⟩
theorem beq_no {i j:Nat}:i.beq j=false↔i≠j:=by rw [←Bool.not_eq_true,beq_iff]
theorem T.get_set:∀ {t t':T} {i:Nat} {x:A},t.set i x=some t'→∀ j,t'.get j=if j=i then x else t.get j
 | .z,t',i,x,h,j=>by cases h
 | .n l v r,t',i,x,h,j=>by
  unfold T.set at h
  cases h0:i.beq 0 with
  | true =>
   rw [h0] at h; injection h with h; subst h
   have:=beq_iff.1 h0; subst this
   simp only [T.get]
   cases hj:j.beq 0 with
   | true=>rw [if_pos (beq_iff.1 hj)]; rfl
   | false=>rw [if_neg (beq_no.1 hj)]; rfl
  | false =>
   have n0:=beq_no.1 h0
   rw [h0] at h
   cases h1:(i % 2).beq 1 with
   | true =>
    have m1:=beq_iff.1 h1
    rw [h1] at h
    simp only [cond_false,cond_true] at h
    split at h
    ·next l' hl =>
     injection h with h; subst h
     have ih:=T.get_set hl
     simp only [T.get]
     cases hj:j.beq 0 with
     | true=>rw [if_neg (by have:=beq_iff.1 hj; omega)]; rfl
     | false =>
      have nj:=beq_no.1 hj
      cases hm:(j % 2).beq 1 with
      | true =>
       have:=beq_iff.1 hm
       simp only [cond_false,cond_true,ih]
       by_cases e:j=i
       ·subst e; simp
       ·rw [if_neg (by omega),if_neg e]
      | false =>
       have:=beq_no.1 hm
       rw [if_neg (by intro e; subst e; omega)]; rfl
    ·cases h
   | false =>
    have m1:=beq_no.1 h1
    rw [h1] at h
    simp only [cond_false,cond_true] at h
    split at h
    ·next r' hr =>
     injection h with h; subst h
     have ih:=T.get_set hr
     simp only [T.get]
     cases hj:j.beq 0 with
     | true=>rw [if_neg (by have:=beq_iff.1 hj; omega)]; rfl
     | false =>
      have nj:=beq_no.1 hj
      cases hm:(j % 2).beq 1 with
      | true =>
       have:=beq_iff.1 hm
       rw [if_neg (by intro e; subst e; omega)]; rfl
      | false =>
       have:=beq_no.1 hm
       simp only [cond_false,ih]
       by_cases e:j=i
       ·subst e; simp
       ·rw [if_neg (by omega),if_neg e]
    ·cases h
def T.put (t:T) (d:Option Nat) (v:A):Option T:=
 match d with
 | some d=>t.set d v
 | none=>some t
theorem T.put_ok {t t':T} {d:Option Nat} {v:A} (h:t.put d v=some t'):t'.get=AX.put t.get d v:=by
 cases d with
 | none=>injection h with h; subst h; rfl
 | some d=>exact funext fun j=>T.get_set h j
def T.initF:List A→Nat→T→Option T
 | [],_,t=>some t
 | a::l,i,t=>match t.set i a with
  | some t'=>T.initF l (i+1) t'
  | none=>none
theorem T.initF_ok:∀ {l:List A} {i:Nat} {t t':T},T.initF l i t=some t'→∀ j,t'.get j=if j < i then t.get j else if j < i+l.length then l.getD (j - i) (.tup []) else t.get j
 | [],i,t,t',h,j=>by
  injection h with h; subst h
  split
  ·rfl
  ·rw [if_neg (by simpa using by omega)]
 | a::l,i,t,t',h,j=>by
  unfold T.initF at h
  split at h
  ·next t1 h1 =>
   rw [T.initF_ok h j,T.get_set h1]
   by_cases e:j=i
   ·subst e; simp
   ·by_cases e2:j < i
    ·rw [if_pos (by omega),if_neg e,if_pos e2]
    ·rw [if_neg (by omega),if_neg e2,if_neg e]
     have:j - i=(j - (i+1))+1:=by omega
     rw [this,List.getD_cons_succ]
     simp only [List.length_cons]
     by_cases e3:j < i+1+l.length
     ·rw [if_pos e3,if_pos (by omega)]
     ·rw [if_neg e3,if_neg (by omega)]
  ·cases h
def T.init (args:List A):Option T:=T.initF args 0 (T.full 10)
theorem T.init_ok {args:List A} {t:T} (h:T.init args=some t):t.get=initTs args:=by
 funext j
 rw [T.initF_ok h j,if_neg (by omega),T.get_full]
 show _=args.getD j _
 split
 ·simp
 ·rw [List.getD_eq_getElem?_getD,List.getElem?_eq_none (by omega)]; rfl
def fN:Nat→Option Nat
 | 0=>some 0
 | m+1=>some (m+1)
theorem fN_ok {n m:Nat} (h:fN n=some m):m=n:=by cases n <;> (injection h with h; exact h.symm)
def fI:Int→Option Int
 | .ofNat n=>match fN n with | some n=>some (.ofNat n) | none=>none
 | .negSucc n=>match fN n with | some n=>some (.negSucc n) | none=>none
theorem fI_ok {n m:Int} (h:fI n=some m):m=n:=by
 cases n <;> (simp only [fI] at h; split at h) <;> first | (next e=>injection h with h; rw [←h,fN_ok e]) | cases h
def mapO {α β:Type} (f:α→Option β):List α→Option (List β)
 | []=>some []
 | x::l=>match f x with
  | some y=>(match mapO f l with | some m=>some (y::m) | none=>none)
  | none=>none
theorem mapO_ok {α β:Type} {f:α→Option β} {g:α→β} (hf:∀ x y,f x=some y→y=g x):∀ {l:List α} {m:List β},mapO f l=some m→m=l.map g
 | [],m,h=>by injection h with h; exact h.symm
 | x::l,m,h=>by
  unfold mapO at h
  split at h
  ·next y e =>
   split at h
   ·next m' e' =>
    injection h with h
    rw [←h,hf x y e,mapO_ok hf e',List.map_cons]
   ·cases h
  ·cases h
theorem mapO_id {α:Type} {f:α→Option α} (hf:∀ x y,f x=some y→y=x) {l m:List α} (h:mapO f l=some m):m=l:=by rw [mapO_ok (g:=id) hf h,List.map_id]
def fU (u:UInt8):Option UInt8:=match fN u.toNat with | some n=>some (UInt8.ofNat n) | none=>none
theorem fU_ok (u v:UInt8) (h:fU u=some v):v=u:=by
 unfold fU at h
 split at h
 ·next e=>injection h with h; rw [←h,fN_ok e]; simp
 ·cases h
def fH:A→Option A
 | .int k n=>some (.int k n)
 | .str l=>some (.str l)
 | .bool b=>(match b with | true=>some (.bool true) | false=>some (.bool false))
 | .sl W o rows=>some (.sl W o rows)
 | .ptr i off=>some (.ptr i off)
 | .vptr c=>some (.vptr c)
 | .nilp=>some .nilp
 | .nili=>some .nili
 | .nilf=>some .nilf
 | .nilm=>some .nilm
 | .mp i=>some (.mp i)
 | .bs i W n=>some (.bs i W n)
 | .fn f c=>some (.fn f c)
 | .agg l=>some (.agg l)
 | .tup l=>some (.tup l)
theorem fH_ok (x y:A) (h:fH x=some y):y=x:=by
 cases x <;> first | (injection h with h; exact h.symm) | (simp only [fH] at h; split at h <;> (injection h with h; rw [←h]))
def fO:Own→Option Own
 | .no=>some .no
 | .nil=>some .nil
 | .tok t=>match fN t with | some t=>some (.tok t) | none=>none
theorem fO_ok {x y:Own} (h:fO x=some y):y=x:=by
 cases x with
 | tok t=>(simp only [fO] at h; split at h) <;> first | (next e=>injection h with h; rw [←h,fN_ok e]) | cases h
 | _=>injection h with h; exact h.symm
def fA:A→Option A
 | .int k n=>(match fI n with | some n=>some (.int k n) | none=>none)
 | .str l=>(match mapO fU l with | some l=>some (.str l) | none=>none)
 | .bool b=>(match b with | true=>some (.bool true) | false=>some (.bool false))
 | .sl W o rows=>(match fN W,fO o,mapO (mapO fH) rows with | some W,some o,some rows=>some (.sl W o rows) | _,_,_=>none)
 | .ptr i off=>(match fN i,fN off with | some i,some off=>some (.ptr i off) | _,_=>none)
 | .vptr c=>(match mapO fH c with | some c=>some (.vptr c) | none=>none)
 | .mp i=>(match fN i with | some i=>some (.mp i) | none=>none)
 | .bs i W n=>(match fN i,fN W,fN n with | some i,some W,some n=>some (.bs i W n) | _,_,_=>none)
 | .fn f c=>(match mapO fH c with | some c=>some (.fn f c) | none=>none)
 | .agg l=>(match mapO fH l with | some c=>some (.agg c) | none=>none)
 | .tup l=>(match mapO fH l with | some c=>some (.tup c) | none=>none)
 | x=>fH x
theorem fA_ok (x y:A) (h:fA x=some y):y=x:=by
 cases x with
 | int k n=>(simp only [fA] at h; split at h) <;> first | (next e=>injection h with h; rw [←h,fI_ok e]) | cases h
 | str l=>(simp only [fA] at h; split at h) <;> first | (next e=>injection h with h; rw [←h,mapO_id fU_ok e]) | cases h
 | bool b=>simp only [fA] at h; split at h <;> (injection h with h; rw [←h])
 | sl W o rows=>(simp only [fA] at h; split at h) <;> first | (next e1 e2 e3=>injection h with h; rw [←h,fN_ok e1,fO_ok e2,mapO_id (fun _ _ e=>mapO_id fH_ok e) e3]) | cases h
 | ptr i off=>(simp only [fA] at h; split at h) <;> first | (next e1 e2=>injection h with h; rw [←h,fN_ok e1,fN_ok e2]) | cases h
 | vptr c=>(simp only [fA] at h; split at h) <;> first | (next e=>injection h with h; rw [←h,mapO_id fH_ok e]) | cases h
 | mp i=>(simp only [fA] at h; split at h) <;> first | (next e=>injection h with h; rw [←h,fN_ok e]) | cases h
 | bs i W n=>(simp only [fA] at h; split at h) <;> first | (next e1 e2 e3=>injection h with h; rw [←h,fN_ok e1,fN_ok e2,fN_ok e3]) | cases h
 | fn f c=>(simp only [fA] at h; split at h) <;> first | (next e=>injection h with h; rw [←h,mapO_id fH_ok e]) | cases h
 | agg l=>(simp only [fA] at h; split at h) <;> first | (next e=>injection h with h; rw [←h,mapO_id fH_ok e]) | cases h
 | tup l=>(simp only [fA] at h; split at h) <;> first | (next e=>injection h with h; rw [←h,mapO_id fH_ok e]) | cases h
 | _=>exact fH_ok _ _ h
def fR:A→Option A
 | .tup l=>(match mapO fA l with | some c=>some (.tup c) | none=>none)
 | x=>fA x
theorem fR_ok (x y:A) (h:fR x=some y):y=x:=by
 cases x with
 | tup l=>(simp only [fR] at h; split at h) <;> first | (next e=>injection h with h; rw [←h,mapO_id fA_ok e]) | cases h
 | _=>exact fA_ok _ _ h
def snoc {α:Type}:List α→α→Option (List α)
 | [],x=>some [x]
 | y::l,x=>match snoc l x with
  | some m=>some (y::m)
  | none=>none
theorem snoc_ok {α:Type} {x:α}:∀ {l m:List α},snoc l x=some m→m=l++[x]
 | [],m,h=>by injection h with h; exact h.symm
 | y::l,m,h=>by
  unfold snoc at h
  split at h
  ·next e=>injection h with h; rw [←h,snoc_ok e]; rfl
  ·cases h
def setO {α:Type}:List α→Nat→α→Option (List α)
 | [],_,_=>none
 | y::l,0,x=>some (x::l)
 | y::l,i+1,x=>match setO l i x with
  | some m=>some (y::m)
  | none=>none
theorem setO_ok {α:Type} {x:α}:∀ {l m:List α} {i:Nat},setO l i x=some m→m=l.set i x
 | [],m,i,h=>by cases i <;> cases h
 | y::l,m,0,h=>by injection h with h; exact h.symm
 | y::l,m,i+1,h=>by
  unfold setO at h
  split at h
  ·next e=>injection h with h; rw [←h,setO_ok e]; rfl
  ·cases h
def all2 {α:Type} (p:α→α→Bool):List α→List α→Bool
 | [],[]=>true
 | x::l,y::m=>p x y&&all2 p l m
 | _,_=>false
theorem all2_ok {α:Type} {p:α→α→Bool} (hp:∀ x y,p x y=true→x=y):∀ {l m:List α},all2 p l m=true→l=m
 | [],[],_=>rfl
 | x::l,y::m,h=>by
  simp only [all2,Bool.and_eq_true] at h
  rw [hp x y h.1,all2_ok hp h.2]
 | [],y::m,h=>by cases h
 | x::l,[],h=>by cases h
def eqo:Own→Own→Bool
 | .no,.no=>true
 | .nil,.nil=>true
 | .tok a,.tok b=>a.beq b
 | _,_=>false
theorem eqo_ok {a b:Own} (h:eqo a b=true):a=b:=by
 cases a <;> cases b <;> first | rfl | cases h | (simp only [eqo,beq_iff] at h; rw [h])
def eqb:Nat→A→A→Bool
 | 0,_,_=>false
 | d+1,.int k n,.int k' n'=>decide (k=k')&&decide (n=n')
 | d+1,.str a,.str b=>decide (a=b)
 | d+1,.bool a,.bool b=>decide (a=b)
 | d+1,.sl W o r,.sl W' o' r'=>W.beq W'&&eqo o o'&&all2 (all2 (eqb d)) r r'
 | d+1,.ptr i o,.ptr i' o'=>i.beq i'&&o.beq o'
 | d+1,.vptr c,.vptr c'=>all2 (eqb d) c c'
 | d+1,.nilp,.nilp=>true
 | d+1,.nili,.nili=>true
 | d+1,.nilf,.nilf=>true
 | d+1,.nilm,.nilm=>true
 | d+1,.mp i,.mp j=>i.beq j
 | d+1,.bs i W n,.bs i' W' n'=>i.beq i'&&W.beq W'&&n.beq n'
 | d+1,.agg l,.agg m=>all2 (eqb d) l m
 | d+1,.tup l,.tup m=>all2 (eqb d) l m
 | _,_,_=>false
theorem eqb_ok:∀ (d:Nat) (x y:A),eqb d x y=true→x=y
 | 0,x,y,h=>by cases h
 | d+1,x,y,h=>by
  have ih:=eqb_ok d
  cases x <;> cases y <;> simp only [eqb,Bool.false_eq_true,Bool.and_eq_true,decide_eq_true_eq,beq_iff] at h <;> first | (obtain ⟨rfl,rfl⟩:=h; rfl) | (subst h; rfl) | (obtain ⟨⟨rfl,rfl⟩,rfl⟩:=h; rfl) | (rw [all2_ok ih h]) | (obtain ⟨⟨rfl,h1⟩,h2⟩:=h; rw [eqo_ok h1,all2_ok (fun _ _ e=>all2_ok ih e) h2]) | exact rfl
inductive EB where
 | cells (T:TypeId) (l:List A)
 | map (es:List (Int×A)) (clock:Nat)
 | row (T:TypeId) (l:List A)
 | obj (k:Nat) (d:A)
structure EH where
 b:List EB
 t:List (TypeId×Nat×Nat)
abbrev Tab:=Nat→A→Blk
def EB.blk (tab:Tab):EB→Blk
 | .cells T l => .cells T l
 | .map es c => .map es c
 | .row T l => .row T l
 | .obj k d=>tab k d
def EH.abs (tab:Tab) (h:EH):Hp:=⟨h.b.map (EB.blk tab),h.t⟩
theorem abs_get {tab:Tab} {h:EH} {i:Nat} {x:EB} (e:h.b[i]?=some x):(h.abs tab).b[i]?=some (x.blk tab):=by
 simp [EH.abs,e]
theorem abs_len {tab:Tab} (h:EH):(h.abs tab).b.length=h.b.length:=by simp [EH.abs]
theorem abs_set {tab:Tab} {h:EH} {i:Nat} {x:EB} {b':List EB} (e:setO h.b i x=some b'):(EH.abs tab ⟨b',h.t⟩)=⟨(h.abs tab).b.set i (x.blk tab),(h.abs tab).t⟩:=by
 rw [setO_ok e]; simp [EH.abs,List.map_set]
theorem abs_snoc {tab:Tab} {h:EH} {x:EB} {b':List EB} (e:snoc h.b x=some b'):(EH.abs tab ⟨b',h.t⟩)=⟨(h.abs tab).b++[x.blk tab],(h.abs tab).t⟩:=by
 rw [snoc_ok e]; simp [EH.abs]
def nbE (h:EH) (x:EB) (mk:Nat→A):Option (A×Option EH):=
 match fN h.b.length,snoc h.b x with
 | some n,some b=>some (mk n,some ⟨b,h.t⟩)
 | _,_=>none
theorem nbE_ok {tab:Tab} {h:EH} {x:EB} {mk:Nat→A} {v:A} {oh:Option EH} (e:nbE h x mk=some (v,oh)):v=mk (h.abs tab).b.length∧(oh.getD h).abs tab=⟨(h.abs tab).b++[x.blk tab],(h.abs tab).t⟩:=by
 unfold nbE at e
 split at e
 ·next n b e1 e2 =>
  injection e with e; injection e with e3 e4; subst e3; subst e4
  exact ⟨by rw [fN_ok e1,abs_len],abs_snoc e2⟩
 ·cases e
def putE (h:EH) (i:Nat) (x:EB):Option (A×Option EH):=
 match setO h.b i x with
 | some b=>some (.tup [],some ⟨b,h.t⟩)
 | none=>none
theorem putE_ok {tab:Tab} {h:EH} {x:EB} {i:Nat} {v:A} {oh:Option EH} (e:putE h i x=some (v,oh)):v = .tup []∧(oh.getD h).abs tab=⟨(h.abs tab).b.set i (x.blk tab),(h.abs tab).t⟩:=by
 unfold putE at e
 split at e
 ·next b e1 =>
  injection e with e; injection e with e3 e4; subst e3; subst e4
  exact ⟨rfl,abs_set e1⟩
 ·cases e
def storeE (h:EH) (n:Nat) (x:A):A→Option (A×Option EH)
 | .ptr i o=>(match h.b[i]? with
  | some (.cells T l)=>if x.cells.length=n∧o+n≤l.length∧x.cells.all A.one=true then (match mapO fH (setCells l o x.cells) with | some l'=>putE h i (.cells T l') | none=>none) else none
  | some (.row T l)=>if x.cells.length=n∧o+n≤l.length∧x.cells.all A.one=true then (match mapO fH (setCells l o x.cells) with | some l'=>putE h i (.row T l') | none=>none) else none
  | _=>none)
 | _=>none
theorem storeE_ok {tab:Tab} {h:EH} {n:Nat} {x p v:A} {oh:Option EH} (e:storeE h n x p=some (v,oh)):v = .tup []∧storeA (h.abs tab) n x p=some ((oh.getD h).abs tab):=by
 unfold storeE at e
 split at e
 ·next i o =>
  split at e
  ·next T l hb =>
   split at e
   ·next hc =>
    split at e
    ·next l' e1 =>
     obtain ⟨h1,h2⟩:=putE_ok (tab:=tab) e
     refine ⟨h1,?_⟩
     unfold storeA
     simp only [abs_get hb,EB.blk]
     rw [if_pos hc,h2,mapO_id fH_ok e1]; rfl
    ·cases e
   ·cases e
  ·next T l hb =>
   split at e
   ·next hc =>
    split at e
    ·next l' e1 =>
     obtain ⟨h1,h2⟩:=putE_ok (tab:=tab) e
     refine ⟨h1,?_⟩
     unfold storeA
     simp only [abs_get hb,EB.blk]
     rw [if_pos hc,h2,mapO_id fH_ok e1]; rfl
    ·cases e
   ·cases e
  ·cases e
 ·cases e
def fP (e:Int×A):Option (Int×A):=match e with | (n,x)=>some (n,x)
theorem fP_ok (x y:Int×A) (h:fP x=some y):y=x:=by injection h with h; exact h.symm
def mapE (h:EH) (g:List (Int×A)→Nat→List (Int×A)×Nat):A→Option (A×Option EH)
 | .mp i=>(match h.b[i]? with
  | some (.map es c)=>(match mapO fP (g es c).1,fN (g es c).2 with | some es',some c'=>putE h i (.map es' c') | _,_=>none)
  | _=>none)
 | _=>none
theorem mapE_ok {tab:Tab} {h:EH} {g:List (Int×A)→Nat→List (Int×A)×Nat} {m v:A} {oh:Option EH} (e:mapE h g m=some (v,oh)):v = .tup []∧∃ i es c,m = .mp i∧(h.abs tab).b[i]?=some (.map es c)∧(oh.getD h).abs tab=⟨(h.abs tab).b.set i (.map (g es c).1 (g es c).2),(h.abs tab).t⟩:=by
 unfold mapE at e
 split at e
 ·next i =>
  split at e
  ·next es c hb =>
   split at e
   ·next es' c' e1 e2 =>
    obtain ⟨h1,h2⟩:=putE_ok (tab:=tab) e
    refine ⟨h1,i,es,c,rfl,abs_get hb,?_⟩
    rw [h2,mapO_id fP_ok e1,fN_ok e2]; rfl
   ·cases e
  ·cases e
 ·cases e
def fT (x:TypeId×Nat×Nat):Option (TypeId×Nat×Nat):=
 match x with
 | (a,b,c)=>(match fN c with | some c=>some (a,b,c) | none=>none)
theorem fT_ok (x y:TypeId×Nat×Nat) (h:fT x=some y):y=x:=by
 obtain ⟨a,b,c⟩:=x
 unfold fT at h
 simp only at h
 split at h
 ·next e=>injection h with h; rw [←h,fN_ok e]
 ·cases h
def keyE (f:Int→A→Option (A×Option EH)) (m:A):A→Option (A×Option EH)
 | .int .i64 n=>f n m
 | _=>none
def opE (tab:Tab) (ev:Opd→A) (h:EH):AOp→Option (A×Option EH)
 | .mv x=>(match fH (ev x) with | some v=>some (v,none) | none=>none)
 | .alloc T z=>(match mapO fH z with | some z=>nbE h (.cells T z) (.ptr · 0) | none=>none)
 | .box T x=>(match mapO fH (ev x).cells with | some z=>nbE h (.cells T z) (.ptr · 0) | none=>none)
 | .mkr E W ps=>(match rowsR ev W ps with
  | some r=>(match mapO fH r.flatten,fN r.length with | some z,some n=>nbE h (.row E z) (.bs · W n) | _,_=>none)
  | none=>none)
 | .mkl E W ps=>(match rowsA ev W ps with
  | some r=>(match mapO (mapO fH) r,fN h.t.length,fN r.length with
   | some r',some k,some n=>(match snoc h.t (E,W,n) with | some t=>some (.sl W (.tok k) r',some ⟨h.b,t⟩) | none=>none)
   | _,_,_=>none)
  | none=>none)
 | .store n p x=>storeE h n (ev x) (ev p)
 | .app E W by_ x y=>(match appA ⟨[],h.t⟩ E W by_ (ev x) (ev y) with
  | some (v,h')=>(match fA v,mapO fT h'.t with | some v,some t=>some (v,some ⟨h.b,t⟩) | _,_=>none)
  | none=>none)
 | .mkmap=>nbE h (.map [] 0) .mp
 | .mset m k x=>keyE (fun n m=>mapE h (fun es c=>(mput n (ev x) es,mclock n es c)) m) (ev m) (ev k)
 | .mdel m k=>keyE (fun n m=>mapE h (fun es c=>(merase n es,c)) m) (ev m) (ev k)
 | .mclr m=>mapE h (fun es c=>([],c)) (ev m)
 | .load false n p=>(match loadA (h.abs tab) false n (ev p) with | some v=>(match fH v with | some v=>some (v,none) | none=>none) | none=>none)
 | .pick c a b=>(match ev c with | .bool t=>(match fH (bif t then ev a else ev b) with | some v=>some (v,none) | none=>none) | _=>none)
 | .extract x i=>(match ev x with | .tup l=>(match l[i]? with | some v=>(match fH v with | some v=>some (v,none) | none=>none) | none=>none) | _=>none)
 | .call ..=>none
 | .callv ..=>none
 | op=>match astep ev (h.abs tab) op with
  | some (v,_)=>(match fA v with | some v=>some (v,none) | none=>none)
  | none=>none
theorem app_frame {bs:List Blk} {t:List (TypeId×Nat×Nat)} {E:TypeId} {W b:Nat} {x y v:A} {h':Hp} (h:appA ⟨[],t⟩ E W b x y=some (v,h')):appA ⟨bs,t⟩ E W b x y=some (v,⟨bs,h'.t⟩):=by
 unfold appA at h ⊢
 split at h
 ·split at h
  ·next hc=>injection h with h; injection h with h1 h2; subst h1; subst h2; simp only [if_pos hc]
  ·next hc =>
   split at h
   ·next hc2=>injection h with h; injection h with h1 h2; subst h1; subst h2; simp only [if_neg hc,if_pos hc2]
   ·cases h
 ·split at h
  ·next hc=>injection h with h; injection h with h1 h2; subst h1; subst h2; simp only [if_pos hc]
  ·next hc =>
   split at h
   ·next hc2=>injection h with h; injection h with h1 h2; subst h1; subst h2; simp only [if_neg hc,if_pos hc2]
   ·cases h
 ·cases h
theorem opE_ok {tab:Tab} {ev:Opd→A} {h:EH} {op:AOp} {v:A} {oh:Option EH} (e:opE tab ev h op=some (v,oh)):op.isCall=false∧astep ev (h.abs tab) op=some (v,(oh.getD h).abs tab):=by
 have fin:∀ {w:A} {f:A→Option A},(∀ x y,f x=some y→y=x)→(match f w with | some v=>some (v,(none:Option EH)) | none=>none)=some (v,oh)→v=w∧oh=none:=by
  intro w f hf h1
  split at h1
  ·next e1=>injection h1 with h1; injection h1 with h2 h3; exact ⟨h2 ▸ hf _ _ e1,h3.symm⟩
  ·cases h1
 have gen:astep ev (h.abs tab) op≠none→(∀ v' h'',astep ev (h.abs tab) op=some (v',h'')→h''=h.abs tab)→(match astep ev (h.abs tab) op with | some (v,_)=>(match fA v with | some v=>some (v,(none:Option EH)) | none=>none) | none=>none)=some (v,oh)→astep ev (h.abs tab) op=some (v,(oh.getD h).abs tab):=by
  intro _ hq h1
  split at h1
  ·next v' h' e1 =>
   obtain ⟨rfl,rfl⟩:=fin fA_ok h1
   rw [e1,hq _ _ e1]; rfl
  ·cases h1
 have quiet:(match astep ev (h.abs tab) op with | some (v,_)=>(match fA v with | some v=>some (v,(none:Option EH)) | none=>none) | none=>none)=some (v,oh)→(∀ v' h'',astep ev (h.abs tab) op=some (v',h'')→h''=h.abs tab)→astep ev (h.abs tab) op=some (v,(oh.getD h).abs tab):=by
  intro h1 hq
  exact gen (fun hn=>by rw [hn] at h1; cases h1) hq h1
 cases op with
 | call=>cases e
 | callv=>cases e
 | mv x =>
  obtain ⟨rfl,rfl⟩:=fin fH_ok e
  exact ⟨rfl,rfl⟩
 | alloc T z =>
  simp only [opE] at e
  split at e
  ·next z' e1 =>
   obtain ⟨h1,h2⟩:=nbE_ok (tab:=tab) e
   exact ⟨rfl,by rw [h1,h2,mapO_id fH_ok e1]; rfl⟩
  ·cases e
 | box T x =>
  simp only [opE] at e
  split at e
  ·next z' e1 =>
   obtain ⟨h1,h2⟩:=nbE_ok (tab:=tab) e
   exact ⟨rfl,by rw [h1,h2,mapO_id fH_ok e1]; rfl⟩
  ·cases e
 | mkmap =>
  obtain ⟨h1,h2⟩:=nbE_ok (tab:=tab) e
  exact ⟨rfl,by rw [h1,h2]; rfl⟩
 | mkr E W ps =>
  simp only [opE] at e
  split at e
  ·next r hr =>
   split at e
   ·next z n e1 e2 =>
    obtain ⟨h1,h2⟩:=nbE_ok (tab:=tab) e
    exact ⟨rfl,by rw [h1,h2,mapO_id fH_ok e1,fN_ok e2]; simp only [astep,hr]; rfl⟩
   ·cases e
  ·cases e
 | mkl E W ps =>
  simp only [opE] at e
  split at e
  ·next r hr =>
   split at e
   ·next r' k n e1 e2 e3 =>
    split at e
    ·next t e4 =>
     injection e with e; injection e with h1 h2; subst h1; subst h2
     exact ⟨rfl,by
      simp only [astep,hr,Option.map_some,Option.getD_some]
      rw [mapO_id (fun _ _ e=>mapO_id fH_ok e) e1,fN_ok e2]
      congr 2
      simp only [EH.abs,Hp.mk.injEq,true_and]
      rw [snoc_ok e4,fN_ok e3]⟩
    ·cases e
   ·cases e
  ·cases e
 | store n p x =>
  obtain ⟨h1,h2⟩:=storeE_ok (tab:=tab) e
  exact ⟨rfl,by simp only [astep,h2,h1]; rfl⟩
 | app E W b x y =>
  simp only [opE] at e
  split at e
  ·next v' h' e1 =>
   split at e
   ·next v2 t e2 e3 =>
    injection e with e; injection e with h1 h2; subst h1; subst h2
    refine ⟨rfl,?_⟩
    simp only [astep]
    have:=app_frame (bs:=(h.abs tab).b) e1
    rw [show h.abs tab=⟨(h.abs tab).b,h.t⟩ from rfl,this,fA_ok _ _ e2,mapO_id fT_ok e3]
    rfl
   ·cases e
  ·cases e
 | mset m k x =>
  simp only [opE] at e
  unfold keyE at e
  split at e
  ·next n hk =>
   obtain ⟨h1,i,es,c,h2,h3,h4⟩:=mapE_ok (tab:=tab) e
   refine ⟨rfl,?_⟩
   simp only [astep,h2,hk,msetA,h3,h1,h4]
   rfl
  ·cases e
 | mdel m k =>
  simp only [opE] at e
  unfold keyE at e
  split at e
  ·next n hk =>
   obtain ⟨h1,i,es,c,h2,h3,h4⟩:=mapE_ok (tab:=tab) e
   refine ⟨rfl,?_⟩
   simp only [astep,h2,hk,mdelA,h3,h1,h4]
   rfl
  ·cases e
 | mclr m =>
  simp only [opE] at e
  obtain ⟨h1,i,es,c,h2,h3,h4⟩:=mapE_ok (tab:=tab) e
  refine ⟨rfl,?_⟩
  simp only [astep,h2,mclrA,h3,h1,h4]
  rfl
 | load g n p =>
  refine ⟨rfl,?_⟩
  cases g with
  | false =>
   simp only [opE] at e
   split at e
   ·next v' e1 =>
    obtain ⟨rfl,rfl⟩:=fin fH_ok e
    simp only [astep,e1]; rfl
   ·cases e
  | true =>
   refine quiet e fun v' h'' h1=>?_
   simp only [astep,Option.map_eq_some_iff] at h1
   obtain ⟨_,_,h1⟩:=h1
   injection h1 with _ h1; exact h1.symm
 | pick c a b =>
  refine ⟨rfl,?_⟩
  simp only [opE] at e
  split at e
  ·next t ht =>
   obtain ⟨rfl,rfl⟩:=fin fH_ok e
   simp only [astep,ht]
   cases t <;> rfl
  ·cases e
 | extract x i =>
  refine ⟨rfl,?_⟩
  simp only [opE] at e
  split at e
  ·next l hl =>
   split at e
   ·next v' hv =>
    obtain ⟨rfl,rfl⟩:=fin fH_ok e
    simp only [astep,hl,hv]; rfl
   ·cases e
  ·cases e
 | _ =>
  refine ⟨rfl,quiet e fun v' h'' h1=>?_⟩
  revert h1
  simp only [astep]
  repeat' split
  all_goals (intro h1; first | cases h1 | skip)
  all_goals (first | rfl | (simp only [Option.map_eq_some_iff,Prod.mk.injEq] at h1; obtain ⟨_,_,_,h1⟩:=h1; exact h1.symm) | skip)
section
variable (P:Program) (G:World→Prop) (tab:Tab)
structure Ent where
 f:FuncId
 run:List A→EH→Option (A×Option EH)
 ok:∀ avs h v oh,run avs h=some (v,oh)→ACall P G f avs (h.abs tab) fun v' h'=>v'=v∧h'=(oh.getD h).abs tab
end
section
variable {P:Program} {G:World→Prop} {tab:Tab}
def findE (f:FuncId):List (Ent P G tab)→Option (Ent P G tab)
 | []=>none
 | e::l=>bif Nat.beq f e.f then some e else findE f l
theorem findE_ok {f:FuncId}:∀ {l:List (Ent P G tab)} {e:Ent P G tab},findE f l=some e→e.f=f
 | [],e,h=>by cases h
 | x::l,e,h=>by
  unfold findE at h
  cases hb:Nat.beq f x.f with
  | true=>rw [hb] at h; injection h with h; subst h; exact (beq_iff.1 hb).symm
  | false=>rw [hb] at h; exact findE_ok h
def wk1:A→A
 | .sl W (.tok _) rows => .sl W .no rows
 | x=>x
def wk2:A→A
 | .agg l => .agg (l.map wk1)
 | x=>wk1 x
def wk3:A→A
 | .tup l => .tup (l.map wk2)
 | x=>wk2 x
theorem le_wk1 (x:A):le1 x (wk1 x):=by
 unfold wk1
 split
 ·exact ⟨rfl,.inl rfl,.inl rfl⟩
 ·exact le1_refl x
theorem leL_wk:∀ l:List A,leL l (l.map wk1)
 | []=>trivial
 | x::l=>⟨le_wk1 x,leL_wk l⟩
theorem le2_of1 {x y:A} (h:le1 x y) (hx:∀ l,x≠.agg l):le2 x y:=by
 unfold le2
 split
 ·exact absurd rfl (hx _)
 ·exact h
theorem le_wk2 (x:A):le2 x (wk2 x):=by
 unfold wk2
 split
 ·exact leL_wk _
 ·next h=>exact le2_of1 (le_wk1 _) fun l e=>h l e
theorem leL2_wk:∀ l:List A,leL2 l (l.map wk2)
 | []=>trivial
 | x::l=>⟨le_wk2 x,leL2_wk l⟩
theorem le_wk3 (x:A):le x (wk3 x):=by
 unfold wk3
 split
 ·exact leL2_wk _
 ·next h =>
  unfold le
  split
  ·exact absurd rfl (h _)
  ·exact le_wk2 _
abbrev Ih:=ACode→T→EH→Option (AExit×T×EH)
def IhOk (P:Program) (G:World→Prop) (tab:Tab) (ih:Ih):Prop:=∀ c t h e t' h',ih c t h=some (e,t',h')→∀ Q:AExit→Ts→Hp→Prop,Q e t'.get (h'.abs tab)→awp P G c Q t.get (h.abs tab)
def endE:AExit→Bool
 | .exit _=>false
 | _=>true
def finE (tab:Tab) (rs:List ARes) (t:T) (h:EH):Option A:=
 match resA t.get (h.abs tab) rs with
 | some l=>fR (tupA l)
 | none=>none
theorem finE_ok {rs:List ARes} {t:T} {h:EH} {v:A} {e:AExit} (he:endE e=true) (hf:finE tab rs t h=some v) {Q:A→Hp→Prop} {u:A} (hl:le v u) (hq:Q u (h.abs tab)):finQ rs Q e t.get (h.abs tab):=by
 have key:finO (resA t.get (h.abs tab) rs) Q (h.abs tab):=by
  unfold finE at hf
  split at hf
  ·next l hr =>
   rw [hr]
   exact ⟨u,by rw [←fR_ok _ _ hf]; exact hl,hq⟩
  ·cases hf
 cases e with
 | exit=>cases he
 | normal=>exact key
 | ret=>exact key
def callE (lib:List (Ent P G tab)) (inp:List FuncId) (ih:Ih) (f:FuncId) (args:List A) (h:EH):Option (A×Option EH):=
 match findE f lib with
 | some e=>e.run args h
 | none=>match compFn P f with
  | none=>none
  | some fn=>bif args.length.ble fn.n then (match T.init args with
   | none=>none
   | some t=>bif args.all A.pure&&!(inp.any (Nat.beq f)) then (match ih fn.code t ⟨[],[]⟩ with
     | none=>none
     | some (e,t',h')=>bif endE e then (match finE tab fn.res t' h' with
      | none=>none
      | some v=>(match fR (wk3 v) with
       | none=>none
       | some v=>bif v.pure then some (v,none) else none)) else none)
    else (match ih fn.code t h with
     | none=>none
     | some (e,t',h')=>bif endE e then (match finE tab fn.res t' h' with
      | none=>none
      | some v=>some (v,some h')) else none)) else none
theorem callE_ok (hm:P.follows .mixedOrders=true) {lib:List (Ent P G tab)} {inp:List FuncId} {ih:Ih} (hih:IhOk P G tab ih) {f:FuncId} {args:List A} {h:EH} {v:A} {oh:Option EH} (hc:callE lib inp ih f args h=some (v,oh)) :
  ACall P G f args (h.abs tab) fun v' h'=>v'=v∧h'=(oh.getD h).abs tab:=by
 unfold callE at hc
 split at hc
 ·next e he =>
  have:=e.ok args h v oh hc
  rw [findE_ok he] at this
  exact this
 ·split at hc
  ·cases hc
  ·next fn hfn =>
   cases hle:args.length.ble fn.n with
   | false=>rw [hle] at hc; cases hc
   | true =>
    rw [hle] at hc
    simp only [cond_true] at hc
    have hlen:args.length≤fn.n:=Nat.le_of_ble_eq_true hle
    split at hc
    ·cases hc
    ·next t ht =>
     have htg:=T.init_ok ht
     cases hp:(args.all A.pure&&!(inp.any (Nat.beq f))) with
     | true =>
      rw [hp] at hc
      simp only [cond_true] at hc
      rw [Bool.and_eq_true] at hp
      split at hc
      ·cases hc
      ·next e t' h' hr =>
       cases hee:endE e with
       | false=>rw [hee] at hc; cases hc
       | true =>
        rw [hee] at hc
        simp only [cond_true] at hc
        split at hc
        ·cases hc
        ·next u hu =>
         split at hc
         ·cases hc
         ·next u' hu' =>
          cases hpu:u'.pure with
          | false=>rw [hpu] at hc; cases hc
          | true =>
           rw [hpu] at hc
           injection hc with hc; injection hc with h1 h2; subst h1; subst h2
           have hE:ACall P G f args ⟨[],[]⟩ fun v _=>v=u':=by
            refine acall_of hm hfn hlen ?_
            rw [←htg]
            refine hih _ _ _ _ _ _ hr _ (finE_ok hee hu (u:=u') ?_ rfl)
            rw [fR_ok _ _ hu']; exact le_wk3 u
           exact pcall hE hpu hp.1 _
     | false =>
      rw [hp] at hc
      simp only [cond_false] at hc
      split at hc
      ·cases hc
      ·next e t' h' hr =>
       cases hee:endE e with
       | false=>rw [hee] at hc; cases hc
       | true =>
        rw [hee] at hc
        simp only [cond_true] at hc
        split at hc
        ·cases hc
        ·next u hu =>
         injection hc with hc; injection hc with h1 h2; subst h1; subst h2
         refine acall_of hm hfn hlen ?_
         rw [←htg]
         exact hih _ _ _ _ _ _ hr _ (finE_ok hee hu (le_refl _) ⟨rfl,rfl⟩)
def opdE (t:T) (o:Opd):Option A:=fH (evX t.get o)
theorem opdE_ok {t:T} (x:Opd) (y:A) (h:opdE t x=some y):y=evX t.get x:=fH_ok _ _ h
def stepE (lib:List (Ent P G tab)) (inp:List FuncId) (ih:Ih) (t:T) (h:EH):AOp→Option (A×Option EH)
 | .call f avs=>(match mapO (opdE t) avs with
  | some vs=>callE lib inp ih f vs h
  | none=>none)
 | .callv x avs=>(match evX t.get x with
  | .fn f caps=>bif callOk P (vF f) then (match mapO (opdE t) avs with
   | some vs=>(match mapO fH (vA f vs caps) with
    | some vs=>callE lib inp ih (vF f) vs h
    | none=>none)
   | none=>none) else none
  | _=>none)
 | op=>opE tab (evX t.get) h op
theorem stepE_ok (hm:P.follows .mixedOrders=true) {lib:List (Ent P G tab)} {inp:List FuncId} {ih:Ih} (hih:IhOk P G tab ih) {t:T} {h:EH} {op:AOp} {v:A} {oh:Option EH} (hc:stepE lib inp ih t h op=some (v,oh)) :
  aopP P G (evX t.get) (h.abs tab) (fun v' h'=>v'=v∧h'=(oh.getD h).abs tab) op:=by
 have plain:opE tab (evX t.get) h op=some (v,oh)→aopP P G (evX t.get) (h.abs tab) (fun v' h'=>v'=v∧h'=(oh.getD h).abs tab) op:=fun e=>by
  obtain ⟨h1,h2⟩:=opE_ok e
  exact aopP_of h1 h2
 cases op with
 | call f avs =>
  simp only [stepE] at hc
  split at hc
  ·next vs e =>
   have:=mapO_ok opdE_ok e
   subst this
   exact callE_ok hm hih hc
  ·cases hc
 | callv x avs =>
  simp only [stepE] at hc
  split at hc
  ·next f caps hx =>
   cases hok:callOk P (vF f) with
   | false=>rw [hok] at hc; cases hc
   | true =>
    rw [hok] at hc
    simp only [cond_true] at hc
    split at hc
    ·next vs e =>
     have:=mapO_ok opdE_ok e
     subst this
     split at hc
     ·next vs e2 =>
      have:=mapO_id fH_ok e2
      subst this
      exact ⟨f,caps,hx,hok,callE_ok hm hih hc⟩
     ·cases hc
    ·cases hc
  ·cases hc
 | _=>exact plain hc
def gd (t:T):Option (Nat×Bool)→Option Bool
 | none=>some true
 | some (i,b)=>match t.get i with
  | .bool c=>some (bif c then b else !b)
  | .tup []=>some false
  | _=>none
theorem gd_true {t:T} {g:Option (Nat×Bool)} {p q:Prop} (h:gd t g=some true) (hp:p):guardP t.get g p q:=by
 cases g with
 | none=>exact hp
 | some ib =>
  obtain ⟨i,b⟩:=ib
  unfold gd at h
  simp only at h
  simp only [guardP]
  split at h
  ·next c e =>
   rw [e]
   injection h with h
   cases c <;> cases b <;> simp_all
  ·cases h
  ·cases h
theorem gd_false {t:T} {g:Option (Nat×Bool)} {p q:Prop} (h:gd t g=some false) (hq:q):guardP t.get g p q:=by
 cases g with
 | none=>cases h
 | some ib =>
  obtain ⟨i,b⟩:=ib
  unfold gd at h
  simp only at h
  simp only [guardP]
  split at h
  ·next c e =>
   rw [e]
   injection h with h
   cases c <;> cases b <;> simp_all
  ·next e=>rw [e]; exact hq
  ·cases h
def unitB:A→Bool
 | .tup []=>true
 | _=>false
def qchk (tab:Tab) (t:T) (o:AOper) (v:A) (h:EH):Bool:=
 match gd t o.guard with
 | some true=>loadB o.op&&(match astep (evX t.get) (h.abs tab) o.op with | some (v',_)=>eqb 9 v' v | none=>false)
 | some false=>unitB v
 | none=>false
theorem unitB_ok {v:A} (h:unitB v=true):v = .tup []:=by
 unfold unitB at h
 split at h
 ·rfl
 ·cases h
theorem qchk_ok {t:T} {o:AOper} {v:A} {h:EH} (e:qchk tab t o v h=true):quietAt P G t.get o v (h.abs tab):=by
 unfold qchk at e
 unfold quietAt
 split at e
 ·next hg =>
  rw [Bool.and_eq_true] at e
  refine gd_true hg ?_
  obtain ⟨e1,e2⟩:=e
  cases hop:o.op with
  | load g n p =>
   rw [hop] at e2
   refine aopP_of rfl ?_
   simp only [astep] at e2 ⊢
   cases hl:loadA (h.abs tab) g n (evX t.get p) with
   | none=>rw [hl] at e2; cases e2
   | some v'=>rw [hl] at e2; rw [←eqb_ok _ _ _ e2]; rfl
  | _=>rw [hop] at e1; cases e1
 ·next hg=>exact gd_false hg (unitB_ok e)
 ·cases e
abbrev Ob:=Nat×T×AOper×A
def obOk (tab:Tab) (af:List Nat) (h:EH):List Ob→Bool
 | []=>true
 | (j,t,o,v)::l=>(memN j af||qchk tab t o v h)&&obOk tab af h l
def obDrop (af:List Nat):List Ob→List Ob
 | []=>[]
 | (j,t,o,v)::l=>bif memN j af then obDrop af l else (j,t,o,v)::obDrop af l
def obP (P:Program) (G:World→Prop):Ob→Nat×(Hp→Prop):=fun x=>(x.1,quietAt P G x.2.1.get x.2.2.1 x.2.2.2)
theorem obOk_ok {af:List Nat} {h:EH}:∀ {l:List Ob},obOk tab af h l=true→obsP af (l.map (obP P G)) (h.abs tab)
 | [],_=>trivial
 | (j,t,o,v)::l,e=>by
  simp only [obOk,Bool.and_eq_true,Bool.or_eq_true] at e
  exact ⟨e.1.imp id fun e=>qchk_ok e,obOk_ok e.2⟩
theorem obDrop_ok {af:List Nat}:∀ l:List Ob,obsD af (l.map (obP P G))=(obDrop af l).map (obP P G)
 | []=>rfl
 | (j,t,o,v)::l=>by
  simp only [List.map_cons,obDrop]
  rw [show obP P G (j,t,o,v)=(j,quietAt P G t.get o v) from rfl]
  unfold obsD
  have ih:=obDrop_ok (af:=af) l
  cases hm:memN j af with
  | true=>rw [if_pos rfl]; exact ih
  | false =>
   rw [if_neg (by simp)]
   rw [ih]; rfl
def eqB:EB→EB→Bool
 | .cells T l,.cells T' l'=>Nat.beq T T'&&all2 (eqb 20) l l'
 | .map es c,.map es' c'=>all2 (fun x y=>decide (x.1=y.1)&&eqb 20 x.2 y.2) es es'&&c.beq c'
 | .row T l,.row T' l'=>Nat.beq T T'&&all2 (eqb 20) l l'
 | .obj k d,.obj k' d'=>k.beq k'&&eqb 20 d d'
 | _,_=>false
theorem eqB_ok (x y:EB) (h:eqB x y=true):x=y:=by
 have e:=eqb_ok 20
 cases x <;> cases y <;> simp only [eqB,Bool.false_eq_true,Bool.and_eq_true,beq_iff] at h
 ·rw [h.1,all2_ok e h.2]
 ·rw [all2_ok (fun x y hh=>by
   simp only [Bool.and_eq_true,decide_eq_true_eq] at hh
   exact Prod.ext hh.1 (e _ _ hh.2)) h.1,h.2]
 ·rw [h.1,all2_ok e h.2]
 ·rw [h.1,e _ _ h.2]
def eqH (x y:EH):Bool:=all2 eqB x.b y.b&&all2 (fun a b=>decide (a=b)) x.t y.t
theorem eqH_ok {x y:EH} (h:eqH x y=true):x=y:=by
 simp only [eqH,Bool.and_eq_true] at h
 obtain ⟨a,b⟩:=x
 obtain ⟨c,d⟩:=y
 rw [show a=c from all2_ok eqB_ok h.1,show b=d from all2_ok (fun _ _ e=>of_decide_eq_true e) h.2]
def keptB (h:EH):Option EH→Bool
 | none=>true
 | some h'=>eqH h' h
theorem keptB_ok {h:EH} {oh:Option EH} (e:keptB h oh=true):oh.getD h=h:=by
 cases oh with
 | none=>rfl
 | some h'=>exact eqH_ok e
def runD (lib:List (Ent P G tab)) (inp:List FuncId) (ih:Ih) (m:Nat):List AOper→Nat→List Bool→List EH→List Ob→T→EH→Option (T×EH)
 | [],_,_,_,_,t,h=>some (t,h)
 | o::os,i,fl,past,obs,t,h =>
  match gd t o.guard with
  | none=>none
  | some g=>match (bif g then stepE lib inp ih t h o.op else some (.tup [],none)) with
   | none=>none
   | some (v,oh)=>match t.put o.dst v with
    | none=>none
    | some t'=>bif actB m o.op then (match oh with
      | none=>bif obOk tab o.after h obs then runD lib inp ih m os (i+1) fl.tail (h::past) (obDrop o.after obs) t' h else none
      | some h'=>bif obOk tab o.after h' obs then runD lib inp ih m os (i+1) fl.tail (h::past) (obDrop o.after obs) t' h' else none)
     else bif keptB h oh then (bif fl.headD false then (bif qchk tab t o v h&&past.all (qchk tab t o v) then runD lib inp ih m os (i+1) fl.tail past ((i,t,o,v)::obs) t' h else none)
       else runD lib inp ih m os (i+1) fl.tail past obs t' h) else none
theorem runD_ok (hm:P.follows .mixedOrders=true) {lib:List (Ent P G tab)} {inp:List FuncId} {ih:Ih} (hih:IhOk P G tab ih) {m:Nat} {K:Ts→Hp→Prop} {t2:T} {h2:EH} (hK:K t2.get (h2.abs tab)) :
  ∀ (os:List AOper) (i:Nat) (fl:List Bool) (past:List EH) (obs:List Ob) (t:T) (h:EH),runD lib inp ih m os i fl past obs t h=some (t2,h2)→aseq P G m i fl os (past.map (EH.abs tab)) (obs.map (obP P G)) K t.get (h.abs tab)
 | [],i,fl,past,obs,t,h,e=>by
  injection e with e; injection e with e1 e2; subst e1; subst e2
  exact hK
 | o::os,i,fl,past,obs,t,h,e=>by
  have ihr:=runD_ok hm (lib:=lib) (inp:=inp) (m:=m) hih hK os (i+1) fl.tail
  unfold runD at e
  split at e
  ·cases e
  ·next g hg =>
   split at e
   ·cases e
   ·next v oh hs =>
    split at e
    ·cases e
    ·next t' hp =>
     have hput:=T.put_ok hp
     have hgd:guardP t.get o.guard (aopP P G (evX t.get) (h.abs tab) (fun v' h''=>v'=v∧h''=(oh.getD h).abs tab) o.op) (v = .tup []∧(oh.getD h).abs tab=h.abs tab):=by
      cases g with
      | true=>exact gd_true hg (stepE_ok hm hih hs)
      | false =>
       injection hs with hs; injection hs with h1 h2; subst h1; subst h2
       exact gd_false hg ⟨rfl,rfl⟩
     refine ⟨v,(oh.getD h).abs tab,hgd,?_⟩
     cases hact:actB m o.op with
     | true =>
      rw [hact] at e
      simp only [cond_true] at e
      refine ⟨.inl rfl,?_⟩
      rw [if_pos rfl,←hput,obDrop_ok]
      cases oh with
      | none =>
       simp only at e
       cases hob:obOk tab o.after h obs with
       | false=>rw [hob] at e; cases e
       | true =>
        rw [hob] at e
        exact ⟨obOk_ok hob,ihr (h::past) _ t' h e⟩
      | some h' =>
       simp only at e
       cases hob:obOk tab o.after h' obs with
       | false=>rw [hob] at e; cases e
       | true =>
        rw [hob] at e
        exact ⟨obOk_ok hob,ihr (h::past) _ t' h' e⟩
     | false =>
      rw [hact] at e
      simp only [cond_false] at e
      cases hk:keptB h oh with
      | false=>rw [hk] at e; cases e
      | true =>
       rw [hk] at e
       simp only [cond_true] at e
       rw [keptB_ok hk]
       refine ⟨.inr rfl,?_⟩
       rw [if_neg (by simp),←hput]
       cases hfl:fl.headD false with
       | true =>
        rw [hfl] at e
        simp only [cond_true] at e
        rw [if_pos rfl]
        cases hq:(qchk tab t o v h&&past.all (qchk tab t o v)) with
        | false=>rw [hq] at e; cases e
        | true =>
         rw [hq] at e
         rw [Bool.and_eq_true,List.all_eq_true] at hq
         refine ⟨?_,ihr past ((i,t,o,v)::obs) t' h e⟩
         have:∀ l:List EH,(∀ x∈l,qchk tab t o v x=true)→forH (quietAt P G t.get o v) (l.map (EH.abs tab)):=by
          intro l
          induction l with
          | nil=>intro _; trivial
          | cons x l ih=>intro hx; exact ⟨qchk_ok (hx x (by simp)),ih fun y hy=>hx y (by simp [hy])⟩
         exact this past hq.2
       | false =>
        rw [hfl] at e
        rw [if_neg (by simp)]
        exact ihr past obs t' h e
def newB:AOp→Bool
 | .alloc ..=>true
 | _=>false
def findA:Nat→List AOper→Option Nat
 | _,[]=>none
 | i,o::os=>bif newB o.op then some i else findA (i+1) os
def hbs (lib:List (Ent P G tab)) (inp:List FuncId) (ih:Ih) (acts:List Nat) (a:Nat) (va:A):List AOper→Nat→T→EH→Option (List EH)
 | [],_,_,h=>some [h]
 | o::os,i,t,h=>bif i.beq a then (match t.put o.dst va with
   | some t'=>hbs lib inp ih acts a va os (i+1) t' h
   | none=>none)
  else (match gd t o.guard with
   | none=>none
   | some g=>match (bif g then stepE lib inp ih t h o.op else some (.tup [],none)) with
    | none=>none
    | some (v,oh)=>match t.put o.dst v with
     | none=>none
     | some t'=>bif memN i acts then (match hbs lib inp ih acts a va os (i+1) t' (oh.getD h) with
       | some l=>some (h::l)
       | none=>none)
      else hbs lib inp ih acts a va os (i+1) t' h)
def agenE (lib:List (Ent P G tab)) (inp:List FuncId) (ih:Ih) (acts:List Nat) (a:Nat) (hl:List EH):List AOper→Nat→List (List Nat)→T→Option T
 | [],_,_,t=>some t
 | o::os,i,stg,t=>match gd t o.guard with
  | none=>none
  | some g=>match (bif g then (match stepE lib inp ih t (hl.getD ((stg.headD []).headD 0) ⟨[],[]⟩) o.op with | some (v,_)=>some v | none=>none) else some (.tup [])) with
   | none => none
   | some v => bif (stg.headD []).all (fun j => bif g then (match stepE lib inp ih t (hl.getD j ⟨[], []⟩) o.op with
         | some (v', oh) => eqb 20 v' v && eqH (oh.getD (hl.getD j ⟨[], []⟩)) (hl.getD (nxt2 acts a acts.length i j) ⟨[], []⟩)
         | none => false) else !(i.beq a)) then (match t.put o.dst v with
     | some t'=>agenE lib inp ih acts a hl os (i+1) stg.tail t'
     | none=>none) else none
theorem absD {hl:List EH} {j:Nat}:(hl.map (EH.abs tab)).getD j ⟨[],[]⟩=(hl.getD j ⟨[],[]⟩).abs tab:=by
 rw [List.getD_eq_getElem?_getD,List.getD_eq_getElem?_getD,List.getElem?_map]
 cases hl[j]? <;> rfl
theorem forL_intro {p:Nat→Prop}:∀ {l:List Nat},(∀ k∈l,p k)→forL p l
 | [],_=>trivial
 | a::l,h=>⟨h a (by simp),forL_intro fun k hk=>h k (by simp [hk])⟩
theorem agenE_ok (hm:P.follows .mixedOrders=true) {lib:List (Ent P G tab)} {inp:List FuncId} {ih:Ih} (hih:IhOk P G tab ih) {acts:List Nat} {a:Nat} {hl:List EH} {K:Ts→Prop} {t2:T} (hK:K t2.get) :
  ∀ (os:List AOper) (i:Nat) (stg:List (List Nat)) (t:T),agenE lib inp ih acts a hl os i stg t=some t2→agen P G acts a acts.length (hl.map (EH.abs tab)) i os stg K t.get
 | [],i,stg,t,e=>by
  injection e with e; subst e
  exact hK
 | o::os,i,stg,t,e=>by
  have ihr:=agenE_ok hm (lib:=lib) (inp:=inp) hih (acts:=acts) (a:=a) (hl:=hl) hK os (i+1) stg.tail
  unfold agenE at e
  split at e
  ·cases e
  ·next g hg =>
   split at e
   ·cases e
   ·next v hv =>
    cases hall:(stg.headD []).all (fun j=>bif g then (match stepE lib inp ih t (hl.getD j ⟨[],[]⟩) o.op with
      | some (v',oh)=>eqb 20 v' v&&eqH (oh.getD (hl.getD j ⟨[],[]⟩)) (hl.getD (nxt2 acts a acts.length i j) ⟨[],[]⟩)
      | none=>false) else !(i.beq a)) with
    | false=>rw [hall] at e; cases e
    | true =>
     rw [hall] at e
     simp only [cond_true] at e
     split at e
     ·next t' hp =>
      refine ⟨v,forL_intro fun j hj=>?_,by rw [←T.put_ok hp]; exact ihr t' e⟩
      have hj:=List.all_eq_true.1 hall j hj
      rw [absD,absD]
      cases g with
      | true =>
       simp only [cond_true] at hj
       split at hj
       ·next v' oh hs =>
        rw [Bool.and_eq_true] at hj
        refine gd_true hg ?_
        rw [←eqH_ok hj.2,←eqb_ok _ _ _ hj.1]
        exact stepE_ok hm hih hs
       ·cases hj
      | false =>
       simp only [cond_false] at hj hv
       injection hv with hv
       rw [Bool.not_eq_true',beq_no] at hj
       exact gd_false hg ⟨hv.symm,hj⟩
     ·cases e
def cutO (n:Nat) (h:EH):Option EH:=
 match mapO some (h.b.take n) with
 | some b=>some ⟨b,h.t⟩
 | none=>none
def runG (lib:List (Ent P G tab)) (inp:List FuncId) (ih:Ih) (ops:List AOper) (t:T) (h:EH):Option (T×EH):=
 match findA 0 ops with
 | none=>none
 | some a=>bif genB ops ((actsF 1 0 (closeOps ops)).filter fun i=>!(i.beq a)) a (stgs2 (closeOps ops) ((actsF 1 0 (closeOps ops)).filter fun i=>!(i.beq a)) a) then (match ops[a]? with
   | none=>none
   | some o=>match opE tab (evX t.get) h o.op with
    | some (va,some hx)=>(match hbs lib inp ih ((actsF 1 0 (closeOps ops)).filter fun i=>!(i.beq a)) a va ops 0 t hx with
     | none=>none
     | some hb=>match mapO (cutO h.b.length) (hb.drop 1) with
      | none=>none
      | some hn=>match agenE lib inp ih ((actsF 1 0 (closeOps ops)).filter fun i=>!(i.beq a)) a (h::(hn++hb)) ops 0 (stgs2 (closeOps ops) ((actsF 1 0 (closeOps ops)).filter fun i=>!(i.beq a)) a) t with
       | none=>none
       | some t'=>match (h::(hn++hb))[((actsF 1 0 (closeOps ops)).filter fun i=>!(i.beq a)).length+(((actsF 1 0 (closeOps ops)).filter fun i=>!(i.beq a)).length+1)]? with
        | some h'=>some (t',h')
        | none=>none)
    | _=>none) else none
theorem runG_ok (hm:P.follows .mixedOrders=true) {lib:List (Ent P G tab)} {inp:List FuncId} {ih:Ih} (hih:IhOk P G tab ih) {Q:AExit→Ts→Hp→Prop} {ops:List AOper} {t t2:T} {h h2:EH} (hQ:Q .normal t2.get (h2.abs tab)) (e:runG lib inp ih ops t h=some (t2,h2)) :
  awp P G (.reg true ops) Q t.get (h.abs tab):=by
 unfold runG at e
 split at e
 ·cases e
 ·next a ha =>
  obtain ⟨acts,hacts⟩:∃ x,((actsF 1 0 (closeOps ops)).filter fun i=>!(i.beq a))=x:=⟨_,rfl⟩
  rw [hacts] at e
  cases hb:genB ops acts a (stgs2 (closeOps ops) acts a) with
  | false=>rw [hb] at e; cases e
  | true =>
   rw [hb] at e
   simp only [cond_true] at e
   split at e
   ·cases e
   ·split at e
    ·split at e
     ·cases e
     ·next hbl _ =>
      split at e
      ·cases e
      ·next hn _ =>
       split at e
       ·cases e
       ·next t' ht' =>
        split at e
        ·next h' hh =>
         injection e with e; injection e with e1 e2; subst e1; subst e2
         refine go_gen acts a ((h::(hn++hbl)).map (EH.abs tab)) (stgs2 (closeOps ops) acts a) rfl hb (agenE_ok hm hih ?_ ops 0 _ t ht')
         rw [absD,List.getD_eq_getElem?_getD,hh]
         exact hQ
        ·cases e
    ·cases e
def nrm (r:Option (T×EH)):Option (AExit×T×EH):=
 match r with
 | some (t,h)=>some (.normal,t,h)
 | none=>none
def evB (lib:List (Ent P G tab)) (inp:List FuncId) (ih:Ih):Ih:=fun c t h =>
 match c with
 | .skip=>some (.normal,t,h)
 | .reg false ops=>nrm (runD lib inp ih 0 ops 0 [] [] [] t h)
 | .reg true ops=>bif seqB 1 ops then nrm (runD lib inp ih 1 ops 0 (flagsOf 1 ops) [] [] t h) else bif seqB 2 ops then nrm (runD lib inp ih 2 ops 0 (flagsOf 2 ops) [] [] t h) else nrm (runG lib inp ih ops t h)
 | .seq a b=>(match ih a t h with
  | none=>none
  | some (e,t',h')=>(match e with
   | .normal=>ih b t' h'
   | .exit j=>some (.exit j,t',h')
   | .ret=>some (.ret,t',h')))
 | .cond c a b=>(match evX t.get c with
  | .bool x=>bif x then ih a t h else ih b t h
  | _=>none)
 | .block id c=>(match ih c t h with
  | none=>none
  | some (e,t',h')=>(match e with
   | .normal=>some (.normal,t',h')
   | .exit j=>bif Nat.beq j id then some (.normal,t',h') else some (.exit j,t',h')
   | .ret=>some (.ret,t',h')))
 | .loop c=>(match ih c t h with
  | none=>none
  | some (e,t',h')=>(match e with
   | .normal=>ih (.loop c) t' h'
   | .exit j=>some (.exit j,t',h')
   | .ret=>some (.ret,t',h')))
 | .exit id=>some (.exit id,t,h)
 | .ret=>some (.ret,t,h)
 | .prim ..=>none
noncomputable def ev (lib:List (Ent P G tab)) (inp:List FuncId) (n:Nat):Ih:=Nat.rec (motive:=fun _=>Ih) (fun _ _ _=>none) (fun _ ih=>evB lib inp ih) n
theorem nrm_some {r:Option (T×EH)} {e:AExit} {t:T} {h:EH} (hn:nrm r=some (e,t,h)):e = .normal∧r=some (t,h):=by
 cases r with
 | none=>cases hn
 | some x =>
  injection hn with hn; injection hn with h1 h2; injection h2 with h2 h3
  exact ⟨h1.symm,by rw [←h2,←h3]⟩
theorem evB_ok (hm:P.follows .mixedOrders=true) {lib:List (Ent P G tab)} {inp:List FuncId} {ih:Ih} (hih:IhOk P G tab ih):IhOk P G tab (evB lib inp ih):=by
 intro c t h e t' h' hr Q hQ
 cases c with
 | skip=>injection hr with hr; injection hr with h1 h2; injection h2 with h2 h3; subst h1; subst h2; subst h3; exact hQ
 | exit id=>injection hr with hr; injection hr with h1 h2; injection h2 with h2 h3; subst h1; subst h2; subst h3; exact hQ
 | ret=>injection hr with hr; injection hr with h1 h2; injection h2 with h2 h3; subst h1; subst h2; subst h3; exact hQ
 | prim n c=>cases hr
 | reg d ops =>
  cases d with
  | false =>
   obtain ⟨rfl,h1⟩:=nrm_some hr
   exact go_regS (runD_ok hm hih (K:=Q .normal) hQ ops 0 [] [] [] t h h1)
  | true =>
   simp only [evB] at hr
   cases h1:seqB 1 ops with
   | true =>
    rw [h1] at hr
    obtain ⟨rfl,h2⟩:=nrm_some hr
    exact go_draw 1 h1 (runD_ok hm hih (K:=Q .normal) hQ ops 0 _ [] [] t h h2)
   | false =>
    rw [h1] at hr
    simp only [cond_false] at hr
    cases h3:seqB 2 ops with
    | true =>
     rw [h3] at hr
     obtain ⟨rfl,h2⟩:=nrm_some hr
     exact go_draw 2 h3 (runD_ok hm hih (K:=Q .normal) hQ ops 0 _ [] [] t h h2)
    | false =>
     rw [h3] at hr
     obtain ⟨rfl,h2⟩:=nrm_some hr
     exact runG_ok hm hih hQ h2
 | seq a b =>
  simp only [evB] at hr
  split at hr
  ·cases hr
  ·next e1 t1 h1 hx =>
   refine go_seq (hih _ _ _ _ _ _ hx _ ?_)
   cases e1 with
   | normal=>exact hih _ _ _ _ _ _ hr _ hQ
   | exit j=>injection hr with hr; injection hr with h1 h2; injection h2 with h2 h3; subst h1; subst h2; subst h3; exact hQ
   | ret=>injection hr with hr; injection hr with h1 h2; injection h2 with h2 h3; subst h1; subst h2; subst h3; exact hQ
 | cond c a b =>
  simp only [evB] at hr
  split at hr
  ·next x hx =>
   cases x with
   | true=>exact go_ct hx (hih _ _ _ _ _ _ hr _ hQ)
   | false=>exact go_cf hx (hih _ _ _ _ _ _ hr _ hQ)
  ·cases hr
 | block id c =>
  simp only [evB] at hr
  split at hr
  ·cases hr
  ·next e1 t1 h1 hx =>
   refine go_blk (hih _ _ _ _ _ _ hx _ ?_)
   cases e1 with
   | normal=>injection hr with hr; injection hr with h1 h2; injection h2 with h2 h3; subst h1; subst h2; subst h3; exact hQ
   | ret=>injection hr with hr; injection hr with h1 h2; injection h2 with h2 h3; subst h1; subst h2; subst h3; exact hQ
   | exit j =>
    simp only at hr
    cases hj:Nat.beq j id with
    | true =>
     rw [hj] at hr
     injection hr with hr; injection hr with h1 h2; injection h2 with h2 h3; subst h1; subst h2; subst h3
     have:=beq_iff.1 hj; subst this
     exact go_be hQ
    | false =>
     rw [hj] at hr
     injection hr with hr; injection hr with h1 h2; injection h2 with h2 h3; subst h1; subst h2; subst h3
     exact go_bo (by rw [beq_eq_false_iff_ne]; exact beq_no.1 hj) hQ
 | loop c =>
  simp only [evB] at hr
  split at hr
  ·cases hr
  ·next e1 t1 h1 hx =>
   cases e1 with
   | normal =>
    obtain ⟨k,hk⟩:=hih _ _ _ _ _ _ hr Q hQ
    exact ⟨k+1,hih _ _ _ _ _ _ hx _ hk⟩
   | exit j=>injection hr with hr; injection hr with h1 h2; injection h2 with h2 h3; subst h1; subst h2; subst h3; exact ⟨1,hih _ _ _ _ _ _ hx _ hQ⟩
   | ret=>injection hr with hr; injection hr with h1 h2; injection h2 with h2 h3; subst h1; subst h2; subst h3; exact ⟨1,hih _ _ _ _ _ _ hx _ hQ⟩
theorem ev_ok (hm:P.follows .mixedOrders=true) (lib:List (Ent P G tab)) (inp:List FuncId):∀ n,IhOk P G tab (ev lib inp n)
 | 0=>fun c t h e t' h' hr=>by cases hr
 | n+1=>evB_ok hm (ev_ok hm lib inp n)
theorem eval (hm:P.follows .mixedOrders=true) (lib:List (Ent P G tab)) (inp:List FuncId) (n:Nat) {f:FuncId} {args:List A} {h:EH} {v:A} (hc:(callE lib inp (ev lib inp n) f args h).map (·.1)=some v):ACall P G f args (h.abs tab) fun v' _=>v'=v:=by
 rw [Option.map_eq_some_iff] at hc
 obtain ⟨⟨v',oh⟩,h1,rfl⟩:=hc
 exact (callE_ok hm (ev_ok hm lib inp n) h1).mono fun _ _ h=>h.1
end
end AX
end Go.Proofs.YtdgcbckcameggaaGreatDoor

namespace Go.Proofs.YtdgcbckcameggaaGreatDoor
open Go.RowKit
namespace AX
def tabS:Tab:=fun k d =>
 match k,d with
 | 0,.agg [.int _ ver,.str l]=>wtr ver l
 | 1,.str l=>bwt l
 | _,_=>dead
abbrev EntS:=Ent Tryz.prog GT tabS
def gate (b:Bool) (v:A):Option (A×Option EH):=bif b then (match fR v with | some v=>some (v,none) | none=>none) else none
theorem gate_ok {b:Bool} {v v':A} {oh:Option EH} (h:gate b v=some (v',oh)):b=true∧v'=v∧oh=none:=by
 unfold gate at h
 cases b with
 | false=>cases h
 | true =>
  simp only [cond_true] at h
  split at h
  ·next e=>injection h with h; injection h with h1 h2; exact ⟨rfl,by rw [←h1,fR_ok _ _ e],h2.symm⟩
  ·cases h
abbrev Bs:=List UInt8
def eS {tab:Tab} (f:FuncId) (b:Bs→Bool) (r:Bs→A) (ok:∀ s,b s=true→∀ h,ACall Tryz.prog GT f [.str s] h fun v h'=>v=r s∧h'=h):Ent Tryz.prog GT tab where
 f:=f
 run avs h:=match avs with
  | [.str s]=>gate (b s) (r s)
  | _=>none
 ok avs h v oh e:=by
  split at e
  ·obtain ⟨h1,rfl,rfl⟩:=gate_ok e
   exact ok _ h1 _
  ·cases e
def eSI {tab:Tab} (f:FuncId) (b:Bs→Int→Bool) (r:Bs→Int→A) (ok:∀ s n,b s n=true→∀ h,ACall Tryz.prog GT f [.str s,.int .i64 n] h fun v h'=>v=r s n∧h'=h):Ent Tryz.prog GT tab where
 f:=f
 run avs h:=match avs with
  | [.str s,.int .i64 n]=>gate (b s n) (r s n)
  | _=>none
 ok avs h v oh e:=by
  split at e
  ·obtain ⟨h1,rfl,rfl⟩:=gate_ok e
   exact ok _ _ h1 _
  ·cases e
def turnE (h:EH) (i:Nat) (k:Nat) (d:A) (v:A):Option (A×Option EH):=
 match setO h.b i (.obj k d),fR v with
 | some b,some v=>some (v,some ⟨b,h.t⟩)
 | _,_=>none
theorem turnE_ok {h:EH} {i k:Nat} {d v v':A} {oh:Option EH} (e:turnE h i k d v=some (v',oh)):v'=v∧(oh.getD h).abs tabS=⟨(h.abs tabS).b.set i (tabS k d),(h.abs tabS).t⟩:=by
 unfold turnE at e
 split at e
 ·next b v1 e1 e2 =>
  injection e with e; injection e with h1 h2; subst h1; subst h2
  exact ⟨fR_ok _ _ e2,abs_set e1⟩
 ·cases e
def wtrE (h:EH) (i:Nat):Option (Int×Bs):=
 match h.b[i]? with
 | some (.obj k (.agg [.int _ ver,.str l]))=>bif k.beq 0 then some (ver,l) else none
 | some (.cells T [.nilp,.sl 0 .nil [],.int .i64 ver])=>bif Nat.beq T 76 then some (ver,[]) else none
 | _=>none
theorem wtrE_ok {h:EH} {i:Nat} {ver:Int} {l:Bs} (e:wtrE h i=some (ver,l)):Wt (h.abs tabS) i ver l:=by
 unfold wtrE at e
 split at e
 ·next k kk ver' l' hb =>
  cases hk:k.beq 0 with
  | false=>rw [hk] at e; cases e
  | true =>
   rw [hk] at e
   injection e with e; injection e with h1 h2; subst h1; subst h2
   have:=beq_iff.1 hk; subst this
   exact .inl (abs_get hb)
 ·next T ver' hb =>
  cases hk:Nat.beq T 76 with
  | false=>rw [hk] at e; cases e
  | true =>
   rw [hk] at e
   injection e with e; injection e with h1 h2; subst h1; subst h2
   have:=beq_iff.1 hk; subst this
   exact .inr ⟨rfl,abs_get hb⟩
 ·cases e
def bxE (h:EH) (i:Nat):Option Bs:=
 match h.b[i]? with
 | some (.obj k (.str l))=>bif k.beq 1 then some l else none
 | some (.cells T [.nilp,.sl 0 .nil []])=>bif Nat.beq T 74 then some [] else none
 | _=>none
theorem bxE_ok {h:EH} {i:Nat} {l:Bs} (e:bxE h i=some l):Bt (h.abs tabS) i l:=by
 unfold bxE at e
 split at e
 ·next k l' hb =>
  cases hk:k.beq 1 with
  | false=>rw [hk] at e; cases e
  | true =>
   rw [hk] at e
   injection e with e; subst e
   have:=beq_iff.1 hk; subst this
   exact .inl (abs_get hb)
 ·next T hb =>
  cases hk:Nat.beq T 74 with
  | false=>rw [hk] at e; cases e
  | true =>
   rw [hk] at e
   injection e with e; subst e
   have:=beq_iff.1 hk; subst this
   exact .inr ⟨rfl,abs_get hb⟩
 ·cases e
theorem fS_ok {l m:Bs} (e:mapO fU l=some m):m=l:=mapO_id fU_ok e
def eWrite:EntS where
 f:=85
 run avs h:=match avs with
  | [.ptr i 0,.str s]=>(match wtrE h i with
   | some (ver,l)=>bif (l.length+s.length).ble 1000000000 then (match mapO fU (l++s) with | some m=>turnE h i 0 (.agg [.int .i64 ver,.str m]) (.tup [.int .i64 s.length,.nili]) | none=>none) else none
   | none=>(match bxE h i with
    | some l=>bif (l.length+s.length).ble 1000000000 then (match mapO fU (l++s) with | some m=>turnE h i 1 (.str m) (.tup [.int .i64 s.length,.nili]) | none=>none) else none
    | none=>none))
  | _=>none
 ok avs h v oh e:=by
  split at e
  ·next i s =>
   split at e
   ·next ver l hw =>
    cases hb:(l.length+s.length).ble 1000000000 with
    | false=>rw [hb] at e; cases e
    | true =>
     rw [hb] at e
     simp only [cond_true] at e
     split at e
     ·next m hm =>
      obtain ⟨rfl,h2⟩:=turnE_ok e
      rw [h2,fS_ok hm]
      exact a_write (wtrE_ok hw) s (Nat.le_of_ble_eq_true hb)
     ·cases e
   ·split at e
    ·next l hw =>
     cases hb:(l.length+s.length).ble 1000000000 with
     | false=>rw [hb] at e; cases e
     | true =>
      rw [hb] at e
      simp only [cond_true] at e
      split at e
      ·next m hm =>
       obtain ⟨rfl,h2⟩:=turnE_ok e
       rw [h2,fS_ok hm]
       exact a_bwrite (bxE_ok hw) s (Nat.le_of_ble_eq_true hb)
      ·cases e
    ·cases e
  ·cases e
def eWLen:EntS where
 f:=61
 run avs h:=match avs with
  | [.ptr i 0]=>(match wtrE h i with
   | some (_,l)=>gate true (.int .i64 l.length)
   | none=>(match bxE h i with
    | some l=>gate true (.int .i64 l.length)
    | none=>none))
  | _=>none
 ok avs h v oh e:=by
  split at e
  ·split at e
   ·next hw =>
    obtain ⟨_,rfl,rfl⟩:=gate_ok e
    exact a_wlen (wtrE_ok hw)
   ·split at e
    ·next hw =>
     obtain ⟨_,rfl,rfl⟩:=gate_ok e
     exact a_blen (bxE_ok hw)
    ·cases e
  ·cases e
def eWStr:EntS where
 f:=30
 run avs h:=match avs with
  | [.ptr i 0]=>(match wtrE h i with
   | some (_,l)=>bif l.isEmpty then none else turnE h i 2 .nilp (.str l)
   | none=>(match bxE h i with
    | some l=>bif l.isEmpty then none else turnE h i 2 .nilp (.str l)
    | none=>none))
  | _=>none
 ok avs h v oh e:=by
  split at e
  ·split at e
   ·next l hw =>
    cases hl:l.isEmpty with
    | true=>rw [hl] at e; cases e
    | false =>
     rw [hl] at e
     obtain ⟨rfl,h2⟩:=turnE_ok e
     rw [h2]
     exact a_wstring (wtrE_ok hw) (by intro h0; rw [h0] at hl; cases hl)
   ·split at e
    ·next l hw =>
     cases hl:l.isEmpty with
     | true=>rw [hl] at e; cases e
     | false =>
      rw [hl] at e
      obtain ⟨rfl,h2⟩:=turnE_ok e
      rw [h2]
      exact a_bstring (bxE_ok hw) (by intro h0; rw [h0] at hl; cases hl)
    ·cases e
  ·cases e
def libP {tab:Tab}:List (Ent Tryz.prog GT tab):=[
 eS 68 (fun s=>s.length.ble 2000000) (fun s => .bool (Str.valid s)) (fun s e h=>a_valid s (Nat.le_of_ble_eq_true e) h),
 eS 120 (fun _=>true) (fun s => .int .i64 (Val.textZ s)) (fun s _ h=>a_vtext s h),
 eSI 88 (fun s n=>s.length.ble 1000000000&&decide (-9223372036854775808≤n∧n≤9223372036854775807)) (fun s n => .str (s++Wire.num n)) (fun s n e h=>by
  rw [Bool.and_eq_true,decide_eq_true_eq] at e
  exact a_appendNumber s n (Nat.le_of_ble_eq_true e.1) e.2.1 e.2.2 h),
 eS 62 (fun s=>s.length.ble 1000000000) (fun s => .str (Crc.app s)) (fun s e h=>a_csAppend s (Nat.le_of_ble_eq_true e) h),
 eS 14 (fun s=>s.length.ble 1000000000) (fun s => .tup [.str (Crc.ver s).1,.int .i64 (Crc.ver s).2]) (fun s e h=>a_csVerify s (Nat.le_of_ble_eq_true e) h)]
def libW:List EntS:=eWrite::eWLen::eWStr::libP
theorem aw32 (h:Hp):ACall Tryz.prog GT 4 [] h fun r h'=>r = .bool true∧h'=h:=
 pcall (eval (tab:=tabS) mixedT libW [15] 100000 (h:=⟨[],[]⟩) (by kernel_rfl)) rfl rfl h
end AX
theorem Sf.decode_in (s:List UInt8) (hs:s.length≤2000000):AX.Sf.StIn (Sf.decode s).1:=by
 have hz:AX.Sf.StIn Sf.zero:=⟨by simp [Sf.zero],by simp [Sf.zero],by simp [Sf.zero],by simp [Sf.zero],by simp [Sf.zero],by simp [Sf.zero],by simp [Sf.zero]⟩
 unfold Sf.decode
 split
 ·exact hz
 split
 ·exact hz
 split
 ·exact hz
 split
 ·exact hz
 dsimp only
 split
 ·exact hz
 ·refine Sf.state_in _ _ ?_
  have a:=Wire.numR_rest ⟨(Crc.ver s).1.drop 4,0⟩
  have b:=AX.jver_le2 s
  dsimp only at a ⊢
  rw [List.length_drop] at a
  omega
namespace AX
def c_reads32:AX.AFn:=⟨56,aS [aR 2 (.mv (.c (.bool false)))] (.seq (aS [aM 11 0,aR 12 (.len true (.t 11)),aR 13 (.bin .gtr (.t 12) (aI 5000))] (.cond (.t 13) (aS [aR 14 (.call 4 []),aM 2 14] (.ret)) (.skip))) (aS [aM 16 0,aR 17 (.call 5 [.t 16]),aM 15 17,aE 18 15 0,aE 19 15 1,aR 3 (.alloc 27 [.str [],.int .i64 0,.sl 0 .nil [],.sl 0 .nil [],.sl 0 .nil []]),aU (.store 5 (.t 3) (.t 18)),aM 4 19] (aS [aM 21 0,aR 22 (.call 6 [.t 21]),aM 20 22,aE 23 20 0,aE 24 20 1,aR 5 (.alloc 27 [.str [],.int .i64 0,.sl 0 .nil [],.sl 0 .nil [],.sl 0 .nil []]),aU (.store 5 (.t 5) (.t 23)),aM 6 24] (aS [aM 26 0,aR 27 (.call 7 [.t 26]),aM 25 27,aE 28 25 0,aE 29 25 1,aM 7 28,aM 8 29] (aS [aM 31 0,aR 32 (.call 8 [.t 31]),aM 30 32,aE 33 30 0,aE 34 30 1,aM 9 33,aM 10 34] (aS [aM 35 4,aM 36 6,aR 37 (.bin .eql (.t 35) (.t 36)),aM 38 37,aG 39 (.load true 5 (.t 3)) 38 true,aG 40 (.load true 5 (.t 5)) 38 true,aG 41 (.call 9 [.t 39,.t 40]) 38 true,aR 42 (.pick (.t 38) (.t 41) (.c (.bool false))),aM 43 42,aG 44 (.mv (.t 7)) 43 true,aG 45 (.mv (.t 9)) 43 true,aG 46 (.bin .eql (.t 44) (.t 45)) 43 true,aR 47 (.pick (.t 43) (.t 46) (.c (.bool false))),aM 48 47,aG 49 (.mv (.t 8)) 48 true,aG 50 (.mv (.t 10)) 48 true,aG 51 (.bin .eql (.t 49) (.t 50)) 48 true,aR 52 (.pick (.t 48) (.t 51) (.c (.bool false))),aM 53 52,aG 54 (.call 4 []) 53 true,aR 55 (.pick (.t 53) (.t 54) (.c (.bool false))),aM 2 55] (.ret))))))),[.t 2]⟩
theorem h_reads32:AX.compFn Tryz.prog 3=some c_reads32:=by kernel_rfl
theorem w_reads32 (b:List UInt8):ACall Tryz.prog GT 3 [.str b] ⟨[],[]⟩ fun r _=>r = .bool true:=by
 refine acall_of mixedT h_reads32 (by simp [c_reads32]) ?_
 dsimp only [c_reads32]
 have aw:=aw32
 by_cases hl:(b.length:Int) > 5000
 ·refine runc0 hl (ai aw ti) ?_
  exact ⟨_,le_refl _,rfl⟩
 have c1:=fun h=>a_Decode b (by omega) (jver_le2 b) (fun ver r hr=>a_stateCheck _ (Sf.state_in ver ⟨r,false⟩ (by dsimp only; omega))) h
 have c2:=fun h=>a_q32decode b (by omega) h
 have c3:=fun h=>a_version b (by omega) h
 have c4:=fun h=>a_q32version b (by omega) h
 have c5:=fun h=>a_qequal _ (Sf.decode_in b (by omega)) h
 obtain ⟨⟨st,e⟩,hd⟩:∃ q,Sf.decode b=q:=⟨_,rfl⟩
 obtain ⟨⟨n,g⟩,hv⟩:∃ q,versionS b=q:=⟨_,rfl⟩
 rw [hd] at c1 c2 c5
 rw [hv] at c3 c4
 dsimp only at c1 c2 c3 c4 c5
 obtain ⟨lin,ser,ins,ps,os⟩:=st
 simp only [Sf.St.A] at c1 c2 c5
 refine runc0 hl (ai c1 (ai c2 (ai c3 (ai c4 (ai c5 (ai aw ti)))))) ?_
 exact ⟨_,le_refl _,rfl⟩
theorem w_reads32X (b:List UInt8) {n:Nat} (_k:n≤maxLen):ACall Tryz.prog GT 3 [.str b] ⟨[],[]⟩ fun r _=>r = .bool true:=w_reads32 b
end AX
end Go.Proofs.YtdgcbckcameggaaGreatDoor
