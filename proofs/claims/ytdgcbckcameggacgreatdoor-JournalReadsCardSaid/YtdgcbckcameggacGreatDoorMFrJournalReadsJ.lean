/- Part of what the proof needs. -/
import Derived.Test.YtdgcbckcameggacGreatDoorMFrJournalReads0
import Derived.Test.YtdgcbckcameggacGreatDoorMFrJournalReadsB
import Derived.Test.YtdgcbckcameggacGreatDoorMFrJournalReadsG
import Derived.Test.YtdgcbckcameggacGreatDoorMFrJournalReadsH
import Derived.Test.YtdgcbckcameggacGreatDoorMFrJournalReadsI5
set_option maxHeartbeats 4000000
set_option maxRecDepth 100000
set_option linter.all false
namespace Go.Proofs.YtdgcbckcameggacGreatDoor
section
open Go.RowKit
namespace AX
inductive T where
 |z
 |n (l:T) (v:A) (r:T)
def T.get:T→Nat→A
 |.z,_=> .tup []
 |.n l v r,i=>bif i.beq 0 then v else bif (i%2).beq 1 then l.get (i/2)else r.get (i/2-1)
def T.set:T→Nat→A→Option T
 |.z,_,_=>none
 |.n l v r,i,x=>bif i.beq 0 then some (.n l x r)else bif (i%2).beq 1 then(match l.set (i/2) x with|some l'=>some (.n l' v r)|none=>none)else(match r.set (i/2-1) x with|some r'=>some (.n l v r')|none=>none)
def T.full:Nat→T
 |0=> .z
 |d+1=> .n (T.full d) (.tup []) (T.full d)
theorem T.get_full:∀(d i:Nat),(T.full d).get i=.tup []
 |0,i=>rfl
 |d+1,i=>by
  simp only[T.full,T.get,T.get_full d];cases i.beq 0<;>cases(i%2).beq 1<;>rfl
theorem bzl{i j:Nat}:i.beq j=true↔i=j:=⟨Nat.eq_of_beq_eq_true,fun h=>by subst h;exact Nat.beq_refl i⟩
theorem dzi{i j:Nat}:i.beq j=false↔i≠j:=by rw[←Zap,bzl]
theorem T.get_set:∀{t t':T} {i:Nat} {x:A},t.set i x=some t'→∀j,t'.get j=if j=i then x else t.get j
 |.z,t',i,x,h,j=>by cases h
 |.n l v r,t',i,x,h,j=>by
  unfold T.set at h;cases h0:i.beq 0 with
  |true=>
   rw[h0]at h;injection h with h;subst h
   have:=bzl.1 h0;subst this;simp only[T.get];cases hj:j.beq 0 with
   |true=>rw[if_pos (bzl.1 hj)];rfl
   |false=>rw[if_neg (dzi.1 hj)];rfl
  |false=>
   have n0:=dzi.1 h0;rw[h0]at h;cases h1:(i%2).beq 1 with
   |true=>
    have m1:=bzl.1 h1;rw[h1]at h;simp only[cond_false,cond_true]at h;split at h
    ·next l' hl=>
     injection h with h;subst h;have ih:=T.get_set hl;simp only[T.get];cases hj:j.beq 0 with
     |true=>rw[if_neg (by have:=bzl.1 hj;omega)];rfl
     |false=>
      have nj:=dzi.1 hj;cases hm:(j%2).beq 1 with
      |true=>
       have:=bzl.1 hm;simp only[cond_false,cond_true,ih];by_cases e:j=i
       ·subst e;simp
       ·rw[if_neg (by omega),if_neg e]
      |false=>
       have:=dzi.1 hm;rw[if_neg (by intro e;subst e;omega)];rfl
    ·cases h
   |false=>
    have m1:=dzi.1 h1;rw[h1]at h;simp only[cond_false,cond_true]at h;split at h
    ·next r' hr=>
     injection h with h;subst h;have ih:=T.get_set hr;simp only[T.get];cases hj:j.beq 0 with
     |true=>rw[if_neg (by have:=bzl.1 hj;omega)];rfl
     |false=>
      have nj:=dzi.1 hj;cases hm:(j%2).beq 1 with
      |true=>
       have:=bzl.1 hm;rw[if_neg (by intro e;subst e;omega)];rfl
      |false=>
       have:=dzi.1 hm;simp only[cond_false,ih];by_cases e:j=i
       ·subst e;simp
       ·rw[if_neg (by omega),if_neg e]
    ·cases h
def T.put(t:T)(d:Option Nat)(v:A):Option T:=
 match d with
 |some d=>t.set d v
 |none=>some t
theorem T.put_ok{t t':T}{d:Option Nat}{v:A}(h:t.put d v=some t'):t'.get=AX.put t.get d v:=by
 cases d with
 |none=>injection h with h;subst h;rfl
 |some d=>exact funext fun j=>T.get_set h j
def T.initF:List A→Nat→T→Option T
 |[],_,t=>some t
 |a::l,i,t=>match t.set i a with
  |some t'=>T.initF l (i+1) t'
  |none=>none
theorem T.initF_ok:∀{l:List A} {i:Nat} {t t':T},T.initF l i t=some t'→∀j,t'.get j=if j<i then t.get j else if j<i+l.length then l.getD (j-i) (.tup [])else t.get j
 |[],i,t,t',h,j=>by
  injection h with h;subst h;split
  ·rfl
  ·rw[if_neg (by simpa using by omega)]
 |a::l,i,t,t',h,j=>by
  unfold T.initF at h;split at h
  ·next t1 h1=>
   rw[T.initF_ok h j,T.get_set h1];by_cases e:j=i
   ·subst e;simp
   ·by_cases e2:j<i
    ·rw[if_pos (by omega),if_neg e,if_pos e2]
    ·rw[if_neg (by omega),if_neg e2,if_neg e];have:j-i=(j-(i+1))+1:=by omega
     rw[this,ZH];simp only[Zh];by_cases e3:j<i+1+l.length
     ·rw[if_pos e3,if_pos (by omega)]
     ·rw[if_neg e3,if_neg (by omega)]
  ·cases h
def T.init(args:List A):Option T:=T.initF args 0 (T.full 10)
theorem T.init_ok{args:List A}{t:T}(h:T.init args=some t):t.get=initTs args:=by
 funext j
 rw[T.initF_ok h j,if_neg (by omega),T.get_full];show _=args.getD j _
 split
 ·simp
 ·rw[ZX,YJ (by omega)];rfl
def fN:Nat→Option Nat
 |0=>some 0
 |m+1=>some (m+1)
theorem ajf{n m:Nat}(h:fN n=some m):m=n:=by cases n<;>(injection h with h;exact h.symm)
def fI:Int→Option Int
 |.ofNat n=>match fN n with|some n=>some (.ofNat n)|none=>none
 |.negSucc n=>match fN n with|some n=>some (.negSucc n)|none=>none
theorem dqk{n m:Int}(h:fI n=some m):m=n:=by
 cases n<;>(simp only[fI]at h;split at h)<;>first|(next e=>injection h with h;rw[←h,ajf e])|cases h
def mapO{α β:Type}(f:α→Option β):List α→Option (List β)
 |[]=>some []
 |x::l=>match f x with
  |some y=>(match mapO f l with|some m=>some (y::m)|none=>none)
  |none=>none
theorem bzz{α β:Type}{f:α→Option β}{g:α→β}(hf:∀x y,f x=some y→y=g x):∀{l:List α} {m:List β},mapO f l=some m→m=l.map g
 |[],m,h=>by injection h with h;exact h.symm
 |x::l,m,h=>by
  unfold mapO at h;split at h
  ·next y e=>
   split at h
   ·next m' e'=>
    injection h with h;rw[←h,hf x y e,bzz hf e',ZW]
   ·cases h
  ·cases h
theorem az0{α:Type}{f:α→Option α}(hf:∀x y,f x=some y→y=x){l m:List α}(h:mapO f l=some m):m=l:=by rw[bzz (g:=id) hf h,List.map_id]
def fU(u:UInt8):Option UInt8:=match fN u.toNat with|some n=>some (UInt8.ofNat n)|none=>none
theorem cyv(u v:UInt8)(h:fU u=some v):v=u:=by
 unfold fU at h;split at h
 ·next e=>injection h with h;rw[←h,ajf e];simp
 ·cases h
def fH:A→Option A
 |.int k n=>some (.int k n)
 |.str l=>some (.str l)
 |.bool b=>(match b with|true=>some (.bool true)|false=>some (.bool false))
 |.sl W o rows=>some (.sl W o rows)
 |.ptr i off=>some (.ptr i off)
 |.vptr c=>some (.vptr c)
 |.nilp=>some .nilp
 |.nili=>some .nili
 |.nilf=>some .nilf
 |.nilm=>some .nilm
 |.mp i=>some (.mp i)
 |.bs i W n=>some (.bs i W n)
 |.fn f c=>some (.fn f c)
 |.agg l=>some (.agg l)
 |.tup l=>some (.tup l)
theorem axv(x y:A)(h:fH x=some y):y=x:=by
 cases x<;>first|(injection h with h;exact h.symm)|(simp only[fH]at h;split at h<;>(injection h with h;rw[←h]))
def fO:Own→Option Own
 |.no=>some .no
 |.nil=>some .nil
 |.tok t=>match fN t with|some t=>some (.tok t)|none=>none
theorem dqg{x y:Own}(h:fO x=some y):y=x:=by
 cases x with
 |tok t=>(simp only[fO]at h;split at h)<;>first|(next e=>injection h with h;rw[←h,ajf e])|cases h
 |_=>injection h with h;exact h.symm
def fA:A→Option A
 |.int k n=>(match fI n with|some n=>some (.int k n)|none=>none)
 |.str l=>(match mapO fU l with|some l=>some (.str l)|none=>none)
 |.bool b=>(match b with|true=>some (.bool true)|false=>some (.bool false))
 |.sl W o rows=>(match fN W,fO o,mapO (mapO fH) rows with|some W,some o,some rows=>some (.sl W o rows)|_,_,_=>none)
 |.ptr i off=>(match fN i,fN off with|some i,some off=>some (.ptr i off)|_,_=>none)
 |.vptr c=>(match mapO fH c with|some c=>some (.vptr c)|none=>none)
 |.mp i=>(match fN i with|some i=>some (.mp i)|none=>none)
 |.bs i W n=>(match fN i,fN W,fN n with|some i,some W,some n=>some (.bs i W n)|_,_,_=>none)
 |.fn f c=>(match mapO fH c with|some c=>some (.fn f c)|none=>none)
 |.agg l=>(match mapO fH l with|some c=>some (.agg c)|none=>none)
 |.tup l=>(match mapO fH l with|some c=>some (.tup c)|none=>none)
 |x=>fH x
theorem cxm(x y:A)(h:fA x=some y):y=x:=by
 cases x with
 |int k n=>(simp only[fA]at h;split at h)<;>first|(next e=>injection h with h;rw[←h,dqk e])|cases h
 |str l=>(simp only[fA]at h;split at h)<;>first|(next e=>injection h with h;rw[←h,az0 cyv e])|cases h
 |bool b=>simp only[fA]at h;split at h<;>(injection h with h;rw[←h])
 |sl W o rows=>(simp only[fA]at h;split at h)<;>first|(next e1 e2 e3=>injection h with h;rw[←h,ajf e1,dqg e2,az0 (fun _ _ e=>az0 axv e) e3])|cases h
 |ptr i off=>(simp only[fA]at h;split at h)<;>first|(next e1 e2=>injection h with h;rw[←h,ajf e1,ajf e2])|cases h
 |vptr c=>(simp only[fA]at h;split at h)<;>first|(next e=>injection h with h;rw[←h,az0 axv e])|cases h
 |mp i=>(simp only[fA]at h;split at h)<;>first|(next e=>injection h with h;rw[←h,ajf e])|cases h
 |bs i W n=>(simp only[fA]at h;split at h)<;>first|(next e1 e2 e3=>injection h with h;rw[←h,ajf e1,ajf e2,ajf e3])|cases h
 |fn f c=>(simp only[fA]at h;split at h)<;>first|(next e=>injection h with h;rw[←h,az0 axv e])|cases h
 |agg l=>(simp only[fA]at h;split at h)<;>first|(next e=>injection h with h;rw[←h,az0 axv e])|cases h
 |tup l=>(simp only[fA]at h;split at h)<;>first|(next e=>injection h with h;rw[←h,az0 axv e])|cases h
 |_=>exact axv _ _ h
def fR:A→Option A
 |.tup l=>(match mapO fA l with|some c=>some (.tup c)|none=>none)
 |x=>fA x
theorem cxj(x y:A)(h:fR x=some y):y=x:=by
 cases x with
 |tup l=>(simp only[fR]at h;split at h)<;>first|(next e=>injection h with h;rw[←h,az0 cxm e])|cases h
 |_=>exact cxm _ _ h
def snoc{α:Type}:List α→α→Option (List α)
 |[],x=>some [x]
 |y::l,x=>match snoc l x with
  |some m=>some (y::m)
  |none=>none
theorem bjv{α:Type}{x:α}:∀{l m:List α},snoc l x=some m→m=l++[x]
 |[],m,h=>by injection h with h;exact h.symm
 |y::l,m,h=>by
  unfold snoc at h;split at h
  ·next e=>injection h with h;rw[←h,bjv e];rfl
  ·cases h
def setO{α:Type}:List α→Nat→α→Option (List α)
 |[],_,_=>none
 |y::l,0,x=>some (x::l)
 |y::l,i+1,x=>match setO l i x with
  |some m=>some (y::m)
  |none=>none
theorem cqg{α:Type}{x:α}:∀{l m:List α} {i:Nat},setO l i x=some m→m=l.set i x
 |[],m,i,h=>by cases i<;>cases h
 |y::l,m,0,h=>by injection h with h;exact h.symm
 |y::l,m,i+1,h=>by
  unfold setO at h;split at h
  ·next e=>injection h with h;rw[←h,cqg e];rfl
  ·cases h
def bk1{α:Type}(p:α→α→Bool):List α→List α→Bool
 |[],[]=>true
 |x::l,y::m=>p x y&&bk1 p l m
 |_,_=>false
theorem axk{α:Type}{p:α→α→Bool}(hp:∀x y,p x y=true→x=y):∀{l m:List α},bk1 p l m=true→l=m
 |[],[],_=>rfl
 |x::l,y::m,h=>by
  simp only[bk1,Zc]at h;rw[hp x y h.1,axk hp h.2]
 |[],y::m,h=>by cases h
 |x::l,[],h=>by cases h
def eqo:Own→Own→Bool
 |.no,.no=>true
 |.nil,.nil=>true
 |.tok a,.tok b=>a.beq b
 |_,_=>false
theorem dzp{a b:Own}(h:eqo a b=true):a=b:=by
 cases a<;>cases b<;>first|rfl|cases h|(simp only[eqo,bzl]at h;rw[h])
def eqb:Nat→A→A→Bool
 |0,_,_=>false
 |d+1,.int k n,.int k' n'=>decide (k=k')&&decide (n=n')
 |d+1,.str a,.str b=>decide (a=b)
 |d+1,.bool a,.bool b=>decide (a=b)
 |d+1,.sl W o r,.sl W' o' r'=>W.beq W'&&eqo o o'&&bk1 (bk1 (eqb d)) r r'
 |d+1,.ptr i o,.ptr i' o'=>i.beq i'&&o.beq o'
 |d+1,.vptr c,.vptr c'=>bk1 (eqb d) c c'
 |d+1,.nilp,.nilp=>true
 |d+1,.nili,.nili=>true
 |d+1,.nilf,.nilf=>true
 |d+1,.nilm,.nilm=>true
 |d+1,.mp i,.mp j=>i.beq j
 |d+1,.bs i W n,.bs i' W' n'=>i.beq i'&&W.beq W'&&n.beq n'
 |d+1,.agg l,.agg m=>bk1 (eqb d) l m
 |d+1,.tup l,.tup m=>bk1 (eqb d) l m
 |_,_,_=>false
theorem bv9:∀(d:Nat) (x y:A),eqb d x y=true→x=y
 |0,x,y,h=>by cases h
 |d+1,x,y,h=>by
  have ih:=bv9 d;cases x<;>cases y<;>simp only[eqb,Zi,Zc,Zm,bzl]at h<;>first|(obtain⟨rfl,rfl⟩:=h;rfl)|(subst h;rfl)|(obtain⟨⟨rfl,rfl⟩,rfl⟩:=h;rfl)|(rw[axk ih h])|(obtain⟨⟨rfl,h1⟩,h2⟩:=h;rw[dzp h1,axk (fun _ _ e=>axk ih e) h2])|exact rfl
inductive EB where
 |cells (T:TypeId) (l:List A)
 |map (es:List (Int×A)) (clock:Nat)
 |row (T:TypeId) (l:List A)
 |obj (k:Nat) (d:A)
structure EH where
 b:List EB
 t:List (TypeId×Nat×Nat)
abbrev Tab:=Nat→A→Blk
def EB.blk(tab:Tab):EB→Blk
 |.cells T l=> .cells T l
 |.map es c=> .map es c
 |.row T l=> .row T l
 |.obj k d=>tab k d
def EH.abs(tab:Tab)(h:EH):Hp:=⟨h.b.map (EB.blk tab),h.t⟩
theorem awl{tab:Tab}{h:EH}{i:Nat}{x:EB}(e:h.b[i]?=some x):(h.abs tab).b[i]?=some (x.blk tab):=by
 simp[EH.abs,e]
theorem cwt{tab:Tab}(h:EH):(h.abs tab).b.length=h.b.length:=by simp[EH.abs]
theorem cqq{tab:Tab}{h:EH}{i:Nat}{x:EB}{b':List EB}(e:setO h.b i x=some b'):(EH.abs tab ⟨b',h.t⟩)=⟨(h.abs tab).b.set i (x.blk tab),(h.abs tab).t⟩:=by
 rw[cqg e];simp[EH.abs,List.map_set]
theorem cjj{tab:Tab}{h:EH}{x:EB}{b':List EB}(e:snoc h.b x=some b'):(EH.abs tab ⟨b',h.t⟩)=⟨(h.abs tab).b++[x.blk tab],(h.abs tab).t⟩:=by
 rw[bjv e];simp[EH.abs]
def nbE(h:EH)(x:EB)(mk:Nat→A):Option (A×Option EH):=
 match fN h.b.length,snoc h.b x with
 |some n,some b=>some (mk n,some ⟨b,h.t⟩)
 |_,_=>none
theorem bvu{tab:Tab}{h:EH}{x:EB}{mk:Nat→A}{v:A}{oh:Option EH}(e:nbE h x mk=some (v,oh)):v=mk (h.abs tab).b.length∧(oh.getD h).abs tab=⟨(h.abs tab).b++[x.blk tab],(h.abs tab).t⟩:=by
 unfold nbE at e;split at e
 ·next n b e1 e2=>
  injection e with e;injection e with e3 e4;subst e3;subst e4;exact⟨by rw[ajf e1,cwt],cjj e2⟩
 ·cases e
def putE(h:EH)(i:Nat)(x:EB):Option (A×Option EH):=
 match setO h.b i x with
 |some b=>some (.tup [],some ⟨b,h.t⟩)
 |none=>none
theorem bvg{tab:Tab}{h:EH}{x:EB}{i:Nat}{v:A}{oh:Option EH}(e:putE h i x=some (v,oh)):v=.tup []∧(oh.getD h).abs tab=⟨(h.abs tab).b.set i (x.blk tab),(h.abs tab).t⟩:=by
 unfold putE at e;split at e
 ·next b e1=>
  injection e with e;injection e with e3 e4;subst e3;subst e4;exact⟨rfl,cqq e1⟩
 ·cases e
def storeE(h:EH)(n:Nat)(x:A):A→Option (A×Option EH)
 | .ptr i o=>(match h.b[i]? with
  | some (.cells T l)=>if x.cells.length=n∧o+n≤l.length∧x.cells.all A.one=true then (match mapO fH (setCells l o x.cells) with | some l'=>putE h i (.cells T l') | none=>none) else none
  | some (.row T l)=>if x.cells.length=n∧o+n≤l.length∧x.cells.all A.one=true then (match mapO fH (setCells l o x.cells) with | some l'=>putE h i (.row T l') | none=>none) else none
  | _=>none)
 |_=>none
theorem byp{tab:Tab}{h:EH}{n:Nat}{x p v:A}{oh:Option EH}(e:storeE h n x p=some (v,oh)):v=.tup []∧storeA (h.abs tab) n x p=some ((oh.getD h).abs tab):=by
 unfold storeE at e;split at e
 ·next i o=>
  split at e
  ·next T l hb=>
   split at e
   ·next hc=>
    split at e
    ·next l' e1=>
     obtain⟨h1,h2⟩:=bvg (tab:=tab) e;refine⟨h1,?_⟩;unfold storeA;simp only[awl hb,EB.blk];rw[if_pos hc,h2,az0 axv e1];rfl
    ·cases e
   ·cases e
  ·next T l hb=>
   split at e
   ·next hc=>
    split at e
    ·next l' e1=>
     obtain⟨h1,h2⟩:=bvg (tab:=tab) e;refine⟨h1,?_⟩;unfold storeA;simp only[awl hb,EB.blk];rw[if_pos hc,h2,az0 axv e1];rfl
    ·cases e
   ·cases e
  ·cases e
 ·cases e
def fP(e:Int×A):Option (Int×A):=match e with|(n,x)=>some (n,x)
theorem dz5(x y:Int×A)(h:fP x=some y):y=x:=by injection h with h;exact h.symm
def mapE(h:EH)(g:List (Int×A)→Nat→List (Int×A)×Nat):A→Option (A×Option EH)
 | .mp i=>(match h.b[i]? with
  | some (.map es c)=>(match mapO fP (g es c).1,fN (g es c).2 with | some es',some c'=>putE h i (.map es' c') | _,_=>none)
  | _=>none)
 |_=>none
theorem bjq{tab:Tab}{h:EH}{g:List (Int×A)→Nat→List (Int×A)×Nat}{m v:A}{oh:Option EH}(e:mapE h g m=some (v,oh)):v=.tup []∧∃i es c,m=.mp i∧(h.abs tab).b[i]?=some (.map es c)∧(oh.getD h).abs tab=⟨(h.abs tab).b.set i (.map (g es c).1 (g es c).2),(h.abs tab).t⟩:=by
 unfold mapE at e;split at e
 ·next i=>
  split at e
  ·next es c hb=>
   split at e
   ·next es' c' e1 e2=>
    obtain⟨h1,h2⟩:=bvg (tab:=tab) e;refine⟨h1,i,es,c,rfl,awl hb,?_⟩;rw[h2,az0 dz5 e1,ajf e2];rfl
   ·cases e
  ·cases e
 ·cases e
def fT(x:TypeId×Nat×Nat):Option (TypeId×Nat×Nat):=
 match x with
 |(a,b,c)=>(match fN c with|some c=>some (a,b,c)|none=>none)
theorem dz4(x y:TypeId×Nat×Nat)(h:fT x=some y):y=x:=by
 obtain⟨a,b,c⟩:=x;unfold fT at h;simp only at h;split at h
 ·next e=>injection h with h;rw[←h,ajf e]
 ·cases h
def keyE(f:Int→A→Option (A×Option EH))(m:A):A→Option (A×Option EH)
 |.int .i64 n=>f n m
 |_=>none
def opE(tab:Tab)(ev:Opd→A)(h:EH):AOp→Option (A×Option EH)
 |.mv x=>(match fH (ev x)with|some v=>some (v,none)|none=>none)
 |.alloc T z=>(match mapO fH z with|some z=>nbE h (.cells T z) (.ptr · 0)|none=>none)
 |.box T x=>(match mapO fH (ev x).cells with|some z=>nbE h (.cells T z) (.ptr · 0)|none=>none)
 | .mkr E W ps=>(match rowsR ev W ps with
  | some r=>(match mapO fH r.flatten,fN r.length with | some z,some n=>nbE h (.row E z) (.bs · W n) | _,_=>none)
  | none=>none)
 | .mkl E W ps=>(match rowsA ev W ps with
  | some r=>(match mapO (mapO fH) r,fN h.t.length,fN r.length with
   | some r',some k,some n=>(match snoc h.t (E,W,n) with | some t=>some (.sl W (.tok k) r',some ⟨h.b,t⟩) | none=>none)
   | _,_,_=>none)
  | none=>none)
 |.store n p x=>storeE h n (ev x) (ev p)
 | .app E W by_ x y=>(match appA ⟨[],h.t⟩ E W by_ (ev x) (ev y) with
  | some (v,h')=>(match fA v,mapO fT h'.t with | some v,some t=>some (v,some ⟨h.b,t⟩) | _,_=>none)
  | none=>none)
 |.mkmap=>nbE h (.map [] 0) .mp
 |.mset m k x=>keyE (fun n m=>mapE h (fun es c=>(mput n (ev x) es,mclock n es c)) m) (ev m) (ev k)
 |.mdel m k=>keyE (fun n m=>mapE h (fun es c=>(merase n es,c)) m) (ev m) (ev k)
 |.mclr m=>mapE h (fun es c=>([],c)) (ev m)
 |.load false n p=>(match loadA (h.abs tab) false n (ev p)with|some v=>(match fH v with|some v=>some (v,none)|none=>none)|none=>none)
 |.pick c a b=>(match ev c with|.bool t=>(match fH (bif t then ev a else ev b)with|some v=>some (v,none)|none=>none)|_=>none)
 |.extract x i=>(match ev x with|.tup l=>(match l[i]? with|some v=>(match fH v with|some v=>some (v,none)|none=>none)|none=>none)|_=>none)
 |.call ..=>none
 |.callv ..=>none
 |op=>match astep ev (h.abs tab) op with
  |some (v,_)=>(match fA v with|some v=>some (v,none)|none=>none)
  |none=>none
theorem czq{bs:List Blk}{t:List (TypeId×Nat×Nat)}{E:TypeId}{W b:Nat}{x y v:A}{h':Hp}(h:appA ⟨[],t⟩ E W b x y=some (v,h')):appA ⟨bs,t⟩ E W b x y=some (v,⟨bs,h'.t⟩):=by
 unfold appA at h⊢;split at h
 ·split at h
  ·next hc=>injection h with h;injection h with h1 h2;subst h1;subst h2;simp only[if_pos hc]
  ·next hc=>
   split at h
   ·next hc2=>injection h with h;injection h with h1 h2;subst h1;subst h2;simp only[if_neg hc,if_pos hc2]
   ·cases h
 ·split at h
  ·next hc=>injection h with h;injection h with h1 h2;subst h1;subst h2;simp only[if_pos hc]
  ·next hc=>
   split at h
   ·next hc2=>injection h with h;injection h with h1 h2;subst h1;subst h2;simp only[if_neg hc,if_pos hc2]
   ·cases h
 ·cases h
theorem dzf{tab:Tab}{ev:Opd→A}{h:EH}{op:AOp}{v:A}{oh:Option EH}(e:opE tab ev h op=some (v,oh)):op.isCall=false∧astep ev (h.abs tab) op=some (v,(oh.getD h).abs tab):=by
 have fin:∀{w:A} {f:A→Option A},(∀x y,f x=some y→y=x)→(match f w with|some v=>some (v,(none:Option EH))|none=>none)=some (v,oh)→v=w∧oh=none:=by
  intro w f hf h1;split at h1
  ·next e1=>injection h1 with h1;injection h1 with h2 h3;exact⟨h2▸hf _ _ e1,h3.symm⟩
  ·cases h1
 have gen:astep ev (h.abs tab) op≠none→(∀v' h'',astep ev (h.abs tab) op=some (v',h'')→h''=h.abs tab)→(match astep ev (h.abs tab) op with|some (v,_)=>(match fA v with|some v=>some (v,(none:Option EH))|none=>none)|none=>none)=some (v,oh)→astep ev (h.abs tab) op=some (v,(oh.getD h).abs tab):=by
  intro _ hq h1;split at h1
  ·next v' h' e1=>
   obtain⟨rfl,rfl⟩:=fin cxm h1;rw[e1,hq _ _ e1];rfl
  ·cases h1
 have quiet:(match astep ev (h.abs tab) op with|some (v,_)=>(match fA v with|some v=>some (v,(none:Option EH))|none=>none)|none=>none)=some (v,oh)→(∀v' h'',astep ev (h.abs tab) op=some (v',h'')→h''=h.abs tab)→astep ev (h.abs tab) op=some (v,(oh.getD h).abs tab):=by
  intro h1 hq;exact gen (fun hn=>by rw[hn]at h1;cases h1) hq h1
 cases op with
 |call=>cases e
 |callv=>cases e
 |mv x=>
  obtain⟨rfl,rfl⟩:=fin axv e;exact⟨rfl,rfl⟩
 |alloc T z=>
  simp only[opE]at e;split at e
  ·next z' e1=>
   obtain⟨h1,h2⟩:=bvu (tab:=tab) e;exact⟨rfl,by rw[h1,h2,az0 axv e1];rfl⟩
  ·cases e
 |box T x=>
  simp only[opE]at e;split at e
  ·next z' e1=>
   obtain⟨h1,h2⟩:=bvu (tab:=tab) e;exact⟨rfl,by rw[h1,h2,az0 axv e1];rfl⟩
  ·cases e
 |mkmap=>
  obtain⟨h1,h2⟩:=bvu (tab:=tab) e;exact⟨rfl,by rw[h1,h2];rfl⟩
 |mkr E W ps=>
  simp only[opE]at e;split at e
  ·next r hr=>
   split at e
   ·next z n e1 e2=>
    obtain⟨h1,h2⟩:=bvu (tab:=tab) e;exact⟨rfl,by rw[h1,h2,az0 axv e1,ajf e2];simp only[astep,hr];rfl⟩
   ·cases e
  ·cases e
 |mkl E W ps=>
  simp only[opE]at e;split at e
  ·next r hr=>
   split at e
   ·next r' k n e1 e2 e3=>
    split at e
    ·next t e4=>
     injection e with e;injection e with h1 h2;subst h1;subst h2
     exact⟨rfl,by
      simp only[astep,hr,ZR,ZZ];rw[az0 (fun _ _ e=>az0 axv e) e1,ajf e2];congr 2;simp only[EH.abs,Hp.mk.injEq,true_and]
      rw[bjv e4,ajf e3]⟩
    ·cases e
   ·cases e
  ·cases e
 |store n p x=>
  obtain⟨h1,h2⟩:=byp (tab:=tab) e;exact⟨rfl,by simp only[astep,h2,h1];rfl⟩
 |app E W b x y=>
  simp only[opE]at e;split at e
  ·next v' h' e1=>
   split at e
   ·next v2 t e2 e3=>
    injection e with e;injection e with h1 h2;subst h1;subst h2;refine⟨rfl,?_⟩;simp only[astep];have:=czq (bs:=(h.abs tab).b) e1;rw[show h.abs tab=⟨(h.abs tab).b,h.t⟩from rfl,this,cxm _ _ e2,az0 dz4 e3];rfl
   ·cases e
  ·cases e
 |mset m k x=>
  simp only[opE]at e;unfold keyE at e;split at e
  ·next n hk=>
   obtain⟨h1,i,es,c,h2,h3,h4⟩:=bjq (tab:=tab) e;refine⟨rfl,?_⟩;simp only[astep,h2,hk,msetA,h3,h1,h4];rfl
  ·cases e
 |mdel m k=>
  simp only[opE]at e;unfold keyE at e;split at e
  ·next n hk=>
   obtain⟨h1,i,es,c,h2,h3,h4⟩:=bjq (tab:=tab) e;refine⟨rfl,?_⟩;simp only[astep,h2,hk,mdelA,h3,h1,h4];rfl
  ·cases e
 |mclr m=>
  simp only[opE]at e;obtain⟨h1,i,es,c,h2,h3,h4⟩:=bjq (tab:=tab) e;refine⟨rfl,?_⟩;simp only[astep,h2,mclrA,h3,h1,h4];rfl
 |load g n p=>
  refine⟨rfl,?_⟩;cases g with
  |false=>
   simp only[opE]at e;split at e
   ·next v' e1=>
    obtain⟨rfl,rfl⟩:=fin axv e;simp only[astep,e1];rfl
   ·cases e
  |true=>
   refine quiet e fun v' h'' h1=>?_
   simp only[astep,Zu]at h1;obtain⟨_,_,h1⟩:=h1;injection h1 with _ h1;exact h1.symm
 |pick c a b=>
  refine⟨rfl,?_⟩;simp only[opE]at e;split at e
  ·next t ht=>
   obtain⟨rfl,rfl⟩:=fin axv e;simp only[astep,ht];cases t<;>rfl
  ·cases e
 |extract x i=>
  refine⟨rfl,?_⟩;simp only[opE]at e;split at e
  ·next l hl=>
   split at e
   ·next v' hv=>
    obtain⟨rfl,rfl⟩:=fin axv e;simp only[astep,hl,hv];rfl
   ·cases e
  ·cases e
 |_=>
  refine⟨rfl,quiet e fun v' h'' h1=>?_⟩;revert h1;simp only[astep]
  repeat' split
  all_goals (intro h1;first|cases h1|skip)
  all_goals (first|rfl|(simp only[Zu,Zp]at h1;obtain⟨_,_,_,h1⟩:=h1;exact h1.symm)|skip)
end AX
end
section
open Go.RowKit
namespace AX
section
variable (P:Program) (G:World→Prop) (tab:Tab)
structure Ent where
 f:FuncId
 run:List A→EH→Option (A×Option EH)
 ok:∀avs h v oh,run avs h=some (v,oh)→ACall P G f avs (h.abs tab) fun v' h'=>v'=v∧h'=(oh.getD h).abs tab
end
section
variable {P:Program} {G:World→Prop} {tab:Tab}
def findE(f:FuncId):List (Ent P G tab)→Option (Ent P G tab)
 |[]=>none
 |e::l=>bif Nat.beq f e.f then some e else findE f l
theorem bki{f:FuncId}:∀{l:List (Ent P G tab)} {e:Ent P G tab},findE f l=some e→e.f=f
 |[],e,h=>by cases h
 |x::l,e,h=>by
  unfold findE at h;cases hb:Nat.beq f x.f with
  |true=>rw[hb]at h;injection h with h;subst h;exact(bzl.1 hb).symm
  |false=>rw[hb]at h;exact bki h
def wk1:A→A
 |.sl W (.tok _) rows=> .sl W .no rows
 |x=>x
def wk2:A→A
 |.agg l=> .agg (l.map wk1)
 |x=>wk1 x
def wk3:A→A
 |.tup l=> .tup (l.map wk2)
 |x=>wk2 x
theorem cka(x:A):le1 x (wk1 x):=by
 unfold wk1;split
 ·exact⟨rfl,.inl rfl,.inl rfl⟩
 ·exact aza x
theorem cv7:∀l:List A,leL l (l.map wk1)
 |[]=>trivial
 |x::l=>⟨cka x,cv7 l⟩
theorem ckq{x y:A}(h:le1 x y)(hx:∀l,x≠.agg l):le2 x y:=by
 unfold le2;split
 ·exact absurd rfl (hx _)
 ·exact h
theorem cv2(x:A):le2 x (wk2 x):=by
 unfold wk2;split
 ·exact cv7 _
 ·next h=>exact ckq (cka _) fun l e=>h l e
theorem by5:∀l:List A,bw6 l (l.map wk2)
 |[]=>trivial
 |x::l=>⟨cv2 x,by5 l⟩
theorem cy3(x:A):le x (wk3 x):=by
 unfold wk3;split
 ·exact by5 _
 ·next h=>
  unfold le;split
  ·exact absurd rfl (h _)
  ·exact cv2 _
abbrev Ih:=ACode→T→EH→Option (AExit×T×EH)
def IhOk(P:Program)(G:World→Prop)(tab:Tab)(ih:Ih):Prop:=∀c t h e t' h',ih c t h=some (e,t',h')→∀Q:AExit→Ts→Hp→Prop,Q e t'.get (h'.abs tab)→awp P G c Q t.get (h.abs tab)
def endE:AExit→Bool
 |.exit _=>false
 |_=>true
def finE(tab:Tab)(rs:List ARes)(t:T)(h:EH):Option A:=
 match resA t.get (h.abs tab) rs with
 |some l=>fR (tupA l)
 |none=>none
theorem cqy{rs:List ARes}{t:T}{h:EH}{v:A}{e:AExit}(he:endE e=true)(hf:finE tab rs t h=some v){Q:A→Hp→Prop}{u:A}(hl:le v u)(hq:Q u (h.abs tab)):finQ rs Q e t.get (h.abs tab):=by
 have key:finO (resA t.get (h.abs tab) rs) Q (h.abs tab):=by
  unfold finE at hf;split at hf
  ·next l hr=>
   rw[hr];exact⟨u,by rw[←cxj _ _ hf];exact hl,hq⟩
  ·cases hf
 cases e with
 |exit=>cases he
 |normal=>exact key
 |ret=>exact key
def callE(lib:List (Ent P G tab))(inp:List FuncId)(ih:Ih)(f:FuncId)(args:List A)(h:EH):Option (A×Option EH):=
 match findE f lib with
 |some e=>e.run args h
 |none=>match compFn P f with
  |none=>none
  | some fn=>bif args.length.ble fn.n then (match T.init args with
   | none=>none
   | some t=>bif args.all A.pure&&!(inp.any (Nat.beq f)) then (match ih fn.code t ⟨[],[]⟩ with
     | none=>none
     | some (e,t',h')=>bif endE e then (match finE tab fn.res t' h' with
      | none=>none
      | some v=>(match fR (wk3 v) with
       | none=>none
       | some v=>bif v.pure then some (v,none) else none)) else none)
    else (match ih fn.code t h with
     | none=>none
     | some (e,t',h')=>bif endE e then (match finE tab fn.res t' h' with
      | none=>none
      | some v=>some (v,some h')) else none)) else none
theorem ay9(hm:P.follows .mixedOrders=true){lib:List (Ent P G tab)}{inp:List FuncId}{ih:Ih}(hih:IhOk P G tab ih){f:FuncId}{args:List A}{h:EH}{v:A}{oh:Option EH}(hc:callE lib inp ih f args h=some (v,oh)):
  ACall P G f args (h.abs tab) fun v' h'=>v'=v∧h'=(oh.getD h).abs tab:=by
 unfold callE at hc;split at hc
 ·next e he=>
  have:=e.ok args h v oh hc;rw[bki he]at this;exact this
 ·split at hc
  ·cases hc
  ·next fn hfn=>
   cases hle:args.length.ble fn.n with
   |false=>rw[hle]at hc;cases hc
   |true=>
    rw[hle]at hc;simp only[cond_true]at hc;have hlen:args.length≤fn.n:=Zad hle;split at hc
    ·cases hc
    ·next t ht=>
     have htg:=T.init_ok ht;cases hp:(args.all A.pure&&!(inp.any (Nat.beq f)))with
     |true=>
      rw[hp]at hc;simp only[cond_true]at hc;rw[Zc]at hp;split at hc
      ·cases hc
      ·next e t' h' hr=>
       cases hee:endE e with
       |false=>rw[hee]at hc;cases hc
       |true=>
        rw[hee]at hc;simp only[cond_true]at hc;split at hc
        ·cases hc
        ·next u hu=>
         split at hc
         ·cases hc
         ·next u' hu'=>
          cases hpu:u'.pure with
          |false=>rw[hpu]at hc;cases hc
          |true=>
           rw[hpu]at hc;injection hc with hc;injection hc with h1 h2;subst h1;subst h2;have hE:ACall P G f args ⟨[],[]⟩ fun v _=>v=u':=by
            refine bzc hm hfn hlen ?_;rw[←htg];refine hih _ _ _ _ _ _ hr _ (cqy hee hu (u:=u') ?_ rfl);rw[cxj _ _ hu'];exact cy3 u
           exact pcall hE hpu hp.1 _
     |false=>
      rw[hp]at hc;simp only[cond_false]at hc;split at hc
      ·cases hc
      ·next e t' h' hr=>
       cases hee:endE e with
       |false=>rw[hee]at hc;cases hc
       |true=>
        rw[hee]at hc;simp only[cond_true]at hc;split at hc
        ·cases hc
        ·next u hu=>
         injection hc with hc;injection hc with h1 h2;subst h1;subst h2;refine bzc hm hfn hlen ?_;rw[←htg];exact hih _ _ _ _ _ _ hr _ (cqy hee hu (le_refl _) ⟨rfl,rfl⟩)
def opdE(t:T)(o:Opd):Option A:=fH (evX t.get o)
theorem byd{t:T}(x:Opd)(y:A)(h:opdE t x=some y):y=evX t.get x:=axv _ _ h
def stepE(lib:List (Ent P G tab))(inp:List FuncId)(ih:Ih)(t:T)(h:EH):AOp→Option (A×Option EH)
 | .call f avs=>(match mapO (opdE t) avs with
  | some vs=>callE lib inp ih f vs h
  | none=>none)
 | .callv x avs=>(match evX t.get x with
  | .fn f caps=>bif callOk P (vF f) then (match mapO (opdE t) avs with
   | some vs=>(match mapO fH (vA f vs caps) with
    | some vs=>callE lib inp ih (vF f) vs h
    | none=>none)
   | none=>none) else none
  | _=>none)
 |op=>opE tab (evX t.get) h op
theorem bkf(hm:P.follows .mixedOrders=true){lib:List (Ent P G tab)}{inp:List FuncId}{ih:Ih}(hih:IhOk P G tab ih){t:T}{h:EH}{op:AOp}{v:A}{oh:Option EH}(hc:stepE lib inp ih t h op=some (v,oh)):
  aopP P G (evX t.get) (h.abs tab) (fun v' h'=>v'=v∧h'=(oh.getD h).abs tab) op:=by
 have plain:opE tab (evX t.get) h op=some (v,oh)→aopP P G (evX t.get) (h.abs tab) (fun v' h'=>v'=v∧h'=(oh.getD h).abs tab) op:=fun e=>by
  obtain⟨h1,h2⟩:=dzf e;exact axb h1 h2
 cases op with
 |call f avs=>
  simp only[stepE]at hc;split at hc
  ·next vs e=>
   have:=bzz byd e;subst this;exact ay9 hm hih hc
  ·cases hc
 |callv x avs=>
  simp only[stepE]at hc;split at hc
  ·next f caps hx=>
   cases hok:callOk P (vF f)with
   |false=>rw[hok]at hc;cases hc
   |true=>
    rw[hok]at hc;simp only[cond_true]at hc;split at hc
    ·next vs e=>
     have:=bzz byd e;subst this;split at hc
     ·next vs e2=>
      have:=az0 axv e2;subst this;exact⟨f,caps,hx,hok,ay9 hm hih hc⟩
     ·cases hc
    ·cases hc
  ·cases hc
 |_=>exact plain hc
def gd(t:T):Option (Nat×Bool)→Option Bool
 |none=>some true
 |some (i,b)=>match t.get i with
  |.bool c=>some (bif c then b else !b)
  |.tup []=>some false
  |_=>none
theorem bj1{t:T}{g:Option (Nat×Bool)}{p q:Prop}(h:gd t g=some true)(hp:p):guardP t.get g p q:=by
 cases g with
 |none=>exact hp
 |some ib=>
  obtain⟨i,b⟩:=ib;unfold gd at h;simp only at h;simp only[guardP];split at h
  ·next c e=>
   rw[e];injection h with h;cases c<;>cases b<;>simp_all
  ·cases h
  ·cases h
theorem bz2{t:T}{g:Option (Nat×Bool)}{p q:Prop}(h:gd t g=some false)(hq:q):guardP t.get g p q:=by
 cases g with
 |none=>cases h
 |some ib=>
  obtain⟨i,b⟩:=ib;unfold gd at h;simp only at h;simp only[guardP];split at h
  ·next c e=>
   rw[e];injection h with h;cases c<;>cases b<;>simp_all
  ·next e=>rw[e];exact hq
  ·cases h
def unitB:A→Bool
 |.tup []=>true
 |_=>false
def qchk(tab:Tab)(t:T)(o:AOper)(v:A)(h:EH):Bool:=
 match gd t o.guard with
 |some true=>loadB o.op&&(match astep (evX t.get) (h.abs tab) o.op with|some (v',_)=>eqb 9 v' v|none=>false)
 |some false=>unitB v
 |none=>false
theorem cvx{v:A}(h:unitB v=true):v=.tup []:=by
 unfold unitB at h;split at h
 ·rfl
 ·cases h
theorem cqv{t:T}{o:AOper}{v:A}{h:EH}(e:qchk tab t o v h=true):quietAt P G t.get o v (h.abs tab):=by
 unfold qchk at e;unfold quietAt;split at e
 ·next hg=>
  rw[Zc]at e;refine bj1 hg ?_;obtain⟨e1,e2⟩:=e;cases hop:o.op with
  |load g n p=>
   rw[hop]at e2;refine axb rfl ?_;simp only[astep]at e2⊢;cases hl:loadA (h.abs tab) g n (evX t.get p)with
   |none=>rw[hl]at e2;cases e2
   |some v'=>rw[hl]at e2;rw[←bv9 _ _ _ e2];rfl
  |_=>rw[hop]at e1;cases e1
 ·next hg=>exact bz2 hg (cvx e)
 ·cases e
abbrev Ob:=Nat×T×AOper×A
def obOk(tab:Tab)(af:List Nat)(h:EH):List Ob→Bool
 |[]=>true
 |(j,t,o,v)::l=>(memN j af||qchk tab t o v h)&&obOk tab af h l
def obDrop(af:List Nat):List Ob→List Ob
 |[]=>[]
 |(j,t,o,v)::l=>bif memN j af then obDrop af l else(j,t,o,v)::obDrop af l
def obP(P:Program)(G:World→Prop):Ob→Nat×(Hp→Prop):=fun x=>(x.1,quietAt P G x.2.1.get x.2.2.1 x.2.2.2)
theorem bjr{af:List Nat}{h:EH}:∀{l:List Ob},obOk tab af h l=true→obsP af (l.map (obP P G)) (h.abs tab)
 |[],_=>trivial
 |(j,t,o,v)::l,e=>by
  simp only[obOk,Zc,ZS]at e;exact⟨e.1.imp id fun e=>cqv e,bjr e.2⟩
theorem bxl{af:List Nat}:∀l:List Ob,obsD af (l.map (obP P G))=(obDrop af l).map (obP P G)
 |[]=>rfl
 |(j,t,o,v)::l=>by
  simp only[ZW,obDrop];rw[show obP P G (j,t,o,v)=(j,quietAt P G t.get o v)from rfl];unfold obsD;have ih:=bxl (af:=af) l;cases hm:memN j af with
  |true=>rw[if_pos rfl];exact ih
  |false=>
   rw[if_neg (by simp)];rw[ih];rfl
def eqB:EB→EB→Bool
 |.cells T l,.cells T' l'=>Nat.beq T T'&&bk1 (eqb 20) l l'
 |.map es c,.map es' c'=>bk1 (fun x y=>decide (x.1=y.1)&&eqb 20 x.2 y.2) es es'&&c.beq c'
 |.row T l,.row T' l'=>Nat.beq T T'&&bk1 (eqb 20) l l'
 |.obj k d,.obj k' d'=>k.beq k'&&eqb 20 d d'
 |_,_=>false
theorem dzy(x y:EB)(h:eqB x y=true):x=y:=by
 have e:=bv9 20;cases x<;>cases y<;>simp only[eqB,Zi,Zc,bzl]at h
 ·rw[h.1,axk e h.2]
 ·rw[axk (fun x y hh=>by
   simp only[Zc,Zm]at hh
   exact Prod.ext hh.1 (e _ _ hh.2)) h.1,h.2]
 ·rw[h.1,axk e h.2]
 ·rw[h.1,e _ _ h.2]
def eqH(x y:EH):Bool:=bk1 eqB x.b y.b&&bk1 (fun a b=>decide (a=b)) x.t y.t
theorem cv4{x y:EH}(h:eqH x y=true):x=y:=by
 simp only[eqH,Zc]at h;obtain⟨a,b⟩:=x;obtain⟨c,d⟩:=y;rw[show a=c from axk dzy h.1,show b=d from axk (fun _ _ e=>of_decide_eq_true e) h.2]
def keptB(h:EH):Option EH→Bool
 |none=>true
 |some h'=>eqH h' h
theorem cjz{h:EH}{oh:Option EH}(e:keptB h oh=true):oh.getD h=h:=by
 cases oh with
 |none=>rfl
 |some h'=>exact cv4 e
def runD(lib:List (Ent P G tab))(inp:List FuncId)(ih:Ih)(m:Nat):List AOper→Nat→List Bool→List EH→List Ob→T→EH→Option (T×EH)
 |[],_,_,_,_,t,h=>some (t,h)
 |o::os,i,fl,past,obs,t,h=>
  match gd t o.guard with
  |none=>none
  |some g=>match (bif g then stepE lib inp ih t h o.op else some (.tup [],none))with
   |none=>none
   |some (v,oh)=>match t.put o.dst v with
    |none=>none
    | some t'=>bif actB m o.op then (match oh with
      | none=>bif obOk tab o.after h obs then runD lib inp ih m os (i+1) fl.tail (h::past) (obDrop o.after obs) t' h else none
      | some h'=>bif obOk tab o.after h' obs then runD lib inp ih m os (i+1) fl.tail (h::past) (obDrop o.after obs) t' h' else none)
     else bif keptB h oh then(bif fl.headD false then(bif qchk tab t o v h&&past.all (qchk tab t o v)then runD lib inp ih m os (i+1) fl.tail past ((i,t,o,v)::obs) t' h else none)
       else runD lib inp ih m os (i+1) fl.tail past obs t' h)else none
theorem bzn(hm:P.follows .mixedOrders=true){lib:List (Ent P G tab)}{inp:List FuncId}{ih:Ih}(hih:IhOk P G tab ih){m:Nat}{K:Ts→Hp→Prop}{t2:T}{h2:EH}(hK:K t2.get (h2.abs tab)):
  ∀(os:List AOper) (i:Nat) (fl:List Bool) (past:List EH) (obs:List Ob) (t:T) (h:EH),runD lib inp ih m os i fl past obs t h=some (t2,h2)→aseq P G m i fl os (past.map (EH.abs tab)) (obs.map (obP P G)) K t.get (h.abs tab)
 |[],i,fl,past,obs,t,h,e=>by
  injection e with e;injection e with e1 e2;subst e1;subst e2;exact hK
 |o::os,i,fl,past,obs,t,h,e=>by
  have ihr:=bzn hm (lib:=lib) (inp:=inp) (m:=m) hih hK os (i+1) fl.tail;unfold runD at e;split at e
  ·cases e
  ·next g hg=>
   split at e
   ·cases e
   ·next v oh hs=>
    split at e
    ·cases e
    ·next t' hp=>
     have hput:=T.put_ok hp;have hgd:guardP t.get o.guard (aopP P G (evX t.get) (h.abs tab) (fun v' h''=>v'=v∧h''=(oh.getD h).abs tab) o.op) (v=.tup []∧(oh.getD h).abs tab=h.abs tab):=by
      cases g with
      |true=>exact bj1 hg (bkf hm hih hs)
      |false=>
       injection hs with hs;injection hs with h1 h2;subst h1;subst h2;exact bz2 hg ⟨rfl,rfl⟩
     refine⟨v,(oh.getD h).abs tab,hgd,?_⟩;cases hact:actB m o.op with
     |true=>
      rw[hact]at e;simp only[cond_true]at e;refine⟨.inl rfl,?_⟩;rw[if_pos rfl,←hput,bxl];cases oh with
      |none=>
       simp only at e;cases hob:obOk tab o.after h obs with
       |false=>rw[hob]at e;cases e
       |true=>
        rw[hob]at e;exact⟨bjr hob,ihr (h::past) _ t' h e⟩
      |some h'=>
       simp only at e;cases hob:obOk tab o.after h' obs with
       |false=>rw[hob]at e;cases e
       |true=>
        rw[hob]at e;exact⟨bjr hob,ihr (h::past) _ t' h' e⟩
     |false=>
      rw[hact]at e;simp only[cond_false]at e;cases hk:keptB h oh with
      |false=>rw[hk]at e;cases e
      |true=>
       rw[hk]at e;simp only[cond_true]at e;rw[cjz hk];refine⟨.inr rfl,?_⟩;rw[if_neg (by simp),←hput];cases hfl:fl.headD false with
       |true=>
        rw[hfl]at e;simp only[cond_true]at e;rw[if_pos rfl];cases hq:(qchk tab t o v h&&past.all (qchk tab t o v))with
        |false=>rw[hq]at e;cases e
        |true=>
         rw[hq]at e;rw[Zc,ZE]at hq;refine⟨?_,ihr past ((i,t,o,v)::obs) t' h e⟩;have:∀l:List EH,(∀x∈l,qchk tab t o v x=true)→forH (quietAt P G t.get o v) (l.map (EH.abs tab)):=by
          intro l;induction l with
          |nil=>intro _;trivial
          |cons x l ih=>intro hx;exact⟨cqv (hx x (by simp)),ih fun y hy=>hx y (by simp[hy])⟩
         exact this past hq.2
       |false=>
        rw[hfl]at e;rw[if_neg (by simp)];exact ihr past obs t' h e
def newB:AOp→Bool
 |.alloc ..=>true
 |_=>false
def findA:Nat→List AOper→Option Nat
 |_,[]=>none
 |i,o::os=>bif newB o.op then some i else findA (i+1) os
def hbs(lib:List (Ent P G tab))(inp:List FuncId)(ih:Ih)(acts:List Nat)(a:Nat)(va:A):List AOper→Nat→T→EH→Option (List EH)
 |[],_,_,h=>some [h]
 | o::os,i,t,h=>bif i.beq a then (match t.put o.dst va with
   | some t'=>hbs lib inp ih acts a va os (i+1) t' h
   | none=>none)
  else(match gd t o.guard with
   |none=>none
   |some g=>match (bif g then stepE lib inp ih t h o.op else some (.tup [],none))with
    |none=>none
    |some (v,oh)=>match t.put o.dst v with
     |none=>none
     | some t'=>bif memN i acts then (match hbs lib inp ih acts a va os (i+1) t' (oh.getD h) with
       | some l=>some (h::l)
       | none=>none)
      else hbs lib inp ih acts a va os (i+1) t' h)
def agenE(lib:List (Ent P G tab))(inp:List FuncId)(ih:Ih)(acts:List Nat)(a:Nat)(hl:List EH):List AOper→Nat→List (List Nat)→T→Option T
 |[],_,_,t=>some t
 |o::os,i,stg,t=>match gd t o.guard with
  |none=>none
  |some g=>match (bif g then(match stepE lib inp ih t (hl.getD ((stg.headD []).headD 0) ⟨[],[]⟩) o.op with|some (v,_)=>some v|none=>none)else some (.tup []))with
   |none=> none
   | some v => bif (stg.headD []).all (fun j => bif g then (match stepE lib inp ih t (hl.getD j ⟨[], []⟩) o.op with
         | some (v', oh) => eqb 20 v' v && eqH (oh.getD (hl.getD j ⟨[], []⟩)) (hl.getD (bw5 acts a acts.length i j) ⟨[], []⟩)
         | none => false) else !(i.beq a)) then (match t.put o.dst v with
     |some t'=>agenE lib inp ih acts a hl os (i+1) stg.tail t'
     |none=>none)else none
theorem absD{hl:List EH}{j:Nat}:(hl.map (EH.abs tab)).getD j ⟨[],[]⟩=(hl.getD j ⟨[],[]⟩).abs tab:=by
 rw[ZX,ZX,List.getElem?_map];cases hl[j]?<;>rfl
theorem ayw{p:Nat→Prop}:∀{l:List Nat},(∀k∈l,p k)→forL p l
 |[],_=>trivial
 |a::l,h=>⟨h a (by simp),ayw fun k hk=>h k (by simp[hk])⟩
theorem bv7(hm:P.follows .mixedOrders=true){lib:List (Ent P G tab)}{inp:List FuncId}{ih:Ih}(hih:IhOk P G tab ih){acts:List Nat}{a:Nat}{hl:List EH}{K:Ts→Prop}{t2:T}(hK:K t2.get):
  ∀(os:List AOper) (i:Nat) (stg:List (List Nat)) (t:T),agenE lib inp ih acts a hl os i stg t=some t2→agen P G acts a acts.length (hl.map (EH.abs tab)) i os stg K t.get
 |[],i,stg,t,e=>by
  injection e with e;subst e;exact hK
 |o::os,i,stg,t,e=>by
  have ihr:=bv7 hm (lib:=lib) (inp:=inp) hih (acts:=acts) (a:=a) (hl:=hl) hK os (i+1) stg.tail;unfold agenE at e;split at e
  ·cases e
  ·next g hg=>
   split at e
   ·cases e
   ·next v hv=>
    cases hall:(stg.headD []).all (fun j=>bif g then(match stepE lib inp ih t (hl.getD j ⟨[],[]⟩) o.op with
      |some (v',oh)=>eqb 20 v' v&&eqH (oh.getD (hl.getD j ⟨[],[]⟩)) (hl.getD (bw5 acts a acts.length i j) ⟨[],[]⟩)
      |none=>false)else !(i.beq a))with
    |false=>rw[hall]at e;cases e
    |true=>
     rw[hall]at e;simp only[cond_true]at e;split at e
     ·next t' hp=>
      refine⟨v,ayw fun j hj=>?_,by rw[←T.put_ok hp];exact ihr t' e⟩;have hj:=ZE.1 hall j hj;rw[absD,absD];cases g with
      |true=>
       simp only[cond_true]at hj;split at hj
       ·next v' oh hs=>
        rw[Zc]at hj;refine bj1 hg ?_;rw[←cv4 hj.2,←bv9 _ _ _ hj.1];exact bkf hm hih hs
       ·cases hj
      |false=>
       simp only[cond_false]at hj hv;injection hv with hv;rw[YG,dzi]at hj;exact bz2 hg ⟨hv.symm,hj⟩
     ·cases e
def cutO(n:Nat)(h:EH):Option EH:=
 match mapO some (h.b.take n)with
 |some b=>some ⟨b,h.t⟩
 |none=>none
def runG(lib:List (Ent P G tab))(inp:List FuncId)(ih:Ih)(ops:List AOper)(t:T)(h:EH):Option (T×EH):=
 match findA 0 ops with
 |none=>none
 | some a=>bif genB ops ((actsF 1 0 (closeOps ops)).filter fun i=>!(i.beq a)) a (cvl (closeOps ops) ((actsF 1 0 (closeOps ops)).filter fun i=>!(i.beq a)) a) then (match ops[a]? with
   | none=>none
   | some o=>match opE tab (evX t.get) h o.op with
    | some (va,some hx)=>(match hbs lib inp ih ((actsF 1 0 (closeOps ops)).filter fun i=>!(i.beq a)) a va ops 0 t hx with
     | none=>none
     | some hb=>match mapO (cutO h.b.length) (hb.drop 1) with
      | none=>none
      | some hn=>match agenE lib inp ih ((actsF 1 0 (closeOps ops)).filter fun i=>!(i.beq a)) a (h::(hn++hb)) ops 0 (cvl (closeOps ops) ((actsF 1 0 (closeOps ops)).filter fun i=>!(i.beq a)) a) t with
       | none=>none
       | some t'=>match (h::(hn++hb))[((actsF 1 0 (closeOps ops)).filter fun i=>!(i.beq a)).length+(((actsF 1 0 (closeOps ops)).filter fun i=>!(i.beq a)).length+1)]? with
        | some h'=>some (t',h')
        | none=>none)
    | _=>none) else none
theorem ckx(hm:P.follows .mixedOrders=true){lib:List (Ent P G tab)}{inp:List FuncId}{ih:Ih}(hih:IhOk P G tab ih){Q:AExit→Ts→Hp→Prop}{ops:List AOper}{t t2:T}{h h2:EH}(hQ:Q .normal t2.get (h2.abs tab))(e:runG lib inp ih ops t h=some (t2,h2)):
  awp P G (.reg true ops) Q t.get (h.abs tab):=by
 unfold runG at e;split at e
 ·cases e
 ·next a ha=>
  obtain⟨acts,hacts⟩:=Ex (((actsF 1 0 (closeOps ops)).filter fun i=>!(i.beq a)));rw[hacts]at e;cases hb:genB ops acts a (cvl (closeOps ops) acts a)with
  |false=>rw[hb]at e;cases e
  |true=>
   rw[hb]at e;simp only[cond_true]at e;split at e
   ·cases e
   ·split at e
    ·split at e
     ·cases e
     ·next hbl _=>
      split at e
      ·cases e
      ·next hn _=>
       split at e
       ·cases e
       ·next t' ht'=>
        split at e
        ·next h' hh=>
         injection e with e;injection e with e1 e2;subst e1;subst e2;refine cz3 acts a ((h::(hn++hbl)).map (EH.abs tab)) (cvl (closeOps ops) acts a) rfl hb (bv7 hm hih ?_ ops 0 _ t ht');rw[absD,ZX,hh];exact hQ
        ·cases e
    ·cases e
def nrm(r:Option (T×EH)):Option (AExit×T×EH):=
 match r with
 |some (t,h)=>some (.normal,t,h)
 |none=>none
def evB(lib:List (Ent P G tab))(inp:List FuncId)(ih:Ih):Ih:=fun c t h=>
 match c with
 |.skip=>some (.normal,t,h)
 |.reg false ops=>nrm (runD lib inp ih 0 ops 0 [] [] [] t h)
 |.reg true ops=>bif seqB 1 ops then nrm (runD lib inp ih 1 ops 0 (flagsOf 1 ops) [] [] t h)else bif seqB 2 ops then nrm (runD lib inp ih 2 ops 0 (flagsOf 2 ops) [] [] t h)else nrm (runG lib inp ih ops t h)
 | .seq a b=>(match ih a t h with
  | none=>none
  | some (e,t',h')=>(match e with
   | .normal=>ih b t' h'
   | .exit j=>some (.exit j,t',h')
   | .ret=>some (.ret,t',h')))
 | .cond c a b=>(match evX t.get c with
  | .bool x=>bif x then ih a t h else ih b t h
  | _=>none)
 | .block id c=>(match ih c t h with
  | none=>none
  | some (e,t',h')=>(match e with
   | .normal=>some (.normal,t',h')
   | .exit j=>bif Nat.beq j id then some (.normal,t',h') else some (.exit j,t',h')
   | .ret=>some (.ret,t',h')))
 | .loop c=>(match ih c t h with
  | none=>none
  | some (e,t',h')=>(match e with
   | .normal=>ih (.loop c) t' h'
   | .exit j=>some (.exit j,t',h')
   | .ret=>some (.ret,t',h')))
 |.exit id=>some (.exit id,t,h)
 |.ret=>some (.ret,t,h)
 |.prim ..=>none
noncomputable def ev(lib:List (Ent P G tab))(inp:List FuncId)(n:Nat):Ih:=Nat.rec (motive:=fun _=>Ih) (fun _ _ _=>none) (fun _ ih=>evB lib inp ih) n
theorem akm{r:Option (T×EH)}{e:AExit}{t:T}{h:EH}(hn:nrm r=some (e,t,h)):e=.normal∧r=some (t,h):=by
 cases r with
 |none=>cases hn
 |some x=>
  injection hn with hn;injection hn with h1 h2;injection h2 with h2 h3;exact⟨h1.symm,by rw[←h2,←h3]⟩
theorem dzm(hm:P.follows .mixedOrders=true){lib:List (Ent P G tab)}{inp:List FuncId}{ih:Ih}(hih:IhOk P G tab ih):IhOk P G tab (evB lib inp ih):=by
 intro c t h e t' h' hr Q hQ;cases c with
 |skip=>injection hr with hr;injection hr with h1 h2;injection h2 with h2 h3;subst h1;subst h2;subst h3;exact hQ
 |exit id=>injection hr with hr;injection hr with h1 h2;injection h2 with h2 h3;subst h1;subst h2;subst h3;exact hQ
 |ret=>injection hr with hr;injection hr with h1 h2;injection h2 with h2 h3;subst h1;subst h2;subst h3;exact hQ
 |prim n c=>cases hr
 |reg d ops=>
  cases d with
  |false=>
   obtain⟨rfl,h1⟩:=akm hr;exact bvc (bzn hm hih (K:=Q .normal) hQ ops 0 [] [] [] t h h1)
  |true=>
   simp only[evB]at hr;cases h1:seqB 1 ops with
   |true=>
    rw[h1]at hr;obtain⟨rfl,h2⟩:=akm hr;exact bva 1 h1 (bzn hm hih (K:=Q .normal) hQ ops 0 _ [] [] t h h2)
   |false=>
    rw[h1]at hr;simp only[cond_false]at hr;cases h3:seqB 2 ops with
    |true=>
     rw[h3]at hr;obtain⟨rfl,h2⟩:=akm hr;exact bva 2 h3 (bzn hm hih (K:=Q .normal) hQ ops 0 _ [] [] t h h2)
    |false=>
     rw[h3]at hr;obtain⟨rfl,h2⟩:=akm hr;exact ckx hm hih hQ h2
 |seq a b=>
  simp only[evB]at hr;split at hr
  ·cases hr
  ·next e1 t1 h1 hx=>
   refine bvo (hih _ _ _ _ _ _ hx _ ?_);cases e1 with
   |normal=>exact hih _ _ _ _ _ _ hr _ hQ
   |exit j=>injection hr with hr;injection hr with h1 h2;injection h2 with h2 h3;subst h1;subst h2;subst h3;exact hQ
   |ret=>injection hr with hr;injection hr with h1 h2;injection h2 with h2 h3;subst h1;subst h2;subst h3;exact hQ
 |cond c a b=>
  simp only[evB]at hr;split at hr
  ·next x hx=>
   cases x with
   |true=>exact cxg hx (hih _ _ _ _ _ _ hr _ hQ)
   |false=>exact cjr hx (hih _ _ _ _ _ _ hr _ hQ)
  ·cases hr
 |block id c=>
  simp only[evB]at hr;split at hr
  ·cases hr
  ·next e1 t1 h1 hx=>
   refine bkp (hih _ _ _ _ _ _ hx _ ?_);cases e1 with
   |normal=>injection hr with hr;injection hr with h1 h2;injection h2 with h2 h3;subst h1;subst h2;subst h3;exact hQ
   |ret=>injection hr with hr;injection hr with h1 h2;injection h2 with h2 h3;subst h1;subst h2;subst h3;exact hQ
   |exit j=>
    simp only at hr;cases hj:Nat.beq j id with
    |true=>
     rw[hj]at hr;injection hr with hr;injection hr with h1 h2;injection h2 with h2 h3;subst h1;subst h2;subst h3;have:=bzl.1 hj;subst this;exact cja hQ
    |false=>
     rw[hj]at hr;injection hr with hr;injection hr with h1 h2;injection h2 with h2 h3;subst h1;subst h2;subst h3;exact cxq (by rw[Zq];exact dzi.1 hj) hQ
 |loop c=>
  simp only[evB]at hr;split at hr
  ·cases hr
  ·next e1 t1 h1 hx=>
   cases e1 with
   |normal=>
    obtain⟨k,hk⟩:=hih _ _ _ _ _ _ hr Q hQ;exact⟨k+1,hih _ _ _ _ _ _ hx _ hk⟩
   |exit j=>injection hr with hr;injection hr with h1 h2;injection h2 with h2 h3;subst h1;subst h2;subst h3;exact⟨1,hih _ _ _ _ _ _ hx _ hQ⟩
   |ret=>injection hr with hr;injection hr with h1 h2;injection h2 with h2 h3;subst h1;subst h2;subst h3;exact⟨1,hih _ _ _ _ _ _ hx _ hQ⟩
theorem dzt(hm:P.follows .mixedOrders=true)(lib:List (Ent P G tab))(inp:List FuncId):∀n,IhOk P G tab (ev lib inp n)
 |0=>fun c t h e t' h' hr=>by cases hr
 |n+1=>dzm hm (dzt hm lib inp n)
theorem eval(hm:P.follows .mixedOrders=true)(lib:List (Ent P G tab))(inp:List FuncId)(n:Nat){f:FuncId}{args:List A}{h:EH}{v:A}(hc:(callE lib inp (ev lib inp n) f args h).map (·.1)=some v):ACall P G f args (h.abs tab) fun v' _=>v'=v:=by
 rw[Zu]at hc;obtain⟨⟨v',oh⟩,h1,rfl⟩:=hc;exact(ay9 hm (dzt hm lib inp n) h1).mono fun _ _ h=>h.1
end
end AX
end
section
open Go.RowKit
namespace AX
def gate(b:Bool)(v:A):Option (A×Option EH):=bif b then(match fR v with|some v=>some (v,none)|none=>none)else none
theorem awc{b:Bool}{v v':A}{oh:Option EH}(h:gate b v=some (v',oh)):b=true∧v'=v∧oh=none:=by
 unfold gate at h;cases b with
 |false=>cases h
 |true=>
  simp only[cond_true]at h;split at h
  ·next e=>injection h with h;injection h with h1 h2;exact⟨rfl,by rw[←h1,cxj _ _ e],h2.symm⟩
  ·cases h
abbrev Bs:=List UInt8
def eS{tab:Tab}(f:FuncId)(b:Bs→Bool)(r:Bs→A)(ok:∀s,b s=true→∀h,AT f [.str s] h (r s)):Ent Tryz.prog GT tab where
 f:=f
 run avs h:=match avs with
  |[.str s]=>gate (b s) (r s)
  |_=>none
 ok avs h v oh e:=by
  split at e
  ·obtain⟨h1,rfl,rfl⟩:=awc e;exact ok _ h1 _
  ·cases e
def eSI{tab:Tab}(f:FuncId)(b:Bs→Int→Bool)(r:Bs→Int→A)(ok:∀s n,b s n=true→∀h,AT f [.str s,.int .i64 n] h (r s n)):Ent Tryz.prog GT tab where
 f:=f
 run avs h:=match avs with
  |[.str s,.int .i64 n]=>gate (b s n) (r s n)
  |_=>none
 ok avs h v oh e:=by
  split at e
  ·obtain⟨h1,rfl,rfl⟩:=awc e;exact ok _ _ h1 _
  ·cases e
theorem dqa{l m:Bs}(e:mapO fU l=some m):m=l:=az0 cyv e
def libP{tab:Tab}:List (Ent Tryz.prog GT tab):=[
 eS 99 (fun s=>s.length.ble 2000000) (fun s=> .bool (Str.valid s)) (fun s e h=>bx8 s (Zad e) h),
 eS 168 (fun _=>true) (fun s=> .int .i64 (Val.textZ s)) (fun s _ h=>bjb s h),
 eSI 52 (fun s n=>s.length.ble 1000000000&&decide (-9223372036854775808≤n∧n≤9223372036854775807)) (fun s n=> .str (s++Wire.num n)) (fun s n e h=>by
  rw[Zc,Zm]at e
  exact aqo s n (Zad e.1) e.2.1 e.2.2 h),
 eS 24 (fun s=>s.length.ble 1000000000) (fun s=> .str (Crc.app s)) (fun s e h=>avk s (Zad e) h),
 eS 110 (fun s=>s.length.ble 1000000000) (fun s=> .tup [.str (Crc.ver s).1,.int .i64 (Crc.ver s).2]) (fun s e h=>ayo s (Zad e) h)]
def tabL:Tab:=fun k d=>
 match k,d with
 |3,.str l=>lwt l
 |_,_=>dead
abbrev EntL:=Ent Tryz.prog GT tabL
def turnL(h:EH)(i:Nat)(k:Nat)(d:A)(v:A):Option (A×Option EH):=
 match setO h.b i (.obj k d),fR v with
 |some b,some v=>some (v,some ⟨b,h.t⟩)
 |_,_=>none
theorem bvm{h:EH}{i k:Nat}{d v v':A}{oh:Option EH}(e:turnL h i k d v=some (v',oh)):v'=v∧(oh.getD h).abs tabL=⟨(h.abs tabL).b.set i (tabL k d),(h.abs tabL).t⟩:=by
 unfold turnL at e;split at e
 ·next b v1 e1 e2=>
  injection e with e;injection e with h1 h2;subst h1;subst h2;exact⟨cxj _ _ e2,cqq e1⟩
 ·cases e
def lxE(h:EH)(i:Nat):Option Bs:=
 match h.b[i]? with
 |some (.obj k (.str l))=>bif k.beq 3 then some l else none
 |some (.cells T [.nilp,.sl 0 .nil []])=>bif Nat.beq T 75 then some []else none
 |_=>none
theorem byf{h:EH}{i:Nat}{l:Bs}(e:lxE h i=some l):Lt (h.abs tabL) i l:=by
 unfold lxE at e;split at e
 ·next k l' hb=>
  cases hk:k.beq 3 with
  |false=>rw[hk]at e;cases e
  |true=>
   rw[hk]at e;injection e with e;subst e;have:=bzl.1 hk;subst this;exact .inl (awl hb)
 ·next T hb=>
  cases hk:Nat.beq T 75 with
  |false=>rw[hk]at e;cases e
  |true=>
   rw[hk]at e;injection e with e;subst e;have:=bzl.1 hk;subst this;exact .inr ⟨rfl,awl hb⟩
 ·cases e
def eLWrite:EntL where
 f:=27
 run avs h:=match avs with
  | [.ptr i 0,.str s]=>(match lxE h i with
   | some l=>bif (l.length+s.length).ble 1000000000 then (match mapO fU (l++s) with | some m=>turnL h i 3 (.str m) (.tup [.int .i64 s.length,.nili]) | none=>none) else none
   | none=>none)
  |_=>none
 ok avs h v oh e:=by
  split at e
  ·next i s=>
   split at e
   ·next l hw=>
    cases hb:(l.length+s.length).ble 1000000000 with
    |false=>rw[hb]at e;cases e
    |true=>
     rw[hb]at e;simp only[cond_true]at e;split at e
     ·next m hm=>
      obtain⟨rfl,h2⟩:=bvm e;rw[h2,dqa hm];exact cvw (byf hw) s (Zad hb)
     ·cases e
   ·cases e
  ·cases e
def eLLen:EntL where
 f:=26
 run avs h:=match avs with
  | [.ptr i 0]=>(match lxE h i with
   | some l=>gate true (.int .i64 l.length)
   | none=>none)
  |_=>none
 ok avs h v oh e:=by
  split at e
  ·split at e
   ·next hw=>
    obtain⟨_,rfl,rfl⟩:=awc e;exact cys (byf hw)
   ·cases e
  ·cases e
def eLStr:EntL where
 f:=28
 run avs h:=match avs with
  | [.ptr i 0]=>(match lxE h i with
   | some l=>bif l.isEmpty then none else turnL h i 2 .nilp (.str l)
   | none=>none)
  |_=>none
 ok avs h v oh e:=by
  split at e
  ·split at e
   ·next l hw=>
    cases hl:l.isEmpty with
    |true=>rw[hl]at e;cases e
    |false=>
     rw[hl]at e;obtain⟨rfl,h2⟩:=bvm e;rw[h2];exact cq0 (byf hw) (by intro h0;rw[h0]at hl;cases hl)
   ·cases e
  ·cases e
def eClS:EntL where
 f:=107
 run avs h:=match avs with
  |[.sl W0 o []]=>gate true (.sl 1 .no [])
  |_=>none
 ok avs h v oh e:=by
  split at e
  ·obtain⟨_,rfl,rfl⟩:=awc e;exact bqe _ _ _
  ·cases e
def eClP:EntL where
 f:=70
 run avs h:=match avs with
  |[.sl W0 o []]=>gate true (.sl 3 .no [])
  |_=>none
 ok avs h v oh e:=by
  split at e
  ·obtain⟨_,rfl,rfl⟩:=awc e;exact bz3 _ _ _
  ·cases e
def libL:List EntL:=eLWrite::eLLen::eLStr::eClS::eClP::libP
theorem dqn(h:Hp):AT 4 [] h (.bool true):=
 pcall (eval (tab:=tabL) mixedT libL [32,9] 100000 (h:=⟨[],[]⟩) (by kernel_rfl)) rfl rfl h
theorem cwb(r:Jr)(hf:JrIn r)(h:Hp):AT 17 [.agg r.cells,.agg r.cells] h (.bool true):=by
 have c1:=cvi r.base hf.base;have c2:=bq9 r.after hf.lens hf.deps;clear hf;obtain⟨kd,⟨lin,ser,ins,ps,os⟩,st,op,ad,dp,ty,tk,er,⟨a1,a2,a3,a4,⟨k,nn,ss,is,ks⟩,v,tn,fi,ds⟩⟩:=r;simp only[Jr.cells,Sf.Inst.cells,Zo,Zk,Sf.St.A]at *;refine pcall ?_ rfl (by simp[A.pure,A.data]) h;refine fo ?_;refine azj ti (ai c1 (ai c2 ti)) ?_;exact Fn rfl
theorem cyz(l:List Jr)(hin:∀r∈l,JrIn r)(hl:l.length≤1000000000)(h:Hp):AT 7 [.sl 26 .no (l.map Jr.cells),.sl 26 .no (l.map Jr.cells)] h (.bool true):=by
 refine pcall ?_ rfl (by simp[A.pure,A.data]) h;refine fo ?_;have li:(l.map Jr.cells).length=l.length:=Zj _;refine azb li ?_;refine azf (fun m ts hh=>hh=⟨[],[]⟩∧∃i:Nat,m=l.length-i∧i≤l.length∧(ts 0=.sl 26 .no (l.map Jr.cells)∧ts 1=.sl 26 .no (l.map Jr.cells)∧ts 5=.int .i64 (i:Nat))) l.length ?_ ?_
 ·exact⟨rfl,0,rfl,Zz _,by(exact azq li)⟩
 rintro m ts hh ⟨rfl,i,rfl,hi,ht⟩;rcases Z7 i l.length with hlt|hge
 ·have hf:=ajn Jr.cells l i hlt (by omega);have cx:=cwb _ (hin _ (Zt hlt));obtain⟨x,hx⟩:=Ex (l[i]);rw[hx]at hf cx;obtain⟨kd,⟨lin,ser,ins,ps,os⟩,st,op,ad,dp,ty,tk,er,⟨a1,a2,a3,a4,⟨k,nn,ss,is,ks⟩,v,tn,fi,ds⟩⟩:=x;simp only[Jr.cells,Sf.Inst.cells,Zo,Zk]at hf cx;refine azj (ai ht hf) (ai cx ti) ?_;exact⟨_,by omega,rfl,i+1,rfl,by omega,by(exact azq (ai ht hf))⟩
 ·have hf:=akl Jr.cells l i hge;refine azb (ai ht hf) ?_;exact Fn rfl
end AX
end
section
open Go.RowKit
namespace Jr
open Wire (numR strR cntR)
theorem first_fits{b:List UInt8}{x:Jr}{n:Nat}(h:firstJ b=some (x,n))(hl:b.length≤1000000):Fits x:=by
 rw[←first_agree]at h;unfold firstQ at h;dsimp only at h;split at h
 ·cases h
 split at h
 ·cases h
 split at h
 ·cases h
 next hok=>
 split at h
 ·cases h
 injection h with h;injection h with h1 h2;subst h1;have lt:=Sf.strS_len (Sf.rd b);have et:(Sf.strS (Sf.rd b)).2=(strR ⟨b,0⟩).2:=rfl;rw[et]at lt;exact recQ_fit (l:=(strR ⟨b,0⟩).2) (Prod.ext rfl (by simpa using hok)) (Zl lt hl)
theorem readJ_fits:∀(m:Nat) (b:List UInt8),b.length≤m→b.length≤1000000→(∀r∈(readJ b).1,Fits r)∧(readJ b).1.length≤b.length
 |m,b,hm,hl=>by
  cases hF:firstJ b with
  |none=>rw[readJ_none hF];simp
  |some p=>
   obtain⟨x,n⟩:=p;obtain⟨h1,h2,h3⟩:=first_some hF;have hx:=first_fits hF hl;rw[readJ_cons hF]
   match m,hm with
   |0,hm=>omega
   |m+1,hm=>
    have hd:(b.drop n).length=b.length-n:=Zv;obtain⟨i1,i2⟩:=readJ_fits m (b.drop n) (by omega) (by omega);refine⟨fun r hr=>?_,by dsimp only;rw[Zh];omega⟩;rcases Z8.1 hr with hr|hr
    ·rw[hr];exact hx
    ·exact i1 r hr
end Jr
namespace AX
def firstB(b:List UInt8):A:=
 match Jr.firstJ b with
 |some (x,n)=> .tup [.agg x.cells,.int .i64 (n:Nat)]
 |none=> .tup [.agg Jr.zeroR.cells,.int .i64 0]
theorem aju{xs ys:List A}{n:Int}(h:leL xs ys):le (.tup [.agg xs,.int .i64 n]) (.tup [.agg ys,.int .i64 n]):=⟨h,azx _,trivial⟩
theorem bj0(b:List UInt8):(firstB b).pure=true:=by
 have key:∀(r:Jr) (n:Int),(A.tup [.agg r.cells,.int .i64 n]).pure=true:=fun r n=>by
  obtain⟨kd,⟨lin,ser,ins,ps,os⟩,st,op,ad,dp,ty,tk,er,⟨a1,a2,a3,a4,⟨k,nn,ss,is,ks⟩,v,tn,fi,ds⟩⟩:=r;simp[A.pure,A.data,Jr.cells,Sf.Inst.cells]
 unfold firstB;split<;>exact key _ _
theorem bwe(b:List UInt8)(hl:b.length≤1000000)(h:Hp):AT 16 [.str b] h (firstB b):=by
 refine pcall ?_ (bj0 b) (by simp[A.pure,A.data]) h;refine fo ?_;have hz:=cxb 0 0 0 [] [] [] [];have none_:Jr.firstJ b=none→firstB b=.tup [.agg Jr.zeroR.cells,.int .i64 0]:=fun e=>by unfold firstB;rw[e]
 have hF:Jr.firstJ b=Jr.firstQ b:=(Jr.first_agree b).symm;unfold Jr.firstQ at hF;dsimp only at hF;have l1:=Wire.strR_rest ⟨b,0⟩;have lt:=Sf.strS_len (Sf.rd b);have et:(Sf.strS (Sf.rd b)).2=(Wire.strR ⟨b,0⟩).2:=rfl;rw[et]at lt;obtain⟨⟨⟨l,e⟩,t⟩,h1⟩:=Ex (Wire.strR ⟨b,0⟩);rw[h1]at hF lt l1;have lt':t.length≤b.length:=lt;dsimp only at hF l1;have c0:=akn b;have c1:=az9 h1 (by omega);have c2:=fun h=>axl (l:=l) (e:=e) h
 clear lt et h1;obtain⟨n,hn⟩:=Ex (b.length-l.length+4);rw[hn]at hF;have w1:IntKind.i64.wrap ((b.length:Int)-(l.length:Int))=(b.length:Int)-(l.length:Int):=wrap64 (by omega) (by omega);have w2:IntKind.i64.wrap ((b.length:Int)-(l.length:Int)+4)=(n:Int):=by rw[wrap64 (by omega) (by omega)];omega
 by_cases g1:e≠0
 ·have q1:(e !=0)=true:=by simp[g1]
  rw[none_ (by rw[hF,if_pos (.inl g1)])];refine azj (ai w1 (ai w2 q1)) (ai c0 (ai c1 (ai c2 ti))) ?_;exact⟨_,aju hz,rfl⟩
 have q1:(e !=0)=false:=by simpa using g1
 by_cases g2:b.length<n
 ·have q2:(n:Int)>(b.length:Int):=by omega
  rw[none_ (by rw[hF,if_pos (.inr (.inl g2))])];refine azj (ai w1 (ai w2 (ai q1 q2))) (ai c0 (ai c1 (ai c2 ti))) ?_;exact⟨_,aju hz,rfl⟩
 have q2:¬(n:Int)>(b.length:Int):=by omega
 by_cases g3:1048576<n
 ·have q3:(n:Int)>1048576:=by omega
  rw[none_ (by rw[hF,if_pos (.inr (.inr g3))])];refine azj (ai w1 (ai w2 (ai q1 (ai q2 q3)))) (ai c0 (ai c1 (ai c2 ti))) ?_;exact⟨_,aju hz,rfl⟩
 have q3:¬(n:Int)>1048576:=by omega
 rw[if_neg (by rintro(e|e|e);exact g1 e;exact g2 e;exact g3 e)]at hF;have hsl:(0:Int)≤(n:Int)∧(n:Int)≤(b.length:Int):=by omega
 have cv:=cq9 (l:=b.take n) (by rw[ZQ];omega);obtain⟨⟨vb,ve⟩,hv⟩:=Ex (Crc.ver (b.take n));rw[hv]at hF cv;dsimp only at hF cv;by_cases g4:ve≠0
 ·have q4:(ve !=0)=true:=by simp[g4]
  rw[none_ (by rw[hF,if_pos g4])];refine azj (ai w1 (ai w2 (ai q1 (ai q2 (ai q3 (ai hsl q4)))))) (ai c0 (ai c1 (ai c2 (ai cv ti)))) ?_;exact⟨_,aju hz,rfl⟩
 have q4:(ve !=0)=false:=by simpa using g4
 rw[if_neg g4]at hF;have hfit:=fun x=>Jr.recQ_fit (l:=t) (x:=x)
 have cr:=bjx t (by omega);obtain⟨⟨x,ok⟩,hx⟩:=Ex (Jr.recQ t);rw[hx]at hF cr hfit;dsimp only at hF cr;cases ok with
 |false=>
  rw[if_pos rfl]at hF;rw[none_ hF];clear hfit hF hx none_;obtain⟨kd,⟨lin,ser,ins,ps,os⟩,st,op,ad,dp,ty,tk,er,⟨a1,a2,a3,a4,⟨k,nn,ss,is,ks⟩,v,tn,fi,ds⟩⟩:=x;simp only[Jr.cells,Sf.Inst.cells,Zo,Zk]at cr;refine azj (ai w1 (ai w2 (ai q1 (ai q2 (ai q3 (ai hsl q4)))))) (ai c0 (ai c1 (ai c2 (ai cv (ai cr ti))))) ?_;exact⟨_,aju hz,rfl⟩
 |true=>
  rw[if_neg (by decide)]at hF;have q:=hfit x rfl (by omega);have ce:=fun h=>czz x ⟨q.step,q.inst,q.tok,q.lens⟩ q.deps q.base q.typ q.enc h
  obtain⟨⟨B,E⟩,hE⟩:=Ex (Jr.enc x);rw[hE]at hF ce;dsimp only at hF ce;have hsome:¬(E≠0∨B≠b.take n)→firstB b=.tup [.agg x.cells,.int .i64 (n:Nat)]:=fun e=>by unfold firstB;rw[hF,if_neg e]
  have hnone:(E≠0∨B≠b.take n)→firstB b=.tup [.agg Jr.zeroR.cells,.int .i64 0]:=fun e=>none_ (by rw[hF,if_pos e])
  clear hF hE hx q hfit none_;obtain⟨kd,⟨lin,ser,ins,ps,os⟩,st,op,ad,dp,ty,tk,er,⟨a1,a2,a3,a4,⟨k,nn,ss,is,ks⟩,v,tn,fi,ds⟩⟩:=x;simp only[Jr.cells,Sf.Inst.cells,Zo,Zk]at cr ce hsome;by_cases g5:E≠0
  ·have q5:(E !=0)=true:=by simp[g5]
   rw[hnone (.inl g5)];refine azj (ai w1 (ai w2 (ai q1 (ai q2 (ai q3 (ai hsl (ai q4 q5))))))) (ai c0 (ai c1 (ai c2 (ai cv (ai cr (ai ce ti)))))) ?_;exact⟨_,aju hz,rfl⟩
  have q5:(E !=0)=false:=by simpa using g5
  by_cases g6:B≠b.take n
  ·have q6:(B !=b.take n)=true:=by simp[g6]
   rw[hnone (.inr g6)];refine azj (ai w1 (ai w2 (ai q1 (ai q2 (ai q3 (ai hsl (ai q4 (ai q5 q6)))))))) (ai c0 (ai c1 (ai c2 (ai cv (ai cr (ai ce ti)))))) ?_;exact⟨_,aju hz,rfl⟩
  have q6:(B !=b.take n)=false:=by simpa using g6
  rw[hsome (by rintro(e|e);exact g5 e;exact g6 e)];refine azj (ai w1 (ai w2 (ai q1 (ai q2 (ai q3 (ai hsl (ai q4 (ai q5 q6)))))))) (ai c0 (ai c1 (ai c2 (ai cv (ai cr (ai ce ti)))))) ?_;exact Fn rfl
theorem bw7(b:List UInt8)(hl:b.length≤1000000)(h:Hp):
  AT 6 [.str b] h (.tup [.sl 26 .no ((Jr.readJ b).1.map Jr.cells),.int .i64 ((Jr.readJ b).2:Nat)]):=by
 refine pcall ?_ (bks _ _) (by simp[A.pure,A.data]) h;refine fo ?_;refine azb ti ?_;refine azf (fun mm ts h=>∃(a:Nat) (rs:List Jr) (W:Nat) (o:Own) (l:List Blk) (t:List (TypeId×Nat×Nat)),mm=b.length-a∧a≤b.length∧h=⟨l,t⟩∧Jr.readJ b=(rs++(Jr.readJ (b.drop a)).1,a+(Jr.readJ (b.drop a)).2)∧rs.length≤a∧Gs 44 26 0 ⟨[],t⟩ (rs.map Jr.cells) (.sl W o (rs.map Jr.cells))∧ts 0=.str b∧ts 4=.sl W o (rs.map Jr.cells)∧ts 5=.int .i64 (a:Nat)) b.length ?_ ?_
 ·exact⟨0,[],0,.nil,[],[],by omega,by omega,rfl,by simp,by simp,.inl ⟨rfl,rfl⟩,by(exact ev0 ti),by(exact ev0 ti),by(exact azq ti)⟩
 rintro mm ts h ⟨a,rs,W,o,l,t,rfl,ha,rfl,hr,hn,gX,t0,t4,t5⟩;have cf:=bwe (b.drop a) (by rw[Zv];omega);have hs:(0:Int)≤(a:Int)∧(a:Int)≤(b.length:Int):=by omega
 cases hF:Jr.firstJ (b.drop a)with
 |none=>
  have hA:firstB (b.drop a)=.tup [.agg Jr.zeroR.cells,.int .i64 0]:=by unfold firstB;rw[hF]
  rw[hA]at cf;rw[Jr.readJ_none hF]at hr;simp only[Jr.cells,Jr.zeroR,Jr.zeroI,Sf.zero,Sf.Inst.cells,Zo,Zk]at cf;rw[hr];refine azb (ai t0 (ai t4 (ai t5 hs))) ?_;refine use (cf _) ?_;refine azb (ai t0 (ai t4 (ai t5 hs))) ?_;exact⟨.tup [.sl 26 .no (rs.map Jr.cells),.int .i64 (a:Nat)],⟨Gs.le gX,azx _,trivial⟩,by simp⟩
 |some p=>
  obtain⟨x,n⟩:=p;have hsm:=Jr.first_some hF;have hA:firstB (b.drop a)=.tup [.agg x.cells,.int .i64 (n:Nat)]:=by unfold firstB;rw[hF]
  rw[hA]at cf;rw[Jr.readJ_cons hF,YU]at hr;have hlen:n≤b.length-a:=by have:=hsm.2.2;rw[Zv]at this;exact this
  have ei:IntKind.i64.wrap ((a:Int)+(n:Int))=((a+n:Nat):Int):=by rw[wrap64 (by omega) (by omega)];omega
  obtain⟨W',o',t',hX,gX',kX⟩:=gX.grow 376 x.cells (by rw[Zj];omega) (by decide);have em:rs.map Jr.cells++[x.cells]=(rs++[x]).map Jr.cells:=by simp
  rw[em]at gX';simp only[em]at hX;obtain⟨rs2,hrs⟩:=Ex (rs++[x]);have hr2:Jr.readJ b=(rs2++(Jr.readJ (b.drop (a+n))).1,(a+n)+(Jr.readJ (b.drop (a+n))).2):=by
   rw[hr,←hrs,Nat.add_assoc];simp
  have hn2:rs2.length≤a+n:=by rw[←hrs];simp;omega
  rw[hrs]at gX' hX;clear hrs hr em hA hF;have h4:=hsm.2.1;clear hsm;have hn0:((n:Int)==0)=false:=by rw[Zq];omega
  obtain⟨B,hB⟩:∃B,B=Blk.cells 44 x.cells:=⟨_,rfl⟩;obtain⟨kd,⟨lin,ser,ins,ps,os⟩,st,op,ad,dp,ty,tk,er,⟨a1,a2,a3,a4,⟨k,nn,ss,is,ks⟩,v,tn,fi,ds⟩⟩:=x;simp only[Jr.cells,Sf.Inst.cells,Zo,Zk]at cf hX hB;refine azb (ai t0 (ai t4 (ai t5 hs))) ?_;refine use (cf _) ?_;refine azb (ai t0 (ai t4 (ai t5 (ai hs (ai hX (ai ei hn0)))))) ?_;exact⟨b.length-(a+n),by omega,a+n,rs2,W',o',l++[B],t',rfl,by omega,by rw[hB],hr2,hn2,gX',by(exact ev0 t0),by(exact ev0 ti),by(exact ev0 ei)⟩
theorem cqm(b:List UInt8):AC 3 [.str b] ⟨[],[]⟩ fun r _=>r=.bool true:=by
 refine fo ?_;have aw:=dqn;by_cases hl:(b.length:Int)>5000
 ·refine azj hl (ai aw ti) ?_;exact Fn rfl
 have c1:=ck1 b (by omega);have c2:=bw7 b (by omega);obtain⟨hf,hn⟩:=Jr.readJ_fits b.length b (Zf _) (by omega);have c3:=cyz (Jr.readJ b).1 (fun r hr=>⟨(hf r hr).base,(hf r hr).lens,(hf r hr).deps⟩) (by omega);clear hf hn;obtain⟨⟨rs,n⟩,hr⟩:=Ex (Jr.readJ b);rw[hr]at c1 c2 c3;dsimp only at c1 c2 c3;have e1:((n:Int)==(n:Int))=true:=by simp
 refine azj (ai hl e1) (ai c1 (ai c2 (ai c3 (ai aw ti)))) ?_;exact Fn rfl
theorem cj7(b:List UInt8){n:Nat}(_k:n≤maxLen):AC 3 [.str b] ⟨[],[]⟩ fun r _=>r=.bool true:=cqm b
end AX
end
end Go.Proofs.YtdgcbckcameggacGreatDoor
