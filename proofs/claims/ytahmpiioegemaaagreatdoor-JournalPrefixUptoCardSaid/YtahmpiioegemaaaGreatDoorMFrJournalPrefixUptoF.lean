/- Part of what the proof needs. -/
import Derived.Test.YtahmpiioegemaaaGreatDoorMFrJournalPrefixUptoE
set_option maxHeartbeats 4000000
set_option linter.unusedSimpArgs false
set_option linter.unusedVariables false
set_option linter.unnecessarySimpa false
namespace Go.Proofs.YtahmpiioegemaaaGreatDoor
open Go.RowKit
namespace AX
def edgeA:Nat→Nat→List AOper→List AOper
 | _,_,[]=>[]
 | 0,x,o::l=>⟨o.dst,o.op,o.guard,x::o.after⟩::l
 | n+1,x,o::l=>o::edgeA n x l
def swap2:Nat→List AOper→List AOper
 | 0,x::y::l=>y::x::l
 | n+1,x::l=>x::swap2 n l
 | _,l=>l
def swN (a j:Nat):Nat:=if j=a then a+1 else if j=a+1 then a else j
def swapA (a:Nat) (l:List AOper):List AOper:=(swap2 a l).map fun o=>⟨o.dst,o.op,o.guard,o.after.map (swN a)⟩
def callsB (a:Nat) (ops:List AOper):Bool:=ops.all fun o=>!o.op.isCall||o.after.contains a||o.after.contains (a+1)
theorem edgeA_get:∀ (n x:Nat) (l:List AOper) (i:Nat),(edgeA n x l)[i]?=(l[i]?).map fun o=>if i=n then ⟨o.dst,o.op,o.guard,x::o.after⟩ else o
 | n,x,[],i=>by cases n <;> simp [edgeA]
 | 0,x,o::l,0=>by simp [edgeA]
 | 0,x,o::l,i+1=>by simp [edgeA]
 | n+1,x,o::l,0=>by simp [edgeA]
 | n+1,x,o::l,i+1=>by
  rw [edgeA,List.getElem?_cons_succ,List.getElem?_cons_succ,edgeA_get n x l i]
  simp
theorem edgeA_length:∀ (n x:Nat) (l:List AOper),(edgeA n x l).length=l.length
 | n,x,[]=>by cases n <;> rfl
 | 0,x,o::l=>rfl
 | n+1,x,o::l=>by rw [edgeA,List.length_cons,List.length_cons,edgeA_length n x l]
theorem swN_succ (a j:Nat):swN (a+1) (j+1)=swN a j+1:=by
 unfold swN
 by_cases h:j=a
 ·subst h; simp
 ·by_cases h2:j=a+1
  ·subst h2; simp
  ·rw [if_neg (by omega),if_neg (by omega),if_neg h,if_neg h2]
theorem swap2_get:∀ (a:Nat) (l:List AOper) (i:Nat),a+1 < l.length→(swap2 a l)[swN a i]?=l[i]?
 | 0,x::y::l,0,_=>by simp [swap2,swN]
 | 0,x::y::l,1,_=>by simp [swap2,swN]
 | 0,x::y::l,i+2,_=>by simp [swap2,swN]
 | a+1,x::l,0,_=>by
  rw [swap2,show swN (a+1) 0=0 by unfold swN; rw [if_neg (by omega),if_neg (by omega)]]
  rfl
 | a+1,x::l,i+1,h=>by
  rw [swap2,swN_succ,List.getElem?_cons_succ,List.getElem?_cons_succ]
  exact swap2_get a l i (by simpa using h)
theorem swap2_length:∀ (a:Nat) (l:List AOper),(swap2 a l).length=l.length
 | 0,[]=>rfl
 | 0,[x]=>rfl
 | 0,x::y::l=>rfl
 | a+1,[]=>rfl
 | a+1,x::l=>by rw [swap2,List.length_cons,List.length_cons,swap2_length a l]
theorem swN_swN (a j:Nat):swN a (swN a j)=j:=by
 unfold swN
 by_cases h:j=a
 ·subst h; simp
 ·by_cases h2:j=a+1
  ·subst h2; simp
  ·rw [if_neg h,if_neg h2,if_neg h,if_neg h2]
theorem swN_lt (a j n:Nat) (h:a+1 < n):swN a j < n↔j < n:=by
 unfold swN
 split
 ·omega
 ·split <;> omega
section
variable {P:Program} {G:World→Prop}
theorem guardP_and {ts:Ts} {g:Option (Nat×Bool)} {p p' q q':Prop} (h:guardP ts g p q) (h':guardP ts g p' q'):guardP ts g (p∧p') (q∧q'):=by
 cases g with
 | none=>exact ⟨h,h'⟩
 | some g =>
  obtain ⟨t,b⟩:=g
  simp only [guardP] at h h' ⊢
  revert h h'
  generalize ts t=v
  intro h h'
  cases v with
  | bool c=>exact ⟨fun e=>⟨h.1 e,h'.1 e⟩,fun e=>⟨h.2 e,h'.2 e⟩⟩
  | tup l=>cases l with
   | nil=>exact ⟨h,h'⟩
   | cons=>exact h.elim
  | _=>exact h.elim
theorem aopP_and {ev:Opd→A} {h:Hp} {K K':A→Hp→Prop} {o:AOp} (hc:o.isCall=false) (p:aopP P G ev h K o) (p':aopP P G ev h K' o):aopP P G ev h (fun v h'=>K v h'∧K' v h') o:=by
 cases o with
 | call=>simp [AOp.isCall] at hc
 | callv=>simp [AOp.isCall] at hc
 | _ =>
  simp only [aopP] at p p' ⊢
  revert p p'
  generalize astep ev h _=r
  intro p p'
  cases r with
  | none=>exact p
  | some r=>exact ⟨p,p'⟩
theorem adraw_two {ops:List AOper} {K:Ts→Hp→Prop} {ts:Ts} {h:Hp} (a:Nat) (ha:a+1 < ops.length) (hn:callsB a ops=true)
  (h1:adraw P G (edgeA (a+1) a ops) K ts h) (h2:adraw P G (edgeA (a+1) a (swapA a ops)) K ts h):adraw P G ops K ts h:=by
 obtain ⟨I1,p1,q1,r1⟩:=h1
 obtain ⟨I2,p2,q2,r2⟩:=h2
 have len2:(edgeA (a+1) a (swapA a ops)).length=ops.length:=by rw [edgeA_length]; unfold swapA; rw [List.length_map,swap2_length]
 have g1:∀ i,(edgeA (a+1) a ops)[i]?=(ops[i]?).map fun o=>if i=a+1 then ⟨o.dst,o.op,o.guard,a::o.after⟩ else o:=edgeA_get _ _ _
 have g2:∀ i,(edgeA (a+1) a (swapA a ops))[swN a i]?=(ops[i]?).map fun o=>if swN a i=a+1 then ⟨o.dst,o.op,o.guard,a::o.after.map (swN a)⟩ else ⟨o.dst,o.op,o.guard,o.after.map (swN a)⟩:=fun i=>by
  rw [edgeA_get]
  unfold swapA
  rw [List.getElem?_map,swap2_get a ops i ha,Option.map_map]
  rfl
 have s0:swN a a=a+1:=by simp [swN]
 have s1:swN a (a+1)=a:=by simp [swN]
 have st1:∀ D i o ts h,I1 D ts h→ops[i]?=some o→D i=false→Closed ops D→(∀ j∈o.after,D j=true)→(D (a+1)=true→D a=true)→(i=a+1→D a=true) →
   guardP ts o.guard (aopP P G (evX ts) h (fun v h'=>I1 (fun j=>j == i||D j) (put ts o.dst v) h') o.op) (I1 (fun j=>j == i||D j) (put ts o.dst (.tup [])) h):=by
  intro D i o ts h hI hi hDi hcl haf hba hia
  have hg:=g1 i
  rw [hi,Option.map_some] at hg
  have:=q1 D i _ ts h hI hg hDi (fun j oj hj hDj k hk=>by
   rw [g1 j] at hj
   obtain ⟨o3,m1,rfl⟩:=Option.map_eq_some_iff.1 hj
   by_cases e:j=a+1
   ·rw [if_pos e] at hk
    rcases List.mem_cons.1 hk with rfl | hk
    ·exact hba (e ▸ hDj)
    ·exact hcl j o3 m1 hDj k hk
   ·rw [if_neg e] at hk
    exact hcl j o3 m1 hDj k hk) (fun j hj=>by
   by_cases e:i=a+1
   ·rw [if_pos e] at hj
    rcases List.mem_cons.1 hj with rfl | hj
    ·exact hia e
    ·exact haf j hj
   ·rw [if_neg e] at hj
    exact haf j hj)
  by_cases e:i=a+1
  ·rw [if_pos e] at this; exact this
  ·rw [if_neg e] at this; exact this
 have hcomp:∀ (D:Nat→Bool) i,(fun j=>j == swN a i||D (swN a j))=fun j=>(fun j=>j == i||D j) (swN a j):=fun D i=>by
  funext j
  show (j == swN a i||D (swN a j))=(swN a j == i||D (swN a j))
  congr 1
  by_cases e:j=swN a i
  ·subst e; rw [swN_swN]; simp
  ·have e2:swN a j≠i:=fun e2=>e (by rw [←e2,swN_swN])
   rw [beq_eq_false_iff_ne.2 e,beq_eq_false_iff_ne.2 e2]
 have st2:∀ (D:Nat→Bool) i o ts h,I2 (fun j=>D (swN a j)) ts h→ops[i]?=some o→D i=false→Closed ops D→(∀ j∈o.after,D j=true)→(D a=true→D (a+1)=true)→(i=a→D (a+1)=true) →
   guardP ts o.guard (aopP P G (evX ts) h (fun v h'=>I2 (fun j=>(fun j=>j == i||D j) (swN a j)) (put ts o.dst v) h') o.op) (I2 (fun j=>(fun j=>j == i||D j) (swN a j)) (put ts o.dst (.tup [])) h):=by
  intro D i o ts h hI hi hDi hcl haf hba hia
  have hg:=g2 i
  rw [hi,Option.map_some] at hg
  have:=q2 (fun j=>D (swN a j)) (swN a i) _ ts h hI hg (by show D (swN a (swN a i))=false; rw [swN_swN]; exact hDi) (fun j oj hj hDj k hk=>by
   have hj':=g2 (swN a j)
   rw [swN_swN] at hj'
   rw [hj'] at hj
   obtain ⟨o3,m1,rfl⟩:=Option.map_eq_some_iff.1 hj
   by_cases e:j=a+1
   ·rw [if_pos e] at hk
    rcases List.mem_cons.1 hk with rfl | hk
    ·show D (swN k k)=true
     rw [s0]
     exact hba (by have h9:D (swN k j)=true:=hDj; rw [e,s1] at h9; exact h9)
    ·obtain ⟨k0,hk0,rfl⟩:=List.mem_map.1 hk
     show D (swN a (swN a k0))=true
     rw [swN_swN]
     exact hcl _ o3 m1 hDj k0 hk0
   ·rw [if_neg e] at hk
    obtain ⟨k0,hk0,rfl⟩:=List.mem_map.1 hk
    show D (swN a (swN a k0))=true
    rw [swN_swN]
    exact hcl _ o3 m1 hDj k0 hk0) (fun j hj=>by
   by_cases e:swN a i=a+1
   ·have hi':i=a:=by rw [←swN_swN a i,e,s1]
    rw [if_pos e] at hj
    rcases List.mem_cons.1 hj with rfl | hj
    ·show D (swN j j)=true
     rw [s0]; exact hia hi'
    ·obtain ⟨k0,hk0,rfl⟩:=List.mem_map.1 hj
     show D (swN a (swN a k0))=true
     rw [swN_swN]
     exact haf k0 hk0
   ·rw [if_neg e] at hj
    obtain ⟨k0,hk0,rfl⟩:=List.mem_map.1 hj
    show D (swN a (swN a k0))=true
    rw [swN_swN]
    exact haf k0 hk0)
  rw [hcomp] at this
  by_cases e:swN a i=a+1
  ·rw [if_pos e] at this; exact this
  ·rw [if_neg e] at this; exact this
 refine ⟨fun D ts h=>(D a=true∧I1 D ts h)∨(D (a+1)=true∧I2 (fun j=>D (swN a j)) ts h)∨(D a=false∧D (a+1)=false∧I1 D ts h∧I2 (fun j=>D (swN a j)) ts h),.inr (.inr ⟨rfl,rfl,p1,p2⟩),?_,?_⟩
 ·intro D i o ts h hI hi hDi hcl haf
  have left:D a=true∨i=a→I1 D ts h→(D (a+1)=true→D a=true)→guardP ts o.guard (aopP P G (evX ts) h (fun v h'=>((fun j=>j == i||D j) a=true∧I1 (fun j=>j == i||D j) (put ts o.dst v) h')∨((fun j=>j == i||D j) (a+1)=true∧I2 (fun j=>(fun j=>j == i||D j) (swN a j)) (put ts o.dst v) h')∨((fun j=>j == i||D j) a=false∧(fun j=>j == i||D j) (a+1)=false∧I1 (fun j=>j == i||D j) (put ts o.dst v) h'∧I2 (fun j=>(fun j=>j == i||D j) (swN a j)) (put ts o.dst v) h')) o.op)
    (((fun j=>j == i||D j) a=true∧I1 (fun j=>j == i||D j) (put ts o.dst (.tup [])) h)∨((fun j=>j == i||D j) (a+1)=true∧I2 (fun j=>(fun j=>j == i||D j) (swN a j)) (put ts o.dst (.tup [])) h)∨((fun j=>j == i||D j) a=false∧(fun j=>j == i||D j) (a+1)=false∧I1 (fun j=>j == i||D j) (put ts o.dst (.tup [])) h∧I2 (fun j=>(fun j=>j == i||D j) (swN a j)) (put ts o.dst (.tup [])) h)):=by
   intro hl hI1 hba
   have hD':(fun j=>j == i||D j) a=true:=by
    rcases hl with e | e
    ·show (a == i||D a)=true; rw [e]; simp
    ·subst e; simp
   refine guardP_mono (fun hq=>aopP_mono (fun v h' hv => .inl ⟨hD',hv⟩) hq) (fun hv => .inl ⟨hD',hv⟩) (st1 D i o ts h hI1 hi hDi hcl haf hba fun e=>?_)
   rcases hl with e2 | e2
   ·exact e2
   ·omega
  have right:D (a+1)=true∨i=a+1→I2 (fun j=>D (swN a j)) ts h→(D a=true→D (a+1)=true)→guardP ts o.guard (aopP P G (evX ts) h (fun v h'=>((fun j=>j == i||D j) a=true∧I1 (fun j=>j == i||D j) (put ts o.dst v) h')∨((fun j=>j == i||D j) (a+1)=true∧I2 (fun j=>(fun j=>j == i||D j) (swN a j)) (put ts o.dst v) h')∨((fun j=>j == i||D j) a=false∧(fun j=>j == i||D j) (a+1)=false∧I1 (fun j=>j == i||D j) (put ts o.dst v) h'∧I2 (fun j=>(fun j=>j == i||D j) (swN a j)) (put ts o.dst v) h')) o.op)
    (((fun j=>j == i||D j) a=true∧I1 (fun j=>j == i||D j) (put ts o.dst (.tup [])) h)∨((fun j=>j == i||D j) (a+1)=true∧I2 (fun j=>(fun j=>j == i||D j) (swN a j)) (put ts o.dst (.tup [])) h)∨((fun j=>j == i||D j) a=false∧(fun j=>j == i||D j) (a+1)=false∧I1 (fun j=>j == i||D j) (put ts o.dst (.tup [])) h∧I2 (fun j=>(fun j=>j == i||D j) (swN a j)) (put ts o.dst (.tup [])) h)):=by
   intro hl hI2 hba
   have hD':(fun j=>j == i||D j) (a+1)=true:=by
    rcases hl with e | e
    ·show (a+1 == i||D (a+1))=true; rw [e]; simp
    ·subst e; simp
   refine guardP_mono (fun hq=>aopP_mono (fun v h' hv => .inr (.inl ⟨hD',hv⟩)) hq) (fun hv => .inr (.inl ⟨hD',hv⟩)) (st2 D i o ts h hI2 hi hDi hcl haf hba fun e=>?_)
   rcases hl with e2 | e2
   ·exact e2
   ·omega
  rcases hI with ⟨e,hI⟩ | ⟨e,hI⟩ | ⟨e1,e2,hI1,hI2⟩
  ·exact left (.inl e) hI fun _=>e
  ·exact right (.inl e) hI fun _=>e
  ·by_cases ei:i=a
   ·exact left (.inr ei) hI1 fun c=>by rw [e2] at c; cases c
   by_cases ei2:i=a+1
   ·exact right (.inr ei2) hI2 fun c=>by rw [e1] at c; cases c
   have k1:=st1 D i o ts h hI1 hi hDi hcl haf (fun c=>by rw [e2] at c; cases c) (fun c=>absurd c ei2)
   have k2:=st2 D i o ts h hI2 hi hDi hcl haf (fun c=>by rw [e1] at c; cases c) (fun c=>absurd c ei)
   have hcall:o.op.isCall=false:=by
    have h5:=List.all_eq_true.1 hn o (List.mem_of_getElem? hi)
    rw [Bool.or_eq_true,Bool.or_eq_true] at h5
    rcases h5 with (h5 | h5) | h5
    ·simpa using h5
    ·rw [haf a (by simpa using h5)] at e1; cases e1
    ·rw [haf (a+1) (by simpa using h5)] at e2; cases e2
   have d1:(fun j=>j == i||D j) a=false:=by
    show (a == i||D a)=false
    rw [e1]; simp; omega
   have d2:(fun j=>j == i||D j) (a+1)=false:=by
    show (a+1 == i||D (a+1))=false
    rw [e2]; simp; omega
   exact guardP_mono (fun hq=>aopP_mono (fun v h' hv => .inr (.inr ⟨d1,d2,hv.1,hv.2⟩)) (aopP_and hcall hq.1 hq.2)) (fun hv => .inr (.inr ⟨d1,d2,hv.1,hv.2⟩)) (guardP_and k1 k2)
 ·intro ts h hI
  have hA:decide (a < ops.length)=true:=by simp; omega
  rcases hI with ⟨_,hI⟩ | ⟨_,hI⟩ | ⟨e,_⟩
  ·exact r1 ts h (by rw [edgeA_length]; exact hI)
  ·refine r2 ts h ?_
   rw [len2]
   have:(fun j=>decide (swN a j < ops.length))=fun j=>decide (j < ops.length):=by
    funext j
    rw [decide_eq_decide]
    exact swN_lt a j _ ha
   rw [←this]
   exact hI
  ·have e:decide (a < ops.length)=false:=e
   rw [hA] at e; cases e
theorem awp_two {ops:List AOper} {Q:AExit→Ts→Hp→Prop} {ts:Ts} {h:Hp} (a:Nat) (hb:(edgesB 0 ops&&decide (a+1 < ops.length)&&callsB a ops)=true)
  (h1:awp P G (.reg true (edgeA (a+1) a ops)) Q ts h) (h2:awp P G (.reg true (edgeA (a+1) a (swapA a ops))) Q ts h):awp P G (.reg true ops) Q ts h:=by
 simp only [Bool.and_eq_true,decide_eq_true_eq] at hb
 exact ⟨hb.1.1,adraw_two a hb.1.2 hb.2 h1.2 h2.2⟩
end
end AX
end Go.Proofs.YtahmpiioegemaaaGreatDoor
