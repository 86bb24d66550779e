/- Part of what the proof needs. -/
import Derived.Test.YtnjkemakcejceaaGreatDoorMFrStoreVersionsUptoD
import Derived.Test.YtnjkemakcejceaaGreatDoorMFrStoreVersionsUptoH
import Derived.Test.YtnjkemakcejceaaGreatDoorMFrStoreVersionsUptoL
import Derived.Test.YtnjkemakcejceaaGreatDoorMFrStoreVersionsUptoN
import Derived.Test.YtnjkemakcejceaaGreatDoorMFrStoreVersionsUptoP
import Derived.Maps.RangeRun
set_option linter.unusedSimpArgs false
set_option linter.unusedVariables false
set_option linter.unnecessarySimpa false
namespace Go.Proofs.YtnjkemakcejceaaGreatDoor
namespace Sf
theorem fails_iff (s : Rs) : s.fails = false ↔ s.bad = false ∧ s.r.e = 0:=by
 unfold Rs.fails
 rw [Bool.or_eq_false_iff,bne_eq_false_iff_eq]
def Took (s s' : Rs) (l : List UInt8) : Prop:=s.fails = false ∧ s.r.rest = l ++ s'.r.rest
theorem Took.trans {a b c : Rs} {l m : List UInt8} (h : Took a b l) (k : Took b c m) : Took a c (l ++ m):=⟨h.1,by rw [h.2,k.2,List.append_assoc]⟩
theorem num_took {s : Rs} (h : (numS s).1.fails = false) : Took s (numS s).1 (Wire.num (numS s).2):=by
 obtain ⟨h1,h2⟩:=(fails_iff _).1 h
 obtain ⟨q1,q2⟩:=Wire.numR_back h2
 exact ⟨(fails_iff _).2 ⟨h1,q1⟩,q2⟩
theorem str_took {s : Rs} (h : (strS s).1.fails = false) : Took s (strS s).1 (Wire.strE (strS s).2):=by
 obtain ⟨h1,h2⟩:=(fails_iff _).1 h
 obtain ⟨q1,q2⟩:=Wire.strR_back h2
 exact ⟨(fails_iff _).2 ⟨h1,q1⟩,q2⟩
theorem cnt_took {s : Rs} (h : (cntS s).1.fails = false) : Took s (cntS s).1 (Wire.num ((cntS s).2 : Nat)):=by
 obtain ⟨h1,h2⟩:=(fails_iff _).1 h
 obtain ⟨q1,q2⟩:=Wire.cntR_back h2
 exact ⟨(fails_iff _).2 ⟨h1,q1⟩,q2⟩
theorem flag_took {s : Rs} (h : (flagS s).1.fails = false) : Took s (flagS s).1 (flagE (flagS s).2):=by
 obtain ⟨h1,h2⟩:=(fails_iff _).1 h
 obtain ⟨q1,q2⟩:=Wire.numR_back h2
 have h1' : (s.bad || ((Wire.numR s.r).2 != 0 && (Wire.numR s.r).2 != 1)) = false:=h1
 rw [Bool.or_eq_false_iff] at h1'
 refine ⟨(fails_iff _).2 ⟨h1'.1,q1⟩,?_⟩
 have e : flagE (flagS s).2 = Wire.num (Wire.numR s.r).2:=by
  show Wire.num (if ((Wire.numR s.r).2 == 1) = true then 1 else 0) = _
  have h3:=h1'.2
  rw [Bool.and_eq_false_iff,bne_eq_false_iff_eq,bne_eq_false_iff_eq] at h3
  rcases h3 with h3 | h3 <;> rw [h3] <;> rfl
 rw [e]
 exact q2
theorem value_took {s : Rs} (h : (valueS s).1.fails = false) : Took s (valueS s).1 (Val.enc (valueS s).2):=by
 obtain ⟨h1,h2⟩:=(fails_iff _).1 h
 have h1' : (s.bad || (Val.readValue s.r).2.1 != 0) = false:=h1
 rw [Bool.or_eq_false_iff,bne_eq_false_iff_eq] at h1'
 obtain ⟨q1,q2,q3⟩:=Val.readValue_back h1'.2
 exact ⟨(fails_iff _).2 ⟨h1'.1,q1⟩,q3⟩
theorem words_took : ∀ (c : Nat) (s : Rs) (l : List (List UInt8)),(wordsS c s l).1.fails = false → ∃ l',(wordsS c s l).2 = l ++ l' ∧ l'.length = c ∧ Took s (wordsS c s l).1 (wordsE l')
 | 0,s,l,h => ⟨[],by simp [wordsS],rfl,h,rfl⟩
 | c + 1,s,l,h => by
  unfold wordsS at h ⊢
  obtain ⟨l',h1,h2,h3⟩:=words_took c _ _ h
  exact ⟨(strS s).2 :: l',by rw [h1]; simp,by simp [h2],(str_took h3.1).trans h3⟩
theorem inst_took {ver : Int} {s : Rs} (h : (instS ver s).1.fails = false) : Took s (instS ver s).1 (instE ver (instS ver s).2):=by
 unfold instS at h ⊢
 dsimp only at h ⊢
 obtain ⟨ws,w1,w2,w3⟩:=words_took _ _ _ h
 have k:=cnt_took w3.1
 have f : Took (flagS (numS (valueS (strS (strS (strS (strS s).1).1).1).1).1).1).1 (if ver = 2 then flagS (flagS (numS (valueS (strS (strS (strS (strS s).1).1).1).1).1).1).1 else ((flagS (numS (valueS (strS (strS (strS (strS s).1).1).1).1).1).1).1,false)).1 (if ver = 2 then flagE (if ver = 2 then flagS (flagS (numS (valueS (strS (strS (strS (strS s).1).1).1).1).1).1).1 else ((flagS (numS (valueS (strS (strS (strS (strS s).1).1).1).1).1).1).1,false)).2 else []):=by
  have:=k.1
  by_cases hv : ver = 2
  ·simp only [if_pos hv] at this ⊢
   exact flag_took this
  ·simp only [if_neg hv] at this ⊢
   exact ⟨this,rfl⟩
 have t:=flag_took f.1
 have n:=num_took t.1
 have v:=value_took n.1
 have d:=str_took v.1
 have c:=str_took d.1
 have b:=str_took c.1
 have a:=str_took b.1
 have all:=((((((((a.trans b).trans c).trans d).trans v).trans n).trans t).trans f).trans k).trans w3
 unfold instE
 dsimp only
 rw [List.nil_append] at w1
 rw [w1,w2]
 exact all
theorem pend_took {s : Rs} (h : (pendS s).1.fails = false) : Took s (pendS s).1 (pendE (pendS s).2):=by
 unfold pendS at h ⊢
 dsimp only at h ⊢
 have c:=str_took h
 have b:=str_took c.1
 have a:=str_took b.1
 exact (a.trans b).trans c
theorem out_took {s : Rs} (h : (outS s).1.fails = false) : Took s (outS s).1 (outE (outS s).2):=by
 unfold outS at h ⊢
 dsimp only at h ⊢
 have c:=flag_took h
 have b:=value_took c.1
 have a:=str_took b.1
 exact (a.trans b).trans c
theorem insts_took {ver : Int} : ∀ (c : Nat) (s : Rs) (l : List Inst),(instsS ver c s l).1.fails = false → ∃ l',(instsS ver c s l).2 = (l ++ l',true) ∧ l'.length = c ∧ Took s (instsS ver c s l).1 (l'.flatMap (instE ver))
 | 0,s,l,h => ⟨[],by simp [instsS],rfl,h,rfl⟩
 | c + 1,s,l,h => by
  unfold instsS at h ⊢
  by_cases hf : s.fails = true
  ·rw [if_pos hf] at h
   rw [hf] at h; cases h
  ·rw [if_neg hf] at h ⊢
   obtain ⟨l',h1,h2,h3⟩:=insts_took c _ _ h
   exact ⟨(instS ver s).2 :: l',by rw [h1]; simp,by simp [h2],by rw [List.flatMap_cons]; exact (inst_took h3.1).trans h3⟩
theorem pends_took : ∀ (c : Nat) (s : Rs) (l : List Pend),(pendsS c s l).1.fails = false → ∃ l',(pendsS c s l).2 = l ++ l' ∧ l'.length = c ∧ Took s (pendsS c s l).1 (l'.flatMap pendE)
 | 0,s,l,h => ⟨[],by simp [pendsS],rfl,h,rfl⟩
 | c + 1,s,l,h => by
  unfold pendsS at h ⊢
  obtain ⟨l',h1,h2,h3⟩:=pends_took c _ _ h
  exact ⟨(pendS s).2 :: l',by rw [h1]; simp,by simp [h2],by rw [List.flatMap_cons]; exact (pend_took h3.1).trans h3⟩
theorem outs_took : ∀ (c : Nat) (s : Rs) (l : List Outp),(outsS c s l).1.fails = false → ∃ l',(outsS c s l).2 = (l ++ l',true) ∧ l'.length = c ∧ Took s (outsS c s l).1 (l'.flatMap outE)
 | 0,s,l,h => ⟨[],by simp [outsS],rfl,h,rfl⟩
 | c + 1,s,l,h => by
  unfold outsS at h ⊢
  by_cases hf : s.fails = true
  ·rw [if_pos hf] at h
   rw [hf] at h; cases h
  ·rw [if_neg hf] at h ⊢
   obtain ⟨l',h1,h2,h3⟩:=outs_took c _ _ h
   exact ⟨(outS s).2 :: l',by rw [h1]; simp,by simp [h2],by rw [List.flatMap_cons]; exact (out_took h3.1).trans h3⟩
def restE (ver : Int) (s : St) : List UInt8:=
 Wire.strE s.lin ++ Wire.num s.ser ++ Wire.num s.insts.length ++ s.insts.flatMap (instE ver) ++ (if ver = 2 then Wire.num s.pends.length ++ s.pends.flatMap pendE else []) ++ Wire.num s.outs.length ++ s.outs.flatMap outE
theorem stE_rest (ver : Int) (s : St) : stE ver s = magic ++ Wire.num ver ++ restE ver s:=by
 unfold stE restE
 simp only [List.append_assoc]
theorem state_took {ver : Int} {s : Rs} (h : (stateS ver s).1.fails = false) : Took s (stateS ver s).1 (restE ver (stateS ver s).2):=by
 unfold stateS at h ⊢
 dsimp only at h ⊢
 obtain ⟨A,hA⟩ : ∃ A,strS s = A:=⟨_,rfl⟩
 obtain ⟨N,hN⟩ : ∃ N,numS A.1 = N:=⟨_,rfl⟩
 obtain ⟨CI,hCI⟩ : ∃ C,cntS N.1 = C:=⟨_,rfl⟩
 obtain ⟨I,hI⟩ : ∃ I,instsS ver CI.2 CI.1 [] = I:=⟨_,rfl⟩
 rw [hA,hN,hCI,hI] at h ⊢
 have front : I.1.fails = false → I.2.2 = true ∧ Took s I.1 (Wire.strE A.2 ++ Wire.num N.2 ++ Wire.num I.2.1.length ++ I.2.1.flatMap (instE ver)):=fun hi => by
  obtain ⟨is,i1,i2,i3⟩:=insts_took CI.2 CI.1 [] (by rw [hI]; exact hi)
  rw [hI,List.nil_append] at i1
  rw [hI] at i3
  have c:=cnt_took (s:=N.1) (by rw [hCI]; exact i3.1)
  have n:=num_took (s:=A.1) (by rw [hN]; exact c.1)
  have a:=str_took (s:=s) (by rw [hA]; exact n.1)
  rw [hCI] at c; rw [hN] at n; rw [hA] at a
  rw [i1]
  refine ⟨rfl,?_⟩
  dsimp only
  rw [i2]
  exact ((a.trans n).trans c).trans i3
 cases hb : I.2.2
 ·rw [hb,if_pos rfl] at h
  have:=(front h).1
  rw [hb] at this; cases this
 ·rw [hb,if_neg (by decide)] at h
  rw [if_neg (by decide)]
  dsimp only at h ⊢
  obtain ⟨P,hP⟩ : ∃ P,(if ver = 2 then pendsS (cntS I.1).2 (cntS I.1).1 [] else (I.1,[])) = P:=⟨_,rfl⟩
  rw [hP] at h ⊢
  obtain ⟨os,o1,o2,o3⟩:=outs_took _ _ _ h
  rw [List.nil_append] at o1
  have c:=cnt_took (s:=P.1) o3.1
  have mid : Took I.1 P.1 (if ver = 2 then Wire.num P.2.length ++ P.2.flatMap pendE else []):=by
   by_cases hv : ver = 2
   ·rw [if_pos hv] at hP ⊢
    obtain ⟨ps,p1,p2,p3⟩:=pends_took (cntS I.1).2 (cntS I.1).1 [] (by rw [hP]; exact c.1)
    rw [hP,List.nil_append] at p1
    rw [hP] at p3
    rw [p1,p2]
    exact (cnt_took p3.1).trans p3
   ·rw [if_neg hv] at hP ⊢
    subst hP
    exact ⟨c.1,rfl⟩
  obtain ⟨_,fr⟩:=front mid.1
  have all:=((fr.trans mid).trans c).trans o3
  unfold restE
  dsimp only
  rw [o1]
  dsimp only
  rw [o2]
  exact all
end Sf
end Go.Proofs.YtnjkemakcejceaaGreatDoor

namespace Go.Proofs.YtnjkemakcejceaaGreatDoor
open Go.RowKit
namespace Sf
theorem strS_len (s : Rs) : (strS s).2.length ≤ s.r.rest.length:=by
 unfold strS Wire.strR
 dsimp only
 split
 ·exact Nat.zero_le _
 ·dsimp only
  rw [List.length_take]
  have:=Wire.cntR_rest s.r 1
  omega
theorem words_in (N : Nat) : ∀ (c : Nat) (s : Rs) (l : List (List UInt8)),s.r.rest.length ≤ N → (∀ x ∈ l,x.length ≤ N) → (∀ x ∈ (wordsS c s l).2,x.length ≤ N) ∧ (wordsS c s l).2.length = l.length + c
 | 0,s,l,hs,hl => ⟨hl,rfl⟩
 | c + 1,s,l,hs,hl => by
  unfold wordsS
  obtain ⟨h1,h2⟩:=words_in N c (strS s).1 (l ++ [(strS s).2]) (Nat.le_trans (strS_le s) hs) (fun x hx => by
   rcases List.mem_append.1 hx with hx | hx
   ·exact hl x hx
   ·rw [List.mem_singleton.1 hx]; exact Nat.le_trans (strS_len s) hs)
  refine ⟨h1,?_⟩
  rw [h2,List.length_append,List.length_singleton]; omega
theorem value_lens (s : Rs) (hs : s.r.rest.length ≤ 100000000) : (valueS s).2.lens:=AX.readValue_lens s.r hs
theorem inst_in (ver : Int) (s : Rs) (hs : s.r.rest.length ≤ 2000000) : AX.Sf.InstIn (instS ver s).2:=by
 have e1:=strS_le s
 have e2:=strS_le (strS s).1
 have e3:=strS_le (strS (strS s).1).1
 have e4:=strS_le (strS (strS (strS s).1).1).1
 have e5:=valueS_le (strS (strS (strS (strS s).1).1).1).1
 have e6:=numS_le (valueS (strS (strS (strS (strS s).1).1).1).1).1
 have e7:=flagS_le (numS (valueS (strS (strS (strS (strS s).1).1).1).1).1).1
 have l1:=strS_len s
 have l2:=strS_len (strS s).1
 have l3:=strS_len (strS (strS s).1).1
 have v:=value_lens (strS (strS (strS (strS s).1).1).1).1 (by omega)
 unfold instS
 dsimp only
 generalize hF : (if ver = 2 then flagS (flagS (numS (valueS (strS (strS (strS (strS s).1).1).1).1).1).1).1 else ((flagS (numS (valueS (strS (strS (strS (strS s).1).1).1).1).1).1).1,false)) = F
 have e8 : F.1.r.rest.length ≤ 2000000:=by
  rw [← hF]
  split
  ·have:=flagS_le (flagS (numS (valueS (strS (strS (strS (strS s).1).1).1).1).1).1).1
   omega
  ·dsimp only; omega
 have e9:=cntS_le F.1
 have e10:=cntS_cnt F.1
 obtain ⟨w1,w2⟩:=words_in 2000000 (cntS F.1).2 (cntS F.1).1 [] (by omega) (by simp)
 refine ⟨by dsimp only; omega,by dsimp only; omega,by dsimp only; omega,v,?_,w1⟩
 show (wordsS (cntS F.1).2 (cntS F.1).1 []).2.length ≤ 1000000000
 rw [w2,List.length_nil]; omega
theorem insts_in (ver : Int) : ∀ (c : Nat) (s : Rs) (l : List Inst),s.r.rest.length ≤ 2000000 → (∀ x ∈ l,AX.Sf.InstIn x) → (∀ x ∈ (instsS ver c s l).2.1,AX.Sf.InstIn x) ∧ (instsS ver c s l).2.1.length ≤ l.length + c ∧ (instsS ver c s l).1.r.rest.length ≤ s.r.rest.length
 | 0,s,l,hs,hl => ⟨hl,Nat.le_refl _,Nat.le_refl _⟩
 | c + 1,s,l,hs,hl => by
  unfold instsS
  split
  ·exact ⟨hl,by dsimp only; omega,Nat.le_refl _⟩
  ·have h0:=instS_le ver s
   obtain ⟨h1,h2,h3⟩:=insts_in ver c (instS ver s).1 (l ++ [(instS ver s).2]) (by omega) (fun x hx => by
    rcases List.mem_append.1 hx with hx | hx
    ·exact hl x hx
    ·rw [List.mem_singleton.1 hx]; exact inst_in ver s hs)
   refine ⟨h1,?_,Nat.le_trans h3 h0⟩
   rw [List.length_append,List.length_singleton] at h2; omega
theorem pendS_le (s : Rs) : (pendS s).1.r.rest.length ≤ s.r.rest.length:=Nat.le_trans (strS_le _) (Nat.le_trans (strS_le _) (strS_le _))
theorem pends_in : ∀ (c : Nat) (s : Rs) (l : List Pend),s.r.rest.length ≤ 2000000 → (∀ x ∈ l,x.addr.length ≤ 2000000 ∧ x.tok.length ≤ 2000000) → (∀ x ∈ (pendsS c s l).2,x.addr.length ≤ 2000000 ∧ x.tok.length ≤ 2000000) ∧ (pendsS c s l).2.length = l.length + c ∧ (pendsS c s l).1.r.rest.length ≤ s.r.rest.length
 | 0,s,l,hs,hl => ⟨hl,rfl,Nat.le_refl _⟩
 | c + 1,s,l,hs,hl => by
  unfold pendsS
  have h0:=pendS_le s
  have k1:=strS_len s
  have k2:=strS_len (strS (strS s).1).1
  have k3:=strS_le s
  have k4:=strS_le (strS s).1
  obtain ⟨h1,h2,h3⟩:=pends_in c (pendS s).1 (l ++ [(pendS s).2]) (by omega) (fun x hx => by
   rcases List.mem_append.1 hx with hx | hx
   ·exact hl x hx
   ·rw [List.mem_singleton.1 hx]
    unfold pendS
    dsimp only
    exact ⟨by omega,by omega⟩)
  refine ⟨h1,?_,Nat.le_trans h3 h0⟩
  rw [h2,List.length_append,List.length_singleton]; omega
theorem outS_le (s : Rs) : (outS s).1.r.rest.length ≤ s.r.rest.length:=Nat.le_trans (flagS_le _) (Nat.le_trans (valueS_le _) (strS_le _))
theorem outs_in : ∀ (c : Nat) (s : Rs) (l : List Outp),s.r.rest.length ≤ 2000000 → (∀ x ∈ l,x.name.length ≤ 2000000 ∧ x.value.lens) → (∀ x ∈ (outsS c s l).2.1,x.name.length ≤ 2000000 ∧ x.value.lens) ∧ (outsS c s l).2.1.length ≤ l.length + c
 | 0,s,l,hs,hl => ⟨hl,Nat.le_refl _⟩
 | c + 1,s,l,hs,hl => by
  unfold outsS
  split
  ·exact ⟨hl,by dsimp only; omega⟩
  ·have h0:=outS_le s
   have k1:=strS_len s
   have k3:=strS_le s
   obtain ⟨h1,h2⟩:=outs_in c (outS s).1 (l ++ [(outS s).2]) (by omega) (fun x hx => by
    rcases List.mem_append.1 hx with hx | hx
    ·exact hl x hx
    ·rw [List.mem_singleton.1 hx]
     unfold outS
     dsimp only
     exact ⟨by omega,value_lens _ (by omega)⟩)
   refine ⟨h1,?_⟩
   rw [List.length_append,List.length_singleton] at h2; omega
theorem state_in (ver : Int) (s : Rs) (hs : s.r.rest.length ≤ 2000000) : AX.Sf.StIn (stateS ver s).2:=by
 have e1:=strS_le s
 have e2:=numS_le (strS s).1
 have e3:=cntS_le (numS (strS s).1).1
 have e4:=cntS_cnt (numS (strS s).1).1
 have l1:=strS_len s
 obtain ⟨i1,i2,i3⟩:=insts_in ver (cntS (numS (strS s).1).1).2 (cntS (numS (strS s).1).1).1 [] (by omega) (by simp)
 unfold stateS
 dsimp only
 generalize instsS ver (cntS (numS (strS s).1).1).2 (cntS (numS (strS s).1).1).1 [] = I at i1 i2 i3
 rw [List.length_nil] at i2
 split
 ·exact ⟨by dsimp only; omega,i1,by simp,by simp,by dsimp only; omega,by simp,by simp⟩
 ·have hP : ∃ P : Rs × List Pend,(if ver = 2 then pendsS (cntS I.1).2 (cntS I.1).1 [] else (I.1,[])) = P ∧ P.1.r.rest.length ≤ 2000000 ∧ (∀ x ∈ P.2,x.addr.length ≤ 2000000 ∧ x.tok.length ≤ 2000000) ∧ P.2.length ≤ 2000000:=by
   have c1:=cntS_le I.1
   have c2:=cntS_cnt I.1
   by_cases hv : ver = 2
   ·rw [if_pos hv]
    obtain ⟨p1,p2,p3⟩:=pends_in (cntS I.1).2 (cntS I.1).1 [] (by omega) (by simp)
    exact ⟨_,rfl,by omega,p1,by rw [p2,List.length_nil]; omega⟩
   ·rw [if_neg hv]
    exact ⟨_,rfl,by dsimp only; omega,by simp,by simp⟩
  obtain ⟨P,hP,p1,p2,p3⟩:=hP
  rw [hP]
  have c1:=cntS_le P.1
  have c2:=cntS_cnt P.1
  obtain ⟨o1,o2⟩:=outs_in (cntS P.1).2 (cntS P.1).1 [] (by omega) (by simp)
  rw [List.length_nil] at o2
  exact ⟨by dsimp only; omega,i1,p2,o1,by dsimp only; omega,by dsimp only; omega,by dsimp only; omega⟩
theorem insts_zero : ∀ (l : List Inst) (p : Option Inst),instsZ p l = 0 → ∀ x ∈ l,instZ x = 0
 | [],_,_ => by simp
 | x :: l,p,h => by
  unfold instsZ at h
  by_cases h1 : instZ x = 0
  rotate_left
  ·rw [if_pos h1] at h; exact absurd h h1
  ·rw [if_neg (by simp [h1])] at h
   have h' : instsZ (some x) l = 0:=by
    cases p with
    | none => simpa using h
    | some y =>
     dsimp only at h
     cases hb : behind y x
     ·simp [hb] at h
     ·simpa [hb] using h
   ·intro y hy
    rcases List.mem_cons.1 hy with rfl | hy
    ·exact h1
    ·exact insts_zero l _ h' y hy
theorem outs_zero : ∀ (l : List Outp) (p : Option (List UInt8)),outsZ p l = 0 → ∀ x ∈ l,outZ x = 0
 | [],_,_ => by simp
 | x :: l,p,h => by
  unfold outsZ at h
  split at h
  ·next h1 => exact absurd h h1
  ·next h1 =>
   split at h
   ·simp at h
   ·intro y hy
    rcases List.mem_cons.1 hy with rfl | hy
    ·simpa using h1
    ·exact outs_zero l _ h y hy
theorem inst_zero {x : Inst} (h : instZ x = 0) : Val.checkZ x.attrs = 0 ∧ 1 ≤ x.ver ∧ x.ver ≤ 9007199254740992:=by
 unfold instZ at h
 split at h
 ·simp at h
 ·split at h
  ·next h1 => exact absurd h h1
  ·next h1 =>
   split at h
   ·simp at h
   ·split at h
    ·simp at h
    ·split at h
     ·simp at h
     ·next h2 => exact ⟨by simpa using h1,by omega,by omega⟩
theorem out_zero {x : Outp} (h : outZ x = 0) : Val.checkZ x.value = 0:=by
 unfold outZ at h
 split at h
 ·simp at h
 ·split at h
  ·next h1 => exact absurd h h1
  ·next h1 => simpa using h1
theorem check_parts {s : St} (h : checkZ s = 0) : 0 ≤ s.ser ∧ s.ser ≤ 9007199254740992 ∧ s.insts.length ≤ 512 ∧ s.pends.length ≤ 512 ∧ s.outs.length ≤ 512 ∧ instsZ none s.insts = 0 ∧ pendsZ none s.pends = 0 ∧ outsZ none s.outs = 0:=by
 unfold checkZ at h
 split at h
 ·simp at h
 ·split at h
  ·simp at h
  ·split at h
   ·simp at h
   ·split at h
    ·next h1 => exact absurd h h1
    ·split at h
     ·next h1 => exact absurd h h1
     ·next h1 h2 h3 h4 h5 => exact ⟨by omega,by omega,by omega,by omega,by omega,by simpa using h4,by simpa using h5,h⟩
theorem stOk_of {s : St} (h : checkZ s = 0) (hin : AX.Sf.StIn s) : AX.Sf.StOk s:=by
 obtain ⟨h1,h2,h3,h4,h5,h6,h7,h8⟩:=check_parts h
 refine ⟨fun x hx => ?_,fun x hx => ?_,by omega,by omega,by omega,by omega,by omega⟩
 ·obtain ⟨k1,k2,k3⟩:=inst_zero (insts_zero _ _ h6 x hx)
  exact ⟨⟨1,0,k1⟩,(hin.insts x hx).l,by omega,by omega⟩
 ·exact ⟨⟨1,0,out_zero (outs_zero _ _ h8 x hx)⟩,(hin.outs x hx).2⟩
theorem decode_back {b : List UInt8} {st : St} (h : decode b = (st,0)) : ∃ ver,(ver = 1 ∨ ver = 2) ∧ AX.versionS b = (ver,0) ∧ checkZ st = 0 ∧ encode ver st = (b,0) ∧ (stE ver st).length ≤ b.length ∧ (ver = 1 → st.pends = []) ∧ ∃ s : Rs,s.r.rest.length ≤ b.length ∧ st = (stateS ver s).2:=by
 unfold decode at h
 by_cases h1 : 1048576 < b.length
 ·rw [if_pos h1] at h; simp at h
 rw [if_neg h1] at h
 by_cases h2 : AX.preB b = false
 ·rw [if_pos h2] at h; simp at h
 rw [if_neg h2] at h
 by_cases h3 : (Crc.ver b).2 = 0
 rotate_left
 ·rw [if_pos h3] at h; simp at h
 rw [if_neg (by simp [h3])] at h
 obtain ⟨⟨body,e⟩,hb⟩ : ∃ q,Crc.ver b = q:=⟨_,rfl⟩
 rw [hb] at h h3
 dsimp only at h h3
 subst h3
 have happ:=Seal.app_ver b body hb
 by_cases h4 : (AX.versionS body).2 = 0
 rotate_left
 ·rw [if_pos h4] at h
  injection h with _ h
  exact absurd h h4
 rw [if_neg (by simp [h4])] at h
 have h12:=AX.versionS_12 h4
 obtain ⟨⟨ver,e⟩,hv⟩ : ∃ q,AX.versionS body = q:=⟨_,rfl⟩
 rw [hv] at h h4 h12
 dsimp only at h h4 h12
 subst h4
 generalize hr : stateS ver ⟨(Wire.numR ⟨body.drop 4,0⟩).1,false⟩ = r at h
 cases hx : (r.1.fails || decide (0 < r.1.r.rest.length) || checkZ r.2 != 0)
 rotate_left
 ·rw [hx,if_pos rfl] at h; simp at h
 rw [hx,if_neg (by decide)] at h
 injection h with h5 _
 rw [Bool.or_eq_false_iff,Bool.or_eq_false_iff,bne_eq_false_iff_eq,decide_eq_false_iff_not] at hx
 obtain ⟨⟨x1,x2⟩,x3⟩:=hx
 have took:=state_took (ver:=ver) (s:=⟨(Wire.numR ⟨body.drop 4,0⟩).1,false⟩) (by rw [hr]; exact x1)
 rw [hr] at took
 have hrest : r.1.r.rest = []:=List.eq_nil_of_length_eq_zero (by omega)
 have t2 : (Wire.numR ⟨body.drop 4,0⟩).1.rest = restE ver r.2:=by
  have:=took.2
  rw [hrest,List.append_nil] at this
  exact this
 have hpre : AX.preB body = true ∧ (Wire.numR ⟨body.drop 4,0⟩).1.e = 0 ∧ (Wire.numR ⟨body.drop 4,0⟩).2 = ver:=by
  unfold AX.versionS at hv
  dsimp only at hv
  split at hv
  ·simp at hv
  ·next q1 =>
   split at hv
   ·simp at hv
   ·next q2 =>
    split at hv
    ·simp at hv
    ·injection hv with hv _
     exact ⟨by simpa using q1,by simpa using q2,hv⟩
 obtain ⟨g1,g2,g3⟩:=hpre
 obtain ⟨_,g4⟩:=Wire.numR_back g2
 rw [g3,t2] at g4
 have hmag : body.take 4 = magic:=by
  unfold AX.preB at g1
  rw [Bool.and_eq_true,beq_iff_eq] at g1
  exact g1.2
 have hbody : body = stE ver r.2:=by
  rw [stE_rest,List.append_assoc,← g4,← hmag,List.take_append_drop]
 subst h5
 have hlen : b.length = body.length + 4:=by
  rw [happ]; unfold Crc.app; rw [List.length_append,Crc.four_length]
 have hnum : ∀ l : List UInt8,Wire.numR ⟨Wire.num ver ++ l,0⟩ = (⟨l,0⟩,ver):=fun l => by
  unfold Wire.numR
  rw [if_neg (by simp),Wire.grp_num ver l (by omega) (by omega)]
  dsimp only
  rw [List.drop_left]
 refine ⟨ver,h12,?_,x3,?_,by rw [← hbody]; omega,?_,_,?_,by rw [hr]⟩
 ·have hb4 : b.drop 4 = Wire.num ver ++ (restE ver r.2 ++ Crc.four (Crc.upd 0 body)):=by
   rw [happ]
   unfold Crc.app
   have h4 : 4 ≤ body.length:=by
    have:=congrArg List.length hmag
    rw [List.length_take] at this
    simp only [magic,List.length_cons,List.length_nil] at this
    omega
   rw [List.drop_append_of_le_length h4]
   rw [show body.drop 4 = Wire.num ver ++ restE ver r.2 from g4,List.append_assoc]
  unfold AX.versionS
  rw [if_neg h2]
  dsimp only
  rw [hb4,hnum]
  dsimp only
  rw [if_neg (by simp),if_neg (by omega)]
 ·unfold encode
  rw [if_neg (by simp [x3]),← hbody,if_neg (by omega),← happ]
 ·intro h1v
  rw [← hr]
  unfold stateS
  dsimp only
  split
  ·rfl
  ·rw [if_neg (by omega)]
 ·have:=Wire.numR_rest ⟨body.drop 4,0⟩
  dsimp only at this ⊢
  rw [List.length_drop] at this
  omega
end Sf
end Go.Proofs.YtnjkemakcejceaaGreatDoor

namespace Go.Proofs.YtnjkemakcejceaaGreatDoor
open Go.RowKit
set_option maxHeartbeats 4000000
namespace AX
theorem args3 {x y z : A} {v u r : Value} (h : ∀ C c,Rep C x c → c = v) (h' : ∀ C c,Rep C y c → c = u) (h'' : ∀ C c,Rep C z c → c = r) : ∀ C cs,RepL C [x,y,z] cs → cs = [v,u,r]:=fun C cs hr => by
 obtain ⟨c,cs',rfl,h1,h2⟩:=repL_cons.1 hr
 rw [args2 h' h'' C cs' h2,h C c h1]
theorem Sf.encode_len (ver : Int) (st : Sf.St) : (Sf.encode ver st).1.length ≤ 1048576:=by
 unfold Sf.encode
 split
 ·simp
 ·split
  ·simp
  ·next h => show (Crc.app _).length ≤ _; simp [Crc.app,Crc.four]; omega
theorem a_sealCheck (k : List UInt8) (hk : k.length ≤ 1000000000) (h : Hp) : ACall Tryz.prog GT 61 [.str k] h fun r h' => r = .int .i64 (Seal.check k) ∧ h' = h:=
 acall_imp (args1 r_str) (fun w hg => (check_any ⟨k.toArray⟩ w (by rw [size_mk]; exact hk)).mono fun e w' ⟨h1,h2⟩ => ⟨h1,by rw [h2]; exact Below.refl _ _⟩) (fun C => rep_int.2 rfl) h
theorem a_seal (k : List UInt8) (n : Int) (p : List UInt8) (hk : k.length ≤ 1000000000) (hn : Seal.U64 n) (hp : p.length ≤ 1048576) (h : Hp) : ACall Tryz.prog GT 103 [.str k,.int .u64 n,.str p] h fun r h' => r = .tup [.str (Seal.enc k n p).1,.int .i64 (Seal.enc k n p).2] ∧ h' = h:=
 acall_imp (args3 r_str r_int r_str) (fun w hg => enc_any ⟨k.toArray⟩ n ⟨p.toArray⟩ w (by rw [size_mk]; exact hk) hn (by rw [size_mk]; exact hp)) (fun C => rep_tup.2 ⟨_,rfl,repL_cons.2 ⟨_,_,rfl,rep_str.2 rfl,repL_cons.2 ⟨_,_,rfl,rep_int.2 rfl,repL_nil.2 rfl⟩⟩⟩) h
theorem a_open (k p : List UInt8) (hk : k.length ≤ 1000000000) (hp : p.length ≤ 1048600) (h : Hp) : ACall Tryz.prog GT 107 [.str k,.str p] h fun r h' => r = .tup [.str (Seal.dec k p).1,.int .i64 (Seal.dec k p).2] ∧ h' = h:=
 acall_imp (args2 r_str r_str) (fun w hg => dec_any ⟨k.toArray⟩ ⟨p.toArray⟩ w (by rw [size_mk]; exact hk) (by rw [size_mk]; exact hp)) (fun C => rep_tup.2 ⟨_,rfl,repL_cons.2 ⟨_,_,rfl,rep_str.2 rfl,repL_cons.2 ⟨_,_,rfl,rep_int.2 rfl,repL_nil.2 rfl⟩⟩⟩) h
theorem u64_wrap (n : Int) : Seal.U64 (IntKind.u64.wrap n):=by
 rw [IntKind.wrap_u64]
 exact ⟨Int.emod_nonneg _ (by decide),Int.emod_lt_of_pos _ (by decide)⟩
def c_keep : AX.AFn:=⟨50,.seq (.reg false [aR 3 (.box 26 (.t 1)),aR 4 (.mv (aI 0))]) (.seq (.reg false [aR 9 (.load true 5 (.t 3)),aR 10 (.call 10 [.t 9]),aM 8 10,aR 11 (.extract (.t 8) 0),aR 12 (.extract (.t 8) 1),aM 5 11,aM 6 12]) (.seq (.seq (.reg false [aM 13 6,aR 14 (.bin .neq (.t 13) (aI 0))]) (.cond (.t 14) (.seq (.reg false [aM 15 6,aM 4 15]) (.ret)) (.skip))) (.seq (.reg true [aM 17 0,⟨some 18,.nilck (.t 17),none,[0]⟩,⟨some 19,.faddr 0 (.t 18),none,[1]⟩,⟨some 20,.load false 1 (.t 19),none,[2]⟩,aR 21 (.faddr 1 (.t 3)),⟨some 22,.load false 1 (.t 21),none,[4]⟩,⟨some 23,.conv .u64 (.t 22),none,[5]⟩,aM 24 5,⟨some 25,.call 103 [.t 20,.t 23,.t 24],none,[3,6,7]⟩,⟨some 16,.mv (.t 25),none,[8]⟩,⟨some 26,.extract (.t 16) 0,none,[9]⟩,⟨some 27,.extract (.t 16) 1,none,[9]⟩,⟨some 7,.mv (.t 26),none,[10,8,0,1,2,3,4,5,6,7,8,9,10]⟩,⟨some 6,.mv (.t 27),none,[11,12,0,1,2,3,4,5,6,7,8,9,10,11,12]⟩]) (.seq (.seq (.reg false [aM 28 6,aR 29 (.bin .neq (.t 28) (aI 0))]) (.cond (.t 29) (.seq (.reg false [aM 30 6,aM 4 30]) (.ret)) (.skip))) (.seq (.reg true [aM 31 0,⟨some 32,.nilck (.t 31),none,[0]⟩,⟨some 33,.faddr 3 (.t 32),none,[1]⟩,⟨some 34,.load false 1 (.t 33),none,[2]⟩,aR 35 (.faddr 1 (.t 3)),⟨some 36,.load false 1 (.t 35),none,[4]⟩,aM 37 7,⟨none,.mset (.t 34) (.t 36) (.t 37),none,[3,5,6,0,1,2,3,4,5,6]⟩]) (.seq (.reg false [aM 38 0,aR 39 (.faddr 1 (.t 3)),aR 40 (.load false 1 (.t 39)),aR 41 (.nilck (.t 38)),aR 42 (.faddr 2 (.t 41)),aU (.store 1 (.t 42) (.t 40))]) (.seq (.reg true [aM 43 0,⟨some 44,.nilck (.t 43),none,[0]⟩,⟨some 45,.faddr 3 (.t 44),none,[1]⟩,⟨some 46,.load false 1 (.t 45),none,[2]⟩,aR 47 (.faddr 1 (.t 3)),⟨some 48,.load false 1 (.t 47),none,[4]⟩,⟨some 49,.bin .sub (.t 48) (aI 64),none,[5]⟩,⟨none,.mdel (.t 46) (.t 49),none,[3,6]⟩]) (.seq (.reg false [aR 4 (.mv (aI 0))]) (.ret))))))))),[.t 4]⟩
theorem h_keep : AX.compFn Tryz.prog 63 = some c_keep:=by kernel_rfl
def c_splain : AX.AFn:=⟨27,.seq (.reg false [aR 4 (.mv (.c (.str []))),aR 5 (.mv (aI 0))]) (.seq (.reg false [aM 9 0,aR 10 (.nilck (.t 9)),aR 11 (.faddr 3 (.t 10)),aR 12 (.load false 1 (.t 11)),aM 13 1,aR 14 (.mget (.str []) true (.t 12) (.t 13)),aM 8 14,aR 15 (.extract (.t 8) 0),aR 16 (.extract (.t 8) 1),aM 6 15,aM 7 16]) (.seq (.seq (.reg false [aM 17 7,aR 18 (.un .not (.t 17))]) (.cond (.t 18) (.seq (.reg false [aR 4 (.mv (.c (.str []))),aR 5 (.mv (aI 9))]) (.ret)) (.skip))) (.seq (.reg false [aM 19 0,aR 20 (.nilck (.t 19)),aR 21 (.faddr 0 (.t 20)),aR 22 (.load false 1 (.t 21)),aM 23 6,aR 24 (.call 107 [.t 22,.t 23]),aR 25 (.extract (.t 24) 0),aR 26 (.extract (.t 24) 1),aM 4 25,aM 5 26]) (.ret)))),[.t 4,.t 5]⟩
theorem h_splain : AX.compFn Tryz.prog 72 = some c_splain:=by kernel_rfl
def c_sat : AX.AFn:=⟨34,.seq (.reg false [aR 4 (.alloc 26 [.str [],.int .i64 0,.sl 0 .nil [],.sl 0 .nil [],.sl 0 .nil []]),aR 5 (.mv (aI 0))]) (.seq (.seq (.reg false [aM 9 0,aR 10 (.call 67 [.t 9]),aR 11 (.un .not (.t 10))]) (.cond (.t 11) (.seq (.reg false [aR 12 (.build [.str [],.int .i64 0,.sl 0 .nil [],.sl 0 .nil [],.sl 0 .nil []] []),aU (.store 5 (.t 4) (.t 12)),aR 5 (.mv (aI 38))]) (.ret)) (.skip))) (.seq (.reg false [aM 14 0,aM 15 1,aR 16 (.call 72 [.t 14,.t 15]),aM 13 16,aR 17 (.extract (.t 13) 0),aR 18 (.extract (.t 13) 1),aM 6 17,aM 7 18]) (.seq (.seq (.reg false [aM 19 7,aR 20 (.bin .neq (.t 19) (aI 0))]) (.cond (.t 20) (.seq (.reg false [aR 21 (.build [.str [],.int .i64 0,.sl 0 .nil [],.sl 0 .nil [],.sl 0 .nil []] []),aM 22 7,aU (.store 5 (.t 4) (.t 21)),aM 5 22]) (.ret)) (.skip))) (.seq (.reg false [aM 24 6,aR 25 (.call 12 [.t 24]),aM 23 25,aR 26 (.extract (.t 23) 0),aR 27 (.extract (.t 23) 1),aR 8 (.alloc 26 [.str [],.int .i64 0,.sl 0 .nil [],.sl 0 .nil [],.sl 0 .nil []]),aU (.store 5 (.t 8) (.t 26)),aM 7 27]) (.seq (.seq (.reg false [aM 28 7,aR 29 (.bin .eql (.t 28) (aI 0))]) (.cond (.t 29) (.reg false [aR 30 (.load true 5 (.t 8)),aR 31 (.call 8 [.t 30]),aM 7 31]) (.skip))) (.seq (.reg false [aR 32 (.load true 5 (.t 8)),aM 33 7,aU (.store 5 (.t 4) (.t 32)),aM 5 33]) (.ret))))))),[.c 4 true 5,.t 5]⟩
theorem h_sat : AX.compFn Tryz.prog 33 = some c_sat:=by kernel_rfl
def c_swrite : AX.AFn:=⟨36,.seq (.reg false [aR 5 (.box 26 (.t 2)),aR 6 (.mv (aI 0))]) (.seq (.block 0 (.seq (.reg false [aM 8 0,aR 9 (.call 67 [.t 8]),aR 10 (.un .not (.t 9)),aM 7 10]) (.cond (.t 7) (.seq (.reg false [aR 6 (.mv (aI 38))]) (.ret)) (.seq (.reg false [aM 12 0,aM 13 1,aR 14 (.call 68 [.t 12,.t 13]),aR 15 (.un .not (.t 14)),aM 11 15]) (.cond (.t 11) (.seq (.reg false [aR 6 (.mv (aI 25))]) (.ret)) (.seq (.reg true [aR 17 (.faddr 0 (.t 5)),⟨some 18,.load false 1 (.t 17),none,[0]⟩,aM 19 0,⟨some 20,.nilck (.t 19),none,[2]⟩,⟨some 21,.faddr 1 (.t 20),none,[3]⟩,⟨some 22,.load false 1 (.t 21),none,[4]⟩,⟨some 23,.bin .neq (.t 18) (.t 22),none,[1,5]⟩,⟨some 16,.mv (.t 23),none,[6]⟩]) (.cond (.t 16) (.seq (.reg false [aR 6 (.mv (aI 23))]) (.ret)) (.seq (.reg true [aR 25 (.faddr 1 (.t 5)),⟨some 26,.load false 1 (.t 25),none,[0]⟩,aM 27 0,⟨some 28,.nilck (.t 27),none,[2]⟩,⟨some 29,.faddr 2 (.t 28),none,[3]⟩,⟨some 30,.load false 1 (.t 29),none,[4]⟩,⟨some 31,.bin .add (.t 30) (aI 1),none,[5]⟩,⟨some 32,.bin .neq (.t 26) (.t 31),none,[1,6]⟩,⟨some 24,.mv (.t 32),none,[7]⟩]) (.cond (.t 24) (.seq (.reg false [aR 6 (.mv (aI 22))]) (.ret)) (.skip)))))))))) (.seq (.reg false [aM 33 0,aR 34 (.load true 5 (.t 5)),aR 35 (.call 63 [.t 33,.t 34]),aM 6 35]) (.ret))),[.t 6]⟩
theorem h_swrite : AX.compFn Tryz.prog 28 = some c_swrite:=by kernel_rfl
def c_sread : AX.AFn:=⟨16,.seq (.reg false [aR 2 (.alloc 26 [.str [],.int .i64 0,.sl 0 .nil [],.sl 0 .nil [],.sl 0 .nil []]),aR 3 (.mv (aI 0))]) (.seq (.seq (.reg false [aM 4 0,aR 5 (.call 67 [.t 4]),aR 6 (.un .not (.t 5))]) (.cond (.t 6) (.seq (.reg false [aR 7 (.build [.str [],.int .i64 0,.sl 0 .nil [],.sl 0 .nil [],.sl 0 .nil []] []),aU (.store 5 (.t 2) (.t 7)),aR 3 (.mv (aI 38))]) (.ret)) (.skip))) (.seq (.reg false [aM 8 0,aM 9 0,aR 10 (.nilck (.t 9)),aR 11 (.faddr 2 (.t 10)),aR 12 (.load false 1 (.t 11)),aR 13 (.call 33 [.t 8,.t 12]),aR 14 (.extract (.t 13) 0),aR 15 (.extract (.t 13) 1),aU (.store 5 (.t 2) (.t 14)),aM 3 15]) (.ret))),[.c 2 true 5,.t 3]⟩
theorem h_sread : AX.compFn Tryz.prog 36 = some c_sread:=by kernel_rfl
section
variable (s : Sto) (l : List Blk) (t : List (TypeId × Nat × Nat))
theorem a_keep (st : Sf.St) (hin : Sf.StIn st) (hk : s.key.length ≤ 1000000000) (hE : (Sf.stE 2 st).length + 20 ≤ 1000000000) : ACall Tryz.prog GT 63 [.ptr 1 0,st.A] ⟨s.M :: s.B :: l,t⟩ fun r h' => r = .int .i64 (s.keep st).2 ∧ h' = ⟨(s.keep st).1.M :: (s.keep st).1.B :: l,t⟩:=by
 refine liftS (s':=(s.keep st).1) ?_ rfl rfl l t
 refine acall_of mixedT h_keep (by simp [c_keep]) ?_
 dsimp only [c_keep]
 have hl:=Sf.encode_len 2 st
 have he:=a_Encode st (a_stateCheck st hin) (fun hz => ⟨Sf.stOk_of hz hin,hE⟩)
 obtain ⟨q,hq⟩ : ∃ q,s.keep st = q:=⟨_,rfl⟩
 rw [hq]
 unfold Sto.keep at hq
 obtain ⟨⟨p,e⟩,hp⟩ : ∃ q,Sf.encode 2 st = q:=⟨_,rfl⟩
 rw [hp] at hq he hl
 dsimp only at hq he hl
 have hs:=fun h => a_seal s.key (IntKind.u64.wrap st.ser) p hk (u64_wrap _) hl h
 obtain ⟨⟨b,e2⟩,hb⟩ : ∃ q,Seal.enc s.key (IntKind.u64.wrap st.ser) p = q:=⟨_,rfl⟩
 rw [hb] at hq hs
 dsimp only at hq hs
 obtain ⟨lin,ser,ins,ps,os⟩:=st
 unfold Sf.St.A at he ⊢
 unfold Sto.B Sto.M
 dsimp only at hq hs he ⊢
 refine run0 ti ?_
 refine use (he _) ?_
 by_cases h1 : e = 0
 rotate_left
 ·rw [if_pos h1] at hq
  subst hq
  have e1 : (e != 0) = true:=by simp [h1]
  refine run0 e1 ?_
  exact ⟨_,le_refl _,rfl,rfl,rfl⟩
 rw [if_neg (by simp [h1])] at hq
 have e1 : (e != 0) = false:=by simp [h1]
 refine run0 e1 ?_
 refine use (hs _) ?_
 by_cases h2 : e2 = 0
 rotate_left
 ·rw [if_pos h2] at hq
  subst hq
  have e3 : (e2 != 0) = true:=by simp [h2]
  refine run0 e3 ?_
  exact ⟨_,le_refl _,rfl,rfl,rfl⟩
 rw [if_neg (by simp [h2])] at hq
 have e3 : (e2 != 0) = false:=by simp [h2]
 subst hq
 refine run0 (ai e3 (ai mput_str merase_str)) ?_
 exact ⟨_,le_refl _,rfl,rfl,rfl⟩
theorem a_plain (n : Int) (hk : s.key.length ≤ 1000000000) (hb : ∀ b,lfind n s.es = some b → b.length ≤ 1048600) : ACall Tryz.prog GT 72 [.ptr 1 0,.int .i64 n] ⟨s.M :: s.B :: l,t⟩ fun r h' => r = .tup [.str (s.plain n).1,.int .i64 (s.plain n).2] ∧ h' = ⟨s.M :: s.B :: l,t⟩:=by
 refine liftS (s':=s) ?_ rfl rfl l t
 refine acall_of mixedT h_splain (by simp [c_splain]) ?_
 dsimp only [c_splain]
 obtain ⟨q,hq⟩ : ∃ q,s.plain n = q:=⟨_,rfl⟩
 rw [hq]
 unfold Sto.plain at hq
 have hf:=mfind_str n s.es
 cases hF : lfind n s.es with
 | none =>
  rw [hF] at hq hf
  dsimp only at hq
  subst hq
  have hf' : mfind n (strM s.es) = none:=hf
  unfold Sto.B Sto.M
  refine run0 hf' ?_
  exact ⟨_,le_refl _,rfl,rfl,rfl⟩
 | some b =>
  rw [hF] at hq hf
  dsimp only at hq
  have hf' : mfind n (strM s.es) = some (.str b):=hf
  have ho:=fun h => a_open s.key b hk (hb b hF) h
  rw [hq] at ho
  unfold Sto.B Sto.M
  refine run0 hf' ?_
  refine use (ho _) ?_
  refine run0 ti ?_
  exact ⟨_,le_refl _,rfl,rfl,rfl⟩
theorem a_at (n : Int) (hk : s.key.length ≤ 1000000000) (hb : ∀ b,lfind n s.es = some b → b.length ≤ 1048600) : ACall Tryz.prog GT 33 [.ptr 1 0,.int .i64 n] ⟨s.M :: s.B :: l,t⟩ fun r h' => r = .tup [(s.at' n).1.A,.int .i64 (s.at' n).2] ∧ h' = ⟨s.M :: s.B :: l,t⟩:=by
 refine liftS (s':=s) ?_ rfl rfl l t
 refine acall_of mixedT h_sat (by simp [c_sat]) ?_
 dsimp only [c_sat]
 obtain ⟨q,hq⟩ : ∃ q,s.at' n = q:=⟨_,rfl⟩
 rw [hq]
 unfold Sto.at' at hq
 have hm:=a_made s
 have hpl:=fun l t => a_plain s l t n hk hb
 have hpz : (s.plain n).1.length ≤ 1048600:=by
  unfold Sto.plain
  split
  ·simp
  ·next b hF => exact Nat.le_trans (dec_len _ _) (hb b hF)
 obtain ⟨⟨b,e⟩,hp⟩ : ∃ q,s.plain n = q:=⟨_,rfl⟩
 rw [hp] at hq hpl hpz
 dsimp only at hq hpl hpz
 have hD:=fun h => a_Decode b (by omega) (ver_len b) (fun ver r hr => a_stateCheck _ (Sf.state_in ver ⟨r,false⟩ (by dsimp only; omega))) h
 have hz : ∀ e : Int,le (.tup [.agg [.str [],.int .i64 0,.sl 0 .nil [],.sl 0 .nil [],.sl 0 .nil []],.int .i64 e]) (.tup [Sf.zero.A,.int .i64 e]):=fun e => ⟨⟨le1_refl _,le1_refl _,⟨rfl,.inr rfl,.inl rfl⟩,⟨rfl,.inr rfl,.inl rfl⟩,⟨rfl,.inr rfl,.inl rfl⟩,trivial⟩,rfl,trivial⟩
 unfold Sto.B Sto.M at hm hpl ⊢
 refine run0 ti ?_
 refine use (hm _ _) ?_
 refine run0 ti ?_
 refine use (hpl _ _) ?_
 by_cases h1 : e = 0
 rotate_left
 ·rw [if_pos h1] at hq
  subst hq
  have e1 : (e != 0) = true:=by simp [h1]
  refine run0 e1 ?_
  exact ⟨_,hz _,rfl,rfl,rfl⟩
 rw [if_neg (by simp [h1])] at hq
 have e1 : (e != 0) = false:=by simp [h1]
 have hck : (Sf.decode b).2 = 0 → SCheck (Sf.decode b).1:=fun h0 => by
  obtain ⟨ver,_,_,_,_,_,_,r,hr,hst⟩:=Sf.decode_back (b:=b) (st:=(Sf.decode b).1) (by rw [← h0])
  rw [hst]
  exact a_stateCheck _ (Sf.state_in ver r (by omega))
 obtain ⟨⟨st,e2⟩,hd⟩ : ∃ q,Sf.decode b = q:=⟨_,rfl⟩
 rw [hd] at hq hD hck
 dsimp only at hq hD hck
 obtain ⟨Z,hZ⟩ : ∃ Z,Sf.checkZ st = Z:=⟨_,rfl⟩
 unfold SCheck at hck
 rw [hZ] at hq hck
 obtain ⟨lin,ser,ins,ps,os⟩:=st
 have hA : ∀ e,(A.tup [Sf.St.A ⟨lin,ser,ins,ps,os⟩,.int .i64 e]) = A.tup [Sf.St.A ⟨lin,ser,ins,ps,os⟩,.int .i64 e]:=fun _ => rfl
 refine run0 e1 ?_
 refine use (hD _) ?_
 unfold Sf.St.A at hck ⊢
 by_cases h2 : e2 = 0
 ·rw [if_pos h2] at hq
  subst hq
  have e3 : (e2 == 0) = true:=by simp [h2]
  refine run0 e3 ?_
  refine use (hck h2 _) ?_
  refine run0 ti ?_
  exact ⟨_,le_refl _,rfl,rfl,rfl⟩
 ·rw [if_neg h2] at hq
  subst hq
  have e3 : (e2 == 0) = false:=by simp [h2]
  refine run0 e3 ?_
  exact ⟨_,le_refl _,rfl,rfl,rfl⟩
theorem a_swrite (who : List UInt8) (st : Sf.St) (hin : Sf.StIn st) (hk : s.key.length ≤ 1000000000) (hE : (Sf.stE 2 st).length + 20 ≤ 1000000000) : ACall Tryz.prog GT 28 [.ptr 1 0,.str who,st.A] ⟨s.M :: s.B :: l,t⟩ fun r h' => r = .int .i64 (s.write who st).2 ∧ h' = ⟨(s.write who st).1.M :: (s.write who st).1.B :: l,t⟩:=by
 refine liftS (s':=(s.write who st).1) ?_ rfl rfl l t
 refine acall_of mixedT h_swrite (by simp [c_swrite]) ?_
 dsimp only [c_swrite]
 have hkp:=fun l t => a_keep s l t st hin hk hE
 obtain ⟨q,hq⟩ : ∃ q,s.write who st = q:=⟨_,rfl⟩
 rw [hq]
 unfold Sto.write at hq
 have hm:=a_made s
 have hh:=fun l t => a_holds s l t who
 obtain ⟨k,hkk⟩ : ∃ k,s.keep st = k:=⟨_,rfl⟩
 rw [hkk] at hq hkp
 obtain ⟨lin,ser,ins,ps,os⟩:=st
 unfold Sf.St.A at hkp ⊢
 dsimp only at hq
 rw [show s.B = .cells 79 [.str s.key,.str s.lin,.int .i64 s.latest,.mp 0,.str s.own,.int .i64 s.left] from rfl] at hm hh hkp ⊢
 refine run0 ti ?_
 refine use (hm _ _) ?_
 refine run0 ti ?_
 refine use (hh _ _) ?_
 cases hT : s.holds who
 ·rw [hT,if_pos (by decide)] at hq
  subst hq
  refine run0 ti ?_
  exact ⟨_,le_refl _,rfl,rfl,rfl⟩
 rw [hT,if_neg (by decide)] at hq
 by_cases h1 : lin = s.lin
 rotate_left
 ·rw [if_pos h1] at hq
  subst hq
  have e1 : (lin != s.lin) = true:=by simp [h1]
  refine run0 e1 ?_
  exact ⟨_,le_refl _,rfl,rfl,rfl⟩
 rw [if_neg (by simp [h1])] at hq
 have e1 : (lin != s.lin) = false:=by simp [h1]
 by_cases h2 : ser = IntKind.i64.wrap (s.latest + 1)
 rotate_left
 ·rw [if_pos h2] at hq
  subst hq
  have e2 : (ser != IntKind.i64.wrap (s.latest + 1)) = true:=by simp [h2]
  refine run0 (ai e1 e2) ?_
  exact ⟨_,le_refl _,rfl,rfl,rfl⟩
 rw [if_neg (by simp [h2])] at hq
 subst hq
 have e2 : (ser != IntKind.i64.wrap (s.latest + 1)) = false:=by simp [h2]
 refine run0 (ai e1 e2) ?_
 refine use (hkp _ _) ?_
 refine run0 ti ?_
 exact ⟨_,le_refl _,rfl,rfl,rfl⟩
theorem a_read (hk : s.key.length ≤ 1000000000) (hb : ∀ b,lfind s.latest s.es = some b → b.length ≤ 1048600) : ACall Tryz.prog GT 36 [.ptr 1 0] ⟨s.M :: s.B :: l,t⟩ fun r h' => r = .tup [(s.at' s.latest).1.A,.int .i64 (s.at' s.latest).2] ∧ h' = ⟨s.M :: s.B :: l,t⟩:=by
 refine liftS (s':=s) ?_ rfl rfl l t
 refine acall_of mixedT h_sread (by simp [c_sread]) ?_
 dsimp only [c_sread]
 have hm:=a_made s
 have ha:=fun l t => a_at s l t s.latest hk hb
 obtain ⟨⟨st,e⟩,hq⟩ : ∃ q,s.at' s.latest = q:=⟨_,rfl⟩
 rw [hq] at ha ⊢
 obtain ⟨lin,ser,ins,ps,os⟩:=st
 unfold Sf.St.A at ha ⊢
 dsimp only at ha ⊢
 unfold Sto.B at hm ha ⊢
 refine run0 ti ?_
 refine use (hm _ _) ?_
 refine run0 ti ?_
 refine use (ha _ _) ?_
 refine run0 ti ?_
 exact ⟨_,le_refl _,rfl,rfl,rfl⟩
end
end AX
end Go.Proofs.YtnjkemakcejceaaGreatDoor

namespace Go.Proofs.YtnjkemakcejceaaGreatDoor
open Go.RowKit
set_option maxHeartbeats 4000000
namespace AX
namespace Sto
def lo (s : Sto) : Int:=if 0 > s.latest - 63 then 0 else s.latest - 63
def upTo (lo : Int) (k : Nat) : List Int:=(List.range k).map fun i : Nat => lo + (i : Int)
def serials (s : Sto) : List Int:=upTo s.lo (s.latest + 1 - s.lo).toNat
end Sto
def rowsI (l : List Int) : List (List A):=l.map fun n => [.int .i64 n]
theorem upTo_succ (lo : Int) (k : Nat) : rowsI (Sto.upTo lo (k + 1)) = rowsI (Sto.upTo lo k) ++ [[.int .i64 (lo + (k : Int))]]:=by
 unfold rowsI Sto.upTo
 rw [List.range_succ,List.map_append,List.map_append]
 rfl
theorem rowsI_len (lo : Int) (k : Nat) : (rowsI (Sto.upTo lo k)).length = k:=by simp [rowsI,Sto.upTo]
def c_serials : AX.AFn:=⟨28,.seq (.reg false [aR 2 (.mv (.c (.sl 0 .nil [])))]) (.seq (.seq (.reg false [aM 5 0,aR 6 (.call 67 [.t 5]),aR 7 (.un .not (.t 6))]) (.cond (.t 7) (.seq (.reg false [aR 2 (.mv (.c (.sl 0 .nil [])))]) (.ret)) (.skip))) (.seq (.reg false [aR 3 (.mv (.c (.sl 0 .nil [])))]) (.seq (.seq (.reg false [aM 8 0,aR 9 (.nilck (.t 8)),aR 10 (.faddr 2 (.t 9)),aR 11 (.load false 1 (.t 10)),aR 12 (.bin .sub (.t 11) (aI 64)),aR 13 (.bin .add (.t 12) (aI 1)),aR 14 (.mm true (.t 13) (aI 0)),aM 4 14]) (.block 0 (.loop (.seq (.seq (.reg false [aM 15 4,aM 16 0,aR 17 (.nilck (.t 16)),aR 18 (.faddr 2 (.t 17)),aR 19 (.load false 1 (.t 18)),aR 20 (.bin .leq (.t 15) (.t 19))]) (.cond (.t 20) (.skip) (.exit 0))) (.seq (.block 1 (.reg false [aM 23 3,aM 24 4,aR 25 (.mks 1 [.t 24]),aR 26 (.app 3 1 8 (.t 23) (.t 25)),aM 3 26])) (.reg false [aM 21 4,aR 22 (.bin .add (.t 21) (aI 1)),aM 4 22])))))) (.seq (.reg false [aM 27 3,aM 2 27]) (.ret))))),[.t 2]⟩
theorem h_serials : AX.compFn Tryz.prog 37 = some c_serials:=by kernel_rfl
def c_snew : AX.AFn:=⟨30,.seq (.reg false [aR 4 (.mv (.c (.nilp))),aR 5 (.mv (aI 0))]) (.seq (.seq (.reg false [aM 9 0,aR 10 (.call 61 [.t 9]),aM 6 10]) (.seq (.reg false [aM 11 6,aR 12 (.bin .neq (.t 11) (aI 0))]) (.cond (.t 12) (.seq (.reg false [aM 13 6,aR 4 (.mv (.c (.nilp))),aM 5 13]) (.ret)) (.skip)))) (.seq (.seq (.reg false [aM 14 1,aR 15 (.call 62 [.t 14]),aR 16 (.un .not (.t 15))]) (.cond (.t 16) (.seq (.reg false [aR 4 (.mv (.c (.nilp))),aR 5 (.mv (aI 1))]) (.ret)) (.skip))) (.seq (.reg false [aM 17 0,aM 18 1,aR 19 (.mkmap),aR 20 (.build [.str [],.str [],.int .i64 0,.nilm,.str [],.int .i64 0] [(0,1,.t 17),(1,1,.t 18),(3,1,.t 19)]),aR 21 (.box 79 (.t 20)),aM 7 21]) (.seq (.seq (.reg false [aM 22 7,aM 23 1,aR 24 (.build [.str [],.int .i64 0,.sl 0 .nil [],.sl 0 .nil [],.sl 0 .nil []] [(0,1,.t 23)]),aR 25 (.call 63 [.t 22,.t 24]),aM 8 25]) (.seq (.reg false [aM 26 8,aR 27 (.bin .neq (.t 26) (aI 0))]) (.cond (.t 27) (.seq (.reg false [aM 28 8,aR 4 (.mv (.c (.nilp))),aM 5 28]) (.ret)) (.skip)))) (.seq (.reg false [aM 29 7,aM 4 29,aR 5 (.mv (aI 0))]) (.ret)))))),[.t 4,.t 5]⟩
theorem h_snew : AX.compFn Tryz.prog 16 = some c_snew:=by kernel_rfl
theorem a_serials (s : Sto) (l : List Blk) (t : List (TypeId × Nat × Nat)) (h0 : 0 ≤ s.latest) (h1 : s.latest ≤ 9007199254740992) : ACall Tryz.prog GT 37 [.ptr 1 0] ⟨s.M :: s.B :: l,t⟩ fun r h' => r = .sl 1 .no (rowsI s.serials) ∧ h' = ⟨s.M :: s.B :: l,t⟩:=by
 refine liftS (s':=s) ?_ rfl rfl l t
 refine acall_of mixedT h_serials (by simp [c_serials]) ?_
 dsimp only [c_serials]
 have hm:=a_made s
 unfold Sto.B at hm ⊢
 have w1 : IntKind.i64.wrap (s.latest - 64) = s.latest - 64:=wrap64 (by omega) (by omega)
 have w2 : IntKind.i64.wrap (s.latest - 64 + 1) = s.latest - 63:=by rw [wrap64 (by omega) (by omega)]; omega
 obtain ⟨lo,hlo⟩ : ∃ lo,s.lo = lo:=⟨_,rfl⟩
 have w3 : (if 0 > s.latest - 63 then 0 else s.latest - 63) = lo:=hlo
 have b1 : 0 ≤ lo ∧ lo ≤ s.latest:=by rw [← w3]; split <;> omega
 have b2 : s.latest ≤ lo + 63:=by rw [← w3]; split <;> omega
 refine run0 ti ?_
 refine use (hm _ _) ?_
 refine run0 (ai w1 (ai w2 w3)) ?_
 have upTo0 : rowsI (Sto.upTo lo 0) = []:=rfl
 have upTo1 : lo + ((0 : Nat) : Int) = lo:=by simp
 refine awp_loop (fun mm ts h => ∃ (k : Nat) (W : Nat) (o : Own) (t : List (TypeId × Nat × Nat)),mm + k = (s.latest + 1 - lo).toNat ∧
  h = ⟨[s.M,.cells 79 [.str s.key,.str s.lin,.int .i64 s.latest,.mp 0,.str s.own,.int .i64 s.left]],t⟩ ∧
  Gs 3 1 0 ⟨[],t⟩ (rowsI (Sto.upTo lo k)) (.sl W o (rowsI (Sto.upTo lo k))) ∧ ts 0 = .ptr 1 0 ∧ ts 3 = .sl W o (rowsI (Sto.upTo lo k)) ∧ ts 4 = .int .i64 (lo + (k : Int))) (s.latest + 1 - lo).toNat ?_ ?_
 ·exact ⟨0,0,.nil,[],by omega,rfl,.inl ⟨rfl,rfl⟩,by (exact ev0 ti),by (exact ev0 upTo0),by (exact ev0 upTo1)⟩
 rintro mm ts h ⟨k,W,o,t,hk,rfl,gX,t0,t3,t4⟩
 cases mm with
 | zero =>
  have e1 : ¬ (lo + (k : Int) ≤ s.latest):=by omega
  refine run0 (ai t0 (ai t3 (ai t4 e1))) ?_
  refine ⟨_,?_,rfl,rfl,rfl⟩
  have hk' : k = (s.latest + 1 - lo).toNat:=by omega
  rw [show s.serials = Sto.upTo lo k by unfold Sto.serials; rw [hlo,hk']]
  rw [tupA_1]
  rcases gX with ⟨hr,hx⟩ | ⟨j,_,hx,_⟩
  ·exfalso
   have:=rowsI_len lo k
   rw [hr] at this
   simp at this
   omega
  ·injection hx with hx1 hx2 hx3
   subst hx1
   exact ⟨rfl,.inl rfl,.inl rfl⟩
 | succ f =>
  have e1 : lo + (k : Int) ≤ s.latest:=by omega
  obtain ⟨W',o',t',hX,gX',_⟩:=gX.grow 8 [.int .i64 (lo + (k : Int))] (by rw [rowsI_len]; omega) (by decide)
  rw [← upTo_succ] at gX'
  simp only [← upTo_succ] at hX
  have w4 : IntKind.i64.wrap (lo + (k : Int) + 1) = lo + ((k + 1 : Nat) : Int):=by rw [wrap64 (by omega) (by omega)]; omega
  refine run0 (ai t0 (ai t3 (ai t4 (ai e1 (ai hX w4))))) ?_
  exact ⟨f,by omega,k + 1,W',o',t',by omega,rfl,gX',by (exact ev0 t0),by (exact ev0 t3),by (exact ev0 t4)⟩
def Sto.new (key lin : List UInt8) : Sto:=⟨key,lin,0,[],0,[],0⟩
theorem new_len (lin : List UInt8) (hl : lin.length ≤ 900000) : Sf.StIn ⟨lin,0,[],[],[]⟩:=⟨by dsimp only; omega,by simp,by simp,by simp,by simp,by simp,by simp⟩
theorem a_new (key lin : List UInt8) (hk : key.length ≤ 1000000000) (hl : lin.length ≤ 900000) (hE : (Sf.stE 2 ⟨lin,0,[],[],[]⟩).length + 20 ≤ 1000000000) (hc : Seal.check key = 0) (ht : Sto.txt lin = true) (hz : ((Sto.new key lin).keep ⟨lin,0,[],[],[]⟩).2 = 0) :
  ACall Tryz.prog GT 16 [.str key,.str lin] ⟨[],[]⟩ fun r h' => r = .tup [.ptr 1 0,.int .i64 0] ∧ h' = ⟨[((Sto.new key lin).keep ⟨lin,0,[],[],[]⟩).1.M,((Sto.new key lin).keep ⟨lin,0,[],[],[]⟩).1.B],[]⟩:=by
 refine acall_of mixedT h_snew (by simp [c_snew]) ?_
 dsimp only [c_snew]
 have hkp:=a_keep (Sto.new key lin) [] [] ⟨lin,0,[],[],[]⟩ (new_len lin hl) hk hE
 obtain ⟨⟨s2,e⟩,hq⟩ : ∃ q,(Sto.new key lin).keep ⟨lin,0,[],[],[]⟩ = q:=⟨_,rfl⟩
 rw [hq] at hkp hz ⊢
 dsimp only at hkp hz ⊢
 subst hz
 have hkp' : ACall Tryz.prog GT 63 [.ptr 1 0,.agg [.str lin,.int .i64 0,.sl 0 .nil [],.sl 0 .nil [],.sl 0 .nil []]] ⟨[(Sto.new key lin).M,(Sto.new key lin).B],[]⟩ (fun r h' => r = .int .i64 0 ∧ h' = ⟨[s2.M,s2.B],[]⟩):=by
  refine ACall.args ?_ hkp
  exact ⟨rfl,⟨le1_refl _,le1_refl _,⟨rfl,.inr rfl,.inl rfl⟩,⟨rfl,.inr rfl,.inl rfl⟩,⟨rfl,.inr rfl,.inl rfl⟩,trivial⟩,trivial⟩
 have hM : (Sto.new key lin).M = .map [] 0:=rfl
 have hB : (Sto.new key lin).B = .cells 79 [.str key,.str lin,.int .i64 0,.mp 0,.str [],.int .i64 0]:=rfl
 rw [hM,hB] at hkp'
 have hc':=fun h => a_sealCheck key hk h
 rw [hc] at hc'
 have ht':=fun h => a_sttext lin (by omega) h
 rw [ht] at ht'
 refine run0 ti ?_
 refine use (hc' _) ?_
 refine run0 ti ?_
 refine use (ht' _) ?_
 refine run0 ti ?_
 refine use hkp' ?_
 refine run0 ti ?_
 exact ⟨_,le_refl _,rfl,rfl⟩
end AX
end Go.Proofs.YtnjkemakcejceaaGreatDoor

namespace Go.Proofs.YtnjkemakcejceaaGreatDoor
open Go.RowKit
open Go.ChangeMaps (setBlock)
namespace AX
def pin (k : Nat) (o : Obj) : Blk:=.opq (fun _ k' w => k' = k ∧ w.heap[k]? = some o) (fun _ => none)
section
variable {P : Program} {G : World → Prop} {C0 : Ctx} {n : Nat}
theorem pin_get {C : Ctx} {h : Hp} {i k : Nat} {o : Obj} (hI : Inv G C h) (hb : h.b[i]? = some (pin k o)) : C.κ i = k ∧ C.w.heap[k]? = some o:=by
 have:=(hI.box i _ hb).1 C.w (fun _ _ => rfl) (Nat.le_refl _)
 exact this
theorem pin_rep {C : Ctx} {i k : Nat} {o : Obj} (hown : C.own (C.κ i) = some i) (h1 : C.κ i = k) (h2 : C.w.heap[k]? = some o) : BlkRep C i (pin k o):=
 ⟨fun w' hw hs => ⟨h1,by have:=hw _ hown; rw [h1] at this; rw [this]; exact h2⟩,fun o x hx => by cases hx⟩
structure Pst (G : World → Prop) (C0 : Ctx) (n : Nat) (ts : Ts) (h : Hp) (a : Act) (w : World) : Prop where
 out : ∃ C : Ctx,C.w = w ∧ Inv G C h ∧ Step C0 C ∧ RepT C ts n a ∧ a.defers = []
theorem pst_of {C : Ctx} {ts : Ts} {h : Hp} {a : Act} (hI : Inv G C h) (hT : RepT C ts n a) (hd : a.defers = []) : Pst G C n ts h a C.w:=⟨C,rfl,hI,Step.refl C,hT,hd⟩
theorem Pst.post {ts : Ts} {h : Hp} {a : Act} {w : World} {Q : AExit → Ts → Hp → Prop} (k : Pst G C0 n ts h a w) (hq : Q .normal ts h) : Post G C0 n Q .normal a w:=by
 obtain ⟨C,h1,h2,h3,h4,h5⟩:=k.out
 exact ⟨C,ts,h,.normal,.normal,h1,h2,h3,h4,h5,hq⟩
def Es : List (Int × List UInt8) → List MapEntry → Prop
 | [],es => es = []
 | (k,x) :: l,es => ∃ e es',es = e :: es' ∧ e.key = .int .i64 k ∧ e.val = .string ⟨x.toArray⟩ ∧ Es l es'
theorem es_of {C : Ctx} : ∀ {l : List (Int × List UInt8)} {es : List MapEntry},RepEs C (l.map fun e => (e.1,A.str e.2)) es → Es l es
 | [],es,h => h
 | (k,x) :: l,es,h => by
  obtain ⟨e,es',h1,h2,h3,h4⟩:=h
  exact ⟨e,es',h1,h2,rep_str.1 h3,es_of h4⟩
theorem es_mem : ∀ {l : List (Int × List UInt8)} {es : List MapEntry},Es l es → ∀ e ∈ es,∃ k x,(k,x) ∈ l ∧ e.key = .int .i64 k ∧ e.val = .string ⟨x.toArray⟩
 | [],es,h,e,he => by have : es = []:=h; subst this; cases he
 | (k,x) :: l,es,h,e,he => by
  obtain ⟨e0,es',rfl,h2,h3,h4⟩:=h
  rcases List.mem_cons.1 he with rfl | he
  ·exact ⟨k,x,by simp,h2,h3⟩
  ·obtain ⟨k',x',m1,m2⟩:=es_mem h4 e he
   exact ⟨k',x',List.mem_cons_of_mem _ m1,m2⟩
theorem es_mem' : ∀ {l : List (Int × List UInt8)} {es : List MapEntry},Es l es → ∀ k x,(k,x) ∈ l → ∃ e ∈ es,e.key = .int .i64 k ∧ e.val = .string ⟨x.toArray⟩
 | [],es,h,k,x,he => by cases he
 | (k0,x0) :: l,es,h,k,x,he => by
  obtain ⟨e0,es',rfl,h2,h3,h4⟩:=h
  rcases List.mem_cons.1 he with he | he
  ·injection he with e1 e2; subst e1; subst e2
   exact ⟨e0,by simp,h2,h3⟩
  ·obtain ⟨e,m1,m2⟩:=es_mem' h4 k x he
   exact ⟨e,List.mem_cons_of_mem _ m1,m2⟩
theorem pl_nil {ops : Array Oper} {Q : Exit → Act → World → Prop} {ts : Ts} {h : Hp} {a : Act} {w : World} (k : Q .normal a w) : wpList P ops Q [] a w:=by
 unfold wpList; exact k
theorem pl_op {ops : Array Oper} {os : List Oper} {o : Oper} {ao : AOp} {Q : Exit → Act → World → Prop} {ts : Ts} {h h' : Hp} {a : Act} {w : World} {v : A} (k : Pst G C0 n ts h a w) (hg : o.guard = none) (hd : compDst n o.dst = true) (hc : compOp P n o = some ao) (hcall : ao.isCall = false)
  (hs : astep (evX ts) h ao = some (v,h')) (hk : ∀ a' w',Pst G C0 n (put ts o.dst v) h' a' w' → wpList P ops Q os a' w') : wpList P ops Q (o :: os) a w:=by
 obtain ⟨C,rfl,hI,hS,hT,hdf⟩:=k.out
 unfold wpList
 rw [if_pos (by simp [Region.wanted,hg])]
 have hp : aopP P G (evX ts) h (fun v' h2 => v' = v ∧ h2 = h') ao:=by
  cases ao with
  | call => simp [AOp.isCall] at hcall
  | callv => simp [AOp.isCall] at hcall
  | _ => simp only [aopP]; rw [hs]; exact ⟨rfl,rfl⟩
 refine .inl (aop_wp hI hT hc hp fun C' h2 v' cv k1 k2 k3 k4 => ?_)
 obtain ⟨rfl,rfl⟩:=k4
 exact hk _ _ ⟨C',rfl,k1,hS.trans k2,(hT.ext k2.ext).put hd k3,by rw [put_defers]; exact hdf⟩
def regId : Code → Nat
 | .region id _ _ => id
 | _ => 0
def regOps : Code → Array Oper
 | .region _ ops _ => ops
 | _ => #[]
def opAt (c : Code) (i : Nat) : Oper:=(regOps c).toList.getD i default
theorem wp_prim {c : Code} {id : Nat} {ops : Array Oper} {l : List Oper} {Q : Exit → Act → World → Prop} {a : Act} {w : World} (hc : c = .region id ops false) (hl : ops.toList = l) (k : wpList P ops Q l a w) : c.wp P Q a w:=by
 subst hc
 exact wp_region_list (by rw [hl]; exact k)
theorem pl_range {ops : Array Oper} {os : List Oper} {o : Oper} {T q e : TypeId} {x : Operand} {xo : Opd} {m c : Nat} {l : List (Int × List UInt8)} {Q : Exit → Act → World → Prop} {ts : Ts} {h : Hp} {a : Act} {w : World} (k : Pst G C0 n ts h a w) (hg : o.guard = none) (hd : compDst n o.dst = true)
  (hop : o.op = .range T x) (hu : P.underlying T = some (.map q e)) (hx : compX n x = some xo) (hv : evX ts xo = .mp m) (hb : h.b[m]? = some (.map (l.map fun e => (e.1,A.str e.2)) c))
  (hk : ∀ (g r : Nat) (es : Array MapEntry) a' w',Es l es.toList → BornOk es.toList c → Pst G C0 n (put ts o.dst (.ptr h.b.length 0)) ⟨h.b.set m (pin g (.map es c)) ++ [pin r (.mapIter (some g) c #[] c)],h.t⟩ a' w' → wpList P ops Q os a' w') : wpList P ops Q (o :: os) a w:=by
 obtain ⟨C,rfl,hI,hS,hT,hdf⟩:=k.out
 have hrep:=rep_opd hT hx
 rw [hv] at hrep
 obtain ⟨hev,hm⟩:=rep_mp.1 hrep
 obtain ⟨es,k1,k2,k3⟩:=hI.box m _ hb
 obtain ⟨i1,s1⟩:=box_turn (w':=C.w) (i:=m) (b':=pin (C.κ m) (.map es c)) false hI hm rfl rfl rfl (Nat.le_refl _) (fun _ _ _ => rfl) (fun hS => pin_rep (by
  rw [show (C.turn C.w m false).κ m = C.κ m from rfl]
  show (if C.κ m < C.w.heap.size then C.own (C.κ m) else _) = some m
  rw [if_pos (hI.ownlt _ _ (hI.ownk m hm)).2.1]
  exact hI.ownk m hm) rfl k1)
 have hrun:=run_range_map (P:=P) C.w T q e (C.κ m) es c hu k1
 obtain ⟨C',h1,h2,h3,h4,h5⟩:=alloc_blk (C:=C.turn C.w m false) (w:=C.w) (ob:=.mapIter (some (C.κ m)) c #[] c) (b0:=pin C.w.heap.size (.mapIter (some (C.κ m)) c #[] c)) (.inl rfl) i1 (fun C' i hE hκ ho hh => pin_rep ho hκ (by rw [hκ] at hh; exact hh))
 unfold wpList
 rw [if_pos (by simp [Region.wanted,hg])]
 refine .inl ?_
 unfold Oper.wp
 have he : (execOp a.eval o).run P C.w = .ok (.value (.pointer (some ⟨C.w.heap.size,0,none⟩))) (C.w.alloc (.mapIter (some (C.κ m)) c #[] c)):=by
  unfold execOp
  simp only [hop,hev,Sem.run_bind,hrun,Result.andThen_ok]
  rfl
 rw [he,Oper.upon_value,← show C'.w = C.w.alloc _ from h1]
 refine hk (C.κ m) C.w.heap.size es _ _ (es_of k2) k3 ⟨C',rfl,by simpa using h2,hS.trans (s1.trans h3),((hT.ext s1.ext).ext h3.ext).put hd (rep_ptr.2 ⟨?_,by simpa using h5⟩),by rw [put_defers]; exact hdf⟩
 rw [List.length_set] at h4
 rw [h4]; rfl
theorem pl_next {ops : Array Oper} {os : List Oper} {o : Oper} {x : Operand} {xo : Opd} {i m g r c : Nat} {es : Array MapEntry} {seen : Array Nat} {l : List (Int × List UInt8)} {Q : Exit → Act → World → Prop} {ts : Ts} {h : Hp} {a : Act} {w : World} (k : Pst G C0 n ts h a w) (hg : o.guard = none) (hd : compDst n o.dst = true)
  (hop : o.op = .next x false) (hx : compX n x = some xo) (hv : evX ts xo = .ptr i 0) (hb : h.b[m]? = some (pin g (.map es c))) (hi : h.b[i]? = some (pin r (.mapIter (some g) c seen c))) (hes : Es l es.toList) (hbo : BornOk es.toList c)
  (h0 : (leftOf es seen).size = 0 → ∀ a' w',Pst G C0 n (put ts o.dst (.tup [.bool false])) h a' w' → wpList P ops Q os a' w')
  (h1 : ∀ e ∈ (leftOf es seen).toList,∀ kk xx,(kk,xx) ∈ l → e.key = .int .i64 kk → e.val = .string ⟨xx.toArray⟩ → ∀ a' w',Pst G C0 n (put ts o.dst (.tup [.bool true,.int .i64 kk,.str xx])) ⟨h.b.set i (pin r (.mapIter (some g) c (seen.push e.born) c)),h.t⟩ a' w' → wpList P ops Q os a' w') : wpList P ops Q (o :: os) a w:=by
 obtain ⟨C,rfl,hI,hS,hT,hdf⟩:=k.out
 have hrep:=rep_opd hT hx
 rw [hv] at hrep
 obtain ⟨hev,hib⟩:=rep_ptr.1 hrep
 obtain ⟨q1,q2⟩:=pin_get hI hb
 obtain ⟨q3,q4⟩:=pin_get hI hi
 rw [q3] at hev
 unfold wpList
 rw [if_pos (by simp [Region.wanted,hg])]
 refine .inl ?_
 unfold Oper.wp
 rcases run_next_at (P:=P) C.w o.type r g c c seen es c q4 q2 (fun x hx => hbo.2 x hx) (Nat.le_refl _) with ⟨e0,hr⟩ | ⟨e,he,w1,hw1,hr⟩
 ·have he : (execOp a.eval o).run P C.w = .ok (.value (.tuple #[.bool false])) C.w:=by
   unfold execOp
   simp only [hop,hev,Sem.run_bind,hr,Result.andThen_ok]
   rfl
  rw [he,Oper.upon_value]
  exact h0 e0 _ _ ⟨C,rfl,hI,hS,hT.put hd (rep_tup.2 ⟨_,rfl,repL_cons.2 ⟨_,_,rfl,rep_bool.2 rfl,repL_nil.2 rfl⟩⟩),by rw [put_defers]; exact hdf⟩
 ·obtain ⟨kk,xx,m1,m2,m3⟩:=es_mem hes e (mem_left he).1
  have hex : (execOp a.eval o).run P C.w = .ok (.value (.tuple #[.bool true,e.key,e.val])) (setBlock w1 r (.mapIter (some g) c (seen.push e.born) c)):=by
   unfold execOp
   simp only [hop,hev,Sem.run_bind,hr,Result.andThen_ok]
   rfl
  rw [hex,Oper.upon_value]
  have hwh : w1.heap = C.w.heap ∧ w1.os = C.w.os ∧ w1.tape = C.w.tape ∧ w1.output = C.w.output:=by rcases hw1 with rfl | rfl <;> exact ⟨rfl,rfl,rfl,rfl⟩
  have hrl : r < C.w.heap.size:=(Array.getElem?_eq_some_iff.1 q4).1
  have hown : C.own r = some i:=by rw [← q3]; exact hI.ownk i hib
  obtain ⟨i1,s1⟩:=box_turn (w':=setBlock w1 r (.mapIter (some g) c (seen.push e.born) c)) (i:=i) (b':=pin r (.mapIter (some g) c (seen.push e.born) c)) false hI hib hwh.2.1 hwh.2.2.1 hwh.2.2.2
   (by show C.w.heap.size ≤ (w1.heap.setIfInBounds r _).size; rw [hwh.1]; simp)
   (fun gg hgg ho => by
    have hne : r ≠ gg:=fun e => ho (by rw [← e]; exact hown)
    show (w1.heap.setIfInBounds r _)[gg]? = _
    rw [Array.getElem?_setIfInBounds_ne hne,hwh.1])
   (fun hS => pin_rep (by
    rw [show (C.turn _ i false).κ i = C.κ i from rfl]
    show (if C.κ i < C.w.heap.size then C.own (C.κ i) else _) = some i
    rw [q3,if_pos hrl]; exact hown) q3 (by
    show (w1.heap.setIfInBounds r _)[r]? = _
    rw [Array.getElem?_setIfInBounds_self_of_lt (by rw [hwh.1]; exact hrl)]))
  refine h1 e he kk xx m1 m2 m3 _ _ ⟨_,rfl,i1,hS.trans s1,(hT.ext s1.ext).put hd (rep_tup.2 ⟨_,rfl,repL_cons.2 ⟨_,_,rfl,rep_bool.2 rfl,repL_cons.2 ⟨_,_,rfl,rep_int.2 m2,repL_cons.2 ⟨_,_,rfl,rep_str.2 m3,repL_nil.2 rfl⟩⟩⟩⟩),by rw [put_defers]; exact hdf⟩
theorem pl_entry {ops : Array Oper} {os : List Oper} {o : Oper} {x : Operand} {xo : Opd} {i m g r c : Nat} {es : Array MapEntry} {seen : Array Nat} {e : MapEntry} {kk : Int} {xx : List UInt8} {Q : Exit → Act → World → Prop} {ts : Ts} {h : Hp} {a : Act} {w : World} (k : Pst G C0 n ts h a w) (hg : o.guard = none) (hd : compDst n o.dst = true)
  (hop : o.op = .entry x) (hx : compX n x = some xo) (hv : evX ts xo = .ptr i 0) (hb : h.b[m]? = some (pin g (.map es c))) (hi : h.b[i]? = some (pin r (.mapIter (some g) c (seen.push e.born) c))) (hbo : BornOk es.toList c) (he : e ∈ es.toList) (m2 : e.key = .int .i64 kk) (m3 : e.val = .string ⟨xx.toArray⟩)
  (h1 : ∀ a' w',Pst G C0 n (put ts o.dst (.tup [.int .i64 kk,.str xx])) h a' w' → wpList P ops Q os a' w') : wpList P ops Q (o :: os) a w:=by
 obtain ⟨C,rfl,hI,hS,hT,hdf⟩:=k.out
 have hrep:=rep_opd hT hx
 rw [hv] at hrep
 obtain ⟨hev,hib⟩:=rep_ptr.1 hrep
 obtain ⟨q1,q2⟩:=pin_get hI hb
 obtain ⟨q3,q4⟩:=pin_get hI hi
 rw [q3] at hev
 have hr:=run_entry_at (P:=P) C.w r g c seen es c e q4 q2 he hbo.1
 unfold wpList
 rw [if_pos (by simp [Region.wanted,hg])]
 refine .inl ?_
 unfold Oper.wp
 have hex : (execOp a.eval o).run P C.w = .ok (.value (.tuple #[e.key,e.val])) C.w:=by
  unfold execOp
  simp only [hop,hev,Sem.run_bind,hr,Result.andThen_ok]
  rfl
 rw [hex,Oper.upon_value]
 exact h1 _ _ ⟨C,rfl,hI,hS,hT.put hd (rep_tup.2 ⟨_,rfl,repL_cons.2 ⟨_,_,rfl,rep_int.2 m2,repL_cons.2 ⟨_,_,rfl,rep_str.2 m3,repL_nil.2 rfl⟩⟩⟩),by rw [put_defers]; exact hdf⟩
theorem q_range {ops : Array Oper} {o0 o1 : Oper} {x d0 d1 m c : Nat} {T q e : TypeId} {l : List (Int × List UInt8)} {Q : AExit → Ts → Hp → Prop} {C : Ctx} {ts : Ts} {h : Hp} {a : Act} {w : World} (k : Pst G C n ts h a w)
  (e0 : o0.dst = some d0 ∧ o0.guard = none ∧ compOp P n o0 = some (.mv (.t x))) (e1 : o1.dst = some d1 ∧ o1.guard = none ∧ o1.op = .range T (.tmp d0)) (hd : d0 < n ∧ d1 < n) (hu : P.underlying T = some (.map q e))
  (tx : ts x = .mp m) (hb : h.b[m]? = some (.map (l.map fun e => (e.1,A.str e.2)) c))
  (hk : ∀ (g r : Nat) (es : Array MapEntry),Es l es.toList → BornOk es.toList c → Q .normal (put (put ts (some d0) (.mp m)) (some d1) (.ptr h.b.length 0)) ⟨h.b.set m (pin g (.map es c)) ++ [pin r (.mapIter (some g) c #[] c)],h.t⟩) :
  wpList P ops (Post G C n Q) [o0,o1] a w:=by
 obtain ⟨a1,a2,a3⟩:=e0
 obtain ⟨b1,b2,b3⟩:=e1
 refine pl_op (ao:=.mv (.t x)) (v:=.mp m) (h':=h) k a2 (by rw [a1]; simpa [compDst] using hd.1) a3 rfl (by show some (ts x,h) = _; rw [tx]) fun a' w' k1 => ?_
 rw [a1] at k1
 refine pl_range (T:=T) (q:=q) (e:=e) (x:=.tmp d0) (xo:=.t d0) (m:=m) (c:=c) (l:=l) k1 b2 (by rw [b1]; simpa [compDst] using hd.2) b3 hu (by simp [compX,hd.1]) (by show (if d0 = d0 then A.mp m else ts d0) = _; rw [if_pos rfl]) hb fun g r es a2 w2 e1 e2 k2 => ?_
 rw [b1] at k2
 exact pl_nil (ts:=ts) (h:=h) (k2.post (hk g r es e1 e2))
theorem q_next {ops : Array Oper} {o0 o1 : Oper} {it d0 d1 i m g r c : Nat} {es : Array MapEntry} {seen : Array Nat} {l : List (Int × List UInt8)} {Q : AExit → Ts → Hp → Prop} {C : Ctx} {ts : Ts} {h : Hp} {a : Act} {w : World} (k : Pst G C n ts h a w)
  (e0 : o0.dst = some d0 ∧ o0.guard = none ∧ o0.op = .next (.tmp it) false) (e1 : o1.dst = some d1 ∧ o1.guard = none ∧ compOp P n o1 = some (.extract (.t d0) 0)) (hd : it < n ∧ d0 < n ∧ d1 < n)
  (tx : ts it = .ptr i 0) (hb : h.b[m]? = some (pin g (.map es c))) (hi : h.b[i]? = some (pin r (.mapIter (some g) c seen c))) (hes : Es l es.toList) (hbo : BornOk es.toList c)
  (h0 : (leftOf es seen).size = 0 → Q .normal (put (put ts (some d0) (.tup [.bool false])) (some d1) (.bool false)) h)
  (h1 : ∀ e ∈ (leftOf es seen).toList,∀ kk xx,(kk,xx) ∈ l → e.key = .int .i64 kk → e.val = .string ⟨xx.toArray⟩ → Q .normal (put (put ts (some d0) (.tup [.bool true,.int .i64 kk,.str xx])) (some d1) (.bool true)) ⟨h.b.set i (pin r (.mapIter (some g) c (seen.push e.born) c)),h.t⟩) :
  wpList P ops (Post G C n Q) [o0,o1] a w:=by
 obtain ⟨a1,a2,a3⟩:=e0
 obtain ⟨b1,b2,b3⟩:=e1
 have ex : ∀ v,put ts (some d0) v d0 = v:=fun v => by show (if d0 = d0 then v else ts d0) = _; rw [if_pos rfl]
 refine pl_next (x:=.tmp it) (xo:=.t it) (i:=i) (m:=m) (g:=g) (r:=r) (c:=c) (es:=es) (seen:=seen) (l:=l) k a2 (by rw [a1]; simpa [compDst] using hd.2.1) a3 (by simp [compX,hd.1]) tx hb hi hes hbo (fun e0 a' w' k1 => ?_) (fun e he kk xx m1 m2 m3 a' w' k1 => ?_)
 ·rw [a1] at k1
  refine pl_op (ao:=.extract (.t d0) 0) (v:=.bool false) (h':=h) k1 b2 (by rw [b1]; simpa [compDst] using hd.2.2) b3 rfl (by simp only [astep,evX,ex]; rfl) fun a2 w2 k2 => ?_
  rw [b1] at k2
  exact pl_nil (ts:=ts) (h:=h) (k2.post (h0 e0))
 ·rw [a1] at k1
  refine pl_op (ao:=.extract (.t d0) 0) (v:=.bool true) k1 b2 (by rw [b1]; simpa [compDst] using hd.2.2) b3 rfl (by simp only [astep,evX,ex]; rfl) fun a2 w2 k2 => ?_
  rw [b1] at k2
  exact pl_nil (ts:=ts) (h:=h) (k2.post (h1 e he kk xx m1 m2 m3))
theorem q_entry {ops : Array Oper} {o0 o1 o2 o3 o4 : Oper} {it d0 d1 d2 d3 d4 i m g r c : Nat} {es : Array MapEntry} {seen : Array Nat} {e : MapEntry} {kk : Int} {xx : List UInt8} {Q : AExit → Ts → Hp → Prop} {C : Ctx} {ts : Ts} {h : Hp} {a : Act} {w : World} (k : Pst G C n ts h a w)
  (e0 : o0.dst = some d0 ∧ o0.guard = none ∧ o0.op = .entry (.tmp it)) (e1 : o1.dst = some d1 ∧ o1.guard = none ∧ compOp P n o1 = some (.extract (.t d0) 0)) (e2 : o2.dst = some d2 ∧ o2.guard = none ∧ compOp P n o2 = some (.extract (.t d0) 1))
  (e3 : o3.dst = some d3 ∧ o3.guard = none ∧ compOp P n o3 = some (.mv (.t d1))) (e4 : o4.dst = some d4 ∧ o4.guard = none ∧ compOp P n o4 = some (.mv (.t d2))) (hd : it < n ∧ d0 < n ∧ d1 < n ∧ d2 < n ∧ d3 < n ∧ d4 < n) (hne : d1 ≠ d0 ∧ d2 ≠ d1 ∧ d3 ≠ d2)
  (tx : ts it = .ptr i 0) (hb : h.b[m]? = some (pin g (.map es c))) (hi : h.b[i]? = some (pin r (.mapIter (some g) c (seen.push e.born) c))) (hbo : BornOk es.toList c) (he : e ∈ es.toList) (m2 : e.key = .int .i64 kk) (m3 : e.val = .string ⟨xx.toArray⟩)
  (h1 : Q .normal (put (put (put (put (put ts (some d0) (.tup [.int .i64 kk,.str xx])) (some d1) (.int .i64 kk)) (some d2) (.str xx)) (some d3) (.int .i64 kk)) (some d4) (.str xx)) h) :
  wpList P ops (Post G C n Q) [o0,o1,o2,o3,o4] a w:=by
 obtain ⟨a1,a2,a3⟩:=e0
 obtain ⟨b1,b2,b3⟩:=e1
 obtain ⟨c1,c2,c3⟩:=e2
 obtain ⟨f1,f2,f3⟩:=e3
 obtain ⟨g1,g2,g3⟩:=e4
 have ex : ∀ (ts : Ts) d v,put ts (some d) v d = v:=fun ts d v => by show (if d = d then v else ts d) = _; rw [if_pos rfl]
 have en : ∀ (ts : Ts) (d d' : Nat) v,d' ≠ d → put ts (some d) v d' = ts d':=fun ts d d' v hh => by show (if d' = d then v else ts d') = _; rw [if_neg hh]
 refine pl_entry (x:=.tmp it) (xo:=.t it) (i:=i) (m:=m) (g:=g) (r:=r) (c:=c) (es:=es) (seen:=seen) k a2 (by rw [a1]; simpa [compDst] using hd.2.1) a3 (by simp [compX,hd.1]) tx hb hi hbo he m2 m3 fun a1' w1 k1 => ?_
 rw [a1] at k1
 refine pl_op (ao:=.extract (.t d0) 0) (v:=.int .i64 kk) (h':=h) k1 b2 (by rw [b1]; simpa [compDst] using hd.2.2.1) b3 rfl (by simp only [astep,evX,ex]; rfl) fun a2' w2 k2 => ?_
 rw [b1] at k2
 refine pl_op (ao:=.extract (.t d0) 1) (v:=.str xx) (h':=h) k2 c2 (by rw [c1]; simpa [compDst] using hd.2.2.2.1) c3 rfl (by simp only [astep,evX,ex,en _ _ _ _ hne.1.symm]; rfl) fun a3' w3 k3 => ?_
 rw [c1] at k3
 refine pl_op (ao:=.mv (.t d1)) (v:=.int .i64 kk) (h':=h) k3 f2 (by rw [f1]; simpa [compDst] using hd.2.2.2.2.1) f3 rfl (by simp only [astep,evX,ex,en _ _ _ _ hne.2.1.symm]) fun a4' w4 k4 => ?_
 rw [f1] at k4
 refine pl_op (ao:=.mv (.t d2)) (v:=.str xx) (h':=h) k4 g2 (by rw [g1]; simpa [compDst] using hd.2.2.2.2.2) g3 rfl (by simp only [astep,evX,ex,en _ _ _ _ hne.2.2.symm]) fun a5' w5 k5 => ?_
 rw [g1] at k5
 exact pl_nil (ts:=ts) (h:=h) (k5.post h1)
theorem pr_range {cd : Code} {x d0 d1 m c : Nat} {T q e : TypeId} {l : List (Int × List UInt8)} {Q : AExit → Ts → Hp → Prop} {ts : Ts} {h : Hp} (hc : cd = .region (regId cd) (regOps cd) false) (hl : (regOps cd).toList = [opAt cd 0,opAt cd 1])
  (e0 : (opAt cd 0).dst = some d0 ∧ (opAt cd 0).guard = none ∧ compOp P n (opAt cd 0) = some (.mv (.t x))) (e1 : (opAt cd 1).dst = some d1 ∧ (opAt cd 1).guard = none ∧ (opAt cd 1).op = .range T (.tmp d0)) (hd : d0 < n ∧ d1 < n) (hu : P.underlying T = some (.map q e))
  (tx : ts x = .mp m) (hb : h.b[m]? = some (.map (l.map fun e => (e.1,A.str e.2)) c))
  (hk : ∀ (g r : Nat) (es : Array MapEntry),Es l es.toList → BornOk es.toList c → Q .normal (put (put ts (some d0) (.mp m)) (some d1) (.ptr h.b.length 0)) ⟨h.b.set m (pin g (.map es c)) ++ [pin r (.mapIter (some g) c #[] c)],h.t⟩) :
  awp P G (.prim n cd) Q ts h:=go_prim fun C a hI hT hdd => wp_prim hc hl (q_range (pst_of hI hT hdd) e0 e1 hd hu tx hb hk)
theorem pr_next {cd : Code} {it d0 d1 i m g r c : Nat} {es : Array MapEntry} {seen : Array Nat} {l : List (Int × List UInt8)} {Q : AExit → Ts → Hp → Prop} {ts : Ts} {h : Hp} (hc : cd = .region (regId cd) (regOps cd) false) (hl : (regOps cd).toList = [opAt cd 0,opAt cd 1])
  (e0 : (opAt cd 0).dst = some d0 ∧ (opAt cd 0).guard = none ∧ (opAt cd 0).op = .next (.tmp it) false) (e1 : (opAt cd 1).dst = some d1 ∧ (opAt cd 1).guard = none ∧ compOp P n (opAt cd 1) = some (.extract (.t d0) 0)) (hd : it < n ∧ d0 < n ∧ d1 < n)
  (tx : ts it = .ptr i 0) (hb : h.b[m]? = some (pin g (.map es c))) (hi : h.b[i]? = some (pin r (.mapIter (some g) c seen c))) (hes : Es l es.toList) (hbo : BornOk es.toList c)
  (h0 : (leftOf es seen).size = 0 → Q .normal (put (put ts (some d0) (.tup [.bool false])) (some d1) (.bool false)) h)
  (h1 : ∀ e ∈ (leftOf es seen).toList,∀ kk xx,(kk,xx) ∈ l → e.key = .int .i64 kk → e.val = .string ⟨xx.toArray⟩ → Q .normal (put (put ts (some d0) (.tup [.bool true,.int .i64 kk,.str xx])) (some d1) (.bool true)) ⟨h.b.set i (pin r (.mapIter (some g) c (seen.push e.born) c)),h.t⟩) :
  awp P G (.prim n cd) Q ts h:=go_prim fun C a hI hT hdd => wp_prim hc hl (q_next (pst_of hI hT hdd) e0 e1 hd tx hb hi hes hbo h0 h1)
theorem pr_entry {cd : Code} {it d0 d1 d2 d3 d4 i m g r c : Nat} {es : Array MapEntry} {seen : Array Nat} {e : MapEntry} {kk : Int} {xx : List UInt8} {Q : AExit → Ts → Hp → Prop} {ts : Ts} {h : Hp} (hc : cd = .region (regId cd) (regOps cd) false) (hl : (regOps cd).toList = [opAt cd 0,opAt cd 1,opAt cd 2,opAt cd 3,opAt cd 4])
  (e0 : (opAt cd 0).dst = some d0 ∧ (opAt cd 0).guard = none ∧ (opAt cd 0).op = .entry (.tmp it)) (e1 : (opAt cd 1).dst = some d1 ∧ (opAt cd 1).guard = none ∧ compOp P n (opAt cd 1) = some (.extract (.t d0) 0)) (e2 : (opAt cd 2).dst = some d2 ∧ (opAt cd 2).guard = none ∧ compOp P n (opAt cd 2) = some (.extract (.t d0) 1))
  (e3 : (opAt cd 3).dst = some d3 ∧ (opAt cd 3).guard = none ∧ compOp P n (opAt cd 3) = some (.mv (.t d1))) (e4 : (opAt cd 4).dst = some d4 ∧ (opAt cd 4).guard = none ∧ compOp P n (opAt cd 4) = some (.mv (.t d2))) (hd : it < n ∧ d0 < n ∧ d1 < n ∧ d2 < n ∧ d3 < n ∧ d4 < n) (hne : d1 ≠ d0 ∧ d2 ≠ d1 ∧ d3 ≠ d2)
  (tx : ts it = .ptr i 0) (hb : h.b[m]? = some (pin g (.map es c))) (hi : h.b[i]? = some (pin r (.mapIter (some g) c (seen.push e.born) c))) (hbo : BornOk es.toList c) (he : e ∈ es.toList) (m2 : e.key = .int .i64 kk) (m3 : e.val = .string ⟨xx.toArray⟩)
  (h1 : Q .normal (put (put (put (put (put ts (some d0) (.tup [.int .i64 kk,.str xx])) (some d1) (.int .i64 kk)) (some d2) (.str xx)) (some d3) (.int .i64 kk)) (some d4) (.str xx)) h) :
  awp P G (.prim n cd) Q ts h:=go_prim fun C a hI hT hdd => wp_prim hc hl (q_entry (pst_of hI hT hdd) e0 e1 e2 e3 e4 hd hne tx hb hi hbo he m2 m3 h1)
end
end AX
end Go.Proofs.YtnjkemakcejceaaGreatDoor

namespace Go.Proofs.YtnjkemakcejceaaGreatDoor
open Go.RowKit
set_option maxHeartbeats 4000000
namespace AX
theorem lfind_put (n : Int) (x : List UInt8) : ∀ es,lfind n (lput n x es) = some x
 | [] => by simp [lput,lfind]
 | (k,y) :: l => by
  unfold lput
  split
  ·simp [lfind]
  ·next h => simp only [lfind,if_neg h]; exact lfind_put n x l
theorem lfind_put_ne (m n : Int) (x : List UInt8) (h : m ≠ n) : ∀ es,lfind m (lput n x es) = lfind m es
 | [] => by simp [lput,lfind,h]
 | (k,y) :: l => by
  unfold lput
  split
  ·next e => subst e; simp only [lfind,if_neg h]
  ·unfold lfind
   split
   ·rfl
   ·exact lfind_put_ne m n x h l
theorem lfind_mem (n : Int) (x : List UInt8) : ∀ es,lfind n es = some x → (n,x) ∈ es
 | [],h => by simp [lfind] at h
 | (k,y) :: l,h => by
  unfold lfind at h
  split at h
  ·next e => subst e; injection h with h; subst h; simp
  ·exact List.mem_cons_of_mem _ (lfind_mem n x l h)
theorem mem_put {m n : Int} {x y : List UInt8} : ∀ {es},(m,y) ∈ lput n x es → (m = n ∧ y = x) ∨ (m,y) ∈ es
 | [],h => by simp [lput] at h; exact .inl h
 | (k,z) :: l,h => by
  unfold lput at h
  split at h
  ·rcases List.mem_cons.1 h with h | h
   ·injection h with h1 h2; exact .inl ⟨h1,h2⟩
   ·exact .inr (List.mem_cons_of_mem _ h)
  ·rcases List.mem_cons.1 h with h | h
   ·exact .inr (by rw [h]; simp)
   ·rcases mem_put h with h | h
    ·exact .inl h
    ·exact .inr (List.mem_cons_of_mem _ h)
theorem put_mem_self (n : Int) (x : List UInt8) : ∀ es,(n,x) ∈ lput n x es
 | [] => by simp [lput]
 | (k,z) :: l => by
  unfold lput
  split
  ·simp
  ·exact List.mem_cons_of_mem _ (put_mem_self n x l)
theorem put_mem_ne {m n : Int} {x y : List UInt8} (h : m ≠ n) : ∀ {es},(m,y) ∈ es → (m,y) ∈ lput n x es
 | [],hm => by cases hm
 | (k,z) :: l,hm => by
  unfold lput
  split
  ·next e =>
   rcases List.mem_cons.1 hm with h' | h'
   ·injection h' with h1 h2; exact absurd (h1.trans e.symm) h
   ·exact List.mem_cons_of_mem _ h'
  ·rcases List.mem_cons.1 hm with h' | h'
   ·rw [h']; simp
   ·exact List.mem_cons_of_mem _ (put_mem_ne h h')
theorem liftS2 {P : Program} {G : World → Prop} {f : FuncId} {args : List A} {s : Sto} {R : A → Sto → Prop} (hc : ACall P G f (.ptr 1 0 :: args) ⟨[s.M,s.B],[]⟩ fun v' h' => ∃ s',R v' s' ∧ v'.loc 0 = true ∧ h'.b[0]? = some s'.M ∧ h'.b[1]? = some s'.B) (ha : A.locL 0 args = true) (l : List Blk) (t : List (TypeId × Nat × Nat)) :
  ACall P G f (.ptr 1 0 :: args) ⟨s.M :: s.B :: l,t⟩ fun v' h' => ∃ s',R v' s' ∧ h' = ⟨s'.M :: s'.B :: l,t⟩:=by
 have key:=ACall.lift hc (fun i => i) (fun a b _ _ e => e) (by unfold A.locL; rw [(A.locL0 _ args ha).1]; rfl)
  (fun x hx => by
   rcases List.mem_cons.1 hx with rfl | hx
   ·exact s.M_loc.1
   ·rw [List.mem_singleton.1 hx]; rfl)
  (fun v' h' ⟨s',_,e,h0,h1⟩ => ⟨(A.loc0 _ v' e).1,fun j x hj hx => by
   have : j = 0 ∨ j = 1:=by simp only [List.length_cons,List.length_nil] at hj; omega
   rcases this with rfl | rfl
   ·rw [h0] at hx; injection hx with hx; subst hx; exact s'.M_loc.1
   ·rw [h1] at hx; injection hx with hx; subst hx; rfl⟩)
  (h:=⟨s.M :: s.B :: l,t⟩) (fun j hj => by
   have : j = 0 ∨ j = 1:=by simp only [List.length_cons,List.length_nil] at hj; omega
   rcases this with rfl | rfl
   ·show some s.M = some (s.M.ren fun i => i); rw [s.M_loc.2]
   ·rfl)
 have e : A.renL (fun i => i) (.ptr 1 0 :: args) = .ptr 1 0 :: args:=by unfold A.renL; rw [(A.locL0 0 args ha).2]; rfl
 rw [e] at key
 refine key.mono ?_
 rintro v' h' ⟨v0,⟨b0,t0⟩,⟨s',hR,hv,h0,h1⟩,rfl,rfl⟩
 refine ⟨s',by rw [(A.loc0 0 _ hv).2]; exact hR,?_⟩
 match b0,h0,h1 with
 | x :: y :: b,h0,h1 =>
  simp only [List.getElem?_cons_zero,List.getElem?_cons_succ,Option.some.injEq] at h0 h1
  subst h0; subst h1
  simp only [List.length_cons,List.length_nil,List.take_succ_cons,List.take_zero,setAll,s'.M_loc.2]
  rfl
def Sto.anew (s : Sto) (key : List UInt8) (n : Int) : List UInt8:=(Seal.rekey s.key key ((lfind n s.es).getD [])).1
structure Sto.Rekeyed (s : Sto) (q : List UInt8) (s' : Sto) : Prop where
 key : s'.key = q
 lin : s'.lin = s.lin
 latest : s'.latest = s.latest
 own : s'.own = s.own
 left : s'.left = s.left
 good : ∀ n ∈ s.serials,(Seal.rekey s.key q ((lfind n s.es).getD [])).2 = 0
 es : ∀ n,n ∈ s.serials → lfind n s'.es = some (s.anew q n)
 only : ∀ n x,(n,x) ∈ s'.es → n ∈ s.serials ∧ x = s.anew q n
theorem a_srekey (k q p : List UInt8) (hk : k.length ≤ 1000000000) (hq : q.length ≤ 1000000000) (hp : p.length ≤ 1048600) (h : Hp) : ACall Tryz.prog GT 70 [.str k,.str q,.str p] h fun r h' => r = .tup [.str (Seal.rekey k q p).1,.int .i64 (Seal.rekey k q p).2] ∧ h' = h:=
 acall_imp (args3 r_str r_str r_str) (fun w hg => rekey_any ⟨k.toArray⟩ ⟨q.toArray⟩ ⟨p.toArray⟩ w (by rw [size_mk]; exact hk) (by rw [size_mk]; exact hq) (by rw [size_mk]; exact hp)) (fun C => rep_tup.2 ⟨_,rfl,repL_cons.2 ⟨_,_,rfl,rep_str.2 rfl,repL_cons.2 ⟨_,_,rfl,rep_int.2 rfl,repL_nil.2 rfl⟩⟩⟩) h
noncomputable def c_srekey : AX.AFn:=⟨78,.seq (.reg false [aR 6 (.mv (aI 0))]) (.seq (.seq (.reg false [aM 15 0,aR 16 (.call 67 [.t 15]),aR 17 (.un .not (.t 16))]) (.cond (.t 17) (.seq (.reg false [aR 6 (.mv (aI 38))]) (.ret)) (.skip))) (.seq (.seq (.reg false [aM 18 0,aM 19 1,aR 20 (.call 68 [.t 18,.t 19]),aR 21 (.un .not (.t 20))]) (.cond (.t 21) (.seq (.reg false [aR 6 (.mv (aI 25))]) (.ret)) (.skip))) (.seq (.seq (.reg false [aM 22 2,aR 23 (.call 61 [.t 22]),aM 7 23]) (.seq (.reg false [aM 24 7,aR 25 (.bin .neq (.t 24) (aI 0))]) (.cond (.t 25) (.seq (.reg false [aM 26 7,aM 6 26]) (.ret)) (.skip)))) (.seq (.reg false [aR 27 (.mkmap),aM 8 27]) (.seq (.seq (.reg false [aM 28 0,aR 29 (.call 37 [.t 28]),aR 30 (.len false (.t 29)),aR 31 (.mv (aI 0))]) (.block 0 (.loop (.seq (.reg false [aR 32 (.bin .lss (.t 31) (.t 30))]) (.seq (.cond (.t 32) (.skip) (.exit 0)) (.seq (.block 1 (.seq (.reg false [aR 33 (.iaddr 1 (.t 29) (.t 31)),aR 34 (.load false 1 (.t 33)),aM 10 34]) (.seq (.reg true [aM 36 0,⟨some 37,.nilck (.t 36),none,[0]⟩,⟨some 38,.faddr 0 (.t 37),none,[1]⟩,⟨some 39,.load false 1 (.t 38),none,[2]⟩,aM 40 2,aM 41 0,⟨some 42,.nilck (.t 41),none,[5]⟩,⟨some 43,.faddr 3 (.t 42),none,[6]⟩,⟨some 44,.load false 1 (.t 43),none,[7]⟩,aM 45 10,⟨some 46,.mget (.str []) false (.t 44) (.t 45),none,[8,9]⟩,⟨some 47,.call 70 [.t 39,.t 40,.t 46],none,[3,4,10]⟩,⟨some 35,.mv (.t 47),none,[11]⟩,⟨some 48,.extract (.t 35) 0,none,[12]⟩,⟨some 49,.extract (.t 35) 1,none,[12]⟩,⟨some 11,.mv (.t 48),none,[13,11,0,1,2,3,4,5,6,7,8,9,10,11,12,13]⟩,⟨some 12,.mv (.t 49),none,[14,15,0,1,2,3,4,5,6,7,8,9,10,11,12,13,14,15]⟩]) (.seq (.seq (.reg false [aM 50 12,aR 51 (.bin .neq (.t 50) (aI 0))]) (.cond (.t 51) (.seq (.reg false [aM 52 12,aM 6 52]) (.ret)) (.skip))) (.reg false [aM 53 8,aM 54 10,aM 55 11,aU (.mset (.t 53) (.t 54) (.t 55))]))))) (.reg false [aR 56 (.bin .add (.t 31) (aI 1)),aM 31 56]))))))) (.seq (.reg false [aM 57 0,aR 58 (.nilck (.t 57)),aR 59 (.faddr 3 (.t 58)),aR 60 (.load false 1 (.t 59)),aU (.mclr (.t 60))]) (.seq (.seq (.prim 78 (AX.rg Tryz.prog 30 0)) (.block 2 (.loop (.seq (.prim 78 (AX.rg Tryz.prog 30 1)) (.seq (.cond (.t 64) (.skip) (.exit 2)) (.block 3 (.seq (.prim 78 (AX.rg Tryz.prog 30 2)) (.reg false [aM 68 0,aR 69 (.nilck (.t 68)),aR 70 (.faddr 3 (.t 69)),aR 71 (.load false 1 (.t 70)),aM 72 13,aM 73 14,aU (.mset (.t 71) (.t 72) (.t 73))])))))))) (.seq (.reg false [aM 74 0,aM 75 2,aR 76 (.nilck (.t 74)),aR 77 (.faddr 0 (.t 76)),aU (.store 1 (.t 77) (.t 75))]) (.seq (.reg false [aR 6 (.mv (aI 0))]) (.ret)))))))))),[.t 6]⟩
theorem h_srekey : AX.compFn Tryz.prog 30 = some c_srekey:=by kernel_rfl
theorem rk0 : AX.rg Tryz.prog 30 0 = .region (regId (AX.rg Tryz.prog 30 0)) (regOps (AX.rg Tryz.prog 30 0)) false:=by kernel_rfl
theorem rk1 : AX.rg Tryz.prog 30 1 = .region (regId (AX.rg Tryz.prog 30 1)) (regOps (AX.rg Tryz.prog 30 1)) false:=by kernel_rfl
theorem rk2 : AX.rg Tryz.prog 30 2 = .region (regId (AX.rg Tryz.prog 30 2)) (regOps (AX.rg Tryz.prog 30 2)) false:=by kernel_rfl
theorem rl0 : (regOps (AX.rg Tryz.prog 30 0)).toList = [opAt (AX.rg Tryz.prog 30 0) 0,opAt (AX.rg Tryz.prog 30 0) 1]:=by kernel_rfl
theorem rl1 : (regOps (AX.rg Tryz.prog 30 1)).toList = [opAt (AX.rg Tryz.prog 30 1) 0,opAt (AX.rg Tryz.prog 30 1) 1]:=by kernel_rfl
theorem rl2 : (regOps (AX.rg Tryz.prog 30 2)).toList = [opAt (AX.rg Tryz.prog 30 2) 0,opAt (AX.rg Tryz.prog 30 2) 1,opAt (AX.rg Tryz.prog 30 2) 2,opAt (AX.rg Tryz.prog 30 2) 3,opAt (AX.rg Tryz.prog 30 2) 4]:=by kernel_rfl
theorem rf00 : (opAt (AX.rg Tryz.prog 30 0) 0).dst = some 61 ∧ (opAt (AX.rg Tryz.prog 30 0) 0).guard = none ∧ compOp Tryz.prog 78 (opAt (AX.rg Tryz.prog 30 0) 0) = some (.mv (.t 8)):=⟨by kernel_rfl,by kernel_rfl,by kernel_rfl⟩
theorem rf01 : (opAt (AX.rg Tryz.prog 30 0) 1).dst = some 62 ∧ (opAt (AX.rg Tryz.prog 30 0) 1).guard = none ∧ (opAt (AX.rg Tryz.prog 30 0) 1).op = .range 77 (.tmp 61):=⟨by kernel_rfl,by kernel_rfl,by kernel_rfl⟩
theorem rf10 : (opAt (AX.rg Tryz.prog 30 1) 0).dst = some 63 ∧ (opAt (AX.rg Tryz.prog 30 1) 0).guard = none ∧ (opAt (AX.rg Tryz.prog 30 1) 0).op = .next (.tmp 62) false:=⟨by kernel_rfl,by kernel_rfl,by kernel_rfl⟩
theorem rf11 : (opAt (AX.rg Tryz.prog 30 1) 1).dst = some 64 ∧ (opAt (AX.rg Tryz.prog 30 1) 1).guard = none ∧ compOp Tryz.prog 78 (opAt (AX.rg Tryz.prog 30 1) 1) = some (.extract (.t 63) 0):=⟨by kernel_rfl,by kernel_rfl,by kernel_rfl⟩
theorem rf20 : (opAt (AX.rg Tryz.prog 30 2) 0).dst = some 65 ∧ (opAt (AX.rg Tryz.prog 30 2) 0).guard = none ∧ (opAt (AX.rg Tryz.prog 30 2) 0).op = .entry (.tmp 62):=⟨by kernel_rfl,by kernel_rfl,by kernel_rfl⟩
theorem rf21 : (opAt (AX.rg Tryz.prog 30 2) 1).dst = some 66 ∧ (opAt (AX.rg Tryz.prog 30 2) 1).guard = none ∧ compOp Tryz.prog 78 (opAt (AX.rg Tryz.prog 30 2) 1) = some (.extract (.t 65) 0):=⟨by kernel_rfl,by kernel_rfl,by kernel_rfl⟩
theorem rf22 : (opAt (AX.rg Tryz.prog 30 2) 2).dst = some 67 ∧ (opAt (AX.rg Tryz.prog 30 2) 2).guard = none ∧ compOp Tryz.prog 78 (opAt (AX.rg Tryz.prog 30 2) 2) = some (.extract (.t 65) 1):=⟨by kernel_rfl,by kernel_rfl,by kernel_rfl⟩
theorem rf23 : (opAt (AX.rg Tryz.prog 30 2) 3).dst = some 13 ∧ (opAt (AX.rg Tryz.prog 30 2) 3).guard = none ∧ compOp Tryz.prog 78 (opAt (AX.rg Tryz.prog 30 2) 3) = some (.mv (.t 66)):=⟨by kernel_rfl,by kernel_rfl,by kernel_rfl⟩
theorem rf24 : (opAt (AX.rg Tryz.prog 30 2) 4).dst = some 14 ∧ (opAt (AX.rg Tryz.prog 30 2) 4).guard = none ∧ compOp Tryz.prog 78 (opAt (AX.rg Tryz.prog 30 2) 4) = some (.mv (.t 67)):=⟨by kernel_rfl,by kernel_rfl,by kernel_rfl⟩
theorem rfU : Tryz.prog.underlying 77 = some (.map 3 9):=by kernel_rfl
theorem p_range {m c : Nat} {l : List (Int × List UInt8)} {Q : AExit → Ts → Hp → Prop} {ts : Ts} {h : Hp} (t8 : ts 8 = .mp m) (hb : h.b[m]? = some (.map (strM l) c))
  (hk : ∀ (g r : Nat) (es : Array MapEntry),Es l es.toList → BornOk es.toList c → Q .normal (put (put ts (some 61) (.mp m)) (some 62) (.ptr h.b.length 0)) ⟨h.b.set m (pin g (.map es c)) ++ [pin r (.mapIter (some g) c #[] c)],h.t⟩) :
  awp Tryz.prog GT (.prim 78 (AX.rg Tryz.prog 30 0)) Q ts h:=
 pr_range rk0 rl0 rf00 rf01 (by decide) rfU t8 hb hk
theorem p_next {i m g r c : Nat} {es : Array MapEntry} {seen : Array Nat} {l : List (Int × List UInt8)} {Q : AExit → Ts → Hp → Prop} {ts : Ts} {h : Hp} (t62 : ts 62 = .ptr i 0) (hb : h.b[m]? = some (pin g (.map es c))) (hi : h.b[i]? = some (pin r (.mapIter (some g) c seen c))) (hes : Es l es.toList) (hbo : BornOk es.toList c)
  (h0 : (leftOf es seen).size = 0 → Q .normal (put (put ts (some 63) (.tup [.bool false])) (some 64) (.bool false)) h)
  (h1 : ∀ e ∈ (leftOf es seen).toList,∀ kk xx,(kk,xx) ∈ l → e.key = .int .i64 kk → e.val = .string ⟨xx.toArray⟩ → Q .normal (put (put ts (some 63) (.tup [.bool true,.int .i64 kk,.str xx])) (some 64) (.bool true)) ⟨h.b.set i (pin r (.mapIter (some g) c (seen.push e.born) c)),h.t⟩) :
  awp Tryz.prog GT (.prim 78 (AX.rg Tryz.prog 30 1)) Q ts h:=
 pr_next rk1 rl1 rf10 rf11 (by decide) t62 hb hi hes hbo h0 h1
theorem p_entry {i m g r c : Nat} {es : Array MapEntry} {seen : Array Nat} {e : MapEntry} {kk : Int} {xx : List UInt8} {Q : AExit → Ts → Hp → Prop} {ts : Ts} {h : Hp} (t62 : ts 62 = .ptr i 0) (hb : h.b[m]? = some (pin g (.map es c))) (hi : h.b[i]? = some (pin r (.mapIter (some g) c (seen.push e.born) c))) (hbo : BornOk es.toList c) (he : e ∈ es.toList) (m2 : e.key = .int .i64 kk) (m3 : e.val = .string ⟨xx.toArray⟩)
  (h1 : Q .normal (put (put (put (put (put ts (some 65) (.tup [.int .i64 kk,.str xx])) (some 66) (.int .i64 kk)) (some 67) (.str xx)) (some 13) (.int .i64 kk)) (some 14) (.str xx)) h) :
  awp Tryz.prog GT (.prim 78 (AX.rg Tryz.prog 30 2)) Q ts h:=
 pr_entry rk2 rl2 rf20 rf21 rf22 rf23 rf24 (by decide) (by decide) t62 hb hi hbo he m2 m3 h1
end AX
end Go.Proofs.YtnjkemakcejceaaGreatDoor

namespace Go.Proofs.YtnjkemakcejceaaGreatDoor
open Go.RowKit
set_option maxHeartbeats 4000000
namespace AX
theorem rowsI_get (l : List Int) (j : Nat) (hj : j < l.length) : (rowsI l).getD j [] = [.int .i64 l[j]]:=by simp [rowsI,List.getD,hj]
theorem rowsI_length (l : List Int) : (rowsI l).length = l.length:=by simp [rowsI]
theorem rekeyed_of {s : Sto} {q : List UInt8} {es1 es2 : List (Int × List UInt8)} {c2 : Nat} {es0 : Array MapEntry} {seen : Array Nat} (hes : Es es1 es0.toList) (h0 : (leftOf es0 seen).size = 0)
  (i1 : ∀ n x,(n,x) ∈ es1 → n ∈ s.serials ∧ x = s.anew q n) (i2 : ∀ n ∈ s.serials,(n,s.anew q n) ∈ es1 ∧ (Seal.rekey s.key q ((lfind n s.es).getD [])).2 = 0) (i3 : ∀ n x,(n,x) ∈ es2 → (n,x) ∈ es1)
  (i4 : ∀ e ∈ es0.toList,seen.contains e.born = true → ∀ n x,e.key = .int .i64 n → e.val = .string ⟨x.toArray⟩ → lfind n es2 = some x) : s.Rekeyed q ⟨q,s.lin,s.latest,es2,c2,s.own,s.left⟩:=by
 refine ⟨rfl,rfl,rfl,rfl,rfl,fun n hn => (i2 n hn).2,fun n hn => ?_,fun n x hx => i1 n x (i3 n x hx)⟩
 obtain ⟨e,he,k1,k2⟩:=es_mem' hes n _ (i2 n hn).1
 refine i4 e he ?_ n _ k1 k2
 cases hc : seen.contains e.born with
 | true => rfl
 | false =>
  exfalso
  have : e ∈ leftOf es0 seen:=by
   unfold leftOf
   rw [Array.mem_filter]
   exact ⟨Array.mem_toList_iff.1 he,by rw [hc]; rfl⟩
  have:=Array.size_pos_of_mem this
  omega
theorem a_rekey0 (s : Sto) (who q : List UInt8) (hk : s.key.length ≤ 1000000000) (hq : q.length ≤ 1000000000) (h0 : 0 ≤ s.latest) (h1 : s.latest ≤ 9007199254740992) (hb : ∀ n b,lfind n s.es = some b → b.length ≤ 1048600) :
  ACall Tryz.prog GT 30 [.ptr 1 0,.str who,.str q] ⟨[s.M,s.B],[]⟩ fun v' h' => ∃ s',(∃ e : Int,v' = .int .i64 e ∧ ((e ≠ 0 ∧ s' = s) ∨ (e = 0 ∧ s.holds who = true ∧ Seal.check q = 0 ∧ s.Rekeyed q s'))) ∧ v'.loc 0 = true ∧ h'.b[0]? = some s'.M ∧ h'.b[1]? = some s'.B:=by
 refine acall_of mixedT h_srekey (by simp [c_srekey]) ?_
 dsimp only [c_srekey]
 have hm:=a_made s
 have hh:=fun l t => a_holds s l t who
 have hS:=fun l t => a_serials s l t h0 h1
 have hck:=a_sealCheck q hq
 obtain ⟨Z,hZ⟩ : ∃ Z,Seal.check q = Z:=⟨_,rfl⟩
 rw [hZ] at hck
 have hR:=fun n h => a_srekey s.key q ((lfind n s.es).getD []) hk hq (by
  cases hF : lfind n s.es with
  | none => simp
  | some b => exact hb n b hF) h
 have hM0 : s.M = .map (strM s.es) s.c:=rfl
 have hB0 : s.B = .cells 79 [.str s.key,.str s.lin,.int .i64 s.latest,.mp 0,.str s.own,.int .i64 s.left]:=rfl
 rw [hB0] at hm hh hS ⊢
 refine run0 ti ?_
 refine use (hm _ _) ?_
 refine run0 ti ?_
 refine use (hh _ _) ?_
 cases hT : s.holds who
 ·refine run0 ti ?_
  exact ⟨_,le_refl _,s,⟨25,rfl,.inl ⟨by decide,rfl⟩⟩,rfl,rfl,rfl⟩
 refine run0 ti ?_
 refine use (hck _) ?_
 by_cases z0 : Z = 0
 rotate_left
 ·have e1 : (Z != 0) = true:=by simp [z0]
  refine run0 e1 ?_
  exact ⟨_,le_refl _,s,⟨Z,rfl,.inl ⟨z0,rfl⟩⟩,rfl,rfl,rfl⟩
 subst z0
 have e1 : ((0 : Int) != 0) = false:=by decide
 refine run0 e1 ?_
 refine use (hS _ _) ?_
 obtain ⟨N,hN⟩ : ∃ N,s.serials.length = N:=⟨_,rfl⟩
 have lr : (rowsI s.serials).length = N:=by rw [rowsI_length,hN]
 have hNb : N ≤ 100000000000000000:=by
  rw [← hN]
  unfold Sto.serials Sto.upTo Sto.lo
  simp only [List.length_map,List.length_range]
  split <;> omega
 refine run0 lr ?_
 refine awp_loop (fun mm ts h => ∃ (j : Nat) (es1 : List (Int × List UInt8)) (c1 : Nat),mm + j = N ∧ h = ⟨[s.M,.cells 79 [.str s.key,.str s.lin,.int .i64 s.latest,.mp 0,.str s.own,.int .i64 s.left],.map (strM es1) c1],[]⟩ ∧
  (∀ n x,(n,x) ∈ es1 → n ∈ s.serials ∧ x = s.anew q n) ∧ (∀ n ∈ s.serials.take j,(n,s.anew q n) ∈ es1 ∧ (Seal.rekey s.key q ((lfind n s.es).getD [])).2 = 0) ∧
  ts 0 = .ptr 1 0 ∧ ts 2 = .str q ∧ ts 8 = .mp 2 ∧ ts 29 = .sl 1 .no (rowsI s.serials) ∧ ts 30 = .int .i64 (N : Nat) ∧ ts 31 = .int .i64 (j : Nat)) N ?_ ?_
 ·exact ⟨0,[],0,by omega,rfl,by simp,by simp,by (exact ev0 ti),by (exact ev0 ti),by (exact ev0 ti),by (exact ev0 ti),by (exact ev0 lr),by (exact inv0 ti)⟩
 rintro mm ts h ⟨j,es1,c1,hj,rfl,i1,i2,t0,t2,t8,t29,t30,t31⟩
 by_cases hlt : j < N
 ·have hlt2 : (j : Int) < (N : Int):=by omega
  have hla : (j : Int) < ((rowsI s.serials).length : Int):=by rw [lr]; omega
  have hj0 : (0 : Int) ≤ (j : Int):=by omega
  have ei : IntKind.i64.wrap ((j : Int) + 1) = ((j + 1 : Nat) : Int):=by rw [wrap64 (by omega) (by omega)]; omega
  have hg:=rowsI_get s.serials j (by omega)
  have hmem : s.serials[j]'(by omega) ∈ s.serials:=List.getElem_mem _
  have htk : s.serials.take (j + 1) = s.serials.take j ++ [s.serials[j]'(by omega)]:=List.take_succ_eq_append_getElem (by omega)
  obtain ⟨n,hn⟩ : ∃ n,s.serials[j]'(by omega) = n:=⟨_,rfl⟩
  rw [hn] at hg hmem htk
  obtain ⟨r,hr⟩ : ∃ r,mfind n (strM s.es) = r:=⟨_,rfl⟩
  have hr2 : r.getD (.str []) = .str ((lfind n s.es).getD []):=by
   rw [← hr,mfind_str]
   cases lfind n s.es <;> rfl
  have hRn:=hR n
  obtain ⟨⟨x,e⟩,hx⟩ : ∃ p,Seal.rekey s.key q ((lfind n s.es).getD []) = p:=⟨_,rfl⟩
  rw [hx] at hRn
  dsimp only at hRn
  have hax : s.anew q n = x:=by unfold Sto.anew; rw [hx]
  obtain ⟨b,hbb⟩ : ∃ b,(lfind n s.es).getD [] = b:=⟨_,rfl⟩
  rw [hbb] at hr2 hRn
  refine run0 (ai t0 (ai t2 (ai t8 (ai t29 (ai t30 (ai t31 (ai hlt2 (ai hla (ai hj0 (ai hg (ai hM0 (ai hr hr2)))))))))))) ?_
  refine use (hRn _) ?_
  by_cases e0 : e = 0
  rotate_left
  ·have e2 : (e != 0) = true:=by simp [e0]
   refine run0 (ai t0 (ai t2 (ai t8 (ai t29 (ai t30 (ai t31 e2)))))) ?_
   exact ⟨_,le_refl _,s,⟨e,rfl,.inl ⟨e0,rfl⟩⟩,rfl,rfl,rfl⟩
  subst e0
  refine run0 (ai t0 (ai t2 (ai t8 (ai t29 (ai t30 (ai t31 (ai e1 (ai mput_str ei)))))))) ?_
  refine ⟨mm - 1,by omega,j + 1,lput n x es1,_,by omega,rfl,fun n' x' hm => ?_,fun n' hn' => ?_,by (exact ev0 t0),by (exact ev0 t2),by (exact ev0 t8),by (exact ev0 t29),by (exact ev0 t30),by (exact ev0 ei)⟩
  ·rcases mem_put hm with ⟨rfl,rfl⟩ | hm
   ·exact ⟨hmem,hax.symm⟩
   ·exact i1 n' x' hm
  ·rw [htk] at hn'
   rcases List.mem_append.1 hn' with hn' | hn'
   ·obtain ⟨k1,k2⟩:=i2 n' hn'
    by_cases hne : n' = n
    ·subst hne; rw [hax]; exact ⟨put_mem_self _ _ _,k2⟩
    ·exact ⟨put_mem_ne hne k1,k2⟩
   ·obtain rfl:=List.mem_singleton.1 hn'
    rw [hax]; exact ⟨put_mem_self _ _ _,by rw [hx]⟩
 ·have hlt2 : ¬ (j : Int) < (N : Int):=by omega
  rw [List.take_of_length_le (by omega)] at i2
  refine run0 (ai t0 (ai t2 (ai t8 (ai t29 (ai t30 (ai t31 (ai hlt2 hM0))))))) ?_
  refine p_range (m:=2) (c:=c1) (l:=es1) (by (exact ev0 t8)) rfl ?_
  intro g r es0 hes hbo
  refine go_tn ?_
  refine run0 (ai t0 (ai t2 t8)) ?_
  refine awp_loop (fun mm ts h => ∃ (seen : Array Nat) (es2 : List (Int × List UInt8)) (c2 : Nat),mm = (leftOf es0 seen).size ∧ h = ⟨[.map (strM es2) c2,.cells 79 [.str s.key,.str s.lin,.int .i64 s.latest,.mp 0,.str s.own,.int .i64 s.left],pin g (.map es0 c1),pin r (.mapIter (some g) c1 seen c1)],[]⟩ ∧
   (∀ n x,(n,x) ∈ es2 → (n,x) ∈ es1) ∧ (∀ e ∈ es0.toList,seen.contains e.born = true → ∀ n x,e.key = .int .i64 n → e.val = .string ⟨x.toArray⟩ → lfind n es2 = some x) ∧
   ts 0 = .ptr 1 0 ∧ ts 2 = .str q ∧ ts 62 = .ptr 3 0) (leftOf es0 #[]).size ?_ ?_
  ·exact ⟨#[],[],s.c,rfl,rfl,by simp,fun e _ hc => by simp at hc,by (exact ev0 t0),by (exact ev0 t2),by (exact ev0 ti)⟩
  rintro mm ts h ⟨seen,es2,c2,rfl,rfl,i3,i4,t0,t2,t62⟩
  refine run0 (ai t0 (ai t2 t62)) ?_
  refine p_next (i:=3) (m:=2) (g:=g) (r:=r) (c:=c1) (es:=es0) (seen:=seen) (l:=es1) t62 rfl rfl hes hbo (fun l0 => ?_) (fun e he kk xx m1 m2 m3 => ?_)
  ·refine go_tn ?_
   refine run0 (ai t0 (ai t2 t62)) ?_
   exact ⟨_,le_refl _,⟨q,s.lin,s.latest,es2,c2,s.own,s.left⟩,⟨0,rfl,.inr ⟨rfl,rfl,hZ,rekeyed_of hes l0 i1 i2 i3 i4⟩⟩,rfl,rfl,rfl⟩
  ·refine go_tn ?_
   refine run0 (ai t0 (ai t2 t62)) ?_
   refine p_entry (i:=3) (m:=2) (g:=g) (r:=r) (c:=c1) (es:=es0) (seen:=seen) (e:=e) (kk:=kk) (xx:=xx) (by (exact ev0 t62)) rfl rfl hbo (mem_left he).1 m2 m3 ?_
   refine go_tn ?_
   refine run0 (ai t0 (ai t2 (ai t62 mput_str))) ?_
   refine ⟨(leftOf es0 (seen.push e.born)).size,left_shrinks es0 seen e he,seen.push e.born,lput kk xx es2,_,rfl,rfl,fun n' x' hm => ?_,fun e' he' hc n' x' q1 q2 => ?_,by (exact ev0 t0),by (exact ev0 t2),by (exact ev0 t62)⟩
   ·rcases mem_put hm with ⟨rfl,rfl⟩ | hm
    ·exact m1
    ·exact i3 n' x' hm
   ·by_cases hne : n' = kk
    ·subst hne
     obtain ⟨k,x,q3,q4,q5⟩:=es_mem hes e' he'
     rw [q1] at q4; rw [q2] at q5
     injection q4 with _ q4
     subst q4
     have hx1 : x' = x:=by
      injection q5 with q5
      have:=congrArg (fun b : ByteArray => b.data.toList) q5
      simpa using this
     subst hx1
     rw [(i1 _ _ q3).2,(i1 _ _ m1).2]
     exact lfind_put _ _ _
    ·rw [lfind_put_ne _ _ _ hne]
     rw [contains_push,Bool.or_eq_true] at hc
     rcases hc with hc | hc
     ·exact i4 e' he' hc n' x' q1 q2
     ·exfalso
      have hbe : e'.born = e.born:=by simpa using hc
      have : e' = e:=by
       have h1:=find_born e' es0.toList hbo.1 he'
       have h2:=find_born e es0.toList hbo.1 (mem_left he).1
       rw [hbe,h2] at h1
       injection h1 with h1; exact h1.symm
      rw [this,m2] at q1
      injection q1 with _ q1
      exact hne q1.symm
theorem a_rekey (s : Sto) (l : List Blk) (t : List (TypeId × Nat × Nat)) (who q : List UInt8) (hk : s.key.length ≤ 1000000000) (hq : q.length ≤ 1000000000) (h0 : 0 ≤ s.latest) (h1 : s.latest ≤ 9007199254740992) (hb : ∀ n b,lfind n s.es = some b → b.length ≤ 1048600) :
  ACall Tryz.prog GT 30 [.ptr 1 0,.str who,.str q] ⟨s.M :: s.B :: l,t⟩ fun v' h' => ∃ s',(∃ e : Int,v' = .int .i64 e ∧ ((e ≠ 0 ∧ s' = s) ∨ (e = 0 ∧ s.holds who = true ∧ Seal.check q = 0 ∧ s.Rekeyed q s'))) ∧ h' = ⟨s'.M :: s'.B :: l,t⟩:=
 liftS2 (R:=fun v' s' => ∃ e : Int,v' = .int .i64 e ∧ ((e ≠ 0 ∧ s' = s) ∨ (e = 0 ∧ s.holds who = true ∧ Seal.check q = 0 ∧ s.Rekeyed q s'))) ((a_rekey0 s who q hk hq h0 h1 hb).mono fun v' h' ⟨s',a,b,c,d⟩ => ⟨s',a,b,c,d⟩) rfl l t
end AX
end Go.Proofs.YtnjkemakcejceaaGreatDoor
