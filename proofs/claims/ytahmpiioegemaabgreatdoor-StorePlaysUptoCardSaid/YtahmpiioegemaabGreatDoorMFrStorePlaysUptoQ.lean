/- Part of what the proof needs. -/
import Derived.Test.YtahmpiioegemaabGreatDoorMFrStorePlaysUptoE
import Derived.Test.YtahmpiioegemaabGreatDoorMFrStorePlaysUptoM
import Derived.Test.YtahmpiioegemaabGreatDoorMFrStorePlaysUptoO
import Derived.Test.YtahmpiioegemaabGreatDoorMFrStorePlaysUptoP
import Derived.Shelf.Slices.Clone
set_option maxHeartbeats 4000000
set_option linter.unusedSimpArgs false
set_option linter.unusedVariables false
set_option linter.unnecessarySimpa false
namespace Go.Proofs.YtahmpiioegemaabGreatDoor
open Go.RowKit
namespace AX
def c_r6Key:AX.AFn:=⟨33,aS [aR 1 (.box 147 (.t 0)),aR 2 (.mv (.c (.bool false)))] (.seq (aS [aF 3 0 1,aL 4 3,aR 5 (.bin .eql (.t 4) (aI 1))] (.cond (.t 5) (aS [aF 6 1 1,aL 7 6,aR 8 (.bin .geq (.t 7) (aI 0)),aM 9 8,aG 10 (.faddr 1 (.t 1)) 9 true,aG 11 (.load false 1 (.t 10)) 9 true,aG 12 (.bin .leq (.t 11) (aI 9007199254740992)) 9 true,aR 13 (.pick (.t 9) (.t 12) (.c (.bool false))),aM 14 13,aG 15 (.faddr 2 (.t 1)) 14 true,aG 16 (.load false 1 (.t 15)) 14 true,aG 17 (.bin .eql (.t 16) (.c (.str []))) 14 true,aR 18 (.pick (.t 14) (.t 17) (.c (.bool false))),aM 2 18] (.ret)) (.skip))) (.seq (aS [aF 19 0 1,aL 20 19,aR 21 (.bin .eql (.t 20) (aI 2))] (.cond (.t 21) (aS [aF 22 1 1,aL 23 22,aR 24 (.bin .eql (.t 23) (aI 0)),aM 25 24,aG 26 (.faddr 2 (.t 1)) 25 true,aG 27 (.load false 1 (.t 26)) 25 true,aG 28 (.call 47 [.t 27]) 25 true,aR 29 (.pick (.t 25) (.t 28) (.c (.bool false))),aM 2 29] (.ret)) (.skip))) (aS [aR 30 (.load true 3 (.t 1)),aR 31 (.build [.int .i64 0,.int .i64 0,.str []] []),aR 32 (.eq 2 [0,0,1] false (.t 30) (.t 31)),aM 2 32] (.ret)))),[.t 2]⟩
theorem h_r6Key:AX.compFn Tryz.prog 250=some c_r6Key:=by kernel_rfl
def c_r6fmtkey:AX.AFn:=⟨24,aS [aR 1 (.box 147 (.t 0)),aR 2 (.mv (.c (.str [])))] (.seq (aS [aR 3 (.load true 3 (.t 1)),aR 4 (.call 250 [.t 3]),aR 5 (.un .not (.t 4)),aM 6 5,aG 7 (.faddr 0 (.t 1)) 6 false,aG 8 (.load false 1 (.t 7)) 6 false,aG 9 (.bin .eql (.t 8) (aI 0)) 6 false,aR 10 (.pick (.t 6) (.c (.bool true)) (.t 9))] (.cond (.t 10) (aS [aR 2 (.mv (.c (.str [])))] (.ret)) (.skip))) (.seq (aS [aF 11 0 1,aL 12 11,aR 13 (.bin .eql (.t 12) (aI 1))] (.cond (.t 13) (aS [aF 14 1 1,aL 15 14,aR 16 (.call 258 [.t 15]),aR 17 (.bin .add (.c (.str [91])) (.t 16)),aR 18 (.bin .add (.t 17) (.c (.str [93]))),aM 2 18] (.ret)) (.skip))) (aS [aF 19 2 1,aL 20 19,aR 21 (.call 249 [.t 20]),aR 22 (.bin .add (.c (.str [91])) (.t 21)),aR 23 (.bin .add (.t 22) (.c (.str [93]))),aM 2 23] (.ret)))),[.t 2]⟩
theorem h_r6fmtkey:AX.compFn Tryz.prog 253=some c_r6fmtkey:=by kernel_rfl
def c_r6step:AX.AFn:=⟨30,aS [aR 2 (.alloc 186 [.str [],.int .i64 0,.int .i64 0,.str []]),aR 3 (.mv (.c (.str []))),aR 4 (.mv (.c (.bool false)))] (aS [aM 10 0,aR 11 (.ssl (.t 10) (some (aI 7)) none),aR 12 (.call 235 [.t 11]),aM 9 12,aE 13 9 0,aE 14 9 1,aM 5 13,aM 6 14] (aS [aM 16 6,aR 17 (.call 237 [.t 16]),aM 15 17,aE 18 15 0,aE 19 15 1,aE 20 15 2,aR 7 (.alloc 147 [.int .i64 0,.int .i64 0,.str []]),aU (.store 3 (.t 7) (.t 18)),aM 6 19,aM 8 20] (.seq (.reg true [aM 21 5,aR 22 (.load true 3 (.t 7)),⟨some 23,.build [.str [],.int .i64 0,.int .i64 0,.str []] [(0,1,.t 21),(1,3,.t 22)],none,[0,1]⟩,aM 24 6,aM 25 8,⟨some 26,.mv (.t 25),none,[4]⟩,⟨some 27,.mv (.t 5),some (26,true),[5]⟩,⟨some 28,.call 201 [.t 27],some (26,true),[6,5,5]⟩,⟨some 29,.pick (.t 26) (.t 28) (.c (.bool false)),none,[5,7]⟩,⟨none,.store 4 (.t 2) (.t 23),none,[2,7,0,1,2]⟩,⟨some 3,.mv (.t 24),none,[3,9,0,1,2,3,9]⟩,⟨some 4,.mv (.t 29),none,[8,10,0,1,2,3,4,5,6,7,8,9,10]⟩]) (.ret)))),[.c 2 true 4,.t 3,.t 4]⟩
theorem h_r6step:AX.compFn Tryz.prog 234=some c_r6step:=by kernel_rfl
theorem a_r2unquote (s:List UInt8) (hs:s.length≤2000000) (h:Hp):ACall Tryz.prog GT 248 [.str s] h fun r h'=>r = .tup [.str (Str.unquote s).1,.int .i64 (Str.unquote s).2.1,.int .i64 (Str.unquote s).2.2]∧h'=h:=
 acall_imp (args1 r_str) (fun w hg=>refUnquote_any ⟨s.toArray⟩ w (by rw [size_mk]; exact hs)) (fun C=>rep_tup.2 ⟨_,rfl,repL_cons.2 ⟨_,_,rfl,rep_str.2 rfl,repL_cons.2 ⟨_,_,rfl,rep_int.2 rfl,repL_cons.2 ⟨_,_,rfl,rep_int.2 rfl,repL_nil.2 rfl⟩⟩⟩⟩) h
theorem a_r2quote (s:List UInt8) (hs:s.length≤2000000) (h:Hp):ACall Tryz.prog GT 249 [.str s] h fun r h'=>r = .str (Str.quote s)∧h'=h:=
 acall_imp (args1 r_str) (fun w hg=>refQuote_any ⟨s.toArray⟩ w (by rw [size_mk]; exact hs)) (fun C=>rep_str.2 rfl) h
theorem key_eqB (k:Adr.K):(k == Adr.K.none)=((k.kind == 0)&&((k.num == 0)&&(k.str == []))):=by
 obtain ⟨a,b,c⟩:=k
 unfold Adr.K.none
 rw [Bool.eq_iff_iff,beq_iff_eq,Bool.and_eq_true,Bool.and_eq_true,beq_iff_eq,beq_iff_eq,beq_iff_eq]
 simp
theorem a_r6Key (k:Adr.K) (hk:k.str.length≤2000000) (h:Hp):ACall Tryz.prog GT 250 [.agg [.int .i64 k.kind,.int .i64 k.num,.str k.str]] h fun r h'=>r = .bool (Adr.keyOk k)∧h'=h:=by
 have hv:=a_refValid k.str hk
 refine pcall ?_ rfl (by simp [A.pure,A.data]) h
 refine acall_of mixedT h_r6Key (by simp [c_r6Key]) ?_
 dsimp only [c_r6Key]
 unfold Adr.keyOk
 rw [key_eqB]
 obtain ⟨kd,num,str⟩:=k
 dsimp only at hv ⊢
 by_cases h1:kd=1
 ·subst h1
  refine runx0 ti ti ?_
  refine ⟨_,le_refl _,?_⟩
  rw [tupA_1,if_pos rfl]
 have e1:(kd == 1)=false:=by simp [h1]
 rw [if_neg h1]
 by_cases h2:kd=2
 ·subst h2
  refine runx0 ti (ai hv ti) ?_
  exact ⟨_,le_refl _,rfl⟩
 have e2:(kd == 2)=false:=by simp [h2]
 rw [if_neg h2]
 have eq:eqCells [0,0,1] [.int .i64 kd,.int .i64 num,.str str] [.int .i64 0,.int .i64 0,.str []]=some ((kd == 0)&&((num == 0)&&(str == []))):=by simp [eqCells]
 refine runx0 (ai e1 (ai e2 eq)) ti ?_
 exact ⟨_,le_refl _,rfl⟩
theorem a_r6fmtkey0 (h:Hp):ACall Tryz.prog GT 253 [.agg [.int .i64 0,.int .i64 0,.str []]] h fun r h'=>r = .str []∧h'=h:=by
 refine pcall ?_ rfl (by simp [A.pure,A.data]) h
 refine acall_of mixedT h_r6fmtkey (by simp [c_r6fmtkey]) ?_
 dsimp only [c_r6fmtkey]
 have ck:=a_r6Key Adr.K.none (by decide)
 rw [show Adr.keyOk Adr.K.none=true by decide] at ck
 dsimp only [Adr.K.none] at ck
 refine runx0 ti (ai ck ti) ?_
 exact ⟨_,le_refl _,rfl⟩
def keyR (s:List UInt8):Adr.K×List UInt8×Bool:=match Adr.key s with
 | none=>(Adr.K.none,[],false)
 | some (k,r)=>(k,r,true)
def keyT (r:Adr.K×List UInt8×Bool):A:=.tup [.agg [.int .i64 r.1.kind,.int .i64 r.1.num,.str r.1.str],.str r.2.1,.bool r.2.2]
theorem dig_yes (c:UInt8):(decide ((c.toNat:Int)≥48)&&decide ((c.toNat:Int)≤57))=Num.digB c:=by
 unfold Num.digB
 have e1:decide ((c.toNat:Int)≥48)=decide (48≤c.toNat):=by rw [decide_eq_decide]; omega
 have e2:decide ((c.toNat:Int)≤57)=decide (c.toNat≤57):=by rw [decide_eq_decide]; omega
 rw [e1,e2]
theorem byte_eqI (c:UInt8) (n:Nat) (hn:n < 256):((c.toNat:Int) == (n:Int))=(c == UInt8.ofNat n):=by
 rw [Bool.eq_iff_iff,beq_iff_eq,beq_iff_eq,←UInt8.toNat_inj,UInt8.toNat_ofNat']
 omega
theorem byte_neI (c:UInt8) (n:Nat) (hn:n < 256):((c.toNat:Int) != (n:Int))=(c != UInt8.ofNat n):=by
 show (!((c.toNat:Int) == (n:Int)))=!(c == UInt8.ofNat n)
 rw [byte_eqI c n hn]
theorem a_r6key (s:List UInt8) (hl:s.length≤2000000) (h:Hp):ACall Tryz.prog GT 237 [.str s] h fun r h'=>r=keyT (keyR s)∧h'=h:=by
 obtain ⟨q,hq⟩:∃ q,keyR s=q:=⟨_,rfl⟩
 rw [hq]
 unfold keyR at hq
 refine pcall ?_ (by unfold keyT; rfl) (by simp [A.pure,A.data]) h
 refine fo ?_
 by_cases h1:s.getD 0 0=91
 rotate_left
 ·have hk:Adr.key s=some (Adr.K.none,s):=by unfold Adr.key; rw [if_pos h1]
  rw [hk] at hq
  subst hq
  cases s with
  | nil =>
   refine runx0 ti ti ?_
   exact ⟨_,le_refl _,rfl⟩
  | cons c t =>
   have e0:((c::t) == ([]:List UInt8))=false∧(0:Int) < ((t.length+1:Nat):Int)∧((c.toNat:Int) != 91)=true:=⟨rfl,by omega,by
    have:=byte_neI c 91 (by decide)
    rw [List.getD_cons_zero] at h1
    rw [show ((91:Nat):Int)=91 from rfl] at this
    rw [this]; simpa using h1⟩
   refine runx0 e0 ti ?_
   exact ⟨_,le_refl _,rfl⟩
 cases s with
 | nil=>simp at h1
 | cons c t =>
 rw [List.getD_cons_zero] at h1
 subst h1
 have hl' : t.length + 1 ≤ 2000000 := hl
 have e0 : (((91 : UInt8) :: t) == ([] : List UInt8)) = false ∧ (0 : Int) < ((t.length + 1 : Nat) : Int) ∧ (((91 : UInt8).toNat : Int) != 91) = false ∧ (0 : Int) ≤ 1 ∧ (1 : Int) ≤ ((t.length + 1 : Nat) : Int) ∧ Int.toNat 1 = 1 := ⟨rfl, by omega, rfl, by omega, by omega, rfl⟩
 have hk0 : Adr.key (91 :: t) = if 1 < (91 :: t).length ∧ (91 :: t).getD 1 0 = 34 then
  (let u := Str.unquote ((91 :: t).drop 1)
   let k : Adr.K := ⟨2, 0, u.1⟩
   if u.2.2 ≠ 0 ∨ (91 :: t).length ≤ u.2.1 + 1 ∨ (91 :: t).getD (u.2.1 + 1) 0 ≠ 93 ∨ ((91 :: t).take (u.2.1 + 1)).drop 1 ≠ Str.quote u.1 ∨ Adr.keyOk k = false then Option.none
   else some (k, (91 :: t).drop (u.2.1 + 2)))
 else
  (let d := ((91 :: t).drop 1).takeWhile Num.digB
   let x := Num.parse d
   if x.2 ≠ 0 ∨ (91 :: t).length ≤ d.length + 1 ∨ (91 :: t).getD (d.length + 1) 0 ≠ 93 then Option.none
   else some (⟨1, x.1, []⟩, (91 :: t).drop (d.length + 2))) := by unfold Adr.key; rw [if_neg (by simp)]
 simp only [List.drop_succ_cons,List.drop_zero,List.getD_cons_succ,List.take_succ_cons,List.length_cons] at hk0
 by_cases h2:0 < t.length∧t.getD 0 0=34
 ·rw [if_pos ⟨by omega,h2.2⟩] at hk0
  obtain ⟨h3,h4⟩:=h2
  have e1:((t.length+1:Nat):Int) > 1∧(1:Int) < ((t.length+1:Nat):Int)∧(((91:UInt8)::t).getD 1 0)=34∧(((34:UInt8).toNat:Int) == 34)=true:=⟨by omega,by omega,by rw [List.getD_cons_succ]; exact h4,rfl⟩
  have cu:=a_r2unquote t (by omega)
  have hwd:=Str.unquote_width t
  have huv:=Str.unquote_valid t
  obtain ⟨⟨x,n,e⟩,hu⟩:∃ u,Str.unquote t=u:=⟨_,rfl⟩
  rw [hu] at cu hk0 hwd huv
  dsimp only at cu hk0 hwd huv
  by_cases g1:e=0
  rotate_left
  ·have f1:(e != 0)=true:=by simp [g1]
   rw [if_pos (.inl g1)] at hk0
   rw [hk0] at hq
   subst hq
   refine runx0 (ai e0 (ai e1 f1)) (ai cu ti) ?_
   exact ⟨_,le_refl _,rfl⟩
  subst g1
  have hn:=hwd rfl
  have hxl:x.length≤2000000:=by
   have:=huv rfl
   unfold Str.valid at this
   rw [Bool.and_eq_true,decide_eq_true_eq] at this
   omega
  have cq:=a_r2quote x hxl
  have ck:=a_r6Key ⟨2,0,x⟩ hxl
  have w1:IntKind.i64.wrap ((n:Int)+1)=((n+1:Nat):Int)∧IntKind.i64.wrap ((n:Int)+2)=((n+2:Nat):Int):=⟨i80 (by omega),by rw [wrap64 (by omega) (by omega)]; omega⟩
  by_cases g2:t.length+1≤n+1
  ·have f2:((n+1:Nat):Int)≥((t.length+1:Nat):Int):=by omega
   rw [if_pos (.inr (.inl g2))] at hk0
   rw [hk0] at hq
   subst hq
   refine runx0 (ai e0 (ai e1 (ai w1 f2))) (ai cu ti) ?_
   exact ⟨_,le_refl _,rfl⟩
  have f2:¬ ((n+1:Nat):Int)≥((t.length+1:Nat):Int)∧((n+1:Nat):Int) < ((t.length+1:Nat):Int)∧(0:Int)≤((n+1:Nat):Int)∧(1:Int)≤((n+1:Nat):Int)∧((n+1:Nat):Int)≤((t.length+1:Nat):Int):=⟨by omega,by omega,by omega,by omega,by omega⟩
  obtain ⟨c,hc⟩:∃ c,t.getD n 0=c:=⟨_,rfl⟩
  have hcn:=byte_neI c 93 (by decide)
  rw [show ((93:Nat):Int)=93 from rfl,show UInt8.ofNat 93=93 from rfl] at hcn
  rw [hc] at hk0
  by_cases g3:c=93
  rotate_left
  ·have f3:(c != 93)=true:=by simp [g3]
   rw [if_pos (.inr (.inr (.inl g3)))] at hk0
   rw [hk0] at hq
   subst hq
   refine runx0 (ai e0 (ai e1 (ai w1 (ai f2 (ai hc (ai hcn f3)))))) (ai cu ti) ?_
   exact ⟨_,le_refl _,rfl⟩
  have f3:(c != 93)=false:=by simp [g3]
  by_cases g4:t.take n=Str.quote x
  rotate_left
  ·have f4:(t.take n != Str.quote x)=true:=by simp [g4]
   rw [if_pos (.inr (.inr (.inr (.inl g4))))] at hk0
   rw [hk0] at hq
   subst hq
   refine runx0 (ai e0 (ai e1 (ai w1 (ai f2 (ai hc (ai hcn (ai f3 f4))))))) (ai cu (ai cq ti)) ?_
   exact ⟨_,le_refl _,rfl⟩
  have f4:(t.take n != Str.quote x)=false:=by simp [g4]
  dsimp only at ck
  cases g5:Adr.keyOk ⟨2,0,x⟩ with
  | false =>
   rw [g5] at ck
   rw [if_pos (.inr (.inr (.inr (.inr g5))))] at hk0
   rw [hk0] at hq
   subst hq
   refine runx0 (ai e0 (ai e1 (ai w1 (ai f2 (ai hc (ai hcn (ai f3 f4))))))) (ai cu (ai cq (ai ck ti))) ?_
   exact ⟨_,le_refl _,rfl⟩
  | true =>
   rw [g5] at ck
   rw [if_neg (by rintro (h | h | h | h | h); exact h rfl; exact g2 h; exact h g3; exact h g4; rw [g5] at h; cases h)] at hk0
   rw [hk0] at hq
   subst hq
   have f6:(0:Int)≤((n+2:Nat):Int)∧((n+2:Nat):Int)≤((t.length+1:Nat):Int):=⟨by omega,by omega⟩
   refine runx0 (ai e0 (ai e1 (ai w1 (ai f2 (ai hc (ai hcn (ai f3 (ai f4 f6)))))))) (ai cu (ai cq (ai ck ti))) ?_
   exact ⟨_,le_refl _,rfl⟩
 rw [if_neg (fun h=>h2 ⟨by omega,h.2⟩)] at hk0
 have e1:(decide (((t.length+1:Nat):Int) > 1)&&((t.getD 0 0).toNat:Int) == 34)=false:=by
  have hb:=byte_eqI (t.getD 0 0) 34 (by decide)
  rw [show ((34:Nat):Int)=34 from rfl,show UInt8.ofNat 34=34 from rfl] at hb
  rw [hb]
  by_cases h3:0 < t.length
  ·have:(t.getD 0 0 == 34)=false:=by simpa using fun h=>h2 ⟨h3,h⟩
   rw [this,Bool.and_false]
  ·have:decide (((t.length+1:Nat):Int) > 1)=false:=by rw [decide_eq_false_iff_not]; omega
   rw [this,Bool.false_and]
 refine runx0 (ai e0 e1) ti ?_
 refine awp_loop (fun m ts hh=>hh=⟨[.cells 147 [.int .i64 0,.int .i64 0,.str []]],[]⟩∧∃ j:Nat,m=t.length - j∧j≤t.length∧(t.take j).all Num.digB=true∧(ts 0 = .str (91::t)∧ts 2 = .ptr 0 0∧ts 9 = .int .i64 ((j+1:Nat):Int))) t.length ?_ ?_
 ·exact ⟨rfl,0,rfl,Nat.zero_le _,rfl,by (exact inv0 ti)⟩
 rintro m ts hh ⟨rfl,j,rfl,hj,hall,ht⟩
 have hs:(0:Int)≤((j+1:Nat):Int)∧(1:Int)≤((j+1:Nat):Int)∧((j+1:Nat):Int)≤((t.length+1:Nat):Int)∧IntKind.i64.wrap (((j+1:Nat):Int)+1)=((j+1+1:Nat):Int):=⟨by omega,by omega,by omega,i80 (by omega)⟩
 have fin:(j=t.length∨Num.digB (t.getD j 0)=false)→t.takeWhile Num.digB=t.take j∧(t.takeWhile Num.digB).length=j:=fun hc=>by
  obtain ⟨k1,_⟩:=take_stop t j hj hall hc
  rw [k1,List.length_take]
  exact ⟨rfl,by omega⟩
 have hpl:(t.take j).length≤2000000:=by rw [List.length_take]; omega
 have cp:=a_r1parse (t.take j) hpl
 rcases Nat.lt_or_ge j t.length with hlt | hge
 ·have hf:((j+1:Nat):Int) < ((t.length+1:Nat):Int):=by omega
  obtain ⟨c,hc⟩:∃ c,t.getD j 0=c:=⟨_,rfl⟩
  have hcc:t[j]=c:=by rw [←hc]; simp [List.getD,hlt]
  have hw:=dig_yes c
  cases hB:Num.digB c with
  | true =>
   rw [hB,Bool.and_eq_true] at hw
   have hw':=hw
   refine runx0 (ai ht (ai hs (ai hf (ai hc hw)))) ti ?_
   refine ⟨_,?_,rfl,j+1,rfl,by omega,?_,by (exact inv0 (ai ht (ai hs hf)))⟩
   ·omega
   ·rw [List.take_succ_eq_append_getElem hlt,List.all_append,hall,hcc]
    simp [hB]
  | false =>
   rw [hB] at hw
   obtain ⟨k1,k2⟩:=fin (.inr (by rw [hc]; exact hB))
   rw [k2,k1] at hk0
   have hcn:=byte_neI c 93 (by decide)
   rw [show ((93:Nat):Int)=93 from rfl,show UInt8.ofNat 93=93 from rfl] at hcn
   obtain ⟨⟨x,e⟩,hx⟩:∃ x,Num.parse (t.take j)=x:=⟨_,rfl⟩
   rw [hx] at hk0 cp
   dsimp only at hk0 cp
   rw [hc] at hk0
   have hge:¬ ((j+1:Nat):Int)≥((t.length+1:Nat):Int):=by omega
   by_cases g1:e=0
   rotate_left
   ·have f1:(e != 0)=true:=by simp [g1]
    rw [if_pos (.inl g1)] at hk0
    rw [hk0] at hq
    subst hq
    refine runx0 (ai ht (ai hs (ai hf (ai hc (ai hw f1))))) (ai cp ti) ?_
    exact ⟨_,le_refl _,rfl⟩
   have f1:(e != 0)=false:=by simp [g1]
   by_cases g2:c=93
   rotate_left
   ·have f2:(c != 93)=true:=by simp [g2]
    rw [if_pos (.inr (.inr g2))] at hk0
    rw [hk0] at hq
    subst hq
    refine runx0 (ai ht (ai hs (ai hf (ai hc (ai hw (ai hge (ai hcn (ai f1 f2)))))))) (ai cp ti) ?_
    exact ⟨_,le_refl _,rfl⟩
   have f2:(c != 93)=false:=by simp [g2]
   rw [if_neg (by rintro (h | h | h); exact h g1; omega; exact h g2)] at hk0
   rw [hk0] at hq
   subst hq
   have f3:(0:Int)≤((j+1+1:Nat):Int)∧((j+1+1:Nat):Int)≤((t.length+1:Nat):Int):=⟨by omega,by omega⟩
   refine runx0 (ai ht (ai hs (ai hf (ai hc (ai hw (ai hge (ai hcn (ai f1 (ai f2 f3))))))))) (ai cp ti) ?_
   exact ⟨_,le_refl _,rfl⟩
 ·have hf:¬ ((j+1:Nat):Int) < ((t.length+1:Nat):Int):=by omega
  obtain ⟨k1,k2⟩:=fin (.inl (by omega))
  rw [k2,k1] at hk0
  obtain ⟨⟨x,e⟩,hx⟩:∃ x,Num.parse (t.take j)=x:=⟨_,rfl⟩
  rw [hx] at hk0 cp
  dsimp only at hk0 cp
  rw [if_pos (.inr (.inl (by omega)))] at hk0
  rw [hk0] at hq
  subst hq
  have hge:((j+1:Nat):Int)≥((t.length+1:Nat):Int):=by omega
  by_cases g1:e=0
  ·have f1:(e != 0)=false:=by simp [g1]
   refine runx0 (ai ht (ai hs (ai hf (ai hge f1)))) (ai cp ti) ?_
   exact ⟨_,le_refl _,rfl⟩
  ·have f1:(e != 0)=true:=by simp [g1]
   refine runx0 (ai ht (ai hs (ai hf f1))) (ai cp ti) ?_
   exact ⟨_,le_refl _,rfl⟩
def stepR (s:List UInt8):Adr.Step×List UInt8×Bool:=
 (⟨(s.drop 7).takeWhile Adr.wordB,(keyR ((s.drop 7).dropWhile Adr.wordB)).1⟩,(keyR ((s.drop 7).dropWhile Adr.wordB)).2.1,(keyR ((s.drop 7).dropWhile Adr.wordB)).2.2&&Adr.ident ((s.drop 7).takeWhile Adr.wordB))
theorem a_r6step (s:List UInt8) (hl:s.length≤2000000) (h7:7≤s.length) (h:Hp):ACall Tryz.prog GT 234 [.str s] h fun r h'=>r = .tup [.agg (stepR s).1.cells,.str (stepR s).2.1,.bool (stepR s).2.2]∧h'=h:=by
 have cw:=a_r6word (s.drop 7) (by rw [List.length_drop]; omega)
 have w1:((s.drop 7).takeWhile Adr.wordB).length≤2000000:=Nat.le_trans (List.takeWhile_prefix _).length_le (by rw [List.length_drop]; omega)
 have w2:((s.drop 7).dropWhile Adr.wordB).length≤2000000:=Nat.le_trans (List.dropWhile_suffix _).length_le (by rw [List.length_drop]; omega)
 have ck:=a_r6key _ w2
 have ci:=a_r6ident _ w1
 unfold stepR
 refine pcall ?_ rfl (by simp [A.pure,A.data]) h
 obtain ⟨W,hW⟩:∃ W,(s.drop 7).takeWhile Adr.wordB=W:=⟨_,rfl⟩
 obtain ⟨R,hR⟩:∃ R,(s.drop 7).dropWhile Adr.wordB=R:=⟨_,rfl⟩
 rw [hW] at cw ci ⊢
 rw [hR] at cw ck ⊢
 obtain ⟨⟨⟨a,b,d⟩,r,ok⟩,hk⟩:∃ k,keyR R=k:=⟨_,rfl⟩
 rw [hk] at ck ⊢
 unfold keyT at ck
 dsimp only at ck ⊢
 dsimp only [Adr.Step.cells]
 refine acall_of mixedT h_r6step (by simp [c_r6step]) ?_
 dsimp only [c_r6step]
 have hs:(0:Int)≤7∧(7:Int)≤(s.length:Int)∧Int.toNat 7=7:=⟨by decide,by omega,rfl⟩
 have tk:s.take s.length=s:=List.take_length
 refine runx0 hs (ai cw (ai ck (ai ci ti))) ?_
 exact ⟨_,le_refl _,rfl⟩
end AX
namespace Adr
theorem has_len (p:List UInt8) (r:Rd):(hasP p r).2.rest.length≤r.rest.length:=by
 unfold hasP; split
 ·rw [List.length_drop]; omega
 ·exact Nat.le_refl _
theorem has_less (p:List UInt8) (r:Rd) (h:begins r.rest p=true):(hasP p r).2.rest.length+p.length=r.rest.length:=by
 have:=begins_len h
 unfold hasP; rw [if_pos h]; dsimp only; rw [List.length_drop]; omega
theorem takeW_len {p:UInt8→Bool} (s:List UInt8):(s.takeWhile p).length≤s.length:=List.Sublist.length_le (List.takeWhile_sublist p)
theorem dropW_len {p:UInt8→Bool} (s:List UInt8):(s.dropWhile p).length≤s.length:=List.Sublist.length_le (List.dropWhile_sublist p)
theorem word_len (r:Rd):(wordP r).2.rest.length≤r.rest.length∧(wordP r).1.length≤r.rest.length:=⟨dropW_len _,takeW_len _⟩
theorem skip_len (p:List UInt8) (r:Rd):(skipP p r).rest.length≤r.rest.length:=by
 unfold skipP; split
 ·dsimp only; rw [List.length_drop]; omega
 ·exact Nat.le_refl _
theorem key_len (r:Rd):(keyP r).2.rest.length≤r.rest.length:=by
 unfold keyP
 split
 ·exact Nat.le_refl _
 ·split
  ·exact Nat.le_refl _
  ·dsimp only
   split
   ·split
    ·dsimp only; rw [List.length_drop]; omega
    ·refine Nat.le_trans (skip_len _ _) ?_
     dsimp only; rw [List.length_drop,List.length_drop]; omega
   ·refine Nat.le_trans (skip_len _ _) ?_
    dsimp only; rw [List.length_drop,List.length_drop]; omega
theorem step_len (r:Rd):(stepP r).2.rest.length≤r.rest.length:=Nat.le_trans (key_len _) (word_len r).1
end Adr
namespace AX
theorem w_step (r:Adr.Rd) (hl:r.rest.length≤2000000) {h:Hp} {i:Nat} (hb:h.b[i]?=some (adB r)) :
  ACall Tryz.prog GT 137 [.ptr i 0] h fun v h'=>v = .agg (Adr.stepP r).1.cells∧h'=⟨h.b.set i (adB (Adr.stepP r).2),h.t⟩:=by
 have key:ACall Tryz.prog GT 137 [.ptr 0 0] ⟨[adB r],[]⟩ fun v h'=>∃ b',h'.b[0]?=some b'∧v = .agg (Adr.stepP r).1.cells∧b'=adB (Adr.stepP r).2:=by
  refine acall_of mixedT h_rstep (by simp [c_rstep]) ?_
  dsimp only [c_rstep]
  have hw:=fun h hb=>w_word r hl (h:=h) (i:=0) hb
  have hk:=fun h hb=>w_key (Adr.wordP r).2 (Nat.le_trans (Adr.word_len r).1 hl) (h:=h) (i:=0) hb
  have hS:Adr.stepP r=(⟨(Adr.wordP r).1,(Adr.keyP (Adr.wordP r).2).1⟩,(Adr.keyP (Adr.wordP r).2).2):=rfl
  rw [hS]
  obtain ⟨⟨w,r1⟩,h1⟩:∃ q,Adr.wordP r=q:=⟨_,rfl⟩
  rw [h1] at hw hk ⊢
  dsimp only at hw hk ⊢
  obtain ⟨⟨⟨kd,kn,ks⟩,r2⟩,h2⟩:∃ q,Adr.keyP r1=q:=⟨_,rfl⟩
  rw [h2] at hk ⊢
  dsimp only [Adr.K.A] at hk ⊢
  unfold adB at hw hk ⊢
  refine run0 ti ?_
  refine use (hw _ rfl) ?_
  refine run0 ti ?_
  refine use (hk _ rfl) ?_
  refine run0 ti ?_
  exact ⟨_,le_refl _,_,rfl,rfl,rfl⟩
 refine (ACall.lift1 key rfl (adB_loc r) ?_ hb).mono ?_
 ·rintro v b' ⟨rfl,rfl⟩; exact ⟨rfl,adB_loc _⟩
 ·rintro v h' ⟨b',⟨rfl,rfl⟩,rfl⟩; exact ⟨rfl,rfl⟩
theorem a_parse (s:List UInt8) (hs:s.length≤2000000) (h:Hp):ACall Tryz.prog GT 105 [.str s] h fun r h'=>r = .tup [.agg (Adr.parse s).1.cells,.int .i64 (Adr.parse s).2]∧h'=h:=by
 rw [←Adr.parse_eq]
 refine pcall ?_ rfl (by simp [A.pure,A.data]) h
 refine fo ?_
 obtain ⟨⟨M,RM⟩,hM⟩:∃ q,Adr.modsP (s.length+1) ⟨s,false⟩ []=q:=⟨_,rfl⟩
 obtain ⟨F,hF⟩:∃ F,Adr.parseP s=F:=⟨_,rfl⟩
 rw [hF]
 unfold Adr.parseP at hF
 rw [hM] at hF
 dsimp only at hF
 refine run0 ti ?_
 refine awp_loop (fun mm ts h=>∃ (r:Adr.Rd) (l:List Adr.Step) (W:Nat) (o:Own) (t:List (TypeId×Nat×Nat)),r.rest.length < mm∧mm+l.length=s.length+1∧Adr.modsP mm r l=(M,RM) ∧
  h=⟨[.cells 149 [.sl 0 .nil [],.bool false,.str [],.str [],.int .i64 0,.int .i64 0,.str []],.cells 184 [.str r.rest,.bool r.bad],.cells 149 [.sl W o (l.map Adr.Step.cells),.bool false,.str [],.str [],.int .i64 0,.int .i64 0,.str []]],t⟩ ∧
  Gs 186 4 0 ⟨[],t⟩ (l.map Adr.Step.cells) (.sl W o (l.map Adr.Step.cells))∧ts 2 = .ptr 0 0∧ts 3 = .int .i64 0∧ts 4 = .ptr 1 0∧ts 5 = .ptr 2 0) (s.length+1) ?_ ?_
 ·exact ⟨⟨s,false⟩,[],0,.nil,[],by dsimp only; omega,by simp,hM,rfl,.inl ⟨rfl,rfl⟩,by (exact ev0 ti),by (exact ev0 ti),by (exact ev0 ti),by (exact ev0 ti)⟩
 rintro mm ts h ⟨r,l,W,o,t,hrm,hml,hmod,rfl,gX,t2,t3,t4,t5⟩
 cases mm with
 | zero=>omega
 | succ f =>
 unfold Adr.modsP at hmod
 by_cases hgo:r.bad=false∧Adr.begins r.rest Adr.modW=true
 ·rw [if_pos hgo] at hmod
  have hmw:Adr.modW=[109,111,100,117,108,101,46]:=rfl
  have cH:=fun h hb=>w_has Adr.modW r (h:=h) (i:=1) hb
  have l1:=Adr.has_less Adr.modW r hgo.2
  have hh1:(Adr.hasP Adr.modW r).1=true:=by unfold Adr.hasP; rw [if_pos hgo.2]
  rw [hh1] at cH
  have l7:Adr.modW.length=7:=rfl
  have hr0:r.bad=false:=hgo.1
  obtain ⟨r1,hr1⟩:∃ q,(Adr.hasP Adr.modW r).2=q:=⟨_,rfl⟩
  rw [hr1] at cH l1 hmod
  have cS:=fun h hb=>w_step r1 (by omega) (h:=h) (i:=1) hb
  have l2:=Adr.step_len r1
  obtain ⟨⟨⟨nm,⟨kd,kn,ks⟩⟩,r2⟩,hr2⟩:∃ q,Adr.stepP r1=q:=⟨_,rfl⟩
  rw [hr2] at cS l2 hmod
  dsimp only [Adr.Step.cells] at cS l2 hmod
  have cK:=fun h hb=>w_skip [46] r2 (h:=h) (i:=1) hb
  have l3:=Adr.skip_len [46] r2
  obtain ⟨r3,hr3⟩:∃ q,Adr.skipP [46] r2=q:=⟨_,rfl⟩
  rw [hr3] at cK l3 hmod
  unfold adB at cH cS cK
  rw [hmw] at cH
  rw [hr0] at cH
  obtain ⟨W',o',t',hX,gX',_⟩:=gX.grow 48 [.str nm,.int .i64 kd,.int .i64 kn,.str ks] (by rw [List.length_map]; omega) (by decide)
  have hcat:l.map Adr.Step.cells++[[.str nm,.int .i64 kd,.int .i64 kn,.str ks]]=(l++[(⟨nm,⟨kd,kn,ks⟩⟩:Adr.Step)]).map Adr.Step.cells:=by rw [List.map_append]; rfl
  rw [hcat] at gX'
  simp only [hcat] at hX
  rw [hr0]
  refine run0 (ai t2 (ai t3 (ai t4 t5))) ?_
  refine use (cH _ rfl) ?_
  refine run0 (ai t2 (ai t3 (ai t4 t5))) ?_
  refine use (cS _ rfl) ?_
  refine run0 (ai t2 (ai t3 (ai t4 (ai t5 hX)))) ?_
  refine use (cK _ rfl) ?_
  refine run0 (ai t2 (ai t3 (ai t4 t5))) ?_
  exact ⟨f,by omega,r3,l++[(⟨nm,⟨kd,kn,ks⟩⟩:Adr.Step)],W',o',t',by omega,by simp; omega,hmod,rfl,gX',by (exact ev0 t2),by (exact ev0 t3),by (exact ev0 t4),by (exact ev0 t5)⟩
 ·rw [if_neg hgo] at hmod
  injection hmod with hm1 hm2
  subst hm1; subst hm2
  have cD:=fun h hb=>w_has Adr.dataW r (h:=h) (i:=1) hb
  have l1:=Adr.has_len Adr.dataW r
  obtain ⟨⟨dt,r1⟩,hr1⟩:∃ q,Adr.hasP Adr.dataW r=q:=⟨_,rfl⟩
  rw [hr1] at cD l1 hF
  dsimp only at cD l1 hF
  have cT:=fun h hb=>w_word r1 (by omega) (h:=h) (i:=1) hb
  have l2:=Adr.word_len r1
  obtain ⟨⟨ty,r2⟩,hr2⟩:∃ q,Adr.wordP r1=q:=⟨_,rfl⟩
  rw [hr2] at cT l2 hF
  dsimp only at cT l2 hF
  have cK:=fun h hb=>w_skip [46] r2 (h:=h) (i:=1) hb
  have l3:=Adr.skip_len [46] r2
  obtain ⟨r3,hr3⟩:∃ q,Adr.skipP [46] r2=q:=⟨_,rfl⟩
  rw [hr3] at cK l3 hF
  have cN:=fun h hb=>w_word r3 (by omega) (h:=h) (i:=1) hb
  have l4:=Adr.word_len r3
  obtain ⟨⟨na,r4⟩,hr4⟩:∃ q,Adr.wordP r3=q:=⟨_,rfl⟩
  rw [hr4] at cN l4 hF
  dsimp only at cN l4 hF
  have cY:=fun h hb=>w_key r4 (by omega) (h:=h) (i:=1) hb
  have l5:=Adr.key_len r4
  obtain ⟨⟨⟨kd,kn,ks⟩,⟨re,ba⟩⟩,hr5⟩:∃ q,Adr.keyP r4=q:=⟨_,rfl⟩
  rw [hr5] at cY l5 hF
  dsimp only [Adr.K.A] at cY l5 hF
  have ck:=fun h=>a_kind ty (by omega) h
  unfold adB at cD cT cK cN cY
  have hdw:Adr.dataW=[100,97,116,97,46]:=rfl
  rw [hdw] at cD
  have start:∀ {G:Prop},(r.bad=true→G)→(r.bad=false→Adr.begins r.rest Adr.modW=false→G)→G:=fun p q=>by
   cases hb:r.bad
   ·refine q hb ?_
    cases hB:Adr.begins r.rest Adr.modW
    ·rfl
    ·exact absurd ⟨hb,hB⟩ hgo
   ·exact p hb
  have lx:=Gs.le gX
  refine start (fun hb=>?_) (fun hb hB=>?_)
  ·rw [hb] at cD ⊢
   refine run0 (ai t2 (ai t3 (ai t4 t5))) ?_
   refine use (cD _ rfl) ?_
   refine run0 (ai t2 (ai t3 (ai t4 t5))) ?_
   refine use (cT _ rfl) ?_
   refine run0 (ai t2 (ai t3 (ai t4 t5))) ?_
   refine use (cK _ rfl) ?_
   refine run0 (ai t2 (ai t3 (ai t4 t5))) ?_
   refine use (cN _ rfl) ?_
   refine run0 (ai t2 (ai t3 (ai t4 t5))) ?_
   refine use (cY _ rfl) ?_
   have zle:leL [.sl 0 .nil [],.bool false,.str [],.str [],.int .i64 0,.int .i64 0,.str []] Adr.Ad.zero.cells:=⟨⟨rfl,.inr rfl,.inl rfl⟩,rfl,rfl,rfl,rfl,rfl,rfl,trivial⟩
   cases ba
   rotate_left
   ·rw [if_pos (.inl rfl)] at hF
    subst hF
    refine run0 (ai t2 (ai t3 (ai t4 t5))) ?_
    exact ⟨.tup [.agg Adr.Ad.zero.cells,.int .i64 2],⟨zle,rfl,trivial⟩,rfl⟩
   cases hre:re != []
   rotate_left
   ·rw [if_pos (.inr (.inl (bne_iff_ne.1 hre)))] at hF
    subst hF
    refine run0 (ai t2 (ai t3 (ai t4 (ai t5 hre)))) ?_
    exact ⟨.tup [.agg Adr.Ad.zero.cells,.int .i64 2],⟨zle,rfl,trivial⟩,rfl⟩
   refine run0 (ai t2 (ai t3 (ai t4 (ai t5 hre)))) ?_
   refine use (ck _) ?_
   cases hkb:Adr.kindB ty
   ·rw [if_pos (.inr (.inr hkb))] at hF
    subst hF
    refine run0 (ai t2 (ai t3 (ai t4 t5))) ?_
    exact ⟨.tup [.agg Adr.Ad.zero.cells,.int .i64 2],⟨zle,rfl,trivial⟩,rfl⟩
   rw [if_neg (by rintro (h | h | h); cases h; rw [bne_eq_false_iff_eq] at hre; exact h hre; rw [hkb] at h; cases h)] at hF
   have lm:(l.map Adr.Step.cells).length=l.length:=List.length_map ..
   by_cases hlen:(l.length:Int) > 16
   ·rw [if_pos (by omega)] at hF
    subst hF
    refine run0 (ai t2 (ai t3 (ai t4 (ai t5 (ai lm hlen))))) ?_
    exact ⟨.tup [.agg Adr.Ad.zero.cells,.int .i64 4],⟨zle,rfl,trivial⟩,rfl⟩
   ·rw [if_neg (by omega)] at hF
    subst hF
    refine run0 (ai t2 (ai t3 (ai t4 (ai t5 (ai lm hlen))))) ?_
    exact ⟨.tup [.agg (Adr.Ad.cells ⟨l,dt,ty,na,⟨kd,kn,ks⟩⟩),.int .i64 0],⟨⟨lx,rfl,rfl,rfl,rfl,rfl,rfl,trivial⟩,rfl,trivial⟩,rfl⟩
  ·rw [hb] at cD ⊢
   have cH:=fun h hb=>w_has Adr.modW r (h:=h) (i:=1) hb
   have hh1:Adr.hasP Adr.modW r=(false,r):=by unfold Adr.hasP; rw [hB,if_neg (by decide)]
   have hmw:Adr.modW=[109,111,100,117,108,101,46]:=rfl
   rw [hh1,hmw] at cH
   unfold adB at cH
   rw [hb] at cH
   refine run0 (ai t2 (ai t3 (ai t4 t5))) ?_
   refine use (cH _ rfl) ?_
   refine run0 (ai t2 (ai t3 (ai t4 t5))) ?_
   refine use (cD _ rfl) ?_
   refine run0 (ai t2 (ai t3 (ai t4 t5))) ?_
   refine use (cT _ rfl) ?_
   refine run0 (ai t2 (ai t3 (ai t4 t5))) ?_
   refine use (cK _ rfl) ?_
   refine run0 (ai t2 (ai t3 (ai t4 t5))) ?_
   refine use (cN _ rfl) ?_
   refine run0 (ai t2 (ai t3 (ai t4 t5))) ?_
   refine use (cY _ rfl) ?_
   have zle:leL [.sl 0 .nil [],.bool false,.str [],.str [],.int .i64 0,.int .i64 0,.str []] Adr.Ad.zero.cells:=⟨⟨rfl,.inr rfl,.inl rfl⟩,rfl,rfl,rfl,rfl,rfl,rfl,trivial⟩
   cases ba
   rotate_left
   ·rw [if_pos (.inl rfl)] at hF
    subst hF
    refine run0 (ai t2 (ai t3 (ai t4 t5))) ?_
    exact ⟨.tup [.agg Adr.Ad.zero.cells,.int .i64 2],⟨zle,rfl,trivial⟩,rfl⟩
   cases hre:re != []
   rotate_left
   ·rw [if_pos (.inr (.inl (bne_iff_ne.1 hre)))] at hF
    subst hF
    refine run0 (ai t2 (ai t3 (ai t4 (ai t5 hre)))) ?_
    exact ⟨.tup [.agg Adr.Ad.zero.cells,.int .i64 2],⟨zle,rfl,trivial⟩,rfl⟩
   refine run0 (ai t2 (ai t3 (ai t4 (ai t5 hre)))) ?_
   refine use (ck _) ?_
   cases hkb:Adr.kindB ty
   ·rw [if_pos (.inr (.inr hkb))] at hF
    subst hF
    refine run0 (ai t2 (ai t3 (ai t4 t5))) ?_
    exact ⟨.tup [.agg Adr.Ad.zero.cells,.int .i64 2],⟨zle,rfl,trivial⟩,rfl⟩
   rw [if_neg (by rintro (h | h | h); cases h; rw [bne_eq_false_iff_eq] at hre; exact h hre; rw [hkb] at h; cases h)] at hF
   have lm:(l.map Adr.Step.cells).length=l.length:=List.length_map ..
   by_cases hlen:(l.length:Int) > 16
   ·rw [if_pos (by omega)] at hF
    subst hF
    refine run0 (ai t2 (ai t3 (ai t4 (ai t5 (ai lm hlen))))) ?_
    exact ⟨.tup [.agg Adr.Ad.zero.cells,.int .i64 4],⟨zle,rfl,trivial⟩,rfl⟩
   ·rw [if_neg (by omega)] at hF
    subst hF
    refine run0 (ai t2 (ai t3 (ai t4 (ai t5 (ai lm hlen))))) ?_
    exact ⟨.tup [.agg (Adr.Ad.cells ⟨l,dt,ty,na,⟨kd,kn,ks⟩⟩),.int .i64 0],⟨⟨lx,rfl,rfl,rfl,rfl,rfl,rfl,trivial⟩,rfl,trivial⟩,rfl⟩
def preP (acc:List Adr.Step) (r:Option (Adr.Ad×Bool)):Option (Adr.Ad×Bool):=r.map fun p=>({ p.1 with mods:=acc++p.1.mods },p.2)
def placeT:Option (Adr.Ad×Bool)→A
 | none => .tup [.agg [.sl 0 .nil [],.bool false,.str [],.str [],.int .i64 0,.int .i64 0,.str [],.bool false],.bool false]
 | some (p,w) => .tup [.agg [.sl 4 .no (p.mods.map Adr.Step.cells),.bool p.data,.str p.type,.str p.name,.int .i64 p.key.kind,.int .i64 p.key.num,.str p.key.str,.bool w],.bool true]
theorem placeT_pure (r:Option (Adr.Ad×Bool)):(placeT r).pure=true:=by
 cases r with
 | none=>rfl
 | some p=>rfl
theorem step_R (s:List UInt8):Adr.step s=if (stepR s).2.2=true then some ((stepR s).1,(stepR s).2.1) else none:=by
 unfold Adr.step stepR keyR
 cases Adr.key ((s.drop 7).dropWhile Adr.wordB) with
 | none=>simp
 | some p =>
  obtain ⟨k,r⟩:=p
  simp only [Bool.true_and]
def c_r6parse:AX.AFn:=⟨27,aS [aR 2 (.alloc 149 [.sl 0 .nil [],.bool false,.str [],.str [],.int .i64 0,.int .i64 0,.str []]),aR 3 (.mv (aI 0))] (aS [aM 7 0,aR 8 (.call 217 [.t 7]),aM 6 8,aE 9 6 0,aE 10 6 1,aR 4 (.alloc 248 [.sl 0 .nil [],.bool false,.str [],.str [],.int .i64 0,.int .i64 0,.str [],.bool false]),aU (.store 8 (.t 4) (.t 9)),aM 5 10] (.seq (aS [aM 11 5,aR 12 (.un .not (.t 11)),aM 13 12,aG 14 (.faddr 7 (.t 4)) 13 false,aG 15 (.load false 1 (.t 14)) 13 false,aG 16 (.un .not (.t 15)) 13 false,aR 17 (.pick (.t 13) (.c (.bool true)) (.t 16))] (.cond (.t 17) (aS [aR 18 (.build [.sl 0 .nil [],.bool false,.str [],.str [],.int .i64 0,.int .i64 0,.str []] []),aU (.store 7 (.t 2) (.t 18)),aR 3 (.mv (aI 2))] (.ret)) (.skip))) (.seq (aS [aF 19 0 4,aF 20 0 19,aL 21 20,aR 22 (.len false (.t 21)),aR 23 (.bin .gtr (.t 22) (aI 16))] (.cond (.t 23) (aS [aR 24 (.build [.sl 0 .nil [],.bool false,.str [],.str [],.int .i64 0,.int .i64 0,.str []] []),aU (.store 7 (.t 2) (.t 24)),aR 3 (.mv (aI 4))] (.ret)) (.skip))) (aS [aF 25 0 4,aR 26 (.load true 7 (.t 25)),aU (.store 7 (.t 2) (.t 26)),aR 3 (.mv (aI 0))] (.ret))))),[.c 2 true 7,.t 3]⟩
theorem h_r6parse:AX.compFn Tryz.prog 197=some c_r6parse:=by kernel_rfl
theorem preP_some (acc:List Adr.Step) (p:Adr.Ad) (w:Bool):preP acc (some (p,w))=some ({ p with mods:=acc++p.mods },w):=rfl
set_option maxHeartbeats 8000000 in
theorem a_r6place (s0:List UInt8) (hl:s0.length≤2000000) (h:Hp):ACall Tryz.prog GT 217 [.str s0] h fun r h'=>r=placeT (Adr.place (s0.length+1) s0)∧h'=h:=by
 refine pcall ?_ (placeT_pure _) (by simp [A.pure,A.data]) h
 obtain ⟨q,hq⟩:∃ q,Adr.place (s0.length+1) s0=q:=⟨_,rfl⟩
 rw [hq]
 refine fo ?_
 refine runx0 ti ti ?_
 refine awp_loop (fun m ts hh=>∃ (s:List UInt8) (acc:List Adr.Step) (f:Nat) (W:Nat) (o:Own) (l:List Blk) (t:List (TypeId×Nat×Nat)),m=s.length∧s.length < f∧acc.length+s.length≤s0.length∧q=preP acc (Adr.place f s) ∧
  hh=⟨.cells 248 [.sl 0 .nil [],.bool false,.str [],.str [],.int .i64 0,.int .i64 0,.str [],.bool false] :: .cells 248 [.sl W o (acc.map Adr.Step.cells),.bool false,.str [],.str [],.int .i64 0,.int .i64 0,.str [],.bool false]::l,t⟩ ∧
  Gs 186 4 0 ⟨[],t⟩ (acc.map Adr.Step.cells) (.sl W o (acc.map Adr.Step.cells))∧(ts 0 = .str s∧ts 2 = .ptr 0 0∧ts 4 = .ptr 1 0)) s0.length ?_ ?_
 ·exact ⟨s0,[],s0.length+1,0,.nil,[],[],rfl,Nat.lt_succ_self _,by simp,by rw [←hq]; unfold preP; cases Adr.place (s0.length+1) s0 <;> rfl,rfl,.inl ⟨rfl,rfl⟩,by (exact inv0 ti)⟩
 rintro m ts hh ⟨s,acc,f,W,o,l,t,rfl,hf,hal,hp,rfl,gX,ht⟩
 obtain ⟨f,rfl⟩:∃ g,f=g+1:=⟨f - 1,by omega⟩
 unfold Adr.place at hp
 have cb:=a_r6begins s Adr.modW (by omega) (by decide)
 cases hB:Adr.begins s Adr.modW with
 | true =>
  rw [hB] at cb
  rw [hB,if_pos rfl,step_R] at hp
  have h7:7≤s.length:=Adr.begins_len hB
  have cs:=a_r6step s (by omega) h7
  have hsr:=Adr.step_rest s
  rw [step_R] at hsr
  dsimp only [Adr.modW] at cb
  obtain ⟨⟨⟨xn,kk,kn,ks⟩,rest,ok⟩,hR⟩:∃ r,stepR s=r:=⟨_,rfl⟩
  rw [hR] at cs hp hsr
  dsimp only [Adr.Step.cells] at cs hp hsr
  cases ok with
  | false =>
   rw [if_neg (by decide)] at hp
   have hq0:q=none:=hp
   subst hq0
   refine runx0 ht (ai cb (ai cs ti)) ?_
   exact ⟨_,le_refl _,rfl⟩
  | true =>
  rw [if_pos rfl] at hp hsr
  have hrl:=hsr _ _ rfl
  dsimp only at hp
  have hrow:(acc++[(⟨xn,⟨kk,kn,ks⟩⟩:Adr.Step)]).map Adr.Step.cells=acc.map Adr.Step.cells++[[.str xn,.int .i64 kk,.int .i64 kn,.str ks]]:=by rw [List.map_append]; rfl
  obtain ⟨W',o',t',hX,gX',_⟩:=gX.grow 48 [.str xn,.int .i64 kk,.int .i64 kn,.str ks] (by rw [List.length_map]; omega) (by decide)
  rw [←hrow] at gX'
  simp only [←hrow] at hX
  by_cases hr0:rest=[]
  ·subst hr0
   rw [if_pos rfl] at hp
   rw [preP_some] at hp
   subst hp
   refine runx0 (ai ht hX) (ai cb (ai cs ti)) ?_
   refine ⟨placeT _,?_,rfl⟩
   exact ⟨⟨gX'.le,rfl,rfl,rfl,rfl,rfl,rfl,rfl,trivial⟩,rfl,trivial⟩
  rw [if_neg hr0] at hp
  have hr0':(rest == ([]:List UInt8))=false:=by simpa using hr0
  have hpos:0 < rest.length:=List.length_pos_iff.2 hr0
  have hr1:(0:Int) < (rest.length:Int)∧(0:Int)≤1∧(1:Int)≤(rest.length:Int)∧Int.toNat 1=1∧rest.take rest.length=rest:=⟨by omega,by omega,by omega,rfl,List.take_length⟩
  obtain ⟨c,hc⟩:∃ c,rest.getD 0 0=c:=⟨_,rfl⟩
  have hcn:=byte_neI c 46 (by decide)
  rw [show ((46:Nat):Int)=46 from rfl,show UInt8.ofNat 46=46 from rfl] at hcn
  rw [hc] at hp
  by_cases hd:c=46
  rotate_left
  ·have e1:(c != 46)=true:=by simp [hd]
   rw [if_pos hd] at hp
   have hq0:q=none:=hp
   subst hq0
   refine runx0 (ai ht (ai hX (ai hr0' (ai hr1 (ai hc (ai hcn e1)))))) (ai cb (ai cs ti)) ?_
   exact ⟨_,le_refl _,rfl⟩
  have e1:(c != 46)=false:=by simp [hd]
  rw [if_neg (by simp [hd])] at hp
  refine runx0 (ai ht (ai hX (ai hr0' (ai hr1 (ai hc (ai hcn e1)))))) (ai cb (ai cs ti)) ?_
  refine ⟨(rest.drop 1).length,by rw [List.length_drop]; omega,rest.drop 1,acc++[⟨xn,⟨kk,kn,ks⟩⟩],f,W',o',_,t',rfl,by rw [List.length_drop]; omega,by rw [List.length_append,List.length_drop]; simp; omega,?_,rfl,gX',by (exact inv0 (ai ht hr1))⟩
  rw [hp]
  unfold preP
  cases Adr.place f (rest.drop 1) with
  | none=>rfl
  | some p=>simp
 | false =>
  rw [hB] at cb
  rw [hB,if_neg (by decide)] at hp
  dsimp only [Adr.modW] at cb
  have cd:=a_r6begins s Adr.dataW (by omega) (by decide)
  obtain ⟨dt,hdt⟩:∃ b,Adr.begins s Adr.dataW=b:=⟨_,rfl⟩
  have hdl:dt=true→5≤s.length:=fun e=>Adr.begins_len (s:=s) (p:=Adr.dataW) (by rw [hdt]; exact e)
  unfold Adr.last at hp
  dsimp only at hp
  rw [hdt] at cd hp
  dsimp only [Adr.dataW] at cd
  obtain ⟨tt,htt⟩:∃ tt,(if dt=true then s.drop 5 else s)=tt:=⟨_,rfl⟩
  rw [htt] at hp
  have htl:tt.length≤2000000:=by
   rw [←htt]
   split
   ·rw [List.length_drop]; omega
   ·omega
  refine runx0 ht (ai cb (ai cd ti)) ?_
  refine awp_join (fun ts' h'=>h'=⟨.cells 248 [.sl 0 .nil [],.bool false,.str [],.str [],.int .i64 0,.int .i64 0,.str [],.bool false] :: .cells 248 [.sl W o (acc.map Adr.Step.cells),.bool dt,.str [],.str [],.int .i64 0,.int .i64 0,.str [],.bool false]::l,t⟩∧(ts' 0 = .str tt∧ts' 2 = .ptr 0 0∧ts' 4 = .ptr 1 0)) ?_ ?_
  ·cases dt with
   | false =>
    rw [if_neg (by decide)] at htt
    subst htt
    refine runx0 ht ti ?_
    exact ⟨rfl,by (exact inv0 ht)⟩
   | true =>
    rw [if_pos rfl] at htt
    have h5:=hdl rfl
    have h5':(0:Int)≤5∧(5:Int)≤(s.length:Int)∧Int.toNat 5=5∧s.take s.length=s:=⟨by decide,by omega,rfl,List.take_length⟩
    refine runx0 (ai ht h5') ti ?_
    exact ⟨rfl,by (exact inv0 (ai ht (ai htt h5')))⟩
  rintro ts hh ⟨rfl,hu⟩
  have cw:=a_r6word tt htl
  have w1:(tt.takeWhile Adr.wordB).length≤2000000:=Nat.le_trans (List.takeWhile_prefix _).length_le htl
  have w2:(tt.dropWhile Adr.wordB).length≤2000000:=Nat.le_trans (List.dropWhile_suffix _).length_le htl
  have ci:=a_r6ident _ w1
  have cr:=a_r6res (tt.takeWhile Adr.wordB)
  obtain ⟨typ,htyp⟩:∃ w,tt.takeWhile Adr.wordB=w:=⟨_,rfl⟩
  obtain ⟨r,hr⟩:∃ w,tt.dropWhile Adr.wordB=w:=⟨_,rfl⟩
  rw [htyp] at cw ci cr hp
  rw [hr] at cw hp w2
  have hkb:Adr.kindB typ=(!Adr.reserved typ&&Adr.ident typ):=rfl
  have bad:(Adr.kindB typ=false∨r.getD 0 0≠46)→q=none:=fun hb=>by rw [hp,if_pos hb]; rfl
  cases hI:Adr.ident typ with
  | false =>
   rw [hI] at ci
   have hq0:=bad (.inl (by rw [hkb,hI]; simp))
   subst hq0
   refine runx0 hu (ai cw (ai ci ti)) ?_
   exact ⟨_,le_refl _,rfl⟩
  | true =>
  rw [hI] at ci
  cases hRs:Adr.reserved typ with
  | true =>
   rw [hRs] at cr
   have hq0:=bad (.inl (by rw [hkb,hRs]; rfl))
   subst hq0
   refine runx0 hu (ai cw (ai ci (ai cr ti))) ?_
   exact ⟨_,le_refl _,rfl⟩
  | false =>
  rw [hRs] at cr
  cases r with
  | nil =>
   have hq0:=bad (.inr (by simp))
   subst hq0
   refine runx0 hu (ai cw (ai ci (ai cr ti))) ?_
   exact ⟨_,le_refl _,rfl⟩
  | cons c r' =>
  have hr1:((c::r') == ([]:List UInt8))=false∧(0:Int) < ((r'.length+1:Nat):Int)∧(0:Int)≤1∧(1:Int)≤((r'.length+1:Nat):Int)∧Int.toNat 1=1∧r'.take r'.length=r':=⟨rfl,by omega,by omega,by omega,rfl,List.take_length⟩
  have hcn:=byte_neI c 46 (by decide)
  rw [show ((46:Nat):Int)=46 from rfl,show UInt8.ofNat 46=46 from rfl] at hcn
  by_cases hd:c=46
  rotate_left
  ·have e1:(c != 46)=true:=by simp [hd]
   have hq0:=bad (.inr (by simpa using hd))
   subst hq0
   refine runx0 (ai hu (ai hr1 (ai hcn e1))) (ai cw (ai ci (ai cr ti))) ?_
   exact ⟨_,le_refl _,rfl⟩
  have e1:(c != 46)=false:=by simp [hd]
  rw [if_neg (by rw [hkb,hRs,hI]; simpa using hd),List.drop_succ_cons,List.drop_zero] at hp
  have hr'l:r'.length≤2000000:=by simp only [List.length_cons] at w2; omega
  have cw2:=a_r6word r' hr'l
  have w3:(r'.takeWhile Adr.wordB).length≤2000000:=Nat.le_trans (List.takeWhile_prefix _).length_le hr'l
  have w4:(r'.dropWhile Adr.wordB).length≤2000000:=Nat.le_trans (List.dropWhile_suffix _).length_le hr'l
  have ci2:=a_r6ident _ w3
  have ck:=a_r6key _ w4
  obtain ⟨nm,hnm⟩:∃ w,r'.takeWhile Adr.wordB=w:=⟨_,rfl⟩
  obtain ⟨r2,hr2⟩:∃ w,r'.dropWhile Adr.wordB=w:=⟨_,rfl⟩
  rw [hnm] at cw2 ci2 hp
  rw [hr2] at cw2 ck hp
  have hkR:Adr.key r2=if (keyR r2).2.2=true then some ((keyR r2).1,(keyR r2).2.1) else none:=by
   unfold keyR
   cases Adr.key r2 with
   | none=>simp
   | some p=>simp
  rw [hkR] at hp
  obtain ⟨⟨⟨ka,kb,kc⟩,rst,ok⟩,hK⟩:∃ k,keyR r2=k:=⟨_,rfl⟩
  rw [hK] at ck hp
  unfold keyT at ck
  dsimp only at ck hp
  cases hI2:Adr.ident nm with
  | false =>
   rw [hI2] at ci2
   have hq0:q=none:=by
    rw [hp]
    cases ok with
    | false=>rfl
    | true =>
     rw [if_pos rfl]
     dsimp only
     rw [if_neg (by rw [hI2]; simp)]
     rfl
   subst hq0
   refine runx0 (ai hu (ai hr1 (ai hcn e1))) (ai cw (ai ci (ai cr (ai cw2 (ai ck (ai ci2 ti)))))) ?_
   exact ⟨_,le_refl _,rfl⟩
  | true =>
  rw [hI2] at ci2
  cases ok with
  | false =>
   have hq0:q=none:=hp
   subst hq0
   refine runx0 (ai hu (ai hr1 (ai hcn e1))) (ai cw (ai ci (ai cr (ai cw2 (ai ck (ai ci2 ti)))))) ?_
   exact ⟨_,le_refl _,rfl⟩
  | true =>
  rw [if_pos rfl] at hp
  dsimp only at hp
  by_cases hrst:rst=[]
  rotate_left
  ·have e2:(rst != ([]:List UInt8))=true:=by simpa using hrst
   rw [if_neg (fun h=>hrst h.2)] at hp
   have hq0:q=none:=hp
   subst hq0
   refine runx0 (ai hu (ai hr1 (ai hcn (ai e1 e2)))) (ai cw (ai ci (ai cr (ai cw2 (ai ck (ai ci2 ti)))))) ?_
   exact ⟨_,le_refl _,rfl⟩
  subst hrst
  rw [if_pos ⟨hI2,rfl⟩] at hp
  dsimp only at hp
  rw [preP_some] at hp
  dsimp only at hp
  rw [List.append_nil] at hp
  subst hp
  refine runx0 (ai hu (ai hr1 (ai hcn e1))) (ai cw (ai ci (ai cr (ai cw2 (ai ck (ai ci2 ti)))))) ?_
  refine ⟨placeT _,?_,rfl⟩
  exact ⟨⟨gX.le,rfl,rfl,rfl,rfl,rfl,rfl,rfl,trivial⟩,rfl,trivial⟩
theorem a_r6parse (s:List UInt8) (hl:s.length≤2000000) (h:Hp):ACall Tryz.prog GT 197 [.str s] h fun r h'=>r = .tup [.agg (Adr.parse s).1.cells,.int .i64 (Adr.parse s).2]∧h'=h:=by
 have cp:=a_r6place s hl
 refine pcall ?_ (by simp [A.pure,A.data,Adr.Ad.cells]) (by simp [A.pure,A.data]) h
 unfold Adr.parse
 refine acall_of mixedT h_r6parse (by simp [c_r6parse]) ?_
 dsimp only [c_r6parse]
 cases hP:Adr.place (s.length+1) s with
 | none =>
  rw [hP] at cp
  dsimp only [placeT] at cp
  refine runx0 ti (ai cp ti) ?_
  exact ⟨.tup [.agg (Adr.Ad.cells Adr.Ad.zero),.int .i64 2],⟨⟨⟨rfl,.inr rfl,.inl rfl⟩,rfl,rfl,rfl,rfl,rfl,rfl,trivial⟩,rfl,trivial⟩,rfl⟩
 | some p =>
  rw [hP] at cp
  obtain ⟨⟨mods,data,ty,nm,ka,kb,kc⟩,w⟩:=p
  dsimp only [placeT] at cp
  have lm:(mods.map Adr.Step.cells).length=mods.length:=List.length_map _
  cases w with
  | false =>
   refine runx0 ti (ai cp ti) ?_
   exact ⟨.tup [.agg (Adr.Ad.cells Adr.Ad.zero),.int .i64 2],⟨⟨⟨rfl,.inr rfl,.inl rfl⟩,rfl,rfl,rfl,rfl,rfl,rfl,trivial⟩,rfl,trivial⟩,rfl⟩
  | true =>
   dsimp only
   by_cases h16:16 < mods.length
   ·have e1:(mods.length:Int) > 16:=by omega
    rw [if_pos h16]
    refine runx0 (ai lm e1) (ai cp ti) ?_
    exact ⟨.tup [.agg (Adr.Ad.cells Adr.Ad.zero),.int .i64 4],⟨⟨⟨rfl,.inr rfl,.inl rfl⟩,rfl,rfl,rfl,rfl,rfl,rfl,trivial⟩,rfl,trivial⟩,rfl⟩
   ·have e1:¬ (mods.length:Int) > 16:=by omega
    rw [if_neg h16]
    refine runx0 (ai lm e1) (ai cp ti) ?_
    exact ⟨_,le_refl _,rfl⟩
section
variable {P:Program} {G:World→Prop} {C:Ctx} {h:Hp}
def Fz1 (h:Hp) (x y:A):Prop:=(x=y∧x.data=true)∨∃ i W T rows,x = .bs i W rows.length∧h.b[i]?=some (.row T rows.flatten)∧y = .sl W .no rows∧(∀ r∈rows,r.length=W)∧rows.flatten.all A.data=true
def FzL (h:Hp):List A→List A→Prop
 | [],[]=>True
 | x::l,y::m=>Fz1 h x y∧FzL h l m
 | _,_=>False
theorem FzL.data {h:Hp}:∀ {l m:List A},FzL h l m→m.all A.data=true
 | [],[],_=>rfl
 | x::l,y::m,hf=>by
  rw [List.all_cons,Bool.and_eq_true]
  refine ⟨?_,FzL.data hf.2⟩
  rcases hf.1 with ⟨rfl,hd⟩ | ⟨i,W,T,rows,_,_,rfl,_,_⟩
  ·exact hd
  ·rfl
 | [],_::_,hf=>hf.elim
 | _::_,[],hf=>hf.elim
theorem pcallz {f:FuncId} {args:List A} {ys:List A} (hc:ACall P G f args ⟨[],[]⟩ fun v h'=>∃ xs,v = .agg xs∧FzL h' xs ys) (ha:args.all A.pure=true) (h:Hp):ACall P G f args h fun v h'=>v = .agg ys∧h'=h:=by
 intro C cs hI hr
 have hid:Inv G C.hid ⟨[],[]⟩:=by
  refine ⟨rfl,fun i b hb=>by simp at hb,fun i hi=>by simp [Ctx.hid] at hi,fun g i hg=>by simp [Ctx.hid] at hg,fun g j hs=>?_,fun t E W m ht=>by simp [Ctx.hid] at ht,fun t t' ht=>by simp [Ctx.hid] at ht,fun t=>by simp [Ctx.hid],hI.base,hI.glob⟩
  exact ⟨(hI.prot g j hs).1,rfl,fun t E W m ht=>by simp [Ctx.hid] at ht⟩
 refine (hc C.hid cs hid (RepL.pures (C:=C) (C':=C.hid) ⟨fun g j hs=>⟨hs,rfl⟩⟩ args cs ha hr)).mono ?_
 rintro e w' ⟨C1,h1,v,cv,rfl,rfl,I1,S1,r1,xs,rfl,hf⟩
 have hblk:∀ g,g < C.w.heap.size→C1.w.heap[g]?=C.w.heap[g]?:=fun g hg=>S1.frame g hg rfl fun t ht=>by simp [Ctx.hid] at ht
 have hnew:∀ g i,C1.own g=some i→C.w.heap.size≤g:=fun g i hg=>by
  rcases Nat.lt_or_ge g C.w.heap.size with hlt | hge
  ·have:=S1.own g hlt
   rw [hg] at this
   simp [Ctx.hid] at this
  ·exact hge
 let C2:Ctx:={ C with w:=C1.w,S:=fun g j=>C1.S g j∨((C1.own g).isSome=true),own:=fun g=>if g < C.w.heap.size then C.own g else none }
 have hsz:C.w.heap.size≤C1.w.heap.size:=S1.size
 have he:Ext C C2:=by
  refine ⟨fun g j hs=>?_,Nat.le_refl _,fun _ _=>rfl,fun t E W m ht=>?_⟩
  ·obtain ⟨k1,k2⟩:=S1.ext.cells g j hs
   exact ⟨.inl k1,k2⟩
  ·obtain ⟨_,_,cap,h2,_⟩:=hI.rows t E W m ht
   exact ⟨m,ht,.inr ⟨rfl,rfl,fun cap hc=>hc.same (hblk _ h2.lt)⟩⟩
 have hown:∀ g i,C2.own g=some i↔C.own g=some i:=fun g i=>by
  show (if g < C.w.heap.size then C.own g else none)=some i↔_
  split
  ·exact Iff.rfl
  ·next hg=>exact ⟨fun e=>(by cases e),fun e=>absurd (hI.ownlt g i e).2.1 hg⟩
 have hprot:∀ g j,C2.S g j→C.S g j∨C.w.heap.size≤g:=fun g j hs=>by
  rcases hs with hs | hs
  ·rcases S1.prot g j hs with h2 | h2 | ⟨t,h2,_⟩
   ·exact .inl h2
   ·exact .inr h2
   ·simp [Ctx.hid] at h2
  ·obtain ⟨i,hi⟩:=Option.isSome_iff_exists.1 hs
   exact .inr (hnew g i hi)
 have hSlt:∀ g j,C2.S g j→g < C1.w.heap.size:=fun g j hs=>by
  rcases hs with hs | hs
  ·exact (I1.prot g j hs).1
  ·obtain ⟨i,hi⟩:=Option.isSome_iff_exists.1 hs
   exact (I1.ownlt g i hi).2.1
 have hsame:Same C1 C2:=⟨fun g j hs=>⟨.inl hs,rfl⟩⟩
 have frz:∀ (xs ys:List A) (vs:List Value),FzL h1 xs ys→RepL C1 xs vs→RepL C2 ys vs:=by
  intro xs
  induction xs with
  | nil =>
   intro ys vs hf hr
   cases ys with
   | nil=>exact hr
   | cons y ys=>exact hf.elim
  | cons x xs ih =>
   intro ys vs hf hr
   cases ys with
   | nil=>exact hf.elim
   | cons y ys =>
    obtain ⟨c,cs',rfl,k1,k2⟩:=repL_cons.1 hr
    refine repL_cons.2 ⟨c,cs',rfl,?_,ih ys cs' hf.2 k2⟩
    rcases hf.1 with ⟨rfl,hd⟩ | ⟨i,W,T,rows,rfl,hb,rfl,hW,hd⟩
    ·exact Rep.same hsame _ _ hd k1
    ·obtain ⟨cap,rfl,hcap,hi⟩:=rep_bs.1 k1
     obtain ⟨ds,rest,q1,q2⟩:=I1.box i _ hb
     have hsd:(C1.own (C1.κ i)).isSome=true:=by rw [I1.ownk i hi]; rfl
     have hdd:∀ (l:List A) (ds:List Value),l.all A.data=true→RepL C1 l ds→RepL C2 l ds:=fun l ds hd hr=>RepL.same hsame l ds hd hr
     refine rep_sl.2 ⟨_,cap,rfl,hcap,repRows_of rows ds 0 hW hd (hdd _ _ hd q2) (fun j _ => .inr hsd) (fun j u hu=>?_),trivial⟩
     have q1':C2.w.heap[C1.κ i]?=some (.cells (ds++rest).toArray T (0,0)):=q1
     rw [cell_of_row _ _ _ _ _ _ q1']
     have hj:j < ds.length:=(List.getElem?_eq_some_iff.1 hu).1
     simp only [List.getElem?_toArray]
     rw [show 0+0*W+j=j by omega,List.getElem?_append_left hj]
     exact hu
 refine ⟨C2,h,.agg ys,cv,rfl,rfl,⟨hI.nb,fun i b hib=>?_,fun i hi=>(hown _ _).2 (hI.ownk i hi),fun g i hg=>?_,fun g j hs=>?_,fun t E W m ht=>?_,hI.inj,hI.toks,Nat.le_trans hI.base hsz,fun w2 hw=>?_⟩,⟨he,S1.os,S1.tape,S1.output,hsz,rfl,fun g hg _ _=>hblk g hg,fun g hg=>?_,fun g j hs=>?_,fun t ht => .inr ⟨ht,rfl⟩⟩,?_,rfl,rfl⟩
 ·have hi:i < C.nb:=by rw [←hI.nb]; exact (List.getElem?_eq_some_iff.1 hib).1
  exact (hI.box i b hib).ext he hi (hI.ownk i hi) (fun g j hg=>(hI.ownlt g j hg).2.1) (fun g hg=>hblk g (hI.ownlt g i hg).2.1) (fun g=>hown g i) hsz
 ·obtain ⟨k1,k2,k3⟩:=hI.ownlt g i ((hown g i).1 hg)
  exact ⟨k1,Nat.lt_of_lt_of_le k2 hsz,k3⟩
 ·have hlt:=hSlt g j hs
  rcases hprot g j hs with h2 | h2
  ·obtain ⟨k1,k2,k3⟩:=hI.prot g j h2
   exact ⟨hlt,by show (if g < C.w.heap.size then C.own g else none)=none; rw [if_pos k1,k2],k3⟩
  ·refine ⟨hlt,by show (if g < C.w.heap.size then C.own g else none)=none; rw [if_neg (by omega)],fun t E W m ht e=>?_⟩
   obtain ⟨_,_,cap,k1,_⟩:=hI.rows t E W m ht
   have:=k1.lt
   have e':C.τ t=g:=e
   omega
 ·obtain ⟨k1,k2,cap,k3,k4⟩:=hI.rows t E W m ht
  exact ⟨by show (if C.τ t < C.w.heap.size then C.own (C.τ t) else none)=none; rw [if_pos k3.lt,k1],k2,cap,k3.same (hblk _ k3.lt),k4⟩
 ·exact hI.glob w2 fun g hg=>(hw g hg).trans (hblk g (Nat.lt_of_lt_of_le hg hI.base))
 ·show (if g < C.w.heap.size then C.own g else none)=C.own g
  rw [if_pos hg]
 ·rcases hprot g j hs with h2 | h2
  ·exact .inl h2
  ·exact .inr (.inl h2)
 ·obtain ⟨vs,rfl,hl⟩:=rep_agg.1 r1
  exact rep_agg.2 ⟨vs,rfl,frz xs ys vs hf hl⟩
end
end AX
end Go.Proofs.YtahmpiioegemaabGreatDoor

namespace Go.Proofs.YtahmpiioegemaabGreatDoor
open Go.RowKit
set_option maxRecDepth 100000 in
theorem clone_steps (b off n c:Nat) (news:List Value) (w:World) (hl:news.length=n*4) (hn:0 < n) (hbig:n*48≤140737488355328) (hmax:n≤maxLen) (hc:∀ j v,news[j]?=some v→w.cell? ((⟨b,off,none⟩:Addr).add j)=some v) (h1:∀ u∈news,u.oneCell'=true) :
  Calls Tryz.prog 184 #[.slice (some ⟨b,off,none⟩) n c] w fun e w'=>∃ v',e = .returned v'∧w'.ownsRow w.heap.size 186 4 v' n news∧Below w.heap.size w w':=by
 obtain ⟨i0,hi,hz0,hz1,hz2⟩:=info_parts (show (Tryz.prog.info? 186).map (fun i=>(i.zero,i.size,i.bytes))=some (some (.agg #[.string ⟨#[]⟩,.int .i64 0,.int .i64 0,.string ⟨#[]⟩]),4,48) by kernel_rfl)
 have q22:∀ (w:World) (a:Option Addr) (n c n' c':Nat),(binOp .eql 144 (.slice a n c) (.slice none n' c')).run Tryz.prog w = .ok (.bool a.isNone) w:=fun w a n c n' c'=>Lib.run_eql_slice_nil w _ _ a n c n' c' Tryz.underlying144
 have u22:∀ w,Sem.run Tryz.prog (underlying 144) w = .ok (TypeDesc.slice 186) w:=run_underlying Tryz.underlying144
 have HC:=kept hc
 have H1:=kept h1
 clear hc h1
 go_enter Tryz.func184,Tryz.ntmps184
 go_wp2_with (at_builtin; refine wpList_append_own _ rfl _ _ 144 rfl w.heap.size 186 i0 (.agg #[.string ⟨#[]⟩,.int .i64 0,.int .i64 0,.string ⟨#[]⟩]) 4 48 Tryz.underlying144 hi hz0 hz1 hz2 rfl (by decide) _ _ _ rfl (World.ownsRow_made w #[] 0 (Nat.le_refl _) (Nat.zero_le _) rfl) ⟨b,off,none⟩ n c news rfl ?qc1 ?qc2 ?qc3 ?qc4 ?qc5 ?qc6 ?_)
 case qc1=>exact hl
 case qc2 =>
  intro j u hj
  have:=HC.out j u hj
  rw [Addr.add_lit] at this ⊢
  exact Lib.cell?_alloc_some _ this
 case qc3=>exact H1.out
 case qc4=>omega
 case qc5=>omega
 case qc6=>simp
 intro v' w1 hown hgrow hnil
 have Hb:=kept (((Below.refl _ w).alloc (Nat.le_refl _) (.cells #[] 186)).grown hgrow (by simp) (by intro k hk; simp [Value.ownBlock] at hk; omega))
 have Ho:=kept (show w1.ownsRow w.heap.size 186 4 v' n news by simpa using hown)
 clear hown hgrow hnil HC H1
 go_wp2
 go_ret
 exact ⟨v',rfl,Ho.out,Hb.out⟩
theorem clone_steps0 (a:Option Addr) (c:Nat) (w:World) :
  Calls Tryz.prog 184 #[.slice a 0 c] w fun e w'=>(∃ a' c',e = .returned (.slice a' 0 c'))∧Below w.heap.size w w':=by
 have q22:∀ (w:World) (a:Option Addr) (n c n' c':Nat),(binOp .eql 144 (.slice a n c) (.slice none n' c')).run Tryz.prog w = .ok (.bool a.isNone) w:=fun w a n c n' c'=>Lib.run_eql_slice_nil w _ _ a n c n' c' Tryz.underlying144
 have u22:∀ w,Sem.run Tryz.prog (underlying 144) w = .ok (TypeDesc.slice 186) w:=run_underlying Tryz.underlying144
 cases a with
 | none =>
  go_enter Tryz.func184,Tryz.ntmps184
  go_wp2
  go_ret
  exact ⟨⟨_,_,rfl⟩,Below.refl _ _⟩
 | some ad =>
  obtain ⟨i0,hi,hz0,hz1,hz2⟩:=info_parts (show (Tryz.prog.info? 186).map (fun i=>(i.zero,i.size,i.bytes))=some (some (.agg #[.string ⟨#[]⟩,.int .i64 0,.int .i64 0,.string ⟨#[]⟩]),4,48) by kernel_rfl)
  go_enter Tryz.func184,Tryz.ntmps184
  go_wp2_with (at_builtin; refine wpList_append_own _ rfl _ _ 144 rfl w.heap.size 186 i0 (.agg #[.string ⟨#[]⟩,.int .i64 0,.int .i64 0,.string ⟨#[]⟩]) 4 48 Tryz.underlying144 hi hz0 hz1 hz2 rfl (by decide) _ _ _ rfl (World.ownsRow_made w #[] 0 (Nat.le_refl _) (Nat.zero_le _) rfl) ad 0 c [] rfl rfl (by intro j u hj; simp at hj) (by intro u hu; cases hu) (by unfold maxLen; omega) (by omega) (by simp) ?_)
  intro v' w1 hown hgrow hnil
  have Hb:=kept (((Below.refl _ w).alloc (Nat.le_refl _) (.cells #[] 186)).grown hgrow (by simp) (by intro k hk; simp [Value.ownBlock] at hk; omega))
  have Hv:∃ a' c',v' = .slice a' 0 c':=by
   rcases hown.2 with ⟨rfl,_⟩ | ⟨g,cap,cur,rfl,_⟩
   ·exact ⟨_,_,rfl⟩
   ·exact ⟨_,_,rfl⟩
  obtain ⟨a',c',rfl⟩:=Hv
  clear hown hgrow hnil
  go_wp2
  go_ret
  exact ⟨⟨_,_,rfl⟩,Hb.out⟩
namespace AX
theorem a_clone_steps0 (W0:Nat) (o:Own) (h:Hp):ACall Tryz.prog GT 184 [.sl W0 o []] h fun v h'=>v = .sl 4 .no []∧h'=h:=by
 intro C es hI ha
 obtain ⟨c,es',rfl,h1,h2⟩:=repL_cons.1 ha
 rw [repL_nil] at h2; subst h2
 obtain ⟨a,cap,rfl,_,_,_⟩:=rep_sl.1 h1
 refine (clone_steps0 a cap C.w).mono ?_
 rintro e w' ⟨⟨a',c',rfl⟩,hb⟩
 obtain ⟨i1,s1⟩:=inv_below hI hb
 exact ⟨C.at w',h,.sl 4 .no [],_,rfl,rfl,i1,s1,rep_sl.2 ⟨a',c',rfl,Nat.zero_le _,by unfold RepRows; trivial,trivial⟩,rfl,rfl⟩
theorem a_clone_steps (o:Own) (rows:List (List A)) (h0:rows≠[]) (hbig:rows.length*48≤140737488355328) (hmax:rows.length≤maxLen) (h:Hp) :
  ACall Tryz.prog GT 184 [.sl 4 o rows] h fun v h'=>v = .bs h.b.length 4 rows.length∧h'=⟨h.b++[.row 186 rows.flatten],h.t⟩:=by
 intro C es hI ha
 obtain ⟨c,es',rfl,h1,h2⟩:=repL_cons.1 ha
 rw [repL_nil] at h2; subst h2
 have hpos:0 < rows.length:=List.length_pos_iff.2 h0
 obtain ⟨g,off,cap,cs,rfl,k1,k2,k3,k4,k5⟩:=sl_open h1 hpos
 refine (clone_steps g off rows.length cap cs C.w k2 hpos hbig hmax k5 (repL_one k1 (data_one k3))).mono ?_
 rintro e w' ⟨v',rfl,hown,hb⟩
 rcases hown.2 with ⟨_,hz⟩ | ⟨g',cap',cur,rfl,hg,hh,hcap,_,hcs,htake⟩
 ·omega
 ·have hcur:cur=(cs++cur.toList.drop (rows.length*4)).toArray:=by
   apply Array.toList_inj.1
   rw [←htake]
   simp
  rw [hcur] at hh
  obtain ⟨C',m1,m2,m3,m4,m5⟩:=new_row hI hb hg hh k1
  exact ⟨C',_,.bs h.b.length 4 rows.length,_,rfl,m1,m2,m3,rep_bs.2 ⟨cap',by rw [m4],hcap,m5⟩,rfl,rfl⟩
end AX
namespace AX
theorem setCells_eq:∀ (xs l:List A) (off:Nat),off+xs.length≤l.length→setCells l off xs=l.take off++xs++l.drop (off+xs.length):=by
 intro xs
 induction xs with
 | nil=>intro l off _; simp [setCells]
 | cons x xs ih =>
  intro l off hlt
  rw [List.length_cons] at hlt
  rw [setCells,ih _ _ (by simp; omega),List.take_add_one,List.getElem?_set_self (by omega),List.take_set_of_le (Nat.le_refl _),List.drop_set_of_lt (by omega)]
  simp [show off+1+xs.length=off+(xs.length+1) by omega]
def bareS (s:Adr.Step):Adr.Step:=⟨s.name,Adr.K.none⟩
def barL (mods:List Adr.Step) (j:Nat):List A:=(((mods.take j).map bareS).map Adr.Step.cells).flatten++((mods.drop j).map Adr.Step.cells).flatten
theorem cells_len (l:List Adr.Step):((l.map Adr.Step.cells).flatten).length=l.length*4:=by
 induction l with
 | nil=>rfl
 | cons x l ih=>rw [List.map_cons,List.flatten_cons,List.length_append,ih]; simp [Adr.Step.cells]; omega
theorem barL_len (mods:List Adr.Step) (j:Nat) (hj:j≤mods.length):(barL mods j).length=mods.length*4:=by
 unfold barL
 rw [List.length_append,cells_len,cells_len,List.length_map,List.length_take,List.length_drop,←Nat.add_mul]
 congr 1; omega
theorem barL_set (mods:List Adr.Step) (j:Nat) (hj:j < mods.length):setCells (barL mods j) (j*4+1) [.int .i64 0,.int .i64 0,.str []]=barL mods (j+1):=by
 rw [setCells_eq _ _ _ (by rw [barL_len _ _ (by omega)]; simp; omega)]
 have hp:((((mods.take j).map bareS).map Adr.Step.cells).flatten).length=j*4:=by
  rw [cells_len,List.length_map,List.length_take]; congr 1; omega
 have hd:mods.drop j=mods[j]::mods.drop (j+1):=List.drop_eq_getElem_cons hj
 have ht:mods.take (j+1)=mods.take j++[mods[j]]:=by rw [List.take_succ_eq_append_getElem hj]
 unfold barL
 rw [hd,ht,List.map_append,List.map_append,List.flatten_append]
 generalize (((mods.take j).map bareS).map Adr.Step.cells).flatten=p at hp
 obtain ⟨nm,⟨kd,kn,ks⟩⟩:=mods[j]
 simp only [List.map_cons,List.flatten_cons,Adr.Step.cells,List.cons_append,List.nil_append,List.length_cons,List.length_nil]
 generalize ((mods.drop (j+1)).map Adr.Step.cells).flatten=q
 rw [List.take_append,List.take_of_length_le (by omega),List.drop_append,List.drop_of_length_le (by omega),hp]
 rw [show j*4+1 - j*4=1 by omega,show j*4+1+(0+1+1+1) - j*4=4 by omega]
 simp [bareS,Adr.K.none,Adr.Step.cells]
def c_astatic:AX.AFn:=⟨26,aS [aR 1 (.box 149 (.t 0)),aR 2 (.alloc 149 [.sl 0 .nil [],.bool false,.str [],.str [],.int .i64 0,.int .i64 0,.str []])] (aS [aR 5 (.load true 7 (.t 1)),aR 3 (.alloc 149 [.sl 0 .nil [],.bool false,.str [],.str [],.int .i64 0,.int .i64 0,.str []]),aU (.store 7 (.t 3) (.t 5))] (aS [aR 6 (.build [.int .i64 0,.int .i64 0,.str []] []),aF 7 4 3,aU (.store 3 (.t 7) (.t 6))] (aS [aF 8 0 1,aL 9 8,aR 10 (.call 184 [.t 9]),aF 11 0 3,aU (.store 1 (.t 11) (.t 10))] (.seq (aS [aF 12 0 3,aL 13 12,aR 14 (.len false (.t 13)),aR 15 (.mv (aI 0))] (.block 0 (.loop (aS [aR 16 (.bin .lss (.t 15) (.t 14))] (.seq (.cond (.t 16) (.skip) (.exit 0)) (.seq (.block 1 (aS [aM 17 15,aM 4 17] (.reg false [aF 18 0 3,aL 19 18,aM 20 4,aR 21 (.build [.int .i64 0,.int .i64 0,.str []] []),aR 22 (.iaddr 4 (.t 19) (.t 20)),aF 23 1 22,aU (.store 3 (.t 23) (.t 21))]))) (.reg false [aR 24 (.bin .add (.t 15) (aI 1)),aM 15 24]))))))) (aS [aR 25 (.load true 7 (.t 3)),aU (.store 7 (.t 2) (.t 25))] (.ret)))))),[.c 2 true 7]⟩
theorem h_astatic:AX.compFn Tryz.prog 163=some c_astatic:=by kernel_rfl
theorem a_static0 (a:Adr.Ad) (hn:a.mods.length≤3000000) (h:Hp):ACall Tryz.prog GT 163 [.agg a.cells] h fun v h'=>v = .agg (Adr.bare a).cells∧h'=h:=by
 obtain ⟨mods,data,ty,nm,⟨kk,kn,ks⟩⟩:=a
 dsimp only at hn
 have hbc:(Adr.bare ⟨mods,data,ty,nm,⟨kk,kn,ks⟩⟩).cells=[.sl 4 .no ((mods.map fun s=>(⟨s.name,Adr.K.none⟩:Adr.Step)).map Adr.Step.cells),.bool data,.str ty,.str nm,.int .i64 0,.int .i64 0,.str []]:=rfl
 rw [hbc]
 refine pcallz ?_ (by simp [A.pure,A.data,Adr.Ad.cells]) h
 refine acall_of mixedT h_astatic (by simp [c_astatic]) ?_
 dsimp only [c_astatic,Adr.Ad.cells]
 by_cases hm:mods=[]
 ·subst hm
  have hc:=fun h=>a_clone_steps0 4 .no h
  have hz:¬ (0:Int) < ((0:Nat):Int):=by decide
  simp only [List.map_nil]
  refine run0 ti ?_
  refine use (hc _) ?_
  refine run0 ti ?_
  refine go_once ?_
  refine run0 hz ?_
  exact ⟨_,le_refl _,_,rfl,⟨.inl ⟨rfl,rfl⟩,.inl ⟨rfl,rfl⟩,.inl ⟨rfl,rfl⟩,.inl ⟨rfl,rfl⟩,.inl ⟨rfl,rfl⟩,.inl ⟨rfl,rfl⟩,.inl ⟨rfl,rfl⟩,trivial⟩⟩
 ·have hrne:mods.map Adr.Step.cells≠[]:=by simpa using hm
  have lm:(mods.map Adr.Step.cells).length=mods.length:=List.length_map ..
  have hc:=fun h=>a_clone_steps .no (mods.map Adr.Step.cells) hrne (by rw [lm]; omega) (by rw [lm]; unfold maxLen; omega) h
  rw [lm] at hc
  refine run0 ti ?_
  refine use (hc _) ?_
  refine run0 ti ?_
  have hL0:(mods.map Adr.Step.cells).flatten=barL mods 0:=by unfold barL; simp
  rw [hL0]
  refine awp_loop (fun mm ts h=>∃ (j:Nat) (B0:Blk),mm=mods.length - j∧j≤mods.length∧h=⟨[B0,.cells 149 [.sl 0 .nil [],.bool false,.str [],.str [],.int .i64 0,.int .i64 0,.str []],.cells 149 [.bs 3 4 mods.length,.bool data,.str ty,.str nm,.int .i64 0,.int .i64 0,.str []],.row 186 (barL mods j)],[]⟩∧ts 2 = .ptr 1 0∧ts 3 = .ptr 2 0∧ts 14 = .int .i64 (mods.length:Nat)∧ts 15 = .int .i64 (j:Nat)) mods.length ?_ ?_
  ·exact ⟨0,_,by omega,by omega,rfl,by (exact ev0 ti),by (exact ev0 ti),by (exact ev0 ti),by (exact inv0 ti)⟩
  rintro mm ts h ⟨j,B0,rfl,hjc,rfl,t2,t3,t14,t15⟩
  by_cases hj:j < mods.length
  ·have hlt:(j:Int) < (mods.length:Int):=by omega
   have hj0:(0:Int)≤(j:Int):=by omega
   have ei:IntKind.i64.wrap ((j:Int)+1)=((j+1:Nat):Int):=by rw [wrap64 (by omega) (by omega)]; omega
   have hset:=barL_set mods j hj
   have hln:j*4+1+3≤(barL mods j).length:=by rw [barL_len _ _ (by omega)]; omega
   simp only [setCells] at hset
   refine run0 (ai t2 (ai t3 (ai t14 (ai t15 (ai hlt (ai hj0 (ai hln (ai hset ei)))))))) ?_
   exact ⟨mods.length - (j+1),by omega,j+1,B0,rfl,by omega,rfl,by (exact ev0 t2),by (exact ev0 t3),by (exact ev0 t14),by (exact ev0 ei)⟩
  ·have hlt:¬ ((j:Int) < (mods.length:Int)):=by omega
   have hje:j=mods.length:=by omega
   subst hje
   refine run0 (ai t2 (ai t3 (ai t14 (ai t15 hlt)))) ?_
   refine ⟨_,le_refl _,_,rfl,⟨.inr ⟨3,4,186,(mods.map bareS).map Adr.Step.cells,by simp,?_,rfl,?_,?_⟩,.inl ⟨rfl,rfl⟩,.inl ⟨rfl,rfl⟩,.inl ⟨rfl,rfl⟩,.inl ⟨rfl,rfl⟩,.inl ⟨rfl,rfl⟩,.inl ⟨rfl,rfl⟩,trivial⟩⟩
   ·show some (Blk.row _ _)=some _
    congr 2
    unfold barL
    simp
   ·intro r hr
    obtain ⟨s,_,rfl⟩:=List.mem_map.1 hr
    rfl
   ·rw [List.all_flatten,List.all_eq_true]
    intro r hr
    obtain ⟨s,_,rfl⟩:=List.mem_map.1 hr
    rfl
end AX
def BWtr (B b:Nat) (l:List UInt8) (w:World):Prop:=
 B≤b∧∃ p v,(p = .pointer none∨p = .pointer (some ⟨b,0,none⟩))∧w.heap[b]?=some (.cells #[p,v] 162 (0,0))∧w.ownsRowF B 5 1 v l.length (Lib.byteCells l)∧v.ownBlock≠some b
def BWtrU (B b:Nat) (l:List UInt8) (w:World):Prop:=
 B≤b∧∃ v,w.heap[b]?=some (.cells #[.pointer (some ⟨b,0,none⟩),v] 162 (0,0))∧w.ownsRowF B 5 1 v l.length (Lib.byteCells l)∧v.ownBlock≠some b
theorem BWtrU.bwtr {B b:Nat} {l:List UInt8} {w:World} (h:BWtrU B b l w):BWtr B b l w:=by
 obtain ⟨h1,v,h2,h3⟩:=h
 exact ⟨h1,_,v,.inr rfl,h2,h3⟩
set_option maxRecDepth 100000 in
theorem bwtr_fresh (b:Nat) (w:World) (h0:w.cell? ⟨b,0,none⟩=some (.pointer none)) (hsh:w.shape? b=some (162,2)) (hfz:w.frozen? ⟨b,0,none⟩=false) :
  Calls Tryz.prog 170 #[.pointer (some ⟨b,0,none⟩)] w fun e w'=>e = .returned (.tuple #[])∧w'=w.setCell ⟨b,0,none⟩ (.pointer (some ⟨b,0,none⟩)):=by
 obtain ⟨j,hj,hjs⟩:=Option.map_eq_some_iff.1 (show (Tryz.prog.info? 162).map (·.size)=some 2 by kernel_rfl)
 have hlies:liesAt Tryz.prog Tryz.prog.depth 162 (2 / Tryz.prog.cellsOf 162) 0 162 1=true:=by kernel_rfl
 go_enter Tryz.func170,Tryz.ntmps170
 go_wp2
 rw [Lib.run_to_unsafe w ⟨b,0,none⟩ Tryz.underlying159 Tryz.underlying233 hj (by rw [hjs]; decide) hsh (by show 0 < 2; omega)]
 simp only [Result.andThen]
 rw [Oper.upon_value]
 go_wp2
 rw [run_callFunc_extern Tryz.func196 (by kernel_rfl) (by kernel_rfl) (by kernel_rfl) (e:=Extern.AbiNoEscape.same) (by kernel_rfl)]
 rw [Lib.run_noEscape]
 simp only [Result.andThen]
 rw [Oper.upon_value]
 go_wp2
 rw [Lib.run_from_unsafe w ⟨b,0,none⟩ Tryz.underlying233 Tryz.underlying159 hj hsh hlies]
 simp only [Result.andThen]
 rw [Oper.upon_value]
 go_wp2
 go_end0
 exact ⟨rfl,rfl⟩
theorem cell_row2 {w:World} {b:Nat} {p v:Value} {T:TypeId} (h:w.heap[b]?=some (.cells #[p,v] T (0,0))):w.cell? ⟨b,0,none⟩=some p∧w.cell? ⟨b,1,none⟩=some v∧(∀ i,w.frozen? ⟨b,i,none⟩=false)∧w.shape? b=some (T,2)∧b < w.heap.size:=by
 refine ⟨?_,?_,fun i=>?_,?_,(Array.getElem?_eq_some_iff.1 h).1⟩
 ·rw [cell_of_row _ _ _ _ _ _ h]; rfl
 ·rw [cell_of_row _ _ _ _ _ _ h]; rfl
 ·simp [World.frozen?,h]
 ·simp [World.shape?,h]
theorem BWtr.used {B b:Nat} {l:List UInt8} {w:World} {p v:Value} (hB:B≤b) (hb:w.heap[b]?=some (.cells #[p,v] 162 (0,0))) (hown:w.ownsRowF B 5 1 v l.length (Lib.byteCells l)) (hne:v.ownBlock≠some b) :
  BWtrU B b l (w.setCell ⟨b,0,none⟩ (.pointer (some ⟨b,0,none⟩))):=by
 refine ⟨hB,v,?_,?_,hne⟩
 ·simp [World.setCell,Array.getElem?_modify,hb]
 ·exact hown.kept (row:=some b) ⟨rfl,rfl,rfl,by simp [World.setCell],fun k _ hk=>Below.heap_setCell _ _ _ _ (fun e=>hk (by simp [e]))⟩ (Or.inr hne)
theorem bwtr_len {B b:Nat} {l:List UInt8} {w:World} (h:BWtr B b l w) :
  Calls Tryz.prog 109 #[.pointer (some ⟨b,0,none⟩)] w fun e w'=>e = .returned (.int .i64 l.length)∧w'=w:=by
 obtain ⟨hB,p,v,hp,hb,hown,hne⟩:=h
 obtain ⟨c0,c1,hf,hsh,hlt⟩:=cell_row2 hb
 obtain ⟨ao,cap,rfl⟩:∃ ao cap,v = .slice ao l.length cap:=by
  rcases hown.2 with ⟨hv,h0⟩ | ⟨g,cap,cur,fz,hv,_⟩
  ·exact ⟨none,0,by rw [hv,h0]⟩
  ·exact ⟨_,_,hv⟩
 clear hown hp hne hb
 go_enter Tryz.func109,Tryz.ntmps109
 go_wp2
 go_ret
 exact ⟨rfl,rfl⟩
def BF (F:Nat→Prop) (b:Nat) (l:List UInt8) (w:World):Prop:=
 ∃ p v,(p = .pointer none∨p = .pointer (some ⟨b,0,none⟩))∧w.heap[b]?=some (.cells #[p,v] 162 (0,0))∧w.ownsRowF 0 5 1 v l.length (Lib.byteCells l)∧v.ownBlock≠some b∧F b∧∀ k,v.ownBlock=some k→F k
theorem BF.bwtr {F:Nat→Prop} {b:Nat} {l:List UInt8} {w:World} (h:BF F b l w):BWtr 0 b l w:=by
 obtain ⟨p,v,hp,hb,hown,hne,_⟩:=h
 exact ⟨Nat.zero_le _,p,v,hp,hb,hown,hne⟩
theorem bf_check {F:Nat→Prop} {b:Nat} {l:List UInt8} {w:World} (h:BF F b l w) :
  Calls Tryz.prog 170 #[.pointer (some ⟨b,0,none⟩)] w fun e w'=>e = .returned (.tuple #[])∧(∃ v,w'.heap[b]?=some (.cells #[.pointer (some ⟨b,0,none⟩),v] 162 (0,0))∧w'.ownsRowF 0 5 1 v l.length (Lib.byteCells l)∧v.ownBlock≠some b∧F b∧∀ k,v.ownBlock=some k→F k)∧Fr F w w':=by
 obtain ⟨p,v,hp,hb,hown,hne,hF,hFk⟩:=h
 obtain ⟨c0,c1,hf,hsh,hlt⟩:=cell_row2 hb
 rcases hp with rfl | rfl
 ·refine (bwtr_fresh b w c0 hsh (hf 0)).mono ?_
  rintro e w' ⟨rfl,rfl⟩
  obtain ⟨_,v',hb',hown',hne'⟩:=BWtr.used (B:=0) (Nat.zero_le _) hb hown hne
  have hv:v'=v:=by
   have:=(cell_row2 hb').2.1
   have h2:(w.setCell ⟨b,0,none⟩ (.pointer (some ⟨b,0,none⟩))).heap[b]?=some (.cells #[.pointer (some ⟨b,0,none⟩),v] 162 (0,0)):=by simp [World.setCell,Array.getElem?_modify,hb]
   have h3:=(cell_row2 h2).2.1
   rw [h3] at this; injection this with this; exact this.symm
  subst hv
  exact ⟨rfl,⟨v',hb',hown',hne',hF,hFk⟩,Fr.set w b 0 _ hF⟩
 ·refine (Any.Builder_copyCheck_used Tryz.lays240 Tryz.Builder_X72_240 b w c0).mono ?_
  rintro e w' ⟨rfl,rfl⟩
  exact ⟨rfl,⟨v,hb,hown,hne,hF,hFk⟩,Fr.refl F _⟩
set_option maxRecDepth 100000 in
theorem bf_write {F:Nat→Prop} {b:Nat} {l:List UInt8} {w:World} (h:BF F b l w) (s:List UInt8) (hlen:l.length+s.length≤1000000000) :
  Calls Tryz.prog 142 #[.pointer (some ⟨b,0,none⟩),.string ⟨s.toArray⟩] w fun e w'=>e = .returned (.tuple #[.int .i64 s.length,.nilIface])∧BF (fun k=>F k∨w.heap.size≤k) b (l++s) w'∧Fr F w w':=by
 obtain ⟨i0,hi,hz0,hz1,hz2⟩:=info_parts info_byte
 go_enter Tryz.func142,Tryz.ntmps142
 go_wp2_with fail
 (with_reducible refine (bf_check h).mono ?_)
 rintro e w1 ⟨rfl,⟨v,hbk,hown,hne,hF,hFk⟩,hb1⟩
 obtain ⟨c0,c1,hf,hsh,hlt⟩:=cell_row2 hbk
 go_wp2_with (at_builtin; refine wpList_append_F _ rfl _ _ 160 9 rfl 5 i0 Tryz.underlying160 Tryz.underlying9 hi hz0 hz1 hz2 _ _ _ rfl hown ⟨s.toArray⟩ rfl ?c3 ?c4 ?_)
 case c3=>rw [size_mk]; unfold maxLen; omega
 case c4=>rw [size_mk]; omega
 intro v' w2 hown' hgrow hwhere
 have hb2:w2.heap[b]?=some (.cells #[.pointer (some ⟨b,0,none⟩),v] 162 (0,0)):=(hgrow.block b hlt (fun e=>hne e.symm)).trans hbk
 obtain ⟨d0,d1,hf2,_,hlt2⟩:=cell_row2 hb2
 have f1:=hf2 1
 have hown2:w2.ownsRowF 0 5 1 v' (l++s).length (Lib.byteCells (l++s)):=by
  have e1:(⟨s.toArray⟩:ByteArray).size=s.length:=size_mk s
  have e2:Lib.byteCells l++Lib.strCells ⟨s.toArray⟩=Lib.byteCells (l++s):=by unfold Lib.strCells Lib.byteCells; simp
  rw [List.length_append,←e2,←e1]; exact hown'
 have hne2:=Lib.ownBlock_neF hown2 hb2 (show 162≠5 by decide)
 have hwb1:=hb1.size
 have Hfin:=kept (show BF (fun k=>F k∨w.heap.size≤k) b (l++s) (w2.setCell ⟨b,1,none⟩ v') from by
  refine ⟨_,v',.inr rfl,?_,?_,hne2,.inl hF,fun k hk=>?_⟩
  ·simp [World.setCell,Array.getElem?_modify,hb2]
  ·exact hown2.kept (row:=some b) ⟨rfl,rfl,rfl,by simp [World.setCell],fun k _ hk=>Below.heap_setCell _ _ _ _ (fun e=>hk (by simp [e]))⟩ (Or.inr hne2)
  ·rcases hwhere k hk with h1 | h1
   ·exact .inl (hFk k h1)
   ·exact .inr (by omega))
 have Hfr:=kept ((hb1.trans (Fr.grown hgrow fun k hk=>hFk k hk)).trans (Fr.set w2 b 1 v' hF))
 obtain ⟨ao,n',cap,rfl⟩:∃ ao n' cap,v' = .slice ao n' cap:=by
  rcases hown'.2 with ⟨hv,_⟩ | ⟨g,cap,cur,fz,hv,_⟩
  ·exact ⟨_,_,_,hv⟩
  ·exact ⟨_,_,_,hv⟩
 clear hown' hown2 hne2 hb2 hbk hown hne hgrow hb1 h hwhere
 go_wp2
 go_ret2
 exact ⟨by simp,Hfin.out,Hfr.out⟩
set_option maxRecDepth 100000 in
theorem bf_string {F:Nat→Prop} {b:Nat} {l:List UInt8} {w:World} (h:BF F b l w) (h0:l≠[]) :
  Calls Tryz.prog 110 #[.pointer (some ⟨b,0,none⟩)] w fun e w'=>e = .returned (.string ⟨l.toArray⟩)∧Fr F w w':=by
 obtain ⟨p,v,hp,hbk,hown,hne,hFb,hFk⟩:=h
 have hl0:l.length≠0:=by simpa using h0
 obtain ⟨g,cap,cur,fz,rfl,hbg,hg,hfz,hnc,hcm,hcs,htake⟩:∃ g cap cur fz,v = .slice (some ⟨g,0,none⟩) l.length cap∧0≤g∧w.heap[g]?=some (.cells cur 5 fz)∧fz.2≤l.length*1∧l.length≤cap∧cap≤maxLen∧cur.size=cap*1∧cur.toList.take (l.length*1)=Lib.byteCells l:=by
  rcases hown.2 with ⟨_,hz⟩ | ⟨g,cap,cur,fz,hv,r⟩
  ·exact absurd hz hl0
  ·exact ⟨g,cap,cur,fz,hv,r⟩
 have HFg:=kept (hFk g rfl)
 have c1:w.drew.cell? ⟨b,1,none⟩=some (.slice (some ⟨g,0,none⟩) l.length cap):=(cell_row2 hbk).2.1
 have hSD:(Builtin.unsafeSliceData_ #[160] 197 #[.slice (some ⟨g,0,none⟩) l.length cap]).run Tryz.prog w.drew = .ok (.pointer (some ⟨g,0,none⟩)) w.drew:=
  Lib.run_unsafeSliceData_row _ _ _ _ _ _ (by omega)
 have hUS:(Builtin.unsafeString_ #[197,3] 9 #[.pointer (some ⟨g,0,none⟩),.int .i64 l.length]).run Tryz.prog w.drew = .ok (.string ⟨l.toArray⟩) (w.drew.freeze ⟨g,0,none⟩ l.length):=by
  refine Lib.run_unsafeString_row w.drew 197 3 9 5 Tryz.underlying197 Tryz.Builder_Extra_169.cellsByte g cur.size (by have hg':w.drew.heap[g]?=some (.cells cur 5 fz):=hg; simp [World.shape?,hg']) l h0 (by omega) (by unfold maxLen at hcm; omega) ?_
  intro j x hx
  have:=hown.cells (g:=g) rfl j (.int .u8 x.toNat) (by simp [Lib.byteCells,hx])
  exact this
 have Hfr:=kept (show Fr F w (w.drew.freeze ⟨g,0,none⟩ l.length) from by
  unfold World.freeze
  split
  ·exact ⟨rfl,rfl,rfl,Nat.le_refl _,fun _ _ _=>rfl⟩
  ·refine ⟨rfl,rfl,rfl,by simp,fun k hk hn=>?_⟩
   have hkg:k≠g:=fun e=>hn (by rw [e]; exact HFg.out)
   simp only [Array.getElem?_modify,if_neg hkg.symm]; rfl)
 clear hown hp hne hbk hnc hcm hcs htake hfz hg hl0 h0 hFk hFb
 have mixed:=Tryz.lays169.mixed
 go_enter Tryz.func110,Tryz.ntmps110
 go_wp2
 go_region_o
 all_goals (go_wp2; go_ret; exact ⟨rfl,Hfr.out⟩)
namespace AX
def bwt (l:List UInt8):Blk:=.opq (fun F g w=>BF F g l w) (fun _=>none)
def Bt (h:Hp) (i:Nat) (l:List UInt8):Prop:=h.b[i]?=some (bwt l)∨(l=[]∧h.b[i]?=some (.cells 162 [.nilp,.sl 0 .nil []]))
theorem BF.stable {F:Nat→Prop} {b:Nat} {l:List UInt8} {w w':World} (h:BF F b l w) (hs:∀ g,F g→w'.heap[g]?=w.heap[g]?):BF F b l w':=by
 obtain ⟨p,v,hp,hb,hown,hne,hF,hFk⟩:=h
 refine ⟨p,v,hp,(hs b hF).trans hb,⟨hown.1,?_⟩,hne,hF,hFk⟩
 rcases hown.2 with h1 | ⟨g,cap,cur,fz,rfl,h2,h3,h4⟩
 ·exact .inl h1
 ·exact .inr ⟨g,cap,cur,fz,rfl,h2,(hs g (hFk g rfl)).trans h3,h4⟩
theorem Bt.lt {h:Hp} {i:Nat} {l:List UInt8} (hw:Bt h i l):i < h.b.length:=by
 rcases hw with h1 | ⟨_,h1⟩
 ·exact (List.getElem?_eq_some_iff.1 h1).1
 ·exact (List.getElem?_eq_some_iff.1 h1).1
theorem Bt.bf {h:Hp} {i:Nat} {l:List UInt8} {C:Ctx} {G:World→Prop} (hw:Bt h i l) (hI:Inv G C h):BF (fun g=>C.own g=some i) (C.κ i) l C.w:=by
 have hi:i < C.nb:=by rw [←hI.nb]; exact hw.lt
 rcases hw with h1 | ⟨rfl,h1⟩
 ·exact (hI.box i _ h1).1 C.w (fun _ _=>rfl) (Nat.le_refl _)
 ·obtain ⟨cs,k1,k2⟩:=hI.box i _ h1
  obtain ⟨c0,d0,rfl,e0,k2⟩:=repL_cons.1 k2
  obtain ⟨c1,d1,rfl,e1,k2⟩:=repL_cons.1 k2
  rw [repL_nil] at k2; subst k2
  rw [rep_nilp] at e0; subst e0
  obtain ⟨a,cap,rfl,_,_,e3,e4,_⟩:=rep_sl.1 e1
  subst e3; subst e4
  exact ⟨_,_,.inl rfl,k1,⟨rfl,.inl ⟨rfl,rfl⟩⟩,by simp [Value.ownBlock],hI.ownk i hi,fun k hk=>by simp [Value.ownBlock] at hk⟩
theorem bwtr_rep {C:Ctx} {i:Nat} {l:List UInt8} (h:BF (fun g=>C.own g=some i) (C.κ i) l C.w):BlkRep C i (bwt l):=by
 refine ⟨fun w' hw _=>BF.stable h hw,fun o x hx=>?_⟩
 cases hx
theorem a_bwrite {h:Hp} {i:Nat} {l:List UInt8} (hw:Bt h i l) (s:List UInt8) (hlen:l.length+s.length≤1000000000) :
  ACall Tryz.prog GT 142 [.ptr i 0,.str s] h fun v h'=>v = .tup [.int .i64 s.length,.nili]∧h'=⟨h.b.set i (bwt (l++s)),h.t⟩:=by
 intro C es hI ha
 obtain ⟨c,es',rfl,h1,h2⟩:=repL_cons.1 ha
 obtain ⟨rfl,hi⟩:=rep_ptr.1 h1
 obtain rfl:=args1 r_str C es' h2
 refine (bf_write (hw.bf hI) s hlen).mono ?_
 rintro e w' ⟨rfl,m1,m2⟩
 have hrep:BlkRep (C.turn w' i true) i (bwt (l++s)):=by
  refine bwtr_rep ?_
  obtain ⟨p,v,hp,hb,hown,hne,hF,hFk⟩:=m1
  have hlt:=(cell_row2 hb).2.2.2.2
  have hcl:∀ k,k < w'.heap.size→(C.own k=some i∨C.w.heap.size≤k)→(C.turn w' i true).own k=some i:=fun k hk hor=>by
   show (if k < C.w.heap.size then C.own k else if true=true∧k < w'.heap.size then some i else none)=some i
   split
   ·rcases hor with h3 | h3
    ·exact h3
    ·omega
   ·rw [if_pos ⟨rfl,hk⟩]
  refine ⟨p,v,hp,hb,hown,hne,hcl _ hlt hF,fun k hk=>hcl k ?_ (hFk k hk)⟩
  rcases hown.2 with ⟨rfl,_⟩ | ⟨g,cap,cur,fz,rfl,_,h3,_⟩
  ·simp [Value.ownBlock] at hk
  ·simp only [Value.ownBlock,Option.some.injEq] at hk; subst hk
   exact (Array.getElem?_eq_some_iff.1 h3).1
 obtain ⟨i1,s1⟩:=box_turn (b':=bwt (l++s)) true hI hi m2.os m2.tape m2.output m2.size (fun g hg hne=>m2.block g hg hne) (fun _=>hrep)
 exact ⟨_,_,.tup [.int .i64 s.length,.nili],_,rfl,rfl,i1,s1,rep_tup.2 ⟨_,rfl,repL_cons.2 ⟨_,_,rfl,rep_int.2 rfl,repL_cons.2 ⟨_,_,rfl,rep_nili.2 rfl,repL_nil.2 rfl⟩⟩⟩,rfl,rfl⟩
theorem a_blen {h:Hp} {i:Nat} {l:List UInt8} (hw:Bt h i l):ACall Tryz.prog GT 109 [.ptr i 0] h fun v h'=>v = .int .i64 l.length∧h'=h:=by
 intro C es hI ha
 obtain ⟨c,es',rfl,h1,h2⟩:=repL_cons.1 ha
 obtain ⟨rfl,hi⟩:=rep_ptr.1 h1
 rw [repL_nil] at h2; subst h2
 refine (bwtr_len (hw.bf hI).bwtr).mono ?_
 rintro e w' ⟨rfl,rfl⟩
 exact ⟨C,h,_,_,rfl,rfl,hI,Step.refl C,rep_int.2 rfl,rfl,rfl⟩
theorem a_bstring {h:Hp} {i:Nat} {l:List UInt8} (hw:Bt h i l) (h0:l≠[]):ACall Tryz.prog GT 110 [.ptr i 0] h fun v h'=>v = .str l∧h'=⟨h.b.set i dead,h.t⟩:=by
 intro C es hI ha
 obtain ⟨c,es',rfl,h1,h2⟩:=repL_cons.1 ha
 obtain ⟨rfl,hi⟩:=rep_ptr.1 h1
 rw [repL_nil] at h2; subst h2
 refine (bf_string (hw.bf hI) h0).mono ?_
 rintro e w' ⟨rfl,m2⟩
 obtain ⟨i1,s1⟩:=box_turn (b':=dead) false hI hi m2.os m2.tape m2.output m2.size (fun g hg hne=>m2.block g hg hne) (fun _=>⟨fun _ _ _=>trivial,fun o x hx=>by cases hx⟩)
 exact ⟨_,_,.str l,_,rfl,rfl,i1,s1,rep_str.2 rfl,rfl,rfl⟩
end AX
end Go.Proofs.YtahmpiioegemaabGreatDoor
