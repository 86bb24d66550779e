/- Part of what the proof needs. -/
import Derived.Test.YtahmpiioegemaaaGreatDoorMFrJournalRecordsUptoF
import Derived.Test.YtahmpiioegemaaaGreatDoorMFrJournalRecordsUptoJ
import Derived.Test.YtahmpiioegemaaaGreatDoorMFrJournalRecordsUptoL
set_option maxHeartbeats 4000000
set_option linter.unusedSimpArgs false
set_option linter.unusedVariables false
set_option linter.unnecessarySimpa false
namespace Go.Proofs.YtahmpiioegemaaaGreatDoor
open Go.RowKit
namespace AX
def c_rleft:AX.AFn:=⟨38,aS [aR 3 (.box 34 (.t 0)),aR 6 (.mv (aI 0))] (.seq (aS [aM 9 1,aR 10 (.bin .lss (.t 9) (aI 1)),aM 11 10,aG 12 (.mv (.t 2)) 11 false,aG 13 (.bin .lss (.t 12) (aI 1)) 11 false,aR 14 (.pick (.t 11) (.c (.bool true)) (.t 13))] (.cond (.t 14) (aS [aR 6 (.mv (aI (-1)))] (.ret)) (.skip))) (aS [aM 15 1,aR 16 (.bin .sub (.t 15) (aI 1)),aM 7 16] (.seq (aS [aR 8 (.mv (aI 0))] (.block 0 (.loop (.seq (aS [aM 17 8,aF 18 3 3,aL 19 18,aR 20 (.len false (.t 19)),aR 21 (.bin .lss (.t 17) (.t 20)),aM 22 21,aG 23 (.mv (.t 7)) 22 true,aG 24 (.bin .geq (.t 23) (aI 0)) 22 true,aR 25 (.pick (.t 22) (.t 24) (.c (.bool false)))] (.cond (.t 25) (.skip) (.exit 0))) (.seq (.block 1 (.reg false [aF 28 3 3,aL 29 28,aM 30 8,aR 31 (.iaddr 5 (.t 29) (.t 30)),aR 32 (.load true 5 (.t 31)),aM 33 7,aM 34 2,aR 35 (.bin .sub (.t 34) (aI 1)),aR 36 (.call 45 [.t 32,.t 33,.t 35]),aM 7 36])) (.reg false [aM 26 8,aR 27 (.bin .add (.t 26) (aI 1)),aM 8 27])))))) (aS [aM 37 7,aM 6 37] (.ret))))),[.t 6]⟩
theorem h_rleft:AX.compFn Tryz.prog 45=some c_rleft:=by kernel_rfl
def c_rcheck:AX.AFn:=⟨52,aS [aR 3 (.box 34 (.t 0)),aR 6 (.mv (aI 0)),aR 7 (.mv (aI 0))] (.seq (aS [aM 13 1,aR 14 (.bin .gtr (.t 13) (aI 32))] (.cond (.t 14) (aS [aM 15 2,aR 6 (.mv (aI 4)),aM 7 15] (.ret)) (.skip))) (.seq (aS [aM 16 2,aR 17 (.bin .geq (.t 16) (aI 4096))] (.cond (.t 17) (aS [aM 18 2,aR 6 (.mv (aI 14)),aM 7 18] (.ret)) (.skip))) (.seq (aS [aR 19 (.load true 5 (.t 3)),aR 20 (.call 176 [.t 19]),aM 8 20] (aS [aM 21 8,aR 22 (.bin .neq (.t 21) (aI 0))] (.cond (.t 22) (aS [aM 23 8,aM 24 2,aM 6 23,aM 7 24] (.ret)) (.skip)))) (aS [aM 25 2,aR 26 (.bin .add (.t 25) (aI 1)),aM 9 26] (.seq (aS [aR 10 (.mv (aI 0))] (.block 0 (.loop (.seq (aS [aM 27 10,aF 28 3 3,aL 29 28,aR 30 (.len false (.t 29)),aR 31 (.bin .lss (.t 27) (.t 30))] (.cond (.t 31) (.skip) (.exit 0))) (.seq (.block 1 (aS [aF 35 3 3,aL 36 35,aM 37 10,aR 38 (.iaddr 5 (.t 36) (.t 37)),aR 39 (.load true 5 (.t 38)),aM 40 1,aR 41 (.bin .add (.t 40) (aI 1)),aM 42 9,aR 43 (.call 143 [.t 39,.t 41,.t 42]),aM 34 43,aE 44 34 0,aE 45 34 1,aM 11 44,aM 12 45] (.seq (aS [aM 46 11,aR 47 (.bin .neq (.t 46) (aI 0))] (.cond (.t 47) (aS [aM 48 11,aM 49 12,aM 6 48,aM 7 49] (.ret)) (.skip))) (.reg false [aM 50 12,aM 9 50])))) (.reg false [aM 32 10,aR 33 (.bin .add (.t 32) (aI 1)),aM 10 33])))))) (aS [aM 51 9,aR 6 (.mv (aI 0)),aM 7 51] (.ret))))))),[.t 6,.t 7]⟩
theorem h_rcheck:AX.compFn Tryz.prog 143=some c_rcheck:=by kernel_rfl
def c_rCheck:AX.AFn:=⟨11,aS [aR 1 (.box 34 (.t 0)),aR 2 (.mv (aI 0))] (aS [aR 6 (.load true 5 (.t 1)),aR 7 (.call 143 [.t 6,aI 1,aI 0]),aM 5 7,aE 8 5 0,aE 9 5 1,aM 3 8,aM 4 9] (aS [aM 10 3,aM 2 10] (.ret))),[.t 2]⟩
theorem h_rCheck:AX.compFn Tryz.prog 105=some c_rCheck:=by kernel_rfl
def c_rnode:AX.AFn:=⟨56,aS [aR 1 (.box 34 (.t 0)),aR 2 (.mv (aI 0))] (.seq (aS [aR 6 (.load true 5 (.t 1)),aR 7 (.call 201 [.t 6]),aR 8 (.un .not (.t 7))] (.cond (.t 8) (aS [aR 2 (.mv (aI 1))] (.ret)) (.skip))) (.seq (aS [aF 9 0 1,aL 10 9,aR 11 (.bin .eql (.t 10) (aI 2)),aM 12 11,aG 13 (.faddr 1 (.t 1)) 12 true,aG 14 (.load false 1 (.t 13)) 12 true,aG 15 (.call 202 [.t 14]) 12 true,aG 16 (.un .not (.t 15)) 12 true,aR 17 (.pick (.t 12) (.t 16) (.c (.bool false)))] (.cond (.t 17) (aS [aR 2 (.mv (aI 5))] (.ret)) (.skip))) (.seq (aS [aF 18 2 1,aL 19 18,aR 20 (.call 203 [.t 19]),aM 3 20] (aS [aM 21 3,aR 22 (.bin .neq (.t 21) (aI 0))] (.cond (.t 22) (aS [aM 23 3,aM 2 23] (.ret)) (.skip)))) (.seq (aS [aR 4 (.mv (aI 0))] (.block 0 (.loop (.seq (aS [aM 24 4,aF 25 4 1,aL 26 25,aR 27 (.len false (.t 26)),aR 28 (.bin .lss (.t 24) (.t 27))] (.cond (.t 28) (.skip) (.exit 0))) (.seq (.block 1 (.seq (aS [aF 31 4 1,aL 32 31,aM 33 4,aR 34 (.iaddr 1 (.t 32) (.t 33)),aL 35 34,aR 36 (.call 203 [.t 35]),aM 5 36] (aS [aM 37 5,aR 38 (.bin .neq (.t 37) (aI 0))] (.cond (.t 38) (aS [aM 39 5,aM 2 39] (.ret)) (.skip)))) (.seq (.reg true [aM 40 4,⟨some 41,.bin .gtr (.t 40) (aI 0),none,[0]⟩,⟨some 42,.mv (.t 41),none,[1]⟩,⟨some 43,.faddr 4 (.t 1),some (42,true),[2]⟩,⟨some 44,.load false 1 (.t 43),some (42,true),[3,2]⟩,⟨some 45,.mv (.t 4),some (42,true),[2]⟩,⟨some 46,.bin .sub (.t 45) (aI 1),some (42,true),[5,2]⟩,⟨some 47,.iaddr 1 (.t 44) (.t 46),some (42,true),[4,6,2]⟩,⟨some 48,.load false 1 (.t 47),some (42,true),[7,2]⟩,⟨some 49,.faddr 4 (.t 1),some (42,true),[2]⟩,⟨some 50,.load false 1 (.t 49),some (42,true),[9,2]⟩,⟨some 51,.mv (.t 4),some (42,true),[2]⟩,⟨some 52,.iaddr 1 (.t 50) (.t 51),some (42,true),[10,11,2]⟩,⟨some 53,.load false 1 (.t 52),some (42,true),[12,2]⟩,⟨some 54,.bin .geq (.t 48) (.t 53),some (42,true),[8,13,2]⟩,⟨some 55,.pick (.t 42) (.t 54) (.c (.bool false)),none,[2,14]⟩]) (.cond (.t 55) (aS [aR 2 (.mv (aI 1))] (.ret)) (.skip))))) (.reg false [aM 29 4,aR 30 (.bin .add (.t 29) (aI 1)),aM 4 30])))))) (aS [aR 2 (.mv (aI 0))] (.ret)))))),[.t 2]⟩
theorem h_rnode:AX.compFn Tryz.prog 176=some c_rnode:=by kernel_rfl
theorem Val.lefts_neg:∀ (l:List V) (n lv:Int),n < 0→Val.lefts l n lv=n
 | [],n,lv,h=>by simp [Val.lefts]
 | v::l,n,lv,h=>by rw [Val.lefts,if_neg (by omega)]
theorem Val.left_le:∀ (v:V) (nd lv:Int),0≤nd→Val.left v nd lv≤nd∧-1≤Val.left v nd lv:=by
 refine V.induct fun k n s is ks ih=>?_
 intro nd lv hnd
 rw [Val.left]
 split
 ·omega
 ·next h =>
  have key:∀ (l:List V),(∀ x∈l,x∈is)→∀ m:Int,-1≤m→Val.lefts l m (lv - 1)≤max m (-1)∧-1≤Val.lefts l m (lv - 1):=by
   intro l
   induction l with
   | nil=>intro _ m hm; rw [Val.lefts]; omega
   | cons v l ihl =>
    intro hl m hm
    rw [Val.lefts]
    split
    ·next h0 =>
     have h1:=ih v (hl v (by simp)) m (lv - 1) h0
     have h2:=ihl (fun x hx=>hl x (by simp [hx])) _ h1.2
     omega
    ·omega
  have:=key is (fun x hx=>hx) (nd - 1) (by omega)
  omega
theorem t_left:∀ (v:V) (nd lv:Int),-1000≤nd→nd≤1000000→-1000≤lv→lv≤1000000→v.lens→ACall Tryz.prog GT 45 [v.A,.int .i64 nd,.int .i64 lv] ⟨[],[]⟩ fun r _=>r = .int .i64 (Val.left v nd lv):=by
 refine V.induct fun k n s is ks ih=>?_
 intro nd lv hn0 hn1 hl0 hl1 hlen
 refine acall_of mixedT h_rleft (by simp [c_rleft]) ?_
 dsimp only [c_rleft]
 by_cases h1:nd < 1
 ·refine go0 (ai @V_A (ai @V_cells h1)) ?_
  exact ⟨_,le_refl _,by simp [tupA_1,Val.left,h1]⟩
 by_cases h2:lv < 1
 ·refine go0 (ai @V_A (ai @V_cells (ai h1 h2))) ?_
  exact ⟨_,le_refl _,by simp [tupA_1,Val.left,h2]⟩
 have e1:IntKind.i64.wrap (nd - 1)=nd - 1:=wrap64 (by omega) (by omega)
 have e2:IntKind.i64.wrap (lv - 1)=lv - 1:=wrap64 (by omega) (by omega)
 refine go0 (ai @V_A (ai @V_cells (ai h1 (ai h2 e1)))) ?_
 obtain ⟨hil,_,_,hks⟩:=V.lens_mk hlen
 have hL:Val.left (.mk k n s is ks) nd lv=Val.lefts is (nd - 1) (lv - 1):=by rw [Val.left,if_neg (by omega)]
 have hwrap:=fun i (hi:i < is.length)=>wrap64 (x:=(i:Int)+1) (by omega) (by omega)
 refine awp_loop (fun m ts h=>h=⟨[.cells 34 (V.mk k n s is ks).cells],[]⟩∧∃ (i:Nat) (q:Int),m=is.length - i∧i≤is.length∧-1≤q∧q≤nd∧Val.lefts (is.drop i) q (lv - 1)=Val.lefts is (nd - 1) (lv - 1)∧ts 2 = .int .i64 lv∧ts 3 = .ptr 0 0∧ts 7 = .int .i64 q∧ts 8 = .int .i64 i) is.length ?_ ?_
 ·refine ⟨rfl,0,nd - 1,rfl,Nat.zero_le _,by omega,by omega,rfl,?_⟩
  (exact inv0 ti)
 ·rintro m ts h ⟨rfl,i,q,rfl,hi,hq0,hq1,heq,t2,t3,t7,t8⟩
  by_cases hlt:i < is.length
  ·have hlt':(i:Int) < ((V.cellss is).length:Int):=by rw [V.cellss_length]; omega
   by_cases hq:q≥0
   ·obtain ⟨⟨k',n',s',is',ks'⟩,hv⟩:∃ x,is[i]=x:=⟨_,rfl⟩
    have ee:=V.cellss_get is i hlt
    have ei:=hwrap i hlt
    have hcall:=ih is[i] (List.getElem_mem hlt) q (lv - 1) (by omega) (by omega) (by omega) (by omega) (hks _ (List.getElem_mem hlt))
    rw [hv] at ee hcall
    refine go0 (ai @V_cells (ai t2 (ai t3 (ai t7 (ai t8 (ai hlt' (ai hq (ai ee (ai e2 ei))))))))) ?_
    refine gc0 (ai @V_cells (ai t2 (ai t3 (ai t7 (ai t8 e2))))) ?_
    refine (pcall hcall rfl (by simp [V.A,V.cells,A.pure,A.data]) _).mono ?_
    rintro v h' ⟨rfl,rfl⟩
    refine go0 (ai @V_cells (ai t2 (ai t3 (ai t7 (ai t8 (ai hlt' (ai hq (ai ee (ai e2 ei))))))))) ?_
    have hll:=Val.left_le (.mk k' n' s' is' ks') q (lv - 1) hq
    refine ⟨is.length - (i+1),by omega,rfl,i+1,Val.left (.mk k' n' s' is' ks') q (lv - 1),rfl,by omega,hll.2,by omega,?_,?_⟩
    ·rw [←heq,List.drop_eq_getElem_cons hlt,hv,Val.lefts,if_pos hq]
    ·(exact inv0 (ai t2 (ai t3 (ai t7 (ai t8 ei)))))
   ·refine go0 (ai @V_cells (ai t2 (ai t3 (ai t7 (ai t8 (ai hlt' hq)))))) ?_
    refine ⟨_,le_refl _,?_⟩
    rw [tupA_1,hL,←heq,Val.lefts_neg _ _ _ (by omega)]
  ·have hlt':¬ (i:Int) < ((V.cellss is).length:Int):=by rw [V.cellss_length]; omega
   refine go0 (ai @V_cells (ai t2 (ai t3 (ai t7 (ai t8 hlt'))))) ?_
   refine ⟨_,le_refl _,?_⟩
   rw [tupA_1,hL,←heq,List.drop_of_length_le (by omega),Val.lefts]
theorem chks_nil (lv b:Nat):Val.chks [] lv b=(0,b):=by rw [Val.chks]
theorem chks_cons (v:V) (l:List V) (lv b:Nat):Val.chks (v::l) lv b=if (Val.chk v lv b).1≠0 then Val.chk v lv b else Val.chks l lv (Val.chk v lv b).2:=by rw [Val.chks]
theorem a_rnode (k n:Int) (s:List UInt8) (is:List V) (ks:List (List UInt8)) (hlen:(V.mk k n s is ks).lens) (h:Hp):ACall Tryz.prog GT 176 [(V.mk k n s is ks).A] h fun r h'=>r = .int .i64 (Val.nodeZ (.mk k n s is ks))∧h'=h:=by
 refine pcall ?_ rfl (by simp [V.A,V.cells,A.pure,A.data]) h
 obtain ⟨hil,hkl,_,_⟩:=V.lens_mk hlen
 refine acall_of mixedT h_rnode (by simp [c_rnode]) ?_
 dsimp only [c_rnode]
 refine go0 (ai @V_A @V_cells) ?_
 refine gc0 (ai @V_A @V_cells) ?_
 refine (a_refShaped k n s .no .no 5 1 _ _ _).mono ?_
 rintro v h' ⟨rfl,rfl⟩
 rw [V.cellss_length,strsA_length]
 have hZ:Val.nodeZ (.mk k n s is ks)=if Val.shapedB k n s is.length ks.length=false then 1 else if k=2∧¬ (-9007199254740992≤n∧n≤9007199254740992) then 5 else if Val.textZ s≠0 then Val.textZ s else Val.keysZ none ks:=by rw [Val.nodeZ]
 rcases bool_or (Val.shapedB k n s is.length ks.length) with hs | hs
 ·rw [hs]
  rw [if_neg (by rw [hs]; simp)] at hZ
  have hc:(k=2∧¬ (-9007199254740992≤n∧n≤9007199254740992))∨(k=2∧(-9007199254740992≤n∧n≤9007199254740992))∨k≠2:=by
   by_cases hk:k=2
   ·by_cases hn:-9007199254740992≤n∧n≤9007199254740992
    ·exact .inr (.inl ⟨hk,hn⟩)
    ·exact .inl ⟨hk,hn⟩
   ·exact .inr (.inr hk)
  rcases hc with ⟨hk,hn⟩ | ⟨hk,hn⟩ | hk
  ·have hk':(k == 2)=true:=by simp [hk]
   rw [if_pos ⟨hk,hn⟩] at hZ
   (refine AX.go0 (AX.ai @V_A (AX.ai @V_cells hk')) ?_)
   (refine AX.gc0 (AX.ai @V_A (AX.ai @V_cells hk')) ?_)
   refine (a_rnvalid n _).mono ?_
   rintro v h' ⟨rfl, rfl⟩
   (refine AX.go0 (AX.ai @V_A (AX.ai @V_cells (AX.ai hn hk'))) ?_)
   exact ⟨_, le_refl _, by rw [tupA_1, hZ]⟩
  all_goals first
   | (have hn' := hn.1
      have hk' : (k == 2) = true := by simp [hk]
      rw [if_neg (by simp [hn])] at hZ
      (refine AX.go0 (AX.ai @V_A (AX.ai @V_cells hk')) ?_)
      (refine AX.gc0 (AX.ai @V_A (AX.ai @V_cells hk')) ?_)
      refine (a_rnvalid n _).mono ?_
      rintro v h' ⟨rfl, rfl⟩
      (refine AX.go0 (AX.ai @V_A (AX.ai @V_cells (AX.ai hn hk'))) ?_))
   | (have hk' : (k == 2) = false := by simp [hk]
      rw [if_neg (by simp [hk])] at hZ
      (refine AX.go0 (AX.ai @V_A (AX.ai @V_cells hk')) ?_))
  all_goals
   refine gc0 (ai @V_A @V_cells) ?_
   refine (a_rtext s _).mono ?_
   rintro v h' ⟨rfl,rfl⟩
   by_cases ht:Val.textZ s=0
   ·rw [if_neg (by simp [ht])] at hZ
    rw [ht]
    refine go0 (ai @V_A @V_cells) ?_
    refine awp_loop (fun m ts h=>h=⟨[.cells 34 (V.mk k n s is ks).cells],[]⟩∧∃ (i:Nat),m=ks.length - i∧i≤ks.length∧Val.keysZ (if i=0 then none else ks[i - 1]?) (ks.drop i)=Val.keysZ none ks∧ts 1 = .ptr 0 0∧ts 4 = .int .i64 i) ks.length ?_ ?_
    ·refine ⟨rfl,0,rfl,Nat.zero_le _,rfl,?_⟩
     (exact inv0 ti)
    ·rintro m ts h ⟨rfl,i,rfl,hi,heq,t1,t4⟩
     by_cases hlt:i < ks.length
     ·have hlt':(i:Int) < ((strsA ks).length:Int):=by rw [strsA_length]; omega
      have ee:=strsA_get ks i hlt
      have ei:IntKind.i64.wrap ((i:Int)+1)=(i:Int)+1:=wrap64 (by omega) (by omega)
      rw [List.drop_eq_getElem_cons hlt,Val.keysZ] at heq
      refine go0 (ai @V_cells (ai t1 (ai t4 (ai hlt' (ai ee ei))))) ?_
      refine gc0 (ai @V_cells (ai t1 (ai t4 (ai hlt' (ai ee ei))))) ?_
      refine (a_rtext ks[i] _).mono ?_
      rintro v h' ⟨rfl,rfl⟩
      by_cases ht2:Val.textZ ks[i]=0
      ·rw [if_neg (by simp [ht2])] at heq
       rw [ht2]
       refine go0 (ai @V_cells (ai t1 (ai t4 (ai hlt' (ai ee ei))))) ?_
       refine awp_quiet (by decide) ?_
       cases i with
       | zero =>
        have h0:¬ ((0:Nat):Int) > 0:=by omega
        simp only [Nat.reduceAdd,if_true,Val.badB,Bool.false_eq_true,if_false] at heq
        refine go0 (ai @V_cells (ai t1 (ai t4 (ai hlt' (ai ee (ai ei h0)))))) ?_
        refine ⟨ks.length - 1,by omega,rfl,1,rfl,by omega,?_,?_⟩
        ·rw [←heq]; simp [hlt]
        ·(exact inv0 (ai t1 (ai t4 ei)))
       | succ j =>
        have h0:((j+1:Nat):Int) > 0:=by omega
        have ej:IntKind.i64.wrap (((j+1:Nat):Int) - 1)=(j:Int):=by rw [wrap64 (by omega) (by omega)]; omega
        have ee2:=strsA_get ks j (by omega)
        have hj':(j:Int) < ((strsA ks).length:Int):=by omega
        have hkj:ks[j+1 - 1]?=some (ks[j]'(by omega)):=List.getElem?_eq_getElem (by omega)
        rw [show (if j+1=0 then none else ks[j+1 - 1]?)=some (ks[j]'(by omega)) from by rw [if_neg (by omega)]; exact hkj] at heq
        simp only [Val.badB] at heq
        rcases bool_or (Op.bytesLess (ks[j]'(by omega)) ks[j+1]) with hb | hb
        ·simp only [hb,Bool.not_true,Bool.not_false,Bool.false_eq_true,if_false,if_true] at heq
         refine go0 (ai @V_cells (ai t1 (ai t4 (ai hlt' (ai ee (ai ee2 (ai ei (ai ej (ai h0 (ai hj' hb)))))))))) ?_
         refine ⟨ks.length - (j+1+1),by omega,rfl,j+1+1,rfl,by omega,?_,?_⟩
         ·rw [←heq]; simp [hlt]
         ·(exact inv0 (ai t1 (ai t4 ei)))
        ·simp only [hb,Bool.not_true,Bool.not_false,Bool.false_eq_true,if_false,if_true] at heq
         refine go0 (ai @V_cells (ai t1 (ai t4 (ai hlt' (ai ee (ai ee2 (ai ei (ai ej (ai h0 (ai hj' hb)))))))))) ?_
         exact ⟨_,le_refl _,by rw [tupA_1,hZ,←heq]⟩
      ·have ht3:(Val.textZ ks[i] != 0)=true:=by simp [ht2]
       rw [if_pos (by simp [ht2])] at heq
       refine go0 (ai @V_cells (ai t1 (ai t4 (ai hlt' (ai ee (ai ei ht3)))))) ?_
       exact ⟨_,le_refl _,by rw [tupA_1,hZ,←heq]⟩
     ·have hlt':¬ (i:Int) < ((strsA ks).length:Int):=by rw [strsA_length]; omega
      refine go0 (ai @V_cells (ai t1 (ai t4 hlt'))) ?_
      refine ⟨_,le_refl _,?_⟩
      rw [tupA_1,hZ,←heq,List.drop_of_length_le (by omega)]
      cases (if i=0 then none else ks[i - 1]?) <;> rfl
   ·have ht':(Val.textZ s != 0)=true:=by simp [ht]
    rw [if_pos (by simp [ht])] at hZ
    refine go0 (ai @V_A (ai @V_cells ht')) ?_
    exact ⟨_,le_refl _,by rw [tupA_1,hZ]⟩
 ·rw [hs]
  refine go0 (ai @V_A @V_cells) ?_
  exact ⟨_,le_refl _,by rw [tupA_1,hZ,if_pos hs]⟩
theorem t_check:∀ (v:V) (lv b:Nat),v.lens→ACall Tryz.prog GT 143 [v.A,.int .i64 lv,.int .i64 b] ⟨[],[]⟩ fun r _=>r = .tup [.int .i64 (Val.chk v lv b).1,.int .i64 (Val.chk v lv b).2]:=by
 refine V.induct fun k n s is ks ih=>?_
 intro lv b hlen
 refine acall_of mixedT h_rcheck (by simp [c_rcheck]) ?_
 dsimp only [c_rcheck]
 obtain ⟨hil,hkl,_,hmem⟩:=V.lens_mk hlen
 by_cases h1:(lv:Int) > 32
 ·refine go0 (ai @V_A (ai @V_cells h1)) ?_
  exact ⟨_,le_refl _,by rw [tupA_2,Val.chk,if_pos (by omega)]⟩
 by_cases h2:(b:Int)≥4096
 ·refine go0 (ai @V_A (ai @V_cells (ai h1 h2))) ?_
  exact ⟨_,le_refl _,by rw [tupA_2,Val.chk,if_neg (by omega),if_pos (by omega)]⟩
 refine go0 (ai @V_A (ai @V_cells (ai h1 h2))) ?_
 refine gc0 (ai @V_A (ai @V_cells (ai h1 h2))) ?_
 refine (a_rnode k n s is ks hlen _).mono ?_
 rintro v h' ⟨rfl,rfl⟩
 by_cases hn:Val.nodeZ (.mk k n s is ks)=0
 ·rw [hn]
  have eb:IntKind.i64.wrap ((b:Int)+1)=((b+1:Nat):Int):=by rw [wrap64 (by omega) (by omega)]; omega
  have elv:IntKind.i64.wrap ((lv:Int)+1)=((lv+1:Nat):Int):=by rw [wrap64 (by omega) (by omega)]; omega
  refine go0 (ai @V_A (ai @V_cells (ai h1 (ai h2 eb)))) ?_
  have hC:Val.chk (.mk k n s is ks) lv b=Val.chks is (lv+1) (b+1):=by rw [Val.chk,if_neg (by omega),if_neg (by omega),if_neg (by simp [hn])]
  refine awp_loop (fun m ts h=>h=⟨[.cells 34 (V.mk k n s is ks).cells],[]⟩∧∃ (i q:Nat),m=is.length - i∧i≤is.length∧Val.chks (is.drop i) (lv+1) q=Val.chks is (lv+1) (b+1)∧ts 1 = .int .i64 lv∧ts 3 = .ptr 0 0∧ts 9 = .int .i64 q∧ts 10 = .int .i64 i) is.length ?_ ?_
  ·refine ⟨rfl,0,b+1,rfl,Nat.zero_le _,rfl,?_⟩
   (exact inv0 ti)
  ·rintro m ts h ⟨rfl,i,q,rfl,hi,heq,t1,t3,t9,t10⟩
   by_cases hlt:i < is.length
   ·have hlt':(i:Int) < ((V.cellss is).length:Int):=by rw [V.cellss_length]; omega
    have ei:IntKind.i64.wrap ((i:Int)+1)=(i:Int)+1:=wrap64 (by omega) (by omega)
    have ee:=V.cellss_get is i hlt
    have hcall:=ih is[i] (List.getElem_mem hlt) (lv+1) q (hmem _ (List.getElem_mem hlt))
    rw [List.drop_eq_getElem_cons hlt,chks_cons] at heq
    obtain ⟨⟨k',n',s',is',ks'⟩,hv⟩:∃ x,is[i]=x:=⟨_,rfl⟩
    rw [hv] at ee hcall heq
    refine go0 (ai @V_cells (ai t1 (ai t3 (ai t9 (ai t10 (ai hlt' (ai ee (ai elv ei)))))))) ?_
    refine gc0 (ai @V_cells (ai t1 (ai t3 (ai t9 (ai t10 elv))))) ?_
    refine (pcall hcall rfl (by simp [V.A,V.cells,A.pure,A.data]) _).mono ?_
    rintro v h' ⟨rfl,rfl⟩
    by_cases hz:(Val.chk (.mk k' n' s' is' ks') (lv+1) q).1=0
    ·rw [if_neg (by simp [hz])] at heq
     rw [hz]
     refine go0 (ai @V_cells (ai t1 (ai t3 (ai t9 (ai t10 (ai hlt' (ai ee (ai elv ei)))))))) ?_
     refine ⟨is.length - (i+1),by omega,rfl,i+1,_,rfl,by omega,heq,?_⟩
     (exact inv0 (ai t1 (ai t3 (ai t9 (ai t10 ei)))))
    ·have hz':((Val.chk (.mk k' n' s' is' ks') (lv+1) q).1 != 0)=true:=by simp [hz]
     rw [if_pos (by simp [hz])] at heq
     refine go0 (ai @V_cells (ai t1 (ai t3 (ai t9 (ai t10 (ai hlt' (ai ee (ai elv (ai ei hz'))))))))) ?_
     exact ⟨_,le_refl _,by rw [tupA_2,hC,←heq]⟩
   ·have hlt':¬ (i:Int) < ((V.cellss is).length:Int):=by rw [V.cellss_length]; omega
    refine go0 (ai @V_cells (ai t1 (ai t3 (ai t9 (ai t10 hlt'))))) ?_
    refine ⟨_,le_refl _,?_⟩
    rw [tupA_2,hC,←heq,List.drop_of_length_le (by omega),chks_nil]
 ·have hn':(Val.nodeZ (.mk k n s is ks) != 0)=true:=by simp [hn]
  refine go0 (ai @V_A (ai @V_cells (ai h1 (ai h2 hn')))) ?_
  exact ⟨_,le_refl _,by rw [tupA_2,Val.chk,if_neg (by omega),if_neg (by omega),if_pos (by simp [hn])]⟩
theorem a_rCheck (v:V) (hlen:v.lens) (h:Hp):ACall Tryz.prog GT 105 [v.A] h fun r h'=>r = .int .i64 (Val.checkZ v)∧h'=h:=by
 have ht:ACall Tryz.prog GT 143 [v.A,.int .i64 1,.int .i64 0] ⟨[],[]⟩ fun r _=>r = .tup [.int .i64 (Val.chk v 1 0).1,.int .i64 (Val.chk v 1 0).2]:=t_check v 1 0 hlen
 obtain ⟨k,n,s,is,ks⟩:=v
 refine pcall ?_ rfl (by simp [V.A,V.cells,A.pure,A.data]) h
 refine acall_of mixedT h_rCheck (by simp [c_rCheck]) ?_
 dsimp only [c_rCheck]
 refine go0 (ai @V_A @V_cells) ?_
 refine gc0 (ai @V_A @V_cells) ?_
 refine (pcall ht rfl (by simp [V.A,V.cells,A.pure,A.data]) _).mono ?_
 rintro v h' ⟨rfl,rfl⟩
 refine go0 (ai @V_A @V_cells) ?_
 exact ⟨_,le_refl _,rfl⟩
def c_vnode:AX.AFn:=⟨50,aS [aR 1 (.box 34 (.t 0)),aR 2 (.mv (aI 0))] (.seq (aS [aR 6 (.load true 5 (.t 1)),aR 7 (.call 173 [.t 6]),aR 8 (.un .not (.t 7))] (.cond (.t 8) (aS [aR 2 (.mv (aI 1))] (.ret)) (.skip))) (.seq (aS [aF 9 0 1,aL 10 9] (.block 0 (aS [aR 12 (.bin .eql (.t 10) (aI 2)),aM 11 12] (.cond (.t 11) (aS [aF 13 1 1,aL 14 13,aR 15 (.call 174 [.t 14]),aR 16 (.un .not (.t 15))] (.cond (.t 16) (aS [aR 2 (.mv (aI 5))] (.ret)) (.skip))) (aS [aR 18 (.bin .eql (.t 10) (aI 3)),aM 17 18] (.cond (.t 17) (aS [aF 19 2 1,aL 20 19,aR 21 (.call 175 [.t 20]),aM 2 21] (.ret)) (aS [aR 23 (.bin .eql (.t 10) (aI 5)),aM 22 23] (.cond (.t 22) (aS [aF 24 4 1,aL 25 24,aR 26 (.len false (.t 25)),aR 27 (.mv (aI 0))] (.block 1 (.loop (aS [aR 28 (.bin .lss (.t 27) (.t 26))] (.seq (.cond (.t 28) (.skip) (.exit 1)) (.seq (.block 2 (aS [aM 29 27,aR 30 (.iaddr 1 (.t 25) (.t 27)),aL 31 30,aM 3 29,aM 4 31] (.seq (aS [aM 32 4,aR 33 (.call 175 [.t 32]),aM 5 33] (aS [aM 34 5,aR 35 (.bin .neq (.t 34) (aI 0))] (.cond (.t 35) (aS [aM 36 5,aM 2 36] (.ret)) (.skip)))) (aS [aM 37 3,aR 38 (.bin .gtr (.t 37) (aI 0)),aM 39 38,aG 40 (.mv (.t 4)) 39 true,aG 41 (.faddr 4 (.t 1)) 39 true,aG 42 (.load false 1 (.t 41)) 39 true,aG 43 (.mv (.t 3)) 39 true,aG 44 (.bin .sub (.t 43) (aI 1)) 39 true,aG 45 (.iaddr 1 (.t 42) (.t 44)) 39 true,aG 46 (.load false 1 (.t 45)) 39 true,aG 47 (.bin .leq (.t 40) (.t 46)) 39 true,aR 48 (.pick (.t 39) (.t 47) (.c (.bool false)))] (.cond (.t 48) (aS [aR 2 (.mv (aI 1))] (.ret)) (.skip)))))) (.reg false [aR 49 (.bin .add (.t 27) (aI 1)),aM 27 49]))))))) (.skip))))))))) (aS [aR 2 (.mv (aI 0))] (.ret)))),[.t 2]⟩
theorem h_vnode:AX.compFn Tryz.prog 137=some c_vnode:=by kernel_rfl
def c_vCheck:AX.AFn:=⟨9,aS [aR 1 (.box 34 (.t 0)),aR 2 (.mv (aI 0))] (aS [aR 3 (.alloc 3 [.int .i64 0]),aU (.store 1 (.t 3) (aI 0))] (aS [aR 4 (.alloc 197 [.nilf])] (aS [aR 5 (.mkfn 136 [.t 3,.t 4]),aU (.store 1 (.t 4) (.t 5))] (aS [aL 6 4,aR 7 (.load true 5 (.t 1)),aR 8 (.callv (.t 6) [.t 7,aI 1]),aM 2 8] (.ret))))),[.t 2]⟩
theorem h_vCheck:AX.compFn Tryz.prog 97=some c_vCheck:=by kernel_rfl
def c_vvisit:AX.AFn:=⟨38,aS [aR 4 (.box 34 (.t 0)),aR 6 (.mv (aI 0))] (.seq (aS [aM 11 1,aR 12 (.bin .gtr (.t 11) (aI 32))] (.cond (.t 12) (aS [aR 6 (.mv (aI 4))] (.ret)) (.skip))) (.seq (aS [aL 13 2,aR 14 (.bin .geq (.t 13) (aI 4096))] (.cond (.t 14) (aS [aR 6 (.mv (aI 14))] (.ret)) (.skip))) (aS [aL 15 2,aR 16 (.bin .add (.t 15) (aI 1)),aU (.store 1 (.t 2) (.t 16))] (.seq (aS [aR 17 (.load true 5 (.t 4)),aR 18 (.call 137 [.t 17]),aM 7 18] (aS [aM 19 7,aR 20 (.bin .neq (.t 19) (aI 0))] (.cond (.t 20) (aS [aM 21 7,aM 6 21] (.ret)) (.skip)))) (.seq (aS [aF 22 3 4,aL 23 22,aR 24 (.len false (.t 23)),aR 25 (.mv (aI 0))] (.block 0 (.loop (aS [aR 26 (.bin .lss (.t 25) (.t 24))] (.seq (.cond (.t 26) (.skip) (.exit 0)) (.seq (.block 1 (aS [aR 27 (.iaddr 5 (.t 23) (.t 25)),aR 28 (.load true 5 (.t 27)),aR 9 (.alloc 34 [.int .i64 0,.int .i64 0,.str [],.sl 0 .nil [],.sl 0 .nil []]),aU (.store 5 (.t 9) (.t 28))] (aS [aL 29 3,aR 30 (.load true 5 (.t 9)),aM 31 1,aR 32 (.bin .add (.t 31) (aI 1)),aR 33 (.callv (.t 29) [.t 30,.t 32]),aM 10 33] (aS [aM 34 10,aR 35 (.bin .neq (.t 34) (aI 0))] (.cond (.t 35) (aS [aM 36 10,aM 6 36] (.ret)) (.skip)))))) (.reg false [aR 37 (.bin .add (.t 25) (aI 1)),aM 25 37]))))))) (aS [aR 6 (.mv (aI 0))] (.ret))))))),[.t 6]⟩
theorem h_vvisit:AX.compFn Tryz.prog 136=some c_vvisit:=by kernel_rfl
theorem shaped_parts {k n:Int} {s:List UInt8} {is:List V} {ks:List (List UInt8)} (h:Val.shapedB k n s is.length ks.length=true):(k≠3→s=[])∧(k≠5→ks=[]):=by
 unfold Val.shapedB at h
 simp only [Bool.and_eq_true,Bool.or_eq_true,decide_eq_true_eq,beq_iff_eq] at h
 obtain ⟨⟨⟨⟨_,_⟩,h1⟩,_⟩,h2⟩:=h
 refine ⟨fun hk=>?_,fun hk=>?_⟩
 ·rcases h1 with h1 | h1
  ·exact absurd h1 hk
  ·exact h1
 ·rw [if_neg hk] at h2
  exact List.eq_nil_of_length_eq_zero (by simpa using h2)
theorem a_vnode (k n:Int) (s:List UInt8) (is:List V) (ks:List (List UInt8)) (hlen:(V.mk k n s is ks).lens) (h:Hp):ACall Tryz.prog GT 137 [(V.mk k n s is ks).A] h fun r h'=>r = .int .i64 (Val.nodeZ (.mk k n s is ks))∧h'=h:=by
 refine pcall ?_ rfl (by simp [V.A,V.cells,A.pure,A.data]) h
 obtain ⟨hil,hkl,_,_⟩:=V.lens_mk hlen
 refine acall_of mixedT h_vnode (by simp [c_vnode]) ?_
 dsimp only [c_vnode]
 refine go0 (ai @V_A @V_cells) ?_
 refine gc0 (ai @V_A @V_cells) ?_
 refine (a_shaped k n s .no .no 5 1 _ _ _).mono ?_
 rintro v h' ⟨rfl,rfl⟩
 rw [V.cellss_length,strsA_length]
 rcases bool_or (Val.shapedB k n s is.length ks.length) with hs | hs
 ·rw [hs]
  obtain ⟨hs3,hs5⟩:=shaped_parts hs
  have hZ:Val.nodeZ (.mk k n s is ks)=if k=2∧¬ (-9007199254740992≤n∧n≤9007199254740992) then 5 else if Val.textZ s≠0 then Val.textZ s else Val.keysZ none ks:=by rw [Val.nodeZ,if_neg (by rw [hs]; simp)]
  have ht0:Val.textZ []=0:=by decide
  have hk0:Val.keysZ none []=0:=rfl
  by_cases h2:k=2
  ·have e2:(k == 2)=true:=by simp [h2]
   obtain rfl:s=[]:=hs3 (by omega)
   obtain rfl:ks=[]:=hs5 (by omega)
   refine go0 (ai @V_A (ai @V_cells e2)) ?_
   refine gc0 (ai @V_A (ai @V_cells e2)) ?_
   refine (a_nvalid n _).mono ?_
   rintro v h' ⟨rfl,rfl⟩
   by_cases hn:-9007199254740992≤n∧n≤9007199254740992
   ·refine go0 (ai @V_A (ai @V_cells (ai e2 hn))) ?_
    exact ⟨_,le_refl _,by rw [tupA_1,hZ,if_neg (by simp [hn]),ht0]; simp [hk0]⟩
   ·refine go0 (ai @V_A (ai @V_cells (ai e2 hn))) ?_
    exact ⟨_,le_refl _,by rw [tupA_1,hZ,if_pos ⟨h2,hn⟩]⟩
  have e2:(k == 2)=false:=by simp [h2]
  rw [if_neg (by simp [h2])] at hZ
  by_cases h3:k=3
  ·have e3:(k == 3)=true:=by simp [h3]
   obtain rfl:ks=[]:=hs5 (by omega)
   refine go0 (ai @V_A (ai @V_cells (ai e2 e3))) ?_
   refine gc0 (ai @V_A (ai @V_cells (ai e2 e3))) ?_
   refine (a_vtext s _).mono ?_
   rintro v h' ⟨rfl,rfl⟩
   refine go0 (ai @V_A (ai @V_cells (ai e2 e3))) ?_
   exact ⟨_,le_refl _,by
    rw [tupA_1,hZ]
    split
    ·rfl
    ·next h=>rw [hk0]; simp at h; rw [h]⟩
  have e3:(k == 3)=false:=by simp [h3]
  obtain rfl:s=[]:=hs3 h3
  rw [ht0,if_neg (by simp)] at hZ
  by_cases h5:k=5
  ·have e5:(k == 5)=true:=by simp [h5]
   refine go0 (ai @V_A (ai @V_cells (ai e2 (ai e3 e5)))) ?_
   refine awp_loop (fun m ts h=>h=⟨[.cells 34 (V.mk k n [] is ks).cells],[]⟩∧∃ (i:Nat),m=ks.length - i∧i≤ks.length∧Val.keysZ (if i=0 then none else ks[i - 1]?) (ks.drop i)=Val.keysZ none ks∧ts 1 = .ptr 0 0∧ts 25 = .sl 1 .no (strsA ks)∧ts 26 = .int .i64 ks.length∧ts 27 = .int .i64 i) ks.length ?_ ?_
   ·refine ⟨rfl,0,rfl,Nat.zero_le _,rfl,?_⟩
    (exact inv0 @strsA_length)
   ·rintro m ts h ⟨rfl,i,rfl,hi,heq,t1,t25,t26,t27⟩
    by_cases hlt:i < ks.length
    ·have hlt2:(i:Int) < (ks.length:Int):=by omega
     have hlt':(i:Int) < ((strsA ks).length:Int):=by rw [strsA_length]; omega
     have ee:=strsA_get ks i hlt
     have ei:IntKind.i64.wrap ((i:Int)+1)=(i:Int)+1:=wrap64 (by omega) (by omega)
     rw [List.drop_eq_getElem_cons hlt,Val.keysZ] at heq
     refine go0 (ai @V_cells (ai t1 (ai t25 (ai t26 (ai t27 (ai hlt' (ai hlt2 (ai ee ei)))))))) ?_
     refine gc0 (ai @V_cells (ai t1 (ai t25 (ai t26 (ai t27 (ai hlt' (ai ee ei))))))) ?_
     refine (a_vtext ks[i] _).mono ?_
     rintro v h' ⟨rfl,rfl⟩
     by_cases ht2:Val.textZ ks[i]=0
     ·rw [if_neg (by simp [ht2])] at heq
      rw [ht2]
      cases i with
      | zero =>
       have h0:¬ ((0:Nat):Int) > 0:=by omega
       simp only [Nat.reduceAdd,if_true,Val.badB,Bool.false_eq_true,if_false] at heq
       refine go0 (ai @V_cells (ai t1 (ai t25 (ai t26 (ai t27 (ai hlt' (ai hlt2 (ai ee (ai ei h0))))))))) ?_
       refine ⟨ks.length - 1,by omega,rfl,1,rfl,by omega,?_,?_⟩
       ·rw [←heq]; simp [hlt]
       ·(exact inv0 (ai t1 (ai t25 (ai t26 (ai t27 ei)))))
      | succ j =>
       have h0:((j+1:Nat):Int) > 0:=by omega
       have ej:IntKind.i64.wrap (((j+1:Nat):Int) - 1)=(j:Int):=by rw [wrap64 (by omega) (by omega)]; omega
       have ee2:=strsA_get ks j (by omega)
       have hj':(j:Int) < ((strsA ks).length:Int):=by omega
       have hkj:ks[j+1 - 1]?=some (ks[j]'(by omega)):=List.getElem?_eq_getElem (by omega)
       rw [show (if j+1=0 then none else ks[j+1 - 1]?)=some (ks[j]'(by omega)) from by rw [if_neg (by omega)]; exact hkj] at heq
       simp only [Val.badB,Val.less_total] at heq
       rcases bool_or (Op.bytesLess ks[j+1] (ks[j]'(by omega))||ks[j+1] == (ks[j]'(by omega))) with hb | hb
       ·simp only [hb,Bool.not_true,Bool.not_false,Bool.false_eq_true,if_false,if_true] at heq
        refine go0 (ai @V_cells (ai t1 (ai t25 (ai t26 (ai t27 (ai hlt' (ai hlt2 (ai ee (ai ee2 (ai ei (ai ej (ai h0 (ai hj' hb))))))))))))) ?_
        exact ⟨_,le_refl _,by rw [tupA_1,hZ,←heq]⟩
       ·simp only [hb,Bool.not_true,Bool.not_false,Bool.false_eq_true,if_false,if_true] at heq
        refine go0 (ai @V_cells (ai t1 (ai t25 (ai t26 (ai t27 (ai hlt' (ai hlt2 (ai ee (ai ee2 (ai ei (ai ej (ai h0 (ai hj' hb))))))))))))) ?_
        refine ⟨ks.length - (j+1+1),by omega,rfl,j+1+1,rfl,by omega,?_,?_⟩
        ·rw [←heq]; simp [hlt]
        ·(exact inv0 (ai t1 (ai t25 (ai t26 (ai t27 ei)))))
     ·have ht3:(Val.textZ ks[i] != 0)=true:=by simp [ht2]
      rw [if_pos (by simp [ht2])] at heq
      refine go0 (ai @V_cells (ai t1 (ai t25 (ai t26 (ai t27 (ai hlt' (ai hlt2 (ai ee (ai ei ht3))))))))) ?_
      exact ⟨_,le_refl _,by rw [tupA_1,hZ,←heq]⟩
    ·have hlt2:¬ (i:Int) < (ks.length:Int):=by omega
     refine go0 (ai @V_cells (ai t1 (ai t25 (ai t26 (ai t27 hlt2))))) ?_
     refine ⟨_,le_refl _,?_⟩
     rw [tupA_1,hZ,←heq,List.drop_of_length_le (by omega)]
     cases (if i=0 then none else ks[i - 1]?) <;> rfl
  have e5:(k == 5)=false:=by simp [h5]
  obtain rfl:ks=[]:=hs5 h5
  refine go0 (ai @V_A (ai @V_cells (ai e2 (ai e3 e5)))) ?_
  exact ⟨_,le_refl _,by rw [tupA_1,hZ,hk0]⟩
 ·rw [hs]
  refine go0 (ai @V_A @V_cells) ?_
  exact ⟨_,le_refl _,by rw [tupA_1,Val.nodeZ,if_pos hs]⟩
theorem chks_nil' (lv b:Nat):Val.chks [] lv b=(0,b):=by rw [Val.chks]
theorem chks_cons' (v:V) (l:List V) (lv b:Nat):Val.chks (v::l) lv b=if (Val.chk v lv b).1≠0 then Val.chk v lv b else Val.chks l lv (Val.chk v lv b).2:=by rw [Val.chks]
def cntB (b:Nat):Blk:=.cells 3 [.int .i64 b]
def visB:Blk:=.cells 197 [.fn 136 [.ptr 1 0,.ptr 2 0]]
theorem get_app {l m:List Blk} {i:Nat} {x:Blk} (h:l[i]?=some x):(l++m)[i]?=some x:=by
 rw [List.getElem?_append_left (List.getElem?_eq_some_iff.1 h).1]; exact h
theorem set_new (l:List Blk) (x y:Blk):(l++[x]).set l.length y=l++[y]:=by
 rw [List.set_append_right _ _ (Nat.le_refl _)]; simp
theorem t_visit:∀ (v:V) (lv b:Nat) (h:Hp),v.lens→h.b[1]?=some (cntB b)→h.b[2]?=some visB→ACall Tryz.prog GT 136 [v.A,.int .i64 lv,.ptr 1 0,.ptr 2 0] h fun r h'=>r = .int .i64 (Val.chk v lv b).1∧((Val.chk v lv b).1=0→h'.b[1]?=some (cntB (Val.chk v lv b).2)∧h'.b[2]?=some visB):=by
 refine V.induct fun k n s is ks ih=>?_
 intro lv b h hlen hb1 hb2
 refine acall_of mixedT h_vvisit (by simp [c_vvisit]) ?_
 dsimp only [c_vvisit]
 obtain ⟨hil,hkl,_,hmem⟩:=V.lens_mk hlen
 have hbl:2 < h.b.length:=(List.getElem?_eq_some_iff.1 hb2).1
 have g1:∀ m,(h.b++m)[1]?=some (.cells 3 [.int .i64 b]):=fun m=>get_app hb1
 have g2:∀ m,(h.b++m)[2]?=some visB:=fun m=>get_app hb2
 have hC:¬ (lv:Int) > 32→¬ (b:Int)≥4096→Val.chk (.mk k n s is ks) lv b=if Val.nodeZ (.mk k n s is ks)≠0 then (Val.nodeZ (.mk k n s is ks),b) else Val.chks is (lv+1) (b+1):=fun h1 h2=>by rw [Val.chk,if_neg (by omega),if_neg (by omega)]
 by_cases h1:(lv:Int) > 32
 ·have hC1:Val.chk (.mk k n s is ks) lv b=(4,b):=by rw [Val.chk,if_pos (by omega)]
  refine go0 (ai @V_A (ai @V_cells h1)) ?_
  exact ⟨_,le_refl _,by rw [tupA_1,hC1],fun e=>by rw [hC1] at e; simp at e⟩
 by_cases h2:(b:Int)≥4096
 ·have hC1:Val.chk (.mk k n s is ks) lv b=(14,b):=by rw [Val.chk,if_neg (by omega),if_pos (by omega)]
  refine go0 (ai @V_A (ai @V_cells (ai h1 (ai h2 (ai g1 g2))))) ?_
  exact ⟨_,le_refl _,by rw [tupA_1,hC1],fun e=>by rw [hC1] at e; simp at e⟩
 have eb:IntKind.i64.wrap ((b:Int)+1)=((b+1:Nat):Int):=by rw [wrap64 (by omega) (by omega)]; omega
 have hne1:¬ (1=h.b.length):=by omega
 have hle1:1≤1:=by omega
 refine go0 (ai @V_A (ai @V_cells (ai h1 (ai h2 (ai g1 (ai g2 (ai eb (ai (@List.getElem?_set AX.Blk) hne1)))))))) ?_
 refine gc0 (ai @V_A (ai @V_cells (ai h1 h2))) ?_
 refine (a_vnode k n s is ks hlen _).mono ?_
 rintro v h' ⟨rfl,rfl⟩
 have hC':=hC h1 h2
 by_cases hn:Val.nodeZ (.mk k n s is ks)=0
 ·rw [hn]
  rw [if_neg (by simp [hn])] at hC'
  have elv:IntKind.i64.wrap ((lv:Int)+1)=((lv+1:Nat):Int):=by rw [wrap64 (by omega) (by omega)]; omega
  refine go0 (ai @V_A (ai @V_cells (ai h1 (ai h2 (ai (@List.getElem?_set AX.Blk) hne1))))) ?_
  refine awp_loop (fun m ts hh=>∃ (i q:Nat),m=is.length - i∧i≤is.length∧Val.chks (is.drop i) (lv+1) q=Val.chks is (lv+1) (b+1)∧hh.b[1]?=some (cntB q)∧hh.b[2]?=some visB∧ts 1 = .int .i64 lv∧ts 3 = .ptr 2 0∧ts 23 = .sl 5 .no (V.cellss is)∧ts 24 = .int .i64 is.length∧ts 25 = .int .i64 i) is.length ?_ ?_
  ·refine ⟨0,b+1,rfl,Nat.zero_le _,rfl,?_,?_,?_⟩
   ·show (List.set _ 1 _)[1]?=_
    rw [List.getElem?_set,if_pos rfl,if_pos (by simp; omega)]; rfl
   ·show (List.set _ 1 _)[2]?=_
    rw [List.getElem?_set,if_neg (by omega)]; exact g2 _
   ·(exact inv0 @V.cellss_length)
  ·rintro m ts hh ⟨i,q,rfl,hi,heq,p1,p2,t1,t3,t23,t24,t25⟩
   by_cases hlt:i < is.length
   ·have hlt2:(i:Int) < (is.length:Int):=by omega
    have hlt':(i:Int) < ((V.cellss is).length:Int):=by rw [V.cellss_length]; omega
    have ei:IntKind.i64.wrap ((i:Int)+1)=(i:Int)+1:=wrap64 (by omega) (by omega)
    have ee:=V.cellss_get is i hlt
    have hcall:=fun (h:Hp)=>ih is[i] (List.getElem_mem hlt) (lv+1) q h (hmem _ (List.getElem_mem hlt))
    rw [List.drop_eq_getElem_cons hlt,chks_cons'] at heq
    obtain ⟨⟨k',n',s',is',ks'⟩,hv⟩:∃ x,is[i]=x:=⟨_,rfl⟩
    rw [hv] at ee hcall heq
    have q2:∀ m,(hh.b++m)[2]?=some (.cells 197 [.fn 136 [.ptr 1 0,.ptr 2 0]]):=fun m=>get_app p2
    refine go0 (ai @V_cells (ai t1 (ai t3 (ai t23 (ai t24 (ai t25 (ai hlt' (ai hlt2 (ai ee (ai elv (ai ei (ai @set_new q2)))))))))))) ?_
    refine gc0 (ai @V_cells (ai t1 (ai t3 (ai t23 (ai t24 (ai t25 elv)))))) ?_
    refine (hcall _ (get_app p1) (get_app p2)).mono ?_
    rintro v h' ⟨rfl,hcnt⟩
    by_cases hz:(Val.chk (.mk k' n' s' is' ks') (lv+1) q).1=0
    ·rw [if_neg (by simp [hz])] at heq
     rw [hz]
     obtain ⟨r1,r2⟩:=hcnt hz
     refine go0 (ai @V_cells (ai t1 (ai t3 (ai t23 (ai t24 (ai t25 ei)))))) ?_
     refine ⟨is.length - (i+1),by omega,i+1,_,rfl,by omega,heq,r1,r2,?_⟩
     (exact inv0 (ai t1 (ai t3 (ai t23 (ai t24 (ai t25 ei))))))
    ·have hz':((Val.chk (.mk k' n' s' is' ks') (lv+1) q).1 != 0)=true:=by simp [hz]
     rw [if_pos (by simp [hz])] at heq
     refine go0 (ai @V_cells (ai t1 (ai t3 (ai t23 (ai t24 (ai t25 (ai ei hz'))))))) ?_
     exact ⟨_,le_refl _,by rw [tupA_1,hC',←heq],fun e=>by rw [hC',←heq] at e; exact absurd e hz⟩
   ·have hlt2:¬ (i:Int) < (is.length:Int):=by omega
    rw [List.drop_of_length_le (by omega),chks_nil'] at heq
    refine go0 (ai @V_cells (ai t1 (ai t3 (ai t23 (ai t24 (ai t25 hlt2)))))) ?_
    exact ⟨_,le_refl _,by rw [tupA_1,hC',←heq],fun _=>by rw [hC',←heq]; exact ⟨p1,p2⟩⟩
 ·have hn':(Val.nodeZ (.mk k n s is ks) != 0)=true:=by simp [hn]
  rw [if_pos (by simp [hn])] at hC'
  refine go0 (ai @V_A (ai @V_cells (ai h1 (ai h2 hn')))) ?_
  exact ⟨_,le_refl _,by rw [tupA_1,hC'],fun e=>by rw [hC'] at e; exact absurd e hn⟩
theorem a_vCheck (v:V) (hlen:v.lens) (h:Hp):ACall Tryz.prog GT 97 [v.A] h fun r h'=>r = .int .i64 (Val.checkZ v)∧h'=h:=by
 have ht:∀ h:Hp,h.b[1]?=some (cntB 0)→h.b[2]?=some visB→ACall Tryz.prog GT 136 [v.A,.int .i64 1,.ptr 1 0,.ptr 2 0] h fun r h'=>r = .int .i64 (Val.chk v 1 0).1∧((Val.chk v 1 0).1=0→h'.b[1]?=some (cntB (Val.chk v 1 0).2)∧h'.b[2]?=some visB):=fun h=>t_visit v 1 0 h hlen
 obtain ⟨k,n,s,is,ks⟩:=v
 refine pcall ?_ rfl (by simp [V.A,V.cells,A.pure,A.data]) h
 refine acall_of mixedT h_vCheck (by simp [c_vCheck]) ?_
 dsimp only [c_vCheck]
 refine go0 (ai @V_A @V_cells) ?_
 refine gc0 (ai @V_A @V_cells) ?_
 refine (ht _ rfl rfl).mono ?_
 rintro v h' ⟨rfl,_⟩
 refine go0 (ai @V_A @V_cells) ?_
 exact ⟨_,le_refl _,rfl⟩
theorem eqBs_len:∀ {l l':List V},Val.eqBs l l'=true→l.length=l'.length
 | [],[],_=>rfl
 | [],_::_,h=>by simp [Val.eqBs] at h
 | _::_,[],h=>by simp [Val.eqBs] at h
 | v::l,v'::l',h=>by
  rw [Val.eqBs,Bool.and_eq_true] at h
  simp [eqBs_len h.2]
def c_r8keys:AX.AFn:=⟨24,aS [aR 1 (.box 34 (.t 0)),aR 2 (.mv (aI 0))] (aS [aF 5 4 1,aL 6 5,aR 7 (.len false (.t 6)),aM 3 7] (.seq (aS [aR 4 (.mv (aI 0))] (.block 0 (.loop (.seq (aS [aM 8 4,aF 9 3 1,aL 10 9,aR 11 (.len false (.t 10)),aR 12 (.bin .lss (.t 8) (.t 11))] (.cond (.t 12) (.skip) (.exit 0))) (.seq (.block 1 (.reg false [aM 15 3,aF 16 3 1,aL 17 16,aM 18 4,aR 19 (.iaddr 5 (.t 17) (.t 18)),aR 20 (.load true 5 (.t 19)),aR 21 (.call 46 [.t 20]),aR 22 (.bin .add (.t 15) (.t 21)),aM 3 22])) (.reg false [aM 13 4,aR 14 (.bin .add (.t 13) (aI 1)),aM 4 14])))))) (aS [aM 23 3,aM 2 23] (.ret)))),[.t 2]⟩
theorem h_r8keys:AX.compFn Tryz.prog 46=some c_r8keys:=by kernel_rfl
def c_r8Small:AX.AFn:=⟨16,aS [aR 2 (.box 34 (.t 0)),aR 4 (.mv (.c (.bool false)))] (aS [aR 5 (.load true 5 (.t 2)),aM 6 1,aR 7 (.call 45 [.t 5,.t 6,aI 40]),aR 8 (.bin .geq (.t 7) (aI 0)),aM 9 8,aG 10 (.load true 5 (.t 2)) 9 true,aG 11 (.call 46 [.t 10]) 9 true,aG 12 (.mv (.t 1)) 9 true,aG 13 (.bin .mul (aI 2) (.t 12)) 9 true,aG 14 (.bin .leq (.t 11) (.t 13)) 9 true,aR 15 (.pick (.t 9) (.t 14) (.c (.bool false))),aM 4 15] (.ret)),[.t 4]⟩
theorem h_r8Small:AX.compFn Tryz.prog 23=some c_r8Small:=by kernel_rfl
theorem keysNs_drop:∀ (l:List V) (i:Nat) (h:i < l.length),Val.keysNs (l.drop i)=Val.keysN l[i]+Val.keysNs (l.drop (i+1)):=by
 intro l i h
 rw [List.drop_eq_getElem_cons h,Val.keysNs]
theorem wrap_wrap (a b:Int):IntKind.i64.wrap (IntKind.i64.wrap a+IntKind.i64.wrap b)=IntKind.i64.wrap (a+b):=by
 have e:∀ x,IntKind.i64.wrap x=(x+9223372036854775808) % 18446744073709551616 - 9223372036854775808:=fun x=>by
  unfold IntKind.wrap
  simp [IntKind.bits,IntKind.signed]
  split <;> omega
 rw [e,e,e,e]
 omega
theorem t_rkeys:∀ (v:V),v.lens→∀ h,ACall Tryz.prog GT 46 [v.A] h fun r h'=>r = .int .i64 (IntKind.i64.wrap (Val.keysN v))∧h'=h:=by
 refine V.induct fun k n s is ks ih=>?_
 intro hlen h
 refine pcall ?_ rfl (by simp [V.A,V.cells,A.pure,A.data]) h
 refine acall_of mixedT h_r8keys (by simp [c_r8keys]) ?_
 dsimp only [c_r8keys]
 obtain ⟨hil,hkl,_,hmem⟩:=V.lens_mk hlen
 have hK:Val.keysN (.mk k n s is ks)=ks.length+Val.keysNs is:=by rw [Val.keysN]
 rw [hK]
 have hkw:IntKind.i64.wrap (ks.length:Int)=(ks.length:Int):=wrap64 (by omega) (by omega)
 refine go0 (ai @V_A (ai @V_cells @strsA_length)) ?_
 refine awp_loop (fun m ts hh=>hh=⟨[.cells 34 (V.mk k n s is ks).cells],[]⟩∧∃ (i:Nat) (q:Nat),m=is.length - i∧i≤is.length∧q+Val.keysNs (is.drop i)=ks.length+Val.keysNs is∧ts 1 = .ptr 0 0∧ts 3 = .int .i64 (IntKind.i64.wrap (q:Int))∧ts 4 = .int .i64 i) is.length ?_ ?_
 ·refine ⟨rfl,0,ks.length,rfl,Nat.zero_le _,rfl,?_⟩
  (exact inv0 (ai @strsA_length hkw))
 ·rintro m ts hh ⟨rfl,i,q,rfl,hi,heq,t1,t3,t4⟩
  by_cases hlt:i < is.length
  ·have hlt':(i:Int) < ((V.cellss is).length:Int):=by rw [V.cellss_length]; omega
   have ee:=V.cellss_get is i hlt
   have ei:IntKind.i64.wrap ((i:Int)+1)=(i:Int)+1:=wrap64 (by omega) (by omega)
   rw [keysNs_drop is i hlt] at heq
   have hcall:=ih is[i] (List.getElem_mem hlt) (hmem _ (List.getElem_mem hlt))
   obtain ⟨⟨k',n',s',is',ks'⟩,hv⟩:∃ x,is[i]=x:=⟨_,rfl⟩
   rw [hv] at ee hcall heq
   have eq':IntKind.i64.wrap (IntKind.i64.wrap (q:Int)+IntKind.i64.wrap (Val.keysN (.mk k' n' s' is' ks'):Int))=IntKind.i64.wrap ((q+Val.keysN (.mk k' n' s' is' ks'):Nat):Int):=by rw [wrap_wrap]; simp
   refine go0 (ai @V_cells (ai t1 (ai t3 (ai t4 (ai hlt' (ai ee ei)))))) ?_
   refine gc0 (ai @V_cells (ai t1 (ai t3 t4))) ?_
   refine (hcall _).mono ?_
   rintro v h' ⟨rfl,rfl⟩
   refine go0 (ai @V_cells (ai t1 (ai t3 (ai t4 (ai hlt' (ai ee (ai ei eq'))))))) ?_
   refine ⟨is.length - (i+1),by omega,rfl,i+1,q+Val.keysN (.mk k' n' s' is' ks'),rfl,by omega,by omega,?_⟩
   (exact inv0 (ai t1 (ai t3 (ai t4 (ai ei eq')))))
  ·have hlt':¬ (i:Int) < ((V.cellss is).length:Int):=by rw [V.cellss_length]; omega
   refine go0 (ai @V_cells (ai t1 (ai t3 (ai t4 hlt')))) ?_
   rw [List.drop_of_length_le (by omega),Val.keysNs] at heq
   exact ⟨_,le_refl _,by rw [tupA_1,←heq]; rfl⟩
theorem a_rSmall (v:V) (nd:Nat) (hn:nd≤1000000) (hlen:v.lens) (h:Hp):ACall Tryz.prog GT 23 [v.A,.int .i64 nd] h fun r h'=>r = .bool (decide (0≤Val.left v nd 40)&&decide (IntKind.i64.wrap (Val.keysN v)≤2*(nd:Int)))∧h'=h:=by
 have hL:=t_left v nd 40 (by omega) (by omega) (by decide) (by decide) hlen
 have hK:=t_rkeys v hlen
 have hp:=V.pure v
 obtain ⟨k,n,s,is,ks⟩:=v
 refine pcall ?_ rfl (by simp [V.A,V.cells,A.pure,A.data]) h
 refine acall_of mixedT h_r8Small (by simp [c_r8Small]) ?_
 dsimp only [c_r8Small]
 refine go0 (ai @V_A @V_cells) ?_
 refine gc0 (ai @V_A @V_cells) ?_
 refine (pcall hL rfl (by simp [V.A,V.cells,A.pure,A.data]) _).mono ?_
 rintro v1 h' ⟨rfl,rfl⟩
 have e2:IntKind.i64.wrap (2*(nd:Int))=2*(nd:Int):=wrap64 (by omega) (by omega)
 by_cases h0:Val.left (.mk k n s is ks) nd 40≥0
 ·refine go0 (ai @V_A (ai @V_cells h0)) ?_
  refine gc0 (ai @V_A (ai @V_cells h0)) ?_
  refine (hK _).mono ?_
  rintro v2 h' ⟨rfl,rfl⟩
  refine go0 (ai @V_A (ai @V_cells (ai h0 e2))) ?_
  exact ⟨_,le_refl _,by rw [tupA_1,decide_eq_true h0,Bool.true_and]⟩
 ·refine go0 (ai @V_A (ai @V_cells h0)) ?_
  exact ⟨_,le_refl _,by rw [tupA_1,decide_eq_false h0,Bool.false_and]⟩
def c_wnum:AX.AFn:=⟨10,.reg true [aM 4 0,⟨some 5,.nilck (.t 4),none,[0]⟩,⟨some 6,.faddr 0 (.t 5),none,[1]⟩,aM 7 1,⟨some 8,.call 57 [.c (.str []),.t 7],none,[3]⟩,⟨some 9,.call 43 [.t 6,.t 8],none,[2,4,4]⟩],[]⟩
theorem h_wnum:AX.compFn Tryz.prog 139=some c_wnum:=by kernel_rfl
def c_wtext:AX.AFn:=⟨13,aS [aM 4 0,aM 5 1,aR 6 (.len true (.t 5)),aR 7 (.call 139 [.t 4,.t 6])] (.reg false [aM 8 0,aR 9 (.nilck (.t 8)),aF 10 0 9,aM 11 1,aR 12 (.call 43 [.t 10,.t 11])]),[]⟩
theorem h_wtext:AX.compFn Tryz.prog 140=some c_wtext:=by kernel_rfl
def c_wvalue:AX.AFn:=⟨55,aS [aR 3 (.box 34 (.t 1))] (aS [aM 6 0,aF 7 0 3,aL 8 7,aR 9 (.call 139 [.t 6,.t 8])] (aS [aF 10 0 3,aL 11 10] (.block 0 (.seq (aS [aR 13 (.bin .eql (.t 11) (aI 1)),aM 12 13] (.cond (.t 12) (.skip) (.reg false [aR 14 (.bin .eql (.t 11) (aI 2)),aM 12 14]))) (.cond (.t 12) (.reg false [aM 15 0,aF 16 1 3,aL 17 16,aR 18 (.call 139 [.t 15,.t 17])]) (aS [aR 20 (.bin .eql (.t 11) (aI 3)),aM 19 20] (.cond (.t 19) (.reg false [aM 21 0,aF 22 2 3,aL 23 22,aR 24 (.call 140 [.t 21,.t 23])]) (.seq (aS [aR 26 (.bin .eql (.t 11) (aI 4)),aM 25 26] (.cond (.t 25) (.skip) (.reg false [aR 27 (.bin .eql (.t 11) (aI 5)),aM 25 27]))) (.cond (.t 25) (aS [aM 28 0,aF 29 3 3,aL 30 29,aR 31 (.len false (.t 30)),aR 32 (.call 139 [.t 28,.t 31])] (aS [aF 33 3 3,aL 34 33,aR 35 (.len false (.t 34)),aR 36 (.mv (aI 0))] (.block 1 (.loop (aS [aR 37 (.bin .lss (.t 36) (.t 35))] (.seq (.cond (.t 37) (.skip) (.exit 1)) (.seq (.block 2 (aS [aM 38 36,aR 39 (.iaddr 5 (.t 34) (.t 36)),aR 40 (.load true 5 (.t 39)),aR 5 (.alloc 34 [.int .i64 0,.int .i64 0,.str [],.sl 0 .nil [],.sl 0 .nil []]),aM 4 38,aU (.store 5 (.t 5) (.t 40))] (.seq (aS [aF 41 0 3,aL 42 41,aR 43 (.bin .eql (.t 42) (aI 5))] (.cond (.t 43) (.reg false [aM 44 0,aF 45 4 3,aL 46 45,aM 47 4,aR 48 (.iaddr 1 (.t 46) (.t 47)),aL 49 48,aR 50 (.call 140 [.t 44,.t 49])]) (.skip))) (.reg false [aM 51 0,aR 52 (.load true 5 (.t 5)),aR 53 (.call 101 [.t 51,.t 52])])))) (.reg false [aR 54 (.bin .add (.t 36) (aI 1)),aM 36 54])))))))) (.skip)))))))))),[]⟩
theorem h_wvalue:AX.compFn Tryz.prog 101=some c_wvalue:=by kernel_rfl
def c_AppendValue:AX.AFn:=⟨17,aS [aR 3 (.box 34 (.t 1)),aR 4 (.mv (.c (.str [])))] (aS [aR 6 (.build [.nilp,.sl 0 .nil [],.int .i64 0] []),aR 7 (.box 151 (.t 6)),aM 5 7] (aS [aM 8 5,aR 9 (.load true 5 (.t 3)),aR 10 (.call 101 [.t 8,.t 9])] (aS [aM 11 0,aM 12 5,aR 13 (.nilck (.t 12)),aF 14 0 13,aR 15 (.call 44 [.t 14]),aR 16 (.bin .add (.t 11) (.t 15)),aM 4 16] (.ret)))),[.t 4]⟩
theorem h_AppendValue:AX.compFn Tryz.prog 61=some c_AppendValue:=by kernel_rfl
def WP (i:Nat) (ver:Int) (l:List UInt8) (h h':Hp):Prop:=Wt h' i ver l∧h'.t=h.t∧∀ j x,j≠i→h.b[j]?=some x→h'.b[j]?=some x
theorem WP.of {h:Hp} {i:Nat} {ver:Int} {l l':List UInt8} (hw:Wt h i ver l):WP i ver l' h ⟨h.b.set i (wtr ver l'),h.t⟩:=by
 refine ⟨.inl ?_,rfl,fun j x hj hx=>?_⟩
 ·show (List.set _ i _)[i]?=_
  rw [List.getElem?_set,if_pos rfl,if_pos hw.lt]
 ·show (List.set _ i _)[j]?=_
  rw [List.getElem?_set,if_neg (Ne.symm hj)]; exact hx
theorem WP.tr {i:Nat} {ver:Int} {l l':List UInt8} {h h' h'':Hp} (a:WP i ver l h h') (b:WP i ver l' h' h''):WP i ver l' h h'':=
 ⟨b.1,b.2.1.trans a.2.1,fun j x hj hx=>b.2.2 j x hj (a.2.2 j x hj hx)⟩
theorem get_app5 {l m:List Blk} {i:Nat} {x:Blk} (h:l[i]?=some x):(l++m)[i]?=some x:=by
 rw [List.getElem?_append_left (List.getElem?_eq_some_iff.1 h).1]; exact h
theorem set_new5 (l:List Blk) (x y:Blk):(l++[x]).set l.length y=l++[y]:=by
 rw [List.set_append_right _ _ (Nat.le_refl _)]; simp
theorem Wt.app {b:List Blk} {t:_} {i:Nat} {ver:Int} {l:List UInt8} (hw:Wt ⟨b,t⟩ i ver l) (m:List Blk):Wt ⟨b++m,t⟩ i ver l:=by
 rcases hw with h | ⟨h0,h⟩
 ·exact .inl (get_app5 h)
 ·exact .inr ⟨h0,get_app5 h⟩
theorem WP.app {b:List Blk} {t:_} {m:List Blk} {h':Hp} {i:Nat} {ver:Int} {l:List UInt8} (hp:WP i ver l ⟨b++m,t⟩ h'):WP i ver l ⟨b,t⟩ h':=
 ⟨hp.1,hp.2.1,fun j x hj hx=>hp.2.2 j x hj (get_app5 hx)⟩
theorem num_len (n:Int):(Wire.num n).length≤10:=(Wire.encF_len 9 (Wire.zig n)).2
theorem a_wnum {h:Hp} {i:Nat} {ver:Int} {l:List UInt8} (hw:Wt h i ver l) (n:Int) (hlen:l.length+10≤1000000000) (h0:-9223372036854775808≤n) (h1:n≤9223372036854775807) :
  ACall Tryz.prog GT 139 [.ptr i 0,.int .i64 n] h fun u h'=>u = .tup []∧WP i ver (l++Wire.num n) h h':=by
 have hn:=num_len n
 refine acall_of mixedT h_wnum (by simp [c_wnum]) ?_
 dsimp only [c_wnum]
 refine awp_last _ _ ⟨h.b.set i (wtr ver (l++Wire.num n)),h.t⟩ (.tup [.int .i64 (Wire.num n).length,.nili]) (List.dropLast_concat_getLast (l:=_::_) (by simp)).symm (by decide) ?_
 dsimp only [List.dropLast,List.getLast]
 refine go0 ti ?_
 refine gq_call (vs:=[.str [],.int .i64 n]) (r:=.str (Wire.num n)) (by (exact ev0 ti)) ?_ ?_
 ·refine (a_appendNumber [] n (by simp) h0 h1 _).mono ?_
  rintro v h' ⟨rfl,rfl⟩
  exact ⟨by simp,rfl⟩
 refine gq_nil ⟨?_,?_⟩
 ·show ACall _ _ _ _ _ _
  simp only [put_app,put_none,init_app,evX_t,evX_c,resA_nil,resA_t,resA_c,tupA_0,tupA_1,tupA_2,astep,bop,uop,loadA,storeA,appA,ssliceA,eqA,eqCells,fillA,rowsA,setCells,A.cells,A.one,A.data,optP_some,List.all_cons,List.all_nil,Bool.and_true,Bool.true_and,Option.map_some,Option.map_none,Option.bind_some,Option.bind_none,Option.getD_some,Option.getD_none,List.map_cons,List.map_nil,List.getD_cons_zero,List.getD_cons_succ,List.getElem?_cons_zero,List.getElem?_cons_succ,List.length_cons,List.length_nil,List.nil_append,List.cons_append,List.append_nil,List.set_cons_zero,List.set_cons_succ,List.drop_zero,List.drop_succ_cons,List.take_succ_cons,List.take_zero,List.take_nil,List.length_append,List.length_set,Nat.reduceAdd,Nat.reduceSub,Nat.reduceMul,Nat.reduceLeDiff,Nat.reduceEqDiff,Nat.reduceBEq,Int.toNat_natCast,Int.natCast_nonneg,if_true,if_false,reduceIte,ite_true,ite_false,true_and,and_true,ne_eq,not_true_eq_false,not_false_eq_true,Bool.false_eq_true,reduceCtorEq,and_self,Nat.zero_add,Nat.add_zero,Nat.le_refl,Bool.not_true,Bool.not_false,decide_true,decide_false]
  exact a_write hw _ (by omega)
 ·exact go_fn rfl ⟨_,le_refl _,rfl,WP.of hw⟩
theorem a_wtext {h:Hp} {i:Nat} {ver:Int} {l:List UInt8} (hw:Wt h i ver l) (s:List UInt8) (hlen:l.length+s.length+10≤1000000000) :
  ACall Tryz.prog GT 140 [.ptr i 0,.str s] h fun u h'=>u = .tup []∧WP i ver (l++Wire.strE s) h h':=by
 have hn:=num_len s.length
 refine acall_of mixedT h_wtext (by simp [c_wtext]) ?_
 dsimp only [c_wtext]
 refine go0 ti ?_
 refine gc0 ti ?_
 refine (a_wnum hw s.length (by omega) (by omega) (by omega)).mono ?_
 rintro v h' ⟨-,hp⟩
 refine go0 ti ?_
 refine gc0 ti ?_
 refine (a_write hp.1 s (by rw [List.length_append]; omega)).mono ?_
 rintro v h' ⟨rfl,rfl⟩
 refine go_nil (go_fn rfl ⟨_,le_refl _,rfl,?_⟩)
 rw [Wire.strE,←List.append_assoc]
 exact hp.tr (WP.of hp.1)
theorem encs_step (m:Bool) (is:List V) (ks:List (List UInt8)) (j:Nat) (hj:j < is.length):(Val.encs m (is.take j) ks).length+(Val.keyE m (ks.drop j)).length+(Val.enc is[j]).length≤(Val.encs m is ks).length:=by
 have key:∀ d,j+1+d≤is.length→(Val.encs m (is.take (j+1)) ks).length≤(Val.encs m (is.take (j+1+d)) ks).length:=by
  intro d
  induction d with
  | zero=>intro _; exact Nat.le_refl _
  | succ d ihd =>
   intro hd
   have h1:=Val.encs_take m is ks (j+1+d) (by omega)
   have h2:=ihd (by omega)
   have h3:(Val.encs m (is.take (j+1+(d+1))) ks).length=_:=congrArg List.length h1
   rw [List.length_append] at h3
   omega
 have h1:=Val.encs_take m is ks j hj
 have h2:=key (is.length - (j+1)) (by omega)
 rw [show j+1+(is.length - (j+1))=is.length by omega,List.take_length,h1,List.length_append,List.length_append] at h2
 omega
theorem t_value:∀ (v:V) (i:Nat) (ver:Int) (l:List UInt8) (h:Hp),Wt h i ver l→(∃ lv b,(Val.chk v lv b).1=0)→l.length+(Val.enc v).length+10≤1000000000→v.lens→ACall Tryz.prog GT 101 [.ptr i 0,v.A] h fun u h'=>u = .tup []∧WP i ver (l++Val.enc v) h h':=by
 refine V.induct fun k n s is ks ih=>?_
 rintro i ver l ⟨hb,ht⟩ hw ⟨lv,b,hchk⟩ hlen hlens
 refine acall_of mixedT h_wvalue (by simp [c_wvalue]) ?_
 dsimp only [c_wvalue]
 obtain ⟨hil,hkl,_,hmem⟩:=V.lens_mk hlens
 obtain ⟨_,_,hz,hcs⟩:=Val.chk_parts hchk
 obtain ⟨hsh,hn2,hts,hks⟩:=Val.shaped_of hz
 have hs:=Val.text_len hts
 have hkk:=Val.keys_len ks none hks
 unfold Val.shapedB at hsh
 simp only [Bool.and_eq_true,Bool.or_eq_true,decide_eq_true_eq,beq_iff_eq] at hsh
 obtain ⟨⟨⟨⟨⟨hk0,hk6⟩,hnn⟩,_⟩,_⟩,hkn⟩:=hsh
 have hne:¬ (i=hb.length):=by have:=hw.lt; simp at this; omega
 have hE:Val.enc (.mk k n s is ks)=Wire.num k++(if k=1∨k=2 then Wire.num n else if k=3 then Wire.strE s else if k=4∨k=5 then Wire.num is.length++Val.encs (k == 5) is ks else []):=by rw [Val.enc]
 rw [hE] at hlen ⊢
 simp only [List.length_append] at hlen
 refine go0 (ai @V_A @V_cells) ?_
 refine gc0 (ai @V_A @V_cells) ?_
 refine (a_wnum (hw.app _) k (by omega) (by omega) (by omega)).mono ?_
 rintro v0 h1 ⟨-,hp1⟩
 have g1:h1.b[hb.length]?=some (.cells 34 (V.mk k n s is ks).cells):=hp1.2.2 _ _ (Ne.symm hne) List.getElem?_concat_length
 simp only [V.cells] at g1
 have hlk:=num_len k
 by_cases hk12:k=1∨k=2
 ·rw [if_pos hk12] at hlen ⊢
  have hn:-9223372036854775808≤n∧n≤9223372036854775807:=by
   rcases hk12 with rfl | rfl
   ·rcases hnn with (h | h) | h
    ·exact absurd h (by decide)
    ·omega
    ·omega
   ·have:=hn2 rfl; omega
  rcases hk12 with rfl | rfl
  all_goals
   refine go0 g1 ?_
   refine gc0 g1 ?_
   refine (a_wnum hp1.1 n (by rw [List.length_append]; omega) (by omega) (by omega)).mono ?_
   rintro v2 h2 ⟨-,hp2⟩
   refine go0 g1 ?_
   refine ⟨_,le_refl _,rfl,?_⟩
   rw [←List.append_assoc]
   exact (hp1.tr hp2).app
 rw [if_neg hk12] at hlen ⊢
 have e1:(k == 1)=false:=by simp; omega
 have e2:(k == 2)=false:=by simp; omega
 by_cases hk3:k=3
 ·rw [if_pos hk3] at hlen ⊢
  subst hk3
  refine go0 g1 ?_
  refine gc0 g1 ?_
  unfold Wire.strE at hlen
  rw [List.length_append] at hlen
  refine (a_wtext hp1.1 s (by rw [List.length_append]; omega)).mono ?_
  rintro v2 h2 ⟨-,hp2⟩
  refine go0 g1 ?_
  refine ⟨_,le_refl _,rfl,?_⟩
  rw [←List.append_assoc]
  exact (hp1.tr hp2).app
 rw [if_neg hk3] at hlen ⊢
 have e3:(k == 3)=false:=by simp; omega
 by_cases hk45:k=4∨k=5
 ·rw [if_pos hk45] at hlen ⊢
  rw [List.length_append] at hlen
  have hkl5:(k == 5)=true→ks.length=is.length:=fun e=>by
   rw [if_pos (by simpa using e)] at hkn; simpa using hkn
  have hln:=num_len is.length
  have step:∀ (j:Nat) (hj:j < is.length),(Val.encs (k == 5) (is.take j) ks).length+(Val.keyE (k == 5) (ks.drop j)).length+(Val.enc is[j]).length≤(Val.encs (k == 5) is ks).length:=encs_step _ _ _
  have e45:(k == 4)=true∨(k == 4)=false∧(k == 5)=true:=by
   rcases hk45 with rfl | rfl
   ·exact .inl rfl
   ·exact .inr ⟨rfl,rfl⟩
  rcases e45 with e4 | ⟨e4,e5⟩
  all_goals
   refine go0 (ai g1 (ai e1 (ai e2 (ai e3 (ai e4 @V.cellss_length))))) ?_
   try (refine go0 (ai g1 (ai e1 (ai e2 (ai e3 (ai e4 (ai e5 @V.cellss_length)))))) ?_)
   refine gc0 g1 ?_
   refine (a_wnum hp1.1 is.length (by rw [List.length_append]; omega) (by omega) (by omega)).mono ?_
   rintro v2 h2 ⟨-,hp2⟩
   have g2:=hp2.2.2 _ _ (Ne.symm hne) g1
   refine go0 (ai g2 @V.cellss_length) ?_
   refine awp_loop (fun m ts hh=>∃ (j:Nat),m=is.length - j∧j≤is.length∧WP i ver (l++Wire.num k++Wire.num is.length++Val.encs (k == 5) (is.take j) ks) ⟨hb,ht⟩ hh∧hh.b[hb.length]?=some (.cells 34 [.int .i64 k,.int .i64 n,.str s,.sl 5 .no (V.cellss is),.sl 1 .no (strsA ks)])∧ts 0 = .ptr i 0∧ts 3 = .ptr hb.length 0∧ts 34 = .sl 5 .no (V.cellss is)∧ts 35 = .int .i64 is.length∧ts 36 = .int .i64 j) is.length ?_ ?_
   ·refine ⟨0,rfl,Nat.zero_le _,?_,g2,?_⟩
    ·have:=(hp1.tr hp2).app
     simpa [Val.encs] using this
    ·(exact inv0 @V.cellss_length)
   ·rintro m ts hh ⟨j,rfl,hj,hp,g3,t0,t3,t34,t35,t36⟩
    by_cases hlt:j < is.length
    ·have hlt2:(j:Int) < (is.length:Int):=by omega
     have hla:(j:Int) < ((V.cellss is).length:Int):=by rw [V.cellss_length]; omega
     have ei:IntKind.i64.wrap ((j:Int)+1)=(j:Int)+1:=wrap64 (by omega) (by omega)
     have ee:=V.cellss_get is j hlt
     have hst:=step j hlt
     have htk:=Val.encs_take (k == 5) is ks j hlt
     have hcall:=fun (l':List UInt8) (h:Hp) (hw:Wt h i ver l') (hb:l'.length+(Val.enc is[j]).length+10≤1000000000)=>ih is[j] (List.getElem_mem hlt) i ver l' h hw ((Val.chks_get is _ _ hcs j hlt).elim fun b' hb'=>⟨_,b',hb'⟩) hb (hmem _ (List.getElem_mem hlt))
     obtain ⟨⟨k',n',s',is',ks'⟩,hv⟩:∃ x,is[j]=x:=⟨_,rfl⟩
     rw [hv] at ee hcall htk hst
     have hil2:hh.b.length≠i:=fun e=>by have:=hp.1.lt; omega
     have q3:∀ m,(hh.b++m)[hb.length]?=some (.cells 34 [.int .i64 k,.int .i64 n,.str s,.sl 5 .no (V.cellss is),.sl 1 .no (strsA ks)]):=fun m=>get_app5 g3
     rcases bool_or (k == 5) with e5' | e5'
     ·have hkj:j < ks.length:=by rw [hkl5 e5']; exact hlt
      have hlk2:(j:Int) < ((strsA ks).length:Int):=by rw [strsA_length]; omega
      have ek:=strsA_get ks j hkj
      have hke:Val.keyE (k == 5) (ks.drop j)=Wire.strE ks[j]:=by rw [e5',List.drop_eq_getElem_cons hkj]; rfl
      rw [hke] at htk hst
      have hsl:(Wire.strE ks[j]).length=(Wire.num ks[j].length).length+ks[j].length:=by unfold Wire.strE; rw [List.length_append]
      refine go0 (ai @V_cells (ai t0 (ai t3 (ai t34 (ai t35 (ai t36 (ai hla (ai hlt2 (ai ee (ai ei (ai @set_new5 (ai q3 (ai e5' (ai hlk2 ek)))))))))))))) ?_
      refine gc0 (ai t0 (ai t3 (ai t34 (ai t35 t36)))) ?_
      refine (a_wtext (hp.1.app _) ks[j] (by simp only [List.length_append]; omega)).mono ?_
      rintro v3 h3 ⟨-,hp3⟩
      have g4:=hp3.2.2 _ _ (Ne.symm hne) (q3 _)
      have g5:=hp3.2.2 _ _ hil2 List.getElem?_concat_length
      refine go0 (ai t0 (ai t3 (ai t34 (ai t35 (ai t36 (ai g4 g5)))))) ?_
      refine gc0 (ai t0 (ai t3 (ai t34 (ai t35 t36)))) ?_
      refine (hcall _ _ hp3.1 (by simp only [List.length_append]; omega)).mono ?_
      rintro v4 h4 ⟨-,hp4⟩
      have g6:=hp4.2.2 _ _ (Ne.symm hne) g4
      refine go0 (ai t0 (ai t3 (ai t34 (ai t35 (ai t36 ei))))) ?_
      refine ⟨is.length - (j+1),by omega,j+1,rfl,by omega,?_,g6,?_⟩
      ·rw [htk,←List.append_assoc,←List.append_assoc]
       exact hp.tr (hp3.tr hp4).app
      ·(exact inv0 (ai t0 (ai t3 (ai t34 (ai t35 (ai t36 ei))))))
     ·have hke:Val.keyE (k == 5) (ks.drop j)=[]:=by rw [e5']; rfl
      rw [hke] at htk hst
      refine go0 (ai @V_cells (ai t0 (ai t3 (ai t34 (ai t35 (ai t36 (ai hla (ai hlt2 (ai ee (ai ei (ai @set_new5 (ai q3 e5')))))))))))) ?_
      refine gc0 (ai t0 (ai t3 (ai t34 (ai t35 t36)))) ?_
      refine (hcall _ _ (hp.1.app _) (by simp only [List.length_append]; omega)).mono ?_
      rintro v4 h4 ⟨-,hp4⟩
      have g6:=hp4.2.2 _ _ (Ne.symm hne) (q3 _)
      refine go0 (ai t0 (ai t3 (ai t34 (ai t35 (ai t36 ei))))) ?_
      refine ⟨is.length - (j+1),by omega,j+1,rfl,by omega,?_,g6,?_⟩
      ·rw [htk,List.nil_append,←List.append_assoc]
       exact hp.tr hp4.app
      ·(exact inv0 (ai t0 (ai t3 (ai t34 (ai t35 (ai t36 ei))))))
    ·have hlt2:¬ (j:Int) < (is.length:Int):=by omega
     rw [List.take_of_length_le (by omega)] at hp
     refine go0 (ai t0 (ai t3 (ai t34 (ai t35 (ai t36 hlt2))))) ?_
     refine ⟨_,le_refl _,rfl,?_⟩
     rw [←List.append_assoc,←List.append_assoc]
     exact hp
 ·rw [if_neg hk45] at hlen ⊢
  rw [List.append_nil]
  have e4:(k == 4)=false:=by simp; omega
  have e5:(k == 5)=false:=by simp; omega
  refine go0 (ai g1 (ai e1 (ai e2 (ai e3 (ai e4 e5))))) ?_
  exact ⟨_,le_refl _,rfl,hp1.app⟩
theorem enc_ne (v:V):Val.enc v≠[]:=by
 obtain ⟨k,n,s,is,ks⟩:=v
 rw [Val.enc]
 intro h
 have:=(List.append_eq_nil_iff.1 h).1
 unfold Wire.num Wire.encF at this
 split at this <;> simp at this
theorem a_AppendValue (dst:List UInt8) (hd:dst.length≤1000000000) (v:V) (hchk:∃ lv b,(Val.chk v lv b).1=0) (hlen:(Val.enc v).length+10≤1000000000) (hl:v.lens) (h:Hp):ACall Tryz.prog GT 61 [.str dst,v.A] h fun r h'=>r = .str (dst++Val.enc v)∧h'=h:=by
 have ht:=fun (h:Hp) (hw:Wt h 1 0 [])=>(t_value v 1 0 [] h hw hchk (by simpa using hlen) hl).mono fun _ _ h=>h.2
 have hne:=enc_ne v
 obtain ⟨k,n,s,is,ks⟩:=v
 refine pcall ?_ rfl (by simp [V.A,V.cells,A.pure,A.data]) h
 refine acall_of mixedT h_AppendValue (by simp [c_AppendValue]) ?_
 dsimp only [c_AppendValue]
 refine go0 (ai @V_A @V_cells) ?_
 refine gc0 (ai @V_A @V_cells) ?_
 refine (ht _ (.inr ⟨rfl,rfl⟩)).mono ?_
 intro v1 h1 hp
 refine go0 (ai @V_A @V_cells) ?_
 refine gc0 (ai @V_A @V_cells) ?_
 refine (a_wstring hp.1 hne).mono ?_
 rintro v2 h2 ⟨rfl,rfl⟩
 have hsum:dst.length+(Val.enc (.mk k n s is ks)).length < 1099511627776:=by omega
 refine go0 (ai @V_A (ai @V_cells hsum)) ?_
 exact ⟨_,le_refl _,rfl⟩
end AX
namespace Wire
end Wire
namespace Val
end Val
namespace AX
def Gs (E:TypeId) (W lo:Nat) (h:Hp) (rows:List (List A)) (x:A):Prop:=(rows=[]∧x = .sl 0 .nil [])∨∃ t,lo≤t∧x = .sl W (.tok t) rows∧h.t[t]?=some (E,W,rows.length)
theorem Gs.app {E:TypeId} {W lo:Nat} {h:Hp} {rows:List (List A)} {x:A} (hg:Gs E W lo h rows x) (hlo:lo≤h.t.length) (bytes:Nat) (y:List A) (h1:rows.length+1≤1000000000) (h2:bytes≤1000) :
  ∃ x' t',(∀ b,appA ⟨b,h.t⟩ E W bytes x (.sl W .no [y])=some (x',⟨b,t'⟩))∧(∀ b,Gs E W lo ⟨b,t'⟩ (rows++[y]) x')∧(∀ (t:Nat) z,t < lo→h.t[t]?=some z→t'[t]?=some z)∧lo≤t'.length∧∀ (t:Nat) E' W' n,E'≠E→h.t[t]?=some (E',W',n)→t'[t]?=some (E',W',n):=by
 have hb1:(rows.length+1)*bytes≤140737488355328:=Nat.le_trans (Nat.mul_le_mul h1 h2) (by decide)
 have hb2:1*bytes≤140737488355328:=by omega
 rcases hg with ⟨rfl,rfl⟩ | ⟨t,ht,rfl,htt⟩
 ·refine ⟨.sl W (.tok h.t.length) [y],h.t++[(E,W,1)],?_,?_,?_,?_,?_⟩
  ·intro b; exact if_pos (show W=W∧0 < [y].length∧[y].length≤maxLen∧[y].length*bytes≤140737488355328 from ⟨rfl,by simp,by simp [maxLen],by simpa using hb2⟩)
  ·intro b; exact .inr ⟨h.t.length,hlo,rfl,by simp⟩
  ·intro t z _ hz
   rw [List.getElem?_append_left (List.getElem?_eq_some_iff.1 hz).1]; exact hz
  ·simp; omega
  ·intro t E' W' n _ hz
   rw [List.getElem?_append_left (List.getElem?_eq_some_iff.1 hz).1]; exact hz
 ·refine ⟨.sl W (.tok t) (rows++[y]),h.t.set t (E,W,rows.length+1),?_,?_,?_,?_,?_⟩
  ·intro b; exact if_pos (show W=W∧W=W∧0 < [y].length∧h.t[t]?=some (E,W,rows.length)∧rows.length+[y].length≤maxLen∧(rows.length+[y].length)*bytes≤140737488355328 from ⟨rfl,rfl,by simp,htt,by simp [maxLen]; omega,by simpa using hb1⟩)
  ·intro b; refine .inr ⟨t,ht,rfl,?_⟩
   show (h.t.set t _)[t]?=_
   rw [List.getElem?_set,if_pos rfl,if_pos (List.getElem?_eq_some_iff.1 htt).1]; simp
  ·intro t' z hlt hz
   rw [List.getElem?_set,if_neg (by omega)]; exact hz
  ·simpa using hlo
  ·intro t' E' W' n hne hz
   rw [List.getElem?_set,if_neg (fun e=>by subst e; rw [htt] at hz; injection hz with hz; injection hz with hz; exact hne hz.symm)]; exact hz
theorem Gs.sl {E:TypeId} {W lo:Nat} {h:Hp} {rows:List (List A)} {x:A} (hg:Gs E W lo h rows x):∃ W' o,x = .sl W' o rows:=by
 rcases hg with ⟨rfl,rfl⟩ | ⟨t,_,rfl,_⟩ <;> exact ⟨_,_,rfl⟩
theorem Gs.one {E:TypeId} {W lo:Nat} {h:Hp} {rows:List (List A)} {x:A} (hg:Gs E W lo h rows x):x.one=true:=by
 rcases hg with ⟨_,rfl⟩ | ⟨t,_,rfl,_⟩ <;> rfl
theorem Gs.le {E:TypeId} {W lo:Nat} {h:Hp} {rows:List (List A)} {x:A} (hg:Gs E W lo h rows x):le1 x (.sl W .no rows):=by
 rcases hg with ⟨rfl,rfl⟩ | ⟨t,_,rfl,_⟩ <;> simp [le1]
theorem Gs.keep {E:TypeId} {W lo:Nat} {h h':Hp} {rows:List (List A)} {x:A} (hg:Gs E W lo h rows x) (hk:∀ (t:Nat) n,h.t[t]?=some (E,W,n)→h'.t[t]?=some (E,W,n)):Gs E W lo h' rows x:=by
 rcases hg with h1 | ⟨t,h1,h2,h3⟩
 ·exact .inl h1
 ·exact .inr ⟨t,h1,h2,hk _ _ h3⟩
theorem V.cells_data (v:V):v.cells.all A.data=true:=by
 obtain ⟨k,n,s,is,ks⟩:=v
 rfl
end AX
namespace Val
end Val
namespace AX
end AX
namespace Wire
end Wire
namespace Val
end Val
namespace AX
theorem Gs.grow {E:TypeId} {W:Nat} {t:List (TypeId×Nat×Nat)} {W1:Nat} {o1:Own} {rows:List (List A)} (hg:Gs E W 0 ⟨[],t⟩ rows (.sl W1 o1 rows)) (bytes:Nat) (y:List A) (h1:rows.length+1≤1000000000) (h2:bytes≤1000) :
  ∃ W' o' t',(∀ b,appA ⟨b,t⟩ E W bytes (.sl W1 o1 rows) (.sl W .no [y])=some (.sl W' o' (rows++[y]),⟨b,t'⟩))∧Gs E W 0 ⟨[],t'⟩ (rows++[y]) (.sl W' o' (rows++[y]))∧(∀ (E':TypeId) (W':Nat) (rows':List (List A)) (x'':A),E'≠E→Gs E' W' 0 ⟨[],t⟩ rows' x''→Gs E' W' 0 ⟨[],t'⟩ rows' x''):=by
 obtain ⟨x',t',k1,k2,k3,k4,k5⟩:=hg.app (Nat.zero_le _) bytes y h1 h2
 obtain ⟨W',o',rfl⟩:=(k2 []).sl
 exact ⟨W',o',t',k1,k2 [],fun E' W' rows' x'' hne hg'=>Gs.keep hg' fun k n hh=>k5 k _ _ _ hne hh⟩
end AX
end Go.Proofs.YtahmpiioegemaaaGreatDoor

namespace Go.Proofs.YtahmpiioegemaaaGreatDoor
namespace Sf
structure Rs where
 r:Wire.St
 bad:Bool
def Rs.fails (s:Rs):Bool:=s.bad||s.r.e != 0
def numS (s:Rs):Rs×Int:=(⟨(Wire.numR s.r).1,s.bad⟩,(Wire.numR s.r).2)
def strS (s:Rs):Rs×List UInt8:=(⟨(Wire.strR s.r).1,s.bad⟩,(Wire.strR s.r).2)
def cntS (s:Rs):Rs×Nat:=(⟨(Wire.cntR s.r 1).1,s.bad⟩,(Wire.cntR s.r 1).2)
def flagS (s:Rs):Rs×Bool:=
 let q:=Wire.numR s.r
 (⟨q.1,s.bad||(q.2 != 0&&q.2 != 1)⟩,q.2 == 1)
def valueS (s:Rs):Rs×V:=
 let x:=Val.readValue s.r
 (⟨x.1,s.bad||x.2.1 != 0⟩,x.2.2)
def wordsS:Nat→Rs→List (List UInt8)→Rs×List (List UInt8)
 | 0,s,l=>(s,l)
 | c+1,s,l=>wordsS c (strS s).1 (l++[(strS s).2])
def instS (ver:Int) (s:Rs):Rs×Inst:=
 let a:=strS s
 let b:=strS a.1
 let c:=strS b.1
 let d:=strS c.1
 let v:=valueS d.1
 let n:=numS v.1
 let t:=flagS n.1
 let f:=if ver=2 then flagS t.1 else (t.1,false)
 let k:=cntS f.1
 let w:=wordsS k.2 k.1 []
 (w.1,⟨a.2,b.2,c.2,d.2,v.2,n.2,t.2,f.2,w.2⟩)
def pendS (s:Rs):Rs×Pend:=
 let a:=strS s
 let b:=strS a.1
 let c:=strS b.1
 (c.1,⟨a.2,b.2,c.2⟩)
def outS (s:Rs):Rs×Outp:=
 let a:=strS s
 let v:=valueS a.1
 let f:=flagS v.1
 (f.1,⟨a.2,v.2,f.2⟩)
def instsS (ver:Int):Nat→Rs→List Inst→Rs×List Inst×Bool
 | 0,s,l=>(s,l,true)
 | c+1,s,l=>if s.fails then (s,l,false) else instsS ver c (instS ver s).1 (l++[(instS ver s).2])
def pendsS:Nat→Rs→List Pend→Rs×List Pend
 | 0,s,l=>(s,l)
 | c+1,s,l=>pendsS c (pendS s).1 (l++[(pendS s).2])
def outsS:Nat→Rs→List Outp→Rs×List Outp×Bool
 | 0,s,l=>(s,l,true)
 | c+1,s,l=>if s.fails then (s,l,false) else outsS c (outS s).1 (l++[(outS s).2])
def stateS (ver:Int) (s:Rs):Rs×St:=
 let a:=strS s
 let n:=numS a.1
 let ci:=cntS n.1
 let i:=instsS ver ci.2 ci.1 []
 if i.2.2=false then (i.1,⟨a.2,n.2,i.2.1,[],[]⟩)
 else
  let p:=if ver=2 then pendsS (cntS i.1).2 (cntS i.1).1 [] else (i.1,[])
  let co:=cntS p.1
  let o:=outsS co.2 co.1 []
  (o.1,⟨a.2,n.2,i.2.1,p.2,o.2.1⟩)
end Sf
end Go.Proofs.YtahmpiioegemaaaGreatDoor

namespace Go.Proofs.YtahmpiioegemaaaGreatDoor
open Go.RowKit
namespace Sf
def Inst.cells:Inst→List AX.A
 | ⟨a,d,i,t,.mk k n s is ks,v,tn,fi,ds⟩=>[.str a,.str d,.str i,.str t,.int .i64 k,.int .i64 n,.str s,.sl 5 .no (V.cellss is),.sl 1 .no (strsA ks),.int .i64 v,.bool tn,.bool fi,.sl 1 .no (strsA ds)]
def Pend.cells (p:Pend):List AX.A:=[.str p.addr,.str p.typ,.str p.tok]
def Outp.cells:Outp→List AX.A
 | ⟨m,.mk k n s is ks,b⟩=>[.str m,.int .i64 k,.int .i64 n,.str s,.sl 5 .no (V.cellss is),.sl 1 .no (strsA ks),.bool b]
def St.A (s:St):AX.A:=.agg [.str s.lin,.int .i64 s.ser,.sl 13 .no (s.insts.map Inst.cells),.sl 3 .no (s.pends.map Pend.cells),.sl 7 .no (s.outs.map Outp.cells)]
end Sf
namespace Val
end Val
namespace Sf
end Sf
namespace AX
end AX
structure Jr where
 kind:Int
 base:Sf.St
 step:Int
 op:Int
 addr:List UInt8
 dep:List UInt8
 typ:List UInt8
 tok:List UInt8
 err:Int
 after:Sf.Inst
namespace Jr
def shortB (l:List (List UInt8)):Bool:=l.all fun s=>decide ((s.length:Int)≤4096)
def zeroV:V→Bool
 | .mk k n s is ks=>k == 0&&n == 0&&s == []&&(is.length:Int) == 0&&(ks.length:Int) == 0
def noneB (x:Sf.Inst):Bool:=zeroV x.attrs&&x.addr == []&&x.dep == []&&x.id == []&&x.typ == []&&x.ver == 0&&!x.tainted&&!x.first&&(x.deps.length:Int) == 0
def emptyB (s:Sf.St):Bool:=s.lin == []&&s.ser == 0&&(s.insts.length:Int) == 0&&(s.pends.length:Int) == 0&&(s.outs.length:Int) == 0
def instB (x:Sf.Inst):Bool:=shortB [x.addr,x.dep,x.id,x.typ]&&shortB x.deps&&decide ((x.deps.length:Int)≤512)&&Val.checkZ x.attrs == 0&&decide (x.ver≥0)&&decide (x.ver≤9007199254740992)
def stepB (r:Jr):Bool:=decide (r.step≥0)&&decide (r.step < 2048)&&decide (r.op≥1)&&decide (r.op≤4)&&shortB [r.addr,r.dep,r.typ]
def bareB (r:Jr):Bool:=r.step == 0&&r.op == 0&&r.addr == []&&r.dep == []&&r.typ == []
def makesB (op:Int):Bool:=op == 1||op == 2
def afterB (r:Jr):Bool:=noneB r.after||makesB r.op&&instB r.after
def badB (r:Jr):Bool:=r.kind != 1&&!emptyB r.base||r.kind != 2&&r.tok != []||r.kind != 4&&r.err != 0
def validB (r:Jr):Bool:=
 if badB r=true then false
 else if r.kind=1∨r.kind=5 then bareB r&&noneB r.after
 else if r.kind=2 then stepB r&&noneB r.after&&shortB [r.tok]&&(r.op == 1||r.tok == [])
 else if r.kind=3 then stepB r&&afterB r
 else if r.kind=4 then stepB r&&afterB r&&decide (r.err≥1)&&decide (r.err≤42)
 else false
def cells (r:Jr):List AX.A:=
 [.int .i64 r.kind,.str r.base.lin,.int .i64 r.base.ser,.sl 13 .no (r.base.insts.map Sf.Inst.cells),.sl 3 .no (r.base.pends.map Sf.Pend.cells),.sl 7 .no (r.base.outs.map Sf.Outp.cells),.int .i64 r.step,.int .i64 r.op,.str r.addr,.str r.dep,.str r.typ,.str r.tok,.int .i64 r.err]++Sf.Inst.cells r.after
end Jr
namespace AX
theorem rowj_at {α:Type} (f:α→List A) (l:List α) (i:Nat) (h:i < l.length) (hl:l.length≤4611686018427387904) :
  (l.map f).length=l.length∧(i:Int) < (l.length:Int)∧(0:Int)≤(i:Int)∧(l.map f).getD i []=f l[i]∧IntKind.i64.wrap ((i:Int)+1)=((i+1:Nat):Int):=
 ⟨List.length_map _,by omega,by omega,by simp [List.getD,h],by rw [wrap64 (by omega) (by omega)]; omega⟩
end AX
def gfind {α:Type} (n:Int):List (Int×α)→Option α
 | []=>none
 | (k,x)::l=>if n=k then some x else gfind n l
def gput {α:Type} (n:Int) (x:α):List (Int×α)→List (Int×α)
 | []=>[(n,x)]
 | (k,y)::l=>if n=k then (n,x)::l else (k,y)::gput n x l
section
variable {α:Type} (f:α→AX.A) (n:Int)
end
structure Fo where
 n:Int
 ended:Bool
 ints:List (Int×Jr)
 ress:List (Int×Bool)
 c1:Nat
 c2:Nat
namespace Fo
def next (f:Fo) (r:Jr):Bool×Fo:=
 let f1:Fo:={ f with n:=IntKind.i64.wrap (f.n+1) }
 if (f.ended||!((f.n == 0) == (r.kind == 1)))=true then (false,f1)
 else if r.kind=2 then (!(gfind r.step f.ints).isSome,{ f1 with ints:=gput r.step r f.ints,c1:=if (gfind r.step f.ints).isSome=true then f.c1 else f.c1+1 })
 else if r.kind=3∨r.kind=4 then
  ((match gfind r.step f.ints with
   | some i=>!((gfind r.step f.ress).getD false)&&i.op == r.op&&i.addr == r.addr&&i.typ == r.typ
   | none=>false),{ f1 with ress:=gput r.step true f.ress,c2:=if (gfind r.step f.ress).isSome=true then f.c2 else f.c2+1 })
 else if r.kind=5 then ((f.ints.length:Int) == (f.ress.length:Int),{ f1 with ended:=true })
 else (true,f1)
def check:Fo→List Jr→Int
 | _,[]=>0
 | f,r::l=>if (!r.validB||(r.kind == 1&&Sf.checkZ r.base != 0))=true then 1 else if (f.next r).1=true then check (f.next r).2 l else 38
end Fo
namespace Jr
end Jr
end Go.Proofs.YtahmpiioegemaaaGreatDoor

namespace Go.Proofs.YtahmpiioegemaaaGreatDoor
open Go.RowKit
namespace AX
def c_hasPrefix:AX.AFn:=⟨8,aS [aR 4 (.mv (.c (.bool false)))] (aS [aM 5 0,aM 6 1,aR 7 (.call 182 [.t 5,.t 6]),aM 4 7] (.ret)),[.t 4]⟩
theorem h_hasPrefix:AX.compFn Tryz.prog 147=some c_hasPrefix:=by kernel_rfl
def c_liteHasPrefix:AX.AFn:=⟨18,aS [aR 4 (.mv (.c (.bool false)))] (aS [aM 5 0,aR 6 (.len true (.t 5)),aM 7 1,aR 8 (.len true (.t 7)),aR 9 (.bin .geq (.t 6) (.t 8)),aM 10 9,aG 11 (.mv (.t 0)) 10 true,aG 12 (.mv (.t 1)) 10 true,aG 13 (.len true (.t 12)) 10 true,aG 14 (.ssl (.t 11) none (some (.t 13))) 10 true,aG 15 (.mv (.t 1)) 10 true,aG 16 (.bin .eql (.t 14) (.t 15)) 10 true,aR 17 (.pick (.t 10) (.t 16) (.c (.bool false))),aM 4 17] (.ret)),[.t 4]⟩
theorem h_liteHasPrefix:AX.compFn Tryz.prog 182=some c_liteHasPrefix:=by kernel_rfl
theorem a_liteHasPrefix (s p:List UInt8) (h:Hp):ACall Tryz.prog GT 182 [.str s,.str p] h fun r h'=>r = .bool (decide (p.length≤s.length)&&s.take p.length == p)∧h'=h:=by
 refine pcall ?_ rfl (by simp [A.pure,A.data]) h
 refine acall_of mixedT h_liteHasPrefix (by simp [c_liteHasPrefix]) ?_
 dsimp only [c_liteHasPrefix]
 by_cases hl:p.length≤s.length
 ·have h1:(s.length:Int)≥(p.length:Int):=by omega
  have h2:(p.length:Int)≤(s.length:Int):=by omega
  refine go0 (ai h1 h2) ?_
  exact ⟨_,le_refl _,by rw [tupA_1,decide_eq_true hl]; rfl⟩
 ·have h1:¬ (s.length:Int)≥(p.length:Int):=by omega
  refine go0 h1 ?_
  exact ⟨_,le_refl _,by rw [tupA_1,decide_eq_false hl]; rfl⟩
theorem a_hasPrefix (s p:List UInt8) (h:Hp):ACall Tryz.prog GT 147 [.str s,.str p] h fun r h'=>r = .bool (decide (p.length≤s.length)&&s.take p.length == p)∧h'=h:=by
 refine pcall ?_ rfl (by simp [A.pure,A.data]) h
 refine acall_of mixedT h_hasPrefix (by simp [c_hasPrefix]) ?_
 dsimp only [c_hasPrefix]
 refine go0 ti ?_
 refine gc0 ti ?_
 refine (a_liteHasPrefix s p _).mono ?_
 rintro v h1 ⟨rfl,rfl⟩
 refine go0 ti ?_
 exact ⟨_,le_refl _,rfl⟩
def magic:List UInt8:=[80,86,83,84]
def preB (s:List UInt8):Bool:=decide (magic.length≤s.length)&&s.take magic.length == magic
def versionS (s:List UInt8):Int×Int:=
 if preB s=false then (0,2) else
 let r:=Wire.numR ⟨s.drop 4,0⟩
 if r.1.e≠0 then (0,2) else if r.2≠1∧r.2≠2 then (0,21) else (r.2,0)
def c_wstate:AX.AFn:=⟨99,aS [aR 3 (.box 27 (.t 1))] (aS [aM 10 0,aR 11 (.nilck (.t 10)),aF 12 0 11,aR 13 (.call 43 [.t 12,.c (.str [80,86,83,84])])] (aS [aM 14 0,aM 15 0,aR 16 (.nilck (.t 15)),aF 17 2 16,aL 18 17,aR 19 (.call 139 [.t 14,.t 18])] (aS [aM 20 0,aF 21 0 3,aL 22 21,aR 23 (.call 140 [.t 20,.t 22])] (aS [aM 24 0,aF 25 1 3,aL 26 25,aR 27 (.call 139 [.t 24,.t 26])] (aS [aM 28 0,aF 29 2 3,aL 30 29,aR 31 (.len false (.t 30)),aR 32 (.call 139 [.t 28,.t 31])] (.seq (aS [aF 33 2 3,aL 34 33,aR 35 (.len false (.t 34)),aR 36 (.mv (aI 0))] (.block 0 (.loop (aS [aR 37 (.bin .lss (.t 36) (.t 35))] (.seq (.cond (.t 37) (.skip) (.exit 0)) (.seq (.block 1 (aS [aR 38 (.iaddr 13 (.t 34) (.t 36)),aR 39 (.load true 13 (.t 38)),aR 5 (.alloc 36 [.str [],.str [],.str [],.str [],.int .i64 0,.int .i64 0,.str [],.sl 0 .nil [],.sl 0 .nil [],.int .i64 0,.bool false,.bool false,.sl 0 .nil []]),aU (.store 13 (.t 5) (.t 39))] (.reg false [aM 40 0,aR 41 (.load true 13 (.t 5)),aR 42 (.call 141 [.t 40,.t 41])]))) (.reg false [aR 43 (.bin .add (.t 36) (aI 1)),aM 36 43]))))))) (.seq (aS [aM 44 0,aR 45 (.nilck (.t 44)),aF 46 2 45,aL 47 46,aR 48 (.bin .eql (.t 47) (aI 2))] (.cond (.t 48) (aS [aM 49 0,aF 50 3 3,aL 51 50,aR 52 (.len false (.t 51)),aR 53 (.call 139 [.t 49,.t 52])] (aS [aF 54 3 3,aL 55 54,aR 56 (.len false (.t 55)),aR 57 (.mv (aI 0))] (.block 2 (.loop (aS [aR 58 (.bin .lss (.t 57) (.t 56))] (.seq (.cond (.t 58) (.skip) (.exit 2)) (.seq (.block 3 (aS [aR 59 (.iaddr 3 (.t 55) (.t 57)),aR 60 (.load true 3 (.t 59)),aR 7 (.alloc 140 [.str [],.str [],.str []]),aU (.store 3 (.t 7) (.t 60))] (aS [aM 61 0,aF 62 0 7,aL 63 62,aR 64 (.call 140 [.t 61,.t 63])] (aS [aM 65 0,aF 66 1 7,aL 67 66,aR 68 (.call 140 [.t 65,.t 67])] (.reg false [aM 69 0,aF 70 2 7,aL 71 70,aR 72 (.call 140 [.t 69,.t 71])]))))) (.reg false [aR 73 (.bin .add (.t 57) (aI 1)),aM 57 73])))))))) (.skip))) (aS [aM 74 0,aF 75 4 3,aL 76 75,aR 77 (.len false (.t 76)),aR 78 (.call 139 [.t 74,.t 77])] (aS [aF 79 4 3,aL 80 79,aR 81 (.len false (.t 80)),aR 82 (.mv (aI 0))] (.block 4 (.loop (aS [aR 83 (.bin .lss (.t 82) (.t 81))] (.seq (.cond (.t 83) (.skip) (.exit 4)) (.seq (.block 5 (aS [aR 84 (.iaddr 7 (.t 80) (.t 82)),aR 85 (.load true 7 (.t 84)),aR 9 (.alloc 95 [.str [],.int .i64 0,.int .i64 0,.str [],.sl 0 .nil [],.sl 0 .nil [],.bool false]),aU (.store 7 (.t 9) (.t 85))] (aS [aM 86 0,aF 87 0 9,aL 88 87,aR 89 (.call 140 [.t 86,.t 88])] (aS [aM 90 0,aF 91 1 9,aR 92 (.load true 5 (.t 91)),aR 93 (.call 101 [.t 90,.t 92])] (.reg false [aM 94 0,aF 95 6 9,aL 96 95,aR 97 (.call 142 [.t 94,.t 96])]))))) (.reg false [aR 98 (.bin .add (.t 82) (aI 1)),aM 82 98]))))))))))))))),[]⟩
theorem h_wstate:AX.compFn Tryz.prog 100=some c_wstate:=by kernel_rfl
theorem go_once {P:Program} {G:World→Prop} {c:ACode} {Q:AExit→Ts→Hp→Prop} {ts:Ts} {h:Hp} (k:awp P G c (thenA (fun _ _=>False) Q) ts h):awp P G (.loop c) Q ts h:=⟨1,k⟩
theorem WP.bx {i:Nat} {ver:Int} {l:List UInt8} {h h':Hp} (hp:WP i ver l h h') (h0:l≠[]):h'.b[i]?=some (wtr ver l):=by
 rcases hp.1 with h1 | ⟨h1,_⟩
 ·exact h1
 ·exact absurd h1 h0
end AX
end Go.Proofs.YtahmpiioegemaaaGreatDoor
