/- Part of what the proof needs. -/
import Derived.Test.YtahmpiioegemaaaGreatDoorMFrJournalRecordsUptoL
import Derived.Test.YtahmpiioegemaaaGreatDoorMFrJournalRecordsUptoM
import Derived.Test.YtahmpiioegemaaaGreatDoorMFrJournalRecordsUptoO
import Derived.Test.YtahmpiioegemaaaGreatDoorMFrJournalRecordsUptoP
import Derived.Test.YtahmpiioegemaaaGreatDoorMFrJournalRecordsUptoQ
import Derived.Test.YtahmpiioegemaaaGreatDoorMFrJournalRecordsUptoR
import Derived.Test.YtahmpiioegemaaaGreatDoorMFrJournalRecordsUptoT
set_option maxHeartbeats 4000000
set_option linter.unusedSimpArgs false
set_option linter.unusedVariables false
set_option linter.unnecessarySimpa false
namespace Go.Proofs.YtahmpiioegemaaaGreatDoor
open Go.RowKit
namespace AX
def c_qnone:AX.AFn:=⟨48,aS [aR 1 (.box 36 (.t 0)),aR 2 (.mv (.c (.bool false)))] (aS [aF 3 0 1,aL 4 3,aR 5 (.bin .eql (.t 4) (.c (.str []))),aM 6 5,aG 7 (.faddr 1 (.t 1)) 6 true,aG 8 (.load false 1 (.t 7)) 6 true,aG 9 (.bin .eql (.t 8) (.c (.str []))) 6 true,aR 10 (.pick (.t 6) (.t 9) (.c (.bool false))),aM 11 10,aG 12 (.faddr 2 (.t 1)) 11 true,aG 13 (.load false 1 (.t 12)) 11 true,aG 14 (.bin .eql (.t 13) (.c (.str []))) 11 true,aR 15 (.pick (.t 11) (.t 14) (.c (.bool false))),aM 16 15,aG 17 (.faddr 3 (.t 1)) 16 true,aG 18 (.load false 1 (.t 17)) 16 true,aG 19 (.bin .eql (.t 18) (.c (.str []))) 16 true,aR 20 (.pick (.t 16) (.t 19) (.c (.bool false))),aM 21 20,aG 22 (.faddr 4 (.t 1)) 21 true,aG 23 (.load true 5 (.t 22)) 21 true,aG 24 (.build [.int .i64 0,.int .i64 0,.str [],.sl 0 .nil [],.sl 0 .nil []] []) 21 true,aG 25 (.call 103 [.t 23,.t 24]) 21 true,aR 26 (.pick (.t 21) (.t 25) (.c (.bool false))),aM 27 26,aG 28 (.faddr 9 (.t 1)) 27 true,aG 29 (.load false 1 (.t 28)) 27 true,aG 30 (.bin .eql (.t 29) (aI 0)) 27 true,aR 31 (.pick (.t 27) (.t 30) (.c (.bool false))),aM 32 31,aG 33 (.faddr 10 (.t 1)) 32 true,aG 34 (.load false 1 (.t 33)) 32 true,aG 35 (.un .not (.t 34)) 32 true,aR 36 (.pick (.t 32) (.t 35) (.c (.bool false))),aM 37 36,aG 38 (.faddr 11 (.t 1)) 37 true,aG 39 (.load false 1 (.t 38)) 37 true,aG 40 (.un .not (.t 39)) 37 true,aR 41 (.pick (.t 37) (.t 40) (.c (.bool false))),aM 42 41,aG 43 (.faddr 12 (.t 1)) 42 true,aG 44 (.load false 1 (.t 43)) 42 true,aG 45 (.len false (.t 44)) 42 true,aG 46 (.bin .eql (.t 45) (aI 0)) 42 true,aR 47 (.pick (.t 42) (.t 46) (.c (.bool false))),aM 2 47] (.ret)),[.t 2]⟩
theorem h_qnone:AX.compFn Tryz.prog 66=some c_qnone:=by kernel_rfl
def c_qempty:AX.AFn:=⟨25,aS [aR 1 (.box 27 (.t 0)),aR 2 (.mv (.c (.bool false)))] (aS [aF 3 0 1,aL 4 3,aR 5 (.bin .eql (.t 4) (.c (.str []))),aM 6 5,aG 7 (.faddr 1 (.t 1)) 6 true,aG 8 (.load false 1 (.t 7)) 6 true,aG 9 (.bin .eql (.t 8) (aI 0)) 6 true,aR 10 (.pick (.t 6) (.t 9) (.c (.bool false))),aM 11 10,aG 12 (.faddr 2 (.t 1)) 11 true,aG 13 (.load false 1 (.t 12)) 11 true,aG 14 (.len false (.t 13)) 11 true,aG 15 (.faddr 3 (.t 1)) 11 true,aG 16 (.load false 1 (.t 15)) 11 true,aG 17 (.len false (.t 16)) 11 true,aG 18 (.bin .add (.t 14) (.t 17)) 11 true,aG 19 (.faddr 4 (.t 1)) 11 true,aG 20 (.load false 1 (.t 19)) 11 true,aG 21 (.len false (.t 20)) 11 true,aG 22 (.bin .add (.t 18) (.t 21)) 11 true,aG 23 (.bin .eql (.t 22) (aI 0)) 11 true,aR 24 (.pick (.t 11) (.t 23) (.c (.bool false))),aM 2 24] (.ret)),[.t 2]⟩
theorem h_qempty:AX.compFn Tryz.prog 67=some c_qempty:=by kernel_rfl
def c_qshort:AX.AFn:=⟨16,aS [aR 2 (.mv (.c (.bool false)))] (.seq (aS [aR 3 (.mv (aI 0))] (.block 0 (.loop (.seq (aS [aM 4 3,aM 5 0,aR 6 (.len false (.t 5)),aR 7 (.bin .lss (.t 4) (.t 6))] (.cond (.t 7) (.skip) (.exit 0))) (.seq (.block 1 (aS [aM 10 0,aM 11 3,aR 12 (.iaddr 1 (.t 10) (.t 11)),aL 13 12,aR 14 (.len true (.t 13)),aR 15 (.bin .gtr (.t 14) (aI 4096))] (.cond (.t 15) (aS [aR 2 (.mv (.c (.bool false)))] (.ret)) (.skip)))) (.reg false [aM 8 3,aR 9 (.bin .add (.t 8) (aI 1)),aM 3 9])))))) (aS [aR 2 (.mv (.c (.bool true)))] (.ret))),[.t 2]⟩
theorem h_qshort:AX.compFn Tryz.prog 104=some c_qshort:=by kernel_rfl
def c_qinst:AX.AFn:=⟨40,aS [aR 1 (.box 36 (.t 0)),aR 2 (.mv (.c (.bool false)))] (aS [aF 3 0 1,aL 4 3,aF 5 1 1,aL 6 5,aF 7 2 1,aL 8 7,aF 9 3 1,aL 10 9,aR 11 (.mks 1 [.t 4,.t 6,.t 8,.t 10]),aR 12 (.call 104 [.t 11]),aM 13 12,aG 14 (.faddr 12 (.t 1)) 13 true,aG 15 (.load false 1 (.t 14)) 13 true,aG 16 (.call 104 [.t 15]) 13 true,aR 17 (.pick (.t 13) (.t 16) (.c (.bool false))),aM 18 17,aG 19 (.faddr 12 (.t 1)) 18 true,aG 20 (.load false 1 (.t 19)) 18 true,aG 21 (.len false (.t 20)) 18 true,aG 22 (.bin .leq (.t 21) (aI 512)) 18 true,aR 23 (.pick (.t 18) (.t 22) (.c (.bool false))),aM 24 23,aG 25 (.faddr 4 (.t 1)) 24 true,aG 26 (.load true 5 (.t 25)) 24 true,aG 27 (.call 105 [.t 26]) 24 true,aG 28 (.bin .eql (.t 27) (aI 0)) 24 true,aR 29 (.pick (.t 24) (.t 28) (.c (.bool false))),aM 30 29,aG 31 (.faddr 9 (.t 1)) 30 true,aG 32 (.load false 1 (.t 31)) 30 true,aG 33 (.bin .geq (.t 32) (aI 0)) 30 true,aR 34 (.pick (.t 30) (.t 33) (.c (.bool false))),aM 35 34,aG 36 (.faddr 9 (.t 1)) 35 true,aG 37 (.load false 1 (.t 36)) 35 true,aG 38 (.bin .leq (.t 37) (aI 9007199254740992)) 35 true,aR 39 (.pick (.t 35) (.t 38) (.c (.bool false))),aM 2 39] (.ret)),[.t 2]⟩
theorem h_qinst:AX.compFn Tryz.prog 69=some c_qinst:=by kernel_rfl
def c_qstep:AX.AFn:=⟨38,aS [aR 1 (.box 38 (.t 0)),aR 2 (.mv (.c (.bool false)))] (aS [aF 3 1 1,aR 4 (.load true 5 (.t 3)),aR 5 (.call 67 [.t 4]),aM 6 5,aG 7 (.faddr 6 (.t 1)) 6 true,aG 8 (.load false 1 (.t 7)) 6 true,aG 9 (.bin .geq (.t 8) (aI 0)) 6 true,aR 10 (.pick (.t 6) (.t 9) (.c (.bool false))),aM 11 10,aG 12 (.faddr 6 (.t 1)) 11 true,aG 13 (.load false 1 (.t 12)) 11 true,aG 14 (.bin .lss (.t 13) (aI 2048)) 11 true,aR 15 (.pick (.t 11) (.t 14) (.c (.bool false))),aM 16 15,aG 17 (.faddr 7 (.t 1)) 16 true,aG 18 (.load false 1 (.t 17)) 16 true,aG 19 (.bin .geq (.t 18) (aI 1)) 16 true,aR 20 (.pick (.t 16) (.t 19) (.c (.bool false))),aM 21 20,aG 22 (.faddr 7 (.t 1)) 21 true,aG 23 (.load false 1 (.t 22)) 21 true,aG 24 (.bin .leq (.t 23) (aI 4)) 21 true,aR 25 (.pick (.t 21) (.t 24) (.c (.bool false))),aM 26 25,aG 27 (.faddr 8 (.t 1)) 26 true,aG 28 (.load false 1 (.t 27)) 26 true,aG 29 (.faddr 9 (.t 1)) 26 true,aG 30 (.load false 1 (.t 29)) 26 true,aG 31 (.faddr 10 (.t 1)) 26 true,aG 32 (.load false 1 (.t 31)) 26 true,aG 33 (.faddr 11 (.t 1)) 26 true,aG 34 (.load false 1 (.t 33)) 26 true,aG 35 (.mks 1 [.t 28,.t 30,.t 32,.t 34]) 26 true,aG 36 (.call 104 [.t 35]) 26 true,aR 37 (.pick (.t 26) (.t 36) (.c (.bool false))),aM 2 37] (.ret)),[.t 2]⟩
theorem h_qstep:AX.compFn Tryz.prog 68=some c_qstep:=by kernel_rfl
theorem le_z7 (v:V):leL2 [v.A,.agg [.int .i64 0,.int .i64 0,.str [],.sl 0 .nil [],.sl 0 .nil []]] [v.A,(V.mk 0 0 [] [] []).A]:=by
 refine ⟨le2_refl _,?_,trivial⟩
 simp [le,leL2,le2,leL,le1,V.A,V.cells,V.cellss,strsA]
theorem z7_lens:(V.mk 0 0 [] [] []).lens:=by
 unfold V.lens
 simp [V.lensS]
theorem a_qnone (x:Sf.Inst) (hl:x.attrs.lens) (hd:x.deps.length≤1000000000) (h:Hp):ACall Tryz.prog GT 66 [.agg (Sf.Inst.cells x)] h fun r h'=>r = .bool (Jr.noneR x)∧h'=h:=by
 have ce:=fun h=>ACall.args (le_z7 x.attrs) (t_rEqual x.attrs (.mk 0 0 [] [] []) hl z7_lens h)
 unfold Jr.noneR
 obtain ⟨E,hE⟩:∃ E,Val.eqB x.attrs (.mk 0 0 [] [] [])=E:=⟨_,rfl⟩
 rw [hE]
 simp only [hE] at ce
 clear hE hl
 obtain ⟨a,d,i,t,⟨k,n,s,is,ks⟩,v,tn,fi,ds⟩:=x
 simp only [Sf.Inst.cells,V.A,V.cells] at ce hd ⊢
 have l3:=strsA_length ds
 refine pcall ?_ rfl (by simp [A.pure,A.data]) h
 refine acall_of mixedT h_qnone (by simp [c_qnone]) ?_
 dsimp only [c_qnone]
 refine runx0 l3 (ai ce ti) ?_
 exact ⟨_,le_refl _,rfl⟩
theorem a_qempty (s:Sf.St) (hin:Sf.StIn s) (h:Hp):ACall Tryz.prog GT 67 [s.A] h fun r h'=>r = .bool (Jr.emptyR s)∧h'=h:=by
 obtain ⟨lin,ser,ins,ps,os⟩:=s
 obtain ⟨hl,hi,hp,ho,hni,hnp,hno⟩:=hin
 dsimp only at hni hnp hno
 have l1:(ins.map Sf.Inst.cells).length=ins.length:=List.length_map _
 have l2:(ps.map Sf.Pend.cells).length=ps.length:=List.length_map _
 have l3:(os.map Sf.Outp.cells).length=os.length:=List.length_map _
 have w1:IntKind.i64.wrap ((ins.length:Int)+(ps.length:Int))=(ins.length:Int)+(ps.length:Int):=wrap64 (by omega) (by omega)
 have w2:IntKind.i64.wrap ((ins.length:Int)+(ps.length:Int)+(os.length:Int))=(ins.length:Int)+(ps.length:Int)+(os.length:Int):=wrap64 (by omega) (by omega)
 unfold Sf.St.A Jr.emptyR
 dsimp only
 refine pcall ?_ rfl (by simp [A.pure,A.data]) h
 refine acall_of mixedT h_qempty (by simp [c_qempty]) ?_
 dsimp only [c_qempty]
 refine runx0 (ai l1 (ai l2 (ai l3 (ai w1 w2)))) ti ?_
 exact ⟨_,le_refl _,rfl⟩
theorem a_qshort (ks:List (List UInt8)) (hn:ks.length≤1000000000) (h:Hp):ACall Tryz.prog GT 104 [.sl 1 .no (strsA ks)] h fun r h'=>r = .bool (Jr.shortB ks)∧h'=h:=by
 refine pcall ?_ rfl (by simp [A.pure,A.data]) h
 refine acall_of mixedT h_qshort (by simp [c_qshort]) ?_
 dsimp only [c_qshort]
 obtain ⟨D,hD⟩:∃ D,Jr.shortB ks=D:=⟨_,rfl⟩
 rw [hD]
 have li:(strsA ks).length=ks.length:=strsA_length ks
 refine run0 li ?_
 refine awp_loop (fun mm ts h=>∃ (j:Nat),mm=ks.length - j∧j≤ks.length∧h=⟨[],[]⟩∧Jr.shortB (ks.drop j)=D∧(ts 0 = .sl 1 .no (strsA ks)∧ts 3 = .int .i64 (j:Nat))) ks.length ?_ ?_
 ·exact ⟨0,by omega,by omega,rfl,hD,by (exact inv0 li)⟩
 rintro mm ts h ⟨j,rfl,hjc,rfl,hit,ht⟩
 by_cases hj:j < ks.length
 ·have hf:=rowj_at (fun s:List UInt8=>[A.str s]) ks j hj (by omega)
  have hf':(strsA ks).length=ks.length∧(j:Int) < (ks.length:Int)∧(0:Int)≤(j:Int)∧(strsA ks).getD j []=[.str ks[j]]∧IntKind.i64.wrap ((j:Int)+1)=((j+1:Nat):Int):=hf
  clear hf
  rw [List.drop_eq_getElem_cons hj] at hit
  unfold Jr.shortB at hit
  rw [List.all_cons] at hit
  obtain ⟨x,hx⟩:∃ x,ks[j]=x:=⟨_,rfl⟩
  rw [hx] at hf' hit
  by_cases hK:(x.length:Int) > 4096
  ·have hK':decide ((x.length:Int)≤4096)=false:=by simpa using hK
   rw [hK',Bool.false_and] at hit
   subst hit
   refine runx0 (ai ht (ai hf' hK)) ti ?_
   exact ⟨_,le_refl _,rfl⟩
  ·have hK':decide ((x.length:Int)≤4096)=true:=by simpa using hK
   rw [hK',Bool.true_and] at hit
   refine runx0 (ai ht (ai hf' hK)) ti ?_
   exact ⟨ks.length - (j+1),by omega,j+1,rfl,by omega,rfl,hit,by (exact inv0 (ai ht hf'))⟩
 ·have hlt:¬ ((j:Int) < (ks.length:Int)):=by omega
  rw [List.drop_eq_nil_of_le (by omega)] at hit
  unfold Jr.shortB at hit
  subst hit
  refine runx0 (ai ht (ai hlt li)) ti ?_
  exact ⟨_,le_refl _,rfl⟩
theorem a_qinst (x:Sf.Inst) (hl:x.attrs.lens) (hd:x.deps.length≤1000000000) (h:Hp):ACall Tryz.prog GT 69 [.agg (Sf.Inst.cells x)] h fun r h'=>r = .bool (Jr.instB x)∧h'=h:=by
 obtain ⟨a,d,i,t,⟨k,n,s,is,ks⟩,v,tn,fi,ds⟩:=x
 have l3:=strsA_length ds
 have c1:=a_qshort [a,d,i,t] (by simp)
 have c2:=a_qshort ds hd
 have c3:=a_rCheck (.mk k n s is ks) hl
 simp only [V.A,V.cells] at c3
 unfold Sf.Inst.cells Jr.instB
 dsimp only
 obtain ⟨b1,h1⟩:∃ b,Jr.shortB [a,d,i,t]=b:=⟨_,rfl⟩
 obtain ⟨b2,h2⟩:∃ b,Jr.shortB ds=b:=⟨_,rfl⟩
 obtain ⟨Z,hZ⟩:∃ b,Val.checkZ (.mk k n s is ks)=b:=⟨_,rfl⟩
 rw [h1] at c1
 rw [h2] at c2
 rw [hZ] at c3
 rw [h1,h2,hZ]
 have c1':∀ h,ACall Tryz.prog GT 104 [.sl 1 .no [[.str a],[.str d],[.str i],[.str t]]] h fun r h'=>r = .bool b1∧h'=h:=c1
 refine pcall ?_ rfl (by simp [A.pure,A.data]) h
 refine acall_of mixedT h_qinst (by simp [c_qinst]) ?_
 dsimp only [c_qinst]
 refine runx0 l3 (ai c1' (ai c2 (ai c3 ti))) ?_
 exact ⟨_,le_refl _,rfl⟩
theorem a_qstep (r:Jr) (hin:Sf.StIn r.base) (h:Hp):ACall Tryz.prog GT 68 [.agg r.cells] h fun v h'=>v = .bool r.stepR∧h'=h:=by
 have ce:=a_qempty r.base hin
 have c1:=a_qshort [r.addr,r.dep,r.typ,r.tok] (by simp)
 unfold Jr.stepR
 obtain ⟨b1,h1⟩:∃ b,Jr.shortB [r.addr,r.dep,r.typ,r.tok]=b:=⟨_,rfl⟩
 obtain ⟨e,he⟩:∃ b,Jr.emptyR r.base=b:=⟨_,rfl⟩
 rw [h1] at c1 ⊢
 rw [he] at ce ⊢
 clear h1 he hin
 obtain ⟨kd,⟨lin,ser,ins,ps,os⟩,st,op,ad,dp,ty,tk,er,⟨a,d,i,t,⟨k,n,s,is,ks⟩,v,tn,fi,ds⟩⟩:=r
 simp only [Jr.cells,Sf.Inst.cells,List.cons_append,List.nil_append,Sf.St.A] at ce c1 ⊢
 have c1':∀ h,ACall Tryz.prog GT 104 [.sl 1 .no [[.str ad],[.str dp],[.str ty],[.str tk]]] h fun r h'=>r = .bool b1∧h'=h:=c1
 refine pcall ?_ rfl (by simp [A.pure,A.data]) h
 refine acall_of mixedT h_qstep (by simp [c_qstep]) ?_
 dsimp only [c_qstep]
 refine runx0 ti (ai ce (ai c1' ti)) ?_
 exact ⟨_,le_refl _,rfl⟩
theorem a_qvalid (r:Jr) (hin:JrIn r) (h:Hp):ACall Tryz.prog GT 35 [.agg r.cells] h fun v h'=>v = .bool r.validR∧h'=h:=by
 have ce:=a_qempty r.base hin.base
 have cn:=a_qnone r.after hin.lens hin.deps
 have ci:=a_qinst r.after hin.lens hin.deps
 have cs:=a_qstep r hin.base
 unfold Jr.validR
 obtain ⟨e,he⟩:∃ b,Jr.emptyR r.base=b:=⟨_,rfl⟩
 obtain ⟨n,hn⟩:∃ b,Jr.noneR r.after=b:=⟨_,rfl⟩
 obtain ⟨i,hi⟩:∃ b,Jr.instB r.after=b:=⟨_,rfl⟩
 obtain ⟨s,hs⟩:∃ b,r.stepR=b:=⟨_,rfl⟩
 rw [he] at ce; rw [hn] at cn; rw [hi] at ci; rw [hs] at cs
 rw [he,hn,hi,hs]
 clear he hn hi hs hin
 obtain ⟨kd,⟨lin,ser,ins,ps,os⟩,st,op,ad,dp,ty,tk,er,⟨a1,a2,a3,a4,⟨k,nn,ss,is,ks⟩,v,tn,fi,ds⟩⟩:=r
 simp only [Jr.cells,Sf.Inst.cells,List.cons_append,List.nil_append,Sf.St.A] at *
 refine pcall ?_ rfl (by simp [A.pure,A.data]) h
 refine fo ?_
 by_cases q1:kd=1
 ·rw [if_pos q1]
  obtain ⟨K,hK⟩:∃ K,(kd == 1)=K:=⟨_,rfl⟩
  have hKt:K=true:=by rw [←hK,q1]; rfl
  clear q1
  refine runx0 hK ti ?_
  (refine AX.alt0 ti ?_ ?_)
  rotate_left
  ·intro hc
   rw [hc] at hKt
   exact absurd hKt (by decide)
  intro hc
  refine runx0 hK ti ?_
  (refine AX.alt0 ti ?_ ?_)
  rotate_left
  ·intro hc
   rw [hc] at hKt
   exact absurd hKt (by decide)
  intro hc2
  refine runx0 hK (ai cn (ai ce ti)) ?_
  exact ⟨_,le_refl _,by rw [tupA_1,hc]; simp⟩
 have f1:(kd == 1)=false:=by simp [q1]
 rw [if_neg q1]
 by_cases q5:kd=5
 ·subst q5
  rw [if_pos rfl]
  refine runx0 ti (ai cn (ai ce ti)) ?_
  exact ⟨_,le_refl _,by rw [tupA_1]⟩
 have f5:(kd == 5)=false:=by simp [q5]
 rw [if_neg q5]
 by_cases q2:kd=2
 ·subst q2
  rw [if_pos rfl]
  refine runx0 ti (ai cs (ai cn ti)) ?_
  exact ⟨_,le_refl _,by rw [tupA_1]⟩
 have f2:(kd == 2)=false:=by simp [q2]
 rw [if_neg q2]
 by_cases q3:kd=3
 ·subst q3
  rw [if_pos rfl]
  refine runx0 ti (ai cs (ai ci (ai cn ti))) ?_
  exact ⟨_,le_refl _,by rw [tupA_1]⟩
 have f3:(kd == 3)=false:=by simp [q3]
 rw [if_neg q3]
 by_cases q4:kd=4
 ·subst q4
  rw [if_pos rfl]
  refine runx0 ti (ai cs (ai ci (ai cn ti))) ?_
  exact ⟨_,le_refl _,by rw [tupA_1]⟩
 have f4:(kd == 4)=false:=by simp [q4]
 rw [if_neg q4]
 refine runx0 (ai f1 (ai f2 (ai f3 (ai f4 f5)))) ti ?_
 exact ⟨_,le_refl _,rfl⟩
def c_rastr:AX.AFn:=⟨11,aS [aR 4 (.mv (.c (.str [])))] (aS [aM 5 0,aM 6 1,aR 7 (.len true (.t 6)),aR 8 (.call 70 [.t 5,.t 7]),aM 9 1,aR 10 (.bin .add (.t 8) (.t 9)),aM 4 10] (.ret)),[.t 4]⟩
theorem h_rastr:AX.compFn Tryz.prog 38=some c_rastr:=by kernel_rfl
def c_rAppendValue:AX.AFn:=⟨65,aS [aR 3 (.box 34 (.t 1)),aR 4 (.mv (.c (.str [])))] (aS [aM 6 0,aF 7 0 3,aL 8 7,aR 9 (.call 70 [.t 6,.t 8]),aM 0 9] (.seq (aS [aF 10 0 3,aL 11 10] (.block 0 (.seq (aS [aR 13 (.bin .eql (.t 11) (aI 1)),aM 12 13] (.cond (.t 12) (.skip) (.reg false [aR 14 (.bin .eql (.t 11) (aI 2)),aM 12 14]))) (.cond (.t 12) (aS [aM 15 0,aF 16 1 3,aL 17 16,aR 18 (.call 70 [.t 15,.t 17]),aM 4 18] (.ret)) (aS [aR 20 (.bin .eql (.t 11) (aI 3)),aM 19 20] (.cond (.t 19) (aS [aM 21 0,aF 22 2 3,aL 23 22,aR 24 (.call 38 [.t 21,.t 23]),aM 4 24] (.ret)) (.seq (aS [aR 26 (.bin .eql (.t 11) (aI 4)),aM 25 26] (.cond (.t 25) (.skip) (.reg false [aR 27 (.bin .eql (.t 11) (aI 5)),aM 25 27]))) (.cond (.t 25) (aS [aM 28 0,aF 29 3 3,aL 30 29,aR 31 (.len false (.t 30)),aR 32 (.call 70 [.t 28,.t 31]),aM 0 32] (aS [aR 5 (.mv (aI 0))] (.block 1 (.loop (.seq (aS [aM 33 5,aF 34 3 3,aL 35 34,aR 36 (.len false (.t 35)),aR 37 (.bin .lss (.t 33) (.t 36))] (.cond (.t 37) (.skip) (.exit 1))) (.seq (.block 2 (.seq (aS [aF 40 0 3,aL 41 40,aR 42 (.bin .eql (.t 41) (aI 5)),aM 43 42,aG 44 (.mv (.t 5)) 43 true,aG 45 (.faddr 4 (.t 3)) 43 true,aG 46 (.load false 1 (.t 45)) 43 true,aG 47 (.len false (.t 46)) 43 true,aG 48 (.bin .lss (.t 44) (.t 47)) 43 true,aR 49 (.pick (.t 43) (.t 48) (.c (.bool false)))] (.cond (.t 49) (.reg false [aM 50 0,aF 51 4 3,aL 52 51,aM 53 5,aR 54 (.iaddr 1 (.t 52) (.t 53)),aL 55 54,aR 56 (.call 38 [.t 50,.t 55]),aM 0 56]) (.skip))) (.reg false [aM 57 0,aF 58 3 3,aL 59 58,aM 60 5,aR 61 (.iaddr 5 (.t 59) (.t 60)),aR 62 (.load true 5 (.t 61)),aR 63 (.call 108 [.t 57,.t 62]),aM 0 63]))) (.reg false [aM 38 5,aR 39 (.bin .add (.t 38) (aI 1)),aM 5 39]))))))) (.skip))))))))) (aS [aM 64 0,aM 4 64] (.ret)))),[.t 4]⟩
theorem h_rAppendValue:AX.compFn Tryz.prog 108=some c_rAppendValue:=by kernel_rfl
theorem a_rastr (dst s:List UInt8) (hlen:dst.length+s.length+10≤1000000000) (h:Hp):ACall Tryz.prog GT 38 [.str dst,.str s] h fun r h'=>r = .str (dst++Wire.strE s)∧h'=h:=by
 refine pcall ?_ rfl (by simp [A.pure,A.data]) h
 have hn:=num_len s.length
 refine acall_of mixedT h_rastr (by simp [c_rastr]) ?_
 dsimp only [c_rastr]
 refine go0 ti ?_
 refine gc0 ti ?_
 refine (a_refAppendNumber dst s.length (by omega) (by omega) (by omega) _).mono ?_
 rintro v1 h1 ⟨rfl,rfl⟩
 have hsum:dst.length+(Wire.num s.length).length+s.length < 1099511627776:=by omega
 refine go0 hsum ?_
 exact ⟨_,le_refl _,by rw [tupA_1,Wire.strE,List.append_assoc]⟩
theorem a_rAppendValue:∀ (v:V) (dst:List UInt8) (h:Hp),(∃ lv b,(Val.chk v lv b).1=0)→dst.length+(Val.enc v).length+10≤1000000000→v.lens→ACall Tryz.prog GT 108 [.str dst,v.A] h fun r h'=>r = .str (dst++Val.enc v)∧h'=h:=by
 refine V.induct fun k n s is ks ih=>?_
 rintro l h ⟨lv,b,hchk⟩ hlen hlens
 refine pcall ?_ rfl (by simp [V.A,V.cells,A.pure,A.data]) h
 refine acall_of mixedT h_rAppendValue (by simp [c_rAppendValue]) ?_
 dsimp only [c_rAppendValue]
 obtain ⟨hil,hkl,_,hmem⟩:=V.lens_mk hlens
 obtain ⟨_,_,hz,hcs⟩:=Val.chk_parts hchk
 obtain ⟨hsh,hn2,hts,hks⟩:=Val.shaped_of hz
 have hs:=Val.text_len hts
 have hkk:=Val.keys_len ks none hks
 unfold Val.shapedB at hsh
 simp only [Bool.and_eq_true,Bool.or_eq_true,decide_eq_true_eq,beq_iff_eq] at hsh
 obtain ⟨⟨⟨⟨⟨hk0,hk6⟩,hnn⟩,_⟩,_⟩,hkn⟩:=hsh
 have hE:Val.enc (.mk k n s is ks)=Wire.num k++(if k=1∨k=2 then Wire.num n else if k=3 then Wire.strE s else if k=4∨k=5 then Wire.num is.length++Val.encs (k == 5) is ks else []):=by rw [Val.enc]
 rw [hE] at hlen ⊢
 simp only [List.length_append] at hlen
 refine go0 (ai @V_A @V_cells) ?_
 refine gc0 (ai @V_A @V_cells) ?_
 refine (a_refAppendNumber l k (by omega) (by omega) (by omega) _).mono ?_
 rintro v0 h1 ⟨rfl,rfl⟩
 have hlk:=num_len k
 by_cases hk12:k=1∨k=2
 ·rw [if_pos hk12] at hlen ⊢
  have hn:-9223372036854775808≤n∧n≤9223372036854775807:=by
   rcases hk12 with rfl | rfl
   ·rcases hnn with (h | h) | h
    ·exact absurd h (by decide)
    ·omega
    ·omega
   ·have:=hn2 rfl; omega
  rcases hk12 with rfl | rfl
  all_goals
   refine go0 (ai @V_A @V_cells) ?_
   refine gc0 (ai @V_A @V_cells) ?_
   refine (a_refAppendNumber _ n (by rw [List.length_append]; omega) (by omega) (by omega) _).mono ?_
   rintro v2 h2 ⟨rfl,rfl⟩
   refine go0 (ai @V_A @V_cells) ?_
   exact ⟨_,le_refl _,by rw [tupA_1,List.append_assoc]⟩
 rw [if_neg hk12] at hlen ⊢
 have e1:(k == 1)=false:=by simp; omega
 have e2:(k == 2)=false:=by simp; omega
 by_cases hk3:k=3
 ·rw [if_pos hk3] at hlen ⊢
  subst hk3
  refine go0 (ai @V_A @V_cells) ?_
  refine gc0 (ai @V_A @V_cells) ?_
  unfold Wire.strE at hlen
  rw [List.length_append] at hlen
  refine (a_rastr _ s (by rw [List.length_append]; omega) _).mono ?_
  rintro v2 h2 ⟨rfl,rfl⟩
  refine go0 (ai @V_A @V_cells) ?_
  exact ⟨_,le_refl _,by rw [tupA_1,List.append_assoc]⟩
 rw [if_neg hk3] at hlen ⊢
 have e3:(k == 3)=false:=by simp; omega
 by_cases hk45:k=4∨k=5
 ·rw [if_pos hk45] at hlen ⊢
  rw [List.length_append] at hlen
  have hkl5:(k == 5)=true→ks.length=is.length:=fun e=>by
   rw [if_pos (by simpa using e)] at hkn; simpa using hkn
  have hln:=num_len is.length
  have step:∀ (j:Nat) (hj:j < is.length),(Val.encs (k == 5) (is.take j) ks).length+(Val.keyE (k == 5) (ks.drop j)).length+(Val.enc is[j]).length≤(Val.encs (k == 5) is ks).length:=encs_step _ _ _
  have e45:(k == 4)=true∨(k == 4)=false∧(k == 5)=true:=by
   rcases hk45 with rfl | rfl
   ·exact .inl rfl
   ·exact .inr ⟨rfl,rfl⟩
  rcases e45 with e4 | ⟨e4,e5⟩
  all_goals
   refine go0 (ai @V_A (ai @V_cells (ai e1 (ai e2 (ai e3 (ai e4 @V.cellss_length)))))) ?_
   try (refine go0 (ai @V_A (ai @V_cells (ai e1 (ai e2 (ai e3 (ai e4 (ai e5 @V.cellss_length))))))) ?_)
   refine gc0 (ai @V_A @V_cells) ?_
   refine (a_refAppendNumber _ is.length (by rw [List.length_append]; omega) (by omega) (by omega) _).mono ?_
   rintro v2 h2 ⟨rfl,rfl⟩
   refine go0 (ai @V_A (ai @V_cells @V.cellss_length)) ?_
   refine awp_loop (fun m ts hh=>hh=⟨[.cells 34 (V.mk k n s is ks).cells],[]⟩∧∃ (j:Nat),m=is.length - j∧j≤is.length∧ts 0 = .str (l++Wire.num k++Wire.num is.length++Val.encs (k == 5) (is.take j) ks)∧ts 3 = .ptr 0 0∧ts 5 = .int .i64 j) is.length ?_ ?_
   ·refine ⟨rfl,0,rfl,Nat.zero_le _,?_⟩
    simp only [put_app,put_none,init_app,evX_t,evX_c,resA_nil,resA_t,resA_c,tupA_0,tupA_1,tupA_2,astep,bop,uop,loadA,storeA,appA,ssliceA,eqA,eqCells,fillA,rowsA,setCells,A.cells,A.one,A.data,optP_some,List.all_cons,List.all_nil,Bool.and_true,Bool.true_and,Option.map_some,Option.map_none,Option.bind_some,Option.bind_none,Option.getD_some,Option.getD_none,List.map_cons,List.map_nil,List.getD_cons_zero,List.getD_cons_succ,List.getElem?_cons_zero,List.getElem?_cons_succ,List.length_cons,List.length_nil,List.nil_append,List.cons_append,List.append_nil,List.set_cons_zero,List.set_cons_succ,List.drop_zero,List.drop_succ_cons,List.take_succ_cons,List.take_zero,List.take_nil,List.length_append,List.length_set,Nat.reduceAdd,Nat.reduceSub,Nat.reduceMul,Nat.reduceLeDiff,Nat.reduceEqDiff,Nat.reduceBEq,Int.toNat_natCast,Int.natCast_nonneg,if_true,if_false,reduceIte,ite_true,ite_false,true_and,and_true,ne_eq,not_true_eq_false,not_false_eq_true,Bool.false_eq_true,reduceCtorEq,and_self,Nat.zero_add,Nat.add_zero,Nat.le_refl,Bool.not_true,Bool.not_false,decide_true,decide_false,Val.encs]
    trivial
   ·rintro m ts hh ⟨rfl,j,rfl,hj,t0,t3,t5⟩
    by_cases hlt:j < is.length
    ·have hlt2:(j:Int) < (is.length:Int):=by omega
     have hla:(j:Int) < ((V.cellss is).length:Int):=by rw [V.cellss_length]; omega
     have ei:IntKind.i64.wrap ((j:Int)+1)=(j:Int)+1:=wrap64 (by omega) (by omega)
     have ee:=V.cellss_get is j hlt
     have hst:=step j hlt
     have htk:=Val.encs_take (k == 5) is ks j hlt
     have hcall:=fun (l':List UInt8) (h:Hp) (hb:l'.length+(Val.enc is[j]).length+10≤1000000000)=>ih is[j] (List.getElem_mem hlt) l' h ((Val.chks_get is _ _ hcs j hlt).elim fun b' hb'=>⟨_,b',hb'⟩) hb (hmem _ (List.getElem_mem hlt))
     obtain ⟨⟨k',n',s',is',ks'⟩,hv⟩:∃ x,is[j]=x:=⟨_,rfl⟩
     rw [hv] at ee hcall htk hst
     rcases bool_or (k == 5) with e5' | e5'
     ·have hkj:j < ks.length:=by rw [hkl5 e5']; exact hlt
      have hlk2:(j:Int) < ((strsA ks).length:Int):=by rw [strsA_length]; omega
      have ek:=strsA_get ks j hkj
      have hke:Val.keyE (k == 5) (ks.drop j)=Wire.strE ks[j]:=by rw [e5',List.drop_eq_getElem_cons hkj]; rfl
      rw [hke] at htk hst
      simp only [e5'] at htk hst t0 hlen
      have hsl:(Wire.strE ks[j]).length=(Wire.num ks[j].length).length+ks[j].length:=by unfold Wire.strE; rw [List.length_append]
      refine go0 (ai @V_cells (ai t0 (ai t3 (ai t5 (ai hla (ai hlt2 (ai ee (ai ei (ai e5' (ai hlk2 ek)))))))))) ?_
      refine gc0 (ai @V_cells (ai t0 (ai t3 t5))) ?_
      refine (a_rastr _ ks[j] (by simp only [List.length_append]; omega) _).mono ?_
      rintro v3 h3 ⟨rfl,rfl⟩
      refine go0 (ai @V_cells (ai t0 (ai t3 (ai t5 (ai hla ee))))) ?_
      refine gc0 (ai @V_cells (ai t0 (ai t3 t5))) ?_
      refine (hcall _ _ (by simp only [List.length_append]; omega)).mono ?_
      rintro v4 h4 ⟨rfl,rfl⟩
      refine go0 (ai @V_cells (ai t0 (ai t3 (ai t5 ei)))) ?_
      refine ⟨is.length - (j+1),by omega,rfl,j+1,rfl,by omega,?_⟩
      simp only [put_app,put_none,init_app,evX_t,evX_c,resA_nil,resA_t,resA_c,tupA_0,tupA_1,tupA_2,astep,bop,uop,loadA,storeA,appA,ssliceA,eqA,eqCells,fillA,rowsA,setCells,A.cells,A.one,A.data,optP_some,List.all_cons,List.all_nil,Bool.and_true,Bool.true_and,Option.map_some,Option.map_none,Option.bind_some,Option.bind_none,Option.getD_some,Option.getD_none,List.map_cons,List.map_nil,List.getD_cons_zero,List.getD_cons_succ,List.getElem?_cons_zero,List.getElem?_cons_succ,List.length_cons,List.length_nil,List.nil_append,List.cons_append,List.append_nil,List.set_cons_zero,List.set_cons_succ,List.drop_zero,List.drop_succ_cons,List.take_succ_cons,List.take_zero,List.take_nil,List.length_append,List.length_set,Nat.reduceAdd,Nat.reduceSub,Nat.reduceMul,Nat.reduceLeDiff,Nat.reduceEqDiff,Nat.reduceBEq,Int.toNat_natCast,Int.natCast_nonneg,if_true,if_false,reduceIte,ite_true,ite_false,true_and,and_true,ne_eq,not_true_eq_false,not_false_eq_true,Bool.false_eq_true,reduceCtorEq,and_self,Nat.zero_add,Nat.add_zero,Nat.le_refl,Bool.not_true,Bool.not_false,decide_true,decide_false,htk,e5',List.append_assoc,t3,Int.natCast_add,Int.natCast_one]
     ·have hke:Val.keyE (k == 5) (ks.drop j)=[]:=by rw [e5']; rfl
      rw [hke] at htk hst
      simp only [e5'] at htk hst t0 hlen
      refine go0 (ai @V_cells (ai t0 (ai t3 (ai t5 (ai hla (ai hlt2 (ai ee (ai ei e5')))))))) ?_
      refine gc0 (ai @V_cells (ai t0 (ai t3 t5))) ?_
      refine (hcall _ _ (by simp only [List.length_append]; omega)).mono ?_
      rintro v4 h4 ⟨rfl,rfl⟩
      refine go0 (ai @V_cells (ai t0 (ai t3 (ai t5 ei)))) ?_
      refine ⟨is.length - (j+1),by omega,rfl,j+1,rfl,by omega,?_⟩
      simp only [put_app,put_none,init_app,evX_t,evX_c,resA_nil,resA_t,resA_c,tupA_0,tupA_1,tupA_2,astep,bop,uop,loadA,storeA,appA,ssliceA,eqA,eqCells,fillA,rowsA,setCells,A.cells,A.one,A.data,optP_some,List.all_cons,List.all_nil,Bool.and_true,Bool.true_and,Option.map_some,Option.map_none,Option.bind_some,Option.bind_none,Option.getD_some,Option.getD_none,List.map_cons,List.map_nil,List.getD_cons_zero,List.getD_cons_succ,List.getElem?_cons_zero,List.getElem?_cons_succ,List.length_cons,List.length_nil,List.nil_append,List.cons_append,List.append_nil,List.set_cons_zero,List.set_cons_succ,List.drop_zero,List.drop_succ_cons,List.take_succ_cons,List.take_zero,List.take_nil,List.length_append,List.length_set,Nat.reduceAdd,Nat.reduceSub,Nat.reduceMul,Nat.reduceLeDiff,Nat.reduceEqDiff,Nat.reduceBEq,Int.toNat_natCast,Int.natCast_nonneg,if_true,if_false,reduceIte,ite_true,ite_false,true_and,and_true,ne_eq,not_true_eq_false,not_false_eq_true,Bool.false_eq_true,reduceCtorEq,and_self,Nat.zero_add,Nat.add_zero,Nat.le_refl,Bool.not_true,Bool.not_false,decide_true,decide_false,htk,e5',List.append_assoc,t3,Int.natCast_add,Int.natCast_one,List.nil_append]
    ·have hlt2:¬ (j:Int) < ((V.cellss is).length:Int):=by rw [V.cellss_length]; omega
     rw [List.take_of_length_le (by omega)] at t0
     refine go0 (ai @V_cells (ai t0 (ai t3 (ai t5 hlt2)))) ?_
     exact ⟨_,le_refl _,by rw [tupA_1,List.append_assoc,List.append_assoc]⟩
 ·rw [if_neg hk45] at hlen ⊢
  rw [List.append_nil]
  have e4:(k == 4)=false:=by simp; omega
  have e5:(k == 5)=false:=by simp; omega
  refine go0 (ai @V_A (ai @V_cells (ai e1 (ai e2 (ai e3 (ai e4 e5)))))) ?_
  exact ⟨_,le_refl _,rfl⟩
def c_r32bit:AX.AFn:=⟨4,aS [aR 2 (.mv (aI 0))] (.seq (aS [aM 3 0] (.cond (.t 3) (aS [aR 2 (.mv (aI 1))] (.ret)) (.skip))) (aS [aR 2 (.mv (aI 0))] (.ret))),[.t 2]⟩
theorem h_r32bit:AX.compFn Tryz.prog 109=some c_r32bit:=by kernel_rfl
def c_r32words:AX.AFn:=⟨23,aS [aR 4 (.mv (.c (.str [])))] (aS [aM 6 0,aM 7 1,aR 8 (.len false (.t 7)),aR 9 (.call 70 [.t 6,.t 8]),aM 0 9] (.seq (aS [aR 5 (.mv (aI 0))] (.block 0 (.loop (.seq (aS [aM 10 5,aM 11 1,aR 12 (.len false (.t 11)),aR 13 (.bin .lss (.t 10) (.t 12))] (.cond (.t 13) (.skip) (.exit 0))) (.seq (.block 1 (.reg false [aM 16 0,aM 17 1,aM 18 5,aR 19 (.iaddr 1 (.t 17) (.t 18)),aL 20 19,aR 21 (.call 38 [.t 16,.t 20]),aM 0 21])) (.reg false [aM 14 5,aR 15 (.bin .add (.t 14) (aI 1)),aM 5 15])))))) (aS [aM 22 0,aM 4 22] (.ret)))),[.t 4]⟩
theorem h_r32words:AX.compFn Tryz.prog 110=some c_r32words:=by kernel_rfl
def c_r32inst:AX.AFn:=⟨43,aS [aR 4 (.box 36 (.t 1)),aR 6 (.mv (.c (.str [])))] (.seq (.reg true [aM 7 0,aF 8 0 4,⟨some 9,.load false 1 (.t 8),none,[1]⟩,⟨some 10,.call 38 [.t 7,.t 9],none,[0,2]⟩,aF 11 1 4,⟨some 12,.load false 1 (.t 11),none,[4]⟩,⟨some 13,.call 38 [.t 10,.t 12],none,[3,5,3]⟩,aF 14 2 4,⟨some 15,.load false 1 (.t 14),none,[7]⟩,⟨some 16,.call 38 [.t 13,.t 15],none,[6,8,6]⟩,aF 17 3 4,⟨some 18,.load false 1 (.t 17),none,[10]⟩,⟨some 19,.call 38 [.t 16,.t 18],none,[9,11,9]⟩,⟨some 0,.mv (.t 19),none,[12,12,0,1,2,3,4,5,6,7,8,9,10,11,12]⟩]) (aS [aM 20 0,aF 21 4 4,aR 22 (.load true 5 (.t 21)),aR 23 (.call 108 [.t 20,.t 22]),aM 0 23] (.seq (.reg true [aM 24 0,aF 25 9 4,⟨some 26,.load false 1 (.t 25),none,[1]⟩,⟨some 27,.call 70 [.t 24,.t 26],none,[0,2]⟩,aF 28 10 4,⟨some 29,.load false 1 (.t 28),none,[4]⟩,⟨some 30,.call 109 [.t 29],none,[5,3]⟩,⟨some 31,.call 70 [.t 27,.t 30],none,[3,6,6]⟩,⟨some 0,.mv (.t 31),none,[7,7,0,1,2,3,4,5,6,7]⟩]) (.seq (aS [aM 32 2,aR 33 (.bin .geq (.t 32) (aI 2))] (.cond (.t 33) (.reg false [aM 34 0,aF 35 11 4,aL 36 35,aR 37 (.call 109 [.t 36]),aR 38 (.call 70 [.t 34,.t 37]),aM 0 38]) (.skip))) (aS [aM 39 0,aF 40 12 4,aL 41 40,aR 42 (.call 110 [.t 39,.t 41]),aM 6 42] (.ret)))))),[.t 6]⟩
theorem h_r32inst:AX.compFn Tryz.prog 72=some c_r32inst:=by kernel_rfl
def c_r32Encode:AX.AFn:=⟨8,aS [aR 1 (.box 27 (.t 0)),aR 2 (.mv (.c (.str []))),aR 3 (.mv (aI 0))] (aS [aR 4 (.load true 5 (.t 1)),aR 5 (.call 107 [.t 4,aI 2]),aE 6 5 0,aE 7 5 1,aM 2 6,aM 3 7] (.ret)),[.t 2,.t 3]⟩
theorem h_r32Encode:AX.compFn Tryz.prog 71=some c_r32Encode:=by kernel_rfl
theorem a_r3append (s:List UInt8) (hs:s.length≤1000000000) (h:Hp):ACall Tryz.prog GT 37 [.str s] h fun v h'=>v = .str (Crc.app s)∧h'=h:=
 acall_imp (args1 r_str) (fun w hg=>refAppend_any ⟨s.toArray⟩ w (by rw [size_mk]; exact hs)) (fun C=>rep_str.2 rfl) h
theorem a_r32bit (b:Bool) (h:Hp):ACall Tryz.prog GT 109 [.bool b] h fun r h'=>r = .int .i64 (if b=true then 1 else 0)∧h'=h:=by
 refine pcall ?_ rfl (by simp [A.pure,A.data]) h
 refine acall_of mixedT h_r32bit (by simp [c_r32bit]) ?_
 dsimp only [c_r32bit]
 cases b <;> ((refine runx0 ti ti ?_); exact ⟨_,le_refl _,rfl⟩)
theorem flat_take {α:Type} (f:α→List UInt8) (l:List α) (j:Nat):((l.take j).flatMap f).length≤(l.flatMap f).length:=by
 have h:l.flatMap f=(l.take j).flatMap f++(l.drop j).flatMap f:=by rw [←List.flatMap_append,List.take_append_drop]
 rw [h,List.length_append]
 omega
theorem flat_snoc {α:Type} (f:α→List UInt8) (l:List α) (j:Nat) (hj:j < l.length):(l.take (j+1)).flatMap f=(l.take j).flatMap f++f l[j]:=by
 rw [List.take_succ_eq_append_getElem hj,List.flatMap_append]; simp
theorem a_r32words (dst:List UInt8) (l:List (List UInt8)) (hl:l.length≤1000000000) (hb:dst.length+(Wire.num l.length).length+(Sf.wordsE l).length+10≤1000000000) (h:Hp):ACall Tryz.prog GT 110 [.str dst,.sl 1 .no (strsA l)] h fun r h'=>r = .str (dst++Wire.num l.length++Sf.wordsE l)∧h'=h:=by
 refine pcall ?_ rfl (by simp [A.pure,A.data]) h
 refine acall_of mixedT h_r32words (by simp [c_r32words]) ?_
 dsimp only [c_r32words]
 have cn:=a_refAppendNumber dst (l.length:Int) (by omega) (by omega) (by omega)
 have ls:=strsA_length l
 obtain ⟨D,hD⟩:∃ D,dst++Wire.num l.length=D:=⟨_,rfl⟩
 have hDl:D.length=dst.length+(Wire.num l.length).length:=by rw [←hD,List.length_append]
 rw [hD] at cn ⊢
 refine runx0 ls (ai cn ti) ?_
 refine awp_loop (fun m ts hh=>hh=⟨[],[]⟩∧∃ j:Nat,m=l.length - j∧j≤l.length∧(ts 0 = .str (D++(l.take j).flatMap Wire.strE)∧ts 1 = .sl 1 .no (strsA l)∧ts 5 = .int .i64 (j:Nat))) l.length ?_ ?_
 ·refine ⟨rfl,0,rfl,Nat.zero_le _,?_⟩
  rw [show (l.take 0).flatMap Wire.strE=[] from rfl,List.append_nil]
  (exact inv0 ti)
 rintro m ts hh ⟨rfl,j,rfl,hj,ht⟩
 rcases Nat.lt_or_ge j l.length with hlt | hge
 ·have hf:=strs_at l j hlt (by omega)
  have h1:=flat_take Wire.strE l (j+1)
  have h2:=flat_snoc Wire.strE l j hlt
  rw [h2,List.length_append] at h1
  obtain ⟨s,hs⟩:∃ s,l[j]=s:=⟨_,rfl⟩
  rw [hs] at hf h1 h2
  have hw:(l.flatMap Wire.strE).length=(Sf.wordsE l).length:=rfl
  have hse:s.length≤(Wire.strE s).length:=by unfold Wire.strE; rw [List.length_append]; omega
  obtain ⟨T,hT⟩:∃ T,(l.take j).flatMap Wire.strE=T:=⟨_,rfl⟩
  rw [hT] at ht h1 h2
  have ca:=a_rastr (D++T) s (by rw [List.length_append]; omega)
  rw [List.append_assoc,←h2] at ca
  refine runx0 (ai ht hf) (ai ca ti) ?_
  exact ⟨_,by omega,rfl,j+1,rfl,by omega,by (exact inv0 (ai ht hf))⟩
 ·have hf:=ai ls (show ¬ (j:Int) < (l.length:Int) by omega)
  rw [List.take_of_length_le hge] at ht
  refine runx0 (ai ht hf) ti ?_
  exact ⟨_,le_refl _,rfl⟩
theorem a_r32inst (ver:Int) (hver:ver=1∨ver=2) (dst:List UInt8) (x:Sf.Inst) (hx:Sf.InstIn x) (hc:∃ lv b,(Val.chk x.attrs lv b).1=0) (hv:-9223372036854775808≤x.ver∧x.ver≤9223372036854775807) (hb:dst.length+(Sf.instE ver x).length+20≤1000000000) (h:Hp) :
  ACall Tryz.prog GT 72 [.str dst,.agg x.cells,.int .i64 ver] h fun r h'=>r = .str (dst++Sf.instE ver x)∧h'=h:=by
 have hn:=hx.n
 have hL:=hx.l
 obtain ⟨a,d,id,ty,⟨k,n,w,vi,vy⟩,v,tn,fi,ds⟩:=x
 dsimp only at hc hv hn hL
 have se:∀ s:List UInt8,s.length≤(Wire.strE s).length:=fun s=>by unfold Wire.strE; rw [List.length_append]; omega
 have sa:=se a; have sd:=se d; have si:=se id; have st:=se ty
 unfold Sf.instE at hb
 simp only [List.length_append] at hb
 have hfl:(if ver=2 then Sf.flagE fi else []).length≤(Sf.flagE fi).length:=by split <;> simp
 have n10:∀ m:Int,(Wire.num m).length≤10:=fun m=>(Wire.encF_len 9 (Wire.zig m)).2
 have f10:=n10 (if tn=true then 1 else 0)
 have g10:=n10 (if fi=true then 1 else 0)
 have hft:(Sf.flagE tn).length=(Wire.num (if tn=true then 1 else 0)).length:=rfl
 have c1:=a_rastr dst a (by omega)
 have c2:=a_rastr (dst++Wire.strE a) d (by simp only [List.length_append]; omega)
 have c3:=a_rastr (dst++Wire.strE a++Wire.strE d) id (by simp only [List.length_append]; omega)
 have c4:=a_rastr (dst++Wire.strE a++Wire.strE d++Wire.strE id) ty (by simp only [List.length_append]; omega)
 obtain ⟨D,hD⟩:∃ D,dst++Wire.strE a++Wire.strE d++Wire.strE id++Wire.strE ty=D:=⟨_,rfl⟩
 have hDl:D.length=dst.length+(Wire.strE a).length+(Wire.strE d).length+(Wire.strE id).length+(Wire.strE ty).length:=by rw [←hD]; simp only [List.length_append]
 rw [hD] at c4
 have c5:=fun h=>a_rAppendValue (.mk k n w vi vy) D h hc (by omega) hL
 simp only [V.A,V.cells] at c5
 obtain ⟨E,hE⟩:∃ E,D++Val.enc (.mk k n w vi vy)=E:=⟨_,rfl⟩
 have hEl:E.length=D.length+(Val.enc (.mk k n w vi vy)).length:=by rw [←hE,List.length_append]
 rw [hE] at c5
 have c6:=a_refAppendNumber E v (by omega) hv.1 hv.2
 have cb:=a_r32bit tn
 have cb2:=a_r32bit fi
 have c7:=a_refAppendNumber (E++Wire.num v) (if tn=true then 1 else 0) (by simp only [List.length_append]; omega) (by split <;> decide) (by split <;> decide)
 obtain ⟨F,hF⟩:∃ F,E++Wire.num v++Wire.num (if tn=true then 1 else 0)=F:=⟨_,rfl⟩
 have hFl:F.length=E.length+(Wire.num v).length+(Wire.num (if tn=true then 1 else 0)).length:=by rw [←hF]; simp only [List.length_append]
 rw [hF] at c7
 have hres:∀ fl,(if ver=2 then Sf.flagE fi else [])=fl→F++fl++Wire.num ds.length++Sf.wordsE ds=dst++Sf.instE ver ⟨a,d,id,ty,.mk k n w vi vy,v,tn,fi,ds⟩:=fun fl e=>by
  rw [←hF,←hE,←hD,←e]
  unfold Sf.instE Sf.flagE
  simp only [List.append_assoc]
 refine pcall ?_ rfl (by simp [A.pure,A.data,Sf.Inst.cells]) h
 refine acall_of mixedT h_r32inst (by simp [c_r32inst]) ?_
 dsimp only [c_r32inst,Sf.Inst.cells]
 rcases hver with rfl | rfl
 ·have e1:¬ (1:Int)≥2:=by decide
  rw [if_neg (by decide)] at hres hb hfl
  have cw:=a_r32words F ds (by omega) (by simp only [List.length_nil] at hb; omega)
  have:=hres [] rfl
  rw [List.append_nil] at this
  rw [this] at cw
  refine runx0 e1 (ai c1 (ai c2 (ai c3 (ai c4 (ai c5 (ai c6 (ai cb (ai c7 (ai cw ti))))))))) ?_
  exact ⟨_,le_refl _,rfl⟩
 ·have e1:(2:Int)≥2:=by decide
  rw [if_pos rfl] at hres hb hfl
  have hgt:(Sf.flagE fi).length=(Wire.num (if fi=true then 1 else 0)).length:=rfl
  have c8:=a_refAppendNumber F (if fi=true then 1 else 0) (by omega) (by split <;> decide) (by split <;> decide)
  have cw:=a_r32words (F++Wire.num (if fi=true then 1 else 0)) ds (by omega) (by simp only [List.length_append]; omega)
  have e:=hres _ rfl
  rw [show Sf.flagE fi=Wire.num (if fi=true then 1 else 0) from rfl] at e
  rw [e] at cw
  refine runx0 e1 (ai c1 (ai c2 (ai c3 (ai c4 (ai c5 (ai c6 (ai cb (ai c7 (ai cb2 (ai c8 (ai cw ti))))))))))) ?_
  refine runx0 e1 (ai c8 (ai cw ti)) ?_
  exact ⟨_,le_refl _,rfl⟩
theorem a_r32encode {ver:Int} (hver:ver=1∨ver=2) (st:Sf.St) (hin:Sf.StIn st) (htp:Sf.TypIn st) (hlen:Sf.checkZ st=0→(Sf.stE ver st).length+20≤1000000000) (h:Hp) :
  ACall Tryz.prog GT 107 [st.A,.int .i64 ver] h fun r h'=>r = .tup [.str (Sf.encode ver st).1,.int .i64 (Sf.encode ver st).2]∧h'=h:=by
 have hok:=fun hz=>Sf.stOk_of (s:=st) hz hin
 have hck:=a_r31check st hin htp
 obtain ⟨r,hr⟩:∃ r,Sf.encode ver st=r:=⟨_,rfl⟩
 rw [hr]
 unfold Sf.encode at hr
 have hS:Sf.stE ver st=Sf.magic++Wire.num ver++Wire.strE st.lin++Wire.num st.ser++Wire.num st.insts.length++st.insts.flatMap (Sf.instE ver)++(if ver=2 then Wire.num st.pends.length++st.pends.flatMap Sf.pendE else [])++Wire.num st.outs.length++st.outs.flatMap Sf.outE:=rfl
 obtain ⟨Z,hZ⟩:∃ Z,Sf.checkZ st=Z:=⟨_,rfl⟩
 obtain ⟨E,hEq⟩:∃ E,Sf.stE ver st=E:=⟨_,rfl⟩
 rw [hZ] at hr hck hok hlen
 rw [hEq] at hr hlen hS
 have hin':=hin.insts
 obtain ⟨lin,ser,ins,ps,os⟩:=st
 dsimp only at hS hin'
 refine pcall ?_ rfl (by simp [A.pure,A.data,Sf.St.A]) h
 refine fo ?_
 dsimp only [Sf.St.A]
 dsimp only [Sf.St.A] at hck
 have li:(ins.map Sf.Inst.cells).length=ins.length∧(ps.map Sf.Pend.cells).length=ps.length∧(os.map Sf.Outp.cells).length=os.length:=⟨List.length_map _,List.length_map _,List.length_map _⟩
 by_cases hz:Z=0
 rotate_left
 ·have e1:(Z != 0)=true:=by simp [hz]
  rw [if_pos hz] at hr
  subst hr
  refine runx0 e1 (ai hck ti) ?_
  exact ⟨_,le_refl _,rfl⟩
 have e1:(Z != 0)=false:=by simp [hz]
 rw [if_neg (by simp [hz])] at hr
 obtain ⟨oi,oo,s0,s1,l1,l2,l3⟩:=hok hz
 have hl:=hlen hz
 dsimp only at oi oo s0 s1 l1 l2 l3
 have n10:∀ m:Int,(Wire.num m).length≤10:=fun m=>(Wire.encF_len 9 (Wire.zig m)).2
 have se:∀ s:List UInt8,s.length≤(Wire.strE s).length:=fun s=>by unfold Wire.strE; rw [List.length_append]; omega
 have sl:=se lin
 have hsl:=congrArg List.length hS
 simp only [List.length_append] at hsl
 have v0:-9223372036854775808≤ver∧ver≤9223372036854775807:=by omega
 have c1:=a_refAppendNumber Sf.magic ver (by decide) v0.1 v0.2
 have c2:=a_rastr (Sf.magic++Wire.num ver) lin (by rw [List.length_append]; omega)
 have c3:=a_refAppendNumber (Sf.magic++Wire.num ver++Wire.strE lin) ser (by simp only [List.length_append]; omega) s0 s1
 have c4:=a_refAppendNumber (Sf.magic++Wire.num ver++Wire.strE lin++Wire.num ser) ins.length (by simp only [List.length_append]; omega) (by omega) (by omega)
 unfold Sf.magic at c1
 obtain ⟨D,hD⟩:∃ D,Sf.magic++Wire.num ver++Wire.strE lin++Wire.num ser++Wire.num ins.length=D:=⟨_,rfl⟩
 have hDl:=congrArg List.length hD
 simp only [List.length_append] at hDl
 rw [hD] at c4 hS
 refine runx0 (ai e1 li) (ai hck (ai c1 (ai c2 (ai c3 (ai c4 ti))))) ?_
 refine awp_loop (fun m ts hh=>∃ (j:Nat) (l:List Blk),m=ins.length - j∧j≤ins.length∧hh=⟨.cells 27 [.str lin,.int .i64 ser,.sl 13 .no (ins.map Sf.Inst.cells),.sl 3 .no (ps.map Sf.Pend.cells),.sl 7 .no (os.map Sf.Outp.cells)]::l,[]⟩ ∧
  (ts 1 = .int .i64 ver∧ts 2 = .ptr 0 0∧ts 7 = .str (D++(ins.take j).flatMap (Sf.instE ver))∧ts 8 = .int .i64 (j:Nat))) ins.length ?_ ?_
 ·refine ⟨0,[],rfl,Nat.zero_le _,rfl,?_⟩
  rw [show (ins.take 0).flatMap (Sf.instE ver)=[] from rfl,List.append_nil]
  (exact inv0 ti)
 rintro m ts hh ⟨j,l,rfl,hj,rfl,ht⟩
 rcases Nat.lt_or_ge j ins.length with hlt | hge
 ·have hf:=row_at6 Sf.Inst.cells ins j hlt (by omega)
  have h1:=flat_take (Sf.instE ver) ins (j+1)
  have h2:=flat_snoc (Sf.instE ver) ins j hlt
  rw [h2,List.length_append] at h1
  have hix:=hin' _ (List.getElem_mem hlt)
  have hox:=oi _ (List.getElem_mem hlt)
  obtain ⟨x,hx⟩:∃ x,ins[j]=x:=⟨_,rfl⟩
  rw [hx] at hf h1 h2 hix hox
  obtain ⟨T,hT⟩:∃ T,(ins.take j).flatMap (Sf.instE ver)=T:=⟨_,rfl⟩
  rw [hT] at ht h1 h2
  obtain ⟨o1,o2,o3,o4⟩:=hox
  have ca:=a_r32inst ver hver (D++T) x hix o1 ⟨o3,o4⟩ (by rw [List.length_append]; omega)
  rw [List.append_assoc,←h2] at ca
  obtain ⟨a,d,id,ty,⟨k,n,w,vi,vy⟩,v,tn,fi,ds⟩:=x
  dsimp only [Sf.Inst.cells] at hf ca
  refine runx0 (ai ht (ai hf li)) (ai ca ti) ?_
  exact ⟨_,by omega,j+1,_,rfl,by omega,rfl,by (exact inv0 (ai ht hf))⟩
 have hf:=row_end6 Sf.Inst.cells ins j hge
 rw [List.take_of_length_le hge] at ht
 obtain ⟨D1,hD1⟩:∃ D1,D++ins.flatMap (Sf.instE ver)=D1:=⟨_,rfl⟩
 have hD1l:=congrArg List.length hD1
 simp only [List.length_append] at hD1l
 rw [hD1] at ht hS
 refine runx0 (ai ht (ai hf li)) ti ?_
 obtain ⟨D2,hD2⟩:∃ D2,D1++(if ver=2 then Wire.num ps.length++ps.flatMap Sf.pendE else [])=D2:=⟨_,rfl⟩
 have hD2l:=congrArg List.length hD2
 simp only [List.length_append] at hD2l
 rw [hD2] at hS
 refine awp_join (fun ts' h'=>(∃ l',h'=⟨.cells 27 [.str lin,.int .i64 ser,.sl 13 .no (ins.map Sf.Inst.cells),.sl 3 .no (ps.map Sf.Pend.cells),.sl 7 .no (os.map Sf.Outp.cells)]::l',[]⟩)∧(ts' 2 = .ptr 0 0∧ts' 7 = .str D2)) ?_ ?_
 ·rcases hver with rfl | rfl
  ·have e2:¬ (1:Int)≥2:=by decide
   rw [if_neg (by decide),List.append_nil] at hD2
   subst hD2
   refine runx0 (ai e2 ht) ti ?_
   exact ⟨⟨_,rfl⟩,by (exact inv0 ht)⟩
  have e2:(2:Int)≥2:=by decide
  rw [if_pos rfl] at hD2 hsl hD2l
  simp only [List.length_append] at hsl hD2l
  have cp:=a_refAppendNumber D1 ps.length (by omega) (by omega) (by omega)
  rw [←List.append_assoc] at hD2
  obtain ⟨P,hP⟩:∃ P,D1++Wire.num ps.length=P:=⟨_,rfl⟩
  have hPl:=congrArg List.length hP
  simp only [List.length_append] at hPl
  rw [hP] at cp hD2
  refine runx0 (ai e2 (ai ht li)) (ai cp ti) ?_
  refine awp_loop (fun m ts hh=>∃ (j:Nat) (l:List Blk),m=ps.length - j∧j≤ps.length∧hh=⟨.cells 27 [.str lin,.int .i64 ser,.sl 13 .no (ins.map Sf.Inst.cells),.sl 3 .no (ps.map Sf.Pend.cells),.sl 7 .no (os.map Sf.Outp.cells)]::l,[]⟩ ∧
   (ts 2 = .ptr 0 0∧ts 7 = .str (P++(ps.take j).flatMap Sf.pendE)∧ts 9 = .int .i64 (j:Nat))) ps.length ?_ ?_
  ·refine ⟨0,_,rfl,Nat.zero_le _,rfl,?_⟩
   rw [show (ps.take 0).flatMap Sf.pendE=[] from rfl,List.append_nil]
   (exact inv0 ht)
  rintro m ts' hh ⟨j',l',rfl,hj',rfl,hu⟩
  rcases Nat.lt_or_ge j' ps.length with hlt | hge'
  ·have hf:=row_at6 Sf.Pend.cells ps j' hlt (by omega)
   have h1:=flat_take Sf.pendE ps (j'+1)
   have h2:=flat_snoc Sf.pendE ps j' hlt
   rw [h2,List.length_append] at h1
   obtain ⟨x,hx⟩:∃ x,ps[j']=x:=⟨_,rfl⟩
   rw [hx] at hf h1 h2
   obtain ⟨T,hT⟩:∃ T,(ps.take j').flatMap Sf.pendE=T:=⟨_,rfl⟩
   rw [hT] at hu h1 h2
   obtain ⟨a,ty,tok⟩:=x
   dsimp only [Sf.Pend.cells] at hf
   have hpe:Sf.pendE ⟨a,ty,tok⟩=Wire.strE a++Wire.strE ty++Wire.strE tok:=rfl
   rw [hpe] at h1 h2
   simp only [List.length_append] at h1
   have sa:=se a; have st:=se ty; have sk:=se tok
   have p1:=a_rastr (P++T) a (by rw [List.length_append]; omega)
   have p2:=a_rastr (P++T++Wire.strE a) ty (by simp only [List.length_append]; omega)
   have p3:=a_rastr (P++T++Wire.strE a++Wire.strE ty) tok (by simp only [List.length_append]; omega)
   have hq:P++T++Wire.strE a++Wire.strE ty++Wire.strE tok=P++(ps.take (j'+1)).flatMap Sf.pendE:=by rw [h2]; simp only [List.append_assoc]
   rw [hq] at p3
   refine runx0 (ai hu (ai hf li)) (ai p1 (ai p2 (ai p3 ti))) ?_
   exact ⟨_,by omega,j'+1,_,rfl,by omega,rfl,by (exact inv0 (ai hu hf))⟩
  have hf:=row_end6 Sf.Pend.cells ps j' hge'
  rw [List.take_of_length_le hge',hD2] at hu
  refine runx0 (ai hu (ai hf li)) ti ?_
  exact ⟨⟨_,rfl⟩,by (exact inv0 hu)⟩
 rintro ts' hh ⟨⟨l',rfl⟩,hu⟩
 have cp:=a_refAppendNumber D2 os.length (by omega) (by omega) (by omega)
 obtain ⟨P,hP⟩:∃ P,D2++Wire.num os.length=P:=⟨_,rfl⟩
 have hPl:=congrArg List.length hP
 simp only [List.length_append] at hPl
 rw [hP] at cp hS
 refine runx0 (ai hu li) (ai cp ti) ?_
 refine awp_loop (fun m ts hh=>∃ (j:Nat) (l:List Blk),m=os.length - j∧j≤os.length∧hh=⟨.cells 27 [.str lin,.int .i64 ser,.sl 13 .no (ins.map Sf.Inst.cells),.sl 3 .no (ps.map Sf.Pend.cells),.sl 7 .no (os.map Sf.Outp.cells)]::l,[]⟩ ∧
  (ts 2 = .ptr 0 0∧ts 7 = .str (P++(os.take j).flatMap Sf.outE)∧ts 11 = .int .i64 (j:Nat))) os.length ?_ ?_
 ·refine ⟨0,_,rfl,Nat.zero_le _,rfl,?_⟩
  rw [show (os.take 0).flatMap Sf.outE=[] from rfl,List.append_nil]
  (exact inv0 hu)
 rintro m ts' hh ⟨j',l',rfl,hj',rfl,hu⟩
 rcases Nat.lt_or_ge j' os.length with hlt | hge'
 ·have hf:=row_at6 Sf.Outp.cells os j' hlt (by omega)
  have h1:=flat_take Sf.outE os (j'+1)
  have h2:=flat_snoc Sf.outE os j' hlt
  rw [h2,List.length_append] at h1
  have hox:=oo _ (List.getElem_mem hlt)
  obtain ⟨x,hx⟩:∃ x,os[j']=x:=⟨_,rfl⟩
  rw [hx] at hf h1 h2 hox
  obtain ⟨T,hT⟩:∃ T,(os.take j').flatMap Sf.outE=T:=⟨_,rfl⟩
  rw [hT] at hu h1 h2
  obtain ⟨nm,⟨k,n,w,vi,vy⟩,sn⟩:=x
  dsimp only [Sf.Outp.cells] at hf
  have hpe:Sf.outE ⟨nm,.mk k n w vi vy,sn⟩=Wire.strE nm++Val.enc (.mk k n w vi vy)++Sf.flagE sn:=rfl
  rw [hpe] at h1 h2
  dsimp only at hox
  simp only [List.length_append] at h1
  have sa:=se nm
  have p1:=a_rastr (P++T) nm (by rw [List.length_append]; omega)
  obtain ⟨F,hF⟩:∃ F,P++T++Wire.strE nm=F:=⟨_,rfl⟩
  have hFl:=congrArg List.length hF
  simp only [List.length_append] at hFl
  rw [hF] at p1
  have p2:=fun h=>a_rAppendValue (.mk k n w vi vy) F h hox.1 (by omega) hox.2
  simp only [V.A,V.cells] at p2
  have cb:=a_r32bit sn
  have p3:=a_refAppendNumber (F++Val.enc (.mk k n w vi vy)) (if sn=true then 1 else 0) (by simp only [List.length_append]; omega) (by split <;> decide) (by split <;> decide)
  have hq:F++Val.enc (.mk k n w vi vy)++Wire.num (if sn=true then 1 else 0)=P++(os.take (j'+1)).flatMap Sf.outE:=by
   rw [h2,←hF]
   unfold Sf.flagE
   simp only [List.append_assoc]
  rw [hq] at p3
  refine runx0 (ai hu (ai hf li)) (ai p1 (ai p2 (ai cb (ai p3 ti)))) ?_
  exact ⟨_,by omega,j'+1,_,rfl,by omega,rfl,by (exact inv0 (ai hu hf))⟩
 have hf:=row_end6 Sf.Outp.cells os j' hge'
 rw [List.take_of_length_le hge',←hS] at hu
 have cc:=a_r3append E (by omega)
 have hla:((Crc.app E).length:Int)=E.length+4:=by simp [Crc.app,Crc.four_length]
 by_cases hg:1048572 < E.length
 ·have e3:((Crc.app E).length:Int) > 1048576:=by omega
  rw [if_pos hg] at hr
  subst hr
  refine runx0 (ai hu (ai hf (ai li e3))) (ai cc ti) ?_
  exact ⟨_,le_refl _,rfl⟩
 ·have e3:¬ ((Crc.app E).length:Int) > 1048576:=by omega
  rw [if_neg hg] at hr
  subst hr
  refine runx0 (ai hu (ai hf (ai li e3))) (ai cc ti) ?_
  exact ⟨_,le_refl _,rfl⟩
theorem a_r32Encode (st:Sf.St) (hin:Sf.StIn st) (htp:Sf.TypIn st) (hlen:Sf.checkZ st=0→(Sf.stE 2 st).length+20≤1000000000) (h:Hp) :
  ACall Tryz.prog GT 71 [st.A] h fun r h'=>r = .tup [.str (Sf.encode 2 st).1,.int .i64 (Sf.encode 2 st).2]∧h'=h:=by
 refine pcall ?_ rfl (by simp [A.pure,A.data,Sf.St.A]) h
 refine acall_of mixedT h_r32Encode (by simp [c_r32Encode]) ?_
 dsimp only [c_r32Encode]
 have he:=a_r32encode (.inr rfl) st hin htp hlen
 unfold Sf.St.A at he ⊢
 refine runx0 ti (ai he ti) ?_
 exact ⟨_,le_refl _,rfl⟩
end AX
namespace Jr
def bodyR (r:Jr):List UInt8×Int:=if r.kind=1∧(Sf.encode 2 r.base).2≠0 then ([],(Sf.encode 2 r.base).2) else (r.body,0)
theorem encode_len2 (ver:Int) (st:Sf.St):(Sf.encode ver st).1.length≤1048576:=by
 unfold Sf.encode
 split
 ·simp
 ·split
  ·simp
  ·next h=>show (Crc.app _).length≤_; simp [Crc.app,Crc.four]; omega
theorem enc_body (r:Jr) (hv:r.validB=true):enc r=if r.bodyR.2≠0 then ([],r.bodyR.2) else if 1048576 < (Crc.app (Wire.strE r.bodyR.1)).length then ([],3) else (Crc.app (Wire.strE r.bodyR.1),0):=by
 unfold enc bodyR
 rw [if_neg (by rw [hv]; decide)]
 by_cases h:r.kind=1∧(Sf.encode 2 r.base).2≠0
 ·rw [if_pos h,if_pos h,if_pos h.2]
 ·rw [if_neg h,if_neg h]
  dsimp only
  rw [if_neg (show ¬ ((0:Int)≠0) by decide)]
end Jr
namespace AX
def c_qbody:AX.AFn:=⟨64,aS [aR 1 (.box 38 (.t 0)),aR 2 (.mv (.c (.str []))),aR 3 (.mv (aI 0))] (aS [aF 7 0 1,aL 8 7,aR 9 (.call 70 [.c (.str []),.t 8]),aM 4 9] (.seq (aS [aF 10 0 1,aL 11 10,aR 12 (.bin .eql (.t 11) (aI 5))] (.cond (.t 12) (aS [aM 13 4,aM 2 13,aR 3 (.mv (aI 0))] (.ret)) (.skip))) (.seq (aS [aF 14 0 1,aL 15 14,aR 16 (.bin .eql (.t 15) (aI 1))] (.cond (.t 16) (aS [aF 18 1 1,aR 19 (.load true 5 (.t 18)),aR 20 (.call 71 [.t 19]),aM 17 20,aE 21 17 0,aE 22 17 1,aM 5 21,aM 6 22] (.seq (aS [aM 23 6,aR 24 (.bin .neq (.t 23) (aI 0))] (.cond (.t 24) (aS [aM 25 6,aR 2 (.mv (.c (.str []))),aM 3 25] (.ret)) (.skip))) (aS [aM 26 4,aM 27 5,aR 28 (.call 38 [.t 26,.t 27]),aM 2 28,aR 3 (.mv (aI 0))] (.ret)))) (.skip))) (.seq (.reg true [aM 29 4,aF 30 6 1,⟨some 31,.load false 1 (.t 30),none,[1]⟩,⟨some 32,.call 70 [.t 29,.t 31],none,[0,2]⟩,aF 33 7 1,⟨some 34,.load false 1 (.t 33),none,[4]⟩,⟨some 35,.call 70 [.t 32,.t 34],none,[3,5,3]⟩,⟨some 4,.mv (.t 35),none,[6,6,0,1,2,3,4,5,6]⟩]) (.seq (.reg true [aM 36 4,aF 37 8 1,⟨some 38,.load false 1 (.t 37),none,[1]⟩,⟨some 39,.call 38 [.t 36,.t 38],none,[0,2]⟩,aF 40 9 1,⟨some 41,.load false 1 (.t 40),none,[4]⟩,⟨some 42,.call 38 [.t 39,.t 41],none,[3,5,3]⟩,aF 43 10 1,⟨some 44,.load false 1 (.t 43),none,[7]⟩,⟨some 45,.call 38 [.t 42,.t 44],none,[6,8,6]⟩,⟨some 4,.mv (.t 45),none,[9,9,0,1,2,3,4,5,6,7,8,9]⟩]) (.seq (aS [aF 46 0 1,aL 47 46] (.block 0 (aS [aR 49 (.bin .eql (.t 47) (aI 2)),aM 48 49] (.cond (.t 48) (aS [aM 50 4,aF 51 11 1,aL 52 51,aR 53 (.call 38 [.t 50,.t 52]),aM 2 53,aR 3 (.mv (aI 0))] (.ret)) (aS [aR 55 (.bin .eql (.t 47) (aI 4)),aM 54 55] (.cond (.t 54) (.reg false [aM 56 4,aF 57 12 1,aL 58 57,aR 59 (.call 70 [.t 56,.t 58]),aM 4 59]) (.skip))))))) (aS [aM 60 4,aF 61 13 1,aR 62 (.load true 13 (.t 61)),aR 63 (.call 72 [.t 60,.t 62,aI 2]),aM 2 63,aR 3 (.mv (aI 0))] (.ret)))))))),[.t 2,.t 3]⟩
theorem h_qbody:AX.compFn Tryz.prog 36=some c_qbody:=by kernel_rfl
def c_qencode:AX.AFn:=⟨25,aS [aR 1 (.box 38 (.t 0)),aR 2 (.mv (.c (.str []))),aR 3 (.mv (aI 0))] (.seq (aS [aR 7 (.load true 26 (.t 1)),aR 8 (.call 35 [.t 7]),aR 9 (.un .not (.t 8))] (.cond (.t 9) (aS [aR 2 (.mv (.c (.str []))),aR 3 (.mv (aI 1))] (.ret)) (.skip))) (aS [aR 11 (.load true 26 (.t 1)),aR 12 (.call 36 [.t 11]),aM 10 12,aE 13 10 0,aE 14 10 1,aM 4 13,aM 5 14] (.seq (aS [aM 15 5,aR 16 (.bin .neq (.t 15) (aI 0))] (.cond (.t 16) (aS [aM 17 5,aR 2 (.mv (.c (.str []))),aM 3 17] (.ret)) (.skip))) (aS [aM 18 4,aR 19 (.call 38 [.c (.str []),.t 18]),aR 20 (.call 37 [.t 19]),aM 6 20] (.seq (aS [aM 21 6,aR 22 (.len true (.t 21)),aR 23 (.bin .gtr (.t 22) (aI 1048576))] (.cond (.t 23) (aS [aR 2 (.mv (.c (.str []))),aR 3 (.mv (aI 3))] (.ret)) (.skip))) (aS [aM 24 6,aM 2 24,aR 3 (.mv (aI 0))] (.ret))))))),[.t 2,.t 3]⟩
theorem h_qencode:AX.compFn Tryz.prog 11=some c_qencode:=by kernel_rfl
theorem jr_instin (x:Sf.Inst) (hx:Jr.InstE x) (hl:x.attrs.lens):Sf.InstIn x:=⟨hx.a,hx.d,hx.i,hl,by have:=hx.n; omega,hx.ds⟩
theorem a_qbody (r:Jr) (hv:r.validB=true) (hl:JrLen r) (hin:Sf.StIn r.base) (htp:Sf.TypIn r.base) (hlen:Sf.checkZ r.base=0→(Sf.stE 2 r.base).length+20≤1000000000) (h:Hp) :
  ACall Tryz.prog GT 36 [.agg r.cells] h fun v h'=>v = .tup [.str r.bodyR.1,.int .i64 r.bodyR.2]∧h'=h:=by
 have ce:=a_r32Encode r.base hin htp hlen
 obtain ⟨l1,l2,l3,l4⟩:=hl
 have nl:∀ n:Int,(Wire.num n).length≤10:=fun n=>(Wire.encF_len 9 (Wire.zig n)).2
 have sl:∀ s:List UInt8,(Wire.strE s).length≤s.length+10:=fun s=>by unfold Wire.strE; rw [List.length_append]; have:=nl s.length; omega
 have sg:∀ s:List UInt8,s.length≤(Wire.strE s).length:=fun s=>by unfold Wire.strE; rw [List.length_append]; omega
 have hk:=hv
 unfold Jr.validB at hk
 have hbad:¬ Jr.badB r=true:=fun e=>by rw [if_pos e] at hk; cases hk
 rw [if_neg hbad] at hk
 have fitE:=Jr.encode_len2 2 r.base
 have hse:r.stepB=true→StepE r:=fun hs=>by
  unfold Jr.stepB at hs
  simp only [Bool.and_eq_true,decide_eq_true_eq] at hs
  obtain ⟨⟨⟨⟨s0,s1⟩,o0⟩,o1⟩,_⟩:=hs
  exact ⟨by omega,by omega,by omega,by omega⟩
 have hae:Jr.afterB r=true→Jr.InstE r.after:=fun ha=>Jr.afterB_enc (op:=r.op) (by unfold Jr.afterB at ha; exact ha)
 have ci:=fun (ha:Jr.afterB r=true) (s:List UInt8) (hs:s.length≤200000000)=>a_r32inst 2 (.inr rfl) s r.after (jr_instin _ (hae ha) l4) ⟨1,0,(hae ha).v⟩ ⟨(hae ha).v0,(hae ha).v1⟩ (by omega)
 have hbody:r.body=Wire.num r.kind++Jr.restE r (Sf.encode 2 r.base).1:=rfl
 unfold Jr.restE at hbody
 obtain ⟨N,hN⟩:∃ N,Jr.bodyR r=N:=⟨_,rfl⟩
 have hN':=hN
 unfold Jr.bodyR at hN'
 rw [hN]
 clear hN
 obtain ⟨B,hB⟩:∃ B,(Sf.encode 2 r.base).1=B:=⟨_,rfl⟩
 obtain ⟨E,hE⟩:∃ E,(Sf.encode 2 r.base).2=E:=⟨_,rfl⟩
 rw [hB,hE] at ce
 rw [hB] at hbody fitE
 rw [hE] at hN'
 have hS1:∀ k:Int,Wire.num k++Jr.stepE r=Wire.num k++Wire.num r.step++Wire.num r.op++Wire.strE r.addr++Wire.strE r.dep++Wire.strE r.typ:=fun k=>by simp only [Jr.stepE,List.append_assoc]
 have hSl:(Jr.stepE r).length=(Wire.num r.step).length+(Wire.num r.op).length+(Wire.strE r.addr).length+(Wire.strE r.dep).length+(Wire.strE r.typ).length:=by simp only [Jr.stepE,List.length_append]
 have ga:=sg r.addr; have gd:=sg r.dep; have gt:=sg r.typ
 obtain ⟨S1,hS⟩:∃ S,Jr.stepE r=S:=⟨_,rfl⟩
 rw [hS] at hbody l1 hS1 hSl
 obtain ⟨I1,hI1⟩:∃ S,Sf.instE 2 r.after=S:=⟨_,rfl⟩
 rw [hI1] at ci hbody l2
 obtain ⟨X,hX⟩:∃ X,r.body=X:=⟨_,rfl⟩
 rw [hX] at hbody hN'
 clear hv hbad hX hS hI1 hB hE hae
 obtain ⟨kd,⟨lin,ser,ins,ps,os⟩,st,op,ad,dp,ty,tk,er,⟨a1,a2,a3,a4,⟨k,nn,ss,is,ks⟩,v,tn,fi,ds⟩⟩:=r
 dsimp only at hk hbody hN' l3 hS1 hSl ga gd gt
 simp only [Sf.Inst.cells,Sf.St.A] at ce ci
 simp only [Jr.cells,Sf.Inst.cells,List.cons_append,List.nil_append]
 refine pcall ?_ rfl (by simp [A.pure,A.data]) h
 refine acall_of mixedT h_qbody (by simp [c_qbody]) ?_
 dsimp only [c_qbody]
 have c0:=fun (k:Int) (h0:-9223372036854775808≤k) (h1:k≤9223372036854775807)=>a_refAppendNumber [] k (by simp) h0 h1
 simp only [List.nil_append] at c0
 have chain:∀ kk:Int,StepE ⟨kk,⟨lin,ser,ins,ps,os⟩,st,op,ad,dp,ty,tk,er,⟨a1,a2,a3,a4,⟨k,nn,ss,is,ks⟩,v,tn,fi,ds⟩⟩ →
   (∀ h,ACall Tryz.prog GT 70 [.str (Wire.num kk),.int .i64 st] h fun r h'=>r = .str (Wire.num kk++Wire.num st)∧h'=h) ∧
   (∀ h,ACall Tryz.prog GT 70 [.str (Wire.num kk++Wire.num st),.int .i64 op] h fun r h'=>r = .str (Wire.num kk++Wire.num st++Wire.num op)∧h'=h) ∧
   (∀ h,ACall Tryz.prog GT 38 [.str (Wire.num kk++Wire.num st++Wire.num op),.str ad] h fun r h'=>r = .str (Wire.num kk++Wire.num st++Wire.num op++Wire.strE ad)∧h'=h) ∧
   (∀ h,ACall Tryz.prog GT 38 [.str (Wire.num kk++Wire.num st++Wire.num op++Wire.strE ad),.str dp] h fun r h'=>r = .str (Wire.num kk++Wire.num st++Wire.num op++Wire.strE ad++Wire.strE dp)∧h'=h) ∧
   (∀ h,ACall Tryz.prog GT 38 [.str (Wire.num kk++Wire.num st++Wire.num op++Wire.strE ad++Wire.strE dp),.str ty] h fun r h'=>r = .str (Wire.num kk++S1)∧h'=h):=by
  intro kk hs
  have nk:=nl kk
  refine ⟨a_refAppendNumber _ _ (by omega) hs.s0 hs.s1,a_refAppendNumber _ _ (by rw [List.length_append]; omega) hs.o0 hs.o1,a_rastr _ _ (by simp only [List.length_append]; omega),a_rastr _ _ (by simp only [List.length_append]; omega),?_⟩
  rw [hS1]
  exact a_rastr _ _ (by simp only [List.length_append]; omega)
 by_cases k5:kd=5
 ·subst k5
  rw [if_neg (by decide),if_neg (by decide),if_neg (by decide),if_neg (by decide),List.append_nil] at hbody
  rw [if_neg (fun h1=>absurd h1.1 (by decide))] at hN'
  subst hN'
  have cn:=c0 5 (by decide) (by decide)
  rw [←hbody] at cn
  refine runx0 ti (ai cn ti) ?_
  exact ⟨_,le_refl _,rfl⟩
 have f5:(kd == 5)=false:=by simp [k5]
 by_cases k1:kd=1
 ·subst k1
  rw [if_pos rfl] at hbody
  have cn:=c0 1 (by decide) (by decide)
  have ct:=a_rastr (Wire.num 1) B (by have:=nl 1; omega)
  rw [←hbody] at ct
  by_cases hE0:E=0
  rotate_left
  ·have e1:(E != 0)=true:=by simp [hE0]
   rw [if_pos ⟨rfl,hE0⟩] at hN'
   subst hN'
   refine runx0 e1 (ai cn (ai ce ti)) ?_
   exact ⟨_,le_refl _,rfl⟩
  ·subst hE0
   rw [if_neg (fun h1=>h1.2 rfl)] at hN'
   subst hN'
   refine runx0 ti (ai cn (ai ce (ai ct ti))) ?_
   exact ⟨_,le_refl _,rfl⟩
 have f1:(kd == 1)=false:=by simp [k1]
 rw [if_neg (fun h1=>k1 h1.1)] at hN'
 subst hN'
 rw [if_neg k1] at hbody
 rw [if_neg (by rintro (h | h) <;> contradiction)] at hk
 by_cases k2:kd=2
 ·subst k2
  rw [if_pos rfl] at hbody
  rw [if_pos rfl,Bool.and_eq_true,Bool.and_eq_true,Bool.and_eq_true] at hk
  obtain ⟨n1,n2,s1,s2,s3⟩:=chain 2 (hse hk.1.1.1)
  have cn:=c0 2 (by decide) (by decide)
  have s4:=a_rastr (Wire.num 2++S1) tk (by rw [List.length_append]; have:=nl 2; omega)
  rw [List.append_assoc,←hbody] at s4
  refine runx0 ti (ai cn (ai n1 (ai n2 (ai s1 (ai s2 (ai s3 (ai s4 ti))))))) ?_
  exact ⟨_,le_refl _,rfl⟩
 have f2:(kd == 2)=false:=by simp [k2]
 rw [if_neg k2] at hbody hk
 by_cases k3:kd=3
 ·subst k3
  rw [if_pos rfl] at hbody hk
  rw [Bool.and_eq_true] at hk
  obtain ⟨n1,n2,s1,s2,s3⟩:=chain 3 (hse hk.1)
  have cn:=c0 3 (by decide) (by decide)
  have s4:=ci hk.2 (Wire.num 3++S1) (by rw [List.length_append]; have:=nl 3; omega)
  rw [List.append_assoc,←hbody] at s4
  refine runx0 ti (ai cn (ai n1 (ai n2 (ai s1 (ai s2 (ai s3 (ai s4 ti))))))) ?_
  exact ⟨_,le_refl _,rfl⟩
 have f3:(kd == 3)=false:=by simp [k3]
 rw [if_neg k3] at hbody hk
 by_cases k4:kd=4
 ·subst k4
  rw [if_pos rfl] at hbody hk
  rw [Bool.and_eq_true,Bool.and_eq_true,Bool.and_eq_true,decide_eq_true_eq,decide_eq_true_eq] at hk
  obtain ⟨n1,n2,s1,s2,s3⟩:=chain 4 (hse hk.1.1.1)
  have cn:=c0 4 (by decide) (by decide)
  have ne:=nl er
  have n4:=nl 4
  have s4:=a_refAppendNumber (Wire.num 4++S1) er (by rw [List.length_append]; omega) (by omega) (by omega)
  have s5:=ci hk.1.1.2 (Wire.num 4++S1++Wire.num er) (by simp only [List.length_append]; omega)
  have hb2:Wire.num 4++S1++Wire.num er++I1=X:=by rw [hbody]; simp only [List.append_assoc]
  rw [hb2] at s5
  refine runx0 ti (ai cn (ai n1 (ai n2 (ai s1 (ai s2 (ai s3 (ai s4 (ai s5 ti)))))))) ?_
  exact ⟨_,le_refl _,rfl⟩
 rw [if_neg k4] at hk
 cases hk
theorem a_qencode (r:Jr) (hl:JrLen r) (hd:r.after.deps.length≤1000000000) (hin:Sf.StIn r.base) (htp:Sf.TypIn r.base) (hlen:Sf.checkZ r.base=0→(Sf.stE 2 r.base).length+20≤1000000000) (h:Hp) :
  ACall Tryz.prog GT 11 [.agg r.cells] h fun v h'=>v = .tup [.str (Jr.enc r).1,.int .i64 (Jr.enc r).2]∧h'=h:=by
 have cv:=a_qvalid r ⟨hin,hl.lens,hd⟩
 rw [Jr.validR_eq] at cv
 have cb:=fun hv=>a_qbody r hv hl hin htp hlen
 have nl:∀ n:Int,(Wire.num n).length≤10:=fun n=>(Wire.encF_len 9 (Wire.zig n)).2
 have hbl:r.validB=true→r.bodyR.1.length≤300000000:=fun hv=>by
  have sl:∀ s:List UInt8,(Wire.strE s).length≤s.length+10:=fun s=>by unfold Wire.strE; rw [List.length_append]; have:=nl s.length; omega
  have l1:=hl.step; have l2:=hl.inst; have l3:=hl.tok
  have s1:=sl r.tok
  have s2:=sl (Sf.encode 2 r.base).1
  have s3:=Jr.encode_len2 2 r.base
  have n1:=nl r.kind
  have n2:=nl r.err
  unfold Jr.bodyR
  split
  ·simp
  ·unfold Jr.body Jr.restE
   dsimp only
   rw [List.length_append]
   repeat' split
   all_goals (try simp only [List.length_append,List.length_nil])
   all_goals omega
 have he:=fun hv=>Jr.enc_body r hv
 have hi:r.validB=false→Jr.enc r=([],1):=fun hv'=>by unfold Jr.enc; rw [if_pos hv']
 obtain ⟨⟨R,Z⟩,hR⟩:∃ q,Jr.enc r=q:=⟨_,rfl⟩
 obtain ⟨⟨Y,E⟩,hY⟩:∃ q,Jr.bodyR r=q:=⟨_,rfl⟩
 rw [hR] at he hi ⊢
 rw [hY] at cb he hbl
 dsimp only at cb he hbl ⊢
 obtain ⟨b,hb⟩:∃ b,r.validB=b:=⟨_,rfl⟩
 rw [hb] at cv cb he hi hbl
 clear hR hY hb hl hin htp hlen hd
 obtain ⟨kd,⟨lin,ser,ins,ps,os⟩,st,op,ad,dp,ty,tk,er,⟨a1,a2,a3,a4,⟨k,nn,ss,is,ks⟩,v,tn,fi,ds⟩⟩:=r
 simp only [Jr.cells,Sf.Inst.cells,List.cons_append,List.nil_append] at cv cb ⊢
 refine pcall ?_ rfl (by simp [A.pure,A.data]) h
 refine acall_of mixedT h_qencode (by simp [c_qencode]) ?_
 dsimp only [c_qencode]
 cases b with
 | false =>
  have h1:=hi rfl
  injection h1 with h1 h2
  subst h1; subst h2
  refine runx0 ti (ai cv ti) ?_
  exact ⟨_,le_refl _,rfl⟩
 | true =>
  have cb:=cb rfl
  have he:=he rfl
  have hbl:=hbl rfl
  by_cases hE0:E=0
  rotate_left
  ·have e1:(E != 0)=true:=by simp [hE0]
   rw [if_pos hE0] at he
   injection he with h1 h2
   subst h1; subst h2
   refine runx0 e1 (ai cv (ai cb ti)) ?_
   exact ⟨_,le_refl _,rfl⟩
  subst hE0
  rw [if_neg (by decide)] at he
  have hn:=nl (Y.length:Int)
  have ca:=a_rastr [] Y (by simp only [List.length_nil]; omega)
  simp only [List.nil_append] at ca
  have cc:=a_r3append (Wire.strE Y) (by unfold Wire.strE; rw [List.length_append]; omega)
  obtain ⟨D,hD⟩:∃ D,Crc.app (Wire.strE Y)=D:=⟨_,rfl⟩
  rw [hD] at he cc
  by_cases g:(D.length:Int) > 1048576
  ·rw [if_pos (by omega)] at he
   injection he with h1 h2
   subst h1; subst h2
   refine runx0 g (ai cv (ai cb (ai ca (ai cc ti)))) ?_
   exact ⟨_,le_refl _,rfl⟩
  ·rw [if_neg (by omega)] at he
   injection he with h1 h2
   subst h1; subst h2
   refine runx0 g (ai cv (ai cb (ai ca (ai cc ti)))) ?_
   exact ⟨_,le_refl _,rfl⟩
def c_r31Small:AX.AFn:=⟨71,aS [aR 3 (.box 27 (.t 0)),aR 6 (.mv (.c (.bool false)))] (.seq (aS [aF 9 2 3,aL 10 9,aR 11 (.len false (.t 10)),aM 12 1,aR 13 (.bin .gtr (.t 11) (.t 12)),aM 14 13,aG 15 (.faddr 3 (.t 3)) 14 false,aG 16 (.load false 1 (.t 15)) 14 false,aG 17 (.len false (.t 16)) 14 false,aG 18 (.mv (.t 1)) 14 false,aG 19 (.bin .gtr (.t 17) (.t 18)) 14 false,aR 20 (.pick (.t 14) (.c (.bool true)) (.t 19)),aM 21 20,aG 22 (.faddr 4 (.t 3)) 21 false,aG 23 (.load false 1 (.t 22)) 21 false,aG 24 (.len false (.t 23)) 21 false,aG 25 (.mv (.t 1)) 21 false,aG 26 (.bin .gtr (.t 24) (.t 25)) 21 false,aR 27 (.pick (.t 21) (.c (.bool true)) (.t 26))] (.cond (.t 27) (aS [aR 6 (.mv (.c (.bool false)))] (.ret)) (.skip))) (.seq (aS [aR 7 (.mv (aI 0))] (.block 0 (.loop (.seq (aS [aM 28 7,aF 29 2 3,aL 30 29,aR 31 (.len false (.t 30)),aR 32 (.bin .lss (.t 28) (.t 31))] (.cond (.t 32) (.skip) (.exit 0))) (.seq (.block 1 (aS [aF 35 2 3,aL 36 35,aM 37 7,aR 38 (.iaddr 13 (.t 36) (.t 37)),aF 39 4 38,aR 40 (.load true 5 (.t 39)),aM 41 2,aR 42 (.call 23 [.t 40,.t 41]),aR 43 (.un .not (.t 42)),aM 44 43,aG 45 (.faddr 2 (.t 3)) 44 false,aG 46 (.load false 1 (.t 45)) 44 false,aG 47 (.mv (.t 7)) 44 false,aG 48 (.iaddr 13 (.t 46) (.t 47)) 44 false,aG 49 (.faddr 12 (.t 48)) 44 false,aG 50 (.load false 1 (.t 49)) 44 false,aG 51 (.len false (.t 50)) 44 false,aG 52 (.mv (.t 1)) 44 false,aG 53 (.bin .gtr (.t 51) (.t 52)) 44 false,aR 54 (.pick (.t 44) (.c (.bool true)) (.t 53))] (.cond (.t 54) (aS [aR 6 (.mv (.c (.bool false)))] (.ret)) (.skip)))) (.reg false [aM 33 7,aR 34 (.bin .add (.t 33) (aI 1)),aM 7 34])))))) (.seq (aS [aR 8 (.mv (aI 0))] (.block 2 (.loop (.seq (aS [aM 55 8,aF 56 4 3,aL 57 56,aR 58 (.len false (.t 57)),aR 59 (.bin .lss (.t 55) (.t 58))] (.cond (.t 59) (.skip) (.exit 2))) (.seq (.block 3 (aS [aF 62 4 3,aL 63 62,aM 64 8,aR 65 (.iaddr 7 (.t 63) (.t 64)),aF 66 1 65,aR 67 (.load true 5 (.t 66)),aM 68 2,aR 69 (.call 23 [.t 67,.t 68]),aR 70 (.un .not (.t 69))] (.cond (.t 70) (aS [aR 6 (.mv (.c (.bool false)))] (.ret)) (.skip)))) (.reg false [aM 60 8,aR 61 (.bin .add (.t 60) (aI 1)),aM 8 61])))))) (aS [aR 6 (.mv (.c (.bool true)))] (.ret))))),[.t 6]⟩
theorem h_r31Small:AX.compFn Tryz.prog 22=some c_r31Small:=by kernel_rfl
namespace Sf
def smallV (v:V) (nd:Nat):Bool:=decide (0≤Val.left v nd 40)&&decide (IntKind.i64.wrap (Val.keysN v)≤2*(nd:Int))
def smallI (parts:Int) (nd:Nat) (x:Sf.Inst):Bool:=smallV x.attrs nd&&!decide ((x.deps.length:Int) > parts)
def smallP (parts:Int) (nd:Nat) (s:Sf.St):Bool:=
 !(decide ((s.insts.length:Int) > parts)||decide ((s.pends.length:Int) > parts)||decide ((s.outs.length:Int) > parts))&&(s.insts.all (smallI parts nd)&&s.outs.all fun o=>smallV o.value nd)
end Sf
theorem all_drop {α:Type} (p:α→Bool) (l:List α) (i:Nat) (h:i < l.length):(l.drop i).all p=(p l[i]&&(l.drop (i+1)).all p):=by
 rw [List.drop_eq_getElem_cons h,List.all_cons]
theorem a_r31Small (st:Sf.St) (hin:Sf.StIn st) (parts:Int) (nd:Nat) (hp:0≤parts) (hp2:parts≤1000000) (hn:nd≤1000000) (h:Hp):ACall Tryz.prog GT 22 [st.A,.int .i64 parts,.int .i64 (nd:Int)] h fun r h'=>r = .bool (Sf.smallP parts nd st)∧h'=h:=by
 refine pcall ?_ rfl (by simp [A.pure,A.data,Sf.St.A]) h
 refine acall_of mixedT h_r31Small (by simp [c_r31Small]) ?_
 dsimp only [c_r31Small]
 have hli:=hin.li
 have hlo:=hin.lo
 have hci:=fun x (hx:x∈st.insts)=>a_rSmall x.attrs nd hn (hin.insts x hx).l
 have hdi:=fun x (hx:x∈st.insts)=>(hin.insts x hx).n
 have hco:=fun x (hx:x∈st.outs)=>a_rSmall x.value nd hn (hin.outs x hx).2
 obtain ⟨lin,ser,ins,ps,os⟩:=st
 simp only [Sf.St.A]
 dsimp only at hli hlo hci hdi hco
 have lm1:(ins.map Sf.Inst.cells).length=ins.length:=List.length_map _
 have lm2:(ps.map Sf.Pend.cells).length=ps.length:=List.length_map _
 have lm3:(os.map Sf.Outp.cells).length=os.length:=List.length_map _
 obtain ⟨q,hq⟩:∃ q,Sf.smallP parts nd ⟨lin,ser,ins,ps,os⟩=q:=⟨_,rfl⟩
 rw [hq]
 unfold Sf.smallP at hq
 dsimp only at hq
 by_cases g1:(ins.length:Int) > parts
 ·have:false=q:=by rw [←hq]; simp [g1]
  subst this
  refine run0 (ai lm1 (ai lm2 (ai lm3 g1))) ?_
  exact ⟨_,le_refl _,rfl⟩
 by_cases g2:(ps.length:Int) > parts
 ·have:false=q:=by rw [←hq]; simp [g2]
  subst this
  refine run0 (ai lm1 (ai lm2 (ai lm3 (ai g1 g2)))) ?_
  exact ⟨_,le_refl _,rfl⟩
 by_cases g3:(os.length:Int) > parts
 ·have:false=q:=by rw [←hq]; simp [g3]
  subst this
  refine run0 (ai lm1 (ai lm2 (ai lm3 (ai g1 (ai g2 g3))))) ?_
  exact ⟨_,le_refl _,rfl⟩
 have hq':(ins.all (Sf.smallI parts nd)&&os.all fun o=>Sf.smallV o.value nd)=q:=by rw [←hq]; simp [g1,g2,g3]
 refine run0 (ai lm1 (ai lm2 (ai lm3 (ai g1 (ai g2 g3))))) ?_
 refine awp_loop (fun m ts hh=>hh=⟨[.cells 27 [.str lin,.int .i64 ser,.sl 13 .no (ins.map Sf.Inst.cells),.sl 3 .no (ps.map Sf.Pend.cells),.sl 7 .no (os.map Sf.Outp.cells)]],[]⟩∧∃ (i:Nat),m=ins.length - i∧i≤ins.length∧(ins.drop i).all (Sf.smallI parts nd)=ins.all (Sf.smallI parts nd)∧ts 1 = .int .i64 parts∧ts 2 = .int .i64 (nd:Int)∧ts 3 = .ptr 0 0∧ts 7 = .int .i64 (i:Nat)) ins.length ?_ ?_
 ·exact ⟨rfl,0,rfl,Nat.zero_le _,rfl,by (exact ev0 ti),by (exact ev0 ti),by (exact ev0 ti),by (exact inv0 ti)⟩
 ·rintro m ts hh ⟨rfl,i,rfl,hi,heq,t1,t2,t3,t7⟩
  by_cases hlt:i < ins.length
  ·have hlt2:(i:Int) < (ins.length:Int):=by omega
   have hla:(i:Int) < ((ins.map Sf.Inst.cells).length:Int):=by rw [lm1]; omega
   have hj0:(0:Int)≤(i:Int):=by omega
   have ei:IntKind.i64.wrap ((i:Int)+1)=((i+1:Nat):Int):=by rw [wrap64 (by omega) (by omega)]; omega
   have hg:=map_getD Sf.Inst.cells ins i hlt
   have hc:=hci _ (List.getElem_mem hlt)
   rw [all_drop _ _ _ hlt] at heq
   obtain ⟨x,hxx⟩:∃ x,ins[i]=x:=⟨_,rfl⟩
   rw [hxx] at hg hc heq
   obtain ⟨a,d,id,ty,⟨k,n,w,vi,vy⟩,v,tn,fi,ds⟩:=x
   simp only [Sf.Inst.cells] at hg
   obtain ⟨b,hb⟩:∃ b,Sf.smallV (.mk k n w vi vy) nd=b:=⟨_,rfl⟩
   have hb':(decide (0≤Val.left (.mk k n w vi vy) nd 40)&&decide (IntKind.i64.wrap (Val.keysN (.mk k n w vi vy))≤2*(nd:Int)))=b:=hb
   dsimp only at hc
   rw [hb'] at hc
   have hsx:Sf.smallI parts nd ⟨a,d,id,ty,⟨k,n,w,vi,vy⟩,v,tn,fi,ds⟩=(Sf.smallV (.mk k n w vi vy) nd&&!decide ((ds.length:Int) > parts)):=rfl
   rw [hsx,hb] at heq
   have ld:(strsA ds).length=ds.length:=strsA_length ds
   simp only [V.A,V.cells] at hc
   refine run0 (ai t1 (ai t2 (ai t3 (ai t7 (ai lm1 (ai hlt2 (ai hla (ai hj0 hg)))))))) ?_
   refine use (hc _) ?_
   cases b
   ·refine run0 (ai t1 (ai t2 (ai t3 t7))) ?_
    exact ⟨_,le_refl _,by rw [tupA_1,←hq',show ins.all (Sf.smallI parts nd)=false from heq.symm]; rfl⟩
   ·by_cases gd:(ds.length:Int) > parts
    ·refine run0 (ai t1 (ai t2 (ai t3 (ai t7 (ai lm1 (ai hlt2 (ai hla (ai hj0 (ai hg (ai ld gd)))))))))) ?_
     exact ⟨_,le_refl _,by rw [tupA_1,←hq',show ins.all (Sf.smallI parts nd)=false from heq.symm.trans (by simp [gd])]; rfl⟩
    ·have hn:(true&&!decide ((ds.length:Int) > parts))=true:=by simp [gd]
     rw [hn,Bool.true_and] at heq
     refine run0 (ai t1 (ai t2 (ai t3 (ai t7 (ai lm1 (ai hlt2 (ai hla (ai hj0 (ai hg (ai ld (ai gd ei))))))))))) ?_
     exact ⟨ins.length - (i+1),by omega,rfl,i+1,rfl,by omega,heq,by (exact ev0 t1),by (exact ev0 t2),by (exact ev0 t3),by (exact ev0 ei)⟩
  ·have hlt2:¬ (i:Int) < (ins.length:Int):=by omega
   rw [List.drop_of_length_le (by omega),List.all_nil] at heq
   rw [←heq,Bool.true_and] at hq'
   refine run0 (ai t1 (ai t2 (ai t3 (ai t7 (ai lm1 hlt2))))) ?_
   refine awp_loop (fun m ts hh=>hh=⟨[.cells 27 [.str lin,.int .i64 ser,.sl 13 .no (ins.map Sf.Inst.cells),.sl 3 .no (ps.map Sf.Pend.cells),.sl 7 .no (os.map Sf.Outp.cells)]],[]⟩∧∃ (i:Nat),m=os.length - i∧i≤os.length∧((os.drop i).all fun o=>Sf.smallV o.value nd)=(os.all fun o=>Sf.smallV o.value nd)∧ts 2 = .int .i64 (nd:Int)∧ts 3 = .ptr 0 0∧ts 8 = .int .i64 (i:Nat)) os.length ?_ ?_
   ·exact ⟨rfl,0,rfl,Nat.zero_le _,rfl,by (exact ev0 t2),by (exact ev0 t3),by (exact inv0 ti)⟩
   ·rintro m ts hh ⟨rfl,i,rfl,hi,heq,t2,t3,t8⟩
    by_cases hlt:i < os.length
    ·have hlt2:(i:Int) < (os.length:Int):=by omega
     have hla:(i:Int) < ((os.map Sf.Outp.cells).length:Int):=by rw [lm3]; omega
     have hj0:(0:Int)≤(i:Int):=by omega
     have ei:IntKind.i64.wrap ((i:Int)+1)=((i+1:Nat):Int):=by rw [wrap64 (by omega) (by omega)]; omega
     have hg:=map_getD Sf.Outp.cells os i hlt
     have hc:=hco _ (List.getElem_mem hlt)
     rw [all_drop _ _ _ hlt] at heq
     obtain ⟨x,hxx⟩:∃ x,os[i]=x:=⟨_,rfl⟩
     rw [hxx] at hg hc heq
     obtain ⟨a,⟨k,n,w,vi,vy⟩,sn⟩:=x
     simp only [Sf.Outp.cells] at hg
     obtain ⟨b,hb⟩:∃ b,Sf.smallV (.mk k n w vi vy) nd=b:=⟨_,rfl⟩
     have hb':(decide (0≤Val.left (.mk k n w vi vy) nd 40)&&decide (IntKind.i64.wrap (Val.keysN (.mk k n w vi vy))≤2*(nd:Int)))=b:=hb
     dsimp only at hc heq
     rw [hb'] at hc
     rw [hb] at heq
     simp only [V.A,V.cells] at hc
     refine run0 (ai t2 (ai t3 (ai t8 (ai lm3 (ai hlt2 (ai hla (ai hj0 hg))))))) ?_
     refine use (hc _) ?_
     cases b
     ·refine run0 (ai t2 (ai t3 t8)) ?_
      exact ⟨_,le_refl _,by rw [tupA_1,←hq',←heq]; rfl⟩
     ·rw [Bool.true_and] at heq
      refine run0 (ai t2 (ai t3 (ai t8 ei))) ?_
      exact ⟨os.length - (i+1),by omega,rfl,i+1,rfl,by omega,heq,by (exact ev0 t2),by (exact ev0 t3),by (exact ev0 ei)⟩
    ·have hlt2:¬ (i:Int) < (os.length:Int):=by omega
     rw [List.drop_of_length_le (by omega),List.all_nil] at heq
     refine run0 (ai t2 (ai t3 (ai t8 (ai lm3 hlt2)))) ?_
     exact ⟨_,le_refl _,by rw [tupA_1,←hq',←heq]⟩
end AX
end Go.Proofs.YtahmpiioegemaaaGreatDoor

namespace Go.Proofs.YtahmpiioegemaaaGreatDoor
open Go.RowKit Go.ChangeShapes Go.WideShapes
namespace AX
section
variable {H:Type} {enc:TypeId×Value→H} {w:World} {base:Nat} {spare:Nat→Bool} {held:Bool} {r:Reach} {b0:Nat} {v:Value} {d:DataW H} {p:List MemPlace}
end
end AX
end Go.Proofs.YtahmpiioegemaaaGreatDoor
