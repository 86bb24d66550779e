/- Part of what the proof needs. -/
import Derived.Test.YtdgcbckcameggaaGreatDoorMFrStatefileReadsI
import Derived.Test.YtdgcbckcameggaaGreatDoorMFrStatefileReadsJ
import Derived.Test.YtdgcbckcameggaaGreatDoorMFrStatefileReadsK
import Derived.Test.YtdgcbckcameggaaGreatDoorMFrStatefileReadsO
import Derived.Test.YtdgcbckcameggaaGreatDoorMFrStatefileReadsP
import Derived.Test.YtdgcbckcameggaaGreatDoorMFrStatefileReadsQ
set_option maxHeartbeats 4000000
set_option linter.unusedSimpArgs false
set_option linter.unusedVariables false
set_option linter.unnecessarySimpa false
namespace Go.Proofs.YtdgcbckcameggaaGreatDoor
open Go.RowKit
namespace AX
def c_vknown:AX.AFn:=⟨12,aS [aR 1 (.box 42 (.t 0)),aR 2 (.mv (.c (.bool false)))] (aS [aF 3 0 1,aL 4 3,aR 5 (.bin .neq (.t 4) (aI 6)),aM 6 5,aG 7 (.faddr 3 (.t 1)) 6 true,aG 8 (.load false 1 (.t 7)) 6 true,aG 9 (.call 94 [.t 8,.c (.fn 95 [])]) 6 true,aG 10 (.un .not (.t 9)) 6 true,aR 11 (.pick (.t 6) (.t 10) (.c (.bool false))),aM 2 11] (.ret)),[.t 2]⟩
theorem h_vknown:AX.compFn Tryz.prog 71=some c_vknown:=by kernel_rfl
def c_vknown1:AX.AFn:=⟨6,aS [aR 1 (.box 42 (.t 0)),aR 2 (.mv (.c (.bool false)))] (aS [aR 3 (.load true 5 (.t 1)),aR 4 (.call 71 [.t 3]),aR 5 (.un .not (.t 4)),aM 2 5] (.ret)),[.t 2]⟩
theorem h_vknown1:AX.compFn Tryz.prog 95=some c_vknown1:=by kernel_rfl
def c_containsv:AX.AFn:=⟨9,aS [aR 4 (.mv (.c (.bool false)))] (aS [aM 5 0,aM 6 1,aR 7 (.call 121 [.t 5,.t 6]),aR 8 (.bin .geq (.t 7) (aI 0)),aM 4 8] (.ret)),[.t 4]⟩
theorem h_containsv:AX.compFn Tryz.prog 94=some c_containsv:=by kernel_rfl
def c_indexv:AX.AFn:=⟨19,aS [aR 4 (.mv (aI 0))] (.seq (aS [aM 6 0,aR 7 (.len false (.t 6)),aR 8 (.mv (aI 0))] (.block 0 (.loop (aS [aR 9 (.bin .lss (.t 8) (.t 7))] (.seq (.cond (.t 9) (.skip) (.exit 0)) (.seq (.block 1 (aS [aM 10 8,aM 5 10] (aS [aM 11 1,aM 12 0,aM 13 5,aR 14 (.iaddr 5 (.t 12) (.t 13)),aR 15 (.load true 5 (.t 14)),aR 16 (.callv (.t 11) [.t 15])] (.cond (.t 16) (aS [aM 17 5,aM 4 17] (.ret)) (.skip))))) (.reg false [aR 18 (.bin .add (.t 8) (aI 1)),aM 8 18]))))))) (aS [aR 4 (.mv (aI (-1)))] (.ret))),[.t 4]⟩
theorem h_indexv:AX.compFn Tryz.prog 121=some c_indexv:=by kernel_rfl
def unkIdx:Nat→List V→Int
 | _,[]=>-1
 | i,v::l=>if Sf.known v=true then unkIdx (i+1) l else i
theorem unkIdx_ge:∀ (l:List V) (i:Nat),unkIdx i l≥0↔Sf.knowns l=false
 | [],i=>by simp [unkIdx,Sf.knowns]
 | v::l,i=>by
  unfold unkIdx Sf.knowns
  cases h:Sf.known v
  ·simp
  ·simp only [if_true,Bool.true_and]; exact unkIdx_ge l (i+1)
theorem a_indexv (is:List V) (hn:is.length≤9223372036854775807) (hf:∀ x∈is,∀ h,ACall Tryz.prog GT 95 [x.A] h fun r h'=>r = .bool (!Sf.known x)∧h'=h) (h:Hp):ACall Tryz.prog GT 121 [.sl 5 .no (V.cellss is),.fn 95 []] h fun r h'=>r = .int .i64 (unkIdx 0 is)∧h'=h:=by
 refine pcall ?_ rfl (by simp [A.pure,A.data]) h
 refine acall_of mixedT h_indexv (by simp [c_indexv]) ?_
 dsimp only [c_indexv]
 obtain ⟨D,hD⟩:∃ D,unkIdx 0 is=D:=⟨_,rfl⟩
 rw [hD]
 refine run0 @V.cellss_length ?_
 refine awp_loop (fun mm ts h=>∃ (j:Nat),mm=is.length - j∧j≤is.length∧h=⟨[],[]⟩∧unkIdx j (is.drop j)=D∧ts 0 = .sl 5 .no (V.cellss is)∧ts 1 = .fn 95 []∧ts 7 = .int .i64 (is.length:Nat)∧ts 8 = .int .i64 (j:Nat)) is.length ?_ ?_
 ·exact ⟨0,by omega,by omega,rfl,hD,by (exact ev0 ti),by (exact ev0 ti),by (exact ev0 @V.cellss_length),by (exact inv0 ti)⟩
 rintro mm ts h ⟨j,rfl,hjc,rfl,hit,t0,t1,t7,t8⟩
 by_cases hj:j < is.length
 ·have hlt:(j:Int) < (is.length:Int):=by omega
  have hlt':(j:Int) < ((V.cellss is).length:Int):=by rw [V.cellss_length]; exact hlt
  have hj0:(0:Int)≤(j:Int):=by omega
  have ei:IntKind.i64.wrap ((j:Int)+1)=((j+1:Nat):Int):=by rw [wrap64 (by omega) (by omega)]; omega
  have hg:=V.cellss_get is j hj
  have cf:=hf is[j] (List.getElem_mem hj)
  rw [List.drop_eq_getElem_cons hj] at hit
  unfold unkIdx at hit
  obtain ⟨x,hx⟩:∃ x,is[j]=x:=⟨_,rfl⟩
  rw [hx] at hg cf hit
  obtain ⟨K,hK⟩:∃ K,Sf.known x=K:=⟨_,rfl⟩
  rw [hK] at cf hit
  obtain ⟨k,n,w,vi,vy⟩:=x
  have hVA:(V.mk k n w vi vy).A = .agg [.int .i64 k,.int .i64 n,.str w,.sl 5 .no (V.cellss vi),.sl 1 .no (strsA vy)]:=by simp only [V.A,V.cells]
  rw [hVA] at cf
  simp only [V.cells] at hg
  refine run0 (ai t0 (ai t1 (ai t7 (ai t8 (ai hlt (ai hg (ai hlt' hj0))))))) ?_
  refine use (cf _) ?_
  cases K
  ·rw [if_neg (by simp)] at hit
   subst hit
   refine run0 (ai t0 (ai t1 (ai t7 t8))) ?_
   exact ⟨_,le_refl _,rfl⟩
  ·rw [if_pos rfl] at hit
   refine run0 (ai t0 (ai t1 (ai t7 (ai t8 ei)))) ?_
   exact ⟨is.length - (j+1),by omega,j+1,rfl,by omega,rfl,hit,by (exact ev0 t0),by (exact ev0 t1),by (exact ev0 t7),by (exact ev0 ei)⟩
 ·have hlt:¬ ((j:Int) < (is.length:Int)):=by omega
  rw [List.drop_eq_nil_of_le (by omega)] at hit
  unfold unkIdx at hit
  subst hit
  refine run0 (ai t0 (ai t1 (ai t7 (ai t8 hlt)))) ?_
  exact ⟨_,le_refl _,rfl⟩
theorem a_known:∀ (v:V),v.lens→∀ h,ACall Tryz.prog GT 71 [v.A] h fun r h'=>r = .bool (Sf.known v)∧h'=h:=by
 refine V.induct ?_
 intro k n s is ks ih hl h
 have hlen:is.length≤9223372036854775807:=by have h1:=hl.1; unfold maxLen at h1; omega
 have hf:∀ x∈is,∀ h,ACall Tryz.prog GT 95 [x.A] h fun r h'=>r = .bool (!Sf.known x)∧h'=h:=by
  intro x hx h
  have ck:=ih x hx (V.lensS_mem hl.2.2.2.2 x hx)
  obtain ⟨K,hK⟩:∃ K,Sf.known x=K:=⟨_,rfl⟩
  rw [hK] at ck ⊢
  obtain ⟨k,n,w,vi,vy⟩:=x
  have hVA:(V.mk k n w vi vy).A = .agg [.int .i64 k,.int .i64 n,.str w,.sl 5 .no (V.cellss vi),.sl 1 .no (strsA vy)]:=by simp only [V.A,V.cells]
  rw [hVA] at ck ⊢
  refine pcall ?_ rfl (by simp [A.pure,A.data]) h
  refine acall_of mixedT h_vknown1 (by simp [c_vknown1]) ?_
  dsimp only [c_vknown1]
  refine run0 ti ?_
  refine use (ck _) ?_
  refine run0 ti ?_
  exact ⟨_,le_refl _,rfl⟩
 have hc:∀ h,ACall Tryz.prog GT 94 [.sl 5 .no (V.cellss is),.fn 95 []] h fun r h'=>r = .bool (!Sf.knowns is)∧h'=h:=by
  intro h
  refine pcall ?_ rfl (by simp [A.pure,A.data]) h
  refine acall_of mixedT h_containsv (by simp [c_containsv]) ?_
  dsimp only [c_containsv]
  have hge:=unkIdx_ge is 0
  have ca:=a_indexv is hlen hf
  obtain ⟨D,hD⟩:∃ D,unkIdx 0 is=D:=⟨_,rfl⟩
  rw [hD] at hge ca
  refine run0 ti ?_
  refine use (ca _) ?_
  by_cases hd:D≥0
  ·rw [hge.1 hd]
   refine run0 hd ?_
   exact ⟨_,le_refl _,rfl⟩
  ·have hk:Sf.knowns is=true:=by cases hk:Sf.knowns is; exact absurd (hge.2 hk) hd; rfl
   rw [hk]
   refine run0 hd ?_
   exact ⟨_,le_refl _,rfl⟩
 have hVA:(V.mk k n s is ks).A = .agg [.int .i64 k,.int .i64 n,.str s,.sl 5 .no (V.cellss is),.sl 1 .no (strsA ks)]:=by simp only [V.A,V.cells]
 have hK:Sf.known (.mk k n s is ks)=(k != 6&&Sf.knowns is):=by simp [Sf.known]
 rw [hVA,hK]
 refine pcall ?_ rfl (by simp [A.pure,A.data]) h
 refine acall_of mixedT h_vknown (by simp [c_vknown]) ?_
 dsimp only [c_vknown]
 by_cases h6:k=6
 ·have e:(k != 6)=false:=by simp [h6]
  rw [e]
  refine run0 e ?_
  exact ⟨_,le_refl _,rfl⟩
 ·have e:(k != 6)=true:=by simp [h6]
  rw [e]
  refine run0 e ?_
  refine use (hc _) ?_
  cases Sf.knowns is
  ·refine run0 ti ?_
   exact ⟨_,le_refl _,rfl⟩
  ·refine run0 ti ?_
   exact ⟨_,le_refl _,rfl⟩
end AX
end Go.Proofs.YtdgcbckcameggaaGreatDoor

namespace Go.Proofs.YtdgcbckcameggaaGreatDoor
open Go.RowKit
open Go.Op (bytesLess)
namespace AX
def c_cmpor:AX.AFn:=⟨18,aS [aR 2 (.mv (aI 0))] (aS [aR 3 (.mv (aI 0))] (.seq (aS [aM 6 0,aR 7 (.len false (.t 6)),aR 8 (.mv (aI 0))] (.block 0 (.loop (aS [aR 9 (.bin .lss (.t 8) (.t 7))] (.seq (.cond (.t 9) (.skip) (.exit 0)) (.seq (.block 1 (aS [aR 10 (.iaddr 1 (.t 6) (.t 8)),aL 11 10,aM 5 11] (aS [aM 12 5,aM 13 3,aR 14 (.bin .neq (.t 12) (.t 13))] (.cond (.t 14) (aS [aM 15 5,aM 2 15] (.ret)) (.skip))))) (.reg false [aR 16 (.bin .add (.t 8) (aI 1)),aM 8 16]))))))) (aS [aM 17 3,aM 2 17] (.ret)))),[.t 2]⟩
theorem h_cmpor:AX.compFn Tryz.prog 73=some c_cmpor:=by kernel_rfl
def c_pcompare:AX.AFn:=⟨17,aS [aR 2 (.box 95 (.t 0)),aR 3 (.box 95 (.t 1)),aR 4 (.mv (aI 0))] (.seq (.reg true [aF 5 0 2,⟨some 6,.load false 1 (.t 5),none,[0]⟩,aF 7 0 3,⟨some 8,.load false 1 (.t 7),none,[2]⟩,⟨some 9,.call 74 [.t 6,.t 8],none,[1,3]⟩,aF 10 1 2,⟨some 11,.load false 1 (.t 10),none,[5]⟩,aF 12 1 3,⟨some 13,.load false 1 (.t 12),none,[7]⟩,⟨some 14,.call 74 [.t 11,.t 13],none,[6,8,4]⟩,⟨some 15,.mks 1 [.t 9,.t 14],none,[4,9]⟩,⟨some 16,.call 73 [.t 15],none,[10,9]⟩,⟨some 4,.mv (.t 16),none,[11,11,0,1,2,3,4,5,6,7,8,9,10,11]⟩]) (.ret)),[.t 4]⟩
theorem h_pcompare:AX.compFn Tryz.prog 46=some c_pcompare:=by kernel_rfl
theorem a_or (a b:Int) (h:Hp):ACall Tryz.prog GT 73 [.sl 1 .no [[.int .i64 a],[.int .i64 b]]] h fun r h'=>r = .int .i64 (if a≠0 then a else b)∧h'=h:=by
 refine pcall ?_ rfl (by simp [A.pure,A.data]) h
 refine acall_of mixedT h_cmpor (by simp [c_cmpor]) ?_
 dsimp only [c_cmpor]
 refine run0 ti ?_
 have ew0:IntKind.i64.wrap ((0:Int)+1)=1:=by decide
 have ew1:IntKind.i64.wrap ((1:Int)+1)=2:=by decide
 have en1:Int.toNat 1=1:=rfl
 have lt0:(0:Int) < ((2:Nat):Int):=by decide
 have lt1:(1:Int) < ((2:Nat):Int):=by decide
 have lt2:¬ (2:Int) < ((2:Nat):Int):=by decide
 have le1:(0:Int)≤1:=by decide
 refine awp_loop (fun mm ts h=>h=⟨[],[]⟩∧ts 3 = .int .i64 0∧ts 6 = .sl 1 .no [[.int .i64 a],[.int .i64 b]]∧ts 7 = .int .i64 ((2:Nat):Int)∧((mm=2∧ts 8 = .int .i64 0)∨(mm=1∧ts 8 = .int .i64 1∧a=0)∨(mm=0∧ts 8 = .int .i64 2∧a=0∧b=0))) 2 ?_ ?_
 ·exact ⟨rfl,by (exact ev0 ti),by (exact ev0 ti),by (exact ev0 ti),.inl ⟨rfl,by (exact ev0 ti)⟩⟩
 rintro mm ts h ⟨rfl,t3,t6,t7,⟨rfl,t8⟩ | ⟨rfl,t8,ha⟩ | ⟨rfl,t8,ha,hb⟩⟩
 ·by_cases ha:a=0
  ·have e1:(a != 0)=false:=by simp [ha]
   refine run0 (ai t3 (ai t6 (ai t7 (ai t8 (ai e1 (ai ew0 lt0)))))) ?_
   exact ⟨1,by omega,rfl,by (exact ev0 t3),by (exact ev0 t6),by (exact ev0 t7),.inr (.inl ⟨rfl,by (exact ev0 ew0),ha⟩)⟩
  ·have e1:(a != 0)=true:=by simp [ha]
   refine run0 (ai t3 (ai t6 (ai t7 (ai t8 (ai e1 lt0))))) ?_
   exact ⟨_,le_refl _,by rw [if_pos ha]; rfl⟩
 ·by_cases hb:b=0
  ·have e1:(b != 0)=false:=by simp [hb]
   refine run0 (ai t3 (ai t6 (ai t7 (ai t8 (ai e1 (ai ew1 (ai en1 (ai lt1 le1)))))))) ?_
   exact ⟨0,by omega,rfl,by (exact ev0 t3),by (exact ev0 t6),by (exact ev0 t7),.inr (.inr ⟨rfl,by (exact ev0 ew1),ha,hb⟩)⟩
  ·have e1:(b != 0)=true:=by simp [hb]
   refine run0 (ai t3 (ai t6 (ai t7 (ai t8 (ai e1 (ai en1 (ai lt1 le1))))))) ?_
   exact ⟨_,le_refl _,by rw [if_neg (by simp [ha])]; rfl⟩
 ·refine run0 (ai t3 (ai t6 (ai t7 (ai t8 lt2)))) ?_
  exact ⟨_,le_refl _,by rw [if_neg (by simp [ha]),hb]; rfl⟩
def cmp2 (a b c d:List UInt8):Int:=if cmpZ a c≠0 then cmpZ a c else cmpZ b d
theorem a_compare (L:Leafs) (a b c d:List UInt8) (h:Hp):ACall Tryz.prog GT 46 [.agg [.str a,.str b],.agg [.str c,.str d]] h fun r h'=>r = .int .i64 (cmp2 a b c d)∧h'=h:=by
 refine pcall ?_ rfl (by simp [A.pure,A.data]) h
 refine acall_of mixedT h_pcompare (by simp [c_pcompare]) ?_
 dsimp only [c_pcompare]
 refine run0 ti ?_
 refine use (L.cmp a c _) ?_
 refine run0 ti ?_
 refine use (L.cmp b d _) ?_
 refine run0 ti ?_
 refine use (a_or (cmpZ a c) (cmpZ b d) _) ?_
 refine run0 ti ?_
 exact ⟨_,le_refl _,rfl⟩
theorem cmp2_ge (x y:Sf.Inst):(cmp2 x.addr x.dep y.addr y.dep≥0)↔Sf.behind x y=false:=by
 unfold cmp2 Sf.behind cmpZ
 by_cases h1:x.addr=y.addr
 ·have irr:bytesLess y.addr y.addr=false:=by
   have:=Val.less_total y.addr y.addr
   cases h:bytesLess y.addr y.addr
   ·rfl
   ·rw [h] at this; simp at this
  rw [h1,irr]
  by_cases h2:x.dep=y.dep
  ·have irr2:bytesLess y.dep y.dep=false:=by
    have:=Val.less_total y.dep y.dep
    cases h:bytesLess y.dep y.dep
    ·rfl
    ·rw [h] at this; simp at this
   simp [h2,irr2]
  ·cases h3:bytesLess x.dep y.dep <;> simp [h2]
 ·cases h3:bytesLess x.addr y.addr <;> simp [h1]
structure Sf.StIn (s:Sf.St):Prop where
 lin:s.lin.length≤2000000
 insts:∀ x∈s.insts,Sf.InstIn x
 pends:∀ x∈s.pends,x.addr.length≤2000000∧x.tok.length≤2000000
 outs:∀ x∈s.outs,x.name.length≤2000000∧x.value.lens
 li:s.insts.length≤1000000000
 lp:s.pends.length≤1000000000
 lo:s.outs.length≤1000000000
theorem a_scheck (L:Leafs) (st:Sf.St) (ok:Sf.StIn st):SCheck st:=by
 intro h
 obtain ⟨lin,ser,ins,ps,os⟩:=st
 have ct:=fun h=>L.text lin ok.lin h
 have li:ins.length≤1000000000:=ok.li
 have lp:ps.length≤1000000000:=ok.lp
 have lo:os.length≤1000000000:=ok.lo
 have lm1:(ins.map Sf.Inst.cells).length=ins.length:=List.length_map _
 have lm2:(ps.map Sf.Pend.cells).length=ps.length:=List.length_map _
 have lm3:(os.map Sf.Outp.cells).length=os.length:=List.length_map _
 obtain ⟨Z,hZ⟩:∃ Z,Sf.checkZ ⟨lin,ser,ins,ps,os⟩=Z:=⟨_,rfl⟩
 rw [hZ]
 unfold Sf.checkZ at hZ
 dsimp only at hZ
 refine pcall ?_ rfl (by simp [A.pure,A.data,Sf.St.A]) h
 refine fo ?_
 dsimp only [Sf.St.A]
 refine run0 ti ?_
 refine use (ct _) ?_
 cases hT:Sf.text lin
 ·rw [hT,if_pos (by decide)] at hZ
  subst hZ
  refine run0 ti ?_
  exact ⟨_,le_refl _,rfl⟩
 rw [hT,if_neg (by decide)] at hZ
 by_cases s0:ser < 0
 ·rw [if_pos (.inl s0)] at hZ
  subst hZ
  refine run0 s0 ?_
  exact ⟨_,le_refl _,rfl⟩
 by_cases s1:ser > 9007199254740992
 ·rw [if_pos (.inr s1)] at hZ
  subst hZ
  refine run0 (ai s0 s1) ?_
  exact ⟨_,le_refl _,rfl⟩
 rw [if_neg (by omega)] at hZ
 obtain ⟨mx,hmx⟩:∃ mx:Int,(if (os.length:Int) > (if (ps.length:Int) > (ins.length:Int) then (ps.length:Int) else (ins.length:Int)) then (os.length:Int) else (if (ps.length:Int) > (ins.length:Int) then (ps.length:Int) else (ins.length:Int)))=mx:=⟨_,rfl⟩
 have hm5:mx > 512↔(512 < ins.length∨512 < ps.length∨512 < os.length):=by
  rw [←hmx]; split <;> split <;> omega
 by_cases hm:mx > 512
 ·rw [if_pos (hm5.1 hm)] at hZ
  subst hZ
  refine run0 (ai s0 (ai s1 (ai lm1 (ai lm2 (ai lm3 (ai hmx hm)))))) ?_
  exact ⟨_,le_refl _,rfl⟩
 rw [if_neg (fun e=>hm (hm5.2 e))] at hZ
 obtain ⟨I,hI⟩:∃ I,Sf.instsZ none ins=I:=⟨_,rfl⟩
 obtain ⟨P,hP⟩:∃ P,Sf.pendsZ none ps=P:=⟨_,rfl⟩
 obtain ⟨O,hO⟩:∃ O,Sf.outsZ none os=O:=⟨_,rfl⟩
 have fi1:∀ z,z≠0→z=I→Z=z:=fun z h e=>by rw [hI,←e,if_pos h] at hZ; exact hZ.symm
 have fi2:I=0→(if P≠0 then P else O)=Z:=fun e=>by rw [hI,hP,hO,e,if_neg (by simp)] at hZ; exact hZ
 refine run0 (ai s0 (ai s1 (ai lm1 (ai lm2 (ai lm3 (ai hmx hm)))))) ?_
 refine awp_loop (fun mm ts h=>∃ (j:Nat) (l:List Blk),mm=ins.length - j∧j≤ins.length∧h=⟨.cells 27 [.str lin,.int .i64 ser,.sl 13 .no (ins.map Sf.Inst.cells),.sl 3 .no (ps.map Sf.Pend.cells),.sl 7 .no (os.map Sf.Outp.cells)]::l,[]⟩∧Sf.instsZ (if j=0 then none else ins[j - 1]?) (ins.drop j)=I∧ts 1 = .ptr 0 0∧ts 35 = .sl 13 .no (ins.map Sf.Inst.cells)∧ts 36 = .int .i64 (ins.length:Nat)∧ts 37 = .int .i64 (j:Nat)) ins.length ?_ ?_
 ·exact ⟨0,[],by omega,by omega,rfl,hI,by (exact ev0 ti),by (exact ev0 ti),by (exact ev0 (ai lm1 (ai lm2 lm3))),by (exact inv0 ti)⟩
 rintro mm ts h ⟨j,l,rfl,hjc,rfl,hit,t1,ta,tb,tc⟩
 by_cases hj:j < ins.length
 ·have hlt:(j:Int) < (ins.length:Int):=by omega
  have hlt':(j:Int) < ((ins.map Sf.Inst.cells).length:Int):=by rw [List.length_map]; exact hlt
  have hj0:(0:Int)≤(j:Int):=by omega
  have ei:IntKind.i64.wrap ((j:Int)+1)=((j+1:Nat):Int):=by rw [wrap64 (by omega) (by omega)]; omega
  have hg:=map_getD Sf.Inst.cells ins j hj
  have hm:=List.getElem_mem hj
  rw [List.drop_eq_getElem_cons hj] at hit
  obtain ⟨x,hx⟩:∃ x,ins[j]=x:=⟨_,rfl⟩
  rw [hx] at hit hg hm
  have ci:=fun h=>a_instance L x (ok.insts x hm) h
  have cp:=fun h=>a_placeOf x h
  have hxj:ins[j]?=some x:=by rw [List.getElem?_eq_getElem hj,hx]
  have hx2:∃ x2,x=x2:=⟨_,rfl⟩
  unfold Sf.instsZ at hit
  obtain ⟨Z1,hZ1⟩:∃ z,Sf.instZ x=z:=⟨_,rfl⟩
  rw [hZ1] at ci hit
  have cge:=fun y=>cmp2_ge y x
  have cc:=fun (y:Sf.Inst) h=>a_compare L y.addr y.dep x.addr x.dep h
  have nx:Sf.instsZ (some x) (ins.drop (j+1))=I→Sf.instsZ (if j+1=0 then none else ins[j+1 - 1]?) (ins.drop (j+1))=I:=fun e=>by rw [if_neg (by omega),Nat.add_sub_cancel,hxj]; exact e
  clear hx2 hm hZ1
  have cells:∃ a d id ty k n s is ks v tn fi ds,x=⟨a,d,id,ty,.mk k n s is ks,v,tn,fi,ds⟩:=by obtain ⟨a,d,id,ty,⟨k,n,s,is,ks⟩,v,tn,fi,ds⟩:=x; exact ⟨_,_,_,_,_,_,_,_,_,_,_,_,_,rfl⟩
  obtain ⟨a,d,id,ty,k,n,s,is,ks,v,tn,fi,ds,hxe⟩:=cells
  have hxc:x.cells=[.str a,.str d,.str id,.str ty,.int .i64 k,.int .i64 n,.str s,.sl 5 .no (V.cellss is),.sl 1 .no (strsA ks),.int .i64 v,.bool tn,.bool fi,.sl 1 .no (strsA ds)]:=by rw [hxe]; rfl
  rw [hxc] at ci cp hg
  refine run0 (ai t1 (ai ta (ai tb (ai tc (ai hlt (ai hg (ai hlt' hj0))))))) ?_
  refine use (ci _) ?_
  by_cases hz:Z1=0
  rotate_left
  ·have e1:(Z1 != 0)=true:=by simp [hz]
   rw [if_pos hz] at hit
   have hZf:=fi1 Z1 hz hit
   refine run0 (ai t1 (ai ta (ai tb (ai tc e1)))) ?_
   exact ⟨_,le_refl _,by rw [hZf]; rfl⟩
  have e1:(Z1 != 0)=false:=by simp [hz]
  rw [if_neg (by simp [hz])] at hit
  cases j with
  | zero =>
   have h0:¬ ((0:Nat):Int) > 0:=by omega
   simp only [if_true,Bool.false_eq_true,if_false] at hit
   refine run0 (ai t1 (ai ta (ai tb (ai tc (ai e1 (ai h0 ei)))))) ?_
   exact ⟨ins.length - (0+1),by omega,0+1,l++[.cells 63 [.str a,.str d,.str id,.str ty,.int .i64 k,.int .i64 n,.str s,.sl 5 .no (V.cellss is),.sl 1 .no (strsA ks),.int .i64 v,.bool tn,.bool fi,.sl 1 .no (strsA ds)]],rfl,by omega,rfl,nx hit,by (exact ev0 t1),by (exact ev0 ta),by (exact ev0 tb),by (exact ev0 ei)⟩
  | succ i =>
   have h0:((i+1:Nat):Int) > 0:=by omega
   have ej:IntKind.i64.wrap (((i+1:Nat):Int) - 1)=(i:Int):=by rw [wrap64 (by omega) (by omega)]; omega
   have hg2:=map_getD Sf.Inst.cells ins i (by omega)
   have hi':(i:Int) < ((ins.map Sf.Inst.cells).length:Int):=by rw [List.length_map]; omega
   have hi0:(0:Int)≤(i:Int):=by omega
   have hki:ins[i+1 - 1]?=some (ins[i]'(by omega)):=List.getElem?_eq_getElem (by omega)
   rw [show (if i+1=0 then none else ins[i+1 - 1]?)=(some (ins[i]'(by omega))) from by rw [if_neg (by omega),hki]] at hit
   obtain ⟨y,hy⟩:∃ y,ins[i]'(by omega)=y:=⟨_,rfl⟩
   rw [hy] at hit hg2
   dsimp only at hit
   have cpy:=fun h=>a_placeOf y h
   have hyc:∃ b1 b2 b3 b4 b5 b6 b7 b8 b9 c1 c2 c3 c4,y.cells=[.str b1,.str b2,.str b3,.str b4,.int .i64 b5,.int .i64 b6,.str b7,.sl 5 .no (V.cellss b8),.sl 1 .no (strsA b9),.int .i64 c1,.bool c2,.bool c3,.sl 1 .no (strsA c4)]:=by obtain ⟨a,d,id,ty,⟨k,n,s,is,ks⟩,v,tn,fi,ds⟩:=y; exact ⟨_,_,_,_,_,_,_,_,_,_,_,_,_,rfl⟩
   obtain ⟨b1,b2,b3,b4,b5,b6,b7,b8,b9,c1,c2,c3,c4,hyc⟩:=hyc
   rw [hyc] at hg2 cpy
   have cg:=cge y
   have cy:=cc y
   obtain ⟨c,hc⟩:∃ c,cmp2 y.addr y.dep x.addr x.dep=c:=⟨_,rfl⟩
   rw [hc] at cg cy
   refine run0 (ai t1 (ai ta (ai tb (ai tc (ai e1 (ai h0 (ai ej (ai hg2 (ai hi' hi0))))))))) ?_
   refine use (cpy _) ?_
   refine run0 (ai t1 (ai ta (ai tb tc))) ?_
   refine use (cp _) ?_
   refine run0 (ai t1 (ai ta (ai tb tc))) ?_
   refine use (cy _) ?_
   by_cases hcz:c≥0
   ·simp only [cg.1 hcz,Bool.not_false,if_true] at hit
    have hZf:=fi1 1 (by decide) hit
    refine run0 (ai t1 (ai ta (ai tb (ai tc hcz)))) ?_
    exact ⟨_,le_refl _,by rw [hZf]; rfl⟩
   ·have hb:Sf.behind y x=true:=by cases hb:Sf.behind y x; exact absurd (cg.2 hb) hcz; rfl
    simp only [hb,Bool.not_true,Bool.false_eq_true,if_false] at hit
    refine run0 (ai t1 (ai ta (ai tb (ai tc (ai hcz ei))))) ?_
    exact ⟨ins.length - ((i+1)+1),by omega,(i+1)+1,l++[.cells 63 [.str a,.str d,.str id,.str ty,.int .i64 k,.int .i64 n,.str s,.sl 5 .no (V.cellss is),.sl 1 .no (strsA ks),.int .i64 v,.bool tn,.bool fi,.sl 1 .no (strsA ds)]],rfl,by omega,rfl,nx hit,by (exact ev0 t1),by (exact ev0 ta),by (exact ev0 tb),by (exact ev0 ei)⟩
 have hlt:¬ ((j:Int) < (ins.length:Int)):=by omega
 rw [List.drop_eq_nil_of_le (by omega)] at hit
 unfold Sf.instsZ at hit
 have fi2:=fi2 hit.symm
 refine run0 (ai t1 (ai ta (ai tb (ai tc (ai hlt (ai lm1 (ai lm2 lm3))))))) ?_
 clear hit hlt hjc ta tb tc fi1
 have fj1:∀ z,z≠0→z=P→Z=z:=fun z h e=>by rw [←e,if_pos h] at fi2; exact fi2.symm
 have fj2:P=0→Z=O:=fun e=>by rw [e,if_neg (by simp)] at fi2; exact fi2.symm
 obtain ⟨l0,hl0⟩:∃ l0:List Blk,l=l0:=⟨_,rfl⟩
 refine awp_loop (fun mm ts h=>∃ (j:Nat) (l:List Blk),mm=ps.length - j∧j≤ps.length∧h=⟨.cells 27 [.str lin,.int .i64 ser,.sl 13 .no (ins.map Sf.Inst.cells),.sl 3 .no (ps.map Sf.Pend.cells),.sl 7 .no (os.map Sf.Outp.cells)]::l,[]⟩∧Sf.pendsZ (if j=0 then none else ps[j - 1]?.map Sf.Pend.tok) (ps.drop j)=P∧ts 1 = .ptr 0 0∧ts 64 = .sl 3 .no (ps.map Sf.Pend.cells)∧ts 65 = .int .i64 (ps.length:Nat)∧ts 66 = .int .i64 (j:Nat)) ps.length ?_ ?_
 ·exact ⟨0,l,by omega,by omega,rfl,hP,by (exact ev0 t1),by (exact ev0 t1),by (exact ev0 (ai t1 (ai lm1 (ai lm2 lm3)))),by (exact inv0 t1)⟩
 rintro mm ts h ⟨j,l,rfl,hjc,rfl,hit,t1,ta,tb,tc⟩
 by_cases hj:j < ps.length
 ·have hlt:(j:Int) < (ps.length:Int):=by omega
  have hlt':(j:Int) < ((ps.map Sf.Pend.cells).length:Int):=by rw [List.length_map]; exact hlt
  have hj0:(0:Int)≤(j:Int):=by omega
  have ei:IntKind.i64.wrap ((j:Int)+1)=((j+1:Nat):Int):=by rw [wrap64 (by omega) (by omega)]; omega
  have hg:=map_getD Sf.Pend.cells ps j hj
  have hm:=List.getElem_mem hj
  rw [List.drop_eq_getElem_cons hj] at hit
  obtain ⟨x,hx⟩:∃ x,ps[j]=x:=⟨_,rfl⟩
  rw [hx] at hit hg hm
  have hin:=ok.pends x hm
  have ct:=fun h=>L.text x.tok hin.2 h
  have cm:=fun h=>a_managed L x.addr x.typ hin.1 h
  have hxj:ps[j]?=some x:=by rw [List.getElem?_eq_getElem hj,hx]
  unfold Sf.pendsZ Sf.pendB at hit
  have nx:Sf.pendsZ (some x.tok) (ps.drop (j+1))=P→Sf.pendsZ (if j+1=0 then none else ps[j+1 - 1]?.map Sf.Pend.tok) (ps.drop (j+1))=P:=fun e=>by rw [if_neg (by omega),Nat.add_sub_cancel,hxj]; exact e
  simp only [Sf.Pend.cells] at hg
  obtain ⟨T,hT⟩:∃ T,Sf.text x.tok=T:=⟨_,rfl⟩
  rw [hT] at ct hit
  obtain ⟨M,hM⟩:∃ M,Sf.managed x.addr x.typ=M:=⟨_,rfl⟩
  rw [hM] at cm hit
  refine run0 (ai t1 (ai ta (ai tb (ai tc (ai hlt (ai hg (ai hlt' hj0))))))) ?_
  refine use (ct _) ?_
  cases T
  ·rw [if_pos (by simp)] at hit
   have hZf:=fj1 1 (by decide) hit
   refine run0 (ai t1 (ai ta (ai tb tc))) ?_
   exact ⟨_,le_refl _,by rw [hZf]; rfl⟩
  refine run0 (ai t1 (ai ta (ai tb tc))) ?_
  refine use (cm _) ?_
  cases M
  ·rw [if_pos (by simp)] at hit
   have hZf:=fj1 1 (by decide) hit
   refine run0 (ai t1 (ai ta (ai tb tc))) ?_
   exact ⟨_,le_refl _,by rw [hZf]; rfl⟩
  cases j with
  | zero =>
   have h0:¬ ((0:Nat):Int) > 0:=by omega
   rw [if_neg (by simp [Val.badB])] at hit
   refine run0 (ai t1 (ai ta (ai tb (ai tc (ai h0 ei))))) ?_
   exact ⟨ps.length - (0+1),by omega,0+1,l++[.cells 65 [.str x.addr,.str x.typ,.str x.tok]],rfl,by omega,rfl,nx hit,by (exact ev0 t1),by (exact ev0 ta),by (exact ev0 tb),by (exact ev0 ei)⟩
  | succ i =>
   have h0:((i+1:Nat):Int) > 0:=by omega
   have ej:IntKind.i64.wrap (((i+1:Nat):Int) - 1)=(i:Int):=by rw [wrap64 (by omega) (by omega)]; omega
   have hg2:=map_getD Sf.Pend.cells ps i (by omega)
   have hi':(i:Int) < ((ps.map Sf.Pend.cells).length:Int):=by rw [List.length_map]; omega
   have hi0:(0:Int)≤(i:Int):=by omega
   have hki:ps[i+1 - 1]?=some (ps[i]'(by omega)):=List.getElem?_eq_getElem (by omega)
   rw [show (if i+1=0 then none else ps[i+1 - 1]?.map Sf.Pend.tok)=(some (ps[i]'(by omega))).map Sf.Pend.tok from by rw [if_neg (by omega),hki]] at hit
   obtain ⟨y,hy⟩:∃ y,ps[i]'(by omega)=y:=⟨_,rfl⟩
   rw [hy] at hit hg2
   simp only [Sf.Pend.cells] at hg2
   simp only [Option.map_some,Val.badB] at hit
   cases hb:bytesLess y.tok x.tok
   ·simp only [hb,Bool.true_and,Bool.and_true,Bool.not_true,Bool.not_false,Bool.false_or,Bool.true_or,if_true] at hit
    have hZf:=fj1 1 (by decide) hit
    refine run0 (ai t1 (ai ta (ai tb (ai tc (ai h0 (ai ej (ai hg2 (ai hi' (ai hi0 hb))))))))) ?_
    exact ⟨_,le_refl _,by rw [hZf]; rfl⟩
   ·simp only [hb,Bool.true_and,Bool.and_true,Bool.not_true,Bool.not_false,Bool.false_or,Bool.or_false,Bool.false_eq_true,if_false] at hit
    refine run0 (ai t1 (ai ta (ai tb (ai tc (ai h0 (ai ej (ai hg2 (ai hi' (ai hi0 (ai hb ei)))))))))) ?_
    exact ⟨ps.length - ((i+1)+1),by omega,(i+1)+1,l++[.cells 65 [.str x.addr,.str x.typ,.str x.tok]],rfl,by omega,rfl,nx hit,by (exact ev0 t1),by (exact ev0 ta),by (exact ev0 tb),by (exact ev0 ei)⟩
 have hlt:¬ ((j:Int) < (ps.length:Int)):=by omega
 rw [List.drop_eq_nil_of_le (by omega)] at hit
 unfold Sf.pendsZ at hit
 have fj2:=fj2 hit.symm
 refine run0 (ai t1 (ai ta (ai tb (ai tc (ai hlt (ai lm1 (ai lm2 lm3))))))) ?_
 clear hit hlt hjc ta tb tc fj1 hl0 l0
 refine awp_loop (fun mm ts h=>∃ (j:Nat) (l:List Blk),mm=os.length - j∧j≤os.length∧h=⟨.cells 27 [.str lin,.int .i64 ser,.sl 13 .no (ins.map Sf.Inst.cells),.sl 3 .no (ps.map Sf.Pend.cells),.sl 7 .no (os.map Sf.Outp.cells)]::l,[]⟩∧Sf.outsZ (if j=0 then none else os[j - 1]?.map Sf.Outp.name) (os.drop j)=O∧ts 1 = .ptr 0 0∧ts 101 = .sl 7 .no (os.map Sf.Outp.cells)∧ts 102 = .int .i64 (os.length:Nat)∧ts 103 = .int .i64 (j:Nat)) os.length ?_ ?_
 ·exact ⟨0,l,by omega,by omega,rfl,hO,by (exact ev0 t1),by (exact ev0 t1),by (exact ev0 (ai t1 (ai lm1 (ai lm2 lm3)))),by (exact inv0 t1)⟩
 rintro mm ts h ⟨j,l,rfl,hjc,rfl,hit,t1,ta,tb,tc⟩
 by_cases hj:j < os.length
 ·have hlt:(j:Int) < (os.length:Int):=by omega
  have hlt':(j:Int) < ((os.map Sf.Outp.cells).length:Int):=by rw [List.length_map]; exact hlt
  have hj0:(0:Int)≤(j:Int):=by omega
  have ei:IntKind.i64.wrap ((j:Int)+1)=((j+1:Nat):Int):=by rw [wrap64 (by omega) (by omega)]; omega
  have hg:=map_getD Sf.Outp.cells os j hj
  have hm:=List.getElem_mem hj
  rw [List.drop_eq_getElem_cons hj] at hit
  obtain ⟨x,hx⟩:∃ x,os[j]=x:=⟨_,rfl⟩
  rw [hx] at hit hg hm
  have hin:=ok.outs x hm
  have ci:=fun h=>a_output L x hin.1 hin.2 h
  have hxj:os[j]?=some x:=by rw [List.getElem?_eq_getElem hj,hx]
  unfold Sf.outsZ at hit
  have nx:Sf.outsZ (some x.name) (os.drop (j+1))=O→Sf.outsZ (if j+1=0 then none else os[j+1 - 1]?.map Sf.Outp.name) (os.drop (j+1))=O:=fun e=>by rw [if_neg (by omega),Nat.add_sub_cancel,hxj]; exact e
  obtain ⟨Z1,hZ1⟩:∃ z,Sf.outZ x=z:=⟨_,rfl⟩
  rw [hZ1] at ci hit
  clear hZ1
  obtain ⟨m,⟨k,n,s,is,ks⟩,b⟩:=x
  simp only [Sf.Outp.cells] at hg ci
  dsimp only at hit nx
  refine run0 (ai t1 (ai ta (ai tb (ai tc (ai hlt (ai hg (ai hlt' hj0))))))) ?_
  refine use (ci _) ?_
  by_cases hz:Z1=0
  rotate_left
  ·have e1:(Z1 != 0)=true:=by simp [hz]
   rw [if_pos hz] at hit
   refine run0 (ai t1 (ai ta (ai tb (ai tc e1)))) ?_
   exact ⟨_,le_refl _,by rw [fj2,←hit]; rfl⟩
  have e1:(Z1 != 0)=false:=by simp [hz]
  rw [if_neg (by simp [hz])] at hit
  cases j with
  | zero =>
   have h0:¬ ((0:Nat):Int) > 0:=by omega
   rw [if_neg (by simp [Val.badB])] at hit
   refine run0 (ai t1 (ai ta (ai tb (ai tc (ai e1 (ai h0 ei)))))) ?_
   exact ⟨os.length - (0+1),by omega,0+1,l++[.cells 67 [.str m,.int .i64 k,.int .i64 n,.str s,.sl 5 .no (V.cellss is),.sl 1 .no (strsA ks),.bool b]],rfl,by omega,rfl,nx hit,by (exact ev0 t1),by (exact ev0 ta),by (exact ev0 tb),by (exact ev0 ei)⟩
  | succ i =>
   have h0:((i+1:Nat):Int) > 0:=by omega
   have ej:IntKind.i64.wrap (((i+1:Nat):Int) - 1)=(i:Int):=by rw [wrap64 (by omega) (by omega)]; omega
   have hg2:=map_getD Sf.Outp.cells os i (by omega)
   have hi':(i:Int) < ((os.map Sf.Outp.cells).length:Int):=by rw [List.length_map]; omega
   have hi0:(0:Int)≤(i:Int):=by omega
   have hki:os[i+1 - 1]?=some (os[i]'(by omega)):=List.getElem?_eq_getElem (by omega)
   rw [show (if i+1=0 then none else os[i+1 - 1]?.map Sf.Outp.name)=(some (os[i]'(by omega))).map Sf.Outp.name from by rw [if_neg (by omega),hki]] at hit
   obtain ⟨y,hy⟩:∃ y,os[i]'(by omega)=y:=⟨_,rfl⟩
   rw [hy] at hit hg2
   obtain ⟨m2,⟨k2,n2,s2,is2,ks2⟩,b2⟩:=y
   simp only [Sf.Outp.cells] at hg2
   simp only [Option.map_some,Val.badB] at hit
   cases hb:bytesLess m2 m
   ·simp only [hb,Bool.true_and,Bool.and_true,Bool.not_true,Bool.not_false,Bool.false_or,Bool.true_or,if_true] at hit
    refine run0 (ai t1 (ai ta (ai tb (ai tc (ai e1 (ai h0 (ai ej (ai hg2 (ai hi' (ai hi0 hb)))))))))) ?_
    exact ⟨_,le_refl _,by rw [fj2,←hit]; rfl⟩
   ·simp only [hb,Bool.true_and,Bool.and_true,Bool.not_true,Bool.not_false,Bool.false_or,Bool.or_false,Bool.false_eq_true,if_false] at hit
    refine run0 (ai t1 (ai ta (ai tb (ai tc (ai e1 (ai h0 (ai ej (ai hg2 (ai hi' (ai hi0 (ai hb ei))))))))))) ?_
    exact ⟨os.length - ((i+1)+1),by omega,(i+1)+1,l++[.cells 67 [.str m,.int .i64 k,.int .i64 n,.str s,.sl 5 .no (V.cellss is),.sl 1 .no (strsA ks),.bool b]],rfl,by omega,rfl,nx hit,by (exact ev0 t1),by (exact ev0 ta),by (exact ev0 tb),by (exact ev0 ei)⟩
 have hlt:¬ ((j:Int) < (os.length:Int)):=by omega
 rw [List.drop_eq_nil_of_le (by omega)] at hit
 unfold Sf.outsZ at hit
 refine run0 (ai t1 (ai ta (ai tb (ai tc (ai hlt (ai lm1 (ai lm2 lm3))))))) ?_
 exact ⟨_,le_refl _,by rw [fj2,←hit]; rfl⟩
end AX
end Go.Proofs.YtdgcbckcameggaaGreatDoor

namespace Go.Proofs.YtdgcbckcameggaaGreatDoor
open Go.RowKit
namespace Adr
theorem mods_names (N:Nat):∀ (f:Nat) (r:Rd) (l:List Step),r.rest.length≤N→(∀ x∈l,x.name.length≤N)→(∀ x∈(modsP f r l).1,x.name.length≤N)∧(modsP f r l).2.rest.length≤N∧(modsP f r l).1.length≤l.length+f
 | 0,r,l,hr,hl=>⟨hl,hr,Nat.le_refl _⟩
 | f+1,r,l,hr,hl=>by
  unfold modsP
  split
  ·next hc =>
   have h1:=has_len modW r
   have h2:=step_len (hasP modW r).2
   have h3:=skip_len [46] (stepP (hasP modW r).2).2
   have hn:(stepP (hasP modW r).2).1.name.length≤N:=Nat.le_trans (word_len (hasP modW r).2).2 (by omega)
   obtain ⟨q1,q2,q3⟩:=mods_names N f (skipP [46] (stepP (hasP modW r).2).2) (l++[(stepP (hasP modW r).2).1]) (by omega) (fun x hx=>by
    rcases List.mem_append.1 hx with hx | hx
    ·exact hl x hx
    ·rw [List.mem_singleton.1 hx]; exact hn)
   exact ⟨q1,q2,Nat.le_trans q3 (by simp only [List.length_append,List.length_singleton]; omega)⟩
  ·exact ⟨hl,hr,by dsimp only; omega⟩
theorem parse_names (s:List UInt8) (h:(parse s).2=0):(∀ x∈(parse s).1.mods,x.name.length≤s.length)∧(parse s).1.mods.length≤s.length+1∧(parse s).1.type.length≤s.length∧(parse s).1.name.length≤s.length:=by
 rw [←parse_eq] at h ⊢
 obtain ⟨q1,q2,q3⟩:=mods_names s.length (s.length+1) ⟨s,false⟩ [] (Nat.le_refl _) (by simp)
 unfold parseP at h ⊢
 dsimp only at h ⊢
 have l1:=has_len dataW (modsP (s.length+1) ⟨s,false⟩ []).2
 have l2:=word_len (hasP dataW (modsP (s.length+1) ⟨s,false⟩ []).2).2
 have l3:=skip_len [46] (wordP (hasP dataW (modsP (s.length+1) ⟨s,false⟩ []).2).2).2
 have l4:=word_len (skipP [46] (wordP (hasP dataW (modsP (s.length+1) ⟨s,false⟩ []).2).2).2)
 split at h
 ·simp at h
 ·next h1 =>
  rw [if_neg h1]
  split at h
  ·simp at h
  ·next h2 =>
   rw [if_neg h2]
   dsimp only
   exact ⟨q1,by simpa using q3,by omega,by omega⟩
end Adr
namespace AX
theorem a_static (s:List UInt8) (hs:s.length≤2000000) (h:Hp):ACall Tryz.prog GT 96 [.str s] h fun r h'=>r = .tup [.str (Adr.static s).1,.int .i64 (Adr.static s).2]∧h'=h:=by
 refine pcall ?_ rfl (by simp [A.pure,A.data]) h
 refine acall_of mixedT h_aStatic (by simp [c_aStatic]) ?_
 dsimp only [c_aStatic]
 have cp:=fun h=>a_parse s hs h
 have hS:Adr.static s=if (Adr.parse s).2≠0 then ([],(Adr.parse s).2) else (Adr.fmt (Adr.bare (Adr.parse s).1),0):=rfl
 have hnm:=Adr.parse_names s
 obtain ⟨⟨a,e⟩,hp⟩:∃ q,Adr.parse s=q:=⟨_,rfl⟩
 rw [hp] at cp hS hnm
 dsimp only at cp hS hnm
 rw [hS]
 by_cases he:e=0
 rotate_left
 ·have e1:(e != 0)=true:=by simp [he]
  rw [if_pos he]
  obtain ⟨mods,data,ty,nm,⟨kk,kn,ks⟩⟩:=a
  dsimp only [Adr.Ad.cells] at cp
  refine run0 ti ?_
  refine use (cp _) ?_
  refine run0 e1 ?_
  exact ⟨_,le_refl _,rfl⟩
 have e1:(e != 0)=false:=by simp [he]
 rw [if_neg (by simp [he])]
 obtain ⟨n1,n2,n3,n4⟩:=hnm he
 have cs:=fun h=>a_static0 a (by omega) h
 have cf:=fun h=>a_format0 (Adr.bare a) ⟨by unfold Adr.bare; dsimp only; rw [List.length_map]; omega,fun x hx=>by
   unfold Adr.bare at hx
   obtain ⟨y,hy,rfl⟩:=List.mem_map.1 hx
   have:=n1 y hy
   exact ⟨Nat.le_trans this hs,by simp [Adr.K.none]⟩,by unfold Adr.bare; dsimp only; omega,by unfold Adr.bare; dsimp only; omega,by unfold Adr.bare Adr.K.none; simp⟩
  (fun x hx=>by
   unfold Adr.bare at hx
   obtain ⟨y,hy,rfl⟩:=List.mem_map.1 hx
   rfl) rfl h
 have hbc:(Adr.bare a).cells=[.sl 4 .no ((a.mods.map fun s=>(⟨s.name,Adr.K.none⟩:Adr.Step)).map Adr.Step.cells),.bool a.data,.str a.type,.str a.name,.int .i64 0,.int .i64 0,.str []]:=rfl
 rw [hbc] at cs cf
 obtain ⟨F,hF⟩:∃ F,Adr.fmt (Adr.bare a)=F:=⟨_,rfl⟩
 rw [hF] at cf ⊢
 clear hS n1 n2 n3 n4 hnm hp hbc
 obtain ⟨mods,data,ty,nm,⟨kk,kn,ks⟩⟩:=a
 dsimp only [Adr.Ad.cells] at cp cs cf
 refine run0 ti ?_
 refine use (cp _) ?_
 refine run0 e1 ?_
 refine use (cs _) ?_
 refine run0 ti ?_
 refine use (cf _) ?_
 refine run0 ti ?_
 exact ⟨_,le_refl _,rfl⟩
theorem leafs:Leafs where
 parse:=a_parse
 static:=a_static
 ident:=a_ident
 num:=a_numParse
 cmp:=a_cmp
 known:=fun v hl h=>a_known v hl h
 text:=fun s hs h=>(a_stext s hs h).mono fun v h' hv=>hv
theorem a_stateCheck (st:Sf.St) (ok:Sf.StIn st):SCheck st:=a_scheck leafs st ok
end AX
namespace Sf
theorem strS_len (s:Rs):(strS s).2.length≤s.r.rest.length:=by
 unfold strS Wire.strR
 dsimp only
 split
 ·exact Nat.zero_le _
 ·dsimp only
  rw [List.length_take]
  have:=Wire.cntR_rest s.r 1
  omega
theorem words_in (N:Nat):∀ (c:Nat) (s:Rs) (l:List (List UInt8)),s.r.rest.length≤N→(∀ x∈l,x.length≤N)→(∀ x∈(wordsS c s l).2,x.length≤N)∧(wordsS c s l).2.length=l.length+c
 | 0,s,l,hs,hl=>⟨hl,rfl⟩
 | c+1,s,l,hs,hl=>by
  unfold wordsS
  obtain ⟨h1,h2⟩:=words_in N c (strS s).1 (l++[(strS s).2]) (Nat.le_trans (strS_le s) hs) (fun x hx=>by
   rcases List.mem_append.1 hx with hx | hx
   ·exact hl x hx
   ·rw [List.mem_singleton.1 hx]; exact Nat.le_trans (strS_len s) hs)
  refine ⟨h1,?_⟩
  rw [h2,List.length_append,List.length_singleton]; omega
theorem value_lens (s:Rs) (hs:s.r.rest.length≤100000000):(valueS s).2.lens:=AX.readValue_lens s.r hs
theorem inst_in (ver:Int) (s:Rs) (hs:s.r.rest.length≤2000000):AX.Sf.InstIn (instS ver s).2:=by
 have e1:=strS_le s
 have e2:=strS_le (strS s).1
 have e3:=strS_le (strS (strS s).1).1
 have e4:=strS_le (strS (strS (strS s).1).1).1
 have e5:=valueS_le (strS (strS (strS (strS s).1).1).1).1
 have e6:=numS_le (valueS (strS (strS (strS (strS s).1).1).1).1).1
 have e7:=flagS_le (numS (valueS (strS (strS (strS (strS s).1).1).1).1).1).1
 have l1:=strS_len s
 have l2:=strS_len (strS s).1
 have l3:=strS_len (strS (strS s).1).1
 have v:=value_lens (strS (strS (strS (strS s).1).1).1).1 (by omega)
 unfold instS
 dsimp only
 generalize hF:(if ver=2 then flagS (flagS (numS (valueS (strS (strS (strS (strS s).1).1).1).1).1).1).1 else ((flagS (numS (valueS (strS (strS (strS (strS s).1).1).1).1).1).1).1,false))=F
 have e8:F.1.r.rest.length≤2000000:=by
  rw [←hF]
  split
  ·have:=flagS_le (flagS (numS (valueS (strS (strS (strS (strS s).1).1).1).1).1).1).1
   omega
  ·dsimp only; omega
 have e9:=cntS_le F.1
 have e10:=cntS_cnt F.1
 obtain ⟨w1,w2⟩:=words_in 2000000 (cntS F.1).2 (cntS F.1).1 [] (by omega) (by simp)
 refine ⟨by dsimp only; omega,by dsimp only; omega,by dsimp only; omega,v,?_,w1⟩
 show (wordsS (cntS F.1).2 (cntS F.1).1 []).2.length≤1000000000
 rw [w2,List.length_nil]; omega
theorem insts_in (ver:Int):∀ (c:Nat) (s:Rs) (l:List Inst),s.r.rest.length≤2000000→(∀ x∈l,AX.Sf.InstIn x)→(∀ x∈(instsS ver c s l).2.1,AX.Sf.InstIn x)∧(instsS ver c s l).2.1.length≤l.length+c∧(instsS ver c s l).1.r.rest.length≤s.r.rest.length
 | 0,s,l,hs,hl=>⟨hl,Nat.le_refl _,Nat.le_refl _⟩
 | c+1,s,l,hs,hl=>by
  unfold instsS
  split
  ·exact ⟨hl,by dsimp only; omega,Nat.le_refl _⟩
  ·have h0:=instS_le ver s
   obtain ⟨h1,h2,h3⟩:=insts_in ver c (instS ver s).1 (l++[(instS ver s).2]) (by omega) (fun x hx=>by
    rcases List.mem_append.1 hx with hx | hx
    ·exact hl x hx
    ·rw [List.mem_singleton.1 hx]; exact inst_in ver s hs)
   refine ⟨h1,?_,Nat.le_trans h3 h0⟩
   rw [List.length_append,List.length_singleton] at h2; omega
theorem pendS_le (s:Rs):(pendS s).1.r.rest.length≤s.r.rest.length:=Nat.le_trans (strS_le _) (Nat.le_trans (strS_le _) (strS_le _))
theorem pends_in:∀ (c:Nat) (s:Rs) (l:List Pend),s.r.rest.length≤2000000→(∀ x∈l,x.addr.length≤2000000∧x.tok.length≤2000000)→(∀ x∈(pendsS c s l).2,x.addr.length≤2000000∧x.tok.length≤2000000)∧(pendsS c s l).2.length=l.length+c∧(pendsS c s l).1.r.rest.length≤s.r.rest.length
 | 0,s,l,hs,hl=>⟨hl,rfl,Nat.le_refl _⟩
 | c+1,s,l,hs,hl=>by
  unfold pendsS
  have h0:=pendS_le s
  have k1:=strS_len s
  have k2:=strS_len (strS (strS s).1).1
  have k3:=strS_le s
  have k4:=strS_le (strS s).1
  obtain ⟨h1,h2,h3⟩:=pends_in c (pendS s).1 (l++[(pendS s).2]) (by omega) (fun x hx=>by
   rcases List.mem_append.1 hx with hx | hx
   ·exact hl x hx
   ·rw [List.mem_singleton.1 hx]
    unfold pendS
    dsimp only
    exact ⟨by omega,by omega⟩)
  refine ⟨h1,?_,Nat.le_trans h3 h0⟩
  rw [h2,List.length_append,List.length_singleton]; omega
theorem outS_le (s:Rs):(outS s).1.r.rest.length≤s.r.rest.length:=Nat.le_trans (flagS_le _) (Nat.le_trans (valueS_le _) (strS_le _))
theorem outs_in:∀ (c:Nat) (s:Rs) (l:List Outp),s.r.rest.length≤2000000→(∀ x∈l,x.name.length≤2000000∧x.value.lens)→(∀ x∈(outsS c s l).2.1,x.name.length≤2000000∧x.value.lens)∧(outsS c s l).2.1.length≤l.length+c
 | 0,s,l,hs,hl=>⟨hl,Nat.le_refl _⟩
 | c+1,s,l,hs,hl=>by
  unfold outsS
  split
  ·exact ⟨hl,by dsimp only; omega⟩
  ·have h0:=outS_le s
   have k1:=strS_len s
   have k3:=strS_le s
   obtain ⟨h1,h2⟩:=outs_in c (outS s).1 (l++[(outS s).2]) (by omega) (fun x hx=>by
    rcases List.mem_append.1 hx with hx | hx
    ·exact hl x hx
    ·rw [List.mem_singleton.1 hx]
     unfold outS
     dsimp only
     exact ⟨by omega,value_lens _ (by omega)⟩)
   refine ⟨h1,?_⟩
   rw [List.length_append,List.length_singleton] at h2; omega
theorem state_in (ver:Int) (s:Rs) (hs:s.r.rest.length≤2000000):AX.Sf.StIn (stateS ver s).2:=by
 have e1:=strS_le s
 have e2:=numS_le (strS s).1
 have e3:=cntS_le (numS (strS s).1).1
 have e4:=cntS_cnt (numS (strS s).1).1
 have l1:=strS_len s
 obtain ⟨i1,i2,i3⟩:=insts_in ver (cntS (numS (strS s).1).1).2 (cntS (numS (strS s).1).1).1 [] (by omega) (by simp)
 unfold stateS
 dsimp only
 generalize instsS ver (cntS (numS (strS s).1).1).2 (cntS (numS (strS s).1).1).1 []=I at i1 i2 i3
 rw [List.length_nil] at i2
 split
 ·exact ⟨by dsimp only; omega,i1,by simp,by simp,by dsimp only; omega,by simp,by simp⟩
 ·have hP:∃ P:Rs×List Pend,(if ver=2 then pendsS (cntS I.1).2 (cntS I.1).1 [] else (I.1,[]))=P∧P.1.r.rest.length≤2000000∧(∀ x∈P.2,x.addr.length≤2000000∧x.tok.length≤2000000)∧P.2.length≤2000000:=by
   have c1:=cntS_le I.1
   have c2:=cntS_cnt I.1
   by_cases hv:ver=2
   ·rw [if_pos hv]
    obtain ⟨p1,p2,p3⟩:=pends_in (cntS I.1).2 (cntS I.1).1 [] (by omega) (by simp)
    exact ⟨_,rfl,by omega,p1,by rw [p2,List.length_nil]; omega⟩
   ·rw [if_neg hv]
    exact ⟨_,rfl,by dsimp only; omega,by simp,by simp⟩
  obtain ⟨P,hP,p1,p2,p3⟩:=hP
  rw [hP]
  have c1:=cntS_le P.1
  have c2:=cntS_cnt P.1
  obtain ⟨o1,o2⟩:=outs_in (cntS P.1).2 (cntS P.1).1 [] (by omega) (by simp)
  rw [List.length_nil] at o2
  exact ⟨by dsimp only; omega,i1,p2,o1,by dsimp only; omega,by dsimp only; omega,by dsimp only; omega⟩
end Sf
end Go.Proofs.YtdgcbckcameggaaGreatDoor

namespace Go.Proofs.YtdgcbckcameggaaGreatDoor
namespace Sf
structure TypIn (s:St):Prop where
 insts:∀ x∈s.insts,x.typ.length≤2000000
 pends:∀ x∈s.pends,x.typ.length≤2000000
end Sf
end Go.Proofs.YtdgcbckcameggaaGreatDoor

namespace Go.Proofs.YtdgcbckcameggaaGreatDoor
open Go.RowKit
namespace AX
def c_r6letter:AX.AFn:=⟨21,aS [aR 2 (.mv (.c (.bool false)))] (aS [aM 3 0,aR 4 (.bin .geq (.t 3) (.c (.int .u8 97))),aM 5 4,aG 6 (.mv (.t 0)) 5 true,aG 7 (.bin .leq (.t 6) (.c (.int .u8 122))) 5 true,aR 8 (.pick (.t 5) (.t 7) (.c (.bool false))),aM 9 8,aG 10 (.mv (.t 0)) 9 false,aG 11 (.bin .geq (.t 10) (.c (.int .u8 65))) 9 false,aG 12 (.mv (.t 11)) 9 false,aG 13 (.mv (.t 0)) 12 true,aG 14 (.bin .leq (.t 13) (.c (.int .u8 90))) 12 true,aG 15 (.pick (.t 12) (.t 14) (.c (.bool false))) 9 false,aR 16 (.pick (.t 9) (.c (.bool true)) (.t 15)),aM 17 16,aG 18 (.mv (.t 0)) 17 false,aG 19 (.bin .eql (.t 18) (.c (.int .u8 95))) 17 false,aR 20 (.pick (.t 17) (.c (.bool true)) (.t 19)),aM 2 20] (.ret)),[.t 2]⟩
theorem h_r6letter:AX.compFn Tryz.prog 159=some c_r6letter:=by kernel_rfl
def c_r6ident:AX.AFn:=⟨40,aS [aR 2 (.mv (.c (.bool false)))] (.seq (aS [aM 4 0,aR 5 (.bin .eql (.t 4) (.c (.str []))),aM 6 5,aG 7 (.mv (.t 0)) 6 false,aG 8 (.len true (.t 7)) 6 false,aG 9 (.bin .gtr (.t 8) (aI 64)) 6 false,aR 10 (.pick (.t 6) (.c (.bool true)) (.t 9)),aM 11 10,aG 12 (.mv (.t 0)) 11 false,aG 13 (.sidx (.t 12) (aI 0)) 11 false,aG 14 (.call 159 [.t 13]) 11 false,aG 15 (.un .not (.t 14)) 11 false,aR 16 (.pick (.t 11) (.c (.bool true)) (.t 15))] (.cond (.t 16) (aS [aR 2 (.mv (.c (.bool false)))] (.ret)) (.skip))) (.seq (aS [aR 3 (.mv (aI 0))] (.block 0 (.loop (.seq (aS [aM 17 3,aM 18 0,aR 19 (.len true (.t 18)),aR 20 (.bin .lss (.t 17) (.t 19))] (.cond (.t 20) (.skip) (.exit 0))) (.seq (.block 1 (aS [aM 23 0,aM 24 3,aR 25 (.sidx (.t 23) (.t 24)),aR 26 (.call 159 [.t 25]),aR 27 (.un .not (.t 26)),aM 28 27,aG 29 (.mv (.t 0)) 28 true,aG 30 (.mv (.t 3)) 28 true,aG 31 (.sidx (.t 29) (.t 30)) 28 true,aG 32 (.bin .lss (.t 31) (.c (.int .u8 48))) 28 true,aG 33 (.mv (.t 32)) 28 true,aG 34 (.mv (.t 0)) 33 false,aG 35 (.mv (.t 3)) 33 false,aG 36 (.sidx (.t 34) (.t 35)) 33 false,aG 37 (.bin .gtr (.t 36) (.c (.int .u8 57))) 33 false,aG 38 (.pick (.t 33) (.c (.bool true)) (.t 37)) 28 true,aR 39 (.pick (.t 28) (.t 38) (.c (.bool false)))] (.cond (.t 39) (aS [aR 2 (.mv (.c (.bool false)))] (.ret)) (.skip)))) (.reg false [aM 21 3,aR 22 (.bin .add (.t 21) (aI 1)),aM 3 22])))))) (aS [aR 2 (.mv (.c (.bool true)))] (.ret)))),[.t 2]⟩
theorem h_r6ident:AX.compFn Tryz.prog 135=some c_r6ident:=by kernel_rfl
def c_r6res:AX.AFn:=⟨18,aS [aR 2 (.mv (.c (.bool false)))] (aS [aR 5 (.mks 1 [.c (.str [109,111,100,117,108,101]),.c (.str [100,97,116,97]),.c (.str [118,97,114]),.c (.str [108,111,99,97,108]),.c (.str [111,117,116,112,117,116]),.c (.str [101,97,99,104]),.c (.str [99,111,117,110,116]),.c (.str [114,101,109,111,116,101]),.c (.str [112,97,116,104]),.c (.str [115,101,108,102]),.c (.str [99,104,97,110,103,101])]),aM 3 5] (.seq (aS [aR 4 (.mv (aI 0))] (.block 0 (.loop (.seq (aS [aM 6 4,aM 7 3,aR 8 (.len false (.t 7)),aR 9 (.bin .lss (.t 6) (.t 8))] (.cond (.t 9) (.skip) (.exit 0))) (.seq (.block 1 (aS [aM 12 3,aM 13 4,aR 14 (.iaddr 1 (.t 12) (.t 13)),aL 15 14,aM 16 0,aR 17 (.bin .eql (.t 15) (.t 16))] (.cond (.t 17) (aS [aR 2 (.mv (.c (.bool true)))] (.ret)) (.skip)))) (.reg false [aM 10 4,aR 11 (.bin .add (.t 10) (aI 1)),aM 4 11])))))) (aS [aR 2 (.mv (.c (.bool false)))] (.ret)))),[.t 2]⟩
theorem h_r6res:AX.compFn Tryz.prog 180=some c_r6res:=by kernel_rfl
def c_r6begins:AX.AFn:=⟨18,aS [aR 4 (.mv (.c (.bool false)))] (aS [aM 5 0,aR 6 (.len true (.t 5)),aM 7 1,aR 8 (.len true (.t 7)),aR 9 (.bin .geq (.t 6) (.t 8)),aM 10 9,aG 11 (.mv (.t 0)) 10 true,aG 12 (.mv (.t 1)) 10 true,aG 13 (.len true (.t 12)) 10 true,aG 14 (.ssl (.t 11) none (some (.t 13))) 10 true,aG 15 (.mv (.t 1)) 10 true,aG 16 (.bin .eql (.t 14) (.t 15)) 10 true,aR 17 (.pick (.t 10) (.t 16) (.c (.bool false))),aM 4 17] (.ret)),[.t 4]⟩
theorem h_r6begins:AX.compFn Tryz.prog 177=some c_r6begins:=by kernel_rfl
def c_r6word:AX.AFn:=⟨35,aS [aR 2 (.mv (.c (.str []))),aR 3 (.mv (.c (.str [])))] (aS [aR 4 (.mv (aI 0))] (.seq (.block 0 (.loop (.seq (aS [aM 5 4,aM 6 0,aR 7 (.len true (.t 6)),aR 8 (.bin .lss (.t 5) (.t 7)),aM 9 8,aG 10 (.mv (.t 0)) 9 true,aG 11 (.mv (.t 4)) 9 true,aG 12 (.sidx (.t 10) (.t 11)) 9 true,aG 13 (.call 159 [.t 12]) 9 true,aG 14 (.mv (.t 13)) 9 true,aG 15 (.mv (.t 0)) 14 false,aG 16 (.mv (.t 4)) 14 false,aG 17 (.sidx (.t 15) (.t 16)) 14 false,aG 18 (.bin .geq (.t 17) (.c (.int .u8 48))) 14 false,aG 19 (.mv (.t 18)) 14 false,aG 20 (.mv (.t 0)) 19 true,aG 21 (.mv (.t 4)) 19 true,aG 22 (.sidx (.t 20) (.t 21)) 19 true,aG 23 (.bin .leq (.t 22) (.c (.int .u8 57))) 19 true,aG 24 (.pick (.t 19) (.t 23) (.c (.bool false))) 14 false,aG 25 (.pick (.t 14) (.c (.bool true)) (.t 24)) 9 true,aR 26 (.pick (.t 9) (.t 25) (.c (.bool false)))] (.cond (.t 26) (.skip) (.exit 0))) (.block 1 (.reg false [aM 27 4,aR 28 (.bin .add (.t 27) (aI 1)),aM 4 28]))))) (.seq (.reg true [aM 29 0,aM 30 4,⟨some 31,.ssl (.t 29) none (some (.t 30)),none,[0,1]⟩,aM 32 0,aM 33 4,⟨some 34,.ssl (.t 32) (some (.t 33)) none,none,[3,4]⟩,⟨some 2,.mv (.t 31),none,[2,0,1,2]⟩,⟨some 3,.mv (.t 34),none,[5,6,0,1,2,3,4,5,6]⟩]) (.ret)))),[.t 2,.t 3]⟩
theorem h_r6word:AX.compFn Tryz.prog 179=some c_r6word:=by kernel_rfl
theorem a_r6letter (c:UInt8) (h:Hp):ACall Tryz.prog GT 159 [.int .u8 (c.toNat:Int)] h fun r h'=>r = .bool (Adr.letter c)∧h'=h:=by
 refine pcall ?_ rfl (by simp [A.pure,A.data]) h
 refine acall_of mixedT h_r6letter (by simp [c_r6letter]) ?_
 dsimp only [c_r6letter]
 refine runx0 ti ti ?_
 refine ⟨_,le_refl _,?_⟩
 rw [tupA_1]
 congr 1
 unfold Adr.letter
 have e1:decide ((c.toNat:Int)≥97)=decide (97≤c.toNat):=by rw [decide_eq_decide]; omega
 have e2:decide ((c.toNat:Int)≤122)=decide (c.toNat≤122):=by rw [decide_eq_decide]; omega
 have e3:decide ((c.toNat:Int)≥65)=decide (65≤c.toNat):=by rw [decide_eq_decide]; omega
 have e4:decide ((c.toNat:Int)≤90)=decide (c.toNat≤90):=by rw [decide_eq_decide]; omega
 have e5:((c.toNat:Int) == 95)=(c == 95):=by
  rw [Bool.eq_iff_iff,beq_iff_eq,beq_iff_eq,←UInt8.toNat_inj]
  show _↔c.toNat=95
  omega
 rw [e1,e2,e3,e4,e5]
theorem i80 {n:Nat} (h:n≤2000000):IntKind.i64.wrap ((n:Int)+1)=((n+1:Nat):Int):=by rw [wrap64 (by omega) (by omega)]; omega
theorem word_no (c:UInt8):(!Adr.letter c&&(decide ((c.toNat:Int) < 48)||decide ((c.toNat:Int) > 57)))=!Adr.wordB c:=by
 unfold Adr.wordB Num.digB
 have e1:decide ((c.toNat:Int) < 48)=!decide (48≤c.toNat):=by rw [←decide_not,decide_eq_decide]; omega
 have e2:decide ((c.toNat:Int) > 57)=!decide (c.toNat≤57):=by rw [←decide_not,decide_eq_decide]; omega
 rw [e1,e2,Bool.not_or,Bool.not_and]
theorem word_yes (c:UInt8):(Adr.letter c||(decide ((c.toNat:Int)≥48)&&decide ((c.toNat:Int)≤57)))=Adr.wordB c:=by
 unfold Adr.wordB Num.digB
 have e1:decide ((c.toNat:Int)≥48)=decide (48≤c.toNat):=by rw [decide_eq_decide]; omega
 have e2:decide ((c.toNat:Int)≤57)=decide (c.toNat≤57):=by rw [decide_eq_decide]; omega
 rw [e1,e2]
theorem a_r6ident (s:List UInt8) (hl:s.length≤2000000) (h:Hp):ACall Tryz.prog GT 135 [.str s] h fun r h'=>r = .bool (Adr.ident s)∧h'=h:=by
 refine pcall ?_ rfl (by simp [A.pure,A.data]) h
 refine acall_of mixedT h_r6ident (by simp [c_r6ident]) ?_
 dsimp only [c_r6ident]
 obtain ⟨q,hq⟩:∃ q,Adr.ident s=q:=⟨_,rfl⟩
 rw [hq]
 unfold Adr.ident at hq
 cases s with
 | nil =>
  refine runx0 ti ti ?_
  exact ⟨_,le_refl _,by rw [←hq]; rfl⟩
 | cons c0 t =>
 have e0:((c0::t) == ([]:List UInt8))=false:=rfl
 have e0':((c0::t) != ([]:List UInt8))=true:=rfl
 have h0:(0:Int) < ((t.length+1:Nat):Int):=by omega
 have hc:=a_r6letter
 rw [e0',Bool.true_and] at hq
 by_cases h64:(t.length+1:Nat)≤64
 rotate_left
 ·have e1:((t.length+1:Nat):Int) > 64:=by omega
  have:false=q:=by rw [←hq]; simp; omega
  subst this
  refine runx0 (ai e0 e1) ti ?_
  exact ⟨_,le_refl _,rfl⟩
 have e1:¬ ((t.length+1:Nat):Int) > 64:=by omega
 rw [show decide ((c0::t).length≤64)=true from decide_eq_true h64,Bool.true_and,List.getD_cons_zero] at hq
 cases hL:Adr.letter c0 with
 | false =>
  rw [hL] at hq
  have:false=q:=hq
  subst this
  have hc0:=hc c0
  rw [hL] at hc0
  refine runx0 (ai e0 (ai e1 h0)) (ai hc0 ti) ?_
  exact ⟨_,le_refl _,rfl⟩
 | true =>
 rw [hL,Bool.true_and] at hq
 have hc0:=hc c0
 rw [hL] at hc0
 refine runx0 (ai e0 (ai e1 h0)) (ai hc0 ti) ?_
 obtain ⟨s,hs⟩:∃ s,c0::t=s:=⟨_,rfl⟩
 have hsl:t.length+1=s.length:=by rw [←hs]; rfl
 rw [hs] at hq ⊢
 refine awp_loop (fun m ts hh=>hh=⟨[],[]⟩∧∃ j:Nat,m=s.length - j∧j≤s.length∧(s.drop j).all Adr.wordB=s.all Adr.wordB∧(ts 0 = .str s∧ts 3 = .int .i64 (j:Nat))) s.length ?_ ?_
 ·exact ⟨rfl,0,rfl,Nat.zero_le _,rfl,by (exact inv0 hs)⟩
 rintro m ts hh ⟨rfl,j,rfl,hj,heq,ht⟩
 rcases Nat.lt_or_ge j s.length with hlt | hge
 ·have hf:(j:Int) < (s.length:Int)∧(0:Int)≤(j:Int)∧IntKind.i64.wrap ((j:Int)+1)=((j+1:Nat):Int):=⟨by omega,by omega,i80 (by omega)⟩
  rw [List.drop_eq_getElem_cons hlt,List.all_cons] at heq
  have hg:s.getD j 0=s[j]:=by simp [List.getD,hlt]
  obtain ⟨c,hcc⟩:∃ c,s[j]=c:=⟨_,rfl⟩
  rw [hcc] at heq hg
  have hw:=word_no c
  cases hB:Adr.wordB c with
  | false =>
   rw [hB] at heq hw
   have:false=q:=by rw [←hq,←heq]; rfl
   subst this
   refine runx0 (ai ht (ai hf (ai hg hw))) (ai (hc c) ti) ?_
   exact ⟨_,le_refl _,rfl⟩
  | true =>
   rw [hB] at heq hw
   refine runx0 (ai ht (ai hf (ai hg hw))) (ai (hc c) ti) ?_
   exact ⟨_,by omega,rfl,j+1,rfl,by omega,heq,by (exact inv0 (ai ht hf))⟩
 ·have hf:¬ (j:Int) < (s.length:Int):=by omega
  rw [List.drop_of_length_le hge,List.all_nil] at heq
  refine runx0 (ai ht hf) ti ?_
  exact ⟨_,le_refl _,by rw [←hq,←heq]; rfl⟩
theorem a_r6begins (s p:List UInt8) (hl:s.length≤2000000) (hp:p.length≤2000000) (h:Hp):ACall Tryz.prog GT 177 [.str s,.str p] h fun r h'=>r = .bool (Adr.begins s p)∧h'=h:=by
 refine pcall ?_ rfl (by simp [A.pure,A.data]) h
 refine acall_of mixedT h_r6begins (by simp [c_r6begins]) ?_
 dsimp only [c_r6begins]
 have hb:Adr.begins s p=(decide (p.length≤s.length)&&(s.take p.length == p)):=by
  unfold Adr.begins
  rw [Bool.eq_iff_iff,List.isPrefixOf_iff_prefix,Bool.and_eq_true,decide_eq_true_eq,beq_iff_eq,List.prefix_iff_eq_take]
  exact ⟨fun e=>⟨by have:=congrArg List.length e; rw [List.length_take] at this; omega,e.symm⟩,fun e=>e.2.symm⟩
 rw [hb]
 by_cases hc:p.length≤s.length
 ·have e1:(s.length:Int)≥(p.length:Int):=by omega
  have e2:(0:Int)≤(p.length:Int)∧(p.length:Int)≤(s.length:Int):=⟨by omega,by omega⟩
  rw [decide_eq_true hc,Bool.true_and]
  refine runx0 (ai e1 e2) ti ?_
  exact ⟨_,le_refl _,rfl⟩
 ·have e1:¬ (s.length:Int)≥(p.length:Int):=by omega
  rw [decide_eq_false hc,Bool.false_and]
  refine runx0 e1 ti ?_
  exact ⟨_,le_refl _,rfl⟩
theorem take_stop {p:UInt8→Bool}:∀ (s:List UInt8) (j:Nat),j≤s.length→(s.take j).all p=true→(j=s.length∨p (s.getD j 0)=false)→s.takeWhile p=s.take j∧s.dropWhile p=s.drop j
 | [],0,_,_,_=>⟨rfl,rfl⟩
 | c::s,0,_,_,h=>by
  rcases h with h | h
  ·simp at h
  ·simp only [List.getD_cons_zero] at h
   exact ⟨by simp [h],by simp [h]⟩
 | c::s,j+1,hj,ha,h=>by
  rw [List.take_succ_cons,List.all_cons,Bool.and_eq_true] at ha
  have:=take_stop s j (by simpa using hj) ha.2 (by simpa using h)
  rw [List.takeWhile_cons_of_pos ha.1,List.dropWhile_cons_of_pos ha.1,this.1,this.2]
  exact ⟨rfl,rfl⟩
theorem a_r6word (s:List UInt8) (hl:s.length≤2000000) (h:Hp):ACall Tryz.prog GT 179 [.str s] h fun r h'=>r = .tup [.str (s.takeWhile Adr.wordB),.str (s.dropWhile Adr.wordB)]∧h'=h:=by
 refine pcall ?_ rfl (by simp [A.pure,A.data]) h
 refine acall_of mixedT h_r6word (by simp [c_r6word]) ?_
 dsimp only [c_r6word]
 have hc:=a_r6letter
 refine runx0 ti ti ?_
 refine awp_loop (fun m ts hh=>hh=⟨[],[]⟩∧∃ j:Nat,m=s.length - j∧j≤s.length∧(s.take j).all Adr.wordB=true∧(ts 0 = .str s∧ts 4 = .int .i64 (j:Nat))) s.length ?_ ?_
 ·exact ⟨rfl,0,rfl,Nat.zero_le _,rfl,by (exact inv0 ti)⟩
 rintro m ts hh ⟨rfl,j,rfl,hj,hall,ht⟩
 have hs:(0:Int)≤(j:Int)∧(j:Int)≤(s.length:Int):=⟨by omega,by omega⟩
 rcases Nat.lt_or_ge j s.length with hlt | hge
 ·have hf:(j:Int) < (s.length:Int)∧IntKind.i64.wrap ((j:Int)+1)=((j+1:Nat):Int):=⟨by omega,i80 (by omega)⟩
  have hg:s.getD j 0=s[j]:=by simp [List.getD,hlt]
  obtain ⟨c,hcc⟩:∃ c,s[j]=c:=⟨_,rfl⟩
  rw [hcc] at hg
  have hw:=word_yes c
  cases hB:Adr.wordB c with
  | false =>
   rw [hB] at hw
   obtain ⟨k1,k2⟩:=take_stop s j hj hall (.inr (by rw [hg]; exact hB))
   rw [k1,k2]
   refine runx0 (ai ht (ai hf (ai hs (ai hg hw)))) (ai (hc c) ti) ?_
   exact ⟨_,le_refl _,rfl⟩
  | true =>
   rw [hB] at hw
   refine runx0 (ai ht (ai hf (ai hs (ai hg hw)))) (ai (hc c) ti) ?_
   refine ⟨_,?_,rfl,j+1,rfl,by omega,?_,by (exact inv0 (ai ht hf))⟩
   ·omega
   ·rw [List.take_succ_eq_append_getElem hlt,List.all_append,hall,hcc]
    simp [hB]
 ·have hf:¬ (j:Int) < (s.length:Int):=by omega
  obtain ⟨k1,k2⟩:=take_stop s j hj hall (.inl (by omega))
  rw [k1,k2]
  refine runx0 (ai ht (ai hf hs)) ti ?_
  exact ⟨_,le_refl _,rfl⟩
theorem a_r6res (s:List UInt8) (h:Hp):ACall Tryz.prog GT 180 [.str s] h fun r h'=>r = .bool (Adr.reserved s)∧h'=h:=by
 refine pcall ?_ rfl (by simp [A.pure,A.data]) h
 refine acall_of mixedT h_r6res (by simp [c_r6res]) ?_
 dsimp only [c_r6res]
 obtain ⟨L,hL⟩:∃ L,Adr.reservedL=L:=⟨_,rfl⟩
 have hr:Adr.reserved s=L.contains s:=by unfold Adr.reserved; rw [hL]
 have h11:L.length=11:=by rw [←hL]; rfl
 rw [hr]
 refine runx0 ti ti ?_
 refine awp_loop (fun m ts hh=>hh=⟨[],[]⟩∧∃ j:Nat,m=L.length - j∧j≤L.length∧(L.drop j).contains s=L.contains s∧(ts 0 = .str s∧ts 3 = .sl 1 .no (strsA L)∧ts 4 = .int .i64 (j:Nat))) L.length ?_ ?_
 ·exact ⟨rfl,0,rfl,Nat.zero_le _,rfl,rfl,by rw [←hL]; rfl,rfl⟩
 rintro m ts hh ⟨rfl,j,rfl,hj,heq,ht⟩
 rcases Nat.lt_or_ge j L.length with hlt | hge
 ·have hf:(strsA L).length=L.length∧(j:Int) < (L.length:Int)∧(0:Int)≤(j:Int)∧IntKind.i64.wrap ((j:Int)+1)=((j+1:Nat):Int)∧(strsA L).getD j []=[.str L[j]]:=⟨strsA_length L,by omega,by omega,i80 (by omega),strsA_get L j hlt⟩
  rw [List.drop_eq_getElem_cons hlt,List.contains_cons] at heq
  obtain ⟨w,hw⟩:∃ w,L[j]=w:=⟨_,rfl⟩
  rw [hw] at heq hf
  by_cases e:w=s
  ·subst e
   rw [show (w == w)=true from beq_self_eq_true _,Bool.true_or] at heq
   refine runx0 (ai ht hf) ti ?_
   exact ⟨_,le_refl _,by rw [←heq]; rfl⟩
  ·have e1:(w == s)=false:=by simp [e]
   have e2:(s == w)=false:=by simpa using fun h=>e h.symm
   rw [e2,Bool.false_or] at heq
   refine runx0 (ai ht (ai hf e1)) ti ?_
   exact ⟨_,by omega,rfl,j+1,rfl,by omega,heq,by (exact inv0 (ai ht hf))⟩
 ·have hf:(strsA L).length=L.length∧¬ (j:Int) < (L.length:Int):=⟨strsA_length L,by omega⟩
  rw [List.drop_of_length_le hge] at heq
  refine runx0 (ai ht hf) ti ?_
  exact ⟨_,le_refl _,by rw [←heq]; rfl⟩
def c_r1digits:AX.AFn:=⟨31,aS [aR 2 (.mv (.c (.bool false)))] (.seq (aS [aR 3 (.mv (aI 0))] (.block 0 (.loop (.seq (aS [aM 4 3,aM 5 0,aR 6 (.len true (.t 5)),aR 7 (.bin .lss (.t 4) (.t 6))] (.cond (.t 7) (.skip) (.exit 0))) (.seq (.block 1 (aS [aM 10 0,aM 11 3,aR 12 (.sidx (.t 10) (.t 11)),aR 13 (.bin .lss (.t 12) (.c (.int .u8 48))),aM 14 13,aG 15 (.mv (.t 0)) 14 false,aG 16 (.mv (.t 3)) 14 false,aG 17 (.sidx (.t 15) (.t 16)) 14 false,aG 18 (.bin .gtr (.t 17) (.c (.int .u8 57))) 14 false,aR 19 (.pick (.t 14) (.c (.bool true)) (.t 18))] (.cond (.t 19) (aS [aR 2 (.mv (.c (.bool false)))] (.ret)) (.skip)))) (.reg false [aM 8 3,aR 9 (.bin .add (.t 8) (aI 1)),aM 3 9])))))) (aS [aM 20 0,aR 21 (.bin .eql (.t 20) (.c (.str [48]))),aM 22 21,aG 23 (.mv (.t 0)) 22 false,aG 24 (.bin .neq (.t 23) (.c (.str []))) 22 false,aG 25 (.mv (.t 24)) 22 false,aG 26 (.mv (.t 0)) 25 true,aG 27 (.sidx (.t 26) (aI 0)) 25 true,aG 28 (.bin .neq (.t 27) (.c (.int .u8 48))) 25 true,aG 29 (.pick (.t 25) (.t 28) (.c (.bool false))) 22 false,aR 30 (.pick (.t 22) (.c (.bool true)) (.t 29)),aM 2 30] (.ret))),[.t 2]⟩
theorem h_r1digits:AX.compFn Tryz.prog 156=some c_r1digits:=by kernel_rfl
def c_r1valid:AX.AFn:=⟨9,aS [aR 2 (.mv (.c (.bool false)))] (aS [aM 3 0,aR 4 (.bin .geq (.t 3) (aI (-9007199254740992))),aM 5 4,aG 6 (.mv (.t 0)) 5 true,aG 7 (.bin .leq (.t 6) (aI 9007199254740992)) 5 true,aR 8 (.pick (.t 5) (.t 7) (.c (.bool false))),aM 2 8] (.ret)),[.t 2]⟩
theorem h_r1valid:AX.compFn Tryz.prog 157=some c_r1valid:=by kernel_rfl
def c_r1parse:AX.AFn:=⟨54,aS [aR 2 (.mv (aI 0)),aR 3 (.mv (aI 0))] (aS [aM 8 0,aR 9 (.len true (.t 8)),aR 10 (.bin .gtr (.t 9) (aI 0)),aM 11 10,aG 12 (.mv (.t 0)) 11 true,aG 13 (.sidx (.t 12) (aI 0)) 11 true,aG 14 (.bin .eql (.t 13) (.c (.int .u8 45))) 11 true,aR 15 (.pick (.t 11) (.t 14) (.c (.bool false))),aM 4 15] (aS [aM 16 0,aM 5 16] (.seq (aS [aM 17 4] (.cond (.t 17) (.reg false [aM 18 0,aR 19 (.ssl (.t 18) (some (aI 1)) none),aM 5 19]) (.skip))) (.seq (aS [aM 20 5,aR 21 (.call 156 [.t 20]),aR 22 (.un .not (.t 21)),aM 23 22,aG 24 (.mv (.t 4)) 23 false,aG 25 (.mv (.t 24)) 23 false,aG 26 (.mv (.t 5)) 25 true,aG 27 (.bin .eql (.t 26) (.c (.str [48]))) 25 true,aG 28 (.pick (.t 25) (.t 27) (.c (.bool false))) 23 false,aR 29 (.pick (.t 23) (.c (.bool true)) (.t 28))] (.cond (.t 29) (aS [aR 2 (.mv (aI 0)),aR 3 (.mv (aI 2))] (.ret)) (.skip))) (.seq (aS [aM 30 5,aR 31 (.len true (.t 30)),aR 32 (.bin .gtr (.t 31) (aI 16))] (.cond (.t 32) (aS [aR 2 (.mv (aI 0)),aR 3 (.mv (aI 5))] (.ret)) (.skip))) (aS [aR 6 (.mv (aI 0))] (.seq (aS [aR 7 (.mv (aI 0))] (.block 0 (.loop (.seq (aS [aM 33 7,aM 34 5,aR 35 (.len true (.t 34)),aR 36 (.bin .lss (.t 33) (.t 35))] (.cond (.t 36) (.skip) (.exit 0))) (.seq (.block 1 (.reg false [aM 39 6,aR 40 (.bin .mul (aI 10) (.t 39)),aM 41 5,aM 42 7,aR 43 (.sidx (.t 41) (.t 42)),aR 44 (.bin .sub (.t 43) (.c (.int .u8 48))),aR 45 (.conv .i64 (.t 44)),aR 46 (.bin .add (.t 40) (.t 45)),aM 6 46])) (.reg false [aM 37 7,aR 38 (.bin .add (.t 37) (aI 1)),aM 7 38])))))) (.seq (aS [aM 47 4] (.cond (.t 47) (.reg false [aM 48 6,aR 49 (.un .neg (.t 48)),aM 6 49]) (.skip))) (.seq (aS [aM 50 6,aR 51 (.call 157 [.t 50]),aR 52 (.un .not (.t 51))] (.cond (.t 52) (aS [aR 2 (.mv (aI 0)),aR 3 (.mv (aI 5))] (.ret)) (.skip))) (aS [aM 53 6,aM 2 53,aR 3 (.mv (aI 0))] (.ret))))))))))),[.t 2,.t 3]⟩
theorem h_r1parse:AX.compFn Tryz.prog 133=some c_r1parse:=by kernel_rfl
theorem dig_no (c:UInt8):(decide ((c.toNat:Int) < 48)||decide ((c.toNat:Int) > 57))=!Num.digB c:=by
 unfold Num.digB
 have e1:decide ((c.toNat:Int) < 48)=!decide (48≤c.toNat):=by rw [←decide_not,decide_eq_decide]; omega
 have e2:decide ((c.toNat:Int) > 57)=!decide (c.toNat≤57):=by rw [←decide_not,decide_eq_decide]; omega
 rw [e1,e2,Bool.not_and]
theorem a_r1digits (s:List UInt8) (hl:s.length≤2000000) (h:Hp):ACall Tryz.prog GT 156 [.str s] h fun r h'=>r = .bool (Num.digits s)∧h'=h:=by
 refine pcall ?_ rfl (by simp [A.pure,A.data]) h
 refine acall_of mixedT h_r1digits (by simp [c_r1digits]) ?_
 dsimp only [c_r1digits]
 obtain ⟨q,hq⟩:∃ q,Num.digits s=q:=⟨_,rfl⟩
 rw [hq]
 unfold Num.digits at hq
 refine runx0 ti ti ?_
 refine awp_loop (fun m ts hh=>hh=⟨[],[]⟩∧∃ j:Nat,m=s.length - j∧j≤s.length∧(s.drop j).all Num.digB=s.all Num.digB∧(ts 0 = .str s∧ts 3 = .int .i64 (j:Nat))) s.length ?_ ?_
 ·exact ⟨rfl,0,rfl,Nat.zero_le _,rfl,by (exact inv0 ti)⟩
 rintro m ts hh ⟨rfl,j,rfl,hj,heq,ht⟩
 rcases Nat.lt_or_ge j s.length with hlt | hge
 ·have hf:(j:Int) < (s.length:Int)∧(0:Int)≤(j:Int)∧IntKind.i64.wrap ((j:Int)+1)=((j+1:Nat):Int):=⟨by omega,by omega,i80 (by omega)⟩
  rw [List.drop_eq_getElem_cons hlt,List.all_cons] at heq
  have hg:s.getD j 0=s[j]:=by simp [List.getD,hlt]
  obtain ⟨c,hcc⟩:∃ c,s[j]=c:=⟨_,rfl⟩
  rw [hcc] at heq hg
  have hw:=dig_no c
  cases hB:Num.digB c with
  | false =>
   rw [hB] at heq hw
   have:false=q:=by rw [←hq,←heq]; rfl
   subst this
   refine runx0 (ai ht (ai hf (ai hg hw))) ti ?_
   exact ⟨_,le_refl _,rfl⟩
  | true =>
   rw [hB] at heq hw
   refine runx0 (ai ht (ai hf (ai hg hw))) ti ?_
   exact ⟨_,by omega,rfl,j+1,rfl,by omega,heq,by (exact inv0 (ai ht hf))⟩
 ·have hf:¬ (j:Int) < (s.length:Int):=by omega
  rw [List.drop_of_length_le hge,List.all_nil] at heq
  rw [←heq,Bool.true_and] at hq
  cases s with
  | nil =>
   have hf:¬ (j:Int) < ((0:Nat):Int)∧(([]:List UInt8) == [48])=false:=⟨by omega,rfl⟩
   refine runx0 (ai ht hf) ti ?_
   exact ⟨_,le_refl _,by rw [←hq]; rfl⟩
  | cons c t =>
   have hf:¬ (j:Int) < ((t.length+1:Nat):Int):=hf
   have h0:(0:Int) < ((t.length+1:Nat):Int):=by omega
   have e0:((c::t) != ([]:List UInt8))=true:=rfl
   have e1:((c.toNat:Int) != 48)=(c != 48):=by
    rw [Bool.eq_iff_iff,bne_iff_ne,bne_iff_ne,ne_eq,ne_eq,←UInt8.toNat_inj]
    show ¬ _↔¬ c.toNat=48
    omega
   rw [e0,Bool.true_and,List.getD_cons_zero,←e1] at hq
   refine runx0 (ai ht (ai hf (ai h0 e0))) ti ?_
   exact ⟨_,le_refl _,by rw [←hq]; rfl⟩
theorem a_r1valid (n:Int) (h:Hp):ACall Tryz.prog GT 157 [.int .i64 n] h fun r h'=>r = .bool (decide (n≥-9007199254740992)&&decide (n≤9007199254740992))∧h'=h:=by
 refine pcall ?_ rfl (by simp [A.pure,A.data]) h
 refine acall_of mixedT h_r1valid (by simp [c_r1valid]) ?_
 dsimp only [c_r1valid]
 refine runx0 ti ti ?_
 exact ⟨_,le_refl _,rfl⟩
theorem val_take (t:List UInt8) (j:Nat) (h:j < t.length):Num.val (t.take (j+1))=10*Num.val (t.take j)+(t[j].toNat - 48):=by
 rw [List.take_succ_eq_append_getElem h]
 unfold Num.val
 rw [List.foldl_append]
 rfl
theorem val_lt:∀ (n:Nat) (t:List UInt8),t.length=n→t.all Num.digB=true→Num.val t < 10 ^ n:=by
 intro n
 induction n with
 | zero=>intro t ht _; rw [List.eq_nil_of_length_eq_zero ht]; decide
 | succ n ih =>
  intro t ht ha
  have hlt:n < t.length:=by omega
  have h1:=val_take t n hlt
  rw [List.take_of_length_le (by omega)] at h1
  have h2:=ih (t.take n) (by rw [List.length_take]; omega) (by
   rw [List.all_eq_true] at ha ⊢
   exact fun x hx=>ha x (List.mem_of_mem_take hx))
  have h3:=List.all_eq_true.1 ha t[n] (List.getElem_mem hlt)
  rw [Num.digB_iff] at h3
  rw [h1,Nat.pow_succ]
  omega
theorem a_r1parse (s:List UInt8) (hl:s.length≤2000000) (h:Hp):ACall Tryz.prog GT 133 [.str s] h fun r h'=>r = .tup [.int .i64 (Num.parse s).1,.int .i64 (Num.parse s).2]∧h'=h:=by
 refine pcall ?_ rfl (by simp [A.pure,A.data]) h
 refine acall_of mixedT h_r1parse (by simp [c_r1parse]) ?_
 dsimp only [c_r1parse]
 cases s with
 | nil =>
  have hd:=a_r1digits [] (by decide)
  rw [show Num.digits []=false from rfl] at hd
  have h00:¬ ((0:Nat):Int) > 0:=by decide
  refine runx0 h00 (ai hd ti) ?_
  exact ⟨_,le_refl _,rfl⟩
 | cons c r =>
 have h0:(0:Int) < ((r.length+1:Nat):Int)∧((r.length+1:Nat):Int) > 0∧(0:Int)≤1∧(1:Int)≤((r.length+1:Nat):Int):=⟨by omega,by omega,by omega,by omega⟩
 obtain ⟨t,ht⟩:∃ t,(if (c == 45)=true then r else c::r)=t:=⟨_,rfl⟩
 have hl':r.length+1≤2000000:=hl
 have htl:t.length≤2000000:=by
  rw [←ht]
  split
  ·omega
  ·exact hl
 have e1:((c.toNat:Int) == 45)=(c == 45):=by
  rw [Bool.eq_iff_iff,beq_iff_eq,beq_iff_eq,←UInt8.toNat_inj]
  show _↔c.toNat=45
  omega
 have hp:Num.parse (c::r)=if (!Num.digits t||((c == 45)&&t == [48]))=true then (0,2) else if 16 < t.length then (0,5) else if 9007199254740992 < Num.val t then (0,5) else ((if (c == 45)=true then - (Num.val t:Int) else Num.val t),0):=by
  unfold Num.parse
  simp only [List.getD_cons_zero,List.drop_succ_cons,List.drop_zero,ht]
 obtain ⟨mn,hmn⟩:∃ mn,(c == 45)=mn:=⟨_,rfl⟩
 rw [hmn] at e1 hp ht
 refine runx0 (ai h0 e1) ti ?_
 refine awp_join (fun ts' h'=>h'=⟨[],[]⟩∧(ts' 4 = .bool mn∧ts' 5 = .str t)) ?_ ?_
 ·cases mn with
  | false =>
   rw [if_neg (by decide)] at ht
   refine runx0 (ai h0 e1) ti ?_
   exact ⟨rfl,by (exact inv0 (ai ht e1))⟩
  | true =>
   rw [if_pos rfl] at ht
   refine runx0 (ai h0 e1) ti ?_
   exact ⟨rfl,by (exact inv0 (ai ht e1))⟩
 rintro ts hh ⟨rfl,hu⟩
 rw [hp]
 have hd:=a_r1digits t htl
 cases hD:Num.digits t with
 | false =>
  rw [hD] at hd
  refine runx0 hu (ai hd ti) ?_
  exact ⟨_,le_refl _,rfl⟩
 | true =>
 rw [hD] at hd
 cases hz:(mn&&t == [48]) with
 | true =>
  refine runx0 (ai hu hz) (ai hd ti) ?_
  exact ⟨_,le_refl _,rfl⟩
 | false =>
 rw [if_neg (by simp)]
 by_cases h16:16 < t.length
 ·have e2:(t.length:Int) > 16:=by omega
  rw [if_pos h16]
  refine runx0 (ai hu (ai hz e2)) (ai hd ti) ?_
  exact ⟨_,le_refl _,rfl⟩
 have e2:¬ (t.length:Int) > 16:=by omega
 rw [if_neg h16]
 have hall:t.all Num.digB=true:=by unfold Num.digits at hD; rw [Bool.and_eq_true] at hD; exact hD.1
 have hv:∀ j,j≤t.length→Num.val (t.take j) < 10000000000000000:=fun j hj=>by
  have:=val_lt j (t.take j) (by rw [List.length_take]; omega) (by
   rw [List.all_eq_true] at hall ⊢
   exact fun x hx=>hall x (List.mem_of_mem_take hx))
  exact Nat.lt_of_lt_of_le this (Nat.pow_le_pow_right (by decide) (show j≤16 by omega))
 refine runx0 (ai hu (ai hz e2)) (ai hd ti) ?_
 refine awp_loop (fun m ts hh=>hh=⟨[],[]⟩∧∃ j:Nat,m=t.length - j∧j≤t.length∧(ts 4 = .bool mn∧ts 5 = .str t∧ts 6 = .int .i64 (Num.val (t.take j):Nat)∧ts 7 = .int .i64 (j:Nat))) t.length ?_ ?_
 ·exact ⟨rfl,0,rfl,Nat.zero_le _,by (exact inv0 hu)⟩
 rintro m ts hh ⟨rfl,j,rfl,hj,hw⟩
 have hvj:=hv j hj
 rcases Nat.lt_or_ge j t.length with hlt | hge
 ·have hvj1:=hv (j+1) hlt
  have hvt:=val_take t j hlt
  have hcd:=(Num.digB_iff _).1 (List.all_eq_true.1 hall t[j] (List.getElem_mem hlt))
  have hg:t.getD j 0=t[j]:=by simp [List.getD,hlt]
  obtain ⟨x,hx⟩:∃ x,t[j]=x:=⟨_,rfl⟩
  rw [hx] at hvt hcd hg
  have hf:(j:Int) < (t.length:Int)∧(0:Int)≤(j:Int)∧IntKind.i64.wrap ((j:Int)+1)=((j+1:Nat):Int):=⟨by omega,by omega,i80 (by omega)⟩
  obtain ⟨V,hV⟩:∃ V,Num.val (t.take j)=V:=⟨_,rfl⟩
  rw [hV] at hvt hvj hw
  have k1:IntKind.i64.wrap (10*(V:Int))=((10*V:Nat):Int):=by rw [wrap64 (by omega) (by omega)]; omega
  have k2:IntKind.u8.wrap ((x.toNat:Int) - 48)=((x.toNat - 48:Nat):Int):=by rw [IntKind.wrap_u8]; omega
  have k3:IntKind.i64.wrap ((x.toNat - 48:Nat):Int)=((x.toNat - 48:Nat):Int):=wrap64 (by omega) (by omega)
  have k4:IntKind.i64.wrap (((10*V:Nat):Int)+((x.toNat - 48:Nat):Int))=(Num.val (t.take (j+1)):Nat):=by rw [hvt,wrap64 (by omega) (by omega)]; omega
  refine runx0 (ai hw (ai hf (ai hg (ai k1 (ai k2 (ai k3 k4)))))) ti ?_
  exact ⟨_,by omega,rfl,j+1,rfl,by omega,by (exact inv0 (ai hw (ai hf (ai hg (ai k1 (ai k2 (ai k3 k4)))))))⟩
 ·have hf:¬ (j:Int) < (t.length:Int):=by omega
  rw [List.take_of_length_le hge] at hw hvj
  obtain ⟨V,hV⟩:∃ V,Num.val t=V:=⟨_,rfl⟩
  rw [hV] at hw hvj ⊢
  have hva:=fun n=>a_r1valid n
  cases mn with
  | false =>
   by_cases hb:9007199254740992 < V
   ·have e3:(decide ((V:Int)≥-9007199254740992)&&decide ((V:Int)≤9007199254740992))=false:=by simp; omega
    rw [if_pos hb]
    refine runx0 (ai hw (ai hf e3)) (ai ((hva V)) ti) ?_
    exact ⟨_,le_refl _,rfl⟩
   ·have e3:(decide ((V:Int)≥-9007199254740992)&&decide ((V:Int)≤9007199254740992))=true:=by simp; omega
    rw [if_neg hb]
    refine runx0 (ai hw (ai hf e3)) (ai ((hva V)) ti) ?_
    exact ⟨_,le_refl _,rfl⟩
  | true =>
   have e4:IntKind.i64.wrap (0 - (V:Int))=-(V:Int):=by rw [wrap64 (by omega) (by omega)]; omega
   by_cases hb:9007199254740992 < V
   ·have e3:(decide (-(V:Int)≥-9007199254740992)&&decide (-(V:Int)≤9007199254740992))=false:=by simp; omega
    rw [if_pos hb]
    refine runx0 (ai hw (ai hf (ai e4 e3))) (ai ((hva (-(V:Int)))) ti) ?_
    exact ⟨_,le_refl _,rfl⟩
   ·have e3:(decide (-(V:Int)≥-9007199254740992)&&decide (-(V:Int)≤9007199254740992))=true:=by simp; omega
    rw [if_neg hb]
    refine runx0 (ai hw (ai hf (ai e4 e3))) (ai ((hva (-(V:Int)))) ti) ?_
    exact ⟨_,le_refl _,rfl⟩
end AX
theorem hd_extract:∀ d:Fin 16,((⟨#[48,49,50,51,52,53,54,55,56,57,97,98,99,100,101,102]⟩:ByteArray).extract d.val (d.val+1)).data.toList=[Str.hd d.val]:=by decide
theorem hd_str (d:Nat) (h:d < 16):(⟨#[48,49,50,51,52,53,54,55,56,57,97,98,99,100,101,102]⟩:ByteArray).extract d (d+1)=⟨#[Str.hd d]⟩:=by
 have:=hd_extract ⟨d,h⟩
 exact str_of this
theorem digits_small (c:Nat) (w:World) (hc:c < 16) :
  Calls Tryz.prog 212 #[.int .i64 c] w fun e w'=>e = .returned (.string ⟨(Str.hexL c).toArray⟩)∧w=w':=by
 have Hh:=kept (show Str.hexL c=[Str.hd c] by rw [Str.hexL,if_pos hc])
 have hx:=hd_str c hc
 have hc':(c:Int) < 16:=by omega
 have hm:(c:Int) % 16=(c:Int):=by omega
 have hy:(c:Int) < 15+1:=by omega
 generalize hq:Str.hd c=q at *
 clear hc hq
 go_enter Tryz.func212,Tryz.ntmps212
 go_wp2
 go_ret
 exact ⟨by rw [Hh.out]; rfl,rfl⟩
theorem digits_any (c:Nat) (w:World) (hc:c < 256) :
  Calls Tryz.prog 212 #[.int .i64 c] w fun e w'=>e = .returned (.string ⟨(Str.hexL c).toArray⟩)∧w=w':=by
 by_cases h16:c < 16
 ·exact digits_small c w h16
 ·have Hh:=kept (show Str.hexL c=Str.hexL (c / 16)++[Str.hd (c % 16)] by
   rw [Str.hexL,if_neg h16,Str.hexL,if_pos (by omega)]; rfl)
  have hx:=hd_str (c % 16) (by omega)
  have hl:=(Str.hexL_length (c / 16)).2
  have hcat:=fun W=>run_cat (P:=Tryz.prog) W (a:=⟨(Str.hexL (c / 16)).toArray⟩) (b:=⟨#[Str.hd (c % 16)]⟩) (l:=Str.hexL (c / 16)) (m:=[Str.hd (c % 16)]) rfl rfl (by simp; omega)
  obtain ⟨d,hd⟩:∃ d:Nat,(c:Int) % 16=(d:Int):=⟨c % 16,by omega⟩
  obtain ⟨f,hf⟩:∃ f:Nat,(c:Int) / 16=(f:Int):=⟨c / 16,by omega⟩
  obtain rfl:d=c % 16:=by omega
  obtain rfl:f=c / 16:=by omega
  have Hs:=kept (show c / 16 < 16 by omega)
  have hb:((c % 16:Nat):Int) < 16:=by omega
  have hfb:((c / 16:Nat):Int) < 16:=by omega
  have hb2:((c % 16:Nat):Int) < 15+1:=by omega
  have hc':¬ (c:Int) < 16:=by omega
  generalize hq:Str.hd (c % 16)=q at *
  generalize hg:Str.hexL (c / 16)=g at *
  have Hg:=kept hg
  generalize c % 16=d at *
  generalize c / 16=f at *
  clear hc hq h16 hl hg
  go_enter Tryz.func212,Tryz.ntmps212
  go_wp2_with (go_at_call 212; refine (digits_small _ _ Hs.out).mono ?_; rintro e w' ⟨rfl,rfl⟩; rw [Hg.out])
  go_ret
  exact ⟨by rw [Hh.out]; rfl,rfl⟩
theorem one_byte (w:World) (b:UInt8):(convert 72 9 (.slice (some ⟨w.heap.size,0,none⟩) 1 1)).run Tryz.prog (w.alloc (.cells #[.int .u8 b.toNat] 5)) = .ok (.string ⟨#[b]⟩) (w.alloc (.cells #[.int .u8 b.toNat] 5)):=
 (BytesAt.lit w 5 [b]).conv (P:=Tryz.prog) 72 9 1 Tryz.underlying72 Tryz.underlying5 Tryz.underlying9
theorem escaped_any (b:UInt8) (w:World) :
  Calls Tryz.prog 207 #[.int .u8 b.toNat] w fun e w'=>e = .returned (.string ⟨(Str.esc b).toArray⟩)∧Below w.heap.size w w':=by
 by_cases h1:b=10
 ·subst h1; go_enter Tryz.func207,Tryz.ntmps207
  go_wp2
  go_ret
  exact ⟨rfl,Below.refl _ _⟩
 by_cases h2:b=13
 ·subst h2; go_enter Tryz.func207,Tryz.ntmps207
  go_wp2
  go_ret
  exact ⟨rfl,Below.refl _ _⟩
 by_cases h3:b=9
 ·subst h3; go_enter Tryz.func207,Tryz.ntmps207
  go_wp2
  go_ret
  exact ⟨rfl,Below.refl _ _⟩
 by_cases h4:b=34
 ·subst h4; go_enter Tryz.func207,Tryz.ntmps207
  go_wp2
  go_ret
  exact ⟨rfl,Below.refl _ _⟩
 by_cases h5:b=92
 ·subst h5; go_enter Tryz.func207,Tryz.ntmps207
  go_wp2
  go_ret
  exact ⟨rfl,Below.refl _ _⟩
 have hb:=b.toNat_lt
 have e1:∀ n:Nat,n < 256→b≠UInt8.ofNat n→((b.toNat:Int) == (n:Int))=false:=fun n hn h=>by
  refine beq_eq_false_iff_ne.2 fun hh=>h ?_
  rw [←UInt8.toNat_inj,UInt8.toNat_ofNat']; omega
 have f1:((b.toNat:Int) == 10)=false:=e1 10 (by omega) h1
 have f2:((b.toNat:Int) == 13)=false:=e1 13 (by omega) h2
 have f3:((b.toNat:Int) == 9)=false:=e1 9 (by omega) h3
 have f4:((b.toNat:Int) == 34)=false:=e1 34 (by omega) h4
 have f5:((b.toNat:Int) == 92)=false:=e1 92 (by omega) h5
 have hob:=one_byte w b
 have Hd:=kept (fun W=>digits_any b.toNat W (by omega))
 have hl:=(Str.hexL_length b.toNat).2
 have hcat1:=fun W=>run_cat3 (P:=Tryz.prog) W (a:=⟨#[92,117,123]⟩) (b:=⟨(Str.hexL b.toNat).toArray⟩) (l:=[92,117,123]) (m:=Str.hexL b.toNat) (r:=[92,117,123]++Str.hexL b.toNat) rfl rfl rfl (by simp; omega)
 have hcat2:=fun W=>run_cat3 (P:=Tryz.prog) W (a:=⟨([92,117,123]++Str.hexL b.toNat).toArray⟩) (b:=⟨#[125]⟩) (l:=[92,117,123]++Str.hexL b.toNat) (m:=[125]) (r:=[92,117,123]++Str.hexL b.toNat++[125]) rfl rfl rfl (by simp; omega)
 by_cases h6:b < 32∨b=127
 ·have He:=kept (show Str.esc b=[92,117,123]++Str.hexL b.toNat++[125] by simp only [Str.esc,h1,h2,h3,h4,h5,h6,if_true,if_false])
  generalize hm1:([92,117,123]++Str.hexL b.toNat:List UInt8)=m1 at *
  generalize hm2:(m1++[125]:List UInt8)=m2 at *
  have hlt:(b.toNat:Int) < 32∨((b.toNat:Int) == 127)=true∧¬ (b.toNat:Int) < 32:=by
   rcases h6 with h | h
   ·left; have:=UInt8.lt_iff_toNat_lt.1 h; simp at this; omega
   ·right; subst h; decide
  clear h1 h2 h3 h4 h5 h6 e1 hl hob hm1 hm2
  obtain ⟨u,hu⟩:∃ u:Int,(b.toNat:Int)=u:=⟨_,rfl⟩
  have hu0:0≤u:=by omega
  have hu1:u≤255:=by omega
  have Hu:=kept hu
  rw [hu] at f1 f2 f3 f4 f5 hlt
  clear hb hu
  rw [Hu.out]
  rcases hlt with hlt | ⟨hlt,hlt2⟩
  all_goals
   go_enter Tryz.func207,Tryz.ntmps207
   go_wp2_with fail
   rw [←Hu.out]
   refine (Hd.out _).mono ?_; rintro e w' ⟨rfl,rfl⟩
   go_wp2
   go_ret
   exact ⟨by rw [He.out]; rfl,Below.refl _ _⟩
 ·have He:=kept (show Str.esc b=[b] by simp only [Str.esc,h1,h2,h3,h4,h5,h6,if_false])
  have hlt:¬ (b.toNat:Int) < 32:=fun h=>h6 (.inl (UInt8.lt_iff_toNat_lt.2 (by simp; omega)))
  have hne:((b.toNat:Int) == 127)=false:=e1 127 (by omega) (fun h=>h6 (.inr h))
  clear h1 h2 h3 h4 h5 h6 e1 hl hcat1 hcat2
  obtain ⟨u,hu⟩:∃ u:Int,(b.toNat:Int)=u:=⟨_,rfl⟩
  have hu0:0≤u:=by omega
  have hu1:u≤255:=by omega
  rw [hu] at f1 f2 f3 f4 f5 hlt hne hob ⊢
  clear hb hu
  go_enter Tryz.func207,Tryz.ntmps207
  go_wp2
  go_ret
  exact ⟨by rw [He.out]; rfl,(Below.refl _ _).alloc (Nat.le_refl _) _⟩
theorem len_dataR (s:ByteArray):s.data.toList.length=s.size:=by simp
theorem refQuote_any (s:ByteArray) (w:World) (hs:s.size≤2000000) :
  Calls Tryz.prog 195 #[.string s] w fun e w'=>e = .returned (.string ⟨(Str.quote s.data.toList).toArray⟩)∧Below w.heap.size w w':=by
 go_enter Tryz.func195,Tryz.ntmps195
 go_wp2
 go_loopw [3,4] (fun x i wr=>∃ (k:Nat) (acc:List UInt8),k≤s.size∧i = .int .i64 k∧x = .string ⟨acc.toArray⟩∧acc=34::(s.data.toList.take k).flatMap Str.esc∧Below w.heap.size w wr) (fun _ i _=>s.size - (intOf i).toNat)
 case atStart=>exact ⟨0,[34],by omega,rfl,rfl,rfl,Below.refl _ _⟩
 case round =>
  obtain ⟨k,acc,hk,rfl,rfl,hacc,hbel⟩:=hrel
  have Ha:=kept hacc; have Hl:=kept hbel
  have hlen:acc.length≤1+6*s.size:=by
   rw [hacc]
   have:=(Str.flatMap_esc_length (s.data.toList.take k)).2
   rw [List.length_take,len_dataR] at this
   simp only [List.length_cons]; omega
  clear hacc hbel
  by_cases hlt:k < s.size
  ·have hlt':(k:Int) < s.size:=by omega
   obtain ⟨r,hr⟩:∃ r,acc++Str.esc s[k]=r:=⟨_,rfl⟩
   have hel:=(Str.esc_length s[k]).2
   have hcat:=fun W=>run_cat3 (P:=Tryz.prog) W (a:=⟨acc.toArray⟩) (b:=⟨(Str.esc s[k]).toArray⟩) (l:=acc) (m:=Str.esc s[k]) rfl rfl hr (by rw [←hr,List.length_append]; omega)
   have Hr:=kept (show r=34::(s.data.toList.take (k+1)).flatMap Str.esc by
    rw [←hr,Ha.out,take_succ s k hlt,List.flatMap_append]; simp)
   clear hlen hr hel
   go_wp2_with fail
   refine (escaped_any _ _).mono ?_; rintro e w1 ⟨rfl,b1⟩
   have B1:=kept b1; clear b1
   go_wp2
   go_roundw
   case rel=>exact ⟨k+1,r,by omega,by go_num,rfl,Hr.out,bthen Hl.out B1.out⟩
   case measure=>simp [intOf]; omega
  ·have hcat:=fun W=>run_cat3 (P:=Tryz.prog) W (a:=⟨acc.toArray⟩) (b:=⟨#[34]⟩) (l:=acc) (m:=[34]) (r:=acc++[34]) rfl rfl rfl (by rw [List.length_append]; simp; omega)
   have Hr:=kept (show acc++[34]=Str.quote s.data.toList by
    rw [Ha.out,List.take_of_length_le (by rw [len_dataR]; omega)]; rfl)
   clear hlen
   generalize hq:acc++[34]=q at *
   go_wp2
   go_ret
   exact ⟨ret_str Hr.out,Hl.out⟩
theorem refHex_any (b:UInt8) (w:World) :
  Calls Tryz.prog 215 #[.int .u8 b.toNat] w fun e w'=>e = .returned (.int .i64 (Str.hexv b))∧w=w':=by
 have hb:=b.toNat_lt
 have Hv:=kept (show Str.hexv b=if 48≤(b.toNat:Int)∧(b.toNat:Int)≤57 then (b.toNat:Int) - 48 else if 97≤(b.toNat:Int)∧(b.toNat:Int)≤102 then (b.toNat:Int) - 87 else -1 by
  unfold Str.hexv
  repeat' split
  all_goals omega)
 obtain ⟨u,hu⟩:∃ u:Int,(b.toNat:Int)=u:=⟨_,rfl⟩
 rw [hu] at Hv ⊢
 have h0:0≤u:=by omega
 have h1:u < 256:=by omega
 clear hu hb
 by_cases a1:48≤u
 ·by_cases a2:u≤57
  ·go_enter Tryz.func215,Tryz.ntmps215
   go_wp2
   go_ret
   exact ⟨ret_int (by rw [Hv.out,if_pos ⟨a1,a2⟩]),rfl⟩
  ·by_cases a3:97≤u
   ·by_cases a4:u≤102
    ·go_enter Tryz.func215,Tryz.ntmps215
     go_wp2
     go_ret
     exact ⟨ret_int (by rw [Hv.out,if_neg (by omega),if_pos ⟨a3,a4⟩]; omega),rfl⟩
    ·go_enter Tryz.func215,Tryz.ntmps215
     go_wp2
     go_ret
     exact ⟨ret_int (by rw [Hv.out,if_neg (by omega),if_neg (by omega)]),rfl⟩
   ·go_enter Tryz.func215,Tryz.ntmps215
    go_wp2
    go_ret
    exact ⟨ret_int (by rw [Hv.out,if_neg (by omega),if_neg (by omega)]),rfl⟩
 ·go_enter Tryz.func215,Tryz.ntmps215
  go_wp2
  go_ret
  exact ⟨ret_int (by rw [Hv.out,if_neg (by omega),if_neg (by omega)]),rfl⟩
theorem and63i (x:Int) (h0:0≤x) (h1:x < 16777216):bits .and .i64 x 63=x % 64:=by
 obtain ⟨X,rfl⟩:=Int.eq_ofNat_of_zero_le h0
 have e:X &&& 63=X % 64:=by rw [show (63:Nat)=2 ^ 6 - 1 from rfl,Nat.and_two_pow_sub_one_eq_mod]
 have h2:(BitVec.ofInt 64 ((X:Nat):Int) &&& BitVec.ofInt 64 (63:Int)).toNat=X % 64:=by
  rw [BitVec.toNat_and,BitVec.ofInt_natCast,show (63:Int)=((63:Nat):Int) from rfl,BitVec.ofInt_natCast,BitVec.toNat_ofNat,BitVec.toNat_ofNat,Nat.mod_eq_of_lt (by omega),Nat.mod_eq_of_lt (by omega),e]
 show IntKind.i64.wrap ((BitVec.ofInt 64 ((X:Nat):Int) &&& BitVec.ofInt 64 (63:Int)).toNat:Int)=_
 rw [h2,IntKind.wrap_i64]
 omega
theorem or128 (y:Int) (h0:0≤y) (h1:y < 64):bits .or .i64 128 y=128+y:=or_int 2 y 64 6 (by decide) (by omega) (by omega) h0 h1 (by omega)
theorem or192 (y:Int) (h0:0≤y) (h1:y < 64):bits .or .i64 192 y=192+y:=or_int 3 y 64 6 (by decide) (by omega) (by omega) h0 h1 (by omega)
theorem or224 (y:Int) (h0:0≤y) (h1:y < 16):bits .or .i64 224 y=224+y:=or_int 14 y 16 4 (by decide) (by omega) (by omega) h0 h1 (by omega)
theorem or240 (y:Int) (h0:0≤y) (h1:y < 16):bits .or .i64 240 y=240+y:=or_int 15 y 16 4 (by decide) (by omega) (by omega) h0 h1 (by omega)
def zB (l:List Int):List UInt8:=l.map fun x=>x.toNat.toUInt8
theorem zB_cells:∀ l:List Int,(∀ x∈l,0≤x∧x < 256)→bcells (zB l)=l.map fun x=>Value.int .u8 x
 | [],_=>rfl
 | x::l,h=>by
  have h1:=h x (by simp)
  have h2:=zB_cells l (fun y hy=>h y (by simp [hy]))
  unfold zB bcells at *
  rw [List.map_cons,List.map_cons,h2,List.map_cons]
  rw [show (x.toNat.toUInt8).toNat=x.toNat % 256 from rfl]
  congr 2; omega
theorem some_bytes (w:World) (l:List Int) (n:Nat) (hn:l.length=n) (h:∀ x∈l,0≤x∧x < 256) :
  (convert 72 9 (.slice (some ⟨w.heap.size,0,none⟩) n n)).run Tryz.prog (w.alloc (.cells (l.map fun x=>Value.int .u8 x).toArray 5)) = .ok (.string ⟨(zB l).toArray⟩) (w.alloc (.cells (l.map fun x=>Value.int .u8 x).toArray 5)):=by
 rw [←zB_cells l h]
 exact (BytesAt.lit w 5 (zB l)).conv_of (P:=Tryz.prog) 72 9 n n (by simp [zB,hn]) Tryz.underlying72 Tryz.underlying5 Tryz.underlying9
theorem refEncode_any (c:Nat) (w:World) (hc:Utf8.valid c=true) :
  Calls Tryz.prog 214 #[.int .i64 c] w fun e w'=>e = .returned (.string ⟨(Str.enc c).toArray⟩)∧Below w.heap.size w w':=by
 have hv:(c:Int) < 55296∨(57343 < (c:Int)∧(c:Int)≤1114111):=by
  unfold Utf8.valid at hc; simp at hc; omega
 have He:=kept (show Str.enc c=zB (Lib.encodeRuneZ (c:Int)) from rfl)
 obtain ⟨u,hu⟩:∃ u:Int,(c:Int)=u:=⟨_,rfl⟩
 have h0:0≤u:=by omega
 rw [hu] at He hv ⊢
 clear hu hc
 by_cases h1:u < 128
 ·have Hz:=kept (Lib.encodeRuneZ_one (r:=u) h0 (by omega))
  have hob:=some_bytes w [u] 1 rfl (by simp; omega)
  have hw8:u < 256:=by omega
  go_enter Tryz.func214,Tryz.ntmps214
  simp only [List.map_cons,List.map_nil] at hob
  go_wp2
  go_ret
  exact ⟨by rw [He.out,Hz.out]; rfl,ball w _⟩
 ·by_cases h2:u < 2048
  ·have Hz:=kept (Lib.encodeRuneZ_two (r:=u) (by omega) (by omega))
   have a1:=and63i u h0 (by omega)
   have o1:=or192 (u / 64) (by omega) (by omega)
   have o2:=or128 (u % 64) (by omega) (by omega)
   have hob:=some_bytes w [192+u / 64,128+u % 64] 2 rfl (by simp; omega)
   simp only [List.map_cons,List.map_nil] at hob
   go_enter Tryz.func214,Tryz.ntmps214
   go_wp2
   go_ret
   exact ⟨by rw [He.out,Hz.out]; rfl,ball w _⟩
  ·by_cases h3:u < 65536
   ·have Hz:=kept (Lib.encodeRuneZ_three (r:=u) (by omega))
    have a1:=and63i u h0 (by omega)
    have a2:=and63i (u / 64) (by omega) (by omega)
    have o1:=or224 (u / 4096) (by omega) (by omega)
    have o2:=or128 (u / 64 % 64) (by omega) (by omega)
    have o3:=or128 (u % 64) (by omega) (by omega)
    have hob:=some_bytes w [224+u / 4096,128+u / 64 % 64,128+u % 64] 3 rfl (by simp; omega)
    simp only [List.map_cons,List.map_nil] at hob
    go_enter Tryz.func214,Tryz.ntmps214
    go_wp2
    go_ret
    exact ⟨by rw [He.out,Hz.out]; rfl,ball w _⟩
   ·have Hz:=kept (Lib.encodeRuneZ_four (r:=u) (by omega) (by omega))
    have a1:=and63i u h0 (by omega)
    have a2:=and63i (u / 64) (by omega) (by omega)
    have a3:=and63i (u / 4096) (by omega) (by omega)
    have o1:=or240 (u / 262144) (by omega) (by omega)
    have o2:=or128 (u / 4096 % 64) (by omega) (by omega)
    have o3:=or128 (u / 64 % 64) (by omega) (by omega)
    have o4:=or128 (u % 64) (by omega) (by omega)
    have hob:=some_bytes w [240+u / 262144,128+u / 4096 % 64,128+u / 64 % 64,128+u % 64] 4 rfl (by simp; omega)
    simp only [List.map_cons,List.map_nil] at hob
    go_enter Tryz.func214,Tryz.ntmps214
    go_wp2
    go_ret
    exact ⟨by rw [He.out,Hz.out]; rfl,ball w _⟩
theorem getD_drop (s:ByteArray) (i j:Nat) (h:i+j < s.size):(s.data.toList.drop i).getD j 0=s[i+j]:=by
 simp [List.getD,h]; rfl
theorem valid_iff (C:Nat):Utf8.valid (C:Int)=false↔(1114111 < (C:Int)∨(55296≤(C:Int)∧(C:Int)≤57343)):=by
 unfold Utf8.valid
 rw [←Bool.not_eq_true]
 simp only [Bool.or_eq_true,Bool.and_eq_true,decide_eq_true_eq]
 omega
theorem point_exit (s:ByteArray) (i k c n:Nat) (e0 u z C:Int) (hp:Str.point (s.data.toList.drop i)=(c,n,e0)) (hn:Str.hexN 6 (s.data.toList.drop i)=k) (hk:i+k < s.size)
  (hu:(s[i+k].toNat:Int)=u) (hz:(s[i].toNat:Int)=z) (hC:((Str.hexC k (s.data.toList.drop i):Nat):Int)=C) :
  ((u≠125∨k=0∨(1 < k∧z=48)∨1114111 < C∨(55296≤C∧C≤57343))→c=0∧n=0∧e0=2) ∧
  (¬ (u≠125∨k=0∨(1 < k∧z=48)∨1114111 < C∨(55296≤C∧C≤57343))→(c:Int)=C∧n=k+1∧e0=0):=by
 have hgk:=getD_drop s i k hk
 have hg0:=getD_drop s i 0 (by omega)
 simp only [Nat.add_zero] at hg0
 have hl:k < (s.data.toList.drop i).length:=by simp; omega
 have e1:((s.data.toList.drop i).getD k 0≠125∨k=0∨(1 < k∧(s.data.toList.drop i).getD 0 0=48)∨Utf8.valid (Str.hexC k (s.data.toList.drop i))=false)↔(u≠125∨k=0∨(1 < k∧z=48)∨1114111 < C∨(55296≤C∧C≤57343)):=by
  rw [hgk,hg0,valid_iff,hC]
  have a1:s[i+k]≠125↔u≠125:=by
   rw [←hu,ne_eq,ne_eq,←UInt8.toNat_inj]
   show ¬ s[i+k].toNat=125↔_
   omega
  have a2:s[i]=48↔z=48:=by
   rw [←hz,←UInt8.toNat_inj]
   show s[i].toNat=48↔_
   omega
  rw [a1,a2]
 refine ⟨fun h=>?_,fun h=>?_⟩
 ·have:=point_bad _ k hn hl (e1.2 h)
  rw [hp] at this
  simp only [Prod.mk.injEq] at this
  exact this
 ·have:=point_ok _ k hn hl (fun hh=>h (e1.1 hh))
  rw [hp] at this
  simp only [Prod.mk.injEq] at this
  exact ⟨by rw [this.1,hC],this.2⟩
theorem refPoint_any (s:ByteArray) (i:Nat) (c n:Nat) (e0:Int) (w:World) (hs:s.size≤2000000) (hi:i≤s.size) (hp:Str.point (s.data.toList.drop i)=(c,n,e0)) :
  Calls Tryz.prog 213 #[.string s,.int .i64 i] w fun e w'=>e = .returned (.tuple #[.int .i64 c,.int .i64 (if e0=0 then i+n else 0:Nat),.int .i64 e0])∧w'=w:=by
 obtain ⟨m,hm⟩:∃ m,m=if e0=0 then i+n else 0:=⟨_,rfl⟩
 rw [←hm]
 have Hm:=kept hm
 clear hm
 have HP:=kept hp
 clear hp
 have hl:(s.data.toList.drop i).length=s.size - i:=by simp
 have Hll:=kept hl
 go_enter Tryz.func213,Tryz.ntmps213
 go_wp2
 go_loop [7,8] (fun cv nv=>∃ k:Nat,k≤6∧i+k≤s.size∧nv = .int .i64 k∧cv = .int .i64 (Str.hexC k (s.data.toList.drop i))∧∀ j,j < k→Str.isHex ((s.data.toList.drop i).getD j 0)=true) (fun _ nv=>6 - (intOf nv).toNat)
 case atStart=>exact ⟨0,by omega,by omega,rfl,rfl,by omega⟩
 case round =>
  obtain ⟨k,h6,hk,rfl,rfl,hall⟩:=hrel
  have Ha:=kept hall
  clear hall hl
  by_cases hend:i+k=s.size
  ·have hp:=point_end (s.data.toList.drop i) (Str.hexN_end 6 k _ Ha.out (by have:=Hll.out; omega) h6 (.inr (.inl (by have:=Hll.out; omega))) |>.trans (by have:=Hll.out; omega))
   rw [HP.out] at hp
   simp only [Prod.mk.injEq] at hp
   obtain ⟨rfl,rfl,rfl⟩:=hp
   have hend':(i:Int)+k=s.size:=by omega
   go_wp2
   refine bodyPost_ret (v:=.tuple #[.int .i64 0,.int .i64 0,.int .i64 40]) (by simp [results,Tryz.results213,go_sem]) rfl ⟨by rw [Hm.out]; rfl,rfl⟩
  ·have hlt:i+k < s.size:=by omega
   have hlt':(i:Int)+k < s.size:=by omega
   have hlti:i < s.size:=by omega
   obtain ⟨u,hu⟩:∃ u:Int,(s[i+k].toNat:Int)=u:=⟨_,rfl⟩
   obtain ⟨z,hz⟩:∃ u:Int,(s[i].toNat:Int)=u:=⟨_,rfl⟩
   obtain ⟨C,hC⟩:∃ u:Int,((Str.hexC k (s.data.toList.drop i):Nat):Int)=u:=⟨_,rfl⟩
   have Hx:=kept (fun hn=>point_exit s i k c n e0 u z C HP.out hn hlt hu hz hC)
   have hC0:0≤C:=by omega
   have Hhx:=kept (fun W=>refHex_any s[i+k] W)
   have Hgk:=kept (getD_drop s i k hlt)
   have HC:=kept hC
   have Hend:=kept (show k=6∨Str.isHex s[i+k]=false→Str.hexN 6 (s.data.toList.drop i)=k from fun h=>Str.hexN_end 6 k _ Ha.out (by have:=Hll.out; omega) h6 (h.imp_right fun hh => .inr (by rw [Hgk.out]; exact hh)))
   rw [hu] at Hhx
   rw [hC]
   clear hend
   by_cases hk6:k=6
   ·subst hk6
    have Hx2:=kept (Hx.out (Hend.out (.inl rfl)))
    clear hC
    go_wp2
    all_goals (try simp only [beq_iff_eq,beq_eq_false_iff_ne,ne_eq] at *)
    all_goals
     by_cases hq:(u≠125∨6=0∨(1 < 6∧z=48)∨1114111 < C∨(55296≤C∧C≤57343))
     ·first
      | (exfalso; omega)
      | (obtain ⟨rfl,rfl,rfl⟩:=Hx2.out.1 hq; exact bodyPost_ret (v:=.tuple #[.int .i64 0,.int .i64 0,.int .i64 2]) (by simp [results,Tryz.results213,go_sem]) rfl ⟨by rw [Hm.out]; rfl,rfl⟩)
     ·first
      | (exfalso; omega)
      | (obtain ⟨hc,rfl,rfl⟩:=Hx2.out.2 hq; exact bodyPost_ret (v:=.tuple #[.int .i64 C,.int .i64 (i+6+1),.int .i64 0]) (by simp [results,Tryz.results213,go_sem]) rfl ⟨by rw [Hm.out,hc]; rfl,rfl⟩)
   ·have hk6':(k:Int) < 6:=by omega
    by_cases hx:Str.isHex s[i+k]=true
    ·have hge:0≤Str.hexv s[i+k]:=by simpa [Str.isHex] using hx
     have hhx:=Str.hexv_le s[i+k]
     have Hs:=kept (Str.hexC_succ k (s.data.toList.drop i) (by have:=Hll.out; omega))
     have Hd:=Str.hexC_lt k (s.data.toList.drop i) (by have:=Hll.out; omega)
     have hC1:C < 1048576:=by
      have:16 ^ k≤16 ^ 5:=Nat.pow_le_pow_right (by decide) (by omega)
      have:=HC.out
      omega
     have Hxx:=kept hx
     have Hhv:=kept (show (s.data.toList.drop i)[k]'(by have:=Hll.out; omega)=s[i+k] by simp; rfl)
     clear hx Hd hC
     go_wp2_with fail
     (with_reducible refine (Hhx.out _).mono ?_); rintro e w1 ⟨rfl,rfl⟩
     go_wp2_with fail
     (with_reducible refine (Hhx.out _).mono ?_); rintro e w1 ⟨rfl,rfl⟩
     go_wp2
     go_round
     case rel =>
      refine ⟨k+1,by omega,by omega,by go_num,?_,?_⟩
      ·rw [Hs.out,Hhv.out]
       have:=HC.out
       congr 1
       omega
      ·intro j hj
       by_cases hjk:j=k
       ·subst hjk; rw [Hgk.out]; exact Hxx.out
       ·exact Ha.out j (by omega)
     case measure=>simp [intOf]; omega
    ·have Hx2:=kept (Hx.out (Hend.out (.inr (by simpa using hx))))
     have hlz:Str.hexv s[i+k] < 0:=by simpa [Str.isHex] using hx
     clear hx hC
     go_wp2_with fail
     (with_reducible refine (Hhx.out _).mono ?_); rintro e w1 ⟨rfl,rfl⟩
     go_wp2
     all_goals (try simp only [beq_iff_eq,beq_eq_false_iff_ne,ne_eq] at *)
     all_goals
      by_cases hq:(u≠125∨k=0∨(1 < k∧z=48)∨1114111 < C∨(55296≤C∧C≤57343))
      ·first
       | (exfalso; omega)
       | (obtain ⟨rfl,rfl,rfl⟩:=Hx2.out.1 hq; exact bodyPost_ret (v:=.tuple #[.int .i64 0,.int .i64 0,.int .i64 2]) (by simp [results,Tryz.results213,go_sem]) rfl ⟨by rw [Hm.out]; rfl,rfl⟩)
      ·first
       | (exfalso; omega)
       | (obtain ⟨hc,rfl,rfl⟩:=Hx2.out.2 hq; exact bodyPost_ret (v:=.tuple #[.int .i64 C,.int .i64 (i+k+1),.int .i64 0]) (by simp [results,Tryz.results213,go_sem]) rfl ⟨by rw [Hm.out,hc]; rfl,rfl⟩)
end Go.Proofs.YtdgcbckcameggaaGreatDoor
