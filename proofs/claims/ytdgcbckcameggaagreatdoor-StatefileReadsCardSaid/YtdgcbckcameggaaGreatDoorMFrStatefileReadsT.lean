/- Part of what the proof needs. -/
import Derived.Test.YtdgcbckcameggaaGreatDoorMFrStatefileReadsE
import Derived.Test.YtdgcbckcameggaaGreatDoorMFrStatefileReadsM
import Derived.Test.YtdgcbckcameggaaGreatDoorMFrStatefileReadsN
import Derived.Test.YtdgcbckcameggaaGreatDoorMFrStatefileReadsO
import Derived.Test.YtdgcbckcameggaaGreatDoorMFrStatefileReadsP
import Derived.Test.YtdgcbckcameggaaGreatDoorMFrStatefileReadsR
import Derived.Test.YtdgcbckcameggaaGreatDoorMFrStatefileReadsS
set_option maxHeartbeats 4000000
set_option linter.unusedSimpArgs false
set_option linter.unusedVariables false
set_option linter.unnecessarySimpa false
namespace Go.Proofs.YtdgcbckcameggaaGreatDoor
open Go.RowKit
open Go.Op (bytesLess)
namespace AX
def c_r7known:AX.AFn:=⟨21,aS [aR 1 (.box 42 (.t 0)),aR 2 (.mv (.c (.bool false)))] (.seq (aS [aF 4 0 1,aL 5 4,aR 6 (.bin .eql (.t 5) (aI 6))] (.cond (.t 6) (aS [aR 2 (.mv (.c (.bool false)))] (.ret)) (.skip))) (.seq (aS [aR 3 (.mv (aI 0))] (.block 0 (.loop (.seq (aS [aM 7 3,aF 8 3 1,aL 9 8,aR 10 (.len false (.t 9)),aR 11 (.bin .lss (.t 7) (.t 10))] (.cond (.t 11) (.skip) (.exit 0))) (.seq (.block 1 (aS [aF 14 3 1,aL 15 14,aM 16 3,aR 17 (.iaddr 5 (.t 15) (.t 16)),aR 18 (.load true 5 (.t 17)),aR 19 (.call 110 [.t 18]),aR 20 (.un .not (.t 19))] (.cond (.t 20) (aS [aR 2 (.mv (.c (.bool false)))] (.ret)) (.skip)))) (.reg false [aM 12 3,aR 13 (.bin .add (.t 12) (aI 1)),aM 3 13])))))) (aS [aR 2 (.mv (.c (.bool true)))] (.ret)))),[.t 2]⟩
theorem h_r7known:AX.compFn Tryz.prog 110=some c_r7known:=by kernel_rfl
def c_r7bytes:AX.AFn:=⟨11,aS [aR 4 (.mv (aI 0))] (.seq (aS [aM 5 0,aM 6 1,aR 7 (.bin .lss (.t 5) (.t 6))] (.cond (.t 7) (aS [aR 4 (.mv (aI (-1)))] (.ret)) (.skip))) (.seq (aS [aM 8 0,aM 9 1,aR 10 (.bin .gtr (.t 8) (.t 9))] (.cond (.t 10) (aS [aR 4 (.mv (aI 1))] (.ret)) (.skip))) (aS [aR 4 (.mv (aI 0))] (.ret)))),[.t 4]⟩
theorem h_r7bytes:AX.compFn Tryz.prog 112=some c_r7bytes:=by kernel_rfl
def c_r31text:AX.AFn:=⟨9,aS [aR 2 (.mv (.c (.bool false)))] (aS [aM 3 0,aR 4 (.bin .neq (.t 3) (.c (.str []))),aM 5 4,aG 6 (.mv (.t 0)) 5 true,aG 7 (.call 107 [.t 6]) 5 true,aR 8 (.pick (.t 5) (.t 7) (.c (.bool false))),aM 2 8] (.ret)),[.t 2]⟩
theorem h_r31text:AX.compFn Tryz.prog 80=some c_r31text:=by kernel_rfl
def c_r31managed:AX.AFn:=⟨20,aS [aR 2 (.mv (.c (.str []))),aR 3 (.mv (.c (.bool false)))] (aS [aM 7 0,aR 8 (.call 132 [.t 7]),aM 6 8,aE 9 6 0,aE 10 6 1,aR 4 (.alloc 133 [.sl 0 .nil [],.bool false,.str [],.str [],.int .i64 0,.int .i64 0,.str []]),aU (.store 7 (.t 4) (.t 9)),aM 5 10] (.seq (.reg true [aF 11 2 4,⟨some 12,.load false 1 (.t 11),none,[0]⟩,aM 13 5,⟨some 14,.bin .eql (.t 13) (aI 0),none,[2]⟩,⟨some 15,.mv (.t 14),none,[3]⟩,⟨some 16,.faddr 1 (.t 4),some (15,true),[4]⟩,⟨some 17,.load false 1 (.t 16),some (15,true),[5,4]⟩,⟨some 18,.un .not (.t 17),some (15,true),[6,4]⟩,⟨some 19,.pick (.t 15) (.t 18) (.c (.bool false)),none,[4,7]⟩,⟨some 2,.mv (.t 12),none,[1,4,0,1]⟩,⟨some 3,.mv (.t 19),none,[8,9,0,1,2,3,4,5,6,7,8,9]⟩]) (.ret))),[.t 2,.t 3]⟩
theorem h_r31managed:AX.compFn Tryz.prog 108=some c_r31managed:=by kernel_rfl
def c_r31static:AX.AFn:=⟨17,aS [aR 2 (.mv (.c (.bool false)))] (aS [aM 6 0,aR 7 (.call 158 [.t 6]),aM 5 7,aE 8 5 0,aE 9 5 1,aM 3 8,aM 4 9] (aS [aM 10 4,aR 11 (.bin .eql (.t 10) (aI 0)),aM 12 11,aG 13 (.mv (.t 3)) 12 true,aG 14 (.mv (.t 0)) 12 true,aG 15 (.bin .eql (.t 13) (.t 14)) 12 true,aR 16 (.pick (.t 12) (.t 15) (.c (.bool false))),aM 2 16] (.ret))),[.t 2]⟩
theorem h_r31static:AX.compFn Tryz.prog 134=some c_r31static:=by kernel_rfl
def c_r31deps:AX.AFn:=⟨32,aS [aR 2 (.mv (.c (.bool false)))] (.seq (aS [aR 3 (.mv (aI 0))] (.block 0 (.loop (.seq (aS [aM 4 3,aM 5 0,aR 6 (.len false (.t 5)),aR 7 (.bin .lss (.t 4) (.t 6))] (.cond (.t 7) (.skip) (.exit 0))) (.seq (.block 1 (.seq (.reg true [aM 10 0,aM 11 3,⟨some 12,.iaddr 1 (.t 10) (.t 11),none,[0,1]⟩,⟨some 13,.load false 1 (.t 12),none,[2]⟩,⟨some 14,.call 134 [.t 13],none,[3]⟩,⟨some 15,.un .not (.t 14),none,[4]⟩,⟨some 16,.mv (.t 15),none,[5,4]⟩,⟨some 17,.mv (.t 3),some (16,false),[6]⟩,⟨some 18,.bin .gtr (.t 17) (aI 0),some (16,false),[7,6]⟩,⟨some 19,.mv (.t 18),some (16,false),[8,6,6]⟩,⟨some 20,.mv (.t 0),some (19,true),[9]⟩,⟨some 21,.mv (.t 3),some (19,true),[9]⟩,⟨some 22,.bin .sub (.t 21) (aI 1),some (19,true),[11,9]⟩,⟨some 23,.iaddr 1 (.t 20) (.t 22),some (19,true),[10,12,9]⟩,⟨some 24,.load false 1 (.t 23),some (19,true),[13,9]⟩,⟨some 25,.mv (.t 0),some (19,true),[9]⟩,⟨some 26,.mv (.t 3),some (19,true),[9]⟩,⟨some 27,.iaddr 1 (.t 25) (.t 26),some (19,true),[15,16,9]⟩,⟨some 28,.load false 1 (.t 27),some (19,true),[17,9]⟩,⟨some 29,.bin .geq (.t 24) (.t 28),some (19,true),[14,18,9]⟩,⟨some 30,.pick (.t 19) (.t 29) (.c (.bool false)),some (16,false),[9,19,6]⟩,⟨some 31,.pick (.t 16) (.c (.bool true)) (.t 30),none,[6,20]⟩]) (.cond (.t 31) (aS [aR 2 (.mv (.c (.bool false)))] (.ret)) (.skip)))) (.reg false [aM 8 3,aR 9 (.bin .add (.t 8) (aI 1)),aM 3 9])))))) (aS [aR 2 (.mv (.c (.bool true)))] (.ret))),[.t 2]⟩
theorem h_r31deps:AX.compFn Tryz.prog 111=some c_r31deps:=by kernel_rfl
def c_r31key:AX.AFn:=⟨20,aS [aR 2 (.mv (.c (.bool false)))] (aS [aM 6 0,aR 7 (.call 133 [.t 6]),aM 5 7,aE 8 5 0,aE 9 5 1,aM 3 8,aM 4 9] (aS [aM 10 0,aR 11 (.bin .eql (.t 10) (.c (.str []))),aM 12 11,aG 13 (.mv (.t 4)) 12 false,aG 14 (.bin .eql (.t 13) (aI 0)) 12 false,aG 15 (.mv (.t 14)) 12 false,aG 16 (.mv (.t 3)) 15 true,aG 17 (.bin .geq (.t 16) (aI 1)) 15 true,aG 18 (.pick (.t 15) (.t 17) (.c (.bool false))) 12 false,aR 19 (.pick (.t 12) (.c (.bool true)) (.t 18)),aM 2 19] (.ret))),[.t 2]⟩
theorem h_r31key:AX.compFn Tryz.prog 109=some c_r31key:=by kernel_rfl
def c_r31inst:AX.AFn:=⟨58,aS [aR 1 (.box 63 (.t 0)),aR 2 (.mv (aI 0))] (aS [aF 7 0 1,aL 8 7,aR 9 (.call 108 [.t 8]),aM 6 9,aE 10 6 0,aE 11 6 1,aM 3 10,aM 4 11] (.seq (aS [aM 12 4,aR 13 (.un .not (.t 12)),aM 14 13,aG 15 (.faddr 1 (.t 1)) 14 false,aG 16 (.load false 1 (.t 15)) 14 false,aG 17 (.call 109 [.t 16]) 14 false,aG 18 (.un .not (.t 17)) 14 false,aR 19 (.pick (.t 14) (.c (.bool true)) (.t 18)),aM 20 19,aG 21 (.faddr 2 (.t 1)) 20 false,aG 22 (.load false 1 (.t 21)) 20 false,aG 23 (.call 80 [.t 22]) 20 false,aG 24 (.un .not (.t 23)) 20 false,aR 25 (.pick (.t 20) (.c (.bool true)) (.t 24)),aM 26 25,aG 27 (.faddr 3 (.t 1)) 26 false,aG 28 (.load false 1 (.t 27)) 26 false,aG 29 (.mv (.t 3)) 26 false,aG 30 (.bin .neq (.t 28) (.t 29)) 26 false,aR 31 (.pick (.t 26) (.c (.bool true)) (.t 30))] (.cond (.t 31) (aS [aR 2 (.mv (aI 1))] (.ret)) (.skip))) (.seq (aS [aF 32 4 1,aR 33 (.load true 5 (.t 32)),aR 34 (.call 106 [.t 33]),aM 5 34] (aS [aM 35 5,aR 36 (.bin .neq (.t 35) (aI 0))] (.cond (.t 36) (aS [aM 37 5,aM 2 37] (.ret)) (.skip)))) (.seq (aS [aF 38 4 1,aF 39 0 38,aL 40 39,aR 41 (.bin .neq (.t 40) (aI 5))] (.cond (.t 41) (aS [aR 2 (.mv (aI 6))] (.ret)) (.skip))) (.seq (aS [aF 42 4 1,aR 43 (.load true 5 (.t 42)),aR 44 (.call 110 [.t 43]),aR 45 (.un .not (.t 44))] (.cond (.t 45) (aS [aR 2 (.mv (aI 11))] (.ret)) (.skip))) (.seq (aS [aF 46 9 1,aL 47 46,aR 48 (.bin .lss (.t 47) (aI 1)),aM 49 48,aG 50 (.faddr 9 (.t 1)) 49 false,aG 51 (.load false 1 (.t 50)) 49 false,aG 52 (.bin .gtr (.t 51) (aI 9007199254740992)) 49 false,aR 53 (.pick (.t 49) (.c (.bool true)) (.t 52))] (.cond (.t 53) (aS [aR 2 (.mv (aI 5))] (.ret)) (.skip))) (.seq (aS [aF 54 12 1,aL 55 54,aR 56 (.call 111 [.t 55]),aR 57 (.un .not (.t 56))] (.cond (.t 57) (aS [aR 2 (.mv (aI 1))] (.ret)) (.skip))) (aS [aR 2 (.mv (aI 0))] (.ret))))))))),[.t 2]⟩
theorem h_r31inst:AX.compFn Tryz.prog 81=some c_r31inst:=by kernel_rfl
def c_r31pend:AX.AFn:=⟨25,aS [aR 1 (.box 65 (.t 0)),aR 2 (.mv (aI 0))] (aS [aF 6 0 1,aL 7 6,aR 8 (.call 108 [.t 7]),aM 5 8,aE 9 5 0,aE 10 5 1,aM 3 9,aM 4 10] (.seq (aS [aF 11 2 1,aL 12 11,aR 13 (.call 80 [.t 12]),aR 14 (.un .not (.t 13)),aM 15 14,aG 16 (.mv (.t 4)) 15 false,aG 17 (.un .not (.t 16)) 15 false,aR 18 (.pick (.t 15) (.c (.bool true)) (.t 17)),aM 19 18,aG 20 (.faddr 1 (.t 1)) 19 false,aG 21 (.load false 1 (.t 20)) 19 false,aG 22 (.mv (.t 3)) 19 false,aG 23 (.bin .neq (.t 21) (.t 22)) 19 false,aR 24 (.pick (.t 19) (.c (.bool true)) (.t 23))] (.cond (.t 24) (aS [aR 2 (.mv (aI 1))] (.ret)) (.skip))) (aS [aR 2 (.mv (aI 0))] (.ret)))),[.t 2]⟩
theorem h_r31pend:AX.compFn Tryz.prog 83=some c_r31pend:=by kernel_rfl
def c_r31outp:AX.AFn:=⟨18,aS [aR 1 (.box 67 (.t 0)),aR 2 (.mv (aI 0))] (.seq (aS [aF 4 0 1,aL 5 4,aR 6 (.call 135 [.t 5]),aR 7 (.un .not (.t 6))] (.cond (.t 7) (aS [aR 2 (.mv (aI 7))] (.ret)) (.skip))) (.seq (aS [aF 8 1 1,aR 9 (.load true 5 (.t 8)),aR 10 (.call 106 [.t 9]),aM 3 10] (aS [aM 11 3,aR 12 (.bin .neq (.t 11) (aI 0))] (.cond (.t 12) (aS [aM 13 3,aM 2 13] (.ret)) (.skip)))) (.seq (aS [aF 14 1 1,aR 15 (.load true 5 (.t 14)),aR 16 (.call 110 [.t 15]),aR 17 (.un .not (.t 16))] (.cond (.t 17) (aS [aR 2 (.mv (aI 11))] (.ret)) (.skip))) (aS [aR 2 (.mv (aI 0))] (.ret))))),[.t 2]⟩
theorem h_r31outp:AX.compFn Tryz.prog 113=some c_r31outp:=by kernel_rfl
def c_r31before:AX.AFn:=⟨19,aS [aR 5 (.box 63 (.t 2)),aR 6 (.mv (aI 0))] (.seq (aS [aM 7 0,aF 8 0 5,aL 9 8,aR 10 (.bin .neq (.t 7) (.t 9))] (.cond (.t 10) (aS [aM 11 0,aF 12 0 5,aL 13 12,aR 14 (.call 112 [.t 11,.t 13]),aM 6 14] (.ret)) (.skip))) (aS [aM 15 1,aF 16 1 5,aL 17 16,aR 18 (.call 112 [.t 15,.t 17]),aM 6 18] (.ret))),[.t 6]⟩
theorem h_r31before:AX.compFn Tryz.prog 82=some c_r31before:=by kernel_rfl
theorem a_r7known:∀ (v:V),v.lens→∀ h,ACall Tryz.prog GT 110 [v.A] h fun r h'=>r = .bool (Sf.known v)∧h'=h:=by
 refine V.induct fun k n s is ks ih=>?_
 intro hlen h
 unfold V.lens at hlen
 have hall:=hlen.2.2.2.2
 have hisl:is.length≤9223372036854775807:=by have:=hlen.1; simp only [maxLen] at this; omega
 simp only [V.A,V.cells]
 refine pcall ?_ rfl (by simp [A.pure,A.data]) h
 refine acall_of mixedT h_r7known (by simp [c_r7known]) ?_
 dsimp only [c_r7known]
 obtain ⟨q,hq⟩:∃ q,Sf.known (.mk k n s is ks)=q:=⟨_,rfl⟩
 rw [hq]
 unfold Sf.known at hq
 by_cases h6:k=6
 ·have e1:(k == 6)=true:=by simp [h6]
  have:false=q:=by rw [←hq]; simp [h6]
  subst this
  refine runx0 e1 ti ?_
  exact ⟨_,le_refl _,rfl⟩
 have e1:(k == 6)=false:=by simp [h6]
 have hq':Sf.knowns is=q:=by rw [←hq]; simp [h6]
 refine runx0 e1 ti ?_
 refine awp_loop (fun m ts hh=>hh=⟨[.cells 42 [.int .i64 k,.int .i64 n,.str s,.sl 5 .no (V.cellss is),.sl 1 .no (strsA ks)]],[]⟩∧∃ j:Nat,m=is.length - j∧j≤is.length∧Sf.knowns (is.drop j)=q∧(ts 1 = .ptr 0 0∧ts 3 = .int .i64 (j:Nat))) is.length ?_ ?_
 ·exact ⟨rfl,0,rfl,Nat.zero_le _,hq',by (exact inv0 ti)⟩
 rintro m ts hh ⟨rfl,j,rfl,hj,hkn,ht⟩
 rcases Nat.lt_or_ge j is.length with hlt | hge
 ·have hf:(V.cellss is).length=is.length∧(j:Int) < (is.length:Int)∧(0:Int)≤(j:Int)∧(V.cellss is).getD j []=is[j].cells∧IntKind.i64.wrap ((j:Int)+1)=((j+1:Nat):Int):=
   ⟨V.cellss_length is,by omega,by omega,V.cellss_get is j hlt,by rw [wrap64 (by omega) (by omega)]; omega⟩
  have hc:=ih is[j] (List.getElem_mem hlt) (V.lensS_mem hall _ (List.getElem_mem hlt))
  rw [List.drop_eq_getElem_cons hlt] at hkn
  unfold Sf.knowns at hkn
  obtain ⟨x,hx⟩:∃ x,is[j]=x:=⟨_,rfl⟩
  rw [hx] at hf hc hkn
  obtain ⟨k1,n1,w1,vi,vy⟩:=x
  simp only [V.A,V.cells] at hf hc
  cases hK:Sf.known (.mk k1 n1 w1 vi vy) with
  | false =>
   rw [hK] at hc hkn
   have:false=q:=hkn
   subst this
   refine runx0 (ai ht hf) (ai hc ti) ?_
   exact ⟨_,le_refl _,rfl⟩
  | true =>
   rw [hK,Bool.true_and] at hkn
   rw [hK] at hc
   refine runx0 (ai ht hf) (ai hc ti) ?_
   exact ⟨_,by omega,rfl,j+1,rfl,by omega,hkn,by (exact inv0 (ai ht hf))⟩
 ·have hf:=ai (V.cellss_length is) (show ¬ (j:Int) < (is.length:Int) by omega)
  rw [List.drop_of_length_le hge] at hkn
  unfold Sf.knowns at hkn
  subst hkn
  refine runx0 (ai ht hf) ti ?_
  exact ⟨_,le_refl _,rfl⟩
def cmpB (a b:List UInt8):Int:=if bytesLess a b=true then -1 else if a=b then 0 else 1
theorem a_r7bytes (a b:List UInt8) (h:Hp):ACall Tryz.prog GT 112 [.str a,.str b] h fun r h'=>r = .int .i64 (cmpB a b)∧h'=h:=by
 refine pcall ?_ rfl (by simp [A.pure,A.data]) h
 refine acall_of mixedT h_r7bytes (by simp [c_r7bytes]) ?_
 dsimp only [c_r7bytes]
 unfold cmpB
 cases hl:bytesLess a b with
 | true =>
  refine runx0 hl ti ?_
  exact ⟨_,le_refl _,rfl⟩
 | false =>
  by_cases he:a=b
  ·have e1:(a == b)=true:=by simp [he]
   refine runx0 (ai hl e1) ti ?_
   exact ⟨_,le_refl _,by rw [if_neg (by decide),if_pos he]; rfl⟩
  ·have e1:(a == b)=false:=by simp [he]
   refine runx0 (ai hl e1) ti ?_
   exact ⟨_,le_refl _,by rw [if_neg (by decide),if_neg he]; rfl⟩
theorem a_r31text (s:List UInt8) (hs:s.length≤2000000) (h:Hp):ACall Tryz.prog GT 80 [.str s] h fun r h'=>r = .bool (Sf.text s)∧h'=h:=by
 have hv:=a_refValid s hs
 refine pcall ?_ rfl (by simp [A.pure,A.data]) h
 refine acall_of mixedT h_r31text (by simp [c_r31text]) ?_
 dsimp only [c_r31text]
 refine runx0 ti (ai hv ti) ?_
 exact ⟨_,le_refl _,rfl⟩
def isM (s:List UInt8):Bool:=(Adr.parse s).2 == 0&&!(Adr.parse s).1.data
theorem a_r31managed (s:List UInt8) (hs:s.length≤2000000) (h:Hp):ACall Tryz.prog GT 108 [.str s] h fun r h'=>r = .tup [.str (Adr.parse s).1.type,.bool (isM s)]∧h'=h:=by
 have hp:=a_r6parse s hs
 unfold isM
 obtain ⟨⟨⟨mods,data,ty,nm,⟨ka,kb,kc⟩⟩,e⟩,hP⟩:∃ p,Adr.parse s=p:=⟨_,rfl⟩
 rw [hP] at hp ⊢
 dsimp only [Adr.Ad.cells] at hp ⊢
 refine pcall ?_ rfl (by simp [A.pure,A.data]) h
 refine acall_of mixedT h_r31managed (by simp [c_r31managed]) ?_
 dsimp only [c_r31managed]
 refine runx0 ti (ai hp ti) ?_
 exact ⟨_,le_refl _,rfl⟩
theorem parse_in (s:List UInt8) (hs:s.length≤2000000):Adr.In (Adr.bare (Adr.parse s).1):=by
 by_cases h0:(Adr.parse s).2=0
 ·obtain ⟨n1,n2,n3,n4⟩:=Adr.parse_names s h0
  refine ⟨by simp [Adr.bare]; omega,fun x hx=>?_,by show (Adr.parse s).1.type.length≤_; omega,by show (Adr.parse s).1.name.length≤_; omega,by show ([]:List UInt8).length≤_; decide⟩
  simp only [Adr.bare,List.mem_map] at hx
  obtain ⟨y,hy,rfl⟩:=hx
  exact ⟨by have:=n1 y hy; dsimp only; omega,by show ([]:List UInt8).length≤_; decide⟩
 ·have hz:(Adr.parse s).1=Adr.Ad.zero:=by
   unfold Adr.parse at h0 ⊢
   split at h0
   ·split at h0
    ·next h1=>rw [if_pos h1]
    ·exact absurd rfl h0
   ·rfl
  rw [hz]
  exact ⟨by decide,by simp [Adr.bare,Adr.Ad.zero],by decide,by decide,by decide⟩
theorem a_r31static (s:List UInt8) (hs:s.length≤2000000) (h:Hp):ACall Tryz.prog GT 134 [.str s] h fun r h'=>r = .bool (Sf.staticB s)∧h'=h:=by
 have hp:=a_r6static s hs (parse_in s hs)
 unfold Sf.staticB
 refine pcall ?_ rfl (by simp [A.pure,A.data]) h
 refine acall_of mixedT h_r31static (by simp [c_r31static]) ?_
 dsimp only [c_r31static]
 refine runx0 ti (ai hp ti) ?_
 exact ⟨_,le_refl _,rfl⟩
theorem a_r31key (s:List UInt8) (hs:s.length≤2000000) (h:Hp):ACall Tryz.prog GT 109 [.str s] h fun r h'=>r = .bool (Sf.keyB s)∧h'=h:=by
 have hp:=a_r1parse s hs
 unfold Sf.keyB
 refine pcall ?_ rfl (by simp [A.pure,A.data]) h
 refine acall_of mixedT h_r31key (by simp [c_r31key]) ?_
 dsimp only [c_r31key]
 refine runx0 ti (ai hp ti) ?_
 exact ⟨_,le_refl _,rfl⟩
def prevS (l:List (List UInt8)):Nat→Option (List UInt8)
 | 0=>none
 | j+1=>l[j]?
theorem strs_at (l:List (List UInt8)) (j:Nat) (h:j < l.length) (hl:l.length≤4611686018427387904) :
  (strsA l).length=l.length∧(j:Int) < (l.length:Int)∧(0:Int)≤(j:Int)∧(strsA l).getD j []=[.str l[j]]∧IntKind.i64.wrap ((j:Int)+1)=((j+1:Nat):Int):=
 ⟨strsA_length l,by omega,by omega,strsA_get l j h,by rw [wrap64 (by omega) (by omega)]; omega⟩
theorem a_r31deps (l:List (List UInt8)) (hn:l.length≤1000000000) (hl:∀ s∈l,s.length≤2000000) (h:Hp):ACall Tryz.prog GT 111 [.sl 1 .no (strsA l)] h fun r h'=>r = .bool (Sf.depsB none l)∧h'=h:=by
 refine pcall ?_ rfl (by simp [A.pure,A.data]) h
 refine acall_of mixedT h_r31deps (by simp [c_r31deps]) ?_
 dsimp only [c_r31deps]
 obtain ⟨q,hq⟩:∃ q,Sf.depsB none l=q:=⟨_,rfl⟩
 rw [hq]
 refine runx0 ti ti ?_
 refine awp_loop (fun m ts hh=>hh=⟨[],[]⟩∧∃ j:Nat,m=l.length - j∧j≤l.length∧Sf.depsB (prevS l j) (l.drop j)=q∧(ts 0 = .sl 1 .no (strsA l)∧ts 3 = .int .i64 (j:Nat))) l.length ?_ ?_
 ·exact ⟨rfl,0,rfl,Nat.zero_le _,hq,by (exact inv0 ti)⟩
 rintro m ts hh ⟨rfl,j,rfl,hj,hd,ht⟩
 rcases Nat.lt_or_ge j l.length with hlt | hge
 ·have hf:=strs_at l j hlt (by omega)
  have hs:=hl _ (List.getElem_mem hlt)
  rw [List.drop_eq_getElem_cons hlt] at hd
  unfold Sf.depsB at hd
  have hnx:prevS l (j+1)=some l[j]:=List.getElem?_eq_getElem hlt
  obtain ⟨s,hs'⟩:∃ s,l[j]=s:=⟨_,rfl⟩
  rw [hs'] at hf hs hd hnx
  have cs:=a_r31static s hs
  cases hS:Sf.staticB s with
  | false =>
   rw [hS] at cs hd
   have:false=q:=hd
   subst this
   refine runx0 (ai ht hf) (ai cs ti) ?_
   exact ⟨_,le_refl _,rfl⟩
  | true =>
  rw [hS,Bool.true_and] at hd
  rw [hS] at cs
  cases j with
  | zero =>
   have:Sf.depsB (some s) (l.drop 1)=q:=hd
   have z0:¬ ((0:Nat):Int) > 0:=by decide
   refine runx0 (ai ht (ai hf z0)) (ai cs ti) ?_
   exact ⟨l.length - 1,by omega,rfl,1,rfl,by omega,by rw [hnx]; exact this,by (exact inv0 (ai ht hf))⟩
  | succ i =>
   have hi:i < l.length:=by omega
   have hpv:prevS l (i+1)=some l[i]:=List.getElem?_eq_getElem hi
   rw [hpv] at hd
   have g1:((i+1:Nat):Int) > 0∧IntKind.i64.wrap (((i+1:Nat):Int) - 1)=(i:Int)∧(i:Int) < (l.length:Int)∧(0:Int)≤(i:Int)∧(strsA l).getD i []=[.str l[i]]:=⟨by omega,by rw [wrap64 (by omega) (by omega)]; omega,by omega,by omega,strsA_get l i hi⟩
   obtain ⟨p,hp⟩:∃ p,l[i]=p:=⟨_,rfl⟩
   rw [hp] at hd g1
   have hb:Val.badB (some p) s=!bytesLess p s:=rfl
   rw [hb,Bool.not_not] at hd
   cases hB:bytesLess p s with
   | false =>
    rw [hB] at hd
    have:false=q:=hd
    subst this
    refine runx0 (ai ht (ai hf (ai g1 hB))) (ai cs ti) ?_
    exact ⟨_,le_refl _,rfl⟩
   | true =>
    rw [hB,Bool.true_and] at hd
    refine runx0 (ai ht (ai hf (ai g1 hB))) (ai cs ti) ?_
    exact ⟨_,by omega,rfl,i+1+1,rfl,by omega,by rw [hnx]; exact hd,by (exact inv0 (ai ht hf))⟩
 ·have hf:=ai (strsA_length l) (show ¬ (j:Int) < (l.length:Int) by omega)
  rw [List.drop_of_length_le hge] at hd
  unfold Sf.depsB at hd
  subst hd
  refine runx0 (ai ht hf) ti ?_
  exact ⟨_,le_refl _,rfl⟩
theorem managed_M (s t:List UInt8):Sf.managed s t=(isM s&&(Adr.parse s).1.type == t):=rfl
theorem ne_flip (a b:List UInt8):(a != b)=!(b == a):=by
 show (!(a == b))=!(b == a)
 congr 1
 rw [Bool.eq_iff_iff,beq_iff_eq,beq_iff_eq]
 exact eq_comm
theorem a_r31inst (x:Sf.Inst) (hx:Sf.InstIn x) (ht:x.typ.length≤2000000) (h:Hp):ACall Tryz.prog GT 81 [.agg x.cells] h fun r h'=>r = .int .i64 (Sf.instZ x)∧h'=h:=by
 have cm:=a_r31managed x.addr hx.a
 have ck:=a_r31key x.dep hx.d
 have ct:=a_r31text x.id hx.i
 have cc:=a_rCheck x.attrs hx.l
 have cn:=a_r7known x.attrs hx.l
 have cd:=a_r31deps x.deps (by have:=hx.n; omega) hx.ds
 obtain ⟨q,hq⟩:∃ q,Sf.instZ x=q:=⟨_,rfl⟩
 rw [hq]
 unfold Sf.instZ at hq
 rw [managed_M] at hq
 obtain ⟨a,d,id,ty,⟨k,n,w,vi,vy⟩,v,tn,fi,ds⟩:=x
 dsimp only at cm ck ct cd hq
 simp only [V.A,V.cells] at cc cn
 refine pcall ?_ rfl (by simp [A.pure,A.data,Sf.Inst.cells]) h
 refine acall_of mixedT h_r31inst (by simp [c_r31inst]) ?_
 dsimp only [c_r31inst,Sf.Inst.cells]
 obtain ⟨T,hT⟩:∃ T,(Adr.parse a).1.type=T:=⟨_,rfl⟩
 rw [hT] at cm hq
 cases hM:isM a with
 | false =>
  rw [hM] at cm hq
  rw [if_pos (by simp)] at hq
  subst hq
  refine runx0 ti (ai cm ti) ?_
  exact ⟨_,le_refl _,rfl⟩
 | true =>
 rw [hM,Bool.true_and] at hq
 rw [hM] at cm
 cases hK:Sf.keyB d with
 | false =>
  rw [hK] at ck hq
  rw [if_pos (by simp)] at hq
  subst hq
  refine runx0 ti (ai cm (ai ck ti)) ?_
  exact ⟨_,le_refl _,rfl⟩
 | true =>
 rw [hK] at ck hq
 cases hX:Sf.text id with
 | false =>
  rw [hX] at ct hq
  rw [if_pos (by simp)] at hq
  subst hq
  refine runx0 ti (ai cm (ai ck (ai ct ti))) ?_
  exact ⟨_,le_refl _,rfl⟩
 | true =>
 rw [hX] at ct hq
 simp only [Bool.not_true,Bool.or_false] at hq
 have hTy:(ty != T)=!(T == ty):=ne_flip ty T
 cases hE:(T == ty) with
 | false =>
  rw [hE] at hTy hq
  rw [if_pos (by decide)] at hq
  subst hq
  refine runx0 hTy (ai cm (ai ck (ai ct ti))) ?_
  exact ⟨_,le_refl _,rfl⟩
 | true =>
 rw [hE] at hTy hq
 rw [if_neg (by decide)] at hq
 have hTy':(ty != T)=false:=hTy
 by_cases hZ:Val.checkZ (.mk k n w vi vy)=0
 rotate_left
 ·obtain ⟨Z,hZZ⟩:∃ Z,Val.checkZ (.mk k n w vi vy)=Z:=⟨_,rfl⟩
  rw [hZZ] at cc hZ hq
  have e1:(Z != 0)=true:=by simp [hZ]
  rw [if_pos hZ] at hq
  subst hq
  refine runx0 (ai hTy' e1) (ai cm (ai ck (ai ct (ai cc ti)))) ?_
  exact ⟨_,le_refl _,rfl⟩
 rw [hZ] at cc
 rw [if_neg (by simp [hZ])] at hq
 have hkd:Sf.V.kind (.mk k n w vi vy)=k:=rfl
 rw [hkd] at hq
 by_cases h5:k=5
 rotate_left
 ·have e1:(k != 5)=true:=by simp [h5]
  rw [if_pos h5] at hq
  subst hq
  refine runx0 (ai hTy' e1) (ai cm (ai ck (ai ct (ai cc ti)))) ?_
  exact ⟨_,le_refl _,rfl⟩
 have e1:(k != 5)=false:=by simp [h5]
 rw [if_neg (by simp [h5])] at hq
 cases hN:Sf.known (.mk k n w vi vy) with
 | false =>
  rw [hN] at cn hq
  rw [if_pos (by decide)] at hq
  subst hq
  refine runx0 (ai hTy' e1) (ai cm (ai ck (ai ct (ai cc (ai cn ti))))) ?_
  exact ⟨_,le_refl _,rfl⟩
 | true =>
 rw [hN] at cn hq
 rw [if_neg (by decide)] at hq
 by_cases hv:v < 1∨9007199254740992 < v
 ·have e2:(decide (v < 1)||decide (v > 9007199254740992))=true:=by simpa using hv
  rw [if_pos hv] at hq
  subst hq
  refine runx0 (ai hTy' (ai e1 e2)) (ai cm (ai ck (ai ct (ai cc (ai cn ti))))) ?_
  exact ⟨_,le_refl _,rfl⟩
 have e2:(decide (v < 1)||decide (v > 9007199254740992))=false:=by simp; omega
 rw [if_neg hv] at hq
 cases hD:Sf.depsB none ds with
 | false =>
  rw [hD] at cd hq
  have:q=1:=by rw [←hq]; rfl
  subst this
  refine runx0 (ai hTy' (ai e1 e2)) (ai cm (ai ck (ai ct (ai cc (ai cn (ai cd ti)))))) ?_
  exact ⟨_,le_refl _,rfl⟩
 | true =>
  rw [hD] at cd hq
  have:q=0:=by rw [←hq]; rfl
  subst this
  refine runx0 (ai hTy' (ai e1 e2)) (ai cm (ai ck (ai ct (ai cc (ai cn (ai cd ti)))))) ?_
  exact ⟨_,le_refl _,rfl⟩
theorem a_r31pend (p:Sf.Pend) (ha:p.addr.length≤2000000) (hk:p.tok.length≤2000000) (h:Hp):ACall Tryz.prog GT 83 [.agg p.cells] h fun r h'=>r = .int .i64 (if Sf.pendB p=true then 0 else 1)∧h'=h:=by
 have cm:=a_r31managed p.addr ha
 have ct:=a_r31text p.tok hk
 unfold Sf.pendB
 rw [managed_M]
 obtain ⟨a,ty,tok⟩:=p
 dsimp only at cm ct ⊢
 refine pcall ?_ rfl (by simp [A.pure,A.data,Sf.Pend.cells]) h
 refine acall_of mixedT h_r31pend (by simp [c_r31pend]) ?_
 dsimp only [c_r31pend,Sf.Pend.cells]
 obtain ⟨T,hT⟩:∃ T,(Adr.parse a).1.type=T:=⟨_,rfl⟩
 rw [hT] at cm ⊢
 have hTy:(ty != T)=!(T == ty):=ne_flip ty T
 obtain ⟨b,hb⟩:∃ b,(T == ty)=b:=⟨_,rfl⟩
 rw [hb] at hTy ⊢
 obtain ⟨c,hc⟩:∃ c,Sf.text tok=c:=⟨_,rfl⟩
 obtain ⟨e,he⟩:∃ e,isM a=e:=⟨_,rfl⟩
 rw [hc] at ct ⊢
 rw [he] at cm ⊢
 cases c <;> cases e <;> cases b <;> ((refine runx0 hTy (ai cm (ai ct ti)) ?_); exact ⟨_,le_refl _,rfl⟩)
theorem a_r31outp (o:Sf.Outp) (hn:o.name.length≤2000000) (hl:o.value.lens) (h:Hp):ACall Tryz.prog GT 113 [.agg o.cells] h fun r h'=>r = .int .i64 (Sf.outZ o)∧h'=h:=by
 have ci:=a_r6ident o.name hn
 have cc:=a_rCheck o.value hl
 have cn:=a_r7known o.value hl
 obtain ⟨q,hq⟩:∃ q,Sf.outZ o=q:=⟨_,rfl⟩
 rw [hq]
 unfold Sf.outZ at hq
 obtain ⟨nm,⟨k,n,w,vi,vy⟩,sn⟩:=o
 dsimp only at ci hq
 simp only [V.A,V.cells] at cc cn
 refine pcall ?_ rfl (by simp [A.pure,A.data,Sf.Outp.cells]) h
 refine acall_of mixedT h_r31outp (by simp [c_r31outp]) ?_
 dsimp only [c_r31outp,Sf.Outp.cells]
 cases hI:Adr.ident nm with
 | false =>
  rw [hI] at ci hq
  rw [if_pos (by decide)] at hq
  subst hq
  refine runx0 ti (ai ci ti) ?_
  exact ⟨_,le_refl _,rfl⟩
 | true =>
 rw [hI] at ci hq
 rw [if_neg (by decide)] at hq
 by_cases hZ:Val.checkZ (.mk k n w vi vy)=0
 rotate_left
 ·obtain ⟨Z,hZZ⟩:∃ Z,Val.checkZ (.mk k n w vi vy)=Z:=⟨_,rfl⟩
  rw [hZZ] at cc hZ hq
  have e1:(Z != 0)=true:=by simp [hZ]
  rw [if_pos hZ] at hq
  subst hq
  refine runx0 e1 (ai ci (ai cc ti)) ?_
  exact ⟨_,le_refl _,rfl⟩
 rw [hZ] at cc
 rw [if_neg (by simp [hZ])] at hq
 cases hN:Sf.known (.mk k n w vi vy) with
 | false =>
  rw [hN] at cn hq
  rw [if_pos (by decide)] at hq
  subst hq
  refine runx0 ti (ai ci (ai cc (ai cn ti))) ?_
  exact ⟨_,le_refl _,rfl⟩
 | true =>
  rw [hN] at cn hq
  rw [if_neg (by decide)] at hq
  subst hq
  refine runx0 ti (ai ci (ai cc (ai cn ti))) ?_
  exact ⟨_,le_refl _,rfl⟩
def beforeZ (a d:List UInt8) (y:Sf.Inst):Int:=if a=y.addr then cmpB d y.dep else cmpB a y.addr
theorem a_r31before (a d:List UInt8) (y:Sf.Inst) (h:Hp):ACall Tryz.prog GT 82 [.str a,.str d,.agg y.cells] h fun r h'=>r = .int .i64 (beforeZ a d y)∧h'=h:=by
 have c1:=a_r7bytes a y.addr
 have c2:=a_r7bytes d y.dep
 unfold beforeZ
 obtain ⟨a',d',id,ty,⟨k,n,w,vi,vy⟩,v,tn,fi,ds⟩:=y
 dsimp only at c1 c2 ⊢
 refine pcall ?_ rfl (by simp [A.pure,A.data,Sf.Inst.cells]) h
 refine acall_of mixedT h_r31before (by simp [c_r31before]) ?_
 dsimp only [c_r31before,Sf.Inst.cells]
 by_cases he:a=a'
 ·have e1:(a != a')=false:=by simp [he]
  rw [if_pos he]
  refine runx0 e1 (ai c2 ti) ?_
  exact ⟨_,le_refl _,rfl⟩
 ·have e1:(a != a')=true:=by simp [he]
  rw [if_neg he]
  refine runx0 e1 (ai c1 ti) ?_
  exact ⟨_,le_refl _,rfl⟩
theorem cmp_pos (a b:List UInt8):decide (cmpB a b≤0)=!bytesLess b a:=by
 have h1:=Val.less_total a b
 unfold cmpB
 cases hl:bytesLess a b with
 | true =>
  rw [if_pos rfl]
  have h2:=Val.less_total b a
  rw [hl] at h2
  rw [h2]
  rfl
 | false =>
  rw [if_neg (by decide)]
  by_cases he:a=b
  ·subst he
   rw [if_pos rfl,Val.less_irrefl]
   rfl
  ·rw [if_neg he]
   rw [hl] at h1
   have:(b == a)=false:=by simpa using fun h=>he h.symm
   rw [this,Bool.or_false] at h1
   rw [←h1]
   rfl
theorem before_behind (x y:Sf.Inst):decide (beforeZ x.addr x.dep y≤0)=!Sf.behind y x:=by
 unfold beforeZ Sf.behind
 by_cases he:x.addr=y.addr
 ·rw [if_pos he,cmp_pos,he,Val.less_irrefl]
  simp
 ·rw [if_neg he,cmp_pos]
  have:(y.addr == x.addr)=false:=by simpa using fun h=>he h.symm
  rw [this,Bool.false_and,Bool.or_false]
def c_r31outs:AX.AFn:=⟨35,aS [aR 2 (.mv (aI 0))] (.seq (aS [aR 3 (.mv (aI 0))] (.block 0 (.loop (.seq (aS [aM 5 3,aM 6 0,aR 7 (.len false (.t 6)),aR 8 (.bin .lss (.t 5) (.t 7))] (.cond (.t 8) (.skip) (.exit 0))) (.seq (.block 1 (.seq (aS [aM 11 0,aM 12 3,aR 13 (.iaddr 7 (.t 11) (.t 12)),aR 14 (.load true 7 (.t 13)),aR 15 (.call 113 [.t 14]),aM 4 15] (aS [aM 16 4,aR 17 (.bin .neq (.t 16) (aI 0))] (.cond (.t 17) (aS [aM 18 4,aM 2 18] (.ret)) (.skip)))) (.seq (.reg true [aM 19 3,⟨some 20,.bin .gtr (.t 19) (aI 0),none,[0]⟩,⟨some 21,.mv (.t 20),none,[1]⟩,⟨some 22,.mv (.t 0),some (21,true),[2]⟩,⟨some 23,.mv (.t 3),some (21,true),[2]⟩,⟨some 24,.bin .sub (.t 23) (aI 1),some (21,true),[4,2]⟩,⟨some 25,.iaddr 7 (.t 22) (.t 24),some (21,true),[3,5,2]⟩,⟨some 26,.faddr 0 (.t 25),some (21,true),[6,2]⟩,⟨some 27,.load false 1 (.t 26),some (21,true),[7,2]⟩,⟨some 28,.mv (.t 0),some (21,true),[2]⟩,⟨some 29,.mv (.t 3),some (21,true),[2]⟩,⟨some 30,.iaddr 7 (.t 28) (.t 29),some (21,true),[9,10,2]⟩,⟨some 31,.faddr 0 (.t 30),some (21,true),[11,2]⟩,⟨some 32,.load false 1 (.t 31),some (21,true),[12,2]⟩,⟨some 33,.bin .geq (.t 27) (.t 32),some (21,true),[8,13,2]⟩,⟨some 34,.pick (.t 21) (.t 33) (.c (.bool false)),none,[2,14]⟩]) (.cond (.t 34) (aS [aR 2 (.mv (aI 1))] (.ret)) (.skip))))) (.reg false [aM 9 3,aR 10 (.bin .add (.t 9) (aI 1)),aM 3 10])))))) (aS [aR 2 (.mv (aI 0))] (.ret))),[.t 2]⟩
theorem h_r31outs:AX.compFn Tryz.prog 84=some c_r31outs:=by kernel_rfl
theorem row_end6 {α:Type} (f:α→List A) (l:List α) (i:Nat) (h:l.length≤i):(l.map f).length=l.length∧¬ (i:Int) < (l.length:Int):=⟨List.length_map _,by omega⟩
def prevG {α:Type} (l:List α):Nat→Option α
 | 0=>none
 | j+1=>l[j]?
theorem prevG_succ {α:Type} (l:List α) (j:Nat) (h:j < l.length):prevG l (j+1)=some l[j]:=List.getElem?_eq_getElem h
theorem row_before {α:Type} (f:α→List A) (l:List α) (i:Nat) (h:i+1 < l.length) (hl:l.length≤4611686018427387904) :
  ((i+1:Nat):Int) > 0∧IntKind.i64.wrap (((i+1:Nat):Int) - 1)=(i:Int)∧(i:Int) < (l.length:Int)∧(0:Int)≤(i:Int)∧(l.map f).getD i []=f (l[i]'(by omega)):=
 ⟨by omega,by rw [wrap64 (by omega) (by omega)]; omega,by omega,by omega,map_getD f l i (by omega)⟩
theorem a_r31outs (l:List Sf.Outp) (hn:l.length≤1000000000) (ho:∀ o∈l,o.name.length≤2000000∧o.value.lens) (h:Hp):ACall Tryz.prog GT 84 [.sl 7 .no (l.map Sf.Outp.cells)] h fun r h'=>r = .int .i64 (Sf.outsZ none l)∧h'=h:=by
 refine pcall ?_ rfl (by simp [A.pure,A.data]) h
 refine acall_of mixedT h_r31outs (by simp [c_r31outs]) ?_
 dsimp only [c_r31outs]
 obtain ⟨q,hq⟩:∃ q,Sf.outsZ none l=q:=⟨_,rfl⟩
 rw [hq]
 refine runx0 ti ti ?_
 refine awp_loop (fun m ts hh=>hh=⟨[],[]⟩∧∃ j:Nat,m=l.length - j∧j≤l.length∧Sf.outsZ ((prevG l j).map Sf.Outp.name) (l.drop j)=q∧(ts 0 = .sl 7 .no (l.map Sf.Outp.cells)∧ts 3 = .int .i64 (j:Nat))) l.length ?_ ?_
 ·exact ⟨rfl,0,rfl,Nat.zero_le _,hq,by (exact inv0 ti)⟩
 rintro m ts hh ⟨rfl,j,rfl,hj,hd,ht⟩
 rcases Nat.lt_or_ge j l.length with hlt | hge
 ·have hf:=row_at6 Sf.Outp.cells l j hlt (by omega)
  have hox:=ho _ (List.getElem_mem hlt)
  rw [List.drop_eq_getElem_cons hlt] at hd
  unfold Sf.outsZ at hd
  have hnx:=prevG_succ l j hlt
  obtain ⟨x,hx⟩:∃ x,l[j]=x:=⟨_,rfl⟩
  rw [hx] at hf hox hd hnx
  have co:=a_r31outp x hox.1 hox.2
  obtain ⟨Z,hZ⟩:∃ Z,Sf.outZ x=Z:=⟨_,rfl⟩
  rw [hZ] at co hd
  have hxn:(some x).map Sf.Outp.name=some x.name:=rfl
  obtain ⟨nm,⟨k,n,w,vi,vy⟩,sn⟩:=x
  dsimp only [Sf.Outp.cells] at hf co hd hxn
  by_cases hz:Z=0
  rotate_left
  ·have e1:(Z != 0)=true:=by simp [hz]
   rw [if_pos hz] at hd
   subst hd
   refine runx0 (ai ht (ai hf e1)) (ai co ti) ?_
   exact ⟨_,le_refl _,rfl⟩
  have e1:(Z != 0)=false:=by simp [hz]
  rw [if_neg (by simp [hz])] at hd
  cases j with
  | zero =>
   have z0:¬ ((0:Nat):Int) > 0:=by decide
   have hd':Sf.outsZ (some nm) (l.drop 1)=q:=hd
   refine runx0 (ai ht (ai hf (ai e1 z0))) (ai co ti) ?_
   exact ⟨l.length - 1,by omega,rfl,1,rfl,by omega,by rw [hnx]; exact hd',by (exact inv0 (ai ht hf))⟩
  | succ i =>
   have hb:=row_before Sf.Outp.cells l i hlt (by omega)
   rw [prevG_succ l i (by omega)] at hd
   obtain ⟨y,hy⟩:∃ y,l[i]=y:=⟨_,rfl⟩
   rw [hy] at hb hd
   obtain ⟨nm2,⟨k2,n2,w2,vi2,vy2⟩,sn2⟩:=y
   dsimp only [Sf.Outp.cells,Option.map_some] at hb hd
   replace hd:(if (!bytesLess nm2 nm)=true then (1:Int) else Sf.outsZ (some nm) (l.drop (i+1+1)))=q:=hd
   cases hB:bytesLess nm2 nm with
   | false =>
    rw [hB,if_pos (by decide)] at hd
    subst hd
    refine runx0 (ai ht (ai hf (ai e1 (ai hb hB)))) (ai co ti) ?_
    exact ⟨_,le_refl _,rfl⟩
   | true =>
    rw [hB,if_neg (by decide)] at hd
    refine runx0 (ai ht (ai hf (ai e1 (ai hb hB)))) (ai co ti) ?_
    exact ⟨_,by omega,rfl,i+1+1,rfl,by omega,by rw [hnx]; exact hd,by (exact inv0 (ai ht hf))⟩
 ·have hf:=row_end6 Sf.Outp.cells l j hge
  rw [List.drop_of_length_le hge] at hd
  unfold Sf.outsZ at hd
  subst hd
  refine runx0 (ai ht hf) ti ?_
  exact ⟨_,le_refl _,rfl⟩
theorem a_r31check (st:Sf.St) (hin:Sf.StIn st) (htp:Sf.TypIn st) (h:Hp):ACall Tryz.prog GT 58 [st.A] h fun r h'=>r = .int .i64 (Sf.checkZ st)∧h'=h:=by
 obtain ⟨lin,ser,ins,ps,os⟩:=st
 obtain ⟨hl,hi,hp,ho,hni,hnp,hno⟩:=hin
 dsimp only at hl hi hp ho hni hnp hno
 have hti:=htp.insts
 have htp':=htp.pends
 dsimp only at hti htp'
 have ct:=a_r31text lin (by omega)
 have co:=a_r31outs os hno ho
 obtain ⟨q,hq⟩:∃ q,Sf.checkZ ⟨lin,ser,ins,ps,os⟩=q:=⟨_,rfl⟩
 rw [hq]
 unfold Sf.checkZ at hq
 dsimp only at hq
 obtain ⟨N,hN⟩:∃ N,Sf.instsZ none ins=N:=⟨_,rfl⟩
 obtain ⟨P,hP⟩:∃ P,Sf.pendsZ none ps=P:=⟨_,rfl⟩
 rw [hN,hP] at hq
 refine pcall ?_ rfl (by simp [A.pure,A.data,Sf.St.A]) h
 refine fo ?_
 dsimp only [Sf.St.A]
 have li:(ins.map Sf.Inst.cells).length=ins.length∧(ps.map Sf.Pend.cells).length=ps.length∧(os.map Sf.Outp.cells).length=os.length:=⟨List.length_map _,List.length_map _,List.length_map _⟩
 cases hT:Sf.text lin with
 | false =>
  rw [hT] at ct hq
  rw [if_pos (by decide)] at hq
  subst hq
  refine runx0 ti (ai ct ti) ?_
  exact ⟨_,le_refl _,rfl⟩
 | true =>
 rw [hT] at ct hq
 rw [if_neg (by decide)] at hq
 by_cases hs:ser < 0∨9007199254740992 < ser
 ·have e1:(decide (ser < 0)||decide (ser > 9007199254740992))=true:=by simpa using hs
  rw [if_pos hs] at hq
  subst hq
  refine runx0 e1 (ai ct ti) ?_
  exact ⟨_,le_refl _,rfl⟩
 have e1:(decide (ser < 0)||decide (ser > 9007199254740992))=false:=by simp; omega
 rw [if_neg hs] at hq
 by_cases hm:512 < ins.length∨512 < ps.length∨512 < os.length
 ·have e2:(decide ((ins.length:Int) > 512)||decide ((ps.length:Int) > 512)||decide ((os.length:Int) > 512))=true:=by simp; omega
  rw [if_pos hm] at hq
  subst hq
  refine runx0 (ai e1 (ai li e2)) (ai ct ti) ?_
  exact ⟨_,le_refl _,rfl⟩
 have e2:(decide ((ins.length:Int) > 512)||decide ((ps.length:Int) > 512)||decide ((os.length:Int) > 512))=false:=by simp; omega
 rw [if_neg hm] at hq
 refine runx0 (ai e1 (ai li e2)) (ai ct ti) ?_
 refine awp_loop (fun m ts hh=>∃ (j:Nat) (l:List Blk),m=ins.length - j∧j≤ins.length∧hh=⟨.cells 27 [.str lin,.int .i64 ser,.sl 13 .no (ins.map Sf.Inst.cells),.sl 3 .no (ps.map Sf.Pend.cells),.sl 7 .no (os.map Sf.Outp.cells)]::l,[]⟩ ∧
  Sf.instsZ (prevG ins j) (ins.drop j)=N∧(ts 1 = .ptr 0 0∧ts 3 = .int .i64 (j:Nat))) ins.length ?_ ?_
 ·exact ⟨0,[],rfl,Nat.zero_le _,rfl,hN,by (exact inv0 ti)⟩
 rintro m ts hh ⟨j,l,rfl,hj,rfl,hd,ht⟩
 rcases Nat.lt_or_ge j ins.length with hlt | hge
 ·have hf:=row_at6 Sf.Inst.cells ins j hlt (by omega)
  have hix:=hi _ (List.getElem_mem hlt)
  have htx:=hti _ (List.getElem_mem hlt)
  rw [List.drop_eq_getElem_cons hlt] at hd
  unfold Sf.instsZ at hd
  have hnx:=prevG_succ ins j hlt
  obtain ⟨x,hx⟩:∃ x,ins[j]=x:=⟨_,rfl⟩
  rw [hx] at hf hix htx hd hnx
  have ci:=a_r31inst x hix htx
  have cb:=fun y=>a_r31before x.addr x.dep y
  have hbf:=before_behind x
  obtain ⟨Z,hZ⟩:∃ Z,Sf.instZ x=Z:=⟨_,rfl⟩
  rw [hZ] at ci hd
  obtain ⟨x',hx'⟩:∃ x',x'=x:=⟨_,rfl⟩
  rw [←hx'] at hd hnx hbf
  obtain ⟨a,d,id,ty,⟨k,n,w,vi,vy⟩,v,tn,fi,ds⟩:=x
  have hxa:x'.addr=a∧x'.dep=d:=by rw [hx']; exact ⟨rfl,rfl⟩
  rw [hxa.1,hxa.2] at hbf
  dsimp only [Sf.Inst.cells] at hf ci cb
  by_cases hz:Z=0
  rotate_left
  ·have e3:(Z != 0)=true:=by simp [hz]
   rw [if_pos hz] at hd
   have:q=Z:=by rw [←hq,←hd,if_pos hz]
   subst this
   refine runx0 (ai ht (ai hf (ai li e3))) (ai ci ti) ?_
   exact ⟨_,le_refl _,rfl⟩
  have e3:(Z != 0)=false:=by simp [hz]
  rw [if_neg (by simp [hz])] at hd
  cases j with
  | zero =>
   have z0:¬ ((0:Nat):Int) > 0:=by decide
   have hd':Sf.instsZ (some x') (ins.drop 1)=N:=hd
   refine runx0 (ai ht (ai hf (ai li (ai e3 z0)))) (ai ci ti) ?_
   exact ⟨ins.length - 1,by omega,1,_,rfl,by omega,rfl,by rw [hnx]; exact hd',by (exact inv0 (ai ht hf))⟩
  | succ i =>
   have hb:=row_before Sf.Inst.cells ins i hlt (by omega)
   rw [prevG_succ ins i (by omega)] at hd
   obtain ⟨y,hy⟩:∃ y,ins[i]=y:=⟨_,rfl⟩
   rw [hy] at hb hd
   have cby:=cb y
   have hbfy:=hbf y
   replace hd:(if (!Sf.behind y x')=true then (1:Int) else Sf.instsZ (some x') (ins.drop (i+1+1)))=N:=hd
   obtain ⟨B,hBB⟩:∃ B,beforeZ a d y=B:=⟨_,rfl⟩
   rw [hBB] at cby hbfy
   obtain ⟨bh,hbh⟩:∃ b,Sf.behind y x'=b:=⟨_,rfl⟩
   rw [hbh] at hd hbfy
   obtain ⟨a2,d2,id2,ty2,⟨k2,n2,w2,vi2,vy2⟩,v2,tn2,fi2,ds2⟩:=y
   dsimp only [Sf.Inst.cells] at hb cby
   cases bh with
   | false =>
    rw [if_pos (by decide)] at hd
    have hb0:B≤0:=by simpa using hbfy
    have:q=1:=by rw [←hq,←hd]; rfl
    subst this
    refine runx0 (ai ht (ai hf (ai li (ai e3 (ai hb hb0))))) (ai ci (ai cby ti)) ?_
    exact ⟨_,le_refl _,rfl⟩
   | true =>
    rw [if_neg (by decide)] at hd
    have hb0:¬ B≤0:=by simpa using hbfy
    refine runx0 (ai ht (ai hf (ai li (ai e3 (ai hb hb0))))) (ai ci (ai cby ti)) ?_
    exact ⟨_,by omega,i+1+1,_,rfl,by omega,rfl,by rw [hnx]; exact hd,by (exact inv0 (ai ht hf))⟩
 have hf:=row_end6 Sf.Inst.cells ins j hge
 rw [List.drop_of_length_le hge] at hd
 unfold Sf.instsZ at hd
 rw [←hd,if_neg (by simp)] at hq
 refine runx0 (ai ht (ai hf li)) ti ?_
 refine awp_loop (fun m ts hh=>∃ (j:Nat),m=ps.length - j∧j≤ps.length∧hh=⟨.cells 27 [.str lin,.int .i64 ser,.sl 13 .no (ins.map Sf.Inst.cells),.sl 3 .no (ps.map Sf.Pend.cells),.sl 7 .no (os.map Sf.Outp.cells)]::l,[]⟩ ∧
  Sf.pendsZ ((prevG ps j).map Sf.Pend.tok) (ps.drop j)=P∧(ts 1 = .ptr 0 0∧ts 6 = .int .i64 (j:Nat))) ps.length ?_ ?_
 ·exact ⟨0,rfl,Nat.zero_le _,rfl,hP,by (exact inv0 ht)⟩
 rintro m ts' hh ⟨j',rfl,hj',rfl,hd',hu⟩
 rcases Nat.lt_or_ge j' ps.length with hlt | hge'
 ·have hf:=row_at6 Sf.Pend.cells ps j' hlt (by omega)
  have hpx:=hp _ (List.getElem_mem hlt)
  rw [List.drop_eq_getElem_cons hlt] at hd'
  unfold Sf.pendsZ at hd'
  have hnx:=prevG_succ ps j' hlt
  obtain ⟨x,hx⟩:∃ x,ps[j']=x:=⟨_,rfl⟩
  rw [hx] at hf hpx hd' hnx
  have cp:=a_r31pend x hpx.1 hpx.2
  obtain ⟨b,hb⟩:∃ b,Sf.pendB x=b:=⟨_,rfl⟩
  rw [hb] at cp hd'
  obtain ⟨a,ty,tok⟩:=x
  dsimp only [Sf.Pend.cells] at hf cp hd'
  cases b with
  | false =>
   rw [if_neg (by decide)] at cp
   rw [Bool.not_false,Bool.true_or,if_pos rfl] at hd'
   have:q=1:=by rw [←hq,←hd']; rfl
   subst this
   refine runx0 (ai hu (ai hf li)) (ai cp ti) ?_
   exact ⟨_,le_refl _,rfl⟩
  | true =>
  rw [if_pos rfl] at cp
  rw [Bool.not_true,Bool.false_or] at hd'
  cases j' with
  | zero =>
   have z0:¬ ((0:Nat):Int) > 0:=by decide
   have hd2:Sf.pendsZ (some tok) (ps.drop 1)=P:=hd'
   refine runx0 (ai hu (ai hf (ai li z0))) (ai cp ti) ?_
   exact ⟨ps.length - 1,by omega,1,rfl,by omega,rfl,by rw [hnx]; exact hd2,by (exact inv0 (ai hu hf))⟩
  | succ i =>
   have hbr:=row_before Sf.Pend.cells ps i hlt (by omega)
   rw [prevG_succ ps i (by omega)] at hd'
   obtain ⟨y,hy⟩:∃ y,ps[i]=y:=⟨_,rfl⟩
   rw [hy] at hbr hd'
   obtain ⟨a2,ty2,tok2⟩:=y
   dsimp only [Sf.Pend.cells,Option.map_some] at hbr hd'
   replace hd':(if (!bytesLess tok2 tok)=true then (1:Int) else Sf.pendsZ (some tok) (ps.drop (i+1+1)))=P:=hd'
   cases hB:bytesLess tok2 tok with
   | false =>
    rw [hB,if_pos (by decide)] at hd'
    have:q=1:=by rw [←hq,←hd']; rfl
    subst this
    refine runx0 (ai hu (ai hf (ai li (ai hbr hB)))) (ai cp ti) ?_
    exact ⟨_,le_refl _,rfl⟩
   | true =>
    rw [hB,if_neg (by decide)] at hd'
    refine runx0 (ai hu (ai hf (ai li (ai hbr hB)))) (ai cp ti) ?_
    exact ⟨_,by omega,i+1+1,rfl,by omega,rfl,by rw [hnx]; exact hd',by (exact inv0 (ai hu hf))⟩
 ·have hf':=row_end6 Sf.Pend.cells ps j' hge'
  rw [List.drop_of_length_le hge'] at hd'
  unfold Sf.pendsZ at hd'
  rw [←hd',if_neg (by simp)] at hq
  rw [hq] at co
  refine runx0 (ai hu (ai hf' li)) (ai co ti) ?_
  exact ⟨_,le_refl _,rfl⟩
end AX
end Go.Proofs.YtdgcbckcameggaaGreatDoor

namespace Go.Proofs.YtdgcbckcameggaaGreatDoor
open Go.RowKit
namespace Sf
open Wire (numR strR cntR)
def InstT (x:Inst):Prop:=AX.Sf.InstIn x∧x.typ.length≤2000000
def PendT (x:Pend):Prop:=x.addr.length≤2000000∧x.tok.length≤2000000∧x.typ.length≤2000000
def OutT (x:Outp):Prop:=x.name.length≤2000000∧x.value.lens
theorem instQ_in (ver:Int) (hv:ver=1∨ver=2) (r:Wire.St) (h:(instQ ver r).2.2=true) (hr:r.rest.length≤2000000):InstT (instQ ver r).2.1∧(instQ ver r).1.rest.length≤r.rest.length:=by
 have e:=(inst_agree ver hv r).1 h
 have i:=inst_in ver ⟨r,false⟩ hr
 have l:=instS_le ver ⟨r,false⟩
 have t:(instS ver ⟨r,false⟩).2.typ=(strS (strS (strS (strS ⟨r,false⟩).1).1).1).2:=rfl
 rw [e] at i l t
 have a1:=strS_le ⟨r,false⟩
 have a2:=strS_le (strS ⟨r,false⟩).1
 have a3:=strS_le (strS (strS ⟨r,false⟩).1).1
 have a4:=strS_len (strS (strS (strS ⟨r,false⟩).1).1).1
 dsimp only at i l t a1
 refine ⟨⟨i,?_⟩,l⟩
 rw [t]
 omega
theorem pendQ_in (r:Wire.St) (hr:r.rest.length≤2000000):PendT (pendQ r).2∧(pendQ r).1.rest.length≤r.rest.length:=by
 have a1:=strS_le ⟨r,false⟩
 have a2:=strS_le (strS ⟨r,false⟩).1
 have a3:=strS_le (strS (strS ⟨r,false⟩).1).1
 have l1:=strS_len ⟨r,false⟩
 have l2:=strS_len (strS ⟨r,false⟩).1
 have l3:=strS_len (strS (strS ⟨r,false⟩).1).1
 have e:(pendQ r)=((strS (strS (strS ⟨r,false⟩).1).1).1.r,⟨(strS ⟨r,false⟩).2,(strS (strS ⟨r,false⟩).1).2,(strS (strS (strS ⟨r,false⟩).1).1).2⟩):=rfl
 rw [e]
 dsimp only at a1 l1
 exact ⟨⟨by dsimp only; omega,by dsimp only; omega,by dsimp only; omega⟩,by dsimp only; omega⟩
theorem outsQ_in:∀ (c:Nat) (r:Wire.St) (l:List Outp),r.rest.length≤2000000→(∀ x∈l,OutT x)→(∀ x∈(outsQ c r l).2.1,OutT x)∧(outsQ c r l).2.1.length≤l.length+c∧(outsQ c r l).1.rest.length≤r.rest.length
 | 0,r,l,hr,hl=>⟨hl,Nat.le_refl _,Nat.le_refl _⟩
 | c+1,r,l,hr,hl=>by
  unfold outsQ
  split
  ·exact ⟨hl,by dsimp only; omega,Nat.le_refl _⟩
  have k1:=strS_len ⟨r,false⟩
  have k3:=strS_le ⟨r,false⟩
  have k4:=Val.readValue_le (strR r).1
  have k5:=Wire.numR_rest (Val.readValue (strR r).1).1
  have k6:(strS ⟨r,false⟩).1.r=(strR r).1:=rfl
  have k7:(strS ⟨r,false⟩).2=(strR r).2:=rfl
  have k8:(flagQ (Val.readValue (strR r).1).1).1=(numR (Val.readValue (strR r).1).1).1:=rfl
  rw [k6] at k3
  rw [k7] at k1
  dsimp only at k1 k3 ⊢
  split
  ·exact ⟨by simp,by simp,by dsimp only; omega⟩
  split
  ·refine ⟨by simp,by simp,?_⟩
   rw [k8]; omega
  ·obtain ⟨h1,h2,h3⟩:=outsQ_in c (flagQ (Val.readValue (strR r).1).1).1 (l++[⟨(strR r).2,(Val.readValue (strR r).1).2.2,(flagQ (Val.readValue (strR r).1).1).2.1⟩]) (by rw [k8]; omega) (fun x hx=>by
    rcases List.mem_append.1 hx with hx | hx
    ·exact hl x hx
    ·rw [List.mem_singleton.1 hx]
     exact ⟨by dsimp only; omega,AX.readValue_lens _ (by omega)⟩)
   refine ⟨h1,?_,Nat.le_trans h3 (by rw [k8]; omega)⟩
   rw [List.length_append,List.length_singleton] at h2; omega
end Sf
namespace AX
def c_q32version:AX.AFn:=⟨31,aS [aR 2 (.mv (aI 0)),aR 3 (.mv (aI 0))] (.seq (aS [aM 6 0,aR 7 (.len true (.t 6)),aR 8 (.bin .lss (.t 7) (aI 4)),aM 9 8,aG 10 (.mv (.t 0)) 9 false,aG 11 (.ssl (.t 10) none (some (aI 4))) 9 false,aG 12 (.bin .neq (.t 11) (.c (.str [80,86,83,84]))) 9 false,aR 13 (.pick (.t 9) (.c (.bool true)) (.t 12))] (.cond (.t 13) (aS [aR 2 (.mv (aI 0)),aR 3 (.mv (aI 2))] (.ret)) (.skip))) (aS [aM 15 0,aR 16 (.ssl (.t 15) (some (aI 4)) none),aR 17 (.call 23 [.t 16]),aR 18 (.call 22 [.t 17]),aM 14 18,aE 19 14 0,aE 20 14 1,aR 4 (.alloc 54 [.str [],.int .i64 0]),aU (.store 2 (.t 4) (.t 19)),aM 5 20] (.seq (aS [aF 21 1 4,aL 22 21,aR 23 (.bin .neq (.t 22) (aI 0))] (.cond (.t 23) (aS [aR 2 (.mv (aI 0)),aR 3 (.mv (aI 2))] (.ret)) (.skip))) (.seq (aS [aM 24 5,aR 25 (.bin .neq (.t 24) (aI 1)),aM 26 25,aG 27 (.mv (.t 5)) 26 true,aG 28 (.bin .neq (.t 27) (aI 2)) 26 true,aR 29 (.pick (.t 26) (.t 28) (.c (.bool false)))] (.cond (.t 29) (aS [aR 2 (.mv (aI 0)),aR 3 (.mv (aI 21))] (.ret)) (.skip))) (aS [aM 30 5,aM 2 30,aR 3 (.mv (aI 0))] (.ret)))))),[.t 2,.t 3]⟩
theorem h_q32version:AX.compFn Tryz.prog 8=some c_q32version:=by kernel_rfl
theorem a_q32version (s:List UInt8) (hs:s.length≤100000000) (h:Hp):ACall Tryz.prog GT 8 [.str s] h fun v h'=>v = .tup [.int .i64 (versionS s).1,.int .i64 (versionS s).2]∧h'=h:=by
 refine pcall ?_ rfl (by simp [A.pure,A.data]) h
 refine acall_of mixedT h_q32version (by simp [c_q32version]) ?_
 dsimp only [c_q32version]
 have hV:versionS s=if preB s=false then (0,2) else if (Wire.numR ⟨s.drop 4,0⟩).1.e≠0 then (0,2) else if (Wire.numR ⟨s.drop 4,0⟩).2≠1∧(Wire.numR ⟨s.drop 4,0⟩).2≠2 then (0,21) else ((Wire.numR ⟨s.drop 4,0⟩).2,0):=rfl
 have hP:preB s=(decide (4≤s.length)&&s.take 4 == [80,86,83,84]):=rfl
 have h04:(0:Int)≤4:=by decide
 have h4:(4:Int).toNat=4:=rfl
 by_cases hl:(s.length:Int) < 4
 ·have hp:preB s=false:=by rw [hP,decide_eq_false (by omega)]; rfl
  rw [if_pos hp] at hV
  rw [hV]
  refine runc0 hl ti ?_
  exact ⟨_,le_refl _,rfl⟩
 have hl4:(4:Int)≤(s.length:Int):=by omega
 by_cases hm:s.take 4=[80,86,83,84]
 rotate_left
 ·have hp:preB s=false:=by rw [hP]; simp [hm]
  have hm':(s.take 4 != [80,86,83,84])=true:=by simp [hm]
  rw [if_pos hp] at hV
  rw [hV]
  refine runc0 (ai hl (ai hl4 (ai h04 (ai h4 hm')))) ti ?_
  exact ⟨_,le_refl _,rfl⟩
 have hp:preB s=true:=by rw [hP,decide_eq_true (by omega),hm]; rfl
 have hm':(s.take 4 != [80,86,83,84])=false:=by simp [hm]
 rw [if_neg (by rw [hp]; decide)] at hV
 obtain ⟨⟨⟨l1,e1⟩,n⟩,h1⟩:∃ q,Wire.numR ⟨s.drop 4,0⟩=q:=⟨_,rfl⟩
 rw [h1] at hV
 dsimp only at hV
 have c0:=a_refNew (s.drop 4)
 have c1:=a_q4num h1 (by rw [List.length_drop]; omega)
 by_cases he:e1=0
 rotate_left
 ·have he':(e1 != 0)=true:=by simp [he]
  rw [if_pos he] at hV
  rw [hV]
  refine runc0 (ai hl (ai hl4 (ai h04 (ai h4 (ai hm' he'))))) (ai c0 (ai c1 ti)) ?_
  exact ⟨_,le_refl _,rfl⟩
 have he':(e1 != 0)=false:=by simp [he]
 rw [if_neg (by simp [he])] at hV
 by_cases n1:n=1
 ·subst n1
  rw [if_neg (fun h=>h.1 rfl)] at hV
  rw [hV]
  refine runc0 (ai hl (ai hl4 (ai h04 (ai h4 (ai hm' he'))))) (ai c0 (ai c1 ti)) ?_
  exact ⟨_,le_refl _,rfl⟩
 have n1':(n != 1)=true:=by simp [n1]
 by_cases n2:n=2
 ·subst n2
  rw [if_neg (fun h=>h.2 rfl)] at hV
  rw [hV]
  refine runc0 (ai hl (ai hl4 (ai h04 (ai h4 (ai hm' he'))))) (ai c0 (ai c1 ti)) ?_
  exact ⟨_,le_refl _,rfl⟩
 have n2':(n != 2)=true:=by simp [n2]
 rw [if_pos ⟨n1,n2⟩] at hV
 rw [hV]
 refine runc0 (ai hl (ai hl4 (ai h04 (ai h4 (ai hm' (ai he' (ai n1' n2'))))))) (ai c0 (ai c1 ti)) ?_
 exact ⟨_,le_refl _,rfl⟩
theorem get_r1 {l:List Blk} (x y z w:Blk):(l++[x]++[y]++[z]++[w])[l.length]?=some x:=by
 rw [List.getElem?_append_left (by simp)]; exact get_q1 x y z
theorem get_r4 {l:List Blk} (x y z w:Blk):(l++[x]++[y]++[z]++[w])[l.length+1+1+1]?=some w:=by
 have h:(l++[x]++[y]++[z]).length=l.length+1+1+1:=by simp
 rw [←h]; exact List.getElem?_concat_length
theorem set_r1 {l:List Blk} (x y z w v:Blk):(l++[x]++[y]++[z]++[w]).set l.length v=l++[v]++[y]++[z]++[w]:=by
 rw [List.set_append_left _ _ (by simp),set_q1]
theorem set_r4 {l:List Blk} (x y z w v:Blk):(l++[x]++[y]++[z]++[w]).set (l.length+1+1+1) v=l++[x]++[y]++[z]++[v]:=by
 have h:(l++[x]++[y]++[z]).length=l.length+1+1+1:=by simp
 rw [←h,set_p0]
theorem q_le (a:A) {x y:A} (b:Bool) (h:le2 x y):le (.tup [a,x,.bool b]) (.tup [a,y,.bool b]):=⟨le2_refl _,h,le2_refl _,trivial⟩
theorem a_q32outs {l l9 qr:List UInt8} {e e9 qe:Int} {c:Nat} {qo:List Sf.Outp} {qb:Bool} (h9:Wire.cntR ⟨l,e⟩ 1=(⟨l9,e9⟩,c)) (hq:Sf.outsQ c ⟨l9,e9⟩ []=(⟨qr,qe⟩,qo,qb)) (hl:l.length≤100000000) (h:Hp) :
  ACall Tryz.prog GT 56 [.agg [.str l,.int .i64 e]] h fun v h'=>v = .tup [.agg [.str qr,.int .i64 qe],.sl 7 .no (qo.map Sf.Outp.cells),.bool qb]∧h'=h:=by
 refine pcall ?_ rfl (by simp [A.pure,A.data]) h
 refine fo ?_
 have b9:=Wire.cntR_rest ⟨l,e⟩ 1
 have bk:=Wire.cntR_cnt ⟨l,e⟩
 rw [h9] at b9 bk
 dsimp only at b9 bk
 have c9:=a_q4cnt h9 (by omega)
 refine runc0 ti (ai c9 ti) ?_
 refine awp_loop (fun mm ts h=>∃ (j:Nat) (lp:List UInt8) (ep:Int) (os:List Sf.Outp) (W:Nat) (o:Own) (bl:List Blk) (t:List (TypeId×Nat×Nat)),mm=c - j∧j≤c ∧
  h=⟨.cells 54 [.str lp,.int .i64 ep] :: .cells 54 [.str [],.int .i64 0]::bl,t⟩ ∧
  Sf.outsQ (c - j) ⟨lp,ep⟩ os=(⟨qr,qe⟩,qo,qb)∧os.length=j∧lp.length≤l9.length∧Gs 67 7 0 ⟨[],t⟩ (os.map Sf.Outp.cells) (.sl W o (os.map Sf.Outp.cells)) ∧
  (ts 1 = .ptr 0 0∧ts 2 = .ptr 1 0∧ts 5 = .sl W o (os.map Sf.Outp.cells)∧ts 6 = .int .i64 (c:Nat)∧ts 7 = .int .i64 (j:Nat))) c ?_ ?_
 ·exact ⟨0,l9,e9,[],0,.nil,[],[],by omega,by omega,rfl,hq,rfl,Nat.le_refl _,.inl ⟨rfl,rfl⟩,by (exact inv0 ti)⟩
 clear h9 c9 hq
 rintro mm ts h ⟨j,lp,ep,os,W,o,bl,t,rfl,hjc,rfl,hit,hdl,hpl,gX,ht⟩
 by_cases hj:j < c
 rotate_left
 ·have hlt:¬ ((j:Int) < (c:Int)):=by omega
  rw [show c - j=0 by omega,Sf.outsQ] at hit
  injection hit with q1 q2; injection q1 with q0 q1; injection q2 with q2 q3
  subst q0; subst q1; subst q2; subst q3
  refine runx0 (ai ht hlt) ti ?_
  exact ⟨_,q_le _ _ (Gs.le gX),rfl⟩
 have hlt:(j:Int) < (c:Int):=by omega
 have ei:IntKind.i64.wrap ((j:Int)+1)=((j+1:Nat):Int):=by rw [wrap64 (by omega) (by omega)]; omega
 rw [show c - j=(c - (j+1))+1 by omega] at hit
 unfold Sf.outsQ at hit
 by_cases he:ep=0
 rotate_left
 ·have he':(ep == 0)=false:=by simp [he]
  rw [if_pos he] at hit
  injection hit with q1 q2; injection q1 with q0 q1; injection q2 with q2 q3
  subst q0; subst q1; subst q2; subst q3
  refine runx0 (ai ht (ai hlt he')) ti ?_
  exact ⟨_,q_le _ _ (Gs.le gX),rfl⟩
 have he':(ep == 0)=true:=by simp [he]
 rw [if_neg (show ¬ (ep≠0) by simp [he])] at hit
 obtain ⟨⟨⟨l1,e1⟩,x1⟩,h1⟩:∃ q,Wire.strR ⟨lp,ep⟩=q:=⟨_,rfl⟩
 have b1:=Wire.strR_rest ⟨lp,ep⟩
 rw [h1] at b1
 obtain ⟨⟨⟨l5,e5⟩,z,xv⟩,h5⟩:∃ q,Val.readValue ⟨l1,e1⟩=q:=⟨_,rfl⟩
 have b5:=Val.readValue_le ⟨l1,e1⟩
 rw [h5] at b5
 dsimp only at b1 b5
 have c1:=a_q4str h1 (by omega)
 have c5:=a_q32value h5 (by omega)
 simp only [h1,h5] at hit
 by_cases hz:z=0
 rotate_left
 ·have z1:(z != 0)=true:=by simp [hz]
  rw [if_neg hz,zeroV_A] at c5
  rw [if_pos hz] at hit
  injection hit with q1 q2; injection q1 with q0 q1; injection q2 with q2 q3
  subst q0; subst q1; subst q2; subst q3
  refine runc0 (ai ht (ai hlt (ai he' z1))) (ai c1 (ai c5 ti)) ?_
  exact ⟨_,q_le _ (y:=.sl 7 .no []) _ ⟨rfl,.inr rfl,.inl rfl⟩,rfl⟩
 subst hz
 rw [if_pos rfl] at c5
 rw [if_neg (show ¬ ((0:Int)≠0) by decide)] at hit
 obtain ⟨vk,vn,vs,vi,vy⟩:=xv
 simp only [V.A,V.cells] at c5
 obtain ⟨⟨⟨l7,e7⟩,x7,o7⟩,h7⟩:∃ q,Sf.flagQ ⟨l5,e5⟩=q:=⟨_,rfl⟩
 have b7:=flagQ_rest ⟨l5,e5⟩
 rw [h7] at b7
 dsimp only at b7
 have c7:=a_q32flag h7 (by omega)
 simp only [h7] at hit
 cases o7 with
 | false =>
  rw [if_pos rfl] at hit
  injection hit with q1 q2; injection q1 with q0 q1; injection q2 with q2 q3
  subst q0; subst q1; subst q2; subst q3
  refine runc0 (ai ht (ai hlt (ai he' (ai @get_r1 (ai @get_r4 (ai @set_r1 @set_r4)))))) (ai c1 (ai c5 (ai c7 ti))) ?_
  exact ⟨_,q_le _ (y:=.sl 7 .no []) _ ⟨rfl,.inr rfl,.inl rfl⟩,rfl⟩
 | true =>
  rw [if_neg (by decide)] at hit
  obtain ⟨W',o',t',hX,gX',_⟩:=gX.grow 104 (Sf.Outp.cells ⟨x1,.mk vk vn vs vi vy,x7⟩) (by rw [List.length_map]; omega) (by decide)
  have em:os.map Sf.Outp.cells++[Sf.Outp.cells ⟨x1,.mk vk vn vs vi vy,x7⟩]=(os++[(⟨x1,.mk vk vn vs vi vy,x7⟩:Sf.Outp)]).map Sf.Outp.cells:=by simp
  rw [em] at gX'
  simp only [em] at hX
  obtain ⟨os2,hos⟩:∃ q,os++[(⟨x1,.mk vk vn vs vi vy,x7⟩:Sf.Outp)]=q:=⟨_,rfl⟩
  have hol:os2.length=j+1:=by rw [←hos]; simp [hdl]
  rw [hos] at gX' hX hit
  simp only [Sf.Outp.cells,V.cells,List.cons_append,List.nil_append] at hX
  clear hos em
  refine runc0 (ai ht (ai hlt (ai he' (ai hX (ai ei (ai @get_r1 (ai @get_r4 (ai @set_r1 @set_r4)))))))) (ai c1 (ai c5 (ai c7 ti))) ?_
  exact ⟨c - (j+1),by omega,j+1,l7,e7,os2,W',o',_,t',rfl,by omega,rfl,hit,hol,by omega,gX',by (exact inv0 (ai ht ei))⟩
end AX
end Go.Proofs.YtdgcbckcameggaaGreatDoor

namespace Go.Proofs.YtdgcbckcameggaaGreatDoor
open Go.RowKit
namespace AX
theorem zst_le:leL [.str [],.int .i64 0,.sl 0 .nil [],.sl 0 .nil [],.sl 0 .nil []] [.str [],.int .i64 0,.sl 13 .no [],.sl 3 .no [],.sl 7 .no []]:=⟨le1_refl _,le1_refl _,⟨rfl,.inr rfl,.inl rfl⟩,⟨rfl,.inr rfl,.inl rfl⟩,⟨rfl,.inr rfl,.inl rfl⟩,trivial⟩
theorem zst_le2 (b:Bool):le (.tup [.agg [.str [],.int .i64 0,.sl 0 .nil [],.sl 0 .nil [],.sl 0 .nil []],.bool b]) (.tup [Sf.zero.A,.bool b]):=⟨zst_le,le2_refl _,trivial⟩
theorem jver_le2 (l:List UInt8):(Crc.ver l).1.length≤l.length:=by
 unfold Crc.ver
 split
 ·simp
 ·split
  ·simp only [List.length_take]; omega
  ·simp
theorem a_q32state (ver:Int) (hver:ver=1∨ver=2) {l:List UInt8} {e:Int} {qs:Sf.St} {qb:Bool} (hq:Sf.stateQ ver ⟨l,e⟩=(qs,qb)) (hl:l.length≤2000000) (h:Hp) :
  ACall Tryz.prog GT 24 [.agg [.str l,.int .i64 e],.int .i64 ver] h fun v h'=>v = .tup [qs.A,.bool qb]∧h'=h:=by
 refine pcall ?_ rfl (by simp [A.pure,A.data]) h
 refine fo ?_
 obtain ⟨⟨⟨l1,e1⟩,x1⟩,h1⟩:∃ q,Wire.strR ⟨l,e⟩=q:=⟨_,rfl⟩
 have b1:=Wire.strR_rest ⟨l,e⟩
 have lx1:=Sf.strS_len ⟨⟨l,e⟩,false⟩
 have lx1e:(Sf.strS ⟨⟨l,e⟩,false⟩).2=(Wire.strR ⟨l,e⟩).2:=rfl
 rw [lx1e] at lx1
 rw [h1] at b1 lx1
 obtain ⟨⟨⟨l2,e2⟩,x2⟩,h2⟩:∃ q,Wire.numR ⟨l1,e1⟩=q:=⟨_,rfl⟩
 have b2:=Wire.numR_rest ⟨l1,e1⟩
 rw [h2] at b2
 obtain ⟨⟨⟨l3,e3⟩,c3⟩,h3⟩:∃ q,Wire.cntR ⟨l2,e2⟩ 1=q:=⟨_,rfl⟩
 have b3:=Wire.cntR_rest ⟨l2,e2⟩ 1
 have k3:=Wire.cntR_cnt ⟨l2,e2⟩
 rw [h3] at b3 k3
 dsimp only at b1 b2 b3 k3 lx1
 have c1:=a_q4str h1 (by omega)
 have c2:=a_q4num h2 (by omega)
 have c3':=a_q4cnt h3 (by omega)
 unfold Sf.stateQ at hq
 simp only [h1,h2,h3] at hq
 obtain ⟨R,hR⟩:∃ R,Sf.instsQ ver c3 ⟨l3,e3⟩ []=R:=⟨_,rfl⟩
 rw [hR] at hq
 refine runc0 ti (ai c1 (ai c2 (ai c3' ti))) ?_
 refine awp_loop (fun mm ts h=>∃ (j:Nat) (lp:List UInt8) (ep:Int) (xs:List Sf.Inst) (W:Nat) (o:Own) (bl:List Blk) (t:List (TypeId×Nat×Nat)),mm=c3 - j∧j≤c3 ∧
  h=⟨.cells 54 [.str lp,.int .i64 ep] :: .cells 27 [.str [],.int .i64 0,.sl 0 .nil [],.sl 0 .nil [],.sl 0 .nil []] :: .cells 27 [.str x1,.int .i64 x2,.sl W o (xs.map Sf.Inst.cells),.sl 0 .nil [],.sl 0 .nil []]::bl,t⟩ ∧
  Sf.instsQ ver (c3 - j) ⟨lp,ep⟩ xs=R∧xs.length=j∧(∀ x∈xs,Sf.InstT x)∧lp.length≤l3.length∧Gs 63 13 0 ⟨[],t⟩ (xs.map Sf.Inst.cells) (.sl W o (xs.map Sf.Inst.cells)) ∧
  (ts 1 = .int .i64 ver∧ts 2 = .ptr 0 0∧ts 4 = .ptr 1 0∧ts 6 = .ptr 2 0∧ts 7 = .int .i64 (c3:Nat)∧ts 8 = .int .i64 (j:Nat))) c3 ?_ ?_
 ·exact ⟨0,l3,e3,[],0,.nil,[],[],by omega,by omega,rfl,hR,rfl,by simp,Nat.le_refl _,.inl ⟨rfl,rfl⟩,by (exact inv0 ti)⟩
 clear h1 h2 h3 c1 c2 c3' hR
 rintro mm ts h ⟨j,lp,ep,xs,W,o,bl,t,rfl,hjc,rfl,hit,hdl,hxs,hpl,gX,ht⟩
 by_cases hj:j < c3
 ·have hlt:(j:Int) < (c3:Int):=by omega
  have ei:IntKind.i64.wrap ((j:Int)+1)=((j+1:Nat):Int):=by rw [wrap64 (by omega) (by omega)]; omega
  rw [show c3 - j=(c3 - (j+1))+1 by omega] at hit
  unfold Sf.instsQ at hit
  have hin:=Sf.instQ_in ver hver ⟨lp,ep⟩
  obtain ⟨⟨⟨l4,e4⟩,x4,o4⟩,h4⟩:∃ q,Sf.instQ ver ⟨lp,ep⟩=q:=⟨_,rfl⟩
  have c4:=a_q32inst ver h4 (by omega)
  rw [h4] at hit hin
  dsimp only at hit hin
  cases o4 with
  | false =>
   rw [if_pos rfl] at hit
   subst hit
   dsimp only at hq
   injection hq with q1 q2
   subst q1; subst q2
   have hzc:Sf.Inst.cells x4=Sf.Inst.cells x4:=rfl
   obtain ⟨a1,a2,a3,a4,⟨k,nn,ss,is,ks⟩,v,tn,fi,ds⟩:=x4
   simp only [Sf.Inst.cells] at c4
   refine runc0 (ai ht hlt) (ai c4 ti) ?_
   exact ⟨_,zst_le2 _,rfl⟩
  | true =>
   rw [if_neg (by decide)] at hit
   obtain ⟨hi1,hi2⟩:=hin rfl (by omega)
   obtain ⟨W',o',t',hX,gX',_⟩:=gX.grow 184 (Sf.Inst.cells x4) (by rw [List.length_map]; omega) (by decide)
   have em:xs.map Sf.Inst.cells++[Sf.Inst.cells x4]=(xs++[x4]).map Sf.Inst.cells:=by simp
   rw [em] at gX'
   simp only [em] at hX
   obtain ⟨xs2,hos⟩:∃ q,xs++[x4]=q:=⟨_,rfl⟩
   have hol:xs2.length=j+1:=by rw [←hos]; simp [hdl]
   have hxs2:∀ x∈xs2,Sf.InstT x:=fun x hx=>by
    rw [←hos] at hx
    rcases List.mem_append.1 hx with hx | hx
    ·exact hxs x hx
    ·rw [List.mem_singleton.1 hx]; exact hi1
   rw [hos] at gX' hX hit
   clear hos em hi1 hin h4
   obtain ⟨a1,a2,a3,a4,⟨k,nn,ss,is,ks⟩,v,tn,fi,ds⟩:=x4
   simp only [Sf.Inst.cells] at c4 hX
   refine runc0 (ai ht (ai hlt (ai hX ei))) (ai c4 ti) ?_
   exact ⟨c3 - (j+1),by omega,j+1,l4,e4,xs2,W',o',_,t',rfl,by omega,rfl,hit,hol,hxs2,by omega,gX',by (exact inv0 (ai ht ei))⟩
 have hxl:xs.length≤2000000:=by omega
 have hlt:¬ ((j:Int) < (c3:Int)):=by omega
 rw [show c3 - j=0 by omega,Sf.instsQ] at hit
 subst hit
 dsimp only at hq
 obtain ⟨⟨⟨lp2,ep2⟩,ps⟩,hps⟩:∃ q,(if ver≥2 then Sf.pendsQ (Wire.cntR ⟨lp,ep⟩ 1).2 (Wire.cntR ⟨lp,ep⟩ 1).1 [] else (⟨lp,ep⟩,[]))=q:=⟨_,rfl⟩
 rw [hps] at hq
 dsimp only at hq
 refine runc0 (ai ht hlt) ti ?_
 refine awp_join (fun ts' h'=>∃ (W2:Nat) (o2:Own) (bl2:List Blk) (t2:List (TypeId×Nat×Nat)),h'=⟨.cells 54 [.str lp2,.int .i64 ep2] :: .cells 27 [.str [],.int .i64 0,.sl 0 .nil [],.sl 0 .nil [],.sl 0 .nil []] :: .cells 27 [.str x1,.int .i64 x2,.sl W o (xs.map Sf.Inst.cells),.sl W2 o2 (ps.map Sf.Pend.cells),.sl 0 .nil []]::bl2,t2⟩ ∧
  Gs 63 13 0 ⟨[],t2⟩ (xs.map Sf.Inst.cells) (.sl W o (xs.map Sf.Inst.cells))∧Gs 65 3 0 ⟨[],t2⟩ (ps.map Sf.Pend.cells) (.sl W2 o2 (ps.map Sf.Pend.cells))∧lp2.length≤lp.length∧(∀ x∈ps,Sf.PendT x)∧ps.length≤2000000 ∧
  (ts' 2 = .ptr 0 0∧ts' 4 = .ptr 1 0∧ts' 6 = .ptr 2 0)) ?_ ?_
 ·by_cases hv:ver≥2
  rotate_left
  ·rw [if_neg hv] at hps
   injection hps with q1 q2; injection q1 with q0 q1
   subst q0; subst q1; subst q2
   refine runc0 (ai ht hv) ti ?_
   exact ⟨0,.nil,bl,t,rfl,gX,.inl ⟨rfl,rfl⟩,Nat.le_refl _,by simp,by simp,by (exact inv0 ht)⟩
  rw [if_pos hv] at hps
  obtain ⟨⟨⟨l5,e5⟩,c5⟩,h5⟩:∃ q,Wire.cntR ⟨lp,ep⟩ 1=q:=⟨_,rfl⟩
  have b5:=Wire.cntR_rest ⟨lp,ep⟩ 1
  have k5:=Wire.cntR_cnt ⟨lp,ep⟩
  rw [h5] at b5 k5 hps
  dsimp only at b5 k5 hps
  have cc5:=a_q4cnt h5 (by omega)
  refine runc0 (ai ht hv) (ai cc5 ti) ?_
  refine awp_loop (fun mm ts h=>∃ (j:Nat) (lq:List UInt8) (eq:Int) (pp:List Sf.Pend) (W2:Nat) (o2:Own) (bl:List Blk) (t:List (TypeId×Nat×Nat)),mm=c5 - j∧j≤c5 ∧
   h=⟨.cells 54 [.str lq,.int .i64 eq] :: .cells 27 [.str [],.int .i64 0,.sl 0 .nil [],.sl 0 .nil [],.sl 0 .nil []] :: .cells 27 [.str x1,.int .i64 x2,.sl W o (xs.map Sf.Inst.cells),.sl W2 o2 (pp.map Sf.Pend.cells),.sl 0 .nil []]::bl,t⟩ ∧
   Sf.pendsQ (c5 - j) ⟨lq,eq⟩ pp=(⟨lp2,ep2⟩,ps)∧pp.length=j∧(∀ x∈pp,Sf.PendT x)∧lq.length≤l5.length∧Gs 63 13 0 ⟨[],t⟩ (xs.map Sf.Inst.cells) (.sl W o (xs.map Sf.Inst.cells))∧Gs 65 3 0 ⟨[],t⟩ (pp.map Sf.Pend.cells) (.sl W2 o2 (pp.map Sf.Pend.cells)) ∧
   (ts 2 = .ptr 0 0∧ts 4 = .ptr 1 0∧ts 6 = .ptr 2 0∧ts 7 = .int .i64 (c5:Nat)∧ts 12 = .int .i64 (j:Nat))) c5 ?_ ?_
  ·exact ⟨0,l5,e5,[],0,.nil,bl,t,by omega,by omega,rfl,hps,rfl,by simp,Nat.le_refl _,gX,.inl ⟨rfl,rfl⟩,by (exact inv0 ht)⟩
  clear ht h5 cc5 gX hlt hjc
  clear hps bl t ts
  rintro mm ts h ⟨j2,lq,eq,pp,W2,o2,bl,t,rfl,hjc,rfl,hit,hdl2,hpp,hpl2,gX,gY,ht⟩
  by_cases hj2:j2 < c5
  rotate_left
  ·have hlt:¬ ((j2:Int) < (c5:Int)):=by omega
   rw [show c5 - j2=0 by omega,Sf.pendsQ] at hit
   injection hit with q1 q2; injection q1 with q0 q1
   subst q0; subst q1; subst q2
   refine runx0 (ai ht hlt) ti ?_
   exact ⟨W2,o2,bl,t,rfl,gX,gY,by omega,hpp,by omega,by (exact inv0 ht)⟩
  have hlt:(j2:Int) < (c5:Int):=by omega
  have ei:IntKind.i64.wrap ((j2:Int)+1)=((j2+1:Nat):Int):=by rw [wrap64 (by omega) (by omega)]; omega
  rw [show c5 - j2=(c5 - (j2+1))+1 by omega] at hit
  unfold Sf.pendsQ at hit
  by_cases he:eq=0
  rotate_left
  ·have he':(eq == 0)=false:=by simp [he]
   rw [if_pos he] at hit
   injection hit with q1 q2; injection q1 with q0 q1
   subst q0; subst q1; subst q2
   refine runx0 (ai ht (ai hlt he')) ti ?_
   exact ⟨W2,o2,bl,t,rfl,gX,gY,by omega,hpp,by omega,by (exact inv0 ht)⟩
  have he':(eq == 0)=true:=by simp [he]
  rw [if_neg (show ¬ (eq≠0) by simp [he])] at hit
  have hpi:=Sf.pendQ_in ⟨lq,eq⟩ (by dsimp only; omega)
  obtain ⟨⟨⟨m1,f1⟩,y1⟩,g1⟩:∃ q,Wire.strR ⟨lq,eq⟩=q:=⟨_,rfl⟩
  have r1:=Wire.strR_rest ⟨lq,eq⟩
  rw [g1] at r1
  obtain ⟨⟨⟨m2,f2⟩,y2⟩,g2⟩:∃ q,Wire.strR ⟨m1,f1⟩=q:=⟨_,rfl⟩
  have r2:=Wire.strR_rest ⟨m1,f1⟩
  rw [g2] at r2
  obtain ⟨⟨⟨m3,f3⟩,y3⟩,g3⟩:∃ q,Wire.strR ⟨m2,f2⟩=q:=⟨_,rfl⟩
  have r3:=Wire.strR_rest ⟨m2,f2⟩
  rw [g3] at r3
  dsimp only at r1 r2 r3
  have d1:=a_q4str g1 (by omega)
  have d2:=a_q4str g2 (by omega)
  have d3:=a_q4str g3 (by omega)
  have hpq:Sf.pendQ ⟨lq,eq⟩=(⟨m3,f3⟩,⟨y1,y2,y3⟩):=by unfold Sf.pendQ; simp only [g1,g2,g3]
  rw [hpq] at hit hpi
  dsimp only at hit hpi
  obtain ⟨W2',o2',t',hX,gY',kY⟩:=gY.grow 48 (Sf.Pend.cells ⟨y1,y2,y3⟩) (by rw [List.length_map]; omega) (by decide)
  have gX':=kY _ _ _ _ (by decide) gX
  have em:pp.map Sf.Pend.cells++[Sf.Pend.cells ⟨y1,y2,y3⟩]=(pp++[(⟨y1,y2,y3⟩:Sf.Pend)]).map Sf.Pend.cells:=by simp
  rw [em] at gY'
  simp only [em] at hX
  obtain ⟨pp2,hos⟩:∃ q,pp++[(⟨y1,y2,y3⟩:Sf.Pend)]=q:=⟨_,rfl⟩
  have hol:pp2.length=j2+1:=by rw [←hos]; simp [hdl2]
  have hpp2:∀ x∈pp2,Sf.PendT x:=fun x hx=>by
   rw [←hos] at hx
   rcases List.mem_append.1 hx with hx | hx
   ·exact hpp x hx
   ·rw [List.mem_singleton.1 hx]; exact hpi.1
  rw [hos] at gY' hX hit
  clear hos em hpi hpq g1 g2 g3
  simp only [Sf.Pend.cells] at hX
  refine runc0 (ai ht (ai hlt (ai he' (ai hX ei)))) (ai d1 (ai d2 (ai d3 ti))) ?_
  exact ⟨c5 - (j2+1),by omega,j2+1,m3,f3,pp2,W2',o2',_,t',rfl,by omega,rfl,hit,hol,hpp2,by omega,gX',gY',by (exact inv0 (ai ht ei))⟩
 clear ht gX hlt hjc hps
 rintro ts' h' ⟨W2,o2,bl2,t2,rfl,gX,gY,hl2,hpp,hpn,ht⟩
 obtain ⟨⟨⟨l6,e6⟩,c6⟩,h6⟩:∃ q,Wire.cntR ⟨lp2,ep2⟩ 1=q:=⟨_,rfl⟩
 have b6:=Wire.cntR_rest ⟨lp2,ep2⟩ 1
 have k6:=Wire.cntR_cnt ⟨lp2,ep2⟩
 rw [h6] at b6 k6 hq
 dsimp only at b6 k6 hq
 have hoi:=Sf.outsQ_in c6 ⟨l6,e6⟩ [] (by dsimp only; omega) (by simp)
 obtain ⟨⟨⟨l7,e7⟩,os,ob⟩,h7⟩:∃ q,Sf.outsQ c6 ⟨l6,e6⟩ []=q:=⟨_,rfl⟩
 have cO:=a_q32outs h6 h7 (by omega)
 rw [h7] at hq hoi
 dsimp only at hq hoi
 have hin:Sf.StIn ⟨x1,x2,xs,ps,os⟩:=⟨by dsimp only; omega,fun x hx=>(hxs x hx).1,fun x hx=>⟨(hpp x hx).1,(hpp x hx).2.1⟩,fun x hx=>hoi.1 x hx,by dsimp only; omega,by dsimp only; omega,by have:=hoi.2.1; rw [List.length_nil] at this; dsimp only; omega⟩
 have htp:Sf.TypIn ⟨x1,x2,xs,ps,os⟩:=⟨fun x hx=>(hxs x hx).2,fun x hx=>(hpp x hx).2.2⟩
 have cC:∀ h,ACall Tryz.prog GT 58 [.agg [.str x1,.int .i64 x2,.sl W o (xs.map Sf.Inst.cells),.sl W2 o2 (ps.map Sf.Pend.cells),.sl 7 .no (os.map Sf.Outp.cells)]] h fun v h'=>v = .int .i64 (Sf.checkZ ⟨x1,x2,xs,ps,os⟩)∧h'=h:=fun h=>ACall.args (as':=[Sf.St.A ⟨x1,x2,xs,ps,os⟩]) ⟨⟨le1_refl _,le1_refl _,Gs.le gX,Gs.le gY,le1_refl _,trivial⟩,trivial⟩ (a_r31check ⟨x1,x2,xs,ps,os⟩ hin htp h)
 have done:∀ b:Bool,le (.tup [.agg [.str x1,.int .i64 x2,.sl W o (xs.map Sf.Inst.cells),.sl W2 o2 (ps.map Sf.Pend.cells),.sl 7 .no (os.map Sf.Outp.cells)],.bool b]) (.tup [Sf.St.A ⟨x1,x2,xs,ps,os⟩,.bool b]):=fun b=>⟨⟨le1_refl _,le1_refl _,Gs.le gX,Gs.le gY,le1_refl _,trivial⟩,le2_refl _,trivial⟩
 have cF:=fun h=>a_q4left (l:=l7) (e:=e7) h
 obtain ⟨Z,hZ⟩:∃ Z,Sf.checkZ ⟨x1,x2,xs,ps,os⟩=Z:=⟨_,rfl⟩
 rw [hZ] at hq cC
 injection hq with q1 q2
 subst q1; subst q2
 clear hin htp hoi h6 h7 hZ
 cases ob with
 | false =>
  refine runc0 ht (ai cO ti) ?_
  exact ⟨_,done _,rfl⟩
 | true =>
  by_cases hlen:l7.length=0
  rotate_left
  ·have hn:((l7.length:Int) == 0)=false:=beq_eq_false_iff_ne.2 (by omega)
   have hn2:(l7.length == 0)=false:=by simpa using hlen
   rw [hn2]
   refine runc0 (ai ht hn) (ai cO (ai cF ti)) ?_
   exact ⟨_,done _,rfl⟩
  have hn:((l7.length:Int) == 0)=true:=beq_iff_eq.2 (by omega)
  have hn2:(l7.length == 0)=true:=by simpa using hlen
  rw [hn2]
  refine runc0 (ai ht hn) (ai cO (ai cF (ai cC ti))) ?_
  exact ⟨_,done _,rfl⟩
theorem a_q32decode (s:List UInt8) (hs:s.length≤2000000) (h:Hp):ACall Tryz.prog GT 6 [.str s] h fun v h'=>v = .tup [(Sf.decode s).1.A,.int .i64 (Sf.decode s).2]∧h'=h:=by
 rw [←Sf.decode_agree]
 refine pcall ?_ rfl (by simp [A.pure,A.data]) h
 refine fo ?_
 obtain ⟨D,hD⟩:∃ D,Sf.decodeQ s=D:=⟨_,rfl⟩
 rw [hD]
 unfold Sf.decodeQ at hD
 have hz:∀ e:Int,le (.tup [.agg [.str [],.int .i64 0,.sl 0 .nil [],.sl 0 .nil [],.sl 0 .nil []],.int .i64 e]) (.tup [Sf.zero.A,.int .i64 e]):=fun e=>⟨zst_le,le2_refl _,trivial⟩
 have h04:(0:Int)≤4:=by decide
 have h4:(4:Int).toNat=4:=rfl
 have hP:preB s=(decide (4≤s.length)&&s.take 4 == [80,86,83,84]):=rfl
 by_cases hl:(s.length:Int) > 1048576
 ·rw [if_pos (by omega)] at hD
  subst hD
  refine runc0 hl ti ?_
  exact ⟨_,hz _,rfl⟩
 rw [if_neg (by omega)] at hD
 by_cases hl3:(s.length:Int) < 4
 ·have hp:preB s=false:=by rw [hP,decide_eq_false (by omega)]; rfl
  rw [if_pos hp] at hD
  subst hD
  refine runc0 (ai hl hl3) ti ?_
  exact ⟨_,hz _,rfl⟩
 have hl4:(4:Int)≤(s.length:Int):=by omega
 by_cases hm:s.take 4=[80,86,83,84]
 rotate_left
 ·have hp:preB s=false:=by rw [hP]; simp [hm]
  have hm':(s.take 4 != [80,86,83,84])=true:=by simp [hm]
  rw [if_pos hp] at hD
  subst hD
  refine runc0 (ai hl (ai hl3 (ai hl4 (ai h04 (ai h4 hm'))))) ti ?_
  exact ⟨_,hz _,rfl⟩
 have hp:preB s=true:=by rw [hP,decide_eq_true (by omega),hm]; rfl
 have hm':(s.take 4 != [80,86,83,84])=false:=by simp [hm]
 rw [if_neg (by rw [hp]; decide)] at hD
 have hvl:=jver_le2 s
 have cv:=a_q3ver (l:=s) (by omega)
 obtain ⟨⟨b,e⟩,hv⟩:∃ q,Crc.ver s=q:=⟨_,rfl⟩
 rw [hv] at hD hvl cv
 dsimp only at hD hvl cv
 by_cases he:e=0
 rotate_left
 ·have e1:(e != 0)=true:=by simp [he]
  rw [if_pos he] at hD
  subst hD
  refine runc0 (ai hl (ai hl3 (ai hl4 (ai h04 (ai h4 (ai hm' e1)))))) (ai cv ti) ?_
  exact ⟨_,hz _,rfl⟩
 have e1:(e != 0)=false:=by simp [he]
 rw [if_neg (by simp [he])] at hD
 have cn:=a_q32version b (by omega)
 have h12:=Sf.version_one b
 have hVb:versionS b=if preB b=false then (0,2) else if (Wire.numR ⟨b.drop 4,0⟩).1.e≠0 then (0,2) else if (Wire.numR ⟨b.drop 4,0⟩).2≠1∧(Wire.numR ⟨b.drop 4,0⟩).2≠2 then (0,21) else ((Wire.numR ⟨b.drop 4,0⟩).2,0):=rfl
 obtain ⟨⟨n,e2⟩,hn⟩:∃ q,versionS b=q:=⟨_,rfl⟩
 rw [hn] at hD h12 cn hVb
 dsimp only at hD h12 cn
 by_cases he2:e2=0
 rotate_left
 ·have e3:(e2 != 0)=true:=by simp [he2]
  rw [if_pos he2] at hD
  subst hD
  refine runc0 (ai hl (ai hl3 (ai hl4 (ai h04 (ai h4 (ai hm' (ai e1 e3))))))) (ai cv (ai cn ti)) ?_
  exact ⟨_,hz _,rfl⟩
 have e3:(e2 != 0)=false:=by simp [he2]
 rw [if_neg (by simp [he2])] at hD
 have hb4:4≤b.length:=by
  by_cases hp4:preB b=false
  ·rw [if_pos hp4] at hVb
   injection hVb with _ hVb
   omega
  ·have hp5:preB b=true:=by simpa using hp4
   have hPb:preB b=(decide (4≤b.length)&&b.take 4 == [80,86,83,84]):=rfl
   rw [hPb,Bool.and_eq_true,decide_eq_true_eq] at hp5
   exact hp5.1
 have hb5:(4:Int)≤(b.length:Int):=by omega
 clear hVb
 obtain ⟨⟨⟨l1,e4⟩,x1⟩,h1⟩:∃ q,Wire.numR ⟨b.drop 4,0⟩=q:=⟨_,rfl⟩
 have b1:=Wire.numR_rest ⟨b.drop 4,0⟩
 rw [h1] at b1 hD
 dsimp only at b1 hD
 rw [List.length_drop] at b1
 have c0:=a_refNew (b.drop 4)
 have c1:=a_q4num h1 (by rw [List.length_drop]; omega)
 obtain ⟨⟨qs,qb⟩,hq⟩:∃ q,Sf.stateQ n ⟨l1,e4⟩=q:=⟨_,rfl⟩
 have c2:=a_q32state n (h12 he2) hq (by omega)
 rw [hq] at hD
 dsimp only at hD
 obtain ⟨lin,ser,ins,ps,os⟩:=qs
 simp only [Sf.St.A] at c2
 cases qb with
 | false =>
  rw [if_pos rfl] at hD
  subst hD
  refine runc0 (ai hl (ai hl3 (ai hl4 (ai h04 (ai h4 (ai hm' (ai e1 (ai e3 hb5)))))))) (ai cv (ai cn (ai c0 (ai c1 (ai c2 ti))))) ?_
  exact ⟨_,hz _,rfl⟩
 | true =>
  rw [if_neg (by decide)] at hD
  subst hD
  refine runc0 (ai hl (ai hl3 (ai hl4 (ai h04 (ai h4 (ai hm' (ai e1 (ai e3 hb5)))))))) (ai cv (ai cn (ai c0 (ai c1 (ai c2 ti))))) ?_
  exact ⟨_,le_refl _,rfl⟩
end AX
structure Jr where
 kind:Int
 base:Sf.St
 step:Int
 op:Int
 addr:List UInt8
 dep:List UInt8
 typ:List UInt8
 tok:List UInt8
 err:Int
 after:Sf.Inst
namespace Jr
def shortB (l:List (List UInt8)):Bool:=l.all fun s=>decide ((s.length:Int)≤4096)
def zeroV:V→Bool
 | .mk k n s is ks=>k == 0&&n == 0&&s == []&&(is.length:Int) == 0&&(ks.length:Int) == 0
def noneB (x:Sf.Inst):Bool:=zeroV x.attrs&&x.addr == []&&x.dep == []&&x.id == []&&x.typ == []&&x.ver == 0&&!x.tainted&&!x.first&&(x.deps.length:Int) == 0
def emptyB (s:Sf.St):Bool:=s.lin == []&&s.ser == 0&&(s.insts.length:Int) == 0&&(s.pends.length:Int) == 0&&(s.outs.length:Int) == 0
def instB (x:Sf.Inst):Bool:=shortB [x.addr,x.dep,x.id,x.typ]&&shortB x.deps&&decide ((x.deps.length:Int)≤512)&&Val.checkZ x.attrs == 0&&decide (x.ver≥0)&&decide (x.ver≤9007199254740992)
def stepB (r:Jr):Bool:=decide (r.step≥0)&&decide (r.step < 2048)&&decide (r.op≥1)&&decide (r.op≤4)&&shortB [r.addr,r.dep,r.typ]
def bareB (r:Jr):Bool:=r.step == 0&&r.op == 0&&r.addr == []&&r.dep == []&&r.typ == []
def makesB (op:Int):Bool:=op == 1||op == 2
def afterB (r:Jr):Bool:=noneB r.after||makesB r.op&&instB r.after
def badB (r:Jr):Bool:=r.kind != 1&&!emptyB r.base||r.kind != 2&&r.tok != []||r.kind != 4&&r.err != 0
def validB (r:Jr):Bool:=
 if badB r=true then false
 else if r.kind=1∨r.kind=5 then bareB r&&noneB r.after
 else if r.kind=2 then stepB r&&noneB r.after&&shortB [r.tok]&&(r.op == 1||r.tok == [])
 else if r.kind=3 then stepB r&&afterB r
 else if r.kind=4 then stepB r&&afterB r&&decide (r.err≥1)&&decide (r.err≤42)
 else false
def cells (r:Jr):List AX.A:=
 [.int .i64 r.kind,.str r.base.lin,.int .i64 r.base.ser,.sl 13 .no (r.base.insts.map Sf.Inst.cells),.sl 3 .no (r.base.pends.map Sf.Pend.cells),.sl 7 .no (r.base.outs.map Sf.Outp.cells),.int .i64 r.step,.int .i64 r.op,.str r.addr,.str r.dep,.str r.typ,.str r.tok,.int .i64 r.err]++Sf.Inst.cells r.after
end Jr
namespace AX
theorem rowj_at {α:Type} (f:α→List A) (l:List α) (i:Nat) (h:i < l.length) (hl:l.length≤4611686018427387904) :
  (l.map f).length=l.length∧(i:Int) < (l.length:Int)∧(0:Int)≤(i:Int)∧(l.map f).getD i []=f l[i]∧IntKind.i64.wrap ((i:Int)+1)=((i+1:Nat):Int):=
 ⟨List.length_map _,by omega,by omega,by simp [List.getD,h],by rw [wrap64 (by omega) (by omega)]; omega⟩
theorem rowj_end {α:Type} (f:α→List A) (l:List α) (i:Nat) (h:l.length≤i):(l.map f).length=l.length∧¬ (i:Int) < (l.length:Int):=⟨List.length_map _,by omega⟩
end AX
def gfind {α:Type} (n:Int):List (Int×α)→Option α
 | []=>none
 | (k,x)::l=>if n=k then some x else gfind n l
def gput {α:Type} (n:Int) (x:α):List (Int×α)→List (Int×α)
 | []=>[(n,x)]
 | (k,y)::l=>if n=k then (n,x)::l else (k,y)::gput n x l
section
variable {α:Type} (f:α→AX.A) (n:Int)
end
structure Fo where
 n:Int
 ended:Bool
 ints:List (Int×Jr)
 ress:List (Int×Bool)
 c1:Nat
 c2:Nat
namespace Fo
def next (f:Fo) (r:Jr):Bool×Fo:=
 let f1:Fo:={ f with n:=IntKind.i64.wrap (f.n+1) }
 if (f.ended||!((f.n == 0) == (r.kind == 1)))=true then (false,f1)
 else if r.kind=2 then (!(gfind r.step f.ints).isSome,{ f1 with ints:=gput r.step r f.ints,c1:=if (gfind r.step f.ints).isSome=true then f.c1 else f.c1+1 })
 else if r.kind=3∨r.kind=4 then
  ((match gfind r.step f.ints with
   | some i=>!((gfind r.step f.ress).getD false)&&i.op == r.op&&i.addr == r.addr&&i.typ == r.typ
   | none=>false),{ f1 with ress:=gput r.step true f.ress,c2:=if (gfind r.step f.ress).isSome=true then f.c2 else f.c2+1 })
 else if r.kind=5 then ((f.ints.length:Int) == (f.ress.length:Int),{ f1 with ended:=true })
 else (true,f1)
def check:Fo→List Jr→Int
 | _,[]=>0
 | f,r::l=>if (!r.validB||(r.kind == 1&&Sf.checkZ r.base != 0))=true then 1 else if (f.next r).1=true then check (f.next r).2 l else 38
end Fo
namespace Jr
end Jr
end Go.Proofs.YtdgcbckcameggaaGreatDoor

namespace Go.Proofs.YtdgcbckcameggaaGreatDoor
open Go.RowKit
namespace AX
theorem eqB_refl_:∀ v:V,Val.eqB v v=true:=by
 refine V.induct fun k n s is ks ih=>?_
 rw [Val.eqB]
 have:Val.eqBs is is=true:=by
  have key:∀ l:List V,(∀ x∈l,Val.eqB x x=true)→Val.eqBs l l=true:=by
   intro l
   induction l with
   | nil=>intro _; rw [Val.eqBs]
   | cons x l ihl =>
    intro hl
    rw [Val.eqBs,hl x (by simp),ihl fun y hy=>hl y (by simp [hy])]
    rfl
  exact key is ih
 simp [this]
namespace Sf
end Sf
theorem t_rEqual:∀ (v v':V),v.lens→v'.lens→∀ h,ACall Tryz.prog GT 27 [v.A,v'.A] h fun r h'=>r = .bool (Val.eqB v v')∧h'=h:=by
 refine V.induct fun k n s is ks ih=>?_
 rintro ⟨k',n',s',is',ks'⟩ hlen hlen' h
 refine pcall ?_ rfl (by simp [V.A,V.cells,A.pure,A.data]) h
 refine fo ?_
 obtain ⟨hil,hkl,_,hmem⟩:=V.lens_mk hlen
 obtain ⟨hil',hkl',_,hmem'⟩:=V.lens_mk hlen'
 have hE:Val.eqB (.mk k n s is ks) (.mk k' n' s' is' ks')=(k == k'&&n == n'&&s == s'&&ks == ks'&&Val.eqBs is is'):=by rw [Val.eqB]
 have hno:∀ b,b=false→Val.eqB (.mk k n s is ks) (.mk k' n' s' is' ks')=b→True:=fun _ _ _=>trivial
 by_cases h1:k=k'
 rotate_left
 ·have e1:(k != k')=true:=by simp [h1]
  refine go0 (ai @V_A (ai @V_cells e1)) ?_
  exact ⟨_,le_refl _,by rw [tupA_1,hE,beq_eq_false_iff_ne.2 h1]; rfl⟩
 have e1:(k != k')=false:=by simp [h1]
 by_cases h2:n=n'
 rotate_left
 ·have e2:(n != n')=true:=by simp [h2]
  refine go0 (ai @V_A (ai @V_cells (ai e1 e2))) ?_
  exact ⟨_,le_refl _,by rw [tupA_1,hE,beq_eq_false_iff_ne.2 h2]; simp⟩
 have e2:(n != n')=false:=by simp [h2]
 by_cases h3:s=s'
 rotate_left
 ·have e3:(s != s')=true:=by simp [h3]
  refine go0 (ai @V_A (ai @V_cells (ai e1 (ai e2 e3)))) ?_
  exact ⟨_,le_refl _,by rw [tupA_1,hE,beq_eq_false_iff_ne.2 h3]; simp⟩
 have e3:(s != s')=false:=by simp [h3]
 by_cases h4:is.length=is'.length
 rotate_left
 ·have e4:((is.length:Int) != (is'.length:Int))=true:=by simp; omega
  have hb:Val.eqBs is is'=false:=by rw [Bool.eq_false_iff]; exact fun e=>h4 (eqBs_len e)
  refine go0 (ai @V_A (ai @V_cells (ai e1 (ai e2 (ai e3 (ai @V.cellss_length e4)))))) ?_
  exact ⟨_,le_refl _,by rw [tupA_1,hE,hb]; simp⟩
 have e4:((is.length:Int) != (is'.length:Int))=false:=by simp [h4]
 by_cases h5:ks.length=ks'.length
 rotate_left
 ·have e5:((ks.length:Int) != (ks'.length:Int))=true:=by simp; omega
  have hb:(ks == ks')=false:=by rw [beq_eq_false_iff_ne]; rintro rfl; exact h5 rfl
  refine go0 (ai @V_A (ai @V_cells (ai e1 (ai e2 (ai e3 (ai @V.cellss_length (ai e4 (ai @strsA_length e5)))))))) ?_
  exact ⟨_,le_refl _,by rw [tupA_1,hE,hb]; simp⟩
 have e5:((ks.length:Int) != (ks'.length:Int))=false:=by simp [h5]
 have hE2:Val.eqB (.mk k n s is ks) (.mk k' n' s' is' ks')=(ks == ks'&&Val.eqBs is is'):=by rw [hE]; simp [h1,h2,h3]
 refine go0 (ai @V_A (ai @V_cells (ai e1 (ai e2 (ai e3 (ai @V.cellss_length (ai e4 (ai @strsA_length e5)))))))) ?_
 refine awp_loop (fun m ts hh=>hh=⟨[.cells 42 [.int .i64 k,.int .i64 n,.str s,.sl 5 .no (V.cellss is),.sl 1 .no (strsA ks)],.cells 42 [.int .i64 k',.int .i64 n',.str s',.sl 5 .no (V.cellss is'),.sl 1 .no (strsA ks')]],[]⟩∧∃ (i:Nat),m=ks.length - i∧i≤ks.length∧(ks.drop i == ks'.drop i)=(ks == ks')∧ts 2 = .ptr 0 0∧ts 3 = .ptr 1 0∧ts 5 = .int .i64 i) ks.length ?_ ?_
 ·refine ⟨rfl,0,rfl,Nat.zero_le _,rfl,?_⟩
  (exact inv0 @strsA_length)
 ·rintro m ts hh ⟨rfl,i,rfl,hi,heq,t2,t3,t5⟩
  by_cases hlt:i < ks.length
  ·have hla:(i:Int) < ((strsA ks).length:Int):=by rw [strsA_length]; omega
   have hlb:(i:Int) < ((strsA ks').length:Int):=by rw [strsA_length]; omega
   have ei:IntKind.i64.wrap ((i:Int)+1)=(i:Int)+1:=wrap64 (by omega) (by omega)
   have ea:=strsA_get ks i hlt
   have eb:=strsA_get ks' i (by omega)
   rw [List.drop_eq_getElem_cons hlt,List.drop_eq_getElem_cons (by omega:i < ks'.length)] at heq
   refine go0 (ai t2 (ai t3 (ai t5 hla))) ?_
   refine awp_quiet (by decide) ?_
   by_cases hc:ks[i]=ks'[i]
   ·have hc':(ks[i] != ks'[i])=false:=by simp [hc]
    refine go0 (ai t2 (ai t3 (ai t5 (ai hla (ai hlb (ai ea (ai eb (ai hc' ei)))))))) ?_
    refine ⟨ks.length - (i+1),by omega,rfl,i+1,rfl,by omega,?_,?_⟩
    ·rw [←heq,List.cons_beq_cons,hc,beq_self_eq_true,Bool.true_and]
    ·(exact inv0 (ai t2 (ai t3 (ai t5 ei))))
   ·have hc':(ks[i] != ks'[i])=true:=by simp [hc]
    refine go0 (ai t2 (ai t3 (ai t5 (ai hla (ai hlb (ai ea (ai eb (ai hc' ei)))))))) ?_
    exact ⟨_,le_refl _,by rw [tupA_1,hE2,←heq,List.cons_beq_cons,beq_eq_false_iff_ne.2 hc]; simp⟩
  ·have hla:¬ (i:Int) < ((strsA ks).length:Int):=by rw [strsA_length]; omega
   rw [List.drop_of_length_le (by omega),List.drop_of_length_le (by omega)] at heq
   have hE3:Val.eqB (.mk k n s is ks) (.mk k' n' s' is' ks')=Val.eqBs is is':=by rw [hE2,←heq]; simp
   refine go0 (ai t2 (ai t3 (ai t5 hla))) ?_
   refine awp_loop (fun m ts hh=>hh=⟨[.cells 42 [.int .i64 k,.int .i64 n,.str s,.sl 5 .no (V.cellss is),.sl 1 .no (strsA ks)],.cells 42 [.int .i64 k',.int .i64 n',.str s',.sl 5 .no (V.cellss is'),.sl 1 .no (strsA ks')]],[]⟩∧∃ (i:Nat),m=is.length - i∧i≤is.length∧Val.eqBs (is.drop i) (is'.drop i)=Val.eqBs is is'∧ts 2 = .ptr 0 0∧ts 3 = .ptr 1 0∧ts 6 = .int .i64 i) is.length ?_ ?_
   ·refine ⟨rfl,0,rfl,Nat.zero_le _,rfl,?_⟩
    (exact inv0 (ai @strsA_length (ai t2 t3)))
   ·clear heq
    rintro m ts hh ⟨rfl,i,rfl,hi,heq,t2,t3,t6⟩
    by_cases hlt:i < is.length
    ·have hla:(i:Int) < ((V.cellss is).length:Int):=by rw [V.cellss_length]; omega
     have hlb:(i:Int) < ((V.cellss is').length:Int):=by rw [V.cellss_length]; omega
     have ei:IntKind.i64.wrap ((i:Int)+1)=(i:Int)+1:=wrap64 (by omega) (by omega)
     have ea:=V.cellss_get is i hlt
     have eb:=V.cellss_get is' i (by omega)
     have hcall:=fun (h:Hp)=>ih is[i] (List.getElem_mem hlt) (is'[i]'(by omega)) (hmem _ (List.getElem_mem hlt)) (hmem' _ (List.getElem_mem (by omega))) h
     rw [List.drop_eq_getElem_cons hlt,List.drop_eq_getElem_cons (by omega:i < is'.length),Val.eqBs] at heq
     obtain ⟨⟨k1,n1,s1,is1,ks1⟩,hv⟩:∃ x,is[i]=x:=⟨_,rfl⟩
     obtain ⟨⟨k2,n2,s2,is2,ks2⟩,hv2⟩:∃ x,is'[i]'(by omega)=x:=⟨_,rfl⟩
     rw [hv] at ea hcall heq
     rw [hv2] at eb hcall heq
     simp only [V.A,V.cells] at hcall
     refine go0 (ai @V_cells (ai t2 (ai t3 (ai t6 hla)))) ?_
     refine awp_quiet (by decide) ?_
     refine go0 (ai @V_cells (ai t2 (ai t3 (ai t6 (ai hla (ai hlb (ai ea eb))))))) ?_
     refine gq_call (by simp only [put_app,put_none,init_app,evX_t,evX_c,resA_nil,resA_t,resA_c,tupA_0,tupA_1,tupA_2,astep,bop,uop,loadA,storeA,appA,ssliceA,eqA,eqCells,fillA,rowsA,setCells,A.cells,A.one,A.data,optP_some,List.all_cons,List.all_nil,Bool.and_true,Bool.true_and,Option.map_some,Option.map_none,Option.bind_some,Option.bind_none,Option.getD_some,Option.getD_none,List.map_cons,List.map_nil,List.getD_cons_zero,List.getD_cons_succ,List.getElem?_cons_zero,List.getElem?_cons_succ,List.length_cons,List.length_nil,List.nil_append,List.cons_append,List.append_nil,List.set_cons_zero,List.set_cons_succ,List.drop_zero,List.drop_succ_cons,List.take_succ_cons,List.take_zero,List.take_nil,List.length_append,List.length_set,Nat.reduceAdd,Nat.reduceSub,Nat.reduceMul,Nat.reduceLeDiff,Nat.reduceEqDiff,Nat.reduceBEq,Int.toNat_natCast,Int.natCast_nonneg,if_true,if_false,reduceIte,ite_true,ite_false,true_and,and_true,ne_eq,not_true_eq_false,not_false_eq_true,Bool.false_eq_true,reduceCtorEq,and_self,Nat.zero_add,Nat.add_zero,Nat.le_refl,Bool.not_true,Bool.not_false,decide_true,decide_false,t2,t3,t6] <;> with_reducible rfl) (hcall _) ?_
     rcases bool_or (Val.eqB (.mk k1 n1 s1 is1 ks1) (.mk k2 n2 s2 is2 ks2)) with hz | hz
     ·rw [hz] at heq ⊢
      refine go0 (ai t2 (ai t3 (ai t6 ei))) ?_
      refine ⟨is.length - (i+1),by omega,rfl,i+1,rfl,by omega,by simpa using heq,?_⟩
      (exact inv0 (ai t2 (ai t3 (ai t6 ei))))
     ·rw [hz] at heq ⊢
      refine go0 (ai t2 (ai t3 (ai t6 ei))) ?_
      exact ⟨_,le_refl _,by rw [tupA_1,hE3,←heq]; rfl⟩
    ·have hla:¬ (i:Int) < ((V.cellss is).length:Int):=by rw [V.cellss_length]; omega
     rw [List.drop_of_length_le (by omega),List.drop_of_length_le (by omega)] at heq
     refine go0 (ai t2 (ai t3 (ai t6 hla))) ?_
     exact ⟨_,le_refl _,by rw [tupA_1,hE3,←heq]; rfl⟩
def c_qsame:AX.AFn:=⟨26,aS [aR 4 (.mv (.c (.bool false)))] (.seq (aS [aM 6 0,aR 7 (.len false (.t 6)),aM 8 1,aR 9 (.len false (.t 8)),aR 10 (.bin .neq (.t 7) (.t 9))] (.cond (.t 10) (aS [aR 4 (.mv (.c (.bool false)))] (.ret)) (.skip))) (.seq (aS [aR 5 (.mv (aI 0))] (.block 0 (.loop (.seq (aS [aM 11 5,aM 12 0,aR 13 (.len false (.t 12)),aR 14 (.bin .lss (.t 11) (.t 13))] (.cond (.t 14) (.skip) (.exit 0))) (.seq (.block 1 (.seq (.reg true [aM 17 0,aM 18 5,⟨some 19,.iaddr 1 (.t 17) (.t 18),none,[0,1]⟩,⟨some 20,.load false 1 (.t 19),none,[2]⟩,aM 21 1,aM 22 5,⟨some 23,.iaddr 1 (.t 21) (.t 22),none,[4,5]⟩,⟨some 24,.load false 1 (.t 23),none,[6]⟩,⟨some 25,.bin .neq (.t 20) (.t 24),none,[3,7]⟩]) (.cond (.t 25) (aS [aR 4 (.mv (.c (.bool false)))] (.ret)) (.skip)))) (.reg false [aM 15 5,aR 16 (.bin .add (.t 15) (aI 1)),aM 5 16])))))) (aS [aR 4 (.mv (.c (.bool true)))] (.ret)))),[.t 4]⟩
theorem h_qsame:AX.compFn Tryz.prog 59=some c_qsame:=by kernel_rfl
theorem a_qsame (l:List (List UInt8)) (hl:l.length≤1000000000) (h:Hp):ACall Tryz.prog GT 59 [.sl 1 .no (strsA l),.sl 1 .no (strsA l)] h fun r h'=>r = .bool true∧h'=h:=by
 refine pcall ?_ rfl (by simp [A.pure,A.data]) h
 refine acall_of mixedT h_qsame (by simp [c_qsame]) ?_
 dsimp only [c_qsame]
 have li:=strsA_length l
 refine run0 li ?_
 refine awp_loop (fun m ts hh=>hh=⟨[],[]⟩∧∃ i:Nat,m=l.length - i∧i≤l.length∧(ts 0 = .sl 1 .no (strsA l)∧ts 1 = .sl 1 .no (strsA l)∧ts 5 = .int .i64 (i:Nat))) l.length ?_ ?_
 ·exact ⟨rfl,0,rfl,Nat.zero_le _,by (exact inv0 li)⟩
 rintro m ts hh ⟨rfl,i,rfl,hi,ht⟩
 rcases Nat.lt_or_ge i l.length with hlt | hge
 ·have hf:(strsA l).length=l.length∧(i:Int) < (l.length:Int)∧(0:Int)≤(i:Int)∧(strsA l).getD i []=[.str l[i]]∧IntKind.i64.wrap ((i:Int)+1)=((i+1:Nat):Int):=rowj_at (fun s:List UInt8=>[A.str s]) l i hlt (by omega)
  refine run0 (ai ht hf) ?_
  exact ⟨_,by omega,rfl,i+1,rfl,by omega,by (exact inv0 (ai ht hf))⟩
 ·have hf:¬ (i:Int) < (l.length:Int):=by omega
  refine run0 (ai ht (ai li hf)) ?_
  exact ⟨_,le_refl _,rfl⟩
theorem a_qeqinst (x:Sf.Inst) (hx:x.attrs.lens) (hd:x.deps.length≤1000000000) (h:Hp):ACall Tryz.prog GT 26 [.agg x.cells,.agg x.cells] h fun r h'=>r = .bool true∧h'=h:=by
 have c1:=t_rEqual x.attrs x.attrs hx hx
 rw [eqB_refl_] at c1
 have c2:=a_qsame x.deps hd
 obtain ⟨a1,a2,a3,a4,⟨k,nn,ss,is,ks⟩,v,tn,fi,ds⟩:=x
 simp only [Sf.Inst.cells,List.cons_append,List.nil_append,V.A,V.cells] at *
 refine pcall ?_ rfl (by simp [A.pure,A.data]) h
 refine fo ?_
 refine runc0 ti (ai c1 (ai c2 ti)) ?_
 exact ⟨_,le_refl _,rfl⟩
theorem a_qequal (st:Sf.St) (hin:Sf.StIn st) (h:Hp):ACall Tryz.prog GT 9 [st.A,st.A] h fun r h'=>r = .bool true∧h'=h:=by
 refine pcall ?_ rfl (by simp [A.pure,A.data,Sf.St.A]) h
 refine fo ?_
 have hli:=hin.li
 have hlp:=hin.lp
 have hlo:=hin.lo
 have hci:=fun x (hx:x∈st.insts)=>a_qeqinst x (hin.insts x hx).l (hin.insts x hx).n
 have hco:=fun x (hx:x∈st.outs)=>t_rEqual x.value x.value (hin.outs x hx).2 (hin.outs x hx).2
 obtain ⟨lin,ser,ins,ps,os⟩:=st
 simp only [Sf.St.A]
 dsimp only at hli hlp hlo hci hco
 have lm1:(ins.map Sf.Inst.cells).length=ins.length:=List.length_map _
 have lm2:(ps.map Sf.Pend.cells).length=ps.length:=List.length_map _
 have lm3:(os.map Sf.Outp.cells).length=os.length:=List.length_map _
 refine runx0 (ai lm1 (ai lm2 lm3)) ti ?_
 refine awp_loop (fun m ts hh=>hh=⟨[.cells 27 [.str lin,.int .i64 ser,.sl 13 .no (ins.map Sf.Inst.cells),.sl 3 .no (ps.map Sf.Pend.cells),.sl 7 .no (os.map Sf.Outp.cells)],.cells 27 [.str lin,.int .i64 ser,.sl 13 .no (ins.map Sf.Inst.cells),.sl 3 .no (ps.map Sf.Pend.cells),.sl 7 .no (os.map Sf.Outp.cells)]],[]⟩∧∃ (i:Nat),m=ins.length - i∧i≤ins.length∧(ts 2 = .ptr 0 0∧ts 3 = .ptr 1 0∧ts 5 = .int .i64 (i:Nat))) ins.length ?_ ?_
 ·exact ⟨rfl,0,rfl,Nat.zero_le _,by (exact inv0 (ai lm1 (ai lm2 lm3)))⟩
 rintro m ts hh ⟨rfl,i,rfl,hi,ht⟩
 rcases Nat.lt_or_ge i ins.length with hlt | hge
 ·have hf:=rowj_at Sf.Inst.cells ins i hlt (by omega)
  have cx:=hci _ (List.getElem_mem hlt)
  obtain ⟨x,hx⟩:∃ x,ins[i]=x:=⟨_,rfl⟩
  rw [hx] at hf cx
  obtain ⟨a1,a2,a3,a4,⟨k,nn,ss,is,ks⟩,v,tn,fi,ds⟩:=x
  simp only [Sf.Inst.cells,List.cons_append,List.nil_append] at hf cx
  refine runx0 (ai ht hf) (ai cx ti) ?_
  exact ⟨_,by omega,rfl,i+1,rfl,by omega,by (exact inv0 (ai ht hf))⟩
 have hf:=rowj_end Sf.Inst.cells ins i hge
 refine runx0 (ai ht hf) ti ?_
 refine awp_loop (fun m ts hh=>hh=⟨[.cells 27 [.str lin,.int .i64 ser,.sl 13 .no (ins.map Sf.Inst.cells),.sl 3 .no (ps.map Sf.Pend.cells),.sl 7 .no (os.map Sf.Outp.cells)],.cells 27 [.str lin,.int .i64 ser,.sl 13 .no (ins.map Sf.Inst.cells),.sl 3 .no (ps.map Sf.Pend.cells),.sl 7 .no (os.map Sf.Outp.cells)]],[]⟩∧∃ (i:Nat),m=ps.length - i∧i≤ps.length∧(ts 2 = .ptr 0 0∧ts 3 = .ptr 1 0∧ts 6 = .int .i64 (i:Nat))) ps.length ?_ ?_
 ·exact ⟨rfl,0,rfl,Nat.zero_le _,by (exact inv0 ht)⟩
 clear ht hf hi hge ts i
 rintro m ts hh ⟨rfl,i,rfl,hi,ht⟩
 rcases Nat.lt_or_ge i ps.length with hlt | hge
 ·have hf:=rowj_at Sf.Pend.cells ps i hlt (by omega)
  obtain ⟨x,hx⟩:∃ x,ps[i]=x:=⟨_,rfl⟩
  rw [hx] at hf
  obtain ⟨a1,a2,a3⟩:=x
  simp only [Sf.Pend.cells] at hf
  refine runx0 (ai ht hf) ti ?_
  exact ⟨_,by omega,rfl,i+1,rfl,by omega,by (exact inv0 (ai ht hf))⟩
 have hf:=rowj_end Sf.Pend.cells ps i hge
 refine runx0 (ai ht hf) ti ?_
 refine awp_loop (fun m ts hh=>∃ (i:Nat) (l:List Blk),m=os.length - i∧i≤os.length∧hh=⟨.cells 27 [.str lin,.int .i64 ser,.sl 13 .no (ins.map Sf.Inst.cells),.sl 3 .no (ps.map Sf.Pend.cells),.sl 7 .no (os.map Sf.Outp.cells)] :: .cells 27 [.str lin,.int .i64 ser,.sl 13 .no (ins.map Sf.Inst.cells),.sl 3 .no (ps.map Sf.Pend.cells),.sl 7 .no (os.map Sf.Outp.cells)]::l,[]⟩∧(ts 2 = .ptr 0 0∧ts 3 = .ptr 1 0∧ts 7 = .int .i64 (i:Nat))) os.length ?_ ?_
 ·exact ⟨0,[],rfl,Nat.zero_le _,rfl,by (exact inv0 ht)⟩
 clear ht hf hi hge ts i
 rintro m ts hh ⟨i,l,rfl,hi,rfl,ht⟩
 rcases Nat.lt_or_ge i os.length with hlt | hge
 rotate_left
 ·have hf:=rowj_end Sf.Outp.cells os i hge
  refine runx0 (ai ht hf) ti ?_
  exact ⟨_,le_refl _,rfl⟩
 have hf:=rowj_at Sf.Outp.cells os i hlt (by omega)
 have cx:=hco _ (List.getElem_mem hlt)
 rw [eqB_refl_] at cx
 obtain ⟨x,hx⟩:∃ x,os[i]=x:=⟨_,rfl⟩
 rw [hx] at hf cx
 obtain ⟨a1,⟨k,nn,ss,is,ks⟩,b1⟩:=x
 simp only [Sf.Outp.cells,V.A,V.cells,List.cons_append,List.nil_append] at hf cx
 refine runx0 (ai ht hf) (ai cx ti) ?_
 refine awp_two 10 (by decide +kernel) ?_ ?_
 all_goals simp only [edgeA,swapA,swap2,swN,aR,aF,aL,aM,List.map_cons,List.map_nil,reduceIte,Nat.reduceEqDiff,Nat.reduceAdd]
 ·refine runx0 (ai ht hf) (ai cx ti) ?_
  exact ⟨_,by omega,i+1,_,rfl,by omega,rfl,by (exact inv0 (ai ht hf))⟩
 ·refine runx0 (ai ht hf) (ai cx ti) ?_
  exact ⟨_,by omega,i+1,_,rfl,by omega,rfl,by (exact inv0 (ai ht hf))⟩
end AX
end Go.Proofs.YtdgcbckcameggaaGreatDoor
