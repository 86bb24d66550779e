/- Part of what the proof needs. -/
import Derived.Test.YteklhoajalgehaaGreatDoorMFrRecoveryNothingUptoM
import Derived.Test.YteklhoajalgehaaGreatDoorMFrRecoveryNothingUptoQ
import Derived.Test.YteklhoajalgehaaGreatDoorMFrRecoveryNothingUptoR
import Derived.Test.YteklhoajalgehaaGreatDoorMFrRecoveryNothingUptoT
set_option maxHeartbeats 4000000
set_option linter.unusedSimpArgs false
set_option linter.unusedVariables false
set_option linter.unnecessarySimpa false
namespace Go.Proofs.YteklhoajalgehaaGreatDoor
open Go.RowKit
open Go.Op (bytesLess)
namespace AX
def c_r7known : AX.AFn:=⟨21,aS [aR 1 (.box 71 (.t 0)),aR 2 (.mv (.c (.bool false)))] (.seq (aS [aF 4 0 1,aL 5 4,aR 6 (.bin .eql (.t 5) (aI 6))] (.cond (.t 6) (aS [aR 2 (.mv (.c (.bool false)))] (.ret)) (.skip))) (.seq (aS [aR 3 (.mv (aI 0))] (.block 0 (.loop (.seq (aS [aM 7 3,aF 8 3 1,aL 9 8,aR 10 (.len false (.t 9)),aR 11 (.bin .lss (.t 7) (.t 10))] (.cond (.t 11) (.skip) (.exit 0))) (.seq (.block 1 (aS [aF 14 3 1,aL 15 14,aM 16 3,aR 17 (.iaddr 5 (.t 15) (.t 16)),aR 18 (.load true 5 (.t 17)),aR 19 (.call 137 [.t 18]),aR 20 (.un .not (.t 19))] (.cond (.t 20) (aS [aR 2 (.mv (.c (.bool false)))] (.ret)) (.skip)))) (.reg false [aM 12 3,aR 13 (.bin .add (.t 12) (aI 1)),aM 3 13])))))) (aS [aR 2 (.mv (.c (.bool true)))] (.ret)))),[.t 2]⟩
theorem h_r7known : AX.compFn Tryz.prog 137 = some c_r7known:=by kernel_rfl
def c_r7bytes : AX.AFn:=⟨11,aS [aR 4 (.mv (aI 0))] (.seq (aS [aM 5 0,aM 6 1,aR 7 (.bin .lss (.t 5) (.t 6))] (.cond (.t 7) (aS [aR 4 (.mv (aI (-1)))] (.ret)) (.skip))) (.seq (aS [aM 8 0,aM 9 1,aR 10 (.bin .gtr (.t 8) (.t 9))] (.cond (.t 10) (aS [aR 4 (.mv (aI 1))] (.ret)) (.skip))) (aS [aR 4 (.mv (aI 0))] (.ret)))),[.t 4]⟩
theorem h_r7bytes : AX.compFn Tryz.prog 139 = some c_r7bytes:=by kernel_rfl
def c_r31text : AX.AFn:=⟨9,aS [aR 2 (.mv (.c (.bool false)))] (aS [aM 3 0,aR 4 (.bin .neq (.t 3) (.c (.str []))),aM 5 4,aG 6 (.mv (.t 0)) 5 true,aG 7 (.call 88 [.t 6]) 5 true,aR 8 (.pick (.t 5) (.t 7) (.c (.bool false))),aM 2 8] (.ret)),[.t 2]⟩
theorem h_r31text : AX.compFn Tryz.prog 49 = some c_r31text:=by kernel_rfl
def c_r31managed : AX.AFn:=⟨20,aS [aR 2 (.mv (.c (.str []))),aR 3 (.mv (.c (.bool false)))] (aS [aM 7 0,aR 8 (.call 197 [.t 7]),aM 6 8,aE 9 6 0,aE 10 6 1,aR 4 (.alloc 224 [.sl 0 .nil [],.bool false,.str [],.str [],.int .i64 0,.int .i64 0,.str []]),aU (.store 7 (.t 4) (.t 9)),aM 5 10] (.seq (.reg true [aF 11 2 4,⟨some 12,.load false 1 (.t 11),none,[0]⟩,aM 13 5,⟨some 14,.bin .eql (.t 13) (aI 0),none,[2]⟩,⟨some 15,.mv (.t 14),none,[3]⟩,⟨some 16,.faddr 1 (.t 4),some (15,true),[4]⟩,⟨some 17,.load false 1 (.t 16),some (15,true),[5,4]⟩,⟨some 18,.un .not (.t 17),some (15,true),[6,4]⟩,⟨some 19,.pick (.t 15) (.t 18) (.c (.bool false)),none,[4,7]⟩,⟨some 2,.mv (.t 12),none,[1,4,0,1]⟩,⟨some 3,.mv (.t 19),none,[8,9,0,1,2,3,4,5,6,7,8,9]⟩]) (.ret))),[.t 2,.t 3]⟩
theorem h_r31managed : AX.compFn Tryz.prog 134 = some c_r31managed:=by kernel_rfl
def c_r31static : AX.AFn:=⟨17,aS [aR 2 (.mv (.c (.bool false)))] (aS [aM 6 0,aR 7 (.call 252 [.t 6]),aM 5 7,aE 8 5 0,aE 9 5 1,aM 3 8,aM 4 9] (aS [aM 10 4,aR 11 (.bin .eql (.t 10) (aI 0)),aM 12 11,aG 13 (.mv (.t 3)) 12 true,aG 14 (.mv (.t 0)) 12 true,aG 15 (.bin .eql (.t 13) (.t 14)) 12 true,aR 16 (.pick (.t 12) (.t 15) (.c (.bool false))),aM 2 16] (.ret))),[.t 2]⟩
theorem h_r31static : AX.compFn Tryz.prog 200 = some c_r31static:=by kernel_rfl
def c_r31deps : AX.AFn:=⟨32,aS [aR 2 (.mv (.c (.bool false)))] (.seq (aS [aR 3 (.mv (aI 0))] (.block 0 (.loop (.seq (aS [aM 4 3,aM 5 0,aR 6 (.len false (.t 5)),aR 7 (.bin .lss (.t 4) (.t 6))] (.cond (.t 7) (.skip) (.exit 0))) (.seq (.block 1 (.seq (.reg true [aM 10 0,aM 11 3,⟨some 12,.iaddr 1 (.t 10) (.t 11),none,[0,1]⟩,⟨some 13,.load false 1 (.t 12),none,[2]⟩,⟨some 14,.call 200 [.t 13],none,[3]⟩,⟨some 15,.un .not (.t 14),none,[4]⟩,⟨some 16,.mv (.t 15),none,[5,4]⟩,⟨some 17,.mv (.t 3),some (16,false),[6]⟩,⟨some 18,.bin .gtr (.t 17) (aI 0),some (16,false),[7,6]⟩,⟨some 19,.mv (.t 18),some (16,false),[8,6,6]⟩,⟨some 20,.mv (.t 0),some (19,true),[9]⟩,⟨some 21,.mv (.t 3),some (19,true),[9]⟩,⟨some 22,.bin .sub (.t 21) (aI 1),some (19,true),[11,9]⟩,⟨some 23,.iaddr 1 (.t 20) (.t 22),some (19,true),[10,12,9]⟩,⟨some 24,.load false 1 (.t 23),some (19,true),[13,9]⟩,⟨some 25,.mv (.t 0),some (19,true),[9]⟩,⟨some 26,.mv (.t 3),some (19,true),[9]⟩,⟨some 27,.iaddr 1 (.t 25) (.t 26),some (19,true),[15,16,9]⟩,⟨some 28,.load false 1 (.t 27),some (19,true),[17,9]⟩,⟨some 29,.bin .geq (.t 24) (.t 28),some (19,true),[14,18,9]⟩,⟨some 30,.pick (.t 19) (.t 29) (.c (.bool false)),some (16,false),[9,19,6]⟩,⟨some 31,.pick (.t 16) (.c (.bool true)) (.t 30),none,[6,20]⟩]) (.cond (.t 31) (aS [aR 2 (.mv (.c (.bool false)))] (.ret)) (.skip)))) (.reg false [aM 8 3,aR 9 (.bin .add (.t 8) (aI 1)),aM 3 9])))))) (aS [aR 2 (.mv (.c (.bool true)))] (.ret))),[.t 2]⟩
theorem h_r31deps : AX.compFn Tryz.prog 138 = some c_r31deps:=by kernel_rfl
def c_r31key : AX.AFn:=⟨20,aS [aR 2 (.mv (.c (.bool false)))] (aS [aM 6 0,aR 7 (.call 198 [.t 6]),aM 5 7,aE 8 5 0,aE 9 5 1,aM 3 8,aM 4 9] (aS [aM 10 0,aR 11 (.bin .eql (.t 10) (.c (.str []))),aM 12 11,aG 13 (.mv (.t 4)) 12 false,aG 14 (.bin .eql (.t 13) (aI 0)) 12 false,aG 15 (.mv (.t 14)) 12 false,aG 16 (.mv (.t 3)) 15 true,aG 17 (.bin .geq (.t 16) (aI 1)) 15 true,aG 18 (.pick (.t 15) (.t 17) (.c (.bool false))) 12 false,aR 19 (.pick (.t 12) (.c (.bool true)) (.t 18)),aM 2 19] (.ret))),[.t 2]⟩
theorem h_r31key : AX.compFn Tryz.prog 135 = some c_r31key:=by kernel_rfl
def c_r31inst : AX.AFn:=⟨58,aS [aR 1 (.box 73 (.t 0)),aR 2 (.mv (aI 0))] (aS [aF 7 0 1,aL 8 7,aR 9 (.call 134 [.t 8]),aM 6 9,aE 10 6 0,aE 11 6 1,aM 3 10,aM 4 11] (.seq (aS [aM 12 4,aR 13 (.un .not (.t 12)),aM 14 13,aG 15 (.faddr 1 (.t 1)) 14 false,aG 16 (.load false 1 (.t 15)) 14 false,aG 17 (.call 135 [.t 16]) 14 false,aG 18 (.un .not (.t 17)) 14 false,aR 19 (.pick (.t 14) (.c (.bool true)) (.t 18)),aM 20 19,aG 21 (.faddr 2 (.t 1)) 20 false,aG 22 (.load false 1 (.t 21)) 20 false,aG 23 (.call 49 [.t 22]) 20 false,aG 24 (.un .not (.t 23)) 20 false,aR 25 (.pick (.t 20) (.c (.bool true)) (.t 24)),aM 26 25,aG 27 (.faddr 3 (.t 1)) 26 false,aG 28 (.load false 1 (.t 27)) 26 false,aG 29 (.mv (.t 3)) 26 false,aG 30 (.bin .neq (.t 28) (.t 29)) 26 false,aR 31 (.pick (.t 26) (.c (.bool true)) (.t 30))] (.cond (.t 31) (aS [aR 2 (.mv (aI 1))] (.ret)) (.skip))) (.seq (aS [aF 32 4 1,aR 33 (.load true 5 (.t 32)),aR 34 (.call 136 [.t 33]),aM 5 34] (aS [aM 35 5,aR 36 (.bin .neq (.t 35) (aI 0))] (.cond (.t 36) (aS [aM 37 5,aM 2 37] (.ret)) (.skip)))) (.seq (aS [aF 38 4 1,aF 39 0 38,aL 40 39,aR 41 (.bin .neq (.t 40) (aI 5))] (.cond (.t 41) (aS [aR 2 (.mv (aI 6))] (.ret)) (.skip))) (.seq (aS [aF 42 4 1,aR 43 (.load true 5 (.t 42)),aR 44 (.call 137 [.t 43]),aR 45 (.un .not (.t 44))] (.cond (.t 45) (aS [aR 2 (.mv (aI 11))] (.ret)) (.skip))) (.seq (aS [aF 46 9 1,aL 47 46,aR 48 (.bin .lss (.t 47) (aI 1)),aM 49 48,aG 50 (.faddr 9 (.t 1)) 49 false,aG 51 (.load false 1 (.t 50)) 49 false,aG 52 (.bin .gtr (.t 51) (aI 9007199254740992)) 49 false,aR 53 (.pick (.t 49) (.c (.bool true)) (.t 52))] (.cond (.t 53) (aS [aR 2 (.mv (aI 5))] (.ret)) (.skip))) (.seq (aS [aF 54 12 1,aL 55 54,aR 56 (.call 138 [.t 55]),aR 57 (.un .not (.t 56))] (.cond (.t 57) (aS [aR 2 (.mv (aI 1))] (.ret)) (.skip))) (aS [aR 2 (.mv (aI 0))] (.ret))))))))),[.t 2]⟩
theorem h_r31inst : AX.compFn Tryz.prog 73 = some c_r31inst:=by kernel_rfl
def c_r31pend : AX.AFn:=⟨25,aS [aR 1 (.box 121 (.t 0)),aR 2 (.mv (aI 0))] (aS [aF 6 0 1,aL 7 6,aR 8 (.call 134 [.t 7]),aM 5 8,aE 9 5 0,aE 10 5 1,aM 3 9,aM 4 10] (.seq (aS [aF 11 2 1,aL 12 11,aR 13 (.call 49 [.t 12]),aR 14 (.un .not (.t 13)),aM 15 14,aG 16 (.mv (.t 4)) 15 false,aG 17 (.un .not (.t 16)) 15 false,aR 18 (.pick (.t 15) (.c (.bool true)) (.t 17)),aM 19 18,aG 20 (.faddr 1 (.t 1)) 19 false,aG 21 (.load false 1 (.t 20)) 19 false,aG 22 (.mv (.t 3)) 19 false,aG 23 (.bin .neq (.t 21) (.t 22)) 19 false,aR 24 (.pick (.t 19) (.c (.bool true)) (.t 23))] (.cond (.t 24) (aS [aR 2 (.mv (aI 1))] (.ret)) (.skip))) (aS [aR 2 (.mv (aI 0))] (.ret)))),[.t 2]⟩
theorem h_r31pend : AX.compFn Tryz.prog 75 = some c_r31pend:=by kernel_rfl
def c_r31outp : AX.AFn:=⟨18,aS [aR 1 (.box 132 (.t 0)),aR 2 (.mv (aI 0))] (.seq (aS [aF 4 0 1,aL 5 4,aR 6 (.call 201 [.t 5]),aR 7 (.un .not (.t 6))] (.cond (.t 7) (aS [aR 2 (.mv (aI 7))] (.ret)) (.skip))) (.seq (aS [aF 8 1 1,aR 9 (.load true 5 (.t 8)),aR 10 (.call 136 [.t 9]),aM 3 10] (aS [aM 11 3,aR 12 (.bin .neq (.t 11) (aI 0))] (.cond (.t 12) (aS [aM 13 3,aM 2 13] (.ret)) (.skip)))) (.seq (aS [aF 14 1 1,aR 15 (.load true 5 (.t 14)),aR 16 (.call 137 [.t 15]),aR 17 (.un .not (.t 16))] (.cond (.t 17) (aS [aR 2 (.mv (aI 11))] (.ret)) (.skip))) (aS [aR 2 (.mv (aI 0))] (.ret))))),[.t 2]⟩
theorem h_r31outp : AX.compFn Tryz.prog 140 = some c_r31outp:=by kernel_rfl
def c_r31before : AX.AFn:=⟨19,aS [aR 5 (.box 73 (.t 2)),aR 6 (.mv (aI 0))] (.seq (aS [aM 7 0,aF 8 0 5,aL 9 8,aR 10 (.bin .neq (.t 7) (.t 9))] (.cond (.t 10) (aS [aM 11 0,aF 12 0 5,aL 13 12,aR 14 (.call 139 [.t 11,.t 13]),aM 6 14] (.ret)) (.skip))) (aS [aM 15 1,aF 16 1 5,aL 17 16,aR 18 (.call 139 [.t 15,.t 17]),aM 6 18] (.ret))),[.t 6]⟩
theorem h_r31before : AX.compFn Tryz.prog 74 = some c_r31before:=by kernel_rfl
theorem a_r7known : ∀ (v : V),v.lens → ∀ h,ACall Tryz.prog GT 137 [v.A] h fun r h' => r = .bool (Sf.known v) ∧ h' = h:=by
 refine V.induct fun k n s is ks ih => ?_
 intro hlen h
 unfold V.lens at hlen
 have hall:=hlen.2.2.2.2
 have hisl : is.length ≤ 9223372036854775807:=by have:=hlen.1; simp only [maxLen] at this; omega
 simp only [V.A,V.cells]
 refine pcall ?_ rfl (by simp [A.pure,A.data]) h
 refine acall_of mixedT h_r7known (by simp [c_r7known]) ?_
 dsimp only [c_r7known]
 obtain ⟨q,hq⟩ : ∃ q,Sf.known (.mk k n s is ks) = q:=⟨_,rfl⟩
 rw [hq]
 unfold Sf.known at hq
 by_cases h6 : k = 6
 ·have e1 : (k == 6) = true:=by simp [h6]
  have : false = q:=by rw [← hq]; simp [h6]
  subst this
  refine runx0 e1 ti ?_
  exact ⟨_,le_refl _,rfl⟩
 have e1 : (k == 6) = false:=by simp [h6]
 have hq' : Sf.knowns is = q:=by rw [← hq]; simp [h6]
 refine runx0 e1 ti ?_
 refine awp_loop (fun m ts hh => hh = ⟨[.cells 71 [.int .i64 k,.int .i64 n,.str s,.sl 5 .no (V.cellss is),.sl 1 .no (strsA ks)]],[]⟩ ∧ ∃ j : Nat,m = is.length - j ∧ j ≤ is.length ∧ Sf.knowns (is.drop j) = q ∧ (ts 1 = .ptr 0 0 ∧ ts 3 = .int .i64 (j : Nat))) is.length ?_ ?_
 ·exact ⟨rfl,0,rfl,Nat.zero_le _,hq',by (exact inv0 ti)⟩
 rintro m ts hh ⟨rfl,j,rfl,hj,hkn,ht⟩
 rcases Nat.lt_or_ge j is.length with hlt | hge
 ·have hf : (V.cellss is).length = is.length ∧ (j : Int) < (is.length : Int) ∧ (0 : Int) ≤ (j : Int) ∧ (V.cellss is).getD j [] = is[j].cells ∧ IntKind.i64.wrap ((j : Int) + 1) = ((j + 1 : Nat) : Int):=
   ⟨V.cellss_length is,by omega,by omega,V.cellss_get is j hlt,by rw [wrap64 (by omega) (by omega)]; omega⟩
  have hc:=ih is[j] (List.getElem_mem hlt) (V.lensS_mem hall _ (List.getElem_mem hlt))
  rw [List.drop_eq_getElem_cons hlt] at hkn
  unfold Sf.knowns at hkn
  obtain ⟨x,hx⟩ : ∃ x,is[j] = x:=⟨_,rfl⟩
  rw [hx] at hf hc hkn
  obtain ⟨k1,n1,w1,vi,vy⟩:=x
  simp only [V.A,V.cells] at hf hc
  cases hK : Sf.known (.mk k1 n1 w1 vi vy) with
  | false =>
   rw [hK] at hc hkn
   have : false = q:=hkn
   subst this
   refine runx0 (ai ht hf) (ai hc ti) ?_
   exact ⟨_,le_refl _,rfl⟩
  | true =>
   rw [hK,Bool.true_and] at hkn
   rw [hK] at hc
   refine runx0 (ai ht hf) (ai hc ti) ?_
   exact ⟨_,by omega,rfl,j + 1,rfl,by omega,hkn,by (exact inv0 (ai ht hf))⟩
 ·have hf:=ai (V.cellss_length is) (show ¬ (j : Int) < (is.length : Int) by omega)
  rw [List.drop_of_length_le hge] at hkn
  unfold Sf.knowns at hkn
  subst hkn
  refine runx0 (ai ht hf) ti ?_
  exact ⟨_,le_refl _,rfl⟩
def cmpB (a b : List UInt8) : Int:=if bytesLess a b = true then -1 else if a = b then 0 else 1
theorem a_r7bytes (a b : List UInt8) (h : Hp) : ACall Tryz.prog GT 139 [.str a,.str b] h fun r h' => r = .int .i64 (cmpB a b) ∧ h' = h:=by
 refine pcall ?_ rfl (by simp [A.pure,A.data]) h
 refine acall_of mixedT h_r7bytes (by simp [c_r7bytes]) ?_
 dsimp only [c_r7bytes]
 unfold cmpB
 cases hl : bytesLess a b with
 | true =>
  refine runx0 hl ti ?_
  exact ⟨_,le_refl _,rfl⟩
 | false =>
  by_cases he : a = b
  ·have e1 : (a == b) = true:=by simp [he]
   refine runx0 (ai hl e1) ti ?_
   exact ⟨_,le_refl _,by rw [if_neg (by decide),if_pos he]; rfl⟩
  ·have e1 : (a == b) = false:=by simp [he]
   refine runx0 (ai hl e1) ti ?_
   exact ⟨_,le_refl _,by rw [if_neg (by decide),if_neg he]; rfl⟩
theorem a_r31text (s : List UInt8) (hs : s.length ≤ 2000000) (h : Hp) : ACall Tryz.prog GT 49 [.str s] h fun r h' => r = .bool (Sf.text s) ∧ h' = h:=by
 have hv:=a_refValid s hs
 refine pcall ?_ rfl (by simp [A.pure,A.data]) h
 refine acall_of mixedT h_r31text (by simp [c_r31text]) ?_
 dsimp only [c_r31text]
 refine runx0 ti (ai hv ti) ?_
 exact ⟨_,le_refl _,rfl⟩
def isM (s : List UInt8) : Bool:=(Adr.parse s).2 == 0 && !(Adr.parse s).1.data
theorem a_r31managed (s : List UInt8) (hs : s.length ≤ 2000000) (h : Hp) : ACall Tryz.prog GT 134 [.str s] h fun r h' => r = .tup [.str (Adr.parse s).1.type,.bool (isM s)] ∧ h' = h:=by
 have hp:=a_r6parse s hs
 unfold isM
 obtain ⟨⟨⟨mods,data,ty,nm,⟨ka,kb,kc⟩⟩,e⟩,hP⟩ : ∃ p,Adr.parse s = p:=⟨_,rfl⟩
 rw [hP] at hp ⊢
 dsimp only [Adr.Ad.cells] at hp ⊢
 refine pcall ?_ rfl (by simp [A.pure,A.data]) h
 refine acall_of mixedT h_r31managed (by simp [c_r31managed]) ?_
 dsimp only [c_r31managed]
 refine runx0 ti (ai hp ti) ?_
 exact ⟨_,le_refl _,rfl⟩
theorem parse_in (s : List UInt8) (hs : s.length ≤ 2000000) : Adr.In (Adr.bare (Adr.parse s).1):=by
 by_cases h0 : (Adr.parse s).2 = 0
 ·obtain ⟨n1,n2,n3,n4⟩:=Adr.parse_names s h0
  refine ⟨by simp [Adr.bare]; omega,fun x hx => ?_,by show (Adr.parse s).1.type.length ≤ _; omega,by show (Adr.parse s).1.name.length ≤ _; omega,by show ([] : List UInt8).length ≤ _; decide⟩
  simp only [Adr.bare,List.mem_map] at hx
  obtain ⟨y,hy,rfl⟩:=hx
  exact ⟨by have:=n1 y hy; dsimp only; omega,by show ([] : List UInt8).length ≤ _; decide⟩
 ·have hz : (Adr.parse s).1 = Adr.Ad.zero:=by
   unfold Adr.parse at h0 ⊢
   split at h0
   ·split at h0
    ·next h1 => rw [if_pos h1]
    ·exact absurd rfl h0
   ·rfl
  rw [hz]
  exact ⟨by decide,by simp [Adr.bare,Adr.Ad.zero],by decide,by decide,by decide⟩
theorem a_r31static (s : List UInt8) (hs : s.length ≤ 2000000) (h : Hp) : ACall Tryz.prog GT 200 [.str s] h fun r h' => r = .bool (Sf.staticB s) ∧ h' = h:=by
 have hp:=a_r6static s hs (parse_in s hs)
 unfold Sf.staticB
 refine pcall ?_ rfl (by simp [A.pure,A.data]) h
 refine acall_of mixedT h_r31static (by simp [c_r31static]) ?_
 dsimp only [c_r31static]
 refine runx0 ti (ai hp ti) ?_
 exact ⟨_,le_refl _,rfl⟩
theorem a_r31key (s : List UInt8) (hs : s.length ≤ 2000000) (h : Hp) : ACall Tryz.prog GT 135 [.str s] h fun r h' => r = .bool (Sf.keyB s) ∧ h' = h:=by
 have hp:=a_r1parse s hs
 unfold Sf.keyB
 refine pcall ?_ rfl (by simp [A.pure,A.data]) h
 refine acall_of mixedT h_r31key (by simp [c_r31key]) ?_
 dsimp only [c_r31key]
 refine runx0 ti (ai hp ti) ?_
 exact ⟨_,le_refl _,rfl⟩
def prevS (l : List (List UInt8)) : Nat → Option (List UInt8)
 | 0 => none
 | j + 1 => l[j]?
theorem strs_at (l : List (List UInt8)) (j : Nat) (h : j < l.length) (hl : l.length ≤ 4611686018427387904) :
  (strsA l).length = l.length ∧ (j : Int) < (l.length : Int) ∧ (0 : Int) ≤ (j : Int) ∧ (strsA l).getD j [] = [.str l[j]] ∧ IntKind.i64.wrap ((j : Int) + 1) = ((j + 1 : Nat) : Int):=
 ⟨strsA_length l,by omega,by omega,strsA_get l j h,by rw [wrap64 (by omega) (by omega)]; omega⟩
theorem a_r31deps (l : List (List UInt8)) (hn : l.length ≤ 1000000000) (hl : ∀ s ∈ l,s.length ≤ 2000000) (h : Hp) : ACall Tryz.prog GT 138 [.sl 1 .no (strsA l)] h fun r h' => r = .bool (Sf.depsB none l) ∧ h' = h:=by
 refine pcall ?_ rfl (by simp [A.pure,A.data]) h
 refine acall_of mixedT h_r31deps (by simp [c_r31deps]) ?_
 dsimp only [c_r31deps]
 obtain ⟨q,hq⟩ : ∃ q,Sf.depsB none l = q:=⟨_,rfl⟩
 rw [hq]
 refine runx0 ti ti ?_
 refine awp_loop (fun m ts hh => hh = ⟨[],[]⟩ ∧ ∃ j : Nat,m = l.length - j ∧ j ≤ l.length ∧ Sf.depsB (prevS l j) (l.drop j) = q ∧ (ts 0 = .sl 1 .no (strsA l) ∧ ts 3 = .int .i64 (j : Nat))) l.length ?_ ?_
 ·exact ⟨rfl,0,rfl,Nat.zero_le _,hq,by (exact inv0 ti)⟩
 rintro m ts hh ⟨rfl,j,rfl,hj,hd,ht⟩
 rcases Nat.lt_or_ge j l.length with hlt | hge
 ·have hf:=strs_at l j hlt (by omega)
  have hs:=hl _ (List.getElem_mem hlt)
  rw [List.drop_eq_getElem_cons hlt] at hd
  unfold Sf.depsB at hd
  have hnx : prevS l (j + 1) = some l[j]:=List.getElem?_eq_getElem hlt
  obtain ⟨s,hs'⟩ : ∃ s,l[j] = s:=⟨_,rfl⟩
  rw [hs'] at hf hs hd hnx
  have cs:=a_r31static s hs
  cases hS : Sf.staticB s with
  | false =>
   rw [hS] at cs hd
   have : false = q:=hd
   subst this
   refine runx0 (ai ht hf) (ai cs ti) ?_
   exact ⟨_,le_refl _,rfl⟩
  | true =>
  rw [hS,Bool.true_and] at hd
  rw [hS] at cs
  cases j with
  | zero =>
   have : Sf.depsB (some s) (l.drop 1) = q:=hd
   have z0 : ¬ ((0 : Nat) : Int) > 0:=by decide
   refine runx0 (ai ht (ai hf z0)) (ai cs ti) ?_
   exact ⟨l.length - 1,by omega,rfl,1,rfl,by omega,by rw [hnx]; exact this,by (exact inv0 (ai ht hf))⟩
  | succ i =>
   have hi : i < l.length:=by omega
   have hpv : prevS l (i + 1) = some l[i]:=List.getElem?_eq_getElem hi
   rw [hpv] at hd
   have g1 : ((i + 1 : Nat) : Int) > 0 ∧ IntKind.i64.wrap (((i + 1 : Nat) : Int) - 1) = (i : Int) ∧ (i : Int) < (l.length : Int) ∧ (0 : Int) ≤ (i : Int) ∧ (strsA l).getD i [] = [.str l[i]]:=⟨by omega,by rw [wrap64 (by omega) (by omega)]; omega,by omega,by omega,strsA_get l i hi⟩
   obtain ⟨p,hp⟩ : ∃ p,l[i] = p:=⟨_,rfl⟩
   rw [hp] at hd g1
   have hb : Val.badB (some p) s = !bytesLess p s:=rfl
   rw [hb,Bool.not_not] at hd
   cases hB : bytesLess p s with
   | false =>
    rw [hB] at hd
    have : false = q:=hd
    subst this
    refine runx0 (ai ht (ai hf (ai g1 hB))) (ai cs ti) ?_
    exact ⟨_,le_refl _,rfl⟩
   | true =>
    rw [hB,Bool.true_and] at hd
    refine runx0 (ai ht (ai hf (ai g1 hB))) (ai cs ti) ?_
    exact ⟨_,by omega,rfl,i + 1 + 1,rfl,by omega,by rw [hnx]; exact hd,by (exact inv0 (ai ht hf))⟩
 ·have hf:=ai (strsA_length l) (show ¬ (j : Int) < (l.length : Int) by omega)
  rw [List.drop_of_length_le hge] at hd
  unfold Sf.depsB at hd
  subst hd
  refine runx0 (ai ht hf) ti ?_
  exact ⟨_,le_refl _,rfl⟩
theorem managed_M (s t : List UInt8) : Sf.managed s t = (isM s && (Adr.parse s).1.type == t):=rfl
theorem ne_flip (a b : List UInt8) : (a != b) = !(b == a):=by
 show (!(a == b)) = !(b == a)
 congr 1
 rw [Bool.eq_iff_iff,beq_iff_eq,beq_iff_eq]
 exact eq_comm
theorem a_r31inst (x : Sf.Inst) (hx : Sf.InstIn x) (ht : x.typ.length ≤ 2000000) (h : Hp) : ACall Tryz.prog GT 73 [.agg x.cells] h fun r h' => r = .int .i64 (Sf.instZ x) ∧ h' = h:=by
 have cm:=a_r31managed x.addr hx.a
 have ck:=a_r31key x.dep hx.d
 have ct:=a_r31text x.id hx.i
 have cc:=a_rCheck x.attrs hx.l
 have cn:=a_r7known x.attrs hx.l
 have cd:=a_r31deps x.deps (by have:=hx.n; omega) hx.ds
 obtain ⟨q,hq⟩ : ∃ q,Sf.instZ x = q:=⟨_,rfl⟩
 rw [hq]
 unfold Sf.instZ at hq
 rw [managed_M] at hq
 obtain ⟨a,d,id,ty,⟨k,n,w,vi,vy⟩,v,tn,fi,ds⟩:=x
 dsimp only at cm ck ct cd hq
 simp only [V.A,V.cells] at cc cn
 refine pcall ?_ rfl (by simp [A.pure,A.data,Sf.Inst.cells]) h
 refine acall_of mixedT h_r31inst (by simp [c_r31inst]) ?_
 dsimp only [c_r31inst,Sf.Inst.cells]
 obtain ⟨T,hT⟩ : ∃ T,(Adr.parse a).1.type = T:=⟨_,rfl⟩
 rw [hT] at cm hq
 cases hM : isM a with
 | false =>
  rw [hM] at cm hq
  rw [if_pos (by simp)] at hq
  subst hq
  refine runx0 ti (ai cm ti) ?_
  exact ⟨_,le_refl _,rfl⟩
 | true =>
 rw [hM,Bool.true_and] at hq
 rw [hM] at cm
 cases hK : Sf.keyB d with
 | false =>
  rw [hK] at ck hq
  rw [if_pos (by simp)] at hq
  subst hq
  refine runx0 ti (ai cm (ai ck ti)) ?_
  exact ⟨_,le_refl _,rfl⟩
 | true =>
 rw [hK] at ck hq
 cases hX : Sf.text id with
 | false =>
  rw [hX] at ct hq
  rw [if_pos (by simp)] at hq
  subst hq
  refine runx0 ti (ai cm (ai ck (ai ct ti))) ?_
  exact ⟨_,le_refl _,rfl⟩
 | true =>
 rw [hX] at ct hq
 simp only [Bool.not_true,Bool.or_false] at hq
 have hTy : (ty != T) = !(T == ty):=ne_flip ty T
 cases hE : (T == ty) with
 | false =>
  rw [hE] at hTy hq
  rw [if_pos (by decide)] at hq
  subst hq
  refine runx0 hTy (ai cm (ai ck (ai ct ti))) ?_
  exact ⟨_,le_refl _,rfl⟩
 | true =>
 rw [hE] at hTy hq
 rw [if_neg (by decide)] at hq
 have hTy' : (ty != T) = false:=hTy
 by_cases hZ : Val.checkZ (.mk k n w vi vy) = 0
 rotate_left
 ·obtain ⟨Z,hZZ⟩ : ∃ Z,Val.checkZ (.mk k n w vi vy) = Z:=⟨_,rfl⟩
  rw [hZZ] at cc hZ hq
  have e1 : (Z != 0) = true:=by simp [hZ]
  rw [if_pos hZ] at hq
  subst hq
  refine runx0 (ai hTy' e1) (ai cm (ai ck (ai ct (ai cc ti)))) ?_
  exact ⟨_,le_refl _,rfl⟩
 rw [hZ] at cc
 rw [if_neg (by simp [hZ])] at hq
 have hkd : Sf.V.kind (.mk k n w vi vy) = k:=rfl
 rw [hkd] at hq
 by_cases h5 : k = 5
 rotate_left
 ·have e1 : (k != 5) = true:=by simp [h5]
  rw [if_pos h5] at hq
  subst hq
  refine runx0 (ai hTy' e1) (ai cm (ai ck (ai ct (ai cc ti)))) ?_
  exact ⟨_,le_refl _,rfl⟩
 have e1 : (k != 5) = false:=by simp [h5]
 rw [if_neg (by simp [h5])] at hq
 cases hN : Sf.known (.mk k n w vi vy) with
 | false =>
  rw [hN] at cn hq
  rw [if_pos (by decide)] at hq
  subst hq
  refine runx0 (ai hTy' e1) (ai cm (ai ck (ai ct (ai cc (ai cn ti))))) ?_
  exact ⟨_,le_refl _,rfl⟩
 | true =>
 rw [hN] at cn hq
 rw [if_neg (by decide)] at hq
 by_cases hv : v < 1 ∨ 9007199254740992 < v
 ·have e2 : (decide (v < 1) || decide (v > 9007199254740992)) = true:=by simpa using hv
  rw [if_pos hv] at hq
  subst hq
  refine runx0 (ai hTy' (ai e1 e2)) (ai cm (ai ck (ai ct (ai cc (ai cn ti))))) ?_
  exact ⟨_,le_refl _,rfl⟩
 have e2 : (decide (v < 1) || decide (v > 9007199254740992)) = false:=by simp; omega
 rw [if_neg hv] at hq
 cases hD : Sf.depsB none ds with
 | false =>
  rw [hD] at cd hq
  have : q = 1:=by rw [← hq]; rfl
  subst this
  refine runx0 (ai hTy' (ai e1 e2)) (ai cm (ai ck (ai ct (ai cc (ai cn (ai cd ti)))))) ?_
  exact ⟨_,le_refl _,rfl⟩
 | true =>
  rw [hD] at cd hq
  have : q = 0:=by rw [← hq]; rfl
  subst this
  refine runx0 (ai hTy' (ai e1 e2)) (ai cm (ai ck (ai ct (ai cc (ai cn (ai cd ti)))))) ?_
  exact ⟨_,le_refl _,rfl⟩
theorem a_r31pend (p : Sf.Pend) (ha : p.addr.length ≤ 2000000) (hk : p.tok.length ≤ 2000000) (h : Hp) : ACall Tryz.prog GT 75 [.agg p.cells] h fun r h' => r = .int .i64 (if Sf.pendB p = true then 0 else 1) ∧ h' = h:=by
 have cm:=a_r31managed p.addr ha
 have ct:=a_r31text p.tok hk
 unfold Sf.pendB
 rw [managed_M]
 obtain ⟨a,ty,tok⟩:=p
 dsimp only at cm ct ⊢
 refine pcall ?_ rfl (by simp [A.pure,A.data,Sf.Pend.cells]) h
 refine acall_of mixedT h_r31pend (by simp [c_r31pend]) ?_
 dsimp only [c_r31pend,Sf.Pend.cells]
 obtain ⟨T,hT⟩ : ∃ T,(Adr.parse a).1.type = T:=⟨_,rfl⟩
 rw [hT] at cm ⊢
 have hTy : (ty != T) = !(T == ty):=ne_flip ty T
 obtain ⟨b,hb⟩ : ∃ b,(T == ty) = b:=⟨_,rfl⟩
 rw [hb] at hTy ⊢
 obtain ⟨c,hc⟩ : ∃ c,Sf.text tok = c:=⟨_,rfl⟩
 obtain ⟨e,he⟩ : ∃ e,isM a = e:=⟨_,rfl⟩
 rw [hc] at ct ⊢
 rw [he] at cm ⊢
 cases c <;> cases e <;> cases b <;> ((refine runx0 hTy (ai cm (ai ct ti)) ?_); exact ⟨_,le_refl _,rfl⟩)
theorem a_r31outp (o : Sf.Outp) (hn : o.name.length ≤ 2000000) (hl : o.value.lens) (h : Hp) : ACall Tryz.prog GT 140 [.agg o.cells] h fun r h' => r = .int .i64 (Sf.outZ o) ∧ h' = h:=by
 have ci:=a_r6ident o.name hn
 have cc:=a_rCheck o.value hl
 have cn:=a_r7known o.value hl
 obtain ⟨q,hq⟩ : ∃ q,Sf.outZ o = q:=⟨_,rfl⟩
 rw [hq]
 unfold Sf.outZ at hq
 obtain ⟨nm,⟨k,n,w,vi,vy⟩,sn⟩:=o
 dsimp only at ci hq
 simp only [V.A,V.cells] at cc cn
 refine pcall ?_ rfl (by simp [A.pure,A.data,Sf.Outp.cells]) h
 refine acall_of mixedT h_r31outp (by simp [c_r31outp]) ?_
 dsimp only [c_r31outp,Sf.Outp.cells]
 cases hI : Adr.ident nm with
 | false =>
  rw [hI] at ci hq
  rw [if_pos (by decide)] at hq
  subst hq
  refine runx0 ti (ai ci ti) ?_
  exact ⟨_,le_refl _,rfl⟩
 | true =>
 rw [hI] at ci hq
 rw [if_neg (by decide)] at hq
 by_cases hZ : Val.checkZ (.mk k n w vi vy) = 0
 rotate_left
 ·obtain ⟨Z,hZZ⟩ : ∃ Z,Val.checkZ (.mk k n w vi vy) = Z:=⟨_,rfl⟩
  rw [hZZ] at cc hZ hq
  have e1 : (Z != 0) = true:=by simp [hZ]
  rw [if_pos hZ] at hq
  subst hq
  refine runx0 e1 (ai ci (ai cc ti)) ?_
  exact ⟨_,le_refl _,rfl⟩
 rw [hZ] at cc
 rw [if_neg (by simp [hZ])] at hq
 cases hN : Sf.known (.mk k n w vi vy) with
 | false =>
  rw [hN] at cn hq
  rw [if_pos (by decide)] at hq
  subst hq
  refine runx0 ti (ai ci (ai cc (ai cn ti))) ?_
  exact ⟨_,le_refl _,rfl⟩
 | true =>
  rw [hN] at cn hq
  rw [if_neg (by decide)] at hq
  subst hq
  refine runx0 ti (ai ci (ai cc (ai cn ti))) ?_
  exact ⟨_,le_refl _,rfl⟩
def beforeZ (a d : List UInt8) (y : Sf.Inst) : Int:=if a = y.addr then cmpB d y.dep else cmpB a y.addr
theorem a_r31before (a d : List UInt8) (y : Sf.Inst) (h : Hp) : ACall Tryz.prog GT 74 [.str a,.str d,.agg y.cells] h fun r h' => r = .int .i64 (beforeZ a d y) ∧ h' = h:=by
 have c1:=a_r7bytes a y.addr
 have c2:=a_r7bytes d y.dep
 unfold beforeZ
 obtain ⟨a',d',id,ty,⟨k,n,w,vi,vy⟩,v,tn,fi,ds⟩:=y
 dsimp only at c1 c2 ⊢
 refine pcall ?_ rfl (by simp [A.pure,A.data,Sf.Inst.cells]) h
 refine acall_of mixedT h_r31before (by simp [c_r31before]) ?_
 dsimp only [c_r31before,Sf.Inst.cells]
 by_cases he : a = a'
 ·have e1 : (a != a') = false:=by simp [he]
  rw [if_pos he]
  refine runx0 e1 (ai c2 ti) ?_
  exact ⟨_,le_refl _,rfl⟩
 ·have e1 : (a != a') = true:=by simp [he]
  rw [if_neg he]
  refine runx0 e1 (ai c1 ti) ?_
  exact ⟨_,le_refl _,rfl⟩
theorem cmp_pos (a b : List UInt8) : decide (cmpB a b ≤ 0) = !bytesLess b a:=by
 have h1:=Val.less_total a b
 unfold cmpB
 cases hl : bytesLess a b with
 | true =>
  rw [if_pos rfl]
  have h2:=Val.less_total b a
  rw [hl] at h2
  rw [h2]
  rfl
 | false =>
  rw [if_neg (by decide)]
  by_cases he : a = b
  ·subst he
   rw [if_pos rfl,Val.less_irrefl]
   rfl
  ·rw [if_neg he]
   rw [hl] at h1
   have : (b == a) = false:=by simpa using fun h => he h.symm
   rw [this,Bool.or_false] at h1
   rw [← h1]
   rfl
theorem before_behind (x y : Sf.Inst) : decide (beforeZ x.addr x.dep y ≤ 0) = !Sf.behind y x:=by
 unfold beforeZ Sf.behind
 by_cases he : x.addr = y.addr
 ·rw [if_pos he,cmp_pos,he,Val.less_irrefl]
  simp
 ·rw [if_neg he,cmp_pos]
  have : (y.addr == x.addr) = false:=by simpa using fun h => he h.symm
  rw [this,Bool.false_and,Bool.or_false]
def c_r31outs : AX.AFn:=⟨35,aS [aR 2 (.mv (aI 0))] (.seq (aS [aR 3 (.mv (aI 0))] (.block 0 (.loop (.seq (aS [aM 5 3,aM 6 0,aR 7 (.len false (.t 6)),aR 8 (.bin .lss (.t 5) (.t 7))] (.cond (.t 8) (.skip) (.exit 0))) (.seq (.block 1 (.seq (aS [aM 11 0,aM 12 3,aR 13 (.iaddr 7 (.t 11) (.t 12)),aR 14 (.load true 7 (.t 13)),aR 15 (.call 140 [.t 14]),aM 4 15] (aS [aM 16 4,aR 17 (.bin .neq (.t 16) (aI 0))] (.cond (.t 17) (aS [aM 18 4,aM 2 18] (.ret)) (.skip)))) (.seq (.reg true [aM 19 3,⟨some 20,.bin .gtr (.t 19) (aI 0),none,[0]⟩,⟨some 21,.mv (.t 20),none,[1]⟩,⟨some 22,.mv (.t 0),some (21,true),[2]⟩,⟨some 23,.mv (.t 3),some (21,true),[2]⟩,⟨some 24,.bin .sub (.t 23) (aI 1),some (21,true),[4,2]⟩,⟨some 25,.iaddr 7 (.t 22) (.t 24),some (21,true),[3,5,2]⟩,⟨some 26,.faddr 0 (.t 25),some (21,true),[6,2]⟩,⟨some 27,.load false 1 (.t 26),some (21,true),[7,2]⟩,⟨some 28,.mv (.t 0),some (21,true),[2]⟩,⟨some 29,.mv (.t 3),some (21,true),[2]⟩,⟨some 30,.iaddr 7 (.t 28) (.t 29),some (21,true),[9,10,2]⟩,⟨some 31,.faddr 0 (.t 30),some (21,true),[11,2]⟩,⟨some 32,.load false 1 (.t 31),some (21,true),[12,2]⟩,⟨some 33,.bin .geq (.t 27) (.t 32),some (21,true),[8,13,2]⟩,⟨some 34,.pick (.t 21) (.t 33) (.c (.bool false)),none,[2,14]⟩]) (.cond (.t 34) (aS [aR 2 (.mv (aI 1))] (.ret)) (.skip))))) (.reg false [aM 9 3,aR 10 (.bin .add (.t 9) (aI 1)),aM 3 10])))))) (aS [aR 2 (.mv (aI 0))] (.ret))),[.t 2]⟩
theorem h_r31outs : AX.compFn Tryz.prog 76 = some c_r31outs:=by kernel_rfl
def c_r31check : AX.AFn:=⟨106,aS [aR 1 (.box 39 (.t 0)),aR 2 (.mv (aI 0))] (.seq (aS [aF 8 0 1,aL 9 8,aR 10 (.call 49 [.t 9]),aR 11 (.un .not (.t 10))] (.cond (.t 11) (aS [aR 2 (.mv (aI 1))] (.ret)) (.skip))) (.seq (aS [aF 12 1 1,aL 13 12,aR 14 (.bin .lss (.t 13) (aI 0)),aM 15 14,aG 16 (.faddr 1 (.t 1)) 15 false,aG 17 (.load false 1 (.t 16)) 15 false,aG 18 (.bin .gtr (.t 17) (aI 9007199254740992)) 15 false,aR 19 (.pick (.t 15) (.c (.bool true)) (.t 18))] (.cond (.t 19) (aS [aR 2 (.mv (aI 5))] (.ret)) (.skip))) (.seq (aS [aF 20 2 1,aL 21 20,aR 22 (.len false (.t 21)),aR 23 (.bin .gtr (.t 22) (aI 512)),aM 24 23,aG 25 (.faddr 3 (.t 1)) 24 false,aG 26 (.load false 1 (.t 25)) 24 false,aG 27 (.len false (.t 26)) 24 false,aG 28 (.bin .gtr (.t 27) (aI 512)) 24 false,aR 29 (.pick (.t 24) (.c (.bool true)) (.t 28)),aM 30 29,aG 31 (.faddr 4 (.t 1)) 30 false,aG 32 (.load false 1 (.t 31)) 30 false,aG 33 (.len false (.t 32)) 30 false,aG 34 (.bin .gtr (.t 33) (aI 512)) 30 false,aR 35 (.pick (.t 30) (.c (.bool true)) (.t 34))] (.cond (.t 35) (aS [aR 2 (.mv (aI 14))] (.ret)) (.skip))) (.seq (aS [aR 3 (.mv (aI 0))] (.block 0 (.loop (.seq (aS [aM 36 3,aF 37 2 1,aL 38 37,aR 39 (.len false (.t 38)),aR 40 (.bin .lss (.t 36) (.t 39))] (.cond (.t 40) (.skip) (.exit 0))) (.seq (.block 1 (aS [aF 43 2 1,aL 44 43,aM 45 3,aR 46 (.iaddr 13 (.t 44) (.t 45)),aR 47 (.load true 13 (.t 46)),aR 4 (.alloc 73 [.str [],.str [],.str [],.str [],.int .i64 0,.int .i64 0,.str [],.sl 0 .nil [],.sl 0 .nil [],.int .i64 0,.bool false,.bool false,.sl 0 .nil []]),aU (.store 13 (.t 4) (.t 47))] (.seq (aS [aR 48 (.load true 13 (.t 4)),aR 49 (.call 73 [.t 48]),aM 5 49] (aS [aM 50 5,aR 51 (.bin .neq (.t 50) (aI 0))] (.cond (.t 51) (aS [aM 52 5,aM 2 52] (.ret)) (.skip)))) (.seq (.reg true [aM 53 3,⟨some 54,.bin .gtr (.t 53) (aI 0),none,[0]⟩,⟨some 55,.mv (.t 54),none,[1]⟩,⟨some 56,.faddr 0 (.t 4),some (55,true),[2]⟩,⟨some 57,.load false 1 (.t 56),some (55,true),[3,2]⟩,⟨some 58,.faddr 1 (.t 4),some (55,true),[2]⟩,⟨some 59,.load false 1 (.t 58),some (55,true),[5,2]⟩,⟨some 60,.faddr 2 (.t 1),some (55,true),[2]⟩,⟨some 61,.load false 1 (.t 60),some (55,true),[7,2]⟩,⟨some 62,.mv (.t 3),some (55,true),[2]⟩,⟨some 63,.bin .sub (.t 62) (aI 1),some (55,true),[9,2]⟩,⟨some 64,.iaddr 13 (.t 61) (.t 63),some (55,true),[8,10,2]⟩,⟨some 65,.load true 13 (.t 64),some (55,true),[11,2]⟩,⟨some 66,.call 74 [.t 57,.t 59,.t 65],some (55,true),[4,6,12,2,2]⟩,⟨some 67,.bin .leq (.t 66) (aI 0),some (55,true),[13,2]⟩,⟨some 68,.pick (.t 55) (.t 67) (.c (.bool false)),none,[2,14]⟩]) (.cond (.t 68) (aS [aR 2 (.mv (aI 1))] (.ret)) (.skip)))))) (.reg false [aM 41 3,aR 42 (.bin .add (.t 41) (aI 1)),aM 3 42])))))) (.seq (aS [aR 6 (.mv (aI 0))] (.block 2 (.loop (.seq (aS [aM 69 6,aF 70 3 1,aL 71 70,aR 72 (.len false (.t 71)),aR 73 (.bin .lss (.t 69) (.t 72))] (.cond (.t 73) (.skip) (.exit 2))) (.seq (.block 3 (.seq (aS [aF 76 3 1,aL 77 76,aM 78 6,aR 79 (.iaddr 3 (.t 77) (.t 78)),aR 80 (.load true 3 (.t 79)),aR 81 (.call 75 [.t 80]),aM 7 81] (aS [aM 82 7,aR 83 (.bin .neq (.t 82) (aI 0))] (.cond (.t 83) (aS [aM 84 7,aM 2 84] (.ret)) (.skip)))) (.seq (.reg true [aM 85 6,⟨some 86,.bin .gtr (.t 85) (aI 0),none,[0]⟩,⟨some 87,.mv (.t 86),none,[1]⟩,⟨some 88,.faddr 3 (.t 1),some (87,true),[2]⟩,⟨some 89,.load false 1 (.t 88),some (87,true),[3,2]⟩,⟨some 90,.mv (.t 6),some (87,true),[2]⟩,⟨some 91,.bin .sub (.t 90) (aI 1),some (87,true),[5,2]⟩,⟨some 92,.iaddr 3 (.t 89) (.t 91),some (87,true),[4,6,2]⟩,⟨some 93,.faddr 2 (.t 92),some (87,true),[7,2]⟩,⟨some 94,.load false 1 (.t 93),some (87,true),[8,2]⟩,⟨some 95,.faddr 3 (.t 1),some (87,true),[2]⟩,⟨some 96,.load false 1 (.t 95),some (87,true),[10,2]⟩,⟨some 97,.mv (.t 6),some (87,true),[2]⟩,⟨some 98,.iaddr 3 (.t 96) (.t 97),some (87,true),[11,12,2]⟩,⟨some 99,.faddr 2 (.t 98),some (87,true),[13,2]⟩,⟨some 100,.load false 1 (.t 99),some (87,true),[14,2]⟩,⟨some 101,.bin .geq (.t 94) (.t 100),some (87,true),[9,15,2]⟩,⟨some 102,.pick (.t 87) (.t 101) (.c (.bool false)),none,[2,16]⟩]) (.cond (.t 102) (aS [aR 2 (.mv (aI 1))] (.ret)) (.skip))))) (.reg false [aM 74 6,aR 75 (.bin .add (.t 74) (aI 1)),aM 6 75])))))) (aS [aF 103 4 1,aL 104 103,aR 105 (.call 76 [.t 104]),aM 2 105] (.ret))))))),[.t 2]⟩
theorem h_r31check : AX.compFn Tryz.prog 36 = some c_r31check:=by kernel_rfl
theorem row_end6 {α : Type} (f : α → List A) (l : List α) (i : Nat) (h : l.length ≤ i) : (l.map f).length = l.length ∧ ¬ (i : Int) < (l.length : Int):=⟨List.length_map _,by omega⟩
def prevG {α : Type} (l : List α) : Nat → Option α
 | 0 => none
 | j + 1 => l[j]?
theorem prevG_succ {α : Type} (l : List α) (j : Nat) (h : j < l.length) : prevG l (j + 1) = some l[j]:=List.getElem?_eq_getElem h
theorem row_before {α : Type} (f : α → List A) (l : List α) (i : Nat) (h : i + 1 < l.length) (hl : l.length ≤ 4611686018427387904) :
  ((i + 1 : Nat) : Int) > 0 ∧ IntKind.i64.wrap (((i + 1 : Nat) : Int) - 1) = (i : Int) ∧ (i : Int) < (l.length : Int) ∧ (0 : Int) ≤ (i : Int) ∧ (l.map f).getD i [] = f (l[i]'(by omega)):=
 ⟨by omega,by rw [wrap64 (by omega) (by omega)]; omega,by omega,by omega,map_getD f l i (by omega)⟩
theorem a_r31outs (l : List Sf.Outp) (hn : l.length ≤ 1000000000) (ho : ∀ o ∈ l,o.name.length ≤ 2000000 ∧ o.value.lens) (h : Hp) : ACall Tryz.prog GT 76 [.sl 7 .no (l.map Sf.Outp.cells)] h fun r h' => r = .int .i64 (Sf.outsZ none l) ∧ h' = h:=by
 refine pcall ?_ rfl (by simp [A.pure,A.data]) h
 refine acall_of mixedT h_r31outs (by simp [c_r31outs]) ?_
 dsimp only [c_r31outs]
 obtain ⟨q,hq⟩ : ∃ q,Sf.outsZ none l = q:=⟨_,rfl⟩
 rw [hq]
 refine runx0 ti ti ?_
 refine awp_loop (fun m ts hh => hh = ⟨[],[]⟩ ∧ ∃ j : Nat,m = l.length - j ∧ j ≤ l.length ∧ Sf.outsZ ((prevG l j).map Sf.Outp.name) (l.drop j) = q ∧ (ts 0 = .sl 7 .no (l.map Sf.Outp.cells) ∧ ts 3 = .int .i64 (j : Nat))) l.length ?_ ?_
 ·exact ⟨rfl,0,rfl,Nat.zero_le _,hq,by (exact inv0 ti)⟩
 rintro m ts hh ⟨rfl,j,rfl,hj,hd,ht⟩
 rcases Nat.lt_or_ge j l.length with hlt | hge
 ·have hf:=row_at6 Sf.Outp.cells l j hlt (by omega)
  have hox:=ho _ (List.getElem_mem hlt)
  rw [List.drop_eq_getElem_cons hlt] at hd
  unfold Sf.outsZ at hd
  have hnx:=prevG_succ l j hlt
  obtain ⟨x,hx⟩ : ∃ x,l[j] = x:=⟨_,rfl⟩
  rw [hx] at hf hox hd hnx
  have co:=a_r31outp x hox.1 hox.2
  obtain ⟨Z,hZ⟩ : ∃ Z,Sf.outZ x = Z:=⟨_,rfl⟩
  rw [hZ] at co hd
  have hxn : (some x).map Sf.Outp.name = some x.name:=rfl
  obtain ⟨nm,⟨k,n,w,vi,vy⟩,sn⟩:=x
  dsimp only [Sf.Outp.cells] at hf co hd hxn
  by_cases hz : Z = 0
  rotate_left
  ·have e1 : (Z != 0) = true:=by simp [hz]
   rw [if_pos hz] at hd
   subst hd
   refine runx0 (ai ht (ai hf e1)) (ai co ti) ?_
   exact ⟨_,le_refl _,rfl⟩
  have e1 : (Z != 0) = false:=by simp [hz]
  rw [if_neg (by simp [hz])] at hd
  cases j with
  | zero =>
   have z0 : ¬ ((0 : Nat) : Int) > 0:=by decide
   have hd' : Sf.outsZ (some nm) (l.drop 1) = q:=hd
   refine runx0 (ai ht (ai hf (ai e1 z0))) (ai co ti) ?_
   exact ⟨l.length - 1,by omega,rfl,1,rfl,by omega,by rw [hnx]; exact hd',by (exact inv0 (ai ht hf))⟩
  | succ i =>
   have hb:=row_before Sf.Outp.cells l i hlt (by omega)
   rw [prevG_succ l i (by omega)] at hd
   obtain ⟨y,hy⟩ : ∃ y,l[i] = y:=⟨_,rfl⟩
   rw [hy] at hb hd
   obtain ⟨nm2,⟨k2,n2,w2,vi2,vy2⟩,sn2⟩:=y
   dsimp only [Sf.Outp.cells,Option.map_some] at hb hd
   replace hd : (if (!bytesLess nm2 nm) = true then (1 : Int) else Sf.outsZ (some nm) (l.drop (i + 1 + 1))) = q:=hd
   cases hB : bytesLess nm2 nm with
   | false =>
    rw [hB,if_pos (by decide)] at hd
    subst hd
    refine runx0 (ai ht (ai hf (ai e1 (ai hb hB)))) (ai co ti) ?_
    exact ⟨_,le_refl _,rfl⟩
   | true =>
    rw [hB,if_neg (by decide)] at hd
    refine runx0 (ai ht (ai hf (ai e1 (ai hb hB)))) (ai co ti) ?_
    exact ⟨_,by omega,rfl,i + 1 + 1,rfl,by omega,by rw [hnx]; exact hd,by (exact inv0 (ai ht hf))⟩
 ·have hf:=row_end6 Sf.Outp.cells l j hge
  rw [List.drop_of_length_le hge] at hd
  unfold Sf.outsZ at hd
  subst hd
  refine runx0 (ai ht hf) ti ?_
  exact ⟨_,le_refl _,rfl⟩
theorem a_r31check (st : Sf.St) (hin : Sf.StIn st) (htp : Sf.TypIn st) (h : Hp) : ACall Tryz.prog GT 36 [st.A] h fun r h' => r = .int .i64 (Sf.checkZ st) ∧ h' = h:=by
 obtain ⟨lin,ser,ins,ps,os⟩:=st
 obtain ⟨hl,hi,hp,ho,hni,hnp,hno⟩:=hin
 dsimp only at hl hi hp ho hni hnp hno
 have hti:=htp.insts
 have htp':=htp.pends
 dsimp only at hti htp'
 have ct:=a_r31text lin (by omega)
 have co:=a_r31outs os hno ho
 obtain ⟨q,hq⟩ : ∃ q,Sf.checkZ ⟨lin,ser,ins,ps,os⟩ = q:=⟨_,rfl⟩
 rw [hq]
 unfold Sf.checkZ at hq
 dsimp only at hq
 obtain ⟨N,hN⟩ : ∃ N,Sf.instsZ none ins = N:=⟨_,rfl⟩
 obtain ⟨P,hP⟩ : ∃ P,Sf.pendsZ none ps = P:=⟨_,rfl⟩
 rw [hN,hP] at hq
 refine pcall ?_ rfl (by simp [A.pure,A.data,Sf.St.A]) h
 refine acall_of mixedT h_r31check (by simp [c_r31check]) ?_
 dsimp only [c_r31check,Sf.St.A]
 have li : (ins.map Sf.Inst.cells).length = ins.length ∧ (ps.map Sf.Pend.cells).length = ps.length ∧ (os.map Sf.Outp.cells).length = os.length:=⟨List.length_map _,List.length_map _,List.length_map _⟩
 cases hT : Sf.text lin with
 | false =>
  rw [hT] at ct hq
  rw [if_pos (by decide)] at hq
  subst hq
  refine runx0 ti (ai ct ti) ?_
  exact ⟨_,le_refl _,rfl⟩
 | true =>
 rw [hT] at ct hq
 rw [if_neg (by decide)] at hq
 by_cases hs : ser < 0 ∨ 9007199254740992 < ser
 ·have e1 : (decide (ser < 0) || decide (ser > 9007199254740992)) = true:=by simpa using hs
  rw [if_pos hs] at hq
  subst hq
  refine runx0 e1 (ai ct ti) ?_
  exact ⟨_,le_refl _,rfl⟩
 have e1 : (decide (ser < 0) || decide (ser > 9007199254740992)) = false:=by simp; omega
 rw [if_neg hs] at hq
 by_cases hm : 512 < ins.length ∨ 512 < ps.length ∨ 512 < os.length
 ·have e2 : (decide ((ins.length : Int) > 512) || decide ((ps.length : Int) > 512) || decide ((os.length : Int) > 512)) = true:=by simp; omega
  rw [if_pos hm] at hq
  subst hq
  refine runx0 (ai e1 (ai li e2)) (ai ct ti) ?_
  exact ⟨_,le_refl _,rfl⟩
 have e2 : (decide ((ins.length : Int) > 512) || decide ((ps.length : Int) > 512) || decide ((os.length : Int) > 512)) = false:=by simp; omega
 rw [if_neg hm] at hq
 refine runx0 (ai e1 (ai li e2)) (ai ct ti) ?_
 refine awp_loop (fun m ts hh => ∃ (j : Nat) (l : List Blk),m = ins.length - j ∧ j ≤ ins.length ∧ hh = ⟨.cells 39 [.str lin,.int .i64 ser,.sl 13 .no (ins.map Sf.Inst.cells),.sl 3 .no (ps.map Sf.Pend.cells),.sl 7 .no (os.map Sf.Outp.cells)] :: l,[]⟩ ∧
  Sf.instsZ (prevG ins j) (ins.drop j) = N ∧ (ts 1 = .ptr 0 0 ∧ ts 3 = .int .i64 (j : Nat))) ins.length ?_ ?_
 ·exact ⟨0,[],rfl,Nat.zero_le _,rfl,hN,by (exact inv0 ti)⟩
 rintro m ts hh ⟨j,l,rfl,hj,rfl,hd,ht⟩
 rcases Nat.lt_or_ge j ins.length with hlt | hge
 ·have hf:=row_at6 Sf.Inst.cells ins j hlt (by omega)
  have hix:=hi _ (List.getElem_mem hlt)
  have htx:=hti _ (List.getElem_mem hlt)
  rw [List.drop_eq_getElem_cons hlt] at hd
  unfold Sf.instsZ at hd
  have hnx:=prevG_succ ins j hlt
  obtain ⟨x,hx⟩ : ∃ x,ins[j] = x:=⟨_,rfl⟩
  rw [hx] at hf hix htx hd hnx
  have ci:=a_r31inst x hix htx
  have cb:=fun y => a_r31before x.addr x.dep y
  have hbf:=before_behind x
  obtain ⟨Z,hZ⟩ : ∃ Z,Sf.instZ x = Z:=⟨_,rfl⟩
  rw [hZ] at ci hd
  obtain ⟨x',hx'⟩ : ∃ x',x' = x:=⟨_,rfl⟩
  rw [← hx'] at hd hnx hbf
  obtain ⟨a,d,id,ty,⟨k,n,w,vi,vy⟩,v,tn,fi,ds⟩:=x
  have hxa : x'.addr = a ∧ x'.dep = d:=by rw [hx']; exact ⟨rfl,rfl⟩
  rw [hxa.1,hxa.2] at hbf
  dsimp only [Sf.Inst.cells] at hf ci cb
  by_cases hz : Z = 0
  rotate_left
  ·have e3 : (Z != 0) = true:=by simp [hz]
   rw [if_pos hz] at hd
   have : q = Z:=by rw [← hq,← hd,if_pos hz]
   subst this
   refine runx0 (ai ht (ai hf (ai li e3))) (ai ci ti) ?_
   exact ⟨_,le_refl _,rfl⟩
  have e3 : (Z != 0) = false:=by simp [hz]
  rw [if_neg (by simp [hz])] at hd
  cases j with
  | zero =>
   have z0 : ¬ ((0 : Nat) : Int) > 0:=by decide
   have hd' : Sf.instsZ (some x') (ins.drop 1) = N:=hd
   refine runx0 (ai ht (ai hf (ai li (ai e3 z0)))) (ai ci ti) ?_
   exact ⟨ins.length - 1,by omega,1,_,rfl,by omega,rfl,by rw [hnx]; exact hd',by (exact inv0 (ai ht hf))⟩
  | succ i =>
   have hb:=row_before Sf.Inst.cells ins i hlt (by omega)
   rw [prevG_succ ins i (by omega)] at hd
   obtain ⟨y,hy⟩ : ∃ y,ins[i] = y:=⟨_,rfl⟩
   rw [hy] at hb hd
   have cby:=cb y
   have hbfy:=hbf y
   replace hd : (if (!Sf.behind y x') = true then (1 : Int) else Sf.instsZ (some x') (ins.drop (i + 1 + 1))) = N:=hd
   obtain ⟨B,hBB⟩ : ∃ B,beforeZ a d y = B:=⟨_,rfl⟩
   rw [hBB] at cby hbfy
   obtain ⟨bh,hbh⟩ : ∃ b,Sf.behind y x' = b:=⟨_,rfl⟩
   rw [hbh] at hd hbfy
   obtain ⟨a2,d2,id2,ty2,⟨k2,n2,w2,vi2,vy2⟩,v2,tn2,fi2,ds2⟩:=y
   dsimp only [Sf.Inst.cells] at hb cby
   cases bh with
   | false =>
    rw [if_pos (by decide)] at hd
    have hb0 : B ≤ 0:=by simpa using hbfy
    have : q = 1:=by rw [← hq,← hd]; rfl
    subst this
    refine runx0 (ai ht (ai hf (ai li (ai e3 (ai hb hb0))))) (ai ci (ai cby ti)) ?_
    exact ⟨_,le_refl _,rfl⟩
   | true =>
    rw [if_neg (by decide)] at hd
    have hb0 : ¬ B ≤ 0:=by simpa using hbfy
    refine runx0 (ai ht (ai hf (ai li (ai e3 (ai hb hb0))))) (ai ci (ai cby ti)) ?_
    exact ⟨_,by omega,i + 1 + 1,_,rfl,by omega,rfl,by rw [hnx]; exact hd,by (exact inv0 (ai ht hf))⟩
 have hf:=row_end6 Sf.Inst.cells ins j hge
 rw [List.drop_of_length_le hge] at hd
 unfold Sf.instsZ at hd
 rw [← hd,if_neg (by simp)] at hq
 refine runx0 (ai ht (ai hf li)) ti ?_
 refine awp_loop (fun m ts hh => ∃ (j : Nat),m = ps.length - j ∧ j ≤ ps.length ∧ hh = ⟨.cells 39 [.str lin,.int .i64 ser,.sl 13 .no (ins.map Sf.Inst.cells),.sl 3 .no (ps.map Sf.Pend.cells),.sl 7 .no (os.map Sf.Outp.cells)] :: l,[]⟩ ∧
  Sf.pendsZ ((prevG ps j).map Sf.Pend.tok) (ps.drop j) = P ∧ (ts 1 = .ptr 0 0 ∧ ts 6 = .int .i64 (j : Nat))) ps.length ?_ ?_
 ·exact ⟨0,rfl,Nat.zero_le _,rfl,hP,by (exact inv0 ht)⟩
 rintro m ts' hh ⟨j',rfl,hj',rfl,hd',hu⟩
 rcases Nat.lt_or_ge j' ps.length with hlt | hge'
 ·have hf:=row_at6 Sf.Pend.cells ps j' hlt (by omega)
  have hpx:=hp _ (List.getElem_mem hlt)
  rw [List.drop_eq_getElem_cons hlt] at hd'
  unfold Sf.pendsZ at hd'
  have hnx:=prevG_succ ps j' hlt
  obtain ⟨x,hx⟩ : ∃ x,ps[j'] = x:=⟨_,rfl⟩
  rw [hx] at hf hpx hd' hnx
  have cp:=a_r31pend x hpx.1 hpx.2
  obtain ⟨b,hb⟩ : ∃ b,Sf.pendB x = b:=⟨_,rfl⟩
  rw [hb] at cp hd'
  obtain ⟨a,ty,tok⟩:=x
  dsimp only [Sf.Pend.cells] at hf cp hd'
  cases b with
  | false =>
   rw [if_neg (by decide)] at cp
   rw [Bool.not_false,Bool.true_or,if_pos rfl] at hd'
   have : q = 1:=by rw [← hq,← hd']; rfl
   subst this
   refine runx0 (ai hu (ai hf li)) (ai cp ti) ?_
   exact ⟨_,le_refl _,rfl⟩
  | true =>
  rw [if_pos rfl] at cp
  rw [Bool.not_true,Bool.false_or] at hd'
  cases j' with
  | zero =>
   have z0 : ¬ ((0 : Nat) : Int) > 0:=by decide
   have hd2 : Sf.pendsZ (some tok) (ps.drop 1) = P:=hd'
   refine runx0 (ai hu (ai hf (ai li z0))) (ai cp ti) ?_
   exact ⟨ps.length - 1,by omega,1,rfl,by omega,rfl,by rw [hnx]; exact hd2,by (exact inv0 (ai hu hf))⟩
  | succ i =>
   have hbr:=row_before Sf.Pend.cells ps i hlt (by omega)
   rw [prevG_succ ps i (by omega)] at hd'
   obtain ⟨y,hy⟩ : ∃ y,ps[i] = y:=⟨_,rfl⟩
   rw [hy] at hbr hd'
   obtain ⟨a2,ty2,tok2⟩:=y
   dsimp only [Sf.Pend.cells,Option.map_some] at hbr hd'
   replace hd' : (if (!bytesLess tok2 tok) = true then (1 : Int) else Sf.pendsZ (some tok) (ps.drop (i + 1 + 1))) = P:=hd'
   cases hB : bytesLess tok2 tok with
   | false =>
    rw [hB,if_pos (by decide)] at hd'
    have : q = 1:=by rw [← hq,← hd']; rfl
    subst this
    refine runx0 (ai hu (ai hf (ai li (ai hbr hB)))) (ai cp ti) ?_
    exact ⟨_,le_refl _,rfl⟩
   | true =>
    rw [hB,if_neg (by decide)] at hd'
    refine runx0 (ai hu (ai hf (ai li (ai hbr hB)))) (ai cp ti) ?_
    exact ⟨_,by omega,i + 1 + 1,rfl,by omega,rfl,by rw [hnx]; exact hd',by (exact inv0 (ai hu hf))⟩
 ·have hf':=row_end6 Sf.Pend.cells ps j' hge'
  rw [List.drop_of_length_le hge'] at hd'
  unfold Sf.pendsZ at hd'
  rw [← hd',if_neg (by simp)] at hq
  rw [hq] at co
  refine runx0 (ai hu (ai hf' li)) (ai co ti) ?_
  exact ⟨_,le_refl _,rfl⟩
end AX
end Go.Proofs.YteklhoajalgehaaGreatDoor

namespace Go.Proofs.YteklhoajalgehaaGreatDoor
open Go.RowKit
namespace AX
section
variable {P : Program} {G : World → Prop} {m i : Nat} {fl : List Bool} {d : Option Nat} {af : List Nat} {os : List AOper} {past : List Hp} {obs : Obs} {K : Ts → Hp → Prop} {ts : Ts} {h : Hp}
theorem aseq_weak : ∀ (os : List AOper) (i : Nat) (fl : List Bool) (past : List Hp) (o1 o2 : Obs) (K : Ts → Hp → Prop) (ts : Ts) (h : Hp),(∀ x ∈ o2,(∀ h,x.2 h) ∨ x ∈ o1) → aseq P G m i fl os past o1 K ts h → aseq P G m i fl os past o2 K ts h:=by
 have hP : ∀ (af : List Nat) (o1 o2 : Obs) (h : Hp),(∀ x ∈ o2,(∀ h,x.2 h) ∨ x ∈ o1) → obsP af o1 h → obsP af o2 h:=by
  intro af o1 o2 h hs hp
  induction o2 with
  | nil => trivial
  | cons x l ih =>
   obtain ⟨j,p⟩:=x
   refine ⟨?_,ih fun y hy => hs y (List.mem_cons_of_mem _ hy)⟩
   rcases hs (j,p) List.mem_cons_self with h1 | h1
   ·exact .inr (h1 h)
   ·exact obsP_mem hp _ h1
 have hD : ∀ (af : List Nat) (o1 o2 : Obs),(∀ x ∈ o2,(∀ h,x.2 h) ∨ x ∈ o1) → ∀ x ∈ obsD af o2,(∀ h,x.2 h) ∨ x ∈ obsD af o1:=by
  intro af o1 o2 hs
  induction o2 with
  | nil => intro x hx; simp [obsD] at hx
  | cons z l ih =>
   obtain ⟨j,p⟩:=z
   intro x hx
   unfold obsD at hx
   split at hx
   ·exact ih (fun y hy => hs y (List.mem_cons_of_mem _ hy)) x hx
   ·next hm =>
    rcases List.mem_cons.1 hx with rfl | hx
    ·rcases hs (j,p) List.mem_cons_self with h1 | h1
     ·exact .inl h1
     ·exact .inr (obsD_mem _ h1 (by simpa using hm))
    ·exact ih (fun y hy => hs y (List.mem_cons_of_mem _ hy)) x hx
 intro os
 induction os with
 | nil => exact fun _ _ _ _ _ _ _ _ _ hp => hp
 | cons o os ih =>
  intro i fl past o1 o2 K ts h hs hp
  obtain ⟨v,h',h1,h2,h3⟩:=hp
  refine ⟨v,h',h1,h2,?_⟩
  split at h3
  ·next e => rw [if_pos e]; exact ⟨hP _ _ _ _ hs h3.1,ih _ _ _ _ _ _ _ _ (hD _ _ _ hs) h3.2⟩
  ·next e =>
   rw [if_neg e]
   split at h3
   ·next e2 =>
    rw [if_pos e2]
    refine ⟨h3.1,ih _ _ _ _ _ _ _ _ (fun x hx => ?_) h3.2⟩
    rcases List.mem_cons.1 hx with rfl | hx
    ·exact .inr List.mem_cons_self
    ·rcases hs x hx with h1 | h1
     ·exact .inl h1
     ·exact .inr (List.mem_cons_of_mem _ h1)
   ·next e2 => rw [if_neg e2]; exact ih _ _ _ _ _ _ _ _ hs h3
theorem gs_skipF {o : AOp} {t : Nat} {b : Bool} (hf : fl.headD false = true) (ha : actB m o = false) (hg : ts t = .bool (!b)) (k : aseq P G m (i + 1) fl.tail os past obs K (put ts d (.tup [])) h) : aseq P G m i fl (⟨d,o,some (t,b),af⟩ :: os) past obs K ts h:=by
 have hq : ∀ h2,quietAt P G ts ⟨d,o,some (t,b),af⟩ (.tup []) h2:=fun h2 => by
  simp only [quietAt,guardP,hg]
  exact ⟨fun e => (by cases b <;> cases e),fun _ => trivial⟩
 refine ⟨.tup [],h,?_,.inr rfl,?_⟩
 ·simp only [guardP,hg]
  exact ⟨fun e => (by cases b <;> cases e),fun _ => ⟨trivial,trivial⟩⟩
 ·rw [if_neg (by simp [ha]),if_pos hf]
  refine ⟨?_,aseq_weak _ _ _ _ _ _ _ _ _ (fun x hx => ?_) k⟩
  ·clear k
   induction past with
   | nil => trivial
   | cons a l ih => exact ⟨hq a,ih⟩
  ·rcases List.mem_cons.1 hx with rfl | hx
   ·exact .inl hq
   ·exact .inr hx
end
structure StFew (s : Sf.St) : Prop where
 ins : s.insts.length ≤ 2000000 ∧ ∀ x ∈ s.insts,x.attrs.few ∧ x.deps.length ≤ 1000000000
 ps : s.pends.length ≤ 2000000
 os : s.outs.length ≤ 2000000 ∧ ∀ x ∈ s.outs,x.value.few
theorem a_sclone (st : Sf.St) (hf : StFew st) (h : Hp) : ACall Tryz.prog GT 202 [st.A] h fun r h' => r = st.A ∧ h' = h:=by
 have cp:=a_clonep st.pends (by have:=hf.ps; omega)
 have co:=a_soutputs st.outs hf.os.1 hf.os.2
 obtain ⟨hin,hio⟩:=hf.ins
 clear hf
 obtain ⟨lin,ser,ins,ps,os⟩:=st
 simp only [Sf.St.A]
 dsimp only at cp co hin hio
 refine pcall ?_ rfl (by simp [A.pure,A.data]) h
 refine acall_of mixedT h_sclone (by simp [c_sclone]) ?_
 dsimp only [c_sclone]
 have li : (ins.map Sf.Inst.cells).length = ins.length:=List.length_map _
 refine runc0 ti ti ?_
 refine go_gen [12] 11 [⟨[.cells 39 [.str lin,.int .i64 ser,.sl 13 .no (ins.map Sf.Inst.cells),.sl 3 .no (ps.map Sf.Pend.cells),.sl 7 .no (os.map Sf.Outp.cells)],.cells 39 [.str [],.int .i64 0,.sl 0 .nil [],.sl 0 .nil [],.sl 0 .nil []]],[]⟩,⟨[],[]⟩,⟨[.cells 39 [.str lin,.int .i64 ser,.sl 13 .no (ins.map Sf.Inst.cells),.sl 3 .no (ps.map Sf.Pend.cells),.sl 7 .no (os.map Sf.Outp.cells)],.cells 39 [.str [],.int .i64 0,.sl 0 .nil [],.sl 0 .nil [],.sl 0 .nil []],.cells 39 [.str [],.int .i64 0,.sl 0 .nil [],.sl 0 .nil [],.sl 0 .nil []]],[]⟩,⟨[.cells 39 [.str lin,.int .i64 ser,.sl 13 .no (ins.map Sf.Inst.cells),.sl 3 .no (ps.map Sf.Pend.cells),.sl 7 .no (os.map Sf.Outp.cells)],.cells 39 [.str [],.int .i64 0,.sl 0 .nil [],.sl 0 .nil [],.sl 0 .nil []],.cells 39 [.str lin,.int .i64 ser,.sl 0 .nil [],.sl 3 .no (ps.map Sf.Pend.cells),.sl 7 .no (os.map Sf.Outp.cells)]],[]⟩] [[0,2],[0,2],[0,2],[0,2],[0,2],[0,2],[0,2],[0,2],[0,2],[0,2],[0,2],[0],[2]] rfl (by decide +kernel) ?_
 refine AX.rung ti ?_
 refine gn_call (vs:=[.sl 3 .no (ps.map Sf.Pend.cells)]) (by (exact ev0 ti)) ⟨cp _,cp _,trivial⟩ ?_
 refine AX.rung ti ?_
 refine gn_call (vs:=[.sl 7 .no (os.map Sf.Outp.cells)]) (by (exact ev0 ti)) ⟨co _,co _,trivial⟩ ?_
 refine AX.rung ti ?_
 refine runc0 li ti ?_
 refine awp_loop (fun m ts hh => ∃ (j : Nat) (W : Nat) (o : Own) (l' : List Blk) (t : List (TypeId × Nat × Nat)),m = ins.length - j ∧ j ≤ ins.length ∧ hh = ⟨.cells 39 [.str lin,.int .i64 ser,.sl 13 .no (ins.map Sf.Inst.cells),.sl 3 .no (ps.map Sf.Pend.cells),.sl 7 .no (os.map Sf.Outp.cells)] :: .cells 39 [.str [],.int .i64 0,.sl 0 .nil [],.sl 0 .nil [],.sl 0 .nil []] :: .cells 39 [.str lin,.int .i64 ser,.sl W o ((ins.take j).map Sf.Inst.cells),.sl 3 .no (ps.map Sf.Pend.cells),.sl 7 .no (os.map Sf.Outp.cells)] :: l',t⟩ ∧ Gs 73 13 0 ⟨[],t⟩ ((ins.take j).map Sf.Inst.cells) (.sl W o ((ins.take j).map Sf.Inst.cells)) ∧
  (ts 1 = .ptr 0 0 ∧ ts 2 = .ptr 1 0 ∧ ts 3 = .ptr 2 0 ∧ ts 18 = .sl 13 .no (ins.map Sf.Inst.cells) ∧ ts 19 = .int .i64 (ins.length : Nat) ∧ ts 20 = .int .i64 (j : Nat))) ins.length ?_ ?_
 ·exact ⟨0,0,.nil,[],[],rfl,Nat.zero_le _,rfl,.inl ⟨rfl,rfl⟩,by (exact inv0 li)⟩
 rintro m ts hh ⟨j,W,o,l',t,rfl,hj,rfl,gX,ht⟩
 rcases Nat.lt_or_ge j ins.length with hlt | hge
 ·have hf:=rowj_at Sf.Inst.cells ins j hlt (by omega)
  have hx:=hio _ (List.getElem_mem hlt)
  have cx:=a_srecord _ hx.1 hx.2
  have em : (ins.take j).map Sf.Inst.cells ++ [Sf.Inst.cells ins[j]] = (ins.take (j + 1)).map Sf.Inst.cells:=by
   have e : ins.take (j + 1) = ins.take j ++ [ins[j]]:=(List.take_append_getElem hlt).symm
   rw [e,List.map_append]; rfl
  obtain ⟨W',o',t',hX,gX',_⟩:=gX.grow 184 (Sf.Inst.cells ins[j]) (by rw [List.length_map,List.length_take]; omega) (by decide)
  rw [em] at gX'
  simp only [em] at hX
  clear em gX hx
  obtain ⟨x,hx⟩ : ∃ x,ins[j] = x:=⟨_,rfl⟩
  rw [hx] at hf cx hX
  obtain ⟨b1,b2,b3,b4,⟨jk2,jn,js,jis,jks⟩,jv,jtn,jfi,jds⟩:=x
  simp only [Sf.Inst.cells] at hf cx hX
  refine runc0 (ai ht (ai hf hX)) (ai cx ti) ?_
  exact ⟨_,by omega,j + 1,W',o',_,t',rfl,by omega,rfl,gX',by (exact inv0 (ai ht hf))⟩
 have hf:=rowj_end Sf.Inst.cells ins j hge
 rw [List.take_of_length_le hge] at gX ⊢
 have lX:=Gs.le gX
 refine runc0 (ai ht hf) ti ?_
 exact ⟨.agg [.str lin,.int .i64 ser,.sl 13 .no (ins.map Sf.Inst.cells),.sl 3 .no (ps.map Sf.Pend.cells),.sl 7 .no (os.map Sf.Outp.cells)],⟨le1_refl _,le1_refl _,lX,le1_refl _,le1_refl _,trivial⟩,rfl⟩
theorem a_ssetouts (st : Sf.St) (hf : StFew st) (h : Hp) : ACall Tryz.prog GT 141 [st.A,.sl 7 .no (st.outs.map Sf.Outp.cells)] h fun r h' => r = st.A ∧ h' = h:=by
 have cc:=a_sclone st hf
 have co:=a_soutputs st.outs hf.os.1 hf.os.2
 clear hf
 obtain ⟨lin,ser,ins,ps,os⟩:=st
 simp only [Sf.St.A] at cc ⊢
 refine pcall ?_ rfl (by simp [A.pure,A.data]) h
 refine acall_of mixedT h_ssetouts (by simp [c_ssetouts]) ?_
 dsimp only [c_ssetouts]
 refine runc0 ti (ai cc (ai co ti)) ?_
 exact ⟨_,le_refl _,rfl⟩
def c_rcopied : AX.AFn:=⟨7,aS [aR 1 (.box 39 (.t 0)),aR 2 (.alloc 39 [.str [],.int .i64 0,.sl 0 .nil [],.sl 0 .nil [],.sl 0 .nil []])] (aS [aR 3 (.load true 5 (.t 1)),aF 4 4 1,aL 5 4,aR 6 (.call 141 [.t 3,.t 5]),aU (.store 5 (.t 2) (.t 6))] (.ret)),[.c 2 true 5]⟩
theorem h_rcopied : AX.compFn Tryz.prog 79 = some c_rcopied:=by kernel_rfl
def c_replay : AX.AFn:=⟨74,aS [aR 2 (.box 39 (.t 0)),aR 4 (.alloc 39 [.str [],.int .i64 0,.sl 0 .nil [],.sl 0 .nil [],.sl 0 .nil []]),aR 5 (.mv (aI 0))] (.seq (aS [aR 14 (.load true 5 (.t 2)),aR 15 (.call 58 [.t 14]),aR 16 (.bin .neq (.t 15) (aI 0))] (.cond (.t 16) (aS [aR 17 (.build [.str [],.int .i64 0,.sl 0 .nil [],.sl 0 .nil [],.sl 0 .nil []] []),aU (.store 5 (.t 4) (.t 17)),aR 5 (.mv (aI 1))] (.ret)) (.skip))) (.seq (aS [aM 18 1,aR 19 (.call 29 [.t 18]),aM 6 19] (aS [aM 20 6,aR 21 (.bin .neq (.t 20) (aI 0))] (.cond (.t 21) (aS [aR 22 (.build [.str [],.int .i64 0,.sl 0 .nil [],.sl 0 .nil [],.sl 0 .nil []] []),aM 23 6,aU (.store 5 (.t 4) (.t 22)),aM 5 23] (.ret)) (.skip)))) (.seq (aS [aM 24 1,aR 25 (.len false (.t 24)),aR 26 (.bin .eql (.t 25) (aI 0))] (.cond (.t 26) (aS [aR 27 (.load true 5 (.t 2)),aR 28 (.call 79 [.t 27]),aU (.store 5 (.t 4) (.t 28)),aR 5 (.mv (aI 0))] (.ret)) (.skip))) (aS [aR 29 (.load true 5 (.t 2)),aR 30 (.mkmap),aR 31 (.build [.str [],.int .i64 0,.sl 0 .nil [],.sl 0 .nil [],.sl 0 .nil [],.nilm] [(0,5,.t 29),(5,1,.t 30)]),aR 32 (.box 128 (.t 31)),aM 7 32] (.seq (aS [aM 33 1,aR 34 (.len false (.t 33)),aR 35 (.mv (aI 0))] (.block 0 (.loop (aS [aR 36 (.bin .lss (.t 35) (.t 34))] (.seq (.cond (.t 36) (.skip) (.exit 0)) (.seq (.block 1 (aS [aR 37 (.iaddr 26 (.t 33) (.t 35)),aR 38 (.load true 26 (.t 37)),aR 9 (.alloc 75 [.int .i64 0,.str [],.int .i64 0,.sl 0 .nil [],.sl 0 .nil [],.sl 0 .nil [],.int .i64 0,.int .i64 0,.str [],.str [],.str [],.str [],.int .i64 0,.str [],.str [],.str [],.str [],.int .i64 0,.int .i64 0,.str [],.sl 0 .nil [],.sl 0 .nil [],.int .i64 0,.bool false,.bool false,.sl 0 .nil []]),aU (.store 26 (.t 9) (.t 38))] (aS [aM 39 7,aR 40 (.load true 26 (.t 9)),aR 41 (.call 80 [.t 39,.t 40]),aM 10 41] (aS [aM 42 10,aR 43 (.bin .neq (.t 42) (aI 0))] (.cond (.t 43) (aS [aR 44 (.build [.str [],.int .i64 0,.sl 0 .nil [],.sl 0 .nil [],.sl 0 .nil []] []),aM 45 10,aU (.store 5 (.t 4) (.t 44)),aM 5 45] (.ret)) (.skip)))))) (.reg false [aR 46 (.bin .add (.t 35) (aI 1)),aM 35 46]))))))) (.seq (aS [aM 47 1,aR 48 (.call 31 [.t 47]),aR 49 (.len false (.t 48)),aR 50 (.mv (aI 0))] (.block 2 (.loop (aS [aR 51 (.bin .lss (.t 50) (.t 49))] (.seq (.cond (.t 51) (.skip) (.exit 2)) (.seq (.block 3 (aS [aR 52 (.iaddr 26 (.t 48) (.t 50)),aR 53 (.load true 26 (.t 52)),aR 12 (.alloc 75 [.int .i64 0,.str [],.int .i64 0,.sl 0 .nil [],.sl 0 .nil [],.sl 0 .nil [],.int .i64 0,.int .i64 0,.str [],.str [],.str [],.str [],.int .i64 0,.str [],.str [],.str [],.str [],.int .i64 0,.int .i64 0,.str [],.sl 0 .nil [],.sl 0 .nil [],.int .i64 0,.bool false,.bool false,.sl 0 .nil []]),aU (.store 26 (.t 12) (.t 53))] (aS [aF 54 7 12,aL 55 54,aR 56 (.bin .eql (.t 55) (aI 1))] (.cond (.t 56) (.reg false [aM 57 7,aR 58 (.load true 26 (.t 12)),aR 59 (.call 81 [.t 57,.t 58])]) (.skip))))) (.reg false [aR 60 (.bin .add (.t 50) (aI 1)),aM 50 60]))))))) (aS [aM 61 7,aR 62 (.nilck (.t 61)),aF 63 0 62,aR 64 (.load true 5 (.t 63)),aR 65 (.call 79 [.t 64]),aR 13 (.alloc 39 [.str [],.int .i64 0,.sl 0 .nil [],.sl 0 .nil [],.sl 0 .nil []]),aU (.store 5 (.t 13) (.t 65))] (aS [aM 66 1,aR 67 (.iaddr 26 (.t 66) (aI 0)),aF 68 1 67,aF 69 1 68,aL 70 69,aR 71 (.bin .add (.t 70) (aI 1)),aF 72 1 13,aU (.store 1 (.t 72) (.t 71))] (aS [aR 73 (.load true 5 (.t 13)),aU (.store 5 (.t 4) (.t 73)),aR 5 (.mv (aI 0))] (.ret)))))))))),[.c 4 true 5,.t 5]⟩
theorem h_replay : AX.compFn Tryz.prog 38 = some c_replay:=by kernel_rfl
def c_ropen : AX.AFn:=⟨40,aS [aR 2 (.box 39 (.t 0)),aR 4 (.alloc 39 [.str [],.int .i64 0,.sl 0 .nil [],.sl 0 .nil [],.sl 0 .nil []]),aR 5 (.mv (.c (.bool false))),aR 6 (.mv (aI 0))] (aS [aM 12 1,aR 13 (.call 63 [.t 12]),aM 11 13,aE 14 11 0,aE 15 11 1,aM 7 14,aM 8 15] (aS [aR 17 (.load true 5 (.t 2)),aM 18 7,aR 19 (.call 38 [.t 17,.t 18]),aM 16 19,aE 20 16 0,aE 21 16 1,aR 9 (.alloc 39 [.str [],.int .i64 0,.sl 0 .nil [],.sl 0 .nil [],.sl 0 .nil []]),aU (.store 5 (.t 9) (.t 20)),aM 10 21] (.seq (aS [aM 22 10,aR 23 (.bin .neq (.t 22) (aI 0))] (.cond (.t 23) (aS [aR 24 (.build [.str [],.int .i64 0,.sl 0 .nil [],.sl 0 .nil [],.sl 0 .nil []] []),aM 25 10,aU (.store 5 (.t 4) (.t 24)),aR 5 (.mv (.c (.bool false))),aM 6 25] (.ret)) (.skip))) (.seq (.reg true [aR 26 (.load true 5 (.t 9)),aM 27 7,⟨some 28,.len false (.t 27),none,[1]⟩,⟨some 29,.bin .gtr (.t 28) (aI 0),none,[2]⟩,⟨some 30,.mv (.t 29),none,[3]⟩,⟨some 31,.mv (.t 7),some (30,true),[4]⟩,⟨some 32,.mv (.t 7),some (30,true),[4]⟩,⟨some 33,.len false (.t 32),some (30,true),[6,4]⟩,⟨some 34,.bin .sub (.t 33) (aI 1),some (30,true),[7,4]⟩,⟨some 35,.iaddr 26 (.t 31) (.t 34),some (30,true),[5,8,4]⟩,⟨some 36,.faddr 0 (.t 35),some (30,true),[9,4]⟩,⟨some 37,.load false 1 (.t 36),some (30,true),[10,4]⟩,⟨some 38,.bin .neq (.t 37) (aI 5),some (30,true),[11,4]⟩,⟨some 39,.pick (.t 30) (.t 38) (.c (.bool false)),none,[4,12]⟩,⟨none,.store 5 (.t 4) (.t 26),none,[0,4,0]⟩,⟨some 5,.mv (.t 39),none,[13,14,0,1,2,3,4,5,6,7,8,9,10,11,12,13,14]⟩,⟨some 6,.mv (aI 0),none,[15,0,1,2,3,4,5,6,7,8,9,10,11,12,13,14,15]⟩]) (.ret))))),[.c 4 true 5,.t 5,.t 6]⟩
theorem h_ropen : AX.compFn Tryz.prog 39 = some c_ropen:=by kernel_rfl
def c_jread : AX.AFn:=⟨28,aS [aR 2 (.mv (.c (.sl 0 .nil []))),aR 3 (.mv (aI 0))] (aS [aR 4 (.mv (.c (.sl 0 .nil [])))] (aS [aR 5 (.mv (aI 0))] (.block 0 (.loop (.block 1 (aS [aM 10 0,aM 11 5,aR 12 (.ssl (.t 10) (some (.t 11)) none),aR 13 (.call 122 [.t 12]),aM 9 13,aE 14 9 0,aE 15 9 1,aE 16 9 2,aR 6 (.alloc 75 [.int .i64 0,.str [],.int .i64 0,.sl 0 .nil [],.sl 0 .nil [],.sl 0 .nil [],.int .i64 0,.int .i64 0,.str [],.str [],.str [],.str [],.int .i64 0,.str [],.str [],.str [],.str [],.int .i64 0,.int .i64 0,.str [],.sl 0 .nil [],.sl 0 .nil [],.int .i64 0,.bool false,.bool false,.sl 0 .nil []]),aU (.store 26 (.t 6) (.t 14)),aM 7 15,aM 8 16] (.seq (aS [aM 17 8,aR 18 (.un .not (.t 17))] (.cond (.t 18) (aS [aM 19 4,aM 20 5,aM 2 19,aM 3 20] (.ret)) (.skip))) (aS [aM 21 4,aR 22 (.load true 26 (.t 6)),aR 23 (.mks 26 [.t 22]),aR 24 (.app 75 26 376 (.t 21) (.t 23)),aM 4 24] (.reg false [aM 25 5,aM 26 7,aR 27 (.bin .add (.t 25) (.t 26)),aM 5 27]))))))))),[.t 2,.t 3]⟩
theorem h_jread : AX.compFn Tryz.prog 63 = some c_jread:=by kernel_rfl
def c_jfirst : AX.AFn:=⟨64,aS [aR 2 (.alloc 75 [.int .i64 0,.str [],.int .i64 0,.sl 0 .nil [],.sl 0 .nil [],.sl 0 .nil [],.int .i64 0,.int .i64 0,.str [],.str [],.str [],.str [],.int .i64 0,.str [],.str [],.str [],.str [],.int .i64 0,.int .i64 0,.str [],.sl 0 .nil [],.sl 0 .nil [],.int .i64 0,.bool false,.bool false,.sl 0 .nil []]),aR 3 (.mv (aI 0)),aR 4 (.mv (.c (.bool false)))] (.seq (aS [aM 12 0,aR 13 (.bin .eql (.t 12) (.c (.str [])))] (.cond (.t 13) (aS [aR 14 (.build [.int .i64 0,.str [],.int .i64 0,.sl 0 .nil [],.sl 0 .nil [],.sl 0 .nil [],.int .i64 0,.int .i64 0,.str [],.str [],.str [],.str [],.int .i64 0,.str [],.str [],.str [],.str [],.int .i64 0,.int .i64 0,.str [],.sl 0 .nil [],.sl 0 .nil [],.int .i64 0,.bool false,.bool false,.sl 0 .nil []] []),aU (.store 26 (.t 2) (.t 14)),aR 3 (.mv (aI 0)),aR 4 (.mv (.c (.bool false)))] (.ret)) (.skip))) (aS [aM 15 0,aR 16 (.call 98 [.t 15]),aM 5 16] (aS [aM 17 5,aR 18 (.call 172 [.t 17]),aM 6 18] (aS [aM 19 0,aR 20 (.len true (.t 19)),aM 21 5,aR 22 (.call 102 [.t 21]),aR 23 (.bin .sub (.t 20) (.t 22)),aR 24 (.bin .add (.t 23) (aI 4)),aM 7 24] (.seq (aS [aM 25 5,aR 26 (.call 167 [.t 25]),aR 27 (.bin .neq (.t 26) (aI 0)),aM 28 27,aG 29 (.mv (.t 7)) 28 false,aG 30 (.mv (.t 0)) 28 false,aG 31 (.len true (.t 30)) 28 false,aG 32 (.bin .gtr (.t 29) (.t 31)) 28 false,aR 33 (.pick (.t 28) (.c (.bool true)) (.t 32)),aM 34 33,aG 35 (.mv (.t 7)) 34 false,aG 36 (.bin .gtr (.t 35) (aI 1048576)) 34 false,aR 37 (.pick (.t 34) (.c (.bool true)) (.t 36))] (.cond (.t 37) (aS [aR 38 (.build [.int .i64 0,.str [],.int .i64 0,.sl 0 .nil [],.sl 0 .nil [],.sl 0 .nil [],.int .i64 0,.int .i64 0,.str [],.str [],.str [],.str [],.int .i64 0,.str [],.str [],.str [],.str [],.int .i64 0,.int .i64 0,.str [],.sl 0 .nil [],.sl 0 .nil [],.int .i64 0,.bool false,.bool false,.sl 0 .nil []] []),aU (.store 26 (.t 2) (.t 38)),aR 3 (.mv (aI 0)),aR 4 (.mv (.c (.bool false)))] (.ret)) (.skip))) (aS [aM 40 6,aR 41 (.call 193 [.t 40]),aM 39 41,aE 42 39 0,aE 43 39 1,aR 8 (.alloc 75 [.int .i64 0,.str [],.int .i64 0,.sl 0 .nil [],.sl 0 .nil [],.sl 0 .nil [],.int .i64 0,.int .i64 0,.str [],.str [],.str [],.str [],.int .i64 0,.str [],.str [],.str [],.str [],.int .i64 0,.int .i64 0,.str [],.sl 0 .nil [],.sl 0 .nil [],.int .i64 0,.bool false,.bool false,.sl 0 .nil []]),aU (.store 26 (.t 8) (.t 42)),aM 9 43] (.seq (aS [aM 44 9,aR 45 (.un .not (.t 44))] (.cond (.t 45) (aS [aR 46 (.build [.int .i64 0,.str [],.int .i64 0,.sl 0 .nil [],.sl 0 .nil [],.sl 0 .nil [],.int .i64 0,.int .i64 0,.str [],.str [],.str [],.str [],.int .i64 0,.str [],.str [],.str [],.str [],.int .i64 0,.int .i64 0,.str [],.sl 0 .nil [],.sl 0 .nil [],.int .i64 0,.bool false,.bool false,.sl 0 .nil []] []),aU (.store 26 (.t 2) (.t 46)),aR 3 (.mv (aI 0)),aR 4 (.mv (.c (.bool false)))] (.ret)) (.skip))) (aS [aR 48 (.load true 26 (.t 8)),aR 49 (.call 62 [.t 48]),aM 47 49,aE 50 47 0,aE 51 47 1,aM 10 50,aM 11 51] (.seq (aS [aM 52 11,aR 53 (.bin .neq (.t 52) (aI 0)),aM 54 53,aG 55 (.mv (.t 10)) 54 false,aG 56 (.mv (.t 0)) 54 false,aG 57 (.mv (.t 7)) 54 false,aG 58 (.ssl (.t 56) none (some (.t 57))) 54 false,aG 59 (.bin .neq (.t 55) (.t 58)) 54 false,aR 60 (.pick (.t 54) (.c (.bool true)) (.t 59))] (.cond (.t 60) (aS [aR 61 (.build [.int .i64 0,.str [],.int .i64 0,.sl 0 .nil [],.sl 0 .nil [],.sl 0 .nil [],.int .i64 0,.int .i64 0,.str [],.str [],.str [],.str [],.int .i64 0,.str [],.str [],.str [],.str [],.int .i64 0,.int .i64 0,.str [],.sl 0 .nil [],.sl 0 .nil [],.int .i64 0,.bool false,.bool false,.sl 0 .nil []] []),aU (.store 26 (.t 2) (.t 61)),aR 3 (.mv (aI 0)),aR 4 (.mv (.c (.bool false)))] (.ret)) (.skip))) (aS [aR 62 (.load true 26 (.t 8)),aM 63 7,aU (.store 26 (.t 2) (.t 62)),aM 3 63,aR 4 (.mv (.c (.bool true)))] (.ret))))))))))),[.c 2 true 26,.t 3,.t 4]⟩
theorem h_jfirst : AX.compFn Tryz.prog 122 = some c_jfirst:=by kernel_rfl
def c_lfew50 : AX.AFn:=⟨55,aS [aR 2 (.box 39 (.t 0)),aR 4 (.mv (.c (.bool false)))] (.seq (aS [aF 7 2 2,aL 8 7,aR 9 (.len false (.t 8)),aR 10 (.bin .gtr (.t 9) (aI 20)),aM 11 10,aG 12 (.faddr 3 (.t 2)) 11 false,aG 13 (.load false 1 (.t 12)) 11 false,aG 14 (.len false (.t 13)) 11 false,aG 15 (.bin .gtr (.t 14) (aI 20)) 11 false,aR 16 (.pick (.t 11) (.c (.bool true)) (.t 15)),aM 17 16,aG 18 (.faddr 4 (.t 2)) 17 false,aG 19 (.load false 1 (.t 18)) 17 false,aG 20 (.len false (.t 19)) 17 false,aG 21 (.bin .gtr (.t 20) (aI 20)) 17 false,aR 22 (.pick (.t 17) (.c (.bool true)) (.t 21)),aM 23 22,aG 24 (.mv (.t 1)) 23 false,aG 25 (.len false (.t 24)) 23 false,aG 26 (.bin .gtr (.t 25) (aI 40)) 23 false,aR 27 (.pick (.t 23) (.c (.bool true)) (.t 26))] (.cond (.t 27) (aS [aR 4 (.mv (.c (.bool false)))] (.ret)) (.skip))) (.seq (aS [aR 5 (.mv (aI 0))] (.block 0 (.loop (.seq (aS [aM 28 5,aM 29 1,aR 30 (.len false (.t 29)),aR 31 (.bin .lss (.t 28) (.t 30))] (.cond (.t 31) (.skip) (.exit 0))) (.seq (.block 1 (aS [aM 34 1,aM 35 5,aR 36 (.iaddr 26 (.t 34) (.t 35)),aF 37 1 36,aR 38 (.load true 5 (.t 37)),aR 6 (.alloc 39 [.str [],.int .i64 0,.sl 0 .nil [],.sl 0 .nil [],.sl 0 .nil []]),aU (.store 5 (.t 6) (.t 38))] (aS [aF 39 2 6,aL 40 39,aR 41 (.len false (.t 40)),aR 42 (.bin .gtr (.t 41) (aI 20)),aM 43 42,aG 44 (.faddr 3 (.t 6)) 43 false,aG 45 (.load false 1 (.t 44)) 43 false,aG 46 (.len false (.t 45)) 43 false,aG 47 (.bin .gtr (.t 46) (aI 20)) 43 false,aR 48 (.pick (.t 43) (.c (.bool true)) (.t 47)),aM 49 48,aG 50 (.faddr 4 (.t 6)) 49 false,aG 51 (.load false 1 (.t 50)) 49 false,aG 52 (.len false (.t 51)) 49 false,aG 53 (.bin .gtr (.t 52) (aI 20)) 49 false,aR 54 (.pick (.t 49) (.c (.bool true)) (.t 53))] (.cond (.t 54) (aS [aR 4 (.mv (.c (.bool false)))] (.ret)) (.skip))))) (.reg false [aM 32 5,aR 33 (.bin .add (.t 32) (aI 1)),aM 5 33])))))) (aS [aR 4 (.mv (.c (.bool true)))] (.ret)))),[.t 4]⟩
theorem h_lfew50 : AX.compFn Tryz.prog 35 = some c_lfew50:=by kernel_rfl
def c_nothing50 : AX.AFn:=⟨51,aS [aR 1 (.box 39 (.t 0)),aR 2 (.mv (.c (.bool false)))] (.seq (aS [aR 8 (.load true 5 (.t 1)),aR 9 (.call 35 [.t 8,.c (.sl 0 .nil [])]),aR 10 (.un .not (.t 9)),aM 11 10,aG 12 (.load true 5 (.t 1)) 11 false,aG 13 (.call 36 [.t 12]) 11 false,aG 14 (.bin .neq (.t 13) (aI 0)) 11 false,aR 15 (.pick (.t 11) (.c (.bool true)) (.t 14))] (.cond (.t 15) (aS [aR 16 (.call 37 []),aM 2 16] (.ret)) (.skip))) (aS [aR 18 (.load true 5 (.t 1)),aR 19 (.call 38 [.t 18,.c (.sl 0 .nil [])]),aM 17 19,aE 20 17 0,aE 21 17 1,aR 3 (.alloc 39 [.str [],.int .i64 0,.sl 0 .nil [],.sl 0 .nil [],.sl 0 .nil []]),aU (.store 5 (.t 3) (.t 20)),aM 4 21] (aS [aR 23 (.load true 5 (.t 1)),aR 24 (.call 39 [.t 23,.c (.str [])]),aM 22 24,aE 25 22 0,aE 26 22 1,aE 27 22 2,aR 5 (.alloc 39 [.str [],.int .i64 0,.sl 0 .nil [],.sl 0 .nil [],.sl 0 .nil []]),aU (.store 5 (.t 5) (.t 25)),aM 6 26,aM 7 27] (aS [aM 28 4,aR 29 (.bin .eql (.t 28) (aI 0)),aM 30 29,aG 31 (.mv (.t 7)) 30 true,aG 32 (.bin .eql (.t 31) (aI 0)) 30 true,aR 33 (.pick (.t 30) (.t 32) (.c (.bool false))),aM 34 33,aG 35 (.mv (.t 6)) 34 true,aG 36 (.un .not (.t 35)) 34 true,aR 37 (.pick (.t 34) (.t 36) (.c (.bool false))),aM 38 37,aG 39 (.load true 5 (.t 3)) 38 true,aG 40 (.load true 5 (.t 1)) 38 true,aG 41 (.call 40 [.t 39,.t 40]) 38 true,aR 42 (.pick (.t 38) (.t 41) (.c (.bool false))),aM 43 42,aG 44 (.load true 5 (.t 5)) 43 true,aG 45 (.load true 5 (.t 1)) 43 true,aG 46 (.call 40 [.t 44,.t 45]) 43 true,aR 47 (.pick (.t 43) (.t 46) (.c (.bool false))),aM 48 47,aG 49 (.call 37 []) 48 true,aR 50 (.pick (.t 48) (.t 49) (.c (.bool false))),aM 2 50] (.ret))))),[.t 2]⟩
theorem h_nothing50 : AX.compFn Tryz.prog 6 = some c_nothing50:=by kernel_rfl
theorem a_rcopied (st : Sf.St) (hf : StFew st) (h : Hp) : ACall Tryz.prog GT 79 [st.A] h fun r h' => r = st.A ∧ h' = h:=by
 have cc:=a_ssetouts st hf
 clear hf
 obtain ⟨lin,ser,ins,ps,os⟩:=st
 simp only [Sf.St.A] at cc ⊢
 refine pcall ?_ rfl (by simp [A.pure,A.data]) h
 refine acall_of mixedT h_rcopied (by simp [c_rcopied]) ?_
 dsimp only [c_rcopied]
 refine runc0 ti (ai cc ti) ?_
 exact ⟨_,le_refl _,rfl⟩
theorem a_jfirst0 (h : Hp) : ACall Tryz.prog GT 122 [.str []] h fun r h' => r = .tup [.agg [.int .i64 0,.str [],.int .i64 0,.sl 0 .nil [],.sl 0 .nil [],.sl 0 .nil [],.int .i64 0,.int .i64 0,.str [],.str [],.str [],.str [],.int .i64 0,.str [],.str [],.str [],.str [],.int .i64 0,.int .i64 0,.str [],.sl 0 .nil [],.sl 0 .nil [],.int .i64 0,.bool false,.bool false,.sl 0 .nil []],.int .i64 0,.bool false] ∧ h' = h:=by
 refine pcall ?_ rfl (by simp [A.pure,A.data]) h
 refine acall_of mixedT h_jfirst (by simp [c_jfirst]) ?_
 dsimp only [c_jfirst]
 refine runc0 ti ti ?_
 exact ⟨_,le_refl _,rfl⟩
theorem a_jread0 (h : Hp) : ACall Tryz.prog GT 63 [.str []] h fun r h' => r = .tup [.sl 0 .nil [],.int .i64 0] ∧ h' = h:=by
 have c:=a_jfirst0
 refine pcall ?_ rfl (by simp [A.pure,A.data]) h
 refine acall_of mixedT h_jread (by simp [c_jread]) ?_
 dsimp only [c_jread]
 refine runc0 ti ti ?_
 refine go_once ?_
 refine runc0 ti (ai c ti) ?_
 exact ⟨_,le_refl _,rfl⟩
theorem a_replay0 (st : Sf.St) (hin : Sf.StIn st) (hf : StFew st) (hz : Sf.checkZ st = 0) (h : Hp) : ACall Tryz.prog GT 38 [st.A,.sl 0 .nil []] h fun r h' => r = .tup [st.A,.int .i64 0] ∧ h' = h:=by
 have c1:=a_stateCheck st hin
 have c2 : ∀ h,ACall Tryz.prog GT 29 [.sl 0 .nil []] h fun v h' => v = .int .i64 0 ∧ h' = h:=fun h => ACall.args (as':=[.sl 26 .no []]) ⟨⟨rfl,.inr rfl,.inl rfl⟩,trivial⟩ (a_jcheck [] (fun r hr => by simp at hr) (by simp) h)
 have c3:=a_rcopied st hf
 unfold SCheck at c1
 rw [hz] at c1
 clear hin hf hz
 obtain ⟨lin,ser,ins,ps,os⟩:=st
 simp only [Sf.St.A] at *
 refine pcall ?_ rfl (by simp [A.pure,A.data]) h
 refine acall_of mixedT h_replay (by simp [c_replay]) ?_
 dsimp only [c_replay]
 have z0 : (((0 : Nat) : Int) == 0) = true:=rfl
 refine runc0 z0 (ai c1 (ai c2 (ai c3 ti))) ?_
 exact ⟨_,le_refl _,rfl⟩
theorem a_ropen0 (st : Sf.St) (hin : Sf.StIn st) (hf : StFew st) (hz : Sf.checkZ st = 0) (h : Hp) : ACall Tryz.prog GT 39 [st.A,.str []] h fun r h' => r = .tup [st.A,.bool false,.int .i64 0] ∧ h' = h:=by
 have c1:=a_jread0
 have c2:=a_replay0 st hin hf hz
 clear hin hf hz
 obtain ⟨lin,ser,ins,ps,os⟩:=st
 simp only [Sf.St.A] at *
 refine pcall ?_ rfl (by simp [A.pure,A.data]) h
 refine acall_of mixedT h_ropen (by simp [c_ropen]) ?_
 dsimp only [c_ropen]
 have g0 : ¬ ((0 : Nat) : Int) > 0:=by decide
 refine runc0 g0 (ai c1 (ai c2 ti)) ?_
 refine gs_skipF (by decide +kernel) rfl (by (exact ev0 g0)) ?_
 refine runc0 g0 ti ?_
 exact ⟨_,le_refl _,rfl⟩
def few50 (s : Sf.St) : Bool:=!(decide ((s.insts.length : Int) > 20) || decide ((s.pends.length : Int) > 20) || decide ((s.outs.length : Int) > 20))
theorem a_few50 (st : Sf.St) (h : Hp) : ACall Tryz.prog GT 35 [st.A,.sl 0 .nil []] h fun r h' => r = .bool (few50 st) ∧ h' = h:=by
 obtain ⟨lin,ser,ins,ps,os⟩:=st
 unfold few50
 simp only [Sf.St.A]
 refine pcall ?_ rfl (by simp [A.pure,A.data]) h
 refine acall_of mixedT h_lfew50 (by simp [c_lfew50]) ?_
 dsimp only [c_lfew50]
 have lm1 : (ins.map Sf.Inst.cells).length = ins.length:=List.length_map _
 have lm2 : (ps.map Sf.Pend.cells).length = ps.length:=List.length_map _
 have lm3 : (os.map Sf.Outp.cells).length = os.length:=List.length_map _
 by_cases g1 : (ins.length : Int) > 20
 ·refine run0 (ai lm1 (ai lm2 (ai lm3 g1))) ?_
  exact ⟨_,le_refl _,by simp [g1,tupA]⟩
 by_cases g2 : (ps.length : Int) > 20
 ·refine run0 (ai lm1 (ai lm2 (ai lm3 (ai g1 g2)))) ?_
  exact ⟨_,le_refl _,by simp [g2,tupA]⟩
 by_cases g3 : (os.length : Int) > 20
 ·refine run0 (ai lm1 (ai lm2 (ai lm3 (ai g1 (ai g2 g3))))) ?_
  exact ⟨_,le_refl _,by simp [g3,tupA]⟩
 have g4 : ¬ ((0 : Nat) : Int) > 40:=by decide
 have g5 : ¬ (0 : Int) < ((0 : Nat) : Int):=by decide
 refine run0 (ai lm1 (ai lm2 (ai lm3 (ai g1 (ai g2 (ai g3 g4)))))) ?_
 refine go_once ?_
 refine run0 g5 ?_
 exact ⟨_,le_refl _,by simp [g1,g2,g3,tupA]⟩
theorem w_nothing0 (aw : ∀ h,ACall Tryz.prog GT 37 [] h fun r h' => r = .bool true ∧ h' = h) (st : Sf.St) (fit : Sf.Fit st) (hf : StFew st) :
  ACall Tryz.prog GT 6 [st.A] ⟨[],[]⟩ fun r _ => r = .bool true:=by
 have c0:=a_few50 st
 have c1:=a_r31check st fit.sin fit.tin
 have ce:=a_qequal st fit.sin
 have ca:=a_replay0 st fit.sin hf
 have cb:=a_ropen0 st fit.sin hf
 clear fit hf
 obtain ⟨Z,hZ⟩ : ∃ Z,Sf.checkZ st = Z:=⟨_,rfl⟩
 rw [hZ] at c1 ca cb
 obtain ⟨b,hb⟩ : ∃ b,few50 st = b:=⟨_,rfl⟩
 rw [hb] at c0
 clear hZ hb
 obtain ⟨lin,ser,ins,ps,os⟩:=st
 simp only [Sf.St.A] at *
 refine acall_of mixedT h_nothing50 (by simp [c_nothing50]) ?_
 dsimp only [c_nothing50]
 cases b
 ·refine runc0 ti (ai c0 (ai aw ti)) ?_
  exact ⟨_,le_refl _,rfl⟩
 by_cases hz : Z = 0
 ·subst hz
  have c2:=ca rfl
  have c3:=cb rfl
  refine runc0 ti (ai c0 (ai c1 (ai c2 (ai c3 (ai ce (ai aw ti)))))) ?_
  exact ⟨_,le_refl _,rfl⟩
 ·have e1 : (Z != 0) = true:=by simp [hz]
  refine runc0 e1 (ai c0 (ai c1 (ai aw ti))) ?_
  exact ⟨_,le_refl _,rfl⟩
theorem st_few {st : Sf.St} (hw : st.Wf) (hb : st.toD.bulk ≤ 1048576) : StFew st:=by
 have vf : ∀ x : Sf.Inst,x.toD.bulk ≤ 1500000 → x.attrs.few ∧ x.deps.length ≤ 1000000000:=fun x hx => by
  unfold Sf.Inst.toD at hx
  simp only [D.bulk,D.bulks] at hx
  have:=(strs_bulk x.deps).1
  exact ⟨V.few_of _ (by omega),by omega⟩
 have hb3:=hb
 unfold Sf.St.toD at hb3
 simp only [D.bulk,D.bulks] at hb3
 obtain ⟨i1,i2⟩:=map_bulk Sf.Inst.toD st.insts
 obtain ⟨p1,p2⟩:=map_bulk Sf.Pend.toD st.pends
 obtain ⟨o1,o2⟩:=map_bulk Sf.Outp.toD st.outs
 refine ⟨⟨by omega,fun x hx => vf x (by have:=i2 x hx; omega)⟩,by omega,by omega,fun x hx => ?_⟩
 have h1 : x.toD.bulk ≤ 1048576:=by have:=o2 x hx; omega
 unfold Sf.Outp.toD at h1
 simp only [D.bulk,D.bulks] at h1
 exact V.few_of _ (by omega)
end AX
end Go.Proofs.YteklhoajalgehaaGreatDoor
