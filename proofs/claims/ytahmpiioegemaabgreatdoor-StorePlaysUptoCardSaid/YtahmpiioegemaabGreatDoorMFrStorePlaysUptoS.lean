/- Part of what the proof needs. -/
import Derived.Test.YtahmpiioegemaabGreatDoorMFrStorePlaysUptoF
import Derived.Test.YtahmpiioegemaabGreatDoorMFrStorePlaysUptoH
import Derived.Test.YtahmpiioegemaabGreatDoorMFrStorePlaysUptoM
import Derived.Test.YtahmpiioegemaabGreatDoorMFrStorePlaysUptoN
import Derived.Test.YtahmpiioegemaabGreatDoorMFrStorePlaysUptoO
import Derived.Test.YtahmpiioegemaabGreatDoorMFrStorePlaysUptoP
import Derived.Test.YtahmpiioegemaabGreatDoorMFrStorePlaysUptoR
set_option maxHeartbeats 4000000
set_option linter.unusedSimpArgs false
set_option linter.unusedVariables false
set_option linter.unnecessarySimpa false
namespace Go.Proofs.YtahmpiioegemaabGreatDoor
open Go.RowKit
open Go.Op (bytesLess)
namespace AX
def c_r7known:AX.AFn:=⟨21,aS [aR 1 (.box 81 (.t 0)),aR 2 (.mv (.c (.bool false)))] (.seq (aS [aF 4 0 1,aL 5 4,aR 6 (.bin .eql (.t 5) (aI 6))] (.cond (.t 6) (aS [aR 2 (.mv (.c (.bool false)))] (.ret)) (.skip))) (.seq (aS [aR 3 (.mv (aI 0))] (.block 0 (.loop (.seq (aS [aM 7 3,aF 8 3 1,aL 9 8,aR 10 (.len false (.t 9)),aR 11 (.bin .lss (.t 7) (.t 10))] (.cond (.t 11) (.skip) (.exit 0))) (.seq (.block 1 (aS [aF 14 3 1,aL 15 14,aM 16 3,aR 17 (.iaddr 5 (.t 15) (.t 16)),aR 18 (.load true 5 (.t 17)),aR 19 (.call 175 [.t 18]),aR 20 (.un .not (.t 19))] (.cond (.t 20) (aS [aR 2 (.mv (.c (.bool false)))] (.ret)) (.skip)))) (.reg false [aM 12 3,aR 13 (.bin .add (.t 12) (aI 1)),aM 3 13])))))) (aS [aR 2 (.mv (.c (.bool true)))] (.ret)))),[.t 2]⟩
theorem h_r7known:AX.compFn Tryz.prog 175=some c_r7known:=by kernel_rfl
def c_r7bytes:AX.AFn:=⟨11,aS [aR 4 (.mv (aI 0))] (.seq (aS [aM 5 0,aM 6 1,aR 7 (.bin .lss (.t 5) (.t 6))] (.cond (.t 7) (aS [aR 4 (.mv (aI (-1)))] (.ret)) (.skip))) (.seq (aS [aM 8 0,aM 9 1,aR 10 (.bin .gtr (.t 8) (.t 9))] (.cond (.t 10) (aS [aR 4 (.mv (aI 1))] (.ret)) (.skip))) (aS [aR 4 (.mv (aI 0))] (.ret)))),[.t 4]⟩
theorem h_r7bytes:AX.compFn Tryz.prog 177=some c_r7bytes:=by kernel_rfl
def c_r31text:AX.AFn:=⟨9,aS [aR 2 (.mv (.c (.bool false)))] (aS [aM 3 0,aR 4 (.bin .neq (.t 3) (.c (.str []))),aM 5 4,aG 6 (.mv (.t 0)) 5 true,aG 7 (.call 47 [.t 6]) 5 true,aR 8 (.pick (.t 5) (.t 7) (.c (.bool false))),aM 2 8] (.ret)),[.t 2]⟩
theorem h_r31text:AX.compFn Tryz.prog 33=some c_r31text:=by kernel_rfl
def c_r31managed:AX.AFn:=⟨20,aS [aR 2 (.mv (.c (.str []))),aR 3 (.mv (.c (.bool false)))] (aS [aM 7 0,aR 8 (.call 197 [.t 7]),aM 6 8,aE 9 6 0,aE 10 6 1,aR 4 (.alloc 149 [.sl 0 .nil [],.bool false,.str [],.str [],.int .i64 0,.int .i64 0,.str []]),aU (.store 7 (.t 4) (.t 9)),aM 5 10] (.seq (.reg true [aF 11 2 4,⟨some 12,.load false 1 (.t 11),none,[0]⟩,aM 13 5,⟨some 14,.bin .eql (.t 13) (aI 0),none,[2]⟩,⟨some 15,.mv (.t 14),none,[3]⟩,⟨some 16,.faddr 1 (.t 4),some (15,true),[4]⟩,⟨some 17,.load false 1 (.t 16),some (15,true),[5,4]⟩,⟨some 18,.un .not (.t 17),some (15,true),[6,4]⟩,⟨some 19,.pick (.t 15) (.t 18) (.c (.bool false)),none,[4,7]⟩,⟨some 2,.mv (.t 12),none,[1,4,0,1]⟩,⟨some 3,.mv (.t 19),none,[8,9,0,1,2,3,4,5,6,7,8,9]⟩]) (.ret))),[.t 2,.t 3]⟩
theorem h_r31managed:AX.compFn Tryz.prog 172=some c_r31managed:=by kernel_rfl
def c_r31static:AX.AFn:=⟨17,aS [aR 2 (.mv (.c (.bool false)))] (aS [aM 6 0,aR 7 (.call 221 [.t 6]),aM 5 7,aE 8 5 0,aE 9 5 1,aM 3 8,aM 4 9] (aS [aM 10 4,aR 11 (.bin .eql (.t 10) (aI 0)),aM 12 11,aG 13 (.mv (.t 3)) 12 true,aG 14 (.mv (.t 0)) 12 true,aG 15 (.bin .eql (.t 13) (.t 14)) 12 true,aR 16 (.pick (.t 12) (.t 15) (.c (.bool false))),aM 2 16] (.ret))),[.t 2]⟩
theorem h_r31static:AX.compFn Tryz.prog 200=some c_r31static:=by kernel_rfl
def c_r31key:AX.AFn:=⟨20,aS [aR 2 (.mv (.c (.bool false)))] (aS [aM 6 0,aR 7 (.call 198 [.t 6]),aM 5 7,aE 8 5 0,aE 9 5 1,aM 3 8,aM 4 9] (aS [aM 10 0,aR 11 (.bin .eql (.t 10) (.c (.str []))),aM 12 11,aG 13 (.mv (.t 4)) 12 false,aG 14 (.bin .eql (.t 13) (aI 0)) 12 false,aG 15 (.mv (.t 14)) 12 false,aG 16 (.mv (.t 3)) 15 true,aG 17 (.bin .geq (.t 16) (aI 1)) 15 true,aG 18 (.pick (.t 15) (.t 17) (.c (.bool false))) 12 false,aR 19 (.pick (.t 12) (.c (.bool true)) (.t 18)),aM 2 19] (.ret))),[.t 2]⟩
theorem h_r31key:AX.compFn Tryz.prog 173=some c_r31key:=by kernel_rfl
def c_r31pend:AX.AFn:=⟨25,aS [aR 1 (.box 109 (.t 0)),aR 2 (.mv (aI 0))] (aS [aF 6 0 1,aL 7 6,aR 8 (.call 172 [.t 7]),aM 5 8,aE 9 5 0,aE 10 5 1,aM 3 9,aM 4 10] (.seq (aS [aF 11 2 1,aL 12 11,aR 13 (.call 33 [.t 12]),aR 14 (.un .not (.t 13)),aM 15 14,aG 16 (.mv (.t 4)) 15 false,aG 17 (.un .not (.t 16)) 15 false,aR 18 (.pick (.t 15) (.c (.bool true)) (.t 17)),aM 19 18,aG 20 (.faddr 1 (.t 1)) 19 false,aG 21 (.load false 1 (.t 20)) 19 false,aG 22 (.mv (.t 3)) 19 false,aG 23 (.bin .neq (.t 21) (.t 22)) 19 false,aR 24 (.pick (.t 19) (.c (.bool true)) (.t 23))] (.cond (.t 24) (aS [aR 2 (.mv (aI 1))] (.ret)) (.skip))) (aS [aR 2 (.mv (aI 0))] (.ret)))),[.t 2]⟩
theorem h_r31pend:AX.compFn Tryz.prog 150=some c_r31pend:=by kernel_rfl
def c_r31outp:AX.AFn:=⟨18,aS [aR 1 (.box 85 (.t 0)),aR 2 (.mv (aI 0))] (.seq (aS [aF 4 0 1,aL 5 4,aR 6 (.call 201 [.t 5]),aR 7 (.un .not (.t 6))] (.cond (.t 7) (aS [aR 2 (.mv (aI 7))] (.ret)) (.skip))) (.seq (aS [aF 8 1 1,aR 9 (.load true 5 (.t 8)),aR 10 (.call 174 [.t 9]),aM 3 10] (aS [aM 11 3,aR 12 (.bin .neq (.t 11) (aI 0))] (.cond (.t 12) (aS [aM 13 3,aM 2 13] (.ret)) (.skip)))) (.seq (aS [aF 14 1 1,aR 15 (.load true 5 (.t 14)),aR 16 (.call 175 [.t 15]),aR 17 (.un .not (.t 16))] (.cond (.t 17) (aS [aR 2 (.mv (aI 11))] (.ret)) (.skip))) (aS [aR 2 (.mv (aI 0))] (.ret))))),[.t 2]⟩
theorem h_r31outp:AX.compFn Tryz.prog 178=some c_r31outp:=by kernel_rfl
def c_r31before:AX.AFn:=⟨19,aS [aR 5 (.box 83 (.t 2)),aR 6 (.mv (aI 0))] (.seq (aS [aM 7 0,aF 8 0 5,aL 9 8,aR 10 (.bin .neq (.t 7) (.t 9))] (.cond (.t 10) (aS [aM 11 0,aF 12 0 5,aL 13 12,aR 14 (.call 177 [.t 11,.t 13]),aM 6 14] (.ret)) (.skip))) (aS [aM 15 1,aF 16 1 5,aL 17 16,aR 18 (.call 177 [.t 15,.t 17]),aM 6 18] (.ret))),[.t 6]⟩
theorem h_r31before:AX.compFn Tryz.prog 149=some c_r31before:=by kernel_rfl
theorem a_r7known:∀ (v:V),v.lens→∀ h,ACall Tryz.prog GT 175 [v.A] h fun r h'=>r = .bool (Sf.known v)∧h'=h:=by
 refine V.induct fun k n s is ks ih=>?_
 intro hlen h
 unfold V.lens at hlen
 have hall:=hlen.2.2.2.2
 have hisl:is.length≤9223372036854775807:=by have:=hlen.1; simp only [maxLen] at this; omega
 simp only [V.A,V.cells]
 refine pcall ?_ rfl (by simp [A.pure,A.data]) h
 refine acall_of mixedT h_r7known (by simp [c_r7known]) ?_
 dsimp only [c_r7known]
 obtain ⟨q,hq⟩:∃ q,Sf.known (.mk k n s is ks)=q:=⟨_,rfl⟩
 rw [hq]
 unfold Sf.known at hq
 by_cases h6:k=6
 ·have e1:(k == 6)=true:=by simp [h6]
  have:false=q:=by rw [←hq]; simp [h6]
  subst this
  refine runx0 e1 ti ?_
  exact ⟨_,le_refl _,rfl⟩
 have e1:(k == 6)=false:=by simp [h6]
 have hq':Sf.knowns is=q:=by rw [←hq]; simp [h6]
 refine runx0 e1 ti ?_
 refine awp_loop (fun m ts hh=>hh=⟨[.cells 81 [.int .i64 k,.int .i64 n,.str s,.sl 5 .no (V.cellss is),.sl 1 .no (strsA ks)]],[]⟩∧∃ j:Nat,m=is.length - j∧j≤is.length∧Sf.knowns (is.drop j)=q∧(ts 1 = .ptr 0 0∧ts 3 = .int .i64 (j:Nat))) is.length ?_ ?_
 ·exact ⟨rfl,0,rfl,Nat.zero_le _,hq',by (exact inv0 ti)⟩
 rintro m ts hh ⟨rfl,j,rfl,hj,hkn,ht⟩
 rcases Nat.lt_or_ge j is.length with hlt | hge
 ·have hf:(V.cellss is).length=is.length∧(j:Int) < (is.length:Int)∧(0:Int)≤(j:Int)∧(V.cellss is).getD j []=is[j].cells∧IntKind.i64.wrap ((j:Int)+1)=((j+1:Nat):Int):=
   ⟨V.cellss_length is,by omega,by omega,V.cellss_get is j hlt,by rw [wrap64 (by omega) (by omega)]; omega⟩
  have hc:=ih is[j] (List.getElem_mem hlt) (V.lensS_mem hall _ (List.getElem_mem hlt))
  rw [List.drop_eq_getElem_cons hlt] at hkn
  unfold Sf.knowns at hkn
  obtain ⟨x,hx⟩:∃ x,is[j]=x:=⟨_,rfl⟩
  rw [hx] at hf hc hkn
  obtain ⟨k1,n1,w1,vi,vy⟩:=x
  simp only [V.A,V.cells] at hf hc
  cases hK:Sf.known (.mk k1 n1 w1 vi vy) with
  | false =>
   rw [hK] at hc hkn
   have:false=q:=hkn
   subst this
   refine runx0 (ai ht hf) (ai hc ti) ?_
   exact ⟨_,le_refl _,rfl⟩
  | true =>
   rw [hK,Bool.true_and] at hkn
   rw [hK] at hc
   refine runx0 (ai ht hf) (ai hc ti) ?_
   exact ⟨_,by omega,rfl,j+1,rfl,by omega,hkn,by (exact inv0 (ai ht hf))⟩
 ·have hf:=ai (V.cellss_length is) (show ¬ (j:Int) < (is.length:Int) by omega)
  rw [List.drop_of_length_le hge] at hkn
  unfold Sf.knowns at hkn
  subst hkn
  refine runx0 (ai ht hf) ti ?_
  exact ⟨_,le_refl _,rfl⟩
def cmpB (a b:List UInt8):Int:=if bytesLess a b=true then -1 else if a=b then 0 else 1
theorem a_r7bytes (a b:List UInt8) (h:Hp):ACall Tryz.prog GT 177 [.str a,.str b] h fun r h'=>r = .int .i64 (cmpB a b)∧h'=h:=by
 refine pcall ?_ rfl (by simp [A.pure,A.data]) h
 refine acall_of mixedT h_r7bytes (by simp [c_r7bytes]) ?_
 dsimp only [c_r7bytes]
 unfold cmpB
 cases hl:bytesLess a b with
 | true =>
  refine runx0 hl ti ?_
  exact ⟨_,le_refl _,rfl⟩
 | false =>
  by_cases he:a=b
  ·have e1:(a == b)=true:=by simp [he]
   refine runx0 (ai hl e1) ti ?_
   exact ⟨_,le_refl _,by rw [if_neg (by decide),if_pos he]; rfl⟩
  ·have e1:(a == b)=false:=by simp [he]
   refine runx0 (ai hl e1) ti ?_
   exact ⟨_,le_refl _,by rw [if_neg (by decide),if_neg he]; rfl⟩
theorem a_r31text (s:List UInt8) (hs:s.length≤2000000) (h:Hp):ACall Tryz.prog GT 33 [.str s] h fun r h'=>r = .bool (Sf.text s)∧h'=h:=by
 have hv:=a_refValid s hs
 refine pcall ?_ rfl (by simp [A.pure,A.data]) h
 refine acall_of mixedT h_r31text (by simp [c_r31text]) ?_
 dsimp only [c_r31text]
 refine runx0 ti (ai hv ti) ?_
 exact ⟨_,le_refl _,rfl⟩
def isM (s:List UInt8):Bool:=(Adr.parse s).2 == 0&&!(Adr.parse s).1.data
theorem a_r31managed (s:List UInt8) (hs:s.length≤2000000) (h:Hp):ACall Tryz.prog GT 172 [.str s] h fun r h'=>r = .tup [.str (Adr.parse s).1.type,.bool (isM s)]∧h'=h:=by
 have hp:=a_r6parse s hs
 unfold isM
 obtain ⟨⟨⟨mods,data,ty,nm,⟨ka,kb,kc⟩⟩,e⟩,hP⟩:∃ p,Adr.parse s=p:=⟨_,rfl⟩
 rw [hP] at hp ⊢
 dsimp only [Adr.Ad.cells] at hp ⊢
 refine pcall ?_ rfl (by simp [A.pure,A.data]) h
 refine acall_of mixedT h_r31managed (by simp [c_r31managed]) ?_
 dsimp only [c_r31managed]
 refine runx0 ti (ai hp ti) ?_
 exact ⟨_,le_refl _,rfl⟩
theorem parse_in (s:List UInt8) (hs:s.length≤2000000):Adr.In (Adr.bare (Adr.parse s).1):=by
 by_cases h0:(Adr.parse s).2=0
 ·obtain ⟨n1,n2,n3,n4⟩:=Adr.parse_names s h0
  refine ⟨by simp [Adr.bare]; omega,fun x hx=>?_,by show (Adr.parse s).1.type.length≤_; omega,by show (Adr.parse s).1.name.length≤_; omega,by show ([]:List UInt8).length≤_; decide⟩
  simp only [Adr.bare,List.mem_map] at hx
  obtain ⟨y,hy,rfl⟩:=hx
  exact ⟨by have:=n1 y hy; dsimp only; omega,by show ([]:List UInt8).length≤_; decide⟩
 ·have hz:(Adr.parse s).1=Adr.Ad.zero:=by
   unfold Adr.parse at h0 ⊢
   split at h0
   ·split at h0
    ·next h1=>rw [if_pos h1]
    ·exact absurd rfl h0
   ·rfl
  rw [hz]
  exact ⟨by decide,by simp [Adr.bare,Adr.Ad.zero],by decide,by decide,by decide⟩
theorem a_r31static (s:List UInt8) (hs:s.length≤2000000) (h:Hp):ACall Tryz.prog GT 200 [.str s] h fun r h'=>r = .bool (Sf.staticB s)∧h'=h:=by
 have hp:=a_r6static s hs (parse_in s hs)
 unfold Sf.staticB
 refine pcall ?_ rfl (by simp [A.pure,A.data]) h
 refine acall_of mixedT h_r31static (by simp [c_r31static]) ?_
 dsimp only [c_r31static]
 refine runx0 ti (ai hp ti) ?_
 exact ⟨_,le_refl _,rfl⟩
theorem a_r31key (s:List UInt8) (hs:s.length≤2000000) (h:Hp):ACall Tryz.prog GT 173 [.str s] h fun r h'=>r = .bool (Sf.keyB s)∧h'=h:=by
 have hp:=a_r1parse s hs
 unfold Sf.keyB
 refine pcall ?_ rfl (by simp [A.pure,A.data]) h
 refine acall_of mixedT h_r31key (by simp [c_r31key]) ?_
 dsimp only [c_r31key]
 refine runx0 ti (ai hp ti) ?_
 exact ⟨_,le_refl _,rfl⟩
def prevS (l:List (List UInt8)):Nat→Option (List UInt8)
 | 0=>none
 | j+1=>l[j]?
theorem strs_at (l:List (List UInt8)) (j:Nat) (h:j < l.length) (hl:l.length≤4611686018427387904) :
  (strsA l).length=l.length∧(j:Int) < (l.length:Int)∧(0:Int)≤(j:Int)∧(strsA l).getD j []=[.str l[j]]∧IntKind.i64.wrap ((j:Int)+1)=((j+1:Nat):Int):=
 ⟨strsA_length l,by omega,by omega,strsA_get l j h,by rw [wrap64 (by omega) (by omega)]; omega⟩
theorem a_r31deps (l:List (List UInt8)) (hn:l.length≤1000000000) (hl:∀ s∈l,s.length≤2000000) (h:Hp):ACall Tryz.prog GT 176 [.sl 1 .no (strsA l)] h fun r h'=>r = .bool (Sf.depsB none l)∧h'=h:=by
 refine pcall ?_ rfl (by simp [A.pure,A.data]) h
 refine fo ?_
 obtain ⟨q,hq⟩:∃ q,Sf.depsB none l=q:=⟨_,rfl⟩
 rw [hq]
 refine runx0 ti ti ?_
 refine awp_loop (fun m ts hh=>hh=⟨[],[]⟩∧∃ j:Nat,m=l.length - j∧j≤l.length∧Sf.depsB (prevS l j) (l.drop j)=q∧(ts 0 = .sl 1 .no (strsA l)∧ts 3 = .int .i64 (j:Nat))) l.length ?_ ?_
 ·exact ⟨rfl,0,rfl,Nat.zero_le _,hq,by (exact inv0 ti)⟩
 rintro m ts hh ⟨rfl,j,rfl,hj,hd,ht⟩
 rcases Nat.lt_or_ge j l.length with hlt | hge
 ·have hf:=strs_at l j hlt (by omega)
  have hs:=hl _ (List.getElem_mem hlt)
  rw [List.drop_eq_getElem_cons hlt] at hd
  unfold Sf.depsB at hd
  have hnx:prevS l (j+1)=some l[j]:=List.getElem?_eq_getElem hlt
  obtain ⟨s,hs'⟩:∃ s,l[j]=s:=⟨_,rfl⟩
  rw [hs'] at hf hs hd hnx
  have cs:=a_r31static s hs
  cases hS:Sf.staticB s with
  | false =>
   rw [hS] at cs hd
   have:false=q:=hd
   subst this
   refine runx0 (ai ht hf) (ai cs ti) ?_
   exact ⟨_,le_refl _,rfl⟩
  | true =>
  rw [hS,Bool.true_and] at hd
  rw [hS] at cs
  cases j with
  | zero =>
   have:Sf.depsB (some s) (l.drop 1)=q:=hd
   have z0:¬ ((0:Nat):Int) > 0:=by decide
   refine runx0 (ai ht (ai hf z0)) (ai cs ti) ?_
   exact ⟨l.length - 1,by omega,rfl,1,rfl,by omega,by rw [hnx]; exact this,by (exact inv0 (ai ht hf))⟩
  | succ i =>
   have hi:i < l.length:=by omega
   have hpv:prevS l (i+1)=some l[i]:=List.getElem?_eq_getElem hi
   rw [hpv] at hd
   have g1:((i+1:Nat):Int) > 0∧IntKind.i64.wrap (((i+1:Nat):Int) - 1)=(i:Int)∧(i:Int) < (l.length:Int)∧(0:Int)≤(i:Int)∧(strsA l).getD i []=[.str l[i]]:=⟨by omega,by rw [wrap64 (by omega) (by omega)]; omega,by omega,by omega,strsA_get l i hi⟩
   obtain ⟨p,hp⟩:∃ p,l[i]=p:=⟨_,rfl⟩
   rw [hp] at hd g1
   have hb:Val.badB (some p) s=!bytesLess p s:=rfl
   rw [hb,Bool.not_not] at hd
   cases hB:bytesLess p s with
   | false =>
    rw [hB] at hd
    have:false=q:=hd
    subst this
    refine runx0 (ai ht (ai hf (ai g1 hB))) (ai cs ti) ?_
    exact ⟨_,le_refl _,rfl⟩
   | true =>
    rw [hB,Bool.true_and] at hd
    refine runx0 (ai ht (ai hf (ai g1 hB))) (ai cs ti) ?_
    exact ⟨_,by omega,rfl,i+1+1,rfl,by omega,by rw [hnx]; exact hd,by (exact inv0 (ai ht hf))⟩
 ·have hf:=ai (strsA_length l) (show ¬ (j:Int) < (l.length:Int) by omega)
  rw [List.drop_of_length_le hge] at hd
  unfold Sf.depsB at hd
  subst hd
  refine runx0 (ai ht hf) ti ?_
  exact ⟨_,le_refl _,rfl⟩
theorem managed_M (s t:List UInt8):Sf.managed s t=(isM s&&(Adr.parse s).1.type == t):=rfl
theorem ne_flip (a b:List UInt8):(a != b)=!(b == a):=by
 show (!(a == b))=!(b == a)
 congr 1
 rw [Bool.eq_iff_iff,beq_iff_eq,beq_iff_eq]
 exact eq_comm
theorem a_r31inst (x:Sf.Inst) (hx:Sf.InstIn x) (ht:x.typ.length≤2000000) (h:Hp):ACall Tryz.prog GT 148 [.agg x.cells] h fun r h'=>r = .int .i64 (Sf.instZ x)∧h'=h:=by
 have cm:=a_r31managed x.addr hx.a
 have ck:=a_r31key x.dep hx.d
 have ct:=a_r31text x.id hx.i
 have cc:=a_rCheck x.attrs hx.l
 have cn:=a_r7known x.attrs hx.l
 have cd:=a_r31deps x.deps (by have:=hx.n; omega) hx.ds
 obtain ⟨q,hq⟩:∃ q,Sf.instZ x=q:=⟨_,rfl⟩
 rw [hq]
 unfold Sf.instZ at hq
 rw [managed_M] at hq
 obtain ⟨a,d,id,ty,⟨k,n,w,vi,vy⟩,v,tn,fi,ds⟩:=x
 dsimp only at cm ck ct cd hq
 simp only [V.A,V.cells] at cc cn
 refine pcall ?_ rfl (by simp [A.pure,A.data,Sf.Inst.cells]) h
 refine fo ?_
 dsimp only [Sf.Inst.cells]
 obtain ⟨T,hT⟩:∃ T,(Adr.parse a).1.type=T:=⟨_,rfl⟩
 rw [hT] at cm hq
 cases hM:isM a with
 | false =>
  rw [hM] at cm hq
  rw [if_pos (by simp)] at hq
  subst hq
  refine runx0 ti (ai cm ti) ?_
  exact ⟨_,le_refl _,rfl⟩
 | true =>
 rw [hM,Bool.true_and] at hq
 rw [hM] at cm
 cases hK:Sf.keyB d with
 | false =>
  rw [hK] at ck hq
  rw [if_pos (by simp)] at hq
  subst hq
  refine runx0 ti (ai cm (ai ck ti)) ?_
  exact ⟨_,le_refl _,rfl⟩
 | true =>
 rw [hK] at ck hq
 cases hX:Sf.text id with
 | false =>
  rw [hX] at ct hq
  rw [if_pos (by simp)] at hq
  subst hq
  refine runx0 ti (ai cm (ai ck (ai ct ti))) ?_
  exact ⟨_,le_refl _,rfl⟩
 | true =>
 rw [hX] at ct hq
 simp only [Bool.not_true,Bool.or_false] at hq
 have hTy:(ty != T)=!(T == ty):=ne_flip ty T
 cases hE:(T == ty) with
 | false =>
  rw [hE] at hTy hq
  rw [if_pos (by decide)] at hq
  subst hq
  refine runx0 hTy (ai cm (ai ck (ai ct ti))) ?_
  exact ⟨_,le_refl _,rfl⟩
 | true =>
 rw [hE] at hTy hq
 rw [if_neg (by decide)] at hq
 have hTy':(ty != T)=false:=hTy
 by_cases hZ:Val.checkZ (.mk k n w vi vy)=0
 rotate_left
 ·obtain ⟨Z,hZZ⟩:∃ Z,Val.checkZ (.mk k n w vi vy)=Z:=⟨_,rfl⟩
  rw [hZZ] at cc hZ hq
  have e1:(Z != 0)=true:=by simp [hZ]
  rw [if_pos hZ] at hq
  subst hq
  refine runx0 (ai hTy' e1) (ai cm (ai ck (ai ct (ai cc ti)))) ?_
  exact ⟨_,le_refl _,rfl⟩
 rw [hZ] at cc
 rw [if_neg (by simp [hZ])] at hq
 have hkd:Sf.V.kind (.mk k n w vi vy)=k:=rfl
 rw [hkd] at hq
 by_cases h5:k=5
 rotate_left
 ·have e1:(k != 5)=true:=by simp [h5]
  rw [if_pos h5] at hq
  subst hq
  refine runx0 (ai hTy' e1) (ai cm (ai ck (ai ct (ai cc ti)))) ?_
  exact ⟨_,le_refl _,rfl⟩
 have e1:(k != 5)=false:=by simp [h5]
 rw [if_neg (by simp [h5])] at hq
 cases hN:Sf.known (.mk k n w vi vy) with
 | false =>
  rw [hN] at cn hq
  rw [if_pos (by decide)] at hq
  subst hq
  refine runx0 (ai hTy' e1) (ai cm (ai ck (ai ct (ai cc (ai cn ti))))) ?_
  exact ⟨_,le_refl _,rfl⟩
 | true =>
 rw [hN] at cn hq
 rw [if_neg (by decide)] at hq
 by_cases hv:v < 1∨9007199254740992 < v
 ·have e2:(decide (v < 1)||decide (v > 9007199254740992))=true:=by simpa using hv
  rw [if_pos hv] at hq
  subst hq
  refine runx0 (ai hTy' (ai e1 e2)) (ai cm (ai ck (ai ct (ai cc (ai cn ti))))) ?_
  exact ⟨_,le_refl _,rfl⟩
 have e2:(decide (v < 1)||decide (v > 9007199254740992))=false:=by simp; omega
 rw [if_neg hv] at hq
 cases hD:Sf.depsB none ds with
 | false =>
  rw [hD] at cd hq
  have:q=1:=by rw [←hq]; rfl
  subst this
  refine runx0 (ai hTy' (ai e1 e2)) (ai cm (ai ck (ai ct (ai cc (ai cn (ai cd ti)))))) ?_
  exact ⟨_,le_refl _,rfl⟩
 | true =>
  rw [hD] at cd hq
  have:q=0:=by rw [←hq]; rfl
  subst this
  refine runx0 (ai hTy' (ai e1 e2)) (ai cm (ai ck (ai ct (ai cc (ai cn (ai cd ti)))))) ?_
  exact ⟨_,le_refl _,rfl⟩
theorem a_r31pend (p:Sf.Pend) (ha:p.addr.length≤2000000) (hk:p.tok.length≤2000000) (h:Hp):ACall Tryz.prog GT 150 [.agg p.cells] h fun r h'=>r = .int .i64 (if Sf.pendB p=true then 0 else 1)∧h'=h:=by
 have cm:=a_r31managed p.addr ha
 have ct:=a_r31text p.tok hk
 unfold Sf.pendB
 rw [managed_M]
 obtain ⟨a,ty,tok⟩:=p
 dsimp only at cm ct ⊢
 refine pcall ?_ rfl (by simp [A.pure,A.data,Sf.Pend.cells]) h
 refine acall_of mixedT h_r31pend (by simp [c_r31pend]) ?_
 dsimp only [c_r31pend,Sf.Pend.cells]
 obtain ⟨T,hT⟩:∃ T,(Adr.parse a).1.type=T:=⟨_,rfl⟩
 rw [hT] at cm ⊢
 have hTy:(ty != T)=!(T == ty):=ne_flip ty T
 obtain ⟨b,hb⟩:∃ b,(T == ty)=b:=⟨_,rfl⟩
 rw [hb] at hTy ⊢
 obtain ⟨c,hc⟩:∃ c,Sf.text tok=c:=⟨_,rfl⟩
 obtain ⟨e,he⟩:∃ e,isM a=e:=⟨_,rfl⟩
 rw [hc] at ct ⊢
 rw [he] at cm ⊢
 cases c <;> cases e <;> cases b <;> ((refine runx0 hTy (ai cm (ai ct ti)) ?_); exact ⟨_,le_refl _,rfl⟩)
theorem a_r31outp (o:Sf.Outp) (hn:o.name.length≤2000000) (hl:o.value.lens) (h:Hp):ACall Tryz.prog GT 178 [.agg o.cells] h fun r h'=>r = .int .i64 (Sf.outZ o)∧h'=h:=by
 have ci:=a_r6ident o.name hn
 have cc:=a_rCheck o.value hl
 have cn:=a_r7known o.value hl
 obtain ⟨q,hq⟩:∃ q,Sf.outZ o=q:=⟨_,rfl⟩
 rw [hq]
 unfold Sf.outZ at hq
 obtain ⟨nm,⟨k,n,w,vi,vy⟩,sn⟩:=o
 dsimp only at ci hq
 simp only [V.A,V.cells] at cc cn
 refine pcall ?_ rfl (by simp [A.pure,A.data,Sf.Outp.cells]) h
 refine acall_of mixedT h_r31outp (by simp [c_r31outp]) ?_
 dsimp only [c_r31outp,Sf.Outp.cells]
 cases hI:Adr.ident nm with
 | false =>
  rw [hI] at ci hq
  rw [if_pos (by decide)] at hq
  subst hq
  refine runx0 ti (ai ci ti) ?_
  exact ⟨_,le_refl _,rfl⟩
 | true =>
 rw [hI] at ci hq
 rw [if_neg (by decide)] at hq
 by_cases hZ:Val.checkZ (.mk k n w vi vy)=0
 rotate_left
 ·obtain ⟨Z,hZZ⟩:∃ Z,Val.checkZ (.mk k n w vi vy)=Z:=⟨_,rfl⟩
  rw [hZZ] at cc hZ hq
  have e1:(Z != 0)=true:=by simp [hZ]
  rw [if_pos hZ] at hq
  subst hq
  refine runx0 e1 (ai ci (ai cc ti)) ?_
  exact ⟨_,le_refl _,rfl⟩
 rw [hZ] at cc
 rw [if_neg (by simp [hZ])] at hq
 cases hN:Sf.known (.mk k n w vi vy) with
 | false =>
  rw [hN] at cn hq
  rw [if_pos (by decide)] at hq
  subst hq
  refine runx0 ti (ai ci (ai cc (ai cn ti))) ?_
  exact ⟨_,le_refl _,rfl⟩
 | true =>
  rw [hN] at cn hq
  rw [if_neg (by decide)] at hq
  subst hq
  refine runx0 ti (ai ci (ai cc (ai cn ti))) ?_
  exact ⟨_,le_refl _,rfl⟩
def beforeZ (a d:List UInt8) (y:Sf.Inst):Int:=if a=y.addr then cmpB d y.dep else cmpB a y.addr
theorem a_r31before (a d:List UInt8) (y:Sf.Inst) (h:Hp):ACall Tryz.prog GT 149 [.str a,.str d,.agg y.cells] h fun r h'=>r = .int .i64 (beforeZ a d y)∧h'=h:=by
 have c1:=a_r7bytes a y.addr
 have c2:=a_r7bytes d y.dep
 unfold beforeZ
 obtain ⟨a',d',id,ty,⟨k,n,w,vi,vy⟩,v,tn,fi,ds⟩:=y
 dsimp only at c1 c2 ⊢
 refine pcall ?_ rfl (by simp [A.pure,A.data,Sf.Inst.cells]) h
 refine acall_of mixedT h_r31before (by simp [c_r31before]) ?_
 dsimp only [c_r31before,Sf.Inst.cells]
 by_cases he:a=a'
 ·have e1:(a != a')=false:=by simp [he]
  rw [if_pos he]
  refine runx0 e1 (ai c2 ti) ?_
  exact ⟨_,le_refl _,rfl⟩
 ·have e1:(a != a')=true:=by simp [he]
  rw [if_neg he]
  refine runx0 e1 (ai c1 ti) ?_
  exact ⟨_,le_refl _,rfl⟩
theorem cmp_pos (a b:List UInt8):decide (cmpB a b≤0)=!bytesLess b a:=by
 have h1:=Val.less_total a b
 unfold cmpB
 cases hl:bytesLess a b with
 | true =>
  rw [if_pos rfl]
  have h2:=Val.less_total b a
  rw [hl] at h2
  rw [h2]
  rfl
 | false =>
  rw [if_neg (by decide)]
  by_cases he:a=b
  ·subst he
   rw [if_pos rfl,Val.less_irrefl]
   rfl
  ·rw [if_neg he]
   rw [hl] at h1
   have:(b == a)=false:=by simpa using fun h=>he h.symm
   rw [this,Bool.or_false] at h1
   rw [←h1]
   rfl
theorem before_behind (x y:Sf.Inst):decide (beforeZ x.addr x.dep y≤0)=!Sf.behind y x:=by
 unfold beforeZ Sf.behind
 by_cases he:x.addr=y.addr
 ·rw [if_pos he,cmp_pos,he,Val.less_irrefl]
  simp
 ·rw [if_neg he,cmp_pos]
  have:(y.addr == x.addr)=false:=by simpa using fun h=>he h.symm
  rw [this,Bool.false_and,Bool.or_false]
end AX
end Go.Proofs.YtahmpiioegemaabGreatDoor

namespace Go.Proofs.YtahmpiioegemaabGreatDoor
namespace Wire
end Wire
namespace Val
end Val
namespace Sf
end Sf
end Go.Proofs.YtahmpiioegemaabGreatDoor

namespace Go.Proofs.YtahmpiioegemaabGreatDoor
open Go.RowKit
namespace Sf
theorem insts_zero:∀ (l:List Inst) (p:Option Inst),instsZ p l=0→∀ x∈l,instZ x=0
 | [],_,_=>by simp
 | x::l,p,h=>by
  unfold instsZ at h
  by_cases h1:instZ x=0
  rotate_left
  ·rw [if_pos h1] at h; exact absurd h h1
  ·rw [if_neg (by simp [h1])] at h
   have h':instsZ (some x) l=0:=by
    cases p with
    | none=>simpa using h
    | some y =>
     dsimp only at h
     cases hb:behind y x
     ·simp [hb] at h
     ·simpa [hb] using h
   ·intro y hy
    rcases List.mem_cons.1 hy with rfl | hy
    ·exact h1
    ·exact insts_zero l _ h' y hy
theorem outs_zero:∀ (l:List Outp) (p:Option (List UInt8)),outsZ p l=0→∀ x∈l,outZ x=0
 | [],_,_=>by simp
 | x::l,p,h=>by
  unfold outsZ at h
  split at h
  ·next h1=>exact absurd h h1
  ·next h1 =>
   split at h
   ·simp at h
   ·intro y hy
    rcases List.mem_cons.1 hy with rfl | hy
    ·simpa using h1
    ·exact outs_zero l _ h y hy
theorem inst_zero {x:Inst} (h:instZ x=0):Val.checkZ x.attrs=0∧1≤x.ver∧x.ver≤9007199254740992:=by
 unfold instZ at h
 split at h
 ·simp at h
 ·split at h
  ·next h1=>exact absurd h h1
  ·next h1 =>
   split at h
   ·simp at h
   ·split at h
    ·simp at h
    ·split at h
     ·simp at h
     ·next h2=>exact ⟨by simpa using h1,by omega,by omega⟩
theorem out_zero {x:Outp} (h:outZ x=0):Val.checkZ x.value=0:=by
 unfold outZ at h
 split at h
 ·simp at h
 ·split at h
  ·next h1=>exact absurd h h1
  ·next h1=>simpa using h1
theorem check_parts {s:St} (h:checkZ s=0):0≤s.ser∧s.ser≤9007199254740992∧s.insts.length≤512∧s.pends.length≤512∧s.outs.length≤512∧instsZ none s.insts=0∧pendsZ none s.pends=0∧outsZ none s.outs=0:=by
 unfold checkZ at h
 split at h
 ·simp at h
 ·split at h
  ·simp at h
  ·split at h
   ·simp at h
   ·split at h
    ·next h1=>exact absurd h h1
    ·split at h
     ·next h1=>exact absurd h h1
     ·next h1 h2 h3 h4 h5=>exact ⟨by omega,by omega,by omega,by omega,by omega,by simpa using h4,by simpa using h5,h⟩
theorem stOk_of {s:St} (h:checkZ s=0) (hin:AX.Sf.StIn s):AX.Sf.StOk s:=by
 obtain ⟨h1,h2,h3,h4,h5,h6,h7,h8⟩:=check_parts h
 refine ⟨fun x hx=>?_,fun x hx=>?_,by omega,by omega,by omega,by omega,by omega⟩
 ·obtain ⟨k1,k2,k3⟩:=inst_zero (insts_zero _ _ h6 x hx)
  exact ⟨⟨1,0,k1⟩,(hin.insts x hx).l,by omega,by omega⟩
 ·exact ⟨⟨1,0,out_zero (outs_zero _ _ h8 x hx)⟩,(hin.outs x hx).2⟩
end Sf
end Go.Proofs.YtahmpiioegemaabGreatDoor

namespace Go.Proofs.YtahmpiioegemaabGreatDoor
namespace Sf
structure TypIn (s:St):Prop where
 insts:∀ x∈s.insts,x.typ.length≤2000000
 pends:∀ x∈s.pends,x.typ.length≤2000000
end Sf
end Go.Proofs.YtahmpiioegemaabGreatDoor

namespace Go.Proofs.YtahmpiioegemaabGreatDoor
open Go.RowKit
open Go.Op (bytesLess)
namespace AX
theorem row_end6 {α:Type} (f:α→List A) (l:List α) (i:Nat) (h:l.length≤i):(l.map f).length=l.length∧¬ (i:Int) < (l.length:Int):=⟨List.length_map _,by omega⟩
def prevG {α:Type} (l:List α):Nat→Option α
 | 0=>none
 | j+1=>l[j]?
theorem prevG_succ {α:Type} (l:List α) (j:Nat) (h:j < l.length):prevG l (j+1)=some l[j]:=List.getElem?_eq_getElem h
theorem row_before {α:Type} (f:α→List A) (l:List α) (i:Nat) (h:i+1 < l.length) (hl:l.length≤4611686018427387904) :
  ((i+1:Nat):Int) > 0∧IntKind.i64.wrap (((i+1:Nat):Int) - 1)=(i:Int)∧(i:Int) < (l.length:Int)∧(0:Int)≤(i:Int)∧(l.map f).getD i []=f (l[i]'(by omega)):=
 ⟨by omega,by rw [wrap64 (by omega) (by omega)]; omega,by omega,by omega,map_getD f l i (by omega)⟩
theorem a_r31outs (l:List Sf.Outp) (hn:l.length≤1000000000) (ho:∀ o∈l,o.name.length≤2000000∧o.value.lens) (h:Hp):ACall Tryz.prog GT 151 [.sl 7 .no (l.map Sf.Outp.cells)] h fun r h'=>r = .int .i64 (Sf.outsZ none l)∧h'=h:=by
 refine pcall ?_ rfl (by simp [A.pure,A.data]) h
 refine fo ?_
 obtain ⟨q,hq⟩:∃ q,Sf.outsZ none l=q:=⟨_,rfl⟩
 rw [hq]
 refine runx0 ti ti ?_
 refine awp_loop (fun m ts hh=>hh=⟨[],[]⟩∧∃ j:Nat,m=l.length - j∧j≤l.length∧Sf.outsZ ((prevG l j).map Sf.Outp.name) (l.drop j)=q∧(ts 0 = .sl 7 .no (l.map Sf.Outp.cells)∧ts 3 = .int .i64 (j:Nat))) l.length ?_ ?_
 ·exact ⟨rfl,0,rfl,Nat.zero_le _,hq,by (exact inv0 ti)⟩
 rintro m ts hh ⟨rfl,j,rfl,hj,hd,ht⟩
 rcases Nat.lt_or_ge j l.length with hlt | hge
 ·have hf:=row_at6 Sf.Outp.cells l j hlt (by omega)
  have hox:=ho _ (List.getElem_mem hlt)
  rw [List.drop_eq_getElem_cons hlt] at hd
  unfold Sf.outsZ at hd
  have hnx:=prevG_succ l j hlt
  obtain ⟨x,hx⟩:∃ x,l[j]=x:=⟨_,rfl⟩
  rw [hx] at hf hox hd hnx
  have co:=a_r31outp x hox.1 hox.2
  obtain ⟨Z,hZ⟩:∃ Z,Sf.outZ x=Z:=⟨_,rfl⟩
  rw [hZ] at co hd
  have hxn:(some x).map Sf.Outp.name=some x.name:=rfl
  obtain ⟨nm,⟨k,n,w,vi,vy⟩,sn⟩:=x
  dsimp only [Sf.Outp.cells] at hf co hd hxn
  by_cases hz:Z=0
  rotate_left
  ·have e1:(Z != 0)=true:=by simp [hz]
   rw [if_pos hz] at hd
   subst hd
   refine runx0 (ai ht (ai hf e1)) (ai co ti) ?_
   exact ⟨_,le_refl _,rfl⟩
  have e1:(Z != 0)=false:=by simp [hz]
  rw [if_neg (by simp [hz])] at hd
  cases j with
  | zero =>
   have z0:¬ ((0:Nat):Int) > 0:=by decide
   have hd':Sf.outsZ (some nm) (l.drop 1)=q:=hd
   refine runx0 (ai ht (ai hf (ai e1 z0))) (ai co ti) ?_
   exact ⟨l.length - 1,by omega,rfl,1,rfl,by omega,by rw [hnx]; exact hd',by (exact inv0 (ai ht hf))⟩
  | succ i =>
   have hb:=row_before Sf.Outp.cells l i hlt (by omega)
   rw [prevG_succ l i (by omega)] at hd
   obtain ⟨y,hy⟩:∃ y,l[i]=y:=⟨_,rfl⟩
   rw [hy] at hb hd
   obtain ⟨nm2,⟨k2,n2,w2,vi2,vy2⟩,sn2⟩:=y
   dsimp only [Sf.Outp.cells,Option.map_some] at hb hd
   replace hd:(if (!bytesLess nm2 nm)=true then (1:Int) else Sf.outsZ (some nm) (l.drop (i+1+1)))=q:=hd
   cases hB:bytesLess nm2 nm with
   | false =>
    rw [hB,if_pos (by decide)] at hd
    subst hd
    refine runx0 (ai ht (ai hf (ai e1 (ai hb hB)))) (ai co ti) ?_
    exact ⟨_,le_refl _,rfl⟩
   | true =>
    rw [hB,if_neg (by decide)] at hd
    refine runx0 (ai ht (ai hf (ai e1 (ai hb hB)))) (ai co ti) ?_
    exact ⟨_,by omega,rfl,i+1+1,rfl,by omega,by rw [hnx]; exact hd,by (exact inv0 (ai ht hf))⟩
 ·have hf:=row_end6 Sf.Outp.cells l j hge
  rw [List.drop_of_length_le hge] at hd
  unfold Sf.outsZ at hd
  subst hd
  refine runx0 (ai ht hf) ti ?_
  exact ⟨_,le_refl _,rfl⟩
theorem a_r31check (st:Sf.St) (hin:Sf.StIn st) (htp:Sf.TypIn st) (h:Hp):ACall Tryz.prog GT 114 [st.A] h fun r h'=>r = .int .i64 (Sf.checkZ st)∧h'=h:=by
 obtain ⟨lin,ser,ins,ps,os⟩:=st
 obtain ⟨hl,hi,hp,ho,hni,hnp,hno⟩:=hin
 dsimp only at hl hi hp ho hni hnp hno
 have hti:=htp.insts
 have htp':=htp.pends
 dsimp only at hti htp'
 have ct:=a_r31text lin (by omega)
 have co:=a_r31outs os hno ho
 obtain ⟨q,hq⟩:∃ q,Sf.checkZ ⟨lin,ser,ins,ps,os⟩=q:=⟨_,rfl⟩
 rw [hq]
 unfold Sf.checkZ at hq
 dsimp only at hq
 obtain ⟨N,hN⟩:∃ N,Sf.instsZ none ins=N:=⟨_,rfl⟩
 obtain ⟨P,hP⟩:∃ P,Sf.pendsZ none ps=P:=⟨_,rfl⟩
 rw [hN,hP] at hq
 refine pcall ?_ rfl (by simp [A.pure,A.data,Sf.St.A]) h
 refine fo ?_
 dsimp only [Sf.St.A]
 have li:(ins.map Sf.Inst.cells).length=ins.length∧(ps.map Sf.Pend.cells).length=ps.length∧(os.map Sf.Outp.cells).length=os.length:=⟨List.length_map _,List.length_map _,List.length_map _⟩
 cases hT:Sf.text lin with
 | false =>
  rw [hT] at ct hq
  rw [if_pos (by decide)] at hq
  subst hq
  refine runx0 ti (ai ct ti) ?_
  exact ⟨_,le_refl _,rfl⟩
 | true =>
 rw [hT] at ct hq
 rw [if_neg (by decide)] at hq
 by_cases hs:ser < 0∨9007199254740992 < ser
 ·have e1:(decide (ser < 0)||decide (ser > 9007199254740992))=true:=by simpa using hs
  rw [if_pos hs] at hq
  subst hq
  refine runx0 e1 (ai ct ti) ?_
  exact ⟨_,le_refl _,rfl⟩
 have e1:(decide (ser < 0)||decide (ser > 9007199254740992))=false:=by simp; omega
 rw [if_neg hs] at hq
 by_cases hm:512 < ins.length∨512 < ps.length∨512 < os.length
 ·have e2:(decide ((ins.length:Int) > 512)||decide ((ps.length:Int) > 512)||decide ((os.length:Int) > 512))=true:=by simp; omega
  rw [if_pos hm] at hq
  subst hq
  refine runx0 (ai e1 (ai li e2)) (ai ct ti) ?_
  exact ⟨_,le_refl _,rfl⟩
 have e2:(decide ((ins.length:Int) > 512)||decide ((ps.length:Int) > 512)||decide ((os.length:Int) > 512))=false:=by simp; omega
 rw [if_neg hm] at hq
 refine runx0 (ai e1 (ai li e2)) (ai ct ti) ?_
 refine awp_loop (fun m ts hh=>∃ (j:Nat) (l:List Blk),m=ins.length - j∧j≤ins.length∧hh=⟨.cells 39 [.str lin,.int .i64 ser,.sl 13 .no (ins.map Sf.Inst.cells),.sl 3 .no (ps.map Sf.Pend.cells),.sl 7 .no (os.map Sf.Outp.cells)]::l,[]⟩ ∧
  Sf.instsZ (prevG ins j) (ins.drop j)=N∧(ts 1 = .ptr 0 0∧ts 3 = .int .i64 (j:Nat))) ins.length ?_ ?_
 ·exact ⟨0,[],rfl,Nat.zero_le _,rfl,hN,by (exact inv0 ti)⟩
 rintro m ts hh ⟨j,l,rfl,hj,rfl,hd,ht⟩
 rcases Nat.lt_or_ge j ins.length with hlt | hge
 ·have hf:=row_at6 Sf.Inst.cells ins j hlt (by omega)
  have hix:=hi _ (List.getElem_mem hlt)
  have htx:=hti _ (List.getElem_mem hlt)
  rw [List.drop_eq_getElem_cons hlt] at hd
  unfold Sf.instsZ at hd
  have hnx:=prevG_succ ins j hlt
  obtain ⟨x,hx⟩:∃ x,ins[j]=x:=⟨_,rfl⟩
  rw [hx] at hf hix htx hd hnx
  have ci:=a_r31inst x hix htx
  have cb:=fun y=>a_r31before x.addr x.dep y
  have hbf:=before_behind x
  obtain ⟨Z,hZ⟩:∃ Z,Sf.instZ x=Z:=⟨_,rfl⟩
  rw [hZ] at ci hd
  obtain ⟨x',hx'⟩:∃ x',x'=x:=⟨_,rfl⟩
  rw [←hx'] at hd hnx hbf
  obtain ⟨a,d,id,ty,⟨k,n,w,vi,vy⟩,v,tn,fi,ds⟩:=x
  have hxa:x'.addr=a∧x'.dep=d:=by rw [hx']; exact ⟨rfl,rfl⟩
  rw [hxa.1,hxa.2] at hbf
  dsimp only [Sf.Inst.cells] at hf ci cb
  by_cases hz:Z=0
  rotate_left
  ·have e3:(Z != 0)=true:=by simp [hz]
   rw [if_pos hz] at hd
   have:q=Z:=by rw [←hq,←hd,if_pos hz]
   subst this
   refine runx0 (ai ht (ai hf (ai li e3))) (ai ci ti) ?_
   exact ⟨_,le_refl _,rfl⟩
  have e3:(Z != 0)=false:=by simp [hz]
  rw [if_neg (by simp [hz])] at hd
  cases j with
  | zero =>
   have z0:¬ ((0:Nat):Int) > 0:=by decide
   have hd':Sf.instsZ (some x') (ins.drop 1)=N:=hd
   refine runx0 (ai ht (ai hf (ai li (ai e3 z0)))) (ai ci ti) ?_
   exact ⟨ins.length - 1,by omega,1,_,rfl,by omega,rfl,by rw [hnx]; exact hd',by (exact inv0 (ai ht hf))⟩
  | succ i =>
   have hb:=row_before Sf.Inst.cells ins i hlt (by omega)
   rw [prevG_succ ins i (by omega)] at hd
   obtain ⟨y,hy⟩:∃ y,ins[i]=y:=⟨_,rfl⟩
   rw [hy] at hb hd
   have cby:=cb y
   have hbfy:=hbf y
   replace hd:(if (!Sf.behind y x')=true then (1:Int) else Sf.instsZ (some x') (ins.drop (i+1+1)))=N:=hd
   obtain ⟨B,hBB⟩:∃ B,beforeZ a d y=B:=⟨_,rfl⟩
   rw [hBB] at cby hbfy
   obtain ⟨bh,hbh⟩:∃ b,Sf.behind y x'=b:=⟨_,rfl⟩
   rw [hbh] at hd hbfy
   obtain ⟨a2,d2,id2,ty2,⟨k2,n2,w2,vi2,vy2⟩,v2,tn2,fi2,ds2⟩:=y
   dsimp only [Sf.Inst.cells] at hb cby
   cases bh with
   | false =>
    rw [if_pos (by decide)] at hd
    have hb0:B≤0:=by simpa using hbfy
    have:q=1:=by rw [←hq,←hd]; rfl
    subst this
    refine runx0 (ai ht (ai hf (ai li (ai e3 (ai hb hb0))))) (ai ci (ai cby ti)) ?_
    exact ⟨_,le_refl _,rfl⟩
   | true =>
    rw [if_neg (by decide)] at hd
    have hb0:¬ B≤0:=by simpa using hbfy
    refine runx0 (ai ht (ai hf (ai li (ai e3 (ai hb hb0))))) (ai ci (ai cby ti)) ?_
    exact ⟨_,by omega,i+1+1,_,rfl,by omega,rfl,by rw [hnx]; exact hd,by (exact inv0 (ai ht hf))⟩
 have hf:=row_end6 Sf.Inst.cells ins j hge
 rw [List.drop_of_length_le hge] at hd
 unfold Sf.instsZ at hd
 rw [←hd,if_neg (by simp)] at hq
 refine runx0 (ai ht (ai hf li)) ti ?_
 refine awp_loop (fun m ts hh=>∃ (j:Nat),m=ps.length - j∧j≤ps.length∧hh=⟨.cells 39 [.str lin,.int .i64 ser,.sl 13 .no (ins.map Sf.Inst.cells),.sl 3 .no (ps.map Sf.Pend.cells),.sl 7 .no (os.map Sf.Outp.cells)]::l,[]⟩ ∧
  Sf.pendsZ ((prevG ps j).map Sf.Pend.tok) (ps.drop j)=P∧(ts 1 = .ptr 0 0∧ts 6 = .int .i64 (j:Nat))) ps.length ?_ ?_
 ·exact ⟨0,rfl,Nat.zero_le _,rfl,hP,by (exact inv0 ht)⟩
 rintro m ts' hh ⟨j',rfl,hj',rfl,hd',hu⟩
 rcases Nat.lt_or_ge j' ps.length with hlt | hge'
 ·have hf:=row_at6 Sf.Pend.cells ps j' hlt (by omega)
  have hpx:=hp _ (List.getElem_mem hlt)
  rw [List.drop_eq_getElem_cons hlt] at hd'
  unfold Sf.pendsZ at hd'
  have hnx:=prevG_succ ps j' hlt
  obtain ⟨x,hx⟩:∃ x,ps[j']=x:=⟨_,rfl⟩
  rw [hx] at hf hpx hd' hnx
  have cp:=a_r31pend x hpx.1 hpx.2
  obtain ⟨b,hb⟩:∃ b,Sf.pendB x=b:=⟨_,rfl⟩
  rw [hb] at cp hd'
  obtain ⟨a,ty,tok⟩:=x
  dsimp only [Sf.Pend.cells] at hf cp hd'
  cases b with
  | false =>
   rw [if_neg (by decide)] at cp
   rw [Bool.not_false,Bool.true_or,if_pos rfl] at hd'
   have:q=1:=by rw [←hq,←hd']; rfl
   subst this
   refine runx0 (ai hu (ai hf li)) (ai cp ti) ?_
   exact ⟨_,le_refl _,rfl⟩
  | true =>
  rw [if_pos rfl] at cp
  rw [Bool.not_true,Bool.false_or] at hd'
  cases j' with
  | zero =>
   have z0:¬ ((0:Nat):Int) > 0:=by decide
   have hd2:Sf.pendsZ (some tok) (ps.drop 1)=P:=hd'
   refine runx0 (ai hu (ai hf (ai li z0))) (ai cp ti) ?_
   exact ⟨ps.length - 1,by omega,1,rfl,by omega,rfl,by rw [hnx]; exact hd2,by (exact inv0 (ai hu hf))⟩
  | succ i =>
   have hbr:=row_before Sf.Pend.cells ps i hlt (by omega)
   rw [prevG_succ ps i (by omega)] at hd'
   obtain ⟨y,hy⟩:∃ y,ps[i]=y:=⟨_,rfl⟩
   rw [hy] at hbr hd'
   obtain ⟨a2,ty2,tok2⟩:=y
   dsimp only [Sf.Pend.cells,Option.map_some] at hbr hd'
   replace hd':(if (!bytesLess tok2 tok)=true then (1:Int) else Sf.pendsZ (some tok) (ps.drop (i+1+1)))=P:=hd'
   cases hB:bytesLess tok2 tok with
   | false =>
    rw [hB,if_pos (by decide)] at hd'
    have:q=1:=by rw [←hq,←hd']; rfl
    subst this
    refine runx0 (ai hu (ai hf (ai li (ai hbr hB)))) (ai cp ti) ?_
    exact ⟨_,le_refl _,rfl⟩
   | true =>
    rw [hB,if_neg (by decide)] at hd'
    refine runx0 (ai hu (ai hf (ai li (ai hbr hB)))) (ai cp ti) ?_
    exact ⟨_,by omega,i+1+1,rfl,by omega,rfl,by rw [hnx]; exact hd',by (exact inv0 (ai hu hf))⟩
 ·have hf':=row_end6 Sf.Pend.cells ps j' hge'
  rw [List.drop_of_length_le hge'] at hd'
  unfold Sf.pendsZ at hd'
  rw [←hd',if_neg (by simp)] at hq
  rw [hq] at co
  refine runx0 (ai hu (ai hf' li)) (ai co ti) ?_
  exact ⟨_,le_refl _,rfl⟩
end AX
end Go.Proofs.YtahmpiioegemaabGreatDoor

namespace Go.Proofs.YtahmpiioegemaabGreatDoor
open Go.RowKit
namespace AX
def c_rastr:AX.AFn:=⟨11,aS [aR 4 (.mv (.c (.str [])))] (aS [aM 5 0,aM 6 1,aR 7 (.len true (.t 6)),aR 8 (.call 115 [.t 5,.t 7]),aM 9 1,aR 10 (.bin .add (.t 8) (.t 9)),aM 4 10] (.ret)),[.t 4]⟩
theorem h_rastr:AX.compFn Tryz.prog 116=some c_rastr:=by kernel_rfl
theorem a_rastr (dst s:List UInt8) (hlen:dst.length+s.length+10≤1000000000) (h:Hp):ACall Tryz.prog GT 116 [.str dst,.str s] h fun r h'=>r = .str (dst++Wire.strE s)∧h'=h:=by
 refine pcall ?_ rfl (by simp [A.pure,A.data]) h
 have hn:=num_len s.length
 refine acall_of mixedT h_rastr (by simp [c_rastr]) ?_
 dsimp only [c_rastr]
 refine go0 ti ?_
 refine gc0 ti ?_
 refine (a_refAppendNumber dst s.length (by omega) (by omega) (by omega) _).mono ?_
 rintro v1 h1 ⟨rfl,rfl⟩
 have hsum:dst.length+(Wire.num s.length).length+s.length < 1099511627776:=by omega
 refine go0 hsum ?_
 exact ⟨_,le_refl _,by rw [tupA_1,Wire.strE,List.append_assoc]⟩
theorem a_rAppendValue:∀ (v:V) (dst:List UInt8) (h:Hp),(∃ lv b,(Val.chk v lv b).1=0)→dst.length+(Val.enc v).length+10≤1000000000→v.lens→ACall Tryz.prog GT 118 [.str dst,v.A] h fun r h'=>r = .str (dst++Val.enc v)∧h'=h:=by
 refine V.induct fun k n s is ks ih=>?_
 rintro l h ⟨lv,b,hchk⟩ hlen hlens
 refine pcall ?_ rfl (by simp [V.A,V.cells,A.pure,A.data]) h
 refine fo ?_
 obtain ⟨hil,hkl,_,hmem⟩:=V.lens_mk hlens
 obtain ⟨_,_,hz,hcs⟩:=Val.chk_parts hchk
 obtain ⟨hsh,hn2,hts,hks⟩:=Val.shaped_of hz
 have hs:=Val.text_len hts
 have hkk:=Val.keys_len ks none hks
 unfold Val.shapedB at hsh
 simp only [Bool.and_eq_true,Bool.or_eq_true,decide_eq_true_eq,beq_iff_eq] at hsh
 obtain ⟨⟨⟨⟨⟨hk0,hk6⟩,hnn⟩,_⟩,_⟩,hkn⟩:=hsh
 have hE:Val.enc (.mk k n s is ks)=Wire.num k++(if k=1∨k=2 then Wire.num n else if k=3 then Wire.strE s else if k=4∨k=5 then Wire.num is.length++Val.encs (k == 5) is ks else []):=by rw [Val.enc]
 rw [hE] at hlen ⊢
 simp only [List.length_append] at hlen
 refine go0 (ai @V_A @V_cells) ?_
 refine gc0 (ai @V_A @V_cells) ?_
 refine (a_refAppendNumber l k (by omega) (by omega) (by omega) _).mono ?_
 rintro v0 h1 ⟨rfl,rfl⟩
 have hlk:=num_len k
 by_cases hk12:k=1∨k=2
 ·rw [if_pos hk12] at hlen ⊢
  have hn:-9223372036854775808≤n∧n≤9223372036854775807:=by
   rcases hk12 with rfl | rfl
   ·rcases hnn with (h | h) | h
    ·exact absurd h (by decide)
    ·omega
    ·omega
   ·have:=hn2 rfl; omega
  rcases hk12 with rfl | rfl
  all_goals
   refine go0 (ai @V_A @V_cells) ?_
   refine gc0 (ai @V_A @V_cells) ?_
   refine (a_refAppendNumber _ n (by rw [List.length_append]; omega) (by omega) (by omega) _).mono ?_
   rintro v2 h2 ⟨rfl,rfl⟩
   refine go0 (ai @V_A @V_cells) ?_
   exact ⟨_,le_refl _,by rw [tupA_1,List.append_assoc]⟩
 rw [if_neg hk12] at hlen ⊢
 have e1:(k == 1)=false:=by simp; omega
 have e2:(k == 2)=false:=by simp; omega
 by_cases hk3:k=3
 ·rw [if_pos hk3] at hlen ⊢
  subst hk3
  refine go0 (ai @V_A @V_cells) ?_
  refine gc0 (ai @V_A @V_cells) ?_
  unfold Wire.strE at hlen
  rw [List.length_append] at hlen
  refine (a_rastr _ s (by rw [List.length_append]; omega) _).mono ?_
  rintro v2 h2 ⟨rfl,rfl⟩
  refine go0 (ai @V_A @V_cells) ?_
  exact ⟨_,le_refl _,by rw [tupA_1,List.append_assoc]⟩
 rw [if_neg hk3] at hlen ⊢
 have e3:(k == 3)=false:=by simp; omega
 by_cases hk45:k=4∨k=5
 ·rw [if_pos hk45] at hlen ⊢
  rw [List.length_append] at hlen
  have hkl5:(k == 5)=true→ks.length=is.length:=fun e=>by
   rw [if_pos (by simpa using e)] at hkn; simpa using hkn
  have hln:=num_len is.length
  have step:∀ (j:Nat) (hj:j < is.length),(Val.encs (k == 5) (is.take j) ks).length+(Val.keyE (k == 5) (ks.drop j)).length+(Val.enc is[j]).length≤(Val.encs (k == 5) is ks).length:=encs_step _ _ _
  have e45:(k == 4)=true∨(k == 4)=false∧(k == 5)=true:=by
   rcases hk45 with rfl | rfl
   ·exact .inl rfl
   ·exact .inr ⟨rfl,rfl⟩
  rcases e45 with e4 | ⟨e4,e5⟩
  all_goals
   refine go0 (ai @V_A (ai @V_cells (ai e1 (ai e2 (ai e3 (ai e4 @V.cellss_length)))))) ?_
   try (refine go0 (ai @V_A (ai @V_cells (ai e1 (ai e2 (ai e3 (ai e4 (ai e5 @V.cellss_length))))))) ?_)
   refine gc0 (ai @V_A @V_cells) ?_
   refine (a_refAppendNumber _ is.length (by rw [List.length_append]; omega) (by omega) (by omega) _).mono ?_
   rintro v2 h2 ⟨rfl,rfl⟩
   refine go0 (ai @V_A (ai @V_cells @V.cellss_length)) ?_
   refine awp_loop (fun m ts hh=>hh=⟨[.cells 81 (V.mk k n s is ks).cells],[]⟩∧∃ (j:Nat),m=is.length - j∧j≤is.length∧ts 0 = .str (l++Wire.num k++Wire.num is.length++Val.encs (k == 5) (is.take j) ks)∧ts 3 = .ptr 0 0∧ts 5 = .int .i64 j) is.length ?_ ?_
   ·refine ⟨rfl,0,rfl,Nat.zero_le _,?_⟩
    simp only [put_app,put_none,init_app,evX_t,evX_c,resA_nil,resA_t,resA_c,tupA_0,tupA_1,tupA_2,astep,bop,uop,loadA,storeA,appA,ssliceA,eqA,eqCells,fillA,rowsA,setCells,A.cells,A.one,A.data,optP_some,List.all_cons,List.all_nil,Bool.and_true,Bool.true_and,Option.map_some,Option.map_none,Option.bind_some,Option.bind_none,Option.getD_some,Option.getD_none,List.map_cons,List.map_nil,List.getD_cons_zero,List.getD_cons_succ,List.getElem?_cons_zero,List.getElem?_cons_succ,List.length_cons,List.length_nil,List.nil_append,List.cons_append,List.append_nil,List.set_cons_zero,List.set_cons_succ,List.drop_zero,List.drop_succ_cons,List.take_succ_cons,List.take_zero,List.take_nil,List.length_append,List.length_set,Nat.reduceAdd,Nat.reduceSub,Nat.reduceMul,Nat.reduceLeDiff,Nat.reduceEqDiff,Nat.reduceBEq,Int.toNat_natCast,Int.natCast_nonneg,if_true,if_false,reduceIte,ite_true,ite_false,true_and,and_true,ne_eq,not_true_eq_false,not_false_eq_true,Bool.false_eq_true,reduceCtorEq,and_self,Nat.zero_add,Nat.add_zero,Nat.le_refl,Bool.not_true,Bool.not_false,decide_true,decide_false,Val.encs]
    trivial
   ·rintro m ts hh ⟨rfl,j,rfl,hj,t0,t3,t5⟩
    by_cases hlt:j < is.length
    ·have hlt2:(j:Int) < (is.length:Int):=by omega
     have hla:(j:Int) < ((V.cellss is).length:Int):=by rw [V.cellss_length]; omega
     have ei:IntKind.i64.wrap ((j:Int)+1)=(j:Int)+1:=wrap64 (by omega) (by omega)
     have ee:=V.cellss_get is j hlt
     have hst:=step j hlt
     have htk:=Val.encs_take (k == 5) is ks j hlt
     have hcall:=fun (l':List UInt8) (h:Hp) (hb:l'.length+(Val.enc is[j]).length+10≤1000000000)=>ih is[j] (List.getElem_mem hlt) l' h ((Val.chks_get is _ _ hcs j hlt).elim fun b' hb'=>⟨_,b',hb'⟩) hb (hmem _ (List.getElem_mem hlt))
     obtain ⟨⟨k',n',s',is',ks'⟩,hv⟩:∃ x,is[j]=x:=⟨_,rfl⟩
     rw [hv] at ee hcall htk hst
     rcases bool_or (k == 5) with e5' | e5'
     ·have hkj:j < ks.length:=by rw [hkl5 e5']; exact hlt
      have hlk2:(j:Int) < ((strsA ks).length:Int):=by rw [strsA_length]; omega
      have ek:=strsA_get ks j hkj
      have hke:Val.keyE (k == 5) (ks.drop j)=Wire.strE ks[j]:=by rw [e5',List.drop_eq_getElem_cons hkj]; rfl
      rw [hke] at htk hst
      simp only [e5'] at htk hst t0 hlen
      have hsl:(Wire.strE ks[j]).length=(Wire.num ks[j].length).length+ks[j].length:=by unfold Wire.strE; rw [List.length_append]
      refine go0 (ai @V_cells (ai t0 (ai t3 (ai t5 (ai hla (ai hlt2 (ai ee (ai ei (ai e5' (ai hlk2 ek)))))))))) ?_
      refine gc0 (ai @V_cells (ai t0 (ai t3 t5))) ?_
      refine (a_rastr _ ks[j] (by simp only [List.length_append]; omega) _).mono ?_
      rintro v3 h3 ⟨rfl,rfl⟩
      refine go0 (ai @V_cells (ai t0 (ai t3 (ai t5 (ai hla ee))))) ?_
      refine gc0 (ai @V_cells (ai t0 (ai t3 t5))) ?_
      refine (hcall _ _ (by simp only [List.length_append]; omega)).mono ?_
      rintro v4 h4 ⟨rfl,rfl⟩
      refine go0 (ai @V_cells (ai t0 (ai t3 (ai t5 ei)))) ?_
      refine ⟨is.length - (j+1),by omega,rfl,j+1,rfl,by omega,?_⟩
      simp only [put_app,put_none,init_app,evX_t,evX_c,resA_nil,resA_t,resA_c,tupA_0,tupA_1,tupA_2,astep,bop,uop,loadA,storeA,appA,ssliceA,eqA,eqCells,fillA,rowsA,setCells,A.cells,A.one,A.data,optP_some,List.all_cons,List.all_nil,Bool.and_true,Bool.true_and,Option.map_some,Option.map_none,Option.bind_some,Option.bind_none,Option.getD_some,Option.getD_none,List.map_cons,List.map_nil,List.getD_cons_zero,List.getD_cons_succ,List.getElem?_cons_zero,List.getElem?_cons_succ,List.length_cons,List.length_nil,List.nil_append,List.cons_append,List.append_nil,List.set_cons_zero,List.set_cons_succ,List.drop_zero,List.drop_succ_cons,List.take_succ_cons,List.take_zero,List.take_nil,List.length_append,List.length_set,Nat.reduceAdd,Nat.reduceSub,Nat.reduceMul,Nat.reduceLeDiff,Nat.reduceEqDiff,Nat.reduceBEq,Int.toNat_natCast,Int.natCast_nonneg,if_true,if_false,reduceIte,ite_true,ite_false,true_and,and_true,ne_eq,not_true_eq_false,not_false_eq_true,Bool.false_eq_true,reduceCtorEq,and_self,Nat.zero_add,Nat.add_zero,Nat.le_refl,Bool.not_true,Bool.not_false,decide_true,decide_false,htk,e5',List.append_assoc,t3,Int.natCast_add,Int.natCast_one]
     ·have hke:Val.keyE (k == 5) (ks.drop j)=[]:=by rw [e5']; rfl
      rw [hke] at htk hst
      simp only [e5'] at htk hst t0 hlen
      refine go0 (ai @V_cells (ai t0 (ai t3 (ai t5 (ai hla (ai hlt2 (ai ee (ai ei e5')))))))) ?_
      refine gc0 (ai @V_cells (ai t0 (ai t3 t5))) ?_
      refine (hcall _ _ (by simp only [List.length_append]; omega)).mono ?_
      rintro v4 h4 ⟨rfl,rfl⟩
      refine go0 (ai @V_cells (ai t0 (ai t3 (ai t5 ei)))) ?_
      refine ⟨is.length - (j+1),by omega,rfl,j+1,rfl,by omega,?_⟩
      simp only [put_app,put_none,init_app,evX_t,evX_c,resA_nil,resA_t,resA_c,tupA_0,tupA_1,tupA_2,astep,bop,uop,loadA,storeA,appA,ssliceA,eqA,eqCells,fillA,rowsA,setCells,A.cells,A.one,A.data,optP_some,List.all_cons,List.all_nil,Bool.and_true,Bool.true_and,Option.map_some,Option.map_none,Option.bind_some,Option.bind_none,Option.getD_some,Option.getD_none,List.map_cons,List.map_nil,List.getD_cons_zero,List.getD_cons_succ,List.getElem?_cons_zero,List.getElem?_cons_succ,List.length_cons,List.length_nil,List.nil_append,List.cons_append,List.append_nil,List.set_cons_zero,List.set_cons_succ,List.drop_zero,List.drop_succ_cons,List.take_succ_cons,List.take_zero,List.take_nil,List.length_append,List.length_set,Nat.reduceAdd,Nat.reduceSub,Nat.reduceMul,Nat.reduceLeDiff,Nat.reduceEqDiff,Nat.reduceBEq,Int.toNat_natCast,Int.natCast_nonneg,if_true,if_false,reduceIte,ite_true,ite_false,true_and,and_true,ne_eq,not_true_eq_false,not_false_eq_true,Bool.false_eq_true,reduceCtorEq,and_self,Nat.zero_add,Nat.add_zero,Nat.le_refl,Bool.not_true,Bool.not_false,decide_true,decide_false,htk,e5',List.append_assoc,t3,Int.natCast_add,Int.natCast_one,List.nil_append]
    ·have hlt2:¬ (j:Int) < ((V.cellss is).length:Int):=by rw [V.cellss_length]; omega
     rw [List.take_of_length_le (by omega)] at t0
     refine go0 (ai @V_cells (ai t0 (ai t3 (ai t5 hlt2)))) ?_
     exact ⟨_,le_refl _,by rw [tupA_1,List.append_assoc,List.append_assoc]⟩
 ·rw [if_neg hk45] at hlen ⊢
  rw [List.append_nil]
  have e4:(k == 4)=false:=by simp; omega
  have e5:(k == 5)=false:=by simp; omega
  refine go0 (ai @V_A (ai @V_cells (ai e1 (ai e2 (ai e3 (ai e4 e5)))))) ?_
  exact ⟨_,le_refl _,rfl⟩
def c_r32bit:AX.AFn:=⟨4,aS [aR 2 (.mv (aI 0))] (.seq (aS [aM 3 0] (.cond (.t 3) (aS [aR 2 (.mv (aI 1))] (.ret)) (.skip))) (aS [aR 2 (.mv (aI 0))] (.ret))),[.t 2]⟩
theorem h_r32bit:AX.compFn Tryz.prog 119=some c_r32bit:=by kernel_rfl
def c_r32words:AX.AFn:=⟨23,aS [aR 4 (.mv (.c (.str [])))] (aS [aM 6 0,aM 7 1,aR 8 (.len false (.t 7)),aR 9 (.call 115 [.t 6,.t 8]),aM 0 9] (.seq (aS [aR 5 (.mv (aI 0))] (.block 0 (.loop (.seq (aS [aM 10 5,aM 11 1,aR 12 (.len false (.t 11)),aR 13 (.bin .lss (.t 10) (.t 12))] (.cond (.t 13) (.skip) (.exit 0))) (.seq (.block 1 (.reg false [aM 16 0,aM 17 1,aM 18 5,aR 19 (.iaddr 1 (.t 17) (.t 18)),aL 20 19,aR 21 (.call 116 [.t 16,.t 20]),aM 0 21])) (.reg false [aM 14 5,aR 15 (.bin .add (.t 14) (aI 1)),aM 5 15])))))) (aS [aM 22 0,aM 4 22] (.ret)))),[.t 4]⟩
theorem h_r32words:AX.compFn Tryz.prog 153=some c_r32words:=by kernel_rfl
def c_r32Encode:AX.AFn:=⟨8,aS [aR 1 (.box 39 (.t 0)),aR 2 (.mv (.c (.str []))),aR 3 (.mv (aI 0))] (aS [aR 4 (.load true 5 (.t 1)),aR 5 (.call 78 [.t 4,aI 2]),aE 6 5 0,aE 7 5 1,aM 2 6,aM 3 7] (.ret)),[.t 2,.t 3]⟩
theorem h_r32Encode:AX.compFn Tryz.prog 48=some c_r32Encode:=by kernel_rfl
theorem a_r3append (s:List UInt8) (hs:s.length≤1000000000) (h:Hp):ACall Tryz.prog GT 80 [.str s] h fun v h'=>v = .str (Crc.app s)∧h'=h:=
 acall_imp (args1 r_str) (fun w hg=>refAppend_any ⟨s.toArray⟩ w (by rw [size_mk]; exact hs)) (fun C=>rep_str.2 rfl) h
theorem a_r32bit (b:Bool) (h:Hp):ACall Tryz.prog GT 119 [.bool b] h fun r h'=>r = .int .i64 (if b=true then 1 else 0)∧h'=h:=by
 refine pcall ?_ rfl (by simp [A.pure,A.data]) h
 refine acall_of mixedT h_r32bit (by simp [c_r32bit]) ?_
 dsimp only [c_r32bit]
 cases b <;> ((refine runx0 ti ti ?_); exact ⟨_,le_refl _,rfl⟩)
theorem flat_take {α:Type} (f:α→List UInt8) (l:List α) (j:Nat):((l.take j).flatMap f).length≤(l.flatMap f).length:=by
 have h:l.flatMap f=(l.take j).flatMap f++(l.drop j).flatMap f:=by rw [←List.flatMap_append,List.take_append_drop]
 rw [h,List.length_append]
 omega
theorem flat_snoc {α:Type} (f:α→List UInt8) (l:List α) (j:Nat) (hj:j < l.length):(l.take (j+1)).flatMap f=(l.take j).flatMap f++f l[j]:=by
 rw [List.take_succ_eq_append_getElem hj,List.flatMap_append]; simp
theorem a_r32words (dst:List UInt8) (l:List (List UInt8)) (hl:l.length≤1000000000) (hb:dst.length+(Wire.num l.length).length+(Sf.wordsE l).length+10≤1000000000) (h:Hp):ACall Tryz.prog GT 153 [.str dst,.sl 1 .no (strsA l)] h fun r h'=>r = .str (dst++Wire.num l.length++Sf.wordsE l)∧h'=h:=by
 refine pcall ?_ rfl (by simp [A.pure,A.data]) h
 refine acall_of mixedT h_r32words (by simp [c_r32words]) ?_
 dsimp only [c_r32words]
 have cn:=a_refAppendNumber dst (l.length:Int) (by omega) (by omega) (by omega)
 have ls:=strsA_length l
 obtain ⟨D,hD⟩:∃ D,dst++Wire.num l.length=D:=⟨_,rfl⟩
 have hDl:D.length=dst.length+(Wire.num l.length).length:=by rw [←hD,List.length_append]
 rw [hD] at cn ⊢
 refine runx0 ls (ai cn ti) ?_
 refine awp_loop (fun m ts hh=>hh=⟨[],[]⟩∧∃ j:Nat,m=l.length - j∧j≤l.length∧(ts 0 = .str (D++(l.take j).flatMap Wire.strE)∧ts 1 = .sl 1 .no (strsA l)∧ts 5 = .int .i64 (j:Nat))) l.length ?_ ?_
 ·refine ⟨rfl,0,rfl,Nat.zero_le _,?_⟩
  rw [show (l.take 0).flatMap Wire.strE=[] from rfl,List.append_nil]
  (exact inv0 ti)
 rintro m ts hh ⟨rfl,j,rfl,hj,ht⟩
 rcases Nat.lt_or_ge j l.length with hlt | hge
 ·have hf:=strs_at l j hlt (by omega)
  have h1:=flat_take Wire.strE l (j+1)
  have h2:=flat_snoc Wire.strE l j hlt
  rw [h2,List.length_append] at h1
  obtain ⟨s,hs⟩:∃ s,l[j]=s:=⟨_,rfl⟩
  rw [hs] at hf h1 h2
  have hw:(l.flatMap Wire.strE).length=(Sf.wordsE l).length:=rfl
  have hse:s.length≤(Wire.strE s).length:=by unfold Wire.strE; rw [List.length_append]; omega
  obtain ⟨T,hT⟩:∃ T,(l.take j).flatMap Wire.strE=T:=⟨_,rfl⟩
  rw [hT] at ht h1 h2
  have ca:=a_rastr (D++T) s (by rw [List.length_append]; omega)
  rw [List.append_assoc,←h2] at ca
  refine runx0 (ai ht hf) (ai ca ti) ?_
  exact ⟨_,by omega,rfl,j+1,rfl,by omega,by (exact inv0 (ai ht hf))⟩
 ·have hf:=ai ls (show ¬ (j:Int) < (l.length:Int) by omega)
  rw [List.take_of_length_le hge] at ht
  refine runx0 (ai ht hf) ti ?_
  exact ⟨_,le_refl _,rfl⟩
theorem a_r32inst (ver:Int) (hver:ver=1∨ver=2) (dst:List UInt8) (x:Sf.Inst) (hx:Sf.InstIn x) (hc:∃ lv b,(Val.chk x.attrs lv b).1=0) (hv:-9223372036854775808≤x.ver∧x.ver≤9223372036854775807) (hb:dst.length+(Sf.instE ver x).length+20≤1000000000) (h:Hp) :
  ACall Tryz.prog GT 117 [.str dst,.agg x.cells,.int .i64 ver] h fun r h'=>r = .str (dst++Sf.instE ver x)∧h'=h:=by
 have hn:=hx.n
 have hL:=hx.l
 obtain ⟨a,d,id,ty,⟨k,n,w,vi,vy⟩,v,tn,fi,ds⟩:=x
 dsimp only at hc hv hn hL
 have se:∀ s:List UInt8,s.length≤(Wire.strE s).length:=fun s=>by unfold Wire.strE; rw [List.length_append]; omega
 have sa:=se a; have sd:=se d; have si:=se id; have st:=se ty
 unfold Sf.instE at hb
 simp only [List.length_append] at hb
 have hfl:(if ver=2 then Sf.flagE fi else []).length≤(Sf.flagE fi).length:=by split <;> simp
 have n10:∀ m:Int,(Wire.num m).length≤10:=fun m=>(Wire.encF_len 9 (Wire.zig m)).2
 have f10:=n10 (if tn=true then 1 else 0)
 have g10:=n10 (if fi=true then 1 else 0)
 have hft:(Sf.flagE tn).length=(Wire.num (if tn=true then 1 else 0)).length:=rfl
 have c1:=a_rastr dst a (by omega)
 have c2:=a_rastr (dst++Wire.strE a) d (by simp only [List.length_append]; omega)
 have c3:=a_rastr (dst++Wire.strE a++Wire.strE d) id (by simp only [List.length_append]; omega)
 have c4:=a_rastr (dst++Wire.strE a++Wire.strE d++Wire.strE id) ty (by simp only [List.length_append]; omega)
 obtain ⟨D,hD⟩:∃ D,dst++Wire.strE a++Wire.strE d++Wire.strE id++Wire.strE ty=D:=⟨_,rfl⟩
 have hDl:D.length=dst.length+(Wire.strE a).length+(Wire.strE d).length+(Wire.strE id).length+(Wire.strE ty).length:=by rw [←hD]; simp only [List.length_append]
 rw [hD] at c4
 have c5:=fun h=>a_rAppendValue (.mk k n w vi vy) D h hc (by omega) hL
 simp only [V.A,V.cells] at c5
 obtain ⟨E,hE⟩:∃ E,D++Val.enc (.mk k n w vi vy)=E:=⟨_,rfl⟩
 have hEl:E.length=D.length+(Val.enc (.mk k n w vi vy)).length:=by rw [←hE,List.length_append]
 rw [hE] at c5
 have c6:=a_refAppendNumber E v (by omega) hv.1 hv.2
 have cb:=a_r32bit tn
 have cb2:=a_r32bit fi
 have c7:=a_refAppendNumber (E++Wire.num v) (if tn=true then 1 else 0) (by simp only [List.length_append]; omega) (by split <;> decide) (by split <;> decide)
 obtain ⟨F,hF⟩:∃ F,E++Wire.num v++Wire.num (if tn=true then 1 else 0)=F:=⟨_,rfl⟩
 have hFl:F.length=E.length+(Wire.num v).length+(Wire.num (if tn=true then 1 else 0)).length:=by rw [←hF]; simp only [List.length_append]
 rw [hF] at c7
 have hres:∀ fl,(if ver=2 then Sf.flagE fi else [])=fl→F++fl++Wire.num ds.length++Sf.wordsE ds=dst++Sf.instE ver ⟨a,d,id,ty,.mk k n w vi vy,v,tn,fi,ds⟩:=fun fl e=>by
  rw [←hF,←hE,←hD,←e]
  unfold Sf.instE Sf.flagE
  simp only [List.append_assoc]
 refine pcall ?_ rfl (by simp [A.pure,A.data,Sf.Inst.cells]) h
 refine fo ?_
 dsimp only [Sf.Inst.cells]
 rcases hver with rfl | rfl
 ·have e1:¬ (1:Int)≥2:=by decide
  rw [if_neg (by decide)] at hres hb hfl
  have cw:=a_r32words F ds (by omega) (by simp only [List.length_nil] at hb; omega)
  have:=hres [] rfl
  rw [List.append_nil] at this
  rw [this] at cw
  refine runx0 e1 (ai c1 (ai c2 (ai c3 (ai c4 (ai c5 (ai c6 (ai cb (ai c7 (ai cw ti))))))))) ?_
  exact ⟨_,le_refl _,rfl⟩
 ·have e1:(2:Int)≥2:=by decide
  rw [if_pos rfl] at hres hb hfl
  have hgt:(Sf.flagE fi).length=(Wire.num (if fi=true then 1 else 0)).length:=rfl
  have c8:=a_refAppendNumber F (if fi=true then 1 else 0) (by omega) (by split <;> decide) (by split <;> decide)
  have cw:=a_r32words (F++Wire.num (if fi=true then 1 else 0)) ds (by omega) (by simp only [List.length_append]; omega)
  have e:=hres _ rfl
  rw [show Sf.flagE fi=Wire.num (if fi=true then 1 else 0) from rfl] at e
  rw [e] at cw
  refine runx0 e1 (ai c1 (ai c2 (ai c3 (ai c4 (ai c5 (ai c6 (ai cb (ai c7 (ai cb2 (ai c8 (ai cw ti))))))))))) ?_
  refine runx0 e1 (ai c8 (ai cw ti)) ?_
  exact ⟨_,le_refl _,rfl⟩
theorem a_r32encode {ver:Int} (hver:ver=1∨ver=2) (st:Sf.St) (hin:Sf.StIn st) (htp:Sf.TypIn st) (hlen:Sf.checkZ st=0→(Sf.stE ver st).length+20≤1000000000) (h:Hp) :
  ACall Tryz.prog GT 78 [st.A,.int .i64 ver] h fun r h'=>r = .tup [.str (Sf.encode ver st).1,.int .i64 (Sf.encode ver st).2]∧h'=h:=by
 have hok:=fun hz=>Sf.stOk_of (s:=st) hz hin
 have hck:=a_r31check st hin htp
 obtain ⟨r,hr⟩:∃ r,Sf.encode ver st=r:=⟨_,rfl⟩
 rw [hr]
 unfold Sf.encode at hr
 have hS:Sf.stE ver st=Sf.magic++Wire.num ver++Wire.strE st.lin++Wire.num st.ser++Wire.num st.insts.length++st.insts.flatMap (Sf.instE ver)++(if ver=2 then Wire.num st.pends.length++st.pends.flatMap Sf.pendE else [])++Wire.num st.outs.length++st.outs.flatMap Sf.outE:=rfl
 obtain ⟨Z,hZ⟩:∃ Z,Sf.checkZ st=Z:=⟨_,rfl⟩
 obtain ⟨E,hEq⟩:∃ E,Sf.stE ver st=E:=⟨_,rfl⟩
 rw [hZ] at hr hck hok hlen
 rw [hEq] at hr hlen hS
 have hin':=hin.insts
 obtain ⟨lin,ser,ins,ps,os⟩:=st
 dsimp only at hS hin'
 refine pcall ?_ rfl (by simp [A.pure,A.data,Sf.St.A]) h
 refine fo ?_
 dsimp only [Sf.St.A]
 dsimp only [Sf.St.A] at hck
 have li:(ins.map Sf.Inst.cells).length=ins.length∧(ps.map Sf.Pend.cells).length=ps.length∧(os.map Sf.Outp.cells).length=os.length:=⟨List.length_map _,List.length_map _,List.length_map _⟩
 by_cases hz:Z=0
 rotate_left
 ·have e1:(Z != 0)=true:=by simp [hz]
  rw [if_pos hz] at hr
  subst hr
  refine runx0 e1 (ai hck ti) ?_
  exact ⟨_,le_refl _,rfl⟩
 have e1:(Z != 0)=false:=by simp [hz]
 rw [if_neg (by simp [hz])] at hr
 obtain ⟨oi,oo,s0,s1,l1,l2,l3⟩:=hok hz
 have hl:=hlen hz
 dsimp only at oi oo s0 s1 l1 l2 l3
 have n10:∀ m:Int,(Wire.num m).length≤10:=fun m=>(Wire.encF_len 9 (Wire.zig m)).2
 have se:∀ s:List UInt8,s.length≤(Wire.strE s).length:=fun s=>by unfold Wire.strE; rw [List.length_append]; omega
 have sl:=se lin
 have hsl:=congrArg List.length hS
 simp only [List.length_append] at hsl
 have v0:-9223372036854775808≤ver∧ver≤9223372036854775807:=by omega
 have c1:=a_refAppendNumber Sf.magic ver (by decide) v0.1 v0.2
 have c2:=a_rastr (Sf.magic++Wire.num ver) lin (by rw [List.length_append]; omega)
 have c3:=a_refAppendNumber (Sf.magic++Wire.num ver++Wire.strE lin) ser (by simp only [List.length_append]; omega) s0 s1
 have c4:=a_refAppendNumber (Sf.magic++Wire.num ver++Wire.strE lin++Wire.num ser) ins.length (by simp only [List.length_append]; omega) (by omega) (by omega)
 unfold Sf.magic at c1
 obtain ⟨D,hD⟩:∃ D,Sf.magic++Wire.num ver++Wire.strE lin++Wire.num ser++Wire.num ins.length=D:=⟨_,rfl⟩
 have hDl:=congrArg List.length hD
 simp only [List.length_append] at hDl
 rw [hD] at c4 hS
 refine runx0 (ai e1 li) (ai hck (ai c1 (ai c2 (ai c3 (ai c4 ti))))) ?_
 refine awp_loop (fun m ts hh=>∃ (j:Nat) (l:List Blk),m=ins.length - j∧j≤ins.length∧hh=⟨.cells 39 [.str lin,.int .i64 ser,.sl 13 .no (ins.map Sf.Inst.cells),.sl 3 .no (ps.map Sf.Pend.cells),.sl 7 .no (os.map Sf.Outp.cells)]::l,[]⟩ ∧
  (ts 1 = .int .i64 ver∧ts 2 = .ptr 0 0∧ts 7 = .str (D++(ins.take j).flatMap (Sf.instE ver))∧ts 8 = .int .i64 (j:Nat))) ins.length ?_ ?_
 ·refine ⟨0,[],rfl,Nat.zero_le _,rfl,?_⟩
  rw [show (ins.take 0).flatMap (Sf.instE ver)=[] from rfl,List.append_nil]
  (exact inv0 ti)
 rintro m ts hh ⟨j,l,rfl,hj,rfl,ht⟩
 rcases Nat.lt_or_ge j ins.length with hlt | hge
 ·have hf:=row_at6 Sf.Inst.cells ins j hlt (by omega)
  have h1:=flat_take (Sf.instE ver) ins (j+1)
  have h2:=flat_snoc (Sf.instE ver) ins j hlt
  rw [h2,List.length_append] at h1
  have hix:=hin' _ (List.getElem_mem hlt)
  have hox:=oi _ (List.getElem_mem hlt)
  obtain ⟨x,hx⟩:∃ x,ins[j]=x:=⟨_,rfl⟩
  rw [hx] at hf h1 h2 hix hox
  obtain ⟨T,hT⟩:∃ T,(ins.take j).flatMap (Sf.instE ver)=T:=⟨_,rfl⟩
  rw [hT] at ht h1 h2
  obtain ⟨o1,o2,o3,o4⟩:=hox
  have ca:=a_r32inst ver hver (D++T) x hix o1 ⟨o3,o4⟩ (by rw [List.length_append]; omega)
  rw [List.append_assoc,←h2] at ca
  obtain ⟨a,d,id,ty,⟨k,n,w,vi,vy⟩,v,tn,fi,ds⟩:=x
  dsimp only [Sf.Inst.cells] at hf ca
  refine runx0 (ai ht (ai hf li)) (ai ca ti) ?_
  exact ⟨_,by omega,j+1,_,rfl,by omega,rfl,by (exact inv0 (ai ht hf))⟩
 have hf:=row_end6 Sf.Inst.cells ins j hge
 rw [List.take_of_length_le hge] at ht
 obtain ⟨D1,hD1⟩:∃ D1,D++ins.flatMap (Sf.instE ver)=D1:=⟨_,rfl⟩
 have hD1l:=congrArg List.length hD1
 simp only [List.length_append] at hD1l
 rw [hD1] at ht hS
 refine runx0 (ai ht (ai hf li)) ti ?_
 obtain ⟨D2,hD2⟩:∃ D2,D1++(if ver=2 then Wire.num ps.length++ps.flatMap Sf.pendE else [])=D2:=⟨_,rfl⟩
 have hD2l:=congrArg List.length hD2
 simp only [List.length_append] at hD2l
 rw [hD2] at hS
 refine awp_join (fun ts' h'=>(∃ l',h'=⟨.cells 39 [.str lin,.int .i64 ser,.sl 13 .no (ins.map Sf.Inst.cells),.sl 3 .no (ps.map Sf.Pend.cells),.sl 7 .no (os.map Sf.Outp.cells)]::l',[]⟩)∧(ts' 2 = .ptr 0 0∧ts' 7 = .str D2)) ?_ ?_
 ·rcases hver with rfl | rfl
  ·have e2:¬ (1:Int)≥2:=by decide
   rw [if_neg (by decide),List.append_nil] at hD2
   subst hD2
   refine runx0 (ai e2 ht) ti ?_
   exact ⟨⟨_,rfl⟩,by (exact inv0 ht)⟩
  have e2:(2:Int)≥2:=by decide
  rw [if_pos rfl] at hD2 hsl hD2l
  simp only [List.length_append] at hsl hD2l
  have cp:=a_refAppendNumber D1 ps.length (by omega) (by omega) (by omega)
  rw [←List.append_assoc] at hD2
  obtain ⟨P,hP⟩:∃ P,D1++Wire.num ps.length=P:=⟨_,rfl⟩
  have hPl:=congrArg List.length hP
  simp only [List.length_append] at hPl
  rw [hP] at cp hD2
  refine runx0 (ai e2 (ai ht li)) (ai cp ti) ?_
  refine awp_loop (fun m ts hh=>∃ (j:Nat) (l:List Blk),m=ps.length - j∧j≤ps.length∧hh=⟨.cells 39 [.str lin,.int .i64 ser,.sl 13 .no (ins.map Sf.Inst.cells),.sl 3 .no (ps.map Sf.Pend.cells),.sl 7 .no (os.map Sf.Outp.cells)]::l,[]⟩ ∧
   (ts 2 = .ptr 0 0∧ts 7 = .str (P++(ps.take j).flatMap Sf.pendE)∧ts 9 = .int .i64 (j:Nat))) ps.length ?_ ?_
  ·refine ⟨0,_,rfl,Nat.zero_le _,rfl,?_⟩
   rw [show (ps.take 0).flatMap Sf.pendE=[] from rfl,List.append_nil]
   (exact inv0 ht)
  rintro m ts' hh ⟨j',l',rfl,hj',rfl,hu⟩
  rcases Nat.lt_or_ge j' ps.length with hlt | hge'
  ·have hf:=row_at6 Sf.Pend.cells ps j' hlt (by omega)
   have h1:=flat_take Sf.pendE ps (j'+1)
   have h2:=flat_snoc Sf.pendE ps j' hlt
   rw [h2,List.length_append] at h1
   obtain ⟨x,hx⟩:∃ x,ps[j']=x:=⟨_,rfl⟩
   rw [hx] at hf h1 h2
   obtain ⟨T,hT⟩:∃ T,(ps.take j').flatMap Sf.pendE=T:=⟨_,rfl⟩
   rw [hT] at hu h1 h2
   obtain ⟨a,ty,tok⟩:=x
   dsimp only [Sf.Pend.cells] at hf
   have hpe:Sf.pendE ⟨a,ty,tok⟩=Wire.strE a++Wire.strE ty++Wire.strE tok:=rfl
   rw [hpe] at h1 h2
   simp only [List.length_append] at h1
   have sa:=se a; have st:=se ty; have sk:=se tok
   have p1:=a_rastr (P++T) a (by rw [List.length_append]; omega)
   have p2:=a_rastr (P++T++Wire.strE a) ty (by simp only [List.length_append]; omega)
   have p3:=a_rastr (P++T++Wire.strE a++Wire.strE ty) tok (by simp only [List.length_append]; omega)
   have hq:P++T++Wire.strE a++Wire.strE ty++Wire.strE tok=P++(ps.take (j'+1)).flatMap Sf.pendE:=by rw [h2]; simp only [List.append_assoc]
   rw [hq] at p3
   refine runx0 (ai hu (ai hf li)) (ai p1 (ai p2 (ai p3 ti))) ?_
   exact ⟨_,by omega,j'+1,_,rfl,by omega,rfl,by (exact inv0 (ai hu hf))⟩
  have hf:=row_end6 Sf.Pend.cells ps j' hge'
  rw [List.take_of_length_le hge',hD2] at hu
  refine runx0 (ai hu (ai hf li)) ti ?_
  exact ⟨⟨_,rfl⟩,by (exact inv0 hu)⟩
 rintro ts' hh ⟨⟨l',rfl⟩,hu⟩
 have cp:=a_refAppendNumber D2 os.length (by omega) (by omega) (by omega)
 obtain ⟨P,hP⟩:∃ P,D2++Wire.num os.length=P:=⟨_,rfl⟩
 have hPl:=congrArg List.length hP
 simp only [List.length_append] at hPl
 rw [hP] at cp hS
 refine runx0 (ai hu li) (ai cp ti) ?_
 refine awp_loop (fun m ts hh=>∃ (j:Nat) (l:List Blk),m=os.length - j∧j≤os.length∧hh=⟨.cells 39 [.str lin,.int .i64 ser,.sl 13 .no (ins.map Sf.Inst.cells),.sl 3 .no (ps.map Sf.Pend.cells),.sl 7 .no (os.map Sf.Outp.cells)]::l,[]⟩ ∧
  (ts 2 = .ptr 0 0∧ts 7 = .str (P++(os.take j).flatMap Sf.outE)∧ts 11 = .int .i64 (j:Nat))) os.length ?_ ?_
 ·refine ⟨0,_,rfl,Nat.zero_le _,rfl,?_⟩
  rw [show (os.take 0).flatMap Sf.outE=[] from rfl,List.append_nil]
  (exact inv0 hu)
 rintro m ts' hh ⟨j',l',rfl,hj',rfl,hu⟩
 rcases Nat.lt_or_ge j' os.length with hlt | hge'
 ·have hf:=row_at6 Sf.Outp.cells os j' hlt (by omega)
  have h1:=flat_take Sf.outE os (j'+1)
  have h2:=flat_snoc Sf.outE os j' hlt
  rw [h2,List.length_append] at h1
  have hox:=oo _ (List.getElem_mem hlt)
  obtain ⟨x,hx⟩:∃ x,os[j']=x:=⟨_,rfl⟩
  rw [hx] at hf h1 h2 hox
  obtain ⟨T,hT⟩:∃ T,(os.take j').flatMap Sf.outE=T:=⟨_,rfl⟩
  rw [hT] at hu h1 h2
  obtain ⟨nm,⟨k,n,w,vi,vy⟩,sn⟩:=x
  dsimp only [Sf.Outp.cells] at hf
  have hpe:Sf.outE ⟨nm,.mk k n w vi vy,sn⟩=Wire.strE nm++Val.enc (.mk k n w vi vy)++Sf.flagE sn:=rfl
  rw [hpe] at h1 h2
  dsimp only at hox
  simp only [List.length_append] at h1
  have sa:=se nm
  have p1:=a_rastr (P++T) nm (by rw [List.length_append]; omega)
  obtain ⟨F,hF⟩:∃ F,P++T++Wire.strE nm=F:=⟨_,rfl⟩
  have hFl:=congrArg List.length hF
  simp only [List.length_append] at hFl
  rw [hF] at p1
  have p2:=fun h=>a_rAppendValue (.mk k n w vi vy) F h hox.1 (by omega) hox.2
  simp only [V.A,V.cells] at p2
  have cb:=a_r32bit sn
  have p3:=a_refAppendNumber (F++Val.enc (.mk k n w vi vy)) (if sn=true then 1 else 0) (by simp only [List.length_append]; omega) (by split <;> decide) (by split <;> decide)
  have hq:F++Val.enc (.mk k n w vi vy)++Wire.num (if sn=true then 1 else 0)=P++(os.take (j'+1)).flatMap Sf.outE:=by
   rw [h2,←hF]
   unfold Sf.flagE
   simp only [List.append_assoc]
  rw [hq] at p3
  refine runx0 (ai hu (ai hf li)) (ai p1 (ai p2 (ai cb (ai p3 ti)))) ?_
  exact ⟨_,by omega,j'+1,_,rfl,by omega,rfl,by (exact inv0 (ai hu hf))⟩
 have hf:=row_end6 Sf.Outp.cells os j' hge'
 rw [List.take_of_length_le hge',←hS] at hu
 have cc:=a_r3append E (by omega)
 have hla:((Crc.app E).length:Int)=E.length+4:=by simp [Crc.app,Crc.four_length]
 by_cases hg:1048572 < E.length
 ·have e3:((Crc.app E).length:Int) > 1048576:=by omega
  rw [if_pos hg] at hr
  subst hr
  refine runx0 (ai hu (ai hf (ai li e3))) (ai cc ti) ?_
  exact ⟨_,le_refl _,rfl⟩
 ·have e3:¬ ((Crc.app E).length:Int) > 1048576:=by omega
  rw [if_neg hg] at hr
  subst hr
  refine runx0 (ai hu (ai hf (ai li e3))) (ai cc ti) ?_
  exact ⟨_,le_refl _,rfl⟩
theorem a_r32Encode (st:Sf.St) (hin:Sf.StIn st) (htp:Sf.TypIn st) (hlen:Sf.checkZ st=0→(Sf.stE 2 st).length+20≤1000000000) (h:Hp) :
  ACall Tryz.prog GT 48 [st.A] h fun r h'=>r = .tup [.str (Sf.encode 2 st).1,.int .i64 (Sf.encode 2 st).2]∧h'=h:=by
 refine pcall ?_ rfl (by simp [A.pure,A.data,Sf.St.A]) h
 refine acall_of mixedT h_r32Encode (by simp [c_r32Encode]) ?_
 dsimp only [c_r32Encode]
 have he:=a_r32encode (.inr rfl) st hin htp hlen
 unfold Sf.St.A at he ⊢
 refine runx0 ti (ai he ti) ?_
 exact ⟨_,le_refl _,rfl⟩
structure Sto where
 key:List UInt8
 lin:List UInt8
 latest:Int
 es:List (Int×List UInt8)
 c:Nat
 own:List UInt8
 left:Int
def strM (es:List (Int×List UInt8)):List (Int×A):=es.map fun e=>(e.1,.str e.2)
def lfind (n:Int):List (Int×List UInt8)→Option (List UInt8)
 | []=>none
 | (k,x)::l=>if n=k then some x else lfind n l
def lput (n:Int) (x:List UInt8):List (Int×List UInt8)→List (Int×List UInt8)
 | []=>[(n,x)]
 | (k,y)::l=>if n=k then (n,x)::l else (k,y)::lput n x l
def lerase (n:Int):List (Int×List UInt8)→List (Int×List UInt8)
 | []=>[]
 | (k,y)::l=>if n=k then l else (k,y)::lerase n l
theorem mfind_str (n:Int):∀ es,mfind n (strM es)=(lfind n es).map A.str
 | []=>rfl
 | (k,x)::l=>by
  show (if n=k then some (A.str x) else mfind n (strM l))=_
  unfold lfind
  split
  ·rfl
  ·exact mfind_str n l
theorem mput_str (n:Int) (x:List UInt8):∀ es,mput n (.str x) (strM es)=strM (lput n x es)
 | []=>rfl
 | (k,y)::l=>by
  show (if n=k then (n,A.str x)::strM l else (k,.str y)::mput n (.str x) (strM l))=_
  unfold lput
  split
  ·rfl
  ·rw [mput_str n x l]; rfl
theorem merase_str (n:Int):∀ es,merase n (strM es)=strM (lerase n es)
 | []=>rfl
 | (k,y)::l=>by
  show (if n=k then strM l else (k,.str y)::merase n (strM l))=_
  unfold lerase
  split
  ·rfl
  ·rw [merase_str n l]; rfl
def Sto.M (s:Sto):Blk:=.map (strM s.es) s.c
def Sto.B (s:Sto):Blk:=.cells 70 [.str s.key,.str s.lin,.int .i64 s.latest,.mp 0,.str s.own,.int .i64 s.left]
theorem Sto.M_loc (s:Sto):s.M.loc 2∧s.M.ren (fun i=>i)=s.M:=by
 have h:s.M.loc 0:=by
  show ((strM s.es).all fun e=>e.2.loc 0)=true
  rw [List.all_eq_true]
  intro e he
  obtain ⟨x,hx,rfl⟩:=List.mem_map.1 he
  rfl
 exact ⟨(Blk.loc0 2 _ h).1,(Blk.loc0 0 _ h).2 _⟩
theorem liftS {P:Program} {G:World→Prop} {f:FuncId} {args:List A} {s s':Sto} {v:A} (hc:ACall P G f (.ptr 1 0::args) ⟨[s.M,s.B],[]⟩ fun v' h'=>v'=v∧h'.b[0]?=some s'.M∧h'.b[1]?=some s'.B) (ha:A.locL 0 args=true) (hv:v.loc 0=true) (l:List Blk) (t:List (TypeId×Nat×Nat)) :
  ACall P G f (.ptr 1 0::args) ⟨s.M::s.B::l,t⟩ fun v' h'=>v'=v∧h'=⟨s'.M::s'.B::l,t⟩:=by
 have key:=ACall.lift hc (fun i=>i) (fun a b _ _ e=>e) (by unfold A.locL; rw [(A.locL0 _ args ha).1]; rfl)
  (fun x hx=>by
   rcases List.mem_cons.1 hx with rfl | hx
   ·exact s.M_loc.1
   ·rw [List.mem_singleton.1 hx]; rfl)
  (fun v' h' ⟨e,h0,h1⟩=>⟨by rw [e]; exact (A.loc0 _ v hv).1,fun j x hj hx=>by
   have:j=0∨j=1:=by simp only [List.length_cons,List.length_nil] at hj; omega
   rcases this with rfl | rfl
   ·rw [h0] at hx; injection hx with hx; subst hx; exact s'.M_loc.1
   ·rw [h1] at hx; injection hx with hx; subst hx; rfl⟩)
  (h:=⟨s.M::s.B::l,t⟩) (fun j hj=>by
   have:j=0∨j=1:=by simp only [List.length_cons,List.length_nil] at hj; omega
   rcases this with rfl | rfl
   ·show some s.M=some (s.M.ren fun i=>i); rw [s.M_loc.2]
   ·rfl)
 have e:A.renL (fun i=>i) (.ptr 1 0::args) = .ptr 1 0::args:=by unfold A.renL; rw [(A.locL0 0 args ha).2]; rfl
 rw [e] at key
 refine key.mono ?_
 rintro v' h' ⟨v0,⟨b0,t0⟩,⟨rfl,h0,h1⟩,rfl,rfl⟩
 refine ⟨(A.loc0 0 _ hv).2 _,?_⟩
 match b0,h0,h1 with
 | x::y::b,h0,h1 =>
  simp only [List.getElem?_cons_zero,List.getElem?_cons_succ,Option.some.injEq] at h0 h1
  subst h0; subst h1
  simp only [List.length_cons,List.length_nil,List.take_succ_cons,List.take_zero,setAll,s'.M_loc.2]
  rfl
namespace Sto
def txt (s:List UInt8):Bool:=s != []&&Str.valid s
def lock (s:Sto) (who:List UInt8) (n:Int):Sto×Int:=
 if (txt who&&decide (1≤n)&&decide (n≤1099511627776))=false then (s,1)
 else if (s.own != []&&s.own != who)=true then (s,24)
 else ({ s with own:=who,left:=n },0)
def holds (s:Sto) (who:List UInt8):Bool:=s.own != []&&s.own == who
def unlock (s:Sto) (who:List UInt8):Sto×Int:=if s.holds who=false then (s,25) else ({ s with own:=[],left:=0 },0)
def tick (s:Sto) (n:Int):Sto:=
 if n≤0∨s.own=[] then s
 else if s.left - (if s.left < n then s.left else n)=0 then { s with own:=[],left:=0 } else { s with left:=s.left - (if s.left < n then s.left else n) }
def keep (s:Sto) (st:Sf.St):Sto×Int:=
 if (Sf.encode 2 st).2≠0 then (s,(Sf.encode 2 st).2)
 else if (Seal.enc s.key (IntKind.u64.wrap st.ser) (Sf.encode 2 st).1).2≠0 then (s,(Seal.enc s.key (IntKind.u64.wrap st.ser) (Sf.encode 2 st).1).2)
 else ({ s with latest:=st.ser,es:=lerase (IntKind.i64.wrap (st.ser - 64)) (lput st.ser (Seal.enc s.key (IntKind.u64.wrap st.ser) (Sf.encode 2 st).1).1 s.es),c:=mclock st.ser (strM s.es) s.c },0)
def write (s:Sto) (who:List UInt8) (st:Sf.St):Sto×Int:=
 if s.holds who=false then (s,25) else if st.lin≠s.lin then (s,23) else if st.ser≠IntKind.i64.wrap (s.latest+1) then (s,22) else s.keep st
def plain (s:Sto) (n:Int):List UInt8×Int:=match lfind n s.es with
 | none=>([],9)
 | some b=>Seal.dec s.key b
def at' (s:Sto) (n:Int):Sf.St×Int:=
 if (s.plain n).2≠0 then (Sf.zero,(s.plain n).2)
 else
  let d:=Sf.decode (s.plain n).1
  if d.2=0 then (d.1,Sf.checkZ d.1) else d
end Sto
end AX
end Go.Proofs.YtahmpiioegemaabGreatDoor


