/- Part of what the proof needs. -/
import Derived.Test.YtnghhnahdjjpkaaGreatDoorMFrRecoveryReplaysUpto0
import Derived.Test.YtnghhnahdjjpkaaGreatDoorMFrRecoveryReplaysUptoM
import Derived.Test.YtnghhnahdjjpkaaGreatDoorMFrRecoveryReplaysUptoN
import Derived.Test.YtnghhnahdjjpkaaGreatDoorMFrRecoveryReplaysUptoQ
import Derived.Test.YtnghhnahdjjpkaaGreatDoorMFrRecoveryReplaysUptoU
import Derived.Test.YtnghhnahdjjpkaaGreatDoorMFrRecoveryReplaysUptoW
set_option maxHeartbeats 4000000
set_option maxRecDepth 100000
set_option linter.all false
namespace Go.Proofs.YtnghhnahdjjpkaaGreatDoor
section
open Go.RowKit
open Go.Op (bytesLess)
namespace AX
def awv:AX.AFn:=⟨21,aS [aR 1 (.box 40 (.t 0)),aR 2 (.mv (.c (.bool false)))] (.seq (aS [aF 4 0 1,aL 5 4,aR 6 (.bin .eql (.t 5) (aI 6))] (.cond (.t 6) (aS [aR 2 (.mv (.c (.bool false)))] (.ret)) (.skip))) (.seq (aS [aR 3 (.mv (aI 0))] (.block 0 (.loop (.seq (aS [aM 7 3,aF 8 3 1,aL 9 8,aR 10 (.len false (.t 9)),aR 11 (.bin .lss (.t 7) (.t 10))] (.cond (.t 11) (.skip) (.exit 0))) (.seq (.block 1 (aS [aF 14 3 1,aL 15 14,aM 16 3,aR 17 (.iaddr 5 (.t 15) (.t 16)),aR 18 (.load true 5 (.t 17)),aR 19 (.call 84 [.t 18]),aR 20 (.un .not (.t 19))] (.cond (.t 20) (aS [aR 2 (.mv (.c (.bool false)))] (.ret)) (.skip)))) (.reg false [aM 12 3,aR 13 (.bin .add (.t 12) (aI 1)),aM 3 13])))))) (aS [aR 2 (.mv (.c (.bool true)))] (.ret)))),[.t 2]⟩
theorem cwg:AX.compFn Tryz.prog 84=some awv:=by kernel_rfl
def aw9:AX.AFn:=⟨11,aS [aR 4 (.mv (aI 0))] (.seq (aS [aM 5 0,aM 6 1,aR 7 (.bin .lss (.t 5) (.t 6))] (.cond (.t 7) (aS [aR 4 (.mv (aI (-1)))] (.ret)) (.skip))) (.seq (aS [aM 8 0,aM 9 1,aR 10 (.bin .gtr (.t 8) (.t 9))] (.cond (.t 10) (aS [aR 4 (.mv (aI 1))] (.ret)) (.skip))) (aS [aR 4 (.mv (aI 0))] (.ret)))),[.t 4]⟩
theorem ckk:AX.compFn Tryz.prog 86=some aw9:=by kernel_rfl
def awl:AX.AFn:=⟨9,aS [aR 2 (.mv (.c (.bool false)))] (aS [aM 3 0,aR 4 (.bin .neq (.t 3) (.c (.str []))),aM 5 4,aG 6 (.mv (.t 0)) 5 true,aG 7 (.call 80 [.t 6]) 5 true,aR 8 (.pick (.t 5) (.t 7) (.c (.bool false))),aM 2 8] (.ret)),[.t 2]⟩
theorem cky:AX.compFn Tryz.prog 39=some awl:=by kernel_rfl
def ax0:AX.AFn:=⟨20,aS [aR 2 (.mv (.c (.str []))),aR 3 (.mv (.c (.bool false)))] (aS [aM 7 0,aR 8 (.call 126 [.t 7]),aM 6 8,aE 9 6 0,aE 10 6 1,aR 4 (.alloc 105 [.sl 0 .nil [],.bool false,.str [],.str [],.int .i64 0,.int .i64 0,.str []]),aU (.store 7 (.t 4) (.t 9)),aM 5 10] (.seq (.reg true [aF 11 2 4,⟨some 12,.load false 1 (.t 11),none,[0]⟩,aM 13 5,⟨some 14,.bin .eql (.t 13) (aI 0),none,[2]⟩,⟨some 15,.mv (.t 14),none,[3]⟩,⟨some 16,.faddr 1 (.t 4),some (15,true),[4]⟩,⟨some 17,.load false 1 (.t 16),some (15,true),[5,4]⟩,⟨some 18,.un .not (.t 17),some (15,true),[6,4]⟩,⟨some 19,.pick (.t 15) (.t 18) (.c (.bool false)),none,[4,7]⟩,⟨some 2,.mv (.t 12),none,[1,4,0,1]⟩,⟨some 3,.mv (.t 19),none,[8,9,0,1,2,3,4,5,6,7,8,9]⟩]) (.ret))),[.t 2,.t 3]⟩
theorem bkn:AX.compFn Tryz.prog 81=some ax0:=by kernel_rfl
def ajs:AX.AFn:=⟨17,aS [aR 2 (.mv (.c (.bool false)))] (aS [aM 6 0,aR 7 (.call 160 [.t 6]),aM 5 7,aE 8 5 0,aE 9 5 1,aM 3 8,aM 4 9] (aS [aM 10 4,aR 11 (.bin .eql (.t 10) (aI 0)),aM 12 11,aG 13 (.mv (.t 3)) 12 true,aG 14 (.mv (.t 0)) 12 true,aG 15 (.bin .eql (.t 13) (.t 14)) 12 true,aR 16 (.pick (.t 12) (.t 15) (.c (.bool false))),aM 2 16] (.ret))),[.t 2]⟩
theorem bwb:AX.compFn Tryz.prog 129=some ajs:=by kernel_rfl
def bzl:AX.AFn:=⟨32,aS [aR 2 (.mv (.c (.bool false)))] (.seq (aS [aR 3 (.mv (aI 0))] (.block 0 (.loop (.seq (aS [aM 4 3,aM 5 0,aR 6 (.len false (.t 5)),aR 7 (.bin .lss (.t 4) (.t 6))] (.cond (.t 7) (.skip) (.exit 0))) (.seq (.block 1 (.seq (.reg true [aM 10 0,aM 11 3,⟨some 12,.iaddr 1 (.t 10) (.t 11),none,[0,1]⟩,⟨some 13,.load false 1 (.t 12),none,[2]⟩,⟨some 14,.call 129 [.t 13],none,[3]⟩,⟨some 15,.un .not (.t 14),none,[4]⟩,⟨some 16,.mv (.t 15),none,[5,4]⟩,⟨some 17,.mv (.t 3),some (16,false),[6]⟩,⟨some 18,.bin .gtr (.t 17) (aI 0),some (16,false),[7,6]⟩,⟨some 19,.mv (.t 18),some (16,false),[8,6,6]⟩,⟨some 20,.mv (.t 0),some (19,true),[9]⟩,⟨some 21,.mv (.t 3),some (19,true),[9]⟩,⟨some 22,.bin .sub (.t 21) (aI 1),some (19,true),[11,9]⟩,⟨some 23,.iaddr 1 (.t 20) (.t 22),some (19,true),[10,12,9]⟩,⟨some 24,.load false 1 (.t 23),some (19,true),[13,9]⟩,⟨some 25,.mv (.t 0),some (19,true),[9]⟩,⟨some 26,.mv (.t 3),some (19,true),[9]⟩,⟨some 27,.iaddr 1 (.t 25) (.t 26),some (19,true),[15,16,9]⟩,⟨some 28,.load false 1 (.t 27),some (19,true),[17,9]⟩,⟨some 29,.bin .geq (.t 24) (.t 28),some (19,true),[14,18,9]⟩,⟨some 30,.pick (.t 19) (.t 29) (.c (.bool false)),some (16,false),[9,19,6]⟩,⟨some 31,.pick (.t 16) (.c (.bool true)) (.t 30),none,[6,20]⟩]) (.cond (.t 31) (aS [aR 2 (.mv (.c (.bool false)))] (.ret)) (.skip)))) (.reg false [aM 8 3,aR 9 (.bin .add (.t 8) (aI 1)),aM 3 9])))))) (aS [aR 2 (.mv (.c (.bool true)))] (.ret))),[.t 2]⟩
theorem cve:AX.compFn Tryz.prog 85=some bzl:=by kernel_rfl
def bjd:AX.AFn:=⟨20,aS [aR 2 (.mv (.c (.bool false)))] (aS [aM 6 0,aR 7 (.call 127 [.t 6]),aM 5 7,aE 8 5 0,aE 9 5 1,aM 3 8,aM 4 9] (aS [aM 10 0,aR 11 (.bin .eql (.t 10) (.c (.str []))),aM 12 11,aG 13 (.mv (.t 4)) 12 false,aG 14 (.bin .eql (.t 13) (aI 0)) 12 false,aG 15 (.mv (.t 14)) 12 false,aG 16 (.mv (.t 3)) 15 true,aG 17 (.bin .geq (.t 16) (aI 1)) 15 true,aG 18 (.pick (.t 15) (.t 17) (.c (.bool false))) 12 false,aR 19 (.pick (.t 12) (.c (.bool true)) (.t 18)),aM 2 19] (.ret))),[.t 2]⟩
theorem dzh:AX.compFn Tryz.prog 82=some bjd:=by kernel_rfl
def ayg:AX.AFn:=⟨58,aS [aR 1 (.box 42 (.t 0)),aR 2 (.mv (aI 0))] (aS [aF 7 0 1,aL 8 7,aR 9 (.call 81 [.t 8]),aM 6 9,aE 10 6 0,aE 11 6 1,aM 3 10,aM 4 11] (.seq (aS [aM 12 4,aR 13 (.un .not (.t 12)),aM 14 13,aG 15 (.faddr 1 (.t 1)) 14 false,aG 16 (.load false 1 (.t 15)) 14 false,aG 17 (.call 82 [.t 16]) 14 false,aG 18 (.un .not (.t 17)) 14 false,aR 19 (.pick (.t 14) (.c (.bool true)) (.t 18)),aM 20 19,aG 21 (.faddr 2 (.t 1)) 20 false,aG 22 (.load false 1 (.t 21)) 20 false,aG 23 (.call 39 [.t 22]) 20 false,aG 24 (.un .not (.t 23)) 20 false,aR 25 (.pick (.t 20) (.c (.bool true)) (.t 24)),aM 26 25,aG 27 (.faddr 3 (.t 1)) 26 false,aG 28 (.load false 1 (.t 27)) 26 false,aG 29 (.mv (.t 3)) 26 false,aG 30 (.bin .neq (.t 28) (.t 29)) 26 false,aR 31 (.pick (.t 26) (.c (.bool true)) (.t 30))] (.cond (.t 31) (aS [aR 2 (.mv (aI 1))] (.ret)) (.skip))) (.seq (aS [aF 32 4 1,aR 33 (.load true 5 (.t 32)),aR 34 (.call 83 [.t 33]),aM 5 34] (aS [aM 35 5,aR 36 (.bin .neq (.t 35) (aI 0))] (.cond (.t 36) (aS [aM 37 5,aM 2 37] (.ret)) (.skip)))) (.seq (aS [aF 38 4 1,aF 39 0 38,aL 40 39,aR 41 (.bin .neq (.t 40) (aI 5))] (.cond (.t 41) (aS [aR 2 (.mv (aI 6))] (.ret)) (.skip))) (.seq (aS [aF 42 4 1,aR 43 (.load true 5 (.t 42)),aR 44 (.call 84 [.t 43]),aR 45 (.un .not (.t 44))] (.cond (.t 45) (aS [aR 2 (.mv (aI 11))] (.ret)) (.skip))) (.seq (aS [aF 46 9 1,aL 47 46,aR 48 (.bin .lss (.t 47) (aI 1)),aM 49 48,aG 50 (.faddr 9 (.t 1)) 49 false,aG 51 (.load false 1 (.t 50)) 49 false,aG 52 (.bin .gtr (.t 51) (aI 9007199254740992)) 49 false,aR 53 (.pick (.t 49) (.c (.bool true)) (.t 52))] (.cond (.t 53) (aS [aR 2 (.mv (aI 5))] (.ret)) (.skip))) (.seq (aS [aF 54 12 1,aL 55 54,aR 56 (.call 85 [.t 55]),aR 57 (.un .not (.t 56))] (.cond (.t 57) (aS [aR 2 (.mv (aI 1))] (.ret)) (.skip))) (aS [aR 2 (.mv (aI 0))] (.ret))))))))),[.t 2]⟩
theorem ck9:AX.compFn Tryz.prog 40=some ayg:=by kernel_rfl
def bzj:AX.AFn:=⟨25,aS [aR 1 (.box 48 (.t 0)),aR 2 (.mv (aI 0))] (aS [aF 6 0 1,aL 7 6,aR 8 (.call 81 [.t 7]),aM 5 8,aE 9 5 0,aE 10 5 1,aM 3 9,aM 4 10] (.seq (aS [aF 11 2 1,aL 12 11,aR 13 (.call 39 [.t 12]),aR 14 (.un .not (.t 13)),aM 15 14,aG 16 (.mv (.t 4)) 15 false,aG 17 (.un .not (.t 16)) 15 false,aR 18 (.pick (.t 15) (.c (.bool true)) (.t 17)),aM 19 18,aG 20 (.faddr 1 (.t 1)) 19 false,aG 21 (.load false 1 (.t 20)) 19 false,aG 22 (.mv (.t 3)) 19 false,aG 23 (.bin .neq (.t 21) (.t 22)) 19 false,aR 24 (.pick (.t 19) (.c (.bool true)) (.t 23))] (.cond (.t 24) (aS [aR 2 (.mv (aI 1))] (.ret)) (.skip))) (aS [aR 2 (.mv (aI 0))] (.ret)))),[.t 2]⟩
theorem cvr:AX.compFn Tryz.prog 42=some bzj:=by kernel_rfl
def ayn:AX.AFn:=⟨18,aS [aR 1 (.box 65 (.t 0)),aR 2 (.mv (aI 0))] (.seq (aS [aF 4 0 1,aL 5 4,aR 6 (.call 130 [.t 5]),aR 7 (.un .not (.t 6))] (.cond (.t 7) (aS [aR 2 (.mv (aI 7))] (.ret)) (.skip))) (.seq (aS [aF 8 1 1,aR 9 (.load true 5 (.t 8)),aR 10 (.call 83 [.t 9]),aM 3 10] (aS [aM 11 3,aR 12 (.bin .neq (.t 11) (aI 0))] (.cond (.t 12) (aS [aM 13 3,aM 2 13] (.ret)) (.skip)))) (.seq (aS [aF 14 1 1,aR 15 (.load true 5 (.t 14)),aR 16 (.call 84 [.t 15]),aR 17 (.un .not (.t 16))] (.cond (.t 17) (aS [aR 2 (.mv (aI 11))] (.ret)) (.skip))) (aS [aR 2 (.mv (aI 0))] (.ret))))),[.t 2]⟩
theorem cjb:AX.compFn Tryz.prog 87=some ayn:=by kernel_rfl
def ajy:AX.AFn:=⟨19,aS [aR 5 (.box 42 (.t 2)),aR 6 (.mv (aI 0))] (.seq (aS [aM 7 0,aF 8 0 5,aL 9 8,aR 10 (.bin .neq (.t 7) (.t 9))] (.cond (.t 10) (aS [aM 11 0,aF 12 0 5,aL 13 12,aR 14 (.call 86 [.t 11,.t 13]),aM 6 14] (.ret)) (.skip))) (aS [aM 15 1,aF 16 1 5,aL 17 16,aR 18 (.call 86 [.t 15,.t 17]),aM 6 18] (.ret))),[.t 6]⟩
theorem bye:AX.compFn Tryz.prog 41=some ajy:=by kernel_rfl
theorem bvr:∀(v:V),v.lens→∀h,AT 84 [v.A] h (.bool (Sf.known v)):=by
 refine V.induct fun k n s is ks ih=>?_
 intro hlen h;unfold V.lens at hlen;have hall:=hlen.2.2.2.2;have hisl:is.length≤9223372036854775807:=by have:=hlen.1;simp only[maxLen]at this;omega
 simp only[V.A,V.cells];refine pcall ?_ rfl (by simp[A.pure,A.data]) h;refine azb mixedT cwg (by simp[awv]) ?_;dsimp only[awv];obtain⟨q,hq⟩:=Ex (Sf.known (.mk k n s is ks));rw[hq];unfold Sf.known at hq;by_cases h6:k=6
 ·have e1:(k==6)=true:=by simp[h6]
  have:false=q:=by rw[←hq];simp[h6]
  subst this;refine azc e1 ti ?_;exact Fn rfl
 have e1:(k==6)=false:=by simp[h6]
 have hq':Sf.knowns is=q:=by rw[←hq];simp[h6]
 refine azc e1 ti ?_;refine azd (fun m ts hh=>hh=⟨[.cells 40 [.int .i64 k,.int .i64 n,.str s,.sl 5 .no (V.cellss is),.sl 1 .no (strsA ks)]],[]⟩∧∃j:Nat,m=is.length-j∧j≤is.length∧Sf.knowns (is.drop j)=q∧(ts 1=.ptr 0 0∧ts 3=.int .i64 (j:Nat))) is.length ?_ ?_
 ·exact⟨rfl,0,rfl,Zq _,hq',by(exact azo ti)⟩
 rintro m ts hh ⟨rfl,j,rfl,hj,hkn,ht⟩;rcases Zr j is.length with hlt|hge
 ·have hf:(V.cellss is).length=is.length∧(j:Int)<(is.length:Int)∧(0:Int)≤(j:Int)∧(V.cellss is).getD j []=is[j].cells∧IntKind.i64.wrap ((j:Int)+1)=((j+1:Nat):Int):=
   ⟨V.cellss_length is,by omega,by omega,V.cellss_get is j hlt,by rw[wrap64 (by omega) (by omega)];omega⟩
  have hc:=ih is[j] (Zp hlt) (V.lensS_mem hall _ (Zp hlt));rw[Zl hlt]at hkn;unfold Sf.knowns at hkn;obtain⟨x,hx⟩:=Ex (is[j]);rw[hx]at hf hc hkn;obtain⟨k1,n1,w1,vi,vy⟩:=x;simp only[V.A,V.cells]at hf hc;cases hK:Sf.known (.mk k1 n1 w1 vi vy)with
  |false=>
   rw[hK]at hc hkn;have:false=q:=hkn;subst this;refine azc (ai ht hf) (ai hc ti) ?_;exact Fn rfl
  |true=>
   rw[hK,ZG]at hkn;rw[hK]at hc;refine azc (ai ht hf) (ai hc ti) ?_;exact⟨_,by omega,rfl,j+1,rfl,by omega,hkn,by(exact azo (ai ht hf))⟩
 ·have hf:=ai (V.cellss_length is) (show¬(j:Int)<(is.length:Int) by omega);rw[Zt hge]at hkn;unfold Sf.knowns at hkn;subst hkn;refine azc (ai ht hf) ti ?_;exact Fn rfl
def cmpB(a b:List UInt8):Int:=if bytesLess a b=true then -1 else if a=b then 0 else 1
theorem bkd(a b:List UInt8)(h:Hp):AT 86 [.str a,.str b] h (.int .i64 (cmpB a b)):=by
 refine pcall ?_ rfl (by simp[A.pure,A.data]) h;refine azb mixedT ckk (by simp[aw9]) ?_;dsimp only[aw9];unfold cmpB;cases hl:bytesLess a b with
 |true=>
  refine azc hl ti ?_;exact Fn rfl
 |false=>
  by_cases he:a=b
  ·have e1:(a==b)=true:=by simp[he]
   refine azc (ai hl e1) ti ?_;exact⟨_,le_refl _,by rw[if_neg (by decide),if_pos he];rfl⟩
  ·have e1:(a==b)=false:=by simp[he]
   refine azc (ai hl e1) ti ?_;exact⟨_,le_refl _,by rw[if_neg (by decide),if_neg he];rfl⟩
theorem ay2(s:List UInt8)(hs:s.length≤2000000)(h:Hp):AT 39 [.str s] h (.bool (Sf.text s)):=by
 have hv:=bqo s hs;refine pcall ?_ rfl (by simp[A.pure,A.data]) h;refine azb mixedT cky (by simp[awl]) ?_;dsimp only[awl];refine azc ti (ai hv ti) ?_;exact Fn rfl
def isM(s:List UInt8):Bool:=(Adr.parse s).2==0&&!(Adr.parse s).1.data
theorem akw(s:List UInt8)(hs:s.length≤2000000)(h:Hp):AT 81 [.str s] h (.tup [.str (Adr.parse s).1.type,.bool (isM s)]):=by
 have hp:=bj0 s hs;unfold isM;obtain⟨⟨⟨mods,data,ty,nm,⟨ka,kb,kc⟩⟩,e⟩,hP⟩:=Ex (Adr.parse s);rw[hP]at hp⊢;dsimp only[Adr.Ad.cells]at hp⊢;refine pcall ?_ rfl (by simp[A.pure,A.data]) h;refine azb mixedT bkn (by simp[ax0]) ?_;dsimp only[ax0];refine azc ti (ai hp ti) ?_;exact Fn rfl
theorem dzb(s:List UInt8)(hs:s.length≤2000000):Adr.In (Adr.bare (Adr.parse s).1):=by
 by_cases h0:(Adr.parse s).2=0
 ·obtain⟨n1,n2,n3,n4⟩:=Adr.parse_names s h0;refine⟨by simp[Adr.bare];omega,fun x hx=>?_,by show(Adr.parse s).1.type.length≤_;omega,by show(Adr.parse s).1.name.length≤_;omega,by show([]:List UInt8).length≤_;decide⟩;simp only[Adr.bare,Z0]at hx;obtain⟨y,hy,rfl⟩:=hx;exact⟨by have:=n1 y hy;dsimp only;omega,by show([]:List UInt8).length≤_;decide⟩
 ·have hz:(Adr.parse s).1=Adr.Ad.zero:=by
   unfold Adr.parse at h0⊢;split at h0
   ·split at h0
    ·next h1=>rw[if_pos h1]
    ·exact absurd rfl h0
   ·rfl
  rw[hz];exact⟨by decide,by simp[Adr.bare,Adr.Ad.zero],by decide,by decide,by decide⟩
theorem bwm(s:List UInt8)(hs:s.length≤2000000)(h:Hp):AT 129 [.str s] h (.bool (Sf.staticB s)):=by
 have hp:=cqg s hs (dzb s hs);unfold Sf.staticB;refine pcall ?_ rfl (by simp[A.pure,A.data]) h;refine azb mixedT bwb (by simp[ajs]) ?_;dsimp only[ajs];refine azc ti (ai hp ti) ?_;exact Fn rfl
theorem dz1(s:List UInt8)(hs:s.length≤2000000)(h:Hp):AT 82 [.str s] h (.bool (Sf.keyB s)):=by
 have hp:=bvv s hs;unfold Sf.keyB;refine pcall ?_ rfl (by simp[A.pure,A.data]) h;refine azb mixedT dzh (by simp[bjd]) ?_;dsimp only[bjd];refine azc ti (ai hp ti) ?_;exact Fn rfl
def prevS(l:List (List UInt8)):Nat→Option (List UInt8)
 |0=>none
 |j+1=>l[j]?
theorem dx8(l:List (List UInt8))(j:Nat)(h:j<l.length)(hl:l.length≤4611686018427387904):
  (strsA l).length=l.length∧(j:Int)<(l.length:Int)∧(0:Int)≤(j:Int)∧(strsA l).getD j []=[.str l[j]]∧IntKind.i64.wrap ((j:Int)+1)=((j+1:Nat):Int):=
 ⟨azh l,by omega,by omega,az1 l j h,by rw[wrap64 (by omega) (by omega)];omega⟩
theorem cja(l:List (List UInt8))(hn:l.length≤1000000000)(hl:∀s∈l,s.length≤2000000)(h:Hp):AT 85 [.sl 1 .no (strsA l)] h (.bool (Sf.depsB none l)):=by
 refine pcall ?_ rfl (by simp[A.pure,A.data]) h;refine azb mixedT cve (by simp[bzl]) ?_;dsimp only[bzl];obtain⟨q,hq⟩:=Ex (Sf.depsB none l);rw[hq];refine azc ti ti ?_;refine azd (fun m ts hh=>hh=⟨[],[]⟩∧∃j:Nat,m=l.length-j∧j≤l.length∧Sf.depsB (prevS l j) (l.drop j)=q∧(ts 0=.sl 1 .no (strsA l)∧ts 3=.int .i64 (j:Nat))) l.length ?_ ?_
 ·exact⟨rfl,0,rfl,Zq _,hq,by(exact azo ti)⟩
 rintro m ts hh ⟨rfl,j,rfl,hj,hd,ht⟩;rcases Zr j l.length with hlt|hge
 ·have hf:=dx8 l j hlt (by omega);have hs:=hl _ (Zp hlt);rw[Zl hlt]at hd;unfold Sf.depsB at hd;have hnx:prevS l (j+1)=some l[j]:=Zm hlt;obtain⟨s,hs'⟩:=Ex (l[j]);rw[hs']at hf hs hd hnx;have cs:=bwm s hs;cases hS:Sf.staticB s with
  |false=>
   rw[hS]at cs hd;have:false=q:=hd;subst this;refine azc (ai ht hf) (ai cs ti) ?_;exact Fn rfl
  |true=>
  rw[hS,ZG]at hd;rw[hS]at cs;cases j with
  |zero=>
   have:Sf.depsB (some s) (l.drop 1)=q:=hd;have z0:¬((0:Nat):Int)>0:=by decide
   refine azc (ai ht (ai hf z0)) (ai cs ti) ?_;exact⟨l.length-1,by omega,rfl,1,rfl,by omega,by rw[hnx];exact this,by(exact azo (ai ht hf))⟩
  |succ i=>
   have hi:i<l.length:=by omega
   have hpv:prevS l (i+1)=some l[i]:=Zm hi;rw[hpv]at hd;have g1:((i+1:Nat):Int)>0∧IntKind.i64.wrap (((i+1:Nat):Int)-1)=(i:Int)∧(i:Int)<(l.length:Int)∧(0:Int)≤(i:Int)∧(strsA l).getD i []=[.str l[i]]:=⟨by omega,by rw[wrap64 (by omega) (by omega)];omega,by omega,by omega,az1 l i hi⟩;obtain⟨p,hp⟩:=Ex (l[i]);rw[hp]at hd g1;have hb:Val.badB (some p) s=!bytesLess p s:=rfl;rw[hb,Bool.not_not]at hd;cases hB:bytesLess p s with
   |false=>
    rw[hB]at hd;have:false=q:=hd;subst this;refine azc (ai ht (ai hf (ai g1 hB))) (ai cs ti) ?_;exact Fn rfl
   |true=>
    rw[hB,ZG]at hd;refine azc (ai ht (ai hf (ai g1 hB))) (ai cs ti) ?_;exact⟨_,by omega,rfl,i+1+1,rfl,by omega,by rw[hnx];exact hd,by(exact azo (ai ht hf))⟩
 ·have hf:=ai (azh l) (show¬(j:Int)<(l.length:Int) by omega);rw[Zt hge]at hd;unfold Sf.depsB at hd;subst hd;refine azc (ai ht hf) ti ?_;exact Fn rfl
theorem bvb(s t:List UInt8):Sf.managed s t=(isM s&&(Adr.parse s).1.type==t):=rfl
theorem ckh(a b:List UInt8):(a !=b)=!(b==a):=by
 show(!(a==b))=!(b==a)
 congr 1;rw[Z4,ZC,ZC];exact eq_comm
theorem cjh(x:Sf.Inst)(hx:Sf.InstIn x)(ht:x.typ.length≤2000000)(h:Hp):AT 40 [.agg x.cells] h (.int .i64 (Sf.instZ x)):=by
 have cm:=akw x.addr hx.a;have ck:=dz1 x.dep hx.d;have ct:=ay2 x.id hx.i;have cc:=bxh x.attrs hx.l;have cn:=bvr x.attrs hx.l;have cd:=cja x.deps (by have:=hx.n;omega) hx.ds;obtain⟨q,hq⟩:=Ex (Sf.instZ x);rw[hq];unfold Sf.instZ at hq;rw[bvb]at hq;obtain⟨a,d,id,ty,⟨k,n,w,vi,vy⟩,v,tn,fi,ds⟩:=x;dsimp only at cm ck ct cd hq;simp only[V.A,V.cells]at cc cn;refine pcall ?_ rfl (by simp[A.pure,A.data,Sf.Inst.cells]) h;refine azb mixedT ck9 (by simp[ayg]) ?_;dsimp only[ayg,Sf.Inst.cells];obtain⟨T,hT⟩:=Ex ((Adr.parse a).1.type);rw[hT]at cm hq;cases hM:isM a with
 |false=>
  rw[hM]at cm hq;rw[if_pos (by simp)]at hq;subst hq;refine azc ti (ai cm ti) ?_;exact Fn rfl
 |true=>
 rw[hM,ZG]at hq;rw[hM]at cm;cases hK:Sf.keyB d with
 |false=>
  rw[hK]at ck hq;rw[if_pos (by simp)]at hq;subst hq;refine azc ti (ai cm (ai ck ti)) ?_;exact Fn rfl
 |true=>
 rw[hK]at ck hq;cases hX:Sf.text id with
 |false=>
  rw[hX]at ct hq;rw[if_pos (by simp)]at hq;subst hq;refine azc ti (ai cm (ai ck (ai ct ti))) ?_;exact Fn rfl
 |true=>
 rw[hX]at ct hq;simp only[ZW,YO]at hq;have hTy:(ty !=T)=!(T==ty):=ckh ty T;cases hE:(T==ty)with
 |false=>
  rw[hE]at hTy hq;rw[if_pos (by decide)]at hq;subst hq;refine azc hTy (ai cm (ai ck (ai ct ti))) ?_;exact Fn rfl
 |true=>
 rw[hE]at hTy hq;rw[if_neg (by decide)]at hq;have hTy':(ty !=T)=false:=hTy;by_cases hZ:Val.checkZ (.mk k n w vi vy)=0
 rotate_left
 ·obtain⟨Z,hZZ⟩:=Ex (Val.checkZ (.mk k n w vi vy));rw[hZZ]at cc hZ hq;have e1:(Z !=0)=true:=by simp[hZ]
  rw[if_pos hZ]at hq;subst hq;refine azc (ai hTy' e1) (ai cm (ai ck (ai ct (ai cc ti)))) ?_;exact Fn rfl
 rw[hZ]at cc;rw[if_neg (by simp[hZ])]at hq;have hkd:Sf.V.kind (.mk k n w vi vy)=k:=rfl;rw[hkd]at hq;by_cases h5:k=5
 rotate_left
 ·have e1:(k !=5)=true:=by simp[h5]
  rw[if_pos h5]at hq;subst hq;refine azc (ai hTy' e1) (ai cm (ai ck (ai ct (ai cc ti)))) ?_;exact Fn rfl
 have e1:(k !=5)=false:=by simp[h5]
 rw[if_neg (by simp[h5])]at hq;cases hN:Sf.known (.mk k n w vi vy)with
 |false=>
  rw[hN]at cn hq;rw[if_pos (by decide)]at hq;subst hq;refine azc (ai hTy' e1) (ai cm (ai ck (ai ct (ai cc (ai cn ti))))) ?_;exact Fn rfl
 |true=>
 rw[hN]at cn hq;rw[if_neg (by decide)]at hq;by_cases hv:v<1∨9007199254740992<v
 ·have e2:(decide (v<1)||decide (v>9007199254740992))=true:=by simpa using hv
  rw[if_pos hv]at hq;subst hq;refine azc (ai hTy' (ai e1 e2)) (ai cm (ai ck (ai ct (ai cc (ai cn ti))))) ?_;exact Fn rfl
 have e2:(decide (v<1)||decide (v>9007199254740992))=false:=by simp;omega
 rw[if_neg hv]at hq;cases hD:Sf.depsB none ds with
 |false=>
  rw[hD]at cd hq;have:q=1:=by rw[←hq];rfl
  subst this;refine azc (ai hTy' (ai e1 e2)) (ai cm (ai ck (ai ct (ai cc (ai cn (ai cd ti)))))) ?_;exact Fn rfl
 |true=>
  rw[hD]at cd hq;have:q=0:=by rw[←hq];rfl
  subst this;refine azc (ai hTy' (ai e1 e2)) (ai cm (ai ck (ai ct (ai cc (ai cn (ai cd ti)))))) ?_;exact Fn rfl
theorem cvg(p:Sf.Pend)(ha:p.addr.length≤2000000)(hk:p.tok.length≤2000000)(h:Hp):AT 42 [.agg p.cells] h (.int .i64 (if Sf.pendB p=true then 0 else 1)):=by
 have cm:=akw p.addr ha;have ct:=ay2 p.tok hk;unfold Sf.pendB;rw[bvb];obtain⟨a,ty,tok⟩:=p;dsimp only at cm ct⊢;refine pcall ?_ rfl (by simp[A.pure,A.data,Sf.Pend.cells]) h;refine azb mixedT cvr (by simp[bzj]) ?_;dsimp only[bzj,Sf.Pend.cells];obtain⟨T,hT⟩:=Ex ((Adr.parse a).1.type);rw[hT]at cm⊢;have hTy:(ty !=T)=!(T==ty):=ckh ty T;obtain⟨b,hb⟩:=Ex ((T==ty));rw[hb]at hTy⊢;obtain⟨c,hc⟩:=Ex (Sf.text tok);obtain⟨e,he⟩:=Ex (isM a);rw[hc]at ct⊢;rw[he]at cm⊢;cases c<;>cases e<;>cases b<;>((refine azc hTy (ai cm (ai ct ti)) ?_);exact Fn rfl)
theorem cva(o:Sf.Outp)(hn:o.name.length≤2000000)(hl:o.value.lens)(h:Hp):AT 87 [.agg o.cells] h (.int .i64 (Sf.outZ o)):=by
 have ci:=aqs o.name hn;have cc:=bxh o.value hl;have cn:=bvr o.value hl;obtain⟨q,hq⟩:=Ex (Sf.outZ o);rw[hq];unfold Sf.outZ at hq;obtain⟨nm,⟨k,n,w,vi,vy⟩,sn⟩:=o;dsimp only at ci hq;simp only[V.A,V.cells]at cc cn;refine pcall ?_ rfl (by simp[A.pure,A.data,Sf.Outp.cells]) h;refine azb mixedT cjb (by simp[ayn]) ?_;dsimp only[ayn,Sf.Outp.cells];cases hI:Adr.ident nm with
 |false=>
  rw[hI]at ci hq;rw[if_pos (by decide)]at hq;subst hq;refine azc ti (ai ci ti) ?_;exact Fn rfl
 |true=>
 rw[hI]at ci hq;rw[if_neg (by decide)]at hq;by_cases hZ:Val.checkZ (.mk k n w vi vy)=0
 rotate_left
 ·obtain⟨Z,hZZ⟩:=Ex (Val.checkZ (.mk k n w vi vy));rw[hZZ]at cc hZ hq;have e1:(Z !=0)=true:=by simp[hZ]
  rw[if_pos hZ]at hq;subst hq;refine azc e1 (ai ci (ai cc ti)) ?_;exact Fn rfl
 rw[hZ]at cc;rw[if_neg (by simp[hZ])]at hq;cases hN:Sf.known (.mk k n w vi vy)with
 |false=>
  rw[hN]at cn hq;rw[if_pos (by decide)]at hq;subst hq;refine azc ti (ai ci (ai cc (ai cn ti))) ?_;exact Fn rfl
 |true=>
  rw[hN]at cn hq;rw[if_neg (by decide)]at hq;subst hq;refine azc ti (ai ci (ai cc (ai cn ti))) ?_;exact Fn rfl
def beforeZ(a d:List UInt8)(y:Sf.Inst):Int:=if a=y.addr then cmpB d y.dep else cmpB a y.addr
theorem bzk(a d:List UInt8)(y:Sf.Inst)(h:Hp):AT 41 [.str a,.str d,.agg y.cells] h (.int .i64 (beforeZ a d y)):=by
 have c1:=bkd a y.addr;have c2:=bkd d y.dep;unfold beforeZ;obtain⟨a',d',id,ty,⟨k,n,w,vi,vy⟩,v,tn,fi,ds⟩:=y;dsimp only at c1 c2⊢;refine pcall ?_ rfl (by simp[A.pure,A.data,Sf.Inst.cells]) h;refine azb mixedT bye (by simp[ajy]) ?_;dsimp only[ajy,Sf.Inst.cells];by_cases he:a=a'
 ·have e1:(a !=a')=false:=by simp[he]
  rw[if_pos he];refine azc e1 (ai c2 ti) ?_;exact Fn rfl
 ·have e1:(a !=a')=true:=by simp[he]
  rw[if_neg he];refine azc e1 (ai c1 ti) ?_;exact Fn rfl
theorem ckx(a b:List UInt8):decide (cmpB a b≤0)=!bytesLess b a:=by
 have h1:=Val.less_total a b;unfold cmpB;cases hl:bytesLess a b with
 |true=>
  rw[if_pos rfl];have h2:=Val.less_total b a;rw[hl]at h2;rw[h2];rfl
 |false=>
  rw[if_neg (by decide)];by_cases he:a=b
  ·subst he;rw[if_pos rfl,Val.less_irrefl];rfl
  ·rw[if_neg he];rw[hl]at h1;have:(b==a)=false:=by simpa using fun h=>he h.symm
   rw[this,YO]at h1;rw[←h1];rfl
theorem bxm(x y:Sf.Inst):decide (beforeZ x.addr x.dep y≤0)=!Sf.behind y x:=by
 unfold beforeZ Sf.behind;by_cases he:x.addr=y.addr
 ·rw[if_pos he,ckx,he,Val.less_irrefl];simp
 ·rw[if_neg he,ckx];have:(y.addr==x.addr)=false:=by simpa using fun h=>he h.symm
  rw[this,Ye,YO]
def awr:AX.AFn:=⟨35,aS [aR 2 (.mv (aI 0))] (.seq (aS [aR 3 (.mv (aI 0))] (.block 0 (.loop (.seq (aS [aM 5 3,aM 6 0,aR 7 (.len false (.t 6)),aR 8 (.bin .lss (.t 5) (.t 7))] (.cond (.t 8) (.skip) (.exit 0))) (.seq (.block 1 (.seq (aS [aM 11 0,aM 12 3,aR 13 (.iaddr 7 (.t 11) (.t 12)),aR 14 (.load true 7 (.t 13)),aR 15 (.call 87 [.t 14]),aM 4 15] (aS [aM 16 4,aR 17 (.bin .neq (.t 16) (aI 0))] (.cond (.t 17) (aS [aM 18 4,aM 2 18] (.ret)) (.skip)))) (.seq (.reg true [aM 19 3,⟨some 20,.bin .gtr (.t 19) (aI 0),none,[0]⟩,⟨some 21,.mv (.t 20),none,[1]⟩,⟨some 22,.mv (.t 0),some (21,true),[2]⟩,⟨some 23,.mv (.t 3),some (21,true),[2]⟩,⟨some 24,.bin .sub (.t 23) (aI 1),some (21,true),[4,2]⟩,⟨some 25,.iaddr 7 (.t 22) (.t 24),some (21,true),[3,5,2]⟩,⟨some 26,.faddr 0 (.t 25),some (21,true),[6,2]⟩,⟨some 27,.load false 1 (.t 26),some (21,true),[7,2]⟩,⟨some 28,.mv (.t 0),some (21,true),[2]⟩,⟨some 29,.mv (.t 3),some (21,true),[2]⟩,⟨some 30,.iaddr 7 (.t 28) (.t 29),some (21,true),[9,10,2]⟩,⟨some 31,.faddr 0 (.t 30),some (21,true),[11,2]⟩,⟨some 32,.load false 1 (.t 31),some (21,true),[12,2]⟩,⟨some 33,.bin .geq (.t 27) (.t 32),some (21,true),[8,13,2]⟩,⟨some 34,.pick (.t 21) (.t 33) (.c (.bool false)),none,[2,14]⟩]) (.cond (.t 34) (aS [aR 2 (.mv (aI 1))] (.ret)) (.skip))))) (.reg false [aM 9 3,aR 10 (.bin .add (.t 9) (aI 1)),aM 3 10])))))) (aS [aR 2 (.mv (aI 0))] (.ret))),[.t 2]⟩
theorem cx9:AX.compFn Tryz.prog 43=some awr:=by kernel_rfl
theorem bx1{α:Type}(f:α→List A)(l:List α)(i:Nat)(h:l.length≤i):(l.map f).length=l.length∧¬(i:Int)<(l.length:Int):=⟨Zj _,by omega⟩
def prevG{α:Type}(l:List α):Nat→Option α
 |0=>none
 |j+1=>l[j]?
theorem aqn{α:Type}(l:List α)(j:Nat)(h:j<l.length):prevG l (j+1)=some l[j]:=Zm h
theorem av7{α:Type}(f:α→List A)(l:List α)(i:Nat)(h:i+1<l.length)(hl:l.length≤4611686018427387904):
  ((i+1:Nat):Int)>0∧IntKind.i64.wrap (((i+1:Nat):Int)-1)=(i:Int)∧(i:Int)<(l.length:Int)∧(0:Int)≤(i:Int)∧(l.map f).getD i []=f (l[i]'(by omega)):=
 ⟨by omega,by rw[wrap64 (by omega) (by omega)];omega,by omega,by omega,aqj f l i (by omega)⟩
theorem cwx(l:List Sf.Outp)(hn:l.length≤1000000000)(ho:∀o∈l,o.name.length≤2000000∧o.value.lens)(h:Hp):AT 43 [.sl 7 .no (l.map Sf.Outp.cells)] h (.int .i64 (Sf.outsZ none l)):=by
 refine pcall ?_ rfl (by simp[A.pure,A.data]) h;refine azb mixedT cx9 (by simp[awr]) ?_;dsimp only[awr];obtain⟨q,hq⟩:=Ex (Sf.outsZ none l);rw[hq];refine azc ti ti ?_;refine azd (fun m ts hh=>hh=⟨[],[]⟩∧∃j:Nat,m=l.length-j∧j≤l.length∧Sf.outsZ ((prevG l j).map Sf.Outp.name) (l.drop j)=q∧(ts 0=.sl 7 .no (l.map Sf.Outp.cells)∧ts 3=.int .i64 (j:Nat))) l.length ?_ ?_
 ·exact⟨rfl,0,rfl,Zq _,hq,by(exact azo ti)⟩
 rintro m ts hh ⟨rfl,j,rfl,hj,hd,ht⟩;rcases Zr j l.length with hlt|hge
 ·have hf:=avy Sf.Outp.cells l j hlt (by omega);have hox:=ho _ (Zp hlt);rw[Zl hlt]at hd;unfold Sf.outsZ at hd;have hnx:=aqn l j hlt;obtain⟨x,hx⟩:=Ex (l[j]);rw[hx]at hf hox hd hnx;have co:=cva x hox.1 hox.2;obtain⟨Z,hZ⟩:=Ex (Sf.outZ x);rw[hZ]at co hd;have hxn:(some x).map Sf.Outp.name=some x.name:=rfl;obtain⟨nm,⟨k,n,w,vi,vy⟩,sn⟩:=x;dsimp only[Sf.Outp.cells]at hf co hd hxn;by_cases hz:Z=0
  rotate_left
  ·have e1:(Z !=0)=true:=by simp[hz]
   rw[if_pos hz]at hd;subst hd;refine azc (ai ht (ai hf e1)) (ai co ti) ?_;exact Fn rfl
  have e1:(Z !=0)=false:=by simp[hz]
  rw[if_neg (by simp[hz])]at hd;cases j with
  |zero=>
   have z0:¬((0:Nat):Int)>0:=by decide
   have hd':Sf.outsZ (some nm) (l.drop 1)=q:=hd;refine azc (ai ht (ai hf (ai e1 z0))) (ai co ti) ?_;exact⟨l.length-1,by omega,rfl,1,rfl,by omega,by rw[hnx];exact hd',by(exact azo (ai ht hf))⟩
  |succ i=>
   have hb:=av7 Sf.Outp.cells l i hlt (by omega);rw[aqn l i (by omega)]at hd;obtain⟨y,hy⟩:=Ex (l[i]);rw[hy]at hb hd;obtain⟨nm2,⟨k2,n2,w2,vi2,vy2⟩,sn2⟩:=y;dsimp only[Sf.Outp.cells,Option.map_some]at hb hd
   replace hd:(if(!bytesLess nm2 nm)=true then(1:Int)else Sf.outsZ (some nm) (l.drop (i+1+1)))=q:=hd
   cases hB:bytesLess nm2 nm with
   |false=>
    rw[hB,if_pos (by decide)]at hd;subst hd;refine azc (ai ht (ai hf (ai e1 (ai hb hB)))) (ai co ti) ?_;exact Fn rfl
   |true=>
    rw[hB,if_neg (by decide)]at hd;refine azc (ai ht (ai hf (ai e1 (ai hb hB)))) (ai co ti) ?_;exact⟨_,by omega,rfl,i+1+1,rfl,by omega,by rw[hnx];exact hd,by(exact azo (ai ht hf))⟩
 ·have hf:=bx1 Sf.Outp.cells l j hge;rw[Zt hge]at hd;unfold Sf.outsZ at hd;subst hd;refine azc (ai ht hf) ti ?_;exact Fn rfl
theorem bqz(st:Sf.St)(hin:Sf.StIn st)(htp:Sf.TypIn st)(h:Hp):AT 17 [st.A] h (.int .i64 (Sf.checkZ st)):=by
 obtain⟨lin,ser,ins,ps,os⟩:=st;obtain⟨hl,hi,hp,ho,hni,hnp,hno⟩:=hin;dsimp only at hl hi hp ho hni hnp hno;have hti:=htp.insts;have htp':=htp.pends;dsimp only at hti htp';have ct:=ay2 lin (by omega);have co:=cwx os hno ho;obtain⟨q,hq⟩:=Ex (Sf.checkZ ⟨lin,ser,ins,ps,os⟩);rw[hq];unfold Sf.checkZ at hq;dsimp only at hq;obtain⟨N,hN⟩:=Ex (Sf.instsZ none ins);obtain⟨P,hP⟩:=Ex (Sf.pendsZ none ps);rw[hN,hP]at hq;refine pcall ?_ rfl (by simp[A.pure,A.data,Sf.St.A]) h;refine fo ?_;dsimp only[Sf.St.A];have li:(ins.map Sf.Inst.cells).length=ins.length∧(ps.map Sf.Pend.cells).length=ps.length∧(os.map Sf.Outp.cells).length=os.length:=⟨Zj _,Zj _,Zj _⟩;cases hT:Sf.text lin with
 |false=>
  rw[hT]at ct hq;rw[if_pos (by decide)]at hq;subst hq;refine azc ti (ai ct ti) ?_;exact Fn rfl
 |true=>
 rw[hT]at ct hq;rw[if_neg (by decide)]at hq;by_cases hs:ser<0∨9007199254740992<ser
 ·have e1:(decide (ser<0)||decide (ser>9007199254740992))=true:=by simpa using hs
  rw[if_pos hs]at hq;subst hq;refine azc e1 (ai ct ti) ?_;exact Fn rfl
 have e1:(decide (ser<0)||decide (ser>9007199254740992))=false:=by simp;omega
 rw[if_neg hs]at hq;by_cases hm:512<ins.length∨512<ps.length∨512<os.length
 ·have e2:(decide ((ins.length:Int)>512)||decide ((ps.length:Int)>512)||decide ((os.length:Int)>512))=true:=by simp;omega
  rw[if_pos hm]at hq;subst hq;refine azc (ai e1 (ai li e2)) (ai ct ti) ?_;exact Fn rfl
 have e2:(decide ((ins.length:Int)>512)||decide ((ps.length:Int)>512)||decide ((os.length:Int)>512))=false:=by simp;omega
 rw[if_neg hm]at hq;refine azc (ai e1 (ai li e2)) (ai ct ti) ?_
 refine azd (fun m ts hh=>∃(j:Nat) (l:List Blk),m=ins.length-j∧j≤ins.length∧hh=⟨.cells 26 [.str lin,.int .i64 ser,.sl 13 .no (ins.map Sf.Inst.cells),.sl 3 .no (ps.map Sf.Pend.cells),.sl 7 .no (os.map Sf.Outp.cells)]::l,[]⟩ ∧
  Sf.instsZ (prevG ins j) (ins.drop j)=N∧(ts 1=.ptr 0 0∧ts 3=.int .i64 (j:Nat))) ins.length ?_ ?_
 ·exact⟨0,[],rfl,Zq _,rfl,hN,by(exact azo ti)⟩
 rintro m ts hh ⟨j,l,rfl,hj,rfl,hd,ht⟩;rcases Zr j ins.length with hlt|hge
 ·have hf:=avy Sf.Inst.cells ins j hlt (by omega);have hix:=hi _ (Zp hlt);have htx:=hti _ (Zp hlt);rw[Zl hlt]at hd;unfold Sf.instsZ at hd;have hnx:=aqn ins j hlt;obtain⟨x,hx⟩:=Ex (ins[j]);rw[hx]at hf hix htx hd hnx;have ci:=cjh x hix htx;have cb:=fun y=>bzk x.addr x.dep y
  have hbf:=bxm x;obtain⟨Z,hZ⟩:=Ex (Sf.instZ x);rw[hZ]at ci hd;obtain⟨x',hx'⟩:∃x',x'=x:=⟨_,rfl⟩;rw[←hx']at hd hnx hbf;obtain⟨a,d,id,ty,⟨k,n,w,vi,vy⟩,v,tn,fi,ds⟩:=x;have hxa:x'.addr=a∧x'.dep=d:=by rw[hx'];exact⟨rfl,rfl⟩
  rw[hxa.1,hxa.2]at hbf;dsimp only[Sf.Inst.cells]at hf ci cb;by_cases hz:Z=0
  rotate_left
  ·have e3:(Z !=0)=true:=by simp[hz]
   rw[if_pos hz]at hd;have:q=Z:=by rw[←hq,←hd,if_pos hz]
   subst this;refine azc (ai ht (ai hf (ai li e3))) (ai ci ti) ?_;exact Fn rfl
  have e3:(Z !=0)=false:=by simp[hz]
  rw[if_neg (by simp[hz])]at hd;cases j with
  |zero=>
   have z0:¬((0:Nat):Int)>0:=by decide
   have hd':Sf.instsZ (some x') (ins.drop 1)=N:=hd;refine azc (ai ht (ai hf (ai li (ai e3 z0)))) (ai ci ti) ?_;exact⟨ins.length-1,by omega,1,_,rfl,by omega,rfl,by rw[hnx];exact hd',by(exact azo (ai ht hf))⟩
  |succ i=>
   have hb:=av7 Sf.Inst.cells ins i hlt (by omega);rw[aqn ins i (by omega)]at hd;obtain⟨y,hy⟩:=Ex (ins[i]);rw[hy]at hb hd;have cby:=cb y;have hbfy:=hbf y
   replace hd:(if(!Sf.behind y x')=true then(1:Int)else Sf.instsZ (some x') (ins.drop (i+1+1)))=N:=hd
   obtain⟨B,hBB⟩:=Ex (beforeZ a d y);rw[hBB]at cby hbfy;obtain⟨bh,hbh⟩:=Ex (Sf.behind y x');rw[hbh]at hd hbfy;obtain⟨a2,d2,id2,ty2,⟨k2,n2,w2,vi2,vy2⟩,v2,tn2,fi2,ds2⟩:=y;dsimp only[Sf.Inst.cells]at hb cby;cases bh with
   |false=>
    rw[if_pos (by decide)]at hd;have hb0:B≤0:=by simpa using hbfy
    have:q=1:=by rw[←hq,←hd];rfl
    subst this;refine azc (ai ht (ai hf (ai li (ai e3 (ai hb hb0))))) (ai ci (ai cby ti)) ?_;exact Fn rfl
   |true=>
    rw[if_neg (by decide)]at hd;have hb0:¬B≤0:=by simpa using hbfy
    refine azc (ai ht (ai hf (ai li (ai e3 (ai hb hb0))))) (ai ci (ai cby ti)) ?_;exact⟨_,by omega,i+1+1,_,rfl,by omega,rfl,by rw[hnx];exact hd,by(exact azo (ai ht hf))⟩
 have hf:=bx1 Sf.Inst.cells ins j hge;rw[Zt hge]at hd;unfold Sf.instsZ at hd;rw[←hd,if_neg (by simp)]at hq;refine azc (ai ht (ai hf li)) ti ?_
 refine azd (fun m ts hh=>∃(j:Nat),m=ps.length-j∧j≤ps.length∧hh=⟨.cells 26 [.str lin,.int .i64 ser,.sl 13 .no (ins.map Sf.Inst.cells),.sl 3 .no (ps.map Sf.Pend.cells),.sl 7 .no (os.map Sf.Outp.cells)]::l,[]⟩ ∧
  Sf.pendsZ ((prevG ps j).map Sf.Pend.tok) (ps.drop j)=P∧(ts 1=.ptr 0 0∧ts 6=.int .i64 (j:Nat))) ps.length ?_ ?_
 ·exact⟨0,rfl,Zq _,rfl,hP,by(exact azo ht)⟩
 rintro m ts' hh ⟨j',rfl,hj',rfl,hd',hu⟩;rcases Zr j' ps.length with hlt|hge'
 ·have hf:=avy Sf.Pend.cells ps j' hlt (by omega);have hpx:=hp _ (Zp hlt);rw[Zl hlt]at hd';unfold Sf.pendsZ at hd';have hnx:=aqn ps j' hlt;obtain⟨x,hx⟩:=Ex (ps[j']);rw[hx]at hf hpx hd' hnx;have cp:=cvg x hpx.1 hpx.2;obtain⟨b,hb⟩:=Ex (Sf.pendB x);rw[hb]at cp hd';obtain⟨a,ty,tok⟩:=x;dsimp only[Sf.Pend.cells]at hf cp hd';cases b with
  |false=>
   rw[if_neg (by decide)]at cp;rw[ZU,YT,if_pos rfl]at hd';have:q=1:=by rw[←hq,←hd'];rfl
   subst this;refine azc (ai hu (ai hf li)) (ai cp ti) ?_;exact Fn rfl
  |true=>
  rw[if_pos rfl]at cp;rw[ZW,Yn]at hd';cases j' with
  |zero=>
   have z0:¬((0:Nat):Int)>0:=by decide
   have hd2:Sf.pendsZ (some tok) (ps.drop 1)=P:=hd';refine azc (ai hu (ai hf (ai li z0))) (ai cp ti) ?_;exact⟨ps.length-1,by omega,1,rfl,by omega,rfl,by rw[hnx];exact hd2,by(exact azo (ai hu hf))⟩
  |succ i=>
   have hbr:=av7 Sf.Pend.cells ps i hlt (by omega);rw[aqn ps i (by omega)]at hd';obtain⟨y,hy⟩:=Ex (ps[i]);rw[hy]at hbr hd';obtain⟨a2,ty2,tok2⟩:=y;dsimp only[Sf.Pend.cells,Option.map_some]at hbr hd'
   replace hd':(if(!bytesLess tok2 tok)=true then(1:Int)else Sf.pendsZ (some tok) (ps.drop (i+1+1)))=P:=hd'
   cases hB:bytesLess tok2 tok with
   |false=>
    rw[hB,if_pos (by decide)]at hd';have:q=1:=by rw[←hq,←hd'];rfl
    subst this;refine azc (ai hu (ai hf (ai li (ai hbr hB)))) (ai cp ti) ?_;exact Fn rfl
   |true=>
    rw[hB,if_neg (by decide)]at hd';refine azc (ai hu (ai hf (ai li (ai hbr hB)))) (ai cp ti) ?_;exact⟨_,by omega,i+1+1,rfl,by omega,rfl,by rw[hnx];exact hd',by(exact azo (ai hu hf))⟩
 ·have hf':=bx1 Sf.Pend.cells ps j' hge';rw[Zt hge']at hd';unfold Sf.pendsZ at hd';rw[←hd',if_neg (by simp)]at hq;rw[hq]at co;refine azc (ai hu (ai hf' li)) (ai co ti) ?_;exact Fn rfl
end AX
end
section
open Go.RowKit
namespace AX
def bwi:AX.AFn:=⟨48,aS [aR 1 (.box 42 (.t 0)),aR 2 (.mv (.c (.bool false)))] (aS [aF 3 0 1,aL 4 3,aR 5 (.bin .eql (.t 4) (.c (.str []))),aM 6 5,aG 7 (.faddr 1 (.t 1)) 6 true,aG 8 (.load false 1 (.t 7)) 6 true,aG 9 (.bin .eql (.t 8) (.c (.str []))) 6 true,aR 10 (.pick (.t 6) (.t 9) (.c (.bool false))),aM 11 10,aG 12 (.faddr 2 (.t 1)) 11 true,aG 13 (.load false 1 (.t 12)) 11 true,aG 14 (.bin .eql (.t 13) (.c (.str []))) 11 true,aR 15 (.pick (.t 11) (.t 14) (.c (.bool false))),aM 16 15,aG 17 (.faddr 3 (.t 1)) 16 true,aG 18 (.load false 1 (.t 17)) 16 true,aG 19 (.bin .eql (.t 18) (.c (.str []))) 16 true,aR 20 (.pick (.t 16) (.t 19) (.c (.bool false))),aM 21 20,aG 22 (.faddr 4 (.t 1)) 21 true,aG 23 (.load true 5 (.t 22)) 21 true,aG 24 (.build [.int .i64 0,.int .i64 0,.str [],.sl 0 .nil [],.sl 0 .nil []] []) 21 true,aG 25 (.call 24 [.t 23,.t 24]) 21 true,aR 26 (.pick (.t 21) (.t 25) (.c (.bool false))),aM 27 26,aG 28 (.faddr 9 (.t 1)) 27 true,aG 29 (.load false 1 (.t 28)) 27 true,aG 30 (.bin .eql (.t 29) (aI 0)) 27 true,aR 31 (.pick (.t 27) (.t 30) (.c (.bool false))),aM 32 31,aG 33 (.faddr 10 (.t 1)) 32 true,aG 34 (.load false 1 (.t 33)) 32 true,aG 35 (.un .not (.t 34)) 32 true,aR 36 (.pick (.t 32) (.t 35) (.c (.bool false))),aM 37 36,aG 38 (.faddr 11 (.t 1)) 37 true,aG 39 (.load false 1 (.t 38)) 37 true,aG 40 (.un .not (.t 39)) 37 true,aR 41 (.pick (.t 37) (.t 40) (.c (.bool false))),aM 42 41,aG 43 (.faddr 12 (.t 1)) 42 true,aG 44 (.load false 1 (.t 43)) 42 true,aG 45 (.len false (.t 44)) 42 true,aG 46 (.bin .eql (.t 45) (aI 0)) 42 true,aR 47 (.pick (.t 42) (.t 46) (.c (.bool false))),aM 2 47] (.ret)),[.t 2]⟩
theorem djh:AX.compFn Tryz.prog 88=some bwi:=by kernel_rfl
def bjs:AX.AFn:=⟨25,aS [aR 1 (.box 26 (.t 0)),aR 2 (.mv (.c (.bool false)))] (aS [aF 3 0 1,aL 4 3,aR 5 (.bin .eql (.t 4) (.c (.str []))),aM 6 5,aG 7 (.faddr 1 (.t 1)) 6 true,aG 8 (.load false 1 (.t 7)) 6 true,aG 9 (.bin .eql (.t 8) (aI 0)) 6 true,aR 10 (.pick (.t 6) (.t 9) (.c (.bool false))),aM 11 10,aG 12 (.faddr 2 (.t 1)) 11 true,aG 13 (.load false 1 (.t 12)) 11 true,aG 14 (.len false (.t 13)) 11 true,aG 15 (.faddr 3 (.t 1)) 11 true,aG 16 (.load false 1 (.t 15)) 11 true,aG 17 (.len false (.t 16)) 11 true,aG 18 (.bin .add (.t 14) (.t 17)) 11 true,aG 19 (.faddr 4 (.t 1)) 11 true,aG 20 (.load false 1 (.t 19)) 11 true,aG 21 (.len false (.t 20)) 11 true,aG 22 (.bin .add (.t 18) (.t 21)) 11 true,aG 23 (.bin .eql (.t 22) (aI 0)) 11 true,aR 24 (.pick (.t 11) (.t 23) (.c (.bool false))),aM 2 24] (.ret)),[.t 2]⟩
theorem dqg:AX.compFn Tryz.prog 89=some bjs:=by kernel_rfl
def bjr:AX.AFn:=⟨16,aS [aR 2 (.mv (.c (.bool false)))] (.seq (aS [aR 3 (.mv (aI 0))] (.block 0 (.loop (.seq (aS [aM 4 3,aM 5 0,aR 6 (.len false (.t 5)),aR 7 (.bin .lss (.t 4) (.t 6))] (.cond (.t 7) (.skip) (.exit 0))) (.seq (.block 1 (aS [aM 10 0,aM 11 3,aR 12 (.iaddr 1 (.t 10) (.t 11)),aL 13 12,aR 14 (.len true (.t 13)),aR 15 (.bin .gtr (.t 14) (aI 4096))] (.cond (.t 15) (aS [aR 2 (.mv (.c (.bool false)))] (.ret)) (.skip)))) (.reg false [aM 8 3,aR 9 (.bin .add (.t 8) (aI 1)),aM 3 9])))))) (aS [aR 2 (.mv (.c (.bool true)))] (.ret))),[.t 2]⟩
theorem cyu:AX.compFn Tryz.prog 131=some bjr:=by kernel_rfl
def bwy:AX.AFn:=⟨40,aS [aR 1 (.box 42 (.t 0)),aR 2 (.mv (.c (.bool false)))] (aS [aF 3 0 1,aL 4 3,aF 5 1 1,aL 6 5,aF 7 2 1,aL 8 7,aF 9 3 1,aL 10 9,aR 11 (.mks 1 [.t 4,.t 6,.t 8,.t 10]),aR 12 (.call 131 [.t 11]),aM 13 12,aG 14 (.faddr 12 (.t 1)) 13 true,aG 15 (.load false 1 (.t 14)) 13 true,aG 16 (.call 131 [.t 15]) 13 true,aR 17 (.pick (.t 13) (.t 16) (.c (.bool false))),aM 18 17,aG 19 (.faddr 12 (.t 1)) 18 true,aG 20 (.load false 1 (.t 19)) 18 true,aG 21 (.len false (.t 20)) 18 true,aG 22 (.bin .leq (.t 21) (aI 512)) 18 true,aR 23 (.pick (.t 18) (.t 22) (.c (.bool false))),aM 24 23,aG 25 (.faddr 4 (.t 1)) 24 true,aG 26 (.load true 5 (.t 25)) 24 true,aG 27 (.call 83 [.t 26]) 24 true,aG 28 (.bin .eql (.t 27) (aI 0)) 24 true,aR 29 (.pick (.t 24) (.t 28) (.c (.bool false))),aM 30 29,aG 31 (.faddr 9 (.t 1)) 30 true,aG 32 (.load false 1 (.t 31)) 30 true,aG 33 (.bin .geq (.t 32) (aI 0)) 30 true,aR 34 (.pick (.t 30) (.t 33) (.c (.bool false))),aM 35 34,aG 36 (.faddr 9 (.t 1)) 35 true,aG 37 (.load false 1 (.t 36)) 35 true,aG 38 (.bin .leq (.t 37) (aI 9007199254740992)) 35 true,aR 39 (.pick (.t 35) (.t 38) (.c (.bool false))),aM 2 39] (.ret)),[.t 2]⟩
theorem dx3:AX.compFn Tryz.prog 91=some bwy:=by kernel_rfl
def byq:AX.AFn:=⟨38,aS [aR 1 (.box 44 (.t 0)),aR 2 (.mv (.c (.bool false)))] (aS [aF 3 1 1,aR 4 (.load true 5 (.t 3)),aR 5 (.call 89 [.t 4]),aM 6 5,aG 7 (.faddr 6 (.t 1)) 6 true,aG 8 (.load false 1 (.t 7)) 6 true,aG 9 (.bin .geq (.t 8) (aI 0)) 6 true,aR 10 (.pick (.t 6) (.t 9) (.c (.bool false))),aM 11 10,aG 12 (.faddr 6 (.t 1)) 11 true,aG 13 (.load false 1 (.t 12)) 11 true,aG 14 (.bin .lss (.t 13) (aI 2048)) 11 true,aR 15 (.pick (.t 11) (.t 14) (.c (.bool false))),aM 16 15,aG 17 (.faddr 7 (.t 1)) 16 true,aG 18 (.load false 1 (.t 17)) 16 true,aG 19 (.bin .geq (.t 18) (aI 1)) 16 true,aR 20 (.pick (.t 16) (.t 19) (.c (.bool false))),aM 21 20,aG 22 (.faddr 7 (.t 1)) 21 true,aG 23 (.load false 1 (.t 22)) 21 true,aG 24 (.bin .leq (.t 23) (aI 4)) 21 true,aR 25 (.pick (.t 21) (.t 24) (.c (.bool false))),aM 26 25,aG 27 (.faddr 8 (.t 1)) 26 true,aG 28 (.load false 1 (.t 27)) 26 true,aG 29 (.faddr 9 (.t 1)) 26 true,aG 30 (.load false 1 (.t 29)) 26 true,aG 31 (.faddr 10 (.t 1)) 26 true,aG 32 (.load false 1 (.t 31)) 26 true,aG 33 (.faddr 11 (.t 1)) 26 true,aG 34 (.load false 1 (.t 33)) 26 true,aG 35 (.mks 1 [.t 28,.t 30,.t 32,.t 34]) 26 true,aG 36 (.call 131 [.t 35]) 26 true,aR 37 (.pick (.t 26) (.t 36) (.c (.bool false))),aM 2 37] (.ret)),[.t 2]⟩
theorem dja:AX.compFn Tryz.prog 90=some byq:=by kernel_rfl
theorem dku(v:V):dxw [v.A,.agg [.int .i64 0,.int .i64 0,.str [],.sl 0 .nil [],.sl 0 .nil []]] [v.A,(V.mk 0 0 [] [] []).A]:=by
 refine⟨azz _,?_,trivial⟩;simp[le,dxw,le2,leL,le1,V.A,V.cells,V.cellss,strsA]
theorem djl:(V.mk 0 0 [] [] []).lens:=by
 unfold V.lens;simp[V.lensS]
theorem dvn(x:Sf.Inst)(hl:x.attrs.lens)(hd:x.deps.length≤1000000000)(h:Hp):AT 88 [.agg (Sf.Inst.cells x)] h (.bool (Jr.noneR x)):=by
 have ce:=fun h=>ACall.args (dku x.attrs) (bxw x.attrs (.mk 0 0 [] [] []) hl djl h)
 unfold Jr.noneR;obtain⟨E,hE⟩:=Ex (Val.eqB x.attrs (.mk 0 0 [] [] []));rw[hE];simp only[hE]at ce;clear hE hl;obtain⟨a,d,i,t,⟨k,n,s,is,ks⟩,v,tn,fi,ds⟩:=x;simp only[Sf.Inst.cells,V.A,V.cells]at ce hd⊢;have l3:=azh ds;refine pcall ?_ rfl (by simp[A.pure,A.data]) h;refine azb mixedT djh (by simp[bwi]) ?_;dsimp only[bwi];refine azc l3 (ai ce ti) ?_;exact Fn rfl
theorem by6(s:Sf.St)(hin:Sf.StIn s)(h:Hp):AT 89 [s.A] h (.bool (Jr.emptyR s)):=by
 obtain⟨lin,ser,ins,ps,os⟩:=s;obtain⟨hl,hi,hp,ho,hni,hnp,hno⟩:=hin;dsimp only at hni hnp hno;have l1:(ins.map Sf.Inst.cells).length=ins.length:=Zj _;have l2:(ps.map Sf.Pend.cells).length=ps.length:=Zj _;have l3:(os.map Sf.Outp.cells).length=os.length:=Zj _;have w1:IntKind.i64.wrap ((ins.length:Int)+(ps.length:Int))=(ins.length:Int)+(ps.length:Int):=wrap64 (by omega) (by omega);have w2:IntKind.i64.wrap ((ins.length:Int)+(ps.length:Int)+(os.length:Int))=(ins.length:Int)+(ps.length:Int)+(os.length:Int):=wrap64 (by omega) (by omega);unfold Sf.St.A Jr.emptyR;dsimp only;refine pcall ?_ rfl (by simp[A.pure,A.data]) h;refine azb mixedT dqg (by simp[bjs]) ?_;dsimp only[bjs];refine azc (ai l1 (ai l2 (ai l3 (ai w1 w2)))) ti ?_;exact Fn rfl
theorem bji(ks:List (List UInt8))(hn:ks.length≤1000000000)(h:Hp):AT 131 [.sl 1 .no (strsA ks)] h (.bool (Jr.shortB ks)):=by
 refine pcall ?_ rfl (by simp[A.pure,A.data]) h;refine azb mixedT cyu (by simp[bjr]) ?_;dsimp only[bjr];obtain⟨D,hD⟩:=Ex (Jr.shortB ks);rw[hD];have li:(strsA ks).length=ks.length:=azh ks;refine azf li ?_;refine azd (fun mm ts h=>∃(j:Nat),mm=ks.length-j∧j≤ks.length∧h=⟨[],[]⟩∧Jr.shortB (ks.drop j)=D∧(ts 0=.sl 1 .no (strsA ks)∧ts 3=.int .i64 (j:Nat))) ks.length ?_ ?_
 ·exact⟨0,by omega,by omega,rfl,hD,by(exact azo li)⟩
 rintro mm ts h ⟨j,rfl,hjc,rfl,hit,ht⟩;by_cases hj:j<ks.length
 ·have hf:=azp (fun s:List UInt8=>[A.str s]) ks j hj (by omega);have hf':(strsA ks).length=ks.length∧(j:Int)<(ks.length:Int)∧(0:Int)≤(j:Int)∧(strsA ks).getD j []=[.str ks[j]]∧IntKind.i64.wrap ((j:Int)+1)=((j+1:Nat):Int):=hf;clear hf;rw[Zl hj]at hit;unfold Jr.shortB at hit;rw[ZM]at hit;obtain⟨x,hx⟩:=Ex (ks[j]);rw[hx]at hf' hit;by_cases hK:(x.length:Int)>4096
  ·have hK':decide ((x.length:Int)≤4096)=false:=by simpa using hK
   rw[hK',Ye]at hit;subst hit;refine azc (ai ht (ai hf' hK)) ti ?_;exact Fn rfl
  ·have hK':decide ((x.length:Int)≤4096)=true:=by simpa using hK
   rw[hK',ZG]at hit;refine azc (ai ht (ai hf' hK)) ti ?_;exact⟨ks.length-(j+1),by omega,j+1,rfl,by omega,rfl,hit,by(exact azo (ai ht hf'))⟩
 ·have hlt:¬((j:Int)<(ks.length:Int)):=by omega
  rw[ZQ (by omega)]at hit;unfold Jr.shortB at hit;subst hit;refine azc (ai ht (ai hlt li)) ti ?_;exact Fn rfl
theorem dxq(x:Sf.Inst)(hl:x.attrs.lens)(hd:x.deps.length≤1000000000)(h:Hp):AT 91 [.agg (Sf.Inst.cells x)] h (.bool (Jr.instB x)):=by
 obtain⟨a,d,i,t,⟨k,n,s,is,ks⟩,v,tn,fi,ds⟩:=x;have l3:=azh ds;have c1:=bji [a,d,i,t] (by simp);have c2:=bji ds hd;have c3:=bxh (.mk k n s is ks) hl;simp only[V.A,V.cells]at c3;unfold Sf.Inst.cells Jr.instB;dsimp only;obtain⟨b1,h1⟩:=Ex (Jr.shortB [a,d,i,t]);obtain⟨b2,h2⟩:=Ex (Jr.shortB ds);obtain⟨Z,hZ⟩:=Ex (Val.checkZ (.mk k n s is ks));rw[h1]at c1;rw[h2]at c2;rw[hZ]at c3;rw[h1,h2,hZ];have c1':∀h,AT 131 [.sl 1 .no [[.str a],[.str d],[.str i],[.str t]]] h (.bool b1):=c1;refine pcall ?_ rfl (by simp[A.pure,A.data]) h;refine azb mixedT dx3 (by simp[bwy]) ?_;dsimp only[bwy];refine azc l3 (ai c1' (ai c2 (ai c3 ti))) ?_;exact Fn rfl
theorem dvr(r:Jr)(hin:Sf.StIn r.base)(h:Hp):AT 90 [.agg r.cells] h (.bool r.stepR):=by
 have ce:=by6 r.base hin;have c1:=bji [r.addr,r.dep,r.typ,r.tok] (by simp);unfold Jr.stepR;obtain⟨b1,h1⟩:=Ex (Jr.shortB [r.addr,r.dep,r.typ,r.tok]);obtain⟨e,he⟩:=Ex (Jr.emptyR r.base);rw[h1]at c1⊢;rw[he]at ce⊢;clear h1 he hin;obtain⟨kd,⟨lin,ser,ins,ps,os⟩,st,op,ad,dp,ty,tk,er,⟨a,d,i,t,⟨k,n,s,is,ks⟩,v,tn,fi,ds⟩⟩:=r;simp only[Jr.cells,Sf.Inst.cells,Zd,Zg,Sf.St.A]at ce c1⊢;have c1':∀h,AT 131 [.sl 1 .no [[.str ad],[.str dp],[.str ty],[.str tk]]] h (.bool b1):=c1;refine pcall ?_ rfl (by simp[A.pure,A.data]) h;refine azb mixedT dja (by simp[byq]) ?_;dsimp only[byq];refine azc ti (ai ce (ai c1' ti)) ?_;exact Fn rfl
theorem dzi(r:Jr)(hin:JrIn r)(h:Hp):AT 44 [.agg r.cells] h (.bool r.validR):=by
 have ce:=by6 r.base hin.base;have cn:=dvn r.after hin.lens hin.deps;have ci:=dxq r.after hin.lens hin.deps;have cs:=dvr r hin.base;unfold Jr.validR;obtain⟨e,he⟩:=Ex (Jr.emptyR r.base);obtain⟨n,hn⟩:=Ex (Jr.noneR r.after);obtain⟨i,hi⟩:=Ex (Jr.instB r.after);obtain⟨s,hs⟩:=Ex (r.stepR);rw[he]at ce;rw[hn]at cn;rw[hi]at ci;rw[hs]at cs;rw[he,hn,hi,hs];clear he hn hi hs hin;obtain⟨kd,⟨lin,ser,ins,ps,os⟩,st,op,ad,dp,ty,tk,er,⟨a1,a2,a3,a4,⟨k,nn,ss,is,ks⟩,v,tn,fi,ds⟩⟩:=r;simp only[Jr.cells,Sf.Inst.cells,Zd,Zg,Sf.St.A]at *;refine pcall ?_ rfl (by simp[A.pure,A.data]) h;refine fo ?_;by_cases q1:kd=1
 ·rw[if_pos q1];obtain⟨K,hK⟩:=Ex ((kd==1));have hKt:K=true:=by rw[←hK,q1];rfl
  clear q1;refine azc hK ti ?_;(refine AX.bw0 ti ?_ ?_);rotate_left
  ·intro hc;rw[hc]at hKt;exact absurd hKt (by decide)
  intro hc;refine azc hK ti ?_;(refine AX.bw0 ti ?_ ?_);rotate_left
  ·intro hc;rw[hc]at hKt;exact absurd hKt (by decide)
  intro hc2;refine azc hK (ai cn (ai ce ti)) ?_;exact⟨_,le_refl _,by rw[azn,hc];simp⟩
 have f1:(kd==1)=false:=by simp[q1]
 rw[if_neg q1];by_cases q5:kd=5
 ·subst q5;rw[if_pos rfl];refine azc ti (ai cn (ai ce ti)) ?_;exact⟨_,le_refl _,by rw[azn]⟩
 have f5:(kd==5)=false:=by simp[q5]
 rw[if_neg q5];by_cases q2:kd=2
 ·subst q2;rw[if_pos rfl];refine azc ti (ai cs (ai cn ti)) ?_;exact⟨_,le_refl _,by rw[azn]⟩
 have f2:(kd==2)=false:=by simp[q2]
 rw[if_neg q2];by_cases q3:kd=3
 ·subst q3;rw[if_pos rfl];refine azc ti (ai cs (ai ci (ai cn ti))) ?_;exact⟨_,le_refl _,by rw[azn]⟩
 have f3:(kd==3)=false:=by simp[q3]
 rw[if_neg q3];by_cases q4:kd=4
 ·subst q4;rw[if_pos rfl];refine azc ti (ai cs (ai ci (ai cn ti))) ?_;exact⟨_,le_refl _,by rw[azn]⟩
 have f4:(kd==4)=false:=by simp[q4]
 rw[if_neg q4];refine azc (ai f1 (ai f2 (ai f3 (ai f4 f5)))) ti ?_;exact Fn rfl
def bzs:AX.AFn:=⟨33,aS [aR 4 (.alloc 44 [.int .i64 0,.str [],.int .i64 0,.sl 0 .nil [],.sl 0 .nil [],.sl 0 .nil [],.int .i64 0,.int .i64 0,.str [],.str [],.str [],.str [],.int .i64 0,.str [],.str [],.str [],.str [],.int .i64 0,.int .i64 0,.str [],.sl 0 .nil [],.sl 0 .nil [],.int .i64 0,.bool false,.bool false,.sl 0 .nil []]),aR 5 (.mv (.c (.bool false)))] (.seq (aS [aR 6 (.mv (aI 0))] (.block 0 (.loop (.seq (aS [aM 7 6,aM 8 0,aR 9 (.len false (.t 8)),aR 10 (.bin .lss (.t 7) (.t 9))] (.cond (.t 10) (.skip) (.exit 0))) (.seq (.block 1 (aS [aM 13 0,aM 14 6,aR 15 (.iaddr 26 (.t 13) (.t 14)),aF 16 0 15,aL 17 16,aR 18 (.bin .eql (.t 17) (aI 2)),aM 19 18,aG 20 (.mv (.t 0)) 19 true,aG 21 (.mv (.t 6)) 19 true,aG 22 (.iaddr 26 (.t 20) (.t 21)) 19 true,aG 23 (.faddr 6 (.t 22)) 19 true,aG 24 (.load false 1 (.t 23)) 19 true,aG 25 (.mv (.t 1)) 19 true,aG 26 (.bin .eql (.t 24) (.t 25)) 19 true,aR 27 (.pick (.t 19) (.t 26) (.c (.bool false)))] (.cond (.t 27) (aS [aM 28 0,aM 29 6,aR 30 (.iaddr 26 (.t 28) (.t 29)),aR 31 (.load true 26 (.t 30)),aU (.store 26 (.t 4) (.t 31)),aR 5 (.mv (.c (.bool true)))] (.ret)) (.skip)))) (.reg false [aM 11 6,aR 12 (.bin .add (.t 11) (aI 1)),aM 6 12])))))) (aS [aR 32 (.build [.int .i64 0,.str [],.int .i64 0,.sl 0 .nil [],.sl 0 .nil [],.sl 0 .nil [],.int .i64 0,.int .i64 0,.str [],.str [],.str [],.str [],.int .i64 0,.str [],.str [],.str [],.str [],.int .i64 0,.int .i64 0,.str [],.sl 0 .nil [],.sl 0 .nil [],.int .i64 0,.bool false,.bool false,.sl 0 .nil []] []),aU (.store 26 (.t 4) (.t 32)),aR 5 (.mv (.c (.bool false)))] (.ret))),[.c 4 true 26,.t 5]⟩
theorem ckr:AX.compFn Tryz.prog 92=some bzs:=by kernel_rfl
def ayf:AX.AFn:=⟨35,aS [aR 4 (.mv (.c (.bool false)))] (.seq (aS [aR 5 (.mv (aI 0))] (.block 0 (.loop (.seq (aS [aM 6 5,aM 7 0,aR 8 (.len false (.t 7)),aR 9 (.bin .lss (.t 6) (.t 8))] (.cond (.t 9) (.skip) (.exit 0))) (.seq (.block 1 (aS [aM 12 0,aM 13 5,aR 14 (.iaddr 26 (.t 12) (.t 13)),aF 15 0 14,aL 16 15,aR 17 (.bin .eql (.t 16) (aI 3)),aM 18 17,aG 19 (.mv (.t 0)) 18 false,aG 20 (.mv (.t 5)) 18 false,aG 21 (.iaddr 26 (.t 19) (.t 20)) 18 false,aG 22 (.faddr 0 (.t 21)) 18 false,aG 23 (.load false 1 (.t 22)) 18 false,aG 24 (.bin .eql (.t 23) (aI 4)) 18 false,aR 25 (.pick (.t 18) (.c (.bool true)) (.t 24)),aM 26 25,aG 27 (.mv (.t 0)) 26 true,aG 28 (.mv (.t 5)) 26 true,aG 29 (.iaddr 26 (.t 27) (.t 28)) 26 true,aG 30 (.faddr 6 (.t 29)) 26 true,aG 31 (.load false 1 (.t 30)) 26 true,aG 32 (.mv (.t 1)) 26 true,aG 33 (.bin .eql (.t 31) (.t 32)) 26 true,aR 34 (.pick (.t 26) (.t 33) (.c (.bool false)))] (.cond (.t 34) (aS [aR 4 (.mv (.c (.bool true)))] (.ret)) (.skip)))) (.reg false [aM 10 5,aR 11 (.bin .add (.t 10) (aI 1)),aM 5 11])))))) (aS [aR 4 (.mv (.c (.bool false)))] (.ret))),[.t 4]⟩
theorem ck3:AX.compFn Tryz.prog 94=some ayf:=by kernel_rfl
def bx3:AX.AFn:=⟨35,aS [aR 2 (.mv (.c (.sl 0 .nil [])))] (aS [aR 3 (.mv (.c (.sl 0 .nil [])))] (.seq (aS [aR 4 (.mv (aI 0))] (.block 0 (.loop (.seq (aS [aM 5 4,aM 6 0,aR 7 (.len false (.t 6)),aR 8 (.bin .lss (.t 5) (.t 7))] (.cond (.t 8) (.skip) (.exit 0))) (.seq (.block 1 (aS [aM 11 0,aM 12 4,aR 13 (.iaddr 26 (.t 11) (.t 12)),aF 14 0 13,aL 15 14,aR 16 (.bin .eql (.t 15) (aI 2)),aM 17 16,aG 18 (.mv (.t 0)) 17 true,aG 19 (.mv (.t 0)) 17 true,aG 20 (.mv (.t 4)) 17 true,aG 21 (.iaddr 26 (.t 19) (.t 20)) 17 true,aG 22 (.faddr 6 (.t 21)) 17 true,aG 23 (.load false 1 (.t 22)) 17 true,aG 24 (.call 94 [.t 18,.t 23]) 17 true,aG 25 (.un .not (.t 24)) 17 true,aR 26 (.pick (.t 17) (.t 25) (.c (.bool false)))] (.cond (.t 26) (.reg false [aM 27 3,aM 28 0,aM 29 4,aR 30 (.iaddr 26 (.t 28) (.t 29)),aR 31 (.load true 26 (.t 30)),aR 32 (.mks 26 [.t 31]),aR 33 (.app 44 26 376 (.t 27) (.t 32)),aM 3 33]) (.skip)))) (.reg false [aM 9 4,aR 10 (.bin .add (.t 9) (aI 1)),aM 4 10])))))) (aS [aM 34 3,aM 2 34] (.ret)))),[.t 2]⟩
theorem dzz:AX.compFn Tryz.prog 93=some bx3:=by kernel_rfl
def zeroJ:List A:=[.int .i64 0,.str [],.int .i64 0,.sl 0 .nil [],.sl 0 .nil [],.sl 0 .nil [],.int .i64 0,.int .i64 0,.str [],.str [],.str [],.str [],.int .i64 0,.str [],.str [],.str [],.str [],.int .i64 0,.int .i64 0,.str [],.sl 0 .nil [],.sl 0 .nil [],.int .i64 0,.bool false,.bool false,.sl 0 .nil []]
def intA(o:Option Jr):A:=.tup [.agg (match o with
 |some r=>r.cells
 |none=>zeroJ),.bool o.isSome]
theorem cjz(o:Option Jr):(intA o).pure=true:=by
 cases o with
 |none=>decide
 |some r=>
  obtain⟨kd,⟨lin,ser,ins,ps,os⟩,st,op,ad,dp,ty,tk,er,⟨a1,a2,a3,a4,⟨k,nn,ss,is,ks⟩,v,tn,fi,ds⟩⟩:=r;simp[intA,Jr.cells,Sf.Inst.cells,A.pure,A.data]
theorem cka(l:List Jr)(n:Int)(hl:l.length≤1000000)(h:Hp):AT 92 [.sl 26 .no (l.map Jr.cells),.int .i64 n] h (intA (Jr.intentR l n)):=by
 refine pcall ?_ (cjz _) (by simp[A.pure,A.data]) h;refine azb mixedT ckr (by simp[bzs]) ?_;dsimp only[bzs];obtain⟨D,hD⟩:=Ex (Jr.intentR l n);rw[hD];have li:(l.map Jr.cells).length=l.length:=Zj _;refine azf li ?_;refine azd (fun mm ts h=>∃(j:Nat),mm=l.length-j∧j≤l.length∧h=⟨[.cells 44 zeroJ],[]⟩∧Jr.intentR (l.drop j) n=D∧(ts 0=.sl 26 .no (l.map Jr.cells)∧ts 1=.int .i64 n∧ts 4=.ptr 0 0∧ts 6=.int .i64 (j:Nat))) l.length ?_ ?_
 ·exact⟨0,by omega,by omega,rfl,hD,by(exact azo li)⟩
 rintro mm ts h ⟨j,rfl,hjc,rfl,hit,ht⟩;unfold zeroJ;rcases Zr j l.length with hlt|hge
 ·have hf:=azp Jr.cells l j hlt (by omega);rw[Zl hlt]at hit;unfold Jr.intentR at hit;rw[List.find?_cons]at hit;obtain⟨r,hr⟩:=Ex (l[j]);rw[hr]at hf hit;have hi:Jr.isInt n r=(r.kind==2&&r.step==n):=rfl;have fin:Jr.isInt n r=true→A.tup [.agg r.cells,.bool true]=intA D:=fun e=>by
   rw[e]at hit;rw[←hit];rfl
  have go:Jr.isInt n r=false→Jr.intentR (l.drop (j+1)) n=D:=fun e=>by
   rw[e]at hit;exact hit
  rw[hi]at fin go;clear hit hr hi;obtain⟨kd,⟨lin,ser,ins,ps,os⟩,st,op,ad,dp,ty,tk,er,⟨a1,a2,a3,a4,⟨k,nn,ss,is,ks⟩,v,tn,fi,ds⟩⟩:=r;simp only[Jr.cells,Sf.Inst.cells,Zd,Zg]at hf fin;dsimp only at fin go;refine azc (ai ht hf) ti ?_;(refine AX.bw0 ht ?_ ?_)
  ·intro hb;refine azc (ai ht hf) ti ?_;exact⟨_,le_refl _,fin hb⟩
  ·intro hb;refine azc (ai ht hf) ti ?_;exact⟨_,by omega,j+1,rfl,by omega,rfl,go hb,by(exact azo (ai ht hf))⟩
 have hf:=azq Jr.cells l j hge;rw[ZQ (by omega)]at hit;unfold Jr.intentR at hit;rw[List.find?_nil]at hit;subst hit;refine azc (ai ht hf) ti ?_;exact Fn rfl
theorem bvc(l:List Jr)(n:Int)(hl:l.length≤1000000)(h:Hp):AT 94 [.sl 26 .no (l.map Jr.cells),.int .i64 n] h (.bool (Jr.endedB n l)):=by
 refine pcall ?_ rfl (by simp[A.pure,A.data]) h;refine azb mixedT ck3 (by simp[ayf]) ?_;dsimp only[ayf];obtain⟨D,hD⟩:=Ex (Jr.endedB n l);rw[hD];have li:(l.map Jr.cells).length=l.length:=Zj _;refine azf li ?_;refine azd (fun mm ts h=>∃(j:Nat),mm=l.length-j∧j≤l.length∧h=⟨[],[]⟩∧Jr.endedB n (l.drop j)=D∧(ts 0=.sl 26 .no (l.map Jr.cells)∧ts 1=.int .i64 n∧ts 5=.int .i64 (j:Nat))) l.length ?_ ?_
 ·exact⟨0,by omega,by omega,rfl,hD,by(exact azo li)⟩
 rintro mm ts h ⟨j,rfl,hjc,rfl,hit,ht⟩;rcases Zr j l.length with hlt|hge
 ·have hf:=azp Jr.cells l j hlt (by omega);rw[Zl hlt]at hit;unfold Jr.endedB at hit;rw[List.any_cons]at hit;obtain⟨r,hr⟩:=Ex (l[j]);rw[hr]at hf hit;have fin:((r.kind==3||r.kind==4)&&r.step==n)=true→true=D:=fun e=>by
   rw[e]at hit;rw[←hit];rfl
  have go:((r.kind==3||r.kind==4)&&r.step==n)=false→Jr.endedB n (l.drop (j+1))=D:=fun e=>by
   rw[e]at hit;exact hit
  clear hit hr;obtain⟨kd,⟨lin,ser,ins,ps,os⟩,st,op,ad,dp,ty,tk,er,⟨a1,a2,a3,a4,⟨k,nn,ss,is,ks⟩,v,tn,fi,ds⟩⟩:=r;simp only[Jr.cells,Sf.Inst.cells,Zd,Zg]at hf;dsimp only at fin go;refine azc (ai ht hf) ti ?_;(refine AX.bw0 ht ?_ ?_)
  ·intro hb;refine azc (ai ht hf) ti ?_;exact⟨_,le_refl _,by rw[azn,←fin hb]⟩
  ·intro hb;refine azc (ai ht hf) ti ?_;exact⟨_,by omega,j+1,rfl,by omega,rfl,go hb,by(exact azo (ai ht hf))⟩
 have hf:=azq Jr.cells l j hge;rw[ZQ (by omega)]at hit;unfold Jr.endedB at hit;rw[List.any_nil]at hit;subst hit;refine azc (ai ht hf) ti ?_;exact Fn rfl
theorem cys(l:List Jr)(hl:l.length≤1000000)(h:Hp):AT 93 [.sl 26 .no (l.map Jr.cells)] h (.sl 26 .no ((Jr.unfin l).map Jr.cells)):=by
 refine pcall ?_ rfl (by simp[A.pure,A.data]) h;refine azb mixedT dzz (by simp[bx3]) ?_;dsimp only[bx3];have li:(l.map Jr.cells).length=l.length:=Zj _;refine azf li ?_
 refine azd (fun m ts hh=>∃(j:Nat) (W:Nat) (o:Own) (l':List Blk) (t:List (TypeId×Nat×Nat)),m=l.length-j∧j≤l.length∧hh=⟨l',t⟩∧Gs 44 26 0 ⟨[],t⟩ (((l.take j).filter fun r=>r.kind==2&&!Jr.endedB r.step l).map Jr.cells) (.sl W o (((l.take j).filter fun r=>r.kind==2&&!Jr.endedB r.step l).map Jr.cells)) ∧
  (ts 0=.sl 26 .no (l.map Jr.cells)∧ts 3=.sl W o (((l.take j).filter fun r=>r.kind==2&&!Jr.endedB r.step l).map Jr.cells)∧ts 4=.int .i64 (j:Nat))) l.length ?_ ?_
 ·exact⟨0,0,.nil,[],[],rfl,Zq _,rfl,.inl ⟨rfl,rfl⟩,by(exact azo li)⟩
 rintro m ts hh ⟨j,W,o,l',t,rfl,hj,rfl,gX,ht⟩;rcases Zr j l.length with hlt|hge;rotate_left
 ·have hf:=azq Jr.cells l j hge;rw[Zy hge]at gX ht;have lX:=Gs.le gX;refine azf (ai ht hf) ?_;exact⟨.sl 26 .no ((Jr.unfin l).map Jr.cells),lX,rfl⟩
 have hf:=azp Jr.cells l j hlt (by omega);have es:l.take (j+1)=l.take j++[l[j]]:=(List.take_append_getElem hlt).symm;have em:((l.take (j+1)).filter fun r=>r.kind==2&&!Jr.endedB r.step l)=((l.take j).filter fun r=>r.kind==2&&!Jr.endedB r.step l)++(if(l[j].kind==2&&!Jr.endedB l[j].step l)=true then[l[j]]else[]):=by
  rw[es,List.filter_append,List.filter_cons,List.filter_nil]
 have hlen:((l.take j).filter fun r=>r.kind==2&&!Jr.endedB r.step l).length≤j:=Zs (List.length_filter_le _ _) (by rw[Zk];omega);obtain⟨F,hF⟩:=Ex (((l.take j).filter fun r=>r.kind==2&&!Jr.endedB r.step l));rw[hF]at gX ht em hlen;obtain⟨W',o',t',hX,gX',_⟩:=gX.grow 376 (Jr.cells l[j]) (by rw[Zj];omega) (by decide);have cr:=bvc l l[j].step hl;obtain⟨r,hr⟩:=Ex (l[j]);rw[hr]at hf em hX gX' cr;clear hr es;obtain⟨B,hB⟩:=Ex (Jr.endedB r.step l);rw[hB]at em cr;clear hB;have em2:F.map Jr.cells++[r.cells]=(F++[r]).map Jr.cells:=by simp
 rw[em2]at gX';simp only[em2]at hX;obtain⟨F2,hF2⟩:=Ex (F++[r]);rw[hF2]at gX' hX;have em3:(r.kind==2&&!B)=true→((l.take (j+1)).filter fun r=>r.kind==2&&!Jr.endedB r.step l)=F2:=fun hb=>by rw[em,if_pos hb,hF2]
 have em4:(r.kind==2&&!B)=false→((l.take (j+1)).filter fun r=>r.kind==2&&!Jr.endedB r.step l)=F:=fun hb=>by rw[em,if_neg (by rw[hb];decide)];simp
 clear em em2 hF2;obtain⟨kd,⟨lin,ser,ins,ps,os⟩,st,op,ad,dp,ty,tk,er,⟨a1,a2,a3,a4,⟨k,nn,ss,is,ks⟩,v,tn,fi,ds⟩⟩:=r;simp only[Jr.cells,Sf.Inst.cells,Zd,Zg]at hf hX;dsimp only at em3 em4 cr;refine azc (ai ht hf) (ai cr ti) ?_;(refine AX.bw0 ht ?_ ?_)
 ·intro hb;refine aze (ai ht (ai hf hX)) ti ?_;exact⟨_,by omega,j+1,W',o',_,t',rfl,by omega,rfl,by rw[em3 hb];exact gX',by rw[em3 hb];(exact azo (ai ht hf))⟩
 ·intro hb;refine azc (ai ht hf) ti ?_;exact⟨_,by omega,j+1,W,o,_,t,rfl,by omega,rfl,by rw[em4 hb];exact gX,by rw[em4 hb];(exact azo (ai ht hf))⟩
def bxu:AX.AFn:=⟨42,aS [aR 2 (.mv (aI 0))] (.seq (aS [aR 3 (.mv (aI 0))] (.block 0 (.loop (.seq (aS [aM 4 3,aM 5 0,aR 6 (.len false (.t 5)),aR 7 (.bin .lss (.t 4) (.t 6))] (.cond (.t 7) (.skip) (.exit 0))) (.seq (.block 1 (.seq (aS [aM 10 0,aM 11 3,aR 12 (.iaddr 26 (.t 10) (.t 11)),aR 13 (.load true 26 (.t 12)),aR 14 (.call 44 [.t 13]),aR 15 (.un .not (.t 14)),aM 16 15,aG 17 (.mv (.t 0)) 16 false,aG 18 (.mv (.t 3)) 16 false,aG 19 (.iaddr 26 (.t 17) (.t 18)) 16 false,aG 20 (.faddr 0 (.t 19)) 16 false,aG 21 (.load false 1 (.t 20)) 16 false,aG 22 (.bin .eql (.t 21) (aI 1)) 16 false,aG 23 (.mv (.t 22)) 16 false,aG 24 (.mv (.t 0)) 23 true,aG 25 (.mv (.t 3)) 23 true,aG 26 (.iaddr 26 (.t 24) (.t 25)) 23 true,aG 27 (.faddr 1 (.t 26)) 23 true,aG 28 (.load true 5 (.t 27)) 23 true,aG 29 (.call 17 [.t 28]) 23 true,aG 30 (.bin .neq (.t 29) (aI 0)) 23 true,aG 31 (.pick (.t 23) (.t 30) (.c (.bool false))) 16 false,aR 32 (.pick (.t 16) (.c (.bool true)) (.t 31))] (.cond (.t 32) (aS [aR 2 (.mv (aI 1))] (.ret)) (.skip))) (.seq (.reg true [aM 33 0,aM 34 3,⟨some 35,.slsl 26 (.t 33) none (some (.t 34)),none,[0,1]⟩,aM 36 0,aM 37 3,⟨some 38,.iaddr 26 (.t 36) (.t 37),none,[3,4]⟩,⟨some 39,.load true 26 (.t 38),none,[5]⟩,⟨some 40,.call 45 [.t 35,.t 39],none,[2,6]⟩,⟨some 41,.un .not (.t 40),none,[7]⟩]) (.cond (.t 41) (aS [aR 2 (.mv (aI 38))] (.ret)) (.skip))))) (.reg false [aM 8 3,aR 9 (.bin .add (.t 8) (aI 1)),aM 3 9])))))) (aS [aR 2 (.mv (aI 0))] (.ret))),[.t 2]⟩
theorem cyg:AX.compFn Tryz.prog 18=some bxu:=by kernel_rfl
theorem cqq(p:List Jr)(r:Jr)(hl:p.length≤1000000)(h:Hp):AT 45 [.sl 26 .no (p.map Jr.cells),.agg r.cells] h (.bool (Jr.followsR p r)):=by
 have ci:=cka p r.step hl;have cr:=bvc p r.step hl;have cu:=cys p hl;have hlu:((((Jr.unfin p).map Jr.cells).length:Int)==0)=(Jr.unfin p).isEmpty:=by
  rw[Zj];cases Jr.unfin p<;>simp
  omega
 have lp:(p.map Jr.cells).length=p.length:=Zj _;unfold Jr.followsR;obtain⟨U,hU⟩:=Ex ((Jr.unfin p).map Jr.cells);rw[hU]at hlu cu;obtain⟨UE,hUE⟩:=Ex ((Jr.unfin p).isEmpty);rw[hUE]at hlu⊢;obtain⟨R,hR⟩:=Ex (Jr.endedB r.step p);rw[hR]at cr⊢;obtain⟨O,hO⟩:=Ex (Jr.intentR p r.step);rw[hO]at ci⊢;clear hU hUE hR hO;obtain⟨kd,⟨lin,ser,ins,ps,os⟩,st,op,ad,dp,ty,tk,er,⟨a1,a2,a3,a4,⟨k,nn,ss,is,ks⟩,v,tn,fi,ds⟩⟩:=r;simp only[Jr.cells,Sf.Inst.cells,Zd,Zg]at ci cr cu⊢;refine pcall ?_ rfl (by simp[A.pure,A.data]) h;refine fo ?_;by_cases hp0:p=[]
 ·subst hp0;obtain⟨K,hK⟩:=Ex ((kd==1));rw[hK];have z0:(((0:Nat):Int)==0)=true:=rfl;refine azc (ai hK (ai lp z0)) ti ?_;exact⟨_,le_refl _,by cases K<;>rfl⟩
 ·have hpos:0<p.length:=Z9.2 hp0;have hE:p.isEmpty=false:=by cases p;exact absurd rfl hp0;rfl
  have hlt:p.length-1<p.length:=by omega
  have hle:Jr.lastEnd p=(p[p.length-1].kind==5):=by
   unfold Jr.lastEnd;rw[List.getLast?_eq_getElem?,Zm hlt]
  have hz:((p.length:Int)==0)=false:=by simp;exact hp0
  have hf:=azp Jr.cells p (p.length-1) hlt (by omega);have hw:IntKind.i64.wrap ((p.length:Int)-1)=((p.length-1:Nat):Int):=by rw[wrap64 (by omega) (by omega)];omega
  rw[hE];by_cases q1:kd=1
  ·subst q1;refine azc (ai lp hz) ti ?_;exact Fn rfl
  have f1:(kd==1)=false:=by simp[q1]
  rw[f1];obtain⟨z,hzr⟩:=Ex (p[p.length-1]);rw[hzr]at hf hle;obtain⟨L,hL⟩:=Ex (Jr.lastEnd p);rw[hL]at hle⊢;obtain⟨J,hJ⟩:∃J:Nat,p.length-1=J:=⟨_,rfl⟩;rw[hJ]at hf hw;clear hJ hzr hL hlt hE hp0;obtain⟨kz,⟨zlin,zser,zins,zps,zos⟩,zst,zop,zad,zdp,zty,ztk,zer,⟨za1,za2,za3,za4,⟨zk,znn,zss,zis,zks⟩,zv,ztn,zfi,zds⟩⟩:=z;simp only[Jr.cells,Sf.Inst.cells,Zd,Zg]at hf;dsimp only at hle
  replace hle:=hle.symm
  cases L with
  |true=>
   refine azc (ai lp (ai hz (ai f1 (ai hw (ai hf hle))))) ti ?_;exact Fn rfl
  |false=>
   cases O with
   |none=>
    unfold intA zeroJ at ci;dsimp only[Option.isSome]at ci⊢;by_cases q2:kd=2
    ·subst q2;refine azc (ai lp (ai hz (ai hw (ai hf hle)))) (ai ci ti) ?_;exact Fn rfl
    have f2:(kd==2)=false:=by simp[q2]
    by_cases q5:kd=5
    ·subst q5;refine azc (ai lp (ai hz (ai hw (ai hf (ai hle hlu))))) (ai ci (ai cu ti)) ?_;exact Fn rfl
    have f5:(kd==5)=false:=by simp[q5]
    obtain⟨I,hI⟩:=Ex false;simp only[hI]at ci;refine azc (ai lp (ai hz (ai f1 (ai f2 (ai f5 (ai hw (ai hf hle))))))) (ai ci (ai cr ti)) ?_;exact⟨_,le_refl _,by rw[azn,←hI];simp[q2,q5]⟩
   |some x=>
    unfold intA at ci;obtain⟨kx,⟨xlin,xser,xins,xps,xos⟩,xst,xop,xad,xdp,xty,xtk,xer,⟨xa1,xa2,xa3,xa4,⟨xk,xnn,xss,xis,xks⟩,xv,xtn,xfi,xds⟩⟩:=x;simp only[Jr.cells,Sf.Inst.cells,Zd,Zg]at ci;dsimp only[Option.isSome]at ci⊢;by_cases q2:kd=2
    ·subst q2;refine azc (ai lp (ai hz (ai hw (ai hf hle)))) (ai ci ti) ?_;exact Fn rfl
    have f2:(kd==2)=false:=by simp[q2]
    by_cases q5:kd=5
    ·subst q5;refine azc (ai lp (ai hz (ai hw (ai hf (ai hle hlu))))) (ai ci (ai cu ti)) ?_;exact Fn rfl
    have f5:(kd==5)=false:=by simp[q5]
    obtain⟨I,hI⟩:=Ex true;simp only[hI]at ci;refine azc (ai lp (ai hz (ai f1 (ai f2 (ai f5 (ai hw (ai hf hle))))))) (ai ci (ai cr ti)) ?_;exact⟨_,le_refl _,by rw[azn,←hI];simp[q2,q5,Bool.and_assoc]⟩
theorem cyk(l:List Jr)(hin:∀r∈l,JrIn r∧Sf.TypIn r.base)(hl:l.length≤1000000)(h:Hp):AT 18 [.sl 26 .no (l.map Jr.cells)] h (.int .i64 (Jr.chkR [] l)):=by
 refine pcall ?_ rfl (by simp[A.pure,A.data]) h;refine azb mixedT cyg (by simp[bxu]) ?_;dsimp only[bxu];obtain⟨D,hD⟩:=Ex (Jr.chkR [] l);rw[hD];have li:(l.map Jr.cells).length=l.length:=Zj _;refine azf li ?_;refine azd (fun mm ts h=>∃(j:Nat) (hp:Hp),mm=l.length-j∧j≤l.length∧h=hp∧Jr.chkR (l.take j) (l.drop j)=D∧(ts 0=.sl 26 .no (l.map Jr.cells)∧ts 3=.int .i64 (j:Nat))) l.length ?_ ?_
 ·exact⟨0,_,by omega,by omega,rfl,hD,by(exact azo li)⟩
 rintro mm ts h ⟨j,hp,rfl,hjc,rfl,hit,ht⟩;rcases Zr j l.length with hlt|hge
 ·have hf:=azp Jr.cells l j hlt (by omega);have hr:=hin _ (Zp hlt);have es:l.take (j+1)=l.take j++[l[j]]:=(List.take_append_getElem hlt).symm;rw[Zl hlt]at hit;unfold Jr.chkR at hit;rw[←es]at hit;have cv:=dzi l[j] hr.1;have cs:=bqz l[j].base hr.1.base hr.2;have cf:=cqq (l.take j) l[j] (by rw[Zk];omega);have hS:sslA 26 none (some (.int .i64 (j:Int))) (.sl 26 .no (l.map Jr.cells))=some (.sl 26 .no ((l.take j).map Jr.cells)):=by
   unfold sslA;dsimp only[Option.getD];rw[li,if_pos ⟨by omega,by omega,by omega,.inl rfl⟩];simp[List.map_take]
  obtain⟨r,hr⟩:=Ex (l[j]);rw[hr]at hf hit cv cs cf;obtain⟨F,hF⟩:=Ex (Jr.followsR (l.take j) r);rw[hF]at hit cf;obtain⟨T,hT⟩:=Ex ((l.take j).map Jr.cells);rw[hT]at cf hS;obtain⟨B,hB⟩:=Ex (r.validR);rw[hB]at hit cv;obtain⟨Z,hZ⟩:=Ex (Sf.checkZ r.base);rw[hZ]at hit cs;clear hr es hF hT hB hZ;obtain⟨kd,⟨lin,ser,ins,ps,os⟩,st,op,ad,dp,ty,tk,er,⟨a1,a2,a3,a4,⟨k,nn,ss,is,ks⟩,v,tn,fi,ds⟩⟩:=r;simp only[Jr.cells,Sf.Inst.cells,Zd,Zg,Sf.St.A]at hf cv cs cf;dsimp only at hit;have pk:(if(!B)=true then A.bool true else A.when B (if(kd==1)=true then A.when (B&&kd==1) (A.bool (Z !=0))else A.bool false))=A.bool (!B||(kd==1&&Z !=0)):=by
   cases B<;>cases(kd==1)<;>rfl
  refine azc (ai ht (ai hf pk)) (ai cv (ai cs ti)) ?_;(refine AX.bw0 ht ?_ ?_)
  ·intro hb;rw[if_pos hb]at hit;subst hit;refine azc (ai ht hf) ti ?_;exact Fn rfl
  intro hb;rw[if_neg (by rw[hb];decide)]at hit;refine azc (ai ht (ai hf hS)) (ai cf ti) ?_;cases F with
  |false=>
   rw[if_neg (by decide)]at hit;subst hit;refine azc (ai ht hf) ti ?_;exact Fn rfl
  |true=>
   rw[if_pos rfl]at hit;refine azc (ai ht hf) ti ?_;exact⟨_,by omega,j+1,_,rfl,by omega,rfl,hit,by(exact azo (ai ht hf))⟩
 have hf:=azq Jr.cells l j hge;rw[ZQ (by omega)]at hit;unfold Jr.chkR at hit;subst hit;refine azc (ai ht hf) ti ?_;exact Fn rfl
theorem bvw:∀v:V,Val.eqB v v=true:=by
 refine V.induct fun k n s is ks ih=>?_
 rw[Val.eqB];have:Val.eqBs is is=true:=by
  have key:∀l:List V,(∀x∈l,Val.eqB x x=true)→Val.eqBs l l=true:=by
   intro l;induction l with
   |nil=>intro _;rw[Val.eqBs]
   |cons x l ihl=>
    intro hl;rw[Val.eqBs,hl x (by simp),ihl fun y hy=>hl y (by simp[hy])];rfl
  exact key is ih
 simp[this]
namespace Sf
end Sf
end AX
end
end Go.Proofs.YtnghhnahdjjpkaaGreatDoor
