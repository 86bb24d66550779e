/- Part of what the proof needs. -/
import Derived.Test.YtnghhnahdjjpkaaGreatDoorMFrRecoveryReplaysUpto0
import Derived.Test.YtnghhnahdjjpkaaGreatDoorMFrRecoveryReplaysUptoK
import Derived.Test.YtnghhnahdjjpkaaGreatDoorMFrRecoveryReplaysUptoL
import Derived.Test.YtnghhnahdjjpkaaGreatDoorMFrRecoveryReplaysUptoN
set_option maxHeartbeats 4000000
set_option maxRecDepth 100000
set_option linter.all false
namespace Go.Proofs.YtnghhnahdjjpkaaGreatDoor
open Go.RowKit
namespace AX
def avz:AX.AFn:=⟨21,aS [aR 2 (.mv (.c (.bool false)))] (aS [aM 3 0,aR 4 (.bin .geq (.t 3) (.c (.int .u8 97))),aM 5 4,aG 6 (.mv (.t 0)) 5 true,aG 7 (.bin .leq (.t 6) (.c (.int .u8 122))) 5 true,aR 8 (.pick (.t 5) (.t 7) (.c (.bool false))),aM 9 8,aG 10 (.mv (.t 0)) 9 false,aG 11 (.bin .geq (.t 10) (.c (.int .u8 65))) 9 false,aG 12 (.mv (.t 11)) 9 false,aG 13 (.mv (.t 0)) 12 true,aG 14 (.bin .leq (.t 13) (.c (.int .u8 90))) 12 true,aG 15 (.pick (.t 12) (.t 14) (.c (.bool false))) 9 false,aR 16 (.pick (.t 9) (.c (.bool true)) (.t 15)),aM 17 16,aG 18 (.mv (.t 0)) 17 false,aG 19 (.bin .eql (.t 18) (.c (.int .u8 95))) 17 false,aR 20 (.pick (.t 17) (.c (.bool true)) (.t 19)),aM 2 20] (.ret)),[.t 2]⟩
theorem cqk:AX.compFn Tryz.prog 161=some avz:=by kernel_rfl
def ay4:AX.AFn:=⟨40,aS [aR 2 (.mv (.c (.bool false)))] (.seq (aS [aM 4 0,aR 5 (.bin .eql (.t 4) (.c (.str []))),aM 6 5,aG 7 (.mv (.t 0)) 6 false,aG 8 (.len true (.t 7)) 6 false,aG 9 (.bin .gtr (.t 8) (aI 64)) 6 false,aR 10 (.pick (.t 6) (.c (.bool true)) (.t 9)),aM 11 10,aG 12 (.mv (.t 0)) 11 false,aG 13 (.sidx (.t 12) (aI 0)) 11 false,aG 14 (.call 161 [.t 13]) 11 false,aG 15 (.un .not (.t 14)) 11 false,aR 16 (.pick (.t 11) (.c (.bool true)) (.t 15))] (.cond (.t 16) (aS [aR 2 (.mv (.c (.bool false)))] (.ret)) (.skip))) (.seq (aS [aR 3 (.mv (aI 0))] (.block 0 (.loop (.seq (aS [aM 17 3,aM 18 0,aR 19 (.len true (.t 18)),aR 20 (.bin .lss (.t 17) (.t 19))] (.cond (.t 20) (.skip) (.exit 0))) (.seq (.block 1 (aS [aM 23 0,aM 24 3,aR 25 (.sidx (.t 23) (.t 24)),aR 26 (.call 161 [.t 25]),aR 27 (.un .not (.t 26)),aM 28 27,aG 29 (.mv (.t 0)) 28 true,aG 30 (.mv (.t 3)) 28 true,aG 31 (.sidx (.t 29) (.t 30)) 28 true,aG 32 (.bin .lss (.t 31) (.c (.int .u8 48))) 28 true,aG 33 (.mv (.t 32)) 28 true,aG 34 (.mv (.t 0)) 33 false,aG 35 (.mv (.t 3)) 33 false,aG 36 (.sidx (.t 34) (.t 35)) 33 false,aG 37 (.bin .gtr (.t 36) (.c (.int .u8 57))) 33 false,aG 38 (.pick (.t 33) (.c (.bool true)) (.t 37)) 28 true,aR 39 (.pick (.t 28) (.t 38) (.c (.bool false)))] (.cond (.t 39) (aS [aR 2 (.mv (.c (.bool false)))] (.ret)) (.skip)))) (.reg false [aM 21 3,aR 22 (.bin .add (.t 21) (aI 1)),aM 3 22])))))) (aS [aR 2 (.mv (.c (.bool true)))] (.ret)))),[.t 2]⟩
theorem cwy:AX.compFn Tryz.prog 130=some ay4:=by kernel_rfl
def bwx:AX.AFn:=⟨18,aS [aR 2 (.mv (.c (.bool false)))] (aS [aR 5 (.mks 1 [.c (.str [109,111,100,117,108,101]),.c (.str [100,97,116,97]),.c (.str [118,97,114]),.c (.str [108,111,99,97,108]),.c (.str [111,117,116,112,117,116]),.c (.str [101,97,99,104]),.c (.str [99,111,117,110,116]),.c (.str [114,101,109,111,116,101]),.c (.str [112,97,116,104]),.c (.str [115,101,108,102]),.c (.str [99,104,97,110,103,101])]),aM 3 5] (.seq (aS [aR 4 (.mv (aI 0))] (.block 0 (.loop (.seq (aS [aM 6 4,aM 7 3,aR 8 (.len false (.t 7)),aR 9 (.bin .lss (.t 6) (.t 8))] (.cond (.t 9) (.skip) (.exit 0))) (.seq (.block 1 (aS [aM 12 3,aM 13 4,aR 14 (.iaddr 1 (.t 12) (.t 13)),aL 15 14,aM 16 0,aR 17 (.bin .eql (.t 15) (.t 16))] (.cond (.t 17) (aS [aR 2 (.mv (.c (.bool true)))] (.ret)) (.skip)))) (.reg false [aM 10 4,aR 11 (.bin .add (.t 10) (aI 1)),aM 4 11])))))) (aS [aR 2 (.mv (.c (.bool false)))] (.ret)))),[.t 2]⟩
theorem dxk:AX.compFn Tryz.prog 188=some bwx:=by kernel_rfl
def avt:AX.AFn:=⟨18,aS [aR 4 (.mv (.c (.bool false)))] (aS [aM 5 0,aR 6 (.len true (.t 5)),aM 7 1,aR 8 (.len true (.t 7)),aR 9 (.bin .geq (.t 6) (.t 8)),aM 10 9,aG 11 (.mv (.t 0)) 10 true,aG 12 (.mv (.t 1)) 10 true,aG 13 (.len true (.t 12)) 10 true,aG 14 (.ssl (.t 11) none (some (.t 13))) 10 true,aG 15 (.mv (.t 1)) 10 true,aG 16 (.bin .eql (.t 14) (.t 15)) 10 true,aR 17 (.pick (.t 10) (.t 16) (.c (.bool false))),aM 4 17] (.ret)),[.t 4]⟩
theorem cxo:AX.compFn Tryz.prog 185=some avt:=by kernel_rfl
def bxf:AX.AFn:=⟨35,aS [aR 2 (.mv (.c (.str []))),aR 3 (.mv (.c (.str [])))] (aS [aR 4 (.mv (aI 0))] (.seq (.block 0 (.loop (.seq (aS [aM 5 4,aM 6 0,aR 7 (.len true (.t 6)),aR 8 (.bin .lss (.t 5) (.t 7)),aM 9 8,aG 10 (.mv (.t 0)) 9 true,aG 11 (.mv (.t 4)) 9 true,aG 12 (.sidx (.t 10) (.t 11)) 9 true,aG 13 (.call 161 [.t 12]) 9 true,aG 14 (.mv (.t 13)) 9 true,aG 15 (.mv (.t 0)) 14 false,aG 16 (.mv (.t 4)) 14 false,aG 17 (.sidx (.t 15) (.t 16)) 14 false,aG 18 (.bin .geq (.t 17) (.c (.int .u8 48))) 14 false,aG 19 (.mv (.t 18)) 14 false,aG 20 (.mv (.t 0)) 19 true,aG 21 (.mv (.t 4)) 19 true,aG 22 (.sidx (.t 20) (.t 21)) 19 true,aG 23 (.bin .leq (.t 22) (.c (.int .u8 57))) 19 true,aG 24 (.pick (.t 19) (.t 23) (.c (.bool false))) 14 false,aG 25 (.pick (.t 14) (.c (.bool true)) (.t 24)) 9 true,aR 26 (.pick (.t 9) (.t 25) (.c (.bool false)))] (.cond (.t 26) (.skip) (.exit 0))) (.block 1 (.reg false [aM 27 4,aR 28 (.bin .add (.t 27) (aI 1)),aM 4 28]))))) (.seq (.reg true [aM 29 0,aM 30 4,⟨some 31,.ssl (.t 29) none (some (.t 30)),none,[0,1]⟩,aM 32 0,aM 33 4,⟨some 34,.ssl (.t 32) (some (.t 33)) none,none,[3,4]⟩,⟨some 2,.mv (.t 31),none,[2,0,1,2]⟩,⟨some 3,.mv (.t 34),none,[5,6,0,1,2,3,4,5,6]⟩]) (.ret)))),[.t 2,.t 3]⟩
theorem cyo:AX.compFn Tryz.prog 187=some bxf:=by kernel_rfl
theorem bqq(c:UInt8)(h:Hp):AT 161 [.int .u8 (c.toNat:Int)] h (.bool (Adr.letter c)):=by
 refine pcall ?_ rfl (by simp[A.pure,A.data]) h;refine azb mixedT cqk (by simp[avz]) ?_;dsimp only[avz];refine azc ti ti ?_;refine⟨_,le_refl _,?_⟩;rw[azn];congr 1;unfold Adr.letter;have e1:decide ((c.toNat:Int)≥97)=decide (97≤c.toNat):=by rw[decide_eq_decide];omega
 have e2:decide ((c.toNat:Int)≤122)=decide (c.toNat≤122):=by rw[decide_eq_decide];omega
 have e3:decide ((c.toNat:Int)≥65)=decide (65≤c.toNat):=by rw[decide_eq_decide];omega
 have e4:decide ((c.toNat:Int)≤90)=decide (c.toNat≤90):=by rw[decide_eq_decide];omega
 have e5:((c.toNat:Int)==95)=(c==95):=by
  rw[Z4,ZC,ZC,←Ym];show _↔c.toNat=95
  omega
 rw[e1,e2,e3,e4,e5]
theorem i80{n:Nat}(h:n≤2000000):IntKind.i64.wrap ((n:Int)+1)=((n+1:Nat):Int):=by rw[wrap64 (by omega) (by omega)];omega
theorem dq7(c:UInt8):(!Adr.letter c&&(decide ((c.toNat:Int)<48)||decide ((c.toNat:Int)>57)))=!Adr.wordB c:=by
 unfold Adr.wordB Num.digB;have e1:decide ((c.toNat:Int)<48)=!decide (48≤c.toNat):=by rw[←decide_not,decide_eq_decide];omega
 have e2:decide ((c.toNat:Int)>57)=!decide (c.toNat≤57):=by rw[←decide_not,decide_eq_decide];omega
 rw[e1,e2,Bool.not_or,Bool.not_and]
theorem cy4(c:UInt8):(Adr.letter c||(decide ((c.toNat:Int)≥48)&&decide ((c.toNat:Int)≤57)))=Adr.wordB c:=by
 unfold Adr.wordB Num.digB;have e1:decide ((c.toNat:Int)≥48)=decide (48≤c.toNat):=by rw[decide_eq_decide];omega
 have e2:decide ((c.toNat:Int)≤57)=decide (c.toNat≤57):=by rw[decide_eq_decide];omega
 rw[e1,e2]
theorem aqs(s:List UInt8)(hl:s.length≤2000000)(h:Hp):AT 130 [.str s] h (.bool (Adr.ident s)):=by
 refine pcall ?_ rfl (by simp[A.pure,A.data]) h;refine azb mixedT cwy (by simp[ay4]) ?_;dsimp only[ay4];obtain⟨q,hq⟩:=Ex (Adr.ident s);rw[hq];unfold Adr.ident at hq;cases s with
 |nil=>
  refine azc ti ti ?_;exact⟨_,le_refl _,by rw[←hq];rfl⟩
 |cons c0 t=>
 have e0:((c0::t)==([]:List UInt8))=false:=rfl;have e0':((c0::t)!=([]:List UInt8))=true:=rfl;have h0:(0:Int)<((t.length+1:Nat):Int):=by omega
 have hc:=bqq;rw[e0',ZG]at hq;by_cases h64:(t.length+1:Nat)≤64
 rotate_left
 ·have e1:((t.length+1:Nat):Int)>64:=by omega
  have:false=q:=by rw[←hq];simp;omega
  subst this;refine azc (ai e0 e1) ti ?_;exact Fn rfl
 have e1:¬((t.length+1:Nat):Int)>64:=by omega
 rw[show decide ((c0::t).length≤64)=true from Yh h64,ZG,ZZ]at hq;cases hL:Adr.letter c0 with
 |false=>
  rw[hL]at hq;have:false=q:=hq;subst this;have hc0:=hc c0;rw[hL]at hc0;refine azc (ai e0 (ai e1 h0)) (ai hc0 ti) ?_;exact Fn rfl
 |true=>
 rw[hL,ZG]at hq;have hc0:=hc c0;rw[hL]at hc0;refine azc (ai e0 (ai e1 h0)) (ai hc0 ti) ?_;obtain⟨s,hs⟩:=Ex (c0::t);have hsl:t.length+1=s.length:=by rw[←hs];rfl
 rw[hs]at hq⊢;refine azd (fun m ts hh=>hh=⟨[],[]⟩∧∃j:Nat,m=s.length-j∧j≤s.length∧(s.drop j).all Adr.wordB=s.all Adr.wordB∧(ts 0=.str s∧ts 3=.int .i64 (j:Nat))) s.length ?_ ?_
 ·exact⟨rfl,0,rfl,Zq _,rfl,by(exact azo hs)⟩
 rintro m ts hh ⟨rfl,j,rfl,hj,heq,ht⟩;rcases Zr j s.length with hlt|hge
 ·have hf:(j:Int)<(s.length:Int)∧(0:Int)≤(j:Int)∧IntKind.i64.wrap ((j:Int)+1)=((j+1:Nat):Int):=⟨by omega,by omega,i80 (by omega)⟩;rw[Zl hlt,ZM]at heq;have hg:s.getD j 0=s[j]:=by simp[List.getD,hlt]
  obtain⟨c,hcc⟩:=Ex (s[j]);rw[hcc]at heq hg;have hw:=dq7 c;cases hB:Adr.wordB c with
  |false=>
   rw[hB]at heq hw;have:false=q:=by rw[←hq,←heq];rfl
   subst this;refine azc (ai ht (ai hf (ai hg hw))) (ai (hc c) ti) ?_;exact Fn rfl
  |true=>
   rw[hB]at heq hw;refine azc (ai ht (ai hf (ai hg hw))) (ai (hc c) ti) ?_;exact⟨_,by omega,rfl,j+1,rfl,by omega,heq,by(exact azo (ai ht hf))⟩
 ·have hf:¬(j:Int)<(s.length:Int):=by omega
  rw[Zt hge,Y6]at heq;refine azc (ai ht hf) ti ?_;exact⟨_,le_refl _,by rw[←hq,←heq];rfl⟩
theorem bq5(s p:List UInt8)(hl:s.length≤2000000)(hp:p.length≤2000000)(h:Hp):AT 185 [.str s,.str p] h (.bool (Adr.begins s p)):=by
 refine pcall ?_ rfl (by simp[A.pure,A.data]) h;refine azb mixedT cxo (by simp[avt]) ?_;dsimp only[avt];have hb:Adr.begins s p=(decide (p.length≤s.length)&&(s.take p.length==p)):=by
  unfold Adr.begins;rw[Z4,Zad,Zf,ZD,ZC,List.prefix_iff_eq_take];exact⟨fun e=>⟨by have:=congrArg List.length e;rw[Zk]at this;omega,e.symm⟩,fun e=>e.2.symm⟩
 rw[hb];by_cases hc:p.length≤s.length
 ·have e1:(s.length:Int)≥(p.length:Int):=by omega
  have e2:(0:Int)≤(p.length:Int)∧(p.length:Int)≤(s.length:Int):=⟨by omega,by omega⟩;rw[Yh hc,ZG];refine azc (ai e1 e2) ti ?_;exact Fn rfl
 ·have e1:¬(s.length:Int)≥(p.length:Int):=by omega
  rw[Ys hc,Ye];refine azc e1 ti ?_;exact Fn rfl
theorem ava{p:UInt8→Bool}:∀(s:List UInt8) (j:Nat),j≤s.length→(s.take j).all p=true→(j=s.length∨p (s.getD j 0)=false)→s.takeWhile p=s.take j∧s.dropWhile p=s.drop j
 |[],0,_,_,_=>⟨rfl,rfl⟩
 |c::s,0,_,_,h=>by
  rcases h with h|h
  ·simp at h
  ·simp only[ZZ]at h;exact⟨by simp[h],by simp[h]⟩
 |c::s,j+1,hj,ha,h=>by
  rw[Z8,ZM,Zf]at ha;have:=ava s j (by simpa using hj) ha.2 (by simpa using h);rw[Yp ha.1,YD ha.1,this.1,this.2];exact⟨rfl,rfl⟩
theorem bx4(s:List UInt8)(hl:s.length≤2000000)(h:Hp):AT 187 [.str s] h (.tup [.str (s.takeWhile Adr.wordB),.str (s.dropWhile Adr.wordB)]):=by
 refine pcall ?_ rfl (by simp[A.pure,A.data]) h;refine azb mixedT cyo (by simp[bxf]) ?_;dsimp only[bxf];have hc:=bqq;refine azc ti ti ?_;refine azd (fun m ts hh=>hh=⟨[],[]⟩∧∃j:Nat,m=s.length-j∧j≤s.length∧(s.take j).all Adr.wordB=true∧(ts 0=.str s∧ts 4=.int .i64 (j:Nat))) s.length ?_ ?_
 ·exact⟨rfl,0,rfl,Zq _,rfl,by(exact azo ti)⟩
 rintro m ts hh ⟨rfl,j,rfl,hj,hall,ht⟩;have hs:(0:Int)≤(j:Int)∧(j:Int)≤(s.length:Int):=⟨by omega,by omega⟩;rcases Zr j s.length with hlt|hge
 ·have hf:(j:Int)<(s.length:Int)∧IntKind.i64.wrap ((j:Int)+1)=((j+1:Nat):Int):=⟨by omega,i80 (by omega)⟩;have hg:s.getD j 0=s[j]:=by simp[List.getD,hlt]
  obtain⟨c,hcc⟩:=Ex (s[j]);rw[hcc]at hg;have hw:=cy4 c;cases hB:Adr.wordB c with
  |false=>
   rw[hB]at hw;obtain⟨k1,k2⟩:=ava s j hj hall (.inr (by rw[hg];exact hB));rw[k1,k2];refine azc (ai ht (ai hf (ai hs (ai hg hw)))) (ai (hc c) ti) ?_;exact Fn rfl
  |true=>
   rw[hB]at hw;refine azc (ai ht (ai hf (ai hs (ai hg hw)))) (ai (hc c) ti) ?_;refine⟨_,?_,rfl,j+1,rfl,by omega,?_,by(exact azo (ai ht hf))⟩
   ·omega
   ·rw[Yo hlt,List.all_append,hall,hcc];simp[hB]
 ·have hf:¬(j:Int)<(s.length:Int):=by omega
  obtain⟨k1,k2⟩:=ava s j hj hall (.inl (by omega));rw[k1,k2];refine azc (ai ht (ai hf hs)) ti ?_;exact Fn rfl
theorem cjq(s:List UInt8)(h:Hp):AT 188 [.str s] h (.bool (Adr.reserved s)):=by
 refine pcall ?_ rfl (by simp[A.pure,A.data]) h;refine azb mixedT dxk (by simp[bwx]) ?_;dsimp only[bwx];obtain⟨L,hL⟩:=Ex (Adr.reservedL);have hr:Adr.reserved s=L.contains s:=by unfold Adr.reserved;rw[hL]
 have h11:L.length=11:=by rw[←hL];rfl
 rw[hr];refine azc ti ti ?_;refine azd (fun m ts hh=>hh=⟨[],[]⟩∧∃j:Nat,m=L.length-j∧j≤L.length∧(L.drop j).contains s=L.contains s∧(ts 0=.str s∧ts 3=.sl 1 .no (strsA L)∧ts 4=.int .i64 (j:Nat))) L.length ?_ ?_
 ·exact⟨rfl,0,rfl,Zq _,rfl,rfl,by rw[←hL];rfl,rfl⟩
 rintro m ts hh ⟨rfl,j,rfl,hj,heq,ht⟩;rcases Zr j L.length with hlt|hge
 ·have hf:(strsA L).length=L.length∧(j:Int)<(L.length:Int)∧(0:Int)≤(j:Int)∧IntKind.i64.wrap ((j:Int)+1)=((j+1:Nat):Int)∧(strsA L).getD j []=[.str L[j]]:=⟨azh L,by omega,by omega,i80 (by omega),az1 L j hlt⟩;rw[Zl hlt,List.contains_cons]at heq;obtain⟨w,hw⟩:=Ex (L[j]);rw[hw]at heq hf;by_cases e:w=s
  ·subst e;rw[show(w==w)=true from YM _,YT]at heq;refine azc (ai ht hf) ti ?_;exact⟨_,le_refl _,by rw[←heq];rfl⟩
  ·have e1:(w==s)=false:=by simp[e]
   have e2:(s==w)=false:=by simpa using fun h=>e h.symm
   rw[e2,Yn]at heq;refine azc (ai ht (ai hf e1)) ti ?_;exact⟨_,by omega,rfl,j+1,rfl,by omega,heq,by(exact azo (ai ht hf))⟩
 ·have hf:(strsA L).length=L.length∧¬(j:Int)<(L.length:Int):=⟨azh L,by omega⟩;rw[Zt hge]at heq;refine azc (ai ht hf) ti ?_;exact⟨_,le_refl _,by rw[←heq];rfl⟩
def av0:AX.AFn:=⟨31,aS [aR 2 (.mv (.c (.bool false)))] (.seq (aS [aR 3 (.mv (aI 0))] (.block 0 (.loop (.seq (aS [aM 4 3,aM 5 0,aR 6 (.len true (.t 5)),aR 7 (.bin .lss (.t 4) (.t 6))] (.cond (.t 7) (.skip) (.exit 0))) (.seq (.block 1 (aS [aM 10 0,aM 11 3,aR 12 (.sidx (.t 10) (.t 11)),aR 13 (.bin .lss (.t 12) (.c (.int .u8 48))),aM 14 13,aG 15 (.mv (.t 0)) 14 false,aG 16 (.mv (.t 3)) 14 false,aG 17 (.sidx (.t 15) (.t 16)) 14 false,aG 18 (.bin .gtr (.t 17) (.c (.int .u8 57))) 14 false,aR 19 (.pick (.t 14) (.c (.bool true)) (.t 18))] (.cond (.t 19) (aS [aR 2 (.mv (.c (.bool false)))] (.ret)) (.skip)))) (.reg false [aM 8 3,aR 9 (.bin .add (.t 8) (aI 1)),aM 3 9])))))) (aS [aM 20 0,aR 21 (.bin .eql (.t 20) (.c (.str [48]))),aM 22 21,aG 23 (.mv (.t 0)) 22 false,aG 24 (.bin .neq (.t 23) (.c (.str []))) 22 false,aG 25 (.mv (.t 24)) 22 false,aG 26 (.mv (.t 0)) 25 true,aG 27 (.sidx (.t 26) (aI 0)) 25 true,aG 28 (.bin .neq (.t 27) (.c (.int .u8 48))) 25 true,aG 29 (.pick (.t 25) (.t 28) (.c (.bool false))) 22 false,aR 30 (.pick (.t 22) (.c (.bool true)) (.t 29)),aM 2 30] (.ret))),[.t 2]⟩
theorem cq3:AX.compFn Tryz.prog 157=some av0:=by kernel_rfl
def aw6:AX.AFn:=⟨9,aS [aR 2 (.mv (.c (.bool false)))] (aS [aM 3 0,aR 4 (.bin .geq (.t 3) (aI (-9007199254740992))),aM 5 4,aG 6 (.mv (.t 0)) 5 true,aG 7 (.bin .leq (.t 6) (aI 9007199254740992)) 5 true,aR 8 (.pick (.t 5) (.t 7) (.c (.bool false))),aM 2 8] (.ret)),[.t 2]⟩
theorem cko:AX.compFn Tryz.prog 158=some aw6:=by kernel_rfl
def ay3:AX.AFn:=⟨54,aS [aR 2 (.mv (aI 0)),aR 3 (.mv (aI 0))] (aS [aM 8 0,aR 9 (.len true (.t 8)),aR 10 (.bin .gtr (.t 9) (aI 0)),aM 11 10,aG 12 (.mv (.t 0)) 11 true,aG 13 (.sidx (.t 12) (aI 0)) 11 true,aG 14 (.bin .eql (.t 13) (.c (.int .u8 45))) 11 true,aR 15 (.pick (.t 11) (.t 14) (.c (.bool false))),aM 4 15] (aS [aM 16 0,aM 5 16] (.seq (aS [aM 17 4] (.cond (.t 17) (.reg false [aM 18 0,aR 19 (.ssl (.t 18) (some (aI 1)) none),aM 5 19]) (.skip))) (.seq (aS [aM 20 5,aR 21 (.call 157 [.t 20]),aR 22 (.un .not (.t 21)),aM 23 22,aG 24 (.mv (.t 4)) 23 false,aG 25 (.mv (.t 24)) 23 false,aG 26 (.mv (.t 5)) 25 true,aG 27 (.bin .eql (.t 26) (.c (.str [48]))) 25 true,aG 28 (.pick (.t 25) (.t 27) (.c (.bool false))) 23 false,aR 29 (.pick (.t 23) (.c (.bool true)) (.t 28))] (.cond (.t 29) (aS [aR 2 (.mv (aI 0)),aR 3 (.mv (aI 2))] (.ret)) (.skip))) (.seq (aS [aM 30 5,aR 31 (.len true (.t 30)),aR 32 (.bin .gtr (.t 31) (aI 16))] (.cond (.t 32) (aS [aR 2 (.mv (aI 0)),aR 3 (.mv (aI 5))] (.ret)) (.skip))) (aS [aR 6 (.mv (aI 0))] (.seq (aS [aR 7 (.mv (aI 0))] (.block 0 (.loop (.seq (aS [aM 33 7,aM 34 5,aR 35 (.len true (.t 34)),aR 36 (.bin .lss (.t 33) (.t 35))] (.cond (.t 36) (.skip) (.exit 0))) (.seq (.block 1 (.reg false [aM 39 6,aR 40 (.bin .mul (aI 10) (.t 39)),aM 41 5,aM 42 7,aR 43 (.sidx (.t 41) (.t 42)),aR 44 (.bin .sub (.t 43) (.c (.int .u8 48))),aR 45 (.conv .i64 (.t 44)),aR 46 (.bin .add (.t 40) (.t 45)),aM 6 46])) (.reg false [aM 37 7,aR 38 (.bin .add (.t 37) (aI 1)),aM 7 38])))))) (.seq (aS [aM 47 4] (.cond (.t 47) (.reg false [aM 48 6,aR 49 (.un .neg (.t 48)),aM 6 49]) (.skip))) (.seq (aS [aM 50 6,aR 51 (.call 158 [.t 50]),aR 52 (.un .not (.t 51))] (.cond (.t 52) (aS [aR 2 (.mv (aI 0)),aR 3 (.mv (aI 5))] (.ret)) (.skip))) (aS [aM 53 6,aM 2 53,aR 3 (.mv (aI 0))] (.ret))))))))))),[.t 2,.t 3]⟩
theorem cwo:AX.compFn Tryz.prog 127=some ay3:=by kernel_rfl
theorem dkl(c:UInt8):(decide ((c.toNat:Int)<48)||decide ((c.toNat:Int)>57))=!Num.digB c:=by
 unfold Num.digB;have e1:decide ((c.toNat:Int)<48)=!decide (48≤c.toNat):=by rw[←decide_not,decide_eq_decide];omega
 have e2:decide ((c.toNat:Int)>57)=!decide (c.toNat≤57):=by rw[←decide_not,decide_eq_decide];omega
 rw[e1,e2,Bool.not_and]
theorem bqi(s:List UInt8)(hl:s.length≤2000000)(h:Hp):AT 157 [.str s] h (.bool (Num.digits s)):=by
 refine pcall ?_ rfl (by simp[A.pure,A.data]) h;refine azb mixedT cq3 (by simp[av0]) ?_;dsimp only[av0];obtain⟨q,hq⟩:=Ex (Num.digits s);rw[hq];unfold Num.digits at hq;refine azc ti ti ?_;refine azd (fun m ts hh=>hh=⟨[],[]⟩∧∃j:Nat,m=s.length-j∧j≤s.length∧(s.drop j).all Num.digB=s.all Num.digB∧(ts 0=.str s∧ts 3=.int .i64 (j:Nat))) s.length ?_ ?_
 ·exact⟨rfl,0,rfl,Zq _,rfl,by(exact azo ti)⟩
 rintro m ts hh ⟨rfl,j,rfl,hj,heq,ht⟩;rcases Zr j s.length with hlt|hge
 ·have hf:(j:Int)<(s.length:Int)∧(0:Int)≤(j:Int)∧IntKind.i64.wrap ((j:Int)+1)=((j+1:Nat):Int):=⟨by omega,by omega,i80 (by omega)⟩;rw[Zl hlt,ZM]at heq;have hg:s.getD j 0=s[j]:=by simp[List.getD,hlt]
  obtain⟨c,hcc⟩:=Ex (s[j]);rw[hcc]at heq hg;have hw:=dkl c;cases hB:Num.digB c with
  |false=>
   rw[hB]at heq hw;have:false=q:=by rw[←hq,←heq];rfl
   subst this;refine azc (ai ht (ai hf (ai hg hw))) ti ?_;exact Fn rfl
  |true=>
   rw[hB]at heq hw;refine azc (ai ht (ai hf (ai hg hw))) ti ?_;exact⟨_,by omega,rfl,j+1,rfl,by omega,heq,by(exact azo (ai ht hf))⟩
 ·have hf:¬(j:Int)<(s.length:Int):=by omega
  rw[Zt hge,Y6]at heq;rw[←heq,ZG]at hq;cases s with
  |nil=>
   have hf:¬(j:Int)<((0:Nat):Int)∧(([]:List UInt8) == [48])=false:=⟨by omega,rfl⟩;refine azc (ai ht hf) ti ?_;exact⟨_,le_refl _,by rw[←hq];rfl⟩
  |cons c t=>
   have hf:¬(j:Int)<((t.length+1:Nat):Int):=hf;have h0:(0:Int)<((t.length+1:Nat):Int):=by omega
   have e0:((c::t)!=([]:List UInt8))=true:=rfl;have e1:((c.toNat:Int)!=48)=(c !=48):=by
    rw[Z4,Y5,Y5,ne_eq,ne_eq,←Ym];show¬_↔¬c.toNat=48
    omega
   rw[e0,ZG,ZZ,←e1]at hq;refine azc (ai ht (ai hf (ai h0 e0))) ti ?_;exact⟨_,le_refl _,by rw[←hq];rfl⟩
theorem ckq(n:Int)(h:Hp):AT 158 [.int .i64 n] h (.bool (decide (n≥-9007199254740992)&&decide (n≤9007199254740992))):=by
 refine pcall ?_ rfl (by simp[A.pure,A.data]) h;refine azb mixedT cko (by simp[aw6]) ?_;dsimp only[aw6];refine azc ti ti ?_;exact Fn rfl
theorem cqb(t:List UInt8)(j:Nat)(h:j<t.length):Num.val (t.take (j+1))=10*Num.val (t.take j)+(t[j].toNat-48):=by
 rw[Yo h];unfold Num.val;rw[List.foldl_append];rfl
theorem dka:∀(n:Nat) (t:List UInt8),t.length=n→t.all Num.digB=true→Num.val t<10^n:=by
 intro n;induction n with
 |zero=>intro t ht _;rw[ZS ht];decide
 |succ n ih=>
  intro t ht ha;have hlt:n<t.length:=by omega
  have h1:=cqb t n hlt;rw[Zy (by omega)]at h1
  have h2:=ih (t.take n) (by rw[Zk];omega) (by
   rw[ZF]at ha⊢
   exact fun x hx=>ha x (List.mem_of_mem_take hx))
  have h3:=ZF.1 ha t[n] (Zp hlt);rw[Num.digB_iff]at h3;rw[h1,Nat.pow_succ];omega
theorem bvv(s:List UInt8)(hl:s.length≤2000000)(h:Hp):AT 127 [.str s] h (.tup [.int .i64 (Num.parse s).1,.int .i64 (Num.parse s).2]):=by
 refine pcall ?_ rfl (by simp[A.pure,A.data]) h;refine azb mixedT cwo (by simp[ay3]) ?_;dsimp only[ay3];cases s with
 |nil=>
  have hd:=bqi [] (by decide);rw[show Num.digits []=false from rfl]at hd;have h00:¬((0:Nat):Int)>0:=by decide
  refine azc h00 (ai hd ti) ?_;exact Fn rfl
 |cons c r=>
 have h0:(0:Int)<((r.length+1:Nat):Int)∧((r.length+1:Nat):Int)>0∧(0:Int)≤1∧(1:Int)≤((r.length+1:Nat):Int):=⟨by omega,by omega,by omega,by omega⟩;obtain⟨t,ht⟩:=Ex ((if(c==45)=true then r else c::r));have hl':r.length+1≤2000000:=hl;have htl:t.length≤2000000:=by
  rw[←ht];split
  ·omega
  ·exact hl
 have e1:((c.toNat:Int)==45)=(c==45):=by
  rw[Z4,ZC,ZC,←Ym];show _↔c.toNat=45
  omega
 have hp:Num.parse (c::r)=if(!Num.digits t||((c==45)&&t == [48]))=true then(0,2)else if 16<t.length then(0,5)else if 9007199254740992<Num.val t then(0,5)else((if(c==45)=true then-(Num.val t:Int)else Num.val t),0):=by
  unfold Num.parse;simp only[ZZ,Z5,YA,ht]
 obtain⟨mn,hmn⟩:=Ex ((c==45));rw[hmn]at e1 hp ht;refine azc (ai h0 e1) ti ?_;refine by2 (fun ts' h'=>h'=⟨[],[]⟩∧(ts' 4=.bool mn∧ts' 5=.str t)) ?_ ?_
 ·cases mn with
  |false=>
   rw[if_neg (by decide)]at ht;refine azc (ai h0 e1) ti ?_;exact⟨rfl,by(exact azo (ai ht e1))⟩
  |true=>
   rw[if_pos rfl]at ht;refine azc (ai h0 e1) ti ?_;exact⟨rfl,by(exact azo (ai ht e1))⟩
 rintro ts hh ⟨rfl,hu⟩;rw[hp];have hd:=bqi t htl;cases hD:Num.digits t with
 |false=>
  rw[hD]at hd;refine azc hu (ai hd ti) ?_;exact Fn rfl
 |true=>
 rw[hD]at hd;cases hz:(mn&&t == [48])with
 |true=>
  refine azc (ai hu hz) (ai hd ti) ?_;exact Fn rfl
 |false=>
 rw[if_neg (by simp)];by_cases h16:16<t.length
 ·have e2:(t.length:Int)>16:=by omega
  rw[if_pos h16];refine azc (ai hu (ai hz e2)) (ai hd ti) ?_;exact Fn rfl
 have e2:¬(t.length:Int)>16:=by omega
 rw[if_neg h16];have hall:t.all Num.digB=true:=by unfold Num.digits at hD;rw[Zf]at hD;exact hD.1
 have hv:∀j,j≤t.length→Num.val (t.take j)<10000000000000000:=fun j hj=>by
  have:=dka j (t.take j) (by rw[Zk];omega) (by
   rw[ZF]at hall⊢
   exact fun x hx=>hall x (List.mem_of_mem_take hx))
  exact ZA this (Y9 (by decide) (show j≤16 by omega))
 refine azc (ai hu (ai hz e2)) (ai hd ti) ?_;refine azd (fun m ts hh=>hh=⟨[],[]⟩∧∃j:Nat,m=t.length-j∧j≤t.length∧(ts 4=.bool mn∧ts 5=.str t∧ts 6=.int .i64 (Num.val (t.take j):Nat)∧ts 7=.int .i64 (j:Nat))) t.length ?_ ?_
 ·exact⟨rfl,0,rfl,Zq _,by(exact azo hu)⟩
 rintro m ts hh ⟨rfl,j,rfl,hj,hw⟩;have hvj:=hv j hj;rcases Zr j t.length with hlt|hge
 ·have hvj1:=hv (j+1) hlt;have hvt:=cqb t j hlt;have hcd:=(Num.digB_iff _).1 (ZF.1 hall t[j] (Zp hlt));have hg:t.getD j 0=t[j]:=by simp[List.getD,hlt]
  obtain⟨x,hx⟩:=Ex (t[j]);rw[hx]at hvt hcd hg;have hf:(j:Int)<(t.length:Int)∧(0:Int)≤(j:Int)∧IntKind.i64.wrap ((j:Int)+1)=((j+1:Nat):Int):=⟨by omega,by omega,i80 (by omega)⟩;obtain⟨V,hV⟩:=Ex (Num.val (t.take j));rw[hV]at hvt hvj hw;have k1:IntKind.i64.wrap (10*(V:Int))=((10*V:Nat):Int):=by rw[wrap64 (by omega) (by omega)];omega
  have k2:IntKind.u8.wrap ((x.toNat:Int)-48)=((x.toNat-48:Nat):Int):=by rw[IntKind.wrap_u8];omega
  have k3:IntKind.i64.wrap ((x.toNat-48:Nat):Int)=((x.toNat-48:Nat):Int):=wrap64 (by omega) (by omega);have k4:IntKind.i64.wrap (((10*V:Nat):Int)+((x.toNat-48:Nat):Int))=(Num.val (t.take (j+1)):Nat):=by rw[hvt,wrap64 (by omega) (by omega)];omega
  refine azc (ai hw (ai hf (ai hg (ai k1 (ai k2 (ai k3 k4)))))) ti ?_;exact⟨_,by omega,rfl,j+1,rfl,by omega,by(exact azo (ai hw (ai hf (ai hg (ai k1 (ai k2 (ai k3 k4)))))))⟩
 ·have hf:¬(j:Int)<(t.length:Int):=by omega
  rw[Zy hge]at hw hvj;obtain⟨V,hV⟩:=Ex (Num.val t);rw[hV]at hw hvj⊢;have hva:=fun n=>ckq n
  cases mn with
  |false=>
   by_cases hb:9007199254740992<V
   ·have e3:(decide ((V:Int)≥-9007199254740992)&&decide ((V:Int)≤9007199254740992))=false:=by simp;omega
    rw[if_pos hb];refine azc (ai hw (ai hf e3)) (ai ((hva V)) ti) ?_;exact Fn rfl
   ·have e3:(decide ((V:Int)≥-9007199254740992)&&decide ((V:Int)≤9007199254740992))=true:=by simp;omega
    rw[if_neg hb];refine azc (ai hw (ai hf e3)) (ai ((hva V)) ti) ?_;exact Fn rfl
  |true=>
   have e4:IntKind.i64.wrap (0-(V:Int))=-(V:Int):=by rw[wrap64 (by omega) (by omega)];omega
   by_cases hb:9007199254740992<V
   ·have e3:(decide (-(V:Int)≥-9007199254740992)&&decide (-(V:Int)≤9007199254740992))=false:=by simp;omega
    rw[if_pos hb];refine azc (ai hw (ai hf (ai e4 e3))) (ai ((hva (-(V:Int)))) ti) ?_;exact Fn rfl
   ·have e3:(decide (-(V:Int)≥-9007199254740992)&&decide (-(V:Int)≤9007199254740992))=true:=by simp;omega
    rw[if_neg hb];refine azc (ai hw (ai hf (ai e4 e3))) (ai ((hva (-(V:Int)))) ti) ?_;exact Fn rfl
end AX
theorem cql:∀d:Fin 16,((⟨#[48,49,50,51,52,53,54,55,56,57,97,98,99,100,101,102]⟩:ByteArray).extract d.val (d.val+1)).data.toList=[Str.hd d.val]:=by decide
theorem dqs(d:Nat)(h:d<16):(⟨#[48,49,50,51,52,53,54,55,56,57,97,98,99,100,101,102]⟩:ByteArray).extract d (d+1)=⟨#[Str.hd d]⟩:=by
 have:=cql ⟨d,h⟩;exact cvz this
theorem akd(c:Nat)(w:World)(hc:c<16):
  Calls Tryz.prog 239 #[.int .i64 c] w fun e w'=>e=.returned (.string ⟨(Str.hexL c).toArray⟩)∧w=w':=by
 have Hh:=kept (show Str.hexL c=[Str.hd c] by rw[Str.hexL,if_pos hc]);have hx:=dqs c hc;have hc':(c:Int)<16:=by omega
 have hm:(c:Int)%16=(c:Int):=by omega
 have hy:(c:Int)<15+1:=by omega
 generalize hq:Str.hd c=q at *;clear hc hq;go_enter Tryz.func239,Tryz.ntmps239;go_wp2
 go_ret
 exact⟨by rw[Hh.out];rfl,rfl⟩
theorem cqy(c:Nat)(w:World)(hc:c<256):
  Calls Tryz.prog 239 #[.int .i64 c] w fun e w'=>e=.returned (.string ⟨(Str.hexL c).toArray⟩)∧w=w':=by
 by_cases h16:c<16
 ·exact akd c w h16
 ·have Hh:=kept (show Str.hexL c=Str.hexL (c/16)++[Str.hd (c%16)] by
   rw[Str.hexL,if_neg h16,Str.hexL,if_pos (by omega)];rfl)
  have hx:=dqs (c%16) (by omega);have hl:=(Str.hexL_length (c/16)).2;have hcat:=fun W=>bwo (P:=Tryz.prog) W (a:=⟨(Str.hexL (c/16)).toArray⟩) (b:=⟨#[Str.hd (c%16)]⟩) (l:=Str.hexL (c/16)) (m:=[Str.hd (c%16)]) rfl rfl (by simp;omega)
  obtain⟨d,hd⟩:∃d:Nat,(c:Int)%16=(d:Int):=⟨c%16,by omega⟩;obtain⟨f,hf⟩:∃f:Nat,(c:Int)/16=(f:Int):=⟨c/16,by omega⟩;obtain rfl:d=c%16:=by omega
  obtain rfl:f=c/16:=by omega
  have Hs:=kept (show c/16<16 by omega);have hb:((c%16:Nat):Int)<16:=by omega
  have hfb:((c/16:Nat):Int)<16:=by omega
  have hb2:((c%16:Nat):Int)<15+1:=by omega
  have hc':¬(c:Int)<16:=by omega
  generalize hq:Str.hd (c%16)=q at *;generalize hg:Str.hexL (c/16)=g at *;have Hg:=kept hg;generalize c%16=d at *;generalize c/16=f at *;clear hc hq h16 hl hg;go_enter Tryz.func239,Tryz.ntmps239;go_wp2_with (go_at_call 239;refine(akd _ _ Hs.out).mono ?_;rintro e w' ⟨rfl,rfl⟩;rw[Hg.out])
  go_ret
  exact⟨by rw[Hh.out];rfl,rfl⟩
theorem one_byte(w:World)(b:UInt8):(convert 190 9 (.slice (some ⟨w.heap.size,0,none⟩) 1 1)).run Tryz.prog (w.alloc (.cells #[.int .u8 b.toNat] 5))=.ok (.string ⟨#[b]⟩) (w.alloc (.cells #[.int .u8 b.toNat] 5)):=
 (BytesAt.lit w 5 [b]).conv (P:=Tryz.prog) 190 9 1 Tryz.underlying190 Tryz.underlying5 Tryz.underlying9
theorem bk9(b:UInt8)(w:World):
  Calls Tryz.prog 230 #[.int .u8 b.toNat] w fun e w'=>e=.returned (.string ⟨(Str.esc b).toArray⟩)∧Below w.heap.size w w':=by
 by_cases h1:b=10
 ·subst h1;go_enter Tryz.func230,Tryz.ntmps230;go_wp2
  go_ret
  exact⟨rfl,Below.refl _ _⟩
 by_cases h2:b=13
 ·subst h2;go_enter Tryz.func230,Tryz.ntmps230;go_wp2
  go_ret
  exact⟨rfl,Below.refl _ _⟩
 by_cases h3:b=9
 ·subst h3;go_enter Tryz.func230,Tryz.ntmps230;go_wp2
  go_ret
  exact⟨rfl,Below.refl _ _⟩
 by_cases h4:b=34
 ·subst h4;go_enter Tryz.func230,Tryz.ntmps230;go_wp2
  go_ret
  exact⟨rfl,Below.refl _ _⟩
 by_cases h5:b=92
 ·subst h5;go_enter Tryz.func230,Tryz.ntmps230;go_wp2
  go_ret
  exact⟨rfl,Below.refl _ _⟩
 have hb:=b.toNat_lt;have e1:∀n:Nat,n<256→b≠UInt8.ofNat n→((b.toNat:Int)==(n:Int))=false:=fun n hn h=>by
  refine Zw.2 fun hh=>h ?_
  rw[←Ym,Yz];omega
 have f1:((b.toNat:Int)==10)=false:=e1 10 (by omega) h1;have f2:((b.toNat:Int)==13)=false:=e1 13 (by omega) h2;have f3:((b.toNat:Int)==9)=false:=e1 9 (by omega) h3;have f4:((b.toNat:Int)==34)=false:=e1 34 (by omega) h4;have f5:((b.toNat:Int)==92)=false:=e1 92 (by omega) h5;have hob:=one_byte w b;have Hd:=kept (fun W=>cqy b.toNat W (by omega));have hl:=(Str.hexL_length b.toNat).2;have hcat1:=fun W=>axj (P:=Tryz.prog) W (a:=⟨#[92,117,123]⟩) (b:=⟨(Str.hexL b.toNat).toArray⟩) (l:=[92,117,123]) (m:=Str.hexL b.toNat) (r:=[92,117,123]++Str.hexL b.toNat) rfl rfl rfl (by simp;omega)
 have hcat2:=fun W=>axj (P:=Tryz.prog) W (a:=⟨([92,117,123]++Str.hexL b.toNat).toArray⟩) (b:=⟨#[125]⟩) (l:=[92,117,123]++Str.hexL b.toNat) (m:=[125]) (r:=[92,117,123]++Str.hexL b.toNat++[125]) rfl rfl rfl (by simp;omega)
 by_cases h6:b<32∨b=127
 ·have He:=kept (show Str.esc b=[92,117,123]++Str.hexL b.toNat++[125] by simp only[Str.esc,h1,h2,h3,h4,h5,h6,if_true,if_false]);generalize hm1:([92,117,123]++Str.hexL b.toNat:List UInt8)=m1 at *;generalize hm2:(m1++[125]:List UInt8)=m2 at *;have hlt:(b.toNat:Int)<32∨((b.toNat:Int)==127)=true∧¬(b.toNat:Int)<32:=by
   rcases h6 with h|h
   ·left;have:=Yu.1 h;simp at this;omega
   ·right;subst h;decide
  clear h1 h2 h3 h4 h5 h6 e1 hl hob hm1 hm2;obtain⟨u,hu⟩:∃u:Int,(b.toNat:Int)=u:=⟨_,rfl⟩;have hu0:0≤u:=by omega
  have hu1:u≤255:=by omega
  have Hu:=kept hu;rw[hu]at f1 f2 f3 f4 f5 hlt;clear hb hu;rw[Hu.out];rcases hlt with hlt|⟨hlt,hlt2⟩;all_goals
   go_enter Tryz.func230,Tryz.ntmps230;go_wp2_with fail;rw[←Hu.out];refine(Hd.out _).mono ?_;rintro e w' ⟨rfl,rfl⟩;go_wp2
   go_ret
   exact⟨by rw[He.out];rfl,Below.refl _ _⟩
 ·have He:=kept (show Str.esc b=[b] by simp only[Str.esc,h1,h2,h3,h4,h5,h6,if_false]);have hlt:¬(b.toNat:Int)<32:=fun h=>h6 (.inl (Yu.2 (by simp;omega)))
  have hne:((b.toNat:Int)==127)=false:=e1 127 (by omega) (fun h=>h6 (.inr h));clear h1 h2 h3 h4 h5 h6 e1 hl hcat1 hcat2;obtain⟨u,hu⟩:∃u:Int,(b.toNat:Int)=u:=⟨_,rfl⟩;have hu0:0≤u:=by omega
  have hu1:u≤255:=by omega
  rw[hu]at f1 f2 f3 f4 f5 hlt hne hob⊢;clear hb hu;go_enter Tryz.func230,Tryz.ntmps230;go_wp2
  go_ret
  exact⟨by rw[He.out];rfl,(Below.refl _ _).alloc (Zh _) _⟩
theorem bj2(s:ByteArray):s.data.toList.length=s.size:=by simp
theorem bkf(s:ByteArray)(w:World)(hs:s.size≤2000000):
  Calls Tryz.prog 212 #[.string s] w fun e w'=>e=.returned (.string ⟨(Str.quote s.data.toList).toArray⟩)∧Below w.heap.size w w':=by
 go_enter Tryz.func212,Tryz.ntmps212;go_wp2
 go_loopw [3,4] (fun x i wr=>∃(k:Nat) (acc:List UInt8),k≤s.size∧i=.int .i64 k∧x=.string ⟨acc.toArray⟩∧acc=34::(s.data.toList.take k).flatMap Str.esc∧Below w.heap.size w wr) (fun _ i _=>s.size-(intOf i).toNat)
 case atStart=>exact⟨0,[34],by omega,rfl,rfl,rfl,Below.refl _ _⟩
 case round=>
  obtain⟨k,acc,hk,rfl,rfl,hacc,hbel⟩:=hrel;have Ha:=kept hacc;have Hl:=kept hbel;have hlen:acc.length≤1+6*s.size:=by
   rw[hacc];have:=(Str.flatMap_esc_length (s.data.toList.take k)).2;rw[Zk,bj2]at this;simp only[Zi];omega
  clear hacc hbel;by_cases hlt:k<s.size
  ·have hlt':(k:Int)<s.size:=by omega
   obtain⟨r,hr⟩:=Ex (acc++Str.esc s[k]);have hel:=(Str.esc_length s[k]).2;have hcat:=fun W=>axj (P:=Tryz.prog) W (a:=⟨acc.toArray⟩) (b:=⟨(Str.esc s[k]).toArray⟩) (l:=acc) (m:=Str.esc s[k]) rfl rfl hr (by rw[←hr,Zb];omega)
   have Hr:=kept (show r=34::(s.data.toList.take (k+1)).flatMap Str.esc by
    rw[←hr,Ha.out,bkr s k hlt,Zan];simp)
   clear hlen hr hel;go_wp2_with fail;refine(bk9 _ _).mono ?_;rintro e w1 ⟨rfl,b1⟩;have B1:=kept b1;clear b1;go_wp2
   go_roundw
   case rel=>exact⟨k+1,r,by omega,by go_num,rfl,Hr.out,bthen Hl.out B1.out⟩
   case measure=>simp[intOf];omega
  ·have hcat:=fun W=>axj (P:=Tryz.prog) W (a:=⟨acc.toArray⟩) (b:=⟨#[34]⟩) (l:=acc) (m:=[34]) (r:=acc++[34]) rfl rfl rfl (by rw[Zb];simp;omega)
   have Hr:=kept (show acc++[34]=Str.quote s.data.toList by
    rw[Ha.out,Zy (by rw[bj2];omega)];rfl)
   clear hlen;generalize hq:acc++[34]=q at *;go_wp2
   go_ret
   exact⟨dq8 Hr.out,Hl.out⟩
theorem cx5(b:UInt8)(w:World):
  Calls Tryz.prog 244 #[.int .u8 b.toNat] w fun e w'=>e=.returned (.int .i64 (Str.hexv b))∧w=w':=by
 have hb:=b.toNat_lt
 have Hv:=kept (show Str.hexv b=if 48≤(b.toNat:Int)∧(b.toNat:Int)≤57 then(b.toNat:Int)-48 else if 97≤(b.toNat:Int)∧(b.toNat:Int)≤102 then(b.toNat:Int)-87 else -1 by
  unfold Str.hexv
  repeat' split
  all_goals omega)
 obtain⟨u,hu⟩:∃u:Int,(b.toNat:Int)=u:=⟨_,rfl⟩;rw[hu]at Hv⊢;have h0:0≤u:=by omega
 have h1:u<256:=by omega
 clear hu hb;by_cases a1:48≤u
 ·by_cases a2:u≤57
  ·go_enter Tryz.func244,Tryz.ntmps244;go_wp2
   go_ret
   exact⟨axp (by rw[Hv.out,if_pos ⟨a1,a2⟩]),rfl⟩
  ·by_cases a3:97≤u
   ·by_cases a4:u≤102
    ·go_enter Tryz.func244,Tryz.ntmps244;go_wp2
     go_ret
     exact⟨axp (by rw[Hv.out,if_neg (by omega),if_pos ⟨a3,a4⟩];omega),rfl⟩
    ·go_enter Tryz.func244,Tryz.ntmps244;go_wp2
     go_ret
     exact⟨axp (by rw[Hv.out,if_neg (by omega),if_neg (by omega)]),rfl⟩
   ·go_enter Tryz.func244,Tryz.ntmps244;go_wp2
    go_ret
    exact⟨axp (by rw[Hv.out,if_neg (by omega),if_neg (by omega)]),rfl⟩
 ·go_enter Tryz.func244,Tryz.ntmps244;go_wp2
  go_ret
  exact⟨axp (by rw[Hv.out,if_neg (by omega),if_neg (by omega)]),rfl⟩
theorem bqf(x:Int)(h0:0≤x)(h1:x<16777216):bits .and .i64 x 63=x%64:=by
 obtain⟨X,rfl⟩:=Int.eq_ofNat_of_zero_le h0;have e:X&&&63=X%64:=by rw[show(63:Nat)=2^6-1 from rfl,Y2]
 have h2:(BitVec.ofInt 64 ((X:Nat):Int)&&&BitVec.ofInt 64 (63:Int)).toNat=X%64:=by
  rw[BitVec.toNat_and,BitVec.ofInt_natCast,show(63:Int)=((63:Nat):Int)from rfl,BitVec.ofInt_natCast,BitVec.toNat_ofNat,BitVec.toNat_ofNat,Y0 (by omega),Y0 (by omega),e]
 show IntKind.i64.wrap ((BitVec.ofInt 64 ((X:Nat):Int)&&&BitVec.ofInt 64 (63:Int)).toNat:Int)=_
 rw[h2,IntKind.wrap_i64];omega
theorem cxs(y:Int)(h0:0≤y)(h1:y<64):bits .or .i64 128 y=128+y:=az9 2 y 64 6 (by decide) (by omega) (by omega) h0 h1 (by omega)
theorem dk5(y:Int)(h0:0≤y)(h1:y<64):bits .or .i64 192 y=192+y:=az9 3 y 64 6 (by decide) (by omega) (by omega) h0 h1 (by omega)
theorem dk4(y:Int)(h0:0≤y)(h1:y<16):bits .or .i64 224 y=224+y:=az9 14 y 16 4 (by decide) (by omega) (by omega) h0 h1 (by omega)
theorem dk1(y:Int)(h0:0≤y)(h1:y<16):bits .or .i64 240 y=240+y:=az9 15 y 16 4 (by decide) (by omega) (by omega) h0 h1 (by omega)
def zB(l:List Int):List UInt8:=l.map fun x=>x.toNat.toUInt8
theorem cz2:∀l:List Int,(∀x∈l,0≤x∧x<256)→bcells (zB l)=l.map fun x=>Value.int .u8 x
 |[],_=>rfl
 |x::l,h=>by
  have h1:=h x (by simp);have h2:=cz2 l (fun y hy=>h y (by simp[hy]));unfold zB bcells at *;rw[ZE,ZE,h2,ZE];rw[show(x.toNat.toUInt8).toNat=x.toNat%256 from rfl];congr 2;omega
theorem ajh(w:World)(l:List Int)(n:Nat)(hn:l.length=n)(h:∀x∈l,0≤x∧x<256):
  (convert 190 9 (.slice (some ⟨w.heap.size,0,none⟩) n n)).run Tryz.prog (w.alloc (.cells (l.map fun x=>Value.int .u8 x).toArray 5))=.ok (.string ⟨(zB l).toArray⟩) (w.alloc (.cells (l.map fun x=>Value.int .u8 x).toArray 5)):=by
 rw[←cz2 l h];exact(BytesAt.lit w 5 (zB l)).conv_of (P:=Tryz.prog) 190 9 n n (by simp[zB,hn]) Tryz.underlying190 Tryz.underlying5 Tryz.underlying9
theorem bjj(c:Nat)(w:World)(hc:Utf8.valid c=true):
  Calls Tryz.prog 243 #[.int .i64 c] w fun e w'=>e=.returned (.string ⟨(Str.enc c).toArray⟩)∧Below w.heap.size w w':=by
 have hv:(c:Int)<55296∨(57343<(c:Int)∧(c:Int)≤1114111):=by
  unfold Utf8.valid at hc;simp at hc;omega
 have He:=kept (show Str.enc c=zB (Lib.encodeRuneZ (c:Int))from rfl);obtain⟨u,hu⟩:∃u:Int,(c:Int)=u:=⟨_,rfl⟩;have h0:0≤u:=by omega
 rw[hu]at He hv⊢;clear hu hc;by_cases h1:u<128
 ·have Hz:=kept (Lib.encodeRuneZ_one (r:=u) h0 (by omega));have hob:=ajh w [u] 1 rfl (by simp;omega);have hw8:u<256:=by omega
  go_enter Tryz.func243,Tryz.ntmps243;simp only[ZE,Yj]at hob;go_wp2
  go_ret
  exact⟨by rw[He.out,Hz.out];rfl,ball w _⟩
 ·by_cases h2:u<2048
  ·have Hz:=kept (Lib.encodeRuneZ_two (r:=u) (by omega) (by omega));have a1:=bqf u h0 (by omega);have o1:=dk5 (u/64) (by omega) (by omega);have o2:=cxs (u%64) (by omega) (by omega);have hob:=ajh w [192+u/64,128+u%64] 2 rfl (by simp;omega);simp only[ZE,Yj]at hob;go_enter Tryz.func243,Tryz.ntmps243;go_wp2
   go_ret
   exact⟨by rw[He.out,Hz.out];rfl,ball w _⟩
  ·by_cases h3:u<65536
   ·have Hz:=kept (Lib.encodeRuneZ_three (r:=u) (by omega));have a1:=bqf u h0 (by omega);have a2:=bqf (u/64) (by omega) (by omega);have o1:=dk4 (u/4096) (by omega) (by omega);have o2:=cxs (u/64%64) (by omega) (by omega);have o3:=cxs (u%64) (by omega) (by omega);have hob:=ajh w [224+u/4096,128+u/64%64,128+u%64] 3 rfl (by simp;omega);simp only[ZE,Yj]at hob;go_enter Tryz.func243,Tryz.ntmps243;go_wp2
    go_ret
    exact⟨by rw[He.out,Hz.out];rfl,ball w _⟩
   ·have Hz:=kept (Lib.encodeRuneZ_four (r:=u) (by omega) (by omega));have a1:=bqf u h0 (by omega);have a2:=bqf (u/64) (by omega) (by omega);have a3:=bqf (u/4096) (by omega) (by omega);have o1:=dk1 (u/262144) (by omega) (by omega);have o2:=cxs (u/4096%64) (by omega) (by omega);have o3:=cxs (u/64%64) (by omega) (by omega);have o4:=cxs (u%64) (by omega) (by omega);have hob:=ajh w [240+u/262144,128+u/4096%64,128+u/64%64,128+u%64] 4 rfl (by simp;omega);simp only[ZE,Yj]at hob;go_enter Tryz.func243,Tryz.ntmps243;go_wp2
    go_ret
    exact⟨by rw[He.out,Hz.out];rfl,ball w _⟩
theorem getD_drop(s:ByteArray)(i j:Nat)(h:i+j<s.size):(s.data.toList.drop i).getD j 0=s[i+j]:=by
 simp[List.getD,h];rfl
theorem cj8(C:Nat):Utf8.valid (C:Int)=false↔(1114111<(C:Int)∨(55296≤(C:Int)∧(C:Int)≤57343)):=by
 unfold Utf8.valid;rw[←Zaj];simp only[ZP,Zf,ZD];omega
theorem cq7(s:ByteArray)(i k c n:Nat)(e0 u z C:Int)(hp:Str.point (s.data.toList.drop i)=(c,n,e0))(hn:Str.hexN 6 (s.data.toList.drop i)=k)(hk:i+k<s.size)
  (hu:(s[i+k].toNat:Int)=u) (hz:(s[i].toNat:Int)=z) (hC:((Str.hexC k (s.data.toList.drop i):Nat):Int)=C):
  ((u≠125∨k=0∨(1<k∧z=48)∨1114111<C∨(55296≤C∧C≤57343))→c=0∧n=0∧e0=2) ∧
  (¬(u≠125∨k=0∨(1<k∧z=48)∨1114111<C∨(55296≤C∧C≤57343))→(c:Int)=C∧n=k+1∧e0=0):=by
 have hgk:=getD_drop s i k hk;have hg0:=getD_drop s i 0 (by omega);simp only[Yt]at hg0;have hl:k<(s.data.toList.drop i).length:=by simp;omega
 have e1:((s.data.toList.drop i).getD k 0≠125∨k=0∨(1<k∧(s.data.toList.drop i).getD 0 0=48)∨Utf8.valid (Str.hexC k (s.data.toList.drop i))=false)↔(u≠125∨k=0∨(1<k∧z=48)∨1114111<C∨(55296≤C∧C≤57343)):=by
  rw[hgk,hg0,cj8,hC];have a1:s[i+k]≠125↔u≠125:=by
   rw[←hu,ne_eq,ne_eq,←Ym];show¬s[i+k].toNat=125↔_
   omega
  have a2:s[i]=48↔z=48:=by
   rw[←hz,←Ym];show s[i].toNat=48↔_
   omega
  rw[a1,a2]
 refine⟨fun h=>?_,fun h=>?_⟩
 ·have:=aql _ k hn hl (e1.2 h);rw[hp]at this;simp only[Zv]at this;exact this
 ·have:=czk _ k hn hl (fun hh=>h (e1.1 hh));rw[hp]at this;simp only[Zv]at this;exact⟨by rw[this.1,hC],this.2⟩
theorem bv6(s:ByteArray)(i:Nat)(c n:Nat)(e0:Int)(w:World)(hs:s.size≤2000000)(hi:i≤s.size)(hp:Str.point (s.data.toList.drop i)=(c,n,e0)):
  Calls Tryz.prog 242 #[.string s,.int .i64 i] w fun e w'=>e=.returned (.tuple #[.int .i64 c,.int .i64 (if e0=0 then i+n else 0:Nat),.int .i64 e0])∧w'=w:=by
 obtain⟨m,hm⟩:∃m,m=if e0=0 then i+n else 0:=⟨_,rfl⟩
 rw[←hm];have Hm:=kept hm;clear hm;have HP:=kept hp;clear hp;have hl:(s.data.toList.drop i).length=s.size-i:=by simp
 have Hll:=kept hl;go_enter Tryz.func242,Tryz.ntmps242;go_wp2
 go_loop [7,8] (fun cv nv=>∃k:Nat,k≤6∧i+k≤s.size∧nv=.int .i64 k∧cv=.int .i64 (Str.hexC k (s.data.toList.drop i))∧∀j,j<k→Str.isHex ((s.data.toList.drop i).getD j 0)=true) (fun _ nv=>6-(intOf nv).toNat)
 case atStart=>exact⟨0,by omega,by omega,rfl,rfl,by omega⟩
 case round=>
  obtain⟨k,h6,hk,rfl,rfl,hall⟩:=hrel;have Ha:=kept hall;clear hall hl;by_cases hend:i+k=s.size
  ·have hp:=bvk (s.data.toList.drop i) (Str.hexN_end 6 k _ Ha.out (by have:=Hll.out;omega) h6 (.inr (.inl (by have:=Hll.out;omega))) |>.trans (by have:=Hll.out;omega));rw[HP.out]at hp;simp only[Zv]at hp;obtain⟨rfl,rfl,rfl⟩:=hp;have hend':(i:Int)+k=s.size:=by omega
   go_wp2;refine bodyPost_ret (v:=.tuple #[.int .i64 0,.int .i64 0,.int .i64 40]) (by simp[results,Tryz.results242,go_sem]) rfl ⟨by rw[Hm.out];rfl,rfl⟩
  ·have hlt:i+k<s.size:=by omega
   have hlt':(i:Int)+k<s.size:=by omega
   have hlti:i<s.size:=by omega
   obtain⟨u,hu⟩:∃u:Int,(s[i+k].toNat:Int)=u:=⟨_,rfl⟩;obtain⟨z,hz⟩:∃u:Int,(s[i].toNat:Int)=u:=⟨_,rfl⟩;obtain⟨C,hC⟩:∃u:Int,((Str.hexC k (s.data.toList.drop i):Nat):Int)=u:=⟨_,rfl⟩;have Hx:=kept (fun hn=>cq7 s i k c n e0 u z C HP.out hn hlt hu hz hC);have hC0:0≤C:=by omega
   have Hhx:=kept (fun W=>cx5 s[i+k] W);have Hgk:=kept (getD_drop s i k hlt);have HC:=kept hC;have Hend:=kept (show k=6∨Str.isHex s[i+k]=false→Str.hexN 6 (s.data.toList.drop i)=k from fun h=>Str.hexN_end 6 k _ Ha.out (by have:=Hll.out;omega) h6 (h.imp_right fun hh=> .inr (by rw[Hgk.out];exact hh)));rw[hu]at Hhx;rw[hC];clear hend;by_cases hk6:k=6
   ·subst hk6;have Hx2:=kept (Hx.out (Hend.out (.inl rfl)));clear hC;go_wp2;all_goals (try simp only[ZC,Zw,ne_eq]at *)
    all_goals
     by_cases hq:(u≠125∨6=0∨(1<6∧z=48)∨1114111<C∨(55296≤C∧C≤57343))
     ·first
      |(exfalso;omega)
      |(obtain⟨rfl,rfl,rfl⟩:=Hx2.out.1 hq;exact bodyPost_ret (v:=.tuple #[.int .i64 0,.int .i64 0,.int .i64 2]) (by simp[results,Tryz.results242,go_sem]) rfl ⟨by rw[Hm.out];rfl,rfl⟩)
     ·first
      |(exfalso;omega)
      |(obtain⟨hc,rfl,rfl⟩:=Hx2.out.2 hq;exact bodyPost_ret (v:=.tuple #[.int .i64 C,.int .i64 (i+6+1),.int .i64 0]) (by simp[results,Tryz.results242,go_sem]) rfl ⟨by rw[Hm.out,hc];rfl,rfl⟩)
   ·have hk6':(k:Int)<6:=by omega
    by_cases hx:Str.isHex s[i+k]=true
    ·have hge:0≤Str.hexv s[i+k]:=by simpa [Str.isHex]using hx
     have hhx:=Str.hexv_le s[i+k];have Hs:=kept (Str.hexC_succ k (s.data.toList.drop i) (by have:=Hll.out;omega));have Hd:=Str.hexC_lt k (s.data.toList.drop i) (by have:=Hll.out;omega);have hC1:C<1048576:=by
      have:16^k≤16^5:=Y9 (by decide) (by omega);have:=HC.out;omega
     have Hxx:=kept hx;have Hhv:=kept (show(s.data.toList.drop i)[k]'(by have:=Hll.out;omega)=s[i+k] by simp;rfl);clear hx Hd hC;go_wp2_with fail;(with_reducible refine(Hhx.out _).mono ?_);rintro e w1 ⟨rfl,rfl⟩
     go_wp2_with fail;(with_reducible refine(Hhx.out _).mono ?_);rintro e w1 ⟨rfl,rfl⟩
     go_wp2
     go_round
     case rel=>
      refine⟨k+1,by omega,by omega,by go_num,?_,?_⟩
      ·rw[Hs.out,Hhv.out];have:=HC.out;congr 1;omega
      ·intro j hj;by_cases hjk:j=k
       ·subst hjk;rw[Hgk.out];exact Hxx.out
       ·exact Ha.out j (by omega)
     case measure=>simp[intOf];omega
    ·have Hx2:=kept (Hx.out (Hend.out (.inr (by simpa using hx))));have hlz:Str.hexv s[i+k]<0:=by simpa [Str.isHex]using hx
     clear hx hC;go_wp2_with fail;(with_reducible refine(Hhx.out _).mono ?_);rintro e w1 ⟨rfl,rfl⟩
     go_wp2;all_goals (try simp only[ZC,Zw,ne_eq]at *)
     all_goals
      by_cases hq:(u≠125∨k=0∨(1<k∧z=48)∨1114111<C∨(55296≤C∧C≤57343))
      ·first
       |(exfalso;omega)
       |(obtain⟨rfl,rfl,rfl⟩:=Hx2.out.1 hq;exact bodyPost_ret (v:=.tuple #[.int .i64 0,.int .i64 0,.int .i64 2]) (by simp[results,Tryz.results242,go_sem]) rfl ⟨by rw[Hm.out];rfl,rfl⟩)
      ·first
       |(exfalso;omega)
       |(obtain⟨hc,rfl,rfl⟩:=Hx2.out.2 hq;exact bodyPost_ret (v:=.tuple #[.int .i64 C,.int .i64 (i+k+1),.int .i64 0]) (by simp[results,Tryz.results242,go_sem]) rfl ⟨by rw[Hm.out,hc];rfl,rfl⟩)
def Str.at'(i:Nat)(r:List UInt8×Nat×Int):List UInt8×Nat×Int:=if r.2.2=0 then(r.1,i+r.2.1,0)else([],0,r.2.2)
def Str.esc1(l:List UInt8):List UInt8×Nat×Int:=if(Str.escp l).2.2=0 then(Str.enc (Str.escp l).1,(Str.escp l).2.1+1,0)else([],0,(Str.escp l).2.2)
def TripleEnd(r:List UInt8×Nat×Int):Ending:=.returned (.tuple #[.string ⟨r.1.toArray⟩,.int .i64 r.2.1,.int .i64 r.2.2])
theorem Str.esc1_of{l:List UInt8}{c n:Nat}{e:Int}(h:Str.escp l=(c,n,e)):Str.esc1 l=if e=0 then(Str.enc c,n+1,0)else([],0,e):=by unfold Str.esc1;rw[h]
theorem Str.at_ok(i n:Nat)(l:List UInt8):Str.at' i (l,n,0)=(l,i+n,0):=rfl
theorem Str.at_err(i:Nat)(e:Int)(h:e≠0):Str.at' i ([],0,e)=([],0,e):=if_neg h
theorem Str.point_valid(l:List UInt8)(c n:Nat)(h:Str.point l=(c,n,0)):Utf8.valid c=true:=by
 unfold Str.point at h;split at h
 ·simp at h
 ·split at h
  ·simp at h
  ·next hh=>
   obtain⟨h1,h2⟩:=Yd h;subst h1;simp only[not_or]at hh;simpa using hh.2.2.2
theorem bqb(s:ByteArray)(i:Nat)(w:World)(hs:s.size≤2000000)(hi:i<s.size):
  Calls Tryz.prog 238 #[.string s,.int .i64 i] w fun e w'=>e=TripleEnd (Str.at' i (Str.esc1 (s.data.toList.drop (i+1))))∧Below w.heap.size w w':=by
 by_cases h0:s.size≤i+1
 ·have Hp:=kept (show Str.at' i (Str.esc1 (s.data.toList.drop (i+1)))=([],0,40) by rw[Zt (by simp;omega)];rfl);have h0':(s.size:Int)≤i+1:=by omega
  go_enter Tryz.func238,Tryz.ntmps238;go_wp2;refine bodyPost_ret (v:=.tuple #[.string ⟨#[]⟩,.int .i64 0,.int .i64 40]) (by simp[results,Tryz.results238,go_sem]) rfl ⟨by rw[Hp.out];rfl,Below.refl _ _⟩
 ·have hlt:i+1<s.size:=by omega
  have hlt':(i:Int)+1<s.size:=by omega
  have hd:s.data.toList.drop (i+1)=s[i+1]::s.data.toList.drop (i+2):=drop_cons s (i+1) hlt;have hex:s.extract (i+1) (i+2)=⟨#[s[i+1]]⟩:=byb s (i+1) hlt;go_enter Tryz.func238,Tryz.ntmps238;clear h0;by_cases h110:s[i+1]=110
  ·have Hp:=kept (show Str.at' i (Str.esc1 (s.data.toList.drop (i+1)))=([10],i+2,0) by rw[hd,h110];rfl);have hu:(s[i+1].toNat:Int)=110:=by rw[h110];rfl
   clear hd h110 hex;go_wp2;refine bodyPost_ret (v:=.tuple #[.string ⟨#[10]⟩,.int .i64 (i+2:Nat),.int .i64 0]) (by simp[results,Tryz.results238,go_sem]) rfl ⟨by rw[Hp.out];rfl,Below.refl _ _⟩
  have g110:=azr s[i+1] 110 (by decide) h110;by_cases h114:s[i+1]=114
  ·have Hp:=kept (show Str.at' i (Str.esc1 (s.data.toList.drop (i+1)))=([13],i+2,0) by rw[hd,h114];rfl);have hu:(s[i+1].toNat:Int)=114:=by rw[h114];rfl
   clear hd h110 h114 hex;go_wp2;refine bodyPost_ret (v:=.tuple #[.string ⟨#[13]⟩,.int .i64 (i+2:Nat),.int .i64 0]) (by simp[results,Tryz.results238,go_sem]) rfl ⟨by rw[Hp.out];rfl,Below.refl _ _⟩
  have g114:=azr s[i+1] 114 (by decide) h114;by_cases h116:s[i+1]=116
  ·have Hp:=kept (show Str.at' i (Str.esc1 (s.data.toList.drop (i+1)))=([9],i+2,0) by rw[hd,h116];rfl);have hu:(s[i+1].toNat:Int)=116:=by rw[h116];rfl
   clear hd h110 h114 h116 hex;go_wp2;refine bodyPost_ret (v:=.tuple #[.string ⟨#[9]⟩,.int .i64 (i+2:Nat),.int .i64 0]) (by simp[results,Tryz.results238,go_sem]) rfl ⟨by rw[Hp.out];rfl,Below.refl _ _⟩
  have g116:=azr s[i+1] 116 (by decide) h116;by_cases h34:s[i+1]=34
  ·have Hp:=kept (show Str.at' i (Str.esc1 (s.data.toList.drop (i+1)))=([34],i+2,0) by rw[hd,h34];rfl);have hu:(s[i+1].toNat:Int)=34:=by rw[h34];rfl
   rw[h34]at hex;clear hd h110 h114 h116 h34;go_wp2;refine bodyPost_ret (v:=.tuple #[.string ⟨#[34]⟩,.int .i64 (i+2:Nat),.int .i64 0]) (by simp[hex,results,Tryz.results238,go_sem]) rfl ⟨by rw[Hp.out];rfl,Below.refl _ _⟩
  have g34:=azr s[i+1] 34 (by decide) h34;by_cases h92:s[i+1]=92
  ·have Hp:=kept (show Str.at' i (Str.esc1 (s.data.toList.drop (i+1)))=([92],i+2,0) by rw[hd,h92];rfl);have hu:(s[i+1].toNat:Int)=92:=by rw[h92];rfl
   rw[h92]at hex;clear hd h110 h114 h116 h34 h92;go_wp2;refine bodyPost_ret (v:=.tuple #[.string ⟨#[92]⟩,.int .i64 (i+2:Nat),.int .i64 0]) (by simp[hex,results,Tryz.results238,go_sem]) rfl ⟨by rw[Hp.out];rfl,Below.refl _ _⟩
  have g92:=azr s[i+1] 92 (by decide) h92;by_cases h117:s[i+1]=117
  ·have He:=kept (show Str.escp (s.data.toList.drop (i+1))=_ by rw[hd,aqg,if_neg h110,if_neg h114,if_neg h116,if_neg (fun h=>h.elim h34 h92),if_pos h117]);have hu:(s[i+1].toNat:Int)=117:=by rw[h117];rfl
   clear hd h117 h110 g110 h114 g114 h116 g116 h34 g34 h92 g92 hex;by_cases h1:s.size≤i+2
   ·have Hp:=kept (show Str.at' i (Str.esc1 (s.data.toList.drop (i+1)))=([],0,40) by
     rw[Str.esc1_of (show Str.escp (s.data.toList.drop (i+1))=(0,0,40) by rw[He.out,Zt (by simp;omega)])];rfl)
    have h1':(s.size:Int)≤i+2:=by omega
    go_wp2;refine bodyPost_ret (v:=.tuple #[.string ⟨#[]⟩,.int .i64 0,.int .i64 40]) (by simp[results,Tryz.results238,go_sem]) rfl ⟨by rw[Hp.out];rfl,Below.refl _ _⟩
   ·have hlt1:i+2<s.size:=by omega
    have hlt1':(i:Int)+2<s.size:=by omega
    have hd1:s.data.toList.drop (i+2)=s[i+2]::s.data.toList.drop (i+3):=drop_cons s (i+2) hlt1;by_cases h123:s[i+2]=123
    ·obtain⟨⟨q1,q2,q3⟩,hq⟩:=Ex (Str.point (s.data.toList.drop (i+3)));have he:Str.escp (s.data.toList.drop (i+1))=(q1,q2+2,q3):=by rw[He.out,hd1];simp only;rw[if_pos h123,hq]
     have hv:(s[i+2].toNat:Int)=123:=by rw[h123];rfl
     have Hx:=kept (fun W=>bv6 s (i+3) q1 q2 q3 W hs (by omega) hq);rw[show((i+3:Nat):Int)=(i:Int)+3 by omega]at Hx;have hle:=czc (s.data.toList.drop (i+3));rw[hq]at hle;have h1:=Str.esc1_of he;by_cases hq3:q3=0
     ·subst hq3;have Hval:=kept (Str.point_valid _ _ _ hq);have Hp:=kept (show Str.at' i (Str.esc1 (s.data.toList.drop (i+1)))=(Str.enc q1,i+3+q2,0) by rw[h1,if_pos rfl,Str.at_ok];congr 2;omega);have Hen:=kept (fun W=>bjj q1 W Hval.out);rw[if_pos rfl]at Hx;clear hd1 h123 h1 hq hle he;go_wp2_with fail;(with_reducible refine(Hx.out _).mono ?_);rintro e w1 ⟨rfl,rfl⟩
      go_wp2_with fail;(with_reducible refine(Hen.out _).mono ?_);rintro e w2 ⟨rfl,b2⟩
      have B2:=kept b2;clear b2;go_wp2;refine bodyPost_ret (v:=.tuple #[.string ⟨(Str.enc q1).toArray⟩,.int .i64 (i+3+q2:Nat),.int .i64 0]) (by simp[results,Tryz.results238,go_sem]) rfl ⟨by rw[Hp.out];rfl,B2.out⟩
     ·have Hp:=kept (show Str.at' i (Str.esc1 (s.data.toList.drop (i+1)))=([],0,q3) by rw[h1,if_neg hq3,Str.at_err _ _ hq3]);rw[if_neg hq3]at Hx;have he1:(q3==0)=false:=by simpa using hq3
      have he2:(q3 !=0)=true:=by simpa using hq3
      clear hd1 h123 h1 hq hle he;go_wp2_with fail;(with_reducible refine(Hx.out _).mono ?_);rintro e w1 ⟨rfl,rfl⟩
      go_wp2;refine bodyPost_ret (v:=.tuple #[.string ⟨#[]⟩,.int .i64 0,.int .i64 q3]) (by simp[results,Tryz.results238,go_sem]) rfl ⟨by rw[Hp.out];rfl,Below.refl _ _⟩
    ·have Hp:=kept (show Str.at' i (Str.esc1 (s.data.toList.drop (i+1)))=([],0,2) by
      rw[Str.esc1_of (show Str.escp (s.data.toList.drop (i+1))=(0,0,2) by rw[He.out,hd1];exact if_neg h123)];rfl)
     have hv1:=azr s[i+2] 123 (by decide) h123;have hv2:((s[i+2].toNat:Int)!=123)=true:=by simpa using hv1
     clear hd1 h123 h1;go_wp2;refine bodyPost_ret (v:=.tuple #[.string ⟨#[]⟩,.int .i64 0,.int .i64 2]) (by simp[results,Tryz.results238,go_sem]) rfl ⟨by rw[Hp.out];rfl,Below.refl _ _⟩
  ·have Hp:=kept (show Str.at' i (Str.esc1 (s.data.toList.drop (i+1)))=([],0,2) by
    rw[Str.esc1_of (show Str.escp (s.data.toList.drop (i+1))=(0,0,2) by rw[hd,aqg,if_neg h110,if_neg h114,if_neg h116,if_neg (fun h=>h.elim h34 h92),if_neg h117])];rfl)
   have g117:=azr s[i+1] 117 (by decide) h117;clear hd h117 h110 h114 h116 h34 h92 hex;go_wp2;refine bodyPost_ret (v:=.tuple #[.string ⟨#[]⟩,.int .i64 0,.int .i64 2]) (by simp[results,Tryz.results238,go_sem]) rfl ⟨by rw[Hp.out];rfl,Below.refl _ _⟩
theorem Str.one_of_esc(l:List UInt8)(h:l.getD 0 0=92):Str.one l=Str.esc1 (l.drop 1):=by
 unfold Str.one Str.esc1;rw[if_pos h];by_cases hh:(Str.escp (l.drop 1)).2.2=0
 ·rw[if_neg (by simpa using hh),if_pos hh]
 ·rw[if_pos (by simpa using hh),if_neg hh]
theorem cq1(s:ByteArray)(i:Nat)(w:World)(hs:s.size≤2000000)(hi:i<s.size):
  Calls Tryz.prog 229 #[.string s,.int .i64 i] w fun e w'=>e=TripleEnd (Str.at' i (Str.one (s.data.toList.drop i)))∧Below w.heap.size w w':=by
 have hg:(s.data.toList.drop i).getD 0 0=s[i]:=by rw[drop_cons s i hi];rfl
 by_cases h92:s[i]=92
 ·have h1:=Str.one_of_esc (s.data.toList.drop i) (by rw[hg,h92]);rw[YI]at h1;rw[h1];obtain⟨q,hq⟩:=Ex (Str.at' i (Str.esc1 (s.data.toList.drop (i+1))));have Hx:=kept (fun W=>bqb s i W hs hi);rw[hq]at Hx⊢;obtain⟨q1,q2,q3⟩:=q;have hu:(s[i].toNat:Int)=92:=by rw[h92];rfl
  clear h1 hq hg h92;go_enter Tryz.func229,Tryz.ntmps229;go_wp2_with fail;(with_reducible refine(Hx.out _).mono ?_);rintro e w1 ⟨rfl,b1⟩
  have B1:=kept b1;clear b1;unfold TripleEnd;go_wp2;refine bodyPost_ret (v:=.tuple #[.string ⟨q1.toArray⟩,.int .i64 q2,.int .i64 q3]) (by simp[results,Tryz.results229,go_sem]) rfl ⟨rfl,B1.out⟩
 ·have g92:=azr s[i] 92 (by decide) h92;have hne:(s.data.toList.drop i)≠[]:=by rw[drop_cons s i hi];simp
  have hwd:=Str.dec_width s i hi;rcases Str.refDec_cases s i hi with⟨hb,he⟩|⟨hb,he⟩
  ·have Hp:=kept (show Str.at' i (Str.one (s.data.toList.drop i))=([],0,2) by
    unfold Str.one
    rw[if_neg (by rw[hg];exact h92),if_pos (.inl (by rw[Str.decL];exact hb))];rfl)
   have He:=kept he;clear hb he hg h92 hne hwd;go_enter Tryz.func229,Tryz.ntmps229;go_wp2_with fail;(with_reducible refine(aqp _ _ 0 0 _ (by omega) He.out).mono ?_);rintro e w1 ⟨rfl,b1⟩
   have B1:=kept b1;clear b1;go_wp2;refine bodyPost_ret (v:=.tuple #[.string ⟨#[]⟩,.int .i64 0,.int .i64 2]) (by simp[results,Tryz.results229,go_sem]) rfl ⟨by rw[Hp.out];rfl,B1.out⟩
  ·obtain⟨⟨c,n⟩,hd⟩:=Ex (Utf8.decode s i);rw[hd]at he hb hwd;have He:=kept he;have hw1:1≤n:=hwd.1;have hw2:i+n≤s.size:=hwd.2;have hw2':(i:Int)+n≤s.size:=by omega
   have hnz1:((n:Int)==0)=false:=by simp;omega
   have hnz2:¬(n:Int)=0:=by omega
   obtain⟨u,hu⟩:∃u:Int,(s[i].toNat:Int)=u:=⟨_,rfl⟩;have hone:∀hh:¬(u<32∨u=127),Str.at' i (Str.one (s.data.toList.drop i))=((s.data.toList.drop i).take n,i+n,0):=by
    intro hh;unfold Str.one;rw[if_neg (by rw[hg];exact h92),if_neg ?_,Str.decL,hd]
    ·rfl
    ·rw[Str.decL,hd,hg];rintro(h|h|h)
     ·exact hb h
     ·rw[Yu]at h;have:s[i].toNat<32:=h;omega
     ·rw[h]at hu;exact hh (.inr hu.symm)
   have hbad:(u<32∨u=127)→Str.at' i (Str.one (s.data.toList.drop i))=([],0,2):=by
    intro hh;unfold Str.one;rw[if_neg (by rw[hg];exact h92),if_pos ?_]
    ·rfl
    ·rw[hg];right
     rcases hh with h|h
     ·left;rw[Yu];show s[i].toNat<32;omega
     ·right;rw[←Ym];show s[i].toNat=127;omega
   have hxt:s.extract i (i+n)=⟨((s.data.toList.drop i).take n).toArray⟩:=by
    refine cvz ?_;simp only[ByteArray.data_extract,Array.toList_extract,List.extract_eq_take_drop];congr 1;omega
   have Hone:=kept hone;have Hbad:=kept hbad;clear hb he hg h92 hne hwd hone hbad hd hw2;rw[hu]at g92;by_cases h32:u<32
   ·have Hp:=kept (Hbad.out (.inl h32));clear hxt;go_enter Tryz.func229,Tryz.ntmps229;go_wp2_with fail;(with_reducible refine(aqp _ _ c n _ (by omega) He.out).mono ?_);rintro e w1 ⟨rfl,b1⟩
    have B1:=kept b1;clear b1;go_wp2;refine bodyPost_ret (v:=.tuple #[.string ⟨#[]⟩,.int .i64 0,.int .i64 2]) (by simp[results,Tryz.results229,go_sem]) rfl ⟨by rw[Hp.out];rfl,B1.out⟩
   ·by_cases h127:u=127
    ·have Hp:=kept (Hbad.out (.inr h127));have h127a:(u==127)=true:=by simpa using h127
     clear hxt h127;go_enter Tryz.func229,Tryz.ntmps229;go_wp2_with fail;(with_reducible refine(aqp _ _ c n _ (by omega) He.out).mono ?_);rintro e w1 ⟨rfl,b1⟩
     have B1:=kept b1;clear b1;go_wp2;refine bodyPost_ret (v:=.tuple #[.string ⟨#[]⟩,.int .i64 0,.int .i64 2]) (by simp[results,Tryz.results229,go_sem]) rfl ⟨by rw[Hp.out];rfl,B1.out⟩
    ·have Hp:=kept (Hone.out (by omega));have h127a:(u==127)=false:=by simpa using h127
     generalize (s.data.toList.drop i).take n=t at *;go_enter Tryz.func229,Tryz.ntmps229;go_wp2_with fail;(with_reducible refine(aqp _ _ c n _ (by omega) He.out).mono ?_);rintro e w1 ⟨rfl,b1⟩
     have B1:=kept b1;clear b1;go_wp2;refine bodyPost_ret (v:=.tuple #[.string ⟨t.toArray⟩,.int .i64 (i+n:Nat),.int .i64 0]) (by simp[hxt,results,Tryz.results229,go_sem]) rfl ⟨by rw[Hp.out];rfl,B1.out⟩
theorem Str.one_len(s:ByteArray)(k:Nat)(hk:k<s.size)(b:List UInt8)(n:Nat)(h:Str.one (s.data.toList.drop k)=(b,n,(0:Int))):1≤n∧k+n≤s.size∧b.length≤4:=by
 have hlen:(s.data.toList.drop k).length=s.size-k:=by simp
 unfold Str.one at h;split at h
 ·split at h
  ·next hh=>
   exfalso
   have:=congrArg (fun r=>r.2.2) h;simp only at this;exact hh this
  ·next hh=>
   have hl:=Str.escp_len ((s.data.toList.drop k).drop 1) (by simpa using hh);obtain⟨rfl,h2⟩:=Yd h;obtain⟨rfl,_⟩:=Yd h2;have:=(Str.enc_length (Str.escp ((s.data.toList.drop k).drop 1)).1).2;rw[Zo,hlen]at hl;exact⟨by omega,by omega,this⟩
 ·split at h
  ·simp at h
  ·next hh=>
   have hwd:=Str.dec_width s k hk;rw[←Str.decL]at hwd;have hd4:(Lib.decodeL (s.data.toList.drop k)).2≤4:=by
    rw[Lib.decodeL_N];rcases Lib.decodeN_shape (s.data.toList.drop k).length ((s.data.toList.drop k).getD 0 0).toNat ((s.data.toList.drop k).getD 1 0).toNat ((s.data.toList.drop k).getD 2 0).toNat ((s.data.toList.drop k).getD 3 0).toNat with⟨c,e⟩|⟨c1,c2,c3,cv,e⟩|⟨c1,c2,c3,c4,cv,cs,e⟩|⟨c1,c2,c3,c4,c5,cv,cw,e⟩|e;all_goals rw[e];simp
   obtain⟨rfl,h2⟩:=Yd h;obtain⟨rfl,_⟩:=Yd h2;refine⟨hwd.1,hwd.2,?_⟩;rw[Zk];omega
theorem bki(l:List UInt8)(n:Nat)(e:Int):TripleEnd (l,n,e)=.returned (.tuple #[.string ⟨l.toArray⟩,.int .i64 n,.int .i64 e]):=rfl
theorem bz1(s:ByteArray)(w:World)(hs:s.size≤2000000):
  Calls Tryz.prog 211 #[.string s] w fun e w'=>e=TripleEnd (Str.unquote s.data.toList)∧Below w.heap.size w w':=by
 obtain⟨U,hU⟩:=Ex (Str.unquote s.data.toList);rw[hU];by_cases h0:s.size=0
 ·have hs:s=⟨#[]⟩:=by
   apply ByteArray.ext;exact Array.eq_empty_of_size_eq_zero h0
  subst hs;have HU:=kept (show(([],0,40):List UInt8×Nat×Int)=U from hU);clear hU;go_enter Tryz.func211,Tryz.ntmps211;go_wp2;refine bodyPost_ret (v:=.tuple #[.string ⟨#[]⟩,.int .i64 0,.int .i64 40]) (by simp[results,Tryz.results211,go_sem]) rfl ⟨by rw[←HU.out];rfl,Below.refl _ _⟩
 ·have hlt:0<s.size:=by omega
  have hd:s.data.toList=s[0]::s.data.toList.drop 1:=by have:=drop_cons s 0 hlt;simpa using this
  have hne:s.data.toList≠[]:=by rw[hd];simp
  have hg0:s.data.toList.getD 0 0=s[0]:=by rw[hd];rfl
  have h00:((s.size:Int)==0)=false:=by rw[Zw];omega
  unfold Str.unquote at hU;rw[if_neg hne,hg0]at hU;clear h0 hd hne hg0;by_cases h34:s[0]=34
  ·rw[if_neg (by simpa using h34)]at hU;have HU:=kept hU;have hu:(s[0].toNat:Int)=34:=by rw[h34];rfl
   clear hU h34;go_enter Tryz.func211,Tryz.ntmps211;go_wp2
   go_loopw [5,6] (fun ov av wr=>Below w.heap.size w wr∧∃(k f:Nat) (acc:List UInt8),1≤k∧k≤s.size∧av=.int .i64 k∧ov=.string ⟨acc.toArray⟩∧s.size-k<f∧acc.length≤4*k∧Str.unq f (s.data.toList.drop k) acc k=U) (fun _ av _=>s.size-(intOf av).toNat)
   case atStart=>exact⟨Below.refl _ _,1,s.data.toList.length,[],by omega,by omega,rfl,rfl,by simp;omega,by simp,HU.out⟩
   case round=>
    obtain⟨hbel,k,f,acc,hk1,hk,rfl,rfl,hf,hacc,hun⟩:=hrel;have Hl:=kept hbel;clear hbel;obtain⟨f,rfl⟩:∃f',f=f'+1:=⟨f-1,by omega⟩;by_cases hend:k=s.size
    ·subst hend;rw[Zt (by simp),Str.unq_nil]at hun;subst hun;clear hacc hf;go_wp2;refine bodyPost_ret (v:=.tuple #[.string ⟨#[]⟩,.int .i64 0,.int .i64 40]) (by simp[results,Tryz.results211,go_sem]) rfl ⟨rfl,Hl.out⟩
    ·have hkl:k<s.size:=by omega
     have hkl':(k:Int)<s.size:=by omega
     have hne:s.data.toList.drop k≠[]:=by rw[drop_cons s k hkl];simp
     have hgk:(s.data.toList.drop k).getD 0 0=s[k]:=by rw[drop_cons s k hkl];rfl
     by_cases h34k:s[k]=34
     ·rw[Str.unq_quote _ _ _ _ hne (by rw[hgk];exact h34k)]at hun;have hv:(s[k].toNat:Int)=34:=by rw[h34k];rfl
      have hsz:=size_mk acc;clear hne hgk h34k hf;by_cases hbig:4096<acc.length
      ·rw[if_pos hbig]at hun;subst hun;have hbig':(4096:Int)<acc.length:=by omega
       clear hbig hacc hend;go_wp2;refine bodyPost_ret (v:=.tuple #[.string ⟨#[]⟩,.int .i64 0,.int .i64 3]) (by simp[results,Tryz.results211,go_sem]) rfl ⟨rfl,Hl.out⟩
      ·rw[if_neg hbig]at hun;subst hun;have hbig':¬(4096:Int)<acc.length:=by omega
       clear hbig hacc hend;go_wp2;refine bodyPost_ret (v:=.tuple #[.string ⟨acc.toArray⟩,.int .i64 (k+1:Nat),.int .i64 0]) (by simp[results,Tryz.results211,go_sem]) rfl ⟨rfl,Hl.out⟩
     ·have hvk1:=azr s[k] 34 (by decide) h34k;rw[←hgk]at h34k;obtain⟨⟨b,n,e0⟩,ho⟩:=Ex (Str.one (s.data.toList.drop k));have Hx:=kept (fun W=>cq1 s k W hs hkl);by_cases he0:e0=0
      ·subst he0;have hln:=Str.one_len s k hkl b n ho;rw[Str.unq_step _ _ _ _ _ _ hne h34k ho,YI]at hun;rw[ho,Str.at_ok,bki]at Hx;have Hun:=kept hun;obtain⟨r,hr⟩:=Ex (acc++b);have hcat:=fun W=>axj (P:=Tryz.prog) W (a:=⟨acc.toArray⟩) (b:=⟨b.toArray⟩) (l:=acc) (m:=b) rfl rfl hr (by rw[←hr,Zb];omega)
       have Hr:=kept hr;have hln1:1≤n:=hln.1;have hln2:k+n≤s.size:=hln.2.1;have Hln3:=kept (show r.length≤4*(k+n) by rw[←hr,Zb];omega);clear hne hgk h34k hun ho hr hln hacc;go_wp2_with fail;refine(Hx.out _).mono ?_;rintro e w1 ⟨rfl,b1⟩;have B1:=kept (bthen Hl.out b1);clear b1;go_wp2
       go_roundw
       case rel=>exact⟨B1.out,k+n,f,r,by omega,by omega,by go_num,rfl,by omega,Hln3.out,by rw[←Hr.out];exact Hun.out⟩
       case measure=>simp[intOf];omega
      ·rw[Str.unq_err _ _ _ _ _ _ _ hne h34k ho he0]at hun;subst hun;have hob:b=[]∧n=0:=by
        have h:=ho;unfold Str.one at h;split at h
        ·split at h
         ·obtain⟨rfl,h2⟩:=Yd h;obtain⟨rfl,_⟩:=Yd h2;exact⟨rfl,rfl⟩
         ·exact absurd (Yd (Yd h).2).2.symm he0
        ·split at h
         ·obtain⟨rfl,h2⟩:=Yd h;obtain⟨rfl,_⟩:=Yd h2;exact⟨rfl,rfl⟩
         ·exact absurd (Yd (Yd h).2).2.symm he0
       obtain⟨rfl,rfl⟩:=hob;rw[ho,Str.at_err _ _ he0,bki]at Hx;have he1:(e0==0)=false:=by simpa using he0
       have he2:(e0 !=0)=true:=by simpa using he0
       clear hne hgk h34k hf hacc ho;go_wp2_with fail;refine(Hx.out _).mono ?_;rintro e w1 ⟨rfl,b1⟩;have B1:=kept (bthen Hl.out b1);clear b1;go_wp2;refine bodyPost_ret (v:=.tuple #[.string ⟨#[]⟩,.int .i64 0,.int .i64 e0]) (by simp[results,Tryz.results211,go_sem]) rfl ⟨rfl,B1.out⟩
  ·rw[if_pos h34]at hU;have HU:=kept hU;have g34:=azr s[0] 34 (by decide) h34;have g34':((s[0].toNat:Int)!=34)=true:=by simpa using g34
   clear h34 hU;go_enter Tryz.func211,Tryz.ntmps211;go_wp2;refine bodyPost_ret (v:=.tuple #[.string ⟨#[]⟩,.int .i64 0,.int .i64 2]) (by simp[results,Tryz.results211,go_sem]) rfl ⟨by rw[←HU.out];rfl,Below.refl _ _⟩
end Go.Proofs.YtnghhnahdjjpkaaGreatDoor
