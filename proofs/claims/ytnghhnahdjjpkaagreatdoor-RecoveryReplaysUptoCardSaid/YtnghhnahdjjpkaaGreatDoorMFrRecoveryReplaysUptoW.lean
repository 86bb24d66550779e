/- Part of what the proof needs. -/
import Derived.Test.YtnghhnahdjjpkaaGreatDoorMFrRecoveryReplaysUpto0
import Derived.Test.YtnghhnahdjjpkaaGreatDoorMFrRecoveryReplaysUptoO
import Derived.Test.YtnghhnahdjjpkaaGreatDoorMFrRecoveryReplaysUptoP
import Derived.Test.YtnghhnahdjjpkaaGreatDoorMFrRecoveryReplaysUptoQ
import Derived.Test.YtnghhnahdjjpkaaGreatDoorMFrRecoveryReplaysUptoV
set_option maxHeartbeats 4000000
set_option maxRecDepth 100000
set_option linter.all false
namespace Go.Proofs.YtnghhnahdjjpkaaGreatDoor
open Go.RowKit
namespace AX
def bk4:AX.AFn:=⟨33,aS [aR 1 (.box 103 (.t 0)),aR 2 (.mv (.c (.bool false)))] (.seq (aS [aF 3 0 1,aL 4 3,aR 5 (.bin .eql (.t 4) (aI 1))] (.cond (.t 5) (aS [aF 6 1 1,aL 7 6,aR 8 (.bin .geq (.t 7) (aI 0)),aM 9 8,aG 10 (.faddr 1 (.t 1)) 9 true,aG 11 (.load false 1 (.t 10)) 9 true,aG 12 (.bin .leq (.t 11) (aI 9007199254740992)) 9 true,aR 13 (.pick (.t 9) (.t 12) (.c (.bool false))),aM 14 13,aG 15 (.faddr 2 (.t 1)) 14 true,aG 16 (.load false 1 (.t 15)) 14 true,aG 17 (.bin .eql (.t 16) (.c (.str []))) 14 true,aR 18 (.pick (.t 14) (.t 17) (.c (.bool false))),aM 2 18] (.ret)) (.skip))) (.seq (aS [aF 19 0 1,aL 20 19,aR 21 (.bin .eql (.t 20) (aI 2))] (.cond (.t 21) (aS [aF 22 1 1,aL 23 22,aR 24 (.bin .eql (.t 23) (aI 0)),aM 25 24,aG 26 (.faddr 2 (.t 1)) 25 true,aG 27 (.load false 1 (.t 26)) 25 true,aG 28 (.call 80 [.t 27]) 25 true,aR 29 (.pick (.t 25) (.t 28) (.c (.bool false))),aM 2 29] (.ret)) (.skip))) (aS [aR 30 (.load true 3 (.t 1)),aR 31 (.build [.int .i64 0,.int .i64 0,.str []] []),aR 32 (.eq 2 [0,0,1] false (.t 30) (.t 31)),aM 2 32] (.ret)))),[.t 2]⟩
theorem dvd:AX.compFn Tryz.prog 213=some bk4:=by kernel_rfl
def av5:AX.AFn:=⟨24,aS [aR 1 (.box 103 (.t 0)),aR 2 (.mv (.c (.str [])))] (.seq (aS [aR 3 (.load true 3 (.t 1)),aR 4 (.call 213 [.t 3]),aR 5 (.un .not (.t 4)),aM 6 5,aG 7 (.faddr 0 (.t 1)) 6 false,aG 8 (.load false 1 (.t 7)) 6 false,aG 9 (.bin .eql (.t 8) (aI 0)) 6 false,aR 10 (.pick (.t 6) (.c (.bool true)) (.t 9))] (.cond (.t 10) (aS [aR 2 (.mv (.c (.str [])))] (.ret)) (.skip))) (.seq (aS [aF 11 0 1,aL 12 11,aR 13 (.bin .eql (.t 12) (aI 1))] (.cond (.t 13) (aS [aF 14 1 1,aL 15 14,aR 16 (.call 231 [.t 15]),aR 17 (.bin .add (.c (.str [91])) (.t 16)),aR 18 (.bin .add (.t 17) (.c (.str [93]))),aM 2 18] (.ret)) (.skip))) (aS [aF 19 2 1,aL 20 19,aR 21 (.call 212 [.t 20]),aR 22 (.bin .add (.c (.str [91])) (.t 21)),aR 23 (.bin .add (.t 22) (.c (.str [93]))),aM 2 23] (.ret)))),[.t 2]⟩
theorem cxw:AX.compFn Tryz.prog 216=some av5:=by kernel_rfl
def bxs:AX.AFn:=⟨30,aS [aR 2 (.alloc 135 [.str [],.int .i64 0,.int .i64 0,.str []]),aR 3 (.mv (.c (.str []))),aR 4 (.mv (.c (.bool false)))] (aS [aM 10 0,aR 11 (.ssl (.t 10) (some (aI 7)) none),aR 12 (.call 187 [.t 11]),aM 9 12,aE 13 9 0,aE 14 9 1,aM 5 13,aM 6 14] (aS [aM 16 6,aR 17 (.call 189 [.t 16]),aM 15 17,aE 18 15 0,aE 19 15 1,aE 20 15 2,aR 7 (.alloc 103 [.int .i64 0,.int .i64 0,.str []]),aU (.store 3 (.t 7) (.t 18)),aM 6 19,aM 8 20] (.seq (.reg true [aM 21 5,aR 22 (.load true 3 (.t 7)),⟨some 23,.build [.str [],.int .i64 0,.int .i64 0,.str []] [(0,1,.t 21),(1,3,.t 22)],none,[0,1]⟩,aM 24 6,aM 25 8,⟨some 26,.mv (.t 25),none,[4]⟩,⟨some 27,.mv (.t 5),some (26,true),[5]⟩,⟨some 28,.call 130 [.t 27],some (26,true),[6,5,5]⟩,⟨some 29,.pick (.t 26) (.t 28) (.c (.bool false)),none,[5,7]⟩,⟨none,.store 4 (.t 2) (.t 23),none,[2,7,0,1,2]⟩,⟨some 3,.mv (.t 24),none,[3,9,0,1,2,3,9]⟩,⟨some 4,.mv (.t 29),none,[8,10,0,1,2,3,4,5,6,7,8,9,10]⟩]) (.ret)))),[.c 2 true 4,.t 3,.t 4]⟩
theorem cyd:AX.compFn Tryz.prog 186=some bxs:=by kernel_rfl
theorem byk(s:List UInt8)(hs:s.length≤2000000)(h:Hp):AT 211 [.str s] h (.tup [.str (Str.unquote s).1,.int .i64 (Str.unquote s).2.1,.int .i64 (Str.unquote s).2.2]):=
 azx (av9 ajr) (fun w hg=>bz1 ⟨s.toArray⟩ w (by rw[size_mk];exact hs)) (fun C=>rep_tup.2 ⟨_,rfl,repL_cons.2 ⟨_,_,rfl,rep_str.2 rfl,repL_cons.2 ⟨_,_,rfl,rep_int.2 rfl,repL_cons.2 ⟨_,_,rfl,rep_int.2 rfl,repL_nil.2 rfl⟩⟩⟩⟩) h
theorem cv1(s:List UInt8)(hs:s.length≤2000000)(h:Hp):AT 212 [.str s] h (.str (Str.quote s)):=
 azx (av9 ajr) (fun w hg=>bkf ⟨s.toArray⟩ w (by rw[size_mk];exact hs)) (fun C=>rep_str.2 rfl) h
theorem dxe(k:Adr.K):(k==Adr.K.none)=((k.kind==0)&&((k.num==0)&&(k.str == []))):=by
 obtain⟨a,b,c⟩:=k;unfold Adr.K.none;rw[Z4,ZC,Zf,Zf,ZC,ZC,ZC];simp
theorem bxi(k:Adr.K)(hk:k.str.length≤2000000)(h:Hp):AT 213 [.agg [.int .i64 k.kind,.int .i64 k.num,.str k.str]] h (.bool (Adr.keyOk k)):=by
 have hv:=bqo k.str hk;refine pcall ?_ rfl (by simp[A.pure,A.data]) h;refine azb mixedT dvd (by simp[bk4]) ?_;dsimp only[bk4];unfold Adr.keyOk;rw[dxe];obtain⟨kd,num,str⟩:=k;dsimp only at hv⊢;by_cases h1:kd=1
 ·subst h1;refine azc ti ti ?_;refine⟨_,le_refl _,?_⟩;rw[azn,if_pos rfl]
 have e1:(kd==1)=false:=by simp[h1]
 rw[if_neg h1];by_cases h2:kd=2
 ·subst h2;refine azc ti (ai hv ti) ?_;exact Fn rfl
 have e2:(kd==2)=false:=by simp[h2]
 rw[if_neg h2];have eq:eqCells [0,0,1] [.int .i64 kd,.int .i64 num,.str str] [.int .i64 0,.int .i64 0,.str []]=some ((kd==0)&&((num==0)&&(str == []))):=by simp[eqCells]
 refine azc (ai e1 (ai e2 eq)) ti ?_;exact Fn rfl
theorem ay1(h:Hp):AT 216 [.agg [.int .i64 0,.int .i64 0,.str []]] h (.str []):=by
 refine pcall ?_ rfl (by simp[A.pure,A.data]) h;refine azb mixedT cxw (by simp[av5]) ?_;dsimp only[av5];have ck:=bxi Adr.K.none (by decide);rw[show Adr.keyOk Adr.K.none=true by decide]at ck;dsimp only[Adr.K.none]at ck;refine azc ti (ai ck ti) ?_;exact Fn rfl
def keyR(s:List UInt8):Adr.K×List UInt8×Bool:=match Adr.key s with
 |none=>(Adr.K.none,[],false)
 |some (k,r)=>(k,r,true)
def keyT(r:Adr.K×List UInt8×Bool):A:=.tup [.agg [.int .i64 r.1.kind,.int .i64 r.1.num,.str r.1.str],.str r.2.1,.bool r.2.2]
theorem dj5(c:UInt8):(decide ((c.toNat:Int)≥48)&&decide ((c.toNat:Int)≤57))=Num.digB c:=by
 unfold Num.digB;have e1:decide ((c.toNat:Int)≥48)=decide (48≤c.toNat):=by rw[decide_eq_decide];omega
 have e2:decide ((c.toNat:Int)≤57)=decide (c.toNat≤57):=by rw[decide_eq_decide];omega
 rw[e1,e2]
theorem cz8(c:UInt8)(n:Nat)(hn:n<256):((c.toNat:Int)==(n:Int))=(c==UInt8.ofNat n):=by
 rw[Z4,ZC,ZC,←Ym,Yz];omega
theorem avi(c:UInt8)(n:Nat)(hn:n<256):((c.toNat:Int)!=(n:Int))=(c !=UInt8.ofNat n):=by
 show(!((c.toNat:Int)==(n:Int)))=!(c==UInt8.ofNat n)
 rw[cz8 c n hn]
theorem cj6(s:List UInt8)(hl:s.length≤2000000)(h:Hp):AT 189 [.str s] h (keyT (keyR s)):=by
 obtain⟨q,hq⟩:=Ex (keyR s);rw[hq];unfold keyR at hq;refine pcall ?_ (by unfold keyT;rfl) (by simp[A.pure,A.data]) h;refine fo ?_;by_cases h1:s.getD 0 0=91
 rotate_left
 ·have hk:Adr.key s=some (Adr.K.none,s):=by unfold Adr.key;rw[if_pos h1]
  rw[hk]at hq;subst hq;cases s with
  |nil=>
   refine azc ti ti ?_;exact Fn rfl
  |cons c t=>
   have e0:((c::t)==([]:List UInt8))=false∧(0:Int)<((t.length+1:Nat):Int)∧((c.toNat:Int)!=91)=true:=⟨rfl,by omega,by
    have:=avi c 91 (by decide);rw[ZZ]at h1;rw[show((91:Nat):Int)=91 from rfl]at this
    rw[this];simpa using h1⟩
   refine azc e0 ti ?_;exact Fn rfl
 cases s with
 |nil=>simp at h1
 |cons c t=>
 rw[ZZ]at h1;subst h1;have hl' : t.length + 1 ≤ 2000000 := hl;have e0 : (((91 : UInt8) :: t)==([]: List UInt8)) = false ∧ (0 : Int)<((t.length + 1 : Nat): Int) ∧ (((91 : UInt8).toNat : Int)!=91) = false ∧ (0 : Int) ≤ 1 ∧ (1 : Int) ≤ ((t.length + 1 : Nat): Int) ∧ Int.toNat 1 = 1 := ⟨rfl, by omega, rfl, by omega, by omega, rfl⟩;have hk0 : Adr.key (91 :: t) = if 1<(91 :: t).length ∧ (91 :: t).getD 1 0 = 34 then
  (let u := Str.unquote ((91 :: t).drop 1)
   let k : Adr.K := ⟨2, 0, u.1⟩
   if u.2.2 ≠ 0 ∨ (91 :: t).length ≤ u.2.1 + 1 ∨ (91 :: t).getD (u.2.1 + 1) 0 ≠ 93 ∨ ((91 :: t).take (u.2.1 + 1)).drop 1 ≠ Str.quote u.1 ∨ Adr.keyOk k = false then Option.none
   else some (k, (91 :: t).drop (u.2.1 + 2)))
 else
  (let d := ((91 :: t).drop 1).takeWhile Num.digB
   let x := Num.parse d
   if x.2 ≠ 0 ∨ (91 :: t).length ≤ d.length + 1 ∨ (91 :: t).getD (d.length + 1) 0 ≠ 93 then Option.none
   else some (⟨1, x.1, []⟩, (91 :: t).drop (d.length + 2))) := by unfold Adr.key;rw[if_neg (by simp)]
 simp only[Z5,YA,ZX,Z8,Zi]at hk0;by_cases h2:0<t.length∧t.getD 0 0=34
 ·rw[if_pos ⟨by omega,h2.2⟩]at hk0;obtain⟨h3,h4⟩:=h2;have e1:((t.length+1:Nat):Int)>1∧(1:Int)<((t.length+1:Nat):Int)∧(((91:UInt8)::t).getD 1 0)=34∧(((34:UInt8).toNat:Int)==34)=true:=⟨by omega,by omega,by rw[ZX];exact h4,rfl⟩;have cu:=byk t (by omega);have hwd:=Str.unquote_width t;have huv:=Str.unquote_valid t;obtain⟨⟨x,n,e⟩,hu⟩:=Ex (Str.unquote t);rw[hu]at cu hk0 hwd huv;dsimp only at cu hk0 hwd huv;by_cases g1:e=0
  rotate_left
  ·have f1:(e !=0)=true:=by simp[g1]
   rw[if_pos (.inl g1)]at hk0;rw[hk0]at hq;subst hq;refine azc (ai e0 (ai e1 f1)) (ai cu ti) ?_;exact Fn rfl
  subst g1;have hn:=hwd rfl;have hxl:x.length≤2000000:=by
   have:=huv rfl;unfold Str.valid at this;rw[Zf,ZD]at this;omega
  have cq:=cv1 x hxl;have ck:=bxi ⟨2,0,x⟩ hxl;have w1:IntKind.i64.wrap ((n:Int)+1)=((n+1:Nat):Int)∧IntKind.i64.wrap ((n:Int)+2)=((n+2:Nat):Int):=⟨i80 (by omega),by rw[wrap64 (by omega) (by omega)];omega⟩;by_cases g2:t.length+1≤n+1
  ·have f2:((n+1:Nat):Int)≥((t.length+1:Nat):Int):=by omega
   rw[if_pos (.inr (.inl g2))]at hk0;rw[hk0]at hq;subst hq;refine azc (ai e0 (ai e1 (ai w1 f2))) (ai cu ti) ?_;exact Fn rfl
  have f2:¬((n+1:Nat):Int)≥((t.length+1:Nat):Int)∧((n+1:Nat):Int)<((t.length+1:Nat):Int)∧(0:Int)≤((n+1:Nat):Int)∧(1:Int)≤((n+1:Nat):Int)∧((n+1:Nat):Int)≤((t.length+1:Nat):Int):=⟨by omega,by omega,by omega,by omega,by omega⟩;obtain⟨c,hc⟩:=Ex (t.getD n 0);have hcn:=avi c 93 (by decide);rw[show((93:Nat):Int)=93 from rfl,show UInt8.ofNat 93=93 from rfl]at hcn;rw[hc]at hk0;by_cases g3:c=93
  rotate_left
  ·have f3:(c !=93)=true:=by simp[g3]
   rw[if_pos (.inr (.inr (.inl g3)))]at hk0;rw[hk0]at hq;subst hq;refine azc (ai e0 (ai e1 (ai w1 (ai f2 (ai hc (ai hcn f3)))))) (ai cu ti) ?_;exact Fn rfl
  have f3:(c !=93)=false:=by simp[g3]
  by_cases g4:t.take n=Str.quote x
  rotate_left
  ·have f4:(t.take n !=Str.quote x)=true:=by simp[g4]
   rw[if_pos (.inr (.inr (.inr (.inl g4))))]at hk0;rw[hk0]at hq;subst hq;refine azc (ai e0 (ai e1 (ai w1 (ai f2 (ai hc (ai hcn (ai f3 f4))))))) (ai cu (ai cq ti)) ?_;exact Fn rfl
  have f4:(t.take n !=Str.quote x)=false:=by simp[g4]
  dsimp only at ck;cases g5:Adr.keyOk ⟨2,0,x⟩with
  |false=>
   rw[g5]at ck;rw[if_pos (.inr (.inr (.inr (.inr g5))))]at hk0;rw[hk0]at hq;subst hq;refine azc (ai e0 (ai e1 (ai w1 (ai f2 (ai hc (ai hcn (ai f3 f4))))))) (ai cu (ai cq (ai ck ti))) ?_;exact Fn rfl
  |true=>
   rw[g5]at ck;rw[if_neg (by rintro(h|h|h|h|h);exact h rfl;exact g2 h;exact h g3;exact h g4;rw[g5]at h;cases h)]at hk0;rw[hk0]at hq;subst hq;have f6:(0:Int)≤((n+2:Nat):Int)∧((n+2:Nat):Int)≤((t.length+1:Nat):Int):=⟨by omega,by omega⟩;refine azc (ai e0 (ai e1 (ai w1 (ai f2 (ai hc (ai hcn (ai f3 (ai f4 f6)))))))) (ai cu (ai cq (ai ck ti))) ?_;exact Fn rfl
 rw[if_neg (fun h=>h2 ⟨by omega,h.2⟩)]at hk0;have e1:(decide (((t.length+1:Nat):Int)>1)&&((t.getD 0 0).toNat:Int)==34)=false:=by
  have hb:=cz8 (t.getD 0 0) 34 (by decide);rw[show((34:Nat):Int)=34 from rfl,show UInt8.ofNat 34=34 from rfl]at hb;rw[hb];by_cases h3:0<t.length
  ·have:(t.getD 0 0==34)=false:=by simpa using fun h=>h2 ⟨h3,h⟩
   rw[this,YY]
  ·have:decide (((t.length+1:Nat):Int)>1)=false:=by rw[YU];omega
   rw[this,Ye]
 refine azc (ai e0 e1) ti ?_;refine azd (fun m ts hh=>hh=⟨[.cells 103 [.int .i64 0,.int .i64 0,.str []]],[]⟩∧∃j:Nat,m=t.length-j∧j≤t.length∧(t.take j).all Num.digB=true∧(ts 0=.str (91::t)∧ts 2=.ptr 0 0∧ts 9=.int .i64 ((j+1:Nat):Int))) t.length ?_ ?_
 ·exact⟨rfl,0,rfl,Zq _,rfl,by(exact azo ti)⟩
 rintro m ts hh ⟨rfl,j,rfl,hj,hall,ht⟩;have hs:(0:Int)≤((j+1:Nat):Int)∧(1:Int)≤((j+1:Nat):Int)∧((j+1:Nat):Int)≤((t.length+1:Nat):Int)∧IntKind.i64.wrap (((j+1:Nat):Int)+1)=((j+1+1:Nat):Int):=⟨by omega,by omega,by omega,i80 (by omega)⟩;have fin:(j=t.length∨Num.digB (t.getD j 0)=false)→t.takeWhile Num.digB=t.take j∧(t.takeWhile Num.digB).length=j:=fun hc=>by
  obtain⟨k1,_⟩:=ava t j hj hall hc;rw[k1,Zk];exact⟨rfl,by omega⟩
 have hpl:(t.take j).length≤2000000:=by rw[Zk];omega
 have cp:=bvv (t.take j) hpl;rcases Zr j t.length with hlt|hge
 ·have hf:((j+1:Nat):Int)<((t.length+1:Nat):Int):=by omega
  obtain⟨c,hc⟩:=Ex (t.getD j 0);have hcc:t[j]=c:=by rw[←hc];simp[List.getD,hlt]
  have hw:=dj5 c;cases hB:Num.digB c with
  |true=>
   rw[hB,Zf]at hw;have hw':=hw;refine azc (ai ht (ai hs (ai hf (ai hc hw)))) ti ?_;refine⟨_,?_,rfl,j+1,rfl,by omega,?_,by(exact azo (ai ht (ai hs hf)))⟩
   ·omega
   ·rw[Yo hlt,List.all_append,hall,hcc];simp[hB]
  |false=>
   rw[hB]at hw;obtain⟨k1,k2⟩:=fin (.inr (by rw[hc];exact hB));rw[k2,k1]at hk0;have hcn:=avi c 93 (by decide);rw[show((93:Nat):Int)=93 from rfl,show UInt8.ofNat 93=93 from rfl]at hcn;obtain⟨⟨x,e⟩,hx⟩:=Ex (Num.parse (t.take j));rw[hx]at hk0 cp;dsimp only at hk0 cp;rw[hc]at hk0;have hge:¬((j+1:Nat):Int)≥((t.length+1:Nat):Int):=by omega
   by_cases g1:e=0
   rotate_left
   ·have f1:(e !=0)=true:=by simp[g1]
    rw[if_pos (.inl g1)]at hk0;rw[hk0]at hq;subst hq;refine azc (ai ht (ai hs (ai hf (ai hc (ai hw f1))))) (ai cp ti) ?_;exact Fn rfl
   have f1:(e !=0)=false:=by simp[g1]
   by_cases g2:c=93
   rotate_left
   ·have f2:(c !=93)=true:=by simp[g2]
    rw[if_pos (.inr (.inr g2))]at hk0;rw[hk0]at hq;subst hq;refine azc (ai ht (ai hs (ai hf (ai hc (ai hw (ai hge (ai hcn (ai f1 f2)))))))) (ai cp ti) ?_;exact Fn rfl
   have f2:(c !=93)=false:=by simp[g2]
   rw[if_neg (by rintro(h|h|h);exact h g1;omega;exact h g2)]at hk0;rw[hk0]at hq;subst hq;have f3:(0:Int)≤((j+1+1:Nat):Int)∧((j+1+1:Nat):Int)≤((t.length+1:Nat):Int):=⟨by omega,by omega⟩;refine azc (ai ht (ai hs (ai hf (ai hc (ai hw (ai hge (ai hcn (ai f1 (ai f2 f3))))))))) (ai cp ti) ?_;exact Fn rfl
 ·have hf:¬((j+1:Nat):Int)<((t.length+1:Nat):Int):=by omega
  obtain⟨k1,k2⟩:=fin (.inl (by omega));rw[k2,k1]at hk0;obtain⟨⟨x,e⟩,hx⟩:=Ex (Num.parse (t.take j));rw[hx]at hk0 cp;dsimp only at hk0 cp;rw[if_pos (.inr (.inl (by omega)))]at hk0;rw[hk0]at hq;subst hq;have hge:((j+1:Nat):Int)≥((t.length+1:Nat):Int):=by omega
  by_cases g1:e=0
  ·have f1:(e !=0)=false:=by simp[g1]
   refine azc (ai ht (ai hs (ai hf (ai hge f1)))) (ai cp ti) ?_;exact Fn rfl
  ·have f1:(e !=0)=true:=by simp[g1]
   refine azc (ai ht (ai hs (ai hf f1))) (ai cp ti) ?_;exact Fn rfl
def stepR(s:List UInt8):Adr.Step×List UInt8×Bool:=
 (⟨(s.drop 7).takeWhile Adr.wordB,(keyR ((s.drop 7).dropWhile Adr.wordB)).1⟩,(keyR ((s.drop 7).dropWhile Adr.wordB)).2.1,(keyR ((s.drop 7).dropWhile Adr.wordB)).2.2&&Adr.ident ((s.drop 7).takeWhile Adr.wordB))
theorem cyy(s:List UInt8)(hl:s.length≤2000000)(h7:7≤s.length)(h:Hp):AT 186 [.str s] h (.tup [.agg (stepR s).1.cells,.str (stepR s).2.1,.bool (stepR s).2.2]):=by
 have cw:=bx4 (s.drop 7) (by rw[Zo];omega);have w1:((s.drop 7).takeWhile Adr.wordB).length≤2000000:=Zs (List.takeWhile_prefix _).length_le (by rw[Zo];omega);have w2:((s.drop 7).dropWhile Adr.wordB).length≤2000000:=Zs (List.dropWhile_suffix _).length_le (by rw[Zo];omega);have ck:=cj6 _ w2;have ci:=aqs _ w1;unfold stepR;refine pcall ?_ rfl (by simp[A.pure,A.data]) h;obtain⟨W,hW⟩:=Ex ((s.drop 7).takeWhile Adr.wordB);obtain⟨R,hR⟩:=Ex ((s.drop 7).dropWhile Adr.wordB);rw[hW]at cw ci⊢;rw[hR]at cw ck⊢;obtain⟨⟨⟨a,b,d⟩,r,ok⟩,hk⟩:=Ex (keyR R);rw[hk]at ck⊢;unfold keyT at ck;dsimp only at ck⊢;dsimp only[Adr.Step.cells];refine azb mixedT cyd (by simp[bxs]) ?_;dsimp only[bxs];have hs:(0:Int)≤7∧(7:Int)≤(s.length:Int)∧Int.toNat 7=7:=⟨by decide,by omega,rfl⟩;have tk:s.take s.length=s:=Yy;refine azc hs (ai cw (ai ck (ai ci ti))) ?_;exact Fn rfl
def preP(acc:List Adr.Step)(r:Option (Adr.Ad×Bool)):Option (Adr.Ad×Bool):=r.map fun p=>({ p.1 with mods:=acc++p.1.mods },p.2)
def placeT:Option (Adr.Ad×Bool)→A
 |none=> .tup [.agg [.sl 0 .nil [],.bool false,.str [],.str [],.int .i64 0,.int .i64 0,.str [],.bool false],.bool false]
 |some (p,w)=> .tup [.agg [.sl 4 .no (p.mods.map Adr.Step.cells),.bool p.data,.str p.type,.str p.name,.int .i64 p.key.kind,.int .i64 p.key.num,.str p.key.str,.bool w],.bool true]
theorem byd(r:Option (Adr.Ad×Bool)):(placeT r).pure=true:=by
 cases r with
 |none=>rfl
 |some p=>rfl
theorem dqt(s:List UInt8):Adr.step s=if(stepR s).2.2=true then some ((stepR s).1,(stepR s).2.1)else none:=by
 unfold Adr.step stepR keyR;cases Adr.key ((s.drop 7).dropWhile Adr.wordB)with
 |none=>simp
 |some p=>
  obtain⟨k,r⟩:=p;simp only[ZG]
def ay0:AX.AFn:=⟨27,aS [aR 2 (.alloc 105 [.sl 0 .nil [],.bool false,.str [],.str [],.int .i64 0,.int .i64 0,.str []]),aR 3 (.mv (aI 0))] (aS [aM 7 0,aR 8 (.call 156 [.t 7]),aM 6 8,aE 9 6 0,aE 10 6 1,aR 4 (.alloc 182 [.sl 0 .nil [],.bool false,.str [],.str [],.int .i64 0,.int .i64 0,.str [],.bool false]),aU (.store 8 (.t 4) (.t 9)),aM 5 10] (.seq (aS [aM 11 5,aR 12 (.un .not (.t 11)),aM 13 12,aG 14 (.faddr 7 (.t 4)) 13 false,aG 15 (.load false 1 (.t 14)) 13 false,aG 16 (.un .not (.t 15)) 13 false,aR 17 (.pick (.t 13) (.c (.bool true)) (.t 16))] (.cond (.t 17) (aS [aR 18 (.build [.sl 0 .nil [],.bool false,.str [],.str [],.int .i64 0,.int .i64 0,.str []] []),aU (.store 7 (.t 2) (.t 18)),aR 3 (.mv (aI 2))] (.ret)) (.skip))) (.seq (aS [aF 19 0 4,aF 20 0 19,aL 21 20,aR 22 (.len false (.t 21)),aR 23 (.bin .gtr (.t 22) (aI 16))] (.cond (.t 23) (aS [aR 24 (.build [.sl 0 .nil [],.bool false,.str [],.str [],.int .i64 0,.int .i64 0,.str []] []),aU (.store 7 (.t 2) (.t 24)),aR 3 (.mv (aI 4))] (.ret)) (.skip))) (aS [aF 25 0 4,aR 26 (.load true 7 (.t 25)),aU (.store 7 (.t 2) (.t 26)),aR 3 (.mv (aI 0))] (.ret))))),[.c 2 true 7,.t 3]⟩
theorem ck6:AX.compFn Tryz.prog 126=some ay0:=by kernel_rfl
theorem bvg(acc:List Adr.Step)(p:Adr.Ad)(w:Bool):preP acc (some (p,w))=some ({ p with mods:=acc++p.mods },w):=rfl
set_option maxHeartbeats 8000000 in
theorem cwu(s0:List UInt8)(hl:s0.length≤2000000)(h:Hp):AT 156 [.str s0] h (placeT (Adr.place (s0.length+1) s0)):=by
 refine pcall ?_ (byd _) (by simp[A.pure,A.data]) h;obtain⟨q,hq⟩:=Ex (Adr.place (s0.length+1) s0);rw[hq];refine fo ?_;refine azc ti ti ?_
 refine azd (fun m ts hh=>∃(s:List UInt8) (acc:List Adr.Step) (f:Nat) (W:Nat) (o:Own) (l:List Blk) (t:List (TypeId×Nat×Nat)),m=s.length∧s.length<f∧acc.length+s.length≤s0.length∧q=preP acc (Adr.place f s) ∧
  hh=⟨.cells 182 [.sl 0 .nil [],.bool false,.str [],.str [],.int .i64 0,.int .i64 0,.str [],.bool false] :: .cells 182 [.sl W o (acc.map Adr.Step.cells),.bool false,.str [],.str [],.int .i64 0,.int .i64 0,.str [],.bool false]::l,t⟩ ∧
  Gs 135 4 0 ⟨[],t⟩ (acc.map Adr.Step.cells) (.sl W o (acc.map Adr.Step.cells))∧(ts 0=.str s∧ts 2=.ptr 0 0∧ts 4=.ptr 1 0)) s0.length ?_ ?_
 ·exact⟨s0,[],s0.length+1,0,.nil,[],[],rfl,Nat.lt_succ_self _,by simp,by rw[←hq];unfold preP;cases Adr.place (s0.length+1) s0<;>rfl,rfl,.inl ⟨rfl,rfl⟩,by(exact azo ti)⟩
 rintro m ts hh ⟨s,acc,f,W,o,l,t,rfl,hf,hal,hp,rfl,gX,ht⟩;obtain⟨f,rfl⟩:∃g,f=g+1:=⟨f-1,by omega⟩;unfold Adr.place at hp;have cb:=bq5 s Adr.modW (by omega) (by decide);cases hB:Adr.begins s Adr.modW with
 |true=>
  rw[hB]at cb;rw[hB,if_pos rfl,dqt]at hp;have h7:7≤s.length:=Adr.begins_len hB;have cs:=cyy s (by omega) h7;have hsr:=Adr.step_rest s;rw[dqt]at hsr;dsimp only[Adr.modW]at cb;obtain⟨⟨⟨xn,kk,kn,ks⟩,rest,ok⟩,hR⟩:=Ex (stepR s);rw[hR]at cs hp hsr;dsimp only[Adr.Step.cells]at cs hp hsr;cases ok with
  |false=>
   rw[if_neg (by decide)]at hp;have hq0:q=none:=hp;subst hq0;refine azc ht (ai cb (ai cs ti)) ?_;exact Fn rfl
  |true=>
  rw[if_pos rfl]at hp hsr;have hrl:=hsr _ _ rfl;dsimp only at hp;have hrow:(acc++[(⟨xn,⟨kk,kn,ks⟩⟩:Adr.Step)]).map Adr.Step.cells=acc.map Adr.Step.cells++[[.str xn,.int .i64 kk,.int .i64 kn,.str ks]]:=by rw[YF];rfl
  obtain⟨W',o',t',hX,gX',_⟩:=gX.grow 48 [.str xn,.int .i64 kk,.int .i64 kn,.str ks] (by rw[Zj];omega) (by decide);rw[←hrow]at gX';simp only[←hrow]at hX;by_cases hr0:rest=[]
  ·subst hr0;rw[if_pos rfl]at hp;rw[bvg]at hp;subst hp;refine azc (ai ht hX) (ai cb (ai cs ti)) ?_;refine⟨placeT _,?_,rfl⟩;exact⟨⟨gX'.le,rfl,rfl,rfl,rfl,rfl,rfl,rfl,trivial⟩,rfl,trivial⟩
  rw[if_neg hr0]at hp;have hr0':(rest==([]:List UInt8))=false:=by simpa using hr0
  have hpos:0<rest.length:=Z9.2 hr0;have hr1:(0:Int)<(rest.length:Int)∧(0:Int)≤1∧(1:Int)≤(rest.length:Int)∧Int.toNat 1=1∧rest.take rest.length=rest:=⟨by omega,by omega,by omega,rfl,Yy⟩;obtain⟨c,hc⟩:=Ex (rest.getD 0 0);have hcn:=avi c 46 (by decide);rw[show((46:Nat):Int)=46 from rfl,show UInt8.ofNat 46=46 from rfl]at hcn;rw[hc]at hp;by_cases hd:c=46
  rotate_left
  ·have e1:(c !=46)=true:=by simp[hd]
   rw[if_pos hd]at hp;have hq0:q=none:=hp;subst hq0;refine azc (ai ht (ai hX (ai hr0' (ai hr1 (ai hc (ai hcn e1)))))) (ai cb (ai cs ti)) ?_;exact Fn rfl
  have e1:(c !=46)=false:=by simp[hd]
  rw[if_neg (by simp[hd])]at hp;refine azc (ai ht (ai hX (ai hr0' (ai hr1 (ai hc (ai hcn e1)))))) (ai cb (ai cs ti)) ?_;refine⟨(rest.drop 1).length,by rw[Zo];omega,rest.drop 1,acc++[⟨xn,⟨kk,kn,ks⟩⟩],f,W',o',_,t',rfl,by rw[Zo];omega,by rw[Zb,Zo];simp;omega,?_,rfl,gX',by(exact azo (ai ht hr1))⟩;rw[hp];unfold preP;cases Adr.place f (rest.drop 1)with
  |none=>rfl
  |some p=>simp
 |false=>
  rw[hB]at cb;rw[hB,if_neg (by decide)]at hp;dsimp only[Adr.modW]at cb;have cd:=bq5 s Adr.dataW (by omega) (by decide);obtain⟨dt,hdt⟩:=Ex (Adr.begins s Adr.dataW);have hdl:dt=true→5≤s.length:=fun e=>Adr.begins_len (s:=s) (p:=Adr.dataW) (by rw[hdt];exact e)
  unfold Adr.last at hp;dsimp only at hp;rw[hdt]at cd hp;dsimp only[Adr.dataW]at cd;obtain⟨tt,htt⟩:=Ex ((if dt=true then s.drop 5 else s));rw[htt]at hp;have htl:tt.length≤2000000:=by
   rw[←htt];split
   ·rw[Zo];omega
   ·omega
  refine azc ht (ai cb (ai cd ti)) ?_;refine by2 (fun ts' h'=>h'=⟨.cells 182 [.sl 0 .nil [],.bool false,.str [],.str [],.int .i64 0,.int .i64 0,.str [],.bool false] :: .cells 182 [.sl W o (acc.map Adr.Step.cells),.bool dt,.str [],.str [],.int .i64 0,.int .i64 0,.str [],.bool false]::l,t⟩∧(ts' 0=.str tt∧ts' 2=.ptr 0 0∧ts' 4=.ptr 1 0)) ?_ ?_
  ·cases dt with
   |false=>
    rw[if_neg (by decide)]at htt;subst htt;refine azc ht ti ?_;exact⟨rfl,by(exact azo ht)⟩
   |true=>
    rw[if_pos rfl]at htt;have h5:=hdl rfl;have h5':(0:Int)≤5∧(5:Int)≤(s.length:Int)∧Int.toNat 5=5∧s.take s.length=s:=⟨by decide,by omega,rfl,Yy⟩;refine azc (ai ht h5') ti ?_;exact⟨rfl,by(exact azo (ai ht (ai htt h5')))⟩
  rintro ts hh ⟨rfl,hu⟩;have cw:=bx4 tt htl;have w1:(tt.takeWhile Adr.wordB).length≤2000000:=Zs (List.takeWhile_prefix _).length_le htl;have w2:(tt.dropWhile Adr.wordB).length≤2000000:=Zs (List.dropWhile_suffix _).length_le htl;have ci:=aqs _ w1;have cr:=cjq (tt.takeWhile Adr.wordB);obtain⟨typ,htyp⟩:=Ex (tt.takeWhile Adr.wordB);obtain⟨r,hr⟩:=Ex (tt.dropWhile Adr.wordB);rw[htyp]at cw ci cr hp;rw[hr]at cw hp w2;have hkb:Adr.kindB typ=(!Adr.reserved typ&&Adr.ident typ):=rfl;have bad:(Adr.kindB typ=false∨r.getD 0 0≠46)→q=none:=fun hb=>by rw[hp,if_pos hb];rfl
  cases hI:Adr.ident typ with
  |false=>
   rw[hI]at ci;have hq0:=bad (.inl (by rw[hkb,hI];simp));subst hq0;refine azc hu (ai cw (ai ci ti)) ?_;exact Fn rfl
  |true=>
  rw[hI]at ci;cases hRs:Adr.reserved typ with
  |true=>
   rw[hRs]at cr;have hq0:=bad (.inl (by rw[hkb,hRs];rfl));subst hq0;refine azc hu (ai cw (ai ci (ai cr ti))) ?_;exact Fn rfl
  |false=>
  rw[hRs]at cr;cases r with
  |nil=>
   have hq0:=bad (.inr (by simp));subst hq0;refine azc hu (ai cw (ai ci (ai cr ti))) ?_;exact Fn rfl
  |cons c r'=>
  have hr1:((c::r')==([]:List UInt8))=false∧(0:Int)<((r'.length+1:Nat):Int)∧(0:Int)≤1∧(1:Int)≤((r'.length+1:Nat):Int)∧Int.toNat 1=1∧r'.take r'.length=r':=⟨rfl,by omega,by omega,by omega,rfl,Yy⟩;have hcn:=avi c 46 (by decide);rw[show((46:Nat):Int)=46 from rfl,show UInt8.ofNat 46=46 from rfl]at hcn;by_cases hd:c=46
  rotate_left
  ·have e1:(c !=46)=true:=by simp[hd]
   have hq0:=bad (.inr (by simpa using hd));subst hq0;refine azc (ai hu (ai hr1 (ai hcn e1))) (ai cw (ai ci (ai cr ti))) ?_;exact Fn rfl
  have e1:(c !=46)=false:=by simp[hd]
  rw[if_neg (by rw[hkb,hRs,hI];simpa using hd),Z5,YA]at hp;have hr'l:r'.length≤2000000:=by simp only[Zi]at w2;omega
  have cw2:=bx4 r' hr'l;have w3:(r'.takeWhile Adr.wordB).length≤2000000:=Zs (List.takeWhile_prefix _).length_le hr'l;have w4:(r'.dropWhile Adr.wordB).length≤2000000:=Zs (List.dropWhile_suffix _).length_le hr'l;have ci2:=aqs _ w3;have ck:=cj6 _ w4;obtain⟨nm,hnm⟩:=Ex (r'.takeWhile Adr.wordB);obtain⟨r2,hr2⟩:=Ex (r'.dropWhile Adr.wordB);rw[hnm]at cw2 ci2 hp;rw[hr2]at cw2 ck hp;have hkR:Adr.key r2=if(keyR r2).2.2=true then some ((keyR r2).1,(keyR r2).2.1)else none:=by
   unfold keyR;cases Adr.key r2 with
   |none=>simp
   |some p=>simp
  rw[hkR]at hp;obtain⟨⟨⟨ka,kb,kc⟩,rst,ok⟩,hK⟩:=Ex (keyR r2);rw[hK]at ck hp;unfold keyT at ck;dsimp only at ck hp;cases hI2:Adr.ident nm with
  |false=>
   rw[hI2]at ci2;have hq0:q=none:=by
    rw[hp];cases ok with
    |false=>rfl
    |true=>
     rw[if_pos rfl];dsimp only;rw[if_neg (by rw[hI2];simp)];rfl
   subst hq0;refine azc (ai hu (ai hr1 (ai hcn e1))) (ai cw (ai ci (ai cr (ai cw2 (ai ck (ai ci2 ti)))))) ?_;exact Fn rfl
  |true=>
  rw[hI2]at ci2;cases ok with
  |false=>
   have hq0:q=none:=hp;subst hq0;refine azc (ai hu (ai hr1 (ai hcn e1))) (ai cw (ai ci (ai cr (ai cw2 (ai ck (ai ci2 ti)))))) ?_;exact Fn rfl
  |true=>
  rw[if_pos rfl]at hp;dsimp only at hp;by_cases hrst:rst=[]
  rotate_left
  ·have e2:(rst !=([]:List UInt8))=true:=by simpa using hrst
   rw[if_neg (fun h=>hrst h.2)]at hp;have hq0:q=none:=hp;subst hq0;refine azc (ai hu (ai hr1 (ai hcn (ai e1 e2)))) (ai cw (ai ci (ai cr (ai cw2 (ai ck (ai ci2 ti)))))) ?_;exact Fn rfl
  subst hrst;rw[if_pos ⟨hI2,rfl⟩]at hp;dsimp only at hp;rw[bvg]at hp;dsimp only at hp;rw[ZN]at hp;subst hp;refine azc (ai hu (ai hr1 (ai hcn e1))) (ai cw (ai ci (ai cr (ai cw2 (ai ck (ai ci2 ti)))))) ?_;refine⟨placeT _,?_,rfl⟩;exact⟨⟨gX.le,rfl,rfl,rfl,rfl,rfl,rfl,rfl,trivial⟩,rfl,trivial⟩
theorem bj0(s:List UInt8)(hl:s.length≤2000000)(h:Hp):AT 126 [.str s] h (.tup [.agg (Adr.parse s).1.cells,.int .i64 (Adr.parse s).2]):=by
 have cp:=cwu s hl;refine pcall ?_ (by simp[A.pure,A.data,Adr.Ad.cells]) (by simp[A.pure,A.data]) h;unfold Adr.parse;refine azb mixedT ck6 (by simp[ay0]) ?_;dsimp only[ay0];cases hP:Adr.place (s.length+1) s with
 |none=>
  rw[hP]at cp;dsimp only[placeT]at cp;refine azc ti (ai cp ti) ?_;exact⟨.tup [.agg (Adr.Ad.cells Adr.Ad.zero),.int .i64 2],⟨⟨⟨rfl,.inr rfl,.inl rfl⟩,rfl,rfl,rfl,rfl,rfl,rfl,trivial⟩,rfl,trivial⟩,rfl⟩
 |some p=>
  rw[hP]at cp;obtain⟨⟨mods,data,ty,nm,ka,kb,kc⟩,w⟩:=p;dsimp only[placeT]at cp;have lm:(mods.map Adr.Step.cells).length=mods.length:=Zj _;cases w with
  |false=>
   refine azc ti (ai cp ti) ?_;exact⟨.tup [.agg (Adr.Ad.cells Adr.Ad.zero),.int .i64 2],⟨⟨⟨rfl,.inr rfl,.inl rfl⟩,rfl,rfl,rfl,rfl,rfl,rfl,trivial⟩,rfl,trivial⟩,rfl⟩
  |true=>
   dsimp only;by_cases h16:16<mods.length
   ·have e1:(mods.length:Int)>16:=by omega
    rw[if_pos h16];refine azc (ai lm e1) (ai cp ti) ?_;exact⟨.tup [.agg (Adr.Ad.cells Adr.Ad.zero),.int .i64 4],⟨⟨⟨rfl,.inr rfl,.inl rfl⟩,rfl,rfl,rfl,rfl,rfl,rfl,trivial⟩,rfl,trivial⟩,rfl⟩
   ·have e1:¬(mods.length:Int)>16:=by omega
    rw[if_neg h16];refine azc (ai lm e1) (ai cp ti) ?_;exact Fn rfl
def aw7:AX.AFn:=⟨50,aS [aR 1 (.box 105 (.t 0)),aR 2 (.mv (aI 0))] (.seq (aS [aF 4 0 1,aL 5 4,aR 6 (.len false (.t 5)),aR 7 (.bin .gtr (.t 6) (aI 16))] (.cond (.t 7) (aS [aR 2 (.mv (aI 4))] (.ret)) (.skip))) (.seq (aS [aR 3 (.mv (aI 0))] (.block 0 (.loop (.seq (aS [aM 8 3,aF 9 0 1,aL 10 9,aR 11 (.len false (.t 10)),aR 12 (.bin .lss (.t 8) (.t 11))] (.cond (.t 12) (.skip) (.exit 0))) (.seq (.block 1 (.seq (aS [aF 15 0 1,aL 16 15,aM 17 3,aR 18 (.iaddr 4 (.t 16) (.t 17)),aF 19 0 18,aL 20 19,aR 21 (.call 130 [.t 20]),aR 22 (.un .not (.t 21))] (.cond (.t 22) (aS [aR 2 (.mv (aI 7))] (.ret)) (.skip))) (aS [aF 23 0 1,aL 24 23,aM 25 3,aR 26 (.iaddr 4 (.t 24) (.t 25)),aF 27 1 26,aR 28 (.load true 3 (.t 27)),aR 29 (.call 213 [.t 28]),aR 30 (.un .not (.t 29))] (.cond (.t 30) (aS [aR 2 (.mv (aI 1))] (.ret)) (.skip))))) (.reg false [aM 13 3,aR 14 (.bin .add (.t 13) (aI 1)),aM 3 14])))))) (.seq (aS [aF 31 2 1,aL 32 31,aR 33 (.call 130 [.t 32]),aR 34 (.un .not (.t 33)),aM 35 34,aG 36 (.faddr 2 (.t 1)) 35 false,aG 37 (.load false 1 (.t 36)) 35 false,aG 38 (.call 188 [.t 37]) 35 false,aR 39 (.pick (.t 35) (.c (.bool true)) (.t 38)),aM 40 39,aG 41 (.faddr 3 (.t 1)) 40 false,aG 42 (.load false 1 (.t 41)) 40 false,aG 43 (.call 130 [.t 42]) 40 false,aG 44 (.un .not (.t 43)) 40 false,aR 45 (.pick (.t 40) (.c (.bool true)) (.t 44))] (.cond (.t 45) (aS [aR 2 (.mv (aI 7))] (.ret)) (.skip))) (.seq (aS [aF 46 4 1,aR 47 (.load true 3 (.t 46)),aR 48 (.call 213 [.t 47]),aR 49 (.un .not (.t 48))] (.cond (.t 49) (aS [aR 2 (.mv (aI 1))] (.ret)) (.skip))) (aS [aR 2 (.mv (aI 0))] (.ret)))))),[.t 2]⟩
theorem cwv:AX.compFn Tryz.prog 214=some aw7:=by kernel_rfl
def bjc:AX.AFn:=⟨32,aS [aR 1 (.box 105 (.t 0)),aR 2 (.alloc 105 [.sl 0 .nil [],.bool false,.str [],.str [],.int .i64 0,.int .i64 0,.str []])] (aS [aF 5 1 1,aL 6 5,aF 7 2 1,aL 8 7,aF 9 3 1,aL 10 9,aR 11 (.build [.sl 0 .nil [],.bool false,.str [],.str [],.int .i64 0,.int .i64 0,.str []] [(1,1,.t 6),(2,1,.t 8),(3,1,.t 10)]),aR 3 (.alloc 105 [.sl 0 .nil [],.bool false,.str [],.str [],.int .i64 0,.int .i64 0,.str []]),aU (.store 7 (.t 3) (.t 11))] (.seq (aS [aR 4 (.mv (aI 0))] (.block 0 (.loop (.seq (aS [aM 12 4,aF 13 0 1,aL 14 13,aR 15 (.len false (.t 14)),aR 16 (.bin .lss (.t 12) (.t 15))] (.cond (.t 16) (.skip) (.exit 0))) (.seq (.block 1 (.reg true [aF 19 0 3,⟨some 20,.load false 1 (.t 19),none,[0]⟩,aF 21 0 1,⟨some 22,.load false 1 (.t 21),none,[2]⟩,aM 23 4,⟨some 24,.iaddr 4 (.t 22) (.t 23),none,[3,4]⟩,⟨some 25,.faddr 0 (.t 24),none,[5]⟩,⟨some 26,.load false 1 (.t 25),none,[6]⟩,⟨some 27,.build [.str [],.int .i64 0,.int .i64 0,.str []] [(0,1,.t 26)],none,[7]⟩,⟨some 28,.mks 4 [.t 27],none,[8]⟩,⟨some 29,.app 135 4 48 (.t 20) (.t 28),none,[1,9]⟩,⟨some 30,.faddr 0 (.t 3),none,[0,1,2,3,4,5,6,7,8,9,10]⟩,⟨none,.store 1 (.t 30) (.t 29),none,[11,10,10,0,1,2,3,4,5,6,7,8,9,10]⟩])) (.reg false [aM 17 4,aR 18 (.bin .add (.t 17) (aI 1)),aM 4 18])))))) (aS [aR 31 (.load true 7 (.t 3)),aU (.store 7 (.t 2) (.t 31))] (.ret)))),[.c 2 true 7]⟩
theorem cy2:AX.compFn Tryz.prog 193=some bjc:=by kernel_rfl
def ayk:AX.AFn:=⟨28,aS [aR 2 (.mv (.c (.str [])))] (aS [aR 3 (.mv (.c (.str [])))] (.seq (aS [aR 4 (.mv (aI 0))] (.block 0 (.loop (.seq (aS [aM 5 4,aM 6 0,aR 7 (.len false (.t 6)),aR 8 (.bin .lss (.t 5) (.t 7))] (.cond (.t 8) (.skip) (.exit 0))) (.seq (.block 1 (.reg true [aM 11 3,⟨some 12,.bin .add (.t 11) (.c (.str [109,111,100,117,108,101,46])),none,[0]⟩,aM 13 0,aM 14 4,⟨some 15,.iaddr 4 (.t 13) (.t 14),none,[2,3]⟩,⟨some 16,.faddr 0 (.t 15),none,[4]⟩,⟨some 17,.load false 1 (.t 16),none,[5]⟩,⟨some 18,.bin .add (.t 12) (.t 17),none,[1,6]⟩,aM 19 0,aM 20 4,⟨some 21,.iaddr 4 (.t 19) (.t 20),none,[8,9]⟩,⟨some 22,.faddr 1 (.t 21),none,[10]⟩,⟨some 23,.load true 3 (.t 22),none,[11]⟩,⟨some 24,.call 216 [.t 23],none,[12]⟩,⟨some 25,.bin .add (.t 18) (.t 24),none,[7,13]⟩,⟨some 26,.bin .add (.t 25) (.c (.str [46])),none,[14]⟩,⟨some 3,.mv (.t 26),none,[15,13,0,1,2,3,4,5,6,7,8,9,10,11,12,13,14,15]⟩])) (.reg false [aM 9 4,aR 10 (.bin .add (.t 9) (aI 1)),aM 4 10])))))) (aS [aM 27 3,aM 2 27] (.ret)))),[.t 2]⟩
theorem cvs:AX.compFn Tryz.prog 215=some ayk:=by kernel_rfl
def av3:AX.AFn:=⟨26,aS [aR 1 (.box 105 (.t 0)),aR 2 (.mv (.c (.str [])))] (.seq (aS [aR 4 (.load true 7 (.t 1)),aR 5 (.call 214 [.t 4]),aR 6 (.bin .neq (.t 5) (aI 0))] (.cond (.t 6) (aS [aR 2 (.mv (.c (.str [])))] (.ret)) (.skip))) (aS [aF 7 0 1,aL 8 7,aR 9 (.call 215 [.t 8]),aM 3 9] (.seq (aS [aF 10 1 1,aL 11 10] (.cond (.t 11) (.reg false [aM 12 3,aR 13 (.bin .add (.t 12) (.c (.str [100,97,116,97,46]))),aM 3 13]) (.skip))) (.seq (.reg true [aM 14 3,aF 15 2 1,⟨some 16,.load false 1 (.t 15),none,[1]⟩,⟨some 17,.bin .add (.t 14) (.t 16),none,[0,2]⟩,⟨some 18,.bin .add (.t 17) (.c (.str [46])),none,[3]⟩,aF 19 3 1,⟨some 20,.load false 1 (.t 19),none,[5]⟩,⟨some 21,.bin .add (.t 18) (.t 20),none,[4,6]⟩,aF 22 4 1,⟨some 23,.load true 3 (.t 22),none,[8]⟩,⟨some 24,.call 216 [.t 23],none,[9]⟩,⟨some 25,.bin .add (.t 21) (.t 24),none,[7,10]⟩,⟨some 2,.mv (.t 25),none,[11,10,0,1,2,3,4,5,6,7,8,9,10,11]⟩]) (.ret))))),[.t 2]⟩
theorem cqw:AX.compFn Tryz.prog 192=some av3:=by kernel_rfl
def av2:AX.AFn:=⟨17,aS [aR 2 (.mv (.c (.str []))),aR 3 (.mv (aI 0))] (aS [aM 7 0,aR 8 (.call 126 [.t 7]),aM 6 8,aE 9 6 0,aE 10 6 1,aR 4 (.alloc 105 [.sl 0 .nil [],.bool false,.str [],.str [],.int .i64 0,.int .i64 0,.str []]),aU (.store 7 (.t 4) (.t 9)),aM 5 10] (.seq (aS [aM 11 5,aR 12 (.bin .neq (.t 11) (aI 0))] (.cond (.t 12) (aS [aM 13 5,aR 2 (.mv (.c (.str []))),aM 3 13] (.ret)) (.skip))) (aS [aR 14 (.load true 7 (.t 4)),aR 15 (.call 193 [.t 14]),aR 16 (.call 192 [.t 15]),aM 2 16,aR 3 (.mv (aI 0))] (.ret)))),[.t 2,.t 3]⟩
theorem cxe:AX.compFn Tryz.prog 160=some av2:=by kernel_rfl
theorem avy{α:Type}(f:α→List A)(l:List α)(i:Nat)(h:i<l.length)(hl:l.length≤4611686018427387904):
  (l.map f).length=l.length∧(i:Int)<(l.length:Int)∧(0:Int)≤(i:Int)∧(l.map f).getD i []=f l[i]∧IntKind.i64.wrap ((i:Int)+1)=((i+1:Nat):Int):=
 ⟨Zj _,by omega,by omega,aqj f l i h,by rw[wrap64 (by omega) (by omega)];omega⟩
theorem cvu(a:Adr.Ad)(hi:Adr.In a)(h:Hp):AT 214 [.agg a.cells] h (.int .i64 (Adr.check a)):=by
 obtain⟨mods,data,ty,nm,⟨ka,kb,kc⟩⟩:=a;obtain⟨hn,hm,ht,ha,hk⟩:=hi;dsimp only at hn hm ht ha hk;obtain⟨q,hq⟩:=Ex (Adr.check ⟨mods,data,ty,nm,⟨ka,kb,kc⟩⟩);rw[hq];unfold Adr.check at hq;dsimp only at hq;refine pcall ?_ rfl (by simp[A.pure,A.data,Adr.Ad.cells]) h;refine azb mixedT cwv (by simp[aw7]) ?_;dsimp only[aw7,Adr.Ad.cells];have lm:(mods.map Adr.Step.cells).length=mods.length:=Zj _;by_cases h16:16<mods.length
 ·have e1:(mods.length:Int)>16:=by omega
  rw[if_pos h16]at hq;subst hq;refine azc (ai lm e1) ti ?_;exact Fn rfl
 have e1:¬(mods.length:Int)>16:=by omega
 rw[if_neg h16]at hq;refine azc (ai lm e1) ti ?_;refine azd (fun m ts hh=>hh=⟨[.cells 105 [.sl 4 .no (mods.map Adr.Step.cells),.bool data,.str ty,.str nm,.int .i64 ka,.int .i64 kb,.str kc]],[]⟩∧∃j:Nat,m=mods.length-j∧j≤mods.length∧(mods.drop j).find? (fun s=>!(Adr.ident s.name&&Adr.keyOk s.key))=mods.find? (fun s=>!(Adr.ident s.name&&Adr.keyOk s.key))∧(ts 1=.ptr 0 0∧ts 3=.int .i64 (j:Nat))) mods.length ?_ ?_
 ·exact⟨rfl,0,rfl,Zq _,rfl,by(exact azo ti)⟩
 rintro m ts hh ⟨rfl,j,rfl,hj,hfd,hu⟩;rcases Zr j mods.length with hlt|hge
 ·have hf:=avy Adr.Step.cells mods j hlt (by omega);have hmj:=hm _ (Zp hlt);rw[Zl hlt,List.find?_cons]at hfd;obtain⟨x,hx⟩:=Ex (mods[j]);rw[hx]at hf hmj hfd;obtain⟨xn,⟨ja,jb,jc⟩⟩:=x;dsimp only[Adr.Step.cells]at hf hmj hfd;have ci:=aqs xn hmj.1;have ck:=bxi ⟨ja,jb,jc⟩ hmj.2;dsimp only at ck;cases hI:Adr.ident xn with
  |false=>
   rw[hI]at ci hfd;simp only[Ye,ZU]at hfd;rw[←hfd]at hq;dsimp only at hq;rw[if_neg (by rw[hI];decide)]at hq;subst hq;refine azc (ai hu hf) (ai ci ti) ?_;exact Fn rfl
  |true=>
  rw[hI]at ci hfd;cases hK:Adr.keyOk ⟨ja,jb,jc⟩with
  |false=>
   rw[hK]at ck hfd;simp only[YY,ZU]at hfd;rw[←hfd]at hq;dsimp only at hq;rw[if_pos hI]at hq;subst hq;refine azc (ai hu hf) (ai ci (ai ck ti)) ?_;exact Fn rfl
  |true=>
   rw[hK]at ck hfd;simp only[Yl,ZW]at hfd;refine azc (ai hu hf) (ai ci (ai ck ti)) ?_;exact⟨_,by omega,rfl,j+1,rfl,by omega,hfd,by(exact azo (ai hu hf))⟩
 ·have hf:=ai lm (show¬(j:Int)<(mods.length:Int) by omega);rw[Zt hge]at hfd;rw[←hfd]at hq;simp only[List.find?_nil]at hq;have ci:=aqs ty ht;have cr:=cjq ty;have ci2:=aqs nm ha;have ck:=bxi ⟨ka,kb,kc⟩ hk;dsimp only at ck;have hkb:Adr.kindB ty=(!Adr.reserved ty&&Adr.ident ty):=rfl;rw[hkb]at hq;cases hI:Adr.ident ty with
  |false=>
   rw[hI]at ci hq;simp only[YY,ZU,YT,if_true]at hq;subst hq;refine azc (ai hu hf) (ai ci ti) ?_;exact Fn rfl
  |true=>
  rw[hI]at ci hq;cases hR:Adr.reserved ty with
  |true=>
   rw[hR]at cr hq;simp only[ZW,Ye,ZU,YT,if_true]at hq;subst hq;refine azc (ai hu hf) (ai ci (ai cr ti)) ?_;exact Fn rfl
  |false=>
  rw[hR]at cr hq;cases hN:Adr.ident nm with
  |false=>
   rw[hN]at ci2 hq;simp only[ZU,ZG,ZW,Yn,if_true]at hq;subst hq;refine azc (ai hu hf) (ai ci (ai cr (ai ci2 ti))) ?_;exact Fn rfl
  |true=>
  rw[hN]at ci2 hq;simp only[ZU,ZG,ZW,Yn,Zn,if_false]at hq;cases hK:Adr.keyOk ⟨ka,kb,kc⟩with
  |false=>
   rw[hK]at ck hq;simp only[ZU,if_true]at hq;subst hq;refine azc (ai hu hf) (ai ci (ai cr (ai ci2 (ai ck ti)))) ?_;exact Fn rfl
  |true=>
   rw[hK]at ck hq;simp only[ZW,Zn,if_false]at hq;subst hq;refine azc (ai hu hf) (ai ci (ai cr (ai ci2 (ai ck ti)))) ?_;exact Fn rfl
theorem dzy(a:Adr.Ad)(hn:a.mods.length≤3000000)(h:Hp):AT 193 [.agg a.cells] h (.agg (Adr.bare a).cells):=by
 obtain⟨mods,data,ty,nm,⟨ka,kb,kc⟩⟩:=a;dsimp only at hn;refine pcall ?_ (by simp[A.pure,A.data,Adr.Ad.cells]) (by simp[A.pure,A.data,Adr.Ad.cells]) h;refine azb mixedT cy2 (by simp[bjc]) ?_;dsimp only[bjc,Adr.Ad.cells,Adr.bare,Adr.K.none];have lm:(mods.map Adr.Step.cells).length=mods.length:=Zj _;refine azc lm ti ?_
 refine azd (fun m ts hh=>∃(j W:Nat) (o:Own) (t:List (TypeId×Nat×Nat)),m=mods.length-j∧j≤mods.length ∧
  hh=⟨[.cells 105 [.sl 4 .no (mods.map Adr.Step.cells),.bool data,.str ty,.str nm,.int .i64 ka,.int .i64 kb,.str kc],.cells 105 [.sl 0 .nil [],.bool false,.str [],.str [],.int .i64 0,.int .i64 0,.str []],.cells 105 [.sl W o (((mods.take j).map fun s=>(⟨s.name,Adr.K.none⟩:Adr.Step)).map Adr.Step.cells),.bool data,.str ty,.str nm,.int .i64 0,.int .i64 0,.str []]],t⟩ ∧
  Gs 135 4 0 ⟨[],t⟩ (((mods.take j).map fun s=>(⟨s.name,Adr.K.none⟩:Adr.Step)).map Adr.Step.cells) (.sl W o (((mods.take j).map fun s=>(⟨s.name,Adr.K.none⟩:Adr.Step)).map Adr.Step.cells))∧(ts 1=.ptr 0 0∧ts 2=.ptr 1 0∧ts 3=.ptr 2 0∧ts 4=.int .i64 (j:Nat))) mods.length ?_ ?_
 ·exact⟨0,0,.nil,[],rfl,Zq _,rfl,.inl ⟨rfl,rfl⟩,by(exact azo ti)⟩
 rintro m ts hh ⟨j,W,o,t,rfl,hj,rfl,gX,hu⟩;rcases Zr j mods.length with hlt|hge
 ·have hf:=avy Adr.Step.cells mods j hlt (by omega);have htk:=Yo hlt;obtain⟨x,hx⟩:=Ex (mods[j]);rw[hx]at hf htk;obtain⟨xn,⟨ja,jb,jc⟩⟩:=x;dsimp only[Adr.Step.cells]at hf;have hrow:((mods.take (j+1)).map fun s=>(⟨s.name,Adr.K.none⟩:Adr.Step)).map Adr.Step.cells=((mods.take j).map fun s=>(⟨s.name,Adr.K.none⟩:Adr.Step)).map Adr.Step.cells++[[.str xn,.int .i64 0,.int .i64 0,.str []]]:=by
   rw[htk,YF,YF];rfl
  have hrl:(((mods.take j).map fun s=>(⟨s.name,Adr.K.none⟩:Adr.Step)).map Adr.Step.cells).length+1≤1000000000:=by
   rw[Zj,Zj,Zk];omega
  obtain⟨W',o',t',hX,gX',_⟩:=gX.grow 48 [.str xn,.int .i64 0,.int .i64 0,.str []] hrl (by decide);rw[←hrow]at gX';simp only[←hrow]at hX;refine azc (ai hu (ai hf hX)) ti ?_;exact⟨_,by omega,j+1,W',o',t',rfl,by omega,rfl,gX',by(exact azo (ai hu hf))⟩
 ·have hf:=ai lm (show¬(j:Int)<(mods.length:Int) by omega);rw[Zy hge]at gX⊢;refine azc (ai hu hf) ti ?_;exact⟨.agg [.sl 4 .no ((mods.map fun s=>(⟨s.name,Adr.K.none⟩:Adr.Step)).map Adr.Step.cells),.bool data,.str ty,.str nm,.int .i64 0,.int .i64 0,.str []],⟨gX.le,rfl,rfl,rfl,rfl,rfl,rfl,trivial⟩,rfl⟩
theorem cws(mods:List Adr.Step)(hn:mods.length≤16)(hm:∀s∈mods,s.name.length≤2000000)(hk:∀s∈mods,s.key=Adr.K.none)(h:Hp):AT 215 [.sl 4 .no (mods.map Adr.Step.cells)] h (.str (mods.flatMap stepB)):=by
 refine pcall ?_ rfl (by simp[A.pure,A.data]) h;refine azb mixedT cvs (by simp[ayk]) ?_;dsimp only[ayk];have cf:=ay1;refine azc ti ti ?_;refine azd (fun m ts hh=>hh=⟨[],[]⟩∧∃j:Nat,m=mods.length-j∧j≤mods.length∧(ts 0=.sl 4 .no (mods.map Adr.Step.cells)∧ts 3=.str ((mods.take j).flatMap stepB)∧ts 4=.int .i64 (j:Nat))) mods.length ?_ ?_
 ·exact⟨rfl,0,rfl,Zq _,by(exact azo ti)⟩
 rintro m ts hh ⟨rfl,j,rfl,hj,hu⟩;rcases Zr j mods.length with hlt|hge
 ·have hf:=avy Adr.Step.cells mods j hlt (by omega);have hmj:=hm _ (Zp hlt);have hkj:=hk _ (Zp hlt);have hsn:=cze stepB mods j hlt;have hacc:((mods.take j).flatMap stepB).length≤32000128:=by
   have h2:(mods.take j).length≤16:=by rw[Zk];omega
   exact Zs (avg (mods.take j) fun s hs=>hm s (List.mem_of_mem_take hs)) (Zs (Z6 2000008 h2) (by decide))
  obtain⟨x,hx⟩:=Ex (mods[j]);rw[hx]at hf hmj hkj hsn;obtain⟨xn,xk⟩:=x;dsimp only at hkj hmj;subst hkj;dsimp only[Adr.Step.cells,Adr.K.none]at hf;obtain⟨P,hP⟩:=Ex ((mods.take j).flatMap stepB);rw[hP]at hu hsn hacc;have l1:P.length+7<1099511627776∧P.length+7+xn.length<1099511627776∧P.length+7+xn.length+1<1099511627776∧P.length+(7+xn.length)<1099511627776∧P.length+(7+xn.length)+1<1099511627776∧P.length+(xn.length+7)<1099511627776∧P.length+(xn.length+7)+1<1099511627776∧P.length+7+xn.length+0<1099511627776:=⟨by omega,by omega,by omega,by omega,by omega,by omega,by omega,by omega⟩;refine azc (ai hu (ai hf l1)) (ai cf ti) ?_;refine⟨_,by omega,rfl,j+1,rfl,by omega,?_⟩;have e:P++[109,111,100,117,108,101,46]++xn++[46]=(mods.take (j+1)).flatMap stepB:=by
   rw[hsn];unfold stepB;simp[Adr.modW]
  (exact azo (ai hu (ai hf e)))
 ·have hf:=ai (show(mods.map Adr.Step.cells).length=mods.length from Zj _) (show¬(j:Int)<(mods.length:Int) by omega);rw[Zy hge]at hu;refine azc (ai hu hf) ti ?_;exact Fn rfl
theorem bwc(a:Adr.Ad)(hi:Adr.In a)(hk:∀s∈a.mods,s.key=Adr.K.none)(hkk:a.key=Adr.K.none)(h:Hp):AT 192 [.agg a.cells] h (.str (Adr.fmt a)):=by
 have cc:=fun h=>cvu a hi h
 obtain⟨mods,data,ty,nm,key⟩:=a;dsimp only at hk hkk;subst hkk;have hfb:=by3 mods data ty nm hk;obtain⟨hn,hm,ht,ha,_⟩:=hi;dsimp only at hn hm ht ha;refine pcall ?_ rfl (by simp[A.pure,A.data,Adr.Ad.cells]) h;refine azb mixedT cqw (by simp[av3]) ?_;dsimp only[av3,Adr.Ad.cells,Adr.K.none]at cc⊢;by_cases hc0:Adr.check ⟨mods,data,ty,nm,Adr.K.none⟩=0
 rotate_left
 ·have e1:(Adr.check ⟨mods,data,ty,nm,Adr.K.none⟩!=0)=true:=by simp[hc0]
  have hfz:Adr.fmt ⟨mods,data,ty,nm,Adr.K.none⟩=[]:=by unfold Adr.fmt;rw[if_pos hc0]
  unfold Adr.K.none at e1 hfz;refine azc e1 (ai cc ti) ?_;exact⟨_,le_refl _,by rw[hfz];rfl⟩
 have e1:(Adr.check ⟨mods,data,ty,nm,Adr.K.none⟩!=0)=false:=by simp[hc0]
 have hf:=hfb hc0;have hn16:mods.length≤16:=by
  rcases Zr 16 mods.length with h16|h16
  ·unfold Adr.check at hc0;rw[if_pos h16]at hc0;exact absurd hc0 (by decide)
  ·exact h16
 have hlenall:=avg mods fun s hs=>(hm s hs).1
 have cs:=cws mods hn16 (fun s hs=>(hm s hs).1) hk;have cf:=ay1;unfold Adr.K.none at e1 hf;rw[hf];obtain⟨P,hP⟩:=Ex (mods.flatMap stepB);rw[hP]at cs hlenall⊢;have hPl:P.length≤32000128:=Zs hlenall (Zs (Z6 2000008 hn16) (by decide));cases data with
 |false=>
  have l1:P.length+ty.length<1099511627776∧P.length+ty.length+1<1099511627776∧P.length+ty.length+1+nm.length<1099511627776∧P.length+(ty.length+1)<1099511627776∧P.length+(ty.length+1)+nm.length<1099511627776∧P.length+(ty.length+(1+nm.length))<1099511627776:=⟨by omega,by omega,by omega,by omega,by omega,by omega⟩;refine azc (ai e1 l1) (ai cc (ai cs (ai cf ti))) ?_;exact⟨_,le_refl _,by simp[azn]⟩
 |true=>
  have l1:P.length+5<1099511627776∧P.length+5+ty.length<1099511627776∧P.length+5+ty.length+1<1099511627776∧P.length+5+ty.length+1+nm.length<1099511627776:=⟨by omega,by omega,by omega,by omega⟩;refine azc (ai e1 l1) (ai cc (ai cs (ai cf ti))) ?_;exact⟨_,le_refl _,by simp[azn,Adr.dataW]⟩
theorem cqg(s:List UInt8)(hl:s.length≤2000000)(hin:Adr.In (Adr.bare (Adr.parse s).1))(h:Hp):AT 160 [.str s] h (.tup [.str (Adr.static s).1,.int .i64 (Adr.static s).2]):=by
 have cp:=bj0 s hl;have cb:=dzy (Adr.parse s).1 (by have:=hin.n;simpa [Adr.bare]using this)
 have cf:=bwc (Adr.bare (Adr.parse s).1) hin (fun x hx=>by
  simp only[Adr.bare,Z0]at hx;obtain⟨y,_,rfl⟩:=hx
  rfl) rfl
 refine pcall ?_ rfl (by simp[A.pure,A.data]) h;refine azb mixedT cxe (by simp[av2]) ?_;dsimp only[av2];unfold Adr.static;obtain⟨⟨⟨mods,data,ty,nm,⟨ka,kb,kc⟩⟩,e⟩,hP⟩:=Ex (Adr.parse s);rw[hP]at cp cb cf⊢;dsimp only[Adr.Ad.cells]at cp cb cf⊢;obtain⟨F,hF⟩:=Ex (Adr.fmt (Adr.bare ⟨mods,data,ty,nm,⟨ka,kb,kc⟩⟩));rw[hF]at cf⊢;dsimp only[Adr.bare,Adr.K.none]at cb cf;by_cases he:e=0
 ·subst he;refine azc ti (ai cp (ai cb (ai cf ti))) ?_;exact Fn rfl
 ·have e1:(e !=0)=true:=by simp[he]
  rw[if_pos he];refine azc e1 (ai cp ti) ?_;exact Fn rfl
end AX
end Go.Proofs.YtnghhnahdjjpkaaGreatDoor
