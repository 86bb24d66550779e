/- Part of what the proof needs. -/
import Derived.Test.YtdgcbckcameggadGreatDoorMFrJournalLogsUpto0
import Derived.Test.YtdgcbckcameggadGreatDoorMFrJournalLogsUptoJ
import Derived.Test.YtdgcbckcameggadGreatDoorMFrJournalLogsUptoK
import Derived.Test.YtdgcbckcameggadGreatDoorMFrJournalLogsUptoL
import Derived.Test.YtdgcbckcameggadGreatDoorMFrJournalLogsUptoM
import Derived.Test.YtdgcbckcameggadGreatDoorMFrJournalLogsUptoN
import Derived.Test.YtdgcbckcameggadGreatDoorMFrJournalLogsUptoO
set_option maxHeartbeats 4000000
set_option linter.unusedSimpArgs false
set_option linter.unusedVariables false
set_option linter.unnecessarySimpa false
namespace Go.Proofs.YtdgcbckcameggadGreatDoor
open Go.RowKit
namespace AX
theorem bvb(s:List UInt8)(hs:s.length≤2000000)(h:Hp):AT 253 [.str s] h (.tup [.str (Str.unquote s).1,.int .i64 (Str.unquote s).2.1,.int .i64 (Str.unquote s).2.2]):=
 azs (axv aq8) (fun w hg=>awv ⟨s.toArray⟩ w (by rw[size_mk];exact hs)) (fun C=>rep_tup.2 ⟨_,rfl,repL_cons.2 ⟨_,_,rfl,rep_str.2 rfl,repL_cons.2 ⟨_,_,rfl,rep_int.2 rfl,repL_cons.2 ⟨_,_,rfl,rep_int.2 rfl,repL_nil.2 rfl⟩⟩⟩⟩) h
theorem cqq(s:List UInt8)(hs:s.length≤2000000)(h:Hp):AT 254 [.str s] h (.str (Str.quote s)):=
 azs (axv aq8) (fun w hg=>bxy ⟨s.toArray⟩ w (by rw[size_mk];exact hs)) (fun C=>rep_str.2 rfl) h
theorem cw1(k:Adr.K):(k==Adr.K.none)=((k.kind==0)&&((k.num==0)&&(k.str == []))):=by
 obtain⟨a,b,c⟩:=k;unfold Adr.K.none;rw[Yf,ZC,Zc,Zc,ZC,ZC,ZC];simp
theorem bzx(k:Adr.K)(hk:k.str.length≤2000000)(h:Hp):AT 255 [.agg [.int .i64 k.kind,.int .i64 k.num,.str k.str]] h (.bool (Adr.keyOk k)):=by
 have hv:=ayu k.str hk;refine pcall ?_ rfl (by simp[A.pure,A.data]) h;refine fo ?_;unfold Adr.keyOk;rw[cw1];obtain⟨kd,num,str⟩:=k;dsimp only at hv ⊢;by_cases h1:kd=1
 ·subst h1;refine azd ti ti ?_;refine⟨_,le_refl _,?_⟩;rw[azj,if_pos rfl]
 have e1:(kd==1)=false:=by simp[h1]
 rw[if_neg h1];by_cases h2:kd=2
 ·subst h2;refine azd ti (ai hv ti) ?_;exact⟨_,le_refl _,rfl⟩
 have e2:(kd==2)=false:=by simp[h2]
 rw[if_neg h2];have eq:eqCells [0,0,1] [.int .i64 kd,.int .i64 num,.str str] [.int .i64 0,.int .i64 0,.str []]=some ((kd==0)&&((num==0)&&(str == []))):=by simp[eqCells]
 refine azd (ai e1 (ai e2 eq)) ti ?_;exact⟨_,le_refl _,rfl⟩
theorem awb(h:Hp):AT 258 [.agg [.int .i64 0,.int .i64 0,.str []]] h (.str []):=by
 refine pcall ?_ rfl (by simp[A.pure,A.data]) h;refine fo ?_;have ck:=bzx Adr.K.none (by decide);rw[show Adr.keyOk Adr.K.none=true by decide]at ck;dsimp only[Adr.K.none]at ck;refine azd ti (ai ck ti) ?_;exact⟨_,le_refl _,rfl⟩
def keyR(s:List UInt8):Adr.K×List UInt8×Bool:=match Adr.key s with
 |none=>(Adr.K.none,[],false)
 |some (k,r)=>(k,r,true)
def keyT(r:Adr.K×List UInt8×Bool):A:=.tup [.agg [.int .i64 r.1.kind,.int .i64 r.1.num,.str r.1.str],.str r.2.1,.bool r.2.2]
theorem cwr(c:UInt8):(decide ((c.toNat:Int)≥48)&&decide ((c.toNat:Int)≤57))=Num.digB c:=by
 unfold Num.digB;have e1:decide ((c.toNat:Int)≥48)=decide (48≤c.toNat):=by rw[decide_eq_decide];omega
 have e2:decide ((c.toNat:Int)≤57)=decide (c.toNat≤57):=by rw[decide_eq_decide];omega
 rw[e1,e2]
theorem bvs(c:UInt8)(n:Nat)(hn:n<256):((c.toNat:Int)==(n:Int))=(c==UInt8.ofNat n):=by
 rw[Yf,ZC,ZC,←Z9,Z8];omega
theorem ave(c:UInt8)(n:Nat)(hn:n<256):((c.toNat:Int)!=(n:Int))=(c !=UInt8.ofNat n):=by
 show(!((c.toNat:Int)==(n:Int)))=!(c==UInt8.ofNat n)
 rw[bvs c n hn]
theorem czb(s:List UInt8)(hl:s.length≤2000000)(h:Hp):AT 248 [.str s] h (keyT (keyR s)):=by
 obtain⟨q,hq⟩:=Ex (keyR s);rw[hq];unfold keyR at hq;refine pcall ?_ (by unfold keyT;rfl) (by simp[A.pure,A.data]) h;refine fo ?_;by_cases h1:s.getD 0 0=91
 rotate_left
 ·have hk:Adr.key s=some (Adr.K.none,s):=by unfold Adr.key;rw[if_pos h1]
  rw[hk]at hq;subst hq;cases s with
  |nil =>
   refine azd ti ti ?_;exact⟨_,le_refl _,rfl⟩
  |cons c t =>
   have e0:((c::t)==([]:List UInt8))=false∧(0:Int)<((t.length+1:Nat):Int)∧((c.toNat:Int)!=91)=true:=⟨rfl,by omega,by
    have:=ave c 91 (by decide);rw[ZQ]at h1;rw[show((91:Nat):Int)=91 from rfl]at this
    rw[this];simpa using h1⟩
   refine azd e0 ti ?_;exact⟨_,le_refl _,rfl⟩
 cases s with
 |nil=>simp at h1
 |cons c t =>
 rw[ZQ]at h1;subst h1;have hl' : t.length + 1 ≤ 2000000 := hl;have e0 : (((91 : UInt8) :: t)==([] : List UInt8)) = false ∧ (0 : Int)<((t.length + 1 : Nat) : Int) ∧ (((91 : UInt8).toNat : Int)!=91) = false ∧ (0 : Int) ≤ 1 ∧ (1 : Int) ≤ ((t.length + 1 : Nat) : Int) ∧ Int.toNat 1 = 1 := ⟨rfl, by omega, rfl, by omega, by omega, rfl⟩;have hk0 : Adr.key (91 :: t) = if 1<(91 :: t).length ∧ (91 :: t).getD 1 0 = 34 then
  (let u := Str.unquote ((91 :: t).drop 1)
   let k : Adr.K := ⟨2, 0, u.1⟩
   if u.2.2 ≠ 0 ∨ (91 :: t).length ≤ u.2.1 + 1 ∨ (91 :: t).getD (u.2.1 + 1) 0 ≠ 93 ∨ ((91 :: t).take (u.2.1 + 1)).drop 1 ≠ Str.quote u.1 ∨ Adr.keyOk k = false then Option.none
   else some (k, (91 :: t).drop (u.2.1 + 2)))
 else
  (let d := ((91 :: t).drop 1).takeWhile Num.digB
   let x := Num.parse d
   if x.2 ≠ 0 ∨ (91 :: t).length ≤ d.length + 1 ∨ (91 :: t).getD (d.length + 1) 0 ≠ 93 then Option.none
   else some (⟨1, x.1, []⟩, (91 :: t).drop (d.length + 2))) := by unfold Adr.key;rw[if_neg (by simp)]
 simp only[ZU,Yx,ZK,Z6,Zh]at hk0;by_cases h2:0<t.length∧t.getD 0 0=34
 ·rw[if_pos ⟨by omega,h2.2⟩]at hk0;obtain⟨h3,h4⟩:=h2;have e1:((t.length+1:Nat):Int)>1∧(1:Int)<((t.length+1:Nat):Int)∧(((91:UInt8)::t).getD 1 0)=34∧(((34:UInt8).toNat:Int)==34)=true:=⟨by omega,by omega,by rw[ZK];exact h4,rfl⟩;have cu:=bvb t (by omega);have hwd:=Str.unquote_width t;have huv:=Str.unquote_valid t;obtain⟨⟨x,n,e⟩,hu⟩:=Ex (Str.unquote t);rw[hu]at cu hk0 hwd huv;dsimp only at cu hk0 hwd huv;by_cases g1:e=0
  rotate_left
  ·have f1:(e !=0)=true:=by simp[g1]
   rw[if_pos (.inl g1)]at hk0;rw[hk0]at hq;subst hq;refine azd (ai e0 (ai e1 f1)) (ai cu ti) ?_;exact⟨_,le_refl _,rfl⟩
  subst g1;have hn:=hwd rfl;have hxl:x.length≤2000000:=by
   have:=huv rfl;unfold Str.valid at this;rw[Zc,Zq]at this;omega
  have cq:=cqq x hxl;have ck:=bzx ⟨2,0,x⟩ hxl;have w1:IntKind.i64.wrap ((n:Int)+1)=((n+1:Nat):Int)∧IntKind.i64.wrap ((n:Int)+2)=((n+2:Nat):Int):=⟨i80 (by omega),by rw[wrap64 (by omega) (by omega)];omega⟩;by_cases g2:t.length+1≤n+1
  ·have f2:((n+1:Nat):Int)≥((t.length+1:Nat):Int):=by omega
   rw[if_pos (.inr (.inl g2))]at hk0;rw[hk0]at hq;subst hq;refine azd (ai e0 (ai e1 (ai w1 f2))) (ai cu ti) ?_;exact⟨_,le_refl _,rfl⟩
  have f2:¬((n+1:Nat):Int)≥((t.length+1:Nat):Int)∧((n+1:Nat):Int)<((t.length+1:Nat):Int)∧(0:Int)≤((n+1:Nat):Int)∧(1:Int)≤((n+1:Nat):Int)∧((n+1:Nat):Int)≤((t.length+1:Nat):Int):=⟨by omega,by omega,by omega,by omega,by omega⟩;obtain⟨c,hc⟩:=Ex (t.getD n 0);have hcn:=ave c 93 (by decide);rw[show((93:Nat):Int)=93 from rfl,show UInt8.ofNat 93=93 from rfl]at hcn;rw[hc]at hk0;by_cases g3:c=93
  rotate_left
  ·have f3:(c !=93)=true:=by simp[g3]
   rw[if_pos (.inr (.inr (.inl g3)))]at hk0;rw[hk0]at hq;subst hq;refine azd (ai e0 (ai e1 (ai w1 (ai f2 (ai hc (ai hcn f3)))))) (ai cu ti) ?_;exact⟨_,le_refl _,rfl⟩
  have f3:(c !=93)=false:=by simp[g3]
  by_cases g4:t.take n=Str.quote x
  rotate_left
  ·have f4:(t.take n !=Str.quote x)=true:=by simp[g4]
   rw[if_pos (.inr (.inr (.inr (.inl g4))))]at hk0;rw[hk0]at hq;subst hq;refine azd (ai e0 (ai e1 (ai w1 (ai f2 (ai hc (ai hcn (ai f3 f4))))))) (ai cu (ai cq ti)) ?_;exact⟨_,le_refl _,rfl⟩
  have f4:(t.take n !=Str.quote x)=false:=by simp[g4]
  dsimp only at ck;cases g5:Adr.keyOk ⟨2,0,x⟩with
  |false =>
   rw[g5]at ck;rw[if_pos (.inr (.inr (.inr (.inr g5))))]at hk0;rw[hk0]at hq;subst hq;refine azd (ai e0 (ai e1 (ai w1 (ai f2 (ai hc (ai hcn (ai f3 f4))))))) (ai cu (ai cq (ai ck ti))) ?_;exact⟨_,le_refl _,rfl⟩
  |true =>
   rw[g5]at ck;rw[if_neg (by rintro(h|h|h|h|h);exact h rfl;exact g2 h;exact h g3;exact h g4;rw[g5]at h;cases h)]at hk0;rw[hk0]at hq;subst hq;have f6:(0:Int)≤((n+2:Nat):Int)∧((n+2:Nat):Int)≤((t.length+1:Nat):Int):=⟨by omega,by omega⟩;refine azd (ai e0 (ai e1 (ai w1 (ai f2 (ai hc (ai hcn (ai f3 (ai f4 f6)))))))) (ai cu (ai cq (ai ck ti))) ?_;exact⟨_,le_refl _,rfl⟩
 rw[if_neg (fun h=>h2 ⟨by omega,h.2⟩)]at hk0;have e1:(decide (((t.length+1:Nat):Int)>1)&&((t.getD 0 0).toNat:Int)==34)=false:=by
  have hb:=bvs (t.getD 0 0) 34 (by decide);rw[show((34:Nat):Int)=34 from rfl,show UInt8.ofNat 34=34 from rfl]at hb;rw[hb];by_cases h3:0<t.length
  ·have:(t.getD 0 0==34)=false:=by simpa using fun h=>h2 ⟨h3,h⟩
   rw[this,Y6]
  ·have:decide (((t.length+1:Nat):Int)>1)=false:=by rw[YW];omega
   rw[this,Yb]
 refine azd (ai e0 e1) ti ?_;refine azf (fun m ts hh=>hh=⟨[.cells 169 [.int .i64 0,.int .i64 0,.str []]],[]⟩∧∃ j:Nat,m=t.length-j∧j≤t.length∧(t.take j).all Num.digB=true∧(ts 0=.str (91::t)∧ts 2=.ptr 0 0∧ts 9=.int .i64 ((j+1:Nat):Int))) t.length ?_ ?_
 ·exact⟨rfl,0,rfl,Zy _,rfl,by(exact azq ti)⟩
 rintro m ts hh ⟨rfl,j,rfl,hj,hall,ht⟩;have hs:(0:Int)≤((j+1:Nat):Int)∧(1:Int)≤((j+1:Nat):Int)∧((j+1:Nat):Int)≤((t.length+1:Nat):Int)∧IntKind.i64.wrap (((j+1:Nat):Int)+1)=((j+1+1:Nat):Int):=⟨by omega,by omega,by omega,i80 (by omega)⟩;have fin:(j=t.length∨Num.digB (t.getD j 0)=false)→t.takeWhile Num.digB=t.take j∧(t.takeWhile Num.digB).length=j:=fun hc=>by
  obtain⟨k1,_⟩:=avb t j hj hall hc;rw[k1,ZT];exact⟨rfl,by omega⟩
 have hpl:(t.take j).length≤2000000:=by rw[ZT];omega
 have cp:=bxk (t.take j) hpl;rcases Z4 j t.length with hlt|hge
 ·have hf:((j+1:Nat):Int)<((t.length+1:Nat):Int):=by omega
  obtain⟨c,hc⟩:=Ex (t.getD j 0);have hcc:t[j]=c:=by rw[←hc];simp[List.getD,hlt]
  have hw:=cwr c;cases hB:Num.digB c with
  |true =>
   rw[hB,Zc]at hw;have hw':=hw;refine azd (ai ht (ai hs (ai hf (ai hc hw)))) ti ?_;refine⟨_,?_,rfl,j+1,rfl,by omega,?_,by(exact azq (ai ht (ai hs hf)))⟩
   ·omega
   ·rw[ZW hlt,List.all_append,hall,hcc];simp[hB]
  |false =>
   rw[hB]at hw;obtain⟨k1,k2⟩:=fin (.inr (by rw[hc];exact hB));rw[k2,k1]at hk0;have hcn:=ave c 93 (by decide);rw[show((93:Nat):Int)=93 from rfl,show UInt8.ofNat 93=93 from rfl]at hcn;obtain⟨⟨x,e⟩,hx⟩:=Ex (Num.parse (t.take j));rw[hx]at hk0 cp;dsimp only at hk0 cp;rw[hc]at hk0;have hge:¬((j+1:Nat):Int)≥((t.length+1:Nat):Int):=by omega
   by_cases g1:e=0
   rotate_left
   ·have f1:(e !=0)=true:=by simp[g1]
    rw[if_pos (.inl g1)]at hk0;rw[hk0]at hq;subst hq;refine azd (ai ht (ai hs (ai hf (ai hc (ai hw f1))))) (ai cp ti) ?_;exact⟨_,le_refl _,rfl⟩
   have f1:(e !=0)=false:=by simp[g1]
   by_cases g2:c=93
   rotate_left
   ·have f2:(c !=93)=true:=by simp[g2]
    rw[if_pos (.inr (.inr g2))]at hk0;rw[hk0]at hq;subst hq;refine azd (ai ht (ai hs (ai hf (ai hc (ai hw (ai hge (ai hcn (ai f1 f2)))))))) (ai cp ti) ?_;exact⟨_,le_refl _,rfl⟩
   have f2:(c !=93)=false:=by simp[g2]
   rw[if_neg (by rintro(h|h|h);exact h g1;omega;exact h g2)]at hk0;rw[hk0]at hq;subst hq;have f3:(0:Int)≤((j+1+1:Nat):Int)∧((j+1+1:Nat):Int)≤((t.length+1:Nat):Int):=⟨by omega,by omega⟩;refine azd (ai ht (ai hs (ai hf (ai hc (ai hw (ai hge (ai hcn (ai f1 (ai f2 f3))))))))) (ai cp ti) ?_;exact⟨_,le_refl _,rfl⟩
 ·have hf:¬((j+1:Nat):Int)<((t.length+1:Nat):Int):=by omega
  obtain⟨k1,k2⟩:=fin (.inl (by omega));rw[k2,k1]at hk0;obtain⟨⟨x,e⟩,hx⟩:=Ex (Num.parse (t.take j));rw[hx]at hk0 cp;dsimp only at hk0 cp;rw[if_pos (.inr (.inl (by omega)))]at hk0;rw[hk0]at hq;subst hq;have hge:((j+1:Nat):Int)≥((t.length+1:Nat):Int):=by omega
  by_cases g1:e=0
  ·have f1:(e !=0)=false:=by simp[g1]
   refine azd (ai ht (ai hs (ai hf (ai hge f1)))) (ai cp ti) ?_;exact⟨_,le_refl _,rfl⟩
  ·have f1:(e !=0)=true:=by simp[g1]
   refine azd (ai ht (ai hs (ai hf f1))) (ai cp ti) ?_;exact⟨_,le_refl _,rfl⟩
def stepR(s:List UInt8):Adr.Step×List UInt8×Bool:=
 (⟨(s.drop 7).takeWhile Adr.wordB,(keyR ((s.drop 7).dropWhile Adr.wordB)).1⟩,(keyR ((s.drop 7).dropWhile Adr.wordB)).2.1,(keyR ((s.drop 7).dropWhile Adr.wordB)).2.2&&Adr.ident ((s.drop 7).takeWhile Adr.wordB))
theorem cjq(s:List UInt8)(hl:s.length≤2000000)(h7:7≤s.length)(h:Hp):AT 245 [.str s] h (.tup [.agg (stepR s).1.cells,.str (stepR s).2.1,.bool (stepR s).2.2]):=by
 have cw:=bz5 (s.drop 7) (by rw[ZB];omega);have w1:((s.drop 7).takeWhile Adr.wordB).length≤2000000:=Zn (List.takeWhile_prefix _).length_le (by rw[ZB];omega);have w2:((s.drop 7).dropWhile Adr.wordB).length≤2000000:=Zn (List.dropWhile_suffix _).length_le (by rw[ZB];omega);have ck:=czb _ w2;have ci:=aq0 _ w1;unfold stepR;refine pcall ?_ rfl (by simp[A.pure,A.data]) h;obtain⟨W,hW⟩:=Ex ((s.drop 7).takeWhile Adr.wordB);obtain⟨R,hR⟩:=Ex ((s.drop 7).dropWhile Adr.wordB);rw[hW]at cw ci ⊢;rw[hR]at cw ck ⊢;obtain⟨⟨⟨a,b,d⟩,r,ok⟩,hk⟩:=Ex (keyR R);rw[hk]at ck ⊢;unfold keyT at ck;dsimp only at ck ⊢;dsimp only[Adr.Step.cells];refine fo ?_;have hs:(0:Int)≤7∧(7:Int)≤(s.length:Int)∧Int.toNat 7=7:=⟨by decide,by omega,rfl⟩;have tk:s.take s.length=s:=Yk;refine azd hs (ai cw (ai ck (ai ci ti))) ?_;exact⟨_,le_refl _,rfl⟩
def preP(acc:List Adr.Step)(r:Option (Adr.Ad×Bool)):Option (Adr.Ad×Bool):=r.map fun p=>({ p.1 with mods:=acc++p.1.mods },p.2)
def placeT:Option (Adr.Ad×Bool)→A
 |none => .tup [.agg [.sl 0 .nil [],.bool false,.str [],.str [],.int .i64 0,.int .i64 0,.str [],.bool false],.bool false]
 |some (p,w) => .tup [.agg [.sl 4 .no (p.mods.map Adr.Step.cells),.bool p.data,.str p.type,.str p.name,.int .i64 p.key.kind,.int .i64 p.key.num,.str p.key.str,.bool w],.bool true]
theorem bve(r:Option (Adr.Ad×Bool)):(placeT r).pure=true:=by
 cases r with
 |none=>rfl
 |some p=>rfl
theorem ckb(s:List UInt8):Adr.step s=if(stepR s).2.2=true then some ((stepR s).1,(stepR s).2.1)else none:=by
 unfold Adr.step stepR keyR;cases Adr.key ((s.drop 7).dropWhile Adr.wordB)with
 |none=>simp
 |some p =>
  obtain⟨k,r⟩:=p;simp only[Zx]
theorem bqn(acc:List Adr.Step)(p:Adr.Ad)(w:Bool):preP acc (some (p,w))=some ({ p with mods:=acc++p.mods },w):=rfl
set_option maxHeartbeats 8000000 in
theorem czq(s0:List UInt8)(hl:s0.length≤2000000)(h:Hp):AT 234 [.str s0] h (placeT (Adr.place (s0.length+1) s0)):=by
 refine pcall ?_ (bve _) (by simp[A.pure,A.data]) h;obtain⟨q,hq⟩:=Ex (Adr.place (s0.length+1) s0);rw[hq];refine fo ?_;refine azd ti ti ?_
 refine azf (fun m ts hh=>∃(s:List UInt8) (acc:List Adr.Step) (f:Nat) (W:Nat) (o:Own) (l:List Blk) (t:List (TypeId×Nat×Nat)),m=s.length∧s.length<f∧acc.length+s.length≤s0.length∧q=preP acc (Adr.place f s) ∧
  hh=⟨.cells 267 [.sl 0 .nil [],.bool false,.str [],.str [],.int .i64 0,.int .i64 0,.str [],.bool false] :: .cells 267 [.sl W o (acc.map Adr.Step.cells),.bool false,.str [],.str [],.int .i64 0,.int .i64 0,.str [],.bool false]::l,t⟩ ∧
  Gs 198 4 0 ⟨[],t⟩ (acc.map Adr.Step.cells) (.sl W o (acc.map Adr.Step.cells))∧(ts 0=.str s∧ts 2=.ptr 0 0∧ts 4=.ptr 1 0)) s0.length ?_ ?_
 ·exact⟨s0,[],s0.length+1,0,.nil,[],[],rfl,Nat.lt_succ_self _,by simp,by rw[←hq];unfold preP;cases Adr.place (s0.length+1) s0<;>rfl,rfl,.inl ⟨rfl,rfl⟩,by(exact azq ti)⟩
 rintro m ts hh ⟨s,acc,f,W,o,l,t,rfl,hf,hal,hp,rfl,gX,ht⟩;obtain⟨f,rfl⟩:∃ g,f=g+1:=⟨f-1,by omega⟩;unfold Adr.place at hp;have cb:=ayk s Adr.modW (by omega) (by decide);cases hB:Adr.begins s Adr.modW with
 |true =>
  rw[hB]at cb;rw[hB,if_pos rfl,ckb]at hp;have h7:7≤s.length:=Adr.begins_len hB;have cs:=cjq s (by omega) h7;have hsr:=Adr.step_rest s;rw[ckb]at hsr;dsimp only[Adr.modW]at cb;obtain⟨⟨⟨xn,kk,kn,ks⟩,rest,ok⟩,hR⟩:=Ex (stepR s);rw[hR]at cs hp hsr;dsimp only[Adr.Step.cells]at cs hp hsr;cases ok with
  |false =>
   rw[if_neg (by decide)]at hp;have hq0:q=none:=hp;subst hq0;refine azd ht (ai cb (ai cs ti)) ?_;exact⟨_,le_refl _,rfl⟩
  |true =>
  rw[if_pos rfl]at hp hsr;have hrl:=hsr _ _ rfl;dsimp only at hp;have hrow:(acc++[(⟨xn,⟨kk,kn,ks⟩⟩:Adr.Step)]).map Adr.Step.cells=acc.map Adr.Step.cells++[[.str xn,.int .i64 kk,.int .i64 kn,.str ks]]:=by rw[Zan];rfl
  obtain⟨W',o',t',hX,gX',_⟩:=gX.grow 48 [.str xn,.int .i64 kk,.int .i64 kn,.str ks] (by rw[Zj];omega) (by decide);rw[←hrow]at gX';simp only[←hrow]at hX;by_cases hr0:rest=[]
  ·subst hr0;rw[if_pos rfl]at hp;rw[bqn]at hp;subst hp;refine azd (ai ht hX) (ai cb (ai cs ti)) ?_;refine⟨placeT _,?_,rfl⟩;exact⟨⟨gX'.le,rfl,rfl,rfl,rfl,rfl,rfl,rfl,trivial⟩,rfl,trivial⟩
  rw[if_neg hr0]at hp;have hr0':(rest==([]:List UInt8))=false:=by simpa using hr0
  have hpos:0<rest.length:=YK.2 hr0;have hr1:(0:Int)<(rest.length:Int)∧(0:Int)≤1∧(1:Int)≤(rest.length:Int)∧Int.toNat 1=1∧rest.take rest.length=rest:=⟨by omega,by omega,by omega,rfl,Yk⟩;obtain⟨c,hc⟩:=Ex (rest.getD 0 0);have hcn:=ave c 46 (by decide);rw[show((46:Nat):Int)=46 from rfl,show UInt8.ofNat 46=46 from rfl]at hcn;rw[hc]at hp;by_cases hd:c=46
  rotate_left
  ·have e1:(c !=46)=true:=by simp[hd]
   rw[if_pos hd]at hp;have hq0:q=none:=hp;subst hq0;refine azd (ai ht (ai hX (ai hr0' (ai hr1 (ai hc (ai hcn e1)))))) (ai cb (ai cs ti)) ?_;exact⟨_,le_refl _,rfl⟩
  have e1:(c !=46)=false:=by simp[hd]
  rw[if_neg (by simp[hd])]at hp;refine azd (ai ht (ai hX (ai hr0' (ai hr1 (ai hc (ai hcn e1)))))) (ai cb (ai cs ti)) ?_;refine⟨(rest.drop 1).length,by rw[ZB];omega,rest.drop 1,acc++[⟨xn,⟨kk,kn,ks⟩⟩],f,W',o',_,t',rfl,by rw[ZB];omega,by rw[Za,ZB];simp;omega,?_,rfl,gX',by(exact azq (ai ht hr1))⟩;rw[hp];unfold preP;cases Adr.place f (rest.drop 1)with
  |none=>rfl
  |some p=>simp
 |false =>
  rw[hB]at cb;rw[hB,if_neg (by decide)]at hp;dsimp only[Adr.modW]at cb;have cd:=ayk s Adr.dataW (by omega) (by decide);obtain⟨dt,hdt⟩:=Ex (Adr.begins s Adr.dataW);have hdl:dt=true→5≤s.length:=fun e=>Adr.begins_len (s:=s) (p:=Adr.dataW) (by rw[hdt];exact e)
  unfold Adr.last at hp;dsimp only at hp;rw[hdt]at cd hp;dsimp only[Adr.dataW]at cd;obtain⟨tt,htt⟩:=Ex ((if dt=true then s.drop 5 else s));rw[htt]at hp;have htl:tt.length≤2000000:=by
   rw[←htt];split
   ·rw[ZB];omega
   ·omega
  refine azd ht (ai cb (ai cd ti)) ?_;refine bzl (fun ts' h'=>h'=⟨.cells 267 [.sl 0 .nil [],.bool false,.str [],.str [],.int .i64 0,.int .i64 0,.str [],.bool false] :: .cells 267 [.sl W o (acc.map Adr.Step.cells),.bool dt,.str [],.str [],.int .i64 0,.int .i64 0,.str [],.bool false]::l,t⟩∧(ts' 0=.str tt∧ts' 2=.ptr 0 0∧ts' 4=.ptr 1 0)) ?_ ?_
  ·cases dt with
   |false =>
    rw[if_neg (by decide)]at htt;subst htt;refine azd ht ti ?_;exact⟨rfl,by(exact azq ht)⟩
   |true =>
    rw[if_pos rfl]at htt;have h5:=hdl rfl;have h5':(0:Int)≤5∧(5:Int)≤(s.length:Int)∧Int.toNat 5=5∧s.take s.length=s:=⟨by decide,by omega,rfl,Yk⟩;refine azd (ai ht h5') ti ?_;exact⟨rfl,by(exact azq (ai ht (ai htt h5')))⟩
  rintro ts hh ⟨rfl,hu⟩;have cw:=bz5 tt htl;have w1:(tt.takeWhile Adr.wordB).length≤2000000:=Zn (List.takeWhile_prefix _).length_le htl;have w2:(tt.dropWhile Adr.wordB).length≤2000000:=Zn (List.dropWhile_suffix _).length_le htl;have ci:=aq0 _ w1;have cr:=czs (tt.takeWhile Adr.wordB);obtain⟨typ,htyp⟩:=Ex (tt.takeWhile Adr.wordB);obtain⟨r,hr⟩:=Ex (tt.dropWhile Adr.wordB);rw[htyp]at cw ci cr hp;rw[hr]at cw hp w2;have hkb:Adr.kindB typ=(!Adr.reserved typ&&Adr.ident typ):=rfl;have bad:(Adr.kindB typ=false∨r.getD 0 0≠46)→q=none:=fun hb=>by rw[hp,if_pos hb];rfl
  cases hI:Adr.ident typ with
  |false =>
   rw[hI]at ci;have hq0:=bad (.inl (by rw[hkb,hI];simp));subst hq0;refine azd hu (ai cw (ai ci ti)) ?_;exact⟨_,le_refl _,rfl⟩
  |true =>
  rw[hI]at ci;cases hRs:Adr.reserved typ with
  |true =>
   rw[hRs]at cr;have hq0:=bad (.inl (by rw[hkb,hRs];rfl));subst hq0;refine azd hu (ai cw (ai ci (ai cr ti))) ?_;exact⟨_,le_refl _,rfl⟩
  |false =>
  rw[hRs]at cr;cases r with
  |nil =>
   have hq0:=bad (.inr (by simp));subst hq0;refine azd hu (ai cw (ai ci (ai cr ti))) ?_;exact⟨_,le_refl _,rfl⟩
  |cons c r' =>
  have hr1:((c::r')==([]:List UInt8))=false∧(0:Int)<((r'.length+1:Nat):Int)∧(0:Int)≤1∧(1:Int)≤((r'.length+1:Nat):Int)∧Int.toNat 1=1∧r'.take r'.length=r':=⟨rfl,by omega,by omega,by omega,rfl,Yk⟩;have hcn:=ave c 46 (by decide);rw[show((46:Nat):Int)=46 from rfl,show UInt8.ofNat 46=46 from rfl]at hcn;by_cases hd:c=46
  rotate_left
  ·have e1:(c !=46)=true:=by simp[hd]
   have hq0:=bad (.inr (by simpa using hd));subst hq0;refine azd (ai hu (ai hr1 (ai hcn e1))) (ai cw (ai ci (ai cr ti))) ?_;exact⟨_,le_refl _,rfl⟩
  have e1:(c !=46)=false:=by simp[hd]
  rw[if_neg (by rw[hkb,hRs,hI];simpa using hd),ZU,Yx]at hp;have hr'l:r'.length≤2000000:=by simp only[Zh]at w2;omega
  have cw2:=bz5 r' hr'l;have w3:(r'.takeWhile Adr.wordB).length≤2000000:=Zn (List.takeWhile_prefix _).length_le hr'l;have w4:(r'.dropWhile Adr.wordB).length≤2000000:=Zn (List.dropWhile_suffix _).length_le hr'l;have ci2:=aq0 _ w3;have ck:=czb _ w4;obtain⟨nm,hnm⟩:=Ex (r'.takeWhile Adr.wordB);obtain⟨r2,hr2⟩:=Ex (r'.dropWhile Adr.wordB);rw[hnm]at cw2 ci2 hp;rw[hr2]at cw2 ck hp;have hkR:Adr.key r2=if(keyR r2).2.2=true then some ((keyR r2).1,(keyR r2).2.1)else none:=by
   unfold keyR;cases Adr.key r2 with
   |none=>simp
   |some p=>simp
  rw[hkR]at hp;obtain⟨⟨⟨ka,kb,kc⟩,rst,ok⟩,hK⟩:=Ex (keyR r2);rw[hK]at ck hp;unfold keyT at ck;dsimp only at ck hp;cases hI2:Adr.ident nm with
  |false =>
   rw[hI2]at ci2;have hq0:q=none:=by
    rw[hp];cases ok with
    |false=>rfl
    |true =>
     rw[if_pos rfl];dsimp only;rw[if_neg (by rw[hI2];simp)];rfl
   subst hq0;refine azd (ai hu (ai hr1 (ai hcn e1))) (ai cw (ai ci (ai cr (ai cw2 (ai ck (ai ci2 ti)))))) ?_;exact⟨_,le_refl _,rfl⟩
  |true =>
  rw[hI2]at ci2;cases ok with
  |false =>
   have hq0:q=none:=hp;subst hq0;refine azd (ai hu (ai hr1 (ai hcn e1))) (ai cw (ai ci (ai cr (ai cw2 (ai ck (ai ci2 ti)))))) ?_;exact⟨_,le_refl _,rfl⟩
  |true =>
  rw[if_pos rfl]at hp;dsimp only at hp;by_cases hrst:rst=[]
  rotate_left
  ·have e2:(rst !=([]:List UInt8))=true:=by simpa using hrst
   rw[if_neg (fun h=>hrst h.2)]at hp;have hq0:q=none:=hp;subst hq0;refine azd (ai hu (ai hr1 (ai hcn (ai e1 e2)))) (ai cw (ai ci (ai cr (ai cw2 (ai ck (ai ci2 ti)))))) ?_;exact⟨_,le_refl _,rfl⟩
  subst hrst;rw[if_pos ⟨hI2,rfl⟩]at hp;dsimp only at hp;rw[bqn]at hp;dsimp only at hp;rw[Zr]at hp;subst hp;refine azd (ai hu (ai hr1 (ai hcn e1))) (ai cw (ai ci (ai cr (ai cw2 (ai ck (ai ci2 ti)))))) ?_;refine⟨placeT _,?_,rfl⟩;exact⟨⟨gX.le,rfl,rfl,rfl,rfl,rfl,rfl,rfl,trivial⟩,rfl,trivial⟩
theorem bqu(s:List UInt8)(hl:s.length≤2000000)(h:Hp):AT 219 [.str s] h (.tup [.agg (Adr.parse s).1.cells,.int .i64 (Adr.parse s).2]):=by
 have cp:=czq s hl;refine pcall ?_ (by simp[A.pure,A.data,Adr.Ad.cells]) (by simp[A.pure,A.data]) h;unfold Adr.parse;refine fo ?_;cases hP:Adr.place (s.length+1) s with
 |none =>
  rw[hP]at cp;dsimp only[placeT]at cp;refine azd ti (ai cp ti) ?_;exact⟨.tup [.agg (Adr.Ad.cells Adr.Ad.zero),.int .i64 2],⟨⟨⟨rfl,.inr rfl,.inl rfl⟩,rfl,rfl,rfl,rfl,rfl,rfl,trivial⟩,rfl,trivial⟩,rfl⟩
 |some p =>
  rw[hP]at cp;obtain⟨⟨mods,data,ty,nm,ka,kb,kc⟩,w⟩:=p;dsimp only[placeT]at cp;have lm:(mods.map Adr.Step.cells).length=mods.length:=Zj _;cases w with
  |false =>
   refine azd ti (ai cp ti) ?_;exact⟨.tup [.agg (Adr.Ad.cells Adr.Ad.zero),.int .i64 2],⟨⟨⟨rfl,.inr rfl,.inl rfl⟩,rfl,rfl,rfl,rfl,rfl,rfl,trivial⟩,rfl,trivial⟩,rfl⟩
  |true =>
   dsimp only;by_cases h16:16<mods.length
   ·have e1:(mods.length:Int)>16:=by omega
    rw[if_pos h16];refine azd (ai lm e1) (ai cp ti) ?_;exact⟨.tup [.agg (Adr.Ad.cells Adr.Ad.zero),.int .i64 4],⟨⟨⟨rfl,.inr rfl,.inl rfl⟩,rfl,rfl,rfl,rfl,rfl,rfl,trivial⟩,rfl,trivial⟩,rfl⟩
   ·have e1:¬(mods.length:Int)>16:=by omega
    rw[if_neg h16];refine azd (ai lm e1) (ai cp ti) ?_;exact⟨_,le_refl _,rfl⟩
theorem ax0{α:Type}(f:α→List A)(l:List α)(i:Nat)(h:i<l.length)(hl:l.length≤4611686018427387904) :
  (l.map f).length=l.length∧(i:Int)<(l.length:Int)∧(0:Int)≤(i:Int)∧(l.map f).getD i []=f l[i]∧IntKind.i64.wrap ((i:Int)+1)=((i+1:Nat):Int):=
 ⟨Zj _,by omega,by omega,az0 f l i h,by rw[wrap64 (by omega) (by omega)];omega⟩
theorem cq2(a:Adr.Ad)(hi:Adr.In a)(h:Hp):AT 256 [.agg a.cells] h (.int .i64 (Adr.check a)):=by
 obtain⟨mods,data,ty,nm,⟨ka,kb,kc⟩⟩:=a;obtain⟨hn,hm,ht,ha,hk⟩:=hi;dsimp only at hn hm ht ha hk;obtain⟨q,hq⟩:=Ex (Adr.check ⟨mods,data,ty,nm,⟨ka,kb,kc⟩⟩);rw[hq];unfold Adr.check at hq;dsimp only at hq;refine pcall ?_ rfl (by simp[A.pure,A.data,Adr.Ad.cells]) h;refine fo ?_;dsimp only[Adr.Ad.cells];have lm:(mods.map Adr.Step.cells).length=mods.length:=Zj _;by_cases h16:16<mods.length
 ·have e1:(mods.length:Int)>16:=by omega
  rw[if_pos h16]at hq;subst hq;refine azd (ai lm e1) ti ?_;exact⟨_,le_refl _,rfl⟩
 have e1:¬(mods.length:Int)>16:=by omega
 rw[if_neg h16]at hq;refine azd (ai lm e1) ti ?_;refine azf (fun m ts hh=>hh=⟨[.cells 171 [.sl 4 .no (mods.map Adr.Step.cells),.bool data,.str ty,.str nm,.int .i64 ka,.int .i64 kb,.str kc]],[]⟩∧∃ j:Nat,m=mods.length-j∧j≤mods.length∧(mods.drop j).find? (fun s=>!(Adr.ident s.name&&Adr.keyOk s.key))=mods.find? (fun s=>!(Adr.ident s.name&&Adr.keyOk s.key))∧(ts 1=.ptr 0 0∧ts 3=.int .i64 (j:Nat))) mods.length ?_ ?_
 ·exact⟨rfl,0,rfl,Zy _,rfl,by(exact azq ti)⟩
 rintro m ts hh ⟨rfl,j,rfl,hj,hfd,hu⟩;rcases Z4 j mods.length with hlt|hge
 ·have hf:=ax0 Adr.Step.cells mods j hlt (by omega);have hmj:=hm _ (Zp hlt);rw[Zo hlt,List.find?_cons]at hfd;obtain⟨x,hx⟩:=Ex (mods[j]);rw[hx]at hf hmj hfd;obtain⟨xn,⟨ja,jb,jc⟩⟩:=x;dsimp only[Adr.Step.cells]at hf hmj hfd;have ci:=aq0 xn hmj.1;have ck:=bzx ⟨ja,jb,jc⟩ hmj.2;dsimp only at ck;cases hI:Adr.ident xn with
  |false =>
   rw[hI]at ci hfd;simp only[Yb,ZM]at hfd;rw[←hfd]at hq;dsimp only at hq;rw[if_neg (by rw[hI];decide)]at hq;subst hq;refine azd (ai hu hf) (ai ci ti) ?_;exact⟨_,le_refl _,rfl⟩
  |true =>
  rw[hI]at ci hfd;cases hK:Adr.keyOk ⟨ja,jb,jc⟩with
  |false =>
   rw[hK]at ck hfd;simp only[Y6,ZM]at hfd;rw[←hfd]at hq;dsimp only at hq;rw[if_pos hI]at hq;subst hq;refine azd (ai hu hf) (ai ci (ai ck ti)) ?_;exact⟨_,le_refl _,rfl⟩
  |true =>
   rw[hK]at ck hfd;simp only[Z0,ZR]at hfd;refine azd (ai hu hf) (ai ci (ai ck ti)) ?_;exact⟨_,by omega,rfl,j+1,rfl,by omega,hfd,by(exact azq (ai hu hf))⟩
 ·have hf:=ai lm (show¬(j:Int)<(mods.length:Int) by omega);rw[Zw hge]at hfd;rw[←hfd]at hq;simp only[List.find?_nil]at hq;have ci:=aq0 ty ht;have cr:=czs ty;have ci2:=aq0 nm ha;have ck:=bzx ⟨ka,kb,kc⟩ hk;dsimp only at ck;have hkb:Adr.kindB ty=(!Adr.reserved ty&&Adr.ident ty):=rfl;rw[hkb]at hq;cases hI:Adr.ident ty with
  |false =>
   rw[hI]at ci hq;simp only[Y6,ZM,YT,if_true]at hq;subst hq;refine azd (ai hu hf) (ai ci ti) ?_;exact⟨_,le_refl _,rfl⟩
  |true =>
  rw[hI]at ci hq;cases hR:Adr.reserved ty with
  |true =>
   rw[hR]at cr hq;simp only[ZR,Yb,ZM,YT,if_true]at hq;subst hq;refine azd (ai hu hf) (ai ci (ai cr ti)) ?_;exact⟨_,le_refl _,rfl⟩
  |false =>
  rw[hR]at cr hq;cases hN:Adr.ident nm with
  |false =>
   rw[hN]at ci2 hq;simp only[ZM,Zx,ZR,Ys,if_true]at hq;subst hq;refine azd (ai hu hf) (ai ci (ai cr (ai ci2 ti))) ?_;exact⟨_,le_refl _,rfl⟩
  |true =>
  rw[hN]at ci2 hq;simp only[ZM,Zx,ZR,Ys,Zk,if_false]at hq;cases hK:Adr.keyOk ⟨ka,kb,kc⟩with
  |false =>
   rw[hK]at ck hq;simp only[ZM,if_true]at hq;subst hq;refine azd (ai hu hf) (ai ci (ai cr (ai ci2 (ai ck ti)))) ?_;exact⟨_,le_refl _,rfl⟩
  |true =>
   rw[hK]at ck hq;simp only[ZR,Zk,if_false]at hq;subst hq;refine azd (ai hu hf) (ai ci (ai cr (ai ci2 (ai ck ti)))) ?_;exact⟨_,le_refl _,rfl⟩
theorem cx3(a:Adr.Ad)(hn:a.mods.length≤3000000)(h:Hp):AT 250 [.agg a.cells] h (.agg (Adr.bare a).cells):=by
 obtain⟨mods,data,ty,nm,⟨ka,kb,kc⟩⟩:=a;dsimp only at hn;refine pcall ?_ (by simp[A.pure,A.data,Adr.Ad.cells]) (by simp[A.pure,A.data,Adr.Ad.cells]) h;refine fo ?_;dsimp only[Adr.Ad.cells,Adr.bare,Adr.K.none];have lm:(mods.map Adr.Step.cells).length=mods.length:=Zj _;refine azd lm ti ?_
 refine azf (fun m ts hh=>∃(j W:Nat) (o:Own) (t:List (TypeId×Nat×Nat)),m=mods.length-j∧j≤mods.length ∧
  hh=⟨[.cells 171 [.sl 4 .no (mods.map Adr.Step.cells),.bool data,.str ty,.str nm,.int .i64 ka,.int .i64 kb,.str kc],.cells 171 [.sl 0 .nil [],.bool false,.str [],.str [],.int .i64 0,.int .i64 0,.str []],.cells 171 [.sl W o (((mods.take j).map fun s=>(⟨s.name,Adr.K.none⟩:Adr.Step)).map Adr.Step.cells),.bool data,.str ty,.str nm,.int .i64 0,.int .i64 0,.str []]],t⟩ ∧
  Gs 198 4 0 ⟨[],t⟩ (((mods.take j).map fun s=>(⟨s.name,Adr.K.none⟩:Adr.Step)).map Adr.Step.cells) (.sl W o (((mods.take j).map fun s=>(⟨s.name,Adr.K.none⟩:Adr.Step)).map Adr.Step.cells))∧(ts 1=.ptr 0 0∧ts 2=.ptr 1 0∧ts 3=.ptr 2 0∧ts 4=.int .i64 (j:Nat))) mods.length ?_ ?_
 ·exact⟨0,0,.nil,[],rfl,Zy _,rfl,.inl ⟨rfl,rfl⟩,by(exact azq ti)⟩
 rintro m ts hh ⟨j,W,o,t,rfl,hj,rfl,gX,hu⟩;rcases Z4 j mods.length with hlt|hge
 ·have hf:=ax0 Adr.Step.cells mods j hlt (by omega);have htk:=ZW hlt;obtain⟨x,hx⟩:=Ex (mods[j]);rw[hx]at hf htk;obtain⟨xn,⟨ja,jb,jc⟩⟩:=x;dsimp only[Adr.Step.cells]at hf;have hrow:((mods.take (j+1)).map fun s=>(⟨s.name,Adr.K.none⟩:Adr.Step)).map Adr.Step.cells=((mods.take j).map fun s=>(⟨s.name,Adr.K.none⟩:Adr.Step)).map Adr.Step.cells++[[.str xn,.int .i64 0,.int .i64 0,.str []]]:=by
   rw[htk,Zan,Zan];rfl
  have hrl:(((mods.take j).map fun s=>(⟨s.name,Adr.K.none⟩:Adr.Step)).map Adr.Step.cells).length+1≤1000000000:=by
   rw[Zj,Zj,ZT];omega
  obtain⟨W',o',t',hX,gX',_⟩:=gX.grow 48 [.str xn,.int .i64 0,.int .i64 0,.str []] hrl (by decide);rw[←hrow]at gX';simp only[←hrow]at hX;refine azd (ai hu (ai hf hX)) ti ?_;exact⟨_,by omega,j+1,W',o',t',rfl,by omega,rfl,gX',by(exact azq (ai hu hf))⟩
 ·have hf:=ai lm (show¬(j:Int)<(mods.length:Int) by omega);rw[ZJ hge]at gX ⊢;refine azd (ai hu hf) ti ?_;exact⟨.agg [.sl 4 .no ((mods.map fun s=>(⟨s.name,Adr.K.none⟩:Adr.Step)).map Adr.Step.cells),.bool data,.str ty,.str nm,.int .i64 0,.int .i64 0,.str []],⟨gX.le,rfl,rfl,rfl,rfl,rfl,rfl,trivial⟩,rfl⟩
theorem by2(mods:List Adr.Step)(hn:mods.length≤16)(hm:∀ s∈mods,s.name.length≤2000000)(hk:∀ s∈mods,s.key=Adr.K.none)(h:Hp):AT 257 [.sl 4 .no (mods.map Adr.Step.cells)] h (.str (mods.flatMap stepB)):=by
 refine pcall ?_ rfl (by simp[A.pure,A.data]) h;refine fo ?_;have cf:=awb;refine azd ti ti ?_;refine azf (fun m ts hh=>hh=⟨[],[]⟩∧∃ j:Nat,m=mods.length-j∧j≤mods.length∧(ts 0=.sl 4 .no (mods.map Adr.Step.cells)∧ts 3=.str ((mods.take j).flatMap stepB)∧ts 4=.int .i64 (j:Nat))) mods.length ?_ ?_
 ·exact⟨rfl,0,rfl,Zy _,by(exact azq ti)⟩
 rintro m ts hh ⟨rfl,j,rfl,hj,hu⟩;rcases Z4 j mods.length with hlt|hge
 ·have hf:=ax0 Adr.Step.cells mods j hlt (by omega);have hmj:=hm _ (Zp hlt);have hkj:=hk _ (Zp hlt);have hsn:=bvw stepB mods j hlt;have hacc:((mods.take j).flatMap stepB).length≤32000128:=by
   have h2:(mods.take j).length≤16:=by rw[ZT];omega
   exact Zn (aj6 (mods.take j) fun s hs=>hm s (List.mem_of_mem_take hs)) (Zn (YZ 2000008 h2) (by decide))
  obtain⟨x,hx⟩:=Ex (mods[j]);rw[hx]at hf hmj hkj hsn;obtain⟨xn,xk⟩:=x;dsimp only at hkj hmj;subst hkj;dsimp only[Adr.Step.cells,Adr.K.none]at hf;obtain⟨P,hP⟩:=Ex ((mods.take j).flatMap stepB);rw[hP]at hu hsn hacc;have l1:P.length+7<1099511627776∧P.length+7+xn.length<1099511627776∧P.length+7+xn.length+1<1099511627776∧P.length+(7+xn.length)<1099511627776∧P.length+(7+xn.length)+1<1099511627776∧P.length+(xn.length+7)<1099511627776∧P.length+(xn.length+7)+1<1099511627776∧P.length+7+xn.length+0<1099511627776:=⟨by omega,by omega,by omega,by omega,by omega,by omega,by omega,by omega⟩;refine azd (ai hu (ai hf l1)) (ai cf ti) ?_;refine⟨_,by omega,rfl,j+1,rfl,by omega,?_⟩;have e:P++[109,111,100,117,108,101,46]++xn++[46]=(mods.take (j+1)).flatMap stepB:=by
   rw[hsn];unfold stepB;simp[Adr.modW]
  (exact azq (ai hu (ai hf e)))
 ·have hf:=ai (show(mods.map Adr.Step.cells).length=mods.length from Zj _) (show¬(j:Int)<(mods.length:Int) by omega);rw[ZJ hge]at hu;refine azd (ai hu hf) ti ?_;exact⟨_,le_refl _,rfl⟩
theorem bja(a:Adr.Ad)(hi:Adr.In a)(hk:∀ s∈a.mods,s.key=Adr.K.none)(hkk:a.key=Adr.K.none)(h:Hp):AT 249 [.agg a.cells] h (.str (Adr.fmt a)):=by
 have cc:=fun h=>cq2 a hi h
 obtain⟨mods,data,ty,nm,key⟩:=a;dsimp only at hk hkk;subst hkk;have hfb:=bv7 mods data ty nm hk;obtain⟨hn,hm,ht,ha,_⟩:=hi;dsimp only at hn hm ht ha;refine pcall ?_ rfl (by simp[A.pure,A.data,Adr.Ad.cells]) h;refine fo ?_;dsimp only[Adr.Ad.cells,Adr.K.none]at cc ⊢;by_cases hc0:Adr.check ⟨mods,data,ty,nm,Adr.K.none⟩=0
 rotate_left
 ·have e1:(Adr.check ⟨mods,data,ty,nm,Adr.K.none⟩!=0)=true:=by simp[hc0]
  have hfz:Adr.fmt ⟨mods,data,ty,nm,Adr.K.none⟩=[]:=by unfold Adr.fmt;rw[if_pos hc0]
  unfold Adr.K.none at e1 hfz;refine azd e1 (ai cc ti) ?_;exact⟨_,le_refl _,by rw[hfz];rfl⟩
 have e1:(Adr.check ⟨mods,data,ty,nm,Adr.K.none⟩!=0)=false:=by simp[hc0]
 have hf:=hfb hc0;have hn16:mods.length≤16:=by
  rcases Z4 16 mods.length with h16|h16
  ·unfold Adr.check at hc0;rw[if_pos h16]at hc0;exact absurd hc0 (by decide)
  ·exact h16
 have hlenall:=aj6 mods fun s hs=>(hm s hs).1
 have cs:=by2 mods hn16 (fun s hs=>(hm s hs).1) hk;have cf:=awb;unfold Adr.K.none at e1 hf;rw[hf];obtain⟨P,hP⟩:=Ex (mods.flatMap stepB);rw[hP]at cs hlenall ⊢;have hPl:P.length≤32000128:=Zn hlenall (Zn (YZ 2000008 hn16) (by decide));cases data with
 |false =>
  have l1:P.length+ty.length<1099511627776∧P.length+ty.length+1<1099511627776∧P.length+ty.length+1+nm.length<1099511627776∧P.length+(ty.length+1)<1099511627776∧P.length+(ty.length+1)+nm.length<1099511627776∧P.length+(ty.length+(1+nm.length))<1099511627776:=⟨by omega,by omega,by omega,by omega,by omega,by omega⟩;refine azd (ai e1 l1) (ai cc (ai cs (ai cf ti))) ?_;exact⟨_,le_refl _,by simp[azj]⟩
 |true =>
  have l1:P.length+5<1099511627776∧P.length+5+ty.length<1099511627776∧P.length+5+ty.length+1<1099511627776∧P.length+5+ty.length+1+nm.length<1099511627776:=⟨by omega,by omega,by omega,by omega⟩;refine azd (ai e1 l1) (ai cc (ai cs (ai cf ti))) ?_;exact⟨_,le_refl _,by simp[azj,Adr.dataW]⟩
theorem bw0(s:List UInt8)(hl:s.length≤2000000)(hin:Adr.In (Adr.bare (Adr.parse s).1))(h:Hp):AT 236 [.str s] h (.tup [.str (Adr.static s).1,.int .i64 (Adr.static s).2]):=by
 have cp:=bqu s hl;have cb:=cx3 (Adr.parse s).1 (by have:=hin.n;simpa [Adr.bare]using this)
 have cf:=bja (Adr.bare (Adr.parse s).1) hin (fun x hx=>by
  simp only[Adr.bare,Zaa]at hx;obtain⟨y,_,rfl⟩:=hx
  rfl) rfl
 refine pcall ?_ rfl (by simp[A.pure,A.data]) h;refine fo ?_;unfold Adr.static;obtain⟨⟨⟨mods,data,ty,nm,⟨ka,kb,kc⟩⟩,e⟩,hP⟩:=Ex (Adr.parse s);rw[hP]at cp cb cf ⊢;dsimp only[Adr.Ad.cells]at cp cb cf ⊢;obtain⟨F,hF⟩:=Ex (Adr.fmt (Adr.bare ⟨mods,data,ty,nm,⟨ka,kb,kc⟩⟩));rw[hF]at cf ⊢;dsimp only[Adr.bare,Adr.K.none]at cb cf;by_cases he:e=0
 ·subst he;refine azd ti (ai cp (ai cb (ai cf ti))) ?_;exact⟨_,le_refl _,rfl⟩
 ·have e1:(e !=0)=true:=by simp[he]
  rw[if_pos he];refine azd e1 (ai cp ti) ?_;exact⟨_,le_refl _,rfl⟩
end AX
end Go.Proofs.YtdgcbckcameggadGreatDoor

namespace Go.Proofs.YtdgcbckcameggadGreatDoor
open Go.RowKit
open Go.Op (bytesLess)
namespace AX
theorem bxd:∀(v:V),v.lens→∀ h,AT 199 [v.A] h (.bool (Sf.known v)):=by
 refine V.induct fun k n s is ks ih=>?_
 intro hlen h;unfold V.lens at hlen;have hall:=hlen.2.2.2.2;have hisl:is.length≤9223372036854775807:=by have:=hlen.1;simp only[maxLen]at this;omega
 simp only[V.A,V.cells];refine pcall ?_ rfl (by simp[A.pure,A.data]) h;refine fo ?_;obtain⟨q,hq⟩:=Ex (Sf.known (.mk k n s is ks));rw[hq];unfold Sf.known at hq;by_cases h6:k=6
 ·have e1:(k==6)=true:=by simp[h6]
  have:false=q:=by rw[←hq];simp[h6]
  subst this;refine azd e1 ti ?_;exact⟨_,le_refl _,rfl⟩
 have e1:(k==6)=false:=by simp[h6]
 have hq':Sf.knowns is=q:=by rw[←hq];simp[h6]
 refine azd e1 ti ?_;refine azf (fun m ts hh=>hh=⟨[.cells 41 [.int .i64 k,.int .i64 n,.str s,.sl 5 .no (V.cellss is),.sl 1 .no (strsA ks)]],[]⟩∧∃ j:Nat,m=is.length-j∧j≤is.length∧Sf.knowns (is.drop j)=q∧(ts 1=.ptr 0 0∧ts 3=.int .i64 (j:Nat))) is.length ?_ ?_
 ·exact⟨rfl,0,rfl,Zy _,hq',by(exact azq ti)⟩
 rintro m ts hh ⟨rfl,j,rfl,hj,hkn,ht⟩;rcases Z4 j is.length with hlt|hge
 ·have hf:(V.cellss is).length=is.length∧(j:Int)<(is.length:Int)∧(0:Int)≤(j:Int)∧(V.cellss is).getD j []=is[j].cells∧IntKind.i64.wrap ((j:Int)+1)=((j+1:Nat):Int):=
   ⟨V.cellss_length is,by omega,by omega,V.cellss_get is j hlt,by rw[wrap64 (by omega) (by omega)];omega⟩
  have hc:=ih is[j] (Zp hlt) (V.lensS_mem hall _ (Zp hlt));rw[Zo hlt]at hkn;unfold Sf.knowns at hkn;obtain⟨x,hx⟩:=Ex (is[j]);rw[hx]at hf hc hkn;obtain⟨k1,n1,w1,vi,vy⟩:=x;simp only[V.A,V.cells]at hf hc;cases hK:Sf.known (.mk k1 n1 w1 vi vy)with
  |false =>
   rw[hK]at hc hkn;have:false=q:=hkn;subst this;refine azd (ai ht hf) (ai hc ti) ?_;exact⟨_,le_refl _,rfl⟩
  |true =>
   rw[hK,Zx]at hkn;rw[hK]at hc;refine azd (ai ht hf) (ai hc ti) ?_;exact⟨_,by omega,rfl,j+1,rfl,by omega,hkn,by(exact azq (ai ht hf))⟩
 ·have hf:=ai (V.cellss_length is) (show¬(j:Int)<(is.length:Int) by omega);rw[Zw hge]at hkn;unfold Sf.knowns at hkn;subst hkn;refine azd (ai ht hf) ti ?_;exact⟨_,le_refl _,rfl⟩
def cmpB(a b:List UInt8):Int:=if bytesLess a b=true then -1 else if a=b then 0 else 1
theorem bx5(a b:List UInt8)(h:Hp):AT 201 [.str a,.str b] h (.int .i64 (cmpB a b)):=by
 refine pcall ?_ rfl (by simp[A.pure,A.data]) h;refine fo ?_;unfold cmpB;cases hl:bytesLess a b with
 |true =>
  refine azd hl ti ?_;exact⟨_,le_refl _,rfl⟩
 |false =>
  by_cases he:a=b
  ·have e1:(a==b)=true:=by simp[he]
   refine azd (ai hl e1) ti ?_;exact⟨_,le_refl _,by rw[if_neg (by decide),if_pos he];rfl⟩
  ·have e1:(a==b)=false:=by simp[he]
   refine azd (ai hl e1) ti ?_;exact⟨_,le_refl _,by rw[if_neg (by decide),if_neg he];rfl⟩
theorem awl(s:List UInt8)(hs:s.length≤2000000)(h:Hp):AT 172 [.str s] h (.bool (Sf.text s)):=by
 have hv:=ayu s hs;refine pcall ?_ rfl (by simp[A.pure,A.data]) h;refine fo ?_;refine azd ti (ai hv ti) ?_;exact⟨_,le_refl _,rfl⟩
def isM(s:List UInt8):Bool:=(Adr.parse s).2==0&&!(Adr.parse s).1.data
theorem av4(s:List UInt8)(hs:s.length≤2000000)(h:Hp):AT 197 [.str s] h (.tup [.str (Adr.parse s).1.type,.bool (isM s)]):=by
 have hp:=bqu s hs;unfold isM;obtain⟨⟨⟨mods,data,ty,nm,⟨ka,kb,kc⟩⟩,e⟩,hP⟩:=Ex (Adr.parse s);rw[hP]at hp ⊢;dsimp only[Adr.Ad.cells]at hp ⊢;refine pcall ?_ rfl (by simp[A.pure,A.data]) h;refine fo ?_;refine azd ti (ai hp ti) ?_;exact⟨_,le_refl _,rfl⟩
theorem cjf(s:List UInt8)(hs:s.length≤2000000):Adr.In (Adr.bare (Adr.parse s).1):=by
 by_cases h0:(Adr.parse s).2=0
 ·obtain⟨n1,n2,n3,n4⟩:=Adr.parse_names s h0;refine⟨by simp[Adr.bare];omega,fun x hx=>?_,by show(Adr.parse s).1.type.length≤_;omega,by show(Adr.parse s).1.name.length≤_;omega,by show([]:List UInt8).length≤_;decide⟩;simp only[Adr.bare,Zaa]at hx;obtain⟨y,hy,rfl⟩:=hx;exact⟨by have:=n1 y hy;dsimp only;omega,by show([]:List UInt8).length≤_;decide⟩
 ·have hz:(Adr.parse s).1=Adr.Ad.zero:=by
   unfold Adr.parse at h0 ⊢;split at h0
   ·split at h0
    ·next h1=>rw[if_pos h1]
    ·exact absurd rfl h0
   ·rfl
  rw[hz];exact⟨by decide,by simp[Adr.bare,Adr.Ad.zero],by decide,by decide,by decide⟩
theorem bvf(s:List UInt8)(hs:s.length≤2000000)(h:Hp):AT 221 [.str s] h (.bool (Sf.staticB s)):=by
 have hp:=bw0 s hs (cjf s hs);unfold Sf.staticB;refine pcall ?_ rfl (by simp[A.pure,A.data]) h;refine fo ?_;refine azd ti (ai hp ti) ?_;exact⟨_,le_refl _,rfl⟩
theorem cvw(s:List UInt8)(hs:s.length≤2000000)(h:Hp):AT 198 [.str s] h (.bool (Sf.keyB s)):=by
 have hp:=bxk s hs;unfold Sf.keyB;refine pcall ?_ rfl (by simp[A.pure,A.data]) h;refine fo ?_;refine azd ti (ai hp ti) ?_;exact⟨_,le_refl _,rfl⟩
def prevS(l:List (List UInt8)):Nat→Option (List UInt8)
 |0=>none
 |j+1=>l[j]?
theorem cz9(l:List (List UInt8))(j:Nat)(h:j<l.length)(hl:l.length≤4611686018427387904) :
  (strsA l).length=l.length∧(j:Int)<(l.length:Int)∧(0:Int)≤(j:Int)∧(strsA l).getD j []=[.str l[j]]∧IntKind.i64.wrap ((j:Int)+1)=((j+1:Nat):Int):=
 ⟨aze l,by omega,by omega,azv l j h,by rw[wrap64 (by omega) (by omega)];omega⟩
theorem byo(l:List (List UInt8))(hn:l.length≤1000000000)(hl:∀ s∈l,s.length≤2000000)(h:Hp):AT 200 [.sl 1 .no (strsA l)] h (.bool (Sf.depsB none l)):=by
 refine pcall ?_ rfl (by simp[A.pure,A.data]) h;refine fo ?_;obtain⟨q,hq⟩:=Ex (Sf.depsB none l);rw[hq];refine azd ti ti ?_;refine azf (fun m ts hh=>hh=⟨[],[]⟩∧∃ j:Nat,m=l.length-j∧j≤l.length∧Sf.depsB (prevS l j) (l.drop j)=q∧(ts 0=.sl 1 .no (strsA l)∧ts 3=.int .i64 (j:Nat))) l.length ?_ ?_
 ·exact⟨rfl,0,rfl,Zy _,hq,by(exact azq ti)⟩
 rintro m ts hh ⟨rfl,j,rfl,hj,hd,ht⟩;rcases Z4 j l.length with hlt|hge
 ·have hf:=cz9 l j hlt (by omega);have hs:=hl _ (Zp hlt);rw[Zo hlt]at hd;unfold Sf.depsB at hd;have hnx:prevS l (j+1)=some l[j]:=Zm hlt;obtain⟨s,hs'⟩:=Ex (l[j]);rw[hs']at hf hs hd hnx;have cs:=bvf s hs;cases hS:Sf.staticB s with
  |false =>
   rw[hS]at cs hd;have:false=q:=hd;subst this;refine azd (ai ht hf) (ai cs ti) ?_;exact⟨_,le_refl _,rfl⟩
  |true =>
  rw[hS,Zx]at hd;rw[hS]at cs;cases j with
  |zero =>
   have:Sf.depsB (some s) (l.drop 1)=q:=hd;have z0:¬((0:Nat):Int)>0:=by decide
   refine azd (ai ht (ai hf z0)) (ai cs ti) ?_;exact⟨l.length-1,by omega,rfl,1,rfl,by omega,by rw[hnx];exact this,by(exact azq (ai ht hf))⟩
  |succ i =>
   have hi:i<l.length:=by omega
   have hpv:prevS l (i+1)=some l[i]:=Zm hi;rw[hpv]at hd;have g1:((i+1:Nat):Int)>0∧IntKind.i64.wrap (((i+1:Nat):Int)-1)=(i:Int)∧(i:Int)<(l.length:Int)∧(0:Int)≤(i:Int)∧(strsA l).getD i []=[.str l[i]]:=⟨by omega,by rw[wrap64 (by omega) (by omega)];omega,by omega,by omega,azv l i hi⟩;obtain⟨p,hp⟩:=Ex (l[i]);rw[hp]at hd g1;have hb:Val.badB (some p) s=!bytesLess p s:=rfl;rw[hb,Bool.not_not]at hd;cases hB:bytesLess p s with
   |false =>
    rw[hB]at hd;have:false=q:=hd;subst this;refine azd (ai ht (ai hf (ai g1 hB))) (ai cs ti) ?_;exact⟨_,le_refl _,rfl⟩
   |true =>
    rw[hB,Zx]at hd;refine azd (ai ht (ai hf (ai g1 hB))) (ai cs ti) ?_;exact⟨_,by omega,rfl,i+1+1,rfl,by omega,by rw[hnx];exact hd,by(exact azq (ai ht hf))⟩
 ·have hf:=ai (aze l) (show¬(j:Int)<(l.length:Int) by omega);rw[Zw hge]at hd;unfold Sf.depsB at hd;subst hd;refine azd (ai ht hf) ti ?_;exact⟨_,le_refl _,rfl⟩
theorem bxn(s t:List UInt8):Sf.managed s t=(isM s&&(Adr.parse s).1.type==t):=rfl
theorem cqk(a b:List UInt8):(a !=b)=!(b==a):=by
 show(!(a==b))=!(b==a)
 congr 1;rw[Yf,ZC,ZC];exact eq_comm
theorem czj(x:Sf.Inst)(hx:Sf.InstIn x)(ht:x.typ.length≤2000000)(h:Hp):AT 173 [.agg x.cells] h (.int .i64 (Sf.instZ x)):=by
 have cm:=av4 x.addr hx.a;have ck:=cvw x.dep hx.d;have ct:=awl x.id hx.i;have cc:=bzz x.attrs hx.l;have cn:=bxd x.attrs hx.l;have cd:=byo x.deps (by have:=hx.n;omega) hx.ds;obtain⟨q,hq⟩:=Ex (Sf.instZ x);rw[hq];unfold Sf.instZ at hq;rw[bxn]at hq;obtain⟨a,d,id,ty,⟨k,n,w,vi,vy⟩,v,tn,fi,ds⟩:=x;dsimp only at cm ck ct cd hq;simp only[V.A,V.cells]at cc cn;refine pcall ?_ rfl (by simp[A.pure,A.data,Sf.Inst.cells]) h;refine fo ?_;dsimp only[Sf.Inst.cells];obtain⟨T,hT⟩:=Ex ((Adr.parse a).1.type);rw[hT]at cm hq;cases hM:isM a with
 |false =>
  rw[hM]at cm hq;rw[if_pos (by simp)]at hq;subst hq;refine azd ti (ai cm ti) ?_;exact⟨_,le_refl _,rfl⟩
 |true =>
 rw[hM,Zx]at hq;rw[hM]at cm;cases hK:Sf.keyB d with
 |false =>
  rw[hK]at ck hq;rw[if_pos (by simp)]at hq;subst hq;refine azd ti (ai cm (ai ck ti)) ?_;exact⟨_,le_refl _,rfl⟩
 |true =>
 rw[hK]at ck hq;cases hX:Sf.text id with
 |false =>
  rw[hX]at ct hq;rw[if_pos (by simp)]at hq;subst hq;refine azd ti (ai cm (ai ck (ai ct ti))) ?_;exact⟨_,le_refl _,rfl⟩
 |true =>
 rw[hX]at ct hq;simp only[ZR,Y8]at hq;have hTy:(ty !=T)=!(T==ty):=cqk ty T;cases hE:(T==ty)with
 |false =>
  rw[hE]at hTy hq;rw[if_pos (by decide)]at hq;subst hq;refine azd hTy (ai cm (ai ck (ai ct ti))) ?_;exact⟨_,le_refl _,rfl⟩
 |true =>
 rw[hE]at hTy hq;rw[if_neg (by decide)]at hq;have hTy':(ty !=T)=false:=hTy;by_cases hZ:Val.checkZ (.mk k n w vi vy)=0
 rotate_left
 ·obtain⟨Z,hZZ⟩:=Ex (Val.checkZ (.mk k n w vi vy));rw[hZZ]at cc hZ hq;have e1:(Z !=0)=true:=by simp[hZ]
  rw[if_pos hZ]at hq;subst hq;refine azd (ai hTy' e1) (ai cm (ai ck (ai ct (ai cc ti)))) ?_;exact⟨_,le_refl _,rfl⟩
 rw[hZ]at cc;rw[if_neg (by simp[hZ])]at hq;have hkd:Sf.V.kind (.mk k n w vi vy)=k:=rfl;rw[hkd]at hq;by_cases h5:k=5
 rotate_left
 ·have e1:(k !=5)=true:=by simp[h5]
  rw[if_pos h5]at hq;subst hq;refine azd (ai hTy' e1) (ai cm (ai ck (ai ct (ai cc ti)))) ?_;exact⟨_,le_refl _,rfl⟩
 have e1:(k !=5)=false:=by simp[h5]
 rw[if_neg (by simp[h5])]at hq;cases hN:Sf.known (.mk k n w vi vy)with
 |false =>
  rw[hN]at cn hq;rw[if_pos (by decide)]at hq;subst hq;refine azd (ai hTy' e1) (ai cm (ai ck (ai ct (ai cc (ai cn ti))))) ?_;exact⟨_,le_refl _,rfl⟩
 |true =>
 rw[hN]at cn hq;rw[if_neg (by decide)]at hq;by_cases hv:v<1∨9007199254740992<v
 ·have e2:(decide (v<1)||decide (v>9007199254740992))=true:=by simpa using hv
  rw[if_pos hv]at hq;subst hq;refine azd (ai hTy' (ai e1 e2)) (ai cm (ai ck (ai ct (ai cc (ai cn ti))))) ?_;exact⟨_,le_refl _,rfl⟩
 have e2:(decide (v<1)||decide (v>9007199254740992))=false:=by simp;omega
 rw[if_neg hv]at hq;cases hD:Sf.depsB none ds with
 |false =>
  rw[hD]at cd hq;have:q=1:=by rw[←hq];rfl
  subst this;refine azd (ai hTy' (ai e1 e2)) (ai cm (ai ck (ai ct (ai cc (ai cn (ai cd ti)))))) ?_;exact⟨_,le_refl _,rfl⟩
 |true =>
  rw[hD]at cd hq;have:q=0:=by rw[←hq];rfl
  subst this;refine azd (ai hTy' (ai e1 e2)) (ai cm (ai ck (ai ct (ai cc (ai cn (ai cd ti)))))) ?_;exact⟨_,le_refl _,rfl⟩
theorem cz0(p:Sf.Pend)(ha:p.addr.length≤2000000)(hk:p.tok.length≤2000000)(h:Hp):AT 175 [.agg p.cells] h (.int .i64 (if Sf.pendB p=true then 0 else 1)):=by
 have cm:=av4 p.addr ha;have ct:=awl p.tok hk;unfold Sf.pendB;rw[bxn];obtain⟨a,ty,tok⟩:=p;dsimp only at cm ct ⊢;refine pcall ?_ rfl (by simp[A.pure,A.data,Sf.Pend.cells]) h;refine fo ?_;dsimp only[Sf.Pend.cells];obtain⟨T,hT⟩:=Ex ((Adr.parse a).1.type);rw[hT]at cm ⊢;have hTy:(ty !=T)=!(T==ty):=cqk ty T;obtain⟨b,hb⟩:=Ex ((T==ty));rw[hb]at hTy ⊢;obtain⟨c,hc⟩:=Ex (Sf.text tok);obtain⟨e,he⟩:=Ex (isM a);rw[hc]at ct ⊢;rw[he]at cm ⊢;cases c<;>cases e<;>cases b<;>((refine azd hTy (ai cm (ai ct ti)) ?_);exact⟨_,le_refl _,rfl⟩)
theorem czu(o:Sf.Outp)(hn:o.name.length≤2000000)(hl:o.value.lens)(h:Hp):AT 202 [.agg o.cells] h (.int .i64 (Sf.outZ o)):=by
 have ci:=aq0 o.name hn;have cc:=bzz o.value hl;have cn:=bxd o.value hl;obtain⟨q,hq⟩:=Ex (Sf.outZ o);rw[hq];unfold Sf.outZ at hq;obtain⟨nm,⟨k,n,w,vi,vy⟩,sn⟩:=o;dsimp only at ci hq;simp only[V.A,V.cells]at cc cn;refine pcall ?_ rfl (by simp[A.pure,A.data,Sf.Outp.cells]) h;refine fo ?_;dsimp only[Sf.Outp.cells];cases hI:Adr.ident nm with
 |false =>
  rw[hI]at ci hq;rw[if_pos (by decide)]at hq;subst hq;refine azd ti (ai ci ti) ?_;exact⟨_,le_refl _,rfl⟩
 |true =>
 rw[hI]at ci hq;rw[if_neg (by decide)]at hq;by_cases hZ:Val.checkZ (.mk k n w vi vy)=0
 rotate_left
 ·obtain⟨Z,hZZ⟩:=Ex (Val.checkZ (.mk k n w vi vy));rw[hZZ]at cc hZ hq;have e1:(Z !=0)=true:=by simp[hZ]
  rw[if_pos hZ]at hq;subst hq;refine azd e1 (ai ci (ai cc ti)) ?_;exact⟨_,le_refl _,rfl⟩
 rw[hZ]at cc;rw[if_neg (by simp[hZ])]at hq;cases hN:Sf.known (.mk k n w vi vy)with
 |false =>
  rw[hN]at cn hq;rw[if_pos (by decide)]at hq;subst hq;refine azd ti (ai ci (ai cc (ai cn ti))) ?_;exact⟨_,le_refl _,rfl⟩
 |true =>
  rw[hN]at cn hq;rw[if_neg (by decide)]at hq;subst hq;refine azd ti (ai ci (ai cc (ai cn ti))) ?_;exact⟨_,le_refl _,rfl⟩
def beforeZ(a d:List UInt8)(y:Sf.Inst):Int:=if a=y.addr then cmpB d y.dep else cmpB a y.addr
theorem bvg(a d:List UInt8)(y:Sf.Inst)(h:Hp):AT 174 [.str a,.str d,.agg y.cells] h (.int .i64 (beforeZ a d y)):=by
 have c1:=bx5 a y.addr;have c2:=bx5 d y.dep;unfold beforeZ;obtain⟨a',d',id,ty,⟨k,n,w,vi,vy⟩,v,tn,fi,ds⟩:=y;dsimp only at c1 c2 ⊢;refine pcall ?_ rfl (by simp[A.pure,A.data,Sf.Inst.cells]) h;refine fo ?_;dsimp only[Sf.Inst.cells];by_cases he:a=a'
 ·have e1:(a !=a')=false:=by simp[he]
  rw[if_pos he];refine azd e1 (ai c2 ti) ?_;exact⟨_,le_refl _,rfl⟩
 ·have e1:(a !=a')=true:=by simp[he]
  rw[if_neg he];refine azd e1 (ai c1 ti) ?_;exact⟨_,le_refl _,rfl⟩
theorem byu(a b:List UInt8):decide (cmpB a b≤0)=!bytesLess b a:=by
 have h1:=Val.less_total a b;unfold cmpB;cases hl:bytesLess a b with
 |true =>
  rw[if_pos rfl];have h2:=Val.less_total b a;rw[hl]at h2;rw[h2];rfl
 |false =>
  rw[if_neg (by decide)];by_cases he:a=b
  ·subst he;rw[if_pos rfl,Val.less_irrefl];rfl
  ·rw[if_neg he];rw[hl]at h1;have:(b==a)=false:=by simpa using fun h=>he h.symm
   rw[this,Y8]at h1;rw[←h1];rfl
theorem bzw(x y:Sf.Inst):decide (beforeZ x.addr x.dep y≤0)=!Sf.behind y x:=by
 unfold beforeZ Sf.behind;by_cases he:x.addr=y.addr
 ·rw[if_pos he,byu,he,Val.less_irrefl];simp
 ·rw[if_neg he,byu];have:(y.addr==x.addr)=false:=by simpa using fun h=>he h.symm
  rw[this,Yb,Y8]
theorem ajf{α:Type}(f:α→List A)(l:List α)(i:Nat)(h:l.length≤i):(l.map f).length=l.length∧¬(i:Int)<(l.length:Int):=⟨Zj _,by omega⟩
def prevG{α:Type}(l:List α):Nat→Option α
 |0=>none
 |j+1=>l[j]?
theorem aqv{α:Type}(l:List α)(j:Nat)(h:j<l.length):prevG l (j+1)=some l[j]:=Zm h
theorem avo{α:Type}(f:α→List A)(l:List α)(i:Nat)(h:i+1<l.length)(hl:l.length≤4611686018427387904) :
  ((i+1:Nat):Int)>0∧IntKind.i64.wrap (((i+1:Nat):Int)-1)=(i:Int)∧(i:Int)<(l.length:Int)∧(0:Int)≤(i:Int)∧(l.map f).getD i []=f (l[i]'(by omega)):=
 ⟨by omega,by rw[wrap64 (by omega) (by omega)];omega,by omega,by omega,az0 f l i (by omega)⟩
theorem cqw(l:List Sf.Outp)(hn:l.length≤1000000000)(ho:∀ o∈l,o.name.length≤2000000∧o.value.lens)(h:Hp):AT 176 [.sl 7 .no (l.map Sf.Outp.cells)] h (.int .i64 (Sf.outsZ none l)):=by
 refine pcall ?_ rfl (by simp[A.pure,A.data]) h;refine fo ?_;obtain⟨q,hq⟩:=Ex (Sf.outsZ none l);rw[hq];refine azd ti ti ?_;refine azf (fun m ts hh=>hh=⟨[],[]⟩∧∃ j:Nat,m=l.length-j∧j≤l.length∧Sf.outsZ ((prevG l j).map Sf.Outp.name) (l.drop j)=q∧(ts 0=.sl 7 .no (l.map Sf.Outp.cells)∧ts 3=.int .i64 (j:Nat))) l.length ?_ ?_
 ·exact⟨rfl,0,rfl,Zy _,hq,by(exact azq ti)⟩
 rintro m ts hh ⟨rfl,j,rfl,hj,hd,ht⟩;rcases Z4 j l.length with hlt|hge
 ·have hf:=ax0 Sf.Outp.cells l j hlt (by omega);have hox:=ho _ (Zp hlt);rw[Zo hlt]at hd;unfold Sf.outsZ at hd;have hnx:=aqv l j hlt;obtain⟨x,hx⟩:=Ex (l[j]);rw[hx]at hf hox hd hnx;have co:=czu x hox.1 hox.2;obtain⟨Z,hZ⟩:=Ex (Sf.outZ x);rw[hZ]at co hd;have hxn:(some x).map Sf.Outp.name=some x.name:=rfl;obtain⟨nm,⟨k,n,w,vi,vy⟩,sn⟩:=x;dsimp only[Sf.Outp.cells]at hf co hd hxn;by_cases hz:Z=0
  rotate_left
  ·have e1:(Z !=0)=true:=by simp[hz]
   rw[if_pos hz]at hd;subst hd;refine azd (ai ht (ai hf e1)) (ai co ti) ?_;exact⟨_,le_refl _,rfl⟩
  have e1:(Z !=0)=false:=by simp[hz]
  rw[if_neg (by simp[hz])]at hd;cases j with
  |zero =>
   have z0:¬((0:Nat):Int)>0:=by decide
   have hd':Sf.outsZ (some nm) (l.drop 1)=q:=hd;refine azd (ai ht (ai hf (ai e1 z0))) (ai co ti) ?_;exact⟨l.length-1,by omega,rfl,1,rfl,by omega,by rw[hnx];exact hd',by(exact azq (ai ht hf))⟩
  |succ i =>
   have hb:=avo Sf.Outp.cells l i hlt (by omega);rw[aqv l i (by omega)]at hd;obtain⟨y,hy⟩:=Ex (l[i]);rw[hy]at hb hd;obtain⟨nm2,⟨k2,n2,w2,vi2,vy2⟩,sn2⟩:=y;dsimp only[Sf.Outp.cells,Option.map_some]at hb hd
   replace hd:(if(!bytesLess nm2 nm)=true then(1:Int)else Sf.outsZ (some nm) (l.drop (i+1+1)))=q:=hd
   cases hB:bytesLess nm2 nm with
   |false =>
    rw[hB,if_pos (by decide)]at hd;subst hd;refine azd (ai ht (ai hf (ai e1 (ai hb hB)))) (ai co ti) ?_;exact⟨_,le_refl _,rfl⟩
   |true =>
    rw[hB,if_neg (by decide)]at hd;refine azd (ai ht (ai hf (ai e1 (ai hb hB)))) (ai co ti) ?_;exact⟨_,by omega,rfl,i+1+1,rfl,by omega,by rw[hnx];exact hd,by(exact azq (ai ht hf))⟩
 ·have hf:=ajf Sf.Outp.cells l j hge;rw[Zw hge]at hd;unfold Sf.outsZ at hd;subst hd;refine azd (ai ht hf) ti ?_;exact⟨_,le_refl _,rfl⟩
theorem bk7(st:Sf.St)(hin:Sf.StIn st)(htp:Sf.TypIn st)(h:Hp):AT 149 [st.A] h (.int .i64 (Sf.checkZ st)):=by
 obtain⟨lin,ser,ins,ps,os⟩:=st;obtain⟨hl,hi,hp,ho,hni,hnp,hno⟩:=hin;dsimp only at hl hi hp ho hni hnp hno;have hti:=htp.insts;have htp':=htp.pends;dsimp only at hti htp';have ct:=awl lin (by omega);have co:=cqw os hno ho;obtain⟨q,hq⟩:=Ex (Sf.checkZ ⟨lin,ser,ins,ps,os⟩);rw[hq];unfold Sf.checkZ at hq;dsimp only at hq;obtain⟨N,hN⟩:=Ex (Sf.instsZ none ins);obtain⟨P,hP⟩:=Ex (Sf.pendsZ none ps);rw[hN,hP]at hq;refine pcall ?_ rfl (by simp[A.pure,A.data,Sf.St.A]) h;refine fo ?_;dsimp only[Sf.St.A];have li:(ins.map Sf.Inst.cells).length=ins.length∧(ps.map Sf.Pend.cells).length=ps.length∧(os.map Sf.Outp.cells).length=os.length:=⟨Zj _,Zj _,Zj _⟩;cases hT:Sf.text lin with
 |false =>
  rw[hT]at ct hq;rw[if_pos (by decide)]at hq;subst hq;refine azd ti (ai ct ti) ?_;exact⟨_,le_refl _,rfl⟩
 |true =>
 rw[hT]at ct hq;rw[if_neg (by decide)]at hq;by_cases hs:ser<0∨9007199254740992<ser
 ·have e1:(decide (ser<0)||decide (ser>9007199254740992))=true:=by simpa using hs
  rw[if_pos hs]at hq;subst hq;refine azd e1 (ai ct ti) ?_;exact⟨_,le_refl _,rfl⟩
 have e1:(decide (ser<0)||decide (ser>9007199254740992))=false:=by simp;omega
 rw[if_neg hs]at hq;by_cases hm:512<ins.length∨512<ps.length∨512<os.length
 ·have e2:(decide ((ins.length:Int)>512)||decide ((ps.length:Int)>512)||decide ((os.length:Int)>512))=true:=by simp;omega
  rw[if_pos hm]at hq;subst hq;refine azd (ai e1 (ai li e2)) (ai ct ti) ?_;exact⟨_,le_refl _,rfl⟩
 have e2:(decide ((ins.length:Int)>512)||decide ((ps.length:Int)>512)||decide ((os.length:Int)>512))=false:=by simp;omega
 rw[if_neg hm]at hq;refine azd (ai e1 (ai li e2)) (ai ct ti) ?_
 refine azf (fun m ts hh=>∃(j:Nat) (l:List Blk),m=ins.length-j∧j≤ins.length∧hh=⟨.cells 35 [.str lin,.int .i64 ser,.sl 13 .no (ins.map Sf.Inst.cells),.sl 3 .no (ps.map Sf.Pend.cells),.sl 7 .no (os.map Sf.Outp.cells)]::l,[]⟩ ∧
  Sf.instsZ (prevG ins j) (ins.drop j)=N∧(ts 1=.ptr 0 0∧ts 3=.int .i64 (j:Nat))) ins.length ?_ ?_
 ·exact⟨0,[],rfl,Zy _,rfl,hN,by(exact azq ti)⟩
 rintro m ts hh ⟨j,l,rfl,hj,rfl,hd,ht⟩;rcases Z4 j ins.length with hlt|hge
 ·have hf:=ax0 Sf.Inst.cells ins j hlt (by omega);have hix:=hi _ (Zp hlt);have htx:=hti _ (Zp hlt);rw[Zo hlt]at hd;unfold Sf.instsZ at hd;have hnx:=aqv ins j hlt;obtain⟨x,hx⟩:=Ex (ins[j]);rw[hx]at hf hix htx hd hnx;have ci:=czj x hix htx;have cb:=fun y=>bvg x.addr x.dep y
  have hbf:=bzw x;obtain⟨Z,hZ⟩:=Ex (Sf.instZ x);rw[hZ]at ci hd;obtain⟨x',hx'⟩:∃ x',x'=x:=⟨_,rfl⟩;rw[←hx']at hd hnx hbf;obtain⟨a,d,id,ty,⟨k,n,w,vi,vy⟩,v,tn,fi,ds⟩:=x;have hxa:x'.addr=a∧x'.dep=d:=by rw[hx'];exact⟨rfl,rfl⟩
  rw[hxa.1,hxa.2]at hbf;dsimp only[Sf.Inst.cells]at hf ci cb;by_cases hz:Z=0
  rotate_left
  ·have e3:(Z !=0)=true:=by simp[hz]
   rw[if_pos hz]at hd;have:q=Z:=by rw[←hq,←hd,if_pos hz]
   subst this;refine azd (ai ht (ai hf (ai li e3))) (ai ci ti) ?_;exact⟨_,le_refl _,rfl⟩
  have e3:(Z !=0)=false:=by simp[hz]
  rw[if_neg (by simp[hz])]at hd;cases j with
  |zero =>
   have z0:¬((0:Nat):Int)>0:=by decide
   have hd':Sf.instsZ (some x') (ins.drop 1)=N:=hd;refine azd (ai ht (ai hf (ai li (ai e3 z0)))) (ai ci ti) ?_;exact⟨ins.length-1,by omega,1,_,rfl,by omega,rfl,by rw[hnx];exact hd',by(exact azq (ai ht hf))⟩
  |succ i =>
   have hb:=avo Sf.Inst.cells ins i hlt (by omega);rw[aqv ins i (by omega)]at hd;obtain⟨y,hy⟩:=Ex (ins[i]);rw[hy]at hb hd;have cby:=cb y;have hbfy:=hbf y
   replace hd:(if(!Sf.behind y x')=true then(1:Int)else Sf.instsZ (some x') (ins.drop (i+1+1)))=N:=hd
   obtain⟨B,hBB⟩:=Ex (beforeZ a d y);rw[hBB]at cby hbfy;obtain⟨bh,hbh⟩:=Ex (Sf.behind y x');rw[hbh]at hd hbfy;obtain⟨a2,d2,id2,ty2,⟨k2,n2,w2,vi2,vy2⟩,v2,tn2,fi2,ds2⟩:=y;dsimp only[Sf.Inst.cells]at hb cby;cases bh with
   |false =>
    rw[if_pos (by decide)]at hd;have hb0:B≤0:=by simpa using hbfy
    have:q=1:=by rw[←hq,←hd];rfl
    subst this;refine azd (ai ht (ai hf (ai li (ai e3 (ai hb hb0))))) (ai ci (ai cby ti)) ?_;exact⟨_,le_refl _,rfl⟩
   |true =>
    rw[if_neg (by decide)]at hd;have hb0:¬B≤0:=by simpa using hbfy
    refine azd (ai ht (ai hf (ai li (ai e3 (ai hb hb0))))) (ai ci (ai cby ti)) ?_;exact⟨_,by omega,i+1+1,_,rfl,by omega,rfl,by rw[hnx];exact hd,by(exact azq (ai ht hf))⟩
 have hf:=ajf Sf.Inst.cells ins j hge;rw[Zw hge]at hd;unfold Sf.instsZ at hd;rw[←hd,if_neg (by simp)]at hq;refine azd (ai ht (ai hf li)) ti ?_
 refine azf (fun m ts hh=>∃(j:Nat),m=ps.length-j∧j≤ps.length∧hh=⟨.cells 35 [.str lin,.int .i64 ser,.sl 13 .no (ins.map Sf.Inst.cells),.sl 3 .no (ps.map Sf.Pend.cells),.sl 7 .no (os.map Sf.Outp.cells)]::l,[]⟩ ∧
  Sf.pendsZ ((prevG ps j).map Sf.Pend.tok) (ps.drop j)=P∧(ts 1=.ptr 0 0∧ts 6=.int .i64 (j:Nat))) ps.length ?_ ?_
 ·exact⟨0,rfl,Zy _,rfl,hP,by(exact azq ht)⟩
 rintro m ts' hh ⟨j',rfl,hj',rfl,hd',hu⟩;rcases Z4 j' ps.length with hlt|hge'
 ·have hf:=ax0 Sf.Pend.cells ps j' hlt (by omega);have hpx:=hp _ (Zp hlt);rw[Zo hlt]at hd';unfold Sf.pendsZ at hd';have hnx:=aqv ps j' hlt;obtain⟨x,hx⟩:=Ex (ps[j']);rw[hx]at hf hpx hd' hnx;have cp:=cz0 x hpx.1 hpx.2;obtain⟨b,hb⟩:=Ex (Sf.pendB x);rw[hb]at cp hd';obtain⟨a,ty,tok⟩:=x;dsimp only[Sf.Pend.cells]at hf cp hd';cases b with
  |false =>
   rw[if_neg (by decide)]at cp;rw[ZM,YT,if_pos rfl]at hd';have:q=1:=by rw[←hq,←hd'];rfl
   subst this;refine azd (ai hu (ai hf li)) (ai cp ti) ?_;exact⟨_,le_refl _,rfl⟩
  |true =>
  rw[if_pos rfl]at cp;rw[ZR,Ys]at hd';cases j' with
  |zero =>
   have z0:¬((0:Nat):Int)>0:=by decide
   have hd2:Sf.pendsZ (some tok) (ps.drop 1)=P:=hd';refine azd (ai hu (ai hf (ai li z0))) (ai cp ti) ?_;exact⟨ps.length-1,by omega,1,rfl,by omega,rfl,by rw[hnx];exact hd2,by(exact azq (ai hu hf))⟩
  |succ i =>
   have hbr:=avo Sf.Pend.cells ps i hlt (by omega);rw[aqv ps i (by omega)]at hd';obtain⟨y,hy⟩:=Ex (ps[i]);rw[hy]at hbr hd';obtain⟨a2,ty2,tok2⟩:=y;dsimp only[Sf.Pend.cells,Option.map_some]at hbr hd'
   replace hd':(if(!bytesLess tok2 tok)=true then(1:Int)else Sf.pendsZ (some tok) (ps.drop (i+1+1)))=P:=hd'
   cases hB:bytesLess tok2 tok with
   |false =>
    rw[hB,if_pos (by decide)]at hd';have:q=1:=by rw[←hq,←hd'];rfl
    subst this;refine azd (ai hu (ai hf (ai li (ai hbr hB)))) (ai cp ti) ?_;exact⟨_,le_refl _,rfl⟩
   |true =>
    rw[hB,if_neg (by decide)]at hd';refine azd (ai hu (ai hf (ai li (ai hbr hB)))) (ai cp ti) ?_;exact⟨_,by omega,i+1+1,rfl,by omega,rfl,by rw[hnx];exact hd',by(exact azq (ai hu hf))⟩
 ·have hf':=ajf Sf.Pend.cells ps j' hge';rw[Zw hge']at hd';unfold Sf.pendsZ at hd';rw[←hd',if_neg (by simp)]at hq;rw[hq]at co;refine azd (ai hu (ai hf' li)) (ai co ti) ?_;exact⟨_,le_refl _,rfl⟩
end AX
end Go.Proofs.YtdgcbckcameggadGreatDoor

namespace Go.Proofs.YtdgcbckcameggadGreatDoor
open Go.RowKit
namespace AX
theorem dqe(v:V):cxf [v.A,.agg [.int .i64 0,.int .i64 0,.str [],.sl 0 .nil [],.sl 0 .nil []]] [v.A,(V.mk 0 0 [] [] []).A]:=by
 refine⟨aqu _,?_,trivial⟩;simp[le,cxf,le2,leL,le1,V.A,V.cells,V.cellss,strsA]
theorem cyp:(V.mk 0 0 [] [] []).lens:=by
 unfold V.lens;simp[V.lensS]
theorem ckq(x:Sf.Inst)(hl:x.attrs.lens)(hd:x.deps.length≤1000000000)(h:Hp):AT 76 [.agg (Sf.Inst.cells x)] h (.bool (Jr.noneR x)):=by
 have ce:=fun h=>ACall.args (dqe x.attrs) (bz1 x.attrs (.mk 0 0 [] [] []) hl cyp h)
 unfold Jr.noneR;obtain⟨E,hE⟩:=Ex (Val.eqB x.attrs (.mk 0 0 [] [] []));rw[hE];simp only[hE]at ce;clear hE hl;obtain⟨a,d,i,t,⟨k,n,s,is,ks⟩,v,tn,fi,ds⟩:=x;simp only[Sf.Inst.cells,V.A,V.cells]at ce hd ⊢;have l3:=aze ds;refine pcall ?_ rfl (by simp[A.pure,A.data]) h;refine fo ?_;refine azd l3 (ai ce ti) ?_;exact⟨_,le_refl _,rfl⟩
theorem bv5(s:Sf.St)(hin:Sf.StIn s)(h:Hp):AT 77 [s.A] h (.bool (Jr.emptyR s)):=by
 obtain⟨lin,ser,ins,ps,os⟩:=s;obtain⟨hl,hi,hp,ho,hni,hnp,hno⟩:=hin;dsimp only at hni hnp hno;have l1:(ins.map Sf.Inst.cells).length=ins.length:=Zj _;have l2:(ps.map Sf.Pend.cells).length=ps.length:=Zj _;have l3:(os.map Sf.Outp.cells).length=os.length:=Zj _;have w1:IntKind.i64.wrap ((ins.length:Int)+(ps.length:Int))=(ins.length:Int)+(ps.length:Int):=wrap64 (by omega) (by omega);have w2:IntKind.i64.wrap ((ins.length:Int)+(ps.length:Int)+(os.length:Int))=(ins.length:Int)+(ps.length:Int)+(os.length:Int):=wrap64 (by omega) (by omega);unfold Sf.St.A Jr.emptyR;dsimp only;refine pcall ?_ rfl (by simp[A.pure,A.data]) h;refine fo ?_;refine azd (ai l1 (ai l2 (ai l3 (ai w1 w2)))) ti ?_;exact⟨_,le_refl _,rfl⟩
theorem bz2(ks:List (List UInt8))(hn:ks.length≤1000000000)(h:Hp):AT 112 [.sl 1 .no (strsA ks)] h (.bool (Jr.shortB ks)):=by
 refine pcall ?_ rfl (by simp[A.pure,A.data]) h;refine fo ?_;obtain⟨D,hD⟩:=Ex (Jr.shortB ks);rw[hD];have li:(strsA ks).length=ks.length:=aze ks;refine azb li ?_;refine azf (fun mm ts h=>∃(j:Nat),mm=ks.length-j∧j≤ks.length∧h=⟨[],[]⟩∧Jr.shortB (ks.drop j)=D∧(ts 0=.sl 1 .no (strsA ks)∧ts 3=.int .i64 (j:Nat))) ks.length ?_ ?_
 ·exact⟨0,by omega,by omega,rfl,hD,by(exact azq li)⟩
 rintro mm ts h ⟨j,rfl,hjc,rfl,hit,ht⟩;by_cases hj:j<ks.length
 ·have hf:=axg (fun s:List UInt8=>[A.str s]) ks j hj (by omega);have hf':(strsA ks).length=ks.length∧(j:Int)<(ks.length:Int)∧(0:Int)≤(j:Int)∧(strsA ks).getD j []=[.str ks[j]]∧IntKind.i64.wrap ((j:Int)+1)=((j+1:Nat):Int):=hf;clear hf;rw[Zo hj]at hit;unfold Jr.shortB at hit;rw[ZE]at hit;obtain⟨x,hx⟩:=Ex (ks[j]);rw[hx]at hf' hit;by_cases hK:(x.length:Int)>4096
  ·have hK':decide ((x.length:Int)≤4096)=false:=by simpa using hK
   rw[hK',Yb]at hit;subst hit;refine azd (ai ht (ai hf' hK)) ti ?_;exact⟨_,le_refl _,rfl⟩
  ·have hK':decide ((x.length:Int)≤4096)=true:=by simpa using hK
   rw[hK',Zx]at hit;refine azd (ai ht (ai hf' hK)) ti ?_;exact⟨ks.length-(j+1),by omega,j+1,rfl,by omega,rfl,hit,by(exact azq (ai ht hf'))⟩
 ·have hlt:¬((j:Int)<(ks.length:Int)):=by omega
  rw[Y1 (by omega)]at hit;unfold Jr.shortB at hit;subst hit;refine azd (ai ht (ai hlt li)) ti ?_;exact⟨_,le_refl _,rfl⟩
theorem cyt(x:Sf.Inst)(hl:x.attrs.lens)(hd:x.deps.length≤1000000000)(h:Hp):AT 79 [.agg (Sf.Inst.cells x)] h (.bool (Jr.instB x)):=by
 obtain⟨a,d,i,t,⟨k,n,s,is,ks⟩,v,tn,fi,ds⟩:=x;have l3:=aze ds;have c1:=bz2 [a,d,i,t] (by simp);have c2:=bz2 ds hd;have c3:=bzz (.mk k n s is ks) hl;simp only[V.A,V.cells]at c3;unfold Sf.Inst.cells Jr.instB;dsimp only;obtain⟨b1,h1⟩:=Ex (Jr.shortB [a,d,i,t]);obtain⟨b2,h2⟩:=Ex (Jr.shortB ds);obtain⟨Z,hZ⟩:=Ex (Val.checkZ (.mk k n s is ks));rw[h1]at c1;rw[h2]at c2;rw[hZ]at c3;rw[h1,h2,hZ];have c1':∀ h,AT 112 [.sl 1 .no [[.str a],[.str d],[.str i],[.str t]]] h (.bool b1):=c1;refine pcall ?_ rfl (by simp[A.pure,A.data]) h;refine fo ?_;refine azd l3 (ai c1' (ai c2 (ai c3 ti))) ?_;exact⟨_,le_refl _,rfl⟩
theorem cyj(r:Jr)(hin:Sf.StIn r.base)(h:Hp):AT 78 [.agg r.cells] h (.bool r.stepR):=by
 have ce:=bv5 r.base hin;have c1:=bz2 [r.addr,r.dep,r.typ,r.tok] (by simp);unfold Jr.stepR;obtain⟨b1,h1⟩:=Ex (Jr.shortB [r.addr,r.dep,r.typ,r.tok]);obtain⟨e,he⟩:=Ex (Jr.emptyR r.base);rw[h1]at c1 ⊢;rw[he]at ce ⊢;clear h1 he hin;obtain⟨kd,⟨lin,ser,ins,ps,os⟩,st,op,ad,dp,ty,tk,er,⟨a,d,i,t,⟨k,n,s,is,ks⟩,v,tn,fi,ds⟩⟩:=r;simp only[Jr.cells,Sf.Inst.cells,Zl,Zi,Sf.St.A]at ce c1 ⊢;have c1':∀ h,AT 112 [.sl 1 .no [[.str ad],[.str dp],[.str ty],[.str tk]]] h (.bool b1):=c1;refine pcall ?_ rfl (by simp[A.pure,A.data]) h;refine fo ?_;refine azd ti (ai ce (ai c1' ti)) ?_;exact⟨_,le_refl _,rfl⟩
theorem cjd(r:Jr)(hin:JrIn r)(h:Hp):AT 37 [.agg r.cells] h (.bool r.validR):=by
 have ce:=bv5 r.base hin.base;have cn:=ckq r.after hin.lens hin.deps;have ci:=cyt r.after hin.lens hin.deps;have cs:=cyj r hin.base;unfold Jr.validR;obtain⟨e,he⟩:=Ex (Jr.emptyR r.base);obtain⟨n,hn⟩:=Ex (Jr.noneR r.after);obtain⟨i,hi⟩:=Ex (Jr.instB r.after);obtain⟨s,hs⟩:=Ex (r.stepR);rw[he]at ce;rw[hn]at cn;rw[hi]at ci;rw[hs]at cs;rw[he,hn,hi,hs];clear he hn hi hs hin;obtain⟨kd,⟨lin,ser,ins,ps,os⟩,st,op,ad,dp,ty,tk,er,⟨a1,a2,a3,a4,⟨k,nn,ss,is,ks⟩,v,tn,fi,ds⟩⟩:=r;simp only[Jr.cells,Sf.Inst.cells,Zl,Zi,Sf.St.A]at *;refine pcall ?_ rfl (by simp[A.pure,A.data]) h;refine fo ?_;by_cases q1:kd=1
 ·rw[if_pos q1];obtain⟨K,hK⟩:=Ex ((kd==1));have hKt:K=true:=by rw[←hK,q1];rfl
  clear q1;refine azd hK ti ?_;(refine AX.dqk ti ?_ ?_);rotate_left
  ·intro hc;rw[hc]at hKt;exact absurd hKt (by decide)
  intro hc;refine azd hK ti ?_;(refine AX.dqk ti ?_ ?_);rotate_left
  ·intro hc;rw[hc]at hKt;exact absurd hKt (by decide)
  intro hc2;refine azd hK (ai cn (ai ce ti)) ?_;exact⟨_,le_refl _,by rw[azj,hc];simp⟩
 have f1:(kd==1)=false:=by simp[q1]
 rw[if_neg q1];by_cases q5:kd=5
 ·subst q5;rw[if_pos rfl];refine azd ti (ai cn (ai ce ti)) ?_;exact⟨_,le_refl _,by rw[azj]⟩
 have f5:(kd==5)=false:=by simp[q5]
 rw[if_neg q5];by_cases q2:kd=2
 ·subst q2;rw[if_pos rfl];refine azd ti (ai cs (ai cn ti)) ?_;exact⟨_,le_refl _,by rw[azj]⟩
 have f2:(kd==2)=false:=by simp[q2]
 rw[if_neg q2];by_cases q3:kd=3
 ·subst q3;rw[if_pos rfl];refine azd ti (ai cs (ai ci (ai cn ti))) ?_;exact⟨_,le_refl _,by rw[azj]⟩
 have f3:(kd==3)=false:=by simp[q3]
 rw[if_neg q3];by_cases q4:kd=4
 ·subst q4;rw[if_pos rfl];refine azd ti (ai cs (ai ci (ai cn ti))) ?_;exact⟨_,le_refl _,by rw[azj]⟩
 have f4:(kd==4)=false:=by simp[q4]
 rw[if_neg q4];refine azd (ai f1 (ai f2 (ai f3 (ai f4 f5)))) ti ?_;exact⟨_,le_refl _,rfl⟩
theorem az3(dst s:List UInt8)(hlen:dst.length+s.length+10≤1000000000)(h:Hp):AT 40 [.str dst,.str s] h (.str (dst++Wire.strE s)):=by
 refine pcall ?_ rfl (by simp[A.pure,A.data]) h;have hn:=num_len s.length;refine fo ?_;refine go0 ti ?_;refine gc0 ti ?_;refine(azg dst s.length (by omega) (by omega) (by omega) _).mono ?_;rintro v1 h1 ⟨rfl,rfl⟩;have hsum:dst.length+(Wire.num s.length).length+s.length<1099511627776:=by omega
 refine go0 hsum ?_;exact⟨_,le_refl _,by rw[azj,Wire.strE,Zg]⟩
theorem ajp:∀(v:V) (dst:List UInt8) (h:Hp),(∃ lv b,(Val.chk v lv b).1=0)→dst.length+(Val.enc v).length+10≤1000000000→v.lens→AT 116 [.str dst,v.A] h (.str (dst++Val.enc v)):=by
 refine V.induct fun k n s is ks ih=>?_
 rintro l h ⟨lv,b,hchk⟩ hlen hlens;refine pcall ?_ rfl (by simp[V.A,V.cells,A.pure,A.data]) h;refine fo ?_;obtain⟨hil,hkl,_,hmem⟩:=V.lens_mk hlens;obtain⟨_,_,hz,hcs⟩:=Val.chk_parts hchk;obtain⟨hsh,hn2,hts,hks⟩:=Val.shaped_of hz;have hs:=Val.text_len hts;have hkk:=Val.keys_len ks none hks;unfold Val.shapedB at hsh;simp only[Zc,ZS,Zq,ZC]at hsh;obtain⟨⟨⟨⟨⟨hk0,hk6⟩,hnn⟩,_⟩,_⟩,hkn⟩:=hsh;have hE:Val.enc (.mk k n s is ks)=Wire.num k++(if k=1∨k=2 then Wire.num n else if k=3 then Wire.strE s else if k=4∨k=5 then Wire.num is.length++Val.encs (k==5) is ks else[]):=by rw[Val.enc]
 rw[hE]at hlen ⊢;simp only[Za]at hlen;refine go0 (ai @V_A @azc) ?_;refine gc0 (ai @V_A @azc) ?_;refine(azg l k (by omega) (by omega) (by omega) _).mono ?_;rintro v0 h1 ⟨rfl,rfl⟩;have hlk:=num_len k;by_cases hk12:k=1∨k=2
 ·rw[if_pos hk12]at hlen ⊢;have hn:-9223372036854775808≤n∧n≤9223372036854775807:=by
   rcases hk12 with rfl|rfl
   ·rcases hnn with(h|h)|h
    ·exact absurd h (by decide)
    ·omega
    ·omega
   ·have:=hn2 rfl;omega
  rcases hk12 with rfl|rfl;all_goals
   refine go0 (ai @V_A @azc) ?_;refine gc0 (ai @V_A @azc) ?_;refine(azg _ n (by rw[Za];omega) (by omega) (by omega) _).mono ?_;rintro v2 h2 ⟨rfl,rfl⟩;refine go0 (ai @V_A @azc) ?_;exact⟨_,le_refl _,by rw[azj,Zg]⟩
 rw[if_neg hk12]at hlen ⊢;have e1:(k==1)=false:=by simp;omega
 have e2:(k==2)=false:=by simp;omega
 by_cases hk3:k=3
 ·rw[if_pos hk3]at hlen ⊢;subst hk3;refine go0 (ai @V_A @azc) ?_;refine gc0 (ai @V_A @azc) ?_;unfold Wire.strE at hlen;rw[Za]at hlen;refine(az3 _ s (by rw[Za];omega) _).mono ?_;rintro v2 h2 ⟨rfl,rfl⟩;refine go0 (ai @V_A @azc) ?_;exact⟨_,le_refl _,by rw[azj,Zg]⟩
 rw[if_neg hk3]at hlen ⊢;have e3:(k==3)=false:=by simp;omega
 by_cases hk45:k=4∨k=5
 ·rw[if_pos hk45]at hlen ⊢;rw[Za]at hlen;have hkl5:(k==5)=true→ks.length=is.length:=fun e=>by
   rw[if_pos (by simpa using e)]at hkn;simpa using hkn
  have hln:=num_len is.length;have step:∀(j:Nat) (hj:j<is.length),(Val.encs (k==5) (is.take j) ks).length+(Val.keyE (k==5) (ks.drop j)).length+(Val.enc is[j]).length≤(Val.encs (k==5) is ks).length:=bqv _ _ _;have e45:(k==4)=true∨(k==4)=false∧(k==5)=true:=by
   rcases hk45 with rfl|rfl
   ·exact .inl rfl
   ·exact .inr ⟨rfl,rfl⟩
  rcases e45 with e4|⟨e4,e5⟩;all_goals
   refine go0 (ai @V_A (ai @azc (ai e1 (ai e2 (ai e3 (ai e4 @V.cellss_length)))))) ?_
   try (refine go0 (ai @V_A (ai @azc (ai e1 (ai e2 (ai e3 (ai e4 (ai e5 @V.cellss_length))))))) ?_)
   refine gc0 (ai @V_A @azc) ?_;refine(azg _ is.length (by rw[Za];omega) (by omega) (by omega) _).mono ?_;rintro v2 h2 ⟨rfl,rfl⟩;refine go0 (ai @V_A (ai @azc @V.cellss_length)) ?_;refine azf (fun m ts hh=>hh=⟨[.cells 41 (V.mk k n s is ks).cells],[]⟩∧∃(j:Nat),m=is.length-j∧j≤is.length∧ts 0=.str (l++Wire.num k++Wire.num is.length++Val.encs (k==5) (is.take j) ks)∧ts 3=.ptr 0 0∧ts 5=.int .i64 j) is.length ?_ ?_
   ·refine⟨rfl,0,rfl,Zy _,?_⟩;simp only[aqh,az4,az6,aj1,aj7,az5,axb,axa,aq9,azj,az8,astep,bop,uop,loadA,storeA,appA,ssliceA,eqA,eqCells,fillA,rowsA,setCells,A.cells,A.one,A.data,azy,ZE,Yo,Z0,Zx,ZO,YB,YF,YO,Z3,Yq,ZH,Yn,ZQ,ZK,ZN,ZG,Zh,ZA,Zi,Zl,Zr,Yc,Yw,Yx,ZU,Z6,Yl,YY,Za,Ym,Nat.reduceAdd,Nat.reduceSub,Nat.reduceMul,Nat.reduceLeDiff,Nat.reduceEqDiff,Nat.reduceBEq,Yd,YG,if_true,if_false,reduceIte,ite_true,ite_false,true_and,and_true,ne_eq,Yi,Yu,Zk,reduceCtorEq,and_self,Yt,Yh,Zf,ZR,ZM,decide_true,decide_false,Val.encs];trivial
   ·rintro m ts hh ⟨rfl,j,rfl,hj,t0,t3,t5⟩;by_cases hlt:j<is.length
    ·have hlt2:(j:Int)<(is.length:Int):=by omega
     have hla:(j:Int)<((V.cellss is).length:Int):=by rw[V.cellss_length];omega
     have ei:IntKind.i64.wrap ((j:Int)+1)=(j:Int)+1:=wrap64 (by omega) (by omega);have ee:=V.cellss_get is j hlt;have hst:=step j hlt;have htk:=Val.encs_take (k==5) is ks j hlt;have hcall:=fun(l':List UInt8) (h:Hp) (hb:l'.length+(Val.enc is[j]).length+10≤1000000000)=>ih is[j] (Zp hlt) l' h ((Val.chks_get is _ _ hcs j hlt).elim fun b' hb'=>⟨_,b',hb'⟩) hb (hmem _ (Zp hlt))
     obtain⟨⟨k',n',s',is',ks'⟩,hv⟩:=Ex (is[j]);rw[hv]at ee hcall htk hst;rcases azl (k==5)with e5'|e5'
     ·have hkj:j<ks.length:=by rw[hkl5 e5'];exact hlt
      have hlk2:(j:Int)<((strsA ks).length:Int):=by rw[aze];omega
      have ek:=azv ks j hkj;have hke:Val.keyE (k==5) (ks.drop j)=Wire.strE ks[j]:=by rw[e5',Zo hkj];rfl
      rw[hke]at htk hst;simp only[e5']at htk hst t0 hlen;have hsl:(Wire.strE ks[j]).length=(Wire.num ks[j].length).length+ks[j].length:=by unfold Wire.strE;rw[Za]
      refine go0 (ai @azc (ai t0 (ai t3 (ai t5 (ai hla (ai hlt2 (ai ee (ai ei (ai e5' (ai hlk2 ek)))))))))) ?_;refine gc0 (ai @azc (ai t0 (ai t3 t5))) ?_;refine(az3 _ ks[j] (by simp only[Za];omega) _).mono ?_;rintro v3 h3 ⟨rfl,rfl⟩;refine go0 (ai @azc (ai t0 (ai t3 (ai t5 (ai hla ee))))) ?_;refine gc0 (ai @azc (ai t0 (ai t3 t5))) ?_;refine(hcall _ _ (by simp only[Za];omega)).mono ?_;rintro v4 h4 ⟨rfl,rfl⟩;refine go0 (ai @azc (ai t0 (ai t3 (ai t5 ei)))) ?_;refine⟨is.length-(j+1),by omega,rfl,j+1,rfl,by omega,?_⟩;simp only[aqh,az4,az6,aj1,aj7,az5,axb,axa,aq9,azj,az8,astep,bop,uop,loadA,storeA,appA,ssliceA,eqA,eqCells,fillA,rowsA,setCells,A.cells,A.one,A.data,azy,ZE,Yo,Z0,Zx,ZO,YB,YF,YO,Z3,Yq,ZH,Yn,ZQ,ZK,ZN,ZG,Zh,ZA,Zi,Zl,Zr,Yc,Yw,Yx,ZU,Z6,Yl,YY,Za,Ym,Nat.reduceAdd,Nat.reduceSub,Nat.reduceMul,Nat.reduceLeDiff,Nat.reduceEqDiff,Nat.reduceBEq,Yd,YG,if_true,if_false,reduceIte,ite_true,ite_false,true_and,and_true,ne_eq,Yi,Yu,Zk,reduceCtorEq,and_self,Yt,Yh,Zf,ZR,ZM,decide_true,decide_false,htk,e5',Zg,t3,Int.natCast_add,Int.natCast_one]
     ·have hke:Val.keyE (k==5) (ks.drop j)=[]:=by rw[e5'];rfl
      rw[hke]at htk hst;simp only[e5']at htk hst t0 hlen;refine go0 (ai @azc (ai t0 (ai t3 (ai t5 (ai hla (ai hlt2 (ai ee (ai ei e5')))))))) ?_;refine gc0 (ai @azc (ai t0 (ai t3 t5))) ?_;refine(hcall _ _ (by simp only[Za];omega)).mono ?_;rintro v4 h4 ⟨rfl,rfl⟩;refine go0 (ai @azc (ai t0 (ai t3 (ai t5 ei)))) ?_;refine⟨is.length-(j+1),by omega,rfl,j+1,rfl,by omega,?_⟩;simp only[aqh,az4,az6,aj1,aj7,az5,axb,axa,aq9,azj,az8,astep,bop,uop,loadA,storeA,appA,ssliceA,eqA,eqCells,fillA,rowsA,setCells,A.cells,A.one,A.data,azy,ZE,Yo,Z0,Zx,ZO,YB,YF,YO,Z3,Yq,ZH,Yn,ZQ,ZK,ZN,ZG,Zh,ZA,Zi,Zl,Zr,Yc,Yw,Yx,ZU,Z6,Yl,YY,Za,Ym,Nat.reduceAdd,Nat.reduceSub,Nat.reduceMul,Nat.reduceLeDiff,Nat.reduceEqDiff,Nat.reduceBEq,Yd,YG,if_true,if_false,reduceIte,ite_true,ite_false,true_and,and_true,ne_eq,Yi,Yu,Zk,reduceCtorEq,and_self,Yt,Yh,Zf,ZR,ZM,decide_true,decide_false,htk,e5',Zg,t3,Int.natCast_add,Int.natCast_one,Zi]
    ·have hlt2:¬(j:Int)<((V.cellss is).length:Int):=by rw[V.cellss_length];omega
     rw[ZJ (by omega)]at t0;refine go0 (ai @azc (ai t0 (ai t3 (ai t5 hlt2)))) ?_;exact⟨_,le_refl _,by rw[azj,Zg,Zg]⟩
 ·rw[if_neg hk45]at hlen ⊢;rw[Zr];have e4:(k==4)=false:=by simp;omega
  have e5:(k==5)=false:=by simp;omega
  refine go0 (ai @V_A (ai @azc (ai e1 (ai e2 (ai e3 (ai e4 e5)))))) ?_;exact⟨_,le_refl _,rfl⟩
theorem ayy(s:List UInt8)(hs:s.length≤1000000000)(h:Hp):AT 39 [.str s] h (.str (Crc.app s)):=
 azs (axv aq8) (fun w hg=>bqf ⟨s.toArray⟩ w (by rw[size_mk];exact hs)) (fun C=>rep_str.2 rfl) h
theorem bza(b:Bool)(h:Hp):AT 117 [.bool b] h (.int .i64 (if b=true then 1 else 0)):=by
 refine pcall ?_ rfl (by simp[A.pure,A.data]) h;refine fo ?_;cases b<;>((refine azd ti ti ?_);exact⟨_,le_refl _,rfl⟩)
theorem ava{α:Type}(f:α→List UInt8)(l:List α)(j:Nat):((l.take j).flatMap f).length≤(l.flatMap f).length:=by
 have h:l.flatMap f=(l.take j).flatMap f++(l.drop j).flatMap f:=by rw[←Yp,Yj]
 rw[h,Za];omega
theorem aj3{α:Type}(f:α→List UInt8)(l:List α)(j:Nat)(hj:j<l.length):(l.take (j+1)).flatMap f=(l.take j).flatMap f++f l[j]:=by
 rw[ZW hj,Yp];simp
theorem ayi(dst:List UInt8)(l:List (List UInt8))(hl:l.length≤1000000000)(hb:dst.length+(Wire.num l.length).length+(Sf.wordsE l).length+10≤1000000000)(h:Hp):AT 118 [.str dst,.sl 1 .no (strsA l)] h (.str (dst++Wire.num l.length++Sf.wordsE l)):=by
 refine pcall ?_ rfl (by simp[A.pure,A.data]) h;refine fo ?_;have cn:=azg dst (l.length:Int) (by omega) (by omega) (by omega);have ls:=aze l;obtain⟨D,hD⟩:=Ex (dst++Wire.num l.length);have hDl:D.length=dst.length+(Wire.num l.length).length:=by rw[←hD,Za]
 rw[hD]at cn ⊢;refine azd ls (ai cn ti) ?_;refine azf (fun m ts hh=>hh=⟨[],[]⟩∧∃ j:Nat,m=l.length-j∧j≤l.length∧(ts 0=.str (D++(l.take j).flatMap Wire.strE)∧ts 1=.sl 1 .no (strsA l)∧ts 5=.int .i64 (j:Nat))) l.length ?_ ?_
 ·refine⟨rfl,0,rfl,Zy _,?_⟩;rw[show(l.take 0).flatMap Wire.strE=[]from rfl,Zr];(exact azq ti)
 rintro m ts hh ⟨rfl,j,rfl,hj,ht⟩;rcases Z4 j l.length with hlt|hge
 ·have hf:=cz9 l j hlt (by omega);have h1:=ava Wire.strE l (j+1);have h2:=aj3 Wire.strE l j hlt;rw[h2,Za]at h1;obtain⟨s,hs⟩:=Ex (l[j]);rw[hs]at hf h1 h2;have hw:(l.flatMap Wire.strE).length=(Sf.wordsE l).length:=rfl;have hse:s.length≤(Wire.strE s).length:=by unfold Wire.strE;rw[Za];omega
  obtain⟨T,hT⟩:=Ex ((l.take j).flatMap Wire.strE);rw[hT]at ht h1 h2;have ca:=az3 (D++T) s (by rw[Za];omega);rw[Zg,←h2]at ca;refine azd (ai ht hf) (ai ca ti) ?_;exact⟨_,by omega,rfl,j+1,rfl,by omega,by(exact azq (ai ht hf))⟩
 ·have hf:=ai ls (show¬(j:Int)<(l.length:Int) by omega);rw[ZJ hge]at ht;refine azd (ai ht hf) ti ?_;exact⟨_,le_refl _,rfl⟩
theorem bq5(ver:Int)(hver:ver=1∨ver=2)(dst:List UInt8)(x:Sf.Inst)(hx:Sf.InstIn x)(hc:∃ lv b,(Val.chk x.attrs lv b).1=0)(hv:-9223372036854775808≤x.ver∧x.ver≤9223372036854775807)(hb:dst.length+(Sf.instE ver x).length+20≤1000000000)(h:Hp) :
  AT 82 [.str dst,.agg x.cells,.int .i64 ver] h (.str (dst++Sf.instE ver x)):=by
 have hn:=hx.n;have hL:=hx.l;obtain⟨a,d,id,ty,⟨k,n,w,vi,vy⟩,v,tn,fi,ds⟩:=x;dsimp only at hc hv hn hL;have se:∀ s:List UInt8,s.length≤(Wire.strE s).length:=fun s=>by unfold Wire.strE;rw[Za];omega
 have sa:=se a;have sd:=se d;have si:=se id;have st:=se ty;unfold Sf.instE at hb;simp only[Za]at hb;have hfl:(if ver=2 then Sf.flagE fi else[]).length≤(Sf.flagE fi).length:=by split<;>simp
 have n10:∀ m:Int,(Wire.num m).length≤10:=fun m=>(Wire.encF_len 9 (Wire.zig m)).2
 have f10:=n10 (if tn=true then 1 else 0);have g10:=n10 (if fi=true then 1 else 0);have hft:(Sf.flagE tn).length=(Wire.num (if tn=true then 1 else 0)).length:=rfl;have c1:=az3 dst a (by omega);have c2:=az3 (dst++Wire.strE a) d (by simp only[Za];omega);have c3:=az3 (dst++Wire.strE a++Wire.strE d) id (by simp only[Za];omega);have c4:=az3 (dst++Wire.strE a++Wire.strE d++Wire.strE id) ty (by simp only[Za];omega);obtain⟨D,hD⟩:=Ex (dst++Wire.strE a++Wire.strE d++Wire.strE id++Wire.strE ty);have hDl:D.length=dst.length+(Wire.strE a).length+(Wire.strE d).length+(Wire.strE id).length+(Wire.strE ty).length:=by rw[←hD];simp only[Za]
 rw[hD]at c4;have c5:=fun h=>ajp (.mk k n w vi vy) D h hc (by omega) hL
 simp only[V.A,V.cells]at c5;obtain⟨E,hE⟩:=Ex (D++Val.enc (.mk k n w vi vy));have hEl:E.length=D.length+(Val.enc (.mk k n w vi vy)).length:=by rw[←hE,Za]
 rw[hE]at c5;have c6:=azg E v (by omega) hv.1 hv.2;have cb:=bza tn;have cb2:=bza fi;have c7:=azg (E++Wire.num v) (if tn=true then 1 else 0) (by simp only[Za];omega) (by split<;>decide) (by split<;>decide);obtain⟨F,hF⟩:=Ex (E++Wire.num v++Wire.num (if tn=true then 1 else 0));have hFl:F.length=E.length+(Wire.num v).length+(Wire.num (if tn=true then 1 else 0)).length:=by rw[←hF];simp only[Za]
 rw[hF]at c7;have hres:∀ fl,(if ver=2 then Sf.flagE fi else[])=fl→F++fl++Wire.num ds.length++Sf.wordsE ds=dst++Sf.instE ver ⟨a,d,id,ty,.mk k n w vi vy,v,tn,fi,ds⟩:=fun fl e=>by
  rw[←hF,←hE,←hD,←e];unfold Sf.instE Sf.flagE;simp only[Zg]
 refine pcall ?_ rfl (by simp[A.pure,A.data,Sf.Inst.cells]) h;refine fo ?_;dsimp only[Sf.Inst.cells];rcases hver with rfl|rfl
 ·have e1:¬(1:Int)≥2:=by decide
  rw[if_neg (by decide)]at hres hb hfl;have cw:=ayi F ds (by omega) (by simp only[ZA]at hb;omega);have:=hres [] rfl;rw[Zr]at this;rw[this]at cw;refine azd e1 (ai c1 (ai c2 (ai c3 (ai c4 (ai c5 (ai c6 (ai cb (ai c7 (ai cw ti))))))))) ?_;exact⟨_,le_refl _,rfl⟩
 ·have e1:(2:Int)≥2:=by decide
  rw[if_pos rfl]at hres hb hfl;have hgt:(Sf.flagE fi).length=(Wire.num (if fi=true then 1 else 0)).length:=rfl;have c8:=azg F (if fi=true then 1 else 0) (by omega) (by split<;>decide) (by split<;>decide);have cw:=ayi (F++Wire.num (if fi=true then 1 else 0)) ds (by omega) (by simp only[Za];omega);have e:=hres _ rfl;rw[show Sf.flagE fi=Wire.num (if fi=true then 1 else 0)from rfl]at e;rw[e]at cw;refine azd e1 (ai c1 (ai c2 (ai c3 (ai c4 (ai c5 (ai c6 (ai cb (ai c7 (ai cb2 (ai c8 (ai cw ti))))))))))) ?_;refine azd e1 (ai c8 (ai cw ti)) ?_;exact⟨_,le_refl _,rfl⟩
theorem bje{ver:Int}(hver:ver=1∨ver=2)(st:Sf.St)(hin:Sf.StIn st)(htp:Sf.TypIn st)(hlen:Sf.checkZ st=0→(Sf.stE ver st).length+20≤1000000000)(h:Hp) :
  AT 115 [st.A,.int .i64 ver] h (.tup [.str (Sf.encode ver st).1,.int .i64 (Sf.encode ver st).2]):=by
 have hok:=fun hz=>Sf.stOk_of (s:=st) hz hin
 have hck:=bk7 st hin htp;obtain⟨r,hr⟩:=Ex (Sf.encode ver st);rw[hr];unfold Sf.encode at hr;have hS:Sf.stE ver st=Sf.magic++Wire.num ver++Wire.strE st.lin++Wire.num st.ser++Wire.num st.insts.length++st.insts.flatMap (Sf.instE ver)++(if ver=2 then Wire.num st.pends.length++st.pends.flatMap Sf.pendE else[])++Wire.num st.outs.length++st.outs.flatMap Sf.outE:=rfl;obtain⟨Z,hZ⟩:=Ex (Sf.checkZ st);obtain⟨E,hEq⟩:=Ex (Sf.stE ver st);rw[hZ]at hr hck hok hlen;rw[hEq]at hr hlen hS;have hin':=hin.insts;obtain⟨lin,ser,ins,ps,os⟩:=st;dsimp only at hS hin';refine pcall ?_ rfl (by simp[A.pure,A.data,Sf.St.A]) h;refine fo ?_;dsimp only[Sf.St.A];dsimp only[Sf.St.A]at hck;have li:(ins.map Sf.Inst.cells).length=ins.length∧(ps.map Sf.Pend.cells).length=ps.length∧(os.map Sf.Outp.cells).length=os.length:=⟨Zj _,Zj _,Zj _⟩;by_cases hz:Z=0
 rotate_left
 ·have e1:(Z !=0)=true:=by simp[hz]
  rw[if_pos hz]at hr;subst hr;refine azd e1 (ai hck ti) ?_;exact⟨_,le_refl _,rfl⟩
 have e1:(Z !=0)=false:=by simp[hz]
 rw[if_neg (by simp[hz])]at hr;obtain⟨oi,oo,s0,s1,l1,l2,l3⟩:=hok hz;have hl:=hlen hz;dsimp only at oi oo s0 s1 l1 l2 l3;have n10:∀ m:Int,(Wire.num m).length≤10:=fun m=>(Wire.encF_len 9 (Wire.zig m)).2
 have se:∀ s:List UInt8,s.length≤(Wire.strE s).length:=fun s=>by unfold Wire.strE;rw[Za];omega
 have sl:=se lin;have hsl:=congrArg List.length hS;simp only[Za]at hsl;have v0:-9223372036854775808≤ver∧ver≤9223372036854775807:=by omega
 have c1:=azg Sf.magic ver (by decide) v0.1 v0.2;have c2:=az3 (Sf.magic++Wire.num ver) lin (by rw[Za];omega);have c3:=azg (Sf.magic++Wire.num ver++Wire.strE lin) ser (by simp only[Za];omega) s0 s1;have c4:=azg (Sf.magic++Wire.num ver++Wire.strE lin++Wire.num ser) ins.length (by simp only[Za];omega) (by omega) (by omega);unfold Sf.magic at c1;obtain⟨D,hD⟩:=Ex (Sf.magic++Wire.num ver++Wire.strE lin++Wire.num ser++Wire.num ins.length);have hDl:=congrArg List.length hD;simp only[Za]at hDl;rw[hD]at c4 hS;refine azd (ai e1 li) (ai hck (ai c1 (ai c2 (ai c3 (ai c4 ti))))) ?_
 refine azf (fun m ts hh=>∃(j:Nat) (l:List Blk),m=ins.length-j∧j≤ins.length∧hh=⟨.cells 35 [.str lin,.int .i64 ser,.sl 13 .no (ins.map Sf.Inst.cells),.sl 3 .no (ps.map Sf.Pend.cells),.sl 7 .no (os.map Sf.Outp.cells)]::l,[]⟩ ∧
  (ts 1=.int .i64 ver∧ts 2=.ptr 0 0∧ts 7=.str (D++(ins.take j).flatMap (Sf.instE ver))∧ts 8=.int .i64 (j:Nat))) ins.length ?_ ?_
 ·refine⟨0,[],rfl,Zy _,rfl,?_⟩;rw[show(ins.take 0).flatMap (Sf.instE ver)=[]from rfl,Zr];(exact azq ti)
 rintro m ts hh ⟨j,l,rfl,hj,rfl,ht⟩;rcases Z4 j ins.length with hlt|hge
 ·have hf:=ax0 Sf.Inst.cells ins j hlt (by omega);have h1:=ava (Sf.instE ver) ins (j+1);have h2:=aj3 (Sf.instE ver) ins j hlt;rw[h2,Za]at h1;have hix:=hin' _ (Zp hlt);have hox:=oi _ (Zp hlt);obtain⟨x,hx⟩:=Ex (ins[j]);rw[hx]at hf h1 h2 hix hox;obtain⟨T,hT⟩:=Ex ((ins.take j).flatMap (Sf.instE ver));rw[hT]at ht h1 h2;obtain⟨o1,o2,o3,o4⟩:=hox;have ca:=bq5 ver hver (D++T) x hix o1 ⟨o3,o4⟩ (by rw[Za];omega);rw[Zg,←h2]at ca;obtain⟨a,d,id,ty,⟨k,n,w,vi,vy⟩,v,tn,fi,ds⟩:=x;dsimp only[Sf.Inst.cells]at hf ca;refine azd (ai ht (ai hf li)) (ai ca ti) ?_;exact⟨_,by omega,j+1,_,rfl,by omega,rfl,by(exact azq (ai ht hf))⟩
 have hf:=ajf Sf.Inst.cells ins j hge;rw[ZJ hge]at ht;obtain⟨D1,hD1⟩:=Ex (D++ins.flatMap (Sf.instE ver));have hD1l:=congrArg List.length hD1;simp only[Za]at hD1l;rw[hD1]at ht hS;refine azd (ai ht (ai hf li)) ti ?_;obtain⟨D2,hD2⟩:=Ex (D1++(if ver=2 then Wire.num ps.length++ps.flatMap Sf.pendE else[]));have hD2l:=congrArg List.length hD2;simp only[Za]at hD2l;rw[hD2]at hS;refine bzl (fun ts' h'=>(∃ l',h'=⟨.cells 35 [.str lin,.int .i64 ser,.sl 13 .no (ins.map Sf.Inst.cells),.sl 3 .no (ps.map Sf.Pend.cells),.sl 7 .no (os.map Sf.Outp.cells)]::l',[]⟩)∧(ts' 2=.ptr 0 0∧ts' 7=.str D2)) ?_ ?_
 ·rcases hver with rfl|rfl
  ·have e2:¬(1:Int)≥2:=by decide
   rw[if_neg (by decide),Zr]at hD2;subst hD2;refine azd (ai e2 ht) ti ?_;exact⟨⟨_,rfl⟩,by(exact azq ht)⟩
  have e2:(2:Int)≥2:=by decide
  rw[if_pos rfl]at hD2 hsl hD2l;simp only[Za]at hsl hD2l;have cp:=azg D1 ps.length (by omega) (by omega) (by omega);rw[←Zg]at hD2;obtain⟨P,hP⟩:=Ex (D1++Wire.num ps.length);have hPl:=congrArg List.length hP;simp only[Za]at hPl;rw[hP]at cp hD2;refine azd (ai e2 (ai ht li)) (ai cp ti) ?_
  refine azf (fun m ts hh=>∃(j:Nat) (l:List Blk),m=ps.length-j∧j≤ps.length∧hh=⟨.cells 35 [.str lin,.int .i64 ser,.sl 13 .no (ins.map Sf.Inst.cells),.sl 3 .no (ps.map Sf.Pend.cells),.sl 7 .no (os.map Sf.Outp.cells)]::l,[]⟩ ∧
   (ts 2=.ptr 0 0∧ts 7=.str (P++(ps.take j).flatMap Sf.pendE)∧ts 9=.int .i64 (j:Nat))) ps.length ?_ ?_
  ·refine⟨0,_,rfl,Zy _,rfl,?_⟩;rw[show(ps.take 0).flatMap Sf.pendE=[]from rfl,Zr];(exact azq ht)
  rintro m ts' hh ⟨j',l',rfl,hj',rfl,hu⟩;rcases Z4 j' ps.length with hlt|hge'
  ·have hf:=ax0 Sf.Pend.cells ps j' hlt (by omega);have h1:=ava Sf.pendE ps (j'+1);have h2:=aj3 Sf.pendE ps j' hlt;rw[h2,Za]at h1;obtain⟨x,hx⟩:=Ex (ps[j']);rw[hx]at hf h1 h2;obtain⟨T,hT⟩:=Ex ((ps.take j').flatMap Sf.pendE);rw[hT]at hu h1 h2;obtain⟨a,ty,tok⟩:=x;dsimp only[Sf.Pend.cells]at hf;have hpe:Sf.pendE ⟨a,ty,tok⟩=Wire.strE a++Wire.strE ty++Wire.strE tok:=rfl;rw[hpe]at h1 h2;simp only[Za]at h1;have sa:=se a;have st:=se ty;have sk:=se tok;have p1:=az3 (P++T) a (by rw[Za];omega);have p2:=az3 (P++T++Wire.strE a) ty (by simp only[Za];omega);have p3:=az3 (P++T++Wire.strE a++Wire.strE ty) tok (by simp only[Za];omega);have hq:P++T++Wire.strE a++Wire.strE ty++Wire.strE tok=P++(ps.take (j'+1)).flatMap Sf.pendE:=by rw[h2];simp only[Zg]
   rw[hq]at p3;refine azd (ai hu (ai hf li)) (ai p1 (ai p2 (ai p3 ti))) ?_;exact⟨_,by omega,j'+1,_,rfl,by omega,rfl,by(exact azq (ai hu hf))⟩
  have hf:=ajf Sf.Pend.cells ps j' hge';rw[ZJ hge',hD2]at hu;refine azd (ai hu (ai hf li)) ti ?_;exact⟨⟨_,rfl⟩,by(exact azq hu)⟩
 rintro ts' hh ⟨⟨l',rfl⟩,hu⟩;have cp:=azg D2 os.length (by omega) (by omega) (by omega);obtain⟨P,hP⟩:=Ex (D2++Wire.num os.length);have hPl:=congrArg List.length hP;simp only[Za]at hPl;rw[hP]at cp hS;refine azd (ai hu li) (ai cp ti) ?_
 refine azf (fun m ts hh=>∃(j:Nat) (l:List Blk),m=os.length-j∧j≤os.length∧hh=⟨.cells 35 [.str lin,.int .i64 ser,.sl 13 .no (ins.map Sf.Inst.cells),.sl 3 .no (ps.map Sf.Pend.cells),.sl 7 .no (os.map Sf.Outp.cells)]::l,[]⟩ ∧
  (ts 2=.ptr 0 0∧ts 7=.str (P++(os.take j).flatMap Sf.outE)∧ts 11=.int .i64 (j:Nat))) os.length ?_ ?_
 ·refine⟨0,_,rfl,Zy _,rfl,?_⟩;rw[show(os.take 0).flatMap Sf.outE=[]from rfl,Zr];(exact azq hu)
 rintro m ts' hh ⟨j',l',rfl,hj',rfl,hu⟩;rcases Z4 j' os.length with hlt|hge'
 ·have hf:=ax0 Sf.Outp.cells os j' hlt (by omega);have h1:=ava Sf.outE os (j'+1);have h2:=aj3 Sf.outE os j' hlt;rw[h2,Za]at h1;have hox:=oo _ (Zp hlt);obtain⟨x,hx⟩:=Ex (os[j']);rw[hx]at hf h1 h2 hox;obtain⟨T,hT⟩:=Ex ((os.take j').flatMap Sf.outE);rw[hT]at hu h1 h2;obtain⟨nm,⟨k,n,w,vi,vy⟩,sn⟩:=x;dsimp only[Sf.Outp.cells]at hf;have hpe:Sf.outE ⟨nm,.mk k n w vi vy,sn⟩=Wire.strE nm++Val.enc (.mk k n w vi vy)++Sf.flagE sn:=rfl;rw[hpe]at h1 h2;dsimp only at hox;simp only[Za]at h1;have sa:=se nm;have p1:=az3 (P++T) nm (by rw[Za];omega);obtain⟨F,hF⟩:=Ex (P++T++Wire.strE nm);have hFl:=congrArg List.length hF;simp only[Za]at hFl;rw[hF]at p1;have p2:=fun h=>ajp (.mk k n w vi vy) F h hox.1 (by omega) hox.2
  simp only[V.A,V.cells]at p2;have cb:=bza sn;have p3:=azg (F++Val.enc (.mk k n w vi vy)) (if sn=true then 1 else 0) (by simp only[Za];omega) (by split<;>decide) (by split<;>decide);have hq:F++Val.enc (.mk k n w vi vy)++Wire.num (if sn=true then 1 else 0)=P++(os.take (j'+1)).flatMap Sf.outE:=by
   rw[h2,←hF];unfold Sf.flagE;simp only[Zg]
  rw[hq]at p3;refine azd (ai hu (ai hf li)) (ai p1 (ai p2 (ai cb (ai p3 ti)))) ?_;exact⟨_,by omega,j'+1,_,rfl,by omega,rfl,by(exact azq (ai hu hf))⟩
 have hf:=ajf Sf.Outp.cells os j' hge';rw[ZJ hge',←hS]at hu;have cc:=ayy E (by omega);have hla:((Crc.app E).length:Int)=E.length+4:=by simp[Crc.app,Crc.four_length]
 by_cases hg:1048572<E.length
 ·have e3:((Crc.app E).length:Int)>1048576:=by omega
  rw[if_pos hg]at hr;subst hr;refine azd (ai hu (ai hf (ai li e3))) (ai cc ti) ?_;exact⟨_,le_refl _,rfl⟩
 ·have e3:¬((Crc.app E).length:Int)>1048576:=by omega
  rw[if_neg hg]at hr;subst hr;refine azd (ai hu (ai hf (ai li e3))) (ai cc ti) ?_;exact⟨_,le_refl _,rfl⟩
theorem bjo(st:Sf.St)(hin:Sf.StIn st)(htp:Sf.TypIn st)(hlen:Sf.checkZ st=0→(Sf.stE 2 st).length+20≤1000000000)(h:Hp) :
  AT 81 [st.A] h (.tup [.str (Sf.encode 2 st).1,.int .i64 (Sf.encode 2 st).2]):=by
 refine pcall ?_ rfl (by simp[A.pure,A.data,Sf.St.A]) h;refine fo ?_;have he:=bje (.inr rfl) st hin htp hlen;unfold Sf.St.A at he ⊢;refine azd ti (ai he ti) ?_;exact⟨_,le_refl _,rfl⟩
end AX
namespace Jr
def bodyR(r:Jr):List UInt8×Int:=if r.kind=1∧(Sf.encode 2 r.base).2≠0 then([],(Sf.encode 2 r.base).2)else(r.body,0)
theorem encode_len2(ver:Int)(st:Sf.St):(Sf.encode ver st).1.length≤1048576:=by
 unfold Sf.encode;split
 ·simp
 ·split
  ·simp
  ·next h=>show(Crc.app _).length≤_;simp[Crc.app,Crc.four];omega
theorem enc_body(r:Jr)(hv:r.validB=true):enc r=if r.bodyR.2≠0 then([],r.bodyR.2)else if 1048576<(Crc.app (Wire.strE r.bodyR.1)).length then([],3)else(Crc.app (Wire.strE r.bodyR.1),0):=by
 unfold enc bodyR;rw[if_neg (by rw[hv];decide)];by_cases h:r.kind=1∧(Sf.encode 2 r.base).2≠0
 ·rw[if_pos h,if_pos h,if_pos h.2]
 ·rw[if_neg h,if_neg h];dsimp only;rw[if_neg (show¬((0:Int)≠0) by decide)]
end Jr
namespace AX
theorem cq5(x:Sf.Inst)(hx:Jr.InstE x)(hl:x.attrs.lens):Sf.InstIn x:=⟨hx.a,hx.d,hx.i,hl,by have:=hx.n;omega,hx.ds⟩
theorem ck5(r:Jr)(hv:r.validB=true)(hl:JrLen r)(hin:Sf.StIn r.base)(htp:Sf.TypIn r.base)(hlen:Sf.checkZ r.base=0→(Sf.stE 2 r.base).length+20≤1000000000)(h:Hp) :
  AT 38 [.agg r.cells] h (.tup [.str r.bodyR.1,.int .i64 r.bodyR.2]):=by
 have ce:=bjo r.base hin htp hlen;obtain⟨l1,l2,l3,l4⟩:=hl;have nl:∀ n:Int,(Wire.num n).length≤10:=fun n=>(Wire.encF_len 9 (Wire.zig n)).2
 have sl:∀ s:List UInt8,(Wire.strE s).length≤s.length+10:=fun s=>by unfold Wire.strE;rw[Za];have:=nl s.length;omega
 have sg:∀ s:List UInt8,s.length≤(Wire.strE s).length:=fun s=>by unfold Wire.strE;rw[Za];omega
 have hk:=hv;unfold Jr.validB at hk;have hbad:¬Jr.badB r=true:=fun e=>by rw[if_pos e]at hk;cases hk
 rw[if_neg hbad]at hk;have fitE:=Jr.encode_len2 2 r.base;have hse:r.stepB=true→StepE r:=fun hs=>by
  unfold Jr.stepB at hs;simp only[Zc,Zq]at hs;obtain⟨⟨⟨⟨s0,s1⟩,o0⟩,o1⟩,_⟩:=hs;exact⟨by omega,by omega,by omega,by omega⟩
 have hae:Jr.afterB r=true→Jr.InstE r.after:=fun ha=>Jr.afterB_enc (op:=r.op) (by unfold Jr.afterB at ha;exact ha)
 have ci:=fun(ha:Jr.afterB r=true) (s:List UInt8) (hs:s.length≤200000000)=>bq5 2 (.inr rfl) s r.after (cq5 _ (hae ha) l4) ⟨1,0,(hae ha).v⟩ ⟨(hae ha).v0,(hae ha).v1⟩ (by omega)
 have hbody:r.body=Wire.num r.kind++Jr.restE r (Sf.encode 2 r.base).1:=rfl;unfold Jr.restE at hbody;obtain⟨N,hN⟩:=Ex (Jr.bodyR r);have hN':=hN;unfold Jr.bodyR at hN';rw[hN];clear hN;obtain⟨B,hB⟩:=Ex ((Sf.encode 2 r.base).1);obtain⟨E,hE⟩:=Ex ((Sf.encode 2 r.base).2);rw[hB,hE]at ce;rw[hB]at hbody fitE;rw[hE]at hN';have hS1:∀ k:Int,Wire.num k++Jr.stepE r=Wire.num k++Wire.num r.step++Wire.num r.op++Wire.strE r.addr++Wire.strE r.dep++Wire.strE r.typ:=fun k=>by simp only[Jr.stepE,Zg]
 have hSl:(Jr.stepE r).length=(Wire.num r.step).length+(Wire.num r.op).length+(Wire.strE r.addr).length+(Wire.strE r.dep).length+(Wire.strE r.typ).length:=by simp only[Jr.stepE,Za]
 have ga:=sg r.addr;have gd:=sg r.dep;have gt:=sg r.typ;obtain⟨S1,hS⟩:=Ex (Jr.stepE r);rw[hS]at hbody l1 hS1 hSl;obtain⟨I1,hI1⟩:=Ex (Sf.instE 2 r.after);rw[hI1]at ci hbody l2;obtain⟨X,hX⟩:=Ex (r.body);rw[hX]at hbody hN';clear hv hbad hX hS hI1 hB hE hae;obtain⟨kd,⟨lin,ser,ins,ps,os⟩,st,op,ad,dp,ty,tk,er,⟨a1,a2,a3,a4,⟨k,nn,ss,is,ks⟩,v,tn,fi,ds⟩⟩:=r;dsimp only at hk hbody hN' l3 hS1 hSl ga gd gt;simp only[Sf.Inst.cells,Sf.St.A]at ce ci;simp only[Jr.cells,Sf.Inst.cells,Zl,Zi];refine pcall ?_ rfl (by simp[A.pure,A.data]) h;refine fo ?_;have c0:=fun(k:Int) (h0:-9223372036854775808≤k) (h1:k≤9223372036854775807)=>azg [] k (by simp) h0 h1
 simp only[Zi]at c0;have chain:∀ kk:Int,StepE ⟨kk,⟨lin,ser,ins,ps,os⟩,st,op,ad,dp,ty,tk,er,⟨a1,a2,a3,a4,⟨k,nn,ss,is,ks⟩,v,tn,fi,ds⟩⟩ →
   (∀ h,AT 80 [.str (Wire.num kk),.int .i64 st] h (.str (Wire.num kk++Wire.num st))) ∧
   (∀ h,AT 80 [.str (Wire.num kk++Wire.num st),.int .i64 op] h (.str (Wire.num kk++Wire.num st++Wire.num op))) ∧
   (∀ h,AT 40 [.str (Wire.num kk++Wire.num st++Wire.num op),.str ad] h (.str (Wire.num kk++Wire.num st++Wire.num op++Wire.strE ad))) ∧
   (∀ h,AT 40 [.str (Wire.num kk++Wire.num st++Wire.num op++Wire.strE ad),.str dp] h (.str (Wire.num kk++Wire.num st++Wire.num op++Wire.strE ad++Wire.strE dp))) ∧
   (∀ h,AT 40 [.str (Wire.num kk++Wire.num st++Wire.num op++Wire.strE ad++Wire.strE dp),.str ty] h (.str (Wire.num kk++S1))):=by
  intro kk hs;have nk:=nl kk;refine⟨azg _ _ (by omega) hs.s0 hs.s1,azg _ _ (by rw[Za];omega) hs.o0 hs.o1,az3 _ _ (by simp only[Za];omega),az3 _ _ (by simp only[Za];omega),?_⟩;rw[hS1];exact az3 _ _ (by simp only[Za];omega)
 by_cases k5:kd=5
 ·subst k5;rw[if_neg (by decide),if_neg (by decide),if_neg (by decide),if_neg (by decide),Zr]at hbody;rw[if_neg (fun h1=>absurd h1.1 (by decide))]at hN';subst hN';have cn:=c0 5 (by decide) (by decide);rw[←hbody]at cn;refine azd ti (ai cn ti) ?_;exact⟨_,le_refl _,rfl⟩
 have f5:(kd==5)=false:=by simp[k5]
 by_cases k1:kd=1
 ·subst k1;rw[if_pos rfl]at hbody;have cn:=c0 1 (by decide) (by decide);have ct:=az3 (Wire.num 1) B (by have:=nl 1;omega);rw[←hbody]at ct;by_cases hE0:E=0
  rotate_left
  ·have e1:(E !=0)=true:=by simp[hE0]
   rw[if_pos ⟨rfl,hE0⟩]at hN';subst hN';refine azd e1 (ai cn (ai ce ti)) ?_;exact⟨_,le_refl _,rfl⟩
  ·subst hE0;rw[if_neg (fun h1=>h1.2 rfl)]at hN';subst hN';refine azd ti (ai cn (ai ce (ai ct ti))) ?_;exact⟨_,le_refl _,rfl⟩
 have f1:(kd==1)=false:=by simp[k1]
 rw[if_neg (fun h1=>k1 h1.1)]at hN';subst hN';rw[if_neg k1]at hbody;rw[if_neg (by rintro(h|h)<;>contradiction)]at hk;by_cases k2:kd=2
 ·subst k2;rw[if_pos rfl]at hbody;rw[if_pos rfl,Zc,Zc,Zc]at hk;obtain⟨n1,n2,s1,s2,s3⟩:=chain 2 (hse hk.1.1.1);have cn:=c0 2 (by decide) (by decide);have s4:=az3 (Wire.num 2++S1) tk (by rw[Za];have:=nl 2;omega);rw[Zg,←hbody]at s4;refine azd ti (ai cn (ai n1 (ai n2 (ai s1 (ai s2 (ai s3 (ai s4 ti))))))) ?_;exact⟨_,le_refl _,rfl⟩
 have f2:(kd==2)=false:=by simp[k2]
 rw[if_neg k2]at hbody hk;by_cases k3:kd=3
 ·subst k3;rw[if_pos rfl]at hbody hk;rw[Zc]at hk;obtain⟨n1,n2,s1,s2,s3⟩:=chain 3 (hse hk.1);have cn:=c0 3 (by decide) (by decide);have s4:=ci hk.2 (Wire.num 3++S1) (by rw[Za];have:=nl 3;omega);rw[Zg,←hbody]at s4;refine azd ti (ai cn (ai n1 (ai n2 (ai s1 (ai s2 (ai s3 (ai s4 ti))))))) ?_;exact⟨_,le_refl _,rfl⟩
 have f3:(kd==3)=false:=by simp[k3]
 rw[if_neg k3]at hbody hk;by_cases k4:kd=4
 ·subst k4;rw[if_pos rfl]at hbody hk;rw[Zc,Zc,Zc,Zq,Zq]at hk;obtain⟨n1,n2,s1,s2,s3⟩:=chain 4 (hse hk.1.1.1);have cn:=c0 4 (by decide) (by decide);have ne:=nl er;have n4:=nl 4;have s4:=azg (Wire.num 4++S1) er (by rw[Za];omega) (by omega) (by omega);have s5:=ci hk.1.1.2 (Wire.num 4++S1++Wire.num er) (by simp only[Za];omega);have hb2:Wire.num 4++S1++Wire.num er++I1=X:=by rw[hbody];simp only[Zg]
  rw[hb2]at s5;refine azd ti (ai cn (ai n1 (ai n2 (ai s1 (ai s2 (ai s3 (ai s4 (ai s5 ti)))))))) ?_;exact⟨_,le_refl _,rfl⟩
 rw[if_neg k4]at hk;cases hk
theorem byz(r:Jr)(hl:JrLen r)(hd:r.after.deps.length≤1000000000)(hin:Sf.StIn r.base)(htp:Sf.TypIn r.base)(hlen:Sf.checkZ r.base=0→(Sf.stE 2 r.base).length+20≤1000000000)(h:Hp) :
  AT 18 [.agg r.cells] h (.tup [.str (Jr.enc r).1,.int .i64 (Jr.enc r).2]):=by
 have cv:=cjd r ⟨hin,hl.lens,hd⟩;rw[Jr.validR_eq]at cv;have cb:=fun hv=>ck5 r hv hl hin htp hlen
 have nl:∀ n:Int,(Wire.num n).length≤10:=fun n=>(Wire.encF_len 9 (Wire.zig n)).2
 have hbl:r.validB=true→r.bodyR.1.length≤300000000:=fun hv=>by
  have sl:∀ s:List UInt8,(Wire.strE s).length≤s.length+10:=fun s=>by unfold Wire.strE;rw[Za];have:=nl s.length;omega
  have l1:=hl.step;have l2:=hl.inst;have l3:=hl.tok;have s1:=sl r.tok;have s2:=sl (Sf.encode 2 r.base).1;have s3:=Jr.encode_len2 2 r.base;have n1:=nl r.kind;have n2:=nl r.err;unfold Jr.bodyR;split
  ·simp
  ·unfold Jr.body Jr.restE;dsimp only;rw[Za]
   repeat' split
   all_goals (try simp only[Za,ZA])
   all_goals omega
 have he:=fun hv=>Jr.enc_body r hv
 have hi:r.validB=false→Jr.enc r=([],1):=fun hv'=>by unfold Jr.enc;rw[if_pos hv']
 obtain⟨⟨R,Z⟩,hR⟩:=Ex (Jr.enc r);obtain⟨⟨Y,E⟩,hY⟩:=Ex (Jr.bodyR r);rw[hR]at he hi ⊢;rw[hY]at cb he hbl;dsimp only at cb he hbl ⊢;obtain⟨b,hb⟩:=Ex (r.validB);rw[hb]at cv cb he hi hbl;clear hR hY hb hl hin htp hlen hd;obtain⟨kd,⟨lin,ser,ins,ps,os⟩,st,op,ad,dp,ty,tk,er,⟨a1,a2,a3,a4,⟨k,nn,ss,is,ks⟩,v,tn,fi,ds⟩⟩:=r;simp only[Jr.cells,Sf.Inst.cells,Zl,Zi]at cv cb ⊢;refine pcall ?_ rfl (by simp[A.pure,A.data]) h;refine fo ?_;cases b with
 |false =>
  have h1:=hi rfl;injection h1 with h1 h2;subst h1;subst h2;refine azd ti (ai cv ti) ?_;exact⟨_,le_refl _,rfl⟩
 |true =>
  have cb:=cb rfl;have he:=he rfl;have hbl:=hbl rfl;by_cases hE0:E=0
  rotate_left
  ·have e1:(E !=0)=true:=by simp[hE0]
   rw[if_pos hE0]at he;injection he with h1 h2;subst h1;subst h2;refine azd e1 (ai cv (ai cb ti)) ?_;exact⟨_,le_refl _,rfl⟩
  subst hE0;rw[if_neg (by decide)]at he;have hn:=nl (Y.length:Int);have ca:=az3 [] Y (by simp only[ZA];omega);simp only[Zi]at ca;have cc:=ayy (Wire.strE Y) (by unfold Wire.strE;rw[Za];omega);obtain⟨D,hD⟩:=Ex (Crc.app (Wire.strE Y));rw[hD]at he cc;by_cases g:(D.length:Int)>1048576
  ·rw[if_pos (by omega)]at he;injection he with h1 h2;subst h1;subst h2;refine azd g (ai cv (ai cb (ai ca (ai cc ti)))) ?_;exact⟨_,le_refl _,rfl⟩
  ·rw[if_neg (by omega)]at he;injection he with h1 h2;subst h1;subst h2;refine azd g (ai cv (ai cb (ai ca (ai cc ti)))) ?_;exact⟨_,le_refl _,rfl⟩
theorem cq0(l:List UInt8)(hll:l.length≤1048576)(r:Jr)(he:(Jr.enc r).1.length≤1048576)(cE:∀ h,AT 18 [.agg r.cells] h (.tup [.str (Jr.enc r).1,.int .i64 (Jr.enc r).2]))(h:Hp) :
  AT 7 [.str l,.agg r.cells] h (.tup [.str (Jr.appE l r).1,.int .i64 (Jr.appE l r).2]):=by
 obtain⟨⟨R,E⟩,hE⟩:=Ex (Jr.enc r);have hA:Jr.appE l r=if E≠0 then(l,E)else if 1048576<l.length+R.length then(l,3)else(l++R,0):=by unfold Jr.appE;rw[hE]
 rw[hA];rw[hE]at cE he;dsimp only at cE he;clear hA hE;obtain⟨kd,⟨lin,ser,ins,ps,os⟩,st,op,ad,dp,ty,tk,er,⟨a1,a2,a3,a4,⟨k,nn,ss,is,ks⟩,v,tn,fi,ds⟩⟩:=r;simp only[Jr.cells,Sf.Inst.cells,Zl,Zi]at cE ⊢;refine pcall ?_ rfl (by simp[A.pure,A.data]) h;refine fo ?_;by_cases e:E≠0
 ·have q:(E !=0)=true:=by simp[e]
  rw[if_pos e];refine azd q (ai cE ti) ?_;exact⟨_,le_refl _,rfl⟩
 have q:(E !=0)=false:=by simpa using e
 rw[if_neg e];have w1:IntKind.i64.wrap ((l.length:Int)+(R.length:Int))=(l.length:Int)+(R.length:Int):=wrap64 (by omega) (by omega);by_cases g:1048576<l.length+R.length
 ·have g':(l.length:Int)+(R.length:Int)>1048576:=by omega
  rw[if_pos g];refine azd (ai q (ai w1 g')) (ai cE ti) ?_;exact⟨_,le_refl _,rfl⟩
 have g':¬((l.length:Int)+(R.length:Int)>1048576):=by omega
 have hsum:l.length+R.length<1099511627776:=by omega
 rw[if_neg g];refine azd (ai q (ai w1 (ai g' hsum))) (ai cE ti) ?_;exact⟨_,le_refl _,rfl⟩
end AX
end Go.Proofs.YtdgcbckcameggadGreatDoor
