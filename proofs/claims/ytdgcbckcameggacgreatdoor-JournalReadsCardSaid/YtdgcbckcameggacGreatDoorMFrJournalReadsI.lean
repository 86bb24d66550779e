/- Part of what the proof needs. -/
import Derived.Test.YtdgcbckcameggacGreatDoorMFrJournalReads0
import Derived.Test.YtdgcbckcameggacGreatDoorMFrJournalReadsB
import Derived.Test.YtdgcbckcameggacGreatDoorMFrJournalReadsC
import Derived.Test.YtdgcbckcameggacGreatDoorMFrJournalReadsG
import Derived.Test.YtdgcbckcameggacGreatDoorMFrJournalReadsH
import Derived.Test.YtdgcbckcameggacGreatDoorRows
set_option maxHeartbeats 4000000
set_option maxRecDepth 100000
set_option linter.all false
namespace Go.Proofs.YtdgcbckcameggacGreatDoor
section
open Go.RowKit
namespace AX
theorem bj4(s:List UInt8)(hs:s.length≤2000000)(h:Hp):AT 264 [.str s] h (.tup [.str (Str.unquote s).1,.int .i64 (Str.unquote s).2.1,.int .i64 (Str.unquote s).2.2]):=
 azo (aqu aqt) (fun w hg=>aw6 ⟨s.toArray⟩ w (by rw[size_mk];exact hs)) (fun C=>rep_tup.2 ⟨_,rfl,repL_cons.2 ⟨_,_,rfl,rep_str.2 rfl,repL_cons.2 ⟨_,_,rfl,rep_int.2 rfl,repL_cons.2 ⟨_,_,rfl,rep_int.2 rfl,repL_nil.2 rfl⟩⟩⟩⟩) h
theorem cqw(s:List UInt8)(hs:s.length≤2000000)(h:Hp):AT 265 [.str s] h (.str (Str.quote s)):=
 azo (aqu aqt) (fun w hg=>bxn ⟨s.toArray⟩ w (by rw[size_mk];exact hs)) (fun C=>rep_str.2 rfl) h
theorem ck5(k:Adr.K):(k==Adr.K.none)=((k.kind==0)&&((k.num==0)&&(k.str == []))):=by
 obtain⟨a,b,c⟩:=k;unfold Adr.K.none;rw[Ye,ZA,Zc,Zc,ZA,ZA,ZA];simp
theorem bqi(k:Adr.K)(hk:k.str.length≤2000000)(h:Hp):AT 266 [.agg [.int .i64 k.kind,.int .i64 k.num,.str k.str]] h (.bool (Adr.keyOk k)):=by
 have hv:=ayg k.str hk;refine pcall ?_ rfl (by simp[A.pure,A.data]) h;refine fo ?_;unfold Adr.keyOk;rw[ck5];obtain⟨kd,num,str⟩:=k;dsimp only at hv⊢;by_cases h1:kd=1
 ·subst h1;refine azc ti ti ?_;refine⟨_,le_refl _,?_⟩;rw[azi,if_pos rfl]
 have e1:(kd==1)=false:=by simp[h1]
 rw[if_neg h1];by_cases h2:kd=2
 ·subst h2;refine azc ti (ai hv ti) ?_;exact Fn rfl
 have e2:(kd==2)=false:=by simp[h2]
 rw[if_neg h2];have eq:eqCells [0,0,1] [.int .i64 kd,.int .i64 num,.str str] [.int .i64 0,.int .i64 0,.str []]=some ((kd==0)&&((num==0)&&(str == []))):=by simp[eqCells]
 refine azc (ai e1 (ai e2 eq)) ti ?_;exact Fn rfl
theorem awa(h:Hp):AT 269 [.agg [.int .i64 0,.int .i64 0,.str []]] h (.str []):=by
 refine pcall ?_ rfl (by simp[A.pure,A.data]) h;refine fo ?_;have ck:=bqi Adr.K.none (by decide);rw[show Adr.keyOk Adr.K.none=true by decide]at ck;dsimp only[Adr.K.none]at ck;refine azc ti (ai ck ti) ?_;exact Fn rfl
def keyR(s:List UInt8):Adr.K×List UInt8×Bool:=match Adr.key s with
 |none=>(Adr.K.none,[],false)
 |some (k,r)=>(k,r,true)
def keyT(r:Adr.K×List UInt8×Bool):A:=.tup [.agg [.int .i64 r.1.kind,.int .i64 r.1.num,.str r.1.str],.str r.2.1,.bool r.2.2]
theorem cyn(c:UInt8):(decide ((c.toNat:Int)≥48)&&decide ((c.toNat:Int)≤57))=Num.digB c:=by
 unfold Num.digB;have e1:decide ((c.toNat:Int)≥48)=decide (48≤c.toNat):=by rw[decide_eq_decide];omega
 have e2:decide ((c.toNat:Int)≤57)=decide (c.toNat≤57):=by rw[decide_eq_decide];omega
 rw[e1,e2]
theorem bku(c:UInt8)(n:Nat)(hn:n<256):((c.toNat:Int)==(n:Int))=(c==UInt8.ofNat n):=by
 rw[Ye,ZA,ZA,←Z9,Z6];omega
theorem ava(c:UInt8)(n:Nat)(hn:n<256):((c.toNat:Int)!=(n:Int))=(c !=UInt8.ofNat n):=by
 show(!((c.toNat:Int)==(n:Int)))=!(c==UInt8.ofNat n)
 rw[bku c n hn]
theorem byg(s:List UInt8)(hl:s.length≤2000000)(h:Hp):AT 259 [.str s] h (keyT (keyR s)):=by
 obtain⟨q,hq⟩:=Ex (keyR s);rw[hq];unfold keyR at hq;refine pcall ?_ (by unfold keyT;rfl) (by simp[A.pure,A.data]) h;refine fo ?_;by_cases h1:s.getD 0 0=91
 rotate_left
 ·have hk:Adr.key s=some (Adr.K.none,s):=by unfold Adr.key;rw[if_pos h1]
  rw[hk]at hq;subst hq;cases s with
  |nil=>
   refine azc ti ti ?_;exact Fn rfl
  |cons c t=>
   have e0:((c::t)==([]:List UInt8))=false∧(0:Int)<((t.length+1:Nat):Int)∧((c.toNat:Int)!=91)=true:=⟨rfl,by omega,by
    have:=ava c 91 (by decide);rw[ZN]at h1;rw[show((91:Nat):Int)=91 from rfl]at this
    rw[this];simpa using h1⟩
   refine azc e0 ti ?_;exact Fn rfl
 cases s with
 |nil=>simp at h1
 |cons c t=>
 rw[ZN]at h1;subst h1;have hl' : t.length + 1 ≤ 2000000 := hl;have e0 : (((91 : UInt8) :: t)==([]: List UInt8)) = false ∧ (0 : Int)<((t.length + 1 : Nat): Int) ∧ (((91 : UInt8).toNat : Int)!=91) = false ∧ (0 : Int) ≤ 1 ∧ (1 : Int) ≤ ((t.length + 1 : Nat): Int) ∧ Int.toNat 1 = 1 := ⟨rfl, by omega, rfl, by omega, by omega, rfl⟩;have hk0 : Adr.key (91 :: t) = if 1<(91 :: t).length ∧ (91 :: t).getD 1 0 = 34 then
  (let u := Str.unquote ((91 :: t).drop 1)
   let k : Adr.K := ⟨2, 0, u.1⟩
   if u.2.2 ≠ 0 ∨ (91 :: t).length ≤ u.2.1 + 1 ∨ (91 :: t).getD (u.2.1 + 1) 0 ≠ 93 ∨ ((91 :: t).take (u.2.1 + 1)).drop 1 ≠ Str.quote u.1 ∨ Adr.keyOk k = false then Option.none
   else some (k, (91 :: t).drop (u.2.1 + 2)))
 else
  (let d := ((91 :: t).drop 1).takeWhile Num.digB
   let x := Num.parse d
   if x.2 ≠ 0 ∨ (91 :: t).length ≤ d.length + 1 ∨ (91 :: t).getD (d.length + 1) 0 ≠ 93 then Option.none
   else some (⟨1, x.1, []⟩, (91 :: t).drop (d.length + 2))) := by unfold Adr.key;rw[if_neg (by simp)]
 simp only[ZU,Yv,ZH,Z3,Zh]at hk0;by_cases h2:0<t.length∧t.getD 0 0=34
 ·rw[if_pos ⟨by omega,h2.2⟩]at hk0;obtain⟨h3,h4⟩:=h2;have e1:((t.length+1:Nat):Int)>1∧(1:Int)<((t.length+1:Nat):Int)∧(((91:UInt8)::t).getD 1 0)=34∧(((34:UInt8).toNat:Int)==34)=true:=⟨by omega,by omega,by rw[ZH];exact h4,rfl⟩;have cu:=bj4 t (by omega);have hwd:=Str.unquote_width t;have huv:=Str.unquote_valid t;obtain⟨⟨x,n,e⟩,hu⟩:=Ex (Str.unquote t);rw[hu]at cu hk0 hwd huv;dsimp only at cu hk0 hwd huv;by_cases g1:e=0
  rotate_left
  ·have f1:(e !=0)=true:=by simp[g1]
   rw[if_pos (.inl g1)]at hk0;rw[hk0]at hq;subst hq;refine azc (ai e0 (ai e1 f1)) (ai cu ti) ?_;exact Fn rfl
  subst g1;have hn:=hwd rfl;have hxl:x.length≤2000000:=by
   have:=huv rfl;unfold Str.valid at this;rw[Zc,Zm]at this;omega
  have cq:=cqw x hxl;have ck:=bqi ⟨2,0,x⟩ hxl;have w1:IntKind.i64.wrap ((n:Int)+1)=((n+1:Nat):Int)∧IntKind.i64.wrap ((n:Int)+2)=((n+2:Nat):Int):=⟨i80 (by omega),by rw[wrap64 (by omega) (by omega)];omega⟩;by_cases g2:t.length+1≤n+1
  ·have f2:((n+1:Nat):Int)≥((t.length+1:Nat):Int):=by omega
   rw[if_pos (.inr (.inl g2))]at hk0;rw[hk0]at hq;subst hq;refine azc (ai e0 (ai e1 (ai w1 f2))) (ai cu ti) ?_;exact Fn rfl
  have f2:¬((n+1:Nat):Int)≥((t.length+1:Nat):Int)∧((n+1:Nat):Int)<((t.length+1:Nat):Int)∧(0:Int)≤((n+1:Nat):Int)∧(1:Int)≤((n+1:Nat):Int)∧((n+1:Nat):Int)≤((t.length+1:Nat):Int):=⟨by omega,by omega,by omega,by omega,by omega⟩;obtain⟨c,hc⟩:=Ex (t.getD n 0);have hcn:=ava c 93 (by decide);rw[show((93:Nat):Int)=93 from rfl,show UInt8.ofNat 93=93 from rfl]at hcn;rw[hc]at hk0;by_cases g3:c=93
  rotate_left
  ·have f3:(c !=93)=true:=by simp[g3]
   rw[if_pos (.inr (.inr (.inl g3)))]at hk0;rw[hk0]at hq;subst hq;refine azc (ai e0 (ai e1 (ai w1 (ai f2 (ai hc (ai hcn f3)))))) (ai cu ti) ?_;exact Fn rfl
  have f3:(c !=93)=false:=by simp[g3]
  by_cases g4:t.take n=Str.quote x
  rotate_left
  ·have f4:(t.take n !=Str.quote x)=true:=by simp[g4]
   rw[if_pos (.inr (.inr (.inr (.inl g4))))]at hk0;rw[hk0]at hq;subst hq;refine azc (ai e0 (ai e1 (ai w1 (ai f2 (ai hc (ai hcn (ai f3 f4))))))) (ai cu (ai cq ti)) ?_;exact Fn rfl
  have f4:(t.take n !=Str.quote x)=false:=by simp[g4]
  dsimp only at ck;cases g5:Adr.keyOk ⟨2,0,x⟩with
  |false=>
   rw[g5]at ck;rw[if_pos (.inr (.inr (.inr (.inr g5))))]at hk0;rw[hk0]at hq;subst hq;refine azc (ai e0 (ai e1 (ai w1 (ai f2 (ai hc (ai hcn (ai f3 f4))))))) (ai cu (ai cq (ai ck ti))) ?_;exact Fn rfl
  |true=>
   rw[g5]at ck;rw[if_neg (by rintro(h|h|h|h|h);exact h rfl;exact g2 h;exact h g3;exact h g4;rw[g5]at h;cases h)]at hk0;rw[hk0]at hq;subst hq;have f6:(0:Int)≤((n+2:Nat):Int)∧((n+2:Nat):Int)≤((t.length+1:Nat):Int):=⟨by omega,by omega⟩;refine azc (ai e0 (ai e1 (ai w1 (ai f2 (ai hc (ai hcn (ai f3 (ai f4 f6)))))))) (ai cu (ai cq (ai ck ti))) ?_;exact Fn rfl
 rw[if_neg (fun h=>h2 ⟨by omega,h.2⟩)]at hk0;have e1:(decide (((t.length+1:Nat):Int)>1)&&((t.getD 0 0).toNat:Int)==34)=false:=by
  have hb:=bku (t.getD 0 0) 34 (by decide);rw[show((34:Nat):Int)=34 from rfl,show UInt8.ofNat 34=34 from rfl]at hb;rw[hb];by_cases h3:0<t.length
  ·have:(t.getD 0 0==34)=false:=by simpa using fun h=>h2 ⟨h3,h⟩
   rw[this,Y2]
  ·have:decide (((t.length+1:Nat):Int)>1)=false:=by rw[YW];omega
   rw[this,ZT]
 refine azc (ai e0 e1) ti ?_;refine azf (fun m ts hh=>hh=⟨[.cells 175 [.int .i64 0,.int .i64 0,.str []]],[]⟩∧∃j:Nat,m=t.length-j∧j≤t.length∧(t.take j).all Num.digB=true∧(ts 0=.str (91::t)∧ts 2=.ptr 0 0∧ts 9=.int .i64 ((j+1:Nat):Int))) t.length ?_ ?_
 ·exact⟨rfl,0,rfl,Zz _,rfl,by(exact azq ti)⟩
 rintro m ts hh ⟨rfl,j,rfl,hj,hall,ht⟩;have hs:(0:Int)≤((j+1:Nat):Int)∧(1:Int)≤((j+1:Nat):Int)∧((j+1:Nat):Int)≤((t.length+1:Nat):Int)∧IntKind.i64.wrap (((j+1:Nat):Int)+1)=((j+1+1:Nat):Int):=⟨by omega,by omega,by omega,i80 (by omega)⟩;have fin:(j=t.length∨Num.digB (t.getD j 0)=false)→t.takeWhile Num.digB=t.take j∧(t.takeWhile Num.digB).length=j:=fun hc=>by
  obtain⟨k1,_⟩:=aj9 t j hj hall hc;rw[k1,ZQ];exact⟨rfl,by omega⟩
 have hpl:(t.take j).length≤2000000:=by rw[ZQ];omega
 have cp:=bq3 (t.take j) hpl;rcases Z7 j t.length with hlt|hge
 ·have hf:((j+1:Nat):Int)<((t.length+1:Nat):Int):=by omega
  obtain⟨c,hc⟩:=Ex (t.getD j 0);have hcc:t[j]=c:=by rw[←hc];simp[List.getD,hlt]
  have hw:=cyn c;cases hB:Num.digB c with
  |true=>
   rw[hB,Zc]at hw;have hw':=hw;refine azc (ai ht (ai hs (ai hf (ai hc hw)))) ti ?_;refine⟨_,?_,rfl,j+1,rfl,by omega,?_,by(exact azq (ai ht (ai hs hf)))⟩
   ·omega
   ·rw[ZV hlt,List.all_append,hall,hcc];simp[hB]
  |false=>
   rw[hB]at hw;obtain⟨k1,k2⟩:=fin (.inr (by rw[hc];exact hB));rw[k2,k1]at hk0;have hcn:=ava c 93 (by decide);rw[show((93:Nat):Int)=93 from rfl,show UInt8.ofNat 93=93 from rfl]at hcn;obtain⟨⟨x,e⟩,hx⟩:=Ex (Num.parse (t.take j));rw[hx]at hk0 cp;dsimp only at hk0 cp;rw[hc]at hk0;have hge:¬((j+1:Nat):Int)≥((t.length+1:Nat):Int):=by omega
   by_cases g1:e=0
   rotate_left
   ·have f1:(e !=0)=true:=by simp[g1]
    rw[if_pos (.inl g1)]at hk0;rw[hk0]at hq;subst hq;refine azc (ai ht (ai hs (ai hf (ai hc (ai hw f1))))) (ai cp ti) ?_;exact Fn rfl
   have f1:(e !=0)=false:=by simp[g1]
   by_cases g2:c=93
   rotate_left
   ·have f2:(c !=93)=true:=by simp[g2]
    rw[if_pos (.inr (.inr g2))]at hk0;rw[hk0]at hq;subst hq;refine azc (ai ht (ai hs (ai hf (ai hc (ai hw (ai hge (ai hcn (ai f1 f2)))))))) (ai cp ti) ?_;exact Fn rfl
   have f2:(c !=93)=false:=by simp[g2]
   rw[if_neg (by rintro(h|h|h);exact h g1;omega;exact h g2)]at hk0;rw[hk0]at hq;subst hq;have f3:(0:Int)≤((j+1+1:Nat):Int)∧((j+1+1:Nat):Int)≤((t.length+1:Nat):Int):=⟨by omega,by omega⟩;refine azc (ai ht (ai hs (ai hf (ai hc (ai hw (ai hge (ai hcn (ai f1 (ai f2 f3))))))))) (ai cp ti) ?_;exact Fn rfl
 ·have hf:¬((j+1:Nat):Int)<((t.length+1:Nat):Int):=by omega
  obtain⟨k1,k2⟩:=fin (.inl (by omega));rw[k2,k1]at hk0;obtain⟨⟨x,e⟩,hx⟩:=Ex (Num.parse (t.take j));rw[hx]at hk0 cp;dsimp only at hk0 cp;rw[if_pos (.inr (.inl (by omega)))]at hk0;rw[hk0]at hq;subst hq;have hge:((j+1:Nat):Int)≥((t.length+1:Nat):Int):=by omega
  by_cases g1:e=0
  ·have f1:(e !=0)=false:=by simp[g1]
   refine azc (ai ht (ai hs (ai hf (ai hge f1)))) (ai cp ti) ?_;exact Fn rfl
  ·have f1:(e !=0)=true:=by simp[g1]
   refine azc (ai ht (ai hs (ai hf f1))) (ai cp ti) ?_;exact Fn rfl
def stepR(s:List UInt8):Adr.Step×List UInt8×Bool:=
 (⟨(s.drop 7).takeWhile Adr.wordB,(keyR ((s.drop 7).dropWhile Adr.wordB)).1⟩,(keyR ((s.drop 7).dropWhile Adr.wordB)).2.1,(keyR ((s.drop 7).dropWhile Adr.wordB)).2.2&&Adr.ident ((s.drop 7).takeWhile Adr.wordB))
theorem cj2(s:List UInt8)(hl:s.length≤2000000)(h7:7≤s.length)(h:Hp):AT 256 [.str s] h (.tup [.agg (stepR s).1.cells,.str (stepR s).2.1,.bool (stepR s).2.2]):=by
 have cw:=bz9 (s.drop 7) (by rw[Zv];omega);have w1:((s.drop 7).takeWhile Adr.wordB).length≤2000000:=Zl (List.takeWhile_prefix _).length_le (by rw[Zv];omega);have w2:((s.drop 7).dropWhile Adr.wordB).length≤2000000:=Zl (List.dropWhile_suffix _).length_le (by rw[Zv];omega);have ck:=byg _ w2;have ci:=aq5 _ w1;unfold stepR;refine pcall ?_ rfl (by simp[A.pure,A.data]) h;obtain⟨W,hW⟩:=Ex ((s.drop 7).takeWhile Adr.wordB);obtain⟨R,hR⟩:=Ex ((s.drop 7).dropWhile Adr.wordB);rw[hW]at cw ci⊢;rw[hR]at cw ck⊢;obtain⟨⟨⟨a,b,d⟩,r,ok⟩,hk⟩:=Ex (keyR R);rw[hk]at ck⊢;unfold keyT at ck;dsimp only at ck⊢;dsimp only[Adr.Step.cells];refine fo ?_;have hs:(0:Int)≤7∧(7:Int)≤(s.length:Int)∧Int.toNat 7=7:=⟨by decide,by omega,rfl⟩;have tk:s.take s.length=s:=Yj;refine azc hs (ai cw (ai ck (ai ci ti))) ?_;exact Fn rfl
def preP(acc:List Adr.Step)(r:Option (Adr.Ad×Bool)):Option (Adr.Ad×Bool):=r.map fun p=>({ p.1 with mods:=acc++p.1.mods },p.2)
def placeT:Option (Adr.Ad×Bool)→A
 |none=> .tup [.agg [.sl 0 .nil [],.bool false,.str [],.str [],.int .i64 0,.int .i64 0,.str [],.bool false],.bool false]
 |some (p,w)=> .tup [.agg [.sl 4 .no (p.mods.map Adr.Step.cells),.bool p.data,.str p.type,.str p.name,.int .i64 p.key.kind,.int .i64 p.key.num,.str p.key.str,.bool w],.bool true]
theorem bx7(r:Option (Adr.Ad×Bool)):(placeT r).pure=true:=by
 cases r with
 |none=>rfl
 |some p=>rfl
theorem ckc(s:List UInt8):Adr.step s=if(stepR s).2.2=true then some ((stepR s).1,(stepR s).2.1)else none:=by
 unfold Adr.step stepR keyR;cases Adr.key ((s.drop 7).dropWhile Adr.wordB)with
 |none=>simp
 |some p=>
  obtain⟨k,r⟩:=p;simp only[Zx]
theorem bqo(acc:List Adr.Step)(p:Adr.Ad)(w:Bool):preP acc (some (p,w))=some ({ p with mods:=acc++p.mods },w):=rfl
set_option maxHeartbeats 8000000 in
theorem czw(s0:List UInt8)(hl:s0.length≤2000000)(h:Hp):AT 245 [.str s0] h (placeT (Adr.place (s0.length+1) s0)):=by
 refine pcall ?_ (bx7 _) (by simp[A.pure,A.data]) h;obtain⟨q,hq⟩:=Ex (Adr.place (s0.length+1) s0);rw[hq];refine fo ?_;refine azc ti ti ?_
 refine azf (fun m ts hh=>∃(s:List UInt8) (acc:List Adr.Step) (f:Nat) (W:Nat) (o:Own) (l:List Blk) (t:List (TypeId×Nat×Nat)),m=s.length∧s.length<f∧acc.length+s.length≤s0.length∧q=preP acc (Adr.place f s) ∧
  hh=⟨.cells 283 [.sl 0 .nil [],.bool false,.str [],.str [],.int .i64 0,.int .i64 0,.str [],.bool false] :: .cells 283 [.sl W o (acc.map Adr.Step.cells),.bool false,.str [],.str [],.int .i64 0,.int .i64 0,.str [],.bool false]::l,t⟩ ∧
  Gs 209 4 0 ⟨[],t⟩ (acc.map Adr.Step.cells) (.sl W o (acc.map Adr.Step.cells))∧(ts 0=.str s∧ts 2=.ptr 0 0∧ts 4=.ptr 1 0)) s0.length ?_ ?_
 ·exact⟨s0,[],s0.length+1,0,.nil,[],[],rfl,Nat.lt_succ_self _,by simp,by rw[←hq];unfold preP;cases Adr.place (s0.length+1) s0<;>rfl,rfl,.inl ⟨rfl,rfl⟩,by(exact azq ti)⟩
 rintro m ts hh ⟨s,acc,f,W,o,l,t,rfl,hf,hal,hp,rfl,gX,ht⟩;obtain⟨f,rfl⟩:∃g,f=g+1:=⟨f-1,by omega⟩;unfold Adr.place at hp;have cb:=ayf s Adr.modW (by omega) (by decide);cases hB:Adr.begins s Adr.modW with
 |true=>
  rw[hB]at cb;rw[hB,if_pos rfl,ckc]at hp;have h7:7≤s.length:=Adr.begins_len hB;have cs:=cj2 s (by omega) h7;have hsr:=Adr.step_rest s;rw[ckc]at hsr;dsimp only[Adr.modW]at cb;obtain⟨⟨⟨xn,kk,kn,ks⟩,rest,ok⟩,hR⟩:=Ex (stepR s);rw[hR]at cs hp hsr;dsimp only[Adr.Step.cells]at cs hp hsr;cases ok with
  |false=>
   rw[if_neg (by decide)]at hp;have hq0:q=none:=hp;subst hq0;refine azc ht (ai cb (ai cs ti)) ?_;exact Fn rfl
  |true=>
  rw[if_pos rfl]at hp hsr;have hrl:=hsr _ _ rfl;dsimp only at hp;have hrow:(acc++[(⟨xn,⟨kk,kn,ks⟩⟩:Adr.Step)]).map Adr.Step.cells=acc.map Adr.Step.cells++[[.str xn,.int .i64 kk,.int .i64 kn,.str ks]]:=by rw[Zam];rfl
  obtain⟨W',o',t',hX,gX',_⟩:=gX.grow 48 [.str xn,.int .i64 kk,.int .i64 kn,.str ks] (by rw[Zj];omega) (by decide);rw[←hrow]at gX';simp only[←hrow]at hX;by_cases hr0:rest=[]
  ·subst hr0;rw[if_pos rfl]at hp;rw[bqo]at hp;subst hp;refine azc (ai ht hX) (ai cb (ai cs ti)) ?_;refine⟨placeT _,?_,rfl⟩;exact⟨⟨gX'.le,rfl,rfl,rfl,rfl,rfl,rfl,rfl,trivial⟩,rfl,trivial⟩
  rw[if_neg hr0]at hp;have hr0':(rest==([]:List UInt8))=false:=by simpa using hr0
  have hpos:0<rest.length:=YK.2 hr0;have hr1:(0:Int)<(rest.length:Int)∧(0:Int)≤1∧(1:Int)≤(rest.length:Int)∧Int.toNat 1=1∧rest.take rest.length=rest:=⟨by omega,by omega,by omega,rfl,Yj⟩;obtain⟨c,hc⟩:=Ex (rest.getD 0 0);have hcn:=ava c 46 (by decide);rw[show((46:Nat):Int)=46 from rfl,show UInt8.ofNat 46=46 from rfl]at hcn;rw[hc]at hp;by_cases hd:c=46
  rotate_left
  ·have e1:(c !=46)=true:=by simp[hd]
   rw[if_pos hd]at hp;have hq0:q=none:=hp;subst hq0;refine azc (ai ht (ai hX (ai hr0' (ai hr1 (ai hc (ai hcn e1)))))) (ai cb (ai cs ti)) ?_;exact Fn rfl
  have e1:(c !=46)=false:=by simp[hd]
  rw[if_neg (by simp[hd])]at hp;refine azc (ai ht (ai hX (ai hr0' (ai hr1 (ai hc (ai hcn e1)))))) (ai cb (ai cs ti)) ?_;refine⟨(rest.drop 1).length,by rw[Zv];omega,rest.drop 1,acc++[⟨xn,⟨kk,kn,ks⟩⟩],f,W',o',_,t',rfl,by rw[Zv];omega,by rw[Za,Zv];simp;omega,?_,rfl,gX',by(exact azq (ai ht hr1))⟩;rw[hp];unfold preP;cases Adr.place f (rest.drop 1)with
  |none=>rfl
  |some p=>simp
 |false=>
  rw[hB]at cb;rw[hB,if_neg (by decide)]at hp;dsimp only[Adr.modW]at cb;have cd:=ayf s Adr.dataW (by omega) (by decide);obtain⟨dt,hdt⟩:=Ex (Adr.begins s Adr.dataW);have hdl:dt=true→5≤s.length:=fun e=>Adr.begins_len (s:=s) (p:=Adr.dataW) (by rw[hdt];exact e)
  unfold Adr.last at hp;dsimp only at hp;rw[hdt]at cd hp;dsimp only[Adr.dataW]at cd;obtain⟨tt,htt⟩:=Ex ((if dt=true then s.drop 5 else s));rw[htt]at hp;have htl:tt.length≤2000000:=by
   rw[←htt];split
   ·rw[Zv];omega
   ·omega
  refine azc ht (ai cb (ai cd ti)) ?_;refine aj8 (fun ts' h'=>h'=⟨.cells 283 [.sl 0 .nil [],.bool false,.str [],.str [],.int .i64 0,.int .i64 0,.str [],.bool false] :: .cells 283 [.sl W o (acc.map Adr.Step.cells),.bool dt,.str [],.str [],.int .i64 0,.int .i64 0,.str [],.bool false]::l,t⟩∧(ts' 0=.str tt∧ts' 2=.ptr 0 0∧ts' 4=.ptr 1 0)) ?_ ?_
  ·cases dt with
   |false=>
    rw[if_neg (by decide)]at htt;subst htt;refine azc ht ti ?_;exact⟨rfl,by(exact azq ht)⟩
   |true=>
    rw[if_pos rfl]at htt;have h5:=hdl rfl;have h5':(0:Int)≤5∧(5:Int)≤(s.length:Int)∧Int.toNat 5=5∧s.take s.length=s:=⟨by decide,by omega,rfl,Yj⟩;refine azc (ai ht h5') ti ?_;exact⟨rfl,by(exact azq (ai ht (ai htt h5')))⟩
  rintro ts hh ⟨rfl,hu⟩;have cw:=bz9 tt htl;have w1:(tt.takeWhile Adr.wordB).length≤2000000:=Zl (List.takeWhile_prefix _).length_le htl;have w2:(tt.dropWhile Adr.wordB).length≤2000000:=Zl (List.dropWhile_suffix _).length_le htl;have ci:=aq5 _ w1;have cr:=cqf (tt.takeWhile Adr.wordB);obtain⟨typ,htyp⟩:=Ex (tt.takeWhile Adr.wordB);obtain⟨r,hr⟩:=Ex (tt.dropWhile Adr.wordB);rw[htyp]at cw ci cr hp;rw[hr]at cw hp w2;have hkb:Adr.kindB typ=(!Adr.reserved typ&&Adr.ident typ):=rfl;have bad:(Adr.kindB typ=false∨r.getD 0 0≠46)→q=none:=fun hb=>by rw[hp,if_pos hb];rfl
  cases hI:Adr.ident typ with
  |false=>
   rw[hI]at ci;have hq0:=bad (.inl (by rw[hkb,hI];simp));subst hq0;refine azc hu (ai cw (ai ci ti)) ?_;exact Fn rfl
  |true=>
  rw[hI]at ci;cases hRs:Adr.reserved typ with
  |true=>
   rw[hRs]at cr;have hq0:=bad (.inl (by rw[hkb,hRs];rfl));subst hq0;refine azc hu (ai cw (ai ci (ai cr ti))) ?_;exact Fn rfl
  |false=>
  rw[hRs]at cr;cases r with
  |nil=>
   have hq0:=bad (.inr (by simp));subst hq0;refine azc hu (ai cw (ai ci (ai cr ti))) ?_;exact Fn rfl
  |cons c r'=>
  have hr1:((c::r')==([]:List UInt8))=false∧(0:Int)<((r'.length+1:Nat):Int)∧(0:Int)≤1∧(1:Int)≤((r'.length+1:Nat):Int)∧Int.toNat 1=1∧r'.take r'.length=r':=⟨rfl,by omega,by omega,by omega,rfl,Yj⟩;have hcn:=ava c 46 (by decide);rw[show((46:Nat):Int)=46 from rfl,show UInt8.ofNat 46=46 from rfl]at hcn;by_cases hd:c=46
  rotate_left
  ·have e1:(c !=46)=true:=by simp[hd]
   have hq0:=bad (.inr (by simpa using hd));subst hq0;refine azc (ai hu (ai hr1 (ai hcn e1))) (ai cw (ai ci (ai cr ti))) ?_;exact Fn rfl
  have e1:(c !=46)=false:=by simp[hd]
  rw[if_neg (by rw[hkb,hRs,hI];simpa using hd),ZU,Yv]at hp;have hr'l:r'.length≤2000000:=by simp only[Zh]at w2;omega
  have cw2:=bz9 r' hr'l;have w3:(r'.takeWhile Adr.wordB).length≤2000000:=Zl (List.takeWhile_prefix _).length_le hr'l;have w4:(r'.dropWhile Adr.wordB).length≤2000000:=Zl (List.dropWhile_suffix _).length_le hr'l;have ci2:=aq5 _ w3;have ck:=byg _ w4;obtain⟨nm,hnm⟩:=Ex (r'.takeWhile Adr.wordB);obtain⟨r2,hr2⟩:=Ex (r'.dropWhile Adr.wordB);rw[hnm]at cw2 ci2 hp;rw[hr2]at cw2 ck hp;have hkR:Adr.key r2=if(keyR r2).2.2=true then some ((keyR r2).1,(keyR r2).2.1)else none:=by
   unfold keyR;cases Adr.key r2 with
   |none=>simp
   |some p=>simp
  rw[hkR]at hp;obtain⟨⟨⟨ka,kb,kc⟩,rst,ok⟩,hK⟩:=Ex (keyR r2);rw[hK]at ck hp;unfold keyT at ck;dsimp only at ck hp;cases hI2:Adr.ident nm with
  |false=>
   rw[hI2]at ci2;have hq0:q=none:=by
    rw[hp];cases ok with
    |false=>rfl
    |true=>
     rw[if_pos rfl];dsimp only;rw[if_neg (by rw[hI2];simp)];rfl
   subst hq0;refine azc (ai hu (ai hr1 (ai hcn e1))) (ai cw (ai ci (ai cr (ai cw2 (ai ck (ai ci2 ti)))))) ?_;exact Fn rfl
  |true=>
  rw[hI2]at ci2;cases ok with
  |false=>
   have hq0:q=none:=hp;subst hq0;refine azc (ai hu (ai hr1 (ai hcn e1))) (ai cw (ai ci (ai cr (ai cw2 (ai ck (ai ci2 ti)))))) ?_;exact Fn rfl
  |true=>
  rw[if_pos rfl]at hp;dsimp only at hp;by_cases hrst:rst=[]
  rotate_left
  ·have e2:(rst !=([]:List UInt8))=true:=by simpa using hrst
   rw[if_neg (fun h=>hrst h.2)]at hp;have hq0:q=none:=hp;subst hq0;refine azc (ai hu (ai hr1 (ai hcn (ai e1 e2)))) (ai cw (ai ci (ai cr (ai cw2 (ai ck (ai ci2 ti)))))) ?_;exact Fn rfl
  subst hrst;rw[if_pos ⟨hI2,rfl⟩]at hp;dsimp only at hp;rw[bqo]at hp;dsimp only at hp;rw[ZB]at hp;subst hp;refine azc (ai hu (ai hr1 (ai hcn e1))) (ai cw (ai ci (ai cr (ai cw2 (ai ck (ai ci2 ti)))))) ?_;refine⟨placeT _,?_,rfl⟩;exact⟨⟨gX.le,rfl,rfl,rfl,rfl,rfl,rfl,rfl,trivial⟩,rfl,trivial⟩
theorem bqv(s:List UInt8)(hl:s.length≤2000000)(h:Hp):AT 227 [.str s] h (.tup [.agg (Adr.parse s).1.cells,.int .i64 (Adr.parse s).2]):=by
 have cp:=czw s hl;refine pcall ?_ (by simp[A.pure,A.data,Adr.Ad.cells]) (by simp[A.pure,A.data]) h;unfold Adr.parse;refine fo ?_;cases hP:Adr.place (s.length+1) s with
 |none=>
  rw[hP]at cp;dsimp only[placeT]at cp;refine azc ti (ai cp ti) ?_;exact⟨.tup [.agg (Adr.Ad.cells Adr.Ad.zero),.int .i64 2],⟨⟨⟨rfl,.inr rfl,.inl rfl⟩,rfl,rfl,rfl,rfl,rfl,rfl,trivial⟩,rfl,trivial⟩,rfl⟩
 |some p=>
  rw[hP]at cp;obtain⟨⟨mods,data,ty,nm,ka,kb,kc⟩,w⟩:=p;dsimp only[placeT]at cp;have lm:(mods.map Adr.Step.cells).length=mods.length:=Zj _;cases w with
  |false=>
   refine azc ti (ai cp ti) ?_;exact⟨.tup [.agg (Adr.Ad.cells Adr.Ad.zero),.int .i64 2],⟨⟨⟨rfl,.inr rfl,.inl rfl⟩,rfl,rfl,rfl,rfl,rfl,rfl,trivial⟩,rfl,trivial⟩,rfl⟩
  |true=>
   dsimp only;by_cases h16:16<mods.length
   ·have e1:(mods.length:Int)>16:=by omega
    rw[if_pos h16];refine azc (ai lm e1) (ai cp ti) ?_;exact⟨.tup [.agg (Adr.Ad.cells Adr.Ad.zero),.int .i64 4],⟨⟨⟨rfl,.inr rfl,.inl rfl⟩,rfl,rfl,rfl,rfl,rfl,rfl,trivial⟩,rfl,trivial⟩,rfl⟩
   ·have e1:¬(mods.length:Int)>16:=by omega
    rw[if_neg h16];refine azc (ai lm e1) (ai cp ti) ?_;exact Fn rfl
theorem axp{α:Type}(f:α→List A)(l:List α)(i:Nat)(h:i<l.length)(hl:l.length≤4611686018427387904):
  (l.map f).length=l.length∧(i:Int)<(l.length:Int)∧(0:Int)≤(i:Int)∧(l.map f).getD i []=f l[i]∧IntKind.i64.wrap ((i:Int)+1)=((i+1:Nat):Int):=
 ⟨Zj _,by omega,by omega,az3 f l i h,by rw[wrap64 (by omega) (by omega)];omega⟩
theorem by4(a:Adr.Ad)(hi:Adr.In a)(h:Hp):AT 267 [.agg a.cells] h (.int .i64 (Adr.check a)):=by
 obtain⟨mods,data,ty,nm,⟨ka,kb,kc⟩⟩:=a;obtain⟨hn,hm,ht,ha,hk⟩:=hi;dsimp only at hn hm ht ha hk;obtain⟨q,hq⟩:=Ex (Adr.check ⟨mods,data,ty,nm,⟨ka,kb,kc⟩⟩);rw[hq];unfold Adr.check at hq;dsimp only at hq;refine pcall ?_ rfl (by simp[A.pure,A.data,Adr.Ad.cells]) h;refine fo ?_;dsimp only[Adr.Ad.cells];have lm:(mods.map Adr.Step.cells).length=mods.length:=Zj _;by_cases h16:16<mods.length
 ·have e1:(mods.length:Int)>16:=by omega
  rw[if_pos h16]at hq;subst hq;refine azc (ai lm e1) ti ?_;exact Fn rfl
 have e1:¬(mods.length:Int)>16:=by omega
 rw[if_neg h16]at hq;refine azc (ai lm e1) ti ?_;refine azf (fun m ts hh=>hh=⟨[.cells 177 [.sl 4 .no (mods.map Adr.Step.cells),.bool data,.str ty,.str nm,.int .i64 ka,.int .i64 kb,.str kc]],[]⟩∧∃j:Nat,m=mods.length-j∧j≤mods.length∧(mods.drop j).find? (fun s=>!(Adr.ident s.name&&Adr.keyOk s.key))=mods.find? (fun s=>!(Adr.ident s.name&&Adr.keyOk s.key))∧(ts 1=.ptr 0 0∧ts 3=.int .i64 (j:Nat))) mods.length ?_ ?_
 ·exact⟨rfl,0,rfl,Zz _,rfl,by(exact azq ti)⟩
 rintro m ts hh ⟨rfl,j,rfl,hj,hfd,hu⟩;rcases Z7 j mods.length with hlt|hge
 ·have hf:=axp Adr.Step.cells mods j hlt (by omega);have hmj:=hm _ (Zt hlt);rw[Zr hlt,List.find?_cons]at hfd;obtain⟨x,hx⟩:=Ex (mods[j]);rw[hx]at hf hmj hfd;obtain⟨xn,⟨ja,jb,jc⟩⟩:=x;dsimp only[Adr.Step.cells]at hf hmj hfd;have ci:=aq5 xn hmj.1;have ck:=bqi ⟨ja,jb,jc⟩ hmj.2;dsimp only at ck;cases hI:Adr.ident xn with
  |false=>
   rw[hI]at ci hfd;simp only[ZT,ZL]at hfd;rw[←hfd]at hq;dsimp only at hq;rw[if_neg (by rw[hI];decide)]at hq;subst hq;refine azc (ai hu hf) (ai ci ti) ?_;exact Fn rfl
  |true=>
  rw[hI]at ci hfd;cases hK:Adr.keyOk ⟨ja,jb,jc⟩with
  |false=>
   rw[hK]at ck hfd;simp only[Y2,ZL]at hfd;rw[←hfd]at hq;dsimp only at hq;rw[if_pos hI]at hq;subst hq;refine azc (ai hu hf) (ai ci (ai ck ti)) ?_;exact Fn rfl
  |true=>
   rw[hK]at ck hfd;simp only[ZY,ZP]at hfd;refine azc (ai hu hf) (ai ci (ai ck ti)) ?_;exact⟨_,by omega,rfl,j+1,rfl,by omega,hfd,by(exact azq (ai hu hf))⟩
 ·have hf:=ai lm (show¬(j:Int)<(mods.length:Int) by omega);rw[ZG hge]at hfd;rw[←hfd]at hq;simp only[List.find?_nil]at hq;have ci:=aq5 ty ht;have cr:=cqf ty;have ci2:=aq5 nm ha;have ck:=bqi ⟨ka,kb,kc⟩ hk;dsimp only at ck;have hkb:Adr.kindB ty=(!Adr.reserved ty&&Adr.ident ty):=rfl;rw[hkb]at hq;cases hI:Adr.ident ty with
  |false=>
   rw[hI]at ci hq;simp only[Y2,ZL,YR,if_true]at hq;subst hq;refine azc (ai hu hf) (ai ci ti) ?_;exact Fn rfl
  |true=>
  rw[hI]at ci hq;cases hR:Adr.reserved ty with
  |true=>
   rw[hR]at cr hq;simp only[ZP,ZT,ZL,YR,if_true]at hq;subst hq;refine azc (ai hu hf) (ai ci (ai cr ti)) ?_;exact Fn rfl
  |false=>
  rw[hR]at cr hq;cases hN:Adr.ident nm with
  |false=>
   rw[hN]at ci2 hq;simp only[ZL,Zx,ZP,Yr,if_true]at hq;subst hq;refine azc (ai hu hf) (ai ci (ai cr (ai ci2 ti))) ?_;exact Fn rfl
  |true=>
  rw[hN]at ci2 hq;simp only[ZL,Zx,ZP,Yr,Zi,if_false]at hq;cases hK:Adr.keyOk ⟨ka,kb,kc⟩with
  |false=>
   rw[hK]at ck hq;simp only[ZL,if_true]at hq;subst hq;refine azc (ai hu hf) (ai ci (ai cr (ai ci2 (ai ck ti)))) ?_;exact Fn rfl
  |true=>
   rw[hK]at ck hq;simp only[ZP,Zi,if_false]at hq;subst hq;refine azc (ai hu hf) (ai ci (ai cr (ai ci2 (ai ck ti)))) ?_;exact Fn rfl
theorem cjp(a:Adr.Ad)(hn:a.mods.length≤3000000)(h:Hp):AT 261 [.agg a.cells] h (.agg (Adr.bare a).cells):=by
 obtain⟨mods,data,ty,nm,⟨ka,kb,kc⟩⟩:=a;dsimp only at hn;refine pcall ?_ (by simp[A.pure,A.data,Adr.Ad.cells]) (by simp[A.pure,A.data,Adr.Ad.cells]) h;refine fo ?_;dsimp only[Adr.Ad.cells,Adr.bare,Adr.K.none];have lm:(mods.map Adr.Step.cells).length=mods.length:=Zj _;refine azc lm ti ?_
 refine azf (fun m ts hh=>∃(j W:Nat) (o:Own) (t:List (TypeId×Nat×Nat)),m=mods.length-j∧j≤mods.length ∧
  hh=⟨[.cells 177 [.sl 4 .no (mods.map Adr.Step.cells),.bool data,.str ty,.str nm,.int .i64 ka,.int .i64 kb,.str kc],.cells 177 [.sl 0 .nil [],.bool false,.str [],.str [],.int .i64 0,.int .i64 0,.str []],.cells 177 [.sl W o (((mods.take j).map fun s=>(⟨s.name,Adr.K.none⟩:Adr.Step)).map Adr.Step.cells),.bool data,.str ty,.str nm,.int .i64 0,.int .i64 0,.str []]],t⟩ ∧
  Gs 209 4 0 ⟨[],t⟩ (((mods.take j).map fun s=>(⟨s.name,Adr.K.none⟩:Adr.Step)).map Adr.Step.cells) (.sl W o (((mods.take j).map fun s=>(⟨s.name,Adr.K.none⟩:Adr.Step)).map Adr.Step.cells))∧(ts 1=.ptr 0 0∧ts 2=.ptr 1 0∧ts 3=.ptr 2 0∧ts 4=.int .i64 (j:Nat))) mods.length ?_ ?_
 ·exact⟨0,0,.nil,[],rfl,Zz _,rfl,.inl ⟨rfl,rfl⟩,by(exact azq ti)⟩
 rintro m ts hh ⟨j,W,o,t,rfl,hj,rfl,gX,hu⟩;rcases Z7 j mods.length with hlt|hge
 ·have hf:=axp Adr.Step.cells mods j hlt (by omega);have htk:=ZV hlt;obtain⟨x,hx⟩:=Ex (mods[j]);rw[hx]at hf htk;obtain⟨xn,⟨ja,jb,jc⟩⟩:=x;dsimp only[Adr.Step.cells]at hf;have hrow:((mods.take (j+1)).map fun s=>(⟨s.name,Adr.K.none⟩:Adr.Step)).map Adr.Step.cells=((mods.take j).map fun s=>(⟨s.name,Adr.K.none⟩:Adr.Step)).map Adr.Step.cells++[[.str xn,.int .i64 0,.int .i64 0,.str []]]:=by
   rw[htk,Zam,Zam];rfl
  have hrl:(((mods.take j).map fun s=>(⟨s.name,Adr.K.none⟩:Adr.Step)).map Adr.Step.cells).length+1≤1000000000:=by
   rw[Zj,Zj,ZQ];omega
  obtain⟨W',o',t',hX,gX',_⟩:=gX.grow 48 [.str xn,.int .i64 0,.int .i64 0,.str []] hrl (by decide);rw[←hrow]at gX';simp only[←hrow]at hX;refine azc (ai hu (ai hf hX)) ti ?_;exact⟨_,by omega,j+1,W',o',t',rfl,by omega,rfl,gX',by(exact azq (ai hu hf))⟩
 ·have hf:=ai lm (show¬(j:Int)<(mods.length:Int) by omega);rw[ZD hge]at gX⊢;refine azc (ai hu hf) ti ?_;exact⟨.agg [.sl 4 .no ((mods.map fun s=>(⟨s.name,Adr.K.none⟩:Adr.Step)).map Adr.Step.cells),.bool data,.str ty,.str nm,.int .i64 0,.int .i64 0,.str []],⟨gX.le,rfl,rfl,rfl,rfl,rfl,rfl,trivial⟩,rfl⟩
theorem cz5(mods:List Adr.Step)(hn:mods.length≤16)(hm:∀s∈mods,s.name.length≤2000000)(hk:∀s∈mods,s.key=Adr.K.none)(h:Hp):AT 268 [.sl 4 .no (mods.map Adr.Step.cells)] h (.str (mods.flatMap stepB)):=by
 refine pcall ?_ rfl (by simp[A.pure,A.data]) h;refine fo ?_;have cf:=awa;refine azc ti ti ?_;refine azf (fun m ts hh=>hh=⟨[],[]⟩∧∃j:Nat,m=mods.length-j∧j≤mods.length∧(ts 0=.sl 4 .no (mods.map Adr.Step.cells)∧ts 3=.str ((mods.take j).flatMap stepB)∧ts 4=.int .i64 (j:Nat))) mods.length ?_ ?_
 ·exact⟨rfl,0,rfl,Zz _,by(exact azq ti)⟩
 rintro m ts hh ⟨rfl,j,rfl,hj,hu⟩;rcases Z7 j mods.length with hlt|hge
 ·have hf:=axp Adr.Step.cells mods j hlt (by omega);have hmj:=hm _ (Zt hlt);have hkj:=hk _ (Zt hlt);have hsn:=bvq stepB mods j hlt;have hacc:((mods.take j).flatMap stepB).length≤32000128:=by
   have h2:(mods.take j).length≤16:=by rw[ZQ];omega
   exact Zl (avb (mods.take j) fun s hs=>hm s (List.mem_of_mem_take hs)) (Zl (YZ 2000008 h2) (by decide))
  obtain⟨x,hx⟩:=Ex (mods[j]);rw[hx]at hf hmj hkj hsn;obtain⟨xn,xk⟩:=x;dsimp only at hkj hmj;subst hkj;dsimp only[Adr.Step.cells,Adr.K.none]at hf;obtain⟨P,hP⟩:=Ex ((mods.take j).flatMap stepB);rw[hP]at hu hsn hacc;have l1:P.length+7<1099511627776∧P.length+7+xn.length<1099511627776∧P.length+7+xn.length+1<1099511627776∧P.length+(7+xn.length)<1099511627776∧P.length+(7+xn.length)+1<1099511627776∧P.length+(xn.length+7)<1099511627776∧P.length+(xn.length+7)+1<1099511627776∧P.length+7+xn.length+0<1099511627776:=⟨by omega,by omega,by omega,by omega,by omega,by omega,by omega,by omega⟩;refine azc (ai hu (ai hf l1)) (ai cf ti) ?_;refine⟨_,by omega,rfl,j+1,rfl,by omega,?_⟩;have e:P++[109,111,100,117,108,101,46]++xn++[46]=(mods.take (j+1)).flatMap stepB:=by
   rw[hsn];unfold stepB;simp[Adr.modW]
  (exact azq (ai hu (ai hf e)))
 ·have hf:=ai (show(mods.map Adr.Step.cells).length=mods.length from Zj _) (show¬(j:Int)<(mods.length:Int) by omega);rw[ZD hge]at hu;refine azc (ai hu hf) ti ?_;exact Fn rfl
theorem bjh(a:Adr.Ad)(hi:Adr.In a)(hk:∀s∈a.mods,s.key=Adr.K.none)(hkk:a.key=Adr.K.none)(h:Hp):AT 260 [.agg a.cells] h (.str (Adr.fmt a)):=by
 have cc:=fun h=>by4 a hi h
 obtain⟨mods,data,ty,nm,key⟩:=a;dsimp only at hk hkk;subst hkk;have hfb:=bvw mods data ty nm hk;obtain⟨hn,hm,ht,ha,_⟩:=hi;dsimp only at hn hm ht ha;refine pcall ?_ rfl (by simp[A.pure,A.data,Adr.Ad.cells]) h;refine fo ?_;dsimp only[Adr.Ad.cells,Adr.K.none]at cc⊢;by_cases hc0:Adr.check ⟨mods,data,ty,nm,Adr.K.none⟩=0
 rotate_left
 ·have e1:(Adr.check ⟨mods,data,ty,nm,Adr.K.none⟩!=0)=true:=by simp[hc0]
  have hfz:Adr.fmt ⟨mods,data,ty,nm,Adr.K.none⟩=[]:=by unfold Adr.fmt;rw[if_pos hc0]
  unfold Adr.K.none at e1 hfz;refine azc e1 (ai cc ti) ?_;exact⟨_,le_refl _,by rw[hfz];rfl⟩
 have e1:(Adr.check ⟨mods,data,ty,nm,Adr.K.none⟩!=0)=false:=by simp[hc0]
 have hf:=hfb hc0;have hn16:mods.length≤16:=by
  rcases Z7 16 mods.length with h16|h16
  ·unfold Adr.check at hc0;rw[if_pos h16]at hc0;exact absurd hc0 (by decide)
  ·exact h16
 have hlenall:=avb mods fun s hs=>(hm s hs).1
 have cs:=cz5 mods hn16 (fun s hs=>(hm s hs).1) hk;have cf:=awa;unfold Adr.K.none at e1 hf;rw[hf];obtain⟨P,hP⟩:=Ex (mods.flatMap stepB);rw[hP]at cs hlenall⊢;have hPl:P.length≤32000128:=Zl hlenall (Zl (YZ 2000008 hn16) (by decide));cases data with
 |false=>
  have l1:P.length+ty.length<1099511627776∧P.length+ty.length+1<1099511627776∧P.length+ty.length+1+nm.length<1099511627776∧P.length+(ty.length+1)<1099511627776∧P.length+(ty.length+1)+nm.length<1099511627776∧P.length+(ty.length+(1+nm.length))<1099511627776:=⟨by omega,by omega,by omega,by omega,by omega,by omega⟩;refine azc (ai e1 l1) (ai cc (ai cs (ai cf ti))) ?_;exact⟨_,le_refl _,by simp[azi]⟩
 |true=>
  have l1:P.length+5<1099511627776∧P.length+5+ty.length<1099511627776∧P.length+5+ty.length+1<1099511627776∧P.length+5+ty.length+1+nm.length<1099511627776:=⟨by omega,by omega,by omega,by omega⟩;refine azc (ai e1 l1) (ai cc (ai cs (ai cf ti))) ?_;exact⟨_,le_refl _,by simp[azi,Adr.dataW]⟩
theorem bwq(s:List UInt8)(hl:s.length≤2000000)(hin:Adr.In (Adr.bare (Adr.parse s).1))(h:Hp):AT 247 [.str s] h (.tup [.str (Adr.static s).1,.int .i64 (Adr.static s).2]):=by
 have cp:=bqv s hl;have cb:=cjp (Adr.parse s).1 (by have:=hin.n;simpa [Adr.bare]using this)
 have cf:=bjh (Adr.bare (Adr.parse s).1) hin (fun x hx=>by
  simp only[Adr.bare,Y7]at hx;obtain⟨y,_,rfl⟩:=hx
  rfl) rfl
 refine pcall ?_ rfl (by simp[A.pure,A.data]) h;refine fo ?_;unfold Adr.static;obtain⟨⟨⟨mods,data,ty,nm,⟨ka,kb,kc⟩⟩,e⟩,hP⟩:=Ex (Adr.parse s);rw[hP]at cp cb cf⊢;dsimp only[Adr.Ad.cells]at cp cb cf⊢;obtain⟨F,hF⟩:=Ex (Adr.fmt (Adr.bare ⟨mods,data,ty,nm,⟨ka,kb,kc⟩⟩));rw[hF]at cf⊢;dsimp only[Adr.bare,Adr.K.none]at cb cf;by_cases he:e=0
 ·subst he;refine azc ti (ai cp (ai cb (ai cf ti))) ?_;exact Fn rfl
 ·have e1:(e !=0)=true:=by simp[he]
  rw[if_pos he];refine azc e1 (ai cp ti) ?_;exact Fn rfl
end AX
end
section
open Go.RowKit
open Go.Op (bytesLess)
namespace AX
theorem bxf:∀(v:V),v.lens→∀h,AT 206 [v.A] h (.bool (Sf.known v)):=by
 refine V.induct fun k n s is ks ih=>?_
 intro hlen h;unfold V.lens at hlen;have hall:=hlen.2.2.2.2;have hisl:is.length≤9223372036854775807:=by have:=hlen.1;simp only[maxLen]at this;omega
 simp only[V.A,V.cells];refine pcall ?_ rfl (by simp[A.pure,A.data]) h;refine fo ?_;obtain⟨q,hq⟩:=Ex (Sf.known (.mk k n s is ks));rw[hq];unfold Sf.known at hq;by_cases h6:k=6
 ·have e1:(k==6)=true:=by simp[h6]
  have:false=q:=by rw[←hq];simp[h6]
  subst this;refine azc e1 ti ?_;exact Fn rfl
 have e1:(k==6)=false:=by simp[h6]
 have hq':Sf.knowns is=q:=by rw[←hq];simp[h6]
 refine azc e1 ti ?_;refine azf (fun m ts hh=>hh=⟨[.cells 40 [.int .i64 k,.int .i64 n,.str s,.sl 5 .no (V.cellss is),.sl 1 .no (strsA ks)]],[]⟩∧∃j:Nat,m=is.length-j∧j≤is.length∧Sf.knowns (is.drop j)=q∧(ts 1=.ptr 0 0∧ts 3=.int .i64 (j:Nat))) is.length ?_ ?_
 ·exact⟨rfl,0,rfl,Zz _,hq',by(exact azq ti)⟩
 rintro m ts hh ⟨rfl,j,rfl,hj,hkn,ht⟩;rcases Z7 j is.length with hlt|hge
 ·have hf:(V.cellss is).length=is.length∧(j:Int)<(is.length:Int)∧(0:Int)≤(j:Int)∧(V.cellss is).getD j []=is[j].cells∧IntKind.i64.wrap ((j:Int)+1)=((j+1:Nat):Int):=
   ⟨V.cellss_length is,by omega,by omega,V.cellss_get is j hlt,by rw[wrap64 (by omega) (by omega)];omega⟩
  have hc:=ih is[j] (Zt hlt) (V.lensS_mem hall _ (Zt hlt));rw[Zr hlt]at hkn;unfold Sf.knowns at hkn;obtain⟨x,hx⟩:=Ex (is[j]);rw[hx]at hf hc hkn;obtain⟨k1,n1,w1,vi,vy⟩:=x;simp only[V.A,V.cells]at hf hc;cases hK:Sf.known (.mk k1 n1 w1 vi vy)with
  |false=>
   rw[hK]at hc hkn;have:false=q:=hkn;subst this;refine azc (ai ht hf) (ai hc ti) ?_;exact Fn rfl
  |true=>
   rw[hK,Zx]at hkn;rw[hK]at hc;refine azc (ai ht hf) (ai hc ti) ?_;exact⟨_,by omega,rfl,j+1,rfl,by omega,hkn,by(exact azq (ai ht hf))⟩
 ·have hf:=ai (V.cellss_length is) (show¬(j:Int)<(is.length:Int) by omega);rw[ZG hge]at hkn;unfold Sf.knowns at hkn;subst hkn;refine azc (ai ht hf) ti ?_;exact Fn rfl
def cmpB(a b:List UInt8):Int:=if bytesLess a b=true then -1 else if a=b then 0 else 1
theorem bqz(a b:List UInt8)(h:Hp):AT 208 [.str a,.str b] h (.int .i64 (cmpB a b)):=by
 refine pcall ?_ rfl (by simp[A.pure,A.data]) h;refine fo ?_;unfold cmpB;cases hl:bytesLess a b with
 |true=>
  refine azc hl ti ?_;exact Fn rfl
 |false=>
  by_cases he:a=b
  ·have e1:(a==b)=true:=by simp[he]
   refine azc (ai hl e1) ti ?_;exact⟨_,le_refl _,by rw[if_neg (by decide),if_pos he];rfl⟩
  ·have e1:(a==b)=false:=by simp[he]
   refine azc (ai hl e1) ti ?_;exact⟨_,le_refl _,by rw[if_neg (by decide),if_neg he];rfl⟩
theorem awe(s:List UInt8)(hs:s.length≤2000000)(h:Hp):AT 181 [.str s] h (.bool (Sf.text s)):=by
 have hv:=ayg s hs;refine pcall ?_ rfl (by simp[A.pure,A.data]) h;refine fo ?_;refine azc ti (ai hv ti) ?_;exact Fn rfl
def isM(s:List UInt8):Bool:=(Adr.parse s).2==0&&!(Adr.parse s).1.data
theorem av5(s:List UInt8)(hs:s.length≤2000000)(h:Hp):AT 204 [.str s] h (.tup [.str (Adr.parse s).1.type,.bool (isM s)]):=by
 have hp:=bqv s hs;unfold isM;obtain⟨⟨⟨mods,data,ty,nm,⟨ka,kb,kc⟩⟩,e⟩,hP⟩:=Ex (Adr.parse s);rw[hP]at hp⊢;dsimp only[Adr.Ad.cells]at hp⊢;refine pcall ?_ rfl (by simp[A.pure,A.data]) h;refine fo ?_;refine azc ti (ai hp ti) ?_;exact Fn rfl
theorem cvu(s:List UInt8)(hs:s.length≤2000000):Adr.In (Adr.bare (Adr.parse s).1):=by
 by_cases h0:(Adr.parse s).2=0
 ·obtain⟨n1,n2,n3,n4⟩:=Adr.parse_names s h0;refine⟨by simp[Adr.bare];omega,fun x hx=>?_,by show(Adr.parse s).1.type.length≤_;omega,by show(Adr.parse s).1.name.length≤_;omega,by show([]:List UInt8).length≤_;decide⟩;simp only[Adr.bare,Y7]at hx;obtain⟨y,hy,rfl⟩:=hx;exact⟨by have:=n1 y hy;dsimp only;omega,by show([]:List UInt8).length≤_;decide⟩
 ·have hz:(Adr.parse s).1=Adr.Ad.zero:=by
   unfold Adr.parse at h0⊢;split at h0
   ·split at h0
    ·next h1=>rw[if_pos h1]
    ·exact absurd rfl h0
   ·rfl
  rw[hz];exact⟨by decide,by simp[Adr.bare,Adr.Ad.zero],by decide,by decide,by decide⟩
theorem bjw(s:List UInt8)(hs:s.length≤2000000)(h:Hp):AT 229 [.str s] h (.bool (Sf.staticB s)):=by
 have hp:=bwq s hs (cvu s hs);unfold Sf.staticB;refine pcall ?_ rfl (by simp[A.pure,A.data]) h;refine fo ?_;refine azc ti (ai hp ti) ?_;exact Fn rfl
theorem cvk(s:List UInt8)(hs:s.length≤2000000)(h:Hp):AT 205 [.str s] h (.bool (Sf.keyB s)):=by
 have hp:=bq3 s hs;unfold Sf.keyB;refine pcall ?_ rfl (by simp[A.pure,A.data]) h;refine fo ?_;refine azc ti (ai hp ti) ?_;exact Fn rfl
def prevS(l:List (List UInt8)):Nat→Option (List UInt8)
 |0=>none
 |j+1=>l[j]?
theorem byi(l:List (List UInt8))(j:Nat)(h:j<l.length)(hl:l.length≤4611686018427387904):
  (strsA l).length=l.length∧(j:Int)<(l.length:Int)∧(0:Int)≤(j:Int)∧(strsA l).getD j []=[.str l[j]]∧IntKind.i64.wrap ((j:Int)+1)=((j+1:Nat):Int):=
 ⟨aze l,by omega,by omega,azv l j h,by rw[wrap64 (by omega) (by omega)];omega⟩
theorem cqs(l:List (List UInt8))(hn:l.length≤1000000000)(hl:∀s∈l,s.length≤2000000)(h:Hp):AT 207 [.sl 1 .no (strsA l)] h (.bool (Sf.depsB none l)):=by
 refine pcall ?_ rfl (by simp[A.pure,A.data]) h;refine fo ?_;obtain⟨q,hq⟩:=Ex (Sf.depsB none l);rw[hq];refine azc ti ti ?_;refine azf (fun m ts hh=>hh=⟨[],[]⟩∧∃j:Nat,m=l.length-j∧j≤l.length∧Sf.depsB (prevS l j) (l.drop j)=q∧(ts 0=.sl 1 .no (strsA l)∧ts 3=.int .i64 (j:Nat))) l.length ?_ ?_
 ·exact⟨rfl,0,rfl,Zz _,hq,by(exact azq ti)⟩
 rintro m ts hh ⟨rfl,j,rfl,hj,hd,ht⟩;rcases Z7 j l.length with hlt|hge
 ·have hf:=byi l j hlt (by omega);have hs:=hl _ (Zt hlt);rw[Zr hlt]at hd;unfold Sf.depsB at hd;have hnx:prevS l (j+1)=some l[j]:=Zn hlt;obtain⟨s,hs'⟩:=Ex (l[j]);rw[hs']at hf hs hd hnx;have cs:=bjw s hs;cases hS:Sf.staticB s with
  |false=>
   rw[hS]at cs hd;have:false=q:=hd;subst this;refine azc (ai ht hf) (ai cs ti) ?_;exact Fn rfl
  |true=>
  rw[hS,Zx]at hd;rw[hS]at cs;cases j with
  |zero=>
   have:Sf.depsB (some s) (l.drop 1)=q:=hd;have z0:¬((0:Nat):Int)>0:=by decide
   refine azc (ai ht (ai hf z0)) (ai cs ti) ?_;exact⟨l.length-1,by omega,rfl,1,rfl,by omega,by rw[hnx];exact this,by(exact azq (ai ht hf))⟩
  |succ i=>
   have hi:i<l.length:=by omega
   have hpv:prevS l (i+1)=some l[i]:=Zn hi;rw[hpv]at hd;have g1:((i+1:Nat):Int)>0∧IntKind.i64.wrap (((i+1:Nat):Int)-1)=(i:Int)∧(i:Int)<(l.length:Int)∧(0:Int)≤(i:Int)∧(strsA l).getD i []=[.str l[i]]:=⟨by omega,by rw[wrap64 (by omega) (by omega)];omega,by omega,by omega,azv l i hi⟩;obtain⟨p,hp⟩:=Ex (l[i]);rw[hp]at hd g1;have hb:Val.badB (some p) s=!bytesLess p s:=rfl;rw[hb,Bool.not_not]at hd;cases hB:bytesLess p s with
   |false=>
    rw[hB]at hd;have:false=q:=hd;subst this;refine azc (ai ht (ai hf (ai g1 hB))) (ai cs ti) ?_;exact Fn rfl
   |true=>
    rw[hB,Zx]at hd;refine azc (ai ht (ai hf (ai g1 hB))) (ai cs ti) ?_;exact⟨_,by omega,rfl,i+1+1,rfl,by omega,by rw[hnx];exact hd,by(exact azq (ai ht hf))⟩
 ·have hf:=ai (aze l) (show¬(j:Int)<(l.length:Int) by omega);rw[ZG hge]at hd;unfold Sf.depsB at hd;subst hd;refine azc (ai ht hf) ti ?_;exact Fn rfl
theorem bx1(s t:List UInt8):Sf.managed s t=(isM s&&(Adr.parse s).1.type==t):=rfl
theorem cq3(a b:List UInt8):(a !=b)=!(b==a):=by
 show(!(a==b))=!(b==a)
 congr 1;rw[Ye,ZA,ZA];exact eq_comm
theorem byc(x:Sf.Inst)(hx:Sf.InstIn x)(ht:x.typ.length≤2000000)(h:Hp):AT 182 [.agg x.cells] h (.int .i64 (Sf.instZ x)):=by
 have cm:=av5 x.addr hx.a;have ck:=cvk x.dep hx.d;have ct:=awe x.id hx.i;have cc:=ake x.attrs hx.l;have cn:=bxf x.attrs hx.l;have cd:=cqs x.deps (by have:=hx.n;omega) hx.ds;obtain⟨q,hq⟩:=Ex (Sf.instZ x);rw[hq];unfold Sf.instZ at hq;rw[bx1]at hq;obtain⟨a,d,id,ty,⟨k,n,w,vi,vy⟩,v,tn,fi,ds⟩:=x;dsimp only at cm ck ct cd hq;simp only[V.A,V.cells]at cc cn;refine pcall ?_ rfl (by simp[A.pure,A.data,Sf.Inst.cells]) h;refine fo ?_;dsimp only[Sf.Inst.cells];obtain⟨T,hT⟩:=Ex ((Adr.parse a).1.type);rw[hT]at cm hq;cases hM:isM a with
 |false=>
  rw[hM]at cm hq;rw[if_pos (by simp)]at hq;subst hq;refine azc ti (ai cm ti) ?_;exact Fn rfl
 |true=>
 rw[hM,Zx]at hq;rw[hM]at cm;cases hK:Sf.keyB d with
 |false=>
  rw[hK]at ck hq;rw[if_pos (by simp)]at hq;subst hq;refine azc ti (ai cm (ai ck ti)) ?_;exact Fn rfl
 |true=>
 rw[hK]at ck hq;cases hX:Sf.text id with
 |false=>
  rw[hX]at ct hq;rw[if_pos (by simp)]at hq;subst hq;refine azc ti (ai cm (ai ck (ai ct ti))) ?_;exact Fn rfl
 |true=>
 rw[hX]at ct hq;simp only[ZP,Y6]at hq;have hTy:(ty !=T)=!(T==ty):=cq3 ty T;cases hE:(T==ty)with
 |false=>
  rw[hE]at hTy hq;rw[if_pos (by decide)]at hq;subst hq;refine azc hTy (ai cm (ai ck (ai ct ti))) ?_;exact Fn rfl
 |true=>
 rw[hE]at hTy hq;rw[if_neg (by decide)]at hq;have hTy':(ty !=T)=false:=hTy;by_cases hZ:Val.checkZ (.mk k n w vi vy)=0
 rotate_left
 ·obtain⟨Z,hZZ⟩:=Ex (Val.checkZ (.mk k n w vi vy));rw[hZZ]at cc hZ hq;have e1:(Z !=0)=true:=by simp[hZ]
  rw[if_pos hZ]at hq;subst hq;refine azc (ai hTy' e1) (ai cm (ai ck (ai ct (ai cc ti)))) ?_;exact Fn rfl
 rw[hZ]at cc;rw[if_neg (by simp[hZ])]at hq;have hkd:Sf.V.kind (.mk k n w vi vy)=k:=rfl;rw[hkd]at hq;by_cases h5:k=5
 rotate_left
 ·have e1:(k !=5)=true:=by simp[h5]
  rw[if_pos h5]at hq;subst hq;refine azc (ai hTy' e1) (ai cm (ai ck (ai ct (ai cc ti)))) ?_;exact Fn rfl
 have e1:(k !=5)=false:=by simp[h5]
 rw[if_neg (by simp[h5])]at hq;cases hN:Sf.known (.mk k n w vi vy)with
 |false=>
  rw[hN]at cn hq;rw[if_pos (by decide)]at hq;subst hq;refine azc (ai hTy' e1) (ai cm (ai ck (ai ct (ai cc (ai cn ti))))) ?_;exact Fn rfl
 |true=>
 rw[hN]at cn hq;rw[if_neg (by decide)]at hq;by_cases hv:v<1∨9007199254740992<v
 ·have e2:(decide (v<1)||decide (v>9007199254740992))=true:=by simpa using hv
  rw[if_pos hv]at hq;subst hq;refine azc (ai hTy' (ai e1 e2)) (ai cm (ai ck (ai ct (ai cc (ai cn ti))))) ?_;exact Fn rfl
 have e2:(decide (v<1)||decide (v>9007199254740992))=false:=by simp;omega
 rw[if_neg hv]at hq;cases hD:Sf.depsB none ds with
 |false=>
  rw[hD]at cd hq;have:q=1:=by rw[←hq];rfl
  subst this;refine azc (ai hTy' (ai e1 e2)) (ai cm (ai ck (ai ct (ai cc (ai cn (ai cd ti)))))) ?_;exact Fn rfl
 |true=>
  rw[hD]at cd hq;have:q=0:=by rw[←hq];rfl
  subst this;refine azc (ai hTy' (ai e1 e2)) (ai cm (ai ck (ai ct (ai cc (ai cn (ai cd ti)))))) ?_;exact Fn rfl
theorem cq8(p:Sf.Pend)(ha:p.addr.length≤2000000)(hk:p.tok.length≤2000000)(h:Hp):AT 184 [.agg p.cells] h (.int .i64 (if Sf.pendB p=true then 0 else 1)):=by
 have cm:=av5 p.addr ha;have ct:=awe p.tok hk;unfold Sf.pendB;rw[bx1];obtain⟨a,ty,tok⟩:=p;dsimp only at cm ct⊢;refine pcall ?_ rfl (by simp[A.pure,A.data,Sf.Pend.cells]) h;refine fo ?_;dsimp only[Sf.Pend.cells];obtain⟨T,hT⟩:=Ex ((Adr.parse a).1.type);rw[hT]at cm⊢;have hTy:(ty !=T)=!(T==ty):=cq3 ty T;obtain⟨b,hb⟩:=Ex ((T==ty));rw[hb]at hTy⊢;obtain⟨c,hc⟩:=Ex (Sf.text tok);obtain⟨e,he⟩:=Ex (isM a);rw[hc]at ct⊢;rw[he]at cm⊢;cases c<;>cases e<;>cases b<;>((refine azc hTy (ai cm (ai ct ti)) ?_);exact Fn rfl)
theorem byw(o:Sf.Outp)(hn:o.name.length≤2000000)(hl:o.value.lens)(h:Hp):AT 209 [.agg o.cells] h (.int .i64 (Sf.outZ o)):=by
 have ci:=aq5 o.name hn;have cc:=ake o.value hl;have cn:=bxf o.value hl;obtain⟨q,hq⟩:=Ex (Sf.outZ o);rw[hq];unfold Sf.outZ at hq;obtain⟨nm,⟨k,n,w,vi,vy⟩,sn⟩:=o;dsimp only at ci hq;simp only[V.A,V.cells]at cc cn;refine pcall ?_ rfl (by simp[A.pure,A.data,Sf.Outp.cells]) h;refine fo ?_;dsimp only[Sf.Outp.cells];cases hI:Adr.ident nm with
 |false=>
  rw[hI]at ci hq;rw[if_pos (by decide)]at hq;subst hq;refine azc ti (ai ci ti) ?_;exact Fn rfl
 |true=>
 rw[hI]at ci hq;rw[if_neg (by decide)]at hq;by_cases hZ:Val.checkZ (.mk k n w vi vy)=0
 rotate_left
 ·obtain⟨Z,hZZ⟩:=Ex (Val.checkZ (.mk k n w vi vy));rw[hZZ]at cc hZ hq;have e1:(Z !=0)=true:=by simp[hZ]
  rw[if_pos hZ]at hq;subst hq;refine azc e1 (ai ci (ai cc ti)) ?_;exact Fn rfl
 rw[hZ]at cc;rw[if_neg (by simp[hZ])]at hq;cases hN:Sf.known (.mk k n w vi vy)with
 |false=>
  rw[hN]at cn hq;rw[if_pos (by decide)]at hq;subst hq;refine azc ti (ai ci (ai cc (ai cn ti))) ?_;exact Fn rfl
 |true=>
  rw[hN]at cn hq;rw[if_neg (by decide)]at hq;subst hq;refine azc ti (ai ci (ai cc (ai cn ti))) ?_;exact Fn rfl
def beforeZ(a d:List UInt8)(y:Sf.Inst):Int:=if a=y.addr then cmpB d y.dep else cmpB a y.addr
theorem bjc(a d:List UInt8)(y:Sf.Inst)(h:Hp):AT 183 [.str a,.str d,.agg y.cells] h (.int .i64 (beforeZ a d y)):=by
 have c1:=bqz a y.addr;have c2:=bqz d y.dep;unfold beforeZ;obtain⟨a',d',id,ty,⟨k,n,w,vi,vy⟩,v,tn,fi,ds⟩:=y;dsimp only at c1 c2⊢;refine pcall ?_ rfl (by simp[A.pure,A.data,Sf.Inst.cells]) h;refine fo ?_;dsimp only[Sf.Inst.cells];by_cases he:a=a'
 ·have e1:(a !=a')=false:=by simp[he]
  rw[if_pos he];refine azc e1 (ai c2 ti) ?_;exact Fn rfl
 ·have e1:(a !=a')=true:=by simp[he]
  rw[if_neg he];refine azc e1 (ai c1 ti) ?_;exact Fn rfl
theorem czm(a b:List UInt8):decide (cmpB a b≤0)=!bytesLess b a:=by
 have h1:=Val.less_total a b;unfold cmpB;cases hl:bytesLess a b with
 |true=>
  rw[if_pos rfl];have h2:=Val.less_total b a;rw[hl]at h2;rw[h2];rfl
 |false=>
  rw[if_neg (by decide)];by_cases he:a=b
  ·subst he;rw[if_pos rfl,Val.less_irrefl];rfl
  ·rw[if_neg he];rw[hl]at h1;have:(b==a)=false:=by simpa using fun h=>he h.symm
   rw[this,Y6]at h1;rw[←h1];rfl
theorem bz7(x y:Sf.Inst):decide (beforeZ x.addr x.dep y≤0)=!Sf.behind y x:=by
 unfold beforeZ Sf.behind;by_cases he:x.addr=y.addr
 ·rw[if_pos he,czm,he,Val.less_irrefl];simp
 ·rw[if_neg he,czm];have:(y.addr==x.addr)=false:=by simpa using fun h=>he h.symm
  rw[this,ZT,Y6]
theorem ax7{α:Type}(f:α→List A)(l:List α)(i:Nat)(h:l.length≤i):(l.map f).length=l.length∧¬(i:Int)<(l.length:Int):=⟨Zj _,by omega⟩
def prevG{α:Type}(l:List α):Nat→Option α
 |0=>none
 |j+1=>l[j]?
theorem aqv{α:Type}(l:List α)(j:Nat)(h:j<l.length):prevG l (j+1)=some l[j]:=Zn h
theorem avh{α:Type}(f:α→List A)(l:List α)(i:Nat)(h:i+1<l.length)(hl:l.length≤4611686018427387904):
  ((i+1:Nat):Int)>0∧IntKind.i64.wrap (((i+1:Nat):Int)-1)=(i:Int)∧(i:Int)<(l.length:Int)∧(0:Int)≤(i:Int)∧(l.map f).getD i []=f (l[i]'(by omega)):=
 ⟨by omega,by rw[wrap64 (by omega) (by omega)];omega,by omega,by omega,az3 f l i (by omega)⟩
theorem by8(l:List Sf.Outp)(hn:l.length≤1000000000)(ho:∀o∈l,o.name.length≤2000000∧o.value.lens)(h:Hp):AT 185 [.sl 7 .no (l.map Sf.Outp.cells)] h (.int .i64 (Sf.outsZ none l)):=by
 refine pcall ?_ rfl (by simp[A.pure,A.data]) h;refine fo ?_;obtain⟨q,hq⟩:=Ex (Sf.outsZ none l);rw[hq];refine azc ti ti ?_;refine azf (fun m ts hh=>hh=⟨[],[]⟩∧∃j:Nat,m=l.length-j∧j≤l.length∧Sf.outsZ ((prevG l j).map Sf.Outp.name) (l.drop j)=q∧(ts 0=.sl 7 .no (l.map Sf.Outp.cells)∧ts 3=.int .i64 (j:Nat))) l.length ?_ ?_
 ·exact⟨rfl,0,rfl,Zz _,hq,by(exact azq ti)⟩
 rintro m ts hh ⟨rfl,j,rfl,hj,hd,ht⟩;rcases Z7 j l.length with hlt|hge
 ·have hf:=axp Sf.Outp.cells l j hlt (by omega);have hox:=ho _ (Zt hlt);rw[Zr hlt]at hd;unfold Sf.outsZ at hd;have hnx:=aqv l j hlt;obtain⟨x,hx⟩:=Ex (l[j]);rw[hx]at hf hox hd hnx;have co:=byw x hox.1 hox.2;obtain⟨Z,hZ⟩:=Ex (Sf.outZ x);rw[hZ]at co hd;have hxn:(some x).map Sf.Outp.name=some x.name:=rfl;obtain⟨nm,⟨k,n,w,vi,vy⟩,sn⟩:=x;dsimp only[Sf.Outp.cells]at hf co hd hxn;by_cases hz:Z=0
  rotate_left
  ·have e1:(Z !=0)=true:=by simp[hz]
   rw[if_pos hz]at hd;subst hd;refine azc (ai ht (ai hf e1)) (ai co ti) ?_;exact Fn rfl
  have e1:(Z !=0)=false:=by simp[hz]
  rw[if_neg (by simp[hz])]at hd;cases j with
  |zero=>
   have z0:¬((0:Nat):Int)>0:=by decide
   have hd':Sf.outsZ (some nm) (l.drop 1)=q:=hd;refine azc (ai ht (ai hf (ai e1 z0))) (ai co ti) ?_;exact⟨l.length-1,by omega,rfl,1,rfl,by omega,by rw[hnx];exact hd',by(exact azq (ai ht hf))⟩
  |succ i=>
   have hb:=avh Sf.Outp.cells l i hlt (by omega);rw[aqv l i (by omega)]at hd;obtain⟨y,hy⟩:=Ex (l[i]);rw[hy]at hb hd;obtain⟨nm2,⟨k2,n2,w2,vi2,vy2⟩,sn2⟩:=y;dsimp only[Sf.Outp.cells,Option.map_some]at hb hd
   replace hd:(if(!bytesLess nm2 nm)=true then(1:Int)else Sf.outsZ (some nm) (l.drop (i+1+1)))=q:=hd
   cases hB:bytesLess nm2 nm with
   |false=>
    rw[hB,if_pos (by decide)]at hd;subst hd;refine azc (ai ht (ai hf (ai e1 (ai hb hB)))) (ai co ti) ?_;exact Fn rfl
   |true=>
    rw[hB,if_neg (by decide)]at hd;refine azc (ai ht (ai hf (ai e1 (ai hb hB)))) (ai co ti) ?_;exact⟨_,by omega,rfl,i+1+1,rfl,by omega,by rw[hnx];exact hd,by(exact azq (ai ht hf))⟩
 ·have hf:=ax7 Sf.Outp.cells l j hge;rw[ZG hge]at hd;unfold Sf.outsZ at hd;subst hd;refine azc (ai ht hf) ti ?_;exact Fn rfl
theorem ayk(st:Sf.St)(hin:Sf.StIn st)(htp:Sf.TypIn st)(h:Hp):AT 157 [st.A] h (.int .i64 (Sf.checkZ st)):=by
 obtain⟨lin,ser,ins,ps,os⟩:=st;obtain⟨hl,hi,hp,ho,hni,hnp,hno⟩:=hin;dsimp only at hl hi hp ho hni hnp hno;have hti:=htp.insts;have htp':=htp.pends;dsimp only at hti htp';have ct:=awe lin (by omega);have co:=by8 os hno ho;obtain⟨q,hq⟩:=Ex (Sf.checkZ ⟨lin,ser,ins,ps,os⟩);rw[hq];unfold Sf.checkZ at hq;dsimp only at hq;obtain⟨N,hN⟩:=Ex (Sf.instsZ none ins);obtain⟨P,hP⟩:=Ex (Sf.pendsZ none ps);rw[hN,hP]at hq;refine pcall ?_ rfl (by simp[A.pure,A.data,Sf.St.A]) h;refine fo ?_;dsimp only[Sf.St.A];have li:(ins.map Sf.Inst.cells).length=ins.length∧(ps.map Sf.Pend.cells).length=ps.length∧(os.map Sf.Outp.cells).length=os.length:=⟨Zj _,Zj _,Zj _⟩;cases hT:Sf.text lin with
 |false=>
  rw[hT]at ct hq;rw[if_pos (by decide)]at hq;subst hq;refine azc ti (ai ct ti) ?_;exact Fn rfl
 |true=>
 rw[hT]at ct hq;rw[if_neg (by decide)]at hq;by_cases hs:ser<0∨9007199254740992<ser
 ·have e1:(decide (ser<0)||decide (ser>9007199254740992))=true:=by simpa using hs
  rw[if_pos hs]at hq;subst hq;refine azc e1 (ai ct ti) ?_;exact Fn rfl
 have e1:(decide (ser<0)||decide (ser>9007199254740992))=false:=by simp;omega
 rw[if_neg hs]at hq;by_cases hm:512<ins.length∨512<ps.length∨512<os.length
 ·have e2:(decide ((ins.length:Int)>512)||decide ((ps.length:Int)>512)||decide ((os.length:Int)>512))=true:=by simp;omega
  rw[if_pos hm]at hq;subst hq;refine azc (ai e1 (ai li e2)) (ai ct ti) ?_;exact Fn rfl
 have e2:(decide ((ins.length:Int)>512)||decide ((ps.length:Int)>512)||decide ((os.length:Int)>512))=false:=by simp;omega
 rw[if_neg hm]at hq;refine azc (ai e1 (ai li e2)) (ai ct ti) ?_
 refine azf (fun m ts hh=>∃(j:Nat) (l:List Blk),m=ins.length-j∧j≤ins.length∧hh=⟨.cells 33 [.str lin,.int .i64 ser,.sl 13 .no (ins.map Sf.Inst.cells),.sl 3 .no (ps.map Sf.Pend.cells),.sl 7 .no (os.map Sf.Outp.cells)]::l,[]⟩ ∧
  Sf.instsZ (prevG ins j) (ins.drop j)=N∧(ts 1=.ptr 0 0∧ts 3=.int .i64 (j:Nat))) ins.length ?_ ?_
 ·exact⟨0,[],rfl,Zz _,rfl,hN,by(exact azq ti)⟩
 rintro m ts hh ⟨j,l,rfl,hj,rfl,hd,ht⟩;rcases Z7 j ins.length with hlt|hge
 ·have hf:=axp Sf.Inst.cells ins j hlt (by omega);have hix:=hi _ (Zt hlt);have htx:=hti _ (Zt hlt);rw[Zr hlt]at hd;unfold Sf.instsZ at hd;have hnx:=aqv ins j hlt;obtain⟨x,hx⟩:=Ex (ins[j]);rw[hx]at hf hix htx hd hnx;have ci:=byc x hix htx;have cb:=fun y=>bjc x.addr x.dep y
  have hbf:=bz7 x;obtain⟨Z,hZ⟩:=Ex (Sf.instZ x);rw[hZ]at ci hd;obtain⟨x',hx'⟩:∃x',x'=x:=⟨_,rfl⟩;rw[←hx']at hd hnx hbf;obtain⟨a,d,id,ty,⟨k,n,w,vi,vy⟩,v,tn,fi,ds⟩:=x;have hxa:x'.addr=a∧x'.dep=d:=by rw[hx'];exact⟨rfl,rfl⟩
  rw[hxa.1,hxa.2]at hbf;dsimp only[Sf.Inst.cells]at hf ci cb;by_cases hz:Z=0
  rotate_left
  ·have e3:(Z !=0)=true:=by simp[hz]
   rw[if_pos hz]at hd;have:q=Z:=by rw[←hq,←hd,if_pos hz]
   subst this;refine azc (ai ht (ai hf (ai li e3))) (ai ci ti) ?_;exact Fn rfl
  have e3:(Z !=0)=false:=by simp[hz]
  rw[if_neg (by simp[hz])]at hd;cases j with
  |zero=>
   have z0:¬((0:Nat):Int)>0:=by decide
   have hd':Sf.instsZ (some x') (ins.drop 1)=N:=hd;refine azc (ai ht (ai hf (ai li (ai e3 z0)))) (ai ci ti) ?_;exact⟨ins.length-1,by omega,1,_,rfl,by omega,rfl,by rw[hnx];exact hd',by(exact azq (ai ht hf))⟩
  |succ i=>
   have hb:=avh Sf.Inst.cells ins i hlt (by omega);rw[aqv ins i (by omega)]at hd;obtain⟨y,hy⟩:=Ex (ins[i]);rw[hy]at hb hd;have cby:=cb y;have hbfy:=hbf y
   replace hd:(if(!Sf.behind y x')=true then(1:Int)else Sf.instsZ (some x') (ins.drop (i+1+1)))=N:=hd
   obtain⟨B,hBB⟩:=Ex (beforeZ a d y);rw[hBB]at cby hbfy;obtain⟨bh,hbh⟩:=Ex (Sf.behind y x');rw[hbh]at hd hbfy;obtain⟨a2,d2,id2,ty2,⟨k2,n2,w2,vi2,vy2⟩,v2,tn2,fi2,ds2⟩:=y;dsimp only[Sf.Inst.cells]at hb cby;cases bh with
   |false=>
    rw[if_pos (by decide)]at hd;have hb0:B≤0:=by simpa using hbfy
    have:q=1:=by rw[←hq,←hd];rfl
    subst this;refine azc (ai ht (ai hf (ai li (ai e3 (ai hb hb0))))) (ai ci (ai cby ti)) ?_;exact Fn rfl
   |true=>
    rw[if_neg (by decide)]at hd;have hb0:¬B≤0:=by simpa using hbfy
    refine azc (ai ht (ai hf (ai li (ai e3 (ai hb hb0))))) (ai ci (ai cby ti)) ?_;exact⟨_,by omega,i+1+1,_,rfl,by omega,rfl,by rw[hnx];exact hd,by(exact azq (ai ht hf))⟩
 have hf:=ax7 Sf.Inst.cells ins j hge;rw[ZG hge]at hd;unfold Sf.instsZ at hd;rw[←hd,if_neg (by simp)]at hq;refine azc (ai ht (ai hf li)) ti ?_
 refine azf (fun m ts hh=>∃(j:Nat),m=ps.length-j∧j≤ps.length∧hh=⟨.cells 33 [.str lin,.int .i64 ser,.sl 13 .no (ins.map Sf.Inst.cells),.sl 3 .no (ps.map Sf.Pend.cells),.sl 7 .no (os.map Sf.Outp.cells)]::l,[]⟩ ∧
  Sf.pendsZ ((prevG ps j).map Sf.Pend.tok) (ps.drop j)=P∧(ts 1=.ptr 0 0∧ts 6=.int .i64 (j:Nat))) ps.length ?_ ?_
 ·exact⟨0,rfl,Zz _,rfl,hP,by(exact azq ht)⟩
 rintro m ts' hh ⟨j',rfl,hj',rfl,hd',hu⟩;rcases Z7 j' ps.length with hlt|hge'
 ·have hf:=axp Sf.Pend.cells ps j' hlt (by omega);have hpx:=hp _ (Zt hlt);rw[Zr hlt]at hd';unfold Sf.pendsZ at hd';have hnx:=aqv ps j' hlt;obtain⟨x,hx⟩:=Ex (ps[j']);rw[hx]at hf hpx hd' hnx;have cp:=cq8 x hpx.1 hpx.2;obtain⟨b,hb⟩:=Ex (Sf.pendB x);rw[hb]at cp hd';obtain⟨a,ty,tok⟩:=x;dsimp only[Sf.Pend.cells]at hf cp hd';cases b with
  |false=>
   rw[if_neg (by decide)]at cp;rw[ZL,YR,if_pos rfl]at hd';have:q=1:=by rw[←hq,←hd'];rfl
   subst this;refine azc (ai hu (ai hf li)) (ai cp ti) ?_;exact Fn rfl
  |true=>
  rw[if_pos rfl]at cp;rw[ZP,Yr]at hd';cases j' with
  |zero=>
   have z0:¬((0:Nat):Int)>0:=by decide
   have hd2:Sf.pendsZ (some tok) (ps.drop 1)=P:=hd';refine azc (ai hu (ai hf (ai li z0))) (ai cp ti) ?_;exact⟨ps.length-1,by omega,1,rfl,by omega,rfl,by rw[hnx];exact hd2,by(exact azq (ai hu hf))⟩
  |succ i=>
   have hbr:=avh Sf.Pend.cells ps i hlt (by omega);rw[aqv ps i (by omega)]at hd';obtain⟨y,hy⟩:=Ex (ps[i]);rw[hy]at hbr hd';obtain⟨a2,ty2,tok2⟩:=y;dsimp only[Sf.Pend.cells,Option.map_some]at hbr hd'
   replace hd':(if(!bytesLess tok2 tok)=true then(1:Int)else Sf.pendsZ (some tok) (ps.drop (i+1+1)))=P:=hd'
   cases hB:bytesLess tok2 tok with
   |false=>
    rw[hB,if_pos (by decide)]at hd';have:q=1:=by rw[←hq,←hd'];rfl
    subst this;refine azc (ai hu (ai hf (ai li (ai hbr hB)))) (ai cp ti) ?_;exact Fn rfl
   |true=>
    rw[hB,if_neg (by decide)]at hd';refine azc (ai hu (ai hf (ai li (ai hbr hB)))) (ai cp ti) ?_;exact⟨_,by omega,i+1+1,rfl,by omega,rfl,by rw[hnx];exact hd',by(exact azq (ai hu hf))⟩
 ·have hf':=ax7 Sf.Pend.cells ps j' hge';rw[ZG hge']at hd';unfold Sf.pendsZ at hd';rw[←hd',if_neg (by simp)]at hq;rw[hq]at co;refine azc (ai hu (ai hf' li)) (ai co ti) ?_;exact Fn rfl
end AX
end
section
open Go.RowKit
namespace Sf
open Wire (numR strR cntR)
def InstT(x:Inst):Prop:=AX.Sf.InstIn x∧x.typ.length≤2000000
def PendT(x:Pend):Prop:=x.addr.length≤2000000∧x.tok.length≤2000000∧x.typ.length≤2000000
def OutT(x:Outp):Prop:=x.name.length≤2000000∧x.value.lens
theorem instQ_in(ver:Int)(hv:ver=1∨ver=2)(r:Wire.St)(h:(instQ ver r).2.2=true)(hr:r.rest.length≤2000000):InstT (instQ ver r).2.1∧(instQ ver r).1.rest.length≤r.rest.length:=by
 have e:=(inst_agree ver hv r).1 h;have i:=inst_in ver ⟨r,false⟩ hr;have l:=instS_le ver ⟨r,false⟩;have t:(instS ver ⟨r,false⟩).2.typ=(strS (strS (strS (strS ⟨r,false⟩).1).1).1).2:=rfl;rw[e]at i l t;have a1:=strS_le ⟨r,false⟩;have a2:=strS_le (strS ⟨r,false⟩).1;have a3:=strS_le (strS (strS ⟨r,false⟩).1).1;have a4:=strS_len (strS (strS (strS ⟨r,false⟩).1).1).1;dsimp only at i l t a1;refine⟨⟨i,?_⟩,l⟩;rw[t];omega
theorem pendQ_in(r:Wire.St)(hr:r.rest.length≤2000000):PendT (pendQ r).2∧(pendQ r).1.rest.length≤r.rest.length:=by
 have a1:=strS_le ⟨r,false⟩;have a2:=strS_le (strS ⟨r,false⟩).1;have a3:=strS_le (strS (strS ⟨r,false⟩).1).1;have l1:=strS_len ⟨r,false⟩;have l2:=strS_len (strS ⟨r,false⟩).1;have l3:=strS_len (strS (strS ⟨r,false⟩).1).1;have e:(pendQ r)=((strS (strS (strS ⟨r,false⟩).1).1).1.r,⟨(strS ⟨r,false⟩).2,(strS (strS ⟨r,false⟩).1).2,(strS (strS (strS ⟨r,false⟩).1).1).2⟩):=rfl;rw[e];dsimp only at a1 l1;exact⟨⟨by dsimp only;omega,by dsimp only;omega,by dsimp only;omega⟩,by dsimp only;omega⟩
theorem outsQ_in:∀(c:Nat) (r:Wire.St) (l:List Outp),r.rest.length≤2000000→(∀x∈l,OutT x)→(∀x∈(outsQ c r l).2.1,OutT x)∧(outsQ c r l).2.1.length≤l.length+c∧(outsQ c r l).1.rest.length≤r.rest.length
 |0,r,l,hr,hl=>⟨hl,Zf _,Zf _⟩
 |c+1,r,l,hr,hl=>by
  unfold outsQ;split
  ·exact⟨hl,by dsimp only;omega,Zf _⟩
  have k1:=strS_len ⟨r,false⟩;have k3:=strS_le ⟨r,false⟩;have k4:=Val.readValue_le (strR r).1;have k5:=Wire.numR_rest (Val.readValue (strR r).1).1;have k6:(strS ⟨r,false⟩).1.r=(strR r).1:=rfl;have k7:(strS ⟨r,false⟩).2=(strR r).2:=rfl;have k8:(flagQ (Val.readValue (strR r).1).1).1=(numR (Val.readValue (strR r).1).1).1:=rfl;rw[k6]at k3;rw[k7]at k1;dsimp only at k1 k3⊢;split
  ·exact⟨by simp,by simp,by dsimp only;omega⟩
  split
  ·refine⟨by simp,by simp,?_⟩;rw[k8];omega
  ·obtain⟨h1,h2,h3⟩:=outsQ_in c (flagQ (Val.readValue (strR r).1).1).1 (l++[⟨(strR r).2,(Val.readValue (strR r).1).2.2,(flagQ (Val.readValue (strR r).1).1).2.1⟩]) (by rw[k8];omega) (fun x hx=>by
    rcases Yz.1 hx with hx|hx
    ·exact hl x hx
    ·rw[Yw.1 hx]
     exact⟨by dsimp only;omega,AX.axa _ (by omega)⟩)
   refine⟨h1,?_,Zl h3 (by rw[k8];omega)⟩;rw[Za,YT]at h2;omega
end Sf
namespace AX
theorem bxo(s:List UInt8)(hs:s.length≤100000000)(h:Hp):AT 120 [.str s] h (.tup [.int .i64 (versionS s).1,.int .i64 (versionS s).2]):=by
 refine pcall ?_ rfl (by simp[A.pure,A.data]) h;refine fo ?_;have hV:versionS s=if preB s=false then(0,2)else if(Wire.numR ⟨s.drop 4,0⟩).1.e≠0 then(0,2)else if(Wire.numR ⟨s.drop 4,0⟩).2≠1∧(Wire.numR ⟨s.drop 4,0⟩).2≠2 then(0,21)else((Wire.numR ⟨s.drop 4,0⟩).2,0):=rfl
 have hP:preB s=(decide (4≤s.length)&&s.take 4 == [80,86,83,84]):=rfl;have h04:(0:Int)≤4:=by decide
 have h4:(4:Int).toNat=4:=rfl;by_cases hl:(s.length:Int)<4
 ·have hp:preB s=false:=by rw[hP,YC (by omega)];rfl
  rw[if_pos hp]at hV;rw[hV];refine azj hl ti ?_;exact Fn rfl
 have hl4:(4:Int)≤(s.length:Int):=by omega
 by_cases hm:s.take 4=[80,86,83,84]
 rotate_left
 ·have hp:preB s=false:=by rw[hP];simp[hm]
  have hm':(s.take 4 != [80,86,83,84])=true:=by simp[hm]
  rw[if_pos hp]at hV;rw[hV];refine azj (ai hl (ai hl4 (ai h04 (ai h4 hm')))) ti ?_;exact Fn rfl
 have hp:preB s=true:=by rw[hP,Yd (by omega),hm];rfl
 have hm':(s.take 4 != [80,86,83,84])=false:=by simp[hm]
 rw[if_neg (by rw[hp];decide)]at hV;obtain⟨⟨⟨l1,e1⟩,n⟩,h1⟩:=Ex (Wire.numR ⟨s.drop 4,0⟩);rw[h1]at hV;dsimp only at hV;have c0:=akn (s.drop 4);have c1:=axo h1 (by rw[Zv];omega);by_cases he:e1=0
 rotate_left
 ·have he':(e1 !=0)=true:=by simp[he]
  rw[if_pos he]at hV;rw[hV];refine azj (ai hl (ai hl4 (ai h04 (ai h4 (ai hm' he'))))) (ai c0 (ai c1 ti)) ?_;exact Fn rfl
 have he':(e1 !=0)=false:=by simp[he]
 rw[if_neg (by simp[he])]at hV;by_cases n1:n=1
 ·subst n1;rw[if_neg (fun h=>h.1 rfl)]at hV;rw[hV];refine azj (ai hl (ai hl4 (ai h04 (ai h4 (ai hm' he'))))) (ai c0 (ai c1 ti)) ?_;exact Fn rfl
 have n1':(n !=1)=true:=by simp[n1]
 by_cases n2:n=2
 ·subst n2;rw[if_neg (fun h=>h.2 rfl)]at hV;rw[hV];refine azj (ai hl (ai hl4 (ai h04 (ai h4 (ai hm' he'))))) (ai c0 (ai c1 ti)) ?_;exact Fn rfl
 have n2':(n !=2)=true:=by simp[n2]
 rw[if_pos ⟨n1,n2⟩]at hV;rw[hV];refine azj (ai hl (ai hl4 (ai h04 (ai h4 (ai hm' (ai he' (ai n1' n2'))))))) (ai c0 (ai c1 ti)) ?_;exact Fn rfl
theorem ckg{l:List Blk}(x y z w:Blk):(l++[x]++[y]++[z]++[w])[l.length]?=some x:=by
 rw[ZO (by simp)];exact av0 x y z
theorem cv1{l:List Blk}(x y z w:Blk):(l++[x]++[y]++[z]++[w])[l.length+1+1+1]?=some w:=by
 have h:(l++[x]++[y]++[z]).length=l.length+1+1+1:=by simp
 rw[←h];exact ZJ
theorem ckm{l:List Blk}(x y z w v:Blk):(l++[x]++[y]++[z]++[w]).set l.length v=l++[v]++[y]++[z]++[w]:=by
 rw[List.set_append_left _ _ (by simp),av4]
theorem ckd{l:List Blk}(x y z w v:Blk):(l++[x]++[y]++[z]++[w]).set (l.length+1+1+1) v=l++[x]++[y]++[z]++[v]:=by
 have h:(l++[x]++[y]++[z]).length=l.length+1+1+1:=by simp
 rw[←h,ax0]
theorem dzz(a:A){x y:A}(b:Bool)(h:le2 x y):le (.tup [a,x,.bool b]) (.tup [a,y,.bool b]):=⟨azx _,h,azx _,trivial⟩
theorem cqa{l l9 qr:List UInt8}{e e9 qe:Int}{c:Nat}{qo:List Sf.Outp}{qb:Bool}(h9:Wire.cntR ⟨l,e⟩ 1=(⟨l9,e9⟩,c))(hq:Sf.outsQ c ⟨l9,e9⟩ []=(⟨qr,qe⟩,qo,qb))(hl:l.length≤100000000)(h:Hp):
  AT 156 [.agg [.str l,.int .i64 e]] h (.tup [.agg [.str qr,.int .i64 qe],.sl 7 .no (qo.map Sf.Outp.cells),.bool qb]):=by
 refine pcall ?_ rfl (by simp[A.pure,A.data]) h;refine fo ?_;have b9:=Wire.cntR_rest ⟨l,e⟩ 1;have bk:=Wire.cntR_cnt ⟨l,e⟩;rw[h9]at b9 bk;dsimp only at b9 bk;have c9:=ay7 h9 (by omega);refine azj ti (ai c9 ti) ?_
 refine azf (fun mm ts h=>∃(j:Nat) (lp:List UInt8) (ep:Int) (os:List Sf.Outp) (W:Nat) (o:Own) (bl:List Blk) (t:List (TypeId×Nat×Nat)),mm=c-j∧j≤c ∧
  h=⟨.cells 94 [.str lp,.int .i64 ep] :: .cells 94 [.str [],.int .i64 0]::bl,t⟩ ∧
  Sf.outsQ (c-j) ⟨lp,ep⟩ os=(⟨qr,qe⟩,qo,qb)∧os.length=j∧lp.length≤l9.length∧Gs 126 7 0 ⟨[],t⟩ (os.map Sf.Outp.cells) (.sl W o (os.map Sf.Outp.cells)) ∧
  (ts 1=.ptr 0 0∧ts 2=.ptr 1 0∧ts 5=.sl W o (os.map Sf.Outp.cells)∧ts 6=.int .i64 (c:Nat)∧ts 7=.int .i64 (j:Nat))) c ?_ ?_
 ·exact⟨0,l9,e9,[],0,.nil,[],[],by omega,by omega,rfl,hq,rfl,Zf _,.inl ⟨rfl,rfl⟩,by(exact azq ti)⟩
 clear h9 c9 hq;rintro mm ts h ⟨j,lp,ep,os,W,o,bl,t,rfl,hjc,rfl,hit,hdl,hpl,gX,ht⟩;by_cases hj:j<c
 rotate_left
 ·have hlt:¬((j:Int)<(c:Int)):=by omega
  rw[show c-j=0 by omega,Sf.outsQ]at hit;injection hit with q1 q2;injection q1 with q0 q1;injection q2 with q2 q3;subst q0;subst q1;subst q2;subst q3;refine azc (ai ht hlt) ti ?_;exact⟨_,dzz _ _ (Gs.le gX),rfl⟩
 have hlt:(j:Int)<(c:Int):=by omega
 have ei:IntKind.i64.wrap ((j:Int)+1)=((j+1:Nat):Int):=by rw[wrap64 (by omega) (by omega)];omega
 rw[show c-j=(c-(j+1))+1 by omega]at hit;unfold Sf.outsQ at hit;by_cases he:ep=0
 rotate_left
 ·have he':(ep==0)=false:=by simp[he]
  rw[if_pos he]at hit;injection hit with q1 q2;injection q1 with q0 q1;injection q2 with q2 q3;subst q0;subst q1;subst q2;subst q3;refine azc (ai ht (ai hlt he')) ti ?_;exact⟨_,dzz _ _ (Gs.le gX),rfl⟩
 have he':(ep==0)=true:=by simp[he]
 rw[if_neg (show¬(ep≠0) by simp[he])]at hit;obtain⟨⟨⟨l1,e1⟩,x1⟩,h1⟩:=Ex (Wire.strR ⟨lp,ep⟩);have b1:=Wire.strR_rest ⟨lp,ep⟩;rw[h1]at b1;obtain⟨⟨⟨l5,e5⟩,z,xv⟩,h5⟩:=Ex (Val.readValue ⟨l1,e1⟩);have b5:=Val.readValue_le ⟨l1,e1⟩;rw[h5]at b5;dsimp only at b1 b5;have c1:=az9 h1 (by omega);have c5:=ayc h5 (by omega);simp only[h1,h5]at hit;by_cases hz:z=0
 rotate_left
 ·have z1:(z !=0)=true:=by simp[hz]
  rw[if_neg hz,cqk]at c5;rw[if_pos hz]at hit;injection hit with q1 q2;injection q1 with q0 q1;injection q2 with q2 q3;subst q0;subst q1;subst q2;subst q3;refine azj (ai ht (ai hlt (ai he' z1))) (ai c1 (ai c5 ti)) ?_;exact⟨_,dzz _ (y:=.sl 7 .no []) _ ⟨rfl,.inr rfl,.inl rfl⟩,rfl⟩
 subst hz;rw[if_pos rfl]at c5;rw[if_neg (show¬((0:Int)≠0) by decide)]at hit;obtain⟨vk,vn,vs,vi,vy⟩:=xv;simp only[V.A,V.cells]at c5;obtain⟨⟨⟨l7,e7⟩,x7,o7⟩,h7⟩:=Ex (Sf.flagQ ⟨l5,e5⟩);have b7:=avl ⟨l5,e5⟩;rw[h7]at b7;dsimp only at b7;have c7:=awq h7 (by omega);simp only[h7]at hit;cases o7 with
 |false=>
  rw[if_pos rfl]at hit;injection hit with q1 q2;injection q1 with q0 q1;injection q2 with q2 q3;subst q0;subst q1;subst q2;subst q3;refine azj (ai ht (ai hlt (ai he' (ai @ckg (ai @cv1 (ai @ckm @ckd)))))) (ai c1 (ai c5 (ai c7 ti))) ?_;exact⟨_,dzz _ (y:=.sl 7 .no []) _ ⟨rfl,.inr rfl,.inl rfl⟩,rfl⟩
 |true=>
  rw[if_neg (by decide)]at hit;obtain⟨W',o',t',hX,gX',_⟩:=gX.grow 104 (Sf.Outp.cells ⟨x1,.mk vk vn vs vi vy,x7⟩) (by rw[Zj];omega) (by decide);have em:os.map Sf.Outp.cells++[Sf.Outp.cells ⟨x1,.mk vk vn vs vi vy,x7⟩]=(os++[(⟨x1,.mk vk vn vs vi vy,x7⟩:Sf.Outp)]).map Sf.Outp.cells:=by simp
  rw[em]at gX';simp only[em]at hX;obtain⟨os2,hos⟩:=Ex (os++[(⟨x1,.mk vk vn vs vi vy,x7⟩:Sf.Outp)]);have hol:os2.length=j+1:=by rw[←hos];simp[hdl]
  rw[hos]at gX' hX hit;simp only[Sf.Outp.cells,V.cells,Zo,Zk]at hX;clear hos em;refine azj (ai ht (ai hlt (ai he' (ai hX (ai ei (ai @ckg (ai @cv1 (ai @ckm @ckd)))))))) (ai c1 (ai c5 (ai c7 ti))) ?_;exact⟨c-(j+1),by omega,j+1,l7,e7,os2,W',o',_,t',rfl,by omega,rfl,hit,hol,by omega,gX',by(exact azq (ai ht ei))⟩
end AX
end
end Go.Proofs.YtdgcbckcameggacGreatDoor
