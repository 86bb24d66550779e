/- Part of what the proof needs. -/
import Derived.Test.YtdgcbckcameggaaGreatDoorMFrStatefileReadsA
import Derived.Test.YtdgcbckcameggaaGreatDoorMFrStatefileReadsH
import Derived.Test.YtdgcbckcameggaaGreatDoorMFrStatefileReadsK
import Derived.Test.YtdgcbckcameggaaGreatDoorMFrStatefileReadsM
import Derived.Test.YtdgcbckcameggaaGreatDoorMFrStatefileReadsN
import Derived.Test.YtdgcbckcameggaaGreatDoorMFrStatefileReadsO
import Derived.Lib.ParseIntB
import Derived.Test.YtdgcbckcameggaaGreatDoorShelfP
import Derived.Laws.RangeAny
import Derived.Laws.Runes
import Derived.Lib.OthersKept
import Derived.Deep.LoopGhost
import Derived.BigRegion
import Derived.Below
import Derived.BigQuiet
import Derived.Deep.QuietTactic
import Derived.WalkMore
import Derived.IntWalk
set_option maxHeartbeats 4000000
set_option linter.unusedSimpArgs false
set_option linter.unusedVariables false
set_option linter.unnecessarySimpa false
namespace Go.Proofs.YtdgcbckcameggaaGreatDoor
open Go.RowKit
namespace AX
theorem zin_cells:Sf.Inst.cells Sf.zeroIn=[.str [],.str [],.str [],.str [],.int .i64 0,.int .i64 0,.str [],.sl 5 .no [],.sl 1 .no [],.int .i64 0,.bool false,.bool false,.sl 1 .no []]:=by
 unfold Sf.zeroIn Sf.Inst.cells
 simp [V.cellss,strsA]
theorem zin_le:leL [.str [],.str [],.str [],.str [],.int .i64 0,.int .i64 0,.str [],.sl 0 .nil [],.sl 0 .nil [],.int .i64 0,.bool false,.bool false,.sl 0 .nil []] (Sf.Inst.cells Sf.zeroIn):=by
 rw [zin_cells]
 exact ⟨le1_refl _,le1_refl _,le1_refl _,le1_refl _,le1_refl _,le1_refl _,le1_refl _,⟨rfl,.inr rfl,.inl rfl⟩,⟨rfl,.inr rfl,.inl rfl⟩,le1_refl _,le1_refl _,le1_refl _,⟨rfl,.inr rfl,.inl rfl⟩,trivial⟩
theorem le_zin (l:List UInt8) (e:Int):le (.tup [.agg [.str l,.int .i64 e],.agg [.str [],.str [],.str [],.str [],.int .i64 0,.int .i64 0,.str [],.sl 0 .nil [],.sl 0 .nil [],.int .i64 0,.bool false,.bool false,.sl 0 .nil []],.bool false]) (.tup [.agg [.str l,.int .i64 e],.agg (Sf.Inst.cells Sf.zeroIn),.bool false]):=⟨le2_refl _,zin_le,le2_refl _,trivial⟩
theorem q_pure (l:List UInt8) (e:Int) (x:Sf.Inst) (b:Bool):(A.tup [.agg [.str l,.int .i64 e],.agg (Sf.Inst.cells x),.bool b]).pure=true:=by
 obtain ⟨a1,a2,a3,a4,⟨k,nn,ss,is,ks⟩,v,tn,fi,ds⟩:=x
 simp [A.pure,A.data,Sf.Inst.cells]
theorem zeroV_A:Val.zeroV.A = .agg [.int .i64 0,.int .i64 0,.str [],.sl 5 .no [],.sl 1 .no []]:=by simp [V.A,V.cells,Val.zeroV,V.cellss,strsA]
theorem a_q32value {l l':List UInt8} {e e' z:Int} {v:V} (hr:Val.readValue ⟨l,e⟩=(⟨l',e'⟩,z,v)) (hl:l.length≤100000000) (h:Hp) :
  ACall Tryz.prog GT 78 [.agg [.str l,.int .i64 e]] h fun r h'=>r = .tup [.agg [.str l',.int .i64 e'],(if z=0 then v else Val.zeroV).A,.int .i64 z]∧h'=h:=by
 have:=a_rReadValue ⟨l,e⟩ hl h
 rw [hr] at this; exact this
theorem flagQ_rest (r:Wire.St):(Sf.flagQ r).1.rest.length≤r.rest.length:=Wire.numR_rest r
theorem a_q32inst (ver:Int) {l qr:List UInt8} {e qe:Int} {qx:Sf.Inst} {qb:Bool} (hq:Sf.instQ ver ⟨l,e⟩=(⟨qr,qe⟩,qx,qb)) (hl:l.length≤100000000) (h:Hp) :
  ACall Tryz.prog GT 55 [.agg [.str l,.int .i64 e],.int .i64 ver] h fun v h'=>v = .tup [.agg [.str qr,.int .i64 qe],.agg (Sf.Inst.cells qx),.bool qb]∧h'=h:=by
 refine pcall ?_ (q_pure _ _ _ _) (by simp [A.pure,A.data]) h
 refine fo ?_
 obtain ⟨⟨⟨l1,e1⟩,x1⟩,h1⟩:∃ q,Wire.strR ⟨l,e⟩=q:=⟨_,rfl⟩
 have b1:=Wire.strR_rest ⟨l,e⟩
 rw [h1] at b1
 obtain ⟨⟨⟨l2,e2⟩,x2⟩,h2⟩:∃ q,Wire.strR ⟨l1,e1⟩=q:=⟨_,rfl⟩
 have b2:=Wire.strR_rest ⟨l1,e1⟩
 rw [h2] at b2
 obtain ⟨⟨⟨l3,e3⟩,x3⟩,h3⟩:∃ q,Wire.strR ⟨l2,e2⟩=q:=⟨_,rfl⟩
 have b3:=Wire.strR_rest ⟨l2,e2⟩
 rw [h3] at b3
 obtain ⟨⟨⟨l4,e4⟩,x4⟩,h4⟩:∃ q,Wire.strR ⟨l3,e3⟩=q:=⟨_,rfl⟩
 have b4:=Wire.strR_rest ⟨l3,e3⟩
 rw [h4] at b4
 obtain ⟨⟨⟨l5,e5⟩,z,xv⟩,h5⟩:∃ q,Val.readValue ⟨l4,e4⟩=q:=⟨_,rfl⟩
 have b5:=Val.readValue_le ⟨l4,e4⟩
 rw [h5] at b5
 dsimp only at b1 b2 b3 b4 b5
 have c1:=a_q4str h1 hl
 have c2:=a_q4str h2 (by omega)
 have c3:=a_q4str h3 (by omega)
 have c4:=a_q4str h4 (by omega)
 have c5:=a_q32value h5 (by omega)
 unfold Sf.instQ at hq
 simp only [h1,h2,h3,h4,h5] at hq
 by_cases hz:z=0
 rotate_left
 ·have z1:(z != 0)=true:=by simp [hz]
  rw [if_neg hz,zeroV_A] at c5
  rw [if_pos hz] at hq
  injection hq with q1 q2; injection q1 with q0 q1; injection q2 with q2 q3
  subst q0; subst q1; subst q2; subst q3
  refine runc0 z1 (ai c1 (ai c2 (ai c3 (ai c4 (ai c5 ti))))) ?_
  exact ⟨_,le_zin _ _,rfl⟩
 subst hz
 rw [if_pos rfl] at c5
 rw [if_neg (show ¬ ((0:Int)≠0) by decide)] at hq
 obtain ⟨vk,vn,vs,vi,vy⟩:=xv
 simp only [V.A,V.cells] at c5
 obtain ⟨⟨⟨l6,e6⟩,x6⟩,h6⟩:∃ q,Wire.numR ⟨l5,e5⟩=q:=⟨_,rfl⟩
 have b6:=Wire.numR_rest ⟨l5,e5⟩
 rw [h6] at b6
 obtain ⟨⟨⟨l7,e7⟩,x7,o7⟩,h7⟩:∃ q,Sf.flagQ ⟨l6,e6⟩=q:=⟨_,rfl⟩
 have b7:=flagQ_rest ⟨l6,e6⟩
 rw [h7] at b7
 dsimp only at b6 b7
 have c6:=a_q4num h6 (by omega)
 have c7:=a_q32flag h7 (by omega)
 simp only [h6,h7] at hq
 obtain ⟨⟨⟨l8,e8⟩,x8,o8⟩,h8⟩:∃ q,(if ver≥2∧o7=true then Sf.flagQ ⟨l7,e7⟩ else (⟨l7,e7⟩,false,o7))=q:=⟨_,rfl⟩
 rw [h8] at hq
 have b8:l8.length≤l7.length:=by
  have:=flagQ_rest ⟨l7,e7⟩
  split at h8
  ·rw [h8] at this; exact this
  ·injection h8 with h8 _; injection h8 with h8 _; rw [←h8]; exact Nat.le_refl _
 refine runx0 ti (ai c1 (ai c2 (ai c3 (ai c4 (ai c5 (ai c6 (ai c7 ti))))))) ?_
 refine awp_join (fun ts' h'=>h'=⟨[.cells 54 [.str l6,.int .i64 e6],.cells 54 [.str [],.int .i64 0],.cells 63 [.str [],.str [],.str [],.str [],.int .i64 0,.int .i64 0,.str [],.sl 0 .nil [],.sl 0 .nil [],.int .i64 0,.bool false,.bool false,.sl 0 .nil []],.cells 63 [.str x1,.str x2,.str x3,.str x4,.int .i64 vk,.int .i64 vn,.str vs,.sl 5 .no (V.cellss vi),.sl 1 .no (strsA vy),.int .i64 x6,.bool x7,.bool x8,.sl 0 .nil []],.cells 54 [.str l8,.int .i64 e8],.cells 42 [.int .i64 vk,.int .i64 vn,.str vs,.sl 5 .no (V.cellss vi),.sl 1 .no (strsA vy)]],[]⟩ ∧
  (ts' 2 = .ptr 0 0∧ts' 4 = .ptr 1 0∧ts' 5 = .ptr 2 0∧ts' 7 = .ptr 3 0∧ts' 8 = .ptr 4 0∧ts' 12 = .bool o8)) ?_ ?_
 ·by_cases hv:ver≥2
  ·cases o7 with
   | false =>
    rw [if_neg (fun h=>absurd h.2 (by decide))] at h8
    injection h8 with q1 q2; injection q1 with q0 q1; injection q2 with q2 q3
    subst q0; subst q1; subst q2; subst q3
    refine runx0 hv ti ?_
    exact ⟨rfl,by (exact inv0 ti)⟩
   | true =>
    rw [if_pos ⟨hv,rfl⟩] at h8
    have c8:=a_q32flag h8 (by omega)
    refine runx0 hv (ai c8 ti) ?_
    exact ⟨rfl,by (exact inv0 ti)⟩
  ·rw [if_neg (fun h=>hv h.1)] at h8
   injection h8 with q1 q2; injection q1 with q0 q1; injection q2 with q2 q3
   subst q0; subst q1; subst q2; subst q3
   refine runx0 hv ti ?_
   exact ⟨rfl,by (exact inv0 ti)⟩
 rintro ts' h' ⟨rfl,ht⟩
 clear c1 c2 c3 c4 c5 c6 c7 h1 h2 h3 h4 h5 h6 h7 h8
 cases o8 with
 | false =>
  rw [if_pos rfl] at hq
  injection hq with q1 q2; injection q1 with q0 q1; injection q2 with q2 q3
  subst q0; subst q1; subst q2; subst q3
  refine run0 ht ?_
  exact ⟨_,le_zin _ _,rfl⟩
 | true =>
 dsimp only at hq
 rw [if_neg (show ¬ (true=false) by decide)] at hq
 unfold Sf.depsQ at hq
 obtain ⟨⟨⟨l9,e9⟩,c⟩,h9⟩:∃ q,Wire.cntR ⟨l8,e8⟩ 1=q:=⟨_,rfl⟩
 have b9:=Wire.cntR_rest ⟨l8,e8⟩ 1
 have bk:=Wire.cntR_cnt ⟨l8,e8⟩
 rw [h9] at b9 bk
 dsimp only at b9 bk
 have c9:=a_q4cnt h9 (by omega)
 simp only [h9] at hq
 obtain ⟨⟨⟨lw,ew⟩,dw⟩,hw⟩:∃ q,Sf.wordsQ c ⟨l9,e9⟩ []=q:=⟨_,rfl⟩
 simp only [hw] at hq
 injection hq with q1 q2; injection q1 with q0 q1; injection q2 with q2 q3
 subst q0; subst q1; subst q2; subst q3
 refine runc0 ht (ai c9 ti) ?_
 refine awp_loop (fun mm ts h=>∃ (j:Nat) (lp:List UInt8) (ep:Int) (ds:List (List UInt8)) (W:Nat) (o:Own) (t:List (TypeId×Nat×Nat)),mm=c - j∧j≤c ∧
  h=⟨[.cells 54 [.str lp,.int .i64 ep],.cells 54 [.str [],.int .i64 0],.cells 63 [.str [],.str [],.str [],.str [],.int .i64 0,.int .i64 0,.str [],.sl 0 .nil [],.sl 0 .nil [],.int .i64 0,.bool false,.bool false,.sl 0 .nil []],.cells 63 [.str x1,.str x2,.str x3,.str x4,.int .i64 vk,.int .i64 vn,.str vs,.sl 5 .no (V.cellss vi),.sl 1 .no (strsA vy),.int .i64 x6,.bool x7,.bool x8,.sl W o (strsA ds)],.cells 54 [.str l8,.int .i64 e8],.cells 42 [.int .i64 vk,.int .i64 vn,.str vs,.sl 5 .no (V.cellss vi),.sl 1 .no (strsA vy)]],t⟩ ∧
  Sf.wordsQ (c - j) ⟨lp,ep⟩ ds=(⟨lw,ew⟩,dw)∧ds.length=j∧lp.length≤l9.length∧Gs 9 1 0 ⟨[],t⟩ (strsA ds) (.sl W o (strsA ds)) ∧
  (ts 2 = .ptr 0 0∧ts 4 = .ptr 1 0∧ts 5 = .ptr 2 0∧ts 7 = .ptr 3 0∧ts 13 = .int .i64 (c:Nat)∧ts 14 = .int .i64 (j:Nat))) c ?_ ?_
 ·exact ⟨0,l9,e9,[],0,.nil,[],by omega,by omega,rfl,hw,rfl,Nat.le_refl _,.inl ⟨rfl,rfl⟩,by (exact inv0 ht)⟩
 clear ht h9 c9 hw ts'
 rintro mm ts h ⟨j,lp,ep,ds,W,o,t,rfl,hjc,rfl,hit,hdl,hpl,gX,ht⟩
 have done:∀ (lf:List UInt8) (ef:Int) (ds':List (List UInt8)) (W:Nat) (o:Own) (b:Bool),Gs 9 1 0 ⟨[],t⟩ (strsA ds') (.sl W o (strsA ds'))→le (.tup [.agg [.str lf,.int .i64 ef],.agg [.str x1,.str x2,.str x3,.str x4,.int .i64 vk,.int .i64 vn,.str vs,.sl 5 .no (V.cellss vi),.sl 1 .no (strsA vy),.int .i64 x6,.bool x7,.bool x8,.sl W o (strsA ds')],.bool b]) (.tup [.agg [.str lf,.int .i64 ef],.agg (Sf.Inst.cells ⟨x1,x2,x3,x4,.mk vk vn vs vi vy,x6,x7,x8,ds'⟩),.bool b]):=
  fun lf ef ds' W o b g=>⟨le2_refl _,⟨le1_refl _,le1_refl _,le1_refl _,le1_refl _,le1_refl _,le1_refl _,le1_refl _,le1_refl _,le1_refl _,le1_refl _,le1_refl _,le1_refl _,Gs.le g,trivial⟩,le2_refl _,trivial⟩
 by_cases hj:j < c
 rotate_left
 ·have hlt:¬ ((j:Int) < (c:Int)):=by omega
  rw [show c - j=0 by omega,Sf.wordsQ] at hit
  injection hit with hit hit2
  injection hit with q0 q1
  subst q0; subst q1; subst hit2
  refine runx0 (ai ht hlt) ti ?_
  exact ⟨_,done _ _ _ _ _ _ gX,rfl⟩
 have hlt:(j:Int) < (c:Int):=by omega
 have ei:IntKind.i64.wrap ((j:Int)+1)=((j+1:Nat):Int):=by rw [wrap64 (by omega) (by omega)]; omega
 rw [show c - j=(c - (j+1))+1 by omega,Sf.wordsQ] at hit
 by_cases he:ep=0
 rotate_left
 ·have he':(ep == 0)=false:=by simp [he]
  rw [if_pos he] at hit
  injection hit with hit hit2
  injection hit with q0 q1
  subst q0; subst q1; subst hit2
  refine runx0 (ai ht (ai hlt he')) ti ?_
  exact ⟨_,done _ _ _ _ _ _ gX,by rw [he']⟩
 have he':(ep == 0)=true:=by simp [he]
 rw [if_neg (show ¬ (ep≠0) by simp [he])] at hit
 obtain ⟨⟨⟨l10,e10⟩,s⟩,h10⟩:∃ q,Wire.strR ⟨lp,ep⟩=q:=⟨_,rfl⟩
 have b10:=Wire.strR_rest ⟨lp,ep⟩
 rw [h10] at b10 hit
 dsimp only at b10 hit
 have c10:=a_q4str h10 (by omega)
 obtain ⟨W',o',t',hX,gX',_⟩:=gX.grow 16 [.str s] (by rw [strsA_length]; omega) (by decide)
 rw [←strsA_app] at gX'
 simp only [←strsA_app] at hX
 refine runc0 (ai ht (ai hlt (ai he' (ai hX ei)))) (ai c10 ti) ?_
 exact ⟨c - (j+1),by omega,j+1,l10,e10,ds++[s],W',o',t',rfl,by omega,rfl,hit,by simp [hdl],by omega,gX',by (exact inv0 (ai ht ei))⟩
end AX
end Go.Proofs.YtdgcbckcameggaaGreatDoor

namespace Go.Proofs.YtdgcbckcameggaaGreatDoor
open Go.Lib
namespace Num
def valA (n:Nat) (s:List UInt8):Nat:=s.foldl (fun n c=>10*n+(c.toNat - 48)) n
theorem valA_cons (n:Nat) (c:UInt8) (s:List UInt8):valA n (c::s)=valA (10*n+(c.toNat - 48)) s:=by unfold valA; rw [List.foldl_cons]
theorem val_valA (s:List UInt8):val s=valA 0 s:=rfl
theorem valA_ge:∀ (s:List UInt8) (n:Nat),n*10 ^ s.length≤valA n s
 | [],n=>by simp [valA]
 | c::s,n=>by
  rw [valA_cons,List.length_cons,Nat.pow_succ]
  refine Nat.le_trans ?_ (valA_ge s _)
  have e:n*(10 ^ s.length*10)=(10*n)*10 ^ s.length:=by
   rw [Nat.mul_comm (10 ^ s.length) 10,←Nat.mul_assoc,Nat.mul_comm n 10]
  rw [e]
  exact Nat.mul_le_mul_right _ (by omega)
theorem valA_le (s:List UInt8) (n:Nat):n≤valA n s:=by
 have h:=valA_ge s n
 have h1:1≤10 ^ s.length:=Nat.one_le_pow _ _ (by omega)
 exact Nat.le_trans (by simpa using Nat.mul_le_mul_left n h1) h
theorem digB_iff (c:UInt8):digB c=true↔48≤c.toNat∧c.toNat≤57:=by simp [digB]
theorem uintM_digits:∀ (l:List UInt8) (acc:Nat),l.all digB=true→parseUintM 18446744073709551615 acc l=if valA acc l≤18446744073709551615 then .ok (valA acc l) else if l=[] then .ok acc else .range
 | [],acc,_=>by simp [parseUintM,valA]
 | c::r,acc,h=>by
  rw [List.all_cons,Bool.and_eq_true,digB_iff] at h
  have h1:=valA_le r (10*acc+(c.toNat - 48))
  rw [valA_cons]
  unfold parseUintM
  rw [if_pos h.1]
  split
  ·rw [if_neg (by omega),if_neg (by simp)]
  ·split
   ·rw [if_neg (by omega),if_neg (by simp)]
   ·rw [uintM_digits r _ h.2,Nat.mul_comm acc 10]
    by_cases hv:valA (10*acc+(c.toNat - 48)) r≤18446744073709551615
    ·rw [if_pos hv,if_pos hv]
    ·rw [if_neg hv,if_neg hv,if_neg (show ¬ (c::r=[]) by simp)]
     cases r with
     | nil =>
      exfalso
      apply hv
      unfold valA
      rw [List.foldl_nil]
      omega
     | cons d q=>rw [if_neg (by simp)]
def body (s:List UInt8):List UInt8:=if s.getD 0 0 == 45 then s.drop 1 else s
def canonB (s:List UInt8):Bool:=digits (body s)&&!(s.getD 0 0 == 45&&body s == [48])
theorem digits_long {t:List UInt8} (h:digits t=true) (hl:16 < t.length):9007199254740992 < val t:=by
 cases t with
 | nil=>simp at hl
 | cons c r =>
  unfold digits at h
  rw [Bool.and_eq_true,Bool.or_eq_true,beq_iff_eq,Bool.and_eq_true,List.all_cons,Bool.and_eq_true,digB_iff] at h
  obtain ⟨⟨h1,h2⟩,h3⟩:=h
  rcases h3 with h3 | h3
  ·injection h3 with _ h3; subst h3; simp at hl
  ·have h4:c≠48:=by simpa using h3.2
   have h5:c.toNat≠48:=fun e=>h4 (UInt8.toNat_inj.1 (by simpa using e))
   have h6:=valA_ge r (c.toNat - 48)
   have h7:10 ^ 16≤10 ^ r.length:=Nat.pow_le_pow_right (by omega) (by simp at hl; omega)
   have h8:1*10 ^ r.length≤(c.toNat - 48)*10 ^ r.length:=Nat.mul_le_mul_right _ (by omega)
   have e:val (c::r)=valA (c.toNat - 48) r:=by rw [val_valA,valA_cons]; simp
   rw [e]
   have h9:(10:Nat) ^ 16=10000000000000000:=by decide
   omega
theorem parse_form (s:List UInt8):parse s=if canonB s=false then (0,2) else if 9007199254740992 < val (body s) then (0,5) else (if s.getD 0 0 == 45 then -(val (body s):Int) else (val (body s):Int),0):=by
 have e:parse s=if (!digits (body s)||(s.getD 0 0 == 45&&body s == [48]))=true then (0,2) else if 16 < (body s).length then (0,5) else if 9007199254740992 < val (body s) then (0,5) else (if s.getD 0 0 == 45 then -(val (body s):Int) else (val (body s):Int),0):=rfl
 rw [e]
 unfold canonB
 cases hd:digits (body s)
 ·simp
 ·cases hm:(s.getD 0 0 == 45&&body s == [48])
  ·simp only [Bool.not_true,Bool.or_false,Bool.false_eq_true,if_false,Bool.not_false,Bool.and_self,Bool.true_eq_false]
   split
   ·next hl=>rw [if_pos (digits_long hd hl)]
   ·rfl
  ·simp
theorem parseIntB_canon (s:List UInt8) (h:canonB s=true) :
  (val (body s)≤9007199254740992∧parseIntB 64 s = .ok (if s.getD 0 0 == 45 then -(val (body s):Int) else (val (body s):Int))) ∨
  (9007199254740992 < val (body s)∧(parseIntB 64 s = .range∨∃ v,parseIntB 64 s = .ok v∧¬ (-9007199254740992≤v∧v≤9007199254740992))):=by
 unfold canonB at h
 rw [Bool.and_eq_true] at h
 obtain ⟨hd,_⟩:=h
 cases s with
 | nil=>simp [body,digits] at hd
 | cons c r =>
  have hne:body (c::r)≠[]:=by
   intro e
   rw [e] at hd
   simp [digits] at hd
  have hall:(body (c::r)).all digB=true:=by
   unfold digits at hd
   rw [Bool.and_eq_true] at hd
   exact hd.1
  have hneg:((c::r).getD 0 0 == 45)=decide (c.toNat=45):=by
   show (c == 45)=_
   rw [Bool.eq_iff_iff,beq_iff_eq,decide_eq_true_eq]
   exact ⟨fun e=>by rw [e]; rfl,fun e=>UInt8.toNat_inj.1 (by simpa using e)⟩
  have h43:c.toNat≠43:=by
   intro e
   have e2:((c::r).getD 0 0 == 45)=false:=by rw [hneg]; simp [e]
   unfold body at hall
   rw [e2] at hall
   simp only [Bool.false_eq_true,if_false,List.all_cons,Bool.and_eq_true,digB_iff] at hall
   omega
  have hb:(if c.toNat=43∨c.toNat=45 then r else c::r)=body (c::r):=by
   unfold body
   rw [hneg]
   by_cases e:c.toNat=45
   ·simp [e]
   ·simp [e,h43]
  have hu:parseUintB 64 (body (c::r))=if val (body (c::r))≤18446744073709551615 then .ok (val (body (c::r))) else .range:=by
   unfold parseUintB
   rw [if_neg hne]
   have:=uintM_digits _ 0 hall
   rw [if_neg hne,←val_valA] at this
   exact this
  have hp:parseIntB 64 (c::r)=match parseUintB 64 (body (c::r)) with
    | NumEnd.syntax=>NumEnd.syntax
    | .range => .range
    | .ok u=>if ¬ c.toNat=45∧2 ^ (64 - 1)≤u then .range else if c.toNat=45∧2 ^ (64 - 1) < u then .range else .ok (if c.toNat=45 then -(u:Int) else u):=by
   rw [←hb]; rfl
  rw [hp,hu,hneg]
  have e63:2 ^ (64 - 1)=9223372036854775808:=by decide
  rw [e63]
  generalize val (body (c::r))=u
  by_cases hm:u≤9007199254740992
  ·refine .inl ⟨hm,?_⟩
   rw [if_pos (by omega)]
   dsimp only
   rw [if_neg (by omega),if_neg (by omega)]
   simp
  ·refine .inr ⟨by omega,?_⟩
   by_cases h64:u≤18446744073709551615
   ·rw [if_pos h64]
    dsimp only
    split
    ·exact .inl rfl
    ·split
     ·exact .inl rfl
     ·refine .inr ⟨_,rfl,?_⟩
      split <;> omega
   ·rw [if_neg h64]
    exact .inl rfl
end Num
end Go.Proofs.YtdgcbckcameggaaGreatDoor

namespace Go.Proofs.YtdgcbckcameggaaGreatDoor
open Go.RowKit
open Go.Op (bytesLess)
namespace Num
theorem digB_int (c:UInt8):digB c=(decide (48≤(c.toNat:Int))&&decide ((c.toNat:Int)≤57)):=by
 unfold digB
 have e1:decide (48≤c.toNat)=decide (48≤(c.toNat:Int)):=decide_eq_decide.2 (by omega)
 have e2:decide (c.toNat≤57)=decide ((c.toNat:Int)≤57):=decide_eq_decide.2 (by omega)
 rw [e1,e2]
theorem all_fail {s:List UInt8} {j:Nat} (hj:j < s.length) (h:digB (s.getD j 0)=false):digits s=false:=by
 have:s.all digB=false:=by
  rw [List.all_eq_false]
  refine ⟨s[j],List.getElem_mem hj,?_⟩
  have e:s.getD j 0=s[j]:=by simp [List.getD,hj]
  rw [e] at h; rw [h]; decide
 unfold digits
 rw [this]; rfl
theorem all_end {s:List UInt8} (h:∀ k,k < s.length→digB (s.getD k 0)=true):digits s=(s != []&&(s.getD 0 0 != 48||s.length == 1)):=by
 have h1:s.all digB=true:=by
  rw [List.all_eq_true]
  intro x hx
  obtain ⟨j,hj,rfl⟩:=List.getElem_of_mem hx
  have:=h j hj
  have e:s.getD j 0=s[j]:=by simp [List.getD,hj]
  rwa [e] at this
 unfold digits
 rw [h1,Bool.true_and]
 match s with
 | []=>rfl
 | [c] =>
  by_cases e:c=48
  ·subst e; rfl
  ·have e1:(c == 48)=false:=by simp [e]
   have e2:([c] == [48])=false:=by simp [e]
   have e3:(c != 48)=true:=by simp [e]
   show ([c] == [48]||([c] != []&&c != 48))=([c] != []&&(c != 48||([c].length == 1)))
   rw [e2,e3]; rfl
 | c::d::r=>simp
end Num
namespace AX
def c_canon:AX.AFn:=⟨44,aS [aR 2 (.mv (.c (.bool false)))] (.seq (aS [aM 4 0,aR 5 (.len true (.t 4)),aR 6 (.bin .gtr (.t 5) (aI 0)),aM 7 6,aG 8 (.mv (.t 0)) 7 true,aG 9 (.sidx (.t 8) (aI 0)) 7 true,aG 10 (.bin .eql (.t 9) (.c (.int .u8 45))) 7 true,aR 11 (.pick (.t 7) (.t 10) (.c (.bool false)))] (.cond (.t 11) (aS [aM 12 0,aR 13 (.ssl (.t 12) (some (aI 1)) none),aM 0 13] (aS [aM 14 0,aR 15 (.bin .eql (.t 14) (.c (.str [48])))] (.cond (.t 15) (aS [aR 2 (.mv (.c (.bool false)))] (.ret)) (.skip)))) (.skip))) (.seq (aS [aM 16 0,aR 17 (.len true (.t 16)),aR 18 (.mv (aI 0))] (.block 0 (.loop (aS [aR 19 (.bin .lss (.t 18) (.t 17))] (.seq (.cond (.t 19) (.skip) (.exit 0)) (.seq (.block 1 (aS [aM 20 18,aM 3 20] (aS [aM 21 0,aM 22 3,aR 23 (.sidx (.t 21) (.t 22)),aR 24 (.bin .lss (.t 23) (.c (.int .u8 48))),aM 25 24,aG 26 (.mv (.t 0)) 25 false,aG 27 (.mv (.t 3)) 25 false,aG 28 (.sidx (.t 26) (.t 27)) 25 false,aG 29 (.bin .gtr (.t 28) (.c (.int .u8 57))) 25 false,aR 30 (.pick (.t 25) (.c (.bool true)) (.t 29))] (.cond (.t 30) (aS [aR 2 (.mv (.c (.bool false)))] (.ret)) (.skip))))) (.reg false [aR 31 (.bin .add (.t 18) (aI 1)),aM 18 31]))))))) (aS [aM 32 0,aR 33 (.bin .neq (.t 32) (.c (.str []))),aM 34 33,aG 35 (.mv (.t 0)) 34 true,aG 36 (.sidx (.t 35) (aI 0)) 34 true,aG 37 (.bin .neq (.t 36) (.c (.int .u8 48))) 34 true,aG 38 (.mv (.t 37)) 34 true,aG 39 (.mv (.t 0)) 38 false,aG 40 (.len true (.t 39)) 38 false,aG 41 (.bin .eql (.t 40) (aI 1)) 38 false,aG 42 (.pick (.t 38) (.c (.bool true)) (.t 41)) 34 true,aR 43 (.pick (.t 34) (.t 42) (.c (.bool false))),aM 2 43] (.ret)))),[.t 2]⟩
theorem h_canon:AX.compFn Tryz.prog 116=some c_canon:=by kernel_rfl
theorem u8_beq (c:UInt8) (n:UInt8):((c.toNat:Int) == (n.toNat:Int))=(c == n):=by
 rw [Bool.eq_iff_iff,beq_iff_eq,beq_iff_eq]
 exact ⟨fun e=>UInt8.toNat_inj.1 (by omega),fun e=>by rw [e]⟩
theorem calls_bool {P:Program} {G:World→Prop} {f:FuncId} {args:List A} {vs:List Value} {w:World} {b:Bool} (hc:ACall P G f args ⟨[],[]⟩ fun v _=>v = .bool b) (hG:∀ w':World,(∀ g,g < w.heap.size→w'.heap[g]?=w.heap[g]?)→G w')
  (ha:RepL (Ctx.of w) args vs):Calls P f vs.toArray w fun e w'=>e = .returned (.bool b)∧Below w.heap.size w w':=by
 refine (hc (Ctx.of w) vs (inv_of hG) ha).mono ?_
 rintro e w' ⟨C',h',v,cv,rfl,rfl,_,st,hr,rfl⟩
 rw [rep_bool] at hr; subst hr
 exact ⟨rfl,st.os,st.tape,st.output,st.size,fun g hg=>st.frame g hg rfl fun t ht=>by simp [Ctx.of] at ht⟩
theorem a_canon (s:List UInt8) (hl:s.length≤2000000) (h:Hp):ACall Tryz.prog GT 116 [.str s] h fun r h'=>r = .bool (Num.canonB s)∧h'=h:=by
 refine pcall ?_ rfl (by simp [A.pure,A.data]) h
 refine acall_of mixedT h_canon (by simp [c_canon]) ?_
 dsimp only [c_canon]
 obtain ⟨R,hR⟩:∃ R,Num.canonB s=R:=⟨_,rfl⟩
 rw [hR]
 unfold Num.canonB Num.body at hR
 by_cases hn:s=[]
 ·subst hn
  have e0:¬ ((0:Nat):Int) > 0:=by decide
  have e1:¬ (0:Int) < ((0:Nat):Int):=by decide
  have hR':R=false:=by rw [←hR]; rfl
  subst hR'
  refine run0 e0 ?_
  refine go_once ?_
  refine run0 e1 ?_
  exact ⟨_,le_refl _,rfl⟩
 have hpos:(s.length:Int) > 0:=by
  have:=List.length_pos_iff.2 hn; omega
 have h0:(0:Int) < (s.length:Int):=hpos
 obtain ⟨c,hc⟩:∃ c,s.getD 0 0=c:=⟨_,rfl⟩
 rw [hc] at hR
 have e45:((c.toNat:Int) == 45)=(c == 45):=u8_beq c 45
 have hbody:∃ t:List UInt8,t=(if c == 45 then s.drop 1 else s):=⟨_,rfl⟩
 obtain ⟨t,ht⟩:=hbody
 rw [←ht] at hR
 have htl:t.length≤2000000:=by
  rw [ht]; split
  ·rw [List.length_drop]; omega
  ·exact hl
 have hgr:∀ j:Nat,t.getD j 0=t.getD j 0:=fun _=>rfl
 have h1le:(1:Int)≤(s.length:Int):=by omega
 have z1:(0:Int)≤1:=by decide
 have n1:(1:Int).toNat=1:=rfl
 have n0:(0:Int).toNat=0:=rfl
 have key:∀ {G:Prop},((c == 45)=true→t=s.drop 1→G)→((c == 45)=false→t=s→G)→G:=fun p q=>by
  cases e:c == 45
  ·exact q e (by rw [ht,e]; rfl)
  ·exact p e (by rw [ht,e]; rfl)
 refine key (fun m1 m2=>?_) (fun m1 m2=>?_)
 ·rw [m1,Bool.true_and] at hR
  have m3:s.drop 1=t:=m2.symm
  have e10:((c.toNat:Int) == 45)=true:=by rw [e45,m1]
  cases h48:t == [48]
  rotate_left
  ·rw [h48] at hR
   have hR':R=false:=by rw [←hR,Bool.not_true,Bool.and_false]
   subst hR'
   refine run0 (ai hpos (ai h0 (ai n0 (ai hc (ai e10 (ai h1le (ai z1 (ai n1 (ai m3 h48))))))))) ?_
   exact ⟨_,le_refl _,rfl⟩
  rw [h48,Bool.not_false,Bool.and_true] at hR
  refine run0 (ai hpos (ai h0 (ai n0 (ai hc (ai e10 (ai h1le (ai z1 (ai n1 (ai m3 h48))))))))) ?_
  refine awp_loop (fun mm ts h=>∃ (j:Nat),mm=t.length - j∧j≤t.length∧h=⟨[],[]⟩∧(∀ k,k < j→Num.digB (t.getD k 0)=true)∧ts 0 = .str t∧ts 17 = .int .i64 (t.length:Nat)∧ts 18 = .int .i64 (j:Nat)) t.length ?_ ?_
  ·exact ⟨0,by omega,by omega,rfl,fun k hk=>absurd hk (Nat.not_lt_zero k),by (exact ev0 m3),by (exact ev0 m3),by (exact inv0 ti)⟩
  rintro mm ts h ⟨j,rfl,hjc,rfl,hok,t0,t17,t18⟩
  by_cases hj:j < t.length
  ·have hlt:(j:Int) < (t.length:Int):=by omega
   have hj0:(0:Int)≤(j:Int):=by omega
   have ei:IntKind.i64.wrap ((j:Int)+1)=((j+1:Nat):Int):=by rw [wrap64 (by omega) (by omega)]; omega
   obtain ⟨b,hb⟩:∃ b,t.getD j 0=b:=⟨_,rfl⟩
   have hdg:=Num.digB_int b
   obtain ⟨x,hx⟩:∃ x:Int,(b.toNat:Int)=x:=⟨_,rfl⟩
   rw [hx] at hdg
   by_cases x1:x < 48
   ·have hR':R=false:=by rw [←hR]; exact Num.all_fail hj (by rw [hb,hdg,decide_eq_false (by omega)]; rfl)
    subst hR'
    refine run0 (ai t0 (ai t17 (ai t18 (ai hlt (ai hj0 (ai hb (ai hx x1))))))) ?_
    exact ⟨_,le_refl _,rfl⟩
   by_cases x2:x > 57
   ·have hR':R=false:=by rw [←hR]; exact Num.all_fail hj (by rw [hb,hdg,decide_eq_true (show 48≤x by omega),decide_eq_false (by omega)]; rfl)
    subst hR'
    refine run0 (ai t0 (ai t17 (ai t18 (ai hlt (ai hj0 (ai hb (ai hx (ai x1 x2)))))))) ?_
    exact ⟨_,le_refl _,rfl⟩
   ·refine run0 (ai t0 (ai t17 (ai t18 (ai hlt (ai hj0 (ai hb (ai hx (ai x1 (ai x2 ei))))))))) ?_
    refine ⟨t.length - (j+1),by omega,j+1,rfl,by omega,rfl,fun k hk=>?_,by (exact ev0 t0),by (exact ev0 t17),by (exact ev0 ei)⟩
    by_cases e:k=j
    ·rw [e,hb,hdg,decide_eq_true (show 48≤x by omega),decide_eq_true (show x≤57 by omega)]; rfl
    ·exact hok k (by omega)
  ·have hlt:¬ ((j:Int) < (t.length:Int)):=by omega
   have hje:j=t.length:=by omega
   rw [hje] at hok
   have hE:=Num.all_end hok
   rw [hR] at hE
   cases hnt:t != []
   ·rw [hnt,Bool.false_and] at hE
    subst hE
    refine run0 (ai t0 (ai t17 (ai t18 (ai hlt hnt)))) ?_
    exact ⟨_,le_refl _,rfl⟩
   rw [hnt,Bool.true_and] at hE
   have hp2:(0:Int) < (t.length:Int):=by
    have:t≠[]:=by simpa using hnt
    have:=List.length_pos_iff.2 this; omega
   obtain ⟨b,hb⟩:∃ b,t.getD 0 0=b:=⟨_,rfl⟩
   rw [hb] at hE
   have e48:((b.toNat:Int) != 48)=(b != 48):=congrArg (!·) (u8_beq b 48)
   cases hb48:b != 48
   ·rw [hb48,Bool.false_or] at hE
    rw [hb48] at e48
    have el:((t.length:Int) == 1)=(t.length == 1):=by
     rw [Bool.eq_iff_iff,beq_iff_eq,beq_iff_eq]; omega
    rw [←hE] at el
    refine run0 (ai t0 (ai t17 (ai t18 (ai hlt (ai hnt (ai hp2 (ai n0 (ai hb (ai e48 el))))))))) ?_
    exact ⟨_,le_refl _,rfl⟩
   ·rw [hb48,Bool.true_or] at hE
    subst hE
    rw [hb48] at e48
    refine run0 (ai t0 (ai t17 (ai t18 (ai hlt (ai hnt (ai hp2 (ai n0 (ai hb e48)))))))) ?_
    exact ⟨_,le_refl _,rfl⟩
 ·have e10:((c.toNat:Int) == 45)=false:=by rw [e45,m1]
  rw [m1,Bool.false_and,Bool.not_false,Bool.and_true] at hR
  have m3:s=t:=m2.symm
  refine run0 (ai hpos (ai h0 (ai n0 (ai hc e10)))) ?_
  refine awp_loop (fun mm ts h=>∃ (j:Nat),mm=t.length - j∧j≤t.length∧h=⟨[],[]⟩∧(∀ k,k < j→Num.digB (t.getD k 0)=true)∧ts 0 = .str t∧ts 17 = .int .i64 (t.length:Nat)∧ts 18 = .int .i64 (j:Nat)) t.length ?_ ?_
  ·exact ⟨0,by omega,by omega,rfl,fun k hk=>absurd hk (Nat.not_lt_zero k),by (exact ev0 m3),by (exact ev0 m3),by (exact inv0 ti)⟩
  rintro mm ts h ⟨j,rfl,hjc,rfl,hok,t0,t17,t18⟩
  by_cases hj:j < t.length
  ·have hlt:(j:Int) < (t.length:Int):=by omega
   have hj0:(0:Int)≤(j:Int):=by omega
   have ei:IntKind.i64.wrap ((j:Int)+1)=((j+1:Nat):Int):=by rw [wrap64 (by omega) (by omega)]; omega
   obtain ⟨b,hb⟩:∃ b,t.getD j 0=b:=⟨_,rfl⟩
   have hdg:=Num.digB_int b
   obtain ⟨x,hx⟩:∃ x:Int,(b.toNat:Int)=x:=⟨_,rfl⟩
   rw [hx] at hdg
   by_cases x1:x < 48
   ·have hR':R=false:=by rw [←hR]; exact Num.all_fail hj (by rw [hb,hdg,decide_eq_false (by omega)]; rfl)
    subst hR'
    refine run0 (ai t0 (ai t17 (ai t18 (ai hlt (ai hj0 (ai hb (ai hx x1))))))) ?_
    exact ⟨_,le_refl _,rfl⟩
   by_cases x2:x > 57
   ·have hR':R=false:=by rw [←hR]; exact Num.all_fail hj (by rw [hb,hdg,decide_eq_true (show 48≤x by omega),decide_eq_false (by omega)]; rfl)
    subst hR'
    refine run0 (ai t0 (ai t17 (ai t18 (ai hlt (ai hj0 (ai hb (ai hx (ai x1 x2)))))))) ?_
    exact ⟨_,le_refl _,rfl⟩
   ·refine run0 (ai t0 (ai t17 (ai t18 (ai hlt (ai hj0 (ai hb (ai hx (ai x1 (ai x2 ei))))))))) ?_
    refine ⟨t.length - (j+1),by omega,j+1,rfl,by omega,rfl,fun k hk=>?_,by (exact ev0 t0),by (exact ev0 t17),by (exact ev0 ei)⟩
    by_cases e:k=j
    ·rw [e,hb,hdg,decide_eq_true (show 48≤x by omega),decide_eq_true (show x≤57 by omega)]; rfl
    ·exact hok k (by omega)
  ·have hlt:¬ ((j:Int) < (t.length:Int)):=by omega
   have hje:j=t.length:=by omega
   rw [hje] at hok
   have hE:=Num.all_end hok
   rw [hR] at hE
   cases hnt:t != []
   ·rw [hnt,Bool.false_and] at hE
    subst hE
    refine run0 (ai t0 (ai t17 (ai t18 (ai hlt hnt)))) ?_
    exact ⟨_,le_refl _,rfl⟩
   rw [hnt,Bool.true_and] at hE
   have hp2:(0:Int) < (t.length:Int):=by
    have:t≠[]:=by simpa using hnt
    have:=List.length_pos_iff.2 this; omega
   obtain ⟨b,hb⟩:∃ b,t.getD 0 0=b:=⟨_,rfl⟩
   rw [hb] at hE
   have e48:((b.toNat:Int) != 48)=(b != 48):=congrArg (!·) (u8_beq b 48)
   cases hb48:b != 48
   ·rw [hb48,Bool.false_or] at hE
    rw [hb48] at e48
    have el:((t.length:Int) == 1)=(t.length == 1):=by
     rw [Bool.eq_iff_iff,beq_iff_eq,beq_iff_eq]; omega
    rw [←hE] at el
    refine run0 (ai t0 (ai t17 (ai t18 (ai hlt (ai hnt (ai hp2 (ai n0 (ai hb (ai e48 el))))))))) ?_
    exact ⟨_,le_refl _,rfl⟩
   ·rw [hb48,Bool.true_or] at hE
    subst hE
    rw [hb48] at e48
    refine run0 (ai t0 (ai t17 (ai t18 (ai hlt (ai hnt (ai hp2 (ai n0 (ai hb e48)))))))) ?_
    exact ⟨_,le_refl _,rfl⟩
end AX
theorem numParse_any (l:List UInt8) (hl:l.length≤2000000) (w:World) (g:GT w) :
  Calls Tryz.prog 91 #[.string ⟨l.toArray⟩] w fun e w'=>e = .returned (.tuple #[.int .i64 (Num.parse l).1,.int .i64 (Num.parse l).2])∧Below w.heap.size w w':=by
 have hc:=AX.calls_bool (w:=w) (vs:=[.string ⟨l.toArray⟩]) ((AX.a_canon l hl ⟨[],[]⟩).mono fun v h' hv=>hv.1) (AX.gt_keep g) (AX.repL_cons.2 ⟨_,_,rfl,AX.rep_str.2 rfl,AX.repL_nil.2 rfl⟩)
 have hf:=Num.parse_form l
 obtain ⟨P1,hP1⟩:∃ p,Num.parse l=p:=⟨_,rfl⟩
 rw [hP1] at hf ⊢
 cases hB:Num.canonB l
 ·rw [hB,if_pos rfl] at hf
  subst hf
  rw [hB] at hc
  go_enter Tryz.func91,Tryz.ntmps91
  go_wp2_with fail
  refine hc.mono ?_; rintro e w1 ⟨rfl,b1⟩
  have B1:=kept b1; clear b1
  go_wp2
  refine bodyPost_ret (v:=.tuple #[.int .i64 0,.int .i64 2]) (by simp [results,Tryz.results91,go_sem]) rfl ⟨rfl,B1.out⟩
 ·rw [hB,if_neg (by decide)] at hf
  rw [hB] at hc
  have hsz:(⟨l.toArray⟩:ByteArray).size≤9223372036854775806:=by rw [size_mk]; omega
  have hlim:(⟨l.toArray⟩:ByteArray).size≤281474976710656:=by rw [size_mk]; omega
  have hsyn:=g.esyn
  obtain ⟨ev,hev,hev2⟩:=g.erng
  have nilne:∀ (a b:Value),True:=fun _ _=>AX.ti
  rcases Num.parseIntB_canon l hB with ⟨h1,h2⟩ | ⟨h1,h2 | ⟨v,h2,h3⟩⟩
  ·rw [if_neg (by omega)] at hf
   obtain ⟨v,hv⟩:∃ v:Int,(if l.getD 0 0 == 45 then -(Num.val (Num.body l):Int) else (Num.val (Num.body l):Int))=v:=⟨_,rfl⟩
   rw [hv] at h2 hf
   have hvr:-9007199254740992≤v∧v≤9007199254740992:=by rw [←hv]; split <;> omega
   have hp:∀ w':World,Calls Tryz.prog 117 #[.string ⟨l.toArray⟩,.int .i64 10,.int .i64 64] w' fun e w2=>e = .returned (.tuple #[.int .i64 v,.nilIface])∧(w2=w'∨∃ t,w2=Lib.bytesWorld w' 5 t):=fun w'=>Any.strconv_ParseInt_10_at64_ok (P:=Tryz.prog) Tryz.lays174 ⟨l.toArray⟩ hsz v h2 w'
   have Hnv:=kept (fun w'=>numValid_any v w')
   rw [decide_eq_true hvr] at Hnv
   subst hf
   have Hp:=kept hp
   clear hp hsz hlim hsyn hev hev2 hvr hv h1 h2 hB
   go_enter Tryz.func91,Tryz.ntmps91
   go_wp2_with fail
   refine hc.mono ?_; rintro e w1 ⟨rfl,b1⟩
   have B1:=kept b1; clear b1
   go_wp2_with fail
   (with_reducible refine (Hp.out _).mono ?_); rintro e w2 ⟨rfl,hw⟩
   have B2:Kept (Below w.heap.size w w2):=kept (by
    rcases hw with rfl | ⟨t,rfl⟩
    ·exact B1.out
    ·exact bthen B1.out (Lib.bytesWorld_below _ _ _))
   clear hw
   go_wp2_with fail
   (with_reducible refine (Hnv.out _).mono ?_); rintro e w3 ⟨rfl,rfl⟩
   go_wp2
   refine bodyPost_ret (v:=.tuple #[.int .i64 v,.int .i64 0]) (by simp [results,Tryz.results91,go_sem]) rfl ⟨rfl,B2.out⟩
  ·rw [if_pos (by omega)] at hf
   have hp:∀ w':World,w'.cell? ⟨4,0,none⟩=some ev→Calls Tryz.prog 117 #[.string ⟨l.toArray⟩,.int .i64 10,.int .i64 64] w' fun e w2=>(∃ a b c,e = .returned (.tuple #[.int .i64 a,.iface b c]))∧Below w'.heap.size w' w2:=fun w' hv=>(Any.strconv_ParseInt_10_at64_range (P:=Tryz.prog) Tryz.lays174 ⟨l.toArray⟩ hlim h2 ev w' hv hev2).mono fun e w2 ⟨N,q1,q2,q3,q4⟩=>⟨⟨_,_,_,q1⟩,q4⟩
   subst hf
   have Hp:=kept hp
   have Hev:=kept hev
   clear hp hsz hlim hsyn hev hev2 h1 h2 hB
   go_enter Tryz.func91,Tryz.ntmps91
   go_wp2_with fail
   refine hc.mono ?_; rintro e w1 ⟨rfl,b1⟩
   have B1:=kept b1
   have Hev1:=kept (show w1.cell? ⟨4,0,none⟩=some ev from by rw [←Hev.out]; simp only [World.cell?,b1.block _ (cell_there Hev.out).2])
   clear b1
   go_wp2_with fail
   (with_reducible refine (Hp.out _ Hev1.out).mono ?_); rintro e w2 ⟨⟨a,b,c,rfl⟩,b2⟩
   have B2:Kept (Below w.heap.size w w2):=kept (bthen B1.out b2)
   clear b2
   go_wp2
   refine bodyPost_ret (v:=.tuple #[.int .i64 0,.int .i64 5]) (by simp [results,Tryz.results91,go_sem]) rfl ⟨rfl,B2.out⟩
  ·rw [if_pos (by omega)] at hf
   have hp:∀ w':World,Calls Tryz.prog 117 #[.string ⟨l.toArray⟩,.int .i64 10,.int .i64 64] w' fun e w2=>e = .returned (.tuple #[.int .i64 v,.nilIface])∧(w2=w'∨∃ t,w2=Lib.bytesWorld w' 5 t):=fun w'=>Any.strconv_ParseInt_10_at64_ok (P:=Tryz.prog) Tryz.lays174 ⟨l.toArray⟩ hsz v h2 w'
   have Hnv:=kept (fun w'=>numValid_any v w')
   rw [decide_eq_false h3] at Hnv
   subst hf
   have Hp:=kept hp
   clear hp hsz hlim hsyn hev hev2 h3 h1 h2 hB
   go_enter Tryz.func91,Tryz.ntmps91
   go_wp2_with fail
   refine hc.mono ?_; rintro e w1 ⟨rfl,b1⟩
   have B1:=kept b1; clear b1
   go_wp2_with fail
   (with_reducible refine (Hp.out _).mono ?_); rintro e w2 ⟨rfl,hw⟩
   have B2:Kept (Below w.heap.size w w2):=kept (by
    rcases hw with rfl | ⟨t,rfl⟩
    ·exact B1.out
    ·exact bthen B1.out (Lib.bytesWorld_below _ _ _))
   clear hw
   go_wp2_with fail
   (with_reducible refine (Hnv.out _).mono ?_); rintro e w3 ⟨rfl,rfl⟩
   go_wp2
   refine bodyPost_ret (v:=.tuple #[.int .i64 0,.int .i64 5]) (by simp [results,Tryz.results91,go_sem]) rfl ⟨rfl,B2.out⟩
theorem AX.a_numParse (s:List UInt8) (hl:s.length≤2000000) (h:AX.Hp):AX.ACall Tryz.prog GT 91 [.str s] h fun r h'=>r = .tup [.int .i64 (Num.parse s).1,.int .i64 (Num.parse s).2]∧h'=h:=
 AX.acall_imp (AX.args1 AX.r_str) (fun w hg=>numParse_any s hl w hg) (fun C=>AX.rep_tup.2 ⟨_,rfl,AX.repL_cons.2 ⟨_,_,rfl,AX.rep_int.2 rfl,AX.repL_cons.2 ⟨_,_,rfl,AX.rep_int.2 rfl,AX.repL_nil.2 rfl⟩⟩⟩) h
end Go.Proofs.YtdgcbckcameggaaGreatDoor

namespace Go.Proofs.YtdgcbckcameggaaGreatDoor
open Go.RowKit Go.Lib
def stops:ByteArray:=⟨#[46,91]⟩
theorem below_iter (w:World) (s:ByteArray) (p:Nat):Below w.heap.size w (w.iter s p):=by
 refine ⟨rfl,rfl,rfl,?_,fun g hg=>?_⟩
 ·show w.heap.size≤(w.heap.push (Obj.stringIter s p)).size
  simp
 ·show (w.heap.push (Obj.stringIter s p))[g]?=_
  rw [Array.getElem?_push,if_neg (by omega)]
set_option maxRecDepth 100000 in
theorem indexRune_err (w:World):Calls Tryz.prog 143 #[.string stops,.int .i32 65533] w fun e w'=>e = .returned (.int .i64 (-1))∧Below w.heap.size w w':=by
 go_enter Tryz.func143,Tryz.ntmps143
 have hsz:stops.size=2:=rfl
 go_wp2_with fail
 go_loopg [5,6] 2 (fun g _ _ wx=>∃ i:Nat,i+g=2∧wx=w.iter stops i)
 case atStart=>exact ⟨0,by omega,rfl⟩
 case round =>
  obtain ⟨i,hig,rfl⟩:=hrel
  cases gk with
  | zero =>
   obtain rfl:i=2:=by omega
   have hnx:=fun ty=>run_next_end (P:=Tryz.prog) w stops 2 ty (by decide)
   go_wp2
   go_ret
   exact ⟨rfl,below_iter w stops 2⟩
  | succ g =>
   have hi:i=0∨i=1:=by omega
   rcases hi with rfl | rfl
   ·have hnx:=fun ty=>run_next_ascii (P:=Tryz.prog) w stops 0 ty (by decide) (by decide)
    have e0:((stops[0]'(by decide)).toNat:Int)=46:=rfl
    rw [e0] at hnx
    go_wp2
    go_roundg g
    case measure=>omega
    case rel=>exact ⟨1,by omega,rfl⟩
   ·have hnx:=fun ty=>run_next_ascii (P:=Tryz.prog) w stops 1 ty (by decide) (by decide)
    have e0:((stops[1]'(by decide)).toNat:Int)=91:=rfl
    rw [e0] at hnx
    go_wp2
    go_roundg g
    case measure=>omega
    case rel=>exact ⟨2,by omega,rfl⟩
set_option maxRecDepth 100000 in
theorem indexRune_hi (r:Int) (h0:128≤r) (h1:r≤2147483647) (hr:r≠65533) (w:World):Calls Tryz.prog 143 #[.string stops,.int .i32 r] w fun e w'=>e = .returned (.int .i64 (-1))∧Below w.heap.size w w':=by
 go_enter Tryz.func143,Tryz.ntmps143
 have hsz:stops.size=2:=rfl
 have c1:decide (0≤r)=true:=decide_eq_true (by omega)
 have c2:decide (r < 128)=false:=decide_eq_false (by omega)
 have c3:(r == 65533)=false:=beq_eq_false_iff_ne.2 hr
 have Hv:=kept (fun w=>Tryz.utf8_ValidRune r w)
 cases hv:Lib.validRune r
 ·go_wp2_with fail
  (with_reducible refine (Hv.out _).mono ?_); rintro e w1 ⟨rfl,rfl⟩
  rw [hv]
  go_wp2
  go_ret
  exact ⟨rfl,Below.refl _ _⟩
 ·have hval:Utf8.valid r=true:=by rw [Go.validRune_eq]; unfold Lib.validRune at hv; unfold Go.validRune; exact hv
  obtain ⟨f1,f2,f3⟩:=encode_facts r hval h0
  go_wp2_with fail
  (with_reducible refine (Hv.out _).mono ?_); rintro e w1 ⟨rfl,rfl⟩
  rw [hv]
  have e1:IntKind.i64.wrap (((Utf8.encode r).size:Int) - 1)=(((Utf8.encode r).size - 1:Nat):Int):=by rw [show ((Utf8.encode r).size:Int) - 1=(((Utf8.encode r).size - 1:Nat):Int) by omega]; exact Go.IntWalk.i64_in _ ⟨by omega,by omega⟩
  have hcv:=fun (w:World)=>run_convert_int_string (P:=Tryz.prog) w 21 9 .i32 r rfl rfl
  go_wp2_with fail
  apply wp_scope_straight
  go_wp2
  go_loopg [9,10,11,12] 1 (fun g v9 v10 v11 v12 wx=>wx=w1∧v9 = .int .i64 (((Utf8.encode r).size - 1:Nat):Int))
  case atStart=>exact ⟨rfl,rfl⟩
  case round =>
   obtain ⟨rfl,rfl⟩:=hrel
   by_cases h2:(Utf8.encode r).size=2
   ·have e2:(Utf8.encode r).size - 1=1:=by omega
    obtain ⟨x,hx⟩:∃ x:UInt8,(Utf8.encode r)[1]'(by omega)=x:=⟨_,rfl⟩
    have hx1:128≤x.toNat:=by
     have:=f3 (by omega)
     simp only [e2] at this
     rw [hx] at this; exact this
    have hi1:(1:Nat) < (Utf8.encode r).size:=by omega
    have hs1:(stops[1]'(by decide)).toNat=91:=rfl
    have hne:((91:Int) != (x.toNat:Int))=true:=by simp; omega
    have e3:(((Utf8.encode r).size - 1:Nat):Int)=1:=by omega
    have hi2:(1:Int) < ((Utf8.encode r).size:Int):=by omega
    rw [e3]
    go_wp2
    apply wp_scope_straight
    go_wp2_with fail
    go_region
    have hw2:IntKind.i64.wrap ((1:Int)+1)=2:=rfl
    have hib0:Lib.indexByte [] x=-1:=rfl
    go_wp2_with fail
    go_region_with ((with_reducible refine (Tryz.strings_IndexByte _ _ _).mono ?_); rintro e2 w2 ⟨rfl,rfl⟩)
    all_goals
     go_wp2
     rw [Exit.noGoto_ret]
     go_wp2
     rw [Exit.noGoto_ret]
     go_wp2
     go_ret
     first | exact ⟨rfl,below_drewN (Below.refl _ _) 2⟩ | exact ⟨rfl,below_drewN _ 2⟩
   ·have hlt:¬ ((((Utf8.encode r).size - 1:Nat):Int) < (stops.size:Int)):=by omega
    go_wp2
    go_ret
    exact ⟨rfl,Below.refl _ _⟩
theorem decode_conts (s:ByteArray) (i j:Nat) (h1:1≤j) (hj:j < (Utf8.decode s i).2):i+j < s.size∧128≤(s.get! (i+j)).toNat:=by
 unfold Utf8.decode at hj
 dsimp only at hj
 split at hj
 ·simp only at hj; omega
 ·split at hj
  ·next h =>
   simp only [Bool.and_eq_true,decide_eq_true_eq,beq_iff_eq] at h
   split at hj
   ·simp only at hj
    obtain rfl:j=1:=by omega
    omega
   ·simp only at hj; omega
  ·split at hj
   ·next h =>
    simp only [Bool.and_eq_true,decide_eq_true_eq,beq_iff_eq] at h
    split at hj
    ·simp only at hj
     have:j=1∨j=2:=by omega
     rcases this with rfl | rfl <;> omega
    ·simp only at hj; omega
   ·split at hj
    ·next h =>
     simp only [Bool.and_eq_true,decide_eq_true_eq,beq_iff_eq] at h
     split at hj
     ·simp only at hj
      have:j=1∨j=2∨j=3:=by omega
      rcases this with rfl | rfl | rfl <;> omega
     ·simp only at hj; omega
    ·simp only at hj; omega
theorem indexRune_any (r:Int) (h0:128≤r) (h1:r≤2147483647) (w:World):Calls Tryz.prog 143 #[.string stops,.int .i32 r] w fun e w'=>e = .returned (.int .i64 (-1))∧Below w.heap.size w w':=by
 by_cases h:r=65533
 ·subst h; exact indexRune_err w
 ·exact indexRune_hi r h0 h1 h w
theorem noAny_skip {s:ByteArray} {i:Nat} (hi:i < s.size) (hx:128≤(s[i]'hi).toNat) (h:Lib.NoAny s.data.toList stops.data.toList i):Lib.NoAny s.data.toList stops.data.toList (i+(Utf8.decode s i).2)∧i+(Utf8.decode s i).2≤s.size∧1≤(Utf8.decode s i).2:=by
 have hd:=(decode_high s i hi hx).2
 refine ⟨fun j b hj hb=>?_,?_,hd⟩
 ·by_cases hji:j < i
  ·exact h j b hji hb
  ·have hjs:j < s.size:=by
    have:=(List.getElem?_eq_some_iff.1 hb).1
    simpa using this
   have hb':b=s[j]'hjs:=by
    have:=Lib.data_getElem? s j hjs
    rw [this] at hb; exact (Option.some.inj hb).symm
   have h128:128≤b.toNat:=by
    by_cases hji2:j=i
    ·subst hji2; rw [hb']; exact hx
    ·have:=(decode_conts s i (j - i) (by omega) (by omega)).2
     rw [show i+(j - i)=j by omega] at this
     rw [hb']
     have e:s.get! j=s[j]'hjs:=get_at s j hjs
     rw [e] at this; exact this
   have hne:b≠46∧b≠91:=by
    constructor
    ·rintro rfl; exact absurd h128 (by decide)
    ·rintro rfl; exact absurd h128 (by decide)
   show [(46:UInt8),91].contains b=false
   simp [hne.1,hne.2]
 ·by_cases h1:(Utf8.decode s i).2=1
  ·omega
  ·have:=(decode_conts s i ((Utf8.decode s i).2 - 1) (by omega) (by omega)).1
   omega
set_option maxRecDepth 100000 in
theorem indexAny_short (s:ByteArray) (w:World) (h8:s.size≤8):Calls Tryz.prog 126 #[.string s,.string stops] w fun e w'=>e = .returned (.int .i64 (Lib.indexAny s.data.toList stops.data.toList))∧Below w.heap.size w w':=by
 have hss:stops.size=2:=rfl
 have hemp:stops.toList.isEmpty=false:=by rw [Lib.toList_data]; rfl
 have hn1:((stops.size:Int) == 1)=false:=rfl
 have h8z:decide ((8:Int) < (s.size:Int))=false:=decide_eq_false (by omega)
 go_enter Tryz.func126,Tryz.ntmps126
 go_wp2_with fail
 (with_reducible refine (Tryz.strings_shouldUseASCIISet _ _).mono ?_); rintro e w1 ⟨rfl,rfl⟩
 rw [h8z]
 go_wp2_with fail
 go_loopg [9,10] s.size (fun g _ _ wx=>∃ i:Nat,s.size≤i+g∧i≤s.size∧wx.heap[w1.heap.size]?=some (.stringIter s i)∧Below w1.heap.size w1 wx∧Lib.NoAny s.data.toList stops.data.toList i)
 case atStart=>exact ⟨0,by omega,by omega,World.iter_heap _ _ _,below_iter _ _ _,Lib.NoAny.zero _ _⟩
 case round =>
  obtain ⟨i,hig,his,hit,hbel,hno⟩:=hrel
  by_cases hi:i < s.size
  ·cases gk with
   | zero=>omega
   | succ g =>
    obtain ⟨x,hx⟩:∃ x:UInt8,s[i]'hi=x:=⟨_,rfl⟩
    have hxl:s.data.toList[i]?=some x:=by rw [←hx]; exact Lib.data_getElem? s i hi
    by_cases ha:x.toNat < 128
    ·have hnx:=fun ty=>run_next_ascii_at (P:=Tryz.prog) wr w1.heap.size s i ty hit hi (by rw [hx]; exact ha)
     rw [hx] at hnx
     have Hit:=kept (iterAt_heap wr w1.heap.size s i (i+1) hit)
     have Hbel:=kept (below_iterAt hbel (Nat.le_refl _) s (i+1))
     have Hno:=kept hno
     have Hxl:=kept hxl
     have hcon:=Lib.contains_iff_indexByte stops.data.toList x
     have hback:((x.toNat:Int)).toNat.toUInt8=x:=by simp
     have Hx:=kept hx
     clear hit hbel hno hxl hx
     cases hin:stops.data.toList.contains x
     ·rw [hin] at hcon
      have hlt:¬ ((0:Int)≤Lib.indexByte stops.data.toList x):=of_decide_eq_false hcon.symm
      clear hcon
      go_wp2_with fail
      (with_reducible refine (Tryz.strings_IndexRune_ascii _ _ _ (by omega) (by omega)).mono ?_); rintro e w2 ⟨rfl,rfl⟩
      rw [hback]
      go_wp2
      go_roundg g
      case measure=>omega
      case rel=>exact ⟨i+1,by omega,by omega,Hit.out,Hbel.out,Hno.out.succ Hxl.out hin⟩
     ·rw [hin] at hcon
      have hge:(0:Int)≤Lib.indexByte stops.data.toList x:=of_decide_eq_true hcon.symm
      clear hcon
      go_wp2_with fail
      (with_reducible refine (Tryz.strings_IndexRune_ascii _ _ _ (by omega) (by omega)).mono ?_); rintro e w2 ⟨rfl,rfl⟩
      rw [hback]
      go_wp2
      go_ret
      exact ⟨by rw [Lib.indexAny_hit Hno.out Hxl.out hin]; rfl,Hbel.out⟩
    ·have hx128:128≤(s[i]'hi).toNat:=by rw [hx]; omega
     obtain ⟨k1,k2,k3⟩:=noAny_skip hi hx128 hno
     have d1:=(decode_high s i hi hx128).1
     have d2:=decode_le s i
     have hnx:=fun ty=>run_next_any_at (P:=Tryz.prog) wr w1.heap.size s i ty hit hi
     obtain ⟨⟨c,d⟩,hcd⟩:∃ p,Utf8.decode s i=p:=⟨_,rfl⟩
     rw [hcd] at k1 k2 k3 d1 d2 hnx
     dsimp only at k1 k2 k3 d1 d2 hnx
     have Hit:=kept (iterAt_heap wr w1.heap.size s i (i+d) hit)
     have Hbel:=kept (below_iterAt hbel (Nat.le_refl _) s (i+d))
     have K1:=kept k1
     clear hit hbel hno hxl hx hx128 hcd k1
     go_wp2_with fail
     (with_reducible refine (indexRune_any _ (by omega) (by omega) _).mono ?_); rintro e w2 ⟨rfl,b2⟩
     have hit2:w2.heap[w1.heap.size]?=some (.stringIter s (i+d)):=by rw [b2.block _ (Array.getElem?_eq_some_iff.1 Hit.out).1]; exact Hit.out
     have Hit2:=kept hit2
     have Hbel2:=kept (Hbel.out.trans (b2.mono (by have:=Hbel.out.size; exact this)))
     clear hit2 b2
     go_wp2
     go_roundg g
     case measure=>omega
     case rel=>exact ⟨i+d,by omega,by omega,Hit2.out,Hbel2.out,K1.out⟩
  ·obtain rfl:i=s.size:=by omega
   have hnx:=fun ty=>run_next_end_at (P:=Tryz.prog) wr w1.heap.size s s.size ty hit (by omega)
   have Hno:=kept hno
   have Hbel:=kept hbel
   clear hno hbel
   go_wp2
   go_ret
   exact ⟨by rw [Lib.indexAny_none (by rw [←Lib.size_eq]; exact Hno.out)]; rfl,Hbel.out⟩
set_option maxHeartbeats 8000000 in
set_option maxRecDepth 1000000 in
theorem indexAny_long (s:ByteArray) (h8:8 < s.size) (hs:s.size≤9223372036854775807) (w:World):Calls Tryz.prog 126 #[.string s,.string stops] w fun e w'=>e = .returned (.int .i64 (Lib.indexAny s.data.toList stops.data.toList))∧Below w.heap.size w w':=by
 have hz:=zero_of_info (P:=Tryz.prog) (t:=193) (n:=256) (v:=.agg (Array.replicate 256 (.bool false))) (by kernel_rfl)
 obtain ⟨cells,hcells⟩:∃ c,Lib.setCells stops.data.toList=c:=⟨_,rfl⟩
 have hasc:∀ (j:Nat) b,stops.data.toList[j]?=some b→b.toNat < 128:=by
  intro j b hb
  match j,hb with
  | 0,hb=>cases hb; decide
  | 1,hb=>cases hb; decide
  | j+2,hb=>simp [stops] at hb
 have Hset:=kept (Tryz.strings_makeASCIISet hz.1 stops w (by decide) hasc)
 obtain ⟨W,hW⟩:∃ W,(w.alloc (.cells cells 193)).alloc (.cells cells 193)=W:=⟨_,rfl⟩
 have hbel:Below w.heap.size w W:=by
  rw [←hW]
  exact ((Below.refl _ _).alloc (Nat.le_refl _) _).alloc (((Below.refl w.heap.size w).alloc (Nat.le_refl _) (.cells cells 193)).size) _
 have hcell:∀ x:UInt8,W.cell? ⟨w.heap.size+1,x.toNat,none⟩=some (.bool (stops.data.toList.contains x)):=fun x=>by
  rw [←hW,World.cell?_alloc_at _ _ _ _ (by simp),←hcells,Lib.setCells_at]
 have hst:(storeCells ⟨w.heap.size+1,0,none⟩ cells.toList 0).run Tryz.prog ((w.alloc (.cells cells 193)).alloc (.cells (Array.replicate 256 (.bool false)) 193)) = .ok () W:=by
  have:=run_storeCells_new (P:=Tryz.prog) (w.alloc (.cells cells 193)) 193 (Array.replicate 256 (.bool false)) cells (by rw [←hcells,Lib.setCells_size]; exact hz.2) (by rw [←hcells,Lib.setCells_size,Array.size_replicate]) (by rw [←hcells]; exact Lib.setCells_one _)
  rw [hW] at this
  simpa using this
 have hemp:stops.toList.isEmpty=false:=by rw [Lib.toList_data]; rfl
 have hn1:((stops.size:Int) == 1)=false:=rfl
 have h8z:decide ((8:Int) < (s.size:Int))=true:=decide_eq_true (by omega)
 have HC:=kept hcell
 have HB:=kept hbel
 clear hcell hbel
 rw [hcells] at Hset
 go_enter Tryz.func126,Tryz.ntmps126
 go_wp2_with fail
 (with_reducible refine (Tryz.strings_shouldUseASCIISet _ _).mono ?_); rintro e w1 ⟨rfl,rfl⟩
 rw [h8z]
 go_wp2_with fail
 (with_reducible refine Hset.out.mono ?_); rintro e w1 ⟨rfl,rfl⟩
 have hcsz:cells.size=256:=by rw [←hcells]; exact Lib.setCells_size _
 have e0:Tryz.zeroCells193=Array.replicate 256 (.bool false):=by kernel_rfl
 go_wp2
 go_loopg [8] s.size (fun g s8 wx=>∃ i:Nat,i+g=s.size∧s8 = .int .i64 i∧wx=W∧Lib.NoAny s.data.toList stops.data.toList i)
 case atStart=>exact ⟨0,by omega,rfl,rfl,Lib.NoAny.zero _ _⟩
 case round =>
  obtain ⟨i,hig,rfl,rfl,hno⟩:=hrel
  have HN:=kept hno
  clear hno
  cases gk with
  | zero =>
   obtain rfl:i=s.size:=by omega
   have hiz:¬ ((s.size:Int) < (s.size:Int)):=by omega
   go_wp2
   go_ret
   exact ⟨by rw [Lib.indexAny_none (by rw [←Lib.size_eq]; exact HN.out)]; rfl,HB.out⟩
  | succ g =>
   have hi:i < s.size:=by omega
   have hiz:(i:Int) < (s.size:Int):=by omega
   have hw:IntKind.i64.wrap ((i:Int)+1)=(i:Int)+1:=Go.IntWalk.i64_in _ ⟨by omega,by omega⟩
   obtain ⟨x,hx⟩:∃ x:UInt8,s[i]'hi=x:=⟨_,rfl⟩
   have hxl:s.data.toList[i]?=some x:=by rw [←hx]; exact Lib.data_getElem? s i hi
   have Hxl:=kept hxl
   clear hxl
   have hcx:=HC.out x
   cases hin:stops.data.toList.contains x <;> rw [hin] at hcx
   ·go_wp2_with fail
    (with_reducible refine (Tryz.asciiSet_contains _ x _ _ hcx).mono ?_); rintro e w2 ⟨rfl,rfl⟩
    go_wp2
    go_roundg g
    case measure=>omega
    case rel=>exact ⟨i+1,by omega,by first | rfl | simp,rfl,HN.out.succ Hxl.out hin⟩
   ·go_wp2_with fail
    (with_reducible refine (Tryz.asciiSet_contains _ x _ _ hcx).mono ?_); rintro e w2 ⟨rfl,rfl⟩
    go_wp2
    go_ret
    exact ⟨by rw [Lib.indexAny_hit HN.out Hxl.out hin]; rfl,HB.out⟩
theorem indexAny_any (s:ByteArray) (hs:s.size≤9223372036854775807) (w:World):Calls Tryz.prog 126 #[.string s,.string stops] w fun e w'=>e = .returned (.int .i64 (Lib.indexAny s.data.toList stops.data.toList))∧Below w.heap.size w w':=by
 by_cases h8:s.size≤8
 ·exact indexAny_short s w h8
 ·exact indexAny_long s (by omega) hs w
end Go.Proofs.YtdgcbckcameggaaGreatDoor

namespace Go.Proofs.YtdgcbckcameggaaGreatDoor
open Go.RowKit
namespace Adr
def first (k:Nat) (c:UInt8):Bool:=if k=0 then letter c else wordB c
def idOk (j:Nat) (s:List UInt8):Prop:=∀ k,k < j→first k (s.getD k 0)=true
theorem wordB_of_letter {c:UInt8} (h:letter c=true):wordB c=true:=by unfold wordB; rw [h]; rfl
theorem ident_fail {s:List UInt8} {j:Nat} (hj:j < s.length) (h:first j (s.getD j 0)=false):ident s=false:=by
 unfold ident
 unfold first at h
 split at h
 ·next e =>
  subst e
  rw [h]; simp
 ·have:s.all wordB=false:=by
   rw [List.all_eq_false]
   refine ⟨s[j],List.getElem_mem hj,?_⟩
   have e:s.getD j 0=s[j]:=by simp [List.getD,hj]
   rw [e] at h; rw [h]; decide
  simp [this]
theorem ident_end {s:List UInt8} (h:idOk s.length s):ident s=(s != []&&decide (s.length≤64)):=by
 unfold ident
 cases s with
 | nil=>rfl
 | cons c t =>
  have h0:letter ((c::t).getD 0 0)=true:=by
   have:=h 0 (by simp)
   unfold first at this
   rwa [if_pos rfl] at this
  have h1:(c::t).all wordB=true:=by
   rw [List.all_eq_true]
   intro x hx
   obtain ⟨j,hj,rfl⟩:=List.getElem_of_mem hx
   have:=h j hj
   have e:(c::t).getD j 0=(c::t)[j]:=by rw [List.getD_eq_getElem?_getD,List.getElem?_eq_getElem hj]; rfl
   unfold first at this
   rw [e] at this
   split at this
   ·exact wordB_of_letter this
   ·exact this
  rw [h0,h1]
  simp
set_option maxRecDepth 100000 in
theorem or_letter:∀ n:Fin 256,letter (UInt8.ofNat n.val)=!((((n.val:Nat):Int) != 95)&&(decide (bits .or .u8 ((n.val:Nat):Int) 32 < 97)||decide (bits .or .u8 ((n.val:Nat):Int) 32 > 122))):=by decide +kernel
theorem letter_or (c:UInt8):letter c=!(((c.toNat:Int) != 95)&&(decide (bits .or .u8 (c.toNat:Int) 32 < 97)||decide (bits .or .u8 (c.toNat:Int) 32 > 122))):=by
 have:=or_letter ⟨c.toNat,c.toNat_lt⟩
 simpa using this
end Adr
namespace AX
def c_ident:AX.AFn:=⟨50,aS [aR 2 (.mv (.c (.bool false)))] (.seq (aS [aM 5 0,aR 6 (.len true (.t 5)),aR 7 (.mv (aI 0))] (.block 0 (.loop (aS [aR 8 (.bin .lss (.t 7) (.t 6))] (.seq (.cond (.t 8) (.skip) (.exit 0)) (.seq (.block 1 (aS [aM 9 7,aM 3 9] (aS [aM 10 0,aM 11 3,aR 12 (.sidx (.t 10) (.t 11)),aR 13 (.bin .or (.t 12) (.c (.int .u8 32))),aM 4 13] (aS [aM 14 0,aM 15 3,aR 16 (.sidx (.t 14) (.t 15)),aR 17 (.bin .neq (.t 16) (.c (.int .u8 95))),aM 18 17,aG 19 (.mv (.t 4)) 18 true,aG 20 (.bin .lss (.t 19) (.c (.int .u8 97))) 18 true,aG 21 (.mv (.t 20)) 18 true,aG 22 (.mv (.t 4)) 21 false,aG 23 (.bin .gtr (.t 22) (.c (.int .u8 122))) 21 false,aG 24 (.pick (.t 21) (.c (.bool true)) (.t 23)) 18 true,aR 25 (.pick (.t 18) (.t 24) (.c (.bool false))),aM 26 25,aG 27 (.mv (.t 3)) 26 true,aG 28 (.bin .eql (.t 27) (aI 0)) 26 true,aG 29 (.mv (.t 28)) 26 true,aG 30 (.mv (.t 0)) 29 false,aG 31 (.mv (.t 3)) 29 false,aG 32 (.sidx (.t 30) (.t 31)) 29 false,aG 33 (.bin .lss (.t 32) (.c (.int .u8 48))) 29 false,aG 34 (.pick (.t 29) (.c (.bool true)) (.t 33)) 26 true,aG 35 (.mv (.t 34)) 26 true,aG 36 (.mv (.t 0)) 35 false,aG 37 (.mv (.t 3)) 35 false,aG 38 (.sidx (.t 36) (.t 37)) 35 false,aG 39 (.bin .gtr (.t 38) (.c (.int .u8 57))) 35 false,aG 40 (.pick (.t 35) (.c (.bool true)) (.t 39)) 26 true,aR 41 (.pick (.t 26) (.t 40) (.c (.bool false)))] (.cond (.t 41) (aS [aR 2 (.mv (.c (.bool false)))] (.ret)) (.skip)))))) (.reg false [aR 42 (.bin .add (.t 7) (aI 1)),aM 7 42]))))))) (aS [aM 43 0,aR 44 (.bin .neq (.t 43) (.c (.str []))),aM 45 44,aG 46 (.mv (.t 0)) 45 true,aG 47 (.len true (.t 46)) 45 true,aG 48 (.bin .leq (.t 47) (aI 64)) 45 true,aR 49 (.pick (.t 45) (.t 48) (.c (.bool false))),aM 2 49] (.ret))),[.t 2]⟩
theorem h_ident:AX.compFn Tryz.prog 76=some c_ident:=by kernel_rfl
def c_lcutp:AX.AFn:=⟨15,aS [aR 4 (.mv (.c (.str []))),aR 5 (.mv (.c (.bool false)))] (.seq (aS [aM 6 0,aM 7 1,aR 8 (.call 31 [.t 6,.t 7]),aR 9 (.un .not (.t 8))] (.cond (.t 9) (aS [aM 10 0,aM 4 10,aR 5 (.mv (.c (.bool false)))] (.ret)) (.skip))) (aS [aM 11 0,aM 12 1,aR 13 (.len true (.t 12)),aR 14 (.ssl (.t 11) (some (.t 13)) none),aM 4 14,aR 5 (.mv (.c (.bool true)))] (.ret))),[.t 4,.t 5]⟩
theorem h_lcutp:AX.compFn Tryz.prog 142=some c_lcutp:=by kernel_rfl
def c_cutp:AX.AFn:=⟨11,aS [aR 4 (.mv (.c (.str []))),aR 5 (.mv (.c (.bool false)))] (aS [aM 6 0,aM 7 1,aR 8 (.call 142 [.t 6,.t 7]),aE 9 8 0,aE 10 8 1,aM 4 9,aM 5 10] (.ret)),[.t 4,.t 5]⟩
theorem h_cutp:AX.compFn Tryz.prog 125=some c_cutp:=by kernel_rfl
def c_ahas:AX.AFn:=⟨21,aS [aR 4 (.mv (.c (.bool false)))] (aS [aM 8 0,aR 9 (.nilck (.t 8)),aF 10 0 9,aL 11 10,aM 12 1,aR 13 (.call 125 [.t 11,.t 12]),aM 7 13,aE 14 7 0,aE 15 7 1,aM 5 14,aM 6 15] (aS [aM 16 0,aM 17 5,aR 18 (.nilck (.t 16)),aF 19 0 18,aU (.store 1 (.t 19) (.t 17))] (aS [aM 20 6,aM 4 20] (.ret)))),[.t 4]⟩
theorem h_ahas:AX.compFn Tryz.prog 98=some c_ahas:=by kernel_rfl
def c_askip:AX.AFn:=⟨30,aS [aM 7 0,aR 8 (.nilck (.t 7)),aF 9 0 8,aL 10 9,aM 11 1,aR 12 (.call 125 [.t 10,.t 11]),aM 6 12,aE 13 6 0,aE 14 6 1,aM 4 13,aM 5 14] (aS [aM 15 0,aM 16 4,aR 17 (.nilck (.t 15)),aF 18 0 17,aU (.store 1 (.t 18) (.t 16))] (.reg false [aM 19 0,aM 20 0,aR 21 (.nilck (.t 20)),aF 22 1 21,aL 23 22,aM 24 23,aG 25 (.mv (.t 5)) 24 false,aG 26 (.un .not (.t 25)) 24 false,aR 27 (.pick (.t 24) (.c (.bool true)) (.t 26)),aR 28 (.nilck (.t 19)),aF 29 1 28,aU (.store 1 (.t 29) (.t 27))])),[]⟩
theorem h_askip:AX.compFn Tryz.prog 100=some c_askip:=by kernel_rfl
theorem a_ident (s:List UInt8) (hl:s.length≤2000000) (h:Hp):ACall Tryz.prog GT 76 [.str s] h fun r h'=>r = .bool (Adr.ident s)∧h'=h:=by
 refine pcall ?_ rfl (by simp [A.pure,A.data]) h
 refine acall_of mixedT h_ident (by simp [c_ident]) ?_
 dsimp only [c_ident]
 refine run0 ti ?_
 refine awp_loop (fun mm ts h=>∃ (j:Nat),mm=s.length - j∧j≤s.length∧h=⟨[],[]⟩∧Adr.idOk j s∧ts 0 = .str s∧ts 6 = .int .i64 (s.length:Nat)∧ts 7 = .int .i64 (j:Nat)) s.length ?_ ?_
 ·exact ⟨0,by omega,by omega,rfl,fun k hk=>absurd hk (Nat.not_lt_zero k),by (exact ev0 ti),by (exact ev0 ti),by (exact inv0 ti)⟩
 rintro mm ts h ⟨j,rfl,hjc,rfl,hok,t0,t6,t7⟩
 by_cases hj:j < s.length
 ·have hlt:(j:Int) < (s.length:Int):=by omega
  have hj0:(0:Int)≤(j:Int):=by omega
  have ei:IntKind.i64.wrap ((j:Int)+1)=((j+1:Nat):Int):=by rw [wrap64 (by omega) (by omega)]; omega
  obtain ⟨c,hc⟩:∃ c,s.getD j 0=c:=⟨_,rfl⟩
  have hfl:Adr.letter c=false→j=0∨Adr.wordB c=false→Adr.ident s=false:=fun h1 h2=>Adr.ident_fail hj (by
   rw [hc]; unfold Adr.first
   rcases h2 with h2 | h2
   ·rw [if_pos h2]; exact h1
   ·split
    ·exact h1
    ·exact h2)
  have hgo:Adr.first j c=true→Adr.idOk (j+1) s:=fun h1 k hk=>by
   by_cases e:k=j
   ·rw [e,hc]; exact h1
   ·exact hok k (by omega)
  have hlo:=Adr.letter_or c
  have hdg:=Num.digB_int c
  have hwb:Adr.wordB c=(Adr.letter c||Num.digB c):=rfl
  obtain ⟨x,hx⟩:∃ x:Int,(c.toNat:Int)=x:=⟨_,rfl⟩
  rw [hx] at hlo hdg
  obtain ⟨y,hy⟩:∃ y:Int,bits .or .u8 x 32=y:=⟨_,rfl⟩
  rw [hy] at hlo
  have next:Adr.first j c=true→∃ m',m' < s.length - j∧∃ (j':Nat),m'=s.length - j'∧j'≤s.length∧Adr.idOk j' s∧j'=j+1:=fun h1=>⟨s.length - (j+1),by omega,j+1,rfl,by omega,hgo h1,rfl⟩
  by_cases h95:x=95
  ·have e1:(x != 95)=false:=by simp [h95]
   have hL:Adr.letter c=true:=by rw [hlo,e1]; rfl
   refine run0 (ai t0 (ai t6 (ai t7 (ai hlt (ai hj0 (ai hc (ai hx (ai hy (ai e1 ei))))))))) ?_
   exact ⟨s.length - (j+1),by omega,j+1,rfl,by omega,rfl,hgo (by unfold Adr.first; split; exact hL; rw [hwb,hL]; rfl),by (exact ev0 t0),by (exact ev0 t6),by (exact ev0 ei)⟩
  have e1:(x != 95)=true:=by simp [h95]
  by_cases h97:y < 97∨y > 122
  rotate_left
  ·have e2:¬ y < 97:=by omega
   have e3:¬ y > 122:=by omega
   have hL:Adr.letter c=true:=by rw [hlo,e1,decide_eq_false e2,decide_eq_false e3]; rfl
   refine run0 (ai t0 (ai t6 (ai t7 (ai hlt (ai hj0 (ai hc (ai hx (ai hy (ai e1 (ai e2 (ai e3 ei))))))))))) ?_
   exact ⟨s.length - (j+1),by omega,j+1,rfl,by omega,rfl,hgo (by unfold Adr.first; split; exact hL; rw [hwb,hL]; rfl),by (exact ev0 t0),by (exact ev0 t6),by (exact ev0 ei)⟩
  have hL:Adr.letter c=false:=by
   rw [hlo,e1]
   rcases h97 with h97 | h97
   ·rw [decide_eq_true h97]; rfl
   ·rw [decide_eq_true h97,Bool.or_true]; rfl
  have fail:(j=0∨Adr.wordB c=false)→Adr.ident s=false:=hfl hL
  have e23:y < 97∨(¬ y < 97∧y > 122):=by omega
  by_cases hz:j=0
  ·have e4:((j:Int) == 0)=true:=by simp [hz]
   have hF:=fail (.inl hz)
   rcases e23 with e2 | ⟨e2,e3⟩
   ·refine run0 (ai t0 (ai t6 (ai t7 (ai hlt (ai hj0 (ai hc (ai hx (ai hy (ai e1 (ai e2 e4)))))))))) ?_
    exact ⟨_,le_refl _,by rw [hF]; rfl⟩
   ·refine run0 (ai t0 (ai t6 (ai t7 (ai hlt (ai hj0 (ai hc (ai hx (ai hy (ai e1 (ai e2 (ai e3 e4))))))))))) ?_
    exact ⟨_,le_refl _,by rw [hF]; rfl⟩
  have e4:((j:Int) == 0)=false:=by simp; omega
  by_cases hd:48≤x∧x≤57
  ·have e5:¬ x < 48:=by omega
   have e6:¬ x > 57:=by omega
   have hW:Adr.wordB c=true:=by rw [hwb,hdg,decide_eq_true hd.1,decide_eq_true hd.2,hL]; rfl
   have hfst:Adr.first j c=true:=by unfold Adr.first; rw [if_neg hz]; exact hW
   rcases e23 with e2 | ⟨e2,e3⟩
   ·refine run0 (ai t0 (ai t6 (ai t7 (ai hlt (ai hj0 (ai hc (ai hx (ai hy (ai e1 (ai e2 (ai e4 (ai e5 (ai e6 ei))))))))))))) ?_
    exact ⟨s.length - (j+1),by omega,j+1,rfl,by omega,rfl,hgo hfst,by (exact ev0 t0),by (exact ev0 t6),by (exact ev0 ei)⟩
   ·refine run0 (ai t0 (ai t6 (ai t7 (ai hlt (ai hj0 (ai hc (ai hx (ai hy (ai e1 (ai e2 (ai e3 (ai e4 (ai e5 (ai e6 ei)))))))))))))) ?_
    exact ⟨s.length - (j+1),by omega,j+1,rfl,by omega,rfl,hgo hfst,by (exact ev0 t0),by (exact ev0 t6),by (exact ev0 ei)⟩
  ·have hD:Num.digB c=false:=by
    rw [hdg]
    by_cases a:48≤x
    ·rw [decide_eq_true a,decide_eq_false (by omega)]; rfl
    ·rw [decide_eq_false a]; rfl
   have hF:=fail (.inr (by rw [hwb,hL,hD]; rfl))
   have e56:x < 48∨(¬ x < 48∧x > 57):=by omega
   rcases e23 with e2 | ⟨e2,e3⟩
   ·rcases e56 with e5 | ⟨e5,e6⟩
    ·refine run0 (ai t0 (ai t6 (ai t7 (ai hlt (ai hj0 (ai hc (ai hx (ai hy (ai e1 (ai e2 (ai e4 e5))))))))))) ?_
     exact ⟨_,le_refl _,by rw [hF]; rfl⟩
    ·refine run0 (ai t0 (ai t6 (ai t7 (ai hlt (ai hj0 (ai hc (ai hx (ai hy (ai e1 (ai e2 (ai e4 (ai e5 e6)))))))))))) ?_
     exact ⟨_,le_refl _,by rw [hF]; rfl⟩
   ·rcases e56 with e5 | ⟨e5,e6⟩
    ·refine run0 (ai t0 (ai t6 (ai t7 (ai hlt (ai hj0 (ai hc (ai hx (ai hy (ai e1 (ai e2 (ai e3 (ai e4 e5)))))))))))) ?_
     exact ⟨_,le_refl _,by rw [hF]; rfl⟩
    ·refine run0 (ai t0 (ai t6 (ai t7 (ai hlt (ai hj0 (ai hc (ai hx (ai hy (ai e1 (ai e2 (ai e3 (ai e4 (ai e5 e6))))))))))))) ?_
     exact ⟨_,le_refl _,by rw [hF]; rfl⟩
 ·have hlt:¬ ((j:Int) < (s.length:Int)):=by omega
  have hje:j=s.length:=by omega
  rw [hje] at hok
  have hE:=Adr.ident_end hok
  by_cases hn:s=[]
  ·have e1:(s != [])=false:=by simp [hn]
   rw [e1] at hE
   refine run0 (ai t0 (ai t6 (ai t7 (ai hlt e1)))) ?_
   exact ⟨_,le_refl _,by rw [hE]; rfl⟩
  ·have e1:(s != [])=true:=by simp [hn]
   rw [e1] at hE
   have e2:decide ((s.length:Int)≤64)=decide (s.length≤64):=decide_eq_decide.2 (by omega)
   refine run0 (ai t0 (ai t6 (ai t7 (ai hlt e1)))) ?_
   exact ⟨_,le_refl _,by rw [hE]; first | rfl | (rw [tupA_1,e2]; rfl) | rw [←e2]; rfl⟩
theorem a_lcutp (s p:List UInt8) (h:Hp):ACall Tryz.prog GT 142 [.str s,.str p] h fun r h'=>r = .tup [.str (if Adr.begins s p then s.drop p.length else s),.bool (Adr.begins s p)]∧h'=h:=by
 refine pcall ?_ rfl (by simp [A.pure,A.data]) h
 refine acall_of mixedT h_lcutp (by simp [c_lcutp]) ?_
 dsimp only [c_lcutp]
 have hp:(decide (p.length≤s.length)&&s.take p.length == p)=Adr.begins s p:=by
  unfold Adr.begins
  rw [Bool.eq_iff_iff,List.isPrefixOf_iff_prefix,List.prefix_iff_eq_take,Bool.and_eq_true,decide_eq_true_eq,beq_iff_eq]
  constructor
  ·rintro ⟨h1,h2⟩; exact h2.symm
  ·intro h2
   exact ⟨by have:=congrArg List.length h2; rw [List.length_take] at this; omega,h2.symm⟩
 have hc:=fun h=>a_liteHasPrefix s p h
 rw [hp] at hc
 refine run0 ti ?_
 refine use (hc _) ?_
 cases hB:Adr.begins s p
 ·refine run0 ti ?_
  exact ⟨_,le_refl _,rfl⟩
 ·have hle:(p.length:Int)≤(s.length:Int):=by have:=Adr.begins_len hB; omega
  have h0:(0:Int)≤(p.length:Int):=by omega
  refine run0 (ai hle h0) ?_
  refine ⟨_,le_refl _,?_⟩
  rw [if_pos rfl]
  first | rfl | (rw [tupA_2]; simp)
theorem a_cutp (s p:List UInt8) (h:Hp):ACall Tryz.prog GT 125 [.str s,.str p] h fun r h'=>r = .tup [.str (if Adr.begins s p then s.drop p.length else s),.bool (Adr.begins s p)]∧h'=h:=by
 refine pcall ?_ rfl (by simp [A.pure,A.data]) h
 refine acall_of mixedT h_cutp (by simp [c_cutp]) ?_
 dsimp only [c_cutp]
 refine run0 ti ?_
 refine use (a_lcutp s p _) ?_
 refine run0 ti ?_
 exact ⟨_,le_refl _,rfl⟩
def adB (r:Adr.Rd):Blk:=.cells 156 [.str r.rest,.bool r.bad]
theorem adB_loc (r:Adr.Rd):(adB r).loc 0:=rfl
theorem w_has (p:List UInt8) (r:Adr.Rd) {h:Hp} {i:Nat} (hb:h.b[i]?=some (adB r)) :
  ACall Tryz.prog GT 98 [.ptr i 0,.str p] h fun v h'=>v = .bool (Adr.hasP p r).1∧h'=⟨h.b.set i (adB (Adr.hasP p r).2),h.t⟩:=by
 have key:ACall Tryz.prog GT 98 [.ptr 0 0,.str p] ⟨[adB r],[]⟩ fun v h'=>∃ b',h'.b[0]?=some b'∧v = .bool (Adr.hasP p r).1∧b'=adB (Adr.hasP p r).2:=by
  refine acall_of mixedT h_ahas (by simp [c_ahas]) ?_
  dsimp only [c_ahas]
  unfold adB
  refine run0 ti ?_
  refine use (a_cutp r.rest p _) ?_
  unfold Adr.hasP
  cases hB:Adr.begins r.rest p
  ·refine run0 ti ?_
   exact ⟨_,le_refl _,_,rfl,rfl,rfl⟩
  ·refine run0 ti ?_
   exact ⟨_,le_refl _,_,rfl,rfl,rfl⟩
 refine (ACall.lift1 key rfl (adB_loc r) ?_ hb).mono ?_
 ·rintro v b' ⟨rfl,rfl⟩; exact ⟨rfl,adB_loc _⟩
 ·rintro v h' ⟨b',⟨rfl,rfl⟩,rfl⟩; exact ⟨rfl,rfl⟩
theorem w_skip (p:List UInt8) (r:Adr.Rd) {h:Hp} {i:Nat} (hb:h.b[i]?=some (adB r)) :
  ACall Tryz.prog GT 100 [.ptr i 0,.str p] h fun v h'=>v = .tup []∧h'=⟨h.b.set i (adB (Adr.skipP p r)),h.t⟩:=by
 have key:ACall Tryz.prog GT 100 [.ptr 0 0,.str p] ⟨[adB r],[]⟩ fun v h'=>∃ b',h'.b[0]?=some b'∧v = .tup []∧b'=adB (Adr.skipP p r):=by
  obtain ⟨rest,bad⟩:=r
  refine acall_of mixedT h_askip (by simp [c_askip]) ?_
  dsimp only [c_askip]
  unfold adB
  refine run0 ti ?_
  refine use (a_cutp rest p _) ?_
  unfold Adr.skipP
  dsimp only
  cases hB:Adr.begins rest p
  ·cases bad
   ·refine run0 ti ?_
    exact ⟨_,le_refl _,_,rfl,rfl,rfl⟩
   ·refine run0 ti ?_
    exact ⟨_,le_refl _,_,rfl,rfl,rfl⟩
  ·cases bad
   ·refine run0 ti ?_
    exact ⟨_,le_refl _,_,rfl,rfl,rfl⟩
   ·refine run0 ti ?_
    exact ⟨_,le_refl _,_,rfl,rfl,rfl⟩
 refine (ACall.lift1 key rfl (adB_loc r) ?_ hb).mono ?_
 ·rintro v b' ⟨rfl,rfl⟩; exact ⟨rfl,adB_loc _⟩
 ·rintro v h' ⟨b',⟨rfl,rfl⟩,rfl⟩; exact ⟨rfl,rfl⟩
end AX
end Go.Proofs.YtdgcbckcameggaaGreatDoor

namespace Go.Proofs.YtdgcbckcameggaaGreatDoor
open Go.RowKit
open Go.Op (bytesLess)
namespace Adr
def Step.cells (s:Step):List AX.A:=[.str s.name,.int .i64 s.key.kind,.int .i64 s.key.num,.str s.key.str]
def Ad.cells (a:Ad):List AX.A:=[.sl 4 .no (a.mods.map Step.cells),.bool a.data,.str a.type,.str a.name,.int .i64 a.key.kind,.int .i64 a.key.num,.str a.key.str]
end Adr
namespace AX
def cmpZ (a b:List UInt8):Int:=if a == b then 0 else if bytesLess a b then -1 else 1
structure Leafs:Prop where
 parse:∀ (s:List UInt8),s.length≤2000000→∀ h,ACall Tryz.prog GT 75 [.str s] h fun r h'=>r = .tup [.agg (Adr.parse s).1.cells,.int .i64 (Adr.parse s).2]∧h'=h
 static:∀ (s:List UInt8),s.length≤2000000→∀ h,ACall Tryz.prog GT 96 [.str s] h fun r h'=>r = .tup [.str (Adr.static s).1,.int .i64 (Adr.static s).2]∧h'=h
 ident:∀ (s:List UInt8),s.length≤2000000→∀ h,ACall Tryz.prog GT 76 [.str s] h fun r h'=>r = .bool (Adr.ident s)∧h'=h
 num:∀ (s:List UInt8),s.length≤2000000→∀ h,ACall Tryz.prog GT 91 [.str s] h fun r h'=>r = .tup [.int .i64 (Num.parse s).1,.int .i64 (Num.parse s).2]∧h'=h
 cmp:∀ (a b:List UInt8) h,ACall Tryz.prog GT 74 [.str a,.str b] h fun r h'=>r = .int .i64 (cmpZ a b)∧h'=h
 known:∀ (v:V),v.lens→∀ h,ACall Tryz.prog GT 71 [v.A] h fun r h'=>r = .bool (Sf.known v)∧h'=h
 text:∀ (s:List UInt8),s.length≤2000000→∀ h,ACall Tryz.prog GT 43 [.str s] h fun r h'=>r = .bool (Sf.text s)∧h'=h
def c_smanaged:AX.AFn:=⟨25,aS [aR 4 (.mv (.c (.bool false)))] (aS [aM 8 0,aR 9 (.call 75 [.t 8]),aM 7 9,aE 10 7 0,aE 11 7 1,aR 5 (.alloc 133 [.sl 0 .nil [],.bool false,.str [],.str [],.int .i64 0,.int .i64 0,.str []]),aU (.store 7 (.t 5) (.t 10)),aM 6 11] (aS [aM 12 6,aR 13 (.bin .eql (.t 12) (aI 0)),aM 14 13,aG 15 (.faddr 1 (.t 5)) 14 true,aG 16 (.load false 1 (.t 15)) 14 true,aG 17 (.un .not (.t 16)) 14 true,aR 18 (.pick (.t 14) (.t 17) (.c (.bool false))),aM 19 18,aG 20 (.faddr 2 (.t 5)) 19 true,aG 21 (.load false 1 (.t 20)) 19 true,aG 22 (.mv (.t 1)) 19 true,aG 23 (.bin .eql (.t 21) (.t 22)) 19 true,aR 24 (.pick (.t 19) (.t 23) (.c (.bool false))),aM 4 24] (.ret))),[.t 4]⟩
theorem h_smanaged:AX.compFn Tryz.prog 47=some c_smanaged:=by kernel_rfl
def c_skey:AX.AFn:=⟨16,aS [aR 2 (.mv (.c (.bool false)))] (aS [aM 6 0,aR 7 (.call 91 [.t 6]),aM 5 7,aE 8 5 0,aE 9 5 1,aM 3 8,aM 4 9] (aS [aM 10 4,aR 11 (.bin .eql (.t 10) (aI 0)),aM 12 11,aG 13 (.mv (.t 3)) 12 true,aG 14 (.bin .geq (.t 13) (aI 1)) 12 true,aR 15 (.pick (.t 12) (.t 14) (.c (.bool false))),aM 2 15] (.ret))),[.t 2]⟩
theorem h_skey:AX.compFn Tryz.prog 69=some c_skey:=by kernel_rfl
def c_splaceOf:AX.AFn:=⟨8,aS [aR 1 (.box 63 (.t 0)),aR 2 (.alloc 95 [.str [],.str []])] (aS [aF 3 0 1,aL 4 3,aF 5 1 1,aL 6 5,aR 7 (.build [.str [],.str []] [(0,1,.t 4),(1,1,.t 6)]),aU (.store 2 (.t 2) (.t 7))] (.ret)),[.c 2 true 2]⟩
theorem h_splaceOf:AX.compFn Tryz.prog 45=some c_splaceOf:=by kernel_rfl
def c_sstatics:AX.AFn:=⟨40,aS [aR 2 (.mv (.c (.bool false)))] (.seq (aS [aM 7 0,aR 8 (.len false (.t 7)),aR 9 (.mv (aI 0))] (.block 0 (.loop (aS [aR 10 (.bin .lss (.t 9) (.t 8))] (.seq (.cond (.t 10) (.skip) (.exit 0)) (.seq (.block 1 (aS [aM 11 9,aR 12 (.iaddr 1 (.t 7) (.t 9)),aL 13 12,aM 3 11,aM 4 13] (aS [aM 15 4,aR 16 (.call 96 [.t 15]),aM 14 16,aE 17 14 0,aE 18 14 1,aM 5 17,aM 6 18] (aS [aM 19 6,aR 20 (.bin .neq (.t 19) (aI 0)),aM 21 20,aG 22 (.mv (.t 5)) 21 false,aG 23 (.mv (.t 4)) 21 false,aG 24 (.bin .neq (.t 22) (.t 23)) 21 false,aR 25 (.pick (.t 21) (.c (.bool true)) (.t 24)),aM 26 25,aG 27 (.mv (.t 3)) 26 false,aG 28 (.bin .gtr (.t 27) (aI 0)) 26 false,aG 29 (.mv (.t 28)) 26 false,aG 30 (.mv (.t 4)) 29 true,aG 31 (.mv (.t 0)) 29 true,aG 32 (.mv (.t 3)) 29 true,aG 33 (.bin .sub (.t 32) (aI 1)) 29 true,aG 34 (.iaddr 1 (.t 31) (.t 33)) 29 true,aG 35 (.load false 1 (.t 34)) 29 true,aG 36 (.bin .leq (.t 30) (.t 35)) 29 true,aG 37 (.pick (.t 29) (.t 36) (.c (.bool false))) 26 false,aR 38 (.pick (.t 26) (.c (.bool true)) (.t 37))] (.cond (.t 38) (aS [aR 2 (.mv (.c (.bool false)))] (.ret)) (.skip)))))) (.reg false [aR 39 (.bin .add (.t 9) (aI 1)),aM 9 39]))))))) (aS [aR 2 (.mv (.c (.bool true)))] (.ret))),[.t 2]⟩
theorem h_sstatics:AX.compFn Tryz.prog 72=some c_sstatics:=by kernel_rfl
def c_soutput:AX.AFn:=⟨18,aS [aR 1 (.box 67 (.t 0)),aR 2 (.mv (aI 0))] (.seq (aS [aF 4 0 1,aL 5 4,aR 6 (.call 76 [.t 5]),aR 7 (.un .not (.t 6))] (.cond (.t 7) (aS [aR 2 (.mv (aI 7))] (.ret)) (.skip))) (.seq (aS [aF 8 1 1,aR 9 (.load true 5 (.t 8)),aR 10 (.call 70 [.t 9]),aM 3 10] (aS [aM 11 3,aR 12 (.bin .neq (.t 11) (aI 0))] (.cond (.t 12) (aS [aM 13 3,aM 2 13] (.ret)) (.skip)))) (.seq (aS [aF 14 1 1,aR 15 (.load true 5 (.t 14)),aR 16 (.call 71 [.t 15]),aR 17 (.un .not (.t 16))] (.cond (.t 17) (aS [aR 2 (.mv (aI 11))] (.ret)) (.skip))) (aS [aR 2 (.mv (aI 0))] (.ret))))),[.t 2]⟩
theorem h_soutput:AX.compFn Tryz.prog 48=some c_soutput:=by kernel_rfl
def c_sinstance:AX.AFn:=⟨53,aS [aR 1 (.box 63 (.t 0)),aR 2 (.mv (aI 0))] (.seq (aS [aF 4 0 1,aL 5 4,aF 6 3 1,aL 7 6,aR 8 (.call 47 [.t 5,.t 7]),aR 9 (.un .not (.t 8)),aM 10 9,aG 11 (.faddr 1 (.t 1)) 10 false,aG 12 (.load false 1 (.t 11)) 10 false,aG 13 (.bin .neq (.t 12) (.c (.str []))) 10 false,aG 14 (.mv (.t 13)) 10 false,aG 15 (.faddr 1 (.t 1)) 14 true,aG 16 (.load false 1 (.t 15)) 14 true,aG 17 (.call 69 [.t 16]) 14 true,aG 18 (.un .not (.t 17)) 14 true,aG 19 (.pick (.t 14) (.t 18) (.c (.bool false))) 10 false,aR 20 (.pick (.t 10) (.c (.bool true)) (.t 19)),aM 21 20,aG 22 (.faddr 2 (.t 1)) 21 false,aG 23 (.load false 1 (.t 22)) 21 false,aG 24 (.call 43 [.t 23]) 21 false,aG 25 (.un .not (.t 24)) 21 false,aR 26 (.pick (.t 21) (.c (.bool true)) (.t 25))] (.cond (.t 26) (aS [aR 2 (.mv (aI 1))] (.ret)) (.skip))) (.seq (aS [aF 27 4 1,aR 28 (.load true 5 (.t 27)),aR 29 (.call 70 [.t 28]),aM 3 29] (aS [aM 30 3,aR 31 (.bin .neq (.t 30) (aI 0))] (.cond (.t 31) (aS [aM 32 3,aM 2 32] (.ret)) (.skip)))) (.seq (aS [aF 33 4 1,aF 34 0 33,aL 35 34,aR 36 (.bin .neq (.t 35) (aI 5))] (.cond (.t 36) (aS [aR 2 (.mv (aI 6))] (.ret)) (.skip))) (.seq (aS [aF 37 4 1,aR 38 (.load true 5 (.t 37)),aR 39 (.call 71 [.t 38]),aR 40 (.un .not (.t 39))] (.cond (.t 40) (aS [aR 2 (.mv (aI 11))] (.ret)) (.skip))) (.seq (aS [aF 41 9 1,aL 42 41,aR 43 (.bin .lss (.t 42) (aI 1)),aM 44 43,aG 45 (.faddr 9 (.t 1)) 44 false,aG 46 (.load false 1 (.t 45)) 44 false,aG 47 (.bin .gtr (.t 46) (aI 9007199254740992)) 44 false,aR 48 (.pick (.t 44) (.c (.bool true)) (.t 47))] (.cond (.t 48) (aS [aR 2 (.mv (aI 5))] (.ret)) (.skip))) (.seq (aS [aF 49 12 1,aL 50 49,aR 51 (.call 72 [.t 50]),aR 52 (.un .not (.t 51))] (.cond (.t 52) (aS [aR 2 (.mv (aI 1))] (.ret)) (.skip))) (aS [aR 2 (.mv (aI 0))] (.ret)))))))),[.t 2]⟩
theorem h_sinstance:AX.compFn Tryz.prog 44=some c_sinstance:=by kernel_rfl
theorem a_managed (L:Leafs) (s t:List UInt8) (hs:s.length≤2000000) (h:Hp):ACall Tryz.prog GT 47 [.str s,.str t] h fun r h'=>r = .bool (Sf.managed s t)∧h'=h:=by
 refine pcall ?_ rfl (by simp [A.pure,A.data]) h
 refine acall_of mixedT h_smanaged (by simp [c_smanaged]) ?_
 dsimp only [c_smanaged]
 have hp:=fun h=>L.parse s hs h
 unfold Sf.managed
 obtain ⟨⟨⟨mods,data,ty,nm,⟨kk,kn,ks⟩⟩,e⟩,he⟩:∃ x,Adr.parse s=x:=⟨_,rfl⟩
 rw [he] at hp ⊢
 simp only [Adr.Ad.cells] at hp
 refine run0 ti ?_
 refine use (hp _) ?_
 dsimp only
 rcases bool_or (e == 0) with e0 | e0
 ·rw [e0]
  (refine AX.run0 e0 ?_)
  first
  | exact ⟨_, le_refl _, rfl⟩
  | (cases data
     · (refine AX.run0 AX.ti ?_)
       exact ⟨_, le_refl _, rfl⟩
     · (refine AX.run0 AX.ti ?_)
       exact ⟨_, le_refl _, rfl⟩)
 ·rw [e0]
  (refine AX.run0 e0 ?_)
  first
  | exact ⟨_, le_refl _, rfl⟩
  | (cases data
     · (refine AX.run0 AX.ti ?_)
       exact ⟨_, le_refl _, rfl⟩
     · (refine AX.run0 AX.ti ?_)
       exact ⟨_, le_refl _, rfl⟩)
theorem a_key (L:Leafs) (s:List UInt8) (hs:s.length≤2000000) (h:Hp):ACall Tryz.prog GT 69 [.str s] h fun r h'=>r = .bool ((Num.parse s).2 == 0&&decide (1≤(Num.parse s).1))∧h'=h:=by
 refine pcall ?_ rfl (by simp [A.pure,A.data]) h
 refine acall_of mixedT h_skey (by simp [c_skey]) ?_
 dsimp only [c_skey]
 have hp:=fun h=>L.num s hs h
 obtain ⟨⟨n,e⟩,he⟩:∃ x,Num.parse s=x:=⟨_,rfl⟩
 rw [he] at hp ⊢
 dsimp only at hp ⊢
 refine run0 ti ?_
 refine use (hp _) ?_
 rcases bool_or (e == 0) with e0 | e0
 ·rw [e0]
  refine run0 e0 ?_
  exact ⟨_,le_refl _,rfl⟩
 ·rw [e0]
  refine run0 e0 ?_
  exact ⟨_,le_refl _,rfl⟩
theorem a_placeOf (x:Sf.Inst) (h:Hp):ACall Tryz.prog GT 45 [.agg x.cells] h fun r h'=>r = .agg [.str x.addr,.str x.dep]∧h'=h:=by
 obtain ⟨a,d,id,ty,⟨k,n,w,vi,vy⟩,v,tn,fi,ds⟩:=x
 refine pcall ?_ rfl (by simp [A.pure,A.data,Sf.Inst.cells]) h
 refine acall_of mixedT h_splaceOf (by simp [c_splaceOf]) ?_
 dsimp only [c_splaceOf,Sf.Inst.cells]
 refine run0 ti ?_
 exact ⟨_,le_refl _,rfl⟩
theorem a_output (L:Leafs) (o:Sf.Outp) (hs:o.name.length≤2000000) (hl:o.value.lens) (h:Hp):ACall Tryz.prog GT 48 [.agg o.cells] h fun r h'=>r = .int .i64 (Sf.outZ o)∧h'=h:=by
 have hi:=fun h=>L.ident o.name hs h
 have hk:=fun h=>L.known o.value hl h
 have hc:=fun h=>a_vCheck o.value hl h
 obtain ⟨Z,hZ⟩:∃ Z,Sf.outZ o=Z:=⟨_,rfl⟩
 rw [hZ]
 unfold Sf.outZ at hZ
 obtain ⟨m,⟨k,n,w,vi,vy⟩,b⟩:=o
 dsimp only at hi hk hc hZ
 have hVA:(V.mk k n w vi vy).A = .agg [.int .i64 k,.int .i64 n,.str w,.sl 5 .no (V.cellss vi),.sl 1 .no (strsA vy)]:=by simp only [V.A,V.cells]
 rw [hVA] at hk hc
 refine pcall ?_ rfl (by simp [A.pure,A.data,Sf.Outp.cells]) h
 refine acall_of mixedT h_soutput (by simp [c_soutput]) ?_
 dsimp only [c_soutput,Sf.Outp.cells]
 refine run0 ti ?_
 refine use (hi _) ?_
 cases hI:Adr.ident m
 ·rw [hI,if_pos (by decide)] at hZ
  refine run0 ti ?_
  exact ⟨_,le_refl _,by rw [←hZ]; rfl⟩
 rw [hI,if_neg (by decide)] at hZ
 refine run0 ti ?_
 refine use (hc _) ?_
 by_cases hz:Val.checkZ (.mk k n w vi vy)=0
 rotate_left
 ·have e1:(Val.checkZ (.mk k n w vi vy) != 0)=true:=by simp [hz]
  rw [if_pos hz] at hZ
  refine run0 e1 ?_
  exact ⟨_,le_refl _,by rw [←hZ]; rfl⟩
 have e1:(Val.checkZ (.mk k n w vi vy) != 0)=false:=by simp [hz]
 rw [if_neg (by simp [hz])] at hZ
 refine run0 e1 ?_
 refine use (hk _) ?_
 cases hK:Sf.known (.mk k n w vi vy)
 ·rw [hK,if_pos (by decide)] at hZ
  refine run0 ti ?_
  exact ⟨_,le_refl _,by rw [←hZ]; rfl⟩
 ·rw [hK,if_neg (by decide)] at hZ
  refine run0 ti ?_
  exact ⟨_,le_refl _,by rw [←hZ]; rfl⟩
theorem a_statics (L:Leafs) (ds:List (List UInt8)) (hn:ds.length≤1000000000) (hs:∀ s∈ds,s.length≤2000000) (h:Hp):ACall Tryz.prog GT 72 [.sl 1 .no (strsA ds)] h fun r h'=>r = .bool (Sf.depsB none ds)∧h'=h:=by
 refine pcall ?_ rfl (by simp [A.pure,A.data]) h
 refine acall_of mixedT h_sstatics (by simp [c_sstatics]) ?_
 dsimp only [c_sstatics]
 obtain ⟨D,hD⟩:∃ D,Sf.depsB none ds=D:=⟨_,rfl⟩
 rw [hD]
 have lm:(strsA ds).length=ds.length:=strsA_length ds
 refine run0 lm ?_
 refine awp_loop (fun mm ts h=>∃ (j:Nat),mm=ds.length - j∧j≤ds.length∧h=⟨[],[]⟩∧Sf.depsB (if j=0 then none else ds[j - 1]?) (ds.drop j)=D∧ts 0 = .sl 1 .no (strsA ds)∧ts 7 = .sl 1 .no (strsA ds)∧ts 8 = .int .i64 (ds.length:Nat)∧ts 9 = .int .i64 (j:Nat)) ds.length ?_ ?_
 ·exact ⟨0,by omega,by omega,rfl,hD,by (exact ev0 ti),by (exact ev0 ti),by (exact ev0 lm),by (exact inv0 ti)⟩
 rintro mm ts h ⟨j,rfl,hjc,rfl,hit,t0,ta,tb,tc⟩
 by_cases hj:j < ds.length
 ·have hlt:(j:Int) < (ds.length:Int):=by omega
  have hlt':(j:Int) < ((strsA ds).length:Int):=by rw [strsA_length]; exact hlt
  have hj0:(0:Int)≤(j:Int):=by omega
  have ei:IntKind.i64.wrap ((j:Int)+1)=((j+1:Nat):Int):=by rw [wrap64 (by omega) (by omega)]; omega
  have hg:=strsA_get ds j hj
  have hst:=fun h=>L.static ds[j] (hs _ (List.getElem_mem hj)) h
  rw [List.drop_eq_getElem_cons hj] at hit
  unfold Sf.depsB at hit
  have hsB:Sf.staticB ds[j]=((Adr.static ds[j]).2 == 0&&(Adr.static ds[j]).1 == ds[j]):=rfl
  obtain ⟨⟨w,e⟩,hw⟩:∃ q,Adr.static ds[j]=q:=⟨_,rfl⟩
  rw [hw] at hst hsB
  dsimp only at hst hsB
  rw [hsB] at hit
  refine run0 (ai t0 (ai ta (ai tb (ai tc (ai hlt (ai hg (ai hlt' hj0))))))) ?_
  refine use (hst _) ?_
  by_cases he:e=0
  rotate_left
  ·have e1:(e != 0)=true:=by simp [he]
   have e2:(e == 0)=false:=by simp [he]
   rw [e2,Bool.false_and,Bool.false_and,Bool.false_and] at hit
   subst hit
   refine run0 (ai t0 (ai ta (ai tb (ai tc e1)))) ?_
   exact ⟨_,le_refl _,rfl⟩
  have e1:(e != 0)=false:=by simp [he]
  have e2:(e == 0)=true:=by simp [he]
  rw [e2,Bool.true_and] at hit
  by_cases hw2:w=ds[j]
  rotate_left
  ·have w1:(w != ds[j])=true:=by simp [hw2]
   have w2:(w == ds[j])=false:=by simp [hw2]
   rw [w2,Bool.false_and,Bool.false_and] at hit
   subst hit
   refine run0 (ai t0 (ai ta (ai tb (ai tc (ai e1 w1))))) ?_
   exact ⟨_,le_refl _,rfl⟩
  have w1:(w != ds[j])=false:=by simp [hw2]
  have w2:(w == ds[j])=true:=by simp [hw2]
  rw [w2,Bool.true_and] at hit
  cases j with
  | zero =>
   have h0:¬ ((0:Nat):Int) > 0:=by omega
   simp only [if_true,Val.badB,Bool.not_false,Bool.true_and] at hit
   refine run0 (ai t0 (ai ta (ai tb (ai tc (ai e1 (ai w1 (ai h0 ei))))))) ?_
   exact ⟨ds.length - 1,by omega,1,rfl,by omega,rfl,by rw [←hit]; simp [hj],by (exact ev0 t0),by (exact ev0 ta),by (exact ev0 tb),by (exact ev0 ei)⟩
  | succ i =>
   have h0:((i+1:Nat):Int) > 0:=by omega
   have ej:IntKind.i64.wrap (((i+1:Nat):Int) - 1)=(i:Int):=by rw [wrap64 (by omega) (by omega)]; omega
   have hg2:=strsA_get ds i (by omega)
   have hi':(i:Int) < ((strsA ds).length:Int):=by omega
   have hi0:(0:Int)≤(i:Int):=by omega
   have hki:ds[i+1 - 1]?=some (ds[i]'(by omega)):=List.getElem?_eq_getElem (by omega)
   rw [if_neg (by omega),hki] at hit
   simp only [Val.badB] at hit
   rw [Val.less_total] at hit
   rcases bool_or (bytesLess ds[i+1] ds[i]||ds[i+1] == ds[i]) with hb | hb
   ·rw [hb] at hit
    refine run0 (ai t0 (ai ta (ai tb (ai tc (ai e1 (ai w1 (ai h0 (ai ej (ai hg2 (ai hi' (ai hi0 (ai hb ei)))))))))))) ?_
    first
    | (subst hit; exact ⟨_,le_refl _,rfl⟩)
    | exact ⟨ds.length - (i+1+1),by omega,i+1+1,rfl,by omega,rfl,by rw [←hit]; simp [hj],by (exact ev0 t0),by (exact ev0 ta),by (exact ev0 tb),by (exact ev0 ei)⟩
   ·rw [hb] at hit
    refine run0 (ai t0 (ai ta (ai tb (ai tc (ai e1 (ai w1 (ai h0 (ai ej (ai hg2 (ai hi' (ai hi0 (ai hb ei)))))))))))) ?_
    first
    | (subst hit; exact ⟨_,le_refl _,rfl⟩)
    | exact ⟨ds.length - (i+1+1),by omega,i+1+1,rfl,by omega,rfl,by rw [←hit]; simp [hj],by (exact ev0 t0),by (exact ev0 ta),by (exact ev0 tb),by (exact ev0 ei)⟩
 ·have hlt:¬ ((j:Int) < (ds.length:Int)):=by omega
  rw [List.drop_eq_nil_of_le (by omega)] at hit
  unfold Sf.depsB at hit
  subst hit
  refine run0 (ai t0 (ai ta (ai tb (ai tc hlt)))) ?_
  exact ⟨_,le_refl _,rfl⟩
structure Sf.InstIn (x:Sf.Inst):Prop where
 a:x.addr.length≤2000000
 d:x.dep.length≤2000000
 i:x.id.length≤2000000
 l:x.attrs.lens
 n:x.deps.length≤1000000000
 ds:∀ s∈x.deps,s.length≤2000000
theorem a_instance (L:Leafs) (x:Sf.Inst) (hx:Sf.InstIn x) (h:Hp):ACall Tryz.prog GT 44 [.agg x.cells] h fun r h'=>r = .int .i64 (Sf.instZ x)∧h'=h:=by
 have cm:=fun h=>a_managed L x.addr x.typ hx.a h
 have ck:=fun h=>a_key L x.dep hx.d h
 have ct:=fun h=>L.text x.id hx.i h
 have cv:=fun h=>a_vCheck x.attrs hx.l h
 have cn:=fun h=>L.known x.attrs hx.l h
 have cs:=fun h=>a_statics L x.deps hx.n hx.ds h
 obtain ⟨Z,hZ⟩:∃ Z,Sf.instZ x=Z:=⟨_,rfl⟩
 rw [hZ]
 unfold Sf.instZ Sf.keyB at hZ
 obtain ⟨a,d,id,ty,⟨k,n,w,vi,vy⟩,v,tn,fi,ds⟩:=x
 clear hx
 dsimp only at cm ck ct cv cn cs hZ
 have hVA:(V.mk k n w vi vy).A = .agg [.int .i64 k,.int .i64 n,.str w,.sl 5 .no (V.cellss vi),.sl 1 .no (strsA vy)]:=by simp only [V.A,V.cells]
 rw [hVA] at cv cn
 obtain ⟨M,hM⟩:∃ M,Sf.managed a ty=M:=⟨_,rfl⟩
 obtain ⟨K,hK⟩:∃ K,((Num.parse d).2 == 0&&decide (1≤(Num.parse d).1))=K:=⟨_,rfl⟩
 obtain ⟨T,hT⟩:∃ T,Sf.text id=T:=⟨_,rfl⟩
 obtain ⟨C,hC⟩:∃ C,Val.checkZ (.mk k n w vi vy)=C:=⟨_,rfl⟩
 obtain ⟨N,hN⟩:∃ N,Sf.known (.mk k n w vi vy)=N:=⟨_,rfl⟩
 obtain ⟨S,hS⟩:∃ S,Sf.depsB none ds=S:=⟨_,rfl⟩
 have hkd:Sf.V.kind (.mk k n w vi vy)=k:=rfl
 rw [hM] at cm hZ
 rw [hK] at ck hZ
 rw [hT] at ct hZ
 rw [hC] at cv hZ
 rw [hN] at cn hZ
 rw [hS] at cs hZ
 rw [hkd] at hZ
 refine pcall ?_ rfl (by simp [A.pure,A.data,Sf.Inst.cells]) h
 refine acall_of mixedT h_sinstance (by simp [c_sinstance]) ?_
 dsimp only [c_sinstance,Sf.Inst.cells]
 refine run0 ti ?_
 refine use (cm _) ?_
 cases M
 ·rw [if_pos (by simp)] at hZ
  subst hZ
  refine run0 ti ?_
  exact ⟨_,le_refl _,rfl⟩
 have key:∀ {G:Prop},((d != [])=false→(d == [])=true→G)→((d != [])=true→(d == [])=false→G)→G:=fun p q=>by
  by_cases e:d=[]
  ·exact p (by simp [e]) (by simp [e])
  ·exact q (by simp [e]) (by simp [e])
 have rest:True:=ti
 refine key (fun d1 d2=>?_) (fun d1 d2=>?_)
 all_goals rw [d2] at hZ
 ·refine run0 d1 ?_
  refine use (ct _) ?_
  cases T
  ·rw [if_pos (by simp)] at hZ
   subst hZ
   refine run0 ti ?_
   exact ⟨_,le_refl _,rfl⟩
  rw [if_neg (by simp)] at hZ
  refine run0 ti ?_
  refine use (cv _) ?_
  by_cases hz:C=0
  rotate_left
  ·have e1:(C != 0)=true:=by simp [hz]
   rw [if_pos hz] at hZ
   refine run0 e1 ?_
   exact ⟨_,le_refl _,by rw [←hZ]; rfl⟩
  have e1:(C != 0)=false:=by simp [hz]
  rw [if_neg (by simp [hz])] at hZ
  by_cases hk5:k=5
  rotate_left
  ·have e2:(k != 5)=true:=by simp [hk5]
   rw [if_pos hk5] at hZ
   refine run0 (ai e1 e2) ?_
   exact ⟨_,le_refl _,by rw [←hZ]; rfl⟩
  have e2:(k != 5)=false:=by simp [hk5]
  rw [if_neg (by simp [hk5])] at hZ
  refine run0 (ai e1 e2) ?_
  refine use (cn _) ?_
  cases N
  ·rw [if_pos (by simp)] at hZ
   refine run0 ti ?_
   exact ⟨_,le_refl _,by rw [←hZ]; rfl⟩
  rw [if_neg (by simp)] at hZ
  by_cases v0:v < 1
  ·rw [if_pos (.inl v0)] at hZ
   refine run0 v0 ?_
   exact ⟨_,le_refl _,by rw [←hZ]; rfl⟩
  by_cases v1:v > 9007199254740992
  ·rw [if_pos (.inr v1)] at hZ
   refine run0 (ai v0 v1) ?_
   exact ⟨_,le_refl _,by rw [←hZ]; rfl⟩
  rw [if_neg (by omega)] at hZ
  refine run0 (ai v0 v1) ?_
  refine use (cs _) ?_
  cases S
  ·rw [if_pos (by simp)] at hZ
   refine run0 ti ?_
   exact ⟨_,le_refl _,by rw [←hZ]; rfl⟩
  ·rw [if_neg (by simp)] at hZ
   refine run0 ti ?_
   exact ⟨_,le_refl _,by rw [←hZ]; rfl⟩
 ·refine run0 d1 ?_
  refine use (ck _) ?_
  cases K
  ·rw [if_pos (by simp)] at hZ
   subst hZ
   refine run0 ti ?_
   exact ⟨_,le_refl _,rfl⟩
  refine run0 ti ?_
  refine use (ct _) ?_
  cases T
  ·rw [if_pos (by simp)] at hZ
   subst hZ
   refine run0 ti ?_
   exact ⟨_,le_refl _,rfl⟩
  rw [if_neg (by simp)] at hZ
  refine run0 ti ?_
  refine use (cv _) ?_
  by_cases hz:C=0
  rotate_left
  ·have e1:(C != 0)=true:=by simp [hz]
   rw [if_pos hz] at hZ
   refine run0 e1 ?_
   exact ⟨_,le_refl _,by rw [←hZ]; rfl⟩
  have e1:(C != 0)=false:=by simp [hz]
  rw [if_neg (by simp [hz])] at hZ
  by_cases hk5:k=5
  rotate_left
  ·have e2:(k != 5)=true:=by simp [hk5]
   rw [if_pos hk5] at hZ
   refine run0 (ai e1 e2) ?_
   exact ⟨_,le_refl _,by rw [←hZ]; rfl⟩
  have e2:(k != 5)=false:=by simp [hk5]
  rw [if_neg (by simp [hk5])] at hZ
  refine run0 (ai e1 e2) ?_
  refine use (cn _) ?_
  cases N
  ·rw [if_pos (by simp)] at hZ
   refine run0 ti ?_
   exact ⟨_,le_refl _,by rw [←hZ]; rfl⟩
  rw [if_neg (by simp)] at hZ
  by_cases v0:v < 1
  ·rw [if_pos (.inl v0)] at hZ
   refine run0 v0 ?_
   exact ⟨_,le_refl _,by rw [←hZ]; rfl⟩
  by_cases v1:v > 9007199254740992
  ·rw [if_pos (.inr v1)] at hZ
   refine run0 (ai v0 v1) ?_
   exact ⟨_,le_refl _,by rw [←hZ]; rfl⟩
  rw [if_neg (by omega)] at hZ
  refine run0 (ai v0 v1) ?_
  refine use (cs _) ?_
  cases S
  ·rw [if_pos (by simp)] at hZ
   refine run0 ti ?_
   exact ⟨_,le_refl _,by rw [←hZ]; rfl⟩
  ·rw [if_neg (by simp)] at hZ
   refine run0 ti ?_
   exact ⟨_,le_refl _,by rw [←hZ]; rfl⟩
end AX
end Go.Proofs.YtdgcbckcameggaaGreatDoor
