/- Part of what the proof needs. -/
import Derived.Test.YtdgcbckcameggaaGreatDoorMFrStatefileReadsE
import Derived.Test.YtdgcbckcameggaaGreatDoorMFrStatefileReadsL
import Derived.Test.YtdgcbckcameggaaGreatDoorMFrStatefileReadsM
import Derived.Test.YtdgcbckcameggaaGreatDoorMFrStatefileReadsN
import Derived.Test.YtdgcbckcameggaaGreatDoorMFrStatefileReadsP
import Derived.Shelf.Slices.Clone
set_option maxHeartbeats 4000000
set_option linter.unusedSimpArgs false
set_option linter.unusedVariables false
set_option linter.unnecessarySimpa false
namespace Go.Proofs.YtdgcbckcameggaaGreatDoor
open Go.RowKit
open Go.Op (bytesLess)
namespace Adr
theorem indexAny_word:∀ s:List UInt8,(Lib.indexAny s [46,91]=-1∧s.takeWhile (fun c=>!stopB c)=s∧s.dropWhile (fun c=>!stopB c)=[]) ∨
  ∃ n:Nat,Lib.indexAny s [46,91]=n∧n≤s.length∧s.takeWhile (fun c=>!stopB c)=s.take n∧s.dropWhile (fun c=>!stopB c)=s.drop n
 | [] => .inl ⟨rfl,rfl,rfl⟩
 | c::s=>by
  have hc:([46,91]:List UInt8).contains c=stopB c:=by
   unfold stopB
   simp
   rfl
  unfold Lib.indexAny
  rw [hc]
  cases h:stopB c
  ·rcases indexAny_word s with ⟨h1,h2,h3⟩ | ⟨n,h1,h2,h3,h4⟩
   ·refine .inl ⟨by rw [h1]; rfl,?_,?_⟩
    ·rw [List.takeWhile_cons_of_pos (by simp [h]),h2]
    ·rw [List.dropWhile_cons_of_pos (by simp [h]),h3]
   ·refine .inr ⟨n+1,?_,by simpa using h2,?_,?_⟩
    ·rw [h1]
     have e:((n:Int) == -1)=false:=by simp <;> omega
     simp only [Bool.false_eq_true,if_false,e]
     omega
    ·rw [List.takeWhile_cons_of_pos (by simp [h]),h3,List.take_succ_cons]
    ·rw [List.dropWhile_cons_of_pos (by simp [h]),h4,List.drop_succ_cons]
  ·refine .inr ⟨0,rfl,Nat.zero_le _,?_,?_⟩
   ·rw [List.takeWhile_cons_of_neg (by simp [h])]; rfl
   ·rw [List.dropWhile_cons_of_neg (by simp [h])]; rfl
theorem indexByte_key:∀ s:List UInt8,(s.all (· != 93)=true∧Lib.indexByte s 93=-1)∨(s.all (· != 93)=false∧Lib.indexByte s 93=((s.takeWhile (· != 93)).length:Nat)∧(s.takeWhile (· != 93)).length≤s.length)
 | [] => .inl ⟨rfl,rfl⟩
 | c::s=>by
  unfold Lib.indexByte
  by_cases h:c=93
  ·subst h
   refine .inr ⟨by simp,?_,Nat.le_of_lt_succ (by simp)⟩
   simp
  ·have hb:(c == 93)=false:=by simp [h]
   have hn:(c != 93)=true:=by simp [h]
   rcases indexByte_key s with ⟨h1,h2⟩ | ⟨h1,h2,h3⟩
   ·refine .inl ⟨by rw [List.all_cons,hn,h1]; rfl,?_⟩
    simp [hb,h,h2]
   ·refine .inr ⟨by rw [List.all_cons,h1,Bool.and_false],?_,?_⟩
    ·simp only [List.takeWhile_cons,hn,if_true,List.length_cons,hb,Bool.false_eq_true,if_false,h2]
     have e:(((s.takeWhile (· != 93)).length:Nat):Int) == -1↔False:=by simp <;> omega
     rw [if_neg (by rw [e]; exact id)]
     omega
    ·simp only [List.takeWhile_cons,hn,if_true,List.length_cons]
     omega
theorem cmp_bytes:∀ a b:List UInt8,Lib.compareBytes a b=AX.cmpZ a b
 | [],[]=>rfl
 | [],_::_=>rfl
 | _::_,[]=>rfl
 | a::a1,b::b1=>by
  have ih:=cmp_bytes a1 b1
  unfold AX.cmpZ at ih ⊢
  unfold Lib.compareBytes bytesLess
  by_cases h1:a < b
  ·have hne:a≠b:=by intro e; subst e; exact absurd h1 (by simp)
   simp [h1,hne]
  ·by_cases h2:b < a
   ·have hne:a≠b:=by intro e; subst e; exact absurd h2 (by simp)
    simp [h1,h2,hne]
   ·have he:a=b:=by
     have h3:¬ a.toNat < b.toNat:=h1
     have h4:¬ b.toNat < a.toNat:=h2
     exact UInt8.toNat_inj.1 (by omega)
    subst he
    rw [if_neg h1,if_neg h2,ih]
    simp
end Adr
namespace AX
def c_akind:AX.AFn:=⟨18,aS [aR 2 (.mv (.c (.bool false)))] (.seq (aS [aM 3 0] (.block 0 (.seq (aS [aR 5 (.bin .eql (.t 3) (.c (.str [109,111,100,117,108,101]))),aM 4 5] (.cond (.t 4) (.skip) (aS [aR 6 (.bin .eql (.t 3) (.c (.str [100,97,116,97]))),aM 4 6] (.cond (.t 4) (.skip) (aS [aR 7 (.bin .eql (.t 3) (.c (.str [118,97,114]))),aM 4 7] (.cond (.t 4) (.skip) (aS [aR 8 (.bin .eql (.t 3) (.c (.str [108,111,99,97,108]))),aM 4 8] (.cond (.t 4) (.skip) (aS [aR 9 (.bin .eql (.t 3) (.c (.str [101,97,99,104]))),aM 4 9] (.cond (.t 4) (.skip) (aS [aR 10 (.bin .eql (.t 3) (.c (.str [99,111,117,110,116]))),aM 4 10] (.cond (.t 4) (.skip) (aS [aR 11 (.bin .eql (.t 3) (.c (.str [114,101,109,111,116,101]))),aM 4 11] (.cond (.t 4) (.skip) (aS [aR 12 (.bin .eql (.t 3) (.c (.str [111,117,116,112,117,116]))),aM 4 12] (.cond (.t 4) (.skip) (aS [aR 13 (.bin .eql (.t 3) (.c (.str [112,97,116,104]))),aM 4 13] (.cond (.t 4) (.skip) (aS [aR 14 (.bin .eql (.t 3) (.c (.str [115,101,108,102]))),aM 4 14] (.cond (.t 4) (.skip) (.reg false [aR 15 (.bin .eql (.t 3) (.c (.str [99,104,97,110,103,101]))),aM 4 15]))))))))))))))))))))) (.cond (.t 4) (aS [aR 2 (.mv (.c (.bool false)))] (.ret)) (.skip))))) (aS [aM 16 0,aR 17 (.call 76 [.t 16]),aM 2 17] (.ret))),[.t 2]⟩
theorem h_akind:AX.compFn Tryz.prog 103=some c_akind:=by kernel_rfl
def c_aword:AX.AFn:=⟨45,aS [aR 2 (.mv (.c (.str [])))] (aS [aM 5 0,aR 6 (.nilck (.t 5)),aF 7 0 6,aL 8 7,aR 9 (.call 126 [.t 8,.c (.str [46,91])]),aM 3 9] (.seq (aS [aM 10 3,aR 11 (.bin .lss (.t 10) (aI 0))] (.cond (.t 11) (.reg false [aM 12 0,aR 13 (.nilck (.t 12)),aF 14 0 13,aL 15 14,aR 16 (.len true (.t 15)),aM 3 16]) (.skip))) (aS [aM 17 0,aR 18 (.nilck (.t 17)),aF 19 0 18,aL 20 19,aM 21 3,aR 22 (.ssl (.t 20) none (some (.t 21))),aM 4 22] (aS [aM 23 0,aM 24 0,aR 25 (.nilck (.t 24)),aF 26 0 25,aL 27 26,aM 28 3,aR 29 (.ssl (.t 27) (some (.t 28)) none),aR 30 (.nilck (.t 23)),aF 31 0 30,aU (.store 1 (.t 31) (.t 29))] (aS [aM 32 0,aM 33 0,aR 34 (.nilck (.t 33)),aF 35 1 34,aL 36 35,aM 37 36,aG 38 (.mv (.t 4)) 37 false,aG 39 (.call 76 [.t 38]) 37 false,aG 40 (.un .not (.t 39)) 37 false,aR 41 (.pick (.t 37) (.c (.bool true)) (.t 40)),aR 42 (.nilck (.t 32)),aF 43 1 42,aU (.store 1 (.t 43) (.t 41))] (aS [aM 44 4,aM 2 44] (.ret))))))),[.t 2]⟩
theorem h_aword:AX.compFn Tryz.prog 101=some c_aword:=by kernel_rfl
def c_avalid:AX.AFn:=⟨35,aS [aR 1 (.box 131 (.t 0)),aR 2 (.mv (.c (.bool false)))] (.seq (aS [aF 3 0 1,aL 4 3] (.block 0 (aS [aR 6 (.bin .eql (.t 4) (aI 0)),aM 5 6] (.cond (.t 5) (aS [aR 7 (.load true 3 (.t 1)),aR 8 (.build [.int .i64 0,.int .i64 0,.str []] []),aR 9 (.eq 2 [0,0,1] false (.t 7) (.t 8)),aM 2 9] (.ret)) (aS [aR 11 (.bin .eql (.t 4) (aI 1)),aM 10 11] (.cond (.t 10) (aS [aF 12 1 1,aL 13 12,aR 14 (.bin .geq (.t 13) (aI 0)),aM 15 14,aG 16 (.faddr 1 (.t 1)) 15 true,aG 17 (.load false 1 (.t 16)) 15 true,aG 18 (.bin .leq (.t 17) (aI 9007199254740992)) 15 true,aR 19 (.pick (.t 15) (.t 18) (.c (.bool false))),aM 20 19,aG 21 (.faddr 2 (.t 1)) 20 true,aG 22 (.load false 1 (.t 21)) 20 true,aG 23 (.bin .eql (.t 22) (.c (.str []))) 20 true,aR 24 (.pick (.t 20) (.t 23) (.c (.bool false))),aM 2 24] (.ret)) (aS [aR 26 (.bin .eql (.t 4) (aI 2)),aM 25 26] (.cond (.t 25) (aS [aF 27 1 1,aL 28 27,aR 29 (.bin .eql (.t 28) (aI 0)),aM 30 29,aG 31 (.faddr 2 (.t 1)) 30 true,aG 32 (.load false 1 (.t 31)) 30 true,aG 33 (.call 68 [.t 32]) 30 true,aR 34 (.pick (.t 30) (.t 33) (.c (.bool false))),aM 2 34] (.ret)) (.skip))))))))) (aS [aR 2 (.mv (.c (.bool false)))] (.ret))),[.t 2]⟩
theorem h_avalid:AX.compFn Tryz.prog 165=some c_avalid:=by kernel_rfl
theorem a_cmp (a b:List UInt8) (h:Hp):ACall Tryz.prog GT 74 [.str a,.str b] h fun r h'=>r = .int .i64 (cmpZ a b)∧h'=h:=by
 rw [←Adr.cmp_bytes]
 exact acall_imp (args2 r_str r_str) (fun w hg=>(Tryz.strings_Compare ⟨a.toArray⟩ ⟨b.toArray⟩ w).mono fun e w' ⟨h1,h2⟩=>⟨h1,by rw [h2]; exact Below.refl _ _⟩) (fun C=>rep_int.2 rfl) h
theorem a_indexAny (s:List UInt8) (hs:s.length≤2000000) (h:Hp):ACall Tryz.prog GT 126 [.str s,.str [46,91]] h fun r h'=>r = .int .i64 (Lib.indexAny s [46,91])∧h'=h:=
 acall_imp (args2 r_str r_str) (fun w hg=>indexAny_any ⟨s.toArray⟩ (by rw [size_mk]; omega) w) (fun C=>rep_int.2 rfl) h
theorem a_indexByte (s:List UInt8) (h:Hp):ACall Tryz.prog GT 129 [.str s,.int .u8 93] h fun r h'=>r = .int .i64 (Lib.indexByte s 93)∧h'=h:=
 acall_imp (args2 r_str r_int) (fun w hg=>(Tryz.strings_IndexByte ⟨s.toArray⟩ 93 w).mono fun e w' ⟨h1,h2⟩=>⟨h1,by rw [h2]; exact Below.refl _ _⟩) (fun C=>rep_int.2 rfl) h
theorem a_kind (s:List UInt8) (hs:s.length≤2000000) (h:Hp):ACall Tryz.prog GT 103 [.str s] h fun r h'=>r = .bool (Adr.kindB s)∧h'=h:=by
 refine pcall ?_ rfl (by simp [A.pure,A.data]) h
 refine acall_of mixedT h_akind (by simp [c_akind]) ?_
 dsimp only [c_akind]
 have hi:=fun h=>a_ident s hs h
 have hk:Adr.kindB s=(!Adr.reserved s&&Adr.ident s):=rfl
 have hr:∀ {G:Prop} (w:List UInt8),((s == w)=true→G)→((s == w)=false→G)→G:=fun w p q=>by
  cases e:s == w
  ·exact q e
  ·exact p e
 have res:∀ w,(s == w)=true→w∈Adr.reservedL→Adr.kindB s=false:=fun w e hw=>by
  rw [beq_iff_eq] at e; subst e
  rw [hk]
  unfold Adr.reserved
  rw [List.contains_iff_mem.2 hw]; rfl
 refine hr [109,111,100,117,108,101] (fun e1=>?_) fun e1=>?_
 ·refine run0 e1 ?_
  exact ⟨_,le_refl _,by rw [res _ e1 (by decide)]; rfl⟩
 refine hr [100,97,116,97] (fun e2=>?_) fun e2=>?_
 ·refine run0 (ai e1 e2) ?_
  exact ⟨_,le_refl _,by rw [res _ e2 (by decide)]; rfl⟩
 refine hr [118,97,114] (fun e3=>?_) fun e3=>?_
 ·refine run0 (ai e1 (ai e2 e3)) ?_
  exact ⟨_,le_refl _,by rw [res _ e3 (by decide)]; rfl⟩
 refine hr [108,111,99,97,108] (fun e4=>?_) fun e4=>?_
 ·refine run0 (ai e1 (ai e2 (ai e3 e4))) ?_
  exact ⟨_,le_refl _,by rw [res _ e4 (by decide)]; rfl⟩
 refine hr [101,97,99,104] (fun e5=>?_) fun e5=>?_
 ·refine run0 (ai e1 (ai e2 (ai e3 (ai e4 e5)))) ?_
  exact ⟨_,le_refl _,by rw [res _ e5 (by decide)]; rfl⟩
 refine hr [99,111,117,110,116] (fun e6=>?_) fun e6=>?_
 ·refine run0 (ai e1 (ai e2 (ai e3 (ai e4 (ai e5 e6))))) ?_
  exact ⟨_,le_refl _,by rw [res _ e6 (by decide)]; rfl⟩
 refine hr [114,101,109,111,116,101] (fun e7=>?_) fun e7=>?_
 ·refine run0 (ai e1 (ai e2 (ai e3 (ai e4 (ai e5 (ai e6 e7)))))) ?_
  exact ⟨_,le_refl _,by rw [res _ e7 (by decide)]; rfl⟩
 refine hr [111,117,116,112,117,116] (fun e8=>?_) fun e8=>?_
 ·refine run0 (ai e1 (ai e2 (ai e3 (ai e4 (ai e5 (ai e6 (ai e7 e8))))))) ?_
  exact ⟨_,le_refl _,by rw [res _ e8 (by decide)]; rfl⟩
 refine hr [112,97,116,104] (fun e9=>?_) fun e9=>?_
 ·refine run0 (ai e1 (ai e2 (ai e3 (ai e4 (ai e5 (ai e6 (ai e7 (ai e8 e9)))))))) ?_
  exact ⟨_,le_refl _,by rw [res _ e9 (by decide)]; rfl⟩
 refine hr [115,101,108,102] (fun e10=>?_) fun e10=>?_
 ·refine run0 (ai e1 (ai e2 (ai e3 (ai e4 (ai e5 (ai e6 (ai e7 (ai e8 (ai e9 e10))))))))) ?_
  exact ⟨_,le_refl _,by rw [res _ e10 (by decide)]; rfl⟩
 refine hr [99,104,97,110,103,101] (fun e11=>?_) fun e11=>?_
 ·refine run0 (ai e1 (ai e2 (ai e3 (ai e4 (ai e5 (ai e6 (ai e7 (ai e8 (ai e9 (ai e10 e11)))))))))) ?_
  exact ⟨_,le_refl _,by rw [res _ e11 (by decide)]; rfl⟩
 have hres:Adr.reserved s=false:=by
  have h1:=beq_eq_false_iff_ne.1 e1; have h2:=beq_eq_false_iff_ne.1 e2; have h3:=beq_eq_false_iff_ne.1 e3; have h4:=beq_eq_false_iff_ne.1 e4
  have h5:=beq_eq_false_iff_ne.1 e5; have h6:=beq_eq_false_iff_ne.1 e6; have h7:=beq_eq_false_iff_ne.1 e7; have h8:=beq_eq_false_iff_ne.1 e8
  have h9:=beq_eq_false_iff_ne.1 e9; have h10:=beq_eq_false_iff_ne.1 e10; have h11:=beq_eq_false_iff_ne.1 e11
  unfold Adr.reserved
  rw [Bool.eq_false_iff]
  intro hc
  rw [List.contains_iff_mem] at hc
  unfold Adr.reservedL at hc
  simp only [List.mem_cons,List.not_mem_nil,or_false] at hc
  rcases hc with e | e | e | e | e | e | e | e | e | e | e <;> simp_all
 rw [hk,hres]
 refine run0 (ai e1 (ai e2 (ai e3 (ai e4 (ai e5 (ai e6 (ai e7 (ai e8 (ai e9 (ai e10 e11)))))))))) ?_
 refine use (hi _) ?_
 refine run0 ti ?_
 exact ⟨_,le_refl _,by simp [tupA_1]⟩
theorem w_word (r:Adr.Rd) (hl:r.rest.length≤2000000) {h:Hp} {i:Nat} (hb:h.b[i]?=some (adB r)) :
  ACall Tryz.prog GT 101 [.ptr i 0] h fun v h'=>v = .str (Adr.wordP r).1∧h'=⟨h.b.set i (adB (Adr.wordP r).2),h.t⟩:=by
 have key:ACall Tryz.prog GT 101 [.ptr 0 0] ⟨[adB r],[]⟩ fun v h'=>∃ b',h'.b[0]?=some b'∧v = .str (Adr.wordP r).1∧b'=adB (Adr.wordP r).2:=by
  obtain ⟨rest,bad⟩:=r
  dsimp only at hl
  refine acall_of mixedT h_aword (by simp [c_aword]) ?_
  dsimp only [c_aword]
  unfold adB
  have hW:Adr.wordP ⟨rest,bad⟩=(rest.takeWhile (fun c=>!Adr.stopB c),⟨rest.dropWhile (fun c=>!Adr.stopB c),bad||!Adr.ident (rest.takeWhile (fun c=>!Adr.stopB c))⟩):=rfl
  rw [hW]
  have hi:=fun (s:List UInt8) (hs:s.length≤2000000) h=>a_ident s hs h
  refine run0 ti ?_
  refine use (a_indexAny rest hl _) ?_
  rcases Adr.indexAny_word rest with ⟨h1,h2,h3⟩ | ⟨n,h1,h2,h3,h4⟩
  ·rw [h1,h2,h3]
   have lm:(-1:Int) < 0:=by decide
   have l0:(0:Int)≤(rest.length:Int):=by omega
   have td:rest.drop rest.length=[]:=List.drop_length
   cases bad
   ·refine run0 (ai lm (ai l0 td)) ?_
    refine use (hi rest hl _) ?_
    refine run0 ti ?_
    exact ⟨_,le_refl _,_,rfl,rfl,rfl⟩
   ·refine run0 (ai lm (ai l0 td)) ?_
    exact ⟨_,le_refl _,_,rfl,rfl,rfl⟩
  ·rw [h1,h3,h4]
   have lm:¬ (n:Int) < 0:=by omega
   have l0:(0:Int)≤(n:Int):=by omega
   have l1:(n:Int)≤(rest.length:Int):=by omega
   have ht:(rest.take n).length≤2000000:=by rw [List.length_take]; omega
   cases bad
   ·refine run0 (ai lm (ai l0 l1)) ?_
    refine use (hi _ ht _) ?_
    refine run0 ti ?_
    exact ⟨_,le_refl _,_,rfl,rfl,rfl⟩
   ·refine run0 (ai lm (ai l0 l1)) ?_
    exact ⟨_,le_refl _,_,rfl,rfl,rfl⟩
 refine (ACall.lift1 key rfl (adB_loc r) ?_ hb).mono ?_
 ·rintro v b' ⟨rfl,rfl⟩; exact ⟨rfl,adB_loc _⟩
 ·rintro v h' ⟨b',⟨rfl,rfl⟩,rfl⟩; exact ⟨rfl,rfl⟩
def Adr.K.A (k:Adr.K):A:=.agg [.int .i64 k.kind,.int .i64 k.num,.str k.str]
theorem a_avalid (k:Adr.K) (hs:k.str.length≤2000000) (h:Hp):ACall Tryz.prog GT 165 [Adr.K.A k] h fun r h'=>r = .bool (Adr.keyOk k)∧h'=h:=by
 obtain ⟨kd,nm,st⟩:=k
 dsimp only at hs
 unfold Adr.K.A
 refine pcall ?_ rfl (by simp [A.pure,A.data]) h
 refine acall_of mixedT h_avalid (by simp [c_avalid]) ?_
 dsimp only [c_avalid]
 have hv:=fun h=>a_valid st hs h
 have hK:Adr.keyOk ⟨kd,nm,st⟩=if kd=1 then decide (0≤nm)&&decide (nm≤9007199254740992)&&st == [] else if kd=2 then nm == 0&&Str.valid st else (⟨kd,nm,st⟩:Adr.K) == Adr.K.none:=rfl
 rw [hK]
 by_cases k0:kd=0
 ·subst k0
  have e0:((0:Int) == 0)=true:=by decide
  rw [if_neg (by decide),if_neg (by decide)]
  have hn:((⟨0,nm,st⟩:Adr.K) == Adr.K.none)=(nm == 0&&st == []):=by
   rw [Bool.eq_iff_iff,beq_iff_eq,Bool.and_eq_true,beq_iff_eq,beq_iff_eq]
   unfold Adr.K.none
   simp
  refine run0 e0 ?_
  exact ⟨_,le_refl _,by rw [hn]; simp [tupA_1]⟩
 have e0:(kd == 0)=false:=by simp [k0]
 by_cases k1:kd=1
 ·subst k1
  have e1:((1:Int) == 1)=true:=by decide
  have e10:((1:Int) == 0)=false:=by decide
  rw [if_pos rfl]
  by_cases n0:0≤nm
  ·have g0:nm≥0:=n0
   by_cases n1:nm≤9007199254740992
   ·refine run0 (ai e10 (ai e1 (ai g0 n1))) ?_
    exact ⟨_,le_refl _,by rw [decide_eq_true n0,decide_eq_true n1]; rfl⟩
   ·refine run0 (ai e10 (ai e1 (ai g0 n1))) ?_
    exact ⟨_,le_refl _,by rw [decide_eq_false n1,Bool.and_false]; rfl⟩
  ·have g0:¬ nm≥0:=n0
   refine run0 (ai e10 (ai e1 g0)) ?_
   exact ⟨_,le_refl _,by rw [decide_eq_false n0]; rfl⟩
 have e1:(kd == 1)=false:=by simp [k1]
 rw [if_neg k1]
 by_cases k2:kd=2
 ·subst k2
  have e20:((2:Int) == 0)=false:=by decide
  have e21:((2:Int) == 1)=false:=by decide
  have e2:((2:Int) == 2)=true:=by decide
  rw [if_pos rfl]
  cases hn:nm == 0
  ·refine run0 (ai e20 (ai e21 (ai e2 hn))) ?_
   exact ⟨_,le_refl _,rfl⟩
  ·refine run0 (ai e20 (ai e21 (ai e2 hn))) ?_
   refine use (hv _) ?_
   refine run0 (ai e20 (ai e21 (ai e2 hn))) ?_
   exact ⟨_,le_refl _,rfl⟩
 have e2:(kd == 2)=false:=by simp [k2]
 rw [if_neg k2]
 have hn:((⟨kd,nm,st⟩:Adr.K) == Adr.K.none)=false:=by
  rw [beq_eq_false_iff_ne]
  unfold Adr.K.none
  intro e; injection e with e _ _; exact k0 e
 rw [hn]
 refine run0 (ai e0 (ai e1 e2)) ?_
 exact ⟨_,le_refl _,rfl⟩
end AX
end Go.Proofs.YtdgcbckcameggaaGreatDoor

namespace Go.Proofs.YtdgcbckcameggaaGreatDoor
open Go.RowKit
namespace Str
theorem one_width (l:List UInt8) (hl:l≠[]) (h:(one l).2.2=0):(one l).2.1≤l.length:=by
 have hp:=List.length_pos_iff.2 hl
 by_cases h92:l.getD 0 0=92
 ·obtain ⟨⟨c,n,e⟩,he⟩:∃ x,escp (l.drop 1)=x:=⟨_,rfl⟩
  have h1:=one_esc l h92 c n e he
  rw [h1] at h ⊢
  by_cases h0:e=0
  ·rw [if_neg (by simp [h0])]
   have:=escp_len (l.drop 1) (by rw [he]; exact h0)
   rw [he,List.length_drop] at this
   dsimp only at this ⊢
   omega
  ·rw [if_pos h0] at h
   exact absurd h h0
 ·obtain ⟨⟨c,n⟩,hd⟩:∃ x,Lib.decodeL l=x:=⟨_,rfl⟩
  have hc:c≠92:=by
   rcases dec_cases l with ⟨q1,q2⟩ | ⟨q1,q2⟩
   ·rw [hd] at q2
    injection q2 with q2 q3
    intro e
    apply h92
    rw [←UInt8.toNat_inj]
    have:(l.getD 0 0).toNat=92:=by omega
    simpa using this
   ·rw [hd] at q2
    dsimp only at q2
    omega
  by_cases hbad:(c=65533∧n=1)∨c < 32∨c=127
  ·rw [one_bad l c n hd hc hbad] at h
   simp at h
  ·rw [one_ok l hl c n hd hc hbad]
   have:=Lib.decodeL_le l hl
   rw [hd] at this
   exact this
theorem unq_width:∀ (f:Nat) (l acc:List UInt8) (i N:Nat),i+l.length=N→(unq f l acc i).2.2=0→(unq f l acc i).2.1≤N
 | 0,l,acc,i,N,hN,h=>by
  unfold unq at h ⊢
  simp at h ⊢
 | f+1,l,acc,i,N,hN,h=>by
  unfold unq at h ⊢
  split
  ·next h1=>rw [if_pos h1] at h; simp at h
  ·next h1 =>
   rw [if_neg h1] at h
   have hp:=List.length_pos_iff.2 h1
   split
   ·next h2 =>
    rw [if_pos h2] at h
    split
    ·exact Nat.zero_le _
    ·dsimp only; omega
   ·next h2 =>
    rw [if_neg h2] at h
    split
    ·exact Nat.zero_le _
    ·next h3 =>
     rw [if_neg h3] at h
     have:=one_width l h1 (by simpa using h3)
     exact unq_width f _ _ _ N (by rw [List.length_drop]; omega) h
theorem unquote_width (l:List UInt8) (h:(unquote l).2.2=0):(unquote l).2.1≤l.length:=by
 unfold unquote at h ⊢
 split
 ·exact Nat.zero_le _
 ·next h1 =>
  rw [if_neg h1] at h
  split
  ·exact Nat.zero_le _
  ·next h2 =>
   rw [if_neg h2] at h
   have hp:=List.length_pos_iff.2 h1
   exact unq_width _ _ _ _ l.length (by rw [List.length_drop]; omega) h
end Str
namespace AX
def c_rstep:AX.AFn:=⟨11,aS [aR 2 (.alloc 158 [.str [],.int .i64 0,.int .i64 0,.str []])] (aS [aM 4 0,aR 5 (.call 101 [.t 4]),aR 6 (.build [.str [],.int .i64 0,.int .i64 0,.str []] [(0,1,.t 5)]),aR 3 (.alloc 158 [.str [],.int .i64 0,.int .i64 0,.str []]),aU (.store 4 (.t 3) (.t 6))] (aS [aM 7 0,aR 8 (.call 102 [.t 7]),aF 9 1 3,aU (.store 3 (.t 9) (.t 8))] (aS [aR 10 (.load true 4 (.t 3)),aU (.store 4 (.t 2) (.t 10))] (.ret)))),[.c 2 true 4]⟩
theorem h_rstep:AX.compFn Tryz.prog 99=some c_rstep:=by kernel_rfl
theorem glob_of {w:World} (g:GT w):Glob w:=⟨g.tabs,g.tz⟩
theorem a_unquote (s:List UInt8) (hs:s.length≤2000000) (h:Hp):ACall Tryz.prog GT 127 [.str s] h fun r h'=>r = .tup [.str (Str.unquote s).1,.int .i64 (Str.unquote s).2.1,.int .i64 (Str.unquote s).2.2]∧h'=h:=
 acall_imp (args1 r_str) (fun w hg=>unquote_any ⟨s.toArray⟩ w (by rw [size_mk]; exact hs) (glob_of hg)) (fun C=>rep_tup.2 ⟨_,rfl,repL_cons.2 ⟨_,_,rfl,rep_str.2 rfl,repL_cons.2 ⟨_,_,rfl,rep_int.2 rfl,repL_cons.2 ⟨_,_,rfl,rep_int.2 rfl,repL_nil.2 rfl⟩⟩⟩⟩) h
theorem a_quote (s:List UInt8) (hs:s.length≤2000000) (h:Hp):ACall Tryz.prog GT 128 [.str s] h fun r h'=>r = .str (Str.quote s)∧h'=h:=
 acall_imp (args1 r_str) (fun w hg=>quote_any ⟨s.toArray⟩ w (by rw [size_mk]; exact hs) (glob_of hg)) (fun C=>rep_str.2 rfl) h
theorem pre_begins (s p:List UInt8):(decide (p.length≤s.length)&&s.take p.length == p)=Adr.begins s p:=by
 unfold Adr.begins
 rw [Bool.eq_iff_iff,List.isPrefixOf_iff_prefix,List.prefix_iff_eq_take,Bool.and_eq_true,decide_eq_true_eq,beq_iff_eq]
 constructor
 ·rintro ⟨h1,h2⟩; exact h2.symm
 ·intro h2
  exact ⟨by have:=congrArg List.length h2; rw [List.length_take] at this; omega,h2.symm⟩
theorem w_key (r:Adr.Rd) (hl:r.rest.length≤2000000) {h:Hp} {i:Nat} (hb:h.b[i]?=some (adB r)) :
  ACall Tryz.prog GT 102 [.ptr i 0] h fun v h'=>v=Adr.K.A (Adr.keyP r).1∧h'=⟨h.b.set i (adB (Adr.keyP r).2),h.t⟩:=by
 have key:ACall Tryz.prog GT 102 [.ptr 0 0] ⟨[adB r],[]⟩ fun v h'=>∃ b',h'.b[0]?=some b'∧v=Adr.K.A (Adr.keyP r).1∧b'=adB (Adr.keyP r).2:=by
  refine fo ?_
  have hh:=fun h hb=>w_has [91] r (h:=h) (i:=0) hb
  obtain ⟨Z,hZ⟩:∃ Z,Adr.keyP r=Z:=⟨_,rfl⟩
  rw [hZ]
  unfold Adr.keyP at hZ
  unfold Adr.hasP at hh
  unfold adB at hh ⊢
  obtain ⟨rest,bad⟩:=r
  dsimp only at hl hh hZ
  cases bad
  rotate_left
  ·rw [if_pos rfl] at hZ
   subst hZ
   refine run0 ti ?_
   exact ⟨_,le_refl _,_,rfl,rfl,rfl⟩
  rw [if_neg (by decide)] at hZ
  refine run0 ti ?_
  refine use (hh _ rfl) ?_
  cases hB:Adr.begins rest [91]
  ·rw [hB,if_pos rfl] at hZ
   subst hZ
   refine run0 ti ?_
   exact ⟨_,le_refl _,_,rfl,rfl,rfl⟩
  rw [hB,if_neg (by decide)] at hZ
  obtain ⟨t,ht⟩:∃ t,rest.drop 1=t:=⟨_,rfl⟩
  have ht1:rest.drop [91].length=t:=ht
  have htl:t.length≤2000000:=by rw [←ht,List.length_drop]; omega
  rw [ht] at hZ
  have hp:=fun h=>a_hasPrefix t [34] h
  rw [pre_begins] at hp
  have hu:=fun h=>a_unquote t htl h
  have hsk:=fun (q:Adr.Rd) h hb=>w_skip [93] q (h:=h) (i:=0) hb
  unfold adB at hsk
  refine run0 (ai ht1 ht) ?_
  refine use (hp _) ?_
  cases hQ:Adr.begins t [34]
  ·rw [hQ,if_neg (by decide)] at hZ
   refine run0 ti ?_
   refine use (a_indexByte t _) ?_
   have hk:=Adr.indexByte_key t
   obtain ⟨n,hn,hnle,hix⟩:∃ n:Nat,(if t.all (· != 93) then 0 else (t.takeWhile (· != 93)).length)=n∧n≤t.length∧(Lib.indexByte t 93=(n:Int)∨(Lib.indexByte t 93=-1∧n=0)):=by
    rcases hk with ⟨k1,k2⟩ | ⟨k1,k2,k3⟩
    ·exact ⟨0,by rw [if_pos k1],Nat.zero_le _,.inr ⟨k2,rfl⟩⟩
    ·exact ⟨_,by rw [k1,if_neg (by decide)],k3,.inl k2⟩
   rw [hn] at hZ
   have hmax:(if (0:Int) > Lib.indexByte t 93 then 0 else Lib.indexByte t 93)=(n:Int):=by
    rcases hix with e | ⟨e,e2⟩
    ·rw [e,if_neg (by omega)]
    ·rw [e,e2]; rfl
   have htk:(t.take n).length≤2000000:=by rw [List.length_take]; omega
   have hnp:=fun h=>a_numParse (t.take n) htk h
   have l0:(0:Int)≤(n:Int):=by omega
   have l1:(n:Int)≤(t.length:Int):=by omega
   obtain ⟨⟨x,e⟩,hx⟩:∃ q,Num.parse (t.take n)=q:=⟨_,rfl⟩
   rw [hx] at hnp hZ
   dsimp only at hnp hZ
   refine run0 (ai hmax (ai l0 l1)) ?_
   refine use (hnp _) ?_
   have hbad:∃ b,(e != 0||decide (x < 0))=b:=⟨_,rfl⟩
   obtain ⟨b,hb⟩:=hbad
   rw [hb] at hZ
   subst hZ
   by_cases he:e=0
   ·have e1:(e != 0)=false:=by simp [he]
    rw [e1,Bool.false_or] at hb
    refine run0 (ai e1 (ai hb (ai l0 l1))) ?_
    refine use (hsk ⟨t.drop n,b⟩ _ rfl) ?_
    refine run0 ti ?_
    exact ⟨_,le_refl _,_,rfl,rfl,rfl⟩
   ·have e1:(e != 0)=true:=by simp [he]
    rw [e1,Bool.true_or] at hb
    subst hb
    refine run0 (ai e1 (ai l0 l1)) ?_
    refine use (hsk ⟨t.drop n,true⟩ _ rfl) ?_
    refine run0 ti ?_
    exact ⟨_,le_refl _,_,rfl,rfl,rfl⟩
  ·rw [hQ,if_pos rfl] at hZ
   refine run0 ti ?_
   refine use (hu _) ?_
   have hw:=Str.unquote_width t
   have hv:=Str.unquote_valid t
   obtain ⟨⟨us,un,ue⟩,hue⟩:∃ q,Str.unquote t=q:=⟨_,rfl⟩
   rw [hue] at hZ hw hv ⊢
   dsimp only at hZ hw hv ⊢
   by_cases he:ue=0
   rotate_left
   ·have e1:(ue != 0)=true:=by simp [he]
    rw [if_pos (.inl he)] at hZ
    subst hZ
    refine run0 e1 ?_
    exact ⟨_,le_refl _,_,rfl,rfl,rfl⟩
   have e1:(ue != 0)=false:=by simp [he]
   have hul:us.length≤2000000:=by
    have:=hv he
    unfold Str.valid at this
    rw [Bool.and_eq_true,decide_eq_true_eq] at this
    omega
   have l1:(un:Int)≤(t.length:Int):=by have:=hw he; omega
   have l0:(0:Int)≤(un:Int):=by omega
   refine run0 (ai e1 (ai l0 l1)) ?_
   refine use (a_quote us hul _) ?_
   cases hne:Str.quote us != t.take un
   ·rw [if_neg (by rintro (h | h); exact h he; rw [bne_eq_false_iff_eq] at hne; exact h hne)] at hZ
    subst hZ
    refine run0 (ai e1 (ai hne (ai l0 l1))) ?_
    refine use (hsk ⟨t.drop un,false⟩ _ rfl) ?_
    refine run0 ti ?_
    exact ⟨_,le_refl _,_,rfl,rfl,rfl⟩
   ·rw [if_pos (.inr (bne_iff_ne.1 hne))] at hZ
    subst hZ
    refine run0 (ai e1 (ai hne (ai l0 l1))) ?_
    exact ⟨_,le_refl _,_,rfl,rfl,rfl⟩
 refine (ACall.lift1 key rfl (adB_loc r) ?_ hb).mono ?_
 ·rintro v b' ⟨rfl,rfl⟩; exact ⟨rfl,adB_loc _⟩
 ·rintro v h' ⟨b',⟨rfl,rfl⟩,rfl⟩; exact ⟨rfl,rfl⟩
end AX
namespace Adr
theorem has_len (p:List UInt8) (r:Rd):(hasP p r).2.rest.length≤r.rest.length:=by
 unfold hasP; split
 ·rw [List.length_drop]; omega
 ·exact Nat.le_refl _
theorem has_less (p:List UInt8) (r:Rd) (h:begins r.rest p=true):(hasP p r).2.rest.length+p.length=r.rest.length:=by
 have:=begins_len h
 unfold hasP; rw [if_pos h]; dsimp only; rw [List.length_drop]; omega
theorem takeW_len {p:UInt8→Bool} (s:List UInt8):(s.takeWhile p).length≤s.length:=List.Sublist.length_le (List.takeWhile_sublist p)
theorem dropW_len {p:UInt8→Bool} (s:List UInt8):(s.dropWhile p).length≤s.length:=List.Sublist.length_le (List.dropWhile_sublist p)
theorem word_len (r:Rd):(wordP r).2.rest.length≤r.rest.length∧(wordP r).1.length≤r.rest.length:=⟨dropW_len _,takeW_len _⟩
theorem skip_len (p:List UInt8) (r:Rd):(skipP p r).rest.length≤r.rest.length:=by
 unfold skipP; split
 ·dsimp only; rw [List.length_drop]; omega
 ·exact Nat.le_refl _
theorem key_len (r:Rd):(keyP r).2.rest.length≤r.rest.length:=by
 unfold keyP
 split
 ·exact Nat.le_refl _
 ·split
  ·exact Nat.le_refl _
  ·dsimp only
   split
   ·split
    ·dsimp only; rw [List.length_drop]; omega
    ·refine Nat.le_trans (skip_len _ _) ?_
     dsimp only; rw [List.length_drop,List.length_drop]; omega
   ·refine Nat.le_trans (skip_len _ _) ?_
    dsimp only; rw [List.length_drop,List.length_drop]; omega
theorem step_len (r:Rd):(stepP r).2.rest.length≤r.rest.length:=Nat.le_trans (key_len _) (word_len r).1
end Adr
namespace AX
theorem w_step (r:Adr.Rd) (hl:r.rest.length≤2000000) {h:Hp} {i:Nat} (hb:h.b[i]?=some (adB r)) :
  ACall Tryz.prog GT 99 [.ptr i 0] h fun v h'=>v = .agg (Adr.stepP r).1.cells∧h'=⟨h.b.set i (adB (Adr.stepP r).2),h.t⟩:=by
 have key:ACall Tryz.prog GT 99 [.ptr 0 0] ⟨[adB r],[]⟩ fun v h'=>∃ b',h'.b[0]?=some b'∧v = .agg (Adr.stepP r).1.cells∧b'=adB (Adr.stepP r).2:=by
  refine acall_of mixedT h_rstep (by simp [c_rstep]) ?_
  dsimp only [c_rstep]
  have hw:=fun h hb=>w_word r hl (h:=h) (i:=0) hb
  have hk:=fun h hb=>w_key (Adr.wordP r).2 (Nat.le_trans (Adr.word_len r).1 hl) (h:=h) (i:=0) hb
  have hS:Adr.stepP r=(⟨(Adr.wordP r).1,(Adr.keyP (Adr.wordP r).2).1⟩,(Adr.keyP (Adr.wordP r).2).2):=rfl
  rw [hS]
  obtain ⟨⟨w,r1⟩,h1⟩:∃ q,Adr.wordP r=q:=⟨_,rfl⟩
  rw [h1] at hw hk ⊢
  dsimp only at hw hk ⊢
  obtain ⟨⟨⟨kd,kn,ks⟩,r2⟩,h2⟩:∃ q,Adr.keyP r1=q:=⟨_,rfl⟩
  rw [h2] at hk ⊢
  dsimp only [Adr.K.A] at hk ⊢
  unfold adB at hw hk ⊢
  refine run0 ti ?_
  refine use (hw _ rfl) ?_
  refine run0 ti ?_
  refine use (hk _ rfl) ?_
  refine run0 ti ?_
  exact ⟨_,le_refl _,_,rfl,rfl,rfl⟩
 refine (ACall.lift1 key rfl (adB_loc r) ?_ hb).mono ?_
 ·rintro v b' ⟨rfl,rfl⟩; exact ⟨rfl,adB_loc _⟩
 ·rintro v h' ⟨b',⟨rfl,rfl⟩,rfl⟩; exact ⟨rfl,rfl⟩
theorem a_parse (s:List UInt8) (hs:s.length≤2000000) (h:Hp):ACall Tryz.prog GT 75 [.str s] h fun r h'=>r = .tup [.agg (Adr.parse s).1.cells,.int .i64 (Adr.parse s).2]∧h'=h:=by
 rw [←Adr.parse_eq]
 refine pcall ?_ rfl (by simp [A.pure,A.data]) h
 refine fo ?_
 obtain ⟨⟨M,RM⟩,hM⟩:∃ q,Adr.modsP (s.length+1) ⟨s,false⟩ []=q:=⟨_,rfl⟩
 obtain ⟨F,hF⟩:∃ F,Adr.parseP s=F:=⟨_,rfl⟩
 rw [hF]
 unfold Adr.parseP at hF
 rw [hM] at hF
 dsimp only at hF
 refine run0 ti ?_
 refine awp_loop (fun mm ts h=>∃ (r:Adr.Rd) (l:List Adr.Step) (W:Nat) (o:Own) (t:List (TypeId×Nat×Nat)),r.rest.length < mm∧mm+l.length=s.length+1∧Adr.modsP mm r l=(M,RM) ∧
  h=⟨[.cells 133 [.sl 0 .nil [],.bool false,.str [],.str [],.int .i64 0,.int .i64 0,.str []],.cells 156 [.str r.rest,.bool r.bad],.cells 133 [.sl W o (l.map Adr.Step.cells),.bool false,.str [],.str [],.int .i64 0,.int .i64 0,.str []]],t⟩ ∧
  Gs 158 4 0 ⟨[],t⟩ (l.map Adr.Step.cells) (.sl W o (l.map Adr.Step.cells))∧ts 2 = .ptr 0 0∧ts 3 = .int .i64 0∧ts 4 = .ptr 1 0∧ts 5 = .ptr 2 0) (s.length+1) ?_ ?_
 ·exact ⟨⟨s,false⟩,[],0,.nil,[],by dsimp only; omega,by simp,hM,rfl,.inl ⟨rfl,rfl⟩,by (exact ev0 ti),by (exact ev0 ti),by (exact ev0 ti),by (exact ev0 ti)⟩
 rintro mm ts h ⟨r,l,W,o,t,hrm,hml,hmod,rfl,gX,t2,t3,t4,t5⟩
 cases mm with
 | zero=>omega
 | succ f =>
 unfold Adr.modsP at hmod
 by_cases hgo:r.bad=false∧Adr.begins r.rest Adr.modW=true
 ·rw [if_pos hgo] at hmod
  have hmw:Adr.modW=[109,111,100,117,108,101,46]:=rfl
  have cH:=fun h hb=>w_has Adr.modW r (h:=h) (i:=1) hb
  have l1:=Adr.has_less Adr.modW r hgo.2
  have hh1:(Adr.hasP Adr.modW r).1=true:=by unfold Adr.hasP; rw [if_pos hgo.2]
  rw [hh1] at cH
  have l7:Adr.modW.length=7:=rfl
  have hr0:r.bad=false:=hgo.1
  obtain ⟨r1,hr1⟩:∃ q,(Adr.hasP Adr.modW r).2=q:=⟨_,rfl⟩
  rw [hr1] at cH l1 hmod
  have cS:=fun h hb=>w_step r1 (by omega) (h:=h) (i:=1) hb
  have l2:=Adr.step_len r1
  obtain ⟨⟨⟨nm,⟨kd,kn,ks⟩⟩,r2⟩,hr2⟩:∃ q,Adr.stepP r1=q:=⟨_,rfl⟩
  rw [hr2] at cS l2 hmod
  dsimp only [Adr.Step.cells] at cS l2 hmod
  have cK:=fun h hb=>w_skip [46] r2 (h:=h) (i:=1) hb
  have l3:=Adr.skip_len [46] r2
  obtain ⟨r3,hr3⟩:∃ q,Adr.skipP [46] r2=q:=⟨_,rfl⟩
  rw [hr3] at cK l3 hmod
  unfold adB at cH cS cK
  rw [hmw] at cH
  rw [hr0] at cH
  obtain ⟨W',o',t',hX,gX',_⟩:=gX.grow 48 [.str nm,.int .i64 kd,.int .i64 kn,.str ks] (by rw [List.length_map]; omega) (by decide)
  have hcat:l.map Adr.Step.cells++[[.str nm,.int .i64 kd,.int .i64 kn,.str ks]]=(l++[(⟨nm,⟨kd,kn,ks⟩⟩:Adr.Step)]).map Adr.Step.cells:=by rw [List.map_append]; rfl
  rw [hcat] at gX'
  simp only [hcat] at hX
  rw [hr0]
  refine run0 (ai t2 (ai t3 (ai t4 t5))) ?_
  refine use (cH _ rfl) ?_
  refine run0 (ai t2 (ai t3 (ai t4 t5))) ?_
  refine use (cS _ rfl) ?_
  refine run0 (ai t2 (ai t3 (ai t4 (ai t5 hX)))) ?_
  refine use (cK _ rfl) ?_
  refine run0 (ai t2 (ai t3 (ai t4 t5))) ?_
  exact ⟨f,by omega,r3,l++[(⟨nm,⟨kd,kn,ks⟩⟩:Adr.Step)],W',o',t',by omega,by simp; omega,hmod,rfl,gX',by (exact ev0 t2),by (exact ev0 t3),by (exact ev0 t4),by (exact ev0 t5)⟩
 ·rw [if_neg hgo] at hmod
  injection hmod with hm1 hm2
  subst hm1; subst hm2
  have cD:=fun h hb=>w_has Adr.dataW r (h:=h) (i:=1) hb
  have l1:=Adr.has_len Adr.dataW r
  obtain ⟨⟨dt,r1⟩,hr1⟩:∃ q,Adr.hasP Adr.dataW r=q:=⟨_,rfl⟩
  rw [hr1] at cD l1 hF
  dsimp only at cD l1 hF
  have cT:=fun h hb=>w_word r1 (by omega) (h:=h) (i:=1) hb
  have l2:=Adr.word_len r1
  obtain ⟨⟨ty,r2⟩,hr2⟩:∃ q,Adr.wordP r1=q:=⟨_,rfl⟩
  rw [hr2] at cT l2 hF
  dsimp only at cT l2 hF
  have cK:=fun h hb=>w_skip [46] r2 (h:=h) (i:=1) hb
  have l3:=Adr.skip_len [46] r2
  obtain ⟨r3,hr3⟩:∃ q,Adr.skipP [46] r2=q:=⟨_,rfl⟩
  rw [hr3] at cK l3 hF
  have cN:=fun h hb=>w_word r3 (by omega) (h:=h) (i:=1) hb
  have l4:=Adr.word_len r3
  obtain ⟨⟨na,r4⟩,hr4⟩:∃ q,Adr.wordP r3=q:=⟨_,rfl⟩
  rw [hr4] at cN l4 hF
  dsimp only at cN l4 hF
  have cY:=fun h hb=>w_key r4 (by omega) (h:=h) (i:=1) hb
  have l5:=Adr.key_len r4
  obtain ⟨⟨⟨kd,kn,ks⟩,⟨re,ba⟩⟩,hr5⟩:∃ q,Adr.keyP r4=q:=⟨_,rfl⟩
  rw [hr5] at cY l5 hF
  dsimp only [Adr.K.A] at cY l5 hF
  have ck:=fun h=>a_kind ty (by omega) h
  unfold adB at cD cT cK cN cY
  have hdw:Adr.dataW=[100,97,116,97,46]:=rfl
  rw [hdw] at cD
  have start:∀ {G:Prop},(r.bad=true→G)→(r.bad=false→Adr.begins r.rest Adr.modW=false→G)→G:=fun p q=>by
   cases hb:r.bad
   ·refine q hb ?_
    cases hB:Adr.begins r.rest Adr.modW
    ·rfl
    ·exact absurd ⟨hb,hB⟩ hgo
   ·exact p hb
  have lx:=Gs.le gX
  refine start (fun hb=>?_) (fun hb hB=>?_)
  ·rw [hb] at cD ⊢
   refine run0 (ai t2 (ai t3 (ai t4 t5))) ?_
   refine use (cD _ rfl) ?_
   refine run0 (ai t2 (ai t3 (ai t4 t5))) ?_
   refine use (cT _ rfl) ?_
   refine run0 (ai t2 (ai t3 (ai t4 t5))) ?_
   refine use (cK _ rfl) ?_
   refine run0 (ai t2 (ai t3 (ai t4 t5))) ?_
   refine use (cN _ rfl) ?_
   refine run0 (ai t2 (ai t3 (ai t4 t5))) ?_
   refine use (cY _ rfl) ?_
   have zle:leL [.sl 0 .nil [],.bool false,.str [],.str [],.int .i64 0,.int .i64 0,.str []] Adr.Ad.zero.cells:=⟨⟨rfl,.inr rfl,.inl rfl⟩,rfl,rfl,rfl,rfl,rfl,rfl,trivial⟩
   cases ba
   rotate_left
   ·rw [if_pos (.inl rfl)] at hF
    subst hF
    refine run0 (ai t2 (ai t3 (ai t4 t5))) ?_
    exact ⟨.tup [.agg Adr.Ad.zero.cells,.int .i64 2],⟨zle,rfl,trivial⟩,rfl⟩
   cases hre:re != []
   rotate_left
   ·rw [if_pos (.inr (.inl (bne_iff_ne.1 hre)))] at hF
    subst hF
    refine run0 (ai t2 (ai t3 (ai t4 (ai t5 hre)))) ?_
    exact ⟨.tup [.agg Adr.Ad.zero.cells,.int .i64 2],⟨zle,rfl,trivial⟩,rfl⟩
   refine run0 (ai t2 (ai t3 (ai t4 (ai t5 hre)))) ?_
   refine use (ck _) ?_
   cases hkb:Adr.kindB ty
   ·rw [if_pos (.inr (.inr hkb))] at hF
    subst hF
    refine run0 (ai t2 (ai t3 (ai t4 t5))) ?_
    exact ⟨.tup [.agg Adr.Ad.zero.cells,.int .i64 2],⟨zle,rfl,trivial⟩,rfl⟩
   rw [if_neg (by rintro (h | h | h); cases h; rw [bne_eq_false_iff_eq] at hre; exact h hre; rw [hkb] at h; cases h)] at hF
   have lm:(l.map Adr.Step.cells).length=l.length:=List.length_map ..
   by_cases hlen:(l.length:Int) > 16
   ·rw [if_pos (by omega)] at hF
    subst hF
    refine run0 (ai t2 (ai t3 (ai t4 (ai t5 (ai lm hlen))))) ?_
    exact ⟨.tup [.agg Adr.Ad.zero.cells,.int .i64 4],⟨zle,rfl,trivial⟩,rfl⟩
   ·rw [if_neg (by omega)] at hF
    subst hF
    refine run0 (ai t2 (ai t3 (ai t4 (ai t5 (ai lm hlen))))) ?_
    exact ⟨.tup [.agg (Adr.Ad.cells ⟨l,dt,ty,na,⟨kd,kn,ks⟩⟩),.int .i64 0],⟨⟨lx,rfl,rfl,rfl,rfl,rfl,rfl,trivial⟩,rfl,trivial⟩,rfl⟩
  ·rw [hb] at cD ⊢
   have cH:=fun h hb=>w_has Adr.modW r (h:=h) (i:=1) hb
   have hh1:Adr.hasP Adr.modW r=(false,r):=by unfold Adr.hasP; rw [hB,if_neg (by decide)]
   have hmw:Adr.modW=[109,111,100,117,108,101,46]:=rfl
   rw [hh1,hmw] at cH
   unfold adB at cH
   rw [hb] at cH
   refine run0 (ai t2 (ai t3 (ai t4 t5))) ?_
   refine use (cH _ rfl) ?_
   refine run0 (ai t2 (ai t3 (ai t4 t5))) ?_
   refine use (cD _ rfl) ?_
   refine run0 (ai t2 (ai t3 (ai t4 t5))) ?_
   refine use (cT _ rfl) ?_
   refine run0 (ai t2 (ai t3 (ai t4 t5))) ?_
   refine use (cK _ rfl) ?_
   refine run0 (ai t2 (ai t3 (ai t4 t5))) ?_
   refine use (cN _ rfl) ?_
   refine run0 (ai t2 (ai t3 (ai t4 t5))) ?_
   refine use (cY _ rfl) ?_
   have zle:leL [.sl 0 .nil [],.bool false,.str [],.str [],.int .i64 0,.int .i64 0,.str []] Adr.Ad.zero.cells:=⟨⟨rfl,.inr rfl,.inl rfl⟩,rfl,rfl,rfl,rfl,rfl,rfl,trivial⟩
   cases ba
   rotate_left
   ·rw [if_pos (.inl rfl)] at hF
    subst hF
    refine run0 (ai t2 (ai t3 (ai t4 t5))) ?_
    exact ⟨.tup [.agg Adr.Ad.zero.cells,.int .i64 2],⟨zle,rfl,trivial⟩,rfl⟩
   cases hre:re != []
   rotate_left
   ·rw [if_pos (.inr (.inl (bne_iff_ne.1 hre)))] at hF
    subst hF
    refine run0 (ai t2 (ai t3 (ai t4 (ai t5 hre)))) ?_
    exact ⟨.tup [.agg Adr.Ad.zero.cells,.int .i64 2],⟨zle,rfl,trivial⟩,rfl⟩
   refine run0 (ai t2 (ai t3 (ai t4 (ai t5 hre)))) ?_
   refine use (ck _) ?_
   cases hkb:Adr.kindB ty
   ·rw [if_pos (.inr (.inr hkb))] at hF
    subst hF
    refine run0 (ai t2 (ai t3 (ai t4 t5))) ?_
    exact ⟨.tup [.agg Adr.Ad.zero.cells,.int .i64 2],⟨zle,rfl,trivial⟩,rfl⟩
   rw [if_neg (by rintro (h | h | h); cases h; rw [bne_eq_false_iff_eq] at hre; exact h hre; rw [hkb] at h; cases h)] at hF
   have lm:(l.map Adr.Step.cells).length=l.length:=List.length_map ..
   by_cases hlen:(l.length:Int) > 16
   ·rw [if_pos (by omega)] at hF
    subst hF
    refine run0 (ai t2 (ai t3 (ai t4 (ai t5 (ai lm hlen))))) ?_
    exact ⟨.tup [.agg Adr.Ad.zero.cells,.int .i64 4],⟨zle,rfl,trivial⟩,rfl⟩
   ·rw [if_neg (by omega)] at hF
    subst hF
    refine run0 (ai t2 (ai t3 (ai t4 (ai t5 (ai lm hlen))))) ?_
    exact ⟨.tup [.agg (Adr.Ad.cells ⟨l,dt,ty,na,⟨kd,kn,ks⟩⟩),.int .i64 0],⟨⟨lx,rfl,rfl,rfl,rfl,rfl,rfl,trivial⟩,rfl,trivial⟩,rfl⟩
section
variable {P:Program} {G:World→Prop} {C:Ctx} {h:Hp}
def Fz1 (h:Hp) (x y:A):Prop:=(x=y∧x.data=true)∨∃ i W T rows,x = .bs i W rows.length∧h.b[i]?=some (.row T rows.flatten)∧y = .sl W .no rows∧(∀ r∈rows,r.length=W)∧rows.flatten.all A.data=true
def FzL (h:Hp):List A→List A→Prop
 | [],[]=>True
 | x::l,y::m=>Fz1 h x y∧FzL h l m
 | _,_=>False
theorem FzL.data {h:Hp}:∀ {l m:List A},FzL h l m→m.all A.data=true
 | [],[],_=>rfl
 | x::l,y::m,hf=>by
  rw [List.all_cons,Bool.and_eq_true]
  refine ⟨?_,FzL.data hf.2⟩
  rcases hf.1 with ⟨rfl,hd⟩ | ⟨i,W,T,rows,_,_,rfl,_,_⟩
  ·exact hd
  ·rfl
 | [],_::_,hf=>hf.elim
 | _::_,[],hf=>hf.elim
theorem pcallz {f:FuncId} {args:List A} {ys:List A} (hc:ACall P G f args ⟨[],[]⟩ fun v h'=>∃ xs,v = .agg xs∧FzL h' xs ys) (ha:args.all A.pure=true) (h:Hp):ACall P G f args h fun v h'=>v = .agg ys∧h'=h:=by
 intro C cs hI hr
 have hid:Inv G C.hid ⟨[],[]⟩:=by
  refine ⟨rfl,fun i b hb=>by simp at hb,fun i hi=>by simp [Ctx.hid] at hi,fun g i hg=>by simp [Ctx.hid] at hg,fun g j hs=>?_,fun t E W m ht=>by simp [Ctx.hid] at ht,fun t t' ht=>by simp [Ctx.hid] at ht,fun t=>by simp [Ctx.hid],hI.base,hI.glob⟩
  exact ⟨(hI.prot g j hs).1,rfl,fun t E W m ht=>by simp [Ctx.hid] at ht⟩
 refine (hc C.hid cs hid (RepL.pures (C:=C) (C':=C.hid) ⟨fun g j hs=>⟨hs,rfl⟩⟩ args cs ha hr)).mono ?_
 rintro e w' ⟨C1,h1,v,cv,rfl,rfl,I1,S1,r1,xs,rfl,hf⟩
 have hblk:∀ g,g < C.w.heap.size→C1.w.heap[g]?=C.w.heap[g]?:=fun g hg=>S1.frame g hg rfl fun t ht=>by simp [Ctx.hid] at ht
 have hnew:∀ g i,C1.own g=some i→C.w.heap.size≤g:=fun g i hg=>by
  rcases Nat.lt_or_ge g C.w.heap.size with hlt | hge
  ·have:=S1.own g hlt
   rw [hg] at this
   simp [Ctx.hid] at this
  ·exact hge
 let C2:Ctx:={ C with w:=C1.w,S:=fun g j=>C1.S g j∨((C1.own g).isSome=true),own:=fun g=>if g < C.w.heap.size then C.own g else none }
 have hsz:C.w.heap.size≤C1.w.heap.size:=S1.size
 have he:Ext C C2:=by
  refine ⟨fun g j hs=>?_,Nat.le_refl _,fun _ _=>rfl,fun t E W m ht=>?_⟩
  ·obtain ⟨k1,k2⟩:=S1.ext.cells g j hs
   exact ⟨.inl k1,k2⟩
  ·obtain ⟨_,_,cap,h2,_⟩:=hI.rows t E W m ht
   exact ⟨m,ht,.inr ⟨rfl,rfl,fun cap hc=>hc.same (hblk _ h2.lt)⟩⟩
 have hown:∀ g i,C2.own g=some i↔C.own g=some i:=fun g i=>by
  show (if g < C.w.heap.size then C.own g else none)=some i↔_
  split
  ·exact Iff.rfl
  ·next hg=>exact ⟨fun e=>(by cases e),fun e=>absurd (hI.ownlt g i e).2.1 hg⟩
 have hprot:∀ g j,C2.S g j→C.S g j∨C.w.heap.size≤g:=fun g j hs=>by
  rcases hs with hs | hs
  ·rcases S1.prot g j hs with h2 | h2 | ⟨t,h2,_⟩
   ·exact .inl h2
   ·exact .inr h2
   ·simp [Ctx.hid] at h2
  ·obtain ⟨i,hi⟩:=Option.isSome_iff_exists.1 hs
   exact .inr (hnew g i hi)
 have hSlt:∀ g j,C2.S g j→g < C1.w.heap.size:=fun g j hs=>by
  rcases hs with hs | hs
  ·exact (I1.prot g j hs).1
  ·obtain ⟨i,hi⟩:=Option.isSome_iff_exists.1 hs
   exact (I1.ownlt g i hi).2.1
 have hsame:Same C1 C2:=⟨fun g j hs=>⟨.inl hs,rfl⟩⟩
 have frz:∀ (xs ys:List A) (vs:List Value),FzL h1 xs ys→RepL C1 xs vs→RepL C2 ys vs:=by
  intro xs
  induction xs with
  | nil =>
   intro ys vs hf hr
   cases ys with
   | nil=>exact hr
   | cons y ys=>exact hf.elim
  | cons x xs ih =>
   intro ys vs hf hr
   cases ys with
   | nil=>exact hf.elim
   | cons y ys =>
    obtain ⟨c,cs',rfl,k1,k2⟩:=repL_cons.1 hr
    refine repL_cons.2 ⟨c,cs',rfl,?_,ih ys cs' hf.2 k2⟩
    rcases hf.1 with ⟨rfl,hd⟩ | ⟨i,W,T,rows,rfl,hb,rfl,hW,hd⟩
    ·exact Rep.same hsame _ _ hd k1
    ·obtain ⟨cap,rfl,hcap,hi⟩:=rep_bs.1 k1
     obtain ⟨ds,rest,q1,q2⟩:=I1.box i _ hb
     have hsd:(C1.own (C1.κ i)).isSome=true:=by rw [I1.ownk i hi]; rfl
     have hdd:∀ (l:List A) (ds:List Value),l.all A.data=true→RepL C1 l ds→RepL C2 l ds:=fun l ds hd hr=>RepL.same hsame l ds hd hr
     refine rep_sl.2 ⟨_,cap,rfl,hcap,repRows_of rows ds 0 hW hd (hdd _ _ hd q2) (fun j _ => .inr hsd) (fun j u hu=>?_),trivial⟩
     have q1':C2.w.heap[C1.κ i]?=some (.cells (ds++rest).toArray T (0,0)):=q1
     rw [cell_of_row _ _ _ _ _ _ q1']
     have hj:j < ds.length:=(List.getElem?_eq_some_iff.1 hu).1
     simp only [List.getElem?_toArray]
     rw [show 0+0*W+j=j by omega,List.getElem?_append_left hj]
     exact hu
 refine ⟨C2,h,.agg ys,cv,rfl,rfl,⟨hI.nb,fun i b hib=>?_,fun i hi=>(hown _ _).2 (hI.ownk i hi),fun g i hg=>?_,fun g j hs=>?_,fun t E W m ht=>?_,hI.inj,hI.toks,Nat.le_trans hI.base hsz,fun w2 hw=>?_⟩,⟨he,S1.os,S1.tape,S1.output,hsz,rfl,fun g hg _ _=>hblk g hg,fun g hg=>?_,fun g j hs=>?_,fun t ht => .inr ⟨ht,rfl⟩⟩,?_,rfl,rfl⟩
 ·have hi:i < C.nb:=by rw [←hI.nb]; exact (List.getElem?_eq_some_iff.1 hib).1
  exact (hI.box i b hib).ext he hi (hI.ownk i hi) (fun g j hg=>(hI.ownlt g j hg).2.1) (fun g hg=>hblk g (hI.ownlt g i hg).2.1) (fun g=>hown g i) hsz
 ·obtain ⟨k1,k2,k3⟩:=hI.ownlt g i ((hown g i).1 hg)
  exact ⟨k1,Nat.lt_of_lt_of_le k2 hsz,k3⟩
 ·have hlt:=hSlt g j hs
  rcases hprot g j hs with h2 | h2
  ·obtain ⟨k1,k2,k3⟩:=hI.prot g j h2
   exact ⟨hlt,by show (if g < C.w.heap.size then C.own g else none)=none; rw [if_pos k1,k2],k3⟩
  ·refine ⟨hlt,by show (if g < C.w.heap.size then C.own g else none)=none; rw [if_neg (by omega)],fun t E W m ht e=>?_⟩
   obtain ⟨_,_,cap,k1,_⟩:=hI.rows t E W m ht
   have:=k1.lt
   have e':C.τ t=g:=e
   omega
 ·obtain ⟨k1,k2,cap,k3,k4⟩:=hI.rows t E W m ht
  exact ⟨by show (if C.τ t < C.w.heap.size then C.own (C.τ t) else none)=none; rw [if_pos k3.lt,k1],k2,cap,k3.same (hblk _ k3.lt),k4⟩
 ·exact hI.glob w2 fun g hg=>(hw g hg).trans (hblk g (Nat.lt_of_lt_of_le hg hI.base))
 ·show (if g < C.w.heap.size then C.own g else none)=C.own g
  rw [if_pos hg]
 ·rcases hprot g j hs with h2 | h2
  ·exact .inl h2
  ·exact .inr (.inl h2)
 ·obtain ⟨vs,rfl,hl⟩:=rep_agg.1 r1
  exact rep_agg.2 ⟨vs,rfl,frz xs ys vs hf hl⟩
end
end AX
end Go.Proofs.YtdgcbckcameggaaGreatDoor

namespace Go.Proofs.YtdgcbckcameggaaGreatDoor
open Go.RowKit
set_option maxRecDepth 100000 in
theorem clone_steps (b off n c:Nat) (news:List Value) (w:World) (hl:news.length=n*4) (hn:0 < n) (hbig:n*48≤140737488355328) (hmax:n≤maxLen) (hc:∀ j v,news[j]?=some v→w.cell? ((⟨b,off,none⟩:Addr).add j)=some v) (h1:∀ u∈news,u.oneCell'=true) :
  Calls Tryz.prog 141 #[.slice (some ⟨b,off,none⟩) n c] w fun e w'=>∃ v',e = .returned v'∧w'.ownsRow w.heap.size 158 4 v' n news∧Below w.heap.size w w':=by
 obtain ⟨i0,hi,hz0,hz1,hz2⟩:=info_parts (show (Tryz.prog.info? 158).map (fun i=>(i.zero,i.size,i.bytes))=some (some (.agg #[.string ⟨#[]⟩,.int .i64 0,.int .i64 0,.string ⟨#[]⟩]),4,48) by kernel_rfl)
 have q22:∀ (w:World) (a:Option Addr) (n c n' c':Nat),(binOp .eql 128 (.slice a n c) (.slice none n' c')).run Tryz.prog w = .ok (.bool a.isNone) w:=fun w a n c n' c'=>Lib.run_eql_slice_nil w _ _ a n c n' c' Tryz.underlying128
 have u22:∀ w,Sem.run Tryz.prog (underlying 128) w = .ok (TypeDesc.slice 158) w:=run_underlying Tryz.underlying128
 have HC:=kept hc
 have H1:=kept h1
 clear hc h1
 go_enter Tryz.func141,Tryz.ntmps141
 go_wp2_with (at_builtin; refine wpList_append_own _ rfl _ _ 128 rfl w.heap.size 158 i0 (.agg #[.string ⟨#[]⟩,.int .i64 0,.int .i64 0,.string ⟨#[]⟩]) 4 48 Tryz.underlying128 hi hz0 hz1 hz2 rfl (by decide) _ _ _ rfl (World.ownsRow_made w #[] 0 (Nat.le_refl _) (Nat.zero_le _) rfl) ⟨b,off,none⟩ n c news rfl ?qc1 ?qc2 ?qc3 ?qc4 ?qc5 ?qc6 ?_)
 case qc1=>exact hl
 case qc2 =>
  intro j u hj
  have:=HC.out j u hj
  rw [Addr.add_lit] at this ⊢
  exact Lib.cell?_alloc_some _ this
 case qc3=>exact H1.out
 case qc4=>omega
 case qc5=>omega
 case qc6=>simp
 intro v' w1 hown hgrow hnil
 have Hb:=kept (((Below.refl _ w).alloc (Nat.le_refl _) (.cells #[] 158)).grown hgrow (by simp) (by intro k hk; simp [Value.ownBlock] at hk; omega))
 have Ho:=kept (show w1.ownsRow w.heap.size 158 4 v' n news by simpa using hown)
 clear hown hgrow hnil HC H1
 go_wp2
 go_ret
 exact ⟨v',rfl,Ho.out,Hb.out⟩
theorem clone_steps0 (a:Option Addr) (c:Nat) (w:World) :
  Calls Tryz.prog 141 #[.slice a 0 c] w fun e w'=>(∃ a' c',e = .returned (.slice a' 0 c'))∧Below w.heap.size w w':=by
 have q22:∀ (w:World) (a:Option Addr) (n c n' c':Nat),(binOp .eql 128 (.slice a n c) (.slice none n' c')).run Tryz.prog w = .ok (.bool a.isNone) w:=fun w a n c n' c'=>Lib.run_eql_slice_nil w _ _ a n c n' c' Tryz.underlying128
 have u22:∀ w,Sem.run Tryz.prog (underlying 128) w = .ok (TypeDesc.slice 158) w:=run_underlying Tryz.underlying128
 cases a with
 | none =>
  go_enter Tryz.func141,Tryz.ntmps141
  go_wp2
  go_ret
  exact ⟨⟨_,_,rfl⟩,Below.refl _ _⟩
 | some ad =>
  obtain ⟨i0,hi,hz0,hz1,hz2⟩:=info_parts (show (Tryz.prog.info? 158).map (fun i=>(i.zero,i.size,i.bytes))=some (some (.agg #[.string ⟨#[]⟩,.int .i64 0,.int .i64 0,.string ⟨#[]⟩]),4,48) by kernel_rfl)
  go_enter Tryz.func141,Tryz.ntmps141
  go_wp2_with (at_builtin; refine wpList_append_own _ rfl _ _ 128 rfl w.heap.size 158 i0 (.agg #[.string ⟨#[]⟩,.int .i64 0,.int .i64 0,.string ⟨#[]⟩]) 4 48 Tryz.underlying128 hi hz0 hz1 hz2 rfl (by decide) _ _ _ rfl (World.ownsRow_made w #[] 0 (Nat.le_refl _) (Nat.zero_le _) rfl) ad 0 c [] rfl rfl (by intro j u hj; simp at hj) (by intro u hu; cases hu) (by unfold maxLen; omega) (by omega) (by simp) ?_)
  intro v' w1 hown hgrow hnil
  have Hb:=kept (((Below.refl _ w).alloc (Nat.le_refl _) (.cells #[] 158)).grown hgrow (by simp) (by intro k hk; simp [Value.ownBlock] at hk; omega))
  have Hv:∃ a' c',v' = .slice a' 0 c':=by
   rcases hown.2 with ⟨rfl,_⟩ | ⟨g,cap,cur,rfl,_⟩
   ·exact ⟨_,_,rfl⟩
   ·exact ⟨_,_,rfl⟩
  obtain ⟨a',c',rfl⟩:=Hv
  clear hown hgrow hnil
  go_wp2
  go_ret
  exact ⟨⟨_,_,rfl⟩,Hb.out⟩
namespace AX
theorem a_clone_steps0 (W0:Nat) (o:Own) (h:Hp):ACall Tryz.prog GT 141 [.sl W0 o []] h fun v h'=>v = .sl 4 .no []∧h'=h:=by
 intro C es hI ha
 obtain ⟨c,es',rfl,h1,h2⟩:=repL_cons.1 ha
 rw [repL_nil] at h2; subst h2
 obtain ⟨a,cap,rfl,_,_,_⟩:=rep_sl.1 h1
 refine (clone_steps0 a cap C.w).mono ?_
 rintro e w' ⟨⟨a',c',rfl⟩,hb⟩
 obtain ⟨i1,s1⟩:=inv_below hI hb
 exact ⟨C.at w',h,.sl 4 .no [],_,rfl,rfl,i1,s1,rep_sl.2 ⟨a',c',rfl,Nat.zero_le _,by unfold RepRows; trivial,trivial⟩,rfl,rfl⟩
theorem a_clone_steps (o:Own) (rows:List (List A)) (h0:rows≠[]) (hbig:rows.length*48≤140737488355328) (hmax:rows.length≤maxLen) (h:Hp) :
  ACall Tryz.prog GT 141 [.sl 4 o rows] h fun v h'=>v = .bs h.b.length 4 rows.length∧h'=⟨h.b++[.row 158 rows.flatten],h.t⟩:=by
 intro C es hI ha
 obtain ⟨c,es',rfl,h1,h2⟩:=repL_cons.1 ha
 rw [repL_nil] at h2; subst h2
 have hpos:0 < rows.length:=List.length_pos_iff.2 h0
 obtain ⟨g,off,cap,cs,rfl,k1,k2,k3,k4,k5⟩:=sl_open h1 hpos
 refine (clone_steps g off rows.length cap cs C.w k2 hpos hbig hmax k5 (repL_one k1 (data_one k3))).mono ?_
 rintro e w' ⟨v',rfl,hown,hb⟩
 rcases hown.2 with ⟨_,hz⟩ | ⟨g',cap',cur,rfl,hg,hh,hcap,_,hcs,htake⟩
 ·omega
 ·have hcur:cur=(cs++cur.toList.drop (rows.length*4)).toArray:=by
   apply Array.toList_inj.1
   rw [←htake]
   simp
  rw [hcur] at hh
  obtain ⟨C',m1,m2,m3,m4,m5⟩:=new_row hI hb hg hh k1
  exact ⟨C',_,.bs h.b.length 4 rows.length,_,rfl,m1,m2,m3,rep_bs.2 ⟨cap',by rw [m4],hcap,m5⟩,rfl,rfl⟩
end AX
namespace AX
theorem setCells_eq:∀ (xs l:List A) (off:Nat),off+xs.length≤l.length→setCells l off xs=l.take off++xs++l.drop (off+xs.length):=by
 intro xs
 induction xs with
 | nil=>intro l off _; simp [setCells]
 | cons x xs ih =>
  intro l off hlt
  rw [List.length_cons] at hlt
  rw [setCells,ih _ _ (by simp; omega),List.take_add_one,List.getElem?_set_self (by omega),List.take_set_of_le (Nat.le_refl _),List.drop_set_of_lt (by omega)]
  simp [show off+1+xs.length=off+(xs.length+1) by omega]
def bareS (s:Adr.Step):Adr.Step:=⟨s.name,Adr.K.none⟩
def barL (mods:List Adr.Step) (j:Nat):List A:=(((mods.take j).map bareS).map Adr.Step.cells).flatten++((mods.drop j).map Adr.Step.cells).flatten
theorem cells_len (l:List Adr.Step):((l.map Adr.Step.cells).flatten).length=l.length*4:=by
 induction l with
 | nil=>rfl
 | cons x l ih=>rw [List.map_cons,List.flatten_cons,List.length_append,ih]; simp [Adr.Step.cells]; omega
theorem barL_len (mods:List Adr.Step) (j:Nat) (hj:j≤mods.length):(barL mods j).length=mods.length*4:=by
 unfold barL
 rw [List.length_append,cells_len,cells_len,List.length_map,List.length_take,List.length_drop,←Nat.add_mul]
 congr 1; omega
theorem barL_set (mods:List Adr.Step) (j:Nat) (hj:j < mods.length):setCells (barL mods j) (j*4+1) [.int .i64 0,.int .i64 0,.str []]=barL mods (j+1):=by
 rw [setCells_eq _ _ _ (by rw [barL_len _ _ (by omega)]; simp; omega)]
 have hp:((((mods.take j).map bareS).map Adr.Step.cells).flatten).length=j*4:=by
  rw [cells_len,List.length_map,List.length_take]; congr 1; omega
 have hd:mods.drop j=mods[j]::mods.drop (j+1):=List.drop_eq_getElem_cons hj
 have ht:mods.take (j+1)=mods.take j++[mods[j]]:=by rw [List.take_succ_eq_append_getElem hj]
 unfold barL
 rw [hd,ht,List.map_append,List.map_append,List.flatten_append]
 generalize (((mods.take j).map bareS).map Adr.Step.cells).flatten=p at hp
 obtain ⟨nm,⟨kd,kn,ks⟩⟩:=mods[j]
 simp only [List.map_cons,List.flatten_cons,Adr.Step.cells,List.cons_append,List.nil_append,List.length_cons,List.length_nil]
 generalize ((mods.drop (j+1)).map Adr.Step.cells).flatten=q
 rw [List.take_append,List.take_of_length_le (by omega),List.drop_append,List.drop_of_length_le (by omega),hp]
 rw [show j*4+1 - j*4=1 by omega,show j*4+1+(0+1+1+1) - j*4=4 by omega]
 simp [bareS,Adr.K.none,Adr.Step.cells]
def c_astatic:AX.AFn:=⟨26,aS [aR 1 (.box 133 (.t 0)),aR 2 (.alloc 133 [.sl 0 .nil [],.bool false,.str [],.str [],.int .i64 0,.int .i64 0,.str []])] (aS [aR 5 (.load true 7 (.t 1)),aR 3 (.alloc 133 [.sl 0 .nil [],.bool false,.str [],.str [],.int .i64 0,.int .i64 0,.str []]),aU (.store 7 (.t 3) (.t 5))] (aS [aR 6 (.build [.int .i64 0,.int .i64 0,.str []] []),aF 7 4 3,aU (.store 3 (.t 7) (.t 6))] (aS [aF 8 0 1,aL 9 8,aR 10 (.call 141 [.t 9]),aF 11 0 3,aU (.store 1 (.t 11) (.t 10))] (.seq (aS [aF 12 0 3,aL 13 12,aR 14 (.len false (.t 13)),aR 15 (.mv (aI 0))] (.block 0 (.loop (aS [aR 16 (.bin .lss (.t 15) (.t 14))] (.seq (.cond (.t 16) (.skip) (.exit 0)) (.seq (.block 1 (aS [aM 17 15,aM 4 17] (.reg false [aF 18 0 3,aL 19 18,aM 20 4,aR 21 (.build [.int .i64 0,.int .i64 0,.str []] []),aR 22 (.iaddr 4 (.t 19) (.t 20)),aF 23 1 22,aU (.store 3 (.t 23) (.t 21))]))) (.reg false [aR 24 (.bin .add (.t 15) (aI 1)),aM 15 24]))))))) (aS [aR 25 (.load true 7 (.t 3)),aU (.store 7 (.t 2) (.t 25))] (.ret)))))),[.c 2 true 7]⟩
theorem h_astatic:AX.compFn Tryz.prog 123=some c_astatic:=by kernel_rfl
theorem a_static0 (a:Adr.Ad) (hn:a.mods.length≤3000000) (h:Hp):ACall Tryz.prog GT 123 [.agg a.cells] h fun v h'=>v = .agg (Adr.bare a).cells∧h'=h:=by
 obtain ⟨mods,data,ty,nm,⟨kk,kn,ks⟩⟩:=a
 dsimp only at hn
 have hbc:(Adr.bare ⟨mods,data,ty,nm,⟨kk,kn,ks⟩⟩).cells=[.sl 4 .no ((mods.map fun s=>(⟨s.name,Adr.K.none⟩:Adr.Step)).map Adr.Step.cells),.bool data,.str ty,.str nm,.int .i64 0,.int .i64 0,.str []]:=rfl
 rw [hbc]
 refine pcallz ?_ (by simp [A.pure,A.data,Adr.Ad.cells]) h
 refine acall_of mixedT h_astatic (by simp [c_astatic]) ?_
 dsimp only [c_astatic,Adr.Ad.cells]
 by_cases hm:mods=[]
 ·subst hm
  have hc:=fun h=>a_clone_steps0 4 .no h
  have hz:¬ (0:Int) < ((0:Nat):Int):=by decide
  simp only [List.map_nil]
  refine run0 ti ?_
  refine use (hc _) ?_
  refine run0 ti ?_
  refine go_once ?_
  refine run0 hz ?_
  exact ⟨_,le_refl _,_,rfl,⟨.inl ⟨rfl,rfl⟩,.inl ⟨rfl,rfl⟩,.inl ⟨rfl,rfl⟩,.inl ⟨rfl,rfl⟩,.inl ⟨rfl,rfl⟩,.inl ⟨rfl,rfl⟩,.inl ⟨rfl,rfl⟩,trivial⟩⟩
 ·have hrne:mods.map Adr.Step.cells≠[]:=by simpa using hm
  have lm:(mods.map Adr.Step.cells).length=mods.length:=List.length_map ..
  have hc:=fun h=>a_clone_steps .no (mods.map Adr.Step.cells) hrne (by rw [lm]; omega) (by rw [lm]; unfold maxLen; omega) h
  rw [lm] at hc
  refine run0 ti ?_
  refine use (hc _) ?_
  refine run0 ti ?_
  have hL0:(mods.map Adr.Step.cells).flatten=barL mods 0:=by unfold barL; simp
  rw [hL0]
  refine awp_loop (fun mm ts h=>∃ (j:Nat) (B0:Blk),mm=mods.length - j∧j≤mods.length∧h=⟨[B0,.cells 133 [.sl 0 .nil [],.bool false,.str [],.str [],.int .i64 0,.int .i64 0,.str []],.cells 133 [.bs 3 4 mods.length,.bool data,.str ty,.str nm,.int .i64 0,.int .i64 0,.str []],.row 158 (barL mods j)],[]⟩∧ts 2 = .ptr 1 0∧ts 3 = .ptr 2 0∧ts 14 = .int .i64 (mods.length:Nat)∧ts 15 = .int .i64 (j:Nat)) mods.length ?_ ?_
  ·exact ⟨0,_,by omega,by omega,rfl,by (exact ev0 ti),by (exact ev0 ti),by (exact ev0 ti),by (exact inv0 ti)⟩
  rintro mm ts h ⟨j,B0,rfl,hjc,rfl,t2,t3,t14,t15⟩
  by_cases hj:j < mods.length
  ·have hlt:(j:Int) < (mods.length:Int):=by omega
   have hj0:(0:Int)≤(j:Int):=by omega
   have ei:IntKind.i64.wrap ((j:Int)+1)=((j+1:Nat):Int):=by rw [wrap64 (by omega) (by omega)]; omega
   have hset:=barL_set mods j hj
   have hln:j*4+1+3≤(barL mods j).length:=by rw [barL_len _ _ (by omega)]; omega
   simp only [setCells] at hset
   refine run0 (ai t2 (ai t3 (ai t14 (ai t15 (ai hlt (ai hj0 (ai hln (ai hset ei)))))))) ?_
   exact ⟨mods.length - (j+1),by omega,j+1,B0,rfl,by omega,rfl,by (exact ev0 t2),by (exact ev0 t3),by (exact ev0 t14),by (exact ev0 ei)⟩
  ·have hlt:¬ ((j:Int) < (mods.length:Int)):=by omega
   have hje:j=mods.length:=by omega
   subst hje
   refine run0 (ai t2 (ai t3 (ai t14 (ai t15 hlt)))) ?_
   refine ⟨_,le_refl _,_,rfl,⟨.inr ⟨3,4,158,(mods.map bareS).map Adr.Step.cells,by simp,?_,rfl,?_,?_⟩,.inl ⟨rfl,rfl⟩,.inl ⟨rfl,rfl⟩,.inl ⟨rfl,rfl⟩,.inl ⟨rfl,rfl⟩,.inl ⟨rfl,rfl⟩,.inl ⟨rfl,rfl⟩,trivial⟩⟩
   ·show some (Blk.row _ _)=some _
    congr 2
    unfold barL
    simp
   ·intro r hr
    obtain ⟨s,_,rfl⟩:=List.mem_map.1 hr
    rfl
   ·rw [List.all_flatten,List.all_eq_true]
    intro r hr
    obtain ⟨s,_,rfl⟩:=List.mem_map.1 hr
    rfl
end AX
def BWtr (B b:Nat) (l:List UInt8) (w:World):Prop:=
 B≤b∧∃ p v,(p = .pointer none∨p = .pointer (some ⟨b,0,none⟩))∧w.heap[b]?=some (.cells #[p,v] 74 (0,0))∧w.ownsRowF B 5 1 v l.length (Lib.byteCells l)∧v.ownBlock≠some b
def BWtrU (B b:Nat) (l:List UInt8) (w:World):Prop:=
 B≤b∧∃ v,w.heap[b]?=some (.cells #[.pointer (some ⟨b,0,none⟩),v] 74 (0,0))∧w.ownsRowF B 5 1 v l.length (Lib.byteCells l)∧v.ownBlock≠some b
theorem BWtrU.bwtr {B b:Nat} {l:List UInt8} {w:World} (h:BWtrU B b l w):BWtr B b l w:=by
 obtain ⟨h1,v,h2,h3⟩:=h
 exact ⟨h1,_,v,.inr rfl,h2,h3⟩
set_option maxRecDepth 100000 in
theorem bwtr_fresh (b:Nat) (w:World) (h0:w.cell? ⟨b,0,none⟩=some (.pointer none)) (hsh:w.shape? b=some (74,2)) (hfz:w.frozen? ⟨b,0,none⟩=false) :
  Calls Tryz.prog 114 #[.pointer (some ⟨b,0,none⟩)] w fun e w'=>e = .returned (.tuple #[])∧w'=w.setCell ⟨b,0,none⟩ (.pointer (some ⟨b,0,none⟩)):=by
 obtain ⟨j,hj,hjs⟩:=Option.map_eq_some_iff.1 (show (Tryz.prog.info? 74).map (·.size)=some 2 by kernel_rfl)
 have hlies:liesAt Tryz.prog Tryz.prog.depth 74 (2 / Tryz.prog.cellsOf 74) 0 74 1=true:=by kernel_rfl
 go_enter Tryz.func114,Tryz.ntmps114
 go_wp2
 rw [Lib.run_to_unsafe w ⟨b,0,none⟩ Tryz.underlying71 Tryz.underlying185 hj (by rw [hjs]; decide) hsh (by show 0 < 2; omega)]
 simp only [Result.andThen]
 rw [Oper.upon_value]
 go_wp2
 rw [run_callFunc_extern Tryz.func136 (by kernel_rfl) (by kernel_rfl) (by kernel_rfl) (e:=Extern.AbiNoEscape.same) (by kernel_rfl)]
 rw [Lib.run_noEscape]
 simp only [Result.andThen]
 rw [Oper.upon_value]
 go_wp2
 rw [Lib.run_from_unsafe w ⟨b,0,none⟩ Tryz.underlying185 Tryz.underlying71 hj hsh hlies]
 simp only [Result.andThen]
 rw [Oper.upon_value]
 go_wp2
 go_end0
 exact ⟨rfl,rfl⟩
theorem cell_row2 {w:World} {b:Nat} {p v:Value} {T:TypeId} (h:w.heap[b]?=some (.cells #[p,v] T (0,0))):w.cell? ⟨b,0,none⟩=some p∧w.cell? ⟨b,1,none⟩=some v∧(∀ i,w.frozen? ⟨b,i,none⟩=false)∧w.shape? b=some (T,2)∧b < w.heap.size:=by
 refine ⟨?_,?_,fun i=>?_,?_,(Array.getElem?_eq_some_iff.1 h).1⟩
 ·rw [cell_of_row _ _ _ _ _ _ h]; rfl
 ·rw [cell_of_row _ _ _ _ _ _ h]; rfl
 ·simp [World.frozen?,h]
 ·simp [World.shape?,h]
theorem BWtr.used {B b:Nat} {l:List UInt8} {w:World} {p v:Value} (hB:B≤b) (hb:w.heap[b]?=some (.cells #[p,v] 74 (0,0))) (hown:w.ownsRowF B 5 1 v l.length (Lib.byteCells l)) (hne:v.ownBlock≠some b) :
  BWtrU B b l (w.setCell ⟨b,0,none⟩ (.pointer (some ⟨b,0,none⟩))):=by
 refine ⟨hB,v,?_,?_,hne⟩
 ·simp [World.setCell,Array.getElem?_modify,hb]
 ·exact hown.kept (row:=some b) ⟨rfl,rfl,rfl,by simp [World.setCell],fun k _ hk=>Below.heap_setCell _ _ _ _ (fun e=>hk (by simp [e]))⟩ (Or.inr hne)
theorem bwtr_len {B b:Nat} {l:List UInt8} {w:World} (h:BWtr B b l w) :
  Calls Tryz.prog 61 #[.pointer (some ⟨b,0,none⟩)] w fun e w'=>e = .returned (.int .i64 l.length)∧w'=w:=by
 obtain ⟨hB,p,v,hp,hb,hown,hne⟩:=h
 obtain ⟨c0,c1,hf,hsh,hlt⟩:=cell_row2 hb
 obtain ⟨ao,cap,rfl⟩:∃ ao cap,v = .slice ao l.length cap:=by
  rcases hown.2 with ⟨hv,h0⟩ | ⟨g,cap,cur,fz,hv,_⟩
  ·exact ⟨none,0,by rw [hv,h0]⟩
  ·exact ⟨_,_,hv⟩
 clear hown hp hne hb
 go_enter Tryz.func61,Tryz.ntmps61
 go_wp2
 go_ret
 exact ⟨rfl,rfl⟩
def BF (F:Nat→Prop) (b:Nat) (l:List UInt8) (w:World):Prop:=
 ∃ p v,(p = .pointer none∨p = .pointer (some ⟨b,0,none⟩))∧w.heap[b]?=some (.cells #[p,v] 74 (0,0))∧w.ownsRowF 0 5 1 v l.length (Lib.byteCells l)∧v.ownBlock≠some b∧F b∧∀ k,v.ownBlock=some k→F k
theorem BF.bwtr {F:Nat→Prop} {b:Nat} {l:List UInt8} {w:World} (h:BF F b l w):BWtr 0 b l w:=by
 obtain ⟨p,v,hp,hb,hown,hne,_⟩:=h
 exact ⟨Nat.zero_le _,p,v,hp,hb,hown,hne⟩
theorem bf_check {F:Nat→Prop} {b:Nat} {l:List UInt8} {w:World} (h:BF F b l w) :
  Calls Tryz.prog 114 #[.pointer (some ⟨b,0,none⟩)] w fun e w'=>e = .returned (.tuple #[])∧(∃ v,w'.heap[b]?=some (.cells #[.pointer (some ⟨b,0,none⟩),v] 74 (0,0))∧w'.ownsRowF 0 5 1 v l.length (Lib.byteCells l)∧v.ownBlock≠some b∧F b∧∀ k,v.ownBlock=some k→F k)∧Fr F w w':=by
 obtain ⟨p,v,hp,hb,hown,hne,hF,hFk⟩:=h
 obtain ⟨c0,c1,hf,hsh,hlt⟩:=cell_row2 hb
 rcases hp with rfl | rfl
 ·refine (bwtr_fresh b w c0 hsh (hf 0)).mono ?_
  rintro e w' ⟨rfl,rfl⟩
  obtain ⟨_,v',hb',hown',hne'⟩:=BWtr.used (B:=0) (Nat.zero_le _) hb hown hne
  have hv:v'=v:=by
   have:=(cell_row2 hb').2.1
   have h2:(w.setCell ⟨b,0,none⟩ (.pointer (some ⟨b,0,none⟩))).heap[b]?=some (.cells #[.pointer (some ⟨b,0,none⟩),v] 74 (0,0)):=by simp [World.setCell,Array.getElem?_modify,hb]
   have h3:=(cell_row2 h2).2.1
   rw [h3] at this; injection this with this; exact this.symm
  subst hv
  exact ⟨rfl,⟨v',hb',hown',hne',hF,hFk⟩,Fr.set w b 0 _ hF⟩
 ·refine (Any.Builder_copyCheck_used Tryz.lays240 Tryz.Builder_X72_240 b w c0).mono ?_
  rintro e w' ⟨rfl,rfl⟩
  exact ⟨rfl,⟨v,hb,hown,hne,hF,hFk⟩,Fr.refl F _⟩
set_option maxRecDepth 100000 in
theorem bf_write {F:Nat→Prop} {b:Nat} {l:List UInt8} {w:World} (h:BF F b l w) (s:List UInt8) (hlen:l.length+s.length≤1000000000) :
  Calls Tryz.prog 85 #[.pointer (some ⟨b,0,none⟩),.string ⟨s.toArray⟩] w fun e w'=>e = .returned (.tuple #[.int .i64 s.length,.nilIface])∧BF (fun k=>F k∨w.heap.size≤k) b (l++s) w'∧Fr F w w':=by
 obtain ⟨i0,hi,hz0,hz1,hz2⟩:=info_parts info_byte
 go_enter Tryz.func85,Tryz.ntmps85
 go_wp2_with fail
 (with_reducible refine (bf_check h).mono ?_)
 rintro e w1 ⟨rfl,⟨v,hbk,hown,hne,hF,hFk⟩,hb1⟩
 obtain ⟨c0,c1,hf,hsh,hlt⟩:=cell_row2 hbk
 go_wp2_with (at_builtin; refine wpList_append_F _ rfl _ _ 72 9 rfl 5 i0 Tryz.underlying72 Tryz.underlying9 hi hz0 hz1 hz2 _ _ _ rfl hown ⟨s.toArray⟩ rfl ?c3 ?c4 ?_)
 case c3=>rw [size_mk]; unfold maxLen; omega
 case c4=>rw [size_mk]; omega
 intro v' w2 hown' hgrow hwhere
 have hb2:w2.heap[b]?=some (.cells #[.pointer (some ⟨b,0,none⟩),v] 74 (0,0)):=(hgrow.block b hlt (fun e=>hne e.symm)).trans hbk
 obtain ⟨d0,d1,hf2,_,hlt2⟩:=cell_row2 hb2
 have f1:=hf2 1
 have hown2:w2.ownsRowF 0 5 1 v' (l++s).length (Lib.byteCells (l++s)):=by
  have e1:(⟨s.toArray⟩:ByteArray).size=s.length:=size_mk s
  have e2:Lib.byteCells l++Lib.strCells ⟨s.toArray⟩=Lib.byteCells (l++s):=by unfold Lib.strCells Lib.byteCells; simp
  rw [List.length_append,←e2,←e1]; exact hown'
 have hne2:=Lib.ownBlock_neF hown2 hb2 (show 74≠5 by decide)
 have hwb1:=hb1.size
 have Hfin:=kept (show BF (fun k=>F k∨w.heap.size≤k) b (l++s) (w2.setCell ⟨b,1,none⟩ v') from by
  refine ⟨_,v',.inr rfl,?_,?_,hne2,.inl hF,fun k hk=>?_⟩
  ·simp [World.setCell,Array.getElem?_modify,hb2]
  ·exact hown2.kept (row:=some b) ⟨rfl,rfl,rfl,by simp [World.setCell],fun k _ hk=>Below.heap_setCell _ _ _ _ (fun e=>hk (by simp [e]))⟩ (Or.inr hne2)
  ·rcases hwhere k hk with h1 | h1
   ·exact .inl (hFk k h1)
   ·exact .inr (by omega))
 have Hfr:=kept ((hb1.trans (Fr.grown hgrow fun k hk=>hFk k hk)).trans (Fr.set w2 b 1 v' hF))
 obtain ⟨ao,n',cap,rfl⟩:∃ ao n' cap,v' = .slice ao n' cap:=by
  rcases hown'.2 with ⟨hv,_⟩ | ⟨g,cap,cur,fz,hv,_⟩
  ·exact ⟨_,_,_,hv⟩
  ·exact ⟨_,_,_,hv⟩
 clear hown' hown2 hne2 hb2 hbk hown hne hgrow hb1 h hwhere
 go_wp2
 go_ret2
 exact ⟨by simp,Hfin.out,Hfr.out⟩
set_option maxRecDepth 100000 in
theorem bf_string {F:Nat→Prop} {b:Nat} {l:List UInt8} {w:World} (h:BF F b l w) (h0:l≠[]) :
  Calls Tryz.prog 30 #[.pointer (some ⟨b,0,none⟩)] w fun e w'=>e = .returned (.string ⟨l.toArray⟩)∧Fr F w w':=by
 obtain ⟨p,v,hp,hbk,hown,hne,hFb,hFk⟩:=h
 have hl0:l.length≠0:=by simpa using h0
 obtain ⟨g,cap,cur,fz,rfl,hbg,hg,hfz,hnc,hcm,hcs,htake⟩:∃ g cap cur fz,v = .slice (some ⟨g,0,none⟩) l.length cap∧0≤g∧w.heap[g]?=some (.cells cur 5 fz)∧fz.2≤l.length*1∧l.length≤cap∧cap≤maxLen∧cur.size=cap*1∧cur.toList.take (l.length*1)=Lib.byteCells l:=by
  rcases hown.2 with ⟨_,hz⟩ | ⟨g,cap,cur,fz,hv,r⟩
  ·exact absurd hz hl0
  ·exact ⟨g,cap,cur,fz,hv,r⟩
 have HFg:=kept (hFk g rfl)
 have c1:w.drew.cell? ⟨b,1,none⟩=some (.slice (some ⟨g,0,none⟩) l.length cap):=(cell_row2 hbk).2.1
 have hSD:(Builtin.unsafeSliceData_ #[72] 116 #[.slice (some ⟨g,0,none⟩) l.length cap]).run Tryz.prog w.drew = .ok (.pointer (some ⟨g,0,none⟩)) w.drew:=
  Lib.run_unsafeSliceData_row _ _ _ _ _ _ (by omega)
 have hUS:(Builtin.unsafeString_ #[116,3] 9 #[.pointer (some ⟨g,0,none⟩),.int .i64 l.length]).run Tryz.prog w.drew = .ok (.string ⟨l.toArray⟩) (w.drew.freeze ⟨g,0,none⟩ l.length):=by
  refine Lib.run_unsafeString_row w.drew 116 3 9 5 Tryz.underlying116 Tryz.Builder_Extra_169.cellsByte g cur.size (by have hg':w.drew.heap[g]?=some (.cells cur 5 fz):=hg; simp [World.shape?,hg']) l h0 (by omega) (by unfold maxLen at hcm; omega) ?_
  intro j x hx
  have:=hown.cells (g:=g) rfl j (.int .u8 x.toNat) (by simp [Lib.byteCells,hx])
  exact this
 have Hfr:=kept (show Fr F w (w.drew.freeze ⟨g,0,none⟩ l.length) from by
  unfold World.freeze
  split
  ·exact ⟨rfl,rfl,rfl,Nat.le_refl _,fun _ _ _=>rfl⟩
  ·refine ⟨rfl,rfl,rfl,by simp,fun k hk hn=>?_⟩
   have hkg:k≠g:=fun e=>hn (by rw [e]; exact HFg.out)
   simp only [Array.getElem?_modify,if_neg hkg.symm]; rfl)
 clear hown hp hne hbk hnc hcm hcs htake hfz hg hl0 h0 hFk hFb
 have mixed:=Tryz.lays169.mixed
 go_enter Tryz.func30,Tryz.ntmps30
 go_wp2
 go_region_o
 all_goals (go_wp2; go_ret; exact ⟨rfl,Hfr.out⟩)
namespace AX
def bwt (l:List UInt8):Blk:=.opq (fun F g w=>BF F g l w) (fun _=>none)
def Bt (h:Hp) (i:Nat) (l:List UInt8):Prop:=h.b[i]?=some (bwt l)∨(l=[]∧h.b[i]?=some (.cells 74 [.nilp,.sl 0 .nil []]))
theorem BF.stable {F:Nat→Prop} {b:Nat} {l:List UInt8} {w w':World} (h:BF F b l w) (hs:∀ g,F g→w'.heap[g]?=w.heap[g]?):BF F b l w':=by
 obtain ⟨p,v,hp,hb,hown,hne,hF,hFk⟩:=h
 refine ⟨p,v,hp,(hs b hF).trans hb,⟨hown.1,?_⟩,hne,hF,hFk⟩
 rcases hown.2 with h1 | ⟨g,cap,cur,fz,rfl,h2,h3,h4⟩
 ·exact .inl h1
 ·exact .inr ⟨g,cap,cur,fz,rfl,h2,(hs g (hFk g rfl)).trans h3,h4⟩
theorem Bt.lt {h:Hp} {i:Nat} {l:List UInt8} (hw:Bt h i l):i < h.b.length:=by
 rcases hw with h1 | ⟨_,h1⟩
 ·exact (List.getElem?_eq_some_iff.1 h1).1
 ·exact (List.getElem?_eq_some_iff.1 h1).1
theorem Bt.bf {h:Hp} {i:Nat} {l:List UInt8} {C:Ctx} {G:World→Prop} (hw:Bt h i l) (hI:Inv G C h):BF (fun g=>C.own g=some i) (C.κ i) l C.w:=by
 have hi:i < C.nb:=by rw [←hI.nb]; exact hw.lt
 rcases hw with h1 | ⟨rfl,h1⟩
 ·exact (hI.box i _ h1).1 C.w (fun _ _=>rfl) (Nat.le_refl _)
 ·obtain ⟨cs,k1,k2⟩:=hI.box i _ h1
  obtain ⟨c0,d0,rfl,e0,k2⟩:=repL_cons.1 k2
  obtain ⟨c1,d1,rfl,e1,k2⟩:=repL_cons.1 k2
  rw [repL_nil] at k2; subst k2
  rw [rep_nilp] at e0; subst e0
  obtain ⟨a,cap,rfl,_,_,e3,e4,_⟩:=rep_sl.1 e1
  subst e3; subst e4
  exact ⟨_,_,.inl rfl,k1,⟨rfl,.inl ⟨rfl,rfl⟩⟩,by simp [Value.ownBlock],hI.ownk i hi,fun k hk=>by simp [Value.ownBlock] at hk⟩
theorem bwtr_rep {C:Ctx} {i:Nat} {l:List UInt8} (h:BF (fun g=>C.own g=some i) (C.κ i) l C.w):BlkRep C i (bwt l):=by
 refine ⟨fun w' hw _=>BF.stable h hw,fun o x hx=>?_⟩
 cases hx
theorem a_bwrite {h:Hp} {i:Nat} {l:List UInt8} (hw:Bt h i l) (s:List UInt8) (hlen:l.length+s.length≤1000000000) :
  ACall Tryz.prog GT 85 [.ptr i 0,.str s] h fun v h'=>v = .tup [.int .i64 s.length,.nili]∧h'=⟨h.b.set i (bwt (l++s)),h.t⟩:=by
 intro C es hI ha
 obtain ⟨c,es',rfl,h1,h2⟩:=repL_cons.1 ha
 obtain ⟨rfl,hi⟩:=rep_ptr.1 h1
 obtain rfl:=args1 r_str C es' h2
 refine (bf_write (hw.bf hI) s hlen).mono ?_
 rintro e w' ⟨rfl,m1,m2⟩
 have hrep:BlkRep (C.turn w' i true) i (bwt (l++s)):=by
  refine bwtr_rep ?_
  obtain ⟨p,v,hp,hb,hown,hne,hF,hFk⟩:=m1
  have hlt:=(cell_row2 hb).2.2.2.2
  have hcl:∀ k,k < w'.heap.size→(C.own k=some i∨C.w.heap.size≤k)→(C.turn w' i true).own k=some i:=fun k hk hor=>by
   show (if k < C.w.heap.size then C.own k else if true=true∧k < w'.heap.size then some i else none)=some i
   split
   ·rcases hor with h3 | h3
    ·exact h3
    ·omega
   ·rw [if_pos ⟨rfl,hk⟩]
  refine ⟨p,v,hp,hb,hown,hne,hcl _ hlt hF,fun k hk=>hcl k ?_ (hFk k hk)⟩
  rcases hown.2 with ⟨rfl,_⟩ | ⟨g,cap,cur,fz,rfl,_,h3,_⟩
  ·simp [Value.ownBlock] at hk
  ·simp only [Value.ownBlock,Option.some.injEq] at hk; subst hk
   exact (Array.getElem?_eq_some_iff.1 h3).1
 obtain ⟨i1,s1⟩:=box_turn (b':=bwt (l++s)) true hI hi m2.os m2.tape m2.output m2.size (fun g hg hne=>m2.block g hg hne) (fun _=>hrep)
 exact ⟨_,_,.tup [.int .i64 s.length,.nili],_,rfl,rfl,i1,s1,rep_tup.2 ⟨_,rfl,repL_cons.2 ⟨_,_,rfl,rep_int.2 rfl,repL_cons.2 ⟨_,_,rfl,rep_nili.2 rfl,repL_nil.2 rfl⟩⟩⟩,rfl,rfl⟩
theorem a_blen {h:Hp} {i:Nat} {l:List UInt8} (hw:Bt h i l):ACall Tryz.prog GT 61 [.ptr i 0] h fun v h'=>v = .int .i64 l.length∧h'=h:=by
 intro C es hI ha
 obtain ⟨c,es',rfl,h1,h2⟩:=repL_cons.1 ha
 obtain ⟨rfl,hi⟩:=rep_ptr.1 h1
 rw [repL_nil] at h2; subst h2
 refine (bwtr_len (hw.bf hI).bwtr).mono ?_
 rintro e w' ⟨rfl,rfl⟩
 exact ⟨C,h,_,_,rfl,rfl,hI,Step.refl C,rep_int.2 rfl,rfl,rfl⟩
theorem a_bstring {h:Hp} {i:Nat} {l:List UInt8} (hw:Bt h i l) (h0:l≠[]):ACall Tryz.prog GT 30 [.ptr i 0] h fun v h'=>v = .str l∧h'=⟨h.b.set i dead,h.t⟩:=by
 intro C es hI ha
 obtain ⟨c,es',rfl,h1,h2⟩:=repL_cons.1 ha
 obtain ⟨rfl,hi⟩:=rep_ptr.1 h1
 rw [repL_nil] at h2; subst h2
 refine (bf_string (hw.bf hI) h0).mono ?_
 rintro e w' ⟨rfl,m2⟩
 obtain ⟨i1,s1⟩:=box_turn (b':=dead) false hI hi m2.os m2.tape m2.output m2.size (fun g hg hne=>m2.block g hg hne) (fun _=>⟨fun _ _ _=>trivial,fun o x hx=>by cases hx⟩)
 exact ⟨_,_,.str l,_,rfl,rfl,i1,s1,rep_str.2 rfl,rfl,rfl⟩
def c_acheck:AX.AFn:=⟨39,aS [aR 1 (.box 133 (.t 0)),aR 2 (.mv (aI 0))] (.seq (aS [aF 5 0 1,aL 6 5,aR 7 (.len false (.t 6)),aR 8 (.bin .gtr (.t 7) (aI 16))] (.cond (.t 8) (aS [aR 2 (.mv (aI 4))] (.ret)) (.skip))) (.seq (aS [aF 9 0 1,aL 10 9,aR 11 (.len false (.t 10)),aR 12 (.mv (aI 0))] (.block 0 (.loop (aS [aR 13 (.bin .lss (.t 12) (.t 11))] (.seq (.cond (.t 13) (.skip) (.exit 0)) (.seq (.block 1 (aS [aR 14 (.iaddr 4 (.t 10) (.t 12)),aR 15 (.load true 4 (.t 14)),aR 4 (.alloc 158 [.str [],.int .i64 0,.int .i64 0,.str []]),aU (.store 4 (.t 4) (.t 15))] (.seq (aS [aF 16 0 4,aL 17 16,aR 18 (.call 76 [.t 17]),aR 19 (.un .not (.t 18))] (.cond (.t 19) (aS [aR 2 (.mv (aI 7))] (.ret)) (.skip))) (aS [aF 20 1 4,aR 21 (.load true 3 (.t 20)),aR 22 (.call 165 [.t 21]),aR 23 (.un .not (.t 22))] (.cond (.t 23) (aS [aR 2 (.mv (aI 1))] (.ret)) (.skip)))))) (.reg false [aR 24 (.bin .add (.t 12) (aI 1)),aM 12 24]))))))) (.seq (aS [aF 25 2 1,aL 26 25,aR 27 (.call 103 [.t 26]),aR 28 (.un .not (.t 27)),aM 29 28,aG 30 (.faddr 3 (.t 1)) 29 false,aG 31 (.load false 1 (.t 30)) 29 false,aG 32 (.call 76 [.t 31]) 29 false,aG 33 (.un .not (.t 32)) 29 false,aR 34 (.pick (.t 29) (.c (.bool true)) (.t 33))] (.cond (.t 34) (aS [aR 2 (.mv (aI 7))] (.ret)) (.skip))) (.seq (aS [aF 35 4 1,aR 36 (.load true 3 (.t 35)),aR 37 (.call 165 [.t 36]),aR 38 (.un .not (.t 37))] (.cond (.t 38) (aS [aR 2 (.mv (aI 1))] (.ret)) (.skip))) (aS [aR 2 (.mv (aI 0))] (.ret)))))),[.t 2]⟩
theorem h_acheck:AX.compFn Tryz.prog 139=some c_acheck:=by kernel_rfl
def c_afmtkey:AX.AFn:=⟨26,aS [aR 1 (.box 131 (.t 0)),aR 2 (.mv (.c (.str [])))] (.seq (.block 0 (aS [aR 4 (.load true 3 (.t 1)),aR 5 (.call 165 [.t 4]),aR 6 (.un .not (.t 5)),aM 7 6,aG 8 (.faddr 0 (.t 1)) 7 false,aG 9 (.load false 1 (.t 8)) 7 false,aG 10 (.bin .eql (.t 9) (aI 0)) 7 false,aR 11 (.pick (.t 7) (.c (.bool true)) (.t 10)),aM 3 11] (.cond (.t 3) (aS [aR 2 (.mv (.c (.str [])))] (.ret)) (aS [aF 13 0 1,aL 14 13,aR 15 (.bin .eql (.t 14) (aI 1)),aM 12 15] (.cond (.t 12) (aS [aF 16 1 1,aL 17 16,aR 18 (.call 166 [.t 17]),aR 19 (.bin .add (.c (.str [91])) (.t 18)),aR 20 (.bin .add (.t 19) (.c (.str [93]))),aM 2 20] (.ret)) (.skip)))))) (aS [aF 21 2 1,aL 22 21,aR 23 (.call 128 [.t 22]),aR 24 (.bin .add (.c (.str [91])) (.t 23)),aR 25 (.bin .add (.t 24) (.c (.str [93]))),aM 2 25] (.ret))),[.t 2]⟩
theorem h_afmtkey:AX.compFn Tryz.prog 140=some c_afmtkey:=by kernel_rfl
def c_aformat:AX.AFn:=⟨41,aS [aR 1 (.box 133 (.t 0)),aR 2 (.mv (.c (.str [])))] (.seq (aS [aR 6 (.load true 7 (.t 1)),aR 7 (.call 139 [.t 6]),aR 8 (.bin .neq (.t 7) (aI 0))] (.cond (.t 8) (aS [aR 2 (.mv (.c (.str [])))] (.ret)) (.skip))) (aS [aR 3 (.alloc 74 [.nilp,.sl 0 .nil []])] (.seq (aS [aF 9 0 1,aL 10 9,aR 11 (.len false (.t 10)),aR 12 (.mv (aI 0))] (.block 0 (.loop (aS [aR 13 (.bin .lss (.t 12) (.t 11))] (.seq (.cond (.t 13) (.skip) (.exit 0)) (.seq (.block 1 (aS [aR 14 (.iaddr 4 (.t 10) (.t 12)),aR 15 (.load true 4 (.t 14)),aR 5 (.alloc 158 [.str [],.int .i64 0,.int .i64 0,.str []]),aU (.store 4 (.t 5) (.t 15))] (.reg true [aF 16 0 5,⟨some 17,.load false 1 (.t 16),none,[0]⟩,⟨some 18,.bin .add (.c (.str [109,111,100,117,108,101,46])) (.t 17),none,[1]⟩,aF 19 1 5,⟨some 20,.load true 3 (.t 19),none,[3]⟩,⟨some 21,.call 140 [.t 20],none,[4]⟩,⟨some 22,.bin .add (.t 18) (.t 21),none,[2,5]⟩,⟨some 23,.bin .add (.t 22) (.c (.str [46])),none,[6]⟩,⟨some 24,.call 85 [.t 3,.t 23],none,[7,5]⟩]))) (.reg false [aR 25 (.bin .add (.t 12) (aI 1)),aM 12 25]))))))) (.seq (aS [aF 26 1 1,aL 27 26] (.cond (.t 27) (.reg false [aR 28 (.call 85 [.t 3,.c (.str [100,97,116,97,46])])]) (.skip))) (.seq (.reg true [aF 29 2 1,⟨some 30,.load false 1 (.t 29),none,[0]⟩,⟨some 31,.bin .add (.t 30) (.c (.str [46])),none,[1]⟩,aF 32 3 1,⟨some 33,.load false 1 (.t 32),none,[3]⟩,⟨some 34,.bin .add (.t 31) (.t 33),none,[2,4]⟩,aF 35 4 1,⟨some 36,.load true 3 (.t 35),none,[6]⟩,⟨some 37,.call 140 [.t 36],none,[7]⟩,⟨some 38,.bin .add (.t 34) (.t 37),none,[5,8]⟩,⟨some 39,.call 85 [.t 3,.t 38],none,[9,8]⟩]) (aS [aR 40 (.call 30 [.t 3]),aM 2 40] (.ret))))))),[.t 2]⟩
theorem h_aformat:AX.compFn Tryz.prog 122=some c_aformat:=by kernel_rfl
def c_aStatic:AX.AFn:=⟨17,aS [aR 2 (.mv (.c (.str []))),aR 3 (.mv (aI 0))] (aS [aM 7 0,aR 8 (.call 75 [.t 7]),aM 6 8,aE 9 6 0,aE 10 6 1,aR 4 (.alloc 133 [.sl 0 .nil [],.bool false,.str [],.str [],.int .i64 0,.int .i64 0,.str []]),aU (.store 7 (.t 4) (.t 9)),aM 5 10] (.seq (aS [aM 11 5,aR 12 (.bin .neq (.t 11) (aI 0))] (.cond (.t 12) (aS [aM 13 5,aR 2 (.mv (.c (.str []))),aM 3 13] (.ret)) (.skip))) (aS [aR 14 (.load true 7 (.t 4)),aR 15 (.call 123 [.t 14]),aR 16 (.call 122 [.t 15]),aM 2 16,aR 3 (.mv (aI 0))] (.ret)))),[.t 2,.t 3]⟩
theorem h_aStatic:AX.compFn Tryz.prog 96=some c_aStatic:=by kernel_rfl
structure Adr.In (a:Adr.Ad):Prop where
 n:a.mods.length≤3000000
 m:∀ s∈a.mods,s.name.length≤2000000∧s.key.str.length≤2000000
 t:a.type.length≤2000000
 nm:a.name.length≤2000000
 k:a.key.str.length≤2000000
theorem a_acheck (a:Adr.Ad) (hi:Adr.In a) (h:Hp):ACall Tryz.prog GT 139 [.agg a.cells] h fun r h'=>r = .int .i64 (Adr.check a)∧h'=h:=by
 obtain ⟨mods,data,ty,nm,⟨kk,kn,ks⟩⟩:=a
 obtain ⟨hn,hm,ht,ha,hk⟩:=hi
 dsimp only at hn hm ht ha hk
 refine pcall ?_ rfl (by simp [A.pure,A.data,Adr.Ad.cells]) h
 refine acall_of mixedT h_acheck (by simp [c_acheck]) ?_
 dsimp only [c_acheck,Adr.Ad.cells]
 have lm:(mods.map Adr.Step.cells).length=mods.length:=List.length_map ..
 obtain ⟨Z,hZ⟩:∃ Z,Adr.check ⟨mods,data,ty,nm,⟨kk,kn,ks⟩⟩=Z:=⟨_,rfl⟩
 rw [hZ]
 unfold Adr.check at hZ
 dsimp only at hZ
 by_cases h16:(mods.length:Int) > 16
 ·rw [if_pos (by omega)] at hZ
  subst hZ
  refine run0 (ai lm h16) ?_
  exact ⟨_,le_refl _,rfl⟩
 rw [if_neg (by omega)] at hZ
 have ck:=fun h=>a_kind ty ht h
 have ci:=fun h=>a_ident nm ha h
 have cv:=fun h=>a_avalid ⟨kk,kn,ks⟩ hk h
 unfold Adr.K.A at cv
 dsimp only at cv
 refine run0 (ai lm h16) ?_
 refine awp_loop (fun mm ts h=>∃ (j:Nat) (l:List Blk),mm=mods.length - j∧j≤mods.length∧h=⟨.cells 133 [.sl 4 .no (mods.map Adr.Step.cells),.bool data,.str ty,.str nm,.int .i64 kk,.int .i64 kn,.str ks]::l,[]⟩ ∧
  (match (mods.drop j).find? (fun s=>!(Adr.ident s.name&&Adr.keyOk s.key)) with
  | some s=>if Adr.ident s.name then (1:Int) else 7
  | none=>if !Adr.kindB ty||!Adr.ident nm then 7 else if !Adr.keyOk ⟨kk,kn,ks⟩ then 1 else 0)=Z ∧
  ts 1 = .ptr 0 0∧ts 10 = .sl 4 .no (mods.map Adr.Step.cells)∧ts 11 = .int .i64 (mods.length:Nat)∧ts 12 = .int .i64 (j:Nat)) mods.length ?_ ?_
 ·exact ⟨0,[],by omega,by omega,rfl,hZ,by (exact ev0 ti),by (exact ev0 ti),by (exact ev0 lm),by (exact inv0 ti)⟩
 rintro mm ts h ⟨j,l,rfl,hjc,rfl,hit,t1,t10,t11,t12⟩
 by_cases hj:j < mods.length
 ·have hlt:(j:Int) < (mods.length:Int):=by omega
  have hlt':(j:Int) < ((mods.map Adr.Step.cells).length:Int):=by rw [lm]; exact hlt
  have hj0:(0:Int)≤(j:Int):=by omega
  have ei:IntKind.i64.wrap ((j:Int)+1)=((j+1:Nat):Int):=by rw [wrap64 (by omega) (by omega)]; omega
  have hg:=map_getD Adr.Step.cells mods j hj
  have hmj:=hm _ (List.getElem_mem hj)
  rw [List.drop_eq_getElem_cons hj,List.find?_cons] at hit
  obtain ⟨x,hx⟩:∃ x,mods[j]=x:=⟨_,rfl⟩
  rw [hx] at hg hmj hit
  obtain ⟨xn,⟨xk,xm,xs⟩⟩:=x
  dsimp only [Adr.Step.cells] at hg hmj hit
  have cxi:=fun h=>a_ident xn hmj.1 h
  have cxv:=fun h=>a_avalid ⟨xk,xm,xs⟩ hmj.2 h
  unfold Adr.K.A at cxv
  dsimp only at cxv
  obtain ⟨I,hI⟩:∃ I,Adr.ident xn=I:=⟨_,rfl⟩
  obtain ⟨K,hK⟩:∃ K,Adr.keyOk ⟨xk,xm,xs⟩=K:=⟨_,rfl⟩
  rw [hI] at cxi hit
  rw [hK] at cxv hit
  refine run0 (ai t1 (ai t10 (ai t11 (ai t12 (ai hlt (ai hlt' (ai hj0 hg))))))) ?_
  refine use (cxi _) ?_
  cases I
  ·simp only [Bool.false_and,Bool.not_false] at hit
   rw [hI] at hit
   simp only [Bool.false_eq_true,if_false] at hit
   subst hit
   refine run0 (ai t1 (ai t10 (ai t11 t12))) ?_
   exact ⟨_,le_refl _,rfl⟩
  refine run0 (ai t1 (ai t10 (ai t11 t12))) ?_
  refine use (cxv _) ?_
  cases K
  ·simp only [Bool.and_false,Bool.not_false] at hit
   rw [hI] at hit
   simp only [if_true] at hit
   subst hit
   refine run0 (ai t1 (ai t10 (ai t11 t12))) ?_
   exact ⟨_,le_refl _,rfl⟩
  ·simp only [Bool.and_true,Bool.not_true] at hit
   refine run0 (ai t1 (ai t10 (ai t11 (ai t12 ei)))) ?_
   exact ⟨mods.length - (j+1),by omega,j+1,_,rfl,by omega,rfl,hit,by (exact ev0 t1),by (exact ev0 t10),by (exact ev0 t11),by (exact ev0 ei)⟩
 ·have hlt:¬ ((j:Int) < (mods.length:Int)):=by omega
  rw [List.drop_eq_nil_of_le (by omega)] at hit
  simp only [List.find?_nil] at hit
  refine run0 (ai t1 (ai t10 (ai t11 (ai t12 hlt)))) ?_
  refine use (ck _) ?_
  cases hkb:Adr.kindB ty
  ·rw [hkb] at hit
   rw [if_pos (by simp)] at hit
   subst hit
   refine run0 (ai t1 (ai t10 (ai t11 t12))) ?_
   exact ⟨_,le_refl _,rfl⟩
  rw [hkb] at hit
  refine run0 (ai t1 (ai t10 (ai t11 t12))) ?_
  refine use (ci _) ?_
  cases hib:Adr.ident nm
  ·rw [hib] at hit
   rw [if_pos (by simp)] at hit
   subst hit
   refine run0 (ai t1 (ai t10 (ai t11 t12))) ?_
   exact ⟨_,le_refl _,rfl⟩
  rw [hib] at hit
  rw [if_neg (by simp)] at hit
  refine run0 (ai t1 (ai t10 (ai t11 t12))) ?_
  refine use (cv _) ?_
  cases hvb:Adr.keyOk ⟨kk,kn,ks⟩
  ·rw [hvb] at hit
   rw [if_pos (by simp)] at hit
   subst hit
   refine run0 (ai t1 (ai t10 (ai t11 t12))) ?_
   exact ⟨_,le_refl _,rfl⟩
  ·rw [hvb] at hit
   rw [if_neg (by simp)] at hit
   subst hit
   refine run0 (ai t1 (ai t10 (ai t11 t12))) ?_
   exact ⟨_,le_refl _,rfl⟩
theorem a_fmtkey0 (h:Hp):ACall Tryz.prog GT 140 [.agg [.int .i64 0,.int .i64 0,.str []]] h fun r h'=>r = .str []∧h'=h:=by
 refine pcall ?_ rfl (by simp [A.pure,A.data]) h
 refine acall_of mixedT h_afmtkey (by simp [c_afmtkey]) ?_
 dsimp only [c_afmtkey]
 have cv:=fun h=>a_avalid Adr.K.none (by unfold Adr.K.none; simp) h
 have e1:Adr.keyOk Adr.K.none=true:=by decide
 rw [e1] at cv
 unfold Adr.K.A Adr.K.none at cv
 dsimp only at cv
 refine run0 ti ?_
 refine use (cv _) ?_
 refine run0 ti ?_
 exact ⟨_,le_refl _,rfl⟩
def Bw (acc:List UInt8) (w:Blk):Prop:=w=bwt acc∨(acc=[]∧w = .cells 74 [.nilp,.sl 0 .nil []])
theorem Bw.bt {acc:List UInt8} {w B0:Blk} {l:List Blk} {t:List (TypeId×Nat×Nat)} (hw:Bw acc w):Bt ⟨B0::w::l,t⟩ 1 acc:=by
 rcases hw with rfl | ⟨rfl,rfl⟩
 ·exact .inl rfl
 ·exact .inr ⟨rfl,rfl⟩
def stepB (s:Adr.Step):List UInt8:=Adr.modW++s.name++[46]
theorem fmt_bare (mods:List Adr.Step) (data:Bool) (ty nm:List UInt8) (hk:∀ s∈mods,s.key=Adr.K.none) (hc:Adr.check ⟨mods,data,ty,nm,Adr.K.none⟩=0) :
  Adr.fmt ⟨mods,data,ty,nm,Adr.K.none⟩=mods.flatMap stepB++(if data then Adr.dataW else [])++(ty++[46]++nm):=by
 have hn:Adr.fmtKey Adr.K.none=[]:=by decide
 unfold Adr.fmt
 rw [if_neg (by simp [hc])]
 dsimp only
 rw [hn]
 have e:Adr.steps mods=mods.flatMap stepB:=by
  unfold Adr.steps
  induction mods with
  | nil=>rfl
  | cons x l ih =>
   have hx:=hk x (by simp)
   have hcl:∀ l:List Adr.Step,(∀ s∈l,s.key=Adr.K.none)→(l.flatMap fun s=>Adr.modW++s.name++Adr.fmtKey s.key++[46])=l.flatMap stepB:=by
    intro l
    induction l with
    | nil=>intro _; rfl
    | cons y l ih =>
     intro hl
     rw [List.flatMap_cons,List.flatMap_cons,ih fun s hs=>hl s (by simp [hs]),hl y (by simp),hn]
     unfold stepB
     simp
   exact hcl _ hk
 rw [e]
 simp
theorem fm_snoc' {α:Type} (f:α→List UInt8) (l:List α) (j:Nat) (hj:j < l.length):(l.take (j+1)).flatMap f=(l.take j).flatMap f++f l[j]:=by
 rw [List.take_succ_eq_append_getElem hj,List.flatMap_append]; simp
theorem fm_len16:∀ (l:List Adr.Step),(∀ s∈l,s.name.length≤2000000)→(l.flatMap stepB).length≤l.length*2000008
 | [],_=>by simp
 | x::l,h=>by
  rw [List.flatMap_cons,List.length_append,List.length_cons,Nat.succ_mul]
  have h1:=fm_len16 l fun s hs=>h s (by simp [hs])
  have h2:=h x (by simp)
  have h3:(stepB x).length=x.name.length+8:=by unfold stepB; simp [Adr.modW] <;> omega
  omega
theorem a_format0 (a:Adr.Ad) (hi:Adr.In a) (hk:∀ s∈a.mods,s.key=Adr.K.none) (hkk:a.key=Adr.K.none) (h:Hp):ACall Tryz.prog GT 122 [.agg a.cells] h fun r h'=>r = .str (Adr.fmt a)∧h'=h:=by
 have cc:=fun h=>a_acheck a hi h
 obtain ⟨mods,data,ty,nm,key⟩:=a
 dsimp only at hk hkk
 subst hkk
 have hfb:=fmt_bare mods data ty nm hk
 obtain ⟨hn,hm,ht,ha,_⟩:=hi
 dsimp only at hn hm ht ha
 refine pcall ?_ rfl (by simp [A.pure,A.data,Adr.Ad.cells]) h
 refine acall_of mixedT h_aformat (by simp [c_aformat]) ?_
 dsimp only [c_aformat,Adr.Ad.cells,Adr.K.none] at cc ⊢
 have lm:(mods.map Adr.Step.cells).length=mods.length:=List.length_map ..
 by_cases hc0:Adr.check ⟨mods,data,ty,nm,Adr.K.none⟩=0
 rotate_left
 ·have e1:(Adr.check ⟨mods,data,ty,nm,Adr.K.none⟩ != 0)=true:=by simp [hc0]
  have hfz:Adr.fmt ⟨mods,data,ty,nm,Adr.K.none⟩=[]:=by unfold Adr.fmt; rw [if_pos hc0]
  unfold Adr.K.none at e1 hfz
  refine run0 ti ?_
  refine use (cc _) ?_
  refine run0 e1 ?_
  exact ⟨_,le_refl _,by rw [hfz]; rfl⟩
 have e1:(Adr.check ⟨mods,data,ty,nm,Adr.K.none⟩ != 0)=false:=by simp [hc0]
 have hf:=hfb hc0
 have hn16:mods.length≤16:=by
  rcases Nat.lt_or_ge 16 mods.length with h16 | h16
  ·unfold Adr.check at hc0
   rw [if_pos h16] at hc0
   exact absurd hc0 (by decide)
  ·exact h16
 have hlenall:=fm_len16 mods fun s hs=>(hm s hs).1
 unfold Adr.K.none at e1 hf
 rw [hf]
 refine run0 ti ?_
 refine use (cc _) ?_
 refine run0 (ai e1 lm) ?_
 refine awp_loop (fun mm ts h=>∃ (j:Nat) (w:Blk) (l:List Blk),mm=mods.length - j∧j≤mods.length∧h=⟨.cells 133 [.sl 4 .no (mods.map Adr.Step.cells),.bool data,.str ty,.str nm,.int .i64 0,.int .i64 0,.str []]::w::l,[]⟩∧Bw ((mods.take j).flatMap stepB) w ∧
  ts 1 = .ptr 0 0∧ts 3 = .ptr 1 0∧ts 10 = .sl 4 .no (mods.map Adr.Step.cells)∧ts 11 = .int .i64 (mods.length:Nat)∧ts 12 = .int .i64 (j:Nat)) mods.length ?_ ?_
 ·exact ⟨0,_,[],by omega,by omega,rfl,.inr ⟨rfl,rfl⟩,by (exact ev0 ti),by (exact ev0 ti),by (exact ev0 ti),by (exact ev0 lm),by (exact inv0 ti)⟩
 rintro mm ts h ⟨j,w,l,rfl,hjc,rfl,hw,t1,t3,t10,t11,t12⟩
 have hacc:((mods.take j).flatMap stepB).length≤32000128:=by
  have h2:(mods.take j).length≤16:=by rw [List.length_take]; omega
  exact Nat.le_trans (fm_len16 (mods.take j) fun s hs=>(hm s (List.mem_of_mem_take hs)).1) (Nat.le_trans (Nat.mul_le_mul_right 2000008 h2) (by decide))
 by_cases hj:j < mods.length
 ·have hlt:(j:Int) < (mods.length:Int):=by omega
  have hlt':(j:Int) < ((mods.map Adr.Step.cells).length:Int):=by rw [lm]; exact hlt
  have hj0:(0:Int)≤(j:Int):=by omega
  have ei:IntKind.i64.wrap ((j:Int)+1)=((j+1:Nat):Int):=by rw [wrap64 (by omega) (by omega)]; omega
  have hg:=map_getD Adr.Step.cells mods j hj
  have hmj:=hm _ (List.getElem_mem hj)
  have hkj:=hk _ (List.getElem_mem hj)
  have hsn:=fm_snoc' stepB mods j hj
  obtain ⟨x,hx⟩:∃ x,mods[j]=x:=⟨_,rfl⟩
  rw [hx] at hg hmj hkj hsn
  obtain ⟨xn,xk⟩:=x
  dsimp only at hkj
  subst hkj
  dsimp only [Adr.Step.cells,Adr.K.none] at hg hmj
  have hxl:=hmj.1
  have hsl:(stepB ⟨xn,Adr.K.none⟩).length=xn.length+8:=by unfold stepB; simp [Adr.modW] <;> omega
  have hse:109::111::100::117::108::101::46::(xn++[46])=stepB ⟨xn,Adr.K.none⟩:=rfl
  have l1:7+xn.length < 1099511627776:=by omega
  have l2:xn.length+7 < 1099511627776:=by omega
  have l3:xn.length+7+1 < 1099511627776:=by omega
  have l4:xn.length+8 < 1099511627776:=by omega
  have hcw:=fun (z:Blk)=>a_bwrite (h:=⟨.cells 133 [.sl 4 .no (mods.map Adr.Step.cells),.bool data,.str ty,.str nm,.int .i64 0,.int .i64 0,.str []]::w::(l++[z]),[]⟩) (i:=1) hw.bt (stepB ⟨xn,Adr.K.none⟩) (by rw [hsl]; omega)
  rw [←hsn] at hcw
  have hcf:=fun h=>a_fmtkey0 h
  refine run0 (ai t1 (ai t3 (ai t10 (ai t11 (ai t12 (ai hlt (ai hlt' (ai hj0 (ai hg (ai l1 hse)))))))))) ?_
  refine use (hcf _) ?_
  refine run0 (ai t1 (ai t3 (ai t10 (ai t11 (ai t12 (ai l1 (ai l2 (ai l3 (ai l4 hse))))))))) ?_
  refine use (hcw _) ?_
  refine run0 (ai t1 (ai t3 (ai t10 (ai t11 (ai t12 ei))))) ?_
  exact ⟨mods.length - (j+1),by omega,j+1,_,_,rfl,by omega,rfl,.inl rfl,by (exact ev0 t1),by (exact ev0 t3),by (exact ev0 t10),by (exact ev0 t11),by (exact ev0 ei)⟩
 ·have hlt:¬ ((j:Int) < (mods.length:Int)):=by omega
  have hje:j=mods.length:=by omega
  subst hje
  rw [List.take_length] at hw hacc
  obtain ⟨P,hP⟩:∃ P,mods.flatMap stepB=P:=⟨_,rfl⟩
  rw [hP] at hw hacc ⊢
  have hcf:=fun h=>a_fmtkey0 h
  have hdw:Adr.dataW=[100,97,116,97,46]:=rfl
  have l1:ty.length+1 < 1099511627776:=by omega
  have l2:ty.length+1+nm.length < 1099511627776:=by omega
  have l3:ty.length+(nm.length+1) < 1099511627776:=by omega
  have l4:ty.length+1+nm.length < 1099511627776:=by omega
  cases data
  ·have hcw:=a_bwrite (h:=⟨.cells 133 [.sl 4 .no (mods.map Adr.Step.cells),.bool false,.str ty,.str nm,.int .i64 0,.int .i64 0,.str []]::w::l,[]⟩) (i:=1) hw.bt (ty++[46]++nm) (by simp; omega)
   have hcs:=a_bstring (h:=⟨.cells 133 [.sl 4 .no (mods.map Adr.Step.cells),.bool false,.str ty,.str nm,.int .i64 0,.int .i64 0,.str []]::bwt (P++(ty++[46]++nm))::l,[]⟩) (i:=1) (.inl rfl) (by simp)
   refine run0 (ai t1 (ai t3 (ai t10 (ai t11 (ai t12 (ai hlt (ai l1 (ai l2 l3)))))))) ?_
   refine use (hcf _) ?_
   refine run0 (ai t1 (ai t3 (ai t10 (ai t11 (ai t12 (ai hlt (ai l1 (ai l2 (ai l3 l4))))))))) ?_
   refine use hcw ?_
   refine run0 (ai t1 (ai t3 (ai t10 (ai t11 t12)))) ?_
   refine use hcs ?_
   refine run0 (ai t1 (ai t3 (ai t10 (ai t11 t12)))) ?_
   exact ⟨_,le_refl _,by simp [tupA_1]⟩
  ·have hcd:=a_bwrite (h:=⟨.cells 133 [.sl 4 .no (mods.map Adr.Step.cells),.bool true,.str ty,.str nm,.int .i64 0,.int .i64 0,.str []]::w::l,[]⟩) (i:=1) hw.bt Adr.dataW (by rw [hdw]; simp; omega)
   have hcw:=a_bwrite (h:=⟨.cells 133 [.sl 4 .no (mods.map Adr.Step.cells),.bool true,.str ty,.str nm,.int .i64 0,.int .i64 0,.str []]::bwt (P++Adr.dataW)::l,[]⟩) (i:=1) (.inl rfl) (ty++[46]++nm) (by rw [hdw]; simp; omega)
   have hcs:=a_bstring (h:=⟨.cells 133 [.sl 4 .no (mods.map Adr.Step.cells),.bool true,.str ty,.str nm,.int .i64 0,.int .i64 0,.str []]::bwt (P++Adr.dataW++(ty++[46]++nm))::l,[]⟩) (i:=1) (.inl rfl) (by simp)
   rw [hdw] at hcd hcw hcs ⊢
   refine run0 (ai t1 (ai t3 (ai t10 (ai t11 (ai t12 (ai hlt (ai l1 (ai l2 l3)))))))) ?_
   refine use hcd ?_
   refine run0 (ai t1 (ai t3 (ai t10 (ai t11 (ai t12 (ai hlt (ai l1 (ai l2 l3)))))))) ?_
   refine use (hcf _) ?_
   refine run0 (ai t1 (ai t3 (ai t10 (ai t11 (ai t12 (ai hlt (ai l1 (ai l2 (ai l3 l4))))))))) ?_
   refine use hcw ?_
   refine run0 (ai t1 (ai t3 (ai t10 (ai t11 t12)))) ?_
   refine use hcs ?_
   refine run0 (ai t1 (ai t3 (ai t10 (ai t11 t12)))) ?_
   exact ⟨_,le_refl _,by simp [tupA_1]⟩
end AX
end Go.Proofs.YtdgcbckcameggaaGreatDoor
