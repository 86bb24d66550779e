/- Part of what the proof needs. -/
import Derived.Test.YtahmpiioegemaaaGreatDoorMFrJournalRecordsUptoJ
import Derived.Test.YtahmpiioegemaaaGreatDoorMFrJournalRecordsUptoN
import Derived.Test.YtahmpiioegemaaaGreatDoorMFrJournalRecordsUptoO
import Derived.Test.YtahmpiioegemaaaGreatDoorMFrJournalRecordsUptoR
set_option maxHeartbeats 4000000
set_option linter.unusedSimpArgs false
set_option linter.unusedVariables false
set_option linter.unnecessarySimpa false
namespace Go.Proofs.YtahmpiioegemaaaGreatDoor
open Go.RowKit
namespace AX
def c_r1digits:AX.AFn:=⟨31,aS [aR 2 (.mv (.c (.bool false)))] (.seq (aS [aR 3 (.mv (aI 0))] (.block 0 (.loop (.seq (aS [aM 4 3,aM 5 0,aR 6 (.len true (.t 5)),aR 7 (.bin .lss (.t 4) (.t 6))] (.cond (.t 7) (.skip) (.exit 0))) (.seq (.block 1 (aS [aM 10 0,aM 11 3,aR 12 (.sidx (.t 10) (.t 11)),aR 13 (.bin .lss (.t 12) (.c (.int .u8 48))),aM 14 13,aG 15 (.mv (.t 0)) 14 false,aG 16 (.mv (.t 3)) 14 false,aG 17 (.sidx (.t 15) (.t 16)) 14 false,aG 18 (.bin .gtr (.t 17) (.c (.int .u8 57))) 14 false,aR 19 (.pick (.t 14) (.c (.bool true)) (.t 18))] (.cond (.t 19) (aS [aR 2 (.mv (.c (.bool false)))] (.ret)) (.skip)))) (.reg false [aM 8 3,aR 9 (.bin .add (.t 8) (aI 1)),aM 3 9])))))) (aS [aM 20 0,aR 21 (.bin .eql (.t 20) (.c (.str [48]))),aM 22 21,aG 23 (.mv (.t 0)) 22 false,aG 24 (.bin .neq (.t 23) (.c (.str []))) 22 false,aG 25 (.mv (.t 24)) 22 false,aG 26 (.mv (.t 0)) 25 true,aG 27 (.sidx (.t 26) (aI 0)) 25 true,aG 28 (.bin .neq (.t 27) (.c (.int .u8 48))) 25 true,aG 29 (.pick (.t 25) (.t 28) (.c (.bool false))) 22 false,aR 30 (.pick (.t 22) (.c (.bool true)) (.t 29)),aM 2 30] (.ret))),[.t 2]⟩
theorem h_r1digits:AX.compFn Tryz.prog 249=some c_r1digits:=by kernel_rfl
def c_r1valid:AX.AFn:=⟨9,aS [aR 2 (.mv (.c (.bool false)))] (aS [aM 3 0,aR 4 (.bin .geq (.t 3) (aI (-9007199254740992))),aM 5 4,aG 6 (.mv (.t 0)) 5 true,aG 7 (.bin .leq (.t 6) (aI 9007199254740992)) 5 true,aR 8 (.pick (.t 5) (.t 7) (.c (.bool false))),aM 2 8] (.ret)),[.t 2]⟩
theorem h_r1valid:AX.compFn Tryz.prog 202=some c_r1valid:=by kernel_rfl
def c_r1parse:AX.AFn:=⟨54,aS [aR 2 (.mv (aI 0)),aR 3 (.mv (aI 0))] (aS [aM 8 0,aR 9 (.len true (.t 8)),aR 10 (.bin .gtr (.t 9) (aI 0)),aM 11 10,aG 12 (.mv (.t 0)) 11 true,aG 13 (.sidx (.t 12) (aI 0)) 11 true,aG 14 (.bin .eql (.t 13) (.c (.int .u8 45))) 11 true,aR 15 (.pick (.t 11) (.t 14) (.c (.bool false))),aM 4 15] (aS [aM 16 0,aM 5 16] (.seq (aS [aM 17 4] (.cond (.t 17) (.reg false [aM 18 0,aR 19 (.ssl (.t 18) (some (aI 1)) none),aM 5 19]) (.skip))) (.seq (aS [aM 20 5,aR 21 (.call 249 [.t 20]),aR 22 (.un .not (.t 21)),aM 23 22,aG 24 (.mv (.t 4)) 23 false,aG 25 (.mv (.t 24)) 23 false,aG 26 (.mv (.t 5)) 25 true,aG 27 (.bin .eql (.t 26) (.c (.str [48]))) 25 true,aG 28 (.pick (.t 25) (.t 27) (.c (.bool false))) 23 false,aR 29 (.pick (.t 23) (.c (.bool true)) (.t 28))] (.cond (.t 29) (aS [aR 2 (.mv (aI 0)),aR 3 (.mv (aI 2))] (.ret)) (.skip))) (.seq (aS [aM 30 5,aR 31 (.len true (.t 30)),aR 32 (.bin .gtr (.t 31) (aI 16))] (.cond (.t 32) (aS [aR 2 (.mv (aI 0)),aR 3 (.mv (aI 5))] (.ret)) (.skip))) (aS [aR 6 (.mv (aI 0))] (.seq (aS [aR 7 (.mv (aI 0))] (.block 0 (.loop (.seq (aS [aM 33 7,aM 34 5,aR 35 (.len true (.t 34)),aR 36 (.bin .lss (.t 33) (.t 35))] (.cond (.t 36) (.skip) (.exit 0))) (.seq (.block 1 (.reg false [aM 39 6,aR 40 (.bin .mul (aI 10) (.t 39)),aM 41 5,aM 42 7,aR 43 (.sidx (.t 41) (.t 42)),aR 44 (.bin .sub (.t 43) (.c (.int .u8 48))),aR 45 (.conv .i64 (.t 44)),aR 46 (.bin .add (.t 40) (.t 45)),aM 6 46])) (.reg false [aM 37 7,aR 38 (.bin .add (.t 37) (aI 1)),aM 7 38])))))) (.seq (aS [aM 47 4] (.cond (.t 47) (.reg false [aM 48 6,aR 49 (.un .neg (.t 48)),aM 6 49]) (.skip))) (.seq (aS [aM 50 6,aR 51 (.call 202 [.t 50]),aR 52 (.un .not (.t 51))] (.cond (.t 52) (aS [aR 2 (.mv (aI 0)),aR 3 (.mv (aI 5))] (.ret)) (.skip))) (aS [aM 53 6,aM 2 53,aR 3 (.mv (aI 0))] (.ret))))))))))),[.t 2,.t 3]⟩
theorem h_r1parse:AX.compFn Tryz.prog 229=some c_r1parse:=by kernel_rfl
theorem dig_no (c:UInt8):(decide ((c.toNat:Int) < 48)||decide ((c.toNat:Int) > 57))=!Num.digB c:=by
 unfold Num.digB
 have e1:decide ((c.toNat:Int) < 48)=!decide (48≤c.toNat):=by rw [←decide_not,decide_eq_decide]; omega
 have e2:decide ((c.toNat:Int) > 57)=!decide (c.toNat≤57):=by rw [←decide_not,decide_eq_decide]; omega
 rw [e1,e2,Bool.not_and]
theorem a_r1digits (s:List UInt8) (hl:s.length≤2000000) (h:Hp):ACall Tryz.prog GT 249 [.str s] h fun r h'=>r = .bool (Num.digits s)∧h'=h:=by
 refine pcall ?_ rfl (by simp [A.pure,A.data]) h
 refine acall_of mixedT h_r1digits (by simp [c_r1digits]) ?_
 dsimp only [c_r1digits]
 obtain ⟨q,hq⟩:∃ q,Num.digits s=q:=⟨_,rfl⟩
 rw [hq]
 unfold Num.digits at hq
 refine runx0 ti ti ?_
 refine awp_loop (fun m ts hh=>hh=⟨[],[]⟩∧∃ j:Nat,m=s.length - j∧j≤s.length∧(s.drop j).all Num.digB=s.all Num.digB∧(ts 0 = .str s∧ts 3 = .int .i64 (j:Nat))) s.length ?_ ?_
 ·exact ⟨rfl,0,rfl,Nat.zero_le _,rfl,by (exact inv0 ti)⟩
 rintro m ts hh ⟨rfl,j,rfl,hj,heq,ht⟩
 rcases Nat.lt_or_ge j s.length with hlt | hge
 ·have hf:(j:Int) < (s.length:Int)∧(0:Int)≤(j:Int)∧IntKind.i64.wrap ((j:Int)+1)=((j+1:Nat):Int):=⟨by omega,by omega,i80 (by omega)⟩
  rw [List.drop_eq_getElem_cons hlt,List.all_cons] at heq
  have hg:s.getD j 0=s[j]:=by simp [List.getD,hlt]
  obtain ⟨c,hcc⟩:∃ c,s[j]=c:=⟨_,rfl⟩
  rw [hcc] at heq hg
  have hw:=dig_no c
  cases hB:Num.digB c with
  | false =>
   rw [hB] at heq hw
   have:false=q:=by rw [←hq,←heq]; rfl
   subst this
   refine runx0 (ai ht (ai hf (ai hg hw))) ti ?_
   exact ⟨_,le_refl _,rfl⟩
  | true =>
   rw [hB] at heq hw
   refine runx0 (ai ht (ai hf (ai hg hw))) ti ?_
   exact ⟨_,by omega,rfl,j+1,rfl,by omega,heq,by (exact inv0 (ai ht hf))⟩
 ·have hf:¬ (j:Int) < (s.length:Int):=by omega
  rw [List.drop_of_length_le hge,List.all_nil] at heq
  rw [←heq,Bool.true_and] at hq
  cases s with
  | nil =>
   have hf:¬ (j:Int) < ((0:Nat):Int)∧(([]:List UInt8) == [48])=false:=⟨by omega,rfl⟩
   refine runx0 (ai ht hf) ti ?_
   exact ⟨_,le_refl _,by rw [←hq]; rfl⟩
  | cons c t =>
   have hf:¬ (j:Int) < ((t.length+1:Nat):Int):=hf
   have h0:(0:Int) < ((t.length+1:Nat):Int):=by omega
   have e0:((c::t) != ([]:List UInt8))=true:=rfl
   have e1:((c.toNat:Int) != 48)=(c != 48):=by
    rw [Bool.eq_iff_iff,bne_iff_ne,bne_iff_ne,ne_eq,ne_eq,←UInt8.toNat_inj]
    show ¬ _↔¬ c.toNat=48
    omega
   rw [e0,Bool.true_and,List.getD_cons_zero,←e1] at hq
   refine runx0 (ai ht (ai hf (ai h0 e0))) ti ?_
   exact ⟨_,le_refl _,by rw [←hq]; rfl⟩
theorem a_r1valid (n:Int) (h:Hp):ACall Tryz.prog GT 202 [.int .i64 n] h fun r h'=>r = .bool (decide (n≥-9007199254740992)&&decide (n≤9007199254740992))∧h'=h:=by
 refine pcall ?_ rfl (by simp [A.pure,A.data]) h
 refine acall_of mixedT h_r1valid (by simp [c_r1valid]) ?_
 dsimp only [c_r1valid]
 refine runx0 ti ti ?_
 exact ⟨_,le_refl _,rfl⟩
theorem val_take (t:List UInt8) (j:Nat) (h:j < t.length):Num.val (t.take (j+1))=10*Num.val (t.take j)+(t[j].toNat - 48):=by
 rw [List.take_succ_eq_append_getElem h]
 unfold Num.val
 rw [List.foldl_append]
 rfl
theorem val_lt:∀ (n:Nat) (t:List UInt8),t.length=n→t.all Num.digB=true→Num.val t < 10 ^ n:=by
 intro n
 induction n with
 | zero=>intro t ht _; rw [List.eq_nil_of_length_eq_zero ht]; decide
 | succ n ih =>
  intro t ht ha
  have hlt:n < t.length:=by omega
  have h1:=val_take t n hlt
  rw [List.take_of_length_le (by omega)] at h1
  have h2:=ih (t.take n) (by rw [List.length_take]; omega) (by
   rw [List.all_eq_true] at ha ⊢
   exact fun x hx=>ha x (List.mem_of_mem_take hx))
  have h3:=List.all_eq_true.1 ha t[n] (List.getElem_mem hlt)
  rw [Num.digB_iff] at h3
  rw [h1,Nat.pow_succ]
  omega
theorem a_r1parse (s:List UInt8) (hl:s.length≤2000000) (h:Hp):ACall Tryz.prog GT 229 [.str s] h fun r h'=>r = .tup [.int .i64 (Num.parse s).1,.int .i64 (Num.parse s).2]∧h'=h:=by
 refine pcall ?_ rfl (by simp [A.pure,A.data]) h
 refine acall_of mixedT h_r1parse (by simp [c_r1parse]) ?_
 dsimp only [c_r1parse]
 cases s with
 | nil =>
  have hd:=a_r1digits [] (by decide)
  rw [show Num.digits []=false from rfl] at hd
  have h00:¬ ((0:Nat):Int) > 0:=by decide
  refine runx0 h00 (ai hd ti) ?_
  exact ⟨_,le_refl _,rfl⟩
 | cons c r =>
 have h0:(0:Int) < ((r.length+1:Nat):Int)∧((r.length+1:Nat):Int) > 0∧(0:Int)≤1∧(1:Int)≤((r.length+1:Nat):Int):=⟨by omega,by omega,by omega,by omega⟩
 obtain ⟨t,ht⟩:∃ t,(if (c == 45)=true then r else c::r)=t:=⟨_,rfl⟩
 have hl':r.length+1≤2000000:=hl
 have htl:t.length≤2000000:=by
  rw [←ht]
  split
  ·omega
  ·exact hl
 have e1:((c.toNat:Int) == 45)=(c == 45):=by
  rw [Bool.eq_iff_iff,beq_iff_eq,beq_iff_eq,←UInt8.toNat_inj]
  show _↔c.toNat=45
  omega
 have hp:Num.parse (c::r)=if (!Num.digits t||((c == 45)&&t == [48]))=true then (0,2) else if 16 < t.length then (0,5) else if 9007199254740992 < Num.val t then (0,5) else ((if (c == 45)=true then - (Num.val t:Int) else Num.val t),0):=by
  unfold Num.parse
  simp only [List.getD_cons_zero,List.drop_succ_cons,List.drop_zero,ht]
 obtain ⟨mn,hmn⟩:∃ mn,(c == 45)=mn:=⟨_,rfl⟩
 rw [hmn] at e1 hp ht
 refine runx0 (ai h0 e1) ti ?_
 refine awp_join (fun ts' h'=>h'=⟨[],[]⟩∧(ts' 4 = .bool mn∧ts' 5 = .str t)) ?_ ?_
 ·cases mn with
  | false =>
   rw [if_neg (by decide)] at ht
   refine runx0 (ai h0 e1) ti ?_
   exact ⟨rfl,by (exact inv0 (ai ht e1))⟩
  | true =>
   rw [if_pos rfl] at ht
   refine runx0 (ai h0 e1) ti ?_
   exact ⟨rfl,by (exact inv0 (ai ht e1))⟩
 rintro ts hh ⟨rfl,hu⟩
 rw [hp]
 have hd:=a_r1digits t htl
 cases hD:Num.digits t with
 | false =>
  rw [hD] at hd
  refine runx0 hu (ai hd ti) ?_
  exact ⟨_,le_refl _,rfl⟩
 | true =>
 rw [hD] at hd
 cases hz:(mn&&t == [48]) with
 | true =>
  refine runx0 (ai hu hz) (ai hd ti) ?_
  exact ⟨_,le_refl _,rfl⟩
 | false =>
 rw [if_neg (by simp)]
 by_cases h16:16 < t.length
 ·have e2:(t.length:Int) > 16:=by omega
  rw [if_pos h16]
  refine runx0 (ai hu (ai hz e2)) (ai hd ti) ?_
  exact ⟨_,le_refl _,rfl⟩
 have e2:¬ (t.length:Int) > 16:=by omega
 rw [if_neg h16]
 have hall:t.all Num.digB=true:=by unfold Num.digits at hD; rw [Bool.and_eq_true] at hD; exact hD.1
 have hv:∀ j,j≤t.length→Num.val (t.take j) < 10000000000000000:=fun j hj=>by
  have:=val_lt j (t.take j) (by rw [List.length_take]; omega) (by
   rw [List.all_eq_true] at hall ⊢
   exact fun x hx=>hall x (List.mem_of_mem_take hx))
  exact Nat.lt_of_lt_of_le this (Nat.pow_le_pow_right (by decide) (show j≤16 by omega))
 refine runx0 (ai hu (ai hz e2)) (ai hd ti) ?_
 refine awp_loop (fun m ts hh=>hh=⟨[],[]⟩∧∃ j:Nat,m=t.length - j∧j≤t.length∧(ts 4 = .bool mn∧ts 5 = .str t∧ts 6 = .int .i64 (Num.val (t.take j):Nat)∧ts 7 = .int .i64 (j:Nat))) t.length ?_ ?_
 ·exact ⟨rfl,0,rfl,Nat.zero_le _,by (exact inv0 hu)⟩
 rintro m ts hh ⟨rfl,j,rfl,hj,hw⟩
 have hvj:=hv j hj
 rcases Nat.lt_or_ge j t.length with hlt | hge
 ·have hvj1:=hv (j+1) hlt
  have hvt:=val_take t j hlt
  have hcd:=(Num.digB_iff _).1 (List.all_eq_true.1 hall t[j] (List.getElem_mem hlt))
  have hg:t.getD j 0=t[j]:=by simp [List.getD,hlt]
  obtain ⟨x,hx⟩:∃ x,t[j]=x:=⟨_,rfl⟩
  rw [hx] at hvt hcd hg
  have hf:(j:Int) < (t.length:Int)∧(0:Int)≤(j:Int)∧IntKind.i64.wrap ((j:Int)+1)=((j+1:Nat):Int):=⟨by omega,by omega,i80 (by omega)⟩
  obtain ⟨V,hV⟩:∃ V,Num.val (t.take j)=V:=⟨_,rfl⟩
  rw [hV] at hvt hvj hw
  have k1:IntKind.i64.wrap (10*(V:Int))=((10*V:Nat):Int):=by rw [wrap64 (by omega) (by omega)]; omega
  have k2:IntKind.u8.wrap ((x.toNat:Int) - 48)=((x.toNat - 48:Nat):Int):=by rw [IntKind.wrap_u8]; omega
  have k3:IntKind.i64.wrap ((x.toNat - 48:Nat):Int)=((x.toNat - 48:Nat):Int):=wrap64 (by omega) (by omega)
  have k4:IntKind.i64.wrap (((10*V:Nat):Int)+((x.toNat - 48:Nat):Int))=(Num.val (t.take (j+1)):Nat):=by rw [hvt,wrap64 (by omega) (by omega)]; omega
  refine runx0 (ai hw (ai hf (ai hg (ai k1 (ai k2 (ai k3 k4)))))) ti ?_
  exact ⟨_,by omega,rfl,j+1,rfl,by omega,by (exact inv0 (ai hw (ai hf (ai hg (ai k1 (ai k2 (ai k3 k4)))))))⟩
 ·have hf:¬ (j:Int) < (t.length:Int):=by omega
  rw [List.take_of_length_le hge] at hw hvj
  obtain ⟨V,hV⟩:∃ V,Num.val t=V:=⟨_,rfl⟩
  rw [hV] at hw hvj ⊢
  have hva:=fun n=>a_r1valid n
  cases mn with
  | false =>
   by_cases hb:9007199254740992 < V
   ·have e3:(decide ((V:Int)≥-9007199254740992)&&decide ((V:Int)≤9007199254740992))=false:=by simp; omega
    rw [if_pos hb]
    refine runx0 (ai hw (ai hf e3)) (ai ((hva V)) ti) ?_
    exact ⟨_,le_refl _,rfl⟩
   ·have e3:(decide ((V:Int)≥-9007199254740992)&&decide ((V:Int)≤9007199254740992))=true:=by simp; omega
    rw [if_neg hb]
    refine runx0 (ai hw (ai hf e3)) (ai ((hva V)) ti) ?_
    exact ⟨_,le_refl _,rfl⟩
  | true =>
   have e4:IntKind.i64.wrap (0 - (V:Int))=-(V:Int):=by rw [wrap64 (by omega) (by omega)]; omega
   by_cases hb:9007199254740992 < V
   ·have e3:(decide (-(V:Int)≥-9007199254740992)&&decide (-(V:Int)≤9007199254740992))=false:=by simp; omega
    rw [if_pos hb]
    refine runx0 (ai hw (ai hf (ai e4 e3))) (ai ((hva (-(V:Int)))) ti) ?_
    exact ⟨_,le_refl _,rfl⟩
   ·have e3:(decide (-(V:Int)≥-9007199254740992)&&decide (-(V:Int)≤9007199254740992))=true:=by simp; omega
    rw [if_neg hb]
    refine runx0 (ai hw (ai hf (ai e4 e3))) (ai ((hva (-(V:Int)))) ti) ?_
    exact ⟨_,le_refl _,rfl⟩
end AX
theorem hd_extract:∀ d:Fin 16,((⟨#[48,49,50,51,52,53,54,55,56,57,97,98,99,100,101,102]⟩:ByteArray).extract d.val (d.val+1)).data.toList=[Str.hd d.val]:=by decide
theorem hd_str (d:Nat) (h:d < 16):(⟨#[48,49,50,51,52,53,54,55,56,57,97,98,99,100,101,102]⟩:ByteArray).extract d (d+1)=⟨#[Str.hd d]⟩:=by
 have:=hd_extract ⟨d,h⟩
 exact str_of this
theorem digits_small (c:Nat) (w:World) (hc:c < 16) :
  Calls Tryz.prog 287 #[.int .i64 c] w fun e w'=>e = .returned (.string ⟨(Str.hexL c).toArray⟩)∧w=w':=by
 have Hh:=kept (show Str.hexL c=[Str.hd c] by rw [Str.hexL,if_pos hc])
 have hx:=hd_str c hc
 have hc':(c:Int) < 16:=by omega
 have hm:(c:Int) % 16=(c:Int):=by omega
 have hy:(c:Int) < 15+1:=by omega
 generalize hq:Str.hd c=q at *
 clear hc hq
 go_enter Tryz.func287,Tryz.ntmps287
 go_wp2
 go_ret
 exact ⟨by rw [Hh.out]; rfl,rfl⟩
theorem digits_any (c:Nat) (w:World) (hc:c < 256) :
  Calls Tryz.prog 287 #[.int .i64 c] w fun e w'=>e = .returned (.string ⟨(Str.hexL c).toArray⟩)∧w=w':=by
 by_cases h16:c < 16
 ·exact digits_small c w h16
 ·have Hh:=kept (show Str.hexL c=Str.hexL (c / 16)++[Str.hd (c % 16)] by
   rw [Str.hexL,if_neg h16,Str.hexL,if_pos (by omega)]; rfl)
  have hx:=hd_str (c % 16) (by omega)
  have hl:=(Str.hexL_length (c / 16)).2
  have hcat:=fun W=>run_cat (P:=Tryz.prog) W (a:=⟨(Str.hexL (c / 16)).toArray⟩) (b:=⟨#[Str.hd (c % 16)]⟩) (l:=Str.hexL (c / 16)) (m:=[Str.hd (c % 16)]) rfl rfl (by simp; omega)
  obtain ⟨d,hd⟩:∃ d:Nat,(c:Int) % 16=(d:Int):=⟨c % 16,by omega⟩
  obtain ⟨f,hf⟩:∃ f:Nat,(c:Int) / 16=(f:Int):=⟨c / 16,by omega⟩
  obtain rfl:d=c % 16:=by omega
  obtain rfl:f=c / 16:=by omega
  have Hs:=kept (show c / 16 < 16 by omega)
  have hb:((c % 16:Nat):Int) < 16:=by omega
  have hfb:((c / 16:Nat):Int) < 16:=by omega
  have hb2:((c % 16:Nat):Int) < 15+1:=by omega
  have hc':¬ (c:Int) < 16:=by omega
  generalize hq:Str.hd (c % 16)=q at *
  generalize hg:Str.hexL (c / 16)=g at *
  have Hg:=kept hg
  generalize c % 16=d at *
  generalize c / 16=f at *
  clear hc hq h16 hl hg
  go_enter Tryz.func287,Tryz.ntmps287
  go_wp2_with (go_at_call 287; refine (digits_small _ _ Hs.out).mono ?_; rintro e w' ⟨rfl,rfl⟩; rw [Hg.out])
  go_ret
  exact ⟨by rw [Hh.out]; rfl,rfl⟩
theorem one_byte (w:World) (b:UInt8):(convert 61 9 (.slice (some ⟨w.heap.size,0,none⟩) 1 1)).run Tryz.prog (w.alloc (.cells #[.int .u8 b.toNat] 5)) = .ok (.string ⟨#[b]⟩) (w.alloc (.cells #[.int .u8 b.toNat] 5)):=
 (BytesAt.lit w 5 [b]).conv (P:=Tryz.prog) 61 9 1 Tryz.underlying61 Tryz.underlying5 Tryz.underlying9
theorem escaped_any (b:UInt8) (w:World) :
  Calls Tryz.prog 284 #[.int .u8 b.toNat] w fun e w'=>e = .returned (.string ⟨(Str.esc b).toArray⟩)∧Below w.heap.size w w':=by
 by_cases h1:b=10
 ·subst h1; go_enter Tryz.func284,Tryz.ntmps284
  go_wp2
  go_ret
  exact ⟨rfl,Below.refl _ _⟩
 by_cases h2:b=13
 ·subst h2; go_enter Tryz.func284,Tryz.ntmps284
  go_wp2
  go_ret
  exact ⟨rfl,Below.refl _ _⟩
 by_cases h3:b=9
 ·subst h3; go_enter Tryz.func284,Tryz.ntmps284
  go_wp2
  go_ret
  exact ⟨rfl,Below.refl _ _⟩
 by_cases h4:b=34
 ·subst h4; go_enter Tryz.func284,Tryz.ntmps284
  go_wp2
  go_ret
  exact ⟨rfl,Below.refl _ _⟩
 by_cases h5:b=92
 ·subst h5; go_enter Tryz.func284,Tryz.ntmps284
  go_wp2
  go_ret
  exact ⟨rfl,Below.refl _ _⟩
 have hb:=b.toNat_lt
 have e1:∀ n:Nat,n < 256→b≠UInt8.ofNat n→((b.toNat:Int) == (n:Int))=false:=fun n hn h=>by
  refine beq_eq_false_iff_ne.2 fun hh=>h ?_
  rw [←UInt8.toNat_inj,UInt8.toNat_ofNat']; omega
 have f1:((b.toNat:Int) == 10)=false:=e1 10 (by omega) h1
 have f2:((b.toNat:Int) == 13)=false:=e1 13 (by omega) h2
 have f3:((b.toNat:Int) == 9)=false:=e1 9 (by omega) h3
 have f4:((b.toNat:Int) == 34)=false:=e1 34 (by omega) h4
 have f5:((b.toNat:Int) == 92)=false:=e1 92 (by omega) h5
 have hob:=one_byte w b
 have Hd:=kept (fun W=>digits_any b.toNat W (by omega))
 have hl:=(Str.hexL_length b.toNat).2
 have hcat1:=fun W=>run_cat3 (P:=Tryz.prog) W (a:=⟨#[92,117,123]⟩) (b:=⟨(Str.hexL b.toNat).toArray⟩) (l:=[92,117,123]) (m:=Str.hexL b.toNat) (r:=[92,117,123]++Str.hexL b.toNat) rfl rfl rfl (by simp; omega)
 have hcat2:=fun W=>run_cat3 (P:=Tryz.prog) W (a:=⟨([92,117,123]++Str.hexL b.toNat).toArray⟩) (b:=⟨#[125]⟩) (l:=[92,117,123]++Str.hexL b.toNat) (m:=[125]) (r:=[92,117,123]++Str.hexL b.toNat++[125]) rfl rfl rfl (by simp; omega)
 by_cases h6:b < 32∨b=127
 ·have He:=kept (show Str.esc b=[92,117,123]++Str.hexL b.toNat++[125] by simp only [Str.esc,h1,h2,h3,h4,h5,h6,if_true,if_false])
  generalize hm1:([92,117,123]++Str.hexL b.toNat:List UInt8)=m1 at *
  generalize hm2:(m1++[125]:List UInt8)=m2 at *
  have hlt:(b.toNat:Int) < 32∨((b.toNat:Int) == 127)=true∧¬ (b.toNat:Int) < 32:=by
   rcases h6 with h | h
   ·left; have:=UInt8.lt_iff_toNat_lt.1 h; simp at this; omega
   ·right; subst h; decide
  clear h1 h2 h3 h4 h5 h6 e1 hl hob hm1 hm2
  obtain ⟨u,hu⟩:∃ u:Int,(b.toNat:Int)=u:=⟨_,rfl⟩
  have hu0:0≤u:=by omega
  have hu1:u≤255:=by omega
  have Hu:=kept hu
  rw [hu] at f1 f2 f3 f4 f5 hlt
  clear hb hu
  rw [Hu.out]
  rcases hlt with hlt | ⟨hlt,hlt2⟩
  all_goals
   go_enter Tryz.func284,Tryz.ntmps284
   go_wp2_with fail
   rw [←Hu.out]
   refine (Hd.out _).mono ?_; rintro e w' ⟨rfl,rfl⟩
   go_wp2
   go_ret
   exact ⟨by rw [He.out]; rfl,Below.refl _ _⟩
 ·have He:=kept (show Str.esc b=[b] by simp only [Str.esc,h1,h2,h3,h4,h5,h6,if_false])
  have hlt:¬ (b.toNat:Int) < 32:=fun h=>h6 (.inl (UInt8.lt_iff_toNat_lt.2 (by simp; omega)))
  have hne:((b.toNat:Int) == 127)=false:=e1 127 (by omega) (fun h=>h6 (.inr h))
  clear h1 h2 h3 h4 h5 h6 e1 hl hcat1 hcat2
  obtain ⟨u,hu⟩:∃ u:Int,(b.toNat:Int)=u:=⟨_,rfl⟩
  have hu0:0≤u:=by omega
  have hu1:u≤255:=by omega
  rw [hu] at f1 f2 f3 f4 f5 hlt hne hob ⊢
  clear hb hu
  go_enter Tryz.func284,Tryz.ntmps284
  go_wp2
  go_ret
  exact ⟨by rw [He.out]; rfl,(Below.refl _ _).alloc (Nat.le_refl _) _⟩
theorem len_dataR (s:ByteArray):s.data.toList.length=s.size:=by simp
theorem refQuote_any (s:ByteArray) (w:World) (hs:s.size≤2000000) :
  Calls Tryz.prog 276 #[.string s] w fun e w'=>e = .returned (.string ⟨(Str.quote s.data.toList).toArray⟩)∧Below w.heap.size w w':=by
 go_enter Tryz.func276,Tryz.ntmps276
 go_wp2
 go_loopw [3,4] (fun x i wr=>∃ (k:Nat) (acc:List UInt8),k≤s.size∧i = .int .i64 k∧x = .string ⟨acc.toArray⟩∧acc=34::(s.data.toList.take k).flatMap Str.esc∧Below w.heap.size w wr) (fun _ i _=>s.size - (intOf i).toNat)
 case atStart=>exact ⟨0,[34],by omega,rfl,rfl,rfl,Below.refl _ _⟩
 case round =>
  obtain ⟨k,acc,hk,rfl,rfl,hacc,hbel⟩:=hrel
  have Ha:=kept hacc; have Hl:=kept hbel
  have hlen:acc.length≤1+6*s.size:=by
   rw [hacc]
   have:=(Str.flatMap_esc_length (s.data.toList.take k)).2
   rw [List.length_take,len_dataR] at this
   simp only [List.length_cons]; omega
  clear hacc hbel
  by_cases hlt:k < s.size
  ·have hlt':(k:Int) < s.size:=by omega
   obtain ⟨r,hr⟩:∃ r,acc++Str.esc s[k]=r:=⟨_,rfl⟩
   have hel:=(Str.esc_length s[k]).2
   have hcat:=fun W=>run_cat3 (P:=Tryz.prog) W (a:=⟨acc.toArray⟩) (b:=⟨(Str.esc s[k]).toArray⟩) (l:=acc) (m:=Str.esc s[k]) rfl rfl hr (by rw [←hr,List.length_append]; omega)
   have Hr:=kept (show r=34::(s.data.toList.take (k+1)).flatMap Str.esc by
    rw [←hr,Ha.out,take_succ s k hlt,List.flatMap_append]; simp)
   clear hlen hr hel
   go_wp2_with fail
   refine (escaped_any _ _).mono ?_; rintro e w1 ⟨rfl,b1⟩
   have B1:=kept b1; clear b1
   go_wp2
   go_roundw
   case rel=>exact ⟨k+1,r,by omega,by go_num,rfl,Hr.out,bthen Hl.out B1.out⟩
   case measure=>simp [intOf]; omega
  ·have hcat:=fun W=>run_cat3 (P:=Tryz.prog) W (a:=⟨acc.toArray⟩) (b:=⟨#[34]⟩) (l:=acc) (m:=[34]) (r:=acc++[34]) rfl rfl rfl (by rw [List.length_append]; simp; omega)
   have Hr:=kept (show acc++[34]=Str.quote s.data.toList by
    rw [Ha.out,List.take_of_length_le (by rw [len_dataR]; omega)]; rfl)
   clear hlen
   generalize hq:acc++[34]=q at *
   go_wp2
   go_ret
   exact ⟨ret_str Hr.out,Hl.out⟩
theorem refHex_any (b:UInt8) (w:World) :
  Calls Tryz.prog 290 #[.int .u8 b.toNat] w fun e w'=>e = .returned (.int .i64 (Str.hexv b))∧w=w':=by
 have hb:=b.toNat_lt
 have Hv:=kept (show Str.hexv b=if 48≤(b.toNat:Int)∧(b.toNat:Int)≤57 then (b.toNat:Int) - 48 else if 97≤(b.toNat:Int)∧(b.toNat:Int)≤102 then (b.toNat:Int) - 87 else -1 by
  unfold Str.hexv
  repeat' split
  all_goals omega)
 obtain ⟨u,hu⟩:∃ u:Int,(b.toNat:Int)=u:=⟨_,rfl⟩
 rw [hu] at Hv ⊢
 have h0:0≤u:=by omega
 have h1:u < 256:=by omega
 clear hu hb
 by_cases a1:48≤u
 ·by_cases a2:u≤57
  ·go_enter Tryz.func290,Tryz.ntmps290
   go_wp2
   go_ret
   exact ⟨ret_int (by rw [Hv.out,if_pos ⟨a1,a2⟩]),rfl⟩
  ·by_cases a3:97≤u
   ·by_cases a4:u≤102
    ·go_enter Tryz.func290,Tryz.ntmps290
     go_wp2
     go_ret
     exact ⟨ret_int (by rw [Hv.out,if_neg (by omega),if_pos ⟨a3,a4⟩]; omega),rfl⟩
    ·go_enter Tryz.func290,Tryz.ntmps290
     go_wp2
     go_ret
     exact ⟨ret_int (by rw [Hv.out,if_neg (by omega),if_neg (by omega)]),rfl⟩
   ·go_enter Tryz.func290,Tryz.ntmps290
    go_wp2
    go_ret
    exact ⟨ret_int (by rw [Hv.out,if_neg (by omega),if_neg (by omega)]),rfl⟩
 ·go_enter Tryz.func290,Tryz.ntmps290
  go_wp2
  go_ret
  exact ⟨ret_int (by rw [Hv.out,if_neg (by omega),if_neg (by omega)]),rfl⟩
theorem and63i (x:Int) (h0:0≤x) (h1:x < 16777216):bits .and .i64 x 63=x % 64:=by
 obtain ⟨X,rfl⟩:=Int.eq_ofNat_of_zero_le h0
 have e:X &&& 63=X % 64:=by rw [show (63:Nat)=2 ^ 6 - 1 from rfl,Nat.and_two_pow_sub_one_eq_mod]
 have h2:(BitVec.ofInt 64 ((X:Nat):Int) &&& BitVec.ofInt 64 (63:Int)).toNat=X % 64:=by
  rw [BitVec.toNat_and,BitVec.ofInt_natCast,show (63:Int)=((63:Nat):Int) from rfl,BitVec.ofInt_natCast,BitVec.toNat_ofNat,BitVec.toNat_ofNat,Nat.mod_eq_of_lt (by omega),Nat.mod_eq_of_lt (by omega),e]
 show IntKind.i64.wrap ((BitVec.ofInt 64 ((X:Nat):Int) &&& BitVec.ofInt 64 (63:Int)).toNat:Int)=_
 rw [h2,IntKind.wrap_i64]
 omega
theorem or128 (y:Int) (h0:0≤y) (h1:y < 64):bits .or .i64 128 y=128+y:=or_int 2 y 64 6 (by decide) (by omega) (by omega) h0 h1 (by omega)
theorem or192 (y:Int) (h0:0≤y) (h1:y < 64):bits .or .i64 192 y=192+y:=or_int 3 y 64 6 (by decide) (by omega) (by omega) h0 h1 (by omega)
theorem or224 (y:Int) (h0:0≤y) (h1:y < 16):bits .or .i64 224 y=224+y:=or_int 14 y 16 4 (by decide) (by omega) (by omega) h0 h1 (by omega)
theorem or240 (y:Int) (h0:0≤y) (h1:y < 16):bits .or .i64 240 y=240+y:=or_int 15 y 16 4 (by decide) (by omega) (by omega) h0 h1 (by omega)
def zB (l:List Int):List UInt8:=l.map fun x=>x.toNat.toUInt8
theorem zB_cells:∀ l:List Int,(∀ x∈l,0≤x∧x < 256)→bcells (zB l)=l.map fun x=>Value.int .u8 x
 | [],_=>rfl
 | x::l,h=>by
  have h1:=h x (by simp)
  have h2:=zB_cells l (fun y hy=>h y (by simp [hy]))
  unfold zB bcells at *
  rw [List.map_cons,List.map_cons,h2,List.map_cons]
  rw [show (x.toNat.toUInt8).toNat=x.toNat % 256 from rfl]
  congr 2; omega
theorem some_bytes (w:World) (l:List Int) (n:Nat) (hn:l.length=n) (h:∀ x∈l,0≤x∧x < 256) :
  (convert 61 9 (.slice (some ⟨w.heap.size,0,none⟩) n n)).run Tryz.prog (w.alloc (.cells (l.map fun x=>Value.int .u8 x).toArray 5)) = .ok (.string ⟨(zB l).toArray⟩) (w.alloc (.cells (l.map fun x=>Value.int .u8 x).toArray 5)):=by
 rw [←zB_cells l h]
 exact (BytesAt.lit w 5 (zB l)).conv_of (P:=Tryz.prog) 61 9 n n (by simp [zB,hn]) Tryz.underlying61 Tryz.underlying5 Tryz.underlying9
theorem refEncode_any (c:Nat) (w:World) (hc:Utf8.valid c=true) :
  Calls Tryz.prog 289 #[.int .i64 c] w fun e w'=>e = .returned (.string ⟨(Str.enc c).toArray⟩)∧Below w.heap.size w w':=by
 have hv:(c:Int) < 55296∨(57343 < (c:Int)∧(c:Int)≤1114111):=by
  unfold Utf8.valid at hc; simp at hc; omega
 have He:=kept (show Str.enc c=zB (Lib.encodeRuneZ (c:Int)) from rfl)
 obtain ⟨u,hu⟩:∃ u:Int,(c:Int)=u:=⟨_,rfl⟩
 have h0:0≤u:=by omega
 rw [hu] at He hv ⊢
 clear hu hc
 by_cases h1:u < 128
 ·have Hz:=kept (Lib.encodeRuneZ_one (r:=u) h0 (by omega))
  have hob:=some_bytes w [u] 1 rfl (by simp; omega)
  have hw8:u < 256:=by omega
  go_enter Tryz.func289,Tryz.ntmps289
  simp only [List.map_cons,List.map_nil] at hob
  go_wp2
  go_ret
  exact ⟨by rw [He.out,Hz.out]; rfl,ball w _⟩
 ·by_cases h2:u < 2048
  ·have Hz:=kept (Lib.encodeRuneZ_two (r:=u) (by omega) (by omega))
   have a1:=and63i u h0 (by omega)
   have o1:=or192 (u / 64) (by omega) (by omega)
   have o2:=or128 (u % 64) (by omega) (by omega)
   have hob:=some_bytes w [192+u / 64,128+u % 64] 2 rfl (by simp; omega)
   simp only [List.map_cons,List.map_nil] at hob
   go_enter Tryz.func289,Tryz.ntmps289
   go_wp2
   go_ret
   exact ⟨by rw [He.out,Hz.out]; rfl,ball w _⟩
  ·by_cases h3:u < 65536
   ·have Hz:=kept (Lib.encodeRuneZ_three (r:=u) (by omega))
    have a1:=and63i u h0 (by omega)
    have a2:=and63i (u / 64) (by omega) (by omega)
    have o1:=or224 (u / 4096) (by omega) (by omega)
    have o2:=or128 (u / 64 % 64) (by omega) (by omega)
    have o3:=or128 (u % 64) (by omega) (by omega)
    have hob:=some_bytes w [224+u / 4096,128+u / 64 % 64,128+u % 64] 3 rfl (by simp; omega)
    simp only [List.map_cons,List.map_nil] at hob
    go_enter Tryz.func289,Tryz.ntmps289
    go_wp2
    go_ret
    exact ⟨by rw [He.out,Hz.out]; rfl,ball w _⟩
   ·have Hz:=kept (Lib.encodeRuneZ_four (r:=u) (by omega) (by omega))
    have a1:=and63i u h0 (by omega)
    have a2:=and63i (u / 64) (by omega) (by omega)
    have a3:=and63i (u / 4096) (by omega) (by omega)
    have o1:=or240 (u / 262144) (by omega) (by omega)
    have o2:=or128 (u / 4096 % 64) (by omega) (by omega)
    have o3:=or128 (u / 64 % 64) (by omega) (by omega)
    have o4:=or128 (u % 64) (by omega) (by omega)
    have hob:=some_bytes w [240+u / 262144,128+u / 4096 % 64,128+u / 64 % 64,128+u % 64] 4 rfl (by simp; omega)
    simp only [List.map_cons,List.map_nil] at hob
    go_enter Tryz.func289,Tryz.ntmps289
    go_wp2
    go_ret
    exact ⟨by rw [He.out,Hz.out]; rfl,ball w _⟩
theorem getD_drop (s:ByteArray) (i j:Nat) (h:i+j < s.size):(s.data.toList.drop i).getD j 0=s[i+j]:=by
 simp [List.getD,h]; rfl
theorem valid_iff (C:Nat):Utf8.valid (C:Int)=false↔(1114111 < (C:Int)∨(55296≤(C:Int)∧(C:Int)≤57343)):=by
 unfold Utf8.valid
 rw [←Bool.not_eq_true]
 simp only [Bool.or_eq_true,Bool.and_eq_true,decide_eq_true_eq]
 omega
theorem point_exit (s:ByteArray) (i k c n:Nat) (e0 u z C:Int) (hp:Str.point (s.data.toList.drop i)=(c,n,e0)) (hn:Str.hexN 6 (s.data.toList.drop i)=k) (hk:i+k < s.size)
  (hu:(s[i+k].toNat:Int)=u) (hz:(s[i].toNat:Int)=z) (hC:((Str.hexC k (s.data.toList.drop i):Nat):Int)=C) :
  ((u≠125∨k=0∨(1 < k∧z=48)∨1114111 < C∨(55296≤C∧C≤57343))→c=0∧n=0∧e0=2) ∧
  (¬ (u≠125∨k=0∨(1 < k∧z=48)∨1114111 < C∨(55296≤C∧C≤57343))→(c:Int)=C∧n=k+1∧e0=0):=by
 have hgk:=getD_drop s i k hk
 have hg0:=getD_drop s i 0 (by omega)
 simp only [Nat.add_zero] at hg0
 have hl:k < (s.data.toList.drop i).length:=by simp; omega
 have e1:((s.data.toList.drop i).getD k 0≠125∨k=0∨(1 < k∧(s.data.toList.drop i).getD 0 0=48)∨Utf8.valid (Str.hexC k (s.data.toList.drop i))=false)↔(u≠125∨k=0∨(1 < k∧z=48)∨1114111 < C∨(55296≤C∧C≤57343)):=by
  rw [hgk,hg0,valid_iff,hC]
  have a1:s[i+k]≠125↔u≠125:=by
   rw [←hu,ne_eq,ne_eq,←UInt8.toNat_inj]
   show ¬ s[i+k].toNat=125↔_
   omega
  have a2:s[i]=48↔z=48:=by
   rw [←hz,←UInt8.toNat_inj]
   show s[i].toNat=48↔_
   omega
  rw [a1,a2]
 refine ⟨fun h=>?_,fun h=>?_⟩
 ·have:=point_bad _ k hn hl (e1.2 h)
  rw [hp] at this
  simp only [Prod.mk.injEq] at this
  exact this
 ·have:=point_ok _ k hn hl (fun hh=>h (e1.1 hh))
  rw [hp] at this
  simp only [Prod.mk.injEq] at this
  exact ⟨by rw [this.1,hC],this.2⟩
theorem refPoint_any (s:ByteArray) (i:Nat) (c n:Nat) (e0:Int) (w:World) (hs:s.size≤2000000) (hi:i≤s.size) (hp:Str.point (s.data.toList.drop i)=(c,n,e0)) :
  Calls Tryz.prog 288 #[.string s,.int .i64 i] w fun e w'=>e = .returned (.tuple #[.int .i64 c,.int .i64 (if e0=0 then i+n else 0:Nat),.int .i64 e0])∧w'=w:=by
 obtain ⟨m,hm⟩:∃ m,m=if e0=0 then i+n else 0:=⟨_,rfl⟩
 rw [←hm]
 have Hm:=kept hm
 clear hm
 have HP:=kept hp
 clear hp
 have hl:(s.data.toList.drop i).length=s.size - i:=by simp
 have Hll:=kept hl
 go_enter Tryz.func288,Tryz.ntmps288
 go_wp2
 go_loop [7,8] (fun cv nv=>∃ k:Nat,k≤6∧i+k≤s.size∧nv = .int .i64 k∧cv = .int .i64 (Str.hexC k (s.data.toList.drop i))∧∀ j,j < k→Str.isHex ((s.data.toList.drop i).getD j 0)=true) (fun _ nv=>6 - (intOf nv).toNat)
 case atStart=>exact ⟨0,by omega,by omega,rfl,rfl,by omega⟩
 case round =>
  obtain ⟨k,h6,hk,rfl,rfl,hall⟩:=hrel
  have Ha:=kept hall
  clear hall hl
  by_cases hend:i+k=s.size
  ·have hp:=point_end (s.data.toList.drop i) (Str.hexN_end 6 k _ Ha.out (by have:=Hll.out; omega) h6 (.inr (.inl (by have:=Hll.out; omega))) |>.trans (by have:=Hll.out; omega))
   rw [HP.out] at hp
   simp only [Prod.mk.injEq] at hp
   obtain ⟨rfl,rfl,rfl⟩:=hp
   have hend':(i:Int)+k=s.size:=by omega
   go_wp2
   refine bodyPost_ret (v:=.tuple #[.int .i64 0,.int .i64 0,.int .i64 40]) (by simp [results,Tryz.results288,go_sem]) rfl ⟨by rw [Hm.out]; rfl,rfl⟩
  ·have hlt:i+k < s.size:=by omega
   have hlt':(i:Int)+k < s.size:=by omega
   have hlti:i < s.size:=by omega
   obtain ⟨u,hu⟩:∃ u:Int,(s[i+k].toNat:Int)=u:=⟨_,rfl⟩
   obtain ⟨z,hz⟩:∃ u:Int,(s[i].toNat:Int)=u:=⟨_,rfl⟩
   obtain ⟨C,hC⟩:∃ u:Int,((Str.hexC k (s.data.toList.drop i):Nat):Int)=u:=⟨_,rfl⟩
   have Hx:=kept (fun hn=>point_exit s i k c n e0 u z C HP.out hn hlt hu hz hC)
   have hC0:0≤C:=by omega
   have Hhx:=kept (fun W=>refHex_any s[i+k] W)
   have Hgk:=kept (getD_drop s i k hlt)
   have HC:=kept hC
   have Hend:=kept (show k=6∨Str.isHex s[i+k]=false→Str.hexN 6 (s.data.toList.drop i)=k from fun h=>Str.hexN_end 6 k _ Ha.out (by have:=Hll.out; omega) h6 (h.imp_right fun hh => .inr (by rw [Hgk.out]; exact hh)))
   rw [hu] at Hhx
   rw [hC]
   clear hend
   by_cases hk6:k=6
   ·subst hk6
    have Hx2:=kept (Hx.out (Hend.out (.inl rfl)))
    clear hC
    go_wp2
    all_goals (try simp only [beq_iff_eq,beq_eq_false_iff_ne,ne_eq] at *)
    all_goals
     by_cases hq:(u≠125∨6=0∨(1 < 6∧z=48)∨1114111 < C∨(55296≤C∧C≤57343))
     ·first
      | (exfalso; omega)
      | (obtain ⟨rfl,rfl,rfl⟩:=Hx2.out.1 hq; exact bodyPost_ret (v:=.tuple #[.int .i64 0,.int .i64 0,.int .i64 2]) (by simp [results,Tryz.results288,go_sem]) rfl ⟨by rw [Hm.out]; rfl,rfl⟩)
     ·first
      | (exfalso; omega)
      | (obtain ⟨hc,rfl,rfl⟩:=Hx2.out.2 hq; exact bodyPost_ret (v:=.tuple #[.int .i64 C,.int .i64 (i+6+1),.int .i64 0]) (by simp [results,Tryz.results288,go_sem]) rfl ⟨by rw [Hm.out,hc]; rfl,rfl⟩)
   ·have hk6':(k:Int) < 6:=by omega
    by_cases hx:Str.isHex s[i+k]=true
    ·have hge:0≤Str.hexv s[i+k]:=by simpa [Str.isHex] using hx
     have hhx:=Str.hexv_le s[i+k]
     have Hs:=kept (Str.hexC_succ k (s.data.toList.drop i) (by have:=Hll.out; omega))
     have Hd:=Str.hexC_lt k (s.data.toList.drop i) (by have:=Hll.out; omega)
     have hC1:C < 1048576:=by
      have:16 ^ k≤16 ^ 5:=Nat.pow_le_pow_right (by decide) (by omega)
      have:=HC.out
      omega
     have Hxx:=kept hx
     have Hhv:=kept (show (s.data.toList.drop i)[k]'(by have:=Hll.out; omega)=s[i+k] by simp; rfl)
     clear hx Hd hC
     go_wp2_with fail
     (with_reducible refine (Hhx.out _).mono ?_); rintro e w1 ⟨rfl,rfl⟩
     go_wp2_with fail
     (with_reducible refine (Hhx.out _).mono ?_); rintro e w1 ⟨rfl,rfl⟩
     go_wp2
     go_round
     case rel =>
      refine ⟨k+1,by omega,by omega,by go_num,?_,?_⟩
      ·rw [Hs.out,Hhv.out]
       have:=HC.out
       congr 1
       omega
      ·intro j hj
       by_cases hjk:j=k
       ·subst hjk; rw [Hgk.out]; exact Hxx.out
       ·exact Ha.out j (by omega)
     case measure=>simp [intOf]; omega
    ·have Hx2:=kept (Hx.out (Hend.out (.inr (by simpa using hx))))
     have hlz:Str.hexv s[i+k] < 0:=by simpa [Str.isHex] using hx
     clear hx hC
     go_wp2_with fail
     (with_reducible refine (Hhx.out _).mono ?_); rintro e w1 ⟨rfl,rfl⟩
     go_wp2
     all_goals (try simp only [beq_iff_eq,beq_eq_false_iff_ne,ne_eq] at *)
     all_goals
      by_cases hq:(u≠125∨k=0∨(1 < k∧z=48)∨1114111 < C∨(55296≤C∧C≤57343))
      ·first
       | (exfalso; omega)
       | (obtain ⟨rfl,rfl,rfl⟩:=Hx2.out.1 hq; exact bodyPost_ret (v:=.tuple #[.int .i64 0,.int .i64 0,.int .i64 2]) (by simp [results,Tryz.results288,go_sem]) rfl ⟨by rw [Hm.out]; rfl,rfl⟩)
      ·first
       | (exfalso; omega)
       | (obtain ⟨hc,rfl,rfl⟩:=Hx2.out.2 hq; exact bodyPost_ret (v:=.tuple #[.int .i64 C,.int .i64 (i+k+1),.int .i64 0]) (by simp [results,Tryz.results288,go_sem]) rfl ⟨by rw [Hm.out,hc]; rfl,rfl⟩)
def Str.at' (i:Nat) (r:List UInt8×Nat×Int):List UInt8×Nat×Int:=if r.2.2=0 then (r.1,i+r.2.1,0) else ([],0,r.2.2)
def Str.esc1 (l:List UInt8):List UInt8×Nat×Int:=if (Str.escp l).2.2=0 then (Str.enc (Str.escp l).1,(Str.escp l).2.1+1,0) else ([],0,(Str.escp l).2.2)
def TripleEnd (r:List UInt8×Nat×Int):Ending:=.returned (.tuple #[.string ⟨r.1.toArray⟩,.int .i64 r.2.1,.int .i64 r.2.2])
theorem Str.esc1_of {l:List UInt8} {c n:Nat} {e:Int} (h:Str.escp l=(c,n,e)):Str.esc1 l=if e=0 then (Str.enc c,n+1,0) else ([],0,e):=by unfold Str.esc1; rw [h]
theorem Str.at_ok (i n:Nat) (l:List UInt8):Str.at' i (l,n,0)=(l,i+n,0):=rfl
theorem Str.at_err (i:Nat) (e:Int) (h:e≠0):Str.at' i ([],0,e)=([],0,e):=if_neg h
theorem Str.point_valid (l:List UInt8) (c n:Nat) (h:Str.point l=(c,n,0)):Utf8.valid c=true:=by
 unfold Str.point at h
 split at h
 ·simp at h
 ·split at h
  ·simp at h
  ·next hh =>
   obtain ⟨h1,h2⟩:=Prod.mk.inj h
   subst h1
   simp only [not_or] at hh
   simpa using hh.2.2.2
theorem refEscaped_any (s:ByteArray) (i:Nat) (w:World) (hs:s.size≤2000000) (hi:i < s.size) :
  Calls Tryz.prog 286 #[.string s,.int .i64 i] w fun e w'=>e=TripleEnd (Str.at' i (Str.esc1 (s.data.toList.drop (i+1))))∧Below w.heap.size w w':=by
 by_cases h0:s.size≤i+1
 ·have Hp:=kept (show Str.at' i (Str.esc1 (s.data.toList.drop (i+1)))=([],0,40) by rw [List.drop_of_length_le (by simp; omega)]; rfl)
  have h0':(s.size:Int)≤i+1:=by omega
  go_enter Tryz.func286,Tryz.ntmps286
  go_wp2
  refine bodyPost_ret (v:=.tuple #[.string ⟨#[]⟩,.int .i64 0,.int .i64 40]) (by simp [results,Tryz.results286,go_sem]) rfl ⟨by rw [Hp.out]; rfl,Below.refl _ _⟩
 ·have hlt:i+1 < s.size:=by omega
  have hlt':(i:Int)+1 < s.size:=by omega
  have hd:s.data.toList.drop (i+1)=s[i+1]::s.data.toList.drop (i+2):=drop_cons s (i+1) hlt
  have hex:s.extract (i+1) (i+2)=⟨#[s[i+1]]⟩:=extract_one s (i+1) hlt
  go_enter Tryz.func286,Tryz.ntmps286
  clear h0
  by_cases h110:s[i+1]=110
  ·have Hp:=kept (show Str.at' i (Str.esc1 (s.data.toList.drop (i+1)))=([10],i+2,0) by rw [hd,h110]; rfl)
   have hu:(s[i+1].toNat:Int)=110:=by rw [h110]; rfl
   clear hd h110 hex
   go_wp2
   refine bodyPost_ret (v:=.tuple #[.string ⟨#[10]⟩,.int .i64 (i+2:Nat),.int .i64 0]) (by simp [results,Tryz.results286,go_sem]) rfl ⟨by rw [Hp.out]; rfl,Below.refl _ _⟩
  have g110:=byte_ne s[i+1] 110 (by decide) h110
  by_cases h114:s[i+1]=114
  ·have Hp:=kept (show Str.at' i (Str.esc1 (s.data.toList.drop (i+1)))=([13],i+2,0) by rw [hd,h114]; rfl)
   have hu:(s[i+1].toNat:Int)=114:=by rw [h114]; rfl
   clear hd h110 h114 hex
   go_wp2
   refine bodyPost_ret (v:=.tuple #[.string ⟨#[13]⟩,.int .i64 (i+2:Nat),.int .i64 0]) (by simp [results,Tryz.results286,go_sem]) rfl ⟨by rw [Hp.out]; rfl,Below.refl _ _⟩
  have g114:=byte_ne s[i+1] 114 (by decide) h114
  by_cases h116:s[i+1]=116
  ·have Hp:=kept (show Str.at' i (Str.esc1 (s.data.toList.drop (i+1)))=([9],i+2,0) by rw [hd,h116]; rfl)
   have hu:(s[i+1].toNat:Int)=116:=by rw [h116]; rfl
   clear hd h110 h114 h116 hex
   go_wp2
   refine bodyPost_ret (v:=.tuple #[.string ⟨#[9]⟩,.int .i64 (i+2:Nat),.int .i64 0]) (by simp [results,Tryz.results286,go_sem]) rfl ⟨by rw [Hp.out]; rfl,Below.refl _ _⟩
  have g116:=byte_ne s[i+1] 116 (by decide) h116
  by_cases h34:s[i+1]=34
  ·have Hp:=kept (show Str.at' i (Str.esc1 (s.data.toList.drop (i+1)))=([34],i+2,0) by rw [hd,h34]; rfl)
   have hu:(s[i+1].toNat:Int)=34:=by rw [h34]; rfl
   rw [h34] at hex
   clear hd h110 h114 h116 h34
   go_wp2
   refine bodyPost_ret (v:=.tuple #[.string ⟨#[34]⟩,.int .i64 (i+2:Nat),.int .i64 0]) (by simp [hex,results,Tryz.results286,go_sem]) rfl ⟨by rw [Hp.out]; rfl,Below.refl _ _⟩
  have g34:=byte_ne s[i+1] 34 (by decide) h34
  by_cases h92:s[i+1]=92
  ·have Hp:=kept (show Str.at' i (Str.esc1 (s.data.toList.drop (i+1)))=([92],i+2,0) by rw [hd,h92]; rfl)
   have hu:(s[i+1].toNat:Int)=92:=by rw [h92]; rfl
   rw [h92] at hex
   clear hd h110 h114 h116 h34 h92
   go_wp2
   refine bodyPost_ret (v:=.tuple #[.string ⟨#[92]⟩,.int .i64 (i+2:Nat),.int .i64 0]) (by simp [hex,results,Tryz.results286,go_sem]) rfl ⟨by rw [Hp.out]; rfl,Below.refl _ _⟩
  have g92:=byte_ne s[i+1] 92 (by decide) h92
  by_cases h117:s[i+1]=117
  ·have He:=kept (show Str.escp (s.data.toList.drop (i+1))=_ by rw [hd,escp_cons,if_neg h110,if_neg h114,if_neg h116,if_neg (fun h=>h.elim h34 h92),if_pos h117])
   have hu:(s[i+1].toNat:Int)=117:=by rw [h117]; rfl
   clear hd h117 h110 g110 h114 g114 h116 g116 h34 g34 h92 g92 hex
   by_cases h1:s.size≤i+2
   ·have Hp:=kept (show Str.at' i (Str.esc1 (s.data.toList.drop (i+1)))=([],0,40) by
     rw [Str.esc1_of (show Str.escp (s.data.toList.drop (i+1))=(0,0,40) by rw [He.out,List.drop_of_length_le (by simp; omega)])]; rfl)
    have h1':(s.size:Int)≤i+2:=by omega
    go_wp2
    refine bodyPost_ret (v:=.tuple #[.string ⟨#[]⟩,.int .i64 0,.int .i64 40]) (by simp [results,Tryz.results286,go_sem]) rfl ⟨by rw [Hp.out]; rfl,Below.refl _ _⟩
   ·have hlt1:i+2 < s.size:=by omega
    have hlt1':(i:Int)+2 < s.size:=by omega
    have hd1:s.data.toList.drop (i+2)=s[i+2]::s.data.toList.drop (i+3):=drop_cons s (i+2) hlt1
    by_cases h123:s[i+2]=123
    ·obtain ⟨⟨q1,q2,q3⟩,hq⟩:∃ q,Str.point (s.data.toList.drop (i+3))=q:=⟨_,rfl⟩
     have he:Str.escp (s.data.toList.drop (i+1))=(q1,q2+2,q3):=by rw [He.out,hd1]; simp only; rw [if_pos h123,hq]
     have hv:(s[i+2].toNat:Int)=123:=by rw [h123]; rfl
     have Hx:=kept (fun W=>refPoint_any s (i+3) q1 q2 q3 W hs (by omega) hq)
     rw [show ((i+3:Nat):Int)=(i:Int)+3 by omega] at Hx
     have hle:=point_le (s.data.toList.drop (i+3))
     rw [hq] at hle
     have h1:=Str.esc1_of he
     by_cases hq3:q3=0
     ·subst hq3
      have Hval:=kept (Str.point_valid _ _ _ hq)
      have Hp:=kept (show Str.at' i (Str.esc1 (s.data.toList.drop (i+1)))=(Str.enc q1,i+3+q2,0) by rw [h1,if_pos rfl,Str.at_ok]; congr 2; omega)
      have Hen:=kept (fun W=>refEncode_any q1 W Hval.out)
      rw [if_pos rfl] at Hx
      clear hd1 h123 h1 hq hle he
      go_wp2_with fail
      (with_reducible refine (Hx.out _).mono ?_); rintro e w1 ⟨rfl,rfl⟩
      go_wp2_with fail
      (with_reducible refine (Hen.out _).mono ?_); rintro e w2 ⟨rfl,b2⟩
      have B2:=kept b2; clear b2
      go_wp2
      refine bodyPost_ret (v:=.tuple #[.string ⟨(Str.enc q1).toArray⟩,.int .i64 (i+3+q2:Nat),.int .i64 0]) (by simp [results,Tryz.results286,go_sem]) rfl ⟨by rw [Hp.out]; rfl,B2.out⟩
     ·have Hp:=kept (show Str.at' i (Str.esc1 (s.data.toList.drop (i+1)))=([],0,q3) by rw [h1,if_neg hq3,Str.at_err _ _ hq3])
      rw [if_neg hq3] at Hx
      have he1:(q3 == 0)=false:=by simpa using hq3
      have he2:(q3 != 0)=true:=by simpa using hq3
      clear hd1 h123 h1 hq hle he
      go_wp2_with fail
      (with_reducible refine (Hx.out _).mono ?_); rintro e w1 ⟨rfl,rfl⟩
      go_wp2
      refine bodyPost_ret (v:=.tuple #[.string ⟨#[]⟩,.int .i64 0,.int .i64 q3]) (by simp [results,Tryz.results286,go_sem]) rfl ⟨by rw [Hp.out]; rfl,Below.refl _ _⟩
    ·have Hp:=kept (show Str.at' i (Str.esc1 (s.data.toList.drop (i+1)))=([],0,2) by
      rw [Str.esc1_of (show Str.escp (s.data.toList.drop (i+1))=(0,0,2) by rw [He.out,hd1]; exact if_neg h123)]; rfl)
     have hv1:=byte_ne s[i+2] 123 (by decide) h123
     have hv2:((s[i+2].toNat:Int) != 123)=true:=by simpa using hv1
     clear hd1 h123 h1
     go_wp2
     refine bodyPost_ret (v:=.tuple #[.string ⟨#[]⟩,.int .i64 0,.int .i64 2]) (by simp [results,Tryz.results286,go_sem]) rfl ⟨by rw [Hp.out]; rfl,Below.refl _ _⟩
  ·have Hp:=kept (show Str.at' i (Str.esc1 (s.data.toList.drop (i+1)))=([],0,2) by
    rw [Str.esc1_of (show Str.escp (s.data.toList.drop (i+1))=(0,0,2) by rw [hd,escp_cons,if_neg h110,if_neg h114,if_neg h116,if_neg (fun h=>h.elim h34 h92),if_neg h117])]; rfl)
   have g117:=byte_ne s[i+1] 117 (by decide) h117
   clear hd h117 h110 h114 h116 h34 h92 hex
   go_wp2
   refine bodyPost_ret (v:=.tuple #[.string ⟨#[]⟩,.int .i64 0,.int .i64 2]) (by simp [results,Tryz.results286,go_sem]) rfl ⟨by rw [Hp.out]; rfl,Below.refl _ _⟩
theorem Str.one_of_esc (l:List UInt8) (h:l.getD 0 0=92):Str.one l=Str.esc1 (l.drop 1):=by
 unfold Str.one Str.esc1
 rw [if_pos h]
 by_cases hh:(Str.escp (l.drop 1)).2.2=0
 ·rw [if_neg (by simpa using hh),if_pos hh]
 ·rw [if_pos (by simpa using hh),if_neg hh]
theorem refOne_any (s:ByteArray) (i:Nat) (w:World) (hs:s.size≤2000000) (hi:i < s.size) :
  Calls Tryz.prog 283 #[.string s,.int .i64 i] w fun e w'=>e=TripleEnd (Str.at' i (Str.one (s.data.toList.drop i)))∧Below w.heap.size w w':=by
 have hg:(s.data.toList.drop i).getD 0 0=s[i]:=by rw [drop_cons s i hi]; rfl
 by_cases h92:s[i]=92
 ·have h1:=Str.one_of_esc (s.data.toList.drop i) (by rw [hg,h92])
  rw [List.drop_drop] at h1
  rw [h1]
  obtain ⟨q,hq⟩:∃ q,Str.at' i (Str.esc1 (s.data.toList.drop (i+1)))=q:=⟨_,rfl⟩
  have Hx:=kept (fun W=>refEscaped_any s i W hs hi)
  rw [hq] at Hx ⊢
  obtain ⟨q1,q2,q3⟩:=q
  have hu:(s[i].toNat:Int)=92:=by rw [h92]; rfl
  clear h1 hq hg h92
  go_enter Tryz.func283,Tryz.ntmps283
  go_wp2_with fail
  (with_reducible refine (Hx.out _).mono ?_); rintro e w1 ⟨rfl,b1⟩
  have B1:=kept b1; clear b1
  unfold TripleEnd
  go_wp2
  refine bodyPost_ret (v:=.tuple #[.string ⟨q1.toArray⟩,.int .i64 q2,.int .i64 q3]) (by simp [results,Tryz.results283,go_sem]) rfl ⟨rfl,B1.out⟩
 ·have g92:=byte_ne s[i] 92 (by decide) h92
  have hne:(s.data.toList.drop i)≠[]:=by rw [drop_cons s i hi]; simp
  have hwd:=Str.dec_width s i hi
  rcases Str.refDec_cases s i hi with ⟨hb,he⟩ | ⟨hb,he⟩
  ·have Hp:=kept (show Str.at' i (Str.one (s.data.toList.drop i))=([],0,2) by
    unfold Str.one
    rw [if_neg (by rw [hg]; exact h92),if_pos (.inl (by rw [Str.decL]; exact hb))]; rfl)
   have He:=kept he
   clear hb he hg h92 hne hwd
   go_enter Tryz.func283,Tryz.ntmps283
   go_wp2_with fail
   (with_reducible refine (decode_at' _ _ 0 0 _ (by omega) He.out).mono ?_); rintro e w1 ⟨rfl,b1⟩
   have B1:=kept b1; clear b1
   go_wp2
   refine bodyPost_ret (v:=.tuple #[.string ⟨#[]⟩,.int .i64 0,.int .i64 2]) (by simp [results,Tryz.results283,go_sem]) rfl ⟨by rw [Hp.out]; rfl,B1.out⟩
  ·obtain ⟨⟨c,n⟩,hd⟩:∃ d,Utf8.decode s i=d:=⟨_,rfl⟩
   rw [hd] at he hb hwd
   have He:=kept he
   have hw1:1≤n:=hwd.1
   have hw2:i+n≤s.size:=hwd.2
   have hw2':(i:Int)+n≤s.size:=by omega
   have hnz1:((n:Int) == 0)=false:=by simp; omega
   have hnz2:¬ (n:Int)=0:=by omega
   obtain ⟨u,hu⟩:∃ u:Int,(s[i].toNat:Int)=u:=⟨_,rfl⟩
   have hone:∀ hh:¬ (u < 32∨u=127),Str.at' i (Str.one (s.data.toList.drop i))=((s.data.toList.drop i).take n,i+n,0):=by
    intro hh
    unfold Str.one
    rw [if_neg (by rw [hg]; exact h92),if_neg ?_,Str.decL,hd]
    ·rfl
    ·rw [Str.decL,hd,hg]
     rintro (h | h | h)
     ·exact hb h
     ·rw [UInt8.lt_iff_toNat_lt] at h
      have:s[i].toNat < 32:=h
      omega
     ·rw [h] at hu; exact hh (.inr hu.symm)
   have hbad:(u < 32∨u=127)→Str.at' i (Str.one (s.data.toList.drop i))=([],0,2):=by
    intro hh
    unfold Str.one
    rw [if_neg (by rw [hg]; exact h92),if_pos ?_]
    ·rfl
    ·rw [hg]
     right
     rcases hh with h | h
     ·left; rw [UInt8.lt_iff_toNat_lt]; show s[i].toNat < 32; omega
     ·right; rw [←UInt8.toNat_inj]; show s[i].toNat=127; omega
   have hxt:s.extract i (i+n)=⟨((s.data.toList.drop i).take n).toArray⟩:=by
    refine str_of ?_
    simp only [ByteArray.data_extract,Array.toList_extract,List.extract_eq_take_drop]
    congr 1; omega
   have Hone:=kept hone; have Hbad:=kept hbad
   clear hb he hg h92 hne hwd hone hbad hd hw2
   rw [hu] at g92
   by_cases h32:u < 32
   ·have Hp:=kept (Hbad.out (.inl h32))
    clear hxt
    go_enter Tryz.func283,Tryz.ntmps283
    go_wp2_with fail
    (with_reducible refine (decode_at' _ _ c n _ (by omega) He.out).mono ?_); rintro e w1 ⟨rfl,b1⟩
    have B1:=kept b1; clear b1
    go_wp2
    refine bodyPost_ret (v:=.tuple #[.string ⟨#[]⟩,.int .i64 0,.int .i64 2]) (by simp [results,Tryz.results283,go_sem]) rfl ⟨by rw [Hp.out]; rfl,B1.out⟩
   ·by_cases h127:u=127
    ·have Hp:=kept (Hbad.out (.inr h127))
     have h127a:(u == 127)=true:=by simpa using h127
     clear hxt h127
     go_enter Tryz.func283,Tryz.ntmps283
     go_wp2_with fail
     (with_reducible refine (decode_at' _ _ c n _ (by omega) He.out).mono ?_); rintro e w1 ⟨rfl,b1⟩
     have B1:=kept b1; clear b1
     go_wp2
     refine bodyPost_ret (v:=.tuple #[.string ⟨#[]⟩,.int .i64 0,.int .i64 2]) (by simp [results,Tryz.results283,go_sem]) rfl ⟨by rw [Hp.out]; rfl,B1.out⟩
    ·have Hp:=kept (Hone.out (by omega))
     have h127a:(u == 127)=false:=by simpa using h127
     generalize (s.data.toList.drop i).take n=t at *
     go_enter Tryz.func283,Tryz.ntmps283
     go_wp2_with fail
     (with_reducible refine (decode_at' _ _ c n _ (by omega) He.out).mono ?_); rintro e w1 ⟨rfl,b1⟩
     have B1:=kept b1; clear b1
     go_wp2
     refine bodyPost_ret (v:=.tuple #[.string ⟨t.toArray⟩,.int .i64 (i+n:Nat),.int .i64 0]) (by simp [hxt,results,Tryz.results283,go_sem]) rfl ⟨by rw [Hp.out]; rfl,B1.out⟩
theorem Str.one_len (s:ByteArray) (k:Nat) (hk:k < s.size) (b:List UInt8) (n:Nat) (h:Str.one (s.data.toList.drop k)=(b,n,(0:Int))):1≤n∧k+n≤s.size∧b.length≤4:=by
 have hlen:(s.data.toList.drop k).length=s.size - k:=by simp
 unfold Str.one at h
 split at h
 ·split at h
  ·next hh =>
   exfalso
   have:=congrArg (fun r=>r.2.2) h
   simp only at this
   exact hh this
  ·next hh =>
   have hl:=Str.escp_len ((s.data.toList.drop k).drop 1) (by simpa using hh)
   obtain ⟨rfl,h2⟩:=Prod.mk.inj h
   obtain ⟨rfl,_⟩:=Prod.mk.inj h2
   have:=(Str.enc_length (Str.escp ((s.data.toList.drop k).drop 1)).1).2
   rw [List.length_drop,hlen] at hl
   exact ⟨by omega,by omega,this⟩
 ·split at h
  ·simp at h
  ·next hh =>
   have hwd:=Str.dec_width s k hk
   rw [←Str.decL] at hwd
   have hd4:(Lib.decodeL (s.data.toList.drop k)).2≤4:=by
    rw [Lib.decodeL_N]
    rcases Lib.decodeN_shape (s.data.toList.drop k).length ((s.data.toList.drop k).getD 0 0).toNat ((s.data.toList.drop k).getD 1 0).toNat ((s.data.toList.drop k).getD 2 0).toNat ((s.data.toList.drop k).getD 3 0).toNat with ⟨c,e⟩ | ⟨c1,c2,c3,cv,e⟩ | ⟨c1,c2,c3,c4,cv,cs,e⟩ | ⟨c1,c2,c3,c4,c5,cv,cw,e⟩ | e
    all_goals rw [e]; simp
   obtain ⟨rfl,h2⟩:=Prod.mk.inj h
   obtain ⟨rfl,_⟩:=Prod.mk.inj h2
   refine ⟨hwd.1,hwd.2,?_⟩
   rw [List.length_take]; omega
theorem triple_ok (l:List UInt8) (n:Nat) (e:Int):TripleEnd (l,n,e) = .returned (.tuple #[.string ⟨l.toArray⟩,.int .i64 n,.int .i64 e]):=rfl
theorem refUnquote_any (s:ByteArray) (w:World) (hs:s.size≤2000000) :
  Calls Tryz.prog 275 #[.string s] w fun e w'=>e=TripleEnd (Str.unquote s.data.toList)∧Below w.heap.size w w':=by
 obtain ⟨U,hU⟩:∃ U,Str.unquote s.data.toList=U:=⟨_,rfl⟩
 rw [hU]
 by_cases h0:s.size=0
 ·have hs:s=⟨#[]⟩:=by
   apply ByteArray.ext; exact Array.eq_empty_of_size_eq_zero h0
  subst hs
  have HU:=kept (show (([],0,40):List UInt8×Nat×Int)=U from hU)
  clear hU
  go_enter Tryz.func275,Tryz.ntmps275
  go_wp2
  refine bodyPost_ret (v:=.tuple #[.string ⟨#[]⟩,.int .i64 0,.int .i64 40]) (by simp [results,Tryz.results275,go_sem]) rfl ⟨by rw [←HU.out]; rfl,Below.refl _ _⟩
 ·have hlt:0 < s.size:=by omega
  have hd:s.data.toList=s[0]::s.data.toList.drop 1:=by have:=drop_cons s 0 hlt; simpa using this
  have hne:s.data.toList≠[]:=by rw [hd]; simp
  have hg0:s.data.toList.getD 0 0=s[0]:=by rw [hd]; rfl
  have h00:((s.size:Int) == 0)=false:=by rw [beq_eq_false_iff_ne]; omega
  unfold Str.unquote at hU
  rw [if_neg hne,hg0] at hU
  clear h0 hd hne hg0
  by_cases h34:s[0]=34
  ·rw [if_neg (by simpa using h34)] at hU
   have HU:=kept hU
   have hu:(s[0].toNat:Int)=34:=by rw [h34]; rfl
   clear hU h34
   go_enter Tryz.func275,Tryz.ntmps275
   go_wp2
   go_loopw [5,6] (fun ov av wr=>Below w.heap.size w wr∧∃ (k f:Nat) (acc:List UInt8),1≤k∧k≤s.size∧av = .int .i64 k∧ov = .string ⟨acc.toArray⟩∧s.size - k < f∧acc.length≤4*k∧Str.unq f (s.data.toList.drop k) acc k=U) (fun _ av _=>s.size - (intOf av).toNat)
   case atStart=>exact ⟨Below.refl _ _,1,s.data.toList.length,[],by omega,by omega,rfl,rfl,by simp; omega,by simp,HU.out⟩
   case round =>
    obtain ⟨hbel,k,f,acc,hk1,hk,rfl,rfl,hf,hacc,hun⟩:=hrel
    have Hl:=kept hbel
    clear hbel
    obtain ⟨f,rfl⟩:∃ f',f=f'+1:=⟨f - 1,by omega⟩
    by_cases hend:k=s.size
    ·subst hend
     rw [List.drop_of_length_le (by simp),Str.unq_nil] at hun
     subst hun
     clear hacc hf
     go_wp2
     refine bodyPost_ret (v:=.tuple #[.string ⟨#[]⟩,.int .i64 0,.int .i64 40]) (by simp [results,Tryz.results275,go_sem]) rfl ⟨rfl,Hl.out⟩
    ·have hkl:k < s.size:=by omega
     have hkl':(k:Int) < s.size:=by omega
     have hne:s.data.toList.drop k≠[]:=by rw [drop_cons s k hkl]; simp
     have hgk:(s.data.toList.drop k).getD 0 0=s[k]:=by rw [drop_cons s k hkl]; rfl
     by_cases h34k:s[k]=34
     ·rw [Str.unq_quote _ _ _ _ hne (by rw [hgk]; exact h34k)] at hun
      have hv:(s[k].toNat:Int)=34:=by rw [h34k]; rfl
      have hsz:=size_mk acc
      clear hne hgk h34k hf
      by_cases hbig:4096 < acc.length
      ·rw [if_pos hbig] at hun
       subst hun
       have hbig':(4096:Int) < acc.length:=by omega
       clear hbig hacc hend
       go_wp2
       refine bodyPost_ret (v:=.tuple #[.string ⟨#[]⟩,.int .i64 0,.int .i64 3]) (by simp [results,Tryz.results275,go_sem]) rfl ⟨rfl,Hl.out⟩
      ·rw [if_neg hbig] at hun
       subst hun
       have hbig':¬ (4096:Int) < acc.length:=by omega
       clear hbig hacc hend
       go_wp2
       refine bodyPost_ret (v:=.tuple #[.string ⟨acc.toArray⟩,.int .i64 (k+1:Nat),.int .i64 0]) (by simp [results,Tryz.results275,go_sem]) rfl ⟨rfl,Hl.out⟩
     ·have hvk1:=byte_ne s[k] 34 (by decide) h34k
      rw [←hgk] at h34k
      obtain ⟨⟨b,n,e0⟩,ho⟩:∃ r,Str.one (s.data.toList.drop k)=r:=⟨_,rfl⟩
      have Hx:=kept (fun W=>refOne_any s k W hs hkl)
      by_cases he0:e0=0
      ·subst he0
       have hln:=Str.one_len s k hkl b n ho
       rw [Str.unq_step _ _ _ _ _ _ hne h34k ho,List.drop_drop] at hun
       rw [ho,Str.at_ok,triple_ok] at Hx
       have Hun:=kept hun
       obtain ⟨r,hr⟩:∃ r,acc++b=r:=⟨_,rfl⟩
       have hcat:=fun W=>run_cat3 (P:=Tryz.prog) W (a:=⟨acc.toArray⟩) (b:=⟨b.toArray⟩) (l:=acc) (m:=b) rfl rfl hr (by rw [←hr,List.length_append]; omega)
       have Hr:=kept hr
       have hln1:1≤n:=hln.1
       have hln2:k+n≤s.size:=hln.2.1
       have Hln3:=kept (show r.length≤4*(k+n) by rw [←hr,List.length_append]; omega)
       clear hne hgk h34k hun ho hr hln hacc
       go_wp2_with fail
       refine (Hx.out _).mono ?_; rintro e w1 ⟨rfl,b1⟩
       have B1:=kept (bthen Hl.out b1); clear b1
       go_wp2
       go_roundw
       case rel=>exact ⟨B1.out,k+n,f,r,by omega,by omega,by go_num,rfl,by omega,Hln3.out,by rw [←Hr.out]; exact Hun.out⟩
       case measure=>simp [intOf]; omega
      ·rw [Str.unq_err _ _ _ _ _ _ _ hne h34k ho he0] at hun
       subst hun
       have hob:b=[]∧n=0:=by
        have h:=ho
        unfold Str.one at h
        split at h
        ·split at h
         ·obtain ⟨rfl,h2⟩:=Prod.mk.inj h
          obtain ⟨rfl,_⟩:=Prod.mk.inj h2
          exact ⟨rfl,rfl⟩
         ·exact absurd (Prod.mk.inj (Prod.mk.inj h).2).2.symm he0
        ·split at h
         ·obtain ⟨rfl,h2⟩:=Prod.mk.inj h
          obtain ⟨rfl,_⟩:=Prod.mk.inj h2
          exact ⟨rfl,rfl⟩
         ·exact absurd (Prod.mk.inj (Prod.mk.inj h).2).2.symm he0
       obtain ⟨rfl,rfl⟩:=hob
       rw [ho,Str.at_err _ _ he0,triple_ok] at Hx
       have he1:(e0 == 0)=false:=by simpa using he0
       have he2:(e0 != 0)=true:=by simpa using he0
       clear hne hgk h34k hf hacc ho
       go_wp2_with fail
       refine (Hx.out _).mono ?_; rintro e w1 ⟨rfl,b1⟩
       have B1:=kept (bthen Hl.out b1); clear b1
       go_wp2
       refine bodyPost_ret (v:=.tuple #[.string ⟨#[]⟩,.int .i64 0,.int .i64 e0]) (by simp [results,Tryz.results275,go_sem]) rfl ⟨rfl,B1.out⟩
  ·rw [if_pos h34] at hU
   have HU:=kept hU
   have g34:=byte_ne s[0] 34 (by decide) h34
   have g34':((s[0].toNat:Int) != 34)=true:=by simpa using g34
   clear h34 hU
   go_enter Tryz.func275,Tryz.ntmps275
   go_wp2
   refine bodyPost_ret (v:=.tuple #[.string ⟨#[]⟩,.int .i64 0,.int .i64 2]) (by simp [results,Tryz.results275,go_sem]) rfl ⟨by rw [←HU.out]; rfl,Below.refl _ _⟩
namespace AX
def c_r6Key:AX.AFn:=⟨33,aS [aR 1 (.box 191 (.t 0)),aR 2 (.mv (.c (.bool false)))] (.seq (aS [aF 3 0 1,aL 4 3,aR 5 (.bin .eql (.t 4) (aI 1))] (.cond (.t 5) (aS [aF 6 1 1,aL 7 6,aR 8 (.bin .geq (.t 7) (aI 0)),aM 9 8,aG 10 (.faddr 1 (.t 1)) 9 true,aG 11 (.load false 1 (.t 10)) 9 true,aG 12 (.bin .leq (.t 11) (aI 9007199254740992)) 9 true,aR 13 (.pick (.t 9) (.t 12) (.c (.bool false))),aM 14 13,aG 15 (.faddr 2 (.t 1)) 14 true,aG 16 (.load false 1 (.t 15)) 14 true,aG 17 (.bin .eql (.t 16) (.c (.str []))) 14 true,aR 18 (.pick (.t 14) (.t 17) (.c (.bool false))),aM 2 18] (.ret)) (.skip))) (.seq (aS [aF 19 0 1,aL 20 19,aR 21 (.bin .eql (.t 20) (aI 2))] (.cond (.t 21) (aS [aF 22 1 1,aL 23 22,aR 24 (.bin .eql (.t 23) (aI 0)),aM 25 24,aG 26 (.faddr 2 (.t 1)) 25 true,aG 27 (.load false 1 (.t 26)) 25 true,aG 28 (.call 204 [.t 27]) 25 true,aR 29 (.pick (.t 25) (.t 28) (.c (.bool false))),aM 2 29] (.ret)) (.skip))) (aS [aR 30 (.load true 3 (.t 1)),aR 31 (.build [.int .i64 0,.int .i64 0,.str []] []),aR 32 (.eq 2 [0,0,1] false (.t 30) (.t 31)),aM 2 32] (.ret)))),[.t 2]⟩
theorem h_r6Key:AX.compFn Tryz.prog 277=some c_r6Key:=by kernel_rfl
def c_r6fmtkey:AX.AFn:=⟨24,aS [aR 1 (.box 191 (.t 0)),aR 2 (.mv (.c (.str [])))] (.seq (aS [aR 3 (.load true 3 (.t 1)),aR 4 (.call 277 [.t 3]),aR 5 (.un .not (.t 4)),aM 6 5,aG 7 (.faddr 0 (.t 1)) 6 false,aG 8 (.load false 1 (.t 7)) 6 false,aG 9 (.bin .eql (.t 8) (aI 0)) 6 false,aR 10 (.pick (.t 6) (.c (.bool true)) (.t 9))] (.cond (.t 10) (aS [aR 2 (.mv (.c (.str [])))] (.ret)) (.skip))) (.seq (aS [aF 11 0 1,aL 12 11,aR 13 (.bin .eql (.t 12) (aI 1))] (.cond (.t 13) (aS [aF 14 1 1,aL 15 14,aR 16 (.call 285 [.t 15]),aR 17 (.bin .add (.c (.str [91])) (.t 16)),aR 18 (.bin .add (.t 17) (.c (.str [93]))),aM 2 18] (.ret)) (.skip))) (aS [aF 19 2 1,aL 20 19,aR 21 (.call 276 [.t 20]),aR 22 (.bin .add (.c (.str [91])) (.t 21)),aR 23 (.bin .add (.t 22) (.c (.str [93]))),aM 2 23] (.ret)))),[.t 2]⟩
theorem h_r6fmtkey:AX.compFn Tryz.prog 280=some c_r6fmtkey:=by kernel_rfl
def c_r6step:AX.AFn:=⟨30,aS [aR 2 (.alloc 227 [.str [],.int .i64 0,.int .i64 0,.str []]),aR 3 (.mv (.c (.str []))),aR 4 (.mv (.c (.bool false)))] (aS [aM 10 0,aR 11 (.ssl (.t 10) (some (aI 7)) none),aR 12 (.call 264 [.t 11]),aM 9 12,aE 13 9 0,aE 14 9 1,aM 5 13,aM 6 14] (aS [aM 16 6,aR 17 (.call 266 [.t 16]),aM 15 17,aE 18 15 0,aE 19 15 1,aE 20 15 2,aR 7 (.alloc 191 [.int .i64 0,.int .i64 0,.str []]),aU (.store 3 (.t 7) (.t 18)),aM 6 19,aM 8 20] (.seq (.reg true [aM 21 5,aR 22 (.load true 3 (.t 7)),⟨some 23,.build [.str [],.int .i64 0,.int .i64 0,.str []] [(0,1,.t 21),(1,3,.t 22)],none,[0,1]⟩,aM 24 6,aM 25 8,⟨some 26,.mv (.t 25),none,[4]⟩,⟨some 27,.mv (.t 5),some (26,true),[5]⟩,⟨some 28,.call 231 [.t 27],some (26,true),[6,5,5]⟩,⟨some 29,.pick (.t 26) (.t 28) (.c (.bool false)),none,[5,7]⟩,⟨none,.store 4 (.t 2) (.t 23),none,[2,7,0,1,2]⟩,⟨some 3,.mv (.t 24),none,[3,9,0,1,2,3,9]⟩,⟨some 4,.mv (.t 29),none,[8,10,0,1,2,3,4,5,6,7,8,9,10]⟩]) (.ret)))),[.c 2 true 4,.t 3,.t 4]⟩
theorem h_r6step:AX.compFn Tryz.prog 263=some c_r6step:=by kernel_rfl
theorem a_r2unquote (s:List UInt8) (hs:s.length≤2000000) (h:Hp):ACall Tryz.prog GT 275 [.str s] h fun r h'=>r = .tup [.str (Str.unquote s).1,.int .i64 (Str.unquote s).2.1,.int .i64 (Str.unquote s).2.2]∧h'=h:=
 acall_imp (args1 r_str) (fun w hg=>refUnquote_any ⟨s.toArray⟩ w (by rw [size_mk]; exact hs)) (fun C=>rep_tup.2 ⟨_,rfl,repL_cons.2 ⟨_,_,rfl,rep_str.2 rfl,repL_cons.2 ⟨_,_,rfl,rep_int.2 rfl,repL_cons.2 ⟨_,_,rfl,rep_int.2 rfl,repL_nil.2 rfl⟩⟩⟩⟩) h
theorem a_r2quote (s:List UInt8) (hs:s.length≤2000000) (h:Hp):ACall Tryz.prog GT 276 [.str s] h fun r h'=>r = .str (Str.quote s)∧h'=h:=
 acall_imp (args1 r_str) (fun w hg=>refQuote_any ⟨s.toArray⟩ w (by rw [size_mk]; exact hs)) (fun C=>rep_str.2 rfl) h
theorem key_eqB (k:Adr.K):(k == Adr.K.none)=((k.kind == 0)&&((k.num == 0)&&(k.str == []))):=by
 obtain ⟨a,b,c⟩:=k
 unfold Adr.K.none
 rw [Bool.eq_iff_iff,beq_iff_eq,Bool.and_eq_true,Bool.and_eq_true,beq_iff_eq,beq_iff_eq,beq_iff_eq]
 simp
theorem a_r6Key (k:Adr.K) (hk:k.str.length≤2000000) (h:Hp):ACall Tryz.prog GT 277 [.agg [.int .i64 k.kind,.int .i64 k.num,.str k.str]] h fun r h'=>r = .bool (Adr.keyOk k)∧h'=h:=by
 have hv:=a_refValid k.str hk
 refine pcall ?_ rfl (by simp [A.pure,A.data]) h
 refine acall_of mixedT h_r6Key (by simp [c_r6Key]) ?_
 dsimp only [c_r6Key]
 unfold Adr.keyOk
 rw [key_eqB]
 obtain ⟨kd,num,str⟩:=k
 dsimp only at hv ⊢
 by_cases h1:kd=1
 ·subst h1
  refine runx0 ti ti ?_
  refine ⟨_,le_refl _,?_⟩
  rw [tupA_1,if_pos rfl]
 have e1:(kd == 1)=false:=by simp [h1]
 rw [if_neg h1]
 by_cases h2:kd=2
 ·subst h2
  refine runx0 ti (ai hv ti) ?_
  exact ⟨_,le_refl _,rfl⟩
 have e2:(kd == 2)=false:=by simp [h2]
 rw [if_neg h2]
 have eq:eqCells [0,0,1] [.int .i64 kd,.int .i64 num,.str str] [.int .i64 0,.int .i64 0,.str []]=some ((kd == 0)&&((num == 0)&&(str == []))):=by simp [eqCells]
 refine runx0 (ai e1 (ai e2 eq)) ti ?_
 exact ⟨_,le_refl _,rfl⟩
theorem a_r6fmtkey0 (h:Hp):ACall Tryz.prog GT 280 [.agg [.int .i64 0,.int .i64 0,.str []]] h fun r h'=>r = .str []∧h'=h:=by
 refine pcall ?_ rfl (by simp [A.pure,A.data]) h
 refine acall_of mixedT h_r6fmtkey (by simp [c_r6fmtkey]) ?_
 dsimp only [c_r6fmtkey]
 have ck:=a_r6Key Adr.K.none (by decide)
 rw [show Adr.keyOk Adr.K.none=true by decide] at ck
 dsimp only [Adr.K.none] at ck
 refine runx0 ti (ai ck ti) ?_
 exact ⟨_,le_refl _,rfl⟩
def keyR (s:List UInt8):Adr.K×List UInt8×Bool:=match Adr.key s with
 | none=>(Adr.K.none,[],false)
 | some (k,r)=>(k,r,true)
def keyT (r:Adr.K×List UInt8×Bool):A:=.tup [.agg [.int .i64 r.1.kind,.int .i64 r.1.num,.str r.1.str],.str r.2.1,.bool r.2.2]
theorem dig_yes (c:UInt8):(decide ((c.toNat:Int)≥48)&&decide ((c.toNat:Int)≤57))=Num.digB c:=by
 unfold Num.digB
 have e1:decide ((c.toNat:Int)≥48)=decide (48≤c.toNat):=by rw [decide_eq_decide]; omega
 have e2:decide ((c.toNat:Int)≤57)=decide (c.toNat≤57):=by rw [decide_eq_decide]; omega
 rw [e1,e2]
theorem byte_eqI (c:UInt8) (n:Nat) (hn:n < 256):((c.toNat:Int) == (n:Int))=(c == UInt8.ofNat n):=by
 rw [Bool.eq_iff_iff,beq_iff_eq,beq_iff_eq,←UInt8.toNat_inj,UInt8.toNat_ofNat']
 omega
theorem byte_neI (c:UInt8) (n:Nat) (hn:n < 256):((c.toNat:Int) != (n:Int))=(c != UInt8.ofNat n):=by
 show (!((c.toNat:Int) == (n:Int)))=!(c == UInt8.ofNat n)
 rw [byte_eqI c n hn]
theorem a_r6key (s:List UInt8) (hl:s.length≤2000000) (h:Hp):ACall Tryz.prog GT 266 [.str s] h fun r h'=>r=keyT (keyR s)∧h'=h:=by
 obtain ⟨q,hq⟩:∃ q,keyR s=q:=⟨_,rfl⟩
 rw [hq]
 unfold keyR at hq
 refine pcall ?_ (by unfold keyT; rfl) (by simp [A.pure,A.data]) h
 refine fo ?_
 by_cases h1:s.getD 0 0=91
 rotate_left
 ·have hk:Adr.key s=some (Adr.K.none,s):=by unfold Adr.key; rw [if_pos h1]
  rw [hk] at hq
  subst hq
  cases s with
  | nil =>
   refine runx0 ti ti ?_
   exact ⟨_,le_refl _,rfl⟩
  | cons c t =>
   have e0:((c::t) == ([]:List UInt8))=false∧(0:Int) < ((t.length+1:Nat):Int)∧((c.toNat:Int) != 91)=true:=⟨rfl,by omega,by
    have:=byte_neI c 91 (by decide)
    rw [List.getD_cons_zero] at h1
    rw [show ((91:Nat):Int)=91 from rfl] at this
    rw [this]; simpa using h1⟩
   refine runx0 e0 ti ?_
   exact ⟨_,le_refl _,rfl⟩
 cases s with
 | nil=>simp at h1
 | cons c t =>
 rw [List.getD_cons_zero] at h1
 subst h1
 have hl' : t.length + 1 ≤ 2000000 := hl
 have e0 : (((91 : UInt8) :: t) == ([] : List UInt8)) = false ∧ (0 : Int) < ((t.length + 1 : Nat) : Int) ∧ (((91 : UInt8).toNat : Int) != 91) = false ∧ (0 : Int) ≤ 1 ∧ (1 : Int) ≤ ((t.length + 1 : Nat) : Int) ∧ Int.toNat 1 = 1 := ⟨rfl, by omega, rfl, by omega, by omega, rfl⟩
 have hk0 : Adr.key (91 :: t) = if 1 < (91 :: t).length ∧ (91 :: t).getD 1 0 = 34 then
  (let u := Str.unquote ((91 :: t).drop 1)
   let k : Adr.K := ⟨2, 0, u.1⟩
   if u.2.2 ≠ 0 ∨ (91 :: t).length ≤ u.2.1 + 1 ∨ (91 :: t).getD (u.2.1 + 1) 0 ≠ 93 ∨ ((91 :: t).take (u.2.1 + 1)).drop 1 ≠ Str.quote u.1 ∨ Adr.keyOk k = false then Option.none
   else some (k, (91 :: t).drop (u.2.1 + 2)))
 else
  (let d := ((91 :: t).drop 1).takeWhile Num.digB
   let x := Num.parse d
   if x.2 ≠ 0 ∨ (91 :: t).length ≤ d.length + 1 ∨ (91 :: t).getD (d.length + 1) 0 ≠ 93 then Option.none
   else some (⟨1, x.1, []⟩, (91 :: t).drop (d.length + 2))) := by unfold Adr.key; rw [if_neg (by simp)]
 simp only [List.drop_succ_cons,List.drop_zero,List.getD_cons_succ,List.take_succ_cons,List.length_cons] at hk0
 by_cases h2:0 < t.length∧t.getD 0 0=34
 ·rw [if_pos ⟨by omega,h2.2⟩] at hk0
  obtain ⟨h3,h4⟩:=h2
  have e1:((t.length+1:Nat):Int) > 1∧(1:Int) < ((t.length+1:Nat):Int)∧(((91:UInt8)::t).getD 1 0)=34∧(((34:UInt8).toNat:Int) == 34)=true:=⟨by omega,by omega,by rw [List.getD_cons_succ]; exact h4,rfl⟩
  have cu:=a_r2unquote t (by omega)
  have hwd:=Str.unquote_width t
  have huv:=Str.unquote_valid t
  obtain ⟨⟨x,n,e⟩,hu⟩:∃ u,Str.unquote t=u:=⟨_,rfl⟩
  rw [hu] at cu hk0 hwd huv
  dsimp only at cu hk0 hwd huv
  by_cases g1:e=0
  rotate_left
  ·have f1:(e != 0)=true:=by simp [g1]
   rw [if_pos (.inl g1)] at hk0
   rw [hk0] at hq
   subst hq
   refine runx0 (ai e0 (ai e1 f1)) (ai cu ti) ?_
   exact ⟨_,le_refl _,rfl⟩
  subst g1
  have hn:=hwd rfl
  have hxl:x.length≤2000000:=by
   have:=huv rfl
   unfold Str.valid at this
   rw [Bool.and_eq_true,decide_eq_true_eq] at this
   omega
  have cq:=a_r2quote x hxl
  have ck:=a_r6Key ⟨2,0,x⟩ hxl
  have w1:IntKind.i64.wrap ((n:Int)+1)=((n+1:Nat):Int)∧IntKind.i64.wrap ((n:Int)+2)=((n+2:Nat):Int):=⟨i80 (by omega),by rw [wrap64 (by omega) (by omega)]; omega⟩
  by_cases g2:t.length+1≤n+1
  ·have f2:((n+1:Nat):Int)≥((t.length+1:Nat):Int):=by omega
   rw [if_pos (.inr (.inl g2))] at hk0
   rw [hk0] at hq
   subst hq
   refine runx0 (ai e0 (ai e1 (ai w1 f2))) (ai cu ti) ?_
   exact ⟨_,le_refl _,rfl⟩
  have f2:¬ ((n+1:Nat):Int)≥((t.length+1:Nat):Int)∧((n+1:Nat):Int) < ((t.length+1:Nat):Int)∧(0:Int)≤((n+1:Nat):Int)∧(1:Int)≤((n+1:Nat):Int)∧((n+1:Nat):Int)≤((t.length+1:Nat):Int):=⟨by omega,by omega,by omega,by omega,by omega⟩
  obtain ⟨c,hc⟩:∃ c,t.getD n 0=c:=⟨_,rfl⟩
  have hcn:=byte_neI c 93 (by decide)
  rw [show ((93:Nat):Int)=93 from rfl,show UInt8.ofNat 93=93 from rfl] at hcn
  rw [hc] at hk0
  by_cases g3:c=93
  rotate_left
  ·have f3:(c != 93)=true:=by simp [g3]
   rw [if_pos (.inr (.inr (.inl g3)))] at hk0
   rw [hk0] at hq
   subst hq
   refine runx0 (ai e0 (ai e1 (ai w1 (ai f2 (ai hc (ai hcn f3)))))) (ai cu ti) ?_
   exact ⟨_,le_refl _,rfl⟩
  have f3:(c != 93)=false:=by simp [g3]
  by_cases g4:t.take n=Str.quote x
  rotate_left
  ·have f4:(t.take n != Str.quote x)=true:=by simp [g4]
   rw [if_pos (.inr (.inr (.inr (.inl g4))))] at hk0
   rw [hk0] at hq
   subst hq
   refine runx0 (ai e0 (ai e1 (ai w1 (ai f2 (ai hc (ai hcn (ai f3 f4))))))) (ai cu (ai cq ti)) ?_
   exact ⟨_,le_refl _,rfl⟩
  have f4:(t.take n != Str.quote x)=false:=by simp [g4]
  dsimp only at ck
  cases g5:Adr.keyOk ⟨2,0,x⟩ with
  | false =>
   rw [g5] at ck
   rw [if_pos (.inr (.inr (.inr (.inr g5))))] at hk0
   rw [hk0] at hq
   subst hq
   refine runx0 (ai e0 (ai e1 (ai w1 (ai f2 (ai hc (ai hcn (ai f3 f4))))))) (ai cu (ai cq (ai ck ti))) ?_
   exact ⟨_,le_refl _,rfl⟩
  | true =>
   rw [g5] at ck
   rw [if_neg (by rintro (h | h | h | h | h); exact h rfl; exact g2 h; exact h g3; exact h g4; rw [g5] at h; cases h)] at hk0
   rw [hk0] at hq
   subst hq
   have f6:(0:Int)≤((n+2:Nat):Int)∧((n+2:Nat):Int)≤((t.length+1:Nat):Int):=⟨by omega,by omega⟩
   refine runx0 (ai e0 (ai e1 (ai w1 (ai f2 (ai hc (ai hcn (ai f3 (ai f4 f6)))))))) (ai cu (ai cq (ai ck ti))) ?_
   exact ⟨_,le_refl _,rfl⟩
 rw [if_neg (fun h=>h2 ⟨by omega,h.2⟩)] at hk0
 have e1:(decide (((t.length+1:Nat):Int) > 1)&&((t.getD 0 0).toNat:Int) == 34)=false:=by
  have hb:=byte_eqI (t.getD 0 0) 34 (by decide)
  rw [show ((34:Nat):Int)=34 from rfl,show UInt8.ofNat 34=34 from rfl] at hb
  rw [hb]
  by_cases h3:0 < t.length
  ·have:(t.getD 0 0 == 34)=false:=by simpa using fun h=>h2 ⟨h3,h⟩
   rw [this,Bool.and_false]
  ·have:decide (((t.length+1:Nat):Int) > 1)=false:=by rw [decide_eq_false_iff_not]; omega
   rw [this,Bool.false_and]
 refine runx0 (ai e0 e1) ti ?_
 refine awp_loop (fun m ts hh=>hh=⟨[.cells 191 [.int .i64 0,.int .i64 0,.str []]],[]⟩∧∃ j:Nat,m=t.length - j∧j≤t.length∧(t.take j).all Num.digB=true∧(ts 0 = .str (91::t)∧ts 2 = .ptr 0 0∧ts 9 = .int .i64 ((j+1:Nat):Int))) t.length ?_ ?_
 ·exact ⟨rfl,0,rfl,Nat.zero_le _,rfl,by (exact inv0 ti)⟩
 rintro m ts hh ⟨rfl,j,rfl,hj,hall,ht⟩
 have hs:(0:Int)≤((j+1:Nat):Int)∧(1:Int)≤((j+1:Nat):Int)∧((j+1:Nat):Int)≤((t.length+1:Nat):Int)∧IntKind.i64.wrap (((j+1:Nat):Int)+1)=((j+1+1:Nat):Int):=⟨by omega,by omega,by omega,i80 (by omega)⟩
 have fin:(j=t.length∨Num.digB (t.getD j 0)=false)→t.takeWhile Num.digB=t.take j∧(t.takeWhile Num.digB).length=j:=fun hc=>by
  obtain ⟨k1,_⟩:=take_stop t j hj hall hc
  rw [k1,List.length_take]
  exact ⟨rfl,by omega⟩
 have hpl:(t.take j).length≤2000000:=by rw [List.length_take]; omega
 have cp:=a_r1parse (t.take j) hpl
 rcases Nat.lt_or_ge j t.length with hlt | hge
 ·have hf:((j+1:Nat):Int) < ((t.length+1:Nat):Int):=by omega
  obtain ⟨c,hc⟩:∃ c,t.getD j 0=c:=⟨_,rfl⟩
  have hcc:t[j]=c:=by rw [←hc]; simp [List.getD,hlt]
  have hw:=dig_yes c
  cases hB:Num.digB c with
  | true =>
   rw [hB,Bool.and_eq_true] at hw
   have hw':=hw
   refine runx0 (ai ht (ai hs (ai hf (ai hc hw)))) ti ?_
   refine ⟨_,?_,rfl,j+1,rfl,by omega,?_,by (exact inv0 (ai ht (ai hs hf)))⟩
   ·omega
   ·rw [List.take_succ_eq_append_getElem hlt,List.all_append,hall,hcc]
    simp [hB]
  | false =>
   rw [hB] at hw
   obtain ⟨k1,k2⟩:=fin (.inr (by rw [hc]; exact hB))
   rw [k2,k1] at hk0
   have hcn:=byte_neI c 93 (by decide)
   rw [show ((93:Nat):Int)=93 from rfl,show UInt8.ofNat 93=93 from rfl] at hcn
   obtain ⟨⟨x,e⟩,hx⟩:∃ x,Num.parse (t.take j)=x:=⟨_,rfl⟩
   rw [hx] at hk0 cp
   dsimp only at hk0 cp
   rw [hc] at hk0
   have hge:¬ ((j+1:Nat):Int)≥((t.length+1:Nat):Int):=by omega
   by_cases g1:e=0
   rotate_left
   ·have f1:(e != 0)=true:=by simp [g1]
    rw [if_pos (.inl g1)] at hk0
    rw [hk0] at hq
    subst hq
    refine runx0 (ai ht (ai hs (ai hf (ai hc (ai hw f1))))) (ai cp ti) ?_
    exact ⟨_,le_refl _,rfl⟩
   have f1:(e != 0)=false:=by simp [g1]
   by_cases g2:c=93
   rotate_left
   ·have f2:(c != 93)=true:=by simp [g2]
    rw [if_pos (.inr (.inr g2))] at hk0
    rw [hk0] at hq
    subst hq
    refine runx0 (ai ht (ai hs (ai hf (ai hc (ai hw (ai hge (ai hcn (ai f1 f2)))))))) (ai cp ti) ?_
    exact ⟨_,le_refl _,rfl⟩
   have f2:(c != 93)=false:=by simp [g2]
   rw [if_neg (by rintro (h | h | h); exact h g1; omega; exact h g2)] at hk0
   rw [hk0] at hq
   subst hq
   have f3:(0:Int)≤((j+1+1:Nat):Int)∧((j+1+1:Nat):Int)≤((t.length+1:Nat):Int):=⟨by omega,by omega⟩
   refine runx0 (ai ht (ai hs (ai hf (ai hc (ai hw (ai hge (ai hcn (ai f1 (ai f2 f3))))))))) (ai cp ti) ?_
   exact ⟨_,le_refl _,rfl⟩
 ·have hf:¬ ((j+1:Nat):Int) < ((t.length+1:Nat):Int):=by omega
  obtain ⟨k1,k2⟩:=fin (.inl (by omega))
  rw [k2,k1] at hk0
  obtain ⟨⟨x,e⟩,hx⟩:∃ x,Num.parse (t.take j)=x:=⟨_,rfl⟩
  rw [hx] at hk0 cp
  dsimp only at hk0 cp
  rw [if_pos (.inr (.inl (by omega)))] at hk0
  rw [hk0] at hq
  subst hq
  have hge:((j+1:Nat):Int)≥((t.length+1:Nat):Int):=by omega
  by_cases g1:e=0
  ·have f1:(e != 0)=false:=by simp [g1]
   refine runx0 (ai ht (ai hs (ai hf (ai hge f1)))) (ai cp ti) ?_
   exact ⟨_,le_refl _,rfl⟩
  ·have f1:(e != 0)=true:=by simp [g1]
   refine runx0 (ai ht (ai hs (ai hf f1))) (ai cp ti) ?_
   exact ⟨_,le_refl _,rfl⟩
def stepR (s:List UInt8):Adr.Step×List UInt8×Bool:=
 (⟨(s.drop 7).takeWhile Adr.wordB,(keyR ((s.drop 7).dropWhile Adr.wordB)).1⟩,(keyR ((s.drop 7).dropWhile Adr.wordB)).2.1,(keyR ((s.drop 7).dropWhile Adr.wordB)).2.2&&Adr.ident ((s.drop 7).takeWhile Adr.wordB))
theorem a_r6step (s:List UInt8) (hl:s.length≤2000000) (h7:7≤s.length) (h:Hp):ACall Tryz.prog GT 263 [.str s] h fun r h'=>r = .tup [.agg (stepR s).1.cells,.str (stepR s).2.1,.bool (stepR s).2.2]∧h'=h:=by
 have cw:=a_r6word (s.drop 7) (by rw [List.length_drop]; omega)
 have w1:((s.drop 7).takeWhile Adr.wordB).length≤2000000:=Nat.le_trans (List.takeWhile_prefix _).length_le (by rw [List.length_drop]; omega)
 have w2:((s.drop 7).dropWhile Adr.wordB).length≤2000000:=Nat.le_trans (List.dropWhile_suffix _).length_le (by rw [List.length_drop]; omega)
 have ck:=a_r6key _ w2
 have ci:=a_r6ident _ w1
 unfold stepR
 refine pcall ?_ rfl (by simp [A.pure,A.data]) h
 obtain ⟨W,hW⟩:∃ W,(s.drop 7).takeWhile Adr.wordB=W:=⟨_,rfl⟩
 obtain ⟨R,hR⟩:∃ R,(s.drop 7).dropWhile Adr.wordB=R:=⟨_,rfl⟩
 rw [hW] at cw ci ⊢
 rw [hR] at cw ck ⊢
 obtain ⟨⟨⟨a,b,d⟩,r,ok⟩,hk⟩:∃ k,keyR R=k:=⟨_,rfl⟩
 rw [hk] at ck ⊢
 unfold keyT at ck
 dsimp only at ck ⊢
 dsimp only [Adr.Step.cells]
 refine acall_of mixedT h_r6step (by simp [c_r6step]) ?_
 dsimp only [c_r6step]
 have hs:(0:Int)≤7∧(7:Int)≤(s.length:Int)∧Int.toNat 7=7:=⟨by decide,by omega,rfl⟩
 have tk:s.take s.length=s:=List.take_length
 refine runx0 hs (ai cw (ai ck (ai ci ti))) ?_
 exact ⟨_,le_refl _,rfl⟩
end AX
end Go.Proofs.YtahmpiioegemaaaGreatDoor
