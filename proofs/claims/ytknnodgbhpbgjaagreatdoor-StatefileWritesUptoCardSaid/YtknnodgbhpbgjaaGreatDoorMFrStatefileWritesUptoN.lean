/- Part of what the proof needs. -/
import Derived.Test.YtknnodgbhpbgjaaGreatDoorMFrStatefileWritesUptoF
import Derived.Test.YtknnodgbhpbgjaaGreatDoorMFrStatefileWritesUptoH
import Derived.Test.YtknnodgbhpbgjaaGreatDoorMFrStatefileWritesUptoI
import Derived.Test.YtknnodgbhpbgjaaGreatDoorMFrStatefileWritesUptoJ
import Derived.Test.YtknnodgbhpbgjaaGreatDoorMFrStatefileWritesUptoL
import Derived.Test.YtknnodgbhpbgjaaGreatDoorMFrStatefileWritesUptoM
set_option maxHeartbeats 4000000
set_option linter.unusedSimpArgs false
set_option linter.unusedVariables false
set_option linter.unnecessarySimpa false
namespace Go.Proofs.YtknnodgbhpbgjaaGreatDoor
open Go.RowKit
namespace AX
theorem dig_no (c : UInt8) : (decide ((c.toNat : Int) < 48) || decide ((c.toNat : Int) > 57)) = !Num.digB c:=by
 unfold Num.digB
 have e1 : decide ((c.toNat : Int) < 48) = !decide (48 ≤ c.toNat):=by rw [← decide_not,decide_eq_decide]; omega
 have e2 : decide ((c.toNat : Int) > 57) = !decide (c.toNat ≤ 57):=by rw [← decide_not,decide_eq_decide]; omega
 rw [e1,e2,Bool.not_and]
theorem a_r1digits (s : List UInt8) (hl : s.length ≤ 2000000) (h : Hp) : ACall Tryz.prog GT 323 [.str s] h fun r h' => r = .bool (Num.digits s) ∧ h' = h:=by
 refine pcall ?_ rfl (by simp [A.pure,A.data]) h
 refine fo ?_
 obtain ⟨q,hq⟩ : ∃ q,Num.digits s = q:=⟨_,rfl⟩
 rw [hq]
 unfold Num.digits at hq
 refine runx0 ti ti ?_
 refine awp_loop (fun m ts hh => hh = ⟨[],[]⟩ ∧ ∃ j : Nat,m = s.length - j ∧ j ≤ s.length ∧ (s.drop j).all Num.digB = s.all Num.digB ∧ (ts 0 = .str s ∧ ts 3 = .int .i64 (j : Nat))) s.length ?_ ?_
 ·exact ⟨rfl,0,rfl,Nat.zero_le _,rfl,by (exact inv0 ti)⟩
 rintro m ts hh ⟨rfl,j,rfl,hj,heq,ht⟩
 rcases Nat.lt_or_ge j s.length with hlt | hge
 ·have hf : (j : Int) < (s.length : Int) ∧ (0 : Int) ≤ (j : Int) ∧ IntKind.i64.wrap ((j : Int) + 1) = ((j + 1 : Nat) : Int):=⟨by omega,by omega,i80 (by omega)⟩
  rw [List.drop_eq_getElem_cons hlt,List.all_cons] at heq
  have hg : s.getD j 0 = s[j]:=by simp [List.getD,hlt]
  obtain ⟨c,hcc⟩ : ∃ c,s[j] = c:=⟨_,rfl⟩
  rw [hcc] at heq hg
  have hw:=dig_no c
  cases hB : Num.digB c with
  | false =>
   rw [hB] at heq hw
   have : false = q:=by rw [← hq,← heq]; rfl
   subst this
   refine runx0 (ai ht (ai hf (ai hg hw))) ti ?_
   exact ⟨_,le_refl _,rfl⟩
  | true =>
   rw [hB] at heq hw
   refine runx0 (ai ht (ai hf (ai hg hw))) ti ?_
   exact ⟨_,by omega,rfl,j + 1,rfl,by omega,heq,by (exact inv0 (ai ht hf))⟩
 ·have hf : ¬ (j : Int) < (s.length : Int):=by omega
  rw [List.drop_of_length_le hge,List.all_nil] at heq
  rw [← heq,Bool.true_and] at hq
  cases s with
  | nil =>
   have hf : ¬ (j : Int) < ((0 : Nat) : Int) ∧ (([] : List UInt8) == [48]) = false:=⟨by omega,rfl⟩
   refine runx0 (ai ht hf) ti ?_
   exact ⟨_,le_refl _,by rw [← hq]; rfl⟩
  | cons c t =>
   have hf : ¬ (j : Int) < ((t.length + 1 : Nat) : Int):=hf
   have h0 : (0 : Int) < ((t.length + 1 : Nat) : Int):=by omega
   have e0 : ((c :: t) != ([] : List UInt8)) = true:=rfl
   have e1 : ((c.toNat : Int) != 48) = (c != 48):=by
    rw [Bool.eq_iff_iff,bne_iff_ne,bne_iff_ne,ne_eq,ne_eq,← UInt8.toNat_inj]
    show ¬ _ ↔ ¬ c.toNat = 48
    omega
   rw [e0,Bool.true_and,List.getD_cons_zero,← e1] at hq
   refine runx0 (ai ht (ai hf (ai h0 e0))) ti ?_
   exact ⟨_,le_refl _,by rw [← hq]; rfl⟩
theorem a_r1valid (n : Int) (h : Hp) : ACall Tryz.prog GT 324 [.int .i64 n] h fun r h' => r = .bool (decide (n ≥ -9007199254740992) && decide (n ≤ 9007199254740992)) ∧ h' = h:=by
 refine pcall ?_ rfl (by simp [A.pure,A.data]) h
 refine fo ?_
 refine runx0 ti ti ?_
 exact ⟨_,le_refl _,rfl⟩
theorem val_take (t : List UInt8) (j : Nat) (h : j < t.length) : Num.val (t.take (j + 1)) = 10 * Num.val (t.take j) + (t[j].toNat - 48):=by
 rw [List.take_succ_eq_append_getElem h]
 unfold Num.val
 rw [List.foldl_append]
 rfl
theorem val_lt : ∀ (n : Nat) (t : List UInt8),t.length = n → t.all Num.digB = true → Num.val t < 10 ^ n:=by
 intro n
 induction n with
 | zero => intro t ht _; rw [List.eq_nil_of_length_eq_zero ht]; decide
 | succ n ih =>
  intro t ht ha
  have hlt : n < t.length:=by omega
  have h1:=val_take t n hlt
  rw [List.take_of_length_le (by omega)] at h1
  have h2:=ih (t.take n) (by rw [List.length_take]; omega) (by
   rw [List.all_eq_true] at ha ⊢
   exact fun x hx => ha x (List.mem_of_mem_take hx))
  have h3:=List.all_eq_true.1 ha t[n] (List.getElem_mem hlt)
  rw [Num.digB_iff] at h3
  rw [h1,Nat.pow_succ]
  omega
theorem a_r1parse (s : List UInt8) (hl : s.length ≤ 2000000) (h : Hp) : ACall Tryz.prog GT 303 [.str s] h fun r h' => r = .tup [.int .i64 (Num.parse s).1,.int .i64 (Num.parse s).2] ∧ h' = h:=by
 refine pcall ?_ rfl (by simp [A.pure,A.data]) h
 refine fo ?_
 cases s with
 | nil =>
  have hd:=a_r1digits [] (by decide)
  rw [show Num.digits [] = false from rfl] at hd
  have h00 : ¬ ((0 : Nat) : Int) > 0:=by decide
  refine runx0 h00 (ai hd ti) ?_
  exact ⟨_,le_refl _,rfl⟩
 | cons c r =>
 have h0 : (0 : Int) < ((r.length + 1 : Nat) : Int) ∧ ((r.length + 1 : Nat) : Int) > 0 ∧ (0 : Int) ≤ 1 ∧ (1 : Int) ≤ ((r.length + 1 : Nat) : Int):=⟨by omega,by omega,by omega,by omega⟩
 obtain ⟨t,ht⟩ : ∃ t,(if (c == 45) = true then r else c :: r) = t:=⟨_,rfl⟩
 have hl' : r.length + 1 ≤ 2000000:=hl
 have htl : t.length ≤ 2000000:=by
  rw [← ht]
  split
  ·omega
  ·exact hl
 have e1 : ((c.toNat : Int) == 45) = (c == 45):=by
  rw [Bool.eq_iff_iff,beq_iff_eq,beq_iff_eq,← UInt8.toNat_inj]
  show _ ↔ c.toNat = 45
  omega
 have hp : Num.parse (c :: r) = if (!Num.digits t || ((c == 45) && t == [48])) = true then (0,2) else if 16 < t.length then (0,5) else if 9007199254740992 < Num.val t then (0,5) else ((if (c == 45) = true then - (Num.val t : Int) else Num.val t),0):=by
  unfold Num.parse
  simp only [List.getD_cons_zero,List.drop_succ_cons,List.drop_zero,ht]
 obtain ⟨mn,hmn⟩ : ∃ mn,(c == 45) = mn:=⟨_,rfl⟩
 rw [hmn] at e1 hp ht
 refine runx0 (ai h0 e1) ti ?_
 refine awp_join (fun ts' h' => h' = ⟨[],[]⟩ ∧ (ts' 4 = .bool mn ∧ ts' 5 = .str t)) ?_ ?_
 ·cases mn with
  | false =>
   rw [if_neg (by decide)] at ht
   refine runx0 (ai h0 e1) ti ?_
   exact ⟨rfl,by (exact inv0 (ai ht e1))⟩
  | true =>
   rw [if_pos rfl] at ht
   refine runx0 (ai h0 e1) ti ?_
   exact ⟨rfl,by (exact inv0 (ai ht e1))⟩
 rintro ts hh ⟨rfl,hu⟩
 rw [hp]
 have hd:=a_r1digits t htl
 cases hD : Num.digits t with
 | false =>
  rw [hD] at hd
  refine runx0 hu (ai hd ti) ?_
  exact ⟨_,le_refl _,rfl⟩
 | true =>
 rw [hD] at hd
 cases hz : (mn && t == [48]) with
 | true =>
  refine runx0 (ai hu hz) (ai hd ti) ?_
  exact ⟨_,le_refl _,rfl⟩
 | false =>
 rw [if_neg (by simp)]
 by_cases h16 : 16 < t.length
 ·have e2 : (t.length : Int) > 16:=by omega
  rw [if_pos h16]
  refine runx0 (ai hu (ai hz e2)) (ai hd ti) ?_
  exact ⟨_,le_refl _,rfl⟩
 have e2 : ¬ (t.length : Int) > 16:=by omega
 rw [if_neg h16]
 have hall : t.all Num.digB = true:=by unfold Num.digits at hD; rw [Bool.and_eq_true] at hD; exact hD.1
 have hv : ∀ j,j ≤ t.length → Num.val (t.take j) < 10000000000000000:=fun j hj => by
  have:=val_lt j (t.take j) (by rw [List.length_take]; omega) (by
   rw [List.all_eq_true] at hall ⊢
   exact fun x hx => hall x (List.mem_of_mem_take hx))
  exact Nat.lt_of_lt_of_le this (Nat.pow_le_pow_right (by decide) (show j ≤ 16 by omega))
 refine runx0 (ai hu (ai hz e2)) (ai hd ti) ?_
 refine awp_loop (fun m ts hh => hh = ⟨[],[]⟩ ∧ ∃ j : Nat,m = t.length - j ∧ j ≤ t.length ∧ (ts 4 = .bool mn ∧ ts 5 = .str t ∧ ts 6 = .int .i64 (Num.val (t.take j) : Nat) ∧ ts 7 = .int .i64 (j : Nat))) t.length ?_ ?_
 ·exact ⟨rfl,0,rfl,Nat.zero_le _,by (exact inv0 hu)⟩
 rintro m ts hh ⟨rfl,j,rfl,hj,hw⟩
 have hvj:=hv j hj
 rcases Nat.lt_or_ge j t.length with hlt | hge
 ·have hvj1:=hv (j + 1) hlt
  have hvt:=val_take t j hlt
  have hcd:=(Num.digB_iff _).1 (List.all_eq_true.1 hall t[j] (List.getElem_mem hlt))
  have hg : t.getD j 0 = t[j]:=by simp [List.getD,hlt]
  obtain ⟨x,hx⟩ : ∃ x,t[j] = x:=⟨_,rfl⟩
  rw [hx] at hvt hcd hg
  have hf : (j : Int) < (t.length : Int) ∧ (0 : Int) ≤ (j : Int) ∧ IntKind.i64.wrap ((j : Int) + 1) = ((j + 1 : Nat) : Int):=⟨by omega,by omega,i80 (by omega)⟩
  obtain ⟨V,hV⟩ : ∃ V,Num.val (t.take j) = V:=⟨_,rfl⟩
  rw [hV] at hvt hvj hw
  have k1 : IntKind.i64.wrap (10 * (V : Int)) = ((10 * V : Nat) : Int):=by rw [wrap64 (by omega) (by omega)]; omega
  have k2 : IntKind.u8.wrap ((x.toNat : Int) - 48) = ((x.toNat - 48 : Nat) : Int):=by rw [IntKind.wrap_u8]; omega
  have k3 : IntKind.i64.wrap ((x.toNat - 48 : Nat) : Int) = ((x.toNat - 48 : Nat) : Int):=wrap64 (by omega) (by omega)
  have k4 : IntKind.i64.wrap (((10 * V : Nat) : Int) + ((x.toNat - 48 : Nat) : Int)) = (Num.val (t.take (j + 1)) : Nat):=by rw [hvt,wrap64 (by omega) (by omega)]; omega
  refine runx0 (ai hw (ai hf (ai hg (ai k1 (ai k2 (ai k3 k4)))))) ti ?_
  exact ⟨_,by omega,rfl,j + 1,rfl,by omega,by (exact inv0 (ai hw (ai hf (ai hg (ai k1 (ai k2 (ai k3 k4)))))))⟩
 ·have hf : ¬ (j : Int) < (t.length : Int):=by omega
  rw [List.take_of_length_le hge] at hw hvj
  obtain ⟨V,hV⟩ : ∃ V,Num.val t = V:=⟨_,rfl⟩
  rw [hV] at hw hvj ⊢
  have hva:=fun n => a_r1valid n
  cases mn with
  | false =>
   by_cases hb : 9007199254740992 < V
   ·have e3 : (decide ((V : Int) ≥ -9007199254740992) && decide ((V : Int) ≤ 9007199254740992)) = false:=by simp; omega
    rw [if_pos hb]
    refine runx0 (ai hw (ai hf e3)) (ai ((hva V)) ti) ?_
    exact ⟨_,le_refl _,rfl⟩
   ·have e3 : (decide ((V : Int) ≥ -9007199254740992) && decide ((V : Int) ≤ 9007199254740992)) = true:=by simp; omega
    rw [if_neg hb]
    refine runx0 (ai hw (ai hf e3)) (ai ((hva V)) ti) ?_
    exact ⟨_,le_refl _,rfl⟩
  | true =>
   have e4 : IntKind.i64.wrap (0 - (V : Int)) = -(V : Int):=by rw [wrap64 (by omega) (by omega)]; omega
   by_cases hb : 9007199254740992 < V
   ·have e3 : (decide (-(V : Int) ≥ -9007199254740992) && decide (-(V : Int) ≤ 9007199254740992)) = false:=by simp; omega
    rw [if_pos hb]
    refine runx0 (ai hw (ai hf (ai e4 e3))) (ai ((hva (-(V : Int)))) ti) ?_
    exact ⟨_,le_refl _,rfl⟩
   ·have e3 : (decide (-(V : Int) ≥ -9007199254740992) && decide (-(V : Int) ≤ 9007199254740992)) = true:=by simp; omega
    rw [if_neg hb]
    refine runx0 (ai hw (ai hf (ai e4 e3))) (ai ((hva (-(V : Int)))) ti) ?_
    exact ⟨_,le_refl _,rfl⟩
end AX
theorem hd_extract : ∀ d : Fin 16,((⟨#[48,49,50,51,52,53,54,55,56,57,97,98,99,100,101,102]⟩ : ByteArray).extract d.val (d.val + 1)).data.toList = [Str.hd d.val]:=by decide
theorem hd_str (d : Nat) (h : d < 16) : (⟨#[48,49,50,51,52,53,54,55,56,57,97,98,99,100,101,102]⟩ : ByteArray).extract d (d + 1) = ⟨#[Str.hd d]⟩:=by
 have:=hd_extract ⟨d,h⟩
 exact str_of this
theorem digits_small (c : Nat) (w : World) (hc : c < 16) :
  Calls Tryz.prog 395 #[.int .i64 c] w fun e w' => e = .returned (.string ⟨(Str.hexL c).toArray⟩) ∧ w = w':=by
 have Hh:=kept (show Str.hexL c = [Str.hd c] by rw [Str.hexL,if_pos hc])
 have hx:=hd_str c hc
 have hc' : (c : Int) < 16:=by omega
 have hm : (c : Int) % 16 = (c : Int):=by omega
 have hy : (c : Int) < 15 + 1:=by omega
 generalize hq : Str.hd c = q at *
 clear hc hq
 go_enter Tryz.func395,Tryz.ntmps395
 go_wp2
 go_ret
 exact ⟨by rw [Hh.out]; rfl,rfl⟩
theorem digits_any (c : Nat) (w : World) (hc : c < 256) :
  Calls Tryz.prog 395 #[.int .i64 c] w fun e w' => e = .returned (.string ⟨(Str.hexL c).toArray⟩) ∧ w = w':=by
 by_cases h16 : c < 16
 ·exact digits_small c w h16
 ·have Hh:=kept (show Str.hexL c = Str.hexL (c / 16) ++ [Str.hd (c % 16)] by
   rw [Str.hexL,if_neg h16,Str.hexL,if_pos (by omega)]; rfl)
  have hx:=hd_str (c % 16) (by omega)
  have hl:=(Str.hexL_length (c / 16)).2
  have hcat:=fun W => run_cat (P:=Tryz.prog) W (a:=⟨(Str.hexL (c / 16)).toArray⟩) (b:=⟨#[Str.hd (c % 16)]⟩) (l:=Str.hexL (c / 16)) (m:=[Str.hd (c % 16)]) rfl rfl (by simp; omega)
  obtain ⟨d,hd⟩ : ∃ d : Nat,(c : Int) % 16 = (d : Int):=⟨c % 16,by omega⟩
  obtain ⟨f,hf⟩ : ∃ f : Nat,(c : Int) / 16 = (f : Int):=⟨c / 16,by omega⟩
  obtain rfl : d = c % 16:=by omega
  obtain rfl : f = c / 16:=by omega
  have Hs:=kept (show c / 16 < 16 by omega)
  have hb : ((c % 16 : Nat) : Int) < 16:=by omega
  have hfb : ((c / 16 : Nat) : Int) < 16:=by omega
  have hb2 : ((c % 16 : Nat) : Int) < 15 + 1:=by omega
  have hc' : ¬ (c : Int) < 16:=by omega
  generalize hq : Str.hd (c % 16) = q at *
  generalize hg : Str.hexL (c / 16) = g at *
  have Hg:=kept hg
  generalize c % 16 = d at *
  generalize c / 16 = f at *
  clear hc hq h16 hl hg
  go_enter Tryz.func395,Tryz.ntmps395
  go_wp2_with (go_at_call 395; refine (digits_small _ _ Hs.out).mono ?_; rintro e w' ⟨rfl,rfl⟩; rw [Hg.out])
  go_ret
  exact ⟨by rw [Hh.out]; rfl,rfl⟩
theorem one_byte (w : World) (b : UInt8) : (convert 94 9 (.slice (some ⟨w.heap.size,0,none⟩) 1 1)).run Tryz.prog (w.alloc (.cells #[.int .u8 b.toNat] 5)) = .ok (.string ⟨#[b]⟩) (w.alloc (.cells #[.int .u8 b.toNat] 5)):=
 (BytesAt.lit w 5 [b]).conv (P:=Tryz.prog) 94 9 1 Tryz.underlying94 Tryz.underlying5 Tryz.underlying9
theorem escaped_any (b : UInt8) (w : World) :
  Calls Tryz.prog 386 #[.int .u8 b.toNat] w fun e w' => e = .returned (.string ⟨(Str.esc b).toArray⟩) ∧ Below w.heap.size w w':=by
 by_cases h1 : b = 10
 ·subst h1; go_enter Tryz.func386,Tryz.ntmps386
  go_wp2
  go_ret
  exact ⟨rfl,Below.refl _ _⟩
 by_cases h2 : b = 13
 ·subst h2; go_enter Tryz.func386,Tryz.ntmps386
  go_wp2
  go_ret
  exact ⟨rfl,Below.refl _ _⟩
 by_cases h3 : b = 9
 ·subst h3; go_enter Tryz.func386,Tryz.ntmps386
  go_wp2
  go_ret
  exact ⟨rfl,Below.refl _ _⟩
 by_cases h4 : b = 34
 ·subst h4; go_enter Tryz.func386,Tryz.ntmps386
  go_wp2
  go_ret
  exact ⟨rfl,Below.refl _ _⟩
 by_cases h5 : b = 92
 ·subst h5; go_enter Tryz.func386,Tryz.ntmps386
  go_wp2
  go_ret
  exact ⟨rfl,Below.refl _ _⟩
 have hb:=b.toNat_lt
 have e1 : ∀ n : Nat,n < 256 → b ≠ UInt8.ofNat n → ((b.toNat : Int) == (n : Int)) = false:=fun n hn h => by
  refine beq_eq_false_iff_ne.2 fun hh => h ?_
  rw [← UInt8.toNat_inj,UInt8.toNat_ofNat']; omega
 have f1 : ((b.toNat : Int) == 10) = false:=e1 10 (by omega) h1
 have f2 : ((b.toNat : Int) == 13) = false:=e1 13 (by omega) h2
 have f3 : ((b.toNat : Int) == 9) = false:=e1 9 (by omega) h3
 have f4 : ((b.toNat : Int) == 34) = false:=e1 34 (by omega) h4
 have f5 : ((b.toNat : Int) == 92) = false:=e1 92 (by omega) h5
 have hob:=one_byte w b
 have Hd:=kept (fun W => digits_any b.toNat W (by omega))
 have hl:=(Str.hexL_length b.toNat).2
 have hcat1:=fun W => run_cat3 (P:=Tryz.prog) W (a:=⟨#[92,117,123]⟩) (b:=⟨(Str.hexL b.toNat).toArray⟩) (l:=[92,117,123]) (m:=Str.hexL b.toNat) (r:=[92,117,123] ++ Str.hexL b.toNat) rfl rfl rfl (by simp; omega)
 have hcat2:=fun W => run_cat3 (P:=Tryz.prog) W (a:=⟨([92,117,123] ++ Str.hexL b.toNat).toArray⟩) (b:=⟨#[125]⟩) (l:=[92,117,123] ++ Str.hexL b.toNat) (m:=[125]) (r:=[92,117,123] ++ Str.hexL b.toNat ++ [125]) rfl rfl rfl (by simp; omega)
 by_cases h6 : b < 32 ∨ b = 127
 ·have He:=kept (show Str.esc b = [92,117,123] ++ Str.hexL b.toNat ++ [125] by simp only [Str.esc,h1,h2,h3,h4,h5,h6,if_true,if_false])
  generalize hm1 : ([92,117,123] ++ Str.hexL b.toNat : List UInt8) = m1 at *
  generalize hm2 : (m1 ++ [125] : List UInt8) = m2 at *
  have hlt : (b.toNat : Int) < 32 ∨ ((b.toNat : Int) == 127) = true ∧ ¬ (b.toNat : Int) < 32:=by
   rcases h6 with h | h
   ·left; have:=UInt8.lt_iff_toNat_lt.1 h; simp at this; omega
   ·right; subst h; decide
  clear h1 h2 h3 h4 h5 h6 e1 hl hob hm1 hm2
  obtain ⟨u,hu⟩ : ∃ u : Int,(b.toNat : Int) = u:=⟨_,rfl⟩
  have hu0 : 0 ≤ u:=by omega
  have hu1 : u ≤ 255:=by omega
  have Hu:=kept hu
  rw [hu] at f1 f2 f3 f4 f5 hlt
  clear hb hu
  rw [Hu.out]
  rcases hlt with hlt | ⟨hlt,hlt2⟩
  all_goals
   go_enter Tryz.func386,Tryz.ntmps386
   go_wp2_with fail
   rw [← Hu.out]
   refine (Hd.out _).mono ?_; rintro e w' ⟨rfl,rfl⟩
   go_wp2
   go_ret
   exact ⟨by rw [He.out]; rfl,Below.refl _ _⟩
 ·have He:=kept (show Str.esc b = [b] by simp only [Str.esc,h1,h2,h3,h4,h5,h6,if_false])
  have hlt : ¬ (b.toNat : Int) < 32:=fun h => h6 (.inl (UInt8.lt_iff_toNat_lt.2 (by simp; omega)))
  have hne : ((b.toNat : Int) == 127) = false:=e1 127 (by omega) (fun h => h6 (.inr h))
  clear h1 h2 h3 h4 h5 h6 e1 hl hcat1 hcat2
  obtain ⟨u,hu⟩ : ∃ u : Int,(b.toNat : Int) = u:=⟨_,rfl⟩
  have hu0 : 0 ≤ u:=by omega
  have hu1 : u ≤ 255:=by omega
  rw [hu] at f1 f2 f3 f4 f5 hlt hne hob ⊢
  clear hb hu
  go_enter Tryz.func386,Tryz.ntmps386
  go_wp2
  go_ret
  exact ⟨by rw [He.out]; rfl,(Below.refl _ _).alloc (Nat.le_refl _) _⟩
theorem len_data (s : ByteArray) : s.data.toList.length = s.size:=by simp
theorem refQuote_any (s : ByteArray) (w : World) (hs : s.size ≤ 2000000) :
  Calls Tryz.prog 370 #[.string s] w fun e w' => e = .returned (.string ⟨(Str.quote s.data.toList).toArray⟩) ∧ Below w.heap.size w w':=by
 go_enter Tryz.func370,Tryz.ntmps370
 go_wp2
 go_loopw [3,4] (fun x i wr => ∃ (k : Nat) (acc : List UInt8),k ≤ s.size ∧ i = .int .i64 k ∧ x = .string ⟨acc.toArray⟩ ∧ acc = 34 :: (s.data.toList.take k).flatMap Str.esc ∧ Below w.heap.size w wr) (fun _ i _ => s.size - (intOf i).toNat)
 case atStart => exact ⟨0,[34],by omega,rfl,rfl,rfl,Below.refl _ _⟩
 case round =>
  obtain ⟨k,acc,hk,rfl,rfl,hacc,hbel⟩:=hrel
  have Ha:=kept hacc; have Hl:=kept hbel
  have hlen : acc.length ≤ 1 + 6 * s.size:=by
   rw [hacc]
   have:=(Str.flatMap_esc_length (s.data.toList.take k)).2
   rw [List.length_take,len_data] at this
   simp only [List.length_cons]; omega
  clear hacc hbel
  by_cases hlt : k < s.size
  ·have hlt' : (k : Int) < s.size:=by omega
   obtain ⟨r,hr⟩ : ∃ r,acc ++ Str.esc s[k] = r:=⟨_,rfl⟩
   have hel:=(Str.esc_length s[k]).2
   have hcat:=fun W => run_cat3 (P:=Tryz.prog) W (a:=⟨acc.toArray⟩) (b:=⟨(Str.esc s[k]).toArray⟩) (l:=acc) (m:=Str.esc s[k]) rfl rfl hr (by rw [← hr,List.length_append]; omega)
   have Hr:=kept (show r = 34 :: (s.data.toList.take (k + 1)).flatMap Str.esc by
    rw [← hr,Ha.out,take_succ s k hlt,List.flatMap_append]; simp)
   clear hlen hr hel
   go_wp2_with fail
   refine (escaped_any _ _).mono ?_; rintro e w1 ⟨rfl,b1⟩
   have B1:=kept b1; clear b1
   go_wp2
   go_roundw
   case rel => exact ⟨k + 1,r,by omega,by go_num,rfl,Hr.out,bthen Hl.out B1.out⟩
   case measure => simp [intOf]; omega
  ·have hcat:=fun W => run_cat3 (P:=Tryz.prog) W (a:=⟨acc.toArray⟩) (b:=⟨#[34]⟩) (l:=acc) (m:=[34]) (r:=acc ++ [34]) rfl rfl rfl (by rw [List.length_append]; simp; omega)
   have Hr:=kept (show acc ++ [34] = Str.quote s.data.toList by
    rw [Ha.out,List.take_of_length_le (by rw [len_data]; omega)]; rfl)
   clear hlen
   generalize hq : acc ++ [34] = q at *
   go_wp2
   go_ret
   exact ⟨ret_str Hr.out,Hl.out⟩
theorem refHex_any (b : UInt8) (w : World) :
  Calls Tryz.prog 400 #[.int .u8 b.toNat] w fun e w' => e = .returned (.int .i64 (Str.hexv b)) ∧ w = w':=by
 have hb:=b.toNat_lt
 have Hv:=kept (show Str.hexv b = if 48 ≤ (b.toNat : Int) ∧ (b.toNat : Int) ≤ 57 then (b.toNat : Int) - 48 else if 97 ≤ (b.toNat : Int) ∧ (b.toNat : Int) ≤ 102 then (b.toNat : Int) - 87 else -1 by
  unfold Str.hexv
  repeat' split
  all_goals omega)
 obtain ⟨u,hu⟩ : ∃ u : Int,(b.toNat : Int) = u:=⟨_,rfl⟩
 rw [hu] at Hv ⊢
 have h0 : 0 ≤ u:=by omega
 have h1 : u < 256:=by omega
 clear hu hb
 by_cases a1 : 48 ≤ u
 ·by_cases a2 : u ≤ 57
  ·go_enter Tryz.func400,Tryz.ntmps400
   go_wp2
   go_ret
   exact ⟨ret_int (by rw [Hv.out,if_pos ⟨a1,a2⟩]),rfl⟩
  ·by_cases a3 : 97 ≤ u
   ·by_cases a4 : u ≤ 102
    ·go_enter Tryz.func400,Tryz.ntmps400
     go_wp2
     go_ret
     exact ⟨ret_int (by rw [Hv.out,if_neg (by omega),if_pos ⟨a3,a4⟩]; omega),rfl⟩
    ·go_enter Tryz.func400,Tryz.ntmps400
     go_wp2
     go_ret
     exact ⟨ret_int (by rw [Hv.out,if_neg (by omega),if_neg (by omega)]),rfl⟩
   ·go_enter Tryz.func400,Tryz.ntmps400
    go_wp2
    go_ret
    exact ⟨ret_int (by rw [Hv.out,if_neg (by omega),if_neg (by omega)]),rfl⟩
 ·go_enter Tryz.func400,Tryz.ntmps400
  go_wp2
  go_ret
  exact ⟨ret_int (by rw [Hv.out,if_neg (by omega),if_neg (by omega)]),rfl⟩
theorem and63i (x : Int) (h0 : 0 ≤ x) (h1 : x < 16777216) : bits .and .i64 x 63 = x % 64:=by
 obtain ⟨X,rfl⟩:=Int.eq_ofNat_of_zero_le h0
 have e : X &&& 63 = X % 64:=by rw [show (63 : Nat) = 2 ^ 6 - 1 from rfl,Nat.and_two_pow_sub_one_eq_mod]
 have h2 : (BitVec.ofInt 64 ((X : Nat) : Int) &&& BitVec.ofInt 64 (63 : Int)).toNat = X % 64:=by
  rw [BitVec.toNat_and,BitVec.ofInt_natCast,show (63 : Int) = ((63 : Nat) : Int) from rfl,BitVec.ofInt_natCast,BitVec.toNat_ofNat,BitVec.toNat_ofNat,Nat.mod_eq_of_lt (by omega),Nat.mod_eq_of_lt (by omega),e]
 show IntKind.i64.wrap ((BitVec.ofInt 64 ((X : Nat) : Int) &&& BitVec.ofInt 64 (63 : Int)).toNat : Int) = _
 rw [h2,IntKind.wrap_i64]
 omega
theorem or128 (y : Int) (h0 : 0 ≤ y) (h1 : y < 64) : bits .or .i64 128 y = 128 + y:=or_int 2 y 64 6 (by decide) (by omega) (by omega) h0 h1 (by omega)
theorem or192 (y : Int) (h0 : 0 ≤ y) (h1 : y < 64) : bits .or .i64 192 y = 192 + y:=or_int 3 y 64 6 (by decide) (by omega) (by omega) h0 h1 (by omega)
theorem or224 (y : Int) (h0 : 0 ≤ y) (h1 : y < 16) : bits .or .i64 224 y = 224 + y:=or_int 14 y 16 4 (by decide) (by omega) (by omega) h0 h1 (by omega)
theorem or240 (y : Int) (h0 : 0 ≤ y) (h1 : y < 16) : bits .or .i64 240 y = 240 + y:=or_int 15 y 16 4 (by decide) (by omega) (by omega) h0 h1 (by omega)
def zB (l : List Int) : List UInt8:=l.map fun x => x.toNat.toUInt8
theorem zB_cells : ∀ l : List Int,(∀ x ∈ l,0 ≤ x ∧ x < 256) → bcells (zB l) = l.map fun x => Value.int .u8 x
 | [],_ => rfl
 | x :: l,h => by
  have h1:=h x (by simp)
  have h2:=zB_cells l (fun y hy => h y (by simp [hy]))
  unfold zB bcells at *
  rw [List.map_cons,List.map_cons,h2,List.map_cons]
  rw [show (x.toNat.toUInt8).toNat = x.toNat % 256 from rfl]
  congr 2; omega
theorem some_bytes (w : World) (l : List Int) (n : Nat) (hn : l.length = n) (h : ∀ x ∈ l,0 ≤ x ∧ x < 256) :
  (convert 94 9 (.slice (some ⟨w.heap.size,0,none⟩) n n)).run Tryz.prog (w.alloc (.cells (l.map fun x => Value.int .u8 x).toArray 5)) = .ok (.string ⟨(zB l).toArray⟩) (w.alloc (.cells (l.map fun x => Value.int .u8 x).toArray 5)):=by
 rw [← zB_cells l h]
 exact (BytesAt.lit w 5 (zB l)).conv_of (P:=Tryz.prog) 94 9 n n (by simp [zB,hn]) Tryz.underlying94 Tryz.underlying5 Tryz.underlying9
theorem refEncode_any (c : Nat) (w : World) (hc : Utf8.valid c = true) :
  Calls Tryz.prog 399 #[.int .i64 c] w fun e w' => e = .returned (.string ⟨(Str.enc c).toArray⟩) ∧ Below w.heap.size w w':=by
 have hv : (c : Int) < 55296 ∨ (57343 < (c : Int) ∧ (c : Int) ≤ 1114111):=by
  unfold Utf8.valid at hc; simp at hc; omega
 have He:=kept (show Str.enc c = zB (Lib.encodeRuneZ (c : Int)) from rfl)
 obtain ⟨u,hu⟩ : ∃ u : Int,(c : Int) = u:=⟨_,rfl⟩
 have h0 : 0 ≤ u:=by omega
 rw [hu] at He hv ⊢
 clear hu hc
 by_cases h1 : u < 128
 ·have Hz:=kept (Lib.encodeRuneZ_one (r:=u) h0 (by omega))
  have hob:=some_bytes w [u] 1 rfl (by simp; omega)
  have hw8 : u < 256:=by omega
  go_enter Tryz.func399,Tryz.ntmps399
  simp only [List.map_cons,List.map_nil] at hob
  go_wp2
  go_ret
  exact ⟨by rw [He.out,Hz.out]; rfl,ball w _⟩
 ·by_cases h2 : u < 2048
  ·have Hz:=kept (Lib.encodeRuneZ_two (r:=u) (by omega) (by omega))
   have a1:=and63i u h0 (by omega)
   have o1:=or192 (u / 64) (by omega) (by omega)
   have o2:=or128 (u % 64) (by omega) (by omega)
   have hob:=some_bytes w [192 + u / 64,128 + u % 64] 2 rfl (by simp; omega)
   simp only [List.map_cons,List.map_nil] at hob
   go_enter Tryz.func399,Tryz.ntmps399
   go_wp2
   go_ret
   exact ⟨by rw [He.out,Hz.out]; rfl,ball w _⟩
  ·by_cases h3 : u < 65536
   ·have Hz:=kept (Lib.encodeRuneZ_three (r:=u) (by omega))
    have a1:=and63i u h0 (by omega)
    have a2:=and63i (u / 64) (by omega) (by omega)
    have o1:=or224 (u / 4096) (by omega) (by omega)
    have o2:=or128 (u / 64 % 64) (by omega) (by omega)
    have o3:=or128 (u % 64) (by omega) (by omega)
    have hob:=some_bytes w [224 + u / 4096,128 + u / 64 % 64,128 + u % 64] 3 rfl (by simp; omega)
    simp only [List.map_cons,List.map_nil] at hob
    go_enter Tryz.func399,Tryz.ntmps399
    go_wp2
    go_ret
    exact ⟨by rw [He.out,Hz.out]; rfl,ball w _⟩
   ·have Hz:=kept (Lib.encodeRuneZ_four (r:=u) (by omega) (by omega))
    have a1:=and63i u h0 (by omega)
    have a2:=and63i (u / 64) (by omega) (by omega)
    have a3:=and63i (u / 4096) (by omega) (by omega)
    have o1:=or240 (u / 262144) (by omega) (by omega)
    have o2:=or128 (u / 4096 % 64) (by omega) (by omega)
    have o3:=or128 (u / 64 % 64) (by omega) (by omega)
    have o4:=or128 (u % 64) (by omega) (by omega)
    have hob:=some_bytes w [240 + u / 262144,128 + u / 4096 % 64,128 + u / 64 % 64,128 + u % 64] 4 rfl (by simp; omega)
    simp only [List.map_cons,List.map_nil] at hob
    go_enter Tryz.func399,Tryz.ntmps399
    go_wp2
    go_ret
    exact ⟨by rw [He.out,Hz.out]; rfl,ball w _⟩
theorem getD_drop (s : ByteArray) (i j : Nat) (h : i + j < s.size) : (s.data.toList.drop i).getD j 0 = s[i + j]:=by
 simp [List.getD,h]; rfl
theorem valid_iff (C : Nat) : Utf8.valid (C : Int) = false ↔ (1114111 < (C : Int) ∨ (55296 ≤ (C : Int) ∧ (C : Int) ≤ 57343)):=by
 unfold Utf8.valid
 rw [← Bool.not_eq_true]
 simp only [Bool.or_eq_true,Bool.and_eq_true,decide_eq_true_eq]
 omega
theorem point_exit (s : ByteArray) (i k c n : Nat) (e0 u z C : Int) (hp : Str.point (s.data.toList.drop i) = (c,n,e0)) (hn : Str.hexN 6 (s.data.toList.drop i) = k) (hk : i + k < s.size)
  (hu : (s[i + k].toNat : Int) = u) (hz : (s[i].toNat : Int) = z) (hC : ((Str.hexC k (s.data.toList.drop i) : Nat) : Int) = C) :
  ((u ≠ 125 ∨ k = 0 ∨ (1 < k ∧ z = 48) ∨ 1114111 < C ∨ (55296 ≤ C ∧ C ≤ 57343)) → c = 0 ∧ n = 0 ∧ e0 = 2) ∧
  (¬ (u ≠ 125 ∨ k = 0 ∨ (1 < k ∧ z = 48) ∨ 1114111 < C ∨ (55296 ≤ C ∧ C ≤ 57343)) → (c : Int) = C ∧ n = k + 1 ∧ e0 = 0):=by
 have hgk:=getD_drop s i k hk
 have hg0:=getD_drop s i 0 (by omega)
 simp only [Nat.add_zero] at hg0
 have hl : k < (s.data.toList.drop i).length:=by simp; omega
 have e1 : ((s.data.toList.drop i).getD k 0 ≠ 125 ∨ k = 0 ∨ (1 < k ∧ (s.data.toList.drop i).getD 0 0 = 48) ∨ Utf8.valid (Str.hexC k (s.data.toList.drop i)) = false) ↔ (u ≠ 125 ∨ k = 0 ∨ (1 < k ∧ z = 48) ∨ 1114111 < C ∨ (55296 ≤ C ∧ C ≤ 57343)):=by
  rw [hgk,hg0,valid_iff,hC]
  have a1 : s[i + k] ≠ 125 ↔ u ≠ 125:=by
   rw [← hu,ne_eq,ne_eq,← UInt8.toNat_inj]
   show ¬ s[i + k].toNat = 125 ↔ _
   omega
  have a2 : s[i] = 48 ↔ z = 48:=by
   rw [← hz,← UInt8.toNat_inj]
   show s[i].toNat = 48 ↔ _
   omega
  rw [a1,a2]
 refine ⟨fun h => ?_,fun h => ?_⟩
 ·have:=point_bad _ k hn hl (e1.2 h)
  rw [hp] at this
  simp only [Prod.mk.injEq] at this
  exact this
 ·have:=point_ok _ k hn hl (fun hh => h (e1.1 hh))
  rw [hp] at this
  simp only [Prod.mk.injEq] at this
  exact ⟨by rw [this.1,hC],this.2⟩
theorem refPoint_any (s : ByteArray) (i : Nat) (c n : Nat) (e0 : Int) (w : World) (hs : s.size ≤ 2000000) (hi : i ≤ s.size) (hp : Str.point (s.data.toList.drop i) = (c,n,e0)) :
  Calls Tryz.prog 398 #[.string s,.int .i64 i] w fun e w' => e = .returned (.tuple #[.int .i64 c,.int .i64 (if e0 = 0 then i + n else 0 : Nat),.int .i64 e0]) ∧ w' = w:=by
 obtain ⟨m,hm⟩ : ∃ m,m = if e0 = 0 then i + n else 0:=⟨_,rfl⟩
 rw [← hm]
 have Hm:=kept hm
 clear hm
 have HP:=kept hp
 clear hp
 have hl : (s.data.toList.drop i).length = s.size - i:=by simp
 have Hll:=kept hl
 go_enter Tryz.func398,Tryz.ntmps398
 go_wp2
 go_loop [7,8] (fun cv nv => ∃ k : Nat,k ≤ 6 ∧ i + k ≤ s.size ∧ nv = .int .i64 k ∧ cv = .int .i64 (Str.hexC k (s.data.toList.drop i)) ∧ ∀ j,j < k → Str.isHex ((s.data.toList.drop i).getD j 0) = true) (fun _ nv => 6 - (intOf nv).toNat)
 case atStart => exact ⟨0,by omega,by omega,rfl,rfl,by omega⟩
 case round =>
  obtain ⟨k,h6,hk,rfl,rfl,hall⟩:=hrel
  have Ha:=kept hall
  clear hall hl
  by_cases hend : i + k = s.size
  ·have hp:=point_end (s.data.toList.drop i) (Str.hexN_end 6 k _ Ha.out (by have:=Hll.out; omega) h6 (.inr (.inl (by have:=Hll.out; omega))) |>.trans (by have:=Hll.out; omega))
   rw [HP.out] at hp
   simp only [Prod.mk.injEq] at hp
   obtain ⟨rfl,rfl,rfl⟩:=hp
   have hend' : (i : Int) + k = s.size:=by omega
   go_wp2
   refine bodyPost_ret (v:=.tuple #[.int .i64 0,.int .i64 0,.int .i64 40]) (by simp [results,Tryz.results398,go_sem]) rfl ⟨by rw [Hm.out]; rfl,rfl⟩
  ·have hlt : i + k < s.size:=by omega
   have hlt' : (i : Int) + k < s.size:=by omega
   have hlti : i < s.size:=by omega
   obtain ⟨u,hu⟩ : ∃ u : Int,(s[i + k].toNat : Int) = u:=⟨_,rfl⟩
   obtain ⟨z,hz⟩ : ∃ u : Int,(s[i].toNat : Int) = u:=⟨_,rfl⟩
   obtain ⟨C,hC⟩ : ∃ u : Int,((Str.hexC k (s.data.toList.drop i) : Nat) : Int) = u:=⟨_,rfl⟩
   have Hx:=kept (fun hn => point_exit s i k c n e0 u z C HP.out hn hlt hu hz hC)
   have hC0 : 0 ≤ C:=by omega
   have Hhx:=kept (fun W => refHex_any s[i + k] W)
   have Hgk:=kept (getD_drop s i k hlt)
   have HC:=kept hC
   have Hend:=kept (show k = 6 ∨ Str.isHex s[i + k] = false → Str.hexN 6 (s.data.toList.drop i) = k from fun h => Str.hexN_end 6 k _ Ha.out (by have:=Hll.out; omega) h6 (h.imp_right fun hh => .inr (by rw [Hgk.out]; exact hh)))
   rw [hu] at Hhx
   rw [hC]
   clear hend
   by_cases hk6 : k = 6
   ·subst hk6
    have Hx2:=kept (Hx.out (Hend.out (.inl rfl)))
    clear hC
    go_wp2
    all_goals (try simp only [beq_iff_eq,beq_eq_false_iff_ne,ne_eq] at *)
    all_goals
     by_cases hq : (u ≠ 125 ∨ 6 = 0 ∨ (1 < 6 ∧ z = 48) ∨ 1114111 < C ∨ (55296 ≤ C ∧ C ≤ 57343))
     ·first
      | (exfalso; omega)
      | (obtain ⟨rfl,rfl,rfl⟩:=Hx2.out.1 hq; exact bodyPost_ret (v:=.tuple #[.int .i64 0,.int .i64 0,.int .i64 2]) (by simp [results,Tryz.results398,go_sem]) rfl ⟨by rw [Hm.out]; rfl,rfl⟩)
     ·first
      | (exfalso; omega)
      | (obtain ⟨hc,rfl,rfl⟩:=Hx2.out.2 hq; exact bodyPost_ret (v:=.tuple #[.int .i64 C,.int .i64 (i + 6 + 1),.int .i64 0]) (by simp [results,Tryz.results398,go_sem]) rfl ⟨by rw [Hm.out,hc]; rfl,rfl⟩)
   ·have hk6' : (k : Int) < 6:=by omega
    by_cases hx : Str.isHex s[i + k] = true
    ·have hge : 0 ≤ Str.hexv s[i + k]:=by simpa [Str.isHex] using hx
     have hhx:=Str.hexv_le s[i + k]
     have Hs:=kept (Str.hexC_succ k (s.data.toList.drop i) (by have:=Hll.out; omega))
     have Hd:=Str.hexC_lt k (s.data.toList.drop i) (by have:=Hll.out; omega)
     have hC1 : C < 1048576:=by
      have : 16 ^ k ≤ 16 ^ 5:=Nat.pow_le_pow_right (by decide) (by omega)
      have:=HC.out
      omega
     have Hxx:=kept hx
     have Hhv:=kept (show (s.data.toList.drop i)[k]'(by have:=Hll.out; omega) = s[i + k] by simp; rfl)
     clear hx Hd hC
     go_wp2_with fail
     (with_reducible refine (Hhx.out _).mono ?_); rintro e w1 ⟨rfl,rfl⟩
     go_wp2_with fail
     (with_reducible refine (Hhx.out _).mono ?_); rintro e w1 ⟨rfl,rfl⟩
     go_wp2
     go_round
     case rel =>
      refine ⟨k + 1,by omega,by omega,by go_num,?_,?_⟩
      ·rw [Hs.out,Hhv.out]
       have:=HC.out
       congr 1
       omega
      ·intro j hj
       by_cases hjk : j = k
       ·subst hjk; rw [Hgk.out]; exact Hxx.out
       ·exact Ha.out j (by omega)
     case measure => simp [intOf]; omega
    ·have Hx2:=kept (Hx.out (Hend.out (.inr (by simpa using hx))))
     have hlz : Str.hexv s[i + k] < 0:=by simpa [Str.isHex] using hx
     clear hx hC
     go_wp2_with fail
     (with_reducible refine (Hhx.out _).mono ?_); rintro e w1 ⟨rfl,rfl⟩
     go_wp2
     all_goals (try simp only [beq_iff_eq,beq_eq_false_iff_ne,ne_eq] at *)
     all_goals
      by_cases hq : (u ≠ 125 ∨ k = 0 ∨ (1 < k ∧ z = 48) ∨ 1114111 < C ∨ (55296 ≤ C ∧ C ≤ 57343))
      ·first
       | (exfalso; omega)
       | (obtain ⟨rfl,rfl,rfl⟩:=Hx2.out.1 hq; exact bodyPost_ret (v:=.tuple #[.int .i64 0,.int .i64 0,.int .i64 2]) (by simp [results,Tryz.results398,go_sem]) rfl ⟨by rw [Hm.out]; rfl,rfl⟩)
      ·first
       | (exfalso; omega)
       | (obtain ⟨hc,rfl,rfl⟩:=Hx2.out.2 hq; exact bodyPost_ret (v:=.tuple #[.int .i64 C,.int .i64 (i + k + 1),.int .i64 0]) (by simp [results,Tryz.results398,go_sem]) rfl ⟨by rw [Hm.out,hc]; rfl,rfl⟩)
def Str.at' (i : Nat) (r : List UInt8 × Nat × Int) : List UInt8 × Nat × Int:=if r.2.2 = 0 then (r.1,i + r.2.1,0) else ([],0,r.2.2)
def Str.esc1 (l : List UInt8) : List UInt8 × Nat × Int:=if (Str.escp l).2.2 = 0 then (Str.enc (Str.escp l).1,(Str.escp l).2.1 + 1,0) else ([],0,(Str.escp l).2.2)
def TripleEnd (r : List UInt8 × Nat × Int) : Ending:=.returned (.tuple #[.string ⟨r.1.toArray⟩,.int .i64 r.2.1,.int .i64 r.2.2])
theorem Str.esc1_of {l : List UInt8} {c n : Nat} {e : Int} (h : Str.escp l = (c,n,e)) : Str.esc1 l = if e = 0 then (Str.enc c,n + 1,0) else ([],0,e):=by unfold Str.esc1; rw [h]
theorem Str.at_ok (i n : Nat) (l : List UInt8) : Str.at' i (l,n,0) = (l,i + n,0):=rfl
theorem Str.at_err (i : Nat) (e : Int) (h : e ≠ 0) : Str.at' i ([],0,e) = ([],0,e):=if_neg h
theorem Str.point_valid (l : List UInt8) (c n : Nat) (h : Str.point l = (c,n,0)) : Utf8.valid c = true:=by
 unfold Str.point at h
 split at h
 ·simp at h
 ·split at h
  ·simp at h
  ·next hh =>
   obtain ⟨h1,h2⟩:=Prod.mk.inj h
   subst h1
   simp only [not_or] at hh
   simpa using hh.2.2.2
theorem refEscaped_any (s : ByteArray) (i : Nat) (w : World) (hs : s.size ≤ 2000000) (hi : i < s.size) :
  Calls Tryz.prog 394 #[.string s,.int .i64 i] w fun e w' => e = TripleEnd (Str.at' i (Str.esc1 (s.data.toList.drop (i + 1)))) ∧ Below w.heap.size w w':=by
 by_cases h0 : s.size ≤ i + 1
 ·have Hp:=kept (show Str.at' i (Str.esc1 (s.data.toList.drop (i + 1))) = ([],0,40) by rw [List.drop_of_length_le (by simp; omega)]; rfl)
  have h0' : (s.size : Int) ≤ i + 1:=by omega
  go_enter Tryz.func394,Tryz.ntmps394
  go_wp2
  refine bodyPost_ret (v:=.tuple #[.string ⟨#[]⟩,.int .i64 0,.int .i64 40]) (by simp [results,Tryz.results394,go_sem]) rfl ⟨by rw [Hp.out]; rfl,Below.refl _ _⟩
 ·have hlt : i + 1 < s.size:=by omega
  have hlt' : (i : Int) + 1 < s.size:=by omega
  have hd : s.data.toList.drop (i + 1) = s[i + 1] :: s.data.toList.drop (i + 2):=drop_cons s (i + 1) hlt
  have hex : s.extract (i + 1) (i + 2) = ⟨#[s[i + 1]]⟩:=extract_one s (i + 1) hlt
  go_enter Tryz.func394,Tryz.ntmps394
  clear h0
  by_cases h110 : s[i + 1] = 110
  ·have Hp:=kept (show Str.at' i (Str.esc1 (s.data.toList.drop (i + 1))) = ([10],i + 2,0) by rw [hd,h110]; rfl)
   have hu : (s[i + 1].toNat : Int) = 110:=by rw [h110]; rfl
   clear hd h110 hex
   go_wp2
   refine bodyPost_ret (v:=.tuple #[.string ⟨#[10]⟩,.int .i64 (i + 2 : Nat),.int .i64 0]) (by simp [results,Tryz.results394,go_sem]) rfl ⟨by rw [Hp.out]; rfl,Below.refl _ _⟩
  have g110:=byte_ne s[i + 1] 110 (by decide) h110
  by_cases h114 : s[i + 1] = 114
  ·have Hp:=kept (show Str.at' i (Str.esc1 (s.data.toList.drop (i + 1))) = ([13],i + 2,0) by rw [hd,h114]; rfl)
   have hu : (s[i + 1].toNat : Int) = 114:=by rw [h114]; rfl
   clear hd h110 h114 hex
   go_wp2
   refine bodyPost_ret (v:=.tuple #[.string ⟨#[13]⟩,.int .i64 (i + 2 : Nat),.int .i64 0]) (by simp [results,Tryz.results394,go_sem]) rfl ⟨by rw [Hp.out]; rfl,Below.refl _ _⟩
  have g114:=byte_ne s[i + 1] 114 (by decide) h114
  by_cases h116 : s[i + 1] = 116
  ·have Hp:=kept (show Str.at' i (Str.esc1 (s.data.toList.drop (i + 1))) = ([9],i + 2,0) by rw [hd,h116]; rfl)
   have hu : (s[i + 1].toNat : Int) = 116:=by rw [h116]; rfl
   clear hd h110 h114 h116 hex
   go_wp2
   refine bodyPost_ret (v:=.tuple #[.string ⟨#[9]⟩,.int .i64 (i + 2 : Nat),.int .i64 0]) (by simp [results,Tryz.results394,go_sem]) rfl ⟨by rw [Hp.out]; rfl,Below.refl _ _⟩
  have g116:=byte_ne s[i + 1] 116 (by decide) h116
  by_cases h34 : s[i + 1] = 34
  ·have Hp:=kept (show Str.at' i (Str.esc1 (s.data.toList.drop (i + 1))) = ([34],i + 2,0) by rw [hd,h34]; rfl)
   have hu : (s[i + 1].toNat : Int) = 34:=by rw [h34]; rfl
   rw [h34] at hex
   clear hd h110 h114 h116 h34
   go_wp2
   refine bodyPost_ret (v:=.tuple #[.string ⟨#[34]⟩,.int .i64 (i + 2 : Nat),.int .i64 0]) (by simp [hex,results,Tryz.results394,go_sem]) rfl ⟨by rw [Hp.out]; rfl,Below.refl _ _⟩
  have g34:=byte_ne s[i + 1] 34 (by decide) h34
  by_cases h92 : s[i + 1] = 92
  ·have Hp:=kept (show Str.at' i (Str.esc1 (s.data.toList.drop (i + 1))) = ([92],i + 2,0) by rw [hd,h92]; rfl)
   have hu : (s[i + 1].toNat : Int) = 92:=by rw [h92]; rfl
   rw [h92] at hex
   clear hd h110 h114 h116 h34 h92
   go_wp2
   refine bodyPost_ret (v:=.tuple #[.string ⟨#[92]⟩,.int .i64 (i + 2 : Nat),.int .i64 0]) (by simp [hex,results,Tryz.results394,go_sem]) rfl ⟨by rw [Hp.out]; rfl,Below.refl _ _⟩
  have g92:=byte_ne s[i + 1] 92 (by decide) h92
  by_cases h117 : s[i + 1] = 117
  ·have He:=kept (show Str.escp (s.data.toList.drop (i + 1)) = _ by rw [hd,escp_cons,if_neg h110,if_neg h114,if_neg h116,if_neg (fun h => h.elim h34 h92),if_pos h117])
   have hu : (s[i + 1].toNat : Int) = 117:=by rw [h117]; rfl
   clear hd h117 h110 g110 h114 g114 h116 g116 h34 g34 h92 g92 hex
   by_cases h1 : s.size ≤ i + 2
   ·have Hp:=kept (show Str.at' i (Str.esc1 (s.data.toList.drop (i + 1))) = ([],0,40) by
     rw [Str.esc1_of (show Str.escp (s.data.toList.drop (i + 1)) = (0,0,40) by rw [He.out,List.drop_of_length_le (by simp; omega)])]; rfl)
    have h1' : (s.size : Int) ≤ i + 2:=by omega
    go_wp2
    refine bodyPost_ret (v:=.tuple #[.string ⟨#[]⟩,.int .i64 0,.int .i64 40]) (by simp [results,Tryz.results394,go_sem]) rfl ⟨by rw [Hp.out]; rfl,Below.refl _ _⟩
   ·have hlt1 : i + 2 < s.size:=by omega
    have hlt1' : (i : Int) + 2 < s.size:=by omega
    have hd1 : s.data.toList.drop (i + 2) = s[i + 2] :: s.data.toList.drop (i + 3):=drop_cons s (i + 2) hlt1
    by_cases h123 : s[i + 2] = 123
    ·obtain ⟨⟨q1,q2,q3⟩,hq⟩ : ∃ q,Str.point (s.data.toList.drop (i + 3)) = q:=⟨_,rfl⟩
     have he : Str.escp (s.data.toList.drop (i + 1)) = (q1,q2 + 2,q3):=by rw [He.out,hd1]; simp only; rw [if_pos h123,hq]
     have hv : (s[i + 2].toNat : Int) = 123:=by rw [h123]; rfl
     have Hx:=kept (fun W => refPoint_any s (i + 3) q1 q2 q3 W hs (by omega) hq)
     rw [show ((i + 3 : Nat) : Int) = (i : Int) + 3 by omega] at Hx
     have hle:=point_le (s.data.toList.drop (i + 3))
     rw [hq] at hle
     have h1:=Str.esc1_of he
     by_cases hq3 : q3 = 0
     ·subst hq3
      have Hval:=kept (Str.point_valid _ _ _ hq)
      have Hp:=kept (show Str.at' i (Str.esc1 (s.data.toList.drop (i + 1))) = (Str.enc q1,i + 3 + q2,0) by rw [h1,if_pos rfl,Str.at_ok]; congr 2; omega)
      have Hen:=kept (fun W => refEncode_any q1 W Hval.out)
      rw [if_pos rfl] at Hx
      clear hd1 h123 h1 hq hle he
      go_wp2_with fail
      (with_reducible refine (Hx.out _).mono ?_); rintro e w1 ⟨rfl,rfl⟩
      go_wp2_with fail
      (with_reducible refine (Hen.out _).mono ?_); rintro e w2 ⟨rfl,b2⟩
      have B2:=kept b2; clear b2
      go_wp2
      refine bodyPost_ret (v:=.tuple #[.string ⟨(Str.enc q1).toArray⟩,.int .i64 (i + 3 + q2 : Nat),.int .i64 0]) (by simp [results,Tryz.results394,go_sem]) rfl ⟨by rw [Hp.out]; rfl,B2.out⟩
     ·have Hp:=kept (show Str.at' i (Str.esc1 (s.data.toList.drop (i + 1))) = ([],0,q3) by rw [h1,if_neg hq3,Str.at_err _ _ hq3])
      rw [if_neg hq3] at Hx
      have he1 : (q3 == 0) = false:=by simpa using hq3
      have he2 : (q3 != 0) = true:=by simpa using hq3
      clear hd1 h123 h1 hq hle he
      go_wp2_with fail
      (with_reducible refine (Hx.out _).mono ?_); rintro e w1 ⟨rfl,rfl⟩
      go_wp2
      refine bodyPost_ret (v:=.tuple #[.string ⟨#[]⟩,.int .i64 0,.int .i64 q3]) (by simp [results,Tryz.results394,go_sem]) rfl ⟨by rw [Hp.out]; rfl,Below.refl _ _⟩
    ·have Hp:=kept (show Str.at' i (Str.esc1 (s.data.toList.drop (i + 1))) = ([],0,2) by
      rw [Str.esc1_of (show Str.escp (s.data.toList.drop (i + 1)) = (0,0,2) by rw [He.out,hd1]; exact if_neg h123)]; rfl)
     have hv1:=byte_ne s[i + 2] 123 (by decide) h123
     have hv2 : ((s[i + 2].toNat : Int) != 123) = true:=by simpa using hv1
     clear hd1 h123 h1
     go_wp2
     refine bodyPost_ret (v:=.tuple #[.string ⟨#[]⟩,.int .i64 0,.int .i64 2]) (by simp [results,Tryz.results394,go_sem]) rfl ⟨by rw [Hp.out]; rfl,Below.refl _ _⟩
  ·have Hp:=kept (show Str.at' i (Str.esc1 (s.data.toList.drop (i + 1))) = ([],0,2) by
    rw [Str.esc1_of (show Str.escp (s.data.toList.drop (i + 1)) = (0,0,2) by rw [hd,escp_cons,if_neg h110,if_neg h114,if_neg h116,if_neg (fun h => h.elim h34 h92),if_neg h117])]; rfl)
   have g117:=byte_ne s[i + 1] 117 (by decide) h117
   clear hd h117 h110 h114 h116 h34 h92 hex
   go_wp2
   refine bodyPost_ret (v:=.tuple #[.string ⟨#[]⟩,.int .i64 0,.int .i64 2]) (by simp [results,Tryz.results394,go_sem]) rfl ⟨by rw [Hp.out]; rfl,Below.refl _ _⟩
theorem Str.one_of_esc (l : List UInt8) (h : l.getD 0 0 = 92) : Str.one l = Str.esc1 (l.drop 1):=by
 unfold Str.one Str.esc1
 rw [if_pos h]
 by_cases hh : (Str.escp (l.drop 1)).2.2 = 0
 ·rw [if_neg (by simpa using hh),if_pos hh]
 ·rw [if_pos (by simpa using hh),if_neg hh]
theorem refOne_any (s : ByteArray) (i : Nat) (w : World) (hs : s.size ≤ 2000000) (hi : i < s.size) :
  Calls Tryz.prog 385 #[.string s,.int .i64 i] w fun e w' => e = TripleEnd (Str.at' i (Str.one (s.data.toList.drop i))) ∧ Below w.heap.size w w':=by
 have hg : (s.data.toList.drop i).getD 0 0 = s[i]:=by rw [drop_cons s i hi]; rfl
 by_cases h92 : s[i] = 92
 ·have h1:=Str.one_of_esc (s.data.toList.drop i) (by rw [hg,h92])
  rw [List.drop_drop] at h1
  rw [h1]
  obtain ⟨q,hq⟩ : ∃ q,Str.at' i (Str.esc1 (s.data.toList.drop (i + 1))) = q:=⟨_,rfl⟩
  have Hx:=kept (fun W => refEscaped_any s i W hs hi)
  rw [hq] at Hx ⊢
  obtain ⟨q1,q2,q3⟩:=q
  have hu : (s[i].toNat : Int) = 92:=by rw [h92]; rfl
  clear h1 hq hg h92
  go_enter Tryz.func385,Tryz.ntmps385
  go_wp2_with fail
  (with_reducible refine (Hx.out _).mono ?_); rintro e w1 ⟨rfl,b1⟩
  have B1:=kept b1; clear b1
  unfold TripleEnd
  go_wp2
  refine bodyPost_ret (v:=.tuple #[.string ⟨q1.toArray⟩,.int .i64 q2,.int .i64 q3]) (by simp [results,Tryz.results385,go_sem]) rfl ⟨rfl,B1.out⟩
 ·have g92:=byte_ne s[i] 92 (by decide) h92
  have hne : (s.data.toList.drop i) ≠ []:=by rw [drop_cons s i hi]; simp
  have hwd:=Str.dec_width s i hi
  rcases Str.refDec_cases s i hi with ⟨hb,he⟩ | ⟨hb,he⟩
  ·have Hp:=kept (show Str.at' i (Str.one (s.data.toList.drop i)) = ([],0,2) by
    unfold Str.one
    rw [if_neg (by rw [hg]; exact h92),if_pos (.inl (by rw [Str.decL]; exact hb))]; rfl)
   have He:=kept he
   clear hb he hg h92 hne hwd
   go_enter Tryz.func385,Tryz.ntmps385
   go_wp2_with fail
   (with_reducible refine (decode_at' _ _ 0 0 _ (by omega) He.out).mono ?_); rintro e w1 ⟨rfl,b1⟩
   have B1:=kept b1; clear b1
   go_wp2
   refine bodyPost_ret (v:=.tuple #[.string ⟨#[]⟩,.int .i64 0,.int .i64 2]) (by simp [results,Tryz.results385,go_sem]) rfl ⟨by rw [Hp.out]; rfl,B1.out⟩
  ·obtain ⟨⟨c,n⟩,hd⟩ : ∃ d,Utf8.decode s i = d:=⟨_,rfl⟩
   rw [hd] at he hb hwd
   have He:=kept he
   have hw1 : 1 ≤ n:=hwd.1
   have hw2 : i + n ≤ s.size:=hwd.2
   have hw2' : (i : Int) + n ≤ s.size:=by omega
   have hnz1 : ((n : Int) == 0) = false:=by simp; omega
   have hnz2 : ¬ (n : Int) = 0:=by omega
   obtain ⟨u,hu⟩ : ∃ u : Int,(s[i].toNat : Int) = u:=⟨_,rfl⟩
   have hone : ∀ hh : ¬ (u < 32 ∨ u = 127),Str.at' i (Str.one (s.data.toList.drop i)) = ((s.data.toList.drop i).take n,i + n,0):=by
    intro hh
    unfold Str.one
    rw [if_neg (by rw [hg]; exact h92),if_neg ?_,Str.decL,hd]
    ·rfl
    ·rw [Str.decL,hd,hg]
     rintro (h | h | h)
     ·exact hb h
     ·rw [UInt8.lt_iff_toNat_lt] at h
      have : s[i].toNat < 32:=h
      omega
     ·rw [h] at hu; exact hh (.inr hu.symm)
   have hbad : (u < 32 ∨ u = 127) → Str.at' i (Str.one (s.data.toList.drop i)) = ([],0,2):=by
    intro hh
    unfold Str.one
    rw [if_neg (by rw [hg]; exact h92),if_pos ?_]
    ·rfl
    ·rw [hg]
     right
     rcases hh with h | h
     ·left; rw [UInt8.lt_iff_toNat_lt]; show s[i].toNat < 32; omega
     ·right; rw [← UInt8.toNat_inj]; show s[i].toNat = 127; omega
   have hxt : s.extract i (i + n) = ⟨((s.data.toList.drop i).take n).toArray⟩:=by
    refine str_of ?_
    simp only [ByteArray.data_extract,Array.toList_extract,List.extract_eq_take_drop]
    congr 1; omega
   have Hone:=kept hone; have Hbad:=kept hbad
   clear hb he hg h92 hne hwd hone hbad hd hw2
   rw [hu] at g92
   by_cases h32 : u < 32
   ·have Hp:=kept (Hbad.out (.inl h32))
    clear hxt
    go_enter Tryz.func385,Tryz.ntmps385
    go_wp2_with fail
    (with_reducible refine (decode_at' _ _ c n _ (by omega) He.out).mono ?_); rintro e w1 ⟨rfl,b1⟩
    have B1:=kept b1; clear b1
    go_wp2
    refine bodyPost_ret (v:=.tuple #[.string ⟨#[]⟩,.int .i64 0,.int .i64 2]) (by simp [results,Tryz.results385,go_sem]) rfl ⟨by rw [Hp.out]; rfl,B1.out⟩
   ·by_cases h127 : u = 127
    ·have Hp:=kept (Hbad.out (.inr h127))
     have h127a : (u == 127) = true:=by simpa using h127
     clear hxt h127
     go_enter Tryz.func385,Tryz.ntmps385
     go_wp2_with fail
     (with_reducible refine (decode_at' _ _ c n _ (by omega) He.out).mono ?_); rintro e w1 ⟨rfl,b1⟩
     have B1:=kept b1; clear b1
     go_wp2
     refine bodyPost_ret (v:=.tuple #[.string ⟨#[]⟩,.int .i64 0,.int .i64 2]) (by simp [results,Tryz.results385,go_sem]) rfl ⟨by rw [Hp.out]; rfl,B1.out⟩
    ·have Hp:=kept (Hone.out (by omega))
     have h127a : (u == 127) = false:=by simpa using h127
     generalize (s.data.toList.drop i).take n = t at *
     go_enter Tryz.func385,Tryz.ntmps385
     go_wp2_with fail
     (with_reducible refine (decode_at' _ _ c n _ (by omega) He.out).mono ?_); rintro e w1 ⟨rfl,b1⟩
     have B1:=kept b1; clear b1
     go_wp2
     refine bodyPost_ret (v:=.tuple #[.string ⟨t.toArray⟩,.int .i64 (i + n : Nat),.int .i64 0]) (by simp [hxt,results,Tryz.results385,go_sem]) rfl ⟨by rw [Hp.out]; rfl,B1.out⟩
theorem Str.one_len (s : ByteArray) (k : Nat) (hk : k < s.size) (b : List UInt8) (n : Nat) (h : Str.one (s.data.toList.drop k) = (b,n,(0 : Int))) : 1 ≤ n ∧ k + n ≤ s.size ∧ b.length ≤ 4:=by
 have hlen : (s.data.toList.drop k).length = s.size - k:=by simp
 unfold Str.one at h
 split at h
 ·split at h
  ·next hh =>
   exfalso
   have:=congrArg (fun r => r.2.2) h
   simp only at this
   exact hh this
  ·next hh =>
   have hl:=Str.escp_len ((s.data.toList.drop k).drop 1) (by simpa using hh)
   obtain ⟨rfl,h2⟩:=Prod.mk.inj h
   obtain ⟨rfl,_⟩:=Prod.mk.inj h2
   have:=(Str.enc_length (Str.escp ((s.data.toList.drop k).drop 1)).1).2
   rw [List.length_drop,hlen] at hl
   exact ⟨by omega,by omega,this⟩
 ·split at h
  ·simp at h
  ·next hh =>
   have hwd:=Str.dec_width s k hk
   rw [← Str.decL] at hwd
   have hd4 : (Lib.decodeL (s.data.toList.drop k)).2 ≤ 4:=by
    rw [Lib.decodeL_N]
    rcases Lib.decodeN_shape (s.data.toList.drop k).length ((s.data.toList.drop k).getD 0 0).toNat ((s.data.toList.drop k).getD 1 0).toNat ((s.data.toList.drop k).getD 2 0).toNat ((s.data.toList.drop k).getD 3 0).toNat with ⟨c,e⟩ | ⟨c1,c2,c3,cv,e⟩ | ⟨c1,c2,c3,c4,cv,cs,e⟩ | ⟨c1,c2,c3,c4,c5,cv,cw,e⟩ | e
    all_goals rw [e]; simp
   obtain ⟨rfl,h2⟩:=Prod.mk.inj h
   obtain ⟨rfl,_⟩:=Prod.mk.inj h2
   refine ⟨hwd.1,hwd.2,?_⟩
   rw [List.length_take]; omega
theorem triple_ok (l : List UInt8) (n : Nat) (e : Int) : TripleEnd (l,n,e) = .returned (.tuple #[.string ⟨l.toArray⟩,.int .i64 n,.int .i64 e]):=rfl
theorem refUnquote_any (s : ByteArray) (w : World) (hs : s.size ≤ 2000000) :
  Calls Tryz.prog 369 #[.string s] w fun e w' => e = TripleEnd (Str.unquote s.data.toList) ∧ Below w.heap.size w w':=by
 obtain ⟨U,hU⟩ : ∃ U,Str.unquote s.data.toList = U:=⟨_,rfl⟩
 rw [hU]
 by_cases h0 : s.size = 0
 ·have hs : s = ⟨#[]⟩:=by
   apply ByteArray.ext; exact Array.eq_empty_of_size_eq_zero h0
  subst hs
  have HU:=kept (show (([],0,40) : List UInt8 × Nat × Int) = U from hU)
  clear hU
  go_enter Tryz.func369,Tryz.ntmps369
  go_wp2
  refine bodyPost_ret (v:=.tuple #[.string ⟨#[]⟩,.int .i64 0,.int .i64 40]) (by simp [results,Tryz.results369,go_sem]) rfl ⟨by rw [← HU.out]; rfl,Below.refl _ _⟩
 ·have hlt : 0 < s.size:=by omega
  have hd : s.data.toList = s[0] :: s.data.toList.drop 1:=by have:=drop_cons s 0 hlt; simpa using this
  have hne : s.data.toList ≠ []:=by rw [hd]; simp
  have hg0 : s.data.toList.getD 0 0 = s[0]:=by rw [hd]; rfl
  have h00 : ((s.size : Int) == 0) = false:=by rw [beq_eq_false_iff_ne]; omega
  unfold Str.unquote at hU
  rw [if_neg hne,hg0] at hU
  clear h0 hd hne hg0
  by_cases h34 : s[0] = 34
  ·rw [if_neg (by simpa using h34)] at hU
   have HU:=kept hU
   have hu : (s[0].toNat : Int) = 34:=by rw [h34]; rfl
   clear hU h34
   go_enter Tryz.func369,Tryz.ntmps369
   go_wp2
   go_loopw [5,6] (fun ov av wr => Below w.heap.size w wr ∧ ∃ (k f : Nat) (acc : List UInt8),1 ≤ k ∧ k ≤ s.size ∧ av = .int .i64 k ∧ ov = .string ⟨acc.toArray⟩ ∧ s.size - k < f ∧ acc.length ≤ 4 * k ∧ Str.unq f (s.data.toList.drop k) acc k = U) (fun _ av _ => s.size - (intOf av).toNat)
   case atStart => exact ⟨Below.refl _ _,1,s.data.toList.length,[],by omega,by omega,rfl,rfl,by simp; omega,by simp,HU.out⟩
   case round =>
    obtain ⟨hbel,k,f,acc,hk1,hk,rfl,rfl,hf,hacc,hun⟩:=hrel
    have Hl:=kept hbel
    clear hbel
    obtain ⟨f,rfl⟩ : ∃ f',f = f' + 1:=⟨f - 1,by omega⟩
    by_cases hend : k = s.size
    ·subst hend
     rw [List.drop_of_length_le (by simp),Str.unq_nil] at hun
     subst hun
     clear hacc hf
     go_wp2
     refine bodyPost_ret (v:=.tuple #[.string ⟨#[]⟩,.int .i64 0,.int .i64 40]) (by simp [results,Tryz.results369,go_sem]) rfl ⟨rfl,Hl.out⟩
    ·have hkl : k < s.size:=by omega
     have hkl' : (k : Int) < s.size:=by omega
     have hne : s.data.toList.drop k ≠ []:=by rw [drop_cons s k hkl]; simp
     have hgk : (s.data.toList.drop k).getD 0 0 = s[k]:=by rw [drop_cons s k hkl]; rfl
     by_cases h34k : s[k] = 34
     ·rw [Str.unq_quote _ _ _ _ hne (by rw [hgk]; exact h34k)] at hun
      have hv : (s[k].toNat : Int) = 34:=by rw [h34k]; rfl
      have hsz:=size_mk acc
      clear hne hgk h34k hf
      by_cases hbig : 4096 < acc.length
      ·rw [if_pos hbig] at hun
       subst hun
       have hbig' : (4096 : Int) < acc.length:=by omega
       clear hbig hacc hend
       go_wp2
       refine bodyPost_ret (v:=.tuple #[.string ⟨#[]⟩,.int .i64 0,.int .i64 3]) (by simp [results,Tryz.results369,go_sem]) rfl ⟨rfl,Hl.out⟩
      ·rw [if_neg hbig] at hun
       subst hun
       have hbig' : ¬ (4096 : Int) < acc.length:=by omega
       clear hbig hacc hend
       go_wp2
       refine bodyPost_ret (v:=.tuple #[.string ⟨acc.toArray⟩,.int .i64 (k + 1 : Nat),.int .i64 0]) (by simp [results,Tryz.results369,go_sem]) rfl ⟨rfl,Hl.out⟩
     ·have hvk1:=byte_ne s[k] 34 (by decide) h34k
      rw [← hgk] at h34k
      obtain ⟨⟨b,n,e0⟩,ho⟩ : ∃ r,Str.one (s.data.toList.drop k) = r:=⟨_,rfl⟩
      have Hx:=kept (fun W => refOne_any s k W hs hkl)
      by_cases he0 : e0 = 0
      ·subst he0
       have hln:=Str.one_len s k hkl b n ho
       rw [Str.unq_step _ _ _ _ _ _ hne h34k ho,List.drop_drop] at hun
       rw [ho,Str.at_ok,triple_ok] at Hx
       have Hun:=kept hun
       obtain ⟨r,hr⟩ : ∃ r,acc ++ b = r:=⟨_,rfl⟩
       have hcat:=fun W => run_cat3 (P:=Tryz.prog) W (a:=⟨acc.toArray⟩) (b:=⟨b.toArray⟩) (l:=acc) (m:=b) rfl rfl hr (by rw [← hr,List.length_append]; omega)
       have Hr:=kept hr
       have hln1 : 1 ≤ n:=hln.1
       have hln2 : k + n ≤ s.size:=hln.2.1
       have Hln3:=kept (show r.length ≤ 4 * (k + n) by rw [← hr,List.length_append]; omega)
       clear hne hgk h34k hun ho hr hln hacc
       go_wp2_with fail
       refine (Hx.out _).mono ?_; rintro e w1 ⟨rfl,b1⟩
       have B1:=kept (bthen Hl.out b1); clear b1
       go_wp2
       go_roundw
       case rel => exact ⟨B1.out,k + n,f,r,by omega,by omega,by go_num,rfl,by omega,Hln3.out,by rw [← Hr.out]; exact Hun.out⟩
       case measure => simp [intOf]; omega
      ·rw [Str.unq_err _ _ _ _ _ _ _ hne h34k ho he0] at hun
       subst hun
       have hob : b = [] ∧ n = 0:=by
        have h:=ho
        unfold Str.one at h
        split at h
        ·split at h
         ·obtain ⟨rfl,h2⟩:=Prod.mk.inj h
          obtain ⟨rfl,_⟩:=Prod.mk.inj h2
          exact ⟨rfl,rfl⟩
         ·exact absurd (Prod.mk.inj (Prod.mk.inj h).2).2.symm he0
        ·split at h
         ·obtain ⟨rfl,h2⟩:=Prod.mk.inj h
          obtain ⟨rfl,_⟩:=Prod.mk.inj h2
          exact ⟨rfl,rfl⟩
         ·exact absurd (Prod.mk.inj (Prod.mk.inj h).2).2.symm he0
       obtain ⟨rfl,rfl⟩:=hob
       rw [ho,Str.at_err _ _ he0,triple_ok] at Hx
       have he1 : (e0 == 0) = false:=by simpa using he0
       have he2 : (e0 != 0) = true:=by simpa using he0
       clear hne hgk h34k hf hacc ho
       go_wp2_with fail
       refine (Hx.out _).mono ?_; rintro e w1 ⟨rfl,b1⟩
       have B1:=kept (bthen Hl.out b1); clear b1
       go_wp2
       refine bodyPost_ret (v:=.tuple #[.string ⟨#[]⟩,.int .i64 0,.int .i64 e0]) (by simp [results,Tryz.results369,go_sem]) rfl ⟨rfl,B1.out⟩
  ·rw [if_pos h34] at hU
   have HU:=kept hU
   have g34:=byte_ne s[0] 34 (by decide) h34
   have g34' : ((s[0].toNat : Int) != 34) = true:=by simpa using g34
   clear h34 hU
   go_enter Tryz.func369,Tryz.ntmps369
   go_wp2
   refine bodyPost_ret (v:=.tuple #[.string ⟨#[]⟩,.int .i64 0,.int .i64 2]) (by simp [results,Tryz.results369,go_sem]) rfl ⟨by rw [← HU.out]; rfl,Below.refl _ _⟩
namespace Wire
end Wire
namespace Val
end Val
namespace AX
theorem Gs.grow {E : TypeId} {W : Nat} {t : List (TypeId × Nat × Nat)} {W1 : Nat} {o1 : Own} {rows : List (List A)} (hg : Gs E W 0 ⟨[],t⟩ rows (.sl W1 o1 rows)) (bytes : Nat) (y : List A) (h1 : rows.length + 1 ≤ 1000000000) (h2 : bytes ≤ 1000) :
  ∃ W' o' t',(∀ b,appA ⟨b,t⟩ E W bytes (.sl W1 o1 rows) (.sl W .no [y]) = some (.sl W' o' (rows ++ [y]),⟨b,t'⟩)) ∧ Gs E W 0 ⟨[],t'⟩ (rows ++ [y]) (.sl W' o' (rows ++ [y])) ∧ (∀ (E' : TypeId) (W' : Nat) (rows' : List (List A)) (x'' : A),E' ≠ E → Gs E' W' 0 ⟨[],t⟩ rows' x'' → Gs E' W' 0 ⟨[],t'⟩ rows' x''):=by
 obtain ⟨x',t',k1,k2,k3,k4,k5⟩:=hg.app (Nat.zero_le _) bytes y h1 h2
 obtain ⟨W',o',rfl⟩:=(k2 []).sl
 exact ⟨W',o',t',k1,k2 [],fun E' W' rows' x'' hne hg' => Gs.keep hg' fun k n hh => k5 k _ _ _ hne hh⟩
end AX
end Go.Proofs.YtknnodgbhpbgjaaGreatDoor

namespace Go.Proofs.YtknnodgbhpbgjaaGreatDoor
namespace Sf
structure Rs where
 r : Wire.St
 bad : Bool
def Rs.fails (s : Rs) : Bool:=s.bad || s.r.e != 0
def numS (s : Rs) : Rs × Int:=(⟨(Wire.numR s.r).1,s.bad⟩,(Wire.numR s.r).2)
def strS (s : Rs) : Rs × List UInt8:=(⟨(Wire.strR s.r).1,s.bad⟩,(Wire.strR s.r).2)
def cntS (s : Rs) : Rs × Nat:=(⟨(Wire.cntR s.r 1).1,s.bad⟩,(Wire.cntR s.r 1).2)
def flagS (s : Rs) : Rs × Bool:=
 let q:=Wire.numR s.r
 (⟨q.1,s.bad || (q.2 != 0 && q.2 != 1)⟩,q.2 == 1)
def valueS (s : Rs) : Rs × V:=
 let x:=Val.readValue s.r
 (⟨x.1,s.bad || x.2.1 != 0⟩,x.2.2)
def wordsS : Nat → Rs → List (List UInt8) → Rs × List (List UInt8)
 | 0,s,l => (s,l)
 | c + 1,s,l => wordsS c (strS s).1 (l ++ [(strS s).2])
def instS (ver : Int) (s : Rs) : Rs × Inst:=
 let a:=strS s
 let b:=strS a.1
 let c:=strS b.1
 let d:=strS c.1
 let v:=valueS d.1
 let n:=numS v.1
 let t:=flagS n.1
 let f:=if ver = 2 then flagS t.1 else (t.1,false)
 let k:=cntS f.1
 let w:=wordsS k.2 k.1 []
 (w.1,⟨a.2,b.2,c.2,d.2,v.2,n.2,t.2,f.2,w.2⟩)
def pendS (s : Rs) : Rs × Pend:=
 let a:=strS s
 let b:=strS a.1
 let c:=strS b.1
 (c.1,⟨a.2,b.2,c.2⟩)
def outS (s : Rs) : Rs × Outp:=
 let a:=strS s
 let v:=valueS a.1
 let f:=flagS v.1
 (f.1,⟨a.2,v.2,f.2⟩)
def instsS (ver : Int) : Nat → Rs → List Inst → Rs × List Inst × Bool
 | 0,s,l => (s,l,true)
 | c + 1,s,l => if s.fails then (s,l,false) else instsS ver c (instS ver s).1 (l ++ [(instS ver s).2])
def pendsS : Nat → Rs → List Pend → Rs × List Pend
 | 0,s,l => (s,l)
 | c + 1,s,l => pendsS c (pendS s).1 (l ++ [(pendS s).2])
def outsS : Nat → Rs → List Outp → Rs × List Outp × Bool
 | 0,s,l => (s,l,true)
 | c + 1,s,l => if s.fails then (s,l,false) else outsS c (outS s).1 (l ++ [(outS s).2])
def stateS (ver : Int) (s : Rs) : Rs × St:=
 let a:=strS s
 let n:=numS a.1
 let ci:=cntS n.1
 let i:=instsS ver ci.2 ci.1 []
 if i.2.2 = false then (i.1,⟨a.2,n.2,i.2.1,[],[]⟩)
 else
  let p:=if ver = 2 then pendsS (cntS i.1).2 (cntS i.1).1 [] else (i.1,[])
  let co:=cntS p.1
  let o:=outsS co.2 co.1 []
  (o.1,⟨a.2,n.2,i.2.1,p.2,o.2.1⟩)
end Sf
end Go.Proofs.YtknnodgbhpbgjaaGreatDoor

namespace Go.Proofs.YtknnodgbhpbgjaaGreatDoor
open Go.RowKit
namespace Sf
def Inst.cells : Inst → List AX.A
 | ⟨a,d,i,t,.mk k n s is ks,v,tn,fi,ds⟩ => [.str a,.str d,.str i,.str t,.int .i64 k,.int .i64 n,.str s,.sl 5 .no (V.cellss is),.sl 1 .no (strsA ks),.int .i64 v,.bool tn,.bool fi,.sl 1 .no (strsA ds)]
def Pend.cells (p : Pend) : List AX.A:=[.str p.addr,.str p.typ,.str p.tok]
def Outp.cells : Outp → List AX.A
 | ⟨m,.mk k n s is ks,b⟩ => [.str m,.int .i64 k,.int .i64 n,.str s,.sl 5 .no (V.cellss is),.sl 1 .no (strsA ks),.bool b]
def St.A (s : St) : AX.A:=.agg [.str s.lin,.int .i64 s.ser,.sl 13 .no (s.insts.map Inst.cells),.sl 3 .no (s.pends.map Pend.cells),.sl 7 .no (s.outs.map Outp.cells)]
end Sf
namespace Val
end Val
namespace Sf
end Sf
namespace AX
end AX
namespace Sf
end Sf
namespace AX
theorem wtr_loc (ver : Int) (l : List UInt8) : (wtr ver l).loc 0:=by
 intro o x h
 simp only [wtr] at h
 split at h
 ·injection h with h; subst h; rfl
 ·cases h
theorem liftW {f : FuncId} {args : List A} {ver : Int} {l l' : List UInt8} (hl' : l' ≠ []) (hc : ACall Tryz.prog GT f (.ptr 0 0 :: args) ⟨[wtr ver l],[]⟩ fun u h' => u = .tup [] ∧ WP 0 ver l' ⟨[wtr ver l],[]⟩ h') (ha : A.locL 0 args = true) {h : Hp} {i : Nat} (hb : h.b[i]? = some (wtr ver l)) :
  ACall Tryz.prog GT f (.ptr i 0 :: args) h fun u h' => u = .tup [] ∧ h' = ⟨h.b.set i (wtr ver l'),h.t⟩:=by
 have h1 : ACall Tryz.prog GT f (.ptr 0 0 :: args) ⟨[wtr ver l],[]⟩ fun u h' => ∃ b',h'.b[0]? = some b' ∧ u = .tup [] ∧ b' = wtr ver l':=hc.mono fun u h' ⟨e,hp⟩ => ⟨wtr ver l',WP.bx hp hl',e,rfl⟩
 refine (ACall.lift1 h1 ha (wtr_loc ver l) ?_ hb).mono ?_
 ·rintro u b' ⟨rfl,rfl⟩
  exact ⟨rfl,wtr_loc ver l'⟩
 ·rintro u h' ⟨b',⟨rfl,rfl⟩,rfl⟩
  exact ⟨rfl,rfl⟩
theorem num_ne (n : Int) : Wire.num n ≠ []:=by
 have:=(Wire.encF_len 9 (Wire.zig n)).1
 intro e
 have h : (Wire.num n).length = 0:=by rw [e]; rfl
 unfold Wire.num at h
 omega
theorem app_ne {a b : List UInt8} (h : b ≠ []) : a ++ b ≠ []:=by simp [h]
theorem strE_ne (s : List UInt8) : Wire.strE s ≠ []:=by
 unfold Wire.strE
 intro e
 exact num_ne _ (List.append_eq_nil_iff.1 e).1
theorem wn {h : Hp} {i : Nat} {ver : Int} {l : List UInt8} (hb : h.b[i]? = some (wtr ver l)) (n : Int) (hlen : l.length + 10 ≤ 1000000000) (h0 : -9223372036854775808 ≤ n) (h1 : n ≤ 9223372036854775807) :
  ACall Tryz.prog GT 223 [.ptr i 0,.int .i64 n] h fun u h' => u = .tup [] ∧ h' = ⟨h.b.set i (wtr ver (l ++ Wire.num n)),h.t⟩:=
 liftW (app_ne (num_ne n)) (a_wnum (h:=⟨[wtr ver l],[]⟩) (.inl rfl) n hlen h0 h1) rfl hb
theorem wt {h : Hp} {i : Nat} {ver : Int} {l : List UInt8} (hb : h.b[i]? = some (wtr ver l)) (s : List UInt8) (hlen : l.length + s.length + 10 ≤ 1000000000) :
  ACall Tryz.prog GT 224 [.ptr i 0,.str s] h fun u h' => u = .tup [] ∧ h' = ⟨h.b.set i (wtr ver (l ++ Wire.strE s)),h.t⟩:=
 liftW (app_ne (strE_ne s)) (a_wtext (h:=⟨[wtr ver l],[]⟩) (.inl rfl) s hlen) rfl hb
theorem wv {h : Hp} {i : Nat} {ver : Int} {l : List UInt8} (hb : h.b[i]? = some (wtr ver l)) (v : V) (hz : ∃ lv b,(Val.chk v lv b).1 = 0) (hlen : l.length + (Val.enc v).length + 10 ≤ 1000000000) (hv : v.lens) :
  ACall Tryz.prog GT 140 [.ptr i 0,v.A] h fun u h' => u = .tup [] ∧ h' = ⟨h.b.set i (wtr ver (l ++ Val.enc v)),h.t⟩:=
 liftW (app_ne (enc_ne v)) (t_value v 0 ver l ⟨[wtr ver l],[]⟩ (.inl rfl) hz hlen hv) (by obtain ⟨k,n,s,is,ks⟩:=v; rfl) hb
theorem wf {h : Hp} {i : Nat} {ver : Int} {l : List UInt8} (hb : h.b[i]? = some (wtr ver l)) (b : Bool) (hlen : l.length + 10 ≤ 1000000000) :
  ACall Tryz.prog GT 226 [.ptr i 0,.bool b] h fun u h' => u = .tup [] ∧ h' = ⟨h.b.set i (wtr ver (l ++ Sf.flagE b)),h.t⟩:=by
 refine fo ?_
 cases b
 ·refine run0 ti ?_
  refine use (wn hb _ hlen (by decide) (by decide)) ?_
  refine run0 ti ?_
  exact ⟨_,le_refl _,rfl,rfl⟩
 ·refine run0 ti ?_
  refine use (wn hb _ hlen (by decide) (by decide)) ?_
  refine run0 ti ?_
  exact ⟨_,le_refl _,rfl,rfl⟩
structure Sf.InstOk (x : Sf.Inst) : Prop where
 z : ∃ lv b,(Val.chk x.attrs lv b).1 = 0
 lens : x.attrs.lens
 v0 : -9223372036854775808 ≤ x.ver
 v1 : x.ver ≤ 9223372036854775807
theorem strE_le (s : List UInt8) : s.length ≤ (Wire.strE s).length:=by unfold Wire.strE; rw [List.length_append]; omega
theorem words_snoc (ds : List (List UInt8)) (j : Nat) (hj : j < ds.length) : Sf.wordsE (ds.take (j + 1)) = Sf.wordsE (ds.take j) ++ Wire.strE ds[j]:=by
 unfold Sf.wordsE
 rw [List.take_succ_eq_append_getElem hj,List.flatMap_append]; simp
theorem words_take_le (ds : List (List UInt8)) (j : Nat) : (Sf.wordsE (ds.take j)).length ≤ (Sf.wordsE ds).length:=by
 have : Sf.wordsE ds = Sf.wordsE (ds.take j) ++ Sf.wordsE (ds.drop j):=by unfold Sf.wordsE; rw [← List.flatMap_append,List.take_append_drop]
 rw [this,List.length_append]; omega
theorem w_inst {ver : Int} (hver : ver = 1 ∨ ver = 2) (x : Sf.Inst) (hx : Sf.InstOk x) (l : List UInt8) (hlen : l.length + (Sf.instE ver x).length + 20 ≤ 1000000000) {h : Hp} {i : Nat} (hb : h.b[i]? = some (wtr ver l)) :
  ACall Tryz.prog GT 225 [.ptr i 0,.agg x.cells] h fun u h' => u = .tup [] ∧ h' = ⟨h.b.set i (wtr ver (l ++ Sf.instE ver x)),h.t⟩:=by
 have key : ACall Tryz.prog GT 225 [.ptr 0 0,.agg x.cells] ⟨[wtr ver l],[]⟩ fun u h' => ∃ b',h'.b[0]? = some b' ∧ u = .tup [] ∧ b' = wtr ver (l ++ Sf.instE ver x):=by
  have hz:=hx.z
  have hl:=hx.lens
  have v0:=hx.v0
  have v1:=hx.v1
  obtain ⟨a,d,id,ty,⟨k,n,s,is,ks⟩,v,tn,fi,ds⟩:=x
  have hE : Sf.instE ver ⟨a,d,id,ty,.mk k n s is ks,v,tn,fi,ds⟩ = Wire.strE a ++ Wire.strE d ++ Wire.strE id ++ Wire.strE ty ++ Val.enc (.mk k n s is ks) ++ Wire.num v ++ Sf.flagE tn ++ (if ver = 2 then Sf.flagE fi else []) ++ Wire.num ds.length ++ Sf.wordsE ds:=rfl
  rw [hE] at hlen ⊢
  have la:=strE_le a
  have lb:=strE_le d
  have lc:=strE_le id
  have ld:=strE_le ty
  have hVA : (V.mk k n s is ks).A = .agg [.int .i64 k,.int .i64 n,.str s,.sl 5 .no (V.cellss is),.sl 1 .no (strsA ks)]:=by simp only [V.A,V.cells]
  have cv:=fun (m : List UInt8) (h : Hp) (hb : h.b[0]? = some (wtr ver m)) (hm : m.length + (Val.enc (.mk k n s is ks)).length + 10 ≤ 1000000000) => wv hb (.mk k n s is ks) hz hm hl
  rw [hVA] at cv
  simp only [List.length_append] at hlen
  obtain ⟨F,hF⟩ : ∃ F,(if ver = 2 then Sf.flagE fi else []) = F:=⟨_,rfl⟩
  rw [hF] at hlen ⊢
  have hdl : ds.length ≤ 1000000000:=by
   have : ∀ l : List (List UInt8),l.length ≤ (Sf.wordsE l).length:=by
    intro l
    induction l with
    | nil => simp
    | cons x l ih =>
     have h1 : Sf.wordsE (x :: l) = Wire.strE x ++ Sf.wordsE l:=by simp [Sf.wordsE]
     have h2 : (Wire.strE x).length ≠ 0:=fun e => strE_ne x (List.length_eq_zero_iff.1 e)
     rw [h1,List.length_append,List.length_cons]; omega
   have:=this ds; omega
  refine fo ?_
  dsimp only [Sf.Inst.cells]
  refine run0 ti ?_
  refine use (wt rfl a (by omega)) ?_
  refine run0 ti ?_
  refine use (wt rfl d (by simp only [List.length_append]; omega)) ?_
  refine run0 ti ?_
  refine use (wt rfl id (by simp only [List.length_append]; omega)) ?_
  refine run0 ti ?_
  refine use (wt rfl ty (by simp only [List.length_append]; omega)) ?_
  refine run0 ti ?_
  refine use (cv _ _ rfl (by simp only [List.length_append]; omega)) ?_
  refine run0 ti ?_
  refine use (wn rfl v (by simp only [List.length_append]; omega) v0 v1) ?_
  refine run0 ti ?_
  refine use (wf rfl tn (by simp only [List.length_append]; omega)) ?_
  have hv12 : ∀ {G : Prop},((ver == 2) = false → F = [] → G) → ((ver == 2) = true → F = Sf.flagE fi → G) → G:=fun p q => by
   rcases hver with rfl | rfl
   ·rw [if_neg (by decide)] at hF; exact p rfl hF.symm
   ·rw [if_pos rfl] at hF; exact q rfl hF.symm
  refine hv12 (fun e2 eF => ?_) (fun e2 eF => ?_)
  all_goals subst eF
  ·refine run0 (ai @wtr_ (ai e2 @strsA_length)) ?_
   refine use (wn rfl _ (by simp only [List.length_append]; omega) (by omega) (by omega)) ?_
   refine run0 @strsA_length ?_
   refine awp_loop (fun mm ts h => ∃ j : Nat,mm = ds.length - j ∧ j ≤ ds.length ∧ h = ⟨[wtr ver (l ++ Wire.strE a ++ Wire.strE d ++ Wire.strE id ++ Wire.strE ty ++ Val.enc (.mk k n s is ks) ++ Wire.num v ++ Sf.flagE tn ++ Wire.num ds.length ++ Sf.wordsE (ds.take j)),.cells 76 [.str a,.str d,.str id,.str ty,.int .i64 k,.int .i64 n,.str s,.sl 5 .no (V.cellss is),.sl 1 .no (strsA ks),.int .i64 v,.bool tn,.bool fi,.sl 1 .no (strsA ds)]],[]⟩ ∧ ts 0 = .ptr 0 0 ∧ ts 49 = .sl 1 .no (strsA ds) ∧ ts 50 = .int .i64 (ds.length : Nat) ∧ ts 51 = .int .i64 (j : Nat)) ds.length ?_ ?_
   ·exact ⟨0,by omega,by omega,by simp only [Sf.wordsE,List.take_zero,List.flatMap_nil,List.append_nil],by (exact ev0 ti),by (exact ev0 ti),by (exact ev0 @strsA_length),by (exact inv0 ti)⟩
   ·rintro mm ts h ⟨j,rfl,hjc,rfl,t0,t49,t50,t51⟩
    by_cases hj : j < ds.length
    ·have hlt : (j : Int) < (ds.length : Int):=by omega
     have ei : IntKind.i64.wrap ((j : Int) + 1) = ((j + 1 : Nat) : Int):=by rw [wrap64 (by omega) (by omega)]; omega
     have hg:=strsA_get ds j hj
     have hlt' : (j : Int) < ((strsA ds).length : Int):=by rw [strsA_length]; exact hlt
     have hj0 : (0 : Int) ≤ (j : Int):=by omega
     have ht:=words_take_le ds (j + 1)
     rw [words_snoc ds j hj,List.length_append] at ht
     have hsl:=strE_le ds[j]
     refine run0 (ai t0 (ai t49 (ai t50 (ai t51 (ai hlt (ai hg (ai hlt' hj0))))))) ?_
     refine use (wt rfl ds[j] (by simp only [List.length_append]; omega)) ?_
     refine run0 (ai t0 (ai t49 (ai t50 (ai t51 ei)))) ?_
     exact ⟨ds.length - (j + 1),by omega,j + 1,rfl,by omega,by rw [words_snoc ds j hj]; simp only [List.append_assoc],by (exact ev0 t0),by (exact ev0 t49),by (exact ev0 t50),by (exact ev0 ei)⟩
    ·have hlt : ¬ ((j : Int) < (ds.length : Int)):=by omega
     have hjl : j = ds.length:=by omega
     subst hjl
     refine run0 (ai t0 (ai t49 (ai t50 (ai t51 hlt)))) ?_
     exact ⟨_,le_refl _,_,rfl,rfl,by simp only [List.take_length,List.append_assoc,List.nil_append]⟩
  ·refine run0 (ai @wtr_ e2) ?_
   refine use (wf rfl fi (by simp only [List.length_append]; omega)) ?_
   refine run0 @strsA_length ?_
   refine use (wn rfl _ (by simp only [List.length_append]; omega) (by omega) (by omega)) ?_
   refine run0 @strsA_length ?_
   refine awp_loop (fun mm ts h => ∃ j : Nat,mm = ds.length - j ∧ j ≤ ds.length ∧ h = ⟨[wtr ver (l ++ Wire.strE a ++ Wire.strE d ++ Wire.strE id ++ Wire.strE ty ++ Val.enc (.mk k n s is ks) ++ Wire.num v ++ Sf.flagE tn ++ Sf.flagE fi ++ Wire.num ds.length ++ Sf.wordsE (ds.take j)),.cells 76 [.str a,.str d,.str id,.str ty,.int .i64 k,.int .i64 n,.str s,.sl 5 .no (V.cellss is),.sl 1 .no (strsA ks),.int .i64 v,.bool tn,.bool fi,.sl 1 .no (strsA ds)]],[]⟩ ∧ ts 0 = .ptr 0 0 ∧ ts 49 = .sl 1 .no (strsA ds) ∧ ts 50 = .int .i64 (ds.length : Nat) ∧ ts 51 = .int .i64 (j : Nat)) ds.length ?_ ?_
   ·exact ⟨0,by omega,by omega,by simp only [Sf.wordsE,List.take_zero,List.flatMap_nil,List.append_nil],by (exact ev0 ti),by (exact ev0 ti),by (exact ev0 @strsA_length),by (exact inv0 ti)⟩
   ·rintro mm ts h ⟨j,rfl,hjc,rfl,t0,t49,t50,t51⟩
    by_cases hj : j < ds.length
    ·have hlt : (j : Int) < (ds.length : Int):=by omega
     have ei : IntKind.i64.wrap ((j : Int) + 1) = ((j + 1 : Nat) : Int):=by rw [wrap64 (by omega) (by omega)]; omega
     have hg:=strsA_get ds j hj
     have hlt' : (j : Int) < ((strsA ds).length : Int):=by rw [strsA_length]; exact hlt
     have hj0 : (0 : Int) ≤ (j : Int):=by omega
     have ht:=words_take_le ds (j + 1)
     rw [words_snoc ds j hj,List.length_append] at ht
     have hsl:=strE_le ds[j]
     refine run0 (ai t0 (ai t49 (ai t50 (ai t51 (ai hlt (ai hg (ai hlt' hj0))))))) ?_
     refine use (wt rfl ds[j] (by simp only [List.length_append]; omega)) ?_
     refine run0 (ai t0 (ai t49 (ai t50 (ai t51 ei)))) ?_
     exact ⟨ds.length - (j + 1),by omega,j + 1,rfl,by omega,by rw [words_snoc ds j hj]; simp only [List.append_assoc],by (exact ev0 t0),by (exact ev0 t49),by (exact ev0 t50),by (exact ev0 ei)⟩
    ·have hlt : ¬ ((j : Int) < (ds.length : Int)):=by omega
     have hjl : j = ds.length:=by omega
     subst hjl
     refine run0 (ai t0 (ai t49 (ai t50 (ai t51 hlt)))) ?_
     exact ⟨_,le_refl _,_,rfl,rfl,by simp only [List.take_length,List.append_assoc,List.nil_append]⟩
 refine (ACall.lift1 key (by obtain ⟨a,d,id,ty,⟨k,n,s,is,ks⟩,v,tn,fi,ds⟩:=x; rfl) (wtr_loc ver l) ?_ hb).mono ?_
 ·rintro u b' ⟨rfl,rfl⟩
  exact ⟨rfl,wtr_loc _ _⟩
 ·rintro u h' ⟨b',⟨rfl,rfl⟩,rfl⟩
  exact ⟨rfl,rfl⟩
theorem fm_snoc {α : Type} (f : α → List UInt8) (l : List α) (j : Nat) (hj : j < l.length) : (l.take (j + 1)).flatMap f = (l.take j).flatMap f ++ f l[j]:=by
 rw [List.take_succ_eq_append_getElem hj,List.flatMap_append]; simp
theorem fm_le {α : Type} (f : α → List UInt8) (l : List α) (j : Nat) : ((l.take j).flatMap f).length ≤ (l.flatMap f).length:=by
 have : l.flatMap f = (l.take j).flatMap f ++ (l.drop j).flatMap f:=by rw [← List.flatMap_append,List.take_append_drop]
 rw [this,List.length_append]; omega
theorem map_getD {α : Type} (f : α → List A) (l : List α) (j : Nat) (hj : j < l.length) : (l.map f).getD j [] = f l[j]:=by simp [List.getD,hj]
structure Sf.StOk (s : Sf.St) : Prop where
 insts : ∀ x ∈ s.insts,Sf.InstOk x
 outs : ∀ x ∈ s.outs,(∃ lv b,(Val.chk x.value lv b).1 = 0) ∧ x.value.lens
 ser0 : -9223372036854775808 ≤ s.ser
 ser1 : s.ser ≤ 9223372036854775807
 li : s.insts.length ≤ 1000000000
 lp : s.pends.length ≤ 1000000000
 lo : s.outs.length ≤ 1000000000
theorem w_state {ver : Int} (hver : ver = 1 ∨ ver = 2) (st : Sf.St) (ok : Sf.StOk st) (hlen : (Sf.stE ver st).length + 20 ≤ 1000000000) :
  ACall Tryz.prog GT 141 [.ptr 0 0,st.A] ⟨[.cells 199 [.nilp,.sl 0 .nil [],.int .i64 ver]],[]⟩ fun u h' => ∃ b',h'.b[0]? = some b' ∧ u = .tup [] ∧ b' = wtr ver (Sf.stE ver st):=by
 obtain ⟨lin,ser,ins,ps,os⟩:=st
 have s0 : -9223372036854775808 ≤ ser:=ok.ser0
 have s1 : ser ≤ 9223372036854775807:=ok.ser1
 have li : ins.length ≤ 1000000000:=ok.li
 have lp : ps.length ≤ 1000000000:=ok.lp
 have lo : os.length ≤ 1000000000:=ok.lo
 have hml : magic.length = 4:=rfl
 have lm1 : (ins.map Sf.Inst.cells).length = ins.length:=List.length_map _
 have lm2 : (ps.map Sf.Pend.cells).length = ps.length:=List.length_map _
 have lm3 : (os.map Sf.Outp.cells).length = os.length:=List.length_map _
 obtain ⟨F,hF⟩ : ∃ F,(if ver = 2 then Wire.num ps.length ++ ps.flatMap Sf.pendE else []) = F:=⟨_,rfl⟩
 have hE : Sf.stE ver ⟨lin,ser,ins,ps,os⟩ = magic ++ Wire.num ver ++ Wire.strE lin ++ Wire.num ser ++ Wire.num ins.length ++ ins.flatMap (Sf.instE ver) ++ F ++ Wire.num os.length ++ os.flatMap Sf.outE:=by rw [← hF]; rfl
 rw [hE] at hlen
 simp only [List.length_append,hml] at hlen
 have k0:=strE_le lin
 have hv12 : ∀ {G : Prop},((ver == 2) = false → F = [] → G) → ((ver == 2) = true → F = Wire.num ps.length ++ ps.flatMap Sf.pendE → G) → G:=fun p q => by
  rcases hver with rfl | rfl
  ·rw [if_neg (by decide)] at hF; exact p rfl hF.symm
  ·rw [if_pos rfl] at hF; exact q rfl hF.symm
 have hv1 : 1 ≤ ver ∧ ver ≤ 2:=by omega
 refine fo ?_
 dsimp only [Sf.St.A]
 refine run0 ti ?_
 refine use (a_write (.inr ⟨rfl,rfl⟩) magic (by simp only [List.length_nil,hml]; decide)) ?_
 refine run0 @wtr_ ?_
 refine use (wn (i:=0) (ver:=ver) (l:=magic) rfl ver (by simp only [List.length_append,hml]; omega) (by omega) (by omega)) ?_
 refine run0 ti ?_
 refine use (wt rfl lin (by simp only [List.length_append,hml]; omega)) ?_
 refine run0 ti ?_
 refine use (wn rfl ser (by simp only [List.length_append,hml]; omega) s0 s1) ?_
 refine run0 (ai lm1 (ai lm2 lm3)) ?_
 refine use (wn rfl _ (by simp only [List.length_append,hml]; omega) (by omega) (by omega)) ?_
 refine run0 (ai lm1 (ai lm2 lm3)) ?_
 refine awp_loop (fun mm ts h => ∃ (j : Nat) (l : List Blk),mm = ins.length - j ∧ j ≤ ins.length ∧ h = ⟨wtr ver (magic ++ Wire.num ver ++ Wire.strE lin ++ Wire.num ser ++ Wire.num ins.length ++ (ins.take j).flatMap (Sf.instE ver)) :: .cells 26 [.str lin,.int .i64 ser,.sl 13 .no (ins.map Sf.Inst.cells),.sl 3 .no (ps.map Sf.Pend.cells),.sl 7 .no (os.map Sf.Outp.cells)] :: l,[]⟩ ∧ ts 0 = .ptr 0 0 ∧ ts 3 = .ptr 1 0 ∧ ts 34 = .sl 13 .no (ins.map Sf.Inst.cells) ∧ ts 35 = .int .i64 (ins.length : Nat) ∧ ts 36 = .int .i64 (j : Nat)) ins.length ?_ ?_
 ·exact ⟨0,[],by omega,by omega,by simp only [List.take_zero,List.flatMap_nil,List.append_nil],by (exact ev0 ti),by (exact ev0 ti),by (exact ev0 ti),by (exact ev0 (ai lm1 (ai lm2 lm3))),by (exact inv0 ti)⟩
 ·rintro mm ts h ⟨j,l,rfl,hjc,rfl,t0,t3,ta,tb,tc⟩
  by_cases hj : j < ins.length
  ·have hlt : (j : Int) < (ins.length : Int):=by omega
   have hlt' : (j : Int) < ((ins.map Sf.Inst.cells).length : Int):=by rw [List.length_map]; exact hlt
   have hj0 : (0 : Int) ≤ (j : Int):=by omega
   have ei : IntKind.i64.wrap ((j : Int) + 1) = ((j + 1 : Nat) : Int):=by rw [wrap64 (by omega) (by omega)]; omega
   have hs:=fm_snoc (Sf.instE ver) ins j hj
   have ht:=fm_le (Sf.instE ver) ins (j + 1)
   have hg:=map_getD Sf.Inst.cells ins j hj
   have hm:=List.getElem_mem hj
   have hok:=ok.insts _ hm
   obtain ⟨x,hx⟩ : ∃ x,ins[j] = x:=⟨_,rfl⟩
   rw [hx] at hs hg hok
   rw [hs,List.length_append] at ht
   have cw:=fun (m : List UInt8) (h : Hp) (hb : h.b[0]? = some (wtr ver m)) (hm : m.length + (Sf.instE ver x).length + 20 ≤ 1000000000) => w_inst hver x hok m hm hb
   obtain ⟨a,d,id,ty,⟨k,n,s,is,ks⟩,v,tn,fi,ds⟩:=x
   simp only [Sf.Inst.cells] at hg cw
   refine run0 (ai t0 (ai t3 (ai ta (ai tb (ai tc (ai hlt (ai hg (ai hlt' hj0)))))))) ?_
   refine use (cw _ _ rfl (by simp only [List.length_append,hml]; omega)) ?_
   refine run0 (ai t0 (ai t3 (ai ta (ai tb (ai tc ei))))) ?_
   exact ⟨ins.length - (j + 1),by omega,j + 1,l ++ [.cells 76 [.str a,.str d,.str id,.str ty,.int .i64 k,.int .i64 n,.str s,.sl 5 .no (V.cellss is),.sl 1 .no (strsA ks),.int .i64 v,.bool tn,.bool fi,.sl 1 .no (strsA ds)]],rfl,by omega,by rw [hs]; simp only [List.append_assoc],by (exact ev0 t0),by (exact ev0 t3),by (exact ev0 ta),by (exact ev0 tb),by (exact ev0 ei)⟩
  ·have hlt : ¬ ((j : Int) < (ins.length : Int)):=by omega
   have hjl : j = ins.length:=by omega
   subst hjl
   rw [List.take_length]
   refine hv12 (fun e2 eF => ?_) (fun e2 eF => ?_)
   all_goals subst eF
   all_goals first | (simp only [List.length_append] at hlen) | skip
   ·refine run0 (ai t0 (ai t3 (ai ta (ai tb (ai tc (ai hlt (ai @wtr_ (ai e2 (ai lm1 (ai lm2 lm3)))))))))) ?_
    refine use (wn (i:=0) (ver:=ver) (l:=magic ++ Wire.num ver ++ Wire.strE lin ++ Wire.num ser ++ Wire.num ins.length ++ ins.flatMap (Sf.instE ver)) rfl _ (by simp only [List.length_append,hml]; omega) (by omega) (by omega)) ?_
    refine run0 (ai t0 (ai t3 (ai lm1 (ai lm2 lm3)))) ?_
    refine awp_loop (fun mm ts h => ∃ (j : Nat) (l : List Blk),mm = os.length - j ∧ j ≤ os.length ∧ h = ⟨wtr ver (magic ++ Wire.num ver ++ Wire.strE lin ++ Wire.num ser ++ Wire.num ins.length ++ ins.flatMap (Sf.instE ver) ++ Wire.num os.length ++ (os.take j).flatMap Sf.outE) :: .cells 26 [.str lin,.int .i64 ser,.sl 13 .no (ins.map Sf.Inst.cells),.sl 3 .no (ps.map Sf.Pend.cells),.sl 7 .no (os.map Sf.Outp.cells)] :: l,[]⟩ ∧ ts 0 = .ptr 0 0 ∧ ts 3 = .ptr 1 0 ∧ ts 80 = .sl 7 .no (os.map Sf.Outp.cells) ∧ ts 81 = .int .i64 (os.length : Nat) ∧ ts 82 = .int .i64 (j : Nat)) os.length ?_ ?_
    ·exact ⟨0,l,by omega,by omega,by simp only [List.take_zero,List.flatMap_nil,List.append_nil],by (exact ev0 t0),by (exact ev0 t3),by (exact ev0 (ai t0 t3)),by (exact ev0 (ai t0 (ai t3 (ai lm1 (ai lm2 lm3))))),by (exact inv0 (ai t0 t3))⟩
    ·rintro mm ts h ⟨j,l,rfl,hjc,rfl,t0,t3,ta,tb,tc⟩
     by_cases hj : j < os.length
     ·have hlt : (j : Int) < (os.length : Int):=by omega
      have hlt' : (j : Int) < ((os.map Sf.Outp.cells).length : Int):=by rw [List.length_map]; exact hlt
      have hj0 : (0 : Int) ≤ (j : Int):=by omega
      have ei : IntKind.i64.wrap ((j : Int) + 1) = ((j + 1 : Nat) : Int):=by rw [wrap64 (by omega) (by omega)]; omega
      have hs:=fm_snoc Sf.outE os j hj
      have ht:=fm_le Sf.outE os (j + 1)
      have hg:=map_getD Sf.Outp.cells os j hj
      have hm:=List.getElem_mem hj
      have hok:=ok.outs _ hm
      obtain ⟨x,hx⟩ : ∃ x,os[j] = x:=⟨_,rfl⟩
      rw [hx] at hs hg hok
      rw [hs,List.length_append] at ht
      obtain ⟨m,⟨k,n,s,is,ks⟩,b⟩:=x
      have hVA : (V.mk k n s is ks).A = .agg [.int .i64 k,.int .i64 n,.str s,.sl 5 .no (V.cellss is),.sl 1 .no (strsA ks)]:=by simp only [V.A,V.cells]
      have cv:=fun (m : List UInt8) (h : Hp) (hb : h.b[0]? = some (wtr ver m)) (hm : m.length + (Val.enc (.mk k n s is ks)).length + 10 ≤ 1000000000) => wv hb (.mk k n s is ks) hok.1 hm hok.2
      rw [hVA] at cv
      simp only [Sf.Outp.cells] at hg
      simp only [Sf.outE] at hs ht
      simp only [List.length_append] at ht
      have k1:=strE_le m
      refine run0 (ai t0 (ai t3 (ai ta (ai tb (ai tc (ai hlt (ai hg (ai hlt' hj0)))))))) ?_
      refine use (wt rfl m (by simp only [List.length_append,hml]; omega)) ?_
      refine run0 (ai t0 (ai t3 (ai ta (ai tb tc)))) ?_
      refine use (cv _ _ rfl (by simp only [List.length_append,hml]; omega)) ?_
      refine run0 (ai t0 (ai t3 (ai ta (ai tb tc)))) ?_
      refine use (wf rfl b (by simp only [List.length_append,hml]; omega)) ?_
      refine run0 (ai t0 (ai t3 (ai ta (ai tb (ai tc ei))))) ?_
      exact ⟨os.length - (j + 1),by omega,j + 1,l ++ [.cells 136 [.str m,.int .i64 k,.int .i64 n,.str s,.sl 5 .no (V.cellss is),.sl 1 .no (strsA ks),.bool b]],rfl,by omega,by rw [hs]; simp only [List.append_assoc],by (exact ev0 t0),by (exact ev0 t3),by (exact ev0 ta),by (exact ev0 tb),by (exact ev0 ei)⟩
     ·have hlt : ¬ ((j : Int) < (os.length : Int)):=by omega
      have hjl : j = os.length:=by omega
      subst hjl
      rw [List.take_length]
      refine run0 (ai t0 (ai t3 (ai ta (ai tb (ai tc hlt))))) ?_
      exact ⟨_,le_refl _,_,rfl,rfl,by rw [hE]; simp only [List.append_assoc,List.nil_append]⟩
   ·refine run0 (ai t0 (ai t3 (ai ta (ai tb (ai tc (ai hlt (ai @wtr_ (ai e2 (ai lm1 (ai lm2 lm3)))))))))) ?_
    refine use (wn (i:=0) (ver:=ver) (l:=magic ++ Wire.num ver ++ Wire.strE lin ++ Wire.num ser ++ Wire.num ins.length ++ ins.flatMap (Sf.instE ver)) rfl _ (by simp only [List.length_append,hml]; omega) (by omega) (by omega)) ?_
    refine run0 (ai t0 (ai t3 (ai lm1 (ai lm2 lm3)))) ?_
    refine awp_loop (fun mm ts h => ∃ (j : Nat) (l : List Blk),mm = ps.length - j ∧ j ≤ ps.length ∧ h = ⟨wtr ver (magic ++ Wire.num ver ++ Wire.strE lin ++ Wire.num ser ++ Wire.num ins.length ++ ins.flatMap (Sf.instE ver) ++ Wire.num ps.length ++ (ps.take j).flatMap Sf.pendE) :: .cells 26 [.str lin,.int .i64 ser,.sl 13 .no (ins.map Sf.Inst.cells),.sl 3 .no (ps.map Sf.Pend.cells),.sl 7 .no (os.map Sf.Outp.cells)] :: l,[]⟩ ∧ ts 0 = .ptr 0 0 ∧ ts 3 = .ptr 1 0 ∧ ts 55 = .sl 3 .no (ps.map Sf.Pend.cells) ∧ ts 56 = .int .i64 (ps.length : Nat) ∧ ts 57 = .int .i64 (j : Nat)) ps.length ?_ ?_
    ·exact ⟨0,l,by omega,by omega,by simp only [List.take_zero,List.flatMap_nil,List.append_nil],by (exact ev0 t0),by (exact ev0 t3),by (exact ev0 (ai t0 t3)),by (exact ev0 (ai t0 (ai t3 (ai lm1 (ai lm2 lm3))))),by (exact inv0 (ai t0 t3))⟩
    ·rintro mm ts h ⟨j,l,rfl,hjc,rfl,t0,t3,ta,tb,tc⟩
     by_cases hj : j < ps.length
     ·have hlt : (j : Int) < (ps.length : Int):=by omega
      have hlt' : (j : Int) < ((ps.map Sf.Pend.cells).length : Int):=by rw [List.length_map]; exact hlt
      have hj0 : (0 : Int) ≤ (j : Int):=by omega
      have ei : IntKind.i64.wrap ((j : Int) + 1) = ((j + 1 : Nat) : Int):=by rw [wrap64 (by omega) (by omega)]; omega
      have hs:=fm_snoc Sf.pendE ps j hj
      have ht:=fm_le Sf.pendE ps (j + 1)
      have hg:=map_getD Sf.Pend.cells ps j hj
      have hm:=List.getElem_mem hj
      obtain ⟨x,hx⟩ : ∃ x,ps[j] = x:=⟨_,rfl⟩
      rw [hx] at hs hg
      rw [hs,List.length_append] at ht
      simp only [Sf.Pend.cells] at hg
      simp only [Sf.pendE] at hs ht
      simp only [List.length_append] at ht
      have k1:=strE_le x.addr
      have k2:=strE_le x.typ
      have k3:=strE_le x.tok
      refine run0 (ai t0 (ai t3 (ai ta (ai tb (ai tc (ai hlt (ai hg (ai hlt' hj0)))))))) ?_
      refine use (wt rfl x.addr (by simp only [List.length_append,hml]; omega)) ?_
      refine run0 (ai t0 (ai t3 (ai ta (ai tb tc)))) ?_
      refine use (wt rfl x.typ (by simp only [List.length_append,hml]; omega)) ?_
      refine run0 (ai t0 (ai t3 (ai ta (ai tb tc)))) ?_
      refine use (wt rfl x.tok (by simp only [List.length_append,hml]; omega)) ?_
      refine run0 (ai t0 (ai t3 (ai ta (ai tb (ai tc ei))))) ?_
      exact ⟨ps.length - (j + 1),by omega,j + 1,l ++ [.cells 134 [.str x.addr,.str x.typ,.str x.tok]],rfl,by omega,by rw [hs]; simp only [List.append_assoc],by (exact ev0 t0),by (exact ev0 t3),by (exact ev0 ta),by (exact ev0 tb),by (exact ev0 ei)⟩
     ·have hlt : ¬ ((j : Int) < (ps.length : Int)):=by omega
      have hjl : j = ps.length:=by omega
      subst hjl
      rw [List.take_length]
      refine run0 (ai t0 (ai t3 (ai ta (ai tb (ai tc (ai hlt (ai lm1 (ai lm2 lm3)))))))) ?_
      refine use (wn rfl _ (by simp only [List.length_append,hml]; omega) (by omega) (by omega)) ?_
      refine run0 (ai t0 (ai t3 (ai lm1 (ai lm2 lm3)))) ?_
      refine awp_loop (fun mm ts h => ∃ (j : Nat) (l : List Blk),mm = os.length - j ∧ j ≤ os.length ∧ h = ⟨wtr ver (magic ++ Wire.num ver ++ Wire.strE lin ++ Wire.num ser ++ Wire.num ins.length ++ ins.flatMap (Sf.instE ver) ++ Wire.num ps.length ++ ps.flatMap Sf.pendE ++ Wire.num os.length ++ (os.take j).flatMap Sf.outE) :: .cells 26 [.str lin,.int .i64 ser,.sl 13 .no (ins.map Sf.Inst.cells),.sl 3 .no (ps.map Sf.Pend.cells),.sl 7 .no (os.map Sf.Outp.cells)] :: l,[]⟩ ∧ ts 0 = .ptr 0 0 ∧ ts 3 = .ptr 1 0 ∧ ts 80 = .sl 7 .no (os.map Sf.Outp.cells) ∧ ts 81 = .int .i64 (os.length : Nat) ∧ ts 82 = .int .i64 (j : Nat)) os.length ?_ ?_
      ·exact ⟨0,l,by omega,by omega,by simp only [List.take_zero,List.flatMap_nil,List.append_nil],by (exact ev0 t0),by (exact ev0 t3),by (exact ev0 (ai t0 t3)),by (exact ev0 (ai t0 (ai t3 (ai lm1 (ai lm2 lm3))))),by (exact inv0 (ai t0 t3))⟩
      ·rintro mm ts h ⟨j,l,rfl,hjc,rfl,t0,t3,ta,tb,tc⟩
       by_cases hj : j < os.length
       ·have hlt : (j : Int) < (os.length : Int):=by omega
        have hlt' : (j : Int) < ((os.map Sf.Outp.cells).length : Int):=by rw [List.length_map]; exact hlt
        have hj0 : (0 : Int) ≤ (j : Int):=by omega
        have ei : IntKind.i64.wrap ((j : Int) + 1) = ((j + 1 : Nat) : Int):=by rw [wrap64 (by omega) (by omega)]; omega
        have hs:=fm_snoc Sf.outE os j hj
        have ht:=fm_le Sf.outE os (j + 1)
        have hg:=map_getD Sf.Outp.cells os j hj
        have hm:=List.getElem_mem hj
        have hok:=ok.outs _ hm
        obtain ⟨x,hx⟩ : ∃ x,os[j] = x:=⟨_,rfl⟩
        rw [hx] at hs hg hok
        rw [hs,List.length_append] at ht
        obtain ⟨m,⟨k,n,s,is,ks⟩,b⟩:=x
        have hVA : (V.mk k n s is ks).A = .agg [.int .i64 k,.int .i64 n,.str s,.sl 5 .no (V.cellss is),.sl 1 .no (strsA ks)]:=by simp only [V.A,V.cells]
        have cv:=fun (m : List UInt8) (h : Hp) (hb : h.b[0]? = some (wtr ver m)) (hm : m.length + (Val.enc (.mk k n s is ks)).length + 10 ≤ 1000000000) => wv hb (.mk k n s is ks) hok.1 hm hok.2
        rw [hVA] at cv
        simp only [Sf.Outp.cells] at hg
        simp only [Sf.outE] at hs ht
        simp only [List.length_append] at ht
        have k1:=strE_le m
        refine run0 (ai t0 (ai t3 (ai ta (ai tb (ai tc (ai hlt (ai hg (ai hlt' hj0)))))))) ?_
        refine use (wt rfl m (by simp only [List.length_append,hml]; omega)) ?_
        refine run0 (ai t0 (ai t3 (ai ta (ai tb tc)))) ?_
        refine use (cv _ _ rfl (by simp only [List.length_append,hml]; omega)) ?_
        refine run0 (ai t0 (ai t3 (ai ta (ai tb tc)))) ?_
        refine use (wf rfl b (by simp only [List.length_append,hml]; omega)) ?_
        refine run0 (ai t0 (ai t3 (ai ta (ai tb (ai tc ei))))) ?_
        exact ⟨os.length - (j + 1),by omega,j + 1,l ++ [.cells 136 [.str m,.int .i64 k,.int .i64 n,.str s,.sl 5 .no (V.cellss is),.sl 1 .no (strsA ks),.bool b]],rfl,by omega,by rw [hs]; simp only [List.append_assoc],by (exact ev0 t0),by (exact ev0 t3),by (exact ev0 ta),by (exact ev0 tb),by (exact ev0 ei)⟩
       ·have hlt : ¬ ((j : Int) < (os.length : Int)):=by omega
        have hjl : j = os.length:=by omega
        subst hjl
        rw [List.take_length]
        refine run0 (ai t0 (ai t3 (ai ta (ai tb (ai tc hlt))))) ?_
        exact ⟨_,le_refl _,_,rfl,rfl,by rw [hE]; simp only [List.append_assoc,List.nil_append]⟩
theorem a_stext (s : List UInt8) (hs : s.length ≤ 2000000) (h : Hp) : ACall Tryz.prog GT 158 [.str s] h fun r h' => r = .bool (s != [] && Str.valid s) ∧ h' = h:=by
 refine pcall ?_ rfl (by simp [A.pure,A.data]) h
 refine fo ?_
 rcases bool_or (s != []) with h1 | h1
 ·refine go0 h1 ?_
  refine gc0 h1 ?_
  refine (a_valid s hs _).mono ?_
  rintro v h1' ⟨rfl,rfl⟩
  refine go0 h1 ?_
  exact ⟨_,le_refl _,by rw [tupA_1,h1]; rfl⟩
 ·refine go0 h1 ?_
  exact ⟨_,le_refl _,by rw [tupA_1,h1]; rfl⟩
theorem a_csAppend (s : List UInt8) (hs : s.length ≤ 1000000000) (h : Hp) : ACall Tryz.prog GT 113 [.str s] h fun v h' => v = .str (Crc.app s) ∧ h' = h:=
 acall_imp (args1 r_str) (fun w hg => append_any ⟨s.toArray⟩ w (by rw [size_mk]; exact hs)) (fun C => rep_str.2 rfl) h
theorem a_csVerify (s : List UInt8) (hs : s.length ≤ 1000000000) (h : Hp) : ACall Tryz.prog GT 79 [.str s] h fun v h' => v = .tup [.str (Crc.ver s).1,.int .i64 (Crc.ver s).2] ∧ h' = h:=
 acall_imp (args1 r_str) (fun w hg => verify_any ⟨s.toArray⟩ w (by rw [size_mk]; exact hs)) (fun C => rep_tup.2 ⟨_,rfl,repL_cons.2 ⟨_,_,rfl,rep_str.2 rfl,repL_cons.2 ⟨_,_,rfl,rep_int.2 rfl,repL_nil.2 rfl⟩⟩⟩) h
def stE : A:=.agg [.str [],.int .i64 0,.sl 0 .nil [],.sl 0 .nil [],.sl 0 .nil []]
end AX
end Go.Proofs.YtknnodgbhpbgjaaGreatDoor
