/- Part of what the proof needs. -/
import Derived.Test.YteklhoajalgehaaGreatDoorMFrJournalChecksUptoL
import Derived.Test.YteklhoajalgehaaGreatDoorMFrJournalChecksUptoM
import Derived.Test.YteklhoajalgehaaGreatDoorMFrJournalChecksUptoO
import Derived.Test.YteklhoajalgehaaGreatDoorMFrJournalChecksUptoP
import Derived.Test.YteklhoajalgehaaGreatDoorMFrJournalChecksUptoQ
set_option maxHeartbeats 4000000
set_option linter.unusedSimpArgs false
set_option linter.unusedVariables false
set_option linter.unnecessarySimpa false
namespace Go.Proofs.YteklhoajalgehaaGreatDoor
open Go.RowKit
namespace AX
theorem row_at6 {α : Type} (f : α → List A) (l : List α) (i : Nat) (h : i < l.length) (hl : l.length ≤ 4611686018427387904) :
  (l.map f).length = l.length ∧ (i : Int) < (l.length : Int) ∧ (0 : Int) ≤ (i : Int) ∧ (l.map f).getD i [] = f l[i] ∧ IntKind.i64.wrap ((i : Int) + 1) = ((i + 1 : Nat) : Int):=
 ⟨List.length_map _,by omega,by omega,map_getD f l i h,by rw [wrap64 (by omega) (by omega)]; omega⟩
theorem a_r6check (a : Adr.Ad) (hi : Adr.In a) (h : Hp) : ACall Tryz.prog GT 324 [.agg a.cells] h fun r h' => r = .int .i64 (Adr.check a) ∧ h' = h:=by
 obtain ⟨mods,data,ty,nm,⟨ka,kb,kc⟩⟩:=a
 obtain ⟨hn,hm,ht,ha,hk⟩:=hi
 dsimp only at hn hm ht ha hk
 obtain ⟨q,hq⟩ : ∃ q,Adr.check ⟨mods,data,ty,nm,⟨ka,kb,kc⟩⟩ = q:=⟨_,rfl⟩
 rw [hq]
 unfold Adr.check at hq
 dsimp only at hq
 refine pcall ?_ rfl (by simp [A.pure,A.data,Adr.Ad.cells]) h
 refine fo ?_
 dsimp only [Adr.Ad.cells]
 have lm : (mods.map Adr.Step.cells).length = mods.length:=List.length_map _
 by_cases h16 : 16 < mods.length
 ·have e1 : (mods.length : Int) > 16:=by omega
  rw [if_pos h16] at hq
  subst hq
  refine runx0 (ai lm e1) ti ?_
  exact ⟨_,le_refl _,rfl⟩
 have e1 : ¬ (mods.length : Int) > 16:=by omega
 rw [if_neg h16] at hq
 refine runx0 (ai lm e1) ti ?_
 refine awp_loop (fun m ts hh => hh = ⟨[.cells 224 [.sl 4 .no (mods.map Adr.Step.cells),.bool data,.str ty,.str nm,.int .i64 ka,.int .i64 kb,.str kc]],[]⟩ ∧ ∃ j : Nat,m = mods.length - j ∧ j ≤ mods.length ∧ (mods.drop j).find? (fun s => !(Adr.ident s.name && Adr.keyOk s.key)) = mods.find? (fun s => !(Adr.ident s.name && Adr.keyOk s.key)) ∧ (ts 1 = .ptr 0 0 ∧ ts 3 = .int .i64 (j : Nat))) mods.length ?_ ?_
 ·exact ⟨rfl,0,rfl,Nat.zero_le _,rfl,by (exact inv0 ti)⟩
 rintro m ts hh ⟨rfl,j,rfl,hj,hfd,hu⟩
 rcases Nat.lt_or_ge j mods.length with hlt | hge
 ·have hf:=row_at6 Adr.Step.cells mods j hlt (by omega)
  have hmj:=hm _ (List.getElem_mem hlt)
  rw [List.drop_eq_getElem_cons hlt,List.find?_cons] at hfd
  obtain ⟨x,hx⟩ : ∃ x,mods[j] = x:=⟨_,rfl⟩
  rw [hx] at hf hmj hfd
  obtain ⟨xn,⟨ja,jb,jc⟩⟩:=x
  dsimp only [Adr.Step.cells] at hf hmj hfd
  have ci:=a_r6ident xn hmj.1
  have ck:=a_r6Key ⟨ja,jb,jc⟩ hmj.2
  dsimp only at ck
  cases hI : Adr.ident xn with
  | false =>
   rw [hI] at ci hfd
   simp only [Bool.false_and,Bool.not_false] at hfd
   rw [← hfd] at hq
   dsimp only at hq
   rw [if_neg (by rw [hI]; decide)] at hq
   subst hq
   refine runx0 (ai hu hf) (ai ci ti) ?_
   exact ⟨_,le_refl _,rfl⟩
  | true =>
  rw [hI] at ci hfd
  cases hK : Adr.keyOk ⟨ja,jb,jc⟩ with
  | false =>
   rw [hK] at ck hfd
   simp only [Bool.and_false,Bool.not_false] at hfd
   rw [← hfd] at hq
   dsimp only at hq
   rw [if_pos hI] at hq
   subst hq
   refine runx0 (ai hu hf) (ai ci (ai ck ti)) ?_
   exact ⟨_,le_refl _,rfl⟩
  | true =>
   rw [hK] at ck hfd
   simp only [Bool.and_true,Bool.not_true] at hfd
   refine runx0 (ai hu hf) (ai ci (ai ck ti)) ?_
   exact ⟨_,by omega,rfl,j + 1,rfl,by omega,hfd,by (exact inv0 (ai hu hf))⟩
 ·have hf:=ai lm (show ¬ (j : Int) < (mods.length : Int) by omega)
  rw [List.drop_of_length_le hge] at hfd
  rw [← hfd] at hq
  simp only [List.find?_nil] at hq
  have ci:=a_r6ident ty ht
  have cr:=a_r6res ty
  have ci2:=a_r6ident nm ha
  have ck:=a_r6Key ⟨ka,kb,kc⟩ hk
  dsimp only at ck
  have hkb : Adr.kindB ty = (!Adr.reserved ty && Adr.ident ty):=rfl
  rw [hkb] at hq
  cases hI : Adr.ident ty with
  | false =>
   rw [hI] at ci hq
   simp only [Bool.and_false,Bool.not_false,Bool.true_or,if_true] at hq
   subst hq
   refine runx0 (ai hu hf) (ai ci ti) ?_
   exact ⟨_,le_refl _,rfl⟩
  | true =>
  rw [hI] at ci hq
  cases hR : Adr.reserved ty with
  | true =>
   rw [hR] at cr hq
   simp only [Bool.not_true,Bool.false_and,Bool.not_false,Bool.true_or,if_true] at hq
   subst hq
   refine runx0 (ai hu hf) (ai ci (ai cr ti)) ?_
   exact ⟨_,le_refl _,rfl⟩
  | false =>
  rw [hR] at cr hq
  cases hN : Adr.ident nm with
  | false =>
   rw [hN] at ci2 hq
   simp only [Bool.not_false,Bool.true_and,Bool.not_true,Bool.false_or,if_true] at hq
   subst hq
   refine runx0 (ai hu hf) (ai ci (ai cr (ai ci2 ti))) ?_
   exact ⟨_,le_refl _,rfl⟩
  | true =>
  rw [hN] at ci2 hq
  simp only [Bool.not_false,Bool.true_and,Bool.not_true,Bool.false_or,Bool.false_eq_true,if_false] at hq
  cases hK : Adr.keyOk ⟨ka,kb,kc⟩ with
  | false =>
   rw [hK] at ck hq
   simp only [Bool.not_false,if_true] at hq
   subst hq
   refine runx0 (ai hu hf) (ai ci (ai cr (ai ci2 (ai ck ti)))) ?_
   exact ⟨_,le_refl _,rfl⟩
  | true =>
   rw [hK] at ck hq
   simp only [Bool.not_true,Bool.false_eq_true,if_false] at hq
   subst hq
   refine runx0 (ai hu hf) (ai ci (ai cr (ai ci2 (ai ck ti)))) ?_
   exact ⟨_,le_refl _,rfl⟩
theorem a_r6bare (a : Adr.Ad) (hn : a.mods.length ≤ 3000000) (h : Hp) : ACall Tryz.prog GT 297 [.agg a.cells] h fun r h' => r = .agg (Adr.bare a).cells ∧ h' = h:=by
 obtain ⟨mods,data,ty,nm,⟨ka,kb,kc⟩⟩:=a
 dsimp only at hn
 refine pcall ?_ (by simp [A.pure,A.data,Adr.Ad.cells]) (by simp [A.pure,A.data,Adr.Ad.cells]) h
 refine fo ?_
 dsimp only [Adr.Ad.cells,Adr.bare,Adr.K.none]
 have lm : (mods.map Adr.Step.cells).length = mods.length:=List.length_map _
 refine runx0 lm ti ?_
 refine awp_loop (fun m ts hh => ∃ (j W : Nat) (o : Own) (t : List (TypeId × Nat × Nat)),m = mods.length - j ∧ j ≤ mods.length ∧
  hh = ⟨[.cells 224 [.sl 4 .no (mods.map Adr.Step.cells),.bool data,.str ty,.str nm,.int .i64 ka,.int .i64 kb,.str kc],.cells 224 [.sl 0 .nil [],.bool false,.str [],.str [],.int .i64 0,.int .i64 0,.str []],.cells 224 [.sl W o (((mods.take j).map fun s => (⟨s.name,Adr.K.none⟩ : Adr.Step)).map Adr.Step.cells),.bool data,.str ty,.str nm,.int .i64 0,.int .i64 0,.str []]],t⟩ ∧
  Gs 273 4 0 ⟨[],t⟩ (((mods.take j).map fun s => (⟨s.name,Adr.K.none⟩ : Adr.Step)).map Adr.Step.cells) (.sl W o (((mods.take j).map fun s => (⟨s.name,Adr.K.none⟩ : Adr.Step)).map Adr.Step.cells)) ∧ (ts 1 = .ptr 0 0 ∧ ts 2 = .ptr 1 0 ∧ ts 3 = .ptr 2 0 ∧ ts 4 = .int .i64 (j : Nat))) mods.length ?_ ?_
 ·exact ⟨0,0,.nil,[],rfl,Nat.zero_le _,rfl,.inl ⟨rfl,rfl⟩,by (exact inv0 ti)⟩
 rintro m ts hh ⟨j,W,o,t,rfl,hj,rfl,gX,hu⟩
 rcases Nat.lt_or_ge j mods.length with hlt | hge
 ·have hf:=row_at6 Adr.Step.cells mods j hlt (by omega)
  have htk:=List.take_succ_eq_append_getElem hlt
  obtain ⟨x,hx⟩ : ∃ x,mods[j] = x:=⟨_,rfl⟩
  rw [hx] at hf htk
  obtain ⟨xn,⟨ja,jb,jc⟩⟩:=x
  dsimp only [Adr.Step.cells] at hf
  have hrow : ((mods.take (j + 1)).map fun s => (⟨s.name,Adr.K.none⟩ : Adr.Step)).map Adr.Step.cells = ((mods.take j).map fun s => (⟨s.name,Adr.K.none⟩ : Adr.Step)).map Adr.Step.cells ++ [[.str xn,.int .i64 0,.int .i64 0,.str []]]:=by
   rw [htk,List.map_append,List.map_append]; rfl
  have hrl : (((mods.take j).map fun s => (⟨s.name,Adr.K.none⟩ : Adr.Step)).map Adr.Step.cells).length + 1 ≤ 1000000000:=by
   rw [List.length_map,List.length_map,List.length_take]; omega
  obtain ⟨W',o',t',hX,gX',_⟩:=gX.grow 48 [.str xn,.int .i64 0,.int .i64 0,.str []] hrl (by decide)
  rw [← hrow] at gX'
  simp only [← hrow] at hX
  refine runx0 (ai hu (ai hf hX)) ti ?_
  exact ⟨_,by omega,j + 1,W',o',t',rfl,by omega,rfl,gX',by (exact inv0 (ai hu hf))⟩
 ·have hf:=ai lm (show ¬ (j : Int) < (mods.length : Int) by omega)
  rw [List.take_of_length_le hge] at gX ⊢
  refine runx0 (ai hu hf) ti ?_
  exact ⟨.agg [.sl 4 .no ((mods.map fun s => (⟨s.name,Adr.K.none⟩ : Adr.Step)).map Adr.Step.cells),.bool data,.str ty,.str nm,.int .i64 0,.int .i64 0,.str []],⟨gX.le,rfl,rfl,rfl,rfl,rfl,rfl,trivial⟩,rfl⟩
theorem a_r6steps (mods : List Adr.Step) (hn : mods.length ≤ 16) (hm : ∀ s ∈ mods,s.name.length ≤ 2000000) (hk : ∀ s ∈ mods,s.key = Adr.K.none) (h : Hp) : ACall Tryz.prog GT 325 [.sl 4 .no (mods.map Adr.Step.cells)] h fun r h' => r = .str (mods.flatMap stepB) ∧ h' = h:=by
 refine pcall ?_ rfl (by simp [A.pure,A.data]) h
 refine fo ?_
 have cf:=a_r6fmtkey0
 refine runx0 ti ti ?_
 refine awp_loop (fun m ts hh => hh = ⟨[],[]⟩ ∧ ∃ j : Nat,m = mods.length - j ∧ j ≤ mods.length ∧ (ts 0 = .sl 4 .no (mods.map Adr.Step.cells) ∧ ts 3 = .str ((mods.take j).flatMap stepB) ∧ ts 4 = .int .i64 (j : Nat))) mods.length ?_ ?_
 ·exact ⟨rfl,0,rfl,Nat.zero_le _,by (exact inv0 ti)⟩
 rintro m ts hh ⟨rfl,j,rfl,hj,hu⟩
 rcases Nat.lt_or_ge j mods.length with hlt | hge
 ·have hf:=row_at6 Adr.Step.cells mods j hlt (by omega)
  have hmj:=hm _ (List.getElem_mem hlt)
  have hkj:=hk _ (List.getElem_mem hlt)
  have hsn:=fm_snoc' stepB mods j hlt
  have hacc : ((mods.take j).flatMap stepB).length ≤ 32000128:=by
   have h2 : (mods.take j).length ≤ 16:=by rw [List.length_take]; omega
   exact Nat.le_trans (fm_len16 (mods.take j) fun s hs => hm s (List.mem_of_mem_take hs)) (Nat.le_trans (Nat.mul_le_mul_right 2000008 h2) (by decide))
  obtain ⟨x,hx⟩ : ∃ x,mods[j] = x:=⟨_,rfl⟩
  rw [hx] at hf hmj hkj hsn
  obtain ⟨xn,xk⟩:=x
  dsimp only at hkj hmj
  subst hkj
  dsimp only [Adr.Step.cells,Adr.K.none] at hf
  obtain ⟨P,hP⟩ : ∃ P,(mods.take j).flatMap stepB = P:=⟨_,rfl⟩
  rw [hP] at hu hsn hacc
  have l1 : P.length + 7 < 1099511627776 ∧ P.length + 7 + xn.length < 1099511627776 ∧ P.length + 7 + xn.length + 1 < 1099511627776 ∧ P.length + (7 + xn.length) < 1099511627776 ∧ P.length + (7 + xn.length) + 1 < 1099511627776 ∧ P.length + (xn.length + 7) < 1099511627776 ∧ P.length + (xn.length + 7) + 1 < 1099511627776 ∧ P.length + 7 + xn.length + 0 < 1099511627776:=⟨by omega,by omega,by omega,by omega,by omega,by omega,by omega,by omega⟩
  refine runx0 (ai hu (ai hf l1)) (ai cf ti) ?_
  refine ⟨_,by omega,rfl,j + 1,rfl,by omega,?_⟩
  have e : P ++ [109,111,100,117,108,101,46] ++ xn ++ [46] = (mods.take (j + 1)).flatMap stepB:=by
   rw [hsn]
   unfold stepB
   simp [Adr.modW]
  (exact inv0 (ai hu (ai hf e)))
 ·have hf:=ai (show (mods.map Adr.Step.cells).length = mods.length from List.length_map _) (show ¬ (j : Int) < (mods.length : Int) by omega)
  rw [List.take_of_length_le hge] at hu
  refine runx0 (ai hu hf) ti ?_
  exact ⟨_,le_refl _,rfl⟩
theorem a_r6format0 (a : Adr.Ad) (hi : Adr.In a) (hk : ∀ s ∈ a.mods,s.key = Adr.K.none) (hkk : a.key = Adr.K.none) (h : Hp) : ACall Tryz.prog GT 296 [.agg a.cells] h fun r h' => r = .str (Adr.fmt a) ∧ h' = h:=by
 have cc:=fun h => a_r6check a hi h
 obtain ⟨mods,data,ty,nm,key⟩:=a
 dsimp only at hk hkk
 subst hkk
 have hfb:=fmt_bare mods data ty nm hk
 obtain ⟨hn,hm,ht,ha,_⟩:=hi
 dsimp only at hn hm ht ha
 refine pcall ?_ rfl (by simp [A.pure,A.data,Adr.Ad.cells]) h
 refine fo ?_
 dsimp only [Adr.Ad.cells,Adr.K.none] at cc ⊢
 by_cases hc0 : Adr.check ⟨mods,data,ty,nm,Adr.K.none⟩ = 0
 rotate_left
 ·have e1 : (Adr.check ⟨mods,data,ty,nm,Adr.K.none⟩ != 0) = true:=by simp [hc0]
  have hfz : Adr.fmt ⟨mods,data,ty,nm,Adr.K.none⟩ = []:=by unfold Adr.fmt; rw [if_pos hc0]
  unfold Adr.K.none at e1 hfz
  refine runx0 e1 (ai cc ti) ?_
  exact ⟨_,le_refl _,by rw [hfz]; rfl⟩
 have e1 : (Adr.check ⟨mods,data,ty,nm,Adr.K.none⟩ != 0) = false:=by simp [hc0]
 have hf:=hfb hc0
 have hn16 : mods.length ≤ 16:=by
  rcases Nat.lt_or_ge 16 mods.length with h16 | h16
  ·unfold Adr.check at hc0
   rw [if_pos h16] at hc0
   exact absurd hc0 (by decide)
  ·exact h16
 have hlenall:=fm_len16 mods fun s hs => (hm s hs).1
 have cs:=a_r6steps mods hn16 (fun s hs => (hm s hs).1) hk
 have cf:=a_r6fmtkey0
 unfold Adr.K.none at e1 hf
 rw [hf]
 obtain ⟨P,hP⟩ : ∃ P,mods.flatMap stepB = P:=⟨_,rfl⟩
 rw [hP] at cs hlenall ⊢
 have hPl : P.length ≤ 32000128:=Nat.le_trans hlenall (Nat.le_trans (Nat.mul_le_mul_right 2000008 hn16) (by decide))
 cases data with
 | false =>
  have l1 : P.length + ty.length < 1099511627776 ∧ P.length + ty.length + 1 < 1099511627776 ∧ P.length + ty.length + 1 + nm.length < 1099511627776 ∧ P.length + (ty.length + 1) < 1099511627776 ∧ P.length + (ty.length + 1) + nm.length < 1099511627776 ∧ P.length + (ty.length + (1 + nm.length)) < 1099511627776:=⟨by omega,by omega,by omega,by omega,by omega,by omega⟩
  refine runx0 (ai e1 l1) (ai cc (ai cs (ai cf ti))) ?_
  exact ⟨_,le_refl _,by simp [tupA_1]⟩
 | true =>
  have l1 : P.length + 5 < 1099511627776 ∧ P.length + 5 + ty.length < 1099511627776 ∧ P.length + 5 + ty.length + 1 < 1099511627776 ∧ P.length + 5 + ty.length + 1 + nm.length < 1099511627776:=⟨by omega,by omega,by omega,by omega⟩
  refine runx0 (ai e1 l1) (ai cc (ai cs (ai cf ti))) ?_
  exact ⟨_,le_refl _,by simp [tupA_1,Adr.dataW]⟩
theorem a_r6static (s : List UInt8) (hl : s.length ≤ 2000000) (hin : Adr.In (Adr.bare (Adr.parse s).1)) (h : Hp) : ACall Tryz.prog GT 252 [.str s] h fun r h' => r = .tup [.str (Adr.static s).1,.int .i64 (Adr.static s).2] ∧ h' = h:=by
 have cp:=a_r6parse s hl
 have cb:=a_r6bare (Adr.parse s).1 (by have:=hin.n; simpa [Adr.bare] using this)
 have cf:=a_r6format0 (Adr.bare (Adr.parse s).1) hin (fun x hx => by
  simp only [Adr.bare,List.mem_map] at hx
  obtain ⟨y,_,rfl⟩:=hx
  rfl) rfl
 refine pcall ?_ rfl (by simp [A.pure,A.data]) h
 refine fo ?_
 unfold Adr.static
 obtain ⟨⟨⟨mods,data,ty,nm,⟨ka,kb,kc⟩⟩,e⟩,hP⟩ : ∃ p,Adr.parse s = p:=⟨_,rfl⟩
 rw [hP] at cp cb cf ⊢
 dsimp only [Adr.Ad.cells] at cp cb cf ⊢
 obtain ⟨F,hF⟩ : ∃ F,Adr.fmt (Adr.bare ⟨mods,data,ty,nm,⟨ka,kb,kc⟩⟩) = F:=⟨_,rfl⟩
 rw [hF] at cf ⊢
 dsimp only [Adr.bare,Adr.K.none] at cb cf
 by_cases he : e = 0
 ·subst he
  refine runx0 ti (ai cp (ai cb (ai cf ti))) ?_
  exact ⟨_,le_refl _,rfl⟩
 ·have e1 : (e != 0) = true:=by simp [he]
  rw [if_pos he]
  refine runx0 e1 (ai cp ti) ?_
  exact ⟨_,le_refl _,rfl⟩
end AX
end Go.Proofs.YteklhoajalgehaaGreatDoor

namespace Go.Proofs.YteklhoajalgehaaGreatDoor
open Go.RowKit
open Go.Op (bytesLess)
namespace AX
theorem a_r7known : ∀ (v : V),v.lens → ∀ h,ACall Tryz.prog GT 137 [v.A] h fun r h' => r = .bool (Sf.known v) ∧ h' = h:=by
 refine V.induct fun k n s is ks ih => ?_
 intro hlen h
 unfold V.lens at hlen
 have hall:=hlen.2.2.2.2
 have hisl : is.length ≤ 9223372036854775807:=by have:=hlen.1; simp only [maxLen] at this; omega
 simp only [V.A,V.cells]
 refine pcall ?_ rfl (by simp [A.pure,A.data]) h
 refine fo ?_
 obtain ⟨q,hq⟩ : ∃ q,Sf.known (.mk k n s is ks) = q:=⟨_,rfl⟩
 rw [hq]
 unfold Sf.known at hq
 by_cases h6 : k = 6
 ·have e1 : (k == 6) = true:=by simp [h6]
  have : false = q:=by rw [← hq]; simp [h6]
  subst this
  refine runx0 e1 ti ?_
  exact ⟨_,le_refl _,rfl⟩
 have e1 : (k == 6) = false:=by simp [h6]
 have hq' : Sf.knowns is = q:=by rw [← hq]; simp [h6]
 refine runx0 e1 ti ?_
 refine awp_loop (fun m ts hh => hh = ⟨[.cells 71 [.int .i64 k,.int .i64 n,.str s,.sl 5 .no (V.cellss is),.sl 1 .no (strsA ks)]],[]⟩ ∧ ∃ j : Nat,m = is.length - j ∧ j ≤ is.length ∧ Sf.knowns (is.drop j) = q ∧ (ts 1 = .ptr 0 0 ∧ ts 3 = .int .i64 (j : Nat))) is.length ?_ ?_
 ·exact ⟨rfl,0,rfl,Nat.zero_le _,hq',by (exact inv0 ti)⟩
 rintro m ts hh ⟨rfl,j,rfl,hj,hkn,ht⟩
 rcases Nat.lt_or_ge j is.length with hlt | hge
 ·have hf : (V.cellss is).length = is.length ∧ (j : Int) < (is.length : Int) ∧ (0 : Int) ≤ (j : Int) ∧ (V.cellss is).getD j [] = is[j].cells ∧ IntKind.i64.wrap ((j : Int) + 1) = ((j + 1 : Nat) : Int):=
   ⟨V.cellss_length is,by omega,by omega,V.cellss_get is j hlt,by rw [wrap64 (by omega) (by omega)]; omega⟩
  have hc:=ih is[j] (List.getElem_mem hlt) (V.lensS_mem hall _ (List.getElem_mem hlt))
  rw [List.drop_eq_getElem_cons hlt] at hkn
  unfold Sf.knowns at hkn
  obtain ⟨x,hx⟩ : ∃ x,is[j] = x:=⟨_,rfl⟩
  rw [hx] at hf hc hkn
  obtain ⟨k1,n1,w1,vi,vy⟩:=x
  simp only [V.A,V.cells] at hf hc
  cases hK : Sf.known (.mk k1 n1 w1 vi vy) with
  | false =>
   rw [hK] at hc hkn
   have : false = q:=hkn
   subst this
   refine runx0 (ai ht hf) (ai hc ti) ?_
   exact ⟨_,le_refl _,rfl⟩
  | true =>
   rw [hK,Bool.true_and] at hkn
   rw [hK] at hc
   refine runx0 (ai ht hf) (ai hc ti) ?_
   exact ⟨_,by omega,rfl,j + 1,rfl,by omega,hkn,by (exact inv0 (ai ht hf))⟩
 ·have hf:=ai (V.cellss_length is) (show ¬ (j : Int) < (is.length : Int) by omega)
  rw [List.drop_of_length_le hge] at hkn
  unfold Sf.knowns at hkn
  subst hkn
  refine runx0 (ai ht hf) ti ?_
  exact ⟨_,le_refl _,rfl⟩
def cmpB (a b : List UInt8) : Int:=if bytesLess a b = true then -1 else if a = b then 0 else 1
theorem a_r7bytes (a b : List UInt8) (h : Hp) : ACall Tryz.prog GT 139 [.str a,.str b] h fun r h' => r = .int .i64 (cmpB a b) ∧ h' = h:=by
 refine pcall ?_ rfl (by simp [A.pure,A.data]) h
 refine fo ?_
 unfold cmpB
 cases hl : bytesLess a b with
 | true =>
  refine runx0 hl ti ?_
  exact ⟨_,le_refl _,rfl⟩
 | false =>
  by_cases he : a = b
  ·have e1 : (a == b) = true:=by simp [he]
   refine runx0 (ai hl e1) ti ?_
   exact ⟨_,le_refl _,by rw [if_neg (by decide),if_pos he]; rfl⟩
  ·have e1 : (a == b) = false:=by simp [he]
   refine runx0 (ai hl e1) ti ?_
   exact ⟨_,le_refl _,by rw [if_neg (by decide),if_neg he]; rfl⟩
theorem a_r31text (s : List UInt8) (hs : s.length ≤ 2000000) (h : Hp) : ACall Tryz.prog GT 49 [.str s] h fun r h' => r = .bool (Sf.text s) ∧ h' = h:=by
 have hv:=a_refValid s hs
 refine pcall ?_ rfl (by simp [A.pure,A.data]) h
 refine fo ?_
 refine runx0 ti (ai hv ti) ?_
 exact ⟨_,le_refl _,rfl⟩
def isM (s : List UInt8) : Bool:=(Adr.parse s).2 == 0 && !(Adr.parse s).1.data
theorem a_r31managed (s : List UInt8) (hs : s.length ≤ 2000000) (h : Hp) : ACall Tryz.prog GT 134 [.str s] h fun r h' => r = .tup [.str (Adr.parse s).1.type,.bool (isM s)] ∧ h' = h:=by
 have hp:=a_r6parse s hs
 unfold isM
 obtain ⟨⟨⟨mods,data,ty,nm,⟨ka,kb,kc⟩⟩,e⟩,hP⟩ : ∃ p,Adr.parse s = p:=⟨_,rfl⟩
 rw [hP] at hp ⊢
 dsimp only [Adr.Ad.cells] at hp ⊢
 refine pcall ?_ rfl (by simp [A.pure,A.data]) h
 refine fo ?_
 refine runx0 ti (ai hp ti) ?_
 exact ⟨_,le_refl _,rfl⟩
theorem parse_in (s : List UInt8) (hs : s.length ≤ 2000000) : Adr.In (Adr.bare (Adr.parse s).1):=by
 by_cases h0 : (Adr.parse s).2 = 0
 ·obtain ⟨n1,n2,n3,n4⟩:=Adr.parse_names s h0
  refine ⟨by simp [Adr.bare]; omega,fun x hx => ?_,by show (Adr.parse s).1.type.length ≤ _; omega,by show (Adr.parse s).1.name.length ≤ _; omega,by show ([] : List UInt8).length ≤ _; decide⟩
  simp only [Adr.bare,List.mem_map] at hx
  obtain ⟨y,hy,rfl⟩:=hx
  exact ⟨by have:=n1 y hy; dsimp only; omega,by show ([] : List UInt8).length ≤ _; decide⟩
 ·have hz : (Adr.parse s).1 = Adr.Ad.zero:=by
   unfold Adr.parse at h0 ⊢
   split at h0
   ·split at h0
    ·next h1 => rw [if_pos h1]
    ·exact absurd rfl h0
   ·rfl
  rw [hz]
  exact ⟨by decide,by simp [Adr.bare,Adr.Ad.zero],by decide,by decide,by decide⟩
theorem a_r31static (s : List UInt8) (hs : s.length ≤ 2000000) (h : Hp) : ACall Tryz.prog GT 200 [.str s] h fun r h' => r = .bool (Sf.staticB s) ∧ h' = h:=by
 have hp:=a_r6static s hs (parse_in s hs)
 unfold Sf.staticB
 refine pcall ?_ rfl (by simp [A.pure,A.data]) h
 refine fo ?_
 refine runx0 ti (ai hp ti) ?_
 exact ⟨_,le_refl _,rfl⟩
theorem a_r31key (s : List UInt8) (hs : s.length ≤ 2000000) (h : Hp) : ACall Tryz.prog GT 135 [.str s] h fun r h' => r = .bool (Sf.keyB s) ∧ h' = h:=by
 have hp:=a_r1parse s hs
 unfold Sf.keyB
 refine pcall ?_ rfl (by simp [A.pure,A.data]) h
 refine fo ?_
 refine runx0 ti (ai hp ti) ?_
 exact ⟨_,le_refl _,rfl⟩
def prevS (l : List (List UInt8)) : Nat → Option (List UInt8)
 | 0 => none
 | j + 1 => l[j]?
theorem strs_at (l : List (List UInt8)) (j : Nat) (h : j < l.length) (hl : l.length ≤ 4611686018427387904) :
  (strsA l).length = l.length ∧ (j : Int) < (l.length : Int) ∧ (0 : Int) ≤ (j : Int) ∧ (strsA l).getD j [] = [.str l[j]] ∧ IntKind.i64.wrap ((j : Int) + 1) = ((j + 1 : Nat) : Int):=
 ⟨strsA_length l,by omega,by omega,strsA_get l j h,by rw [wrap64 (by omega) (by omega)]; omega⟩
theorem a_r31deps (l : List (List UInt8)) (hn : l.length ≤ 1000000000) (hl : ∀ s ∈ l,s.length ≤ 2000000) (h : Hp) : ACall Tryz.prog GT 138 [.sl 1 .no (strsA l)] h fun r h' => r = .bool (Sf.depsB none l) ∧ h' = h:=by
 refine pcall ?_ rfl (by simp [A.pure,A.data]) h
 refine fo ?_
 obtain ⟨q,hq⟩ : ∃ q,Sf.depsB none l = q:=⟨_,rfl⟩
 rw [hq]
 refine runx0 ti ti ?_
 refine awp_loop (fun m ts hh => hh = ⟨[],[]⟩ ∧ ∃ j : Nat,m = l.length - j ∧ j ≤ l.length ∧ Sf.depsB (prevS l j) (l.drop j) = q ∧ (ts 0 = .sl 1 .no (strsA l) ∧ ts 3 = .int .i64 (j : Nat))) l.length ?_ ?_
 ·exact ⟨rfl,0,rfl,Nat.zero_le _,hq,by (exact inv0 ti)⟩
 rintro m ts hh ⟨rfl,j,rfl,hj,hd,ht⟩
 rcases Nat.lt_or_ge j l.length with hlt | hge
 ·have hf:=strs_at l j hlt (by omega)
  have hs:=hl _ (List.getElem_mem hlt)
  rw [List.drop_eq_getElem_cons hlt] at hd
  unfold Sf.depsB at hd
  have hnx : prevS l (j + 1) = some l[j]:=List.getElem?_eq_getElem hlt
  obtain ⟨s,hs'⟩ : ∃ s,l[j] = s:=⟨_,rfl⟩
  rw [hs'] at hf hs hd hnx
  have cs:=a_r31static s hs
  cases hS : Sf.staticB s with
  | false =>
   rw [hS] at cs hd
   have : false = q:=hd
   subst this
   refine runx0 (ai ht hf) (ai cs ti) ?_
   exact ⟨_,le_refl _,rfl⟩
  | true =>
  rw [hS,Bool.true_and] at hd
  rw [hS] at cs
  cases j with
  | zero =>
   have : Sf.depsB (some s) (l.drop 1) = q:=hd
   have z0 : ¬ ((0 : Nat) : Int) > 0:=by decide
   refine runx0 (ai ht (ai hf z0)) (ai cs ti) ?_
   exact ⟨l.length - 1,by omega,rfl,1,rfl,by omega,by rw [hnx]; exact this,by (exact inv0 (ai ht hf))⟩
  | succ i =>
   have hi : i < l.length:=by omega
   have hpv : prevS l (i + 1) = some l[i]:=List.getElem?_eq_getElem hi
   rw [hpv] at hd
   have g1 : ((i + 1 : Nat) : Int) > 0 ∧ IntKind.i64.wrap (((i + 1 : Nat) : Int) - 1) = (i : Int) ∧ (i : Int) < (l.length : Int) ∧ (0 : Int) ≤ (i : Int) ∧ (strsA l).getD i [] = [.str l[i]]:=⟨by omega,by rw [wrap64 (by omega) (by omega)]; omega,by omega,by omega,strsA_get l i hi⟩
   obtain ⟨p,hp⟩ : ∃ p,l[i] = p:=⟨_,rfl⟩
   rw [hp] at hd g1
   have hb : Val.badB (some p) s = !bytesLess p s:=rfl
   rw [hb,Bool.not_not] at hd
   cases hB : bytesLess p s with
   | false =>
    rw [hB] at hd
    have : false = q:=hd
    subst this
    refine runx0 (ai ht (ai hf (ai g1 hB))) (ai cs ti) ?_
    exact ⟨_,le_refl _,rfl⟩
   | true =>
    rw [hB,Bool.true_and] at hd
    refine runx0 (ai ht (ai hf (ai g1 hB))) (ai cs ti) ?_
    exact ⟨_,by omega,rfl,i + 1 + 1,rfl,by omega,by rw [hnx]; exact hd,by (exact inv0 (ai ht hf))⟩
 ·have hf:=ai (strsA_length l) (show ¬ (j : Int) < (l.length : Int) by omega)
  rw [List.drop_of_length_le hge] at hd
  unfold Sf.depsB at hd
  subst hd
  refine runx0 (ai ht hf) ti ?_
  exact ⟨_,le_refl _,rfl⟩
theorem managed_M (s t : List UInt8) : Sf.managed s t = (isM s && (Adr.parse s).1.type == t):=rfl
theorem ne_flip (a b : List UInt8) : (a != b) = !(b == a):=by
 show (!(a == b)) = !(b == a)
 congr 1
 rw [Bool.eq_iff_iff,beq_iff_eq,beq_iff_eq]
 exact eq_comm
theorem a_r31inst (x : Sf.Inst) (hx : Sf.InstIn x) (ht : x.typ.length ≤ 2000000) (h : Hp) : ACall Tryz.prog GT 73 [.agg x.cells] h fun r h' => r = .int .i64 (Sf.instZ x) ∧ h' = h:=by
 have cm:=a_r31managed x.addr hx.a
 have ck:=a_r31key x.dep hx.d
 have ct:=a_r31text x.id hx.i
 have cc:=a_rCheck x.attrs hx.l
 have cn:=a_r7known x.attrs hx.l
 have cd:=a_r31deps x.deps (by have:=hx.n; omega) hx.ds
 obtain ⟨q,hq⟩ : ∃ q,Sf.instZ x = q:=⟨_,rfl⟩
 rw [hq]
 unfold Sf.instZ at hq
 rw [managed_M] at hq
 obtain ⟨a,d,id,ty,⟨k,n,w,vi,vy⟩,v,tn,fi,ds⟩:=x
 dsimp only at cm ck ct cd hq
 simp only [V.A,V.cells] at cc cn
 refine pcall ?_ rfl (by simp [A.pure,A.data,Sf.Inst.cells]) h
 refine fo ?_
 dsimp only [Sf.Inst.cells]
 obtain ⟨T,hT⟩ : ∃ T,(Adr.parse a).1.type = T:=⟨_,rfl⟩
 rw [hT] at cm hq
 cases hM : isM a with
 | false =>
  rw [hM] at cm hq
  rw [if_pos (by simp)] at hq
  subst hq
  refine runx0 ti (ai cm ti) ?_
  exact ⟨_,le_refl _,rfl⟩
 | true =>
 rw [hM,Bool.true_and] at hq
 rw [hM] at cm
 cases hK : Sf.keyB d with
 | false =>
  rw [hK] at ck hq
  rw [if_pos (by simp)] at hq
  subst hq
  refine runx0 ti (ai cm (ai ck ti)) ?_
  exact ⟨_,le_refl _,rfl⟩
 | true =>
 rw [hK] at ck hq
 cases hX : Sf.text id with
 | false =>
  rw [hX] at ct hq
  rw [if_pos (by simp)] at hq
  subst hq
  refine runx0 ti (ai cm (ai ck (ai ct ti))) ?_
  exact ⟨_,le_refl _,rfl⟩
 | true =>
 rw [hX] at ct hq
 simp only [Bool.not_true,Bool.or_false] at hq
 have hTy : (ty != T) = !(T == ty):=ne_flip ty T
 cases hE : (T == ty) with
 | false =>
  rw [hE] at hTy hq
  rw [if_pos (by decide)] at hq
  subst hq
  refine runx0 hTy (ai cm (ai ck (ai ct ti))) ?_
  exact ⟨_,le_refl _,rfl⟩
 | true =>
 rw [hE] at hTy hq
 rw [if_neg (by decide)] at hq
 have hTy' : (ty != T) = false:=hTy
 by_cases hZ : Val.checkZ (.mk k n w vi vy) = 0
 rotate_left
 ·obtain ⟨Z,hZZ⟩ : ∃ Z,Val.checkZ (.mk k n w vi vy) = Z:=⟨_,rfl⟩
  rw [hZZ] at cc hZ hq
  have e1 : (Z != 0) = true:=by simp [hZ]
  rw [if_pos hZ] at hq
  subst hq
  refine runx0 (ai hTy' e1) (ai cm (ai ck (ai ct (ai cc ti)))) ?_
  exact ⟨_,le_refl _,rfl⟩
 rw [hZ] at cc
 rw [if_neg (by simp [hZ])] at hq
 have hkd : Sf.V.kind (.mk k n w vi vy) = k:=rfl
 rw [hkd] at hq
 by_cases h5 : k = 5
 rotate_left
 ·have e1 : (k != 5) = true:=by simp [h5]
  rw [if_pos h5] at hq
  subst hq
  refine runx0 (ai hTy' e1) (ai cm (ai ck (ai ct (ai cc ti)))) ?_
  exact ⟨_,le_refl _,rfl⟩
 have e1 : (k != 5) = false:=by simp [h5]
 rw [if_neg (by simp [h5])] at hq
 cases hN : Sf.known (.mk k n w vi vy) with
 | false =>
  rw [hN] at cn hq
  rw [if_pos (by decide)] at hq
  subst hq
  refine runx0 (ai hTy' e1) (ai cm (ai ck (ai ct (ai cc (ai cn ti))))) ?_
  exact ⟨_,le_refl _,rfl⟩
 | true =>
 rw [hN] at cn hq
 rw [if_neg (by decide)] at hq
 by_cases hv : v < 1 ∨ 9007199254740992 < v
 ·have e2 : (decide (v < 1) || decide (v > 9007199254740992)) = true:=by simpa using hv
  rw [if_pos hv] at hq
  subst hq
  refine runx0 (ai hTy' (ai e1 e2)) (ai cm (ai ck (ai ct (ai cc (ai cn ti))))) ?_
  exact ⟨_,le_refl _,rfl⟩
 have e2 : (decide (v < 1) || decide (v > 9007199254740992)) = false:=by simp; omega
 rw [if_neg hv] at hq
 cases hD : Sf.depsB none ds with
 | false =>
  rw [hD] at cd hq
  have : q = 1:=by rw [← hq]; rfl
  subst this
  refine runx0 (ai hTy' (ai e1 e2)) (ai cm (ai ck (ai ct (ai cc (ai cn (ai cd ti)))))) ?_
  exact ⟨_,le_refl _,rfl⟩
 | true =>
  rw [hD] at cd hq
  have : q = 0:=by rw [← hq]; rfl
  subst this
  refine runx0 (ai hTy' (ai e1 e2)) (ai cm (ai ck (ai ct (ai cc (ai cn (ai cd ti)))))) ?_
  exact ⟨_,le_refl _,rfl⟩
theorem a_r31pend (p : Sf.Pend) (ha : p.addr.length ≤ 2000000) (hk : p.tok.length ≤ 2000000) (h : Hp) : ACall Tryz.prog GT 75 [.agg p.cells] h fun r h' => r = .int .i64 (if Sf.pendB p = true then 0 else 1) ∧ h' = h:=by
 have cm:=a_r31managed p.addr ha
 have ct:=a_r31text p.tok hk
 unfold Sf.pendB
 rw [managed_M]
 obtain ⟨a,ty,tok⟩:=p
 dsimp only at cm ct ⊢
 refine pcall ?_ rfl (by simp [A.pure,A.data,Sf.Pend.cells]) h
 refine fo ?_
 dsimp only [Sf.Pend.cells]
 obtain ⟨T,hT⟩ : ∃ T,(Adr.parse a).1.type = T:=⟨_,rfl⟩
 rw [hT] at cm ⊢
 have hTy : (ty != T) = !(T == ty):=ne_flip ty T
 obtain ⟨b,hb⟩ : ∃ b,(T == ty) = b:=⟨_,rfl⟩
 rw [hb] at hTy ⊢
 obtain ⟨c,hc⟩ : ∃ c,Sf.text tok = c:=⟨_,rfl⟩
 obtain ⟨e,he⟩ : ∃ e,isM a = e:=⟨_,rfl⟩
 rw [hc] at ct ⊢
 rw [he] at cm ⊢
 cases c <;> cases e <;> cases b <;> ((refine runx0 hTy (ai cm (ai ct ti)) ?_); exact ⟨_,le_refl _,rfl⟩)
theorem a_r31outp (o : Sf.Outp) (hn : o.name.length ≤ 2000000) (hl : o.value.lens) (h : Hp) : ACall Tryz.prog GT 140 [.agg o.cells] h fun r h' => r = .int .i64 (Sf.outZ o) ∧ h' = h:=by
 have ci:=a_r6ident o.name hn
 have cc:=a_rCheck o.value hl
 have cn:=a_r7known o.value hl
 obtain ⟨q,hq⟩ : ∃ q,Sf.outZ o = q:=⟨_,rfl⟩
 rw [hq]
 unfold Sf.outZ at hq
 obtain ⟨nm,⟨k,n,w,vi,vy⟩,sn⟩:=o
 dsimp only at ci hq
 simp only [V.A,V.cells] at cc cn
 refine pcall ?_ rfl (by simp [A.pure,A.data,Sf.Outp.cells]) h
 refine fo ?_
 dsimp only [Sf.Outp.cells]
 cases hI : Adr.ident nm with
 | false =>
  rw [hI] at ci hq
  rw [if_pos (by decide)] at hq
  subst hq
  refine runx0 ti (ai ci ti) ?_
  exact ⟨_,le_refl _,rfl⟩
 | true =>
 rw [hI] at ci hq
 rw [if_neg (by decide)] at hq
 by_cases hZ : Val.checkZ (.mk k n w vi vy) = 0
 rotate_left
 ·obtain ⟨Z,hZZ⟩ : ∃ Z,Val.checkZ (.mk k n w vi vy) = Z:=⟨_,rfl⟩
  rw [hZZ] at cc hZ hq
  have e1 : (Z != 0) = true:=by simp [hZ]
  rw [if_pos hZ] at hq
  subst hq
  refine runx0 e1 (ai ci (ai cc ti)) ?_
  exact ⟨_,le_refl _,rfl⟩
 rw [hZ] at cc
 rw [if_neg (by simp [hZ])] at hq
 cases hN : Sf.known (.mk k n w vi vy) with
 | false =>
  rw [hN] at cn hq
  rw [if_pos (by decide)] at hq
  subst hq
  refine runx0 ti (ai ci (ai cc (ai cn ti))) ?_
  exact ⟨_,le_refl _,rfl⟩
 | true =>
  rw [hN] at cn hq
  rw [if_neg (by decide)] at hq
  subst hq
  refine runx0 ti (ai ci (ai cc (ai cn ti))) ?_
  exact ⟨_,le_refl _,rfl⟩
def beforeZ (a d : List UInt8) (y : Sf.Inst) : Int:=if a = y.addr then cmpB d y.dep else cmpB a y.addr
theorem a_r31before (a d : List UInt8) (y : Sf.Inst) (h : Hp) : ACall Tryz.prog GT 74 [.str a,.str d,.agg y.cells] h fun r h' => r = .int .i64 (beforeZ a d y) ∧ h' = h:=by
 have c1:=a_r7bytes a y.addr
 have c2:=a_r7bytes d y.dep
 unfold beforeZ
 obtain ⟨a',d',id,ty,⟨k,n,w,vi,vy⟩,v,tn,fi,ds⟩:=y
 dsimp only at c1 c2 ⊢
 refine pcall ?_ rfl (by simp [A.pure,A.data,Sf.Inst.cells]) h
 refine fo ?_
 dsimp only [Sf.Inst.cells]
 by_cases he : a = a'
 ·have e1 : (a != a') = false:=by simp [he]
  rw [if_pos he]
  refine runx0 e1 (ai c2 ti) ?_
  exact ⟨_,le_refl _,rfl⟩
 ·have e1 : (a != a') = true:=by simp [he]
  rw [if_neg he]
  refine runx0 e1 (ai c1 ti) ?_
  exact ⟨_,le_refl _,rfl⟩
theorem cmp_pos (a b : List UInt8) : decide (cmpB a b ≤ 0) = !bytesLess b a:=by
 have h1:=Val.less_total a b
 unfold cmpB
 cases hl : bytesLess a b with
 | true =>
  rw [if_pos rfl]
  have h2:=Val.less_total b a
  rw [hl] at h2
  rw [h2]
  rfl
 | false =>
  rw [if_neg (by decide)]
  by_cases he : a = b
  ·subst he
   rw [if_pos rfl,Val.less_irrefl]
   rfl
  ·rw [if_neg he]
   rw [hl] at h1
   have : (b == a) = false:=by simpa using fun h => he h.symm
   rw [this,Bool.or_false] at h1
   rw [← h1]
   rfl
theorem before_behind (x y : Sf.Inst) : decide (beforeZ x.addr x.dep y ≤ 0) = !Sf.behind y x:=by
 unfold beforeZ Sf.behind
 by_cases he : x.addr = y.addr
 ·rw [if_pos he,cmp_pos,he,Val.less_irrefl]
  simp
 ·rw [if_neg he,cmp_pos]
  have : (y.addr == x.addr) = false:=by simpa using fun h => he h.symm
  rw [this,Bool.false_and,Bool.or_false]
theorem row_end6 {α : Type} (f : α → List A) (l : List α) (i : Nat) (h : l.length ≤ i) : (l.map f).length = l.length ∧ ¬ (i : Int) < (l.length : Int):=⟨List.length_map _,by omega⟩
def prevG {α : Type} (l : List α) : Nat → Option α
 | 0 => none
 | j + 1 => l[j]?
theorem prevG_succ {α : Type} (l : List α) (j : Nat) (h : j < l.length) : prevG l (j + 1) = some l[j]:=List.getElem?_eq_getElem h
theorem row_before {α : Type} (f : α → List A) (l : List α) (i : Nat) (h : i + 1 < l.length) (hl : l.length ≤ 4611686018427387904) :
  ((i + 1 : Nat) : Int) > 0 ∧ IntKind.i64.wrap (((i + 1 : Nat) : Int) - 1) = (i : Int) ∧ (i : Int) < (l.length : Int) ∧ (0 : Int) ≤ (i : Int) ∧ (l.map f).getD i [] = f (l[i]'(by omega)):=
 ⟨by omega,by rw [wrap64 (by omega) (by omega)]; omega,by omega,by omega,map_getD f l i (by omega)⟩
theorem a_r31outs (l : List Sf.Outp) (hn : l.length ≤ 1000000000) (ho : ∀ o ∈ l,o.name.length ≤ 2000000 ∧ o.value.lens) (h : Hp) : ACall Tryz.prog GT 76 [.sl 7 .no (l.map Sf.Outp.cells)] h fun r h' => r = .int .i64 (Sf.outsZ none l) ∧ h' = h:=by
 refine pcall ?_ rfl (by simp [A.pure,A.data]) h
 refine fo ?_
 obtain ⟨q,hq⟩ : ∃ q,Sf.outsZ none l = q:=⟨_,rfl⟩
 rw [hq]
 refine runx0 ti ti ?_
 refine awp_loop (fun m ts hh => hh = ⟨[],[]⟩ ∧ ∃ j : Nat,m = l.length - j ∧ j ≤ l.length ∧ Sf.outsZ ((prevG l j).map Sf.Outp.name) (l.drop j) = q ∧ (ts 0 = .sl 7 .no (l.map Sf.Outp.cells) ∧ ts 3 = .int .i64 (j : Nat))) l.length ?_ ?_
 ·exact ⟨rfl,0,rfl,Nat.zero_le _,hq,by (exact inv0 ti)⟩
 rintro m ts hh ⟨rfl,j,rfl,hj,hd,ht⟩
 rcases Nat.lt_or_ge j l.length with hlt | hge
 ·have hf:=row_at6 Sf.Outp.cells l j hlt (by omega)
  have hox:=ho _ (List.getElem_mem hlt)
  rw [List.drop_eq_getElem_cons hlt] at hd
  unfold Sf.outsZ at hd
  have hnx:=prevG_succ l j hlt
  obtain ⟨x,hx⟩ : ∃ x,l[j] = x:=⟨_,rfl⟩
  rw [hx] at hf hox hd hnx
  have co:=a_r31outp x hox.1 hox.2
  obtain ⟨Z,hZ⟩ : ∃ Z,Sf.outZ x = Z:=⟨_,rfl⟩
  rw [hZ] at co hd
  have hxn : (some x).map Sf.Outp.name = some x.name:=rfl
  obtain ⟨nm,⟨k,n,w,vi,vy⟩,sn⟩:=x
  dsimp only [Sf.Outp.cells] at hf co hd hxn
  by_cases hz : Z = 0
  rotate_left
  ·have e1 : (Z != 0) = true:=by simp [hz]
   rw [if_pos hz] at hd
   subst hd
   refine runx0 (ai ht (ai hf e1)) (ai co ti) ?_
   exact ⟨_,le_refl _,rfl⟩
  have e1 : (Z != 0) = false:=by simp [hz]
  rw [if_neg (by simp [hz])] at hd
  cases j with
  | zero =>
   have z0 : ¬ ((0 : Nat) : Int) > 0:=by decide
   have hd' : Sf.outsZ (some nm) (l.drop 1) = q:=hd
   refine runx0 (ai ht (ai hf (ai e1 z0))) (ai co ti) ?_
   exact ⟨l.length - 1,by omega,rfl,1,rfl,by omega,by rw [hnx]; exact hd',by (exact inv0 (ai ht hf))⟩
  | succ i =>
   have hb:=row_before Sf.Outp.cells l i hlt (by omega)
   rw [prevG_succ l i (by omega)] at hd
   obtain ⟨y,hy⟩ : ∃ y,l[i] = y:=⟨_,rfl⟩
   rw [hy] at hb hd
   obtain ⟨nm2,⟨k2,n2,w2,vi2,vy2⟩,sn2⟩:=y
   dsimp only [Sf.Outp.cells,Option.map_some] at hb hd
   replace hd : (if (!bytesLess nm2 nm) = true then (1 : Int) else Sf.outsZ (some nm) (l.drop (i + 1 + 1))) = q:=hd
   cases hB : bytesLess nm2 nm with
   | false =>
    rw [hB,if_pos (by decide)] at hd
    subst hd
    refine runx0 (ai ht (ai hf (ai e1 (ai hb hB)))) (ai co ti) ?_
    exact ⟨_,le_refl _,rfl⟩
   | true =>
    rw [hB,if_neg (by decide)] at hd
    refine runx0 (ai ht (ai hf (ai e1 (ai hb hB)))) (ai co ti) ?_
    exact ⟨_,by omega,rfl,i + 1 + 1,rfl,by omega,by rw [hnx]; exact hd,by (exact inv0 (ai ht hf))⟩
 ·have hf:=row_end6 Sf.Outp.cells l j hge
  rw [List.drop_of_length_le hge] at hd
  unfold Sf.outsZ at hd
  subst hd
  refine runx0 (ai ht hf) ti ?_
  exact ⟨_,le_refl _,rfl⟩
theorem a_r31check (st : Sf.St) (hin : Sf.StIn st) (htp : Sf.TypIn st) (h : Hp) : ACall Tryz.prog GT 36 [st.A] h fun r h' => r = .int .i64 (Sf.checkZ st) ∧ h' = h:=by
 obtain ⟨lin,ser,ins,ps,os⟩:=st
 obtain ⟨hl,hi,hp,ho,hni,hnp,hno⟩:=hin
 dsimp only at hl hi hp ho hni hnp hno
 have hti:=htp.insts
 have htp':=htp.pends
 dsimp only at hti htp'
 have ct:=a_r31text lin (by omega)
 have co:=a_r31outs os hno ho
 obtain ⟨q,hq⟩ : ∃ q,Sf.checkZ ⟨lin,ser,ins,ps,os⟩ = q:=⟨_,rfl⟩
 rw [hq]
 unfold Sf.checkZ at hq
 dsimp only at hq
 obtain ⟨N,hN⟩ : ∃ N,Sf.instsZ none ins = N:=⟨_,rfl⟩
 obtain ⟨P,hP⟩ : ∃ P,Sf.pendsZ none ps = P:=⟨_,rfl⟩
 rw [hN,hP] at hq
 refine pcall ?_ rfl (by simp [A.pure,A.data,Sf.St.A]) h
 refine fo ?_
 dsimp only [Sf.St.A]
 have li : (ins.map Sf.Inst.cells).length = ins.length ∧ (ps.map Sf.Pend.cells).length = ps.length ∧ (os.map Sf.Outp.cells).length = os.length:=⟨List.length_map _,List.length_map _,List.length_map _⟩
 cases hT : Sf.text lin with
 | false =>
  rw [hT] at ct hq
  rw [if_pos (by decide)] at hq
  subst hq
  refine runx0 ti (ai ct ti) ?_
  exact ⟨_,le_refl _,rfl⟩
 | true =>
 rw [hT] at ct hq
 rw [if_neg (by decide)] at hq
 by_cases hs : ser < 0 ∨ 9007199254740992 < ser
 ·have e1 : (decide (ser < 0) || decide (ser > 9007199254740992)) = true:=by simpa using hs
  rw [if_pos hs] at hq
  subst hq
  refine runx0 e1 (ai ct ti) ?_
  exact ⟨_,le_refl _,rfl⟩
 have e1 : (decide (ser < 0) || decide (ser > 9007199254740992)) = false:=by simp; omega
 rw [if_neg hs] at hq
 by_cases hm : 512 < ins.length ∨ 512 < ps.length ∨ 512 < os.length
 ·have e2 : (decide ((ins.length : Int) > 512) || decide ((ps.length : Int) > 512) || decide ((os.length : Int) > 512)) = true:=by simp; omega
  rw [if_pos hm] at hq
  subst hq
  refine runx0 (ai e1 (ai li e2)) (ai ct ti) ?_
  exact ⟨_,le_refl _,rfl⟩
 have e2 : (decide ((ins.length : Int) > 512) || decide ((ps.length : Int) > 512) || decide ((os.length : Int) > 512)) = false:=by simp; omega
 rw [if_neg hm] at hq
 refine runx0 (ai e1 (ai li e2)) (ai ct ti) ?_
 refine awp_loop (fun m ts hh => ∃ (j : Nat) (l : List Blk),m = ins.length - j ∧ j ≤ ins.length ∧ hh = ⟨.cells 39 [.str lin,.int .i64 ser,.sl 13 .no (ins.map Sf.Inst.cells),.sl 3 .no (ps.map Sf.Pend.cells),.sl 7 .no (os.map Sf.Outp.cells)] :: l,[]⟩ ∧
  Sf.instsZ (prevG ins j) (ins.drop j) = N ∧ (ts 1 = .ptr 0 0 ∧ ts 3 = .int .i64 (j : Nat))) ins.length ?_ ?_
 ·exact ⟨0,[],rfl,Nat.zero_le _,rfl,hN,by (exact inv0 ti)⟩
 rintro m ts hh ⟨j,l,rfl,hj,rfl,hd,ht⟩
 rcases Nat.lt_or_ge j ins.length with hlt | hge
 ·have hf:=row_at6 Sf.Inst.cells ins j hlt (by omega)
  have hix:=hi _ (List.getElem_mem hlt)
  have htx:=hti _ (List.getElem_mem hlt)
  rw [List.drop_eq_getElem_cons hlt] at hd
  unfold Sf.instsZ at hd
  have hnx:=prevG_succ ins j hlt
  obtain ⟨x,hx⟩ : ∃ x,ins[j] = x:=⟨_,rfl⟩
  rw [hx] at hf hix htx hd hnx
  have ci:=a_r31inst x hix htx
  have cb:=fun y => a_r31before x.addr x.dep y
  have hbf:=before_behind x
  obtain ⟨Z,hZ⟩ : ∃ Z,Sf.instZ x = Z:=⟨_,rfl⟩
  rw [hZ] at ci hd
  obtain ⟨x',hx'⟩ : ∃ x',x' = x:=⟨_,rfl⟩
  rw [← hx'] at hd hnx hbf
  obtain ⟨a,d,id,ty,⟨k,n,w,vi,vy⟩,v,tn,fi,ds⟩:=x
  have hxa : x'.addr = a ∧ x'.dep = d:=by rw [hx']; exact ⟨rfl,rfl⟩
  rw [hxa.1,hxa.2] at hbf
  dsimp only [Sf.Inst.cells] at hf ci cb
  by_cases hz : Z = 0
  rotate_left
  ·have e3 : (Z != 0) = true:=by simp [hz]
   rw [if_pos hz] at hd
   have : q = Z:=by rw [← hq,← hd,if_pos hz]
   subst this
   refine runx0 (ai ht (ai hf (ai li e3))) (ai ci ti) ?_
   exact ⟨_,le_refl _,rfl⟩
  have e3 : (Z != 0) = false:=by simp [hz]
  rw [if_neg (by simp [hz])] at hd
  cases j with
  | zero =>
   have z0 : ¬ ((0 : Nat) : Int) > 0:=by decide
   have hd' : Sf.instsZ (some x') (ins.drop 1) = N:=hd
   refine runx0 (ai ht (ai hf (ai li (ai e3 z0)))) (ai ci ti) ?_
   exact ⟨ins.length - 1,by omega,1,_,rfl,by omega,rfl,by rw [hnx]; exact hd',by (exact inv0 (ai ht hf))⟩
  | succ i =>
   have hb:=row_before Sf.Inst.cells ins i hlt (by omega)
   rw [prevG_succ ins i (by omega)] at hd
   obtain ⟨y,hy⟩ : ∃ y,ins[i] = y:=⟨_,rfl⟩
   rw [hy] at hb hd
   have cby:=cb y
   have hbfy:=hbf y
   replace hd : (if (!Sf.behind y x') = true then (1 : Int) else Sf.instsZ (some x') (ins.drop (i + 1 + 1))) = N:=hd
   obtain ⟨B,hBB⟩ : ∃ B,beforeZ a d y = B:=⟨_,rfl⟩
   rw [hBB] at cby hbfy
   obtain ⟨bh,hbh⟩ : ∃ b,Sf.behind y x' = b:=⟨_,rfl⟩
   rw [hbh] at hd hbfy
   obtain ⟨a2,d2,id2,ty2,⟨k2,n2,w2,vi2,vy2⟩,v2,tn2,fi2,ds2⟩:=y
   dsimp only [Sf.Inst.cells] at hb cby
   cases bh with
   | false =>
    rw [if_pos (by decide)] at hd
    have hb0 : B ≤ 0:=by simpa using hbfy
    have : q = 1:=by rw [← hq,← hd]; rfl
    subst this
    refine runx0 (ai ht (ai hf (ai li (ai e3 (ai hb hb0))))) (ai ci (ai cby ti)) ?_
    exact ⟨_,le_refl _,rfl⟩
   | true =>
    rw [if_neg (by decide)] at hd
    have hb0 : ¬ B ≤ 0:=by simpa using hbfy
    refine runx0 (ai ht (ai hf (ai li (ai e3 (ai hb hb0))))) (ai ci (ai cby ti)) ?_
    exact ⟨_,by omega,i + 1 + 1,_,rfl,by omega,rfl,by rw [hnx]; exact hd,by (exact inv0 (ai ht hf))⟩
 have hf:=row_end6 Sf.Inst.cells ins j hge
 rw [List.drop_of_length_le hge] at hd
 unfold Sf.instsZ at hd
 rw [← hd,if_neg (by simp)] at hq
 refine runx0 (ai ht (ai hf li)) ti ?_
 refine awp_loop (fun m ts hh => ∃ (j : Nat),m = ps.length - j ∧ j ≤ ps.length ∧ hh = ⟨.cells 39 [.str lin,.int .i64 ser,.sl 13 .no (ins.map Sf.Inst.cells),.sl 3 .no (ps.map Sf.Pend.cells),.sl 7 .no (os.map Sf.Outp.cells)] :: l,[]⟩ ∧
  Sf.pendsZ ((prevG ps j).map Sf.Pend.tok) (ps.drop j) = P ∧ (ts 1 = .ptr 0 0 ∧ ts 6 = .int .i64 (j : Nat))) ps.length ?_ ?_
 ·exact ⟨0,rfl,Nat.zero_le _,rfl,hP,by (exact inv0 ht)⟩
 rintro m ts' hh ⟨j',rfl,hj',rfl,hd',hu⟩
 rcases Nat.lt_or_ge j' ps.length with hlt | hge'
 ·have hf:=row_at6 Sf.Pend.cells ps j' hlt (by omega)
  have hpx:=hp _ (List.getElem_mem hlt)
  rw [List.drop_eq_getElem_cons hlt] at hd'
  unfold Sf.pendsZ at hd'
  have hnx:=prevG_succ ps j' hlt
  obtain ⟨x,hx⟩ : ∃ x,ps[j'] = x:=⟨_,rfl⟩
  rw [hx] at hf hpx hd' hnx
  have cp:=a_r31pend x hpx.1 hpx.2
  obtain ⟨b,hb⟩ : ∃ b,Sf.pendB x = b:=⟨_,rfl⟩
  rw [hb] at cp hd'
  obtain ⟨a,ty,tok⟩:=x
  dsimp only [Sf.Pend.cells] at hf cp hd'
  cases b with
  | false =>
   rw [if_neg (by decide)] at cp
   rw [Bool.not_false,Bool.true_or,if_pos rfl] at hd'
   have : q = 1:=by rw [← hq,← hd']; rfl
   subst this
   refine runx0 (ai hu (ai hf li)) (ai cp ti) ?_
   exact ⟨_,le_refl _,rfl⟩
  | true =>
  rw [if_pos rfl] at cp
  rw [Bool.not_true,Bool.false_or] at hd'
  cases j' with
  | zero =>
   have z0 : ¬ ((0 : Nat) : Int) > 0:=by decide
   have hd2 : Sf.pendsZ (some tok) (ps.drop 1) = P:=hd'
   refine runx0 (ai hu (ai hf (ai li z0))) (ai cp ti) ?_
   exact ⟨ps.length - 1,by omega,1,rfl,by omega,rfl,by rw [hnx]; exact hd2,by (exact inv0 (ai hu hf))⟩
  | succ i =>
   have hbr:=row_before Sf.Pend.cells ps i hlt (by omega)
   rw [prevG_succ ps i (by omega)] at hd'
   obtain ⟨y,hy⟩ : ∃ y,ps[i] = y:=⟨_,rfl⟩
   rw [hy] at hbr hd'
   obtain ⟨a2,ty2,tok2⟩:=y
   dsimp only [Sf.Pend.cells,Option.map_some] at hbr hd'
   replace hd' : (if (!bytesLess tok2 tok) = true then (1 : Int) else Sf.pendsZ (some tok) (ps.drop (i + 1 + 1))) = P:=hd'
   cases hB : bytesLess tok2 tok with
   | false =>
    rw [hB,if_pos (by decide)] at hd'
    have : q = 1:=by rw [← hq,← hd']; rfl
    subst this
    refine runx0 (ai hu (ai hf (ai li (ai hbr hB)))) (ai cp ti) ?_
    exact ⟨_,le_refl _,rfl⟩
   | true =>
    rw [hB,if_neg (by decide)] at hd'
    refine runx0 (ai hu (ai hf (ai li (ai hbr hB)))) (ai cp ti) ?_
    exact ⟨_,by omega,i + 1 + 1,rfl,by omega,rfl,by rw [hnx]; exact hd',by (exact inv0 (ai hu hf))⟩
 ·have hf':=row_end6 Sf.Pend.cells ps j' hge'
  rw [List.drop_of_length_le hge'] at hd'
  unfold Sf.pendsZ at hd'
  rw [← hd',if_neg (by simp)] at hq
  rw [hq] at co
  refine runx0 (ai hu (ai hf' li)) (ai co ti) ?_
  exact ⟨_,le_refl _,rfl⟩
end AX
end Go.Proofs.YteklhoajalgehaaGreatDoor

namespace Go.Proofs.YteklhoajalgehaaGreatDoor
open Go.RowKit
namespace AX
theorem le_z7 (v : V) : leL2 [v.A,.agg [.int .i64 0,.int .i64 0,.str [],.sl 0 .nil [],.sl 0 .nil []]] [v.A,(V.mk 0 0 [] [] []).A]:=by
 refine ⟨le2_refl _,?_,trivial⟩
 simp [le,leL2,le2,leL,le1,V.A,V.cells,V.cellss,strsA]
theorem z7_lens : (V.mk 0 0 [] [] []).lens:=by
 unfold V.lens
 simp [V.lensS]
theorem a_qnone (x : Sf.Inst) (hl : x.attrs.lens) (hd : x.deps.length ≤ 1000000000) (h : Hp) : ACall Tryz.prog GT 129 [.agg (Sf.Inst.cells x)] h fun r h' => r = .bool (Jr.noneR x) ∧ h' = h:=by
 have ce:=fun h => ACall.args (le_z7 x.attrs) (t_rEqual x.attrs (.mk 0 0 [] [] []) hl z7_lens h)
 unfold Jr.noneR
 obtain ⟨E,hE⟩ : ∃ E,Val.eqB x.attrs (.mk 0 0 [] [] []) = E:=⟨_,rfl⟩
 rw [hE]
 simp only [hE] at ce
 clear hE hl
 obtain ⟨a,d,i,t,⟨k,n,s,is,ks⟩,v,tn,fi,ds⟩:=x
 simp only [Sf.Inst.cells,V.A,V.cells] at ce hd ⊢
 have l3:=strsA_length ds
 refine pcall ?_ rfl (by simp [A.pure,A.data]) h
 refine fo ?_
 refine runx0 l3 (ai ce ti) ?_
 exact ⟨_,le_refl _,rfl⟩
theorem a_qempty (s : Sf.St) (hin : Sf.StIn s) (h : Hp) : ACall Tryz.prog GT 130 [s.A] h fun r h' => r = .bool (Jr.emptyR s) ∧ h' = h:=by
 obtain ⟨lin,ser,ins,ps,os⟩:=s
 obtain ⟨hl,hi,hp,ho,hni,hnp,hno⟩:=hin
 dsimp only at hni hnp hno
 have l1 : (ins.map Sf.Inst.cells).length = ins.length:=List.length_map _
 have l2 : (ps.map Sf.Pend.cells).length = ps.length:=List.length_map _
 have l3 : (os.map Sf.Outp.cells).length = os.length:=List.length_map _
 have w1 : IntKind.i64.wrap ((ins.length : Int) + (ps.length : Int)) = (ins.length : Int) + (ps.length : Int):=wrap64 (by omega) (by omega)
 have w2 : IntKind.i64.wrap ((ins.length : Int) + (ps.length : Int) + (os.length : Int)) = (ins.length : Int) + (ps.length : Int) + (os.length : Int):=wrap64 (by omega) (by omega)
 unfold Sf.St.A Jr.emptyR
 dsimp only
 refine pcall ?_ rfl (by simp [A.pure,A.data]) h
 refine fo ?_
 refine runx0 (ai l1 (ai l2 (ai l3 (ai w1 w2)))) ti ?_
 exact ⟨_,le_refl _,rfl⟩
theorem a_qshort (ks : List (List UInt8)) (hn : ks.length ≤ 1000000000) (h : Hp) : ACall Tryz.prog GT 196 [.sl 1 .no (strsA ks)] h fun r h' => r = .bool (Jr.shortB ks) ∧ h' = h:=by
 refine pcall ?_ rfl (by simp [A.pure,A.data]) h
 refine fo ?_
 obtain ⟨D,hD⟩ : ∃ D,Jr.shortB ks = D:=⟨_,rfl⟩
 rw [hD]
 have li : (strsA ks).length = ks.length:=strsA_length ks
 refine run0 li ?_
 refine awp_loop (fun mm ts h => ∃ (j : Nat),mm = ks.length - j ∧ j ≤ ks.length ∧ h = ⟨[],[]⟩ ∧ Jr.shortB (ks.drop j) = D ∧ (ts 0 = .sl 1 .no (strsA ks) ∧ ts 3 = .int .i64 (j : Nat))) ks.length ?_ ?_
 ·exact ⟨0,by omega,by omega,rfl,hD,by (exact inv0 li)⟩
 rintro mm ts h ⟨j,rfl,hjc,rfl,hit,ht⟩
 by_cases hj : j < ks.length
 ·have hf:=rowj_at (fun s : List UInt8 => [A.str s]) ks j hj (by omega)
  have hf' : (strsA ks).length = ks.length ∧ (j : Int) < (ks.length : Int) ∧ (0 : Int) ≤ (j : Int) ∧ (strsA ks).getD j [] = [.str ks[j]] ∧ IntKind.i64.wrap ((j : Int) + 1) = ((j + 1 : Nat) : Int):=hf
  clear hf
  rw [List.drop_eq_getElem_cons hj] at hit
  unfold Jr.shortB at hit
  rw [List.all_cons] at hit
  obtain ⟨x,hx⟩ : ∃ x,ks[j] = x:=⟨_,rfl⟩
  rw [hx] at hf' hit
  by_cases hK : (x.length : Int) > 4096
  ·have hK' : decide ((x.length : Int) ≤ 4096) = false:=by simpa using hK
   rw [hK',Bool.false_and] at hit
   subst hit
   refine runx0 (ai ht (ai hf' hK)) ti ?_
   exact ⟨_,le_refl _,rfl⟩
  ·have hK' : decide ((x.length : Int) ≤ 4096) = true:=by simpa using hK
   rw [hK',Bool.true_and] at hit
   refine runx0 (ai ht (ai hf' hK)) ti ?_
   exact ⟨ks.length - (j + 1),by omega,j + 1,rfl,by omega,rfl,hit,by (exact inv0 (ai ht hf'))⟩
 ·have hlt : ¬ ((j : Int) < (ks.length : Int)):=by omega
  rw [List.drop_eq_nil_of_le (by omega)] at hit
  unfold Jr.shortB at hit
  subst hit
  refine runx0 (ai ht (ai hlt li)) ti ?_
  exact ⟨_,le_refl _,rfl⟩
theorem a_qinst (x : Sf.Inst) (hl : x.attrs.lens) (hd : x.deps.length ≤ 1000000000) (h : Hp) : ACall Tryz.prog GT 132 [.agg (Sf.Inst.cells x)] h fun r h' => r = .bool (Jr.instB x) ∧ h' = h:=by
 obtain ⟨a,d,i,t,⟨k,n,s,is,ks⟩,v,tn,fi,ds⟩:=x
 have l3:=strsA_length ds
 have c1:=a_qshort [a,d,i,t] (by simp)
 have c2:=a_qshort ds hd
 have c3:=a_rCheck (.mk k n s is ks) hl
 simp only [V.A,V.cells] at c3
 unfold Sf.Inst.cells Jr.instB
 dsimp only
 obtain ⟨b1,h1⟩ : ∃ b,Jr.shortB [a,d,i,t] = b:=⟨_,rfl⟩
 obtain ⟨b2,h2⟩ : ∃ b,Jr.shortB ds = b:=⟨_,rfl⟩
 obtain ⟨Z,hZ⟩ : ∃ b,Val.checkZ (.mk k n s is ks) = b:=⟨_,rfl⟩
 rw [h1] at c1
 rw [h2] at c2
 rw [hZ] at c3
 rw [h1,h2,hZ]
 have c1' : ∀ h,ACall Tryz.prog GT 196 [.sl 1 .no [[.str a],[.str d],[.str i],[.str t]]] h fun r h' => r = .bool b1 ∧ h' = h:=c1
 refine pcall ?_ rfl (by simp [A.pure,A.data]) h
 refine fo ?_
 refine runx0 l3 (ai c1' (ai c2 (ai c3 ti))) ?_
 exact ⟨_,le_refl _,rfl⟩
theorem a_qstep (r : Jr) (hin : Sf.StIn r.base) (h : Hp) : ACall Tryz.prog GT 131 [.agg r.cells] h fun v h' => v = .bool r.stepR ∧ h' = h:=by
 have ce:=a_qempty r.base hin
 have c1:=a_qshort [r.addr,r.dep,r.typ,r.tok] (by simp)
 unfold Jr.stepR
 obtain ⟨b1,h1⟩ : ∃ b,Jr.shortB [r.addr,r.dep,r.typ,r.tok] = b:=⟨_,rfl⟩
 obtain ⟨e,he⟩ : ∃ b,Jr.emptyR r.base = b:=⟨_,rfl⟩
 rw [h1] at c1 ⊢
 rw [he] at ce ⊢
 clear h1 he hin
 obtain ⟨kd,⟨lin,ser,ins,ps,os⟩,st,op,ad,dp,ty,tk,er,⟨a,d,i,t,⟨k,n,s,is,ks⟩,v,tn,fi,ds⟩⟩:=r
 simp only [Jr.cells,Sf.Inst.cells,List.cons_append,List.nil_append,Sf.St.A] at ce c1 ⊢
 have c1' : ∀ h,ACall Tryz.prog GT 196 [.sl 1 .no [[.str ad],[.str dp],[.str ty],[.str tk]]] h fun r h' => r = .bool b1 ∧ h' = h:=c1
 refine pcall ?_ rfl (by simp [A.pure,A.data]) h
 refine fo ?_
 refine runx0 ti (ai ce (ai c1' ti)) ?_
 exact ⟨_,le_refl _,rfl⟩
theorem a_qvalid (r : Jr) (hin : JrIn r) (h : Hp) : ACall Tryz.prog GT 69 [.agg r.cells] h fun v h' => v = .bool r.validR ∧ h' = h:=by
 have ce:=a_qempty r.base hin.base
 have cn:=a_qnone r.after hin.lens hin.deps
 have ci:=a_qinst r.after hin.lens hin.deps
 have cs:=a_qstep r hin.base
 unfold Jr.validR
 obtain ⟨e,he⟩ : ∃ b,Jr.emptyR r.base = b:=⟨_,rfl⟩
 obtain ⟨n,hn⟩ : ∃ b,Jr.noneR r.after = b:=⟨_,rfl⟩
 obtain ⟨i,hi⟩ : ∃ b,Jr.instB r.after = b:=⟨_,rfl⟩
 obtain ⟨s,hs⟩ : ∃ b,r.stepR = b:=⟨_,rfl⟩
 rw [he] at ce; rw [hn] at cn; rw [hi] at ci; rw [hs] at cs
 rw [he,hn,hi,hs]
 clear he hn hi hs hin
 obtain ⟨kd,⟨lin,ser,ins,ps,os⟩,st,op,ad,dp,ty,tk,er,⟨a1,a2,a3,a4,⟨k,nn,ss,is,ks⟩,v,tn,fi,ds⟩⟩:=r
 simp only [Jr.cells,Sf.Inst.cells,List.cons_append,List.nil_append,Sf.St.A] at *
 refine pcall ?_ rfl (by simp [A.pure,A.data]) h
 refine fo ?_
 by_cases q1 : kd = 1
 ·rw [if_pos q1]
  obtain ⟨K,hK⟩ : ∃ K,(kd == 1) = K:=⟨_,rfl⟩
  have hKt : K = true:=by rw [← hK,q1]; rfl
  clear q1
  refine runx0 hK ti ?_
  (refine AX.alt0 ti ?_ ?_)
  rotate_left
  ·intro hc
   rw [hc] at hKt
   exact absurd hKt (by decide)
  intro hc
  refine runx0 hK ti ?_
  (refine AX.alt0 ti ?_ ?_)
  rotate_left
  ·intro hc
   rw [hc] at hKt
   exact absurd hKt (by decide)
  intro hc2
  refine runx0 hK (ai cn (ai ce ti)) ?_
  exact ⟨_,le_refl _,by rw [tupA_1,hc]; simp⟩
 have f1 : (kd == 1) = false:=by simp [q1]
 rw [if_neg q1]
 by_cases q5 : kd = 5
 ·subst q5
  rw [if_pos rfl]
  refine runx0 ti (ai cn (ai ce ti)) ?_
  exact ⟨_,le_refl _,by rw [tupA_1]⟩
 have f5 : (kd == 5) = false:=by simp [q5]
 rw [if_neg q5]
 by_cases q2 : kd = 2
 ·subst q2
  rw [if_pos rfl]
  refine runx0 ti (ai cs (ai cn ti)) ?_
  exact ⟨_,le_refl _,by rw [tupA_1]⟩
 have f2 : (kd == 2) = false:=by simp [q2]
 rw [if_neg q2]
 by_cases q3 : kd = 3
 ·subst q3
  rw [if_pos rfl]
  refine runx0 ti (ai cs (ai ci (ai cn ti))) ?_
  exact ⟨_,le_refl _,by rw [tupA_1]⟩
 have f3 : (kd == 3) = false:=by simp [q3]
 rw [if_neg q3]
 by_cases q4 : kd = 4
 ·subst q4
  rw [if_pos rfl]
  refine runx0 ti (ai cs (ai ci (ai cn ti))) ?_
  exact ⟨_,le_refl _,by rw [tupA_1]⟩
 have f4 : (kd == 4) = false:=by simp [q4]
 rw [if_neg q4]
 refine runx0 (ai f1 (ai f2 (ai f3 (ai f4 f5)))) ti ?_
 exact ⟨_,le_refl _,rfl⟩
def zeroJ : List A:=[.int .i64 0,.str [],.int .i64 0,.sl 0 .nil [],.sl 0 .nil [],.sl 0 .nil [],.int .i64 0,.int .i64 0,.str [],.str [],.str [],.str [],.int .i64 0,.str [],.str [],.str [],.str [],.int .i64 0,.int .i64 0,.str [],.sl 0 .nil [],.sl 0 .nil [],.int .i64 0,.bool false,.bool false,.sl 0 .nil []]
def intA (o : Option Jr) : A:=.tup [.agg (match o with
 | some r => r.cells
 | none => zeroJ),.bool o.isSome]
theorem intA_pure (o : Option Jr) : (intA o).pure = true:=by
 cases o with
 | none => decide
 | some r =>
  obtain ⟨kd,⟨lin,ser,ins,ps,os⟩,st,op,ad,dp,ty,tk,er,⟨a1,a2,a3,a4,⟨k,nn,ss,is,ks⟩,v,tn,fi,ds⟩⟩:=r
  simp [intA,Jr.cells,Sf.Inst.cells,A.pure,A.data]
theorem a_qintent (l : List Jr) (n : Int) (hl : l.length ≤ 1000000) (h : Hp) : ACall Tryz.prog GT 133 [.sl 26 .no (l.map Jr.cells),.int .i64 n] h fun v h' => v = intA (Jr.intentR l n) ∧ h' = h:=by
 refine pcall ?_ (intA_pure _) (by simp [A.pure,A.data]) h
 refine fo ?_
 obtain ⟨D,hD⟩ : ∃ D,Jr.intentR l n = D:=⟨_,rfl⟩
 rw [hD]
 have li : (l.map Jr.cells).length = l.length:=List.length_map _
 refine run0 li ?_
 refine awp_loop (fun mm ts h => ∃ (j : Nat),mm = l.length - j ∧ j ≤ l.length ∧ h = ⟨[.cells 75 zeroJ],[]⟩ ∧ Jr.intentR (l.drop j) n = D ∧ (ts 0 = .sl 26 .no (l.map Jr.cells) ∧ ts 1 = .int .i64 n ∧ ts 4 = .ptr 0 0 ∧ ts 6 = .int .i64 (j : Nat))) l.length ?_ ?_
 ·exact ⟨0,by omega,by omega,rfl,hD,by (exact inv0 li)⟩
 rintro mm ts h ⟨j,rfl,hjc,rfl,hit,ht⟩
 unfold zeroJ
 rcases Nat.lt_or_ge j l.length with hlt | hge
 ·have hf:=rowj_at Jr.cells l j hlt (by omega)
  rw [List.drop_eq_getElem_cons hlt] at hit
  unfold Jr.intentR at hit
  rw [List.find?_cons] at hit
  obtain ⟨r,hr⟩ : ∃ r,l[j] = r:=⟨_,rfl⟩
  rw [hr] at hf hit
  have hi : Jr.isInt n r = (r.kind == 2 && r.step == n):=rfl
  have fin : Jr.isInt n r = true → A.tup [.agg r.cells,.bool true] = intA D:=fun e => by
   rw [e] at hit; rw [← hit]; rfl
  have go : Jr.isInt n r = false → Jr.intentR (l.drop (j + 1)) n = D:=fun e => by
   rw [e] at hit; exact hit
  rw [hi] at fin go
  clear hit hr hi
  obtain ⟨kd,⟨lin,ser,ins,ps,os⟩,st,op,ad,dp,ty,tk,er,⟨a1,a2,a3,a4,⟨k,nn,ss,is,ks⟩,v,tn,fi,ds⟩⟩:=r
  simp only [Jr.cells,Sf.Inst.cells,List.cons_append,List.nil_append] at hf fin
  dsimp only at fin go
  refine runx0 (ai ht hf) ti ?_
  (refine AX.alt0 ht ?_ ?_)
  ·intro hb
   refine runx0 (ai ht hf) ti ?_
   exact ⟨_,le_refl _,fin hb⟩
  ·intro hb
   refine runx0 (ai ht hf) ti ?_
   exact ⟨_,by omega,j + 1,rfl,by omega,rfl,go hb,by (exact inv0 (ai ht hf))⟩
 have hf:=rowj_end Jr.cells l j hge
 rw [List.drop_eq_nil_of_le (by omega)] at hit
 unfold Jr.intentR at hit
 rw [List.find?_nil] at hit
 subst hit
 refine runx0 (ai ht hf) ti ?_
 exact ⟨_,le_refl _,rfl⟩
theorem a_qresult (l : List Jr) (n : Int) (hl : l.length ≤ 1000000) (h : Hp) : ACall Tryz.prog GT 72 [.sl 26 .no (l.map Jr.cells),.int .i64 n] h fun v h' => v = .bool (Jr.endedB n l) ∧ h' = h:=by
 refine pcall ?_ rfl (by simp [A.pure,A.data]) h
 refine fo ?_
 obtain ⟨D,hD⟩ : ∃ D,Jr.endedB n l = D:=⟨_,rfl⟩
 rw [hD]
 have li : (l.map Jr.cells).length = l.length:=List.length_map _
 refine run0 li ?_
 refine awp_loop (fun mm ts h => ∃ (j : Nat),mm = l.length - j ∧ j ≤ l.length ∧ h = ⟨[],[]⟩ ∧ Jr.endedB n (l.drop j) = D ∧ (ts 0 = .sl 26 .no (l.map Jr.cells) ∧ ts 1 = .int .i64 n ∧ ts 5 = .int .i64 (j : Nat))) l.length ?_ ?_
 ·exact ⟨0,by omega,by omega,rfl,hD,by (exact inv0 li)⟩
 rintro mm ts h ⟨j,rfl,hjc,rfl,hit,ht⟩
 rcases Nat.lt_or_ge j l.length with hlt | hge
 ·have hf:=rowj_at Jr.cells l j hlt (by omega)
  rw [List.drop_eq_getElem_cons hlt] at hit
  unfold Jr.endedB at hit
  rw [List.any_cons] at hit
  obtain ⟨r,hr⟩ : ∃ r,l[j] = r:=⟨_,rfl⟩
  rw [hr] at hf hit
  have fin : ((r.kind == 3 || r.kind == 4) && r.step == n) = true → true = D:=fun e => by
   rw [e] at hit; rw [← hit]; rfl
  have go : ((r.kind == 3 || r.kind == 4) && r.step == n) = false → Jr.endedB n (l.drop (j + 1)) = D:=fun e => by
   rw [e] at hit; exact hit
  clear hit hr
  obtain ⟨kd,⟨lin,ser,ins,ps,os⟩,st,op,ad,dp,ty,tk,er,⟨a1,a2,a3,a4,⟨k,nn,ss,is,ks⟩,v,tn,fi,ds⟩⟩:=r
  simp only [Jr.cells,Sf.Inst.cells,List.cons_append,List.nil_append] at hf
  dsimp only at fin go
  refine runx0 (ai ht hf) ti ?_
  (refine AX.alt0 ht ?_ ?_)
  ·intro hb
   refine runx0 (ai ht hf) ti ?_
   exact ⟨_,le_refl _,by rw [tupA_1,← fin hb]⟩
  ·intro hb
   refine runx0 (ai ht hf) ti ?_
   exact ⟨_,by omega,j + 1,rfl,by omega,rfl,go hb,by (exact inv0 (ai ht hf))⟩
 have hf:=rowj_end Jr.cells l j hge
 rw [List.drop_eq_nil_of_le (by omega)] at hit
 unfold Jr.endedB at hit
 rw [List.any_nil] at hit
 subst hit
 refine runx0 (ai ht hf) ti ?_
 exact ⟨_,le_refl _,rfl⟩
theorem a_qunfin (l : List Jr) (hl : l.length ≤ 1000000) (h : Hp) : ACall Tryz.prog GT 34 [.sl 26 .no (l.map Jr.cells)] h fun v h' => v = .sl 26 .no ((Jr.unfin l).map Jr.cells) ∧ h' = h:=by
 refine pcall ?_ rfl (by simp [A.pure,A.data]) h
 refine fo ?_
 have li : (l.map Jr.cells).length = l.length:=List.length_map _
 refine run0 li ?_
 refine awp_loop (fun m ts hh => ∃ (j : Nat) (W : Nat) (o : Own) (l' : List Blk) (t : List (TypeId × Nat × Nat)),m = l.length - j ∧ j ≤ l.length ∧ hh = ⟨l',t⟩ ∧ Gs 75 26 0 ⟨[],t⟩ (((l.take j).filter fun r => r.kind == 2 && !Jr.endedB r.step l).map Jr.cells) (.sl W o (((l.take j).filter fun r => r.kind == 2 && !Jr.endedB r.step l).map Jr.cells)) ∧
  (ts 0 = .sl 26 .no (l.map Jr.cells) ∧ ts 3 = .sl W o (((l.take j).filter fun r => r.kind == 2 && !Jr.endedB r.step l).map Jr.cells) ∧ ts 4 = .int .i64 (j : Nat))) l.length ?_ ?_
 ·exact ⟨0,0,.nil,[],[],rfl,Nat.zero_le _,rfl,.inl ⟨rfl,rfl⟩,by (exact inv0 li)⟩
 rintro m ts hh ⟨j,W,o,l',t,rfl,hj,rfl,gX,ht⟩
 rcases Nat.lt_or_ge j l.length with hlt | hge
 rotate_left
 ·have hf:=rowj_end Jr.cells l j hge
  rw [List.take_of_length_le hge] at gX ht
  have lX:=Gs.le gX
  refine run0 (ai ht hf) ?_
  exact ⟨.sl 26 .no ((Jr.unfin l).map Jr.cells),lX,rfl⟩
 have hf:=rowj_at Jr.cells l j hlt (by omega)
 have es : l.take (j + 1) = l.take j ++ [l[j]]:=(List.take_append_getElem hlt).symm
 have em : ((l.take (j + 1)).filter fun r => r.kind == 2 && !Jr.endedB r.step l) = ((l.take j).filter fun r => r.kind == 2 && !Jr.endedB r.step l) ++ (if (l[j].kind == 2 && !Jr.endedB l[j].step l) = true then [l[j]] else []):=by
  rw [es,List.filter_append,List.filter_cons,List.filter_nil]
 have hlen : ((l.take j).filter fun r => r.kind == 2 && !Jr.endedB r.step l).length ≤ j:=Nat.le_trans (List.length_filter_le _ _) (by rw [List.length_take]; omega)
 obtain ⟨F,hF⟩ : ∃ F,((l.take j).filter fun r => r.kind == 2 && !Jr.endedB r.step l) = F:=⟨_,rfl⟩
 rw [hF] at gX ht em hlen
 obtain ⟨W',o',t',hX,gX',_⟩:=gX.grow 376 (Jr.cells l[j]) (by rw [List.length_map]; omega) (by decide)
 have cr:=a_qresult l l[j].step hl
 obtain ⟨r,hr⟩ : ∃ r,l[j] = r:=⟨_,rfl⟩
 rw [hr] at hf em hX gX' cr
 clear hr es
 obtain ⟨B,hB⟩ : ∃ B,Jr.endedB r.step l = B:=⟨_,rfl⟩
 rw [hB] at em cr
 clear hB
 have em2 : F.map Jr.cells ++ [r.cells] = (F ++ [r]).map Jr.cells:=by simp
 rw [em2] at gX'
 simp only [em2] at hX
 obtain ⟨F2,hF2⟩ : ∃ F2,F ++ [r] = F2:=⟨_,rfl⟩
 rw [hF2] at gX' hX
 have em3 : (r.kind == 2 && !B) = true → ((l.take (j + 1)).filter fun r => r.kind == 2 && !Jr.endedB r.step l) = F2:=fun hb => by rw [em,if_pos hb,hF2]
 have em4 : (r.kind == 2 && !B) = false → ((l.take (j + 1)).filter fun r => r.kind == 2 && !Jr.endedB r.step l) = F:=fun hb => by rw [em,if_neg (by rw [hb]; decide)]; simp
 clear em em2 hF2
 obtain ⟨kd,⟨lin,ser,ins,ps,os⟩,st,op,ad,dp,ty,tk,er,⟨a1,a2,a3,a4,⟨k,nn,ss,is,ks⟩,v,tn,fi,ds⟩⟩:=r
 simp only [Jr.cells,Sf.Inst.cells,List.cons_append,List.nil_append] at hf hX
 dsimp only at em3 em4 cr
 refine runx0 (ai ht hf) (ai cr ti) ?_
 (refine AX.alt0 ht ?_ ?_)
 ·intro hb
  refine runc0 (ai ht (ai hf hX)) ti ?_
  exact ⟨_,by omega,j + 1,W',o',_,t',rfl,by omega,rfl,by rw [em3 hb]; exact gX',by rw [em3 hb]; (exact inv0 (ai ht hf))⟩
 ·intro hb
  refine runx0 (ai ht hf) ti ?_
  exact ⟨_,by omega,j + 1,W,o,_,t,rfl,by omega,rfl,by rw [em4 hb]; exact gX,by rw [em4 hb]; (exact inv0 (ai ht hf))⟩
theorem a_qfollows (p : List Jr) (r : Jr) (hl : p.length ≤ 1000000) (h : Hp) : ACall Tryz.prog GT 70 [.sl 26 .no (p.map Jr.cells),.agg r.cells] h fun v h' => v = .bool (Jr.followsR p r) ∧ h' = h:=by
 have ci:=a_qintent p r.step hl
 have cr:=a_qresult p r.step hl
 have cu:=a_qunfin p hl
 have hlu : ((((Jr.unfin p).map Jr.cells).length : Int) == 0) = (Jr.unfin p).isEmpty:=by
  rw [List.length_map]
  cases Jr.unfin p <;> simp
  omega
 have lp : (p.map Jr.cells).length = p.length:=List.length_map _
 unfold Jr.followsR
 obtain ⟨U,hU⟩ : ∃ U,(Jr.unfin p).map Jr.cells = U:=⟨_,rfl⟩
 rw [hU] at hlu cu
 obtain ⟨UE,hUE⟩ : ∃ U,(Jr.unfin p).isEmpty = U:=⟨_,rfl⟩
 rw [hUE] at hlu ⊢
 obtain ⟨R,hR⟩ : ∃ R,Jr.endedB r.step p = R:=⟨_,rfl⟩
 rw [hR] at cr ⊢
 obtain ⟨O,hO⟩ : ∃ O,Jr.intentR p r.step = O:=⟨_,rfl⟩
 rw [hO] at ci ⊢
 clear hU hUE hR hO
 obtain ⟨kd,⟨lin,ser,ins,ps,os⟩,st,op,ad,dp,ty,tk,er,⟨a1,a2,a3,a4,⟨k,nn,ss,is,ks⟩,v,tn,fi,ds⟩⟩:=r
 simp only [Jr.cells,Sf.Inst.cells,List.cons_append,List.nil_append] at ci cr cu ⊢
 refine pcall ?_ rfl (by simp [A.pure,A.data]) h
 refine fo ?_
 by_cases hp0 : p = []
 ·subst hp0
  obtain ⟨K,hK⟩ : ∃ K,(kd == 1) = K:=⟨_,rfl⟩
  rw [hK]
  have z0 : (((0 : Nat) : Int) == 0) = true:=rfl
  refine runx0 (ai hK (ai lp z0)) ti ?_
  exact ⟨_,le_refl _,by cases K <;> rfl⟩
 ·have hpos : 0 < p.length:=List.length_pos_iff.2 hp0
  have hE : p.isEmpty = false:=by cases p; exact absurd rfl hp0; rfl
  have hlt : p.length - 1 < p.length:=by omega
  have hle : Jr.lastEnd p = (p[p.length - 1].kind == 5):=by
   unfold Jr.lastEnd
   rw [List.getLast?_eq_getElem?,List.getElem?_eq_getElem hlt]
  have hz : ((p.length : Int) == 0) = false:=by simp; exact hp0
  have hf:=rowj_at Jr.cells p (p.length - 1) hlt (by omega)
  have hw : IntKind.i64.wrap ((p.length : Int) - 1) = ((p.length - 1 : Nat) : Int):=by rw [wrap64 (by omega) (by omega)]; omega
  rw [hE]
  by_cases q1 : kd = 1
  ·subst q1
   refine runx0 (ai lp hz) ti ?_
   exact ⟨_,le_refl _,rfl⟩
  have f1 : (kd == 1) = false:=by simp [q1]
  rw [f1]
  obtain ⟨z,hzr⟩ : ∃ z,p[p.length - 1] = z:=⟨_,rfl⟩
  rw [hzr] at hf hle
  obtain ⟨L,hL⟩ : ∃ L,Jr.lastEnd p = L:=⟨_,rfl⟩
  rw [hL] at hle ⊢
  obtain ⟨J,hJ⟩ : ∃ J : Nat,p.length - 1 = J:=⟨_,rfl⟩
  rw [hJ] at hf hw
  clear hJ hzr hL hlt hE hp0
  obtain ⟨kz,⟨zlin,zser,zins,zps,zos⟩,zst,zop,zad,zdp,zty,ztk,zer,⟨za1,za2,za3,za4,⟨zk,znn,zss,zis,zks⟩,zv,ztn,zfi,zds⟩⟩:=z
  simp only [Jr.cells,Sf.Inst.cells,List.cons_append,List.nil_append] at hf
  dsimp only at hle
  replace hle:=hle.symm
  cases L with
  | true =>
   refine runx0 (ai lp (ai hz (ai f1 (ai hw (ai hf hle))))) ti ?_
   exact ⟨_,le_refl _,rfl⟩
  | false =>
   cases O with
   | none =>
    unfold intA zeroJ at ci
    dsimp only [Option.isSome] at ci ⊢
    by_cases q2 : kd = 2
    ·subst q2
     refine runx0 (ai lp (ai hz (ai hw (ai hf hle)))) (ai ci ti) ?_
     exact ⟨_,le_refl _,rfl⟩
    have f2 : (kd == 2) = false:=by simp [q2]
    by_cases q5 : kd = 5
    ·subst q5
     refine runx0 (ai lp (ai hz (ai hw (ai hf (ai hle hlu))))) (ai ci (ai cu ti)) ?_
     exact ⟨_,le_refl _,rfl⟩
    have f5 : (kd == 5) = false:=by simp [q5]
    obtain ⟨I,hI⟩ : ∃ I,false = I:=⟨_,rfl⟩
    simp only [hI] at ci
    refine runx0 (ai lp (ai hz (ai f1 (ai f2 (ai f5 (ai hw (ai hf hle))))))) (ai ci (ai cr ti)) ?_
    exact ⟨_,le_refl _,by rw [tupA_1,← hI]; simp [q2,q5]⟩
   | some x =>
    unfold intA at ci
    obtain ⟨kx,⟨xlin,xser,xins,xps,xos⟩,xst,xop,xad,xdp,xty,xtk,xer,⟨xa1,xa2,xa3,xa4,⟨xk,xnn,xss,xis,xks⟩,xv,xtn,xfi,xds⟩⟩:=x
    simp only [Jr.cells,Sf.Inst.cells,List.cons_append,List.nil_append] at ci
    dsimp only [Option.isSome] at ci ⊢
    by_cases q2 : kd = 2
    ·subst q2
     refine runx0 (ai lp (ai hz (ai hw (ai hf hle)))) (ai ci ti) ?_
     exact ⟨_,le_refl _,rfl⟩
    have f2 : (kd == 2) = false:=by simp [q2]
    by_cases q5 : kd = 5
    ·subst q5
     refine runx0 (ai lp (ai hz (ai hw (ai hf (ai hle hlu))))) (ai ci (ai cu ti)) ?_
     exact ⟨_,le_refl _,rfl⟩
    have f5 : (kd == 5) = false:=by simp [q5]
    obtain ⟨I,hI⟩ : ∃ I,true = I:=⟨_,rfl⟩
    simp only [hI] at ci
    refine runx0 (ai lp (ai hz (ai f1 (ai f2 (ai f5 (ai hw (ai hf hle))))))) (ai ci (ai cr ti)) ?_
    exact ⟨_,le_refl _,by rw [tupA_1,← hI]; simp [q2,q5,Bool.and_assoc]⟩
theorem a_qcheck (l : List Jr) (hin : ∀ r ∈ l,JrIn r ∧ Sf.TypIn r.base) (hl : l.length ≤ 1000000) (h : Hp) : ACall Tryz.prog GT 32 [.sl 26 .no (l.map Jr.cells)] h fun v h' => v = .int .i64 (Jr.chkR [] l) ∧ h' = h:=by
 refine pcall ?_ rfl (by simp [A.pure,A.data]) h
 refine fo ?_
 obtain ⟨D,hD⟩ : ∃ D,Jr.chkR [] l = D:=⟨_,rfl⟩
 rw [hD]
 have li : (l.map Jr.cells).length = l.length:=List.length_map _
 refine run0 li ?_
 refine awp_loop (fun mm ts h => ∃ (j : Nat) (hp : Hp),mm = l.length - j ∧ j ≤ l.length ∧ h = hp ∧ Jr.chkR (l.take j) (l.drop j) = D ∧ (ts 0 = .sl 26 .no (l.map Jr.cells) ∧ ts 3 = .int .i64 (j : Nat))) l.length ?_ ?_
 ·exact ⟨0,_,by omega,by omega,rfl,hD,by (exact inv0 li)⟩
 rintro mm ts h ⟨j,hp,rfl,hjc,rfl,hit,ht⟩
 rcases Nat.lt_or_ge j l.length with hlt | hge
 ·have hf:=rowj_at Jr.cells l j hlt (by omega)
  have hr:=hin _ (List.getElem_mem hlt)
  have es : l.take (j + 1) = l.take j ++ [l[j]]:=(List.take_append_getElem hlt).symm
  rw [List.drop_eq_getElem_cons hlt] at hit
  unfold Jr.chkR at hit
  rw [← es] at hit
  have cv:=a_qvalid l[j] hr.1
  have cs:=a_r31check l[j].base hr.1.base hr.2
  have cf:=a_qfollows (l.take j) l[j] (by rw [List.length_take]; omega)
  have hS : sslA 26 none (some (.int .i64 (j : Int))) (.sl 26 .no (l.map Jr.cells)) = some (.sl 26 .no ((l.take j).map Jr.cells)):=by
   unfold sslA
   dsimp only [Option.getD]
   rw [li,if_pos ⟨by omega,by omega,by omega,.inl rfl⟩]
   simp [List.map_take]
  obtain ⟨r,hr⟩ : ∃ r,l[j] = r:=⟨_,rfl⟩
  rw [hr] at hf hit cv cs cf
  obtain ⟨F,hF⟩ : ∃ F,Jr.followsR (l.take j) r = F:=⟨_,rfl⟩
  rw [hF] at hit cf
  obtain ⟨T,hT⟩ : ∃ T,(l.take j).map Jr.cells = T:=⟨_,rfl⟩
  rw [hT] at cf hS
  obtain ⟨B,hB⟩ : ∃ B,r.validR = B:=⟨_,rfl⟩
  rw [hB] at hit cv
  obtain ⟨Z,hZ⟩ : ∃ Z,Sf.checkZ r.base = Z:=⟨_,rfl⟩
  rw [hZ] at hit cs
  clear hr es hF hT hB hZ
  obtain ⟨kd,⟨lin,ser,ins,ps,os⟩,st,op,ad,dp,ty,tk,er,⟨a1,a2,a3,a4,⟨k,nn,ss,is,ks⟩,v,tn,fi,ds⟩⟩:=r
  simp only [Jr.cells,Sf.Inst.cells,List.cons_append,List.nil_append,Sf.St.A] at hf cv cs cf
  dsimp only at hit
  have pk : (if (!B) = true then A.bool true else A.when B (if (kd == 1) = true then A.when (B && kd == 1) (A.bool (Z != 0)) else A.bool false)) = A.bool (!B || (kd == 1 && Z != 0)):=by
   cases B <;> cases (kd == 1) <;> rfl
  refine runx0 (ai ht (ai hf pk)) (ai cv (ai cs ti)) ?_
  (refine AX.alt0 ht ?_ ?_)
  ·intro hb
   rw [if_pos hb] at hit
   subst hit
   refine runx0 (ai ht hf) ti ?_
   exact ⟨_,le_refl _,rfl⟩
  intro hb
  rw [if_neg (by rw [hb]; decide)] at hit
  refine runx0 (ai ht (ai hf hS)) (ai cf ti) ?_
  cases F with
  | false =>
   rw [if_neg (by decide)] at hit
   subst hit
   refine runx0 (ai ht hf) ti ?_
   exact ⟨_,le_refl _,rfl⟩
  | true =>
   rw [if_pos rfl] at hit
   refine runx0 (ai ht hf) ti ?_
   exact ⟨_,by omega,j + 1,_,rfl,by omega,rfl,hit,by (exact inv0 (ai ht hf))⟩
 have hf:=rowj_end Jr.cells l j hge
 rw [List.drop_eq_nil_of_le (by omega)] at hit
 unfold Jr.chkR at hit
 subst hit
 refine runx0 (ai ht hf) ti ?_
 exact ⟨_,le_refl _,rfl⟩
end AX
end Go.Proofs.YteklhoajalgehaaGreatDoor
