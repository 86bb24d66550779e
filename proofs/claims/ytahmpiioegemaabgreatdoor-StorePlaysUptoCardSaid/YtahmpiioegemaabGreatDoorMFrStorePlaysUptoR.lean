/- Part of what the proof needs. -/
import Derived.Test.YtahmpiioegemaabGreatDoorMFrStorePlaysUptoP
import Derived.Test.YtahmpiioegemaabGreatDoorMFrStorePlaysUptoQ
set_option maxHeartbeats 4000000
set_option linter.unusedSimpArgs false
set_option linter.unusedVariables false
set_option linter.unnecessarySimpa false
namespace Go.Proofs.YtahmpiioegemaabGreatDoor
open Go.RowKit
namespace AX
def c_afmtkey:AX.AFn:=⟨26,aS [aR 1 (.box 147 (.t 0)),aR 2 (.mv (.c (.str [])))] (.seq (.block 0 (aS [aR 4 (.load true 3 (.t 1)),aR 5 (.call 207 [.t 4]),aR 6 (.un .not (.t 5)),aM 7 6,aG 8 (.faddr 0 (.t 1)) 7 false,aG 9 (.load false 1 (.t 8)) 7 false,aG 10 (.bin .eql (.t 9) (aI 0)) 7 false,aR 11 (.pick (.t 7) (.c (.bool true)) (.t 10)),aM 3 11] (.cond (.t 3) (aS [aR 2 (.mv (.c (.str [])))] (.ret)) (aS [aF 13 0 1,aL 14 13,aR 15 (.bin .eql (.t 14) (aI 1)),aM 12 15] (.cond (.t 12) (aS [aF 16 1 1,aL 17 16,aR 18 (.call 208 [.t 17]),aR 19 (.bin .add (.c (.str [91])) (.t 18)),aR 20 (.bin .add (.t 19) (.c (.str [93]))),aM 2 20] (.ret)) (.skip)))))) (aS [aF 21 2 1,aL 22 21,aR 23 (.call 168 [.t 22]),aR 24 (.bin .add (.c (.str [91])) (.t 23)),aR 25 (.bin .add (.t 24) (.c (.str [93]))),aM 2 25] (.ret))),[.t 2]⟩
theorem h_afmtkey:AX.compFn Tryz.prog 183=some c_afmtkey:=by kernel_rfl
def c_aStatic:AX.AFn:=⟨17,aS [aR 2 (.mv (.c (.str []))),aR 3 (.mv (aI 0))] (aS [aM 7 0,aR 8 (.call 105 [.t 7]),aM 6 8,aE 9 6 0,aE 10 6 1,aR 4 (.alloc 149 [.sl 0 .nil [],.bool false,.str [],.str [],.int .i64 0,.int .i64 0,.str []]),aU (.store 7 (.t 4) (.t 9)),aM 5 10] (.seq (aS [aM 11 5,aR 12 (.bin .neq (.t 11) (aI 0))] (.cond (.t 12) (aS [aM 13 5,aR 2 (.mv (.c (.str []))),aM 3 13] (.ret)) (.skip))) (aS [aR 14 (.load true 7 (.t 4)),aR 15 (.call 163 [.t 14]),aR 16 (.call 162 [.t 15]),aM 2 16,aR 3 (.mv (aI 0))] (.ret)))),[.t 2,.t 3]⟩
theorem h_aStatic:AX.compFn Tryz.prog 134=some c_aStatic:=by kernel_rfl
structure Adr.In (a:Adr.Ad):Prop where
 n:a.mods.length≤3000000
 m:∀ s∈a.mods,s.name.length≤2000000∧s.key.str.length≤2000000
 t:a.type.length≤2000000
 nm:a.name.length≤2000000
 k:a.key.str.length≤2000000
theorem a_acheck (a:Adr.Ad) (hi:Adr.In a) (h:Hp):ACall Tryz.prog GT 182 [.agg a.cells] h fun r h'=>r = .int .i64 (Adr.check a)∧h'=h:=by
 obtain ⟨mods,data,ty,nm,⟨kk,kn,ks⟩⟩:=a
 obtain ⟨hn,hm,ht,ha,hk⟩:=hi
 dsimp only at hn hm ht ha hk
 refine pcall ?_ rfl (by simp [A.pure,A.data,Adr.Ad.cells]) h
 refine fo ?_
 dsimp only [Adr.Ad.cells]
 have lm:(mods.map Adr.Step.cells).length=mods.length:=List.length_map ..
 obtain ⟨Z,hZ⟩:∃ Z,Adr.check ⟨mods,data,ty,nm,⟨kk,kn,ks⟩⟩=Z:=⟨_,rfl⟩
 rw [hZ]
 unfold Adr.check at hZ
 dsimp only at hZ
 by_cases h16:(mods.length:Int) > 16
 ·rw [if_pos (by omega)] at hZ
  subst hZ
  refine run0 (ai lm h16) ?_
  exact ⟨_,le_refl _,rfl⟩
 rw [if_neg (by omega)] at hZ
 have ck:=fun h=>a_kind ty ht h
 have ci:=fun h=>a_ident nm ha h
 have cv:=fun h=>a_avalid ⟨kk,kn,ks⟩ hk h
 unfold Adr.K.A at cv
 dsimp only at cv
 refine run0 (ai lm h16) ?_
 refine awp_loop (fun mm ts h=>∃ (j:Nat) (l:List Blk),mm=mods.length - j∧j≤mods.length∧h=⟨.cells 149 [.sl 4 .no (mods.map Adr.Step.cells),.bool data,.str ty,.str nm,.int .i64 kk,.int .i64 kn,.str ks]::l,[]⟩ ∧
  (match (mods.drop j).find? (fun s=>!(Adr.ident s.name&&Adr.keyOk s.key)) with
  | some s=>if Adr.ident s.name then (1:Int) else 7
  | none=>if !Adr.kindB ty||!Adr.ident nm then 7 else if !Adr.keyOk ⟨kk,kn,ks⟩ then 1 else 0)=Z ∧
  ts 1 = .ptr 0 0∧ts 10 = .sl 4 .no (mods.map Adr.Step.cells)∧ts 11 = .int .i64 (mods.length:Nat)∧ts 12 = .int .i64 (j:Nat)) mods.length ?_ ?_
 ·exact ⟨0,[],by omega,by omega,rfl,hZ,by (exact ev0 ti),by (exact ev0 ti),by (exact ev0 lm),by (exact inv0 ti)⟩
 rintro mm ts h ⟨j,l,rfl,hjc,rfl,hit,t1,t10,t11,t12⟩
 by_cases hj:j < mods.length
 ·have hlt:(j:Int) < (mods.length:Int):=by omega
  have hlt':(j:Int) < ((mods.map Adr.Step.cells).length:Int):=by rw [lm]; exact hlt
  have hj0:(0:Int)≤(j:Int):=by omega
  have ei:IntKind.i64.wrap ((j:Int)+1)=((j+1:Nat):Int):=by rw [wrap64 (by omega) (by omega)]; omega
  have hg:=map_getD Adr.Step.cells mods j hj
  have hmj:=hm _ (List.getElem_mem hj)
  rw [List.drop_eq_getElem_cons hj,List.find?_cons] at hit
  obtain ⟨x,hx⟩:∃ x,mods[j]=x:=⟨_,rfl⟩
  rw [hx] at hg hmj hit
  obtain ⟨xn,⟨xk,xm,xs⟩⟩:=x
  dsimp only [Adr.Step.cells] at hg hmj hit
  have cxi:=fun h=>a_ident xn hmj.1 h
  have cxv:=fun h=>a_avalid ⟨xk,xm,xs⟩ hmj.2 h
  unfold Adr.K.A at cxv
  dsimp only at cxv
  obtain ⟨I,hI⟩:∃ I,Adr.ident xn=I:=⟨_,rfl⟩
  obtain ⟨K,hK⟩:∃ K,Adr.keyOk ⟨xk,xm,xs⟩=K:=⟨_,rfl⟩
  rw [hI] at cxi hit
  rw [hK] at cxv hit
  refine run0 (ai t1 (ai t10 (ai t11 (ai t12 (ai hlt (ai hlt' (ai hj0 hg))))))) ?_
  refine use (cxi _) ?_
  cases I
  ·simp only [Bool.false_and,Bool.not_false] at hit
   rw [hI] at hit
   simp only [Bool.false_eq_true,if_false] at hit
   subst hit
   refine run0 (ai t1 (ai t10 (ai t11 t12))) ?_
   exact ⟨_,le_refl _,rfl⟩
  refine run0 (ai t1 (ai t10 (ai t11 t12))) ?_
  refine use (cxv _) ?_
  cases K
  ·simp only [Bool.and_false,Bool.not_false] at hit
   rw [hI] at hit
   simp only [if_true] at hit
   subst hit
   refine run0 (ai t1 (ai t10 (ai t11 t12))) ?_
   exact ⟨_,le_refl _,rfl⟩
  ·simp only [Bool.and_true,Bool.not_true] at hit
   refine run0 (ai t1 (ai t10 (ai t11 (ai t12 ei)))) ?_
   exact ⟨mods.length - (j+1),by omega,j+1,_,rfl,by omega,rfl,hit,by (exact ev0 t1),by (exact ev0 t10),by (exact ev0 t11),by (exact ev0 ei)⟩
 ·have hlt:¬ ((j:Int) < (mods.length:Int)):=by omega
  rw [List.drop_eq_nil_of_le (by omega)] at hit
  simp only [List.find?_nil] at hit
  refine run0 (ai t1 (ai t10 (ai t11 (ai t12 hlt)))) ?_
  refine use (ck _) ?_
  cases hkb:Adr.kindB ty
  ·rw [hkb] at hit
   rw [if_pos (by simp)] at hit
   subst hit
   refine run0 (ai t1 (ai t10 (ai t11 t12))) ?_
   exact ⟨_,le_refl _,rfl⟩
  rw [hkb] at hit
  refine run0 (ai t1 (ai t10 (ai t11 t12))) ?_
  refine use (ci _) ?_
  cases hib:Adr.ident nm
  ·rw [hib] at hit
   rw [if_pos (by simp)] at hit
   subst hit
   refine run0 (ai t1 (ai t10 (ai t11 t12))) ?_
   exact ⟨_,le_refl _,rfl⟩
  rw [hib] at hit
  rw [if_neg (by simp)] at hit
  refine run0 (ai t1 (ai t10 (ai t11 t12))) ?_
  refine use (cv _) ?_
  cases hvb:Adr.keyOk ⟨kk,kn,ks⟩
  ·rw [hvb] at hit
   rw [if_pos (by simp)] at hit
   subst hit
   refine run0 (ai t1 (ai t10 (ai t11 t12))) ?_
   exact ⟨_,le_refl _,rfl⟩
  ·rw [hvb] at hit
   rw [if_neg (by simp)] at hit
   subst hit
   refine run0 (ai t1 (ai t10 (ai t11 t12))) ?_
   exact ⟨_,le_refl _,rfl⟩
theorem a_fmtkey0 (h:Hp):ACall Tryz.prog GT 183 [.agg [.int .i64 0,.int .i64 0,.str []]] h fun r h'=>r = .str []∧h'=h:=by
 refine pcall ?_ rfl (by simp [A.pure,A.data]) h
 refine acall_of mixedT h_afmtkey (by simp [c_afmtkey]) ?_
 dsimp only [c_afmtkey]
 have cv:=fun h=>a_avalid Adr.K.none (by unfold Adr.K.none; simp) h
 have e1:Adr.keyOk Adr.K.none=true:=by decide
 rw [e1] at cv
 unfold Adr.K.A Adr.K.none at cv
 dsimp only at cv
 refine run0 ti ?_
 refine use (cv _) ?_
 refine run0 ti ?_
 exact ⟨_,le_refl _,rfl⟩
def Bw (acc:List UInt8) (w:Blk):Prop:=w=bwt acc∨(acc=[]∧w = .cells 162 [.nilp,.sl 0 .nil []])
theorem Bw.bt {acc:List UInt8} {w B0:Blk} {l:List Blk} {t:List (TypeId×Nat×Nat)} (hw:Bw acc w):Bt ⟨B0::w::l,t⟩ 1 acc:=by
 rcases hw with rfl | ⟨rfl,rfl⟩
 ·exact .inl rfl
 ·exact .inr ⟨rfl,rfl⟩
def stepB (s:Adr.Step):List UInt8:=Adr.modW++s.name++[46]
theorem fmt_bare (mods:List Adr.Step) (data:Bool) (ty nm:List UInt8) (hk:∀ s∈mods,s.key=Adr.K.none) (hc:Adr.check ⟨mods,data,ty,nm,Adr.K.none⟩=0) :
  Adr.fmt ⟨mods,data,ty,nm,Adr.K.none⟩=mods.flatMap stepB++(if data then Adr.dataW else [])++(ty++[46]++nm):=by
 have hn:Adr.fmtKey Adr.K.none=[]:=by decide
 unfold Adr.fmt
 rw [if_neg (by simp [hc])]
 dsimp only
 rw [hn]
 have e:Adr.steps mods=mods.flatMap stepB:=by
  unfold Adr.steps
  induction mods with
  | nil=>rfl
  | cons x l ih =>
   have hx:=hk x (by simp)
   have hcl:∀ l:List Adr.Step,(∀ s∈l,s.key=Adr.K.none)→(l.flatMap fun s=>Adr.modW++s.name++Adr.fmtKey s.key++[46])=l.flatMap stepB:=by
    intro l
    induction l with
    | nil=>intro _; rfl
    | cons y l ih =>
     intro hl
     rw [List.flatMap_cons,List.flatMap_cons,ih fun s hs=>hl s (by simp [hs]),hl y (by simp),hn]
     unfold stepB
     simp
   exact hcl _ hk
 rw [e]
 simp
theorem fm_snoc' {α:Type} (f:α→List UInt8) (l:List α) (j:Nat) (hj:j < l.length):(l.take (j+1)).flatMap f=(l.take j).flatMap f++f l[j]:=by
 rw [List.take_succ_eq_append_getElem hj,List.flatMap_append]; simp
theorem fm_len16:∀ (l:List Adr.Step),(∀ s∈l,s.name.length≤2000000)→(l.flatMap stepB).length≤l.length*2000008
 | [],_=>by simp
 | x::l,h=>by
  rw [List.flatMap_cons,List.length_append,List.length_cons,Nat.succ_mul]
  have h1:=fm_len16 l fun s hs=>h s (by simp [hs])
  have h2:=h x (by simp)
  have h3:(stepB x).length=x.name.length+8:=by unfold stepB; simp [Adr.modW] <;> omega
  omega
theorem a_format0 (a:Adr.Ad) (hi:Adr.In a) (hk:∀ s∈a.mods,s.key=Adr.K.none) (hkk:a.key=Adr.K.none) (h:Hp):ACall Tryz.prog GT 162 [.agg a.cells] h fun r h'=>r = .str (Adr.fmt a)∧h'=h:=by
 have cc:=fun h=>a_acheck a hi h
 obtain ⟨mods,data,ty,nm,key⟩:=a
 dsimp only at hk hkk
 subst hkk
 have hfb:=fmt_bare mods data ty nm hk
 obtain ⟨hn,hm,ht,ha,_⟩:=hi
 dsimp only at hn hm ht ha
 refine pcall ?_ rfl (by simp [A.pure,A.data,Adr.Ad.cells]) h
 refine fo ?_
 dsimp only [Adr.Ad.cells,Adr.K.none] at cc ⊢
 have lm:(mods.map Adr.Step.cells).length=mods.length:=List.length_map ..
 by_cases hc0:Adr.check ⟨mods,data,ty,nm,Adr.K.none⟩=0
 rotate_left
 ·have e1:(Adr.check ⟨mods,data,ty,nm,Adr.K.none⟩ != 0)=true:=by simp [hc0]
  have hfz:Adr.fmt ⟨mods,data,ty,nm,Adr.K.none⟩=[]:=by unfold Adr.fmt; rw [if_pos hc0]
  unfold Adr.K.none at e1 hfz
  refine run0 ti ?_
  refine use (cc _) ?_
  refine run0 e1 ?_
  exact ⟨_,le_refl _,by rw [hfz]; rfl⟩
 have e1:(Adr.check ⟨mods,data,ty,nm,Adr.K.none⟩ != 0)=false:=by simp [hc0]
 have hf:=hfb hc0
 have hn16:mods.length≤16:=by
  rcases Nat.lt_or_ge 16 mods.length with h16 | h16
  ·unfold Adr.check at hc0
   rw [if_pos h16] at hc0
   exact absurd hc0 (by decide)
  ·exact h16
 have hlenall:=fm_len16 mods fun s hs=>(hm s hs).1
 unfold Adr.K.none at e1 hf
 rw [hf]
 refine run0 ti ?_
 refine use (cc _) ?_
 refine run0 (ai e1 lm) ?_
 refine awp_loop (fun mm ts h=>∃ (j:Nat) (w:Blk) (l:List Blk),mm=mods.length - j∧j≤mods.length∧h=⟨.cells 149 [.sl 4 .no (mods.map Adr.Step.cells),.bool data,.str ty,.str nm,.int .i64 0,.int .i64 0,.str []]::w::l,[]⟩∧Bw ((mods.take j).flatMap stepB) w ∧
  ts 1 = .ptr 0 0∧ts 3 = .ptr 1 0∧ts 10 = .sl 4 .no (mods.map Adr.Step.cells)∧ts 11 = .int .i64 (mods.length:Nat)∧ts 12 = .int .i64 (j:Nat)) mods.length ?_ ?_
 ·exact ⟨0,_,[],by omega,by omega,rfl,.inr ⟨rfl,rfl⟩,by (exact ev0 ti),by (exact ev0 ti),by (exact ev0 ti),by (exact ev0 lm),by (exact inv0 ti)⟩
 rintro mm ts h ⟨j,w,l,rfl,hjc,rfl,hw,t1,t3,t10,t11,t12⟩
 have hacc:((mods.take j).flatMap stepB).length≤32000128:=by
  have h2:(mods.take j).length≤16:=by rw [List.length_take]; omega
  exact Nat.le_trans (fm_len16 (mods.take j) fun s hs=>(hm s (List.mem_of_mem_take hs)).1) (Nat.le_trans (Nat.mul_le_mul_right 2000008 h2) (by decide))
 by_cases hj:j < mods.length
 ·have hlt:(j:Int) < (mods.length:Int):=by omega
  have hlt':(j:Int) < ((mods.map Adr.Step.cells).length:Int):=by rw [lm]; exact hlt
  have hj0:(0:Int)≤(j:Int):=by omega
  have ei:IntKind.i64.wrap ((j:Int)+1)=((j+1:Nat):Int):=by rw [wrap64 (by omega) (by omega)]; omega
  have hg:=map_getD Adr.Step.cells mods j hj
  have hmj:=hm _ (List.getElem_mem hj)
  have hkj:=hk _ (List.getElem_mem hj)
  have hsn:=fm_snoc' stepB mods j hj
  obtain ⟨x,hx⟩:∃ x,mods[j]=x:=⟨_,rfl⟩
  rw [hx] at hg hmj hkj hsn
  obtain ⟨xn,xk⟩:=x
  dsimp only at hkj
  subst hkj
  dsimp only [Adr.Step.cells,Adr.K.none] at hg hmj
  have hxl:=hmj.1
  have hsl:(stepB ⟨xn,Adr.K.none⟩).length=xn.length+8:=by unfold stepB; simp [Adr.modW] <;> omega
  have hse:109::111::100::117::108::101::46::(xn++[46])=stepB ⟨xn,Adr.K.none⟩:=rfl
  have l1:7+xn.length < 1099511627776:=by omega
  have l2:xn.length+7 < 1099511627776:=by omega
  have l3:xn.length+7+1 < 1099511627776:=by omega
  have l4:xn.length+8 < 1099511627776:=by omega
  have hcw:=fun (z:Blk)=>a_bwrite (h:=⟨.cells 149 [.sl 4 .no (mods.map Adr.Step.cells),.bool data,.str ty,.str nm,.int .i64 0,.int .i64 0,.str []]::w::(l++[z]),[]⟩) (i:=1) hw.bt (stepB ⟨xn,Adr.K.none⟩) (by rw [hsl]; omega)
  rw [←hsn] at hcw
  have hcf:=fun h=>a_fmtkey0 h
  refine run0 (ai t1 (ai t3 (ai t10 (ai t11 (ai t12 (ai hlt (ai hlt' (ai hj0 (ai hg (ai l1 hse)))))))))) ?_
  refine use (hcf _) ?_
  refine run0 (ai t1 (ai t3 (ai t10 (ai t11 (ai t12 (ai l1 (ai l2 (ai l3 (ai l4 hse))))))))) ?_
  refine use (hcw _) ?_
  refine run0 (ai t1 (ai t3 (ai t10 (ai t11 (ai t12 ei))))) ?_
  exact ⟨mods.length - (j+1),by omega,j+1,_,_,rfl,by omega,rfl,.inl rfl,by (exact ev0 t1),by (exact ev0 t3),by (exact ev0 t10),by (exact ev0 t11),by (exact ev0 ei)⟩
 ·have hlt:¬ ((j:Int) < (mods.length:Int)):=by omega
  have hje:j=mods.length:=by omega
  subst hje
  rw [List.take_length] at hw hacc
  obtain ⟨P,hP⟩:∃ P,mods.flatMap stepB=P:=⟨_,rfl⟩
  rw [hP] at hw hacc ⊢
  have hcf:=fun h=>a_fmtkey0 h
  have hdw:Adr.dataW=[100,97,116,97,46]:=rfl
  have l1:ty.length+1 < 1099511627776:=by omega
  have l2:ty.length+1+nm.length < 1099511627776:=by omega
  have l3:ty.length+(nm.length+1) < 1099511627776:=by omega
  have l4:ty.length+1+nm.length < 1099511627776:=by omega
  cases data
  ·have hcw:=a_bwrite (h:=⟨.cells 149 [.sl 4 .no (mods.map Adr.Step.cells),.bool false,.str ty,.str nm,.int .i64 0,.int .i64 0,.str []]::w::l,[]⟩) (i:=1) hw.bt (ty++[46]++nm) (by simp; omega)
   have hcs:=a_bstring (h:=⟨.cells 149 [.sl 4 .no (mods.map Adr.Step.cells),.bool false,.str ty,.str nm,.int .i64 0,.int .i64 0,.str []]::bwt (P++(ty++[46]++nm))::l,[]⟩) (i:=1) (.inl rfl) (by simp)
   refine run0 (ai t1 (ai t3 (ai t10 (ai t11 (ai t12 (ai hlt (ai l1 (ai l2 l3)))))))) ?_
   refine use (hcf _) ?_
   refine run0 (ai t1 (ai t3 (ai t10 (ai t11 (ai t12 (ai hlt (ai l1 (ai l2 (ai l3 l4))))))))) ?_
   refine use hcw ?_
   refine run0 (ai t1 (ai t3 (ai t10 (ai t11 t12)))) ?_
   refine use hcs ?_
   refine run0 (ai t1 (ai t3 (ai t10 (ai t11 t12)))) ?_
   exact ⟨_,le_refl _,by simp [tupA_1]⟩
  ·have hcd:=a_bwrite (h:=⟨.cells 149 [.sl 4 .no (mods.map Adr.Step.cells),.bool true,.str ty,.str nm,.int .i64 0,.int .i64 0,.str []]::w::l,[]⟩) (i:=1) hw.bt Adr.dataW (by rw [hdw]; simp; omega)
   have hcw:=a_bwrite (h:=⟨.cells 149 [.sl 4 .no (mods.map Adr.Step.cells),.bool true,.str ty,.str nm,.int .i64 0,.int .i64 0,.str []]::bwt (P++Adr.dataW)::l,[]⟩) (i:=1) (.inl rfl) (ty++[46]++nm) (by rw [hdw]; simp; omega)
   have hcs:=a_bstring (h:=⟨.cells 149 [.sl 4 .no (mods.map Adr.Step.cells),.bool true,.str ty,.str nm,.int .i64 0,.int .i64 0,.str []]::bwt (P++Adr.dataW++(ty++[46]++nm))::l,[]⟩) (i:=1) (.inl rfl) (by simp)
   rw [hdw] at hcd hcw hcs ⊢
   refine run0 (ai t1 (ai t3 (ai t10 (ai t11 (ai t12 (ai hlt (ai l1 (ai l2 l3)))))))) ?_
   refine use hcd ?_
   refine run0 (ai t1 (ai t3 (ai t10 (ai t11 (ai t12 (ai hlt (ai l1 (ai l2 l3)))))))) ?_
   refine use (hcf _) ?_
   refine run0 (ai t1 (ai t3 (ai t10 (ai t11 (ai t12 (ai hlt (ai l1 (ai l2 (ai l3 l4))))))))) ?_
   refine use hcw ?_
   refine run0 (ai t1 (ai t3 (ai t10 (ai t11 t12)))) ?_
   refine use hcs ?_
   refine run0 (ai t1 (ai t3 (ai t10 (ai t11 t12)))) ?_
   exact ⟨_,le_refl _,by simp [tupA_1]⟩
def c_vknown:AX.AFn:=⟨12,aS [aR 1 (.box 81 (.t 0)),aR 2 (.mv (.c (.bool false)))] (aS [aF 3 0 1,aL 4 3,aR 5 (.bin .neq (.t 4) (aI 6)),aM 6 5,aG 7 (.faddr 3 (.t 1)) 6 true,aG 8 (.load false 1 (.t 7)) 6 true,aG 9 (.call 132 [.t 8,.c (.fn 133 [])]) 6 true,aG 10 (.un .not (.t 9)) 6 true,aR 11 (.pick (.t 6) (.t 10) (.c (.bool false))),aM 2 11] (.ret)),[.t 2]⟩
theorem h_vknown:AX.compFn Tryz.prog 101=some c_vknown:=by kernel_rfl
def c_vknown1:AX.AFn:=⟨6,aS [aR 1 (.box 81 (.t 0)),aR 2 (.mv (.c (.bool false)))] (aS [aR 3 (.load true 5 (.t 1)),aR 4 (.call 101 [.t 3]),aR 5 (.un .not (.t 4)),aM 2 5] (.ret)),[.t 2]⟩
theorem h_vknown1:AX.compFn Tryz.prog 133=some c_vknown1:=by kernel_rfl
def c_containsv:AX.AFn:=⟨9,aS [aR 4 (.mv (.c (.bool false)))] (aS [aM 5 0,aM 6 1,aR 7 (.call 161 [.t 5,.t 6]),aR 8 (.bin .geq (.t 7) (aI 0)),aM 4 8] (.ret)),[.t 4]⟩
theorem h_containsv:AX.compFn Tryz.prog 132=some c_containsv:=by kernel_rfl
def c_indexv:AX.AFn:=⟨19,aS [aR 4 (.mv (aI 0))] (.seq (aS [aM 6 0,aR 7 (.len false (.t 6)),aR 8 (.mv (aI 0))] (.block 0 (.loop (aS [aR 9 (.bin .lss (.t 8) (.t 7))] (.seq (.cond (.t 9) (.skip) (.exit 0)) (.seq (.block 1 (aS [aM 10 8,aM 5 10] (aS [aM 11 1,aM 12 0,aM 13 5,aR 14 (.iaddr 5 (.t 12) (.t 13)),aR 15 (.load true 5 (.t 14)),aR 16 (.callv (.t 11) [.t 15])] (.cond (.t 16) (aS [aM 17 5,aM 4 17] (.ret)) (.skip))))) (.reg false [aR 18 (.bin .add (.t 8) (aI 1)),aM 8 18]))))))) (aS [aR 4 (.mv (aI (-1)))] (.ret))),[.t 4]⟩
theorem h_indexv:AX.compFn Tryz.prog 161=some c_indexv:=by kernel_rfl
def unkIdx:Nat→List V→Int
 | _,[]=>-1
 | i,v::l=>if Sf.known v=true then unkIdx (i+1) l else i
theorem unkIdx_ge:∀ (l:List V) (i:Nat),unkIdx i l≥0↔Sf.knowns l=false
 | [],i=>by simp [unkIdx,Sf.knowns]
 | v::l,i=>by
  unfold unkIdx Sf.knowns
  cases h:Sf.known v
  ·simp
  ·simp only [if_true,Bool.true_and]; exact unkIdx_ge l (i+1)
theorem a_indexv (is:List V) (hn:is.length≤9223372036854775807) (hf:∀ x∈is,∀ h,ACall Tryz.prog GT 133 [x.A] h fun r h'=>r = .bool (!Sf.known x)∧h'=h) (h:Hp):ACall Tryz.prog GT 161 [.sl 5 .no (V.cellss is),.fn 133 []] h fun r h'=>r = .int .i64 (unkIdx 0 is)∧h'=h:=by
 refine pcall ?_ rfl (by simp [A.pure,A.data]) h
 refine acall_of mixedT h_indexv (by simp [c_indexv]) ?_
 dsimp only [c_indexv]
 obtain ⟨D,hD⟩:∃ D,unkIdx 0 is=D:=⟨_,rfl⟩
 rw [hD]
 refine run0 @V.cellss_length ?_
 refine awp_loop (fun mm ts h=>∃ (j:Nat),mm=is.length - j∧j≤is.length∧h=⟨[],[]⟩∧unkIdx j (is.drop j)=D∧ts 0 = .sl 5 .no (V.cellss is)∧ts 1 = .fn 133 []∧ts 7 = .int .i64 (is.length:Nat)∧ts 8 = .int .i64 (j:Nat)) is.length ?_ ?_
 ·exact ⟨0,by omega,by omega,rfl,hD,by (exact ev0 ti),by (exact ev0 ti),by (exact ev0 @V.cellss_length),by (exact inv0 ti)⟩
 rintro mm ts h ⟨j,rfl,hjc,rfl,hit,t0,t1,t7,t8⟩
 by_cases hj:j < is.length
 ·have hlt:(j:Int) < (is.length:Int):=by omega
  have hlt':(j:Int) < ((V.cellss is).length:Int):=by rw [V.cellss_length]; exact hlt
  have hj0:(0:Int)≤(j:Int):=by omega
  have ei:IntKind.i64.wrap ((j:Int)+1)=((j+1:Nat):Int):=by rw [wrap64 (by omega) (by omega)]; omega
  have hg:=V.cellss_get is j hj
  have cf:=hf is[j] (List.getElem_mem hj)
  rw [List.drop_eq_getElem_cons hj] at hit
  unfold unkIdx at hit
  obtain ⟨x,hx⟩:∃ x,is[j]=x:=⟨_,rfl⟩
  rw [hx] at hg cf hit
  obtain ⟨K,hK⟩:∃ K,Sf.known x=K:=⟨_,rfl⟩
  rw [hK] at cf hit
  obtain ⟨k,n,w,vi,vy⟩:=x
  have hVA:(V.mk k n w vi vy).A = .agg [.int .i64 k,.int .i64 n,.str w,.sl 5 .no (V.cellss vi),.sl 1 .no (strsA vy)]:=by simp only [V.A,V.cells]
  rw [hVA] at cf
  simp only [V.cells] at hg
  refine run0 (ai t0 (ai t1 (ai t7 (ai t8 (ai hlt (ai hg (ai hlt' hj0))))))) ?_
  refine use (cf _) ?_
  cases K
  ·rw [if_neg (by simp)] at hit
   subst hit
   refine run0 (ai t0 (ai t1 (ai t7 t8))) ?_
   exact ⟨_,le_refl _,rfl⟩
  ·rw [if_pos rfl] at hit
   refine run0 (ai t0 (ai t1 (ai t7 (ai t8 ei)))) ?_
   exact ⟨is.length - (j+1),by omega,j+1,rfl,by omega,rfl,hit,by (exact ev0 t0),by (exact ev0 t1),by (exact ev0 t7),by (exact ev0 ei)⟩
 ·have hlt:¬ ((j:Int) < (is.length:Int)):=by omega
  rw [List.drop_eq_nil_of_le (by omega)] at hit
  unfold unkIdx at hit
  subst hit
  refine run0 (ai t0 (ai t1 (ai t7 (ai t8 hlt)))) ?_
  exact ⟨_,le_refl _,rfl⟩
theorem a_known:∀ (v:V),v.lens→∀ h,ACall Tryz.prog GT 101 [v.A] h fun r h'=>r = .bool (Sf.known v)∧h'=h:=by
 refine V.induct ?_
 intro k n s is ks ih hl h
 have hlen:is.length≤9223372036854775807:=by have h1:=hl.1; unfold maxLen at h1; omega
 have hf:∀ x∈is,∀ h,ACall Tryz.prog GT 133 [x.A] h fun r h'=>r = .bool (!Sf.known x)∧h'=h:=by
  intro x hx h
  have ck:=ih x hx (V.lensS_mem hl.2.2.2.2 x hx)
  obtain ⟨K,hK⟩:∃ K,Sf.known x=K:=⟨_,rfl⟩
  rw [hK] at ck ⊢
  obtain ⟨k,n,w,vi,vy⟩:=x
  have hVA:(V.mk k n w vi vy).A = .agg [.int .i64 k,.int .i64 n,.str w,.sl 5 .no (V.cellss vi),.sl 1 .no (strsA vy)]:=by simp only [V.A,V.cells]
  rw [hVA] at ck ⊢
  refine pcall ?_ rfl (by simp [A.pure,A.data]) h
  refine acall_of mixedT h_vknown1 (by simp [c_vknown1]) ?_
  dsimp only [c_vknown1]
  refine run0 ti ?_
  refine use (ck _) ?_
  refine run0 ti ?_
  exact ⟨_,le_refl _,rfl⟩
 have hc:∀ h,ACall Tryz.prog GT 132 [.sl 5 .no (V.cellss is),.fn 133 []] h fun r h'=>r = .bool (!Sf.knowns is)∧h'=h:=by
  intro h
  refine pcall ?_ rfl (by simp [A.pure,A.data]) h
  refine acall_of mixedT h_containsv (by simp [c_containsv]) ?_
  dsimp only [c_containsv]
  have hge:=unkIdx_ge is 0
  have ca:=a_indexv is hlen hf
  obtain ⟨D,hD⟩:∃ D,unkIdx 0 is=D:=⟨_,rfl⟩
  rw [hD] at hge ca
  refine run0 ti ?_
  refine use (ca _) ?_
  by_cases hd:D≥0
  ·rw [hge.1 hd]
   refine run0 hd ?_
   exact ⟨_,le_refl _,rfl⟩
  ·have hk:Sf.knowns is=true:=by cases hk:Sf.knowns is; exact absurd (hge.2 hk) hd; rfl
   rw [hk]
   refine run0 hd ?_
   exact ⟨_,le_refl _,rfl⟩
 have hVA:(V.mk k n s is ks).A = .agg [.int .i64 k,.int .i64 n,.str s,.sl 5 .no (V.cellss is),.sl 1 .no (strsA ks)]:=by simp only [V.A,V.cells]
 have hK:Sf.known (.mk k n s is ks)=(k != 6&&Sf.knowns is):=by simp [Sf.known]
 rw [hVA,hK]
 refine pcall ?_ rfl (by simp [A.pure,A.data]) h
 refine acall_of mixedT h_vknown (by simp [c_vknown]) ?_
 dsimp only [c_vknown]
 by_cases h6:k=6
 ·have e:(k != 6)=false:=by simp [h6]
  rw [e]
  refine run0 e ?_
  exact ⟨_,le_refl _,rfl⟩
 ·have e:(k != 6)=true:=by simp [h6]
  rw [e]
  refine run0 e ?_
  refine use (hc _) ?_
  cases Sf.knowns is
  ·refine run0 ti ?_
   exact ⟨_,le_refl _,rfl⟩
  ·refine run0 ti ?_
   exact ⟨_,le_refl _,rfl⟩
end AX
end Go.Proofs.YtahmpiioegemaabGreatDoor

namespace Go.Proofs.YtahmpiioegemaabGreatDoor
open Go.RowKit
open Go.Op (bytesLess)
namespace AX
def c_cmpor:AX.AFn:=⟨18,aS [aR 2 (.mv (aI 0))] (aS [aR 3 (.mv (aI 0))] (.seq (aS [aM 6 0,aR 7 (.len false (.t 6)),aR 8 (.mv (aI 0))] (.block 0 (.loop (aS [aR 9 (.bin .lss (.t 8) (.t 7))] (.seq (.cond (.t 9) (.skip) (.exit 0)) (.seq (.block 1 (aS [aR 10 (.iaddr 1 (.t 6) (.t 8)),aL 11 10,aM 5 11] (aS [aM 12 5,aM 13 3,aR 14 (.bin .neq (.t 12) (.t 13))] (.cond (.t 14) (aS [aM 15 5,aM 2 15] (.ret)) (.skip))))) (.reg false [aR 16 (.bin .add (.t 8) (aI 1)),aM 8 16]))))))) (aS [aM 17 3,aM 2 17] (.ret)))),[.t 2]⟩
theorem h_cmpor:AX.compFn Tryz.prog 103=some c_cmpor:=by kernel_rfl
def c_pcompare:AX.AFn:=⟨17,aS [aR 2 (.box 105 (.t 0)),aR 3 (.box 105 (.t 1)),aR 4 (.mv (aI 0))] (.seq (.reg true [aF 5 0 2,⟨some 6,.load false 1 (.t 5),none,[0]⟩,aF 7 0 3,⟨some 8,.load false 1 (.t 7),none,[2]⟩,⟨some 9,.call 104 [.t 6,.t 8],none,[1,3]⟩,aF 10 1 2,⟨some 11,.load false 1 (.t 10),none,[5]⟩,aF 12 1 3,⟨some 13,.load false 1 (.t 12),none,[7]⟩,⟨some 14,.call 104 [.t 11,.t 13],none,[6,8,4]⟩,⟨some 15,.mks 1 [.t 9,.t 14],none,[4,9]⟩,⟨some 16,.call 103 [.t 15],none,[10,9]⟩,⟨some 4,.mv (.t 16),none,[11,11,0,1,2,3,4,5,6,7,8,9,10,11]⟩]) (.ret)),[.t 4]⟩
theorem h_pcompare:AX.compFn Tryz.prog 65=some c_pcompare:=by kernel_rfl
theorem a_or (a b:Int) (h:Hp):ACall Tryz.prog GT 103 [.sl 1 .no [[.int .i64 a],[.int .i64 b]]] h fun r h'=>r = .int .i64 (if a≠0 then a else b)∧h'=h:=by
 refine pcall ?_ rfl (by simp [A.pure,A.data]) h
 refine acall_of mixedT h_cmpor (by simp [c_cmpor]) ?_
 dsimp only [c_cmpor]
 refine run0 ti ?_
 have ew0:IntKind.i64.wrap ((0:Int)+1)=1:=by decide
 have ew1:IntKind.i64.wrap ((1:Int)+1)=2:=by decide
 have en1:Int.toNat 1=1:=rfl
 have lt0:(0:Int) < ((2:Nat):Int):=by decide
 have lt1:(1:Int) < ((2:Nat):Int):=by decide
 have lt2:¬ (2:Int) < ((2:Nat):Int):=by decide
 have le1:(0:Int)≤1:=by decide
 refine awp_loop (fun mm ts h=>h=⟨[],[]⟩∧ts 3 = .int .i64 0∧ts 6 = .sl 1 .no [[.int .i64 a],[.int .i64 b]]∧ts 7 = .int .i64 ((2:Nat):Int)∧((mm=2∧ts 8 = .int .i64 0)∨(mm=1∧ts 8 = .int .i64 1∧a=0)∨(mm=0∧ts 8 = .int .i64 2∧a=0∧b=0))) 2 ?_ ?_
 ·exact ⟨rfl,by (exact ev0 ti),by (exact ev0 ti),by (exact ev0 ti),.inl ⟨rfl,by (exact ev0 ti)⟩⟩
 rintro mm ts h ⟨rfl,t3,t6,t7,⟨rfl,t8⟩ | ⟨rfl,t8,ha⟩ | ⟨rfl,t8,ha,hb⟩⟩
 ·by_cases ha:a=0
  ·have e1:(a != 0)=false:=by simp [ha]
   refine run0 (ai t3 (ai t6 (ai t7 (ai t8 (ai e1 (ai ew0 lt0)))))) ?_
   exact ⟨1,by omega,rfl,by (exact ev0 t3),by (exact ev0 t6),by (exact ev0 t7),.inr (.inl ⟨rfl,by (exact ev0 ew0),ha⟩)⟩
  ·have e1:(a != 0)=true:=by simp [ha]
   refine run0 (ai t3 (ai t6 (ai t7 (ai t8 (ai e1 lt0))))) ?_
   exact ⟨_,le_refl _,by rw [if_pos ha]; rfl⟩
 ·by_cases hb:b=0
  ·have e1:(b != 0)=false:=by simp [hb]
   refine run0 (ai t3 (ai t6 (ai t7 (ai t8 (ai e1 (ai ew1 (ai en1 (ai lt1 le1)))))))) ?_
   exact ⟨0,by omega,rfl,by (exact ev0 t3),by (exact ev0 t6),by (exact ev0 t7),.inr (.inr ⟨rfl,by (exact ev0 ew1),ha,hb⟩)⟩
  ·have e1:(b != 0)=true:=by simp [hb]
   refine run0 (ai t3 (ai t6 (ai t7 (ai t8 (ai e1 (ai en1 (ai lt1 le1))))))) ?_
   exact ⟨_,le_refl _,by rw [if_neg (by simp [ha])]; rfl⟩
 ·refine run0 (ai t3 (ai t6 (ai t7 (ai t8 lt2)))) ?_
  exact ⟨_,le_refl _,by rw [if_neg (by simp [ha]),hb]; rfl⟩
def cmp2 (a b c d:List UInt8):Int:=if cmpZ a c≠0 then cmpZ a c else cmpZ b d
theorem a_compare (L:Leafs) (a b c d:List UInt8) (h:Hp):ACall Tryz.prog GT 65 [.agg [.str a,.str b],.agg [.str c,.str d]] h fun r h'=>r = .int .i64 (cmp2 a b c d)∧h'=h:=by
 refine pcall ?_ rfl (by simp [A.pure,A.data]) h
 refine acall_of mixedT h_pcompare (by simp [c_pcompare]) ?_
 dsimp only [c_pcompare]
 refine run0 ti ?_
 refine use (L.cmp a c _) ?_
 refine run0 ti ?_
 refine use (L.cmp b d _) ?_
 refine run0 ti ?_
 refine use (a_or (cmpZ a c) (cmpZ b d) _) ?_
 refine run0 ti ?_
 exact ⟨_,le_refl _,rfl⟩
theorem cmp2_ge (x y:Sf.Inst):(cmp2 x.addr x.dep y.addr y.dep≥0)↔Sf.behind x y=false:=by
 unfold cmp2 Sf.behind cmpZ
 by_cases h1:x.addr=y.addr
 ·have irr:bytesLess y.addr y.addr=false:=by
   have:=Val.less_total y.addr y.addr
   cases h:bytesLess y.addr y.addr
   ·rfl
   ·rw [h] at this; simp at this
  rw [h1,irr]
  by_cases h2:x.dep=y.dep
  ·have irr2:bytesLess y.dep y.dep=false:=by
    have:=Val.less_total y.dep y.dep
    cases h:bytesLess y.dep y.dep
    ·rfl
    ·rw [h] at this; simp at this
   simp [h2,irr2]
  ·cases h3:bytesLess x.dep y.dep <;> simp [h2]
 ·cases h3:bytesLess x.addr y.addr <;> simp [h1]
structure Sf.StIn (s:Sf.St):Prop where
 lin:s.lin.length≤2000000
 insts:∀ x∈s.insts,Sf.InstIn x
 pends:∀ x∈s.pends,x.addr.length≤2000000∧x.tok.length≤2000000
 outs:∀ x∈s.outs,x.name.length≤2000000∧x.value.lens
 li:s.insts.length≤1000000000
 lp:s.pends.length≤1000000000
 lo:s.outs.length≤1000000000
theorem a_scheck (L:Leafs) (st:Sf.St) (ok:Sf.StIn st):SCheck st:=by
 intro h
 obtain ⟨lin,ser,ins,ps,os⟩:=st
 have ct:=fun h=>L.text lin ok.lin h
 have li:ins.length≤1000000000:=ok.li
 have lp:ps.length≤1000000000:=ok.lp
 have lo:os.length≤1000000000:=ok.lo
 have lm1:(ins.map Sf.Inst.cells).length=ins.length:=List.length_map _
 have lm2:(ps.map Sf.Pend.cells).length=ps.length:=List.length_map _
 have lm3:(os.map Sf.Outp.cells).length=os.length:=List.length_map _
 obtain ⟨Z,hZ⟩:∃ Z,Sf.checkZ ⟨lin,ser,ins,ps,os⟩=Z:=⟨_,rfl⟩
 rw [hZ]
 unfold Sf.checkZ at hZ
 dsimp only at hZ
 refine pcall ?_ rfl (by simp [A.pure,A.data,Sf.St.A]) h
 refine fo ?_
 dsimp only [Sf.St.A]
 refine run0 ti ?_
 refine use (ct _) ?_
 cases hT:Sf.text lin
 ·rw [hT,if_pos (by decide)] at hZ
  subst hZ
  refine run0 ti ?_
  exact ⟨_,le_refl _,rfl⟩
 rw [hT,if_neg (by decide)] at hZ
 by_cases s0:ser < 0
 ·rw [if_pos (.inl s0)] at hZ
  subst hZ
  refine run0 s0 ?_
  exact ⟨_,le_refl _,rfl⟩
 by_cases s1:ser > 9007199254740992
 ·rw [if_pos (.inr s1)] at hZ
  subst hZ
  refine run0 (ai s0 s1) ?_
  exact ⟨_,le_refl _,rfl⟩
 rw [if_neg (by omega)] at hZ
 obtain ⟨mx,hmx⟩:∃ mx:Int,(if (os.length:Int) > (if (ps.length:Int) > (ins.length:Int) then (ps.length:Int) else (ins.length:Int)) then (os.length:Int) else (if (ps.length:Int) > (ins.length:Int) then (ps.length:Int) else (ins.length:Int)))=mx:=⟨_,rfl⟩
 have hm5:mx > 512↔(512 < ins.length∨512 < ps.length∨512 < os.length):=by
  rw [←hmx]; split <;> split <;> omega
 by_cases hm:mx > 512
 ·rw [if_pos (hm5.1 hm)] at hZ
  subst hZ
  refine run0 (ai s0 (ai s1 (ai lm1 (ai lm2 (ai lm3 (ai hmx hm)))))) ?_
  exact ⟨_,le_refl _,rfl⟩
 rw [if_neg (fun e=>hm (hm5.2 e))] at hZ
 obtain ⟨I,hI⟩:∃ I,Sf.instsZ none ins=I:=⟨_,rfl⟩
 obtain ⟨P,hP⟩:∃ P,Sf.pendsZ none ps=P:=⟨_,rfl⟩
 obtain ⟨O,hO⟩:∃ O,Sf.outsZ none os=O:=⟨_,rfl⟩
 have fi1:∀ z,z≠0→z=I→Z=z:=fun z h e=>by rw [hI,←e,if_pos h] at hZ; exact hZ.symm
 have fi2:I=0→(if P≠0 then P else O)=Z:=fun e=>by rw [hI,hP,hO,e,if_neg (by simp)] at hZ; exact hZ
 refine run0 (ai s0 (ai s1 (ai lm1 (ai lm2 (ai lm3 (ai hmx hm)))))) ?_
 refine awp_loop (fun mm ts h=>∃ (j:Nat) (l:List Blk),mm=ins.length - j∧j≤ins.length∧h=⟨.cells 39 [.str lin,.int .i64 ser,.sl 13 .no (ins.map Sf.Inst.cells),.sl 3 .no (ps.map Sf.Pend.cells),.sl 7 .no (os.map Sf.Outp.cells)]::l,[]⟩∧Sf.instsZ (if j=0 then none else ins[j - 1]?) (ins.drop j)=I∧ts 1 = .ptr 0 0∧ts 35 = .sl 13 .no (ins.map Sf.Inst.cells)∧ts 36 = .int .i64 (ins.length:Nat)∧ts 37 = .int .i64 (j:Nat)) ins.length ?_ ?_
 ·exact ⟨0,[],by omega,by omega,rfl,hI,by (exact ev0 ti),by (exact ev0 ti),by (exact ev0 (ai lm1 (ai lm2 lm3))),by (exact inv0 ti)⟩
 rintro mm ts h ⟨j,l,rfl,hjc,rfl,hit,t1,ta,tb,tc⟩
 by_cases hj:j < ins.length
 ·have hlt:(j:Int) < (ins.length:Int):=by omega
  have hlt':(j:Int) < ((ins.map Sf.Inst.cells).length:Int):=by rw [List.length_map]; exact hlt
  have hj0:(0:Int)≤(j:Int):=by omega
  have ei:IntKind.i64.wrap ((j:Int)+1)=((j+1:Nat):Int):=by rw [wrap64 (by omega) (by omega)]; omega
  have hg:=map_getD Sf.Inst.cells ins j hj
  have hm:=List.getElem_mem hj
  rw [List.drop_eq_getElem_cons hj] at hit
  obtain ⟨x,hx⟩:∃ x,ins[j]=x:=⟨_,rfl⟩
  rw [hx] at hit hg hm
  have ci:=fun h=>a_instance L x (ok.insts x hm) h
  have cp:=fun h=>a_placeOf x h
  have hxj:ins[j]?=some x:=by rw [List.getElem?_eq_getElem hj,hx]
  have hx2:∃ x2,x=x2:=⟨_,rfl⟩
  unfold Sf.instsZ at hit
  obtain ⟨Z1,hZ1⟩:∃ z,Sf.instZ x=z:=⟨_,rfl⟩
  rw [hZ1] at ci hit
  have cge:=fun y=>cmp2_ge y x
  have cc:=fun (y:Sf.Inst) h=>a_compare L y.addr y.dep x.addr x.dep h
  have nx:Sf.instsZ (some x) (ins.drop (j+1))=I→Sf.instsZ (if j+1=0 then none else ins[j+1 - 1]?) (ins.drop (j+1))=I:=fun e=>by rw [if_neg (by omega),Nat.add_sub_cancel,hxj]; exact e
  clear hx2 hm hZ1
  have cells:∃ a d id ty k n s is ks v tn fi ds,x=⟨a,d,id,ty,.mk k n s is ks,v,tn,fi,ds⟩:=by obtain ⟨a,d,id,ty,⟨k,n,s,is,ks⟩,v,tn,fi,ds⟩:=x; exact ⟨_,_,_,_,_,_,_,_,_,_,_,_,_,rfl⟩
  obtain ⟨a,d,id,ty,k,n,s,is,ks,v,tn,fi,ds,hxe⟩:=cells
  have hxc:x.cells=[.str a,.str d,.str id,.str ty,.int .i64 k,.int .i64 n,.str s,.sl 5 .no (V.cellss is),.sl 1 .no (strsA ks),.int .i64 v,.bool tn,.bool fi,.sl 1 .no (strsA ds)]:=by rw [hxe]; rfl
  rw [hxc] at ci cp hg
  refine run0 (ai t1 (ai ta (ai tb (ai tc (ai hlt (ai hg (ai hlt' hj0))))))) ?_
  refine use (ci _) ?_
  by_cases hz:Z1=0
  rotate_left
  ·have e1:(Z1 != 0)=true:=by simp [hz]
   rw [if_pos hz] at hit
   have hZf:=fi1 Z1 hz hit
   refine run0 (ai t1 (ai ta (ai tb (ai tc e1)))) ?_
   exact ⟨_,le_refl _,by rw [hZf]; rfl⟩
  have e1:(Z1 != 0)=false:=by simp [hz]
  rw [if_neg (by simp [hz])] at hit
  cases j with
  | zero =>
   have h0:¬ ((0:Nat):Int) > 0:=by omega
   simp only [if_true,Bool.false_eq_true,if_false] at hit
   refine run0 (ai t1 (ai ta (ai tb (ai tc (ai e1 (ai h0 ei)))))) ?_
   exact ⟨ins.length - (0+1),by omega,0+1,l++[.cells 83 [.str a,.str d,.str id,.str ty,.int .i64 k,.int .i64 n,.str s,.sl 5 .no (V.cellss is),.sl 1 .no (strsA ks),.int .i64 v,.bool tn,.bool fi,.sl 1 .no (strsA ds)]],rfl,by omega,rfl,nx hit,by (exact ev0 t1),by (exact ev0 ta),by (exact ev0 tb),by (exact ev0 ei)⟩
  | succ i =>
   have h0:((i+1:Nat):Int) > 0:=by omega
   have ej:IntKind.i64.wrap (((i+1:Nat):Int) - 1)=(i:Int):=by rw [wrap64 (by omega) (by omega)]; omega
   have hg2:=map_getD Sf.Inst.cells ins i (by omega)
   have hi':(i:Int) < ((ins.map Sf.Inst.cells).length:Int):=by rw [List.length_map]; omega
   have hi0:(0:Int)≤(i:Int):=by omega
   have hki:ins[i+1 - 1]?=some (ins[i]'(by omega)):=List.getElem?_eq_getElem (by omega)
   rw [show (if i+1=0 then none else ins[i+1 - 1]?)=(some (ins[i]'(by omega))) from by rw [if_neg (by omega),hki]] at hit
   obtain ⟨y,hy⟩:∃ y,ins[i]'(by omega)=y:=⟨_,rfl⟩
   rw [hy] at hit hg2
   dsimp only at hit
   have cpy:=fun h=>a_placeOf y h
   have hyc:∃ b1 b2 b3 b4 b5 b6 b7 b8 b9 c1 c2 c3 c4,y.cells=[.str b1,.str b2,.str b3,.str b4,.int .i64 b5,.int .i64 b6,.str b7,.sl 5 .no (V.cellss b8),.sl 1 .no (strsA b9),.int .i64 c1,.bool c2,.bool c3,.sl 1 .no (strsA c4)]:=by obtain ⟨a,d,id,ty,⟨k,n,s,is,ks⟩,v,tn,fi,ds⟩:=y; exact ⟨_,_,_,_,_,_,_,_,_,_,_,_,_,rfl⟩
   obtain ⟨b1,b2,b3,b4,b5,b6,b7,b8,b9,c1,c2,c3,c4,hyc⟩:=hyc
   rw [hyc] at hg2 cpy
   have cg:=cge y
   have cy:=cc y
   obtain ⟨c,hc⟩:∃ c,cmp2 y.addr y.dep x.addr x.dep=c:=⟨_,rfl⟩
   rw [hc] at cg cy
   refine run0 (ai t1 (ai ta (ai tb (ai tc (ai e1 (ai h0 (ai ej (ai hg2 (ai hi' hi0))))))))) ?_
   refine use (cpy _) ?_
   refine run0 (ai t1 (ai ta (ai tb tc))) ?_
   refine use (cp _) ?_
   refine run0 (ai t1 (ai ta (ai tb tc))) ?_
   refine use (cy _) ?_
   by_cases hcz:c≥0
   ·simp only [cg.1 hcz,Bool.not_false,if_true] at hit
    have hZf:=fi1 1 (by decide) hit
    refine run0 (ai t1 (ai ta (ai tb (ai tc hcz)))) ?_
    exact ⟨_,le_refl _,by rw [hZf]; rfl⟩
   ·have hb:Sf.behind y x=true:=by cases hb:Sf.behind y x; exact absurd (cg.2 hb) hcz; rfl
    simp only [hb,Bool.not_true,Bool.false_eq_true,if_false] at hit
    refine run0 (ai t1 (ai ta (ai tb (ai tc (ai hcz ei))))) ?_
    exact ⟨ins.length - ((i+1)+1),by omega,(i+1)+1,l++[.cells 83 [.str a,.str d,.str id,.str ty,.int .i64 k,.int .i64 n,.str s,.sl 5 .no (V.cellss is),.sl 1 .no (strsA ks),.int .i64 v,.bool tn,.bool fi,.sl 1 .no (strsA ds)]],rfl,by omega,rfl,nx hit,by (exact ev0 t1),by (exact ev0 ta),by (exact ev0 tb),by (exact ev0 ei)⟩
 have hlt:¬ ((j:Int) < (ins.length:Int)):=by omega
 rw [List.drop_eq_nil_of_le (by omega)] at hit
 unfold Sf.instsZ at hit
 have fi2:=fi2 hit.symm
 refine run0 (ai t1 (ai ta (ai tb (ai tc (ai hlt (ai lm1 (ai lm2 lm3))))))) ?_
 clear hit hlt hjc ta tb tc fi1
 have fj1:∀ z,z≠0→z=P→Z=z:=fun z h e=>by rw [←e,if_pos h] at fi2; exact fi2.symm
 have fj2:P=0→Z=O:=fun e=>by rw [e,if_neg (by simp)] at fi2; exact fi2.symm
 obtain ⟨l0,hl0⟩:∃ l0:List Blk,l=l0:=⟨_,rfl⟩
 refine awp_loop (fun mm ts h=>∃ (j:Nat) (l:List Blk),mm=ps.length - j∧j≤ps.length∧h=⟨.cells 39 [.str lin,.int .i64 ser,.sl 13 .no (ins.map Sf.Inst.cells),.sl 3 .no (ps.map Sf.Pend.cells),.sl 7 .no (os.map Sf.Outp.cells)]::l,[]⟩∧Sf.pendsZ (if j=0 then none else ps[j - 1]?.map Sf.Pend.tok) (ps.drop j)=P∧ts 1 = .ptr 0 0∧ts 64 = .sl 3 .no (ps.map Sf.Pend.cells)∧ts 65 = .int .i64 (ps.length:Nat)∧ts 66 = .int .i64 (j:Nat)) ps.length ?_ ?_
 ·exact ⟨0,l,by omega,by omega,rfl,hP,by (exact ev0 t1),by (exact ev0 t1),by (exact ev0 (ai t1 (ai lm1 (ai lm2 lm3)))),by (exact inv0 t1)⟩
 rintro mm ts h ⟨j,l,rfl,hjc,rfl,hit,t1,ta,tb,tc⟩
 by_cases hj:j < ps.length
 ·have hlt:(j:Int) < (ps.length:Int):=by omega
  have hlt':(j:Int) < ((ps.map Sf.Pend.cells).length:Int):=by rw [List.length_map]; exact hlt
  have hj0:(0:Int)≤(j:Int):=by omega
  have ei:IntKind.i64.wrap ((j:Int)+1)=((j+1:Nat):Int):=by rw [wrap64 (by omega) (by omega)]; omega
  have hg:=map_getD Sf.Pend.cells ps j hj
  have hm:=List.getElem_mem hj
  rw [List.drop_eq_getElem_cons hj] at hit
  obtain ⟨x,hx⟩:∃ x,ps[j]=x:=⟨_,rfl⟩
  rw [hx] at hit hg hm
  have hin:=ok.pends x hm
  have ct:=fun h=>L.text x.tok hin.2 h
  have cm:=fun h=>a_managed L x.addr x.typ hin.1 h
  have hxj:ps[j]?=some x:=by rw [List.getElem?_eq_getElem hj,hx]
  unfold Sf.pendsZ Sf.pendB at hit
  have nx:Sf.pendsZ (some x.tok) (ps.drop (j+1))=P→Sf.pendsZ (if j+1=0 then none else ps[j+1 - 1]?.map Sf.Pend.tok) (ps.drop (j+1))=P:=fun e=>by rw [if_neg (by omega),Nat.add_sub_cancel,hxj]; exact e
  simp only [Sf.Pend.cells] at hg
  obtain ⟨T,hT⟩:∃ T,Sf.text x.tok=T:=⟨_,rfl⟩
  rw [hT] at ct hit
  obtain ⟨M,hM⟩:∃ M,Sf.managed x.addr x.typ=M:=⟨_,rfl⟩
  rw [hM] at cm hit
  refine run0 (ai t1 (ai ta (ai tb (ai tc (ai hlt (ai hg (ai hlt' hj0))))))) ?_
  refine use (ct _) ?_
  cases T
  ·rw [if_pos (by simp)] at hit
   have hZf:=fj1 1 (by decide) hit
   refine run0 (ai t1 (ai ta (ai tb tc))) ?_
   exact ⟨_,le_refl _,by rw [hZf]; rfl⟩
  refine run0 (ai t1 (ai ta (ai tb tc))) ?_
  refine use (cm _) ?_
  cases M
  ·rw [if_pos (by simp)] at hit
   have hZf:=fj1 1 (by decide) hit
   refine run0 (ai t1 (ai ta (ai tb tc))) ?_
   exact ⟨_,le_refl _,by rw [hZf]; rfl⟩
  cases j with
  | zero =>
   have h0:¬ ((0:Nat):Int) > 0:=by omega
   rw [if_neg (by simp [Val.badB])] at hit
   refine run0 (ai t1 (ai ta (ai tb (ai tc (ai h0 ei))))) ?_
   exact ⟨ps.length - (0+1),by omega,0+1,l++[.cells 109 [.str x.addr,.str x.typ,.str x.tok]],rfl,by omega,rfl,nx hit,by (exact ev0 t1),by (exact ev0 ta),by (exact ev0 tb),by (exact ev0 ei)⟩
  | succ i =>
   have h0:((i+1:Nat):Int) > 0:=by omega
   have ej:IntKind.i64.wrap (((i+1:Nat):Int) - 1)=(i:Int):=by rw [wrap64 (by omega) (by omega)]; omega
   have hg2:=map_getD Sf.Pend.cells ps i (by omega)
   have hi':(i:Int) < ((ps.map Sf.Pend.cells).length:Int):=by rw [List.length_map]; omega
   have hi0:(0:Int)≤(i:Int):=by omega
   have hki:ps[i+1 - 1]?=some (ps[i]'(by omega)):=List.getElem?_eq_getElem (by omega)
   rw [show (if i+1=0 then none else ps[i+1 - 1]?.map Sf.Pend.tok)=(some (ps[i]'(by omega))).map Sf.Pend.tok from by rw [if_neg (by omega),hki]] at hit
   obtain ⟨y,hy⟩:∃ y,ps[i]'(by omega)=y:=⟨_,rfl⟩
   rw [hy] at hit hg2
   simp only [Sf.Pend.cells] at hg2
   simp only [Option.map_some,Val.badB] at hit
   cases hb:bytesLess y.tok x.tok
   ·simp only [hb,Bool.true_and,Bool.and_true,Bool.not_true,Bool.not_false,Bool.false_or,Bool.true_or,if_true] at hit
    have hZf:=fj1 1 (by decide) hit
    refine run0 (ai t1 (ai ta (ai tb (ai tc (ai h0 (ai ej (ai hg2 (ai hi' (ai hi0 hb))))))))) ?_
    exact ⟨_,le_refl _,by rw [hZf]; rfl⟩
   ·simp only [hb,Bool.true_and,Bool.and_true,Bool.not_true,Bool.not_false,Bool.false_or,Bool.or_false,Bool.false_eq_true,if_false] at hit
    refine run0 (ai t1 (ai ta (ai tb (ai tc (ai h0 (ai ej (ai hg2 (ai hi' (ai hi0 (ai hb ei)))))))))) ?_
    exact ⟨ps.length - ((i+1)+1),by omega,(i+1)+1,l++[.cells 109 [.str x.addr,.str x.typ,.str x.tok]],rfl,by omega,rfl,nx hit,by (exact ev0 t1),by (exact ev0 ta),by (exact ev0 tb),by (exact ev0 ei)⟩
 have hlt:¬ ((j:Int) < (ps.length:Int)):=by omega
 rw [List.drop_eq_nil_of_le (by omega)] at hit
 unfold Sf.pendsZ at hit
 have fj2:=fj2 hit.symm
 refine run0 (ai t1 (ai ta (ai tb (ai tc (ai hlt (ai lm1 (ai lm2 lm3))))))) ?_
 clear hit hlt hjc ta tb tc fj1 hl0 l0
 refine awp_loop (fun mm ts h=>∃ (j:Nat) (l:List Blk),mm=os.length - j∧j≤os.length∧h=⟨.cells 39 [.str lin,.int .i64 ser,.sl 13 .no (ins.map Sf.Inst.cells),.sl 3 .no (ps.map Sf.Pend.cells),.sl 7 .no (os.map Sf.Outp.cells)]::l,[]⟩∧Sf.outsZ (if j=0 then none else os[j - 1]?.map Sf.Outp.name) (os.drop j)=O∧ts 1 = .ptr 0 0∧ts 101 = .sl 7 .no (os.map Sf.Outp.cells)∧ts 102 = .int .i64 (os.length:Nat)∧ts 103 = .int .i64 (j:Nat)) os.length ?_ ?_
 ·exact ⟨0,l,by omega,by omega,rfl,hO,by (exact ev0 t1),by (exact ev0 t1),by (exact ev0 (ai t1 (ai lm1 (ai lm2 lm3)))),by (exact inv0 t1)⟩
 rintro mm ts h ⟨j,l,rfl,hjc,rfl,hit,t1,ta,tb,tc⟩
 by_cases hj:j < os.length
 ·have hlt:(j:Int) < (os.length:Int):=by omega
  have hlt':(j:Int) < ((os.map Sf.Outp.cells).length:Int):=by rw [List.length_map]; exact hlt
  have hj0:(0:Int)≤(j:Int):=by omega
  have ei:IntKind.i64.wrap ((j:Int)+1)=((j+1:Nat):Int):=by rw [wrap64 (by omega) (by omega)]; omega
  have hg:=map_getD Sf.Outp.cells os j hj
  have hm:=List.getElem_mem hj
  rw [List.drop_eq_getElem_cons hj] at hit
  obtain ⟨x,hx⟩:∃ x,os[j]=x:=⟨_,rfl⟩
  rw [hx] at hit hg hm
  have hin:=ok.outs x hm
  have ci:=fun h=>a_output L x hin.1 hin.2 h
  have hxj:os[j]?=some x:=by rw [List.getElem?_eq_getElem hj,hx]
  unfold Sf.outsZ at hit
  have nx:Sf.outsZ (some x.name) (os.drop (j+1))=O→Sf.outsZ (if j+1=0 then none else os[j+1 - 1]?.map Sf.Outp.name) (os.drop (j+1))=O:=fun e=>by rw [if_neg (by omega),Nat.add_sub_cancel,hxj]; exact e
  obtain ⟨Z1,hZ1⟩:∃ z,Sf.outZ x=z:=⟨_,rfl⟩
  rw [hZ1] at ci hit
  clear hZ1
  obtain ⟨m,⟨k,n,s,is,ks⟩,b⟩:=x
  simp only [Sf.Outp.cells] at hg ci
  dsimp only at hit nx
  refine run0 (ai t1 (ai ta (ai tb (ai tc (ai hlt (ai hg (ai hlt' hj0))))))) ?_
  refine use (ci _) ?_
  by_cases hz:Z1=0
  rotate_left
  ·have e1:(Z1 != 0)=true:=by simp [hz]
   rw [if_pos hz] at hit
   refine run0 (ai t1 (ai ta (ai tb (ai tc e1)))) ?_
   exact ⟨_,le_refl _,by rw [fj2,←hit]; rfl⟩
  have e1:(Z1 != 0)=false:=by simp [hz]
  rw [if_neg (by simp [hz])] at hit
  cases j with
  | zero =>
   have h0:¬ ((0:Nat):Int) > 0:=by omega
   rw [if_neg (by simp [Val.badB])] at hit
   refine run0 (ai t1 (ai ta (ai tb (ai tc (ai e1 (ai h0 ei)))))) ?_
   exact ⟨os.length - (0+1),by omega,0+1,l++[.cells 85 [.str m,.int .i64 k,.int .i64 n,.str s,.sl 5 .no (V.cellss is),.sl 1 .no (strsA ks),.bool b]],rfl,by omega,rfl,nx hit,by (exact ev0 t1),by (exact ev0 ta),by (exact ev0 tb),by (exact ev0 ei)⟩
  | succ i =>
   have h0:((i+1:Nat):Int) > 0:=by omega
   have ej:IntKind.i64.wrap (((i+1:Nat):Int) - 1)=(i:Int):=by rw [wrap64 (by omega) (by omega)]; omega
   have hg2:=map_getD Sf.Outp.cells os i (by omega)
   have hi':(i:Int) < ((os.map Sf.Outp.cells).length:Int):=by rw [List.length_map]; omega
   have hi0:(0:Int)≤(i:Int):=by omega
   have hki:os[i+1 - 1]?=some (os[i]'(by omega)):=List.getElem?_eq_getElem (by omega)
   rw [show (if i+1=0 then none else os[i+1 - 1]?.map Sf.Outp.name)=(some (os[i]'(by omega))).map Sf.Outp.name from by rw [if_neg (by omega),hki]] at hit
   obtain ⟨y,hy⟩:∃ y,os[i]'(by omega)=y:=⟨_,rfl⟩
   rw [hy] at hit hg2
   obtain ⟨m2,⟨k2,n2,s2,is2,ks2⟩,b2⟩:=y
   simp only [Sf.Outp.cells] at hg2
   simp only [Option.map_some,Val.badB] at hit
   cases hb:bytesLess m2 m
   ·simp only [hb,Bool.true_and,Bool.and_true,Bool.not_true,Bool.not_false,Bool.false_or,Bool.true_or,if_true] at hit
    refine run0 (ai t1 (ai ta (ai tb (ai tc (ai e1 (ai h0 (ai ej (ai hg2 (ai hi' (ai hi0 hb)))))))))) ?_
    exact ⟨_,le_refl _,by rw [fj2,←hit]; rfl⟩
   ·simp only [hb,Bool.true_and,Bool.and_true,Bool.not_true,Bool.not_false,Bool.false_or,Bool.or_false,Bool.false_eq_true,if_false] at hit
    refine run0 (ai t1 (ai ta (ai tb (ai tc (ai e1 (ai h0 (ai ej (ai hg2 (ai hi' (ai hi0 (ai hb ei))))))))))) ?_
    exact ⟨os.length - ((i+1)+1),by omega,(i+1)+1,l++[.cells 85 [.str m,.int .i64 k,.int .i64 n,.str s,.sl 5 .no (V.cellss is),.sl 1 .no (strsA ks),.bool b]],rfl,by omega,rfl,nx hit,by (exact ev0 t1),by (exact ev0 ta),by (exact ev0 tb),by (exact ev0 ei)⟩
 have hlt:¬ ((j:Int) < (os.length:Int)):=by omega
 rw [List.drop_eq_nil_of_le (by omega)] at hit
 unfold Sf.outsZ at hit
 refine run0 (ai t1 (ai ta (ai tb (ai tc (ai hlt (ai lm1 (ai lm2 lm3))))))) ?_
 exact ⟨_,le_refl _,by rw [fj2,←hit]; rfl⟩
end AX
end Go.Proofs.YtahmpiioegemaabGreatDoor

namespace Go.Proofs.YtahmpiioegemaabGreatDoor
open Go.RowKit
namespace Adr
theorem mods_names (N:Nat):∀ (f:Nat) (r:Rd) (l:List Step),r.rest.length≤N→(∀ x∈l,x.name.length≤N)→(∀ x∈(modsP f r l).1,x.name.length≤N)∧(modsP f r l).2.rest.length≤N∧(modsP f r l).1.length≤l.length+f
 | 0,r,l,hr,hl=>⟨hl,hr,Nat.le_refl _⟩
 | f+1,r,l,hr,hl=>by
  unfold modsP
  split
  ·next hc =>
   have h1:=has_len modW r
   have h2:=step_len (hasP modW r).2
   have h3:=skip_len [46] (stepP (hasP modW r).2).2
   have hn:(stepP (hasP modW r).2).1.name.length≤N:=Nat.le_trans (word_len (hasP modW r).2).2 (by omega)
   obtain ⟨q1,q2,q3⟩:=mods_names N f (skipP [46] (stepP (hasP modW r).2).2) (l++[(stepP (hasP modW r).2).1]) (by omega) (fun x hx=>by
    rcases List.mem_append.1 hx with hx | hx
    ·exact hl x hx
    ·rw [List.mem_singleton.1 hx]; exact hn)
   exact ⟨q1,q2,Nat.le_trans q3 (by simp only [List.length_append,List.length_singleton]; omega)⟩
  ·exact ⟨hl,hr,by dsimp only; omega⟩
theorem parse_names (s:List UInt8) (h:(parse s).2=0):(∀ x∈(parse s).1.mods,x.name.length≤s.length)∧(parse s).1.mods.length≤s.length+1∧(parse s).1.type.length≤s.length∧(parse s).1.name.length≤s.length:=by
 rw [←parse_eq] at h ⊢
 obtain ⟨q1,q2,q3⟩:=mods_names s.length (s.length+1) ⟨s,false⟩ [] (Nat.le_refl _) (by simp)
 unfold parseP at h ⊢
 dsimp only at h ⊢
 have l1:=has_len dataW (modsP (s.length+1) ⟨s,false⟩ []).2
 have l2:=word_len (hasP dataW (modsP (s.length+1) ⟨s,false⟩ []).2).2
 have l3:=skip_len [46] (wordP (hasP dataW (modsP (s.length+1) ⟨s,false⟩ []).2).2).2
 have l4:=word_len (skipP [46] (wordP (hasP dataW (modsP (s.length+1) ⟨s,false⟩ []).2).2).2)
 split at h
 ·simp at h
 ·next h1 =>
  rw [if_neg h1]
  split at h
  ·simp at h
  ·next h2 =>
   rw [if_neg h2]
   dsimp only
   exact ⟨q1,by simpa using q3,by omega,by omega⟩
end Adr
namespace AX
theorem a_static (s:List UInt8) (hs:s.length≤2000000) (h:Hp):ACall Tryz.prog GT 134 [.str s] h fun r h'=>r = .tup [.str (Adr.static s).1,.int .i64 (Adr.static s).2]∧h'=h:=by
 refine pcall ?_ rfl (by simp [A.pure,A.data]) h
 refine acall_of mixedT h_aStatic (by simp [c_aStatic]) ?_
 dsimp only [c_aStatic]
 have cp:=fun h=>a_parse s hs h
 have hS:Adr.static s=if (Adr.parse s).2≠0 then ([],(Adr.parse s).2) else (Adr.fmt (Adr.bare (Adr.parse s).1),0):=rfl
 have hnm:=Adr.parse_names s
 obtain ⟨⟨a,e⟩,hp⟩:∃ q,Adr.parse s=q:=⟨_,rfl⟩
 rw [hp] at cp hS hnm
 dsimp only at cp hS hnm
 rw [hS]
 by_cases he:e=0
 rotate_left
 ·have e1:(e != 0)=true:=by simp [he]
  rw [if_pos he]
  obtain ⟨mods,data,ty,nm,⟨kk,kn,ks⟩⟩:=a
  dsimp only [Adr.Ad.cells] at cp
  refine run0 ti ?_
  refine use (cp _) ?_
  refine run0 e1 ?_
  exact ⟨_,le_refl _,rfl⟩
 have e1:(e != 0)=false:=by simp [he]
 rw [if_neg (by simp [he])]
 obtain ⟨n1,n2,n3,n4⟩:=hnm he
 have cs:=fun h=>a_static0 a (by omega) h
 have cf:=fun h=>a_format0 (Adr.bare a) ⟨by unfold Adr.bare; dsimp only; rw [List.length_map]; omega,fun x hx=>by
   unfold Adr.bare at hx
   obtain ⟨y,hy,rfl⟩:=List.mem_map.1 hx
   have:=n1 y hy
   exact ⟨Nat.le_trans this hs,by simp [Adr.K.none]⟩,by unfold Adr.bare; dsimp only; omega,by unfold Adr.bare; dsimp only; omega,by unfold Adr.bare Adr.K.none; simp⟩
  (fun x hx=>by
   unfold Adr.bare at hx
   obtain ⟨y,hy,rfl⟩:=List.mem_map.1 hx
   rfl) rfl h
 have hbc:(Adr.bare a).cells=[.sl 4 .no ((a.mods.map fun s=>(⟨s.name,Adr.K.none⟩:Adr.Step)).map Adr.Step.cells),.bool a.data,.str a.type,.str a.name,.int .i64 0,.int .i64 0,.str []]:=rfl
 rw [hbc] at cs cf
 obtain ⟨F,hF⟩:∃ F,Adr.fmt (Adr.bare a)=F:=⟨_,rfl⟩
 rw [hF] at cf ⊢
 clear hS n1 n2 n3 n4 hnm hp hbc
 obtain ⟨mods,data,ty,nm,⟨kk,kn,ks⟩⟩:=a
 dsimp only [Adr.Ad.cells] at cp cs cf
 refine run0 ti ?_
 refine use (cp _) ?_
 refine run0 e1 ?_
 refine use (cs _) ?_
 refine run0 ti ?_
 refine use (cf _) ?_
 refine run0 ti ?_
 exact ⟨_,le_refl _,rfl⟩
theorem leafs:Leafs where
 parse:=a_parse
 static:=a_static
 ident:=a_ident
 num:=a_numParse
 cmp:=a_cmp
 known:=fun v hl h=>a_known v hl h
 text:=fun s hs h=>(a_stext s hs h).mono fun v h' hv=>hv
theorem a_stateCheck (st:Sf.St) (ok:Sf.StIn st):SCheck st:=a_scheck leafs st ok
def c_r6steps:AX.AFn:=⟨28,aS [aR 2 (.mv (.c (.str [])))] (aS [aR 3 (.mv (.c (.str [])))] (.seq (aS [aR 4 (.mv (aI 0))] (.block 0 (.loop (.seq (aS [aM 5 4,aM 6 0,aR 7 (.len false (.t 6)),aR 8 (.bin .lss (.t 5) (.t 7))] (.cond (.t 8) (.skip) (.exit 0))) (.seq (.block 1 (.reg true [aM 11 3,⟨some 12,.bin .add (.t 11) (.c (.str [109,111,100,117,108,101,46])),none,[0]⟩,aM 13 0,aM 14 4,⟨some 15,.iaddr 4 (.t 13) (.t 14),none,[2,3]⟩,⟨some 16,.faddr 0 (.t 15),none,[4]⟩,⟨some 17,.load false 1 (.t 16),none,[5]⟩,⟨some 18,.bin .add (.t 12) (.t 17),none,[1,6]⟩,aM 19 0,aM 20 4,⟨some 21,.iaddr 4 (.t 19) (.t 20),none,[8,9]⟩,⟨some 22,.faddr 1 (.t 21),none,[10]⟩,⟨some 23,.load true 3 (.t 22),none,[11]⟩,⟨some 24,.call 253 [.t 23],none,[12]⟩,⟨some 25,.bin .add (.t 18) (.t 24),none,[7,13]⟩,⟨some 26,.bin .add (.t 25) (.c (.str [46])),none,[14]⟩,⟨some 3,.mv (.t 26),none,[15,13,0,1,2,3,4,5,6,7,8,9,10,11,12,13,14,15]⟩])) (.reg false [aM 9 4,aR 10 (.bin .add (.t 9) (aI 1)),aM 4 10])))))) (aS [aM 27 3,aM 2 27] (.ret)))),[.t 2]⟩
theorem h_r6steps:AX.compFn Tryz.prog 252=some c_r6steps:=by kernel_rfl
def c_r6format:AX.AFn:=⟨26,aS [aR 1 (.box 149 (.t 0)),aR 2 (.mv (.c (.str [])))] (.seq (aS [aR 4 (.load true 7 (.t 1)),aR 5 (.call 251 [.t 4]),aR 6 (.bin .neq (.t 5) (aI 0))] (.cond (.t 6) (aS [aR 2 (.mv (.c (.str [])))] (.ret)) (.skip))) (aS [aF 7 0 1,aL 8 7,aR 9 (.call 252 [.t 8]),aM 3 9] (.seq (aS [aF 10 1 1,aL 11 10] (.cond (.t 11) (.reg false [aM 12 3,aR 13 (.bin .add (.t 12) (.c (.str [100,97,116,97,46]))),aM 3 13]) (.skip))) (.seq (.reg true [aM 14 3,aF 15 2 1,⟨some 16,.load false 1 (.t 15),none,[1]⟩,⟨some 17,.bin .add (.t 14) (.t 16),none,[0,2]⟩,⟨some 18,.bin .add (.t 17) (.c (.str [46])),none,[3]⟩,aF 19 3 1,⟨some 20,.load false 1 (.t 19),none,[5]⟩,⟨some 21,.bin .add (.t 18) (.t 20),none,[4,6]⟩,aF 22 4 1,⟨some 23,.load true 3 (.t 22),none,[8]⟩,⟨some 24,.call 253 [.t 23],none,[9]⟩,⟨some 25,.bin .add (.t 21) (.t 24),none,[7,10]⟩,⟨some 2,.mv (.t 25),none,[11,10,0,1,2,3,4,5,6,7,8,9,10,11]⟩]) (.ret))))),[.t 2]⟩
theorem h_r6format:AX.compFn Tryz.prog 240=some c_r6format:=by kernel_rfl
def c_r6static:AX.AFn:=⟨17,aS [aR 2 (.mv (.c (.str []))),aR 3 (.mv (aI 0))] (aS [aM 7 0,aR 8 (.call 197 [.t 7]),aM 6 8,aE 9 6 0,aE 10 6 1,aR 4 (.alloc 149 [.sl 0 .nil [],.bool false,.str [],.str [],.int .i64 0,.int .i64 0,.str []]),aU (.store 7 (.t 4) (.t 9)),aM 5 10] (.seq (aS [aM 11 5,aR 12 (.bin .neq (.t 11) (aI 0))] (.cond (.t 12) (aS [aM 13 5,aR 2 (.mv (.c (.str []))),aM 3 13] (.ret)) (.skip))) (aS [aR 14 (.load true 7 (.t 4)),aR 15 (.call 241 [.t 14]),aR 16 (.call 240 [.t 15]),aM 2 16,aR 3 (.mv (aI 0))] (.ret)))),[.t 2,.t 3]⟩
theorem h_r6static:AX.compFn Tryz.prog 221=some c_r6static:=by kernel_rfl
theorem row_at6 {α:Type} (f:α→List A) (l:List α) (i:Nat) (h:i < l.length) (hl:l.length≤4611686018427387904) :
  (l.map f).length=l.length∧(i:Int) < (l.length:Int)∧(0:Int)≤(i:Int)∧(l.map f).getD i []=f l[i]∧IntKind.i64.wrap ((i:Int)+1)=((i+1:Nat):Int):=
 ⟨List.length_map _,by omega,by omega,map_getD f l i h,by rw [wrap64 (by omega) (by omega)]; omega⟩
theorem a_r6check (a:Adr.Ad) (hi:Adr.In a) (h:Hp):ACall Tryz.prog GT 251 [.agg a.cells] h fun r h'=>r = .int .i64 (Adr.check a)∧h'=h:=by
 obtain ⟨mods,data,ty,nm,⟨ka,kb,kc⟩⟩:=a
 obtain ⟨hn,hm,ht,ha,hk⟩:=hi
 dsimp only at hn hm ht ha hk
 obtain ⟨q,hq⟩:∃ q,Adr.check ⟨mods,data,ty,nm,⟨ka,kb,kc⟩⟩=q:=⟨_,rfl⟩
 rw [hq]
 unfold Adr.check at hq
 dsimp only at hq
 refine pcall ?_ rfl (by simp [A.pure,A.data,Adr.Ad.cells]) h
 refine fo ?_
 dsimp only [Adr.Ad.cells]
 have lm:(mods.map Adr.Step.cells).length=mods.length:=List.length_map _
 by_cases h16:16 < mods.length
 ·have e1:(mods.length:Int) > 16:=by omega
  rw [if_pos h16] at hq
  subst hq
  refine runx0 (ai lm e1) ti ?_
  exact ⟨_,le_refl _,rfl⟩
 have e1:¬ (mods.length:Int) > 16:=by omega
 rw [if_neg h16] at hq
 refine runx0 (ai lm e1) ti ?_
 refine awp_loop (fun m ts hh=>hh=⟨[.cells 149 [.sl 4 .no (mods.map Adr.Step.cells),.bool data,.str ty,.str nm,.int .i64 ka,.int .i64 kb,.str kc]],[]⟩∧∃ j:Nat,m=mods.length - j∧j≤mods.length∧(mods.drop j).find? (fun s=>!(Adr.ident s.name&&Adr.keyOk s.key))=mods.find? (fun s=>!(Adr.ident s.name&&Adr.keyOk s.key))∧(ts 1 = .ptr 0 0∧ts 3 = .int .i64 (j:Nat))) mods.length ?_ ?_
 ·exact ⟨rfl,0,rfl,Nat.zero_le _,rfl,by (exact inv0 ti)⟩
 rintro m ts hh ⟨rfl,j,rfl,hj,hfd,hu⟩
 rcases Nat.lt_or_ge j mods.length with hlt | hge
 ·have hf:=row_at6 Adr.Step.cells mods j hlt (by omega)
  have hmj:=hm _ (List.getElem_mem hlt)
  rw [List.drop_eq_getElem_cons hlt,List.find?_cons] at hfd
  obtain ⟨x,hx⟩:∃ x,mods[j]=x:=⟨_,rfl⟩
  rw [hx] at hf hmj hfd
  obtain ⟨xn,⟨ja,jb,jc⟩⟩:=x
  dsimp only [Adr.Step.cells] at hf hmj hfd
  have ci:=a_r6ident xn hmj.1
  have ck:=a_r6Key ⟨ja,jb,jc⟩ hmj.2
  dsimp only at ck
  cases hI:Adr.ident xn with
  | false =>
   rw [hI] at ci hfd
   simp only [Bool.false_and,Bool.not_false] at hfd
   rw [←hfd] at hq
   dsimp only at hq
   rw [if_neg (by rw [hI]; decide)] at hq
   subst hq
   refine runx0 (ai hu hf) (ai ci ti) ?_
   exact ⟨_,le_refl _,rfl⟩
  | true =>
  rw [hI] at ci hfd
  cases hK:Adr.keyOk ⟨ja,jb,jc⟩ with
  | false =>
   rw [hK] at ck hfd
   simp only [Bool.and_false,Bool.not_false] at hfd
   rw [←hfd] at hq
   dsimp only at hq
   rw [if_pos hI] at hq
   subst hq
   refine runx0 (ai hu hf) (ai ci (ai ck ti)) ?_
   exact ⟨_,le_refl _,rfl⟩
  | true =>
   rw [hK] at ck hfd
   simp only [Bool.and_true,Bool.not_true] at hfd
   refine runx0 (ai hu hf) (ai ci (ai ck ti)) ?_
   exact ⟨_,by omega,rfl,j+1,rfl,by omega,hfd,by (exact inv0 (ai hu hf))⟩
 ·have hf:=ai lm (show ¬ (j:Int) < (mods.length:Int) by omega)
  rw [List.drop_of_length_le hge] at hfd
  rw [←hfd] at hq
  simp only [List.find?_nil] at hq
  have ci:=a_r6ident ty ht
  have cr:=a_r6res ty
  have ci2:=a_r6ident nm ha
  have ck:=a_r6Key ⟨ka,kb,kc⟩ hk
  dsimp only at ck
  have hkb:Adr.kindB ty=(!Adr.reserved ty&&Adr.ident ty):=rfl
  rw [hkb] at hq
  cases hI:Adr.ident ty with
  | false =>
   rw [hI] at ci hq
   simp only [Bool.and_false,Bool.not_false,Bool.true_or,if_true] at hq
   subst hq
   refine runx0 (ai hu hf) (ai ci ti) ?_
   exact ⟨_,le_refl _,rfl⟩
  | true =>
  rw [hI] at ci hq
  cases hR:Adr.reserved ty with
  | true =>
   rw [hR] at cr hq
   simp only [Bool.not_true,Bool.false_and,Bool.not_false,Bool.true_or,if_true] at hq
   subst hq
   refine runx0 (ai hu hf) (ai ci (ai cr ti)) ?_
   exact ⟨_,le_refl _,rfl⟩
  | false =>
  rw [hR] at cr hq
  cases hN:Adr.ident nm with
  | false =>
   rw [hN] at ci2 hq
   simp only [Bool.not_false,Bool.true_and,Bool.not_true,Bool.false_or,if_true] at hq
   subst hq
   refine runx0 (ai hu hf) (ai ci (ai cr (ai ci2 ti))) ?_
   exact ⟨_,le_refl _,rfl⟩
  | true =>
  rw [hN] at ci2 hq
  simp only [Bool.not_false,Bool.true_and,Bool.not_true,Bool.false_or,Bool.false_eq_true,if_false] at hq
  cases hK:Adr.keyOk ⟨ka,kb,kc⟩ with
  | false =>
   rw [hK] at ck hq
   simp only [Bool.not_false,if_true] at hq
   subst hq
   refine runx0 (ai hu hf) (ai ci (ai cr (ai ci2 (ai ck ti)))) ?_
   exact ⟨_,le_refl _,rfl⟩
  | true =>
   rw [hK] at ck hq
   simp only [Bool.not_true,Bool.false_eq_true,if_false] at hq
   subst hq
   refine runx0 (ai hu hf) (ai ci (ai cr (ai ci2 (ai ck ti)))) ?_
   exact ⟨_,le_refl _,rfl⟩
theorem a_r6bare (a:Adr.Ad) (hn:a.mods.length≤3000000) (h:Hp):ACall Tryz.prog GT 241 [.agg a.cells] h fun r h'=>r = .agg (Adr.bare a).cells∧h'=h:=by
 obtain ⟨mods,data,ty,nm,⟨ka,kb,kc⟩⟩:=a
 dsimp only at hn
 refine pcall ?_ (by simp [A.pure,A.data,Adr.Ad.cells]) (by simp [A.pure,A.data,Adr.Ad.cells]) h
 refine fo ?_
 dsimp only [Adr.Ad.cells,Adr.bare,Adr.K.none]
 have lm:(mods.map Adr.Step.cells).length=mods.length:=List.length_map _
 refine runx0 lm ti ?_
 refine awp_loop (fun m ts hh=>∃ (j W:Nat) (o:Own) (t:List (TypeId×Nat×Nat)),m=mods.length - j∧j≤mods.length ∧
  hh=⟨[.cells 149 [.sl 4 .no (mods.map Adr.Step.cells),.bool data,.str ty,.str nm,.int .i64 ka,.int .i64 kb,.str kc],.cells 149 [.sl 0 .nil [],.bool false,.str [],.str [],.int .i64 0,.int .i64 0,.str []],.cells 149 [.sl W o (((mods.take j).map fun s=>(⟨s.name,Adr.K.none⟩:Adr.Step)).map Adr.Step.cells),.bool data,.str ty,.str nm,.int .i64 0,.int .i64 0,.str []]],t⟩ ∧
  Gs 186 4 0 ⟨[],t⟩ (((mods.take j).map fun s=>(⟨s.name,Adr.K.none⟩:Adr.Step)).map Adr.Step.cells) (.sl W o (((mods.take j).map fun s=>(⟨s.name,Adr.K.none⟩:Adr.Step)).map Adr.Step.cells))∧(ts 1 = .ptr 0 0∧ts 2 = .ptr 1 0∧ts 3 = .ptr 2 0∧ts 4 = .int .i64 (j:Nat))) mods.length ?_ ?_
 ·exact ⟨0,0,.nil,[],rfl,Nat.zero_le _,rfl,.inl ⟨rfl,rfl⟩,by (exact inv0 ti)⟩
 rintro m ts hh ⟨j,W,o,t,rfl,hj,rfl,gX,hu⟩
 rcases Nat.lt_or_ge j mods.length with hlt | hge
 ·have hf:=row_at6 Adr.Step.cells mods j hlt (by omega)
  have htk:=List.take_succ_eq_append_getElem hlt
  obtain ⟨x,hx⟩:∃ x,mods[j]=x:=⟨_,rfl⟩
  rw [hx] at hf htk
  obtain ⟨xn,⟨ja,jb,jc⟩⟩:=x
  dsimp only [Adr.Step.cells] at hf
  have hrow:((mods.take (j+1)).map fun s=>(⟨s.name,Adr.K.none⟩:Adr.Step)).map Adr.Step.cells=((mods.take j).map fun s=>(⟨s.name,Adr.K.none⟩:Adr.Step)).map Adr.Step.cells++[[.str xn,.int .i64 0,.int .i64 0,.str []]]:=by
   rw [htk,List.map_append,List.map_append]; rfl
  have hrl:(((mods.take j).map fun s=>(⟨s.name,Adr.K.none⟩:Adr.Step)).map Adr.Step.cells).length+1≤1000000000:=by
   rw [List.length_map,List.length_map,List.length_take]; omega
  obtain ⟨W',o',t',hX,gX',_⟩:=gX.grow 48 [.str xn,.int .i64 0,.int .i64 0,.str []] hrl (by decide)
  rw [←hrow] at gX'
  simp only [←hrow] at hX
  refine runx0 (ai hu (ai hf hX)) ti ?_
  exact ⟨_,by omega,j+1,W',o',t',rfl,by omega,rfl,gX',by (exact inv0 (ai hu hf))⟩
 ·have hf:=ai lm (show ¬ (j:Int) < (mods.length:Int) by omega)
  rw [List.take_of_length_le hge] at gX ⊢
  refine runx0 (ai hu hf) ti ?_
  exact ⟨.agg [.sl 4 .no ((mods.map fun s=>(⟨s.name,Adr.K.none⟩:Adr.Step)).map Adr.Step.cells),.bool data,.str ty,.str nm,.int .i64 0,.int .i64 0,.str []],⟨gX.le,rfl,rfl,rfl,rfl,rfl,rfl,trivial⟩,rfl⟩
theorem a_r6steps (mods:List Adr.Step) (hn:mods.length≤16) (hm:∀ s∈mods,s.name.length≤2000000) (hk:∀ s∈mods,s.key=Adr.K.none) (h:Hp):ACall Tryz.prog GT 252 [.sl 4 .no (mods.map Adr.Step.cells)] h fun r h'=>r = .str (mods.flatMap stepB)∧h'=h:=by
 refine pcall ?_ rfl (by simp [A.pure,A.data]) h
 refine acall_of mixedT h_r6steps (by simp [c_r6steps]) ?_
 dsimp only [c_r6steps]
 have cf:=a_r6fmtkey0
 refine runx0 ti ti ?_
 refine awp_loop (fun m ts hh=>hh=⟨[],[]⟩∧∃ j:Nat,m=mods.length - j∧j≤mods.length∧(ts 0 = .sl 4 .no (mods.map Adr.Step.cells)∧ts 3 = .str ((mods.take j).flatMap stepB)∧ts 4 = .int .i64 (j:Nat))) mods.length ?_ ?_
 ·exact ⟨rfl,0,rfl,Nat.zero_le _,by (exact inv0 ti)⟩
 rintro m ts hh ⟨rfl,j,rfl,hj,hu⟩
 rcases Nat.lt_or_ge j mods.length with hlt | hge
 ·have hf:=row_at6 Adr.Step.cells mods j hlt (by omega)
  have hmj:=hm _ (List.getElem_mem hlt)
  have hkj:=hk _ (List.getElem_mem hlt)
  have hsn:=fm_snoc' stepB mods j hlt
  have hacc:((mods.take j).flatMap stepB).length≤32000128:=by
   have h2:(mods.take j).length≤16:=by rw [List.length_take]; omega
   exact Nat.le_trans (fm_len16 (mods.take j) fun s hs=>hm s (List.mem_of_mem_take hs)) (Nat.le_trans (Nat.mul_le_mul_right 2000008 h2) (by decide))
  obtain ⟨x,hx⟩:∃ x,mods[j]=x:=⟨_,rfl⟩
  rw [hx] at hf hmj hkj hsn
  obtain ⟨xn,xk⟩:=x
  dsimp only at hkj hmj
  subst hkj
  dsimp only [Adr.Step.cells,Adr.K.none] at hf
  obtain ⟨P,hP⟩:∃ P,(mods.take j).flatMap stepB=P:=⟨_,rfl⟩
  rw [hP] at hu hsn hacc
  have l1:P.length+7 < 1099511627776∧P.length+7+xn.length < 1099511627776∧P.length+7+xn.length+1 < 1099511627776∧P.length+(7+xn.length) < 1099511627776∧P.length+(7+xn.length)+1 < 1099511627776∧P.length+(xn.length+7) < 1099511627776∧P.length+(xn.length+7)+1 < 1099511627776∧P.length+7+xn.length+0 < 1099511627776:=⟨by omega,by omega,by omega,by omega,by omega,by omega,by omega,by omega⟩
  refine runx0 (ai hu (ai hf l1)) (ai cf ti) ?_
  refine ⟨_,by omega,rfl,j+1,rfl,by omega,?_⟩
  have e:P++[109,111,100,117,108,101,46]++xn++[46]=(mods.take (j+1)).flatMap stepB:=by
   rw [hsn]
   unfold stepB
   simp [Adr.modW]
  (exact inv0 (ai hu (ai hf e)))
 ·have hf:=ai (show (mods.map Adr.Step.cells).length=mods.length from List.length_map _) (show ¬ (j:Int) < (mods.length:Int) by omega)
  rw [List.take_of_length_le hge] at hu
  refine runx0 (ai hu hf) ti ?_
  exact ⟨_,le_refl _,rfl⟩
theorem a_r6format0 (a:Adr.Ad) (hi:Adr.In a) (hk:∀ s∈a.mods,s.key=Adr.K.none) (hkk:a.key=Adr.K.none) (h:Hp):ACall Tryz.prog GT 240 [.agg a.cells] h fun r h'=>r = .str (Adr.fmt a)∧h'=h:=by
 have cc:=fun h=>a_r6check a hi h
 obtain ⟨mods,data,ty,nm,key⟩:=a
 dsimp only at hk hkk
 subst hkk
 have hfb:=fmt_bare mods data ty nm hk
 obtain ⟨hn,hm,ht,ha,_⟩:=hi
 dsimp only at hn hm ht ha
 refine pcall ?_ rfl (by simp [A.pure,A.data,Adr.Ad.cells]) h
 refine acall_of mixedT h_r6format (by simp [c_r6format]) ?_
 dsimp only [c_r6format,Adr.Ad.cells,Adr.K.none] at cc ⊢
 by_cases hc0:Adr.check ⟨mods,data,ty,nm,Adr.K.none⟩=0
 rotate_left
 ·have e1:(Adr.check ⟨mods,data,ty,nm,Adr.K.none⟩ != 0)=true:=by simp [hc0]
  have hfz:Adr.fmt ⟨mods,data,ty,nm,Adr.K.none⟩=[]:=by unfold Adr.fmt; rw [if_pos hc0]
  unfold Adr.K.none at e1 hfz
  refine runx0 e1 (ai cc ti) ?_
  exact ⟨_,le_refl _,by rw [hfz]; rfl⟩
 have e1:(Adr.check ⟨mods,data,ty,nm,Adr.K.none⟩ != 0)=false:=by simp [hc0]
 have hf:=hfb hc0
 have hn16:mods.length≤16:=by
  rcases Nat.lt_or_ge 16 mods.length with h16 | h16
  ·unfold Adr.check at hc0
   rw [if_pos h16] at hc0
   exact absurd hc0 (by decide)
  ·exact h16
 have hlenall:=fm_len16 mods fun s hs=>(hm s hs).1
 have cs:=a_r6steps mods hn16 (fun s hs=>(hm s hs).1) hk
 have cf:=a_r6fmtkey0
 unfold Adr.K.none at e1 hf
 rw [hf]
 obtain ⟨P,hP⟩:∃ P,mods.flatMap stepB=P:=⟨_,rfl⟩
 rw [hP] at cs hlenall ⊢
 have hPl:P.length≤32000128:=Nat.le_trans hlenall (Nat.le_trans (Nat.mul_le_mul_right 2000008 hn16) (by decide))
 cases data with
 | false =>
  have l1:P.length+ty.length < 1099511627776∧P.length+ty.length+1 < 1099511627776∧P.length+ty.length+1+nm.length < 1099511627776∧P.length+(ty.length+1) < 1099511627776∧P.length+(ty.length+1)+nm.length < 1099511627776∧P.length+(ty.length+(1+nm.length)) < 1099511627776:=⟨by omega,by omega,by omega,by omega,by omega,by omega⟩
  refine runx0 (ai e1 l1) (ai cc (ai cs (ai cf ti))) ?_
  exact ⟨_,le_refl _,by simp [tupA_1]⟩
 | true =>
  have l1:P.length+5 < 1099511627776∧P.length+5+ty.length < 1099511627776∧P.length+5+ty.length+1 < 1099511627776∧P.length+5+ty.length+1+nm.length < 1099511627776:=⟨by omega,by omega,by omega,by omega⟩
  refine runx0 (ai e1 l1) (ai cc (ai cs (ai cf ti))) ?_
  exact ⟨_,le_refl _,by simp [tupA_1,Adr.dataW]⟩
theorem a_r6static (s:List UInt8) (hl:s.length≤2000000) (hin:Adr.In (Adr.bare (Adr.parse s).1)) (h:Hp):ACall Tryz.prog GT 221 [.str s] h fun r h'=>r = .tup [.str (Adr.static s).1,.int .i64 (Adr.static s).2]∧h'=h:=by
 have cp:=a_r6parse s hl
 have cb:=a_r6bare (Adr.parse s).1 (by have:=hin.n; simpa [Adr.bare] using this)
 have cf:=a_r6format0 (Adr.bare (Adr.parse s).1) hin (fun x hx=>by
  simp only [Adr.bare,List.mem_map] at hx
  obtain ⟨y,_,rfl⟩:=hx
  rfl) rfl
 refine pcall ?_ rfl (by simp [A.pure,A.data]) h
 refine acall_of mixedT h_r6static (by simp [c_r6static]) ?_
 dsimp only [c_r6static]
 unfold Adr.static
 obtain ⟨⟨⟨mods,data,ty,nm,⟨ka,kb,kc⟩⟩,e⟩,hP⟩:∃ p,Adr.parse s=p:=⟨_,rfl⟩
 rw [hP] at cp cb cf ⊢
 dsimp only [Adr.Ad.cells] at cp cb cf ⊢
 obtain ⟨F,hF⟩:∃ F,Adr.fmt (Adr.bare ⟨mods,data,ty,nm,⟨ka,kb,kc⟩⟩)=F:=⟨_,rfl⟩
 rw [hF] at cf ⊢
 dsimp only [Adr.bare,Adr.K.none] at cb cf
 by_cases he:e=0
 ·subst he
  refine runx0 ti (ai cp (ai cb (ai cf ti))) ?_
  exact ⟨_,le_refl _,rfl⟩
 ·have e1:(e != 0)=true:=by simp [he]
  rw [if_pos he]
  refine runx0 e1 (ai cp ti) ?_
  exact ⟨_,le_refl _,rfl⟩
end AX
end Go.Proofs.YtahmpiioegemaabGreatDoor
