/- Part of what the proof needs. -/
import Derived.Test.YteklhoajalgehaaGreatDoorMFrJournalBeginsUptoE
import Derived.Test.YteklhoajalgehaaGreatDoorMFrJournalBeginsUptoG
import Derived.Test.YteklhoajalgehaaGreatDoorMFrJournalBeginsUptoI
import Derived.Test.YteklhoajalgehaaGreatDoorMFrJournalBeginsUptoL
import Derived.Test.YteklhoajalgehaaGreatDoorMFrJournalBeginsUptoM
import Derived.Test.YteklhoajalgehaaGreatDoorMFrJournalBeginsUptoN
import Derived.Test.YteklhoajalgehaaGreatDoorMFrJournalBeginsUptoO
import Derived.Test.YteklhoajalgehaaGreatDoorMFrJournalBeginsUptoP
import Derived.Test.YteklhoajalgehaaGreatDoorRows
import Derived.Maps.RangeRun
set_option maxHeartbeats 4000000
set_option linter.unusedSimpArgs false
set_option linter.unusedVariables false
set_option linter.unnecessarySimpa false
namespace Go.Proofs.YteklhoajalgehaaGreatDoor
open Go.RowKit
namespace AX
section
variable {P : Program} {G : World → Prop} {C : Ctx} {h : Hp}
inductive FzV (h : Hp) : A → A → Prop
 | one {x y : A} (e : Fz1 h x y) : FzV h x y
 | agg {xs ys : List A} (e : FzL h xs ys) : FzV h (.agg xs) (.agg ys)
theorem pcallv {f : FuncId} {args : List A} {y : A} (hc : ACall P G f args ⟨[],[]⟩ fun v h' => FzV h' v y) (ha : args.all A.pure = true) (h : Hp) : ACall P G f args h fun v h' => v = y ∧ h' = h:=by
 intro C cs hI hr
 have hid : Inv G C.hid ⟨[],[]⟩:=by
  refine ⟨rfl,fun i b hb => by simp at hb,fun i hi => by simp [Ctx.hid] at hi,fun g i hg => by simp [Ctx.hid] at hg,fun g j hs => ?_,fun t E W m ht => by simp [Ctx.hid] at ht,fun t t' ht => by simp [Ctx.hid] at ht,fun t => by simp [Ctx.hid],hI.base,hI.glob⟩
  exact ⟨(hI.prot g j hs).1,rfl,fun t E W m ht => by simp [Ctx.hid] at ht⟩
 refine (hc C.hid cs hid (RepL.pures (C:=C) (C':=C.hid) ⟨fun g j hs => ⟨hs,rfl⟩⟩ args cs ha hr)).mono ?_
 rintro e w' ⟨C1,h1,v,cv,rfl,rfl,I1,S1,r1,hf⟩
 have hblk : ∀ g,g < C.w.heap.size → C1.w.heap[g]? = C.w.heap[g]?:=fun g hg => S1.frame g hg rfl fun t ht => by simp [Ctx.hid] at ht
 have hnew : ∀ g i,C1.own g = some i → C.w.heap.size ≤ g:=fun g i hg => by
  rcases Nat.lt_or_ge g C.w.heap.size with hlt | hge
  ·have:=S1.own g hlt
   rw [hg] at this
   simp [Ctx.hid] at this
  ·exact hge
 let C2 : Ctx:={ C with w:=C1.w,S:=fun g j => C1.S g j ∨ ((C1.own g).isSome = true),own:=fun g => if g < C.w.heap.size then C.own g else none }
 have hsz : C.w.heap.size ≤ C1.w.heap.size:=S1.size
 have he : Ext C C2:=by
  refine ⟨fun g j hs => ?_,Nat.le_refl _,fun _ _ => rfl,fun t E W m ht => ?_⟩
  ·obtain ⟨k1,k2⟩:=S1.ext.cells g j hs
   exact ⟨.inl k1,k2⟩
  ·obtain ⟨_,_,cap,h2,_⟩:=hI.rows t E W m ht
   exact ⟨m,ht,.inr ⟨rfl,rfl,fun cap hc => hc.same (hblk _ h2.lt)⟩⟩
 have hown : ∀ g i,C2.own g = some i ↔ C.own g = some i:=fun g i => by
  show (if g < C.w.heap.size then C.own g else none) = some i ↔ _
  split
  ·exact Iff.rfl
  ·next hg => exact ⟨fun e => (by cases e),fun e => absurd (hI.ownlt g i e).2.1 hg⟩
 have hprot : ∀ g j,C2.S g j → C.S g j ∨ C.w.heap.size ≤ g:=fun g j hs => by
  rcases hs with hs | hs
  ·rcases S1.prot g j hs with h2 | h2 | ⟨t,h2,_⟩
   ·exact .inl h2
   ·exact .inr h2
   ·simp [Ctx.hid] at h2
  ·obtain ⟨i,hi⟩:=Option.isSome_iff_exists.1 hs
   exact .inr (hnew g i hi)
 have hSlt : ∀ g j,C2.S g j → g < C1.w.heap.size:=fun g j hs => by
  rcases hs with hs | hs
  ·exact (I1.prot g j hs).1
  ·obtain ⟨i,hi⟩:=Option.isSome_iff_exists.1 hs
   exact (I1.ownlt g i hi).2.1
 have hsame : Same C1 C2:=⟨fun g j hs => ⟨.inl hs,rfl⟩⟩
 have frz : ∀ (xs ys : List A) (vs : List Value),FzL h1 xs ys → RepL C1 xs vs → RepL C2 ys vs:=by
  intro xs
  induction xs with
  | nil =>
   intro ys vs hf hr
   cases ys with
   | nil => exact hr
   | cons y ys => exact hf.elim
  | cons x xs ih =>
   intro ys vs hf hr
   cases ys with
   | nil => exact hf.elim
   | cons y ys =>
    obtain ⟨c,cs',rfl,k1,k2⟩:=repL_cons.1 hr
    refine repL_cons.2 ⟨c,cs',rfl,?_,ih ys cs' hf.2 k2⟩
    rcases hf.1 with ⟨rfl,hd⟩ | ⟨i,W,T,rows,rfl,hb,rfl,hW,hd⟩
    ·exact Rep.same hsame _ _ hd k1
    ·obtain ⟨cap,rfl,hcap,hi⟩:=rep_bs.1 k1
     obtain ⟨ds,rest,q1,q2⟩:=I1.box i _ hb
     have hsd : (C1.own (C1.κ i)).isSome = true:=by rw [I1.ownk i hi]; rfl
     have hdd : ∀ (l : List A) (ds : List Value),l.all A.data = true → RepL C1 l ds → RepL C2 l ds:=fun l ds hd hr => RepL.same hsame l ds hd hr
     refine rep_sl.2 ⟨_,cap,rfl,hcap,repRows_of rows ds 0 hW hd (hdd _ _ hd q2) (fun j _ => .inr hsd) (fun j u hu => ?_),trivial⟩
     have q1' : C2.w.heap[C1.κ i]? = some (.cells (ds ++ rest).toArray T (0,0)):=q1
     rw [cell_of_row _ _ _ _ _ _ q1']
     have hj : j < ds.length:=(List.getElem?_eq_some_iff.1 hu).1
     simp only [List.getElem?_toArray]
     rw [show 0 + 0 * W + j = j by omega,List.getElem?_append_left hj]
     exact hu
 refine ⟨C2,h,y,cv,rfl,rfl,⟨hI.nb,fun i b hib => ?_,fun i hi => (hown _ _).2 (hI.ownk i hi),fun g i hg => ?_,fun g j hs => ?_,fun t E W m ht => ?_,hI.inj,hI.toks,Nat.le_trans hI.base hsz,fun w2 hw => ?_⟩,⟨he,S1.os,S1.tape,S1.output,hsz,rfl,fun g hg _ _ => hblk g hg,fun g hg => ?_,fun g j hs => ?_,fun t ht => .inr ⟨ht,rfl⟩⟩,?_,rfl,rfl⟩
 ·have hi : i < C.nb:=by rw [← hI.nb]; exact (List.getElem?_eq_some_iff.1 hib).1
  exact (hI.box i b hib).ext he hi (hI.ownk i hi) (fun g j hg => (hI.ownlt g j hg).2.1) (fun g hg => hblk g (hI.ownlt g i hg).2.1) (fun g => hown g i) hsz
 ·obtain ⟨k1,k2,k3⟩:=hI.ownlt g i ((hown g i).1 hg)
  exact ⟨k1,Nat.lt_of_lt_of_le k2 hsz,k3⟩
 ·have hlt:=hSlt g j hs
  rcases hprot g j hs with h2 | h2
  ·obtain ⟨k1,k2,k3⟩:=hI.prot g j h2
   exact ⟨hlt,by show (if g < C.w.heap.size then C.own g else none) = none; rw [if_pos k1,k2],k3⟩
  ·refine ⟨hlt,by show (if g < C.w.heap.size then C.own g else none) = none; rw [if_neg (by omega)],fun t E W m ht e => ?_⟩
   obtain ⟨_,_,cap,k1,_⟩:=hI.rows t E W m ht
   have:=k1.lt
   have e' : C.τ t = g:=e
   omega
 ·obtain ⟨k1,k2,cap,k3,k4⟩:=hI.rows t E W m ht
  exact ⟨by show (if C.τ t < C.w.heap.size then C.own (C.τ t) else none) = none; rw [if_pos k3.lt,k1],k2,cap,k3.same (hblk _ k3.lt),k4⟩
 ·exact hI.glob w2 fun g hg => (hw g hg).trans (hblk g (Nat.lt_of_lt_of_le hg hI.base))
 ·show (if g < C.w.heap.size then C.own g else none) = C.own g
  rw [if_pos hg]
 ·rcases hprot g j hs with h2 | h2
  ·exact .inl h2
  ·exact .inr (.inl h2)
 ·cases hf with
  | one hf =>
   have:=frz [v] [y] [cv] ⟨hf,trivial⟩ (repL_cons.2 ⟨_,_,rfl,r1,repL_nil.2 rfl⟩)
   obtain ⟨c,cs,e,k,_⟩:=repL_cons.1 this
   injection e with e; subst e
   exact k
  | agg hf =>
   obtain ⟨vs,rfl,hl⟩:=rep_agg.1 r1
   exact rep_agg.2 ⟨vs,rfl,frz _ _ vs hf hl⟩
end
end AX
set_option maxRecDepth 100000 in
theorem clone_strs (b off n c : Nat) (news : List Value) (w : World) (hl : news.length = n * 1) (hn : 0 < n) (hbig : n * 16 ≤ 140737488355328) (hmax : n ≤ maxLen) (hc : ∀ j v,news[j]? = some v → w.cell? ((⟨b,off,none⟩ : Addr).add j) = some v) (h1 : ∀ u ∈ news,u.oneCell' = true) :
  Calls Tryz.prog 195 #[.slice (some ⟨b,off,none⟩) n c] w fun e w' => ∃ v',e = .returned v' ∧ w'.ownsRow w.heap.size 9 1 v' n news ∧ Below w.heap.size w w':=by
 obtain ⟨i0,hi,hz0,hz1,hz2⟩:=info_parts (show (Tryz.prog.info? 9).map (fun i => (i.zero,i.size,i.bytes)) = some (some (.string ⟨#[]⟩),1,16) by kernel_rfl)
 have q22 : ∀ (w : World) (a : Option Addr) (n c n' c' : Nat),(binOp .eql 30 (.slice a n c) (.slice none n' c')).run Tryz.prog w = .ok (.bool a.isNone) w:=fun w a n c n' c' => Lib.run_eql_slice_nil w _ _ a n c n' c' Tryz.underlying30
 have u22 : ∀ w,Sem.run Tryz.prog (underlying 30) w = .ok (TypeDesc.slice 9) w:=run_underlying Tryz.underlying30
 have HC:=kept hc
 have H1:=kept h1
 clear hc h1
 go_enter Tryz.func195,Tryz.ntmps195
 go_wp2_with (at_builtin; refine wpList_append_own _ rfl _ _ 30 rfl w.heap.size 9 i0 (.string ⟨#[]⟩) 1 16 Tryz.underlying30 hi hz0 hz1 hz2 rfl (by decide) _ _ _ rfl (World.ownsRow_made w #[] 0 (Nat.le_refl _) (Nat.zero_le _) rfl) ⟨b,off,none⟩ n c news rfl ?qc1 ?qc2 ?qc3 ?qc4 ?qc5 ?qc6 ?_)
 case qc1 => exact hl
 case qc2 =>
  intro j u hj
  have:=HC.out j u hj
  rw [Addr.add_lit] at this ⊢
  exact Lib.cell?_alloc_some _ this
 case qc3 => exact H1.out
 case qc4 => omega
 case qc5 => omega
 case qc6 => simp
 intro v' w1 hown hgrow hnil
 have Hb:=kept (((Below.refl _ w).alloc (Nat.le_refl _) (.cells #[] 9)).grown hgrow (by simp) (by intro k hk; simp [Value.ownBlock] at hk; omega))
 have Ho:=kept (show w1.ownsRow w.heap.size 9 1 v' n news by simpa using hown)
 clear hown hgrow hnil HC H1
 go_wp2
 go_ret
 exact ⟨v',rfl,Ho.out,Hb.out⟩
theorem clone_strs0 (a : Option Addr) (c : Nat) (w : World) :
  Calls Tryz.prog 195 #[.slice a 0 c] w fun e w' => (∃ a' c',e = .returned (.slice a' 0 c')) ∧ Below w.heap.size w w':=by
 have q22 : ∀ (w : World) (a : Option Addr) (n c n' c' : Nat),(binOp .eql 30 (.slice a n c) (.slice none n' c')).run Tryz.prog w = .ok (.bool a.isNone) w:=fun w a n c n' c' => Lib.run_eql_slice_nil w _ _ a n c n' c' Tryz.underlying30
 have u22 : ∀ w,Sem.run Tryz.prog (underlying 30) w = .ok (TypeDesc.slice 9) w:=run_underlying Tryz.underlying30
 cases a with
 | none =>
  go_enter Tryz.func195,Tryz.ntmps195
  go_wp2
  go_ret
  exact ⟨⟨_,_,rfl⟩,Below.refl _ _⟩
 | some ad =>
  obtain ⟨i0,hi,hz0,hz1,hz2⟩:=info_parts (show (Tryz.prog.info? 9).map (fun i => (i.zero,i.size,i.bytes)) = some (some (.string ⟨#[]⟩),1,16) by kernel_rfl)
  go_enter Tryz.func195,Tryz.ntmps195
  go_wp2_with (at_builtin; refine wpList_append_own _ rfl _ _ 30 rfl w.heap.size 9 i0 (.string ⟨#[]⟩) 1 16 Tryz.underlying30 hi hz0 hz1 hz2 rfl (by decide) _ _ _ rfl (World.ownsRow_made w #[] 0 (Nat.le_refl _) (Nat.zero_le _) rfl) ad 0 c [] rfl rfl (by intro j u hj; simp at hj) (by intro u hu; cases hu) (by unfold maxLen; omega) (by omega) (by simp) ?_)
  intro v' w1 hown hgrow hnil
  have Hb:=kept (((Below.refl _ w).alloc (Nat.le_refl _) (.cells #[] 9)).grown hgrow (by simp) (by intro k hk; simp [Value.ownBlock] at hk; omega))
  have Hv : ∃ a' c',v' = .slice a' 0 c':=by
   rcases hown.2 with ⟨rfl,_⟩ | ⟨g,cap,cur,rfl,_⟩
   ·exact ⟨_,_,rfl⟩
   ·exact ⟨_,_,rfl⟩
  obtain ⟨a',c',rfl⟩:=Hv
  clear hown hgrow hnil
  go_wp2
  go_ret
  exact ⟨⟨_,_,rfl⟩,Hb.out⟩
namespace AX
theorem a_clone_strs0 (W0 : Nat) (o : Own) (h : Hp) : ACall Tryz.prog GT 195 [.sl W0 o []] h fun v h' => v = .sl 1 .no [] ∧ h' = h:=by
 intro C es hI ha
 obtain ⟨c,es',rfl,h1,h2⟩:=repL_cons.1 ha
 rw [repL_nil] at h2; subst h2
 obtain ⟨a,cap,rfl,_,_,_⟩:=rep_sl.1 h1
 refine (clone_strs0 a cap C.w).mono ?_
 rintro e w' ⟨⟨a',c',rfl⟩,hb⟩
 obtain ⟨i1,s1⟩:=inv_below hI hb
 exact ⟨C.at w',h,.sl 1 .no [],_,rfl,rfl,i1,s1,rep_sl.2 ⟨a',c',rfl,Nat.zero_le _,by unfold RepRows; trivial,trivial⟩,rfl,rfl⟩
theorem a_clone_strs (o : Own) (rows : List (List A)) (h0 : rows ≠ []) (hbig : rows.length * 16 ≤ 140737488355328) (hmax : rows.length ≤ maxLen) (h : Hp) :
  ACall Tryz.prog GT 195 [.sl 1 o rows] h fun v h' => v = .bs h.b.length 1 rows.length ∧ h' = ⟨h.b ++ [.row 9 rows.flatten],h.t⟩:=by
 intro C es hI ha
 obtain ⟨c,es',rfl,h1,h2⟩:=repL_cons.1 ha
 rw [repL_nil] at h2; subst h2
 have hpos : 0 < rows.length:=List.length_pos_iff.2 h0
 obtain ⟨g,off,cap,cs,rfl,k1,k2,k3,k4,k5⟩:=sl_open h1 hpos
 refine (clone_strs g off rows.length cap cs C.w k2 hpos hbig hmax k5 (repL_one k1 (data_one k3))).mono ?_
 rintro e w' ⟨v',rfl,hown,hb⟩
 rcases hown.2 with ⟨_,hz⟩ | ⟨g',cap',cur,rfl,hg,hh,hcap,_,hcs,htake⟩
 ·omega
 ·have hcur : cur = (cs ++ cur.toList.drop (rows.length * 1)).toArray:=by
   apply Array.toList_inj.1
   rw [← htake]
   simp
  rw [hcur] at hh
  obtain ⟨C',m1,m2,m3,m4,m5⟩:=new_row hI hb hg hh k1
  exact ⟨C',_,.bs h.b.length 1 rows.length,_,rfl,m1,m2,m3,rep_bs.2 ⟨cap',by rw [m4],hcap,m5⟩,rfl,rfl⟩
end AX
set_option maxRecDepth 100000 in
theorem clone_pend (b off n c : Nat) (news : List Value) (w : World) (hl : news.length = n * 3) (hn : 0 < n) (hbig : n * 48 ≤ 140737488355328) (hmax : n ≤ maxLen) (hc : ∀ j v,news[j]? = some v → w.cell? ((⟨b,off,none⟩ : Addr).add j) = some v) (h1 : ∀ u ∈ news,u.oneCell' = true) :
  Calls Tryz.prog 128 #[.slice (some ⟨b,off,none⟩) n c] w fun e w' => ∃ v',e = .returned v' ∧ w'.ownsRow w.heap.size 121 3 v' n news ∧ Below w.heap.size w w':=by
 obtain ⟨i0,hi,hz0,hz1,hz2⟩:=info_parts (show (Tryz.prog.info? 121).map (fun i => (i.zero,i.size,i.bytes)) = some (some (.agg #[.string ⟨#[]⟩,.string ⟨#[]⟩,.string ⟨#[]⟩]),3,48) by kernel_rfl)
 have q22 : ∀ (w : World) (a : Option Addr) (n c n' c' : Nat),(binOp .eql 36 (.slice a n c) (.slice none n' c')).run Tryz.prog w = .ok (.bool a.isNone) w:=fun w a n c n' c' => Lib.run_eql_slice_nil w _ _ a n c n' c' Tryz.underlying36
 have u22 : ∀ w,Sem.run Tryz.prog (underlying 36) w = .ok (TypeDesc.slice 121) w:=run_underlying Tryz.underlying36
 have HC:=kept hc
 have H1:=kept h1
 clear hc h1
 go_enter Tryz.func128,Tryz.ntmps128
 go_wp2_with (at_builtin; refine wpList_append_own _ rfl _ _ 36 rfl w.heap.size 121 i0 (.agg #[.string ⟨#[]⟩,.string ⟨#[]⟩,.string ⟨#[]⟩]) 3 48 Tryz.underlying36 hi hz0 hz1 hz2 rfl (by decide) _ _ _ rfl (World.ownsRow_made w #[] 0 (Nat.le_refl _) (Nat.zero_le _) rfl) ⟨b,off,none⟩ n c news rfl ?qc1 ?qc2 ?qc3 ?qc4 ?qc5 ?qc6 ?_)
 case qc1 => exact hl
 case qc2 =>
  intro j u hj
  have:=HC.out j u hj
  rw [Addr.add_lit] at this ⊢
  exact Lib.cell?_alloc_some _ this
 case qc3 => exact H1.out
 case qc4 => omega
 case qc5 => omega
 case qc6 => simp
 intro v' w1 hown hgrow hnil
 have Hb:=kept (((Below.refl _ w).alloc (Nat.le_refl _) (.cells #[] 121)).grown hgrow (by simp) (by intro k hk; simp [Value.ownBlock] at hk; omega))
 have Ho:=kept (show w1.ownsRow w.heap.size 121 3 v' n news by simpa using hown)
 clear hown hgrow hnil HC H1
 go_wp2
 go_ret
 exact ⟨v',rfl,Ho.out,Hb.out⟩
theorem clone_pend0 (a : Option Addr) (c : Nat) (w : World) :
  Calls Tryz.prog 128 #[.slice a 0 c] w fun e w' => (∃ a' c',e = .returned (.slice a' 0 c')) ∧ Below w.heap.size w w':=by
 have q22 : ∀ (w : World) (a : Option Addr) (n c n' c' : Nat),(binOp .eql 36 (.slice a n c) (.slice none n' c')).run Tryz.prog w = .ok (.bool a.isNone) w:=fun w a n c n' c' => Lib.run_eql_slice_nil w _ _ a n c n' c' Tryz.underlying36
 have u22 : ∀ w,Sem.run Tryz.prog (underlying 36) w = .ok (TypeDesc.slice 121) w:=run_underlying Tryz.underlying36
 cases a with
 | none =>
  go_enter Tryz.func128,Tryz.ntmps128
  go_wp2
  go_ret
  exact ⟨⟨_,_,rfl⟩,Below.refl _ _⟩
 | some ad =>
  obtain ⟨i0,hi,hz0,hz1,hz2⟩:=info_parts (show (Tryz.prog.info? 121).map (fun i => (i.zero,i.size,i.bytes)) = some (some (.agg #[.string ⟨#[]⟩,.string ⟨#[]⟩,.string ⟨#[]⟩]),3,48) by kernel_rfl)
  go_enter Tryz.func128,Tryz.ntmps128
  go_wp2_with (at_builtin; refine wpList_append_own _ rfl _ _ 36 rfl w.heap.size 121 i0 (.agg #[.string ⟨#[]⟩,.string ⟨#[]⟩,.string ⟨#[]⟩]) 3 48 Tryz.underlying36 hi hz0 hz1 hz2 rfl (by decide) _ _ _ rfl (World.ownsRow_made w #[] 0 (Nat.le_refl _) (Nat.zero_le _) rfl) ad 0 c [] rfl rfl (by intro j u hj; simp at hj) (by intro u hu; cases hu) (by unfold maxLen; omega) (by omega) (by simp) ?_)
  intro v' w1 hown hgrow hnil
  have Hb:=kept (((Below.refl _ w).alloc (Nat.le_refl _) (.cells #[] 121)).grown hgrow (by simp) (by intro k hk; simp [Value.ownBlock] at hk; omega))
  have Hv : ∃ a' c',v' = .slice a' 0 c':=by
   rcases hown.2 with ⟨rfl,_⟩ | ⟨g,cap,cur,rfl,_⟩
   ·exact ⟨_,_,rfl⟩
   ·exact ⟨_,_,rfl⟩
  obtain ⟨a',c',rfl⟩:=Hv
  clear hown hgrow hnil
  go_wp2
  go_ret
  exact ⟨⟨_,_,rfl⟩,Hb.out⟩
namespace AX
theorem a_clone_pend0 (W0 : Nat) (o : Own) (h : Hp) : ACall Tryz.prog GT 128 [.sl W0 o []] h fun v h' => v = .sl 3 .no [] ∧ h' = h:=by
 intro C es hI ha
 obtain ⟨c,es',rfl,h1,h2⟩:=repL_cons.1 ha
 rw [repL_nil] at h2; subst h2
 obtain ⟨a,cap,rfl,_,_,_⟩:=rep_sl.1 h1
 refine (clone_pend0 a cap C.w).mono ?_
 rintro e w' ⟨⟨a',c',rfl⟩,hb⟩
 obtain ⟨i1,s1⟩:=inv_below hI hb
 exact ⟨C.at w',h,.sl 3 .no [],_,rfl,rfl,i1,s1,rep_sl.2 ⟨a',c',rfl,Nat.zero_le _,by unfold RepRows; trivial,trivial⟩,rfl,rfl⟩
theorem a_clone_pend (o : Own) (rows : List (List A)) (h0 : rows ≠ []) (hbig : rows.length * 48 ≤ 140737488355328) (hmax : rows.length ≤ maxLen) (h : Hp) :
  ACall Tryz.prog GT 128 [.sl 3 o rows] h fun v h' => v = .bs h.b.length 3 rows.length ∧ h' = ⟨h.b ++ [.row 121 rows.flatten],h.t⟩:=by
 intro C es hI ha
 obtain ⟨c,es',rfl,h1,h2⟩:=repL_cons.1 ha
 rw [repL_nil] at h2; subst h2
 have hpos : 0 < rows.length:=List.length_pos_iff.2 h0
 obtain ⟨g,off,cap,cs,rfl,k1,k2,k3,k4,k5⟩:=sl_open h1 hpos
 refine (clone_pend g off rows.length cap cs C.w k2 hpos hbig hmax k5 (repL_one k1 (data_one k3))).mono ?_
 rintro e w' ⟨v',rfl,hown,hb⟩
 rcases hown.2 with ⟨_,hz⟩ | ⟨g',cap',cur,rfl,hg,hh,hcap,_,hcs,htake⟩
 ·omega
 ·have hcur : cur = (cs ++ cur.toList.drop (rows.length * 3)).toArray:=by
   apply Array.toList_inj.1
   rw [← htake]
   simp
  rw [hcur] at hh
  obtain ⟨C',m1,m2,m3,m4,m5⟩:=new_row hI hb hg hh k1
  exact ⟨C',_,.bs h.b.length 3 rows.length,_,rfl,m1,m2,m3,rep_bs.2 ⟨cap',by rw [m4],hcap,m5⟩,rfl,rfl⟩
end AX
namespace AX
theorem a_clones (ks : List (List UInt8)) (hn : ks.length ≤ 1000000000) (h : Hp) : ACall Tryz.prog GT 195 [.sl 1 .no (strsA ks)] h fun v h' => v = .sl 1 .no (strsA ks) ∧ h' = h:=by
 cases ks with
 | nil => exact a_clone_strs0 _ _ h
 | cons k l =>
  have hl : (strsA (k :: l)).length = (k :: l).length:=strsA_length _
  refine pcallv (ACall.mono (a_clone_strs .no (strsA (k :: l)) (by simp [strsA]) (by rw [hl]; omega) (by rw [hl]; unfold maxLen; omega) ⟨[],[]⟩) ?_) (by simp [A.pure,A.data]) h
  rintro v h' ⟨rfl,rfl⟩
  refine .one (.inr ⟨0,1,_,strsA (k :: l),rfl,rfl,rfl,fun r hr => ?_,?_⟩)
  ·obtain ⟨s,_,rfl⟩:=List.mem_map.1 hr; rfl
  ·rw [List.all_eq_true]
   intro x hx
   obtain ⟨r,hr,hx⟩:=List.mem_flatten.1 hx
   obtain ⟨s,_,rfl⟩:=List.mem_map.1 hr
   rw [List.mem_singleton.1 hx]; rfl
theorem a_clonep (ps : List Sf.Pend) (hn : ps.length ≤ 1000000000) (h : Hp) : ACall Tryz.prog GT 128 [.sl 3 .no (ps.map Sf.Pend.cells)] h fun v h' => v = .sl 3 .no (ps.map Sf.Pend.cells) ∧ h' = h:=by
 cases ps with
 | nil => exact a_clone_pend0 _ _ h
 | cons k l =>
  have hl : ((k :: l).map Sf.Pend.cells).length = (k :: l).length:=List.length_map _
  refine pcallv (ACall.mono (a_clone_pend .no ((k :: l).map Sf.Pend.cells) (by simp) (by rw [hl]; omega) (by rw [hl]; unfold maxLen; omega) ⟨[],[]⟩) ?_) (by simp [A.pure,A.data]) h
  rintro v h' ⟨rfl,rfl⟩
  refine .one (.inr ⟨0,3,_,(k :: l).map Sf.Pend.cells,rfl,rfl,rfl,fun r hr => ?_,?_⟩)
  ·obtain ⟨s,_,rfl⟩:=List.mem_map.1 hr; rfl
  ·rw [List.all_eq_true]
   intro x hx
   obtain ⟨r,hr,hx⟩:=List.mem_flatten.1 hx
   obtain ⟨s,_,rfl⟩:=List.mem_map.1 hr
   simp only [Sf.Pend.cells,List.mem_cons,List.not_mem_nil,or_false] at hx
   rcases hx with rfl | rfl | rfl <;> rfl
end AX
end Go.Proofs.YteklhoajalgehaaGreatDoor

namespace Go.Proofs.YteklhoajalgehaaGreatDoor
open Go.RowKit Go.ChangeShapes Go.WideShapes Go.Deep
mutual
def D.bulk : D → Nat
 | .int .. => 1
 | .str l => l.length + 1
 | .bool _ => 1
 | .agg l => D.bulks l + 1
 | .sl _ l => D.bulks l + 1
def D.bulks : List D → Nat
 | [] => 0
 | d :: l => d.bulk + D.bulks l
end
theorem bulks_le {H : Type} : ∀ (l : List D) (xs : List (DataW H)),l.length = xs.length → (∀ i (hi : i < l.length) (hj : i < xs.length),l[i].bulk ≤ Rows.uptoBulk xs[i]) → D.bulks l ≤ Rows.uptoBulkAll xs
 | [],[],_,_ => by rw [D.bulks]; exact Nat.zero_le _
 | [],_ :: _,h,_ => by simp at h
 | _ :: _,[],h,_ => by simp at h
 | d :: l,x :: xs,h,hb => by
  rw [D.bulks,Rows.uptoBulkAll]
  exact Nat.add_le_add (hb 0 (by simp) (by simp)) (bulks_le l xs (by simpa using h) fun i hi hj => hb (i + 1) (Nat.succ_lt_succ hi) (Nat.succ_lt_succ hj))
section
variable {H : Type} {enc : TypeId × Value → H} {P : Program} {w : World} {base : Nat} {spare : Nat → Bool} {held : Bool} {K : List TypeId}
theorem trod_fieldsB {n : Nat} (ih : ∀ t,t ∈ K → ∀ cs x,DataW.trod enc P w base spare held n t cs = some x → ∃ d,Rd w (Old w) d cs ∧ Conf P d t ∧ d.bulk ≤ Rows.uptoBulk x.1) (cs : List Value) :
  ∀ (fs : List Field) (o tot : Nat) (ys : List (DataW H × List MemPlace)),(∀ f ∈ fs,f.type ∈ K) → flat P fs o = some tot → cs.length = tot → ys.length = fs.length →
   (∀ (i : Nat) (f : Field),fs[i]? = some f → DataW.trod enc P w base spare held n f.type ((cs.drop f.offset).take (P.cellsOf f.type)) = ys[i]?) →
   ∃ l,RdAgg w (Old w) l (cs.drop o) ∧ ConfL P l (fs.map (·.type)) ∧ D.bulks l ≤ Rows.uptoBulkAll (ys.map (·.1))
 | [],o,tot,ys,hK,hf,hc,hy,hg => by
  simp only [flat,Option.some.injEq] at hf
  exact ⟨[],by unfold RdAgg; exact List.drop_of_length_le (by omega),by unfold ConfL; rfl,by unfold D.bulks; exact Nat.zero_le _⟩
 | f :: fs,o,tot,ys,hK,hf,hc,hy,hg => by
  simp only [flat] at hf
  split at hf
  ·next hfo =>
   match ys,hy with
   | y :: ys,hy =>
    have h0:=hg 0 f rfl
    obtain ⟨d,hd,hcf,hdb⟩:=ih f.type (hK f (by simp)) _ _ h0
    obtain ⟨l,hl,hcl2,hlb⟩:=trod_fieldsB ih cs fs (o + P.cellsOf f.type) tot ys (fun g hg => hK g (by simp [hg])) hf hc (by simpa using hy) (fun i g hi => by simpa using hg (i + 1) g (by simpa using hi))
    refine ⟨d :: l,?_,?_,?_⟩
    ·unfold RdAgg
     refine ⟨_,cs.drop (o + P.cellsOf f.type),?_,by rw [hfo] at hd; exact hd,hl⟩
     rw [← List.drop_drop,List.take_append_drop]
    ·unfold ConfL
     exact ⟨f.type,fs.map (·.type),rfl,hcf,hcl2⟩
    ·rw [List.map_cons,Rows.uptoBulkAll,D.bulks]
     exact Nat.add_le_add hdb hlb
  ·cases hf
theorem trod_rdB (hP : plainAll P K = true) : ∀ (n : Nat) (t : TypeId),t ∈ K → ∀ cs x,DataW.trod enc P w base spare held n t cs = some x → ∃ d,Rd w (Old w) d cs ∧ Conf P d t ∧ d.bulk ≤ Rows.uptoBulk x.1
 | 0,t,hK,cs,x,h => by simp [DataW.trod] at h
 | n + 1,t,hK,cs,x,h => by
  have hk : plainB P K t = true:=by
   unfold plainAll at hP
   rw [List.all_eq_true] at hP
   exact hP t hK
  unfold plainB at hk
  split at hk
  ·next k hu =>
   obtain ⟨m,rfl,rfl,hw⟩:=DataW.trod_int hu h
   exact ⟨.int k m,by unfold Rd; rfl,by unfold Conf; exact ⟨hu,hw⟩,by unfold D.bulk Rows.uptoBulk; exact Nat.le_refl _⟩
  ·next hu =>
   obtain ⟨s,rfl,rfl,hs⟩:=DataW.trod_string hu h
   exact ⟨.str s.data.toList,by unfold Rd; simp,by unfold Conf; exact ⟨hu,by simpa using hs⟩,by unfold D.bulk Rows.uptoBulk; exact Nat.le_refl _⟩
  ·next hu =>
   obtain ⟨b,rfl,rfl⟩:=DataW.trod_bool hu h
   exact ⟨.bool b,by unfold Rd; rfl,by unfold Conf; exact hu,by unfold D.bulk Rows.uptoBulk; exact Nat.le_refl _⟩
  ·next fs hu =>
   rw [Bool.and_eq_true,List.all_eq_true,beq_iff_eq] at hk
   obtain ⟨xs,n',hn,rfl,hcl,hxl,hg⟩:=DataW.trod_struct hu h
   obtain rfl : n' = n:=by omega
   obtain ⟨l,hl,hcf,hlb⟩:=trod_fieldsB (fun t hK cs x h => trod_rdB hP n' t hK cs x h) cs fs.toList 0 _ xs (fun f hf => by simpa using hk.1 f hf) hk.2 hcl (by simpa using hxl) (fun i f hi => hg i f (by simpa using hi))
   exact ⟨.agg l,by unfold Rd; exact hl,by unfold Conf; exact ⟨fs,hu,hcf⟩,by rw [D.bulk,Rows.uptoBulk]; exact Nat.succ_le_succ hlb⟩
  ·next e hu =>
   rw [Bool.and_eq_true,decide_eq_true_eq] at hk
   have heK : e ∈ K:=by simpa using hk.1
   have hpos:=hk.2
   rcases DataW.trod_slice hu h with ⟨rfl,rfl⟩ | ⟨a,len,cap,elems,rest,n',hn,rfl,rfl,hb,hlc,hcm,hel,hi,_⟩
   ·exact ⟨.sl (P.cellsOf e) [],by unfold Rd; exact ⟨none,0,rfl,Nat.le_refl _,by unfold RdRow; trivial⟩,by unfold Conf; exact ⟨e,hu,rfl,by unfold ConfA; trivial,by simp⟩,by simp [D.bulk,D.bulks,Rows.uptoBulk]⟩
   ·obtain rfl : n' = n:=by omega
    have hex : ∀ i,i < len → ∃ d : D,∃ c,c.length = P.cellsOf e ∧ (∀ j,j < P.cellsOf e → w.cell? ((a.add (i * P.cellsOf e)).add j) = c[j]?) ∧ Rd w (Old w) d c ∧ Conf P d e ∧ ∀ y,elems[i]? = some y → d.bulk ≤ Rows.uptoBulk y.1:=by
     intro i hil
     have h1:=hi i hil
     have h2 : elems[i]? = some (elems[i]'(by omega)):=List.getElem?_eq_getElem (by omega)
     rw [h2] at h1
     obtain ⟨c,hc,ht⟩:=Option.bind_eq_some_iff.1 h1
     obtain ⟨d,hd,hcf,hdb⟩:=trod_rdB hP n' e heK c _ ht
     obtain ⟨_,hcl,hat⟩:=World.cells?_some hc
     exact ⟨d,c,hcl,hat,hd,hcf,fun y hy => by rw [h2] at hy; injection hy with hy; subst hy; exact hdb⟩
    haveI : Inhabited D:=⟨.bool true⟩
    obtain ⟨f,hf⟩:=choose_lt hex
    refine ⟨.sl (P.cellsOf e) ((List.range len).map f),?_,?_,?_⟩
    ·unfold Rd
     refine ⟨some a,cap,by simp,by simpa using hlc,RdRow.of _ _ _ fun k hk => ?_⟩
     have hkl : k < len:=by simpa using hk
     obtain ⟨c,hcl,hat,hrd,_⟩:=hf k hkl
     obtain ⟨c0,hcl0,hat0,_,_⟩:=hf 0 (by omega)
     obtain ⟨g,off,sp⟩:=a
     have h0:=hat0 0 hpos
     rw [List.getElem?_eq_getElem (by omega)] at h0
     have hs : sp = none:=by
      have:=(cell_there h0).1
      simpa [Addr.add] using this
     subst hs
     have h1:=hat 0 hpos
     rw [List.getElem?_eq_getElem (by omega)] at h1
     have hlt:=(cell_there h1).2
     rw [add_off,add_off] at hlt
     refine ⟨g,off,c,rfl,hlt,hcl,fun j hj => ?_,by simpa using hrd⟩
     have:=hat j hj
     rw [add_off,add_off] at this
     rw [Nat.zero_add]
     exact this
    ·unfold Conf
     exact ⟨e,hu,rfl,confA_of P e _ fun k hk => by simpa using (hf k (by simpa using hk)).choose_spec.2.2.2.1,by simp; omega⟩
    ·rw [D.bulk,Rows.uptoBulk]
     have:=bulks_le ((List.range len).map f) (elems.map (·.1)) (by simp; omega) (fun i hi hj => by
      obtain ⟨c,_,_,_,_,h9⟩:=hf i (by simpa using hi)
      simpa using h9 (elems[i]'(by simpa using hj)) (List.getElem?_eq_getElem _))
     omega
  ·cases hk
end
end Go.Proofs.YteklhoajalgehaaGreatDoor

namespace Go.Proofs.YteklhoajalgehaaGreatDoor
namespace Wire
end Wire
namespace Val
end Val
namespace Sf
end Sf
end Go.Proofs.YteklhoajalgehaaGreatDoor

namespace Go.Proofs.YteklhoajalgehaaGreatDoor
open Go.RowKit
namespace Sf
end Sf
end Go.Proofs.YteklhoajalgehaaGreatDoor

namespace Go.Proofs.YteklhoajalgehaaGreatDoor
namespace Sf
structure TypIn (s : St) : Prop where
 insts : ∀ x ∈ s.insts,x.typ.length ≤ 2000000
 pends : ∀ x ∈ s.pends,x.typ.length ≤ 2000000
end Sf
end Go.Proofs.YteklhoajalgehaaGreatDoor

namespace Go.Proofs.YteklhoajalgehaaGreatDoor
open Go.RowKit Go.ChangeShapes Go.WideShapes
theorem list_of_ {α : Type} {f : α → D} {Q : α → Prop} : ∀ l : List D,(∀ d ∈ l,∃ x,d = f x ∧ Q x) → ∃ xs : List α,l = xs.map f ∧ ∀ x ∈ xs,Q x
 | [],h => ⟨[],rfl,by simp⟩
 | d :: l,h => by
  obtain ⟨x,rfl,hx⟩:=h d (by simp)
  obtain ⟨xs,rfl,hxs⟩:=list_of_ l fun d hd => h d (by simp [hd])
  exact ⟨x :: xs,rfl,List.forall_mem_cons.2 ⟨hx,hxs⟩⟩
namespace Sf
def Inst.toD (x : Inst) : D:=.agg [.str x.addr,.str x.dep,.str x.id,.str x.typ,x.attrs.toD,.int .i64 x.ver,.bool x.tainted,.bool x.first,.sl 1 (x.deps.map .str)]
def Pend.toD (p : Pend) : D:=.agg [.str p.addr,.str p.typ,.str p.tok]
def Outp.toD (o : Outp) : D:=.agg [.str o.name,o.value.toD,.bool o.sens]
def St.toD (s : St) : D:=.agg [.str s.lin,.int .i64 s.ser,.sl 13 (s.insts.map Inst.toD),.sl 3 (s.pends.map Pend.toD),.sl 7 (s.outs.map Outp.toD)]
structure St.Wf (s : St) : Prop where
 insts : ∀ x ∈ s.insts,x.attrs.Wf
 outs : ∀ x ∈ s.outs,x.value.Wf
 ser : (Lit.int .i64 s.ser).wf = true
theorem Inst.cells_toD (x : Inst) : x.toD.cells = x.cells:=by
 obtain ⟨a,d,i,t,⟨k,n,s,is,ks⟩,v,tn,fi,ds⟩:=x
 unfold Inst.toD Inst.cells
 simp only [D.cells,D.cellsL,V.cells_toD,V.cells,strs_rows,List.cons_append,List.nil_append,List.append_nil]
theorem Pend.cells_toD (x : Pend) : x.toD.cells = x.cells:=by
 unfold Pend.toD Pend.cells
 simp only [D.cells,D.cellsL,List.cons_append,List.nil_append,List.append_nil]
theorem Outp.cells_toD (x : Outp) : x.toD.cells = x.cells:=by
 obtain ⟨m,⟨k,n,s,is,ks⟩,b⟩:=x
 unfold Outp.toD Outp.cells
 simp only [D.cells,D.cellsL,V.cells_toD,V.cells,strs_rows,List.cons_append,List.nil_append,List.append_nil]
theorem rows_map {α : Type} (f : α → D) (g : α → List AX.A) (h : ∀ x,(f x).cells = g x) : ∀ l : List α,D.rows (l.map f) = l.map g
 | [] => by simp [D.rows]
 | x :: l => by simp only [List.map_cons,D.rows,h,rows_map f g h l]
theorem St.cells_toD (s : St) : AX.A.agg s.toD.cells = s.A:=by
 unfold St.toD St.A
 simp only [D.cells,D.cellsL,rows_map _ _ Inst.cells_toD,rows_map _ _ Pend.cells_toD,rows_map _ _ Outp.cells_toD,List.cons_append,List.nil_append,List.append_nil]
set_option maxRecDepth 100000 in
theorem conf_inst {d : D} (h : Conf Tryz.prog d 73) : ∃ x : Inst,d = x.toD ∧ x.attrs.Wf:=by
 obtain ⟨l',rfl,h2⟩:=conf_struct Tryz.underlying73 h
 obtain ⟨d0,l1,rfl,c0,h2⟩:=confL_cons h2
 obtain ⟨d1,l2,rfl,c1,h2⟩:=confL_cons h2
 obtain ⟨d2,l3,rfl,c2,h2⟩:=confL_cons h2
 obtain ⟨d3,l4,rfl,c3,h2⟩:=confL_cons h2
 obtain ⟨d4,l5,rfl,c4,h2⟩:=confL_cons h2
 obtain ⟨d5,l6,rfl,c5,h2⟩:=confL_cons h2
 obtain ⟨d6,l7,rfl,c6,h2⟩:=confL_cons h2
 obtain ⟨d7,l8,rfl,c7,h2⟩:=confL_cons h2
 obtain ⟨d8,l9,rfl,c8,h2⟩:=confL_cons h2
 obtain rfl:=confL_nil h2
 obtain ⟨a,rfl,_⟩:=conf_str Tryz.underlying9 c0
 obtain ⟨b,rfl,_⟩:=conf_str Tryz.underlying9 c1
 obtain ⟨c,rfl,_⟩:=conf_str Tryz.underlying9 c2
 obtain ⟨e,rfl,_⟩:=conf_str Tryz.underlying9 c3
 obtain ⟨v,rfl,hv⟩:=conf_val c4
 obtain ⟨n,rfl,_⟩:=conf_int (k:=.i64) Tryz.underlying3 c5
 obtain ⟨t,rfl⟩:=conf_bool Tryz.underlying4 c6
 obtain ⟨f,rfl⟩:=conf_bool Tryz.underlying4 c7
 obtain ⟨l4,rfl,c9,_⟩:=conf_slice Tryz.underlying30 c8
 obtain ⟨ks,rfl,_⟩:=conf_strs Tryz.underlying9 l4 c9
 have hw : Tryz.prog.cellsOf 9 = 1:=by kernel_rfl
 rw [hw]
 exact ⟨⟨a,b,c,e,v,n,t,f,ks⟩,rfl,hv⟩
set_option maxRecDepth 100000 in
theorem conf_pend {d : D} (h : Conf Tryz.prog d 121) : ∃ x : Pend,d = x.toD ∧ True:=by
 obtain ⟨l',rfl,h2⟩:=conf_struct Tryz.underlying121 h
 obtain ⟨d0,l1,rfl,c0,h2⟩:=confL_cons h2
 obtain ⟨d1,l2,rfl,c1,h2⟩:=confL_cons h2
 obtain ⟨d2,l3,rfl,c2,h2⟩:=confL_cons h2
 obtain rfl:=confL_nil h2
 obtain ⟨a,rfl,_⟩:=conf_str Tryz.underlying9 c0
 obtain ⟨b,rfl,_⟩:=conf_str Tryz.underlying9 c1
 obtain ⟨c,rfl,_⟩:=conf_str Tryz.underlying9 c2
 exact ⟨⟨a,b,c⟩,rfl,trivial⟩
set_option maxRecDepth 100000 in
theorem conf_outp {d : D} (h : Conf Tryz.prog d 132) : ∃ x : Outp,d = x.toD ∧ x.value.Wf:=by
 obtain ⟨l',rfl,h2⟩:=conf_struct Tryz.underlying132 h
 obtain ⟨d0,l1,rfl,c0,h2⟩:=confL_cons h2
 obtain ⟨d1,l2,rfl,c1,h2⟩:=confL_cons h2
 obtain ⟨d2,l3,rfl,c2,h2⟩:=confL_cons h2
 obtain rfl:=confL_nil h2
 obtain ⟨a,rfl,_⟩:=conf_str Tryz.underlying9 c0
 obtain ⟨v,rfl,hv⟩:=conf_val c1
 obtain ⟨t,rfl⟩:=conf_bool Tryz.underlying4 c2
 exact ⟨⟨a,v,t⟩,rfl,hv⟩
set_option maxRecDepth 100000 in
theorem conf_st {d : D} (h : Conf Tryz.prog d 39) : ∃ x : St,d = x.toD ∧ x.Wf:=by
 obtain ⟨l',rfl,h2⟩:=conf_struct Tryz.underlying39 h
 obtain ⟨d0,l1,rfl,c0,h2⟩:=confL_cons h2
 obtain ⟨d1,l2,rfl,c1,h2⟩:=confL_cons h2
 obtain ⟨d2,l3,rfl,c2,h2⟩:=confL_cons h2
 obtain ⟨d3,l4,rfl,c3,h2⟩:=confL_cons h2
 obtain ⟨d4,l5,rfl,c4,h2⟩:=confL_cons h2
 obtain rfl:=confL_nil h2
 obtain ⟨a,rfl,_⟩:=conf_str Tryz.underlying9 c0
 obtain ⟨n,rfl,hn⟩:=conf_int (k:=.i64) Tryz.underlying3 c1
 obtain ⟨l2,rfl,k2,_⟩:=conf_slice Tryz.underlying35 c2
 obtain ⟨l3,rfl,k3,_⟩:=conf_slice Tryz.underlying36 c3
 obtain ⟨l4,rfl,k4,_⟩:=conf_slice Tryz.underlying37 c4
 obtain ⟨xs,rfl,hx⟩:=list_of_ l2 fun d hd => conf_inst (confA_mem k2 d hd)
 obtain ⟨ps,rfl,_⟩:=list_of_ l3 fun d hd => conf_pend (confA_mem k3 d hd)
 obtain ⟨os,rfl,ho⟩:=list_of_ l4 fun d hd => conf_outp (confA_mem k4 d hd)
 have hw1 : Tryz.prog.cellsOf 73 = 13:=by kernel_rfl
 have hw2 : Tryz.prog.cellsOf 121 = 3:=by kernel_rfl
 have hw3 : Tryz.prog.cellsOf 132 = 7:=by kernel_rfl
 rw [hw1,hw2,hw3]
 exact ⟨⟨a,n,xs,ps,os⟩,rfl,hx,ho,hn⟩
end Sf
theorem strs_bulk : ∀ ks : List (List UInt8),ks.length ≤ D.bulks (ks.map .str) ∧ ∀ s ∈ ks,s.length + 1 ≤ D.bulks (ks.map .str)
 | [] => by simp
 | k :: ks => by
  obtain ⟨h1,h2⟩:=strs_bulk ks
  rw [List.map_cons,D.bulks,D.bulk]
  refine ⟨by simp only [List.length_cons]; omega,fun s hs => ?_⟩
  rcases List.mem_cons.1 hs with rfl | hs
  ·omega
  ·have:=h2 s hs; omega
theorem num10 (n : Int) : (Wire.num n).length ≤ 10:=(Wire.encF_len 9 (Wire.zig n)).2
theorem strE10 (s : List UInt8) : (Wire.strE s).length ≤ 10 + s.length:=by
 unfold Wire.strE
 rw [List.length_append]
 have:=num10 (s.length : Int)
 omega
theorem bulk_pos (d : D) : 1 ≤ d.bulk:=by cases d <;> rw [D.bulk] <;> omega
mutual
theorem enc_bulk : ∀ v : V,(Val.enc v).length ≤ 30 * v.toD.bulk
 | .mk k n s is ks => by
  have h1:=encs_bulk (k == 5) is ks
  have n1:=num10 k
  have n2:=num10 n
  have n3:=strE10 s
  have n4:=num10 (is.length : Int)
  rw [Val.enc,V.toD,D.bulk,D.bulks,D.bulks,D.bulks,D.bulks,D.bulks,D.bulks,D.bulk,D.bulk,D.bulk,D.bulk,D.bulk,List.length_append]
  split
  ·omega
  ·split
   ·omega
   ·split
    ·rw [List.length_append]; omega
    ·simp only [List.length_nil]; omega
theorem encs_bulk : ∀ (m : Bool) (l : List V) (ks : List (List UInt8)),(Val.encs m l ks).length ≤ 30 * (D.bulks (V.toDs l) + D.bulks (ks.map .str))
 | m,[],ks => by rw [Val.encs]; simp
 | m,v :: l,ks => by
  have h1:=enc_bulk v
  have hp:=bulk_pos v.toD
  rw [Val.encs,V.toDs,D.bulks,List.length_append,List.length_append]
  cases ks with
  | nil =>
   have h2:=encs_bulk m l ([] : List (List UInt8)).tail
   have : (Val.keyE m []).length = 0:=by cases m <;> rfl
   simp only [List.tail_nil] at h2 ⊢
   omega
  | cons k ks =>
   have h2:=encs_bulk m l (k :: ks).tail
   have h3 : (Val.keyE m (k :: ks)).length ≤ 10 + k.length:=by
    cases m
    ·simp [Val.keyE]
    ·exact strE10 k
   rw [List.tail_cons] at h2
   rw [List.map_cons,D.bulks,D.bulk,List.tail_cons]
   omega
end
theorem flat_bulk {α : Type} (f : α → List UInt8) (g : α → D) (h : ∀ x,(f x).length ≤ 30 * (g x).bulk) : ∀ l : List α,(l.flatMap f).length ≤ 30 * D.bulks (l.map g)
 | [] => by simp
 | x :: l => by
  have:=h x
  have:=flat_bulk f g h l
  rw [List.flatMap_cons,List.map_cons,D.bulks,List.length_append]
  omega
theorem map_bulk {α : Type} (g : α → D) : ∀ l : List α,l.length ≤ D.bulks (l.map g) ∧ ∀ x ∈ l,(g x).bulk ≤ D.bulks (l.map g)
 | [] => by simp
 | x :: l => by
  obtain ⟨h1,h2⟩:=map_bulk g l
  have:=bulk_pos (g x)
  rw [List.map_cons,D.bulks]
  refine ⟨by simp only [List.length_cons]; omega,fun y hy => ?_⟩
  rcases List.mem_cons.1 hy with rfl | hy
  ·omega
  ·have:=h2 y hy; omega
namespace Sf
theorem flag10 (b : Bool) : (flagE b).length ≤ 10:=num10 _
theorem instE_bulk (ver : Int) (x : Inst) : (instE ver x).length ≤ 30 * x.toD.bulk:=by
 have a1:=strE10 x.addr
 have a2:=strE10 x.dep
 have a3:=strE10 x.id
 have a4:=strE10 x.typ
 have a5:=enc_bulk x.attrs
 have a6:=num10 x.ver
 have a7:=flag10 x.tainted
 have a8 : (if ver = 2 then flagE x.first else []).length ≤ 10:=by
  split
  ·exact flag10 _
  ·simp
 have a9:=num10 (x.deps.length : Int)
 have a10:=flat_bulk Wire.strE D.str (fun s => by rw [D.bulk]; have:=strE10 s; omega) x.deps
 unfold instE wordsE Inst.toD
 simp only [List.length_append,D.bulk,D.bulks]
 omega
theorem pendE_bulk (x : Pend) : (pendE x).length ≤ 30 * x.toD.bulk:=by
 have a1:=strE10 x.addr
 have a2:=strE10 x.typ
 have a3:=strE10 x.tok
 unfold pendE Pend.toD
 simp only [List.length_append,D.bulk,D.bulks]
 omega
theorem outE_bulk (x : Outp) : (outE x).length ≤ 30 * x.toD.bulk:=by
 have a1:=strE10 x.name
 have a2:=enc_bulk x.value
 have a3:=flag10 x.sens
 unfold outE Outp.toD
 simp only [List.length_append,D.bulk,D.bulks]
 omega
theorem stE_bulk (ver : Int) (s : St) : (stE ver s).length ≤ 30 * s.toD.bulk:=by
 have a0 : magic.length = 4:=rfl
 have a1:=num10 ver
 have a2:=strE10 s.lin
 have a3:=num10 s.ser
 have a4:=num10 (s.insts.length : Int)
 have a5:=flat_bulk (instE ver) Inst.toD (instE_bulk ver) s.insts
 have a6 : (if ver = 2 then Wire.num s.pends.length ++ s.pends.flatMap pendE else []).length ≤ 10 + 30 * D.bulks (s.pends.map Pend.toD):=by
  have b1:=num10 (s.pends.length : Int)
  have b2:=flat_bulk pendE Pend.toD pendE_bulk s.pends
  split
  ·rw [List.length_append]; omega
  ·simp
 have a7:=num10 (s.outs.length : Int)
 have a8:=flat_bulk outE Outp.toD outE_bulk s.outs
 unfold stE St.toD
 simp only [List.length_append,D.bulk,D.bulks]
 omega
structure Fit (s : St) : Prop where
 sin : AX.Sf.StIn s
 tin : TypIn s
 len : ∀ ver,(stE ver s).length + 20 ≤ 1000000000
theorem inst_fit {x : Inst} (hw : x.attrs.Wf) (hb : x.toD.bulk ≤ 1500000) : AX.Sf.InstIn x ∧ x.typ.length ≤ 2000000:=by
 unfold Inst.toD at hb
 simp only [D.bulk,D.bulks] at hb
 obtain ⟨h1,h2⟩:=strs_bulk x.deps
 exact ⟨⟨by omega,by omega,by omega,V.Wf.lens _ hw,by omega,fun s hs => by have:=h2 s hs; omega⟩,by omega⟩
theorem fit_of {s : St} (hw : s.Wf) (hb : s.toD.bulk ≤ 1500000) : Fit s:=by
 have hE:=fun ver => stE_bulk ver s
 have hb':=hb
 unfold St.toD at hb'
 simp only [D.bulk,D.bulks] at hb'
 obtain ⟨i1,i2⟩:=map_bulk Inst.toD s.insts
 obtain ⟨p1,p2⟩:=map_bulk Pend.toD s.pends
 obtain ⟨o1,o2⟩:=map_bulk Outp.toD s.outs
 have hi : ∀ x ∈ s.insts,AX.Sf.InstIn x ∧ x.typ.length ≤ 2000000:=fun x hx => inst_fit (hw.insts x hx) (by have:=i2 x hx; omega)
 have hp : ∀ x ∈ s.pends,x.addr.length ≤ 2000000 ∧ x.typ.length ≤ 2000000 ∧ x.tok.length ≤ 2000000:=fun x hx => by
  have : x.toD.bulk ≤ 1500000:=by have:=p2 x hx; omega
  unfold Pend.toD at this
  simp only [D.bulk,D.bulks] at this
  refine ⟨?_,?_,?_⟩ <;> omega
 have ho : ∀ x ∈ s.outs,x.name.length ≤ 2000000 ∧ x.value.lens:=fun x hx => by
  have : x.toD.bulk ≤ 1500000:=by have:=o2 x hx; omega
  unfold Outp.toD at this
  simp only [D.bulk,D.bulks] at this
  exact ⟨by omega,V.Wf.lens _ (hw.outs x hx)⟩
 refine ⟨⟨by omega,fun x hx => (hi x hx).1,fun x hx => ⟨(hp x hx).1,(hp x hx).2.2⟩,ho,by omega,by omega,by omega⟩,⟨fun x hx => (hi x hx).2,fun x hx => (hp x hx).2.1⟩,fun ver => ?_⟩
 have:=hE ver
 omega
end Sf
end Go.Proofs.YteklhoajalgehaaGreatDoor

namespace Go.Proofs.YteklhoajalgehaaGreatDoor
open Go.RowKit
mutual
def V.few : V → Prop
 | .mk k n s is ks => is.length ≤ 2000000 ∧ ks.length ≤ 2000000 ∧ V.fews is
def V.fews : List V → Prop
 | [] => True
 | v :: l => v.few ∧ V.fews l
end
theorem V.fews_mem : ∀ {l : List V},V.fews l → ∀ x ∈ l,x.few
 | [],_ => by simp
 | v :: l,h => by
  unfold V.fews at h
  exact List.forall_mem_cons.2 ⟨h.1,V.fews_mem h.2⟩
theorem toDs_bulk : ∀ l : List V,l.length ≤ D.bulks (V.toDs l)
 | [] => Nat.zero_le _
 | v :: l => by
  have:=toDs_bulk l
  have h1 : 1 ≤ v.toD.bulk:=by cases h : v.toD <;> rw [D.bulk] <;> omega
  rw [V.toDs,D.bulks,List.length_cons]; omega
mutual
theorem V.few_of : ∀ v : V,v.toD.bulk ≤ 1500000 → v.few
 | .mk k n s is ks,h => by
  rw [V.toD,D.bulk,D.bulks,D.bulks,D.bulks,D.bulks,D.bulks,D.bulks,D.bulk,D.bulk,D.bulk,D.bulk,D.bulk] at h
  have h1:=toDs_bulk is
  have h2:=(strs_bulk ks).1
  unfold V.few
  exact ⟨by omega,by omega,V.fews_of is (by omega)⟩
theorem V.fews_of : ∀ l : List V,D.bulks (V.toDs l) ≤ 1500000 → V.fews l
 | [],_ => by unfold V.fews; trivial
 | v :: l,h => by
  rw [V.toDs,D.bulks] at h
  unfold V.fews
  exact ⟨V.few_of v (by omega),V.fews_of l (by omega)⟩
end
namespace AX
def c_jcopied : AX.AFn:=⟨26,aS [aR 1 (.box 71 (.t 0)),aR 2 (.alloc 71 [.int .i64 0,.int .i64 0,.str [],.sl 0 .nil [],.sl 0 .nil []])] (aS [aF 6 4 1,aL 7 6,aR 8 (.call 195 [.t 7]),aF 9 4 1,aU (.store 1 (.t 9) (.t 8))] (aS [aR 3 (.mv (.c (.sl 0 .nil [])))] (.seq (aS [aF 10 3 1,aL 11 10,aR 12 (.len false (.t 11)),aR 13 (.mv (aI 0))] (.block 0 (.loop (aS [aR 14 (.bin .lss (.t 13) (.t 12))] (.seq (.cond (.t 14) (.skip) (.exit 0)) (.seq (.block 1 (aS [aR 15 (.iaddr 5 (.t 11) (.t 13)),aR 16 (.load true 5 (.t 15)),aR 5 (.alloc 71 [.int .i64 0,.int .i64 0,.str [],.sl 0 .nil [],.sl 0 .nil []]),aU (.store 5 (.t 5) (.t 16))] (.reg false [aM 17 3,aR 18 (.load true 5 (.t 5)),aR 19 (.call 127 [.t 18]),aR 20 (.mks 5 [.t 19]),aR 21 (.app 71 5 80 (.t 17) (.t 20)),aM 3 21]))) (.reg false [aR 22 (.bin .add (.t 13) (aI 1)),aM 13 22]))))))) (aS [aM 23 3,aF 24 3 1,aU (.store 1 (.t 24) (.t 23))] (aS [aR 25 (.load true 5 (.t 1)),aU (.store 5 (.t 2) (.t 25))] (.ret)))))),[.c 2 true 5]⟩
theorem h_jcopied : AX.compFn Tryz.prog 127 = some c_jcopied:=by kernel_rfl
def c_jobject : AX.AFn:=⟨12,aS [aR 1 (.box 73 (.t 0)),aR 2 (.alloc 73 [.str [],.str [],.str [],.str [],.int .i64 0,.int .i64 0,.str [],.sl 0 .nil [],.sl 0 .nil [],.int .i64 0,.bool false,.bool false,.sl 0 .nil []])] (.seq (.reg true [aF 3 4 1,⟨some 4,.load true 5 (.t 3),none,[0]⟩,⟨some 5,.call 127 [.t 4],none,[1]⟩,aF 6 12 1,⟨some 7,.load false 1 (.t 6),none,[3]⟩,⟨some 8,.call 195 [.t 7],none,[4,2]⟩,⟨some 9,.faddr 4 (.t 1),none,[0,1,2,3,4]⟩,⟨none,.store 5 (.t 9) (.t 5),none,[6,2,5,0,1,2,3,4]⟩,⟨some 10,.faddr 12 (.t 1),none,[0,1,2,3,4,5,6,7]⟩,⟨none,.store 1 (.t 10) (.t 8),none,[8,5,7,0,1,2,3,4,5,6,7]⟩]) (aS [aR 11 (.load true 13 (.t 1)),aU (.store 13 (.t 2) (.t 11))] (.ret))),[.c 2 true 13]⟩
theorem h_jobject : AX.compFn Tryz.prog 126 = some c_jobject:=by kernel_rfl
def c_jclone : AX.AFn:=⟨57,aS [aR 1 (.box 75 (.t 0)),aR 2 (.alloc 75 [.int .i64 0,.str [],.int .i64 0,.sl 0 .nil [],.sl 0 .nil [],.sl 0 .nil [],.int .i64 0,.int .i64 0,.str [],.str [],.str [],.str [],.int .i64 0,.str [],.str [],.str [],.str [],.int .i64 0,.int .i64 0,.str [],.sl 0 .nil [],.sl 0 .nil [],.int .i64 0,.bool false,.bool false,.sl 0 .nil []])] (aS [aF 9 13 1,aR 10 (.load true 13 (.t 9)),aR 11 (.call 126 [.t 10]),aF 12 13 1,aU (.store 13 (.t 12) (.t 11))] (aS [aR 3 (.mv (.c (.sl 0 .nil [])))] (.seq (aS [aF 13 1 1,aF 14 2 13,aL 15 14,aR 16 (.len false (.t 15)),aR 17 (.mv (aI 0))] (.block 0 (.loop (aS [aR 18 (.bin .lss (.t 17) (.t 16))] (.seq (.cond (.t 18) (.skip) (.exit 0)) (.seq (.block 1 (aS [aR 19 (.iaddr 13 (.t 15) (.t 17)),aR 20 (.load true 13 (.t 19)),aR 5 (.alloc 73 [.str [],.str [],.str [],.str [],.int .i64 0,.int .i64 0,.str [],.sl 0 .nil [],.sl 0 .nil [],.int .i64 0,.bool false,.bool false,.sl 0 .nil []]),aU (.store 13 (.t 5) (.t 20))] (.reg false [aM 21 3,aR 22 (.load true 13 (.t 5)),aR 23 (.call 126 [.t 22]),aR 24 (.mks 13 [.t 23]),aR 25 (.app 73 13 184 (.t 21) (.t 24)),aM 3 25]))) (.reg false [aR 26 (.bin .add (.t 17) (aI 1)),aM 17 26]))))))) (aS [aR 6 (.mv (.c (.sl 0 .nil [])))] (.seq (aS [aF 27 1 1,aF 28 4 27,aL 29 28,aR 30 (.len false (.t 29)),aR 31 (.mv (aI 0))] (.block 2 (.loop (aS [aR 32 (.bin .lss (.t 31) (.t 30))] (.seq (.cond (.t 32) (.skip) (.exit 2)) (.seq (.block 3 (aS [aR 33 (.iaddr 7 (.t 29) (.t 31)),aR 34 (.load true 7 (.t 33)),aR 8 (.alloc 132 [.str [],.int .i64 0,.int .i64 0,.str [],.sl 0 .nil [],.sl 0 .nil [],.bool false]),aU (.store 7 (.t 8) (.t 34))] (aS [aF 35 1 8,aR 36 (.load true 5 (.t 35)),aR 37 (.call 127 [.t 36]),aF 38 1 8,aU (.store 5 (.t 38) (.t 37))] (.reg false [aM 39 6,aR 40 (.load true 7 (.t 8)),aR 41 (.mks 7 [.t 40]),aR 42 (.app 132 7 104 (.t 39) (.t 41)),aM 6 42])))) (.reg false [aR 43 (.bin .add (.t 31) (aI 1)),aM 31 43]))))))) (aS [aM 44 3,aF 45 1 1,aF 46 3 45,aL 47 46,aR 48 (.call 128 [.t 47]),aM 49 6,aF 50 1 1,aF 51 2 50,aU (.store 1 (.t 51) (.t 44)),aF 52 1 1,aF 53 3 52,aU (.store 1 (.t 53) (.t 48)),aF 54 1 1,aF 55 4 54,aU (.store 1 (.t 55) (.t 49))] (aS [aR 56 (.load true 26 (.t 1)),aU (.store 26 (.t 2) (.t 56))] (.ret)))))))),[.c 2 true 26]⟩
theorem h_jclone : AX.compFn Tryz.prog 68 = some c_jclone:=by kernel_rfl
def c_junfin : AX.AFn:=⟨51,aS [aR 2 (.mv (.c (.sl 0 .nil [])))] (aS [aR 9 (.mkmap),aM 3 9] (.seq (aS [aM 10 0,aR 11 (.len false (.t 10)),aR 12 (.mv (aI 0))] (.block 0 (.loop (aS [aR 13 (.bin .lss (.t 12) (.t 11))] (.seq (.cond (.t 13) (.skip) (.exit 0)) (.seq (.block 1 (aS [aR 14 (.iaddr 26 (.t 10) (.t 12)),aR 15 (.load true 26 (.t 14)),aR 5 (.alloc 75 [.int .i64 0,.str [],.int .i64 0,.sl 0 .nil [],.sl 0 .nil [],.sl 0 .nil [],.int .i64 0,.int .i64 0,.str [],.str [],.str [],.str [],.int .i64 0,.str [],.str [],.str [],.str [],.int .i64 0,.int .i64 0,.str [],.sl 0 .nil [],.sl 0 .nil [],.int .i64 0,.bool false,.bool false,.sl 0 .nil []]),aU (.store 26 (.t 5) (.t 15))] (aS [aF 16 0 5,aL 17 16,aR 18 (.bin .eql (.t 17) (aI 3)),aM 19 18,aG 20 (.faddr 0 (.t 5)) 19 false,aG 21 (.load false 1 (.t 20)) 19 false,aG 22 (.bin .eql (.t 21) (aI 4)) 19 false,aR 23 (.pick (.t 19) (.c (.bool true)) (.t 22))] (.cond (.t 23) (.reg false [aM 24 3,aF 25 6 5,aL 26 25,aU (.mset (.t 24) (.t 26) (.c (.bool true)))]) (.skip))))) (.reg false [aR 27 (.bin .add (.t 12) (aI 1)),aM 12 27]))))))) (aS [aR 6 (.mv (.c (.sl 0 .nil [])))] (.seq (aS [aM 28 0,aR 29 (.len false (.t 28)),aR 30 (.mv (aI 0))] (.block 2 (.loop (aS [aR 31 (.bin .lss (.t 30) (.t 29))] (.seq (.cond (.t 31) (.skip) (.exit 2)) (.seq (.block 3 (aS [aR 32 (.iaddr 26 (.t 28) (.t 30)),aR 33 (.load true 26 (.t 32)),aR 8 (.alloc 75 [.int .i64 0,.str [],.int .i64 0,.sl 0 .nil [],.sl 0 .nil [],.sl 0 .nil [],.int .i64 0,.int .i64 0,.str [],.str [],.str [],.str [],.int .i64 0,.str [],.str [],.str [],.str [],.int .i64 0,.int .i64 0,.str [],.sl 0 .nil [],.sl 0 .nil [],.int .i64 0,.bool false,.bool false,.sl 0 .nil []]),aU (.store 26 (.t 8) (.t 33))] (aS [aF 34 0 8,aL 35 34,aR 36 (.bin .eql (.t 35) (aI 2)),aM 37 36,aG 38 (.mv (.t 3)) 37 true,aG 39 (.faddr 6 (.t 8)) 37 true,aG 40 (.load false 1 (.t 39)) 37 true,aG 41 (.mget (.bool false) false (.t 38) (.t 40)) 37 true,aG 42 (.un .not (.t 41)) 37 true,aR 43 (.pick (.t 37) (.t 42) (.c (.bool false)))] (.cond (.t 43) (.reg false [aM 44 6,aR 45 (.load true 26 (.t 8)),aR 46 (.call 68 [.t 45]),aR 47 (.mks 26 [.t 46]),aR 48 (.app 75 26 376 (.t 44) (.t 47)),aM 6 48]) (.skip))))) (.reg false [aR 49 (.bin .add (.t 30) (aI 1)),aM 30 49]))))))) (aS [aM 50 6,aM 2 50] (.ret)))))),[.t 2]⟩
theorem h_junfin : AX.compFn Tryz.prog 31 = some c_junfin:=by kernel_rfl
theorem a_jcopied : ∀ v : V,v.few → ∀ h,ACall Tryz.prog GT 127 [v.A] h fun r h' => r = v.A ∧ h' = h:=by
 refine V.induct ?_
 intro k n s is ks ih hfew h
 unfold V.few at hfew
 obtain ⟨hl1,hl2,hfs⟩:=hfew
 have ck:=a_clones ks (by omega)
 have li:=V.cellss_length is
 have hVA : (V.mk k n s is ks).A = .agg [.int .i64 k,.int .i64 n,.str s,.sl 5 .no (V.cellss is),.sl 1 .no (strsA ks)]:=by simp only [V.A,V.cells]
 rw [hVA]
 refine pcall ?_ rfl (by simp [A.pure,A.data]) h
 refine acall_of mixedT h_jcopied (by simp [c_jcopied]) ?_
 dsimp only [c_jcopied]
 refine runc0 li (ai ck ti) ?_
 refine awp_loop (fun m ts hh => ∃ (j : Nat) (W : Nat) (o : Own) (l' : List Blk) (t : List (TypeId × Nat × Nat)),m = is.length - j ∧ j ≤ is.length ∧ hh = ⟨.cells 71 [.int .i64 k,.int .i64 n,.str s,.sl 5 .no (V.cellss is),.sl 1 .no (strsA ks)] :: .cells 71 [.int .i64 0,.int .i64 0,.str [],.sl 0 .nil [],.sl 0 .nil []] :: l',t⟩ ∧ Gs 71 5 0 ⟨[],t⟩ (V.cellss (is.take j)) (.sl W o (V.cellss (is.take j))) ∧
  (ts 1 = .ptr 0 0 ∧ ts 2 = .ptr 1 0 ∧ ts 3 = .sl W o (V.cellss (is.take j)) ∧ ts 11 = .sl 5 .no (V.cellss is) ∧ ts 12 = .int .i64 (is.length : Nat) ∧ ts 13 = .int .i64 (j : Nat))) is.length ?_ ?_
 ·exact ⟨0,0,.nil,[],[],rfl,Nat.zero_le _,rfl,.inl ⟨rfl,rfl⟩,by (exact inv0 li)⟩
 rintro m ts hh ⟨j,W,o,l',t,rfl,hj,rfl,gX,ht⟩
 rcases Nat.lt_or_ge j is.length with hlt | hge
 rotate_left
 ·have hf : ¬ (j : Int) < (is.length : Int):=by omega
  rw [List.take_of_length_le hge] at gX ht
  refine run0 (ai ht hf) ?_
  exact ⟨.agg [.int .i64 k,.int .i64 n,.str s,.sl 5 .no (V.cellss is),.sl 1 .no (strsA ks)],⟨le1_refl _,le1_refl _,le1_refl _,Gs.le gX,le1_refl _,trivial⟩,rfl⟩
 have hf : (V.cellss is).length = is.length ∧ (j : Int) < (is.length : Int) ∧ (0 : Int) ≤ (j : Int) ∧ (V.cellss is).getD j [] = is[j].cells ∧ IntKind.i64.wrap ((j : Int) + 1) = ((j + 1 : Nat) : Int):=
  ⟨li,by omega,by omega,V.cellss_get is j hlt,by rw [wrap64 (by omega) (by omega)]; omega⟩
 have cx:=ih _ (List.getElem_mem hlt) (V.fews_mem hfs _ (List.getElem_mem hlt))
 have em : V.cellss (is.take j) ++ [is[j].cells] = V.cellss (is.take (j + 1)):=by
  have e : is.take (j + 1) = is.take j ++ [is[j]]:=(List.take_append_getElem hlt).symm
  rw [e,V.cellss_map,V.cellss_map,List.map_append]; rfl
 have hrl : (V.cellss (is.take j)).length = j:=by rw [V.cellss_length,List.length_take]; omega
 obtain ⟨W',o',t',hX,gX',_⟩:=gX.grow 80 is[j].cells (by rw [hrl]; omega) (by decide)
 rw [em] at gX'
 simp only [em] at hX
 clear em ih gX
 obtain ⟨x,hx⟩ : ∃ x,is[j] = x:=⟨_,rfl⟩
 rw [hx] at hf cx hX
 obtain ⟨k2,n2,w,vi,vy⟩:=x
 simp only [V.A,V.cells] at hf cx hX
 refine runc0 (ai ht (ai hf hX)) (ai cx ti) ?_
 exact ⟨_,by omega,j + 1,W',o',_,t',rfl,by omega,rfl,gX',by (exact inv0 (ai ht hf))⟩
theorem a_jobject (x : Sf.Inst) (hv : x.attrs.few) (hd : x.deps.length ≤ 1000000000) (h : Hp) : ACall Tryz.prog GT 126 [.agg (Sf.Inst.cells x)] h fun r h' => r = .agg (Sf.Inst.cells x) ∧ h' = h:=by
 have cc:=a_jcopied x.attrs hv
 have cs:=a_clones x.deps hd
 obtain ⟨a,d,i,t,⟨k,n,s,is,ks⟩,v,tn,fi,ds⟩:=x
 simp only [V.A,V.cells,Sf.Inst.cells] at cc cs ⊢
 refine pcall ?_ rfl (by simp [A.pure,A.data]) h
 refine acall_of mixedT h_jobject (by simp [c_jobject]) ?_
 dsimp only [c_jobject]
 refine runc0 ti (ai cc (ai cs ti)) ?_
 exact ⟨_,le_refl _,rfl⟩
structure JrFew (r : Jr) : Prop where
 inn : JrIn r
 vfew : r.after.attrs.few
 ins : r.base.insts.length ≤ 2000000 ∧ ∀ x ∈ r.base.insts,x.attrs.few ∧ x.deps.length ≤ 1000000000
 ps : r.base.pends.length ≤ 2000000
 os : r.base.outs.length ≤ 2000000 ∧ ∀ x ∈ r.base.outs,x.value.few
theorem a_jclone (r : Jr) (hr : JrFew r) (h : Hp) : ACall Tryz.prog GT 68 [.agg r.cells] h fun v h' => v = .agg r.cells ∧ h' = h:=by
 have co:=a_jobject r.after hr.vfew hr.inn.deps
 have cp:=a_clonep r.base.pends (by have:=hr.ps; omega)
 obtain ⟨hin,hio⟩:=hr.ins
 obtain ⟨hon,hoo⟩:=hr.os
 clear hr
 obtain ⟨kd,⟨lin,ser,ins,ps,os⟩,st,op,ad,dp,ty,tk,er,⟨a1,a2,a3,a4,⟨k,nn,ss,is,ks⟩,v,tn,fi,ds⟩⟩:=r
 simp only [Jr.cells,Sf.Inst.cells,List.cons_append,List.nil_append] at *
 refine pcall ?_ rfl (by simp [A.pure,A.data]) h
 refine acall_of mixedT h_jclone (by simp [c_jclone]) ?_
 dsimp only [c_jclone]
 have li : (ins.map Sf.Inst.cells).length = ins.length:=List.length_map _
 have lo : (os.map Sf.Outp.cells).length = os.length:=List.length_map _
 refine runc0 li (ai co ti) ?_
 refine awp_loop (fun m ts hh => ∃ (j : Nat) (W : Nat) (o : Own) (l' : List Blk) (t : List (TypeId × Nat × Nat)),m = ins.length - j ∧ j ≤ ins.length ∧ hh = ⟨.cells 75 [.int .i64 kd,.str lin,.int .i64 ser,.sl 13 .no (ins.map Sf.Inst.cells),.sl 3 .no (ps.map Sf.Pend.cells),.sl 7 .no (os.map Sf.Outp.cells),.int .i64 st,.int .i64 op,.str ad,.str dp,.str ty,.str tk,.int .i64 er,.str a1,.str a2,.str a3,.str a4,.int .i64 k,.int .i64 nn,.str ss,.sl 5 .no (V.cellss is),.sl 1 .no (strsA ks),.int .i64 v,.bool tn,.bool fi,.sl 1 .no (strsA ds)] :: .cells 75 [.int .i64 0,.str [],.int .i64 0,.sl 0 .nil [],.sl 0 .nil [],.sl 0 .nil [],.int .i64 0,.int .i64 0,.str [],.str [],.str [],.str [],.int .i64 0,.str [],.str [],.str [],.str [],.int .i64 0,.int .i64 0,.str [],.sl 0 .nil [],.sl 0 .nil [],.int .i64 0,.bool false,.bool false,.sl 0 .nil []] :: l',t⟩ ∧ Gs 73 13 0 ⟨[],t⟩ ((ins.take j).map Sf.Inst.cells) (.sl W o ((ins.take j).map Sf.Inst.cells)) ∧
  (ts 1 = .ptr 0 0 ∧ ts 2 = .ptr 1 0 ∧ ts 3 = .sl W o ((ins.take j).map Sf.Inst.cells) ∧ ts 15 = .sl 13 .no (ins.map Sf.Inst.cells) ∧ ts 16 = .int .i64 (ins.length : Nat) ∧ ts 17 = .int .i64 (j : Nat))) ins.length ?_ ?_
 ·exact ⟨0,0,.nil,[],[],rfl,Nat.zero_le _,rfl,.inl ⟨rfl,rfl⟩,by (exact inv0 li)⟩
 rintro m ts hh ⟨j,W,o,l',t,rfl,hj,rfl,gX,ht⟩
 rcases Nat.lt_or_ge j ins.length with hlt | hge
 ·have hf:=rowj_at Sf.Inst.cells ins j hlt (by omega)
  have hx:=hio _ (List.getElem_mem hlt)
  have cx:=a_jobject _ hx.1 hx.2
  have em : (ins.take j).map Sf.Inst.cells ++ [Sf.Inst.cells ins[j]] = (ins.take (j + 1)).map Sf.Inst.cells:=by
   have e : ins.take (j + 1) = ins.take j ++ [ins[j]]:=(List.take_append_getElem hlt).symm
   rw [e,List.map_append]; rfl
  obtain ⟨W',o',t',hX,gX',_⟩:=gX.grow 184 (Sf.Inst.cells ins[j]) (by rw [List.length_map,List.length_take]; omega) (by decide)
  rw [em] at gX'
  simp only [em] at hX
  clear em gX hx
  obtain ⟨x,hx⟩ : ∃ x,ins[j] = x:=⟨_,rfl⟩
  rw [hx] at hf cx hX
  obtain ⟨b1,b2,b3,b4,⟨jk2,jn,js,jis,jks⟩,jv,jtn,jfi,jds⟩:=x
  simp only [Sf.Inst.cells] at hf cx hX
  refine runc0 (ai ht (ai hf hX)) (ai cx ti) ?_
  exact ⟨_,by omega,j + 1,W',o',_,t',rfl,by omega,rfl,gX',by (exact inv0 (ai ht hf))⟩
 have hf:=rowj_end Sf.Inst.cells ins j hge
 rw [List.take_of_length_le hge] at gX ht
 have lX:=Gs.le gX
 clear gX li hio co
 refine runc0 (ai ht (ai hf lo)) ti ?_
 refine awp_loop (fun m ts hh => ∃ (j : Nat) (W2 : Nat) (o2 : Own) (l' : List Blk) (t : List (TypeId × Nat × Nat)),m = os.length - j ∧ j ≤ os.length ∧ hh = ⟨.cells 75 [.int .i64 kd,.str lin,.int .i64 ser,.sl 13 .no (ins.map Sf.Inst.cells),.sl 3 .no (ps.map Sf.Pend.cells),.sl 7 .no (os.map Sf.Outp.cells),.int .i64 st,.int .i64 op,.str ad,.str dp,.str ty,.str tk,.int .i64 er,.str a1,.str a2,.str a3,.str a4,.int .i64 k,.int .i64 nn,.str ss,.sl 5 .no (V.cellss is),.sl 1 .no (strsA ks),.int .i64 v,.bool tn,.bool fi,.sl 1 .no (strsA ds)] :: .cells 75 [.int .i64 0,.str [],.int .i64 0,.sl 0 .nil [],.sl 0 .nil [],.sl 0 .nil [],.int .i64 0,.int .i64 0,.str [],.str [],.str [],.str [],.int .i64 0,.str [],.str [],.str [],.str [],.int .i64 0,.int .i64 0,.str [],.sl 0 .nil [],.sl 0 .nil [],.int .i64 0,.bool false,.bool false,.sl 0 .nil []] :: l',t⟩ ∧ Gs 132 7 0 ⟨[],t⟩ ((os.take j).map Sf.Outp.cells) (.sl W2 o2 ((os.take j).map Sf.Outp.cells)) ∧
  (ts 1 = .ptr 0 0 ∧ ts 2 = .ptr 1 0 ∧ ts 3 = .sl W o (ins.map Sf.Inst.cells) ∧ ts 6 = .sl W2 o2 ((os.take j).map Sf.Outp.cells) ∧ ts 29 = .sl 7 .no (os.map Sf.Outp.cells) ∧ ts 30 = .int .i64 (os.length : Nat) ∧ ts 31 = .int .i64 (j : Nat))) os.length ?_ ?_
 ·exact ⟨0,0,.nil,l',t,rfl,Nat.zero_le _,rfl,.inl ⟨rfl,rfl⟩,by (exact inv0 (ai lo ht))⟩
 clear hf ht hj hge t l' ts j
 rintro m ts hh ⟨j,W2,o2,l',t,rfl,hj,rfl,gX,ht⟩
 rcases Nat.lt_or_ge j os.length with hlt | hge
 ·have hf:=rowj_at Sf.Outp.cells os j hlt (by omega)
  have cx:=a_jcopied _ (hoo _ (List.getElem_mem hlt))
  have em : (os.take j).map Sf.Outp.cells ++ [Sf.Outp.cells os[j]] = (os.take (j + 1)).map Sf.Outp.cells:=by
   have e : os.take (j + 1) = os.take j ++ [os[j]]:=(List.take_append_getElem hlt).symm
   rw [e,List.map_append]; rfl
  obtain ⟨W',o',t',hX,gX',_⟩:=gX.grow 104 (Sf.Outp.cells os[j]) (by rw [List.length_map,List.length_take]; omega) (by decide)
  rw [em] at gX'
  simp only [em] at hX
  clear em gX
  obtain ⟨x,hx⟩ : ∃ x,os[j] = x:=⟨_,rfl⟩
  rw [hx] at hf cx hX
  obtain ⟨b1,⟨jk2,jn,js,jis,jks⟩,jb⟩:=x
  simp only [Sf.Outp.cells,V.A,V.cells] at hf cx hX
  refine runc0 (ai ht (ai hf hX)) (ai cx ti) ?_
  exact ⟨_,by omega,j + 1,W',o',_,t',rfl,by omega,rfl,gX',by (exact inv0 (ai ht hf))⟩
 have hf:=rowj_end Sf.Outp.cells os j hge
 rw [List.take_of_length_le hge] at gX ht
 have lY:=Gs.le gX
 refine runc0 (ai ht hf) (ai cp ti) ?_
 exact ⟨.agg [.int .i64 kd,.str lin,.int .i64 ser,.sl 13 .no (ins.map Sf.Inst.cells),.sl 3 .no (ps.map Sf.Pend.cells),.sl 7 .no (os.map Sf.Outp.cells),.int .i64 st,.int .i64 op,.str ad,.str dp,.str ty,.str tk,.int .i64 er,.str a1,.str a2,.str a3,.str a4,.int .i64 k,.int .i64 nn,.str ss,.sl 5 .no (V.cellss is),.sl 1 .no (strsA ks),.int .i64 v,.bool tn,.bool fi,.sl 1 .no (strsA ds)],⟨le1_refl _,le1_refl _,le1_refl _,lX,le1_refl _,lY,le1_refl _,le1_refl _,le1_refl _,le1_refl _,le1_refl _,le1_refl _,le1_refl _,le1_refl _,le1_refl _,le1_refl _,le1_refl _,le1_refl _,le1_refl _,le1_refl _,le1_refl _,le1_refl _,le1_refl _,le1_refl _,le1_refl _,le1_refl _,trivial⟩,rfl⟩
theorem gfind_put {α : Type} (n k : Int) (x : α) : ∀ m : List (Int × α),gfind n (gput k x m) = if n = k then some x else gfind n m
 | [] => rfl
 | (q,y) :: m => by
  unfold gput
  by_cases h : k = q
  ·subst h
   rw [if_pos rfl]
   unfold gfind
   by_cases h2 : n = k
   ·rw [if_pos h2,if_pos h2]
   ·rw [if_neg h2,if_neg h2,if_neg h2]
  ·rw [if_neg h]
   unfold gfind
   by_cases h2 : n = q
   ·subst h2
    rw [if_pos rfl,if_neg (fun e => h e.symm),if_pos rfl]
   ·rw [if_neg h2,if_neg h2]
    exact gfind_put n k x m
theorem ends_gen (n : Int) : ∀ (l : List Jr) (m : List (Int × Bool)),(gfind n (l.foldl (fun m r => if (r.kind == 3 || r.kind == 4) = true then gput r.step true m else m) m)).getD false = ((gfind n m).getD false || Jr.endedB n l)
 | [],m => by simp [Jr.endedB]
 | r :: l,m => by
  rw [List.foldl_cons,ends_gen n l]
  unfold Jr.endedB
  rw [List.any_cons]
  cases h : (r.kind == 3 || r.kind == 4)
  ·simp
  ·rw [if_pos rfl,gfind_put]
   by_cases h2 : n = r.step
   ·subst h2; simp
   ·rw [if_neg h2,show (r.step == n) = false by simp; exact fun e => h2 e.symm]; simp
theorem ends_find (n : Int) (l : List Jr) : (gfind n (Jr.ends l)).getD false = Jr.endedB n l:=by
 unfold Jr.ends
 rw [ends_gen]
 rfl
theorem ends_snoc (l : List Jr) (r : Jr) : Jr.ends (l ++ [r]) = if (r.kind == 3 || r.kind == 4) = true then gput r.step true (Jr.ends l) else Jr.ends l:=by
 unfold Jr.ends
 rw [List.foldl_append]; rfl
theorem a_junfin (l : List Jr) (hin : ∀ r ∈ l,JrFew r) (hl : l.length ≤ 1000000) (h : Hp) : ACall Tryz.prog GT 31 [.sl 26 .no (l.map Jr.cells)] h fun v h' => v = .sl 26 .no ((Jr.unfin l).map Jr.cells) ∧ h' = h:=by
 refine pcall ?_ rfl (by simp [A.pure,A.data]) h
 refine acall_of mixedT h_junfin (by simp [c_junfin]) ?_
 dsimp only [c_junfin]
 have li : (l.map Jr.cells).length = l.length:=List.length_map _
 refine run0 li ?_
 refine awp_loop (fun m ts hh => ∃ (i c : Nat) (l' : List Blk) (t : List (TypeId × Nat × Nat)),m = l.length - i ∧ i ≤ l.length ∧ hh = ⟨.map (gmap A.bool (Jr.ends (l.take i))) c :: l',t⟩ ∧
  (ts 0 = .sl 26 .no (l.map Jr.cells) ∧ ts 3 = .mp 0 ∧ ts 10 = .sl 26 .no (l.map Jr.cells) ∧ ts 11 = .int .i64 (l.length : Nat) ∧ ts 12 = .int .i64 (i : Nat))) l.length ?_ ?_
 ·exact ⟨0,0,[],[],rfl,Nat.zero_le _,rfl,by (exact inv0 li)⟩
 rintro m ts hh ⟨i,c,l',t,rfl,hi,rfl,ht⟩
 rcases Nat.lt_or_ge i l.length with hlt | hge
 ·have hf:=rowj_at Jr.cells l i hlt (by omega)
  have es : l.take (i + 1) = l.take i ++ [l[i]]:=(List.take_append_getElem hlt).symm
  have e2:=ends_snoc (l.take i) l[i]
  rw [← es] at e2
  obtain ⟨r,hr⟩ : ∃ r,l[i] = r:=⟨_,rfl⟩
  rw [hr] at hf e2
  have p2:=gmap_put A.bool r.step true (Jr.ends (l.take i))
  have k2:=gmap_clock A.bool r.step (Jr.ends (l.take i)) c
  clear hr es
  obtain ⟨E,hE⟩ : ∃ E,Jr.ends (l.take i) = E:=⟨_,rfl⟩
  rw [hE] at e2 p2 k2 ⊢
  obtain ⟨kd,⟨lin,ser,ins,ps,os⟩,st,op,ad,dp,ty,tk,er,⟨a1,a2,a3,a4,⟨k,nn,ss,is,ks⟩,v,tn,fi,ds⟩⟩:=r
  simp only [Jr.cells,Sf.Inst.cells,List.cons_append,List.nil_append] at hf
  dsimp only at e2 p2 k2
  refine runx0 (ai ht hf) ti ?_
  (refine AX.alt0 ht ?_ ?_)
  ·intro hb
   rw [if_pos hb] at e2
   refine runx0 (ai ht (ai hf (ai p2 k2))) ti ?_
   exact ⟨_,by omega,i + 1,_,_,_,rfl,by omega,by rw [e2],by (exact inv0 (ai ht hf))⟩
  ·intro hb
   rw [if_neg (by rw [hb]; decide)] at e2
   refine runx0 (ai ht hf) ti ?_
   exact ⟨_,by omega,i + 1,c,_,_,rfl,by omega,by rw [e2],by (exact inv0 (ai ht hf))⟩
 have hf:=rowj_end Jr.cells l i hge
 rw [List.take_of_length_le hge]
 have ef:=fun n => ends_find n l
 have gf:=fun n => gmap_find A.bool n (Jr.ends l)
 obtain ⟨E,hE⟩ : ∃ E,Jr.ends l = E:=⟨_,rfl⟩
 rw [hE] at ⊢
 simp only [hE] at ef gf
 refine run0 (ai ht hf) ?_
 refine awp_loop (fun m ts hh => ∃ (j : Nat) (W : Nat) (o : Own) (l' : List Blk) (t : List (TypeId × Nat × Nat)),m = l.length - j ∧ j ≤ l.length ∧ hh = ⟨.map (gmap A.bool E) c :: l',t⟩ ∧ Gs 75 26 0 ⟨[],t⟩ (((l.take j).filter fun r => r.kind == 2 && !Jr.endedB r.step l).map Jr.cells) (.sl W o (((l.take j).filter fun r => r.kind == 2 && !Jr.endedB r.step l).map Jr.cells)) ∧
  (ts 3 = .mp 0 ∧ ts 6 = .sl W o (((l.take j).filter fun r => r.kind == 2 && !Jr.endedB r.step l).map Jr.cells) ∧ ts 28 = .sl 26 .no (l.map Jr.cells) ∧ ts 29 = .int .i64 (l.length : Nat) ∧ ts 30 = .int .i64 (j : Nat))) l.length ?_ ?_
 ·exact ⟨0,0,.nil,l',t,rfl,Nat.zero_le _,rfl,.inl ⟨rfl,rfl⟩,by (exact inv0 (ai li ht))⟩
 clear hf ht hi hge i l' t ts
 rintro m ts hh ⟨j,W,o,l',t,rfl,hj,rfl,gX,ht⟩
 rcases Nat.lt_or_ge j l.length with hlt | hge
 rotate_left
 ·have hf:=rowj_end Jr.cells l j hge
  rw [List.take_of_length_le hge] at gX ht
  have lX:=Gs.le gX
  refine run0 (ai ht hf) ?_
  exact ⟨.sl 26 .no ((Jr.unfin l).map Jr.cells),lX,rfl⟩
 have hf:=rowj_at Jr.cells l j hlt (by omega)
 have hrf:=hin _ (List.getElem_mem hlt)
 have es : l.take (j + 1) = l.take j ++ [l[j]]:=(List.take_append_getElem hlt).symm
 have em : ((l.take (j + 1)).filter fun r => r.kind == 2 && !Jr.endedB r.step l) = ((l.take j).filter fun r => r.kind == 2 && !Jr.endedB r.step l) ++ (if (l[j].kind == 2 && !Jr.endedB l[j].step l) = true then [l[j]] else []):=by
  rw [es,List.filter_append,List.filter_cons,List.filter_nil]
 have hlen : ((l.take j).filter fun r => r.kind == 2 && !Jr.endedB r.step l).length ≤ j:=Nat.le_trans (List.length_filter_le _ _) (by rw [List.length_take]; omega)
 obtain ⟨F,hF⟩ : ∃ F,((l.take j).filter fun r => r.kind == 2 && !Jr.endedB r.step l) = F:=⟨_,rfl⟩
 rw [hF] at gX ht em hlen
 obtain ⟨W',o',t',hX,gX',_⟩:=gX.grow 376 (Jr.cells l[j]) (by rw [List.length_map]; omega) (by decide)
 have cc:=a_jclone l[j] hrf
 have ef1:=ef l[j].step
 have gf1:=gf l[j].step
 obtain ⟨r,hr⟩ : ∃ r,l[j] = r:=⟨_,rfl⟩
 rw [hr] at hf em hX gX' cc ef1 gf1
 clear hr es ef gf hrf
 obtain ⟨B,hB⟩ : ∃ B,Jr.endedB r.step l = B:=⟨_,rfl⟩
 rw [hB] at em ef1
 have hG : mgetV (.bool false) false (mfind r.step (gmap A.bool E)) = .bool B:=by rw [gf1,← ef1]; cases gfind r.step E <;> rfl
 have hG' : (mfind r.step (gmap A.bool E)).getD (.bool false) = .bool B:=hG
 clear gf1 ef1 hB
 have em2 : F.map Jr.cells ++ [r.cells] = (F ++ [r]).map Jr.cells:=by simp
 rw [em2] at gX'
 simp only [em2] at hX
 obtain ⟨F2,hF2⟩ : ∃ F2,F ++ [r] = F2:=⟨_,rfl⟩
 rw [hF2] at gX' hX
 have em3 : (r.kind == 2 && !B) = true → ((l.take (j + 1)).filter fun r => r.kind == 2 && !Jr.endedB r.step l) = F2:=fun hb => by rw [em,if_pos hb,hF2]
 have em4 : (r.kind == 2 && !B) = false → ((l.take (j + 1)).filter fun r => r.kind == 2 && !Jr.endedB r.step l) = F:=fun hb => by rw [em,if_neg (by rw [hb]; decide)]; simp
 clear em em2 hF2
 obtain ⟨kd,⟨lin,ser,ins,ps,os⟩,st,op,ad,dp,ty,tk,er,⟨a1,a2,a3,a4,⟨k,nn,ss,is,ks⟩,v,tn,fi,ds⟩⟩:=r
 simp only [Jr.cells,Sf.Inst.cells,List.cons_append,List.nil_append] at hf hX cc
 dsimp only at hG hG' em3 em4
 refine runx0 (ai ht (ai hf (ai hG hG'))) ti ?_
 (refine AX.alt0 ht ?_ ?_)
 ·intro hb
  refine runc0 (ai ht (ai hf hX)) (ai cc ti) ?_
  exact ⟨_,by omega,j + 1,W',o',_,t',rfl,by omega,rfl,by rw [em3 hb]; exact gX',by rw [em3 hb]; (exact inv0 (ai ht hf))⟩
 ·intro hb
  refine runx0 (ai ht hf) ti ?_
  exact ⟨_,by omega,j + 1,W,o,_,t,rfl,by omega,rfl,by rw [em4 hb]; exact gX,by rw [em4 hb]; (exact inv0 (ai ht hf))⟩
def c_r31Small : AX.AFn:=⟨71,aS [aR 3 (.box 39 (.t 0)),aR 6 (.mv (.c (.bool false)))] (.seq (aS [aF 9 2 3,aL 10 9,aR 11 (.len false (.t 10)),aM 12 1,aR 13 (.bin .gtr (.t 11) (.t 12)),aM 14 13,aG 15 (.faddr 3 (.t 3)) 14 false,aG 16 (.load false 1 (.t 15)) 14 false,aG 17 (.len false (.t 16)) 14 false,aG 18 (.mv (.t 1)) 14 false,aG 19 (.bin .gtr (.t 17) (.t 18)) 14 false,aR 20 (.pick (.t 14) (.c (.bool true)) (.t 19)),aM 21 20,aG 22 (.faddr 4 (.t 3)) 21 false,aG 23 (.load false 1 (.t 22)) 21 false,aG 24 (.len false (.t 23)) 21 false,aG 25 (.mv (.t 1)) 21 false,aG 26 (.bin .gtr (.t 24) (.t 25)) 21 false,aR 27 (.pick (.t 21) (.c (.bool true)) (.t 26))] (.cond (.t 27) (aS [aR 6 (.mv (.c (.bool false)))] (.ret)) (.skip))) (.seq (aS [aR 7 (.mv (aI 0))] (.block 0 (.loop (.seq (aS [aM 28 7,aF 29 2 3,aL 30 29,aR 31 (.len false (.t 30)),aR 32 (.bin .lss (.t 28) (.t 31))] (.cond (.t 32) (.skip) (.exit 0))) (.seq (.block 1 (aS [aF 35 2 3,aL 36 35,aM 37 7,aR 38 (.iaddr 13 (.t 36) (.t 37)),aF 39 4 38,aR 40 (.load true 5 (.t 39)),aM 41 2,aR 42 (.call 84 [.t 40,.t 41]),aR 43 (.un .not (.t 42)),aM 44 43,aG 45 (.faddr 2 (.t 3)) 44 false,aG 46 (.load false 1 (.t 45)) 44 false,aG 47 (.mv (.t 7)) 44 false,aG 48 (.iaddr 13 (.t 46) (.t 47)) 44 false,aG 49 (.faddr 12 (.t 48)) 44 false,aG 50 (.load false 1 (.t 49)) 44 false,aG 51 (.len false (.t 50)) 44 false,aG 52 (.mv (.t 1)) 44 false,aG 53 (.bin .gtr (.t 51) (.t 52)) 44 false,aR 54 (.pick (.t 44) (.c (.bool true)) (.t 53))] (.cond (.t 54) (aS [aR 6 (.mv (.c (.bool false)))] (.ret)) (.skip)))) (.reg false [aM 33 7,aR 34 (.bin .add (.t 33) (aI 1)),aM 7 34])))))) (.seq (aS [aR 8 (.mv (aI 0))] (.block 2 (.loop (.seq (aS [aM 55 8,aF 56 4 3,aL 57 56,aR 58 (.len false (.t 57)),aR 59 (.bin .lss (.t 55) (.t 58))] (.cond (.t 59) (.skip) (.exit 2))) (.seq (.block 3 (aS [aF 62 4 3,aL 63 62,aM 64 8,aR 65 (.iaddr 7 (.t 63) (.t 64)),aF 66 1 65,aR 67 (.load true 5 (.t 66)),aM 68 2,aR 69 (.call 84 [.t 67,.t 68]),aR 70 (.un .not (.t 69))] (.cond (.t 70) (aS [aR 6 (.mv (.c (.bool false)))] (.ret)) (.skip)))) (.reg false [aM 60 8,aR 61 (.bin .add (.t 60) (aI 1)),aM 8 61])))))) (aS [aR 6 (.mv (.c (.bool true)))] (.ret))))),[.t 6]⟩
theorem h_r31Small : AX.compFn Tryz.prog 41 = some c_r31Small:=by kernel_rfl
namespace Sf
def smallV (v : V) (nd : Nat) : Bool:=decide (0 ≤ Val.left v nd 40) && decide (IntKind.i64.wrap (Val.keysN v) ≤ 2 * (nd : Int))
def smallI (parts : Int) (nd : Nat) (x : Sf.Inst) : Bool:=smallV x.attrs nd && !decide ((x.deps.length : Int) > parts)
def smallP (parts : Int) (nd : Nat) (s : Sf.St) : Bool:=
 !(decide ((s.insts.length : Int) > parts) || decide ((s.pends.length : Int) > parts) || decide ((s.outs.length : Int) > parts)) && (s.insts.all (smallI parts nd) && s.outs.all fun o => smallV o.value nd)
end Sf
theorem all_drop {α : Type} (p : α → Bool) (l : List α) (i : Nat) (h : i < l.length) : (l.drop i).all p = (p l[i] && (l.drop (i + 1)).all p):=by
 rw [List.drop_eq_getElem_cons h,List.all_cons]
theorem a_r31Small (st : Sf.St) (hin : Sf.StIn st) (parts : Int) (nd : Nat) (hp : 0 ≤ parts) (hp2 : parts ≤ 1000000) (hn : nd ≤ 1000000) (h : Hp) : ACall Tryz.prog GT 41 [st.A,.int .i64 parts,.int .i64 (nd : Int)] h fun r h' => r = .bool (Sf.smallP parts nd st) ∧ h' = h:=by
 refine pcall ?_ rfl (by simp [A.pure,A.data,Sf.St.A]) h
 refine acall_of mixedT h_r31Small (by simp [c_r31Small]) ?_
 dsimp only [c_r31Small]
 have hli:=hin.li
 have hlo:=hin.lo
 have hci:=fun x (hx : x ∈ st.insts) => a_rSmall x.attrs nd hn (hin.insts x hx).l
 have hdi:=fun x (hx : x ∈ st.insts) => (hin.insts x hx).n
 have hco:=fun x (hx : x ∈ st.outs) => a_rSmall x.value nd hn (hin.outs x hx).2
 obtain ⟨lin,ser,ins,ps,os⟩:=st
 simp only [Sf.St.A]
 dsimp only at hli hlo hci hdi hco
 have lm1 : (ins.map Sf.Inst.cells).length = ins.length:=List.length_map _
 have lm2 : (ps.map Sf.Pend.cells).length = ps.length:=List.length_map _
 have lm3 : (os.map Sf.Outp.cells).length = os.length:=List.length_map _
 obtain ⟨q,hq⟩ : ∃ q,Sf.smallP parts nd ⟨lin,ser,ins,ps,os⟩ = q:=⟨_,rfl⟩
 rw [hq]
 unfold Sf.smallP at hq
 dsimp only at hq
 by_cases g1 : (ins.length : Int) > parts
 ·have : false = q:=by rw [← hq]; simp [g1]
  subst this
  refine run0 (ai lm1 (ai lm2 (ai lm3 g1))) ?_
  exact ⟨_,le_refl _,rfl⟩
 by_cases g2 : (ps.length : Int) > parts
 ·have : false = q:=by rw [← hq]; simp [g2]
  subst this
  refine run0 (ai lm1 (ai lm2 (ai lm3 (ai g1 g2)))) ?_
  exact ⟨_,le_refl _,rfl⟩
 by_cases g3 : (os.length : Int) > parts
 ·have : false = q:=by rw [← hq]; simp [g3]
  subst this
  refine run0 (ai lm1 (ai lm2 (ai lm3 (ai g1 (ai g2 g3))))) ?_
  exact ⟨_,le_refl _,rfl⟩
 have hq' : (ins.all (Sf.smallI parts nd) && os.all fun o => Sf.smallV o.value nd) = q:=by rw [← hq]; simp [g1,g2,g3]
 refine run0 (ai lm1 (ai lm2 (ai lm3 (ai g1 (ai g2 g3))))) ?_
 refine awp_loop (fun m ts hh => hh = ⟨[.cells 39 [.str lin,.int .i64 ser,.sl 13 .no (ins.map Sf.Inst.cells),.sl 3 .no (ps.map Sf.Pend.cells),.sl 7 .no (os.map Sf.Outp.cells)]],[]⟩ ∧ ∃ (i : Nat),m = ins.length - i ∧ i ≤ ins.length ∧ (ins.drop i).all (Sf.smallI parts nd) = ins.all (Sf.smallI parts nd) ∧ ts 1 = .int .i64 parts ∧ ts 2 = .int .i64 (nd : Int) ∧ ts 3 = .ptr 0 0 ∧ ts 7 = .int .i64 (i : Nat)) ins.length ?_ ?_
 ·exact ⟨rfl,0,rfl,Nat.zero_le _,rfl,by (exact ev0 ti),by (exact ev0 ti),by (exact ev0 ti),by (exact inv0 ti)⟩
 ·rintro m ts hh ⟨rfl,i,rfl,hi,heq,t1,t2,t3,t7⟩
  by_cases hlt : i < ins.length
  ·have hlt2 : (i : Int) < (ins.length : Int):=by omega
   have hla : (i : Int) < ((ins.map Sf.Inst.cells).length : Int):=by rw [lm1]; omega
   have hj0 : (0 : Int) ≤ (i : Int):=by omega
   have ei : IntKind.i64.wrap ((i : Int) + 1) = ((i + 1 : Nat) : Int):=by rw [wrap64 (by omega) (by omega)]; omega
   have hg:=map_getD Sf.Inst.cells ins i hlt
   have hc:=hci _ (List.getElem_mem hlt)
   rw [all_drop _ _ _ hlt] at heq
   obtain ⟨x,hxx⟩ : ∃ x,ins[i] = x:=⟨_,rfl⟩
   rw [hxx] at hg hc heq
   obtain ⟨a,d,id,ty,⟨k,n,w,vi,vy⟩,v,tn,fi,ds⟩:=x
   simp only [Sf.Inst.cells] at hg
   obtain ⟨b,hb⟩ : ∃ b,Sf.smallV (.mk k n w vi vy) nd = b:=⟨_,rfl⟩
   have hb' : (decide (0 ≤ Val.left (.mk k n w vi vy) nd 40) && decide (IntKind.i64.wrap (Val.keysN (.mk k n w vi vy)) ≤ 2 * (nd : Int))) = b:=hb
   dsimp only at hc
   rw [hb'] at hc
   have hsx : Sf.smallI parts nd ⟨a,d,id,ty,⟨k,n,w,vi,vy⟩,v,tn,fi,ds⟩ = (Sf.smallV (.mk k n w vi vy) nd && !decide ((ds.length : Int) > parts)):=rfl
   rw [hsx,hb] at heq
   have ld : (strsA ds).length = ds.length:=strsA_length ds
   simp only [V.A,V.cells] at hc
   refine run0 (ai t1 (ai t2 (ai t3 (ai t7 (ai lm1 (ai hlt2 (ai hla (ai hj0 hg)))))))) ?_
   refine use (hc _) ?_
   cases b
   ·refine run0 (ai t1 (ai t2 (ai t3 t7))) ?_
    exact ⟨_,le_refl _,by rw [tupA_1,← hq',show ins.all (Sf.smallI parts nd) = false from heq.symm]; rfl⟩
   ·by_cases gd : (ds.length : Int) > parts
    ·refine run0 (ai t1 (ai t2 (ai t3 (ai t7 (ai lm1 (ai hlt2 (ai hla (ai hj0 (ai hg (ai ld gd)))))))))) ?_
     exact ⟨_,le_refl _,by rw [tupA_1,← hq',show ins.all (Sf.smallI parts nd) = false from heq.symm.trans (by simp [gd])]; rfl⟩
    ·have hn : (true && !decide ((ds.length : Int) > parts)) = true:=by simp [gd]
     rw [hn,Bool.true_and] at heq
     refine run0 (ai t1 (ai t2 (ai t3 (ai t7 (ai lm1 (ai hlt2 (ai hla (ai hj0 (ai hg (ai ld (ai gd ei))))))))))) ?_
     exact ⟨ins.length - (i + 1),by omega,rfl,i + 1,rfl,by omega,heq,by (exact ev0 t1),by (exact ev0 t2),by (exact ev0 t3),by (exact ev0 ei)⟩
  ·have hlt2 : ¬ (i : Int) < (ins.length : Int):=by omega
   rw [List.drop_of_length_le (by omega),List.all_nil] at heq
   rw [← heq,Bool.true_and] at hq'
   refine run0 (ai t1 (ai t2 (ai t3 (ai t7 (ai lm1 hlt2))))) ?_
   refine awp_loop (fun m ts hh => hh = ⟨[.cells 39 [.str lin,.int .i64 ser,.sl 13 .no (ins.map Sf.Inst.cells),.sl 3 .no (ps.map Sf.Pend.cells),.sl 7 .no (os.map Sf.Outp.cells)]],[]⟩ ∧ ∃ (i : Nat),m = os.length - i ∧ i ≤ os.length ∧ ((os.drop i).all fun o => Sf.smallV o.value nd) = (os.all fun o => Sf.smallV o.value nd) ∧ ts 2 = .int .i64 (nd : Int) ∧ ts 3 = .ptr 0 0 ∧ ts 8 = .int .i64 (i : Nat)) os.length ?_ ?_
   ·exact ⟨rfl,0,rfl,Nat.zero_le _,rfl,by (exact ev0 t2),by (exact ev0 t3),by (exact inv0 ti)⟩
   ·rintro m ts hh ⟨rfl,i,rfl,hi,heq,t2,t3,t8⟩
    by_cases hlt : i < os.length
    ·have hlt2 : (i : Int) < (os.length : Int):=by omega
     have hla : (i : Int) < ((os.map Sf.Outp.cells).length : Int):=by rw [lm3]; omega
     have hj0 : (0 : Int) ≤ (i : Int):=by omega
     have ei : IntKind.i64.wrap ((i : Int) + 1) = ((i + 1 : Nat) : Int):=by rw [wrap64 (by omega) (by omega)]; omega
     have hg:=map_getD Sf.Outp.cells os i hlt
     have hc:=hco _ (List.getElem_mem hlt)
     rw [all_drop _ _ _ hlt] at heq
     obtain ⟨x,hxx⟩ : ∃ x,os[i] = x:=⟨_,rfl⟩
     rw [hxx] at hg hc heq
     obtain ⟨a,⟨k,n,w,vi,vy⟩,sn⟩:=x
     simp only [Sf.Outp.cells] at hg
     obtain ⟨b,hb⟩ : ∃ b,Sf.smallV (.mk k n w vi vy) nd = b:=⟨_,rfl⟩
     have hb' : (decide (0 ≤ Val.left (.mk k n w vi vy) nd 40) && decide (IntKind.i64.wrap (Val.keysN (.mk k n w vi vy)) ≤ 2 * (nd : Int))) = b:=hb
     dsimp only at hc heq
     rw [hb'] at hc
     rw [hb] at heq
     simp only [V.A,V.cells] at hc
     refine run0 (ai t2 (ai t3 (ai t8 (ai lm3 (ai hlt2 (ai hla (ai hj0 hg))))))) ?_
     refine use (hc _) ?_
     cases b
     ·refine run0 (ai t2 (ai t3 t8)) ?_
      exact ⟨_,le_refl _,by rw [tupA_1,← hq',← heq]; rfl⟩
     ·rw [Bool.true_and] at heq
      refine run0 (ai t2 (ai t3 (ai t8 ei))) ?_
      exact ⟨os.length - (i + 1),by omega,rfl,i + 1,rfl,by omega,heq,by (exact ev0 t2),by (exact ev0 t3),by (exact ev0 ei)⟩
    ·have hlt2 : ¬ (i : Int) < (os.length : Int):=by omega
     rw [List.drop_of_length_le (by omega),List.all_nil] at heq
     refine run0 (ai t2 (ai t3 (ai t8 (ai lm3 hlt2)))) ?_
     exact ⟨_,le_refl _,by rw [tupA_1,← hq',← heq]⟩
structure Sto where
 key : List UInt8
 lin : List UInt8
 latest : Int
 es : List (Int × List UInt8)
 c : Nat
 own : List UInt8
 left : Int
def strM (es : List (Int × List UInt8)) : List (Int × A):=es.map fun e => (e.1,.str e.2)
def lfind (n : Int) : List (Int × List UInt8) → Option (List UInt8)
 | [] => none
 | (k,x) :: l => if n = k then some x else lfind n l
def lput (n : Int) (x : List UInt8) : List (Int × List UInt8) → List (Int × List UInt8)
 | [] => [(n,x)]
 | (k,y) :: l => if n = k then (n,x) :: l else (k,y) :: lput n x l
def lerase (n : Int) : List (Int × List UInt8) → List (Int × List UInt8)
 | [] => []
 | (k,y) :: l => if n = k then l else (k,y) :: lerase n l
def Sto.M (s : Sto) : Blk:=.map (strM s.es) s.c
def Sto.B (s : Sto) : Blk:=.cells 93 [.str s.key,.str s.lin,.int .i64 s.latest,.mp 0,.str s.own,.int .i64 s.left]
namespace Sto
def txt (s : List UInt8) : Bool:=s != [] && Str.valid s
def lock (s : Sto) (who : List UInt8) (n : Int) : Sto × Int:=
 if (txt who && decide (1 ≤ n) && decide (n ≤ 1099511627776)) = false then (s,1)
 else if (s.own != [] && s.own != who) = true then (s,24)
 else ({ s with own:=who,left:=n },0)
def holds (s : Sto) (who : List UInt8) : Bool:=s.own != [] && s.own == who
def tick (s : Sto) (n : Int) : Sto:=
 if n ≤ 0 ∨ s.own = [] then s
 else if s.left - (if s.left < n then s.left else n) = 0 then { s with own:=[],left:=0 } else { s with left:=s.left - (if s.left < n then s.left else n) }
def keep (s : Sto) (st : Sf.St) : Sto × Int:=
 if (Sf.encode 2 st).2 ≠ 0 then (s,(Sf.encode 2 st).2)
 else if (Seal.enc s.key (IntKind.u64.wrap st.ser) (Sf.encode 2 st).1).2 ≠ 0 then (s,(Seal.enc s.key (IntKind.u64.wrap st.ser) (Sf.encode 2 st).1).2)
 else ({ s with latest:=st.ser,es:=lerase (IntKind.i64.wrap (st.ser - 64)) (lput st.ser (Seal.enc s.key (IntKind.u64.wrap st.ser) (Sf.encode 2 st).1).1 s.es),c:=mclock st.ser (strM s.es) s.c },0)
def write (s : Sto) (who : List UInt8) (st : Sf.St) : Sto × Int:=
 if s.holds who = false then (s,25) else if st.lin ≠ s.lin then (s,23) else if st.ser ≠ IntKind.i64.wrap (s.latest + 1) then (s,22) else s.keep st
def plain (s : Sto) (n : Int) : List UInt8 × Int:=match lfind n s.es with
 | none => ([],9)
 | some b => Seal.dec s.key b
end Sto
section
variable (s : Sto) (l : List Blk) (t : List (TypeId × Nat × Nat))
end
end AX
end Go.Proofs.YteklhoajalgehaaGreatDoor

namespace Go.Proofs.YteklhoajalgehaaGreatDoor
open Go.RowKit
namespace AX
section
variable (s : Sto) (l : List Blk) (t : List (TypeId × Nat × Nat))
end
end AX
end Go.Proofs.YteklhoajalgehaaGreatDoor

namespace Go.Proofs.YteklhoajalgehaaGreatDoor
open Go.RowKit
namespace AX
namespace Sto
def lo (s : Sto) : Int:=if 0 > s.latest - 63 then 0 else s.latest - 63
end Sto
def Sto.new (key lin : List UInt8) : Sto:=⟨key,lin,0,[],0,[],0⟩
end AX
end Go.Proofs.YteklhoajalgehaaGreatDoor

namespace Go.Proofs.YteklhoajalgehaaGreatDoor
open Go.RowKit
open Go.ChangeMaps (setBlock)
namespace AX
section
variable {P : Program} {G : World → Prop} {C0 : Ctx} {n : Nat}
end
end AX
end Go.Proofs.YteklhoajalgehaaGreatDoor

namespace Go.Proofs.YteklhoajalgehaaGreatDoor
open Go.RowKit
namespace AX
namespace Sto
end Sto
namespace Sto
def stX (n : Int) : Sf.St:=⟨[120],n,[],[],[]⟩
def w0 : Sto:=(Sto.new [107] [120]).keep (stX 0) |>.1
def w1 : Sto:=(w0.lock [97] 5).1
def w2 : Sto:=(w1.write [97] (stX 1)).1
def w3 : Sto:=w2.tick 2
end Sto
namespace Sto
end Sto
structure Act where
 kind : Int
 who : List UInt8
 n : Int
 st : Sf.St
 next : Bool
 key : List UInt8
def Act.cells (a : Act) : List A:=[.int .i64 a.kind,.str a.who,.int .i64 a.n,.str a.st.lin,.int .i64 a.st.ser,.sl 13 .no (a.st.insts.map Sf.Inst.cells),.sl 3 .no (a.st.pends.map Sf.Pend.cells),.sl 7 .no (a.st.outs.map Sf.Outp.cells),.bool a.next,.str a.key]
def Act.ok (a : Act) : Bool:=Sf.smallP 8 60 a.st && (decide (a.who.length ≤ 100) && decide (a.key.length ≤ 100))
end AX
end Go.Proofs.YteklhoajalgehaaGreatDoor
