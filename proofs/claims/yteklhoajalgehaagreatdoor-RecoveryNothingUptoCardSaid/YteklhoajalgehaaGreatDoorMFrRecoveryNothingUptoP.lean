/- Part of what the proof needs. -/
import Derived.Test.YteklhoajalgehaaGreatDoorMFrRecoveryNothingUptoF
import Derived.Test.YteklhoajalgehaaGreatDoorMFrRecoveryNothingUptoM
import Derived.Test.YteklhoajalgehaaGreatDoorMFrRecoveryNothingUptoN
import Derived.Test.YteklhoajalgehaaGreatDoorMFrRecoveryNothingUptoO
import Derived.Shelf.Slices.Clone
set_option maxHeartbeats 4000000
set_option linter.unusedSimpArgs false
set_option linter.unusedVariables false
set_option linter.unnecessarySimpa false
namespace Go.Proofs.YteklhoajalgehaaGreatDoor
open Go.RowKit
namespace AX
section
variable {P : Program} {G : World → Prop} {C : Ctx} {h : Hp}
def Fz1 (h : Hp) (x y : A) : Prop:=(x = y ∧ x.data = true) ∨ ∃ i W T rows,x = .bs i W rows.length ∧ h.b[i]? = some (.row T rows.flatten) ∧ y = .sl W .no rows ∧ (∀ r ∈ rows,r.length = W) ∧ rows.flatten.all A.data = true
def FzL (h : Hp) : List A → List A → Prop
 | [],[] => True
 | x :: l,y :: m => Fz1 h x y ∧ FzL h l m
 | _,_ => False
theorem FzL.data {h : Hp} : ∀ {l m : List A},FzL h l m → m.all A.data = true
 | [],[],_ => rfl
 | x :: l,y :: m,hf => by
  rw [List.all_cons,Bool.and_eq_true]
  refine ⟨?_,FzL.data hf.2⟩
  rcases hf.1 with ⟨rfl,hd⟩ | ⟨i,W,T,rows,_,_,rfl,_,_⟩
  ·exact hd
  ·rfl
 | [],_ :: _,hf => hf.elim
 | _ :: _,[],hf => hf.elim
theorem pcallz {f : FuncId} {args : List A} {ys : List A} (hc : ACall P G f args ⟨[],[]⟩ fun v h' => ∃ xs,v = .agg xs ∧ FzL h' xs ys) (ha : args.all A.pure = true) (h : Hp) : ACall P G f args h fun v h' => v = .agg ys ∧ h' = h:=by
 intro C cs hI hr
 have hid : Inv G C.hid ⟨[],[]⟩:=by
  refine ⟨rfl,fun i b hb => by simp at hb,fun i hi => by simp [Ctx.hid] at hi,fun g i hg => by simp [Ctx.hid] at hg,fun g j hs => ?_,fun t E W m ht => by simp [Ctx.hid] at ht,fun t t' ht => by simp [Ctx.hid] at ht,fun t => by simp [Ctx.hid],hI.base,hI.glob⟩
  exact ⟨(hI.prot g j hs).1,rfl,fun t E W m ht => by simp [Ctx.hid] at ht⟩
 refine (hc C.hid cs hid (RepL.pures (C:=C) (C':=C.hid) ⟨fun g j hs => ⟨hs,rfl⟩⟩ args cs ha hr)).mono ?_
 rintro e w' ⟨C1,h1,v,cv,rfl,rfl,I1,S1,r1,xs,rfl,hf⟩
 have hblk : ∀ g,g < C.w.heap.size → C1.w.heap[g]? = C.w.heap[g]?:=fun g hg => S1.frame g hg rfl fun t ht => by simp [Ctx.hid] at ht
 have hnew : ∀ g i,C1.own g = some i → C.w.heap.size ≤ g:=fun g i hg => by
  rcases Nat.lt_or_ge g C.w.heap.size with hlt | hge
  ·have:=S1.own g hlt
   rw [hg] at this
   simp [Ctx.hid] at this
  ·exact hge
 let C2 : Ctx:={ C with w:=C1.w,S:=fun g j => C1.S g j ∨ ((C1.own g).isSome = true),own:=fun g => if g < C.w.heap.size then C.own g else none }
 have hsz : C.w.heap.size ≤ C1.w.heap.size:=S1.size
 have he : Ext C C2:=by
  refine ⟨fun g j hs => ?_,Nat.le_refl _,fun _ _ => rfl,fun t E W m ht => ?_⟩
  ·obtain ⟨k1,k2⟩:=S1.ext.cells g j hs
   exact ⟨.inl k1,k2⟩
  ·obtain ⟨_,_,cap,h2,_⟩:=hI.rows t E W m ht
   exact ⟨m,ht,.inr ⟨rfl,rfl,fun cap hc => hc.same (hblk _ h2.lt)⟩⟩
 have hown : ∀ g i,C2.own g = some i ↔ C.own g = some i:=fun g i => by
  show (if g < C.w.heap.size then C.own g else none) = some i ↔ _
  split
  ·exact Iff.rfl
  ·next hg => exact ⟨fun e => (by cases e),fun e => absurd (hI.ownlt g i e).2.1 hg⟩
 have hprot : ∀ g j,C2.S g j → C.S g j ∨ C.w.heap.size ≤ g:=fun g j hs => by
  rcases hs with hs | hs
  ·rcases S1.prot g j hs with h2 | h2 | ⟨t,h2,_⟩
   ·exact .inl h2
   ·exact .inr h2
   ·simp [Ctx.hid] at h2
  ·obtain ⟨i,hi⟩:=Option.isSome_iff_exists.1 hs
   exact .inr (hnew g i hi)
 have hSlt : ∀ g j,C2.S g j → g < C1.w.heap.size:=fun g j hs => by
  rcases hs with hs | hs
  ·exact (I1.prot g j hs).1
  ·obtain ⟨i,hi⟩:=Option.isSome_iff_exists.1 hs
   exact (I1.ownlt g i hi).2.1
 have hsame : Same C1 C2:=⟨fun g j hs => ⟨.inl hs,rfl⟩⟩
 have frz : ∀ (xs ys : List A) (vs : List Value),FzL h1 xs ys → RepL C1 xs vs → RepL C2 ys vs:=by
  intro xs
  induction xs with
  | nil =>
   intro ys vs hf hr
   cases ys with
   | nil => exact hr
   | cons y ys => exact hf.elim
  | cons x xs ih =>
   intro ys vs hf hr
   cases ys with
   | nil => exact hf.elim
   | cons y ys =>
    obtain ⟨c,cs',rfl,k1,k2⟩:=repL_cons.1 hr
    refine repL_cons.2 ⟨c,cs',rfl,?_,ih ys cs' hf.2 k2⟩
    rcases hf.1 with ⟨rfl,hd⟩ | ⟨i,W,T,rows,rfl,hb,rfl,hW,hd⟩
    ·exact Rep.same hsame _ _ hd k1
    ·obtain ⟨cap,rfl,hcap,hi⟩:=rep_bs.1 k1
     obtain ⟨ds,rest,q1,q2⟩:=I1.box i _ hb
     have hsd : (C1.own (C1.κ i)).isSome = true:=by rw [I1.ownk i hi]; rfl
     have hdd : ∀ (l : List A) (ds : List Value),l.all A.data = true → RepL C1 l ds → RepL C2 l ds:=fun l ds hd hr => RepL.same hsame l ds hd hr
     refine rep_sl.2 ⟨_,cap,rfl,hcap,repRows_of rows ds 0 hW hd (hdd _ _ hd q2) (fun j _ => .inr hsd) (fun j u hu => ?_),trivial⟩
     have q1' : C2.w.heap[C1.κ i]? = some (.cells (ds ++ rest).toArray T (0,0)):=q1
     rw [cell_of_row _ _ _ _ _ _ q1']
     have hj : j < ds.length:=(List.getElem?_eq_some_iff.1 hu).1
     simp only [List.getElem?_toArray]
     rw [show 0 + 0 * W + j = j by omega,List.getElem?_append_left hj]
     exact hu
 refine ⟨C2,h,.agg ys,cv,rfl,rfl,⟨hI.nb,fun i b hib => ?_,fun i hi => (hown _ _).2 (hI.ownk i hi),fun g i hg => ?_,fun g j hs => ?_,fun t E W m ht => ?_,hI.inj,hI.toks,Nat.le_trans hI.base hsz,fun w2 hw => ?_⟩,⟨he,S1.os,S1.tape,S1.output,hsz,rfl,fun g hg _ _ => hblk g hg,fun g hg => ?_,fun g j hs => ?_,fun t ht => .inr ⟨ht,rfl⟩⟩,?_,rfl,rfl⟩
 ·have hi : i < C.nb:=by rw [← hI.nb]; exact (List.getElem?_eq_some_iff.1 hib).1
  exact (hI.box i b hib).ext he hi (hI.ownk i hi) (fun g j hg => (hI.ownlt g j hg).2.1) (fun g hg => hblk g (hI.ownlt g i hg).2.1) (fun g => hown g i) hsz
 ·obtain ⟨k1,k2,k3⟩:=hI.ownlt g i ((hown g i).1 hg)
  exact ⟨k1,Nat.lt_of_lt_of_le k2 hsz,k3⟩
 ·have hlt:=hSlt g j hs
  rcases hprot g j hs with h2 | h2
  ·obtain ⟨k1,k2,k3⟩:=hI.prot g j h2
   exact ⟨hlt,by show (if g < C.w.heap.size then C.own g else none) = none; rw [if_pos k1,k2],k3⟩
  ·refine ⟨hlt,by show (if g < C.w.heap.size then C.own g else none) = none; rw [if_neg (by omega)],fun t E W m ht e => ?_⟩
   obtain ⟨_,_,cap,k1,_⟩:=hI.rows t E W m ht
   have:=k1.lt
   have e' : C.τ t = g:=e
   omega
 ·obtain ⟨k1,k2,cap,k3,k4⟩:=hI.rows t E W m ht
  exact ⟨by show (if C.τ t < C.w.heap.size then C.own (C.τ t) else none) = none; rw [if_pos k3.lt,k1],k2,cap,k3.same (hblk _ k3.lt),k4⟩
 ·exact hI.glob w2 fun g hg => (hw g hg).trans (hblk g (Nat.lt_of_lt_of_le hg hI.base))
 ·show (if g < C.w.heap.size then C.own g else none) = C.own g
  rw [if_pos hg]
 ·rcases hprot g j hs with h2 | h2
  ·exact .inl h2
  ·exact .inr (.inl h2)
 ·obtain ⟨vs,rfl,hl⟩:=rep_agg.1 r1
  exact rep_agg.2 ⟨vs,rfl,frz xs ys vs hf hl⟩
end
end AX
end Go.Proofs.YteklhoajalgehaaGreatDoor

namespace Go.Proofs.YteklhoajalgehaaGreatDoor
open Go.RowKit
set_option maxRecDepth 100000 in
theorem clone_steps (b off n c : Nat) (news : List Value) (w : World) (hl : news.length = n * 4) (hn : 0 < n) (hbig : n * 48 ≤ 140737488355328) (hmax : n ≤ maxLen) (hc : ∀ j v,news[j]? = some v → w.cell? ((⟨b,off,none⟩ : Addr).add j) = some v) (h1 : ∀ u ∈ news,u.oneCell' = true) :
  Calls Tryz.prog 309 #[.slice (some ⟨b,off,none⟩) n c] w fun e w' => ∃ v',e = .returned v' ∧ w'.ownsRow w.heap.size 273 4 v' n news ∧ Below w.heap.size w w':=by
 obtain ⟨i0,hi,hz0,hz1,hz2⟩:=info_parts (show (Tryz.prog.info? 273).map (fun i => (i.zero,i.size,i.bytes)) = some (some (.agg #[.string ⟨#[]⟩,.int .i64 0,.int .i64 0,.string ⟨#[]⟩]),4,48) by kernel_rfl)
 have q22 : ∀ (w : World) (a : Option Addr) (n c n' c' : Nat),(binOp .eql 219 (.slice a n c) (.slice none n' c')).run Tryz.prog w = .ok (.bool a.isNone) w:=fun w a n c n' c' => Lib.run_eql_slice_nil w _ _ a n c n' c' Tryz.underlying219
 have u22 : ∀ w,Sem.run Tryz.prog (underlying 219) w = .ok (TypeDesc.slice 273) w:=run_underlying Tryz.underlying219
 have HC:=kept hc
 have H1:=kept h1
 clear hc h1
 go_enter Tryz.func309,Tryz.ntmps309
 go_wp2_with (at_builtin; refine wpList_append_own _ rfl _ _ 219 rfl w.heap.size 273 i0 (.agg #[.string ⟨#[]⟩,.int .i64 0,.int .i64 0,.string ⟨#[]⟩]) 4 48 Tryz.underlying219 hi hz0 hz1 hz2 rfl (by decide) _ _ _ rfl (World.ownsRow_made w #[] 0 (Nat.le_refl _) (Nat.zero_le _) rfl) ⟨b,off,none⟩ n c news rfl ?qc1 ?qc2 ?qc3 ?qc4 ?qc5 ?qc6 ?_)
 case qc1 => exact hl
 case qc2 =>
  intro j u hj
  have:=HC.out j u hj
  rw [Addr.add_lit] at this ⊢
  exact Lib.cell?_alloc_some _ this
 case qc3 => exact H1.out
 case qc4 => omega
 case qc5 => omega
 case qc6 => simp
 intro v' w1 hown hgrow hnil
 have Hb:=kept (((Below.refl _ w).alloc (Nat.le_refl _) (.cells #[] 273)).grown hgrow (by simp) (by intro k hk; simp [Value.ownBlock] at hk; omega))
 have Ho:=kept (show w1.ownsRow w.heap.size 273 4 v' n news by simpa using hown)
 clear hown hgrow hnil HC H1
 go_wp2
 go_ret
 exact ⟨v',rfl,Ho.out,Hb.out⟩
theorem clone_steps0 (a : Option Addr) (c : Nat) (w : World) :
  Calls Tryz.prog 309 #[.slice a 0 c] w fun e w' => (∃ a' c',e = .returned (.slice a' 0 c')) ∧ Below w.heap.size w w':=by
 have q22 : ∀ (w : World) (a : Option Addr) (n c n' c' : Nat),(binOp .eql 219 (.slice a n c) (.slice none n' c')).run Tryz.prog w = .ok (.bool a.isNone) w:=fun w a n c n' c' => Lib.run_eql_slice_nil w _ _ a n c n' c' Tryz.underlying219
 have u22 : ∀ w,Sem.run Tryz.prog (underlying 219) w = .ok (TypeDesc.slice 273) w:=run_underlying Tryz.underlying219
 cases a with
 | none =>
  go_enter Tryz.func309,Tryz.ntmps309
  go_wp2
  go_ret
  exact ⟨⟨_,_,rfl⟩,Below.refl _ _⟩
 | some ad =>
  obtain ⟨i0,hi,hz0,hz1,hz2⟩:=info_parts (show (Tryz.prog.info? 273).map (fun i => (i.zero,i.size,i.bytes)) = some (some (.agg #[.string ⟨#[]⟩,.int .i64 0,.int .i64 0,.string ⟨#[]⟩]),4,48) by kernel_rfl)
  go_enter Tryz.func309,Tryz.ntmps309
  go_wp2_with (at_builtin; refine wpList_append_own _ rfl _ _ 219 rfl w.heap.size 273 i0 (.agg #[.string ⟨#[]⟩,.int .i64 0,.int .i64 0,.string ⟨#[]⟩]) 4 48 Tryz.underlying219 hi hz0 hz1 hz2 rfl (by decide) _ _ _ rfl (World.ownsRow_made w #[] 0 (Nat.le_refl _) (Nat.zero_le _) rfl) ad 0 c [] rfl rfl (by intro j u hj; simp at hj) (by intro u hu; cases hu) (by unfold maxLen; omega) (by omega) (by simp) ?_)
  intro v' w1 hown hgrow hnil
  have Hb:=kept (((Below.refl _ w).alloc (Nat.le_refl _) (.cells #[] 273)).grown hgrow (by simp) (by intro k hk; simp [Value.ownBlock] at hk; omega))
  have Hv : ∃ a' c',v' = .slice a' 0 c':=by
   rcases hown.2 with ⟨rfl,_⟩ | ⟨g,cap,cur,rfl,_⟩
   ·exact ⟨_,_,rfl⟩
   ·exact ⟨_,_,rfl⟩
  obtain ⟨a',c',rfl⟩:=Hv
  clear hown hgrow hnil
  go_wp2
  go_ret
  exact ⟨⟨_,_,rfl⟩,Hb.out⟩
namespace AX
theorem a_clone_steps0 (W0 : Nat) (o : Own) (h : Hp) : ACall Tryz.prog GT 309 [.sl W0 o []] h fun v h' => v = .sl 4 .no [] ∧ h' = h:=by
 intro C es hI ha
 obtain ⟨c,es',rfl,h1,h2⟩:=repL_cons.1 ha
 rw [repL_nil] at h2; subst h2
 obtain ⟨a,cap,rfl,_,_,_⟩:=rep_sl.1 h1
 refine (clone_steps0 a cap C.w).mono ?_
 rintro e w' ⟨⟨a',c',rfl⟩,hb⟩
 obtain ⟨i1,s1⟩:=inv_below hI hb
 exact ⟨C.at w',h,.sl 4 .no [],_,rfl,rfl,i1,s1,rep_sl.2 ⟨a',c',rfl,Nat.zero_le _,by unfold RepRows; trivial,trivial⟩,rfl,rfl⟩
theorem a_clone_steps (o : Own) (rows : List (List A)) (h0 : rows ≠ []) (hbig : rows.length * 48 ≤ 140737488355328) (hmax : rows.length ≤ maxLen) (h : Hp) :
  ACall Tryz.prog GT 309 [.sl 4 o rows] h fun v h' => v = .bs h.b.length 4 rows.length ∧ h' = ⟨h.b ++ [.row 273 rows.flatten],h.t⟩:=by
 intro C es hI ha
 obtain ⟨c,es',rfl,h1,h2⟩:=repL_cons.1 ha
 rw [repL_nil] at h2; subst h2
 have hpos : 0 < rows.length:=List.length_pos_iff.2 h0
 obtain ⟨g,off,cap,cs,rfl,k1,k2,k3,k4,k5⟩:=sl_open h1 hpos
 refine (clone_steps g off rows.length cap cs C.w k2 hpos hbig hmax k5 (repL_one k1 (data_one k3))).mono ?_
 rintro e w' ⟨v',rfl,hown,hb⟩
 rcases hown.2 with ⟨_,hz⟩ | ⟨g',cap',cur,rfl,hg,hh,hcap,_,hcs,htake⟩
 ·omega
 ·have hcur : cur = (cs ++ cur.toList.drop (rows.length * 4)).toArray:=by
   apply Array.toList_inj.1
   rw [← htake]
   simp
  rw [hcur] at hh
  obtain ⟨C',m1,m2,m3,m4,m5⟩:=new_row hI hb hg hh k1
  exact ⟨C',_,.bs h.b.length 4 rows.length,_,rfl,m1,m2,m3,rep_bs.2 ⟨cap',by rw [m4],hcap,m5⟩,rfl,rfl⟩
end AX
namespace AX
theorem setCells_eq : ∀ (xs l : List A) (off : Nat),off + xs.length ≤ l.length → setCells l off xs = l.take off ++ xs ++ l.drop (off + xs.length):=by
 intro xs
 induction xs with
 | nil => intro l off _; simp [setCells]
 | cons x xs ih =>
  intro l off hlt
  rw [List.length_cons] at hlt
  rw [setCells,ih _ _ (by simp; omega),List.take_add_one,List.getElem?_set_self (by omega),List.take_set_of_le (Nat.le_refl _),List.drop_set_of_lt (by omega)]
  simp [show off + 1 + xs.length = off + (xs.length + 1) by omega]
def bareS (s : Adr.Step) : Adr.Step:=⟨s.name,Adr.K.none⟩
def barL (mods : List Adr.Step) (j : Nat) : List A:=(((mods.take j).map bareS).map Adr.Step.cells).flatten ++ ((mods.drop j).map Adr.Step.cells).flatten
theorem cells_len (l : List Adr.Step) : ((l.map Adr.Step.cells).flatten).length = l.length * 4:=by
 induction l with
 | nil => rfl
 | cons x l ih => rw [List.map_cons,List.flatten_cons,List.length_append,ih]; simp [Adr.Step.cells]; omega
theorem barL_len (mods : List Adr.Step) (j : Nat) (hj : j ≤ mods.length) : (barL mods j).length = mods.length * 4:=by
 unfold barL
 rw [List.length_append,cells_len,cells_len,List.length_map,List.length_take,List.length_drop,← Nat.add_mul]
 congr 1; omega
theorem barL_set (mods : List Adr.Step) (j : Nat) (hj : j < mods.length) : setCells (barL mods j) (j * 4 + 1) [.int .i64 0,.int .i64 0,.str []] = barL mods (j + 1):=by
 rw [setCells_eq _ _ _ (by rw [barL_len _ _ (by omega)]; simp; omega)]
 have hp : ((((mods.take j).map bareS).map Adr.Step.cells).flatten).length = j * 4:=by
  rw [cells_len,List.length_map,List.length_take]; congr 1; omega
 have hd : mods.drop j = mods[j] :: mods.drop (j + 1):=List.drop_eq_getElem_cons hj
 have ht : mods.take (j + 1) = mods.take j ++ [mods[j]]:=by rw [List.take_succ_eq_append_getElem hj]
 unfold barL
 rw [hd,ht,List.map_append,List.map_append,List.flatten_append]
 generalize (((mods.take j).map bareS).map Adr.Step.cells).flatten = p at hp
 obtain ⟨nm,⟨kd,kn,ks⟩⟩:=mods[j]
 simp only [List.map_cons,List.flatten_cons,Adr.Step.cells,List.cons_append,List.nil_append,List.length_cons,List.length_nil]
 generalize ((mods.drop (j + 1)).map Adr.Step.cells).flatten = q
 rw [List.take_append,List.take_of_length_le (by omega),List.drop_append,List.drop_of_length_le (by omega),hp]
 rw [show j * 4 + 1 - j * 4 = 1 by omega,show j * 4 + 1 + (0 + 1 + 1 + 1) - j * 4 = 4 by omega]
 simp [bareS,Adr.K.none,Adr.Step.cells]
def c_astatic : AX.AFn:=⟨26,aS [aR 1 (.box 224 (.t 0)),aR 2 (.alloc 224 [.sl 0 .nil [],.bool false,.str [],.str [],.int .i64 0,.int .i64 0,.str []])] (aS [aR 5 (.load true 7 (.t 1)),aR 3 (.alloc 224 [.sl 0 .nil [],.bool false,.str [],.str [],.int .i64 0,.int .i64 0,.str []]),aU (.store 7 (.t 3) (.t 5))] (aS [aR 6 (.build [.int .i64 0,.int .i64 0,.str []] []),aF 7 4 3,aU (.store 3 (.t 7) (.t 6))] (aS [aF 8 0 1,aL 9 8,aR 10 (.call 309 [.t 9]),aF 11 0 3,aU (.store 1 (.t 11) (.t 10))] (.seq (aS [aF 12 0 3,aL 13 12,aR 14 (.len false (.t 13)),aR 15 (.mv (aI 0))] (.block 0 (.loop (aS [aR 16 (.bin .lss (.t 15) (.t 14))] (.seq (.cond (.t 16) (.skip) (.exit 0)) (.seq (.block 1 (aS [aM 17 15,aM 4 17] (.reg false [aF 18 0 3,aL 19 18,aM 20 4,aR 21 (.build [.int .i64 0,.int .i64 0,.str []] []),aR 22 (.iaddr 4 (.t 19) (.t 20)),aF 23 1 22,aU (.store 3 (.t 23) (.t 21))]))) (.reg false [aR 24 (.bin .add (.t 15) (aI 1)),aM 15 24]))))))) (aS [aR 25 (.load true 7 (.t 3)),aU (.store 7 (.t 2) (.t 25))] (.ret)))))),[.c 2 true 7]⟩
theorem h_astatic : AX.compFn Tryz.prog 281 = some c_astatic:=by kernel_rfl
theorem a_static0 (a : Adr.Ad) (hn : a.mods.length ≤ 3000000) (h : Hp) : ACall Tryz.prog GT 281 [.agg a.cells] h fun v h' => v = .agg (Adr.bare a).cells ∧ h' = h:=by
 obtain ⟨mods,data,ty,nm,⟨kk,kn,ks⟩⟩:=a
 dsimp only at hn
 have hbc : (Adr.bare ⟨mods,data,ty,nm,⟨kk,kn,ks⟩⟩).cells = [.sl 4 .no ((mods.map fun s => (⟨s.name,Adr.K.none⟩ : Adr.Step)).map Adr.Step.cells),.bool data,.str ty,.str nm,.int .i64 0,.int .i64 0,.str []]:=rfl
 rw [hbc]
 refine pcallz ?_ (by simp [A.pure,A.data,Adr.Ad.cells]) h
 refine acall_of mixedT h_astatic (by simp [c_astatic]) ?_
 dsimp only [c_astatic,Adr.Ad.cells]
 by_cases hm : mods = []
 ·subst hm
  have hc:=fun h => a_clone_steps0 4 .no h
  have hz : ¬ (0 : Int) < ((0 : Nat) : Int):=by decide
  simp only [List.map_nil]
  refine run0 ti ?_
  refine use (hc _) ?_
  refine run0 ti ?_
  refine go_once ?_
  refine run0 hz ?_
  exact ⟨_,le_refl _,_,rfl,⟨.inl ⟨rfl,rfl⟩,.inl ⟨rfl,rfl⟩,.inl ⟨rfl,rfl⟩,.inl ⟨rfl,rfl⟩,.inl ⟨rfl,rfl⟩,.inl ⟨rfl,rfl⟩,.inl ⟨rfl,rfl⟩,trivial⟩⟩
 ·have hrne : mods.map Adr.Step.cells ≠ []:=by simpa using hm
  have lm : (mods.map Adr.Step.cells).length = mods.length:=List.length_map ..
  have hc:=fun h => a_clone_steps .no (mods.map Adr.Step.cells) hrne (by rw [lm]; omega) (by rw [lm]; unfold maxLen; omega) h
  rw [lm] at hc
  refine run0 ti ?_
  refine use (hc _) ?_
  refine run0 ti ?_
  have hL0 : (mods.map Adr.Step.cells).flatten = barL mods 0:=by unfold barL; simp
  rw [hL0]
  refine awp_loop (fun mm ts h => ∃ (j : Nat) (B0 : Blk),mm = mods.length - j ∧ j ≤ mods.length ∧ h = ⟨[B0,.cells 224 [.sl 0 .nil [],.bool false,.str [],.str [],.int .i64 0,.int .i64 0,.str []],.cells 224 [.bs 3 4 mods.length,.bool data,.str ty,.str nm,.int .i64 0,.int .i64 0,.str []],.row 273 (barL mods j)],[]⟩ ∧ ts 2 = .ptr 1 0 ∧ ts 3 = .ptr 2 0 ∧ ts 14 = .int .i64 (mods.length : Nat) ∧ ts 15 = .int .i64 (j : Nat)) mods.length ?_ ?_
  ·exact ⟨0,_,by omega,by omega,rfl,by (exact ev0 ti),by (exact ev0 ti),by (exact ev0 ti),by (exact inv0 ti)⟩
  rintro mm ts h ⟨j,B0,rfl,hjc,rfl,t2,t3,t14,t15⟩
  by_cases hj : j < mods.length
  ·have hlt : (j : Int) < (mods.length : Int):=by omega
   have hj0 : (0 : Int) ≤ (j : Int):=by omega
   have ei : IntKind.i64.wrap ((j : Int) + 1) = ((j + 1 : Nat) : Int):=by rw [wrap64 (by omega) (by omega)]; omega
   have hset:=barL_set mods j hj
   have hln : j * 4 + 1 + 3 ≤ (barL mods j).length:=by rw [barL_len _ _ (by omega)]; omega
   simp only [setCells] at hset
   refine run0 (ai t2 (ai t3 (ai t14 (ai t15 (ai hlt (ai hj0 (ai hln (ai hset ei)))))))) ?_
   exact ⟨mods.length - (j + 1),by omega,j + 1,B0,rfl,by omega,rfl,by (exact ev0 t2),by (exact ev0 t3),by (exact ev0 t14),by (exact ev0 ei)⟩
  ·have hlt : ¬ ((j : Int) < (mods.length : Int)):=by omega
   have hje : j = mods.length:=by omega
   subst hje
   refine run0 (ai t2 (ai t3 (ai t14 (ai t15 hlt)))) ?_
   refine ⟨_,le_refl _,_,rfl,⟨.inr ⟨3,4,273,(mods.map bareS).map Adr.Step.cells,by simp,?_,rfl,?_,?_⟩,.inl ⟨rfl,rfl⟩,.inl ⟨rfl,rfl⟩,.inl ⟨rfl,rfl⟩,.inl ⟨rfl,rfl⟩,.inl ⟨rfl,rfl⟩,.inl ⟨rfl,rfl⟩,trivial⟩⟩
   ·show some (Blk.row _ _) = some _
    congr 2
    unfold barL
    simp
   ·intro r hr
    obtain ⟨s,_,rfl⟩:=List.mem_map.1 hr
    rfl
   ·rw [List.all_flatten,List.all_eq_true]
    intro r hr
    obtain ⟨s,_,rfl⟩:=List.mem_map.1 hr
    rfl
section
variable {P : Program} {G : World → Prop} {C : Ctx} {h : Hp}
inductive FzV (h : Hp) : A → A → Prop
 | one {x y : A} (e : Fz1 h x y) : FzV h x y
 | agg {xs ys : List A} (e : FzL h xs ys) : FzV h (.agg xs) (.agg ys)
theorem pcallv {f : FuncId} {args : List A} {y : A} (hc : ACall P G f args ⟨[],[]⟩ fun v h' => FzV h' v y) (ha : args.all A.pure = true) (h : Hp) : ACall P G f args h fun v h' => v = y ∧ h' = h:=by
 intro C cs hI hr
 have hid : Inv G C.hid ⟨[],[]⟩:=by
  refine ⟨rfl,fun i b hb => by simp at hb,fun i hi => by simp [Ctx.hid] at hi,fun g i hg => by simp [Ctx.hid] at hg,fun g j hs => ?_,fun t E W m ht => by simp [Ctx.hid] at ht,fun t t' ht => by simp [Ctx.hid] at ht,fun t => by simp [Ctx.hid],hI.base,hI.glob⟩
  exact ⟨(hI.prot g j hs).1,rfl,fun t E W m ht => by simp [Ctx.hid] at ht⟩
 refine (hc C.hid cs hid (RepL.pures (C:=C) (C':=C.hid) ⟨fun g j hs => ⟨hs,rfl⟩⟩ args cs ha hr)).mono ?_
 rintro e w' ⟨C1,h1,v,cv,rfl,rfl,I1,S1,r1,hf⟩
 have hblk : ∀ g,g < C.w.heap.size → C1.w.heap[g]? = C.w.heap[g]?:=fun g hg => S1.frame g hg rfl fun t ht => by simp [Ctx.hid] at ht
 have hnew : ∀ g i,C1.own g = some i → C.w.heap.size ≤ g:=fun g i hg => by
  rcases Nat.lt_or_ge g C.w.heap.size with hlt | hge
  ·have:=S1.own g hlt
   rw [hg] at this
   simp [Ctx.hid] at this
  ·exact hge
 let C2 : Ctx:={ C with w:=C1.w,S:=fun g j => C1.S g j ∨ ((C1.own g).isSome = true),own:=fun g => if g < C.w.heap.size then C.own g else none }
 have hsz : C.w.heap.size ≤ C1.w.heap.size:=S1.size
 have he : Ext C C2:=by
  refine ⟨fun g j hs => ?_,Nat.le_refl _,fun _ _ => rfl,fun t E W m ht => ?_⟩
  ·obtain ⟨k1,k2⟩:=S1.ext.cells g j hs
   exact ⟨.inl k1,k2⟩
  ·obtain ⟨_,_,cap,h2,_⟩:=hI.rows t E W m ht
   exact ⟨m,ht,.inr ⟨rfl,rfl,fun cap hc => hc.same (hblk _ h2.lt)⟩⟩
 have hown : ∀ g i,C2.own g = some i ↔ C.own g = some i:=fun g i => by
  show (if g < C.w.heap.size then C.own g else none) = some i ↔ _
  split
  ·exact Iff.rfl
  ·next hg => exact ⟨fun e => (by cases e),fun e => absurd (hI.ownlt g i e).2.1 hg⟩
 have hprot : ∀ g j,C2.S g j → C.S g j ∨ C.w.heap.size ≤ g:=fun g j hs => by
  rcases hs with hs | hs
  ·rcases S1.prot g j hs with h2 | h2 | ⟨t,h2,_⟩
   ·exact .inl h2
   ·exact .inr h2
   ·simp [Ctx.hid] at h2
  ·obtain ⟨i,hi⟩:=Option.isSome_iff_exists.1 hs
   exact .inr (hnew g i hi)
 have hSlt : ∀ g j,C2.S g j → g < C1.w.heap.size:=fun g j hs => by
  rcases hs with hs | hs
  ·exact (I1.prot g j hs).1
  ·obtain ⟨i,hi⟩:=Option.isSome_iff_exists.1 hs
   exact (I1.ownlt g i hi).2.1
 have hsame : Same C1 C2:=⟨fun g j hs => ⟨.inl hs,rfl⟩⟩
 have frz : ∀ (xs ys : List A) (vs : List Value),FzL h1 xs ys → RepL C1 xs vs → RepL C2 ys vs:=by
  intro xs
  induction xs with
  | nil =>
   intro ys vs hf hr
   cases ys with
   | nil => exact hr
   | cons y ys => exact hf.elim
  | cons x xs ih =>
   intro ys vs hf hr
   cases ys with
   | nil => exact hf.elim
   | cons y ys =>
    obtain ⟨c,cs',rfl,k1,k2⟩:=repL_cons.1 hr
    refine repL_cons.2 ⟨c,cs',rfl,?_,ih ys cs' hf.2 k2⟩
    rcases hf.1 with ⟨rfl,hd⟩ | ⟨i,W,T,rows,rfl,hb,rfl,hW,hd⟩
    ·exact Rep.same hsame _ _ hd k1
    ·obtain ⟨cap,rfl,hcap,hi⟩:=rep_bs.1 k1
     obtain ⟨ds,rest,q1,q2⟩:=I1.box i _ hb
     have hsd : (C1.own (C1.κ i)).isSome = true:=by rw [I1.ownk i hi]; rfl
     have hdd : ∀ (l : List A) (ds : List Value),l.all A.data = true → RepL C1 l ds → RepL C2 l ds:=fun l ds hd hr => RepL.same hsame l ds hd hr
     refine rep_sl.2 ⟨_,cap,rfl,hcap,repRows_of rows ds 0 hW hd (hdd _ _ hd q2) (fun j _ => .inr hsd) (fun j u hu => ?_),trivial⟩
     have q1' : C2.w.heap[C1.κ i]? = some (.cells (ds ++ rest).toArray T (0,0)):=q1
     rw [cell_of_row _ _ _ _ _ _ q1']
     have hj : j < ds.length:=(List.getElem?_eq_some_iff.1 hu).1
     simp only [List.getElem?_toArray]
     rw [show 0 + 0 * W + j = j by omega,List.getElem?_append_left hj]
     exact hu
 refine ⟨C2,h,y,cv,rfl,rfl,⟨hI.nb,fun i b hib => ?_,fun i hi => (hown _ _).2 (hI.ownk i hi),fun g i hg => ?_,fun g j hs => ?_,fun t E W m ht => ?_,hI.inj,hI.toks,Nat.le_trans hI.base hsz,fun w2 hw => ?_⟩,⟨he,S1.os,S1.tape,S1.output,hsz,rfl,fun g hg _ _ => hblk g hg,fun g hg => ?_,fun g j hs => ?_,fun t ht => .inr ⟨ht,rfl⟩⟩,?_,rfl,rfl⟩
 ·have hi : i < C.nb:=by rw [← hI.nb]; exact (List.getElem?_eq_some_iff.1 hib).1
  exact (hI.box i b hib).ext he hi (hI.ownk i hi) (fun g j hg => (hI.ownlt g j hg).2.1) (fun g hg => hblk g (hI.ownlt g i hg).2.1) (fun g => hown g i) hsz
 ·obtain ⟨k1,k2,k3⟩:=hI.ownlt g i ((hown g i).1 hg)
  exact ⟨k1,Nat.lt_of_lt_of_le k2 hsz,k3⟩
 ·have hlt:=hSlt g j hs
  rcases hprot g j hs with h2 | h2
  ·obtain ⟨k1,k2,k3⟩:=hI.prot g j h2
   exact ⟨hlt,by show (if g < C.w.heap.size then C.own g else none) = none; rw [if_pos k1,k2],k3⟩
  ·refine ⟨hlt,by show (if g < C.w.heap.size then C.own g else none) = none; rw [if_neg (by omega)],fun t E W m ht e => ?_⟩
   obtain ⟨_,_,cap,k1,_⟩:=hI.rows t E W m ht
   have:=k1.lt
   have e' : C.τ t = g:=e
   omega
 ·obtain ⟨k1,k2,cap,k3,k4⟩:=hI.rows t E W m ht
  exact ⟨by show (if C.τ t < C.w.heap.size then C.own (C.τ t) else none) = none; rw [if_pos k3.lt,k1],k2,cap,k3.same (hblk _ k3.lt),k4⟩
 ·exact hI.glob w2 fun g hg => (hw g hg).trans (hblk g (Nat.lt_of_lt_of_le hg hI.base))
 ·show (if g < C.w.heap.size then C.own g else none) = C.own g
  rw [if_pos hg]
 ·rcases hprot g j hs with h2 | h2
  ·exact .inl h2
  ·exact .inr (.inl h2)
 ·cases hf with
  | one hf =>
   have:=frz [v] [y] [cv] ⟨hf,trivial⟩ (repL_cons.2 ⟨_,_,rfl,r1,repL_nil.2 rfl⟩)
   obtain ⟨c,cs,e,k,_⟩:=repL_cons.1 this
   injection e with e; subst e
   exact k
  | agg hf =>
   obtain ⟨vs,rfl,hl⟩:=rep_agg.1 r1
   exact rep_agg.2 ⟨vs,rfl,frz _ _ vs hf hl⟩
end
end AX
set_option maxRecDepth 100000 in
theorem clone_strs (b off n c : Nat) (news : List Value) (w : World) (hl : news.length = n * 1) (hn : 0 < n) (hbig : n * 16 ≤ 140737488355328) (hmax : n ≤ maxLen) (hc : ∀ j v,news[j]? = some v → w.cell? ((⟨b,off,none⟩ : Addr).add j) = some v) (h1 : ∀ u ∈ news,u.oneCell' = true) :
  Calls Tryz.prog 195 #[.slice (some ⟨b,off,none⟩) n c] w fun e w' => ∃ v',e = .returned v' ∧ w'.ownsRow w.heap.size 9 1 v' n news ∧ Below w.heap.size w w':=by
 obtain ⟨i0,hi,hz0,hz1,hz2⟩:=info_parts (show (Tryz.prog.info? 9).map (fun i => (i.zero,i.size,i.bytes)) = some (some (.string ⟨#[]⟩),1,16) by kernel_rfl)
 have q22 : ∀ (w : World) (a : Option Addr) (n c n' c' : Nat),(binOp .eql 30 (.slice a n c) (.slice none n' c')).run Tryz.prog w = .ok (.bool a.isNone) w:=fun w a n c n' c' => Lib.run_eql_slice_nil w _ _ a n c n' c' Tryz.underlying30
 have u22 : ∀ w,Sem.run Tryz.prog (underlying 30) w = .ok (TypeDesc.slice 9) w:=run_underlying Tryz.underlying30
 have HC:=kept hc
 have H1:=kept h1
 clear hc h1
 go_enter Tryz.func195,Tryz.ntmps195
 go_wp2_with (at_builtin; refine wpList_append_own _ rfl _ _ 30 rfl w.heap.size 9 i0 (.string ⟨#[]⟩) 1 16 Tryz.underlying30 hi hz0 hz1 hz2 rfl (by decide) _ _ _ rfl (World.ownsRow_made w #[] 0 (Nat.le_refl _) (Nat.zero_le _) rfl) ⟨b,off,none⟩ n c news rfl ?qc1 ?qc2 ?qc3 ?qc4 ?qc5 ?qc6 ?_)
 case qc1 => exact hl
 case qc2 =>
  intro j u hj
  have:=HC.out j u hj
  rw [Addr.add_lit] at this ⊢
  exact Lib.cell?_alloc_some _ this
 case qc3 => exact H1.out
 case qc4 => omega
 case qc5 => omega
 case qc6 => simp
 intro v' w1 hown hgrow hnil
 have Hb:=kept (((Below.refl _ w).alloc (Nat.le_refl _) (.cells #[] 9)).grown hgrow (by simp) (by intro k hk; simp [Value.ownBlock] at hk; omega))
 have Ho:=kept (show w1.ownsRow w.heap.size 9 1 v' n news by simpa using hown)
 clear hown hgrow hnil HC H1
 go_wp2
 go_ret
 exact ⟨v',rfl,Ho.out,Hb.out⟩
theorem clone_strs0 (a : Option Addr) (c : Nat) (w : World) :
  Calls Tryz.prog 195 #[.slice a 0 c] w fun e w' => (∃ a' c',e = .returned (.slice a' 0 c')) ∧ Below w.heap.size w w':=by
 have q22 : ∀ (w : World) (a : Option Addr) (n c n' c' : Nat),(binOp .eql 30 (.slice a n c) (.slice none n' c')).run Tryz.prog w = .ok (.bool a.isNone) w:=fun w a n c n' c' => Lib.run_eql_slice_nil w _ _ a n c n' c' Tryz.underlying30
 have u22 : ∀ w,Sem.run Tryz.prog (underlying 30) w = .ok (TypeDesc.slice 9) w:=run_underlying Tryz.underlying30
 cases a with
 | none =>
  go_enter Tryz.func195,Tryz.ntmps195
  go_wp2
  go_ret
  exact ⟨⟨_,_,rfl⟩,Below.refl _ _⟩
 | some ad =>
  obtain ⟨i0,hi,hz0,hz1,hz2⟩:=info_parts (show (Tryz.prog.info? 9).map (fun i => (i.zero,i.size,i.bytes)) = some (some (.string ⟨#[]⟩),1,16) by kernel_rfl)
  go_enter Tryz.func195,Tryz.ntmps195
  go_wp2_with (at_builtin; refine wpList_append_own _ rfl _ _ 30 rfl w.heap.size 9 i0 (.string ⟨#[]⟩) 1 16 Tryz.underlying30 hi hz0 hz1 hz2 rfl (by decide) _ _ _ rfl (World.ownsRow_made w #[] 0 (Nat.le_refl _) (Nat.zero_le _) rfl) ad 0 c [] rfl rfl (by intro j u hj; simp at hj) (by intro u hu; cases hu) (by unfold maxLen; omega) (by omega) (by simp) ?_)
  intro v' w1 hown hgrow hnil
  have Hb:=kept (((Below.refl _ w).alloc (Nat.le_refl _) (.cells #[] 9)).grown hgrow (by simp) (by intro k hk; simp [Value.ownBlock] at hk; omega))
  have Hv : ∃ a' c',v' = .slice a' 0 c':=by
   rcases hown.2 with ⟨rfl,_⟩ | ⟨g,cap,cur,rfl,_⟩
   ·exact ⟨_,_,rfl⟩
   ·exact ⟨_,_,rfl⟩
  obtain ⟨a',c',rfl⟩:=Hv
  clear hown hgrow hnil
  go_wp2
  go_ret
  exact ⟨⟨_,_,rfl⟩,Hb.out⟩
namespace AX
theorem a_clone_strs0 (W0 : Nat) (o : Own) (h : Hp) : ACall Tryz.prog GT 195 [.sl W0 o []] h fun v h' => v = .sl 1 .no [] ∧ h' = h:=by
 intro C es hI ha
 obtain ⟨c,es',rfl,h1,h2⟩:=repL_cons.1 ha
 rw [repL_nil] at h2; subst h2
 obtain ⟨a,cap,rfl,_,_,_⟩:=rep_sl.1 h1
 refine (clone_strs0 a cap C.w).mono ?_
 rintro e w' ⟨⟨a',c',rfl⟩,hb⟩
 obtain ⟨i1,s1⟩:=inv_below hI hb
 exact ⟨C.at w',h,.sl 1 .no [],_,rfl,rfl,i1,s1,rep_sl.2 ⟨a',c',rfl,Nat.zero_le _,by unfold RepRows; trivial,trivial⟩,rfl,rfl⟩
theorem a_clone_strs (o : Own) (rows : List (List A)) (h0 : rows ≠ []) (hbig : rows.length * 16 ≤ 140737488355328) (hmax : rows.length ≤ maxLen) (h : Hp) :
  ACall Tryz.prog GT 195 [.sl 1 o rows] h fun v h' => v = .bs h.b.length 1 rows.length ∧ h' = ⟨h.b ++ [.row 9 rows.flatten],h.t⟩:=by
 intro C es hI ha
 obtain ⟨c,es',rfl,h1,h2⟩:=repL_cons.1 ha
 rw [repL_nil] at h2; subst h2
 have hpos : 0 < rows.length:=List.length_pos_iff.2 h0
 obtain ⟨g,off,cap,cs,rfl,k1,k2,k3,k4,k5⟩:=sl_open h1 hpos
 refine (clone_strs g off rows.length cap cs C.w k2 hpos hbig hmax k5 (repL_one k1 (data_one k3))).mono ?_
 rintro e w' ⟨v',rfl,hown,hb⟩
 rcases hown.2 with ⟨_,hz⟩ | ⟨g',cap',cur,rfl,hg,hh,hcap,_,hcs,htake⟩
 ·omega
 ·have hcur : cur = (cs ++ cur.toList.drop (rows.length * 1)).toArray:=by
   apply Array.toList_inj.1
   rw [← htake]
   simp
  rw [hcur] at hh
  obtain ⟨C',m1,m2,m3,m4,m5⟩:=new_row hI hb hg hh k1
  exact ⟨C',_,.bs h.b.length 1 rows.length,_,rfl,m1,m2,m3,rep_bs.2 ⟨cap',by rw [m4],hcap,m5⟩,rfl,rfl⟩
end AX
set_option maxRecDepth 100000 in
theorem clone_pend (b off n c : Nat) (news : List Value) (w : World) (hl : news.length = n * 3) (hn : 0 < n) (hbig : n * 48 ≤ 140737488355328) (hmax : n ≤ maxLen) (hc : ∀ j v,news[j]? = some v → w.cell? ((⟨b,off,none⟩ : Addr).add j) = some v) (h1 : ∀ u ∈ news,u.oneCell' = true) :
  Calls Tryz.prog 128 #[.slice (some ⟨b,off,none⟩) n c] w fun e w' => ∃ v',e = .returned v' ∧ w'.ownsRow w.heap.size 121 3 v' n news ∧ Below w.heap.size w w':=by
 obtain ⟨i0,hi,hz0,hz1,hz2⟩:=info_parts (show (Tryz.prog.info? 121).map (fun i => (i.zero,i.size,i.bytes)) = some (some (.agg #[.string ⟨#[]⟩,.string ⟨#[]⟩,.string ⟨#[]⟩]),3,48) by kernel_rfl)
 have q22 : ∀ (w : World) (a : Option Addr) (n c n' c' : Nat),(binOp .eql 36 (.slice a n c) (.slice none n' c')).run Tryz.prog w = .ok (.bool a.isNone) w:=fun w a n c n' c' => Lib.run_eql_slice_nil w _ _ a n c n' c' Tryz.underlying36
 have u22 : ∀ w,Sem.run Tryz.prog (underlying 36) w = .ok (TypeDesc.slice 121) w:=run_underlying Tryz.underlying36
 have HC:=kept hc
 have H1:=kept h1
 clear hc h1
 go_enter Tryz.func128,Tryz.ntmps128
 go_wp2_with (at_builtin; refine wpList_append_own _ rfl _ _ 36 rfl w.heap.size 121 i0 (.agg #[.string ⟨#[]⟩,.string ⟨#[]⟩,.string ⟨#[]⟩]) 3 48 Tryz.underlying36 hi hz0 hz1 hz2 rfl (by decide) _ _ _ rfl (World.ownsRow_made w #[] 0 (Nat.le_refl _) (Nat.zero_le _) rfl) ⟨b,off,none⟩ n c news rfl ?qc1 ?qc2 ?qc3 ?qc4 ?qc5 ?qc6 ?_)
 case qc1 => exact hl
 case qc2 =>
  intro j u hj
  have:=HC.out j u hj
  rw [Addr.add_lit] at this ⊢
  exact Lib.cell?_alloc_some _ this
 case qc3 => exact H1.out
 case qc4 => omega
 case qc5 => omega
 case qc6 => simp
 intro v' w1 hown hgrow hnil
 have Hb:=kept (((Below.refl _ w).alloc (Nat.le_refl _) (.cells #[] 121)).grown hgrow (by simp) (by intro k hk; simp [Value.ownBlock] at hk; omega))
 have Ho:=kept (show w1.ownsRow w.heap.size 121 3 v' n news by simpa using hown)
 clear hown hgrow hnil HC H1
 go_wp2
 go_ret
 exact ⟨v',rfl,Ho.out,Hb.out⟩
theorem clone_pend0 (a : Option Addr) (c : Nat) (w : World) :
  Calls Tryz.prog 128 #[.slice a 0 c] w fun e w' => (∃ a' c',e = .returned (.slice a' 0 c')) ∧ Below w.heap.size w w':=by
 have q22 : ∀ (w : World) (a : Option Addr) (n c n' c' : Nat),(binOp .eql 36 (.slice a n c) (.slice none n' c')).run Tryz.prog w = .ok (.bool a.isNone) w:=fun w a n c n' c' => Lib.run_eql_slice_nil w _ _ a n c n' c' Tryz.underlying36
 have u22 : ∀ w,Sem.run Tryz.prog (underlying 36) w = .ok (TypeDesc.slice 121) w:=run_underlying Tryz.underlying36
 cases a with
 | none =>
  go_enter Tryz.func128,Tryz.ntmps128
  go_wp2
  go_ret
  exact ⟨⟨_,_,rfl⟩,Below.refl _ _⟩
 | some ad =>
  obtain ⟨i0,hi,hz0,hz1,hz2⟩:=info_parts (show (Tryz.prog.info? 121).map (fun i => (i.zero,i.size,i.bytes)) = some (some (.agg #[.string ⟨#[]⟩,.string ⟨#[]⟩,.string ⟨#[]⟩]),3,48) by kernel_rfl)
  go_enter Tryz.func128,Tryz.ntmps128
  go_wp2_with (at_builtin; refine wpList_append_own _ rfl _ _ 36 rfl w.heap.size 121 i0 (.agg #[.string ⟨#[]⟩,.string ⟨#[]⟩,.string ⟨#[]⟩]) 3 48 Tryz.underlying36 hi hz0 hz1 hz2 rfl (by decide) _ _ _ rfl (World.ownsRow_made w #[] 0 (Nat.le_refl _) (Nat.zero_le _) rfl) ad 0 c [] rfl rfl (by intro j u hj; simp at hj) (by intro u hu; cases hu) (by unfold maxLen; omega) (by omega) (by simp) ?_)
  intro v' w1 hown hgrow hnil
  have Hb:=kept (((Below.refl _ w).alloc (Nat.le_refl _) (.cells #[] 121)).grown hgrow (by simp) (by intro k hk; simp [Value.ownBlock] at hk; omega))
  have Hv : ∃ a' c',v' = .slice a' 0 c':=by
   rcases hown.2 with ⟨rfl,_⟩ | ⟨g,cap,cur,rfl,_⟩
   ·exact ⟨_,_,rfl⟩
   ·exact ⟨_,_,rfl⟩
  obtain ⟨a',c',rfl⟩:=Hv
  clear hown hgrow hnil
  go_wp2
  go_ret
  exact ⟨⟨_,_,rfl⟩,Hb.out⟩
namespace AX
theorem a_clone_pend0 (W0 : Nat) (o : Own) (h : Hp) : ACall Tryz.prog GT 128 [.sl W0 o []] h fun v h' => v = .sl 3 .no [] ∧ h' = h:=by
 intro C es hI ha
 obtain ⟨c,es',rfl,h1,h2⟩:=repL_cons.1 ha
 rw [repL_nil] at h2; subst h2
 obtain ⟨a,cap,rfl,_,_,_⟩:=rep_sl.1 h1
 refine (clone_pend0 a cap C.w).mono ?_
 rintro e w' ⟨⟨a',c',rfl⟩,hb⟩
 obtain ⟨i1,s1⟩:=inv_below hI hb
 exact ⟨C.at w',h,.sl 3 .no [],_,rfl,rfl,i1,s1,rep_sl.2 ⟨a',c',rfl,Nat.zero_le _,by unfold RepRows; trivial,trivial⟩,rfl,rfl⟩
theorem a_clone_pend (o : Own) (rows : List (List A)) (h0 : rows ≠ []) (hbig : rows.length * 48 ≤ 140737488355328) (hmax : rows.length ≤ maxLen) (h : Hp) :
  ACall Tryz.prog GT 128 [.sl 3 o rows] h fun v h' => v = .bs h.b.length 3 rows.length ∧ h' = ⟨h.b ++ [.row 121 rows.flatten],h.t⟩:=by
 intro C es hI ha
 obtain ⟨c,es',rfl,h1,h2⟩:=repL_cons.1 ha
 rw [repL_nil] at h2; subst h2
 have hpos : 0 < rows.length:=List.length_pos_iff.2 h0
 obtain ⟨g,off,cap,cs,rfl,k1,k2,k3,k4,k5⟩:=sl_open h1 hpos
 refine (clone_pend g off rows.length cap cs C.w k2 hpos hbig hmax k5 (repL_one k1 (data_one k3))).mono ?_
 rintro e w' ⟨v',rfl,hown,hb⟩
 rcases hown.2 with ⟨_,hz⟩ | ⟨g',cap',cur,rfl,hg,hh,hcap,_,hcs,htake⟩
 ·omega
 ·have hcur : cur = (cs ++ cur.toList.drop (rows.length * 3)).toArray:=by
   apply Array.toList_inj.1
   rw [← htake]
   simp
  rw [hcur] at hh
  obtain ⟨C',m1,m2,m3,m4,m5⟩:=new_row hI hb hg hh k1
  exact ⟨C',_,.bs h.b.length 3 rows.length,_,rfl,m1,m2,m3,rep_bs.2 ⟨cap',by rw [m4],hcap,m5⟩,rfl,rfl⟩
end AX
namespace AX
theorem a_clones (ks : List (List UInt8)) (hn : ks.length ≤ 1000000000) (h : Hp) : ACall Tryz.prog GT 195 [.sl 1 .no (strsA ks)] h fun v h' => v = .sl 1 .no (strsA ks) ∧ h' = h:=by
 cases ks with
 | nil => exact a_clone_strs0 _ _ h
 | cons k l =>
  have hl : (strsA (k :: l)).length = (k :: l).length:=strsA_length _
  refine pcallv (ACall.mono (a_clone_strs .no (strsA (k :: l)) (by simp [strsA]) (by rw [hl]; omega) (by rw [hl]; unfold maxLen; omega) ⟨[],[]⟩) ?_) (by simp [A.pure,A.data]) h
  rintro v h' ⟨rfl,rfl⟩
  refine .one (.inr ⟨0,1,_,strsA (k :: l),rfl,rfl,rfl,fun r hr => ?_,?_⟩)
  ·obtain ⟨s,_,rfl⟩:=List.mem_map.1 hr; rfl
  ·rw [List.all_eq_true]
   intro x hx
   obtain ⟨r,hr,hx⟩:=List.mem_flatten.1 hx
   obtain ⟨s,_,rfl⟩:=List.mem_map.1 hr
   rw [List.mem_singleton.1 hx]; rfl
theorem a_clonep (ps : List Sf.Pend) (hn : ps.length ≤ 1000000000) (h : Hp) : ACall Tryz.prog GT 128 [.sl 3 .no (ps.map Sf.Pend.cells)] h fun v h' => v = .sl 3 .no (ps.map Sf.Pend.cells) ∧ h' = h:=by
 cases ps with
 | nil => exact a_clone_pend0 _ _ h
 | cons k l =>
  have hl : ((k :: l).map Sf.Pend.cells).length = (k :: l).length:=List.length_map _
  refine pcallv (ACall.mono (a_clone_pend .no ((k :: l).map Sf.Pend.cells) (by simp) (by rw [hl]; omega) (by rw [hl]; unfold maxLen; omega) ⟨[],[]⟩) ?_) (by simp [A.pure,A.data]) h
  rintro v h' ⟨rfl,rfl⟩
  refine .one (.inr ⟨0,3,_,(k :: l).map Sf.Pend.cells,rfl,rfl,rfl,fun r hr => ?_,?_⟩)
  ·obtain ⟨s,_,rfl⟩:=List.mem_map.1 hr; rfl
  ·rw [List.all_eq_true]
   intro x hx
   obtain ⟨r,hr,hx⟩:=List.mem_flatten.1 hx
   obtain ⟨s,_,rfl⟩:=List.mem_map.1 hr
   simp only [Sf.Pend.cells,List.mem_cons,List.not_mem_nil,or_false] at hx
   rcases hx with rfl | rfl | rfl <;> rfl
end AX
end Go.Proofs.YteklhoajalgehaaGreatDoor

namespace Go.Proofs.YteklhoajalgehaaGreatDoor
open Go.RowKit
structure Jr where
 kind : Int
 base : Sf.St
 step : Int
 op : Int
 addr : List UInt8
 dep : List UInt8
 typ : List UInt8
 tok : List UInt8
 err : Int
 after : Sf.Inst
namespace Jr
def shortB (l : List (List UInt8)) : Bool:=l.all fun s => decide ((s.length : Int) ≤ 4096)
def zeroV : V → Bool
 | .mk k n s is ks => k == 0 && n == 0 && s == [] && (is.length : Int) == 0 && (ks.length : Int) == 0
def noneB (x : Sf.Inst) : Bool:=zeroV x.attrs && x.addr == [] && x.dep == [] && x.id == [] && x.typ == [] && x.ver == 0 && !x.tainted && !x.first && (x.deps.length : Int) == 0
def emptyB (s : Sf.St) : Bool:=s.lin == [] && s.ser == 0 && (s.insts.length : Int) == 0 && (s.pends.length : Int) == 0 && (s.outs.length : Int) == 0
def instB (x : Sf.Inst) : Bool:=shortB [x.addr,x.dep,x.id,x.typ] && shortB x.deps && decide ((x.deps.length : Int) ≤ 512) && Val.checkZ x.attrs == 0 && decide (x.ver ≥ 0) && decide (x.ver ≤ 9007199254740992)
def stepB (r : Jr) : Bool:=decide (r.step ≥ 0) && decide (r.step < 2048) && decide (r.op ≥ 1) && decide (r.op ≤ 4) && shortB [r.addr,r.dep,r.typ]
def bareB (r : Jr) : Bool:=r.step == 0 && r.op == 0 && r.addr == [] && r.dep == [] && r.typ == []
def makesB (op : Int) : Bool:=op == 1 || op == 2
def afterB (r : Jr) : Bool:=noneB r.after || makesB r.op && instB r.after
def badB (r : Jr) : Bool:=r.kind != 1 && !emptyB r.base || r.kind != 2 && r.tok != [] || r.kind != 4 && r.err != 0
def validB (r : Jr) : Bool:=
 if badB r = true then false
 else if r.kind = 1 ∨ r.kind = 5 then bareB r && noneB r.after
 else if r.kind = 2 then stepB r && noneB r.after && shortB [r.tok] && (r.op == 1 || r.tok == [])
 else if r.kind = 3 then stepB r && afterB r
 else if r.kind = 4 then stepB r && afterB r && decide (r.err ≥ 1) && decide (r.err ≤ 42)
 else false
def cells (r : Jr) : List AX.A:=
 [.int .i64 r.kind,.str r.base.lin,.int .i64 r.base.ser,.sl 13 .no (r.base.insts.map Sf.Inst.cells),.sl 3 .no (r.base.pends.map Sf.Pend.cells),.sl 7 .no (r.base.outs.map Sf.Outp.cells),.int .i64 r.step,.int .i64 r.op,.str r.addr,.str r.dep,.str r.typ,.str r.tok,.int .i64 r.err] ++ Sf.Inst.cells r.after
end Jr
namespace AX
theorem rowj_at {α : Type} (f : α → List A) (l : List α) (i : Nat) (h : i < l.length) (hl : l.length ≤ 4611686018427387904) :
  (l.map f).length = l.length ∧ (i : Int) < (l.length : Int) ∧ (0 : Int) ≤ (i : Int) ∧ (l.map f).getD i [] = f l[i] ∧ IntKind.i64.wrap ((i : Int) + 1) = ((i + 1 : Nat) : Int):=
 ⟨List.length_map _,by omega,by omega,by simp [List.getD,h],by rw [wrap64 (by omega) (by omega)]; omega⟩
theorem rowj_end {α : Type} (f : α → List A) (l : List α) (i : Nat) (h : l.length ≤ i) : (l.map f).length = l.length ∧ ¬ (i : Int) < (l.length : Int):=⟨List.length_map _,by omega⟩
end AX
def gfind {α : Type} (n : Int) : List (Int × α) → Option α
 | [] => none
 | (k,x) :: l => if n = k then some x else gfind n l
def gput {α : Type} (n : Int) (x : α) : List (Int × α) → List (Int × α)
 | [] => [(n,x)]
 | (k,y) :: l => if n = k then (n,x) :: l else (k,y) :: gput n x l
def gmap {α : Type} (f : α → AX.A) (l : List (Int × α)) : List (Int × AX.A):=l.map fun e => (e.1,f e.2)
section
variable {α : Type} (f : α → AX.A) (n : Int)
theorem gmap_find : ∀ l : List (Int × α),AX.mfind n (gmap f l) = (gfind n l).map f
 | [] => rfl
 | (k,x) :: l => by
  show AX.mfind n ((k,f x) :: gmap f l) = _
  unfold AX.mfind gfind
  split
  ·rfl
  ·exact gmap_find l
theorem gmap_put (x : α) : ∀ l : List (Int × α),AX.mput n (f x) (gmap f l) = gmap f (gput n x l)
 | [] => rfl
 | (k,y) :: l => by
  show AX.mput n (f x) ((k,f y) :: gmap f l) = _
  unfold AX.mput gput
  split
  ·rfl
  ·rw [gmap_put x l]; rfl
theorem gmap_length (l : List (Int × α)) : (gmap f l).length = l.length:=List.length_map _
theorem gmap_clock (l : List (Int × α)) (c : Nat) : AX.mclock n (gmap f l) c = if (gfind n l).isSome = true then c else c + 1:=by
 unfold AX.mclock
 rw [gmap_find]
 cases gfind n l <;> rfl
end
structure Fo where
 n : Int
 ended : Bool
 ints : List (Int × Jr)
 ress : List (Int × Bool)
 c1 : Nat
 c2 : Nat
namespace Fo
def next (f : Fo) (r : Jr) : Bool × Fo:=
 let f1 : Fo:={ f with n:=IntKind.i64.wrap (f.n + 1) }
 if (f.ended || !((f.n == 0) == (r.kind == 1))) = true then (false,f1)
 else if r.kind = 2 then (!(gfind r.step f.ints).isSome,{ f1 with ints:=gput r.step r f.ints,c1:=if (gfind r.step f.ints).isSome = true then f.c1 else f.c1 + 1 })
 else if r.kind = 3 ∨ r.kind = 4 then
  ((match gfind r.step f.ints with
   | some i => !((gfind r.step f.ress).getD false) && i.op == r.op && i.addr == r.addr && i.typ == r.typ
   | none => false),{ f1 with ress:=gput r.step true f.ress,c2:=if (gfind r.step f.ress).isSome = true then f.c2 else f.c2 + 1 })
 else if r.kind = 5 then ((f.ints.length : Int) == (f.ress.length : Int),{ f1 with ended:=true })
 else (true,f1)
def check : Fo → List Jr → Int
 | _,[] => 0
 | f,r :: l => if (!r.validB || (r.kind == 1 && Sf.checkZ r.base != 0)) = true then 1 else if (f.next r).1 = true then check (f.next r).2 l else 38
end Fo
namespace Jr
end Jr
end Go.Proofs.YteklhoajalgehaaGreatDoor

namespace Go.Proofs.YteklhoajalgehaaGreatDoor
open Go.RowKit
namespace AX
def c_indexs : AX.AFn:=⟨19,aS [aR 4 (.mv (aI 0))] (.seq (aS [aM 6 0,aR 7 (.len false (.t 6)),aR 8 (.mv (aI 0))] (.block 0 (.loop (aS [aR 9 (.bin .lss (.t 8) (.t 7))] (.seq (.cond (.t 9) (.skip) (.exit 0)) (.seq (.block 1 (aS [aM 10 8,aM 5 10] (aS [aM 11 1,aM 12 0,aM 13 5,aR 14 (.iaddr 1 (.t 12) (.t 13)),aL 15 14,aR 16 (.callv (.t 11) [.t 15])] (.cond (.t 16) (aS [aM 17 5,aM 4 17] (.ret)) (.skip))))) (.reg false [aR 18 (.bin .add (.t 8) (aI 1)),aM 8 18]))))))) (aS [aR 4 (.mv (aI (-1)))] (.ret))),[.t 4]⟩
theorem h_indexs : AX.compFn Tryz.prog 242 = some c_indexs:=by kernel_rfl
def c_containss : AX.AFn:=⟨9,aS [aR 4 (.mv (.c (.bool false)))] (aS [aM 5 0,aM 6 1,aR 7 (.call 242 [.t 5,.t 6]),aR 8 (.bin .geq (.t 7) (aI 0)),aM 4 8] (.ret)),[.t 4]⟩
theorem h_containss : AX.compFn Tryz.prog 185 = some c_containss:=by kernel_rfl
def c_jshort : AX.AFn:=⟨6,aS [aR 2 (.mv (.c (.bool false)))] (aS [aM 3 0,aR 4 (.call 185 [.t 3,.c (.fn 186 [])]),aR 5 (.un .not (.t 4)),aM 2 5] (.ret)),[.t 2]⟩
theorem h_jshort : AX.compFn Tryz.prog 115 = some c_jshort:=by kernel_rfl
def c_jshort1 : AX.AFn:=⟨6,aS [aR 2 (.mv (.c (.bool false)))] (aS [aM 3 0,aR 4 (.len true (.t 3)),aR 5 (.bin .gtr (.t 4) (aI 4096)),aM 2 5] (.ret)),[.t 2]⟩
theorem h_jshort1 : AX.compFn Tryz.prog 186 = some c_jshort1:=by kernel_rfl
def c_jinstance : AX.AFn:=⟨40,aS [aR 1 (.box 73 (.t 0)),aR 2 (.mv (.c (.bool false)))] (aS [aF 3 0 1,aL 4 3,aF 5 1 1,aL 6 5,aF 7 2 1,aL 8 7,aF 9 3 1,aL 10 9,aR 11 (.mks 1 [.t 4,.t 6,.t 8,.t 10]),aR 12 (.call 115 [.t 11]),aM 13 12,aG 14 (.faddr 12 (.t 1)) 13 true,aG 15 (.load false 1 (.t 14)) 13 true,aG 16 (.call 115 [.t 15]) 13 true,aR 17 (.pick (.t 13) (.t 16) (.c (.bool false))),aM 18 17,aG 19 (.faddr 12 (.t 1)) 18 true,aG 20 (.load false 1 (.t 19)) 18 true,aG 21 (.len false (.t 20)) 18 true,aG 22 (.bin .leq (.t 21) (aI 512)) 18 true,aR 23 (.pick (.t 18) (.t 22) (.c (.bool false))),aM 24 23,aG 25 (.faddr 4 (.t 1)) 24 true,aG 26 (.load true 5 (.t 25)) 24 true,aG 27 (.call 178 [.t 26]) 24 true,aG 28 (.bin .eql (.t 27) (aI 0)) 24 true,aR 29 (.pick (.t 24) (.t 28) (.c (.bool false))),aM 30 29,aG 31 (.faddr 9 (.t 1)) 30 true,aG 32 (.load false 1 (.t 31)) 30 true,aG 33 (.bin .geq (.t 32) (aI 0)) 30 true,aR 34 (.pick (.t 30) (.t 33) (.c (.bool false))),aM 35 34,aG 36 (.faddr 9 (.t 1)) 35 true,aG 37 (.load false 1 (.t 36)) 35 true,aG 38 (.bin .leq (.t 37) (aI 9007199254740992)) 35 true,aR 39 (.pick (.t 35) (.t 38) (.c (.bool false))),aM 2 39] (.ret)),[.t 2]⟩
theorem h_jinstance : AX.compFn Tryz.prog 112 = some c_jinstance:=by kernel_rfl
def c_jnone : AX.AFn:=⟨74,aS [aR 1 (.box 73 (.t 0)),aR 2 (.mv (.c (.bool false)))] (aS [aF 5 4 1,aR 6 (.load true 5 (.t 5)),aR 3 (.alloc 71 [.int .i64 0,.int .i64 0,.str [],.sl 0 .nil [],.sl 0 .nil []]),aU (.store 5 (.t 3) (.t 6))] (aS [aF 7 0 3,aL 8 7,aR 9 (.bin .eql (.t 8) (aI 0)),aM 10 9,aG 11 (.faddr 1 (.t 3)) 10 true,aG 12 (.load false 1 (.t 11)) 10 true,aG 13 (.bin .eql (.t 12) (aI 0)) 10 true,aR 14 (.pick (.t 10) (.t 13) (.c (.bool false))),aM 15 14,aG 16 (.faddr 2 (.t 3)) 15 true,aG 17 (.load false 1 (.t 16)) 15 true,aG 18 (.bin .eql (.t 17) (.c (.str []))) 15 true,aR 19 (.pick (.t 15) (.t 18) (.c (.bool false))),aM 20 19,aG 21 (.faddr 3 (.t 3)) 20 true,aG 22 (.load false 1 (.t 21)) 20 true,aG 23 (.len false (.t 22)) 20 true,aG 24 (.bin .eql (.t 23) (aI 0)) 20 true,aR 25 (.pick (.t 20) (.t 24) (.c (.bool false))),aM 26 25,aG 27 (.faddr 4 (.t 3)) 26 true,aG 28 (.load false 1 (.t 27)) 26 true,aG 29 (.len false (.t 28)) 26 true,aG 30 (.bin .eql (.t 29) (aI 0)) 26 true,aR 31 (.pick (.t 26) (.t 30) (.c (.bool false))),aM 4 31] (aS [aM 32 4,aM 33 32,aG 34 (.faddr 0 (.t 1)) 33 true,aG 35 (.load false 1 (.t 34)) 33 true,aG 36 (.bin .eql (.t 35) (.c (.str []))) 33 true,aR 37 (.pick (.t 33) (.t 36) (.c (.bool false))),aM 38 37,aG 39 (.faddr 1 (.t 1)) 38 true,aG 40 (.load false 1 (.t 39)) 38 true,aG 41 (.bin .eql (.t 40) (.c (.str []))) 38 true,aR 42 (.pick (.t 38) (.t 41) (.c (.bool false))),aM 43 42,aG 44 (.faddr 2 (.t 1)) 43 true,aG 45 (.load false 1 (.t 44)) 43 true,aG 46 (.bin .eql (.t 45) (.c (.str []))) 43 true,aR 47 (.pick (.t 43) (.t 46) (.c (.bool false))),aM 48 47,aG 49 (.faddr 3 (.t 1)) 48 true,aG 50 (.load false 1 (.t 49)) 48 true,aG 51 (.bin .eql (.t 50) (.c (.str []))) 48 true,aR 52 (.pick (.t 48) (.t 51) (.c (.bool false))),aM 53 52,aG 54 (.faddr 9 (.t 1)) 53 true,aG 55 (.load false 1 (.t 54)) 53 true,aG 56 (.bin .eql (.t 55) (aI 0)) 53 true,aR 57 (.pick (.t 53) (.t 56) (.c (.bool false))),aM 58 57,aG 59 (.faddr 10 (.t 1)) 58 true,aG 60 (.load false 1 (.t 59)) 58 true,aG 61 (.un .not (.t 60)) 58 true,aR 62 (.pick (.t 58) (.t 61) (.c (.bool false))),aM 63 62,aG 64 (.faddr 11 (.t 1)) 63 true,aG 65 (.load false 1 (.t 64)) 63 true,aG 66 (.un .not (.t 65)) 63 true,aR 67 (.pick (.t 63) (.t 66) (.c (.bool false))),aM 68 67,aG 69 (.faddr 12 (.t 1)) 68 true,aG 70 (.load false 1 (.t 69)) 68 true,aG 71 (.len false (.t 70)) 68 true,aG 72 (.bin .eql (.t 71) (aI 0)) 68 true,aR 73 (.pick (.t 68) (.t 72) (.c (.bool false))),aM 2 73] (.ret)))),[.t 2]⟩
theorem h_jnone : AX.compFn Tryz.prog 110 = some c_jnone:=by kernel_rfl
def c_jempty : AX.AFn:=⟨29,aS [aR 1 (.box 39 (.t 0)),aR 2 (.mv (.c (.bool false)))] (aS [aF 3 0 1,aL 4 3,aR 5 (.bin .eql (.t 4) (.c (.str []))),aM 6 5,aG 7 (.faddr 1 (.t 1)) 6 true,aG 8 (.load false 1 (.t 7)) 6 true,aG 9 (.bin .eql (.t 8) (aI 0)) 6 true,aR 10 (.pick (.t 6) (.t 9) (.c (.bool false))),aM 11 10,aG 12 (.faddr 2 (.t 1)) 11 true,aG 13 (.load false 1 (.t 12)) 11 true,aG 14 (.len false (.t 13)) 11 true,aG 15 (.bin .eql (.t 14) (aI 0)) 11 true,aR 16 (.pick (.t 11) (.t 15) (.c (.bool false))),aM 17 16,aG 18 (.faddr 3 (.t 1)) 17 true,aG 19 (.load false 1 (.t 18)) 17 true,aG 20 (.len false (.t 19)) 17 true,aG 21 (.bin .eql (.t 20) (aI 0)) 17 true,aR 22 (.pick (.t 17) (.t 21) (.c (.bool false))),aM 23 22,aG 24 (.faddr 4 (.t 1)) 23 true,aG 25 (.load false 1 (.t 24)) 23 true,aG 26 (.len false (.t 25)) 23 true,aG 27 (.bin .eql (.t 26) (aI 0)) 23 true,aR 28 (.pick (.t 23) (.t 27) (.c (.bool false))),aM 2 28] (.ret)),[.t 2]⟩
theorem h_jempty : AX.compFn Tryz.prog 109 = some c_jempty:=by kernel_rfl
def c_jstep : AX.AFn:=⟨31,aS [aR 1 (.box 75 (.t 0)),aR 2 (.mv (.c (.bool false)))] (aS [aF 3 6 1,aL 4 3,aR 5 (.bin .geq (.t 4) (aI 0)),aM 6 5,aG 7 (.faddr 6 (.t 1)) 6 true,aG 8 (.load false 1 (.t 7)) 6 true,aG 9 (.bin .lss (.t 8) (aI 2048)) 6 true,aR 10 (.pick (.t 6) (.t 9) (.c (.bool false))),aM 11 10,aG 12 (.faddr 7 (.t 1)) 11 true,aG 13 (.load false 1 (.t 12)) 11 true,aG 14 (.bin .geq (.t 13) (aI 1)) 11 true,aR 15 (.pick (.t 11) (.t 14) (.c (.bool false))),aM 16 15,aG 17 (.faddr 7 (.t 1)) 16 true,aG 18 (.load false 1 (.t 17)) 16 true,aG 19 (.bin .leq (.t 18) (aI 4)) 16 true,aR 20 (.pick (.t 16) (.t 19) (.c (.bool false))),aM 21 20,aG 22 (.faddr 8 (.t 1)) 21 true,aG 23 (.load false 1 (.t 22)) 21 true,aG 24 (.faddr 9 (.t 1)) 21 true,aG 25 (.load false 1 (.t 24)) 21 true,aG 26 (.faddr 10 (.t 1)) 21 true,aG 27 (.load false 1 (.t 26)) 21 true,aG 28 (.mks 1 [.t 23,.t 25,.t 27]) 21 true,aG 29 (.call 115 [.t 28]) 21 true,aR 30 (.pick (.t 21) (.t 29) (.c (.bool false))),aM 2 30] (.ret)),[.t 2]⟩
theorem h_jstep : AX.compFn Tryz.prog 114 = some c_jstep:=by kernel_rfl
def c_jbare : AX.AFn:=⟨26,aS [aR 1 (.box 75 (.t 0)),aR 2 (.mv (.c (.bool false)))] (aS [aF 3 6 1,aL 4 3,aR 5 (.bin .eql (.t 4) (aI 0)),aM 6 5,aG 7 (.faddr 7 (.t 1)) 6 true,aG 8 (.load false 1 (.t 7)) 6 true,aG 9 (.bin .eql (.t 8) (aI 0)) 6 true,aR 10 (.pick (.t 6) (.t 9) (.c (.bool false))),aM 11 10,aG 12 (.faddr 8 (.t 1)) 11 true,aG 13 (.load false 1 (.t 12)) 11 true,aG 14 (.bin .eql (.t 13) (.c (.str []))) 11 true,aR 15 (.pick (.t 11) (.t 14) (.c (.bool false))),aM 16 15,aG 17 (.faddr 9 (.t 1)) 16 true,aG 18 (.load false 1 (.t 17)) 16 true,aG 19 (.bin .eql (.t 18) (.c (.str []))) 16 true,aR 20 (.pick (.t 16) (.t 19) (.c (.bool false))),aM 21 20,aG 22 (.faddr 10 (.t 1)) 21 true,aG 23 (.load false 1 (.t 22)) 21 true,aG 24 (.bin .eql (.t 23) (.c (.str []))) 21 true,aR 25 (.pick (.t 21) (.t 24) (.c (.bool false))),aM 2 25] (.ret)),[.t 2]⟩
theorem h_jbare : AX.compFn Tryz.prog 113 = some c_jbare:=by kernel_rfl
def c_jmakes : AX.AFn:=⟨9,aS [aR 2 (.mv (.c (.bool false)))] (aS [aM 3 0,aR 4 (.bin .eql (.t 3) (aI 1)),aM 5 4,aG 6 (.mv (.t 0)) 5 false,aG 7 (.bin .eql (.t 6) (aI 2)) 5 false,aR 8 (.pick (.t 5) (.c (.bool true)) (.t 7)),aM 2 8] (.ret)),[.t 2]⟩
theorem h_jmakes : AX.compFn Tryz.prog 111 = some c_jmakes:=by kernel_rfl
def c_jvalid : AX.AFn:=⟨107,aS [aR 1 (.box 75 (.t 0)),aR 2 (.mv (.c (.bool false)))] (.seq (aS [aF 4 0 1,aL 5 4,aR 6 (.bin .neq (.t 5) (aI 1)),aM 7 6,aG 8 (.faddr 1 (.t 1)) 7 true,aG 9 (.load true 5 (.t 8)) 7 true,aG 10 (.call 109 [.t 9]) 7 true,aG 11 (.un .not (.t 10)) 7 true,aR 12 (.pick (.t 7) (.t 11) (.c (.bool false))),aM 13 12,aG 14 (.faddr 0 (.t 1)) 13 false,aG 15 (.load false 1 (.t 14)) 13 false,aG 16 (.bin .neq (.t 15) (aI 2)) 13 false,aG 17 (.mv (.t 16)) 13 false,aG 18 (.faddr 11 (.t 1)) 17 true,aG 19 (.load false 1 (.t 18)) 17 true,aG 20 (.bin .neq (.t 19) (.c (.str []))) 17 true,aG 21 (.pick (.t 17) (.t 20) (.c (.bool false))) 13 false,aR 22 (.pick (.t 13) (.c (.bool true)) (.t 21)),aM 23 22,aG 24 (.faddr 0 (.t 1)) 23 false,aG 25 (.load false 1 (.t 24)) 23 false,aG 26 (.bin .neq (.t 25) (aI 4)) 23 false,aG 27 (.mv (.t 26)) 23 false,aG 28 (.faddr 12 (.t 1)) 27 true,aG 29 (.load false 1 (.t 28)) 27 true,aG 30 (.bin .neq (.t 29) (aI 0)) 27 true,aG 31 (.pick (.t 27) (.t 30) (.c (.bool false))) 23 false,aR 32 (.pick (.t 23) (.c (.bool true)) (.t 31))] (.cond (.t 32) (aS [aR 2 (.mv (.c (.bool false)))] (.ret)) (.skip))) (aS [aF 33 13 1,aR 34 (.load true 13 (.t 33)),aR 35 (.call 110 [.t 34]),aM 36 35,aG 37 (.faddr 7 (.t 1)) 36 false,aG 38 (.load false 1 (.t 37)) 36 false,aG 39 (.call 111 [.t 38]) 36 false,aG 40 (.mv (.t 39)) 36 false,aG 41 (.faddr 13 (.t 1)) 40 true,aG 42 (.load true 13 (.t 41)) 40 true,aG 43 (.call 112 [.t 42]) 40 true,aG 44 (.pick (.t 40) (.t 43) (.c (.bool false))) 36 false,aR 45 (.pick (.t 36) (.c (.bool true)) (.t 44)),aM 3 45] (.seq (aS [aF 46 0 1,aL 47 46] (.block 0 (.seq (aS [aR 49 (.bin .eql (.t 47) (aI 1)),aM 48 49] (.cond (.t 48) (.skip) (.reg false [aR 50 (.bin .eql (.t 47) (aI 5)),aM 48 50]))) (.cond (.t 48) (aS [aR 51 (.load true 26 (.t 1)),aR 52 (.call 113 [.t 51]),aM 53 52,aG 54 (.faddr 13 (.t 1)) 53 true,aG 55 (.load true 13 (.t 54)) 53 true,aG 56 (.call 110 [.t 55]) 53 true,aR 57 (.pick (.t 53) (.t 56) (.c (.bool false))),aM 2 57] (.ret)) (aS [aR 59 (.bin .eql (.t 47) (aI 2)),aM 58 59] (.cond (.t 58) (aS [aR 60 (.load true 26 (.t 1)),aR 61 (.call 114 [.t 60]),aM 62 61,aG 63 (.faddr 13 (.t 1)) 62 true,aG 64 (.load true 13 (.t 63)) 62 true,aG 65 (.call 110 [.t 64]) 62 true,aR 66 (.pick (.t 62) (.t 65) (.c (.bool false))),aM 67 66,aG 68 (.faddr 11 (.t 1)) 67 true,aG 69 (.load false 1 (.t 68)) 67 true,aG 70 (.mks 1 [.t 69]) 67 true,aG 71 (.call 115 [.t 70]) 67 true,aR 72 (.pick (.t 67) (.t 71) (.c (.bool false))),aM 73 72,aG 74 (.faddr 7 (.t 1)) 73 true,aG 75 (.load false 1 (.t 74)) 73 true,aG 76 (.bin .eql (.t 75) (aI 1)) 73 true,aG 77 (.mv (.t 76)) 73 true,aG 78 (.faddr 11 (.t 1)) 77 false,aG 79 (.load false 1 (.t 78)) 77 false,aG 80 (.bin .eql (.t 79) (.c (.str []))) 77 false,aG 81 (.pick (.t 77) (.c (.bool true)) (.t 80)) 73 true,aR 82 (.pick (.t 73) (.t 81) (.c (.bool false))),aM 2 82] (.ret)) (aS [aR 84 (.bin .eql (.t 47) (aI 3)),aM 83 84] (.cond (.t 83) (aS [aR 85 (.load true 26 (.t 1)),aR 86 (.call 114 [.t 85]),aM 87 86,aG 88 (.mv (.t 3)) 87 true,aR 89 (.pick (.t 87) (.t 88) (.c (.bool false))),aM 2 89] (.ret)) (aS [aR 91 (.bin .eql (.t 47) (aI 4)),aM 90 91] (.cond (.t 90) (aS [aR 92 (.load true 26 (.t 1)),aR 93 (.call 114 [.t 92]),aM 94 93,aG 95 (.mv (.t 3)) 94 true,aR 96 (.pick (.t 94) (.t 95) (.c (.bool false))),aM 97 96,aG 98 (.faddr 12 (.t 1)) 97 true,aG 99 (.load false 1 (.t 98)) 97 true,aG 100 (.bin .geq (.t 99) (aI 1)) 97 true,aR 101 (.pick (.t 97) (.t 100) (.c (.bool false))),aM 102 101,aG 103 (.faddr 12 (.t 1)) 102 true,aG 104 (.load false 1 (.t 103)) 102 true,aG 105 (.bin .leq (.t 104) (aI 42)) 102 true,aR 106 (.pick (.t 102) (.t 105) (.c (.bool false))),aM 2 106] (.ret)) (.skip))))))))))) (aS [aR 2 (.mv (.c (.bool false)))] (.ret))))),[.t 2]⟩
theorem h_jvalid : AX.compFn Tryz.prog 60 = some c_jvalid:=by kernel_rfl
def longIdx : Nat → List (List UInt8) → Int
 | _,[] => -1
 | i,s :: l => if decide ((s.length : Int) > 4096) = true then i else longIdx (i + 1) l
theorem longIdx_ge : ∀ (l : List (List UInt8)) (i : Nat),decide (longIdx i l ≥ 0) = !Jr.shortB l
 | [],i => rfl
 | s :: l,i => by
  unfold longIdx Jr.shortB
  rw [List.all_cons]
  by_cases h : (s.length : Int) > 4096
  ·rw [if_pos (by simpa using h),show decide ((s.length : Int) ≤ 4096) = false by simpa using h]
   simp
  ·rw [if_neg (by simpa using h),show decide ((s.length : Int) ≤ 4096) = true by simpa using h,Bool.true_and]
   exact longIdx_ge l (i + 1)
theorem a_jshort1 (s : List UInt8) (h : Hp) : ACall Tryz.prog GT 186 [.str s] h fun r h' => r = .bool (decide ((s.length : Int) > 4096)) ∧ h' = h:=by
 refine pcall ?_ rfl (by simp [A.pure,A.data]) h
 refine acall_of mixedT h_jshort1 (by simp [c_jshort1]) ?_
 dsimp only [c_jshort1]
 refine runx0 ti ti ?_
 exact ⟨_,le_refl _,rfl⟩
theorem a_indexs (ks : List (List UInt8)) (hn : ks.length ≤ 1000000000) (h : Hp) : ACall Tryz.prog GT 242 [.sl 1 .no (strsA ks),.fn 186 []] h fun r h' => r = .int .i64 (longIdx 0 ks) ∧ h' = h:=by
 refine pcall ?_ rfl (by simp [A.pure,A.data]) h
 refine acall_of mixedT h_indexs (by simp [c_indexs]) ?_
 dsimp only [c_indexs]
 obtain ⟨D,hD⟩ : ∃ D,longIdx 0 ks = D:=⟨_,rfl⟩
 rw [hD]
 have li : (strsA ks).length = ks.length:=strsA_length ks
 refine run0 li ?_
 refine awp_loop (fun mm ts h => ∃ (j : Nat),mm = ks.length - j ∧ j ≤ ks.length ∧ h = ⟨[],[]⟩ ∧ longIdx j (ks.drop j) = D ∧ (ts 0 = .sl 1 .no (strsA ks) ∧ ts 1 = .fn 186 [] ∧ ts 7 = .int .i64 (ks.length : Nat) ∧ ts 8 = .int .i64 (j : Nat))) ks.length ?_ ?_
 ·exact ⟨0,by omega,by omega,rfl,hD,by (exact inv0 li)⟩
 rintro mm ts h ⟨j,rfl,hjc,rfl,hit,ht⟩
 by_cases hj : j < ks.length
 ·have hf:=rowj_at (fun s : List UInt8 => [A.str s]) ks j hj (by omega)
  have hf' : (strsA ks).length = ks.length ∧ (j : Int) < (ks.length : Int) ∧ (0 : Int) ≤ (j : Int) ∧ (strsA ks).getD j [] = [.str ks[j]] ∧ IntKind.i64.wrap ((j : Int) + 1) = ((j + 1 : Nat) : Int):=hf
  clear hf
  rw [List.drop_eq_getElem_cons hj] at hit
  unfold longIdx at hit
  obtain ⟨x,hx⟩ : ∃ x,ks[j] = x:=⟨_,rfl⟩
  rw [hx] at hf' hit
  have cf:=a_jshort1 x
  obtain ⟨K,hK⟩ : ∃ K,decide ((x.length : Int) > 4096) = K:=⟨_,rfl⟩
  rw [hK] at cf hit
  refine run0 (ai ht hf') ?_
  refine use (cf _) ?_
  cases K
  ·rw [if_neg (by simp)] at hit
   refine run0 (ai ht hf') ?_
   exact ⟨ks.length - (j + 1),by omega,j + 1,rfl,by omega,rfl,hit,by (exact inv0 (ai ht hf'))⟩
  ·rw [if_pos rfl] at hit
   subst hit
   refine run0 (ai ht hf') ?_
   exact ⟨_,le_refl _,rfl⟩
 ·have hlt : ¬ ((j : Int) < (ks.length : Int)):=by omega
  rw [List.drop_eq_nil_of_le (by omega)] at hit
  unfold longIdx at hit
  subst hit
  refine run0 (ai ht (ai hlt li)) ?_
  exact ⟨_,le_refl _,rfl⟩
theorem a_jshort (ks : List (List UInt8)) (hn : ks.length ≤ 1000000000) (h : Hp) : ACall Tryz.prog GT 115 [.sl 1 .no (strsA ks)] h fun r h' => r = .bool (Jr.shortB ks) ∧ h' = h:=by
 have ci:=a_indexs ks hn
 have hge:=longIdx_ge ks 0
 obtain ⟨D,hD⟩ : ∃ D,longIdx 0 ks = D:=⟨_,rfl⟩
 rw [hD] at ci hge
 have cc : ∀ h,ACall Tryz.prog GT 185 [.sl 1 .no (strsA ks),.fn 186 []] h fun r h' => r = .bool (!Jr.shortB ks) ∧ h' = h:=fun h => by
  rw [← hge]
  refine pcall ?_ rfl (by simp [A.pure,A.data]) h
  refine acall_of mixedT h_containss (by simp [c_containss]) ?_
  dsimp only [c_containss]
  refine runx0 ti (ai ci ti) ?_
  exact ⟨_,le_refl _,rfl⟩
 obtain ⟨B,hB⟩ : ∃ B,Jr.shortB ks = B:=⟨_,rfl⟩
 rw [hB] at cc ⊢
 refine pcall ?_ rfl (by simp [A.pure,A.data]) h
 refine acall_of mixedT h_jshort (by simp [c_jshort]) ?_
 dsimp only [c_jshort]
 refine runx0 ti (ai cc ti) ?_
 exact ⟨_,le_refl _,by cases B <;> rfl⟩
theorem a_jnone (x : Sf.Inst) (h : Hp) : ACall Tryz.prog GT 110 [.agg (Sf.Inst.cells x)] h fun r h' => r = .bool (Jr.noneB x) ∧ h' = h:=by
 obtain ⟨a,d,i,t,⟨k,n,s,is,ks⟩,v,tn,fi,ds⟩:=x
 have l1:=V.cellss_length is
 have l2:=strsA_length ks
 have l3:=strsA_length ds
 unfold Sf.Inst.cells Jr.noneB Jr.zeroV
 dsimp only
 refine pcall ?_ rfl (by simp [A.pure,A.data]) h
 refine acall_of mixedT h_jnone (by simp [c_jnone]) ?_
 dsimp only [c_jnone]
 refine runx0 (ai l1 (ai l2 l3)) ti ?_
 exact ⟨_,le_refl _,rfl⟩
theorem a_jempty (s : Sf.St) (h : Hp) : ACall Tryz.prog GT 109 [s.A] h fun r h' => r = .bool (Jr.emptyB s) ∧ h' = h:=by
 obtain ⟨lin,ser,ins,ps,os⟩:=s
 have l1 : (ins.map Sf.Inst.cells).length = ins.length:=List.length_map _
 have l2 : (ps.map Sf.Pend.cells).length = ps.length:=List.length_map _
 have l3 : (os.map Sf.Outp.cells).length = os.length:=List.length_map _
 unfold Sf.St.A Jr.emptyB
 dsimp only
 refine pcall ?_ rfl (by simp [A.pure,A.data]) h
 refine acall_of mixedT h_jempty (by simp [c_jempty]) ?_
 dsimp only [c_jempty]
 refine runx0 (ai l1 (ai l2 l3)) ti ?_
 exact ⟨_,le_refl _,rfl⟩
theorem a_jmakes (n : Int) (h : Hp) : ACall Tryz.prog GT 111 [.int .i64 n] h fun r h' => r = .bool (Jr.makesB n) ∧ h' = h:=by
 refine pcall ?_ rfl (by simp [A.pure,A.data]) h
 refine acall_of mixedT h_jmakes (by simp [c_jmakes]) ?_
 dsimp only [c_jmakes]
 unfold Jr.makesB
 refine runx0 ti ti ?_
 exact ⟨_,le_refl _,rfl⟩
theorem a_jinst (x : Sf.Inst) (hl : x.attrs.lens) (hd : x.deps.length ≤ 1000000000) (h : Hp) : ACall Tryz.prog GT 112 [.agg (Sf.Inst.cells x)] h fun r h' => r = .bool (Jr.instB x) ∧ h' = h:=by
 obtain ⟨a,d,i,t,⟨k,n,s,is,ks⟩,v,tn,fi,ds⟩:=x
 have l3:=strsA_length ds
 have c1:=a_jshort [a,d,i,t] (by simp)
 have c2:=a_jshort ds hd
 have c3:=a_vCheck (.mk k n s is ks) hl
 simp only [V.A,V.cells] at c3
 unfold Sf.Inst.cells Jr.instB
 dsimp only
 obtain ⟨b1,h1⟩ : ∃ b,Jr.shortB [a,d,i,t] = b:=⟨_,rfl⟩
 obtain ⟨b2,h2⟩ : ∃ b,Jr.shortB ds = b:=⟨_,rfl⟩
 obtain ⟨Z,hZ⟩ : ∃ b,Val.checkZ (.mk k n s is ks) = b:=⟨_,rfl⟩
 rw [h1] at c1
 rw [h2] at c2
 rw [hZ] at c3
 rw [h1,h2,hZ]
 have c1' : ∀ h,ACall Tryz.prog GT 115 [.sl 1 .no [[.str a],[.str d],[.str i],[.str t]]] h fun r h' => r = .bool b1 ∧ h' = h:=c1
 refine pcall ?_ rfl (by simp [A.pure,A.data]) h
 refine acall_of mixedT h_jinstance (by simp [c_jinstance]) ?_
 dsimp only [c_jinstance]
 refine runx0 l3 (ai c1' (ai c2 (ai c3 ti))) ?_
 exact ⟨_,le_refl _,rfl⟩
theorem a_jbare (r : Jr) (h : Hp) : ACall Tryz.prog GT 113 [.agg r.cells] h fun v h' => v = .bool r.bareB ∧ h' = h:=by
 obtain ⟨kd,⟨lin,ser,ins,ps,os⟩,st,op,ad,dp,ty,tk,er,⟨a,d,i,t,⟨k,n,s,is,ks⟩,v,tn,fi,ds⟩⟩:=r
 unfold Jr.bareB
 simp only [Jr.cells,Sf.Inst.cells,List.cons_append,List.nil_append]
 refine pcall ?_ rfl (by simp [A.pure,A.data]) h
 refine acall_of mixedT h_jbare (by simp [c_jbare]) ?_
 dsimp only [c_jbare]
 refine runx0 ti ti ?_
 exact ⟨_,le_refl _,rfl⟩
theorem a_jstep (r : Jr) (h : Hp) : ACall Tryz.prog GT 114 [.agg r.cells] h fun v h' => v = .bool r.stepB ∧ h' = h:=by
 obtain ⟨kd,⟨lin,ser,ins,ps,os⟩,st,op,ad,dp,ty,tk,er,⟨a,d,i,t,⟨k,n,s,is,ks⟩,v,tn,fi,ds⟩⟩:=r
 unfold Jr.stepB
 simp only [Jr.cells,Sf.Inst.cells,List.cons_append,List.nil_append]
 have c1:=a_jshort [ad,dp,ty] (by simp)
 obtain ⟨b1,h1⟩ : ∃ b,Jr.shortB [ad,dp,ty] = b:=⟨_,rfl⟩
 rw [h1] at c1 ⊢
 have c1' : ∀ h,ACall Tryz.prog GT 115 [.sl 1 .no [[.str ad],[.str dp],[.str ty]]] h fun r h' => r = .bool b1 ∧ h' = h:=c1
 refine pcall ?_ rfl (by simp [A.pure,A.data]) h
 refine acall_of mixedT h_jstep (by simp [c_jstep]) ?_
 dsimp only [c_jstep]
 refine runx0 ti (ai c1' ti) ?_
 exact ⟨_,le_refl _,rfl⟩
theorem a_jvalid (r : Jr) (hl : r.after.attrs.lens) (hd : r.after.deps.length ≤ 1000000000) (h : Hp) : ACall Tryz.prog GT 60 [.agg r.cells] h fun v h' => v = .bool r.validB ∧ h' = h:=by
 have ce:=a_jempty r.base
 have cn:=a_jnone r.after
 have cm:=a_jmakes r.op
 have ci:=a_jinst r.after hl hd
 have cb:=a_jbare r
 have cs:=a_jstep r
 have ct:=a_jshort [r.tok] (by simp)
 have hbad : Jr.badB r = (r.kind != 1 && !Jr.emptyB r.base || r.kind != 2 && r.tok != [] || r.kind != 4 && r.err != 0):=rfl
 have haft : Jr.afterB r = (Jr.noneB r.after || Jr.makesB r.op && Jr.instB r.after):=rfl
 unfold Jr.validB
 obtain ⟨bad,hbd⟩ : ∃ b,Jr.badB r = b:=⟨_,rfl⟩
 obtain ⟨aft,haf⟩ : ∃ b,Jr.afterB r = b:=⟨_,rfl⟩
 obtain ⟨e,he⟩ : ∃ b,Jr.emptyB r.base = b:=⟨_,rfl⟩
 obtain ⟨n,hn⟩ : ∃ b,Jr.noneB r.after = b:=⟨_,rfl⟩
 obtain ⟨m,hm⟩ : ∃ b,Jr.makesB r.op = b:=⟨_,rfl⟩
 obtain ⟨i,hi⟩ : ∃ b,Jr.instB r.after = b:=⟨_,rfl⟩
 obtain ⟨b,hb⟩ : ∃ b,r.bareB = b:=⟨_,rfl⟩
 obtain ⟨s,hs⟩ : ∃ b,r.stepB = b:=⟨_,rfl⟩
 obtain ⟨t,ht⟩ : ∃ b,Jr.shortB [r.tok] = b:=⟨_,rfl⟩
 rw [hbd,he] at hbad
 rw [haf,hn,hm,hi] at haft
 rw [he] at ce; rw [hn] at cn; rw [hm] at cm; rw [hi] at ci; rw [hb] at cb; rw [hs] at cs; rw [ht] at ct
 rw [hbd,haf,hn,hb,hs,ht]
 clear hbd haf he hn hm hi hb hs ht hl hd
 obtain ⟨kd,⟨lin,ser,ins,ps,os⟩,st,op,ad,dp,ty,tk,er,⟨a1,a2,a3,a4,⟨k,nn,ss,is,ks⟩,v,tn,fi,ds⟩⟩:=r
 have ct' : ∀ h,ACall Tryz.prog GT 115 [.sl 1 .no [[.str tk]]] h fun r h' => r = .bool t ∧ h' = h:=ct
 simp only [Jr.cells,Sf.Inst.cells,List.cons_append,List.nil_append,Sf.St.A] at *
 refine pcall ?_ rfl (by simp [A.pure,A.data]) h
 refine acall_of mixedT h_jvalid (by simp [c_jvalid]) ?_
 dsimp only [c_jvalid]
 refine runx0 ti (ai ce ti) ?_
 (refine AX.alt0 ti ?_ ?_)
 ·intro hc
  rw [hc] at hbad
  subst hbad
  refine runx0 ti ti ?_
  exact ⟨_,le_refl _,rfl⟩
 intro hc
 rw [hc] at hbad
 subst hbad
 rw [if_neg (by decide)]
 refine runx0 ti (ai cn (ai cm (ai ci ti))) ?_
 by_cases q1 : kd = 1
 ·subst q1
  rw [if_pos (.inl rfl)]
  refine runx0 ti (ai cb (ai cn ti)) ?_
  exact ⟨_,le_refl _,rfl⟩
 have f1 : (kd == 1) = false:=by simp [q1]
 by_cases q5 : kd = 5
 ·subst q5
  rw [if_pos (.inr rfl)]
  refine runx0 ti (ai cb (ai cn ti)) ?_
  exact ⟨_,le_refl _,rfl⟩
 have f5 : (kd == 5) = false:=by simp [q5]
 rw [if_neg (by simp [q1,q5])]
 by_cases q2 : kd = 2
 ·subst q2
  rw [if_pos rfl]
  refine runx0 ti (ai cs (ai cn (ai ct' ti))) ?_
  exact ⟨_,le_refl _,rfl⟩
 have f2 : (kd == 2) = false:=by simp [q2]
 rw [if_neg q2]
 by_cases q3 : kd = 3
 ·subst q3
  rw [if_pos rfl,haft]
  refine runx0 ti (ai cs ti) ?_
  exact ⟨_,le_refl _,rfl⟩
 have f3 : (kd == 3) = false:=by simp [q3]
 rw [if_neg q3]
 by_cases q4 : kd = 4
 ·subst q4
  rw [if_pos rfl,haft]
  refine runx0 ti (ai cs ti) ?_
  exact ⟨_,le_refl _,rfl⟩
 have f4 : (kd == 4) = false:=by simp [q4]
 rw [if_neg q4]
 refine runx0 (ai f1 (ai f2 (ai f3 (ai f4 f5)))) ti ?_
 exact ⟨_,le_refl _,rfl⟩
end AX
def BWtr (B b : Nat) (l : List UInt8) (w : World) : Prop:=
 B ≤ b ∧ ∃ p v,(p = .pointer none ∨ p = .pointer (some ⟨b,0,none⟩)) ∧ w.heap[b]? = some (.cells #[p,v] 173 (0,0)) ∧ w.ownsRowF B 5 1 v l.length (Lib.byteCells l) ∧ v.ownBlock ≠ some b
def BWtrU (B b : Nat) (l : List UInt8) (w : World) : Prop:=
 B ≤ b ∧ ∃ v,w.heap[b]? = some (.cells #[.pointer (some ⟨b,0,none⟩),v] 173 (0,0)) ∧ w.ownsRowF B 5 1 v l.length (Lib.byteCells l) ∧ v.ownBlock ≠ some b
set_option maxRecDepth 100000 in
theorem bwtr_fresh (b : Nat) (w : World) (h0 : w.cell? ⟨b,0,none⟩ = some (.pointer none)) (hsh : w.shape? b = some (173,2)) (hfz : w.frozen? ⟨b,0,none⟩ = false) :
  Calls Tryz.prog 194 #[.pointer (some ⟨b,0,none⟩)] w fun e w' => e = .returned (.tuple #[]) ∧ w' = w.setCell ⟨b,0,none⟩ (.pointer (some ⟨b,0,none⟩)):=by
 obtain ⟨j,hj,hjs⟩:=Option.map_eq_some_iff.1 (show (Tryz.prog.info? 173).map (·.size) = some 2 by kernel_rfl)
 have hlies : liesAt Tryz.prog Tryz.prog.depth 173 (2 / Tryz.prog.cellsOf 173) 0 173 1 = true:=by kernel_rfl
 go_enter Tryz.func194,Tryz.ntmps194
 go_wp2
 rw [Lib.run_to_unsafe w ⟨b,0,none⟩ Tryz.underlying170 Tryz.underlying284 hj (by rw [hjs]; decide) hsh (by show 0 < 2; omega)]
 simp only [Result.andThen]
 rw [Oper.upon_value]
 go_wp2
 rw [run_callFunc_extern Tryz.func247 (by kernel_rfl) (by kernel_rfl) (by kernel_rfl) (e:=Extern.AbiNoEscape.same) (by kernel_rfl)]
 rw [Lib.run_noEscape]
 simp only [Result.andThen]
 rw [Oper.upon_value]
 go_wp2
 rw [Lib.run_from_unsafe w ⟨b,0,none⟩ Tryz.underlying284 Tryz.underlying170 hj hsh hlies]
 simp only [Result.andThen]
 rw [Oper.upon_value]
 go_wp2
 go_end0
 exact ⟨rfl,rfl⟩
theorem cell_row2 {w : World} {b : Nat} {p v : Value} {T : TypeId} (h : w.heap[b]? = some (.cells #[p,v] T (0,0))) : w.cell? ⟨b,0,none⟩ = some p ∧ w.cell? ⟨b,1,none⟩ = some v ∧ (∀ i,w.frozen? ⟨b,i,none⟩ = false) ∧ w.shape? b = some (T,2) ∧ b < w.heap.size:=by
 refine ⟨?_,?_,fun i => ?_,?_,(Array.getElem?_eq_some_iff.1 h).1⟩
 ·rw [cell_of_row _ _ _ _ _ _ h]; rfl
 ·rw [cell_of_row _ _ _ _ _ _ h]; rfl
 ·simp [World.frozen?,h]
 ·simp [World.shape?,h]
theorem BWtr.used {B b : Nat} {l : List UInt8} {w : World} {p v : Value} (hB : B ≤ b) (hb : w.heap[b]? = some (.cells #[p,v] 173 (0,0))) (hown : w.ownsRowF B 5 1 v l.length (Lib.byteCells l)) (hne : v.ownBlock ≠ some b) :
  BWtrU B b l (w.setCell ⟨b,0,none⟩ (.pointer (some ⟨b,0,none⟩))):=by
 refine ⟨hB,v,?_,?_,hne⟩
 ·simp [World.setCell,Array.getElem?_modify,hb]
 ·exact hown.kept (row:=some b) ⟨rfl,rfl,rfl,by simp [World.setCell],fun k _ hk => Below.heap_setCell _ _ _ _ (fun e => hk (by simp [e]))⟩ (Or.inr hne)
def BF (F : Nat → Prop) (b : Nat) (l : List UInt8) (w : World) : Prop:=
 ∃ p v,(p = .pointer none ∨ p = .pointer (some ⟨b,0,none⟩)) ∧ w.heap[b]? = some (.cells #[p,v] 173 (0,0)) ∧ w.ownsRowF 0 5 1 v l.length (Lib.byteCells l) ∧ v.ownBlock ≠ some b ∧ F b ∧ ∀ k,v.ownBlock = some k → F k
theorem bf_check {F : Nat → Prop} {b : Nat} {l : List UInt8} {w : World} (h : BF F b l w) :
  Calls Tryz.prog 194 #[.pointer (some ⟨b,0,none⟩)] w fun e w' => e = .returned (.tuple #[]) ∧ (∃ v,w'.heap[b]? = some (.cells #[.pointer (some ⟨b,0,none⟩),v] 173 (0,0)) ∧ w'.ownsRowF 0 5 1 v l.length (Lib.byteCells l) ∧ v.ownBlock ≠ some b ∧ F b ∧ ∀ k,v.ownBlock = some k → F k) ∧ Fr F w w':=by
 obtain ⟨p,v,hp,hb,hown,hne,hF,hFk⟩:=h
 obtain ⟨c0,c1,hf,hsh,hlt⟩:=cell_row2 hb
 rcases hp with rfl | rfl
 ·refine (bwtr_fresh b w c0 hsh (hf 0)).mono ?_
  rintro e w' ⟨rfl,rfl⟩
  obtain ⟨_,v',hb',hown',hne'⟩:=BWtr.used (B:=0) (Nat.zero_le _) hb hown hne
  have hv : v' = v:=by
   have:=(cell_row2 hb').2.1
   have h2 : (w.setCell ⟨b,0,none⟩ (.pointer (some ⟨b,0,none⟩))).heap[b]? = some (.cells #[.pointer (some ⟨b,0,none⟩),v] 173 (0,0)):=by simp [World.setCell,Array.getElem?_modify,hb]
   have h3:=(cell_row2 h2).2.1
   rw [h3] at this; injection this with this; exact this.symm
  subst hv
  exact ⟨rfl,⟨v',hb',hown',hne',hF,hFk⟩,Fr.set w b 0 _ hF⟩
 ·refine (Any.Builder_copyCheck_used Tryz.lays240 Tryz.Builder_X72_240 b w c0).mono ?_
  rintro e w' ⟨rfl,rfl⟩
  exact ⟨rfl,⟨v,hb,hown,hne,hF,hFk⟩,Fr.refl F _⟩
set_option maxRecDepth 100000 in
theorem bf_write {F : Nat → Prop} {b : Nat} {l : List UInt8} {w : World} (h : BF F b l w) (s : List UInt8) (hlen : l.length + s.length ≤ 1000000000) :
  Calls Tryz.prog 124 #[.pointer (some ⟨b,0,none⟩),.string ⟨s.toArray⟩] w fun e w' => e = .returned (.tuple #[.int .i64 s.length,.nilIface]) ∧ BF (fun k => F k ∨ w.heap.size ≤ k) b (l ++ s) w' ∧ Fr F w w':=by
 obtain ⟨i0,hi,hz0,hz1,hz2⟩:=info_parts info_byte
 go_enter Tryz.func124,Tryz.ntmps124
 go_wp2_with fail
 (with_reducible refine (bf_check h).mono ?_)
 rintro e w1 ⟨rfl,⟨v,hbk,hown,hne,hF,hFk⟩,hb1⟩
 obtain ⟨c0,c1,hf,hsh,hlt⟩:=cell_row2 hbk
 go_wp2_with (at_builtin; refine wpList_append_F _ rfl _ _ 171 9 rfl 5 i0 Tryz.underlying171 Tryz.underlying9 hi hz0 hz1 hz2 _ _ _ rfl hown ⟨s.toArray⟩ rfl ?c3 ?c4 ?_)
 case c3 => rw [size_mk]; unfold maxLen; omega
 case c4 => rw [size_mk]; omega
 intro v' w2 hown' hgrow hwhere
 have hb2 : w2.heap[b]? = some (.cells #[.pointer (some ⟨b,0,none⟩),v] 173 (0,0)):=(hgrow.block b hlt (fun e => hne e.symm)).trans hbk
 obtain ⟨d0,d1,hf2,_,hlt2⟩:=cell_row2 hb2
 have f1:=hf2 1
 have hown2 : w2.ownsRowF 0 5 1 v' (l ++ s).length (Lib.byteCells (l ++ s)):=by
  have e1 : (⟨s.toArray⟩ : ByteArray).size = s.length:=size_mk s
  have e2 : Lib.byteCells l ++ Lib.strCells ⟨s.toArray⟩ = Lib.byteCells (l ++ s):=by unfold Lib.strCells Lib.byteCells; simp
  rw [List.length_append,← e2,← e1]; exact hown'
 have hne2:=Lib.ownBlock_neF hown2 hb2 (show 173 ≠ 5 by decide)
 have hwb1:=hb1.size
 have Hfin:=kept (show BF (fun k => F k ∨ w.heap.size ≤ k) b (l ++ s) (w2.setCell ⟨b,1,none⟩ v') from by
  refine ⟨_,v',.inr rfl,?_,?_,hne2,.inl hF,fun k hk => ?_⟩
  ·simp [World.setCell,Array.getElem?_modify,hb2]
  ·exact hown2.kept (row:=some b) ⟨rfl,rfl,rfl,by simp [World.setCell],fun k _ hk => Below.heap_setCell _ _ _ _ (fun e => hk (by simp [e]))⟩ (Or.inr hne2)
  ·rcases hwhere k hk with h1 | h1
   ·exact .inl (hFk k h1)
   ·exact .inr (by omega))
 have Hfr:=kept ((hb1.trans (Fr.grown hgrow fun k hk => hFk k hk)).trans (Fr.set w2 b 1 v' hF))
 obtain ⟨ao,n',cap,rfl⟩ : ∃ ao n' cap,v' = .slice ao n' cap:=by
  rcases hown'.2 with ⟨hv,_⟩ | ⟨g,cap,cur,fz,hv,_⟩
  ·exact ⟨_,_,_,hv⟩
  ·exact ⟨_,_,_,hv⟩
 clear hown' hown2 hne2 hb2 hbk hown hne hgrow hb1 h hwhere
 go_wp2
 go_ret2
 exact ⟨by simp,Hfin.out,Hfr.out⟩
set_option maxRecDepth 100000 in
theorem bf_string {F : Nat → Prop} {b : Nat} {l : List UInt8} {w : World} (h : BF F b l w) (h0 : l ≠ []) :
  Calls Tryz.prog 125 #[.pointer (some ⟨b,0,none⟩)] w fun e w' => e = .returned (.string ⟨l.toArray⟩) ∧ Fr F w w':=by
 obtain ⟨p,v,hp,hbk,hown,hne,hFb,hFk⟩:=h
 have hl0 : l.length ≠ 0:=by simpa using h0
 obtain ⟨g,cap,cur,fz,rfl,hbg,hg,hfz,hnc,hcm,hcs,htake⟩ : ∃ g cap cur fz,v = .slice (some ⟨g,0,none⟩) l.length cap ∧ 0 ≤ g ∧ w.heap[g]? = some (.cells cur 5 fz) ∧ fz.2 ≤ l.length * 1 ∧ l.length ≤ cap ∧ cap ≤ maxLen ∧ cur.size = cap * 1 ∧ cur.toList.take (l.length * 1) = Lib.byteCells l:=by
  rcases hown.2 with ⟨_,hz⟩ | ⟨g,cap,cur,fz,hv,r⟩
  ·exact absurd hz hl0
  ·exact ⟨g,cap,cur,fz,hv,r⟩
 have HFg:=kept (hFk g rfl)
 have c1 : w.drew.cell? ⟨b,1,none⟩ = some (.slice (some ⟨g,0,none⟩) l.length cap):=(cell_row2 hbk).2.1
 have hSD : (Builtin.unsafeSliceData_ #[171] 235 #[.slice (some ⟨g,0,none⟩) l.length cap]).run Tryz.prog w.drew = .ok (.pointer (some ⟨g,0,none⟩)) w.drew:=
  Lib.run_unsafeSliceData_row _ _ _ _ _ _ (by omega)
 have hUS : (Builtin.unsafeString_ #[235,3] 9 #[.pointer (some ⟨g,0,none⟩),.int .i64 l.length]).run Tryz.prog w.drew = .ok (.string ⟨l.toArray⟩) (w.drew.freeze ⟨g,0,none⟩ l.length):=by
  refine Lib.run_unsafeString_row w.drew 235 3 9 5 Tryz.underlying235 Tryz.Builder_Extra_169.cellsByte g cur.size (by have hg' : w.drew.heap[g]? = some (.cells cur 5 fz):=hg; simp [World.shape?,hg']) l h0 (by omega) (by unfold maxLen at hcm; omega) ?_
  intro j x hx
  have:=hown.cells (g:=g) rfl j (.int .u8 x.toNat) (by simp [Lib.byteCells,hx])
  exact this
 have Hfr:=kept (show Fr F w (w.drew.freeze ⟨g,0,none⟩ l.length) from by
  unfold World.freeze
  split
  ·exact ⟨rfl,rfl,rfl,Nat.le_refl _,fun _ _ _ => rfl⟩
  ·refine ⟨rfl,rfl,rfl,by simp,fun k hk hn => ?_⟩
   have hkg : k ≠ g:=fun e => hn (by rw [e]; exact HFg.out)
   simp only [Array.getElem?_modify,if_neg hkg.symm]; rfl)
 clear hown hp hne hbk hnc hcm hcs htake hfz hg hl0 h0 hFk hFb
 have mixed:=Tryz.lays169.mixed
 go_enter Tryz.func125,Tryz.ntmps125
 go_wp2
 go_region_o
 all_goals (go_wp2; go_ret; exact ⟨rfl,Hfr.out⟩)
namespace AX
def bwt (l : List UInt8) : Blk:=.opq (fun F g w => BF F g l w) (fun _ => none)
def Bt (h : Hp) (i : Nat) (l : List UInt8) : Prop:=h.b[i]? = some (bwt l) ∨ (l = [] ∧ h.b[i]? = some (.cells 173 [.nilp,.sl 0 .nil []]))
theorem BF.stable {F : Nat → Prop} {b : Nat} {l : List UInt8} {w w' : World} (h : BF F b l w) (hs : ∀ g,F g → w'.heap[g]? = w.heap[g]?) : BF F b l w':=by
 obtain ⟨p,v,hp,hb,hown,hne,hF,hFk⟩:=h
 refine ⟨p,v,hp,(hs b hF).trans hb,⟨hown.1,?_⟩,hne,hF,hFk⟩
 rcases hown.2 with h1 | ⟨g,cap,cur,fz,rfl,h2,h3,h4⟩
 ·exact .inl h1
 ·exact .inr ⟨g,cap,cur,fz,rfl,h2,(hs g (hFk g rfl)).trans h3,h4⟩
theorem Bt.lt {h : Hp} {i : Nat} {l : List UInt8} (hw : Bt h i l) : i < h.b.length:=by
 rcases hw with h1 | ⟨_,h1⟩
 ·exact (List.getElem?_eq_some_iff.1 h1).1
 ·exact (List.getElem?_eq_some_iff.1 h1).1
theorem Bt.bf {h : Hp} {i : Nat} {l : List UInt8} {C : Ctx} {G : World → Prop} (hw : Bt h i l) (hI : Inv G C h) : BF (fun g => C.own g = some i) (C.κ i) l C.w:=by
 have hi : i < C.nb:=by rw [← hI.nb]; exact hw.lt
 rcases hw with h1 | ⟨rfl,h1⟩
 ·exact (hI.box i _ h1).1 C.w (fun _ _ => rfl) (Nat.le_refl _)
 ·obtain ⟨cs,k1,k2⟩:=hI.box i _ h1
  obtain ⟨c0,d0,rfl,e0,k2⟩:=repL_cons.1 k2
  obtain ⟨c1,d1,rfl,e1,k2⟩:=repL_cons.1 k2
  rw [repL_nil] at k2; subst k2
  rw [rep_nilp] at e0; subst e0
  obtain ⟨a,cap,rfl,_,_,e3,e4,_⟩:=rep_sl.1 e1
  subst e3; subst e4
  exact ⟨_,_,.inl rfl,k1,⟨rfl,.inl ⟨rfl,rfl⟩⟩,by simp [Value.ownBlock],hI.ownk i hi,fun k hk => by simp [Value.ownBlock] at hk⟩
theorem bwtr_rep {C : Ctx} {i : Nat} {l : List UInt8} (h : BF (fun g => C.own g = some i) (C.κ i) l C.w) : BlkRep C i (bwt l):=by
 refine ⟨fun w' hw _ => BF.stable h hw,fun o x hx => ?_⟩
 cases hx
theorem a_bwrite {h : Hp} {i : Nat} {l : List UInt8} (hw : Bt h i l) (s : List UInt8) (hlen : l.length + s.length ≤ 1000000000) :
  ACall Tryz.prog GT 124 [.ptr i 0,.str s] h fun v h' => v = .tup [.int .i64 s.length,.nili] ∧ h' = ⟨h.b.set i (bwt (l ++ s)),h.t⟩:=by
 intro C es hI ha
 obtain ⟨c,es',rfl,h1,h2⟩:=repL_cons.1 ha
 obtain ⟨rfl,hi⟩:=rep_ptr.1 h1
 obtain rfl:=args1 r_str C es' h2
 refine (bf_write (hw.bf hI) s hlen).mono ?_
 rintro e w' ⟨rfl,m1,m2⟩
 have hrep : BlkRep (C.turn w' i true) i (bwt (l ++ s)):=by
  refine bwtr_rep ?_
  obtain ⟨p,v,hp,hb,hown,hne,hF,hFk⟩:=m1
  have hlt:=(cell_row2 hb).2.2.2.2
  have hcl : ∀ k,k < w'.heap.size → (C.own k = some i ∨ C.w.heap.size ≤ k) → (C.turn w' i true).own k = some i:=fun k hk hor => by
   show (if k < C.w.heap.size then C.own k else if true = true ∧ k < w'.heap.size then some i else none) = some i
   split
   ·rcases hor with h3 | h3
    ·exact h3
    ·omega
   ·rw [if_pos ⟨rfl,hk⟩]
  refine ⟨p,v,hp,hb,hown,hne,hcl _ hlt hF,fun k hk => hcl k ?_ (hFk k hk)⟩
  rcases hown.2 with ⟨rfl,_⟩ | ⟨g,cap,cur,fz,rfl,_,h3,_⟩
  ·simp [Value.ownBlock] at hk
  ·simp only [Value.ownBlock,Option.some.injEq] at hk; subst hk
   exact (Array.getElem?_eq_some_iff.1 h3).1
 obtain ⟨i1,s1⟩:=box_turn (b':=bwt (l ++ s)) true hI hi m2.os m2.tape m2.output m2.size (fun g hg hne => m2.block g hg hne) (fun _ => hrep)
 exact ⟨_,_,.tup [.int .i64 s.length,.nili],_,rfl,rfl,i1,s1,rep_tup.2 ⟨_,rfl,repL_cons.2 ⟨_,_,rfl,rep_int.2 rfl,repL_cons.2 ⟨_,_,rfl,rep_nili.2 rfl,repL_nil.2 rfl⟩⟩⟩,rfl,rfl⟩
theorem a_bstring {h : Hp} {i : Nat} {l : List UInt8} (hw : Bt h i l) (h0 : l ≠ []) : ACall Tryz.prog GT 125 [.ptr i 0] h fun v h' => v = .str l ∧ h' = ⟨h.b.set i dead,h.t⟩:=by
 intro C es hI ha
 obtain ⟨c,es',rfl,h1,h2⟩:=repL_cons.1 ha
 obtain ⟨rfl,hi⟩:=rep_ptr.1 h1
 rw [repL_nil] at h2; subst h2
 refine (bf_string (hw.bf hI) h0).mono ?_
 rintro e w' ⟨rfl,m2⟩
 obtain ⟨i1,s1⟩:=box_turn (b':=dead) false hI hi m2.os m2.tape m2.output m2.size (fun g hg hne => m2.block g hg hne) (fun _ => ⟨fun _ _ _ => trivial,fun o x hx => by cases hx⟩)
 exact ⟨_,_,.str l,_,rfl,rfl,i1,s1,rep_str.2 rfl,rfl,rfl⟩
end AX
end Go.Proofs.YteklhoajalgehaaGreatDoor
