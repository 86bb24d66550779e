/- Part of what the proof needs. -/
import Derived.Test.YteklhoajalgehaaGreatDoorMFrJournalChecksUptoL
import Derived.Test.YteklhoajalgehaaGreatDoorMFrJournalChecksUptoM
import Derived.Test.YteklhoajalgehaaGreatDoorMFrJournalChecksUptoN
import Derived.Shelf.Slices.Clone
set_option maxHeartbeats 4000000
set_option linter.unusedSimpArgs false
set_option linter.unusedVariables false
set_option linter.unnecessarySimpa false
namespace Go.Proofs.YteklhoajalgehaaGreatDoor
open Go.RowKit
set_option maxRecDepth 100000 in
theorem clone_steps (b off n c : Nat) (news : List Value) (w : World) (hl : news.length = n * 4) (hn : 0 < n) (hbig : n * 48 ≤ 140737488355328) (hmax : n ≤ maxLen) (hc : ∀ j v,news[j]? = some v → w.cell? ((⟨b,off,none⟩ : Addr).add j) = some v) (h1 : ∀ u ∈ news,u.oneCell' = true) :
  Calls Tryz.prog 309 #[.slice (some ⟨b,off,none⟩) n c] w fun e w' => ∃ v',e = .returned v' ∧ w'.ownsRow w.heap.size 273 4 v' n news ∧ Below w.heap.size w w':=by
 obtain ⟨i0,hi,hz0,hz1,hz2⟩:=info_parts (show (Tryz.prog.info? 273).map (fun i => (i.zero,i.size,i.bytes)) = some (some (.agg #[.string ⟨#[]⟩,.int .i64 0,.int .i64 0,.string ⟨#[]⟩]),4,48) by kernel_rfl)
 have q22 : ∀ (w : World) (a : Option Addr) (n c n' c' : Nat),(binOp .eql 219 (.slice a n c) (.slice none n' c')).run Tryz.prog w = .ok (.bool a.isNone) w:=fun w a n c n' c' => Lib.run_eql_slice_nil w _ _ a n c n' c' Tryz.underlying219
 have u22 : ∀ w,Sem.run Tryz.prog (underlying 219) w = .ok (TypeDesc.slice 273) w:=run_underlying Tryz.underlying219
 have HC:=kept hc
 have H1:=kept h1
 clear hc h1
 go_enter Tryz.func309,Tryz.ntmps309
 go_wp2_with (at_builtin; refine wpList_append_own _ rfl _ _ 219 rfl w.heap.size 273 i0 (.agg #[.string ⟨#[]⟩,.int .i64 0,.int .i64 0,.string ⟨#[]⟩]) 4 48 Tryz.underlying219 hi hz0 hz1 hz2 rfl (by decide) _ _ _ rfl (World.ownsRow_made w #[] 0 (Nat.le_refl _) (Nat.zero_le _) rfl) ⟨b,off,none⟩ n c news rfl ?qc1 ?qc2 ?qc3 ?qc4 ?qc5 ?qc6 ?_)
 case qc1 => exact hl
 case qc2 =>
  intro j u hj
  have:=HC.out j u hj
  rw [Addr.add_lit] at this ⊢
  exact Lib.cell?_alloc_some _ this
 case qc3 => exact H1.out
 case qc4 => omega
 case qc5 => omega
 case qc6 => simp
 intro v' w1 hown hgrow hnil
 have Hb:=kept (((Below.refl _ w).alloc (Nat.le_refl _) (.cells #[] 273)).grown hgrow (by simp) (by intro k hk; simp [Value.ownBlock] at hk; omega))
 have Ho:=kept (show w1.ownsRow w.heap.size 273 4 v' n news by simpa using hown)
 clear hown hgrow hnil HC H1
 go_wp2
 go_ret
 exact ⟨v',rfl,Ho.out,Hb.out⟩
theorem clone_steps0 (a : Option Addr) (c : Nat) (w : World) :
  Calls Tryz.prog 309 #[.slice a 0 c] w fun e w' => (∃ a' c',e = .returned (.slice a' 0 c')) ∧ Below w.heap.size w w':=by
 have q22 : ∀ (w : World) (a : Option Addr) (n c n' c' : Nat),(binOp .eql 219 (.slice a n c) (.slice none n' c')).run Tryz.prog w = .ok (.bool a.isNone) w:=fun w a n c n' c' => Lib.run_eql_slice_nil w _ _ a n c n' c' Tryz.underlying219
 have u22 : ∀ w,Sem.run Tryz.prog (underlying 219) w = .ok (TypeDesc.slice 273) w:=run_underlying Tryz.underlying219
 cases a with
 | none =>
  go_enter Tryz.func309,Tryz.ntmps309
  go_wp2
  go_ret
  exact ⟨⟨_,_,rfl⟩,Below.refl _ _⟩
 | some ad =>
  obtain ⟨i0,hi,hz0,hz1,hz2⟩:=info_parts (show (Tryz.prog.info? 273).map (fun i => (i.zero,i.size,i.bytes)) = some (some (.agg #[.string ⟨#[]⟩,.int .i64 0,.int .i64 0,.string ⟨#[]⟩]),4,48) by kernel_rfl)
  go_enter Tryz.func309,Tryz.ntmps309
  go_wp2_with (at_builtin; refine wpList_append_own _ rfl _ _ 219 rfl w.heap.size 273 i0 (.agg #[.string ⟨#[]⟩,.int .i64 0,.int .i64 0,.string ⟨#[]⟩]) 4 48 Tryz.underlying219 hi hz0 hz1 hz2 rfl (by decide) _ _ _ rfl (World.ownsRow_made w #[] 0 (Nat.le_refl _) (Nat.zero_le _) rfl) ad 0 c [] rfl rfl (by intro j u hj; simp at hj) (by intro u hu; cases hu) (by unfold maxLen; omega) (by omega) (by simp) ?_)
  intro v' w1 hown hgrow hnil
  have Hb:=kept (((Below.refl _ w).alloc (Nat.le_refl _) (.cells #[] 273)).grown hgrow (by simp) (by intro k hk; simp [Value.ownBlock] at hk; omega))
  have Hv : ∃ a' c',v' = .slice a' 0 c':=by
   rcases hown.2 with ⟨rfl,_⟩ | ⟨g,cap,cur,rfl,_⟩
   ·exact ⟨_,_,rfl⟩
   ·exact ⟨_,_,rfl⟩
  obtain ⟨a',c',rfl⟩:=Hv
  clear hown hgrow hnil
  go_wp2
  go_ret
  exact ⟨⟨_,_,rfl⟩,Hb.out⟩
namespace AX
theorem a_clone_steps0 (W0 : Nat) (o : Own) (h : Hp) : ACall Tryz.prog GT 309 [.sl W0 o []] h fun v h' => v = .sl 4 .no [] ∧ h' = h:=by
 intro C es hI ha
 obtain ⟨c,es',rfl,h1,h2⟩:=repL_cons.1 ha
 rw [repL_nil] at h2; subst h2
 obtain ⟨a,cap,rfl,_,_,_⟩:=rep_sl.1 h1
 refine (clone_steps0 a cap C.w).mono ?_
 rintro e w' ⟨⟨a',c',rfl⟩,hb⟩
 obtain ⟨i1,s1⟩:=inv_below hI hb
 exact ⟨C.at w',h,.sl 4 .no [],_,rfl,rfl,i1,s1,rep_sl.2 ⟨a',c',rfl,Nat.zero_le _,by unfold RepRows; trivial,trivial⟩,rfl,rfl⟩
theorem a_clone_steps (o : Own) (rows : List (List A)) (h0 : rows ≠ []) (hbig : rows.length * 48 ≤ 140737488355328) (hmax : rows.length ≤ maxLen) (h : Hp) :
  ACall Tryz.prog GT 309 [.sl 4 o rows] h fun v h' => v = .bs h.b.length 4 rows.length ∧ h' = ⟨h.b ++ [.row 273 rows.flatten],h.t⟩:=by
 intro C es hI ha
 obtain ⟨c,es',rfl,h1,h2⟩:=repL_cons.1 ha
 rw [repL_nil] at h2; subst h2
 have hpos : 0 < rows.length:=List.length_pos_iff.2 h0
 obtain ⟨g,off,cap,cs,rfl,k1,k2,k3,k4,k5⟩:=sl_open h1 hpos
 refine (clone_steps g off rows.length cap cs C.w k2 hpos hbig hmax k5 (repL_one k1 (data_one k3))).mono ?_
 rintro e w' ⟨v',rfl,hown,hb⟩
 rcases hown.2 with ⟨_,hz⟩ | ⟨g',cap',cur,rfl,hg,hh,hcap,_,hcs,htake⟩
 ·omega
 ·have hcur : cur = (cs ++ cur.toList.drop (rows.length * 4)).toArray:=by
   apply Array.toList_inj.1
   rw [← htake]
   simp
  rw [hcur] at hh
  obtain ⟨C',m1,m2,m3,m4,m5⟩:=new_row hI hb hg hh k1
  exact ⟨C',_,.bs h.b.length 4 rows.length,_,rfl,m1,m2,m3,rep_bs.2 ⟨cap',by rw [m4],hcap,m5⟩,rfl,rfl⟩
end AX
namespace AX
theorem setCells_eq : ∀ (xs l : List A) (off : Nat),off + xs.length ≤ l.length → setCells l off xs = l.take off ++ xs ++ l.drop (off + xs.length):=by
 intro xs
 induction xs with
 | nil => intro l off _; simp [setCells]
 | cons x xs ih =>
  intro l off hlt
  rw [List.length_cons] at hlt
  rw [setCells,ih _ _ (by simp; omega),List.take_add_one,List.getElem?_set_self (by omega),List.take_set_of_le (Nat.le_refl _),List.drop_set_of_lt (by omega)]
  simp [show off + 1 + xs.length = off + (xs.length + 1) by omega]
def bareS (s : Adr.Step) : Adr.Step:=⟨s.name,Adr.K.none⟩
def barL (mods : List Adr.Step) (j : Nat) : List A:=(((mods.take j).map bareS).map Adr.Step.cells).flatten ++ ((mods.drop j).map Adr.Step.cells).flatten
theorem cells_len (l : List Adr.Step) : ((l.map Adr.Step.cells).flatten).length = l.length * 4:=by
 induction l with
 | nil => rfl
 | cons x l ih => rw [List.map_cons,List.flatten_cons,List.length_append,ih]; simp [Adr.Step.cells]; omega
theorem barL_len (mods : List Adr.Step) (j : Nat) (hj : j ≤ mods.length) : (barL mods j).length = mods.length * 4:=by
 unfold barL
 rw [List.length_append,cells_len,cells_len,List.length_map,List.length_take,List.length_drop,← Nat.add_mul]
 congr 1; omega
theorem barL_set (mods : List Adr.Step) (j : Nat) (hj : j < mods.length) : setCells (barL mods j) (j * 4 + 1) [.int .i64 0,.int .i64 0,.str []] = barL mods (j + 1):=by
 rw [setCells_eq _ _ _ (by rw [barL_len _ _ (by omega)]; simp; omega)]
 have hp : ((((mods.take j).map bareS).map Adr.Step.cells).flatten).length = j * 4:=by
  rw [cells_len,List.length_map,List.length_take]; congr 1; omega
 have hd : mods.drop j = mods[j] :: mods.drop (j + 1):=List.drop_eq_getElem_cons hj
 have ht : mods.take (j + 1) = mods.take j ++ [mods[j]]:=by rw [List.take_succ_eq_append_getElem hj]
 unfold barL
 rw [hd,ht,List.map_append,List.map_append,List.flatten_append]
 generalize (((mods.take j).map bareS).map Adr.Step.cells).flatten = p at hp
 obtain ⟨nm,⟨kd,kn,ks⟩⟩:=mods[j]
 simp only [List.map_cons,List.flatten_cons,Adr.Step.cells,List.cons_append,List.nil_append,List.length_cons,List.length_nil]
 generalize ((mods.drop (j + 1)).map Adr.Step.cells).flatten = q
 rw [List.take_append,List.take_of_length_le (by omega),List.drop_append,List.drop_of_length_le (by omega),hp]
 rw [show j * 4 + 1 - j * 4 = 1 by omega,show j * 4 + 1 + (0 + 1 + 1 + 1) - j * 4 = 4 by omega]
 simp [bareS,Adr.K.none,Adr.Step.cells]
theorem a_static0 (a : Adr.Ad) (hn : a.mods.length ≤ 3000000) (h : Hp) : ACall Tryz.prog GT 281 [.agg a.cells] h fun v h' => v = .agg (Adr.bare a).cells ∧ h' = h:=by
 obtain ⟨mods,data,ty,nm,⟨kk,kn,ks⟩⟩:=a
 dsimp only at hn
 have hbc : (Adr.bare ⟨mods,data,ty,nm,⟨kk,kn,ks⟩⟩).cells = [.sl 4 .no ((mods.map fun s => (⟨s.name,Adr.K.none⟩ : Adr.Step)).map Adr.Step.cells),.bool data,.str ty,.str nm,.int .i64 0,.int .i64 0,.str []]:=rfl
 rw [hbc]
 refine pcallz ?_ (by simp [A.pure,A.data,Adr.Ad.cells]) h
 refine fo ?_
 dsimp only [Adr.Ad.cells]
 by_cases hm : mods = []
 ·subst hm
  have hc:=fun h => a_clone_steps0 4 .no h
  have hz : ¬ (0 : Int) < ((0 : Nat) : Int):=by decide
  simp only [List.map_nil]
  refine run0 ti ?_
  refine use (hc _) ?_
  refine run0 ti ?_
  refine go_once ?_
  refine run0 hz ?_
  exact ⟨_,le_refl _,_,rfl,⟨.inl ⟨rfl,rfl⟩,.inl ⟨rfl,rfl⟩,.inl ⟨rfl,rfl⟩,.inl ⟨rfl,rfl⟩,.inl ⟨rfl,rfl⟩,.inl ⟨rfl,rfl⟩,.inl ⟨rfl,rfl⟩,trivial⟩⟩
 ·have hrne : mods.map Adr.Step.cells ≠ []:=by simpa using hm
  have lm : (mods.map Adr.Step.cells).length = mods.length:=List.length_map ..
  have hc:=fun h => a_clone_steps .no (mods.map Adr.Step.cells) hrne (by rw [lm]; omega) (by rw [lm]; unfold maxLen; omega) h
  rw [lm] at hc
  refine run0 ti ?_
  refine use (hc _) ?_
  refine run0 ti ?_
  have hL0 : (mods.map Adr.Step.cells).flatten = barL mods 0:=by unfold barL; simp
  rw [hL0]
  refine awp_loop (fun mm ts h => ∃ (j : Nat) (B0 : Blk),mm = mods.length - j ∧ j ≤ mods.length ∧ h = ⟨[B0,.cells 224 [.sl 0 .nil [],.bool false,.str [],.str [],.int .i64 0,.int .i64 0,.str []],.cells 224 [.bs 3 4 mods.length,.bool data,.str ty,.str nm,.int .i64 0,.int .i64 0,.str []],.row 273 (barL mods j)],[]⟩ ∧ ts 2 = .ptr 1 0 ∧ ts 3 = .ptr 2 0 ∧ ts 14 = .int .i64 (mods.length : Nat) ∧ ts 15 = .int .i64 (j : Nat)) mods.length ?_ ?_
  ·exact ⟨0,_,by omega,by omega,rfl,by (exact ev0 ti),by (exact ev0 ti),by (exact ev0 ti),by (exact inv0 ti)⟩
  rintro mm ts h ⟨j,B0,rfl,hjc,rfl,t2,t3,t14,t15⟩
  by_cases hj : j < mods.length
  ·have hlt : (j : Int) < (mods.length : Int):=by omega
   have hj0 : (0 : Int) ≤ (j : Int):=by omega
   have ei : IntKind.i64.wrap ((j : Int) + 1) = ((j + 1 : Nat) : Int):=by rw [wrap64 (by omega) (by omega)]; omega
   have hset:=barL_set mods j hj
   have hln : j * 4 + 1 + 3 ≤ (barL mods j).length:=by rw [barL_len _ _ (by omega)]; omega
   simp only [setCells] at hset
   refine run0 (ai t2 (ai t3 (ai t14 (ai t15 (ai hlt (ai hj0 (ai hln (ai hset ei)))))))) ?_
   exact ⟨mods.length - (j + 1),by omega,j + 1,B0,rfl,by omega,rfl,by (exact ev0 t2),by (exact ev0 t3),by (exact ev0 t14),by (exact ev0 ei)⟩
  ·have hlt : ¬ ((j : Int) < (mods.length : Int)):=by omega
   have hje : j = mods.length:=by omega
   subst hje
   refine run0 (ai t2 (ai t3 (ai t14 (ai t15 hlt)))) ?_
   refine ⟨_,le_refl _,_,rfl,⟨.inr ⟨3,4,273,(mods.map bareS).map Adr.Step.cells,by simp,?_,rfl,?_,?_⟩,.inl ⟨rfl,rfl⟩,.inl ⟨rfl,rfl⟩,.inl ⟨rfl,rfl⟩,.inl ⟨rfl,rfl⟩,.inl ⟨rfl,rfl⟩,.inl ⟨rfl,rfl⟩,trivial⟩⟩
   ·show some (Blk.row _ _) = some _
    congr 2
    unfold barL
    simp
   ·intro r hr
    obtain ⟨s,_,rfl⟩:=List.mem_map.1 hr
    rfl
   ·rw [List.all_flatten,List.all_eq_true]
    intro r hr
    obtain ⟨s,_,rfl⟩:=List.mem_map.1 hr
    rfl
end AX
def BWtr (B b : Nat) (l : List UInt8) (w : World) : Prop:=
 B ≤ b ∧ ∃ p v,(p = .pointer none ∨ p = .pointer (some ⟨b,0,none⟩)) ∧ w.heap[b]? = some (.cells #[p,v] 173 (0,0)) ∧ w.ownsRowF B 5 1 v l.length (Lib.byteCells l) ∧ v.ownBlock ≠ some b
def BWtrU (B b : Nat) (l : List UInt8) (w : World) : Prop:=
 B ≤ b ∧ ∃ v,w.heap[b]? = some (.cells #[.pointer (some ⟨b,0,none⟩),v] 173 (0,0)) ∧ w.ownsRowF B 5 1 v l.length (Lib.byteCells l) ∧ v.ownBlock ≠ some b
set_option maxRecDepth 100000 in
theorem bwtr_fresh (b : Nat) (w : World) (h0 : w.cell? ⟨b,0,none⟩ = some (.pointer none)) (hsh : w.shape? b = some (173,2)) (hfz : w.frozen? ⟨b,0,none⟩ = false) :
  Calls Tryz.prog 194 #[.pointer (some ⟨b,0,none⟩)] w fun e w' => e = .returned (.tuple #[]) ∧ w' = w.setCell ⟨b,0,none⟩ (.pointer (some ⟨b,0,none⟩)):=by
 obtain ⟨j,hj,hjs⟩:=Option.map_eq_some_iff.1 (show (Tryz.prog.info? 173).map (·.size) = some 2 by kernel_rfl)
 have hlies : liesAt Tryz.prog Tryz.prog.depth 173 (2 / Tryz.prog.cellsOf 173) 0 173 1 = true:=by kernel_rfl
 go_enter Tryz.func194,Tryz.ntmps194
 go_wp2
 rw [Lib.run_to_unsafe w ⟨b,0,none⟩ Tryz.underlying170 Tryz.underlying284 hj (by rw [hjs]; decide) hsh (by show 0 < 2; omega)]
 simp only [Result.andThen]
 rw [Oper.upon_value]
 go_wp2
 rw [run_callFunc_extern Tryz.func247 (by kernel_rfl) (by kernel_rfl) (by kernel_rfl) (e:=Extern.AbiNoEscape.same) (by kernel_rfl)]
 rw [Lib.run_noEscape]
 simp only [Result.andThen]
 rw [Oper.upon_value]
 go_wp2
 rw [Lib.run_from_unsafe w ⟨b,0,none⟩ Tryz.underlying284 Tryz.underlying170 hj hsh hlies]
 simp only [Result.andThen]
 rw [Oper.upon_value]
 go_wp2
 go_end0
 exact ⟨rfl,rfl⟩
theorem cell_row2 {w : World} {b : Nat} {p v : Value} {T : TypeId} (h : w.heap[b]? = some (.cells #[p,v] T (0,0))) : w.cell? ⟨b,0,none⟩ = some p ∧ w.cell? ⟨b,1,none⟩ = some v ∧ (∀ i,w.frozen? ⟨b,i,none⟩ = false) ∧ w.shape? b = some (T,2) ∧ b < w.heap.size:=by
 refine ⟨?_,?_,fun i => ?_,?_,(Array.getElem?_eq_some_iff.1 h).1⟩
 ·rw [cell_of_row _ _ _ _ _ _ h]; rfl
 ·rw [cell_of_row _ _ _ _ _ _ h]; rfl
 ·simp [World.frozen?,h]
 ·simp [World.shape?,h]
theorem BWtr.used {B b : Nat} {l : List UInt8} {w : World} {p v : Value} (hB : B ≤ b) (hb : w.heap[b]? = some (.cells #[p,v] 173 (0,0))) (hown : w.ownsRowF B 5 1 v l.length (Lib.byteCells l)) (hne : v.ownBlock ≠ some b) :
  BWtrU B b l (w.setCell ⟨b,0,none⟩ (.pointer (some ⟨b,0,none⟩))):=by
 refine ⟨hB,v,?_,?_,hne⟩
 ·simp [World.setCell,Array.getElem?_modify,hb]
 ·exact hown.kept (row:=some b) ⟨rfl,rfl,rfl,by simp [World.setCell],fun k _ hk => Below.heap_setCell _ _ _ _ (fun e => hk (by simp [e]))⟩ (Or.inr hne)
def BF (F : Nat → Prop) (b : Nat) (l : List UInt8) (w : World) : Prop:=
 ∃ p v,(p = .pointer none ∨ p = .pointer (some ⟨b,0,none⟩)) ∧ w.heap[b]? = some (.cells #[p,v] 173 (0,0)) ∧ w.ownsRowF 0 5 1 v l.length (Lib.byteCells l) ∧ v.ownBlock ≠ some b ∧ F b ∧ ∀ k,v.ownBlock = some k → F k
theorem bf_check {F : Nat → Prop} {b : Nat} {l : List UInt8} {w : World} (h : BF F b l w) :
  Calls Tryz.prog 194 #[.pointer (some ⟨b,0,none⟩)] w fun e w' => e = .returned (.tuple #[]) ∧ (∃ v,w'.heap[b]? = some (.cells #[.pointer (some ⟨b,0,none⟩),v] 173 (0,0)) ∧ w'.ownsRowF 0 5 1 v l.length (Lib.byteCells l) ∧ v.ownBlock ≠ some b ∧ F b ∧ ∀ k,v.ownBlock = some k → F k) ∧ Fr F w w':=by
 obtain ⟨p,v,hp,hb,hown,hne,hF,hFk⟩:=h
 obtain ⟨c0,c1,hf,hsh,hlt⟩:=cell_row2 hb
 rcases hp with rfl | rfl
 ·refine (bwtr_fresh b w c0 hsh (hf 0)).mono ?_
  rintro e w' ⟨rfl,rfl⟩
  obtain ⟨_,v',hb',hown',hne'⟩:=BWtr.used (B:=0) (Nat.zero_le _) hb hown hne
  have hv : v' = v:=by
   have:=(cell_row2 hb').2.1
   have h2 : (w.setCell ⟨b,0,none⟩ (.pointer (some ⟨b,0,none⟩))).heap[b]? = some (.cells #[.pointer (some ⟨b,0,none⟩),v] 173 (0,0)):=by simp [World.setCell,Array.getElem?_modify,hb]
   have h3:=(cell_row2 h2).2.1
   rw [h3] at this; injection this with this; exact this.symm
  subst hv
  exact ⟨rfl,⟨v',hb',hown',hne',hF,hFk⟩,Fr.set w b 0 _ hF⟩
 ·refine (Any.Builder_copyCheck_used Tryz.lays240 Tryz.Builder_X72_240 b w c0).mono ?_
  rintro e w' ⟨rfl,rfl⟩
  exact ⟨rfl,⟨v,hb,hown,hne,hF,hFk⟩,Fr.refl F _⟩
set_option maxRecDepth 100000 in
theorem bf_write {F : Nat → Prop} {b : Nat} {l : List UInt8} {w : World} (h : BF F b l w) (s : List UInt8) (hlen : l.length + s.length ≤ 1000000000) :
  Calls Tryz.prog 124 #[.pointer (some ⟨b,0,none⟩),.string ⟨s.toArray⟩] w fun e w' => e = .returned (.tuple #[.int .i64 s.length,.nilIface]) ∧ BF (fun k => F k ∨ w.heap.size ≤ k) b (l ++ s) w' ∧ Fr F w w':=by
 obtain ⟨i0,hi,hz0,hz1,hz2⟩:=info_parts info_byte
 go_enter Tryz.func124,Tryz.ntmps124
 go_wp2_with fail
 (with_reducible refine (bf_check h).mono ?_)
 rintro e w1 ⟨rfl,⟨v,hbk,hown,hne,hF,hFk⟩,hb1⟩
 obtain ⟨c0,c1,hf,hsh,hlt⟩:=cell_row2 hbk
 go_wp2_with (at_builtin; refine wpList_append_F _ rfl _ _ 171 9 rfl 5 i0 Tryz.underlying171 Tryz.underlying9 hi hz0 hz1 hz2 _ _ _ rfl hown ⟨s.toArray⟩ rfl ?c3 ?c4 ?_)
 case c3 => rw [size_mk]; unfold maxLen; omega
 case c4 => rw [size_mk]; omega
 intro v' w2 hown' hgrow hwhere
 have hb2 : w2.heap[b]? = some (.cells #[.pointer (some ⟨b,0,none⟩),v] 173 (0,0)):=(hgrow.block b hlt (fun e => hne e.symm)).trans hbk
 obtain ⟨d0,d1,hf2,_,hlt2⟩:=cell_row2 hb2
 have f1:=hf2 1
 have hown2 : w2.ownsRowF 0 5 1 v' (l ++ s).length (Lib.byteCells (l ++ s)):=by
  have e1 : (⟨s.toArray⟩ : ByteArray).size = s.length:=size_mk s
  have e2 : Lib.byteCells l ++ Lib.strCells ⟨s.toArray⟩ = Lib.byteCells (l ++ s):=by unfold Lib.strCells Lib.byteCells; simp
  rw [List.length_append,← e2,← e1]; exact hown'
 have hne2:=Lib.ownBlock_neF hown2 hb2 (show 173 ≠ 5 by decide)
 have hwb1:=hb1.size
 have Hfin:=kept (show BF (fun k => F k ∨ w.heap.size ≤ k) b (l ++ s) (w2.setCell ⟨b,1,none⟩ v') from by
  refine ⟨_,v',.inr rfl,?_,?_,hne2,.inl hF,fun k hk => ?_⟩
  ·simp [World.setCell,Array.getElem?_modify,hb2]
  ·exact hown2.kept (row:=some b) ⟨rfl,rfl,rfl,by simp [World.setCell],fun k _ hk => Below.heap_setCell _ _ _ _ (fun e => hk (by simp [e]))⟩ (Or.inr hne2)
  ·rcases hwhere k hk with h1 | h1
   ·exact .inl (hFk k h1)
   ·exact .inr (by omega))
 have Hfr:=kept ((hb1.trans (Fr.grown hgrow fun k hk => hFk k hk)).trans (Fr.set w2 b 1 v' hF))
 obtain ⟨ao,n',cap,rfl⟩ : ∃ ao n' cap,v' = .slice ao n' cap:=by
  rcases hown'.2 with ⟨hv,_⟩ | ⟨g,cap,cur,fz,hv,_⟩
  ·exact ⟨_,_,_,hv⟩
  ·exact ⟨_,_,_,hv⟩
 clear hown' hown2 hne2 hb2 hbk hown hne hgrow hb1 h hwhere
 go_wp2
 go_ret2
 exact ⟨by simp,Hfin.out,Hfr.out⟩
set_option maxRecDepth 100000 in
theorem bf_string {F : Nat → Prop} {b : Nat} {l : List UInt8} {w : World} (h : BF F b l w) (h0 : l ≠ []) :
  Calls Tryz.prog 125 #[.pointer (some ⟨b,0,none⟩)] w fun e w' => e = .returned (.string ⟨l.toArray⟩) ∧ Fr F w w':=by
 obtain ⟨p,v,hp,hbk,hown,hne,hFb,hFk⟩:=h
 have hl0 : l.length ≠ 0:=by simpa using h0
 obtain ⟨g,cap,cur,fz,rfl,hbg,hg,hfz,hnc,hcm,hcs,htake⟩ : ∃ g cap cur fz,v = .slice (some ⟨g,0,none⟩) l.length cap ∧ 0 ≤ g ∧ w.heap[g]? = some (.cells cur 5 fz) ∧ fz.2 ≤ l.length * 1 ∧ l.length ≤ cap ∧ cap ≤ maxLen ∧ cur.size = cap * 1 ∧ cur.toList.take (l.length * 1) = Lib.byteCells l:=by
  rcases hown.2 with ⟨_,hz⟩ | ⟨g,cap,cur,fz,hv,r⟩
  ·exact absurd hz hl0
  ·exact ⟨g,cap,cur,fz,hv,r⟩
 have HFg:=kept (hFk g rfl)
 have c1 : w.drew.cell? ⟨b,1,none⟩ = some (.slice (some ⟨g,0,none⟩) l.length cap):=(cell_row2 hbk).2.1
 have hSD : (Builtin.unsafeSliceData_ #[171] 235 #[.slice (some ⟨g,0,none⟩) l.length cap]).run Tryz.prog w.drew = .ok (.pointer (some ⟨g,0,none⟩)) w.drew:=
  Lib.run_unsafeSliceData_row _ _ _ _ _ _ (by omega)
 have hUS : (Builtin.unsafeString_ #[235,3] 9 #[.pointer (some ⟨g,0,none⟩),.int .i64 l.length]).run Tryz.prog w.drew = .ok (.string ⟨l.toArray⟩) (w.drew.freeze ⟨g,0,none⟩ l.length):=by
  refine Lib.run_unsafeString_row w.drew 235 3 9 5 Tryz.underlying235 Tryz.Builder_Extra_169.cellsByte g cur.size (by have hg' : w.drew.heap[g]? = some (.cells cur 5 fz):=hg; simp [World.shape?,hg']) l h0 (by omega) (by unfold maxLen at hcm; omega) ?_
  intro j x hx
  have:=hown.cells (g:=g) rfl j (.int .u8 x.toNat) (by simp [Lib.byteCells,hx])
  exact this
 have Hfr:=kept (show Fr F w (w.drew.freeze ⟨g,0,none⟩ l.length) from by
  unfold World.freeze
  split
  ·exact ⟨rfl,rfl,rfl,Nat.le_refl _,fun _ _ _ => rfl⟩
  ·refine ⟨rfl,rfl,rfl,by simp,fun k hk hn => ?_⟩
   have hkg : k ≠ g:=fun e => hn (by rw [e]; exact HFg.out)
   simp only [Array.getElem?_modify,if_neg hkg.symm]; rfl)
 clear hown hp hne hbk hnc hcm hcs htake hfz hg hl0 h0 hFk hFb
 have mixed:=Tryz.lays169.mixed
 go_enter Tryz.func125,Tryz.ntmps125
 go_wp2
 go_region_o
 all_goals (go_wp2; go_ret; exact ⟨rfl,Hfr.out⟩)
namespace AX
def bwt (l : List UInt8) : Blk:=.opq (fun F g w => BF F g l w) (fun _ => none)
def Bt (h : Hp) (i : Nat) (l : List UInt8) : Prop:=h.b[i]? = some (bwt l) ∨ (l = [] ∧ h.b[i]? = some (.cells 173 [.nilp,.sl 0 .nil []]))
theorem BF.stable {F : Nat → Prop} {b : Nat} {l : List UInt8} {w w' : World} (h : BF F b l w) (hs : ∀ g,F g → w'.heap[g]? = w.heap[g]?) : BF F b l w':=by
 obtain ⟨p,v,hp,hb,hown,hne,hF,hFk⟩:=h
 refine ⟨p,v,hp,(hs b hF).trans hb,⟨hown.1,?_⟩,hne,hF,hFk⟩
 rcases hown.2 with h1 | ⟨g,cap,cur,fz,rfl,h2,h3,h4⟩
 ·exact .inl h1
 ·exact .inr ⟨g,cap,cur,fz,rfl,h2,(hs g (hFk g rfl)).trans h3,h4⟩
theorem Bt.lt {h : Hp} {i : Nat} {l : List UInt8} (hw : Bt h i l) : i < h.b.length:=by
 rcases hw with h1 | ⟨_,h1⟩
 ·exact (List.getElem?_eq_some_iff.1 h1).1
 ·exact (List.getElem?_eq_some_iff.1 h1).1
theorem Bt.bf {h : Hp} {i : Nat} {l : List UInt8} {C : Ctx} {G : World → Prop} (hw : Bt h i l) (hI : Inv G C h) : BF (fun g => C.own g = some i) (C.κ i) l C.w:=by
 have hi : i < C.nb:=by rw [← hI.nb]; exact hw.lt
 rcases hw with h1 | ⟨rfl,h1⟩
 ·exact (hI.box i _ h1).1 C.w (fun _ _ => rfl) (Nat.le_refl _)
 ·obtain ⟨cs,k1,k2⟩:=hI.box i _ h1
  obtain ⟨c0,d0,rfl,e0,k2⟩:=repL_cons.1 k2
  obtain ⟨c1,d1,rfl,e1,k2⟩:=repL_cons.1 k2
  rw [repL_nil] at k2; subst k2
  rw [rep_nilp] at e0; subst e0
  obtain ⟨a,cap,rfl,_,_,e3,e4,_⟩:=rep_sl.1 e1
  subst e3; subst e4
  exact ⟨_,_,.inl rfl,k1,⟨rfl,.inl ⟨rfl,rfl⟩⟩,by simp [Value.ownBlock],hI.ownk i hi,fun k hk => by simp [Value.ownBlock] at hk⟩
theorem bwtr_rep {C : Ctx} {i : Nat} {l : List UInt8} (h : BF (fun g => C.own g = some i) (C.κ i) l C.w) : BlkRep C i (bwt l):=by
 refine ⟨fun w' hw _ => BF.stable h hw,fun o x hx => ?_⟩
 cases hx
theorem a_bwrite {h : Hp} {i : Nat} {l : List UInt8} (hw : Bt h i l) (s : List UInt8) (hlen : l.length + s.length ≤ 1000000000) :
  ACall Tryz.prog GT 124 [.ptr i 0,.str s] h fun v h' => v = .tup [.int .i64 s.length,.nili] ∧ h' = ⟨h.b.set i (bwt (l ++ s)),h.t⟩:=by
 intro C es hI ha
 obtain ⟨c,es',rfl,h1,h2⟩:=repL_cons.1 ha
 obtain ⟨rfl,hi⟩:=rep_ptr.1 h1
 obtain rfl:=args1 r_str C es' h2
 refine (bf_write (hw.bf hI) s hlen).mono ?_
 rintro e w' ⟨rfl,m1,m2⟩
 have hrep : BlkRep (C.turn w' i true) i (bwt (l ++ s)):=by
  refine bwtr_rep ?_
  obtain ⟨p,v,hp,hb,hown,hne,hF,hFk⟩:=m1
  have hlt:=(cell_row2 hb).2.2.2.2
  have hcl : ∀ k,k < w'.heap.size → (C.own k = some i ∨ C.w.heap.size ≤ k) → (C.turn w' i true).own k = some i:=fun k hk hor => by
   show (if k < C.w.heap.size then C.own k else if true = true ∧ k < w'.heap.size then some i else none) = some i
   split
   ·rcases hor with h3 | h3
    ·exact h3
    ·omega
   ·rw [if_pos ⟨rfl,hk⟩]
  refine ⟨p,v,hp,hb,hown,hne,hcl _ hlt hF,fun k hk => hcl k ?_ (hFk k hk)⟩
  rcases hown.2 with ⟨rfl,_⟩ | ⟨g,cap,cur,fz,rfl,_,h3,_⟩
  ·simp [Value.ownBlock] at hk
  ·simp only [Value.ownBlock,Option.some.injEq] at hk; subst hk
   exact (Array.getElem?_eq_some_iff.1 h3).1
 obtain ⟨i1,s1⟩:=box_turn (b':=bwt (l ++ s)) true hI hi m2.os m2.tape m2.output m2.size (fun g hg hne => m2.block g hg hne) (fun _ => hrep)
 exact ⟨_,_,.tup [.int .i64 s.length,.nili],_,rfl,rfl,i1,s1,rep_tup.2 ⟨_,rfl,repL_cons.2 ⟨_,_,rfl,rep_int.2 rfl,repL_cons.2 ⟨_,_,rfl,rep_nili.2 rfl,repL_nil.2 rfl⟩⟩⟩,rfl,rfl⟩
theorem a_bstring {h : Hp} {i : Nat} {l : List UInt8} (hw : Bt h i l) (h0 : l ≠ []) : ACall Tryz.prog GT 125 [.ptr i 0] h fun v h' => v = .str l ∧ h' = ⟨h.b.set i dead,h.t⟩:=by
 intro C es hI ha
 obtain ⟨c,es',rfl,h1,h2⟩:=repL_cons.1 ha
 obtain ⟨rfl,hi⟩:=rep_ptr.1 h1
 rw [repL_nil] at h2; subst h2
 refine (bf_string (hw.bf hI) h0).mono ?_
 rintro e w' ⟨rfl,m2⟩
 obtain ⟨i1,s1⟩:=box_turn (b':=dead) false hI hi m2.os m2.tape m2.output m2.size (fun g hg hne => m2.block g hg hne) (fun _ => ⟨fun _ _ _ => trivial,fun o x hx => by cases hx⟩)
 exact ⟨_,_,.str l,_,rfl,rfl,i1,s1,rep_str.2 rfl,rfl,rfl⟩
structure Adr.In (a : Adr.Ad) : Prop where
 n : a.mods.length ≤ 3000000
 m : ∀ s ∈ a.mods,s.name.length ≤ 2000000 ∧ s.key.str.length ≤ 2000000
 t : a.type.length ≤ 2000000
 nm : a.name.length ≤ 2000000
 k : a.key.str.length ≤ 2000000
theorem a_acheck (a : Adr.Ad) (hi : Adr.In a) (h : Hp) : ACall Tryz.prog GT 307 [.agg a.cells] h fun r h' => r = .int .i64 (Adr.check a) ∧ h' = h:=by
 obtain ⟨mods,data,ty,nm,⟨kk,kn,ks⟩⟩:=a
 obtain ⟨hn,hm,ht,ha,hk⟩:=hi
 dsimp only at hn hm ht ha hk
 refine pcall ?_ rfl (by simp [A.pure,A.data,Adr.Ad.cells]) h
 refine fo ?_
 dsimp only [Adr.Ad.cells]
 have lm : (mods.map Adr.Step.cells).length = mods.length:=List.length_map ..
 obtain ⟨Z,hZ⟩ : ∃ Z,Adr.check ⟨mods,data,ty,nm,⟨kk,kn,ks⟩⟩ = Z:=⟨_,rfl⟩
 rw [hZ]
 unfold Adr.check at hZ
 dsimp only at hZ
 by_cases h16 : (mods.length : Int) > 16
 ·rw [if_pos (by omega)] at hZ
  subst hZ
  refine run0 (ai lm h16) ?_
  exact ⟨_,le_refl _,rfl⟩
 rw [if_neg (by omega)] at hZ
 have ck:=fun h => a_kind ty ht h
 have ci:=fun h => a_ident nm ha h
 have cv:=fun h => a_avalid ⟨kk,kn,ks⟩ hk h
 unfold Adr.K.A at cv
 dsimp only at cv
 refine run0 (ai lm h16) ?_
 refine awp_loop (fun mm ts h => ∃ (j : Nat) (l : List Blk),mm = mods.length - j ∧ j ≤ mods.length ∧ h = ⟨.cells 224 [.sl 4 .no (mods.map Adr.Step.cells),.bool data,.str ty,.str nm,.int .i64 kk,.int .i64 kn,.str ks] :: l,[]⟩ ∧
  (match (mods.drop j).find? (fun s => !(Adr.ident s.name && Adr.keyOk s.key)) with
  | some s => if Adr.ident s.name then (1 : Int) else 7
  | none => if !Adr.kindB ty || !Adr.ident nm then 7 else if !Adr.keyOk ⟨kk,kn,ks⟩ then 1 else 0) = Z ∧
  ts 1 = .ptr 0 0 ∧ ts 10 = .sl 4 .no (mods.map Adr.Step.cells) ∧ ts 11 = .int .i64 (mods.length : Nat) ∧ ts 12 = .int .i64 (j : Nat)) mods.length ?_ ?_
 ·exact ⟨0,[],by omega,by omega,rfl,hZ,by (exact ev0 ti),by (exact ev0 ti),by (exact ev0 lm),by (exact inv0 ti)⟩
 rintro mm ts h ⟨j,l,rfl,hjc,rfl,hit,t1,t10,t11,t12⟩
 by_cases hj : j < mods.length
 ·have hlt : (j : Int) < (mods.length : Int):=by omega
  have hlt' : (j : Int) < ((mods.map Adr.Step.cells).length : Int):=by rw [lm]; exact hlt
  have hj0 : (0 : Int) ≤ (j : Int):=by omega
  have ei : IntKind.i64.wrap ((j : Int) + 1) = ((j + 1 : Nat) : Int):=by rw [wrap64 (by omega) (by omega)]; omega
  have hg:=map_getD Adr.Step.cells mods j hj
  have hmj:=hm _ (List.getElem_mem hj)
  rw [List.drop_eq_getElem_cons hj,List.find?_cons] at hit
  obtain ⟨x,hx⟩ : ∃ x,mods[j] = x:=⟨_,rfl⟩
  rw [hx] at hg hmj hit
  obtain ⟨xn,⟨xk,xm,xs⟩⟩:=x
  dsimp only [Adr.Step.cells] at hg hmj hit
  have cxi:=fun h => a_ident xn hmj.1 h
  have cxv:=fun h => a_avalid ⟨xk,xm,xs⟩ hmj.2 h
  unfold Adr.K.A at cxv
  dsimp only at cxv
  obtain ⟨I,hI⟩ : ∃ I,Adr.ident xn = I:=⟨_,rfl⟩
  obtain ⟨K,hK⟩ : ∃ K,Adr.keyOk ⟨xk,xm,xs⟩ = K:=⟨_,rfl⟩
  rw [hI] at cxi hit
  rw [hK] at cxv hit
  refine run0 (ai t1 (ai t10 (ai t11 (ai t12 (ai hlt (ai hlt' (ai hj0 hg))))))) ?_
  refine use (cxi _) ?_
  cases I
  ·simp only [Bool.false_and,Bool.not_false] at hit
   rw [hI] at hit
   simp only [Bool.false_eq_true,if_false] at hit
   subst hit
   refine run0 (ai t1 (ai t10 (ai t11 t12))) ?_
   exact ⟨_,le_refl _,rfl⟩
  refine run0 (ai t1 (ai t10 (ai t11 t12))) ?_
  refine use (cxv _) ?_
  cases K
  ·simp only [Bool.and_false,Bool.not_false] at hit
   rw [hI] at hit
   simp only [if_true] at hit
   subst hit
   refine run0 (ai t1 (ai t10 (ai t11 t12))) ?_
   exact ⟨_,le_refl _,rfl⟩
  ·simp only [Bool.and_true,Bool.not_true] at hit
   refine run0 (ai t1 (ai t10 (ai t11 (ai t12 ei)))) ?_
   exact ⟨mods.length - (j + 1),by omega,j + 1,_,rfl,by omega,rfl,hit,by (exact ev0 t1),by (exact ev0 t10),by (exact ev0 t11),by (exact ev0 ei)⟩
 ·have hlt : ¬ ((j : Int) < (mods.length : Int)):=by omega
  rw [List.drop_eq_nil_of_le (by omega)] at hit
  simp only [List.find?_nil] at hit
  refine run0 (ai t1 (ai t10 (ai t11 (ai t12 hlt)))) ?_
  refine use (ck _) ?_
  cases hkb : Adr.kindB ty
  ·rw [hkb] at hit
   rw [if_pos (by simp)] at hit
   subst hit
   refine run0 (ai t1 (ai t10 (ai t11 t12))) ?_
   exact ⟨_,le_refl _,rfl⟩
  rw [hkb] at hit
  refine run0 (ai t1 (ai t10 (ai t11 t12))) ?_
  refine use (ci _) ?_
  cases hib : Adr.ident nm
  ·rw [hib] at hit
   rw [if_pos (by simp)] at hit
   subst hit
   refine run0 (ai t1 (ai t10 (ai t11 t12))) ?_
   exact ⟨_,le_refl _,rfl⟩
  rw [hib] at hit
  rw [if_neg (by simp)] at hit
  refine run0 (ai t1 (ai t10 (ai t11 t12))) ?_
  refine use (cv _) ?_
  cases hvb : Adr.keyOk ⟨kk,kn,ks⟩
  ·rw [hvb] at hit
   rw [if_pos (by simp)] at hit
   subst hit
   refine run0 (ai t1 (ai t10 (ai t11 t12))) ?_
   exact ⟨_,le_refl _,rfl⟩
  ·rw [hvb] at hit
   rw [if_neg (by simp)] at hit
   subst hit
   refine run0 (ai t1 (ai t10 (ai t11 t12))) ?_
   exact ⟨_,le_refl _,rfl⟩
theorem a_fmtkey0 (h : Hp) : ACall Tryz.prog GT 308 [.agg [.int .i64 0,.int .i64 0,.str []]] h fun r h' => r = .str [] ∧ h' = h:=by
 refine pcall ?_ rfl (by simp [A.pure,A.data]) h
 refine fo ?_
 have cv:=fun h => a_avalid Adr.K.none (by unfold Adr.K.none; simp) h
 have e1 : Adr.keyOk Adr.K.none = true:=by decide
 rw [e1] at cv
 unfold Adr.K.A Adr.K.none at cv
 dsimp only at cv
 refine run0 ti ?_
 refine use (cv _) ?_
 refine run0 ti ?_
 exact ⟨_,le_refl _,rfl⟩
def Bw (acc : List UInt8) (w : Blk) : Prop:=w = bwt acc ∨ (acc = [] ∧ w = .cells 173 [.nilp,.sl 0 .nil []])
theorem Bw.bt {acc : List UInt8} {w B0 : Blk} {l : List Blk} {t : List (TypeId × Nat × Nat)} (hw : Bw acc w) : Bt ⟨B0 :: w :: l,t⟩ 1 acc:=by
 rcases hw with rfl | ⟨rfl,rfl⟩
 ·exact .inl rfl
 ·exact .inr ⟨rfl,rfl⟩
def stepB (s : Adr.Step) : List UInt8:=Adr.modW ++ s.name ++ [46]
theorem fmt_bare (mods : List Adr.Step) (data : Bool) (ty nm : List UInt8) (hk : ∀ s ∈ mods,s.key = Adr.K.none) (hc : Adr.check ⟨mods,data,ty,nm,Adr.K.none⟩ = 0) :
  Adr.fmt ⟨mods,data,ty,nm,Adr.K.none⟩ = mods.flatMap stepB ++ (if data then Adr.dataW else []) ++ (ty ++ [46] ++ nm):=by
 have hn : Adr.fmtKey Adr.K.none = []:=by decide
 unfold Adr.fmt
 rw [if_neg (by simp [hc])]
 dsimp only
 rw [hn]
 have e : Adr.steps mods = mods.flatMap stepB:=by
  unfold Adr.steps
  induction mods with
  | nil => rfl
  | cons x l ih =>
   have hx:=hk x (by simp)
   have hcl : ∀ l : List Adr.Step,(∀ s ∈ l,s.key = Adr.K.none) → (l.flatMap fun s => Adr.modW ++ s.name ++ Adr.fmtKey s.key ++ [46]) = l.flatMap stepB:=by
    intro l
    induction l with
    | nil => intro _; rfl
    | cons y l ih =>
     intro hl
     rw [List.flatMap_cons,List.flatMap_cons,ih fun s hs => hl s (by simp [hs]),hl y (by simp),hn]
     unfold stepB
     simp
   exact hcl _ hk
 rw [e]
 simp
theorem fm_snoc' {α : Type} (f : α → List UInt8) (l : List α) (j : Nat) (hj : j < l.length) : (l.take (j + 1)).flatMap f = (l.take j).flatMap f ++ f l[j]:=by
 rw [List.take_succ_eq_append_getElem hj,List.flatMap_append]; simp
theorem fm_len16 : ∀ (l : List Adr.Step),(∀ s ∈ l,s.name.length ≤ 2000000) → (l.flatMap stepB).length ≤ l.length * 2000008
 | [],_ => by simp
 | x :: l,h => by
  rw [List.flatMap_cons,List.length_append,List.length_cons,Nat.succ_mul]
  have h1:=fm_len16 l fun s hs => h s (by simp [hs])
  have h2:=h x (by simp)
  have h3 : (stepB x).length = x.name.length + 8:=by unfold stepB; simp [Adr.modW] <;> omega
  omega
theorem a_format0 (a : Adr.Ad) (hi : Adr.In a) (hk : ∀ s ∈ a.mods,s.key = Adr.K.none) (hkk : a.key = Adr.K.none) (h : Hp) : ACall Tryz.prog GT 280 [.agg a.cells] h fun r h' => r = .str (Adr.fmt a) ∧ h' = h:=by
 have cc:=fun h => a_acheck a hi h
 obtain ⟨mods,data,ty,nm,key⟩:=a
 dsimp only at hk hkk
 subst hkk
 have hfb:=fmt_bare mods data ty nm hk
 obtain ⟨hn,hm,ht,ha,_⟩:=hi
 dsimp only at hn hm ht ha
 refine pcall ?_ rfl (by simp [A.pure,A.data,Adr.Ad.cells]) h
 refine fo ?_
 dsimp only [Adr.Ad.cells,Adr.K.none] at cc ⊢
 have lm : (mods.map Adr.Step.cells).length = mods.length:=List.length_map ..
 by_cases hc0 : Adr.check ⟨mods,data,ty,nm,Adr.K.none⟩ = 0
 rotate_left
 ·have e1 : (Adr.check ⟨mods,data,ty,nm,Adr.K.none⟩ != 0) = true:=by simp [hc0]
  have hfz : Adr.fmt ⟨mods,data,ty,nm,Adr.K.none⟩ = []:=by unfold Adr.fmt; rw [if_pos hc0]
  unfold Adr.K.none at e1 hfz
  refine run0 ti ?_
  refine use (cc _) ?_
  refine run0 e1 ?_
  exact ⟨_,le_refl _,by rw [hfz]; rfl⟩
 have e1 : (Adr.check ⟨mods,data,ty,nm,Adr.K.none⟩ != 0) = false:=by simp [hc0]
 have hf:=hfb hc0
 have hn16 : mods.length ≤ 16:=by
  rcases Nat.lt_or_ge 16 mods.length with h16 | h16
  ·unfold Adr.check at hc0
   rw [if_pos h16] at hc0
   exact absurd hc0 (by decide)
  ·exact h16
 have hlenall:=fm_len16 mods fun s hs => (hm s hs).1
 unfold Adr.K.none at e1 hf
 rw [hf]
 refine run0 ti ?_
 refine use (cc _) ?_
 refine run0 (ai e1 lm) ?_
 refine awp_loop (fun mm ts h => ∃ (j : Nat) (w : Blk) (l : List Blk),mm = mods.length - j ∧ j ≤ mods.length ∧ h = ⟨.cells 224 [.sl 4 .no (mods.map Adr.Step.cells),.bool data,.str ty,.str nm,.int .i64 0,.int .i64 0,.str []] :: w :: l,[]⟩ ∧ Bw ((mods.take j).flatMap stepB) w ∧
  ts 1 = .ptr 0 0 ∧ ts 3 = .ptr 1 0 ∧ ts 10 = .sl 4 .no (mods.map Adr.Step.cells) ∧ ts 11 = .int .i64 (mods.length : Nat) ∧ ts 12 = .int .i64 (j : Nat)) mods.length ?_ ?_
 ·exact ⟨0,_,[],by omega,by omega,rfl,.inr ⟨rfl,rfl⟩,by (exact ev0 ti),by (exact ev0 ti),by (exact ev0 ti),by (exact ev0 lm),by (exact inv0 ti)⟩
 rintro mm ts h ⟨j,w,l,rfl,hjc,rfl,hw,t1,t3,t10,t11,t12⟩
 have hacc : ((mods.take j).flatMap stepB).length ≤ 32000128:=by
  have h2 : (mods.take j).length ≤ 16:=by rw [List.length_take]; omega
  exact Nat.le_trans (fm_len16 (mods.take j) fun s hs => (hm s (List.mem_of_mem_take hs)).1) (Nat.le_trans (Nat.mul_le_mul_right 2000008 h2) (by decide))
 by_cases hj : j < mods.length
 ·have hlt : (j : Int) < (mods.length : Int):=by omega
  have hlt' : (j : Int) < ((mods.map Adr.Step.cells).length : Int):=by rw [lm]; exact hlt
  have hj0 : (0 : Int) ≤ (j : Int):=by omega
  have ei : IntKind.i64.wrap ((j : Int) + 1) = ((j + 1 : Nat) : Int):=by rw [wrap64 (by omega) (by omega)]; omega
  have hg:=map_getD Adr.Step.cells mods j hj
  have hmj:=hm _ (List.getElem_mem hj)
  have hkj:=hk _ (List.getElem_mem hj)
  have hsn:=fm_snoc' stepB mods j hj
  obtain ⟨x,hx⟩ : ∃ x,mods[j] = x:=⟨_,rfl⟩
  rw [hx] at hg hmj hkj hsn
  obtain ⟨xn,xk⟩:=x
  dsimp only at hkj
  subst hkj
  dsimp only [Adr.Step.cells,Adr.K.none] at hg hmj
  have hxl:=hmj.1
  have hsl : (stepB ⟨xn,Adr.K.none⟩).length = xn.length + 8:=by unfold stepB; simp [Adr.modW] <;> omega
  have hse : 109 :: 111 :: 100 :: 117 :: 108 :: 101 :: 46 :: (xn ++ [46]) = stepB ⟨xn,Adr.K.none⟩:=rfl
  have l1 : 7 + xn.length < 1099511627776:=by omega
  have l2 : xn.length + 7 < 1099511627776:=by omega
  have l3 : xn.length + 7 + 1 < 1099511627776:=by omega
  have l4 : xn.length + 8 < 1099511627776:=by omega
  have hcw:=fun (z : Blk) => a_bwrite (h:=⟨.cells 224 [.sl 4 .no (mods.map Adr.Step.cells),.bool data,.str ty,.str nm,.int .i64 0,.int .i64 0,.str []] :: w :: (l ++ [z]),[]⟩) (i:=1) hw.bt (stepB ⟨xn,Adr.K.none⟩) (by rw [hsl]; omega)
  rw [← hsn] at hcw
  have hcf:=fun h => a_fmtkey0 h
  refine run0 (ai t1 (ai t3 (ai t10 (ai t11 (ai t12 (ai hlt (ai hlt' (ai hj0 (ai hg (ai l1 hse)))))))))) ?_
  refine use (hcf _) ?_
  refine run0 (ai t1 (ai t3 (ai t10 (ai t11 (ai t12 (ai l1 (ai l2 (ai l3 (ai l4 hse))))))))) ?_
  refine use (hcw _) ?_
  refine run0 (ai t1 (ai t3 (ai t10 (ai t11 (ai t12 ei))))) ?_
  exact ⟨mods.length - (j + 1),by omega,j + 1,_,_,rfl,by omega,rfl,.inl rfl,by (exact ev0 t1),by (exact ev0 t3),by (exact ev0 t10),by (exact ev0 t11),by (exact ev0 ei)⟩
 ·have hlt : ¬ ((j : Int) < (mods.length : Int)):=by omega
  have hje : j = mods.length:=by omega
  subst hje
  rw [List.take_length] at hw hacc
  obtain ⟨P,hP⟩ : ∃ P,mods.flatMap stepB = P:=⟨_,rfl⟩
  rw [hP] at hw hacc ⊢
  have hcf:=fun h => a_fmtkey0 h
  have hdw : Adr.dataW = [100,97,116,97,46]:=rfl
  have l1 : ty.length + 1 < 1099511627776:=by omega
  have l2 : ty.length + 1 + nm.length < 1099511627776:=by omega
  have l3 : ty.length + (nm.length + 1) < 1099511627776:=by omega
  have l4 : ty.length + 1 + nm.length < 1099511627776:=by omega
  cases data
  ·have hcw:=a_bwrite (h:=⟨.cells 224 [.sl 4 .no (mods.map Adr.Step.cells),.bool false,.str ty,.str nm,.int .i64 0,.int .i64 0,.str []] :: w :: l,[]⟩) (i:=1) hw.bt (ty ++ [46] ++ nm) (by simp; omega)
   have hcs:=a_bstring (h:=⟨.cells 224 [.sl 4 .no (mods.map Adr.Step.cells),.bool false,.str ty,.str nm,.int .i64 0,.int .i64 0,.str []] :: bwt (P ++ (ty ++ [46] ++ nm)) :: l,[]⟩) (i:=1) (.inl rfl) (by simp)
   refine run0 (ai t1 (ai t3 (ai t10 (ai t11 (ai t12 (ai hlt (ai l1 (ai l2 l3)))))))) ?_
   refine use (hcf _) ?_
   refine run0 (ai t1 (ai t3 (ai t10 (ai t11 (ai t12 (ai hlt (ai l1 (ai l2 (ai l3 l4))))))))) ?_
   refine use hcw ?_
   refine run0 (ai t1 (ai t3 (ai t10 (ai t11 t12)))) ?_
   refine use hcs ?_
   refine run0 (ai t1 (ai t3 (ai t10 (ai t11 t12)))) ?_
   exact ⟨_,le_refl _,by simp [tupA_1]⟩
  ·have hcd:=a_bwrite (h:=⟨.cells 224 [.sl 4 .no (mods.map Adr.Step.cells),.bool true,.str ty,.str nm,.int .i64 0,.int .i64 0,.str []] :: w :: l,[]⟩) (i:=1) hw.bt Adr.dataW (by rw [hdw]; simp; omega)
   have hcw:=a_bwrite (h:=⟨.cells 224 [.sl 4 .no (mods.map Adr.Step.cells),.bool true,.str ty,.str nm,.int .i64 0,.int .i64 0,.str []] :: bwt (P ++ Adr.dataW) :: l,[]⟩) (i:=1) (.inl rfl) (ty ++ [46] ++ nm) (by rw [hdw]; simp; omega)
   have hcs:=a_bstring (h:=⟨.cells 224 [.sl 4 .no (mods.map Adr.Step.cells),.bool true,.str ty,.str nm,.int .i64 0,.int .i64 0,.str []] :: bwt (P ++ Adr.dataW ++ (ty ++ [46] ++ nm)) :: l,[]⟩) (i:=1) (.inl rfl) (by simp)
   rw [hdw] at hcd hcw hcs ⊢
   refine run0 (ai t1 (ai t3 (ai t10 (ai t11 (ai t12 (ai hlt (ai l1 (ai l2 l3)))))))) ?_
   refine use hcd ?_
   refine run0 (ai t1 (ai t3 (ai t10 (ai t11 (ai t12 (ai hlt (ai l1 (ai l2 l3)))))))) ?_
   refine use (hcf _) ?_
   refine run0 (ai t1 (ai t3 (ai t10 (ai t11 (ai t12 (ai hlt (ai l1 (ai l2 (ai l3 l4))))))))) ?_
   refine use hcw ?_
   refine run0 (ai t1 (ai t3 (ai t10 (ai t11 t12)))) ?_
   refine use hcs ?_
   refine run0 (ai t1 (ai t3 (ai t10 (ai t11 t12)))) ?_
   exact ⟨_,le_refl _,by simp [tupA_1]⟩
def unkIdx : Nat → List V → Int
 | _,[] => -1
 | i,v :: l => if Sf.known v = true then unkIdx (i + 1) l else i
theorem unkIdx_ge : ∀ (l : List V) (i : Nat),unkIdx i l ≥ 0 ↔ Sf.knowns l = false
 | [],i => by simp [unkIdx,Sf.knowns]
 | v :: l,i => by
  unfold unkIdx Sf.knowns
  cases h : Sf.known v
  ·simp
  ·simp only [if_true,Bool.true_and]; exact unkIdx_ge l (i + 1)
theorem a_indexv (is : List V) (hn : is.length ≤ 9223372036854775807) (hf : ∀ x ∈ is,∀ h,ACall Tryz.prog GT 233 [x.A] h fun r h' => r = .bool (!Sf.known x) ∧ h' = h) (h : Hp) : ACall Tryz.prog GT 279 [.sl 5 .no (V.cellss is),.fn 233 []] h fun r h' => r = .int .i64 (unkIdx 0 is) ∧ h' = h:=by
 refine pcall ?_ rfl (by simp [A.pure,A.data]) h
 refine fo ?_
 obtain ⟨D,hD⟩ : ∃ D,unkIdx 0 is = D:=⟨_,rfl⟩
 rw [hD]
 refine run0 @V.cellss_length ?_
 refine awp_loop (fun mm ts h => ∃ (j : Nat),mm = is.length - j ∧ j ≤ is.length ∧ h = ⟨[],[]⟩ ∧ unkIdx j (is.drop j) = D ∧ ts 0 = .sl 5 .no (V.cellss is) ∧ ts 1 = .fn 233 [] ∧ ts 7 = .int .i64 (is.length : Nat) ∧ ts 8 = .int .i64 (j : Nat)) is.length ?_ ?_
 ·exact ⟨0,by omega,by omega,rfl,hD,by (exact ev0 ti),by (exact ev0 ti),by (exact ev0 @V.cellss_length),by (exact inv0 ti)⟩
 rintro mm ts h ⟨j,rfl,hjc,rfl,hit,t0,t1,t7,t8⟩
 by_cases hj : j < is.length
 ·have hlt : (j : Int) < (is.length : Int):=by omega
  have hlt' : (j : Int) < ((V.cellss is).length : Int):=by rw [V.cellss_length]; exact hlt
  have hj0 : (0 : Int) ≤ (j : Int):=by omega
  have ei : IntKind.i64.wrap ((j : Int) + 1) = ((j + 1 : Nat) : Int):=by rw [wrap64 (by omega) (by omega)]; omega
  have hg:=V.cellss_get is j hj
  have cf:=hf is[j] (List.getElem_mem hj)
  rw [List.drop_eq_getElem_cons hj] at hit
  unfold unkIdx at hit
  obtain ⟨x,hx⟩ : ∃ x,is[j] = x:=⟨_,rfl⟩
  rw [hx] at hg cf hit
  obtain ⟨K,hK⟩ : ∃ K,Sf.known x = K:=⟨_,rfl⟩
  rw [hK] at cf hit
  obtain ⟨k,n,w,vi,vy⟩:=x
  have hVA : (V.mk k n w vi vy).A = .agg [.int .i64 k,.int .i64 n,.str w,.sl 5 .no (V.cellss vi),.sl 1 .no (strsA vy)]:=by simp only [V.A,V.cells]
  rw [hVA] at cf
  simp only [V.cells] at hg
  refine run0 (ai t0 (ai t1 (ai t7 (ai t8 (ai hlt (ai hg (ai hlt' hj0))))))) ?_
  refine use (cf _) ?_
  cases K
  ·rw [if_neg (by simp)] at hit
   subst hit
   refine run0 (ai t0 (ai t1 (ai t7 t8))) ?_
   exact ⟨_,le_refl _,rfl⟩
  ·rw [if_pos rfl] at hit
   refine run0 (ai t0 (ai t1 (ai t7 (ai t8 ei)))) ?_
   exact ⟨is.length - (j + 1),by omega,j + 1,rfl,by omega,rfl,hit,by (exact ev0 t0),by (exact ev0 t1),by (exact ev0 t7),by (exact ev0 ei)⟩
 ·have hlt : ¬ ((j : Int) < (is.length : Int)):=by omega
  rw [List.drop_eq_nil_of_le (by omega)] at hit
  unfold unkIdx at hit
  subst hit
  refine run0 (ai t0 (ai t1 (ai t7 (ai t8 hlt)))) ?_
  exact ⟨_,le_refl _,rfl⟩
theorem a_known : ∀ (v : V),v.lens → ∀ h,ACall Tryz.prog GT 179 [v.A] h fun r h' => r = .bool (Sf.known v) ∧ h' = h:=by
 refine V.induct ?_
 intro k n s is ks ih hl h
 have hlen : is.length ≤ 9223372036854775807:=by have h1:=hl.1; unfold maxLen at h1; omega
 have hf : ∀ x ∈ is,∀ h,ACall Tryz.prog GT 233 [x.A] h fun r h' => r = .bool (!Sf.known x) ∧ h' = h:=by
  intro x hx h
  have ck:=ih x hx (V.lensS_mem hl.2.2.2.2 x hx)
  obtain ⟨K,hK⟩ : ∃ K,Sf.known x = K:=⟨_,rfl⟩
  rw [hK] at ck ⊢
  obtain ⟨k,n,w,vi,vy⟩:=x
  have hVA : (V.mk k n w vi vy).A = .agg [.int .i64 k,.int .i64 n,.str w,.sl 5 .no (V.cellss vi),.sl 1 .no (strsA vy)]:=by simp only [V.A,V.cells]
  rw [hVA] at ck ⊢
  refine pcall ?_ rfl (by simp [A.pure,A.data]) h
  refine fo ?_
  refine run0 ti ?_
  refine use (ck _) ?_
  refine run0 ti ?_
  exact ⟨_,le_refl _,rfl⟩
 have hc : ∀ h,ACall Tryz.prog GT 232 [.sl 5 .no (V.cellss is),.fn 233 []] h fun r h' => r = .bool (!Sf.knowns is) ∧ h' = h:=by
  intro h
  refine pcall ?_ rfl (by simp [A.pure,A.data]) h
  refine fo ?_
  have hge:=unkIdx_ge is 0
  have ca:=a_indexv is hlen hf
  obtain ⟨D,hD⟩ : ∃ D,unkIdx 0 is = D:=⟨_,rfl⟩
  rw [hD] at hge ca
  refine run0 ti ?_
  refine use (ca _) ?_
  by_cases hd : D ≥ 0
  ·rw [hge.1 hd]
   refine run0 hd ?_
   exact ⟨_,le_refl _,rfl⟩
  ·have hk : Sf.knowns is = true:=by cases hk : Sf.knowns is; exact absurd (hge.2 hk) hd; rfl
   rw [hk]
   refine run0 hd ?_
   exact ⟨_,le_refl _,rfl⟩
 have hVA : (V.mk k n s is ks).A = .agg [.int .i64 k,.int .i64 n,.str s,.sl 5 .no (V.cellss is),.sl 1 .no (strsA ks)]:=by simp only [V.A,V.cells]
 have hK : Sf.known (.mk k n s is ks) = (k != 6 && Sf.knowns is):=by simp [Sf.known]
 rw [hVA,hK]
 refine pcall ?_ rfl (by simp [A.pure,A.data]) h
 refine fo ?_
 by_cases h6 : k = 6
 ·have e : (k != 6) = false:=by simp [h6]
  rw [e]
  refine run0 e ?_
  exact ⟨_,le_refl _,rfl⟩
 ·have e : (k != 6) = true:=by simp [h6]
  rw [e]
  refine run0 e ?_
  refine use (hc _) ?_
  cases Sf.knowns is
  ·refine run0 ti ?_
   exact ⟨_,le_refl _,rfl⟩
  ·refine run0 ti ?_
   exact ⟨_,le_refl _,rfl⟩
end AX
namespace Adr
theorem mods_names (N : Nat) : ∀ (f : Nat) (r : Rd) (l : List Step),r.rest.length ≤ N → (∀ x ∈ l,x.name.length ≤ N) → (∀ x ∈ (modsP f r l).1,x.name.length ≤ N) ∧ (modsP f r l).2.rest.length ≤ N ∧ (modsP f r l).1.length ≤ l.length + f
 | 0,r,l,hr,hl => ⟨hl,hr,Nat.le_refl _⟩
 | f + 1,r,l,hr,hl => by
  unfold modsP
  split
  ·next hc =>
   have h1:=has_len modW r
   have h2:=step_len (hasP modW r).2
   have h3:=skip_len [46] (stepP (hasP modW r).2).2
   have hn : (stepP (hasP modW r).2).1.name.length ≤ N:=Nat.le_trans (word_len (hasP modW r).2).2 (by omega)
   obtain ⟨q1,q2,q3⟩:=mods_names N f (skipP [46] (stepP (hasP modW r).2).2) (l ++ [(stepP (hasP modW r).2).1]) (by omega) (fun x hx => by
    rcases List.mem_append.1 hx with hx | hx
    ·exact hl x hx
    ·rw [List.mem_singleton.1 hx]; exact hn)
   exact ⟨q1,q2,Nat.le_trans q3 (by simp only [List.length_append,List.length_singleton]; omega)⟩
  ·exact ⟨hl,hr,by dsimp only; omega⟩
theorem parse_names (s : List UInt8) (h : (parse s).2 = 0) : (∀ x ∈ (parse s).1.mods,x.name.length ≤ s.length) ∧ (parse s).1.mods.length ≤ s.length + 1 ∧ (parse s).1.type.length ≤ s.length ∧ (parse s).1.name.length ≤ s.length:=by
 rw [← parse_eq] at h ⊢
 obtain ⟨q1,q2,q3⟩:=mods_names s.length (s.length + 1) ⟨s,false⟩ [] (Nat.le_refl _) (by simp)
 unfold parseP at h ⊢
 dsimp only at h ⊢
 have l1:=has_len dataW (modsP (s.length + 1) ⟨s,false⟩ []).2
 have l2:=word_len (hasP dataW (modsP (s.length + 1) ⟨s,false⟩ []).2).2
 have l3:=skip_len [46] (wordP (hasP dataW (modsP (s.length + 1) ⟨s,false⟩ []).2).2).2
 have l4:=word_len (skipP [46] (wordP (hasP dataW (modsP (s.length + 1) ⟨s,false⟩ []).2).2).2)
 split at h
 ·simp at h
 ·next h1 =>
  rw [if_neg h1]
  split at h
  ·simp at h
  ·next h2 =>
   rw [if_neg h2]
   dsimp only
   exact ⟨q1,by simpa using q3,by omega,by omega⟩
end Adr
namespace AX
theorem a_static (s : List UInt8) (hs : s.length ≤ 2000000) (h : Hp) : ACall Tryz.prog GT 234 [.str s] h fun r h' => r = .tup [.str (Adr.static s).1,.int .i64 (Adr.static s).2] ∧ h' = h:=by
 refine pcall ?_ rfl (by simp [A.pure,A.data]) h
 refine fo ?_
 have cp:=fun h => a_parse s hs h
 have hS : Adr.static s = if (Adr.parse s).2 ≠ 0 then ([],(Adr.parse s).2) else (Adr.fmt (Adr.bare (Adr.parse s).1),0):=rfl
 have hnm:=Adr.parse_names s
 obtain ⟨⟨a,e⟩,hp⟩ : ∃ q,Adr.parse s = q:=⟨_,rfl⟩
 rw [hp] at cp hS hnm
 dsimp only at cp hS hnm
 rw [hS]
 by_cases he : e = 0
 rotate_left
 ·have e1 : (e != 0) = true:=by simp [he]
  rw [if_pos he]
  obtain ⟨mods,data,ty,nm,⟨kk,kn,ks⟩⟩:=a
  dsimp only [Adr.Ad.cells] at cp
  refine run0 ti ?_
  refine use (cp _) ?_
  refine run0 e1 ?_
  exact ⟨_,le_refl _,rfl⟩
 have e1 : (e != 0) = false:=by simp [he]
 rw [if_neg (by simp [he])]
 obtain ⟨n1,n2,n3,n4⟩:=hnm he
 have cs:=fun h => a_static0 a (by omega) h
 have cf:=fun h => a_format0 (Adr.bare a) ⟨by unfold Adr.bare; dsimp only; rw [List.length_map]; omega,fun x hx => by
   unfold Adr.bare at hx
   obtain ⟨y,hy,rfl⟩:=List.mem_map.1 hx
   have:=n1 y hy
   exact ⟨Nat.le_trans this hs,by simp [Adr.K.none]⟩,by unfold Adr.bare; dsimp only; omega,by unfold Adr.bare; dsimp only; omega,by unfold Adr.bare Adr.K.none; simp⟩
  (fun x hx => by
   unfold Adr.bare at hx
   obtain ⟨y,hy,rfl⟩:=List.mem_map.1 hx
   rfl) rfl h
 have hbc : (Adr.bare a).cells = [.sl 4 .no ((a.mods.map fun s => (⟨s.name,Adr.K.none⟩ : Adr.Step)).map Adr.Step.cells),.bool a.data,.str a.type,.str a.name,.int .i64 0,.int .i64 0,.str []]:=rfl
 rw [hbc] at cs cf
 obtain ⟨F,hF⟩ : ∃ F,Adr.fmt (Adr.bare a) = F:=⟨_,rfl⟩
 rw [hF] at cf ⊢
 clear hS n1 n2 n3 n4 hnm hp hbc
 obtain ⟨mods,data,ty,nm,⟨kk,kn,ks⟩⟩:=a
 dsimp only [Adr.Ad.cells] at cp cs cf
 refine run0 ti ?_
 refine use (cp _) ?_
 refine run0 e1 ?_
 refine use (cs _) ?_
 refine run0 ti ?_
 refine use (cf _) ?_
 refine run0 ti ?_
 exact ⟨_,le_refl _,rfl⟩
theorem leafs : Leafs where
 parse:=a_parse
 static:=a_static
 ident:=a_ident
 num:=a_numParse
 cmp:=a_cmp
 known:=fun v hl h => a_known v hl h
 text:=fun s hs h => (a_stext s hs h).mono fun v h' hv => hv
theorem a_stateCheck (st : Sf.St) (ok : Sf.StIn st) : SCheck st:=a_scheck leafs st ok
def recA (r : Jr) : A:=.agg r.cells
def fM1 (f : Fo) : Blk:=.map (gmap recA f.ints) f.c1
def fM2 (f : Fo) : Blk:=.map (gmap A.bool f.ress) f.c2
def fB (f : Fo) : Blk:=.cells 104 [.int .i64 f.n,.bool f.ended,.mp 0,.mp 1]
theorem gmap_loc {α : Type} (f : α → A) (hf : ∀ x,(f x).loc 0 = true) (l : List (Int × α)) (c : Nat) : (Blk.map (gmap f l) c).loc 3 ∧ (Blk.map (gmap f l) c).ren (fun i => i) = .map (gmap f l) c:=by
 have h : (Blk.map (gmap f l) c).loc 0:=by
  show ((gmap f l).all fun e => e.2.loc 0) = true
  rw [List.all_eq_true]
  intro e he
  obtain ⟨x,hx,rfl⟩:=List.mem_map.1 he
  exact hf _
 exact ⟨(Blk.loc0 3 _ h).1,(Blk.loc0 0 _ h).2 _⟩
theorem recA_loc (r : Jr) : (recA r).loc 0 = true:=by
 obtain ⟨kd,⟨lin,ser,ins,ps,os⟩,st,op,ad,dp,ty,tk,er,⟨a1,a2,a3,a4,⟨k,nn,ss,is,ks⟩,v,tn,fi,ds⟩⟩:=r
 rfl
theorem liftF {P : Program} {G : World → Prop} {f : FuncId} {args : List A} {s s' : Fo} {v : A} (hc : ACall P G f (.ptr 2 0 :: args) ⟨[fM1 s,fM2 s,fB s],[]⟩ fun v' h' => v' = v ∧ h'.b[0]? = some (fM1 s') ∧ h'.b[1]? = some (fM2 s') ∧ h'.b[2]? = some (fB s')) (ha : A.locL 0 args = true) (hv : v.loc 0 = true) (l : List Blk) (t : List (TypeId × Nat × Nat)) :
  ACall P G f (.ptr 2 0 :: args) ⟨fM1 s :: fM2 s :: fB s :: l,t⟩ fun v' h' => v' = v ∧ h' = ⟨fM1 s' :: fM2 s' :: fB s' :: l,t⟩:=by
 have m1:=fun s : Fo => gmap_loc recA recA_loc s.ints s.c1
 have m2:=fun s : Fo => gmap_loc A.bool (fun _ => rfl) s.ress s.c2
 have key:=ACall.lift hc (fun i => i) (fun a b _ _ e => e) (by unfold A.locL; rw [(A.locL0 _ args ha).1]; rfl)
  (fun x hx => by
   rcases List.mem_cons.1 hx with rfl | hx
   ·exact (m1 s).1
   rcases List.mem_cons.1 hx with rfl | hx
   ·exact (m2 s).1
   ·rw [List.mem_singleton.1 hx]; rfl)
  (fun v' h' ⟨e,h0,h1,h2⟩ => ⟨by rw [e]; exact (A.loc0 _ v hv).1,fun j x hj hx => by
   have : j = 0 ∨ j = 1 ∨ j = 2:=by simp only [List.length_cons,List.length_nil] at hj; omega
   rcases this with rfl | rfl | rfl
   ·rw [h0] at hx; injection hx with hx; subst hx; exact (m1 s').1
   ·rw [h1] at hx; injection hx with hx; subst hx; exact (m2 s').1
   ·rw [h2] at hx; injection hx with hx; subst hx; rfl⟩)
  (h:=⟨fM1 s :: fM2 s :: fB s :: l,t⟩) (fun j hj => by
   have : j = 0 ∨ j = 1 ∨ j = 2:=by simp only [List.length_cons,List.length_nil] at hj; omega
   rcases this with rfl | rfl | rfl
   ·show some (fM1 s) = some ((fM1 s).ren fun i => i); rw [show (fM1 s).ren (fun i => i) = fM1 s from (m1 s).2]
   ·show some (fM2 s) = some ((fM2 s).ren fun i => i); rw [show (fM2 s).ren (fun i => i) = fM2 s from (m2 s).2]
   ·rfl)
 have e : A.renL (fun i => i) (.ptr 2 0 :: args) = .ptr 2 0 :: args:=by unfold A.renL; rw [(A.locL0 0 args ha).2]; rfl
 rw [e] at key
 refine key.mono ?_
 rintro v' h' ⟨v0,⟨b0,t0⟩,⟨rfl,h0,h1,h2⟩,rfl,rfl⟩
 refine ⟨(A.loc0 0 _ hv).2 _,?_⟩
 match b0,h0,h1,h2 with
 | x :: y :: z :: b,h0,h1,h2 =>
  simp only [List.getElem?_cons_zero,List.getElem?_cons_succ,Option.some.injEq] at h0 h1 h2
  subst h0; subst h1; subst h2
  have e1 : (fM1 s').ren (fun i => i) = fM1 s':=(m1 s').2
  have e2 : (fM2 s').ren (fun i => i) = fM2 s':=(m2 s').2
  simp only [List.length_cons,List.length_nil,List.take_succ_cons,List.take_zero,setAll,e1,e2]
  rfl
theorem a_jnext (f : Fo) (r : Jr) (hn : 0 ≤ f.n ∧ f.n ≤ 1000000000) (l : List Blk) (t : List (TypeId × Nat × Nat)) :
  ACall Tryz.prog GT 61 [.ptr 2 0,.agg r.cells] ⟨fM1 f :: fM2 f :: fB f :: l,t⟩ fun v h' => v = .bool (f.next r).1 ∧ h' = ⟨fM1 (f.next r).2 :: fM2 (f.next r).2 :: fB (f.next r).2 :: l,t⟩:=by
 have hloc : A.locL 0 [.agg r.cells] = true:=by
  have:=recA_loc r
  unfold recA at this
  simp only [A.locL,this,Bool.and_true]
 refine liftF (s':=(f.next r).2) ?_ hloc rfl l t
 have g1:=gmap_find recA r.step f.ints
 have g2:=gmap_find A.bool r.step f.ress
 have p1:=gmap_put recA r.step r f.ints
 have p2:=gmap_put A.bool r.step true f.ress
 have k1:=gmap_clock recA r.step f.ints f.c1
 have k2:=gmap_clock A.bool r.step f.ress f.c2
 have z1:=gmap_length recA f.ints
 have z2:=gmap_length A.bool f.ress
 obtain ⟨q,hq⟩ : ∃ q,f.next r = q:=⟨_,rfl⟩
 rw [hq]
 unfold Fo.next at hq
 dsimp only at hq
 obtain ⟨n,ended,ints,ress,c1,c2⟩:=f
 dsimp only at *
 have hw : IntKind.i64.wrap (n + 1) = n + 1:=wrap64 (by omega) (by omega)
 rw [hw] at hq
 obtain ⟨kd,⟨lin,ser,ins,ps,os⟩,st,op,ad,dp,ty,tk,er,⟨a1,a2,a3,a4,⟨k,nn,ss,is,ks⟩,v,tn,fi,ds⟩⟩:=r
 simp only [Jr.cells,Sf.Inst.cells,List.cons_append,List.nil_append] at *
 unfold fM1 fM2 fB
 dsimp only
 refine fo ?_
 refine runx0 hw ti ?_
 (refine AX.alt0 ti ?_ ?_)
 ·intro hc
  rw [if_pos hc] at hq
  subst hq
  refine runx0 ti ti ?_
  exact ⟨_,le_refl _,rfl,rfl,rfl,rfl⟩
 intro hc
 rw [if_neg (by rw [hc]; decide)] at hq
 have p1' : mput st (.agg [.int .i64 kd,.str lin,.int .i64 ser,.sl 13 .no (ins.map Sf.Inst.cells),.sl 3 .no (ps.map Sf.Pend.cells),.sl 7 .no (os.map Sf.Outp.cells),.int .i64 st,.int .i64 op,.str ad,.str dp,.str ty,.str tk,.int .i64 er,.str a1,.str a2,.str a3,.str a4,.int .i64 k,.int .i64 nn,.str ss,.sl 5 .no (V.cellss is),.sl 1 .no (strsA ks),.int .i64 v,.bool tn,.bool fi,.sl 1 .no (strsA ds)]) (gmap recA ints) = gmap recA (gput st ⟨kd,⟨lin,ser,ins,ps,os⟩,st,op,ad,dp,ty,tk,er,⟨a1,a2,a3,a4,⟨k,nn,ss,is,ks⟩,v,tn,fi,ds⟩⟩ ints):=p1
 obtain ⟨x0,x1,x2,x3,x4,x5,x6,x9,x11,x12,x13,x14,x15,x16,x17,x18,x19,x20,x21,x22,x23,x24,x25,iop,iad,ity,b,hM,hone,hb,hf⟩ : ∃ (x0 x1 x2 x3 x4 x5 x6 x9 x11 x12 x13 x14 x15 x16 x17 x18 x19 x20 x21 x22 x23 x24 x25 : A) (iop : Int) (iad ity : List UInt8) (b : Bool),mgetV (.agg [.int .i64 0,.str [],.int .i64 0,.sl 0 .nil [],.sl 0 .nil [],.sl 0 .nil [],.int .i64 0,.int .i64 0,.str [],.str [],.str [],.str [],.int .i64 0,.str [],.str [],.str [],.str [],.int .i64 0,.int .i64 0,.str [],.sl 0 .nil [],.sl 0 .nil [],.int .i64 0,.bool false,.bool false,.sl 0 .nil []]) true (mfind st (gmap recA ints)) = .tup [.agg [x0,x1,x2,x3,x4,x5,x6,.int .i64 iop,.str iad,x9,.str ity,x11,x12,x13,x14,x15,x16,x17,x18,x19,x20,x21,x22,x23,x24,x25],.bool b] ∧ (A.one x0 = true ∧ A.one x1 = true ∧ A.one x2 = true ∧ A.one x3 = true ∧ A.one x4 = true ∧ A.one x5 = true ∧ A.one x6 = true ∧ A.one x9 = true ∧ A.one x11 = true ∧ A.one x12 = true ∧ A.one x13 = true ∧ A.one x14 = true ∧ A.one x15 = true ∧ A.one x16 = true ∧ A.one x17 = true ∧ A.one x18 = true ∧ A.one x19 = true ∧ A.one x20 = true ∧ A.one x21 = true ∧ A.one x22 = true ∧ A.one x23 = true ∧ A.one x24 = true ∧ A.one x25 = true) ∧ b = (gfind st ints).isSome ∧ ∀ j,gfind st ints = some j → iop = j.op ∧ iad = j.addr ∧ ity = j.typ:=by
  rw [g1]
  cases ho : gfind st ints with
  | none => exact ⟨.int .i64 0,.str [],.int .i64 0,.sl 0 .nil [],.sl 0 .nil [],.sl 0 .nil [],.int .i64 0,.str [],.str [],.int .i64 0,.str [],.str [],.str [],.str [],.int .i64 0,.int .i64 0,.str [],.sl 0 .nil [],.sl 0 .nil [],.int .i64 0,.bool false,.bool false,.sl 0 .nil [],0,[],[],false,rfl,⟨rfl,rfl,rfl,rfl,rfl,rfl,rfl,rfl,rfl,rfl,rfl,rfl,rfl,rfl,rfl,rfl,rfl,rfl,rfl,rfl,rfl,rfl,rfl⟩,rfl,fun j h => by cases h⟩
  | some j =>
   obtain ⟨jk,⟨jlin,jser,jins,jps,jos⟩,jst,jop,jad,jdp,jty,jtk,jer,⟨b1,b2,b3,b4,⟨jk2,jn,js,jis,jks⟩,jv,jtn,jfi,jds⟩⟩:=j
   exact ⟨.int .i64 jk,.str jlin,.int .i64 jser,.sl 13 .no (jins.map Sf.Inst.cells),.sl 3 .no (jps.map Sf.Pend.cells),.sl 7 .no (jos.map Sf.Outp.cells),.int .i64 jst,.str jdp,.str jtk,.int .i64 jer,.str b1,.str b2,.str b3,.str b4,.int .i64 jk2,.int .i64 jn,.str js,.sl 5 .no (V.cellss jis),.sl 1 .no (strsA jks),.int .i64 jv,.bool jtn,.bool jfi,.sl 1 .no (strsA jds),jop,jad,jty,true,rfl,⟨rfl,rfl,rfl,rfl,rfl,rfl,rfl,rfl,rfl,rfl,rfl,rfl,rfl,rfl,rfl,rfl,rfl,rfl,rfl,rfl,rfl,rfl,rfl⟩,rfl,fun j h => by injection h with h; subst h; exact ⟨rfl,rfl,rfl⟩⟩
 refine runx0 ti ti ?_
 refine go_gen [11] 10 [⟨[.map (gmap recA ints) c1,.map (gmap A.bool ress) c2,.cells 104 [.int .i64 (n + 1),.bool ended,.mp 0,.mp 1],.cells 75 [.int .i64 kd,.str lin,.int .i64 ser,.sl 13 .no (ins.map Sf.Inst.cells),.sl 3 .no (ps.map Sf.Pend.cells),.sl 7 .no (os.map Sf.Outp.cells),.int .i64 st,.int .i64 op,.str ad,.str dp,.str ty,.str tk,.int .i64 er,.str a1,.str a2,.str a3,.str a4,.int .i64 k,.int .i64 nn,.str ss,.sl 5 .no (V.cellss is),.sl 1 .no (strsA ks),.int .i64 v,.bool tn,.bool fi,.sl 1 .no (strsA ds)]],[]⟩,⟨[],[]⟩,⟨[.map (gmap recA ints) c1,.map (gmap A.bool ress) c2,.cells 104 [.int .i64 (n + 1),.bool ended,.mp 0,.mp 1],.cells 75 [.int .i64 kd,.str lin,.int .i64 ser,.sl 13 .no (ins.map Sf.Inst.cells),.sl 3 .no (ps.map Sf.Pend.cells),.sl 7 .no (os.map Sf.Outp.cells),.int .i64 st,.int .i64 op,.str ad,.str dp,.str ty,.str tk,.int .i64 er,.str a1,.str a2,.str a3,.str a4,.int .i64 k,.int .i64 nn,.str ss,.sl 5 .no (V.cellss is),.sl 1 .no (strsA ks),.int .i64 v,.bool tn,.bool fi,.sl 1 .no (strsA ds)],.cells 75 [.int .i64 0,.str [],.int .i64 0,.sl 0 .nil [],.sl 0 .nil [],.sl 0 .nil [],.int .i64 0,.int .i64 0,.str [],.str [],.str [],.str [],.int .i64 0,.str [],.str [],.str [],.str [],.int .i64 0,.int .i64 0,.str [],.sl 0 .nil [],.sl 0 .nil [],.int .i64 0,.bool false,.bool false,.sl 0 .nil []]],[]⟩,⟨[.map (gmap recA ints) c1,.map (gmap A.bool ress) c2,.cells 104 [.int .i64 (n + 1),.bool ended,.mp 0,.mp 1],.cells 75 [.int .i64 kd,.str lin,.int .i64 ser,.sl 13 .no (ins.map Sf.Inst.cells),.sl 3 .no (ps.map Sf.Pend.cells),.sl 7 .no (os.map Sf.Outp.cells),.int .i64 st,.int .i64 op,.str ad,.str dp,.str ty,.str tk,.int .i64 er,.str a1,.str a2,.str a3,.str a4,.int .i64 k,.int .i64 nn,.str ss,.sl 5 .no (V.cellss is),.sl 1 .no (strsA ks),.int .i64 v,.bool tn,.bool fi,.sl 1 .no (strsA ds)],.cells 75 [x0,x1,x2,x3,x4,x5,x6,.int .i64 iop,.str iad,x9,.str ity,x11,x12,x13,x14,x15,x16,x17,x18,x19,x20,x21,x22,x23,x24,x25]],[]⟩] [[0,2],[0,2],[0,2],[0,2],[0,2],[0,2],[0,2],[0,2],[0,2],[0,2,3],[0],[2],[3]] rfl (by decide +kernel) ?_
 refine AX.rung ti ?_
 refine gn_op (v:=.tup [.agg [x0,x1,x2,x3,x4,x5,x6,.int .i64 iop,.str iad,x9,.str ity,x11,x12,x13,x14,x15,x16,x17,x18,x19,x20,x21,x22,x23,x24,x25],.bool b]) rfl ⟨by simp [evX,put,astep,mgetA,hM,nxt2],by simp [evX,put,astep,mgetA,hM,nxt2],trivial⟩ ?_
 refine AX.rung hone ?_
 refine gn_op (v:=.bool b) rfl ⟨by simp [evX,put,astep,nxt2],by simp [evX,put,astep,nxt2],by simp [evX,put,astep,nxt2],trivial⟩ ?_
 refine AX.rung hone ?_
 refine gn_op (v:=.tup []) rfl ⟨by simp [evX,put,astep,storeA,setCells,A.cells,nxt2,hone,show A.one (.int .i64 iop) = true from rfl,show A.one (.str iad) = true from rfl,show A.one (.str ity) = true from rfl],trivial⟩ ?_
 refine gn_op (v:=.bool b) rfl ⟨by simp [evX,put,astep,nxt2],trivial⟩ ?_
 refine gn_nil ?_
 by_cases q2 : kd = 2
 ·subst q2
  rw [if_pos rfl] at hq
  subst hq
  refine runx0 (ai p1' k1) ti ?_
  exact ⟨_,le_refl _,by rw [hb]; rfl,rfl,rfl,rfl⟩
 have f2 : (kd == 2) = false:=by simp [q2]
 rw [if_neg q2] at hq
 have fin : ∀ ag : Bool,(b && !ag && iop == op && iad == ad && ity == ty) = (match gfind st ints with
   | some i => !ag && i.op == op && i.addr == ad && i.typ == ty
   | none => false):=by
  intro ag
  cases ho : gfind st ints with
  | none => rw [hb,ho]; rfl
  | some i =>
   obtain ⟨e1,e2,e3⟩:=hf i ho
   rw [hb,ho,e1,e2,e3]
   simp
 have hG : mgetV (.bool false) false (mfind st (gmap A.bool ress)) = .bool ((gfind st ress).getD false):=by rw [g2]; cases gfind st ress <;> rfl
 have p2' : mput st (.bool true) (gmap A.bool ress) = gmap A.bool (gput st true ress):=p2
 obtain ⟨ag,hag⟩ : ∃ ag,(gfind st ress).getD false = ag:=⟨_,rfl⟩
 rw [hag] at hG hq
 have hG' : (mfind st (gmap A.bool ress)).getD (.bool false) = .bool ag:=hG
 by_cases q34 : kd = 3 ∨ kd = 4
 ·rw [if_pos q34] at hq
  subst hq
  rcases q34 with rfl | rfl
  ·refine runx0 (ai p2' (ai k2 (ai hG hG'))) ti ?_
   exact ⟨_,le_refl _,congrArg A.bool (fin ag),rfl,rfl,rfl⟩
  ·refine runx0 (ai p2' (ai k2 (ai hG hG'))) ti ?_
   exact ⟨_,le_refl _,congrArg A.bool (fin ag),rfl,rfl,rfl⟩
 have f3 : (kd == 3) = false:=by simp; omega
 have f4 : (kd == 4) = false:=by simp; omega
 rw [if_neg q34] at hq
 by_cases q5 : kd = 5
 ·subst q5
  rw [if_pos rfl] at hq
  subst hq
  refine runx0 (ai z1 z2) ti ?_
  exact ⟨_,le_refl _,rfl,rfl,rfl,rfl⟩
 have f5 : (kd == 5) = false:=by simp [q5]
 rw [if_neg q5] at hq
 subst hq
 refine runx0 (ai f2 (ai f3 (ai f4 f5))) ti ?_
 exact ⟨_,le_refl _,rfl,rfl,rfl,rfl⟩
structure JrIn (r : Jr) : Prop where
 base : Sf.StIn r.base
 lens : r.after.attrs.lens
 deps : r.after.deps.length ≤ 1000000000
theorem Fo.next_n (f : Fo) (r : Jr) : (f.next r).2.n = IntKind.i64.wrap (f.n + 1):=by
 unfold Fo.next
 dsimp only
 repeat' split
 all_goals rfl
theorem a_jcheck (l : List Jr) (hin : ∀ r ∈ l,JrIn r) (hl : l.length ≤ 1000000) (h : Hp) : ACall Tryz.prog GT 29 [.sl 26 .no (l.map Jr.cells)] h fun v h' => v = .int .i64 (Fo.check ⟨0,false,[],[],0,0⟩ l) ∧ h' = h:=by
 refine pcall ?_ rfl (by simp [A.pure,A.data]) h
 refine fo ?_
 obtain ⟨q,hq⟩ : ∃ q,Fo.check ⟨0,false,[],[],0,0⟩ l = q:=⟨_,rfl⟩
 rw [hq]
 have li : (l.map Jr.cells).length = l.length:=List.length_map _
 refine run0 li ?_
 refine awp_loop (fun m ts hh => ∃ (i : Nat) (f : Fo) (l' : List Blk) (t : List (TypeId × Nat × Nat)),m = l.length - i ∧ i ≤ l.length ∧ hh = ⟨fM1 f :: fM2 f :: fB f :: l',t⟩ ∧ Fo.check f (l.drop i) = q ∧ f.n = (i : Int) ∧
  (ts 3 = .ptr 2 0 ∧ ts 10 = .sl 26 .no (l.map Jr.cells) ∧ ts 11 = .int .i64 (l.length : Nat) ∧ ts 12 = .int .i64 (i : Nat))) l.length ?_ ?_
 ·exact ⟨0,⟨0,false,[],[],0,0⟩,[],[],rfl,Nat.zero_le _,rfl,hq,rfl,by (exact inv0 li)⟩
 rintro m ts hh ⟨i,f,l',t,rfl,hi,rfl,hc,hfn,ht⟩
 rcases Nat.lt_or_ge i l.length with hlt | hge
 rotate_left
 ·have hf:=rowj_end Jr.cells l i hge
  rw [List.drop_of_length_le hge] at hc
  have hc : 0 = q:=hc
  subst hc
  refine run0 (ai ht hf) ?_
  exact ⟨_,le_refl _,rfl⟩
 have hf:=rowj_at Jr.cells l i hlt (by omega)
 have hri:=hin _ (List.getElem_mem hlt)
 rw [List.drop_eq_getElem_cons hlt] at hc
 unfold Fo.check at hc
 obtain ⟨r,hr⟩ : ∃ r,l[i] = r:=⟨_,rfl⟩
 rw [hr] at hf hri hc
 have cv:=a_jvalid r hri.lens hri.deps
 have cs:=a_stateCheck r.base hri.base
 have cn:=fun l t => a_jnext f r (by omega) l t
 have hnn:=Fo.next_n f r
 obtain ⟨⟨nb,f'⟩,hn⟩ : ∃ p,f.next r = p:=⟨_,rfl⟩
 rw [hn] at cn hc hnn
 dsimp only at cn hc hnn
 obtain ⟨vb,hvb⟩ : ∃ b,r.validB = b:=⟨_,rfl⟩
 obtain ⟨Z,hZ⟩ : ∃ Z,Sf.checkZ r.base = Z:=⟨_,rfl⟩
 unfold SCheck at cs
 rw [hvb] at cv hc
 rw [hZ] at cs hc
 clear hvb hZ hn hri hr
 obtain ⟨kd,⟨lin,ser,ins,ps,os⟩,st,op,ad,dp,ty,tk,er,⟨a1,a2,a3,a4,⟨k,nn,ss,is,ks⟩,v,tn,fi,ds⟩⟩:=r
 simp only [Jr.cells,Sf.Inst.cells,List.cons_append,List.nil_append,Sf.St.A] at hf cv cn cs
 unfold fM1 fM2 fB at cn ⊢
 cases vb
 ·rw [if_pos (by rfl)] at hc
  subst hc
  refine runx0 (ai ht hf) (ai cv ti) ?_
  exact ⟨_,le_refl _,rfl⟩
 have hc : (if (kd == 1 && Z != 0) = true then 1 else if nb = true then Fo.check f' (l.drop (i + 1)) else 38) = q:=hc
 refine runx0 (ai ht hf) (ai cv (ai cs ti)) ?_
 (refine AX.alt0 ht ?_ ?_)
 ·intro hb
  rw [if_pos hb] at hc
  subst hc
  refine runx0 (ai ht hf) ti ?_
  exact ⟨_,le_refl _,rfl⟩
 intro hb
 rw [if_neg (by rw [hb]; decide)] at hc
 refine runx0 (ai ht hf) (ai cn ti) ?_
 cases nb
 ·rw [if_neg (by decide)] at hc
  subst hc
  refine runx0 (ai ht hf) ti ?_
  exact ⟨_,le_refl _,rfl⟩
 ·rw [if_pos rfl] at hc
  refine runx0 (ai ht hf) ti ?_
  exact ⟨_,by omega,i + 1,f',_,_,rfl,by omega,rfl,hc,by rw [hnn,hfn]; exact wrap64 (by omega) (by omega),by (exact inv0 (ai ht hf))⟩
section
variable {P : Program} {G : World → Prop} {C : Ctx} {h : Hp}
inductive FzV (h : Hp) : A → A → Prop
 | one {x y : A} (e : Fz1 h x y) : FzV h x y
 | agg {xs ys : List A} (e : FzL h xs ys) : FzV h (.agg xs) (.agg ys)
theorem pcallv {f : FuncId} {args : List A} {y : A} (hc : ACall P G f args ⟨[],[]⟩ fun v h' => FzV h' v y) (ha : args.all A.pure = true) (h : Hp) : ACall P G f args h fun v h' => v = y ∧ h' = h:=by
 intro C cs hI hr
 have hid : Inv G C.hid ⟨[],[]⟩:=by
  refine ⟨rfl,fun i b hb => by simp at hb,fun i hi => by simp [Ctx.hid] at hi,fun g i hg => by simp [Ctx.hid] at hg,fun g j hs => ?_,fun t E W m ht => by simp [Ctx.hid] at ht,fun t t' ht => by simp [Ctx.hid] at ht,fun t => by simp [Ctx.hid],hI.base,hI.glob⟩
  exact ⟨(hI.prot g j hs).1,rfl,fun t E W m ht => by simp [Ctx.hid] at ht⟩
 refine (hc C.hid cs hid (RepL.pures (C:=C) (C':=C.hid) ⟨fun g j hs => ⟨hs,rfl⟩⟩ args cs ha hr)).mono ?_
 rintro e w' ⟨C1,h1,v,cv,rfl,rfl,I1,S1,r1,hf⟩
 have hblk : ∀ g,g < C.w.heap.size → C1.w.heap[g]? = C.w.heap[g]?:=fun g hg => S1.frame g hg rfl fun t ht => by simp [Ctx.hid] at ht
 have hnew : ∀ g i,C1.own g = some i → C.w.heap.size ≤ g:=fun g i hg => by
  rcases Nat.lt_or_ge g C.w.heap.size with hlt | hge
  ·have:=S1.own g hlt
   rw [hg] at this
   simp [Ctx.hid] at this
  ·exact hge
 let C2 : Ctx:={ C with w:=C1.w,S:=fun g j => C1.S g j ∨ ((C1.own g).isSome = true),own:=fun g => if g < C.w.heap.size then C.own g else none }
 have hsz : C.w.heap.size ≤ C1.w.heap.size:=S1.size
 have he : Ext C C2:=by
  refine ⟨fun g j hs => ?_,Nat.le_refl _,fun _ _ => rfl,fun t E W m ht => ?_⟩
  ·obtain ⟨k1,k2⟩:=S1.ext.cells g j hs
   exact ⟨.inl k1,k2⟩
  ·obtain ⟨_,_,cap,h2,_⟩:=hI.rows t E W m ht
   exact ⟨m,ht,.inr ⟨rfl,rfl,fun cap hc => hc.same (hblk _ h2.lt)⟩⟩
 have hown : ∀ g i,C2.own g = some i ↔ C.own g = some i:=fun g i => by
  show (if g < C.w.heap.size then C.own g else none) = some i ↔ _
  split
  ·exact Iff.rfl
  ·next hg => exact ⟨fun e => (by cases e),fun e => absurd (hI.ownlt g i e).2.1 hg⟩
 have hprot : ∀ g j,C2.S g j → C.S g j ∨ C.w.heap.size ≤ g:=fun g j hs => by
  rcases hs with hs | hs
  ·rcases S1.prot g j hs with h2 | h2 | ⟨t,h2,_⟩
   ·exact .inl h2
   ·exact .inr h2
   ·simp [Ctx.hid] at h2
  ·obtain ⟨i,hi⟩:=Option.isSome_iff_exists.1 hs
   exact .inr (hnew g i hi)
 have hSlt : ∀ g j,C2.S g j → g < C1.w.heap.size:=fun g j hs => by
  rcases hs with hs | hs
  ·exact (I1.prot g j hs).1
  ·obtain ⟨i,hi⟩:=Option.isSome_iff_exists.1 hs
   exact (I1.ownlt g i hi).2.1
 have hsame : Same C1 C2:=⟨fun g j hs => ⟨.inl hs,rfl⟩⟩
 have frz : ∀ (xs ys : List A) (vs : List Value),FzL h1 xs ys → RepL C1 xs vs → RepL C2 ys vs:=by
  intro xs
  induction xs with
  | nil =>
   intro ys vs hf hr
   cases ys with
   | nil => exact hr
   | cons y ys => exact hf.elim
  | cons x xs ih =>
   intro ys vs hf hr
   cases ys with
   | nil => exact hf.elim
   | cons y ys =>
    obtain ⟨c,cs',rfl,k1,k2⟩:=repL_cons.1 hr
    refine repL_cons.2 ⟨c,cs',rfl,?_,ih ys cs' hf.2 k2⟩
    rcases hf.1 with ⟨rfl,hd⟩ | ⟨i,W,T,rows,rfl,hb,rfl,hW,hd⟩
    ·exact Rep.same hsame _ _ hd k1
    ·obtain ⟨cap,rfl,hcap,hi⟩:=rep_bs.1 k1
     obtain ⟨ds,rest,q1,q2⟩:=I1.box i _ hb
     have hsd : (C1.own (C1.κ i)).isSome = true:=by rw [I1.ownk i hi]; rfl
     have hdd : ∀ (l : List A) (ds : List Value),l.all A.data = true → RepL C1 l ds → RepL C2 l ds:=fun l ds hd hr => RepL.same hsame l ds hd hr
     refine rep_sl.2 ⟨_,cap,rfl,hcap,repRows_of rows ds 0 hW hd (hdd _ _ hd q2) (fun j _ => .inr hsd) (fun j u hu => ?_),trivial⟩
     have q1' : C2.w.heap[C1.κ i]? = some (.cells (ds ++ rest).toArray T (0,0)):=q1
     rw [cell_of_row _ _ _ _ _ _ q1']
     have hj : j < ds.length:=(List.getElem?_eq_some_iff.1 hu).1
     simp only [List.getElem?_toArray]
     rw [show 0 + 0 * W + j = j by omega,List.getElem?_append_left hj]
     exact hu
 refine ⟨C2,h,y,cv,rfl,rfl,⟨hI.nb,fun i b hib => ?_,fun i hi => (hown _ _).2 (hI.ownk i hi),fun g i hg => ?_,fun g j hs => ?_,fun t E W m ht => ?_,hI.inj,hI.toks,Nat.le_trans hI.base hsz,fun w2 hw => ?_⟩,⟨he,S1.os,S1.tape,S1.output,hsz,rfl,fun g hg _ _ => hblk g hg,fun g hg => ?_,fun g j hs => ?_,fun t ht => .inr ⟨ht,rfl⟩⟩,?_,rfl,rfl⟩
 ·have hi : i < C.nb:=by rw [← hI.nb]; exact (List.getElem?_eq_some_iff.1 hib).1
  exact (hI.box i b hib).ext he hi (hI.ownk i hi) (fun g j hg => (hI.ownlt g j hg).2.1) (fun g hg => hblk g (hI.ownlt g i hg).2.1) (fun g => hown g i) hsz
 ·obtain ⟨k1,k2,k3⟩:=hI.ownlt g i ((hown g i).1 hg)
  exact ⟨k1,Nat.lt_of_lt_of_le k2 hsz,k3⟩
 ·have hlt:=hSlt g j hs
  rcases hprot g j hs with h2 | h2
  ·obtain ⟨k1,k2,k3⟩:=hI.prot g j h2
   exact ⟨hlt,by show (if g < C.w.heap.size then C.own g else none) = none; rw [if_pos k1,k2],k3⟩
  ·refine ⟨hlt,by show (if g < C.w.heap.size then C.own g else none) = none; rw [if_neg (by omega)],fun t E W m ht e => ?_⟩
   obtain ⟨_,_,cap,k1,_⟩:=hI.rows t E W m ht
   have:=k1.lt
   have e' : C.τ t = g:=e
   omega
 ·obtain ⟨k1,k2,cap,k3,k4⟩:=hI.rows t E W m ht
  exact ⟨by show (if C.τ t < C.w.heap.size then C.own (C.τ t) else none) = none; rw [if_pos k3.lt,k1],k2,cap,k3.same (hblk _ k3.lt),k4⟩
 ·exact hI.glob w2 fun g hg => (hw g hg).trans (hblk g (Nat.lt_of_lt_of_le hg hI.base))
 ·show (if g < C.w.heap.size then C.own g else none) = C.own g
  rw [if_pos hg]
 ·rcases hprot g j hs with h2 | h2
  ·exact .inl h2
  ·exact .inr (.inl h2)
 ·cases hf with
  | one hf =>
   have:=frz [v] [y] [cv] ⟨hf,trivial⟩ (repL_cons.2 ⟨_,_,rfl,r1,repL_nil.2 rfl⟩)
   obtain ⟨c,cs,e,k,_⟩:=repL_cons.1 this
   injection e with e; subst e
   exact k
  | agg hf =>
   obtain ⟨vs,rfl,hl⟩:=rep_agg.1 r1
   exact rep_agg.2 ⟨vs,rfl,frz _ _ vs hf hl⟩
end
end AX
set_option maxRecDepth 100000 in
theorem clone_strs (b off n c : Nat) (news : List Value) (w : World) (hl : news.length = n * 1) (hn : 0 < n) (hbig : n * 16 ≤ 140737488355328) (hmax : n ≤ maxLen) (hc : ∀ j v,news[j]? = some v → w.cell? ((⟨b,off,none⟩ : Addr).add j) = some v) (h1 : ∀ u ∈ news,u.oneCell' = true) :
  Calls Tryz.prog 195 #[.slice (some ⟨b,off,none⟩) n c] w fun e w' => ∃ v',e = .returned v' ∧ w'.ownsRow w.heap.size 9 1 v' n news ∧ Below w.heap.size w w':=by
 obtain ⟨i0,hi,hz0,hz1,hz2⟩:=info_parts (show (Tryz.prog.info? 9).map (fun i => (i.zero,i.size,i.bytes)) = some (some (.string ⟨#[]⟩),1,16) by kernel_rfl)
 have q22 : ∀ (w : World) (a : Option Addr) (n c n' c' : Nat),(binOp .eql 30 (.slice a n c) (.slice none n' c')).run Tryz.prog w = .ok (.bool a.isNone) w:=fun w a n c n' c' => Lib.run_eql_slice_nil w _ _ a n c n' c' Tryz.underlying30
 have u22 : ∀ w,Sem.run Tryz.prog (underlying 30) w = .ok (TypeDesc.slice 9) w:=run_underlying Tryz.underlying30
 have HC:=kept hc
 have H1:=kept h1
 clear hc h1
 go_enter Tryz.func195,Tryz.ntmps195
 go_wp2_with (at_builtin; refine wpList_append_own _ rfl _ _ 30 rfl w.heap.size 9 i0 (.string ⟨#[]⟩) 1 16 Tryz.underlying30 hi hz0 hz1 hz2 rfl (by decide) _ _ _ rfl (World.ownsRow_made w #[] 0 (Nat.le_refl _) (Nat.zero_le _) rfl) ⟨b,off,none⟩ n c news rfl ?qc1 ?qc2 ?qc3 ?qc4 ?qc5 ?qc6 ?_)
 case qc1 => exact hl
 case qc2 =>
  intro j u hj
  have:=HC.out j u hj
  rw [Addr.add_lit] at this ⊢
  exact Lib.cell?_alloc_some _ this
 case qc3 => exact H1.out
 case qc4 => omega
 case qc5 => omega
 case qc6 => simp
 intro v' w1 hown hgrow hnil
 have Hb:=kept (((Below.refl _ w).alloc (Nat.le_refl _) (.cells #[] 9)).grown hgrow (by simp) (by intro k hk; simp [Value.ownBlock] at hk; omega))
 have Ho:=kept (show w1.ownsRow w.heap.size 9 1 v' n news by simpa using hown)
 clear hown hgrow hnil HC H1
 go_wp2
 go_ret
 exact ⟨v',rfl,Ho.out,Hb.out⟩
theorem clone_strs0 (a : Option Addr) (c : Nat) (w : World) :
  Calls Tryz.prog 195 #[.slice a 0 c] w fun e w' => (∃ a' c',e = .returned (.slice a' 0 c')) ∧ Below w.heap.size w w':=by
 have q22 : ∀ (w : World) (a : Option Addr) (n c n' c' : Nat),(binOp .eql 30 (.slice a n c) (.slice none n' c')).run Tryz.prog w = .ok (.bool a.isNone) w:=fun w a n c n' c' => Lib.run_eql_slice_nil w _ _ a n c n' c' Tryz.underlying30
 have u22 : ∀ w,Sem.run Tryz.prog (underlying 30) w = .ok (TypeDesc.slice 9) w:=run_underlying Tryz.underlying30
 cases a with
 | none =>
  go_enter Tryz.func195,Tryz.ntmps195
  go_wp2
  go_ret
  exact ⟨⟨_,_,rfl⟩,Below.refl _ _⟩
 | some ad =>
  obtain ⟨i0,hi,hz0,hz1,hz2⟩:=info_parts (show (Tryz.prog.info? 9).map (fun i => (i.zero,i.size,i.bytes)) = some (some (.string ⟨#[]⟩),1,16) by kernel_rfl)
  go_enter Tryz.func195,Tryz.ntmps195
  go_wp2_with (at_builtin; refine wpList_append_own _ rfl _ _ 30 rfl w.heap.size 9 i0 (.string ⟨#[]⟩) 1 16 Tryz.underlying30 hi hz0 hz1 hz2 rfl (by decide) _ _ _ rfl (World.ownsRow_made w #[] 0 (Nat.le_refl _) (Nat.zero_le _) rfl) ad 0 c [] rfl rfl (by intro j u hj; simp at hj) (by intro u hu; cases hu) (by unfold maxLen; omega) (by omega) (by simp) ?_)
  intro v' w1 hown hgrow hnil
  have Hb:=kept (((Below.refl _ w).alloc (Nat.le_refl _) (.cells #[] 9)).grown hgrow (by simp) (by intro k hk; simp [Value.ownBlock] at hk; omega))
  have Hv : ∃ a' c',v' = .slice a' 0 c':=by
   rcases hown.2 with ⟨rfl,_⟩ | ⟨g,cap,cur,rfl,_⟩
   ·exact ⟨_,_,rfl⟩
   ·exact ⟨_,_,rfl⟩
  obtain ⟨a',c',rfl⟩:=Hv
  clear hown hgrow hnil
  go_wp2
  go_ret
  exact ⟨⟨_,_,rfl⟩,Hb.out⟩
namespace AX
theorem a_clone_strs0 (W0 : Nat) (o : Own) (h : Hp) : ACall Tryz.prog GT 195 [.sl W0 o []] h fun v h' => v = .sl 1 .no [] ∧ h' = h:=by
 intro C es hI ha
 obtain ⟨c,es',rfl,h1,h2⟩:=repL_cons.1 ha
 rw [repL_nil] at h2; subst h2
 obtain ⟨a,cap,rfl,_,_,_⟩:=rep_sl.1 h1
 refine (clone_strs0 a cap C.w).mono ?_
 rintro e w' ⟨⟨a',c',rfl⟩,hb⟩
 obtain ⟨i1,s1⟩:=inv_below hI hb
 exact ⟨C.at w',h,.sl 1 .no [],_,rfl,rfl,i1,s1,rep_sl.2 ⟨a',c',rfl,Nat.zero_le _,by unfold RepRows; trivial,trivial⟩,rfl,rfl⟩
theorem a_clone_strs (o : Own) (rows : List (List A)) (h0 : rows ≠ []) (hbig : rows.length * 16 ≤ 140737488355328) (hmax : rows.length ≤ maxLen) (h : Hp) :
  ACall Tryz.prog GT 195 [.sl 1 o rows] h fun v h' => v = .bs h.b.length 1 rows.length ∧ h' = ⟨h.b ++ [.row 9 rows.flatten],h.t⟩:=by
 intro C es hI ha
 obtain ⟨c,es',rfl,h1,h2⟩:=repL_cons.1 ha
 rw [repL_nil] at h2; subst h2
 have hpos : 0 < rows.length:=List.length_pos_iff.2 h0
 obtain ⟨g,off,cap,cs,rfl,k1,k2,k3,k4,k5⟩:=sl_open h1 hpos
 refine (clone_strs g off rows.length cap cs C.w k2 hpos hbig hmax k5 (repL_one k1 (data_one k3))).mono ?_
 rintro e w' ⟨v',rfl,hown,hb⟩
 rcases hown.2 with ⟨_,hz⟩ | ⟨g',cap',cur,rfl,hg,hh,hcap,_,hcs,htake⟩
 ·omega
 ·have hcur : cur = (cs ++ cur.toList.drop (rows.length * 1)).toArray:=by
   apply Array.toList_inj.1
   rw [← htake]
   simp
  rw [hcur] at hh
  obtain ⟨C',m1,m2,m3,m4,m5⟩:=new_row hI hb hg hh k1
  exact ⟨C',_,.bs h.b.length 1 rows.length,_,rfl,m1,m2,m3,rep_bs.2 ⟨cap',by rw [m4],hcap,m5⟩,rfl,rfl⟩
end AX
set_option maxRecDepth 100000 in
theorem clone_pend (b off n c : Nat) (news : List Value) (w : World) (hl : news.length = n * 3) (hn : 0 < n) (hbig : n * 48 ≤ 140737488355328) (hmax : n ≤ maxLen) (hc : ∀ j v,news[j]? = some v → w.cell? ((⟨b,off,none⟩ : Addr).add j) = some v) (h1 : ∀ u ∈ news,u.oneCell' = true) :
  Calls Tryz.prog 128 #[.slice (some ⟨b,off,none⟩) n c] w fun e w' => ∃ v',e = .returned v' ∧ w'.ownsRow w.heap.size 121 3 v' n news ∧ Below w.heap.size w w':=by
 obtain ⟨i0,hi,hz0,hz1,hz2⟩:=info_parts (show (Tryz.prog.info? 121).map (fun i => (i.zero,i.size,i.bytes)) = some (some (.agg #[.string ⟨#[]⟩,.string ⟨#[]⟩,.string ⟨#[]⟩]),3,48) by kernel_rfl)
 have q22 : ∀ (w : World) (a : Option Addr) (n c n' c' : Nat),(binOp .eql 36 (.slice a n c) (.slice none n' c')).run Tryz.prog w = .ok (.bool a.isNone) w:=fun w a n c n' c' => Lib.run_eql_slice_nil w _ _ a n c n' c' Tryz.underlying36
 have u22 : ∀ w,Sem.run Tryz.prog (underlying 36) w = .ok (TypeDesc.slice 121) w:=run_underlying Tryz.underlying36
 have HC:=kept hc
 have H1:=kept h1
 clear hc h1
 go_enter Tryz.func128,Tryz.ntmps128
 go_wp2_with (at_builtin; refine wpList_append_own _ rfl _ _ 36 rfl w.heap.size 121 i0 (.agg #[.string ⟨#[]⟩,.string ⟨#[]⟩,.string ⟨#[]⟩]) 3 48 Tryz.underlying36 hi hz0 hz1 hz2 rfl (by decide) _ _ _ rfl (World.ownsRow_made w #[] 0 (Nat.le_refl _) (Nat.zero_le _) rfl) ⟨b,off,none⟩ n c news rfl ?qc1 ?qc2 ?qc3 ?qc4 ?qc5 ?qc6 ?_)
 case qc1 => exact hl
 case qc2 =>
  intro j u hj
  have:=HC.out j u hj
  rw [Addr.add_lit] at this ⊢
  exact Lib.cell?_alloc_some _ this
 case qc3 => exact H1.out
 case qc4 => omega
 case qc5 => omega
 case qc6 => simp
 intro v' w1 hown hgrow hnil
 have Hb:=kept (((Below.refl _ w).alloc (Nat.le_refl _) (.cells #[] 121)).grown hgrow (by simp) (by intro k hk; simp [Value.ownBlock] at hk; omega))
 have Ho:=kept (show w1.ownsRow w.heap.size 121 3 v' n news by simpa using hown)
 clear hown hgrow hnil HC H1
 go_wp2
 go_ret
 exact ⟨v',rfl,Ho.out,Hb.out⟩
theorem clone_pend0 (a : Option Addr) (c : Nat) (w : World) :
  Calls Tryz.prog 128 #[.slice a 0 c] w fun e w' => (∃ a' c',e = .returned (.slice a' 0 c')) ∧ Below w.heap.size w w':=by
 have q22 : ∀ (w : World) (a : Option Addr) (n c n' c' : Nat),(binOp .eql 36 (.slice a n c) (.slice none n' c')).run Tryz.prog w = .ok (.bool a.isNone) w:=fun w a n c n' c' => Lib.run_eql_slice_nil w _ _ a n c n' c' Tryz.underlying36
 have u22 : ∀ w,Sem.run Tryz.prog (underlying 36) w = .ok (TypeDesc.slice 121) w:=run_underlying Tryz.underlying36
 cases a with
 | none =>
  go_enter Tryz.func128,Tryz.ntmps128
  go_wp2
  go_ret
  exact ⟨⟨_,_,rfl⟩,Below.refl _ _⟩
 | some ad =>
  obtain ⟨i0,hi,hz0,hz1,hz2⟩:=info_parts (show (Tryz.prog.info? 121).map (fun i => (i.zero,i.size,i.bytes)) = some (some (.agg #[.string ⟨#[]⟩,.string ⟨#[]⟩,.string ⟨#[]⟩]),3,48) by kernel_rfl)
  go_enter Tryz.func128,Tryz.ntmps128
  go_wp2_with (at_builtin; refine wpList_append_own _ rfl _ _ 36 rfl w.heap.size 121 i0 (.agg #[.string ⟨#[]⟩,.string ⟨#[]⟩,.string ⟨#[]⟩]) 3 48 Tryz.underlying36 hi hz0 hz1 hz2 rfl (by decide) _ _ _ rfl (World.ownsRow_made w #[] 0 (Nat.le_refl _) (Nat.zero_le _) rfl) ad 0 c [] rfl rfl (by intro j u hj; simp at hj) (by intro u hu; cases hu) (by unfold maxLen; omega) (by omega) (by simp) ?_)
  intro v' w1 hown hgrow hnil
  have Hb:=kept (((Below.refl _ w).alloc (Nat.le_refl _) (.cells #[] 121)).grown hgrow (by simp) (by intro k hk; simp [Value.ownBlock] at hk; omega))
  have Hv : ∃ a' c',v' = .slice a' 0 c':=by
   rcases hown.2 with ⟨rfl,_⟩ | ⟨g,cap,cur,rfl,_⟩
   ·exact ⟨_,_,rfl⟩
   ·exact ⟨_,_,rfl⟩
  obtain ⟨a',c',rfl⟩:=Hv
  clear hown hgrow hnil
  go_wp2
  go_ret
  exact ⟨⟨_,_,rfl⟩,Hb.out⟩
namespace AX
theorem a_clone_pend0 (W0 : Nat) (o : Own) (h : Hp) : ACall Tryz.prog GT 128 [.sl W0 o []] h fun v h' => v = .sl 3 .no [] ∧ h' = h:=by
 intro C es hI ha
 obtain ⟨c,es',rfl,h1,h2⟩:=repL_cons.1 ha
 rw [repL_nil] at h2; subst h2
 obtain ⟨a,cap,rfl,_,_,_⟩:=rep_sl.1 h1
 refine (clone_pend0 a cap C.w).mono ?_
 rintro e w' ⟨⟨a',c',rfl⟩,hb⟩
 obtain ⟨i1,s1⟩:=inv_below hI hb
 exact ⟨C.at w',h,.sl 3 .no [],_,rfl,rfl,i1,s1,rep_sl.2 ⟨a',c',rfl,Nat.zero_le _,by unfold RepRows; trivial,trivial⟩,rfl,rfl⟩
theorem a_clone_pend (o : Own) (rows : List (List A)) (h0 : rows ≠ []) (hbig : rows.length * 48 ≤ 140737488355328) (hmax : rows.length ≤ maxLen) (h : Hp) :
  ACall Tryz.prog GT 128 [.sl 3 o rows] h fun v h' => v = .bs h.b.length 3 rows.length ∧ h' = ⟨h.b ++ [.row 121 rows.flatten],h.t⟩:=by
 intro C es hI ha
 obtain ⟨c,es',rfl,h1,h2⟩:=repL_cons.1 ha
 rw [repL_nil] at h2; subst h2
 have hpos : 0 < rows.length:=List.length_pos_iff.2 h0
 obtain ⟨g,off,cap,cs,rfl,k1,k2,k3,k4,k5⟩:=sl_open h1 hpos
 refine (clone_pend g off rows.length cap cs C.w k2 hpos hbig hmax k5 (repL_one k1 (data_one k3))).mono ?_
 rintro e w' ⟨v',rfl,hown,hb⟩
 rcases hown.2 with ⟨_,hz⟩ | ⟨g',cap',cur,rfl,hg,hh,hcap,_,hcs,htake⟩
 ·omega
 ·have hcur : cur = (cs ++ cur.toList.drop (rows.length * 3)).toArray:=by
   apply Array.toList_inj.1
   rw [← htake]
   simp
  rw [hcur] at hh
  obtain ⟨C',m1,m2,m3,m4,m5⟩:=new_row hI hb hg hh k1
  exact ⟨C',_,.bs h.b.length 3 rows.length,_,rfl,m1,m2,m3,rep_bs.2 ⟨cap',by rw [m4],hcap,m5⟩,rfl,rfl⟩
end AX
namespace AX
theorem a_clones (ks : List (List UInt8)) (hn : ks.length ≤ 1000000000) (h : Hp) : ACall Tryz.prog GT 195 [.sl 1 .no (strsA ks)] h fun v h' => v = .sl 1 .no (strsA ks) ∧ h' = h:=by
 cases ks with
 | nil => exact a_clone_strs0 _ _ h
 | cons k l =>
  have hl : (strsA (k :: l)).length = (k :: l).length:=strsA_length _
  refine pcallv (ACall.mono (a_clone_strs .no (strsA (k :: l)) (by simp [strsA]) (by rw [hl]; omega) (by rw [hl]; unfold maxLen; omega) ⟨[],[]⟩) ?_) (by simp [A.pure,A.data]) h
  rintro v h' ⟨rfl,rfl⟩
  refine .one (.inr ⟨0,1,_,strsA (k :: l),rfl,rfl,rfl,fun r hr => ?_,?_⟩)
  ·obtain ⟨s,_,rfl⟩:=List.mem_map.1 hr; rfl
  ·rw [List.all_eq_true]
   intro x hx
   obtain ⟨r,hr,hx⟩:=List.mem_flatten.1 hx
   obtain ⟨s,_,rfl⟩:=List.mem_map.1 hr
   rw [List.mem_singleton.1 hx]; rfl
theorem a_clonep (ps : List Sf.Pend) (hn : ps.length ≤ 1000000000) (h : Hp) : ACall Tryz.prog GT 128 [.sl 3 .no (ps.map Sf.Pend.cells)] h fun v h' => v = .sl 3 .no (ps.map Sf.Pend.cells) ∧ h' = h:=by
 cases ps with
 | nil => exact a_clone_pend0 _ _ h
 | cons k l =>
  have hl : ((k :: l).map Sf.Pend.cells).length = (k :: l).length:=List.length_map _
  refine pcallv (ACall.mono (a_clone_pend .no ((k :: l).map Sf.Pend.cells) (by simp) (by rw [hl]; omega) (by rw [hl]; unfold maxLen; omega) ⟨[],[]⟩) ?_) (by simp [A.pure,A.data]) h
  rintro v h' ⟨rfl,rfl⟩
  refine .one (.inr ⟨0,3,_,(k :: l).map Sf.Pend.cells,rfl,rfl,rfl,fun r hr => ?_,?_⟩)
  ·obtain ⟨s,_,rfl⟩:=List.mem_map.1 hr; rfl
  ·rw [List.all_eq_true]
   intro x hx
   obtain ⟨r,hr,hx⟩:=List.mem_flatten.1 hx
   obtain ⟨s,_,rfl⟩:=List.mem_map.1 hr
   simp only [Sf.Pend.cells,List.mem_cons,List.not_mem_nil,or_false] at hx
   rcases hx with rfl | rfl | rfl <;> rfl
end AX
end Go.Proofs.YteklhoajalgehaaGreatDoor
