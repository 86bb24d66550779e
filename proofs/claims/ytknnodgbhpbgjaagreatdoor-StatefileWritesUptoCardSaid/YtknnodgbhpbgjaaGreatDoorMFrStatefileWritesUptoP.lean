/- Part of what the proof needs. -/
import Derived.Test.YtknnodgbhpbgjaaGreatDoorMFrStatefileWritesUptoL
import Derived.Test.YtknnodgbhpbgjaaGreatDoorMFrStatefileWritesUptoO
import Derived.Shelf.Slices.Clone
set_option maxHeartbeats 4000000
set_option linter.unusedSimpArgs false
set_option linter.unusedVariables false
set_option linter.unnecessarySimpa false
namespace Go.Proofs.YtknnodgbhpbgjaaGreatDoor
open Go.RowKit
set_option maxRecDepth 100000 in
theorem clone_steps (b off n c : Nat) (news : List Value) (w : World) (hl : news.length = n * 4) (hn : 0 < n) (hbig : n * 48 ≤ 140737488355328) (hmax : n ≤ maxLen) (hc : ∀ j v,news[j]? = some v → w.cell? ((⟨b,off,none⟩ : Addr).add j) = some v) (h1 : ∀ u ∈ news,u.oneCell' = true) :
  Calls Tryz.prog 333 #[.slice (some ⟨b,off,none⟩) n c] w fun e w' => ∃ v',e = .returned v' ∧ w'.ownsRow w.heap.size 321 4 v' n news ∧ Below w.heap.size w w':=by
 obtain ⟨i0,hi,hz0,hz1,hz2⟩:=info_parts (show (Tryz.prog.info? 321).map (fun i => (i.zero,i.size,i.bytes)) = some (some (.agg #[.string ⟨#[]⟩,.int .i64 0,.int .i64 0,.string ⟨#[]⟩]),4,48) by kernel_rfl)
 have q22 : ∀ (w : World) (a : Option Addr) (n c n' c' : Nat),(binOp .eql 279 (.slice a n c) (.slice none n' c')).run Tryz.prog w = .ok (.bool a.isNone) w:=fun w a n c n' c' => Lib.run_eql_slice_nil w _ _ a n c n' c' Tryz.underlying279
 have u22 : ∀ w,Sem.run Tryz.prog (underlying 279) w = .ok (TypeDesc.slice 321) w:=run_underlying Tryz.underlying279
 have HC:=kept hc
 have H1:=kept h1
 clear hc h1
 go_enter Tryz.func333,Tryz.ntmps333
 go_wp2_with (at_builtin; refine wpList_append_own _ rfl _ _ 279 rfl w.heap.size 321 i0 (.agg #[.string ⟨#[]⟩,.int .i64 0,.int .i64 0,.string ⟨#[]⟩]) 4 48 Tryz.underlying279 hi hz0 hz1 hz2 rfl (by decide) _ _ _ rfl (World.ownsRow_made w #[] 0 (Nat.le_refl _) (Nat.zero_le _) rfl) ⟨b,off,none⟩ n c news rfl ?qc1 ?qc2 ?qc3 ?qc4 ?qc5 ?qc6 ?_)
 case qc1 => exact hl
 case qc2 =>
  intro j u hj
  have:=HC.out j u hj
  rw [Addr.add_lit] at this ⊢
  exact Lib.cell?_alloc_some _ this
 case qc3 => exact H1.out
 case qc4 => omega
 case qc5 => omega
 case qc6 => simp
 intro v' w1 hown hgrow hnil
 have Hb:=kept (((Below.refl _ w).alloc (Nat.le_refl _) (.cells #[] 321)).grown hgrow (by simp) (by intro k hk; simp [Value.ownBlock] at hk; omega))
 have Ho:=kept (show w1.ownsRow w.heap.size 321 4 v' n news by simpa using hown)
 clear hown hgrow hnil HC H1
 go_wp2
 go_ret
 exact ⟨v',rfl,Ho.out,Hb.out⟩
theorem clone_steps0 (a : Option Addr) (c : Nat) (w : World) :
  Calls Tryz.prog 333 #[.slice a 0 c] w fun e w' => (∃ a' c',e = .returned (.slice a' 0 c')) ∧ Below w.heap.size w w':=by
 have q22 : ∀ (w : World) (a : Option Addr) (n c n' c' : Nat),(binOp .eql 279 (.slice a n c) (.slice none n' c')).run Tryz.prog w = .ok (.bool a.isNone) w:=fun w a n c n' c' => Lib.run_eql_slice_nil w _ _ a n c n' c' Tryz.underlying279
 have u22 : ∀ w,Sem.run Tryz.prog (underlying 279) w = .ok (TypeDesc.slice 321) w:=run_underlying Tryz.underlying279
 cases a with
 | none =>
  go_enter Tryz.func333,Tryz.ntmps333
  go_wp2
  go_ret
  exact ⟨⟨_,_,rfl⟩,Below.refl _ _⟩
 | some ad =>
  obtain ⟨i0,hi,hz0,hz1,hz2⟩:=info_parts (show (Tryz.prog.info? 321).map (fun i => (i.zero,i.size,i.bytes)) = some (some (.agg #[.string ⟨#[]⟩,.int .i64 0,.int .i64 0,.string ⟨#[]⟩]),4,48) by kernel_rfl)
  go_enter Tryz.func333,Tryz.ntmps333
  go_wp2_with (at_builtin; refine wpList_append_own _ rfl _ _ 279 rfl w.heap.size 321 i0 (.agg #[.string ⟨#[]⟩,.int .i64 0,.int .i64 0,.string ⟨#[]⟩]) 4 48 Tryz.underlying279 hi hz0 hz1 hz2 rfl (by decide) _ _ _ rfl (World.ownsRow_made w #[] 0 (Nat.le_refl _) (Nat.zero_le _) rfl) ad 0 c [] rfl rfl (by intro j u hj; simp at hj) (by intro u hu; cases hu) (by unfold maxLen; omega) (by omega) (by simp) ?_)
  intro v' w1 hown hgrow hnil
  have Hb:=kept (((Below.refl _ w).alloc (Nat.le_refl _) (.cells #[] 321)).grown hgrow (by simp) (by intro k hk; simp [Value.ownBlock] at hk; omega))
  have Hv : ∃ a' c',v' = .slice a' 0 c':=by
   rcases hown.2 with ⟨rfl,_⟩ | ⟨g,cap,cur,rfl,_⟩
   ·exact ⟨_,_,rfl⟩
   ·exact ⟨_,_,rfl⟩
  obtain ⟨a',c',rfl⟩:=Hv
  clear hown hgrow hnil
  go_wp2
  go_ret
  exact ⟨⟨_,_,rfl⟩,Hb.out⟩
namespace AX
theorem a_clone_steps0 (W0 : Nat) (o : Own) (h : Hp) : ACall Tryz.prog GT 333 [.sl W0 o []] h fun v h' => v = .sl 4 .no [] ∧ h' = h:=by
 intro C es hI ha
 obtain ⟨c,es',rfl,h1,h2⟩:=repL_cons.1 ha
 rw [repL_nil] at h2; subst h2
 obtain ⟨a,cap,rfl,_,_,_⟩:=rep_sl.1 h1
 refine (clone_steps0 a cap C.w).mono ?_
 rintro e w' ⟨⟨a',c',rfl⟩,hb⟩
 obtain ⟨i1,s1⟩:=inv_below hI hb
 exact ⟨C.at w',h,.sl 4 .no [],_,rfl,rfl,i1,s1,rep_sl.2 ⟨a',c',rfl,Nat.zero_le _,by unfold RepRows; trivial,trivial⟩,rfl,rfl⟩
theorem a_clone_steps (o : Own) (rows : List (List A)) (h0 : rows ≠ []) (hbig : rows.length * 48 ≤ 140737488355328) (hmax : rows.length ≤ maxLen) (h : Hp) :
  ACall Tryz.prog GT 333 [.sl 4 o rows] h fun v h' => v = .bs h.b.length 4 rows.length ∧ h' = ⟨h.b ++ [.row 321 rows.flatten],h.t⟩:=by
 intro C es hI ha
 obtain ⟨c,es',rfl,h1,h2⟩:=repL_cons.1 ha
 rw [repL_nil] at h2; subst h2
 have hpos : 0 < rows.length:=List.length_pos_iff.2 h0
 obtain ⟨g,off,cap,cs,rfl,k1,k2,k3,k4,k5⟩:=sl_open h1 hpos
 refine (clone_steps g off rows.length cap cs C.w k2 hpos hbig hmax k5 (repL_one k1 (data_one k3))).mono ?_
 rintro e w' ⟨v',rfl,hown,hb⟩
 rcases hown.2 with ⟨_,hz⟩ | ⟨g',cap',cur,rfl,hg,hh,hcap,_,hcs,htake⟩
 ·omega
 ·have hcur : cur = (cs ++ cur.toList.drop (rows.length * 4)).toArray:=by
   apply Array.toList_inj.1
   rw [← htake]
   simp
  rw [hcur] at hh
  obtain ⟨C',m1,m2,m3,m4,m5⟩:=new_row hI hb hg hh k1
  exact ⟨C',_,.bs h.b.length 4 rows.length,_,rfl,m1,m2,m3,rep_bs.2 ⟨cap',by rw [m4],hcap,m5⟩,rfl,rfl⟩
end AX
namespace AX
theorem setCells_eq : ∀ (xs l : List A) (off : Nat),off + xs.length ≤ l.length → setCells l off xs = l.take off ++ xs ++ l.drop (off + xs.length):=by
 intro xs
 induction xs with
 | nil => intro l off _; simp [setCells]
 | cons x xs ih =>
  intro l off hlt
  rw [List.length_cons] at hlt
  rw [setCells,ih _ _ (by simp; omega),List.take_add_one,List.getElem?_set_self (by omega),List.take_set_of_le (Nat.le_refl _),List.drop_set_of_lt (by omega)]
  simp [show off + 1 + xs.length = off + (xs.length + 1) by omega]
def bareS (s : Adr.Step) : Adr.Step:=⟨s.name,Adr.K.none⟩
def barL (mods : List Adr.Step) (j : Nat) : List A:=(((mods.take j).map bareS).map Adr.Step.cells).flatten ++ ((mods.drop j).map Adr.Step.cells).flatten
theorem cells_len (l : List Adr.Step) : ((l.map Adr.Step.cells).flatten).length = l.length * 4:=by
 induction l with
 | nil => rfl
 | cons x l ih => rw [List.map_cons,List.flatten_cons,List.length_append,ih]; simp [Adr.Step.cells]; omega
theorem barL_len (mods : List Adr.Step) (j : Nat) (hj : j ≤ mods.length) : (barL mods j).length = mods.length * 4:=by
 unfold barL
 rw [List.length_append,cells_len,cells_len,List.length_map,List.length_take,List.length_drop,← Nat.add_mul]
 congr 1; omega
theorem barL_set (mods : List Adr.Step) (j : Nat) (hj : j < mods.length) : setCells (barL mods j) (j * 4 + 1) [.int .i64 0,.int .i64 0,.str []] = barL mods (j + 1):=by
 rw [setCells_eq _ _ _ (by rw [barL_len _ _ (by omega)]; simp; omega)]
 have hp : ((((mods.take j).map bareS).map Adr.Step.cells).flatten).length = j * 4:=by
  rw [cells_len,List.length_map,List.length_take]; congr 1; omega
 have hd : mods.drop j = mods[j] :: mods.drop (j + 1):=List.drop_eq_getElem_cons hj
 have ht : mods.take (j + 1) = mods.take j ++ [mods[j]]:=by rw [List.take_succ_eq_append_getElem hj]
 unfold barL
 rw [hd,ht,List.map_append,List.map_append,List.flatten_append]
 generalize (((mods.take j).map bareS).map Adr.Step.cells).flatten = p at hp
 obtain ⟨nm,⟨kd,kn,ks⟩⟩:=mods[j]
 simp only [List.map_cons,List.flatten_cons,Adr.Step.cells,List.cons_append,List.nil_append,List.length_cons,List.length_nil]
 generalize ((mods.drop (j + 1)).map Adr.Step.cells).flatten = q
 rw [List.take_append,List.take_of_length_le (by omega),List.drop_append,List.drop_of_length_le (by omega),hp]
 rw [show j * 4 + 1 - j * 4 = 1 by omega,show j * 4 + 1 + (0 + 1 + 1 + 1) - j * 4 = 4 by omega]
 simp [bareS,Adr.K.none,Adr.Step.cells]
theorem a_static0 (a : Adr.Ad) (hn : a.mods.length ≤ 3000000) (h : Hp) : ACall Tryz.prog GT 315 [.agg a.cells] h fun v h' => v = .agg (Adr.bare a).cells ∧ h' = h:=by
 obtain ⟨mods,data,ty,nm,⟨kk,kn,ks⟩⟩:=a
 dsimp only at hn
 have hbc : (Adr.bare ⟨mods,data,ty,nm,⟨kk,kn,ks⟩⟩).cells = [.sl 4 .no ((mods.map fun s => (⟨s.name,Adr.K.none⟩ : Adr.Step)).map Adr.Step.cells),.bool data,.str ty,.str nm,.int .i64 0,.int .i64 0,.str []]:=rfl
 rw [hbc]
 refine pcallz ?_ (by simp [A.pure,A.data,Adr.Ad.cells]) h
 refine fo ?_
 dsimp only [Adr.Ad.cells]
 by_cases hm : mods = []
 ·subst hm
  have hc:=fun h => a_clone_steps0 4 .no h
  have hz : ¬ (0 : Int) < ((0 : Nat) : Int):=by decide
  simp only [List.map_nil]
  refine run0 ti ?_
  refine use (hc _) ?_
  refine run0 ti ?_
  refine go_once ?_
  refine run0 hz ?_
  exact ⟨_,le_refl _,_,rfl,⟨.inl ⟨rfl,rfl⟩,.inl ⟨rfl,rfl⟩,.inl ⟨rfl,rfl⟩,.inl ⟨rfl,rfl⟩,.inl ⟨rfl,rfl⟩,.inl ⟨rfl,rfl⟩,.inl ⟨rfl,rfl⟩,trivial⟩⟩
 ·have hrne : mods.map Adr.Step.cells ≠ []:=by simpa using hm
  have lm : (mods.map Adr.Step.cells).length = mods.length:=List.length_map ..
  have hc:=fun h => a_clone_steps .no (mods.map Adr.Step.cells) hrne (by rw [lm]; omega) (by rw [lm]; unfold maxLen; omega) h
  rw [lm] at hc
  refine run0 ti ?_
  refine use (hc _) ?_
  refine run0 ti ?_
  have hL0 : (mods.map Adr.Step.cells).flatten = barL mods 0:=by unfold barL; simp
  rw [hL0]
  refine awp_loop (fun mm ts h => ∃ (j : Nat) (B0 : Blk),mm = mods.length - j ∧ j ≤ mods.length ∧ h = ⟨[B0,.cells 284 [.sl 0 .nil [],.bool false,.str [],.str [],.int .i64 0,.int .i64 0,.str []],.cells 284 [.bs 3 4 mods.length,.bool data,.str ty,.str nm,.int .i64 0,.int .i64 0,.str []],.row 321 (barL mods j)],[]⟩ ∧ ts 2 = .ptr 1 0 ∧ ts 3 = .ptr 2 0 ∧ ts 14 = .int .i64 (mods.length : Nat) ∧ ts 15 = .int .i64 (j : Nat)) mods.length ?_ ?_
  ·exact ⟨0,_,by omega,by omega,rfl,by (exact ev0 ti),by (exact ev0 ti),by (exact ev0 ti),by (exact inv0 ti)⟩
  rintro mm ts h ⟨j,B0,rfl,hjc,rfl,t2,t3,t14,t15⟩
  by_cases hj : j < mods.length
  ·have hlt : (j : Int) < (mods.length : Int):=by omega
   have hj0 : (0 : Int) ≤ (j : Int):=by omega
   have ei : IntKind.i64.wrap ((j : Int) + 1) = ((j + 1 : Nat) : Int):=by rw [wrap64 (by omega) (by omega)]; omega
   have hset:=barL_set mods j hj
   have hln : j * 4 + 1 + 3 ≤ (barL mods j).length:=by rw [barL_len _ _ (by omega)]; omega
   simp only [setCells] at hset
   refine run0 (ai t2 (ai t3 (ai t14 (ai t15 (ai hlt (ai hj0 (ai hln (ai hset ei)))))))) ?_
   exact ⟨mods.length - (j + 1),by omega,j + 1,B0,rfl,by omega,rfl,by (exact ev0 t2),by (exact ev0 t3),by (exact ev0 t14),by (exact ev0 ei)⟩
  ·have hlt : ¬ ((j : Int) < (mods.length : Int)):=by omega
   have hje : j = mods.length:=by omega
   subst hje
   refine run0 (ai t2 (ai t3 (ai t14 (ai t15 hlt)))) ?_
   refine ⟨_,le_refl _,_,rfl,⟨.inr ⟨3,4,321,(mods.map bareS).map Adr.Step.cells,by simp,?_,rfl,?_,?_⟩,.inl ⟨rfl,rfl⟩,.inl ⟨rfl,rfl⟩,.inl ⟨rfl,rfl⟩,.inl ⟨rfl,rfl⟩,.inl ⟨rfl,rfl⟩,.inl ⟨rfl,rfl⟩,trivial⟩⟩
   ·show some (Blk.row _ _) = some _
    congr 2
    unfold barL
    simp
   ·intro r hr
    obtain ⟨s,_,rfl⟩:=List.mem_map.1 hr
    rfl
   ·rw [List.all_flatten,List.all_eq_true]
    intro r hr
    obtain ⟨s,_,rfl⟩:=List.mem_map.1 hr
    rfl
end AX
def BWtr (B b : Nat) (l : List UInt8) (w : World) : Prop:=
 B ≤ b ∧ ∃ p v,(p = .pointer none ∨ p = .pointer (some ⟨b,0,none⟩)) ∧ w.heap[b]? = some (.cells #[p,v] 173 (0,0)) ∧ w.ownsRowF B 5 1 v l.length (Lib.byteCells l) ∧ v.ownBlock ≠ some b
def BWtrU (B b : Nat) (l : List UInt8) (w : World) : Prop:=
 B ≤ b ∧ ∃ v,w.heap[b]? = some (.cells #[.pointer (some ⟨b,0,none⟩),v] 173 (0,0)) ∧ w.ownsRowF B 5 1 v l.length (Lib.byteCells l) ∧ v.ownBlock ≠ some b
theorem BWtrU.bwtr {B b : Nat} {l : List UInt8} {w : World} (h : BWtrU B b l w) : BWtr B b l w:=by
 obtain ⟨h1,v,h2,h3⟩:=h
 exact ⟨h1,_,v,.inr rfl,h2,h3⟩
set_option maxRecDepth 100000 in
theorem bwtr_fresh (b : Nat) (w : World) (h0 : w.cell? ⟨b,0,none⟩ = some (.pointer none)) (hsh : w.shape? b = some (173,2)) (hfz : w.frozen? ⟨b,0,none⟩ = false) :
  Calls Tryz.prog 210 #[.pointer (some ⟨b,0,none⟩)] w fun e w' => e = .returned (.tuple #[]) ∧ w' = w.setCell ⟨b,0,none⟩ (.pointer (some ⟨b,0,none⟩)):=by
 obtain ⟨j,hj,hjs⟩:=Option.map_eq_some_iff.1 (show (Tryz.prog.info? 173).map (·.size) = some 2 by kernel_rfl)
 have hlies : liesAt Tryz.prog Tryz.prog.depth 173 (2 / Tryz.prog.cellsOf 173) 0 173 1 = true:=by kernel_rfl
 go_enter Tryz.func210,Tryz.ntmps210
 go_wp2
 rw [Lib.run_to_unsafe w ⟨b,0,none⟩ Tryz.underlying171 Tryz.underlying308 hj (by rw [hjs]; decide) hsh (by show 0 < 2; omega)]
 simp only [Result.andThen]
 rw [Oper.upon_value]
 go_wp2
 rw [run_callFunc_extern Tryz.func266 (by kernel_rfl) (by kernel_rfl) (by kernel_rfl) (e:=Extern.AbiNoEscape.same) (by kernel_rfl)]
 rw [Lib.run_noEscape]
 simp only [Result.andThen]
 rw [Oper.upon_value]
 go_wp2
 rw [Lib.run_from_unsafe w ⟨b,0,none⟩ Tryz.underlying308 Tryz.underlying171 hj hsh hlies]
 simp only [Result.andThen]
 rw [Oper.upon_value]
 go_wp2
 go_end0
 exact ⟨rfl,rfl⟩
theorem cell_row2 {w : World} {b : Nat} {p v : Value} {T : TypeId} (h : w.heap[b]? = some (.cells #[p,v] T (0,0))) : w.cell? ⟨b,0,none⟩ = some p ∧ w.cell? ⟨b,1,none⟩ = some v ∧ (∀ i,w.frozen? ⟨b,i,none⟩ = false) ∧ w.shape? b = some (T,2) ∧ b < w.heap.size:=by
 refine ⟨?_,?_,fun i => ?_,?_,(Array.getElem?_eq_some_iff.1 h).1⟩
 ·rw [cell_of_row _ _ _ _ _ _ h]; rfl
 ·rw [cell_of_row _ _ _ _ _ _ h]; rfl
 ·simp [World.frozen?,h]
 ·simp [World.shape?,h]
theorem BWtr.used {B b : Nat} {l : List UInt8} {w : World} {p v : Value} (hB : B ≤ b) (hb : w.heap[b]? = some (.cells #[p,v] 173 (0,0))) (hown : w.ownsRowF B 5 1 v l.length (Lib.byteCells l)) (hne : v.ownBlock ≠ some b) :
  BWtrU B b l (w.setCell ⟨b,0,none⟩ (.pointer (some ⟨b,0,none⟩))):=by
 refine ⟨hB,v,?_,?_,hne⟩
 ·simp [World.setCell,Array.getElem?_modify,hb]
 ·exact hown.kept (row:=some b) ⟨rfl,rfl,rfl,by simp [World.setCell],fun k _ hk => Below.heap_setCell _ _ _ _ (fun e => hk (by simp [e]))⟩ (Or.inr hne)
theorem bwtr_len {B b : Nat} {l : List UInt8} {w : World} (h : BWtr B b l w) :
  Calls Tryz.prog 128 #[.pointer (some ⟨b,0,none⟩)] w fun e w' => e = .returned (.int .i64 l.length) ∧ w' = w:=by
 obtain ⟨hB,p,v,hp,hb,hown,hne⟩:=h
 obtain ⟨c0,c1,hf,hsh,hlt⟩:=cell_row2 hb
 obtain ⟨ao,cap,rfl⟩ : ∃ ao cap,v = .slice ao l.length cap:=by
  rcases hown.2 with ⟨hv,h0⟩ | ⟨g,cap,cur,fz,hv,_⟩
  ·exact ⟨none,0,by rw [hv,h0]⟩
  ·exact ⟨_,_,hv⟩
 clear hown hp hne hb
 go_enter Tryz.func128,Tryz.ntmps128
 go_wp2
 go_ret
 exact ⟨rfl,rfl⟩
def BF (F : Nat → Prop) (b : Nat) (l : List UInt8) (w : World) : Prop:=
 ∃ p v,(p = .pointer none ∨ p = .pointer (some ⟨b,0,none⟩)) ∧ w.heap[b]? = some (.cells #[p,v] 173 (0,0)) ∧ w.ownsRowF 0 5 1 v l.length (Lib.byteCells l) ∧ v.ownBlock ≠ some b ∧ F b ∧ ∀ k,v.ownBlock = some k → F k
theorem BF.bwtr {F : Nat → Prop} {b : Nat} {l : List UInt8} {w : World} (h : BF F b l w) : BWtr 0 b l w:=by
 obtain ⟨p,v,hp,hb,hown,hne,_⟩:=h
 exact ⟨Nat.zero_le _,p,v,hp,hb,hown,hne⟩
theorem bf_check {F : Nat → Prop} {b : Nat} {l : List UInt8} {w : World} (h : BF F b l w) :
  Calls Tryz.prog 210 #[.pointer (some ⟨b,0,none⟩)] w fun e w' => e = .returned (.tuple #[]) ∧ (∃ v,w'.heap[b]? = some (.cells #[.pointer (some ⟨b,0,none⟩),v] 173 (0,0)) ∧ w'.ownsRowF 0 5 1 v l.length (Lib.byteCells l) ∧ v.ownBlock ≠ some b ∧ F b ∧ ∀ k,v.ownBlock = some k → F k) ∧ Fr F w w':=by
 obtain ⟨p,v,hp,hb,hown,hne,hF,hFk⟩:=h
 obtain ⟨c0,c1,hf,hsh,hlt⟩:=cell_row2 hb
 rcases hp with rfl | rfl
 ·refine (bwtr_fresh b w c0 hsh (hf 0)).mono ?_
  rintro e w' ⟨rfl,rfl⟩
  obtain ⟨_,v',hb',hown',hne'⟩:=BWtr.used (B:=0) (Nat.zero_le _) hb hown hne
  have hv : v' = v:=by
   have:=(cell_row2 hb').2.1
   have h2 : (w.setCell ⟨b,0,none⟩ (.pointer (some ⟨b,0,none⟩))).heap[b]? = some (.cells #[.pointer (some ⟨b,0,none⟩),v] 173 (0,0)):=by simp [World.setCell,Array.getElem?_modify,hb]
   have h3:=(cell_row2 h2).2.1
   rw [h3] at this; injection this with this; exact this.symm
  subst hv
  exact ⟨rfl,⟨v',hb',hown',hne',hF,hFk⟩,Fr.set w b 0 _ hF⟩
 ·refine (Any.Builder_copyCheck_used Tryz.lays240 Tryz.Builder_X72_240 b w c0).mono ?_
  rintro e w' ⟨rfl,rfl⟩
  exact ⟨rfl,⟨v,hb,hown,hne,hF,hFk⟩,Fr.refl F _⟩
set_option maxRecDepth 100000 in
theorem bf_write {F : Nat → Prop} {b : Nat} {l : List UInt8} {w : World} (h : BF F b l w) (s : List UInt8) (hlen : l.length + s.length ≤ 1000000000) :
  Calls Tryz.prog 129 #[.pointer (some ⟨b,0,none⟩),.string ⟨s.toArray⟩] w fun e w' => e = .returned (.tuple #[.int .i64 s.length,.nilIface]) ∧ BF (fun k => F k ∨ w.heap.size ≤ k) b (l ++ s) w' ∧ Fr F w w':=by
 obtain ⟨i0,hi,hz0,hz1,hz2⟩:=info_parts info_byte
 go_enter Tryz.func129,Tryz.ntmps129
 go_wp2_with fail
 (with_reducible refine (bf_check h).mono ?_)
 rintro e w1 ⟨rfl,⟨v,hbk,hown,hne,hF,hFk⟩,hb1⟩
 obtain ⟨c0,c1,hf,hsh,hlt⟩:=cell_row2 hbk
 go_wp2_with (at_builtin; refine wpList_append_F _ rfl _ _ 94 9 rfl 5 i0 Tryz.underlying94 Tryz.underlying9 hi hz0 hz1 hz2 _ _ _ rfl hown ⟨s.toArray⟩ rfl ?c3 ?c4 ?_)
 case c3 => rw [size_mk]; unfold maxLen; omega
 case c4 => rw [size_mk]; omega
 intro v' w2 hown' hgrow hwhere
 have hb2 : w2.heap[b]? = some (.cells #[.pointer (some ⟨b,0,none⟩),v] 173 (0,0)):=(hgrow.block b hlt (fun e => hne e.symm)).trans hbk
 obtain ⟨d0,d1,hf2,_,hlt2⟩:=cell_row2 hb2
 have f1:=hf2 1
 have hown2 : w2.ownsRowF 0 5 1 v' (l ++ s).length (Lib.byteCells (l ++ s)):=by
  have e1 : (⟨s.toArray⟩ : ByteArray).size = s.length:=size_mk s
  have e2 : Lib.byteCells l ++ Lib.strCells ⟨s.toArray⟩ = Lib.byteCells (l ++ s):=by unfold Lib.strCells Lib.byteCells; simp
  rw [List.length_append,← e2,← e1]; exact hown'
 have hne2:=Lib.ownBlock_neF hown2 hb2 (show 173 ≠ 5 by decide)
 have hwb1:=hb1.size
 have Hfin:=kept (show BF (fun k => F k ∨ w.heap.size ≤ k) b (l ++ s) (w2.setCell ⟨b,1,none⟩ v') from by
  refine ⟨_,v',.inr rfl,?_,?_,hne2,.inl hF,fun k hk => ?_⟩
  ·simp [World.setCell,Array.getElem?_modify,hb2]
  ·exact hown2.kept (row:=some b) ⟨rfl,rfl,rfl,by simp [World.setCell],fun k _ hk => Below.heap_setCell _ _ _ _ (fun e => hk (by simp [e]))⟩ (Or.inr hne2)
  ·rcases hwhere k hk with h1 | h1
   ·exact .inl (hFk k h1)
   ·exact .inr (by omega))
 have Hfr:=kept ((hb1.trans (Fr.grown hgrow fun k hk => hFk k hk)).trans (Fr.set w2 b 1 v' hF))
 obtain ⟨ao,n',cap,rfl⟩ : ∃ ao n' cap,v' = .slice ao n' cap:=by
  rcases hown'.2 with ⟨hv,_⟩ | ⟨g,cap,cur,fz,hv,_⟩
  ·exact ⟨_,_,_,hv⟩
  ·exact ⟨_,_,_,hv⟩
 clear hown' hown2 hne2 hb2 hbk hown hne hgrow hb1 h hwhere
 go_wp2
 go_ret2
 exact ⟨by simp,Hfin.out,Hfr.out⟩
set_option maxRecDepth 100000 in
theorem bf_string {F : Nat → Prop} {b : Nat} {l : List UInt8} {w : World} (h : BF F b l w) (h0 : l ≠ []) :
  Calls Tryz.prog 127 #[.pointer (some ⟨b,0,none⟩)] w fun e w' => e = .returned (.string ⟨l.toArray⟩) ∧ Fr F w w':=by
 obtain ⟨p,v,hp,hbk,hown,hne,hFb,hFk⟩:=h
 have hl0 : l.length ≠ 0:=by simpa using h0
 obtain ⟨g,cap,cur,fz,rfl,hbg,hg,hfz,hnc,hcm,hcs,htake⟩ : ∃ g cap cur fz,v = .slice (some ⟨g,0,none⟩) l.length cap ∧ 0 ≤ g ∧ w.heap[g]? = some (.cells cur 5 fz) ∧ fz.2 ≤ l.length * 1 ∧ l.length ≤ cap ∧ cap ≤ maxLen ∧ cur.size = cap * 1 ∧ cur.toList.take (l.length * 1) = Lib.byteCells l:=by
  rcases hown.2 with ⟨_,hz⟩ | ⟨g,cap,cur,fz,hv,r⟩
  ·exact absurd hz hl0
  ·exact ⟨g,cap,cur,fz,hv,r⟩
 have HFg:=kept (hFk g rfl)
 have c1 : w.drew.cell? ⟨b,1,none⟩ = some (.slice (some ⟨g,0,none⟩) l.length cap):=(cell_row2 hbk).2.1
 have hSD : (Builtin.unsafeSliceData_ #[94] 258 #[.slice (some ⟨g,0,none⟩) l.length cap]).run Tryz.prog w.drew = .ok (.pointer (some ⟨g,0,none⟩)) w.drew:=
  Lib.run_unsafeSliceData_row _ _ _ _ _ _ (by omega)
 have hUS : (Builtin.unsafeString_ #[258,3] 9 #[.pointer (some ⟨g,0,none⟩),.int .i64 l.length]).run Tryz.prog w.drew = .ok (.string ⟨l.toArray⟩) (w.drew.freeze ⟨g,0,none⟩ l.length):=by
  refine Lib.run_unsafeString_row w.drew 258 3 9 5 Tryz.underlying258 Tryz.Builder_Extra_169.cellsByte g cur.size (by have hg' : w.drew.heap[g]? = some (.cells cur 5 fz):=hg; simp [World.shape?,hg']) l h0 (by omega) (by unfold maxLen at hcm; omega) ?_
  intro j x hx
  have:=hown.cells (g:=g) rfl j (.int .u8 x.toNat) (by simp [Lib.byteCells,hx])
  exact this
 have Hfr:=kept (show Fr F w (w.drew.freeze ⟨g,0,none⟩ l.length) from by
  unfold World.freeze
  split
  ·exact ⟨rfl,rfl,rfl,Nat.le_refl _,fun _ _ _ => rfl⟩
  ·refine ⟨rfl,rfl,rfl,by simp,fun k hk hn => ?_⟩
   have hkg : k ≠ g:=fun e => hn (by rw [e]; exact HFg.out)
   simp only [Array.getElem?_modify,if_neg hkg.symm]; rfl)
 clear hown hp hne hbk hnc hcm hcs htake hfz hg hl0 h0 hFk hFb
 have mixed:=Tryz.lays169.mixed
 go_enter Tryz.func127,Tryz.ntmps127
 go_wp2
 go_region_o
 all_goals (go_wp2; go_ret; exact ⟨rfl,Hfr.out⟩)
namespace AX
def bwt (l : List UInt8) : Blk:=.opq (fun F g w => BF F g l w) (fun _ => none)
def Bt (h : Hp) (i : Nat) (l : List UInt8) : Prop:=h.b[i]? = some (bwt l) ∨ (l = [] ∧ h.b[i]? = some (.cells 173 [.nilp,.sl 0 .nil []]))
theorem BF.stable {F : Nat → Prop} {b : Nat} {l : List UInt8} {w w' : World} (h : BF F b l w) (hs : ∀ g,F g → w'.heap[g]? = w.heap[g]?) : BF F b l w':=by
 obtain ⟨p,v,hp,hb,hown,hne,hF,hFk⟩:=h
 refine ⟨p,v,hp,(hs b hF).trans hb,⟨hown.1,?_⟩,hne,hF,hFk⟩
 rcases hown.2 with h1 | ⟨g,cap,cur,fz,rfl,h2,h3,h4⟩
 ·exact .inl h1
 ·exact .inr ⟨g,cap,cur,fz,rfl,h2,(hs g (hFk g rfl)).trans h3,h4⟩
theorem Bt.lt {h : Hp} {i : Nat} {l : List UInt8} (hw : Bt h i l) : i < h.b.length:=by
 rcases hw with h1 | ⟨_,h1⟩
 ·exact (List.getElem?_eq_some_iff.1 h1).1
 ·exact (List.getElem?_eq_some_iff.1 h1).1
theorem Bt.bf {h : Hp} {i : Nat} {l : List UInt8} {C : Ctx} {G : World → Prop} (hw : Bt h i l) (hI : Inv G C h) : BF (fun g => C.own g = some i) (C.κ i) l C.w:=by
 have hi : i < C.nb:=by rw [← hI.nb]; exact hw.lt
 rcases hw with h1 | ⟨rfl,h1⟩
 ·exact (hI.box i _ h1).1 C.w (fun _ _ => rfl) (Nat.le_refl _)
 ·obtain ⟨cs,k1,k2⟩:=hI.box i _ h1
  obtain ⟨c0,d0,rfl,e0,k2⟩:=repL_cons.1 k2
  obtain ⟨c1,d1,rfl,e1,k2⟩:=repL_cons.1 k2
  rw [repL_nil] at k2; subst k2
  rw [rep_nilp] at e0; subst e0
  obtain ⟨a,cap,rfl,_,_,e3,e4,_⟩:=rep_sl.1 e1
  subst e3; subst e4
  exact ⟨_,_,.inl rfl,k1,⟨rfl,.inl ⟨rfl,rfl⟩⟩,by simp [Value.ownBlock],hI.ownk i hi,fun k hk => by simp [Value.ownBlock] at hk⟩
theorem bwtr_rep {C : Ctx} {i : Nat} {l : List UInt8} (h : BF (fun g => C.own g = some i) (C.κ i) l C.w) : BlkRep C i (bwt l):=by
 refine ⟨fun w' hw _ => BF.stable h hw,fun o x hx => ?_⟩
 cases hx
theorem a_bwrite {h : Hp} {i : Nat} {l : List UInt8} (hw : Bt h i l) (s : List UInt8) (hlen : l.length + s.length ≤ 1000000000) :
  ACall Tryz.prog GT 129 [.ptr i 0,.str s] h fun v h' => v = .tup [.int .i64 s.length,.nili] ∧ h' = ⟨h.b.set i (bwt (l ++ s)),h.t⟩:=by
 intro C es hI ha
 obtain ⟨c,es',rfl,h1,h2⟩:=repL_cons.1 ha
 obtain ⟨rfl,hi⟩:=rep_ptr.1 h1
 obtain rfl:=args1 r_str C es' h2
 refine (bf_write (hw.bf hI) s hlen).mono ?_
 rintro e w' ⟨rfl,m1,m2⟩
 have hrep : BlkRep (C.turn w' i true) i (bwt (l ++ s)):=by
  refine bwtr_rep ?_
  obtain ⟨p,v,hp,hb,hown,hne,hF,hFk⟩:=m1
  have hlt:=(cell_row2 hb).2.2.2.2
  have hcl : ∀ k,k < w'.heap.size → (C.own k = some i ∨ C.w.heap.size ≤ k) → (C.turn w' i true).own k = some i:=fun k hk hor => by
   show (if k < C.w.heap.size then C.own k else if true = true ∧ k < w'.heap.size then some i else none) = some i
   split
   ·rcases hor with h3 | h3
    ·exact h3
    ·omega
   ·rw [if_pos ⟨rfl,hk⟩]
  refine ⟨p,v,hp,hb,hown,hne,hcl _ hlt hF,fun k hk => hcl k ?_ (hFk k hk)⟩
  rcases hown.2 with ⟨rfl,_⟩ | ⟨g,cap,cur,fz,rfl,_,h3,_⟩
  ·simp [Value.ownBlock] at hk
  ·simp only [Value.ownBlock,Option.some.injEq] at hk; subst hk
   exact (Array.getElem?_eq_some_iff.1 h3).1
 obtain ⟨i1,s1⟩:=box_turn (b':=bwt (l ++ s)) true hI hi m2.os m2.tape m2.output m2.size (fun g hg hne => m2.block g hg hne) (fun _ => hrep)
 exact ⟨_,_,.tup [.int .i64 s.length,.nili],_,rfl,rfl,i1,s1,rep_tup.2 ⟨_,rfl,repL_cons.2 ⟨_,_,rfl,rep_int.2 rfl,repL_cons.2 ⟨_,_,rfl,rep_nili.2 rfl,repL_nil.2 rfl⟩⟩⟩,rfl,rfl⟩
theorem a_blen {h : Hp} {i : Nat} {l : List UInt8} (hw : Bt h i l) : ACall Tryz.prog GT 128 [.ptr i 0] h fun v h' => v = .int .i64 l.length ∧ h' = h:=by
 intro C es hI ha
 obtain ⟨c,es',rfl,h1,h2⟩:=repL_cons.1 ha
 obtain ⟨rfl,hi⟩:=rep_ptr.1 h1
 rw [repL_nil] at h2; subst h2
 refine (bwtr_len (hw.bf hI).bwtr).mono ?_
 rintro e w' ⟨rfl,rfl⟩
 exact ⟨C,h,_,_,rfl,rfl,hI,Step.refl C,rep_int.2 rfl,rfl,rfl⟩
theorem a_bstring {h : Hp} {i : Nat} {l : List UInt8} (hw : Bt h i l) (h0 : l ≠ []) : ACall Tryz.prog GT 127 [.ptr i 0] h fun v h' => v = .str l ∧ h' = ⟨h.b.set i dead,h.t⟩:=by
 intro C es hI ha
 obtain ⟨c,es',rfl,h1,h2⟩:=repL_cons.1 ha
 obtain ⟨rfl,hi⟩:=rep_ptr.1 h1
 rw [repL_nil] at h2; subst h2
 refine (bf_string (hw.bf hI) h0).mono ?_
 rintro e w' ⟨rfl,m2⟩
 obtain ⟨i1,s1⟩:=box_turn (b':=dead) false hI hi m2.os m2.tape m2.output m2.size (fun g hg hne => m2.block g hg hne) (fun _ => ⟨fun _ _ _ => trivial,fun o x hx => by cases hx⟩)
 exact ⟨_,_,.str l,_,rfl,rfl,i1,s1,rep_str.2 rfl,rfl,rfl⟩
structure Adr.In (a : Adr.Ad) : Prop where
 n : a.mods.length ≤ 3000000
 m : ∀ s ∈ a.mods,s.name.length ≤ 2000000 ∧ s.key.str.length ≤ 2000000
 t : a.type.length ≤ 2000000
 nm : a.name.length ≤ 2000000
 k : a.key.str.length ≤ 2000000
theorem a_acheck (a : Adr.Ad) (hi : Adr.In a) (h : Hp) : ACall Tryz.prog GT 331 [.agg a.cells] h fun r h' => r = .int .i64 (Adr.check a) ∧ h' = h:=by
 obtain ⟨mods,data,ty,nm,⟨kk,kn,ks⟩⟩:=a
 obtain ⟨hn,hm,ht,ha,hk⟩:=hi
 dsimp only at hn hm ht ha hk
 refine pcall ?_ rfl (by simp [A.pure,A.data,Adr.Ad.cells]) h
 refine fo ?_
 dsimp only [Adr.Ad.cells]
 have lm : (mods.map Adr.Step.cells).length = mods.length:=List.length_map ..
 obtain ⟨Z,hZ⟩ : ∃ Z,Adr.check ⟨mods,data,ty,nm,⟨kk,kn,ks⟩⟩ = Z:=⟨_,rfl⟩
 rw [hZ]
 unfold Adr.check at hZ
 dsimp only at hZ
 by_cases h16 : (mods.length : Int) > 16
 ·rw [if_pos (by omega)] at hZ
  subst hZ
  refine run0 (ai lm h16) ?_
  exact ⟨_,le_refl _,rfl⟩
 rw [if_neg (by omega)] at hZ
 have ck:=fun h => a_kind ty ht h
 have ci:=fun h => a_ident nm ha h
 have cv:=fun h => a_avalid ⟨kk,kn,ks⟩ hk h
 unfold Adr.K.A at cv
 dsimp only at cv
 refine run0 (ai lm h16) ?_
 refine awp_loop (fun mm ts h => ∃ (j : Nat) (l : List Blk),mm = mods.length - j ∧ j ≤ mods.length ∧ h = ⟨.cells 284 [.sl 4 .no (mods.map Adr.Step.cells),.bool data,.str ty,.str nm,.int .i64 kk,.int .i64 kn,.str ks] :: l,[]⟩ ∧
  (match (mods.drop j).find? (fun s => !(Adr.ident s.name && Adr.keyOk s.key)) with
  | some s => if Adr.ident s.name then (1 : Int) else 7
  | none => if !Adr.kindB ty || !Adr.ident nm then 7 else if !Adr.keyOk ⟨kk,kn,ks⟩ then 1 else 0) = Z ∧
  ts 1 = .ptr 0 0 ∧ ts 10 = .sl 4 .no (mods.map Adr.Step.cells) ∧ ts 11 = .int .i64 (mods.length : Nat) ∧ ts 12 = .int .i64 (j : Nat)) mods.length ?_ ?_
 ·exact ⟨0,[],by omega,by omega,rfl,hZ,by (exact ev0 ti),by (exact ev0 ti),by (exact ev0 lm),by (exact inv0 ti)⟩
 rintro mm ts h ⟨j,l,rfl,hjc,rfl,hit,t1,t10,t11,t12⟩
 by_cases hj : j < mods.length
 ·have hlt : (j : Int) < (mods.length : Int):=by omega
  have hlt' : (j : Int) < ((mods.map Adr.Step.cells).length : Int):=by rw [lm]; exact hlt
  have hj0 : (0 : Int) ≤ (j : Int):=by omega
  have ei : IntKind.i64.wrap ((j : Int) + 1) = ((j + 1 : Nat) : Int):=by rw [wrap64 (by omega) (by omega)]; omega
  have hg:=map_getD Adr.Step.cells mods j hj
  have hmj:=hm _ (List.getElem_mem hj)
  rw [List.drop_eq_getElem_cons hj,List.find?_cons] at hit
  obtain ⟨x,hx⟩ : ∃ x,mods[j] = x:=⟨_,rfl⟩
  rw [hx] at hg hmj hit
  obtain ⟨xn,⟨xk,xm,xs⟩⟩:=x
  dsimp only [Adr.Step.cells] at hg hmj hit
  have cxi:=fun h => a_ident xn hmj.1 h
  have cxv:=fun h => a_avalid ⟨xk,xm,xs⟩ hmj.2 h
  unfold Adr.K.A at cxv
  dsimp only at cxv
  obtain ⟨I,hI⟩ : ∃ I,Adr.ident xn = I:=⟨_,rfl⟩
  obtain ⟨K,hK⟩ : ∃ K,Adr.keyOk ⟨xk,xm,xs⟩ = K:=⟨_,rfl⟩
  rw [hI] at cxi hit
  rw [hK] at cxv hit
  refine run0 (ai t1 (ai t10 (ai t11 (ai t12 (ai hlt (ai hlt' (ai hj0 hg))))))) ?_
  refine use (cxi _) ?_
  cases I
  ·simp only [Bool.false_and,Bool.not_false] at hit
   rw [hI] at hit
   simp only [Bool.false_eq_true,if_false] at hit
   subst hit
   refine run0 (ai t1 (ai t10 (ai t11 t12))) ?_
   exact ⟨_,le_refl _,rfl⟩
  refine run0 (ai t1 (ai t10 (ai t11 t12))) ?_
  refine use (cxv _) ?_
  cases K
  ·simp only [Bool.and_false,Bool.not_false] at hit
   rw [hI] at hit
   simp only [if_true] at hit
   subst hit
   refine run0 (ai t1 (ai t10 (ai t11 t12))) ?_
   exact ⟨_,le_refl _,rfl⟩
  ·simp only [Bool.and_true,Bool.not_true] at hit
   refine run0 (ai t1 (ai t10 (ai t11 (ai t12 ei)))) ?_
   exact ⟨mods.length - (j + 1),by omega,j + 1,_,rfl,by omega,rfl,hit,by (exact ev0 t1),by (exact ev0 t10),by (exact ev0 t11),by (exact ev0 ei)⟩
 ·have hlt : ¬ ((j : Int) < (mods.length : Int)):=by omega
  rw [List.drop_eq_nil_of_le (by omega)] at hit
  simp only [List.find?_nil] at hit
  refine run0 (ai t1 (ai t10 (ai t11 (ai t12 hlt)))) ?_
  refine use (ck _) ?_
  cases hkb : Adr.kindB ty
  ·rw [hkb] at hit
   rw [if_pos (by simp)] at hit
   subst hit
   refine run0 (ai t1 (ai t10 (ai t11 t12))) ?_
   exact ⟨_,le_refl _,rfl⟩
  rw [hkb] at hit
  refine run0 (ai t1 (ai t10 (ai t11 t12))) ?_
  refine use (ci _) ?_
  cases hib : Adr.ident nm
  ·rw [hib] at hit
   rw [if_pos (by simp)] at hit
   subst hit
   refine run0 (ai t1 (ai t10 (ai t11 t12))) ?_
   exact ⟨_,le_refl _,rfl⟩
  rw [hib] at hit
  rw [if_neg (by simp)] at hit
  refine run0 (ai t1 (ai t10 (ai t11 t12))) ?_
  refine use (cv _) ?_
  cases hvb : Adr.keyOk ⟨kk,kn,ks⟩
  ·rw [hvb] at hit
   rw [if_pos (by simp)] at hit
   subst hit
   refine run0 (ai t1 (ai t10 (ai t11 t12))) ?_
   exact ⟨_,le_refl _,rfl⟩
  ·rw [hvb] at hit
   rw [if_neg (by simp)] at hit
   subst hit
   refine run0 (ai t1 (ai t10 (ai t11 t12))) ?_
   exact ⟨_,le_refl _,rfl⟩
theorem a_fmtkey0 (h : Hp) : ACall Tryz.prog GT 332 [.agg [.int .i64 0,.int .i64 0,.str []]] h fun r h' => r = .str [] ∧ h' = h:=by
 refine pcall ?_ rfl (by simp [A.pure,A.data]) h
 refine fo ?_
 have cv:=fun h => a_avalid Adr.K.none (by unfold Adr.K.none; simp) h
 have e1 : Adr.keyOk Adr.K.none = true:=by decide
 rw [e1] at cv
 unfold Adr.K.A Adr.K.none at cv
 dsimp only at cv
 refine run0 ti ?_
 refine use (cv _) ?_
 refine run0 ti ?_
 exact ⟨_,le_refl _,rfl⟩
def Bw (acc : List UInt8) (w : Blk) : Prop:=w = bwt acc ∨ (acc = [] ∧ w = .cells 173 [.nilp,.sl 0 .nil []])
theorem Bw.bt {acc : List UInt8} {w B0 : Blk} {l : List Blk} {t : List (TypeId × Nat × Nat)} (hw : Bw acc w) : Bt ⟨B0 :: w :: l,t⟩ 1 acc:=by
 rcases hw with rfl | ⟨rfl,rfl⟩
 ·exact .inl rfl
 ·exact .inr ⟨rfl,rfl⟩
def stepB (s : Adr.Step) : List UInt8:=Adr.modW ++ s.name ++ [46]
theorem fmt_bare (mods : List Adr.Step) (data : Bool) (ty nm : List UInt8) (hk : ∀ s ∈ mods,s.key = Adr.K.none) (hc : Adr.check ⟨mods,data,ty,nm,Adr.K.none⟩ = 0) :
  Adr.fmt ⟨mods,data,ty,nm,Adr.K.none⟩ = mods.flatMap stepB ++ (if data then Adr.dataW else []) ++ (ty ++ [46] ++ nm):=by
 have hn : Adr.fmtKey Adr.K.none = []:=by decide
 unfold Adr.fmt
 rw [if_neg (by simp [hc])]
 dsimp only
 rw [hn]
 have e : Adr.steps mods = mods.flatMap stepB:=by
  unfold Adr.steps
  induction mods with
  | nil => rfl
  | cons x l ih =>
   have hx:=hk x (by simp)
   have hcl : ∀ l : List Adr.Step,(∀ s ∈ l,s.key = Adr.K.none) → (l.flatMap fun s => Adr.modW ++ s.name ++ Adr.fmtKey s.key ++ [46]) = l.flatMap stepB:=by
    intro l
    induction l with
    | nil => intro _; rfl
    | cons y l ih =>
     intro hl
     rw [List.flatMap_cons,List.flatMap_cons,ih fun s hs => hl s (by simp [hs]),hl y (by simp),hn]
     unfold stepB
     simp
   exact hcl _ hk
 rw [e]
 simp
theorem fm_snoc' {α : Type} (f : α → List UInt8) (l : List α) (j : Nat) (hj : j < l.length) : (l.take (j + 1)).flatMap f = (l.take j).flatMap f ++ f l[j]:=by
 rw [List.take_succ_eq_append_getElem hj,List.flatMap_append]; simp
theorem fm_len16 : ∀ (l : List Adr.Step),(∀ s ∈ l,s.name.length ≤ 2000000) → (l.flatMap stepB).length ≤ l.length * 2000008
 | [],_ => by simp
 | x :: l,h => by
  rw [List.flatMap_cons,List.length_append,List.length_cons,Nat.succ_mul]
  have h1:=fm_len16 l fun s hs => h s (by simp [hs])
  have h2:=h x (by simp)
  have h3 : (stepB x).length = x.name.length + 8:=by unfold stepB; simp [Adr.modW] <;> omega
  omega
theorem a_format0 (a : Adr.Ad) (hi : Adr.In a) (hk : ∀ s ∈ a.mods,s.key = Adr.K.none) (hkk : a.key = Adr.K.none) (h : Hp) : ACall Tryz.prog GT 314 [.agg a.cells] h fun r h' => r = .str (Adr.fmt a) ∧ h' = h:=by
 have cc:=fun h => a_acheck a hi h
 obtain ⟨mods,data,ty,nm,key⟩:=a
 dsimp only at hk hkk
 subst hkk
 have hfb:=fmt_bare mods data ty nm hk
 obtain ⟨hn,hm,ht,ha,_⟩:=hi
 dsimp only at hn hm ht ha
 refine pcall ?_ rfl (by simp [A.pure,A.data,Adr.Ad.cells]) h
 refine fo ?_
 dsimp only [Adr.Ad.cells,Adr.K.none] at cc ⊢
 have lm : (mods.map Adr.Step.cells).length = mods.length:=List.length_map ..
 by_cases hc0 : Adr.check ⟨mods,data,ty,nm,Adr.K.none⟩ = 0
 rotate_left
 ·have e1 : (Adr.check ⟨mods,data,ty,nm,Adr.K.none⟩ != 0) = true:=by simp [hc0]
  have hfz : Adr.fmt ⟨mods,data,ty,nm,Adr.K.none⟩ = []:=by unfold Adr.fmt; rw [if_pos hc0]
  unfold Adr.K.none at e1 hfz
  refine run0 ti ?_
  refine use (cc _) ?_
  refine run0 e1 ?_
  exact ⟨_,le_refl _,by rw [hfz]; rfl⟩
 have e1 : (Adr.check ⟨mods,data,ty,nm,Adr.K.none⟩ != 0) = false:=by simp [hc0]
 have hf:=hfb hc0
 have hn16 : mods.length ≤ 16:=by
  rcases Nat.lt_or_ge 16 mods.length with h16 | h16
  ·unfold Adr.check at hc0
   rw [if_pos h16] at hc0
   exact absurd hc0 (by decide)
  ·exact h16
 have hlenall:=fm_len16 mods fun s hs => (hm s hs).1
 unfold Adr.K.none at e1 hf
 rw [hf]
 refine run0 ti ?_
 refine use (cc _) ?_
 refine run0 (ai e1 lm) ?_
 refine awp_loop (fun mm ts h => ∃ (j : Nat) (w : Blk) (l : List Blk),mm = mods.length - j ∧ j ≤ mods.length ∧ h = ⟨.cells 284 [.sl 4 .no (mods.map Adr.Step.cells),.bool data,.str ty,.str nm,.int .i64 0,.int .i64 0,.str []] :: w :: l,[]⟩ ∧ Bw ((mods.take j).flatMap stepB) w ∧
  ts 1 = .ptr 0 0 ∧ ts 3 = .ptr 1 0 ∧ ts 10 = .sl 4 .no (mods.map Adr.Step.cells) ∧ ts 11 = .int .i64 (mods.length : Nat) ∧ ts 12 = .int .i64 (j : Nat)) mods.length ?_ ?_
 ·exact ⟨0,_,[],by omega,by omega,rfl,.inr ⟨rfl,rfl⟩,by (exact ev0 ti),by (exact ev0 ti),by (exact ev0 ti),by (exact ev0 lm),by (exact inv0 ti)⟩
 rintro mm ts h ⟨j,w,l,rfl,hjc,rfl,hw,t1,t3,t10,t11,t12⟩
 have hacc : ((mods.take j).flatMap stepB).length ≤ 32000128:=by
  have h2 : (mods.take j).length ≤ 16:=by rw [List.length_take]; omega
  exact Nat.le_trans (fm_len16 (mods.take j) fun s hs => (hm s (List.mem_of_mem_take hs)).1) (Nat.le_trans (Nat.mul_le_mul_right 2000008 h2) (by decide))
 by_cases hj : j < mods.length
 ·have hlt : (j : Int) < (mods.length : Int):=by omega
  have hlt' : (j : Int) < ((mods.map Adr.Step.cells).length : Int):=by rw [lm]; exact hlt
  have hj0 : (0 : Int) ≤ (j : Int):=by omega
  have ei : IntKind.i64.wrap ((j : Int) + 1) = ((j + 1 : Nat) : Int):=by rw [wrap64 (by omega) (by omega)]; omega
  have hg:=map_getD Adr.Step.cells mods j hj
  have hmj:=hm _ (List.getElem_mem hj)
  have hkj:=hk _ (List.getElem_mem hj)
  have hsn:=fm_snoc' stepB mods j hj
  obtain ⟨x,hx⟩ : ∃ x,mods[j] = x:=⟨_,rfl⟩
  rw [hx] at hg hmj hkj hsn
  obtain ⟨xn,xk⟩:=x
  dsimp only at hkj
  subst hkj
  dsimp only [Adr.Step.cells,Adr.K.none] at hg hmj
  have hxl:=hmj.1
  have hsl : (stepB ⟨xn,Adr.K.none⟩).length = xn.length + 8:=by unfold stepB; simp [Adr.modW] <;> omega
  have hse : 109 :: 111 :: 100 :: 117 :: 108 :: 101 :: 46 :: (xn ++ [46]) = stepB ⟨xn,Adr.K.none⟩:=rfl
  have l1 : 7 + xn.length < 1099511627776:=by omega
  have l2 : xn.length + 7 < 1099511627776:=by omega
  have l3 : xn.length + 7 + 1 < 1099511627776:=by omega
  have l4 : xn.length + 8 < 1099511627776:=by omega
  have hcw:=fun (z : Blk) => a_bwrite (h:=⟨.cells 284 [.sl 4 .no (mods.map Adr.Step.cells),.bool data,.str ty,.str nm,.int .i64 0,.int .i64 0,.str []] :: w :: (l ++ [z]),[]⟩) (i:=1) hw.bt (stepB ⟨xn,Adr.K.none⟩) (by rw [hsl]; omega)
  rw [← hsn] at hcw
  have hcf:=fun h => a_fmtkey0 h
  refine run0 (ai t1 (ai t3 (ai t10 (ai t11 (ai t12 (ai hlt (ai hlt' (ai hj0 (ai hg (ai l1 hse)))))))))) ?_
  refine use (hcf _) ?_
  refine run0 (ai t1 (ai t3 (ai t10 (ai t11 (ai t12 (ai l1 (ai l2 (ai l3 (ai l4 hse))))))))) ?_
  refine use (hcw _) ?_
  refine run0 (ai t1 (ai t3 (ai t10 (ai t11 (ai t12 ei))))) ?_
  exact ⟨mods.length - (j + 1),by omega,j + 1,_,_,rfl,by omega,rfl,.inl rfl,by (exact ev0 t1),by (exact ev0 t3),by (exact ev0 t10),by (exact ev0 t11),by (exact ev0 ei)⟩
 ·have hlt : ¬ ((j : Int) < (mods.length : Int)):=by omega
  have hje : j = mods.length:=by omega
  subst hje
  rw [List.take_length] at hw hacc
  obtain ⟨P,hP⟩ : ∃ P,mods.flatMap stepB = P:=⟨_,rfl⟩
  rw [hP] at hw hacc ⊢
  have hcf:=fun h => a_fmtkey0 h
  have hdw : Adr.dataW = [100,97,116,97,46]:=rfl
  have l1 : ty.length + 1 < 1099511627776:=by omega
  have l2 : ty.length + 1 + nm.length < 1099511627776:=by omega
  have l3 : ty.length + (nm.length + 1) < 1099511627776:=by omega
  have l4 : ty.length + 1 + nm.length < 1099511627776:=by omega
  cases data
  ·have hcw:=a_bwrite (h:=⟨.cells 284 [.sl 4 .no (mods.map Adr.Step.cells),.bool false,.str ty,.str nm,.int .i64 0,.int .i64 0,.str []] :: w :: l,[]⟩) (i:=1) hw.bt (ty ++ [46] ++ nm) (by simp; omega)
   have hcs:=a_bstring (h:=⟨.cells 284 [.sl 4 .no (mods.map Adr.Step.cells),.bool false,.str ty,.str nm,.int .i64 0,.int .i64 0,.str []] :: bwt (P ++ (ty ++ [46] ++ nm)) :: l,[]⟩) (i:=1) (.inl rfl) (by simp)
   refine run0 (ai t1 (ai t3 (ai t10 (ai t11 (ai t12 (ai hlt (ai l1 (ai l2 l3)))))))) ?_
   refine use (hcf _) ?_
   refine run0 (ai t1 (ai t3 (ai t10 (ai t11 (ai t12 (ai hlt (ai l1 (ai l2 (ai l3 l4))))))))) ?_
   refine use hcw ?_
   refine run0 (ai t1 (ai t3 (ai t10 (ai t11 t12)))) ?_
   refine use hcs ?_
   refine run0 (ai t1 (ai t3 (ai t10 (ai t11 t12)))) ?_
   exact ⟨_,le_refl _,by simp [tupA_1]⟩
  ·have hcd:=a_bwrite (h:=⟨.cells 284 [.sl 4 .no (mods.map Adr.Step.cells),.bool true,.str ty,.str nm,.int .i64 0,.int .i64 0,.str []] :: w :: l,[]⟩) (i:=1) hw.bt Adr.dataW (by rw [hdw]; simp; omega)
   have hcw:=a_bwrite (h:=⟨.cells 284 [.sl 4 .no (mods.map Adr.Step.cells),.bool true,.str ty,.str nm,.int .i64 0,.int .i64 0,.str []] :: bwt (P ++ Adr.dataW) :: l,[]⟩) (i:=1) (.inl rfl) (ty ++ [46] ++ nm) (by rw [hdw]; simp; omega)
   have hcs:=a_bstring (h:=⟨.cells 284 [.sl 4 .no (mods.map Adr.Step.cells),.bool true,.str ty,.str nm,.int .i64 0,.int .i64 0,.str []] :: bwt (P ++ Adr.dataW ++ (ty ++ [46] ++ nm)) :: l,[]⟩) (i:=1) (.inl rfl) (by simp)
   rw [hdw] at hcd hcw hcs ⊢
   refine run0 (ai t1 (ai t3 (ai t10 (ai t11 (ai t12 (ai hlt (ai l1 (ai l2 l3)))))))) ?_
   refine use hcd ?_
   refine run0 (ai t1 (ai t3 (ai t10 (ai t11 (ai t12 (ai hlt (ai l1 (ai l2 l3)))))))) ?_
   refine use (hcf _) ?_
   refine run0 (ai t1 (ai t3 (ai t10 (ai t11 (ai t12 (ai hlt (ai l1 (ai l2 (ai l3 l4))))))))) ?_
   refine use hcw ?_
   refine run0 (ai t1 (ai t3 (ai t10 (ai t11 t12)))) ?_
   refine use hcs ?_
   refine run0 (ai t1 (ai t3 (ai t10 (ai t11 t12)))) ?_
   exact ⟨_,le_refl _,by simp [tupA_1]⟩
def unkIdx : Nat → List V → Int
 | _,[] => -1
 | i,v :: l => if Sf.known v = true then unkIdx (i + 1) l else i
theorem unkIdx_ge : ∀ (l : List V) (i : Nat),unkIdx i l ≥ 0 ↔ Sf.knowns l = false
 | [],i => by simp [unkIdx,Sf.knowns]
 | v :: l,i => by
  unfold unkIdx Sf.knowns
  cases h : Sf.known v
  ·simp
  ·simp only [if_true,Bool.true_and]; exact unkIdx_ge l (i + 1)
theorem a_indexv (is : List V) (hn : is.length ≤ 9223372036854775807) (hf : ∀ x ∈ is,∀ h,ACall Tryz.prog GT 282 [x.A] h fun r h' => r = .bool (!Sf.known x) ∧ h' = h) (h : Hp) : ACall Tryz.prog GT 313 [.sl 5 .no (V.cellss is),.fn 282 []] h fun r h' => r = .int .i64 (unkIdx 0 is) ∧ h' = h:=by
 refine pcall ?_ rfl (by simp [A.pure,A.data]) h
 refine fo ?_
 obtain ⟨D,hD⟩ : ∃ D,unkIdx 0 is = D:=⟨_,rfl⟩
 rw [hD]
 refine run0 @V.cellss_length ?_
 refine awp_loop (fun mm ts h => ∃ (j : Nat),mm = is.length - j ∧ j ≤ is.length ∧ h = ⟨[],[]⟩ ∧ unkIdx j (is.drop j) = D ∧ ts 0 = .sl 5 .no (V.cellss is) ∧ ts 1 = .fn 282 [] ∧ ts 7 = .int .i64 (is.length : Nat) ∧ ts 8 = .int .i64 (j : Nat)) is.length ?_ ?_
 ·exact ⟨0,by omega,by omega,rfl,hD,by (exact ev0 ti),by (exact ev0 ti),by (exact ev0 @V.cellss_length),by (exact inv0 ti)⟩
 rintro mm ts h ⟨j,rfl,hjc,rfl,hit,t0,t1,t7,t8⟩
 by_cases hj : j < is.length
 ·have hlt : (j : Int) < (is.length : Int):=by omega
  have hlt' : (j : Int) < ((V.cellss is).length : Int):=by rw [V.cellss_length]; exact hlt
  have hj0 : (0 : Int) ≤ (j : Int):=by omega
  have ei : IntKind.i64.wrap ((j : Int) + 1) = ((j + 1 : Nat) : Int):=by rw [wrap64 (by omega) (by omega)]; omega
  have hg:=V.cellss_get is j hj
  have cf:=hf is[j] (List.getElem_mem hj)
  rw [List.drop_eq_getElem_cons hj] at hit
  unfold unkIdx at hit
  obtain ⟨x,hx⟩ : ∃ x,is[j] = x:=⟨_,rfl⟩
  rw [hx] at hg cf hit
  obtain ⟨K,hK⟩ : ∃ K,Sf.known x = K:=⟨_,rfl⟩
  rw [hK] at cf hit
  obtain ⟨k,n,w,vi,vy⟩:=x
  have hVA : (V.mk k n w vi vy).A = .agg [.int .i64 k,.int .i64 n,.str w,.sl 5 .no (V.cellss vi),.sl 1 .no (strsA vy)]:=by simp only [V.A,V.cells]
  rw [hVA] at cf
  simp only [V.cells] at hg
  refine run0 (ai t0 (ai t1 (ai t7 (ai t8 (ai hlt (ai hg (ai hlt' hj0))))))) ?_
  refine use (cf _) ?_
  cases K
  ·rw [if_neg (by simp)] at hit
   subst hit
   refine run0 (ai t0 (ai t1 (ai t7 t8))) ?_
   exact ⟨_,le_refl _,rfl⟩
  ·rw [if_pos rfl] at hit
   refine run0 (ai t0 (ai t1 (ai t7 (ai t8 ei)))) ?_
   exact ⟨is.length - (j + 1),by omega,j + 1,rfl,by omega,rfl,hit,by (exact ev0 t0),by (exact ev0 t1),by (exact ev0 t7),by (exact ev0 ei)⟩
 ·have hlt : ¬ ((j : Int) < (is.length : Int)):=by omega
  rw [List.drop_eq_nil_of_le (by omega)] at hit
  unfold unkIdx at hit
  subst hit
  refine run0 (ai t0 (ai t1 (ai t7 (ai t8 hlt)))) ?_
  exact ⟨_,le_refl _,rfl⟩
theorem a_known : ∀ (v : V),v.lens → ∀ h,ACall Tryz.prog GT 233 [v.A] h fun r h' => r = .bool (Sf.known v) ∧ h' = h:=by
 refine V.induct ?_
 intro k n s is ks ih hl h
 have hlen : is.length ≤ 9223372036854775807:=by have h1:=hl.1; unfold maxLen at h1; omega
 have hf : ∀ x ∈ is,∀ h,ACall Tryz.prog GT 282 [x.A] h fun r h' => r = .bool (!Sf.known x) ∧ h' = h:=by
  intro x hx h
  have ck:=ih x hx (V.lensS_mem hl.2.2.2.2 x hx)
  obtain ⟨K,hK⟩ : ∃ K,Sf.known x = K:=⟨_,rfl⟩
  rw [hK] at ck ⊢
  obtain ⟨k,n,w,vi,vy⟩:=x
  have hVA : (V.mk k n w vi vy).A = .agg [.int .i64 k,.int .i64 n,.str w,.sl 5 .no (V.cellss vi),.sl 1 .no (strsA vy)]:=by simp only [V.A,V.cells]
  rw [hVA] at ck ⊢
  refine pcall ?_ rfl (by simp [A.pure,A.data]) h
  refine fo ?_
  refine run0 ti ?_
  refine use (ck _) ?_
  refine run0 ti ?_
  exact ⟨_,le_refl _,rfl⟩
 have hc : ∀ h,ACall Tryz.prog GT 281 [.sl 5 .no (V.cellss is),.fn 282 []] h fun r h' => r = .bool (!Sf.knowns is) ∧ h' = h:=by
  intro h
  refine pcall ?_ rfl (by simp [A.pure,A.data]) h
  refine fo ?_
  have hge:=unkIdx_ge is 0
  have ca:=a_indexv is hlen hf
  obtain ⟨D,hD⟩ : ∃ D,unkIdx 0 is = D:=⟨_,rfl⟩
  rw [hD] at hge ca
  refine run0 ti ?_
  refine use (ca _) ?_
  by_cases hd : D ≥ 0
  ·rw [hge.1 hd]
   refine run0 hd ?_
   exact ⟨_,le_refl _,rfl⟩
  ·have hk : Sf.knowns is = true:=by cases hk : Sf.knowns is; exact absurd (hge.2 hk) hd; rfl
   rw [hk]
   refine run0 hd ?_
   exact ⟨_,le_refl _,rfl⟩
 have hVA : (V.mk k n s is ks).A = .agg [.int .i64 k,.int .i64 n,.str s,.sl 5 .no (V.cellss is),.sl 1 .no (strsA ks)]:=by simp only [V.A,V.cells]
 have hK : Sf.known (.mk k n s is ks) = (k != 6 && Sf.knowns is):=by simp [Sf.known]
 rw [hVA,hK]
 refine pcall ?_ rfl (by simp [A.pure,A.data]) h
 refine fo ?_
 by_cases h6 : k = 6
 ·have e : (k != 6) = false:=by simp [h6]
  rw [e]
  refine run0 e ?_
  exact ⟨_,le_refl _,rfl⟩
 ·have e : (k != 6) = true:=by simp [h6]
  rw [e]
  refine run0 e ?_
  refine use (hc _) ?_
  cases Sf.knowns is
  ·refine run0 ti ?_
   exact ⟨_,le_refl _,rfl⟩
  ·refine run0 ti ?_
   exact ⟨_,le_refl _,rfl⟩
end AX
end Go.Proofs.YtknnodgbhpbgjaaGreatDoor

namespace Go.Proofs.YtknnodgbhpbgjaaGreatDoor
open Go.RowKit
open Go.Op (bytesLess)
namespace AX
theorem a_or (a b : Int) (h : Hp) : ACall Tryz.prog GT 235 [.sl 1 .no [[.int .i64 a],[.int .i64 b]]] h fun r h' => r = .int .i64 (if a ≠ 0 then a else b) ∧ h' = h:=by
 refine pcall ?_ rfl (by simp [A.pure,A.data]) h
 refine fo ?_
 refine run0 ti ?_
 have ew0 : IntKind.i64.wrap ((0 : Int) + 1) = 1:=by decide
 have ew1 : IntKind.i64.wrap ((1 : Int) + 1) = 2:=by decide
 have en1 : Int.toNat 1 = 1:=rfl
 have lt0 : (0 : Int) < ((2 : Nat) : Int):=by decide
 have lt1 : (1 : Int) < ((2 : Nat) : Int):=by decide
 have lt2 : ¬ (2 : Int) < ((2 : Nat) : Int):=by decide
 have le1 : (0 : Int) ≤ 1:=by decide
 refine awp_loop (fun mm ts h => h = ⟨[],[]⟩ ∧ ts 3 = .int .i64 0 ∧ ts 6 = .sl 1 .no [[.int .i64 a],[.int .i64 b]] ∧ ts 7 = .int .i64 ((2 : Nat) : Int) ∧ ((mm = 2 ∧ ts 8 = .int .i64 0) ∨ (mm = 1 ∧ ts 8 = .int .i64 1 ∧ a = 0) ∨ (mm = 0 ∧ ts 8 = .int .i64 2 ∧ a = 0 ∧ b = 0))) 2 ?_ ?_
 ·exact ⟨rfl,by (exact ev0 ti),by (exact ev0 ti),by (exact ev0 ti),.inl ⟨rfl,by (exact ev0 ti)⟩⟩
 rintro mm ts h ⟨rfl,t3,t6,t7,⟨rfl,t8⟩ | ⟨rfl,t8,ha⟩ | ⟨rfl,t8,ha,hb⟩⟩
 ·by_cases ha : a = 0
  ·have e1 : (a != 0) = false:=by simp [ha]
   refine run0 (ai t3 (ai t6 (ai t7 (ai t8 (ai e1 (ai ew0 lt0)))))) ?_
   exact ⟨1,by omega,rfl,by (exact ev0 t3),by (exact ev0 t6),by (exact ev0 t7),.inr (.inl ⟨rfl,by (exact ev0 ew0),ha⟩)⟩
  ·have e1 : (a != 0) = true:=by simp [ha]
   refine run0 (ai t3 (ai t6 (ai t7 (ai t8 (ai e1 lt0))))) ?_
   exact ⟨_,le_refl _,by rw [if_pos ha]; rfl⟩
 ·by_cases hb : b = 0
  ·have e1 : (b != 0) = false:=by simp [hb]
   refine run0 (ai t3 (ai t6 (ai t7 (ai t8 (ai e1 (ai ew1 (ai en1 (ai lt1 le1)))))))) ?_
   exact ⟨0,by omega,rfl,by (exact ev0 t3),by (exact ev0 t6),by (exact ev0 t7),.inr (.inr ⟨rfl,by (exact ev0 ew1),ha,hb⟩)⟩
  ·have e1 : (b != 0) = true:=by simp [hb]
   refine run0 (ai t3 (ai t6 (ai t7 (ai t8 (ai e1 (ai en1 (ai lt1 le1))))))) ?_
   exact ⟨_,le_refl _,by rw [if_neg (by simp [ha])]; rfl⟩
 ·refine run0 (ai t3 (ai t6 (ai t7 (ai t8 lt2)))) ?_
  exact ⟨_,le_refl _,by rw [if_neg (by simp [ha]),hb]; rfl⟩
def cmp2 (a b c d : List UInt8) : Int:=if cmpZ a c ≠ 0 then cmpZ a c else cmpZ b d
theorem a_compare (L : Leafs) (a b c d : List UInt8) (h : Hp) : ACall Tryz.prog GT 161 [.agg [.str a,.str b],.agg [.str c,.str d]] h fun r h' => r = .int .i64 (cmp2 a b c d) ∧ h' = h:=by
 refine pcall ?_ rfl (by simp [A.pure,A.data]) h
 refine fo ?_
 refine run0 ti ?_
 refine use (L.cmp a c _) ?_
 refine run0 ti ?_
 refine use (L.cmp b d _) ?_
 refine run0 ti ?_
 refine use (a_or (cmpZ a c) (cmpZ b d) _) ?_
 refine run0 ti ?_
 exact ⟨_,le_refl _,rfl⟩
theorem cmp2_ge (x y : Sf.Inst) : (cmp2 x.addr x.dep y.addr y.dep ≥ 0) ↔ Sf.behind x y = false:=by
 unfold cmp2 Sf.behind cmpZ
 by_cases h1 : x.addr = y.addr
 ·have irr : bytesLess y.addr y.addr = false:=by
   have:=Val.less_total y.addr y.addr
   cases h : bytesLess y.addr y.addr
   ·rfl
   ·rw [h] at this; simp at this
  rw [h1,irr]
  by_cases h2 : x.dep = y.dep
  ·have irr2 : bytesLess y.dep y.dep = false:=by
    have:=Val.less_total y.dep y.dep
    cases h : bytesLess y.dep y.dep
    ·rfl
    ·rw [h] at this; simp at this
   simp [h2,irr2]
  ·cases h3 : bytesLess x.dep y.dep <;> simp [h2]
 ·cases h3 : bytesLess x.addr y.addr <;> simp [h1]
structure Sf.StIn (s : Sf.St) : Prop where
 lin : s.lin.length ≤ 2000000
 insts : ∀ x ∈ s.insts,Sf.InstIn x
 pends : ∀ x ∈ s.pends,x.addr.length ≤ 2000000 ∧ x.tok.length ≤ 2000000
 outs : ∀ x ∈ s.outs,x.name.length ≤ 2000000 ∧ x.value.lens
 li : s.insts.length ≤ 1000000000
 lp : s.pends.length ≤ 1000000000
 lo : s.outs.length ≤ 1000000000
theorem a_scheck (L : Leafs) (st : Sf.St) (ok : Sf.StIn st) : SCheck st:=by
 intro h
 obtain ⟨lin,ser,ins,ps,os⟩:=st
 have ct:=fun h => L.text lin ok.lin h
 have li : ins.length ≤ 1000000000:=ok.li
 have lp : ps.length ≤ 1000000000:=ok.lp
 have lo : os.length ≤ 1000000000:=ok.lo
 have lm1 : (ins.map Sf.Inst.cells).length = ins.length:=List.length_map _
 have lm2 : (ps.map Sf.Pend.cells).length = ps.length:=List.length_map _
 have lm3 : (os.map Sf.Outp.cells).length = os.length:=List.length_map _
 obtain ⟨Z,hZ⟩ : ∃ Z,Sf.checkZ ⟨lin,ser,ins,ps,os⟩ = Z:=⟨_,rfl⟩
 rw [hZ]
 unfold Sf.checkZ at hZ
 dsimp only at hZ
 refine pcall ?_ rfl (by simp [A.pure,A.data,Sf.St.A]) h
 refine fo ?_
 dsimp only [Sf.St.A]
 refine run0 ti ?_
 refine use (ct _) ?_
 cases hT : Sf.text lin
 ·rw [hT,if_pos (by decide)] at hZ
  subst hZ
  refine run0 ti ?_
  exact ⟨_,le_refl _,rfl⟩
 rw [hT,if_neg (by decide)] at hZ
 by_cases s0 : ser < 0
 ·rw [if_pos (.inl s0)] at hZ
  subst hZ
  refine run0 s0 ?_
  exact ⟨_,le_refl _,rfl⟩
 by_cases s1 : ser > 9007199254740992
 ·rw [if_pos (.inr s1)] at hZ
  subst hZ
  refine run0 (ai s0 s1) ?_
  exact ⟨_,le_refl _,rfl⟩
 rw [if_neg (by omega)] at hZ
 obtain ⟨mx,hmx⟩ : ∃ mx : Int,(if (os.length : Int) > (if (ps.length : Int) > (ins.length : Int) then (ps.length : Int) else (ins.length : Int)) then (os.length : Int) else (if (ps.length : Int) > (ins.length : Int) then (ps.length : Int) else (ins.length : Int))) = mx:=⟨_,rfl⟩
 have hm5 : mx > 512 ↔ (512 < ins.length ∨ 512 < ps.length ∨ 512 < os.length):=by
  rw [← hmx]; split <;> split <;> omega
 by_cases hm : mx > 512
 ·rw [if_pos (hm5.1 hm)] at hZ
  subst hZ
  refine run0 (ai s0 (ai s1 (ai lm1 (ai lm2 (ai lm3 (ai hmx hm)))))) ?_
  exact ⟨_,le_refl _,rfl⟩
 rw [if_neg (fun e => hm (hm5.2 e))] at hZ
 obtain ⟨I,hI⟩ : ∃ I,Sf.instsZ none ins = I:=⟨_,rfl⟩
 obtain ⟨P,hP⟩ : ∃ P,Sf.pendsZ none ps = P:=⟨_,rfl⟩
 obtain ⟨O,hO⟩ : ∃ O,Sf.outsZ none os = O:=⟨_,rfl⟩
 have fi1 : ∀ z,z ≠ 0 → z = I → Z = z:=fun z h e => by rw [hI,← e,if_pos h] at hZ; exact hZ.symm
 have fi2 : I = 0 → (if P ≠ 0 then P else O) = Z:=fun e => by rw [hI,hP,hO,e,if_neg (by simp)] at hZ; exact hZ
 refine run0 (ai s0 (ai s1 (ai lm1 (ai lm2 (ai lm3 (ai hmx hm)))))) ?_
 refine awp_loop (fun mm ts h => ∃ (j : Nat) (l : List Blk),mm = ins.length - j ∧ j ≤ ins.length ∧ h = ⟨.cells 26 [.str lin,.int .i64 ser,.sl 13 .no (ins.map Sf.Inst.cells),.sl 3 .no (ps.map Sf.Pend.cells),.sl 7 .no (os.map Sf.Outp.cells)] :: l,[]⟩ ∧ Sf.instsZ (if j = 0 then none else ins[j - 1]?) (ins.drop j) = I ∧ ts 1 = .ptr 0 0 ∧ ts 35 = .sl 13 .no (ins.map Sf.Inst.cells) ∧ ts 36 = .int .i64 (ins.length : Nat) ∧ ts 37 = .int .i64 (j : Nat)) ins.length ?_ ?_
 ·exact ⟨0,[],by omega,by omega,rfl,hI,by (exact ev0 ti),by (exact ev0 ti),by (exact ev0 (ai lm1 (ai lm2 lm3))),by (exact inv0 ti)⟩
 rintro mm ts h ⟨j,l,rfl,hjc,rfl,hit,t1,ta,tb,tc⟩
 by_cases hj : j < ins.length
 ·have hlt : (j : Int) < (ins.length : Int):=by omega
  have hlt' : (j : Int) < ((ins.map Sf.Inst.cells).length : Int):=by rw [List.length_map]; exact hlt
  have hj0 : (0 : Int) ≤ (j : Int):=by omega
  have ei : IntKind.i64.wrap ((j : Int) + 1) = ((j + 1 : Nat) : Int):=by rw [wrap64 (by omega) (by omega)]; omega
  have hg:=map_getD Sf.Inst.cells ins j hj
  have hm:=List.getElem_mem hj
  rw [List.drop_eq_getElem_cons hj] at hit
  obtain ⟨x,hx⟩ : ∃ x,ins[j] = x:=⟨_,rfl⟩
  rw [hx] at hit hg hm
  have ci:=fun h => a_instance L x (ok.insts x hm) h
  have cp:=fun h => a_placeOf x h
  have hxj : ins[j]? = some x:=by rw [List.getElem?_eq_getElem hj,hx]
  have hx2 : ∃ x2,x = x2:=⟨_,rfl⟩
  unfold Sf.instsZ at hit
  obtain ⟨Z1,hZ1⟩ : ∃ z,Sf.instZ x = z:=⟨_,rfl⟩
  rw [hZ1] at ci hit
  have cge:=fun y => cmp2_ge y x
  have cc:=fun (y : Sf.Inst) h => a_compare L y.addr y.dep x.addr x.dep h
  have nx : Sf.instsZ (some x) (ins.drop (j + 1)) = I → Sf.instsZ (if j + 1 = 0 then none else ins[j + 1 - 1]?) (ins.drop (j + 1)) = I:=fun e => by rw [if_neg (by omega),Nat.add_sub_cancel,hxj]; exact e
  clear hx2 hm hZ1
  have cells : ∃ a d id ty k n s is ks v tn fi ds,x = ⟨a,d,id,ty,.mk k n s is ks,v,tn,fi,ds⟩:=by obtain ⟨a,d,id,ty,⟨k,n,s,is,ks⟩,v,tn,fi,ds⟩:=x; exact ⟨_,_,_,_,_,_,_,_,_,_,_,_,_,rfl⟩
  obtain ⟨a,d,id,ty,k,n,s,is,ks,v,tn,fi,ds,hxe⟩:=cells
  have hxc : x.cells = [.str a,.str d,.str id,.str ty,.int .i64 k,.int .i64 n,.str s,.sl 5 .no (V.cellss is),.sl 1 .no (strsA ks),.int .i64 v,.bool tn,.bool fi,.sl 1 .no (strsA ds)]:=by rw [hxe]; rfl
  rw [hxc] at ci cp hg
  refine run0 (ai t1 (ai ta (ai tb (ai tc (ai hlt (ai hg (ai hlt' hj0))))))) ?_
  refine use (ci _) ?_
  by_cases hz : Z1 = 0
  rotate_left
  ·have e1 : (Z1 != 0) = true:=by simp [hz]
   rw [if_pos hz] at hit
   have hZf:=fi1 Z1 hz hit
   refine run0 (ai t1 (ai ta (ai tb (ai tc e1)))) ?_
   exact ⟨_,le_refl _,by rw [hZf]; rfl⟩
  have e1 : (Z1 != 0) = false:=by simp [hz]
  rw [if_neg (by simp [hz])] at hit
  cases j with
  | zero =>
   have h0 : ¬ ((0 : Nat) : Int) > 0:=by omega
   simp only [if_true,Bool.false_eq_true,if_false] at hit
   refine run0 (ai t1 (ai ta (ai tb (ai tc (ai e1 (ai h0 ei)))))) ?_
   exact ⟨ins.length - (0 + 1),by omega,0 + 1,l ++ [.cells 76 [.str a,.str d,.str id,.str ty,.int .i64 k,.int .i64 n,.str s,.sl 5 .no (V.cellss is),.sl 1 .no (strsA ks),.int .i64 v,.bool tn,.bool fi,.sl 1 .no (strsA ds)]],rfl,by omega,rfl,nx hit,by (exact ev0 t1),by (exact ev0 ta),by (exact ev0 tb),by (exact ev0 ei)⟩
  | succ i =>
   have h0 : ((i + 1 : Nat) : Int) > 0:=by omega
   have ej : IntKind.i64.wrap (((i + 1 : Nat) : Int) - 1) = (i : Int):=by rw [wrap64 (by omega) (by omega)]; omega
   have hg2:=map_getD Sf.Inst.cells ins i (by omega)
   have hi' : (i : Int) < ((ins.map Sf.Inst.cells).length : Int):=by rw [List.length_map]; omega
   have hi0 : (0 : Int) ≤ (i : Int):=by omega
   have hki : ins[i + 1 - 1]? = some (ins[i]'(by omega)):=List.getElem?_eq_getElem (by omega)
   rw [show (if i + 1 = 0 then none else ins[i + 1 - 1]?) = (some (ins[i]'(by omega))) from by rw [if_neg (by omega),hki]] at hit
   obtain ⟨y,hy⟩ : ∃ y,ins[i]'(by omega) = y:=⟨_,rfl⟩
   rw [hy] at hit hg2
   dsimp only at hit
   have cpy:=fun h => a_placeOf y h
   have hyc : ∃ b1 b2 b3 b4 b5 b6 b7 b8 b9 c1 c2 c3 c4,y.cells = [.str b1,.str b2,.str b3,.str b4,.int .i64 b5,.int .i64 b6,.str b7,.sl 5 .no (V.cellss b8),.sl 1 .no (strsA b9),.int .i64 c1,.bool c2,.bool c3,.sl 1 .no (strsA c4)]:=by obtain ⟨a,d,id,ty,⟨k,n,s,is,ks⟩,v,tn,fi,ds⟩:=y; exact ⟨_,_,_,_,_,_,_,_,_,_,_,_,_,rfl⟩
   obtain ⟨b1,b2,b3,b4,b5,b6,b7,b8,b9,c1,c2,c3,c4,hyc⟩:=hyc
   rw [hyc] at hg2 cpy
   have cg:=cge y
   have cy:=cc y
   obtain ⟨c,hc⟩ : ∃ c,cmp2 y.addr y.dep x.addr x.dep = c:=⟨_,rfl⟩
   rw [hc] at cg cy
   refine run0 (ai t1 (ai ta (ai tb (ai tc (ai e1 (ai h0 (ai ej (ai hg2 (ai hi' hi0))))))))) ?_
   refine use (cpy _) ?_
   refine run0 (ai t1 (ai ta (ai tb tc))) ?_
   refine use (cp _) ?_
   refine run0 (ai t1 (ai ta (ai tb tc))) ?_
   refine use (cy _) ?_
   by_cases hcz : c ≥ 0
   ·simp only [cg.1 hcz,Bool.not_false,if_true] at hit
    have hZf:=fi1 1 (by decide) hit
    refine run0 (ai t1 (ai ta (ai tb (ai tc hcz)))) ?_
    exact ⟨_,le_refl _,by rw [hZf]; rfl⟩
   ·have hb : Sf.behind y x = true:=by cases hb : Sf.behind y x; exact absurd (cg.2 hb) hcz; rfl
    simp only [hb,Bool.not_true,Bool.false_eq_true,if_false] at hit
    refine run0 (ai t1 (ai ta (ai tb (ai tc (ai hcz ei))))) ?_
    exact ⟨ins.length - ((i + 1) + 1),by omega,(i + 1) + 1,l ++ [.cells 76 [.str a,.str d,.str id,.str ty,.int .i64 k,.int .i64 n,.str s,.sl 5 .no (V.cellss is),.sl 1 .no (strsA ks),.int .i64 v,.bool tn,.bool fi,.sl 1 .no (strsA ds)]],rfl,by omega,rfl,nx hit,by (exact ev0 t1),by (exact ev0 ta),by (exact ev0 tb),by (exact ev0 ei)⟩
 have hlt : ¬ ((j : Int) < (ins.length : Int)):=by omega
 rw [List.drop_eq_nil_of_le (by omega)] at hit
 unfold Sf.instsZ at hit
 have fi2:=fi2 hit.symm
 refine run0 (ai t1 (ai ta (ai tb (ai tc (ai hlt (ai lm1 (ai lm2 lm3))))))) ?_
 clear hit hlt hjc ta tb tc fi1
 have fj1 : ∀ z,z ≠ 0 → z = P → Z = z:=fun z h e => by rw [← e,if_pos h] at fi2; exact fi2.symm
 have fj2 : P = 0 → Z = O:=fun e => by rw [e,if_neg (by simp)] at fi2; exact fi2.symm
 obtain ⟨l0,hl0⟩ : ∃ l0 : List Blk,l = l0:=⟨_,rfl⟩
 refine awp_loop (fun mm ts h => ∃ (j : Nat) (l : List Blk),mm = ps.length - j ∧ j ≤ ps.length ∧ h = ⟨.cells 26 [.str lin,.int .i64 ser,.sl 13 .no (ins.map Sf.Inst.cells),.sl 3 .no (ps.map Sf.Pend.cells),.sl 7 .no (os.map Sf.Outp.cells)] :: l,[]⟩ ∧ Sf.pendsZ (if j = 0 then none else ps[j - 1]?.map Sf.Pend.tok) (ps.drop j) = P ∧ ts 1 = .ptr 0 0 ∧ ts 64 = .sl 3 .no (ps.map Sf.Pend.cells) ∧ ts 65 = .int .i64 (ps.length : Nat) ∧ ts 66 = .int .i64 (j : Nat)) ps.length ?_ ?_
 ·exact ⟨0,l,by omega,by omega,rfl,hP,by (exact ev0 t1),by (exact ev0 t1),by (exact ev0 (ai t1 (ai lm1 (ai lm2 lm3)))),by (exact inv0 t1)⟩
 rintro mm ts h ⟨j,l,rfl,hjc,rfl,hit,t1,ta,tb,tc⟩
 by_cases hj : j < ps.length
 ·have hlt : (j : Int) < (ps.length : Int):=by omega
  have hlt' : (j : Int) < ((ps.map Sf.Pend.cells).length : Int):=by rw [List.length_map]; exact hlt
  have hj0 : (0 : Int) ≤ (j : Int):=by omega
  have ei : IntKind.i64.wrap ((j : Int) + 1) = ((j + 1 : Nat) : Int):=by rw [wrap64 (by omega) (by omega)]; omega
  have hg:=map_getD Sf.Pend.cells ps j hj
  have hm:=List.getElem_mem hj
  rw [List.drop_eq_getElem_cons hj] at hit
  obtain ⟨x,hx⟩ : ∃ x,ps[j] = x:=⟨_,rfl⟩
  rw [hx] at hit hg hm
  have hin:=ok.pends x hm
  have ct:=fun h => L.text x.tok hin.2 h
  have cm:=fun h => a_managed L x.addr x.typ hin.1 h
  have hxj : ps[j]? = some x:=by rw [List.getElem?_eq_getElem hj,hx]
  unfold Sf.pendsZ Sf.pendB at hit
  have nx : Sf.pendsZ (some x.tok) (ps.drop (j + 1)) = P → Sf.pendsZ (if j + 1 = 0 then none else ps[j + 1 - 1]?.map Sf.Pend.tok) (ps.drop (j + 1)) = P:=fun e => by rw [if_neg (by omega),Nat.add_sub_cancel,hxj]; exact e
  simp only [Sf.Pend.cells] at hg
  obtain ⟨T,hT⟩ : ∃ T,Sf.text x.tok = T:=⟨_,rfl⟩
  rw [hT] at ct hit
  obtain ⟨M,hM⟩ : ∃ M,Sf.managed x.addr x.typ = M:=⟨_,rfl⟩
  rw [hM] at cm hit
  refine run0 (ai t1 (ai ta (ai tb (ai tc (ai hlt (ai hg (ai hlt' hj0))))))) ?_
  refine use (ct _) ?_
  cases T
  ·rw [if_pos (by simp)] at hit
   have hZf:=fj1 1 (by decide) hit
   refine run0 (ai t1 (ai ta (ai tb tc))) ?_
   exact ⟨_,le_refl _,by rw [hZf]; rfl⟩
  refine run0 (ai t1 (ai ta (ai tb tc))) ?_
  refine use (cm _) ?_
  cases M
  ·rw [if_pos (by simp)] at hit
   have hZf:=fj1 1 (by decide) hit
   refine run0 (ai t1 (ai ta (ai tb tc))) ?_
   exact ⟨_,le_refl _,by rw [hZf]; rfl⟩
  cases j with
  | zero =>
   have h0 : ¬ ((0 : Nat) : Int) > 0:=by omega
   rw [if_neg (by simp [Val.badB])] at hit
   refine run0 (ai t1 (ai ta (ai tb (ai tc (ai h0 ei))))) ?_
   exact ⟨ps.length - (0 + 1),by omega,0 + 1,l ++ [.cells 134 [.str x.addr,.str x.typ,.str x.tok]],rfl,by omega,rfl,nx hit,by (exact ev0 t1),by (exact ev0 ta),by (exact ev0 tb),by (exact ev0 ei)⟩
  | succ i =>
   have h0 : ((i + 1 : Nat) : Int) > 0:=by omega
   have ej : IntKind.i64.wrap (((i + 1 : Nat) : Int) - 1) = (i : Int):=by rw [wrap64 (by omega) (by omega)]; omega
   have hg2:=map_getD Sf.Pend.cells ps i (by omega)
   have hi' : (i : Int) < ((ps.map Sf.Pend.cells).length : Int):=by rw [List.length_map]; omega
   have hi0 : (0 : Int) ≤ (i : Int):=by omega
   have hki : ps[i + 1 - 1]? = some (ps[i]'(by omega)):=List.getElem?_eq_getElem (by omega)
   rw [show (if i + 1 = 0 then none else ps[i + 1 - 1]?.map Sf.Pend.tok) = (some (ps[i]'(by omega))).map Sf.Pend.tok from by rw [if_neg (by omega),hki]] at hit
   obtain ⟨y,hy⟩ : ∃ y,ps[i]'(by omega) = y:=⟨_,rfl⟩
   rw [hy] at hit hg2
   simp only [Sf.Pend.cells] at hg2
   simp only [Option.map_some,Val.badB] at hit
   cases hb : bytesLess y.tok x.tok
   ·simp only [hb,Bool.true_and,Bool.and_true,Bool.not_true,Bool.not_false,Bool.false_or,Bool.true_or,if_true] at hit
    have hZf:=fj1 1 (by decide) hit
    refine run0 (ai t1 (ai ta (ai tb (ai tc (ai h0 (ai ej (ai hg2 (ai hi' (ai hi0 hb))))))))) ?_
    exact ⟨_,le_refl _,by rw [hZf]; rfl⟩
   ·simp only [hb,Bool.true_and,Bool.and_true,Bool.not_true,Bool.not_false,Bool.false_or,Bool.or_false,Bool.false_eq_true,if_false] at hit
    refine run0 (ai t1 (ai ta (ai tb (ai tc (ai h0 (ai ej (ai hg2 (ai hi' (ai hi0 (ai hb ei)))))))))) ?_
    exact ⟨ps.length - ((i + 1) + 1),by omega,(i + 1) + 1,l ++ [.cells 134 [.str x.addr,.str x.typ,.str x.tok]],rfl,by omega,rfl,nx hit,by (exact ev0 t1),by (exact ev0 ta),by (exact ev0 tb),by (exact ev0 ei)⟩
 have hlt : ¬ ((j : Int) < (ps.length : Int)):=by omega
 rw [List.drop_eq_nil_of_le (by omega)] at hit
 unfold Sf.pendsZ at hit
 have fj2:=fj2 hit.symm
 refine run0 (ai t1 (ai ta (ai tb (ai tc (ai hlt (ai lm1 (ai lm2 lm3))))))) ?_
 clear hit hlt hjc ta tb tc fj1 hl0 l0
 refine awp_loop (fun mm ts h => ∃ (j : Nat) (l : List Blk),mm = os.length - j ∧ j ≤ os.length ∧ h = ⟨.cells 26 [.str lin,.int .i64 ser,.sl 13 .no (ins.map Sf.Inst.cells),.sl 3 .no (ps.map Sf.Pend.cells),.sl 7 .no (os.map Sf.Outp.cells)] :: l,[]⟩ ∧ Sf.outsZ (if j = 0 then none else os[j - 1]?.map Sf.Outp.name) (os.drop j) = O ∧ ts 1 = .ptr 0 0 ∧ ts 101 = .sl 7 .no (os.map Sf.Outp.cells) ∧ ts 102 = .int .i64 (os.length : Nat) ∧ ts 103 = .int .i64 (j : Nat)) os.length ?_ ?_
 ·exact ⟨0,l,by omega,by omega,rfl,hO,by (exact ev0 t1),by (exact ev0 t1),by (exact ev0 (ai t1 (ai lm1 (ai lm2 lm3)))),by (exact inv0 t1)⟩
 rintro mm ts h ⟨j,l,rfl,hjc,rfl,hit,t1,ta,tb,tc⟩
 by_cases hj : j < os.length
 ·have hlt : (j : Int) < (os.length : Int):=by omega
  have hlt' : (j : Int) < ((os.map Sf.Outp.cells).length : Int):=by rw [List.length_map]; exact hlt
  have hj0 : (0 : Int) ≤ (j : Int):=by omega
  have ei : IntKind.i64.wrap ((j : Int) + 1) = ((j + 1 : Nat) : Int):=by rw [wrap64 (by omega) (by omega)]; omega
  have hg:=map_getD Sf.Outp.cells os j hj
  have hm:=List.getElem_mem hj
  rw [List.drop_eq_getElem_cons hj] at hit
  obtain ⟨x,hx⟩ : ∃ x,os[j] = x:=⟨_,rfl⟩
  rw [hx] at hit hg hm
  have hin:=ok.outs x hm
  have ci:=fun h => a_output L x hin.1 hin.2 h
  have hxj : os[j]? = some x:=by rw [List.getElem?_eq_getElem hj,hx]
  unfold Sf.outsZ at hit
  have nx : Sf.outsZ (some x.name) (os.drop (j + 1)) = O → Sf.outsZ (if j + 1 = 0 then none else os[j + 1 - 1]?.map Sf.Outp.name) (os.drop (j + 1)) = O:=fun e => by rw [if_neg (by omega),Nat.add_sub_cancel,hxj]; exact e
  obtain ⟨Z1,hZ1⟩ : ∃ z,Sf.outZ x = z:=⟨_,rfl⟩
  rw [hZ1] at ci hit
  clear hZ1
  obtain ⟨m,⟨k,n,s,is,ks⟩,b⟩:=x
  simp only [Sf.Outp.cells] at hg ci
  dsimp only at hit nx
  refine run0 (ai t1 (ai ta (ai tb (ai tc (ai hlt (ai hg (ai hlt' hj0))))))) ?_
  refine use (ci _) ?_
  by_cases hz : Z1 = 0
  rotate_left
  ·have e1 : (Z1 != 0) = true:=by simp [hz]
   rw [if_pos hz] at hit
   refine run0 (ai t1 (ai ta (ai tb (ai tc e1)))) ?_
   exact ⟨_,le_refl _,by rw [fj2,← hit]; rfl⟩
  have e1 : (Z1 != 0) = false:=by simp [hz]
  rw [if_neg (by simp [hz])] at hit
  cases j with
  | zero =>
   have h0 : ¬ ((0 : Nat) : Int) > 0:=by omega
   rw [if_neg (by simp [Val.badB])] at hit
   refine run0 (ai t1 (ai ta (ai tb (ai tc (ai e1 (ai h0 ei)))))) ?_
   exact ⟨os.length - (0 + 1),by omega,0 + 1,l ++ [.cells 136 [.str m,.int .i64 k,.int .i64 n,.str s,.sl 5 .no (V.cellss is),.sl 1 .no (strsA ks),.bool b]],rfl,by omega,rfl,nx hit,by (exact ev0 t1),by (exact ev0 ta),by (exact ev0 tb),by (exact ev0 ei)⟩
  | succ i =>
   have h0 : ((i + 1 : Nat) : Int) > 0:=by omega
   have ej : IntKind.i64.wrap (((i + 1 : Nat) : Int) - 1) = (i : Int):=by rw [wrap64 (by omega) (by omega)]; omega
   have hg2:=map_getD Sf.Outp.cells os i (by omega)
   have hi' : (i : Int) < ((os.map Sf.Outp.cells).length : Int):=by rw [List.length_map]; omega
   have hi0 : (0 : Int) ≤ (i : Int):=by omega
   have hki : os[i + 1 - 1]? = some (os[i]'(by omega)):=List.getElem?_eq_getElem (by omega)
   rw [show (if i + 1 = 0 then none else os[i + 1 - 1]?.map Sf.Outp.name) = (some (os[i]'(by omega))).map Sf.Outp.name from by rw [if_neg (by omega),hki]] at hit
   obtain ⟨y,hy⟩ : ∃ y,os[i]'(by omega) = y:=⟨_,rfl⟩
   rw [hy] at hit hg2
   obtain ⟨m2,⟨k2,n2,s2,is2,ks2⟩,b2⟩:=y
   simp only [Sf.Outp.cells] at hg2
   simp only [Option.map_some,Val.badB] at hit
   cases hb : bytesLess m2 m
   ·simp only [hb,Bool.true_and,Bool.and_true,Bool.not_true,Bool.not_false,Bool.false_or,Bool.true_or,if_true] at hit
    refine run0 (ai t1 (ai ta (ai tb (ai tc (ai e1 (ai h0 (ai ej (ai hg2 (ai hi' (ai hi0 hb)))))))))) ?_
    exact ⟨_,le_refl _,by rw [fj2,← hit]; rfl⟩
   ·simp only [hb,Bool.true_and,Bool.and_true,Bool.not_true,Bool.not_false,Bool.false_or,Bool.or_false,Bool.false_eq_true,if_false] at hit
    refine run0 (ai t1 (ai ta (ai tb (ai tc (ai e1 (ai h0 (ai ej (ai hg2 (ai hi' (ai hi0 (ai hb ei))))))))))) ?_
    exact ⟨os.length - ((i + 1) + 1),by omega,(i + 1) + 1,l ++ [.cells 136 [.str m,.int .i64 k,.int .i64 n,.str s,.sl 5 .no (V.cellss is),.sl 1 .no (strsA ks),.bool b]],rfl,by omega,rfl,nx hit,by (exact ev0 t1),by (exact ev0 ta),by (exact ev0 tb),by (exact ev0 ei)⟩
 have hlt : ¬ ((j : Int) < (os.length : Int)):=by omega
 rw [List.drop_eq_nil_of_le (by omega)] at hit
 unfold Sf.outsZ at hit
 refine run0 (ai t1 (ai ta (ai tb (ai tc (ai hlt (ai lm1 (ai lm2 lm3))))))) ?_
 exact ⟨_,le_refl _,by rw [fj2,← hit]; rfl⟩
end AX
end Go.Proofs.YtknnodgbhpbgjaaGreatDoor

namespace Go.Proofs.YtknnodgbhpbgjaaGreatDoor
open Go.RowKit
namespace Adr
theorem mods_names (N : Nat) : ∀ (f : Nat) (r : Rd) (l : List Step),r.rest.length ≤ N → (∀ x ∈ l,x.name.length ≤ N) → (∀ x ∈ (modsP f r l).1,x.name.length ≤ N) ∧ (modsP f r l).2.rest.length ≤ N ∧ (modsP f r l).1.length ≤ l.length + f
 | 0,r,l,hr,hl => ⟨hl,hr,Nat.le_refl _⟩
 | f + 1,r,l,hr,hl => by
  unfold modsP
  split
  ·next hc =>
   have h1:=has_len modW r
   have h2:=step_len (hasP modW r).2
   have h3:=skip_len [46] (stepP (hasP modW r).2).2
   have hn : (stepP (hasP modW r).2).1.name.length ≤ N:=Nat.le_trans (word_len (hasP modW r).2).2 (by omega)
   obtain ⟨q1,q2,q3⟩:=mods_names N f (skipP [46] (stepP (hasP modW r).2).2) (l ++ [(stepP (hasP modW r).2).1]) (by omega) (fun x hx => by
    rcases List.mem_append.1 hx with hx | hx
    ·exact hl x hx
    ·rw [List.mem_singleton.1 hx]; exact hn)
   exact ⟨q1,q2,Nat.le_trans q3 (by simp only [List.length_append,List.length_singleton]; omega)⟩
  ·exact ⟨hl,hr,by dsimp only; omega⟩
theorem parse_names (s : List UInt8) (h : (parse s).2 = 0) : (∀ x ∈ (parse s).1.mods,x.name.length ≤ s.length) ∧ (parse s).1.mods.length ≤ s.length + 1 ∧ (parse s).1.type.length ≤ s.length ∧ (parse s).1.name.length ≤ s.length:=by
 rw [← parse_eq] at h ⊢
 obtain ⟨q1,q2,q3⟩:=mods_names s.length (s.length + 1) ⟨s,false⟩ [] (Nat.le_refl _) (by simp)
 unfold parseP at h ⊢
 dsimp only at h ⊢
 have l1:=has_len dataW (modsP (s.length + 1) ⟨s,false⟩ []).2
 have l2:=word_len (hasP dataW (modsP (s.length + 1) ⟨s,false⟩ []).2).2
 have l3:=skip_len [46] (wordP (hasP dataW (modsP (s.length + 1) ⟨s,false⟩ []).2).2).2
 have l4:=word_len (skipP [46] (wordP (hasP dataW (modsP (s.length + 1) ⟨s,false⟩ []).2).2).2)
 split at h
 ·simp at h
 ·next h1 =>
  rw [if_neg h1]
  split at h
  ·simp at h
  ·next h2 =>
   rw [if_neg h2]
   dsimp only
   exact ⟨q1,by simpa using q3,by omega,by omega⟩
end Adr
namespace AX
theorem a_static (s : List UInt8) (hs : s.length ≤ 2000000) (h : Hp) : ACall Tryz.prog GT 283 [.str s] h fun r h' => r = .tup [.str (Adr.static s).1,.int .i64 (Adr.static s).2] ∧ h' = h:=by
 refine pcall ?_ rfl (by simp [A.pure,A.data]) h
 refine fo ?_
 have cp:=fun h => a_parse s hs h
 have hS : Adr.static s = if (Adr.parse s).2 ≠ 0 then ([],(Adr.parse s).2) else (Adr.fmt (Adr.bare (Adr.parse s).1),0):=rfl
 have hnm:=Adr.parse_names s
 obtain ⟨⟨a,e⟩,hp⟩ : ∃ q,Adr.parse s = q:=⟨_,rfl⟩
 rw [hp] at cp hS hnm
 dsimp only at cp hS hnm
 rw [hS]
 by_cases he : e = 0
 rotate_left
 ·have e1 : (e != 0) = true:=by simp [he]
  rw [if_pos he]
  obtain ⟨mods,data,ty,nm,⟨kk,kn,ks⟩⟩:=a
  dsimp only [Adr.Ad.cells] at cp
  refine run0 ti ?_
  refine use (cp _) ?_
  refine run0 e1 ?_
  exact ⟨_,le_refl _,rfl⟩
 have e1 : (e != 0) = false:=by simp [he]
 rw [if_neg (by simp [he])]
 obtain ⟨n1,n2,n3,n4⟩:=hnm he
 have cs:=fun h => a_static0 a (by omega) h
 have cf:=fun h => a_format0 (Adr.bare a) ⟨by unfold Adr.bare; dsimp only; rw [List.length_map]; omega,fun x hx => by
   unfold Adr.bare at hx
   obtain ⟨y,hy,rfl⟩:=List.mem_map.1 hx
   have:=n1 y hy
   exact ⟨Nat.le_trans this hs,by simp [Adr.K.none]⟩,by unfold Adr.bare; dsimp only; omega,by unfold Adr.bare; dsimp only; omega,by unfold Adr.bare Adr.K.none; simp⟩
  (fun x hx => by
   unfold Adr.bare at hx
   obtain ⟨y,hy,rfl⟩:=List.mem_map.1 hx
   rfl) rfl h
 have hbc : (Adr.bare a).cells = [.sl 4 .no ((a.mods.map fun s => (⟨s.name,Adr.K.none⟩ : Adr.Step)).map Adr.Step.cells),.bool a.data,.str a.type,.str a.name,.int .i64 0,.int .i64 0,.str []]:=rfl
 rw [hbc] at cs cf
 obtain ⟨F,hF⟩ : ∃ F,Adr.fmt (Adr.bare a) = F:=⟨_,rfl⟩
 rw [hF] at cf ⊢
 clear hS n1 n2 n3 n4 hnm hp hbc
 obtain ⟨mods,data,ty,nm,⟨kk,kn,ks⟩⟩:=a
 dsimp only [Adr.Ad.cells] at cp cs cf
 refine run0 ti ?_
 refine use (cp _) ?_
 refine run0 e1 ?_
 refine use (cs _) ?_
 refine run0 ti ?_
 refine use (cf _) ?_
 refine run0 ti ?_
 exact ⟨_,le_refl _,rfl⟩
theorem leafs : Leafs where
 parse:=a_parse
 static:=a_static
 ident:=a_ident
 num:=a_numParse
 cmp:=a_cmp
 known:=fun v hl h => a_known v hl h
 text:=fun s hs h => (a_stext s hs h).mono fun v h' hv => hv
theorem a_stateCheck (st : Sf.St) (ok : Sf.StIn st) : SCheck st:=a_scheck leafs st ok
theorem row_at6 {α : Type} (f : α → List A) (l : List α) (i : Nat) (h : i < l.length) (hl : l.length ≤ 4611686018427387904) :
  (l.map f).length = l.length ∧ (i : Int) < (l.length : Int) ∧ (0 : Int) ≤ (i : Int) ∧ (l.map f).getD i [] = f l[i] ∧ IntKind.i64.wrap ((i : Int) + 1) = ((i + 1 : Nat) : Int):=
 ⟨List.length_map _,by omega,by omega,map_getD f l i h,by rw [wrap64 (by omega) (by omega)]; omega⟩
theorem a_r6check (a : Adr.Ad) (hi : Adr.In a) (h : Hp) : ACall Tryz.prog GT 372 [.agg a.cells] h fun r h' => r = .int .i64 (Adr.check a) ∧ h' = h:=by
 obtain ⟨mods,data,ty,nm,⟨ka,kb,kc⟩⟩:=a
 obtain ⟨hn,hm,ht,ha,hk⟩:=hi
 dsimp only at hn hm ht ha hk
 obtain ⟨q,hq⟩ : ∃ q,Adr.check ⟨mods,data,ty,nm,⟨ka,kb,kc⟩⟩ = q:=⟨_,rfl⟩
 rw [hq]
 unfold Adr.check at hq
 dsimp only at hq
 refine pcall ?_ rfl (by simp [A.pure,A.data,Adr.Ad.cells]) h
 refine fo ?_
 dsimp only [Adr.Ad.cells]
 have lm : (mods.map Adr.Step.cells).length = mods.length:=List.length_map _
 by_cases h16 : 16 < mods.length
 ·have e1 : (mods.length : Int) > 16:=by omega
  rw [if_pos h16] at hq
  subst hq
  refine runx0 (ai lm e1) ti ?_
  exact ⟨_,le_refl _,rfl⟩
 have e1 : ¬ (mods.length : Int) > 16:=by omega
 rw [if_neg h16] at hq
 refine runx0 (ai lm e1) ti ?_
 refine awp_loop (fun m ts hh => hh = ⟨[.cells 284 [.sl 4 .no (mods.map Adr.Step.cells),.bool data,.str ty,.str nm,.int .i64 ka,.int .i64 kb,.str kc]],[]⟩ ∧ ∃ j : Nat,m = mods.length - j ∧ j ≤ mods.length ∧ (mods.drop j).find? (fun s => !(Adr.ident s.name && Adr.keyOk s.key)) = mods.find? (fun s => !(Adr.ident s.name && Adr.keyOk s.key)) ∧ (ts 1 = .ptr 0 0 ∧ ts 3 = .int .i64 (j : Nat))) mods.length ?_ ?_
 ·exact ⟨rfl,0,rfl,Nat.zero_le _,rfl,by (exact inv0 ti)⟩
 rintro m ts hh ⟨rfl,j,rfl,hj,hfd,hu⟩
 rcases Nat.lt_or_ge j mods.length with hlt | hge
 ·have hf:=row_at6 Adr.Step.cells mods j hlt (by omega)
  have hmj:=hm _ (List.getElem_mem hlt)
  rw [List.drop_eq_getElem_cons hlt,List.find?_cons] at hfd
  obtain ⟨x,hx⟩ : ∃ x,mods[j] = x:=⟨_,rfl⟩
  rw [hx] at hf hmj hfd
  obtain ⟨xn,⟨ja,jb,jc⟩⟩:=x
  dsimp only [Adr.Step.cells] at hf hmj hfd
  have ci:=a_r6ident xn hmj.1
  have ck:=a_r6Key ⟨ja,jb,jc⟩ hmj.2
  dsimp only at ck
  cases hI : Adr.ident xn with
  | false =>
   rw [hI] at ci hfd
   simp only [Bool.false_and,Bool.not_false] at hfd
   rw [← hfd] at hq
   dsimp only at hq
   rw [if_neg (by rw [hI]; decide)] at hq
   subst hq
   refine runx0 (ai hu hf) (ai ci ti) ?_
   exact ⟨_,le_refl _,rfl⟩
  | true =>
  rw [hI] at ci hfd
  cases hK : Adr.keyOk ⟨ja,jb,jc⟩ with
  | false =>
   rw [hK] at ck hfd
   simp only [Bool.and_false,Bool.not_false] at hfd
   rw [← hfd] at hq
   dsimp only at hq
   rw [if_pos hI] at hq
   subst hq
   refine runx0 (ai hu hf) (ai ci (ai ck ti)) ?_
   exact ⟨_,le_refl _,rfl⟩
  | true =>
   rw [hK] at ck hfd
   simp only [Bool.and_true,Bool.not_true] at hfd
   refine runx0 (ai hu hf) (ai ci (ai ck ti)) ?_
   exact ⟨_,by omega,rfl,j + 1,rfl,by omega,hfd,by (exact inv0 (ai hu hf))⟩
 ·have hf:=ai lm (show ¬ (j : Int) < (mods.length : Int) by omega)
  rw [List.drop_of_length_le hge] at hfd
  rw [← hfd] at hq
  simp only [List.find?_nil] at hq
  have ci:=a_r6ident ty ht
  have cr:=a_r6res ty
  have ci2:=a_r6ident nm ha
  have ck:=a_r6Key ⟨ka,kb,kc⟩ hk
  dsimp only at ck
  have hkb : Adr.kindB ty = (!Adr.reserved ty && Adr.ident ty):=rfl
  rw [hkb] at hq
  cases hI : Adr.ident ty with
  | false =>
   rw [hI] at ci hq
   simp only [Bool.and_false,Bool.not_false,Bool.true_or,if_true] at hq
   subst hq
   refine runx0 (ai hu hf) (ai ci ti) ?_
   exact ⟨_,le_refl _,rfl⟩
  | true =>
  rw [hI] at ci hq
  cases hR : Adr.reserved ty with
  | true =>
   rw [hR] at cr hq
   simp only [Bool.not_true,Bool.false_and,Bool.not_false,Bool.true_or,if_true] at hq
   subst hq
   refine runx0 (ai hu hf) (ai ci (ai cr ti)) ?_
   exact ⟨_,le_refl _,rfl⟩
  | false =>
  rw [hR] at cr hq
  cases hN : Adr.ident nm with
  | false =>
   rw [hN] at ci2 hq
   simp only [Bool.not_false,Bool.true_and,Bool.not_true,Bool.false_or,if_true] at hq
   subst hq
   refine runx0 (ai hu hf) (ai ci (ai cr (ai ci2 ti))) ?_
   exact ⟨_,le_refl _,rfl⟩
  | true =>
  rw [hN] at ci2 hq
  simp only [Bool.not_false,Bool.true_and,Bool.not_true,Bool.false_or,Bool.false_eq_true,if_false] at hq
  cases hK : Adr.keyOk ⟨ka,kb,kc⟩ with
  | false =>
   rw [hK] at ck hq
   simp only [Bool.not_false,if_true] at hq
   subst hq
   refine runx0 (ai hu hf) (ai ci (ai cr (ai ci2 (ai ck ti)))) ?_
   exact ⟨_,le_refl _,rfl⟩
  | true =>
   rw [hK] at ck hq
   simp only [Bool.not_true,Bool.false_eq_true,if_false] at hq
   subst hq
   refine runx0 (ai hu hf) (ai ci (ai cr (ai ci2 (ai ck ti)))) ?_
   exact ⟨_,le_refl _,rfl⟩
theorem a_r6bare (a : Adr.Ad) (hn : a.mods.length ≤ 3000000) (h : Hp) : ACall Tryz.prog GT 353 [.agg a.cells] h fun r h' => r = .agg (Adr.bare a).cells ∧ h' = h:=by
 obtain ⟨mods,data,ty,nm,⟨ka,kb,kc⟩⟩:=a
 dsimp only at hn
 refine pcall ?_ (by simp [A.pure,A.data,Adr.Ad.cells]) (by simp [A.pure,A.data,Adr.Ad.cells]) h
 refine fo ?_
 dsimp only [Adr.Ad.cells,Adr.bare,Adr.K.none]
 have lm : (mods.map Adr.Step.cells).length = mods.length:=List.length_map _
 refine runx0 lm ti ?_
 refine awp_loop (fun m ts hh => ∃ (j W : Nat) (o : Own) (t : List (TypeId × Nat × Nat)),m = mods.length - j ∧ j ≤ mods.length ∧
  hh = ⟨[.cells 284 [.sl 4 .no (mods.map Adr.Step.cells),.bool data,.str ty,.str nm,.int .i64 ka,.int .i64 kb,.str kc],.cells 284 [.sl 0 .nil [],.bool false,.str [],.str [],.int .i64 0,.int .i64 0,.str []],.cells 284 [.sl W o (((mods.take j).map fun s => (⟨s.name,Adr.K.none⟩ : Adr.Step)).map Adr.Step.cells),.bool data,.str ty,.str nm,.int .i64 0,.int .i64 0,.str []]],t⟩ ∧
  Gs 321 4 0 ⟨[],t⟩ (((mods.take j).map fun s => (⟨s.name,Adr.K.none⟩ : Adr.Step)).map Adr.Step.cells) (.sl W o (((mods.take j).map fun s => (⟨s.name,Adr.K.none⟩ : Adr.Step)).map Adr.Step.cells)) ∧ (ts 1 = .ptr 0 0 ∧ ts 2 = .ptr 1 0 ∧ ts 3 = .ptr 2 0 ∧ ts 4 = .int .i64 (j : Nat))) mods.length ?_ ?_
 ·exact ⟨0,0,.nil,[],rfl,Nat.zero_le _,rfl,.inl ⟨rfl,rfl⟩,by (exact inv0 ti)⟩
 rintro m ts hh ⟨j,W,o,t,rfl,hj,rfl,gX,hu⟩
 rcases Nat.lt_or_ge j mods.length with hlt | hge
 ·have hf:=row_at6 Adr.Step.cells mods j hlt (by omega)
  have htk:=List.take_succ_eq_append_getElem hlt
  obtain ⟨x,hx⟩ : ∃ x,mods[j] = x:=⟨_,rfl⟩
  rw [hx] at hf htk
  obtain ⟨xn,⟨ja,jb,jc⟩⟩:=x
  dsimp only [Adr.Step.cells] at hf
  have hrow : ((mods.take (j + 1)).map fun s => (⟨s.name,Adr.K.none⟩ : Adr.Step)).map Adr.Step.cells = ((mods.take j).map fun s => (⟨s.name,Adr.K.none⟩ : Adr.Step)).map Adr.Step.cells ++ [[.str xn,.int .i64 0,.int .i64 0,.str []]]:=by
   rw [htk,List.map_append,List.map_append]; rfl
  have hrl : (((mods.take j).map fun s => (⟨s.name,Adr.K.none⟩ : Adr.Step)).map Adr.Step.cells).length + 1 ≤ 1000000000:=by
   rw [List.length_map,List.length_map,List.length_take]; omega
  obtain ⟨W',o',t',hX,gX',_⟩:=gX.grow 48 [.str xn,.int .i64 0,.int .i64 0,.str []] hrl (by decide)
  rw [← hrow] at gX'
  simp only [← hrow] at hX
  refine runx0 (ai hu (ai hf hX)) ti ?_
  exact ⟨_,by omega,j + 1,W',o',t',rfl,by omega,rfl,gX',by (exact inv0 (ai hu hf))⟩
 ·have hf:=ai lm (show ¬ (j : Int) < (mods.length : Int) by omega)
  rw [List.take_of_length_le hge] at gX ⊢
  refine runx0 (ai hu hf) ti ?_
  exact ⟨.agg [.sl 4 .no ((mods.map fun s => (⟨s.name,Adr.K.none⟩ : Adr.Step)).map Adr.Step.cells),.bool data,.str ty,.str nm,.int .i64 0,.int .i64 0,.str []],⟨gX.le,rfl,rfl,rfl,rfl,rfl,rfl,trivial⟩,rfl⟩
theorem a_r6steps (mods : List Adr.Step) (hn : mods.length ≤ 16) (hm : ∀ s ∈ mods,s.name.length ≤ 2000000) (hk : ∀ s ∈ mods,s.key = Adr.K.none) (h : Hp) : ACall Tryz.prog GT 373 [.sl 4 .no (mods.map Adr.Step.cells)] h fun r h' => r = .str (mods.flatMap stepB) ∧ h' = h:=by
 refine pcall ?_ rfl (by simp [A.pure,A.data]) h
 refine fo ?_
 have cf:=a_r6fmtkey0
 refine runx0 ti ti ?_
 refine awp_loop (fun m ts hh => hh = ⟨[],[]⟩ ∧ ∃ j : Nat,m = mods.length - j ∧ j ≤ mods.length ∧ (ts 0 = .sl 4 .no (mods.map Adr.Step.cells) ∧ ts 3 = .str ((mods.take j).flatMap stepB) ∧ ts 4 = .int .i64 (j : Nat))) mods.length ?_ ?_
 ·exact ⟨rfl,0,rfl,Nat.zero_le _,by (exact inv0 ti)⟩
 rintro m ts hh ⟨rfl,j,rfl,hj,hu⟩
 rcases Nat.lt_or_ge j mods.length with hlt | hge
 ·have hf:=row_at6 Adr.Step.cells mods j hlt (by omega)
  have hmj:=hm _ (List.getElem_mem hlt)
  have hkj:=hk _ (List.getElem_mem hlt)
  have hsn:=fm_snoc' stepB mods j hlt
  have hacc : ((mods.take j).flatMap stepB).length ≤ 32000128:=by
   have h2 : (mods.take j).length ≤ 16:=by rw [List.length_take]; omega
   exact Nat.le_trans (fm_len16 (mods.take j) fun s hs => hm s (List.mem_of_mem_take hs)) (Nat.le_trans (Nat.mul_le_mul_right 2000008 h2) (by decide))
  obtain ⟨x,hx⟩ : ∃ x,mods[j] = x:=⟨_,rfl⟩
  rw [hx] at hf hmj hkj hsn
  obtain ⟨xn,xk⟩:=x
  dsimp only at hkj hmj
  subst hkj
  dsimp only [Adr.Step.cells,Adr.K.none] at hf
  obtain ⟨P,hP⟩ : ∃ P,(mods.take j).flatMap stepB = P:=⟨_,rfl⟩
  rw [hP] at hu hsn hacc
  have l1 : P.length + 7 < 1099511627776 ∧ P.length + 7 + xn.length < 1099511627776 ∧ P.length + 7 + xn.length + 1 < 1099511627776 ∧ P.length + (7 + xn.length) < 1099511627776 ∧ P.length + (7 + xn.length) + 1 < 1099511627776 ∧ P.length + (xn.length + 7) < 1099511627776 ∧ P.length + (xn.length + 7) + 1 < 1099511627776 ∧ P.length + 7 + xn.length + 0 < 1099511627776:=⟨by omega,by omega,by omega,by omega,by omega,by omega,by omega,by omega⟩
  refine runx0 (ai hu (ai hf l1)) (ai cf ti) ?_
  refine ⟨_,by omega,rfl,j + 1,rfl,by omega,?_⟩
  have e : P ++ [109,111,100,117,108,101,46] ++ xn ++ [46] = (mods.take (j + 1)).flatMap stepB:=by
   rw [hsn]
   unfold stepB
   simp [Adr.modW]
  (exact inv0 (ai hu (ai hf e)))
 ·have hf:=ai (show (mods.map Adr.Step.cells).length = mods.length from List.length_map _) (show ¬ (j : Int) < (mods.length : Int) by omega)
  rw [List.take_of_length_le hge] at hu
  refine runx0 (ai hu hf) ti ?_
  exact ⟨_,le_refl _,rfl⟩
theorem a_r6format0 (a : Adr.Ad) (hi : Adr.In a) (hk : ∀ s ∈ a.mods,s.key = Adr.K.none) (hkk : a.key = Adr.K.none) (h : Hp) : ACall Tryz.prog GT 352 [.agg a.cells] h fun r h' => r = .str (Adr.fmt a) ∧ h' = h:=by
 have cc:=fun h => a_r6check a hi h
 obtain ⟨mods,data,ty,nm,key⟩:=a
 dsimp only at hk hkk
 subst hkk
 have hfb:=fmt_bare mods data ty nm hk
 obtain ⟨hn,hm,ht,ha,_⟩:=hi
 dsimp only at hn hm ht ha
 refine pcall ?_ rfl (by simp [A.pure,A.data,Adr.Ad.cells]) h
 refine fo ?_
 dsimp only [Adr.Ad.cells,Adr.K.none] at cc ⊢
 by_cases hc0 : Adr.check ⟨mods,data,ty,nm,Adr.K.none⟩ = 0
 rotate_left
 ·have e1 : (Adr.check ⟨mods,data,ty,nm,Adr.K.none⟩ != 0) = true:=by simp [hc0]
  have hfz : Adr.fmt ⟨mods,data,ty,nm,Adr.K.none⟩ = []:=by unfold Adr.fmt; rw [if_pos hc0]
  unfold Adr.K.none at e1 hfz
  refine runx0 e1 (ai cc ti) ?_
  exact ⟨_,le_refl _,by rw [hfz]; rfl⟩
 have e1 : (Adr.check ⟨mods,data,ty,nm,Adr.K.none⟩ != 0) = false:=by simp [hc0]
 have hf:=hfb hc0
 have hn16 : mods.length ≤ 16:=by
  rcases Nat.lt_or_ge 16 mods.length with h16 | h16
  ·unfold Adr.check at hc0
   rw [if_pos h16] at hc0
   exact absurd hc0 (by decide)
  ·exact h16
 have hlenall:=fm_len16 mods fun s hs => (hm s hs).1
 have cs:=a_r6steps mods hn16 (fun s hs => (hm s hs).1) hk
 have cf:=a_r6fmtkey0
 unfold Adr.K.none at e1 hf
 rw [hf]
 obtain ⟨P,hP⟩ : ∃ P,mods.flatMap stepB = P:=⟨_,rfl⟩
 rw [hP] at cs hlenall ⊢
 have hPl : P.length ≤ 32000128:=Nat.le_trans hlenall (Nat.le_trans (Nat.mul_le_mul_right 2000008 hn16) (by decide))
 cases data with
 | false =>
  have l1 : P.length + ty.length < 1099511627776 ∧ P.length + ty.length + 1 < 1099511627776 ∧ P.length + ty.length + 1 + nm.length < 1099511627776 ∧ P.length + (ty.length + 1) < 1099511627776 ∧ P.length + (ty.length + 1) + nm.length < 1099511627776 ∧ P.length + (ty.length + (1 + nm.length)) < 1099511627776:=⟨by omega,by omega,by omega,by omega,by omega,by omega⟩
  refine runx0 (ai e1 l1) (ai cc (ai cs (ai cf ti))) ?_
  exact ⟨_,le_refl _,by simp [tupA_1]⟩
 | true =>
  have l1 : P.length + 5 < 1099511627776 ∧ P.length + 5 + ty.length < 1099511627776 ∧ P.length + 5 + ty.length + 1 < 1099511627776 ∧ P.length + 5 + ty.length + 1 + nm.length < 1099511627776:=⟨by omega,by omega,by omega,by omega⟩
  refine runx0 (ai e1 l1) (ai cc (ai cs (ai cf ti))) ?_
  exact ⟨_,le_refl _,by simp [tupA_1,Adr.dataW]⟩
theorem a_r6static (s : List UInt8) (hl : s.length ≤ 2000000) (hin : Adr.In (Adr.bare (Adr.parse s).1)) (h : Hp) : ACall Tryz.prog GT 325 [.str s] h fun r h' => r = .tup [.str (Adr.static s).1,.int .i64 (Adr.static s).2] ∧ h' = h:=by
 have cp:=a_r6parse s hl
 have cb:=a_r6bare (Adr.parse s).1 (by have:=hin.n; simpa [Adr.bare] using this)
 have cf:=a_r6format0 (Adr.bare (Adr.parse s).1) hin (fun x hx => by
  simp only [Adr.bare,List.mem_map] at hx
  obtain ⟨y,_,rfl⟩:=hx
  rfl) rfl
 refine pcall ?_ rfl (by simp [A.pure,A.data]) h
 refine fo ?_
 unfold Adr.static
 obtain ⟨⟨⟨mods,data,ty,nm,⟨ka,kb,kc⟩⟩,e⟩,hP⟩ : ∃ p,Adr.parse s = p:=⟨_,rfl⟩
 rw [hP] at cp cb cf ⊢
 dsimp only [Adr.Ad.cells] at cp cb cf ⊢
 obtain ⟨F,hF⟩ : ∃ F,Adr.fmt (Adr.bare ⟨mods,data,ty,nm,⟨ka,kb,kc⟩⟩) = F:=⟨_,rfl⟩
 rw [hF] at cf ⊢
 dsimp only [Adr.bare,Adr.K.none] at cb cf
 by_cases he : e = 0
 ·subst he
  refine runx0 ti (ai cp (ai cb (ai cf ti))) ?_
  exact ⟨_,le_refl _,rfl⟩
 ·have e1 : (e != 0) = true:=by simp [he]
  rw [if_pos he]
  refine runx0 e1 (ai cp ti) ?_
  exact ⟨_,le_refl _,rfl⟩
end AX
end Go.Proofs.YtknnodgbhpbgjaaGreatDoor
