/- Part of what the proof needs. -/
import Derived.Test.YteklhoajalgehaaGreatDoorMFrJournalBeginsUptoN
import Derived.Test.YteklhoajalgehaaGreatDoorMFrJournalBeginsUptoO
import Derived.Test.YteklhoajalgehaaGreatDoorMFrJournalBeginsUptoQ
import Derived.Test.YteklhoajalgehaaGreatDoorMFrJournalBeginsUptoR
set_option maxHeartbeats 4000000
set_option linter.unusedSimpArgs false
set_option linter.unusedVariables false
set_option linter.unnecessarySimpa false
namespace Go.Proofs.YteklhoajalgehaaGreatDoor
open Go.RowKit
namespace AX
def gate (b : Bool) (v : A) : Option (A × Option EH):=bif b then (match fR v with | some v => some (v,none) | none => none) else none
theorem gate_ok {b : Bool} {v v' : A} {oh : Option EH} (h : gate b v = some (v',oh)) : b = true ∧ v' = v ∧ oh = none:=by
 unfold gate at h
 cases b with
 | false => cases h
 | true =>
  simp only [cond_true] at h
  split at h
  ·next e => injection h with h; injection h with h1 h2; exact ⟨rfl,by rw [← h1,fR_ok _ _ e],h2.symm⟩
  ·cases h
abbrev Bs:=List UInt8
def eS {tab : Tab} (f : FuncId) (b : Bs → Bool) (r : Bs → A) (ok : ∀ s,b s = true → ∀ h,ACall Tryz.prog GT f [.str s] h fun v h' => v = r s ∧ h' = h) : Ent Tryz.prog GT tab where
 f:=f
 run avs h:=match avs with
  | [.str s] => gate (b s) (r s)
  | _ => none
 ok avs h v oh e:=by
  split at e
  ·obtain ⟨h1,rfl,rfl⟩:=gate_ok e
   exact ok _ h1 _
  ·cases e
def eSI {tab : Tab} (f : FuncId) (b : Bs → Int → Bool) (r : Bs → Int → A) (ok : ∀ s n,b s n = true → ∀ h,ACall Tryz.prog GT f [.str s,.int .i64 n] h fun v h' => v = r s n ∧ h' = h) : Ent Tryz.prog GT tab where
 f:=f
 run avs h:=match avs with
  | [.str s,.int .i64 n] => gate (b s n) (r s n)
  | _ => none
 ok avs h v oh e:=by
  split at e
  ·obtain ⟨h1,rfl,rfl⟩:=gate_ok e
   exact ok _ _ h1 _
  ·cases e
theorem fS_ok {l m : Bs} (e : mapO fU l = some m) : m = l:=mapO_id fU_ok e
def libP {tab : Tab} : List (Ent Tryz.prog GT tab):=[
 eS 85 (fun s => s.length.ble 2000000) (fun s => .bool (Str.valid s)) (fun s e h => a_valid s (Nat.le_of_ble_eq_true e) h),
 eS 278 (fun _ => true) (fun s => .int .i64 (Val.textZ s)) (fun s _ h => a_vtext s h),
 eSI 187 (fun s n => s.length.ble 1000000000 && decide (-9223372036854775808 ≤ n ∧ n ≤ 9223372036854775807)) (fun s n => .str (s ++ Wire.num n)) (fun s n e h => by
  rw [Bool.and_eq_true,decide_eq_true_eq] at e
  exact a_appendNumber s n (Nat.le_of_ble_eq_true e.1) e.2.1 e.2.2 h),
 eS 120 (fun s => s.length.ble 1000000000) (fun s => .str (Crc.app s)) (fun s e h => a_csAppend s (Nat.le_of_ble_eq_true e) h),
 eS 96 (fun s => s.length.ble 1000000000) (fun s => .tup [.str (Crc.ver s).1,.int .i64 (Crc.ver s).2]) (fun s e h => a_csVerify s (Nat.le_of_ble_eq_true e) h)]
end AX
def LWtr (B b : Nat) (l : List UInt8) (w : World) : Prop:=
 B ≤ b ∧ ∃ p v,(p = .pointer none ∨ p = .pointer (some ⟨b,0,none⟩)) ∧ w.heap[b]? = some (.cells #[p,v] 175 (0,0)) ∧ w.ownsRowF B 5 1 v l.length (Lib.byteCells l) ∧ v.ownBlock ≠ some b
def LWtrU (B b : Nat) (l : List UInt8) (w : World) : Prop:=
 B ≤ b ∧ ∃ v,w.heap[b]? = some (.cells #[.pointer (some ⟨b,0,none⟩),v] 175 (0,0)) ∧ w.ownsRowF B 5 1 v l.length (Lib.byteCells l) ∧ v.ownBlock ≠ some b
theorem LWtrU.lwtr {B b : Nat} {l : List UInt8} {w : World} (h : LWtrU B b l w) : LWtr B b l w:=by
 obtain ⟨h1,v,h2,h3⟩:=h
 exact ⟨h1,_,v,.inr rfl,h2,h3⟩
set_option maxRecDepth 100000 in
theorem lwtr_fresh (b : Nat) (w : World) (h0 : w.cell? ⟨b,0,none⟩ = some (.pointer none)) (hsh : w.shape? b = some (175,2)) (hfz : w.frozen? ⟨b,0,none⟩ = false) :
  Calls Tryz.prog 194 #[.pointer (some ⟨b,0,none⟩)] w fun e w' => e = .returned (.tuple #[]) ∧ w' = w.setCell ⟨b,0,none⟩ (.pointer (some ⟨b,0,none⟩)):=by
 obtain ⟨j,hj,hjs⟩:=Option.map_eq_some_iff.1 (show (Tryz.prog.info? 173).map (·.size) = some 2 by kernel_rfl)
 have hlies : liesAt Tryz.prog Tryz.prog.depth 175 (2 / Tryz.prog.cellsOf 175) 0 173 1 = true:=by kernel_rfl
 go_enter Tryz.func194,Tryz.ntmps194
 go_wp2
 rw [Lib.run_to_unsafe w ⟨b,0,none⟩ Tryz.underlying170 Tryz.underlying284 hj (by rw [hjs]; decide) hsh (by show 0 < 2; omega)]
 simp only [Result.andThen]
 rw [Oper.upon_value]
 go_wp2
 rw [run_callFunc_extern Tryz.func247 (by kernel_rfl) (by kernel_rfl) (by kernel_rfl) (e:=Extern.AbiNoEscape.same) (by kernel_rfl)]
 rw [Lib.run_noEscape]
 simp only [Result.andThen]
 rw [Oper.upon_value]
 go_wp2
 rw [Lib.run_from_unsafe w ⟨b,0,none⟩ Tryz.underlying284 Tryz.underlying170 hj hsh hlies]
 simp only [Result.andThen]
 rw [Oper.upon_value]
 go_wp2
 go_end0
 exact ⟨rfl,rfl⟩
theorem LWtr.used {B b : Nat} {l : List UInt8} {w : World} {p v : Value} (hB : B ≤ b) (hb : w.heap[b]? = some (.cells #[p,v] 175 (0,0))) (hown : w.ownsRowF B 5 1 v l.length (Lib.byteCells l)) (hne : v.ownBlock ≠ some b) :
  LWtrU B b l (w.setCell ⟨b,0,none⟩ (.pointer (some ⟨b,0,none⟩))):=by
 refine ⟨hB,v,?_,?_,hne⟩
 ·simp [World.setCell,Array.getElem?_modify,hb]
 ·exact hown.kept (row:=some b) ⟨rfl,rfl,rfl,by simp [World.setCell],fun k _ hk => Below.heap_setCell _ _ _ _ (fun e => hk (by simp [e]))⟩ (Or.inr hne)
theorem lwtr_len {B b : Nat} {l : List UInt8} {w : World} (h : LWtr B b l w) :
  Calls Tryz.prog 123 #[.pointer (some ⟨b,0,none⟩)] w fun e w' => e = .returned (.int .i64 l.length) ∧ w' = w:=by
 obtain ⟨hB,p,v,hp,hb,hown,hne⟩:=h
 obtain ⟨c0,c1,hf,hsh,hlt⟩:=cell_row2 hb
 obtain ⟨ao,cap,rfl⟩ : ∃ ao cap,v = .slice ao l.length cap:=by
  rcases hown.2 with ⟨hv,h0⟩ | ⟨g,cap,cur,fz,hv,_⟩
  ·exact ⟨none,0,by rw [hv,h0]⟩
  ·exact ⟨_,_,hv⟩
 clear hown hp hne hb
 go_enter Tryz.func123,Tryz.ntmps123
 go_wp2
 go_ret
 exact ⟨rfl,rfl⟩
def LF (F : Nat → Prop) (b : Nat) (l : List UInt8) (w : World) : Prop:=
 ∃ p v,(p = .pointer none ∨ p = .pointer (some ⟨b,0,none⟩)) ∧ w.heap[b]? = some (.cells #[p,v] 175 (0,0)) ∧ w.ownsRowF 0 5 1 v l.length (Lib.byteCells l) ∧ v.ownBlock ≠ some b ∧ F b ∧ ∀ k,v.ownBlock = some k → F k
theorem LF.lwtr {F : Nat → Prop} {b : Nat} {l : List UInt8} {w : World} (h : LF F b l w) : LWtr 0 b l w:=by
 obtain ⟨p,v,hp,hb,hown,hne,_⟩:=h
 exact ⟨Nat.zero_le _,p,v,hp,hb,hown,hne⟩
theorem lf_check {F : Nat → Prop} {b : Nat} {l : List UInt8} {w : World} (h : LF F b l w) :
  Calls Tryz.prog 194 #[.pointer (some ⟨b,0,none⟩)] w fun e w' => e = .returned (.tuple #[]) ∧ (∃ v,w'.heap[b]? = some (.cells #[.pointer (some ⟨b,0,none⟩),v] 175 (0,0)) ∧ w'.ownsRowF 0 5 1 v l.length (Lib.byteCells l) ∧ v.ownBlock ≠ some b ∧ F b ∧ ∀ k,v.ownBlock = some k → F k) ∧ Fr F w w':=by
 obtain ⟨p,v,hp,hb,hown,hne,hF,hFk⟩:=h
 obtain ⟨c0,c1,hf,hsh,hlt⟩:=cell_row2 hb
 rcases hp with rfl | rfl
 ·refine (lwtr_fresh b w c0 hsh (hf 0)).mono ?_
  rintro e w' ⟨rfl,rfl⟩
  obtain ⟨_,v',hb',hown',hne'⟩:=LWtr.used (B:=0) (Nat.zero_le _) hb hown hne
  have hv : v' = v:=by
   have:=(cell_row2 hb').2.1
   have h2 : (w.setCell ⟨b,0,none⟩ (.pointer (some ⟨b,0,none⟩))).heap[b]? = some (.cells #[.pointer (some ⟨b,0,none⟩),v] 175 (0,0)):=by simp [World.setCell,Array.getElem?_modify,hb]
   have h3:=(cell_row2 h2).2.1
   rw [h3] at this; injection this with this; exact this.symm
  subst hv
  exact ⟨rfl,⟨v',hb',hown',hne',hF,hFk⟩,Fr.set w b 0 _ hF⟩
 ·refine (Any.Builder_copyCheck_used Tryz.lays240 Tryz.Builder_X72_240 b w c0).mono ?_
  rintro e w' ⟨rfl,rfl⟩
  exact ⟨rfl,⟨v,hb,hown,hne,hF,hFk⟩,Fr.refl F _⟩
set_option maxRecDepth 100000 in
theorem lf_write {F : Nat → Prop} {b : Nat} {l : List UInt8} {w : World} (h : LF F b l w) (s : List UInt8) (hlen : l.length + s.length ≤ 1000000000) :
  Calls Tryz.prog 124 #[.pointer (some ⟨b,0,none⟩),.string ⟨s.toArray⟩] w fun e w' => e = .returned (.tuple #[.int .i64 s.length,.nilIface]) ∧ LF (fun k => F k ∨ w.heap.size ≤ k) b (l ++ s) w' ∧ Fr F w w':=by
 obtain ⟨i0,hi,hz0,hz1,hz2⟩:=info_parts info_byte
 go_enter Tryz.func124,Tryz.ntmps124
 go_wp2_with fail
 (with_reducible refine (lf_check h).mono ?_)
 rintro e w1 ⟨rfl,⟨v,hbk,hown,hne,hF,hFk⟩,hb1⟩
 obtain ⟨c0,c1,hf,hsh,hlt⟩:=cell_row2 hbk
 go_wp2_with (at_builtin; refine wpList_append_F _ rfl _ _ 171 9 rfl 5 i0 Tryz.underlying171 Tryz.underlying9 hi hz0 hz1 hz2 _ _ _ rfl hown ⟨s.toArray⟩ rfl ?c3 ?c4 ?_)
 case c3 => rw [size_mk]; unfold maxLen; omega
 case c4 => rw [size_mk]; omega
 intro v' w2 hown' hgrow hwhere
 have hb2 : w2.heap[b]? = some (.cells #[.pointer (some ⟨b,0,none⟩),v] 175 (0,0)):=(hgrow.block b hlt (fun e => hne e.symm)).trans hbk
 obtain ⟨d0,d1,hf2,_,hlt2⟩:=cell_row2 hb2
 have f1:=hf2 1
 have hown2 : w2.ownsRowF 0 5 1 v' (l ++ s).length (Lib.byteCells (l ++ s)):=by
  have e1 : (⟨s.toArray⟩ : ByteArray).size = s.length:=size_mk s
  have e2 : Lib.byteCells l ++ Lib.strCells ⟨s.toArray⟩ = Lib.byteCells (l ++ s):=by unfold Lib.strCells Lib.byteCells; simp
  rw [List.length_append,← e2,← e1]; exact hown'
 have hne2:=Lib.ownBlock_neF hown2 hb2 (show 175 ≠ 5 by decide)
 have hwb1:=hb1.size
 have Hfin:=kept (show LF (fun k => F k ∨ w.heap.size ≤ k) b (l ++ s) (w2.setCell ⟨b,1,none⟩ v') from by
  refine ⟨_,v',.inr rfl,?_,?_,hne2,.inl hF,fun k hk => ?_⟩
  ·simp [World.setCell,Array.getElem?_modify,hb2]
  ·exact hown2.kept (row:=some b) ⟨rfl,rfl,rfl,by simp [World.setCell],fun k _ hk => Below.heap_setCell _ _ _ _ (fun e => hk (by simp [e]))⟩ (Or.inr hne2)
  ·rcases hwhere k hk with h1 | h1
   ·exact .inl (hFk k h1)
   ·exact .inr (by omega))
 have Hfr:=kept ((hb1.trans (Fr.grown hgrow fun k hk => hFk k hk)).trans (Fr.set w2 b 1 v' hF))
 obtain ⟨ao,n',cap,rfl⟩ : ∃ ao n' cap,v' = .slice ao n' cap:=by
  rcases hown'.2 with ⟨hv,_⟩ | ⟨g,cap,cur,fz,hv,_⟩
  ·exact ⟨_,_,_,hv⟩
  ·exact ⟨_,_,_,hv⟩
 clear hown' hown2 hne2 hb2 hbk hown hne hgrow hb1 h hwhere
 go_wp2
 go_ret2
 exact ⟨by simp,Hfin.out,Hfr.out⟩
set_option maxRecDepth 100000 in
theorem lf_string {F : Nat → Prop} {b : Nat} {l : List UInt8} {w : World} (h : LF F b l w) (h0 : l ≠ []) :
  Calls Tryz.prog 125 #[.pointer (some ⟨b,0,none⟩)] w fun e w' => e = .returned (.string ⟨l.toArray⟩) ∧ Fr F w w':=by
 obtain ⟨p,v,hp,hbk,hown,hne,hFb,hFk⟩:=h
 have hl0 : l.length ≠ 0:=by simpa using h0
 obtain ⟨g,cap,cur,fz,rfl,hbg,hg,hfz,hnc,hcm,hcs,htake⟩ : ∃ g cap cur fz,v = .slice (some ⟨g,0,none⟩) l.length cap ∧ 0 ≤ g ∧ w.heap[g]? = some (.cells cur 5 fz) ∧ fz.2 ≤ l.length * 1 ∧ l.length ≤ cap ∧ cap ≤ maxLen ∧ cur.size = cap * 1 ∧ cur.toList.take (l.length * 1) = Lib.byteCells l:=by
  rcases hown.2 with ⟨_,hz⟩ | ⟨g,cap,cur,fz,hv,r⟩
  ·exact absurd hz hl0
  ·exact ⟨g,cap,cur,fz,hv,r⟩
 have HFg:=kept (hFk g rfl)
 have c1 : w.drew.cell? ⟨b,1,none⟩ = some (.slice (some ⟨g,0,none⟩) l.length cap):=(cell_row2 hbk).2.1
 have hSD : (Builtin.unsafeSliceData_ #[171] 235 #[.slice (some ⟨g,0,none⟩) l.length cap]).run Tryz.prog w.drew = .ok (.pointer (some ⟨g,0,none⟩)) w.drew:=
  Lib.run_unsafeSliceData_row _ _ _ _ _ _ (by omega)
 have hUS : (Builtin.unsafeString_ #[235,3] 9 #[.pointer (some ⟨g,0,none⟩),.int .i64 l.length]).run Tryz.prog w.drew = .ok (.string ⟨l.toArray⟩) (w.drew.freeze ⟨g,0,none⟩ l.length):=by
  refine Lib.run_unsafeString_row w.drew 235 3 9 5 Tryz.underlying235 Tryz.Builder_Extra_169.cellsByte g cur.size (by have hg' : w.drew.heap[g]? = some (.cells cur 5 fz):=hg; simp [World.shape?,hg']) l h0 (by omega) (by unfold maxLen at hcm; omega) ?_
  intro j x hx
  have:=hown.cells (g:=g) rfl j (.int .u8 x.toNat) (by simp [Lib.byteCells,hx])
  exact this
 have Hfr:=kept (show Fr F w (w.drew.freeze ⟨g,0,none⟩ l.length) from by
  unfold World.freeze
  split
  ·exact ⟨rfl,rfl,rfl,Nat.le_refl _,fun _ _ _ => rfl⟩
  ·refine ⟨rfl,rfl,rfl,by simp,fun k hk hn => ?_⟩
   have hkg : k ≠ g:=fun e => hn (by rw [e]; exact HFg.out)
   simp only [Array.getElem?_modify,if_neg hkg.symm]; rfl)
 clear hown hp hne hbk hnc hcm hcs htake hfz hg hl0 h0 hFk hFb
 have mixed:=Tryz.lays169.mixed
 go_enter Tryz.func125,Tryz.ntmps125
 go_wp2
 go_region_o
 all_goals (go_wp2; go_ret; exact ⟨rfl,Hfr.out⟩)
namespace AX
def lwt (l : List UInt8) : Blk:=.opq (fun F g w => LF F g l w) (fun _ => none)
def Lt (h : Hp) (i : Nat) (l : List UInt8) : Prop:=h.b[i]? = some (lwt l) ∨ (l = [] ∧ h.b[i]? = some (.cells 175 [.nilp,.sl 0 .nil []]))
theorem LF.stable {F : Nat → Prop} {b : Nat} {l : List UInt8} {w w' : World} (h : LF F b l w) (hs : ∀ g,F g → w'.heap[g]? = w.heap[g]?) : LF F b l w':=by
 obtain ⟨p,v,hp,hb,hown,hne,hF,hFk⟩:=h
 refine ⟨p,v,hp,(hs b hF).trans hb,⟨hown.1,?_⟩,hne,hF,hFk⟩
 rcases hown.2 with h1 | ⟨g,cap,cur,fz,rfl,h2,h3,h4⟩
 ·exact .inl h1
 ·exact .inr ⟨g,cap,cur,fz,rfl,h2,(hs g (hFk g rfl)).trans h3,h4⟩
theorem Lt.lt {h : Hp} {i : Nat} {l : List UInt8} (hw : Lt h i l) : i < h.b.length:=by
 rcases hw with h1 | ⟨_,h1⟩
 ·exact (List.getElem?_eq_some_iff.1 h1).1
 ·exact (List.getElem?_eq_some_iff.1 h1).1
theorem Lt.lf {h : Hp} {i : Nat} {l : List UInt8} {C : Ctx} {G : World → Prop} (hw : Lt h i l) (hI : Inv G C h) : LF (fun g => C.own g = some i) (C.κ i) l C.w:=by
 have hi : i < C.nb:=by rw [← hI.nb]; exact hw.lt
 rcases hw with h1 | ⟨rfl,h1⟩
 ·exact (hI.box i _ h1).1 C.w (fun _ _ => rfl) (Nat.le_refl _)
 ·obtain ⟨cs,k1,k2⟩:=hI.box i _ h1
  obtain ⟨c0,d0,rfl,e0,k2⟩:=repL_cons.1 k2
  obtain ⟨c1,d1,rfl,e1,k2⟩:=repL_cons.1 k2
  rw [repL_nil] at k2; subst k2
  rw [rep_nilp] at e0; subst e0
  obtain ⟨a,cap,rfl,_,_,e3,e4,_⟩:=rep_sl.1 e1
  subst e3; subst e4
  exact ⟨_,_,.inl rfl,k1,⟨rfl,.inl ⟨rfl,rfl⟩⟩,by simp [Value.ownBlock],hI.ownk i hi,fun k hk => by simp [Value.ownBlock] at hk⟩
theorem lwtr_rep {C : Ctx} {i : Nat} {l : List UInt8} (h : LF (fun g => C.own g = some i) (C.κ i) l C.w) : BlkRep C i (lwt l):=by
 refine ⟨fun w' hw _ => LF.stable h hw,fun o x hx => ?_⟩
 cases hx
theorem a_lwrite {h : Hp} {i : Nat} {l : List UInt8} (hw : Lt h i l) (s : List UInt8) (hlen : l.length + s.length ≤ 1000000000) :
  ACall Tryz.prog GT 124 [.ptr i 0,.str s] h fun v h' => v = .tup [.int .i64 s.length,.nili] ∧ h' = ⟨h.b.set i (lwt (l ++ s)),h.t⟩:=by
 intro C es hI ha
 obtain ⟨c,es',rfl,h1,h2⟩:=repL_cons.1 ha
 obtain ⟨rfl,hi⟩:=rep_ptr.1 h1
 obtain rfl:=args1 r_str C es' h2
 refine (lf_write (hw.lf hI) s hlen).mono ?_
 rintro e w' ⟨rfl,m1,m2⟩
 have hrep : BlkRep (C.turn w' i true) i (lwt (l ++ s)):=by
  refine lwtr_rep ?_
  obtain ⟨p,v,hp,hb,hown,hne,hF,hFk⟩:=m1
  have hlt:=(cell_row2 hb).2.2.2.2
  have hcl : ∀ k,k < w'.heap.size → (C.own k = some i ∨ C.w.heap.size ≤ k) → (C.turn w' i true).own k = some i:=fun k hk hor => by
   show (if k < C.w.heap.size then C.own k else if true = true ∧ k < w'.heap.size then some i else none) = some i
   split
   ·rcases hor with h3 | h3
    ·exact h3
    ·omega
   ·rw [if_pos ⟨rfl,hk⟩]
  refine ⟨p,v,hp,hb,hown,hne,hcl _ hlt hF,fun k hk => hcl k ?_ (hFk k hk)⟩
  rcases hown.2 with ⟨rfl,_⟩ | ⟨g,cap,cur,fz,rfl,_,h3,_⟩
  ·simp [Value.ownBlock] at hk
  ·simp only [Value.ownBlock,Option.some.injEq] at hk; subst hk
   exact (Array.getElem?_eq_some_iff.1 h3).1
 obtain ⟨i1,s1⟩:=box_turn (b':=lwt (l ++ s)) true hI hi m2.os m2.tape m2.output m2.size (fun g hg hne => m2.block g hg hne) (fun _ => hrep)
 exact ⟨_,_,.tup [.int .i64 s.length,.nili],_,rfl,rfl,i1,s1,rep_tup.2 ⟨_,rfl,repL_cons.2 ⟨_,_,rfl,rep_int.2 rfl,repL_cons.2 ⟨_,_,rfl,rep_nili.2 rfl,repL_nil.2 rfl⟩⟩⟩,rfl,rfl⟩
theorem a_llen {h : Hp} {i : Nat} {l : List UInt8} (hw : Lt h i l) : ACall Tryz.prog GT 123 [.ptr i 0] h fun v h' => v = .int .i64 l.length ∧ h' = h:=by
 intro C es hI ha
 obtain ⟨c,es',rfl,h1,h2⟩:=repL_cons.1 ha
 obtain ⟨rfl,hi⟩:=rep_ptr.1 h1
 rw [repL_nil] at h2; subst h2
 refine (lwtr_len (hw.lf hI).lwtr).mono ?_
 rintro e w' ⟨rfl,rfl⟩
 exact ⟨C,h,_,_,rfl,rfl,hI,Step.refl C,rep_int.2 rfl,rfl,rfl⟩
theorem a_lstring {h : Hp} {i : Nat} {l : List UInt8} (hw : Lt h i l) (h0 : l ≠ []) : ACall Tryz.prog GT 125 [.ptr i 0] h fun v h' => v = .str l ∧ h' = ⟨h.b.set i dead,h.t⟩:=by
 intro C es hI ha
 obtain ⟨c,es',rfl,h1,h2⟩:=repL_cons.1 ha
 obtain ⟨rfl,hi⟩:=rep_ptr.1 h1
 rw [repL_nil] at h2; subst h2
 refine (lf_string (hw.lf hI) h0).mono ?_
 rintro e w' ⟨rfl,m2⟩
 obtain ⟨i1,s1⟩:=box_turn (b':=dead) false hI hi m2.os m2.tape m2.output m2.size (fun g hg hne => m2.block g hg hne) (fun _ => ⟨fun _ _ _ => trivial,fun o x hx => by cases hx⟩)
 exact ⟨_,_,.str l,_,rfl,rfl,i1,s1,rep_str.2 rfl,rfl,rfl⟩
def tabL : Tab:=fun k d =>
 match k,d with
 | 3,.str l => lwt l
 | _,_ => dead
abbrev EntL:=Ent Tryz.prog GT tabL
def turnL (h : EH) (i : Nat) (k : Nat) (d : A) (v : A) : Option (A × Option EH):=
 match setO h.b i (.obj k d),fR v with
 | some b,some v => some (v,some ⟨b,h.t⟩)
 | _,_ => none
theorem turnL_ok {h : EH} {i k : Nat} {d v v' : A} {oh : Option EH} (e : turnL h i k d v = some (v',oh)) : v' = v ∧ (oh.getD h).abs tabL = ⟨(h.abs tabL).b.set i (tabL k d),(h.abs tabL).t⟩:=by
 unfold turnL at e
 split at e
 ·next b v1 e1 e2 =>
  injection e with e; injection e with h1 h2; subst h1; subst h2
  exact ⟨fR_ok _ _ e2,abs_set e1⟩
 ·cases e
def lxE (h : EH) (i : Nat) : Option Bs:=
 match h.b[i]? with
 | some (.obj k (.str l)) => bif k.beq 3 then some l else none
 | some (.cells T [.nilp,.sl 0 .nil []]) => bif Nat.beq T 175 then some [] else none
 | _ => none
theorem lxE_ok {h : EH} {i : Nat} {l : Bs} (e : lxE h i = some l) : Lt (h.abs tabL) i l:=by
 unfold lxE at e
 split at e
 ·next k l' hb =>
  cases hk : k.beq 3 with
  | false => rw [hk] at e; cases e
  | true =>
   rw [hk] at e
   injection e with e; subst e
   have:=beq_iff.1 hk; subst this
   exact .inl (abs_get hb)
 ·next T hb =>
  cases hk : Nat.beq T 175 with
  | false => rw [hk] at e; cases e
  | true =>
   rw [hk] at e
   injection e with e; subst e
   have:=beq_iff.1 hk; subst this
   exact .inr ⟨rfl,abs_get hb⟩
 ·cases e
def eLWrite : EntL where
 f:=124
 run avs h:=match avs with
  | [.ptr i 0,.str s] => (match lxE h i with
   | some l => bif (l.length + s.length).ble 1000000000 then (match mapO fU (l ++ s) with | some m => turnL h i 3 (.str m) (.tup [.int .i64 s.length,.nili]) | none => none) else none
   | none => none)
  | _ => none
 ok avs h v oh e:=by
  split at e
  ·next i s =>
   split at e
   ·next l hw =>
    cases hb : (l.length + s.length).ble 1000000000 with
    | false => rw [hb] at e; cases e
    | true =>
     rw [hb] at e
     simp only [cond_true] at e
     split at e
     ·next m hm =>
      obtain ⟨rfl,h2⟩:=turnL_ok e
      rw [h2,fS_ok hm]
      exact a_lwrite (lxE_ok hw) s (Nat.le_of_ble_eq_true hb)
     ·cases e
   ·cases e
  ·cases e
def eLLen : EntL where
 f:=123
 run avs h:=match avs with
  | [.ptr i 0] => (match lxE h i with
   | some l => gate true (.int .i64 l.length)
   | none => none)
  | _ => none
 ok avs h v oh e:=by
  split at e
  ·split at e
   ·next hw =>
    obtain ⟨_,rfl,rfl⟩:=gate_ok e
    exact a_llen (lxE_ok hw)
   ·cases e
  ·cases e
def eLStr : EntL where
 f:=125
 run avs h:=match avs with
  | [.ptr i 0] => (match lxE h i with
   | some l => bif l.isEmpty then none else turnL h i 2 .nilp (.str l)
   | none => none)
  | _ => none
 ok avs h v oh e:=by
  split at e
  ·split at e
   ·next l hw =>
    cases hl : l.isEmpty with
    | true => rw [hl] at e; cases e
    | false =>
     rw [hl] at e
     obtain ⟨rfl,h2⟩:=turnL_ok e
     rw [h2]
     exact a_lstring (lxE_ok hw) (by intro h0; rw [h0] at hl; cases hl)
   ·cases e
  ·cases e
def eClS : EntL where
 f:=195
 run avs h:=match avs with
  | [.sl W0 o []] => gate true (.sl 1 .no [])
  | _ => none
 ok avs h v oh e:=by
  split at e
  ·obtain ⟨_,rfl,rfl⟩:=gate_ok e
   exact a_clone_strs0 _ _ _
  ·cases e
def eClP : EntL where
 f:=128
 run avs h:=match avs with
  | [.sl W0 o []] => gate true (.sl 3 .no [])
  | _ => none
 ok avs h v oh e:=by
  split at e
  ·obtain ⟨_,rfl,rfl⟩:=gate_ok e
   exact a_clone_pend0 _ _ _
  ·cases e
def libL : List EntL:=eLWrite :: eLLen :: eLStr :: eClS :: eClP :: libP
theorem aw35 (h : Hp) : ACall Tryz.prog GT 30 [] h fun r h' => r = .bool true ∧ h' = h:=
 pcall (eval (tab:=tabL) mixedT libL [98,64] 100000 (h:=⟨[],[]⟩) (by kernel_rfl)) rfl rfl h
theorem w_beginsX (x : Jrs) (k : ((∀ a ∈ x.l,a.Wf) ∧ x.l.length ≤ maxLen) ∧ x.bulkD ≤ 1048576) (n : Int) (kn : (Lit.int .u8 n).wf = true) :
  ACall Tryz.prog GT 4 [.sl 26 .no (x.l.map Jr.cells),.int .u8 n] ⟨[],[]⟩ fun r _ => r = .bool true:=by
 have hf:=jrs_fit x k
 have k2:=wf_u8 kn
 exact w_begins0 aw35 x.l hf.1 hf.2 n k2.1 (by omega)
end AX
end Go.Proofs.YteklhoajalgehaaGreatDoor
