/- Part of what the proof needs. -/
import Derived.Test.YtnjkemakcejceaaGreatDoorMFrStoreNobodyC
import Derived.Test.YtnjkemakcejceaaGreatDoorMFrStoreNobodyD
import Derived.Test.YtnjkemakcejceaaGreatDoorMFrStoreNobodyG
import Derived.Test.YtnjkemakcejceaaGreatDoorProg
import Derived.KernelRfl
import Derived.Test.YtnjkemakcejceaaGreatDoorCards
import Derived.Test.YtnjkemakcejceaaGreatDoorTie
import Derived.ProofKit
import Derived.OpenShut
import Derived.ShutString
import Derived.ChangeOld
import Derived.Below
import Derived.Deep.DeepHandedRow
import Derived.Lib.LaidU8
import Derived.MakeChecks
import Derived.Shelf.Unicode.DecodeSlow
set_option linter.unusedSimpArgs false
set_option linter.unusedVariables false
set_option linter.unnecessarySimpa false
namespace Go.Proofs.YtnjkemakcejceaaGreatDoor
open Go.RowKit
def strsA (l : List (List UInt8)) : List (List AX.A) := l.map fun s => [.str s]
mutual
def V.cells : V → List AX.A
 | .mk k n s is ks => [.int .i64 k, .int .i64 n, .str s, .sl 5 .no (V.cellss is), .sl 1 .no (strsA ks)]
def V.cellss : List V → List (List AX.A)
 | [] => []
 | v :: l => v.cells :: V.cellss l
end
def V.A (v : V) : AX.A := .agg v.cells
theorem V.cellss_map : ∀ l : List V, V.cellss l = l.map V.cells
 | [] => rfl
 | v :: l => by rw [V.cellss, V.cellss_map l]; rfl
theorem V.cellss_length (l : List V) : (V.cellss l).length = l.length := by rw [V.cellss_map]; simp
theorem strsA_length (l : List (List UInt8)) : (strsA l).length = l.length := by simp [strsA]
theorem strsA_get (l : List (List UInt8)) (i : Nat) (h : i < l.length) : (strsA l).getD i [] = [.str l[i]] := by simp [strsA, List.getD, h]
theorem V.cellss_get (l : List V) (i : Nat) (h : i < l.length) : (V.cellss l).getD i [] = l[i].cells := by rw [V.cellss_map]; simp [List.getD, h]
theorem V.pure (v : V) : v.A.pure = true := by cases v; unfold V.A V.cells; rfl
mutual
def V.lens : V → Prop
 | .mk k n s is ks => is.length ≤ maxLen ∧ ks.length ≤ maxLen ∧ s.length ≤ maxLen ∧ (∀ q ∈ ks, q.length ≤ maxLen) ∧ V.lensS is
def V.lensS : List V → Prop
 | [] => True
 | v :: l => v.lens ∧ V.lensS l
end
theorem V.lensS_mem : ∀ {l : List V}, V.lensS l → ∀ x ∈ l, x.lens
 | [], _ => by simp
 | v :: l, h => by
  unfold V.lensS at h
  exact List.forall_mem_cons.2 ⟨h.1, V.lensS_mem h.2⟩
theorem V.lens_mk {k n : Int} {s : List UInt8} {is : List V} {ks : List (List UInt8)} (h : (V.mk k n s is ks).lens) : is.length ≤ 9223372036854775807 ∧ ks.length ≤ 9223372036854775807 ∧ s.length ≤ 9223372036854775807 ∧ (∀ x ∈ is, x.lens) := by
 unfold V.lens at h
 simp only [maxLen] at h
 exact ⟨by omega, by omega, by omega, V.lensS_mem h.2.2.2.2⟩
def IfaceAt (g : Nat) (w : World) : Prop := ∃ ev, w.cell? ⟨g, 0, none⟩ = some ev ∧ (ev = .nilIface ∨ ∃ te pe, ev = .iface te pe)
structure GT (w : World) : Prop where
 tabs : Lib.Utf8Tabs 0 1 w
 esyn : IfaceAt 3 w
 erng : IfaceAt 4 w
 tz : w.cell? ⟨7, 15, none⟩ = some (.int .u8 4)
namespace AX
theorem mixedT : Tryz.prog.follows Departure.mixedOrders = true := by kernel_rfl
theorem args1 {x : A} {v : Value} (h : ∀ C c, Rep C x c → c = v) : ∀ C cs, RepL C [x] cs → cs = [v] := fun C cs hr => by
 obtain ⟨c, cs', rfl, h1, h2⟩ := repL_cons.1 hr
 rw [repL_nil] at h2; subst h2
 rw [h C c h1]
theorem args2 {x y : A} {v u : Value} (h : ∀ C c, Rep C x c → c = v) (h' : ∀ C c, Rep C y c → c = u) : ∀ C cs, RepL C [x, y] cs → cs = [v, u] := fun C cs hr => by
 obtain ⟨c, cs', rfl, h1, h2⟩ := repL_cons.1 hr
 rw [args1 h' C cs' h2, h C c h1]
theorem r_str {l : List UInt8} : ∀ C c, Rep C (.str l) c → c = .string ⟨l.toArray⟩ := fun C c h => rep_str.1 h
theorem r_int {k : IntKind} {n : Int} : ∀ C c, Rep C (.int k n) c → c = .int k n := fun C c h => rep_int.1 h
theorem a_valid (s : List UInt8) (hl : s.length ≤ 2000000) (h : Hp) : ACall Tryz.prog GT 74 [.str s] h fun v h' => v = .bool (Str.valid s) ∧ h' = h :=
 acall_imp (args1 r_str) (fun w hg => valid_any ⟨s.toArray⟩ w (by rw [size_mk]; exact hl) hg.tabs) (fun C => rep_bool.2 rfl) h
theorem a_vtext (s : List UInt8) (h : Hp) : ACall Tryz.prog GT 153 [.str s] h fun v h' => v = .int .i64 (Val.textZ s) ∧ h' = h :=
 acall_imp (args1 r_str) (fun w hg => text_any s w hg.tabs) (fun C => rep_int.2 rfl) h
theorem a_nvalid (n : Int) (h : Hp) : ACall Tryz.prog GT 151 [.int .i64 n] h fun v h' => v = .bool (decide (-9007199254740992 ≤ n ∧ n ≤ 9007199254740992)) ∧ h' = h :=
 acall_imp (args1 r_int) (fun w hg => (numValid_any n w).mono fun e w' ⟨h1, h2⟩ => ⟨h1, by rw [h2]; exact Below.refl _ _⟩) (fun C => rep_bool.2 rfl) h
theorem a_appendNumber (dst : List UInt8) (n : Int) (hd : dst.length ≤ 1000000000) (h0 : -9223372036854775808 ≤ n) (h1 : n ≤ 9223372036854775807) (h : Hp) : ACall Tryz.prog GT 163 [.str dst, .int .i64 n] h fun v h' => v = .str (dst ++ Wire.num n) ∧ h' = h :=
 acall_imp (args2 r_str r_int) (fun w hg => appendNumber_any dst n w hd h0 h1) (fun C => rep_str.2 rfl) h
theorem a_shaped (k n : Int) (s : List UInt8) (o o' : Own) (W W' : Nat) (rs rs' : List (List A)) (h : Hp) : ACall Tryz.prog GT 152 [.agg [.int .i64 k, .int .i64 n, .str s, .sl W o rs, .sl W' o' rs']] h fun v h' => v = .bool (Val.shapedB k n s rs.length rs'.length) ∧ h' = h := by
 intro C cs hI ha
 obtain ⟨c, cs', rfl, h1, h2⟩ := repL_cons.1 ha
 rw [repL_nil] at h2; subst h2
 obtain ⟨ds, rfl, h3⟩ := rep_agg.1 h1
 obtain ⟨c0, d0, rfl, e0, h3⟩ := repL_cons.1 h3
 obtain ⟨c1, d1, rfl, e1, h3⟩ := repL_cons.1 h3
 obtain ⟨c2, d2, rfl, e2, h3⟩ := repL_cons.1 h3
 obtain ⟨c3, d3, rfl, e3, h3⟩ := repL_cons.1 h3
 obtain ⟨c4, d4, rfl, e4, h3⟩ := repL_cons.1 h3
 rw [repL_nil] at h3; subst h3
 rw [rep_int] at e0 e1; rw [rep_str] at e2; subst e0; subst e1; subst e2
 obtain ⟨a, ca, rfl, _⟩ := rep_sl.1 e3
 obtain ⟨b, cb, rfl, _⟩ := rep_sl.1 e4
 refine (shaped_any k n s a b rs.length ca rs'.length cb C.w).mono ?_
 rintro e w' ⟨rfl, hb⟩
 obtain ⟨i1, s1⟩ := inv_below hI hb
 exact ⟨C.at w', h, _, _, rfl, rfl, i1, s1, rep_bool.2 rfl, rfl, rfl⟩
def rdr (r : Wire.St) : Blk := .cells 152 [.str r.rest, .int .i64 r.e, .bool true]
theorem rdr_l {r : Wire.St} : ∀ C es, RepL C [.str r.rest, .int .i64 r.e, .bool true] es → es = [.string ⟨r.rest.toArray⟩, .int .i64 r.e, .bool true] := fun C es h => by
 obtain ⟨c0, d0, rfl, e0, h⟩ := repL_cons.1 h
 obtain ⟨c1, d1, rfl, e1, h⟩ := repL_cons.1 h
 obtain ⟨c2, d2, rfl, e2, h⟩ := repL_cons.1 h
 rw [repL_nil] at h; subst h
 rw [rep_str.1 e0, rep_int.1 e1, rep_bool.1 e2]
theorem rdr_l' {r : Wire.St} (C : Ctx) : RepL C [.str r.rest, .int .i64 r.e, .bool true] [.string ⟨r.rest.toArray⟩, .int .i64 r.e, .bool true] :=
 repL_cons.2 ⟨_, _, rfl, rep_str.2 rfl, repL_cons.2 ⟨_, _, rfl, rep_int.2 rfl, repL_cons.2 ⟨_, _, rfl, rep_bool.2 rfl, repL_nil.2 rfl⟩⟩⟩
theorem a_rdr {f : FuncId} {extra : List A} {ecs : List Value} {v : A} {cv : Value} {r r' : Wire.St} (hargs : ∀ C es, RepL C extra es → es = ecs) (hv : ∀ C, Rep C v cv)
  (hc : ∀ g w, Rdr w g r → Calls Tryz.prog f (.pointer (some ⟨g, 0, none⟩) :: ecs).toArray w fun e w' => e = .returned cv ∧ Rdr w' g r' ∧ w.grownBy w' (some g)) {h : Hp} {i : Nat} (hb : h.b[i]? = some (rdr r)) :
  ACall Tryz.prog GT f (.ptr i 0 :: extra) h fun v' h' => v' = v ∧ h' = ⟨h.b.set i (rdr r'), h.t⟩ :=
 acall_box hargs rdr_l rdr_l' hv (fun w g hw => hc g w hw) hb
theorem args0 : ∀ C es, RepL C [] es → es = [] := fun C es h => repL_nil.1 h
theorem a_number {h : Hp} {i : Nat} {r : Wire.St} (hb : h.b[i]? = some (rdr r)) (hl : r.rest.length ≤ 100000000) : ACall Tryz.prog GT 51 [.ptr i 0] h fun v h' => v = .int .i64 (Wire.numR r).2 ∧ h' = ⟨h.b.set i (rdr (Wire.numR r).1), h.t⟩ :=
 a_rdr args0 (fun C => rep_int.2 rfl) (fun g w hw => number_any g r w hw hl) hb
theorem a_rstring {h : Hp} {i : Nat} {r : Wire.St} (hb : h.b[i]? = some (rdr r)) (hl : r.rest.length ≤ 100000000) : ACall Tryz.prog GT 96 [.ptr i 0] h fun v h' => v = .str (Wire.strR r).2 ∧ h' = ⟨h.b.set i (rdr (Wire.strR r).1), h.t⟩ :=
 a_rdr args0 (fun C => rep_str.2 rfl) (fun g w hw => string_any g r w hw hl) hb
theorem a_count {h : Hp} {i : Nat} {r : Wire.St} (hb : h.b[i]? = some (rdr r)) (hl : r.rest.length ≤ 100000000) : ACall Tryz.prog GT 97 [.ptr i 0, .int .i64 1] h fun v h' => v = .int .i64 ((Wire.cntR r 1).2 : Nat) ∧ h' = ⟨h.b.set i (rdr (Wire.cntR r 1).1), h.t⟩ :=
 a_rdr (args1 r_int) (fun C => rep_int.2 rfl) (fun g w hw => count_any g r w hw hl) hb
theorem set_self {h : Hp} {i : Nat} {b : Blk} (hb : h.b[i]? = some b) : (⟨h.b.set i b, h.t⟩ : Hp) = h := by
 have hi : i < h.b.length := (List.getElem?_eq_some_iff.1 hb).1
 have : h.b.set i b = h.b := by
  apply List.ext_getElem?
  intro j
  rw [List.getElem?_set]
  by_cases e : i = j
  ·subst e; rw [if_pos rfl, if_pos hi, hb]
  ·rw [if_neg e]
 rw [this]
theorem a_left {h : Hp} {i : Nat} {r : Wire.St} (hb : h.b[i]? = some (rdr r)) : ACall Tryz.prog GT 54 [.ptr i 0] h fun v h' => v = .int .i64 r.rest.length ∧ h' = h := by
 have := a_rdr (v := .int .i64 r.rest.length) (r' := r) args0 (fun C => rep_int.2 rfl) (fun g w hw => (left_any g r w hw).mono fun e w' ⟨h1, h2⟩ => ⟨h1, by rw [h2]; exact hw, by rw [h2]; exact grown_refl w _⟩) hb
 rw [set_self hb] at this; exact this
theorem a_err {h : Hp} {i : Nat} {r : Wire.St} (hb : h.b[i]? = some (rdr r)) : ACall Tryz.prog GT 83 [.ptr i 0] h fun v h' => v = .int .i64 r.e ∧ h' = h := by
 have := a_rdr (v := .int .i64 r.e) (r' := r) args0 (fun C => rep_int.2 rfl) (fun g w hw => (err_any g r w hw).mono fun e w' ⟨h1, h2⟩ => ⟨h1, by rw [h2]; exact hw, by rw [h2]; exact grown_refl w _⟩) hb
 rw [set_self hb] at this; exact this
def wtr (ver : Int) (l : List UInt8) : Blk := .opq (fun F g w => WF F g ver l w) (fun o => if o = 2 then some (.int .i64 ver) else none)
def dead : Blk := .opq (fun _ _ _ => True) (fun _ => none)
def Wt (h : Hp) (i : Nat) (ver : Int) (l : List UInt8) : Prop := h.b[i]? = some (wtr ver l) ∨ (l = [] ∧ h.b[i]? = some (.cells 142 [.nilp, .sl 0 .nil [], .int .i64 ver]))
theorem WF.stable {F : Nat → Prop} {b : Nat} {ver : Int} {l : List UInt8} {w w' : World} (h : WF F b ver l w) (hs : ∀ g, F g → w'.heap[g]? = w.heap[g]?) : WF F b ver l w' := by
 obtain ⟨p, v, hp, hb, hown, hne, hF, hFk⟩ := h
 refine ⟨p, v, hp, (hs b hF).trans hb, ⟨hown.1, ?_⟩, hne, hF, hFk⟩
 rcases hown.2 with h1 | ⟨g, cap, cur, fz, rfl, h2, h3, h4⟩
 ·exact .inl h1
 ·exact .inr ⟨g, cap, cur, fz, rfl, h2, (hs g (hFk g rfl)).trans h3, h4⟩
theorem Wt.lt {h : Hp} {i : Nat} {ver : Int} {l : List UInt8} (hw : Wt h i ver l) : i < h.b.length := by
 rcases hw with h1 | ⟨_, h1⟩
 ·exact (List.getElem?_eq_some_iff.1 h1).1
 ·exact (List.getElem?_eq_some_iff.1 h1).1
theorem Wt.wf {h : Hp} {i : Nat} {ver : Int} {l : List UInt8} {C : Ctx} {G : World → Prop} (hw : Wt h i ver l) (hI : Inv G C h) : WF (fun g => C.own g = some i) (C.κ i) ver l C.w := by
 have hi : i < C.nb := by rw [← hI.nb]; exact hw.lt
 rcases hw with h1 | ⟨rfl, h1⟩
 ·exact (hI.box i _ h1).1 C.w (fun _ _ => rfl) (Nat.le_refl _)
 ·obtain ⟨cs, k1, k2⟩ := hI.box i _ h1
  obtain ⟨c0, d0, rfl, e0, k2⟩ := repL_cons.1 k2
  obtain ⟨c1, d1, rfl, e1, k2⟩ := repL_cons.1 k2
  obtain ⟨c2, d2, rfl, e2, k2⟩ := repL_cons.1 k2
  rw [repL_nil] at k2; subst k2
  rw [rep_nilp] at e0; rw [rep_int] at e2; subst e0; subst e2
  obtain ⟨a, cap, rfl, _, _, e3, e4, _⟩ := rep_sl.1 e1
  subst e3; subst e4
  exact ⟨_, _, .inl rfl, k1, ⟨rfl, .inl ⟨rfl, rfl⟩⟩, by simp [Value.ownBlock], hI.ownk i hi, fun k hk => by simp [Value.ownBlock] at hk⟩
theorem wtr_rep {C : Ctx} {i : Nat} {ver : Int} {l : List UInt8} (h : WF (fun g => C.own g = some i) (C.κ i) ver l C.w) : BlkRep C i (wtr ver l) := by
 refine ⟨fun w' hw _ => WF.stable h hw, fun o x hx => ?_⟩
 have hx' : (if o = 2 then some (A.int .i64 ver) else none) = some x := hx
 split at hx'
 ·next e =>
  injection hx' with hx'; subst hx'; subst e
  obtain ⟨p, v, hp, hb, _⟩ := h
  exact ⟨_, (cell_row3 hb).2.2.1, rep_int.2 rfl⟩
 ·cases hx'
theorem a_write {h : Hp} {i : Nat} {ver : Int} {l : List UInt8} (hw : Wt h i ver l) (s : List UInt8) (hlen : l.length + s.length ≤ 1000000000) :
  ACall Tryz.prog GT 129 [.ptr i 0, .str s] h fun v h' => v = .tup [.int .i64 s.length, .nili] ∧ h' = ⟨h.b.set i (wtr ver (l ++ s)), h.t⟩ := by
 intro C es hI ha
 obtain ⟨c, es', rfl, h1, h2⟩ := repL_cons.1 ha
 obtain ⟨rfl, hi⟩ := rep_ptr.1 h1
 obtain rfl := args1 r_str C es' h2
 refine (wf_write (hw.wf hI) s hlen).mono ?_
 rintro e w' ⟨rfl, m1, m2⟩
 have hrep : BlkRep (C.turn w' i true) i (wtr ver (l ++ s)) := by
  refine wtr_rep ?_
  obtain ⟨p, v, hp, hb, hown, hne, hF, hFk⟩ := m1
  have hlt := (cell_row3 hb).2.2.2.2.2
  have hcl : ∀ k, k < w'.heap.size → (C.own k = some i ∨ C.w.heap.size ≤ k) → (C.turn w' i true).own k = some i := fun k hk hor => by
   show (if k < C.w.heap.size then C.own k else if true = true ∧ k < w'.heap.size then some i else none) = some i
   split
   ·rcases hor with h3 | h3
    ·exact h3
    ·omega
   ·rw [if_pos ⟨rfl, hk⟩]
  refine ⟨p, v, hp, hb, hown, hne, hcl _ hlt hF, fun k hk => hcl k ?_ (hFk k hk)⟩
  rcases hown.2 with ⟨rfl, _⟩ | ⟨g, cap, cur, fz, rfl, _, h3, _⟩
  ·simp [Value.ownBlock] at hk
  ·simp only [Value.ownBlock, Option.some.injEq] at hk; subst hk
   exact (Array.getElem?_eq_some_iff.1 h3).1
 obtain ⟨i1, s1⟩ := box_turn (b' := wtr ver (l ++ s)) true hI hi m2.os m2.tape m2.output m2.size (fun g hg hne => m2.block g hg hne) (fun _ => hrep)
 exact ⟨_, _, .tup [.int .i64 s.length, .nili], _, rfl, rfl, i1, s1, rep_tup.2 ⟨_, rfl, repL_cons.2 ⟨_, _, rfl, rep_int.2 rfl, repL_cons.2 ⟨_, _, rfl, rep_nili.2 rfl, repL_nil.2 rfl⟩⟩⟩, rfl, rfl⟩
theorem a_wlen {h : Hp} {i : Nat} {ver : Int} {l : List UInt8} (hw : Wt h i ver l) : ACall Tryz.prog GT 87 [.ptr i 0] h fun v h' => v = .int .i64 l.length ∧ h' = h := by
 intro C es hI ha
 obtain ⟨c, es', rfl, h1, h2⟩ := repL_cons.1 ha
 obtain ⟨rfl, hi⟩ := rep_ptr.1 h1
 rw [repL_nil] at h2; subst h2
 refine (wtr_len (hw.wf hI).wtr).mono ?_
 rintro e w' ⟨rfl, rfl⟩
 exact ⟨C, h, _, _, rfl, rfl, hI, Step.refl C, rep_int.2 rfl, rfl, rfl⟩
theorem a_wstring {h : Hp} {i : Nat} {ver : Int} {l : List UInt8} (hw : Wt h i ver l) (h0 : l ≠ []) : ACall Tryz.prog GT 85 [.ptr i 0] h fun v h' => v = .str l ∧ h' = ⟨h.b.set i dead, h.t⟩ := by
 intro C es hI ha
 obtain ⟨c, es', rfl, h1, h2⟩ := repL_cons.1 ha
 obtain ⟨rfl, hi⟩ := rep_ptr.1 h1
 rw [repL_nil] at h2; subst h2
 refine (wf_string (hw.wf hI) h0).mono ?_
 rintro e w' ⟨rfl, m2⟩
 obtain ⟨i1, s1⟩ := box_turn (b' := dead) false hI hi m2.os m2.tape m2.output m2.size (fun g hg hne => m2.block g hg hne) (fun _ => ⟨fun _ _ _ => trivial, fun o x hx => by cases hx⟩)
 exact ⟨_, _, .str l, _, rfl, rfl, i1, s1, rep_str.2 rfl, rfl, rfl⟩
end AX
end Go.Proofs.YtnjkemakcejceaaGreatDoor

namespace Go.Proofs.YtnjkemakcejceaaGreatDoor
open Go.ChangeShapes Go.WideShapes Go.ChangeAt Go.RowKit
namespace Card
theorem own : ownKnob Tryz.prog.godebug = none := by kernel_rfl
theorem first_eq : Go.Pinned.utf8First = Lib.firstData := by kernel_rfl
theorem accept_eq : (Rows.laid_unicode_utf8_acceptRanges : DataW Unit) = Lib.acceptData := by kernel_rfl
theorem tz_name : Tryz.prog.globalNamed "math/bits.deBruijn64tab" = some 7 := by kernel_rfl
theorem tz_type : (Tryz.prog.globals[7]?).map (·.type) = some 287 := by kernel_rfl
theorem tz_cells : Tryz.prog.cellsOf 287 = 64 := by kernel_rfl
theorem tz_cell : Tryz.prog.cellsOf 5 = 1 := by kernel_rfl
def tab64 : List Int := [0, 1, 56, 2, 57, 49, 28, 3, 61, 58, 42, 50, 38, 29, 17, 4, 62, 47, 59, 36, 45, 43, 51, 22, 53, 39, 33, 30, 24, 18, 12, 5, 63, 55, 48, 27, 60, 41, 37, 16, 46, 35, 44, 21, 52, 32, 23, 11, 54, 26, 40, 15, 34, 20, 31, 10, 25, 14, 19, 9, 13, 8, 7, 6]
theorem tab64_eq : (Rows.laid_math_bits_deBruijn64tab : DataW Unit) = Lib.tabData .u8 tab64 := by kernel_rfl
theorem iface_reads {P : Program} {w : World} {n : String} {g : Nat} {t : TypeId} {d : DataW Unit} {m : Array (String × TypeId)} (hg : P.globalNamed n = some g) (ht : (P.globals[g]?).map (·.type) = some t) (hu : P.underlying t = some (.interface m)) (h : Lib.VarReads P w n d) : IfaceAt g w := by
 obtain ⟨g', t', cs, fuel, p, h1, h2, h3, h4⟩ := h
 rw [hg] at h1; injection h1 with h1; subst h1
 rw [ht] at h2; injection h2 with h2; subst h2
 have hc := World.var?_cell hg h3 0
 obtain ⟨l⟩ := cs
 cases fuel with
 | zero => simp [DataW.trod] at h4
 | succ k =>
  match l, hc with
  | [], _ => simp [DataW.trod, hu] at h4
  | [.nilIface], hc => exact ⟨_, hc, .inl rfl⟩
  | [.iface u v], hc => exact ⟨_, hc, .inr ⟨u, v, rfl⟩⟩
  | v :: x :: l, _ => cases v <;> simp [DataW.trod, hu] at h4
  | [v], hc => cases v <;> first | exact ⟨_, hc, .inl rfl⟩ | exact ⟨_, hc, .inr ⟨_, _, rfl⟩⟩ | simp [DataW.trod, hu] at h4
theorem tz_of {W : World} (r3 : Lib.VarReads Tryz.prog W "math/bits.deBruijn64tab" (Lib.tabData .u8 tab64)) : W.cell? ⟨7, 15, none⟩ = some (.int .u8 4) := by
 obtain ⟨g, t, cs, fuel, p, hg, hty, hvar, hd⟩ := r3
 obtain rfl := Option.some.inj (tz_name.symm.trans hg)
 obtain rfl := Option.some.inj (tz_type.symm.trans hty)
 have hcs := Lib.cells_of_tab Tryz.underlying287 Tryz.underlying5 tz_cell tz_cells hd
 have := World.var?_cell hg hvar 15
 rw [this, ← Array.getElem?_toList, hcs]
 rfl
theorem gt_of {W : World} (h : laidMetH Tryz.prog Rows.storeNobodyRow.laid W) : GT W := by
 have hL : laidMet Tryz.prog Rows.storeNobodyRow.laid W := by
  have e := Go.MakeChecks.laidMetH_plain Tryz.prog Rows.storeNobodyRow.laid W (by kernel_rfl)
  rwa [e] at h
 have r1 : Lib.VarReads Tryz.prog W "unicode/utf8.first" Lib.firstData := by
  rw [← first_eq]; exact Lib.laidMet.reads hL (.tail _ (.tail _ (.tail _ (.tail _ (.tail _ (.tail _ (.head _)))))))
 have r2 : Lib.VarReads Tryz.prog W "unicode/utf8.acceptRanges" Lib.acceptData := by
  rw [← accept_eq]; exact Lib.laidMet.reads hL (.tail _ (.tail _ (.tail _ (.head _))))
 exact ⟨utf8Tabs_of_reads (ρ := Tryz.lays260_ren) Tryz.lays260 ⟨by kernel_rfl, by kernel_rfl, by kernel_rfl, by kernel_rfl, by kernel_rfl, by kernel_rfl, by kernel_rfl⟩ r1 r2,
  iface_reads (by kernel_rfl) (by kernel_rfl) Tryz.underlying181 (Lib.laidMet.reads hL (.tail _ (.tail _ (.tail _ (.tail _ (.tail _ (.head _))))))), iface_reads (by kernel_rfl) (by kernel_rfl) Tryz.underlying181 (Lib.laidMet.reads hL (.tail _ (.tail _ (.tail _ (.tail _ (.head _)))))), tz_of (by rw [← tab64_eq]; exact Lib.laidMet.reads hL (.tail _ (.head _)))⟩
def ints (k : IntKind) (l : List Int) : Array Value := (l.map fun z => Value.int k z).toArray
def u8s (l : List Int) : Array Value := ints .u8 l
def setTab (h : Array Obj) (g : Nat) (cs : Array Value) : Array Obj := h.modify g fun
 | .cells _ t frozen => .cells cs t frozen
 | o => o
noncomputable def low : Nat := (World.holding Tryz.prog default ⟨#[], #[], []⟩).heap.size
noncomputable def laidWorld (os : Os) (args : Array Value) : World :=
 { World.holding Tryz.prog os ⟨#[.cells #[.string { data := #[118, 97, 108, 117, 101, 32, 111, 117, 116, 32, 111, 102, 32, 114, 97, 110, 103, 101] }] 271, .cells #[.string { data := #[105, 110, 118, 97, 108, 105, 100, 32, 115, 121, 110, 116, 97, 120] }] 271], args, []⟩ with
  heap := (setTab (setTab (setTab (setTab (setTab (setTab (setTab (World.holding Tryz.prog os ⟨#[.cells #[.string { data := #[118, 97, 108, 117, 101, 32, 111, 117, 116, 32, 111, 102, 32, 114, 97, 110, 103, 101] }] 271, .cells #[.string { data := #[105, 110, 118, 97, 108, 105, 100, 32, 115, 121, 110, 116, 97, 120] }] 271], args, []⟩).heap 6 (ints .u8 [0, 1, 28, 2, 29, 14, 24, 3, 30, 22, 20, 15, 25, 17, 4, 8, 31, 27, 13, 23, 21, 19, 16, 7, 26, 12, 18, 6, 11, 5, 10, 9])) 7 (ints .u8 [0, 1, 56, 2, 57, 49, 28, 3, 61, 58, 42, 50, 38, 29, 17, 4, 62, 47, 59, 36, 45, 43, 51, 22, 53, 39, 33, 30, 24, 18, 12, 5, 63, 55, 48, 27, 60, 41, 37, 16, 46, 35, 44, 21, 52, 32, 23, 11, 54, 26, 40, 15, 34, 20, 31, 10, 25, 14, 19, 9, 13, 8, 7, 6])) 5 (ints .u64 [1, 10, 100, 1000, 10000, 100000, 1000000, 10000000, 100000000, 1000000000, 10000000000, 100000000000, 1000000000000, 10000000000000, 100000000000000, 1000000000000000, 10000000000000000, 100000000000000000, 1000000000000000000, 10000000000000000000])) 1 (ints .u8 [128, 191, 160, 191, 128, 159, 144, 191, 128, 143, 0, 0, 0, 0, 0, 0, 0, 0, 0, 0, 0, 0, 0, 0, 0, 0, 0, 0, 0, 0, 0, 0])) 4 (#[.iface 269 (.pointer (some ⟨low + 0, 0, none⟩))])) 3 (#[.iface 269 (.pointer (some ⟨low + 1, 0, none⟩))])) 0 (u8s Lib.firstTab)) }
end Card
end Go.Proofs.YtnjkemakcejceaaGreatDoor

namespace Go.Proofs.YtnjkemakcejceaaGreatDoor
open Go.RowKit
mutual
def D.cells : D → List AX.A
 | .int k n => [.int k n]
 | .str l => [.str l]
 | .bool b => [.bool b]
 | .agg l => D.cellsL l
 | .sl W l => [.sl W .no (D.rows l)]
def D.cellsL : List D → List AX.A
 | [] => []
 | d :: l => d.cells ++ D.cellsL l
def D.rows : List D → List (List AX.A)
 | [] => []
 | d :: l => d.cells :: D.rows l
end
mutual
theorem D.cells_data : ∀ (d : D) (x : AX.A), x ∈ d.cells → x.data = true
 | .int k n, x, h => by unfold D.cells at h; simp at h; subst h; rfl
 | .str l, x, h => by unfold D.cells at h; simp at h; subst h; rfl
 | .bool b, x, h => by unfold D.cells at h; simp at h; subst h; rfl
 | .agg l, x, h => by unfold D.cells at h; exact D.cellsL_data l x h
 | .sl W l, x, h => by unfold D.cells at h; simp at h; subst h; rfl
theorem D.cellsL_data : ∀ (l : List D) (x : AX.A), x ∈ D.cellsL l → x.data = true
 | [], x, h => by unfold D.cellsL at h; simp at h
 | d :: l, x, h => by
  unfold D.cellsL at h
  rcases List.mem_append.1 h with h | h
  ·exact D.cells_data d x h
  ·exact D.cellsL_data l x h
end
namespace AX
def Ctx.of (w : World) : Ctx := { w := w, S := fun g _ => g < w.heap.size, κ := fun _ => 0, nb := 0, τ := fun _ => 0, hw := fun _ => none, own := fun _ => none, base := w.heap.size }
theorem inv_of {G : World → Prop} {w : World} (hG : ∀ w' : World, (∀ g, g < w.heap.size → w'.heap[g]? = w.heap[g]?) → G w') : Inv G (Ctx.of w) ⟨[], []⟩ where
 nb := rfl
 box := fun i b h => by simp at h
 ownk := fun i h => by simp [Ctx.of] at h
 ownlt := fun g i h => by simp [Ctx.of] at h
 prot := fun g j h => ⟨h, rfl, fun t E W m ht => by simp [Ctx.of] at ht⟩
 rows := fun t E W m h => by simp [Ctx.of] at h
 inj := fun t t' h => by simp [Ctx.of] at h
 toks := fun t => by simp [Ctx.of]
 base := Nat.le_refl _
 glob := hG
theorem calls_of {P : Program} {G : World → Prop} {f : FuncId} {args : List A} {vs : List Value} {w : World} (hc : ACall P G f args ⟨[], []⟩ fun v _ => v = .bool true) (hG : ∀ w' : World, (∀ g, g < w.heap.size → w'.heap[g]? = w.heap[g]?) → G w')
  (ha : RepL (Ctx.of w) args vs) : Calls P f vs.toArray w fun e w' => e = .returned (.bool true) ∧ Below w.heap.size w w' := by
 refine (hc (Ctx.of w) vs (inv_of hG) ha).mono ?_
 rintro e w' ⟨C', h', v, cv, rfl, rfl, _, st, hr, rfl⟩
 rw [rep_bool] at hr; subst hr
 exact ⟨rfl, st.os, st.tape, st.output, st.size, fun g hg => st.frame g hg rfl fun t ht => by simp [Ctx.of] at ht⟩
theorem tabs_keep {a b : Nat} {w : World} (h : Lib.Utf8Tabs a b w) : ∀ w' : World, (∀ g, g < w.heap.size → w'.heap[g]? = w.heap[g]?) → Lib.Utf8Tabs a b w' := by
 intro w' hw
 have hlt : ∀ {g j : Nat} {v : Value}, w.cell? ⟨g, j, none⟩ = some v → g < w.heap.size := fun {g j v} h => (cell_there h).2
 have hc : ∀ {g j : Nat} {v : Value}, w.cell? ⟨g, j, none⟩ = some v → w'.cell? ⟨g, j, none⟩ = some v := fun {g j v} h => by
  rw [← h]; simp only [World.cell?, hw g (hlt h)]
 exact ⟨fun c hcl => hc (h.1 c hcl), fun i hi => ⟨hc (h.2 i hi).1, hc (h.2 i hi).2⟩⟩
end AX
end Go.Proofs.YtnjkemakcejceaaGreatDoor

namespace Go.Proofs.YtnjkemakcejceaaGreatDoor
open Go.RowKit Go.ChangeShapes Go.WideShapes
mutual
theorem V.Wf.lens : ∀ v : V, v.Wf → v.lens
 | .mk k n s is ks, h => by
  unfold V.Wf at h; unfold V.lens
  exact ⟨h.1.2.2.2.1, h.1.2.2.2.2.1, h.1.2.2.1, h.1.2.2.2.2.2, V.Wfs.lens is h.2⟩
theorem V.Wfs.lens : ∀ l : List V, V.Wfs l → V.lensS l
 | [], h => by unfold V.lensS; trivial
 | v :: l, h => by
  unfold V.Wfs at h; unfold V.lensS
  exact ⟨V.Wf.lens v h.1, V.Wfs.lens l h.2⟩
end
namespace AX
theorem gt_keep {w : World} (g : GT w) : ∀ w' : World, (∀ g, g < w.heap.size → w'.heap[g]? = w.heap[g]?) → GT w' := fun w' hw => by
 have hi : ∀ {n : Nat}, IfaceAt n w → IfaceAt n w' := fun ⟨ev, h1, h2⟩ => ⟨ev, by rw [← h1]; simp only [World.cell?, hw _ (cell_there h1).2], h2⟩
 exact ⟨tabs_keep g.tabs w' hw, hi g.esyn, hi g.erng, by rw [← g.tz]; simp only [World.cell?, hw _ (cell_there g.tz).2]⟩
section
variable {H : Type} {enc : TypeId × Value → H} {w : World} {base : Nat} {spare : Nat → Bool} {held : Bool} {r : Reach} {b0 : Nat} {v : Value} {d : DataW H} {p : List MemPlace}
end
end AX
end Go.Proofs.YtnjkemakcejceaaGreatDoor

namespace Go.Proofs.YtnjkemakcejceaaGreatDoor
open Go.RowKit
namespace AX
theorem evp {A F : Prop} (f : F) (h : F → A := by intro f; simp only [f] <;> with_reducible rfl) : A := h f
theorem ev0 {A F : Prop} (f : F) (h : F → A := by intro f; simp only [put_app, put_none, init_app, evX_t, evX_c, resA_nil, resA_t, resA_c, tupA_0, tupA_1, tupA_2, astep, bop, uop, loadA, storeA, appA, ssliceA, eqA, eqCells, fillA, rowsA, setCells, A.cells, A.one, A.data, optP_some, List.all_cons, List.all_nil, Bool.and_true, Bool.true_and, Bool.false_and, Option.map_some, Option.map_none, Option.bind_some, Option.bind_none, Option.getD_some, Option.getD_none, List.map_cons, List.map_nil, List.getD_cons_zero, List.getD_cons_succ, List.getElem?_cons_zero, List.getElem?_cons_succ, List.getElem?_concat_length, get_p1, get_p2, set_p0, set_p1, set_p2, get_q1, get_q2, get_q3, set_q1, set_q2, set_q3, List.length_cons, List.length_nil, List.nil_append, List.cons_append, List.append_nil, List.set_cons_zero, List.set_cons_succ, List.drop_zero, List.drop_succ_cons, List.take_succ_cons, List.take_zero, List.take_nil, List.take_length, List.length_append, List.length_set, Nat.reduceAdd, Nat.reduceSub, Nat.reduceMul, Nat.reduceLeDiff, Nat.reduceEqDiff, Nat.reduceBEq, Int.toNat_natCast, Int.natCast_nonneg, Int.reduceBEq, Int.reduceBNe, Int.reduceLT, Int.reduceLE, Int.reduceEq, Int.le_refl, Int.toNat_zero, if_true, if_false, reduceIte, ite_true, ite_false, true_and, and_true, ne_eq, not_true_eq_false, not_false_eq_true, Bool.false_eq_true, reduceCtorEq, and_self, Nat.zero_add, Nat.add_zero, Nat.le_refl, Bool.not_true, Bool.not_false, and_self, decide_true, decide_false, beq_self_eq_true, bne_self_eq_false, f] <;> with_reducible rfl) : A := h f
theorem eu0 {A F : Prop} (f : F) (h : F → A := by intro f; simp only [put_app, put_none, init_app, evX_t, evX_c, resA_nil, resA_t, resA_c, tupA_0, tupA_1, tupA_2, astep, bop, uop, loadA, storeA, appA, ssliceA, eqA, eqCells, fillA, rowsA, setCells, A.cells, A.one, A.data, optP_some, List.all_cons, List.all_nil, Bool.and_true, Bool.true_and, Bool.false_and, Option.map_some, Option.map_none, Option.bind_some, Option.bind_none, Option.getD_some, Option.getD_none, List.map_cons, List.map_nil, List.getD_cons_zero, List.getD_cons_succ, List.getElem?_cons_zero, List.getElem?_cons_succ, List.getElem?_concat_length, get_p1, get_p2, set_p0, set_p1, set_p2, get_q1, get_q2, get_q3, set_q1, set_q2, set_q3, List.length_cons, List.length_nil, List.nil_append, List.cons_append, List.append_nil, List.set_cons_zero, List.set_cons_succ, List.drop_zero, List.drop_succ_cons, List.take_succ_cons, List.take_zero, List.take_nil, List.take_length, List.length_append, List.length_set, Nat.reduceAdd, Nat.reduceSub, Nat.reduceMul, Nat.reduceLeDiff, Nat.reduceEqDiff, Nat.reduceBEq, Int.toNat_natCast, Int.natCast_nonneg, Int.reduceBEq, Int.reduceBNe, Int.reduceLT, Int.reduceLE, Int.reduceEq, Int.le_refl, Int.toNat_zero, if_true, if_false, reduceIte, ite_true, ite_false, true_and, and_true, ne_eq, not_true_eq_false, not_false_eq_true, Bool.false_eq_true, reduceCtorEq, and_self, Nat.zero_add, Nat.add_zero, Nat.le_refl, Bool.not_true, Bool.not_false, and_self, decide_true, decide_false, beq_self_eq_true, bne_self_eq_false, f]; rw [if_pos (by first | omega | (refine ⟨?_, ?_⟩ <;> omega) | (simp only [true_and, and_true]; omega))]; with_reducible rfl) : A := h f
theorem inv0 {A F : Prop} (f : F) (h : F → A := by intro f; simp only [put_app, put_none, init_app, evX_t, evX_c, resA_nil, resA_t, resA_c, tupA_0, tupA_1, tupA_2, astep, bop, uop, loadA, storeA, appA, ssliceA, eqA, eqCells, fillA, rowsA, setCells, A.cells, A.one, A.data, optP_some, List.all_cons, List.all_nil, Bool.and_true, Bool.true_and, Bool.false_and, Option.map_some, Option.map_none, Option.bind_some, Option.bind_none, Option.getD_some, Option.getD_none, List.map_cons, List.map_nil, List.getD_cons_zero, List.getD_cons_succ, List.getElem?_cons_zero, List.getElem?_cons_succ, List.getElem?_concat_length, get_p1, get_p2, set_p0, set_p1, set_p2, get_q1, get_q2, get_q3, set_q1, set_q2, set_q3, List.length_cons, List.length_nil, List.nil_append, List.cons_append, List.append_nil, List.set_cons_zero, List.set_cons_succ, List.drop_zero, List.drop_succ_cons, List.take_succ_cons, List.take_zero, List.take_nil, List.take_length, List.length_append, List.length_set, Nat.reduceAdd, Nat.reduceSub, Nat.reduceMul, Nat.reduceLeDiff, Nat.reduceEqDiff, Nat.reduceBEq, Int.toNat_natCast, Int.natCast_nonneg, Int.reduceBEq, Int.reduceBNe, Int.reduceLT, Int.reduceLE, Int.reduceEq, Int.le_refl, Int.toNat_zero, if_true, if_false, reduceIte, ite_true, ite_false, true_and, and_true, ne_eq, not_true_eq_false, not_false_eq_true, Bool.false_eq_true, reduceCtorEq, and_self, Nat.zero_add, Nat.add_zero, Nat.le_refl, Bool.not_true, Bool.not_false, and_self, decide_true, decide_false, beq_self_eq_true, bne_self_eq_false, f, Int.natCast_add, Int.natCast_one] <;> trivial) : A := h f
theorem inw0 {A F : Prop} (f : F) (h : F → A := by intro f; simp only [put_app, put_none, init_app, evX_t, evX_c, resA_nil, resA_t, resA_c, tupA_0, tupA_1, tupA_2, astep, bop, uop, loadA, storeA, appA, ssliceA, eqA, eqCells, fillA, rowsA, setCells, A.cells, A.one, A.data, optP_some, List.all_cons, List.all_nil, Bool.and_true, Bool.true_and, Bool.false_and, Option.map_some, Option.map_none, Option.bind_some, Option.bind_none, Option.getD_some, Option.getD_none, List.map_cons, List.map_nil, List.getD_cons_zero, List.getD_cons_succ, List.getElem?_cons_zero, List.getElem?_cons_succ, List.getElem?_concat_length, get_p1, get_p2, set_p0, set_p1, set_p2, get_q1, get_q2, get_q3, set_q1, set_q2, set_q3, List.length_cons, List.length_nil, List.nil_append, List.cons_append, List.append_nil, List.set_cons_zero, List.set_cons_succ, List.drop_zero, List.drop_succ_cons, List.take_succ_cons, List.take_zero, List.take_nil, List.take_length, List.length_append, List.length_set, Nat.reduceAdd, Nat.reduceSub, Nat.reduceMul, Nat.reduceLeDiff, Nat.reduceEqDiff, Nat.reduceBEq, Int.toNat_natCast, Int.natCast_nonneg, Int.reduceBEq, Int.reduceBNe, Int.reduceLT, Int.reduceLE, Int.reduceEq, Int.le_refl, Int.toNat_zero, if_true, if_false, reduceIte, ite_true, ite_false, true_and, and_true, ne_eq, not_true_eq_false, not_false_eq_true, Bool.false_eq_true, reduceCtorEq, and_self, Nat.zero_add, Nat.add_zero, Nat.le_refl, Bool.not_true, Bool.not_false, and_self, decide_true, decide_false, beq_self_eq_true, bne_self_eq_false, forH, pastN, obsP, obsD, obsN, memN, Bool.false_or, Bool.true_or, Bool.or_false, Bool.or_true, true_or, or_true, false_or, or_false, f] <;> exact True.intro) : A := h f
theorem go0 {A B F : Prop} (f : F) (k : B) (h : F → B → A := by intro f k; (repeat (first | with_reducible refine go_seq ?_ | with_reducible refine go_reg ?_ | with_reducible refine go_nil ?_ | with_reducible refine go_tn ?_ | with_reducible refine go_sk ?_ | with_reducible refine go_blk ?_ | with_reducible refine go_exit ?_ | with_reducible refine go_ret ?_ | with_reducible refine go_tr ?_ | with_reducible refine go_te ?_ | with_reducible refine go_bn ?_ | with_reducible refine go_br ?_ | with_reducible refine go_be ?_ | ((with_reducible refine go_bo ?_ ?_); exact rfl) | with_reducible refine gq_nil ?_ | ((with_reducible apply go_op); exact rfl; exact ev0 f) | ((with_reducible apply go_op); exact rfl; exact eu0 f) | ((with_reducible apply gq_op); exact rfl; exact ev0 f) | ((with_reducible apply gq_op); exact rfl; exact eu0 f) | ((with_reducible refine go_skipu ?_ ?_); exact ev0 f) | ((with_reducible refine go_skip ?_ ?_); exact ev0 f) | ((with_reducible refine gq_skipu ?_ ?_); exact ev0 f) | ((with_reducible refine gq_skip ?_ ?_); exact ev0 f) | ((with_reducible apply go_gop); exact ev0 f; exact rfl; exact ev0 f) | ((with_reducible apply go_gop); exact ev0 f; exact rfl; exact eu0 f) | ((with_reducible apply gq_gop); exact ev0 f; exact rfl; exact ev0 f) | ((with_reducible apply gq_gop); exact ev0 f; exact rfl; exact eu0 f) | ((with_reducible refine go_ct ?_ ?_); exact ev0 f) | ((with_reducible refine go_cf ?_ ?_); exact ev0 f) | ((with_reducible apply go_fr); exact ev0 f) | ((with_reducible apply go_fn); exact ev0 f))); exact k) : A := h f k
theorem gc0 {A B F : Prop} (f : F) (k : B) (h : F → B → A := by intro f k; first | ((with_reducible apply go_call); exact ev0 f; exact k) | ((with_reducible apply go_gcall); exact ev0 f; exact ev0 f; exact k) | ((with_reducible apply go_callv); exact ev0 f; kernel_rfl; exact ev0 f; exact k)) : A := h f k
theorem run0 {A B F : Prop} (f : F) (k : B) (h : F → B → A := by intro f k; (repeat (first | with_reducible refine go_seq ?_ | with_reducible refine go_regS ?_ | with_reducible refine gs_nil ?_ | with_reducible refine go_tn ?_ | with_reducible refine go_sk ?_ | with_reducible refine go_blk ?_ | with_reducible refine go_exit ?_ | with_reducible refine go_ret ?_ | with_reducible refine go_tr ?_ | with_reducible refine go_te ?_ | with_reducible refine go_bn ?_ | with_reducible refine go_br ?_ | with_reducible refine go_be ?_ | ((with_reducible refine go_bo ?_ ?_); exact rfl) | ((with_reducible apply gs_app0); exact rfl; exact ev0 f; exact ev0 f; (first | exact evp f | exact ev0 f | exact eu0 f)) | ((with_reducible apply gs_op0); exact rfl; exact rfl; exact ev0 f) | ((with_reducible apply gs_op0); exact rfl; exact rfl; exact eu0 f) | ((with_reducible apply gs_skipu0); exact rfl; exact ev0 f) | ((with_reducible apply gs_skip0); exact rfl; exact ev0 f) | ((with_reducible apply gs_guard); exact ev0 f) | ((with_reducible apply gs_appm); exact ev0 f; exact ev0 f; (first | exact evp f | exact ev0 f | exact eu0 f); (first | exact True.intro | exact inw0 f)) | ((with_reducible apply gs_op); exact rfl; decide +kernel; exact rfl; exact ev0 f) | ((with_reducible apply gs_act); exact rfl; exact rfl; exact ev0 f; (first | exact True.intro | exact inw0 f)) | ((with_reducible apply gs_op); exact rfl; decide +kernel; exact rfl; exact eu0 f) | ((with_reducible apply gs_act); exact rfl; exact rfl; exact eu0 f; (first | exact True.intro | exact inw0 f)) | ((with_reducible apply gs_load); exact rfl; decide +kernel; exact rfl; exact ev0 f; (first | exact True.intro | exact inw0 f)) | ((with_reducible apply gs_skipu); decide +kernel; exact rfl; exact ev0 f) | ((with_reducible apply gs_skip); decide +kernel; exact rfl; exact ev0 f) | ((with_reducible apply gs_call); exact ev0 f) | ((with_reducible apply gs_callv); exact ev0 f; kernel_rfl; exact ev0 f) | ((with_reducible refine go_ct ?_ ?_); exact ev0 f) | ((with_reducible refine go_cf ?_ ?_); exact ev0 f) | ((with_reducible apply go_fr); exact ev0 f) | ((with_reducible apply go_fn); exact ev0 f) | ((with_reducible refine go_draw 1 ?_ ?_); decide +kernel) | ((with_reducible refine go_draw 2 ?_ ?_); decide +kernel))); exact k) : A := h f k
theorem evV {A F : Prop} (f : F) (h : F → A := by intro f; simp only [put_app, put_none, init_app, evX_t, evX_c, resA_nil, resA_t, resA_c, tupA_0, tupA_1, tupA_2, astep, bop, uop, loadA, storeA, appA, ssliceA, eqA, eqCells, fillA, rowsA, setCells, A.cells, A.one, A.data, optP_some, List.all_cons, List.all_nil, Bool.and_true, Bool.true_and, Bool.false_and, Option.map_some, Option.map_none, Option.bind_some, Option.bind_none, Option.getD_some, Option.getD_none, List.map_cons, List.map_nil, List.getD_cons_zero, List.getD_cons_succ, List.getElem?_cons_zero, List.getElem?_cons_succ, List.getElem?_concat_length, get_p1, get_p2, set_p0, set_p1, set_p2, get_q1, get_q2, get_q3, set_q1, set_q2, set_q3, List.length_cons, List.length_nil, List.nil_append, List.cons_append, List.append_nil, List.set_cons_zero, List.set_cons_succ, List.drop_zero, List.drop_succ_cons, List.take_succ_cons, List.take_zero, List.take_nil, List.take_length, List.length_append, List.length_set, Nat.reduceAdd, Nat.reduceSub, Nat.reduceMul, Nat.reduceLeDiff, Nat.reduceEqDiff, Nat.reduceBEq, Int.toNat_natCast, Int.natCast_nonneg, Int.reduceBEq, Int.reduceBNe, Int.reduceLT, Int.reduceLE, Int.reduceEq, Int.le_refl, Int.toNat_zero, if_true, if_false, reduceIte, ite_true, ite_false, true_and, and_true, ne_eq, not_true_eq_false, not_false_eq_true, Bool.false_eq_true, reduceCtorEq, and_self, Nat.zero_add, Nat.add_zero, Nat.le_refl, Bool.not_true, Bool.not_false, and_self, decide_true, decide_false, beq_self_eq_true, bne_self_eq_false, V.A, V.cells, f] <;> with_reducible rfl) : A := h f
theorem euV {A F : Prop} (f : F) (h : F → A := by intro f; simp only [put_app, put_none, init_app, evX_t, evX_c, resA_nil, resA_t, resA_c, tupA_0, tupA_1, tupA_2, astep, bop, uop, loadA, storeA, appA, ssliceA, eqA, eqCells, fillA, rowsA, setCells, A.cells, A.one, A.data, optP_some, List.all_cons, List.all_nil, Bool.and_true, Bool.true_and, Bool.false_and, Option.map_some, Option.map_none, Option.bind_some, Option.bind_none, Option.getD_some, Option.getD_none, List.map_cons, List.map_nil, List.getD_cons_zero, List.getD_cons_succ, List.getElem?_cons_zero, List.getElem?_cons_succ, List.getElem?_concat_length, get_p1, get_p2, set_p0, set_p1, set_p2, get_q1, get_q2, get_q3, set_q1, set_q2, set_q3, List.length_cons, List.length_nil, List.nil_append, List.cons_append, List.append_nil, List.set_cons_zero, List.set_cons_succ, List.drop_zero, List.drop_succ_cons, List.take_succ_cons, List.take_zero, List.take_nil, List.take_length, List.length_append, List.length_set, Nat.reduceAdd, Nat.reduceSub, Nat.reduceMul, Nat.reduceLeDiff, Nat.reduceEqDiff, Nat.reduceBEq, Int.toNat_natCast, Int.natCast_nonneg, Int.reduceBEq, Int.reduceBNe, Int.reduceLT, Int.reduceLE, Int.reduceEq, Int.le_refl, Int.toNat_zero, if_true, if_false, reduceIte, ite_true, ite_false, true_and, and_true, ne_eq, not_true_eq_false, not_false_eq_true, Bool.false_eq_true, reduceCtorEq, and_self, Nat.zero_add, Nat.add_zero, Nat.le_refl, Bool.not_true, Bool.not_false, and_self, decide_true, decide_false, beq_self_eq_true, bne_self_eq_false, V.A, V.cells, f]; rw [if_pos (by first | omega | (refine ⟨?_, ?_⟩ <;> omega) | (simp only [true_and, and_true]; omega))]; with_reducible rfl) : A := h f
theorem goV {A B F : Prop} (f : F) (k : B) (h : F → B → A := by intro f k; (repeat (first | with_reducible refine go_seq ?_ | with_reducible refine go_reg ?_ | with_reducible refine go_nil ?_ | with_reducible refine go_tn ?_ | with_reducible refine go_sk ?_ | with_reducible refine go_blk ?_ | with_reducible refine go_exit ?_ | with_reducible refine go_ret ?_ | with_reducible refine go_tr ?_ | with_reducible refine go_te ?_ | with_reducible refine go_bn ?_ | with_reducible refine go_br ?_ | with_reducible refine go_be ?_ | ((with_reducible refine go_bo ?_ ?_); exact rfl) | with_reducible refine gq_nil ?_ | ((with_reducible apply go_op); exact rfl; exact evV f) | ((with_reducible apply go_op); exact rfl; exact euV f) | ((with_reducible apply gq_op); exact rfl; exact evV f) | ((with_reducible apply gq_op); exact rfl; exact euV f) | ((with_reducible refine go_skipu ?_ ?_); exact evV f) | ((with_reducible refine go_skip ?_ ?_); exact evV f) | ((with_reducible refine gq_skipu ?_ ?_); exact evV f) | ((with_reducible refine gq_skip ?_ ?_); exact evV f) | ((with_reducible apply go_gop); exact evV f; exact rfl; exact evV f) | ((with_reducible apply go_gop); exact evV f; exact rfl; exact euV f) | ((with_reducible apply gq_gop); exact evV f; exact rfl; exact evV f) | ((with_reducible apply gq_gop); exact evV f; exact rfl; exact euV f) | ((with_reducible refine go_ct ?_ ?_); exact evV f) | ((with_reducible refine go_cf ?_ ?_); exact evV f) | ((with_reducible apply go_fr); exact evV f) | ((with_reducible apply go_fn); exact evV f))); exact k) : A := h f k
theorem gcV {A B F : Prop} (f : F) (k : B) (h : F → B → A := by intro f k; first | ((with_reducible apply go_call); exact evV f; exact k) | ((with_reducible apply go_gcall); exact evV f; exact evV f; exact k) | ((with_reducible apply go_callv); exact evV f; kernel_rfl; exact evV f; exact k)) : A := h f k
theorem evC {A F : Prop} (f : F) (h : F → A := by intro f; simp only [put_app, put_none, init_app, evX_t, evX_c, resA_nil, resA_t, resA_c, tupA_0, tupA_1, tupA_2, astep, bop, uop, loadA, storeA, appA, ssliceA, eqA, eqCells, fillA, rowsA, setCells, A.cells, A.one, A.data, optP_some, List.all_cons, List.all_nil, Bool.and_true, Bool.true_and, Bool.false_and, Option.map_some, Option.map_none, Option.bind_some, Option.bind_none, Option.getD_some, Option.getD_none, List.map_cons, List.map_nil, List.getD_cons_zero, List.getD_cons_succ, List.getElem?_cons_zero, List.getElem?_cons_succ, List.getElem?_concat_length, get_p1, get_p2, set_p0, set_p1, set_p2, get_q1, get_q2, get_q3, set_q1, set_q2, set_q3, List.length_cons, List.length_nil, List.nil_append, List.cons_append, List.append_nil, List.set_cons_zero, List.set_cons_succ, List.drop_zero, List.drop_succ_cons, List.take_succ_cons, List.take_zero, List.take_nil, List.take_length, List.length_append, List.length_set, Nat.reduceAdd, Nat.reduceSub, Nat.reduceMul, Nat.reduceLeDiff, Nat.reduceEqDiff, Nat.reduceBEq, Int.toNat_natCast, Int.natCast_nonneg, Int.reduceBEq, Int.reduceBNe, Int.reduceLT, Int.reduceLE, Int.reduceEq, Int.le_refl, Int.toNat_zero, if_true, if_false, reduceIte, ite_true, ite_false, true_and, and_true, ne_eq, not_true_eq_false, not_false_eq_true, Bool.false_eq_true, reduceCtorEq, and_self, Nat.zero_add, Nat.add_zero, Nat.le_refl, Bool.not_true, Bool.not_false, and_self, decide_true, decide_false, beq_self_eq_true, bne_self_eq_false, V.cells, f] <;> with_reducible rfl) : A := h f
theorem euC {A F : Prop} (f : F) (h : F → A := by intro f; simp only [put_app, put_none, init_app, evX_t, evX_c, resA_nil, resA_t, resA_c, tupA_0, tupA_1, tupA_2, astep, bop, uop, loadA, storeA, appA, ssliceA, eqA, eqCells, fillA, rowsA, setCells, A.cells, A.one, A.data, optP_some, List.all_cons, List.all_nil, Bool.and_true, Bool.true_and, Bool.false_and, Option.map_some, Option.map_none, Option.bind_some, Option.bind_none, Option.getD_some, Option.getD_none, List.map_cons, List.map_nil, List.getD_cons_zero, List.getD_cons_succ, List.getElem?_cons_zero, List.getElem?_cons_succ, List.getElem?_concat_length, get_p1, get_p2, set_p0, set_p1, set_p2, get_q1, get_q2, get_q3, set_q1, set_q2, set_q3, List.length_cons, List.length_nil, List.nil_append, List.cons_append, List.append_nil, List.set_cons_zero, List.set_cons_succ, List.drop_zero, List.drop_succ_cons, List.take_succ_cons, List.take_zero, List.take_nil, List.take_length, List.length_append, List.length_set, Nat.reduceAdd, Nat.reduceSub, Nat.reduceMul, Nat.reduceLeDiff, Nat.reduceEqDiff, Nat.reduceBEq, Int.toNat_natCast, Int.natCast_nonneg, Int.reduceBEq, Int.reduceBNe, Int.reduceLT, Int.reduceLE, Int.reduceEq, Int.le_refl, Int.toNat_zero, if_true, if_false, reduceIte, ite_true, ite_false, true_and, and_true, ne_eq, not_true_eq_false, not_false_eq_true, Bool.false_eq_true, reduceCtorEq, and_self, Nat.zero_add, Nat.add_zero, Nat.le_refl, Bool.not_true, Bool.not_false, and_self, decide_true, decide_false, beq_self_eq_true, bne_self_eq_false, V.cells, f]; rw [if_pos (by first | omega | (refine ⟨?_, ?_⟩ <;> omega) | (simp only [true_and, and_true]; omega))]; with_reducible rfl) : A := h f
theorem goC {A B F : Prop} (f : F) (k : B) (h : F → B → A := by intro f k; (repeat (first | with_reducible refine go_seq ?_ | with_reducible refine go_reg ?_ | with_reducible refine go_nil ?_ | with_reducible refine go_tn ?_ | with_reducible refine go_sk ?_ | with_reducible refine go_blk ?_ | with_reducible refine go_exit ?_ | with_reducible refine go_ret ?_ | with_reducible refine go_tr ?_ | with_reducible refine go_te ?_ | with_reducible refine go_bn ?_ | with_reducible refine go_br ?_ | with_reducible refine go_be ?_ | ((with_reducible refine go_bo ?_ ?_); exact rfl) | with_reducible refine gq_nil ?_ | ((with_reducible apply go_op); exact rfl; exact evC f) | ((with_reducible apply go_op); exact rfl; exact euC f) | ((with_reducible apply gq_op); exact rfl; exact evC f) | ((with_reducible apply gq_op); exact rfl; exact euC f) | ((with_reducible refine go_skipu ?_ ?_); exact evC f) | ((with_reducible refine go_skip ?_ ?_); exact evC f) | ((with_reducible refine gq_skipu ?_ ?_); exact evC f) | ((with_reducible refine gq_skip ?_ ?_); exact evC f) | ((with_reducible apply go_gop); exact evC f; exact rfl; exact evC f) | ((with_reducible apply go_gop); exact evC f; exact rfl; exact euC f) | ((with_reducible apply gq_gop); exact evC f; exact rfl; exact evC f) | ((with_reducible apply gq_gop); exact evC f; exact rfl; exact euC f) | ((with_reducible refine go_ct ?_ ?_); exact evC f) | ((with_reducible refine go_cf ?_ ?_); exact evC f) | ((with_reducible apply go_fr); exact evC f) | ((with_reducible apply go_fn); exact evC f))); exact k) : A := h f k
theorem gcC {A B F : Prop} (f : F) (k : B) (h : F → B → A := by intro f k; first | ((with_reducible apply go_call); exact evC f; exact k) | ((with_reducible apply go_gcall); exact evC f; exact evC f; exact k) | ((with_reducible apply go_callv); exact evC f; kernel_rfl; exact evC f; exact k)) : A := h f k
theorem evW {A F : Prop} (f : F) (h : F → A := by intro f; simp only [put_app, put_none, init_app, evX_t, evX_c, resA_nil, resA_t, resA_c, tupA_0, tupA_1, tupA_2, astep, bop, uop, loadA, storeA, appA, ssliceA, eqA, eqCells, fillA, rowsA, setCells, A.cells, A.one, A.data, optP_some, List.all_cons, List.all_nil, Bool.and_true, Bool.true_and, Bool.false_and, Option.map_some, Option.map_none, Option.bind_some, Option.bind_none, Option.getD_some, Option.getD_none, List.map_cons, List.map_nil, List.getD_cons_zero, List.getD_cons_succ, List.getElem?_cons_zero, List.getElem?_cons_succ, List.getElem?_concat_length, get_p1, get_p2, set_p0, set_p1, set_p2, get_q1, get_q2, get_q3, set_q1, set_q2, set_q3, List.length_cons, List.length_nil, List.nil_append, List.cons_append, List.append_nil, List.set_cons_zero, List.set_cons_succ, List.drop_zero, List.drop_succ_cons, List.take_succ_cons, List.take_zero, List.take_nil, List.take_length, List.length_append, List.length_set, Nat.reduceAdd, Nat.reduceSub, Nat.reduceMul, Nat.reduceLeDiff, Nat.reduceEqDiff, Nat.reduceBEq, Int.toNat_natCast, Int.natCast_nonneg, Int.reduceBEq, Int.reduceBNe, Int.reduceLT, Int.reduceLE, Int.reduceEq, Int.le_refl, Int.toNat_zero, if_true, if_false, reduceIte, ite_true, ite_false, true_and, and_true, ne_eq, not_true_eq_false, not_false_eq_true, Bool.false_eq_true, reduceCtorEq, and_self, Nat.zero_add, Nat.add_zero, Nat.le_refl, Bool.not_true, Bool.not_false, and_self, decide_true, decide_false, beq_self_eq_true, bne_self_eq_false, wtr, f] <;> with_reducible rfl) : A := h f
theorem euW {A F : Prop} (f : F) (h : F → A := by intro f; simp only [put_app, put_none, init_app, evX_t, evX_c, resA_nil, resA_t, resA_c, tupA_0, tupA_1, tupA_2, astep, bop, uop, loadA, storeA, appA, ssliceA, eqA, eqCells, fillA, rowsA, setCells, A.cells, A.one, A.data, optP_some, List.all_cons, List.all_nil, Bool.and_true, Bool.true_and, Bool.false_and, Option.map_some, Option.map_none, Option.bind_some, Option.bind_none, Option.getD_some, Option.getD_none, List.map_cons, List.map_nil, List.getD_cons_zero, List.getD_cons_succ, List.getElem?_cons_zero, List.getElem?_cons_succ, List.getElem?_concat_length, get_p1, get_p2, set_p0, set_p1, set_p2, get_q1, get_q2, get_q3, set_q1, set_q2, set_q3, List.length_cons, List.length_nil, List.nil_append, List.cons_append, List.append_nil, List.set_cons_zero, List.set_cons_succ, List.drop_zero, List.drop_succ_cons, List.take_succ_cons, List.take_zero, List.take_nil, List.take_length, List.length_append, List.length_set, Nat.reduceAdd, Nat.reduceSub, Nat.reduceMul, Nat.reduceLeDiff, Nat.reduceEqDiff, Nat.reduceBEq, Int.toNat_natCast, Int.natCast_nonneg, Int.reduceBEq, Int.reduceBNe, Int.reduceLT, Int.reduceLE, Int.reduceEq, Int.le_refl, Int.toNat_zero, if_true, if_false, reduceIte, ite_true, ite_false, true_and, and_true, ne_eq, not_true_eq_false, not_false_eq_true, Bool.false_eq_true, reduceCtorEq, and_self, Nat.zero_add, Nat.add_zero, Nat.le_refl, Bool.not_true, Bool.not_false, and_self, decide_true, decide_false, beq_self_eq_true, bne_self_eq_false, wtr, f]; rw [if_pos (by first | omega | (refine ⟨?_, ?_⟩ <;> omega) | (simp only [true_and, and_true]; omega))]; with_reducible rfl) : A := h f
theorem inwW {A F : Prop} (f : F) (h : F → A := by intro f; simp only [put_app, put_none, init_app, evX_t, evX_c, resA_nil, resA_t, resA_c, tupA_0, tupA_1, tupA_2, astep, bop, uop, loadA, storeA, appA, ssliceA, eqA, eqCells, fillA, rowsA, setCells, A.cells, A.one, A.data, optP_some, List.all_cons, List.all_nil, Bool.and_true, Bool.true_and, Bool.false_and, Option.map_some, Option.map_none, Option.bind_some, Option.bind_none, Option.getD_some, Option.getD_none, List.map_cons, List.map_nil, List.getD_cons_zero, List.getD_cons_succ, List.getElem?_cons_zero, List.getElem?_cons_succ, List.getElem?_concat_length, get_p1, get_p2, set_p0, set_p1, set_p2, get_q1, get_q2, get_q3, set_q1, set_q2, set_q3, List.length_cons, List.length_nil, List.nil_append, List.cons_append, List.append_nil, List.set_cons_zero, List.set_cons_succ, List.drop_zero, List.drop_succ_cons, List.take_succ_cons, List.take_zero, List.take_nil, List.take_length, List.length_append, List.length_set, Nat.reduceAdd, Nat.reduceSub, Nat.reduceMul, Nat.reduceLeDiff, Nat.reduceEqDiff, Nat.reduceBEq, Int.toNat_natCast, Int.natCast_nonneg, Int.reduceBEq, Int.reduceBNe, Int.reduceLT, Int.reduceLE, Int.reduceEq, Int.le_refl, Int.toNat_zero, if_true, if_false, reduceIte, ite_true, ite_false, true_and, and_true, ne_eq, not_true_eq_false, not_false_eq_true, Bool.false_eq_true, reduceCtorEq, and_self, Nat.zero_add, Nat.add_zero, Nat.le_refl, Bool.not_true, Bool.not_false, and_self, decide_true, decide_false, beq_self_eq_true, bne_self_eq_false, wtr, forH, pastN, obsP, obsD, obsN, memN, Bool.false_or, Bool.true_or, Bool.or_false, Bool.or_true, true_or, or_true, false_or, or_false, f] <;> exact True.intro) : A := h f
theorem runW {A B F : Prop} (f : F) (k : B) (h : F → B → A := by intro f k; (repeat (first | with_reducible refine go_seq ?_ | with_reducible refine go_regS ?_ | with_reducible refine gs_nil ?_ | with_reducible refine go_tn ?_ | with_reducible refine go_sk ?_ | with_reducible refine go_blk ?_ | with_reducible refine go_exit ?_ | with_reducible refine go_ret ?_ | with_reducible refine go_tr ?_ | with_reducible refine go_te ?_ | with_reducible refine go_bn ?_ | with_reducible refine go_br ?_ | with_reducible refine go_be ?_ | ((with_reducible refine go_bo ?_ ?_); exact rfl) | ((with_reducible apply gs_app0); exact rfl; exact evW f; exact evW f; (first | exact evp f | exact evW f | exact euW f)) | ((with_reducible apply gs_op0); exact rfl; exact rfl; exact evW f) | ((with_reducible apply gs_op0); exact rfl; exact rfl; exact euW f) | ((with_reducible apply gs_skipu0); exact rfl; exact evW f) | ((with_reducible apply gs_skip0); exact rfl; exact evW f) | ((with_reducible apply gs_guard); exact evW f) | ((with_reducible apply gs_appm); exact evW f; exact evW f; (first | exact evp f | exact evW f | exact euW f); (first | exact True.intro | exact inwW f)) | ((with_reducible apply gs_op); exact rfl; decide +kernel; exact rfl; exact evW f) | ((with_reducible apply gs_act); exact rfl; exact rfl; exact evW f; (first | exact True.intro | exact inwW f)) | ((with_reducible apply gs_op); exact rfl; decide +kernel; exact rfl; exact euW f) | ((with_reducible apply gs_act); exact rfl; exact rfl; exact euW f; (first | exact True.intro | exact inwW f)) | ((with_reducible apply gs_load); exact rfl; decide +kernel; exact rfl; exact evW f; (first | exact True.intro | exact inwW f)) | ((with_reducible apply gs_skipu); decide +kernel; exact rfl; exact evW f) | ((with_reducible apply gs_skip); decide +kernel; exact rfl; exact evW f) | ((with_reducible apply gs_call); exact evW f) | ((with_reducible apply gs_callv); exact evW f; kernel_rfl; exact evW f) | ((with_reducible refine go_ct ?_ ?_); exact evW f) | ((with_reducible refine go_cf ?_ ?_); exact evW f) | ((with_reducible apply go_fr); exact evW f) | ((with_reducible apply go_fn); exact evW f) | ((with_reducible refine go_draw 1 ?_ ?_); decide +kernel) | ((with_reducible refine go_draw 2 ?_ ?_); decide +kernel))); exact k) : A := h f k
theorem use {P : Program} {G : World → Prop} {m i : Nat} {fl : List Bool} {past : List Hp} {obs : Obs} {d : Option Nat} {af : List Nat} {os : List AOper} {K : Ts → Hp → Prop} {ts : Ts} {h : Hp} {f : FuncId} {vs : List A} {h' : Hp} {v : A} (hc : ACall P G f vs h fun v' h'' => v' = v ∧ h'' = h') (k : aseq P G m (i + 1) fl.tail os (pastN m h past) (obsN m af obs) K (put ts d v) h') (hm : (m = 2 → h' = h ∧ fl.headD false = false) ∧ (m ≠ 2 → obsP af obs h') := by first | exact ⟨fun e => absurd e (by decide), fun _ => True.intro⟩ | exact ⟨fun e => absurd e (by decide), fun _ => inw0 True.intro⟩ | exact ⟨fun _ => ⟨rfl, by decide +kernel⟩, fun e => absurd rfl e⟩) : CallK P G m i fl f vs h d af os past obs K ts := rt hc hm k
theorem evg {A F : Prop} (f : F) (h : F → A := by intro f; simp only [put_app, put_none, init_app, evX_t, evX_c, resA_nil, resA_t, resA_c, tupA_0, tupA_1, tupA_2, astep, bop, uop, loadA, storeA, appA, ssliceA, eqA, eqCells, fillA, rowsA, setCells, A.cells, A.one, A.data, optP_some, List.all_cons, List.all_nil, Bool.and_true, Bool.true_and, Bool.false_and, Option.map_some, Option.map_none, Option.bind_some, Option.bind_none, Option.getD_some, Option.getD_none, List.map_cons, List.map_nil, List.getD_cons_zero, List.getD_cons_succ, List.getElem?_cons_zero, List.getElem?_cons_succ, List.getElem?_concat_length, get_p1, get_p2, set_p0, set_p1, set_p2, get_q1, get_q2, get_q3, set_q1, set_q2, set_q3, List.length_cons, List.length_nil, List.nil_append, List.cons_append, List.append_nil, List.set_cons_zero, List.set_cons_succ, List.drop_zero, List.drop_succ_cons, List.take_succ_cons, List.take_zero, List.take_nil, List.take_length, List.length_append, List.length_set, Nat.reduceAdd, Nat.reduceSub, Nat.reduceMul, Nat.reduceLeDiff, Nat.reduceEqDiff, Nat.reduceBEq, Int.toNat_natCast, Int.natCast_nonneg, Int.reduceBEq, Int.reduceBNe, Int.reduceLT, Int.reduceLE, Int.reduceEq, Int.le_refl, Int.toNat_zero, if_true, if_false, reduceIte, ite_true, ite_false, true_and, and_true, ne_eq, not_true_eq_false, not_false_eq_true, Bool.false_eq_true, reduceCtorEq, and_self, Nat.zero_add, Nat.add_zero, Nat.le_refl, Bool.not_true, Bool.not_false, and_self, decide_true, decide_false, beq_self_eq_true, bne_self_eq_false, forL, nxt2, Nat.reduceMod, Option.some.injEq, List.getD_cons_zero, List.getD_cons_succ, f] <;> with_reducible rfl) : A := h f
theorem ing {A F : Prop} (f : F) (h : F → A := by intro f; simp only [put_app, put_none, init_app, evX_t, evX_c, resA_nil, resA_t, resA_c, tupA_0, tupA_1, tupA_2, astep, bop, uop, loadA, storeA, appA, ssliceA, eqA, eqCells, fillA, rowsA, setCells, A.cells, A.one, A.data, optP_some, List.all_cons, List.all_nil, Bool.and_true, Bool.true_and, Bool.false_and, Option.map_some, Option.map_none, Option.bind_some, Option.bind_none, Option.getD_some, Option.getD_none, List.map_cons, List.map_nil, List.getD_cons_zero, List.getD_cons_succ, List.getElem?_cons_zero, List.getElem?_cons_succ, List.getElem?_concat_length, get_p1, get_p2, set_p0, set_p1, set_p2, get_q1, get_q2, get_q3, set_q1, set_q2, set_q3, List.length_cons, List.length_nil, List.nil_append, List.cons_append, List.append_nil, List.set_cons_zero, List.set_cons_succ, List.drop_zero, List.drop_succ_cons, List.take_succ_cons, List.take_zero, List.take_nil, List.take_length, List.length_append, List.length_set, Nat.reduceAdd, Nat.reduceSub, Nat.reduceMul, Nat.reduceLeDiff, Nat.reduceEqDiff, Nat.reduceBEq, Int.toNat_natCast, Int.natCast_nonneg, Int.reduceBEq, Int.reduceBNe, Int.reduceLT, Int.reduceLE, Int.reduceEq, Int.le_refl, Int.toNat_zero, if_true, if_false, reduceIte, ite_true, ite_false, true_and, and_true, ne_eq, not_true_eq_false, not_false_eq_true, Bool.false_eq_true, reduceCtorEq, and_self, Nat.zero_add, Nat.add_zero, Nat.le_refl, Bool.not_true, Bool.not_false, and_self, decide_true, decide_false, beq_self_eq_true, bne_self_eq_false, forL, nxt2, Nat.reduceMod, Option.some.injEq, List.getD_cons_zero, List.getD_cons_succ, f] <;> exact True.intro) : A := h f
theorem rung {A B F : Prop} (f : F) (k : B) (h : F → B → A := by intro f k; (repeat (first | with_reducible refine gn_nil ?_ | ((with_reducible apply gn_op); exact rfl; (refine ⟨?_, ?_⟩); exact evg f; (first | exact True.intro | exact ing f)))); exact k) : A := h f k
end AX
end Go.Proofs.YtnjkemakcejceaaGreatDoor

namespace Go.Proofs.YtnjkemakcejceaaGreatDoor
open Go.RowKit
set_option maxHeartbeats 4000000
namespace AX
end AX
end Go.Proofs.YtnjkemakcejceaaGreatDoor

namespace Go.Proofs.YtnjkemakcejceaaGreatDoor
open Go.RowKit
set_option maxHeartbeats 4000000
namespace AX
def c_vnode : AX.AFn := ⟨50, .seq (.reg false [⟨some 1, .box 40 (.t 0), none, []⟩, ⟨some 2, .mv (.c (.int .i64 0)), none, []⟩]) (.seq (.seq (.reg false [⟨some 6, .load true 5 (.t 1), none, []⟩, ⟨some 7, .call 152 [.t 6], none, []⟩, ⟨some 8, .un .not (.t 7), none, []⟩]) (.cond (.t 8) (.seq (.reg false [⟨some 2, .mv (.c (.int .i64 1)), none, []⟩]) (.ret)) (.skip))) (.seq (.seq (.reg false [⟨some 9, .faddr 0 (.t 1), none, []⟩, ⟨some 10, .load false 1 (.t 9), none, []⟩]) (.block 0 (.seq (.reg false [⟨some 12, .bin .eql (.t 10) (.c (.int .i64 2)), none, []⟩, ⟨some 11, .mv (.t 12), none, []⟩]) (.cond (.t 11) (.seq (.reg false [⟨some 13, .faddr 1 (.t 1), none, []⟩, ⟨some 14, .load false 1 (.t 13), none, []⟩, ⟨some 15, .call 151 [.t 14], none, []⟩, ⟨some 16, .un .not (.t 15), none, []⟩]) (.cond (.t 16) (.seq (.reg false [⟨some 2, .mv (.c (.int .i64 5)), none, []⟩]) (.ret)) (.skip))) (.seq (.reg false [⟨some 18, .bin .eql (.t 10) (.c (.int .i64 3)), none, []⟩, ⟨some 17, .mv (.t 18), none, []⟩]) (.cond (.t 17) (.seq (.reg false [⟨some 19, .faddr 2 (.t 1), none, []⟩, ⟨some 20, .load false 1 (.t 19), none, []⟩, ⟨some 21, .call 153 [.t 20], none, []⟩, ⟨some 2, .mv (.t 21), none, []⟩]) (.ret)) (.seq (.reg false [⟨some 23, .bin .eql (.t 10) (.c (.int .i64 5)), none, []⟩, ⟨some 22, .mv (.t 23), none, []⟩]) (.cond (.t 22) (.seq (.reg false [⟨some 24, .faddr 4 (.t 1), none, []⟩, ⟨some 25, .load false 1 (.t 24), none, []⟩, ⟨some 26, .len false (.t 25), none, []⟩, ⟨some 27, .mv (.c (.int .i64 0)), none, []⟩]) (.block 1 (.loop (.seq (.reg false [⟨some 28, .bin .lss (.t 27) (.t 26), none, []⟩]) (.seq (.cond (.t 28) (.skip) (.exit 1)) (.seq (.block 2 (.seq (.reg false [⟨some 29, .mv (.t 27), none, []⟩, ⟨some 30, .iaddr 1 (.t 25) (.t 27), none, []⟩, ⟨some 31, .load false 1 (.t 30), none, []⟩, ⟨some 3, .mv (.t 29), none, []⟩, ⟨some 4, .mv (.t 31), none, []⟩]) (.seq (.seq (.reg false [⟨some 32, .mv (.t 4), none, []⟩, ⟨some 33, .call 153 [.t 32], none, []⟩, ⟨some 5, .mv (.t 33), none, []⟩]) (.seq (.reg false [⟨some 34, .mv (.t 5), none, []⟩, ⟨some 35, .bin .neq (.t 34) (.c (.int .i64 0)), none, []⟩]) (.cond (.t 35) (.seq (.reg false [⟨some 36, .mv (.t 5), none, []⟩, ⟨some 2, .mv (.t 36), none, []⟩]) (.ret)) (.skip)))) (.seq (.reg false [⟨some 37, .mv (.t 3), none, []⟩, ⟨some 38, .bin .gtr (.t 37) (.c (.int .i64 0)), none, []⟩, ⟨some 39, .mv (.t 38), none, []⟩, ⟨some 40, .mv (.t 4), some (39, true), []⟩, ⟨some 41, .faddr 4 (.t 1), some (39, true), []⟩, ⟨some 42, .load false 1 (.t 41), some (39, true), []⟩, ⟨some 43, .mv (.t 3), some (39, true), []⟩, ⟨some 44, .bin .sub (.t 43) (.c (.int .i64 1)), some (39, true), []⟩, ⟨some 45, .iaddr 1 (.t 42) (.t 44), some (39, true), []⟩, ⟨some 46, .load false 1 (.t 45), some (39, true), []⟩, ⟨some 47, .bin .leq (.t 40) (.t 46), some (39, true), []⟩, ⟨some 48, .pick (.t 39) (.t 47) (.c (.bool false)), none, []⟩]) (.cond (.t 48) (.seq (.reg false [⟨some 2, .mv (.c (.int .i64 1)), none, []⟩]) (.ret)) (.skip)))))) (.reg false [⟨some 49, .bin .add (.t 27) (.c (.int .i64 1)), none, []⟩, ⟨some 27, .mv (.t 49), none, []⟩]))))))) (.skip))))))))) (.seq (.reg false [⟨some 2, .mv (.c (.int .i64 0)), none, []⟩]) (.ret)))), [.t 2]⟩
theorem h_vnode : AX.compFn Tryz.prog 116 = some c_vnode := by kernel_rfl
def c_vCheck : AX.AFn := ⟨9, .seq (.reg false [⟨some 1, .box 40 (.t 0), none, []⟩, ⟨some 2, .mv (.c (.int .i64 0)), none, []⟩]) (.seq (.reg false [⟨some 3, .alloc 3 [.int .i64 0], none, []⟩, ⟨none, .store 1 (.t 3) (.c (.int .i64 0)), none, []⟩]) (.seq (.reg false [⟨some 4, .alloc 169 [.nilf], none, []⟩]) (.seq (.reg false [⟨some 5, .mkfn 115 [.t 3, .t 4], none, []⟩, ⟨none, .store 1 (.t 4) (.t 5), none, []⟩]) (.seq (.reg false [⟨some 6, .load false 1 (.t 4), none, []⟩, ⟨some 7, .load true 5 (.t 1), none, []⟩, ⟨some 8, .callv (.t 6) [.t 7, .c (.int .i64 1)], none, []⟩, ⟨some 2, .mv (.t 8), none, []⟩]) (.ret))))), [.t 2]⟩
theorem h_vCheck : AX.compFn Tryz.prog 76 = some c_vCheck := by kernel_rfl
def c_vvisit : AX.AFn := ⟨38, .seq (.reg false [⟨some 4, .box 40 (.t 0), none, []⟩, ⟨some 6, .mv (.c (.int .i64 0)), none, []⟩]) (.seq (.seq (.reg false [⟨some 11, .mv (.t 1), none, []⟩, ⟨some 12, .bin .gtr (.t 11) (.c (.int .i64 32)), none, []⟩]) (.cond (.t 12) (.seq (.reg false [⟨some 6, .mv (.c (.int .i64 4)), none, []⟩]) (.ret)) (.skip))) (.seq (.seq (.reg false [⟨some 13, .load false 1 (.t 2), none, []⟩, ⟨some 14, .bin .geq (.t 13) (.c (.int .i64 4096)), none, []⟩]) (.cond (.t 14) (.seq (.reg false [⟨some 6, .mv (.c (.int .i64 14)), none, []⟩]) (.ret)) (.skip))) (.seq (.reg false [⟨some 15, .load false 1 (.t 2), none, []⟩, ⟨some 16, .bin .add (.t 15) (.c (.int .i64 1)), none, []⟩, ⟨none, .store 1 (.t 2) (.t 16), none, []⟩]) (.seq (.seq (.reg false [⟨some 17, .load true 5 (.t 4), none, []⟩, ⟨some 18, .call 116 [.t 17], none, []⟩, ⟨some 7, .mv (.t 18), none, []⟩]) (.seq (.reg false [⟨some 19, .mv (.t 7), none, []⟩, ⟨some 20, .bin .neq (.t 19) (.c (.int .i64 0)), none, []⟩]) (.cond (.t 20) (.seq (.reg false [⟨some 21, .mv (.t 7), none, []⟩, ⟨some 6, .mv (.t 21), none, []⟩]) (.ret)) (.skip)))) (.seq (.seq (.reg false [⟨some 22, .faddr 3 (.t 4), none, []⟩, ⟨some 23, .load false 1 (.t 22), none, []⟩, ⟨some 24, .len false (.t 23), none, []⟩, ⟨some 25, .mv (.c (.int .i64 0)), none, []⟩]) (.block 0 (.loop (.seq (.reg false [⟨some 26, .bin .lss (.t 25) (.t 24), none, []⟩]) (.seq (.cond (.t 26) (.skip) (.exit 0)) (.seq (.block 1 (.seq (.reg false [⟨some 27, .iaddr 5 (.t 23) (.t 25), none, []⟩, ⟨some 28, .load true 5 (.t 27), none, []⟩, ⟨some 9, .alloc 40 [.int .i64 0, .int .i64 0, .str [], .sl 0 .nil [], .sl 0 .nil []], none, []⟩, ⟨none, .store 5 (.t 9) (.t 28), none, []⟩]) (.seq (.reg false [⟨some 29, .load false 1 (.t 3), none, []⟩, ⟨some 30, .load true 5 (.t 9), none, []⟩, ⟨some 31, .mv (.t 1), none, []⟩, ⟨some 32, .bin .add (.t 31) (.c (.int .i64 1)), none, []⟩, ⟨some 33, .callv (.t 29) [.t 30, .t 32], none, []⟩, ⟨some 10, .mv (.t 33), none, []⟩]) (.seq (.reg false [⟨some 34, .mv (.t 10), none, []⟩, ⟨some 35, .bin .neq (.t 34) (.c (.int .i64 0)), none, []⟩]) (.cond (.t 35) (.seq (.reg false [⟨some 36, .mv (.t 10), none, []⟩, ⟨some 6, .mv (.t 36), none, []⟩]) (.ret)) (.skip)))))) (.reg false [⟨some 37, .bin .add (.t 25) (.c (.int .i64 1)), none, []⟩, ⟨some 25, .mv (.t 37), none, []⟩]))))))) (.seq (.reg false [⟨some 6, .mv (.c (.int .i64 0)), none, []⟩]) (.ret))))))), [.t 6]⟩
theorem h_vvisit : AX.compFn Tryz.prog 115 = some c_vvisit := by kernel_rfl
theorem shaped_parts {k n : Int} {s : List UInt8} {is : List V} {ks : List (List UInt8)} (h : Val.shapedB k n s is.length ks.length = true) : (k ≠ 3 → s = []) ∧ (k ≠ 5 → ks = []) := by
 unfold Val.shapedB at h
 simp only [Bool.and_eq_true, Bool.or_eq_true, decide_eq_true_eq, beq_iff_eq] at h
 obtain ⟨⟨⟨⟨_, _⟩, h1⟩, _⟩, h2⟩ := h
 refine ⟨fun hk => ?_, fun hk => ?_⟩
 ·rcases h1 with h1 | h1
  ·exact absurd h1 hk
  ·exact h1
 ·rw [if_neg hk] at h2
  exact List.eq_nil_of_length_eq_zero (by simpa using h2)
theorem a_vnode (k n : Int) (s : List UInt8) (is : List V) (ks : List (List UInt8)) (hlen : (V.mk k n s is ks).lens) (h : Hp) : ACall Tryz.prog GT 116 [(V.mk k n s is ks).A] h fun r h' => r = .int .i64 (Val.nodeZ (.mk k n s is ks)) ∧ h' = h := by
 refine pcall ?_ rfl (by simp [V.A, V.cells, A.pure, A.data]) h
 obtain ⟨hil, hkl, _, _⟩ := V.lens_mk hlen
 refine acall_of mixedT h_vnode (by simp [c_vnode]) ?_
 dsimp only [c_vnode]
 (refine AX.goV True.intro ?_)
 (refine AX.gcV True.intro ?_)
 refine (a_shaped k n s .no .no 5 1 _ _ _).mono ?_
 rintro v h' ⟨rfl, rfl⟩
 rw [V.cellss_length, strsA_length]
 rcases bool_or (Val.shapedB k n s is.length ks.length) with hs | hs
 ·rw [hs]
  obtain ⟨hs3, hs5⟩ := shaped_parts hs
  have hZ : Val.nodeZ (.mk k n s is ks) = if k = 2 ∧ ¬ (-9007199254740992 ≤ n ∧ n ≤ 9007199254740992) then 5 else if Val.textZ s ≠ 0 then Val.textZ s else Val.keysZ none ks := by rw [Val.nodeZ, if_neg (by rw [hs]; simp)]
  have ht0 : Val.textZ [] = 0 := by decide
  have hk0 : Val.keysZ none [] = 0 := rfl
  by_cases h2 : k = 2
  ·have e2 : (k == 2) = true := by simp [h2]
   obtain rfl : s = [] := hs3 (by omega)
   obtain rfl : ks = [] := hs5 (by omega)
   (refine AX.goV e2 ?_)
   (refine AX.gcV e2 ?_)
   refine (a_nvalid n _).mono ?_
   rintro v h' ⟨rfl, rfl⟩
   by_cases hn : -9007199254740992 ≤ n ∧ n ≤ 9007199254740992
   ·(refine AX.goV (And.intro e2 hn) ?_)
    exact ⟨_, le_refl _, by rw [tupA_1, hZ, if_neg (by simp [hn]), ht0]; simp [hk0]⟩
   ·(refine AX.goV (And.intro e2 hn) ?_)
    exact ⟨_, le_refl _, by rw [tupA_1, hZ, if_pos ⟨h2, hn⟩]⟩
  have e2 : (k == 2) = false := by simp [h2]
  rw [if_neg (by simp [h2])] at hZ
  by_cases h3 : k = 3
  ·have e3 : (k == 3) = true := by simp [h3]
   obtain rfl : ks = [] := hs5 (by omega)
   (refine AX.goV (And.intro e2 e3) ?_)
   (refine AX.gcV (And.intro e2 e3) ?_)
   refine (a_vtext s _).mono ?_
   rintro v h' ⟨rfl, rfl⟩
   (refine AX.goV (And.intro e2 e3) ?_)
   exact ⟨_, le_refl _, by
    rw [tupA_1, hZ]
    split
    ·rfl
    ·next h => rw [hk0]; simp at h; rw [h]⟩
  have e3 : (k == 3) = false := by simp [h3]
  obtain rfl : s = [] := hs3 h3
  rw [ht0, if_neg (by simp)] at hZ
  by_cases h5 : k = 5
  ·have e5 : (k == 5) = true := by simp [h5]
   (refine AX.goV (And.intro e2 (And.intro e3 e5)) ?_)
   refine awp_loop (fun m ts h => h = ⟨[.cells 40 (V.mk k n [] is ks).cells], []⟩ ∧ ∃ (i : Nat), m = ks.length - i ∧ i ≤ ks.length ∧ Val.keysZ (if i = 0 then none else ks[i - 1]?) (ks.drop i) = Val.keysZ none ks ∧ ts 1 = .ptr 0 0 ∧ ts 25 = .sl 1 .no (strsA ks) ∧ ts 26 = .int .i64 ks.length ∧ ts 27 = .int .i64 i) ks.length ?_ ?_
   ·refine ⟨rfl, 0, rfl, Nat.zero_le _, rfl, ?_⟩
    (exact AX.inv0 @strsA_length)
   ·rintro m ts h ⟨rfl, i, rfl, hi, heq, t1, t25, t26, t27⟩
    by_cases hlt : i < ks.length
    ·have hlt2 : (i : Int) < (ks.length : Int) := by omega
     have hlt' : (i : Int) < ((strsA ks).length : Int) := by rw [strsA_length]; omega
     have ee := strsA_get ks i hlt
     have ei : IntKind.i64.wrap ((i : Int) + 1) = (i : Int) + 1 := wrap64 (by omega) (by omega)
     rw [List.drop_eq_getElem_cons hlt, Val.keysZ] at heq
     (refine AX.goC (And.intro t1 (And.intro t25 (And.intro t26 (And.intro t27 (And.intro hlt' (And.intro hlt2 (And.intro ee ei))))))) ?_)
     (refine AX.gcC (And.intro t1 (And.intro t25 (And.intro t26 (And.intro t27 (And.intro hlt' (And.intro ee ei)))))) ?_)
     refine (a_vtext ks[i] _).mono ?_
     rintro v h' ⟨rfl, rfl⟩
     by_cases ht2 : Val.textZ ks[i] = 0
     ·rw [if_neg (by simp [ht2])] at heq
      rw [ht2]
      cases i with
      | zero =>
       have h0 : ¬ ((0 : Nat) : Int) > 0 := by omega
       simp only [Nat.reduceAdd, if_true, Val.badB, Bool.false_eq_true, if_false] at heq
       (refine AX.goC (And.intro t1 (And.intro t25 (And.intro t26 (And.intro t27 (And.intro hlt' (And.intro hlt2 (And.intro ee (And.intro ei h0)))))))) ?_)
       refine ⟨ks.length - 1, by omega, rfl, 1, rfl, by omega, ?_, ?_⟩
       ·rw [← heq]; simp [hlt]
       ·(exact AX.inv0 (And.intro t1 (And.intro t25 (And.intro t26 (And.intro t27 ei)))))
      | succ j =>
       have h0 : ((j + 1 : Nat) : Int) > 0 := by omega
       have ej : IntKind.i64.wrap (((j + 1 : Nat) : Int) - 1) = (j : Int) := by rw [wrap64 (by omega) (by omega)]; omega
       have ee2 := strsA_get ks j (by omega)
       have hj' : (j : Int) < ((strsA ks).length : Int) := by omega
       have hkj : ks[j + 1 - 1]? = some (ks[j]'(by omega)) := List.getElem?_eq_getElem (by omega)
       rw [show (if j + 1 = 0 then none else ks[j + 1 - 1]?) = some (ks[j]'(by omega)) from by rw [if_neg (by omega)]; exact hkj] at heq
       simp only [Val.badB, Val.less_total] at heq
       rcases bool_or (Op.bytesLess ks[j + 1] (ks[j]'(by omega)) || ks[j + 1] == (ks[j]'(by omega))) with hb | hb
       ·simp only [hb, Bool.not_true, Bool.not_false, Bool.false_eq_true, if_false, if_true] at heq
        (refine AX.goC (And.intro t1 (And.intro t25 (And.intro t26 (And.intro t27 (And.intro hlt' (And.intro hlt2 (And.intro ee (And.intro ee2 (And.intro ei (And.intro ej (And.intro h0 (And.intro hj' hb)))))))))))) ?_)
        exact ⟨_, le_refl _, by rw [tupA_1, hZ, ← heq]⟩
       ·simp only [hb, Bool.not_true, Bool.not_false, Bool.false_eq_true, if_false, if_true] at heq
        (refine AX.goC (And.intro t1 (And.intro t25 (And.intro t26 (And.intro t27 (And.intro hlt' (And.intro hlt2 (And.intro ee (And.intro ee2 (And.intro ei (And.intro ej (And.intro h0 (And.intro hj' hb)))))))))))) ?_)
        refine ⟨ks.length - (j + 1 + 1), by omega, rfl, j + 1 + 1, rfl, by omega, ?_, ?_⟩
        ·rw [← heq]; simp [hlt]
        ·(exact AX.inv0 (And.intro t1 (And.intro t25 (And.intro t26 (And.intro t27 ei)))))
     ·have ht3 : (Val.textZ ks[i] != 0) = true := by simp [ht2]
      rw [if_pos (by simp [ht2])] at heq
      (refine AX.goC (And.intro t1 (And.intro t25 (And.intro t26 (And.intro t27 (And.intro hlt' (And.intro hlt2 (And.intro ee (And.intro ei ht3)))))))) ?_)
      exact ⟨_, le_refl _, by rw [tupA_1, hZ, ← heq]⟩
    ·have hlt2 : ¬ (i : Int) < (ks.length : Int) := by omega
     (refine AX.goC (And.intro t1 (And.intro t25 (And.intro t26 (And.intro t27 hlt2)))) ?_)
     refine ⟨_, le_refl _, ?_⟩
     rw [tupA_1, hZ, ← heq, List.drop_of_length_le (by omega)]
     cases (if i = 0 then none else ks[i - 1]?) <;> rfl
  have e5 : (k == 5) = false := by simp [h5]
  obtain rfl : ks = [] := hs5 h5
  (refine AX.goV (And.intro e2 (And.intro e3 e5)) ?_)
  exact ⟨_, le_refl _, by rw [tupA_1, hZ, hk0]⟩
 ·rw [hs]
  (refine AX.goV True.intro ?_)
  exact ⟨_, le_refl _, by rw [tupA_1, Val.nodeZ, if_pos hs]⟩
end AX
end Go.Proofs.YtnjkemakcejceaaGreatDoor

namespace Go.Proofs.YtnjkemakcejceaaGreatDoor
open Go.RowKit
set_option maxHeartbeats 4000000
namespace AX
theorem chks_nil' (lv b : Nat) : Val.chks [] lv b = (0, b) := by rw [Val.chks]
theorem chks_cons' (v : V) (l : List V) (lv b : Nat) : Val.chks (v :: l) lv b = if (Val.chk v lv b).1 ≠ 0 then Val.chk v lv b else Val.chks l lv (Val.chk v lv b).2 := by rw [Val.chks]
def cntB (b : Nat) : Blk := .cells 3 [.int .i64 b]
def visB : Blk := .cells 169 [.fn 115 [.ptr 1 0, .ptr 2 0]]
theorem get_app {l m : List Blk} {i : Nat} {x : Blk} (h : l[i]? = some x) : (l ++ m)[i]? = some x := by
 rw [List.getElem?_append_left (List.getElem?_eq_some_iff.1 h).1]; exact h
theorem set_new (l : List Blk) (x y : Blk) : (l ++ [x]).set l.length y = l ++ [y] := by
 rw [List.set_append_right _ _ (Nat.le_refl _)]; simp
theorem t_visit : ∀ (v : V) (lv b : Nat) (h : Hp), v.lens → h.b[1]? = some (cntB b) → h.b[2]? = some visB → ACall Tryz.prog GT 115 [v.A, .int .i64 lv, .ptr 1 0, .ptr 2 0] h fun r h' => r = .int .i64 (Val.chk v lv b).1 ∧ ((Val.chk v lv b).1 = 0 → h'.b[1]? = some (cntB (Val.chk v lv b).2) ∧ h'.b[2]? = some visB) := by
 refine V.induct fun k n s is ks ih => ?_
 intro lv b h hlen hb1 hb2
 refine acall_of mixedT h_vvisit (by simp [c_vvisit]) ?_
 dsimp only [c_vvisit]
 obtain ⟨hil, hkl, _, hmem⟩ := V.lens_mk hlen
 have hbl : 2 < h.b.length := (List.getElem?_eq_some_iff.1 hb2).1
 have g1 : ∀ m, (h.b ++ m)[1]? = some (.cells 3 [.int .i64 b]) := fun m => get_app hb1
 have g2 : ∀ m, (h.b ++ m)[2]? = some visB := fun m => get_app hb2
 have hC : ¬ (lv : Int) > 32 → ¬ (b : Int) ≥ 4096 → Val.chk (.mk k n s is ks) lv b = if Val.nodeZ (.mk k n s is ks) ≠ 0 then (Val.nodeZ (.mk k n s is ks), b) else Val.chks is (lv + 1) (b + 1) := fun h1 h2 => by rw [Val.chk, if_neg (by omega), if_neg (by omega)]
 by_cases h1 : (lv : Int) > 32
 ·have hC1 : Val.chk (.mk k n s is ks) lv b = (4, b) := by rw [Val.chk, if_pos (by omega)]
  (refine AX.goV h1 ?_)
  exact ⟨_, le_refl _, by rw [tupA_1, hC1], fun e => by rw [hC1] at e; simp at e⟩
 by_cases h2 : (b : Int) ≥ 4096
 ·have hC1 : Val.chk (.mk k n s is ks) lv b = (14, b) := by rw [Val.chk, if_neg (by omega), if_pos (by omega)]
  (refine AX.goV (And.intro h1 (And.intro h2 (And.intro g1 g2))) ?_)
  exact ⟨_, le_refl _, by rw [tupA_1, hC1], fun e => by rw [hC1] at e; simp at e⟩
 have eb : IntKind.i64.wrap ((b : Int) + 1) = ((b + 1 : Nat) : Int) := by rw [wrap64 (by omega) (by omega)]; omega
 have hne1 : ¬ (1 = h.b.length) := by omega
 have hle1 : 1 ≤ 1 := by omega
 (refine AX.goV (And.intro h1 (And.intro h2 (And.intro g1 (And.intro g2 (And.intro eb (And.intro (@List.getElem?_set AX.Blk) hne1)))))) ?_)
 (refine AX.gcV (And.intro h1 h2) ?_)
 refine (a_vnode k n s is ks hlen _).mono ?_
 rintro v h' ⟨rfl, rfl⟩
 have hC' := hC h1 h2
 by_cases hn : Val.nodeZ (.mk k n s is ks) = 0
 ·rw [hn]
  rw [if_neg (by simp [hn])] at hC'
  have elv : IntKind.i64.wrap ((lv : Int) + 1) = ((lv + 1 : Nat) : Int) := by rw [wrap64 (by omega) (by omega)]; omega
  (refine AX.goV (And.intro h1 (And.intro h2 (And.intro (@List.getElem?_set AX.Blk) hne1))) ?_)
  refine awp_loop (fun m ts hh => ∃ (i q : Nat), m = is.length - i ∧ i ≤ is.length ∧ Val.chks (is.drop i) (lv + 1) q = Val.chks is (lv + 1) (b + 1) ∧ hh.b[1]? = some (cntB q) ∧ hh.b[2]? = some visB ∧ ts 1 = .int .i64 lv ∧ ts 3 = .ptr 2 0 ∧ ts 23 = .sl 5 .no (V.cellss is) ∧ ts 24 = .int .i64 is.length ∧ ts 25 = .int .i64 i) is.length ?_ ?_
  ·refine ⟨0, b + 1, rfl, Nat.zero_le _, rfl, ?_, ?_, ?_⟩
   ·show (List.set _ 1 _)[1]? = _
    rw [List.getElem?_set, if_pos rfl, if_pos (by simp; omega)]; rfl
   ·show (List.set _ 1 _)[2]? = _
    rw [List.getElem?_set, if_neg (by omega)]; exact g2 _
   ·(exact AX.inv0 @V.cellss_length)
  ·rintro m ts hh ⟨i, q, rfl, hi, heq, p1, p2, t1, t3, t23, t24, t25⟩
   by_cases hlt : i < is.length
   ·have hlt2 : (i : Int) < (is.length : Int) := by omega
    have hlt' : (i : Int) < ((V.cellss is).length : Int) := by rw [V.cellss_length]; omega
    have ei : IntKind.i64.wrap ((i : Int) + 1) = (i : Int) + 1 := wrap64 (by omega) (by omega)
    have ee := V.cellss_get is i hlt
    have hcall := fun (h : Hp) => ih is[i] (List.getElem_mem hlt) (lv + 1) q h (hmem _ (List.getElem_mem hlt))
    rw [List.drop_eq_getElem_cons hlt, chks_cons'] at heq
    obtain ⟨⟨k', n', s', is', ks'⟩, hv⟩ : ∃ x, is[i] = x := ⟨_, rfl⟩
    rw [hv] at ee hcall heq
    have q2 : ∀ m, (hh.b ++ m)[2]? = some (.cells 169 [.fn 115 [.ptr 1 0, .ptr 2 0]]) := fun m => get_app p2
    (refine AX.goC (And.intro t1 (And.intro t3 (And.intro t23 (And.intro t24 (And.intro t25 (And.intro hlt' (And.intro hlt2 (And.intro ee (And.intro elv (And.intro ei (And.intro @set_new q2))))))))))) ?_)
    (refine AX.gcC (And.intro t1 (And.intro t3 (And.intro t23 (And.intro t24 (And.intro t25 elv))))) ?_)
    refine (hcall _ (get_app p1) (get_app p2)).mono ?_
    rintro v h' ⟨rfl, hcnt⟩
    by_cases hz : (Val.chk (.mk k' n' s' is' ks') (lv + 1) q).1 = 0
    ·rw [if_neg (by simp [hz])] at heq
     rw [hz]
     obtain ⟨r1, r2⟩ := hcnt hz
     (refine AX.goC (And.intro t1 (And.intro t3 (And.intro t23 (And.intro t24 (And.intro t25 ei))))) ?_)
     refine ⟨is.length - (i + 1), by omega, i + 1, _, rfl, by omega, heq, r1, r2, ?_⟩
     (exact AX.inv0 (And.intro t1 (And.intro t3 (And.intro t23 (And.intro t24 (And.intro t25 ei))))))
    ·have hz' : ((Val.chk (.mk k' n' s' is' ks') (lv + 1) q).1 != 0) = true := by simp [hz]
     rw [if_pos (by simp [hz])] at heq
     (refine AX.goC (And.intro t1 (And.intro t3 (And.intro t23 (And.intro t24 (And.intro t25 (And.intro ei hz')))))) ?_)
     exact ⟨_, le_refl _, by rw [tupA_1, hC', ← heq], fun e => by rw [hC', ← heq] at e; exact absurd e hz⟩
   ·have hlt2 : ¬ (i : Int) < (is.length : Int) := by omega
    rw [List.drop_of_length_le (by omega), chks_nil'] at heq
    (refine AX.goC (And.intro t1 (And.intro t3 (And.intro t23 (And.intro t24 (And.intro t25 hlt2))))) ?_)
    exact ⟨_, le_refl _, by rw [tupA_1, hC', ← heq], fun _ => by rw [hC', ← heq]; exact ⟨p1, p2⟩⟩
 ·have hn' : (Val.nodeZ (.mk k n s is ks) != 0) = true := by simp [hn]
  rw [if_pos (by simp [hn])] at hC'
  (refine AX.goV (And.intro h1 (And.intro h2 hn')) ?_)
  exact ⟨_, le_refl _, by rw [tupA_1, hC'], fun e => by rw [hC'] at e; exact absurd e hn⟩
theorem a_vCheck (v : V) (hlen : v.lens) (h : Hp) : ACall Tryz.prog GT 76 [v.A] h fun r h' => r = .int .i64 (Val.checkZ v) ∧ h' = h := by
 have ht : ∀ h : Hp, h.b[1]? = some (cntB 0) → h.b[2]? = some visB → ACall Tryz.prog GT 115 [v.A, .int .i64 1, .ptr 1 0, .ptr 2 0] h fun r h' => r = .int .i64 (Val.chk v 1 0).1 ∧ ((Val.chk v 1 0).1 = 0 → h'.b[1]? = some (cntB (Val.chk v 1 0).2) ∧ h'.b[2]? = some visB) := fun h => t_visit v 1 0 h hlen
 obtain ⟨k, n, s, is, ks⟩ := v
 refine pcall ?_ rfl (by simp [V.A, V.cells, A.pure, A.data]) h
 refine acall_of mixedT h_vCheck (by simp [c_vCheck]) ?_
 dsimp only [c_vCheck]
 (refine AX.goV True.intro ?_)
 (refine AX.gcV True.intro ?_)
 refine (ht _ rfl rfl).mono ?_
 rintro v h' ⟨rfl, _⟩
 (refine AX.goV True.intro ?_)
 exact ⟨_, le_refl _, rfl⟩
end AX
end Go.Proofs.YtnjkemakcejceaaGreatDoor

namespace Go.Proofs.YtnjkemakcejceaaGreatDoor
open Go.RowKit
set_option maxHeartbeats 4000000
namespace AX
end AX
end Go.Proofs.YtnjkemakcejceaaGreatDoor

namespace Go.Proofs.YtnjkemakcejceaaGreatDoor
open Go.RowKit
set_option maxHeartbeats 4000000
namespace AX
end AX
end Go.Proofs.YtnjkemakcejceaaGreatDoor

namespace Go.Proofs.YtnjkemakcejceaaGreatDoor
open Go.RowKit
set_option maxHeartbeats 4000000
namespace AX
def c_wnum : AX.AFn := ⟨10, .reg true [⟨some 4, .mv (.t 0), none, []⟩, ⟨some 5, .nilck (.t 4), none, [0]⟩, ⟨some 6, .faddr 0 (.t 5), none, [1]⟩, ⟨some 7, .mv (.t 1), none, []⟩, ⟨some 8, .call 163 [.c (.str []), .t 7], none, [3]⟩, ⟨some 9, .call 129 [.t 6, .t 8], none, [2, 4, 4]⟩], []⟩
theorem h_wnum : AX.compFn Tryz.prog 127 = some c_wnum := by kernel_rfl
def c_wtext : AX.AFn := ⟨13, .seq (.reg false [⟨some 4, .mv (.t 0), none, []⟩, ⟨some 5, .mv (.t 1), none, []⟩, ⟨some 6, .len true (.t 5), none, []⟩, ⟨some 7, .call 127 [.t 4, .t 6], none, []⟩]) (.reg false [⟨some 8, .mv (.t 0), none, []⟩, ⟨some 9, .nilck (.t 8), none, []⟩, ⟨some 10, .faddr 0 (.t 9), none, []⟩, ⟨some 11, .mv (.t 1), none, []⟩, ⟨some 12, .call 129 [.t 10, .t 11], none, []⟩]), []⟩
theorem h_wtext : AX.compFn Tryz.prog 128 = some c_wtext := by kernel_rfl
def c_wvalue : AX.AFn := ⟨55, .seq (.reg false [⟨some 3, .box 40 (.t 1), none, []⟩]) (.seq (.reg false [⟨some 6, .mv (.t 0), none, []⟩, ⟨some 7, .faddr 0 (.t 3), none, []⟩, ⟨some 8, .load false 1 (.t 7), none, []⟩, ⟨some 9, .call 127 [.t 6, .t 8], none, []⟩]) (.seq (.reg false [⟨some 10, .faddr 0 (.t 3), none, []⟩, ⟨some 11, .load false 1 (.t 10), none, []⟩]) (.block 0 (.seq (.seq (.reg false [⟨some 13, .bin .eql (.t 11) (.c (.int .i64 1)), none, []⟩, ⟨some 12, .mv (.t 13), none, []⟩]) (.cond (.t 12) (.skip) (.reg false [⟨some 14, .bin .eql (.t 11) (.c (.int .i64 2)), none, []⟩, ⟨some 12, .mv (.t 14), none, []⟩]))) (.cond (.t 12) (.reg false [⟨some 15, .mv (.t 0), none, []⟩, ⟨some 16, .faddr 1 (.t 3), none, []⟩, ⟨some 17, .load false 1 (.t 16), none, []⟩, ⟨some 18, .call 127 [.t 15, .t 17], none, []⟩]) (.seq (.reg false [⟨some 20, .bin .eql (.t 11) (.c (.int .i64 3)), none, []⟩, ⟨some 19, .mv (.t 20), none, []⟩]) (.cond (.t 19) (.reg false [⟨some 21, .mv (.t 0), none, []⟩, ⟨some 22, .faddr 2 (.t 3), none, []⟩, ⟨some 23, .load false 1 (.t 22), none, []⟩, ⟨some 24, .call 128 [.t 21, .t 23], none, []⟩]) (.seq (.seq (.reg false [⟨some 26, .bin .eql (.t 11) (.c (.int .i64 4)), none, []⟩, ⟨some 25, .mv (.t 26), none, []⟩]) (.cond (.t 25) (.skip) (.reg false [⟨some 27, .bin .eql (.t 11) (.c (.int .i64 5)), none, []⟩, ⟨some 25, .mv (.t 27), none, []⟩]))) (.cond (.t 25) (.seq (.reg false [⟨some 28, .mv (.t 0), none, []⟩, ⟨some 29, .faddr 3 (.t 3), none, []⟩, ⟨some 30, .load false 1 (.t 29), none, []⟩, ⟨some 31, .len false (.t 30), none, []⟩, ⟨some 32, .call 127 [.t 28, .t 31], none, []⟩]) (.seq (.reg false [⟨some 33, .faddr 3 (.t 3), none, []⟩, ⟨some 34, .load false 1 (.t 33), none, []⟩, ⟨some 35, .len false (.t 34), none, []⟩, ⟨some 36, .mv (.c (.int .i64 0)), none, []⟩]) (.block 1 (.loop (.seq (.reg false [⟨some 37, .bin .lss (.t 36) (.t 35), none, []⟩]) (.seq (.cond (.t 37) (.skip) (.exit 1)) (.seq (.block 2 (.seq (.reg false [⟨some 38, .mv (.t 36), none, []⟩, ⟨some 39, .iaddr 5 (.t 34) (.t 36), none, []⟩, ⟨some 40, .load true 5 (.t 39), none, []⟩, ⟨some 5, .alloc 40 [.int .i64 0, .int .i64 0, .str [], .sl 0 .nil [], .sl 0 .nil []], none, []⟩, ⟨some 4, .mv (.t 38), none, []⟩, ⟨none, .store 5 (.t 5) (.t 40), none, []⟩]) (.seq (.seq (.reg false [⟨some 41, .faddr 0 (.t 3), none, []⟩, ⟨some 42, .load false 1 (.t 41), none, []⟩, ⟨some 43, .bin .eql (.t 42) (.c (.int .i64 5)), none, []⟩]) (.cond (.t 43) (.reg false [⟨some 44, .mv (.t 0), none, []⟩, ⟨some 45, .faddr 4 (.t 3), none, []⟩, ⟨some 46, .load false 1 (.t 45), none, []⟩, ⟨some 47, .mv (.t 4), none, []⟩, ⟨some 48, .iaddr 1 (.t 46) (.t 47), none, []⟩, ⟨some 49, .load false 1 (.t 48), none, []⟩, ⟨some 50, .call 128 [.t 44, .t 49], none, []⟩]) (.skip))) (.reg false [⟨some 51, .mv (.t 0), none, []⟩, ⟨some 52, .load true 5 (.t 5), none, []⟩, ⟨some 53, .call 84 [.t 51, .t 52], none, []⟩])))) (.reg false [⟨some 54, .bin .add (.t 36) (.c (.int .i64 1)), none, []⟩, ⟨some 36, .mv (.t 54), none, []⟩])))))))) (.skip)))))))))), []⟩
theorem h_wvalue : AX.compFn Tryz.prog 84 = some c_wvalue := by kernel_rfl
def WP (i : Nat) (ver : Int) (l : List UInt8) (h h' : Hp) : Prop := Wt h' i ver l ∧ h'.t = h.t ∧ ∀ j x, j ≠ i → h.b[j]? = some x → h'.b[j]? = some x
theorem WP.of {h : Hp} {i : Nat} {ver : Int} {l l' : List UInt8} (hw : Wt h i ver l) : WP i ver l' h ⟨h.b.set i (wtr ver l'), h.t⟩ := by
 refine ⟨.inl ?_, rfl, fun j x hj hx => ?_⟩
 ·show (List.set _ i _)[i]? = _
  rw [List.getElem?_set, if_pos rfl, if_pos hw.lt]
 ·show (List.set _ i _)[j]? = _
  rw [List.getElem?_set, if_neg (Ne.symm hj)]; exact hx
theorem WP.tr {i : Nat} {ver : Int} {l l' : List UInt8} {h h' h'' : Hp} (a : WP i ver l h h') (b : WP i ver l' h' h'') : WP i ver l' h h'' :=
 ⟨b.1, b.2.1.trans a.2.1, fun j x hj hx => b.2.2 j x hj (a.2.2 j x hj hx)⟩
theorem get_app5 {l m : List Blk} {i : Nat} {x : Blk} (h : l[i]? = some x) : (l ++ m)[i]? = some x := by
 rw [List.getElem?_append_left (List.getElem?_eq_some_iff.1 h).1]; exact h
theorem set_new5 (l : List Blk) (x y : Blk) : (l ++ [x]).set l.length y = l ++ [y] := by
 rw [List.set_append_right _ _ (Nat.le_refl _)]; simp
theorem Wt.app {b : List Blk} {t : _} {i : Nat} {ver : Int} {l : List UInt8} (hw : Wt ⟨b, t⟩ i ver l) (m : List Blk) : Wt ⟨b ++ m, t⟩ i ver l := by
 rcases hw with h | ⟨h0, h⟩
 ·exact .inl (get_app5 h)
 ·exact .inr ⟨h0, get_app5 h⟩
theorem WP.app {b : List Blk} {t : _} {m : List Blk} {h' : Hp} {i : Nat} {ver : Int} {l : List UInt8} (hp : WP i ver l ⟨b ++ m, t⟩ h') : WP i ver l ⟨b, t⟩ h' :=
 ⟨hp.1, hp.2.1, fun j x hj hx => hp.2.2 j x hj (get_app5 hx)⟩
theorem num_len (n : Int) : (Wire.num n).length ≤ 10 := (Wire.encF_len 9 (Wire.zig n)).2
theorem a_wnum {h : Hp} {i : Nat} {ver : Int} {l : List UInt8} (hw : Wt h i ver l) (n : Int) (hlen : l.length + 10 ≤ 1000000000) (h0 : -9223372036854775808 ≤ n) (h1 : n ≤ 9223372036854775807) :
  ACall Tryz.prog GT 127 [.ptr i 0, .int .i64 n] h fun u h' => u = .tup [] ∧ WP i ver (l ++ Wire.num n) h h' := by
 have hn := num_len n
 refine acall_of mixedT h_wnum (by simp [c_wnum]) ?_
 dsimp only [c_wnum]
 refine awp_last _ _ ⟨h.b.set i (wtr ver (l ++ Wire.num n)), h.t⟩ (.tup [.int .i64 (Wire.num n).length, .nili]) (List.dropLast_concat_getLast (l := _ :: _) (by simp)).symm (by decide) ?_
 dsimp only [List.dropLast, List.getLast]
 (refine AX.go0 True.intro ?_)
 refine gq_call (vs := [.str [], .int .i64 n]) (r := .str (Wire.num n)) (by (exact AX.ev0 True.intro)) ?_ ?_
 ·refine (a_appendNumber [] n (by simp) h0 h1 _).mono ?_
  rintro v h' ⟨rfl, rfl⟩
  exact ⟨by simp, rfl⟩
 refine gq_nil ⟨?_, ?_⟩
 ·show ACall _ _ _ _ _ _
  simp only [put_app, put_none, init_app, evX_t, evX_c, resA_nil, resA_t, resA_c, tupA_0, tupA_1, tupA_2, astep, bop, uop, loadA, storeA, appA, ssliceA, eqA, eqCells, fillA, rowsA, setCells, A.cells, A.one, A.data, optP_some, List.all_cons, List.all_nil, Bool.and_true, Bool.true_and, Option.map_some, Option.map_none, Option.bind_some, Option.bind_none, Option.getD_some, Option.getD_none, List.map_cons, List.map_nil, List.getD_cons_zero, List.getD_cons_succ, List.getElem?_cons_zero, List.getElem?_cons_succ, List.length_cons, List.length_nil, List.nil_append, List.cons_append, List.append_nil, List.set_cons_zero, List.set_cons_succ, List.drop_zero, List.drop_succ_cons, List.take_succ_cons, List.take_zero, List.take_nil, List.length_append, List.length_set, Nat.reduceAdd, Nat.reduceSub, Nat.reduceMul, Nat.reduceLeDiff, Nat.reduceEqDiff, Nat.reduceBEq, Int.toNat_natCast, Int.natCast_nonneg, if_true, if_false, reduceIte, ite_true, ite_false, true_and, and_true, ne_eq, not_true_eq_false, not_false_eq_true, Bool.false_eq_true, reduceCtorEq, and_self, Nat.zero_add, Nat.add_zero, Nat.le_refl, Bool.not_true, Bool.not_false, decide_true, decide_false]
  exact a_write hw _ (by omega)
 ·exact go_fn rfl ⟨_, le_refl _, rfl, WP.of hw⟩
theorem a_wtext {h : Hp} {i : Nat} {ver : Int} {l : List UInt8} (hw : Wt h i ver l) (s : List UInt8) (hlen : l.length + s.length + 10 ≤ 1000000000) :
  ACall Tryz.prog GT 128 [.ptr i 0, .str s] h fun u h' => u = .tup [] ∧ WP i ver (l ++ Wire.strE s) h h' := by
 have hn := num_len s.length
 refine acall_of mixedT h_wtext (by simp [c_wtext]) ?_
 dsimp only [c_wtext]
 (refine AX.go0 True.intro ?_)
 (refine AX.gc0 True.intro ?_)
 refine (a_wnum hw s.length (by omega) (by omega) (by omega)).mono ?_
 rintro v h' ⟨-, hp⟩
 (refine AX.go0 True.intro ?_)
 (refine AX.gc0 True.intro ?_)
 refine (a_write hp.1 s (by rw [List.length_append]; omega)).mono ?_
 rintro v h' ⟨rfl, rfl⟩
 refine go_nil (go_fn rfl ⟨_, le_refl _, rfl, ?_⟩)
 rw [Wire.strE, ← List.append_assoc]
 exact hp.tr (WP.of hp.1)
theorem encs_step (m : Bool) (is : List V) (ks : List (List UInt8)) (j : Nat) (hj : j < is.length) : (Val.encs m (is.take j) ks).length + (Val.keyE m (ks.drop j)).length + (Val.enc is[j]).length ≤ (Val.encs m is ks).length := by
 have key : ∀ d, j + 1 + d ≤ is.length → (Val.encs m (is.take (j + 1)) ks).length ≤ (Val.encs m (is.take (j + 1 + d)) ks).length := by
  intro d
  induction d with
  | zero => intro _; exact Nat.le_refl _
  | succ d ihd =>
   intro hd
   have h1 := Val.encs_take m is ks (j + 1 + d) (by omega)
   have h2 := ihd (by omega)
   have h3 : (Val.encs m (is.take (j + 1 + (d + 1))) ks).length = _ := congrArg List.length h1
   rw [List.length_append] at h3
   omega
 have h1 := Val.encs_take m is ks j hj
 have h2 := key (is.length - (j + 1)) (by omega)
 rw [show j + 1 + (is.length - (j + 1)) = is.length by omega, List.take_length, h1, List.length_append, List.length_append] at h2
 omega
theorem t_value : ∀ (v : V) (i : Nat) (ver : Int) (l : List UInt8) (h : Hp), Wt h i ver l → (∃ lv b, (Val.chk v lv b).1 = 0) → l.length + (Val.enc v).length + 10 ≤ 1000000000 → v.lens → ACall Tryz.prog GT 84 [.ptr i 0, v.A] h fun u h' => u = .tup [] ∧ WP i ver (l ++ Val.enc v) h h' := by
 refine V.induct fun k n s is ks ih => ?_
 rintro i ver l ⟨hb, ht⟩ hw ⟨lv, b, hchk⟩ hlen hlens
 refine acall_of mixedT h_wvalue (by simp [c_wvalue]) ?_
 dsimp only [c_wvalue]
 obtain ⟨hil, hkl, _, hmem⟩ := V.lens_mk hlens
 obtain ⟨_, _, hz, hcs⟩ := Val.chk_parts hchk
 obtain ⟨hsh, hn2, hts, hks⟩ := Val.shaped_of hz
 have hs := Val.text_len hts
 have hkk := Val.keys_len ks none hks
 unfold Val.shapedB at hsh
 simp only [Bool.and_eq_true, Bool.or_eq_true, decide_eq_true_eq, beq_iff_eq] at hsh
 obtain ⟨⟨⟨⟨⟨hk0, hk6⟩, hnn⟩, _⟩, _⟩, hkn⟩ := hsh
 have hne : ¬ (i = hb.length) := by have := hw.lt; simp at this; omega
 have hE : Val.enc (.mk k n s is ks) = Wire.num k ++ (if k = 1 ∨ k = 2 then Wire.num n else if k = 3 then Wire.strE s else if k = 4 ∨ k = 5 then Wire.num is.length ++ Val.encs (k == 5) is ks else []) := by rw [Val.enc]
 rw [hE] at hlen ⊢
 simp only [List.length_append] at hlen
 (refine AX.goV True.intro ?_)
 (refine AX.gcV True.intro ?_)
 refine (a_wnum (hw.app _) k (by omega) (by omega) (by omega)).mono ?_
 rintro v0 h1 ⟨-, hp1⟩
 have g1 : h1.b[hb.length]? = some (.cells 40 (V.mk k n s is ks).cells) := hp1.2.2 _ _ (Ne.symm hne) List.getElem?_concat_length
 simp only [V.cells] at g1
 have hlk := num_len k
 by_cases hk12 : k = 1 ∨ k = 2
 ·rw [if_pos hk12] at hlen ⊢
  have hn : -9223372036854775808 ≤ n ∧ n ≤ 9223372036854775807 := by
   rcases hk12 with rfl | rfl
   ·rcases hnn with (h | h) | h
    ·exact absurd h (by decide)
    ·omega
    ·omega
   ·have := hn2 rfl; omega
  rcases hk12 with rfl | rfl
  all_goals
   (refine AX.go0 g1 ?_)
   (refine AX.gc0 g1 ?_)
   refine (a_wnum hp1.1 n (by rw [List.length_append]; omega) (by omega) (by omega)).mono ?_
   rintro v2 h2 ⟨-, hp2⟩
   (refine AX.go0 g1 ?_)
   refine ⟨_, le_refl _, rfl, ?_⟩
   rw [← List.append_assoc]
   exact (hp1.tr hp2).app
 rw [if_neg hk12] at hlen ⊢
 have e1 : (k == 1) = false := by simp; omega
 have e2 : (k == 2) = false := by simp; omega
 by_cases hk3 : k = 3
 ·rw [if_pos hk3] at hlen ⊢
  subst hk3
  (refine AX.go0 g1 ?_)
  (refine AX.gc0 g1 ?_)
  unfold Wire.strE at hlen
  rw [List.length_append] at hlen
  refine (a_wtext hp1.1 s (by rw [List.length_append]; omega)).mono ?_
  rintro v2 h2 ⟨-, hp2⟩
  (refine AX.go0 g1 ?_)
  refine ⟨_, le_refl _, rfl, ?_⟩
  rw [← List.append_assoc]
  exact (hp1.tr hp2).app
 rw [if_neg hk3] at hlen ⊢
 have e3 : (k == 3) = false := by simp; omega
 by_cases hk45 : k = 4 ∨ k = 5
 ·rw [if_pos hk45] at hlen ⊢
  rw [List.length_append] at hlen
  have hkl5 : (k == 5) = true → ks.length = is.length := fun e => by
   rw [if_pos (by simpa using e)] at hkn; simpa using hkn
  have hln := num_len is.length
  have step : ∀ (j : Nat) (hj : j < is.length), (Val.encs (k == 5) (is.take j) ks).length + (Val.keyE (k == 5) (ks.drop j)).length + (Val.enc is[j]).length ≤ (Val.encs (k == 5) is ks).length := encs_step _ _ _
  have e45 : (k == 4) = true ∨ (k == 4) = false ∧ (k == 5) = true := by
   rcases hk45 with rfl | rfl
   ·exact .inl rfl
   ·exact .inr ⟨rfl, rfl⟩
  rcases e45 with e4 | ⟨e4, e5⟩
  all_goals
   (refine AX.go0 (And.intro g1 (And.intro e1 (And.intro e2 (And.intro e3 (And.intro e4 @V.cellss_length))))) ?_)
   try (refine AX.go0 (And.intro g1 (And.intro e1 (And.intro e2 (And.intro e3 (And.intro e4 (And.intro e5 @V.cellss_length)))))) ?_)
   (refine AX.gc0 g1 ?_)
   refine (a_wnum hp1.1 is.length (by rw [List.length_append]; omega) (by omega) (by omega)).mono ?_
   rintro v2 h2 ⟨-, hp2⟩
   have g2 := hp2.2.2 _ _ (Ne.symm hne) g1
   (refine AX.go0 (And.intro g2 @V.cellss_length) ?_)
   refine awp_loop (fun m ts hh => ∃ (j : Nat), m = is.length - j ∧ j ≤ is.length ∧ WP i ver (l ++ Wire.num k ++ Wire.num is.length ++ Val.encs (k == 5) (is.take j) ks) ⟨hb, ht⟩ hh ∧ hh.b[hb.length]? = some (.cells 40 [.int .i64 k, .int .i64 n, .str s, .sl 5 .no (V.cellss is), .sl 1 .no (strsA ks)]) ∧ ts 0 = .ptr i 0 ∧ ts 3 = .ptr hb.length 0 ∧ ts 34 = .sl 5 .no (V.cellss is) ∧ ts 35 = .int .i64 is.length ∧ ts 36 = .int .i64 j) is.length ?_ ?_
   ·refine ⟨0, rfl, Nat.zero_le _, ?_, g2, ?_⟩
    ·have := (hp1.tr hp2).app
     simpa [Val.encs] using this
    ·(exact AX.inv0 @V.cellss_length)
   ·rintro m ts hh ⟨j, rfl, hj, hp, g3, t0, t3, t34, t35, t36⟩
    by_cases hlt : j < is.length
    ·have hlt2 : (j : Int) < (is.length : Int) := by omega
     have hla : (j : Int) < ((V.cellss is).length : Int) := by rw [V.cellss_length]; omega
     have ei : IntKind.i64.wrap ((j : Int) + 1) = (j : Int) + 1 := wrap64 (by omega) (by omega)
     have ee := V.cellss_get is j hlt
     have hst := step j hlt
     have htk := Val.encs_take (k == 5) is ks j hlt
     have hcall := fun (l' : List UInt8) (h : Hp) (hw : Wt h i ver l') (hb : l'.length + (Val.enc is[j]).length + 10 ≤ 1000000000) => ih is[j] (List.getElem_mem hlt) i ver l' h hw ((Val.chks_get is _ _ hcs j hlt).elim fun b' hb' => ⟨_, b', hb'⟩) hb (hmem _ (List.getElem_mem hlt))
     obtain ⟨⟨k', n', s', is', ks'⟩, hv⟩ : ∃ x, is[j] = x := ⟨_, rfl⟩
     rw [hv] at ee hcall htk hst
     have hil2 : hh.b.length ≠ i := fun e => by have := hp.1.lt; omega
     have q3 : ∀ m, (hh.b ++ m)[hb.length]? = some (.cells 40 [.int .i64 k, .int .i64 n, .str s, .sl 5 .no (V.cellss is), .sl 1 .no (strsA ks)]) := fun m => get_app5 g3
     rcases bool_or (k == 5) with e5' | e5'
     ·have hkj : j < ks.length := by rw [hkl5 e5']; exact hlt
      have hlk2 : (j : Int) < ((strsA ks).length : Int) := by rw [strsA_length]; omega
      have ek := strsA_get ks j hkj
      have hke : Val.keyE (k == 5) (ks.drop j) = Wire.strE ks[j] := by rw [e5', List.drop_eq_getElem_cons hkj]; rfl
      rw [hke] at htk hst
      have hsl : (Wire.strE ks[j]).length = (Wire.num ks[j].length).length + ks[j].length := by unfold Wire.strE; rw [List.length_append]
      (refine AX.goC (And.intro t0 (And.intro t3 (And.intro t34 (And.intro t35 (And.intro t36 (And.intro hla (And.intro hlt2 (And.intro ee (And.intro ei (And.intro @set_new5 (And.intro q3 (And.intro e5' (And.intro hlk2 ek))))))))))))) ?_)
      (refine AX.gc0 (And.intro t0 (And.intro t3 (And.intro t34 (And.intro t35 t36)))) ?_)
      refine (a_wtext (hp.1.app _) ks[j] (by simp only [List.length_append]; omega)).mono ?_
      rintro v3 h3 ⟨-, hp3⟩
      have g4 := hp3.2.2 _ _ (Ne.symm hne) (q3 _)
      have g5 := hp3.2.2 _ _ hil2 List.getElem?_concat_length
      (refine AX.go0 (And.intro t0 (And.intro t3 (And.intro t34 (And.intro t35 (And.intro t36 (And.intro g4 g5)))))) ?_)
      (refine AX.gc0 (And.intro t0 (And.intro t3 (And.intro t34 (And.intro t35 t36)))) ?_)
      refine (hcall _ _ hp3.1 (by simp only [List.length_append]; omega)).mono ?_
      rintro v4 h4 ⟨-, hp4⟩
      have g6 := hp4.2.2 _ _ (Ne.symm hne) g4
      (refine AX.go0 (And.intro t0 (And.intro t3 (And.intro t34 (And.intro t35 (And.intro t36 ei))))) ?_)
      refine ⟨is.length - (j + 1), by omega, j + 1, rfl, by omega, ?_, g6, ?_⟩
      ·rw [htk, ← List.append_assoc, ← List.append_assoc]
       exact hp.tr (hp3.tr hp4).app
      ·(exact AX.inv0 (And.intro t0 (And.intro t3 (And.intro t34 (And.intro t35 (And.intro t36 ei))))))
     ·have hke : Val.keyE (k == 5) (ks.drop j) = [] := by rw [e5']; rfl
      rw [hke] at htk hst
      (refine AX.goC (And.intro t0 (And.intro t3 (And.intro t34 (And.intro t35 (And.intro t36 (And.intro hla (And.intro hlt2 (And.intro ee (And.intro ei (And.intro @set_new5 (And.intro q3 e5'))))))))))) ?_)
      (refine AX.gc0 (And.intro t0 (And.intro t3 (And.intro t34 (And.intro t35 t36)))) ?_)
      refine (hcall _ _ (hp.1.app _) (by simp only [List.length_append]; omega)).mono ?_
      rintro v4 h4 ⟨-, hp4⟩
      have g6 := hp4.2.2 _ _ (Ne.symm hne) (q3 _)
      (refine AX.go0 (And.intro t0 (And.intro t3 (And.intro t34 (And.intro t35 (And.intro t36 ei))))) ?_)
      refine ⟨is.length - (j + 1), by omega, j + 1, rfl, by omega, ?_, g6, ?_⟩
      ·rw [htk, List.nil_append, ← List.append_assoc]
       exact hp.tr hp4.app
      ·(exact AX.inv0 (And.intro t0 (And.intro t3 (And.intro t34 (And.intro t35 (And.intro t36 ei))))))
    ·have hlt2 : ¬ (j : Int) < (is.length : Int) := by omega
     rw [List.take_of_length_le (by omega)] at hp
     (refine AX.go0 (And.intro t0 (And.intro t3 (And.intro t34 (And.intro t35 (And.intro t36 hlt2))))) ?_)
     refine ⟨_, le_refl _, rfl, ?_⟩
     rw [← List.append_assoc, ← List.append_assoc]
     exact hp
 ·rw [if_neg hk45] at hlen ⊢
  rw [List.append_nil]
  have e4 : (k == 4) = false := by simp; omega
  have e5 : (k == 5) = false := by simp; omega
  (refine AX.go0 (And.intro g1 (And.intro e1 (And.intro e2 (And.intro e3 (And.intro e4 e5))))) ?_)
  exact ⟨_, le_refl _, rfl, hp1.app⟩
theorem enc_ne (v : V) : Val.enc v ≠ [] := by
 obtain ⟨k, n, s, is, ks⟩ := v
 rw [Val.enc]
 intro h
 have := (List.append_eq_nil_iff.1 h).1
 unfold Wire.num Wire.encF at this
 split at this <;> simp at this
end AX
end Go.Proofs.YtnjkemakcejceaaGreatDoor
