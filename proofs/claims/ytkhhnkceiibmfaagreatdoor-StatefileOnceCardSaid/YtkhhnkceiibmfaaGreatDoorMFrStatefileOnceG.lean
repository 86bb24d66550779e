/- Part of what the proof needs. -/
import Derived.Test.YtkhhnkceiibmfaaGreatDoorMFrStatefileOnceA
import Derived.Test.YtkhhnkceiibmfaaGreatDoorMFrStatefileOnceB
import Derived.Test.YtkhhnkceiibmfaaGreatDoorMFrStatefileOnceC
import Derived.Test.YtkhhnkceiibmfaaGreatDoorMFrStatefileOnceD
import Derived.Test.YtkhhnkceiibmfaaGreatDoorMFrStatefileOnceF
import Derived.Test.YtkhhnkceiibmfaaGreatDoorProg
import Derived.KernelRfl
import Derived.Test.YtkhhnkceiibmfaaGreatDoorCards
import Derived.Test.YtkhhnkceiibmfaaGreatDoorTie
import Derived.ProofKit
import Derived.OpenShut
import Derived.ShutString
import Derived.ChangeOld
import Derived.Below
import Derived.Deep.DeepHandedRow
import Derived.Lib.LaidU8
import Derived.MakeChecks
import Derived.Shelf.Unicode.DecodeSlow
import Derived.Lib.ParseIntB
import Derived.Test.YtkhhnkceiibmfaaGreatDoorShelfP
import Derived.Laws.RangeAny
import Derived.Laws.Runes
import Derived.Lib.OthersKept
import Derived.Deep.LoopGhost
import Derived.BigRegion
import Derived.BigQuiet
import Derived.Deep.QuietTactic
import Derived.WalkMore
import Derived.IntWalk
namespace Go.Proofs.YtkhhnkceiibmfaaGreatDoor
open Go.RowKit
set_option linter.unusedSimpArgs false
set_option linter.unusedVariables false
def strsA (l : List (List UInt8)) : List (List AX.A) := l.map fun s => [.str s]
mutual
def V.cells : V → List AX.A
  | .mk k n s is ks => [.int .i64 k, .int .i64 n, .str s, .sl 5 .no (V.cellss is), .sl 1 .no (strsA ks)]
def V.cellss : List V → List (List AX.A)
  | [] => []
  | v :: l => v.cells :: V.cellss l
end
def V.A (v : V) : AX.A := .agg v.cells
theorem V.cellss_map : ∀ l : List V, V.cellss l = l.map V.cells
  | [] => rfl
  | v :: l => by rw [V.cellss, V.cellss_map l]; rfl
theorem V.cellss_length (l : List V) : (V.cellss l).length = l.length := by rw [V.cellss_map]; simp
theorem strsA_length (l : List (List UInt8)) : (strsA l).length = l.length := by simp [strsA]
theorem strsA_get (l : List (List UInt8)) (i : Nat) (h : i < l.length) : (strsA l).getD i [] = [.str l[i]] := by simp [strsA, List.getD, h]
theorem V.cellss_get (l : List V) (i : Nat) (h : i < l.length) : (V.cellss l).getD i [] = l[i].cells := by rw [V.cellss_map]; simp [List.getD, h]
theorem V.pure (v : V) : v.A.pure = true := by cases v; unfold V.A V.cells; rfl
mutual
/-- A value's items and keys are no more than memory bears. -/
def V.lens : V → Prop
  | .mk k n s is ks => is.length ≤ maxLen ∧ ks.length ≤ maxLen ∧ s.length ≤ maxLen ∧ (∀ q ∈ ks, q.length ≤ maxLen) ∧ V.lensS is
def V.lensS : List V → Prop
  | [] => True
  | v :: l => v.lens ∧ V.lensS l
end
theorem V.lensS_mem : ∀ {l : List V}, V.lensS l → ∀ x ∈ l, x.lens
  | [], _ => by simp
  | v :: l, h => by
    unfold V.lensS at h
    exact List.forall_mem_cons.2 ⟨h.1, V.lensS_mem h.2⟩
theorem V.lens_mk {k n : Int} {s : List UInt8} {is : List V} {ks : List (List UInt8)} (h : (V.mk k n s is ks).lens) : is.length ≤ 9223372036854775807 ∧ ks.length ≤ 9223372036854775807 ∧ s.length ≤ 9223372036854775807 ∧ (∀ x ∈ is, x.lens) := by
  unfold V.lens at h
  simp only [maxLen] at h
  exact ⟨by omega, by omega, by omega, V.lensS_mem h.2.2.2.2⟩
def IfaceAt (g : Nat) (w : World) : Prop := ∃ ev, w.cell? ⟨g, 0, none⟩ = some ev ∧ (ev = .nilIface ∨ ∃ te pe, ev = .iface te pe)
/-- The tables of UTF-8; the errors of strconv. -/
structure GT (w : World) : Prop where
  tabs : Lib.Utf8Tabs 0 1 w
  esyn : IfaceAt 3 w
  erng : IfaceAt 4 w
  tz : w.cell? ⟨7, 15, none⟩ = some (.int .u8 4)
namespace AX
theorem mixedT : Tryz.prog.follows Departure.mixedOrders = true := by kernel_rfl
theorem args1 {x : A} {v : Value} (h : ∀ C c, Rep C x c → c = v) : ∀ C cs, RepL C [x] cs → cs = [v] := fun C cs hr => by
  obtain ⟨c, cs', rfl, h1, h2⟩ := repL_cons.1 hr
  rw [repL_nil] at h2; subst h2
  rw [h C c h1]
theorem args2 {x y : A} {v u : Value} (h : ∀ C c, Rep C x c → c = v) (h' : ∀ C c, Rep C y c → c = u) : ∀ C cs, RepL C [x, y] cs → cs = [v, u] := fun C cs hr => by
  obtain ⟨c, cs', rfl, h1, h2⟩ := repL_cons.1 hr
  rw [args1 h' C cs' h2, h C c h1]
theorem r_str {l : List UInt8} : ∀ C c, Rep C (.str l) c → c = .string ⟨l.toArray⟩ := fun C c h => rep_str.1 h
theorem r_int {k : IntKind} {n : Int} : ∀ C c, Rep C (.int k n) c → c = .int k n := fun C c h => rep_int.1 h
theorem a_valid (s : List UInt8) (hl : s.length ≤ 2000000) (h : Hp) : ACall Tryz.prog GT 144 [.str s] h fun v h' => v = .bool (Str.valid s) ∧ h' = h :=
  acall_imp (args1 r_str) (fun w hg => valid_any ⟨s.toArray⟩ w (by rw [size_mk]; exact hl) hg.tabs) (fun C => rep_bool.2 rfl) h
theorem a_vtext (s : List UInt8) (h : Hp) : ACall Tryz.prog GT 223 [.str s] h fun v h' => v = .int .i64 (Val.textZ s) ∧ h' = h :=
  acall_imp (args1 r_str) (fun w hg => text_any s w hg.tabs) (fun C => rep_int.2 rfl) h
theorem a_nvalid (n : Int) (h : Hp) : ACall Tryz.prog GT 222 [.int .i64 n] h fun v h' => v = .bool (decide (-9007199254740992 ≤ n ∧ n ≤ 9007199254740992)) ∧ h' = h :=
  acall_imp (args1 r_int) (fun w hg => (numValid_any n w).mono fun e w' ⟨h1, h2⟩ => ⟨h1, by rw [h2]; exact Below.refl _ _⟩) (fun C => rep_bool.2 rfl) h
theorem a_appendNumber (dst : List UInt8) (n : Int) (hd : dst.length ≤ 1000000000) (h0 : -9223372036854775808 ≤ n) (h1 : n ≤ 9223372036854775807) (h : Hp) : ACall Tryz.prog GT 225 [.str dst, .int .i64 n] h fun v h' => v = .str (dst ++ Wire.num n) ∧ h' = h :=
  acall_imp (args2 r_str r_int) (fun w hg => appendNumber_any dst n w hd h0 h1) (fun C => rep_str.2 rfl) h
/-- A value's shape: its five cells. -/
theorem a_shaped (k n : Int) (s : List UInt8) (o o' : Own) (W W' : Nat) (rs rs' : List (List A)) (h : Hp) : ACall Tryz.prog GT 221 [.agg [.int .i64 k, .int .i64 n, .str s, .sl W o rs, .sl W' o' rs']] h fun v h' => v = .bool (Val.shapedB k n s rs.length rs'.length) ∧ h' = h := by
  intro C cs hI ha
  obtain ⟨c, cs', rfl, h1, h2⟩ := repL_cons.1 ha
  rw [repL_nil] at h2; subst h2
  obtain ⟨ds, rfl, h3⟩ := rep_agg.1 h1
  obtain ⟨c0, d0, rfl, e0, h3⟩ := repL_cons.1 h3
  obtain ⟨c1, d1, rfl, e1, h3⟩ := repL_cons.1 h3
  obtain ⟨c2, d2, rfl, e2, h3⟩ := repL_cons.1 h3
  obtain ⟨c3, d3, rfl, e3, h3⟩ := repL_cons.1 h3
  obtain ⟨c4, d4, rfl, e4, h3⟩ := repL_cons.1 h3
  rw [repL_nil] at h3; subst h3
  rw [rep_int] at e0 e1; rw [rep_str] at e2; subst e0; subst e1; subst e2
  obtain ⟨a, ca, rfl, _⟩ := rep_sl.1 e3
  obtain ⟨b, cb, rfl, _⟩ := rep_sl.1 e4
  refine (shaped_any k n s a b rs.length ca rs'.length cb C.w).mono ?_
  rintro e w' ⟨rfl, hb⟩
  obtain ⟨i1, s1⟩ := inv_below hI hb
  exact ⟨C.at w', h, _, _, rfl, rfl, i1, s1, rep_bool.2 rfl, rfl, rfl⟩
/-! Readers. -/
def rdr (r : Wire.St) : Blk := .cells 175 [.str r.rest, .int .i64 r.e, .bool true]
theorem rdr_l {r : Wire.St} : ∀ C es, RepL C [.str r.rest, .int .i64 r.e, .bool true] es → es = [.string ⟨r.rest.toArray⟩, .int .i64 r.e, .bool true] := fun C es h => by
  obtain ⟨c0, d0, rfl, e0, h⟩ := repL_cons.1 h
  obtain ⟨c1, d1, rfl, e1, h⟩ := repL_cons.1 h
  obtain ⟨c2, d2, rfl, e2, h⟩ := repL_cons.1 h
  rw [repL_nil] at h; subst h
  rw [rep_str.1 e0, rep_int.1 e1, rep_bool.1 e2]
theorem rdr_l' {r : Wire.St} (C : Ctx) : RepL C [.str r.rest, .int .i64 r.e, .bool true] [.string ⟨r.rest.toArray⟩, .int .i64 r.e, .bool true] :=
  repL_cons.2 ⟨_, _, rfl, rep_str.2 rfl, repL_cons.2 ⟨_, _, rfl, rep_int.2 rfl, repL_cons.2 ⟨_, _, rfl, rep_bool.2 rfl, repL_nil.2 rfl⟩⟩⟩
theorem a_rdr {f : FuncId} {extra : List A} {ecs : List Value} {v : A} {cv : Value} {r r' : Wire.St} (hargs : ∀ C es, RepL C extra es → es = ecs) (hv : ∀ C, Rep C v cv)
    (hc : ∀ g w, Rdr w g r → Calls Tryz.prog f (.pointer (some ⟨g, 0, none⟩) :: ecs).toArray w fun e w' => e = .returned cv ∧ Rdr w' g r' ∧ w.grownBy w' (some g)) {h : Hp} {i : Nat} (hb : h.b[i]? = some (rdr r)) :
    ACall Tryz.prog GT f (.ptr i 0 :: extra) h fun v' h' => v' = v ∧ h' = ⟨h.b.set i (rdr r'), h.t⟩ :=
  acall_box hargs rdr_l rdr_l' hv (fun w g hw => hc g w hw) hb
theorem args0 : ∀ C es, RepL C [] es → es = [] := fun C es h => repL_nil.1 h
theorem a_number {h : Hp} {i : Nat} {r : Wire.St} (hb : h.b[i]? = some (rdr r)) (hl : r.rest.length ≤ 100000000) : ACall Tryz.prog GT 66 [.ptr i 0] h fun v h' => v = .int .i64 (Wire.numR r).2 ∧ h' = ⟨h.b.set i (rdr (Wire.numR r).1), h.t⟩ :=
  a_rdr args0 (fun C => rep_int.2 rfl) (fun g w hw => number_any g r w hw hl) hb
theorem a_rstring {h : Hp} {i : Nat} {r : Wire.St} (hb : h.b[i]? = some (rdr r)) (hl : r.rest.length ≤ 100000000) : ACall Tryz.prog GT 129 [.ptr i 0] h fun v h' => v = .str (Wire.strR r).2 ∧ h' = ⟨h.b.set i (rdr (Wire.strR r).1), h.t⟩ :=
  a_rdr args0 (fun C => rep_str.2 rfl) (fun g w hw => string_any g r w hw hl) hb
theorem a_count {h : Hp} {i : Nat} {r : Wire.St} (hb : h.b[i]? = some (rdr r)) (hl : r.rest.length ≤ 100000000) : ACall Tryz.prog GT 130 [.ptr i 0, .int .i64 1] h fun v h' => v = .int .i64 ((Wire.cntR r 1).2 : Nat) ∧ h' = ⟨h.b.set i (rdr (Wire.cntR r 1).1), h.t⟩ :=
  a_rdr (args1 r_int) (fun C => rep_int.2 rfl) (fun g w hw => count_any g r w hw hl) hb
theorem set_self {h : Hp} {i : Nat} {b : Blk} (hb : h.b[i]? = some b) : (⟨h.b.set i b, h.t⟩ : Hp) = h := by
  have hi : i < h.b.length := (List.getElem?_eq_some_iff.1 hb).1
  have : h.b.set i b = h.b := by
    apply List.ext_getElem?
    intro j
    rw [List.getElem?_set]
    by_cases e : i = j
    · subst e; rw [if_pos rfl, if_pos hi, hb]
    · rw [if_neg e]
  rw [this]
theorem a_left {h : Hp} {i : Nat} {r : Wire.St} (hb : h.b[i]? = some (rdr r)) : ACall Tryz.prog GT 69 [.ptr i 0] h fun v h' => v = .int .i64 r.rest.length ∧ h' = h := by
  have := a_rdr (v := .int .i64 r.rest.length) (r' := r) args0 (fun C => rep_int.2 rfl) (fun g w hw => (left_any g r w hw).mono fun e w' ⟨h1, h2⟩ => ⟨h1, by rw [h2]; exact hw, by rw [h2]; exact grown_refl w _⟩) hb
  rw [set_self hb] at this; exact this
theorem a_err {h : Hp} {i : Nat} {r : Wire.St} (hb : h.b[i]? = some (rdr r)) : ACall Tryz.prog GT 74 [.ptr i 0] h fun v h' => v = .int .i64 r.e ∧ h' = h := by
  have := a_rdr (v := .int .i64 r.e) (r' := r) args0 (fun C => rep_int.2 rfl) (fun g w hw => (err_any g r w hw).mono fun e w' ⟨h1, h2⟩ => ⟨h1, by rw [h2]; exact hw, by rw [h2]; exact grown_refl w _⟩) hb
  rw [set_self hb] at this; exact this
/-! Writers. -/
def wtr (ver : Int) (l : List UInt8) : Blk := .opq (fun F g w => WF F g ver l w) (fun o => if o = 2 then some (.int .i64 ver) else none)
def dead : Blk := .opq (fun _ _ _ => True) (fun _ => none)
/-- Box i is a writer that holds these bytes (a new one among them). -/
def Wt (h : Hp) (i : Nat) (ver : Int) (l : List UInt8) : Prop := h.b[i]? = some (wtr ver l) ∨ (l = [] ∧ h.b[i]? = some (.cells 161 [.nilp, .sl 0 .nil [], .int .i64 ver]))
theorem WF.stable {F : Nat → Prop} {b : Nat} {ver : Int} {l : List UInt8} {w w' : World} (h : WF F b ver l w) (hs : ∀ g, F g → w'.heap[g]? = w.heap[g]?) : WF F b ver l w' := by
  obtain ⟨p, v, hp, hb, hown, hne, hF, hFk⟩ := h
  refine ⟨p, v, hp, (hs b hF).trans hb, ⟨hown.1, ?_⟩, hne, hF, hFk⟩
  rcases hown.2 with h1 | ⟨g, cap, cur, fz, rfl, h2, h3, h4⟩
  · exact .inl h1
  · exact .inr ⟨g, cap, cur, fz, rfl, h2, (hs g (hFk g rfl)).trans h3, h4⟩
theorem Wt.lt {h : Hp} {i : Nat} {ver : Int} {l : List UInt8} (hw : Wt h i ver l) : i < h.b.length := by
  rcases hw with h1 | ⟨_, h1⟩
  · exact (List.getElem?_eq_some_iff.1 h1).1
  · exact (List.getElem?_eq_some_iff.1 h1).1
theorem Wt.wf {h : Hp} {i : Nat} {ver : Int} {l : List UInt8} {C : Ctx} {G : World → Prop} (hw : Wt h i ver l) (hI : Inv G C h) : WF (fun g => C.own g = some i) (C.κ i) ver l C.w := by
  have hi : i < C.nb := by rw [← hI.nb]; exact hw.lt
  rcases hw with h1 | ⟨rfl, h1⟩
  · exact (hI.box i _ h1).1 C.w (fun _ _ => rfl) (Nat.le_refl _)
  · obtain ⟨cs, k1, k2⟩ := hI.box i _ h1
    obtain ⟨c0, d0, rfl, e0, k2⟩ := repL_cons.1 k2
    obtain ⟨c1, d1, rfl, e1, k2⟩ := repL_cons.1 k2
    obtain ⟨c2, d2, rfl, e2, k2⟩ := repL_cons.1 k2
    rw [repL_nil] at k2; subst k2
    rw [rep_nilp] at e0; rw [rep_int] at e2; subst e0; subst e2
    obtain ⟨a, cap, rfl, _, _, e3, e4, _⟩ := rep_sl.1 e1
    subst e3; subst e4
    exact ⟨_, _, .inl rfl, k1, ⟨rfl, .inl ⟨rfl, rfl⟩⟩, by simp [Value.ownBlock], hI.ownk i hi, fun k hk => by simp [Value.ownBlock] at hk⟩
theorem wtr_rep {C : Ctx} {i : Nat} {ver : Int} {l : List UInt8} (h : WF (fun g => C.own g = some i) (C.κ i) ver l C.w) : BlkRep C i (wtr ver l) := by
  refine ⟨fun w' hw _ => WF.stable h hw, fun o x hx => ?_⟩
  have hx' : (if o = 2 then some (A.int .i64 ver) else none) = some x := hx
  split at hx'
  · next e =>
    injection hx' with hx'; subst hx'; subst e
    obtain ⟨p, v, hp, hb, _⟩ := h
    exact ⟨_, (cell_row3 hb).2.2.1, rep_int.2 rfl⟩
  · cases hx'
theorem a_write {h : Hp} {i : Nat} {ver : Int} {l : List UInt8} (hw : Wt h i ver l) (s : List UInt8) (hlen : l.length + s.length ≤ 1000000000) :
    ACall Tryz.prog GT 175 [.ptr i 0, .str s] h fun v h' => v = .tup [.int .i64 s.length, .nili] ∧ h' = ⟨h.b.set i (wtr ver (l ++ s)), h.t⟩ := by
  intro C es hI ha
  obtain ⟨c, es', rfl, h1, h2⟩ := repL_cons.1 ha
  obtain ⟨rfl, hi⟩ := rep_ptr.1 h1
  obtain rfl := args1 r_str C es' h2
  refine (wf_write (hw.wf hI) s hlen).mono ?_
  rintro e w' ⟨rfl, m1, m2⟩
  have hrep : BlkRep (C.turn w' i true) i (wtr ver (l ++ s)) := by
    refine wtr_rep ?_
    obtain ⟨p, v, hp, hb, hown, hne, hF, hFk⟩ := m1
    have hlt := (cell_row3 hb).2.2.2.2.2
    have hcl : ∀ k, k < w'.heap.size → (C.own k = some i ∨ C.w.heap.size ≤ k) → (C.turn w' i true).own k = some i := fun k hk hor => by
      show (if k < C.w.heap.size then C.own k else if true = true ∧ k < w'.heap.size then some i else none) = some i
      split
      · rcases hor with h3 | h3
        · exact h3
        · omega
      · rw [if_pos ⟨rfl, hk⟩]
    refine ⟨p, v, hp, hb, hown, hne, hcl _ hlt hF, fun k hk => hcl k ?_ (hFk k hk)⟩
    rcases hown.2 with ⟨rfl, _⟩ | ⟨g, cap, cur, fz, rfl, _, h3, _⟩
    · simp [Value.ownBlock] at hk
    · simp only [Value.ownBlock, Option.some.injEq] at hk; subst hk
      exact (Array.getElem?_eq_some_iff.1 h3).1
  obtain ⟨i1, s1⟩ := box_turn (b' := wtr ver (l ++ s)) true hI hi m2.os m2.tape m2.output m2.size (fun g hg hne => m2.block g hg hne) (fun _ => hrep)
  exact ⟨_, _, .tup [.int .i64 s.length, .nili], _, rfl, rfl, i1, s1, rep_tup.2 ⟨_, rfl, repL_cons.2 ⟨_, _, rfl, rep_int.2 rfl, repL_cons.2 ⟨_, _, rfl, rep_nili.2 rfl, repL_nil.2 rfl⟩⟩⟩, rfl, rfl⟩
theorem a_wlen {h : Hp} {i : Nat} {ver : Int} {l : List UInt8} (hw : Wt h i ver l) : ACall Tryz.prog GT 113 [.ptr i 0] h fun v h' => v = .int .i64 l.length ∧ h' = h := by
  intro C es hI ha
  obtain ⟨c, es', rfl, h1, h2⟩ := repL_cons.1 ha
  obtain ⟨rfl, hi⟩ := rep_ptr.1 h1
  rw [repL_nil] at h2; subst h2
  refine (wtr_len (hw.wf hI).wtr).mono ?_
  rintro e w' ⟨rfl, rfl⟩
  exact ⟨C, h, _, _, rfl, rfl, hI, Step.refl C, rep_int.2 rfl, rfl, rfl⟩
theorem a_wstring {h : Hp} {i : Nat} {ver : Int} {l : List UInt8} (hw : Wt h i ver l) (h0 : l ≠ []) : ACall Tryz.prog GT 111 [.ptr i 0] h fun v h' => v = .str l ∧ h' = ⟨h.b.set i dead, h.t⟩ := by
  intro C es hI ha
  obtain ⟨c, es', rfl, h1, h2⟩ := repL_cons.1 ha
  obtain ⟨rfl, hi⟩ := rep_ptr.1 h1
  rw [repL_nil] at h2; subst h2
  refine (wf_string (hw.wf hI) h0).mono ?_
  rintro e w' ⟨rfl, m2⟩
  obtain ⟨i1, s1⟩ := box_turn (b' := dead) false hI hi m2.os m2.tape m2.output m2.size (fun g hg hne => m2.block g hg hne) (fun _ => ⟨fun _ _ _ => trivial, fun o x hx => by cases hx⟩)
  exact ⟨_, _, .str l, _, rfl, rfl, i1, s1, rep_str.2 rfl, rfl, rfl⟩
end AX
end Go.Proofs.YtkhhnkceiibmfaaGreatDoor

namespace Go.Proofs.YtkhhnkceiibmfaaGreatDoor
open Go.ChangeShapes Go.WideShapes Go.ChangeAt Go.RowKit
namespace Card
theorem own : ownKnob Tryz.prog.godebug = none := by kernel_rfl
theorem first_eq : Go.Pinned.utf8First = Lib.firstData := by kernel_rfl
theorem accept_eq : (Rows.laid_unicode_utf8_acceptRanges : DataW Unit) = Lib.acceptData := by kernel_rfl
theorem tz_name : Tryz.prog.globalNamed "math/bits.deBruijn64tab" = some 7 := by kernel_rfl
theorem tz_type : (Tryz.prog.globals[7]?).map (·.type) = some 350 := by kernel_rfl
theorem tz_cells : Tryz.prog.cellsOf 350 = 64 := by kernel_rfl
theorem tz_cell : Tryz.prog.cellsOf 5 = 1 := by kernel_rfl
def tab64 : List Int := [0, 1, 56, 2, 57, 49, 28, 3, 61, 58, 42, 50, 38, 29, 17, 4, 62, 47, 59, 36, 45, 43, 51, 22, 53, 39, 33, 30, 24, 18, 12, 5, 63, 55, 48, 27, 60, 41, 37, 16, 46, 35, 44, 21, 52, 32, 23, 11, 54, 26, 40, 15, 34, 20, 31, 10, 25, 14, 19, 9, 13, 8, 7, 6]
theorem tab64_eq : (Rows.laid_math_bits_deBruijn64tab : DataW Unit) = Lib.tabData .u8 tab64 := by kernel_rfl
theorem iface_reads {P : Program} {w : World} {n : String} {g : Nat} {t : TypeId} {d : DataW Unit} {m : Array (String × TypeId)} (hg : P.globalNamed n = some g) (ht : (P.globals[g]?).map (·.type) = some t) (hu : P.underlying t = some (.interface m)) (h : Lib.VarReads P w n d) : IfaceAt g w := by
  obtain ⟨g', t', cs, fuel, p, h1, h2, h3, h4⟩ := h
  rw [hg] at h1; injection h1 with h1; subst h1
  rw [ht] at h2; injection h2 with h2; subst h2
  have hc := World.var?_cell hg h3 0
  obtain ⟨l⟩ := cs
  cases fuel with
  | zero => simp [DataW.trod] at h4
  | succ k =>
    match l, hc with
    | [], _ => simp [DataW.trod, hu] at h4
    | [.nilIface], hc => exact ⟨_, hc, .inl rfl⟩
    | [.iface u v], hc => exact ⟨_, hc, .inr ⟨u, v, rfl⟩⟩
    | v :: x :: l, _ => cases v <;> simp [DataW.trod, hu] at h4
    | [v], hc => cases v <;> first | exact ⟨_, hc, .inl rfl⟩ | exact ⟨_, hc, .inr ⟨_, _, rfl⟩⟩ | simp [DataW.trod, hu] at h4
theorem tz_of {W : World} (r3 : Lib.VarReads Tryz.prog W "math/bits.deBruijn64tab" (Lib.tabData .u8 tab64)) : W.cell? ⟨7, 15, none⟩ = some (.int .u8 4) := by
  obtain ⟨g, t, cs, fuel, p, hg, hty, hvar, hd⟩ := r3
  obtain rfl := Option.some.inj (tz_name.symm.trans hg)
  obtain rfl := Option.some.inj (tz_type.symm.trans hty)
  have hcs := Lib.cells_of_tab Tryz.underlying350 Tryz.underlying5 tz_cell tz_cells hd
  have := World.var?_cell hg hvar 15
  rw [this, ← Array.getElem?_toList, hcs]
  rfl
theorem gt_of {W : World} (h : laidMetH Tryz.prog Rows.statefileOnceRow.laid W) : GT W := by
  have hL : laidMet Tryz.prog Rows.statefileOnceRow.laid W := by
    have e := Go.MakeChecks.laidMetH_plain Tryz.prog Rows.statefileOnceRow.laid W (by kernel_rfl)
    rwa [e] at h
  have r1 : Lib.VarReads Tryz.prog W "unicode/utf8.first" Lib.firstData := by
    rw [← first_eq]; exact Lib.laidMet.reads hL (.tail _ (.tail _ (.tail _ (.tail _ (.tail _ (.tail _ (.head _)))))))
  have r2 : Lib.VarReads Tryz.prog W "unicode/utf8.acceptRanges" Lib.acceptData := by
    rw [← accept_eq]; exact Lib.laidMet.reads hL (.tail _ (.tail _ (.tail _ (.head _))))
  exact ⟨utf8Tabs_of_reads (ρ := Tryz.lays260_ren) Tryz.lays260 ⟨by kernel_rfl, by kernel_rfl, by kernel_rfl, by kernel_rfl, by kernel_rfl, by kernel_rfl, by kernel_rfl⟩ r1 r2,
    iface_reads (by kernel_rfl) (by kernel_rfl) Tryz.underlying227 (Lib.laidMet.reads hL (.tail _ (.tail _ (.tail _ (.tail _ (.tail _ (.head _))))))), iface_reads (by kernel_rfl) (by kernel_rfl) Tryz.underlying227 (Lib.laidMet.reads hL (.tail _ (.tail _ (.tail _ (.tail _ (.head _)))))), tz_of (by rw [← tab64_eq]; exact Lib.laidMet.reads hL (.tail _ (.head _)))⟩
def ints (k : IntKind) (l : List Int) : Array Value := (l.map fun z => Value.int k z).toArray
def u8s (l : List Int) : Array Value := ints .u8 l
def setTab (h : Array Obj) (g : Nat) (cs : Array Value) : Array Obj := h.modify g fun
  | .cells _ t frozen => .cells cs t frozen
  | o => o
/-- Where the sentinels' objects lie: behind what every world of the program has. -/
noncomputable def low : Nat := (World.holding Tryz.prog default ⟨#[], #[], []⟩).heap.size
/-- A world for the witness: the settled one, the listed variables as their initialisers lay them. -/
noncomputable def laidWorld (os : Os) (args : Array Value) : World :=
  { World.holding Tryz.prog os ⟨#[.cells #[.string { data := #[118, 97, 108, 117, 101, 32, 111, 117, 116, 32, 111, 102, 32, 114, 97, 110, 103, 101] }] 342, .cells #[.string { data := #[105, 110, 118, 97, 108, 105, 100, 32, 115, 121, 110, 116, 97, 120] }] 342], args, []⟩ with
    heap := (setTab (setTab (setTab (setTab (setTab (setTab (setTab (World.holding Tryz.prog os ⟨#[.cells #[.string { data := #[118, 97, 108, 117, 101, 32, 111, 117, 116, 32, 111, 102, 32, 114, 97, 110, 103, 101] }] 342, .cells #[.string { data := #[105, 110, 118, 97, 108, 105, 100, 32, 115, 121, 110, 116, 97, 120] }] 342], args, []⟩).heap 6 (ints .u8 [0, 1, 28, 2, 29, 14, 24, 3, 30, 22, 20, 15, 25, 17, 4, 8, 31, 27, 13, 23, 21, 19, 16, 7, 26, 12, 18, 6, 11, 5, 10, 9])) 7 (ints .u8 [0, 1, 56, 2, 57, 49, 28, 3, 61, 58, 42, 50, 38, 29, 17, 4, 62, 47, 59, 36, 45, 43, 51, 22, 53, 39, 33, 30, 24, 18, 12, 5, 63, 55, 48, 27, 60, 41, 37, 16, 46, 35, 44, 21, 52, 32, 23, 11, 54, 26, 40, 15, 34, 20, 31, 10, 25, 14, 19, 9, 13, 8, 7, 6])) 5 (ints .u64 [1, 10, 100, 1000, 10000, 100000, 1000000, 10000000, 100000000, 1000000000, 10000000000, 100000000000, 1000000000000, 10000000000000, 100000000000000, 1000000000000000, 10000000000000000, 100000000000000000, 1000000000000000000, 10000000000000000000])) 1 (ints .u8 [128, 191, 160, 191, 128, 159, 144, 191, 128, 143, 0, 0, 0, 0, 0, 0, 0, 0, 0, 0, 0, 0, 0, 0, 0, 0, 0, 0, 0, 0, 0, 0])) 4 (#[.iface 340 (.pointer (some ⟨low + 0, 0, none⟩))])) 3 (#[.iface 340 (.pointer (some ⟨low + 1, 0, none⟩))])) 0 (u8s Lib.firstTab)) }
end Card
end Go.Proofs.YtkhhnkceiibmfaaGreatDoor

namespace Go.Proofs.YtkhhnkceiibmfaaGreatDoor
open Go.RowKit
set_option linter.unusedSimpArgs false
set_option linter.unusedVariables false
mutual
/-- The cells of a datum. -/
def D.cells : D → List AX.A
  | .int k n => [.int k n]
  | .str l => [.str l]
  | .bool b => [.bool b]
  | .agg l => D.cellsL l
  | .sl W l => [.sl W .no (D.rows l)]
def D.cellsL : List D → List AX.A
  | [] => []
  | d :: l => d.cells ++ D.cellsL l
def D.rows : List D → List (List AX.A)
  | [] => []
  | d :: l => d.cells :: D.rows l
end
mutual
theorem D.cells_data : ∀ (d : D) (x : AX.A), x ∈ d.cells → x.data = true
  | .int k n, x, h => by unfold D.cells at h; simp at h; subst h; rfl
  | .str l, x, h => by unfold D.cells at h; simp at h; subst h; rfl
  | .bool b, x, h => by unfold D.cells at h; simp at h; subst h; rfl
  | .agg l, x, h => by unfold D.cells at h; exact D.cellsL_data l x h
  | .sl W l, x, h => by unfold D.cells at h; simp at h; subst h; rfl
theorem D.cellsL_data : ∀ (l : List D) (x : AX.A), x ∈ D.cellsL l → x.data = true
  | [], x, h => by unfold D.cellsL at h; simp at h
  | d :: l, x, h => by
    unfold D.cellsL at h
    rcases List.mem_append.1 h with h | h
    · exact D.cells_data d x h
    · exact D.cellsL_data l x h
end
namespace AX
/-- The context of a call that has no boxes: what is there, nobody writes. -/
def Ctx.of (w : World) : Ctx := { w := w, S := fun g _ => g < w.heap.size, κ := fun _ => 0, nb := 0, τ := fun _ => 0, hw := fun _ => none, own := fun _ => none, base := w.heap.size }
theorem inv_of {G : World → Prop} {w : World} (hG : ∀ w' : World, (∀ g, g < w.heap.size → w'.heap[g]? = w.heap[g]?) → G w') : Inv G (Ctx.of w) ⟨[], []⟩ where
  nb := rfl
  box := fun i b h => by simp at h
  ownk := fun i h => by simp [Ctx.of] at h
  ownlt := fun g i h => by simp [Ctx.of] at h
  prot := fun g j h => ⟨h, rfl, fun t E W m ht => by simp [Ctx.of] at ht⟩
  rows := fun t E W m h => by simp [Ctx.of] at h
  inj := fun t t' h => by simp [Ctx.of] at h
  toks := fun t => by simp [Ctx.of]
  base := Nat.le_refl _
  glob := hG
/-- A call that answers true, from any world. -/
theorem calls_of {P : Program} {G : World → Prop} {f : FuncId} {args : List A} {vs : List Value} {w : World} (hc : ACall P G f args ⟨[], []⟩ fun v _ => v = .bool true) (hG : ∀ w' : World, (∀ g, g < w.heap.size → w'.heap[g]? = w.heap[g]?) → G w')
    (ha : RepL (Ctx.of w) args vs) : Calls P f vs.toArray w fun e w' => e = .returned (.bool true) ∧ Below w.heap.size w w' := by
  refine (hc (Ctx.of w) vs (inv_of hG) ha).mono ?_
  rintro e w' ⟨C', h', v, cv, rfl, rfl, _, st, hr, rfl⟩
  rw [rep_bool] at hr; subst hr
  exact ⟨rfl, st.os, st.tape, st.output, st.size, fun g hg => st.frame g hg rfl fun t ht => by simp [Ctx.of] at ht⟩
theorem tabs_keep {a b : Nat} {w : World} (h : Lib.Utf8Tabs a b w) : ∀ w' : World, (∀ g, g < w.heap.size → w'.heap[g]? = w.heap[g]?) → Lib.Utf8Tabs a b w' := by
  intro w' hw
  have hlt : ∀ {g j : Nat} {v : Value}, w.cell? ⟨g, j, none⟩ = some v → g < w.heap.size := fun {g j v} h => (cell_there h).2
  have hc : ∀ {g j : Nat} {v : Value}, w.cell? ⟨g, j, none⟩ = some v → w'.cell? ⟨g, j, none⟩ = some v := fun {g j v} h => by
    rw [← h]; simp only [World.cell?, hw g (hlt h)]
  exact ⟨fun c hcl => hc (h.1 c hcl), fun i hi => ⟨hc (h.2 i hi).1, hc (h.2 i hi).2⟩⟩
end AX
end Go.Proofs.YtkhhnkceiibmfaaGreatDoor

namespace Go.Proofs.YtkhhnkceiibmfaaGreatDoor
open Go.RowKit Go.ChangeShapes Go.WideShapes
set_option linter.unusedSimpArgs false
set_option linter.unusedVariables false
mutual
theorem V.Wf.lens : ∀ v : V, v.Wf → v.lens
  | .mk k n s is ks, h => by
    unfold V.Wf at h; unfold V.lens
    exact ⟨h.1.2.2.2.1, h.1.2.2.2.2.1, h.1.2.2.1, h.1.2.2.2.2.2, V.Wfs.lens is h.2⟩
theorem V.Wfs.lens : ∀ l : List V, V.Wfs l → V.lensS l
  | [], h => by unfold V.lensS; trivial
  | v :: l, h => by
    unfold V.Wfs at h; unfold V.lensS
    exact ⟨V.Wf.lens v h.1, V.Wfs.lens l h.2⟩
end
namespace AX
theorem gt_keep {w : World} (g : GT w) : ∀ w' : World, (∀ g, g < w.heap.size → w'.heap[g]? = w.heap[g]?) → GT w' := fun w' hw => by
  have hi : ∀ {n : Nat}, IfaceAt n w → IfaceAt n w' := fun ⟨ev, h1, h2⟩ => ⟨ev, by rw [← h1]; simp only [World.cell?, hw _ (cell_there h1).2], h2⟩
  exact ⟨tabs_keep g.tabs w' hw, hi g.esyn, hi g.erng, by rw [← g.tz]; simp only [World.cell?, hw _ (cell_there g.tz).2]⟩
theorem str_list (a : ByteArray) : Value.string a = .string ⟨a.data.toList.toArray⟩ := by simp
section
variable {H : Type} {enc : TypeId × Value → H} {w : World} {base : Nat} {spare : Nat → Bool} {held : Bool} {r : Reach} {b0 : Nat} {v : Value} {d : DataW H} {p : List MemPlace}
end
end AX
end Go.Proofs.YtkhhnkceiibmfaaGreatDoor

namespace Go.Proofs.YtkhhnkceiibmfaaGreatDoor
open Go.RowKit
set_option linter.unusedSimpArgs false
set_option linter.unusedVariables false
namespace AX
theorem evp {A F : Prop} (f : F) (h : F → A := by intro f; simp only [f] <;> with_reducible rfl) : A := h f
theorem ev0 {A F : Prop} (f : F) (h : F → A := by intro f; simp only [put_app, put_none, init_app, evX_t, evX_c, resA_nil, resA_t, resA_c, tupA_0, tupA_1, tupA_2, astep, bop, uop, loadA, storeA, appA, ssliceA, eqA, eqCells, fillA, rowsA, setCells, A.cells, A.one, A.data, optP_some, List.all_cons, List.all_nil, Bool.and_true, Bool.true_and, Bool.false_and, Option.map_some, Option.map_none, Option.bind_some, Option.bind_none, Option.getD_some, Option.getD_none, List.map_cons, List.map_nil, List.getD_cons_zero, List.getD_cons_succ, List.getElem?_cons_zero, List.getElem?_cons_succ, List.getElem?_concat_length, get_p1, get_p2, set_p0, set_p1, set_p2, get_q1, get_q2, get_q3, set_q1, set_q2, set_q3, List.length_cons, List.length_nil, List.nil_append, List.cons_append, List.append_nil, List.set_cons_zero, List.set_cons_succ, List.drop_zero, List.drop_succ_cons, List.take_succ_cons, List.take_zero, List.take_nil, List.take_length, List.length_append, List.length_set, Nat.reduceAdd, Nat.reduceSub, Nat.reduceMul, Nat.reduceLeDiff, Nat.reduceEqDiff, Nat.reduceBEq, Int.toNat_natCast, Int.natCast_nonneg, Int.reduceBEq, Int.reduceBNe, Int.reduceLT, Int.reduceLE, Int.reduceEq, Int.le_refl, Int.toNat_zero, if_true, if_false, reduceIte, ite_true, ite_false, true_and, and_true, ne_eq, not_true_eq_false, not_false_eq_true, Bool.false_eq_true, reduceCtorEq, and_self, Nat.zero_add, Nat.add_zero, Nat.le_refl, Bool.not_true, Bool.not_false, and_self, decide_true, decide_false, beq_self_eq_true, bne_self_eq_false, f] <;> with_reducible rfl) : A := h f
theorem eu0 {A F : Prop} (f : F) (h : F → A := by intro f; simp only [put_app, put_none, init_app, evX_t, evX_c, resA_nil, resA_t, resA_c, tupA_0, tupA_1, tupA_2, astep, bop, uop, loadA, storeA, appA, ssliceA, eqA, eqCells, fillA, rowsA, setCells, A.cells, A.one, A.data, optP_some, List.all_cons, List.all_nil, Bool.and_true, Bool.true_and, Bool.false_and, Option.map_some, Option.map_none, Option.bind_some, Option.bind_none, Option.getD_some, Option.getD_none, List.map_cons, List.map_nil, List.getD_cons_zero, List.getD_cons_succ, List.getElem?_cons_zero, List.getElem?_cons_succ, List.getElem?_concat_length, get_p1, get_p2, set_p0, set_p1, set_p2, get_q1, get_q2, get_q3, set_q1, set_q2, set_q3, List.length_cons, List.length_nil, List.nil_append, List.cons_append, List.append_nil, List.set_cons_zero, List.set_cons_succ, List.drop_zero, List.drop_succ_cons, List.take_succ_cons, List.take_zero, List.take_nil, List.take_length, List.length_append, List.length_set, Nat.reduceAdd, Nat.reduceSub, Nat.reduceMul, Nat.reduceLeDiff, Nat.reduceEqDiff, Nat.reduceBEq, Int.toNat_natCast, Int.natCast_nonneg, Int.reduceBEq, Int.reduceBNe, Int.reduceLT, Int.reduceLE, Int.reduceEq, Int.le_refl, Int.toNat_zero, if_true, if_false, reduceIte, ite_true, ite_false, true_and, and_true, ne_eq, not_true_eq_false, not_false_eq_true, Bool.false_eq_true, reduceCtorEq, and_self, Nat.zero_add, Nat.add_zero, Nat.le_refl, Bool.not_true, Bool.not_false, and_self, decide_true, decide_false, beq_self_eq_true, bne_self_eq_false, f]; rw [if_pos (by first | omega | (refine ⟨?_, ?_⟩ <;> omega) | (simp only [true_and, and_true]; omega))]; with_reducible rfl) : A := h f
theorem inv0 {A F : Prop} (f : F) (h : F → A := by intro f; simp only [put_app, put_none, init_app, evX_t, evX_c, resA_nil, resA_t, resA_c, tupA_0, tupA_1, tupA_2, astep, bop, uop, loadA, storeA, appA, ssliceA, eqA, eqCells, fillA, rowsA, setCells, A.cells, A.one, A.data, optP_some, List.all_cons, List.all_nil, Bool.and_true, Bool.true_and, Bool.false_and, Option.map_some, Option.map_none, Option.bind_some, Option.bind_none, Option.getD_some, Option.getD_none, List.map_cons, List.map_nil, List.getD_cons_zero, List.getD_cons_succ, List.getElem?_cons_zero, List.getElem?_cons_succ, List.getElem?_concat_length, get_p1, get_p2, set_p0, set_p1, set_p2, get_q1, get_q2, get_q3, set_q1, set_q2, set_q3, List.length_cons, List.length_nil, List.nil_append, List.cons_append, List.append_nil, List.set_cons_zero, List.set_cons_succ, List.drop_zero, List.drop_succ_cons, List.take_succ_cons, List.take_zero, List.take_nil, List.take_length, List.length_append, List.length_set, Nat.reduceAdd, Nat.reduceSub, Nat.reduceMul, Nat.reduceLeDiff, Nat.reduceEqDiff, Nat.reduceBEq, Int.toNat_natCast, Int.natCast_nonneg, Int.reduceBEq, Int.reduceBNe, Int.reduceLT, Int.reduceLE, Int.reduceEq, Int.le_refl, Int.toNat_zero, if_true, if_false, reduceIte, ite_true, ite_false, true_and, and_true, ne_eq, not_true_eq_false, not_false_eq_true, Bool.false_eq_true, reduceCtorEq, and_self, Nat.zero_add, Nat.add_zero, Nat.le_refl, Bool.not_true, Bool.not_false, and_self, decide_true, decide_false, beq_self_eq_true, bne_self_eq_false, f, Int.natCast_add, Int.natCast_one] <;> trivial) : A := h f
theorem inw0 {A F : Prop} (f : F) (h : F → A := by intro f; simp only [put_app, put_none, init_app, evX_t, evX_c, resA_nil, resA_t, resA_c, tupA_0, tupA_1, tupA_2, astep, bop, uop, loadA, storeA, appA, ssliceA, eqA, eqCells, fillA, rowsA, setCells, A.cells, A.one, A.data, optP_some, List.all_cons, List.all_nil, Bool.and_true, Bool.true_and, Bool.false_and, Option.map_some, Option.map_none, Option.bind_some, Option.bind_none, Option.getD_some, Option.getD_none, List.map_cons, List.map_nil, List.getD_cons_zero, List.getD_cons_succ, List.getElem?_cons_zero, List.getElem?_cons_succ, List.getElem?_concat_length, get_p1, get_p2, set_p0, set_p1, set_p2, get_q1, get_q2, get_q3, set_q1, set_q2, set_q3, List.length_cons, List.length_nil, List.nil_append, List.cons_append, List.append_nil, List.set_cons_zero, List.set_cons_succ, List.drop_zero, List.drop_succ_cons, List.take_succ_cons, List.take_zero, List.take_nil, List.take_length, List.length_append, List.length_set, Nat.reduceAdd, Nat.reduceSub, Nat.reduceMul, Nat.reduceLeDiff, Nat.reduceEqDiff, Nat.reduceBEq, Int.toNat_natCast, Int.natCast_nonneg, Int.reduceBEq, Int.reduceBNe, Int.reduceLT, Int.reduceLE, Int.reduceEq, Int.le_refl, Int.toNat_zero, if_true, if_false, reduceIte, ite_true, ite_false, true_and, and_true, ne_eq, not_true_eq_false, not_false_eq_true, Bool.false_eq_true, reduceCtorEq, and_self, Nat.zero_add, Nat.add_zero, Nat.le_refl, Bool.not_true, Bool.not_false, and_self, decide_true, decide_false, beq_self_eq_true, bne_self_eq_false, forH, pastN, obsP, obsD, obsN, memN, Bool.false_or, Bool.true_or, Bool.or_false, Bool.or_true, true_or, or_true, false_or, or_false, f] <;> exact True.intro) : A := h f
/-- As far as it is decided. -/
theorem go0 {A B F : Prop} (f : F) (k : B) (h : F → B → A := by intro f k; (repeat (first | with_reducible refine go_seq ?_ | with_reducible refine go_reg ?_ | with_reducible refine go_nil ?_ | with_reducible refine go_tn ?_ | with_reducible refine go_sk ?_ | with_reducible refine go_blk ?_ | with_reducible refine go_exit ?_ | with_reducible refine go_ret ?_ | with_reducible refine go_tr ?_ | with_reducible refine go_te ?_ | with_reducible refine go_bn ?_ | with_reducible refine go_br ?_ | with_reducible refine go_be ?_ | ((with_reducible refine go_bo ?_ ?_); exact rfl) | with_reducible refine gq_nil ?_ | ((with_reducible apply go_op); exact rfl; exact ev0 f) | ((with_reducible apply go_op); exact rfl; exact eu0 f) | ((with_reducible apply gq_op); exact rfl; exact ev0 f) | ((with_reducible apply gq_op); exact rfl; exact eu0 f) | ((with_reducible refine go_skipu ?_ ?_); exact ev0 f) | ((with_reducible refine go_skip ?_ ?_); exact ev0 f) | ((with_reducible refine gq_skipu ?_ ?_); exact ev0 f) | ((with_reducible refine gq_skip ?_ ?_); exact ev0 f) | ((with_reducible apply go_gop); exact ev0 f; exact rfl; exact ev0 f) | ((with_reducible apply go_gop); exact ev0 f; exact rfl; exact eu0 f) | ((with_reducible apply gq_gop); exact ev0 f; exact rfl; exact ev0 f) | ((with_reducible apply gq_gop); exact ev0 f; exact rfl; exact eu0 f) | ((with_reducible refine go_ct ?_ ?_); exact ev0 f) | ((with_reducible refine go_cf ?_ ?_); exact ev0 f) | ((with_reducible apply go_fr); exact ev0 f) | ((with_reducible apply go_fn); exact ev0 f))); exact k) : A := h f k
theorem gc0 {A B F : Prop} (f : F) (k : B) (h : F → B → A := by intro f k; first | ((with_reducible apply go_call); exact ev0 f; exact k) | ((with_reducible apply go_gcall); exact ev0 f; exact ev0 f; exact k) | ((with_reducible apply go_callv); exact ev0 f; kernel_rfl; exact ev0 f; exact k)) : A := h f k
/-- The same, whatever order is picked; to a call, or a test that is open. -/
theorem run0 {A B F : Prop} (f : F) (k : B) (h : F → B → A := by intro f k; (repeat (first | with_reducible refine go_seq ?_ | with_reducible refine go_regS ?_ | with_reducible refine gs_nil ?_ | with_reducible refine go_tn ?_ | with_reducible refine go_sk ?_ | with_reducible refine go_blk ?_ | with_reducible refine go_exit ?_ | with_reducible refine go_ret ?_ | with_reducible refine go_tr ?_ | with_reducible refine go_te ?_ | with_reducible refine go_bn ?_ | with_reducible refine go_br ?_ | with_reducible refine go_be ?_ | ((with_reducible refine go_bo ?_ ?_); exact rfl) | ((with_reducible apply gs_app0); exact rfl; exact ev0 f; exact ev0 f; (first | exact evp f | exact ev0 f | exact eu0 f)) | ((with_reducible apply gs_op0); exact rfl; exact rfl; exact ev0 f) | ((with_reducible apply gs_op0); exact rfl; exact rfl; exact eu0 f) | ((with_reducible apply gs_skipu0); exact rfl; exact ev0 f) | ((with_reducible apply gs_skip0); exact rfl; exact ev0 f) | ((with_reducible apply gs_guard); exact ev0 f) | ((with_reducible apply gs_appm); exact ev0 f; exact ev0 f; (first | exact evp f | exact ev0 f | exact eu0 f); (first | exact True.intro | exact inw0 f)) | ((with_reducible apply gs_op); exact rfl; decide +kernel; exact rfl; exact ev0 f) | ((with_reducible apply gs_act); exact rfl; exact rfl; exact ev0 f; (first | exact True.intro | exact inw0 f)) | ((with_reducible apply gs_op); exact rfl; decide +kernel; exact rfl; exact eu0 f) | ((with_reducible apply gs_act); exact rfl; exact rfl; exact eu0 f; (first | exact True.intro | exact inw0 f)) | ((with_reducible apply gs_load); exact rfl; decide +kernel; exact rfl; exact ev0 f; (first | exact True.intro | exact inw0 f)) | ((with_reducible apply gs_skipu); decide +kernel; exact rfl; exact ev0 f) | ((with_reducible apply gs_skip); decide +kernel; exact rfl; exact ev0 f) | ((with_reducible apply gs_call); exact ev0 f) | ((with_reducible apply gs_callv); exact ev0 f; kernel_rfl; exact ev0 f) | ((with_reducible refine go_ct ?_ ?_); exact ev0 f) | ((with_reducible refine go_cf ?_ ?_); exact ev0 f) | ((with_reducible apply go_fr); exact ev0 f) | ((with_reducible apply go_fn); exact ev0 f) | ((with_reducible refine go_draw 1 ?_ ?_); decide +kernel) | ((with_reducible refine go_draw 2 ?_ ?_); decide +kernel))); exact k) : A := h f k
theorem evV {A F : Prop} (f : F) (h : F → A := by intro f; simp only [put_app, put_none, init_app, evX_t, evX_c, resA_nil, resA_t, resA_c, tupA_0, tupA_1, tupA_2, astep, bop, uop, loadA, storeA, appA, ssliceA, eqA, eqCells, fillA, rowsA, setCells, A.cells, A.one, A.data, optP_some, List.all_cons, List.all_nil, Bool.and_true, Bool.true_and, Bool.false_and, Option.map_some, Option.map_none, Option.bind_some, Option.bind_none, Option.getD_some, Option.getD_none, List.map_cons, List.map_nil, List.getD_cons_zero, List.getD_cons_succ, List.getElem?_cons_zero, List.getElem?_cons_succ, List.getElem?_concat_length, get_p1, get_p2, set_p0, set_p1, set_p2, get_q1, get_q2, get_q3, set_q1, set_q2, set_q3, List.length_cons, List.length_nil, List.nil_append, List.cons_append, List.append_nil, List.set_cons_zero, List.set_cons_succ, List.drop_zero, List.drop_succ_cons, List.take_succ_cons, List.take_zero, List.take_nil, List.take_length, List.length_append, List.length_set, Nat.reduceAdd, Nat.reduceSub, Nat.reduceMul, Nat.reduceLeDiff, Nat.reduceEqDiff, Nat.reduceBEq, Int.toNat_natCast, Int.natCast_nonneg, Int.reduceBEq, Int.reduceBNe, Int.reduceLT, Int.reduceLE, Int.reduceEq, Int.le_refl, Int.toNat_zero, if_true, if_false, reduceIte, ite_true, ite_false, true_and, and_true, ne_eq, not_true_eq_false, not_false_eq_true, Bool.false_eq_true, reduceCtorEq, and_self, Nat.zero_add, Nat.add_zero, Nat.le_refl, Bool.not_true, Bool.not_false, and_self, decide_true, decide_false, beq_self_eq_true, bne_self_eq_false, V.A, V.cells, f] <;> with_reducible rfl) : A := h f
theorem euV {A F : Prop} (f : F) (h : F → A := by intro f; simp only [put_app, put_none, init_app, evX_t, evX_c, resA_nil, resA_t, resA_c, tupA_0, tupA_1, tupA_2, astep, bop, uop, loadA, storeA, appA, ssliceA, eqA, eqCells, fillA, rowsA, setCells, A.cells, A.one, A.data, optP_some, List.all_cons, List.all_nil, Bool.and_true, Bool.true_and, Bool.false_and, Option.map_some, Option.map_none, Option.bind_some, Option.bind_none, Option.getD_some, Option.getD_none, List.map_cons, List.map_nil, List.getD_cons_zero, List.getD_cons_succ, List.getElem?_cons_zero, List.getElem?_cons_succ, List.getElem?_concat_length, get_p1, get_p2, set_p0, set_p1, set_p2, get_q1, get_q2, get_q3, set_q1, set_q2, set_q3, List.length_cons, List.length_nil, List.nil_append, List.cons_append, List.append_nil, List.set_cons_zero, List.set_cons_succ, List.drop_zero, List.drop_succ_cons, List.take_succ_cons, List.take_zero, List.take_nil, List.take_length, List.length_append, List.length_set, Nat.reduceAdd, Nat.reduceSub, Nat.reduceMul, Nat.reduceLeDiff, Nat.reduceEqDiff, Nat.reduceBEq, Int.toNat_natCast, Int.natCast_nonneg, Int.reduceBEq, Int.reduceBNe, Int.reduceLT, Int.reduceLE, Int.reduceEq, Int.le_refl, Int.toNat_zero, if_true, if_false, reduceIte, ite_true, ite_false, true_and, and_true, ne_eq, not_true_eq_false, not_false_eq_true, Bool.false_eq_true, reduceCtorEq, and_self, Nat.zero_add, Nat.add_zero, Nat.le_refl, Bool.not_true, Bool.not_false, and_self, decide_true, decide_false, beq_self_eq_true, bne_self_eq_false, V.A, V.cells, f]; rw [if_pos (by first | omega | (refine ⟨?_, ?_⟩ <;> omega) | (simp only [true_and, and_true]; omega))]; with_reducible rfl) : A := h f
/-- As far as it is decided. -/
theorem goV {A B F : Prop} (f : F) (k : B) (h : F → B → A := by intro f k; (repeat (first | with_reducible refine go_seq ?_ | with_reducible refine go_reg ?_ | with_reducible refine go_nil ?_ | with_reducible refine go_tn ?_ | with_reducible refine go_sk ?_ | with_reducible refine go_blk ?_ | with_reducible refine go_exit ?_ | with_reducible refine go_ret ?_ | with_reducible refine go_tr ?_ | with_reducible refine go_te ?_ | with_reducible refine go_bn ?_ | with_reducible refine go_br ?_ | with_reducible refine go_be ?_ | ((with_reducible refine go_bo ?_ ?_); exact rfl) | with_reducible refine gq_nil ?_ | ((with_reducible apply go_op); exact rfl; exact evV f) | ((with_reducible apply go_op); exact rfl; exact euV f) | ((with_reducible apply gq_op); exact rfl; exact evV f) | ((with_reducible apply gq_op); exact rfl; exact euV f) | ((with_reducible refine go_skipu ?_ ?_); exact evV f) | ((with_reducible refine go_skip ?_ ?_); exact evV f) | ((with_reducible refine gq_skipu ?_ ?_); exact evV f) | ((with_reducible refine gq_skip ?_ ?_); exact evV f) | ((with_reducible apply go_gop); exact evV f; exact rfl; exact evV f) | ((with_reducible apply go_gop); exact evV f; exact rfl; exact euV f) | ((with_reducible apply gq_gop); exact evV f; exact rfl; exact evV f) | ((with_reducible apply gq_gop); exact evV f; exact rfl; exact euV f) | ((with_reducible refine go_ct ?_ ?_); exact evV f) | ((with_reducible refine go_cf ?_ ?_); exact evV f) | ((with_reducible apply go_fr); exact evV f) | ((with_reducible apply go_fn); exact evV f))); exact k) : A := h f k
theorem gcV {A B F : Prop} (f : F) (k : B) (h : F → B → A := by intro f k; first | ((with_reducible apply go_call); exact evV f; exact k) | ((with_reducible apply go_gcall); exact evV f; exact evV f; exact k) | ((with_reducible apply go_callv); exact evV f; kernel_rfl; exact evV f; exact k)) : A := h f k
theorem evC {A F : Prop} (f : F) (h : F → A := by intro f; simp only [put_app, put_none, init_app, evX_t, evX_c, resA_nil, resA_t, resA_c, tupA_0, tupA_1, tupA_2, astep, bop, uop, loadA, storeA, appA, ssliceA, eqA, eqCells, fillA, rowsA, setCells, A.cells, A.one, A.data, optP_some, List.all_cons, List.all_nil, Bool.and_true, Bool.true_and, Bool.false_and, Option.map_some, Option.map_none, Option.bind_some, Option.bind_none, Option.getD_some, Option.getD_none, List.map_cons, List.map_nil, List.getD_cons_zero, List.getD_cons_succ, List.getElem?_cons_zero, List.getElem?_cons_succ, List.getElem?_concat_length, get_p1, get_p2, set_p0, set_p1, set_p2, get_q1, get_q2, get_q3, set_q1, set_q2, set_q3, List.length_cons, List.length_nil, List.nil_append, List.cons_append, List.append_nil, List.set_cons_zero, List.set_cons_succ, List.drop_zero, List.drop_succ_cons, List.take_succ_cons, List.take_zero, List.take_nil, List.take_length, List.length_append, List.length_set, Nat.reduceAdd, Nat.reduceSub, Nat.reduceMul, Nat.reduceLeDiff, Nat.reduceEqDiff, Nat.reduceBEq, Int.toNat_natCast, Int.natCast_nonneg, Int.reduceBEq, Int.reduceBNe, Int.reduceLT, Int.reduceLE, Int.reduceEq, Int.le_refl, Int.toNat_zero, if_true, if_false, reduceIte, ite_true, ite_false, true_and, and_true, ne_eq, not_true_eq_false, not_false_eq_true, Bool.false_eq_true, reduceCtorEq, and_self, Nat.zero_add, Nat.add_zero, Nat.le_refl, Bool.not_true, Bool.not_false, and_self, decide_true, decide_false, beq_self_eq_true, bne_self_eq_false, V.cells, f] <;> with_reducible rfl) : A := h f
theorem euC {A F : Prop} (f : F) (h : F → A := by intro f; simp only [put_app, put_none, init_app, evX_t, evX_c, resA_nil, resA_t, resA_c, tupA_0, tupA_1, tupA_2, astep, bop, uop, loadA, storeA, appA, ssliceA, eqA, eqCells, fillA, rowsA, setCells, A.cells, A.one, A.data, optP_some, List.all_cons, List.all_nil, Bool.and_true, Bool.true_and, Bool.false_and, Option.map_some, Option.map_none, Option.bind_some, Option.bind_none, Option.getD_some, Option.getD_none, List.map_cons, List.map_nil, List.getD_cons_zero, List.getD_cons_succ, List.getElem?_cons_zero, List.getElem?_cons_succ, List.getElem?_concat_length, get_p1, get_p2, set_p0, set_p1, set_p2, get_q1, get_q2, get_q3, set_q1, set_q2, set_q3, List.length_cons, List.length_nil, List.nil_append, List.cons_append, List.append_nil, List.set_cons_zero, List.set_cons_succ, List.drop_zero, List.drop_succ_cons, List.take_succ_cons, List.take_zero, List.take_nil, List.take_length, List.length_append, List.length_set, Nat.reduceAdd, Nat.reduceSub, Nat.reduceMul, Nat.reduceLeDiff, Nat.reduceEqDiff, Nat.reduceBEq, Int.toNat_natCast, Int.natCast_nonneg, Int.reduceBEq, Int.reduceBNe, Int.reduceLT, Int.reduceLE, Int.reduceEq, Int.le_refl, Int.toNat_zero, if_true, if_false, reduceIte, ite_true, ite_false, true_and, and_true, ne_eq, not_true_eq_false, not_false_eq_true, Bool.false_eq_true, reduceCtorEq, and_self, Nat.zero_add, Nat.add_zero, Nat.le_refl, Bool.not_true, Bool.not_false, and_self, decide_true, decide_false, beq_self_eq_true, bne_self_eq_false, V.cells, f]; rw [if_pos (by first | omega | (refine ⟨?_, ?_⟩ <;> omega) | (simp only [true_and, and_true]; omega))]; with_reducible rfl) : A := h f
/-- As far as it is decided. -/
theorem goC {A B F : Prop} (f : F) (k : B) (h : F → B → A := by intro f k; (repeat (first | with_reducible refine go_seq ?_ | with_reducible refine go_reg ?_ | with_reducible refine go_nil ?_ | with_reducible refine go_tn ?_ | with_reducible refine go_sk ?_ | with_reducible refine go_blk ?_ | with_reducible refine go_exit ?_ | with_reducible refine go_ret ?_ | with_reducible refine go_tr ?_ | with_reducible refine go_te ?_ | with_reducible refine go_bn ?_ | with_reducible refine go_br ?_ | with_reducible refine go_be ?_ | ((with_reducible refine go_bo ?_ ?_); exact rfl) | with_reducible refine gq_nil ?_ | ((with_reducible apply go_op); exact rfl; exact evC f) | ((with_reducible apply go_op); exact rfl; exact euC f) | ((with_reducible apply gq_op); exact rfl; exact evC f) | ((with_reducible apply gq_op); exact rfl; exact euC f) | ((with_reducible refine go_skipu ?_ ?_); exact evC f) | ((with_reducible refine go_skip ?_ ?_); exact evC f) | ((with_reducible refine gq_skipu ?_ ?_); exact evC f) | ((with_reducible refine gq_skip ?_ ?_); exact evC f) | ((with_reducible apply go_gop); exact evC f; exact rfl; exact evC f) | ((with_reducible apply go_gop); exact evC f; exact rfl; exact euC f) | ((with_reducible apply gq_gop); exact evC f; exact rfl; exact evC f) | ((with_reducible apply gq_gop); exact evC f; exact rfl; exact euC f) | ((with_reducible refine go_ct ?_ ?_); exact evC f) | ((with_reducible refine go_cf ?_ ?_); exact evC f) | ((with_reducible apply go_fr); exact evC f) | ((with_reducible apply go_fn); exact evC f))); exact k) : A := h f k
theorem gcC {A B F : Prop} (f : F) (k : B) (h : F → B → A := by intro f k; first | ((with_reducible apply go_call); exact evC f; exact k) | ((with_reducible apply go_gcall); exact evC f; exact evC f; exact k) | ((with_reducible apply go_callv); exact evC f; kernel_rfl; exact evC f; exact k)) : A := h f k
theorem evW {A F : Prop} (f : F) (h : F → A := by intro f; simp only [put_app, put_none, init_app, evX_t, evX_c, resA_nil, resA_t, resA_c, tupA_0, tupA_1, tupA_2, astep, bop, uop, loadA, storeA, appA, ssliceA, eqA, eqCells, fillA, rowsA, setCells, A.cells, A.one, A.data, optP_some, List.all_cons, List.all_nil, Bool.and_true, Bool.true_and, Bool.false_and, Option.map_some, Option.map_none, Option.bind_some, Option.bind_none, Option.getD_some, Option.getD_none, List.map_cons, List.map_nil, List.getD_cons_zero, List.getD_cons_succ, List.getElem?_cons_zero, List.getElem?_cons_succ, List.getElem?_concat_length, get_p1, get_p2, set_p0, set_p1, set_p2, get_q1, get_q2, get_q3, set_q1, set_q2, set_q3, List.length_cons, List.length_nil, List.nil_append, List.cons_append, List.append_nil, List.set_cons_zero, List.set_cons_succ, List.drop_zero, List.drop_succ_cons, List.take_succ_cons, List.take_zero, List.take_nil, List.take_length, List.length_append, List.length_set, Nat.reduceAdd, Nat.reduceSub, Nat.reduceMul, Nat.reduceLeDiff, Nat.reduceEqDiff, Nat.reduceBEq, Int.toNat_natCast, Int.natCast_nonneg, Int.reduceBEq, Int.reduceBNe, Int.reduceLT, Int.reduceLE, Int.reduceEq, Int.le_refl, Int.toNat_zero, if_true, if_false, reduceIte, ite_true, ite_false, true_and, and_true, ne_eq, not_true_eq_false, not_false_eq_true, Bool.false_eq_true, reduceCtorEq, and_self, Nat.zero_add, Nat.add_zero, Nat.le_refl, Bool.not_true, Bool.not_false, and_self, decide_true, decide_false, beq_self_eq_true, bne_self_eq_false, wtr, f] <;> with_reducible rfl) : A := h f
theorem euW {A F : Prop} (f : F) (h : F → A := by intro f; simp only [put_app, put_none, init_app, evX_t, evX_c, resA_nil, resA_t, resA_c, tupA_0, tupA_1, tupA_2, astep, bop, uop, loadA, storeA, appA, ssliceA, eqA, eqCells, fillA, rowsA, setCells, A.cells, A.one, A.data, optP_some, List.all_cons, List.all_nil, Bool.and_true, Bool.true_and, Bool.false_and, Option.map_some, Option.map_none, Option.bind_some, Option.bind_none, Option.getD_some, Option.getD_none, List.map_cons, List.map_nil, List.getD_cons_zero, List.getD_cons_succ, List.getElem?_cons_zero, List.getElem?_cons_succ, List.getElem?_concat_length, get_p1, get_p2, set_p0, set_p1, set_p2, get_q1, get_q2, get_q3, set_q1, set_q2, set_q3, List.length_cons, List.length_nil, List.nil_append, List.cons_append, List.append_nil, List.set_cons_zero, List.set_cons_succ, List.drop_zero, List.drop_succ_cons, List.take_succ_cons, List.take_zero, List.take_nil, List.take_length, List.length_append, List.length_set, Nat.reduceAdd, Nat.reduceSub, Nat.reduceMul, Nat.reduceLeDiff, Nat.reduceEqDiff, Nat.reduceBEq, Int.toNat_natCast, Int.natCast_nonneg, Int.reduceBEq, Int.reduceBNe, Int.reduceLT, Int.reduceLE, Int.reduceEq, Int.le_refl, Int.toNat_zero, if_true, if_false, reduceIte, ite_true, ite_false, true_and, and_true, ne_eq, not_true_eq_false, not_false_eq_true, Bool.false_eq_true, reduceCtorEq, and_self, Nat.zero_add, Nat.add_zero, Nat.le_refl, Bool.not_true, Bool.not_false, and_self, decide_true, decide_false, beq_self_eq_true, bne_self_eq_false, wtr, f]; rw [if_pos (by first | omega | (refine ⟨?_, ?_⟩ <;> omega) | (simp only [true_and, and_true]; omega))]; with_reducible rfl) : A := h f
theorem inwW {A F : Prop} (f : F) (h : F → A := by intro f; simp only [put_app, put_none, init_app, evX_t, evX_c, resA_nil, resA_t, resA_c, tupA_0, tupA_1, tupA_2, astep, bop, uop, loadA, storeA, appA, ssliceA, eqA, eqCells, fillA, rowsA, setCells, A.cells, A.one, A.data, optP_some, List.all_cons, List.all_nil, Bool.and_true, Bool.true_and, Bool.false_and, Option.map_some, Option.map_none, Option.bind_some, Option.bind_none, Option.getD_some, Option.getD_none, List.map_cons, List.map_nil, List.getD_cons_zero, List.getD_cons_succ, List.getElem?_cons_zero, List.getElem?_cons_succ, List.getElem?_concat_length, get_p1, get_p2, set_p0, set_p1, set_p2, get_q1, get_q2, get_q3, set_q1, set_q2, set_q3, List.length_cons, List.length_nil, List.nil_append, List.cons_append, List.append_nil, List.set_cons_zero, List.set_cons_succ, List.drop_zero, List.drop_succ_cons, List.take_succ_cons, List.take_zero, List.take_nil, List.take_length, List.length_append, List.length_set, Nat.reduceAdd, Nat.reduceSub, Nat.reduceMul, Nat.reduceLeDiff, Nat.reduceEqDiff, Nat.reduceBEq, Int.toNat_natCast, Int.natCast_nonneg, Int.reduceBEq, Int.reduceBNe, Int.reduceLT, Int.reduceLE, Int.reduceEq, Int.le_refl, Int.toNat_zero, if_true, if_false, reduceIte, ite_true, ite_false, true_and, and_true, ne_eq, not_true_eq_false, not_false_eq_true, Bool.false_eq_true, reduceCtorEq, and_self, Nat.zero_add, Nat.add_zero, Nat.le_refl, Bool.not_true, Bool.not_false, and_self, decide_true, decide_false, beq_self_eq_true, bne_self_eq_false, wtr, forH, pastN, obsP, obsD, obsN, memN, Bool.false_or, Bool.true_or, Bool.or_false, Bool.or_true, true_or, or_true, false_or, or_false, f] <;> exact True.intro) : A := h f
/-- As far as it is decided. -/
theorem goW {A B F : Prop} (f : F) (k : B) (h : F → B → A := by intro f k; (repeat (first | with_reducible refine go_seq ?_ | with_reducible refine go_reg ?_ | with_reducible refine go_nil ?_ | with_reducible refine go_tn ?_ | with_reducible refine go_sk ?_ | with_reducible refine go_blk ?_ | with_reducible refine go_exit ?_ | with_reducible refine go_ret ?_ | with_reducible refine go_tr ?_ | with_reducible refine go_te ?_ | with_reducible refine go_bn ?_ | with_reducible refine go_br ?_ | with_reducible refine go_be ?_ | ((with_reducible refine go_bo ?_ ?_); exact rfl) | with_reducible refine gq_nil ?_ | ((with_reducible apply go_op); exact rfl; exact evW f) | ((with_reducible apply go_op); exact rfl; exact euW f) | ((with_reducible apply gq_op); exact rfl; exact evW f) | ((with_reducible apply gq_op); exact rfl; exact euW f) | ((with_reducible refine go_skipu ?_ ?_); exact evW f) | ((with_reducible refine go_skip ?_ ?_); exact evW f) | ((with_reducible refine gq_skipu ?_ ?_); exact evW f) | ((with_reducible refine gq_skip ?_ ?_); exact evW f) | ((with_reducible apply go_gop); exact evW f; exact rfl; exact evW f) | ((with_reducible apply go_gop); exact evW f; exact rfl; exact euW f) | ((with_reducible apply gq_gop); exact evW f; exact rfl; exact evW f) | ((with_reducible apply gq_gop); exact evW f; exact rfl; exact euW f) | ((with_reducible refine go_ct ?_ ?_); exact evW f) | ((with_reducible refine go_cf ?_ ?_); exact evW f) | ((with_reducible apply go_fr); exact evW f) | ((with_reducible apply go_fn); exact evW f))); exact k) : A := h f k
/-- The same, whatever order is picked; to a call, or a test that is open. -/
theorem runW {A B F : Prop} (f : F) (k : B) (h : F → B → A := by intro f k; (repeat (first | with_reducible refine go_seq ?_ | with_reducible refine go_regS ?_ | with_reducible refine gs_nil ?_ | with_reducible refine go_tn ?_ | with_reducible refine go_sk ?_ | with_reducible refine go_blk ?_ | with_reducible refine go_exit ?_ | with_reducible refine go_ret ?_ | with_reducible refine go_tr ?_ | with_reducible refine go_te ?_ | with_reducible refine go_bn ?_ | with_reducible refine go_br ?_ | with_reducible refine go_be ?_ | ((with_reducible refine go_bo ?_ ?_); exact rfl) | ((with_reducible apply gs_app0); exact rfl; exact evW f; exact evW f; (first | exact evp f | exact evW f | exact euW f)) | ((with_reducible apply gs_op0); exact rfl; exact rfl; exact evW f) | ((with_reducible apply gs_op0); exact rfl; exact rfl; exact euW f) | ((with_reducible apply gs_skipu0); exact rfl; exact evW f) | ((with_reducible apply gs_skip0); exact rfl; exact evW f) | ((with_reducible apply gs_guard); exact evW f) | ((with_reducible apply gs_appm); exact evW f; exact evW f; (first | exact evp f | exact evW f | exact euW f); (first | exact True.intro | exact inwW f)) | ((with_reducible apply gs_op); exact rfl; decide +kernel; exact rfl; exact evW f) | ((with_reducible apply gs_act); exact rfl; exact rfl; exact evW f; (first | exact True.intro | exact inwW f)) | ((with_reducible apply gs_op); exact rfl; decide +kernel; exact rfl; exact euW f) | ((with_reducible apply gs_act); exact rfl; exact rfl; exact euW f; (first | exact True.intro | exact inwW f)) | ((with_reducible apply gs_load); exact rfl; decide +kernel; exact rfl; exact evW f; (first | exact True.intro | exact inwW f)) | ((with_reducible apply gs_skipu); decide +kernel; exact rfl; exact evW f) | ((with_reducible apply gs_skip); decide +kernel; exact rfl; exact evW f) | ((with_reducible apply gs_call); exact evW f) | ((with_reducible apply gs_callv); exact evW f; kernel_rfl; exact evW f) | ((with_reducible refine go_ct ?_ ?_); exact evW f) | ((with_reducible refine go_cf ?_ ?_); exact evW f) | ((with_reducible apply go_fr); exact evW f) | ((with_reducible apply go_fn); exact evW f) | ((with_reducible refine go_draw 1 ?_ ?_); decide +kernel) | ((with_reducible refine go_draw 2 ?_ ?_); decide +kernel))); exact k) : A := h f k
/-- A call's contract, used; what must hold of the boxes closed by a script. -/
theorem use {P : Program} {G : World → Prop} {m i : Nat} {fl : List Bool} {past : List Hp} {obs : Obs} {d : Option Nat} {af : List Nat} {os : List AOper} {K : Ts → Hp → Prop} {ts : Ts} {h : Hp} {f : FuncId} {vs : List A} {h' : Hp} {v : A} (hc : ACall P G f vs h fun v' h'' => v' = v ∧ h'' = h') (k : aseq P G m (i + 1) fl.tail os (pastN m h past) (obsN m af obs) K (put ts d v) h') (hm : (m = 2 → h' = h ∧ fl.headD false = false) ∧ (m ≠ 2 → obsP af obs h') := by first | exact ⟨fun e => absurd e (by decide), fun _ => True.intro⟩ | exact ⟨fun e => absurd e (by decide), fun _ => inw0 True.intro⟩ | exact ⟨fun _ => ⟨rfl, by decide +kernel⟩, fun e => absurd rfl e⟩) : CallK P G m i fl f vs h d af os past obs K ts := rt hc hm k
theorem evg {A F : Prop} (f : F) (h : F → A := by intro f; simp only [put_app, put_none, init_app, evX_t, evX_c, resA_nil, resA_t, resA_c, tupA_0, tupA_1, tupA_2, astep, bop, uop, loadA, storeA, appA, ssliceA, eqA, eqCells, fillA, rowsA, setCells, A.cells, A.one, A.data, optP_some, List.all_cons, List.all_nil, Bool.and_true, Bool.true_and, Bool.false_and, Option.map_some, Option.map_none, Option.bind_some, Option.bind_none, Option.getD_some, Option.getD_none, List.map_cons, List.map_nil, List.getD_cons_zero, List.getD_cons_succ, List.getElem?_cons_zero, List.getElem?_cons_succ, List.getElem?_concat_length, get_p1, get_p2, set_p0, set_p1, set_p2, get_q1, get_q2, get_q3, set_q1, set_q2, set_q3, List.length_cons, List.length_nil, List.nil_append, List.cons_append, List.append_nil, List.set_cons_zero, List.set_cons_succ, List.drop_zero, List.drop_succ_cons, List.take_succ_cons, List.take_zero, List.take_nil, List.take_length, List.length_append, List.length_set, Nat.reduceAdd, Nat.reduceSub, Nat.reduceMul, Nat.reduceLeDiff, Nat.reduceEqDiff, Nat.reduceBEq, Int.toNat_natCast, Int.natCast_nonneg, Int.reduceBEq, Int.reduceBNe, Int.reduceLT, Int.reduceLE, Int.reduceEq, Int.le_refl, Int.toNat_zero, if_true, if_false, reduceIte, ite_true, ite_false, true_and, and_true, ne_eq, not_true_eq_false, not_false_eq_true, Bool.false_eq_true, reduceCtorEq, and_self, Nat.zero_add, Nat.add_zero, Nat.le_refl, Bool.not_true, Bool.not_false, and_self, decide_true, decide_false, beq_self_eq_true, bne_self_eq_false, forL, nxt2, Nat.reduceMod, Option.some.injEq, List.getD_cons_zero, List.getD_cons_succ, f] <;> with_reducible rfl) : A := h f
theorem ing {A F : Prop} (f : F) (h : F → A := by intro f; simp only [put_app, put_none, init_app, evX_t, evX_c, resA_nil, resA_t, resA_c, tupA_0, tupA_1, tupA_2, astep, bop, uop, loadA, storeA, appA, ssliceA, eqA, eqCells, fillA, rowsA, setCells, A.cells, A.one, A.data, optP_some, List.all_cons, List.all_nil, Bool.and_true, Bool.true_and, Bool.false_and, Option.map_some, Option.map_none, Option.bind_some, Option.bind_none, Option.getD_some, Option.getD_none, List.map_cons, List.map_nil, List.getD_cons_zero, List.getD_cons_succ, List.getElem?_cons_zero, List.getElem?_cons_succ, List.getElem?_concat_length, get_p1, get_p2, set_p0, set_p1, set_p2, get_q1, get_q2, get_q3, set_q1, set_q2, set_q3, List.length_cons, List.length_nil, List.nil_append, List.cons_append, List.append_nil, List.set_cons_zero, List.set_cons_succ, List.drop_zero, List.drop_succ_cons, List.take_succ_cons, List.take_zero, List.take_nil, List.take_length, List.length_append, List.length_set, Nat.reduceAdd, Nat.reduceSub, Nat.reduceMul, Nat.reduceLeDiff, Nat.reduceEqDiff, Nat.reduceBEq, Int.toNat_natCast, Int.natCast_nonneg, Int.reduceBEq, Int.reduceBNe, Int.reduceLT, Int.reduceLE, Int.reduceEq, Int.le_refl, Int.toNat_zero, if_true, if_false, reduceIte, ite_true, ite_false, true_and, and_true, ne_eq, not_true_eq_false, not_false_eq_true, Bool.false_eq_true, reduceCtorEq, and_self, Nat.zero_add, Nat.add_zero, Nat.le_refl, Bool.not_true, Bool.not_false, and_self, decide_true, decide_false, beq_self_eq_true, bne_self_eq_false, forL, nxt2, Nat.reduceMod, Option.some.injEq, List.getD_cons_zero, List.getD_cons_succ, f] <;> exact True.intro) : A := h f
/-- The same, where a box is made at any time. -/
theorem rung {A B F : Prop} (f : F) (k : B) (h : F → B → A := by intro f k; (repeat (first | with_reducible refine gn_nil ?_ | ((with_reducible apply gn_op); exact rfl; (refine ⟨?_, ?_⟩); exact evg f; (first | exact True.intro | exact ing f)))); exact k) : A := h f k
end AX
end Go.Proofs.YtkhhnkceiibmfaaGreatDoor

namespace Go.Proofs.YtkhhnkceiibmfaaGreatDoor
open Go.RowKit
set_option linter.unusedSimpArgs false
set_option linter.unusedVariables false
set_option maxHeartbeats 4000000
namespace AX
end AX
end Go.Proofs.YtkhhnkceiibmfaaGreatDoor

namespace Go.Proofs.YtkhhnkceiibmfaaGreatDoor
open Go.RowKit
set_option linter.unusedSimpArgs false
set_option linter.unusedVariables false
set_option maxHeartbeats 4000000
namespace AX
def c_vnode : AX.AFn := ⟨50, .seq (.reg false [⟨some 1, .box 44 (.t 0), none, []⟩, ⟨some 2, .mv (.c (.int .i64 0)), none, []⟩]) (.seq (.seq (.reg false [⟨some 6, .load true 5 (.t 1), none, []⟩, ⟨some 7, .call 221 [.t 6], none, []⟩, ⟨some 8, .un .not (.t 7), none, []⟩]) (.cond (.t 8) (.seq (.reg false [⟨some 2, .mv (.c (.int .i64 1)), none, []⟩]) (.ret)) (.skip))) (.seq (.seq (.reg false [⟨some 9, .faddr 0 (.t 1), none, []⟩, ⟨some 10, .load false 1 (.t 9), none, []⟩]) (.block 0 (.seq (.reg false [⟨some 12, .bin .eql (.t 10) (.c (.int .i64 2)), none, []⟩, ⟨some 11, .mv (.t 12), none, []⟩]) (.cond (.t 11) (.seq (.reg false [⟨some 13, .faddr 1 (.t 1), none, []⟩, ⟨some 14, .load false 1 (.t 13), none, []⟩, ⟨some 15, .call 222 [.t 14], none, []⟩, ⟨some 16, .un .not (.t 15), none, []⟩]) (.cond (.t 16) (.seq (.reg false [⟨some 2, .mv (.c (.int .i64 5)), none, []⟩]) (.ret)) (.skip))) (.seq (.reg false [⟨some 18, .bin .eql (.t 10) (.c (.int .i64 3)), none, []⟩, ⟨some 17, .mv (.t 18), none, []⟩]) (.cond (.t 17) (.seq (.reg false [⟨some 19, .faddr 2 (.t 1), none, []⟩, ⟨some 20, .load false 1 (.t 19), none, []⟩, ⟨some 21, .call 223 [.t 20], none, []⟩, ⟨some 2, .mv (.t 21), none, []⟩]) (.ret)) (.seq (.reg false [⟨some 23, .bin .eql (.t 10) (.c (.int .i64 5)), none, []⟩, ⟨some 22, .mv (.t 23), none, []⟩]) (.cond (.t 22) (.seq (.reg false [⟨some 24, .faddr 4 (.t 1), none, []⟩, ⟨some 25, .load false 1 (.t 24), none, []⟩, ⟨some 26, .len false (.t 25), none, []⟩, ⟨some 27, .mv (.c (.int .i64 0)), none, []⟩]) (.block 1 (.loop (.seq (.reg false [⟨some 28, .bin .lss (.t 27) (.t 26), none, []⟩]) (.seq (.cond (.t 28) (.skip) (.exit 1)) (.seq (.block 2 (.seq (.reg false [⟨some 29, .mv (.t 27), none, []⟩, ⟨some 30, .iaddr 1 (.t 25) (.t 27), none, []⟩, ⟨some 31, .load false 1 (.t 30), none, []⟩, ⟨some 3, .mv (.t 29), none, []⟩, ⟨some 4, .mv (.t 31), none, []⟩]) (.seq (.seq (.reg false [⟨some 32, .mv (.t 4), none, []⟩, ⟨some 33, .call 223 [.t 32], none, []⟩, ⟨some 5, .mv (.t 33), none, []⟩]) (.seq (.reg false [⟨some 34, .mv (.t 5), none, []⟩, ⟨some 35, .bin .neq (.t 34) (.c (.int .i64 0)), none, []⟩]) (.cond (.t 35) (.seq (.reg false [⟨some 36, .mv (.t 5), none, []⟩, ⟨some 2, .mv (.t 36), none, []⟩]) (.ret)) (.skip)))) (.seq (.reg false [⟨some 37, .mv (.t 3), none, []⟩, ⟨some 38, .bin .gtr (.t 37) (.c (.int .i64 0)), none, []⟩, ⟨some 39, .mv (.t 38), none, []⟩, ⟨some 40, .mv (.t 4), some (39, true), []⟩, ⟨some 41, .faddr 4 (.t 1), some (39, true), []⟩, ⟨some 42, .load false 1 (.t 41), some (39, true), []⟩, ⟨some 43, .mv (.t 3), some (39, true), []⟩, ⟨some 44, .bin .sub (.t 43) (.c (.int .i64 1)), some (39, true), []⟩, ⟨some 45, .iaddr 1 (.t 42) (.t 44), some (39, true), []⟩, ⟨some 46, .load false 1 (.t 45), some (39, true), []⟩, ⟨some 47, .bin .leq (.t 40) (.t 46), some (39, true), []⟩, ⟨some 48, .pick (.t 39) (.t 47) (.c (.bool false)), none, []⟩]) (.cond (.t 48) (.seq (.reg false [⟨some 2, .mv (.c (.int .i64 1)), none, []⟩]) (.ret)) (.skip)))))) (.reg false [⟨some 49, .bin .add (.t 27) (.c (.int .i64 1)), none, []⟩, ⟨some 27, .mv (.t 49), none, []⟩]))))))) (.skip))))))))) (.seq (.reg false [⟨some 2, .mv (.c (.int .i64 0)), none, []⟩]) (.ret)))), [.t 2]⟩
theorem h_vnode : AX.compFn Tryz.prog 166 = some c_vnode := by kernel_rfl
def c_vCheck : AX.AFn := ⟨9, .seq (.reg false [⟨some 1, .box 44 (.t 0), none, []⟩, ⟨some 2, .mv (.c (.int .i64 0)), none, []⟩]) (.seq (.reg false [⟨some 3, .alloc 3 [.int .i64 0], none, []⟩, ⟨none, .store 1 (.t 3) (.c (.int .i64 0)), none, []⟩]) (.seq (.reg false [⟨some 4, .alloc 217 [.nilf], none, []⟩]) (.seq (.reg false [⟨some 5, .mkfn 165 [.t 3, .t 4], none, []⟩, ⟨none, .store 1 (.t 4) (.t 5), none, []⟩]) (.seq (.reg false [⟨some 6, .load false 1 (.t 4), none, []⟩, ⟨some 7, .load true 5 (.t 1), none, []⟩, ⟨some 8, .callv (.t 6) [.t 7, .c (.int .i64 1)], none, []⟩, ⟨some 2, .mv (.t 8), none, []⟩]) (.ret))))), [.t 2]⟩
theorem h_vCheck : AX.compFn Tryz.prog 104 = some c_vCheck := by kernel_rfl
def c_vvisit : AX.AFn := ⟨38, .seq (.reg false [⟨some 4, .box 44 (.t 0), none, []⟩, ⟨some 6, .mv (.c (.int .i64 0)), none, []⟩]) (.seq (.seq (.reg false [⟨some 11, .mv (.t 1), none, []⟩, ⟨some 12, .bin .gtr (.t 11) (.c (.int .i64 32)), none, []⟩]) (.cond (.t 12) (.seq (.reg false [⟨some 6, .mv (.c (.int .i64 4)), none, []⟩]) (.ret)) (.skip))) (.seq (.seq (.reg false [⟨some 13, .load false 1 (.t 2), none, []⟩, ⟨some 14, .bin .geq (.t 13) (.c (.int .i64 4096)), none, []⟩]) (.cond (.t 14) (.seq (.reg false [⟨some 6, .mv (.c (.int .i64 14)), none, []⟩]) (.ret)) (.skip))) (.seq (.reg false [⟨some 15, .load false 1 (.t 2), none, []⟩, ⟨some 16, .bin .add (.t 15) (.c (.int .i64 1)), none, []⟩, ⟨none, .store 1 (.t 2) (.t 16), none, []⟩]) (.seq (.seq (.reg false [⟨some 17, .load true 5 (.t 4), none, []⟩, ⟨some 18, .call 166 [.t 17], none, []⟩, ⟨some 7, .mv (.t 18), none, []⟩]) (.seq (.reg false [⟨some 19, .mv (.t 7), none, []⟩, ⟨some 20, .bin .neq (.t 19) (.c (.int .i64 0)), none, []⟩]) (.cond (.t 20) (.seq (.reg false [⟨some 21, .mv (.t 7), none, []⟩, ⟨some 6, .mv (.t 21), none, []⟩]) (.ret)) (.skip)))) (.seq (.seq (.reg false [⟨some 22, .faddr 3 (.t 4), none, []⟩, ⟨some 23, .load false 1 (.t 22), none, []⟩, ⟨some 24, .len false (.t 23), none, []⟩, ⟨some 25, .mv (.c (.int .i64 0)), none, []⟩]) (.block 0 (.loop (.seq (.reg false [⟨some 26, .bin .lss (.t 25) (.t 24), none, []⟩]) (.seq (.cond (.t 26) (.skip) (.exit 0)) (.seq (.block 1 (.seq (.reg false [⟨some 27, .iaddr 5 (.t 23) (.t 25), none, []⟩, ⟨some 28, .load true 5 (.t 27), none, []⟩, ⟨some 9, .alloc 44 [.int .i64 0, .int .i64 0, .str [], .sl 0 .nil [], .sl 0 .nil []], none, []⟩, ⟨none, .store 5 (.t 9) (.t 28), none, []⟩]) (.seq (.reg false [⟨some 29, .load false 1 (.t 3), none, []⟩, ⟨some 30, .load true 5 (.t 9), none, []⟩, ⟨some 31, .mv (.t 1), none, []⟩, ⟨some 32, .bin .add (.t 31) (.c (.int .i64 1)), none, []⟩, ⟨some 33, .callv (.t 29) [.t 30, .t 32], none, []⟩, ⟨some 10, .mv (.t 33), none, []⟩]) (.seq (.reg false [⟨some 34, .mv (.t 10), none, []⟩, ⟨some 35, .bin .neq (.t 34) (.c (.int .i64 0)), none, []⟩]) (.cond (.t 35) (.seq (.reg false [⟨some 36, .mv (.t 10), none, []⟩, ⟨some 6, .mv (.t 36), none, []⟩]) (.ret)) (.skip)))))) (.reg false [⟨some 37, .bin .add (.t 25) (.c (.int .i64 1)), none, []⟩, ⟨some 25, .mv (.t 37), none, []⟩]))))))) (.seq (.reg false [⟨some 6, .mv (.c (.int .i64 0)), none, []⟩]) (.ret))))))), [.t 6]⟩
theorem h_vvisit : AX.compFn Tryz.prog 165 = some c_vvisit := by kernel_rfl

theorem shaped_parts {k n : Int} {s : List UInt8} {is : List V} {ks : List (List UInt8)} (h : Val.shapedB k n s is.length ks.length = true) : (k ≠ 3 → s = []) ∧ (k ≠ 5 → ks = []) := by
  unfold Val.shapedB at h
  simp only [Bool.and_eq_true, Bool.or_eq_true, decide_eq_true_eq, beq_iff_eq] at h
  obtain ⟨⟨⟨⟨_, _⟩, h1⟩, _⟩, h2⟩ := h
  refine ⟨fun hk => ?_, fun hk => ?_⟩
  · rcases h1 with h1 | h1
    · exact absurd h1 hk
    · exact h1
  · rw [if_neg hk] at h2
    exact List.eq_nil_of_length_eq_zero (by simpa using h2)
theorem a_vnode (k n : Int) (s : List UInt8) (is : List V) (ks : List (List UInt8)) (hlen : (V.mk k n s is ks).lens) (h : Hp) : ACall Tryz.prog GT 166 [(V.mk k n s is ks).A] h fun r h' => r = .int .i64 (Val.nodeZ (.mk k n s is ks)) ∧ h' = h := by
  refine pcall ?_ rfl (by simp [V.A, V.cells, A.pure, A.data]) h
  obtain ⟨hil, hkl, _, _⟩ := V.lens_mk hlen
  refine acall_of mixedT h_vnode (by simp [c_vnode]) ?_
  dsimp only [c_vnode]
  (refine AX.goV True.intro ?_)
  (refine AX.gcV True.intro ?_)
  refine (a_shaped k n s .no .no 5 1 _ _ _).mono ?_
  rintro v h' ⟨rfl, rfl⟩
  rw [V.cellss_length, strsA_length]
  rcases bool_or (Val.shapedB k n s is.length ks.length) with hs | hs
  · rw [hs]
    obtain ⟨hs3, hs5⟩ := shaped_parts hs
    have hZ : Val.nodeZ (.mk k n s is ks) = if k = 2 ∧ ¬ (-9007199254740992 ≤ n ∧ n ≤ 9007199254740992) then 5 else if Val.textZ s ≠ 0 then Val.textZ s else Val.keysZ none ks := by rw [Val.nodeZ, if_neg (by rw [hs]; simp)]
    have ht0 : Val.textZ [] = 0 := by decide
    have hk0 : Val.keysZ none [] = 0 := rfl
    by_cases h2 : k = 2
    · have e2 : (k == 2) = true := by simp [h2]
      obtain rfl : s = [] := hs3 (by omega)
      obtain rfl : ks = [] := hs5 (by omega)
      (refine AX.goV e2 ?_)
      (refine AX.gcV e2 ?_)
      refine (a_nvalid n _).mono ?_
      rintro v h' ⟨rfl, rfl⟩
      by_cases hn : -9007199254740992 ≤ n ∧ n ≤ 9007199254740992
      · (refine AX.goV (And.intro e2 hn) ?_)
        exact ⟨_, le_refl _, by rw [tupA_1, hZ, if_neg (by simp [hn]), ht0]; simp [hk0]⟩
      · (refine AX.goV (And.intro e2 hn) ?_)
        exact ⟨_, le_refl _, by rw [tupA_1, hZ, if_pos ⟨h2, hn⟩]⟩
    have e2 : (k == 2) = false := by simp [h2]
    rw [if_neg (by simp [h2])] at hZ
    by_cases h3 : k = 3
    · have e3 : (k == 3) = true := by simp [h3]
      obtain rfl : ks = [] := hs5 (by omega)
      (refine AX.goV (And.intro e2 e3) ?_)
      (refine AX.gcV (And.intro e2 e3) ?_)
      refine (a_vtext s _).mono ?_
      rintro v h' ⟨rfl, rfl⟩
      (refine AX.goV (And.intro e2 e3) ?_)
      exact ⟨_, le_refl _, by
        rw [tupA_1, hZ]
        split
        · rfl
        · next h => rw [hk0]; simp at h; rw [h]⟩
    have e3 : (k == 3) = false := by simp [h3]
    obtain rfl : s = [] := hs3 h3
    rw [ht0, if_neg (by simp)] at hZ
    by_cases h5 : k = 5
    · have e5 : (k == 5) = true := by simp [h5]
      (refine AX.goV (And.intro e2 (And.intro e3 e5)) ?_)
      refine awp_loop (fun m ts h => h = ⟨[.cells 44 (V.mk k n [] is ks).cells], []⟩ ∧ ∃ (i : Nat), m = ks.length - i ∧ i ≤ ks.length ∧ Val.keysZ (if i = 0 then none else ks[i - 1]?) (ks.drop i) = Val.keysZ none ks ∧ ts 1 = .ptr 0 0 ∧ ts 25 = .sl 1 .no (strsA ks) ∧ ts 26 = .int .i64 ks.length ∧ ts 27 = .int .i64 i) ks.length ?_ ?_
      · refine ⟨rfl, 0, rfl, Nat.zero_le _, rfl, ?_⟩
        (exact AX.inv0 @strsA_length)
      · rintro m ts h ⟨rfl, i, rfl, hi, heq, t1, t25, t26, t27⟩
        by_cases hlt : i < ks.length
        · have hlt2 : (i : Int) < (ks.length : Int) := by omega
          have hlt' : (i : Int) < ((strsA ks).length : Int) := by rw [strsA_length]; omega
          have ee := strsA_get ks i hlt
          have ei : IntKind.i64.wrap ((i : Int) + 1) = (i : Int) + 1 := wrap64 (by omega) (by omega)
          rw [List.drop_eq_getElem_cons hlt, Val.keysZ] at heq
          (refine AX.goC (And.intro t1 (And.intro t25 (And.intro t26 (And.intro t27 (And.intro hlt' (And.intro hlt2 (And.intro ee ei))))))) ?_)
          (refine AX.gcC (And.intro t1 (And.intro t25 (And.intro t26 (And.intro t27 (And.intro hlt' (And.intro ee ei)))))) ?_)
          refine (a_vtext ks[i] _).mono ?_
          rintro v h' ⟨rfl, rfl⟩
          by_cases ht2 : Val.textZ ks[i] = 0
          · rw [if_neg (by simp [ht2])] at heq
            rw [ht2]
            cases i with
            | zero =>
              have h0 : ¬ ((0 : Nat) : Int) > 0 := by omega
              simp only [Nat.reduceAdd, if_true, Val.badB, Bool.false_eq_true, if_false] at heq
              (refine AX.goC (And.intro t1 (And.intro t25 (And.intro t26 (And.intro t27 (And.intro hlt' (And.intro hlt2 (And.intro ee (And.intro ei h0)))))))) ?_)
              refine ⟨ks.length - 1, by omega, rfl, 1, rfl, by omega, ?_, ?_⟩
              · rw [← heq]; simp [hlt]
              · (exact AX.inv0 (And.intro t1 (And.intro t25 (And.intro t26 (And.intro t27 ei)))))
            | succ j =>
              have h0 : ((j + 1 : Nat) : Int) > 0 := by omega
              have ej : IntKind.i64.wrap (((j + 1 : Nat) : Int) - 1) = (j : Int) := by rw [wrap64 (by omega) (by omega)]; omega
              have ee2 := strsA_get ks j (by omega)
              have hj' : (j : Int) < ((strsA ks).length : Int) := by omega
              have hkj : ks[j + 1 - 1]? = some (ks[j]'(by omega)) := List.getElem?_eq_getElem (by omega)
              rw [show (if j + 1 = 0 then none else ks[j + 1 - 1]?) = some (ks[j]'(by omega)) from by rw [if_neg (by omega)]; exact hkj] at heq
              simp only [Val.badB, Val.less_total] at heq
              rcases bool_or (Op.bytesLess ks[j + 1] (ks[j]'(by omega)) || ks[j + 1] == (ks[j]'(by omega))) with hb | hb
              · simp only [hb, Bool.not_true, Bool.not_false, Bool.false_eq_true, if_false, if_true] at heq
                (refine AX.goC (And.intro t1 (And.intro t25 (And.intro t26 (And.intro t27 (And.intro hlt' (And.intro hlt2 (And.intro ee (And.intro ee2 (And.intro ei (And.intro ej (And.intro h0 (And.intro hj' hb)))))))))))) ?_)
                exact ⟨_, le_refl _, by rw [tupA_1, hZ, ← heq]⟩
              · simp only [hb, Bool.not_true, Bool.not_false, Bool.false_eq_true, if_false, if_true] at heq
                (refine AX.goC (And.intro t1 (And.intro t25 (And.intro t26 (And.intro t27 (And.intro hlt' (And.intro hlt2 (And.intro ee (And.intro ee2 (And.intro ei (And.intro ej (And.intro h0 (And.intro hj' hb)))))))))))) ?_)
                refine ⟨ks.length - (j + 1 + 1), by omega, rfl, j + 1 + 1, rfl, by omega, ?_, ?_⟩
                · rw [← heq]; simp [hlt]
                · (exact AX.inv0 (And.intro t1 (And.intro t25 (And.intro t26 (And.intro t27 ei)))))
          · have ht3 : (Val.textZ ks[i] != 0) = true := by simp [ht2]
            rw [if_pos (by simp [ht2])] at heq
            (refine AX.goC (And.intro t1 (And.intro t25 (And.intro t26 (And.intro t27 (And.intro hlt' (And.intro hlt2 (And.intro ee (And.intro ei ht3)))))))) ?_)
            exact ⟨_, le_refl _, by rw [tupA_1, hZ, ← heq]⟩
        · have hlt2 : ¬ (i : Int) < (ks.length : Int) := by omega
          (refine AX.goC (And.intro t1 (And.intro t25 (And.intro t26 (And.intro t27 hlt2)))) ?_)
          refine ⟨_, le_refl _, ?_⟩
          rw [tupA_1, hZ, ← heq, List.drop_of_length_le (by omega)]
          cases (if i = 0 then none else ks[i - 1]?) <;> rfl
    have e5 : (k == 5) = false := by simp [h5]
    obtain rfl : ks = [] := hs5 h5
    (refine AX.goV (And.intro e2 (And.intro e3 e5)) ?_)
    exact ⟨_, le_refl _, by rw [tupA_1, hZ, hk0]⟩
  · rw [hs]
    (refine AX.goV True.intro ?_)
    exact ⟨_, le_refl _, by rw [tupA_1, Val.nodeZ, if_pos hs]⟩
end AX
end Go.Proofs.YtkhhnkceiibmfaaGreatDoor

namespace Go.Proofs.YtkhhnkceiibmfaaGreatDoor
open Go.RowKit
set_option linter.unusedSimpArgs false
set_option linter.unusedVariables false
set_option maxHeartbeats 4000000
namespace AX
theorem chks_nil' (lv b : Nat) : Val.chks [] lv b = (0, b) := by rw [Val.chks]
theorem chks_cons' (v : V) (l : List V) (lv b : Nat) : Val.chks (v :: l) lv b = if (Val.chk v lv b).1 ≠ 0 then Val.chk v lv b else Val.chks l lv (Val.chk v lv b).2 := by rw [Val.chks]
def cntB (b : Nat) : Blk := .cells 3 [.int .i64 b]
def visB : Blk := .cells 217 [.fn 165 [.ptr 1 0, .ptr 2 0]]
theorem get_app {l m : List Blk} {i : Nat} {x : Blk} (h : l[i]? = some x) : (l ++ m)[i]? = some x := by
  rw [List.getElem?_append_left (List.getElem?_eq_some_iff.1 h).1]; exact h
theorem set_new (l : List Blk) (x y : Blk) : (l ++ [x]).set l.length y = l ++ [y] := by
  rw [List.set_append_right _ _ (Nat.le_refl _)]; simp
theorem t_visit : ∀ (v : V) (lv b : Nat) (h : Hp), v.lens → h.b[1]? = some (cntB b) → h.b[2]? = some visB → ACall Tryz.prog GT 165 [v.A, .int .i64 lv, .ptr 1 0, .ptr 2 0] h fun r h' => r = .int .i64 (Val.chk v lv b).1 ∧ ((Val.chk v lv b).1 = 0 → h'.b[1]? = some (cntB (Val.chk v lv b).2) ∧ h'.b[2]? = some visB) := by
  refine V.induct fun k n s is ks ih => ?_
  intro lv b h hlen hb1 hb2
  refine acall_of mixedT h_vvisit (by simp [c_vvisit]) ?_
  dsimp only [c_vvisit]
  obtain ⟨hil, hkl, _, hmem⟩ := V.lens_mk hlen
  have hbl : 2 < h.b.length := (List.getElem?_eq_some_iff.1 hb2).1
  have g1 : ∀ m, (h.b ++ m)[1]? = some (.cells 3 [.int .i64 b]) := fun m => get_app hb1
  have g2 : ∀ m, (h.b ++ m)[2]? = some visB := fun m => get_app hb2
  have hC : ¬ (lv : Int) > 32 → ¬ (b : Int) ≥ 4096 → Val.chk (.mk k n s is ks) lv b = if Val.nodeZ (.mk k n s is ks) ≠ 0 then (Val.nodeZ (.mk k n s is ks), b) else Val.chks is (lv + 1) (b + 1) := fun h1 h2 => by rw [Val.chk, if_neg (by omega), if_neg (by omega)]
  by_cases h1 : (lv : Int) > 32
  · have hC1 : Val.chk (.mk k n s is ks) lv b = (4, b) := by rw [Val.chk, if_pos (by omega)]
    (refine AX.goV h1 ?_)
    exact ⟨_, le_refl _, by rw [tupA_1, hC1], fun e => by rw [hC1] at e; simp at e⟩
  by_cases h2 : (b : Int) ≥ 4096
  · have hC1 : Val.chk (.mk k n s is ks) lv b = (14, b) := by rw [Val.chk, if_neg (by omega), if_pos (by omega)]
    (refine AX.goV (And.intro h1 (And.intro h2 (And.intro g1 g2))) ?_)
    exact ⟨_, le_refl _, by rw [tupA_1, hC1], fun e => by rw [hC1] at e; simp at e⟩
  have eb : IntKind.i64.wrap ((b : Int) + 1) = ((b + 1 : Nat) : Int) := by rw [wrap64 (by omega) (by omega)]; omega
  have hne1 : ¬ (1 = h.b.length) := by omega
  have hle1 : 1 ≤ 1 := by omega
  (refine AX.goV (And.intro h1 (And.intro h2 (And.intro g1 (And.intro g2 (And.intro eb (And.intro (@List.getElem?_set AX.Blk) hne1)))))) ?_)
  (refine AX.gcV (And.intro h1 h2) ?_)
  refine (a_vnode k n s is ks hlen _).mono ?_
  rintro v h' ⟨rfl, rfl⟩
  have hC' := hC h1 h2
  by_cases hn : Val.nodeZ (.mk k n s is ks) = 0
  · rw [hn]
    rw [if_neg (by simp [hn])] at hC'
    have elv : IntKind.i64.wrap ((lv : Int) + 1) = ((lv + 1 : Nat) : Int) := by rw [wrap64 (by omega) (by omega)]; omega
    (refine AX.goV (And.intro h1 (And.intro h2 (And.intro (@List.getElem?_set AX.Blk) hne1))) ?_)
    refine awp_loop (fun m ts hh => ∃ (i q : Nat), m = is.length - i ∧ i ≤ is.length ∧ Val.chks (is.drop i) (lv + 1) q = Val.chks is (lv + 1) (b + 1) ∧ hh.b[1]? = some (cntB q) ∧ hh.b[2]? = some visB ∧ ts 1 = .int .i64 lv ∧ ts 3 = .ptr 2 0 ∧ ts 23 = .sl 5 .no (V.cellss is) ∧ ts 24 = .int .i64 is.length ∧ ts 25 = .int .i64 i) is.length ?_ ?_
    · refine ⟨0, b + 1, rfl, Nat.zero_le _, rfl, ?_, ?_, ?_⟩
      · show (List.set _ 1 _)[1]? = _
        rw [List.getElem?_set, if_pos rfl, if_pos (by simp; omega)]; rfl
      · show (List.set _ 1 _)[2]? = _
        rw [List.getElem?_set, if_neg (by omega)]; exact g2 _
      · (exact AX.inv0 @V.cellss_length)
    · rintro m ts hh ⟨i, q, rfl, hi, heq, p1, p2, t1, t3, t23, t24, t25⟩
      by_cases hlt : i < is.length
      · have hlt2 : (i : Int) < (is.length : Int) := by omega
        have hlt' : (i : Int) < ((V.cellss is).length : Int) := by rw [V.cellss_length]; omega
        have ei : IntKind.i64.wrap ((i : Int) + 1) = (i : Int) + 1 := wrap64 (by omega) (by omega)
        have ee := V.cellss_get is i hlt
        have hcall := fun (h : Hp) => ih is[i] (List.getElem_mem hlt) (lv + 1) q h (hmem _ (List.getElem_mem hlt))
        rw [List.drop_eq_getElem_cons hlt, chks_cons'] at heq
        obtain ⟨⟨k', n', s', is', ks'⟩, hv⟩ : ∃ x, is[i] = x := ⟨_, rfl⟩
        rw [hv] at ee hcall heq
        have q2 : ∀ m, (hh.b ++ m)[2]? = some (.cells 217 [.fn 165 [.ptr 1 0, .ptr 2 0]]) := fun m => get_app p2
        (refine AX.goC (And.intro t1 (And.intro t3 (And.intro t23 (And.intro t24 (And.intro t25 (And.intro hlt' (And.intro hlt2 (And.intro ee (And.intro elv (And.intro ei (And.intro @set_new q2))))))))))) ?_)
        (refine AX.gcC (And.intro t1 (And.intro t3 (And.intro t23 (And.intro t24 (And.intro t25 elv))))) ?_)
        refine (hcall _ (get_app p1) (get_app p2)).mono ?_
        rintro v h' ⟨rfl, hcnt⟩
        by_cases hz : (Val.chk (.mk k' n' s' is' ks') (lv + 1) q).1 = 0
        · rw [if_neg (by simp [hz])] at heq
          rw [hz]
          obtain ⟨r1, r2⟩ := hcnt hz
          (refine AX.goC (And.intro t1 (And.intro t3 (And.intro t23 (And.intro t24 (And.intro t25 ei))))) ?_)
          refine ⟨is.length - (i + 1), by omega, i + 1, _, rfl, by omega, heq, r1, r2, ?_⟩
          (exact AX.inv0 (And.intro t1 (And.intro t3 (And.intro t23 (And.intro t24 (And.intro t25 ei))))))
        · have hz' : ((Val.chk (.mk k' n' s' is' ks') (lv + 1) q).1 != 0) = true := by simp [hz]
          rw [if_pos (by simp [hz])] at heq
          (refine AX.goC (And.intro t1 (And.intro t3 (And.intro t23 (And.intro t24 (And.intro t25 (And.intro ei hz')))))) ?_)
          exact ⟨_, le_refl _, by rw [tupA_1, hC', ← heq], fun e => by rw [hC', ← heq] at e; exact absurd e hz⟩
      · have hlt2 : ¬ (i : Int) < (is.length : Int) := by omega
        rw [List.drop_of_length_le (by omega), chks_nil'] at heq
        (refine AX.goC (And.intro t1 (And.intro t3 (And.intro t23 (And.intro t24 (And.intro t25 hlt2))))) ?_)
        exact ⟨_, le_refl _, by rw [tupA_1, hC', ← heq], fun _ => by rw [hC', ← heq]; exact ⟨p1, p2⟩⟩
  · have hn' : (Val.nodeZ (.mk k n s is ks) != 0) = true := by simp [hn]
    rw [if_pos (by simp [hn])] at hC'
    (refine AX.goV (And.intro h1 (And.intro h2 hn')) ?_)
    exact ⟨_, le_refl _, by rw [tupA_1, hC'], fun e => by rw [hC'] at e; exact absurd e hn⟩
theorem a_vCheck (v : V) (hlen : v.lens) (h : Hp) : ACall Tryz.prog GT 104 [v.A] h fun r h' => r = .int .i64 (Val.checkZ v) ∧ h' = h := by
  have ht : ∀ h : Hp, h.b[1]? = some (cntB 0) → h.b[2]? = some visB → ACall Tryz.prog GT 165 [v.A, .int .i64 1, .ptr 1 0, .ptr 2 0] h fun r h' => r = .int .i64 (Val.chk v 1 0).1 ∧ ((Val.chk v 1 0).1 = 0 → h'.b[1]? = some (cntB (Val.chk v 1 0).2) ∧ h'.b[2]? = some visB) := fun h => t_visit v 1 0 h hlen
  obtain ⟨k, n, s, is, ks⟩ := v
  refine pcall ?_ rfl (by simp [V.A, V.cells, A.pure, A.data]) h
  refine acall_of mixedT h_vCheck (by simp [c_vCheck]) ?_
  dsimp only [c_vCheck]
  (refine AX.goV True.intro ?_)
  (refine AX.gcV True.intro ?_)
  refine (ht _ rfl rfl).mono ?_
  rintro v h' ⟨rfl, _⟩
  (refine AX.goV True.intro ?_)
  exact ⟨_, le_refl _, rfl⟩
end AX
end Go.Proofs.YtkhhnkceiibmfaaGreatDoor

namespace Go.Proofs.YtkhhnkceiibmfaaGreatDoor
open Go.RowKit
set_option linter.unusedSimpArgs false
set_option linter.unusedVariables false
set_option maxHeartbeats 4000000
namespace AX
end AX
end Go.Proofs.YtkhhnkceiibmfaaGreatDoor

namespace Go.Proofs.YtkhhnkceiibmfaaGreatDoor
open Go.RowKit
set_option linter.unusedSimpArgs false
set_option linter.unusedVariables false
set_option maxHeartbeats 4000000
namespace AX
end AX
end Go.Proofs.YtkhhnkceiibmfaaGreatDoor

namespace Go.Proofs.YtkhhnkceiibmfaaGreatDoor
open Go.RowKit
set_option linter.unusedSimpArgs false
set_option linter.unusedVariables false
set_option maxHeartbeats 4000000
namespace AX
def c_wnum : AX.AFn := ⟨10, .reg true [⟨some 4, .mv (.t 0), none, []⟩, ⟨some 5, .nilck (.t 4), none, [0]⟩, ⟨some 6, .faddr 0 (.t 5), none, [1]⟩, ⟨some 7, .mv (.t 1), none, []⟩, ⟨some 8, .call 225 [.c (.str []), .t 7], none, [3]⟩, ⟨some 9, .call 175 [.t 6, .t 8], none, [2, 4, 4]⟩], []⟩
theorem h_wnum : AX.compFn Tryz.prog 173 = some c_wnum := by kernel_rfl
def c_wtext : AX.AFn := ⟨13, .seq (.reg false [⟨some 4, .mv (.t 0), none, []⟩, ⟨some 5, .mv (.t 1), none, []⟩, ⟨some 6, .len true (.t 5), none, []⟩, ⟨some 7, .call 173 [.t 4, .t 6], none, []⟩]) (.reg false [⟨some 8, .mv (.t 0), none, []⟩, ⟨some 9, .nilck (.t 8), none, []⟩, ⟨some 10, .faddr 0 (.t 9), none, []⟩, ⟨some 11, .mv (.t 1), none, []⟩, ⟨some 12, .call 175 [.t 10, .t 11], none, []⟩]), []⟩
theorem h_wtext : AX.compFn Tryz.prog 174 = some c_wtext := by kernel_rfl
def c_wvalue : AX.AFn := ⟨55, .seq (.reg false [⟨some 3, .box 44 (.t 1), none, []⟩]) (.seq (.reg false [⟨some 6, .mv (.t 0), none, []⟩, ⟨some 7, .faddr 0 (.t 3), none, []⟩, ⟨some 8, .load false 1 (.t 7), none, []⟩, ⟨some 9, .call 173 [.t 6, .t 8], none, []⟩]) (.seq (.reg false [⟨some 10, .faddr 0 (.t 3), none, []⟩, ⟨some 11, .load false 1 (.t 10), none, []⟩]) (.block 0 (.seq (.seq (.reg false [⟨some 13, .bin .eql (.t 11) (.c (.int .i64 1)), none, []⟩, ⟨some 12, .mv (.t 13), none, []⟩]) (.cond (.t 12) (.skip) (.reg false [⟨some 14, .bin .eql (.t 11) (.c (.int .i64 2)), none, []⟩, ⟨some 12, .mv (.t 14), none, []⟩]))) (.cond (.t 12) (.reg false [⟨some 15, .mv (.t 0), none, []⟩, ⟨some 16, .faddr 1 (.t 3), none, []⟩, ⟨some 17, .load false 1 (.t 16), none, []⟩, ⟨some 18, .call 173 [.t 15, .t 17], none, []⟩]) (.seq (.reg false [⟨some 20, .bin .eql (.t 11) (.c (.int .i64 3)), none, []⟩, ⟨some 19, .mv (.t 20), none, []⟩]) (.cond (.t 19) (.reg false [⟨some 21, .mv (.t 0), none, []⟩, ⟨some 22, .faddr 2 (.t 3), none, []⟩, ⟨some 23, .load false 1 (.t 22), none, []⟩, ⟨some 24, .call 174 [.t 21, .t 23], none, []⟩]) (.seq (.seq (.reg false [⟨some 26, .bin .eql (.t 11) (.c (.int .i64 4)), none, []⟩, ⟨some 25, .mv (.t 26), none, []⟩]) (.cond (.t 25) (.skip) (.reg false [⟨some 27, .bin .eql (.t 11) (.c (.int .i64 5)), none, []⟩, ⟨some 25, .mv (.t 27), none, []⟩]))) (.cond (.t 25) (.seq (.reg false [⟨some 28, .mv (.t 0), none, []⟩, ⟨some 29, .faddr 3 (.t 3), none, []⟩, ⟨some 30, .load false 1 (.t 29), none, []⟩, ⟨some 31, .len false (.t 30), none, []⟩, ⟨some 32, .call 173 [.t 28, .t 31], none, []⟩]) (.seq (.reg false [⟨some 33, .faddr 3 (.t 3), none, []⟩, ⟨some 34, .load false 1 (.t 33), none, []⟩, ⟨some 35, .len false (.t 34), none, []⟩, ⟨some 36, .mv (.c (.int .i64 0)), none, []⟩]) (.block 1 (.loop (.seq (.reg false [⟨some 37, .bin .lss (.t 36) (.t 35), none, []⟩]) (.seq (.cond (.t 37) (.skip) (.exit 1)) (.seq (.block 2 (.seq (.reg false [⟨some 38, .mv (.t 36), none, []⟩, ⟨some 39, .iaddr 5 (.t 34) (.t 36), none, []⟩, ⟨some 40, .load true 5 (.t 39), none, []⟩, ⟨some 5, .alloc 44 [.int .i64 0, .int .i64 0, .str [], .sl 0 .nil [], .sl 0 .nil []], none, []⟩, ⟨some 4, .mv (.t 38), none, []⟩, ⟨none, .store 5 (.t 5) (.t 40), none, []⟩]) (.seq (.seq (.reg false [⟨some 41, .faddr 0 (.t 3), none, []⟩, ⟨some 42, .load false 1 (.t 41), none, []⟩, ⟨some 43, .bin .eql (.t 42) (.c (.int .i64 5)), none, []⟩]) (.cond (.t 43) (.reg false [⟨some 44, .mv (.t 0), none, []⟩, ⟨some 45, .faddr 4 (.t 3), none, []⟩, ⟨some 46, .load false 1 (.t 45), none, []⟩, ⟨some 47, .mv (.t 4), none, []⟩, ⟨some 48, .iaddr 1 (.t 46) (.t 47), none, []⟩, ⟨some 49, .load false 1 (.t 48), none, []⟩, ⟨some 50, .call 174 [.t 44, .t 49], none, []⟩]) (.skip))) (.reg false [⟨some 51, .mv (.t 0), none, []⟩, ⟨some 52, .load true 5 (.t 5), none, []⟩, ⟨some 53, .call 110 [.t 51, .t 52], none, []⟩])))) (.reg false [⟨some 54, .bin .add (.t 36) (.c (.int .i64 1)), none, []⟩, ⟨some 36, .mv (.t 54), none, []⟩])))))))) (.skip)))))))))), []⟩
theorem h_wvalue : AX.compFn Tryz.prog 110 = some c_wvalue := by kernel_rfl
def c_AppendValue : AX.AFn := ⟨17, .seq (.reg false [⟨some 3, .box 44 (.t 1), none, []⟩, ⟨some 4, .mv (.c (.str [])), none, []⟩]) (.seq (.reg false [⟨some 6, .build [.nilp, .sl 0 .nil [], .int .i64 0] [], none, []⟩, ⟨some 7, .box 161 (.t 6), none, []⟩, ⟨some 5, .mv (.t 7), none, []⟩]) (.seq (.reg false [⟨some 8, .mv (.t 5), none, []⟩, ⟨some 9, .load true 5 (.t 3), none, []⟩, ⟨some 10, .call 110 [.t 8, .t 9], none, []⟩]) (.seq (.reg false [⟨some 11, .mv (.t 0), none, []⟩, ⟨some 12, .mv (.t 5), none, []⟩, ⟨some 13, .nilck (.t 12), none, []⟩, ⟨some 14, .faddr 0 (.t 13), none, []⟩, ⟨some 15, .call 111 [.t 14], none, []⟩, ⟨some 16, .bin .add (.t 11) (.t 15), none, []⟩, ⟨some 4, .mv (.t 16), none, []⟩]) (.ret)))), [.t 4]⟩
theorem h_AppendValue : AX.compFn Tryz.prog 60 = some c_AppendValue := by kernel_rfl

/-- What a writer's call leaves: the bytes, and all other boxes. -/
def WP (i : Nat) (ver : Int) (l : List UInt8) (h h' : Hp) : Prop := Wt h' i ver l ∧ h'.t = h.t ∧ ∀ j x, j ≠ i → h.b[j]? = some x → h'.b[j]? = some x
theorem WP.of {h : Hp} {i : Nat} {ver : Int} {l l' : List UInt8} (hw : Wt h i ver l) : WP i ver l' h ⟨h.b.set i (wtr ver l'), h.t⟩ := by
  refine ⟨.inl ?_, rfl, fun j x hj hx => ?_⟩
  · show (List.set _ i _)[i]? = _
    rw [List.getElem?_set, if_pos rfl, if_pos hw.lt]
  · show (List.set _ i _)[j]? = _
    rw [List.getElem?_set, if_neg (Ne.symm hj)]; exact hx
theorem WP.tr {i : Nat} {ver : Int} {l l' : List UInt8} {h h' h'' : Hp} (a : WP i ver l h h') (b : WP i ver l' h' h'') : WP i ver l' h h'' :=
  ⟨b.1, b.2.1.trans a.2.1, fun j x hj hx => b.2.2 j x hj (a.2.2 j x hj hx)⟩
theorem get_app5 {l m : List Blk} {i : Nat} {x : Blk} (h : l[i]? = some x) : (l ++ m)[i]? = some x := by
  rw [List.getElem?_append_left (List.getElem?_eq_some_iff.1 h).1]; exact h
theorem set_new5 (l : List Blk) (x y : Blk) : (l ++ [x]).set l.length y = l ++ [y] := by
  rw [List.set_append_right _ _ (Nat.le_refl _)]; simp
theorem Wt.app {b : List Blk} {t : _} {i : Nat} {ver : Int} {l : List UInt8} (hw : Wt ⟨b, t⟩ i ver l) (m : List Blk) : Wt ⟨b ++ m, t⟩ i ver l := by
  rcases hw with h | ⟨h0, h⟩
  · exact .inl (get_app5 h)
  · exact .inr ⟨h0, get_app5 h⟩
theorem WP.app {b : List Blk} {t : _} {m : List Blk} {h' : Hp} {i : Nat} {ver : Int} {l : List UInt8} (hp : WP i ver l ⟨b ++ m, t⟩ h') : WP i ver l ⟨b, t⟩ h' :=
  ⟨hp.1, hp.2.1, fun j x hj hx => hp.2.2 j x hj (get_app5 hx)⟩
theorem num_len (n : Int) : (Wire.num n).length ≤ 10 := (Wire.encF_len 9 (Wire.zig n)).2
theorem a_wnum {h : Hp} {i : Nat} {ver : Int} {l : List UInt8} (hw : Wt h i ver l) (n : Int) (hlen : l.length + 10 ≤ 1000000000) (h0 : -9223372036854775808 ≤ n) (h1 : n ≤ 9223372036854775807) :
    ACall Tryz.prog GT 173 [.ptr i 0, .int .i64 n] h fun u h' => u = .tup [] ∧ WP i ver (l ++ Wire.num n) h h' := by
  have hn := num_len n
  refine acall_of mixedT h_wnum (by simp [c_wnum]) ?_
  dsimp only [c_wnum]
  refine awp_last _ _ ⟨h.b.set i (wtr ver (l ++ Wire.num n)), h.t⟩ (.tup [.int .i64 (Wire.num n).length, .nili]) (List.dropLast_concat_getLast (l := _ :: _) (by simp)).symm (by decide) ?_
  dsimp only [List.dropLast, List.getLast]
  (refine AX.go0 True.intro ?_)
  refine gq_call (vs := [.str [], .int .i64 n]) (r := .str (Wire.num n)) (by (exact AX.ev0 True.intro)) ?_ ?_
  · refine (a_appendNumber [] n (by simp) h0 h1 _).mono ?_
    rintro v h' ⟨rfl, rfl⟩
    exact ⟨by simp, rfl⟩
  refine gq_nil ⟨?_, ?_⟩
  · show ACall _ _ _ _ _ _
    simp only [put_app, put_none, init_app, evX_t, evX_c, resA_nil, resA_t, resA_c, tupA_0, tupA_1, tupA_2, astep, bop, uop, loadA, storeA, appA, ssliceA, eqA, eqCells, fillA, rowsA, setCells, A.cells, A.one, A.data, optP_some, List.all_cons, List.all_nil, Bool.and_true, Bool.true_and, Option.map_some, Option.map_none, Option.bind_some, Option.bind_none, Option.getD_some, Option.getD_none, List.map_cons, List.map_nil, List.getD_cons_zero, List.getD_cons_succ, List.getElem?_cons_zero, List.getElem?_cons_succ, List.length_cons, List.length_nil, List.nil_append, List.cons_append, List.append_nil, List.set_cons_zero, List.set_cons_succ, List.drop_zero, List.drop_succ_cons, List.take_succ_cons, List.take_zero, List.take_nil, List.length_append, List.length_set, Nat.reduceAdd, Nat.reduceSub, Nat.reduceMul, Nat.reduceLeDiff, Nat.reduceEqDiff, Nat.reduceBEq, Int.toNat_natCast, Int.natCast_nonneg, if_true, if_false, reduceIte, ite_true, ite_false, true_and, and_true, ne_eq, not_true_eq_false, not_false_eq_true, Bool.false_eq_true, reduceCtorEq, and_self, Nat.zero_add, Nat.add_zero, Nat.le_refl, Bool.not_true, Bool.not_false, decide_true, decide_false]
    exact a_write hw _ (by omega)
  · exact go_fn rfl ⟨_, le_refl _, rfl, WP.of hw⟩
theorem a_wtext {h : Hp} {i : Nat} {ver : Int} {l : List UInt8} (hw : Wt h i ver l) (s : List UInt8) (hlen : l.length + s.length + 10 ≤ 1000000000) :
    ACall Tryz.prog GT 174 [.ptr i 0, .str s] h fun u h' => u = .tup [] ∧ WP i ver (l ++ Wire.strE s) h h' := by
  have hn := num_len s.length
  refine acall_of mixedT h_wtext (by simp [c_wtext]) ?_
  dsimp only [c_wtext]
  (refine AX.go0 True.intro ?_)
  (refine AX.gc0 True.intro ?_)
  refine (a_wnum hw s.length (by omega) (by omega) (by omega)).mono ?_
  rintro v h' ⟨-, hp⟩
  (refine AX.go0 True.intro ?_)
  (refine AX.gc0 True.intro ?_)
  refine (a_write hp.1 s (by rw [List.length_append]; omega)).mono ?_
  rintro v h' ⟨rfl, rfl⟩
  refine go_nil (go_fn rfl ⟨_, le_refl _, rfl, ?_⟩)
  rw [Wire.strE, ← List.append_assoc]
  exact hp.tr (WP.of hp.1)
theorem encs_step (m : Bool) (is : List V) (ks : List (List UInt8)) (j : Nat) (hj : j < is.length) : (Val.encs m (is.take j) ks).length + (Val.keyE m (ks.drop j)).length + (Val.enc is[j]).length ≤ (Val.encs m is ks).length := by
  have key : ∀ d, j + 1 + d ≤ is.length → (Val.encs m (is.take (j + 1)) ks).length ≤ (Val.encs m (is.take (j + 1 + d)) ks).length := by
    intro d
    induction d with
    | zero => intro _; exact Nat.le_refl _
    | succ d ihd =>
      intro hd
      have h1 := Val.encs_take m is ks (j + 1 + d) (by omega)
      have h2 := ihd (by omega)
      have h3 : (Val.encs m (is.take (j + 1 + (d + 1))) ks).length = _ := congrArg List.length h1
      rw [List.length_append] at h3
      omega
  have h1 := Val.encs_take m is ks j hj
  have h2 := key (is.length - (j + 1)) (by omega)
  rw [show j + 1 + (is.length - (j + 1)) = is.length by omega, List.take_length, h1, List.length_append, List.length_append] at h2
  omega
theorem t_value : ∀ (v : V) (i : Nat) (ver : Int) (l : List UInt8) (h : Hp), Wt h i ver l → (∃ lv b, (Val.chk v lv b).1 = 0) → l.length + (Val.enc v).length + 10 ≤ 1000000000 → v.lens → ACall Tryz.prog GT 110 [.ptr i 0, v.A] h fun u h' => u = .tup [] ∧ WP i ver (l ++ Val.enc v) h h' := by
  refine V.induct fun k n s is ks ih => ?_
  rintro i ver l ⟨hb, ht⟩ hw ⟨lv, b, hchk⟩ hlen hlens
  refine acall_of mixedT h_wvalue (by simp [c_wvalue]) ?_
  dsimp only [c_wvalue]
  obtain ⟨hil, hkl, _, hmem⟩ := V.lens_mk hlens
  obtain ⟨_, _, hz, hcs⟩ := Val.chk_parts hchk
  obtain ⟨hsh, hn2, hts, hks⟩ := Val.shaped_of hz
  have hs := Val.text_len hts
  have hkk := Val.keys_len ks none hks
  unfold Val.shapedB at hsh
  simp only [Bool.and_eq_true, Bool.or_eq_true, decide_eq_true_eq, beq_iff_eq] at hsh
  obtain ⟨⟨⟨⟨⟨hk0, hk6⟩, hnn⟩, _⟩, _⟩, hkn⟩ := hsh
  have hne : ¬ (i = hb.length) := by have := hw.lt; simp at this; omega
  have hE : Val.enc (.mk k n s is ks) = Wire.num k ++ (if k = 1 ∨ k = 2 then Wire.num n else if k = 3 then Wire.strE s else if k = 4 ∨ k = 5 then Wire.num is.length ++ Val.encs (k == 5) is ks else []) := by rw [Val.enc]
  rw [hE] at hlen ⊢
  simp only [List.length_append] at hlen
  (refine AX.goV True.intro ?_)
  (refine AX.gcV True.intro ?_)
  refine (a_wnum (hw.app _) k (by omega) (by omega) (by omega)).mono ?_
  rintro v0 h1 ⟨-, hp1⟩
  have g1 : h1.b[hb.length]? = some (.cells 44 (V.mk k n s is ks).cells) := hp1.2.2 _ _ (Ne.symm hne) List.getElem?_concat_length
  simp only [V.cells] at g1
  have hlk := num_len k
  by_cases hk12 : k = 1 ∨ k = 2
  · rw [if_pos hk12] at hlen ⊢
    have hn : -9223372036854775808 ≤ n ∧ n ≤ 9223372036854775807 := by
      rcases hk12 with rfl | rfl
      · rcases hnn with (h | h) | h
        · exact absurd h (by decide)
        · omega
        · omega
      · have := hn2 rfl; omega
    rcases hk12 with rfl | rfl
    all_goals
      (refine AX.go0 g1 ?_)
      (refine AX.gc0 g1 ?_)
      refine (a_wnum hp1.1 n (by rw [List.length_append]; omega) (by omega) (by omega)).mono ?_
      rintro v2 h2 ⟨-, hp2⟩
      (refine AX.go0 g1 ?_)
      refine ⟨_, le_refl _, rfl, ?_⟩
      rw [← List.append_assoc]
      exact (hp1.tr hp2).app
  rw [if_neg hk12] at hlen ⊢
  have e1 : (k == 1) = false := by simp; omega
  have e2 : (k == 2) = false := by simp; omega
  by_cases hk3 : k = 3
  · rw [if_pos hk3] at hlen ⊢
    subst hk3
    (refine AX.go0 g1 ?_)
    (refine AX.gc0 g1 ?_)
    unfold Wire.strE at hlen
    rw [List.length_append] at hlen
    refine (a_wtext hp1.1 s (by rw [List.length_append]; omega)).mono ?_
    rintro v2 h2 ⟨-, hp2⟩
    (refine AX.go0 g1 ?_)
    refine ⟨_, le_refl _, rfl, ?_⟩
    rw [← List.append_assoc]
    exact (hp1.tr hp2).app
  rw [if_neg hk3] at hlen ⊢
  have e3 : (k == 3) = false := by simp; omega
  by_cases hk45 : k = 4 ∨ k = 5
  · rw [if_pos hk45] at hlen ⊢
    rw [List.length_append] at hlen
    have hkl5 : (k == 5) = true → ks.length = is.length := fun e => by
      rw [if_pos (by simpa using e)] at hkn; simpa using hkn
    have hln := num_len is.length
    have step : ∀ (j : Nat) (hj : j < is.length), (Val.encs (k == 5) (is.take j) ks).length + (Val.keyE (k == 5) (ks.drop j)).length + (Val.enc is[j]).length ≤ (Val.encs (k == 5) is ks).length := encs_step _ _ _
    have e45 : (k == 4) = true ∨ (k == 4) = false ∧ (k == 5) = true := by
      rcases hk45 with rfl | rfl
      · exact .inl rfl
      · exact .inr ⟨rfl, rfl⟩
    rcases e45 with e4 | ⟨e4, e5⟩
    all_goals
      (refine AX.go0 (And.intro g1 (And.intro e1 (And.intro e2 (And.intro e3 (And.intro e4 @V.cellss_length))))) ?_)
      try (refine AX.go0 (And.intro g1 (And.intro e1 (And.intro e2 (And.intro e3 (And.intro e4 (And.intro e5 @V.cellss_length)))))) ?_)
      (refine AX.gc0 g1 ?_)
      refine (a_wnum hp1.1 is.length (by rw [List.length_append]; omega) (by omega) (by omega)).mono ?_
      rintro v2 h2 ⟨-, hp2⟩
      have g2 := hp2.2.2 _ _ (Ne.symm hne) g1
      (refine AX.go0 (And.intro g2 @V.cellss_length) ?_)
      refine awp_loop (fun m ts hh => ∃ (j : Nat), m = is.length - j ∧ j ≤ is.length ∧ WP i ver (l ++ Wire.num k ++ Wire.num is.length ++ Val.encs (k == 5) (is.take j) ks) ⟨hb, ht⟩ hh ∧ hh.b[hb.length]? = some (.cells 44 [.int .i64 k, .int .i64 n, .str s, .sl 5 .no (V.cellss is), .sl 1 .no (strsA ks)]) ∧ ts 0 = .ptr i 0 ∧ ts 3 = .ptr hb.length 0 ∧ ts 34 = .sl 5 .no (V.cellss is) ∧ ts 35 = .int .i64 is.length ∧ ts 36 = .int .i64 j) is.length ?_ ?_
      · refine ⟨0, rfl, Nat.zero_le _, ?_, g2, ?_⟩
        · have := (hp1.tr hp2).app
          simpa [Val.encs] using this
        · (exact AX.inv0 @V.cellss_length)
      · rintro m ts hh ⟨j, rfl, hj, hp, g3, t0, t3, t34, t35, t36⟩
        by_cases hlt : j < is.length
        · have hlt2 : (j : Int) < (is.length : Int) := by omega
          have hla : (j : Int) < ((V.cellss is).length : Int) := by rw [V.cellss_length]; omega
          have ei : IntKind.i64.wrap ((j : Int) + 1) = (j : Int) + 1 := wrap64 (by omega) (by omega)
          have ee := V.cellss_get is j hlt
          have hst := step j hlt
          have htk := Val.encs_take (k == 5) is ks j hlt
          have hcall := fun (l' : List UInt8) (h : Hp) (hw : Wt h i ver l') (hb : l'.length + (Val.enc is[j]).length + 10 ≤ 1000000000) => ih is[j] (List.getElem_mem hlt) i ver l' h hw ((Val.chks_get is _ _ hcs j hlt).elim fun b' hb' => ⟨_, b', hb'⟩) hb (hmem _ (List.getElem_mem hlt))
          obtain ⟨⟨k', n', s', is', ks'⟩, hv⟩ : ∃ x, is[j] = x := ⟨_, rfl⟩
          rw [hv] at ee hcall htk hst
          have hil2 : hh.b.length ≠ i := fun e => by have := hp.1.lt; omega
          have q3 : ∀ m, (hh.b ++ m)[hb.length]? = some (.cells 44 [.int .i64 k, .int .i64 n, .str s, .sl 5 .no (V.cellss is), .sl 1 .no (strsA ks)]) := fun m => get_app5 g3
          rcases bool_or (k == 5) with e5' | e5'
          · have hkj : j < ks.length := by rw [hkl5 e5']; exact hlt
            have hlk2 : (j : Int) < ((strsA ks).length : Int) := by rw [strsA_length]; omega
            have ek := strsA_get ks j hkj
            have hke : Val.keyE (k == 5) (ks.drop j) = Wire.strE ks[j] := by rw [e5', List.drop_eq_getElem_cons hkj]; rfl
            rw [hke] at htk hst
            have hsl : (Wire.strE ks[j]).length = (Wire.num ks[j].length).length + ks[j].length := by unfold Wire.strE; rw [List.length_append]
            (refine AX.goC (And.intro t0 (And.intro t3 (And.intro t34 (And.intro t35 (And.intro t36 (And.intro hla (And.intro hlt2 (And.intro ee (And.intro ei (And.intro @set_new5 (And.intro q3 (And.intro e5' (And.intro hlk2 ek))))))))))))) ?_)
            (refine AX.gc0 (And.intro t0 (And.intro t3 (And.intro t34 (And.intro t35 t36)))) ?_)
            refine (a_wtext (hp.1.app _) ks[j] (by simp only [List.length_append]; omega)).mono ?_
            rintro v3 h3 ⟨-, hp3⟩
            have g4 := hp3.2.2 _ _ (Ne.symm hne) (q3 _)
            have g5 := hp3.2.2 _ _ hil2 List.getElem?_concat_length
            (refine AX.go0 (And.intro t0 (And.intro t3 (And.intro t34 (And.intro t35 (And.intro t36 (And.intro g4 g5)))))) ?_)
            (refine AX.gc0 (And.intro t0 (And.intro t3 (And.intro t34 (And.intro t35 t36)))) ?_)
            refine (hcall _ _ hp3.1 (by simp only [List.length_append]; omega)).mono ?_
            rintro v4 h4 ⟨-, hp4⟩
            have g6 := hp4.2.2 _ _ (Ne.symm hne) g4
            (refine AX.go0 (And.intro t0 (And.intro t3 (And.intro t34 (And.intro t35 (And.intro t36 ei))))) ?_)
            refine ⟨is.length - (j + 1), by omega, j + 1, rfl, by omega, ?_, g6, ?_⟩
            · rw [htk, ← List.append_assoc, ← List.append_assoc]
              exact hp.tr (hp3.tr hp4).app
            · (exact AX.inv0 (And.intro t0 (And.intro t3 (And.intro t34 (And.intro t35 (And.intro t36 ei))))))
          · have hke : Val.keyE (k == 5) (ks.drop j) = [] := by rw [e5']; rfl
            rw [hke] at htk hst
            (refine AX.goC (And.intro t0 (And.intro t3 (And.intro t34 (And.intro t35 (And.intro t36 (And.intro hla (And.intro hlt2 (And.intro ee (And.intro ei (And.intro @set_new5 (And.intro q3 e5'))))))))))) ?_)
            (refine AX.gc0 (And.intro t0 (And.intro t3 (And.intro t34 (And.intro t35 t36)))) ?_)
            refine (hcall _ _ (hp.1.app _) (by simp only [List.length_append]; omega)).mono ?_
            rintro v4 h4 ⟨-, hp4⟩
            have g6 := hp4.2.2 _ _ (Ne.symm hne) (q3 _)
            (refine AX.go0 (And.intro t0 (And.intro t3 (And.intro t34 (And.intro t35 (And.intro t36 ei))))) ?_)
            refine ⟨is.length - (j + 1), by omega, j + 1, rfl, by omega, ?_, g6, ?_⟩
            · rw [htk, List.nil_append, ← List.append_assoc]
              exact hp.tr hp4.app
            · (exact AX.inv0 (And.intro t0 (And.intro t3 (And.intro t34 (And.intro t35 (And.intro t36 ei))))))
        · have hlt2 : ¬ (j : Int) < (is.length : Int) := by omega
          rw [List.take_of_length_le (by omega)] at hp
          (refine AX.go0 (And.intro t0 (And.intro t3 (And.intro t34 (And.intro t35 (And.intro t36 hlt2))))) ?_)
          refine ⟨_, le_refl _, rfl, ?_⟩
          rw [← List.append_assoc, ← List.append_assoc]
          exact hp
  · rw [if_neg hk45] at hlen ⊢
    rw [List.append_nil]
    have e4 : (k == 4) = false := by simp; omega
    have e5 : (k == 5) = false := by simp; omega
    (refine AX.go0 (And.intro g1 (And.intro e1 (And.intro e2 (And.intro e3 (And.intro e4 e5))))) ?_)
    exact ⟨_, le_refl _, rfl, hp1.app⟩
theorem enc_ne (v : V) : Val.enc v ≠ [] := by
  obtain ⟨k, n, s, is, ks⟩ := v
  rw [Val.enc]
  intro h
  have := (List.append_eq_nil_iff.1 h).1
  unfold Wire.num Wire.encF at this
  split at this <;> simp at this
theorem a_AppendValue (dst : List UInt8) (hd : dst.length ≤ 1000000000) (v : V) (hchk : ∃ lv b, (Val.chk v lv b).1 = 0) (hlen : (Val.enc v).length + 10 ≤ 1000000000) (hl : v.lens) (h : Hp) : ACall Tryz.prog GT 60 [.str dst, v.A] h fun r h' => r = .str (dst ++ Val.enc v) ∧ h' = h := by
  have ht := fun (h : Hp) (hw : Wt h 1 0 []) => (t_value v 1 0 [] h hw hchk (by simpa using hlen) hl).mono fun _ _ h => h.2
  have hne := enc_ne v
  obtain ⟨k, n, s, is, ks⟩ := v
  refine pcall ?_ rfl (by simp [V.A, V.cells, A.pure, A.data]) h
  refine acall_of mixedT h_AppendValue (by simp [c_AppendValue]) ?_
  dsimp only [c_AppendValue]
  (refine AX.goV True.intro ?_)
  (refine AX.gcV True.intro ?_)
  refine (ht _ (.inr ⟨rfl, rfl⟩)).mono ?_
  intro v1 h1 hp
  (refine AX.goV True.intro ?_)
  (refine AX.gcV True.intro ?_)
  refine (a_wstring hp.1 hne).mono ?_
  rintro v2 h2 ⟨rfl, rfl⟩
  have hsum : dst.length + (Val.enc (.mk k n s is ks)).length < 1099511627776 := by omega
  (refine AX.goV hsum ?_)
  exact ⟨_, le_refl _, rfl⟩
end AX
end Go.Proofs.YtkhhnkceiibmfaaGreatDoor

namespace Go.Proofs.YtkhhnkceiibmfaaGreatDoor
open Go.RowKit
set_option linter.unusedSimpArgs false
set_option linter.unusedVariables false
set_option maxHeartbeats 4000000
namespace Wire
theorem numR_rest (r : St) : (numR r).1.rest.length ≤ r.rest.length := by
  unfold numR
  split
  · exact Nat.le_refl _
  · split
    · exact Nat.le_refl _
    · simp
theorem cntR_rest (r : St) (n : Nat) : (cntR r n).1.rest.length ≤ r.rest.length := by
  unfold cntR
  split
  · exact Nat.le_refl _
  · split
    · exact Nat.le_refl _
    · split
      · exact Nat.le_refl _
      · split
        · exact Nat.le_refl _
        · simp
theorem cntR_cnt (r : St) : (cntR r 1).2 ≤ r.rest.length := by
  unfold cntR
  split
  · simp
  · split
    · simp
    · split
      · simp
      · split
        · simp
        · next h => simp only [Nat.div_one] at h ⊢; omega
theorem strR_rest (r : St) : (strR r).1.rest.length ≤ r.rest.length := by
  have := cntR_rest r 1
  unfold strR
  dsimp only
  split
  · exact this
  · simp; omega
end Wire
namespace Val
theorem itemsW_step (one : Wire.St → Res) (m : Bool) (c : Nat) (r : Wire.St) (is : List V) (ks : List (List UInt8)) (q : Wire.St × List UInt8) (hq : q = if m then Wire.strR r else (r, [])) : itemsW one m (c + 1) r is ks = if (one q.1).2.1 ≠ 0 then ((one q.1).1, (one q.1).2.1, is, ks) else itemsW one m c (one q.1).1 (is ++ [(one q.1).2.2]) (if m then ks ++ [q.2] else ks) := by
  subst hq
  rw [itemsW]
theorem itemsW_le {one : Wire.St → Res} (h1 : ∀ r, (one r).1.rest.length ≤ r.rest.length) (m : Bool) : ∀ (c : Nat) (r : Wire.St) (is : List V) (ks : List (List UInt8)), (itemsW one m c r is ks).1.rest.length ≤ r.rest.length
  | 0, r, is, ks => Nat.le_refl _
  | c + 1, r, is, ks => by
    obtain ⟨q, hqe⟩ : ∃ q, q = if m then Wire.strR r else (r, []) := ⟨_, rfl⟩
    have hq : q.1.rest.length ≤ r.rest.length := by
      rw [hqe]
      split
      · exact Wire.strR_rest r
      · exact Nat.le_refl _
    rw [itemsW_step one m c r is ks q hqe]
    have h2 := h1 q.1
    split
    · show (one q.1).1.rest.length ≤ _
      omega
    · have := itemsW_le h1 m c (one q.1).1 (is ++ [(one q.1).2.2]) (if m then ks ++ [q.2] else ks)
      omega
theorem read_le : ∀ (f : Nat) (r : Wire.St), (read f r).1.rest.length ≤ r.rest.length
  | 0, r => by rw [read]; exact Nat.le_refl _
  | f + 1, r => by
    have ih := read_le f
    have hn := Wire.numR_rest r
    have hn2 := Wire.numR_rest (Wire.numR r).1
    have hs2 := Wire.strR_rest (Wire.numR r).1
    have hc2 := Wire.cntR_rest (Wire.numR r).1 1
    have hi2 := itemsW_le ih ((Wire.numR r).2 == 5) (Wire.cntR (Wire.numR r).1 1).2 (Wire.cntR (Wire.numR r).1 1).1 [] []
    rw [read]
    unfold readW
    dsimp only
    split
    · exact Nat.le_refl _
    · split
      · exact hn
      · split
        · exact hn
        · split
          · simp only; omega
          · split
            · simp only; omega
            · split
              · simp only; omega
              · exact hn
end Val
namespace AX
def c_read : AX.AFn := ⟨89, .seq (.reg false [⟨some 4, .alloc 44 [.int .i64 0, .int .i64 0, .str [], .sl 0 .nil [], .sl 0 .nil []], none, []⟩, ⟨some 5, .mv (.c (.int .i64 0)), none, []⟩]) (.seq (.seq (.reg false [⟨some 12, .mv (.t 0), none, []⟩, ⟨some 13, .call 74 [.t 12], none, []⟩, ⟨some 6, .mv (.t 13), none, []⟩]) (.seq (.reg false [⟨some 14, .mv (.t 6), none, []⟩, ⟨some 15, .bin .neq (.t 14) (.c (.int .i64 0)), none, []⟩]) (.cond (.t 15) (.seq (.reg false [⟨some 16, .build [.int .i64 0, .int .i64 0, .str [], .sl 0 .nil [], .sl 0 .nil []] [], none, []⟩, ⟨some 17, .mv (.t 6), none, []⟩, ⟨none, .store 5 (.t 4) (.t 16), none, []⟩, ⟨some 5, .mv (.t 17), none, []⟩]) (.ret)) (.skip)))) (.seq (.seq (.reg false [⟨some 18, .mv (.t 1), none, []⟩, ⟨some 19, .bin .gtr (.t 18) (.c (.int .i64 32)), none, []⟩]) (.cond (.t 19) (.seq (.reg false [⟨some 20, .build [.int .i64 0, .int .i64 0, .str [], .sl 0 .nil [], .sl 0 .nil []] [], none, []⟩, ⟨none, .store 5 (.t 4) (.t 20), none, []⟩, ⟨some 5, .mv (.c (.int .i64 4)), none, []⟩]) (.ret)) (.skip))) (.seq (.reg false [⟨some 21, .mv (.t 0), none, []⟩, ⟨some 22, .call 66 [.t 21], none, []⟩, ⟨some 7, .mv (.t 22), none, []⟩]) (.seq (.seq (.reg false [⟨some 23, .mv (.t 0), none, []⟩, ⟨some 24, .call 74 [.t 23], none, []⟩, ⟨some 8, .mv (.t 24), none, []⟩]) (.seq (.reg false [⟨some 25, .mv (.t 8), none, []⟩, ⟨some 26, .bin .neq (.t 25) (.c (.int .i64 0)), none, []⟩]) (.cond (.t 26) (.seq (.reg false [⟨some 27, .build [.int .i64 0, .int .i64 0, .str [], .sl 0 .nil [], .sl 0 .nil []] [], none, []⟩, ⟨some 28, .mv (.t 8), none, []⟩, ⟨none, .store 5 (.t 4) (.t 27), none, []⟩, ⟨some 5, .mv (.t 28), none, []⟩]) (.ret)) (.skip)))) (.seq (.seq (.reg false [⟨some 29, .mv (.t 7), none, []⟩, ⟨some 30, .bin .lss (.t 29) (.c (.int .i64 0)), none, []⟩, ⟨some 31, .mv (.t 30), none, []⟩, ⟨some 32, .mv (.t 7), some (31, false), []⟩, ⟨some 33, .bin .gtr (.t 32) (.c (.int .i64 6)), some (31, false), []⟩, ⟨some 34, .pick (.t 31) (.c (.bool true)) (.t 33), none, []⟩]) (.cond (.t 34) (.seq (.reg false [⟨some 35, .build [.int .i64 0, .int .i64 0, .str [], .sl 0 .nil [], .sl 0 .nil []] [], none, []⟩, ⟨none, .store 5 (.t 4) (.t 35), none, []⟩, ⟨some 5, .mv (.c (.int .i64 1)), none, []⟩]) (.ret)) (.skip))) (.seq (.reg false [⟨some 36, .mv (.t 7), none, []⟩, ⟨some 37, .build [.int .i64 0, .int .i64 0, .str [], .sl 0 .nil [], .sl 0 .nil []] [(0, 1, .t 36)], none, []⟩, ⟨some 9, .alloc 44 [.int .i64 0, .int .i64 0, .str [], .sl 0 .nil [], .sl 0 .nil []], none, []⟩, ⟨none, .store 5 (.t 9) (.t 37), none, []⟩]) (.seq (.seq (.reg false [⟨some 38, .faddr 0 (.t 9), none, []⟩, ⟨some 39, .load false 1 (.t 38), none, []⟩]) (.block 0 (.seq (.seq (.reg false [⟨some 41, .bin .eql (.t 39) (.c (.int .i64 1)), none, []⟩, ⟨some 40, .mv (.t 41), none, []⟩]) (.cond (.t 40) (.skip) (.reg false [⟨some 42, .bin .eql (.t 39) (.c (.int .i64 2)), none, []⟩, ⟨some 40, .mv (.t 42), none, []⟩]))) (.cond (.t 40) (.reg false [⟨some 43, .mv (.t 0), none, []⟩, ⟨some 44, .call 66 [.t 43], none, []⟩, ⟨some 45, .faddr 1 (.t 9), none, []⟩, ⟨none, .store 1 (.t 45) (.t 44), none, []⟩]) (.seq (.reg false [⟨some 47, .bin .eql (.t 39) (.c (.int .i64 3)), none, []⟩, ⟨some 46, .mv (.t 47), none, []⟩]) (.cond (.t 46) (.reg false [⟨some 48, .mv (.t 0), none, []⟩, ⟨some 49, .call 129 [.t 48], none, []⟩, ⟨some 50, .faddr 2 (.t 9), none, []⟩, ⟨none, .store 1 (.t 50) (.t 49), none, []⟩]) (.seq (.seq (.reg false [⟨some 52, .bin .eql (.t 39) (.c (.int .i64 4)), none, []⟩, ⟨some 51, .mv (.t 52), none, []⟩]) (.cond (.t 51) (.skip) (.reg false [⟨some 53, .bin .eql (.t 39) (.c (.int .i64 5)), none, []⟩, ⟨some 51, .mv (.t 53), none, []⟩]))) (.cond (.t 51) (.seq (.reg false [⟨some 54, .mv (.t 0), none, []⟩, ⟨some 55, .call 130 [.t 54, .c (.int .i64 1)], none, []⟩, ⟨some 56, .mv (.c (.int .i64 0)), none, []⟩]) (.block 1 (.loop (.seq (.reg false [⟨some 57, .bin .lss (.t 56) (.t 55), none, []⟩]) (.seq (.cond (.t 57) (.skip) (.exit 1)) (.seq (.block 2 (.seq (.seq (.reg false [⟨some 58, .faddr 0 (.t 9), none, []⟩, ⟨some 59, .load false 1 (.t 58), none, []⟩, ⟨some 60, .bin .eql (.t 59) (.c (.int .i64 5)), none, []⟩]) (.cond (.t 60) (.reg true [⟨some 61, .faddr 4 (.t 9), none, []⟩, ⟨some 62, .load false 1 (.t 61), none, [0]⟩, ⟨some 63, .mv (.t 0), none, []⟩, ⟨some 64, .call 129 [.t 63], none, [2]⟩, ⟨some 65, .mks 1 [.t 64], none, [3]⟩, ⟨some 66, .app 9 1 16 (.t 62) (.t 65), none, [1, 4, 3]⟩, ⟨some 67, .faddr 4 (.t 9), none, [0, 1, 2, 3, 4, 5]⟩, ⟨none, .store 1 (.t 67) (.t 66), none, [6, 5, 5, 0, 1, 2, 3, 4, 5]⟩]) (.skip))) (.seq (.reg false [⟨some 69, .mv (.t 0), none, []⟩, ⟨some 70, .mv (.t 1), none, []⟩, ⟨some 71, .bin .add (.t 70) (.c (.int .i64 1)), none, []⟩, ⟨some 72, .call 234 [.t 69, .t 71], none, []⟩, ⟨some 68, .mv (.t 72), none, []⟩, ⟨some 73, .extract (.t 68) 0, none, []⟩, ⟨some 74, .extract (.t 68) 1, none, []⟩, ⟨some 10, .alloc 44 [.int .i64 0, .int .i64 0, .str [], .sl 0 .nil [], .sl 0 .nil []], none, []⟩, ⟨none, .store 5 (.t 10) (.t 73), none, []⟩, ⟨some 11, .mv (.t 74), none, []⟩]) (.seq (.seq (.reg false [⟨some 75, .mv (.t 11), none, []⟩, ⟨some 76, .bin .neq (.t 75) (.c (.int .i64 0)), none, []⟩]) (.cond (.t 76) (.seq (.reg false [⟨some 77, .build [.int .i64 0, .int .i64 0, .str [], .sl 0 .nil [], .sl 0 .nil []] [], none, []⟩, ⟨some 78, .mv (.t 11), none, []⟩, ⟨none, .store 5 (.t 4) (.t 77), none, []⟩, ⟨some 5, .mv (.t 78), none, []⟩]) (.ret)) (.skip))) (.reg false [⟨some 79, .faddr 3 (.t 9), none, []⟩, ⟨some 80, .load false 1 (.t 79), none, []⟩, ⟨some 81, .load true 5 (.t 10), none, []⟩, ⟨some 82, .mks 5 [.t 81], none, []⟩, ⟨some 83, .app 44 5 80 (.t 80) (.t 82), none, []⟩, ⟨some 84, .faddr 3 (.t 9), none, []⟩, ⟨none, .store 1 (.t 84) (.t 83), none, []⟩]))))) (.reg false [⟨some 85, .bin .add (.t 56) (.c (.int .i64 1)), none, []⟩, ⟨some 56, .mv (.t 85), none, []⟩]))))))) (.skip))))))))) (.seq (.reg true [⟨some 86, .load true 5 (.t 9), none, []⟩, ⟨some 87, .mv (.t 0), none, []⟩, ⟨some 88, .call 74 [.t 87], none, [1]⟩, ⟨none, .store 5 (.t 4) (.t 86), none, [0, 2, 0]⟩, ⟨some 5, .mv (.t 88), none, [2, 3, 0, 1, 2, 3]⟩]) (.ret))))))))), [.c 4 true 5, .t 5]⟩
theorem h_read : AX.compFn Tryz.prog 234 = some c_read := by kernel_rfl

/-- What a reader's call leaves. -/
def RQ (i : Nat) (r : Wire.St) (h h' : Hp) : Prop := h'.b[i]? = some (rdr r) ∧ (∀ (j : Nat) x, j ≠ i → h.b[j]? = some x → h'.b[j]? = some x) ∧ ∀ (t : Nat) x, h.t[t]? = some x → h'.t[t]? = some x
theorem RQ.of {i : Nat} {r r' : Wire.St} {h : Hp} (hb : h.b[i]? = some (rdr r)) : RQ i r' h ⟨h.b.set i (rdr r'), h.t⟩ := by
  have hlt := (List.getElem?_eq_some_iff.1 hb).1
  refine ⟨?_, fun j x hj hx => ?_, fun _ _ hx => hx⟩
  · show (List.set _ i _)[i]? = _
    rw [List.getElem?_set, if_pos rfl, if_pos hlt]
  · show (List.set _ i _)[j]? = _
    rw [List.getElem?_set, if_neg (Ne.symm hj)]; exact hx
theorem RQ.tr {i : Nat} {r r' : Wire.St} {h h' h'' : Hp} (a : RQ i r h h') (b : RQ i r' h' h'') : RQ i r' h h'' :=
  ⟨b.1, fun j x hj hx => b.2.1 j x hj (a.2.1 j x hj hx), fun t x hx => b.2.2 t x (a.2.2 t x hx)⟩
theorem get_app7 {l m : List Blk} {i : Nat} {x : Blk} (h : l[i]? = some x) : (l ++ m)[i]? = some x := by
  rw [List.getElem?_append_left (List.getElem?_eq_some_iff.1 h).1]; exact h
theorem set_new7 (l : List Blk) (x y : Blk) : (l ++ [x]).set l.length y = l ++ [y] := by
  rw [List.set_append_right _ _ (Nat.le_refl _)]; simp
theorem RQ.app {b : List Blk} {t : _} {m : List Blk} {h' : Hp} {i : Nat} {r : Wire.St} (hp : RQ i r ⟨b ++ m, t⟩ h') : RQ i r ⟨b, t⟩ h' :=
  ⟨hp.1, fun j x hj hx => hp.2.1 j x hj (get_app7 hx), hp.2.2⟩
/-- A slice that grows: its rows, its token (not below lo). -/
def Gs (E : TypeId) (W lo : Nat) (h : Hp) (rows : List (List A)) (x : A) : Prop := (rows = [] ∧ x = .sl 0 .nil []) ∨ ∃ t, lo ≤ t ∧ x = .sl W (.tok t) rows ∧ h.t[t]? = some (E, W, rows.length)
theorem Gs.app {E : TypeId} {W lo : Nat} {h : Hp} {rows : List (List A)} {x : A} (hg : Gs E W lo h rows x) (hlo : lo ≤ h.t.length) (bytes : Nat) (y : List A) (h1 : rows.length + 1 ≤ 1000000000) (h2 : bytes ≤ 1000) :
    ∃ x' t', (∀ b, appA ⟨b, h.t⟩ E W bytes x (.sl W .no [y]) = some (x', ⟨b, t'⟩)) ∧ (∀ b, Gs E W lo ⟨b, t'⟩ (rows ++ [y]) x') ∧ (∀ (t : Nat) z, t < lo → h.t[t]? = some z → t'[t]? = some z) ∧ lo ≤ t'.length ∧ ∀ (t : Nat) E' W' n, E' ≠ E → h.t[t]? = some (E', W', n) → t'[t]? = some (E', W', n) := by
  have hb1 : (rows.length + 1) * bytes ≤ 140737488355328 := Nat.le_trans (Nat.mul_le_mul h1 h2) (by decide)
  have hb2 : 1 * bytes ≤ 140737488355328 := by omega
  rcases hg with ⟨rfl, rfl⟩ | ⟨t, ht, rfl, htt⟩
  · refine ⟨.sl W (.tok h.t.length) [y], h.t ++ [(E, W, 1)], ?_, ?_, ?_, ?_, ?_⟩
    · intro b; exact if_pos (show W = W ∧ 0 < [y].length ∧ [y].length ≤ maxLen ∧ [y].length * bytes ≤ 140737488355328 from ⟨rfl, by simp, by simp [maxLen], by simpa using hb2⟩)
    · intro b; exact .inr ⟨h.t.length, hlo, rfl, by simp⟩
    · intro t z _ hz
      rw [List.getElem?_append_left (List.getElem?_eq_some_iff.1 hz).1]; exact hz
    · simp; omega
    · intro t E' W' n _ hz
      rw [List.getElem?_append_left (List.getElem?_eq_some_iff.1 hz).1]; exact hz
  · refine ⟨.sl W (.tok t) (rows ++ [y]), h.t.set t (E, W, rows.length + 1), ?_, ?_, ?_, ?_, ?_⟩
    · intro b; exact if_pos (show W = W ∧ W = W ∧ 0 < [y].length ∧ h.t[t]? = some (E, W, rows.length) ∧ rows.length + [y].length ≤ maxLen ∧ (rows.length + [y].length) * bytes ≤ 140737488355328 from ⟨rfl, rfl, by simp, htt, by simp [maxLen]; omega, by simpa using hb1⟩)
    · intro b; refine .inr ⟨t, ht, rfl, ?_⟩
      show (h.t.set t _)[t]? = _
      rw [List.getElem?_set, if_pos rfl, if_pos (List.getElem?_eq_some_iff.1 htt).1]; simp
    · intro t' z hlt hz
      rw [List.getElem?_set, if_neg (by omega)]; exact hz
    · simpa using hlo
    · intro t' E' W' n hne hz
      rw [List.getElem?_set, if_neg (fun e => by subst e; rw [htt] at hz; injection hz with hz; injection hz with hz; exact hne hz.symm)]; exact hz
theorem Gs.sl {E : TypeId} {W lo : Nat} {h : Hp} {rows : List (List A)} {x : A} (hg : Gs E W lo h rows x) : ∃ W' o, x = .sl W' o rows := by
  rcases hg with ⟨rfl, rfl⟩ | ⟨t, _, rfl, _⟩ <;> exact ⟨_, _, rfl⟩
theorem Gs.one {E : TypeId} {W lo : Nat} {h : Hp} {rows : List (List A)} {x : A} (hg : Gs E W lo h rows x) : x.one = true := by
  rcases hg with ⟨_, rfl⟩ | ⟨t, _, rfl, _⟩ <;> rfl
theorem Gs.le {E : TypeId} {W lo : Nat} {h : Hp} {rows : List (List A)} {x : A} (hg : Gs E W lo h rows x) : le1 x (.sl W .no rows) := by
  rcases hg with ⟨rfl, rfl⟩ | ⟨t, _, rfl, _⟩ <;> simp [le1]
theorem Gs.keep {E : TypeId} {W lo : Nat} {h h' : Hp} {rows : List (List A)} {x : A} (hg : Gs E W lo h rows x) (hk : ∀ (t : Nat) n, h.t[t]? = some (E, W, n) → h'.t[t]? = some (E, W, n)) : Gs E W lo h' rows x := by
  rcases hg with h1 | ⟨t, h1, h2, h3⟩
  · exact .inl h1
  · exact .inr ⟨t, h1, h2, hk _ _ h3⟩
theorem RQ.keep {i : Nat} {r : Wire.St} {h : Hp} (hb : h.b[i]? = some (rdr r)) (m : List Blk) : RQ i r h ⟨h.b ++ m, h.t⟩ := ⟨get_app7 hb, fun j x _ hx => get_app7 hx, fun _ _ hx => hx⟩
theorem RQ.set {i k : Nat} {r : Wire.St} {h h' : Hp} (hp : RQ i r h h') (hk : h.b.length ≤ k) (hi : i ≠ k) (x : Blk) (t' : _) (ht : t' = h'.t) : RQ i r h ⟨h'.b.set k x, t'⟩ := by
  subst ht
  refine ⟨?_, fun j y hj hy => ?_, hp.2.2⟩
  · show (List.set _ k _)[i]? = _
    rw [List.getElem?_set, if_neg (Ne.symm hi)]; exact hp.1
  · have := (List.getElem?_eq_some_iff.1 hy).1
    show (List.set _ k _)[j]? = _
    rw [List.getElem?_set, if_neg (by omega)]; exact hp.2.1 j y hj hy
theorem le_zero (e : Int) : le (.tup [.agg [.int .i64 0, .int .i64 0, .str [], .sl 0 .nil [], .sl 0 .nil []], .int .i64 e]) (.tup [Val.zeroV.A, .int .i64 e]) := by
  simp [le, leL2, le2, leL, le1, V.A, V.cells, Val.zeroV, V.cellss, strsA]
/-- What a read yields: the value counts only where there is no error. -/
def VR (res : Val.Res) (v : A) : Prop := ∃ l, v = .tup [.agg l, .int .i64 res.2.1] ∧ l.length = 5 ∧ l.all A.one = true ∧ (res.2.1 = 0 → l = res.2.2.cells)
theorem V.cells_data (v : V) : v.cells.all A.data = true := by
  obtain ⟨k, n, s, is, ks⟩ := v
  rfl
theorem V.cells_one (v : V) : v.cells.length = 5 ∧ v.cells.all A.one = true := by
  obtain ⟨k, n, s, is, ks⟩ := v
  exact ⟨rfl, rfl⟩
theorem VR.err {res : Val.Res} {e : Int} (h : res.2.1 = e) (he : e ≠ 0) : VR res (.tup [Val.zeroV.A, .int .i64 e]) :=
  ⟨Val.zeroV.cells, by rw [h]; rfl, (V.cells_one _).1, (V.cells_one _).2, fun h0 => absurd (h.symm.trans h0) he⟩
theorem RQ.tlen {i : Nat} {r : Wire.St} {h h' : Hp} (hp : RQ i r h h') : h.t.length ≤ h'.t.length := by
  by_cases h0 : h.t.length = 0
  · omega
  · have := hp.2.2 (h.t.length - 1) _ (List.getElem?_eq_getElem (by omega))
    have := (List.getElem?_eq_some_iff.1 this).1
    omega
theorem list5 {l : List A} (hl : l.length = 5) : ∃ a0 a1 a2 a3 a4, l = [a0, a1, a2, a3, a4] := by
  match l, hl with
  | [a0, a1, a2, a3, a4], _ => exact ⟨_, _, _, _, _, rfl⟩
theorem cellss_app (l : List V) (v : V) : V.cellss (l ++ [v]) = V.cellss l ++ [v.cells] := by
  rw [V.cellss_map, V.cellss_map]; simp
theorem strsA_app (l : List (List UInt8)) (s : List UInt8) : strsA (l ++ [s]) = strsA l ++ [[.str s]] := by simp [strsA]
def tailOps : List AOper := [⟨some 86, .load true 5 (.t 9), none, []⟩, ⟨some 87, .mv (.t 0), none, []⟩, ⟨some 88, .call 74 [.t 87], none, [1]⟩, ⟨none, .store 5 (.t 4) (.t 86), none, [0, 2, 0]⟩, ⟨some 5, .mv (.t 88), none, [2, 3, 0, 1, 2, 3]⟩]
theorem read_tail {ts : Ts} {hh : Hp} {i b4 b9 : Nat} {q : Wire.St} {l l0 : List A} {T : TypeId} {Q : AExit → Ts → Hp → Prop} (t0 : ts 0 = .ptr i 0) (t4 : ts 4 = .ptr b4 0) (t9 : ts 9 = .ptr b9 0) (hi : hh.b[i]? = some (rdr q)) (h4 : hh.b[b4]? = some (.cells T l0)) (hl0 : l0.length = 5) (h9 : hh.b[b9]? = some (.cells T l)) (hl : l.length = 5) (hlo : l.all A.one = true)
    (hQ : Q .normal (put (put (put (put (put ts (some 86) (.agg l)) (some 87) (.ptr i 0)) (some 88) (.int .i64 q.e)) none (.tup [])) (some 5) (.int .i64 q.e)) ⟨hh.b.set b4 (.cells T l), hh.t⟩) : awp Tryz.prog GT (.reg true tailOps) Q ts hh := by
  refine awp_chain [3] [hh, ⟨hh.b.set b4 (.cells T l), hh.t⟩] [[0], [0, 1], [0], [0], [1]] rfl (by decide) ?_
  obtain ⟨a0, a1, a2, a3, a4, rfl⟩ : ∃ a0 a1 a2 a3 a4, l = [a0, a1, a2, a3, a4] := by
    match l, hl with
    | [a0, a1, a2, a3, a4], _ => exact ⟨_, _, _, _, _, rfl⟩
  obtain ⟨c0, c1, c2, c3, c4, rfl⟩ : ∃ a0 a1 a2 a3 a4, l0 = [a0, a1, a2, a3, a4] := by
    match l0, hl0 with
    | [a0, a1, a2, a3, a4], _ => exact ⟨_, _, _, _, _, rfl⟩
  refine gc_op (v := .agg [a0, a1, a2, a3, a4]) rfl ⟨?_, trivial⟩ ?_
  · simp [evX, astep, loadA, t9, h9]
  refine gc_op (v := .ptr i 0) rfl ⟨?_, ?_, trivial⟩ ?_
  · simp [evX, put, astep, t0]
  · simp [evX, put, astep, t0]
  refine gc_call (vs := [.ptr i 0]) (v := .int .i64 q.e) (by simp [evX, put]) ⟨a_err hi, trivial⟩ ?_
  refine gc_op (v := .tup []) rfl ⟨?_, trivial⟩ ?_
  · simp only [List.all_cons, List.all_nil, Bool.and_true, Bool.and_eq_true] at hlo
    simp [evX, put, astep, storeA, t4, h4, setCells, A.cells, hlo]
  refine gc_op (v := .int .i64 q.e) rfl ⟨?_, trivial⟩ ?_
  · simp [evX, put, astep]
  exact gc_nil hQ
theorem t_read : ∀ (f : Nat) (r : Wire.St) (i : Nat) (h : Hp), f ≤ 32 → h.b[i]? = some (rdr r) → r.rest.length ≤ 100000000 → ACall Tryz.prog GT 234 [.ptr i 0, .int .i64 (33 - (f : Int))] h fun v h' => VR (Val.read f r) v ∧ RQ i (Val.read f r).1 h h' := by
  intro f
  induction f with
  | zero =>
    rintro r i ⟨hb, ht⟩ hf hbi hlen
    refine acall_of mixedT h_read (by simp [c_read]) ?_
    dsimp only [c_read]
    have hil := (List.getElem?_eq_some_iff.1 hbi).1
    (refine AX.go0 True.intro ?_)
    (refine AX.gc0 True.intro ?_)
    refine (a_err (get_app7 hbi)).mono ?_
    rintro v h' ⟨rfl, rfl⟩
    by_cases he : r.e = 0
    · have he' : (r.e != 0) = false := by simp [he]
      have hlv : (33 - ((0 : Nat) : Int)) > 32 := by decide
      (refine AX.go0 (And.intro he' (And.intro hlv @set_new7)) ?_)
      have hRR : Val.read 0 r = (r, 4, Val.zeroV) := by rw [Val.read, if_neg (by simp [he])]
      rw [hRR]
      exact ⟨_, le_zero 4, VR.err rfl (by decide), RQ.keep hbi _⟩
    · have he' : (r.e != 0) = true := by simp [he]
      (refine AX.go0 (And.intro he' @set_new7) ?_)
      have hRR : Val.read 0 r = (r, r.e, Val.zeroV) := by rw [Val.read, if_pos (by simp [he])]
      rw [hRR]
      exact ⟨_, le_zero r.e, VR.err rfl he, RQ.keep hbi _⟩
  | succ f ih =>
    rintro r i ⟨hb, ht⟩ hf hbi hlen
    refine acall_of mixedT h_read (by simp [c_read]) ?_
    dsimp only [c_read]
    have hil : i < hb.length := (List.getElem?_eq_some_iff.1 hbi).1
    have hR : Val.read (f + 1) r = Val.readW (Val.read f) r := by rw [Val.read]
    (refine AX.go0 True.intro ?_)
    (refine AX.gc0 True.intro ?_)
    refine (a_err (get_app7 hbi)).mono ?_
    rintro v h' ⟨rfl, rfl⟩
    by_cases he : r.e = 0
    rotate_left
    · have he' : (r.e != 0) = true := by simp [he]
      (refine AX.go0 (And.intro he' @set_new7) ?_)
      have hRR : Val.read (f + 1) r = (r, r.e, Val.zeroV) := by rw [hR, Val.readW, if_pos he]
      rw [hRR]
      exact ⟨_, le_zero r.e, VR.err rfl he, RQ.keep hbi _⟩
    have he' : (r.e != 0) = false := by simp [he]
    have hlv : ¬ (33 - ((f + 1 : Nat) : Int)) > 32 := by omega
    (refine AX.go0 (And.intro he' hlv) ?_)
    (refine AX.gc0 True.intro ?_)
    refine (a_number (get_app7 hbi) hlen).mono ?_
    rintro v h1 ⟨rfl, hh1⟩
    have hq1 : RQ i (Wire.numR r).1 ⟨hb, ht⟩ h1 := by rw [hh1]; exact (RQ.of (h := ⟨hb ++ _, ht⟩) (get_app7 hbi)).app
    have hz1 : h1.b[hb.length]? = some (.cells 44 [.int .i64 0, .int .i64 0, .str [], .sl 0 .nil [], .sl 0 .nil []]) := by
      rw [hh1]
      show (List.set _ i _)[hb.length]? = _
      rw [List.getElem?_set, if_neg (by omega)]; exact List.getElem?_concat_length
    clear hh1
    have hn := Wire.numR_rest r
    obtain ⟨q, hq⟩ : ∃ q, Wire.numR r = q := ⟨_, rfl⟩
    rw [hq] at hq1 hn ⊢
    have hsz : ∀ (i' : Nat) x, (h1.b ++ [x])[hb.length]? = some (.cells 44 [.int .i64 0, .int .i64 0, .str [], .sl 0 .nil [], .sl 0 .nil []]) := fun _ x => get_app7 hz1
    have hset : ∀ y, (h1.b.set hb.length y)[hb.length]? = some y := fun y => by
      rw [List.getElem?_set, if_pos rfl, if_pos (List.getElem?_eq_some_iff.1 hz1).1]
    (refine AX.go0 True.intro ?_)
    (refine AX.gc0 True.intro ?_)
    refine (a_err hq1.1).mono ?_
    rintro v h1 ⟨rfl, rfl⟩
    by_cases hqe : q.1.e = 0
    rotate_left
    · have he' : (q.1.e != 0) = true := by simp [hqe]
      (refine AX.go0 (And.intro he' (And.intro hz1 hset)) ?_)
      have hRR : Val.read (f + 1) r = (q.1, q.1.e, Val.zeroV) := by
        rw [hR, Val.readW, if_neg (by simp [he])]; dsimp only; rw [hq, if_pos hqe]
      rw [hRR]
      exact ⟨_, le_zero q.1.e, VR.err rfl hqe, hq1.set (Nat.le_refl _) (by show i ≠ hb.length; omega) _ _ rfl⟩
    have he'' : (q.1.e != 0) = false := by simp [hqe]
    have hil1 : i ≠ h1.b.length := fun e => by have := (List.getElem?_eq_some_iff.1 hq1.1).1; omega
    have hb4 : hb.length ≠ h1.b.length := fun e => by have := (List.getElem?_eq_some_iff.1 hz1).1; omega
    have hib4 : i ≠ hb.length := by omega
    have hbl : hb.length ≤ h1.b.length := by have := (List.getElem?_eq_some_iff.1 hz1).1; omega
    have hW : Val.readW (Val.read f) r = if q.2 < 0 ∨ 6 < q.2 then (q.1, 1, Val.zeroV)
      else if q.2 = 1 ∨ q.2 = 2 then ((Wire.numR q.1).1, (Wire.numR q.1).1.e, .mk q.2 (Wire.numR q.1).2 [] [] [])
      else if q.2 = 3 then ((Wire.strR q.1).1, (Wire.strR q.1).1.e, .mk q.2 0 (Wire.strR q.1).2 [] [])
      else if q.2 = 4 ∨ q.2 = 5 then ((Val.itemsW (Val.read f) (q.2 == 5) (Wire.cntR q.1 1).2 (Wire.cntR q.1 1).1 [] []).1, (Val.itemsW (Val.read f) (q.2 == 5) (Wire.cntR q.1 1).2 (Wire.cntR q.1 1).1 [] []).2.1, .mk q.2 0 [] (Val.itemsW (Val.read f) (q.2 == 5) (Wire.cntR q.1 1).2 (Wire.cntR q.1 1).1 [] []).2.2.1 (Val.itemsW (Val.read f) (q.2 == 5) (Wire.cntR q.1 1).2 (Wire.cntR q.1 1).1 [] []).2.2.2)
      else (q.1, 0, .mk q.2 0 [] [] []) := by
      rw [Val.readW, if_neg (by simp [he])]; dsimp only; rw [hq, if_neg (by simp [hqe])]
    by_cases hk0 : q.2 < 0
    · (refine AX.go0 (And.intro he'' (And.intro hk0 (And.intro hz1 hset))) ?_)
      have hRR : Val.read (f + 1) r = (q.1, 1, Val.zeroV) := by rw [hR, hW, if_pos (.inl hk0)]
      rw [hRR]
      exact ⟨_, le_zero 1, VR.err rfl (by decide), hq1.set (Nat.le_refl _) hib4 _ _ rfl⟩
    by_cases hk6 : q.2 > 6
    · (refine AX.go0 (And.intro he'' (And.intro hk0 (And.intro hk6 (And.intro hz1 hset)))) ?_)
      have hRR : Val.read (f + 1) r = (q.1, 1, Val.zeroV) := by rw [hR, hW, if_pos (.inr hk6)]
      rw [hRR]
      exact ⟨_, le_zero 1, VR.err rfl (by decide), hq1.set (Nat.le_refl _) hib4 _ _ rfl⟩
    rw [if_neg (by omega)] at hW
    have fin : ∀ (h2 : Hp) (q2 : Wire.St) (n : Int) (s : List UInt8) (is : List V) (ks : List (List UInt8)) (X Y : A), RQ i q2 ⟨hb, ht⟩ h2 → Val.read (f + 1) r = (q2, q2.e, .mk q.2 n s is ks) → le1 X (.sl 5 .no (V.cellss is)) → le1 Y (.sl 1 .no (strsA ks)) → 
        ∃ v, le (.tup [.agg [.int .i64 q.2, .int .i64 n, .str s, X, Y], .int .i64 q2.e]) v ∧ VR (Val.read (f + 1) r) v ∧ RQ i (Val.read (f + 1) r).1 ⟨hb, ht⟩ ⟨h2.b.set hb.length (.cells 44 [.int .i64 q.2, .int .i64 n, .str s, X, Y]), h2.t⟩ := by
      intro h2 q2 n s is ks X Y hp e hX hY
      rw [e]
      refine ⟨.tup [(V.mk q.2 n s is ks).A, .int .i64 q2.e], ?_, ⟨_, rfl, (V.cells_one (V.mk q.2 n s is ks)).1, (V.cells_one (V.mk q.2 n s is ks)).2, fun _ => rfl⟩, hp.set (Nat.le_refl _) hib4 _ _ rfl⟩
      simp only [V.A, V.cells, le, leL2, le2, leL, hX, hY, and_true, true_and]
      simp [le1]
    have hnilX : le1 (.sl 0 .nil []) (.sl 5 .no (V.cellss [])) := by simp [le1, V.cellss]
    have hnilY : le1 (.sl 0 .nil []) (.sl 1 .no (strsA [])) := by simp [le1, strsA]
    have leaf : ∀ (ts : Ts) (h2 : Hp) (q2 : Wire.St) (n : Int) (s : List UInt8) (is : List V) (ks : List (List UInt8)) (X Y : A), ts 0 = .ptr i 0 → ts 4 = .ptr hb.length 0 → ts 9 = .ptr h1.b.length 0 → RQ i q2 ⟨hb, ht⟩ h2 →
        h2.b[hb.length]? = some (.cells 44 [.int .i64 0, .int .i64 0, .str [], .sl 0 .nil [], .sl 0 .nil []]) → h2.b[h1.b.length]? = some (.cells 44 [.int .i64 q.2, .int .i64 n, .str s, X, Y]) → X.one = true → Y.one = true →
        Val.read (f + 1) r = (q2, q2.e, .mk q.2 n s is ks) → le1 X (.sl 5 .no (V.cellss is)) → le1 Y (.sl 1 .no (strsA ks)) →
        awp Tryz.prog GT (.reg true tailOps) (thenA (awp Tryz.prog GT .ret (finQ [.c 4 true 5, .t 5] fun v h' => VR (Val.read (f + 1) r) v ∧ RQ i (Val.read (f + 1) r).1 ⟨hb, ht⟩ h')) (finQ [.c 4 true 5, .t 5] fun v h' => VR (Val.read (f + 1) r) v ∧ RQ i (Val.read (f + 1) r).1 ⟨hb, ht⟩ h')) ts h2 := by
      intro ts h2 q2 n s is ks X Y t0 t4 t9 hp g4 g9 hX1 hY1 e hX hY
      refine read_tail t0 t4 t9 hp.1 g4 rfl g9 rfl (by simp only [List.all_cons, List.all_nil, hX1, hY1]; rfl) ?_
      have hs4 : ∀ y, (h2.b.set hb.length y)[hb.length]? = some y := fun y => by
        rw [List.getElem?_set, if_pos rfl, if_pos (List.getElem?_eq_some_iff.1 g4).1]
      (refine AX.go0 (And.intro t4 hs4) ?_)
      exact fin h2 q2 n s is ks X Y hp e hX hY
    have aft : ∀ (q2 : Wire.St) (h2 : Hp), h2 = ⟨(h1.b ++ [(.cells 44 [.int .i64 q.2, .int .i64 0, .str [], .sl 0 .nil [], .sl 0 .nil []] : Blk)]).set i (rdr q2), h1.t⟩ → RQ i q2 ⟨hb, ht⟩ h2 ∧
        h2.b[hb.length]? = some (.cells 44 [.int .i64 0, .int .i64 0, .str [], .sl 0 .nil [], .sl 0 .nil []]) ∧ h2.b[h1.b.length]? = some (.cells 44 [.int .i64 q.2, .int .i64 0, .str [], .sl 0 .nil [], .sl 0 .nil []]) := by
      rintro q2 h2 rfl
      refine ⟨hq1.tr (RQ.of (h := ⟨h1.b ++ _, h1.t⟩) (get_app7 hq1.1)).app, ?_, ?_⟩
      · show (List.set _ i _)[_]? = _
        rw [List.getElem?_set, if_neg hib4]; exact get_app7 hz1
      · show (List.set _ i _)[_]? = _
        rw [List.getElem?_set, if_neg hil1]; exact List.getElem?_concat_length
    by_cases hk12 : q.2 = 1 ∨ q.2 = 2
    · rw [if_pos hk12] at hW
      have e12 : (q.2 == 1) = true ∨ (q.2 == 1) = false ∧ (q.2 == 2) = true := by
        rcases hk12 with h | h
        · exact .inl (by simp [h])
        · exact .inr ⟨by simp [h], by simp [h]⟩
      rcases e12 with e1 | ⟨e1, e2⟩
      all_goals
        (refine AX.go0 (And.intro he'' (And.intro hk0 (And.intro hk6 (And.intro @set_new7 e1)))) ?_)
        try (refine AX.go0 (And.intro he'' (And.intro hk0 (And.intro hk6 (And.intro @set_new7 (And.intro e1 e2))))) ?_)
        (refine AX.gc0 True.intro ?_)
        refine (a_number (get_app7 hq1.1) (by omega)).mono ?_
        rintro v h2 ⟨rfl, hh2⟩
        obtain ⟨hq2, g4, g9⟩ := aft _ _ hh2
        have h9 : ∀ y, (h2.b.set h1.b.length y)[h1.b.length]? = some y := fun y => by
          rw [List.getElem?_set, if_pos rfl, if_pos (List.getElem?_eq_some_iff.1 g9).1]
        clear hh2
        (refine AX.go0 g9 ?_)
        refine leaf _ _ (Wire.numR q.1).1 (Wire.numR q.1).2 [] [] [] _ _ (by simp only [put_app, put_none, init_app, evX_t, evX_c, resA_nil, resA_t, resA_c, tupA_0, tupA_1, tupA_2, astep, bop, uop, loadA, storeA, appA, ssliceA, eqA, eqCells, fillA, rowsA, setCells, A.cells, A.one, A.data, optP_some, List.all_cons, List.all_nil, Bool.and_true, Bool.true_and, Option.map_some, Option.map_none, Option.bind_some, Option.bind_none, Option.getD_some, Option.getD_none, List.map_cons, List.map_nil, List.getD_cons_zero, List.getD_cons_succ, List.getElem?_cons_zero, List.getElem?_cons_succ, List.length_cons, List.length_nil, List.nil_append, List.cons_append, List.append_nil, List.set_cons_zero, List.set_cons_succ, List.drop_zero, List.drop_succ_cons, List.take_succ_cons, List.take_zero, List.take_nil, List.length_append, List.length_set, Nat.reduceAdd, Nat.reduceSub, Nat.reduceMul, Nat.reduceLeDiff, Nat.reduceEqDiff, Nat.reduceBEq, Int.toNat_natCast, Int.natCast_nonneg, if_true, if_false, reduceIte, ite_true, ite_false, true_and, and_true, ne_eq, not_true_eq_false, not_false_eq_true, Bool.false_eq_true, reduceCtorEq, and_self, Nat.zero_add, Nat.add_zero, Nat.le_refl, Bool.not_true, Bool.not_false, decide_true, decide_false]) (by simp only [put_app, put_none, init_app, evX_t, evX_c, resA_nil, resA_t, resA_c, tupA_0, tupA_1, tupA_2, astep, bop, uop, loadA, storeA, appA, ssliceA, eqA, eqCells, fillA, rowsA, setCells, A.cells, A.one, A.data, optP_some, List.all_cons, List.all_nil, Bool.and_true, Bool.true_and, Option.map_some, Option.map_none, Option.bind_some, Option.bind_none, Option.getD_some, Option.getD_none, List.map_cons, List.map_nil, List.getD_cons_zero, List.getD_cons_succ, List.getElem?_cons_zero, List.getElem?_cons_succ, List.length_cons, List.length_nil, List.nil_append, List.cons_append, List.append_nil, List.set_cons_zero, List.set_cons_succ, List.drop_zero, List.drop_succ_cons, List.take_succ_cons, List.take_zero, List.take_nil, List.length_append, List.length_set, Nat.reduceAdd, Nat.reduceSub, Nat.reduceMul, Nat.reduceLeDiff, Nat.reduceEqDiff, Nat.reduceBEq, Int.toNat_natCast, Int.natCast_nonneg, if_true, if_false, reduceIte, ite_true, ite_false, true_and, and_true, ne_eq, not_true_eq_false, not_false_eq_true, Bool.false_eq_true, reduceCtorEq, and_self, Nat.zero_add, Nat.add_zero, Nat.le_refl, Bool.not_true, Bool.not_false, decide_true, decide_false]) (by simp only [put_app, put_none, init_app, evX_t, evX_c, resA_nil, resA_t, resA_c, tupA_0, tupA_1, tupA_2, astep, bop, uop, loadA, storeA, appA, ssliceA, eqA, eqCells, fillA, rowsA, setCells, A.cells, A.one, A.data, optP_some, List.all_cons, List.all_nil, Bool.and_true, Bool.true_and, Option.map_some, Option.map_none, Option.bind_some, Option.bind_none, Option.getD_some, Option.getD_none, List.map_cons, List.map_nil, List.getD_cons_zero, List.getD_cons_succ, List.getElem?_cons_zero, List.getElem?_cons_succ, List.length_cons, List.length_nil, List.nil_append, List.cons_append, List.append_nil, List.set_cons_zero, List.set_cons_succ, List.drop_zero, List.drop_succ_cons, List.take_succ_cons, List.take_zero, List.take_nil, List.length_append, List.length_set, Nat.reduceAdd, Nat.reduceSub, Nat.reduceMul, Nat.reduceLeDiff, Nat.reduceEqDiff, Nat.reduceBEq, Int.toNat_natCast, Int.natCast_nonneg, if_true, if_false, reduceIte, ite_true, ite_false, true_and, and_true, ne_eq, not_true_eq_false, not_false_eq_true, Bool.false_eq_true, reduceCtorEq, and_self, Nat.zero_add, Nat.add_zero, Nat.le_refl, Bool.not_true, Bool.not_false, decide_true, decide_false]) (hq2.set (by exact hbl) hil1 _ _ rfl) ?_ (h9 _) rfl rfl (by rw [hR, hW]) hnilX hnilY
        show (List.set _ _ _)[_]? = _
        rw [List.getElem?_set, if_neg (Ne.symm hb4)]; exact g4
    rw [if_neg hk12] at hW
    have e1 : (q.2 == 1) = false := by simp; omega
    have e2 : (q.2 == 2) = false := by simp; omega
    by_cases hk3 : q.2 = 3
    · rw [if_pos hk3] at hW
      have e3 : (q.2 == 3) = true := by simp [hk3]
      (refine AX.go0 (And.intro he'' (And.intro hk0 (And.intro hk6 (And.intro @set_new7 (And.intro e1 (And.intro e2 e3)))))) ?_)
      (refine AX.gc0 True.intro ?_)
      refine (a_rstring (get_app7 hq1.1) (by omega)).mono ?_
      rintro v h2 ⟨rfl, hh2⟩
      obtain ⟨hq2, g4, g9⟩ := aft _ _ hh2
      have h9 : ∀ y, (h2.b.set h1.b.length y)[h1.b.length]? = some y := fun y => by
        rw [List.getElem?_set, if_pos rfl, if_pos (List.getElem?_eq_some_iff.1 g9).1]
      clear hh2
      (refine AX.go0 g9 ?_)
      refine leaf _ _ (Wire.strR q.1).1 0 (Wire.strR q.1).2 [] [] _ _ (by simp only [put_app, put_none, init_app, evX_t, evX_c, resA_nil, resA_t, resA_c, tupA_0, tupA_1, tupA_2, astep, bop, uop, loadA, storeA, appA, ssliceA, eqA, eqCells, fillA, rowsA, setCells, A.cells, A.one, A.data, optP_some, List.all_cons, List.all_nil, Bool.and_true, Bool.true_and, Option.map_some, Option.map_none, Option.bind_some, Option.bind_none, Option.getD_some, Option.getD_none, List.map_cons, List.map_nil, List.getD_cons_zero, List.getD_cons_succ, List.getElem?_cons_zero, List.getElem?_cons_succ, List.length_cons, List.length_nil, List.nil_append, List.cons_append, List.append_nil, List.set_cons_zero, List.set_cons_succ, List.drop_zero, List.drop_succ_cons, List.take_succ_cons, List.take_zero, List.take_nil, List.length_append, List.length_set, Nat.reduceAdd, Nat.reduceSub, Nat.reduceMul, Nat.reduceLeDiff, Nat.reduceEqDiff, Nat.reduceBEq, Int.toNat_natCast, Int.natCast_nonneg, if_true, if_false, reduceIte, ite_true, ite_false, true_and, and_true, ne_eq, not_true_eq_false, not_false_eq_true, Bool.false_eq_true, reduceCtorEq, and_self, Nat.zero_add, Nat.add_zero, Nat.le_refl, Bool.not_true, Bool.not_false, decide_true, decide_false]) (by simp only [put_app, put_none, init_app, evX_t, evX_c, resA_nil, resA_t, resA_c, tupA_0, tupA_1, tupA_2, astep, bop, uop, loadA, storeA, appA, ssliceA, eqA, eqCells, fillA, rowsA, setCells, A.cells, A.one, A.data, optP_some, List.all_cons, List.all_nil, Bool.and_true, Bool.true_and, Option.map_some, Option.map_none, Option.bind_some, Option.bind_none, Option.getD_some, Option.getD_none, List.map_cons, List.map_nil, List.getD_cons_zero, List.getD_cons_succ, List.getElem?_cons_zero, List.getElem?_cons_succ, List.length_cons, List.length_nil, List.nil_append, List.cons_append, List.append_nil, List.set_cons_zero, List.set_cons_succ, List.drop_zero, List.drop_succ_cons, List.take_succ_cons, List.take_zero, List.take_nil, List.length_append, List.length_set, Nat.reduceAdd, Nat.reduceSub, Nat.reduceMul, Nat.reduceLeDiff, Nat.reduceEqDiff, Nat.reduceBEq, Int.toNat_natCast, Int.natCast_nonneg, if_true, if_false, reduceIte, ite_true, ite_false, true_and, and_true, ne_eq, not_true_eq_false, not_false_eq_true, Bool.false_eq_true, reduceCtorEq, and_self, Nat.zero_add, Nat.add_zero, Nat.le_refl, Bool.not_true, Bool.not_false, decide_true, decide_false]) (by simp only [put_app, put_none, init_app, evX_t, evX_c, resA_nil, resA_t, resA_c, tupA_0, tupA_1, tupA_2, astep, bop, uop, loadA, storeA, appA, ssliceA, eqA, eqCells, fillA, rowsA, setCells, A.cells, A.one, A.data, optP_some, List.all_cons, List.all_nil, Bool.and_true, Bool.true_and, Option.map_some, Option.map_none, Option.bind_some, Option.bind_none, Option.getD_some, Option.getD_none, List.map_cons, List.map_nil, List.getD_cons_zero, List.getD_cons_succ, List.getElem?_cons_zero, List.getElem?_cons_succ, List.length_cons, List.length_nil, List.nil_append, List.cons_append, List.append_nil, List.set_cons_zero, List.set_cons_succ, List.drop_zero, List.drop_succ_cons, List.take_succ_cons, List.take_zero, List.take_nil, List.length_append, List.length_set, Nat.reduceAdd, Nat.reduceSub, Nat.reduceMul, Nat.reduceLeDiff, Nat.reduceEqDiff, Nat.reduceBEq, Int.toNat_natCast, Int.natCast_nonneg, if_true, if_false, reduceIte, ite_true, ite_false, true_and, and_true, ne_eq, not_true_eq_false, not_false_eq_true, Bool.false_eq_true, reduceCtorEq, and_self, Nat.zero_add, Nat.add_zero, Nat.le_refl, Bool.not_true, Bool.not_false, decide_true, decide_false]) (hq2.set (by exact hbl) hil1 _ _ rfl) ?_ (h9 _) rfl rfl (by rw [hR, hW]) hnilX hnilY
      show (List.set _ _ _)[_]? = _
      rw [List.getElem?_set, if_neg (Ne.symm hb4)]; exact g4
    rw [if_neg hk3] at hW
    have e3 : (q.2 == 3) = false := by simp [hk3]
    by_cases hk45 : q.2 = 4 ∨ q.2 = 5
    · rw [if_pos hk45] at hW
      have e45 : (q.2 == 4) = true ∨ (q.2 == 4) = false ∧ (q.2 == 5) = true := by
        rcases hk45 with h | h
        · exact .inl (by simp [h])
        · exact .inr ⟨by simp [h], by simp [h]⟩
      rcases e45 with e4 | ⟨e4, e5⟩
      all_goals
        (refine AX.go0 (And.intro he'' (And.intro hk0 (And.intro hk6 (And.intro @set_new7 (And.intro e1 (And.intro e2 (And.intro e3 e4))))))) ?_)
        try (refine AX.go0 (And.intro he'' (And.intro hk0 (And.intro hk6 (And.intro @set_new7 (And.intro e1 (And.intro e2 (And.intro e3 (And.intro e4 e5)))))))) ?_)
        (refine AX.gc0 True.intro ?_)
        refine (a_count (get_app7 hq1.1) (by omega)).mono ?_
        rintro v h2 ⟨rfl, hh2⟩
        obtain ⟨hq2, g4, g9⟩ := aft _ _ hh2
        clear hh2
        have hcr := Wire.cntR_rest q.1 1
        have hcc := Wire.cntR_cnt q.1
        obtain ⟨c0, hc0⟩ : ∃ c, Wire.cntR q.1 1 = c := ⟨_, rfl⟩
        rw [hc0] at hq2 hcr hcc hW ⊢
        (refine AX.go0 g9 ?_)
        refine awp_loop (fun m ts hh => ∃ (j : Nat) (p : Wire.St) (is : List V) (ks : List (List UInt8)) (X Y : A), m = c0.2 - j ∧ j ≤ c0.2 ∧ Val.itemsW (Val.read f) (q.2 == 5) (c0.2 - j) p is ks = Val.itemsW (Val.read f) (q.2 == 5) c0.2 c0.1 [] [] ∧ RQ i p ⟨hb, ht⟩ hh ∧ p.rest.length ≤ q.1.rest.length ∧ is.length ≤ j ∧ ks.length ≤ j ∧
            hh.b[hb.length]? = some (.cells 44 [.int .i64 0, .int .i64 0, .str [], .sl 0 .nil [], .sl 0 .nil []]) ∧ hh.b[h1.b.length]? = some (.cells 44 [.int .i64 q.2, .int .i64 0, .str [], X, Y]) ∧ Gs 44 5 ht.length hh (V.cellss is) X ∧ Gs 9 1 ht.length hh (strsA ks) Y ∧ ht.length ≤ hh.t.length ∧
            ts 0 = .ptr i 0 ∧ ts 1 = .int .i64 (33 - ((f + 1 : Nat) : Int)) ∧ ts 4 = .ptr hb.length 0 ∧ ts 9 = .ptr h1.b.length 0 ∧ ts 55 = .int .i64 c0.2 ∧ ts 56 = .int .i64 j) c0.2 ?_ ?_
        · refine ⟨0, c0.1, [], [], _, _, rfl, Nat.zero_le _, rfl, hq2, hcr, Nat.le_refl _, Nat.le_refl _, g4, g9, .inl ⟨rfl, rfl⟩, .inl ⟨rfl, rfl⟩, hq2.tlen, ?_⟩
          (exact AX.inv0 True.intro)
        · rintro m ts hh ⟨j, p, is, ks, X, Y, rfl, hj, hit, hp, hpl, hil2, hkl2, g4, g9, gX, gY, htl, t0, t1, t4, t9, t55, t56⟩
          by_cases hlt : j < c0.2
          · have hlt2 : (j : Int) < (c0.2 : Int) := by omega
            have ei : IntKind.i64.wrap ((j : Int) + 1) = (j : Int) + 1 := wrap64 (by omega) (by omega)
            have elv : IntKind.i64.wrap ((33 - ((f + 1 : Nat) : Int)) + 1) = 33 - (f : Int) := by rw [wrap64 (by omega) (by omega)]; omega
            obtain ⟨d, hd⟩ : ∃ d, c0.2 - j = d + 1 := ⟨c0.2 - j - 1, by omega⟩
            obtain ⟨q2, hq2e⟩ : ∃ q2, q2 = if (q.2 == 5) = true then Wire.strR p else (p, []) := ⟨_, rfl⟩
            rw [hd, Val.itemsW_step _ _ _ _ _ _ q2 hq2e] at hit
            have hbi := hp.1
            have hcell : ∀ y, (hh.b.set i y)[h1.b.length]? = some (.cells 44 [.int .i64 q.2, .int .i64 0, .str [], X, Y]) := fun y => by
              rw [List.getElem?_set, if_neg hil1]; exact g9
            rcases bool_or (q.2 == 5) with e5' | e5'
            · rw [if_pos e5'] at hq2e
              have hp' : RQ i q2.1 ⟨hb, ht⟩ ⟨hh.b.set i (rdr q2.1), hh.t⟩ := hp.tr (RQ.of hbi)
              have hpl' : q2.1.rest.length ≤ p.rest.length := by rw [hq2e]; exact Wire.strR_rest p
              obtain ⟨ks', hks'⟩ : ∃ l, l = (if (q.2 == 5) = true then ks ++ [q2.2] else ks) := ⟨_, rfl⟩
              rw [← hks'] at hit
              rw [if_pos e5'] at hks'
              obtain ⟨Y', t', hY1, hY2, hY3, hY4, hY5⟩ := gY.app htl 16 [.str q2.2] (by rw [strsA_length]; omega) (by decide)
              obtain ⟨Wy0, oy0, rfl⟩ := Gs.sl gY
              obtain ⟨Wy1, oy1, rfl⟩ := Gs.sl (hY2 [])
              (refine AX.go0 (And.intro t0 (And.intro t1 (And.intro t4 (And.intro t9 (And.intro t55 (And.intro t56 (And.intro hlt2 (And.intro g9 e5')))))))) ?_)
              refine awp_chain [3, 5, 7] [hh, ⟨hh.b.set i (rdr q2.1), hh.t⟩, ⟨hh.b.set i (rdr q2.1), t'⟩, ⟨(hh.b.set i (rdr q2.1)).set h1.b.length (.cells 44 [.int .i64 q.2, .int .i64 0, .str [], X, .sl Wy1 oy1 (strsA ks ++ [[.str q2.2]])]), t'⟩] [[0, 1, 2], [0, 1], [0], [0], [1], [1], [2], [2]] rfl (by decide) ?_
              refine gc_op (v := .ptr h1.b.length 4) rfl ⟨?_, ?_, ?_, trivial⟩ ?_
              · simp [evX, put, astep, t9]
              · simp [evX, put, astep, t9]
              · simp [evX, put, astep, t9]
              refine gc_op (v := .sl Wy0 oy0 (strsA ks)) rfl ⟨?_, ?_, trivial⟩ ?_
              · simp [evX, put, astep, loadA, g9]
              · simp [evX, put, astep, loadA, hcell]
              refine gc_op (v := .ptr i 0) rfl ⟨?_, trivial⟩ ?_
              · simp [evX, put, astep, t0]
              refine gc_call (vs := [.ptr i 0]) (v := .str q2.2) (by simp [evX, put]) ⟨?_, trivial⟩ ?_
              · rw [hq2e]; exact a_rstring hp.1 (by omega)
              refine gc_op (v := .sl 1 .no [[.str q2.2]]) rfl ⟨?_, trivial⟩ ?_
              · simp [evX, put, astep, rowsA, A.cells, A.data]
              refine gc_op (v := .sl Wy1 oy1 (strsA ks ++ [[.str q2.2]])) rfl ⟨?_, trivial⟩ ?_
              · show appA _ _ _ _ _ _ = _
                simp only [evX, put, Nat.reduceEqDiff, if_true, if_false, ite_true, ite_false, reduceIte]
                exact hY1 _
              refine gc_op (v := .ptr h1.b.length 4) rfl ⟨?_, trivial⟩ ?_
              · simp [evX, put, astep, t9]
              refine gc_op (v := .tup []) rfl ⟨?_, trivial⟩ ?_
              · simp [evX, put, astep, storeA, hcell, setCells, A.cells, A.one]
              refine gc_nil ?_
              have hsetl : h1.b.length < (hh.b.set i (rdr q2.1)).length := (List.getElem?_eq_some_iff.1 (hcell (rdr q2.1))).1
              show thenA _ _ .normal _ (⟨(hh.b.set i (rdr q2.1)).set h1.b.length (.cells 44 [.int .i64 q.2, .int .i64 0, .str [], X, .sl Wy1 oy1 (strsA ks ++ [[.str q2.2]])]), t'⟩ : Hp)
              have g4 : ((hh.b.set i (rdr q2.1)).set h1.b.length (.cells 44 [.int .i64 q.2, .int .i64 0, .str [], X, .sl Wy1 oy1 (strsA ks ++ [[.str q2.2]])]))[hb.length]? = some (.cells 44 [.int .i64 0, .int .i64 0, .str [], .sl 0 .nil [], .sl 0 .nil []]) := by
                rw [List.getElem?_set, if_neg (Ne.symm hb4), List.getElem?_set, if_neg hib4]; exact g4
              have g9 : ((hh.b.set i (rdr q2.1)).set h1.b.length (.cells 44 [.int .i64 q.2, .int .i64 0, .str [], X, .sl Wy1 oy1 (strsA ks ++ [[.str q2.2]])]))[h1.b.length]? = some (.cells 44 [.int .i64 q.2, .int .i64 0, .str [], X, .sl Wy1 oy1 (strsA ks ++ [[.str q2.2]])]) := by
                rw [List.getElem?_set, if_pos rfl, if_pos hsetl]
              have gX := Gs.keep (h' := ⟨(hh.b.set i (rdr q2.1)).set h1.b.length (.cells 44 [.int .i64 q.2, .int .i64 0, .str [], X, .sl Wy1 oy1 (strsA ks ++ [[.str q2.2]])]), t'⟩) gX fun t n hz => hY5 t _ _ _ (by decide) hz
              have gY : Gs 9 1 ht.length ⟨(hh.b.set i (rdr q2.1)).set h1.b.length (.cells 44 [.int .i64 q.2, .int .i64 0, .str [], X, .sl Wy1 oy1 (strsA ks ++ [[.str q2.2]])]), t'⟩ (strsA ks') (.sl Wy1 oy1 (strsA ks ++ [[.str q2.2]])) := by
                rw [hks', strsA_app]; exact hY2 _
              have htl := hY4
              have hkl2 : ks'.length ≤ j + 1 := by rw [hks']; simp; omega
              have hp' : RQ i q2.1 ⟨hb, ht⟩ ⟨(hh.b.set i (rdr q2.1)).set h1.b.length (.cells 44 [.int .i64 q.2, .int .i64 0, .str [], X, .sl Wy1 oy1 (strsA ks ++ [[.str q2.2]])]), t'⟩ := by
                refine ⟨?_, fun j y hj hy => ?_, fun t y hy => ?_⟩
                · show (List.set _ _ _)[i]? = _
                  rw [List.getElem?_set, if_neg (Ne.symm hil1)]; exact hp'.1
                · have hjl : j < hb.length := (List.getElem?_eq_some_iff.1 hy).1
                  show (List.set _ _ _)[j]? = _
                  rw [List.getElem?_set, if_neg (by omega)]; exact hp'.2.1 j y hj hy
                · exact hY3 t y (List.getElem?_eq_some_iff.1 hy).1 (hp'.2.2 t y hy)
              have u0 := t0
              have u1 := t1
              (refine AX.go0 (And.intro t0 (And.intro t1 (And.intro t4 (And.intro t9 (And.intro t55 (And.intro t56 elv)))))) ?_)
              (refine AX.gc0 (And.intro t0 (And.intro t1 (And.intro t4 (And.intro t9 (And.intro elv (And.intro u0 u1)))))) ?_)
              refine (ih q2.1 i _ (by omega) hp'.1 (by omega)).mono ?_
              rintro v h3 ⟨⟨l3, rfl, hl3, ho3, hv3⟩, hp3⟩
              obtain ⟨x, hx⟩ : ∃ x, Val.read f q2.1 = x := ⟨_, rfl⟩
              have hxl := Val.read_le f q2.1
              rw [hx] at hit hv3 hp3 hxl ⊢
              obtain ⟨a0, a1, a2, a3, a4, rfl⟩ := list5 hl3
              have g4' := hp3.2.1 _ _ (Ne.symm hib4) g4
              have g9' := hp3.2.1 _ _ (Ne.symm hil1) g9
              have h4n : ∀ y, (h3.b ++ [y])[hb.length]? = _ := fun y => get_app7 g4'
              have h9n : ∀ y, (h3.b ++ [y])[h1.b.length]? = _ := fun y => get_app7 g9'
              have hl4 : hb.length < h3.b.length := (List.getElem?_eq_some_iff.1 g4').1
              have hl9 : h1.b.length < h3.b.length := (List.getElem?_eq_some_iff.1 g9').1
              have hs4 : ∀ y z, ((h3.b ++ [y]).set hb.length z)[hb.length]? = some z := fun y z => by
                rw [List.getElem?_set, if_pos rfl, if_pos (by simp; omega)]
              simp only [List.all_cons, List.all_nil, Bool.and_true, Bool.and_eq_true] at ho3
              simp only [A.one] at ho3
              obtain ⟨o0, o1, o2, o3, o4⟩ := ho3
              by_cases hx0 : x.2.1 = 0
              rotate_left
              · have hx0' : (x.2.1 != 0) = true := by simp [hx0]
                rw [if_pos hx0] at hit
                have hRR : Val.read (f + 1) r = (x.1, x.2.1, .mk q.2 0 [] is ks) := by rw [hR, hW, ← hit]
                (refine AX.go0 (And.intro t0 (And.intro t1 (And.intro t4 (And.intro t9 (And.intro t55 (And.intro t56 (And.intro @set_new7 (And.intro hx0' (And.intro h4n (And.intro hs4 (And.intro o0 (And.intro o1 (And.intro o2 (And.intro o3 o4)))))))))))))) ?_)
                rw [hRR]
                exact ⟨_, le_zero x.2.1, VR.err rfl hx0, RQ.set (h' := ⟨h3.b ++ _, h3.t⟩) ⟨get_app7 (hp'.tr hp3).1, fun j x hj hx => get_app7 ((hp'.tr hp3).2.1 j x hj hx), (hp'.tr hp3).2.2⟩ (Nat.le_refl _) hib4 _ _ rfl⟩
              · have hx0' : (x.2.1 != 0) = false := by simp [hx0]
                rw [if_neg (by simp [hx0])] at hit
                have hv := hv3 hx0
                obtain ⟨X', t'', hX1, hX2, hX3, hX4, hX5⟩ := (Gs.keep (h' := h3) gX fun t n hh => hp3.2.2 _ _ hh).app (Nat.le_trans htl hp3.tlen) 80 x.2.2.cells (by rw [V.cellss_length]; omega) (by decide)
                rw [← hv] at hX1 hX2
                have hdd := V.cells_data x.2.2
                rw [← hv] at hdd
                simp only [List.all_cons, List.all_nil, Bool.and_true, Bool.and_eq_true, A.data] at hdd
                obtain ⟨d0, d1, d2, d3, d4⟩ := hdd
                obtain ⟨Wx, ox, rfl⟩ := Gs.sl (hX2 [])
                have hdummy := trivial
                (refine AX.go0 (And.intro t0 (And.intro t1 (And.intro t4 (And.intro t9 (And.intro t55 (And.intro t56 (And.intro @set_new7 (And.intro hx0' (And.intro h4n (And.intro h9n (And.intro hs4 (And.intro o0 (And.intro o1 (And.intro o2 (And.intro o3 (And.intro o4 (And.intro ei (And.intro d0 (And.intro d1 (And.intro d2 (And.intro d3 d4))))))))))))))))))))) ?_)
                refine go_op (v := .sl Wx ox (V.cellss is ++ [[a0, a1, a2, a3, a4]])) (h' := ⟨h3.b ++ [.cells 44 [a0, a1, a2, a3, a4]], t''⟩) rfl ?_ ?_
                · simp only [put_app, put_none, init_app, evX_t, evX_c, resA_nil, resA_t, resA_c, tupA_0, tupA_1, tupA_2, astep, bop, uop, loadA, storeA, ssliceA, eqA, eqCells, fillA, rowsA, setCells, A.cells, optP_some, List.all_cons, List.all_nil, Bool.and_true, Bool.true_and, Option.map_some, Option.map_none, Option.bind_some, Option.bind_none, Option.getD_some, Option.getD_none, List.map_cons, List.map_nil, List.getD_cons_zero, List.getD_cons_succ, List.getElem?_cons_zero, List.getElem?_cons_succ, List.length_cons, List.length_nil, List.nil_append, List.cons_append, List.append_nil, List.set_cons_zero, List.set_cons_succ, List.drop_zero, List.drop_succ_cons, List.take_succ_cons, List.take_zero, List.take_nil, List.length_append, List.length_set, Nat.reduceAdd, Nat.reduceSub, Nat.reduceMul, Nat.reduceLeDiff, Nat.reduceEqDiff, Nat.reduceBEq, Int.toNat_natCast, Int.natCast_nonneg, if_true, if_false, reduceIte, ite_true, ite_false, true_and, and_true, ne_eq, not_true_eq_false, not_false_eq_true, Bool.false_eq_true, reduceCtorEq, and_self, Nat.zero_add, Nat.add_zero, Nat.le_refl, Bool.not_true, Bool.not_false, decide_true, decide_false]
                  exact hX1 _
                (refine AX.go0 (And.intro t0 (And.intro t1 (And.intro t4 (And.intro t9 (And.intro t55 (And.intro t56 (And.intro h9n ei))))))) ?_)
                refine ⟨c0.2 - (j + 1), by omega, j + 1, x.1, is ++ [x.2.2], ks', .sl Wx ox (V.cellss is ++ [[a0, a1, a2, a3, a4]]), .sl Wy1 oy1 (strsA ks ++ [[.str q2.2]]), rfl, by omega, ?_, ?_, by omega, by simp; omega, by omega, ?_, ?_, ?_, ?_, hX4, ?_⟩
                · rw [show c0.2 - (j + 1) = d by omega]; exact hit
                · have hp3' := hp'.tr hp3
                  refine ⟨?_, fun j y hj hy => ?_, fun t y hy => ?_⟩
                  · show (List.set _ _ _)[i]? = _
                    rw [List.getElem?_set, if_neg (Ne.symm hil1)]; exact get_app7 hp3'.1
                  · have hjl : j < hb.length := (List.getElem?_eq_some_iff.1 hy).1
                    show (List.set _ _ _)[j]? = _
                    rw [List.getElem?_set, if_neg (by omega)]; exact get_app7 (hp3'.2.1 j y hj hy)
                  · exact hX3 t y (List.getElem?_eq_some_iff.1 hy).1 (hp3'.2.2 t y hy)
                · show (List.set _ _ _)[_]? = _
                  rw [List.getElem?_set, if_neg (Ne.symm hb4)]; exact h4n _
                · show (List.set _ _ _)[_]? = _
                  rw [List.getElem?_set, if_pos rfl, if_pos (by simp; omega)]
                · rw [cellss_app, ← hv]; exact hX2 _
                · exact Gs.keep (Gs.keep (h' := h3) gY fun t n hh => hp3.2.2 _ _ hh) fun t n hh => hX5 t _ _ _ (by decide) hh
                · (exact AX.inv0 (And.intro t0 (And.intro t1 (And.intro t4 (And.intro t9 (And.intro t55 (And.intro t56 ei)))))))
            · rw [if_neg (by simp [e5'])] at hq2e
              have hp' : RQ i q2.1 ⟨hb, ht⟩ hh := by rw [hq2e]; exact hp
              have hpl' : q2.1.rest.length ≤ p.rest.length := by rw [hq2e]; exact Nat.le_refl _
              obtain ⟨ks', hks'⟩ : ∃ l, l = (if (q.2 == 5) = true then ks ++ [q2.2] else ks) := ⟨_, rfl⟩
              rw [← hks'] at hit
              rw [if_neg (by simp [e5'])] at hks'
              rw [← hks'] at gY hkl2
              have u0 := t0
              have u1 := t1
              (refine AX.go0 (And.intro t0 (And.intro t1 (And.intro t4 (And.intro t9 (And.intro t55 (And.intro t56 (And.intro hlt2 (And.intro g9 (And.intro e5' elv))))))))) ?_)
              (refine AX.gc0 (And.intro t0 (And.intro t1 (And.intro t4 (And.intro t9 (And.intro elv (And.intro u0 u1)))))) ?_)
              refine (ih q2.1 i _ (by omega) hp'.1 (by omega)).mono ?_
              rintro v h3 ⟨⟨l3, rfl, hl3, ho3, hv3⟩, hp3⟩
              obtain ⟨x, hx⟩ : ∃ x, Val.read f q2.1 = x := ⟨_, rfl⟩
              have hxl := Val.read_le f q2.1
              rw [hx] at hit hv3 hp3 hxl ⊢
              obtain ⟨a0, a1, a2, a3, a4, rfl⟩ := list5 hl3
              have g4' := hp3.2.1 _ _ (Ne.symm hib4) g4
              have g9' := hp3.2.1 _ _ (Ne.symm hil1) g9
              have h4n : ∀ y, (h3.b ++ [y])[hb.length]? = _ := fun y => get_app7 g4'
              have h9n : ∀ y, (h3.b ++ [y])[h1.b.length]? = _ := fun y => get_app7 g9'
              have hl4 : hb.length < h3.b.length := (List.getElem?_eq_some_iff.1 g4').1
              have hl9 : h1.b.length < h3.b.length := (List.getElem?_eq_some_iff.1 g9').1
              have hs4 : ∀ y z, ((h3.b ++ [y]).set hb.length z)[hb.length]? = some z := fun y z => by
                rw [List.getElem?_set, if_pos rfl, if_pos (by simp; omega)]
              simp only [List.all_cons, List.all_nil, Bool.and_true, Bool.and_eq_true] at ho3
              simp only [A.one] at ho3
              obtain ⟨o0, o1, o2, o3, o4⟩ := ho3
              by_cases hx0 : x.2.1 = 0
              rotate_left
              · have hx0' : (x.2.1 != 0) = true := by simp [hx0]
                rw [if_pos hx0] at hit
                have hRR : Val.read (f + 1) r = (x.1, x.2.1, .mk q.2 0 [] is ks) := by rw [hR, hW, ← hit]
                (refine AX.go0 (And.intro t0 (And.intro t1 (And.intro t4 (And.intro t9 (And.intro t55 (And.intro t56 (And.intro @set_new7 (And.intro hx0' (And.intro h4n (And.intro hs4 (And.intro o0 (And.intro o1 (And.intro o2 (And.intro o3 o4)))))))))))))) ?_)
                rw [hRR]
                exact ⟨_, le_zero x.2.1, VR.err rfl hx0, RQ.set (h' := ⟨h3.b ++ _, h3.t⟩) ⟨get_app7 (hp'.tr hp3).1, fun j x hj hx => get_app7 ((hp'.tr hp3).2.1 j x hj hx), (hp'.tr hp3).2.2⟩ (Nat.le_refl _) hib4 _ _ rfl⟩
              · have hx0' : (x.2.1 != 0) = false := by simp [hx0]
                rw [if_neg (by simp [hx0])] at hit
                have hv := hv3 hx0
                obtain ⟨X', t'', hX1, hX2, hX3, hX4, hX5⟩ := (Gs.keep (h' := h3) gX fun t n hh => hp3.2.2 _ _ hh).app (Nat.le_trans htl hp3.tlen) 80 x.2.2.cells (by rw [V.cellss_length]; omega) (by decide)
                rw [← hv] at hX1 hX2
                have hdd := V.cells_data x.2.2
                rw [← hv] at hdd
                simp only [List.all_cons, List.all_nil, Bool.and_true, Bool.and_eq_true, A.data] at hdd
                obtain ⟨d0, d1, d2, d3, d4⟩ := hdd
                obtain ⟨Wx, ox, rfl⟩ := Gs.sl (hX2 [])
                obtain ⟨Wy, oy, rfl⟩ := Gs.sl gY
                (refine AX.go0 (And.intro t0 (And.intro t1 (And.intro t4 (And.intro t9 (And.intro t55 (And.intro t56 (And.intro @set_new7 (And.intro hx0' (And.intro h4n (And.intro h9n (And.intro hs4 (And.intro o0 (And.intro o1 (And.intro o2 (And.intro o3 (And.intro o4 (And.intro ei (And.intro d0 (And.intro d1 (And.intro d2 (And.intro d3 d4))))))))))))))))))))) ?_)
                refine go_op (v := .sl Wx ox (V.cellss is ++ [[a0, a1, a2, a3, a4]])) (h' := ⟨h3.b ++ [.cells 44 [a0, a1, a2, a3, a4]], t''⟩) rfl ?_ ?_
                · simp only [put_app, put_none, init_app, evX_t, evX_c, resA_nil, resA_t, resA_c, tupA_0, tupA_1, tupA_2, astep, bop, uop, loadA, storeA, ssliceA, eqA, eqCells, fillA, rowsA, setCells, A.cells, optP_some, List.all_cons, List.all_nil, Bool.and_true, Bool.true_and, Option.map_some, Option.map_none, Option.bind_some, Option.bind_none, Option.getD_some, Option.getD_none, List.map_cons, List.map_nil, List.getD_cons_zero, List.getD_cons_succ, List.getElem?_cons_zero, List.getElem?_cons_succ, List.length_cons, List.length_nil, List.nil_append, List.cons_append, List.append_nil, List.set_cons_zero, List.set_cons_succ, List.drop_zero, List.drop_succ_cons, List.take_succ_cons, List.take_zero, List.take_nil, List.length_append, List.length_set, Nat.reduceAdd, Nat.reduceSub, Nat.reduceMul, Nat.reduceLeDiff, Nat.reduceEqDiff, Nat.reduceBEq, Int.toNat_natCast, Int.natCast_nonneg, if_true, if_false, reduceIte, ite_true, ite_false, true_and, and_true, ne_eq, not_true_eq_false, not_false_eq_true, Bool.false_eq_true, reduceCtorEq, and_self, Nat.zero_add, Nat.add_zero, Nat.le_refl, Bool.not_true, Bool.not_false, decide_true, decide_false]
                  exact hX1 _
                (refine AX.go0 (And.intro t0 (And.intro t1 (And.intro t4 (And.intro t9 (And.intro t55 (And.intro t56 (And.intro h9n ei))))))) ?_)
                refine ⟨c0.2 - (j + 1), by omega, j + 1, x.1, is ++ [x.2.2], ks', .sl Wx ox (V.cellss is ++ [[a0, a1, a2, a3, a4]]), .sl Wy oy (strsA ks'), rfl, by omega, ?_, ?_, by omega, by simp; omega, by omega, ?_, ?_, ?_, ?_, hX4, ?_⟩
                · rw [show c0.2 - (j + 1) = d by omega]; exact hit
                · have hp3' := hp'.tr hp3
                  refine ⟨?_, fun j y hj hy => ?_, fun t y hy => ?_⟩
                  · show (List.set _ _ _)[i]? = _
                    rw [List.getElem?_set, if_neg (Ne.symm hil1)]; exact get_app7 hp3'.1
                  · have hjl : j < hb.length := (List.getElem?_eq_some_iff.1 hy).1
                    show (List.set _ _ _)[j]? = _
                    rw [List.getElem?_set, if_neg (by omega)]; exact get_app7 (hp3'.2.1 j y hj hy)
                  · exact hX3 t y (List.getElem?_eq_some_iff.1 hy).1 (hp3'.2.2 t y hy)
                · show (List.set _ _ _)[_]? = _
                  rw [List.getElem?_set, if_neg (Ne.symm hb4)]; exact h4n _
                · show (List.set _ _ _)[_]? = _
                  rw [List.getElem?_set, if_pos rfl, if_pos (by simp; omega)]
                · rw [cellss_app, ← hv]; exact hX2 _
                · exact Gs.keep (Gs.keep (h' := h3) gY fun t n hh => hp3.2.2 _ _ hh) fun t n hh => hX5 t _ _ _ (by decide) hh
                · (exact AX.inv0 (And.intro t0 (And.intro t1 (And.intro t4 (And.intro t9 (And.intro t55 (And.intro t56 ei)))))))
          · have hlt2 : ¬ (j : Int) < (c0.2 : Int) := by omega
            rw [show c0.2 - j = 0 by omega, Val.itemsW] at hit
            (refine AX.go0 (And.intro t0 (And.intro t1 (And.intro t4 (And.intro t9 (And.intro t55 (And.intro t56 hlt2)))))) ?_)
            exact leaf _ _ p 0 [] is ks X Y (by simp only [put_app, put_none, init_app, evX_t, evX_c, resA_nil, resA_t, resA_c, tupA_0, tupA_1, tupA_2, astep, bop, uop, loadA, storeA, appA, ssliceA, eqA, eqCells, fillA, rowsA, setCells, A.cells, A.one, A.data, optP_some, List.all_cons, List.all_nil, Bool.and_true, Bool.true_and, Option.map_some, Option.map_none, Option.bind_some, Option.bind_none, Option.getD_some, Option.getD_none, List.map_cons, List.map_nil, List.getD_cons_zero, List.getD_cons_succ, List.getElem?_cons_zero, List.getElem?_cons_succ, List.length_cons, List.length_nil, List.nil_append, List.cons_append, List.append_nil, List.set_cons_zero, List.set_cons_succ, List.drop_zero, List.drop_succ_cons, List.take_succ_cons, List.take_zero, List.take_nil, List.length_append, List.length_set, Nat.reduceAdd, Nat.reduceSub, Nat.reduceMul, Nat.reduceLeDiff, Nat.reduceEqDiff, Nat.reduceBEq, Int.toNat_natCast, Int.natCast_nonneg, if_true, if_false, reduceIte, ite_true, ite_false, true_and, and_true, ne_eq, not_true_eq_false, not_false_eq_true, Bool.false_eq_true, reduceCtorEq, and_self, Nat.zero_add, Nat.add_zero, Nat.le_refl, Bool.not_true, Bool.not_false, decide_true, decide_false, t0]) (by simp only [put_app, put_none, init_app, evX_t, evX_c, resA_nil, resA_t, resA_c, tupA_0, tupA_1, tupA_2, astep, bop, uop, loadA, storeA, appA, ssliceA, eqA, eqCells, fillA, rowsA, setCells, A.cells, A.one, A.data, optP_some, List.all_cons, List.all_nil, Bool.and_true, Bool.true_and, Option.map_some, Option.map_none, Option.bind_some, Option.bind_none, Option.getD_some, Option.getD_none, List.map_cons, List.map_nil, List.getD_cons_zero, List.getD_cons_succ, List.getElem?_cons_zero, List.getElem?_cons_succ, List.length_cons, List.length_nil, List.nil_append, List.cons_append, List.append_nil, List.set_cons_zero, List.set_cons_succ, List.drop_zero, List.drop_succ_cons, List.take_succ_cons, List.take_zero, List.take_nil, List.length_append, List.length_set, Nat.reduceAdd, Nat.reduceSub, Nat.reduceMul, Nat.reduceLeDiff, Nat.reduceEqDiff, Nat.reduceBEq, Int.toNat_natCast, Int.natCast_nonneg, if_true, if_false, reduceIte, ite_true, ite_false, true_and, and_true, ne_eq, not_true_eq_false, not_false_eq_true, Bool.false_eq_true, reduceCtorEq, and_self, Nat.zero_add, Nat.add_zero, Nat.le_refl, Bool.not_true, Bool.not_false, decide_true, decide_false, t4]) (by simp only [put_app, put_none, init_app, evX_t, evX_c, resA_nil, resA_t, resA_c, tupA_0, tupA_1, tupA_2, astep, bop, uop, loadA, storeA, appA, ssliceA, eqA, eqCells, fillA, rowsA, setCells, A.cells, A.one, A.data, optP_some, List.all_cons, List.all_nil, Bool.and_true, Bool.true_and, Option.map_some, Option.map_none, Option.bind_some, Option.bind_none, Option.getD_some, Option.getD_none, List.map_cons, List.map_nil, List.getD_cons_zero, List.getD_cons_succ, List.getElem?_cons_zero, List.getElem?_cons_succ, List.length_cons, List.length_nil, List.nil_append, List.cons_append, List.append_nil, List.set_cons_zero, List.set_cons_succ, List.drop_zero, List.drop_succ_cons, List.take_succ_cons, List.take_zero, List.take_nil, List.length_append, List.length_set, Nat.reduceAdd, Nat.reduceSub, Nat.reduceMul, Nat.reduceLeDiff, Nat.reduceEqDiff, Nat.reduceBEq, Int.toNat_natCast, Int.natCast_nonneg, if_true, if_false, reduceIte, ite_true, ite_false, true_and, and_true, ne_eq, not_true_eq_false, not_false_eq_true, Bool.false_eq_true, reduceCtorEq, and_self, Nat.zero_add, Nat.add_zero, Nat.le_refl, Bool.not_true, Bool.not_false, decide_true, decide_false, t9]) hp g4 g9 (Gs.one gX) (Gs.one gY) (by rw [hR, hW, ← hit]) (Gs.le gX) (Gs.le gY)
    rw [if_neg hk45] at hW
    have e4 : (q.2 == 4) = false := by simp; omega
    have e5 : (q.2 == 5) = false := by simp; omega
    have g9 : (h1.b ++ [(.cells 44 [.int .i64 q.2, .int .i64 0, .str [], .sl 0 .nil [], .sl 0 .nil []] : Blk)])[h1.b.length]? = some (.cells 44 [.int .i64 q.2, .int .i64 0, .str [], .sl 0 .nil [], .sl 0 .nil []]) := List.getElem?_concat_length
    (refine AX.go0 (And.intro he'' (And.intro hk0 (And.intro hk6 (And.intro @set_new7 (And.intro e1 (And.intro e2 (And.intro e3 (And.intro e4 e5)))))))) ?_)
    exact leaf _ _ q.1 0 [] [] [] _ _ (by simp only [put_app, put_none, init_app, evX_t, evX_c, resA_nil, resA_t, resA_c, tupA_0, tupA_1, tupA_2, astep, bop, uop, loadA, storeA, appA, ssliceA, eqA, eqCells, fillA, rowsA, setCells, A.cells, A.one, A.data, optP_some, List.all_cons, List.all_nil, Bool.and_true, Bool.true_and, Option.map_some, Option.map_none, Option.bind_some, Option.bind_none, Option.getD_some, Option.getD_none, List.map_cons, List.map_nil, List.getD_cons_zero, List.getD_cons_succ, List.getElem?_cons_zero, List.getElem?_cons_succ, List.length_cons, List.length_nil, List.nil_append, List.cons_append, List.append_nil, List.set_cons_zero, List.set_cons_succ, List.drop_zero, List.drop_succ_cons, List.take_succ_cons, List.take_zero, List.take_nil, List.length_append, List.length_set, Nat.reduceAdd, Nat.reduceSub, Nat.reduceMul, Nat.reduceLeDiff, Nat.reduceEqDiff, Nat.reduceBEq, Int.toNat_natCast, Int.natCast_nonneg, if_true, if_false, reduceIte, ite_true, ite_false, true_and, and_true, ne_eq, not_true_eq_false, not_false_eq_true, Bool.false_eq_true, reduceCtorEq, and_self, Nat.zero_add, Nat.add_zero, Nat.le_refl, Bool.not_true, Bool.not_false, decide_true, decide_false]) (by simp only [put_app, put_none, init_app, evX_t, evX_c, resA_nil, resA_t, resA_c, tupA_0, tupA_1, tupA_2, astep, bop, uop, loadA, storeA, appA, ssliceA, eqA, eqCells, fillA, rowsA, setCells, A.cells, A.one, A.data, optP_some, List.all_cons, List.all_nil, Bool.and_true, Bool.true_and, Option.map_some, Option.map_none, Option.bind_some, Option.bind_none, Option.getD_some, Option.getD_none, List.map_cons, List.map_nil, List.getD_cons_zero, List.getD_cons_succ, List.getElem?_cons_zero, List.getElem?_cons_succ, List.length_cons, List.length_nil, List.nil_append, List.cons_append, List.append_nil, List.set_cons_zero, List.set_cons_succ, List.drop_zero, List.drop_succ_cons, List.take_succ_cons, List.take_zero, List.take_nil, List.length_append, List.length_set, Nat.reduceAdd, Nat.reduceSub, Nat.reduceMul, Nat.reduceLeDiff, Nat.reduceEqDiff, Nat.reduceBEq, Int.toNat_natCast, Int.natCast_nonneg, if_true, if_false, reduceIte, ite_true, ite_false, true_and, and_true, ne_eq, not_true_eq_false, not_false_eq_true, Bool.false_eq_true, reduceCtorEq, and_self, Nat.zero_add, Nat.add_zero, Nat.le_refl, Bool.not_true, Bool.not_false, decide_true, decide_false]) (by simp only [put_app, put_none, init_app, evX_t, evX_c, resA_nil, resA_t, resA_c, tupA_0, tupA_1, tupA_2, astep, bop, uop, loadA, storeA, appA, ssliceA, eqA, eqCells, fillA, rowsA, setCells, A.cells, A.one, A.data, optP_some, List.all_cons, List.all_nil, Bool.and_true, Bool.true_and, Option.map_some, Option.map_none, Option.bind_some, Option.bind_none, Option.getD_some, Option.getD_none, List.map_cons, List.map_nil, List.getD_cons_zero, List.getD_cons_succ, List.getElem?_cons_zero, List.getElem?_cons_succ, List.length_cons, List.length_nil, List.nil_append, List.cons_append, List.append_nil, List.set_cons_zero, List.set_cons_succ, List.drop_zero, List.drop_succ_cons, List.take_succ_cons, List.take_zero, List.take_nil, List.length_append, List.length_set, Nat.reduceAdd, Nat.reduceSub, Nat.reduceMul, Nat.reduceLeDiff, Nat.reduceEqDiff, Nat.reduceBEq, Int.toNat_natCast, Int.natCast_nonneg, if_true, if_false, reduceIte, ite_true, ite_false, true_and, and_true, ne_eq, not_true_eq_false, not_false_eq_true, Bool.false_eq_true, reduceCtorEq, and_self, Nat.zero_add, Nat.add_zero, Nat.le_refl, Bool.not_true, Bool.not_false, decide_true, decide_false]) ⟨get_app7 hq1.1, fun j x hj hx => get_app7 (hq1.2.1 j x hj hx), hq1.2.2⟩ (get_app7 hz1) g9 rfl rfl (by rw [hR, hW, hqe]) hnilX hnilY
end AX
end Go.Proofs.YtkhhnkceiibmfaaGreatDoor

namespace Go.Proofs.YtkhhnkceiibmfaaGreatDoor
open Go.RowKit
set_option linter.unusedSimpArgs false
set_option linter.unusedVariables false
set_option maxHeartbeats 4000000
theorem Wire.strR_len (r : Wire.St) : (Wire.strR r).2.length ≤ r.rest.length := by
  have := Wire.cntR_rest r 1
  unfold Wire.strR
  dsimp only
  split
  · simp
  · simp; omega
theorem V.lensS_of : ∀ {l : List V}, (∀ x ∈ l, x.lens) → V.lensS l
  | [], _ => by unfold V.lensS; trivial
  | v :: l, h => by
    unfold V.lensS
    exact ⟨h v (by simp), V.lensS_of fun x hx => h x (by simp [hx])⟩
theorem V.lens_of {k n : Int} {s : List UInt8} {is : List V} {ks : List (List UInt8)} (h1 : is.length ≤ 1000000000) (h2 : ks.length ≤ 1000000000) (h3 : s.length ≤ 1000000000) (h4 : ∀ q ∈ ks, q.length ≤ 1000000000) (h5 : ∀ x ∈ is, x.lens) : (V.mk k n s is ks).lens := by
  unfold V.lens
  simp only [maxLen]
  exact ⟨by omega, by omega, by omega, fun q hq => by have := h4 q hq; omega, V.lensS_of h5⟩
namespace Val
theorem itemsW_lens {one : Wire.St → Res} (h1 : ∀ r, r.rest.length ≤ 100000000 → (one r).2.2.lens) (hle : ∀ r, (one r).1.rest.length ≤ r.rest.length) (m : Bool) : ∀ (c : Nat) (r : Wire.St) (is : List V) (ks : List (List UInt8)), r.rest.length ≤ 100000000 → (∀ x ∈ is, x.lens) → (∀ k ∈ ks, k.length ≤ 1000000000) →
    (∀ x ∈ (itemsW one m c r is ks).2.2.1, x.lens) ∧ (∀ k ∈ (itemsW one m c r is ks).2.2.2, k.length ≤ 1000000000) ∧ (itemsW one m c r is ks).2.2.1.length ≤ is.length + c ∧ (itemsW one m c r is ks).2.2.2.length ≤ ks.length + c
  | 0, r, is, ks, hr, hi, hk => by rw [itemsW]; exact ⟨hi, hk, Nat.le_refl _, Nat.le_refl _⟩
  | c + 1, r, is, ks, hr, hi, hk => by
    obtain ⟨q, hqe⟩ : ∃ q, q = if m then Wire.strR r else (r, []) := ⟨_, rfl⟩
    have hq : q.1.rest.length ≤ r.rest.length ∧ q.2.length ≤ r.rest.length := by
      rw [hqe]
      split
      · exact ⟨Wire.strR_rest r, Wire.strR_len r⟩
      · exact ⟨Nat.le_refl _, by simp⟩
    rw [itemsW_step one m c r is ks q hqe]
    have h2 := hle q.1
    split
    · exact ⟨hi, hk, by simp, by simp⟩
    · have ih := itemsW_lens h1 hle m c (one q.1).1 (is ++ [(one q.1).2.2]) (if m then ks ++ [q.2] else ks) (by omega) (fun x hx => by
        rcases List.mem_append.1 hx with hx | hx
        · exact hi x hx
        · rw [List.mem_singleton.1 hx]; exact h1 _ (by omega)) (fun k hkk => by
        split at hkk
        · rcases List.mem_append.1 hkk with hkk | hkk
          · exact hk k hkk
          · rw [List.mem_singleton.1 hkk]; omega
        · exact hk k hkk)
      refine ⟨ih.1, ih.2.1, ?_, ?_⟩
      · have := ih.2.2.1
        simp only [List.length_append, List.length_cons, List.length_nil] at this
        omega
      · have := ih.2.2.2
        have hl : (if m then ks ++ [q.2] else ks).length ≤ ks.length + 1 := by split <;> simp
        omega
theorem zero_lens : zeroV.lens := V.lens_of (by simp) (by simp) (by simp) (by simp) (by simp)
theorem read_lens : ∀ (f : Nat) (r : Wire.St), r.rest.length ≤ 100000000 → (read f r).2.2.lens
  | 0, r, hr => by rw [read]; exact zero_lens
  | f + 1, r, hr => by
    have ih := read_lens f
    have hn := Wire.numR_rest r
    have hs2 := Wire.strR_len (Wire.numR r).1
    have hc2 := Wire.cntR_rest (Wire.numR r).1 1
    have hc3 := Wire.cntR_cnt (Wire.numR r).1
    have hi2 := itemsW_lens ih (read_le f) ((Wire.numR r).2 == 5) (Wire.cntR (Wire.numR r).1 1).2 (Wire.cntR (Wire.numR r).1 1).1 [] [] (by omega) (by simp) (by simp)
    simp only [List.length_nil] at hi2
    rw [read]
    unfold readW
    dsimp only
    split
    · exact zero_lens
    · split
      · exact zero_lens
      · split
        · exact zero_lens
        · split
          · exact V.lens_of (by simp) (by simp) (by simp) (by simp) (by simp)
          · split
            · exact V.lens_of (by simp) (by simp) (by omega) (by simp) (by simp)
            · split
              · exact V.lens_of (by omega) (by omega) (by simp) hi2.2.1 hi2.1
              · exact V.lens_of (by simp) (by simp) (by simp) (by simp) (by simp)
end Val
namespace AX
def c_ReadValue : AX.AFn := ⟨20, .seq (.reg false [⟨some 2, .alloc 44 [.int .i64 0, .int .i64 0, .str [], .sl 0 .nil [], .sl 0 .nil []], none, []⟩, ⟨some 3, .mv (.c (.int .i64 0)), none, []⟩]) (.seq (.reg false [⟨some 7, .mv (.t 0), none, []⟩, ⟨some 8, .call 234 [.t 7, .c (.int .i64 1)], none, []⟩, ⟨some 6, .mv (.t 8), none, []⟩, ⟨some 9, .extract (.t 6) 0, none, []⟩, ⟨some 10, .extract (.t 6) 1, none, []⟩, ⟨some 4, .alloc 44 [.int .i64 0, .int .i64 0, .str [], .sl 0 .nil [], .sl 0 .nil []], none, []⟩, ⟨none, .store 5 (.t 4) (.t 9), none, []⟩, ⟨some 5, .mv (.t 10), none, []⟩]) (.seq (.seq (.reg false [⟨some 11, .mv (.t 5), none, []⟩, ⟨some 12, .bin .eql (.t 11) (.c (.int .i64 0)), none, []⟩]) (.cond (.t 12) (.reg false [⟨some 13, .load true 5 (.t 4), none, []⟩, ⟨some 14, .call 104 [.t 13], none, []⟩, ⟨some 5, .mv (.t 14), none, []⟩]) (.skip))) (.seq (.seq (.reg false [⟨some 15, .mv (.t 5), none, []⟩, ⟨some 16, .bin .neq (.t 15) (.c (.int .i64 0)), none, []⟩]) (.cond (.t 16) (.seq (.reg false [⟨some 17, .build [.int .i64 0, .int .i64 0, .str [], .sl 0 .nil [], .sl 0 .nil []] [], none, []⟩, ⟨some 18, .mv (.t 5), none, []⟩, ⟨none, .store 5 (.t 2) (.t 17), none, []⟩, ⟨some 3, .mv (.t 18), none, []⟩]) (.ret)) (.skip))) (.seq (.reg false [⟨some 19, .load true 5 (.t 4), none, []⟩, ⟨none, .store 5 (.t 2) (.t 19), none, []⟩, ⟨some 3, .mv (.c (.int .i64 0)), none, []⟩]) (.ret))))), [.c 2 true 5, .t 3]⟩
theorem h_ReadValue : AX.compFn Tryz.prog 186 = some c_ReadValue := by kernel_rfl

theorem a_ReadValue (r : Wire.St) (i : Nat) (h : Hp) (hbi : h.b[i]? = some (rdr r)) (hlen : r.rest.length ≤ 100000000) : ACall Tryz.prog GT 186 [.ptr i 0] h fun v h' => v = .tup [(Val.readValue r).2.2.A, .int .i64 (Val.readValue r).2.1] ∧ RQ i (Val.readValue r).1 h h' := by
  obtain ⟨hb, ht⟩ := h
  refine acall_of mixedT h_ReadValue (by simp [c_ReadValue]) ?_
  dsimp only [c_ReadValue]
  have hil : i < hb.length := (List.getElem?_eq_some_iff.1 hbi).1
  have hR : Val.readValue r = if (Val.read 32 r).2.1 ≠ 0 then ((Val.read 32 r).1, (Val.read 32 r).2.1, Val.zeroV) else if Val.checkZ (Val.read 32 r).2.2 ≠ 0 then ((Val.read 32 r).1, Val.checkZ (Val.read 32 r).2.2, Val.zeroV) else Val.read 32 r := by rw [Val.readValue]
  have hlens := Val.read_lens 32 r hlen
  (refine AX.go0 True.intro ?_)
  (refine AX.gc0 True.intro ?_)
  refine (t_read 32 r i _ (Nat.le_refl _) (get_app7 hbi) hlen).mono ?_
  rintro v h1 ⟨⟨l3, rfl, hl3, ho3, hv3⟩, hp⟩
  obtain ⟨x, hx⟩ : ∃ x, Val.read 32 r = x := ⟨_, rfl⟩
  rw [hx] at hR hv3 hp hlens ⊢
  obtain ⟨a0, a1, a2, a3, a4, rfl⟩ := list5 hl3
  have g2 : h1.b[hb.length]? = some (.cells 44 [.int .i64 0, .int .i64 0, .str [], .sl 0 .nil [], .sl 0 .nil []]) := hp.2.1 _ _ (by omega) List.getElem?_concat_length
  have hl2 : hb.length < h1.b.length := (List.getElem?_eq_some_iff.1 g2).1
  have hib : i ≠ hb.length := by omega
  have h2n : ∀ y, (h1.b ++ [y])[hb.length]? = _ := fun y => get_app7 g2
  have hs2 : ∀ y z, ((h1.b ++ [y]).set hb.length z)[hb.length]? = some z := fun y z => by
    rw [List.getElem?_set, if_pos rfl, if_pos (by simp; omega)]
  have hout : ∀ y z, RQ i x.1 ⟨hb, ht⟩ ⟨(h1.b ++ [y]).set hb.length z, h1.t⟩ := fun y z =>
    RQ.set (h := ⟨hb, ht⟩) (h' := ⟨h1.b ++ [y], h1.t⟩) ⟨get_app7 hp.1, fun j w hj hw => get_app7 (hp.2.1 j w hj (get_app7 hw)), hp.2.2⟩ (Nat.le_refl _) hib _ _ rfl
  simp only [List.all_cons, List.all_nil, Bool.and_true, Bool.and_eq_true, A.one] at ho3
  obtain ⟨o0, o1, o2, o3, o4⟩ := ho3
  by_cases hx0 : x.2.1 = 0
  rotate_left
  · have e1 : (x.2.1 == 0) = false := by simp [hx0]
    have e2 : (x.2.1 != 0) = true := by simp [hx0]
    rw [if_pos hx0] at hR
    (refine AX.go0 (And.intro @set_new7 (And.intro o0 (And.intro o1 (And.intro o2 (And.intro o3 (And.intro o4 (And.intro e1 (And.intro e2 (And.intro h2n hs2))))))))) ?_)
    rw [hR]
    exact ⟨_, le_zero x.2.1, rfl, hout _ _⟩
  have e1 : (x.2.1 == 0) = true := by simp [hx0]
  rw [if_neg (by simp [hx0])] at hR
  have hv := hv3 hx0
  (refine AX.go0 (And.intro @set_new7 (And.intro o0 (And.intro o1 (And.intro o2 (And.intro o3 (And.intro o4 (And.intro e1 (And.intro h2n hs2)))))))) ?_)
  (refine AX.gc0 @set_new7 ?_)
  have hck := fun h => a_vCheck x.2.2 hlens h
  rw [V.A, ← hv] at hck
  refine (hck _).mono ?_
  rintro v h2 ⟨rfl, rfl⟩
  by_cases hz : Val.checkZ x.2.2 = 0
  · rw [if_neg (by simp [hz])] at hR
    have e2 : (Val.checkZ x.2.2 != 0) = false := by simp [hz]
    (refine AX.go0 (And.intro @set_new7 (And.intro o0 (And.intro o1 (And.intro o2 (And.intro o3 (And.intro o4 (And.intro e2 (And.intro h2n hs2)))))))) ?_)
    rw [hR]
    refine ⟨_, le_refl _, ?_, hout _ _⟩
    rw [tupA_2, V.A, ← hv, hx0]
  · rw [if_pos hz] at hR
    have e2 : (Val.checkZ x.2.2 != 0) = true := by simp [hz]
    (refine AX.go0 (And.intro @set_new7 (And.intro o0 (And.intro o1 (And.intro o2 (And.intro o3 (And.intro o4 (And.intro e2 (And.intro h2n hs2)))))))) ?_)
    rw [hR]
    exact ⟨_, le_zero (Val.checkZ x.2.2), rfl, hout _ _⟩
end AX
end Go.Proofs.YtkhhnkceiibmfaaGreatDoor

namespace Go.Proofs.YtkhhnkceiibmfaaGreatDoor
open Go.RowKit
set_option linter.unusedSimpArgs false
set_option linter.unusedVariables false
set_option maxHeartbeats 4000000
namespace AX
def c_newReader : AX.AFn := ⟨7, .seq (.reg false [⟨some 2, .mv (.c (.nilp)), none, []⟩]) (.seq (.reg false [⟨some 3, .mv (.t 0), none, []⟩, ⟨some 4, .build [.str [], .int .i64 0, .bool false] [(0, 1, .t 3), (2, 1, .c (.bool true))], none, []⟩, ⟨some 5, .build [.str [], .int .i64 0, .bool false] [(0, 3, .t 4)], none, []⟩, ⟨some 6, .box 175 (.t 5), none, []⟩, ⟨some 2, .mv (.t 6), none, []⟩]) (.ret)), [.t 2]⟩
theorem h_newReader : AX.compFn Tryz.prog 65 = some c_newReader := by kernel_rfl

theorem a_newReader (l : List UInt8) (h : Hp) : ACall Tryz.prog GT 65 [.str l] h fun v h' => v = .ptr h.b.length 0 ∧ h' = ⟨h.b ++ [rdr ⟨l, 0⟩], h.t⟩ := by
  refine acall_of mixedT h_newReader (by simp [c_newReader]) ?_
  dsimp only [c_newReader]
  (refine AX.go0 True.intro ?_)
  exact ⟨_, le_refl _, rfl, rfl⟩
/-- awake answers true, and leaves what was. -/
def Awake : Prop := ∀ h, ACall Tryz.prog GT 14 [] h fun v h' => v = .bool true ∧ h' = h
theorem rdr_loc (r : Wire.St) : (rdr r).loc 0 := rfl
theorem a_readValue1 {h : Hp} {i : Nat} {r : Wire.St} (hb : h.b[i]? = some (rdr r)) (hlen : r.rest.length ≤ 100000000) : ACall Tryz.prog GT 186 [.ptr i 0] h fun v h' => v = .tup [(Val.readValue r).2.2.A, .int .i64 (Val.readValue r).2.1] ∧ h' = ⟨h.b.set i (rdr (Val.readValue r).1), h.t⟩ := by
  have h1 : ACall Tryz.prog GT 186 [.ptr 0 0] ⟨[rdr r], []⟩ fun v h' => ∃ b', h'.b[0]? = some b' ∧ v = .tup [(Val.readValue r).2.2.A, .int .i64 (Val.readValue r).2.1] ∧ b' = rdr (Val.readValue r).1 :=
    (a_ReadValue r 0 ⟨[rdr r], []⟩ rfl hlen).mono fun v h' ⟨e, hp⟩ => ⟨_, hp.1, e, rfl⟩
  refine (ACall.lift1 h1 rfl (rdr_loc r) ?_ hb).mono ?_
  · rintro v b' ⟨rfl, rfl⟩
    refine ⟨?_, rdr_loc _⟩
    obtain ⟨k, n, s, is, ks⟩ := (Val.readValue r).2.2
    rfl
  · rintro v h' ⟨b', ⟨rfl, rfl⟩, rfl⟩
    exact ⟨rfl, rfl⟩
theorem readValue_lens (r : Wire.St) (hlen : r.rest.length ≤ 100000000) : (Val.readValue r).2.2.lens := by
  unfold Val.readValue
  dsimp only
  split
  · exact Val.zero_lens
  · split
    · exact Val.zero_lens
    · exact Val.read_lens 32 r hlen
end AX
end Go.Proofs.YtkhhnkceiibmfaaGreatDoor

namespace Go.Proofs.YtkhhnkceiibmfaaGreatDoor
open Go.RowKit
set_option linter.unusedSimpArgs false
set_option linter.unusedVariables false
set_option maxHeartbeats 4000000
namespace AX
def c_hasPrefix : AX.AFn := ⟨8, .seq (.reg false [⟨some 4, .mv (.c (.bool false)), none, []⟩]) (.seq (.reg false [⟨some 5, .mv (.t 0), none, []⟩, ⟨some 6, .mv (.t 1), none, []⟩, ⟨some 7, .call 122 [.t 5, .t 6], none, []⟩, ⟨some 4, .mv (.t 7), none, []⟩]) (.ret)), [.t 4]⟩
theorem h_hasPrefix : AX.compFn Tryz.prog 63 = some c_hasPrefix := by kernel_rfl
def c_liteHasPrefix : AX.AFn := ⟨18, .seq (.reg false [⟨some 4, .mv (.c (.bool false)), none, []⟩]) (.seq (.reg false [⟨some 5, .mv (.t 0), none, []⟩, ⟨some 6, .len true (.t 5), none, []⟩, ⟨some 7, .mv (.t 1), none, []⟩, ⟨some 8, .len true (.t 7), none, []⟩, ⟨some 9, .bin .geq (.t 6) (.t 8), none, []⟩, ⟨some 10, .mv (.t 9), none, []⟩, ⟨some 11, .mv (.t 0), some (10, true), []⟩, ⟨some 12, .mv (.t 1), some (10, true), []⟩, ⟨some 13, .len true (.t 12), some (10, true), []⟩, ⟨some 14, .ssl (.t 11) none (some (.t 13)), some (10, true), []⟩, ⟨some 15, .mv (.t 1), some (10, true), []⟩, ⟨some 16, .bin .eql (.t 14) (.t 15), some (10, true), []⟩, ⟨some 17, .pick (.t 10) (.t 16) (.c (.bool false)), none, []⟩, ⟨some 4, .mv (.t 17), none, []⟩]) (.ret)), [.t 4]⟩
theorem h_liteHasPrefix : AX.compFn Tryz.prog 122 = some c_liteHasPrefix := by kernel_rfl
def c_version : AX.AFn := ⟨24, .seq (.reg false [⟨some 2, .mv (.c (.int .i64 0)), none, []⟩, ⟨some 3, .mv (.c (.int .i64 0)), none, []⟩]) (.seq (.seq (.reg false [⟨some 6, .mv (.t 0), none, []⟩, ⟨some 7, .call 63 [.t 6, .c (.str [80, 86, 83, 84])], none, []⟩, ⟨some 8, .un .not (.t 7), none, []⟩]) (.cond (.t 8) (.seq (.reg false [⟨some 2, .mv (.c (.int .i64 0)), none, []⟩, ⟨some 3, .mv (.c (.int .i64 2)), none, []⟩]) (.ret)) (.skip))) (.seq (.reg false [⟨some 9, .mv (.t 0), none, []⟩, ⟨some 10, .ssl (.t 9) (some (.c (.int .i64 4))) none, none, []⟩, ⟨some 11, .call 65 [.t 10], none, []⟩, ⟨some 4, .mv (.t 11), none, []⟩]) (.seq (.reg false [⟨some 12, .mv (.t 4), none, []⟩, ⟨some 13, .call 66 [.t 12], none, []⟩, ⟨some 5, .mv (.t 13), none, []⟩]) (.seq (.seq (.reg false [⟨some 14, .mv (.t 4), none, []⟩, ⟨some 15, .call 74 [.t 14], none, []⟩, ⟨some 16, .bin .neq (.t 15) (.c (.int .i64 0)), none, []⟩]) (.cond (.t 16) (.seq (.reg false [⟨some 2, .mv (.c (.int .i64 0)), none, []⟩, ⟨some 3, .mv (.c (.int .i64 2)), none, []⟩]) (.ret)) (.skip))) (.seq (.seq (.reg false [⟨some 17, .mv (.t 5), none, []⟩, ⟨some 18, .bin .neq (.t 17) (.c (.int .i64 1)), none, []⟩, ⟨some 19, .mv (.t 18), none, []⟩, ⟨some 20, .mv (.t 5), some (19, true), []⟩, ⟨some 21, .bin .neq (.t 20) (.c (.int .i64 2)), some (19, true), []⟩, ⟨some 22, .pick (.t 19) (.t 21) (.c (.bool false)), none, []⟩]) (.cond (.t 22) (.seq (.reg false [⟨some 2, .mv (.c (.int .i64 0)), none, []⟩, ⟨some 3, .mv (.c (.int .i64 21)), none, []⟩]) (.ret)) (.skip))) (.seq (.reg false [⟨some 23, .mv (.t 5), none, []⟩, ⟨some 2, .mv (.t 23), none, []⟩, ⟨some 3, .mv (.c (.int .i64 0)), none, []⟩]) (.ret))))))), [.t 2, .t 3]⟩
theorem h_version : AX.compFn Tryz.prog 21 = some c_version := by kernel_rfl

theorem a_liteHasPrefix (s p : List UInt8) (h : Hp) : ACall Tryz.prog GT 122 [.str s, .str p] h fun r h' => r = .bool (decide (p.length ≤ s.length) && s.take p.length == p) ∧ h' = h := by
  refine pcall ?_ rfl (by simp [A.pure, A.data]) h
  refine acall_of mixedT h_liteHasPrefix (by simp [c_liteHasPrefix]) ?_
  dsimp only [c_liteHasPrefix]
  by_cases hl : p.length ≤ s.length
  · have h1 : (s.length : Int) ≥ (p.length : Int) := by omega
    have h2 : (p.length : Int) ≤ (s.length : Int) := by omega
    (refine AX.go0 (And.intro h1 h2) ?_)
    exact ⟨_, le_refl _, by rw [tupA_1, decide_eq_true hl]; rfl⟩
  · have h1 : ¬ (s.length : Int) ≥ (p.length : Int) := by omega
    (refine AX.go0 h1 ?_)
    exact ⟨_, le_refl _, by rw [tupA_1, decide_eq_false hl]; rfl⟩
theorem a_hasPrefix (s p : List UInt8) (h : Hp) : ACall Tryz.prog GT 63 [.str s, .str p] h fun r h' => r = .bool (decide (p.length ≤ s.length) && s.take p.length == p) ∧ h' = h := by
  refine pcall ?_ rfl (by simp [A.pure, A.data]) h
  refine acall_of mixedT h_hasPrefix (by simp [c_hasPrefix]) ?_
  dsimp only [c_hasPrefix]
  (refine AX.go0 True.intro ?_)
  (refine AX.gc0 True.intro ?_)
  refine (a_liteHasPrefix s p _).mono ?_
  rintro v h1 ⟨rfl, rfl⟩
  (refine AX.go0 True.intro ?_)
  exact ⟨_, le_refl _, rfl⟩
def magic : List UInt8 := [80, 86, 83, 84]
def preB (s : List UInt8) : Bool := decide (magic.length ≤ s.length) && s.take magic.length == magic
def versionS (s : List UInt8) : Int × Int :=
  if preB s = false then (0, 2) else
  let r := Wire.numR ⟨s.drop 4, 0⟩
  if r.1.e ≠ 0 then (0, 2) else if r.2 ≠ 1 ∧ r.2 ≠ 2 then (0, 21) else (r.2, 0)
theorem a_version (s : List UInt8) (hs : s.length ≤ 100000000) (h : Hp) : ACall Tryz.prog GT 21 [.str s] h fun r h' => r = .tup [.int .i64 (versionS s).1, .int .i64 (versionS s).2] ∧ h' = h := by
  refine pcall ?_ rfl (by simp [A.pure, A.data]) h
  refine acall_of mixedT h_version (by simp [c_version]) ?_
  dsimp only [c_version]
  (refine AX.go0 True.intro ?_)
  (refine AX.gc0 True.intro ?_)
  refine (a_hasPrefix s magic _).mono ?_
  rintro v h1 ⟨rfl, rfl⟩
  have hV : versionS s = if preB s = false then (0, 2) else if (Wire.numR ⟨s.drop 4, 0⟩).1.e ≠ 0 then (0, 2) else if (Wire.numR ⟨s.drop 4, 0⟩).2 ≠ 1 ∧ (Wire.numR ⟨s.drop 4, 0⟩).2 ≠ 2 then (0, 21) else ((Wire.numR ⟨s.drop 4, 0⟩).2, 0) := rfl
  rcases bool_or (preB s) with hp | hp
  rotate_left
  · rw [if_pos hp] at hV
    unfold preB at hp
    rw [hp, hV]
    (refine AX.go0 True.intro ?_)
    exact ⟨_, le_refl _, rfl⟩
  · rw [if_neg (by simp [hp])] at hV
    have hl4 : (4 : Int) ≤ (s.length : Int) := by
      unfold preB at hp
      simp only [Bool.and_eq_true, decide_eq_true_eq] at hp
      have := hp.1
      simp only [magic, List.length_cons, List.length_nil] at this
      omega
    unfold preB at hp
    rw [hp]
    have h04 : (0 : Int) ≤ 4 := by decide
    have h4 : (4 : Int).toNat = 4 := rfl
    (refine AX.go0 (And.intro hl4 (And.intro h04 h4)) ?_)
    (refine AX.gc0 True.intro ?_)
    refine (a_newReader (s.drop 4) _).mono ?_
    rintro v h1 ⟨rfl, rfl⟩
    (refine AX.go0 True.intro ?_)
    (refine AX.gc0 True.intro ?_)
    refine (a_number (i := 0) (r := ⟨s.drop 4, 0⟩) rfl (by simp; omega)).mono ?_
    rintro v h1 ⟨rfl, rfl⟩
    (refine AX.go0 True.intro ?_)
    (refine AX.gc0 True.intro ?_)
    refine (a_err (i := 0) (r := (Wire.numR ⟨s.drop 4, 0⟩).1) rfl).mono ?_
    rintro v h1 ⟨rfl, rfl⟩
    obtain ⟨q, hq⟩ : ∃ q, Wire.numR ⟨s.drop 4, 0⟩ = q := ⟨_, rfl⟩
    rw [hq] at hV ⊢
    by_cases he : q.1.e = 0
    rotate_left
    · have e1 : (q.1.e != 0) = true := by simp [he]
      rw [if_pos he] at hV
      rw [hV]
      (refine AX.go0 e1 ?_)
      exact ⟨_, le_refl _, rfl⟩
    · have e1 : (q.1.e != 0) = false := by simp [he]
      rw [if_neg (by simp [he])] at hV
      by_cases h1 : q.2 = 1
      · have e2 : (q.2 != 1) = false := by simp [h1]
        rw [if_neg (by simp [h1])] at hV
        rw [hV]
        (refine AX.go0 (And.intro e1 e2) ?_)
        exact ⟨_, le_refl _, rfl⟩
      · have e2 : (q.2 != 1) = true := by simp [h1]
        by_cases h2 : q.2 = 2
        · have e3 : (q.2 != 2) = false := by simp [h2]
          rw [if_neg (by simp [h2])] at hV
          rw [hV]
          (refine AX.go0 (And.intro e1 (And.intro e2 e3)) ?_)
          exact ⟨_, le_refl _, rfl⟩
        · have e3 : (q.2 != 2) = true := by simp [h2]
          rw [if_pos ⟨h1, h2⟩] at hV
          rw [hV]
          (refine AX.go0 (And.intro e1 (And.intro e2 e3)) ?_)
          exact ⟨_, le_refl _, rfl⟩
end AX
end Go.Proofs.YtkhhnkceiibmfaaGreatDoor

namespace Go.Proofs.YtkhhnkceiibmfaaGreatDoor
open Go.RowKit
set_option linter.unusedSimpArgs false
set_option linter.unusedVariables false
set_option maxHeartbeats 4000000
namespace AX
def c_wstate : AX.AFn := ⟨99, .seq (.reg false [⟨some 3, .box 26 (.t 1), none, []⟩]) (.seq (.reg false [⟨some 10, .mv (.t 0), none, []⟩, ⟨some 11, .nilck (.t 10), none, []⟩, ⟨some 12, .faddr 0 (.t 11), none, []⟩, ⟨some 13, .call 175 [.t 12, .c (.str [80, 86, 83, 84])], none, []⟩]) (.seq (.reg false [⟨some 14, .mv (.t 0), none, []⟩, ⟨some 15, .mv (.t 0), none, []⟩, ⟨some 16, .nilck (.t 15), none, []⟩, ⟨some 17, .faddr 2 (.t 16), none, []⟩, ⟨some 18, .load false 1 (.t 17), none, []⟩, ⟨some 19, .call 173 [.t 14, .t 18], none, []⟩]) (.seq (.reg false [⟨some 20, .mv (.t 0), none, []⟩, ⟨some 21, .faddr 0 (.t 3), none, []⟩, ⟨some 22, .load false 1 (.t 21), none, []⟩, ⟨some 23, .call 174 [.t 20, .t 22], none, []⟩]) (.seq (.reg false [⟨some 24, .mv (.t 0), none, []⟩, ⟨some 25, .faddr 1 (.t 3), none, []⟩, ⟨some 26, .load false 1 (.t 25), none, []⟩, ⟨some 27, .call 173 [.t 24, .t 26], none, []⟩]) (.seq (.reg false [⟨some 28, .mv (.t 0), none, []⟩, ⟨some 29, .faddr 2 (.t 3), none, []⟩, ⟨some 30, .load false 1 (.t 29), none, []⟩, ⟨some 31, .len false (.t 30), none, []⟩, ⟨some 32, .call 173 [.t 28, .t 31], none, []⟩]) (.seq (.seq (.reg false [⟨some 33, .faddr 2 (.t 3), none, []⟩, ⟨some 34, .load false 1 (.t 33), none, []⟩, ⟨some 35, .len false (.t 34), none, []⟩, ⟨some 36, .mv (.c (.int .i64 0)), none, []⟩]) (.block 0 (.loop (.seq (.reg false [⟨some 37, .bin .lss (.t 36) (.t 35), none, []⟩]) (.seq (.cond (.t 37) (.skip) (.exit 0)) (.seq (.block 1 (.seq (.reg false [⟨some 38, .iaddr 13 (.t 34) (.t 36), none, []⟩, ⟨some 39, .load true 13 (.t 38), none, []⟩, ⟨some 5, .alloc 46 [.str [], .str [], .str [], .str [], .int .i64 0, .int .i64 0, .str [], .sl 0 .nil [], .sl 0 .nil [], .int .i64 0, .bool false, .bool false, .sl 0 .nil []], none, []⟩, ⟨none, .store 13 (.t 5) (.t 39), none, []⟩]) (.reg false [⟨some 40, .mv (.t 0), none, []⟩, ⟨some 41, .load true 13 (.t 5), none, []⟩, ⟨some 42, .call 176 [.t 40, .t 41], none, []⟩]))) (.reg false [⟨some 43, .bin .add (.t 36) (.c (.int .i64 1)), none, []⟩, ⟨some 36, .mv (.t 43), none, []⟩]))))))) (.seq (.seq (.reg false [⟨some 44, .mv (.t 0), none, []⟩, ⟨some 45, .nilck (.t 44), none, []⟩, ⟨some 46, .faddr 2 (.t 45), none, []⟩, ⟨some 47, .load false 1 (.t 46), none, []⟩, ⟨some 48, .bin .eql (.t 47) (.c (.int .i64 2)), none, []⟩]) (.cond (.t 48) (.seq (.reg false [⟨some 49, .mv (.t 0), none, []⟩, ⟨some 50, .faddr 3 (.t 3), none, []⟩, ⟨some 51, .load false 1 (.t 50), none, []⟩, ⟨some 52, .len false (.t 51), none, []⟩, ⟨some 53, .call 173 [.t 49, .t 52], none, []⟩]) (.seq (.reg false [⟨some 54, .faddr 3 (.t 3), none, []⟩, ⟨some 55, .load false 1 (.t 54), none, []⟩, ⟨some 56, .len false (.t 55), none, []⟩, ⟨some 57, .mv (.c (.int .i64 0)), none, []⟩]) (.block 2 (.loop (.seq (.reg false [⟨some 58, .bin .lss (.t 57) (.t 56), none, []⟩]) (.seq (.cond (.t 58) (.skip) (.exit 2)) (.seq (.block 3 (.seq (.reg false [⟨some 59, .iaddr 3 (.t 55) (.t 57), none, []⟩, ⟨some 60, .load true 3 (.t 59), none, []⟩, ⟨some 7, .alloc 121 [.str [], .str [], .str []], none, []⟩, ⟨none, .store 3 (.t 7) (.t 60), none, []⟩]) (.seq (.reg false [⟨some 61, .mv (.t 0), none, []⟩, ⟨some 62, .faddr 0 (.t 7), none, []⟩, ⟨some 63, .load false 1 (.t 62), none, []⟩, ⟨some 64, .call 174 [.t 61, .t 63], none, []⟩]) (.seq (.reg false [⟨some 65, .mv (.t 0), none, []⟩, ⟨some 66, .faddr 1 (.t 7), none, []⟩, ⟨some 67, .load false 1 (.t 66), none, []⟩, ⟨some 68, .call 174 [.t 65, .t 67], none, []⟩]) (.reg false [⟨some 69, .mv (.t 0), none, []⟩, ⟨some 70, .faddr 2 (.t 7), none, []⟩, ⟨some 71, .load false 1 (.t 70), none, []⟩, ⟨some 72, .call 174 [.t 69, .t 71], none, []⟩]))))) (.reg false [⟨some 73, .bin .add (.t 57) (.c (.int .i64 1)), none, []⟩, ⟨some 57, .mv (.t 73), none, []⟩])))))))) (.skip))) (.seq (.reg false [⟨some 74, .mv (.t 0), none, []⟩, ⟨some 75, .faddr 4 (.t 3), none, []⟩, ⟨some 76, .load false 1 (.t 75), none, []⟩, ⟨some 77, .len false (.t 76), none, []⟩, ⟨some 78, .call 173 [.t 74, .t 77], none, []⟩]) (.seq (.reg false [⟨some 79, .faddr 4 (.t 3), none, []⟩, ⟨some 80, .load false 1 (.t 79), none, []⟩, ⟨some 81, .len false (.t 80), none, []⟩, ⟨some 82, .mv (.c (.int .i64 0)), none, []⟩]) (.block 4 (.loop (.seq (.reg false [⟨some 83, .bin .lss (.t 82) (.t 81), none, []⟩]) (.seq (.cond (.t 83) (.skip) (.exit 4)) (.seq (.block 5 (.seq (.reg false [⟨some 84, .iaddr 7 (.t 80) (.t 82), none, []⟩, ⟨some 85, .load true 7 (.t 84), none, []⟩, ⟨some 9, .alloc 123 [.str [], .int .i64 0, .int .i64 0, .str [], .sl 0 .nil [], .sl 0 .nil [], .bool false], none, []⟩, ⟨none, .store 7 (.t 9) (.t 85), none, []⟩]) (.seq (.reg false [⟨some 86, .mv (.t 0), none, []⟩, ⟨some 87, .faddr 0 (.t 9), none, []⟩, ⟨some 88, .load false 1 (.t 87), none, []⟩, ⟨some 89, .call 174 [.t 86, .t 88], none, []⟩]) (.seq (.reg false [⟨some 90, .mv (.t 0), none, []⟩, ⟨some 91, .faddr 1 (.t 9), none, []⟩, ⟨some 92, .load true 5 (.t 91), none, []⟩, ⟨some 93, .call 110 [.t 90, .t 92], none, []⟩]) (.reg false [⟨some 94, .mv (.t 0), none, []⟩, ⟨some 95, .faddr 6 (.t 9), none, []⟩, ⟨some 96, .load false 1 (.t 95), none, []⟩, ⟨some 97, .call 177 [.t 94, .t 96], none, []⟩]))))) (.reg false [⟨some 98, .bin .add (.t 82) (.c (.int .i64 1)), none, []⟩, ⟨some 82, .mv (.t 98), none, []⟩]))))))))))))))), []⟩
theorem h_wstate : AX.compFn Tryz.prog 112 = some c_wstate := by kernel_rfl

theorem go_once {P : Program} {G : World → Prop} {c : ACode} {Q : AExit → Ts → Hp → Prop} {ts : Ts} {h : Hp} (k : awp P G c (thenA (fun _ _ => False) Q) ts h) : awp P G (.loop c) Q ts h := ⟨1, k⟩
theorem WP.bx {i : Nat} {ver : Int} {l : List UInt8} {h h' : Hp} (hp : WP i ver l h h') (h0 : l ≠ []) : h'.b[i]? = some (wtr ver l) := by
  rcases hp.1 with h1 | ⟨h1, _⟩
  · exact h1
  · exact absurd h1 h0
def state0 (ver : Int) (s : List UInt8) (n : Int) : List UInt8 := magic ++ Wire.num ver ++ Wire.strE s ++ Wire.num n ++ Wire.num 0 ++ (if ver = 2 then Wire.num 0 else []) ++ Wire.num 0
theorem a_wstate0 {h : Hp} {i : Nat} {ver : Int} (hw : Wt h i ver []) (s : List UInt8) (n : Int) (hs : s.length ≤ 1000000) (h0 : -9223372036854775808 ≤ n) (h1 : n ≤ 9223372036854775807) (hv : ver = 1 ∨ ver = 2) :
    ACall Tryz.prog GT 112 [.ptr i 0, .agg [.str s, .int .i64 n, .sl 0 .nil [], .sl 0 .nil [], .sl 0 .nil []]] h fun _ h' => WP i ver (state0 ver s n) h h' := by
  obtain ⟨hb, ht⟩ := h
  refine acall_of mixedT h_wstate (by simp [c_wstate]) ?_
  dsimp only [c_wstate]
  have hne : hb.length ≠ i := by have := hw.lt; simp at this; omega
  have hml : magic.length = 4 := rfl
  (refine AX.go0 True.intro ?_)
  (refine AX.gc0 True.intro ?_)
  refine (a_write (hw.app _) magic (by simp [hml])).mono ?_
  rintro v1 h1' ⟨rfl, hh1⟩
  have p1 : WP i ver magic ⟨hb, ht⟩ h1' := by rw [hh1]; exact (WP.of (l' := magic) (hw.app [_])).app
  have b1 : h1'.b[i]? = some (wtr ver magic) := by
    rw [hh1]; show (List.set _ i _)[i]? = _
    rw [List.getElem?_set, if_pos rfl, if_pos (hw.app _).lt]; rfl
  have g1 : h1'.b[hb.length]? = some (.cells 26 [.str s, .int .i64 n, .sl 0 .nil [], .sl 0 .nil [], .sl 0 .nil []]) := by
    rw [hh1]; show (List.set _ i _)[_]? = _
    rw [List.getElem?_set, if_neg (Ne.symm hne)]; exact List.getElem?_concat_length
  clear hh1
  (refine AX.goW b1 ?_)
  (refine AX.gc0 True.intro ?_)
  have l1 := num_len ver
  have l2 := num_len s.length
  have l3 := num_len n
  have l4 := num_len 0
  refine (a_wnum p1.1 ver (by rw [hml]; decide) (by omega) (by omega)).mono ?_
  rintro v2 h2 ⟨-, p2⟩
  have g2 := p2.2.2 _ _ hne g1
  (refine AX.go0 g2 ?_)
  (refine AX.gc0 True.intro ?_)
  refine (a_wtext p2.1 s (by simp only [List.length_append, hml]; omega)).mono ?_
  rintro v3 h3 ⟨-, p3⟩
  have g3 := p3.2.2 _ _ hne g2
  (refine AX.go0 g3 ?_)
  (refine AX.gc0 True.intro ?_)
  have l5 : (Wire.strE s).length = (Wire.num s.length).length + s.length := by unfold Wire.strE; rw [List.length_append]
  refine (a_wnum p3.1 n (by simp only [List.length_append, hml]; omega) h0 h1).mono ?_
  rintro v4 h4 ⟨-, p4⟩
  have g4 := p4.2.2 _ _ hne g3
  (refine AX.go0 g4 ?_)
  (refine AX.gc0 True.intro ?_)
  refine (a_wnum p4.1 _ (by simp only [List.length_append, hml]; omega) (by decide) (by decide)).mono ?_
  rintro v5 h5 ⟨-, p5⟩
  have g5 := p5.2.2 _ _ hne g4
  have b5 := p5.bx (by simp [magic])
  have hz : ¬ (0 : Int) < ((0 : Nat) : Int) := by decide
  (refine AX.go0 g5 ?_)
  refine go_once ?_
  have l6 : (Wire.num ((0 : Nat) : Int)).length ≤ 10 := num_len _
  rcases hv with rfl | rfl
  · (refine AX.goW (And.intro g5 (And.intro hz b5)) ?_)
    (refine AX.gc0 True.intro ?_)
    refine (a_wnum p5.1 _ (by simp only [List.length_append, hml]; omega) (by decide) (by decide)).mono ?_
    rintro v6 h6 ⟨-, p6⟩
    have g6 := p6.2.2 _ _ hne g5
    (refine AX.go0 g6 ?_)
    refine go_once ?_
    (refine AX.go0 (And.intro g6 hz) ?_)
    exact ⟨_, le_refl _, by simpa [state0] using p1.tr (p2.tr (p3.tr (p4.tr (p5.tr p6))))⟩
  · (refine AX.goW (And.intro g5 (And.intro hz b5)) ?_)
    (refine AX.gc0 True.intro ?_)
    refine (a_wnum p5.1 _ (by simp only [List.length_append, hml]; omega) (by decide) (by decide)).mono ?_
    rintro v6 h6 ⟨-, p6⟩
    have g6 := p6.2.2 _ _ hne g5
    (refine AX.go0 g6 ?_)
    refine go_once ?_
    (refine AX.go0 (And.intro g6 hz) ?_)
    (refine AX.gc0 True.intro ?_)
    refine (a_wnum p6.1 _ (by simp only [List.length_append, hml]; omega) (by decide) (by decide)).mono ?_
    rintro v7 h7 ⟨-, p7⟩
    have g7 := p7.2.2 _ _ hne g6
    (refine AX.go0 g7 ?_)
    refine go_once ?_
    (refine AX.go0 (And.intro g7 hz) ?_)
    exact ⟨_, le_refl _, by simpa [state0] using p1.tr (p2.tr (p3.tr (p4.tr (p5.tr (p6.tr p7)))))⟩
end AX
end Go.Proofs.YtkhhnkceiibmfaaGreatDoor

namespace Go.Proofs.YtkhhnkceiibmfaaGreatDoor
open Go.Lib
set_option linter.unusedSimpArgs false
set_option linter.unusedVariables false
namespace Num
def valA (n : Nat) (s : List UInt8) : Nat := s.foldl (fun n c => 10 * n + (c.toNat - 48)) n
theorem valA_cons (n : Nat) (c : UInt8) (s : List UInt8) : valA n (c :: s) = valA (10 * n + (c.toNat - 48)) s := by unfold valA; rw [List.foldl_cons]
theorem val_valA (s : List UInt8) : val s = valA 0 s := rfl
theorem valA_ge : ∀ (s : List UInt8) (n : Nat), n * 10 ^ s.length ≤ valA n s
  | [], n => by simp [valA]
  | c :: s, n => by
    rw [valA_cons, List.length_cons, Nat.pow_succ]
    refine Nat.le_trans ?_ (valA_ge s _)
    have e : n * (10 ^ s.length * 10) = (10 * n) * 10 ^ s.length := by
      rw [Nat.mul_comm (10 ^ s.length) 10, ← Nat.mul_assoc, Nat.mul_comm n 10]
    rw [e]
    exact Nat.mul_le_mul_right _ (by omega)
theorem valA_le (s : List UInt8) (n : Nat) : n ≤ valA n s := by
  have h := valA_ge s n
  have h1 : 1 ≤ 10 ^ s.length := Nat.one_le_pow _ _ (by omega)
  exact Nat.le_trans (by simpa using Nat.mul_le_mul_left n h1) h
theorem digB_iff (c : UInt8) : digB c = true ↔ 48 ≤ c.toNat ∧ c.toNat ≤ 57 := by simp [digB]
theorem uintM_digits : ∀ (l : List UInt8) (acc : Nat), l.all digB = true → parseUintM 18446744073709551615 acc l = if valA acc l ≤ 18446744073709551615 then .ok (valA acc l) else if l = [] then .ok acc else .range
  | [], acc, _ => by simp [parseUintM, valA]
  | c :: r, acc, h => by
    rw [List.all_cons, Bool.and_eq_true, digB_iff] at h
    have h1 := valA_le r (10 * acc + (c.toNat - 48))
    rw [valA_cons]
    unfold parseUintM
    rw [if_pos h.1]
    split
    · rw [if_neg (by omega), if_neg (by simp)]
    · split
      · rw [if_neg (by omega), if_neg (by simp)]
      · rw [uintM_digits r _ h.2, Nat.mul_comm acc 10]
        by_cases hv : valA (10 * acc + (c.toNat - 48)) r ≤ 18446744073709551615
        · rw [if_pos hv, if_pos hv]
        · rw [if_neg hv, if_neg hv, if_neg (show ¬ (c :: r = []) by simp)]
          cases r with
          | nil =>
            exfalso
            apply hv
            unfold valA
            rw [List.foldl_nil]
            omega
          | cons d q => rw [if_neg (by simp)]
/-- What is behind the sign. -/
def body (s : List UInt8) : List UInt8 := if s.getD 0 0 == 45 then s.drop 1 else s
def canonB (s : List UInt8) : Bool := digits (body s) && !(s.getD 0 0 == 45 && body s == [48])
theorem digits_long {t : List UInt8} (h : digits t = true) (hl : 16 < t.length) : 9007199254740992 < val t := by
  cases t with
  | nil => simp at hl
  | cons c r =>
    unfold digits at h
    rw [Bool.and_eq_true, Bool.or_eq_true, beq_iff_eq, Bool.and_eq_true, List.all_cons, Bool.and_eq_true, digB_iff] at h
    obtain ⟨⟨h1, h2⟩, h3⟩ := h
    rcases h3 with h3 | h3
    · injection h3 with _ h3; subst h3; simp at hl
    · have h4 : c ≠ 48 := by simpa using h3.2
      have h5 : c.toNat ≠ 48 := fun e => h4 (UInt8.toNat_inj.1 (by simpa using e))
      have h6 := valA_ge r (c.toNat - 48)
      have h7 : 10 ^ 16 ≤ 10 ^ r.length := Nat.pow_le_pow_right (by omega) (by simp at hl; omega)
      have h8 : 1 * 10 ^ r.length ≤ (c.toNat - 48) * 10 ^ r.length := Nat.mul_le_mul_right _ (by omega)
      have e : val (c :: r) = valA (c.toNat - 48) r := by rw [val_valA, valA_cons]; simp
      rw [e]
      have h9 : (10 : Nat) ^ 16 = 10000000000000000 := by decide
      omega
theorem parse_form (s : List UInt8) : parse s = if canonB s = false then (0, 2) else if 9007199254740992 < val (body s) then (0, 5) else (if s.getD 0 0 == 45 then -(val (body s) : Int) else (val (body s) : Int), 0) := by
  have e : parse s = if (!digits (body s) || (s.getD 0 0 == 45 && body s == [48])) = true then (0, 2) else if 16 < (body s).length then (0, 5) else if 9007199254740992 < val (body s) then (0, 5) else (if s.getD 0 0 == 45 then -(val (body s) : Int) else (val (body s) : Int), 0) := rfl
  rw [e]
  unfold canonB
  cases hd : digits (body s)
  · simp
  · cases hm : (s.getD 0 0 == 45 && body s == [48])
    · simp only [Bool.not_true, Bool.or_false, Bool.false_eq_true, if_false, Bool.not_false, Bool.and_self, Bool.true_eq_false]
      split
      · next hl => rw [if_pos (digits_long hd hl)]
      · rfl
    · simp
/-- ParseInt at the decimal form of an integer. -/
theorem parseIntB_canon (s : List UInt8) (h : canonB s = true) :
    (val (body s) ≤ 9007199254740992 ∧ parseIntB 64 s = .ok (if s.getD 0 0 == 45 then -(val (body s) : Int) else (val (body s) : Int))) ∨
    (9007199254740992 < val (body s) ∧ (parseIntB 64 s = .range ∨ ∃ v, parseIntB 64 s = .ok v ∧ ¬ (-9007199254740992 ≤ v ∧ v ≤ 9007199254740992))) := by
  unfold canonB at h
  rw [Bool.and_eq_true] at h
  obtain ⟨hd, _⟩ := h
  cases s with
  | nil => simp [body, digits] at hd
  | cons c r =>
    have hne : body (c :: r) ≠ [] := by
      intro e
      rw [e] at hd
      simp [digits] at hd
    have hall : (body (c :: r)).all digB = true := by
      unfold digits at hd
      rw [Bool.and_eq_true] at hd
      exact hd.1
    have hneg : ((c :: r).getD 0 0 == 45) = decide (c.toNat = 45) := by
      show (c == 45) = _
      rw [Bool.eq_iff_iff, beq_iff_eq, decide_eq_true_eq]
      exact ⟨fun e => by rw [e]; rfl, fun e => UInt8.toNat_inj.1 (by simpa using e)⟩
    have h43 : c.toNat ≠ 43 := by
      intro e
      have e2 : ((c :: r).getD 0 0 == 45) = false := by rw [hneg]; simp [e]
      unfold body at hall
      rw [e2] at hall
      simp only [Bool.false_eq_true, if_false, List.all_cons, Bool.and_eq_true, digB_iff] at hall
      omega
    have hb : (if c.toNat = 43 ∨ c.toNat = 45 then r else c :: r) = body (c :: r) := by
      unfold body
      rw [hneg]
      by_cases e : c.toNat = 45
      · simp [e]
      · simp [e, h43]
    have hu : parseUintB 64 (body (c :: r)) = if val (body (c :: r)) ≤ 18446744073709551615 then .ok (val (body (c :: r))) else .range := by
      unfold parseUintB
      rw [if_neg hne]
      have := uintM_digits _ 0 hall
      rw [if_neg hne, ← val_valA] at this
      exact this
    have hp : parseIntB 64 (c :: r) = match parseUintB 64 (body (c :: r)) with
        | .syntax => .syntax
        | .range => .range
        | .ok u => if ¬ c.toNat = 45 ∧ 2 ^ (64 - 1) ≤ u then .range else if c.toNat = 45 ∧ 2 ^ (64 - 1) < u then .range else .ok (if c.toNat = 45 then -(u : Int) else u) := by
      rw [← hb]; rfl
    rw [hp, hu, hneg]
    have e63 : 2 ^ (64 - 1) = 9223372036854775808 := by decide
    rw [e63]
    generalize val (body (c :: r)) = u
    by_cases hm : u ≤ 9007199254740992
    · refine .inl ⟨hm, ?_⟩
      rw [if_pos (by omega)]
      dsimp only
      rw [if_neg (by omega), if_neg (by omega)]
      simp
    · refine .inr ⟨by omega, ?_⟩
      by_cases h64 : u ≤ 18446744073709551615
      · rw [if_pos h64]
        dsimp only
        split
        · exact .inl rfl
        · split
          · exact .inl rfl
          · refine .inr ⟨_, rfl, ?_⟩
            split <;> omega
      · rw [if_neg h64]
        exact .inl rfl
end Num
end Go.Proofs.YtkhhnkceiibmfaaGreatDoor

namespace Go.Proofs.YtkhhnkceiibmfaaGreatDoor
open Go.RowKit
open Go.Op (bytesLess)
set_option linter.unusedSimpArgs false
set_option linter.unusedVariables false
set_option maxHeartbeats 4000000
namespace Num
theorem digB_int (c : UInt8) : digB c = (decide (48 ≤ (c.toNat : Int)) && decide ((c.toNat : Int) ≤ 57)) := by
  unfold digB
  have e1 : decide (48 ≤ c.toNat) = decide (48 ≤ (c.toNat : Int)) := decide_eq_decide.2 (by omega)
  have e2 : decide (c.toNat ≤ 57) = decide ((c.toNat : Int) ≤ 57) := decide_eq_decide.2 (by omega)
  rw [e1, e2]
theorem all_fail {s : List UInt8} {j : Nat} (hj : j < s.length) (h : digB (s.getD j 0) = false) : digits s = false := by
  have : s.all digB = false := by
    rw [List.all_eq_false]
    refine ⟨s[j], List.getElem_mem hj, ?_⟩
    have e : s.getD j 0 = s[j] := by simp [List.getD, hj]
    rw [e] at h; rw [h]; decide
  unfold digits
  rw [this]; rfl
theorem all_end {s : List UInt8} (h : ∀ k, k < s.length → digB (s.getD k 0) = true) : digits s = (s != [] && (s.getD 0 0 != 48 || s.length == 1)) := by
  have h1 : s.all digB = true := by
    rw [List.all_eq_true]
    intro x hx
    obtain ⟨j, hj, rfl⟩ := List.getElem_of_mem hx
    have := h j hj
    have e : s.getD j 0 = s[j] := by simp [List.getD, hj]
    rwa [e] at this
  unfold digits
  rw [h1, Bool.true_and]
  match s with
  | [] => rfl
  | [c] =>
    by_cases e : c = 48
    · subst e; rfl
    · have e1 : (c == 48) = false := by simp [e]
      have e2 : ([c] == [48]) = false := by simp [e]
      have e3 : (c != 48) = true := by simp [e]
      show ([c] == [48] || ([c] != [] && c != 48)) = ([c] != [] && (c != 48 || ([c].length == 1)))
      rw [e2, e3]; rfl
  | c :: d :: r => simp
end Num
namespace AX
def c_canon : AX.AFn := ⟨44, .seq (.reg false [⟨some 2, .mv (.c (.bool false)), none, []⟩]) (.seq (.seq (.reg false [⟨some 4, .mv (.t 0), none, []⟩, ⟨some 5, .len true (.t 4), none, []⟩, ⟨some 6, .bin .gtr (.t 5) (.c (.int .i64 0)), none, []⟩, ⟨some 7, .mv (.t 6), none, []⟩, ⟨some 8, .mv (.t 0), some (7, true), []⟩, ⟨some 9, .sidx (.t 8) (.c (.int .i64 0)), some (7, true), []⟩, ⟨some 10, .bin .eql (.t 9) (.c (.int .u8 45)), some (7, true), []⟩, ⟨some 11, .pick (.t 7) (.t 10) (.c (.bool false)), none, []⟩]) (.cond (.t 11) (.seq (.reg false [⟨some 12, .mv (.t 0), none, []⟩, ⟨some 13, .ssl (.t 12) (some (.c (.int .i64 1))) none, none, []⟩, ⟨some 0, .mv (.t 13), none, []⟩]) (.seq (.reg false [⟨some 14, .mv (.t 0), none, []⟩, ⟨some 15, .bin .eql (.t 14) (.c (.str [48])), none, []⟩]) (.cond (.t 15) (.seq (.reg false [⟨some 2, .mv (.c (.bool false)), none, []⟩]) (.ret)) (.skip)))) (.skip))) (.seq (.seq (.reg false [⟨some 16, .mv (.t 0), none, []⟩, ⟨some 17, .len true (.t 16), none, []⟩, ⟨some 18, .mv (.c (.int .i64 0)), none, []⟩]) (.block 0 (.loop (.seq (.reg false [⟨some 19, .bin .lss (.t 18) (.t 17), none, []⟩]) (.seq (.cond (.t 19) (.skip) (.exit 0)) (.seq (.block 1 (.seq (.reg false [⟨some 20, .mv (.t 18), none, []⟩, ⟨some 3, .mv (.t 20), none, []⟩]) (.seq (.reg false [⟨some 21, .mv (.t 0), none, []⟩, ⟨some 22, .mv (.t 3), none, []⟩, ⟨some 23, .sidx (.t 21) (.t 22), none, []⟩, ⟨some 24, .bin .lss (.t 23) (.c (.int .u8 48)), none, []⟩, ⟨some 25, .mv (.t 24), none, []⟩, ⟨some 26, .mv (.t 0), some (25, false), []⟩, ⟨some 27, .mv (.t 3), some (25, false), []⟩, ⟨some 28, .sidx (.t 26) (.t 27), some (25, false), []⟩, ⟨some 29, .bin .gtr (.t 28) (.c (.int .u8 57)), some (25, false), []⟩, ⟨some 30, .pick (.t 25) (.c (.bool true)) (.t 29), none, []⟩]) (.cond (.t 30) (.seq (.reg false [⟨some 2, .mv (.c (.bool false)), none, []⟩]) (.ret)) (.skip))))) (.reg false [⟨some 31, .bin .add (.t 18) (.c (.int .i64 1)), none, []⟩, ⟨some 18, .mv (.t 31), none, []⟩]))))))) (.seq (.reg false [⟨some 32, .mv (.t 0), none, []⟩, ⟨some 33, .bin .neq (.t 32) (.c (.str [])), none, []⟩, ⟨some 34, .mv (.t 33), none, []⟩, ⟨some 35, .mv (.t 0), some (34, true), []⟩, ⟨some 36, .sidx (.t 35) (.c (.int .i64 0)), some (34, true), []⟩, ⟨some 37, .bin .neq (.t 36) (.c (.int .u8 48)), some (34, true), []⟩, ⟨some 38, .mv (.t 37), some (34, true), []⟩, ⟨some 39, .mv (.t 0), some (38, false), []⟩, ⟨some 40, .len true (.t 39), some (38, false), []⟩, ⟨some 41, .bin .eql (.t 40) (.c (.int .i64 1)), some (38, false), []⟩, ⟨some 42, .pick (.t 38) (.c (.bool true)) (.t 41), some (34, true), []⟩, ⟨some 43, .pick (.t 34) (.t 42) (.c (.bool false)), none, []⟩, ⟨some 2, .mv (.t 43), none, []⟩]) (.ret)))), [.t 2]⟩
theorem h_canon : AX.compFn Tryz.prog 238 = some c_canon := by kernel_rfl

theorem u8_beq (c : UInt8) (n : UInt8) : ((c.toNat : Int) == (n.toNat : Int)) = (c == n) := by
  rw [Bool.eq_iff_iff, beq_iff_eq, beq_iff_eq]
  exact ⟨fun e => UInt8.toNat_inj.1 (by omega), fun e => by rw [e]⟩
/-- A call that answers a bool, from any world. -/
theorem calls_bool {P : Program} {G : World → Prop} {f : FuncId} {args : List A} {vs : List Value} {w : World} {b : Bool} (hc : ACall P G f args ⟨[], []⟩ fun v _ => v = .bool b) (hG : ∀ w' : World, (∀ g, g < w.heap.size → w'.heap[g]? = w.heap[g]?) → G w')
    (ha : RepL (Ctx.of w) args vs) : Calls P f vs.toArray w fun e w' => e = .returned (.bool b) ∧ Below w.heap.size w w' := by
  refine (hc (Ctx.of w) vs (inv_of hG) ha).mono ?_
  rintro e w' ⟨C', h', v, cv, rfl, rfl, _, st, hr, rfl⟩
  rw [rep_bool] at hr; subst hr
  exact ⟨rfl, st.os, st.tape, st.output, st.size, fun g hg => st.frame g hg rfl fun t ht => by simp [Ctx.of] at ht⟩
theorem a_canon (s : List UInt8) (hl : s.length ≤ 2000000) (h : Hp) : ACall Tryz.prog GT 238 [.str s] h fun r h' => r = .bool (Num.canonB s) ∧ h' = h := by
  refine pcall ?_ rfl (by simp [A.pure, A.data]) h
  refine acall_of mixedT h_canon (by simp [c_canon]) ?_
  dsimp only [c_canon]
  obtain ⟨R, hR⟩ : ∃ R, Num.canonB s = R := ⟨_, rfl⟩
  rw [hR]
  unfold Num.canonB Num.body at hR
  by_cases hn : s = []
  · subst hn
    have e0 : ¬ ((0 : Nat) : Int) > 0 := by decide
    have e1 : ¬ (0 : Int) < ((0 : Nat) : Int) := by decide
    have hR' : R = false := by rw [← hR]; rfl
    subst hR'
    (refine AX.run0 e0 ?_)
    refine go_once ?_
    (refine AX.run0 e1 ?_)
    exact ⟨_, le_refl _, rfl⟩
  have hpos : (s.length : Int) > 0 := by
    have := List.length_pos_iff.2 hn; omega
  have h0 : (0 : Int) < (s.length : Int) := hpos
  obtain ⟨c, hc⟩ : ∃ c, s.getD 0 0 = c := ⟨_, rfl⟩
  rw [hc] at hR
  have e45 : ((c.toNat : Int) == 45) = (c == 45) := u8_beq c 45
  have hbody : ∃ t : List UInt8, t = (if c == 45 then s.drop 1 else s) := ⟨_, rfl⟩
  obtain ⟨t, ht⟩ := hbody
  rw [← ht] at hR
  have htl : t.length ≤ 2000000 := by
    rw [ht]; split
    · rw [List.length_drop]; omega
    · exact hl
  have hgr : ∀ j : Nat, t.getD j 0 = t.getD j 0 := fun _ => rfl
  have h1le : (1 : Int) ≤ (s.length : Int) := by omega
  have z1 : (0 : Int) ≤ 1 := by decide
  have n1 : (1 : Int).toNat = 1 := rfl
  have n0 : (0 : Int).toNat = 0 := rfl
  have key : ∀ {G : Prop}, ((c == 45) = true → t = s.drop 1 → G) → ((c == 45) = false → t = s → G) → G := fun p q => by
    cases e : c == 45
    · exact q e (by rw [ht, e]; rfl)
    · exact p e (by rw [ht, e]; rfl)
  refine key (fun m1 m2 => ?_) (fun m1 m2 => ?_)
  · rw [m1, Bool.true_and] at hR
    have m3 : s.drop 1 = t := m2.symm
    have e10 : ((c.toNat : Int) == 45) = true := by rw [e45, m1]
    cases h48 : t == [48]
    rotate_left
    · rw [h48] at hR
      have hR' : R = false := by rw [← hR, Bool.not_true, Bool.and_false]
      subst hR'
      (refine AX.run0 (And.intro hpos (And.intro h0 (And.intro n0 (And.intro hc (And.intro e10 (And.intro h1le (And.intro z1 (And.intro n1 (And.intro m3 h48))))))))) ?_)
      exact ⟨_, le_refl _, rfl⟩
    rw [h48, Bool.not_false, Bool.and_true] at hR
    (refine AX.run0 (And.intro hpos (And.intro h0 (And.intro n0 (And.intro hc (And.intro e10 (And.intro h1le (And.intro z1 (And.intro n1 (And.intro m3 h48))))))))) ?_)
    refine awp_loop (fun mm ts h => ∃ (j : Nat), mm = t.length - j ∧ j ≤ t.length ∧ h = ⟨[], []⟩ ∧ (∀ k, k < j → Num.digB (t.getD k 0) = true) ∧ ts 0 = .str t ∧ ts 17 = .int .i64 (t.length : Nat) ∧ ts 18 = .int .i64 (j : Nat)) t.length ?_ ?_
    · exact ⟨0, by omega, by omega, rfl, fun k hk => absurd hk (Nat.not_lt_zero k), by (exact AX.ev0 m3), by (exact AX.ev0 m3), by (exact AX.inv0 True.intro)⟩
    rintro mm ts h ⟨j, rfl, hjc, rfl, hok, t0, t17, t18⟩
    by_cases hj : j < t.length
    · have hlt : (j : Int) < (t.length : Int) := by omega
      have hj0 : (0 : Int) ≤ (j : Int) := by omega
      have ei : IntKind.i64.wrap ((j : Int) + 1) = ((j + 1 : Nat) : Int) := by rw [wrap64 (by omega) (by omega)]; omega
      obtain ⟨b, hb⟩ : ∃ b, t.getD j 0 = b := ⟨_, rfl⟩
      have hdg := Num.digB_int b
      obtain ⟨x, hx⟩ : ∃ x : Int, (b.toNat : Int) = x := ⟨_, rfl⟩
      rw [hx] at hdg
      by_cases x1 : x < 48
      · have hR' : R = false := by rw [← hR]; exact Num.all_fail hj (by rw [hb, hdg, decide_eq_false (by omega)]; rfl)
        subst hR'
        (refine AX.run0 (And.intro t0 (And.intro t17 (And.intro t18 (And.intro hlt (And.intro hj0 (And.intro hb (And.intro hx x1))))))) ?_)
        exact ⟨_, le_refl _, rfl⟩
      by_cases x2 : x > 57
      · have hR' : R = false := by rw [← hR]; exact Num.all_fail hj (by rw [hb, hdg, decide_eq_true (show 48 ≤ x by omega), decide_eq_false (by omega)]; rfl)
        subst hR'
        (refine AX.run0 (And.intro t0 (And.intro t17 (And.intro t18 (And.intro hlt (And.intro hj0 (And.intro hb (And.intro hx (And.intro x1 x2)))))))) ?_)
        exact ⟨_, le_refl _, rfl⟩
      · (refine AX.run0 (And.intro t0 (And.intro t17 (And.intro t18 (And.intro hlt (And.intro hj0 (And.intro hb (And.intro hx (And.intro x1 (And.intro x2 ei))))))))) ?_)
        refine ⟨t.length - (j + 1), by omega, j + 1, rfl, by omega, rfl, fun k hk => ?_, by (exact AX.ev0 t0), by (exact AX.ev0 t17), by (exact AX.ev0 ei)⟩
        by_cases e : k = j
        · rw [e, hb, hdg, decide_eq_true (show 48 ≤ x by omega), decide_eq_true (show x ≤ 57 by omega)]; rfl
        · exact hok k (by omega)
    · have hlt : ¬ ((j : Int) < (t.length : Int)) := by omega
      have hje : j = t.length := by omega
      rw [hje] at hok
      have hE := Num.all_end hok
      rw [hR] at hE
      cases hnt : t != []
      · rw [hnt, Bool.false_and] at hE
        subst hE
        (refine AX.run0 (And.intro t0 (And.intro t17 (And.intro t18 (And.intro hlt hnt)))) ?_)
        exact ⟨_, le_refl _, rfl⟩
      rw [hnt, Bool.true_and] at hE
      have hp2 : (0 : Int) < (t.length : Int) := by
        have : t ≠ [] := by simpa using hnt
        have := List.length_pos_iff.2 this; omega
      obtain ⟨b, hb⟩ : ∃ b, t.getD 0 0 = b := ⟨_, rfl⟩
      rw [hb] at hE
      have e48 : ((b.toNat : Int) != 48) = (b != 48) := congrArg (!·) (u8_beq b 48)
      cases hb48 : b != 48
      · rw [hb48, Bool.false_or] at hE
        rw [hb48] at e48
        have el : ((t.length : Int) == 1) = (t.length == 1) := by
          rw [Bool.eq_iff_iff, beq_iff_eq, beq_iff_eq]; omega
        rw [← hE] at el
        (refine AX.run0 (And.intro t0 (And.intro t17 (And.intro t18 (And.intro hlt (And.intro hnt (And.intro hp2 (And.intro n0 (And.intro hb (And.intro e48 el))))))))) ?_)
        exact ⟨_, le_refl _, rfl⟩
      · rw [hb48, Bool.true_or] at hE
        subst hE
        rw [hb48] at e48
        (refine AX.run0 (And.intro t0 (And.intro t17 (And.intro t18 (And.intro hlt (And.intro hnt (And.intro hp2 (And.intro n0 (And.intro hb e48)))))))) ?_)
        exact ⟨_, le_refl _, rfl⟩
  · have e10 : ((c.toNat : Int) == 45) = false := by rw [e45, m1]
    rw [m1, Bool.false_and, Bool.not_false, Bool.and_true] at hR
    have m3 : s = t := m2.symm
    (refine AX.run0 (And.intro hpos (And.intro h0 (And.intro n0 (And.intro hc e10)))) ?_)
    refine awp_loop (fun mm ts h => ∃ (j : Nat), mm = t.length - j ∧ j ≤ t.length ∧ h = ⟨[], []⟩ ∧ (∀ k, k < j → Num.digB (t.getD k 0) = true) ∧ ts 0 = .str t ∧ ts 17 = .int .i64 (t.length : Nat) ∧ ts 18 = .int .i64 (j : Nat)) t.length ?_ ?_
    · exact ⟨0, by omega, by omega, rfl, fun k hk => absurd hk (Nat.not_lt_zero k), by (exact AX.ev0 m3), by (exact AX.ev0 m3), by (exact AX.inv0 True.intro)⟩
    rintro mm ts h ⟨j, rfl, hjc, rfl, hok, t0, t17, t18⟩
    by_cases hj : j < t.length
    · have hlt : (j : Int) < (t.length : Int) := by omega
      have hj0 : (0 : Int) ≤ (j : Int) := by omega
      have ei : IntKind.i64.wrap ((j : Int) + 1) = ((j + 1 : Nat) : Int) := by rw [wrap64 (by omega) (by omega)]; omega
      obtain ⟨b, hb⟩ : ∃ b, t.getD j 0 = b := ⟨_, rfl⟩
      have hdg := Num.digB_int b
      obtain ⟨x, hx⟩ : ∃ x : Int, (b.toNat : Int) = x := ⟨_, rfl⟩
      rw [hx] at hdg
      by_cases x1 : x < 48
      · have hR' : R = false := by rw [← hR]; exact Num.all_fail hj (by rw [hb, hdg, decide_eq_false (by omega)]; rfl)
        subst hR'
        (refine AX.run0 (And.intro t0 (And.intro t17 (And.intro t18 (And.intro hlt (And.intro hj0 (And.intro hb (And.intro hx x1))))))) ?_)
        exact ⟨_, le_refl _, rfl⟩
      by_cases x2 : x > 57
      · have hR' : R = false := by rw [← hR]; exact Num.all_fail hj (by rw [hb, hdg, decide_eq_true (show 48 ≤ x by omega), decide_eq_false (by omega)]; rfl)
        subst hR'
        (refine AX.run0 (And.intro t0 (And.intro t17 (And.intro t18 (And.intro hlt (And.intro hj0 (And.intro hb (And.intro hx (And.intro x1 x2)))))))) ?_)
        exact ⟨_, le_refl _, rfl⟩
      · (refine AX.run0 (And.intro t0 (And.intro t17 (And.intro t18 (And.intro hlt (And.intro hj0 (And.intro hb (And.intro hx (And.intro x1 (And.intro x2 ei))))))))) ?_)
        refine ⟨t.length - (j + 1), by omega, j + 1, rfl, by omega, rfl, fun k hk => ?_, by (exact AX.ev0 t0), by (exact AX.ev0 t17), by (exact AX.ev0 ei)⟩
        by_cases e : k = j
        · rw [e, hb, hdg, decide_eq_true (show 48 ≤ x by omega), decide_eq_true (show x ≤ 57 by omega)]; rfl
        · exact hok k (by omega)
    · have hlt : ¬ ((j : Int) < (t.length : Int)) := by omega
      have hje : j = t.length := by omega
      rw [hje] at hok
      have hE := Num.all_end hok
      rw [hR] at hE
      cases hnt : t != []
      · rw [hnt, Bool.false_and] at hE
        subst hE
        (refine AX.run0 (And.intro t0 (And.intro t17 (And.intro t18 (And.intro hlt hnt)))) ?_)
        exact ⟨_, le_refl _, rfl⟩
      rw [hnt, Bool.true_and] at hE
      have hp2 : (0 : Int) < (t.length : Int) := by
        have : t ≠ [] := by simpa using hnt
        have := List.length_pos_iff.2 this; omega
      obtain ⟨b, hb⟩ : ∃ b, t.getD 0 0 = b := ⟨_, rfl⟩
      rw [hb] at hE
      have e48 : ((b.toNat : Int) != 48) = (b != 48) := congrArg (!·) (u8_beq b 48)
      cases hb48 : b != 48
      · rw [hb48, Bool.false_or] at hE
        rw [hb48] at e48
        have el : ((t.length : Int) == 1) = (t.length == 1) := by
          rw [Bool.eq_iff_iff, beq_iff_eq, beq_iff_eq]; omega
        rw [← hE] at el
        (refine AX.run0 (And.intro t0 (And.intro t17 (And.intro t18 (And.intro hlt (And.intro hnt (And.intro hp2 (And.intro n0 (And.intro hb (And.intro e48 el))))))))) ?_)
        exact ⟨_, le_refl _, rfl⟩
      · rw [hb48, Bool.true_or] at hE
        subst hE
        rw [hb48] at e48
        (refine AX.run0 (And.intro t0 (And.intro t17 (And.intro t18 (And.intro hlt (And.intro hnt (And.intro hp2 (And.intro n0 (And.intro hb e48)))))))) ?_)
        exact ⟨_, le_refl _, rfl⟩
end AX
theorem numParse_any (l : List UInt8) (hl : l.length ≤ 2000000) (w : World) (g : GT w) :
    Calls Tryz.prog 191 #[.string ⟨l.toArray⟩] w fun e w' => e = .returned (.tuple #[.int .i64 (Num.parse l).1, .int .i64 (Num.parse l).2]) ∧ Below w.heap.size w w' := by
  have hc := AX.calls_bool (w := w) (vs := [.string ⟨l.toArray⟩]) ((AX.a_canon l hl ⟨[], []⟩).mono fun v h' hv => hv.1) (AX.gt_keep g) (AX.repL_cons.2 ⟨_, _, rfl, AX.rep_str.2 rfl, AX.repL_nil.2 rfl⟩)
  have hf := Num.parse_form l
  obtain ⟨P1, hP1⟩ : ∃ p, Num.parse l = p := ⟨_, rfl⟩
  rw [hP1] at hf ⊢
  cases hB : Num.canonB l
  · rw [hB, if_pos rfl] at hf
    subst hf
    rw [hB] at hc
    go_enter Tryz.func191, Tryz.ntmps191
    go_wp2_with fail
    refine hc.mono ?_; rintro e w1 ⟨rfl, b1⟩
    have B1 := kept b1; clear b1
    go_wp2
    refine bodyPost_ret (v := .tuple #[.int .i64 0, .int .i64 2]) (by simp [results, Tryz.results191, go_sem]) rfl ⟨rfl, B1.out⟩
  · rw [hB, if_neg (by decide)] at hf
    rw [hB] at hc
    have hsz : (⟨l.toArray⟩ : ByteArray).size ≤ 9223372036854775806 := by rw [size_mk]; omega
    have hlim : (⟨l.toArray⟩ : ByteArray).size ≤ 281474976710656 := by rw [size_mk]; omega
    have hsyn := g.esyn
    obtain ⟨ev, hev, hev2⟩ := g.erng
    have nilne : ∀ (a b : Value), True := fun _ _ => True.intro
    rcases Num.parseIntB_canon l hB with ⟨h1, h2⟩ | ⟨h1, h2 | ⟨v, h2, h3⟩⟩
    · rw [if_neg (by omega)] at hf
      obtain ⟨v, hv⟩ : ∃ v : Int, (if l.getD 0 0 == 45 then -(Num.val (Num.body l) : Int) else (Num.val (Num.body l) : Int)) = v := ⟨_, rfl⟩
      rw [hv] at h2 hf
      have hvr : -9007199254740992 ≤ v ∧ v ≤ 9007199254740992 := by rw [← hv]; split <;> omega
      have hp : ∀ w' : World, Calls Tryz.prog 239 #[.string ⟨l.toArray⟩, .int .i64 10, .int .i64 64] w' fun e w2 => e = .returned (.tuple #[.int .i64 v, .nilIface]) ∧ (w2 = w' ∨ ∃ t, w2 = Lib.bytesWorld w' 5 t) := fun w' => Any.strconv_ParseInt_10_at64_ok (P := Tryz.prog) Tryz.lays174 ⟨l.toArray⟩ hsz v h2 w'
      have Hnv := kept (fun w' => numValid_any v w')
      rw [decide_eq_true hvr] at Hnv
      subst hf
      have Hp := kept hp
      clear hp hsz hlim hsyn hev hev2 hvr hv h1 h2 hB
      go_enter Tryz.func191, Tryz.ntmps191
      go_wp2_with fail
      refine hc.mono ?_; rintro e w1 ⟨rfl, b1⟩
      have B1 := kept b1; clear b1
      go_wp2_with fail
      (with_reducible refine (Hp.out _).mono ?_); rintro e w2 ⟨rfl, hw⟩
      have B2 : Kept (Below w.heap.size w w2) := kept (by
        rcases hw with rfl | ⟨t, rfl⟩
        · exact B1.out
        · exact bthen B1.out (Lib.bytesWorld_below _ _ _))
      clear hw
      go_wp2_with fail
      (with_reducible refine (Hnv.out _).mono ?_); rintro e w3 ⟨rfl, rfl⟩
      go_wp2
      refine bodyPost_ret (v := .tuple #[.int .i64 v, .int .i64 0]) (by simp [results, Tryz.results191, go_sem]) rfl ⟨rfl, B2.out⟩
    · rw [if_pos (by omega)] at hf
      have hp : ∀ w' : World, w'.cell? ⟨4, 0, none⟩ = some ev → Calls Tryz.prog 239 #[.string ⟨l.toArray⟩, .int .i64 10, .int .i64 64] w' fun e w2 => (∃ a b c, e = .returned (.tuple #[.int .i64 a, .iface b c])) ∧ Below w'.heap.size w' w2 := fun w' hv => (Any.strconv_ParseInt_10_at64_range (P := Tryz.prog) Tryz.lays174 ⟨l.toArray⟩ hlim h2 ev w' hv hev2).mono fun e w2 ⟨N, q1, q2, q3, q4⟩ => ⟨⟨_, _, _, q1⟩, q4⟩
      subst hf
      have Hp := kept hp
      have Hev := kept hev
      clear hp hsz hlim hsyn hev hev2 h1 h2 hB
      go_enter Tryz.func191, Tryz.ntmps191
      go_wp2_with fail
      refine hc.mono ?_; rintro e w1 ⟨rfl, b1⟩
      have B1 := kept b1
      have Hev1 := kept (show w1.cell? ⟨4, 0, none⟩ = some ev from by rw [← Hev.out]; simp only [World.cell?, b1.block _ (cell_there Hev.out).2])
      clear b1
      go_wp2_with fail
      (with_reducible refine (Hp.out _ Hev1.out).mono ?_); rintro e w2 ⟨⟨a, b, c, rfl⟩, b2⟩
      have B2 : Kept (Below w.heap.size w w2) := kept (bthen B1.out b2)
      clear b2
      go_wp2
      refine bodyPost_ret (v := .tuple #[.int .i64 0, .int .i64 5]) (by simp [results, Tryz.results191, go_sem]) rfl ⟨rfl, B2.out⟩
    · rw [if_pos (by omega)] at hf
      have hp : ∀ w' : World, Calls Tryz.prog 239 #[.string ⟨l.toArray⟩, .int .i64 10, .int .i64 64] w' fun e w2 => e = .returned (.tuple #[.int .i64 v, .nilIface]) ∧ (w2 = w' ∨ ∃ t, w2 = Lib.bytesWorld w' 5 t) := fun w' => Any.strconv_ParseInt_10_at64_ok (P := Tryz.prog) Tryz.lays174 ⟨l.toArray⟩ hsz v h2 w'
      have Hnv := kept (fun w' => numValid_any v w')
      rw [decide_eq_false h3] at Hnv
      subst hf
      have Hp := kept hp
      clear hp hsz hlim hsyn hev hev2 h3 h1 h2 hB
      go_enter Tryz.func191, Tryz.ntmps191
      go_wp2_with fail
      refine hc.mono ?_; rintro e w1 ⟨rfl, b1⟩
      have B1 := kept b1; clear b1
      go_wp2_with fail
      (with_reducible refine (Hp.out _).mono ?_); rintro e w2 ⟨rfl, hw⟩
      have B2 : Kept (Below w.heap.size w w2) := kept (by
        rcases hw with rfl | ⟨t, rfl⟩
        · exact B1.out
        · exact bthen B1.out (Lib.bytesWorld_below _ _ _))
      clear hw
      go_wp2_with fail
      (with_reducible refine (Hnv.out _).mono ?_); rintro e w3 ⟨rfl, rfl⟩
      go_wp2
      refine bodyPost_ret (v := .tuple #[.int .i64 0, .int .i64 5]) (by simp [results, Tryz.results191, go_sem]) rfl ⟨rfl, B2.out⟩
theorem AX.a_numParse (s : List UInt8) (hl : s.length ≤ 2000000) (h : AX.Hp) : AX.ACall Tryz.prog GT 191 [.str s] h fun r h' => r = .tup [.int .i64 (Num.parse s).1, .int .i64 (Num.parse s).2] ∧ h' = h :=
  AX.acall_imp (AX.args1 AX.r_str) (fun w hg => numParse_any s hl w hg) (fun C => AX.rep_tup.2 ⟨_, rfl, AX.repL_cons.2 ⟨_, _, rfl, AX.rep_int.2 rfl, AX.repL_cons.2 ⟨_, _, rfl, AX.rep_int.2 rfl, AX.repL_nil.2 rfl⟩⟩⟩) h
end Go.Proofs.YtkhhnkceiibmfaaGreatDoor

namespace Go.Proofs.YtkhhnkceiibmfaaGreatDoor
open Go.RowKit Go.Lib
set_option linter.unusedSimpArgs false
set_option linter.unusedVariables false
def stops : ByteArray := ⟨#[46, 91]⟩
theorem below_iter (w : World) (s : ByteArray) (p : Nat) : Below w.heap.size w (w.iter s p) := by
  refine ⟨rfl, rfl, rfl, ?_, fun g hg => ?_⟩
  · show w.heap.size ≤ (w.heap.push (Obj.stringIter s p)).size
    simp
  · show (w.heap.push (Obj.stringIter s p))[g]? = _
    rw [Array.getElem?_push, if_neg (by omega)]
set_option maxHeartbeats 2000000 in
set_option maxRecDepth 100000 in
theorem indexRune_err (w : World) : Calls Tryz.prog 271 #[.string stops, .int .i32 65533] w fun e w' => e = .returned (.int .i64 (-1)) ∧ Below w.heap.size w w' := by
  go_enter Tryz.func271, Tryz.ntmps271
  have hsz : stops.size = 2 := rfl
  go_wp2_with fail
  go_loopg [5, 6] 2 (fun g _ _ wx => ∃ i : Nat, i + g = 2 ∧ wx = w.iter stops i)
  case atStart => exact ⟨0, by omega, rfl⟩
  case round =>
    obtain ⟨i, hig, rfl⟩ := hrel
    cases gk with
    | zero =>
      obtain rfl : i = 2 := by omega
      have hnx := fun ty => run_next_end (P := Tryz.prog) w stops 2 ty (by decide)
      go_wp2
      go_ret
      exact ⟨rfl, below_iter w stops 2⟩
    | succ g =>
      have hi : i = 0 ∨ i = 1 := by omega
      rcases hi with rfl | rfl
      · have hnx := fun ty => run_next_ascii (P := Tryz.prog) w stops 0 ty (by decide) (by decide)
        have e0 : ((stops[0]'(by decide)).toNat : Int) = 46 := rfl
        rw [e0] at hnx
        go_wp2
        go_roundg g
        case measure => omega
        case rel => exact ⟨1, by omega, rfl⟩
      · have hnx := fun ty => run_next_ascii (P := Tryz.prog) w stops 1 ty (by decide) (by decide)
        have e0 : ((stops[1]'(by decide)).toNat : Int) = 91 := rfl
        rw [e0] at hnx
        go_wp2
        go_roundg g
        case measure => omega
        case rel => exact ⟨2, by omega, rfl⟩
set_option maxHeartbeats 2000000 in
set_option maxRecDepth 100000 in
theorem indexRune_hi (r : Int) (h0 : 128 ≤ r) (h1 : r ≤ 2147483647) (hr : r ≠ 65533) (w : World) : Calls Tryz.prog 271 #[.string stops, .int .i32 r] w fun e w' => e = .returned (.int .i64 (-1)) ∧ Below w.heap.size w w' := by
  go_enter Tryz.func271, Tryz.ntmps271
  have hsz : stops.size = 2 := rfl
  have c1 : decide (0 ≤ r) = true := decide_eq_true (by omega)
  have c2 : decide (r < 128) = false := decide_eq_false (by omega)
  have c3 : (r == 65533) = false := beq_eq_false_iff_ne.2 hr
  have Hv := kept (fun w => Tryz.utf8_ValidRune r w)
  cases hv : Lib.validRune r
  · go_wp2_with fail
    (with_reducible refine (Hv.out _).mono ?_); rintro e w1 ⟨rfl, rfl⟩
    rw [hv]
    go_wp2
    go_ret
    exact ⟨rfl, Below.refl _ _⟩
  · have hval : Utf8.valid r = true := by rw [Go.validRune_eq]; unfold Lib.validRune at hv; unfold Go.validRune; exact hv
    obtain ⟨f1, f2, f3⟩ := encode_facts r hval h0
    go_wp2_with fail
    (with_reducible refine (Hv.out _).mono ?_); rintro e w1 ⟨rfl, rfl⟩
    rw [hv]
    have e1 : IntKind.i64.wrap (((Utf8.encode r).size : Int) - 1) = (((Utf8.encode r).size - 1 : Nat) : Int) := by rw [show ((Utf8.encode r).size : Int) - 1 = (((Utf8.encode r).size - 1 : Nat) : Int) by omega]; exact Go.IntWalk.i64_in _ ⟨by omega, by omega⟩
    have hcv := fun (w : World) => run_convert_int_string (P := Tryz.prog) w 21 9 .i32 r rfl rfl
    go_wp2_with fail
    apply wp_scope_straight
    go_wp2
    go_loopg [9, 10, 11, 12] 1 (fun g v9 v10 v11 v12 wx => wx = w1 ∧ v9 = .int .i64 (((Utf8.encode r).size - 1 : Nat) : Int))
    case atStart => exact ⟨rfl, rfl⟩
    case round =>
      obtain ⟨rfl, rfl⟩ := hrel
      by_cases h2 : (Utf8.encode r).size = 2
      · have e2 : (Utf8.encode r).size - 1 = 1 := by omega
        obtain ⟨x, hx⟩ : ∃ x : UInt8, (Utf8.encode r)[1]'(by omega) = x := ⟨_, rfl⟩
        have hx1 : 128 ≤ x.toNat := by
          have := f3 (by omega)
          simp only [e2] at this
          rw [hx] at this; exact this
        have hi1 : (1 : Nat) < (Utf8.encode r).size := by omega
        have hs1 : (stops[1]'(by decide)).toNat = 91 := rfl
        have hne : ((91 : Int) != (x.toNat : Int)) = true := by simp; omega
        have e3 : (((Utf8.encode r).size - 1 : Nat) : Int) = 1 := by omega
        have hi2 : (1 : Int) < ((Utf8.encode r).size : Int) := by omega
        rw [e3]
        go_wp2
        apply wp_scope_straight
        go_wp2_with fail
        go_region
        have hw2 : IntKind.i64.wrap ((1 : Int) + 1) = 2 := rfl
        have hib0 : Lib.indexByte [] x = -1 := rfl
        go_wp2_with fail
        go_region_with ((with_reducible refine (Tryz.strings_IndexByte _ _ _).mono ?_); rintro e2 w2 ⟨rfl, rfl⟩)
        all_goals
          go_wp2
          rw [Exit.noGoto_ret]
          go_wp2
          rw [Exit.noGoto_ret]
          go_wp2
          go_ret
          first | exact ⟨rfl, below_drewN (Below.refl _ _) 2⟩ | exact ⟨rfl, below_drewN _ 2⟩
      · have hlt : ¬ ((((Utf8.encode r).size - 1 : Nat) : Int) < (stops.size : Int)) := by omega
        go_wp2
        go_ret
        exact ⟨rfl, Below.refl _ _⟩
theorem decode_conts (s : ByteArray) (i j : Nat) (h1 : 1 ≤ j) (hj : j < (Utf8.decode s i).2) : i + j < s.size ∧ 128 ≤ (s.get! (i + j)).toNat := by
  unfold Utf8.decode at hj
  dsimp only at hj
  split at hj
  · simp only at hj; omega
  · split at hj
    · next h =>
      simp only [Bool.and_eq_true, decide_eq_true_eq, beq_iff_eq] at h
      split at hj
      · simp only at hj
        obtain rfl : j = 1 := by omega
        omega
      · simp only at hj; omega
    · split at hj
      · next h =>
        simp only [Bool.and_eq_true, decide_eq_true_eq, beq_iff_eq] at h
        split at hj
        · simp only at hj
          have : j = 1 ∨ j = 2 := by omega
          rcases this with rfl | rfl <;> omega
        · simp only at hj; omega
      · split at hj
        · next h =>
          simp only [Bool.and_eq_true, decide_eq_true_eq, beq_iff_eq] at h
          split at hj
          · simp only at hj
            have : j = 1 ∨ j = 2 ∨ j = 3 := by omega
            rcases this with rfl | rfl | rfl <;> omega
          · simp only at hj; omega
        · simp only at hj; omega
theorem indexRune_any (r : Int) (h0 : 128 ≤ r) (h1 : r ≤ 2147483647) (w : World) : Calls Tryz.prog 271 #[.string stops, .int .i32 r] w fun e w' => e = .returned (.int .i64 (-1)) ∧ Below w.heap.size w w' := by
  by_cases h : r = 65533
  · subst h; exact indexRune_err w
  · exact indexRune_hi r h0 h1 h w
theorem noAny_skip {s : ByteArray} {i : Nat} (hi : i < s.size) (hx : 128 ≤ (s[i]'hi).toNat) (h : Lib.NoAny s.data.toList stops.data.toList i) : Lib.NoAny s.data.toList stops.data.toList (i + (Utf8.decode s i).2) ∧ i + (Utf8.decode s i).2 ≤ s.size ∧ 1 ≤ (Utf8.decode s i).2 := by
  have hd := (decode_high s i hi hx).2
  refine ⟨fun j b hj hb => ?_, ?_, hd⟩
  · by_cases hji : j < i
    · exact h j b hji hb
    · have hjs : j < s.size := by
        have := (List.getElem?_eq_some_iff.1 hb).1
        simpa using this
      have hb' : b = s[j]'hjs := by
        have := Lib.data_getElem? s j hjs
        rw [this] at hb; exact (Option.some.inj hb).symm
      have h128 : 128 ≤ b.toNat := by
        by_cases hji2 : j = i
        · subst hji2; rw [hb']; exact hx
        · have := (decode_conts s i (j - i) (by omega) (by omega)).2
          rw [show i + (j - i) = j by omega] at this
          rw [hb']
          have e : s.get! j = s[j]'hjs := get_at s j hjs
          rw [e] at this; exact this
      have hne : b ≠ 46 ∧ b ≠ 91 := by
        constructor
        · rintro rfl; exact absurd h128 (by decide)
        · rintro rfl; exact absurd h128 (by decide)
      show [(46 : UInt8), 91].contains b = false
      simp [hne.1, hne.2]
  · by_cases h1 : (Utf8.decode s i).2 = 1
    · omega
    · have := (decode_conts s i ((Utf8.decode s i).2 - 1) (by omega) (by omega)).1
      omega
set_option maxHeartbeats 2000000 in
set_option maxRecDepth 100000 in
theorem indexAny_short (s : ByteArray) (w : World) (h8 : s.size ≤ 8) : Calls Tryz.prog 245 #[.string s, .string stops] w fun e w' => e = .returned (.int .i64 (Lib.indexAny s.data.toList stops.data.toList)) ∧ Below w.heap.size w w' := by
  have hss : stops.size = 2 := rfl
  have hemp : stops.toList.isEmpty = false := by rw [Lib.toList_data]; rfl
  have hn1 : ((stops.size : Int) == 1) = false := rfl
  have h8z : decide ((8 : Int) < (s.size : Int)) = false := decide_eq_false (by omega)
  go_enter Tryz.func245, Tryz.ntmps245
  go_wp2_with fail
  (with_reducible refine (Tryz.strings_shouldUseASCIISet _ _).mono ?_); rintro e w1 ⟨rfl, rfl⟩
  rw [h8z]
  go_wp2_with fail
  go_loopg [9, 10] s.size (fun g _ _ wx => ∃ i : Nat, s.size ≤ i + g ∧ i ≤ s.size ∧ wx.heap[w1.heap.size]? = some (.stringIter s i) ∧ Below w1.heap.size w1 wx ∧ Lib.NoAny s.data.toList stops.data.toList i)
  case atStart => exact ⟨0, by omega, by omega, World.iter_heap _ _ _, below_iter _ _ _, Lib.NoAny.zero _ _⟩
  case round =>
    obtain ⟨i, hig, his, hit, hbel, hno⟩ := hrel
    by_cases hi : i < s.size
    · cases gk with
      | zero => omega
      | succ g =>
        obtain ⟨x, hx⟩ : ∃ x : UInt8, s[i]'hi = x := ⟨_, rfl⟩
        have hxl : s.data.toList[i]? = some x := by rw [← hx]; exact Lib.data_getElem? s i hi
        by_cases ha : x.toNat < 128
        · have hnx := fun ty => run_next_ascii_at (P := Tryz.prog) wr w1.heap.size s i ty hit hi (by rw [hx]; exact ha)
          rw [hx] at hnx
          have Hit := kept (iterAt_heap wr w1.heap.size s i (i + 1) hit)
          have Hbel := kept (below_iterAt hbel (Nat.le_refl _) s (i + 1))
          have Hno := kept hno
          have Hxl := kept hxl
          have hcon := Lib.contains_iff_indexByte stops.data.toList x
          have hback : ((x.toNat : Int)).toNat.toUInt8 = x := by simp
          have Hx := kept hx
          clear hit hbel hno hxl hx
          cases hin : stops.data.toList.contains x
          · rw [hin] at hcon
            have hlt : ¬ ((0 : Int) ≤ Lib.indexByte stops.data.toList x) := of_decide_eq_false hcon.symm
            clear hcon
            go_wp2_with fail
            (with_reducible refine (Tryz.strings_IndexRune_ascii _ _ _ (by omega) (by omega)).mono ?_); rintro e w2 ⟨rfl, rfl⟩
            rw [hback]
            go_wp2
            go_roundg g
            case measure => omega
            case rel => exact ⟨i + 1, by omega, by omega, Hit.out, Hbel.out, Hno.out.succ Hxl.out hin⟩
          · rw [hin] at hcon
            have hge : (0 : Int) ≤ Lib.indexByte stops.data.toList x := of_decide_eq_true hcon.symm
            clear hcon
            go_wp2_with fail
            (with_reducible refine (Tryz.strings_IndexRune_ascii _ _ _ (by omega) (by omega)).mono ?_); rintro e w2 ⟨rfl, rfl⟩
            rw [hback]
            go_wp2
            go_ret
            exact ⟨by rw [Lib.indexAny_hit Hno.out Hxl.out hin]; rfl, Hbel.out⟩
        · have hx128 : 128 ≤ (s[i]'hi).toNat := by rw [hx]; omega
          obtain ⟨k1, k2, k3⟩ := noAny_skip hi hx128 hno
          have d1 := (decode_high s i hi hx128).1
          have d2 := decode_le s i
          have hnx := fun ty => run_next_any_at (P := Tryz.prog) wr w1.heap.size s i ty hit hi
          obtain ⟨⟨c, d⟩, hcd⟩ : ∃ p, Utf8.decode s i = p := ⟨_, rfl⟩
          rw [hcd] at k1 k2 k3 d1 d2 hnx
          dsimp only at k1 k2 k3 d1 d2 hnx
          have Hit := kept (iterAt_heap wr w1.heap.size s i (i + d) hit)
          have Hbel := kept (below_iterAt hbel (Nat.le_refl _) s (i + d))
          have K1 := kept k1
          clear hit hbel hno hxl hx hx128 hcd k1
          go_wp2_with fail
          (with_reducible refine (indexRune_any _ (by omega) (by omega) _).mono ?_); rintro e w2 ⟨rfl, b2⟩
          have hit2 : w2.heap[w1.heap.size]? = some (.stringIter s (i + d)) := by rw [b2.block _ (Array.getElem?_eq_some_iff.1 Hit.out).1]; exact Hit.out
          have Hit2 := kept hit2
          have Hbel2 := kept (Hbel.out.trans (b2.mono (by have := Hbel.out.size; exact this)))
          clear hit2 b2
          go_wp2
          go_roundg g
          case measure => omega
          case rel => exact ⟨i + d, by omega, by omega, Hit2.out, Hbel2.out, K1.out⟩
    · obtain rfl : i = s.size := by omega
      have hnx := fun ty => run_next_end_at (P := Tryz.prog) wr w1.heap.size s s.size ty hit (by omega)
      have Hno := kept hno
      have Hbel := kept hbel
      clear hno hbel
      go_wp2
      go_ret
      exact ⟨by rw [Lib.indexAny_none (by rw [← Lib.size_eq]; exact Hno.out)]; rfl, Hbel.out⟩
set_option maxHeartbeats 8000000 in
set_option maxRecDepth 1000000 in
theorem indexAny_long (s : ByteArray) (h8 : 8 < s.size) (hs : s.size ≤ 9223372036854775807) (w : World) : Calls Tryz.prog 245 #[.string s, .string stops] w fun e w' => e = .returned (.int .i64 (Lib.indexAny s.data.toList stops.data.toList)) ∧ Below w.heap.size w w' := by
  have hz := zero_of_info (P := Tryz.prog) (t := 299) (n := 256) (v := .agg (Array.replicate 256 (.bool false))) (by kernel_rfl)
  obtain ⟨cells, hcells⟩ : ∃ c, Lib.setCells stops.data.toList = c := ⟨_, rfl⟩
  have hasc : ∀ (j : Nat) b, stops.data.toList[j]? = some b → b.toNat < 128 := by
    intro j b hb
    match j, hb with
    | 0, hb => cases hb; decide
    | 1, hb => cases hb; decide
    | j + 2, hb => simp [stops] at hb
  have Hset := kept (Tryz.strings_makeASCIISet hz.1 stops w (by decide) hasc)
  obtain ⟨W, hW⟩ : ∃ W, (w.alloc (.cells cells 299)).alloc (.cells cells 299) = W := ⟨_, rfl⟩
  have hbel : Below w.heap.size w W := by
    rw [← hW]
    exact ((Below.refl _ _).alloc (Nat.le_refl _) _).alloc (((Below.refl w.heap.size w).alloc (Nat.le_refl _) (.cells cells 299)).size) _
  have hcell : ∀ x : UInt8, W.cell? ⟨w.heap.size + 1, x.toNat, none⟩ = some (.bool (stops.data.toList.contains x)) := fun x => by
    rw [← hW, World.cell?_alloc_at _ _ _ _ (by simp), ← hcells, Lib.setCells_at]
  have hst : (storeCells ⟨w.heap.size + 1, 0, none⟩ cells.toList 0).run Tryz.prog ((w.alloc (.cells cells 299)).alloc (.cells (Array.replicate 256 (.bool false)) 299)) = .ok () W := by
    have := run_storeCells_new (P := Tryz.prog) (w.alloc (.cells cells 299)) 299 (Array.replicate 256 (.bool false)) cells (by rw [← hcells, Lib.setCells_size]; exact hz.2) (by rw [← hcells, Lib.setCells_size, Array.size_replicate]) (by rw [← hcells]; exact Lib.setCells_one _)
    rw [hW] at this
    simpa using this
  have hemp : stops.toList.isEmpty = false := by rw [Lib.toList_data]; rfl
  have hn1 : ((stops.size : Int) == 1) = false := rfl
  have h8z : decide ((8 : Int) < (s.size : Int)) = true := decide_eq_true (by omega)
  have HC := kept hcell
  have HB := kept hbel
  clear hcell hbel
  rw [hcells] at Hset
  go_enter Tryz.func245, Tryz.ntmps245
  go_wp2_with fail
  (with_reducible refine (Tryz.strings_shouldUseASCIISet _ _).mono ?_); rintro e w1 ⟨rfl, rfl⟩
  rw [h8z]
  go_wp2_with fail
  (with_reducible refine Hset.out.mono ?_); rintro e w1 ⟨rfl, rfl⟩
  have hcsz : cells.size = 256 := by rw [← hcells]; exact Lib.setCells_size _
  have e0 : Tryz.zeroCells299 = Array.replicate 256 (.bool false) := by kernel_rfl

  go_wp2
  go_loopg [8] s.size (fun g s8 wx => ∃ i : Nat, i + g = s.size ∧ s8 = .int .i64 i ∧ wx = W ∧ Lib.NoAny s.data.toList stops.data.toList i)
  case atStart => exact ⟨0, by omega, rfl, rfl, Lib.NoAny.zero _ _⟩
  case round =>
    obtain ⟨i, hig, rfl, rfl, hno⟩ := hrel
    have HN := kept hno
    clear hno
    cases gk with
    | zero =>
      obtain rfl : i = s.size := by omega
      have hiz : ¬ ((s.size : Int) < (s.size : Int)) := by omega
      go_wp2
      go_ret
      exact ⟨by rw [Lib.indexAny_none (by rw [← Lib.size_eq]; exact HN.out)]; rfl, HB.out⟩
    | succ g =>
      have hi : i < s.size := by omega
      have hiz : (i : Int) < (s.size : Int) := by omega
      have hw : IntKind.i64.wrap ((i : Int) + 1) = (i : Int) + 1 := Go.IntWalk.i64_in _ ⟨by omega, by omega⟩
      obtain ⟨x, hx⟩ : ∃ x : UInt8, s[i]'hi = x := ⟨_, rfl⟩
      have hxl : s.data.toList[i]? = some x := by rw [← hx]; exact Lib.data_getElem? s i hi
      have Hxl := kept hxl
      clear hxl
      have hcx := HC.out x
      cases hin : stops.data.toList.contains x <;> rw [hin] at hcx
      · go_wp2_with fail
        (with_reducible refine (Tryz.asciiSet_contains _ x _ _ hcx).mono ?_); rintro e w2 ⟨rfl, rfl⟩
        go_wp2
        go_roundg g
        case measure => omega
        case rel => exact ⟨i + 1, by omega, by first | rfl | simp, rfl, HN.out.succ Hxl.out hin⟩
      · go_wp2_with fail
        (with_reducible refine (Tryz.asciiSet_contains _ x _ _ hcx).mono ?_); rintro e w2 ⟨rfl, rfl⟩
        go_wp2
        go_ret
        exact ⟨by rw [Lib.indexAny_hit HN.out Hxl.out hin]; rfl, HB.out⟩
theorem indexAny_any (s : ByteArray) (hs : s.size ≤ 9223372036854775807) (w : World) : Calls Tryz.prog 245 #[.string s, .string stops] w fun e w' => e = .returned (.int .i64 (Lib.indexAny s.data.toList stops.data.toList)) ∧ Below w.heap.size w w' := by
  by_cases h8 : s.size ≤ 8
  · exact indexAny_short s w h8
  · exact indexAny_long s (by omega) hs w
end Go.Proofs.YtkhhnkceiibmfaaGreatDoor

namespace Go.Proofs.YtkhhnkceiibmfaaGreatDoor
open Go.RowKit
set_option linter.unusedSimpArgs false
set_option linter.unusedVariables false
set_option maxHeartbeats 4000000
namespace Adr
def first (k : Nat) (c : UInt8) : Bool := if k = 0 then letter c else wordB c
def idOk (j : Nat) (s : List UInt8) : Prop := ∀ k, k < j → first k (s.getD k 0) = true
theorem wordB_of_letter {c : UInt8} (h : letter c = true) : wordB c = true := by unfold wordB; rw [h]; rfl
theorem ident_fail {s : List UInt8} {j : Nat} (hj : j < s.length) (h : first j (s.getD j 0) = false) : ident s = false := by
  unfold ident
  unfold first at h
  split at h
  · next e =>
    subst e
    rw [h]; simp
  · have : s.all wordB = false := by
      rw [List.all_eq_false]
      refine ⟨s[j], List.getElem_mem hj, ?_⟩
      have e : s.getD j 0 = s[j] := by simp [List.getD, hj]
      rw [e] at h; rw [h]; decide
    simp [this]
theorem ident_end {s : List UInt8} (h : idOk s.length s) : ident s = (s != [] && decide (s.length ≤ 64)) := by
  unfold ident
  cases s with
  | nil => rfl
  | cons c t =>
    have h0 : letter ((c :: t).getD 0 0) = true := by
      have := h 0 (by simp)
      unfold first at this
      rwa [if_pos rfl] at this
    have h1 : (c :: t).all wordB = true := by
      rw [List.all_eq_true]
      intro x hx
      obtain ⟨j, hj, rfl⟩ := List.getElem_of_mem hx
      have := h j hj
      have e : (c :: t).getD j 0 = (c :: t)[j] := by rw [List.getD_eq_getElem?_getD, List.getElem?_eq_getElem hj]; rfl
      unfold first at this
      rw [e] at this
      split at this
      · exact wordB_of_letter this
      · exact this
    rw [h0, h1]
    simp
set_option maxRecDepth 100000 in
theorem or_letter : ∀ n : Fin 256, letter (UInt8.ofNat n.val) = !((((n.val : Nat) : Int) != 95) && (decide (bits .or .u8 ((n.val : Nat) : Int) 32 < 97) || decide (bits .or .u8 ((n.val : Nat) : Int) 32 > 122))) := by decide +kernel
theorem letter_or (c : UInt8) : letter c = !(((c.toNat : Int) != 95) && (decide (bits .or .u8 (c.toNat : Int) 32 < 97) || decide (bits .or .u8 (c.toNat : Int) 32 > 122))) := by
  have := or_letter ⟨c.toNat, c.toNat_lt⟩
  simpa using this
end Adr
namespace AX
def c_ident : AX.AFn := ⟨50, .seq (.reg false [⟨some 2, .mv (.c (.bool false)), none, []⟩]) (.seq (.seq (.reg false [⟨some 5, .mv (.t 0), none, []⟩, ⟨some 6, .len true (.t 5), none, []⟩, ⟨some 7, .mv (.c (.int .i64 0)), none, []⟩]) (.block 0 (.loop (.seq (.reg false [⟨some 8, .bin .lss (.t 7) (.t 6), none, []⟩]) (.seq (.cond (.t 8) (.skip) (.exit 0)) (.seq (.block 1 (.seq (.reg false [⟨some 9, .mv (.t 7), none, []⟩, ⟨some 3, .mv (.t 9), none, []⟩]) (.seq (.reg false [⟨some 10, .mv (.t 0), none, []⟩, ⟨some 11, .mv (.t 3), none, []⟩, ⟨some 12, .sidx (.t 10) (.t 11), none, []⟩, ⟨some 13, .bin .or (.t 12) (.c (.int .u8 32)), none, []⟩, ⟨some 4, .mv (.t 13), none, []⟩]) (.seq (.reg false [⟨some 14, .mv (.t 0), none, []⟩, ⟨some 15, .mv (.t 3), none, []⟩, ⟨some 16, .sidx (.t 14) (.t 15), none, []⟩, ⟨some 17, .bin .neq (.t 16) (.c (.int .u8 95)), none, []⟩, ⟨some 18, .mv (.t 17), none, []⟩, ⟨some 19, .mv (.t 4), some (18, true), []⟩, ⟨some 20, .bin .lss (.t 19) (.c (.int .u8 97)), some (18, true), []⟩, ⟨some 21, .mv (.t 20), some (18, true), []⟩, ⟨some 22, .mv (.t 4), some (21, false), []⟩, ⟨some 23, .bin .gtr (.t 22) (.c (.int .u8 122)), some (21, false), []⟩, ⟨some 24, .pick (.t 21) (.c (.bool true)) (.t 23), some (18, true), []⟩, ⟨some 25, .pick (.t 18) (.t 24) (.c (.bool false)), none, []⟩, ⟨some 26, .mv (.t 25), none, []⟩, ⟨some 27, .mv (.t 3), some (26, true), []⟩, ⟨some 28, .bin .eql (.t 27) (.c (.int .i64 0)), some (26, true), []⟩, ⟨some 29, .mv (.t 28), some (26, true), []⟩, ⟨some 30, .mv (.t 0), some (29, false), []⟩, ⟨some 31, .mv (.t 3), some (29, false), []⟩, ⟨some 32, .sidx (.t 30) (.t 31), some (29, false), []⟩, ⟨some 33, .bin .lss (.t 32) (.c (.int .u8 48)), some (29, false), []⟩, ⟨some 34, .pick (.t 29) (.c (.bool true)) (.t 33), some (26, true), []⟩, ⟨some 35, .mv (.t 34), some (26, true), []⟩, ⟨some 36, .mv (.t 0), some (35, false), []⟩, ⟨some 37, .mv (.t 3), some (35, false), []⟩, ⟨some 38, .sidx (.t 36) (.t 37), some (35, false), []⟩, ⟨some 39, .bin .gtr (.t 38) (.c (.int .u8 57)), some (35, false), []⟩, ⟨some 40, .pick (.t 35) (.c (.bool true)) (.t 39), some (26, true), []⟩, ⟨some 41, .pick (.t 26) (.t 40) (.c (.bool false)), none, []⟩]) (.cond (.t 41) (.seq (.reg false [⟨some 2, .mv (.c (.bool false)), none, []⟩]) (.ret)) (.skip)))))) (.reg false [⟨some 42, .bin .add (.t 7) (.c (.int .i64 1)), none, []⟩, ⟨some 7, .mv (.t 42), none, []⟩]))))))) (.seq (.reg false [⟨some 43, .mv (.t 0), none, []⟩, ⟨some 44, .bin .neq (.t 43) (.c (.str [])), none, []⟩, ⟨some 45, .mv (.t 44), none, []⟩, ⟨some 46, .mv (.t 0), some (45, true), []⟩, ⟨some 47, .len true (.t 46), some (45, true), []⟩, ⟨some 48, .bin .leq (.t 47) (.c (.int .i64 64)), some (45, true), []⟩, ⟨some 49, .pick (.t 45) (.t 48) (.c (.bool false)), none, []⟩, ⟨some 2, .mv (.t 49), none, []⟩]) (.ret))), [.t 2]⟩
theorem h_ident : AX.compFn Tryz.prog 106 = some c_ident := by kernel_rfl
def c_lcutp : AX.AFn := ⟨15, .seq (.reg false [⟨some 4, .mv (.c (.str [])), none, []⟩, ⟨some 5, .mv (.c (.bool false)), none, []⟩]) (.seq (.seq (.reg false [⟨some 6, .mv (.t 0), none, []⟩, ⟨some 7, .mv (.t 1), none, []⟩, ⟨some 8, .call 122 [.t 6, .t 7], none, []⟩, ⟨some 9, .un .not (.t 8), none, []⟩]) (.cond (.t 9) (.seq (.reg false [⟨some 10, .mv (.t 0), none, []⟩, ⟨some 4, .mv (.t 10), none, []⟩, ⟨some 5, .mv (.c (.bool false)), none, []⟩]) (.ret)) (.skip))) (.seq (.reg false [⟨some 11, .mv (.t 0), none, []⟩, ⟨some 12, .mv (.t 1), none, []⟩, ⟨some 13, .len true (.t 12), none, []⟩, ⟨some 14, .ssl (.t 11) (some (.t 13)) none, none, []⟩, ⟨some 4, .mv (.t 14), none, []⟩, ⟨some 5, .mv (.c (.bool true)), none, []⟩]) (.ret))), [.t 4, .t 5]⟩
theorem h_lcutp : AX.compFn Tryz.prog 270 = some c_lcutp := by kernel_rfl
def c_cutp : AX.AFn := ⟨11, .seq (.reg false [⟨some 4, .mv (.c (.str [])), none, []⟩, ⟨some 5, .mv (.c (.bool false)), none, []⟩]) (.seq (.reg false [⟨some 6, .mv (.t 0), none, []⟩, ⟨some 7, .mv (.t 1), none, []⟩, ⟨some 8, .call 270 [.t 6, .t 7], none, []⟩, ⟨some 9, .extract (.t 8) 0, none, []⟩, ⟨some 10, .extract (.t 8) 1, none, []⟩, ⟨some 4, .mv (.t 9), none, []⟩, ⟨some 5, .mv (.t 10), none, []⟩]) (.ret)), [.t 4, .t 5]⟩
theorem h_cutp : AX.compFn Tryz.prog 244 = some c_cutp := by kernel_rfl
def c_ahas : AX.AFn := ⟨21, .seq (.reg false [⟨some 4, .mv (.c (.bool false)), none, []⟩]) (.seq (.reg false [⟨some 8, .mv (.t 0), none, []⟩, ⟨some 9, .nilck (.t 8), none, []⟩, ⟨some 10, .faddr 0 (.t 9), none, []⟩, ⟨some 11, .load false 1 (.t 10), none, []⟩, ⟨some 12, .mv (.t 1), none, []⟩, ⟨some 13, .call 244 [.t 11, .t 12], none, []⟩, ⟨some 7, .mv (.t 13), none, []⟩, ⟨some 14, .extract (.t 7) 0, none, []⟩, ⟨some 15, .extract (.t 7) 1, none, []⟩, ⟨some 5, .mv (.t 14), none, []⟩, ⟨some 6, .mv (.t 15), none, []⟩]) (.seq (.reg false [⟨some 16, .mv (.t 0), none, []⟩, ⟨some 17, .mv (.t 5), none, []⟩, ⟨some 18, .nilck (.t 16), none, []⟩, ⟨some 19, .faddr 0 (.t 18), none, []⟩, ⟨none, .store 1 (.t 19) (.t 17), none, []⟩]) (.seq (.reg false [⟨some 20, .mv (.t 6), none, []⟩, ⟨some 4, .mv (.t 20), none, []⟩]) (.ret)))), [.t 4]⟩
theorem h_ahas : AX.compFn Tryz.prog 196 = some c_ahas := by kernel_rfl
def c_askip : AX.AFn := ⟨30, .seq (.reg false [⟨some 7, .mv (.t 0), none, []⟩, ⟨some 8, .nilck (.t 7), none, []⟩, ⟨some 9, .faddr 0 (.t 8), none, []⟩, ⟨some 10, .load false 1 (.t 9), none, []⟩, ⟨some 11, .mv (.t 1), none, []⟩, ⟨some 12, .call 244 [.t 10, .t 11], none, []⟩, ⟨some 6, .mv (.t 12), none, []⟩, ⟨some 13, .extract (.t 6) 0, none, []⟩, ⟨some 14, .extract (.t 6) 1, none, []⟩, ⟨some 4, .mv (.t 13), none, []⟩, ⟨some 5, .mv (.t 14), none, []⟩]) (.seq (.reg false [⟨some 15, .mv (.t 0), none, []⟩, ⟨some 16, .mv (.t 4), none, []⟩, ⟨some 17, .nilck (.t 15), none, []⟩, ⟨some 18, .faddr 0 (.t 17), none, []⟩, ⟨none, .store 1 (.t 18) (.t 16), none, []⟩]) (.reg false [⟨some 19, .mv (.t 0), none, []⟩, ⟨some 20, .mv (.t 0), none, []⟩, ⟨some 21, .nilck (.t 20), none, []⟩, ⟨some 22, .faddr 1 (.t 21), none, []⟩, ⟨some 23, .load false 1 (.t 22), none, []⟩, ⟨some 24, .mv (.t 23), none, []⟩, ⟨some 25, .mv (.t 5), some (24, false), []⟩, ⟨some 26, .un .not (.t 25), some (24, false), []⟩, ⟨some 27, .pick (.t 24) (.c (.bool true)) (.t 26), none, []⟩, ⟨some 28, .nilck (.t 19), none, []⟩, ⟨some 29, .faddr 1 (.t 28), none, []⟩, ⟨none, .store 1 (.t 29) (.t 27), none, []⟩])), []⟩
theorem h_askip : AX.compFn Tryz.prog 198 = some c_askip := by kernel_rfl

theorem a_ident (s : List UInt8) (hl : s.length ≤ 2000000) (h : Hp) : ACall Tryz.prog GT 106 [.str s] h fun r h' => r = .bool (Adr.ident s) ∧ h' = h := by
  refine pcall ?_ rfl (by simp [A.pure, A.data]) h
  refine acall_of mixedT h_ident (by simp [c_ident]) ?_
  dsimp only [c_ident]
  (refine AX.run0 True.intro ?_)
  refine awp_loop (fun mm ts h => ∃ (j : Nat), mm = s.length - j ∧ j ≤ s.length ∧ h = ⟨[], []⟩ ∧ Adr.idOk j s ∧ ts 0 = .str s ∧ ts 6 = .int .i64 (s.length : Nat) ∧ ts 7 = .int .i64 (j : Nat)) s.length ?_ ?_
  · exact ⟨0, by omega, by omega, rfl, fun k hk => absurd hk (Nat.not_lt_zero k), by (exact AX.ev0 True.intro), by (exact AX.ev0 True.intro), by (exact AX.inv0 True.intro)⟩
  rintro mm ts h ⟨j, rfl, hjc, rfl, hok, t0, t6, t7⟩
  by_cases hj : j < s.length
  · have hlt : (j : Int) < (s.length : Int) := by omega
    have hj0 : (0 : Int) ≤ (j : Int) := by omega
    have ei : IntKind.i64.wrap ((j : Int) + 1) = ((j + 1 : Nat) : Int) := by rw [wrap64 (by omega) (by omega)]; omega
    obtain ⟨c, hc⟩ : ∃ c, s.getD j 0 = c := ⟨_, rfl⟩
    have hfl : Adr.letter c = false → j = 0 ∨ Adr.wordB c = false → Adr.ident s = false := fun h1 h2 => Adr.ident_fail hj (by
      rw [hc]; unfold Adr.first
      rcases h2 with h2 | h2
      · rw [if_pos h2]; exact h1
      · split
        · exact h1
        · exact h2)
    have hgo : Adr.first j c = true → Adr.idOk (j + 1) s := fun h1 k hk => by
      by_cases e : k = j
      · rw [e, hc]; exact h1
      · exact hok k (by omega)
    have hlo := Adr.letter_or c
    have hdg := Num.digB_int c
    have hwb : Adr.wordB c = (Adr.letter c || Num.digB c) := rfl
    obtain ⟨x, hx⟩ : ∃ x : Int, (c.toNat : Int) = x := ⟨_, rfl⟩
    rw [hx] at hlo hdg
    obtain ⟨y, hy⟩ : ∃ y : Int, bits .or .u8 x 32 = y := ⟨_, rfl⟩
    rw [hy] at hlo
    have next : Adr.first j c = true → ∃ m', m' < s.length - j ∧ ∃ (j' : Nat), m' = s.length - j' ∧ j' ≤ s.length ∧ Adr.idOk j' s ∧ j' = j + 1 := fun h1 => ⟨s.length - (j + 1), by omega, j + 1, rfl, by omega, hgo h1, rfl⟩
    by_cases h95 : x = 95
    · have e1 : (x != 95) = false := by simp [h95]
      have hL : Adr.letter c = true := by rw [hlo, e1]; rfl
      (refine AX.run0 (And.intro t0 (And.intro t6 (And.intro t7 (And.intro hlt (And.intro hj0 (And.intro hc (And.intro hx (And.intro hy (And.intro e1 ei))))))))) ?_)
      exact ⟨s.length - (j + 1), by omega, j + 1, rfl, by omega, rfl, hgo (by unfold Adr.first; split; exact hL; rw [hwb, hL]; rfl), by (exact AX.ev0 t0), by (exact AX.ev0 t6), by (exact AX.ev0 ei)⟩
    have e1 : (x != 95) = true := by simp [h95]
    by_cases h97 : y < 97 ∨ y > 122
    rotate_left
    · have e2 : ¬ y < 97 := by omega
      have e3 : ¬ y > 122 := by omega
      have hL : Adr.letter c = true := by rw [hlo, e1, decide_eq_false e2, decide_eq_false e3]; rfl
      (refine AX.run0 (And.intro t0 (And.intro t6 (And.intro t7 (And.intro hlt (And.intro hj0 (And.intro hc (And.intro hx (And.intro hy (And.intro e1 (And.intro e2 (And.intro e3 ei))))))))))) ?_)
      exact ⟨s.length - (j + 1), by omega, j + 1, rfl, by omega, rfl, hgo (by unfold Adr.first; split; exact hL; rw [hwb, hL]; rfl), by (exact AX.ev0 t0), by (exact AX.ev0 t6), by (exact AX.ev0 ei)⟩
    have hL : Adr.letter c = false := by
      rw [hlo, e1]
      rcases h97 with h97 | h97
      · rw [decide_eq_true h97]; rfl
      · rw [decide_eq_true h97, Bool.or_true]; rfl
    have fail : (j = 0 ∨ Adr.wordB c = false) → Adr.ident s = false := hfl hL
    have e23 : y < 97 ∨ (¬ y < 97 ∧ y > 122) := by omega
    by_cases hz : j = 0
    · have e4 : ((j : Int) == 0) = true := by simp [hz]
      have hF := fail (.inl hz)
      rcases e23 with e2 | ⟨e2, e3⟩
      · (refine AX.run0 (And.intro t0 (And.intro t6 (And.intro t7 (And.intro hlt (And.intro hj0 (And.intro hc (And.intro hx (And.intro hy (And.intro e1 (And.intro e2 e4)))))))))) ?_)
        exact ⟨_, le_refl _, by rw [hF]; rfl⟩
      · (refine AX.run0 (And.intro t0 (And.intro t6 (And.intro t7 (And.intro hlt (And.intro hj0 (And.intro hc (And.intro hx (And.intro hy (And.intro e1 (And.intro e2 (And.intro e3 e4))))))))))) ?_)
        exact ⟨_, le_refl _, by rw [hF]; rfl⟩
    have e4 : ((j : Int) == 0) = false := by simp; omega
    by_cases hd : 48 ≤ x ∧ x ≤ 57
    · have e5 : ¬ x < 48 := by omega
      have e6 : ¬ x > 57 := by omega
      have hW : Adr.wordB c = true := by rw [hwb, hdg, decide_eq_true hd.1, decide_eq_true hd.2, hL]; rfl
      have hfst : Adr.first j c = true := by unfold Adr.first; rw [if_neg hz]; exact hW
      rcases e23 with e2 | ⟨e2, e3⟩
      · (refine AX.run0 (And.intro t0 (And.intro t6 (And.intro t7 (And.intro hlt (And.intro hj0 (And.intro hc (And.intro hx (And.intro hy (And.intro e1 (And.intro e2 (And.intro e4 (And.intro e5 (And.intro e6 ei))))))))))))) ?_)
        exact ⟨s.length - (j + 1), by omega, j + 1, rfl, by omega, rfl, hgo hfst, by (exact AX.ev0 t0), by (exact AX.ev0 t6), by (exact AX.ev0 ei)⟩
      · (refine AX.run0 (And.intro t0 (And.intro t6 (And.intro t7 (And.intro hlt (And.intro hj0 (And.intro hc (And.intro hx (And.intro hy (And.intro e1 (And.intro e2 (And.intro e3 (And.intro e4 (And.intro e5 (And.intro e6 ei)))))))))))))) ?_)
        exact ⟨s.length - (j + 1), by omega, j + 1, rfl, by omega, rfl, hgo hfst, by (exact AX.ev0 t0), by (exact AX.ev0 t6), by (exact AX.ev0 ei)⟩
    · have hD : Num.digB c = false := by
        rw [hdg]
        by_cases a : 48 ≤ x
        · rw [decide_eq_true a, decide_eq_false (by omega)]; rfl
        · rw [decide_eq_false a]; rfl
      have hF := fail (.inr (by rw [hwb, hL, hD]; rfl))
      have e56 : x < 48 ∨ (¬ x < 48 ∧ x > 57) := by omega
      rcases e23 with e2 | ⟨e2, e3⟩
      · rcases e56 with e5 | ⟨e5, e6⟩
        · (refine AX.run0 (And.intro t0 (And.intro t6 (And.intro t7 (And.intro hlt (And.intro hj0 (And.intro hc (And.intro hx (And.intro hy (And.intro e1 (And.intro e2 (And.intro e4 e5))))))))))) ?_)
          exact ⟨_, le_refl _, by rw [hF]; rfl⟩
        · (refine AX.run0 (And.intro t0 (And.intro t6 (And.intro t7 (And.intro hlt (And.intro hj0 (And.intro hc (And.intro hx (And.intro hy (And.intro e1 (And.intro e2 (And.intro e4 (And.intro e5 e6)))))))))))) ?_)
          exact ⟨_, le_refl _, by rw [hF]; rfl⟩
      · rcases e56 with e5 | ⟨e5, e6⟩
        · (refine AX.run0 (And.intro t0 (And.intro t6 (And.intro t7 (And.intro hlt (And.intro hj0 (And.intro hc (And.intro hx (And.intro hy (And.intro e1 (And.intro e2 (And.intro e3 (And.intro e4 e5)))))))))))) ?_)
          exact ⟨_, le_refl _, by rw [hF]; rfl⟩
        · (refine AX.run0 (And.intro t0 (And.intro t6 (And.intro t7 (And.intro hlt (And.intro hj0 (And.intro hc (And.intro hx (And.intro hy (And.intro e1 (And.intro e2 (And.intro e3 (And.intro e4 (And.intro e5 e6))))))))))))) ?_)
          exact ⟨_, le_refl _, by rw [hF]; rfl⟩
  · have hlt : ¬ ((j : Int) < (s.length : Int)) := by omega
    have hje : j = s.length := by omega
    rw [hje] at hok
    have hE := Adr.ident_end hok
    by_cases hn : s = []
    · have e1 : (s != []) = false := by simp [hn]
      rw [e1] at hE
      (refine AX.run0 (And.intro t0 (And.intro t6 (And.intro t7 (And.intro hlt e1)))) ?_)
      exact ⟨_, le_refl _, by rw [hE]; rfl⟩
    · have e1 : (s != []) = true := by simp [hn]
      rw [e1] at hE
      have e2 : decide ((s.length : Int) ≤ 64) = decide (s.length ≤ 64) := decide_eq_decide.2 (by omega)
      (refine AX.run0 (And.intro t0 (And.intro t6 (And.intro t7 (And.intro hlt e1)))) ?_)
      exact ⟨_, le_refl _, by rw [hE]; first | rfl | (rw [tupA_1, e2]; rfl) | rw [← e2]; rfl⟩
theorem a_lcutp (s p : List UInt8) (h : Hp) : ACall Tryz.prog GT 270 [.str s, .str p] h fun r h' => r = .tup [.str (if Adr.begins s p then s.drop p.length else s), .bool (Adr.begins s p)] ∧ h' = h := by
  refine pcall ?_ rfl (by simp [A.pure, A.data]) h
  refine acall_of mixedT h_lcutp (by simp [c_lcutp]) ?_
  dsimp only [c_lcutp]
  have hp : (decide (p.length ≤ s.length) && s.take p.length == p) = Adr.begins s p := by
    unfold Adr.begins
    rw [Bool.eq_iff_iff, List.isPrefixOf_iff_prefix, List.prefix_iff_eq_take, Bool.and_eq_true, decide_eq_true_eq, beq_iff_eq]
    constructor
    · rintro ⟨h1, h2⟩; exact h2.symm
    · intro h2
      exact ⟨by have := congrArg List.length h2; rw [List.length_take] at this; omega, h2.symm⟩
  have hc := fun h => a_liteHasPrefix s p h
  rw [hp] at hc
  (refine AX.run0 True.intro ?_)
  refine use (hc _) ?_
  cases hB : Adr.begins s p
  · (refine AX.run0 True.intro ?_)
    exact ⟨_, le_refl _, rfl⟩
  · have hle : (p.length : Int) ≤ (s.length : Int) := by have := Adr.begins_len hB; omega
    have h0 : (0 : Int) ≤ (p.length : Int) := by omega
    (refine AX.run0 (And.intro hle h0) ?_)
    refine ⟨_, le_refl _, ?_⟩
    rw [if_pos rfl]
    first | rfl | (rw [tupA_2]; simp)
theorem a_cutp (s p : List UInt8) (h : Hp) : ACall Tryz.prog GT 244 [.str s, .str p] h fun r h' => r = .tup [.str (if Adr.begins s p then s.drop p.length else s), .bool (Adr.begins s p)] ∧ h' = h := by
  refine pcall ?_ rfl (by simp [A.pure, A.data]) h
  refine acall_of mixedT h_cutp (by simp [c_cutp]) ?_
  dsimp only [c_cutp]
  (refine AX.run0 True.intro ?_)
  refine use (a_lcutp s p _) ?_
  (refine AX.run0 True.intro ?_)
  exact ⟨_, le_refl _, rfl⟩
/-- The reader of an address in a box. -/
def adB (r : Adr.Rd) : Blk := .cells 249 [.str r.rest, .bool r.bad]
theorem adB_loc (r : Adr.Rd) : (adB r).loc 0 := rfl
theorem w_has (p : List UInt8) (r : Adr.Rd) {h : Hp} {i : Nat} (hb : h.b[i]? = some (adB r)) :
    ACall Tryz.prog GT 196 [.ptr i 0, .str p] h fun v h' => v = .bool (Adr.hasP p r).1 ∧ h' = ⟨h.b.set i (adB (Adr.hasP p r).2), h.t⟩ := by
  have key : ACall Tryz.prog GT 196 [.ptr 0 0, .str p] ⟨[adB r], []⟩ fun v h' => ∃ b', h'.b[0]? = some b' ∧ v = .bool (Adr.hasP p r).1 ∧ b' = adB (Adr.hasP p r).2 := by
    refine acall_of mixedT h_ahas (by simp [c_ahas]) ?_
    dsimp only [c_ahas]
    unfold adB
    (refine AX.run0 True.intro ?_)
    refine use (a_cutp r.rest p _) ?_
    unfold Adr.hasP
    cases hB : Adr.begins r.rest p
    · (refine AX.run0 True.intro ?_)
      exact ⟨_, le_refl _, _, rfl, rfl, rfl⟩
    · (refine AX.run0 True.intro ?_)
      exact ⟨_, le_refl _, _, rfl, rfl, rfl⟩
  refine (ACall.lift1 key rfl (adB_loc r) ?_ hb).mono ?_
  · rintro v b' ⟨rfl, rfl⟩; exact ⟨rfl, adB_loc _⟩
  · rintro v h' ⟨b', ⟨rfl, rfl⟩, rfl⟩; exact ⟨rfl, rfl⟩
theorem w_skip (p : List UInt8) (r : Adr.Rd) {h : Hp} {i : Nat} (hb : h.b[i]? = some (adB r)) :
    ACall Tryz.prog GT 198 [.ptr i 0, .str p] h fun v h' => v = .tup [] ∧ h' = ⟨h.b.set i (adB (Adr.skipP p r)), h.t⟩ := by
  have key : ACall Tryz.prog GT 198 [.ptr 0 0, .str p] ⟨[adB r], []⟩ fun v h' => ∃ b', h'.b[0]? = some b' ∧ v = .tup [] ∧ b' = adB (Adr.skipP p r) := by
    obtain ⟨rest, bad⟩ := r
    refine acall_of mixedT h_askip (by simp [c_askip]) ?_
    dsimp only [c_askip]
    unfold adB
    (refine AX.run0 True.intro ?_)
    refine use (a_cutp rest p _) ?_
    unfold Adr.skipP
    dsimp only
    cases hB : Adr.begins rest p
    · cases bad
      · (refine AX.run0 True.intro ?_)
        exact ⟨_, le_refl _, _, rfl, rfl, rfl⟩
      · (refine AX.run0 True.intro ?_)
        exact ⟨_, le_refl _, _, rfl, rfl, rfl⟩
    · cases bad
      · (refine AX.run0 True.intro ?_)
        exact ⟨_, le_refl _, _, rfl, rfl, rfl⟩
      · (refine AX.run0 True.intro ?_)
        exact ⟨_, le_refl _, _, rfl, rfl, rfl⟩
  refine (ACall.lift1 key rfl (adB_loc r) ?_ hb).mono ?_
  · rintro v b' ⟨rfl, rfl⟩; exact ⟨rfl, adB_loc _⟩
  · rintro v h' ⟨b', ⟨rfl, rfl⟩, rfl⟩; exact ⟨rfl, rfl⟩
end AX
end Go.Proofs.YtkhhnkceiibmfaaGreatDoor

namespace Go.Proofs.YtkhhnkceiibmfaaGreatDoor
open Go.RowKit
set_option linter.unusedSimpArgs false
set_option linter.unusedVariables false
set_option maxHeartbeats 4000000
namespace Wire
end Wire
namespace Val
end Val
namespace AX
theorem Gs.grow {E : TypeId} {W : Nat} {t : List (TypeId × Nat × Nat)} {W1 : Nat} {o1 : Own} {rows : List (List A)} (hg : Gs E W 0 ⟨[], t⟩ rows (.sl W1 o1 rows)) (bytes : Nat) (y : List A) (h1 : rows.length + 1 ≤ 1000000000) (h2 : bytes ≤ 1000) :
    ∃ W' o' t', (∀ b, appA ⟨b, t⟩ E W bytes (.sl W1 o1 rows) (.sl W .no [y]) = some (.sl W' o' (rows ++ [y]), ⟨b, t'⟩)) ∧ Gs E W 0 ⟨[], t'⟩ (rows ++ [y]) (.sl W' o' (rows ++ [y])) ∧ (∀ (E' : TypeId) (W' : Nat) (rows' : List (List A)) (x'' : A), E' ≠ E → Gs E' W' 0 ⟨[], t⟩ rows' x'' → Gs E' W' 0 ⟨[], t'⟩ rows' x'') := by
  obtain ⟨x', t', k1, k2, k3, k4, k5⟩ := hg.app (Nat.zero_le _) bytes y h1 h2
  obtain ⟨W', o', rfl⟩ := (k2 []).sl
  exact ⟨W', o', t', k1, k2 [], fun E' W' rows' x'' hne hg' => Gs.keep hg' fun k n hh => k5 k _ _ _ hne hh⟩
end AX
end Go.Proofs.YtkhhnkceiibmfaaGreatDoor

namespace Go.Proofs.YtkhhnkceiibmfaaGreatDoor
namespace Sf
/-- A reader of parts: the bytes, and whether something was no value or no bool. -/
structure Rs where
  r : Wire.St
  bad : Bool
def Rs.fails (s : Rs) : Bool := s.bad || s.r.e != 0
def numS (s : Rs) : Rs × Int := (⟨(Wire.numR s.r).1, s.bad⟩, (Wire.numR s.r).2)
def strS (s : Rs) : Rs × List UInt8 := (⟨(Wire.strR s.r).1, s.bad⟩, (Wire.strR s.r).2)
def cntS (s : Rs) : Rs × Nat := (⟨(Wire.cntR s.r 1).1, s.bad⟩, (Wire.cntR s.r 1).2)
def flagS (s : Rs) : Rs × Bool :=
  let q := Wire.numR s.r
  (⟨q.1, s.bad || (q.2 != 0 && q.2 != 1)⟩, q.2 == 1)
def valueS (s : Rs) : Rs × V :=
  let x := Val.readValue s.r
  (⟨x.1, s.bad || x.2.1 != 0⟩, x.2.2)
def wordsS : Nat → Rs → List (List UInt8) → Rs × List (List UInt8)
  | 0, s, l => (s, l)
  | c + 1, s, l => wordsS c (strS s).1 (l ++ [(strS s).2])
def instS (ver : Int) (s : Rs) : Rs × Inst :=
  let a := strS s
  let b := strS a.1
  let c := strS b.1
  let d := strS c.1
  let v := valueS d.1
  let n := numS v.1
  let t := flagS n.1
  let f := if ver = 2 then flagS t.1 else (t.1, false)
  let k := cntS f.1
  let w := wordsS k.2 k.1 []
  (w.1, ⟨a.2, b.2, c.2, d.2, v.2, n.2, t.2, f.2, w.2⟩)
def pendS (s : Rs) : Rs × Pend :=
  let a := strS s
  let b := strS a.1
  let c := strS b.1
  (c.1, ⟨a.2, b.2, c.2⟩)
def outS (s : Rs) : Rs × Outp :=
  let a := strS s
  let v := valueS a.1
  let f := flagS v.1
  (f.1, ⟨a.2, v.2, f.2⟩)
/-- Parts one after the other; true: all were read. -/
def instsS (ver : Int) : Nat → Rs → List Inst → Rs × List Inst × Bool
  | 0, s, l => (s, l, true)
  | c + 1, s, l => if s.fails then (s, l, false) else instsS ver c (instS ver s).1 (l ++ [(instS ver s).2])
def pendsS : Nat → Rs → List Pend → Rs × List Pend
  | 0, s, l => (s, l)
  | c + 1, s, l => pendsS c (pendS s).1 (l ++ [(pendS s).2])
def outsS : Nat → Rs → List Outp → Rs × List Outp × Bool
  | 0, s, l => (s, l, true)
  | c + 1, s, l => if s.fails then (s, l, false) else outsS c (outS s).1 (l ++ [(outS s).2])
def stateS (ver : Int) (s : Rs) : Rs × St :=
  let a := strS s
  let n := numS a.1
  let ci := cntS n.1
  let i := instsS ver ci.2 ci.1 []
  if i.2.2 = false then (i.1, ⟨a.2, n.2, i.2.1, [], []⟩)
  else
    let p := if ver = 2 then pendsS (cntS i.1).2 (cntS i.1).1 [] else (i.1, [])
    let co := cntS p.1
    let o := outsS co.2 co.1 []
    (o.1, ⟨a.2, n.2, i.2.1, p.2, o.2.1⟩)
end Sf
end Go.Proofs.YtkhhnkceiibmfaaGreatDoor
