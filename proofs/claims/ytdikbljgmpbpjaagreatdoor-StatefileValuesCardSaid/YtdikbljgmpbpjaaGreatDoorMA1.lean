/- Part of what the proof needs. -/
import Derived.Test.YtdikbljgmpbpjaaGreatDoorMA0
namespace Go.Proofs.YtdikbljgmpbpjaaGreatDoor
open Go.RowKit
set_option linter.unusedSimpArgs false
set_option linter.unusedVariables false
namespace AX
mutual
/-- The boxes' numbers turned. -/
def A.ren (σ : Nat → Nat) : A → A
  | .int k n => .int k n
  | .str l => .str l
  | .bool b => .bool b
  | .sl W o rows => .sl W o rows
  | .ptr i o => .ptr (σ i) o
  | .vptr l => .vptr l
  | .nilp => .nilp
  | .nili => .nili
  | .nilf => .nilf
  | .fn f caps => .fn f (A.renL σ caps)
  | .agg l => .agg (A.renL σ l)
  | .tup l => .tup (A.renL σ l)
def A.renL (σ : Nat → Nat) : List A → List A
  | [] => []
  | x :: l => x.ren σ :: A.renL σ l
end
mutual
/-- No box but the first k, no row that grows. -/
def A.loc (k : Nat) : A → Bool
  | .ptr i _ => decide (i < k)
  | .sl _ (.tok _) _ => false
  | .fn _ caps => A.locL k caps
  | .agg l => A.locL k l
  | .tup l => A.locL k l
  | _ => true
def A.locL (k : Nat) : List A → Bool
  | [] => true
  | x :: l => x.loc k && A.locL k l
end
def Blk.ren (σ : Nat → Nat) : Blk → Blk
  | .cells T l => .cells T (A.renL σ l)
  | .opq R vis => .opq R vis
def Blk.loc (k : Nat) : Blk → Prop
  | .cells _ l => A.locL k l = true
  | .opq _ vis => ∀ o x, vis o = some x → x.data = true
structure Ren (C0 C : Ctx) (σ : Nat → Nat) (k : Nat) : Prop where
  cells : ∀ g j, C0.S g j → C.S g j ∧ C.w.cell? ⟨g, j, none⟩ = C0.w.cell? ⟨g, j, none⟩
  box : ∀ j, j < k → σ j < C.nb ∧ C.κ (σ j) = C0.κ j
structure RenR (C C0 : Ctx) (σ : Nat → Nat) (k : Nat) : Prop where
  cells : ∀ g j, C.S g j → C0.S g j ∧ C0.w.cell? ⟨g, j, none⟩ = C.w.cell? ⟨g, j, none⟩
  box : ∀ j, j < k → j < C0.nb ∧ C0.κ j = C.κ (σ j)
section
variable {C C0 : Ctx} {σ : Nat → Nat} {k : Nat}
mutual
theorem Rep.ren (h : Ren C0 C σ k) : ∀ (x : A) (v : Value), x.loc k = true → Rep C0 x v → Rep C (x.ren σ) v
  | .int _ n, v, d, r => by unfold A.ren; unfold Rep at r ⊢; exact r
  | .str l, v, d, r => by unfold A.ren; unfold Rep at r ⊢; exact r
  | .bool b, v, d, r => by unfold A.ren; unfold Rep at r ⊢; exact r
  | .sl W o rows, v, d, r => by
    unfold A.ren
    cases o with
    | no => exact Rep.same ⟨h.cells⟩ (.sl W .no rows) v rfl r
    | nil => exact Rep.same ⟨h.cells⟩ (.sl W .nil rows) v rfl r
    | tok t => simp [A.loc] at d
  | .ptr i o, v, d, r => by
    unfold A.ren; unfold Rep at r ⊢
    unfold A.loc at d
    have hi := h.box i (by simpa using d)
    rw [hi.2]
    exact ⟨r.1, hi.1⟩
  | .vptr l, v, d, r => by
    unfold A.ren; unfold Rep at r ⊢
    obtain ⟨g, off, h1, h2⟩ := r
    exact ⟨g, off, h1, RepAt.same ⟨h.cells⟩ l g off h2⟩
  | .nilp, v, d, r => by unfold A.ren; unfold Rep at r ⊢; exact r
  | .nili, v, d, r => by unfold A.ren; unfold Rep at r ⊢; exact r
  | .nilf, v, d, r => by unfold A.ren; unfold Rep at r ⊢; exact r
  | .fn f caps, v, d, r => by
    unfold A.ren; unfold Rep at r ⊢
    obtain ⟨cs, h1, h2⟩ := r
    exact ⟨cs, h1, RepL.ren h caps cs (by unfold A.loc at d; exact d) h2⟩
  | .agg l, v, d, r => by
    unfold A.ren; unfold Rep at r ⊢
    obtain ⟨cs, h1, h2⟩ := r
    exact ⟨cs, h1, RepL.ren h l cs (by unfold A.loc at d; exact d) h2⟩
  | .tup l, v, d, r => by
    unfold A.ren; unfold Rep at r ⊢
    obtain ⟨cs, h1, h2⟩ := r
    exact ⟨cs, h1, RepL.ren h l cs (by unfold A.loc at d; exact d) h2⟩
theorem RepL.ren (h : Ren C0 C σ k) : ∀ (l : List A) (cs : List Value), A.locL k l = true → RepL C0 l cs → RepL C (A.renL σ l) cs
  | [], cs, d, r => by unfold A.renL; unfold RepL at r ⊢; exact r
  | x :: l, cs, d, r => by
    unfold A.renL; unfold RepL at r ⊢
    unfold A.locL at d
    rw [Bool.and_eq_true] at d
    obtain ⟨c, cs', h1, h2, h3⟩ := r
    exact ⟨c, cs', h1, Rep.ren h x c d.1 h2, RepL.ren h l cs' d.2 h3⟩
end
mutual
theorem Rep.renR (h : RenR C C0 σ k) : ∀ (x : A) (v : Value), x.loc k = true → Rep C (x.ren σ) v → Rep C0 x v
  | .int _ n, v, d, r => by unfold A.ren at r; unfold Rep at r ⊢; exact r
  | .str l, v, d, r => by unfold A.ren at r; unfold Rep at r ⊢; exact r
  | .bool b, v, d, r => by unfold A.ren at r; unfold Rep at r ⊢; exact r
  | .sl W o rows, v, d, r => by
    unfold A.ren at r
    cases o with
    | no => exact Rep.same ⟨h.cells⟩ (.sl W .no rows) v rfl r
    | nil => exact Rep.same ⟨h.cells⟩ (.sl W .nil rows) v rfl r
    | tok t => simp [A.loc] at d
  | .ptr i o, v, d, r => by
    unfold A.ren at r; unfold Rep at r ⊢
    unfold A.loc at d
    have hi := h.box i (by simpa using d)
    rw [hi.2]
    exact ⟨r.1, hi.1⟩
  | .vptr l, v, d, r => by
    unfold A.ren at r; unfold Rep at r ⊢
    obtain ⟨g, off, h1, h2⟩ := r
    exact ⟨g, off, h1, RepAt.same ⟨h.cells⟩ l g off h2⟩
  | .nilp, v, d, r => by unfold A.ren at r; unfold Rep at r ⊢; exact r
  | .nili, v, d, r => by unfold A.ren at r; unfold Rep at r ⊢; exact r
  | .nilf, v, d, r => by unfold A.ren at r; unfold Rep at r ⊢; exact r
  | .fn f caps, v, d, r => by
    unfold A.ren at r; unfold Rep at r ⊢
    obtain ⟨cs, h1, h2⟩ := r
    exact ⟨cs, h1, RepL.renR h caps cs (by unfold A.loc at d; exact d) h2⟩
  | .agg l, v, d, r => by
    unfold A.ren at r; unfold Rep at r ⊢
    obtain ⟨cs, h1, h2⟩ := r
    exact ⟨cs, h1, RepL.renR h l cs (by unfold A.loc at d; exact d) h2⟩
  | .tup l, v, d, r => by
    unfold A.ren at r; unfold Rep at r ⊢
    obtain ⟨cs, h1, h2⟩ := r
    exact ⟨cs, h1, RepL.renR h l cs (by unfold A.loc at d; exact d) h2⟩
theorem RepL.renR (h : RenR C C0 σ k) : ∀ (l : List A) (cs : List Value), A.locL k l = true → RepL C (A.renL σ l) cs → RepL C0 l cs
  | [], cs, d, r => by unfold A.renL at r; unfold RepL at r ⊢; exact r
  | x :: l, cs, d, r => by
    unfold A.renL at r; unfold RepL at r ⊢
    unfold A.locL at d
    rw [Bool.and_eq_true] at d
    obtain ⟨c, cs', h1, h2, h3⟩ := r
    exact ⟨c, cs', h1, Rep.renR h x c d.1 h2, RepL.renR h l cs' d.2 h3⟩
end
end
/-- The boxes σ 0, σ 1, .. set to these. -/
def setAll (σ : Nat → Nat) : List Blk → Nat → List Blk → List Blk
  | l, _, [] => l
  | l, j, b :: bs => setAll σ (l.set (σ j) (b.ren σ)) (j + 1) bs
theorem setAll_length (σ : Nat → Nat) : ∀ (bs l : List Blk) (j : Nat), (setAll σ l j bs).length = l.length
  | [], l, j => rfl
  | b :: bs, l, j => by rw [setAll, setAll_length σ bs]; simp
theorem setAll_other (σ : Nat → Nat) {i : Nat} : ∀ (bs l : List Blk) (j : Nat), (∀ m, j ≤ m → m < j + bs.length → σ m ≠ i) → (setAll σ l j bs)[i]? = l[i]?
  | [], l, j, h => rfl
  | b :: bs, l, j, h => by
    rw [setAll, setAll_other σ bs _ _ fun m h1 h2 => h m (by omega) (by simp; omega)]
    rw [List.getElem?_set, if_neg (h j (Nat.le_refl _) (by simp))]
theorem setAll_at (σ : Nat → Nat) {i : Nat} : ∀ (bs l : List Blk) (j : Nat), (∀ m m', m < j + bs.length → m' < j + bs.length → σ m = σ m' → m = m') → (∀ m, m < j + bs.length → σ m < l.length) → ∀ m (hm : m < bs.length), (setAll σ l j bs)[σ (j + m)]? = some (bs[m].ren σ)
  | [], l, j, hi, hl, m, hm => by simp at hm
  | b :: bs, l, j, hi, hl, 0, hm => by
    simp only [Nat.add_zero]
    rw [setAll, setAll_other σ bs _ _ fun m h1 h2 e => by
      have := hi m j (by simp; omega) (by simp) e
      omega]
    rw [List.getElem?_set, if_pos rfl, if_pos (hl j (by simp))]; rfl
  | b :: bs, l, j, hi, hl, m + 1, hm => by
    rw [setAll, show j + (m + 1) = (j + 1) + m by omega]
    have := setAll_at σ (i := i) bs (l.set (σ j) (b.ren σ)) (j + 1) (fun m m' h1 h2 => hi m m' (by simp; omega) (by simp; omega)) (fun m h1 => by simpa using hl m (by simp; omega)) m (by simpa using hm)
    simpa using this
open Classical in
noncomputable def ownOf (C : Ctx) (σ : Nat → Nat) (k : Nat) (g : Nat) : Option Nat :=
  if h : ∃ j, j < k ∧ C.own g = some (σ j) then some h.choose else none
theorem ownOf_some {C : Ctx} {σ : Nat → Nat} {k : Nat} (hinj : ∀ i j, i < k → j < k → σ i = σ j → i = j) (g j : Nat) : ownOf C σ k g = some j ↔ j < k ∧ C.own g = some (σ j) := by
  unfold ownOf
  constructor
  · intro e
    split at e
    · next h =>
      injection e with e
      have := h.choose_spec
      rw [e] at this
      exact this
    · cases e
  · rintro ⟨h1, h2⟩
    have h : ∃ j, j < k ∧ C.own g = some (σ j) := ⟨j, h1, h2⟩
    rw [dif_pos h]
    have h3 := h.choose_spec
    have : σ h.choose = σ j := Option.some.inj (h3.2.symm.trans h2)
    rw [hinj _ _ h3.1 h1 this]
theorem ownOf_none {C : Ctx} {σ : Nat → Nat} {k g : Nat} (h : ∀ j, j < k → C.own g ≠ some (σ j)) : ownOf C σ k g = none := by
  unfold ownOf
  rw [dif_neg (by rintro ⟨j, h1, h2⟩; exact h j h1 h2)]
/-- What was walked where its boxes stand alone holds anywhere. -/
theorem ACall.lift {P : Program} {G : World → Prop} {f : FuncId} {args : List A} {bs : List Blk} {Q0 : A → Hp → Prop} (hc : ACall P G f args ⟨bs, []⟩ Q0) (σ : Nat → Nat) (hinj : ∀ i j, i < bs.length → j < bs.length → σ i = σ j → i = j)
    (ha : A.locL bs.length args = true) (hbs : ∀ b ∈ bs, b.loc bs.length) (hq : ∀ v h', Q0 v h' → v.loc bs.length = true ∧ ∀ (j : Nat) b, j < bs.length → h'.b[j]? = some b → b.loc bs.length)
    {h : Hp} (hh : ∀ (j : Nat) (hj : j < bs.length), h.b[σ j]? = some (bs[j].ren σ)) :
    ACall P G f (A.renL σ args) h fun v h' => ∃ v0 h0, Q0 v0 h0 ∧ v = v0.ren σ ∧ h' = ⟨setAll σ h.b 0 (h0.b.take bs.length), h.t⟩ := by
  obtain ⟨k, hk⟩ : ∃ k, bs.length = k := ⟨_, rfl⟩
  rw [hk] at hinj ha hbs hq ⊢
  intro C cs hI hr
  have hσ : ∀ j, j < k → σ j < C.nb := fun j hj => by
    rw [← hI.nb]; exact (List.getElem?_eq_some_iff.1 (hh j (by omega))).1
  let C0 : Ctx := { C with κ := fun j => C.κ (σ j), nb := k, hw := fun _ => none, own := ownOf C σ k }
  have ho : ∀ g j, C0.own g = some j ↔ j < k ∧ C.own g = some (σ j) := fun g j => ownOf_some hinj g j
  have hon : ∀ g, C.own g = none → C0.own g = none := fun g hg => ownOf_none fun j _ e => by rw [hg] at e; cases e
  have rR : RenR C C0 σ k := ⟨fun g j hs => ⟨hs, rfl⟩, fun j hj => ⟨hj, rfl⟩⟩
  have I0 : Inv G C0 ⟨bs, []⟩ := by
    refine ⟨hk, fun j b hb => ?_, fun j hj => (ho _ _).2 ⟨hj, hI.ownk (σ j) (hσ j hj)⟩, fun g j hg => ?_, fun g j hs => ?_, fun t E W m ht => by simp [C0] at ht, fun t t' ht => by simp [C0] at ht, fun t => by simp [C0], hI.base, hI.glob⟩
    · obtain ⟨hj, rfl⟩ := List.getElem?_eq_some_iff.1 hb
      have hj' : j < bs.length := hj
      have hB := hI.box (σ j) _ (hh j hj')
      have hl := hbs bs[j] (List.getElem_mem hj')
      show BlkRep C0 j bs[j]
      revert hB hl
      generalize bs[j] = b
      intro hB hl
      cases b with
      | cells T l =>
        obtain ⟨cs, h1, h2⟩ := hB
        exact ⟨cs, h1, RepL.renR rR l cs hl h2⟩
      | opq R vis =>
        have e : (fun g => C0.own g = some j) = fun g => C.own g = some (σ j) := funext fun g => propext ⟨fun h => ((ho g j).1 h).2, fun h => (ho g j).2 ⟨by omega, h⟩⟩
        refine ⟨fun w' hw hs => ?_, fun o x hx => ?_⟩
        · rw [e]
          exact hB.1 w' (fun g hg => hw g ((ho g j).2 ⟨by omega, hg⟩)) hs
        · obtain ⟨v, h1, h2⟩ := hB.2 o x hx
          exact ⟨v, h1, Rep.same (C := C) (C' := C0) ⟨fun g j hs => ⟨hs, rfl⟩⟩ x v (hl o x hx) h2⟩
    · obtain ⟨h1, h2⟩ := (ho g j).1 hg
      obtain ⟨_, h3, h4⟩ := hI.ownlt g _ h2
      exact ⟨h1, h3, h4⟩
    · obtain ⟨h1, h2, _⟩ := hI.prot g j hs
      exact ⟨h1, hon g h2, fun t E W m ht => by simp [C0] at ht⟩
  refine (hc C0 cs I0 (RepL.renR rR args cs ha hr)).mono ?_
  rintro e w' ⟨C1, h1, v0, cv, rfl, rfl, I1, S1, r1, q1⟩
  obtain ⟨qv, qb⟩ := hq _ _ q1
  have hk1 : k ≤ C1.nb := S1.ext.nb
  have hκ : ∀ j, j < k → C1.κ j = C.κ (σ j) := fun j hj => S1.ext.box j hj
  have hsz : C.w.heap.size ≤ C1.w.heap.size := S1.size
  have hblk : ∀ g, g < C.w.heap.size → C0.own g = none → C1.w.heap[g]? = C.w.heap[g]? := fun g hg hn => S1.frame g hg hn fun t ht => by simp [C0] at ht
  have ho1 : ∀ g, g < C.w.heap.size → C1.own g = C0.own g := S1.own
  have hSprot : ∀ g j, C1.S g j → C.S g j ∨ C.w.heap.size ≤ g := fun g j hs => by
    rcases S1.prot g j hs with h2 | h2 | ⟨t, h2, _⟩
    · exact .inl h2
    · exact .inr h2
    · simp [C0] at h2
  let C2 : Ctx := { C with w := C1.w, S := C1.S, own := fun g => if g < C.w.heap.size then C.own g else match C1.own g with | some j => if j < k then some (σ j) else none | none => none }
  have hE : Ext C C2 := by
    refine ⟨fun g j hs => S1.ext.cells g j hs, Nat.le_refl _, fun _ _ => rfl, fun t E W m ht => ?_⟩
    obtain ⟨h0, _, cap, h2, _⟩ := hI.rows t E W m ht
    exact ⟨m, ht, .inr ⟨rfl, rfl, fun cap hc => hc.same (hblk _ h2.lt (hon _ h0))⟩⟩
  have own2 : ∀ g, g < C.w.heap.size → C2.own g = C.own g := fun g hg => if_pos hg
  have own2σ : ∀ g j, j < k → (C2.own g = some (σ j) ↔ C1.own g = some j) := fun g j hj => by
    by_cases hg : g < C.w.heap.size
    · rw [own2 g hg, ho1 g hg, ho g j]
      exact ⟨fun h => ⟨hj, h⟩, fun h => h.2⟩
    · show (if g < C.w.heap.size then C.own g else match C1.own g with | some j => if j < k then some (σ j) else none | none => none) = _ ↔ _
      rw [if_neg hg]
      cases e : C1.own g with
      | none => simp
      | some j' =>
        simp only
        split
        · next hj' =>
          constructor
          · intro h; injection h with h; rw [hinj _ _ hj' hj h]
          · intro h; injection h with h; rw [h]
        · next hj' =>
          constructor
          · intro h; cases h
          · intro h; injection h with h; omega
  have own2n : ∀ g i, (∀ j, j < k → σ j ≠ i) → (C2.own g = some i ↔ C.own g = some i) := fun g i hi => by
    by_cases hg : g < C.w.heap.size
    · rw [own2 g hg]
    · show (if g < C.w.heap.size then C.own g else match C1.own g with | some j => if j < k then some (σ j) else none | none => none) = _ ↔ _
      rw [if_neg hg]
      constructor
      · intro h
        exfalso
        cases e : C1.own g with
        | none => rw [e] at h; cases h
        | some j' =>
          rw [e] at h
          simp only at h
          split at h
          · next hj' => injection h with h; exact hi j' hj' h
          · cases h
      · intro h; exact absurd (hI.ownlt g i h).2.1 hg
  have hlen1 : (h1.b.take k).length = k := by rw [List.length_take, I1.nb]; omega
  have rN : Ren C1 C2 σ k := ⟨fun g j hs => ⟨hs, rfl⟩, fun j hj => ⟨hσ j hj, (hκ j hj).symm⟩⟩
  have hset : ∀ m, m < k → ∃ b1, h1.b[m]? = some b1 ∧ (setAll σ h.b 0 (h1.b.take k))[σ m]? = some (b1.ren σ) := fun m hm => by
    have hm1 : m < h1.b.length := by rw [I1.nb]; omega
    refine ⟨h1.b[m], List.getElem?_eq_getElem hm1, ?_⟩
    have := setAll_at σ (i := 0) (h1.b.take k) h.b 0 (fun m m' a b => hinj m m' (by omega) (by omega)) (fun m a => by rw [hI.nb]; exact hσ m (by omega)) m (by omega)
    rw [Nat.zero_add] at this
    rw [this]
    simp
  refine ⟨C2, ⟨setAll σ h.b 0 (h1.b.take k), h.t⟩, v0.ren σ, cv, rfl, rfl, ⟨by rw [setAll_length]; exact hI.nb, fun i b hib => ?_, fun i hi => ?_, fun g i hg => ?_, fun g j hs => ?_, fun t E W m ht => ?_, hI.inj, hI.toks, Nat.le_trans hI.base hsz, fun w2 hw => ?_⟩, ⟨hE, S1.os, S1.tape, S1.output, hsz, rfl, fun g hg hn ht => hblk g hg (hon g hn), own2, fun g j hs => ?_, fun t ht => .inr ⟨ht, rfl⟩⟩, Rep.ren rN v0 cv qv r1, v0, h1, q1, rfl, rfl⟩
  · by_cases hi : ∃ j, j < k ∧ σ j = i
    · obtain ⟨j, hj, rfl⟩ := hi
      obtain ⟨b1, hb1, hb2⟩ := hset j hj
      have hib' : (setAll σ h.b 0 (h1.b.take k))[σ j]? = some b := hib
      rw [hb2] at hib'
      injection hib' with hib'
      subst hib'
      have hB := I1.box j b1 hb1
      have hl := qb j b1 hj hb1
      cases b1 with
      | cells T l =>
        obtain ⟨cs, k1, k2⟩ := hB
        refine ⟨cs, ?_, RepL.ren rN l cs hl k2⟩
        rw [hκ j hj] at k1
        exact k1
      | opq R vis =>
        have e : (fun g => C2.own g = some (σ j)) = fun g => C1.own g = some j := funext fun g => propext (own2σ g j hj)
        refine ⟨fun w' hw hs => ?_, fun o x hx => ?_⟩
        · rw [e]
          have := hB.1 w' (fun g hg => hw g ((own2σ g j hj).2 hg)) hs
          rw [hκ j hj] at this
          exact this
        · obtain ⟨v, k1, k2⟩ := hB.2 o x hx
          rw [hκ j hj] at k1
          exact ⟨v, k1, Rep.same (C := C1) (C' := C2) ⟨fun g j hs => ⟨hs, rfl⟩⟩ x v (hl o x hx) k2⟩
    · have hi' : ∀ j, j < k → σ j ≠ i := fun j hj e => hi ⟨j, hj, e⟩
      have hib' : (setAll σ h.b 0 (h1.b.take k))[i]? = some b := hib
      rw [setAll_other σ _ _ _ fun m _ hm => hi' m (by omega)] at hib'
      have hilt : i < C.nb := by rw [← hI.nb]; exact (List.getElem?_eq_some_iff.1 hib').1
      refine (hI.box i b hib').ext hE hilt (hI.ownk i hilt) (fun g j hg => (hI.ownlt g j hg).2.1) (fun g hg => hblk g (hI.ownlt g i hg).2.1 (ownOf_none fun j hj e => ?_)) (fun g => own2n g i hi') hsz
      rw [hg] at e
      injection e with e
      exact hi' j hj e.symm
  · have := hI.ownk i hi
    rw [own2 _ (hI.ownlt _ _ this).2.1]
    exact this
  · by_cases hg' : g < C.w.heap.size
    · rw [own2 g hg'] at hg
      obtain ⟨k1, k2, k3⟩ := hI.ownlt g i hg
      exact ⟨k1, Nat.lt_of_lt_of_le k2 hsz, k3⟩
    · have hg2 : (if g < C.w.heap.size then C.own g else match C1.own g with | some j => if j < k then some (σ j) else none | none => none) = some i := hg
      rw [if_neg hg'] at hg2
      cases e : C1.own g with
      | none => rw [e] at hg2; cases hg2
      | some j' =>
        rw [e] at hg2
        simp only at hg2
        split at hg2
        · next hj' =>
          injection hg2 with hg2
          subst hg2
          obtain ⟨_, k2, k3⟩ := I1.ownlt g j' e
          exact ⟨hσ j' hj', k2, by rw [S1.base] at k3; exact k3⟩
        · cases hg2
  · have hlt := (I1.prot g j hs).1
    have hn1 := (I1.prot g j hs).2.1
    rcases hSprot g j hs with h2 | h2
    · obtain ⟨k1, k2, k3⟩ := hI.prot g j h2
      exact ⟨hlt, by rw [own2 g k1]; exact k2, k3⟩
    · refine ⟨hlt, ?_, fun t E W m ht e => ?_⟩
      · show (if g < C.w.heap.size then C.own g else match C1.own g with | some j => if j < k then some (σ j) else none | none => none) = none
        rw [if_neg (by omega), hn1]
      · obtain ⟨_, _, cap, k1, _⟩ := hI.rows t E W m ht
        have := k1.lt
        have e' : C.τ t = g := e
        omega
  · obtain ⟨k1, k2, cap, k3, k4⟩ := hI.rows t E W m ht
    refine ⟨?_, k2, cap, k3.same (hblk _ k3.lt (hon _ k1)), k4⟩
    rw [own2 _ k3.lt]; exact k1
  · refine I1.glob w2 fun g hg => hw g ?_
    rw [S1.base] at hg
    exact hg
  · rcases hSprot g j hs with h2 | h2
    · exact .inl h2
    · exact .inr (.inl h2)
mutual
theorem A.loc0 (k : Nat) : ∀ x : A, x.loc 0 = true → x.loc k = true ∧ ∀ σ, x.ren σ = x
  | .int _ n, h => ⟨rfl, fun σ => by unfold A.ren; rfl⟩
  | .str l, h => ⟨rfl, fun σ => by unfold A.ren; rfl⟩
  | .bool b, h => ⟨rfl, fun σ => by unfold A.ren; rfl⟩
  | .sl W .no rows, h => ⟨rfl, fun σ => by unfold A.ren; rfl⟩
  | .sl W .nil rows, h => ⟨rfl, fun σ => by unfold A.ren; rfl⟩
  | .sl W (.tok t) rows, h => by simp [A.loc] at h
  | .ptr i o, h => by simp [A.loc] at h
  | .vptr l, h => ⟨rfl, fun σ => by unfold A.ren; rfl⟩
  | .nilp, h => ⟨rfl, fun σ => by unfold A.ren; rfl⟩
  | .nili, h => ⟨rfl, fun σ => by unfold A.ren; rfl⟩
  | .nilf, h => ⟨rfl, fun σ => by unfold A.ren; rfl⟩
  | .fn f caps, h => by
    unfold A.loc at h
    obtain ⟨k1, k2⟩ := A.locL0 k caps h
    exact ⟨by unfold A.loc; exact k1, fun σ => by unfold A.ren; rw [k2]⟩
  | .agg l, h => by
    unfold A.loc at h
    obtain ⟨k1, k2⟩ := A.locL0 k l h
    exact ⟨by unfold A.loc; exact k1, fun σ => by unfold A.ren; rw [k2]⟩
  | .tup l, h => by
    unfold A.loc at h
    obtain ⟨k1, k2⟩ := A.locL0 k l h
    exact ⟨by unfold A.loc; exact k1, fun σ => by unfold A.ren; rw [k2]⟩
theorem A.locL0 (k : Nat) : ∀ l : List A, A.locL 0 l = true → A.locL k l = true ∧ ∀ σ, A.renL σ l = l
  | [], h => ⟨rfl, fun σ => by unfold A.renL; rfl⟩
  | x :: l, h => by
    unfold A.locL at h
    rw [Bool.and_eq_true] at h
    obtain ⟨k1, k2⟩ := A.loc0 k x h.1
    obtain ⟨k3, k4⟩ := A.locL0 k l h.2
    exact ⟨by unfold A.locL; rw [k1, k3]; rfl, fun σ => by unfold A.renL; rw [k2, k4]⟩
end
theorem Blk.loc0 (k : Nat) (b : Blk) (h : b.loc 0) : b.loc k ∧ ∀ σ, b.ren σ = b := by
  cases b with
  | cells T l =>
    have h' : A.locL 0 l = true := h
    obtain ⟨k1, k2⟩ := A.locL0 k l h'
    exact ⟨k1, fun σ => by show Blk.cells T (A.renL σ l) = _; rw [k2]⟩
  | opq R vis => exact ⟨h, fun σ => rfl⟩
/-- With one box, of plain cells. -/
theorem ACall.lift1 {P : Program} {G : World → Prop} {f : FuncId} {args : List A} {b : Blk} {Q0 : A → Blk → Prop} (hc : ACall P G f (.ptr 0 0 :: args) ⟨[b], []⟩ fun v h' => ∃ b', h'.b[0]? = some b' ∧ Q0 v b')
    (ha : A.locL 0 args = true) (hb : b.loc 0) (hq : ∀ v b', Q0 v b' → v.loc 0 = true ∧ b'.loc 0) {h : Hp} {i : Nat} (hh : h.b[i]? = some b) :
    ACall P G f (.ptr i 0 :: args) h fun v h' => ∃ b', Q0 v b' ∧ h' = ⟨h.b.set i b', h.t⟩ := by
  have key := ACall.lift hc (fun _ => i) (fun a b ha hb _ => by simp at ha hb; omega) (by unfold A.locL; rw [(A.locL0 _ args ha).1]; rfl) (fun x hx => by simp at hx; subst hx; exact (Blk.loc0 _ _ hb).1)
    (fun v h' ⟨b', h1, h2⟩ => ⟨(A.loc0 _ v (hq v b' h2).1).1, fun j x hj hx => by
      have : j = 0 := by simpa using hj
      subst this
      rw [h1] at hx; injection hx with hx; subst hx
      exact (Blk.loc0 _ _ (hq v b' h2).2).1⟩) (h := h) (fun j hj => by
      have : j = 0 := by simpa using hj
      subst this
      rw [hh]; show some b = some (b.ren _); rw [(Blk.loc0 0 _ hb).2])
  have e : A.renL (fun _ => i) (.ptr 0 0 :: args) = .ptr i 0 :: args := by unfold A.renL; rw [(A.locL0 0 args ha).2]; rfl
  rw [e] at key
  refine key.mono ?_
  rintro v h' ⟨v0, h0, ⟨b', h1, h2⟩, rfl, rfl⟩
  obtain ⟨k1, k2⟩ := hq v0 b' h2
  refine ⟨b', by rw [(A.loc0 0 v0 k1).2]; exact h2, ?_⟩
  have : h0.b.take [b].length = [b'] := by
    obtain ⟨_ | ⟨x, l⟩, t0⟩ := h0
    · simp at h1
    · simp at h1; subst h1; simp
  rw [this]
  show (⟨setAll _ h.b 0 [b'], h.t⟩ : Hp) = _
  unfold setAll setAll
  rw [(Blk.loc0 0 _ k2).2]
end AX
end Go.Proofs.YtdikbljgmpbpjaaGreatDoor

namespace Go.Proofs.YtdikbljgmpbpjaaGreatDoor
open Go.RowKit
set_option linter.unusedSimpArgs false
set_option linter.unusedVariables false
namespace AX
theorem get_p1 {l : List Blk} (x y : Blk) : (l ++ [x] ++ [y])[l.length]? = some x := by
  rw [List.getElem?_append_left (by simp)]; exact List.getElem?_concat_length
theorem get_p2 {l : List Blk} (x y : Blk) : (l ++ [x] ++ [y])[l.length + 1]? = some y := by
  have h : (l ++ [x]).length = l.length + 1 := by simp
  rw [← h]; exact List.getElem?_concat_length
theorem set_p0 {l : List Blk} (x z : Blk) : (l ++ [x]).set l.length z = l ++ [z] := by
  rw [List.set_append_right _ _ (Nat.le_refl _)]; simp
theorem set_p1 {l : List Blk} (x y z : Blk) : (l ++ [x] ++ [y]).set l.length z = l ++ [z] ++ [y] := by
  rw [List.set_append_left _ _ (by simp), set_p0]
theorem set_p2 {l : List Blk} (x y z : Blk) : (l ++ [x] ++ [y]).set (l.length + 1) z = l ++ [x] ++ [z] := by
  have h : (l ++ [x]).length = l.length + 1 := by simp
  rw [← h, set_p0]
theorem get_q1 {l : List Blk} (x y z : Blk) : (l ++ [x] ++ [y] ++ [z])[l.length]? = some x := by
  rw [List.getElem?_append_left (by simp)]; exact get_p1 x y
theorem get_q2 {l : List Blk} (x y z : Blk) : (l ++ [x] ++ [y] ++ [z])[l.length + 1]? = some y := by
  rw [List.getElem?_append_left (by simp)]; exact get_p2 x y
theorem get_q3 {l : List Blk} (x y z : Blk) : (l ++ [x] ++ [y] ++ [z])[l.length + 1 + 1]? = some z := by
  have h : (l ++ [x] ++ [y]).length = l.length + 1 + 1 := by simp
  rw [← h]; exact List.getElem?_concat_length
theorem set_q1 {l : List Blk} (x y z w : Blk) : (l ++ [x] ++ [y] ++ [z]).set l.length w = l ++ [w] ++ [y] ++ [z] := by
  rw [List.set_append_left _ _ (by simp), set_p1]
theorem set_q2 {l : List Blk} (x y z w : Blk) : (l ++ [x] ++ [y] ++ [z]).set (l.length + 1) w = l ++ [x] ++ [w] ++ [z] := by
  rw [List.set_append_left _ _ (by simp), set_p2]
theorem set_q3 {l : List Blk} (x y z w : Blk) : (l ++ [x] ++ [y] ++ [z]).set (l.length + 1 + 1) w = l ++ [x] ++ [y] ++ [w] := by
  have h : (l ++ [x] ++ [y]).length = l.length + 1 + 1 := by simp
  rw [← h, set_p0]
/-- May an operation turn the boxes? In mode 0 (no order is picked) each may; in mode 1 a call may; in mode 2 it may not. -/
def actB (m : Nat) : AOp → Bool
  | .alloc .. => true
  | .box .. => true
  | .store .. => true
  | .app .. => true
  | .call .. => m != 2
  | .callv .. => m != 2
  | _ => m == 0
/-- Does an operation look at the boxes? -/
def hdepB : AOp → Bool
  | .alloc .. => true
  | .box .. => true
  | .store .. => true
  | .load .. => true
  | .app .. => true
  | .call .. => true
  | .callv .. => true
  | _ => false
def loadB : AOp → Bool
  | .load .. => true
  | _ => false
def forH (p : Hp → Prop) : List Hp → Prop
  | [] => True
  | h :: l => p h ∧ forH p l
/-- At the boxes h the operation yields v, and leaves them. -/
def quietAt (P : Program) (G : World → Prop) (ts : Ts) (o : AOper) (v : A) (h : Hp) : Prop :=
  guardP ts o.guard (aopP P G (evX ts) h (fun v' h'' => v' = v ∧ h'' = h) o.op) (v = .tup [])
/-- One operation behind the other; each yields one value, and one state of the boxes. fl: loads that may come behind or ahead of acts; past: the boxes as they were; obs: what must hold of all boxes to come. -/
def aseq (P : Program) (G : World → Prop) (m : Nat) : List Bool → List AOper → List Hp → (Hp → Prop) → (Ts → Hp → Prop) → Ts → Hp → Prop
  | _, [], _, _, K, ts, h => K ts h
  | fl, o :: os, past, obs, K, ts, h => ∃ v h', guardP ts o.guard (aopP P G (evX ts) h (fun v' h'' => v' = v ∧ h'' = h') o.op) (v = .tup [] ∧ h' = h) ∧ (actB m o.op = true ∨ h' = h) ∧
      (if actB m o.op = true then obs h' ∧ aseq P G m fl.tail os (h :: past) obs K (put ts o.dst v) h'
        else if fl.headD false = true then forH (quietAt P G ts o v) past ∧ aseq P G m fl.tail os past (fun h2 => quietAt P G ts o v h2 ∧ obs h2) K (put ts o.dst v) h'
        else aseq P G m fl.tail os past obs K (put ts o.dst v) h')
def actsF (m : Nat) : Nat → List AOper → List Nat
  | _, [] => []
  | b, o :: os => if actB m o.op = true then b :: actsF m (b + 1) os else actsF m (b + 1) os
def stgs (m n : Nat) : List Bool → Nat → List AOper → List (List Nat)
  | _, _, [] => []
  | fl, c, o :: os => (if actB m o.op then [c] else if fl.headD false then List.range (n + 1) else if hdepB o.op then [c] else List.range (n + 1)) :: stgs m n fl.tail (if actB m o.op = true then c + 1 else c) os
/-- The loads whose place among the acts is open. -/
def flagsF (m : Nat) (all : List AOper) (acts : List Nat) : Nat → List AOper → List Bool
  | _, [] => []
  | i, o :: os => (loadB o.op && !actB m o.op && (List.range (acts.length + 1)).any fun k => stageB all acts i k && k != (acts.filter fun a => decide (a < i)).length) :: flagsF m all acts (i + 1) os
section
variable {P : Program} {G : World → Prop} {m : Nat}
theorem actsF_ge : ∀ (os : List AOper) (b x : Nat), x ∈ actsF m b os → b ≤ x
  | [], b, x, h => by simp [actsF] at h
  | o :: os, b, x, h => by
    unfold actsF at h
    split at h
    · rcases List.mem_cons.1 h with rfl | h
      · exact Nat.le_refl _
      · have := actsF_ge os (b + 1) x h; omega
    · have := actsF_ge os (b + 1) x h; omega
theorem astep_free {ev : Opd → A} {h h2 : Hp} {o : AOp} (hd : hdepB o = false) : astep ev h2 o = (astep ev h o).map fun r => (r.1, h2) := by
  cases o <;> simp only [hdepB, Bool.true_eq_false, reduceCtorEq] at hd <;> simp only [astep] <;> (try rfl) <;> (try simp only [Option.map_map]) <;> (try rfl) <;> (repeat' split) <;> (try rfl) <;> (try simp only [Option.map_map]) <;> (try rfl) <;> simp_all
theorem forL_of {p : Nat → Prop} : ∀ {ks : List Nat}, (∀ k ∈ ks, p k) → forL p ks
  | [], _ => trivial
  | a :: ks, h => ⟨h a (by simp), forL_of fun k hk => h k (by simp [hk])⟩
theorem forH_mem {p : Hp → Prop} : ∀ {l : List Hp}, forH p l → ∀ x ∈ l, p x
  | [], _, x, hx => by simp at hx
  | a :: l, h, x, hx => by
    rcases List.mem_cons.1 hx with rfl | hx
    · exact h.1
    · exact forH_mem h.2 x hx
theorem getD_at (l : List Hp) (x : Hp) (r : List Hp) (n : Nat) (hn : n = l.length) : (l ++ x :: r).getD n ⟨[], []⟩ = x := by
  subst hn
  rw [List.getD_eq_getElem?_getD, List.getElem?_append_right (Nat.le_refl _)]; simp
theorem getD_any {p : Hp → Prop} (l : List Hp) (x : Hp) (r : List Hp) (n : Nat) (hn : n < (l ++ x :: r).length) (h1 : ∀ y ∈ l, p y) (h2 : p x) (h3 : ∀ y ∈ r, p y) : p ((l ++ x :: r).getD n ⟨[], []⟩) := by
  rw [List.getD_eq_getElem?_getD, List.getElem?_eq_getElem hn]
  have hm := List.getElem_mem hn
  rw [List.mem_append, List.mem_cons] at hm
  show p _
  rcases hm with hm | hm | hm
  · exact h1 _ hm
  · rw [Option.getD_some, hm]; exact h2
  · exact h3 _ hm
theorem aseq_aops {K : Ts → Hp → Prop} : ∀ (os : List AOper) (fl : List Bool) (past : List Hp) (obs : Hp → Prop) (ts : Ts) (h : Hp), aseq P G m fl os past obs K ts h → aops P G os K ts h
  | [], fl, past, obs, ts, h, hp => hp
  | o :: os, fl, past, obs, ts, h, hp => by
    obtain ⟨v, h', h1, h2, h3⟩ := hp
    have ih : aops P G os K (put ts o.dst v) h' := by
      split at h3
      · exact aseq_aops os _ _ _ _ _ h3.2
      · split at h3
        · exact aseq_aops os _ _ _ _ _ h3.2
        · exact aseq_aops os _ _ _ _ _ h3
    show guardP ts o.guard _ _
    refine guardP_mono (fun hq => aopP_mono ?_ hq) ?_ h1
    · rintro v' h'' ⟨rfl, rfl⟩
      exact ih
    · rintro ⟨rfl, rfl⟩
      exact ih
theorem aseq_chain {acts : List Nat} {n : Nat} {K : Ts → Hp → Prop} : ∀ (os : List AOper) (fl : List Bool) (b : Nat) (done : List Nat) (obs : Hp → Prop) (ts : Ts) (h : Hp) (past : List Hp), acts = done ++ actsF m b os → (∀ x ∈ done, x < b) → past.length = done.length → n = acts.length →
    aseq P G m fl os past obs K ts h → ∃ hs : List Hp, hs.length = (actsF m b os).length ∧ (∀ x ∈ hs, obs x) ∧ achain P G acts (past.reverse ++ h :: hs) b os (stgs m n fl done.length os) (fun ts => K ts ((past.reverse ++ h :: hs).getD acts.length ⟨[], []⟩)) ts
  | [], fl, b, done, obs, ts, h, past, ha, hd, hl, hn, hp => by
    refine ⟨[], by simp [actsF], fun x hx => (by cases hx), ?_⟩
    show K ts _
    have e : acts.length = past.reverse.length := by rw [ha]; simp [actsF, hl]
    rw [getD_at _ _ _ _ e]
    exact hp
  | o :: os, fl, b, done, obs, ts, h, past, ha, hd, hl, hn, hp => by
    obtain ⟨v, h', h1, h2, h3⟩ := hp
    have hpl : done.length = past.reverse.length := by simp [hl]
    cases hact : actB m o.op with
    | true =>
      rw [if_pos hact] at h3
      have ha' : acts = (done ++ [b]) ++ actsF m (b + 1) os := by rw [ha, actsF, if_pos hact]; simp
      obtain ⟨hs, k1, k0, k2⟩ := aseq_chain os fl.tail (b + 1) (done ++ [b]) obs _ h' (h :: past) ha' (fun x hx => by
        rcases List.mem_append.1 hx with hx | hx
        · have := hd x hx; omega
        · simp at hx; omega) (by simp [hl]) hn h3.2
      have e4 : (h :: past).reverse ++ h' :: hs = past.reverse ++ h :: h' :: hs := by simp
      rw [e4] at k2
      refine ⟨h' :: hs, by rw [actsF, if_pos hact]; simp [k1], fun x hx => ?_, v, ?_, ?_⟩
      · rcases List.mem_cons.1 hx with rfl | hx
        · exact h3.1
        · exact k0 x hx
      · unfold stgs
        rw [hact]
        simp only [if_true, List.headD_cons]
        refine ⟨?_, trivial⟩
        have e1 : (past.reverse ++ h :: h' :: hs).getD done.length ⟨[], []⟩ = h := getD_at _ _ _ _ hpl
        have e2 : (past.reverse ++ h :: h' :: hs).getD (done.length + 1) ⟨[], []⟩ = h' := by
          have := getD_at (past.reverse ++ [h]) h' hs (done.length + 1) (by simp [hl])
          simpa using this
        have e3 : acts[done.length]? = some b := by rw [ha']; simp
        dsimp only
        rw [e1, if_pos e3, e2]
        exact guardP_mono (fun hq => hq) (fun hq => hq.1) h1
      · unfold stgs
        rw [List.tail_cons, hact, if_pos rfl]
        simpa using k2
    | false =>
      rw [if_neg (by simp [hact])] at h3
      have hh : h' = h := by
        rcases h2 with h2 | h2
        · rw [hact] at h2; cases h2
        · exact h2
      subst hh
      have ha' : acts = done ++ actsF m (b + 1) os := by rw [ha, actsF, if_neg (by simp [hact])]
      have hnk : ∀ k, acts[k]? ≠ some b := fun k hk => by
        have hm := List.mem_of_getElem? hk
        rw [ha'] at hm
        rcases List.mem_append.1 hm with hm | hm
        · have := hd b hm; omega
        · have := actsF_ge _ _ _ hm; omega
      have hq0 : quietAt P G ts o v h' := guardP_mono (fun hq => hq) (fun hq => hq.1) h1
      have hd' : ∀ x ∈ done, x < b + 1 := fun x hx => by have := hd x hx; omega
      cases hfl : fl.headD false with
      | true =>
        rw [if_pos hfl] at h3
        obtain ⟨hs, k1, k0, k2⟩ := aseq_chain os fl.tail (b + 1) done _ _ h' past ha' hd' hl hn h3.2
        refine ⟨hs, by rw [actsF, if_neg (by simp [hact])]; exact k1, fun x hx => (k0 x hx).2, v, ?_, ?_⟩
        · unfold stgs
          rw [hact, hfl]
          simp only [Bool.false_eq_true, if_false, if_true, List.headD_cons]
          refine forL_of fun k hk => ?_
          rw [if_neg (hnk _)]
          refine getD_any (p := quietAt P G ts o v) _ _ _ k ?_ (fun y hy => forH_mem h3.1 y (by simpa using hy)) hq0 fun y hy => (k0 y hy).1
          have : k < n + 1 := by simpa using hk
          have hal : acts.length = done.length + (actsF m (b + 1) os).length := by rw [ha']; simp
          simp only [List.length_append, List.length_cons, List.length_reverse]
          omega
        · unfold stgs
          rw [List.tail_cons, hact, if_neg (by simp)]
          exact k2
      | false =>
        rw [if_neg (by simp only [hfl]; simp)] at h3
        obtain ⟨hs, k1, k0, k2⟩ := aseq_chain os fl.tail (b + 1) done _ _ h' past ha' hd' hl hn h3
        refine ⟨hs, by rw [actsF, if_neg (by simp [hact])]; exact k1, k0, v, ?_, ?_⟩
        · unfold stgs
          rw [hact, hfl]
          simp only [Bool.false_eq_true, if_false, List.headD_cons]
          have e1 : (past.reverse ++ h' :: hs).getD done.length ⟨[], []⟩ = h' := getD_at _ _ _ _ hpl
          cases hdp : hdepB o.op with
          | true =>
            simp only [if_true]
            refine ⟨?_, trivial⟩
            dsimp only
            rw [if_neg (hnk _), e1]
            exact hq0
          | false =>
            simp only [Bool.false_eq_true, if_false]
            refine forL_of fun k _ => ?_
            rw [if_neg (hnk _)]
            refine guardP_mono (fun hq => ?_) (fun hq => hq.1) h1
            generalize (past.reverse ++ h' :: hs).getD k ⟨[], []⟩ = h2
            have hfree := astep_free (ev := evX ts) (h := h') (h2 := h2) hdp
            cases hop : o.op with
            | call => rw [hop] at hdp; simp [hdepB] at hdp
            | callv => rw [hop] at hdp; simp [hdepB] at hdp
            | _ =>
              rw [hop] at hq hfree
              simp only [aopP] at hq ⊢
              rw [hfree]
              generalize astep (evX ts) h' _ = r at hq
              cases r with
              | none => exact hq
              | some r => exact ⟨hq.1, rfl⟩
        · unfold stgs
          rw [List.tail_cons, hact, if_neg (by simp)]
          exact k2
def flagsOf (m : Nat) (ops : List AOper) : List Bool := flagsF m ops (actsF m 0 ops) 0 ops
def seqB (m : Nat) (ops : List AOper) : Bool :=
  edgesB 0 ops && seesB ops && chainB ops (actsF m 0 ops) && stagesB ops (actsF m 0 ops) (stgs m (actsF m 0 ops).length (flagsOf m ops) 0 ops)
theorem go_draw {ops : List AOper} {Q : AExit → Ts → Hp → Prop} {ts : Ts} {h : Hp} (m : Nat) (hb : seqB m ops = true) (hp : aseq P G m (flagsOf m ops) ops [] (fun _ => True) (Q .normal) ts h) : awp P G (.reg true ops) Q ts h := by
  obtain ⟨hs, h1, _, h2⟩ := aseq_chain (acts := actsF m 0 ops) (n := (actsF m 0 ops).length) ops (flagsOf m ops) 0 [] _ ts h [] rfl (fun x hx => by cases hx) rfl rfl hp
  exact awp_chain (actsF m 0 ops) (h :: hs) _ rfl hb h2
theorem go_regS {ops : List AOper} {Q : AExit → Ts → Hp → Prop} {ts : Ts} {h : Hp} (k : aseq P G 0 [] ops [] (fun _ => True) (Q .normal) ts h) : awp P G (.reg false ops) Q ts h := aseq_aops ops _ _ _ ts h k
section
variable {fl : List Bool} {past : List Hp} {obs : Hp → Prop} {d : Option Nat} {af : List Nat} {os : List AOper} {K : Ts → Hp → Prop} {ts : Ts} {h : Hp}
theorem gs_nil (k : K ts h) : aseq P G m fl [] past obs K ts h := k
theorem aopP_of {o : AOp} {ev : Opd → A} {h h' : Hp} {v : A} (hc : o.isCall = false) (hs : astep ev h o = some (v, h')) : aopP P G ev h (fun v' h'' => v' = v ∧ h'' = h') o := by
  cases o with
  | call => simp [AOp.isCall] at hc
  | callv => simp [AOp.isCall] at hc
  | _ => simp only [aopP]; rw [hs]; exact ⟨rfl, rfl⟩
theorem aseq0_any {os : List AOper} {f1 f2 : List Bool} {p1 p2 : List Hp} {ts : Ts} {h : Hp} (k : aseq P G 0 f1 os p1 (fun _ => True) K ts h) : aseq P G 0 f2 os p2 (fun _ => True) K ts h := by
  induction os generalizing f1 f2 p1 p2 ts h with
  | nil => exact k
  | cons o os ih =>
    obtain ⟨v, h', h1, h2, h3⟩ := k
    have hact : actB 0 o.op = true := by cases o.op <;> rfl
    rw [if_pos hact] at h3
    refine ⟨v, h', h1, h2, ?_⟩
    rw [if_pos hact]
    exact ⟨trivial, ih h3.2⟩
/-- Where no order is picked. -/
theorem gs_op0 {o : AOp} {h' : Hp} {v : A} (hc : o.isCall = false) (hs : astep (evX ts) h o = some (v, h')) (k : aseq P G 0 [] os [] (fun _ => True) K (put ts d v) h') : aseq P G 0 fl (⟨d, o, none, af⟩ :: os) past (fun _ => True) K ts h := by
  have hact : actB 0 o = true := by cases o <;> rfl
  refine ⟨v, h', aopP_of hc hs, .inl hact, ?_⟩
  rw [if_pos hact]
  exact ⟨trivial, aseq0_any k⟩
theorem gs_app0 {E : TypeId} {W bytes : Nat} {ox oy : Opd} {X Y : A} {h' : Hp} {v : A} (hx : evX ts ox = X) (hy : evX ts oy = Y) (hs : appA h E W bytes X Y = some (v, h')) (k : aseq P G 0 [] os [] (fun _ => True) K (put ts d v) h') : aseq P G 0 fl (⟨d, .app E W bytes ox oy, none, af⟩ :: os) past (fun _ => True) K ts h :=
  gs_op0 rfl (by simp only [astep, hx, hy]; exact hs) k
theorem gs_act {o : AOp} {h' : Hp} {v : A} (ha : actB m o = true) (hc : o.isCall = false) (hs : astep (evX ts) h o = some (v, h')) (ho : obs h') (k : aseq P G m fl.tail os (h :: past) obs K (put ts d v) h') : aseq P G m fl (⟨d, o, none, af⟩ :: os) past obs K ts h := by
  refine ⟨v, h', aopP_of hc hs, .inl ha, ?_⟩
  rw [if_pos ha]
  exact ⟨ho, k⟩
theorem gs_op {o : AOp} {v : A} (ha : actB m o = false) (hf : fl.headD false = false) (hc : o.isCall = false) (hs : astep (evX ts) h o = some (v, h)) (k : aseq P G m fl.tail os past obs K (put ts d v) h) : aseq P G m fl (⟨d, o, none, af⟩ :: os) past obs K ts h := by
  refine ⟨v, h, aopP_of hc hs, .inr rfl, ?_⟩
  rw [if_neg (by simp [ha]), if_neg (by simp only [hf]; simp)]
  exact k
theorem gs_load {o : AOp} {v : A} (ha : actB m o = false) (hf : fl.headD false = true) (hc : o.isCall = false) (hs : astep (evX ts) h o = some (v, h)) (hp : forH (fun h2 => astep (evX ts) h2 o = some (v, h2)) past) (k : aseq P G m fl.tail os past (fun h2 => astep (evX ts) h2 o = some (v, h2) ∧ obs h2) K (put ts d v) h) : aseq P G m fl (⟨d, o, none, af⟩ :: os) past obs K ts h := by
  have hq : ∀ h2, astep (evX ts) h2 o = some (v, h2) → quietAt P G ts ⟨d, o, none, af⟩ v h2 := fun h2 hs => aopP_of (P := P) (G := G) hc hs
  have mono : ∀ (os : List AOper) (fl : List Bool) (past : List Hp) (o1 o2 : Hp → Prop) (K : Ts → Hp → Prop) (ts : Ts) (h : Hp), (∀ x, o1 x → o2 x) → aseq P G m fl os past o1 K ts h → aseq P G m fl os past o2 K ts h := by
    intro os
    induction os with
    | nil => exact fun _ _ _ _ _ _ _ _ hp => hp
    | cons o os ih =>
      intro fl past o1 o2 K ts h ho hp
      obtain ⟨v, h', h1, h2, h3⟩ := hp
      refine ⟨v, h', h1, h2, ?_⟩
      split at h3
      · next e => rw [if_pos e]; exact ⟨ho _ h3.1, ih _ _ _ _ _ _ _ ho h3.2⟩
      · next e =>
        rw [if_neg e]
        split at h3
        · next e2 => rw [if_pos e2]; exact ⟨h3.1, ih _ _ _ _ _ _ _ (fun x hx => ⟨hx.1, ho x hx.2⟩) h3.2⟩
        · next e2 => rw [if_neg e2]; exact ih _ _ _ _ _ _ _ ho h3
  refine ⟨v, h, aopP_of hc hs, .inr rfl, ?_⟩
  rw [if_neg (by simp [ha]), if_pos hf]
  refine ⟨?_, mono _ _ _ _ _ _ _ _ (fun x hx => ⟨hq x hx.1, hx.2⟩) k⟩
  clear k
  induction past with
  | nil => trivial
  | cons a l ih => exact ⟨hq a hp.1, ih hp.2⟩
theorem gs_guard {o : AOp} {t : Nat} {b : Bool} (hg : ts t = .bool b) (k : aseq P G m fl (⟨d, o, none, af⟩ :: os) past obs K ts h) : aseq P G m fl (⟨d, o, some (t, b), af⟩ :: os) past obs K ts h := by
  have e : ∀ p q : Prop, guardP ts (some (t, b)) p q ↔ p := fun p q => by
    simp only [guardP, hg]
    exact ⟨fun x => x.1 trivial, fun x => ⟨fun _ => x, fun e => (by cases b <;> cases e)⟩⟩
  obtain ⟨v, h', h1, h2, h3⟩ := k
  refine ⟨v, h', (e _ _).2 h1, h2, ?_⟩
  have eq : quietAt P G ts ⟨d, o, some (t, b), af⟩ v = quietAt P G ts ⟨d, o, none, af⟩ v := funext fun h2 => propext (e _ _)
  rw [eq]
  exact h3
theorem gs_skip {o : AOp} {t : Nat} {b : Bool} (hf : fl.headD false = false) (ha : actB m o = false) (hg : ts t = .bool (!b)) (k : aseq P G m fl.tail os past obs K (put ts d (.tup [])) h) : aseq P G m fl (⟨d, o, some (t, b), af⟩ :: os) past obs K ts h := by
  refine ⟨.tup [], h, ?_, .inr rfl, ?_⟩
  · simp only [guardP, hg]
    exact ⟨fun e => (by cases b <;> cases e), fun _ => ⟨trivial, trivial⟩⟩
  · rw [if_neg (by simp [ha]), if_neg (by simp only [hf]; simp)]
    exact k
theorem gs_skipu {o : AOp} {t : Nat} {b : Bool} (hf : fl.headD false = false) (ha : actB m o = false) (hg : ts t = .tup []) (k : aseq P G m fl.tail os past obs K (put ts d (.tup [])) h) : aseq P G m fl (⟨d, o, some (t, b), af⟩ :: os) past obs K ts h := by
  refine ⟨.tup [], h, ?_, .inr rfl, ?_⟩
  · simp only [guardP, hg]
    exact ⟨trivial, trivial⟩
  · rw [if_neg (by simp [ha]), if_neg (by simp only [hf]; simp)]
    exact k
theorem gs_skip0 {o : AOp} {t : Nat} {b : Bool} (hg : ts t = .bool (!b)) (k : aseq P G 0 [] os [] (fun _ => True) K (put ts d (.tup [])) h) : aseq P G 0 fl (⟨d, o, some (t, b), af⟩ :: os) past (fun _ => True) K ts h := by
  refine ⟨.tup [], h, ?_, .inr rfl, ?_⟩
  · simp only [guardP, hg]
    exact ⟨fun e => (by cases b <;> cases e), fun _ => ⟨trivial, trivial⟩⟩
  · rw [if_pos (by cases o <;> rfl)]
    exact ⟨trivial, aseq0_any k⟩
theorem gs_skipu0 {o : AOp} {t : Nat} {b : Bool} (hg : ts t = .tup []) (k : aseq P G 0 [] os [] (fun _ => True) K (put ts d (.tup [])) h) : aseq P G 0 fl (⟨d, o, some (t, b), af⟩ :: os) past (fun _ => True) K ts h := by
  refine ⟨.tup [], h, ?_, .inr rfl, ?_⟩
  · simp only [guardP, hg]
    exact ⟨trivial, trivial⟩
  · rw [if_pos (by cases o <;> rfl)]
    exact ⟨trivial, aseq0_any k⟩
/-- A call that is to be met by its contract. -/
structure CallK (P : Program) (G : World → Prop) (m : Nat) (fl : List Bool) (f : FuncId) (vs : List A) (h : Hp) (d : Option Nat) (os : List AOper) (past : List Hp) (obs : Hp → Prop) (K : Ts → Hp → Prop) (ts : Ts) : Prop where
  out : ∃ v h', ACall P G f vs h (fun v' h'' => v' = v ∧ h'' = h') ∧ ((m ≠ 2 ∧ obs h' ∧ aseq P G m fl.tail os (h :: past) obs K (put ts d v) h') ∨ (m = 2 ∧ fl.headD false = false ∧ h' = h ∧ aseq P G m fl.tail os past obs K (put ts d v) h'))
theorem gs_callk {o : AOp} {f : FuncId} {vs : List A} (ho : o.isCall = true) (hq : ∀ v h', ACall P G f vs h (fun v' h'' => v' = v ∧ h'' = h') → aopP P G (evX ts) h (fun v' h'' => v' = v ∧ h'' = h') o) (k : CallK P G m fl f vs h d os past obs K ts) : aseq P G m fl (⟨d, o, none, af⟩ :: os) past obs K ts h := by
  obtain ⟨v, h', h1, h2⟩ := k.out
  rcases h2 with ⟨h2, h3, h4⟩ | ⟨rfl, h3, rfl, h4⟩
  · have ha : actB m o = true := by
      cases o <;> simp_all [AOp.isCall, actB]
    refine ⟨v, h', hq v h' h1, .inl ha, ?_⟩
    rw [if_pos ha]
    exact ⟨h3, h4⟩
  · have ha : actB 2 o = false := by
      cases o <;> simp_all [AOp.isCall, actB]
    refine ⟨v, h', hq v h' h1, .inr rfl, ?_⟩
    rw [if_neg (by simp [ha]), if_neg (by simp only [h3]; simp)]
    exact h4
theorem gs_call {f : FuncId} {as : List Opd} {vs : List A} (ha : as.map (evX ts) = vs) (k : CallK P G m fl f vs h d os past obs K ts) : aseq P G m fl (⟨d, .call f as, none, af⟩ :: os) past obs K ts h := by
  subst ha
  exact gs_callk rfl (fun v h' hc => hc) k
theorem gs_callv {x : Opd} {f : FuncId} {caps : List A} {as : List Opd} {vs : List A} (hx : evX ts x = .fn f caps) (hok : callOk P f = true) (ha : as.map (evX ts) ++ caps = vs) (k : CallK P G m fl f vs h d os past obs K ts) : aseq P G m fl (⟨d, .callv x as, none, af⟩ :: os) past obs K ts h := by
  subst ha
  exact gs_callk rfl (fun v h' hc => ⟨f, caps, hx, hok, hc⟩) k
def pastN (m : Nat) (h : Hp) (p : List Hp) : List Hp := if m = 2 then p else h :: p
/-- A call's contract, used. -/
theorem rt {f : FuncId} {vs : List A} {h' : Hp} {v : A} (hc : ACall P G f vs h fun v' h'' => v' = v ∧ h'' = h') (hm : (m = 2 → h' = h ∧ fl.headD false = false) ∧ (m ≠ 2 → obs h')) (k : aseq P G m fl.tail os (pastN m h past) obs K (put ts d v) h') : CallK P G m fl f vs h d os past obs K ts := by
  unfold pastN at k
  by_cases e : m = 2
  · rw [if_pos e] at k
    exact ⟨_, _, hc, .inr ⟨e, (hm.1 e).2, (hm.1 e).1, k⟩⟩
  · rw [if_neg e] at k
    exact ⟨_, _, hc, .inl ⟨e, hm.2 e, k⟩⟩
/-- A contract that says less than what is returned (where no order is picked). -/
theorem retw {f : FuncId} {vs : List A} {R : A → Hp → Prop} (hc : ACall P G f vs h R) (k : ∀ v h', R v h' → aops P G os K (put ts d v) h') : ACall P G f vs h fun v h' => aops P G os K (put ts d v) h' := hc.mono k
end
end
end AX
end Go.Proofs.YtdikbljgmpbpjaaGreatDoor
