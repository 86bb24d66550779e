/- An argument that is a slice of tokens, opened. -/
import Derived.Test.YtbpaeglmanjbfaaDoorTokCard
import Derived.Deep.Slices
import Derived.Deep.Fields
namespace Go.Proofs.YtbpaeglmanjbfaaDoor
open Go.ChangeShapes Go.WideShapes Go.Deep Go.RowKit
set_option linter.unusedVariables false
section
variable {H : Type} {enc : TypeId × Value → H} {w : World} {base : Nat} {spare : Nat → Bool} {held : Bool}
theorem trod_tok {fuel : Nat} {cs : List Value} {x : DataW H × List MemPlace} (h : DataW.trod enc Tryd.prog w base spare held fuel 36 cs = some x) :
    ∃ (k a : Int) (t : List UInt8), cs = [.int .i64 k, .string ⟨t.toArray⟩, .int .i64 a] := by
  obtain ⟨xs, n, _, hx, hl, hxl, hf⟩ := DataW.trod_struct Tryd.underlying36 h
  have hl3 : cs.length = 3 := hl
  have hx3 : xs.length = 3 := hxl
  match cs, hl3, xs, hx3 with
  | [c0, c1, c2], _, [y0, y1, y2], _ =>
    have h0 := hf 0 _ rfl
    have h1 := hf 1 _ rfl
    have h2 := hf 2 _ rfl
    obtain ⟨k, e0, _⟩ := DataW.trod_int (t := 34) (k := .i64) Tryd.underlying34 h0
    obtain ⟨s, e1, _⟩ := DataW.trod_string (t := 9) Tryd.underlying9 h1
    obtain ⟨a, e2, _⟩ := DataW.trod_int (t := 3) (k := .i64) Tryd.underlying3 h2
    have e0 : [c0] = [Value.int .i64 k] := e0
    have e1 : [c1] = [Value.string s] := e1
    have e2 : [c2] = [Value.int .i64 a] := e2
    injection e0 with e0; injection e1 with e1; injection e2 with e2
    exact ⟨k, a, s.data.toList, by rw [e0, e1, e2]⟩
theorem open_toks {r : Reach} {b0 : Nat} {v : Value} {d : DataW H} {p : List MemPlace} (hv : Value.okWide Tryd.prog w r b0 23 v) (h : DataW.Trod enc Tryd.prog w base spare held 23 v d p) :
    ∃ l : List Tok.TI, ReadsT w v l ∧ l.length ≤ 9223372036854775807 := by
  obtain ⟨a0, len0, cap0, rfl⟩ := okWide_slice Tryd.underlying23 hv
  obtain ⟨fuel, hf⟩ := h
  rcases open_slice Tryd.underlying23 hf with ⟨hcs, _⟩ | ⟨a, len, cap, m, n, D, Pl, hcs, hb, hl, hm, hmm, _, hi⟩
  · simp [Value.cells] at hcs
    obtain ⟨rfl, rfl, rfl⟩ := hcs
    exact ⟨[], ⟨none, 0, rfl, Nat.le_refl _, fun i hi => by simp at hi⟩, by simp⟩
  · simp [Value.cells] at hcs
    obtain ⟨rfl, rfl, rfl⟩ := hcs
    have hC : Tryd.prog.cellsOf 36 = 3 := by kernel_rfl
    have hlm : len0 ≤ m := by rw [hmm]; split <;> omega
    have hel : ∀ i, i < len0 → ∃ t : Tok.TI, w.cell? (a.add (i * 3)) = some (.int .i64 t.1) ∧ w.cell? ((a.add (i * 3)).add 1) = some (.string ⟨t.2.1.toArray⟩) ∧ w.cell? ((a.add (i * 3)).add 2) = some (.int .i64 t.2.2) := by
      intro i hil
      obtain ⟨cs', hc, ht⟩ := hi i (by omega)
      obtain ⟨k, x, t, rfl⟩ := trod_tok ht
      obtain ⟨_, _, hat⟩ := World.cells?_some hc
      rw [hC] at hat
      have z0 := hat 0 (by decide)
      rw [show (a.add (i * 3)).add 0 = a.add (i * 3) from rfl] at z0
      exact ⟨(k, t, x), z0, hat 1 (by decide), hat 2 (by decide)⟩
    obtain ⟨f, hfa⟩ := choose_lt hel
    refine ⟨(List.range len0).map f, ⟨some a, cap0, by simp, by simpa using hl, fun i hi => ?_⟩, by simp; unfold maxLen at hm; omega⟩
    have hi' : i < len0 := by simpa using hi
    obtain ⟨h0, h1, h2⟩ := hfa i hi'
    obtain ⟨g, off, sp⟩ := a
    have hsp : sp = none := by
      obtain ⟨z0, _, _⟩ := hfa 0 (by omega)
      rw [Nat.zero_mul] at z0
      cases sp with
      | none => rfl
      | some x => simp [Addr.add, World.cell?] at z0; split at z0 <;> simp at z0
    subst hsp
    rw [add_off] at h0 h1 h2
    rw [add_off] at h1 h2
    refine ⟨g, off, rfl, ?_, ?_, ?_⟩
    · simpa using h0
    · simpa using h1
    · simpa using h2
end
end Go.Proofs.YtbpaeglmanjbfaaDoor
