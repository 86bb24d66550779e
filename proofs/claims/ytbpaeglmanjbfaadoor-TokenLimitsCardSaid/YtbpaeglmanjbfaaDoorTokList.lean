/- Slices of tokens of a call's own; what Scan computes. -/
import Derived.Test.YtbpaeglmanjbfaaDoorTokRef7
namespace Go.Proofs.YtbpaeglmanjbfaaDoor
open Go.RowKit
set_option linter.unusedSimpArgs false
set_option linter.unusedVariables false
namespace Tok
/-- A token: its kind, text and offset. -/
abbrev T := Int × List UInt8 × Nat
def cellsOf (l : List T) : List Value := l.flatMap fun t => [.int .i64 t.1, .string ⟨t.2.1.toArray⟩, .int .i64 t.2.2]
theorem cellsOf_length : ∀ l : List T, (cellsOf l).length = l.length * 3
  | [] => rfl
  | t :: l => by
    have := cellsOf_length l
    unfold cellsOf at *
    rw [List.flatMap_cons, List.length_append, this, List.length_cons]; simp; omega
theorem cellsOf_append (l m : List T) : cellsOf (l ++ m) = cellsOf l ++ cellsOf m := by unfold cellsOf; rw [List.flatMap_append]
theorem cellsOf_get : ∀ (l : List T) (i : Nat) (h : i < l.length), (cellsOf l)[i * 3]? = some (.int .i64 l[i].1) ∧ (cellsOf l)[i * 3 + 1]? = some (.string ⟨l[i].2.1.toArray⟩) ∧ (cellsOf l)[i * 3 + 2]? = some (.int .i64 l[i].2.2)
  | [], i, h => by simp at h
  | t :: l, 0, _ => by simp [cellsOf]
  | t :: l, i + 1, h => by
    have ih := cellsOf_get l i (by simpa using h)
    have e : cellsOf (t :: l) = [.int .i64 t.1, .string ⟨t.2.1.toArray⟩, .int .i64 t.2.2] ++ cellsOf l := by unfold cellsOf; rw [List.flatMap_cons]
    rw [e]
    refine ⟨?_, ?_, ?_⟩
    · rw [List.getElem?_append_right (by simp; omega)]; simpa [Nat.add_mul] using ih.1
    · rw [List.getElem?_append_right (by simp; omega)]
      have : (i + 1) * 3 + 1 - [Value.int .i64 t.1, .string ⟨t.2.1.toArray⟩, .int .i64 t.2.2].length = i * 3 + 1 := by simp; omega
      rw [this]; exact ih.2.1
    · rw [List.getElem?_append_right (by simp; omega)]
      have : (i + 1) * 3 + 2 - [Value.int .i64 t.1, .string ⟨t.2.1.toArray⟩, .int .i64 t.2.2].length = i * 3 + 2 := by simp; omega
      rw [this]; exact ih.2.2
/-- Does a token begin here? -/
def beginsB : List UInt8 → Bool
  | [] => false
  | b :: l => isLetter b || isDigit b || b == 34 || b == 10 || signN (b :: l) != 0
/-- The tokens, or an error with its offset. -/
structure SR where
  toks : List T
  e : Int
  at' : Nat
def scanF : Nat → List UInt8 → Nat → List T → SR
  | 0, _, k, _ => ⟨[], 2, k⟩
  | f + 1, l, k, acc =>
    if l.drop (skipN l) ≠ [] ∧ beginsB (l.drop (skipN l)) = false then ⟨[], 2, k + skipN l⟩
    else if acc.length = 16384 then ⟨[], 14, k + skipN l⟩
    else if l.drop (skipN l) = [] then ⟨acc ++ [(6, [], k + skipN l)], 0, 0⟩
    else match one 32 (l.drop (skipN l)) with
      | .ok n => scanF f (l.drop (skipN l + n)) (k + skipN l + n) (acc ++ [(kindL (l.drop (skipN l)), textL (l.drop (skipN l)) n, k + skipN l)])
      | .err e a => ⟨[], e, k + skipN l + a⟩
      | .trunc => ⟨[], 40, k + skipN l⟩
def scan (l : List UInt8) : SR := if 65536 < l.length then ⟨[], 3, 0⟩ else scanF (l.length + 1) l 0 []
theorem skip_fit (s : ByteArray) (j : Nat) (hj : j ≤ s.size) : j + skipN (s.data.toList.drop j) ≤ s.size := by
  have h1 := blanks_fit s j hj
  unfold skipN
  rw [drop_drop', ← Nat.add_assoc]
  generalize j + blanksN (s.data.toList.drop j) = k at *
  have h2 : k + commentN (s.data.toList.drop k) ≤ s.size := by
    unfold commentN
    split
    · have hle := spanN_le (· != 10) (s.data.toList.drop k)
      rw [List.length_drop, show s.data.toList.length = s.size by simp] at hle
      omega
    · omega
  omega
section
variable (f : Nat) (s : ByteArray) (j k : Nat) (acc : List T) (hk : j + skipN (s.data.toList.drop j) = k)
include hk
theorem scan_bad (h : k < s.size) (hb : beginsB (s.data.toList.drop k) = false) : scanF (f + 1) (s.data.toList.drop j) j acc = ⟨[], 2, k⟩ := by
  rw [scanF, drop_drop', hk, if_pos ⟨ne_at s k h, hb⟩]
theorem scan_limit (h : k < s.size → beginsB (s.data.toList.drop k) = true) (ha : acc.length = 16384) : scanF (f + 1) (s.data.toList.drop j) j acc = ⟨[], 14, k⟩ := by
  rw [scanF, drop_drop', hk, if_neg ?_, if_pos ha]
  rintro ⟨h1, h2⟩
  by_cases hlt : k < s.size
  · rw [h hlt] at h2; simp at h2
  · exact h1 (drop_end s k hlt)
theorem scan_end (h : ¬ k < s.size) (ha : acc.length ≠ 16384) : scanF (f + 1) (s.data.toList.drop j) j acc = ⟨acc ++ [(6, [], k)], 0, 0⟩ := by
  rw [scanF, drop_drop', hk, drop_end s k h, if_neg (by simp), if_neg ha, if_pos rfl]
theorem scan_step (h : k < s.size) (hb : beginsB (s.data.toList.drop k) = true) (ha : acc.length ≠ 16384) : scanF (f + 1) (s.data.toList.drop j) j acc =
    match one 32 (s.data.toList.drop k) with
      | .ok n => scanF f (s.data.toList.drop (k + n)) (k + n) (acc ++ [(kindL (s.data.toList.drop k), textL (s.data.toList.drop k) n, k)])
      | .err e a => ⟨[], e, k + a⟩
      | .trunc => ⟨[], 40, k⟩ := by
  rw [scanF, drop_drop', hk, if_neg (by rw [hb]; simp), if_neg ha, if_neg (ne_at s k h)]
  cases one 32 (s.data.toList.drop k) with
  | ok n => simp only [← Nat.add_assoc, hk, ← drop_drop']
            rw [drop_drop', drop_drop', ← Nat.add_assoc, hk]
  | err e a => rfl
  | trunc => rfl
end
theorem begins_at (s : ByteArray) (k : Nat) (hk : k < s.size) : beginsB (s.data.toList.drop k) = (isLetter s[k] || isDigit s[k] || s[k] == 34 || s[k] == 10 || signN (s.data.toList.drop k) != 0) := by
  rw [get_cons s k hk]; rfl
/-- Where no token begins, the reader says so. -/
theorem one_begins (D : Nat) (s : ByteArray) (k : Nat) (hk : k < s.size) (hb : beginsB (s.data.toList.drop k) = false) : one D (s.data.toList.drop k) = .err 2 0 := by
  rw [begins_at s k hk] at hb
  simp only [Bool.or_eq_false_iff] at hb
  obtain ⟨⟨⟨⟨h1, h2⟩, h3⟩, h4⟩, h5⟩ := hb
  unfold one
  rw [one_sign (src D) s k hk (by simpa using h4) h1 h2 (by simpa using h3), if_pos (by simpa using h5)]
end Tok

/-- The slice v is nil or leads to the beginning of a block of the call's own (from base on), and reads as the tokens l. -/
def OwnsT (w : World) (base : Nat) (v : Value) (l : List Tok.T) : Prop := w.ownsRow base 36 3 v l.length (Tok.cellsOf l)
namespace OwnsT
variable {w : World} {base : Nat} {v : Value} {l : List Tok.T}
theorem nil (w : World) (base : Nat) : OwnsT w base (.slice none 0 0) [] := World.ownsRow_nil w base _ 3
theorem below {w' : World} {B : Nat} (h : OwnsT w base v l) (hb : Below B w w') (hB : w.heap.size ≤ B) : OwnsT w' base v l :=
  World.ownsRow.kept (row := none) h ⟨hb.os, hb.tape, hb.output, hb.size, fun k hk _ => hb.block k (by omega)⟩ (by cases v.ownBlock <;> simp)
theorem kept {w' : World} {row : Option Nat} (h : OwnsT w base v l) (hg : w.grownBy w' row) (hne : v.ownBlock = none ∨ v.ownBlock ≠ row) : OwnsT w' base v l := World.ownsRow.kept h hg hne
theorem mono {base' : Nat} (h : OwnsT w base v l) (hb : base' ≤ base) : OwnsT w base' v l := by
  obtain ⟨h1, h2⟩ := h
  refine ⟨h1, ?_⟩
  rcases h2 with h2 | ⟨g, cap, cur, hv, hg, r⟩
  · exact .inl h2
  · exact .inr ⟨g, cap, cur, hv, by omega, r⟩
/-- Such a slice written out: its length, and its cells. -/
theorem open' (h : OwnsT w base v l) : (v = .slice none 0 0 ∧ l = []) ∨ ∃ g cap, v = .slice (some ⟨g, 0, none⟩) l.length cap ∧ base ≤ g ∧ g < w.heap.size ∧ ∀ i (hi : i < l.length), w.cell? ⟨g, i * 3, none⟩ = some (.int .i64 l[i].1) ∧ w.cell? ⟨g, i * 3 + 1, none⟩ = some (.string ⟨l[i].2.1.toArray⟩) ∧ w.cell? ⟨g, i * 3 + 2, none⟩ = some (.int .i64 l[i].2.2) := by
  rcases h.2 with ⟨h2, h3⟩ | ⟨g, cap, cur, rfl, hg, hh, _⟩
  · exact .inl ⟨h2, List.eq_nil_of_length_eq_zero h3⟩
  · refine .inr ⟨g, cap, rfl, hg, (Array.getElem?_eq_some_iff.1 hh).1, fun i hi => ?_⟩
    have hc := Tok.cellsOf_get l i hi
    rw [World.ownsRow.cellAt h (i * 3) (by omega), World.ownsRow.cellAt h (i * 3 + 1) (by omega), World.ownsRow.cellAt h (i * 3 + 2) (by omega)]
    exact hc
theorem shape (h : OwnsT w base v l) : ∃ a cap, v = .slice a l.length cap := by
  rcases h.2 with ⟨h1, h2⟩ | ⟨g, cap, cur, h1, _⟩
  · exact ⟨none, 0, by rw [h1, h2]⟩
  · exact ⟨_, cap, h1⟩
theorem set3 (h : OwnsT w base v l) {g : Nat} (hg : g < base) (x y z : Value) : OwnsT (((w.setCell ⟨g, 0, none⟩ x).setCell ⟨g, 1, none⟩ y).setCell ⟨g, 2, none⟩ z) base v l :=
  ownsRow_setCell_below (ownsRow_setCell_below (ownsRow_setCell_below h (a := ⟨g, 0, none⟩) hg x) (a := ⟨g, 1, none⟩) hg y) (a := ⟨g, 2, none⟩) hg z
end OwnsT
theorem info_tok : (Tryd.prog.info? 36).map (fun i => (i.zero, i.size, i.bytes)) = some (some (.agg #[.int .i64 0, .string ⟨#[]⟩, .int .i64 0]), 3, 32) := by kernel_rfl
/-- 'append(s, t)' on a slice of tokens of the call's own. -/
theorem wpList_append_tok {ops : Array Oper} {rest : List Oper} {o : Oper} {a : Act} {Q : Exit → Act → World → Prop} {w0 w : World} (hgd : o.guard = none) (s x : Operand)
    (ho : o.op = .call { callee := .builtin .append, args := #[s, x], argTypes := #[23, 23] })
    (B B' : Nat) (v : Value) (l : List Tok.T) (hs : a.eval s = v) (hown : OwnsT w B' v l) (hbel : Below B w0 w) (hBB : B ≤ B')
    (ad : Addr) (c : Nat) (t : Tok.T) (hx : a.eval x = .slice (some ad) 1 c) (h0 : w.cell? ad = some (.int .i64 t.1)) (h1 : w.cell? (ad.add 1) = some (.string ⟨t.2.1.toArray⟩)) (h2 : w.cell? (ad.add 2) = some (.int .i64 t.2.2))
    (hlen : l.length < 1099511627776) (hbase : B' ≤ w.heap.size)
    (h : ∀ v' w', OwnsT w' B' v' (l ++ [t]) → Below B w0 w' → w.grownBy w' v.ownBlock → wpList Tryd.prog ops Q rest (a.put o.dst v') w') : wpList Tryd.prog ops Q (o :: rest) a w := by
  obtain ⟨i0, hi0, hz0, hz1, hz2⟩ := info_parts info_tok
  refine wpList_append_own w hgd s x 23 ho B' 36 i0 (.agg #[.int .i64 0, .string ⟨#[]⟩, .int .i64 0]) 3 32 Tryd.underlying23 hi0 hz0 hz1 hz2 rfl (by decide) v l.length (Tok.cellsOf l) hs hown ad 1 c (Tok.cellsOf [t]) hx rfl ?_ (by intro u hu; simp [Tok.cellsOf] at hu; rcases hu with rfl | rfl | rfl <;> rfl)
    (by unfold maxLen; omega) (by omega) hbase ?_
  · intro j u hu
    match j with
    | 0 => simp [Tok.cellsOf] at hu; subst hu; simpa [Addr.add] using h0
    | 1 => simp [Tok.cellsOf] at hu; subst hu; exact h1
    | 2 => simp [Tok.cellsOf] at hu; subst hu; exact h2
    | j + 3 => simp [Tok.cellsOf] at hu
  · intro v' w' hown' hgr _
    refine h v' w' ?_ (hbel.grown hgr (by omega) ?_) hgr
    · show w'.ownsRow B' _ 3 v' _ _
      rw [Tok.cellsOf_append, List.length_append]
      exact hown'
    · intro k hk
      have := (World.ownsRow.lt hown k hk).1
      omega
end Go.Proofs.YtbpaeglmanjbfaaDoor
