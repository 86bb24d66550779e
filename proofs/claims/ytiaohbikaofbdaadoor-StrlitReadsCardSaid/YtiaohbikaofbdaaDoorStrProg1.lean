/- The walks of strlit: Valid, Length, Escape, and what they need of the variables. -/
import Derived.Test.YtiaohbikaofbdaaDoorStrRef2
import Derived.Test.YtiaohbikaofbdaaDoorShelf
import Derived.Lib.ReplaceLaws
namespace Go.Proofs.YtiaohbikaofbdaaDoor
open Go.RowKit

/-- What the functions of strlit need of the library's variables. -/
structure Glob (w : World) : Prop where
  tabs : Lib.Utf8Tabs 0 1 w
  maxl : ∃ m, w.cell? ⟨3, 0, none⟩ = some (.int .i64 m)
  tz : w.cell? ⟨5, 15, none⟩ = some (.int .u8 4)
theorem cell_lt {w : World} {a : Addr} {v : Value} (h : w.cell? a = some v) : a.block < w.heap.size := by
  rcases Nat.lt_or_ge a.block w.heap.size with h' | h'
  · exact h'
  · simp [World.cell?, Array.getElem?_eq_none h'] at h
theorem cell_below {w w' : World} {a : Addr} {v : Value} (h : w.cell? a = some v) (b : Below w.heap.size w w') : w'.cell? a = some v := (b.cell (cell_lt h)).trans h
theorem Glob.below {w w' : World} (h : Glob w) (b : Below w.heap.size w w') : Glob w' :=
  ⟨Utf8Tabs_below h.tabs b, h.maxl.imp fun _ hm => cell_below hm b, cell_below h.tz b⟩

theorem valid_any (s : ByteArray) (w : World) (hs : s.size ≤ 1000000) (g : Glob w) :
    Calls Tryd.prog 10 #[.string s] w fun e w' => e = .returned (.bool (Str.valid s.data.toList)) ∧ Below w.heap.size w w' := by
  by_cases h4 : s.size ≤ 4096
  · have Hv := kept (show Str.valid s.data.toList = Lib.validD s.data.toList by simp [Str.valid, h4])
    have G := kept g; clear g
    go_enter Tryd.func10, Tryd.ntmps10
    go_wp2_with fail
    refine (Tryd.utf8_ValidString s _ (by omega) G.out.tabs).mono ?_; rintro e w1 ⟨rfl, b1⟩
    have B1 := kept b1; clear b1
    go_wp2
    go_ret
    exact ⟨ret_bool Hv.out.symm, B1.out⟩
  · have Hv := kept (show Str.valid s.data.toList = false by simp [Str.valid]; omega)
    go_enter Tryd.func10, Tryd.ntmps10
    go_wp2
    go_ret
    exact ⟨ret_bool Hv.out.symm, Below.refl _ _⟩
theorem length_any (s : ByteArray) (w : World) (hs : s.size ≤ 1000000) :
    Calls Tryd.prog 16 #[.string s] w fun e w' => e = .returned (.int .i64 (Lib.runeCount s)) ∧ Below w.heap.size w w' := by
  go_enter Tryd.func16, Tryd.ntmps16
  go_wp2_with fail
  refine (Tryd.utf8_RuneCountInString s _ (by omega)).mono ?_; rintro e w1 ⟨rfl, pos, rfl⟩
  go_wp2
  go_ret
  exact ⟨rfl, (Below.refl _ w).alloc (Nat.le_refl _) _⟩
namespace Str
open Go.Lib
theorem pre_iff (b : UInt8) (l : List UInt8) : [36, 123].isPrefixOf (b :: l) = true ↔ (b = 36 ∧ l.head? = some 123) := by
  cases l with
  | nil => simp [List.isPrefixOf]
  | cons c t => simp [List.isPrefixOf]; constructor <;> (rintro ⟨h1, h2⟩; exact ⟨h1.symm, h2.symm⟩)
theorem escape_none : ∀ l : List UInt8, index l [36, 123] = -1 → escape l = l
  | [], _ => rfl
  | b :: l, h => by
    have hg := index_ge l [36, 123]
    unfold index at h
    rw [escape_step]
    split at h
    · omega
    next hp =>
      rw [if_neg (fun hh => hp ((pre_iff b l).2 hh))]
      split at h
      next h1 => rw [escape_none l (by simpa using h1)]; rfl
      next h1 => omega
theorem escape_some : ∀ (l : List UInt8) (i : Nat), index l [36, 123] = i → escape l = l.take i ++ [36, 36, 123] ++ escape (l.drop (i + 2))
  | [], i, h => by simp [index] at h
  | b :: l, i, h => by
    have hg := index_ge l [36, 123]
    unfold index at h
    rw [escape_step]
    split at h
    next hp =>
      obtain rfl : i = 0 := by omega
      have hb := (pre_iff b l).1 hp
      rw [if_pos hb]
      obtain ⟨rfl, h2⟩ := hb
      cases l with
      | nil => simp at h2
      | cons c t =>
        obtain rfl : c = 123 := by simpa using h2
        rw [escape_step, if_neg (by simp)]
        rfl
    next hp =>
      rw [if_neg (fun hh => hp ((pre_iff b l).2 hh))]
      split at h
      next h1 => omega
      next h1 =>
        have h2 : index l [36, 123] ≠ -1 := by simpa using h1
        obtain ⟨j, rfl⟩ : ∃ j, i = j + 1 := ⟨i - 1, by omega⟩
        rw [escape_some l j (by omega)]
        rfl
theorem replaceK_escape : ∀ (n : Nat) (l : List UInt8), l.length ≤ n → replaceK [36, 123] [36, 36, 123] (count l [36, 123]) l = escape l
  | n, l, hn => by
    by_cases h : index l [36, 123] = -1
    · rw [count_miss h, escape_none l h]; rfl
    · have hg := index_ge l [36, 123]
      obtain ⟨i, hi⟩ : ∃ i : Nat, index l [36, 123] = i := ⟨(index l [36, 123]).toNat, by omega⟩
      have hl0 : l = [] → False := fun e => h (by rw [e]; rfl)
      have hd := drop_shorter (s := l) (sub := [36, 123]) (by simp) (by simp; exact h)
      rw [hi] at hd
      simp only [Int.toNat_natCast, List.length_cons, List.length_nil, Nat.zero_add, Nat.reduceAdd] at hd
      cases n with
      | zero => exact (hl0 (List.eq_nil_of_length_eq_zero (by omega))).elim
      | succ n =>
        have ih := replaceK_escape n (l.drop (i + 2)) (by omega)
        rw [count_hit (by simp) hi, Nat.add_comm 1, replaceK_hit _ _ _ _ i hi, escape_some l i hi]
        simp only [List.length_cons, List.length_nil, Nat.zero_add, Nat.reduceAdd] at ih ⊢
        rw [ih]
theorem replaceAll_escape (l : List UInt8) : replaceAll l [36, 123] [36, 36, 123] = escape l := by
  unfold replaceAll replace replaceNum
  rw [if_neg (by decide), if_pos (.inl (by decide))]
  exact replaceK_escape l.length l (Nat.le_refl _)
end Str
theorem escape_any (s : ByteArray) (w : World) (hs : s.size ≤ 1000000) (g : Glob w) :
    Calls Tryd.prog 14 #[.string s] w fun e w' => e = .returned (.string ⟨(Str.escape s.data.toList).toArray⟩) ∧ Below w.heap.size w w' := by
  obtain ⟨m, hm⟩ := g.maxl
  have hcnt := kept (Lib.countB_mul_le ⟨#[36, 123]⟩ (by decide) s.size s (Nat.le_refl _))
  have Hm := kept hm; clear g hm
  go_enter Tryd.func14, Tryd.ntmps14
  go_wp2_with fail
  refine (Tryd.strings_ReplaceAll s _ _ m _ (by omega) Hm.out (by decide) (by
    have h1 : (⟨#[36, 123]⟩ : ByteArray).size = 2 := rfl
    have h2 : (⟨#[36, 36, 123]⟩ : ByteArray).size = 3 := rfl
    have := hcnt.out
    rw [h1] at this; rw [h2]; omega)).mono ?_; rintro e w1 ⟨rfl, b1⟩
  have B1 := kept b1; clear b1
  go_wp2
  go_ret
  exact ⟨ret_str (Str.replaceAll_escape _), B1.out⟩
end Go.Proofs.YtiaohbikaofbdaaDoor
