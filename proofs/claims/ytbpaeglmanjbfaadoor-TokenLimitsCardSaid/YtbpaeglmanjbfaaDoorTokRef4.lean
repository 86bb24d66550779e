/- The walks of provisionref13: bad, text. -/
import Derived.Test.YtbpaeglmanjbfaaDoorTokRef3
import Derived.Test.YtbpaeglmanjbfaaDoorStrUnq2
namespace Go.Proofs.YtbpaeglmanjbfaaDoor
open Go.RowKit
set_option linter.unusedSimpArgs false
set_option linter.unusedVariables false
theorem byte_neq (b : UInt8) (n : Nat) (hn : n < 256) (h : b ≠ UInt8.ofNat n) : ((b.toNat : Int) == (n : Int)) = false := by simpa using byte_ne' b n hn h
def diagV (k : Int) (at' : Int) : Value := .agg #[.int .i64 k, .int .i64 at', .string ⟨#[]⟩]
/-- The end of a reading of a string's source (or of an interpolation) at k: the offset behind it, or the error; q: where the outermost string begins. -/
def readEnd (k q : Int) : Tok.R → Ending
  | .ok n => .returned (.tuple #[.int .i64 (k + n), diagV 0 0])
  | .err e a => .returned (.tuple #[.int .i64 0, diagV e (k + a)])
  | .trunc => .returned (.tuple #[.int .i64 0, diagV 40 q])
theorem readEnd_err {k q e p : Int} {a : Nat} {r : Tok.R} (h : r = .err e a) (hp : p = k + a) : Ending.returned (.tuple #[.int .i64 0, diagV e p]) = readEnd k q r := by subst h; subst hp; rfl
theorem readEnd_ok {k q p : Int} {n : Nat} {r : Tok.R} (h : r = .ok n) (hp : p = k + n) : Ending.returned (.tuple #[.int .i64 p, diagV 0 0]) = readEnd k q r := by subst h; subst hp; rfl
theorem readEnd_trunc {k q : Int} {r : Tok.R} (h : r = .trunc) : Ending.returned (.tuple #[.int .i64 0, diagV 40 q]) = readEnd k q r := by subst h; rfl
set_option maxHeartbeats 400000 in
theorem refBad_any (k a : Int) (w : World) :
    Calls Tryd.prog 28 #[.int .i64 k, .int .i64 a] w fun e w' => e = .returned (.agg #[.int .i64 k, .int .i64 a, .string ⟨#[]⟩]) ∧ Below w.heap.size w w' := by
  go_enter Tryd.func28, Tryd.ntmps28
  go_wp2
  exact bodyPost_ret (v := diagV k a) (by simp [results, Tryd.results28, go_sem, diagV]) rfl ⟨rfl, ball w _⟩

namespace Tok
theorem extract_take (s : ByteArray) (k n : Nat) : s.extract k (k + n) = ⟨((s.data.toList.drop k).take n).toArray⟩ := by
  refine str_of ?_
  simp only [ByteArray.data_extract, Array.toList_extract, List.extract_eq_take_drop]
  rw [show k + n - k = n by omega]
theorem src_end (inn : List UInt8 → R) (f : Nat) : srcW inn (f + 1) [] = .trunc := by rw [srcW, if_pos rfl]
section
variable (inn : List UInt8 → R) (f : Nat) (s : ByteArray) (j : Nat) (hj : j < s.size)
include hj
theorem head_at (b : UInt8) : (s.data.toList.drop j).head? = some b ↔ s[j] = b := by rw [get_cons s j hj]; simp
theorem ne_at : s.data.toList.drop j ≠ [] := by rw [get_cons s j hj]; simp
theorem src_quote (h : s[j] = 34) : srcW inn (f + 1) (s.data.toList.drop j) = .ok 0 := by
  rw [srcW, if_neg (ne_at s j hj), if_pos ((head_at s j hj 34).2 h)]
theorem src_esc (h1 : s[j] ≠ 34) (h : (s.data.toList.drop j).take 3 = [36, 36, 123]) : srcW inn (f + 1) (s.data.toList.drop j) = (srcW inn f (s.data.toList.drop (j + 3))).up 3 := by
  rw [srcW, if_neg (ne_at s j hj), if_neg (fun hh => h1 ((head_at s j hj 34).1 hh)), if_pos h, drop_drop']
theorem src_inn (h1 : s[j] ≠ 34) (h2 : (s.data.toList.drop j).take 3 ≠ [36, 36, 123]) (h : (s.data.toList.drop j).take 2 = [36, 123]) :
    srcW inn (f + 1) (s.data.toList.drop j) = match inn (s.data.toList.drop j) with
      | .ok n => (srcW inn f (s.data.toList.drop (j + n))).up n
      | r => r := by
  rw [srcW, if_neg (ne_at s j hj), if_neg (fun hh => h1 ((head_at s j hj 34).1 hh)), if_neg h2, if_pos h]
  cases inn (s.data.toList.drop j) <;> simp [drop_drop']
theorem src_back (h1 : s[j] ≠ 34) (h2 : (s.data.toList.drop j).take 3 ≠ [36, 36, 123]) (h3 : (s.data.toList.drop j).take 2 ≠ [36, 123]) (h : s[j] = 92) :
    srcW inn (f + 1) (s.data.toList.drop j) = if s.size ≤ j + 1 then .trunc else if charN (s.data.toList.drop (j + 1)) = 0 then .err 2 1 else (srcW inn f (s.data.toList.drop (j + 1 + charN (s.data.toList.drop (j + 1))))).up (1 + charN (s.data.toList.drop (j + 1))) := by
  rw [srcW, if_neg (ne_at s j hj), if_neg (fun hh => h1 ((head_at s j hj 34).1 hh)), if_neg h2, if_neg h3, if_pos ((head_at s j hj 92).2 h), drop_drop']
  by_cases he : s.size ≤ j + 1
  · rw [if_pos (drop_end s (j + 1) (by omega)), if_pos he]
  · rw [if_neg (ne_at s (j + 1) (by omega)), if_neg he, drop_drop', Nat.add_assoc]
theorem src_char (h1 : s[j] ≠ 34) (h2 : (s.data.toList.drop j).take 3 ≠ [36, 36, 123]) (h3 : (s.data.toList.drop j).take 2 ≠ [36, 123]) (h4 : s[j] ≠ 92) :
    srcW inn (f + 1) (s.data.toList.drop j) = if charN (s.data.toList.drop j) = 0 then .err 2 0 else (srcW inn f (s.data.toList.drop (j + charN (s.data.toList.drop j)))).up (charN (s.data.toList.drop j)) := by
  rw [srcW, if_neg (ne_at s j hj), if_neg (fun hh => h1 ((head_at s j hj 34).1 hh)), if_neg h2, if_neg h3, if_neg (fun hh => h4 ((head_at s j hj 92).1 hh)), drop_drop']
theorem char_eq : charN (s.data.toList.drop j) = if widthN s j = 0 ∨ (s[j].toNat : Int) < 32 ∨ (s[j].toNat : Int) = 127 then 0 else widthN s j := by
  have hw := Str.dec_width s j hj
  have hc := Str.dec_cases (s.data.toList.drop j)
  have hg : (s.data.toList.drop j).getD 0 0 = s[j] := by rw [get_cons s j hj]; rfl
  rw [hg] at hc
  unfold charN widthN
  rw [Str.decL] at hc ⊢
  rcases Str.refDec_cases s j hj with ⟨hb, he⟩ | ⟨hb, he⟩
  · rw [if_pos (.inr (.inr (.inr hb))), he, if_pos (.inl rfl)]
  · rw [he]
    have e : (s.data.toList.drop j = [] ∨ (Utf8.decode s j).1 < 32 ∨ (Utf8.decode s j).1 = 127 ∨ ((Utf8.decode s j).1 = 65533 ∧ (Utf8.decode s j).2 = 1)) ↔ ((Utf8.decode s j).2 = 0 ∨ (s[j].toNat : Int) < 32 ∨ (s[j].toNat : Int) = 127) := by
      have hb' : ¬ ((Utf8.decode s j).1 = 65533 ∧ (Utf8.decode s j).2 = 1) := hb
      constructor
      · rintro (h | h | h | h)
        · exact absurd h (ne_at s j hj)
        · rcases hc with ⟨h1, h2⟩ | ⟨h1, h2⟩
          · rw [h2] at h; right; left; exact_mod_cast h
          · omega
        · rcases hc with ⟨h1, h2⟩ | ⟨h1, h2⟩
          · rw [h2] at h; right; right; exact_mod_cast h
          · omega
        · exact absurd h hb'
      · rintro (h | h | h)
        · omega
        · rcases hc with ⟨h1, h2⟩ | ⟨h1, h2⟩
          · right; left; rw [h2]; show s[j].toNat < 32; omega
          · omega
        · rcases hc with ⟨h1, h2⟩ | ⟨h1, h2⟩
          · right; right; left; rw [h2]; show s[j].toNat = 127; omega
          · omega
    by_cases hh : ((Utf8.decode s j).2 = 0 ∨ (s[j].toNat : Int) < 32 ∨ (s[j].toNat : Int) = 127)
    · rw [if_pos (e.2 hh), if_pos hh]
    · rw [if_neg (fun h => hh (e.1 h)), if_neg hh]
theorem char_le : j + charN (s.data.toList.drop j) ≤ s.size := by
  have hw := Str.dec_width s j hj
  unfold charN
  rw [Str.decL]
  split
  · omega
  · exact hw.2
theorem width_le : j + widthN s j ≤ s.size := by
  have hw := Str.dec_width s j hj
  unfold widthN
  rcases Str.refDec_cases s j hj with ⟨hb, he⟩ | ⟨hb, he⟩
  · rw [he]; simp; omega
  · rw [he]; exact hw.2
end
end Tok
/-- The cells of a result that is a Diag. -/
def DiagAt (w : World) (g : Nat) : Prop := w.heap[g]? = some (.cells #[.int .i64 0, .int .i64 0, .string ⟨#[]⟩] 26 (0, 0))
theorem DiagAt.below {w w' : World} {g : Nat} (h : DiagAt w g) (hb : Below w.heap.size w w') : DiagAt w' g := (hb.block g (Array.getElem?_eq_some_iff.1 h).1).trans h
theorem bthen2 {B : Nat} {W a b : World} (h : Below B W a) (k : Below a.heap.size a b) (hB : B ≤ a.heap.size) : Below B W b := h.trans (k.mono hB)
theorem DiagAt.facts {w : World} {g : Nat} (h : DiagAt w g) : w.cell? ⟨g, 0, none⟩ = some (.int .i64 0) ∧ w.cell? ⟨g, 1, none⟩ = some (.int .i64 0) ∧ w.cell? ⟨g, 2, none⟩ = some (.string ⟨#[]⟩) ∧ w.frozen? ⟨g, 0, none⟩ = false ∧ w.frozen? ⟨g, 1, none⟩ = false ∧ w.frozen? ⟨g, 2, none⟩ = false := by
  refine ⟨?_, ?_, ?_, ?_, ?_, ?_⟩
  · rw [cell_of_row _ _ _ _ _ _ h]; rfl
  · rw [cell_of_row _ _ _ _ _ _ h]; rfl
  · rw [cell_of_row _ _ _ _ _ _ h]; rfl
  · simp only [World.frozen?, show w.heap[g]? = _ from h]; rfl
  · simp only [World.frozen?, show w.heap[g]? = _ from h]; rfl
  · simp only [World.frozen?, show w.heap[g]? = _ from h]; rfl
theorem DiagAt.set {w : World} {g : Nat} (h : DiagAt w g) (x y z : Value) :
    (w.setCell ⟨g, 0, none⟩ x).cell? ⟨g, 0, none⟩ = some x ∧ ((w.setCell ⟨g, 0, none⟩ x).setCell ⟨g, 1, none⟩ y).cell? ⟨g, 1, none⟩ = some y ∧ (((w.setCell ⟨g, 0, none⟩ x).setCell ⟨g, 1, none⟩ y).setCell ⟨g, 2, none⟩ z).cell? ⟨g, 2, none⟩ = some z := by
  have h0 : w.heap[g]? = some (.cells #[.int .i64 0, .int .i64 0, .string ⟨#[]⟩] 26 (0, 0)) := h
  have h1 : (w.setCell ⟨g, 0, none⟩ x).heap[g]? = some (.cells #[x, .int .i64 0, .string ⟨#[]⟩] 26 (0, 0)) := by
    simp only [World.setCell, Array.getElem?_modify, if_true]; rw [h0]; rfl
  have h2 : ((w.setCell ⟨g, 0, none⟩ x).setCell ⟨g, 1, none⟩ y).heap[g]? = some (.cells #[x, y, .string ⟨#[]⟩] 26 (0, 0)) := by
    conv => lhs; rw [World.setCell]
    simp only [Array.getElem?_modify, if_true]; rw [h1]; rfl
  have h3 : (((w.setCell ⟨g, 0, none⟩ x).setCell ⟨g, 1, none⟩ y).setCell ⟨g, 2, none⟩ z).heap[g]? = some (.cells #[x, y, z] 26 (0, 0)) := by
    conv => lhs; rw [World.setCell]
    simp only [Array.getElem?_modify, if_true]; rw [h2]; rfl
  refine ⟨?_, ?_, ?_⟩
  · rw [cell_of_row _ _ _ _ _ _ h1]; rfl
  · rw [cell_of_row _ _ _ _ _ _ h2]; rfl
  · rw [cell_of_row _ _ _ _ _ _ h3]; rfl
theorem bset3 {B g : Nat} {w wr : World} (h : Below B w wr) (hg : B ≤ g) (x y z : Value) : Below B w (((wr.setCell ⟨g, 0, none⟩ x).setCell ⟨g, 1, none⟩ y).setCell ⟨g, 2, none⟩ z) := ((h.setCell hg _).setCell hg _).setCell hg _
theorem DiagAt.fresh (w : World) : DiagAt (w.alloc (.cells #[.int .i64 0, .int .i64 0, .string ⟨#[]⟩] 26)) w.heap.size := heap_alloc_new w _

set_option maxRecDepth 100000 in
set_option maxHeartbeats 2000000 in
theorem refText_of (inn : List UInt8 → Tok.R) (d : Nat) (q : Int) (s : ByteArray) (hs : s.size ≤ 1000000) (hd : d ≤ 32)
    (h0 : d = 32 → inn = fun _ => .err 4 0)
    (hn : d < 32 → ∀ (j : Nat) (w : World), j + 2 ≤ s.size → Calls Tryd.prog 69 #[.string s, .int .i64 (j + 2 : Int), .int .i64 (d + 1 : Int), .int .i64 q] w fun e w' => e = readEnd j q (inn (s.data.toList.drop j)) ∧ Below w.heap.size w w')
    (hne : ∀ (l : List UInt8) (e : Int) (a : Nat), inn l = .err e a → e ≠ 0)
    (hok : ∀ (j n : Nat), j < s.size → inn (s.data.toList.drop j) = .ok n → 1 ≤ n ∧ j + n ≤ s.size)
    (k : Nat) (hk : k ≤ s.size) (w : World) :
    Calls Tryd.prog 57 #[.string s, .int .i64 k, .int .i64 d, .int .i64 q] w fun e w' => e = readEnd k q (Tok.srcW inn (s.size - k + 1) (s.data.toList.drop k)) ∧ Below w.heap.size w w' := by
  obtain ⟨U, hU⟩ : ∃ U, U = Tok.srcW inn (s.size - k + 1) (s.data.toList.drop k) := ⟨_, rfl⟩
  rw [← hU]
  have HU := kept hU
  clear hU
  have Hn := kept hn; have H0 := kept h0; have Hok := kept hok; have Hne := kept hne
  clear hn h0 hok hne
  go_enter Tryd.func57, Tryd.ntmps57
  go_wp2
  go_loopw [1] (fun av wr => ∃ (j f : Nat), j ≤ s.size ∧ k ≤ j ∧ av = .int .i64 j ∧ s.size - j < f ∧ U = (Tok.srcW inn f (s.data.toList.drop j)).up (j - k) ∧ DiagAt wr w.heap.size ∧ Below w.heap.size w wr ∧ w.heap.size < wr.heap.size) (fun av _ => s.size - (intOf av).toNat)
  case atStart => exact ⟨k, s.size - k + 1, hk, Nat.le_refl _, rfl, by omega, by rw [HU.out, Nat.sub_self, Tok.R.up_zero], DiagAt.fresh w, ball w _, by simp⟩
  case round =>
    obtain ⟨j, f, hj, hkj, rfl, hf, hu, hdi, hbel, hsz⟩ := hrel
    have Hu := kept hu; have Hd := kept hdi; have Hl := kept hbel
    clear hu hdi hbel
    obtain ⟨f, rfl⟩ : ∃ f', f = f' + 1 := ⟨f - 1, by omega⟩
    by_cases hlt : j < s.size
    · have hlt' : (j : Int) < s.size := by omega
      by_cases h34 : s[j] = 34
      · have Hx := kept (show U = .ok (0 + (j - k)) by rw [Hu.out, Tok.src_quote inn f s j hlt h34]; simp [Tok.R.up])
        have hv : (s[j].toNat : Int) = 34 := by rw [h34]; rfl
        clear h34
        obtain ⟨c0, c1, c2, f0, f1, f2⟩ := Hd.out.facts
        go_wp2
        obtain ⟨e0, e1, e2⟩ := Hd.out.set (.int .i64 0) (.int .i64 0) (.string ⟨#[]⟩)
        exact bodyPost_ret (v := .tuple #[.int .i64 j, diagV 0 0]) (by simp [e0, e1, e2, results, Tryd.results57, go_sem, diagV]) rfl ⟨by rw [Hx.out]; simp [readEnd]; omega, bset3 Hl.out (Nat.le_refl _) _ _ _⟩
      · have hx3 := Tok.extract_take s j 3
        have hx2 := Tok.extract_take s j 2
        have hl3 : ((s.data.toList.drop j).take 3).length = min 3 (s.size - j) := by simp
        have hl2 : ((s.data.toList.drop j).take 2).length = min 2 (s.size - j) := by simp
        have g34 : ((s[j].toNat : Int) == 34) = false := byte_neq s[j] 34 (by decide) h34
        have S3 := kept (Tok.src_esc inn f s j hlt h34)
        have S2 := kept (Tok.src_inn inn f s j hlt h34)
        have S1 := kept (Tok.src_back inn f s j hlt h34)
        have S0 := kept (Tok.src_char inn f s j hlt h34)
        generalize ht3 : (s.data.toList.drop j).take 3 = t3 at *
        generalize ht2 : (s.data.toList.drop j).take 2 = t2 at *
        obtain ⟨u, huu, hu0, hu1⟩ := byte_int s[j]
        rw [huu] at g34
        clear ht3 ht2 h34
        by_cases c3 : t3 = [36, 36, 123]
        · have Hx := kept (Hu.out.trans (by rw [S3.out c3]))
          have hj3 : (j : Int) + 3 ≤ s.size := by rw [c3] at hl3; simp at hl3; omega
          subst c3
          clear hl3 hx2 hl2
          go_wp2
          exact ⟨⟨j + 3, f, by omega, by omega, by go_num, by omega, by rw [Hx.out, Tok.R.up_up]; congr 1; omega, Hd.out, Hl.out, hsz⟩, by simp [intOf]; omega⟩
        · have c3a : (t3 == [36, 36, 123]) = false := by simpa using c3
          have c3b : decide ((j : Int) + 3 ≤ s.size) = false ∨ decide ((j : Int) + 3 ≤ s.size) = true := by cases decide ((j : Int) + 3 ≤ s.size) <;> simp
          by_cases c2 : t2 = [36, 123]
          · have hj2 : (j : Int) + 2 ≤ s.size := by rw [c2] at hl2; simp at hl2; omega
            have Hx := kept (Hu.out.trans (by rw [S2.out c3 c2]))
            have Hc3 := kept c3
            subst c2
            clear hl3 hl2 S0 S1 S2 S3 c3
            by_cases hd32 : d = 32
            · have Hx2 := kept (show U = .err 4 (j - k) by rw [Hx.out, H0.out hd32]; simp [Tok.R.up])
              subst hd32
              rcases c3b with h3 | h3
              all_goals
                have h3' := h3
                simp only [decide_eq_true_eq, decide_eq_false_iff_not] at h3'
                go_wp2_with fail
                (with_reducible refine (refBad_any _ _ _).mono ?_); rintro e w9 ⟨rfl, b9⟩
                have Hd9 := kept (Hd.out.below b9); have Hl9 := kept (bthen2 Hl.out b9 (by omega)); clear b9
                obtain ⟨c0, c1, c2, f0, f1, f2⟩ := Hd9.out.facts
                go_wp2
                exact bodyPost_ret (v := .tuple #[.int .i64 0, diagV 4 j]) (by simp [c0, c1, c2, results, Tryd.results57, go_sem, diagV]) rfl ⟨readEnd_err Hx2.out (by omega), bset3 Hl9.out (Nat.le_refl _) _ _ _⟩
            · have hd32' : (d : Int) < 32 := by omega
              have Hin := kept (fun w => Hn.out (by omega) j w (by omega))
              obtain ⟨r, hr⟩ : ∃ r, inn (s.data.toList.drop j) = r := ⟨_, rfl⟩
              have Hr := kept hr
              rw [hr] at Hx Hin
              clear hr
              cases r with
              | ok n =>
                have hon := Hok.out j n hlt Hr.out
                have hon1 : 1 ≤ n := hon.1
                have hon2 : j + n ≤ s.size := hon.2
                clear hon
                simp only [readEnd, diagV] at Hin
                rcases c3b with h3 | h3
                all_goals
                  have h3' := h3
                  simp only [decide_eq_true_eq, decide_eq_false_iff_not] at h3'
                  go_wp2_with fail
                  (with_reducible refine (Hin.out _).mono ?_); rintro e w9 ⟨rfl, b9⟩
                  have Hd9 := kept (Hd.out.below b9); have Hl9 := kept (bthen2 Hl.out b9 (by omega)); have hsz9 := b9.size; clear b9
                  go_wp2
                  exact ⟨⟨j + n, f, by omega, by omega, by go_num, by omega, by rw [Hx.out, Tok.R.up_up]; congr 1; omega, Hd9.out.below (ball _ _), bthen2 Hl9.out (ball _ _) (by omega), by simp; omega⟩, by simp [intOf]; omega⟩
              | err e0 a0 =>
                have hne0 := Hne.out _ _ _ Hr.out
                have hne1 : (e0 == 0) = false := by simpa using hne0
                have hne2 : (e0 != 0) = true := by simpa using hne0
                have Hx2 := kept (show U = .err e0 (j - k + a0) by rw [Hx.out]; simp [Tok.R.up])
                simp only [readEnd, diagV] at Hin
                rcases c3b with h3 | h3
                all_goals
                  have h3' := h3
                  simp only [decide_eq_true_eq, decide_eq_false_iff_not] at h3'
                  go_wp2_with fail
                  (with_reducible refine (Hin.out _).mono ?_); rintro e w9 ⟨rfl, b9⟩
                  have Hd9 := kept (Hd.out.below b9); have Hl9 := kept (bthen2 Hl.out b9 (by omega)); have hsz9 := b9.size; clear b9
                  have hsz2 : w.heap.size < w9.heap.size := by omega
                  obtain ⟨c0, c1, c2, f0, f1, f2⟩ := Hd9.out.facts
                  go_wp2
                  go_region
                  all_goals go_wp2
                  all_goals exact bodyPost_ret (v := .tuple #[.int .i64 0, diagV e0 (j + a0 : Int)]) (by simp [c0, c1, c2, hsz2, results, Tryd.results57, go_sem, diagV]) rfl ⟨readEnd_err Hx2.out (by omega), ((bset3 Hl9.out (Nat.le_refl _) _ _ _).alloc (by simp; omega) _).drew⟩
              | trunc =>
                have Hx2 := kept (show U = .trunc by rw [Hx.out]; simp [Tok.R.up])
                simp only [readEnd, diagV] at Hin
                rcases c3b with h3 | h3
                all_goals
                  have h3' := h3
                  simp only [decide_eq_true_eq, decide_eq_false_iff_not] at h3'
                  go_wp2_with fail
                  (with_reducible refine (Hin.out _).mono ?_); rintro e w9 ⟨rfl, b9⟩
                  have Hd9 := kept (Hd.out.below b9); have Hl9 := kept (bthen2 Hl.out b9 (by omega)); have hsz9 := b9.size; clear b9
                  have hsz2 : w.heap.size < w9.heap.size := by omega
                  obtain ⟨c0, c1, c2, f0, f1, f2⟩ := Hd9.out.facts
                  go_wp2
                  go_region
                  all_goals go_wp2
                  all_goals exact bodyPost_ret (v := .tuple #[.int .i64 0, diagV 40 q]) (by simp [c0, c1, c2, hsz2, results, Tryd.results57, go_sem, diagV]) rfl ⟨readEnd_trunc Hx2.out, ((bset3 Hl9.out (Nat.le_refl _) _ _ _).alloc (by simp; omega) _).drew⟩
          · have c2a : (t2 == [36, 123]) = false := by simpa using c2
            have c2b : decide ((j : Int) + 2 ≤ s.size) = false ∨ decide ((j : Int) + 2 ≤ s.size) = true := by cases decide ((j : Int) + 2 ≤ s.size) <;> simp
            have S1' := kept (S1.out c3 c2); have S0' := kept (S0.out c3 c2)
            have Hc3 := kept c3; have Hc2 := kept c2
            clear hl3 hl2 S0 S1 S2 S3 c3 c2
            by_cases h92 : s[j] = 92
            · have Hx := kept (Hu.out.trans (by rw [S1'.out h92]))
              have hv : u = 92 := by rw [← huu, h92]; rfl
              subst hv
              clear h92
              by_cases he : s.size ≤ j + 1
              · have Hx2 := kept (show U = .trunc by rw [Hx.out, if_pos he]; rfl)
                have he' : (s.size : Int) ≤ (j : Int) + 1 := by omega
                rcases c3b with h3 | h3
                all_goals rcases c2b with h2 | h2
                all_goals
                  have h3' := h3
                  have h2' := h2
                  simp only [decide_eq_true_eq, decide_eq_false_iff_not] at h3' h2'
                all_goals first
                  | (exfalso; omega)
                  | skip
                all_goals
                  go_wp2_with fail
                  (with_reducible refine (refBad_any _ _ _).mono ?_); rintro e w9 ⟨rfl, b9⟩
                  have Hd9 := kept (Hd.out.below b9); have Hl9 := kept (bthen2 Hl.out b9 (by omega)); clear b9
                  obtain ⟨c0, c1, c2, f0, f1, f2⟩ := Hd9.out.facts
                  go_wp2
                  exact bodyPost_ret (v := .tuple #[.int .i64 0, diagV 40 q]) (by simp [c0, c1, c2, results, Tryd.results57, go_sem, diagV]) rfl ⟨readEnd_trunc Hx2.out, bset3 Hl9.out (Nat.le_refl _) _ _ _⟩
              · have hlt2 : j + 1 < s.size := by omega
                have he' : (j : Int) + 1 < s.size := by omega
                obtain ⟨u, huu2, hu20, hu21⟩ := byte_int s[j + 1]
                have hce := Tok.char_eq s (j + 1) hlt2
                have hwl := Tok.width_le s (j + 1) hlt2
                have Hw := kept (fun w => refWidth_any s (j + 1) w hs hlt2)
                rw [show ((j + 1 : Nat) : Int) = (j : Int) + 1 by omega] at Hw
                obtain ⟨m, hm⟩ : ∃ m, Tok.widthN s (j + 1) = m := ⟨_, rfl⟩
                rw [hm, huu2] at hce
                rw [hm] at hwl Hw
                have HxN := kept (show ¬ (m = 0 ∨ u < 32 ∨ u = 127) → U = Tok.R.up (j - k) (Tok.R.up (1 + m) (Tok.srcW inn f (s.data.toList.drop (j + 1 + m)))) by
                  intro h; rw [Hx.out, if_neg he, hce, if_neg h, if_neg (fun hh => h (.inl hh))])
                have HxB := kept (show (m = 0 ∨ u < 32 ∨ u = 127) → U = .err 2 (j - k + 1) by
                  intro h; rw [Hx.out, if_neg he, hce, if_pos h]; simp [Tok.R.up])
                clear hce hm he
                rcases c3b with h3 | h3
                all_goals rcases c2b with h2 | h2
                all_goals
                  have h3' := h3
                  have h2' := h2
                  simp only [decide_eq_true_eq, decide_eq_false_iff_not] at h3' h2'
                all_goals first
                  | (exfalso; omega)
                  | skip
                all_goals
                  go_wp2_with fail
                  (with_reducible refine (Hw.out _).mono ?_); rintro e w1 ⟨rfl, rfl⟩
                  go_wp2_with fail
                all_goals (try simp only [beq_iff_eq, beq_eq_false_iff_ne, ne_eq] at *)
                all_goals by_cases hq : (m = 0 ∨ u < 32 ∨ u = 127)
                all_goals first
                  | (exfalso; omega)
                  | skip
                all_goals first
                  | (have Hx2 := kept (HxN.out hq)
                     exact ⟨⟨j + 1 + m, f, by omega, by omega, by go_num, by omega, by rw [Hx2.out, Tok.R.up_up]; congr 1; omega, Hd.out, Hl.out, hsz⟩, by simp [intOf]; omega⟩)
                  | (have Hx2 := kept (HxB.out hq)
                     go_wp2_with fail
                     (with_reducible refine (refBad_any _ _ _).mono ?_); rintro e w9 ⟨rfl, b9⟩
                     have Hd9 := kept (Hd.out.below b9); have Hl9 := kept (bthen2 Hl.out b9 (by omega)); clear b9
                     obtain ⟨c0, c1, c2, f0, f1, f2⟩ := Hd9.out.facts
                     go_wp2
                     exact bodyPost_ret (v := .tuple #[.int .i64 0, diagV 2 ((j : Int) + 1)]) (by simp [c0, c1, c2, results, Tryd.results57, go_sem, diagV]) rfl ⟨readEnd_err Hx2.out (by omega), bset3 Hl9.out (Nat.le_refl _) _ _ _⟩)
            · have Hx := kept (Hu.out.trans (by rw [S0'.out h92]))
              have g92 : ((s[j].toNat : Int) == 92) = false := byte_neq s[j] 92 (by decide) h92
              rw [huu] at g92
              clear h92
              have hce := Tok.char_eq s j hlt
              have hwl := Tok.width_le s j hlt
              have Hw := kept (fun w => refWidth_any s j w hs hlt)
              obtain ⟨m, hm⟩ : ∃ m, Tok.widthN s j = m := ⟨_, rfl⟩
              rw [hm, huu] at hce
              rw [hm] at hwl Hw
              have HxN := kept (show ¬ (m = 0 ∨ u < 32 ∨ u = 127) → U = Tok.R.up (j - k) (Tok.R.up m (Tok.srcW inn f (s.data.toList.drop (j + m)))) by
                intro h; rw [Hx.out, hce, if_neg h, if_neg (fun hh => h (.inl hh))])
              have HxB := kept (show (m = 0 ∨ u < 32 ∨ u = 127) → U = .err 2 (j - k) by
                intro h; rw [Hx.out, hce, if_pos h]; simp [Tok.R.up])
              clear hce hm
              rcases c3b with h3 | h3
              all_goals rcases c2b with h2 | h2
              all_goals
                have h3' := h3
                have h2' := h2
                simp only [decide_eq_true_eq, decide_eq_false_iff_not] at h3' h2'
              all_goals first
                | (exfalso; omega)
                | skip
              all_goals
                go_wp2_with fail
                (with_reducible refine (Hw.out _).mono ?_); rintro e w1 ⟨rfl, rfl⟩
                go_wp2_with fail
              all_goals (try simp only [beq_iff_eq, beq_eq_false_iff_ne, ne_eq] at *)
              all_goals by_cases hq : (m = 0 ∨ u < 32 ∨ u = 127)
              all_goals first
                | (exfalso; omega)
                | skip
              all_goals first
                | (have Hx2 := kept (HxN.out hq)
                   exact ⟨⟨j + m, f, by omega, by omega, by go_num, by omega, by rw [Hx2.out, Tok.R.up_up]; congr 1; omega, Hd.out, Hl.out, hsz⟩, by simp [intOf]; omega⟩)
                | (have Hx2 := kept (HxB.out hq)
                   go_wp2_with fail
                   (with_reducible refine (refBad_any _ _ _).mono ?_); rintro e w9 ⟨rfl, b9⟩
                   have Hd9 := kept (Hd.out.below b9); have Hl9 := kept (bthen2 Hl.out b9 (by omega)); clear b9
                   obtain ⟨c0, c1, c2, f0, f1, f2⟩ := Hd9.out.facts
                   go_wp2
                   exact bodyPost_ret (v := .tuple #[.int .i64 0, diagV 2 (j)]) (by simp [c0, c1, c2, results, Tryd.results57, go_sem, diagV]) rfl ⟨readEnd_err Hx2.out (by omega), bset3 Hl9.out (Nat.le_refl _) _ _ _⟩)
    · have hlt' : ¬ (j : Int) < s.size := by omega
      have Hx := kept (show U = .trunc by rw [Hu.out, Tok.drop_end s j hlt, Tok.src_end]; rfl)
      go_wp2_with fail
      (with_reducible refine (refBad_any _ _ _).mono ?_); rintro e w9 ⟨rfl, b9⟩
      have Hd9 := kept (Hd.out.below b9); have Hl9 := kept (bthen2 Hl.out b9 (by omega)); clear b9
      obtain ⟨c0, c1, c2, f0, f1, f2⟩ := Hd9.out.facts
      go_wp2
      exact bodyPost_ret (v := .tuple #[.int .i64 0, diagV 40 q]) (by simp [c0, c1, c2, results, Tryd.results57, go_sem, diagV]) rfl ⟨readEnd_trunc Hx.out, bset3 Hl9.out (Nat.le_refl _) _ _ _⟩
end Go.Proofs.YtbpaeglmanjbfaaDoor
