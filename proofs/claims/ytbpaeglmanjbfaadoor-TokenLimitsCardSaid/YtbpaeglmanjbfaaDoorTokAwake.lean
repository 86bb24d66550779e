/- The walk of the law's awake. -/
import Derived.Test.YtbpaeglmanjbfaaDoorTokCheck
import Derived.Laws.StructEq
namespace Go.Proofs.YtbpaeglmanjbfaaDoor
open Go.RowKit
set_option linter.unusedSimpArgs false
set_option linter.unusedVariables false
namespace Tok
def exS : List UInt8 := [97, 32, 61, 32, 34, 120, 36, 123, 34, 121, 34, 125, 34, 32, 35, 32, 122, 10]
def exL : List T := [(1, [97], 0), (4, [61], 2), (3, [120, 36, 123, 34, 121, 34, 125], 4), (5, [10], 17), (6, [], 18)]
def exI : List TI := [(1, [97], 0), (4, [61], 0), (3, [120, 36, 123, 34, 121, 34, 125], 0), (5, [10], 0), (6, [], 0)]
theorem ex_scan : scan exS = ⟨exL, 0, 0⟩ := by kernel_rfl
theorem ex_scan2 : scan [34, 36, 123] = ⟨[], 40, 0⟩ := by kernel_rfl
theorem ex_same : sameB (toI exL) exI = true := by kernel_rfl
theorem ex_fmt : fmt (toI exL) = [97, 61, 34, 120, 36, 123, 34, 121, 34, 125, 34, 10] := by kernel_rfl
theorem ex_check : checkZ (toI exL) = 0 := by kernel_rfl
theorem ex_small : Small (toI exL) := ⟨by decide, by decide⟩
end Tok
theorem diag_eqs (k1 a1 k2 a2 : Int) (t1 t2 : List UInt8) (w : World) : (Op.equalIn 10000 26 (.agg #[.int .i64 k1, .int .i64 a1, .string ⟨t1.toArray⟩]) (.agg #[.int .i64 k2, .int .i64 a2, .string ⟨t2.toArray⟩])).run Tryd.prog w = .ok (k1 == k2 && (a1 == a2 && t1 == t2)) w := by
  rw [show (10000 : Nat) = 9999 + 1 from rfl, run_equalIn_struct w 9999 26 _ _ (by simp [Program.fieldsOf, Tryd.underlying26]) (by kernel_rfl)]
  simp only [Program.fieldsOf, Tryd.underlying26]
  cases h1 : k1 == k2 <;> cases h2 : t1 == t2 <;> cases h3 : a1 == a2 <;> simp [Op.eqFields, go_sem, Tryd.underlying24, Tryd.underlying9, Tryd.underlying3, h1, h2, h3] <;> simp_all
theorem diag_eq (k1 a1 k2 a2 : Int) (w : World) : (binOp .eql 26 (.agg #[.int .i64 k1, .int .i64 a1, .string ⟨#[]⟩]) (.agg #[.int .i64 k2, .int .i64 a2, .string ⟨#[]⟩])).run Tryd.prog w = .ok (.bool (decide ((k1, a1) = (k2, a2)))) w := by
  rw [run_eql_struct, diag_eqs _ _ _ _ [] []]
  have e : decide ((k1, a1) = (k2, a2)) = (k1 == k2 && (a1 == a2 && ([] : List UInt8) == [])) := by
    rw [Bool.eq_iff_iff]; simp
  rw [e]; rfl
def wantCells : Array Value := #[.int .i64 1, .string ⟨#[97]⟩, .int .i64 0, .int .i64 4, .string ⟨#[61]⟩, .int .i64 0, .int .i64 3, .string ⟨#[120, 36, 123, 34, 121, 34, 125]⟩, .int .i64 0, .int .i64 5, .string ⟨#[10]⟩, .int .i64 0, .int .i64 6, .string ⟨#[]⟩, .int .i64 0]
theorem want_reads (w : World) (g : Nat) (hg : w.heap[g]? = some (.cells wantCells 36 (0, 0))) : ReadsT w (.slice (some ⟨g, 0, none⟩) 5 5) Tok.exI := by
  refine ⟨_, 5, rfl, Nat.le_refl _, fun i hi => ⟨g, 0, rfl, ?_⟩⟩
  have hi5 : i < 5 := hi
  have : i = 0 ∨ i = 1 ∨ i = 2 ∨ i = 3 ∨ i = 4 := by omega
  rcases this with rfl | rfl | rfl | rfl | rfl
  all_goals exact ⟨(cell_of_row _ _ _ _ _ _ hg).trans rfl, (cell_of_row _ _ _ _ _ _ hg).trans rfl, (cell_of_row _ _ _ _ _ _ hg).trans rfl⟩
set_option maxRecDepth 100000 in
set_option maxHeartbeats 4000000 in
theorem awake_any (w : World) (hT : Lib.Utf8Tabs 1 2 w) :
    Calls Tryd.prog 10 #[] w fun e w' => e = .returned (.bool true) ∧ Below w.heap.size w w' := by
  have HT := kept hT
  have H1 := kept (fun w hT => scan_any ⟨#[97, 32, 61, 32, 34, 120, 36, 123, 34, 121, 34, 125, 34, 32, 35, 32, 122, 10]⟩ (by decide) w hT)
  rw [show (⟨#[97, 32, 61, 32, 34, 120, 36, 123, 34, 121, 34, 125, 34, 32, 35, 32, 122, 10]⟩ : ByteArray).data.toList = Tok.exS from rfl, Tok.ex_scan] at H1
  have H2 := kept (fun w hT => scan_any ⟨#[34, 36, 123]⟩ (by decide) w hT)
  rw [show (⟨#[34, 36, 123]⟩ : ByteArray).data.toList = [34, 36, 123] from rfl, Tok.ex_scan2] at H2
  clear hT
  go_enter Tryd.func10, Tryd.ntmps10
  go_wp2_with fail
  (with_reducible refine (H1.out _ HT.out).mono ?_); rintro e w1 ⟨v, rfl, ho, b1⟩
  have Ho := kept ho; have B1 := kept b1; clear ho b1
  have B2 := kept ((ball w1 (.cells #[.int .i64 0, .int .i64 0, .string ⟨#[]⟩] 26)).alloc (by simp) (.cells wantCells 36))
  have R2 := kept (want_reads ((w1.alloc (.cells #[.int .i64 0, .int .i64 0, .string ⟨#[]⟩] 26)).alloc (.cells wantCells 36)) (w1.heap.size + 1) (by rw [show w1.heap.size + 1 = (w1.alloc (.cells #[.int .i64 0, .int .i64 0, .string ⟨#[]⟩] 26)).heap.size by simp]; exact heap_alloc_new _ _))
  have D2 := kept ((Tri.fresh w1 26 (.int .i64 0) (.int .i64 0) (.string ⟨#[]⟩)).below (ball _ (.cells wantCells 36)))
  have HT2 := kept (Utf8Tabs_below (Utf8Tabs_below HT.out B1.out) B2.out)
  have Ho2 := kept (Ho.out.reads.below B2.out)
  unfold wantCells at B2 R2 D2 HT2 Ho2
  go_wp2_with fail
  (with_reducible refine (H2.out _ HT2.out).mono ?_); rintro e w3 ⟨v2, rfl, ho2, b3⟩
  have hs3 := b3.size
  have R3 := kept (R2.out.below b3); have D3 := kept (D2.out.below b3); have HT3 := kept (Utf8Tabs_below HT2.out b3); have Ho3 := kept (Ho2.out.below b3)
  have B3 := kept (bthen B1.out (bthen B2.out b3))
  clear ho2 b3
  obtain ⟨W, hW⟩ : ∃ W, W = w3.alloc (.cells #[.int .i64 40, .int .i64 0, .string ⟨#[]⟩] 26) := ⟨_, rfl⟩
  have BW := ball w3 (.cells #[.int .i64 40, .int .i64 0, .string ⟨#[]⟩] 26)
  have E4 := kept (Tri.fresh w3 26 (.int .i64 40) (.int .i64 0) (.string ⟨#[]⟩))
  rw [← hW] at BW E4
  have R4 := kept (R3.out.below BW); have D4 := kept (D3.out.below BW); have HT4 := kept (Utf8Tabs_below HT3.out BW); have Ho4 := kept (Ho3.out.below BW)
  have B4 := kept (bthen B3.out BW)
  clear BW
  obtain ⟨x0, x1, x2, _, _, _⟩ := D3.out.facts
  obtain ⟨z0, z1, z2, _, _, _⟩ := D4.out.facts
  rw [hW] at R4 Ho4 z0 z1 z2
  have Hsame := kept (same_any _ _ _ _ _ Ho4.out R4.out (by decide) (by decide))
  rw [Tok.ex_same] at Hsame
  have hx1 : w1.heap.size < w3.heap.size := by simp at hs3; omega
  clear hs3
  go_wp2_with fail
  (with_reducible refine (Hsame.out).mono ?_); rintro e w5 ⟨rfl, b5⟩
  have E5 := kept (E4.out.below (by rw [hW]; exact b5)); have HT5 := kept (Utf8Tabs_below HT4.out (by rw [hW]; exact b5)); have Ho5 := kept (Ho4.out.below b5); have B5 := kept (bthen B4.out (by rw [hW]; exact b5))
  clear b5
  have Hfm := kept (format_any _ _ _ Ho5.out Tok.ex_small)
  rw [Tok.ex_fmt] at Hfm
  go_wp2_with fail
  (with_reducible refine (Hfm.out).mono ?_); rintro e w6 ⟨rfl, b6⟩
  have E6 := kept (E5.out.below b6); have HT6 := kept (Utf8Tabs_below HT5.out b6); have Ho6 := kept (Ho5.out.below b6); have B6 := kept (bthen B5.out b6)
  clear b6
  have Hck := kept (check_any _ _ _ Ho6.out Tok.ex_small HT6.out)
  rw [Tok.ex_check] at Hck
  go_wp2_with fail
  (with_reducible refine (Hck.out).mono ?_); rintro e w7 ⟨rfl, b7⟩
  have E7 := kept (E6.out.below b7); have B7 := kept (bthen B6.out b7)
  clear b7
  obtain ⟨y0, y1, y2, _, _, _⟩ := E7.out.facts
  have hdq := diag_eq 40 0 40 0
  go_wp2
  go_ret
  exact ⟨rfl, B7.out⟩
end Go.Proofs.YtbpaeglmanjbfaaDoor
