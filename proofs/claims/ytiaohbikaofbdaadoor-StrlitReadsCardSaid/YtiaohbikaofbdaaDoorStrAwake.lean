/- The walk of awake. -/
import Derived.Test.YtiaohbikaofbdaaDoorStrQuo
namespace Go.Proofs.YtiaohbikaofbdaaDoor
open Go.RowKit

theorem aw1 : Str.unquote [34, 97, 34, 32, 98] = ([97], 3, 0) := by decide
theorem aw2 : Str.unquote [34, 92, 117, 123, 48, 52, 49, 125, 34] = ([], 0, 2) := by decide
theorem aw3 : Str.unquote [34, 92, 117, 123, 52] = ([], 0, 40) := by decide
theorem aw4 : Str.quote [97, 10, 1] = [34, 97, 92, 110, 92, 117, 123, 49, 125, 34] := by decide
theorem aw5 : Str.escape [97, 36, 123, 98] = [97, 36, 36, 123, 98] := by decide
theorem aw6 : Lib.runeCount ⟨#[195, 169]⟩ = 1 := by decide
theorem aw7 : Str.valid [195] = false := by decide
theorem aw8 : Str.valid [195, 169] = true := by decide
theorem awu (s : ByteArray) (l : List UInt8) (n : Nat) (e0 : Int) (h : Str.unquote s.data.toList = (l, n, e0)) (hs : s.size ≤ 1000000) (w : World) (g : Glob w) :
    Calls Tryd.prog 18 #[.string s] w fun e w' => e = .returned (.tuple #[.string ⟨l.toArray⟩, .int .i64 n, .int .i64 e0]) ∧ Below w.heap.size w w' := by
  have := unquote_any s w hs g
  rw [h] at this
  exact this
theorem awake_any (w : World) (g : Glob w) :
    Calls Tryd.prog 9 #[] w fun e w' => e = .returned (.bool true) ∧ Below w.heap.size w w' := by
  have G := kept g; clear g
  have H1 := kept (awu ⟨#[34, 97, 34, 32, 98]⟩ _ _ _ aw1 (by decide))
  have H2 := kept (awu ⟨#[34, 92, 117, 123, 48, 52, 49, 125, 34]⟩ _ _ _ aw2 (by decide))
  have H3 := kept (awu ⟨#[34, 92, 117, 123, 52]⟩ _ _ _ aw3 (by decide))
  have H4 := kept (fun W gW => quote_any ⟨#[97, 10, 1]⟩ W (by decide) gW)
  have H5 := kept (fun W gW => escape_any ⟨#[97, 36, 123, 98]⟩ W (by decide) gW)
  have H6 := kept (fun W => length_any ⟨#[195, 169]⟩ W (by decide))
  have H7 := kept (fun W gW => valid_any ⟨#[195]⟩ W (by decide) gW)
  have H8 := kept (fun W gW => valid_any ⟨#[195, 169]⟩ W (by decide) gW)
  rw [aw4] at H4; rw [aw5] at H5; rw [aw6] at H6; rw [aw7] at H7; rw [aw8] at H8
  go_enter Tryd.func9, Tryd.ntmps9
  go_wp2_with fail
  refine (H1.out _ G.out).mono ?_; rintro e w1 ⟨rfl, b1⟩
  have B1 := kept b1; clear b1
  go_wp2_with fail
  refine (H2.out _ (G.out.below B1.out)).mono ?_; rintro e w2 ⟨rfl, b2⟩
  have B2 := kept (bthen B1.out b2); clear b2
  go_wp2_with fail
  refine (H3.out _ (G.out.below B2.out)).mono ?_; rintro e w3 ⟨rfl, b3⟩
  have B3 := kept (bthen B2.out b3); clear b3
  go_wp2_with fail
  refine (H4.out _ (G.out.below B3.out)).mono ?_; rintro e w4 ⟨rfl, b4⟩
  have B4 := kept (bthen B3.out b4); clear b4
  go_wp2_with fail
  refine (H5.out _ (G.out.below B4.out)).mono ?_; rintro e w5 ⟨rfl, b5⟩
  have B5 := kept (bthen B4.out b5); clear b5
  go_wp2_with fail
  refine (H6.out _).mono ?_; rintro e w6 ⟨rfl, b6⟩
  have B6 := kept (bthen B5.out b6); clear b6
  go_wp2_with fail
  refine (H7.out _ (G.out.below B6.out)).mono ?_; rintro e w7 ⟨rfl, b7⟩
  have B7 := kept (bthen B6.out b7); clear b7
  go_wp2_with fail
  refine (H8.out _ (G.out.below B7.out)).mono ?_; rintro e w8 ⟨rfl, b8⟩
  have B8 := kept (bthen B7.out b8); clear b8
  go_wp2
  go_ret
  exact ⟨rfl, B8.out⟩
end Go.Proofs.YtiaohbikaofbdaaDoor
