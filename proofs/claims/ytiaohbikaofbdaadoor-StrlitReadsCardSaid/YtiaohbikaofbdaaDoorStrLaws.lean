/- The walks of the laws that are told by the contracts alone. -/
import Derived.Test.YtiaohbikaofbdaaDoorStrAwake
namespace Go.Proofs.YtiaohbikaofbdaaDoor
open Go.RowKit

set_option maxHeartbeats 1000000 in
theorem words_any (s : ByteArray) (w : World) (g : Glob w) :
    Calls Tryd.prog 3 #[.string s] w fun e w' => e = .returned (.bool true) ∧ Below w.heap.size w w' := by
  have G := kept g; clear g
  by_cases h5 : s.size ≤ 5000
  · have h5' : ¬ (5000 : Int) < s.size := by omega
    have H1 := kept (fun W gW => valid_any s W (by omega) gW)
    have H2 := kept (fun W => refValid_any s W (by omega))
    have H3 := kept (fun W gW => quote_any s W (by omega) gW)
    have H4 := kept (fun W => refQuote_any s W (by omega))
    have H5 := kept (fun W gW => escape_any s W (by omega) gW)
    have H6 := kept (fun W => refEscape_any s W (by omega))
    have H7 := kept (fun W => length_any s W (by omega))
    have H8 := kept (fun W => refLength_any s W (by omega))
    generalize Str.valid s.data.toList = v at *
    generalize Str.quote s.data.toList = q at *
    generalize Str.escape s.data.toList = c at *
    generalize Lib.runeCount s = n at *
    go_enter Tryd.func3, Tryd.ntmps3
    go_wp2_with fail
    refine (H1.out _ G.out).mono ?_; rintro e w1 ⟨rfl, b1⟩
    have B1 := kept b1; clear b1
    go_wp2_with fail
    refine (H2.out _).mono ?_; rintro e w2 ⟨rfl, b2⟩
    have B2 := kept (bthen B1.out b2); clear b2
    go_wp2_with fail
    refine (H3.out _ (G.out.below B2.out)).mono ?_; rintro e w3 ⟨rfl, b3⟩
    have B3 := kept (bthen B2.out b3); clear b3
    go_wp2_with fail
    refine (H4.out _).mono ?_; rintro e w4 ⟨rfl, b4⟩
    have B4 := kept (bthen B3.out b4); clear b4
    go_wp2_with fail
    refine (H5.out _ (G.out.below B4.out)).mono ?_; rintro e w5 ⟨rfl, b5⟩
    have B5 := kept (bthen B4.out b5); clear b5
    go_wp2_with fail
    refine (H6.out _).mono ?_; rintro e w6 ⟨rfl, rfl⟩
    have B6 := kept B5.out
    go_wp2_with fail
    refine (H7.out _).mono ?_; rintro e w7 ⟨rfl, b7⟩
    have B7 := kept (bthen B6.out b7); clear b7
    go_wp2_with fail
    refine (H8.out _).mono ?_; rintro e w8 ⟨rfl, b8⟩
    have B8 := kept (bthen B7.out b8); clear b8
    go_wp2_with fail
    refine (awake_any _ (G.out.below B8.out)).mono ?_; rintro e w9 ⟨rfl, b9⟩
    have B9 := kept (bthen B8.out b9); clear b9
    go_wp2
    go_ret
    exact ⟨rfl, B9.out⟩
  · have h5' : (5000 : Int) < s.size := by omega
    go_enter Tryd.func3, Tryd.ntmps3
    go_wp2_with fail
    refine (awake_any _ G.out).mono ?_; rintro e w1 ⟨rfl, b1⟩
    have B1 := kept b1; clear b1
    go_wp2
    go_ret
    exact ⟨rfl, B1.out⟩
end Go.Proofs.YtiaohbikaofbdaaDoor
