/- The walk of StrlitJoins. -/
import Derived.Test.YtiaohbikaofbdaaDoorStrAwake
import Derived.Test.YtiaohbikaofbdaaDoorStrJoin
namespace Go.Proofs.YtiaohbikaofbdaaDoor
open Go.RowKit

set_option maxHeartbeats 1000000 in
theorem joins_any (a b : ByteArray) (w : World) (g : Glob w) :
    Calls Tryd.prog 8 #[.string a, .string b] w fun e w' => e = .returned (.bool true) ∧ Below w.heap.size w w' := by
  have G := kept g; clear g
  by_cases h5 : a.size ≤ 5000
  · have h5' : ¬ (5000 : Int) < a.size := by omega
    by_cases h6 : b.size ≤ 5000
    · have h6' : ¬ (5000 : Int) < b.size := by omega
      have H1 := kept (fun W gW => valid_any a W (by omega) gW)
      have H2 := kept (fun W gW => valid_any b W (by omega) gW)
      rcases bool_or (Str.valid a.data.toList) with hva | hva
      · rcases bool_or (Str.valid b.data.toList) with hvb | hvb
        · have hda : Lib.validD a.data.toList = true := by unfold Str.valid at hva; simp at hva; exact hva.2
          have hdb : Lib.validD b.data.toList = true := by unfold Str.valid at hvb; simp at hvb; exact hvb.2
          have hr := Str.runeCount_append a b hda
          have hsz : (a ++ b).size = a.size + b.size := by simp
          have hv : Str.valid (a ++ b).data.toList = decide ((a.size : Int) + b.size ≤ 4096) := by
            have e : (a ++ b).data.toList = a.data.toList ++ b.data.toList := by simp
            unfold Str.valid
            rw [e, Str.valid_append _ _ _ (Nat.le_refl _) hda, hdb, Bool.and_true, List.length_append]
            have e1 : a.data.toList.length = a.size := by simp
            have e2 : b.data.toList.length = b.size := by simp
            rw [e1, e2]
            apply decide_eq_decide.2; omega
          have H3 := kept (fun W gW => valid_any (a ++ b) W (by omega) gW)
          have H4 := kept (fun W => length_any (a ++ b) W (by omega))
          have H5 := kept (fun W => length_any a W (by omega))
          have H6 := kept (fun W => length_any b W (by omega))
          rw [hva] at H1; rw [hvb] at H2; rw [hv] at H3; rw [hr] at H4
          have hla := Lib.runeCount_le a
          have hlb := Lib.runeCount_le b
          have hadd := fun W => run_string_add_sum (P := Tryd.prog) W a b (by omega)
          clear hda hdb hr hv hva hvb hsz
          generalize Lib.runeCount a = m at *
          generalize Lib.runeCount b = n at *
          go_enter Tryd.func8, Tryd.ntmps8
          go_wp2_with fail
          refine (H1.out _ G.out).mono ?_; rintro e w1 ⟨rfl, b1⟩
          have B1 := kept b1; clear b1
          go_wp2_with fail
          refine (H2.out _ (G.out.below B1.out)).mono ?_; rintro e w2 ⟨rfl, b2⟩
          have B2 := kept (bthen B1.out b2); clear b2
          go_wp2_with fail
          refine (H3.out _ (G.out.below B2.out)).mono ?_; rintro e w3 ⟨rfl, b3⟩
          have B3 := kept (bthen B2.out b3); clear b3
          go_wp2_with fail
          refine (H4.out _).mono ?_; rintro e w4 ⟨rfl, b4⟩
          have B4 := kept (bthen B3.out b4); clear b4
          go_wp2_with fail
          refine (H5.out _).mono ?_; rintro e w5 ⟨rfl, b5⟩
          have B5 := kept (bthen B4.out b5); clear b5
          go_wp2_with fail
          refine (H6.out _).mono ?_; rintro e w6 ⟨rfl, b6⟩
          have B6 := kept (bthen B5.out b6); clear b6
          go_wp2_with fail
          refine (awake_any _ (G.out.below B6.out)).mono ?_; rintro e w9 ⟨rfl, b9⟩
          have B9 := kept (bthen B6.out b9); clear b9
          go_wp2
          go_ret
          exact ⟨rfl, B9.out⟩
        · rw [hva] at H1; rw [hvb] at H2
          clear hva hvb
          go_enter Tryd.func8, Tryd.ntmps8
          go_wp2_with fail
          refine (H1.out _ G.out).mono ?_; rintro e w1 ⟨rfl, b1⟩
          have B1 := kept b1; clear b1
          go_wp2_with fail
          refine (H2.out _ (G.out.below B1.out)).mono ?_; rintro e w2 ⟨rfl, b2⟩
          have B2 := kept (bthen B1.out b2); clear b2
          go_wp2_with fail
          refine (awake_any _ (G.out.below B2.out)).mono ?_; rintro e w9 ⟨rfl, b9⟩
          have B9 := kept (bthen B2.out b9); clear b9
          go_wp2
          go_ret
          exact ⟨rfl, B9.out⟩
      · rw [hva] at H1
        clear hva H2
        go_enter Tryd.func8, Tryd.ntmps8
        go_wp2_with fail
        refine (H1.out _ G.out).mono ?_; rintro e w1 ⟨rfl, b1⟩
        have B1 := kept b1; clear b1
        go_wp2_with fail
        refine (awake_any _ (G.out.below B1.out)).mono ?_; rintro e w9 ⟨rfl, b9⟩
        have B9 := kept (bthen B1.out b9); clear b9
        go_wp2
        go_ret
        exact ⟨rfl, B9.out⟩
    · have h6' : (5000 : Int) < b.size := by omega
      go_enter Tryd.func8, Tryd.ntmps8
      go_wp2_with fail
      refine (awake_any _ (G.out)).mono ?_; rintro e w9 ⟨rfl, b9⟩
      have B9 := kept (b9); clear b9
      go_wp2
      go_ret
      exact ⟨rfl, B9.out⟩
  · have h5' : (5000 : Int) < a.size := by omega
    go_enter Tryd.func8, Tryd.ntmps8
    go_wp2_with fail
    refine (awake_any _ (G.out)).mono ?_; rintro e w9 ⟨rfl, b9⟩
    have B9 := kept (b9); clear b9
    go_wp2
    go_ret
    exact ⟨rfl, B9.out⟩
end Go.Proofs.YtiaohbikaofbdaaDoor
