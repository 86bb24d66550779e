/- The walk of StrlitBack. -/
import Derived.Test.YtiaohbikaofbdaaDoorStrAwake
import Derived.Test.YtiaohbikaofbdaaDoorStrBack
namespace Go.Proofs.YtiaohbikaofbdaaDoor
open Go.RowKit

set_option maxHeartbeats 1000000 in
theorem back_any (a b : ByteArray) (w : World) (g : Glob w) :
    Calls Tryd.prog 5 #[.string a, .string b] w fun e w' => e = .returned (.bool true) ∧ Below w.heap.size w w' := by
  have G := kept g; clear g
  by_cases h5 : a.size ≤ 5000
  · have h5' : ¬ (5000 : Int) < a.size := by omega
    by_cases h6 : b.size ≤ 5000
    · have h6' : ¬ (5000 : Int) < b.size := by omega
      have H1 := kept (fun W gW => valid_any a W (by omega) gW)
      rcases bool_or (Str.valid a.data.toList) with hva | hva
      · have hda : Lib.validD a.data.toList = true ∧ a.data.toList.length ≤ 4096 := by unfold Str.valid at hva; simp at hva; exact ⟨hva.2, by simpa using hva.1⟩
        obtain ⟨q, hq⟩ : ∃ q : ByteArray, q = ⟨(Str.quote a.data.toList).toArray⟩ := ⟨_, rfl⟩
        have hql : q.data.toList = Str.quote a.data.toList := by rw [hq]
        have hqs : q.size ≤ 100000 := by
          have := (Str.flatMap_esc_length a.data.toList).2
          have e : q.size = q.data.toList.length := by simp
          rw [e, hql]
          simp [Str.quote] at *; omega
        have H2 := kept (fun W gW => quote_any a W (by omega) gW)
        rw [← hq] at H2
        have H3 : Kept (∀ (W : World), Glob W → Calls Tryd.prog 18 #[.string (q ++ b)] W fun e w' => e = .returned (.tuple #[.string a, .int .i64 q.size, .int .i64 (0 : Int)]) ∧ Below W.heap.size W w') := by
          refine kept fun W gW => ?_
          have e : (q ++ b).data.toList = q.data.toList ++ b.data.toList := by simp
          have h := awu (q ++ b) a.data.toList (Str.quote a.data.toList).length 0 (by rw [e, hql]; exact Str.unquote_quote _ _ hda.1 hda.2) (by simp; omega) W gW
          rw [← hql] at h
          have e1 : q.data.toList.length = q.size := by simp
          rw [e1, ← str_of rfl] at h
          exact h
        rw [hva] at H1
        have hadd := fun W => run_string_add_sum (P := Tryd.prog) W q b (by omega)
        clear hda hva hq hql
        go_enter Tryd.func5, Tryd.ntmps5
        go_wp2_with fail
        refine (H1.out _ G.out).mono ?_; rintro e w1 ⟨rfl, b1⟩
        have B1 := kept b1; clear b1
        go_wp2_with fail
        refine (H2.out _ (G.out.below B1.out)).mono ?_; rintro e w2 ⟨rfl, b2⟩
        have B2 := kept (bthen B1.out b2); clear b2
        go_wp2_with fail
        refine (H3.out _ (G.out.below B2.out)).mono ?_; rintro e w3 ⟨rfl, b3⟩
        have B3 := kept (bthen B2.out b3); clear b3
        go_wp2_with fail
        refine (awake_any _ (G.out.below B3.out)).mono ?_; rintro e w9 ⟨rfl, b9⟩
        have B9 := kept (bthen B3.out b9); clear b9
        go_wp2
        go_ret
        exact ⟨rfl, B9.out⟩
      · rw [hva] at H1
        clear hva
        go_enter Tryd.func5, Tryd.ntmps5
        go_wp2_with fail
        refine (H1.out _ G.out).mono ?_; rintro e w1 ⟨rfl, b1⟩
        have B1 := kept b1; clear b1
        go_wp2_with fail
        refine (awake_any _ (G.out.below B1.out)).mono ?_; rintro e w9 ⟨rfl, b9⟩
        have B9 := kept (bthen B1.out b9); clear b9
        go_wp2
        go_ret
        exact ⟨rfl, B9.out⟩
    · have h6' : (5000 : Int) < b.size := by omega
      go_enter Tryd.func5, Tryd.ntmps5
      go_wp2_with fail
      refine (awake_any _ (G.out)).mono ?_; rintro e w9 ⟨rfl, b9⟩
      have B9 := kept (b9); clear b9
      go_wp2
      go_ret
      exact ⟨rfl, B9.out⟩
  · have h5' : (5000 : Int) < a.size := by omega
    go_enter Tryd.func5, Tryd.ntmps5
    go_wp2_with fail
    refine (awake_any _ (G.out)).mono ?_; rintro e w9 ⟨rfl, b9⟩
    have B9 := kept (b9); clear b9
    go_wp2
    go_ret
    exact ⟨rfl, B9.out⟩
end Go.Proofs.YtiaohbikaofbdaaDoor
