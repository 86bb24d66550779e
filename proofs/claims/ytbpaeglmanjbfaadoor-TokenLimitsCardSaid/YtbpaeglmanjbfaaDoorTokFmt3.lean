/- The walk of token's length. -/
import Derived.Test.YtbpaeglmanjbfaaDoorTokFmt2
namespace Go.Proofs.YtbpaeglmanjbfaaDoor
open Go.RowKit
set_option linter.unusedSimpArgs false
set_option linter.unusedVariables false
theorem rnat {k : IntKind} {a b : Int} (h : a = b) : Value.int k a = Value.int k b := by rw [h]
set_option maxRecDepth 100000 in
set_option maxHeartbeats 4000000 in
theorem length_any (l : List Tok.TI) (v : Value) (w : World) (hv : ReadsT w v l) (hsm : Tok.Small l) :
    Calls Tryd.prog 33 #[v] w fun e w' => e = .returned (.int .i64 (Tok.fmt l).length) ∧ Below w.heap.size w w' := by
  obtain ⟨a, cap, rfl, _, hc⟩ := hv
  have HC := kept hc
  have HF := kept (Tok.fmtN_le l hsm)
  have Hsm := kept hsm
  have hlen := hsm.len
  clear hc hsm
  go_enter Tryd.func33, Tryd.ntmps33
  go_wp2
  go_loopw [8, 3] (fun iv nv wr => ∃ k : Nat, k ≤ l.length ∧ iv = .int .i64 k ∧ nv = .int .i64 ((Tok.fmtN l k).length : Int) ∧ Below w.heap.size w wr) (fun iv _ _ => l.length - (intOf iv).toNat)
  case atStart => exact ⟨0, by omega, rfl, rfl, Below.refl _ _⟩
  case round =>
    obtain ⟨k, hk, rfl, rfl, hbel⟩ := hrel
    have HL := kept hbel
    have hwr := hbel.size
    clear hbel
    by_cases hlt : k < l.length
    · have hlt' : (k : Int) < l.length := by omega
      obtain ⟨g, off, rfl, x0, x1, x2⟩ := HC.out k hlt
      have Hst := kept (Tok.fmtN_succ l k hlt)
      have hgw := cell_lt' x0
      have ht := Hsm.out.text k hlt
      have hle := HF.out k hk
      have Hgs := kept (fun j (hj : k = j + 1) => show Tok.gapB l k = Tok.apartT (l[j]'(by omega)) l[k] by subst hj; exact Tok.gapB_succ l j hlt)
      obtain ⟨⟨k1, t1, a1⟩, hx⟩ : ∃ x, l[k] = x := ⟨_, rfl⟩
      rw [hx] at x0 x1 x2 ht Hst Hgs
      simp only at x0 x1 x2 ht
      have x0 := (HL.out.cell (cell_lt' x0)).trans x0; have x1 := (HL.out.cell (cell_lt' x1)).trans x1; have x2 := (HL.out.cell (cell_lt' x2)).trans x2
      clear hx
      generalize Tok.fmtN l k = acc at *
      have hle' : acc.length ≤ 200000000 := by omega
      clear hle
      by_cases hk0 : k = 0
      · subst hk0
        simp only [Nat.zero_mul, Nat.add_zero] at x0 x1 x2
        rw [show ((0 : Nat) : Int) = 0 from rfl]
        have Hst2 := kept (Hst.out)
        rw [Tok.gapB_zero] at Hst2
        clear Hst Hgs
        by_cases hk3 : k1 = 3
        · subst hk3
          go_wp2
          go_quiet (fail)
          have B5 := kept (bthen (ball wr (.cells #[.int .i64 3, .string ⟨t1.toArray⟩, .int .i64 a1] 36)) (below_drewN (Below.refl _ _) nq))
          have HL5 := kept (bthen2 HL.out B5.out hwr)
          go_wp2
          exact ⟨⟨0 + 1, by omega, by go_num, rnat (by rw [Hst2.out]; simp [Tok.sourceL] <;> omega), HL5.out⟩, by simp [intOf]; omega⟩
        · have hk3' : (k1 == 3) = false := by simpa using hk3
          go_wp2
          go_quiet (fail)
          have B5 := kept (bthen (ball wr (.cells #[.int .i64 k1, .string ⟨t1.toArray⟩, .int .i64 a1] 36)) (below_drewN (Below.refl _ _) nq))
          have HL5 := kept (bthen2 HL.out B5.out hwr)
          go_wp2
          exact ⟨⟨0 + 1, by omega, by go_num, rnat (by rw [Hst2.out]; simp [Tok.sourceL, hk3] <;> omega), HL5.out⟩, by simp [intOf]; omega⟩
      · obtain ⟨j, rfl⟩ : ∃ j, k = j + 1 := ⟨k - 1, by omega⟩
        have hj : j < l.length := by omega
        have hc2 := HC.out j hj
        have Hg2 := kept (Hgs.out j rfl)
        obtain ⟨⟨k0, t0, a0⟩, hy⟩ : ∃ x, l[j] = x := ⟨_, rfl⟩
        rw [hy] at hc2 Hg2
        obtain ⟨g', off', hgg, y0, y1, y2⟩ := hc2
        injection hgg with hgg; injection hgg with h1 h2; subst h1; subst h2
        have ht0 : t0.length ≤ 10000 := by have := Hsm.out.text j hj; rw [hy] at this; exact this
        have y0 := (HL.out.cell (cell_lt' y0)).trans y0; have y1 := (HL.out.cell (cell_lt' y1)).trans y1; have y2 := (HL.out.cell (cell_lt' y2)).trans y2
        simp only at y0 y1 y2
        have Hst2 := kept (Hst.out)
        rw [Hg2.out, show Tok.apartT (k0, t0, a0) (k1, t1, a1) = Tok.apartB k0 t0 k1 t1 from rfl] at Hst2
        clear hy Hgs hk0 Hst
        have Hap := kept (fun w => apart_any k0 a0 k1 a1 t0 t1 w (by omega))
        have hw2 : IntKind.i64.wrap (j : Int) = (j : Int) := IntWalk.i64_in _ (by omega)
        have hjl : (j : Int) < l.length := by omega
        have hgwr : g < wr.heap.size := by have := cell_lt' y0; exact this
        by_cases hk3 : k1 = 3
        · subst hk3
          go_wp2
          go_region_with (go_at_call 37; refine (Hap.out _).mono ?_; rintro e w5 ⟨rfl, b5⟩)
          all_goals
            have B5 := kept (bthen (ball wr (.cells #[.int .i64 3, .string ⟨t1.toArray⟩, .int .i64 a1] 36)) ((bthen (bdrew _) b5)))
            have HL5 := kept (bthen2 HL.out B5.out hwr)
            clear b5 y0 y1 y2 x0 x1 x2 hgwr
            generalize Tok.apartB k0 t0 3 t1 = r at *
            cases r with
            | true =>
              go_wp2
              exact ⟨⟨j + 1 + 1, by omega, by go_num, rnat (by rw [Hst2.out]; simp [Tok.sourceL] <;> omega), HL5.out⟩, by simp [intOf]; omega⟩
            | false =>
              go_wp2
              exact ⟨⟨j + 1 + 1, by omega, by go_num, rnat (by rw [Hst2.out]; simp [Tok.sourceL] <;> omega), HL5.out⟩, by simp [intOf]; omega⟩
        · have hk3' : (k1 == 3) = false := by simpa using hk3
          go_wp2
          go_region_with (go_at_call 37; refine (Hap.out _).mono ?_; rintro e w5 ⟨rfl, b5⟩)
          all_goals
            have B5 := kept (bthen (ball wr (.cells #[.int .i64 k1, .string ⟨t1.toArray⟩, .int .i64 a1] 36)) ((bthen (bdrew _) b5)))
            have HL5 := kept (bthen2 HL.out B5.out hwr)
            clear b5 y0 y1 y2 x0 x1 x2 hgwr
            generalize Tok.apartB k0 t0 k1 t1 = r at *
            cases r with
            | true =>
              go_wp2
              exact ⟨⟨j + 1 + 1, by omega, by go_num, rnat (by rw [Hst2.out]; simp [Tok.sourceL, hk3] <;> omega), HL5.out⟩, by simp [intOf]; omega⟩
            | false =>
              go_wp2
              exact ⟨⟨j + 1 + 1, by omega, by go_num, rnat (by rw [Hst2.out]; simp [Tok.sourceL, hk3] <;> omega), HL5.out⟩, by simp [intOf]; omega⟩
    · obtain rfl : k = l.length := by omega
      have hlt' : ¬ (l.length : Int) < l.length := by omega
      go_wp2
      go_ret
      exact ⟨rfl, HL.out⟩
end Go.Proofs.YtbpaeglmanjbfaaDoor
