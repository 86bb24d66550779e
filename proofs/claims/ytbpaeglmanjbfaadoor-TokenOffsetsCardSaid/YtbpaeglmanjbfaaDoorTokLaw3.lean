/- The walk of the law TokenOffsets. -/
import Derived.Test.YtbpaeglmanjbfaaDoorTokGap
import Derived.Test.YtbpaeglmanjbfaaDoorTokLaw1
import Derived.Test.YtbpaeglmanjbfaaDoorTokShort
namespace Go.Proofs.YtbpaeglmanjbfaaDoor
open Go.RowKit
set_option linter.unusedSimpArgs false
set_option linter.unusedVariables false
namespace Tok
theorem chain_head (L : List UInt8) (j : Nat) (x : T) (rest : List T) (h : Chain L j (x :: rest)) (hj : j ≤ L.length) :
    ∃ k m, x.2.2 = k ∧ j ≤ k ∧ gapG ((L.drop j).take (k - j)) = true ∧ sourceL (x.1, x.2.1, (k : Int)) = (L.drop k).take m ∧ (sourceL (x.1, x.2.1, (k : Int))).length = m ∧ k + m ≤ L.length ∧ (m = 0 ↔ x.1 = 6) ∧
      ((rest = [] ∧ k + m = L.length) ∨ Chain L (k + m) rest) := by
  have hs := skipN_le (L.drop j)
  rw [List.length_drop] at hs
  cases h with
  | fin _ k hk he =>
    have hkl : L.length ≤ k := List.drop_eq_nil_iff.1 he
    refine ⟨k, 0, rfl, by omega, ?_, by simp [sourceL], rfl, by omega, by simp, .inl ⟨rfl, by omega⟩⟩
    rw [show k - j = skipN (L.drop j) by omega]
    exact gap_skip _
  | step _ k n _ hk hlt hb ho hr =>
    have hn := one_len' 32 _ _ ho
    cases hx : L.drop k with
    | nil => have := congrArg List.length hx; simp at this; omega
    | cons c r =>
      rw [hx] at ho hn
      have hlk : (c :: r).length = L.length - k := by rw [← hx, List.length_drop]
      have hsrc := source_at 32 c r n (k : Int) ho
      refine ⟨k, n, rfl, by omega, ?_, ?_, ?_, by omega, ?_, .inr hr⟩
      · rw [show k - j = skipN (L.drop j) by omega]
        exact gap_skip _
      · rw [hx]; exact hsrc
      · show (sourceL (kindL (c :: r), textL (c :: r) n, (k : Int))).length = n
        rw [hsrc, List.length_take]; omega
      · show n = 0 ↔ kindOf c = 6
        have := kindOf_le c
        omega
end Tok
set_option maxRecDepth 100000 in
set_option maxHeartbeats 8000000 in
theorem tokenOffsets_any (s : ByteArray) (w : World) (hT : Lib.Utf8Tabs 1 2 w) (hs : s.size ≤ 9223372036854775807) :
    Calls Tryd.prog 7 #[.string s] w fun e w' => e = .returned (.bool true) ∧ Below w.heap.size w w' := by
  by_cases hbig : 3000 < s.size
  · have hbig' : (3000 : Int) < s.size := by omega
    have Ha := kept (awake_any w hT)
    clear hT hs
    go_enter Tryd.func7, Tryd.ntmps7
    go_wp2_with fail
    (with_reducible refine (Ha.out).mono ?_); rintro e w1 ⟨rfl, b1⟩
    have B1 := kept b1; clear b1
    go_wp2
    go_ret
    exact ⟨rfl, B1.out⟩
  · have hbig' : ¬ (3000 : Int) < s.size := by omega
    have H1 := kept (fun w hT => scan_any s (by omega) w hT)
    have hL : s.data.toList.length = s.size := by simp
    have HT := kept hT
    have hbs : s.size ≤ 3000 := by omega
    obtain ⟨hst, hat, hln⟩ : (((Tok.scan s.data.toList).e ≠ 0 ∧ (Tok.scan s.data.toList).toks = []) ∨ ((Tok.scan s.data.toList).e = 0 ∧ Tok.Chain s.data.toList 0 (Tok.scan s.data.toList).toks)) ∧ True ∧ (Tok.scan s.data.toList).toks.length ≤ 16385 := by
      refine ⟨?_, trivial, Tok.scan_len _⟩
      rcases Tok.scan_chain s.data.toList with ⟨he, htk, _⟩ | ⟨he, _, hch, _⟩
      · exact .inl ⟨he, htk⟩
      · exact .inr ⟨he, hch⟩
    have hne : (Tok.scan s.data.toList).e = 0 → (Tok.scan s.data.toList).toks ≠ [] := by
      rcases hst with ⟨h1, h2⟩ | ⟨h1, h2⟩
      · intro h; exact absurd h h1
      · intro _ h; rw [h] at h2; cases h2
    generalize Tok.scan s.data.toList = U at *
    obtain ⟨l, e0, p⟩ := U
    have Hst := kept (show (e0 ≠ 0 ∧ l = []) ∨ (e0 = 0 ∧ Tok.Chain s.data.toList 0 l) from hst)
    have Hne := kept (show e0 = 0 → l ≠ [] from hne)
    have hll : l.length ≤ 16385 := hln
    clear hT hs hst hat hln hne
    go_enter Tryd.func7, Tryd.ntmps7
    go_wp2_with fail
    (with_reducible refine (H1.out _ HT.out).mono ?_); rintro e w1 ⟨v, rfl, ho, b1⟩
    have Ho := kept (show OwnsT w1 w.heap.size v l from ho); have B1 := kept b1; clear ho b1
    obtain ⟨a, cap, hv⟩ := Ho.out.shape
    subst hv
    have D2 := kept (Tri.fresh w1 26 (.int .i64 e0) (.int .i64 p) (.string ⟨#[]⟩))
    have B2 := kept (ball w1 (.cells #[.int .i64 e0, .int .i64 p, .string ⟨#[]⟩] 26))
    have R2 := kept (Ho.out.reads.below B2.out)
    have B3 := kept (bthen B1.out B2.out)
    obtain ⟨g1, hg1⟩ : ∃ g1, w1.heap.size = g1 := ⟨_, rfl⟩
    go_wp2
    obtain ⟨W, hW⟩ : ∃ W, W = w1.alloc (.cells #[.int .i64 e0, .int .i64 p, .string ⟨#[]⟩] 26) := ⟨_, rfl⟩
    rw [← hW] at D2 B2 R2 B3 ⊢
    rw [hg1] at D2
    clear hW
    go_loopw [6, 5] (fun iv av wr => ∃ (i at' n : Nat), i ≤ l.length ∧ iv = .int .i64 i ∧ av = .int .i64 at' ∧ at' ≤ s.size ∧ wr = W.drewN n ∧ ((l.drop i = [] ∧ (e0 = 0 → at' = s.size)) ∨ Tok.Chain s.data.toList at' (l.drop i))) (fun iv _ _ => l.length - (intOf iv).toNat)
    case atStart =>
      refine ⟨0, 0, 0, by omega, rfl, rfl, by omega, rfl, ?_⟩
      rcases Hst.out with ⟨h1, h2⟩ | ⟨h1, h2⟩
      · left; exact ⟨by rw [h2]; rfl, fun h => absurd h h1⟩
      · right; exact h2
    case round =>
      obtain ⟨i, at', n, hi, rfl, rfl, hat, rfl, hch⟩ := hrel
      have Hch := kept hch
      clear hch
      by_cases hlt : i < l.length
      · have hlt' : (i : Int) < l.length := by omega
        have hdi : l.drop i = l[i] :: l.drop (i + 1) := List.drop_eq_getElem_cons hlt
        have hc1 : Tok.Chain s.data.toList at' (l[i] :: l.drop (i + 1)) := by
          rcases Hch.out with ⟨h1, _⟩ | h1
          · rw [h1] at hdi; cases hdi
          · rwa [hdi] at h1
        obtain ⟨aa, cap', hvv, hcc, hcells⟩ := R2.out
        injection hvv with hva hvb hvc
        subst hva
        subst hvc
        clear hvb
        obtain ⟨g, off, rfl, x0, x1, x2⟩ := hcells i (by rw [Tok.toI_length]; exact hlt)
        obtain ⟨k, m, hk, hak, hgp, hsr, hsl, hkm, hm0, hnx⟩ := Tok.chain_head _ _ _ _ hc1 (by rw [hL]; exact hat)
        have hxi : (Tok.toI l)[i]'(by rw [Tok.toI_length]; exact hlt) = (l[i].1, l[i].2.1, (k : Int)) := by simp [Tok.toI, hk]
        rw [hxi] at x0 x1 x2
        simp only at x0 x1 x2
        obtain ⟨⟨k1, t1, a1⟩, hx⟩ : ∃ x, l[i] = x := ⟨_, rfl⟩
        rw [hx] at x0 x1 hk hsr hsl hm0
        simp only at x0 x1 hk hsr hsl hm0
        have Hnext := kept (show (l.drop (i + 1) = [] ∧ (e0 = 0 → k + m = s.size)) ∨ Tok.Chain s.data.toList (k + m) (l.drop (i + 1)) from hnx.imp (fun h => ⟨h.1, fun _ => by rw [← hL]; exact h.2⟩) id)
        rw [hL] at hkm
        have hxt := Tok.extract_take s k m
        rw [← hsr] at hxt
        have hxg := Tok.extract_take s at' (k - at')
        rw [show at' + (k - at') = k by omega] at hxg
        have Hgap : Kept (∀ w : World, Calls Tryd.prog 20 #[.string (s.extract at' k)] w fun e w' => e = .returned (.bool true) ∧ w' = w) := by
          refine kept fun w => ?_
          have h := gap_any (s.extract at' k) w (by simp; omega)
          rw [hxg] at h
          rw [show (⟨((s.data.toList.drop at').take (k - at')).toArray⟩ : ByteArray).data.toList = (s.data.toList.drop at').take (k - at') from rfl, hgp, ← hxg] at h
          exact h
        have hak' : (at' : Int) ≤ k := by omega
        have hks : (k : Int) ≤ s.size := by omega
        have hd1 : decide ((k : Int) < (at' : Int)) = false := by simp; omega
        clear hx hnx hgp hsr hxg hc1 hdi hxi hcells hk hcc hat
        by_cases hk3 : k1 = 3
        · subst hk3
          have ht1 : t1.length ≤ 10000 := by
            have : (Tok.sourceL (3, t1, (k : Int))).length = t1.length + 2 := by simp [Tok.sourceL]
            omega
          have hs1 : ∀ w : World, (Op.stringOp .add ⟨#[34]⟩ ⟨t1.toArray⟩).run Tryd.prog w = .ok (.string ⟨(34 :: t1).toArray⟩) w := fun w => run_cat w (l := [34]) (m := t1) rfl rfl (by simp; omega)
          have hs2 : ∀ w : World, (Op.stringOp .add ⟨(34 :: t1).toArray⟩ ⟨#[34]⟩).run Tryd.prog w = .ok (.string ⟨(34 :: (t1 ++ [34])).toArray⟩) w := fun w => run_cat w (l := 34 :: t1) (m := [34]) rfl rfl (by simp; omega)
          have hse : Tok.sourceL (3, t1, (k : Int)) = 34 :: (t1 ++ [34]) := rfl
          rw [hse] at hsl hxt
          obtain ⟨Z, hZ⟩ : ∃ Z, 34 :: (t1 ++ [34]) = Z := ⟨_, rfl⟩
          rw [hZ] at hsl hxt hs2
          have hZ0 : Z ≠ [] := by rw [← hZ]; simp
          have hS1 : Z.isEmpty = false := by cases Z <;> simp_all
          have hSe : (Z == []) = false := by simpa using hZ0
          clear hZ hse hZ0
          subst hsl
          have hw1 : IntKind.i64.wrap ((k : Int) + (Z).length) = (k : Int) + (Z).length := IntWalk.i64_in _ (by omega)
          have hn1 : ((k : Int) + (Z).length).toNat = k + (Z).length := by omega
          have hp1 : (0 : Int) ≤ (k : Int) + (Z).length := by omega
          have hle1 : (k : Int) + (Z).length ≤ s.size := by omega
          have hd2 : decide ((s.size : Int) < (k : Int) + (Z).length) = false := by simp; omega
          have hle2 : (k : Int) ≤ (k : Int) + (Z).length := by omega
          clear hm0 hkm
          go_wp2
          go_quiet ((go_at_call 20; exact quietAddSame (Hgap.out _)))
          go_wp2
          exact ⟨⟨i + 1, k + (Z).length, _, by omega, by go_num, by go_num, by omega, rfl, Hnext.out⟩, by simp [intOf]; omega⟩
        · have hk3' : (k1 == 3) = false := by simpa using hk3
          have hse : Tok.sourceL (k1, t1, (k : Int)) = t1 := by unfold Tok.sourceL; rw [if_neg hk3]
          rw [hse] at hsl hxt
          subst hsl
          clear hse
          by_cases hk6 : k1 = 6
          · obtain rfl : t1 = [] := List.eq_nil_of_length_eq_zero (hm0.2 hk6)
            subst hk6
            have hw1 : IntKind.i64.wrap (k : Int) = (k : Int) := IntWalk.i64_in _ (by omega)
            have hd2 : decide ((s.size : Int) < (k : Int)) = false := by simp; omega
            have hxt2 : s.extract k k = ⟨#[]⟩ := hxt
            have Hnext2 := kept (show (l.drop (i + 1) = [] ∧ (e0 = 0 → k = s.size)) ∨ Tok.Chain s.data.toList k (l.drop (i + 1)) from Hnext.out)
            have hk0 : (0 : Int) ≤ k := by omega
            have hkk : k ≤ s.size := by omega
            clear hm0 hkm hxt Hnext hk3
            go_wp2
            go_quiet ((go_at_call 20; exact quietAddSame (Hgap.out _)))
            go_wp2
            exact ⟨⟨i + 1, k, _, by omega, by go_num, rfl, hkk, rfl, Hnext2.out⟩, by simp [intOf]; omega⟩
          · have hk6' : (k1 == 6) = false := by simpa using hk6
            have hZ0 : t1 ≠ [] := fun h => hk6 (hm0.1 (by rw [h]; rfl))
            have hS1 : t1.isEmpty = false := by cases t1 <;> simp_all
            have hSe : (t1 == []) = false := by simpa using hZ0
            clear hZ0 hk6 hk3
            have hw1 : IntKind.i64.wrap ((k : Int) + (t1).length) = (k : Int) + (t1).length := IntWalk.i64_in _ (by omega)
            have hn1 : ((k : Int) + (t1).length).toNat = k + (t1).length := by omega
            have hp1 : (0 : Int) ≤ (k : Int) + (t1).length := by omega
            have hle1 : (k : Int) + (t1).length ≤ s.size := by omega
            have hd2 : decide ((s.size : Int) < (k : Int) + (t1).length) = false := by simp; omega
            have hle2 : (k : Int) ≤ (k : Int) + (t1).length := by omega
            clear hm0 hkm
            go_wp2
            go_quiet ((go_at_call 20; exact quietAddSame (Hgap.out _)))
            go_wp2
            exact ⟨⟨i + 1, k + (t1).length, _, by omega, by go_num, by go_num, by omega, rfl, Hnext.out⟩, by simp [intOf]; omega⟩
      · obtain rfl : i = l.length := by omega
        have hlt' : ¬ (l.length : Int) < l.length := by omega
        obtain ⟨x0, x1, x2, _, _, _⟩ := D2.out.facts
        have Ha := kept (fun n => awake_any (W.drewN n) (Utf8Tabs_below HT.out (bthen B3.out (below_drewN (Below.refl _ _) n))))
        have B4 := kept (fun n => bthen B3.out (below_drewN (Below.refl W.heap.size W) n))
        rw [List.drop_length] at Hch
        by_cases he : e0 = 0
        · have hae : at' = s.size := by
            rcases Hch.out with ⟨_, h⟩ | h
            · exact h he
            · cases h
          have hl0 : ((l.length : Int) == 0) = false := by
            have := Hne.out he
            rw [beq_eq_false_iff_ne]
            have : l.length ≠ 0 := fun h => this (List.eq_nil_of_length_eq_zero h)
            omega
          have hae2 : ((s.size : Int) != (s.size : Int)) = false := by simp
          subst he
          subst hae
          clear Hch
          go_wp2_with fail
          (with_reducible refine (Ha.out _).mono ?_); rintro e w6 ⟨rfl, b6⟩
          have B6 := kept (bthen (B4.out _) b6)
          clear b6
          go_wp2
          go_ret
          exact ⟨rfl, B6.out⟩
        · have he1 : (e0 == 0) = false := by simpa using he
          clear Hch
          go_wp2_with fail
          (with_reducible refine (Ha.out _).mono ?_); rintro e w6 ⟨rfl, b6⟩
          have B6 := kept (bthen (B4.out _) b6)
          clear b6
          go_wp2
          go_ret
          exact ⟨rfl, B6.out⟩
end Go.Proofs.YtbpaeglmanjbfaaDoor
