/- The walk of provisionref02.Unquote, and of the law StrlitReads. -/
import Derived.Test.YtiaohbikaofbdaaDoorStrRefW
import Derived.Test.YtiaohbikaofbdaaDoorStrAwake
namespace Go.Proofs.YtiaohbikaofbdaaDoor
open Go.RowKit

theorem Str.one_len (s : ByteArray) (k : Nat) (hk : k < s.size) (b : List UInt8) (n : Nat) (h : Str.one (s.data.toList.drop k) = (b, n, (0 : Int))) : 1 ≤ n ∧ k + n ≤ s.size ∧ b.length ≤ 4 := by
  have hlen : (s.data.toList.drop k).length = s.size - k := by simp
  unfold Str.one at h
  split at h
  · split at h
    · next hh =>
      exfalso
      have := congrArg (fun r => r.2.2) h
      simp only at this
      exact hh this
    · next hh =>
      have hl := Str.escp_len ((s.data.toList.drop k).drop 1) (by simpa using hh)
      obtain ⟨rfl, h2⟩ := Prod.mk.inj h
      obtain ⟨rfl, _⟩ := Prod.mk.inj h2
      have := (Str.enc_length (Str.escp ((s.data.toList.drop k).drop 1)).1).2
      rw [List.length_drop, hlen] at hl
      exact ⟨by omega, by omega, this⟩
  · split at h
    · simp at h
    · next hh =>
      have hwd := Str.dec_width s k hk
      rw [← Str.decL] at hwd
      have hd4 : (Lib.decodeL (s.data.toList.drop k)).2 ≤ 4 := by
        rw [Lib.decodeL_N]
        rcases Lib.decodeN_shape (s.data.toList.drop k).length ((s.data.toList.drop k).getD 0 0).toNat ((s.data.toList.drop k).getD 1 0).toNat ((s.data.toList.drop k).getD 2 0).toNat ((s.data.toList.drop k).getD 3 0).toNat with ⟨c, e⟩ | ⟨c1, c2, c3, cv, e⟩ | ⟨c1, c2, c3, c4, cv, cs, e⟩ | ⟨c1, c2, c3, c4, c5, cv, cw, e⟩ | e
        all_goals rw [e]; simp
      obtain ⟨rfl, h2⟩ := Prod.mk.inj h
      obtain ⟨rfl, _⟩ := Prod.mk.inj h2
      refine ⟨hwd.1, hwd.2, ?_⟩
      rw [List.length_take]; omega
theorem triple_ok (l : List UInt8) (n : Nat) (e : Int) : TripleEnd (l, n, e) = .returned (.tuple #[.string ⟨l.toArray⟩, .int .i64 n, .int .i64 e]) := rfl

set_option maxHeartbeats 1000000 in
theorem refUnquote_any (s : ByteArray) (w : World) (hs : s.size ≤ 1000000) :
    Calls Tryd.prog 19 #[.string s] w fun e w' => e = TripleEnd (Str.unquote s.data.toList) ∧ Below w.heap.size w w' := by
  obtain ⟨U, hU⟩ : ∃ U, Str.unquote s.data.toList = U := ⟨_, rfl⟩
  rw [hU]
  by_cases h0 : s.size = 0
  · have hs : s = ⟨#[]⟩ := by
      apply ByteArray.ext; exact Array.eq_empty_of_size_eq_zero h0
    subst hs
    have HU := kept (show (([], 0, 40) : List UInt8 × Nat × Int) = U from hU)
    clear hU
    go_enter Tryd.func19, Tryd.ntmps19
    go_wp2
    refine bodyPost_ret (v := .tuple #[.string ⟨#[]⟩, .int .i64 0, .int .i64 40]) (by simp [results, Tryd.results19, go_sem]) rfl ⟨by rw [← HU.out]; rfl, Below.refl _ _⟩
  · have hlt : 0 < s.size := by omega
    have hd : s.data.toList = s[0] :: s.data.toList.drop 1 := by have := drop_cons s 0 hlt; simpa using this
    have hne : s.data.toList ≠ [] := by rw [hd]; simp
    have hg0 : s.data.toList.getD 0 0 = s[0] := by rw [hd]; rfl
    have h00 : ((s.size : Int) == 0) = false := by rw [beq_eq_false_iff_ne]; omega
    unfold Str.unquote at hU
    rw [if_neg hne, hg0] at hU
    clear h0 hd hne hg0
    by_cases h34 : s[0] = 34
    · rw [if_neg (by simpa using h34)] at hU
      have HU := kept hU
      have hu : (s[0].toNat : Int) = 34 := by rw [h34]; rfl
      clear hU h34
      go_enter Tryd.func19, Tryd.ntmps19
      go_wp2
      go_loopw [5, 6] (fun ov av wr => Below w.heap.size w wr ∧ ∃ (k f : Nat) (acc : List UInt8), 1 ≤ k ∧ k ≤ s.size ∧ av = .int .i64 k ∧ ov = .string ⟨acc.toArray⟩ ∧ s.size - k < f ∧ acc.length ≤ 4 * k ∧ Str.unq f (s.data.toList.drop k) acc k = U) (fun _ av _ => s.size - (intOf av).toNat)
      case atStart => exact ⟨Below.refl _ _, 1, s.data.toList.length, [], by omega, by omega, rfl, rfl, by simp; omega, by simp, HU.out⟩
      case round =>
        obtain ⟨hbel, k, f, acc, hk1, hk, rfl, rfl, hf, hacc, hun⟩ := hrel
        have Hl := kept hbel
        clear hbel
        obtain ⟨f, rfl⟩ : ∃ f', f = f' + 1 := ⟨f - 1, by omega⟩
        by_cases hend : k = s.size
        · subst hend
          rw [List.drop_of_length_le (by simp), Str.unq_nil] at hun
          subst hun
          clear hacc hf
          go_wp2
          refine bodyPost_ret (v := .tuple #[.string ⟨#[]⟩, .int .i64 0, .int .i64 40]) (by simp [results, Tryd.results19, go_sem]) rfl ⟨rfl, Hl.out⟩
        · have hkl : k < s.size := by omega
          have hkl' : (k : Int) < s.size := by omega
          have hne : s.data.toList.drop k ≠ [] := by rw [drop_cons s k hkl]; simp
          have hgk : (s.data.toList.drop k).getD 0 0 = s[k] := by rw [drop_cons s k hkl]; rfl
          by_cases h34k : s[k] = 34
          · rw [Str.unq_quote _ _ _ _ hne (by rw [hgk]; exact h34k)] at hun
            have hv : (s[k].toNat : Int) = 34 := by rw [h34k]; rfl
            have hsz := size_mk acc
            clear hne hgk h34k hf
            by_cases hbig : 4096 < acc.length
            · rw [if_pos hbig] at hun
              subst hun
              have hbig' : (4096 : Int) < acc.length := by omega
              clear hbig hacc hend
              go_wp2
              refine bodyPost_ret (v := .tuple #[.string ⟨#[]⟩, .int .i64 0, .int .i64 3]) (by simp [results, Tryd.results19, go_sem]) rfl ⟨rfl, Hl.out⟩
            · rw [if_neg hbig] at hun
              subst hun
              have hbig' : ¬ (4096 : Int) < acc.length := by omega
              clear hbig hacc hend
              go_wp2
              refine bodyPost_ret (v := .tuple #[.string ⟨acc.toArray⟩, .int .i64 (k + 1 : Nat), .int .i64 0]) (by simp [results, Tryd.results19, go_sem]) rfl ⟨rfl, Hl.out⟩
          · have hvk1 := byte_ne s[k] 34 (by decide) h34k
            rw [← hgk] at h34k
            obtain ⟨⟨b, n, e0⟩, ho⟩ : ∃ r, Str.one (s.data.toList.drop k) = r := ⟨_, rfl⟩
            have Hx := kept (fun W => refOne_any s k W hs hkl)
            by_cases he0 : e0 = 0
            · subst he0
              have hln := Str.one_len s k hkl b n ho
              rw [Str.unq_step _ _ _ _ _ _ hne h34k ho, List.drop_drop] at hun
              rw [ho, Str.at_ok, triple_ok] at Hx
              have Hun := kept hun
              obtain ⟨r, hr⟩ : ∃ r, acc ++ b = r := ⟨_, rfl⟩
              have hcat := fun W => run_cat3 (P := Tryd.prog) W (a := ⟨acc.toArray⟩) (b := ⟨b.toArray⟩) (l := acc) (m := b) rfl rfl hr (by rw [← hr, List.length_append]; omega)
              have Hr := kept hr
              have hln1 : 1 ≤ n := hln.1
              have hln2 : k + n ≤ s.size := hln.2.1
              have Hln3 := kept (show r.length ≤ 4 * (k + n) by rw [← hr, List.length_append]; omega)
              clear hne hgk h34k hun ho hr hln hacc
              go_wp2_with fail
              refine (Hx.out _).mono ?_; rintro e w1 ⟨rfl, b1⟩
              have B1 := kept (bthen Hl.out b1); clear b1
              go_wp2
              go_roundw
              case rel => exact ⟨B1.out, k + n, f, r, by omega, by omega, by go_num, rfl, by omega, Hln3.out, by rw [← Hr.out]; exact Hun.out⟩
              case measure => simp [intOf]; omega
            · rw [Str.unq_err _ _ _ _ _ _ _ hne h34k ho he0] at hun
              subst hun
              have hob : b = [] ∧ n = 0 := by
                have h := ho
                unfold Str.one at h
                split at h
                · split at h
                  · obtain ⟨rfl, h2⟩ := Prod.mk.inj h
                    obtain ⟨rfl, _⟩ := Prod.mk.inj h2
                    exact ⟨rfl, rfl⟩
                  · exact absurd (Prod.mk.inj (Prod.mk.inj h).2).2.symm he0
                · split at h
                  · obtain ⟨rfl, h2⟩ := Prod.mk.inj h
                    obtain ⟨rfl, _⟩ := Prod.mk.inj h2
                    exact ⟨rfl, rfl⟩
                  · exact absurd (Prod.mk.inj (Prod.mk.inj h).2).2.symm he0
              obtain ⟨rfl, rfl⟩ := hob
              rw [ho, Str.at_err _ _ he0, triple_ok] at Hx
              have he1 : (e0 == 0) = false := by simpa using he0
              have he2 : (e0 != 0) = true := by simpa using he0
              clear hne hgk h34k hf hacc ho
              go_wp2_with fail
              refine (Hx.out _).mono ?_; rintro e w1 ⟨rfl, b1⟩
              have B1 := kept (bthen Hl.out b1); clear b1
              go_wp2
              refine bodyPost_ret (v := .tuple #[.string ⟨#[]⟩, .int .i64 0, .int .i64 e0]) (by simp [results, Tryd.results19, go_sem]) rfl ⟨rfl, B1.out⟩
    · rw [if_pos h34] at hU
      have HU := kept hU
      have g34 := byte_ne s[0] 34 (by decide) h34
      have g34' : ((s[0].toNat : Int) != 34) = true := by simpa using g34
      clear h34 hU
      go_enter Tryd.func19, Tryd.ntmps19
      go_wp2
      refine bodyPost_ret (v := .tuple #[.string ⟨#[]⟩, .int .i64 0, .int .i64 2]) (by simp [results, Tryd.results19, go_sem]) rfl ⟨by rw [← HU.out]; rfl, Below.refl _ _⟩

set_option maxHeartbeats 1000000 in
theorem reads_any (s : ByteArray) (w : World) (g : Glob w) :
    Calls Tryd.prog 4 #[.string s] w fun e w' => e = .returned (.bool true) ∧ Below w.heap.size w w' := by
  have G := kept g; clear g
  by_cases h5 : s.size ≤ 20000
  · have h5' : ¬ (20000 : Int) < s.size := by omega
    obtain ⟨⟨l, n, e0⟩, hU⟩ : ∃ U, Str.unquote s.data.toList = U := ⟨_, rfl⟩
    have H1 := kept (fun W gW => awu s l n e0 hU (by omega) W gW)
    have H2 := kept (fun W => refUnquote_any s W (by omega))
    rw [hU, triple_ok] at H2
    clear hU
    go_enter Tryd.func4, Tryd.ntmps4
    go_wp2_with fail
    refine (H1.out _ G.out).mono ?_; rintro e w1 ⟨rfl, b1⟩
    have B1 := kept b1; clear b1
    go_wp2_with fail
    refine (H2.out _).mono ?_; rintro e w2 ⟨rfl, b2⟩
    have B2 := kept (bthen B1.out b2); clear b2
    go_wp2_with fail
    refine (awake_any _ (G.out.below B2.out)).mono ?_; rintro e w9 ⟨rfl, b9⟩
    have B9 := kept (bthen B2.out b9); clear b9
    go_wp2
    go_ret
    exact ⟨rfl, B9.out⟩
  · have h5' : (20000 : Int) < s.size := by omega
    go_enter Tryd.func4, Tryd.ntmps4
    go_wp2_with fail
    refine (awake_any _ (G.out)).mono ?_; rintro e w9 ⟨rfl, b9⟩
    have B9 := kept (b9); clear b9
    go_wp2
    go_ret
    exact ⟨rfl, B9.out⟩
end Go.Proofs.YtiaohbikaofbdaaDoor
