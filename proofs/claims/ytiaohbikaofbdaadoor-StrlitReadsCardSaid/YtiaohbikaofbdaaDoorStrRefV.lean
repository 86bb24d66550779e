/- The walk of provisionref02.point. -/
import Derived.Test.YtiaohbikaofbdaaDoorStrRefU
import Derived.Test.YtiaohbikaofbdaaDoorStrHexa
namespace Go.Proofs.YtiaohbikaofbdaaDoor
open Go.RowKit

theorem getD_drop (s : ByteArray) (i j : Nat) (h : i + j < s.size) : (s.data.toList.drop i).getD j 0 = s[i + j] := by
  simp [List.getD, h]; rfl
theorem valid_iff (C : Nat) : Utf8.valid (C : Int) = false ↔ (1114111 < (C : Int) ∨ (55296 ≤ (C : Int) ∧ (C : Int) ≤ 57343)) := by
  unfold Utf8.valid
  rw [← Bool.not_eq_true]
  simp only [Bool.or_eq_true, Bool.and_eq_true, decide_eq_true_eq]
  omega
/-- What point answers where its digits have ended, in the loop's own numbers. -/
theorem point_exit (s : ByteArray) (i k c n : Nat) (e0 u z C : Int) (hp : Str.point (s.data.toList.drop i) = (c, n, e0)) (hn : Str.hexN 6 (s.data.toList.drop i) = k) (hk : i + k < s.size)
    (hu : (s[i + k].toNat : Int) = u) (hz : (s[i].toNat : Int) = z) (hC : ((Str.hexC k (s.data.toList.drop i) : Nat) : Int) = C) :
    ((u ≠ 125 ∨ k = 0 ∨ (1 < k ∧ z = 48) ∨ 1114111 < C ∨ (55296 ≤ C ∧ C ≤ 57343)) → c = 0 ∧ n = 0 ∧ e0 = 2) ∧
    (¬ (u ≠ 125 ∨ k = 0 ∨ (1 < k ∧ z = 48) ∨ 1114111 < C ∨ (55296 ≤ C ∧ C ≤ 57343)) → (c : Int) = C ∧ n = k + 1 ∧ e0 = 0) := by
  have hgk := getD_drop s i k hk
  have hg0 := getD_drop s i 0 (by omega)
  simp only [Nat.add_zero] at hg0
  have hl : k < (s.data.toList.drop i).length := by simp; omega
  have e1 : ((s.data.toList.drop i).getD k 0 ≠ 125 ∨ k = 0 ∨ (1 < k ∧ (s.data.toList.drop i).getD 0 0 = 48) ∨ Utf8.valid (Str.hexC k (s.data.toList.drop i)) = false) ↔ (u ≠ 125 ∨ k = 0 ∨ (1 < k ∧ z = 48) ∨ 1114111 < C ∨ (55296 ≤ C ∧ C ≤ 57343)) := by
    rw [hgk, hg0, valid_iff, hC]
    have a1 : s[i + k] ≠ 125 ↔ u ≠ 125 := by
      rw [← hu, ne_eq, ne_eq, ← UInt8.toNat_inj]
      show ¬ s[i + k].toNat = 125 ↔ _
      omega
    have a2 : s[i] = 48 ↔ z = 48 := by
      rw [← hz, ← UInt8.toNat_inj]
      show s[i].toNat = 48 ↔ _
      omega
    rw [a1, a2]
  refine ⟨fun h => ?_, fun h => ?_⟩
  · have := point_bad _ k hn hl (e1.2 h)
    rw [hp] at this
    simp only [Prod.mk.injEq] at this
    exact this
  · have := point_ok _ k hn hl (fun hh => h (e1.1 hh))
    rw [hp] at this
    simp only [Prod.mk.injEq] at this
    exact ⟨by rw [this.1, hC], this.2⟩
set_option maxHeartbeats 1000000 in
theorem refPoint_any (s : ByteArray) (i : Nat) (c n : Nat) (e0 : Int) (w : World) (hs : s.size ≤ 1000000) (hi : i ≤ s.size) (hp : Str.point (s.data.toList.drop i) = (c, n, e0)) :
    Calls Tryd.prog 56 #[.string s, .int .i64 i] w fun e w' => e = .returned (.tuple #[.int .i64 c, .int .i64 (if e0 = 0 then i + n else 0 : Nat), .int .i64 e0]) ∧ w' = w := by
  obtain ⟨m, hm⟩ : ∃ m, m = if e0 = 0 then i + n else 0 := ⟨_, rfl⟩
  rw [← hm]
  have Hm := kept hm
  clear hm
  have HP := kept hp
  clear hp
  have hl : (s.data.toList.drop i).length = s.size - i := by simp
  have Hll := kept hl
  go_enter Tryd.func56, Tryd.ntmps56
  go_wp2
  go_loop [7, 8] (fun cv nv => ∃ k : Nat, k ≤ 6 ∧ i + k ≤ s.size ∧ nv = .int .i64 k ∧ cv = .int .i64 (Str.hexC k (s.data.toList.drop i)) ∧ ∀ j, j < k → Str.isHex ((s.data.toList.drop i).getD j 0) = true) (fun _ nv => 6 - (intOf nv).toNat)
  case atStart => exact ⟨0, by omega, by omega, rfl, rfl, by omega⟩
  case round =>
    obtain ⟨k, h6, hk, rfl, rfl, hall⟩ := hrel
    have Ha := kept hall
    clear hall hl
    by_cases hend : i + k = s.size
    · have hp := point_end (s.data.toList.drop i) (Str.hexN_end 6 k _ Ha.out (by have := Hll.out; omega) h6 (.inr (.inl (by have := Hll.out; omega))) |>.trans (by have := Hll.out; omega))
      rw [HP.out] at hp
      simp only [Prod.mk.injEq] at hp
      obtain ⟨rfl, rfl, rfl⟩ := hp
      have hend' : (i : Int) + k = s.size := by omega
      go_wp2
      refine bodyPost_ret (v := .tuple #[.int .i64 0, .int .i64 0, .int .i64 40]) (by simp [results, Tryd.results56, go_sem]) rfl ⟨by rw [Hm.out]; rfl, rfl⟩
    · have hlt : i + k < s.size := by omega
      have hlt' : (i : Int) + k < s.size := by omega
      have hlti : i < s.size := by omega
      obtain ⟨u, hu⟩ : ∃ u : Int, (s[i + k].toNat : Int) = u := ⟨_, rfl⟩
      obtain ⟨z, hz⟩ : ∃ u : Int, (s[i].toNat : Int) = u := ⟨_, rfl⟩
      obtain ⟨C, hC⟩ : ∃ u : Int, ((Str.hexC k (s.data.toList.drop i) : Nat) : Int) = u := ⟨_, rfl⟩
      have Hx := kept (fun hn => point_exit s i k c n e0 u z C HP.out hn hlt hu hz hC)
      have hC0 : 0 ≤ C := by omega
      have Hhx := kept (fun W => refHex_any s[i + k] W)
      have Hgk := kept (getD_drop s i k hlt)
      have HC := kept hC
      have Hend := kept (show k = 6 ∨ Str.isHex s[i + k] = false → Str.hexN 6 (s.data.toList.drop i) = k from fun h => Str.hexN_end 6 k _ Ha.out (by have := Hll.out; omega) h6 (h.imp_right fun hh => .inr (by rw [Hgk.out]; exact hh)))
      rw [hu] at Hhx
      rw [hC]
      clear hend
      by_cases hk6 : k = 6
      · subst hk6
        have Hx2 := kept (Hx.out (Hend.out (.inl rfl)))
        clear hC
        go_wp2
        all_goals (try simp only [beq_iff_eq, beq_eq_false_iff_ne, ne_eq] at *)
        all_goals
          by_cases hq : (u ≠ 125 ∨ 6 = 0 ∨ (1 < 6 ∧ z = 48) ∨ 1114111 < C ∨ (55296 ≤ C ∧ C ≤ 57343))
          · first
            | (exfalso; omega)
            | (obtain ⟨rfl, rfl, rfl⟩ := Hx2.out.1 hq; exact bodyPost_ret (v := .tuple #[.int .i64 0, .int .i64 0, .int .i64 2]) (by simp [results, Tryd.results56, go_sem]) rfl ⟨by rw [Hm.out]; rfl, rfl⟩)
          · first
            | (exfalso; omega)
            | (obtain ⟨hc, rfl, rfl⟩ := Hx2.out.2 hq; exact bodyPost_ret (v := .tuple #[.int .i64 C, .int .i64 (i + 6 + 1), .int .i64 0]) (by simp [results, Tryd.results56, go_sem]) rfl ⟨by rw [Hm.out, hc]; rfl, rfl⟩)
      · have hk6' : (k : Int) < 6 := by omega
        by_cases hx : Str.isHex s[i + k] = true
        · have hge : 0 ≤ Str.hexv s[i + k] := by simpa [Str.isHex] using hx
          have hhx := Str.hexv_le s[i + k]
          have Hs := kept (Str.hexC_succ k (s.data.toList.drop i) (by have := Hll.out; omega))
          have Hd := Str.hexC_lt k (s.data.toList.drop i) (by have := Hll.out; omega)
          have hC1 : C < 1048576 := by
            have : 16 ^ k ≤ 16 ^ 5 := Nat.pow_le_pow_right (by decide) (by omega)
            have := HC.out
            omega
          have Hxx := kept hx
          have Hhv := kept (show (s.data.toList.drop i)[k]'(by have := Hll.out; omega) = s[i + k] by simp; rfl)
          clear hx Hd hC
          go_wp2_with fail
          (with_reducible refine (Hhx.out _).mono ?_); rintro e w1 ⟨rfl, rfl⟩
          go_wp2_with fail
          (with_reducible refine (Hhx.out _).mono ?_); rintro e w1 ⟨rfl, rfl⟩
          go_wp2
          go_round
          case rel =>
            refine ⟨k + 1, by omega, by omega, by go_num, ?_, ?_⟩
            · rw [Hs.out, Hhv.out]
              have := HC.out
              congr 1
              omega
            · intro j hj
              by_cases hjk : j = k
              · subst hjk; rw [Hgk.out]; exact Hxx.out
              · exact Ha.out j (by omega)
          case measure => simp [intOf]; omega
        · have Hx2 := kept (Hx.out (Hend.out (.inr (by simpa using hx))))
          have hlz : Str.hexv s[i + k] < 0 := by simpa [Str.isHex] using hx
          clear hx hC
          go_wp2_with fail
          (with_reducible refine (Hhx.out _).mono ?_); rintro e w1 ⟨rfl, rfl⟩
          go_wp2
          all_goals (try simp only [beq_iff_eq, beq_eq_false_iff_ne, ne_eq] at *)
          all_goals
            by_cases hq : (u ≠ 125 ∨ k = 0 ∨ (1 < k ∧ z = 48) ∨ 1114111 < C ∨ (55296 ≤ C ∧ C ≤ 57343))
            · first
              | (exfalso; omega)
              | (obtain ⟨rfl, rfl, rfl⟩ := Hx2.out.1 hq; exact bodyPost_ret (v := .tuple #[.int .i64 0, .int .i64 0, .int .i64 2]) (by simp [results, Tryd.results56, go_sem]) rfl ⟨by rw [Hm.out]; rfl, rfl⟩)
            · first
              | (exfalso; omega)
              | (obtain ⟨hc, rfl, rfl⟩ := Hx2.out.2 hq; exact bodyPost_ret (v := .tuple #[.int .i64 C, .int .i64 (i + k + 1), .int .i64 0]) (by simp [results, Tryd.results56, go_sem]) rfl ⟨by rw [Hm.out, hc]; rfl, rfl⟩)
end Go.Proofs.YtiaohbikaofbdaaDoor
