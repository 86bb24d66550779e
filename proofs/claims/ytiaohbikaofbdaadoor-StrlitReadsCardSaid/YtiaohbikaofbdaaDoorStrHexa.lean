/- The walk of strlit.hexadecimal. -/
import Derived.Test.YtiaohbikaofbdaaDoorStrHex
import Derived.Test.YtiaohbikaofbdaaDoorStrUnq
namespace Go.Proofs.YtiaohbikaofbdaaDoor
open Go.RowKit

set_option maxRecDepth 100000 in
theorem index_hex : ∀ b : Fin 256, Lib.indexByte [48, 49, 50, 51, 52, 53, 54, 55, 56, 57, 97, 98, 99, 100, 101, 102] (UInt8.ofNat b.val) = Str.hexv (UInt8.ofNat b.val) := by decide
theorem digit_any (b : UInt8) (w : World) :
    Calls Tryd.prog 53 #[.string ⟨#[48, 49, 50, 51, 52, 53, 54, 55, 56, 57, 97, 98, 99, 100, 101, 102]⟩, .int .u8 b.toNat] w fun e w' => e = .returned (.int .i64 (Str.hexv b)) ∧ w' = w := by
  refine (Tryd.strings_IndexByte _ _ w).mono fun e w' h => ?_
  have := index_hex ⟨b.toNat, b.toNat_lt⟩
  simp only [UInt8.ofNat_toNat] at this
  rw [← this]
  simpa using h
theorem valid_rune (c : Nat) : Lib.validRune (c : Int) = Utf8.valid (c : Int) := by
  unfold Lib.validRune Utf8.valid
  rw [Bool.eq_iff_iff]
  simp only [decide_eq_true_eq, Bool.or_eq_true, Bool.and_eq_true]
  omega
theorem point_end (l : List UInt8) (h : Str.hexN 6 l = l.length) : Str.point l = (0, 0, 40) := by unfold Str.point; rw [if_pos h]
theorem point_bad (l : List UInt8) (k : Nat) (h : Str.hexN 6 l = k) (hk : k < l.length) (hb : l.getD k 0 ≠ 125 ∨ k = 0 ∨ (1 < k ∧ l.getD 0 0 = 48) ∨ Utf8.valid (Str.hexC k l) = false) : Str.point l = (0, 0, 2) := by
  subst h; unfold Str.point; rw [if_neg (by omega), if_pos hb]
theorem point_ok (l : List UInt8) (k : Nat) (h : Str.hexN 6 l = k) (hk : k < l.length) (hb : ¬ (l.getD k 0 ≠ 125 ∨ k = 0 ∨ (1 < k ∧ l.getD 0 0 = 48) ∨ Utf8.valid (Str.hexC k l) = false)) : Str.point l = (Str.hexC k l, k + 1, 0) := by
  subst h; unfold Str.point; rw [if_neg (by omega), if_neg hb]
theorem point_ok' (l : List UInt8) (k : Nat) (h : Str.hexN 6 l = k) (hk : k < l.length) (h1 : l.getD k 0 = 125) (h2 : k ≠ 0) (h3 : ¬ (1 < k ∧ l.getD 0 0 = 48)) (h4 : Utf8.valid (Str.hexC k l) = true) : Str.point l = (Str.hexC k l, k + 1, 0) := by
  refine point_ok l k h hk ?_
  rw [h1, h4]
  rintro (h | h | h | h)
  · exact h rfl
  · exact h2 h
  · exact h3 h
  · simp at h
set_option maxHeartbeats 1000000 in
theorem hexadecimal_any (s : ByteArray) (w : World) :
    Calls Tryd.prog 42 #[.string s] w fun e w' => e = .returned (.tuple #[.int .i32 (Str.point s.data.toList).1, .int .i64 (Str.point s.data.toList).2.1, .int .i64 (Str.point s.data.toList).2.2]) ∧ Below w.heap.size w w' := by
  go_enter Tryd.func42, Tryd.ntmps42
  go_wp2
  go_loopw [5, 6] (fun nv iv wr => Below w.heap.size w wr ∧ ∃ k : Nat, k ≤ 6 ∧ k ≤ s.size ∧ iv = .int .i64 k ∧ nv = .int .i32 (Str.hexC k s.data.toList) ∧ ∀ j, j < k → Str.isHex (s.data.toList.getD j 0) = true) (fun _ iv _ => 6 - (intOf iv).toNat)
  case atStart => exact ⟨Below.refl _ _, 0, by omega, by omega, rfl, rfl, by omega⟩
  case round =>
    obtain ⟨hbel, k, h6, hk, rfl, rfl, hall⟩ := hrel
    have Hl := kept hbel; have Ha := kept hall
    clear hbel hall
    by_cases hend : k = s.size
    · subst hend
      have Hp := kept (point_end _ (Str.hexN_end 6 s.size s.data.toList Ha.out (by simp) h6 (.inr (.inl (by simp)))))
      go_wp2
      refine bodyPost_ret (v := .tuple #[.int .i32 0, .int .i64 0, .int .i64 40]) (by simp [results, Tryd.results42, go_sem]) rfl ⟨by rw [Hp.out]; rfl, Hl.out⟩
    · have hlt : k < s.size := by omega
      have Hb := kept (show k = 6 ∨ Str.isHex (s.data.toList.getD k 0) = false → Str.hexN 6 s.data.toList = k from fun h => Str.hexN_end 6 k _ Ha.out (by simpa using hk) h6 (h.imp_right .inr))
      have hgk : s.data.toList.getD k 0 = s[k] := by simp [hlt]; rfl
      have hnn : 0 ≤ Str.hexC k s.data.toList := by omega
      have Hc := kept (Str.hexC_lt k s.data.toList (by simp; omega))
      by_cases hk6 : k = 6
      · have Hn := kept (Hb.out (.inl hk6))
        have hk6' : ¬ (k : Int) < 6 := by omega
        have hkpos : 1 < k := by omega
        clear hk6
        obtain ⟨u, hu⟩ : ∃ u : Int, (s[k].toNat : Int) = u := ⟨_, rfl⟩
        by_cases h125 : s[k] = 125
        · have hu1 : (u == 125) = true := by rw [← hu, h125]; rfl
          have hu2 : (u != 125) = false := by rw [← hu, h125]; rfl
          have hu3 : u = 125 := by rw [← hu, h125]; rfl
          clear hu3
          have H125 := kept h125; clear h125
          by_cases hk0 : k = 0
          · exfalso; omega
          · have hkz1 : ((k : Int) == 0) = false := by simpa using hk0
            have hkz2 : ¬ (k : Int) = 0 := by omega
            have hlt0 : 0 < s.size := by omega
            obtain ⟨z, hz⟩ : ∃ z : Int, (s[0].toNat : Int) = z := ⟨_, rfl⟩
            have hg0 : s.data.toList.getD 0 0 = s[0] := by simp [hlt0]; rfl
            by_cases h48 : 1 < k ∧ s[0] = 48
            · have Hp := kept (point_bad _ k Hn.out (by simpa using hlt) (.inr (.inr (.inl ⟨h48.1, by rw [hg0]; exact h48.2⟩))))
              have hk1 : 1 < (k : Int) := by omega
              have hz1 : (z == 48) = true := by rw [← hz, h48.2]; rfl
              clear hg0 h48
              go_wp2
              refine bodyPost_ret (v := .tuple #[.int .i32 0, .int .i64 0, .int .i64 2]) (by simp [results, Tryd.results42, go_sem]) rfl ⟨by rw [Hp.out]; rfl, Hl.out⟩
            · have hv0 := valid_rune (Str.hexC k s.data.toList)
              rcases bool_or (Utf8.valid (Str.hexC k s.data.toList : Int)) with hv | hv
              · have Hp := kept (point_ok' _ k Hn.out (by simpa using hlt) (by rw [hgk]; exact H125.out) hk0 (by rw [hg0]; exact h48) hv)
                have Hv0 := kept (hv0.trans hv)
                clear hv hv0 hg0
                have Hr := kept (fun W => (Tryd.utf8_ValidRune (Str.hexC k s.data.toList : Int) W))
                by_cases hk1 : 1 < k
                · have hk2 : 1 < (k : Int) := by omega
                  have hz1 : (z == 48) = false := by rw [← hz]; exact byte_ne s[0] 48 (by decide) (fun h => h48 ⟨hk1, h⟩)
                  clear h48
                  go_wp2_with fail
                  refine (Hr.out _).mono ?_; rintro e w2 ⟨rfl, rfl⟩
                  rw [Hv0.out]
                  go_wp2
                  refine bodyPost_ret (v := .tuple #[.int .i32 (Str.hexC k s.data.toList : Nat), .int .i64 (k + 1 : Nat), .int .i64 0]) (by simp [results, Tryd.results42, go_sem]) rfl ⟨by rw [Hp.out], Hl.out⟩
                · exfalso; omega
              · have Hp := kept (point_bad _ k Hn.out (by simpa using hlt) (.inr (.inr (.inr hv))))
                have Hv0 := kept (hv0.trans hv)
                clear hv hv0 hg0
                have Hr := kept (fun W => (Tryd.utf8_ValidRune (Str.hexC k s.data.toList : Int) W))
                by_cases hk1 : 1 < k
                · have hk2 : 1 < (k : Int) := by omega
                  have hz1 : (z == 48) = false := by rw [← hz]; exact byte_ne s[0] 48 (by decide) (fun h => h48 ⟨hk1, h⟩)
                  clear h48
                  go_wp2_with fail
                  refine (Hr.out _).mono ?_; rintro e w2 ⟨rfl, rfl⟩
                  rw [Hv0.out]
                  go_wp2
                  refine bodyPost_ret (v := .tuple #[.int .i32 0, .int .i64 0, .int .i64 2]) (by simp [results, Tryd.results42, go_sem]) rfl ⟨by rw [Hp.out]; rfl, Hl.out⟩
                · exfalso; omega
        · have Hp := kept (point_bad _ k Hn.out (by simpa using hlt) (.inl (by rw [hgk]; exact h125)))
          have hu1 : (u == 125) = false := by rw [← hu]; exact byte_ne s[k] 125 (by decide) h125
          have hu2 : (u != 125) = true := by simpa using hu1
          have hu3 : ¬ u = 125 := by simpa using hu1
          go_wp2
          refine bodyPost_ret (v := .tuple #[.int .i32 0, .int .i64 0, .int .i64 2]) (by simp [results, Tryd.results42, go_sem]) rfl ⟨by rw [Hp.out]; rfl, Hl.out⟩
      · have hk6' : (k : Int) < 6 := by omega
        by_cases hx : Str.isHex s[k] = true
        · have Hx := kept hx
          have hhx := Str.hexv_le s[k]
          have hge : ¬ Str.hexv s[k] < 0 := by simpa [Str.isHex] using hx
          have Hs := kept (Str.hexC_succ k s.data.toList (by simpa using hlt))
          have Hd := kept (show Str.hexC k s.data.toList < 1048576 by
            have := Hc.out
            have : 16 ^ k ≤ 16 ^ 5 := Nat.pow_le_pow_right (by decide) (by omega)
            omega)
          clear hx
          go_wp2_with fail
          refine (digit_any s[k] _).mono ?_; rintro e w1 ⟨rfl, rfl⟩
          go_wp2
          refine ⟨⟨Hl.out, k + 1, by omega, by omega, by go_num, ?_, ?_⟩, by simp only [intOf]; omega⟩
          · have e := Hs.out
            have e1 : s.data.toList[k]'(by simpa using hlt) = s[k] := rfl
            rw [e1] at e
            have hd := Hd.out
            generalize Str.hexC k s.data.toList = C at *
            generalize Str.hexv s[k] = D at *
            rw [e]
            congr 1
            unfold wrap32
            omega
          · intro j hj
            by_cases hjk : j = k
            · subst hjk; rw [hgk]; exact Hx.out
            · exact Ha.out j (by omega)
        · have Hn := kept (Hb.out (.inr (by rw [hgk]; simpa using hx)))
          have hlz : Str.hexv s[k] < 0 := by simpa [Str.isHex] using hx
          clear hx
          obtain ⟨u, hu⟩ : ∃ u : Int, (s[k].toNat : Int) = u := ⟨_, rfl⟩
          have Hdig : Kept (∀ W : World, Calls Tryd.prog 53 #[.string ⟨#[48, 49, 50, 51, 52, 53, 54, 55, 56, 57, 97, 98, 99, 100, 101, 102]⟩, .int .u8 u] W fun e w' => e = .returned (.int .i64 (Str.hexv s[k])) ∧ w' = W) := by
            refine kept fun W => ?_
            have h := digit_any s[k] W
            rwa [hu] at h
          by_cases h125 : s[k] = 125
          · have hu1 : (u == 125) = true := by rw [← hu, h125]; rfl
            have hu2 : (u != 125) = false := by rw [← hu, h125]; rfl
            have hu3 : u = 125 := by rw [← hu, h125]; rfl
            clear hu3
            have H125 := kept h125; clear h125
            by_cases hk0 : k = 0
            · have Hp := kept (point_bad _ k Hn.out (by simpa using hlt) (.inr (.inl hk0)))
              subst hk0
              go_wp2_with fail
              refine (Hdig.out _).mono ?_; rintro e w1 ⟨rfl, rfl⟩
              go_wp2
              refine bodyPost_ret (v := .tuple #[.int .i32 0, .int .i64 0, .int .i64 2]) (by simp [results, Tryd.results42, go_sem]) rfl ⟨by rw [Hp.out]; rfl, Hl.out⟩
            · have hkz1 : ((k : Int) == 0) = false := by simpa using hk0
              have hkz2 : ¬ (k : Int) = 0 := by omega
              have hlt0 : 0 < s.size := by omega
              obtain ⟨z, hz⟩ : ∃ z : Int, (s[0].toNat : Int) = z := ⟨_, rfl⟩
              have hg0 : s.data.toList.getD 0 0 = s[0] := by simp [hlt0]; rfl
              by_cases h48 : 1 < k ∧ s[0] = 48
              · have Hp := kept (point_bad _ k Hn.out (by simpa using hlt) (.inr (.inr (.inl ⟨h48.1, by rw [hg0]; exact h48.2⟩))))
                have hk1 : 1 < (k : Int) := by omega
                have hz1 : (z == 48) = true := by rw [← hz, h48.2]; rfl
                clear hg0 h48
                go_wp2_with fail
                refine (Hdig.out _).mono ?_; rintro e w1 ⟨rfl, rfl⟩
                go_wp2
                refine bodyPost_ret (v := .tuple #[.int .i32 0, .int .i64 0, .int .i64 2]) (by simp [results, Tryd.results42, go_sem]) rfl ⟨by rw [Hp.out]; rfl, Hl.out⟩
              · have hv0 := valid_rune (Str.hexC k s.data.toList)
                rcases bool_or (Utf8.valid (Str.hexC k s.data.toList : Int)) with hv | hv
                · have Hp := kept (point_ok' _ k Hn.out (by simpa using hlt) (by rw [hgk]; exact H125.out) hk0 (by rw [hg0]; exact h48) hv)
                  have Hv0 := kept (hv0.trans hv)
                  clear hv hv0 hg0
                  have Hr := kept (fun W => (Tryd.utf8_ValidRune (Str.hexC k s.data.toList : Int) W))
                  by_cases hk1 : 1 < k
                  · have hk2 : 1 < (k : Int) := by omega
                    have hz1 : (z == 48) = false := by rw [← hz]; exact byte_ne s[0] 48 (by decide) (fun h => h48 ⟨hk1, h⟩)
                    clear h48
                    go_wp2_with fail
                    refine (Hdig.out _).mono ?_; rintro e w1 ⟨rfl, rfl⟩
                    go_wp2_with fail
                    refine (Hr.out _).mono ?_; rintro e w2 ⟨rfl, rfl⟩
                    rw [Hv0.out]
                    go_wp2
                    refine bodyPost_ret (v := .tuple #[.int .i32 (Str.hexC k s.data.toList : Nat), .int .i64 (k + 1 : Nat), .int .i64 0]) (by simp [results, Tryd.results42, go_sem]) rfl ⟨by rw [Hp.out], Hl.out⟩
                  · have hk2 : ¬ 1 < (k : Int) := by omega
                    clear h48
                    go_wp2_with fail
                    refine (Hdig.out _).mono ?_; rintro e w1 ⟨rfl, rfl⟩
                    go_wp2_with fail
                    refine (Hr.out _).mono ?_; rintro e w2 ⟨rfl, rfl⟩
                    rw [Hv0.out]
                    go_wp2
                    refine bodyPost_ret (v := .tuple #[.int .i32 (Str.hexC k s.data.toList : Nat), .int .i64 (k + 1 : Nat), .int .i64 0]) (by simp [results, Tryd.results42, go_sem]) rfl ⟨by rw [Hp.out], Hl.out⟩
                · have Hp := kept (point_bad _ k Hn.out (by simpa using hlt) (.inr (.inr (.inr hv))))
                  have Hv0 := kept (hv0.trans hv)
                  clear hv hv0 hg0
                  have Hr := kept (fun W => (Tryd.utf8_ValidRune (Str.hexC k s.data.toList : Int) W))
                  by_cases hk1 : 1 < k
                  · have hk2 : 1 < (k : Int) := by omega
                    have hz1 : (z == 48) = false := by rw [← hz]; exact byte_ne s[0] 48 (by decide) (fun h => h48 ⟨hk1, h⟩)
                    clear h48
                    go_wp2_with fail
                    refine (Hdig.out _).mono ?_; rintro e w1 ⟨rfl, rfl⟩
                    go_wp2_with fail
                    refine (Hr.out _).mono ?_; rintro e w2 ⟨rfl, rfl⟩
                    rw [Hv0.out]
                    go_wp2
                    refine bodyPost_ret (v := .tuple #[.int .i32 0, .int .i64 0, .int .i64 2]) (by simp [results, Tryd.results42, go_sem]) rfl ⟨by rw [Hp.out]; rfl, Hl.out⟩
                  · have hk2 : ¬ 1 < (k : Int) := by omega
                    clear h48
                    go_wp2_with fail
                    refine (Hdig.out _).mono ?_; rintro e w1 ⟨rfl, rfl⟩
                    go_wp2_with fail
                    refine (Hr.out _).mono ?_; rintro e w2 ⟨rfl, rfl⟩
                    rw [Hv0.out]
                    go_wp2
                    refine bodyPost_ret (v := .tuple #[.int .i32 0, .int .i64 0, .int .i64 2]) (by simp [results, Tryd.results42, go_sem]) rfl ⟨by rw [Hp.out]; rfl, Hl.out⟩
          · have Hp := kept (point_bad _ k Hn.out (by simpa using hlt) (.inl (by rw [hgk]; exact h125)))
            have hu1 : (u == 125) = false := by rw [← hu]; exact byte_ne s[k] 125 (by decide) h125
            have hu2 : (u != 125) = true := by simpa using hu1
            have hu3 : ¬ u = 125 := by simpa using hu1
            go_wp2_with fail
            refine (Hdig.out _).mono ?_; rintro e w1 ⟨rfl, rfl⟩
            go_wp2
            refine bodyPost_ret (v := .tuple #[.int .i32 0, .int .i64 0, .int .i64 2]) (by simp [results, Tryd.results42, go_sem]) rfl ⟨by rw [Hp.out]; rfl, Hl.out⟩
end Go.Proofs.YtiaohbikaofbdaaDoor
