/- The walks of provisionref02: Valid, Length, Quote. -/
import Derived.Test.YtiaohbikaofbdaaDoorStrDecode
import Derived.Test.YtiaohbikaofbdaaDoorStrSpec
import Derived.Test.YtiaohbikaofbdaaDoorLib2
namespace Go.Proofs.YtiaohbikaofbdaaDoor
open Go.RowKit

theorem bool_or (b : Bool) : b = true ∨ b = false := by cases b <;> simp
theorem decode_any (s : ByteArray) (k : Nat) (w : World) (hs : s.size ≤ 1000000000) :
    Calls Tryd.prog 22 #[.string s, .int .i64 k] w fun e w' => e = DecEnd (Str.refDec s k) ∧ ∃ q, w' = w.drewN q := by
  by_cases hk : k < s.size
  · have hb := s[k].toNat_lt
    by_cases h1 : s[k].toNat < 128
    · exact dec_ascii s k w hk h1
    by_cases h2 : s[k].toNat < 194
    · exact dec_lead1 s k w hk (by omega) h2
    by_cases h3 : s[k].toNat ≤ 223
    · rcases bool_or (Str.inB s (k + 1) 128 191) with hc | hc
      · exact dec_two s k w hk hs (by omega) h3 hc
      · exact dec_two_no s k w hk hs (by omega) h3 hc
    by_cases h4 : s[k].toNat ≤ 239
    · by_cases ha : s[k].toNat = 224
      · rcases bool_or (Str.inB s (k + 1) 160 191) with hc | hc
        · rcases bool_or (Str.inB s (k + 2) 128 191) with hd | hd
          · exact dec_three_a s k w hk hs ha hc hd
          · exact dec_three_a_no2 s k w hk hs ha hc hd
        · exact dec_three_a_no1 s k w hk hs ha hc
      · by_cases hbb : s[k].toNat = 237
        · rcases bool_or (Str.inB s (k + 1) 128 159) with hc | hc
          · rcases bool_or (Str.inB s (k + 2) 128 191) with hd | hd
            · exact dec_three_b s k w hk hs hbb hc hd
            · exact dec_three_b_no2 s k w hk hs hbb hc hd
          · exact dec_three_b_no1 s k w hk hs hbb hc
        · rcases bool_or (Str.inB s (k + 1) 128 191) with hc | hc
          · rcases bool_or (Str.inB s (k + 2) 128 191) with hd | hd
            · exact dec_three_c s k w hk hs (by omega) h4 ha hbb hc hd
            · exact dec_three_c_no2 s k w hk hs (by omega) h4 ha hbb hc hd
          · exact dec_three_c_no1 s k w hk hs (by omega) h4 ha hbb hc
    by_cases h5 : s[k].toNat ≤ 244
    · by_cases ha : s[k].toNat = 240
      · rcases bool_or (Str.inB s (k + 1) 144 191) with hc | hc
        · rcases bool_or (Str.inB s (k + 2) 128 191) with hd | hd
          · rcases bool_or (Str.inB s (k + 3) 128 191) with he | he
            · exact dec_four_a s k w hk hs ha hc hd he
            · exact dec_four_a_no3 s k w hk hs ha hc hd he
          · exact dec_four_a_no2 s k w hk hs ha hc hd
        · exact dec_four_a_no1 s k w hk hs ha hc
      · by_cases hbb : s[k].toNat = 244
        · rcases bool_or (Str.inB s (k + 1) 128 143) with hc | hc
          · rcases bool_or (Str.inB s (k + 2) 128 191) with hd | hd
            · rcases bool_or (Str.inB s (k + 3) 128 191) with he | he
              · exact dec_four_b s k w hk hs hbb hc hd he
              · exact dec_four_b_no3 s k w hk hs hbb hc hd he
            · exact dec_four_b_no2 s k w hk hs hbb hc hd
          · exact dec_four_b_no1 s k w hk hs hbb hc
        · rcases bool_or (Str.inB s (k + 1) 128 191) with hc | hc
          · rcases bool_or (Str.inB s (k + 2) 128 191) with hd | hd
            · rcases bool_or (Str.inB s (k + 3) 128 191) with he | he
              · exact dec_four_c s k w hk hs (by omega) h5 ha hbb hc hd he
              · exact dec_four_c_no3 s k w hk hs (by omega) h5 ha hbb hc hd he
            · exact dec_four_c_no2 s k w hk hs (by omega) h5 ha hbb hc hd
          · exact dec_four_c_no1 s k w hk hs (by omega) h5 ha hbb hc
    exact dec_lead2 s k w hk (by omega)
  · exact dec_end s k w hk
theorem decode_at' (s : ByteArray) (k c n : Nat) (w : World) (hs : s.size ≤ 1000000000) (h : Str.refDec s k = (c, n)) :
    Calls Tryd.prog 22 #[.string s, .int .i64 k] w fun e w' => e = .returned (.tuple #[.int .i64 c, .int .i64 n]) ∧ Below w.heap.size w w' := by
  refine (decode_any s k w hs).mono fun e w' ⟨he, q, hw⟩ => ?_
  subst hw
  exact ⟨by rw [he, h]; rfl, below_drewN (Below.refl _ _) _⟩

set_option maxHeartbeats 800000 in
theorem refValid_any (s : ByteArray) (w : World) (hs : s.size ≤ 1000000) :
    Calls Tryd.prog 11 #[.string s] w fun e w' => e = .returned (.bool (Str.valid s.data.toList)) ∧ Below w.heap.size w w' := by
  by_cases h4 : s.size ≤ 4096
  · have Hv := kept (show Str.valid s.data.toList = Lib.validD s.data.toList by simp [Str.valid, h4])
    go_enter Tryd.func11, Tryd.ntmps11
    go_wp2
    go_loopw [3] (fun i wr => ∃ k : Nat, k ≤ s.size ∧ i = .int .i64 k ∧ Lib.validD (s.data.toList.drop k) = Lib.validD s.data.toList ∧ Below w.heap.size w wr) (fun i _ => s.size - (intOf i).toNat)
    case atStart => exact ⟨0, by omega, rfl, rfl, Below.refl _ _⟩
    case round =>
      obtain ⟨k, hk, rfl, hval, hbel⟩ := hrel
      have Hval := kept hval; have Hl := kept hbel
      clear hval hbel
      by_cases hlt : k < s.size
      · have hlt' : (k : Int) < s.size := by omega
        have Hst := kept (Str.valid_at s k hlt)
        have hwd := Str.dec_width s k hlt
        generalize hd : Utf8.decode s k = d at Hst hwd
        obtain ⟨c, n⟩ := d
        rcases Str.refDec_cases s k hlt with ⟨hb, he⟩ | ⟨hb, he⟩
        · have He := kept he
          rw [hd] at hb
          have Hf := kept (show Lib.validD s.data.toList = false by rw [← Hval.out, Hst.out, if_pos hb])
          clear hb he hd hwd
          go_wp2_with fail
          refine (decode_at' _ _ 0 0 _ (by omega) He.out).mono ?_; rintro e w1 ⟨rfl, b1⟩
          have B1 := kept b1; clear b1
          go_wp2
          go_ret
          exact ⟨ret_bool (by rw [Hv.out, Hf.out]), bthen Hl.out B1.out⟩
        · rw [hd] at hb he
          have He := kept he
          have Hf := kept (show Lib.validD (s.data.toList.drop (k + n)) = Lib.validD s.data.toList by rw [← Hval.out, Hst.out, if_neg hb])
          have hw1 : 1 ≤ n := hwd.1
          have hw2 : (k : Int) + n ≤ s.size := by have := hwd.2; simp only at this; omega
          have hnz : ((n : Int) == 0) = false := by simp; omega
          have hnz2 : ¬ (n : Int) = 0 := by omega
          clear hb he hd hwd
          go_wp2_with fail
          refine (decode_at' _ _ c n _ (by omega) He.out).mono ?_; rintro e w1 ⟨rfl, b1⟩
          have B1 := kept b1; clear b1
          go_wp2
          go_roundw
          case rel => exact ⟨k + n, by omega, by go_num, Hf.out, bthen Hl.out B1.out⟩
          case measure => simp [intOf]; omega
      · have Hf := kept (show Lib.validD s.data.toList = true by rw [← Hval.out, List.drop_of_length_le (by simp; omega)]; rfl)
        go_wp2
        go_ret
        exact ⟨ret_bool (by rw [Hv.out, Hf.out]), Hl.out⟩
  · have Hv := kept (show Str.valid s.data.toList = false by simp [Str.valid]; omega)
    go_enter Tryd.func11, Tryd.ntmps11
    go_wp2
    go_ret
    exact ⟨ret_bool Hv.out.symm, Below.refl _ _⟩

set_option maxHeartbeats 800000 in
theorem refLength_any (s : ByteArray) (w : World) (hs : s.size ≤ 1000000) :
    Calls Tryd.prog 17 #[.string s] w fun e w' => e = .returned (.int .i64 (Lib.runeCount s)) ∧ Below w.heap.size w w' := by
  go_enter Tryd.func17, Tryd.ntmps17
  go_wp2
  go_loopw [3, 4] (fun x i wr => ∃ (k m f : Nat), k ≤ s.size ∧ i = .int .i64 k ∧ x = .int .i64 m ∧ m ≤ k ∧ s.size - k ≤ f ∧ m + Lib.runeCountFrom s f k = Lib.runeCount s ∧ Below w.heap.size w wr) (fun _ i _ => s.size - (intOf i).toNat)
  case atStart => exact ⟨0, 0, s.size, by omega, rfl, rfl, by omega, by omega, by simp [Lib.runeCount], Below.refl _ _⟩
  case round =>
    obtain ⟨k, m, f, hk, rfl, rfl, hmk, hf, hrc, hbel⟩ := hrel
    have Hrc := kept hrc; have Hl := kept hbel
    clear hrc hbel
    by_cases hlt : k < s.size
    · have hlt' : (k : Int) < s.size := by omega
      obtain ⟨f', rfl⟩ : ∃ f', f = f' + 1 := ⟨f - 1, by omega⟩
      have Hst := kept (Str.rc_step s f' k hlt)
      have hwd := Str.dec_width s k hlt
      have hmx := Str.refDec_width s k hlt
      generalize hd : (Utf8.decode s k).2 = n at Hst hwd hmx
      generalize hr : Str.refDec s k = d at hmx
      obtain ⟨c, n0⟩ := d
      have Hr := kept hr
      have hw1 : 1 ≤ n := hwd.1
      have hw2 : (k : Int) + n ≤ s.size := by omega
      have hmx' : (if (n0 : Int) < 1 then (1 : Int) else (n0 : Int)) = (n : Int) := by have h := hmx; simp only at h; split <;> omega
      have Hmx := kept hmx
      clear hd hwd hr hmx
      go_wp2_with fail
      refine (decode_at' _ _ c n0 _ (by omega) Hr.out).mono ?_; rintro e w1 ⟨rfl, b1⟩
      have B1 := kept b1; clear b1
      go_wp2
      go_roundw
      case rel => exact ⟨k + n, m + 1, f', by omega, by go_num, by go_num, by omega, by omega, by rw [← Hrc.out, Hst.out]; omega, bthen Hl.out B1.out⟩
      case measure => simp [intOf]; omega
    · have Hf := kept (show Lib.runeCount s = m by rw [← Hrc.out, Lib.runeCountFrom_end s f k hlt]; rfl)
      go_wp2
      go_ret
      exact ⟨ret_int (by rw [Hf.out]), Hl.out⟩
end Go.Proofs.YtiaohbikaofbdaaDoor
