/- The walk of provisionref02.Decode. (Written by gen_decode.py.) -/
import Derived.Test.YtiaohbikaofbdaaDoorRows
import Derived.Test.YtiaohbikaofbdaaDoorLib
import Derived.Test.YtiaohbikaofbdaaDoorStrMath
import Derived.Deep.QuietTactic
import Derived.BigQuiet
import Derived.BigRegion
import Derived.IntWalk
namespace Go.Proofs.YtiaohbikaofbdaaDoor
open Go.RowKit

set_option maxHeartbeats 400000 in
theorem cont_any (s : ByteArray) (i lo hi : Int) (w : World) (h0 : 0 ≤ i) :
    Calls Tryd.prog 36 #[.string s, .int .i64 i, .int .u8 lo, .int .u8 hi] w fun e w' => e = .returned (.bool (Str.inB s i.toNat lo hi)) ∧ w = w' := by
  by_cases h1 : i < s.size
  · have h1' : i.toNat < s.size := by omega
    by_cases h2 : lo ≤ (s[i.toNat].toNat : Int)
    · have Hc := kept (show Str.inB s i.toNat lo hi = decide ((s[i.toNat].toNat : Int) ≤ hi) by simp [Str.inB, h1', h2])
      go_enter Tryd.func36, Tryd.ntmps36
      go_wp2
      go_ret
      exact ⟨ret_bool Hc.out.symm, rfl⟩
    · have Hc := kept (show Str.inB s i.toNat lo hi = false by simp [Str.inB, h2])
      go_enter Tryd.func36, Tryd.ntmps36
      go_wp2
      go_ret
      exact ⟨ret_bool Hc.out.symm, rfl⟩
  · have Hc := kept (show Str.inB s i.toNat lo hi = false by simp [Str.inB]; omega)
    go_enter Tryd.func36, Tryd.ntmps36
    go_wp2
    go_ret
    exact ⟨ret_bool Hc.out.symm, rfl⟩
theorem cont_at (s : ByteArray) (i lo hi : Int) (k : Nat) (c : Bool) (w : World) (h0 : 0 ≤ i) (hk : i.toNat = k) (h : Str.inB s k lo hi = c) :
    Calls Tryd.prog 36 #[.string s, .int .i64 i, .int .u8 lo, .int .u8 hi] w fun e w' => e = .returned (.bool c) ∧ w = w' := by
  subst hk; subst h; exact cont_any s i lo hi w h0
theorem and_u8 (b m : Nat) (hb : b < 256) (hm : m < 256) : bits .and .u8 (b : Int) (m : Int) = ((b &&& m : Nat) : Int) := u8_and_nat b m hb hm
theorem and63 (b : UInt8) : bits .and .u8 (b.toNat : Int) 63 = (b.toNat : Int) % 64 := by
  have := b.toNat_lt
  rw [show (63 : Int) = ((63 : Nat) : Int) from rfl, u8_and_nat _ _ (by omega) (by omega), show (63 : Nat) = 2 ^ 6 - 1 from rfl, Nat.and_two_pow_sub_one_eq_mod]; rfl
theorem and31 (b : UInt8) : bits .and .u8 (b.toNat : Int) 31 = (b.toNat : Int) % 32 := by
  have := b.toNat_lt
  rw [show (31 : Int) = ((31 : Nat) : Int) from rfl, u8_and_nat _ _ (by omega) (by omega), show (31 : Nat) = 2 ^ 5 - 1 from rfl, Nat.and_two_pow_sub_one_eq_mod]; rfl
theorem and15 (b : UInt8) : bits .and .u8 (b.toNat : Int) 15 = (b.toNat : Int) % 16 := by
  have := b.toNat_lt
  rw [show (15 : Int) = ((15 : Nat) : Int) from rfl, u8_and_nat _ _ (by omega) (by omega), show (15 : Nat) = 2 ^ 4 - 1 from rfl, Nat.and_two_pow_sub_one_eq_mod]; rfl
theorem and7 (b : UInt8) : bits .and .u8 (b.toNat : Int) 7 = (b.toNat : Int) % 8 := by
  have := b.toNat_lt
  rw [show (7 : Int) = ((7 : Nat) : Int) from rfl, u8_and_nat _ _ (by omega) (by omega), show (7 : Nat) = 2 ^ 3 - 1 from rfl, Nat.and_two_pow_sub_one_eq_mod]; rfl
theorem or_i64 (x y p : Nat) (n : Nat) (hp : p = 2 ^ n) (hy : y < p) (hx : x * p < 1152921504606846976) (hp2 : p < 1152921504606846976) : bits .or .i64 ((x : Int) * (p : Int)) (y : Int) = ((x * p + y : Nat) : Int) := by
  subst hp
  have h := u64_or_nat (x * 2 ^ n) y (by omega) (by omega)
  have e : (x * 2 ^ n ||| y) = x * 2 ^ n + y := by rw [Nat.mul_comm, ← Nat.two_pow_add_eq_or_of_lt hy]
  rw [e] at h
  rw [← Int.natCast_mul]
  have h1 : (BitVec.ofInt 64 ((x * 2 ^ n : Nat) : Int) ||| BitVec.ofInt 64 (y : Int)).toNat = x * 2 ^ n + y := by
    rw [BitVec.toNat_or, BitVec.ofInt_natCast, BitVec.ofInt_natCast, BitVec.toNat_ofNat, BitVec.toNat_ofNat, Nat.mod_eq_of_lt (by omega), Nat.mod_eq_of_lt (by omega), e]
  show IntKind.i64.wrap ((BitVec.ofInt 64 ((x * 2 ^ n : Nat) : Int) ||| BitVec.ofInt 64 (y : Int)).toNat : Int) = _
  rw [h1, IntKind.wrap_i64]
  omega
theorem or_int (x y : Int) (p : Nat) (n : Nat) (hp : p = 2 ^ n) (hx0 : 0 ≤ x) (hx : x < 16777216) (hy0 : 0 ≤ y) (hy : y < p) (hp2 : p < 16777216) : bits .or .i64 (x * (p : Int)) y = x * (p : Int) + y := by
  obtain ⟨X, rfl⟩ := Int.eq_ofNat_of_zero_le hx0
  obtain ⟨Y, rfl⟩ := Int.eq_ofNat_of_zero_le hy0
  have hX : X < 16777216 := by omega
  have hXp : X * p ≤ 16777216 * 16777216 := Nat.mul_le_mul (by omega) (by omega)
  rw [or_i64 X Y p n hp (by omega) (by omega) (by omega)]
  simp
def DecEnd (d : Nat × Nat) : Ending := .returned (.tuple #[.int .i64 d.1, .int .i64 d.2])
theorem dec_fin (x m : Int) (c n : Nat) (hx : x = c) (hm : m = n) : Ending.returned (.tuple #[.int .i64 x, .int .i64 m]) = DecEnd (c, n) := by subst hx; subst hm; rfl

set_option maxHeartbeats 400000 in
theorem dec_end (s : ByteArray) (k : Nat) (w : World) (hk : ¬ k < s.size) :
    Calls Tryd.prog 22 #[.string s, .int .i64 k] w fun e w' => e = DecEnd (Str.refDec s k) ∧ ∃ q, w' = w.drewN q := by
  have Hr := kept (Str.refDec_end s k hk)
  have hk' : (s.size : Int) ≤ k := by omega
  clear hk
  go_enter Tryd.func22, Tryd.ntmps22
  go_wp2
  go_ret2
  exact ⟨by rw [Hr.out]; rfl, 0, rfl⟩
set_option maxHeartbeats 400000 in
theorem dec_ascii (s : ByteArray) (k : Nat) (w : World) (hk : k < s.size) (h : s[k].toNat < 128) :
    Calls Tryd.prog 22 #[.string s, .int .i64 k] w fun e w' => e = DecEnd (Str.refDec s k) ∧ ∃ q, w' = w.drewN q := by
  have Hr := kept (Str.refDec_ascii s k hk h)
  have Hb := kept (show ((s[k].toNat : Nat) : Int) < 256 by have := s[k].toNat_lt; omega)
  have hk' : (k : Int) < s.size := by omega
  have h' : (s[k].toNat : Int) < 128 := by omega
  obtain ⟨u, hu⟩ : ∃ u : Int, (s[k].toNat : Int) = u := ⟨_, rfl⟩
  have hu0 : 0 ≤ u := by omega
  have Hu := kept hu
  rw [hu] at h'
  clear h
  go_enter Tryd.func22, Tryd.ntmps22
  go_wp2
  go_ret2
  exact ⟨by rw [Hr.out]; show _ = DecEnd _; unfold DecEnd; rw [Hu.out]; rfl, 0, rfl⟩
set_option maxHeartbeats 400000 in
theorem dec_two (s : ByteArray) (k : Nat) (w : World) (hk : k < s.size) (hs : s.size ≤ 1000000000) (h1 : 194 ≤ s[k].toNat) (h2 : s[k].toNat ≤ 223) (hc : Str.inB s (k + 1) 128 191 = true) :
    Calls Tryd.prog 22 #[.string s, .int .i64 k] w fun e w' => e = DecEnd (Str.refDec s k) ∧ ∃ q, w' = w.drewN q := by
  have Hr := kept (Str.refDec_two s k hk h1 h2 hc)
  have Hc := kept hc
  have hk1 : k + 1 < s.size := (Str.inB_true hc).1
  have hg1 := Str.get_lt s (k + 1) hk1
  have hk' : (k : Int) + 1 < s.size := by omega
  have a0 := and31 s[k]
  have a1 := and63 s[k + 1]
  obtain ⟨u0, hu0⟩ : ∃ u : Int, (s[k].toNat : Int) = u := ⟨_, rfl⟩
  have Hu0 := kept hu0
  have hu00 : 0 ≤ u0 := by omega
  have hu01 : u0 < 256 := by have := s[k].toNat_lt; omega
  obtain ⟨u1, hu1⟩ : ∃ u : Int, (s[k + 1].toNat : Int) = u := ⟨_, rfl⟩
  have Hu1 := kept hu1
  have hu10 : 0 ≤ u1 := by omega
  have hu11 : u1 < 256 := by have := s[k + 1].toNat_lt; omega
  have h1' : 194 ≤ u0 := by omega
  have h2' : u0 ≤ 223 := by omega
  rw [hu0] at a0
  rw [hu1] at a1
  have o1 : bits .or .i64 ((u0 % 32) * 64) ((u1 % 64)) = (u0 % 32) * 64 + (u1 % 64) := or_int ((u0 % 32)) ((u1 % 64)) 64 6 (by decide) (by omega) (by omega) (by omega) (by omega) (by omega)
  have Hg1 := kept hg1; clear hg1
  clear h1 h2 hc
  go_enter Tryd.func22, Tryd.ntmps22
  go_wp2_with fail
  refine (cont_at _ _ _ _ (k + 1) true _ (by omega) (by omega) Hc.out).mono ?_; rintro e w' ⟨rfl, rfl⟩
  go_wp2
  go_ret2
  refine ⟨?_, 0, rfl⟩
  rw [Hr.out]
  refine dec_fin _ _ _ _ ?_ rfl
  have := Hu0.out; have := Hu1.out; have := Hg1.out; omega
set_option maxHeartbeats 400000 in
theorem dec_two_no (s : ByteArray) (k : Nat) (w : World) (hk : k < s.size) (hs : s.size ≤ 1000000000) (h1 : 194 ≤ s[k].toNat) (h2 : s[k].toNat ≤ 223) (hc : Str.inB s (k + 1) 128 191 = false) :
    Calls Tryd.prog 22 #[.string s, .int .i64 k] w fun e w' => e = DecEnd (Str.refDec s k) ∧ ∃ q, w' = w.drewN q := by
  have Hr := kept (Str.refDec_two_no s k hk h1 h2 hc)
  have Hc := kept hc
  have hk' : (k : Int) < s.size := by omega
  obtain ⟨u0, hu0⟩ : ∃ u : Int, (s[k].toNat : Int) = u := ⟨_, rfl⟩
  have Hu0 := kept hu0
  have hu00 : 0 ≤ u0 := by omega
  have hu01 : u0 < 256 := by have := s[k].toNat_lt; omega
  have h1' : 194 ≤ u0 := by omega
  have h2' : u0 ≤ 223 := by omega
  clear h1 h2 hc
  go_enter Tryd.func22, Tryd.ntmps22
  go_wp2_with fail
  refine (cont_at _ _ _ _ (k + 1) false _ (by omega) (by omega) Hc.out).mono ?_; rintro e w' ⟨rfl, rfl⟩
  go_wp2
  go_ret2
  exact ⟨by rw [Hr.out]; rfl, 0, rfl⟩
set_option maxHeartbeats 400000 in
theorem dec_three_a (s : ByteArray) (k : Nat) (w : World) (hk : k < s.size) (hs : s.size ≤ 1000000000) (h1 : s[k].toNat = 224) (hc : Str.inB s (k + 1) 160 191 = true) (hd : Str.inB s (k + 2) 128 191 = true) :
    Calls Tryd.prog 22 #[.string s, .int .i64 k] w fun e w' => e = DecEnd (Str.refDec s k) ∧ ∃ q, w' = w.drewN q := by
  have Hr := kept (Str.refDec_three s k hk 160 191 (by omega) (by omega) (by simp [*]) (by simp [*]) hc hd)
  have Hc := kept hc
  have Hd := kept hd
  have hk1 : k + 1 < s.size := (Str.inB_true hc).1
  have hg1 := Str.get_lt s (k + 1) hk1
  have hk2 : k + 2 < s.size := (Str.inB_true hd).1
  have hg2 := Str.get_lt s (k + 2) hk2
  have hk' : (k : Int) + 2 < s.size := by omega
  have a0 := and15 s[k]
  have a1 := and63 s[k + 1]
  have a2 := and63 s[k + 2]
  obtain ⟨u0, hu0⟩ : ∃ u : Int, (s[k].toNat : Int) = u := ⟨_, rfl⟩
  have Hu0 := kept hu0
  have hu00 : 0 ≤ u0 := by omega
  have hu01 : u0 < 256 := by have := s[k].toNat_lt; omega
  obtain ⟨u1, hu1⟩ : ∃ u : Int, (s[k + 1].toNat : Int) = u := ⟨_, rfl⟩
  have Hu1 := kept hu1
  have hu10 : 0 ≤ u1 := by omega
  have hu11 : u1 < 256 := by have := s[k + 1].toNat_lt; omega
  obtain ⟨u2, hu2⟩ : ∃ u : Int, (s[k + 2].toNat : Int) = u := ⟨_, rfl⟩
  have Hu2 := kept hu2
  have hu20 : 0 ≤ u2 := by omega
  have hu21 : u2 < 256 := by have := s[k + 2].toNat_lt; omega
  rw [hu0] at a0
  rw [hu1] at a1
  rw [hu2] at a2
  have h1' : u0 = 224 := by omega
  subst h1'
  have o1 : bits .or .i64 (0) (u1 % 64 * 64) = u1 % 64 * 64 := by have := or_int (0) (u1 % 64 * 64) 4096 12 (by decide) (by omega) (by omega) (by omega) (by omega) (by omega); simpa using this
  have o2 : bits .or .i64 (u1 % 64 * 64) (u2 % 64) = u1 % 64 * 64 + u2 % 64 := by
    have := or_int (0 * 64 + u1 % 64) (u2 % 64) 64 6 (by decide) (by omega) (by omega) (by omega) (by omega) (by omega)
    rwa [show (0 * 64 + u1 % 64) * ((64 : Nat) : Int) = u1 % 64 * 64 by omega] at this
  have Hg1 := kept hg1; clear hg1
  have Hg2 := kept hg2; clear hg2
  clear h1 hc hd
  go_enter Tryd.func22, Tryd.ntmps22
  go_wp2_with fail
  refine (cont_at _ _ _ _ (k + 1) true _ (by omega) (by omega) Hc.out).mono ?_; rintro e w' ⟨rfl, rfl⟩
  go_wp2_with fail
  refine (cont_at _ _ _ _ (k + 2) true _ (by omega) (by omega) Hd.out).mono ?_; rintro e w' ⟨rfl, rfl⟩
  go_wp2
  have i1 : (0 : Int) ≤ (k : Int) + 1 := by omega
  have v1 : (k : Int) + 1 < s.size := by omega
  have w1 : IntKind.i64.wrap ((k : Int) + 1) = (k : Int) + 1 := IntWalk.i64_in _ (by omega)
  have n1 : ((k : Int) + 1).toNat = k + 1 := by omega
  have i2 : (0 : Int) ≤ (k : Int) + 2 := by omega
  have v2 : (k : Int) + 2 < s.size := by omega
  have w2 : IntKind.i64.wrap ((k : Int) + 2) = (k : Int) + 2 := IntWalk.i64_in _ (by omega)
  have n2 : ((k : Int) + 2).toNat = k + 2 := by omega
  have s1 : IntKind.i64.wrap (224 % 16 * 4096) = 224 % 16 * 4096 := IntWalk.i64_in _ (by omega)
  have s2 : IntKind.i64.wrap (u1 % 64 * 64) = u1 % 64 * 64 := IntWalk.i64_in _ (by omega)
  go_region
  clear w1 n1 w2 n2 s1 s2
  go_wp2
  go_ret2
  refine ⟨?_, _, rfl⟩
  rw [Hr.out]
  refine dec_fin _ _ _ _ ?_ rfl
  have := Hu0.out; have := Hu1.out; have := Hg1.out; have := Hu2.out; have := Hg2.out; omega
set_option maxHeartbeats 400000 in
theorem dec_three_a_no1 (s : ByteArray) (k : Nat) (w : World) (hk : k < s.size) (hs : s.size ≤ 1000000000) (h1 : s[k].toNat = 224) (hc : Str.inB s (k + 1) 160 191 = false) :
    Calls Tryd.prog 22 #[.string s, .int .i64 k] w fun e w' => e = DecEnd (Str.refDec s k) ∧ ∃ q, w' = w.drewN q := by
  have Hr := kept (Str.refDec_three_no s k hk 160 191 (by omega) (by omega) (by simp [*]) (by simp [*]) (.inl hc))
  have Hc := kept hc
  have hk' : (k : Int) < s.size := by omega
  obtain ⟨u0, hu0⟩ : ∃ u : Int, (s[k].toNat : Int) = u := ⟨_, rfl⟩
  have Hu0 := kept hu0
  have hu00 : 0 ≤ u0 := by omega
  have hu01 : u0 < 256 := by have := s[k].toNat_lt; omega
  have h1' : u0 = 224 := by omega
  subst h1'
  clear h1 hc
  go_enter Tryd.func22, Tryd.ntmps22
  go_wp2_with fail
  refine (cont_at _ _ _ _ (k + 1) false _ (by omega) (by omega) Hc.out).mono ?_; rintro e w' ⟨rfl, rfl⟩
  go_wp2
  go_ret2
  exact ⟨by rw [Hr.out]; rfl, 0, rfl⟩
set_option maxHeartbeats 400000 in
theorem dec_three_a_no2 (s : ByteArray) (k : Nat) (w : World) (hk : k < s.size) (hs : s.size ≤ 1000000000) (h1 : s[k].toNat = 224) (hc : Str.inB s (k + 1) 160 191 = true) (hd : Str.inB s (k + 2) 128 191 = false) :
    Calls Tryd.prog 22 #[.string s, .int .i64 k] w fun e w' => e = DecEnd (Str.refDec s k) ∧ ∃ q, w' = w.drewN q := by
  have Hr := kept (Str.refDec_three_no s k hk 160 191 (by omega) (by omega) (by simp [*]) (by simp [*]) (.inr hd))
  have Hc := kept hc
  have Hd := kept hd
  have hk' : (k : Int) < s.size := by omega
  obtain ⟨u0, hu0⟩ : ∃ u : Int, (s[k].toNat : Int) = u := ⟨_, rfl⟩
  have Hu0 := kept hu0
  have hu00 : 0 ≤ u0 := by omega
  have hu01 : u0 < 256 := by have := s[k].toNat_lt; omega
  have h1' : u0 = 224 := by omega
  subst h1'
  clear h1 hc hd
  go_enter Tryd.func22, Tryd.ntmps22
  go_wp2_with fail
  refine (cont_at _ _ _ _ (k + 1) true _ (by omega) (by omega) Hc.out).mono ?_; rintro e w' ⟨rfl, rfl⟩
  go_wp2_with fail
  refine (cont_at _ _ _ _ (k + 2) false _ (by omega) (by omega) Hd.out).mono ?_; rintro e w' ⟨rfl, rfl⟩
  go_wp2
  go_ret2
  exact ⟨by rw [Hr.out]; rfl, 0, rfl⟩
set_option maxHeartbeats 400000 in
theorem dec_three_b (s : ByteArray) (k : Nat) (w : World) (hk : k < s.size) (hs : s.size ≤ 1000000000) (h1 : s[k].toNat = 237) (hc : Str.inB s (k + 1) 128 159 = true) (hd : Str.inB s (k + 2) 128 191 = true) :
    Calls Tryd.prog 22 #[.string s, .int .i64 k] w fun e w' => e = DecEnd (Str.refDec s k) ∧ ∃ q, w' = w.drewN q := by
  have Hr := kept (Str.refDec_three s k hk 128 159 (by omega) (by omega) (by simp [*]) (by simp [*]) hc hd)
  have Hc := kept hc
  have Hd := kept hd
  have hk1 : k + 1 < s.size := (Str.inB_true hc).1
  have hg1 := Str.get_lt s (k + 1) hk1
  have hk2 : k + 2 < s.size := (Str.inB_true hd).1
  have hg2 := Str.get_lt s (k + 2) hk2
  have hk' : (k : Int) + 2 < s.size := by omega
  have a0 := and15 s[k]
  have a1 := and63 s[k + 1]
  have a2 := and63 s[k + 2]
  obtain ⟨u0, hu0⟩ : ∃ u : Int, (s[k].toNat : Int) = u := ⟨_, rfl⟩
  have Hu0 := kept hu0
  have hu00 : 0 ≤ u0 := by omega
  have hu01 : u0 < 256 := by have := s[k].toNat_lt; omega
  obtain ⟨u1, hu1⟩ : ∃ u : Int, (s[k + 1].toNat : Int) = u := ⟨_, rfl⟩
  have Hu1 := kept hu1
  have hu10 : 0 ≤ u1 := by omega
  have hu11 : u1 < 256 := by have := s[k + 1].toNat_lt; omega
  obtain ⟨u2, hu2⟩ : ∃ u : Int, (s[k + 2].toNat : Int) = u := ⟨_, rfl⟩
  have Hu2 := kept hu2
  have hu20 : 0 ≤ u2 := by omega
  have hu21 : u2 < 256 := by have := s[k + 2].toNat_lt; omega
  rw [hu0] at a0
  rw [hu1] at a1
  rw [hu2] at a2
  have h1' : u0 = 237 := by omega
  subst h1'
  have o1 : bits .or .i64 (53248) (u1 % 64 * 64) = 53248 + u1 % 64 * 64 := by have := or_int (13) (u1 % 64 * 64) 4096 12 (by decide) (by omega) (by omega) (by omega) (by omega) (by omega); simpa using this
  have o2 : bits .or .i64 (53248 + u1 % 64 * 64) (u2 % 64) = 53248 + u1 % 64 * 64 + u2 % 64 := by
    have := or_int (13 * 64 + u1 % 64) (u2 % 64) 64 6 (by decide) (by omega) (by omega) (by omega) (by omega) (by omega)
    rwa [show (13 * 64 + u1 % 64) * ((64 : Nat) : Int) = 53248 + u1 % 64 * 64 by omega] at this
  have Hg1 := kept hg1; clear hg1
  have Hg2 := kept hg2; clear hg2
  clear h1 hc hd
  go_enter Tryd.func22, Tryd.ntmps22
  go_wp2_with fail
  refine (cont_at _ _ _ _ (k + 1) true _ (by omega) (by omega) Hc.out).mono ?_; rintro e w' ⟨rfl, rfl⟩
  go_wp2_with fail
  refine (cont_at _ _ _ _ (k + 2) true _ (by omega) (by omega) Hd.out).mono ?_; rintro e w' ⟨rfl, rfl⟩
  go_wp2
  have i1 : (0 : Int) ≤ (k : Int) + 1 := by omega
  have v1 : (k : Int) + 1 < s.size := by omega
  have w1 : IntKind.i64.wrap ((k : Int) + 1) = (k : Int) + 1 := IntWalk.i64_in _ (by omega)
  have n1 : ((k : Int) + 1).toNat = k + 1 := by omega
  have i2 : (0 : Int) ≤ (k : Int) + 2 := by omega
  have v2 : (k : Int) + 2 < s.size := by omega
  have w2 : IntKind.i64.wrap ((k : Int) + 2) = (k : Int) + 2 := IntWalk.i64_in _ (by omega)
  have n2 : ((k : Int) + 2).toNat = k + 2 := by omega
  have s1 : IntKind.i64.wrap (237 % 16 * 4096) = 237 % 16 * 4096 := IntWalk.i64_in _ (by omega)
  have s2 : IntKind.i64.wrap (u1 % 64 * 64) = u1 % 64 * 64 := IntWalk.i64_in _ (by omega)
  go_region
  clear w1 n1 w2 n2 s1 s2
  go_wp2
  go_ret2
  refine ⟨?_, _, rfl⟩
  rw [Hr.out]
  refine dec_fin _ _ _ _ ?_ rfl
  have := Hu0.out; have := Hu1.out; have := Hg1.out; have := Hu2.out; have := Hg2.out; omega
set_option maxHeartbeats 400000 in
theorem dec_three_b_no1 (s : ByteArray) (k : Nat) (w : World) (hk : k < s.size) (hs : s.size ≤ 1000000000) (h1 : s[k].toNat = 237) (hc : Str.inB s (k + 1) 128 159 = false) :
    Calls Tryd.prog 22 #[.string s, .int .i64 k] w fun e w' => e = DecEnd (Str.refDec s k) ∧ ∃ q, w' = w.drewN q := by
  have Hr := kept (Str.refDec_three_no s k hk 128 159 (by omega) (by omega) (by simp [*]) (by simp [*]) (.inl hc))
  have Hc := kept hc
  have hk' : (k : Int) < s.size := by omega
  obtain ⟨u0, hu0⟩ : ∃ u : Int, (s[k].toNat : Int) = u := ⟨_, rfl⟩
  have Hu0 := kept hu0
  have hu00 : 0 ≤ u0 := by omega
  have hu01 : u0 < 256 := by have := s[k].toNat_lt; omega
  have h1' : u0 = 237 := by omega
  subst h1'
  clear h1 hc
  go_enter Tryd.func22, Tryd.ntmps22
  go_wp2_with fail
  refine (cont_at _ _ _ _ (k + 1) false _ (by omega) (by omega) Hc.out).mono ?_; rintro e w' ⟨rfl, rfl⟩
  go_wp2
  go_ret2
  exact ⟨by rw [Hr.out]; rfl, 0, rfl⟩
set_option maxHeartbeats 400000 in
theorem dec_three_b_no2 (s : ByteArray) (k : Nat) (w : World) (hk : k < s.size) (hs : s.size ≤ 1000000000) (h1 : s[k].toNat = 237) (hc : Str.inB s (k + 1) 128 159 = true) (hd : Str.inB s (k + 2) 128 191 = false) :
    Calls Tryd.prog 22 #[.string s, .int .i64 k] w fun e w' => e = DecEnd (Str.refDec s k) ∧ ∃ q, w' = w.drewN q := by
  have Hr := kept (Str.refDec_three_no s k hk 128 159 (by omega) (by omega) (by simp [*]) (by simp [*]) (.inr hd))
  have Hc := kept hc
  have Hd := kept hd
  have hk' : (k : Int) < s.size := by omega
  obtain ⟨u0, hu0⟩ : ∃ u : Int, (s[k].toNat : Int) = u := ⟨_, rfl⟩
  have Hu0 := kept hu0
  have hu00 : 0 ≤ u0 := by omega
  have hu01 : u0 < 256 := by have := s[k].toNat_lt; omega
  have h1' : u0 = 237 := by omega
  subst h1'
  clear h1 hc hd
  go_enter Tryd.func22, Tryd.ntmps22
  go_wp2_with fail
  refine (cont_at _ _ _ _ (k + 1) true _ (by omega) (by omega) Hc.out).mono ?_; rintro e w' ⟨rfl, rfl⟩
  go_wp2_with fail
  refine (cont_at _ _ _ _ (k + 2) false _ (by omega) (by omega) Hd.out).mono ?_; rintro e w' ⟨rfl, rfl⟩
  go_wp2
  go_ret2
  exact ⟨by rw [Hr.out]; rfl, 0, rfl⟩
set_option maxHeartbeats 400000 in
theorem dec_three_c (s : ByteArray) (k : Nat) (w : World) (hk : k < s.size) (hs : s.size ≤ 1000000000) (h1 : 224 ≤ s[k].toNat) (h2 : s[k].toNat ≤ 239) (h3 : s[k].toNat ≠ 224) (h4 : s[k].toNat ≠ 237) (hc : Str.inB s (k + 1) 128 191 = true) (hd : Str.inB s (k + 2) 128 191 = true) :
    Calls Tryd.prog 22 #[.string s, .int .i64 k] w fun e w' => e = DecEnd (Str.refDec s k) ∧ ∃ q, w' = w.drewN q := by
  have Hr := kept (Str.refDec_three s k hk 128 191 (by omega) (by omega) (by simp [*]) (by simp [*]) hc hd)
  have Hc := kept hc
  have Hd := kept hd
  have hk1 : k + 1 < s.size := (Str.inB_true hc).1
  have hg1 := Str.get_lt s (k + 1) hk1
  have hk2 : k + 2 < s.size := (Str.inB_true hd).1
  have hg2 := Str.get_lt s (k + 2) hk2
  have hk' : (k : Int) + 2 < s.size := by omega
  have a0 := and15 s[k]
  have a1 := and63 s[k + 1]
  have a2 := and63 s[k + 2]
  obtain ⟨u0, hu0⟩ : ∃ u : Int, (s[k].toNat : Int) = u := ⟨_, rfl⟩
  have Hu0 := kept hu0
  have hu00 : 0 ≤ u0 := by omega
  have hu01 : u0 < 256 := by have := s[k].toNat_lt; omega
  obtain ⟨u1, hu1⟩ : ∃ u : Int, (s[k + 1].toNat : Int) = u := ⟨_, rfl⟩
  have Hu1 := kept hu1
  have hu10 : 0 ≤ u1 := by omega
  have hu11 : u1 < 256 := by have := s[k + 1].toNat_lt; omega
  obtain ⟨u2, hu2⟩ : ∃ u : Int, (s[k + 2].toNat : Int) = u := ⟨_, rfl⟩
  have Hu2 := kept hu2
  have hu20 : 0 ≤ u2 := by omega
  have hu21 : u2 < 256 := by have := s[k + 2].toNat_lt; omega
  rw [hu0] at a0
  rw [hu1] at a1
  rw [hu2] at a2
  have h1' : 224 ≤ u0 := by omega
  have h2' : u0 ≤ 239 := by omega
  have h3' : (u0 == 224) = false := by simp; omega
  have h4' : (u0 == 237) = false := by simp; omega
  have h5' : ¬ u0 = 224 := by omega
  have h6' : ¬ u0 = 237 := by omega
  have o1 : bits .or .i64 (u0 % 16 * 4096) (u1 % 64 * 64) = u0 % 16 * 4096 + u1 % 64 * 64 := by have := or_int ((u0 % 16)) (u1 % 64 * 64) 4096 12 (by decide) (by omega) (by omega) (by omega) (by omega) (by omega); simpa using this
  have o2 : bits .or .i64 (u0 % 16 * 4096 + u1 % 64 * 64) (u2 % 64) = u0 % 16 * 4096 + u1 % 64 * 64 + u2 % 64 := by
    have := or_int ((u0 % 16) * 64 + u1 % 64) (u2 % 64) 64 6 (by decide) (by omega) (by omega) (by omega) (by omega) (by omega)
    rwa [show ((u0 % 16) * 64 + u1 % 64) * ((64 : Nat) : Int) = u0 % 16 * 4096 + u1 % 64 * 64 by omega] at this
  have Hg1 := kept hg1; clear hg1
  have Hg2 := kept hg2; clear hg2
  clear h1 h2 h3 h4 hc hd
  go_enter Tryd.func22, Tryd.ntmps22
  go_wp2_with fail
  refine (cont_at _ _ _ _ (k + 1) true _ (by omega) (by omega) Hc.out).mono ?_; rintro e w' ⟨rfl, rfl⟩
  go_wp2_with fail
  refine (cont_at _ _ _ _ (k + 2) true _ (by omega) (by omega) Hd.out).mono ?_; rintro e w' ⟨rfl, rfl⟩
  go_wp2
  have i1 : (0 : Int) ≤ (k : Int) + 1 := by omega
  have v1 : (k : Int) + 1 < s.size := by omega
  have w1 : IntKind.i64.wrap ((k : Int) + 1) = (k : Int) + 1 := IntWalk.i64_in _ (by omega)
  have n1 : ((k : Int) + 1).toNat = k + 1 := by omega
  have i2 : (0 : Int) ≤ (k : Int) + 2 := by omega
  have v2 : (k : Int) + 2 < s.size := by omega
  have w2 : IntKind.i64.wrap ((k : Int) + 2) = (k : Int) + 2 := IntWalk.i64_in _ (by omega)
  have n2 : ((k : Int) + 2).toNat = k + 2 := by omega
  have s1 : IntKind.i64.wrap (u0 % 16 * 4096) = u0 % 16 * 4096 := IntWalk.i64_in _ (by omega)
  have s2 : IntKind.i64.wrap (u1 % 64 * 64) = u1 % 64 * 64 := IntWalk.i64_in _ (by omega)
  go_region
  clear w1 n1 w2 n2 s1 s2
  go_wp2
  go_ret2
  refine ⟨?_, _, rfl⟩
  rw [Hr.out]
  refine dec_fin _ _ _ _ ?_ rfl
  have := Hu0.out; have := Hu1.out; have := Hg1.out; have := Hu2.out; have := Hg2.out; omega
set_option maxHeartbeats 400000 in
theorem dec_three_c_no1 (s : ByteArray) (k : Nat) (w : World) (hk : k < s.size) (hs : s.size ≤ 1000000000) (h1 : 224 ≤ s[k].toNat) (h2 : s[k].toNat ≤ 239) (h3 : s[k].toNat ≠ 224) (h4 : s[k].toNat ≠ 237) (hc : Str.inB s (k + 1) 128 191 = false) :
    Calls Tryd.prog 22 #[.string s, .int .i64 k] w fun e w' => e = DecEnd (Str.refDec s k) ∧ ∃ q, w' = w.drewN q := by
  have Hr := kept (Str.refDec_three_no s k hk 128 191 (by omega) (by omega) (by simp [*]) (by simp [*]) (.inl hc))
  have Hc := kept hc
  have hk' : (k : Int) < s.size := by omega
  obtain ⟨u0, hu0⟩ : ∃ u : Int, (s[k].toNat : Int) = u := ⟨_, rfl⟩
  have Hu0 := kept hu0
  have hu00 : 0 ≤ u0 := by omega
  have hu01 : u0 < 256 := by have := s[k].toNat_lt; omega
  have h1' : 224 ≤ u0 := by omega
  have h2' : u0 ≤ 239 := by omega
  have h3' : (u0 == 224) = false := by simp; omega
  have h4' : (u0 == 237) = false := by simp; omega
  have h5' : ¬ u0 = 224 := by omega
  have h6' : ¬ u0 = 237 := by omega
  clear h1 h2 h3 h4 hc
  go_enter Tryd.func22, Tryd.ntmps22
  go_wp2_with fail
  refine (cont_at _ _ _ _ (k + 1) false _ (by omega) (by omega) Hc.out).mono ?_; rintro e w' ⟨rfl, rfl⟩
  go_wp2
  go_ret2
  exact ⟨by rw [Hr.out]; rfl, 0, rfl⟩
set_option maxHeartbeats 400000 in
theorem dec_three_c_no2 (s : ByteArray) (k : Nat) (w : World) (hk : k < s.size) (hs : s.size ≤ 1000000000) (h1 : 224 ≤ s[k].toNat) (h2 : s[k].toNat ≤ 239) (h3 : s[k].toNat ≠ 224) (h4 : s[k].toNat ≠ 237) (hc : Str.inB s (k + 1) 128 191 = true) (hd : Str.inB s (k + 2) 128 191 = false) :
    Calls Tryd.prog 22 #[.string s, .int .i64 k] w fun e w' => e = DecEnd (Str.refDec s k) ∧ ∃ q, w' = w.drewN q := by
  have Hr := kept (Str.refDec_three_no s k hk 128 191 (by omega) (by omega) (by simp [*]) (by simp [*]) (.inr hd))
  have Hc := kept hc
  have Hd := kept hd
  have hk' : (k : Int) < s.size := by omega
  obtain ⟨u0, hu0⟩ : ∃ u : Int, (s[k].toNat : Int) = u := ⟨_, rfl⟩
  have Hu0 := kept hu0
  have hu00 : 0 ≤ u0 := by omega
  have hu01 : u0 < 256 := by have := s[k].toNat_lt; omega
  have h1' : 224 ≤ u0 := by omega
  have h2' : u0 ≤ 239 := by omega
  have h3' : (u0 == 224) = false := by simp; omega
  have h4' : (u0 == 237) = false := by simp; omega
  have h5' : ¬ u0 = 224 := by omega
  have h6' : ¬ u0 = 237 := by omega
  clear h1 h2 h3 h4 hc hd
  go_enter Tryd.func22, Tryd.ntmps22
  go_wp2_with fail
  refine (cont_at _ _ _ _ (k + 1) true _ (by omega) (by omega) Hc.out).mono ?_; rintro e w' ⟨rfl, rfl⟩
  go_wp2_with fail
  refine (cont_at _ _ _ _ (k + 2) false _ (by omega) (by omega) Hd.out).mono ?_; rintro e w' ⟨rfl, rfl⟩
  go_wp2
  go_ret2
  exact ⟨by rw [Hr.out]; rfl, 0, rfl⟩
set_option maxHeartbeats 400000 in
theorem dec_four_a (s : ByteArray) (k : Nat) (w : World) (hk : k < s.size) (hs : s.size ≤ 1000000000) (h1 : s[k].toNat = 240) (hc : Str.inB s (k + 1) 144 191 = true) (hd : Str.inB s (k + 2) 128 191 = true) (he : Str.inB s (k + 3) 128 191 = true) :
    Calls Tryd.prog 22 #[.string s, .int .i64 k] w fun e w' => e = DecEnd (Str.refDec s k) ∧ ∃ q, w' = w.drewN q := by
  have Hr := kept (Str.refDec_four s k hk 144 191 (by omega) (by omega) (by simp [*]) (by simp [*]) hc hd he)
  have Hc := kept hc
  have Hd := kept hd
  have He := kept he
  have hk1 : k + 1 < s.size := (Str.inB_true hc).1
  have hg1 := Str.get_lt s (k + 1) hk1
  have hk2 : k + 2 < s.size := (Str.inB_true hd).1
  have hg2 := Str.get_lt s (k + 2) hk2
  have hk3 : k + 3 < s.size := (Str.inB_true he).1
  have hg3 := Str.get_lt s (k + 3) hk3
  have hk' : (k : Int) + 3 < s.size := by omega
  have a0 := and7 s[k]
  have a1 := and63 s[k + 1]
  have a2 := and63 s[k + 2]
  have a3 := and63 s[k + 3]
  obtain ⟨u0, hu0⟩ : ∃ u : Int, (s[k].toNat : Int) = u := ⟨_, rfl⟩
  have Hu0 := kept hu0
  have hu00 : 0 ≤ u0 := by omega
  have hu01 : u0 < 256 := by have := s[k].toNat_lt; omega
  obtain ⟨u1, hu1⟩ : ∃ u : Int, (s[k + 1].toNat : Int) = u := ⟨_, rfl⟩
  have Hu1 := kept hu1
  have hu10 : 0 ≤ u1 := by omega
  have hu11 : u1 < 256 := by have := s[k + 1].toNat_lt; omega
  obtain ⟨u2, hu2⟩ : ∃ u : Int, (s[k + 2].toNat : Int) = u := ⟨_, rfl⟩
  have Hu2 := kept hu2
  have hu20 : 0 ≤ u2 := by omega
  have hu21 : u2 < 256 := by have := s[k + 2].toNat_lt; omega
  obtain ⟨u3, hu3⟩ : ∃ u : Int, (s[k + 3].toNat : Int) = u := ⟨_, rfl⟩
  have Hu3 := kept hu3
  have hu30 : 0 ≤ u3 := by omega
  have hu31 : u3 < 256 := by have := s[k + 3].toNat_lt; omega
  rw [hu0] at a0
  rw [hu1] at a1
  rw [hu2] at a2
  rw [hu3] at a3
  have h1' : u0 = 240 := by omega
  subst h1'
  have o1 : bits .or .i64 (0) (u1 % 64 * 4096) = u1 % 64 * 4096 := by have := or_int (0) (u1 % 64 * 4096) 262144 18 (by decide) (by omega) (by omega) (by omega) (by omega) (by omega); simpa using this
  have o2 : bits .or .i64 (u1 % 64 * 4096) (u2 % 64 * 64) = u1 % 64 * 4096 + u2 % 64 * 64 := by
    have := or_int (0 * 64 + u1 % 64) (u2 % 64 * 64) 4096 12 (by decide) (by omega) (by omega) (by omega) (by omega) (by omega)
    rwa [show (0 * 64 + u1 % 64) * ((4096 : Nat) : Int) = u1 % 64 * 4096 by omega] at this
  have o3 : bits .or .i64 (u1 % 64 * 4096 + u2 % 64 * 64) (u3 % 64) = u1 % 64 * 4096 + u2 % 64 * 64 + u3 % 64 := by
    have := or_int (0 * 4096 + u1 % 64 * 64 + u2 % 64) (u3 % 64) 64 6 (by decide) (by omega) (by omega) (by omega) (by omega) (by omega)
    rwa [show (0 * 4096 + u1 % 64 * 64 + u2 % 64) * ((64 : Nat) : Int) = u1 % 64 * 4096 + u2 % 64 * 64 by omega] at this
  have Hg1 := kept hg1; clear hg1
  have Hg2 := kept hg2; clear hg2
  have Hg3 := kept hg3; clear hg3
  clear h1 hc hd he
  go_enter Tryd.func22, Tryd.ntmps22
  go_wp2_with fail
  refine (cont_at _ _ _ _ (k + 1) true _ (by omega) (by omega) Hc.out).mono ?_; rintro e w' ⟨rfl, rfl⟩
  go_wp2_with fail
  refine (cont_at _ _ _ _ (k + 2) true _ (by omega) (by omega) Hd.out).mono ?_; rintro e w' ⟨rfl, rfl⟩
  go_wp2_with fail
  refine (cont_at _ _ _ _ (k + 3) true _ (by omega) (by omega) He.out).mono ?_; rintro e w' ⟨rfl, rfl⟩
  go_wp2
  have i1 : (0 : Int) ≤ (k : Int) + 1 := by omega
  have v1 : (k : Int) + 1 < s.size := by omega
  have w1 : IntKind.i64.wrap ((k : Int) + 1) = (k : Int) + 1 := IntWalk.i64_in _ (by omega)
  have n1 : ((k : Int) + 1).toNat = k + 1 := by omega
  have i2 : (0 : Int) ≤ (k : Int) + 2 := by omega
  have v2 : (k : Int) + 2 < s.size := by omega
  have w2 : IntKind.i64.wrap ((k : Int) + 2) = (k : Int) + 2 := IntWalk.i64_in _ (by omega)
  have n2 : ((k : Int) + 2).toNat = k + 2 := by omega
  have i3 : (0 : Int) ≤ (k : Int) + 3 := by omega
  have v3 : (k : Int) + 3 < s.size := by omega
  have w3 : IntKind.i64.wrap ((k : Int) + 3) = (k : Int) + 3 := IntWalk.i64_in _ (by omega)
  have n3 : ((k : Int) + 3).toNat = k + 3 := by omega
  have s1 : IntKind.i64.wrap (240 % 8 * 262144) = 240 % 8 * 262144 := IntWalk.i64_in _ (by omega)
  have s2 : IntKind.i64.wrap (u1 % 64 * 4096) = u1 % 64 * 4096 := IntWalk.i64_in _ (by omega)
  have s3 : IntKind.i64.wrap (u2 % 64 * 64) = u2 % 64 * 64 := IntWalk.i64_in _ (by omega)
  go_region
  clear w1 n1 w2 n2 w3 n3 s1 s2 s3
  go_wp2
  go_ret2
  refine ⟨?_, _, rfl⟩
  rw [Hr.out]
  refine dec_fin _ _ _ _ ?_ rfl
  have := Hu0.out; have := Hu1.out; have := Hg1.out; have := Hu2.out; have := Hg2.out; have := Hu3.out; have := Hg3.out; omega
set_option maxHeartbeats 400000 in
theorem dec_four_a_no1 (s : ByteArray) (k : Nat) (w : World) (hk : k < s.size) (hs : s.size ≤ 1000000000) (h1 : s[k].toNat = 240) (hc : Str.inB s (k + 1) 144 191 = false) :
    Calls Tryd.prog 22 #[.string s, .int .i64 k] w fun e w' => e = DecEnd (Str.refDec s k) ∧ ∃ q, w' = w.drewN q := by
  have Hr := kept (Str.refDec_four_no s k hk 144 191 (by omega) (by omega) (by simp [*]) (by simp [*]) (.inl hc))
  have Hc := kept hc
  have hk' : (k : Int) < s.size := by omega
  obtain ⟨u0, hu0⟩ : ∃ u : Int, (s[k].toNat : Int) = u := ⟨_, rfl⟩
  have Hu0 := kept hu0
  have hu00 : 0 ≤ u0 := by omega
  have hu01 : u0 < 256 := by have := s[k].toNat_lt; omega
  have h1' : u0 = 240 := by omega
  subst h1'
  clear h1 hc
  go_enter Tryd.func22, Tryd.ntmps22
  go_wp2_with fail
  refine (cont_at _ _ _ _ (k + 1) false _ (by omega) (by omega) Hc.out).mono ?_; rintro e w' ⟨rfl, rfl⟩
  go_wp2
  go_ret2
  exact ⟨by rw [Hr.out]; rfl, 0, rfl⟩
set_option maxHeartbeats 400000 in
theorem dec_four_a_no2 (s : ByteArray) (k : Nat) (w : World) (hk : k < s.size) (hs : s.size ≤ 1000000000) (h1 : s[k].toNat = 240) (hc : Str.inB s (k + 1) 144 191 = true) (hd : Str.inB s (k + 2) 128 191 = false) :
    Calls Tryd.prog 22 #[.string s, .int .i64 k] w fun e w' => e = DecEnd (Str.refDec s k) ∧ ∃ q, w' = w.drewN q := by
  have Hr := kept (Str.refDec_four_no s k hk 144 191 (by omega) (by omega) (by simp [*]) (by simp [*]) (.inr (.inl hd)))
  have Hc := kept hc
  have Hd := kept hd
  have hk' : (k : Int) < s.size := by omega
  obtain ⟨u0, hu0⟩ : ∃ u : Int, (s[k].toNat : Int) = u := ⟨_, rfl⟩
  have Hu0 := kept hu0
  have hu00 : 0 ≤ u0 := by omega
  have hu01 : u0 < 256 := by have := s[k].toNat_lt; omega
  have h1' : u0 = 240 := by omega
  subst h1'
  clear h1 hc hd
  go_enter Tryd.func22, Tryd.ntmps22
  go_wp2_with fail
  refine (cont_at _ _ _ _ (k + 1) true _ (by omega) (by omega) Hc.out).mono ?_; rintro e w' ⟨rfl, rfl⟩
  go_wp2_with fail
  refine (cont_at _ _ _ _ (k + 2) false _ (by omega) (by omega) Hd.out).mono ?_; rintro e w' ⟨rfl, rfl⟩
  go_wp2
  go_ret2
  exact ⟨by rw [Hr.out]; rfl, 0, rfl⟩
set_option maxHeartbeats 400000 in
theorem dec_four_a_no3 (s : ByteArray) (k : Nat) (w : World) (hk : k < s.size) (hs : s.size ≤ 1000000000) (h1 : s[k].toNat = 240) (hc : Str.inB s (k + 1) 144 191 = true) (hd : Str.inB s (k + 2) 128 191 = true) (he : Str.inB s (k + 3) 128 191 = false) :
    Calls Tryd.prog 22 #[.string s, .int .i64 k] w fun e w' => e = DecEnd (Str.refDec s k) ∧ ∃ q, w' = w.drewN q := by
  have Hr := kept (Str.refDec_four_no s k hk 144 191 (by omega) (by omega) (by simp [*]) (by simp [*]) (.inr (.inr he)))
  have Hc := kept hc
  have Hd := kept hd
  have He := kept he
  have hk' : (k : Int) < s.size := by omega
  obtain ⟨u0, hu0⟩ : ∃ u : Int, (s[k].toNat : Int) = u := ⟨_, rfl⟩
  have Hu0 := kept hu0
  have hu00 : 0 ≤ u0 := by omega
  have hu01 : u0 < 256 := by have := s[k].toNat_lt; omega
  have h1' : u0 = 240 := by omega
  subst h1'
  clear h1 hc hd he
  go_enter Tryd.func22, Tryd.ntmps22
  go_wp2_with fail
  refine (cont_at _ _ _ _ (k + 1) true _ (by omega) (by omega) Hc.out).mono ?_; rintro e w' ⟨rfl, rfl⟩
  go_wp2_with fail
  refine (cont_at _ _ _ _ (k + 2) true _ (by omega) (by omega) Hd.out).mono ?_; rintro e w' ⟨rfl, rfl⟩
  go_wp2_with fail
  refine (cont_at _ _ _ _ (k + 3) false _ (by omega) (by omega) He.out).mono ?_; rintro e w' ⟨rfl, rfl⟩
  go_wp2
  go_ret2
  exact ⟨by rw [Hr.out]; rfl, 0, rfl⟩
set_option maxHeartbeats 400000 in
theorem dec_four_b (s : ByteArray) (k : Nat) (w : World) (hk : k < s.size) (hs : s.size ≤ 1000000000) (h1 : s[k].toNat = 244) (hc : Str.inB s (k + 1) 128 143 = true) (hd : Str.inB s (k + 2) 128 191 = true) (he : Str.inB s (k + 3) 128 191 = true) :
    Calls Tryd.prog 22 #[.string s, .int .i64 k] w fun e w' => e = DecEnd (Str.refDec s k) ∧ ∃ q, w' = w.drewN q := by
  have Hr := kept (Str.refDec_four s k hk 128 143 (by omega) (by omega) (by simp [*]) (by simp [*]) hc hd he)
  have Hc := kept hc
  have Hd := kept hd
  have He := kept he
  have hk1 : k + 1 < s.size := (Str.inB_true hc).1
  have hg1 := Str.get_lt s (k + 1) hk1
  have hk2 : k + 2 < s.size := (Str.inB_true hd).1
  have hg2 := Str.get_lt s (k + 2) hk2
  have hk3 : k + 3 < s.size := (Str.inB_true he).1
  have hg3 := Str.get_lt s (k + 3) hk3
  have hk' : (k : Int) + 3 < s.size := by omega
  have a0 := and7 s[k]
  have a1 := and63 s[k + 1]
  have a2 := and63 s[k + 2]
  have a3 := and63 s[k + 3]
  obtain ⟨u0, hu0⟩ : ∃ u : Int, (s[k].toNat : Int) = u := ⟨_, rfl⟩
  have Hu0 := kept hu0
  have hu00 : 0 ≤ u0 := by omega
  have hu01 : u0 < 256 := by have := s[k].toNat_lt; omega
  obtain ⟨u1, hu1⟩ : ∃ u : Int, (s[k + 1].toNat : Int) = u := ⟨_, rfl⟩
  have Hu1 := kept hu1
  have hu10 : 0 ≤ u1 := by omega
  have hu11 : u1 < 256 := by have := s[k + 1].toNat_lt; omega
  obtain ⟨u2, hu2⟩ : ∃ u : Int, (s[k + 2].toNat : Int) = u := ⟨_, rfl⟩
  have Hu2 := kept hu2
  have hu20 : 0 ≤ u2 := by omega
  have hu21 : u2 < 256 := by have := s[k + 2].toNat_lt; omega
  obtain ⟨u3, hu3⟩ : ∃ u : Int, (s[k + 3].toNat : Int) = u := ⟨_, rfl⟩
  have Hu3 := kept hu3
  have hu30 : 0 ≤ u3 := by omega
  have hu31 : u3 < 256 := by have := s[k + 3].toNat_lt; omega
  rw [hu0] at a0
  rw [hu1] at a1
  rw [hu2] at a2
  rw [hu3] at a3
  have h1' : u0 = 244 := by omega
  subst h1'
  have o1 : bits .or .i64 (1048576) (u1 % 64 * 4096) = 1048576 + u1 % 64 * 4096 := by have := or_int (4) (u1 % 64 * 4096) 262144 18 (by decide) (by omega) (by omega) (by omega) (by omega) (by omega); simpa using this
  have o2 : bits .or .i64 (1048576 + u1 % 64 * 4096) (u2 % 64 * 64) = 1048576 + u1 % 64 * 4096 + u2 % 64 * 64 := by
    have := or_int (4 * 64 + u1 % 64) (u2 % 64 * 64) 4096 12 (by decide) (by omega) (by omega) (by omega) (by omega) (by omega)
    rwa [show (4 * 64 + u1 % 64) * ((4096 : Nat) : Int) = 1048576 + u1 % 64 * 4096 by omega] at this
  have o3 : bits .or .i64 (1048576 + u1 % 64 * 4096 + u2 % 64 * 64) (u3 % 64) = 1048576 + u1 % 64 * 4096 + u2 % 64 * 64 + u3 % 64 := by
    have := or_int (4 * 4096 + u1 % 64 * 64 + u2 % 64) (u3 % 64) 64 6 (by decide) (by omega) (by omega) (by omega) (by omega) (by omega)
    rwa [show (4 * 4096 + u1 % 64 * 64 + u2 % 64) * ((64 : Nat) : Int) = 1048576 + u1 % 64 * 4096 + u2 % 64 * 64 by omega] at this
  have Hg1 := kept hg1; clear hg1
  have Hg2 := kept hg2; clear hg2
  have Hg3 := kept hg3; clear hg3
  clear h1 hc hd he
  go_enter Tryd.func22, Tryd.ntmps22
  go_wp2_with fail
  refine (cont_at _ _ _ _ (k + 1) true _ (by omega) (by omega) Hc.out).mono ?_; rintro e w' ⟨rfl, rfl⟩
  go_wp2_with fail
  refine (cont_at _ _ _ _ (k + 2) true _ (by omega) (by omega) Hd.out).mono ?_; rintro e w' ⟨rfl, rfl⟩
  go_wp2_with fail
  refine (cont_at _ _ _ _ (k + 3) true _ (by omega) (by omega) He.out).mono ?_; rintro e w' ⟨rfl, rfl⟩
  go_wp2
  have i1 : (0 : Int) ≤ (k : Int) + 1 := by omega
  have v1 : (k : Int) + 1 < s.size := by omega
  have w1 : IntKind.i64.wrap ((k : Int) + 1) = (k : Int) + 1 := IntWalk.i64_in _ (by omega)
  have n1 : ((k : Int) + 1).toNat = k + 1 := by omega
  have i2 : (0 : Int) ≤ (k : Int) + 2 := by omega
  have v2 : (k : Int) + 2 < s.size := by omega
  have w2 : IntKind.i64.wrap ((k : Int) + 2) = (k : Int) + 2 := IntWalk.i64_in _ (by omega)
  have n2 : ((k : Int) + 2).toNat = k + 2 := by omega
  have i3 : (0 : Int) ≤ (k : Int) + 3 := by omega
  have v3 : (k : Int) + 3 < s.size := by omega
  have w3 : IntKind.i64.wrap ((k : Int) + 3) = (k : Int) + 3 := IntWalk.i64_in _ (by omega)
  have n3 : ((k : Int) + 3).toNat = k + 3 := by omega
  have s1 : IntKind.i64.wrap (244 % 8 * 262144) = 244 % 8 * 262144 := IntWalk.i64_in _ (by omega)
  have s2 : IntKind.i64.wrap (u1 % 64 * 4096) = u1 % 64 * 4096 := IntWalk.i64_in _ (by omega)
  have s3 : IntKind.i64.wrap (u2 % 64 * 64) = u2 % 64 * 64 := IntWalk.i64_in _ (by omega)
  go_region
  clear w1 n1 w2 n2 w3 n3 s1 s2 s3
  go_wp2
  go_ret2
  refine ⟨?_, _, rfl⟩
  rw [Hr.out]
  refine dec_fin _ _ _ _ ?_ rfl
  have := Hu0.out; have := Hu1.out; have := Hg1.out; have := Hu2.out; have := Hg2.out; have := Hu3.out; have := Hg3.out; omega
set_option maxHeartbeats 400000 in
theorem dec_four_b_no1 (s : ByteArray) (k : Nat) (w : World) (hk : k < s.size) (hs : s.size ≤ 1000000000) (h1 : s[k].toNat = 244) (hc : Str.inB s (k + 1) 128 143 = false) :
    Calls Tryd.prog 22 #[.string s, .int .i64 k] w fun e w' => e = DecEnd (Str.refDec s k) ∧ ∃ q, w' = w.drewN q := by
  have Hr := kept (Str.refDec_four_no s k hk 128 143 (by omega) (by omega) (by simp [*]) (by simp [*]) (.inl hc))
  have Hc := kept hc
  have hk' : (k : Int) < s.size := by omega
  obtain ⟨u0, hu0⟩ : ∃ u : Int, (s[k].toNat : Int) = u := ⟨_, rfl⟩
  have Hu0 := kept hu0
  have hu00 : 0 ≤ u0 := by omega
  have hu01 : u0 < 256 := by have := s[k].toNat_lt; omega
  have h1' : u0 = 244 := by omega
  subst h1'
  clear h1 hc
  go_enter Tryd.func22, Tryd.ntmps22
  go_wp2_with fail
  refine (cont_at _ _ _ _ (k + 1) false _ (by omega) (by omega) Hc.out).mono ?_; rintro e w' ⟨rfl, rfl⟩
  go_wp2
  go_ret2
  exact ⟨by rw [Hr.out]; rfl, 0, rfl⟩
set_option maxHeartbeats 400000 in
theorem dec_four_b_no2 (s : ByteArray) (k : Nat) (w : World) (hk : k < s.size) (hs : s.size ≤ 1000000000) (h1 : s[k].toNat = 244) (hc : Str.inB s (k + 1) 128 143 = true) (hd : Str.inB s (k + 2) 128 191 = false) :
    Calls Tryd.prog 22 #[.string s, .int .i64 k] w fun e w' => e = DecEnd (Str.refDec s k) ∧ ∃ q, w' = w.drewN q := by
  have Hr := kept (Str.refDec_four_no s k hk 128 143 (by omega) (by omega) (by simp [*]) (by simp [*]) (.inr (.inl hd)))
  have Hc := kept hc
  have Hd := kept hd
  have hk' : (k : Int) < s.size := by omega
  obtain ⟨u0, hu0⟩ : ∃ u : Int, (s[k].toNat : Int) = u := ⟨_, rfl⟩
  have Hu0 := kept hu0
  have hu00 : 0 ≤ u0 := by omega
  have hu01 : u0 < 256 := by have := s[k].toNat_lt; omega
  have h1' : u0 = 244 := by omega
  subst h1'
  clear h1 hc hd
  go_enter Tryd.func22, Tryd.ntmps22
  go_wp2_with fail
  refine (cont_at _ _ _ _ (k + 1) true _ (by omega) (by omega) Hc.out).mono ?_; rintro e w' ⟨rfl, rfl⟩
  go_wp2_with fail
  refine (cont_at _ _ _ _ (k + 2) false _ (by omega) (by omega) Hd.out).mono ?_; rintro e w' ⟨rfl, rfl⟩
  go_wp2
  go_ret2
  exact ⟨by rw [Hr.out]; rfl, 0, rfl⟩
set_option maxHeartbeats 400000 in
theorem dec_four_b_no3 (s : ByteArray) (k : Nat) (w : World) (hk : k < s.size) (hs : s.size ≤ 1000000000) (h1 : s[k].toNat = 244) (hc : Str.inB s (k + 1) 128 143 = true) (hd : Str.inB s (k + 2) 128 191 = true) (he : Str.inB s (k + 3) 128 191 = false) :
    Calls Tryd.prog 22 #[.string s, .int .i64 k] w fun e w' => e = DecEnd (Str.refDec s k) ∧ ∃ q, w' = w.drewN q := by
  have Hr := kept (Str.refDec_four_no s k hk 128 143 (by omega) (by omega) (by simp [*]) (by simp [*]) (.inr (.inr he)))
  have Hc := kept hc
  have Hd := kept hd
  have He := kept he
  have hk' : (k : Int) < s.size := by omega
  obtain ⟨u0, hu0⟩ : ∃ u : Int, (s[k].toNat : Int) = u := ⟨_, rfl⟩
  have Hu0 := kept hu0
  have hu00 : 0 ≤ u0 := by omega
  have hu01 : u0 < 256 := by have := s[k].toNat_lt; omega
  have h1' : u0 = 244 := by omega
  subst h1'
  clear h1 hc hd he
  go_enter Tryd.func22, Tryd.ntmps22
  go_wp2_with fail
  refine (cont_at _ _ _ _ (k + 1) true _ (by omega) (by omega) Hc.out).mono ?_; rintro e w' ⟨rfl, rfl⟩
  go_wp2_with fail
  refine (cont_at _ _ _ _ (k + 2) true _ (by omega) (by omega) Hd.out).mono ?_; rintro e w' ⟨rfl, rfl⟩
  go_wp2_with fail
  refine (cont_at _ _ _ _ (k + 3) false _ (by omega) (by omega) He.out).mono ?_; rintro e w' ⟨rfl, rfl⟩
  go_wp2
  go_ret2
  exact ⟨by rw [Hr.out]; rfl, 0, rfl⟩
set_option maxHeartbeats 400000 in
theorem dec_four_c (s : ByteArray) (k : Nat) (w : World) (hk : k < s.size) (hs : s.size ≤ 1000000000) (h1 : 240 ≤ s[k].toNat) (h2 : s[k].toNat ≤ 244) (h3 : s[k].toNat ≠ 240) (h4 : s[k].toNat ≠ 244) (hc : Str.inB s (k + 1) 128 191 = true) (hd : Str.inB s (k + 2) 128 191 = true) (he : Str.inB s (k + 3) 128 191 = true) :
    Calls Tryd.prog 22 #[.string s, .int .i64 k] w fun e w' => e = DecEnd (Str.refDec s k) ∧ ∃ q, w' = w.drewN q := by
  have Hr := kept (Str.refDec_four s k hk 128 191 (by omega) (by omega) (by simp [*]) (by simp [*]) hc hd he)
  have Hc := kept hc
  have Hd := kept hd
  have He := kept he
  have hk1 : k + 1 < s.size := (Str.inB_true hc).1
  have hg1 := Str.get_lt s (k + 1) hk1
  have hk2 : k + 2 < s.size := (Str.inB_true hd).1
  have hg2 := Str.get_lt s (k + 2) hk2
  have hk3 : k + 3 < s.size := (Str.inB_true he).1
  have hg3 := Str.get_lt s (k + 3) hk3
  have hk' : (k : Int) + 3 < s.size := by omega
  have a0 := and7 s[k]
  have a1 := and63 s[k + 1]
  have a2 := and63 s[k + 2]
  have a3 := and63 s[k + 3]
  obtain ⟨u0, hu0⟩ : ∃ u : Int, (s[k].toNat : Int) = u := ⟨_, rfl⟩
  have Hu0 := kept hu0
  have hu00 : 0 ≤ u0 := by omega
  have hu01 : u0 < 256 := by have := s[k].toNat_lt; omega
  obtain ⟨u1, hu1⟩ : ∃ u : Int, (s[k + 1].toNat : Int) = u := ⟨_, rfl⟩
  have Hu1 := kept hu1
  have hu10 : 0 ≤ u1 := by omega
  have hu11 : u1 < 256 := by have := s[k + 1].toNat_lt; omega
  obtain ⟨u2, hu2⟩ : ∃ u : Int, (s[k + 2].toNat : Int) = u := ⟨_, rfl⟩
  have Hu2 := kept hu2
  have hu20 : 0 ≤ u2 := by omega
  have hu21 : u2 < 256 := by have := s[k + 2].toNat_lt; omega
  obtain ⟨u3, hu3⟩ : ∃ u : Int, (s[k + 3].toNat : Int) = u := ⟨_, rfl⟩
  have Hu3 := kept hu3
  have hu30 : 0 ≤ u3 := by omega
  have hu31 : u3 < 256 := by have := s[k + 3].toNat_lt; omega
  rw [hu0] at a0
  rw [hu1] at a1
  rw [hu2] at a2
  rw [hu3] at a3
  have h1' : 240 ≤ u0 := by omega
  have h2' : u0 ≤ 244 := by omega
  have h3' : (u0 == 240) = false := by simp; omega
  have h4' : (u0 == 244) = false := by simp; omega
  have h5' : ¬ u0 = 240 := by omega
  have h6' : ¬ u0 = 244 := by omega
  have o1 : bits .or .i64 (u0 % 8 * 262144) (u1 % 64 * 4096) = u0 % 8 * 262144 + u1 % 64 * 4096 := by have := or_int ((u0 % 8)) (u1 % 64 * 4096) 262144 18 (by decide) (by omega) (by omega) (by omega) (by omega) (by omega); simpa using this
  have o2 : bits .or .i64 (u0 % 8 * 262144 + u1 % 64 * 4096) (u2 % 64 * 64) = u0 % 8 * 262144 + u1 % 64 * 4096 + u2 % 64 * 64 := by
    have := or_int ((u0 % 8) * 64 + u1 % 64) (u2 % 64 * 64) 4096 12 (by decide) (by omega) (by omega) (by omega) (by omega) (by omega)
    rwa [show ((u0 % 8) * 64 + u1 % 64) * ((4096 : Nat) : Int) = u0 % 8 * 262144 + u1 % 64 * 4096 by omega] at this
  have o3 : bits .or .i64 (u0 % 8 * 262144 + u1 % 64 * 4096 + u2 % 64 * 64) (u3 % 64) = u0 % 8 * 262144 + u1 % 64 * 4096 + u2 % 64 * 64 + u3 % 64 := by
    have := or_int ((u0 % 8) * 4096 + u1 % 64 * 64 + u2 % 64) (u3 % 64) 64 6 (by decide) (by omega) (by omega) (by omega) (by omega) (by omega)
    rwa [show ((u0 % 8) * 4096 + u1 % 64 * 64 + u2 % 64) * ((64 : Nat) : Int) = u0 % 8 * 262144 + u1 % 64 * 4096 + u2 % 64 * 64 by omega] at this
  have Hg1 := kept hg1; clear hg1
  have Hg2 := kept hg2; clear hg2
  have Hg3 := kept hg3; clear hg3
  clear h1 h2 h3 h4 hc hd he
  go_enter Tryd.func22, Tryd.ntmps22
  go_wp2_with fail
  refine (cont_at _ _ _ _ (k + 1) true _ (by omega) (by omega) Hc.out).mono ?_; rintro e w' ⟨rfl, rfl⟩
  go_wp2_with fail
  refine (cont_at _ _ _ _ (k + 2) true _ (by omega) (by omega) Hd.out).mono ?_; rintro e w' ⟨rfl, rfl⟩
  go_wp2_with fail
  refine (cont_at _ _ _ _ (k + 3) true _ (by omega) (by omega) He.out).mono ?_; rintro e w' ⟨rfl, rfl⟩
  go_wp2
  have i1 : (0 : Int) ≤ (k : Int) + 1 := by omega
  have v1 : (k : Int) + 1 < s.size := by omega
  have w1 : IntKind.i64.wrap ((k : Int) + 1) = (k : Int) + 1 := IntWalk.i64_in _ (by omega)
  have n1 : ((k : Int) + 1).toNat = k + 1 := by omega
  have i2 : (0 : Int) ≤ (k : Int) + 2 := by omega
  have v2 : (k : Int) + 2 < s.size := by omega
  have w2 : IntKind.i64.wrap ((k : Int) + 2) = (k : Int) + 2 := IntWalk.i64_in _ (by omega)
  have n2 : ((k : Int) + 2).toNat = k + 2 := by omega
  have i3 : (0 : Int) ≤ (k : Int) + 3 := by omega
  have v3 : (k : Int) + 3 < s.size := by omega
  have w3 : IntKind.i64.wrap ((k : Int) + 3) = (k : Int) + 3 := IntWalk.i64_in _ (by omega)
  have n3 : ((k : Int) + 3).toNat = k + 3 := by omega
  have s1 : IntKind.i64.wrap (u0 % 8 * 262144) = u0 % 8 * 262144 := IntWalk.i64_in _ (by omega)
  have s2 : IntKind.i64.wrap (u1 % 64 * 4096) = u1 % 64 * 4096 := IntWalk.i64_in _ (by omega)
  have s3 : IntKind.i64.wrap (u2 % 64 * 64) = u2 % 64 * 64 := IntWalk.i64_in _ (by omega)
  go_region
  clear w1 n1 w2 n2 w3 n3 s1 s2 s3
  go_wp2
  go_ret2
  refine ⟨?_, _, rfl⟩
  rw [Hr.out]
  refine dec_fin _ _ _ _ ?_ rfl
  have := Hu0.out; have := Hu1.out; have := Hg1.out; have := Hu2.out; have := Hg2.out; have := Hu3.out; have := Hg3.out; omega
set_option maxHeartbeats 400000 in
theorem dec_four_c_no1 (s : ByteArray) (k : Nat) (w : World) (hk : k < s.size) (hs : s.size ≤ 1000000000) (h1 : 240 ≤ s[k].toNat) (h2 : s[k].toNat ≤ 244) (h3 : s[k].toNat ≠ 240) (h4 : s[k].toNat ≠ 244) (hc : Str.inB s (k + 1) 128 191 = false) :
    Calls Tryd.prog 22 #[.string s, .int .i64 k] w fun e w' => e = DecEnd (Str.refDec s k) ∧ ∃ q, w' = w.drewN q := by
  have Hr := kept (Str.refDec_four_no s k hk 128 191 (by omega) (by omega) (by simp [*]) (by simp [*]) (.inl hc))
  have Hc := kept hc
  have hk' : (k : Int) < s.size := by omega
  obtain ⟨u0, hu0⟩ : ∃ u : Int, (s[k].toNat : Int) = u := ⟨_, rfl⟩
  have Hu0 := kept hu0
  have hu00 : 0 ≤ u0 := by omega
  have hu01 : u0 < 256 := by have := s[k].toNat_lt; omega
  have h1' : 240 ≤ u0 := by omega
  have h2' : u0 ≤ 244 := by omega
  have h3' : (u0 == 240) = false := by simp; omega
  have h4' : (u0 == 244) = false := by simp; omega
  have h5' : ¬ u0 = 240 := by omega
  have h6' : ¬ u0 = 244 := by omega
  clear h1 h2 h3 h4 hc
  go_enter Tryd.func22, Tryd.ntmps22
  go_wp2_with fail
  refine (cont_at _ _ _ _ (k + 1) false _ (by omega) (by omega) Hc.out).mono ?_; rintro e w' ⟨rfl, rfl⟩
  go_wp2
  go_ret2
  exact ⟨by rw [Hr.out]; rfl, 0, rfl⟩
set_option maxHeartbeats 400000 in
theorem dec_four_c_no2 (s : ByteArray) (k : Nat) (w : World) (hk : k < s.size) (hs : s.size ≤ 1000000000) (h1 : 240 ≤ s[k].toNat) (h2 : s[k].toNat ≤ 244) (h3 : s[k].toNat ≠ 240) (h4 : s[k].toNat ≠ 244) (hc : Str.inB s (k + 1) 128 191 = true) (hd : Str.inB s (k + 2) 128 191 = false) :
    Calls Tryd.prog 22 #[.string s, .int .i64 k] w fun e w' => e = DecEnd (Str.refDec s k) ∧ ∃ q, w' = w.drewN q := by
  have Hr := kept (Str.refDec_four_no s k hk 128 191 (by omega) (by omega) (by simp [*]) (by simp [*]) (.inr (.inl hd)))
  have Hc := kept hc
  have Hd := kept hd
  have hk' : (k : Int) < s.size := by omega
  obtain ⟨u0, hu0⟩ : ∃ u : Int, (s[k].toNat : Int) = u := ⟨_, rfl⟩
  have Hu0 := kept hu0
  have hu00 : 0 ≤ u0 := by omega
  have hu01 : u0 < 256 := by have := s[k].toNat_lt; omega
  have h1' : 240 ≤ u0 := by omega
  have h2' : u0 ≤ 244 := by omega
  have h3' : (u0 == 240) = false := by simp; omega
  have h4' : (u0 == 244) = false := by simp; omega
  have h5' : ¬ u0 = 240 := by omega
  have h6' : ¬ u0 = 244 := by omega
  clear h1 h2 h3 h4 hc hd
  go_enter Tryd.func22, Tryd.ntmps22
  go_wp2_with fail
  refine (cont_at _ _ _ _ (k + 1) true _ (by omega) (by omega) Hc.out).mono ?_; rintro e w' ⟨rfl, rfl⟩
  go_wp2_with fail
  refine (cont_at _ _ _ _ (k + 2) false _ (by omega) (by omega) Hd.out).mono ?_; rintro e w' ⟨rfl, rfl⟩
  go_wp2
  go_ret2
  exact ⟨by rw [Hr.out]; rfl, 0, rfl⟩
set_option maxHeartbeats 400000 in
theorem dec_four_c_no3 (s : ByteArray) (k : Nat) (w : World) (hk : k < s.size) (hs : s.size ≤ 1000000000) (h1 : 240 ≤ s[k].toNat) (h2 : s[k].toNat ≤ 244) (h3 : s[k].toNat ≠ 240) (h4 : s[k].toNat ≠ 244) (hc : Str.inB s (k + 1) 128 191 = true) (hd : Str.inB s (k + 2) 128 191 = true) (he : Str.inB s (k + 3) 128 191 = false) :
    Calls Tryd.prog 22 #[.string s, .int .i64 k] w fun e w' => e = DecEnd (Str.refDec s k) ∧ ∃ q, w' = w.drewN q := by
  have Hr := kept (Str.refDec_four_no s k hk 128 191 (by omega) (by omega) (by simp [*]) (by simp [*]) (.inr (.inr he)))
  have Hc := kept hc
  have Hd := kept hd
  have He := kept he
  have hk' : (k : Int) < s.size := by omega
  obtain ⟨u0, hu0⟩ : ∃ u : Int, (s[k].toNat : Int) = u := ⟨_, rfl⟩
  have Hu0 := kept hu0
  have hu00 : 0 ≤ u0 := by omega
  have hu01 : u0 < 256 := by have := s[k].toNat_lt; omega
  have h1' : 240 ≤ u0 := by omega
  have h2' : u0 ≤ 244 := by omega
  have h3' : (u0 == 240) = false := by simp; omega
  have h4' : (u0 == 244) = false := by simp; omega
  have h5' : ¬ u0 = 240 := by omega
  have h6' : ¬ u0 = 244 := by omega
  clear h1 h2 h3 h4 hc hd he
  go_enter Tryd.func22, Tryd.ntmps22
  go_wp2_with fail
  refine (cont_at _ _ _ _ (k + 1) true _ (by omega) (by omega) Hc.out).mono ?_; rintro e w' ⟨rfl, rfl⟩
  go_wp2_with fail
  refine (cont_at _ _ _ _ (k + 2) true _ (by omega) (by omega) Hd.out).mono ?_; rintro e w' ⟨rfl, rfl⟩
  go_wp2_with fail
  refine (cont_at _ _ _ _ (k + 3) false _ (by omega) (by omega) He.out).mono ?_; rintro e w' ⟨rfl, rfl⟩
  go_wp2
  go_ret2
  exact ⟨by rw [Hr.out]; rfl, 0, rfl⟩
set_option maxHeartbeats 400000 in
theorem dec_lead1 (s : ByteArray) (k : Nat) (w : World) (hk : k < s.size) (h1 : 128 ≤ s[k].toNat) (h2 : s[k].toNat < 194) :
    Calls Tryd.prog 22 #[.string s, .int .i64 k] w fun e w' => e = DecEnd (Str.refDec s k) ∧ ∃ q, w' = w.drewN q := by
  have Hr := kept (Str.refDec_lead s k hk (.inl ⟨h1, h2⟩))
  have hk' : (k : Int) < s.size := by omega
  obtain ⟨u0, hu0⟩ : ∃ u : Int, (s[k].toNat : Int) = u := ⟨_, rfl⟩
  have Hu0 := kept hu0
  have hu00 : 0 ≤ u0 := by omega
  have hu01 : u0 < 256 := by have := s[k].toNat_lt; omega
  have h1' : 128 ≤ u0 := by omega
  have h2' : u0 < 194 := by omega
  clear h1 h2
  go_enter Tryd.func22, Tryd.ntmps22
  go_wp2
  go_ret2
  exact ⟨by rw [Hr.out]; rfl, 0, rfl⟩
set_option maxHeartbeats 400000 in
theorem dec_lead2 (s : ByteArray) (k : Nat) (w : World) (hk : k < s.size) (h1 : 245 ≤ s[k].toNat) :
    Calls Tryd.prog 22 #[.string s, .int .i64 k] w fun e w' => e = DecEnd (Str.refDec s k) ∧ ∃ q, w' = w.drewN q := by
  have Hr := kept (Str.refDec_lead s k hk (.inr h1))
  have hk' : (k : Int) < s.size := by omega
  obtain ⟨u0, hu0⟩ : ∃ u : Int, (s[k].toNat : Int) = u := ⟨_, rfl⟩
  have Hu0 := kept hu0
  have hu00 : 0 ≤ u0 := by omega
  have hu01 : u0 < 256 := by have := s[k].toNat_lt; omega
  have h1' : 245 ≤ u0 := by omega
  clear h1
  go_enter Tryd.func22, Tryd.ntmps22
  go_wp2
  go_ret2
  exact ⟨by rw [Hr.out]; rfl, 0, rfl⟩
end Go.Proofs.YtiaohbikaofbdaaDoor
