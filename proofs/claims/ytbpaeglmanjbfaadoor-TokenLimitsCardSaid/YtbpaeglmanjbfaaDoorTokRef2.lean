/- The walks of provisionref13: tail, Width, Sign. -/
import Derived.Test.YtbpaeglmanjbfaaDoorTokRef1
namespace Go.Proofs.YtbpaeglmanjbfaaDoor
open Go.RowKit
set_option linter.unusedSimpArgs false
set_option linter.unusedVariables false
namespace Tok
/-- n bytes from index a on are continuation bytes. -/
def tailB (s : ByteArray) : Nat → Nat → Bool
  | _, 0 => true
  | a, n + 1 => Str.inB s a 128 191 && tailB s (a + 1) n
theorem tailB_out (s : ByteArray) : ∀ (n a : Nat), s.size < a + n → 0 < n → tailB s a n = false
  | 0, _, _, h => by omega
  | n + 1, a, h, _ => by
    unfold tailB
    by_cases hn : n = 0
    · subst hn
      have : Str.inB s a 128 191 = false := by
        unfold Str.inB
        rw [decide_eq_false_iff_not]
        rintro ⟨h1, _⟩; omega
      rw [this]; rfl
    · rw [tailB_out s n (a + 1) (by omega) (by omega), Bool.and_false]
theorem tailB_step (s : ByteArray) (a n : Nat) (h : a < s.size) (h1 : 128 ≤ (s[a].toNat : Int)) (h2 : (s[a].toNat : Int) ≤ 191) : tailB s a (n + 1) = tailB s (a + 1) n := by
  have : Str.inB s a 128 191 = true := by unfold Str.inB; rw [decide_eq_true_eq]; exact ⟨h, h1, h2⟩
  show (Str.inB s a 128 191 && tailB s (a + 1) n) = _
  rw [this, Bool.true_and]
theorem tailB_no (s : ByteArray) (a n : Nat) (h : a < s.size) (h1 : (s[a].toNat : Int) < 128 ∨ 191 < (s[a].toNat : Int)) : tailB s a (n + 1) = false := by
  have : Str.inB s a 128 191 = false := by
    unfold Str.inB
    rw [decide_eq_false_iff_not]
    rintro ⟨_, h3, h4⟩; omega
  show (Str.inB s a 128 191 && tailB s (a + 1) n) = _
  rw [this, Bool.false_and]
end Tok
set_option maxHeartbeats 400000 in
theorem refTail_any (s : ByteArray) (a n : Nat) (t : Int) (w : World) (hs : s.size ≤ 1000000) (ha : a ≤ s.size) (hn : 0 < n) (ht : t = a + n) (hn2 : n ≤ 4) :
    Calls Tryd.prog 79 #[.string s, .int .i64 a, .int .i64 t] w fun e w' => e = .returned (.bool (Tok.tailB s a n)) ∧ w = w' := by
  obtain ⟨r, hr⟩ : ∃ r, r = Tok.tailB s a n := ⟨_, rfl⟩
  rw [← hr]
  have Hr := kept hr
  have Ht := kept ht
  have ht0 : 0 ≤ t := by omega
  have ht1 : t < 2000000 := by omega
  clear hr
  by_cases hout : s.size < a + n
  · have Hf := kept (Hr.out.trans (Tok.tailB_out s n a hout hn))
    have hout' : (s.size : Int) < t := by omega
    clear ht
    go_enter Tryd.func79, Tryd.ntmps79
    go_wp2
    go_ret
    exact ⟨ret_bool Hf.out.symm, rfl⟩
  · have hout' : ¬ (s.size : Int) < t := by omega
    clear ht
    go_enter Tryd.func79, Tryd.ntmps79
    go_wp2
    go_loop [7] (fun i => ∃ j m : Nat, j + m = a + n ∧ i = .int .i64 j ∧ r = Tok.tailB s j m) (fun i => a + n - (intOf i).toNat)
    case atStart => exact ⟨a, n, rfl, rfl, Hr.out⟩
    case round =>
      obtain ⟨j, m, hjm, rfl, hrj⟩ := hrel
      have Hj := kept hrj
      clear hrj
      by_cases hm : m = 0
      · subst hm
        have hjt : ¬ (j : Int) < t := by have := Ht.out; omega
        go_wp2
        go_ret
        exact ⟨ret_bool Hj.out.symm, rfl⟩
      · obtain ⟨m, rfl⟩ : ∃ m', m = m' + 1 := ⟨m - 1, by omega⟩
        have hjt : (j : Int) < t := by have := Ht.out; omega
        have hlt : j < s.size := by omega
        have hlt' : (j : Int) < s.size := by omega
        have Hst := kept (Tok.tailB_step s j m hlt)
        have Hno := kept (Tok.tailB_no s j m hlt)
        obtain ⟨u, hu, h0, h1⟩ := byte_int s[j]
        rw [hu] at Hst Hno
        go_wp2
        all_goals first
          | (have Hn := kept (Hj.out.trans (Hno.out (by omega)))
             go_ret
             exact ⟨ret_bool Hn.out.symm, rfl⟩)
          | exact ⟨⟨j + 1, m, by omega, by go_num, Hj.out.trans (Hst.out (by omega) (by omega))⟩, by simp [intOf]; omega⟩

namespace Tok
theorem tail1 (s : ByteArray) (k : Nat) : tailB s (k + 1) 1 = Str.inB s (k + 1) 128 191 := by simp [tailB]
theorem tail2 (s : ByteArray) (k : Nat) : tailB s (k + 1) 2 = (Str.inB s (k + 1) 128 191 && Str.inB s (k + 2) 128 191) := by simp [tailB]
theorem tail3 (s : ByteArray) (k : Nat) : tailB s (k + 1) 3 = (Str.inB s (k + 1) 128 191 && (Str.inB s (k + 2) 128 191 && Str.inB s (k + 3) 128 191)) := by simp [tailB]
def widthN (s : ByteArray) (k : Nat) : Nat := (Str.refDec s k).2
theorem inB_sub {s : ByteArray} {k : Nat} {lo hi : Int} (h : Str.inB s k lo hi = true) (hl : 128 ≤ lo) (hh : hi ≤ 191) : Str.inB s k 128 191 = true := by
  unfold Str.inB at *
  rw [decide_eq_true_eq] at *
  obtain ⟨h1, h2, h3⟩ := h
  exact ⟨h1, by omega, by omega⟩
theorem inB_lt {s : ByteArray} {k : Nat} {lo hi : Int} (h : Str.inB s k lo hi = true) : k < s.size := (Str.inB_true h).1
theorem inB_mk {s : ByteArray} {k : Nat} {lo hi : Int} (h : k < s.size) (h1 : lo ≤ (s[k].toNat : Int)) (h2 : (s[k].toNat : Int) ≤ hi) : Str.inB s k lo hi = true := by
  unfold Str.inB; rw [decide_eq_true_eq]; exact ⟨h, h1, h2⟩
theorem inB_no {s : ByteArray} {k : Nat} {lo hi : Int} (h : k < s.size) (h1 : ¬ (lo ≤ (s[k].toNat : Int) ∧ (s[k].toNat : Int) ≤ hi)) : Str.inB s k lo hi = false := by
  unfold Str.inB; rw [decide_eq_false_iff_not]; rintro ⟨_, h2, h3⟩; exact h1 ⟨h2, h3⟩
section
variable (s : ByteArray) (k : Nat) (hk : k < s.size)
include hk
theorem width_1 (h : (s[k].toNat : Int) < 128) : widthN s k = 1 := by unfold widthN; rw [Str.refDec_ascii s k hk (by omega)]
theorem width_0 (h : (128 ≤ (s[k].toNat : Int) ∧ (s[k].toNat : Int) < 194) ∨ 245 ≤ (s[k].toNat : Int)) : widthN s k = 0 := by unfold widthN; rw [Str.refDec_lead s k hk (by omega)]
theorem width_2 (h1 : 194 ≤ (s[k].toNat : Int)) (h2 : (s[k].toNat : Int) ≤ 223) : widthN s k = if tailB s (k + 1) 1 then 2 else 0 := by
  unfold widthN
  rw [tail1]
  cases hc : Str.inB s (k + 1) 128 191
  · rw [Str.refDec_two_no s k hk (by omega) (by omega) hc]; rfl
  · rw [Str.refDec_two s k hk (by omega) (by omega) hc]; rfl
theorem width_3n (h1 : 224 ≤ (s[k].toNat : Int)) (h2 : (s[k].toNat : Int) ≤ 239) (ht : tailB s (k + 1) 2 = false) : widthN s k = 0 := by
  unfold widthN
  rw [Str.refDec_three_no s k hk _ _ (by omega) (by omega) rfl rfl ?_]
  rw [tail2, Bool.and_eq_false_iff] at ht
  rcases ht with h | h
  · left
    cases hc : Str.inB s (k + 1) (if s[k].toNat = 224 then 160 else 128) (if s[k].toNat = 237 then 159 else 191)
    · rfl
    · rw [inB_sub hc (by split <;> omega) (by split <;> omega)] at h; exact absurd h (by decide)
  · exact .inr h
theorem width_3 (h1 : 224 ≤ (s[k].toNat : Int)) (h2 : (s[k].toNat : Int) ≤ 239) (ht : tailB s (k + 1) 2 = true) :
    ∃ hk1 : k + 1 < s.size, widthN s k = if ((s[k].toNat : Int) = 224 ∧ (s[k + 1].toNat : Int) < 160) ∨ ((s[k].toNat : Int) = 237 ∧ 159 < (s[k + 1].toNat : Int)) then 0 else 3 := by
  rw [tail2, Bool.and_eq_true] at ht
  have hb := Str.inB_true ht.1
  refine ⟨hb.1, ?_⟩
  rw [Str.get_lt s (k + 1) hb.1] at hb
  unfold widthN
  split
  next hc =>
    rw [Str.refDec_three_no s k hk _ _ (by omega) (by omega) rfl rfl (.inl (inB_no hb.1 (by split <;> split <;> omega)))]
  next hc =>
    rw [Str.refDec_three s k hk _ _ (by omega) (by omega) rfl rfl (inB_mk hb.1 (by split <;> omega) (by split <;> omega)) ht.2]
theorem width_4n (h1 : 240 ≤ (s[k].toNat : Int)) (h2 : (s[k].toNat : Int) ≤ 244) (ht : tailB s (k + 1) 3 = false) : widthN s k = 0 := by
  unfold widthN
  rw [Str.refDec_four_no s k hk _ _ (by omega) (by omega) rfl rfl ?_]
  rw [tail3, Bool.and_eq_false_iff, Bool.and_eq_false_iff] at ht
  rcases ht with h | h
  · left
    cases hc : Str.inB s (k + 1) (if s[k].toNat = 240 then 144 else 128) (if s[k].toNat = 244 then 143 else 191)
    · rfl
    · rw [inB_sub hc (by split <;> omega) (by split <;> omega)] at h; exact absurd h (by decide)
  · exact .inr h
theorem width_4 (h1 : 240 ≤ (s[k].toNat : Int)) (h2 : (s[k].toNat : Int) ≤ 244) (ht : tailB s (k + 1) 3 = true) :
    ∃ hk1 : k + 1 < s.size, widthN s k = if ((s[k].toNat : Int) = 240 ∧ (s[k + 1].toNat : Int) < 144) ∨ ((s[k].toNat : Int) = 244 ∧ 143 < (s[k + 1].toNat : Int)) then 0 else 4 := by
  rw [tail3, Bool.and_eq_true, Bool.and_eq_true] at ht
  have hb := Str.inB_true ht.1
  refine ⟨hb.1, ?_⟩
  rw [Str.get_lt s (k + 1) hb.1] at hb
  unfold widthN
  split
  next hc =>
    rw [Str.refDec_four_no s k hk _ _ (by omega) (by omega) rfl rfl (.inl (inB_no hb.1 (by split <;> split <;> omega)))]
  next hc =>
    rw [Str.refDec_four s k hk _ _ (by omega) (by omega) rfl rfl (inB_mk hb.1 (by split <;> omega) (by split <;> omega)) ht.2.1 ht.2.2]
end
end Tok

set_option maxHeartbeats 800000 in
theorem refWidth_any (s : ByteArray) (k : Nat) (w : World) (hs : s.size ≤ 1000000) (hk : k < s.size) :
    Calls Tryd.prog 70 #[.string s, .int .i64 k] w fun e w' => e = .returned (.int .i64 (Tok.widthN s k)) ∧ w = w' := by
  have W1 := kept (Tok.width_1 s k hk); have W0 := kept (Tok.width_0 s k hk); have W2 := kept (Tok.width_2 s k hk)
  have W3n := kept (Tok.width_3n s k hk); have W3 := kept (Tok.width_3 s k hk); have W4n := kept (Tok.width_4n s k hk); have W4 := kept (Tok.width_4 s k hk)
  have T1 := kept (fun w => refTail_any s (k + 1) 1 ((k : Int) + 2) w hs (by omega) (by omega) (by omega) (by omega))
  have T2 := kept (fun w => refTail_any s (k + 1) 2 ((k : Int) + 3) w hs (by omega) (by omega) (by omega) (by omega))
  have T3 := kept (fun w => refTail_any s (k + 1) 3 ((k : Int) + 4) w hs (by omega) (by omega) (by omega) (by omega))
  rw [show ((k + 1 : Nat) : Int) = (k : Int) + 1 by omega] at T1 T2 T3
  obtain ⟨m, hm⟩ : ∃ m, Tok.widthN s k = m := ⟨_, rfl⟩
  rw [hm] at W1 W0 W2 W3n W3 W4n W4 ⊢
  obtain ⟨u, hu, h0, h1⟩ := byte_int s[k]
  rw [hu] at W1 W0 W2 W3n W3 W4n W4
  have hlt' : (k : Int) < s.size := by omega
  clear hm
  by_cases c1 : u < 128
  · have Hn := kept (W1.out c1)
    go_enter Tryd.func70, Tryd.ntmps70
    go_wp2
    go_ret
    exact ⟨ret_nat Hn.out.symm, rfl⟩
  by_cases c2 : u < 194
  · have Hn := kept (W0.out (by omega))
    go_enter Tryd.func70, Tryd.ntmps70
    go_wp2
    go_ret
    exact ⟨ret_nat Hn.out.symm, rfl⟩
  by_cases c3 : u ≤ 223
  · have Hn := kept (W2.out (by omega) c3)
    rcases bool_or (Tok.tailB s (k + 1) 1) with ht | ht
    all_goals
      rw [ht] at Hn T1
      clear ht
      go_enter Tryd.func70, Tryd.ntmps70
      go_wp2_with fail
      (with_reducible refine (T1.out _).mono ?_); rintro e w1 ⟨rfl, rfl⟩
      go_wp2
      go_ret
      exact ⟨ret_int (by rw [Hn.out]; rfl), rfl⟩
  by_cases c4 : u ≤ 239
  · rcases bool_or (Tok.tailB s (k + 1) 2) with ht | ht
    · obtain ⟨hk1, hn⟩ := W3.out (by omega) c4 ht
      have hk1' : (k : Int) + 1 < s.size := by omega
      have Hn := kept hn
      rw [ht] at T2
      obtain ⟨v, hv, h2, h3⟩ := byte_int s[k + 1]
      rw [hv] at Hn
      clear ht hn
      go_enter Tryd.func70, Tryd.ntmps70
      go_wp2_with fail
      (with_reducible refine (T2.out _).mono ?_); rintro e w1 ⟨rfl, rfl⟩
      go_wp2
      all_goals (try simp only [beq_iff_eq, beq_eq_false_iff_ne, ne_eq, Bool.not_eq_true', Bool.not_eq_false', decide_eq_true_eq, decide_eq_false_iff_not] at *)
      all_goals go_ret
      all_goals (refine ⟨ret_int ?_, rfl⟩; have hn := Hn.out; split at hn <;> omega)
    · have Hn := kept (W3n.out (by omega) c4 ht)
      rw [ht] at T2
      clear ht
      go_enter Tryd.func70, Tryd.ntmps70
      go_wp2_with fail
      (with_reducible refine (T2.out _).mono ?_); rintro e w1 ⟨rfl, rfl⟩
      go_wp2
      go_ret
      exact ⟨ret_nat Hn.out.symm, rfl⟩
  by_cases c5 : u ≤ 244
  · rcases bool_or (Tok.tailB s (k + 1) 3) with ht | ht
    · obtain ⟨hk1, hn⟩ := W4.out (by omega) c5 ht
      have hk1' : (k : Int) + 1 < s.size := by omega
      have Hn := kept hn
      rw [ht] at T3
      obtain ⟨v, hv, h2, h3⟩ := byte_int s[k + 1]
      rw [hv] at Hn
      clear ht hn
      go_enter Tryd.func70, Tryd.ntmps70
      go_wp2_with fail
      (with_reducible refine (T3.out _).mono ?_); rintro e w1 ⟨rfl, rfl⟩
      go_wp2
      all_goals (try simp only [beq_iff_eq, beq_eq_false_iff_ne, ne_eq, Bool.not_eq_true', Bool.not_eq_false', decide_eq_true_eq, decide_eq_false_iff_not] at *)
      all_goals go_ret
      all_goals (refine ⟨ret_int ?_, rfl⟩; have hn := Hn.out; split at hn <;> omega)
    · have Hn := kept (W4n.out (by omega) c5 ht)
      rw [ht] at T3
      clear ht
      go_enter Tryd.func70, Tryd.ntmps70
      go_wp2_with fail
      (with_reducible refine (T3.out _).mono ?_); rintro e w1 ⟨rfl, rfl⟩
      go_wp2
      go_ret
      exact ⟨ret_nat Hn.out.symm, rfl⟩
  have Hn := kept (W0.out (by omega))
  go_enter Tryd.func70, Tryd.ntmps70
  go_wp2
  go_ret
  exact ⟨ret_nat Hn.out.symm, rfl⟩
end Go.Proofs.YtbpaeglmanjbfaaDoor
