/- StrlitEscapes: the plain law and the walks. -/
import Derived.Test.YtiaohbikaofbdaaDoorStrAwake
namespace Go.Proofs.YtiaohbikaofbdaaDoor
open Go.RowKit
namespace Str
/-- The beginnings of interpolations, and those after a dollar sign (the flag: the byte before is one). -/
def opens : Bool → List UInt8 → Nat × Nat
  | d, b :: l =>
    if b = 36 ∧ l.head? = some 123 then ((opens true l).1 + 1, (opens true l).2 + (if d then 1 else 0)) else opens (decide (b = 36)) l
  | _, [] => (0, 0)
theorem opens_fst (d e : Bool) (l : List UInt8) : (opens d l).1 = (opens e l).1 := by
  cases l with
  | nil => rfl
  | cons b l => unfold opens; split <;> rfl
theorem opens_brace (d : Bool) (l : List UInt8) : opens d (123 :: l) = opens false l := by
  rw [opens, if_neg (by simp)]; rfl
theorem opens_esc : ∀ (d : Bool) (l : List UInt8), (opens d (escape l)).1 = (opens d l).1 ∧ (opens d (escape l)).2 = (opens d l).1 ∧ (escape l).length = l.length + (opens d l).1 ∧ (escape l).head? = l.head?
  | _, [] => by simp [escape, opens]
  | d, b :: l => by
    have ih := fun d => opens_esc d l
    rw [escape_step]
    by_cases h : b = 36 ∧ l.head? = some 123
    · rw [if_pos h]
      obtain ⟨rfl, h2⟩ := h
      cases l with
      | nil => simp at h2
      | cons c t =>
        obtain rfl : c = 123 := by simpa using h2
        have ht := fun d => opens_esc d t
        have e1 : escape (123 :: t) = 123 :: escape t := by rw [escape_step, if_neg (by simp)]; rfl
        have e2 : opens d (36 :: 123 :: t) = ((opens true (123 :: t)).1 + 1, (opens true (123 :: t)).2 + (if d then 1 else 0)) := by rw [opens, if_pos (by simp)]
        have e3 : opens d (36 :: 36 :: 123 :: escape t) = ((opens true (123 :: escape t)).1 + 1, (opens true (123 :: escape t)).2 + 1) := by
          rw [opens, if_neg (by simp), opens, if_pos (by simp)]; simp
        rw [e1, e2]
        show (opens d (36 :: 36 :: 123 :: escape t)).1 = _ ∧ (opens d (36 :: 36 :: 123 :: escape t)).2 = _ ∧ (36 :: 36 :: 123 :: escape t).length = _ ∧ _
        rw [e3, opens_brace, opens_brace]
        obtain ⟨h3, h4, h5, _⟩ := ht false
        refine ⟨by simp only; omega, by simp only; omega, ?_, rfl⟩
        simp only [List.length_cons]; omega
    · rw [if_neg h]
      obtain ⟨h3, h4, h5, h6⟩ := ih (decide (b = 36))
      have h' : ¬ (b = 36 ∧ (escape l).head? = some 123) := by rw [h6]; exact h
      have e1 : opens d (b :: l) = opens (decide (b = 36)) l := by rw [opens, if_neg h]
      have e2 : opens d (b :: escape l) = opens (decide (b = 36)) (escape l) := by rw [opens, if_neg h']
      rw [e1]
      show (opens d (b :: escape l)).1 = _ ∧ (opens d (b :: escape l)).2 = _ ∧ (b :: escape l).length = _ ∧ _
      rw [e2]
      refine ⟨h3, h4, ?_, rfl⟩
      simp only [List.length_cons]; omega
theorem opens_short (d : Bool) (l : List UInt8) (h : l.length ≤ 1) : opens d l = (0, 0) := by
  match l, h with
  | [], _ => rfl
  | [b], _ => rw [opens, if_neg (by simp)]; rfl
  | _ :: _ :: _, h => simp at h
end Str
def fl (s : ByteArray) (k : Nat) : Bool := decide (0 < k ∧ s.data.toList.getD (k - 1) 0 = 36)
theorem fl_succ (s : ByteArray) (k : Nat) (h : k < s.size) : fl s (k + 1) = decide (s[k] = 36) := by
  have : s.data.toList.getD k 0 = s[k] := by simp [h]; rfl
  unfold fl
  simp only [Nat.add_sub_cancel, this]
  simp
set_option maxHeartbeats 1000000 in
theorem opens_any (s : ByteArray) (w : World) (hs : s.size ≤ 1000000) :
    Calls Tryd.prog 20 #[.string s] w fun e w' => e = .returned (.tuple #[.int .i64 (Str.opens false s.data.toList).1, .int .i64 (Str.opens false s.data.toList).2]) ∧ Below w.heap.size w w' := by
  obtain ⟨⟨A, B⟩, hU⟩ : ∃ U, Str.opens false s.data.toList = U := ⟨_, rfl⟩
  rw [hU]
  show Calls Tryd.prog 20 #[.string s] w fun e w' => e = .returned (.tuple #[.int .i64 A, .int .i64 B]) ∧ Below w.heap.size w w'
  have HU := kept hU; clear hU
  go_enter Tryd.func20, Tryd.ntmps20
  go_wp2
  go_loopw [4, 5, 6] (fun nv av iv wr => Below w.heap.size w wr ∧ ∃ (k n a : Nat), k ≤ s.size ∧ n ≤ k ∧ a ≤ k ∧ iv = .int .i64 k ∧ nv = .int .i64 n ∧ av = .int .i64 a ∧ n + (Str.opens (fl s k) (s.data.toList.drop k)).1 = A ∧ a + (Str.opens (fl s k) (s.data.toList.drop k)).2 = B) (fun _ _ iv _ => s.size - (intOf iv).toNat)
  case atStart => exact ⟨Below.refl _ _, 0, 0, 0, by omega, by omega, by omega, rfl, rfl, rfl, by rw [Nat.zero_add]; exact congrArg Prod.fst HU.out, by rw [Nat.zero_add]; exact congrArg Prod.snd HU.out⟩
  case round =>
    obtain ⟨hbel, k, n, a, hk, hn, ha, rfl, rfl, rfl, hA, hB⟩ := hrel
    have Hl := kept hbel; clear hbel HU
    by_cases hlt : k + 1 < s.size
    · have hlt' : (k : Int) + 1 < s.size := by omega
      have hk0 : k < s.size := by omega
      have hd : s.data.toList.drop k = s[k] :: s[k + 1] :: s.data.toList.drop (k + 2) := by rw [drop_cons s k hk0, drop_cons s (k + 1) hlt]
      have hd1 : s.data.toList.drop (k + 1) = s[k + 1] :: s.data.toList.drop (k + 2) := drop_cons s (k + 1) hlt
      have hf := fl_succ s k hk0
      rw [hd, Str.opens, ← hd1, hd1, List.head?_cons, ← hd1, ← hf] at hA hB
      have hA' := hA; have hB' := hB
      by_cases h36 : s[k] = 36
      · have hu : (s[k].toNat : Int) = 36 := by rw [h36]; rfl
        have hft : fl s (k + 1) = true := by rw [hf]; simpa using h36
        by_cases h123 : s[k + 1] = 123
        · have hv : (s[k + 1].toNat : Int) = 123 := by rw [h123]; rfl
          rw [if_pos ⟨h36, by rw [h123]⟩] at hA' hB'
          by_cases hp : 0 < k
          · have hp' : (0 : Int) < k := by omega
            have hp2 : k - 1 < s.size := by omega
            have hgp : s.data.toList.getD (k - 1) 0 = s[k - 1] := by simp [hp2]; rfl
            by_cases hq : s[k - 1] = 36
            · have hz : (s[k - 1].toNat : Int) = 36 := by rw [hq]; rfl
              have hfk : fl s k = true := by unfold fl; rw [hgp, hq]; simpa using hp
              rw [hfk] at hA' hB'
              have HA := kept (show n + 1 + (Str.opens (fl s (k + 1)) (s.data.toList.drop (k + 1))).1 = A by rw [hft]; simp only at hA'; omega)
              have HB := kept (show a + 1 + (Str.opens (fl s (k + 1)) (s.data.toList.drop (k + 1))).2 = B by rw [hft]; simp only [if_true] at hB'; omega)
              clear hA hB hA' hB' hd hd1 hf hft hfk hgp h36 h123 hq
              go_wp2
              go_roundw
              case rel => exact ⟨Hl.out, k + 1, n + 1, a + 1, by omega, by omega, by omega, by go_num, by go_num, by go_num, HA.out, HB.out⟩
              case measure => simp [intOf]; omega
            · have hz := byte_ne s[k - 1] 36 (by decide) hq
              have hfk : fl s k = false := by unfold fl; rw [hgp]; simpa using fun _ => hq
              rw [hfk] at hA' hB'
              have HA := kept (show n + 1 + (Str.opens (fl s (k + 1)) (s.data.toList.drop (k + 1))).1 = A by rw [hft]; simp only at hA'; omega)
              have HB := kept (show a + (Str.opens (fl s (k + 1)) (s.data.toList.drop (k + 1))).2 = B by rw [hft]; simpa using hB')
              clear hA hB hA' hB' hd hd1 hf hft hfk hgp h36 h123 hq
              go_wp2
              go_roundw
              case rel => exact ⟨Hl.out, k + 1, n + 1, a, by omega, by omega, by omega, by go_num, by go_num, rfl, HA.out, HB.out⟩
              case measure => simp [intOf]; omega
          · have hp' : ¬ (0 : Int) < k := by omega
            have hfk : fl s k = false := by unfold fl; simpa using fun h => absurd h hp
            rw [hfk] at hA' hB'
            have HA := kept (show n + 1 + (Str.opens (fl s (k + 1)) (s.data.toList.drop (k + 1))).1 = A by rw [hft]; simp only at hA'; omega)
            have HB := kept (show a + (Str.opens (fl s (k + 1)) (s.data.toList.drop (k + 1))).2 = B by rw [hft]; simpa using hB')
            clear hA hB hA' hB' hd hd1 hf hft hfk h36 h123
            go_wp2
            go_roundw
            case rel => exact ⟨Hl.out, k + 1, n + 1, a, by omega, by omega, by omega, by go_num, by go_num, rfl, HA.out, HB.out⟩
            case measure => simp [intOf]; omega
        · have hv := byte_ne s[k + 1] 123 (by decide) h123
          rw [if_neg (fun h => h123 (Option.some.inj h.2))] at hA' hB'
          have HA := kept hA'; have HB := kept hB'
          clear hA hB hA' hB' hd hd1 hf hft h36 h123
          go_wp2
          go_roundw
          case rel => exact ⟨Hl.out, k + 1, n, a, by omega, by omega, by omega, by go_num, rfl, rfl, HA.out, HB.out⟩
          case measure => simp [intOf]; omega
      · have hu := byte_ne s[k] 36 (by decide) h36
        rw [if_neg (fun h => h36 h.1)] at hA' hB'
        have HA := kept hA'; have HB := kept hB'
        clear hA hB hA' hB' hd hd1 hf h36
        go_wp2
        go_roundw
        case rel => exact ⟨Hl.out, k + 1, n, a, by omega, by omega, by omega, by go_num, rfl, rfl, HA.out, HB.out⟩
        case measure => simp [intOf]; omega
    · have hlt' : ¬ (k : Int) + 1 < s.size := by omega
      rw [Str.opens_short _ _ (by simp; omega)] at hA hB
      obtain rfl : n = A := hA
      obtain rfl : a = B := hB
      go_wp2
      refine bodyPost_ret (v := .tuple #[.int .i64 n, .int .i64 a]) (by simp [results, Tryd.results20, go_sem]) rfl ⟨rfl, Hl.out⟩
theorem opens_len : ∀ (d : Bool) (l : List UInt8), (Str.opens d l).1 ≤ l.length
  | _, [] => by simp [Str.opens]
  | d, b :: l => by
    have h1 := opens_len true l
    have h2 := opens_len (decide (b = 36)) l
    rw [Str.opens]
    split
    · simp only [List.length_cons]; omega
    · simp only [List.length_cons]; omega
set_option maxHeartbeats 1000000 in
theorem escapes_any (s : ByteArray) (w : World) (g : Glob w) :
    Calls Tryd.prog 7 #[.string s] w fun e w' => e = .returned (.bool true) ∧ Below w.heap.size w w' := by
  have G := kept g; clear g
  by_cases h5 : s.size ≤ 5000
  · have h5' : ¬ (5000 : Int) < s.size := by omega
    obtain ⟨h1, h2, h3, _⟩ := Str.opens_esc false s.data.toList
    have h4 := opens_len false s.data.toList
    have H1 := kept (fun W => opens_any s W (by omega))
    have H2 := kept (fun W gW => escape_any s W (by omega) gW)
    have ht : (⟨(Str.escape s.data.toList).toArray⟩ : ByteArray).size = (Str.escape s.data.toList).length := size_mk _
    have hsl : s.data.toList.length = s.size := by simp
    have H3 := kept (fun W => opens_any ⟨(Str.escape s.data.toList).toArray⟩ W (by rw [ht, h3]; omega))
    have e0 : (⟨(Str.escape s.data.toList).toArray⟩ : ByteArray).data.toList = Str.escape s.data.toList := rfl
    rw [e0, h1, h2] at H3
    obtain ⟨N, hN⟩ : ∃ N, (Str.opens false s.data.toList).1 = N := ⟨_, rfl⟩
    rw [hN] at H1 H3 h3 h4
    obtain ⟨t, hq⟩ : ∃ t : ByteArray, (⟨(Str.escape s.data.toList).toArray⟩ : ByteArray) = t := ⟨_, rfl⟩
    rw [hq] at H2 H3 ht
    have hbe : ((t.size : Int) == s.size + N) = true := by rw [ht, h3, hsl]; simp
    have hNle : N ≤ 5000 := by omega
    clear h1 h2 h3 h4 ht hsl e0 hN hq
    go_enter Tryd.func7, Tryd.ntmps7
    go_wp2_with fail
    refine (H1.out _).mono ?_; rintro e w1 ⟨rfl, b1⟩
    have B1 := kept b1; clear b1
    go_wp2_with fail
    refine (H2.out _ (G.out.below B1.out)).mono ?_; rintro e w2 ⟨rfl, b2⟩
    have B2 := kept (bthen B1.out b2); clear b2
    go_wp2_with fail
    refine (H3.out _).mono ?_; rintro e w3 ⟨rfl, b3⟩
    have B3 := kept (bthen B2.out b3); clear b3
    go_wp2_with fail
    refine (H2.out _ (G.out.below B3.out)).mono ?_; rintro e w4 ⟨rfl, b4⟩
    have B4 := kept (bthen B3.out b4); clear b4
    go_wp2_with fail
    refine (awake_any _ (G.out.below B4.out)).mono ?_; rintro e w5 ⟨rfl, b5⟩
    have B5 := kept (bthen B4.out b5); clear b5
    go_wp2
    go_ret
    exact ⟨rfl, B5.out⟩
  · have h5' : (5000 : Int) < s.size := by omega
    go_enter Tryd.func7, Tryd.ntmps7
    go_wp2_with fail
    refine (awake_any _ G.out).mono ?_; rintro e w1 ⟨rfl, b1⟩
    have B1 := kept b1; clear b1
    go_wp2
    go_ret
    exact ⟨rfl, B1.out⟩
end Go.Proofs.YtiaohbikaofbdaaDoor
