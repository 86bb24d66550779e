/- The reading functions of token, tied to one another. -/
import Derived.Test.YtbpaeglmanjbfaaDoorTokProg10
namespace Go.Proofs.YtbpaeglmanjbfaaDoor
open Go.RowKit
set_option linter.unusedSimpArgs false
set_option linter.unusedVariables false
namespace Tok
def innE : Nat → List UInt8 → R
  | 0 => fun _ => .err 4 0
  | D + 1 => innD D
theorem src_innE (D : Nat) (l : List UInt8) : src D l = srcW (innE D) (l.length + 1) l := by cases D <;> rfl
theorem innE_fit (D : Nat) (s : ByteArray) (j n : Nat) (hj : j < s.size) (h : innE D (s.data.toList.drop j) = .ok n) : 1 ≤ n ∧ j + n ≤ s.size := by
  cases D with
  | zero => simp [innE] at h
  | succ D => exact innD_fit D s j n hj h
theorem one_begins' (D : Nat) (s : ByteArray) (k : Nat) (hk : k < s.size) (hb : beginsB (s.data.toList.drop k) = false) : oneW (src D) (s.data.toList.drop k) = .err 2 0 := one_begins D s k hk hb
end Tok
set_option maxRecDepth 100000 in
set_option maxHeartbeats 1000000 in
theorem interp_deep (s : ByteArray) (b : Nat) (o kd p : Int) (k : Nat) (w : World) (h : Sc w b s k o kd p) :
    Calls Tryd.prog 67 #[.pointer (some ⟨b, 0, none⟩), .int .i64 32] w (BoolEnd s b k o kd p o (.err 4 0) w) := by
  obtain ⟨c0, c1, c2, c3, c4, c5⟩ := h.facts
  have H := kept h
  clear h
  go_enter Tryd.func67, Tryd.ntmps67
  go_wp2_with fail
  (with_reducible refine (fail_any _ _ _ _ _ _ _ _ _ H.out).mono ?_); rintro e w5 ⟨rfl, s5, g5⟩
  have S5 := kept s5; have G5 := kept g5; clear s5 g5 c0 c1 c2 c3 c4 c5
  go_wp2
  go_ret
  exact ⟨rfl, G5.out, _, _, S5.out⟩
/-- Which offset a string that does not end is reported at. -/
def Quo (o q : Int) (k : Nat) : Prop := (o = -1 ∧ q = k) ∨ (0 ≤ o ∧ q = o)
theorem token_step (s : ByteArray) (hs : s.size ≤ 1000000) (b : Nat) (hb : 2 < b) (kd p : Int) (D d : Nat)
    (hi : ∀ (q : Int) (j : Nat) (w : World), 0 ≤ q → j < s.size → (s.data.toList.drop j).take 2 = [36, 123] → Sc w b s j q kd p → Lib.Utf8Tabs 1 2 w → Calls Tryd.prog 67 #[.pointer (some ⟨b, 0, none⟩), .int .i64 d] w (BoolEnd s b j q kd p q (Tok.innE D (s.data.toList.drop j)) w))
    (o q : Int) (k : Nat) (w : World) (hq : Quo o q k) (hk : k < s.size) (h : Sc w b s k o kd p) (hT : Lib.Utf8Tabs 1 2 w) (hbg : Tok.beginsB (s.data.toList.drop k) = true) :
    Calls Tryd.prog 27 #[.pointer (some ⟨b, 0, none⟩), .int .i64 d] w (TokEnd s b k o kd p q (Tok.oneW (Tok.src D) (s.data.toList.drop k)) w) := by
  refine token_of (Tok.src D) d s hs b hb o kd p q k hk w h hT hbg (fun h34 w h hT => ?_) (fun n hn => Tok.src_fit s D (k + 1) n hn)
  rw [Tok.src_innE]
  have hlen : (s.data.toList.drop (k + 1)).length = s.size - (k + 1) := by rw [List.length_drop]; simp
  rcases hq with ⟨rfl, rfl⟩ | ⟨ho, rfl⟩
  · exact source_out (Tok.innE D) d s hs b hb k kd p (by omega) (fun j w hj ht hS hT => hi k j w (by omega) hj ht hS hT) (fun j n hj hn => Tok.innE_fit D s j n hj hn) k _ hk (by omega) w h hT rfl
  · exact source_in (Tok.innE D) d s hs b hb q kd p ho (fun j w hj ht hS hT => hi q j w ho hj ht hS hT) (fun j n hj hn => Tok.innE_fit D s j n hj hn) k _ hk (by omega) w h hT
theorem interp_any (s : ByteArray) (hs : s.size ≤ 1000000) (b : Nat) (hb : 2 < b) (kd p : Int) : ∀ (D d : Nat), d + D = 32 →
    ∀ (q : Int) (j : Nat) (w : World), 0 ≤ q → j < s.size → (s.data.toList.drop j).take 2 = [36, 123] → Sc w b s j q kd p → Lib.Utf8Tabs 1 2 w → Calls Tryd.prog 67 #[.pointer (some ⟨b, 0, none⟩), .int .i64 d] w (BoolEnd s b j q kd p q (Tok.innE D (s.data.toList.drop j)) w)
  | 0, d, hd, q, j, w, hq, hj, ht, hS, hT => by
    obtain rfl : d = 32 := by omega
    exact interp_deep s b q kd p j w hS
  | D + 1, d, hd, q, j, w, hq, hj, ht, hS, hT => by
    have ih := interp_any s hs b hb kd p D (d + 1) (by omega)
    have hk2 : j + 2 ≤ s.size := by
      have := congrArg List.length ht
      rw [List.length_take, List.length_drop, show s.data.toList.length = s.size by simp, show ([36, 123] : List UInt8).length = 2 from rfl] at this; omega
    have hlen : (s.data.toList.drop j).length = s.size - j := by rw [List.length_drop]; simp
    have key := interp_of (Tok.oneW (Tok.src D)) d s hs b hb q kd p hq (by omega)
      (fun j w hj hbg hS hT => by
        have := token_step s hs b hb kd p D (d + 1) ih q q j w (.inr ⟨hq, rfl⟩) hj hS hT hbg
        rwa [show ((d + 1 : Nat) : Int) = (d : Int) + 1 by omega] at this)
      (fun j hj hbg => Tok.one_begins' D s j hj hbg) (fun j n hj hn => Tok.one_fit D s j n hj hn) (fun j hj b hbb hsj => Tok.one_brace (Tok.src D) s j hj b hbb hsj)
      j ((s.data.toList.drop j).length + 1) hk2 (by omega) w hS hT
    show Calls _ _ _ _ (BoolEnd s b j q kd p q ((Tok.innW (Tok.oneW (Tok.src D)) ((s.data.toList.drop j).length + 1) 0 ((s.data.toList.drop j).drop 2)).up 2) w)
    rw [drop_drop']
    exact key
/-- A token outside of all interpolations. -/
theorem token_any (s : ByteArray) (hs : s.size ≤ 1000000) (b : Nat) (hb : 2 < b) (kd p : Int) (k : Nat) (w : World) (hk : k < s.size) (h : Sc w b s k (-1) kd p) (hT : Lib.Utf8Tabs 1 2 w) (hbg : Tok.beginsB (s.data.toList.drop k) = true) :
    Calls Tryd.prog 27 #[.pointer (some ⟨b, 0, none⟩), .int .i64 0] w (TokEnd s b k (-1) kd p k (Tok.one 32 (s.data.toList.drop k)) w) :=
  token_step s hs b hb kd p 32 0 (interp_any s hs b hb kd p 32 0 rfl) (-1) k k w (.inl ⟨rfl, rfl⟩) hk h hT hbg
end Go.Proofs.YtbpaeglmanjbfaaDoor
