/- The walk of the law TokenScan. -/
import Derived.Test.YtbpaeglmanjbfaaDoorTokAwake
namespace Go.Proofs.YtbpaeglmanjbfaaDoor
open Go.RowKit
set_option linter.unusedSimpArgs false
set_option linter.unusedVariables false
namespace Tok
theorem scanF_len : ∀ (f : Nat) (l : List UInt8) (k : Nat) (acc : List T), acc.length ≤ 16384 → (scanF f l k acc).toks.length ≤ 16385
  | 0, l, k, acc, h => by simp [scanF]
  | f + 1, l, k, acc, h => by
    rw [scanF]
    split
    · simp
    · split
      · simp
      · split
        · simp; omega
        · cases one 32 (l.drop (skipN l)) with
          | ok n => exact scanF_len f _ _ _ (by simp; omega)
          | err e a => simp
          | trunc => simp
theorem scan_len (l : List UInt8) : (scan l).toks.length ≤ 16385 := by
  unfold scan
  split
  · simp
  · exact scanF_len _ _ _ _ (by simp)
end Tok
set_option maxRecDepth 100000 in
set_option maxHeartbeats 4000000 in
theorem tokenScan_any (s : ByteArray) (w : World) (hT : Lib.Utf8Tabs 1 2 w) (hs : s.size ≤ 9223372036854775807) :
    Calls Tryd.prog 3 #[.string s] w fun e w' => e = .returned (.bool true) ∧ Below w.heap.size w w' := by
  by_cases hbig : 3000 < s.size
  · have hbig' : (3000 : Int) < s.size := by omega
    have Ha := kept (awake_any w hT)
    clear hT hs
    go_enter Tryd.func3, Tryd.ntmps3
    go_wp2_with fail
    (with_reducible refine (Ha.out).mono ?_); rintro e w1 ⟨rfl, b1⟩
    have B1 := kept b1; clear b1
    go_wp2
    go_ret
    exact ⟨rfl, B1.out⟩
  · have hbig' : ¬ (3000 : Int) < s.size := by omega
    have H1 := kept (fun w hT => scan_any s (by omega) w hT)
    have H2 := kept (fun w => refScan_any s (by omega) w)
    have Hln := kept (Tok.scan_len s.data.toList)
    generalize Tok.scan s.data.toList = U at *
    obtain ⟨l, e0, p⟩ := U
    have HT := kept hT
    clear hT hs
    go_enter Tryd.func3, Tryd.ntmps3
    go_wp2_with fail
    (with_reducible refine (H1.out _ HT.out).mono ?_); rintro e w1 ⟨v, rfl, ho, b1⟩
    have Ho := kept (show OwnsT w1 w.heap.size v l from ho); have B1 := kept b1; clear ho b1
    have D2 := kept (Tri.fresh w1 26 (.int .i64 e0) (.int .i64 p) (.string ⟨#[]⟩))
    have B2 := kept (ball w1 (.cells #[.int .i64 e0, .int .i64 p, .string ⟨#[]⟩] 26))
    have Ho2 := kept (Ho.out.reads.below B2.out)
    go_wp2_with fail
    (with_reducible refine (H2.out _).mono ?_); rintro e w3 ⟨v2, rfl, ho, b3⟩
    have Ho3 := kept (Ho2.out.below b3)
    have Hq3 := kept (show OwnsT w3 _ v2 l from ho)
    have D3 := kept (D2.out.below b3)
    have B3 := kept (bthen B1.out (bthen B2.out b3))
    have HT3 := kept (Utf8Tabs_below HT.out B3.out)
    clear ho b3
    have B4 := kept (ball w3 (.cells #[.int .i64 e0, .int .i64 p, .string ⟨#[]⟩] 26))
    have hx : w1.heap.size < w3.heap.size := (Array.getElem?_eq_some_iff.1 D3.out).1
    obtain ⟨x0, x1, x2, _, _, _⟩ := D3.out.facts
    obtain ⟨y0, y1, y2, _, _, _⟩ := (D3.out.below B4.out).facts
    have hdq := diag_eq e0 p e0 p
    rw [show decide ((e0, (p : Int)) = (e0, (p : Int))) = true by simp] at hdq
    have Heq := kept (equal_any _ _ _ _ _ (Ho3.out.below B4.out) (Hq3.out.reads.below B4.out) (by rw [Tok.toI_length]; have : l.length ≤ 16385 := Hln.out; omega) (by rw [Tok.toI_length]; have : l.length ≤ 16385 := Hln.out; omega))
    rw [show decide (Tok.toI l = Tok.toI l) = true by simp] at Heq
    go_wp2_with fail
    (with_reducible refine (Heq.out).mono ?_); rintro e w5 ⟨rfl, b5⟩
    have B5 := kept (bthen B3.out (bthen B4.out b5))
    have HT5 := kept (Utf8Tabs_below HT.out B5.out)
    clear b5
    go_wp2_with fail
    (with_reducible refine (awake_any _ HT5.out).mono ?_); rintro e w6 ⟨rfl, b6⟩
    have B6 := kept (bthen B5.out b6)
    clear b6
    go_wp2
    go_ret
    exact ⟨rfl, B6.out⟩
end Go.Proofs.YtbpaeglmanjbfaaDoor
