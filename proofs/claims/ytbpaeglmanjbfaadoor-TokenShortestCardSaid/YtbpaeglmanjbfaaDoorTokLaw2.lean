/- The walk of the law TokenShortest. -/
import Derived.Test.YtbpaeglmanjbfaaDoorTokLaw1
import Derived.Test.YtbpaeglmanjbfaaDoorTokShort2
namespace Go.Proofs.YtbpaeglmanjbfaaDoor
open Go.RowKit
set_option linter.unusedSimpArgs false
set_option linter.unusedVariables false
namespace Tok
theorem textL_le (l : List UInt8) (n : Nat) : (textL l n).length ≤ l.length := by
  unfold textL
  split
  · rw [List.length_take, List.length_drop]; omega
  · rw [List.length_take]; omega
theorem chain_small (L : List UInt8) (j : Nat) (toks : List T) (h : Chain L j toks) : j ≤ L.length → toks.length ≤ L.length - j + 1 ∧ ∀ t ∈ toks, t.2.1.length ≤ L.length := by
  induction h with
  | fin j k hk he => intro hj; exact ⟨by simp, fun t ht => by simp at ht; subst ht; simp⟩
  | step j k n rest hk hlt hb ho hr ih =>
    intro hj
    have hn := one_len' 32 _ _ ho
    rw [List.length_drop] at hn
    obtain ⟨h1, h2⟩ := ih (by omega)
    refine ⟨by simp; omega, fun t ht => ?_⟩
    rcases List.mem_cons.1 ht with rfl | ht
    · have := textL_le (L.drop k) n
      rw [List.length_drop] at this
      show (textL (L.drop k) n).length ≤ _
      omega
    · exact h2 t ht
theorem chain_Small (L : List UInt8) (toks : List T) (h : Chain L 0 toks) (hl : L.length ≤ 9999) : Small (toI toks) := by
  obtain ⟨h1, h2⟩ := chain_small L 0 toks h (by omega)
  refine ⟨by rw [toI_length]; omega, fun i hi => ?_⟩
  have hi' : i < toks.length := by rwa [toI_length] at hi
  have := h2 toks[i] (List.getElem_mem hi')
  simp [toI]; omega
end Tok
set_option maxRecDepth 100000 in
set_option maxHeartbeats 4000000 in
theorem tokenShortest_any (s : ByteArray) (w : World) (hT : Lib.Utf8Tabs 1 2 w) (hs : s.size ≤ 9223372036854775807) :
    Calls Tryd.prog 6 #[.string s] w fun e w' => e = .returned (.bool true) ∧ Below w.heap.size w w' := by
  by_cases hbig : 3000 < s.size
  · have hbig' : (3000 : Int) < s.size := by omega
    have Ha := kept (awake_any w hT)
    clear hT hs
    go_enter Tryd.func6, Tryd.ntmps6
    go_wp2_with fail
    (with_reducible refine (Ha.out).mono ?_); rintro e w1 ⟨rfl, b1⟩
    have B1 := kept b1; clear b1
    go_wp2
    go_ret
    exact ⟨rfl, B1.out⟩
  · have hbig' : ¬ (3000 : Int) < s.size := by omega
    have H1 := kept (fun w hT => scan_any s (by omega) w hT)
    have hL : s.data.toList.length = s.size := by simp
    have HT := kept hT
    rcases Tok.scan_chain s.data.toList with ⟨he, htk, hat⟩ | ⟨he, hat, hch, hln⟩
    · generalize Tok.scan s.data.toList = U at *
      obtain ⟨l, e0, p⟩ := U
      obtain rfl : l = [] := htk
      have he' : e0 ≠ 0 := he
      have hat' : p ≤ s.size := by have : p ≤ s.data.toList.length := hat; omega
      have he1 : (e0 != 0) = true := by simpa using he'
      have hp : (p : Int) ≤ s.size := by omega
      have hp0 : (0 : Int) ≤ p := by omega
      clear hT hs he hat he' hL hat'
      go_enter Tryd.func6, Tryd.ntmps6
      go_wp2_with fail
      (with_reducible refine (H1.out _ HT.out).mono ?_); rintro e w1 ⟨v, rfl, ho, b1⟩
      have Ho := kept (show OwnsT w1 w.heap.size v [] from ho); have B1 := kept b1; clear ho b1
      obtain ⟨a, cap, hv⟩ := Ho.out.shape
      subst hv
      have B2 := kept (bthen B1.out (ball w1 (.cells #[.int .i64 e0, .int .i64 p, .string ⟨#[]⟩] 26)))
      have Ha := kept (awake_any _ (Utf8Tabs_below HT.out B2.out))
      go_wp2_with fail
      (with_reducible refine (Ha.out).mono ?_); rintro e w6 ⟨rfl, b6⟩
      have B6 := kept (bthen B2.out b6)
      clear b6
      go_wp2
      go_ret
      exact ⟨rfl, B6.out⟩
    · have hck := Tok.scan_checked s.data.toList hch (by omega)
      have hsm := Tok.chain_Small s.data.toList _ hch (by omega)
      generalize Tok.scan s.data.toList = U at *
      obtain ⟨l, e0, p⟩ := U
      obtain rfl : e0 = 0 := he
      obtain rfl : p = 0 := hat
      have Hck := kept (show Tok.checkZ (Tok.toI l) = 0 from hck.1)
      have hfm : (Tok.fmt (Tok.toI l)).length ≤ s.size := by have := hck.2; rw [hL] at this; exact this
      have hfm' : ((Tok.fmt (Tok.toI l)).length : Int) ≤ s.size := by omega
      have Hsm := kept (show Tok.Small (Tok.toI l) from hsm)
      clear hT hs hck hch hln hL hsm hfm
      go_enter Tryd.func6, Tryd.ntmps6
      go_wp2_with fail
      (with_reducible refine (H1.out _ HT.out).mono ?_); rintro e w1 ⟨v, rfl, ho, b1⟩
      have Ho := kept (show OwnsT w1 w.heap.size v l from ho); have B1 := kept b1; clear ho b1
      have B2 := kept (ball w1 (.cells #[.int .i64 0, .int .i64 0, .string ⟨#[]⟩] 26))
      have Ho2 := kept (Ho.out.reads.below B2.out)
      have B3 := kept (bthen B1.out B2.out)
      have Hc := kept (check_any _ _ _ Ho2.out Hsm.out (Utf8Tabs_below HT.out B3.out))
      rw [Hck.out] at Hc
      go_wp2_with fail
      (with_reducible refine (Hc.out).mono ?_); rintro e w5 ⟨rfl, b5⟩
      have Ho5 := kept (Ho2.out.below b5)
      have B5 := kept (bthen B3.out b5)
      clear b5
      have Hf := kept (format_any _ _ _ Ho5.out Hsm.out)
      go_wp2_with fail
      (with_reducible refine (Hf.out).mono ?_); rintro e w6 ⟨rfl, b6⟩
      have B6 := kept (bthen B5.out b6)
      clear b6
      have Ha := kept (awake_any _ (Utf8Tabs_below HT.out B6.out))
      go_wp2_with fail
      (with_reducible refine (Ha.out).mono ?_); rintro e w7 ⟨rfl, b7⟩
      have B7 := kept (bthen B6.out b7)
      clear b7
      go_wp2
      go_ret
      exact ⟨rfl, B7.out⟩
end Go.Proofs.YtbpaeglmanjbfaaDoor
