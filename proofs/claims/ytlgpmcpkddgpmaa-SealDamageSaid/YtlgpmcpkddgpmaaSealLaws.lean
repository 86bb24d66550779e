/- The laws of layer 33: awake, and the laws without damage. -/
import Derived.Test.YtlgpmcpkddgpmaaSealOpen
import Derived.Test.YtlgpmcpkddgpmaaSealPlain
namespace Go.Proofs.Ytlgpmcpkddgpmaa
open Go.RowKit

theorem enc_at (s : ByteArray) (n : Int) (p : ByteArray) (l : List UInt8) (k : Int) (w : World) (hs : s.size ≤ 1000000000) (hn : Seal.U64 n) (hp : p.size ≤ 1000000) (h : Seal.enc s.data.toList n p.data.toList = (l, k)) :
    Calls Try.prog 27 #[.string s, .int .u64 n, .string p] w fun e w' => e = .returned (.tuple #[.string ⟨l.toArray⟩, .int .i64 k]) ∧ Below w.heap.size w w' := by
  have := enc_any s n p w hs hn hp
  rw [h] at this; exact this
theorem refEnc_at (s : ByteArray) (n : Int) (p : ByteArray) (l : List UInt8) (k : Int) (w : World) (hs : s.size ≤ 1000000000) (hn : Seal.U64 n) (hp : p.size ≤ 1000000) (h : Seal.enc s.data.toList n p.data.toList = (l, k)) :
    Calls Try.prog 28 #[.string s, .int .u64 n, .string p] w fun e w' => e = .returned (.tuple #[.string ⟨l.toArray⟩, .int .i64 k]) ∧ Below w.heap.size w w' := by
  have := refEnc_any s n p w hs hn hp
  rw [h] at this; exact this
theorem dec_at (s t : ByteArray) (l : List UInt8) (k : Int) (w : World) (hs : s.size ≤ 1000000000) (ht : t.size ≤ 1000000) (h : Seal.dec s.data.toList t.data.toList = (l, k)) :
    Calls Try.prog 31 #[.string s, .string t] w fun e w' => e = .returned (.tuple #[.string ⟨l.toArray⟩, .int .i64 k]) ∧ Below w.heap.size w w' := by
  have := dec_any s t w hs ht
  rw [h] at this; exact this
theorem refDec_at (s t : ByteArray) (l : List UInt8) (k : Int) (w : World) (hs : s.size ≤ 1000000000) (ht : t.size ≤ 1000000) (h : Seal.dec s.data.toList t.data.toList = (l, k)) :
    Calls Try.prog 32 #[.string s, .string t] w fun e w' => e = .returned (.tuple #[.string ⟨l.toArray⟩, .int .i64 k]) ∧ Below w.heap.size w w' := by
  have := refDec_any s t w hs ht
  rw [h] at this; exact this
theorem nonce_at (s : ByteArray) (n k : Int) (w : World) (hs : s.size ≤ 1000000) (h : Seal.nonce s.data.toList = (n, k)) :
    Calls Try.prog 33 #[.string s] w fun e w' => e = .returned (.tuple #[.int .u64 n, .int .i64 k]) ∧ Below w.heap.size w w' := by
  have := nonce_any s w hs
  rw [h] at this; exact this
theorem refNonce_at (s : ByteArray) (n k : Int) (w : World) (hs : s.size ≤ 1000000) (h : Seal.nonce s.data.toList = (n, k)) :
    Calls Try.prog 34 #[.string s] w fun e w' => e = .returned (.tuple #[.int .u64 n, .int .i64 k]) ∧ Below w.heap.size w w' := by
  have := refNonce_any s w hs
  rw [h] at this; exact this
theorem check_at (s : ByteArray) (k : Int) (w : World) (hs : s.size ≤ 1000000000) (h : Seal.check s.data.toList = k) :
    Calls Try.prog 29 #[.string s] w fun e w' => e = .returned (.int .i64 k) ∧ w = w' := by
  subst h; exact check_any s w hs
theorem refCheck_at (s : ByteArray) (k : Int) (w : World) (hs : s.size ≤ 1000000000) (h : Seal.check s.data.toList = k) :
    Calls Try.prog 30 #[.string s] w fun e w' => e = .returned (.int .i64 k) ∧ w = w' := by
  subst h; exact refCheck_any s w hs

theorem enc_k5 : Seal.enc [107] 5 [97, 98, 99] = ([80, 83, 76, 49, 5, 0, 0, 0, 0, 0, 0, 0, 12, 175, 140, 5, 191, 195, 110, 61, 158, 17, 99, 191, 112, 193, 193], 0) := by decide +kernel
theorem enc_k0 : Seal.enc [107] 0 [] = ([80, 83, 76, 49, 0, 0, 0, 0, 0, 0, 0, 0, 96, 39, 26, 157, 137, 182, 49, 56, 81, 9, 32, 209], 0) := by decide +kernel
theorem dec_k5 : Seal.dec [107] [80, 83, 76, 49, 5, 0, 0, 0, 0, 0, 0, 0, 12, 175, 140, 5, 191, 195, 110, 61, 158, 17, 99, 191, 112, 193, 193] = ([97, 98, 99], 0) := by decide +kernel
theorem nonce_k5 : Seal.nonce [80, 83, 76, 49, 5, 0, 0, 0, 0, 0, 0, 0, 12, 175, 140, 5, 191, 195, 110, 61, 158, 17, 99, 191, 112, 193, 193] = (5, 0) := by decide +kernel
theorem dec_q : Seal.dec [107] [81, 83, 76, 49, 0, 0, 0, 0, 0, 0, 0, 0, 96, 39, 26, 157, 137, 182, 49, 56, 81, 9, 32, 209] = ([], 20) := by decide +kernel

set_option maxHeartbeats 1000000 in
theorem awake33_any (w : World) :
    Calls Try.prog 26 #[] w fun e w' => e = .returned (.bool true) ∧ Below w.heap.size w w' := by
  have hcat : ∀ W : World, (Op.stringOp .add ⟨#[81]⟩ ⟨#[83, 76, 49, 0, 0, 0, 0, 0, 0, 0, 0, 96, 39, 26, 157, 137, 182, 49, 56, 81, 9, 32, 209]⟩).run Try.prog W = .ok (.string ⟨#[81, 83, 76, 49, 0, 0, 0, 0, 0, 0, 0, 0, 96, 39, 26, 157, 137, 182, 49, 56, 81, 9, 32, 209]⟩) W :=
    fun W => run_cat (P := Try.prog) W (l := [81]) (m := [83, 76, 49, 0, 0, 0, 0, 0, 0, 0, 0, 96, 39, 26, 157, 137, 182, 49, 56, 81, 9, 32, 209]) rfl rfl (by decide)
  go_enter Try.func26, Try.ntmps26
  go_wp2_with fail
  refine (enc_at ⟨#[107]⟩ 5 ⟨#[97, 98, 99]⟩ _ _ _ (by decide) ⟨by decide, by decide⟩ (by decide) enc_k5).mono ?_; rintro e w1 ⟨rfl, b1⟩
  go_wp2_with fail
  refine (dec_at ⟨#[107]⟩ ⟨#[80, 83, 76, 49, 5, 0, 0, 0, 0, 0, 0, 0, 12, 175, 140, 5, 191, 195, 110, 61, 158, 17, 99, 191, 112, 193, 193]⟩ _ _ _ (by decide) (by decide) dec_k5).mono ?_; rintro e w2 ⟨rfl, b2⟩
  go_wp2_with fail
  refine (nonce_at ⟨#[80, 83, 76, 49, 5, 0, 0, 0, 0, 0, 0, 0, 12, 175, 140, 5, 191, 195, 110, 61, 158, 17, 99, 191, 112, 193, 193]⟩ _ _ _ (by decide) nonce_k5).mono ?_; rintro e w3 ⟨rfl, b3⟩
  go_wp2_with fail
  refine (enc_at ⟨#[107]⟩ 0 ⟨#[]⟩ _ _ _ (by decide) ⟨by decide, by decide⟩ (by decide) enc_k0).mono ?_; rintro e w4 ⟨rfl, b4⟩
  go_wp2_with fail
  refine (dec_at ⟨#[107]⟩ ⟨#[81, 83, 76, 49, 0, 0, 0, 0, 0, 0, 0, 0, 96, 39, 26, 157, 137, 182, 49, 56, 81, 9, 32, 209]⟩ _ _ _ (by decide) (by decide) dec_q).mono ?_; rintro e w5 ⟨rfl, b5⟩
  go_wp2_with fail
  refine (check_at ⟨#[]⟩ 1 _ (by decide) (by decide)).mono ?_; rintro e w6 ⟨rfl, rfl⟩
  go_wp2_with fail
  refine (check_at ⟨#[107]⟩ 0 _ (by decide) (by decide)).mono ?_; rintro e w6 ⟨rfl, rfl⟩
  go_wp2
  go_ret
  exact ⟨rfl, bthen (bthen (bthen (bthen b1 b2) b3) b4) b5⟩
end Go.Proofs.Ytlgpmcpkddgpmaa
