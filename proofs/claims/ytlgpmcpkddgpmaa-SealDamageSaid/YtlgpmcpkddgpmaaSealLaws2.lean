/- The walks of the laws SealSeals, SealOpens, SealBack, SealExact. -/
import Derived.Test.YtlgpmcpkddgpmaaSealLaws
namespace Go.Proofs.Ytlgpmcpkddgpmaa
open Go.RowKit

set_option maxHeartbeats 400000 in
theorem few_yes (s t : ByteArray) (w : World) (hs : s.size ≤ 200) (ht : t.size ≤ 2100) :
    Calls Try.prog 25 #[.string s, .string t] w fun e w' => e = .returned (.bool true) ∧ w = w' := by
  go_enter Try.func25, Try.ntmps25
  go_wp2
  go_ret
  exact ⟨ret_bool (decide_eq_true (by omega)), rfl⟩
set_option maxHeartbeats 400000 in
theorem few_no (s t : ByteArray) (w : World) (hs : s.size ≤ maxLen) (ht : t.size ≤ maxLen) (h : ¬ (s.size ≤ 200 ∧ t.size ≤ 2100)) :
    Calls Try.prog 25 #[.string s, .string t] w fun e w' => e = .returned (.bool false) ∧ w = w' := by
  unfold maxLen at hs ht
  by_cases h1 : s.size ≤ 200
  · have h2 : ¬ t.size ≤ 2100 := fun h2 => h ⟨h1, h2⟩
    clear h
    go_enter Try.func25, Try.ntmps25
    go_wp2
    go_ret
    exact ⟨ret_bool (decide_eq_false (by omega)), rfl⟩
  · clear h
    go_enter Try.func25, Try.ntmps25
    go_wp2
    go_ret
    exact ⟨rfl, rfl⟩

set_option maxHeartbeats 1000000 in
theorem sealSeals_walk (s : ByteArray) (n : Int) (p : ByteArray) (hs : s.size ≤ maxLen) (hn : (Lit.int .u64 n).wf = true) (hp : p.size ≤ maxLen) (w : World) :
    Calls Try.prog 8 #[.string s, .int .u64 n, .string p] w fun e w' => e = .returned (.bool true) ∧ Below w.heap.size w w' := by
  have Hn := kept (show Seal.U64 n from ⟨(wf_u64 hn).1, (wf_u64 hn).2⟩)
  clear hn
  by_cases h : s.size ≤ 200 ∧ p.size ≤ 2100
  · obtain ⟨h1, h2⟩ := h
    clear hs hp
    generalize he : Seal.enc s.data.toList n p.data.toList = r
    obtain ⟨l, k⟩ := r
    generalize hc : Seal.check s.data.toList = c
    have He := kept he; have Hc := kept hc
    clear he hc
    go_enter Try.func8, Try.ntmps8
    go_wp2_with fail
    refine (few_yes _ _ _ h1 h2).mono ?_; rintro e w1 ⟨rfl, rfl⟩
    go_wp2_with fail
    refine (enc_at _ _ _ _ _ _ (by omega) Hn.out (by omega) He.out).mono ?_; rintro e w1 ⟨rfl, b1⟩
    go_wp2_with fail
    refine (refEnc_at _ _ _ _ _ _ (by omega) Hn.out (by omega) He.out).mono ?_; rintro e w2 ⟨rfl, b2⟩
    go_wp2_with fail
    refine (check_at _ _ _ (by omega) Hc.out).mono ?_; rintro e w3 ⟨rfl, rfl⟩
    go_wp2_with fail
    refine (refCheck_at _ _ _ (by omega) Hc.out).mono ?_; rintro e w3 ⟨rfl, rfl⟩
    go_wp2_with fail
    refine (awake33_any _).mono ?_; rintro e w4 ⟨rfl, b4⟩
    go_wp2
    go_ret
    exact ⟨rfl, bthen (bthen b1 b2) b4⟩
  · have H := kept h; have Hs := kept hs; have Hp := kept hp
    clear h hs hp
    go_enter Try.func8, Try.ntmps8
    go_wp2_with fail
    refine (few_no _ _ _ Hs.out Hp.out H.out).mono ?_; rintro e w1 ⟨rfl, rfl⟩
    go_wp2_with fail
    refine (awake33_any _).mono ?_; rintro e w4 ⟨rfl, b4⟩
    go_wp2
    go_ret
    exact ⟨rfl, b4⟩

set_option maxHeartbeats 1000000 in
theorem sealOpens_walk (s t : ByteArray) (hs : s.size ≤ maxLen) (ht : t.size ≤ maxLen) (w : World) :
    Calls Try.prog 9 #[.string s, .string t] w fun e w' => e = .returned (.bool true) ∧ Below w.heap.size w w' := by
  by_cases h : s.size ≤ 200 ∧ t.size ≤ 2100
  · obtain ⟨h1, h2⟩ := h
    clear hs ht
    generalize he : Seal.dec s.data.toList t.data.toList = r
    obtain ⟨l, k⟩ := r
    generalize hc : Seal.nonce t.data.toList = c
    obtain ⟨n, g⟩ := c
    have He := kept he; have Hc := kept hc
    clear he hc
    go_enter Try.func9, Try.ntmps9
    go_wp2_with fail
    refine (few_yes _ _ _ h1 h2).mono ?_; rintro e w1 ⟨rfl, rfl⟩
    go_wp2_with fail
    refine (dec_at _ _ _ _ _ (by omega) (by omega) He.out).mono ?_; rintro e w1 ⟨rfl, b1⟩
    go_wp2_with fail
    refine (refDec_at _ _ _ _ _ (by omega) (by omega) He.out).mono ?_; rintro e w2 ⟨rfl, b2⟩
    go_wp2_with fail
    refine (nonce_at _ _ _ _ (by omega) Hc.out).mono ?_; rintro e w3 ⟨rfl, b3⟩
    go_wp2_with fail
    refine (refNonce_at _ _ _ _ (by omega) Hc.out).mono ?_; rintro e w4 ⟨rfl, b4⟩
    go_wp2_with fail
    refine (awake33_any _).mono ?_; rintro e w5 ⟨rfl, b5⟩
    go_wp2
    go_ret
    exact ⟨rfl, bthen (bthen (bthen (bthen b1 b2) b3) b4) b5⟩
  · have H := kept h; have Hs := kept hs; have Ht := kept ht
    clear h hs ht
    go_enter Try.func9, Try.ntmps9
    go_wp2_with fail
    refine (few_no _ _ _ Hs.out Ht.out H.out).mono ?_; rintro e w1 ⟨rfl, rfl⟩
    go_wp2_with fail
    refine (awake33_any _).mono ?_; rintro e w4 ⟨rfl, b4⟩
    go_wp2
    go_ret
    exact ⟨rfl, b4⟩

set_option maxHeartbeats 1000000 in
theorem sealBack_walk (s : ByteArray) (n : Int) (p : ByteArray) (hs : s.size ≤ maxLen) (hn : (Lit.int .u64 n).wf = true) (hp : p.size ≤ maxLen) (w : World) :
    Calls Try.prog 10 #[.string s, .int .u64 n, .string p] w fun e w' => e = .returned (.bool true) ∧ Below w.heap.size w w' := by
  have Hn := kept (show Seal.U64 n from ⟨(wf_u64 hn).1, (wf_u64 hn).2⟩)
  clear hn
  by_cases h : s.size ≤ 200 ∧ p.size ≤ 2100
  · obtain ⟨h1, h2⟩ := h
    clear hs hp
    have hpl : p.data.toList.length ≤ 1048576 := by rw [len_data]; omega
    by_cases hc : Seal.check s.data.toList = 0
    · have Hc := kept hc
      have He := kept (Seal.enc_ok s.data.toList n p.data.toList hc hpl)
      have Hd := kept (Seal.dec_enc s.data.toList n p.data.toList hc Hn.out hpl)
      have Ho := kept (Seal.nonce_enc s.data.toList n p.data.toList Hn.out hpl)
      have hl : (Crc.app (Seal.body s.data.toList n p.data.toList)).length = 24 + p.size := by
        rw [Crc.app, List.length_append, Crc.four_length, (Seal.body_parts _ _ _).1, len_data]; omega
      have Hl := kept (show (⟨(Crc.app (Seal.body s.data.toList n p.data.toList)).toArray⟩ : ByteArray).size ≤ 1000000 by rw [size_mk, hl]; omega)
      have heq : (p.data.toList == p.toList) = true := by rw [ByteArray.toList_eq]; exact beq_self_eq_true _
      generalize hq : Crc.app (Seal.body s.data.toList n p.data.toList) = q at *
      clear hc hl hq hpl
      go_enter Try.func10, Try.ntmps10
      go_wp2_with fail
      refine (few_yes _ _ _ h1 h2).mono ?_; rintro e w1 ⟨rfl, rfl⟩
      go_wp2_with fail
      refine (check_at _ _ _ (by omega) Hc.out).mono ?_; rintro e w1 ⟨rfl, rfl⟩
      go_wp2_with fail
      refine (enc_at _ _ _ _ _ _ (by omega) Hn.out (by omega) He.out).mono ?_; rintro e w1 ⟨rfl, b1⟩
      go_wp2_with fail
      refine (dec_at _ _ _ _ _ (by omega) Hl.out Hd.out).mono ?_; rintro e w2 ⟨rfl, b2⟩
      go_wp2_with fail
      refine (nonce_at _ _ _ _ Hl.out Ho.out).mono ?_; rintro e w3 ⟨rfl, b3⟩
      go_wp2_with fail
      refine (awake33_any _).mono ?_; rintro e w5 ⟨rfl, b5⟩
      go_wp2
      go_ret
      exact ⟨rfl, bthen (bthen (bthen b1 b2) b3) b5⟩
    · have hc' : (Seal.check s.data.toList == 0) = false := beq_eq_false_iff_ne.2 hc
      generalize hq : Seal.check s.data.toList = q at *
      have Hq := kept hq
      clear hq hc hpl
      go_enter Try.func10, Try.ntmps10
      go_wp2_with fail
      refine (few_yes _ _ _ h1 h2).mono ?_; rintro e w1 ⟨rfl, rfl⟩
      go_wp2_with fail
      refine (check_at _ _ _ (by omega) Hq.out).mono ?_; rintro e w1 ⟨rfl, rfl⟩
      go_wp2_with fail
      refine (awake33_any _).mono ?_; rintro e w5 ⟨rfl, b5⟩
      go_wp2
      go_ret
      exact ⟨rfl, b5⟩
  · have H := kept h; have Hs := kept hs; have Hp := kept hp
    clear h hs hp
    go_enter Try.func10, Try.ntmps10
    go_wp2_with fail
    refine (few_no _ _ _ Hs.out Hp.out H.out).mono ?_; rintro e w1 ⟨rfl, rfl⟩
    go_wp2_with fail
    refine (awake33_any _).mono ?_; rintro e w4 ⟨rfl, b4⟩
    go_wp2
    go_ret
    exact ⟨rfl, b4⟩

set_option maxHeartbeats 1000000 in
theorem sealExact_walk (s t : ByteArray) (hs : s.size ≤ maxLen) (ht : t.size ≤ maxLen) (w : World) :
    Calls Try.prog 11 #[.string s, .string t] w fun e w' => e = .returned (.bool true) ∧ Below w.heap.size w w' := by
  by_cases h : s.size ≤ 200 ∧ t.size ≤ 2100
  · obtain ⟨h1, h2⟩ := h
    clear hs ht
    generalize he : Seal.dec s.data.toList t.data.toList = r
    obtain ⟨p, k⟩ := r
    have He := kept he
    have hpl : p.length ≤ t.size := by have := dec_len s.data.toList t.data.toList; rwa [he, len_data] at this
    by_cases hk : k = 0
    · subst hk
      obtain ⟨_, hn, hn2, _, henc⟩ := Seal.enc_dec _ _ _ he
      have Hn := kept hn
      have Ho := kept (show Seal.nonce t.data.toList = ((Seal.nonce t.data.toList).1, 0) by rw [← hn2])
      have Henc := kept henc
      have Hp := kept (show (⟨p.toArray⟩ : ByteArray).size ≤ 1000000 by rw [size_mk]; omega)
      have heq : (t.data.toList == t.toList) = true := by rw [ByteArray.toList_eq]; exact beq_self_eq_true _
      generalize hq : (Seal.nonce t.data.toList).1 = n at *
      clear he hn hn2 henc hq hpl
      go_enter Try.func11, Try.ntmps11
      go_wp2_with fail
      refine (few_yes _ _ _ h1 h2).mono ?_; rintro e w1 ⟨rfl, rfl⟩
      go_wp2_with fail
      refine (dec_at _ _ _ _ _ (by omega) (by omega) He.out).mono ?_; rintro e w1 ⟨rfl, b1⟩
      go_wp2_with fail
      refine (nonce_at _ _ _ _ (by omega) Ho.out).mono ?_; rintro e w2 ⟨rfl, b2⟩
      go_wp2_with fail
      refine (enc_at _ _ _ _ _ _ (by omega) Hn.out Hp.out Henc.out).mono ?_; rintro e w3 ⟨rfl, b3⟩
      go_wp2_with fail
      refine (awake33_any _).mono ?_; rintro e w5 ⟨rfl, b5⟩
      go_wp2
      go_ret
      exact ⟨rfl, bthen (bthen (bthen b1 b2) b3) b5⟩
    · have hp0 : p = [] := by have := Seal.dec_err s.data.toList t.data.toList (by rw [he]; exact hk); rwa [he] at this
      subst hp0
      have hk' : (k == 0) = false := beq_eq_false_iff_ne.2 hk
      clear he hpl hk
      go_enter Try.func11, Try.ntmps11
      go_wp2_with fail
      refine (few_yes _ _ _ h1 h2).mono ?_; rintro e w1 ⟨rfl, rfl⟩
      go_wp2_with fail
      refine (dec_at _ _ _ _ _ (by omega) (by omega) He.out).mono ?_; rintro e w1 ⟨rfl, b1⟩
      go_wp2_with fail
      refine (awake33_any _).mono ?_; rintro e w5 ⟨rfl, b5⟩
      go_wp2
      go_ret
      exact ⟨rfl, bthen b1 b5⟩
  · have H := kept h; have Hs := kept hs; have Ht := kept ht
    clear h hs ht
    go_enter Try.func11, Try.ntmps11
    go_wp2_with fail
    refine (few_no _ _ _ Hs.out Ht.out H.out).mono ?_; rintro e w1 ⟨rfl, rfl⟩
    go_wp2_with fail
    refine (awake33_any _).mono ?_; rintro e w4 ⟨rfl, b4⟩
    go_wp2
    go_ret
    exact ⟨rfl, b4⟩
end Go.Proofs.Ytlgpmcpkddgpmaa
