/- The walks of the laws SealWrong and SealRekeys. -/
import Derived.Test.YtlgpmcpkddgpmaaSealLaws2
namespace Go.Proofs.Ytlgpmcpkddgpmaa
open Go.RowKit

theorem refSeed_at (s : ByteArray) (n x : Int) (w : World) (hs : s.size ≤ 1000000000) (h : Seal.seed s.data.toList n = x) :
    Calls Try.prog 36 #[.string s, .int .u64 n] w fun e w' => e = .returned (.int .u64 x) ∧ w = w' := by
  subst h; exact refSeed_any s n w hs

set_option maxHeartbeats 400000 in
theorem check_big (s : ByteArray) (k : Int) (w : World) (hs : s.size ≤ maxLen) (h : Seal.check s.data.toList = k) :
    Calls Try.prog 29 #[.string s] w fun e w' => e = .returned (.int .i64 k) ∧ w = w' := by
  by_cases h9 : s.size ≤ 1000000000
  · exact check_at s k w h9 h
  · have h0 : s.data.toList ≠ [] := fun h0 => by
      have : s.size = 0 := by rw [← len_data, h0]; rfl
      omega
    have Hk := kept (show k = 3 by rw [← h, Seal.check, if_neg h0, if_pos (by rw [len_data]; omega)])
    have he : s.toList.isEmpty = false := by
      cases he : s.toList.isEmpty with
      | false => rfl
      | true => exact absurd ((empty_iff s).1 he) h0
    have h64 : (64 : Int) < s.size := by omega
    have hm : (s.size : Int) ≤ 9223372036854775807 := by unfold maxLen at hs; omega
    clear h9 h h0 hs
    go_enter Try.func29, Try.ntmps29
    go_wp2
    go_ret
    exact ⟨ret_int Hk.out.symm, rfl⟩

set_option maxHeartbeats 1000000 in
theorem sealWrong_awake (s o : ByteArray) (n : Int) (p : ByteArray) (hs : s.size ≤ maxLen) (ho : o.size ≤ maxLen) (hp : p.size ≤ maxLen) (w : World)
    (h : ¬ (s.size ≤ 200 ∧ p.size ≤ 2100) ∨ s = o ∨ Seal.check s.data.toList ≠ 0 ∨ Seal.check o.data.toList ≠ 0) :
    Calls Try.prog 12 #[.string s, .string o, .int .u64 n, .string p] w fun e w' => e = .returned (.bool true) ∧ Below w.heap.size w w' := by
  by_cases hf : s.size ≤ 200 ∧ p.size ≤ 2100
  · obtain ⟨h1, h2⟩ := hf
    by_cases hso : s = o
    · subst hso
      clear h hs ho hp
      go_enter Try.func12, Try.ntmps12
      go_wp2_with fail
      refine (few_yes _ _ _ h1 h2).mono ?_; rintro e w1 ⟨rfl, rfl⟩
      go_wp2_with fail
      refine (awake33_any _).mono ?_; rintro e w4 ⟨rfl, b4⟩
      go_wp2
      go_ret
      exact ⟨rfl, b4⟩
    · have heq : (s.toList == o.toList) = false := by
        rw [ByteArray.toList_eq, ByteArray.toList_eq]
        refine beq_eq_false_iff_ne.2 fun h => hso ?_
        exact ByteArray.ext (Array.toList_inj.1 h)
      by_cases hc : Seal.check s.data.toList = 0
      · have hc2 : Seal.check o.data.toList ≠ 0 := by
          rcases h with h | h | h | h
          · exact absurd ⟨h1, h2⟩ h
          · exact absurd h hso
          · exact absurd hc h
          · exact h
        have Hc := kept hc
        have hc2' : (Seal.check o.data.toList == 0) = false := beq_eq_false_iff_ne.2 hc2
        generalize hq : Seal.check o.data.toList = q at *
        have Hq := kept hq
        have Ho := kept ho
        clear h hs ho hp hc hq hso
        go_enter Try.func12, Try.ntmps12
        go_wp2_with fail
        refine (few_yes _ _ _ h1 h2).mono ?_; rintro e w1 ⟨rfl, rfl⟩
        go_wp2_with fail
        refine (check_at _ _ _ (by omega) Hc.out).mono ?_; rintro e w1 ⟨rfl, rfl⟩
        go_wp2_with fail
        refine (check_big _ _ _ Ho.out Hq.out).mono ?_; rintro e w1 ⟨rfl, rfl⟩
        go_wp2_with fail
        refine (awake33_any _).mono ?_; rintro e w4 ⟨rfl, b4⟩
        go_wp2
        go_ret
        exact ⟨rfl, b4⟩
      · have hc' : (Seal.check s.data.toList == 0) = false := beq_eq_false_iff_ne.2 hc
        generalize hq : Seal.check s.data.toList = q at *
        have Hq := kept hq
        clear h hs ho hp hq hso
        go_enter Try.func12, Try.ntmps12
        go_wp2_with fail
        refine (few_yes _ _ _ h1 h2).mono ?_; rintro e w1 ⟨rfl, rfl⟩
        go_wp2_with fail
        refine (check_at _ _ _ (by omega) Hq.out).mono ?_; rintro e w1 ⟨rfl, rfl⟩
        go_wp2_with fail
        refine (awake33_any _).mono ?_; rintro e w4 ⟨rfl, b4⟩
        go_wp2
        go_ret
        exact ⟨rfl, b4⟩
  · have H := kept hf; have Hs := kept hs; have Hp := kept hp
    clear h hf hs hp ho
    go_enter Try.func12, Try.ntmps12
    go_wp2_with fail
    refine (few_no _ _ _ Hs.out Hp.out H.out).mono ?_; rintro e w1 ⟨rfl, rfl⟩
    go_wp2_with fail
    refine (awake33_any _).mono ?_; rintro e w4 ⟨rfl, b4⟩
    go_wp2
    go_ret
    exact ⟨rfl, b4⟩

set_option maxHeartbeats 2000000 in
theorem sealWrong_main (s o : ByteArray) (n : Int) (p : ByteArray) (h1 : s.size ≤ 200) (h2 : p.size ≤ 2100) (ho : o.size ≤ 1000000000) (hn : Seal.U64 n) (w : World)
    (hso : ¬ s = o) (hcs : Seal.check s.data.toList = 0) (hco : Seal.check o.data.toList = 0) :
    Calls Try.prog 12 #[.string s, .string o, .int .u64 n, .string p] w fun e w' => e = .returned (.bool true) ∧ Below w.heap.size w w' := by
  have heq : (s.toList == o.toList) = false := by
    rw [ByteArray.toList_eq, ByteArray.toList_eq]
    refine beq_eq_false_iff_ne.2 fun h => hso ?_
    exact ByteArray.ext (Array.toList_inj.1 h)
  have Hn := kept hn; have Hcs := kept hcs; have Hco := kept hco
  have hpl : p.data.toList.length ≤ 1048576 := by rw [len_data]; omega
  have He := kept (Seal.enc_ok s.data.toList n p.data.toList hcs hpl)
  have Hf := kept (Seal.form_app s.data.toList n p.data.toList hn hpl)
  have hl : (Crc.app (Seal.body s.data.toList n p.data.toList)).length = 24 + p.size := by
    rw [Crc.app, List.length_append, Crc.four_length, (Seal.body_parts _ _ _).1, len_data]; omega
  have Hl := kept (show (⟨(Crc.app (Seal.body s.data.toList n p.data.toList)).toArray⟩ : ByteArray).size ≤ 1000000 by rw [size_mk, hl]; omega)
  have Hhl := kept (show (⟨(Seal.comb (Seal.seed s.data.toList n) 0 p.data.toList).toArray⟩ : ByteArray).size ≤ 1000000000 by rw [size_mk, Seal.comb_length, len_data]; omega)
  generalize hm : Seal.tag (Seal.seed s.data.toList n) p.data.toList = m at *
  generalize hh : Seal.comb (Seal.seed s.data.toList n) 0 p.data.toList = hd at *
  generalize hq : Crc.app (Seal.body s.data.toList n p.data.toList) = q at *
  have hdec := Seal.dec_wrong o.data.toList q n m hd hco Hf.out
  generalize hx : Seal.seed o.data.toList n = x at *
  have Hx := kept hx
  have Hcl := kept (show (⟨(Seal.comb x 0 hd).toArray⟩ : ByteArray).size ≤ 1000000000 by rw [size_mk, Seal.comb_length, ← size_mk hd]; exact Hhl.out)
  generalize hd2 : Seal.dec o.data.toList q = r at *
  obtain ⟨pl, k⟩ := r
  have Hd2 := kept hd2
  by_cases htag : Seal.tag x (Seal.comb x 0 hd) = m
  · rw [if_pos htag] at hdec
    simp only at hdec
    subst hdec
    have Ht := kept htag
    clear hso hn hcs hco hpl hl hm hh hq hx hd2 htag
    go_enter Try.func12, Try.ntmps12
    go_wp2_with fail
    refine (few_yes _ _ _ h1 h2).mono ?_; rintro e w1 ⟨rfl, rfl⟩
    go_wp2_with fail
    refine (check_at _ _ _ (by omega) Hcs.out).mono ?_; rintro e w1 ⟨rfl, rfl⟩
    go_wp2_with fail
    refine (check_at _ _ _ ho Hco.out).mono ?_; rintro e w1 ⟨rfl, rfl⟩
    go_wp2_with fail
    refine (enc_at _ _ _ _ _ _ (by omega) Hn.out (by omega) He.out).mono ?_; rintro e w1 ⟨rfl, b1⟩
    go_wp2_with fail
    refine (form_at _ _ _ _ _ _ Hl.out Hf.out).mono ?_; rintro e w2 ⟨rfl, b2⟩
    go_wp2_with fail
    refine (refSeed_at _ _ _ _ ho Hx.out).mono ?_; rintro e w3 ⟨rfl, rfl⟩
    go_wp2_with fail
    refine (dec_at _ _ _ _ _ ho Hl.out Hd2.out).mono ?_; rintro e w4 ⟨rfl, b4⟩
    go_wp2_with fail
    refine (stream_any _ _ _ Hhl.out).mono ?_; rintro e w5 ⟨rfl, b5⟩
    go_wp2_with fail
    refine (refTag_any _ _ _ Hcl.out).mono ?_; rintro e w6 ⟨rfl, rfl⟩
    rw [Ht.out]
    go_wp2_with fail
    refine (awake33_any _).mono ?_; rintro e w7 ⟨rfl, b7⟩
    go_wp2
    go_ret
    exact ⟨rfl, bthen (bthen (bthen (bthen b1 b2) b4) b5) b7⟩
  · rw [if_neg htag] at hdec
    simp only at hdec
    subst hdec
    clear hso hn hcs hco hpl hl hm hh hq hx hd2 htag
    go_enter Try.func12, Try.ntmps12
    go_wp2_with fail
    refine (few_yes _ _ _ h1 h2).mono ?_; rintro e w1 ⟨rfl, rfl⟩
    go_wp2_with fail
    refine (check_at _ _ _ (by omega) Hcs.out).mono ?_; rintro e w1 ⟨rfl, rfl⟩
    go_wp2_with fail
    refine (check_at _ _ _ ho Hco.out).mono ?_; rintro e w1 ⟨rfl, rfl⟩
    go_wp2_with fail
    refine (enc_at _ _ _ _ _ _ (by omega) Hn.out (by omega) He.out).mono ?_; rintro e w1 ⟨rfl, b1⟩
    go_wp2_with fail
    refine (form_at _ _ _ _ _ _ Hl.out Hf.out).mono ?_; rintro e w2 ⟨rfl, b2⟩
    go_wp2_with fail
    refine (refSeed_at _ _ _ _ ho Hx.out).mono ?_; rintro e w3 ⟨rfl, rfl⟩
    go_wp2_with fail
    refine (dec_at _ _ _ _ _ ho Hl.out Hd2.out).mono ?_; rintro e w4 ⟨rfl, b4⟩
    go_wp2_with fail
    refine (awake33_any _).mono ?_; rintro e w7 ⟨rfl, b7⟩
    go_wp2
    go_ret
    exact ⟨rfl, bthen (bthen (bthen b1 b2) b4) b7⟩

theorem check_small (s : List UInt8) (h : Seal.check s = 0) : s.length ≤ 64 := by
  unfold Seal.check at h
  split at h
  · simp at h
  · split at h
    · simp at h
    · omega

theorem sealWrong_walk (s o : ByteArray) (n : Int) (p : ByteArray) (hs : s.size ≤ maxLen) (ho : o.size ≤ maxLen) (hn : (Lit.int .u64 n).wf = true) (hp : p.size ≤ maxLen) (w : World) :
    Calls Try.prog 12 #[.string s, .string o, .int .u64 n, .string p] w fun e w' => e = .returned (.bool true) ∧ Below w.heap.size w w' := by
  by_cases hf : s.size ≤ 200 ∧ p.size ≤ 2100
  · by_cases hso : s = o
    · exact sealWrong_awake s o n p hs ho hp w (.inr (.inl hso))
    · by_cases hcs : Seal.check s.data.toList = 0
      · by_cases hco : Seal.check o.data.toList = 0
        · exact sealWrong_main s o n p hf.1 hf.2 (by have := check_small _ hco; rw [len_data] at this; omega) ⟨(wf_u64 hn).1, (wf_u64 hn).2⟩ w hso hcs hco
        · exact sealWrong_awake s o n p hs ho hp w (.inr (.inr (.inr hco)))
      · exact sealWrong_awake s o n p hs ho hp w (.inr (.inr (.inl hcs)))
  · exact sealWrong_awake s o n p hs ho hp w (.inl hf)

theorem rekey_at (a b t : ByteArray) (l : List UInt8) (k : Int) (w : World) (ha : a.size ≤ 1000000000) (hb : b.size ≤ 1000000000) (ht : t.size ≤ 1000000) (h : Seal.rekey a.data.toList b.data.toList t.data.toList = (l, k)) :
    Calls Try.prog 39 #[.string a, .string b, .string t] w fun e w' => e = .returned (.tuple #[.string ⟨l.toArray⟩, .int .i64 k]) ∧ Below w.heap.size w w' := by
  have := rekey_any a b t w ha hb ht
  rw [h] at this; exact this
theorem refRekey_at (a b t : ByteArray) (l : List UInt8) (k : Int) (w : World) (ha : a.size ≤ 1000000000) (hb : b.size ≤ 1000000000) (ht : t.size ≤ 1000000) (h : Seal.rekey a.data.toList b.data.toList t.data.toList = (l, k)) :
    Calls Try.prog 40 #[.string a, .string b, .string t] w fun e w' => e = .returned (.tuple #[.string ⟨l.toArray⟩, .int .i64 k]) ∧ Below w.heap.size w w' := by
  have := refRekey_any a b t w ha hb ht
  rw [h] at this; exact this
theorem enc_len (k : List UInt8) (n : Int) (p : List UInt8) : (Seal.enc k n p).1.length ≤ 24 + p.length := by
  unfold Seal.enc
  split
  · simp
  · split
    · simp
    · simp only; rw [Crc.app, List.length_append, Crc.four_length, (Seal.body_parts _ _ _).1]; omega
theorem rekey_len (a b t : List UInt8) : (Seal.rekey a b t).1.length ≤ 24 + t.length := by
  unfold Seal.rekey
  split
  · simp
  · exact Nat.le_trans (enc_len _ _ _) (by have := dec_len a t; omega)

set_option maxHeartbeats 1000000 in
theorem sealRekeys_walk (a b t : ByteArray) (ha : a.size ≤ maxLen) (hb : b.size ≤ maxLen) (ht : t.size ≤ maxLen) (w : World) :
    Calls Try.prog 14 #[.string a, .string b, .string t] w fun e w' => e = .returned (.bool true) ∧ Below w.heap.size w w' := by
  by_cases h : a.size ≤ 200 ∧ t.size ≤ 2100
  · obtain ⟨h1, h2⟩ := h
    unfold maxLen at hb
    by_cases h3 : b.size ≤ 200
    · clear ha hb ht
      generalize he : Seal.rekey a.data.toList b.data.toList t.data.toList = r
      obtain ⟨q, k⟩ := r
      have He := kept he
      have Hq := kept (show (⟨q.toArray⟩ : ByteArray).size ≤ 1000000 by
        have := rekey_len a.data.toList b.data.toList t.data.toList
        rw [he, len_data] at this; rw [size_mk]; simp only at this; omega)
      by_cases hk : k = 0
      · subst hk
        obtain ⟨p, hp1, hp2⟩ := Seal.rekey_ok _ _ _ _ he
        have Hp1 := kept hp1; have Hp2 := kept hp2
        clear he hp1 hp2
        go_enter Try.func14, Try.ntmps14
        go_wp2_with fail
        refine (few_yes _ _ _ h1 h2).mono ?_; rintro e w1 ⟨rfl, rfl⟩
        go_wp2_with fail
        refine (rekey_at _ _ _ _ _ _ (by omega) (by omega) (by omega) He.out).mono ?_; rintro e w1 ⟨rfl, b1⟩
        go_wp2_with fail
        refine (refRekey_at _ _ _ _ _ _ (by omega) (by omega) (by omega) He.out).mono ?_; rintro e w2 ⟨rfl, b2⟩
        go_wp2_with fail
        refine (dec_at _ _ _ _ _ (by omega) (by omega) Hp1.out).mono ?_; rintro e w3 ⟨rfl, b3⟩
        go_wp2_with fail
        refine (dec_at _ _ _ _ _ (by omega) Hq.out Hp2.out).mono ?_; rintro e w4 ⟨rfl, b4⟩
        go_wp2_with fail
        refine (awake33_any _).mono ?_; rintro e w5 ⟨rfl, b5⟩
        go_wp2
        go_ret
        exact ⟨rfl, bthen (bthen (bthen (bthen b1 b2) b3) b4) b5⟩
      · have hk' : (k == 0) = false := beq_eq_false_iff_ne.2 hk
        clear he
        go_enter Try.func14, Try.ntmps14
        go_wp2_with fail
        refine (few_yes _ _ _ h1 h2).mono ?_; rintro e w1 ⟨rfl, rfl⟩
        go_wp2_with fail
        refine (rekey_at _ _ _ _ _ _ (by omega) (by omega) (by omega) He.out).mono ?_; rintro e w1 ⟨rfl, b1⟩
        go_wp2_with fail
        refine (refRekey_at _ _ _ _ _ _ (by omega) (by omega) (by omega) He.out).mono ?_; rintro e w2 ⟨rfl, b2⟩
        go_wp2_with fail
        refine (awake33_any _).mono ?_; rintro e w5 ⟨rfl, b5⟩
        go_wp2
        go_ret
        exact ⟨rfl, bthen (bthen b1 b2) b5⟩
    · have h3' : (200 : Int) < b.size := by omega
      have hb' : (b.size : Int) ≤ 9223372036854775807 := by omega
      clear ha hb ht h3
      go_enter Try.func14, Try.ntmps14
      go_wp2_with fail
      refine (few_yes _ _ _ h1 h2).mono ?_; rintro e w1 ⟨rfl, rfl⟩
      go_wp2_with fail
      refine (awake33_any _).mono ?_; rintro e w5 ⟨rfl, b5⟩
      go_wp2
      go_ret
      exact ⟨rfl, b5⟩
  · have H := kept h; have Ha := kept ha; have Ht := kept ht
    clear h ha ht hb
    go_enter Try.func14, Try.ntmps14
    go_wp2_with fail
    refine (few_no _ _ _ Ha.out Ht.out H.out).mono ?_; rintro e w1 ⟨rfl, rfl⟩
    go_wp2_with fail
    refine (awake33_any _).mono ?_; rintro e w4 ⟨rfl, b4⟩
    go_wp2
    go_ret
    exact ⟨rfl, b4⟩
end Go.Proofs.Ytlgpmcpkddgpmaa
