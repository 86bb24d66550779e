/- The walks of provisionref02: Escaped, One, Unquote. -/
import Derived.Test.YtiaohbikaofbdaaDoorStrRefV
import Derived.Test.YtiaohbikaofbdaaDoorStrEsc
namespace Go.Proofs.YtiaohbikaofbdaaDoor
open Go.RowKit

/-- The answer of Escaped and of One, from what is read behind the index. -/
def Str.at' (i : Nat) (r : List UInt8 × Nat × Int) : List UInt8 × Nat × Int := if r.2.2 = 0 then (r.1, i + r.2.1, 0) else ([], 0, r.2.2)
def Str.esc1 (l : List UInt8) : List UInt8 × Nat × Int := if (Str.escp l).2.2 = 0 then (Str.enc (Str.escp l).1, (Str.escp l).2.1 + 1, 0) else ([], 0, (Str.escp l).2.2)
def TripleEnd (r : List UInt8 × Nat × Int) : Ending := .returned (.tuple #[.string ⟨r.1.toArray⟩, .int .i64 r.2.1, .int .i64 r.2.2])
theorem tripleEnd_mk (r : List UInt8 × Nat × Int) (l : List UInt8) (n : Nat) (e : Int) (h : r = (l, n, e)) : Ending.returned (.tuple #[.string ⟨l.toArray⟩, .int .i64 n, .int .i64 e]) = TripleEnd r := by subst h; rfl
theorem Str.esc1_of {l : List UInt8} {c n : Nat} {e : Int} (h : Str.escp l = (c, n, e)) : Str.esc1 l = if e = 0 then (Str.enc c, n + 1, 0) else ([], 0, e) := by unfold Str.esc1; rw [h]
theorem Str.at_ok (i n : Nat) (l : List UInt8) : Str.at' i (l, n, 0) = (l, i + n, 0) := rfl
theorem Str.at_err (i : Nat) (e : Int) (h : e ≠ 0) : Str.at' i ([], 0, e) = ([], 0, e) := if_neg h
theorem Str.point_valid (l : List UInt8) (c n : Nat) (h : Str.point l = (c, n, 0)) : Utf8.valid c = true := by
  unfold Str.point at h
  split at h
  · simp at h
  · split at h
    · simp at h
    · next hh =>
      obtain ⟨h1, h2⟩ := Prod.mk.inj h
      subst h1
      simp only [not_or] at hh
      simpa using hh.2.2.2

set_option maxHeartbeats 1000000 in
theorem refEscaped_any (s : ByteArray) (i : Nat) (w : World) (hs : s.size ≤ 1000000) (hi : i < s.size) :
    Calls Tryd.prog 44 #[.string s, .int .i64 i] w fun e w' => e = TripleEnd (Str.at' i (Str.esc1 (s.data.toList.drop (i + 1)))) ∧ Below w.heap.size w w' := by
  by_cases h0 : s.size ≤ i + 1
  · have Hp := kept (show Str.at' i (Str.esc1 (s.data.toList.drop (i + 1))) = ([], 0, 40) by rw [List.drop_of_length_le (by simp; omega)]; rfl)
    have h0' : (s.size : Int) ≤ i + 1 := by omega
    go_enter Tryd.func44, Tryd.ntmps44
    go_wp2
    refine bodyPost_ret (v := .tuple #[.string ⟨#[]⟩, .int .i64 0, .int .i64 40]) (by simp [results, Tryd.results44, go_sem]) rfl ⟨by rw [Hp.out]; rfl, Below.refl _ _⟩
  · have hlt : i + 1 < s.size := by omega
    have hlt' : (i : Int) + 1 < s.size := by omega
    have hd : s.data.toList.drop (i + 1) = s[i + 1] :: s.data.toList.drop (i + 2) := drop_cons s (i + 1) hlt
    have hex : s.extract (i + 1) (i + 2) = ⟨#[s[i + 1]]⟩ := extract_one s (i + 1) hlt
    go_enter Tryd.func44, Tryd.ntmps44
    clear h0
    by_cases h110 : s[i + 1] = 110
    · have Hp := kept (show Str.at' i (Str.esc1 (s.data.toList.drop (i + 1))) = ([10], i + 2, 0) by rw [hd, h110]; rfl)
      have hu : (s[i + 1].toNat : Int) = 110 := by rw [h110]; rfl
      clear hd h110 hex
      go_wp2
      refine bodyPost_ret (v := .tuple #[.string ⟨#[10]⟩, .int .i64 (i + 2 : Nat), .int .i64 0]) (by simp [results, Tryd.results44, go_sem]) rfl ⟨by rw [Hp.out]; rfl, Below.refl _ _⟩
    have g110 := byte_ne s[i + 1] 110 (by decide) h110
    by_cases h114 : s[i + 1] = 114
    · have Hp := kept (show Str.at' i (Str.esc1 (s.data.toList.drop (i + 1))) = ([13], i + 2, 0) by rw [hd, h114]; rfl)
      have hu : (s[i + 1].toNat : Int) = 114 := by rw [h114]; rfl
      clear hd h110 h114 hex
      go_wp2
      refine bodyPost_ret (v := .tuple #[.string ⟨#[13]⟩, .int .i64 (i + 2 : Nat), .int .i64 0]) (by simp [results, Tryd.results44, go_sem]) rfl ⟨by rw [Hp.out]; rfl, Below.refl _ _⟩
    have g114 := byte_ne s[i + 1] 114 (by decide) h114
    by_cases h116 : s[i + 1] = 116
    · have Hp := kept (show Str.at' i (Str.esc1 (s.data.toList.drop (i + 1))) = ([9], i + 2, 0) by rw [hd, h116]; rfl)
      have hu : (s[i + 1].toNat : Int) = 116 := by rw [h116]; rfl
      clear hd h110 h114 h116 hex
      go_wp2
      refine bodyPost_ret (v := .tuple #[.string ⟨#[9]⟩, .int .i64 (i + 2 : Nat), .int .i64 0]) (by simp [results, Tryd.results44, go_sem]) rfl ⟨by rw [Hp.out]; rfl, Below.refl _ _⟩
    have g116 := byte_ne s[i + 1] 116 (by decide) h116
    by_cases h34 : s[i + 1] = 34
    · have Hp := kept (show Str.at' i (Str.esc1 (s.data.toList.drop (i + 1))) = ([34], i + 2, 0) by rw [hd, h34]; rfl)
      have hu : (s[i + 1].toNat : Int) = 34 := by rw [h34]; rfl
      rw [h34] at hex
      clear hd h110 h114 h116 h34
      go_wp2
      refine bodyPost_ret (v := .tuple #[.string ⟨#[34]⟩, .int .i64 (i + 2 : Nat), .int .i64 0]) (by simp [hex, results, Tryd.results44, go_sem]) rfl ⟨by rw [Hp.out]; rfl, Below.refl _ _⟩
    have g34 := byte_ne s[i + 1] 34 (by decide) h34
    by_cases h92 : s[i + 1] = 92
    · have Hp := kept (show Str.at' i (Str.esc1 (s.data.toList.drop (i + 1))) = ([92], i + 2, 0) by rw [hd, h92]; rfl)
      have hu : (s[i + 1].toNat : Int) = 92 := by rw [h92]; rfl
      rw [h92] at hex
      clear hd h110 h114 h116 h34 h92
      go_wp2
      refine bodyPost_ret (v := .tuple #[.string ⟨#[92]⟩, .int .i64 (i + 2 : Nat), .int .i64 0]) (by simp [hex, results, Tryd.results44, go_sem]) rfl ⟨by rw [Hp.out]; rfl, Below.refl _ _⟩
    have g92 := byte_ne s[i + 1] 92 (by decide) h92
    by_cases h117 : s[i + 1] = 117
    · have He := kept (show Str.escp (s.data.toList.drop (i + 1)) = _ by rw [hd, escp_cons, if_neg h110, if_neg h114, if_neg h116, if_neg (fun h => h.elim h34 h92), if_pos h117])
      have hu : (s[i + 1].toNat : Int) = 117 := by rw [h117]; rfl
      clear hd h117 h110 g110 h114 g114 h116 g116 h34 g34 h92 g92 hex
      by_cases h1 : s.size ≤ i + 2
      · have Hp := kept (show Str.at' i (Str.esc1 (s.data.toList.drop (i + 1))) = ([], 0, 40) by
          rw [Str.esc1_of (show Str.escp (s.data.toList.drop (i + 1)) = (0, 0, 40) by rw [He.out, List.drop_of_length_le (by simp; omega)])]; rfl)
        have h1' : (s.size : Int) ≤ i + 2 := by omega
        go_wp2
        refine bodyPost_ret (v := .tuple #[.string ⟨#[]⟩, .int .i64 0, .int .i64 40]) (by simp [results, Tryd.results44, go_sem]) rfl ⟨by rw [Hp.out]; rfl, Below.refl _ _⟩
      · have hlt1 : i + 2 < s.size := by omega
        have hlt1' : (i : Int) + 2 < s.size := by omega
        have hd1 : s.data.toList.drop (i + 2) = s[i + 2] :: s.data.toList.drop (i + 3) := drop_cons s (i + 2) hlt1
        by_cases h123 : s[i + 2] = 123
        · obtain ⟨⟨q1, q2, q3⟩, hq⟩ : ∃ q, Str.point (s.data.toList.drop (i + 3)) = q := ⟨_, rfl⟩
          have he : Str.escp (s.data.toList.drop (i + 1)) = (q1, q2 + 2, q3) := by rw [He.out, hd1]; simp only; rw [if_pos h123, hq]
          have hv : (s[i + 2].toNat : Int) = 123 := by rw [h123]; rfl
          have Hx := kept (fun W => refPoint_any s (i + 3) q1 q2 q3 W hs (by omega) hq)
          rw [show ((i + 3 : Nat) : Int) = (i : Int) + 3 by omega] at Hx
          have hle := point_le (s.data.toList.drop (i + 3))
          rw [hq] at hle
          have h1 := Str.esc1_of he
          by_cases hq3 : q3 = 0
          · subst hq3
            have Hval := kept (Str.point_valid _ _ _ hq)
            have Hp := kept (show Str.at' i (Str.esc1 (s.data.toList.drop (i + 1))) = (Str.enc q1, i + 3 + q2, 0) by rw [h1, if_pos rfl, Str.at_ok]; congr 2; omega)
            have Hen := kept (fun W => refEncode_any q1 W Hval.out)
            rw [if_pos rfl] at Hx
            clear hd1 h123 h1 hq hle he
            go_wp2_with fail
            (with_reducible refine (Hx.out _).mono ?_); rintro e w1 ⟨rfl, rfl⟩
            go_wp2_with fail
            (with_reducible refine (Hen.out _).mono ?_); rintro e w2 ⟨rfl, b2⟩
            have B2 := kept b2; clear b2
            go_wp2
            refine bodyPost_ret (v := .tuple #[.string ⟨(Str.enc q1).toArray⟩, .int .i64 (i + 3 + q2 : Nat), .int .i64 0]) (by simp [results, Tryd.results44, go_sem]) rfl ⟨by rw [Hp.out]; rfl, B2.out⟩
          · have Hp := kept (show Str.at' i (Str.esc1 (s.data.toList.drop (i + 1))) = ([], 0, q3) by rw [h1, if_neg hq3, Str.at_err _ _ hq3])
            rw [if_neg hq3] at Hx
            have he1 : (q3 == 0) = false := by simpa using hq3
            have he2 : (q3 != 0) = true := by simpa using hq3
            clear hd1 h123 h1 hq hle he
            go_wp2_with fail
            (with_reducible refine (Hx.out _).mono ?_); rintro e w1 ⟨rfl, rfl⟩
            go_wp2
            refine bodyPost_ret (v := .tuple #[.string ⟨#[]⟩, .int .i64 0, .int .i64 q3]) (by simp [results, Tryd.results44, go_sem]) rfl ⟨by rw [Hp.out]; rfl, Below.refl _ _⟩
        · have Hp := kept (show Str.at' i (Str.esc1 (s.data.toList.drop (i + 1))) = ([], 0, 2) by
            rw [Str.esc1_of (show Str.escp (s.data.toList.drop (i + 1)) = (0, 0, 2) by rw [He.out, hd1]; exact if_neg h123)]; rfl)
          have hv1 := byte_ne s[i + 2] 123 (by decide) h123
          have hv2 : ((s[i + 2].toNat : Int) != 123) = true := by simpa using hv1
          clear hd1 h123 h1
          go_wp2
          refine bodyPost_ret (v := .tuple #[.string ⟨#[]⟩, .int .i64 0, .int .i64 2]) (by simp [results, Tryd.results44, go_sem]) rfl ⟨by rw [Hp.out]; rfl, Below.refl _ _⟩
    · have Hp := kept (show Str.at' i (Str.esc1 (s.data.toList.drop (i + 1))) = ([], 0, 2) by
        rw [Str.esc1_of (show Str.escp (s.data.toList.drop (i + 1)) = (0, 0, 2) by rw [hd, escp_cons, if_neg h110, if_neg h114, if_neg h116, if_neg (fun h => h.elim h34 h92), if_neg h117])]; rfl)
      have g117 := byte_ne s[i + 1] 117 (by decide) h117
      clear hd h117 h110 h114 h116 h34 h92 hex
      go_wp2
      refine bodyPost_ret (v := .tuple #[.string ⟨#[]⟩, .int .i64 0, .int .i64 2]) (by simp [results, Tryd.results44, go_sem]) rfl ⟨by rw [Hp.out]; rfl, Below.refl _ _⟩

theorem Str.one_of_esc (l : List UInt8) (h : l.getD 0 0 = 92) : Str.one l = Str.esc1 (l.drop 1) := by
  unfold Str.one Str.esc1
  rw [if_pos h]
  by_cases hh : (Str.escp (l.drop 1)).2.2 = 0
  · rw [if_neg (by simpa using hh), if_pos hh]
  · rw [if_pos (by simpa using hh), if_neg hh]

set_option maxHeartbeats 1000000 in
theorem refOne_any (s : ByteArray) (i : Nat) (w : World) (hs : s.size ≤ 1000000) (hi : i < s.size) :
    Calls Tryd.prog 34 #[.string s, .int .i64 i] w fun e w' => e = TripleEnd (Str.at' i (Str.one (s.data.toList.drop i))) ∧ Below w.heap.size w w' := by
  have hg : (s.data.toList.drop i).getD 0 0 = s[i] := by rw [drop_cons s i hi]; rfl
  by_cases h92 : s[i] = 92
  · have h1 := Str.one_of_esc (s.data.toList.drop i) (by rw [hg, h92])
    rw [List.drop_drop] at h1
    rw [h1]
    obtain ⟨q, hq⟩ : ∃ q, Str.at' i (Str.esc1 (s.data.toList.drop (i + 1))) = q := ⟨_, rfl⟩
    have Hx := kept (fun W => refEscaped_any s i W hs hi)
    rw [hq] at Hx ⊢
    obtain ⟨q1, q2, q3⟩ := q
    have hu : (s[i].toNat : Int) = 92 := by rw [h92]; rfl
    clear h1 hq hg h92
    go_enter Tryd.func34, Tryd.ntmps34
    go_wp2_with fail
    (with_reducible refine (Hx.out _).mono ?_); rintro e w1 ⟨rfl, b1⟩
    have B1 := kept b1; clear b1
    unfold TripleEnd
    go_wp2
    refine bodyPost_ret (v := .tuple #[.string ⟨q1.toArray⟩, .int .i64 q2, .int .i64 q3]) (by simp [results, Tryd.results34, go_sem]) rfl ⟨rfl, B1.out⟩
  · have g92 := byte_ne s[i] 92 (by decide) h92
    have hne : (s.data.toList.drop i) ≠ [] := by rw [drop_cons s i hi]; simp
    have hwd := Str.dec_width s i hi
    rcases Str.refDec_cases s i hi with ⟨hb, he⟩ | ⟨hb, he⟩
    · have Hp := kept (show Str.at' i (Str.one (s.data.toList.drop i)) = ([], 0, 2) by
        unfold Str.one
        rw [if_neg (by rw [hg]; exact h92), if_pos (.inl (by rw [Str.decL]; exact hb))]; rfl)
      have He := kept he
      clear hb he hg h92 hne hwd
      go_enter Tryd.func34, Tryd.ntmps34
      go_wp2_with fail
      (with_reducible refine (decode_at' _ _ 0 0 _ (by omega) He.out).mono ?_); rintro e w1 ⟨rfl, b1⟩
      have B1 := kept b1; clear b1
      go_wp2
      refine bodyPost_ret (v := .tuple #[.string ⟨#[]⟩, .int .i64 0, .int .i64 2]) (by simp [results, Tryd.results34, go_sem]) rfl ⟨by rw [Hp.out]; rfl, B1.out⟩
    · obtain ⟨⟨c, n⟩, hd⟩ : ∃ d, Utf8.decode s i = d := ⟨_, rfl⟩
      rw [hd] at he hb hwd
      have He := kept he
      have hw1 : 1 ≤ n := hwd.1
      have hw2 : i + n ≤ s.size := hwd.2
      have hw2' : (i : Int) + n ≤ s.size := by omega
      have hnz1 : ((n : Int) == 0) = false := by simp; omega
      have hnz2 : ¬ (n : Int) = 0 := by omega
      obtain ⟨u, hu⟩ : ∃ u : Int, (s[i].toNat : Int) = u := ⟨_, rfl⟩
      have hone : ∀ hh : ¬ (u < 32 ∨ u = 127), Str.at' i (Str.one (s.data.toList.drop i)) = ((s.data.toList.drop i).take n, i + n, 0) := by
        intro hh
        unfold Str.one
        rw [if_neg (by rw [hg]; exact h92), if_neg ?_, Str.decL, hd]
        · rfl
        · rw [Str.decL, hd, hg]
          rintro (h | h | h)
          · exact hb h
          · rw [UInt8.lt_iff_toNat_lt] at h
            have : s[i].toNat < 32 := h
            omega
          · rw [h] at hu; exact hh (.inr hu.symm)
      have hbad : (u < 32 ∨ u = 127) → Str.at' i (Str.one (s.data.toList.drop i)) = ([], 0, 2) := by
        intro hh
        unfold Str.one
        rw [if_neg (by rw [hg]; exact h92), if_pos ?_]
        · rfl
        · rw [hg]
          right
          rcases hh with h | h
          · left; rw [UInt8.lt_iff_toNat_lt]; show s[i].toNat < 32; omega
          · right; rw [← UInt8.toNat_inj]; show s[i].toNat = 127; omega
      have hxt : s.extract i (i + n) = ⟨((s.data.toList.drop i).take n).toArray⟩ := by
        refine str_of ?_
        simp only [ByteArray.data_extract, Array.toList_extract, List.extract_eq_take_drop]
        congr 1; omega
      have Hone := kept hone; have Hbad := kept hbad
      clear hb he hg h92 hne hwd hone hbad hd hw2
      rw [hu] at g92
      by_cases h32 : u < 32
      · have Hp := kept (Hbad.out (.inl h32))
        clear hxt
        go_enter Tryd.func34, Tryd.ntmps34
        go_wp2_with fail
        (with_reducible refine (decode_at' _ _ c n _ (by omega) He.out).mono ?_); rintro e w1 ⟨rfl, b1⟩
        have B1 := kept b1; clear b1
        go_wp2
        refine bodyPost_ret (v := .tuple #[.string ⟨#[]⟩, .int .i64 0, .int .i64 2]) (by simp [results, Tryd.results34, go_sem]) rfl ⟨by rw [Hp.out]; rfl, B1.out⟩
      · by_cases h127 : u = 127
        · have Hp := kept (Hbad.out (.inr h127))
          have h127a : (u == 127) = true := by simpa using h127
          clear hxt h127
          go_enter Tryd.func34, Tryd.ntmps34
          go_wp2_with fail
          (with_reducible refine (decode_at' _ _ c n _ (by omega) He.out).mono ?_); rintro e w1 ⟨rfl, b1⟩
          have B1 := kept b1; clear b1
          go_wp2
          refine bodyPost_ret (v := .tuple #[.string ⟨#[]⟩, .int .i64 0, .int .i64 2]) (by simp [results, Tryd.results34, go_sem]) rfl ⟨by rw [Hp.out]; rfl, B1.out⟩
        · have Hp := kept (Hone.out (by omega))
          have h127a : (u == 127) = false := by simpa using h127
          generalize (s.data.toList.drop i).take n = t at *
          go_enter Tryd.func34, Tryd.ntmps34
          go_wp2_with fail
          (with_reducible refine (decode_at' _ _ c n _ (by omega) He.out).mono ?_); rintro e w1 ⟨rfl, b1⟩
          have B1 := kept b1; clear b1
          go_wp2
          refine bodyPost_ret (v := .tuple #[.string ⟨t.toArray⟩, .int .i64 (i + n : Nat), .int .i64 0]) (by simp [hxt, results, Tryd.results34, go_sem]) rfl ⟨by rw [Hp.out]; rfl, B1.out⟩
end Go.Proofs.YtiaohbikaofbdaaDoor
