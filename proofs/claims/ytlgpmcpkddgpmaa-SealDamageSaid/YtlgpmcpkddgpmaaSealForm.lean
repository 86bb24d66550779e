/- The walks of seal.divided and provisionref33.Form: the parts of a sealed form. -/
import Derived.Test.YtlgpmcpkddgpmaaSealCalls
namespace Go.Proofs.Ytlgpmcpkddgpmaa
open Go.RowKit

theorem ver_len (l : List UInt8) : (Crc.ver l).1.length ≤ l.length := by
  unfold Crc.ver
  split
  · simp
  · split
    · simp
    · simp

set_option maxHeartbeats 400000 in
theorem hasPrefix_yes (s : ByteArray) (w : World) (hs : s.size ≤ 1000000000) (h : s.data.toList.take 4 = [80, 83, 76, 49]) :
    Calls Try.prog 54 #[.string s, .string ⟨#[80, 83, 76, 49]⟩] w fun e w' => e = .returned (.bool true) ∧ w = w' := by
  have hl : 4 ≤ s.size := by
    have := congrArg List.length h
    rw [List.length_take, len_data] at this; simp at this; omega
  have hx : ((s.extract 0 4).toList == [80, 83, 76, 49]) = true := by rw [ByteArray.toList_eq, ver_slice_take, h]; rfl
  have hl' : (4 : Int) ≤ s.size := by omega
  clear h hl
  go_enter Try.func54, Try.ntmps54
  go_wp2
  go_ret
  exact ⟨rfl, rfl⟩
set_option maxHeartbeats 400000 in
theorem hasPrefix_no (s : ByteArray) (w : World) (h : s.data.toList.take 4 ≠ [80, 83, 76, 49]) :
    Calls Try.prog 54 #[.string s, .string ⟨#[80, 83, 76, 49]⟩] w fun e w' => e = .returned (.bool false) ∧ w = w' := by
  have hx : ((s.extract 0 4).toList == [80, 83, 76, 49]) = false := by rw [ByteArray.toList_eq, ver_slice_take]; exact beq_eq_false_iff_ne.2 h
  clear h
  go_enter Try.func54, Try.ntmps54
  go_wp2
  all_goals go_ret
  all_goals exact ⟨rfl, rfl⟩

/-- What the parts of a sealed form are returned as. -/
def FormEnd (r : Int × Int × List UInt8 × Int) : Ending := .returned (.tuple #[.int .u64 r.1, .int .u64 r.2.1, .string ⟨r.2.2.1.toArray⟩, .int .i64 r.2.2.2])

theorem form_err (l : List UInt8) (v : List UInt8) (k : Int) (h : Crc.ver l = (v, k)) (hk : k ≠ 0) : Seal.form l = (0, 0, [], k) := by
  rw [Seal.form, h, if_pos hk]
theorem form_bad (l : List UInt8) (v : List UInt8) (h : Crc.ver l = (v, 0)) (hb : v.length < 20 ∨ v.take 4 ≠ [80, 83, 76, 49]) : Seal.form l = (0, 0, [], 2) := by
  rw [Seal.form, h, if_neg (by simp), if_pos hb]
theorem form_good (l : List UInt8) (v : List UInt8) (h : Crc.ver l = (v, 0)) (h1 : 20 ≤ v.length) (h2 : v.take 4 = [80, 83, 76, 49]) (h3 : v.length ≤ 1000000) :
    Seal.form l = (((Seal.number (v.drop 4) : Nat) : Int), ((Seal.number (v.drop 12) : Nat) : Int), v.drop 20, (0 : Int)) := by
  rw [Seal.form, h, if_neg (by simp), if_neg (by simp only [h2]; simp; omega), if_neg (by simp; omega)]

theorem word_q (s : ByteArray) (w : World) (h8 : 8 ≤ s.size) :
    Calls Try.prog 55 #[.string s] w fun e w' => e = .returned (.int .u64 (Seal.number s.data.toList : Nat)) ∧ w' = w :=
  (word_any s w h8).mono fun _ _ ⟨a, b⟩ => ⟨a, b.symm⟩
theorem number_q (s : ByteArray) (w : World) (h8 : s.size = 8) :
    Calls Try.prog 50 #[.string s] w fun e w' => e = .returned (.int .u64 (Seal.number s.data.toList : Nat)) ∧ w' = w :=
  (number_any s w h8).mono fun _ _ ⟨a, b⟩ => ⟨a, b.symm⟩

set_option maxHeartbeats 1000000 in
theorem divided_any (s : ByteArray) (w : World) (hs : s.size ≤ 1000000) :
    Calls Try.prog 49 #[.string s] w fun e w' => e = FormEnd (Seal.form s.data.toList) ∧ Below w.heap.size w w' := by
  generalize hv : Crc.ver s.data.toList = r
  obtain ⟨v, k⟩ := r
  have Hv := kept hv
  have hlen : v.length ≤ 1000000 := by have := ver_len s.data.toList; rw [hv, len_data] at this; simp only at this; omega
  obtain ⟨t, ht⟩ : ∃ t : ByteArray, t = ⟨v.toArray⟩ := ⟨_, rfl⟩
  have Ht := kept ht.symm
  have htv : t.data.toList = v := by rw [ht]
  have Htv := kept htv
  have hts : t.size ≤ 1000000 := by rw [ht, size_mk]; exact hlen
  clear hv ht htv
  by_cases hk : k = 0
  · subst hk
    by_cases hp : t.data.toList.take 4 = [80, 83, 76, 49]
    · by_cases h20 : 20 ≤ t.size
      · have Hf := kept (form_good _ v Hv.out (by rw [← Htv.out, len_data]; exact h20) (by rw [← Htv.out]; exact hp) hlen)
        have Hp := kept hp
        have h20' : (20 : Int) ≤ t.size := by omega
        have hts' : (t.size : Int) ≤ 1000000 := by omega
        clear hp hlen
        go_enter Try.func49, Try.ntmps49
        go_wp2_with fail
        refine (verify_at _ _ _ _ (by omega) Hv.out).mono ?_; rintro e w1 ⟨rfl, b1⟩
        rw [Ht.out]
        have B1 := kept b1
        clear b1
        go_wp2_with fail
        refine (hasPrefix_yes _ _ (by omega) Hp.out).mono ?_; rintro e w2 ⟨rfl, rfl⟩
        go_wp2_with fail
        go_quiet ((go_at_call 55; exact Calls.quiet_of_same (word_q _ _ (by simp; omega))))
        go_wp2
        refine bodyPost_ret (v := .tuple #[.int .u64 (Seal.number (t.extract 4 t.size).data.toList : Nat), .int .u64 (Seal.number (t.extract 12 t.size).data.toList : Nat), .string (t.extract 20 t.size), .int .i64 0]) (by simp [results, Try.results49, go_sem]) rfl ⟨?_, B1.out.trans (below_drewN (Below.refl _ _) _)⟩
        rw [Hf.out, ver_slice_drop, ver_slice_drop, Htv.out, str_of (ver_slice_drop t 20), Htv.out]; rfl
      · have Hf := kept (form_bad _ v Hv.out (.inl (by rw [← Htv.out, len_data]; omega)))
        have Hp := kept hp
        have h20' : ¬ (20 : Int) ≤ t.size := by omega
        have hts' : (t.size : Int) ≤ 1000000 := by omega
        clear hp hlen h20
        go_enter Try.func49, Try.ntmps49
        go_wp2_with fail
        refine (verify_at _ _ _ _ (by omega) Hv.out).mono ?_; rintro e w1 ⟨rfl, b1⟩
        rw [Ht.out]
        have B1 := kept b1
        clear b1
        go_wp2_with fail
        refine (hasPrefix_yes _ _ (by omega) Hp.out).mono ?_; rintro e w2 ⟨rfl, rfl⟩
        go_wp2
        refine bodyPost_ret (v := .tuple #[.int .u64 0, .int .u64 0, .string ⟨#[]⟩, .int .i64 2]) (by simp [results, Try.results49, go_sem]) rfl ⟨by rw [Hf.out]; rfl, B1.out⟩
    · have Hf := kept (form_bad _ v Hv.out (.inr (by rw [← Htv.out]; exact hp)))
      have Hp := kept hp
      have hts' : (t.size : Int) ≤ 1000000 := by omega
      clear hp hlen
      go_enter Try.func49, Try.ntmps49
      go_wp2_with fail
      refine (verify_at _ _ _ _ (by omega) Hv.out).mono ?_; rintro e w1 ⟨rfl, b1⟩
      rw [Ht.out]
      have B1 := kept b1
      clear b1
      go_wp2_with fail
      refine (hasPrefix_no _ _ Hp.out).mono ?_; rintro e w2 ⟨rfl, rfl⟩
      go_wp2
      refine bodyPost_ret (v := .tuple #[.int .u64 0, .int .u64 0, .string ⟨#[]⟩, .int .i64 2]) (by simp [results, Try.results49, go_sem]) rfl ⟨by rw [Hf.out]; rfl, B1.out⟩
  · have Hf := kept (form_err _ v k Hv.out hk)
    have hk' : (k == 0) = false := beq_eq_false_iff_ne.2 hk
    clear hk hlen
    go_enter Try.func49, Try.ntmps49
    go_wp2_with fail
    refine (verify_at _ _ _ _ (by omega) Hv.out).mono ?_; rintro e w1 ⟨rfl, b1⟩
    rw [Ht.out]
    have B1 := kept b1
    clear b1
    go_wp2
    refine bodyPost_ret (v := .tuple #[.int .u64 0, .int .u64 0, .string ⟨#[]⟩, .int .i64 k]) (by simp [results, Try.results49, go_sem]) rfl ⟨by rw [Hf.out]; rfl, B1.out⟩

theorem number_mid (t : ByteArray) (i : Nat) : Seal.number (t.extract i (i + 8)).data.toList = Seal.number (t.data.toList.drop i) := by
  simp [Seal.number, List.take_take]

set_option maxHeartbeats 1000000 in
theorem form_any (s : ByteArray) (w : World) (hs : s.size ≤ 1000000) :
    Calls Try.prog 35 #[.string s] w fun e w' => e = FormEnd (Seal.form s.data.toList) ∧ Below w.heap.size w w' := by
  generalize hv : Crc.ver s.data.toList = r
  obtain ⟨v, k⟩ := r
  have Hv := kept hv
  have hlen : v.length ≤ 1000000 := by have := ver_len s.data.toList; rw [hv, len_data] at this; simp only at this; omega
  obtain ⟨t, ht⟩ : ∃ t : ByteArray, t = ⟨v.toArray⟩ := ⟨_, rfl⟩
  have Ht := kept ht.symm
  have htv : t.data.toList = v := by rw [ht]
  have Htv := kept htv
  have hts : t.size ≤ 1000000 := by rw [ht, size_mk]; exact hlen
  clear hv ht htv
  by_cases hk : k = 0
  · subst hk
    by_cases h20 : 20 ≤ t.size
    · have h20' : (20 : Int) ≤ t.size := by omega
      have hts' : (t.size : Int) ≤ 1000000 := by omega
      by_cases hp : t.data.toList.take 4 = [80, 83, 76, 49]
      · have Hf := kept (form_good _ v Hv.out (by rw [← Htv.out, len_data]; exact h20) (by rw [← Htv.out]; exact hp) hlen)
        have hx : ((t.extract 0 4).toList == [80, 83, 76, 49]) = true := by rw [ByteArray.toList_eq, ver_slice_take, hp]; rfl
        clear hp hlen
        go_enter Try.func35, Try.ntmps35
        go_wp2_with fail
        refine (refVerify_at _ _ _ _ (by omega) Hv.out).mono ?_; rintro e w1 ⟨rfl, b1⟩
        rw [Ht.out]
        have B1 := kept b1
        clear b1
        go_wp2_with fail
        go_quiet ((go_at_call 50; exact Calls.quiet_of_same (number_q _ _ (by simp; omega))))
        go_wp2
        refine bodyPost_ret (v := .tuple #[.int .u64 (Seal.number (t.extract 4 12).data.toList : Nat), .int .u64 (Seal.number (t.extract 12 20).data.toList : Nat), .string (t.extract 20 t.size), .int .i64 0]) (by simp [results, Try.results35, go_sem]) rfl ⟨?_, B1.out.trans (below_drewN (Below.refl _ _) _)⟩
        rw [Hf.out, number_mid, number_mid, Htv.out, str_of (ver_slice_drop t 20), Htv.out]; rfl
      · have Hf := kept (form_bad _ v Hv.out (.inr (by rw [← Htv.out]; exact hp)))
        have hx : ((t.extract 0 4).toList == [80, 83, 76, 49]) = false := by rw [ByteArray.toList_eq, ver_slice_take]; exact beq_eq_false_iff_ne.2 hp
        clear hp hlen
        go_enter Try.func35, Try.ntmps35
        go_wp2_with fail
        refine (refVerify_at _ _ _ _ (by omega) Hv.out).mono ?_; rintro e w1 ⟨rfl, b1⟩
        rw [Ht.out]
        have B1 := kept b1
        clear b1
        go_wp2
        refine bodyPost_ret (v := .tuple #[.int .u64 0, .int .u64 0, .string ⟨#[]⟩, .int .i64 2]) (by simp [results, Try.results35, go_sem]) rfl ⟨by rw [Hf.out]; rfl, B1.out⟩
    · have Hf := kept (form_bad _ v Hv.out (.inl (by rw [← Htv.out, len_data]; omega)))
      have h20' : (t.size : Int) < 20 := by omega
      clear hlen h20
      go_enter Try.func35, Try.ntmps35
      go_wp2_with fail
      refine (refVerify_at _ _ _ _ (by omega) Hv.out).mono ?_; rintro e w1 ⟨rfl, b1⟩
      rw [Ht.out]
      have B1 := kept b1
      clear b1
      go_wp2
      refine bodyPost_ret (v := .tuple #[.int .u64 0, .int .u64 0, .string ⟨#[]⟩, .int .i64 2]) (by simp [results, Try.results35, go_sem]) rfl ⟨by rw [Hf.out]; rfl, B1.out⟩
  · have Hf := kept (form_err _ v k Hv.out hk)
    have hk' : (k == 0) = false := beq_eq_false_iff_ne.2 hk
    clear hk hlen
    go_enter Try.func35, Try.ntmps35
    go_wp2_with fail
    refine (refVerify_at _ _ _ _ (by omega) Hv.out).mono ?_; rintro e w1 ⟨rfl, b1⟩
    rw [Ht.out]
    have B1 := kept b1
    clear b1
    go_wp2
    refine bodyPost_ret (v := .tuple #[.int .u64 0, .int .u64 0, .string ⟨#[]⟩, .int .i64 k]) (by simp [results, Try.results35, go_sem]) rfl ⟨by rw [Hf.out]; rfl, B1.out⟩
end Go.Proofs.Ytlgpmcpkddgpmaa
