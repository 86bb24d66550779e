/- The walks of the packages seal and provisionref33: keys, sealed forms. -/
import Derived.Test.YtlgpmcpkddgpmaaSealWalks4
import Derived.Test.YtlgpmcpkddgpmaaCrcLaws2
import Derived.Deep.QuietTactic
import Derived.BigQuiet
namespace Go.Proofs.Ytlgpmcpkddgpmaa
open Go.RowKit

theorem run_cat3 {P : Program} (w : World) {a b : ByteArray} {l m r : List UInt8} (ha : a.data.toList = l) (hb : b.data.toList = m) (hr : l ++ m = r) (h : r.length < 1099511627776) :
    (Op.stringOp .add a b).run P w = .ok (.string ⟨r.toArray⟩) w := by
  subst hr; exact run_cat w ha hb (by rw [List.length_append] at h; exact h)
theorem empty_iff (s : ByteArray) : s.toList.isEmpty = true ↔ s.data.toList = [] := by rw [ByteArray.toList_eq, List.isEmpty_iff]
theorem len_data (s : ByteArray) : s.data.toList.length = s.size := by simp

set_option maxHeartbeats 400000 in
theorem check_any (s : ByteArray) (w : World) (hs : s.size ≤ 1000000000) :
    Calls Try.prog 29 #[.string s] w fun e w' => e = .returned (.int .i64 (Seal.check s.data.toList)) ∧ w = w' := by
  by_cases h0 : s.data.toList = []
  · have h := (empty_iff s).2 h0
    have Hc := kept (show Seal.check s.data.toList = 1 by rw [Seal.check, if_pos h0])
    clear h0
    go_enter Try.func29, Try.ntmps29
    go_wp2
    go_ret
    exact ⟨ret_int Hc.out.symm, rfl⟩
  · have h : s.toList.isEmpty = false := by
      cases he : s.toList.isEmpty with
      | false => rfl
      | true => exact absurd ((empty_iff s).1 he) h0
    by_cases h64 : 64 < s.size
    · have Hc := kept (show Seal.check s.data.toList = 3 by rw [Seal.check, if_neg h0, if_pos (by rw [len_data]; exact h64)])
      clear h0
      go_enter Try.func29, Try.ntmps29
      go_wp2
      go_ret
      exact ⟨ret_int Hc.out.symm, rfl⟩
    · have Hc := kept (show Seal.check s.data.toList = 0 by rw [Seal.check, if_neg h0, if_neg (by rw [len_data]; exact h64)])
      clear h0
      go_enter Try.func29, Try.ntmps29
      go_wp2
      go_ret
      exact ⟨ret_int Hc.out.symm, rfl⟩
set_option maxHeartbeats 400000 in
theorem refCheck_any (s : ByteArray) (w : World) (hs : s.size ≤ 1000000000) :
    Calls Try.prog 30 #[.string s] w fun e w' => e = .returned (.int .i64 (Seal.check s.data.toList)) ∧ w = w' := by
  by_cases h0 : s.data.toList = []
  · have h := (empty_iff s).2 h0
    have Hc := kept (show Seal.check s.data.toList = 1 by rw [Seal.check, if_pos h0])
    clear h0
    go_enter Try.func30, Try.ntmps30
    go_wp2
    go_ret
    exact ⟨ret_int Hc.out.symm, rfl⟩
  · have h : s.toList.isEmpty = false := by
      cases he : s.toList.isEmpty with
      | false => rfl
      | true => exact absurd ((empty_iff s).1 he) h0
    by_cases h64 : 64 < s.size
    · have Hc := kept (show Seal.check s.data.toList = 3 by rw [Seal.check, if_neg h0, if_pos (by rw [len_data]; exact h64)])
      clear h0
      go_enter Try.func30, Try.ntmps30
      go_wp2
      go_ret
      exact ⟨ret_int Hc.out.symm, rfl⟩
    · have Hc := kept (show Seal.check s.data.toList = 0 by rw [Seal.check, if_neg h0, if_neg (by rw [len_data]; exact h64)])
      clear h0
      go_enter Try.func30, Try.ntmps30
      go_wp2
      go_ret
      exact ⟨ret_int Hc.out.symm, rfl⟩

set_option maxHeartbeats 1000000 in
theorem enc_any (s : ByteArray) (n : Int) (p : ByteArray) (w : World) (hs : s.size ≤ 1000000000) (hn : Seal.U64 n) (hp : p.size ≤ 1000000) :
    Calls Try.prog 27 #[.string s, .int .u64 n, .string p] w fun e w' => e = .returned (.tuple #[.string ⟨(Seal.enc s.data.toList n p.data.toList).1.toArray⟩, .int .i64 (Seal.enc s.data.toList n p.data.toList).2]) ∧ Below w.heap.size w w' := by
  by_cases hc : Seal.check s.data.toList = 0
  · have He := kept (show Seal.enc s.data.toList n p.data.toList = (Crc.app (Seal.body s.data.toList n p.data.toList), 0) by
      rw [Seal.enc, if_neg (by simpa using hc), if_neg (by rw [len_data]; omega)])
    have Hc := kept hc
    generalize hx : Seal.seed s.data.toList n = x
    have Hx := kept (show Seal.U64 x by rw [← hx]; exact Seal.seed_u64 _ _)
    generalize hz : Seal.tag x p.data.toList = z
    have Hz := kept (show Seal.U64 z by rw [← hz]; exact Seal.tag_u64 _ _)
    generalize h1 : ([80, 83, 76, 49] ++ Seal.eight n.toNat : List UInt8) = m1
    generalize h2 : m1 ++ Seal.eight z.toNat = m2
    generalize h3 : m2 ++ Seal.comb x 0 p.data.toList = m3
    have Hm := kept (show m3 = Seal.body s.data.toList n p.data.toList by rw [Seal.body, hx, hz, h1, h2, h3])
    have l1 : m1.length = 12 := by rw [← h1]; simp [Seal.eight_length]
    have l2 : m2.length = 20 := by rw [← h2, List.length_append, l1, Seal.eight_length]
    have l3 : m3.length = 20 + p.size := by rw [← h3, List.length_append, l2, Seal.comb_length, len_data]
    have hcat1 := fun W => run_cat3 (P := Try.prog) W (a := ⟨#[80, 83, 76, 49]⟩) (b := ⟨(Seal.eight n.toNat).toArray⟩) rfl rfl h1 (by omega)
    have hcat2 := fun W => run_cat3 (P := Try.prog) W (a := ⟨m1.toArray⟩) (b := ⟨(Seal.eight z.toNat).toArray⟩) rfl rfl h2 (by omega)
    have hcat3 := fun W => run_cat3 (P := Try.prog) W (a := ⟨m2.toArray⟩) (b := ⟨(Seal.comb x 0 p.data.toList).toArray⟩) rfl rfl h3 (by omega)
    have Hl3 := kept (show (⟨m3.toArray⟩ : ByteArray).size ≤ 1000000000 by rw [size_mk]; omega)
    have Hsx := kept hx; have Hsz := kept hz
    clear h1 h2 h3 l1 l2 l3 hc hx hz
    go_enter Try.func27, Try.ntmps27
    go_wp2_with fail
    refine (check_any _ _ hs).mono ?_; rintro e w1 ⟨rfl, rfl⟩
    rw [Hc.out]
    go_wp2_with fail
    refine (seed_any _ _ _ hs).mono ?_; rintro e w1 ⟨rfl, rfl⟩
    rw [Hsx.out]
    go_wp2_with fail
    refine (octets8_any _ _ hn).mono ?_; rintro e w1 ⟨rfl, b1⟩
    go_wp2_with fail
    refine (tag_any _ _ _ (by omega)).mono ?_; rintro e w2 ⟨rfl, rfl⟩
    rw [Hsz.out]
    go_wp2_with fail
    refine (octets8_any _ _ Hz.out).mono ?_; rintro e w2 ⟨rfl, b2⟩
    go_wp2_with fail
    refine (combined_any _ _ _ (by omega)).mono ?_; rintro e w3 ⟨rfl, b3⟩
    go_wp2_with fail
    refine (append_any _ _ Hl3.out).mono ?_; rintro e w4 ⟨rfl, b4⟩
    go_wp2
    go_ret2
    exact ⟨by rw [He.out, ← Hm.out]; rfl, bthen (bthen (bthen b1 b2) b3) b4⟩
  · have He := kept (show Seal.enc s.data.toList n p.data.toList = ([], Seal.check s.data.toList) by rw [Seal.enc, if_pos hc])
    have hc' : (Seal.check s.data.toList == 0) = false := beq_eq_false_iff_ne.2 hc
    generalize hq : Seal.check s.data.toList = q at *
    have Hq := kept hq
    clear hc hq
    go_enter Try.func27, Try.ntmps27
    go_wp2_with fail
    refine (check_any _ _ hs).mono ?_; rintro e w1 ⟨rfl, rfl⟩
    rw [Hq.out]
    go_wp2
    go_ret2
    exact ⟨by rw [He.out]; rfl, Below.refl _ _⟩

set_option maxHeartbeats 1000000 in
theorem refEnc_any (s : ByteArray) (n : Int) (p : ByteArray) (w : World) (hs : s.size ≤ 1000000000) (hn : Seal.U64 n) (hp : p.size ≤ 1000000) :
    Calls Try.prog 28 #[.string s, .int .u64 n, .string p] w fun e w' => e = .returned (.tuple #[.string ⟨(Seal.enc s.data.toList n p.data.toList).1.toArray⟩, .int .i64 (Seal.enc s.data.toList n p.data.toList).2]) ∧ Below w.heap.size w w' := by
  by_cases hc : Seal.check s.data.toList = 0
  · have He := kept (show Seal.enc s.data.toList n p.data.toList = (Crc.app (Seal.body s.data.toList n p.data.toList), 0) by
      rw [Seal.enc, if_neg (by simpa using hc), if_neg (by rw [len_data]; omega)])
    have Hc := kept hc
    generalize hx : Seal.seed s.data.toList n = x
    have Hx := kept (show Seal.U64 x by rw [← hx]; exact Seal.seed_u64 _ _)
    generalize hz : Seal.tag x p.data.toList = z
    have Hz := kept (show Seal.U64 z by rw [← hz]; exact Seal.tag_u64 _ _)
    generalize h1 : ([80, 83, 76, 49] ++ Seal.eight n.toNat : List UInt8) = m1
    generalize h2 : m1 ++ Seal.eight z.toNat = m2
    generalize h3 : m2 ++ Seal.comb x 0 p.data.toList = m3
    have Hm := kept (show m3 = Seal.body s.data.toList n p.data.toList by rw [Seal.body, hx, hz, h1, h2, h3])
    have l1 : m1.length = 12 := by rw [← h1]; simp [Seal.eight_length]
    have l2 : m2.length = 20 := by rw [← h2, List.length_append, l1, Seal.eight_length]
    have l3 : m3.length = 20 + p.size := by rw [← h3, List.length_append, l2, Seal.comb_length, len_data]
    have hcat1 := fun W => run_cat3 (P := Try.prog) W (a := ⟨#[80, 83, 76, 49]⟩) (b := ⟨(Seal.eight n.toNat).toArray⟩) rfl rfl h1 (by omega)
    have hcat2 := fun W => run_cat3 (P := Try.prog) W (a := ⟨m1.toArray⟩) (b := ⟨(Seal.eight z.toNat).toArray⟩) rfl rfl h2 (by omega)
    have hcat3 := fun W => run_cat3 (P := Try.prog) W (a := ⟨m2.toArray⟩) (b := ⟨(Seal.comb x 0 p.data.toList).toArray⟩) rfl rfl h3 (by omega)
    have Hl3 := kept (show (⟨m3.toArray⟩ : ByteArray).size ≤ 1000000000 by rw [size_mk]; omega)
    have Hsx := kept hx; have Hsz := kept hz
    clear h1 h2 h3 l1 l2 l3 hc hx hz
    go_enter Try.func28, Try.ntmps28
    go_wp2_with fail
    refine (refCheck_any _ _ hs).mono ?_; rintro e w1 ⟨rfl, rfl⟩
    rw [Hc.out]
    go_wp2_with fail
    refine (refSeed_any _ _ _ hs).mono ?_; rintro e w1 ⟨rfl, rfl⟩
    rw [Hsx.out]
    go_wp2_with fail
    refine (eight_any _ _ hn).mono ?_; rintro e w1 ⟨rfl, b1⟩
    go_wp2_with fail
    refine (refTag_any _ _ _ (by omega)).mono ?_; rintro e w2 ⟨rfl, rfl⟩
    rw [Hsz.out]
    go_wp2_with fail
    refine (eight_any _ _ Hz.out).mono ?_; rintro e w2 ⟨rfl, b2⟩
    go_wp2_with fail
    refine (stream_any _ _ _ (by omega)).mono ?_; rintro e w3 ⟨rfl, b3⟩
    go_wp2_with fail
    refine (refAppend_any _ _ Hl3.out).mono ?_; rintro e w4 ⟨rfl, b4⟩
    go_wp2
    go_ret2
    exact ⟨by rw [He.out, ← Hm.out]; rfl, bthen (bthen (bthen b1 b2) b3) b4⟩
  · have He := kept (show Seal.enc s.data.toList n p.data.toList = ([], Seal.check s.data.toList) by rw [Seal.enc, if_pos hc])
    have hc' : (Seal.check s.data.toList == 0) = false := beq_eq_false_iff_ne.2 hc
    generalize hq : Seal.check s.data.toList = q at *
    have Hq := kept hq
    clear hc hq
    go_enter Try.func28, Try.ntmps28
    go_wp2_with fail
    refine (refCheck_any _ _ hs).mono ?_; rintro e w1 ⟨rfl, rfl⟩
    rw [Hq.out]
    go_wp2
    go_ret2
    exact ⟨by rw [He.out]; rfl, Below.refl _ _⟩
end Go.Proofs.Ytlgpmcpkddgpmaa
