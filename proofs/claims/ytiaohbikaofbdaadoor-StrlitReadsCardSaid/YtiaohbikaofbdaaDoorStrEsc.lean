/- The walk of strlit.escape. -/
import Derived.Test.YtiaohbikaofbdaaDoorStrHexa
namespace Go.Proofs.YtiaohbikaofbdaaDoor
open Go.RowKit

theorem escp_cons (b : UInt8) (l : List UInt8) : Str.escp (b :: l) = if b = 110 then (10, 1, 0) else if b = 114 then (13, 1, 0) else if b = 116 then (9, 1, 0) else if b = 34 ∨ b = 92 then (b.toNat, 1, 0)
    else if b = 117 then (match l with
      | [] => (0, 0, 40)
      | c :: u => if c = 123 then ((Str.point u).1, (Str.point u).2.1 + 2, (Str.point u).2.2) else (0, 0, 2))
    else (0, 0, 2) := rfl
theorem extract_drop (s : ByteArray) (k : Nat) : (s.extract k s.size).data.toList = s.data.toList.drop k := by
  simp [List.take_of_length_le]
theorem point_le (l : List UInt8) : (Str.point l).2.1 ≤ 7 := by
  have := Str.hexN_le 6 l
  unfold Str.point
  repeat' split
  all_goals simp only
  all_goals omega
set_option maxHeartbeats 1000000 in
theorem escape2_any (s : ByteArray) (w : World) :
    Calls Tryd.prog 31 #[.string s] w fun e w' => e = .returned (.tuple #[.int .i32 (Str.escp s.data.toList).1, .int .i64 (Str.escp s.data.toList).2.1, .int .i64 (Str.escp s.data.toList).2.2]) ∧ Below w.heap.size w w' := by
  by_cases h0 : s.size = 0
  · have hs : s = ⟨#[]⟩ := by
      apply ByteArray.ext; exact Array.eq_empty_of_size_eq_zero h0
    subst hs
    go_enter Tryd.func31, Tryd.ntmps31
    go_wp2
    refine bodyPost_ret (v := .tuple #[.int .i32 0, .int .i64 0, .int .i64 40]) (by simp [results, Tryd.results31, go_sem]) rfl ⟨rfl, Below.refl _ _⟩
  · have hlt : 0 < s.size := by omega
    have hd : s.data.toList = s[0] :: s.data.toList.drop 1 := by have := drop_cons s 0 hlt; simpa using this
    have hie : s.toList.isEmpty = false := by rw [ByteArray.toList_eq, hd]; rfl
    go_enter Tryd.func31, Tryd.ntmps31
    clear h0
    by_cases h110 : s[0] = 110
    · have Hp := kept (show Str.escp s.data.toList = (10, 1, 0) by rw [hd, escp_cons, if_pos h110])
      have hu : (s[0].toNat : Int) = 110 := by rw [h110]; rfl
      clear hd h110
      go_wp2
      refine bodyPost_ret (v := .tuple #[.int .i32 10, .int .i64 1, .int .i64 0]) (by simp [results, Tryd.results31, go_sem]) rfl ⟨by rw [Hp.out]; rfl, Below.refl _ _⟩
    have g110 := byte_ne s[0] 110 (by decide) h110
    by_cases h114 : s[0] = 114
    · have Hp := kept (show Str.escp s.data.toList = (13, 1, 0) by rw [hd, escp_cons, if_neg h110, if_pos h114])
      have hu : (s[0].toNat : Int) = 114 := by rw [h114]; rfl
      clear hd h110 h114
      go_wp2
      refine bodyPost_ret (v := .tuple #[.int .i32 13, .int .i64 1, .int .i64 0]) (by simp [results, Tryd.results31, go_sem]) rfl ⟨by rw [Hp.out]; rfl, Below.refl _ _⟩
    have g114 := byte_ne s[0] 114 (by decide) h114
    by_cases h116 : s[0] = 116
    · have Hp := kept (show Str.escp s.data.toList = (9, 1, 0) by rw [hd, escp_cons, if_neg h110, if_neg h114, if_pos h116])
      have hu : (s[0].toNat : Int) = 116 := by rw [h116]; rfl
      clear hd h110 h114 h116
      go_wp2
      refine bodyPost_ret (v := .tuple #[.int .i32 9, .int .i64 1, .int .i64 0]) (by simp [results, Tryd.results31, go_sem]) rfl ⟨by rw [Hp.out]; rfl, Below.refl _ _⟩
    have g116 := byte_ne s[0] 116 (by decide) h116
    by_cases h34 : s[0] = 34
    · have Hp := kept (show Str.escp s.data.toList = (34, 1, 0) by rw [hd, escp_cons, if_neg h110, if_neg h114, if_neg h116, if_pos (.inl h34), h34]; rfl)
      have hu : (s[0].toNat : Int) = 34 := by rw [h34]; rfl
      clear hd h110 h114 h116 h34
      go_wp2
      refine bodyPost_ret (v := .tuple #[.int .i32 34, .int .i64 1, .int .i64 0]) (by simp [results, Tryd.results31, go_sem]) rfl ⟨by rw [Hp.out]; rfl, Below.refl _ _⟩
    have g34 := byte_ne s[0] 34 (by decide) h34
    by_cases h92 : s[0] = 92
    · have Hp := kept (show Str.escp s.data.toList = (92, 1, 0) by rw [hd, escp_cons, if_neg h110, if_neg h114, if_neg h116, if_pos (.inr h92), h92]; rfl)
      have hu : (s[0].toNat : Int) = 92 := by rw [h92]; rfl
      clear hd h110 h114 h116 h34 h92
      go_wp2
      refine bodyPost_ret (v := .tuple #[.int .i32 92, .int .i64 1, .int .i64 0]) (by simp [results, Tryd.results31, go_sem]) rfl ⟨by rw [Hp.out]; rfl, Below.refl _ _⟩
    have g92 := byte_ne s[0] 92 (by decide) h92
    by_cases h117 : s[0] = 117
    · have He := kept (show Str.escp s.data.toList = _ by rw [hd, escp_cons, if_neg h110, if_neg h114, if_neg h116, if_neg (fun h => h.elim h34 h92), if_pos h117])
      have hu : (s[0].toNat : Int) = 117 := by rw [h117]; rfl
      clear hd h117 h110 g110 h114 g114 h116 g116 h34 g34 h92 g92
      by_cases h1 : s.size = 1
      · have Hp := kept (show Str.escp s.data.toList = (0, 0, 40) by rw [He.out, List.drop_of_length_le (by simp; omega)])
        have h1' : (s.size : Int) = 1 := by omega
        go_wp2
        refine bodyPost_ret (v := .tuple #[.int .i32 0, .int .i64 0, .int .i64 40]) (by simp [results, Tryd.results31, go_sem]) rfl ⟨by rw [Hp.out]; rfl, Below.refl _ _⟩
      · have hlt1 : 1 < s.size := by omega
        have hlt1' : (1 : Int) < s.size := by omega
        have hd1 : s.data.toList.drop 1 = s[1] :: s.data.toList.drop 2 := drop_cons s 1 hlt1
        have h1a : ((s.size : Int) == 1) = false := by simp; omega
        by_cases h123 : s[1] = 123
        · have Hp := kept (show Str.escp s.data.toList = ((Str.point (s.data.toList.drop 2)).1, (Str.point (s.data.toList.drop 2)).2.1 + 2, (Str.point (s.data.toList.drop 2)).2.2) by rw [He.out, hd1]; exact if_pos h123)
          have hv : (s[1].toNat : Int) = 123 := by rw [h123]; rfl
          have hsl : (2 : Int) ≤ s.size := by omega
          have hx := hexadecimal_any (s.extract 2 s.size)
          rw [extract_drop] at hx
          have Hx := kept hx
          have hle := point_le (s.data.toList.drop 2)
          clear hd1 h123 hx h1
          generalize Str.point (s.data.toList.drop 2) = q at *
          obtain ⟨q1, q2, q3⟩ := q
          simp only at hle
          go_wp2_with fail
          refine (Hx.out _).mono ?_; rintro e w1 ⟨rfl, b1⟩
          have B1 := kept b1; clear b1
          go_wp2
          refine bodyPost_ret (v := .tuple #[.int .i32 q1, .int .i64 (q2 + 2 : Nat), .int .i64 q3]) (by simp [results, Tryd.results31, go_sem]) rfl ⟨by rw [Hp.out], B1.out⟩
        · have Hp := kept (show Str.escp s.data.toList = (0, 0, 2) by rw [He.out, hd1]; exact if_neg h123)
          have hv1 := byte_ne s[1] 123 (by decide) h123
          have hv2 : ((s[1].toNat : Int) != 123) = true := by simpa using hv1
          clear hd1 h123 h1
          go_wp2
          refine bodyPost_ret (v := .tuple #[.int .i32 0, .int .i64 0, .int .i64 2]) (by simp [results, Tryd.results31, go_sem]) rfl ⟨by rw [Hp.out]; rfl, Below.refl _ _⟩
    · have Hp := kept (show Str.escp s.data.toList = (0, 0, 2) by rw [hd, escp_cons, if_neg h110, if_neg h114, if_neg h116, if_neg (fun h => h.elim h34 h92), if_neg h117])
      have g117 := byte_ne s[0] 117 (by decide) h117
      clear hd h117 h110 h114 h116 h34 h92
      go_wp2
      refine bodyPost_ret (v := .tuple #[.int .i32 0, .int .i64 0, .int .i64 2]) (by simp [results, Tryd.results31, go_sem]) rfl ⟨by rw [Hp.out]; rfl, Below.refl _ _⟩
end Go.Proofs.YtiaohbikaofbdaaDoor
