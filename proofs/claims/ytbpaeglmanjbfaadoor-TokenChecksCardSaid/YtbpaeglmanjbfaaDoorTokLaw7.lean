/- What the reference says of a list of tokens: the walks of its functions, and of the law TokenChecks. -/
import Derived.Deep.RegionWith
import Derived.StillTailTactics
import Derived.Test.YtbpaeglmanjbfaaDoorTokFmt3
import Derived.Test.YtbpaeglmanjbfaaDoorTokLaw5
import Derived.Test.YtbpaeglmanjbfaaDoorTokMade
namespace Go.Proofs.YtbpaeglmanjbfaaDoor
set_option linter.unusedSimpArgs false
set_option linter.unusedVariables false
namespace Tok
open Go.Lib
def identB : List UInt8 → Bool
  | [] => false
  | b :: t => decide ((b :: t).length ≤ 64) && isLetter b && (b :: t).all (fun c => isLetter c || isDigit c)
def rightB (t : TI) : Bool :=
  if t.1 = 1 then identB t.2.1
  else if t.1 = 2 then t.2.1 != [] && spanN isDigit t.2.1 == t.2.1.length
  else if t.1 = 3 then decide (src 32 (t.2.1 ++ [34]) = .ok t.2.1.length)
  else if t.1 = 4 then t.2.1 != [] && signN t.2.1 == t.2.1.length
  else if t.1 = 5 then t.2.1 == [10]
  else false
theorem span_all_iff (p : UInt8 → Bool) (l : List UInt8) : spanN p l = l.length ↔ l.all p = true := by
  rw [List.all_eq_true]
  exact ⟨span_all' p l, span_all p l⟩
set_option maxRecDepth 100000 in
theorem first_fin : ∀ q : Fin 256, (isOne (UInt8.ofNat q.val) || [(61 : UInt8), 33, 60, 62, 38, 124].contains (UInt8.ofNat q.val)) = true → (UInt8.ofNat q.val ≠ 10 ∧ isLetter (UInt8.ofNat q.val) = false ∧ isDigit (UInt8.ofNat q.val) = false ∧ UInt8.ofNat q.val ≠ 34) := by decide
theorem sign_first (b : UInt8) (u : List UInt8) (h : signN (b :: u) ≠ 0) : b ≠ 10 ∧ isLetter b = false ∧ isDigit b = false ∧ b ≠ 34 := by
  have hb := first_fin ⟨b.toNat, b.toNat_lt⟩
  simp only [UInt8.ofNat_toNat] at hb
  apply hb
  match u, h with
  | [], h =>
    simp only [signN] at h
    split at h
    · next ho => simp [ho]
    · exact absurd rfl h
  | c :: r, h =>
    simp only [signN] at h
    split at h
    · next h2 =>
      unfold isTwo at h2
      simp only [Bool.or_eq_true, Bool.and_eq_true, beq_iff_eq] at h2
      rcases h2 with (((((h | h) | h) | h) | h) | h) | h <;> simp [h.1]
    · split at h
      · next ho => simp [ho]
      · exact absurd rfl h
theorem right_valid (t : TI) : rightB t = validB t := by
  obtain ⟨k, s, a⟩ := t
  rw [Bool.eq_iff_iff]
  constructor
  · intro h
    have key : ∀ b u, sourceL (k, s, a) = b :: u → one 32 (b :: u) = .ok (u.length + 1) → kindOf b = k → validB (k, s, a) = true := by
      intro b u hs ho hk
      have hb := begins_of_one _ _ ho
      have hle := kindOf_le b
      unfold validB preB
      rw [hs, ho, hb]
      show (decide (b :: u ≠ [] ∧ 1 ≤ k ∧ k ≤ 5) && (true && (u.length + 1 == (b :: u).length && kindOf b == k))) = true
      rw [hk, decide_eq_true (by rw [← hk]; exact ⟨by simp, hle.1, hle.2⟩)]
      simp
    unfold rightB at h
    by_cases h1 : k = 1
    · subst h1
      rw [if_pos rfl] at h
      cases s with
      | nil => cases h
      | cons b u =>
        simp only [identB, Bool.and_eq_true, decide_eq_true_eq] at h
        obtain ⟨⟨h64, hl⟩, hall⟩ := h
        have h10 : b ≠ 10 := by rintro rfl; exact absurd hl (by decide)
        have hs := (span_all_iff (fun c => isLetter c || isDigit c) (b :: u)).2 hall
        refine key b u rfl ?_ (by simp [kindOf, h10, hl])
        simp only [one, oneW]
        rw [if_neg h10, if_pos hl, hs, if_neg (by omega)]; rfl
    rw [if_neg (by exact h1)] at h
    by_cases h2 : k = 2
    · subst h2
      rw [if_pos rfl] at h
      simp only [Bool.and_eq_true, bne_iff_ne, ne_eq, beq_iff_eq] at h
      obtain ⟨hne, hs⟩ := h
      cases s with
      | nil => exact absurd rfl hne
      | cons b u =>
        have hd : isDigit b = true := by
          cases hx : isDigit b with
          | true => rfl
          | false => simp [spanN, hx] at hs
        have hl : isLetter b = false := by
          cases hx : isLetter b with
          | false => rfl
          | true => rw [letter_digit b hx] at hd; cases hd
        have h10 : b ≠ 10 := by rintro rfl; exact absurd hd (by decide)
        refine key b u rfl ?_ (by simp [kindOf, h10, hl, hd])
        simp only [one, oneW]
        rw [if_neg h10, if_neg (by simp [hl]), if_pos hd, hs]; rfl
    rw [if_neg (by exact h2)] at h
    by_cases h3 : k = 3
    · subst h3
      rw [if_pos rfl, decide_eq_true_eq] at h
      refine key 34 (s ++ [34]) rfl ?_ rfl
      simp only [one, oneW]
      rw [if_neg (by decide), if_neg (by decide), if_neg (by decide), if_pos trivial, h]
      simp
    rw [if_neg (by exact h3)] at h
    by_cases h4 : k = 4
    · subst h4
      rw [if_pos rfl] at h
      simp only [Bool.and_eq_true, bne_iff_ne, ne_eq, beq_iff_eq] at h
      obtain ⟨hne, hs⟩ := h
      cases s with
      | nil => exact absurd rfl hne
      | cons b u =>
        have hsg := sign_first b u (by rw [hs]; simp)
        refine key b u rfl ?_ (by simp [kindOf, hsg.1, hsg.2.1, hsg.2.2.1, hsg.2.2.2])
        simp only [one, oneW]
        rw [if_neg hsg.1, if_neg (by simp [hsg.2.1]), if_neg (by simp [hsg.2.2.1]), if_neg hsg.2.2.2, hs, if_neg (by simp)]; rfl
    rw [if_neg (by exact h4)] at h
    by_cases h5 : k = 5
    · subst h5
      rw [if_pos rfl, beq_iff_eq] at h
      subst h
      exact key 10 [] rfl rfl rfl
    · rw [if_neg (by exact h5)] at h; cases h
  · intro h
    obtain ⟨b, u, hs, ho, hk, _, _⟩ := valid_read _ h
    simp only at hk
    unfold rightB
    have h34 : k ≠ 3 → s = b :: u := fun h3 => by
      unfold sourceL at hs; rw [if_neg h3] at hs; exact hs
    rcases one_cases 32 b u _ ho with ⟨rfl, hn⟩ | ⟨h10, hl, hn, h64⟩ | ⟨h10, hl, hd, hn⟩ | ⟨rfl, m, hm, hn⟩ | ⟨h10, hl, hd, h34', hn, hn0⟩
    · obtain rfl : u = [] := List.eq_nil_of_length_eq_zero (by omega)
      have hk5 : k = 5 := by rw [← hk]; rfl
      subst hk5
      rw [h34 (by omega)]; rfl
    · have hk1 : k = 1 := by rw [← hk]; simp [kindOf, h10, hl]
      subst hk1
      rw [h34 (by omega), if_pos rfl]
      have := (span_all_iff (fun c => isLetter c || isDigit c) (b :: u)).1 hn.symm
      simp only [identB, Bool.and_eq_true, decide_eq_true_eq]
      exact ⟨⟨by simp; omega, hl⟩, this⟩
    · have hk2 : k = 2 := by rw [← hk]; simp [kindOf, h10, hl, hd]
      subst hk2
      rw [h34 (by omega)]
      show ((b :: u) != [] && spanN isDigit (b :: u) == (b :: u).length) = true
      rw [← hn]; simp
    · have hk3 : k = 3 := by rw [← hk]; rfl
      subst hk3
      have hu : u = s ++ [34] := by
        unfold sourceL at hs; rw [if_pos rfl] at hs; injection hs with _ hs; exact hs.symm
      subst hu
      show decide (src 32 (s ++ [34]) = .ok s.length) = true
      rw [hm, decide_eq_true_eq]
      congr 1
      simp at hn; omega
    · have hk4 : k = 4 := by rw [← hk]; simp [kindOf, h10, hl, hd, h34']
      subst hk4
      rw [h34 (by omega)]
      show ((b :: u) != [] && signN (b :: u) == (b :: u).length) = true
      rw [← hn]; simp
/-- The reference's running count ahead of token k. -/
def gapped (l : List TI) (k : Nat) : List UInt8 := if gapB l k then fmtN l k ++ [32] else fmtN l k
theorem gapped_zero (l : List TI) : gapped l 0 = [] := rfl
theorem gapped_succ (l : List TI) (k : Nat) (h : k + 1 < l.length) : gapped l (k + 1) = (gapped l k ++ sourceL (l[k]'(by omega))) ++ (if apartT (l[k]'(by omega)) l[k + 1] then [32] else []) := by
  unfold gapped
  rw [gapB_succ l k h, fmtN_succ l k (by omega)]
  split <;> simp_all
theorem gapped_fmtN (l : List TI) (k : Nat) (h : k < l.length) : fmtN l (k + 1) = gapped l k ++ sourceL l[k] := fmtN_succ l k h
theorem gapped_le (l : List TI) (h : Small l) (k : Nat) (hk : k ≤ l.length) : (gapped l k).length ≤ k * 10003 + 1 := by
  have := fmtN_le l h k hk
  unfold gapped
  split
  · rw [List.length_append, List.length_singleton]; exact Nat.add_le_add_right this 1
  · exact Nat.le_succ_of_le this
theorem fmt_last (l : List TI) (m : Nat) (hm : l.length = m + 1) (h : (l[m]'(by omega)).1 = 6) (h2 : (l[m]'(by omega)).2.1 = []) : fmt l = gapped l m := by
  unfold fmt
  rw [hm, gapped_fmtN l m (by omega)]
  have : sourceL (l[m]'(by omega)) = [] := by unfold sourceL; rw [h, if_neg (by omega), h2]
  rw [this, List.append_nil]
end Tok
open Go.RowKit
theorem byte0 (b : UInt8) (r : List UInt8) (h : 0 < (⟨(b :: r).toArray⟩ : ByteArray).size) : (⟨(b :: r).toArray⟩ : ByteArray)[0] = b := rfl
set_option maxRecDepth 100000 in
set_option maxHeartbeats 2000000 in
theorem refSource_any (k1 a1 : Int) (t1 : List UInt8) (w : World) (h1 : t1.length ≤ 1000000) :
    Calls Tryd.prog 35 #[.agg #[.int .i64 k1, .string ⟨t1.toArray⟩, .int .i64 a1]] w fun e w' => e = .returned (.string ⟨(Tok.sourceL (k1, t1, a1)).toArray⟩) ∧ Below w.heap.size w w' := by
  by_cases hk3 : k1 = 3
  · subst hk3
    rw [show Tok.sourceL (3, t1, a1) = 34 :: (t1 ++ [34]) from rfl]
    have hs1 : ∀ w : World, (Op.stringOp .add ⟨#[34]⟩ ⟨t1.toArray⟩).run Tryd.prog w = .ok (.string ⟨(34 :: t1).toArray⟩) w := fun w => run_cat w (l := [34]) (m := t1) rfl rfl (by simp; omega)
    have hs2 : ∀ w : World, (Op.stringOp .add ⟨(34 :: t1).toArray⟩ ⟨#[34]⟩).run Tryd.prog w = .ok (.string ⟨(34 :: (t1 ++ [34])).toArray⟩) w := fun w => run_cat w (l := 34 :: t1) (m := [34]) rfl rfl (by simp; omega)
    go_enter Tryd.func35, Tryd.ntmps35
    go_wp2
    go_ret
    exact ⟨rfl, ball w _⟩
  · have hk3' : (k1 == 3) = false := by simpa using hk3
    rw [show Tok.sourceL (k1, t1, a1) = t1 by unfold Tok.sourceL; rw [if_neg hk3]]
    go_enter Tryd.func35, Tryd.ntmps35
    go_wp2
    go_ret
    exact ⟨rfl, ball w _⟩
set_option maxRecDepth 100000 in
set_option maxHeartbeats 4000000 in
theorem refApart_any (k1 a1 k2 a2 : Int) (t1 t2 : List UInt8) (w : World) (h1 : t1.length ≤ 1000000) :
    Calls Tryd.prog 36 #[.agg #[.int .i64 k1, .string ⟨t1.toArray⟩, .int .i64 a1], .agg #[.int .i64 k2, .string ⟨t2.toArray⟩, .int .i64 a2]] w fun e w' => e = .returned (.bool (Tok.apartB k1 t1 k2 t2)) ∧ Below w.heap.size w w' := by
  obtain ⟨R, hR⟩ : ∃ R, Tok.apartB k1 t1 k2 t2 = R := ⟨_, rfl⟩
  rw [hR]
  have HB := kept (((ball w (.cells #[.int .i64 k1, .string ⟨t1.toArray⟩, .int .i64 a1] 36)).alloc (by simp) (.cells #[.int .i64 k2, .string ⟨t2.toArray⟩, .int .i64 a2] 36)))
  have HR := kept hR
  clear hR
  cases t2 with
  | nil =>
    go_enter Tryd.func36, Tryd.ntmps36
    go_wp2
    all_goals go_ret
    all_goals refine ⟨ret_bool ?_, (ball w _).alloc (by simp) _⟩
    all_goals (rw [← HR.out]; unfold Tok.apartB; (try simp only [beq_iff_eq, beq_eq_false_iff_ne, bne_iff_ne, ne_eq] at *); simp [*])
  | cons c r =>
    obtain ⟨u, hu, u0, u1⟩ := byte_int c
    have hc : ∀ h, (⟨(c :: r).toArray⟩ : ByteArray)[0]'h = c := fun h => rfl
    have h61 : (c = 61) = (u = 61) := by rw [← hu]; apply propext; rw [← UInt8.toNat_inj]; simp; omega
    have h62 : (c = 62) = (u = 62) := by rw [← hu]; apply propext; rw [← UInt8.toNat_inj]; simp; omega
    have H61 := kept h61; have H62 := kept h62
    clear h61 h62
    go_enter Tryd.func36, Tryd.ntmps36
    go_wp2
    all_goals go_ret
    all_goals refine ⟨ret_bool ?_, (ball w _).alloc (by simp) _⟩
    all_goals (try simp only [beq_iff_eq, beq_eq_false_iff_ne, bne_iff_ne, ne_eq] at *)
    all_goals (rw [← HR.out]; unfold Tok.apartB; simp only [List.take_succ_cons, List.take_zero, List.cons.injEq, and_true, H61.out, H62.out]; simp [*])
set_option maxHeartbeats 400000 in
theorem addrLetter_any (b : UInt8) (w : World) :
    Calls Tryd.prog 71 #[.int .u8 b.toNat] w fun e w' => e = .returned (.bool (Tok.isLetter b)) ∧ w = w' := by
  rw [Tok.isLetter_int]
  obtain ⟨u, hu, h0, h1⟩ := byte_int b
  rw [hu]
  clear hu
  go_enter Tryd.func71, Tryd.ntmps71
  go_wp2
  all_goals go_ret
  all_goals refine ⟨ret_bool ?_, rfl⟩
  all_goals (try simp only [beq_iff_eq, beq_eq_false_iff_ne, ne_eq] at *)
  all_goals (rw [Bool.eq_iff_iff]; simp only [Bool.or_eq_true, Bool.and_eq_true, decide_eq_true_eq, beq_iff_eq, Bool.false_eq_true, true_iff, false_iff]; omega)
theorem Tok.ident_nil : Tok.identB [] = false := rfl
theorem Tok.ident_long (t : List UInt8) (h : 64 < t.length) : Tok.identB t = false := by
  cases t with
  | nil => rfl
  | cons b t => simp only [Tok.identB]; rw [decide_eq_false (by omega)]; rfl
theorem Tok.ident_head (t : List UInt8) (h : 0 < t.length) (hl : Tok.isLetter t[0] = false) : Tok.identB t = false := by
  cases t with
  | nil => rfl
  | cons b t => simp only [Tok.identB]; rw [show Tok.isLetter b = false from hl]; simp
theorem Tok.ident_bad (t : List UInt8) (k : Nat) (h : k < t.length) (h1 : Tok.isLetter t[k] = false) (h2 : Tok.isDigit t[k] = false) : Tok.identB t = false := by
  cases hx : Tok.identB t with
  | false => rfl
  | true =>
    cases t with
    | nil => cases hx
    | cons b t =>
      simp only [Tok.identB, Bool.and_eq_true, List.all_eq_true] at hx
      have := hx.2 (b :: t)[k] (List.getElem_mem h)
      rw [h1, h2] at this; cases this
theorem Tok.ident_good (t : List UInt8) (h0 : 0 < t.length) (h64 : t.length ≤ 64) (hl : Tok.isLetter t[0] = true) (h : ∀ k (h : k < t.length), Tok.isLetter t[k] = true ∨ Tok.isDigit t[k] = true) : Tok.identB t = true := by
  cases t with
  | nil => simp at h0
  | cons b t =>
    simp only [Tok.identB, Bool.and_eq_true, List.all_eq_true, decide_eq_true_eq]
    refine ⟨⟨h64, hl⟩, fun x hx => ?_⟩
    obtain ⟨k, hk, rfl⟩ := List.mem_iff_getElem.1 hx
    rcases h k hk with h | h <;> simp [h]
theorem get_mk (t : List UInt8) (k : Nat) (h : k < (⟨t.toArray⟩ : ByteArray).size) : (⟨t.toArray⟩ : ByteArray)[k] = t[k]'(by rw [size_mk] at h; exact h) := rfl
set_option maxRecDepth 100000 in
set_option maxHeartbeats 4000000 in
theorem refIdent_any (t : List UInt8) (w : World) (ht : t.length ≤ 1000000) :
    Calls Tryd.prog 58 #[.string ⟨t.toArray⟩] w fun e w' => e = .returned (.bool (Tok.identB t)) ∧ Below w.heap.size w w' := by
  obtain ⟨R, hR⟩ : ∃ R, Tok.identB t = R := ⟨_, rfl⟩
  rw [hR]
  by_cases h0 : t.length = 0
  · have HR := kept (show false = R by rw [← hR, List.eq_nil_of_length_eq_zero h0]; rfl)
    obtain rfl := List.eq_nil_of_length_eq_zero h0
    clear hR
    go_enter Tryd.func58, Tryd.ntmps58
    go_wp2
    go_ret
    exact ⟨ret_bool HR.out, Below.refl _ _⟩
  have h0' : t.isEmpty = false := by cases t <;> simp_all
  have h0e : (t == []) = false := by cases t <;> simp_all
  by_cases h64 : 64 < t.length
  · have h64' : (64 : Int) < t.length := by omega
    have HR := kept (show false = R by rw [← hR, Tok.ident_long t h64])
    clear hR
    go_enter Tryd.func58, Tryd.ntmps58
    go_wp2
    go_ret
    exact ⟨ret_bool HR.out, Below.refl _ _⟩
  have h64' : ¬ (64 : Int) < t.length := by omega
  have hp : 0 < t.length := by omega
  have hp' : (0 : Int) < t.length := by omega
  have hsz : 0 < (⟨t.toArray⟩ : ByteArray).size := by rw [size_mk]; omega
  have Hlt := kept (fun w => addrLetter_any ((⟨t.toArray⟩ : ByteArray)[0]'hsz) w)
  rw [show Tok.isLetter ((⟨t.toArray⟩ : ByteArray)[0]'hsz) = Tok.isLetter t[0] from rfl] at Hlt
  rcases bool_or (Tok.isLetter t[0]) with hl | hl
  · rw [hl] at Hlt
    have Hgood := kept (Tok.ident_good t hp (by omega) hl)
    have Hbad := kept (Tok.ident_bad t)
    clear hl
    go_enter Tryd.func58, Tryd.ntmps58
    go_wp2_with fail
    (with_reducible refine (Hlt.out _).mono ?_); rintro e w1 ⟨rfl, rfl⟩
    go_wp2
    go_loopw [3] (fun iv wr => ∃ (k n : Nat), k ≤ t.length ∧ iv = .int .i64 k ∧ wr = w.drewN n ∧ (∀ i (h : i < t.length), i < k → Tok.isLetter t[i] = true ∨ Tok.isDigit t[i] = true)) (fun iv _ => t.length - (intOf iv).toNat)
    case atStart => exact ⟨0, 0, by omega, rfl, rfl, fun i _ h => by omega⟩
    case round =>
      obtain ⟨k, n, hk, rfl, rfl, hall⟩ := hrel
      have Hall := kept hall; clear hall
      by_cases hlt : k < t.length
      · have hlt' : (k : Int) < t.length := by omega
        have hks : k < (⟨t.toArray⟩ : ByteArray).size := by rw [size_mk]; omega
        have Hlk := kept (fun w => addrLetter_any ((⟨t.toArray⟩ : ByteArray)[k]'hks) w)
        rw [show Tok.isLetter ((⟨t.toArray⟩ : ByteArray)[k]'hks) = Tok.isLetter t[k] from rfl] at Hlk
        have Hbk := kept (Hbad.out k hlt)
        obtain ⟨u, hu, hu0, hu1⟩ := byte_int ((⟨t.toArray⟩ : ByteArray)[k]'hks)
        rw [hu] at Hlk
        have Hdg := kept (show Tok.isDigit t[k] = decide (48 ≤ u ∧ u ≤ 57) by rw [← hu]; exact Tok.isDigit_int t[k])
        rcases bool_or (Tok.isLetter t[k]) with hl | hl
        · rw [hl] at Hlk
          have Hl1 := kept hl
          clear hl
          go_wp2_with fail
          (with_reducible refine (Hlk.out _).mono ?_); rintro e w1 ⟨rfl, rfl⟩
          go_wp2
          refine ⟨⟨k + 1, _, by omega, by go_num, rfl, fun i h1 hi => ?_⟩, by simp [intOf]; omega⟩
          by_cases hik : i = k
          · subst hik; exact .inl Hl1.out
          · exact Hall.out i h1 (by omega)
        · rw [hl] at Hlk
          have Hb2 := kept (Hbk.out hl)
          clear hl
          by_cases hd : 48 ≤ u ∧ u ≤ 57
          · have hd1 : ¬ u < 48 := by omega
            have hd2 : ¬ 57 < u := by omega
            have Hd1 := kept (show Tok.isDigit t[k] = true by rw [Hdg.out, decide_eq_true hd])
            clear hd
            go_wp2_with fail
            (with_reducible refine (Hlk.out _).mono ?_); rintro e w1 ⟨rfl, rfl⟩
            go_wp2
            refine ⟨⟨k + 1, _, by omega, by go_num, rfl, fun i h1 hi => ?_⟩, by simp [intOf]; omega⟩
            by_cases hik : i = k
            · subst hik; exact .inr Hd1.out
            · exact Hall.out i h1 (by omega)
          · have HR := kept (show false = R by rw [← hR, Hb2.out (by rw [Hdg.out, decide_eq_false hd])])
            clear hR Hdg
            by_cases hd1 : u < 48
            · clear hd
              go_wp2_with fail
              (with_reducible refine (Hlk.out _).mono ?_); rintro e w1 ⟨rfl, rfl⟩
              go_wp2
              go_ret
              exact ⟨ret_bool HR.out, below_drewN (Below.refl _ _) _⟩
            · have hd2 : 57 < u := by omega
              clear hd
              go_wp2_with fail
              (with_reducible refine (Hlk.out _).mono ?_); rintro e w1 ⟨rfl, rfl⟩
              go_wp2
              go_ret
              exact ⟨ret_bool HR.out, below_drewN (Below.refl _ _) _⟩
      · have HR := kept (show true = R by rw [← hR]; exact (Hgood.out (fun i h => Hall.out i h (by omega))).symm)
        have hlt' : ¬ (k : Int) < t.length := by omega
        clear hR
        go_wp2
        go_ret
        exact ⟨ret_bool HR.out, below_drewN (Below.refl _ _) _⟩
  · rw [hl] at Hlt
    have HR := kept (show false = R by rw [← hR, Tok.ident_head t hp hl])
    clear hl hR
    go_enter Tryd.func58, Tryd.ntmps58
    go_wp2_with fail
    (with_reducible refine (Hlt.out _).mono ?_); rintro e w1 ⟨rfl, rfl⟩
    go_wp2
    go_ret
    exact ⟨ret_bool HR.out, Below.refl _ _⟩
set_option maxRecDepth 100000 in
set_option maxHeartbeats 4000000 in
theorem refRight_any (k1 a : Int) (t : List UInt8) (w : World) (ht : t.length ≤ 10000) :
    Calls Tryd.prog 34 #[.agg #[.int .i64 k1, .string ⟨t.toArray⟩, .int .i64 a]] w fun e w' => e = .returned (.bool (Tok.rightB (k1, t, a))) ∧ Below w.heap.size w w' := by
  obtain ⟨R, hR⟩ : ∃ R, Tok.rightB (k1, t, a) = R := ⟨_, rfl⟩
  rw [hR]
  have B0 := kept (ball w (.cells #[.int .i64 k1, .string ⟨t.toArray⟩, .int .i64 a] 36))
  unfold Tok.rightB at hR
  simp only at hR
  by_cases c1 : k1 = 1
  · subst c1
    rw [if_pos rfl] at hR
    have Hi := kept (fun w => refIdent_any t w (by omega))
    rw [hR] at Hi
    clear hR
    go_enter Tryd.func34, Tryd.ntmps34
    go_wp2_with fail
    (with_reducible refine (Hi.out _).mono ?_); rintro e w1 ⟨rfl, b1⟩
    have B1 := kept (bthen B0.out b1)
    clear b1
    go_wp2
    go_ret
    exact ⟨rfl, B1.out⟩
  rw [if_neg c1] at hR
  have e1 : (k1 == 1) = false := by simpa using c1
  by_cases c2 : k1 = 2
  · subst c2
    rw [if_pos rfl] at hR
    by_cases h0 : t = []
    · subst h0
      have HR := kept (show false = R from hR)
      clear hR
      go_enter Tryd.func34, Tryd.ntmps34
      go_wp2
      go_quiet (fail)
      go_wp2
      go_ret
      exact ⟨ret_bool HR.out, below_drewN B0.out _⟩
    · have h0e : (t == []) = false := by simpa using h0
      have h0' : t.isEmpty = false := by cases t <;> simp_all
      have Hr := kept (fun w => refRun_any ⟨t.toArray⟩ 0 false w (by rw [size_mk]; omega) (by omega))
      have hsp : (0 + Tok.spanN (fun c => (false && Tok.isLetter c) || Tok.isDigit c) (List.drop 0 (⟨t.toArray⟩ : ByteArray).data.toList)) = Tok.spanN Tok.isDigit t := by
        rw [Nat.zero_add]; rfl
      rw [hsp, show ((0 : Nat) : Int) = 0 from rfl] at Hr
      have HR := kept (show (((Tok.spanN Tok.isDigit t : Nat) : Int) == (t.length : Int)) = R by
        rw [← hR, Bool.eq_iff_iff]; simp [h0]; omega)
      clear hR hsp h0
      generalize Tok.spanN Tok.isDigit t = q at *
      go_enter Tryd.func34, Tryd.ntmps34
      go_wp2
      go_quiet ((go_at_call 56; exact Calls.quiet_of_same ((Hr.out _).mono (fun _ _ ⟨h1, h2⟩ => ⟨h1, h2.symm⟩))))
      go_wp2
      go_ret
      exact ⟨ret_bool HR.out, below_drewN B0.out _⟩
  rw [if_neg c2] at hR
  have e2 : (k1 == 2) = false := by simpa using c2
  by_cases c3 : k1 = 3
  · subst c3
    rw [if_pos rfl] at hR
    obtain ⟨S, hS⟩ : ∃ S, t ++ [34] = S := ⟨_, rfl⟩
    have hSl : S.length = t.length + 1 := by rw [← hS]; simp
    have hs1 : ∀ w : World, (Op.stringOp .add ⟨t.toArray⟩ ⟨#[34]⟩).run Tryd.prog w = .ok (.string ⟨S.toArray⟩) w := fun w => by rw [← hS]; exact run_cat w rfl rfl (by simp; omega)
    have Htx := kept (fun w => refText_any ⟨S.toArray⟩ (by rw [size_mk]; omega) 32 0 0 0 w rfl (by omega))
    rw [show List.drop 0 (⟨S.toArray⟩ : ByteArray).data.toList = S from rfl, show ((0 : Nat) : Int) = 0 from rfl] at Htx
    rw [hS] at hR
    clear hS
    obtain ⟨r, hr⟩ : ∃ r, Tok.src 32 S = r := ⟨_, rfl⟩
    rw [hr] at Htx hR
    have hne := Tok.src_ne 32 S
    rw [hr] at hne
    clear hr
    cases r with
    | ok n =>
      have HR := kept (show (((n : Nat) : Int) == (t.length : Int)) = R by
        rw [← hR, Bool.eq_iff_iff]; simp; omega)
      clear hR hne
      unfold readEnd diagV at Htx
      go_enter Tryd.func34, Tryd.ntmps34
      go_wp2_with fail
      (with_reducible refine (Htx.out _).mono ?_); rintro e w1 ⟨rfl, b1⟩
      have B1 := kept (bthen B0.out b1)
      obtain ⟨z0, z1, z2, _, _, _⟩ := ((Tri.below (Tri.fresh w 36 (.int .i64 3) (.string ⟨t.toArray⟩) (.int .i64 a)) b1).below (ball w1 (.cells #[.int .i64 0, .int .i64 0, .string ⟨#[]⟩] 26))).facts
      clear b1
      go_wp2
      go_ret
      exact ⟨ret_bool HR.out, B1.out.alloc (by have := B1.out.size; omega) _⟩
    | err k0 a0 =>
      have hk0 : (k0 == 0) = false := by simpa using hne k0 a0 rfl
      have HR := kept (show false = R by rw [← hR]; simp)
      clear hR hne
      unfold readEnd diagV at Htx
      go_enter Tryd.func34, Tryd.ntmps34
      go_wp2_with fail
      (with_reducible refine (Htx.out _).mono ?_); rintro e w1 ⟨rfl, b1⟩
      have B1 := kept (bthen B0.out b1)
      clear b1
      go_wp2
      go_ret
      exact ⟨ret_bool HR.out, B1.out.alloc (by have := B1.out.size; omega) _⟩
    | trunc =>
      have HR := kept (show false = R by rw [← hR]; simp)
      clear hR hne
      unfold readEnd diagV at Htx
      go_enter Tryd.func34, Tryd.ntmps34
      go_wp2_with fail
      (with_reducible refine (Htx.out _).mono ?_); rintro e w1 ⟨rfl, b1⟩
      have B1 := kept (bthen B0.out b1)
      clear b1
      go_wp2
      go_ret
      exact ⟨ret_bool HR.out, B1.out.alloc (by have := B1.out.size; omega) _⟩
  rw [if_neg c3] at hR
  have e3 : (k1 == 3) = false := by simpa using c3
  by_cases c4 : k1 = 4
  · subst c4
    rw [if_pos rfl] at hR
    by_cases h0 : t = []
    · subst h0
      have HR := kept (show false = R from hR)
      clear hR
      go_enter Tryd.func34, Tryd.ntmps34
      go_wp2
      go_quiet (fail)
      go_wp2
      go_ret
      exact ⟨ret_bool HR.out, below_drewN B0.out _⟩
    · have h0e : (t == []) = false := by simpa using h0
      have h0' : t.isEmpty = false := by cases t <;> simp_all
      have hsz : 0 < (⟨t.toArray⟩ : ByteArray).size := by rw [size_mk]; cases t <;> simp_all
      have Hr := kept (fun w => refSign_any ⟨t.toArray⟩ 0 w (by rw [size_mk]; omega) hsz)
      rw [show List.drop 0 (⟨t.toArray⟩ : ByteArray).data.toList = t from rfl, show ((0 : Nat) : Int) = 0 from rfl] at Hr
      have hsl := (Tok.sign_le ⟨t.toArray⟩ 0 hsz).2
      rw [show List.drop 0 (⟨t.toArray⟩ : ByteArray).data.toList = t from rfl, size_mk] at hsl
      obtain ⟨u, hu⟩ : ∃ u, t.take (Tok.signN t) = u := ⟨_, rfl⟩
      have HR := kept (show (u == t) = R by
        rw [← hR, ← hu, Bool.eq_iff_iff]
        simp only [beq_iff_eq, Bool.and_eq_true, bne_iff_ne, ne_eq, h0, not_false_eq_true, true_and]
        constructor
        · intro h
          have := congrArg List.length h
          rw [List.length_take] at this; omega
        · intro h; rw [h]; simp)
      rw [hu] at Hr
      clear hR hu hsl h0
      go_enter Tryd.func34, Tryd.ntmps34
      go_wp2
      go_region_with (go_at_call 55; refine (Hr.out _).mono ?_; rintro e w1 ⟨rfl, b1⟩; obtain ⟨x0, x1, x2, _, _, _⟩ := (Tri.below (show Tri (w.alloc (.cells #[.int .i64 4, .string ⟨t.toArray⟩, .int .i64 a] 36)).drew w.heap.size 36 _ _ _ from Tri.fresh w _ _ _ _) b1).facts)
      all_goals
        have B1 := kept (bthen B0.out (bthen (bdrew _) b1))
        clear b1
        go_wp2
        go_ret
        exact ⟨ret_bool HR.out, B1.out⟩
  rw [if_neg c4] at hR
  have e4 : (k1 == 4) = false := by simpa using c4
  by_cases c5 : k1 = 5
  · subst c5
    rw [if_pos rfl] at hR
    have HR := kept hR
    clear hR
    go_enter Tryd.func34, Tryd.ntmps34
    go_wp2
    go_ret
    exact ⟨ret_bool HR.out, B0.out⟩
  · rw [if_neg c5] at hR
    have e5 : (k1 == 5) = false := by simpa using c5
    have HR := kept hR
    clear hR
    go_enter Tryd.func34, Tryd.ntmps34
    go_wp2
    go_ret
    exact ⟨ret_bool HR.out, B0.out⟩
theorem Tok.sourceL_le (t : Tok.TI) : (Tok.sourceL t).length ≤ t.2.1.length + 2 := by
  unfold Tok.sourceL
  split
  · simp
  · omega
set_option maxRecDepth 100000 in
set_option maxHeartbeats 4000000 in
theorem refFormat_any (l : List Tok.TI) (v : Value) (w : World) (hv : ReadsT w v l) (hsm : Tok.Small l) :
    Calls Tryd.prog 18 #[v] w fun e w' => e = .returned (.string ⟨(Tok.fmt l).toArray⟩) ∧ Below w.heap.size w w' := by
  obtain ⟨a, cap, rfl, _, hc⟩ := hv
  have HC := kept hc
  have HF := kept (Tok.fmtN_le l hsm)
  have Hsm := kept hsm
  have hlen := hsm.len
  clear hc hsm
  go_enter Tryd.func18, Tryd.ntmps18
  go_wp2
  go_loopw [4, 3] (fun iv sv wr => ∃ k : Nat, k ≤ l.length ∧ iv = .int .i64 k ∧ sv = .string ⟨(Tok.fmtN l k).toArray⟩ ∧ Below w.heap.size w wr) (fun iv _ _ => l.length - (intOf iv).toNat)
  case atStart => exact ⟨0, by omega, rfl, rfl, Below.refl _ _⟩
  case round =>
    obtain ⟨k, hk, rfl, rfl, hbel⟩ := hrel
    have HL := kept hbel
    have hwr := hbel.size
    clear hbel
    by_cases hlt : k < l.length
    · have hlt' : (k : Int) < l.length := by omega
      obtain ⟨g, off, rfl, x0, x1, x2⟩ := HC.out k hlt
      have Hst := kept (Tok.fmtN_succ l k hlt)
      have ht := Hsm.out.text k hlt
      have hle := HF.out k hk
      have Hgs := kept (fun j (hj : k = j + 1) => show Tok.gapB l k = Tok.apartT (l[j]'(by omega)) l[k] by subst hj; exact Tok.gapB_succ l j hlt)
      obtain ⟨⟨k1, t1, a1⟩, hx⟩ : ∃ x, l[k] = x := ⟨_, rfl⟩
      rw [hx] at x0 x1 x2 ht Hst Hgs
      simp only at x0 x1 x2 ht
      have x0 := (HL.out.cell (cell_lt' x0)).trans x0; have x1 := (HL.out.cell (cell_lt' x1)).trans x1; have x2 := (HL.out.cell (cell_lt' x2)).trans x2
      clear hx
      generalize Tok.fmtN l k = acc at *
      have hle' : acc.length ≤ 200000000 := by omega
      clear hle
      have Hsrc := kept (fun w => refSource_any k1 a1 t1 w (by omega))
      have hsl := Tok.sourceL_le (k1, t1, a1)
      simp only at hsl
      obtain ⟨S, hS⟩ : ∃ S, Tok.sourceL (k1, t1, a1) = S := ⟨_, rfl⟩
      rw [hS] at Hsrc Hst hsl
      by_cases hk0 : k = 0
      · subst hk0
        simp only [Nat.zero_mul, Nat.add_zero] at x0 x1 x2
        rw [show ((0 : Nat) : Int) = 0 from rfl]
        have Hst2 := kept (Hst.out)
        rw [Tok.gapB_zero] at Hst2
        have Hst3 := kept (show Tok.fmtN l (0 + 1) = acc ++ S from Hst2.out)
        have hc2 : ∀ w : World, (Op.stringOp .add ⟨acc.toArray⟩ ⟨S.toArray⟩).run Tryd.prog w = .ok (.string ⟨(acc ++ S).toArray⟩) w := fun w => run_cat w rfl rfl (by omega)
        clear Hst Hgs Hst2 hS
        go_wp2
        go_quiet (fail)
        go_wp2_with fail
        (with_reducible refine (Hsrc.out _).mono ?_); rintro e w5 ⟨rfl, b5⟩
        have HL5 := kept (bthen2 (below_drewN HL.out nq) b5 (by simpa using hwr))
        clear b5
        go_wp2
        exact ⟨⟨0 + 1, by omega, by go_num, by rw [Hst3.out], HL5.out⟩, by simp [intOf]; omega⟩
      · obtain ⟨j, hj⟩ : ∃ j, k = j + 1 := ⟨k - 1, by omega⟩
        have hjl0 : j < l.length := by omega
        obtain ⟨g', off', hgg, y0, y1, y2⟩ := HC.out j hjl0
        injection hgg with hgg; injection hgg with h1 h2; subst h1; subst h2
        have ht0 := Hsm.out.text j hjl0
        have Hg2 := kept (Hgs.out j hj)
        obtain ⟨⟨k0, t0, a0⟩, hy⟩ : ∃ x, l[j]'hjl0 = x := ⟨_, rfl⟩
        rw [hy] at y0 y1 y2 Hg2 ht0
        simp only at y0 y1 y2 ht0
        have y0 := (HL.out.cell (cell_lt' y0)).trans y0; have y1 := (HL.out.cell (cell_lt' y1)).trans y1; have y2 := (HL.out.cell (cell_lt' y2)).trans y2
        clear hy Hgs
        have hj0 : (0 : Int) < (k : Int) := by omega
        have hj1 : 0 < k := by omega
        have hjd : decide (0 < k) = true := by simpa using hj1
        have hw1 : IntKind.i64.wrap ((k : Int) - 1) = (j : Int) := by rw [IntWalk.i64_in _ (by omega)]; omega
        have hjl : (j : Int) < l.length := by omega
        have Hj := kept hj
        clear hj hk0
        have Hap := kept (fun w => refApart_any k0 a0 k1 a1 t0 t1 w (by omega))
        have hs1 : ∀ w : World, (Op.stringOp .add ⟨acc.toArray⟩ ⟨#[32]⟩).run Tryd.prog w = .ok (.string ⟨(acc ++ [32]).toArray⟩) w := fun w => run_cat w rfl rfl (by simp; omega)
        have hs2 : ∀ w : World, (Op.stringOp .add ⟨(acc ++ [32]).toArray⟩ ⟨S.toArray⟩).run Tryd.prog w = .ok (.string ⟨((acc ++ [32]) ++ S).toArray⟩) w := fun w => run_cat w rfl rfl (by simp; omega)
        have hs3 : ∀ w : World, (Op.stringOp .add ⟨acc.toArray⟩ ⟨S.toArray⟩).run Tryd.prog w = .ok (.string ⟨(acc ++ S).toArray⟩) w := fun w => run_cat w rfl rfl (by omega)
        have Hst2 := kept (Hst.out)
        rw [Hg2.out] at Hst2
        rw [show Tok.apartT (k0, t0, a0) (k1, t1, a1) = Tok.apartB k0 t0 k1 t1 from rfl] at Hst2
        clear Hst Hg2 hS
        go_wp2
        go_still_tail 12, (by kernel_rfl)
        change wpList _ _ _ _ _ wr.drew
        go_wp2_with fail
        (with_reducible refine (Hap.out _).mono ?_); rintro e w5 ⟨rfl, b5⟩
        all_goals
          have B5 := kept (bthen (bdrew wr) b5)
          have HL5 := kept (bthen2 HL.out B5.out hwr)
          have z0 := (B5.out.cell (cell_lt' x0)).trans x0
          have z1 := (B5.out.cell (cell_lt' x1)).trans x1
          have z2 := (B5.out.cell (cell_lt' x2)).trans x2
          have hs5 := HL5.out.size
          clear b5 y0 y1 y2 x0 x1 x2
          generalize Tok.apartB k0 t0 k1 t1 = r at *
          cases r with
          | true =>
            have Hst3 := kept (show Tok.fmtN l (k + 1) = (acc ++ [32]) ++ S from Hst2.out)
            clear Hst2
            go_wp2_with fail
            (with_reducible refine (Hsrc.out _).mono ?_); rintro e w6 ⟨rfl, b6⟩
            have HL6 := kept (bthen2 HL5.out b6 hs5)
            clear b6
            go_wp2
            exact ⟨⟨k + 1, by omega, by go_num, by rw [Hst3.out] <;> simp, HL6.out⟩, by simp [intOf]; omega⟩
          | false =>
            have Hst3 := kept (show Tok.fmtN l (k + 1) = acc ++ S from Hst2.out)
            clear Hst2
            go_wp2_with fail
            (with_reducible refine (Hsrc.out _).mono ?_); rintro e w6 ⟨rfl, b6⟩
            have HL6 := kept (bthen2 HL5.out b6 hs5)
            clear b6
            go_wp2
            exact ⟨⟨k + 1, by omega, by go_num, by rw [Hst3.out], HL6.out⟩, by simp [intOf]; omega⟩
    · obtain rfl : k = l.length := by omega
      have hlt' : ¬ (l.length : Int) < l.length := by omega
      go_wp2
      go_ret
      exact ⟨rfl, HL.out⟩
set_option maxRecDepth 100000 in
set_option maxHeartbeats 8000000 in
theorem refCheck_any (l : List Tok.TI) (v : Value) (w : World) (hv : ReadsT w v l) (hsm : Tok.Small l) :
    Calls Tryd.prog 16 #[v] w fun e w' => e = .returned (.int .i64 (Tok.checkZ l)) ∧ Below w.heap.size w w' := by
  obtain ⟨R, hR⟩ : ∃ R, Tok.checkZ l = R := ⟨_, rfl⟩
  rw [hR]
  obtain ⟨a, cap, rfl, hcap, hc⟩ := hv
  have HC := kept hc
  have Hsm := kept hsm
  have hlen := hsm.len
  have hl1 : ¬ (16384 : Int) < l.length := by omega
  clear hc
  by_cases h0 : l.length = 0
  · have HR := kept (show (1 : Int) = R by rw [← hR, List.eq_nil_of_length_eq_zero h0, Tok.check_nil])
    have h0' : ((l.length : Int) == 0) = true := by rw [h0]; rfl
    clear hR h0
    go_enter Tryd.func16, Tryd.ntmps16
    go_wp2
    go_ret
    exact ⟨ret_int HR.out, Below.refl _ _⟩
  have h0' : ((l.length : Int) == 0) = false := by
    rw [beq_eq_false_iff_ne]; omega
  obtain ⟨m, hm⟩ : ∃ m, l.length = m + 1 := ⟨l.length - 1, by omega⟩
  have hmlt : m < l.length := by omega
  obtain ⟨g, off, rfl, x0, x1, x2⟩ := HC.out m hmlt
  obtain ⟨⟨k1, t1, a1⟩, hx⟩ : ∃ x, l[m] = x := ⟨_, rfl⟩
  have hla : (l[l.length - 1]'(by omega)) = (k1, t1, a1) := by rw [← hx]; congr 1; omega
  have HlE : Kept ((k1 == 6 && t1 == []) = false → Tok.checkZ l = 1) := kept (fun h => Tok.check_last l (by omega) (by rw [hla]; exact h))
  have HbE : Kept (∀ i, i < m → ∀ hil : i < l.length, Tok.validB l[i] = false → Tok.checkZ l = 1) := kept (fun i hi hil hv => Tok.check_bad l (by omega) i (by omega) hv)
  have HgE : Kept ((k1 == 6 && t1 == []) = true → (∀ i, i < m → ∀ hil : i < l.length, Tok.validB l[i] = true) → Tok.checkZ l = if 65536 < (Tok.gapped l m).length then 3 else 0) := kept (fun h hv => by
    have h1 := Tok.check_good l (by omega) (by rw [hla]; exact h) (fun i hi => hv i (by omega) (by omega))
    simp only [Bool.and_eq_true, beq_iff_eq] at h
    rw [h1, Tok.fmt_last l m hm (by rw [hx]; exact h.1) (by rw [hx]; exact h.2)])
  have HgL := kept (Tok.gapped_le l hsm)
  clear hsm
  rw [hx] at x0 x1 x2
  simp only at x0 x1 x2
  clear hla
  have hw1 : IntKind.i64.wrap ((l.length : Int) - 1) = (m : Int) := by rw [IntWalk.i64_in _ (by omega)]; omega
  have hml : (m : Int) < l.length := by omega
  have Hm := kept hm
  clear hx h0 hm hmlt
  by_cases hk6 : k1 = 6
  · subst hk6
    by_cases ht : t1 = []
    · subst ht
      have HgE2 := kept (HgE.out rfl)
      clear HlE HgE
      go_enter Tryd.func16, Tryd.ntmps16
      go_wp2
      go_loopw [4, 3] (fun iv nv wr => ∃ k : Nat, k ≤ m ∧ iv = .int .i64 k ∧ nv = .int .i64 ((Tok.gapped l k).length : Int) ∧ Below w.heap.size w wr ∧ ∀ i, i < m → i < k → ∀ hil : i < l.length, Tok.validB l[i] = true) (fun iv _ _ => m - (intOf iv).toNat)
      case atStart => exact ⟨0, by omega, rfl, rfl, Below.refl _ _, fun i _ hi _ => by omega⟩
      case round =>
        obtain ⟨k, hk, rfl, rfl, hbel, hall⟩ := hrel
        have HL := kept hbel; have Hall := kept hall
        have hwr := hbel.size
        clear hbel hall x0 x1 x2
        have hkm := Hm.out
        have hgl := HgL.out k (by omega)
        by_cases hlt : k < m
        · have hkl : k < l.length := by omega
          obtain ⟨k', hk'⟩ : ∃ k', k' = k + 1 := ⟨_, rfl⟩
          have hkl' : k' < l.length := by omega
          have hlt1 : (k' : Int) < l.length := by omega
          have hlt0 : (k : Int) < l.length := by omega
          have hwk : IntKind.i64.wrap ((k : Int) + 1) = (k' : Int) := by rw [IntWalk.i64_in _ (by omega)]; omega
          obtain ⟨g', off', hgg, x0, x1, x2⟩ := HC.out k hkl
          injection hgg with hgg; injection hgg with h1 h2; subst h1; subst h2
          obtain ⟨g', off', hgg, y0, y1, y2⟩ := HC.out k' hkl'
          injection hgg with hgg; injection hgg with h1 h2; subst h1; subst h2
          have ht := Hsm.out.text k hkl
          have ht' := Hsm.out.text k' hkl'
          have HbE2 := kept (HbE.out k hlt hkl)
          have Hgs := kept (show Tok.gapped l k' = (Tok.gapped l k ++ Tok.sourceL (l[k]'hkl)) ++ (if Tok.apartT (l[k]'hkl) (l[k']'hkl') then [32] else []) by subst hk'; exact Tok.gapped_succ l k hkl')
          obtain ⟨⟨k0, t0, a0⟩, hx⟩ : ∃ x, l[k]'hkl = x := ⟨_, rfl⟩
          obtain ⟨⟨k1, t1, a1⟩, hy⟩ : ∃ x, l[k']'hkl' = x := ⟨_, rfl⟩
          rw [hx] at x0 x1 x2 HbE2 ht Hgs
          rw [hy] at y0 y1 y2 ht' Hgs
          have Hx := kept hx
          simp only at x0 x1 x2 y0 y1 y2 ht ht'
          have x0 := (HL.out.cell (cell_lt' x0)).trans x0; have x1 := (HL.out.cell (cell_lt' x1)).trans x1; have x2 := (HL.out.cell (cell_lt' x2)).trans x2
          have y0 := (HL.out.cell (cell_lt' y0)).trans y0; have y1 := (HL.out.cell (cell_lt' y1)).trans y1; have y2 := (HL.out.cell (cell_lt' y2)).trans y2
          have htl : ¬ (65536 : Int) < t0.length := by omega
          have Hrt := kept (fun w => refRight_any k0 a0 t0 w ht)
          rw [Tok.right_valid] at Hrt
          have Hk' := kept hk'
          clear hx hy hk'
          rcases bool_or (Tok.validB (k0, t0, a0)) with hvb | hvb
          · rw [hvb] at Hrt
            have Hv1 := kept (show Tok.validB (l[k]'hkl) = true by rw [Hx.out]; exact hvb)
            have Hsrc := kept (fun w => refSource_any k0 a0 t0 w (by omega))
            have hsl := Tok.sourceL_le (k0, t0, a0)
            simp only at hsl
            have Hap := kept (fun w => refApart_any k0 a0 k1 a1 t0 t1 w (by omega))
            rw [show Tok.apartT (k0, t0, a0) (k1, t1, a1) = Tok.apartB k0 t0 k1 t1 from rfl] at Hgs
            generalize Tok.sourceL (k0, t0, a0) = S at *
            generalize hG : Tok.gapped l k = G at *
            have hG2 : G.length ≤ 200000000 := by omega
            clear hvb HbE2 hgl hG hkm
            go_wp2_with fail
            (with_reducible refine (Hrt.out _).mono ?_); rintro e w5 ⟨rfl, b5⟩
            have HL5 := kept (bthen2 HL.out b5 hwr)
            have x0 := (b5.cell (cell_lt' x0)).trans x0; have x1 := (b5.cell (cell_lt' x1)).trans x1; have x2 := (b5.cell (cell_lt' x2)).trans x2
            have y0 := (b5.cell (cell_lt' y0)).trans y0; have y1 := (b5.cell (cell_lt' y1)).trans y1; have y2 := (b5.cell (cell_lt' y2)).trans y2
            have hs5 := HL5.out.size
            clear b5
            go_wp2_with fail
            (with_reducible refine (Hsrc.out _).mono ?_); rintro e w6 ⟨rfl, b6⟩
            have HL6 := kept (bthen2 HL5.out b6 hs5)
            have x0 := (b6.cell (cell_lt' x0)).trans x0; have x1 := (b6.cell (cell_lt' x1)).trans x1; have x2 := (b6.cell (cell_lt' x2)).trans x2
            have y0 := (b6.cell (cell_lt' y0)).trans y0; have y1 := (b6.cell (cell_lt' y1)).trans y1; have y2 := (b6.cell (cell_lt' y2)).trans y2
            have hs6 := HL6.out.size
            clear b6
            go_wp2
            go_still_tail 9, (by kernel_rfl)
            change wpList _ _ _ _ _ w6.drew
            go_wp2_with fail
            (with_reducible refine (Hap.out _).mono ?_); rintro e w7 ⟨rfl, b7⟩
            have HL7 := kept (bthen2 HL6.out (bthen (bdrew w6) b7) hs6)
            clear b7
            generalize Tok.apartB k0 t0 k1 t1 = r at *
            cases r with
            | true =>
              have Hg3 := kept (show Tok.gapped l k' = (G ++ S) ++ [32] from Hgs.out)
              clear Hgs
              go_wp2
              exact ⟨⟨k', by have := Hk'.out; omega, by have := Hk'.out; go_num, by rw [Hg3.out] <;> first | (simp; done) | (simp; omega), HL7.out, fun i hi hik hil => by
                by_cases hi2 : i = k
                · subst hi2; exact Hv1.out
                · exact Hall.out i hi (by have := Hk'.out; omega) hil⟩, by have := Hk'.out; simp [intOf]; omega⟩
            | false =>
              have Hg3 := kept (show Tok.gapped l k' = G ++ S by rw [Hgs.out]; simp)
              clear Hgs
              go_wp2
              exact ⟨⟨k', by have := Hk'.out; omega, by have := Hk'.out; go_num, by rw [Hg3.out] <;> first | (simp; done) | (simp; omega), HL7.out, fun i hi hik hil => by
                by_cases hi2 : i = k
                · subst hi2; exact Hv1.out
                · exact Hall.out i hi (by have := Hk'.out; omega) hil⟩, by have := Hk'.out; simp [intOf]; omega⟩
          · have HR := kept (show (1 : Int) = R by rw [← hR, HbE2.out hvb])
            rw [hvb] at Hrt
            clear hvb HbE2 hkm hgl
            go_wp2_with fail
            (with_reducible refine (Hrt.out _).mono ?_); rintro e w5 ⟨rfl, b5⟩
            have HL5 := kept (bthen2 HL.out b5 hwr)
            clear b5
            go_wp2
            go_ret
            exact ⟨ret_int HR.out, HL5.out⟩
        · obtain rfl : k = m := by omega
          have hwk : IntKind.i64.wrap ((k : Int) + 1) = (l.length : Int) := by rw [IntWalk.i64_in _ (by omega)]; omega
          have hlt' : ¬ (l.length : Int) < l.length := by omega
          have Hgd := kept (HgE2.out (fun i hi hil => Hall.out i hi hi hil))
          clear HgE2 HbE hkm hgl
          by_cases hbig : 65536 < (Tok.gapped l k).length
          · have hbig' : (65536 : Int) < (Tok.gapped l k).length := by omega
            have HR := kept (show (3 : Int) = R by rw [← hR, Hgd.out, if_pos hbig])
            go_wp2
            go_ret
            exact ⟨ret_int HR.out, HL.out⟩
          · have hbig' : ¬ (65536 : Int) < (Tok.gapped l k).length := by omega
            have HR := kept (show (0 : Int) = R by rw [← hR, Hgd.out, if_neg hbig])
            go_wp2
            go_ret
            exact ⟨ret_int HR.out, HL.out⟩
    · have ht' : (t1 != []) = true := by simpa using ht
      have ht1 : t1.isEmpty = false := by cases t1 <;> simp_all
      have HR := kept (show (1 : Int) = R by rw [← hR, HlE.out (by simpa using ht)])
      clear HlE HbE HgE hR ht
      go_enter Tryd.func16, Tryd.ntmps16
      go_wp2
      go_ret
      exact ⟨ret_int HR.out, Below.refl _ _⟩
  · have hk6' : (k1 != 6) = true := by simpa using hk6
    have HR := kept (show (1 : Int) = R by rw [← hR, HlE.out (by simp [hk6])])
    clear HlE HbE HgE hR hk6
    go_enter Tryd.func16, Tryd.ntmps16
    go_wp2
    go_ret
    exact ⟨ret_int HR.out, Below.refl _ _⟩
set_option maxRecDepth 100000 in
set_option maxHeartbeats 8000000 in
theorem tokenChecks_any (l : List Tok.TI) (v : Value) (w : World) (hv : ReadsT w v l) (hl : l.length ≤ 9223372036854775807) (hT : Lib.Utf8Tabs 1 2 w) :
    Calls Tryd.prog 4 #[v] w fun e w' => e = .returned (.bool true) ∧ Below w.heap.size w w' := by
  have HT := kept hT
  have Ha := kept (fun w hT => awake_any w hT)
  have HV := kept hv
  have Hf := kept (few_any l v w hv hl)
  clear hT hv hl
  rcases bool_or (Tok.fewB l) with hf | hf
  · rw [hf] at Hf
    obtain ⟨hsm, hl3, _⟩ := Tok.few_small l hf
    have Hck := kept (fun w (hv : ReadsT w v l) hT => check_any l v w hv hsm hT)
    have Hrk := kept (fun w (hv : ReadsT w v l) => refCheck_any l v w hv hsm)
    have Hfm := kept (fun w (hv : ReadsT w v l) => format_any l v w hv hsm)
    have Hrf := kept (fun w (hv : ReadsT w v l) => refFormat_any l v w hv hsm)
    clear hf hsm hl3
    generalize Tok.checkZ l = z at *
    generalize Tok.fmt l = F at *
    by_cases hz : z = 0
    · subst hz
      go_enter Tryd.func4, Tryd.ntmps4
      go_wp2_with fail
      (with_reducible refine (Hf.out).mono ?_); rintro e w1 ⟨rfl, b1⟩
      have B1 := kept b1; clear b1
      have HV1 := kept (HV.out.below B1.out)
      have HT1 := kept (Utf8Tabs_below HT.out B1.out)
      go_wp2_with fail
      (with_reducible refine (Hck.out _ HV1.out HT1.out).mono ?_); rintro e w2 ⟨rfl, b2⟩
      have B2 := kept (bthen B1.out b2)
      have HV2 := kept (HV1.out.below b2)
      have HT2 := kept (Utf8Tabs_below HT.out B2.out)
      clear b2
      go_wp2_with fail
      (with_reducible refine (Hrk.out _ HV2.out).mono ?_); rintro e w3 ⟨rfl, b3⟩
      have B3 := kept (bthen B2.out b3)
      have HV3 := kept (HV2.out.below b3)
      clear b3
      go_wp2_with fail
      (with_reducible refine (Hfm.out _ HV3.out).mono ?_); rintro e w4 ⟨rfl, b4⟩
      have B4 := kept (bthen B3.out b4)
      have HV4 := kept (HV3.out.below b4)
      clear b4
      go_wp2_with fail
      (with_reducible refine (Hrf.out _ HV4.out).mono ?_); rintro e w5 ⟨rfl, b5⟩
      have B5 := kept (bthen B4.out b5)
      clear b5
      go_wp2_with fail
      (with_reducible refine (Ha.out _ (Utf8Tabs_below HT.out B5.out)).mono ?_); rintro e w7 ⟨rfl, b7⟩
      have B7 := kept (bthen B5.out b7)
      clear b7
      go_wp2
      go_ret
      exact ⟨rfl, B7.out⟩
    · have hz' : (z == 0) = false := by simpa using hz
      clear hz
      go_enter Tryd.func4, Tryd.ntmps4
      go_wp2_with fail
      (with_reducible refine (Hf.out).mono ?_); rintro e w1 ⟨rfl, b1⟩
      have B1 := kept b1; clear b1
      have HV1 := kept (HV.out.below B1.out)
      have HT1 := kept (Utf8Tabs_below HT.out B1.out)
      go_wp2_with fail
      (with_reducible refine (Hck.out _ HV1.out HT1.out).mono ?_); rintro e w2 ⟨rfl, b2⟩
      have B2 := kept (bthen B1.out b2)
      have HV2 := kept (HV1.out.below b2)
      have HT2 := kept (Utf8Tabs_below HT.out B2.out)
      clear b2
      go_wp2_with fail
      (with_reducible refine (Hrk.out _ HV2.out).mono ?_); rintro e w3 ⟨rfl, b3⟩
      have B3 := kept (bthen B2.out b3)
      have HV3 := kept (HV2.out.below b3)
      clear b3
      go_wp2_with fail
      (with_reducible refine (Ha.out _ (Utf8Tabs_below HT.out B3.out)).mono ?_); rintro e w7 ⟨rfl, b7⟩
      have B7 := kept (bthen B3.out b7)
      clear b7
      go_wp2
      go_ret
      exact ⟨rfl, B7.out⟩
  · rw [hf] at Hf
    go_enter Tryd.func4, Tryd.ntmps4
    go_wp2_with fail
    (with_reducible refine (Hf.out).mono ?_); rintro e w1 ⟨rfl, b1⟩
    have B1 := kept b1; clear b1
    go_wp2_with fail
    (with_reducible refine (Ha.out _ (Utf8Tabs_below HT.out B1.out)).mono ?_); rintro e w7 ⟨rfl, b7⟩
    have B7 := kept (bthen B1.out b7)
    clear b7
    go_wp2
    go_ret
    exact ⟨rfl, B7.out⟩
end Go.Proofs.YtbpaeglmanjbfaaDoor
