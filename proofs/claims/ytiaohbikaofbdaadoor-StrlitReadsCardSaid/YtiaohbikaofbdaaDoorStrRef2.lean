/- The walks of provisionref02: digits, escaped, Quote, Escape. -/
import Derived.Test.YtiaohbikaofbdaaDoorStrRef1
namespace Go.Proofs.YtiaohbikaofbdaaDoor
open Go.RowKit

theorem run_cat3 {P : Program} (w : World) {a b : ByteArray} {l m r : List UInt8} (ha : a.data.toList = l) (hb : b.data.toList = m) (hr : l ++ m = r) (h : r.length < 1099511627776) :
    (Op.stringOp .add a b).run P w = .ok (.string ⟨r.toArray⟩) w := by
  subst hr; exact run_cat w ha hb (by rw [List.length_append] at h; exact h)
theorem hd_extract : ∀ d : Fin 16, ((⟨#[48, 49, 50, 51, 52, 53, 54, 55, 56, 57, 97, 98, 99, 100, 101, 102]⟩ : ByteArray).extract d.val (d.val + 1)).data.toList = [Str.hd d.val] := by decide
theorem hd_str (d : Nat) (h : d < 16) : (⟨#[48, 49, 50, 51, 52, 53, 54, 55, 56, 57, 97, 98, 99, 100, 101, 102]⟩ : ByteArray).extract d (d + 1) = ⟨#[Str.hd d]⟩ := by
  have := hd_extract ⟨d, h⟩
  exact str_of this

set_option maxHeartbeats 400000 in
theorem digits_small (c : Nat) (w : World) (hc : c < 16) :
    Calls Tryd.prog 39 #[.int .i64 c] w fun e w' => e = .returned (.string ⟨(Str.hexL c).toArray⟩) ∧ w = w' := by
  have Hh := kept (show Str.hexL c = [Str.hd c] by rw [Str.hexL, if_pos hc])
  have hx := hd_str c hc
  have hc' : (c : Int) < 16 := by omega
  have hm : (c : Int) % 16 = (c : Int) := by omega
  have hy : (c : Int) < 15 + 1 := by omega
  generalize hq : Str.hd c = q at *
  clear hc hq
  go_enter Tryd.func39, Tryd.ntmps39
  go_wp2
  go_ret
  exact ⟨by rw [Hh.out]; rfl, rfl⟩

set_option maxHeartbeats 400000 in
theorem digits_any (c : Nat) (w : World) (hc : c < 256) :
    Calls Tryd.prog 39 #[.int .i64 c] w fun e w' => e = .returned (.string ⟨(Str.hexL c).toArray⟩) ∧ w = w' := by
  by_cases h16 : c < 16
  · exact digits_small c w h16
  · have Hh := kept (show Str.hexL c = Str.hexL (c / 16) ++ [Str.hd (c % 16)] by
      rw [Str.hexL, if_neg h16, Str.hexL, if_pos (by omega)]; rfl)
    have hx := hd_str (c % 16) (by omega)
    have hl := (Str.hexL_length (c / 16)).2
    have hcat := fun W => run_cat (P := Tryd.prog) W (a := ⟨(Str.hexL (c / 16)).toArray⟩) (b := ⟨#[Str.hd (c % 16)]⟩) (l := Str.hexL (c / 16)) (m := [Str.hd (c % 16)]) rfl rfl (by simp; omega)
    obtain ⟨d, hd⟩ : ∃ d : Nat, (c : Int) % 16 = (d : Int) := ⟨c % 16, by omega⟩
    obtain ⟨f, hf⟩ : ∃ f : Nat, (c : Int) / 16 = (f : Int) := ⟨c / 16, by omega⟩
    obtain rfl : d = c % 16 := by omega
    obtain rfl : f = c / 16 := by omega
    have Hs := kept (show c / 16 < 16 by omega)
    have hb : ((c % 16 : Nat) : Int) < 16 := by omega
    have hfb : ((c / 16 : Nat) : Int) < 16 := by omega
    have hb2 : ((c % 16 : Nat) : Int) < 15 + 1 := by omega
    have hc' : ¬ (c : Int) < 16 := by omega
    generalize hq : Str.hd (c % 16) = q at *
    generalize hg : Str.hexL (c / 16) = g at *
    have Hg := kept hg
    generalize c % 16 = d at *
    generalize c / 16 = f at *
    clear hc hq h16 hl hg
    go_enter Tryd.func39, Tryd.ntmps39
    go_wp2_with (go_at_call 39; refine (digits_small _ _ Hs.out).mono ?_; rintro e w' ⟨rfl, rfl⟩; rw [Hg.out])
    go_ret
    exact ⟨by rw [Hh.out]; rfl, rfl⟩

theorem one_byte (w : World) (b : UInt8) : (convert 34 9 (.slice (some ⟨w.heap.size, 0, none⟩) 1 1)).run Tryd.prog (w.alloc (.cells #[.int .u8 b.toNat] 5)) = .ok (.string ⟨#[b]⟩) (w.alloc (.cells #[.int .u8 b.toNat] 5)) :=
  (BytesAt.lit w 5 [b]).conv (P := Tryd.prog) 34 9 1 Tryd.underlying34 Tryd.underlying5 Tryd.underlying9

set_option maxHeartbeats 800000 in
theorem escaped_any (b : UInt8) (w : World) :
    Calls Tryd.prog 27 #[.int .u8 b.toNat] w fun e w' => e = .returned (.string ⟨(Str.esc b).toArray⟩) ∧ Below w.heap.size w w' := by
  by_cases h1 : b = 10
  · subst h1; go_enter Tryd.func27, Tryd.ntmps27
    go_wp2
    go_ret
    exact ⟨rfl, Below.refl _ _⟩
  by_cases h2 : b = 13
  · subst h2; go_enter Tryd.func27, Tryd.ntmps27
    go_wp2
    go_ret
    exact ⟨rfl, Below.refl _ _⟩
  by_cases h3 : b = 9
  · subst h3; go_enter Tryd.func27, Tryd.ntmps27
    go_wp2
    go_ret
    exact ⟨rfl, Below.refl _ _⟩
  by_cases h4 : b = 34
  · subst h4; go_enter Tryd.func27, Tryd.ntmps27
    go_wp2
    go_ret
    exact ⟨rfl, Below.refl _ _⟩
  by_cases h5 : b = 92
  · subst h5; go_enter Tryd.func27, Tryd.ntmps27
    go_wp2
    go_ret
    exact ⟨rfl, Below.refl _ _⟩
  have hb := b.toNat_lt
  have e1 : ∀ n : Nat, n < 256 → b ≠ UInt8.ofNat n → ((b.toNat : Int) == (n : Int)) = false := fun n hn h => by
    refine beq_eq_false_iff_ne.2 fun hh => h ?_
    rw [← UInt8.toNat_inj, UInt8.toNat_ofNat']; omega
  have f1 : ((b.toNat : Int) == 10) = false := e1 10 (by omega) h1
  have f2 : ((b.toNat : Int) == 13) = false := e1 13 (by omega) h2
  have f3 : ((b.toNat : Int) == 9) = false := e1 9 (by omega) h3
  have f4 : ((b.toNat : Int) == 34) = false := e1 34 (by omega) h4
  have f5 : ((b.toNat : Int) == 92) = false := e1 92 (by omega) h5
  have hob := one_byte w b
  have Hd := kept (fun W => digits_any b.toNat W (by omega))
  have hl := (Str.hexL_length b.toNat).2
  have hcat1 := fun W => run_cat3 (P := Tryd.prog) W (a := ⟨#[92, 117, 123]⟩) (b := ⟨(Str.hexL b.toNat).toArray⟩) (l := [92, 117, 123]) (m := Str.hexL b.toNat) (r := [92, 117, 123] ++ Str.hexL b.toNat) rfl rfl rfl (by simp; omega)
  have hcat2 := fun W => run_cat3 (P := Tryd.prog) W (a := ⟨([92, 117, 123] ++ Str.hexL b.toNat).toArray⟩) (b := ⟨#[125]⟩) (l := [92, 117, 123] ++ Str.hexL b.toNat) (m := [125]) (r := [92, 117, 123] ++ Str.hexL b.toNat ++ [125]) rfl rfl rfl (by simp; omega)
  by_cases h6 : b < 32 ∨ b = 127
  · have He := kept (show Str.esc b = [92, 117, 123] ++ Str.hexL b.toNat ++ [125] by simp only [Str.esc, h1, h2, h3, h4, h5, h6, if_true, if_false])
    generalize hm1 : ([92, 117, 123] ++ Str.hexL b.toNat : List UInt8) = m1 at *
    generalize hm2 : (m1 ++ [125] : List UInt8) = m2 at *
    have hlt : (b.toNat : Int) < 32 ∨ ((b.toNat : Int) == 127) = true ∧ ¬ (b.toNat : Int) < 32 := by
      rcases h6 with h | h
      · left; have := UInt8.lt_iff_toNat_lt.1 h; simp at this; omega
      · right; subst h; decide
    clear h1 h2 h3 h4 h5 h6 e1 hl hob hm1 hm2
    obtain ⟨u, hu⟩ : ∃ u : Int, (b.toNat : Int) = u := ⟨_, rfl⟩
    have hu0 : 0 ≤ u := by omega
    have hu1 : u ≤ 255 := by omega
    have Hu := kept hu
    rw [hu] at f1 f2 f3 f4 f5 hlt
    clear hb hu
    rw [Hu.out]
    rcases hlt with hlt | ⟨hlt, hlt2⟩
    all_goals
      go_enter Tryd.func27, Tryd.ntmps27
      go_wp2_with fail
      rw [← Hu.out]
      refine (Hd.out _).mono ?_; rintro e w' ⟨rfl, rfl⟩
      go_wp2
      go_ret
      exact ⟨by rw [He.out]; rfl, Below.refl _ _⟩
  · have He := kept (show Str.esc b = [b] by simp only [Str.esc, h1, h2, h3, h4, h5, h6, if_false])
    have hlt : ¬ (b.toNat : Int) < 32 := fun h => h6 (.inl (UInt8.lt_iff_toNat_lt.2 (by simp; omega)))
    have hne : ((b.toNat : Int) == 127) = false := e1 127 (by omega) (fun h => h6 (.inr h))
    clear h1 h2 h3 h4 h5 h6 e1 hl hcat1 hcat2
    obtain ⟨u, hu⟩ : ∃ u : Int, (b.toNat : Int) = u := ⟨_, rfl⟩
    have hu0 : 0 ≤ u := by omega
    have hu1 : u ≤ 255 := by omega
    rw [hu] at f1 f2 f3 f4 f5 hlt hne hob ⊢
    clear hb hu
    go_enter Tryd.func27, Tryd.ntmps27
    go_wp2
    go_ret
    exact ⟨by rw [He.out]; rfl, (Below.refl _ _).alloc (Nat.le_refl _) _⟩

theorem take_succ (s : ByteArray) (k : Nat) (h : k < s.size) : s.data.toList.take (k + 1) = s.data.toList.take k ++ [s[k]] := by
  rw [List.take_succ_eq_append_getElem (by simpa using h)]; rfl
theorem len_data (s : ByteArray) : s.data.toList.length = s.size := by simp

set_option maxHeartbeats 800000 in
theorem refQuote_any (s : ByteArray) (w : World) (hs : s.size ≤ 1000000) :
    Calls Tryd.prog 13 #[.string s] w fun e w' => e = .returned (.string ⟨(Str.quote s.data.toList).toArray⟩) ∧ Below w.heap.size w w' := by
  go_enter Tryd.func13, Tryd.ntmps13
  go_wp2
  go_loopw [3, 4] (fun x i wr => ∃ (k : Nat) (acc : List UInt8), k ≤ s.size ∧ i = .int .i64 k ∧ x = .string ⟨acc.toArray⟩ ∧ acc = 34 :: (s.data.toList.take k).flatMap Str.esc ∧ Below w.heap.size w wr) (fun _ i _ => s.size - (intOf i).toNat)
  case atStart => exact ⟨0, [34], by omega, rfl, rfl, rfl, Below.refl _ _⟩
  case round =>
    obtain ⟨k, acc, hk, rfl, rfl, hacc, hbel⟩ := hrel
    have Ha := kept hacc; have Hl := kept hbel
    have hlen : acc.length ≤ 1 + 6 * s.size := by
      rw [hacc]
      have := (Str.flatMap_esc_length (s.data.toList.take k)).2
      rw [List.length_take, len_data] at this
      simp only [List.length_cons]; omega
    clear hacc hbel
    by_cases hlt : k < s.size
    · have hlt' : (k : Int) < s.size := by omega
      obtain ⟨r, hr⟩ : ∃ r, acc ++ Str.esc s[k] = r := ⟨_, rfl⟩
      have hel := (Str.esc_length s[k]).2
      have hcat := fun W => run_cat3 (P := Tryd.prog) W (a := ⟨acc.toArray⟩) (b := ⟨(Str.esc s[k]).toArray⟩) (l := acc) (m := Str.esc s[k]) rfl rfl hr (by rw [← hr, List.length_append]; omega)
      have Hr := kept (show r = 34 :: (s.data.toList.take (k + 1)).flatMap Str.esc by
        rw [← hr, Ha.out, take_succ s k hlt, List.flatMap_append]; simp)
      clear hlen hr hel
      go_wp2_with fail
      refine (escaped_any _ _).mono ?_; rintro e w1 ⟨rfl, b1⟩
      have B1 := kept b1; clear b1
      go_wp2
      go_roundw
      case rel => exact ⟨k + 1, r, by omega, by go_num, rfl, Hr.out, bthen Hl.out B1.out⟩
      case measure => simp [intOf]; omega
    · have hcat := fun W => run_cat3 (P := Tryd.prog) W (a := ⟨acc.toArray⟩) (b := ⟨#[34]⟩) (l := acc) (m := [34]) (r := acc ++ [34]) rfl rfl rfl (by rw [List.length_append]; simp; omega)
      have Hr := kept (show acc ++ [34] = Str.quote s.data.toList by
        rw [Ha.out, List.take_of_length_le (by rw [len_data]; omega)]; rfl)
      clear hlen
      generalize hq : acc ++ [34] = q at *
      go_wp2
      go_ret
      exact ⟨ret_str Hr.out, Hl.out⟩

theorem escape_step (b : UInt8) (l : List UInt8) : Str.escape (b :: l) = (if b = 36 ∧ l.head? = some 123 then [36, 36] else [b]) ++ Str.escape l := by
  by_cases h : b = 36 ∧ l.head? = some 123
  · obtain ⟨rfl, hl⟩ := h
    cases l with
    | nil => simp at hl
    | cons c l =>
      obtain rfl : c = 123 := by simpa using hl
      have e : Str.escape (123 :: l) = 123 :: Str.escape l := by
        rw [Str.escape]; intro l' h1 _; exact absurd h1 (by decide)
      simp [Str.escape]
  · rw [if_neg h, Str.escape]
    · rfl
    · intro l' h1 h2
      exact h ⟨h1, by rw [h2]; rfl⟩
theorem drop_cons (s : ByteArray) (k : Nat) (h : k < s.size) : s.data.toList.drop k = s[k] :: s.data.toList.drop (k + 1) := by
  rw [List.drop_eq_getElem_cons (by rw [len_data]; exact h)]; rfl
theorem drop_head (s : ByteArray) (k : Nat) (h : k < s.size) : (s.data.toList.drop k).head? = some s[k] := by rw [drop_cons s k h]; rfl
theorem extract_one (s : ByteArray) (k : Nat) (h : k < s.size) : s.extract k (k + 1) = ⟨#[s[k]]⟩ := by
  have : (s.extract k (k + 1)).data.toList = [s[k]] := by
    simp only [ByteArray.data_extract, Array.toList_extract, List.extract_eq_take_drop]
    rw [drop_cons s k h]; simp
  exact str_of this
theorem byte_ne (b : UInt8) (n : Nat) (hn : n < 256) (h : b ≠ UInt8.ofNat n) : ((b.toNat : Int) == (n : Int)) = false := by
  have := b.toNat_lt
  refine beq_eq_false_iff_ne.2 fun hh => h ?_
  rw [← UInt8.toNat_inj, UInt8.toNat_ofNat']; omega

set_option maxHeartbeats 800000 in
theorem refEscape_any (s : ByteArray) (w : World) (hs : s.size ≤ 1000000) :
    Calls Tryd.prog 15 #[.string s] w fun e w' => e = .returned (.string ⟨(Str.escape s.data.toList).toArray⟩) ∧ w = w' := by
  go_enter Tryd.func15, Tryd.ntmps15
  go_wp2
  go_loop [3, 4] (fun x i => ∃ (k : Nat) (acc : List UInt8), k ≤ s.size ∧ i = .int .i64 k ∧ x = .string ⟨acc.toArray⟩ ∧ acc.length ≤ 2 * k ∧ acc ++ Str.escape (s.data.toList.drop k) = Str.escape s.data.toList) (fun _ i => s.size - (intOf i).toNat)
  case atStart => exact ⟨0, [], by omega, rfl, rfl, by simp, by simp⟩
  case round =>
    obtain ⟨k, acc, hk, rfl, rfl, hlen, hacc⟩ := hrel
    have Ha := kept hacc
    clear hacc
    by_cases hlt : k < s.size
    · have hlt' : (k : Int) < s.size := by omega
      have hex := extract_one s k hlt
      have hst := escape_step s[k] (s.data.toList.drop (k + 1))
      by_cases h36 : s[k] = 36
      · by_cases h123 : ∃ h : k + 1 < s.size, s[k + 1] = 123
        · obtain ⟨hk1, h123⟩ := h123
          rw [if_pos ⟨h36, by rw [drop_head s (k + 1) hk1, h123]⟩] at hst
          have Hst := kept (show (acc ++ [36]) ++ [36] ++ Str.escape (s.data.toList.drop (k + 1)) = Str.escape s.data.toList by
            rw [← Ha.out, drop_cons s k hlt, hst]; simp)
          have hu : (s[k].toNat : Int) = 36 := by rw [h36]; rfl
          have hv : (s[k + 1].toNat : Int) = 123 := by rw [h123]; rfl
          have hk1' : (k : Int) + 1 < s.size := by omega
          rw [h36] at hex
          obtain ⟨r1, hr1⟩ : ∃ r, acc ++ [36] = r := ⟨_, rfl⟩
          obtain ⟨r2, hr2⟩ : ∃ r, r1 ++ [36] = r := ⟨_, rfl⟩
          have Hl2 := kept (show r2.length ≤ 2 * (k + 1) by rw [← hr2, ← hr1]; simp; omega)
          have hcat1 := fun W => run_cat3 (P := Tryd.prog) W (a := ⟨acc.toArray⟩) (b := ⟨#[36]⟩) (l := acc) (m := [36]) rfl rfl hr1 (by rw [← hr1]; simp; omega)
          have hcat2 := fun W => run_cat3 (P := Tryd.prog) W (a := ⟨r1.toArray⟩) (b := ⟨#[36]⟩) (l := r1) (m := [36]) rfl rfl hr2 (by have := Hl2.out; omega)
          rw [hr1, hr2] at Hst
          clear hst h36 h123 hr1 hr2 hlen
          go_wp2
          go_round
          case rel => exact ⟨k + 1, r2, by omega, by go_num, rfl, Hl2.out, Hst.out⟩
          case measure => simp [intOf]; omega
        · rw [if_neg (fun hh => h123 (by
            by_cases hk1 : k + 1 < s.size
            · exact ⟨hk1, by have := hh.2; rw [drop_head s (k + 1) hk1] at this; simpa using this⟩
            · have := hh.2; rw [List.drop_of_length_le (by rw [len_data]; omega)] at this; simp at this))] at hst
          have Hst := kept (show acc ++ [36] ++ Str.escape (s.data.toList.drop (k + 1)) = Str.escape s.data.toList by
            rw [← Ha.out, drop_cons s k hlt, hst, h36]; simp)
          have hu : (s[k].toNat : Int) = 36 := by rw [h36]; rfl
          rw [h36] at hex
          obtain ⟨r1, hr1⟩ : ∃ r, acc ++ [36] = r := ⟨_, rfl⟩
          have Hl2 := kept (show r1.length ≤ 2 * (k + 1) by rw [← hr1]; simp; omega)
          have hcat1 := fun W => run_cat3 (P := Tryd.prog) W (a := ⟨acc.toArray⟩) (b := ⟨#[36]⟩) (l := acc) (m := [36]) rfl rfl hr1 (by rw [← hr1]; simp; omega)
          rw [hr1] at Hst
          by_cases hk1 : k + 1 < s.size
          · have hk1' : (k : Int) + 1 < s.size := by omega
            have hne := byte_ne s[k + 1] 123 (by omega) (fun h => h123 ⟨hk1, h⟩)
            have hne' : ((s[k + 1].toNat : Int) == 123) = false := hne
            clear hst h36 h123 hr1 hlen hne
            go_wp2
            go_round
            case rel => exact ⟨k + 1, r1, by omega, by go_num, rfl, Hl2.out, Hst.out⟩
            case measure => simp [intOf]; omega
          · have hk1' : ¬ (k : Int) + 1 < s.size := by omega
            clear hst h36 h123 hr1 hlen hk1
            go_wp2
            go_round
            case rel => exact ⟨k + 1, r1, by omega, by go_num, rfl, Hl2.out, Hst.out⟩
            case measure => simp [intOf]; omega
      · rw [if_neg (fun hh => h36 hh.1)] at hst
        have Hst := kept (show acc ++ [s[k]] ++ Str.escape (s.data.toList.drop (k + 1)) = Str.escape s.data.toList by
          rw [← Ha.out, drop_cons s k hlt, hst]; simp)
        have hne' : ((s[k].toNat : Int) == 36) = false := byte_ne s[k] 36 (by omega) h36
        obtain ⟨r1, hr1⟩ : ∃ r, acc ++ [s[k]] = r := ⟨_, rfl⟩
        have Hl2 := kept (show r1.length ≤ 2 * (k + 1) by rw [← hr1]; simp; omega)
        have hcat1 := fun W => run_cat3 (P := Tryd.prog) W (a := ⟨acc.toArray⟩) (b := ⟨#[s[k]]⟩) (l := acc) (m := [s[k]]) rfl rfl hr1 (by rw [← hr1]; simp; omega)
        rw [hr1] at Hst
        clear hst h36 hr1 hlen
        go_wp2
        go_round
        case rel => exact ⟨k + 1, r1, by omega, by go_num, rfl, Hl2.out, Hst.out⟩
        case measure => simp [intOf]; omega
    · have Hr := kept (show acc = Str.escape s.data.toList by
        rw [← Ha.out, List.drop_of_length_le (by rw [len_data]; omega)]; simp [Str.escape])
      clear hlen
      go_wp2
      go_ret
      exact ⟨ret_str Hr.out, rfl⟩
end Go.Proofs.YtiaohbikaofbdaaDoor
