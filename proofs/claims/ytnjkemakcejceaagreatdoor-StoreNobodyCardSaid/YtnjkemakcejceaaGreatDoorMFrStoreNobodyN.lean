/- Part of what the proof needs. -/
import Derived.Test.YtnjkemakcejceaaGreatDoorMFrStoreNobodyD
import Derived.Test.YtnjkemakcejceaaGreatDoorMFrStoreNobodyF
import Derived.Test.YtnjkemakcejceaaGreatDoorMFrStoreNobodyJ
import Derived.Test.YtnjkemakcejceaaGreatDoorMFrStoreNobodyL
import Derived.Test.YtnjkemakcejceaaGreatDoorMFrStoreNobodyM
set_option linter.unusedSimpArgs false
set_option linter.unusedVariables false
set_option linter.unnecessarySimpa false
namespace Go.Proofs.YtnjkemakcejceaaGreatDoor
open Go.RowKit
set_option maxHeartbeats 4000000
namespace Adr
theorem mods_names (N : Nat) : ∀ (f : Nat) (r : Rd) (l : List Step), r.rest.length ≤ N → (∀ x ∈ l, x.name.length ≤ N) → (∀ x ∈ (modsP f r l).1, x.name.length ≤ N) ∧ (modsP f r l).2.rest.length ≤ N ∧ (modsP f r l).1.length ≤ l.length + f
 | 0, r, l, hr, hl => ⟨hl, hr, Nat.le_refl _⟩
 | f + 1, r, l, hr, hl => by
  unfold modsP
  split
  ·next hc =>
   have h1 := has_len modW r
   have h2 := step_len (hasP modW r).2
   have h3 := skip_len [46] (stepP (hasP modW r).2).2
   have hn : (stepP (hasP modW r).2).1.name.length ≤ N := Nat.le_trans (word_len (hasP modW r).2).2 (by omega)
   obtain ⟨q1, q2, q3⟩ := mods_names N f (skipP [46] (stepP (hasP modW r).2).2) (l ++ [(stepP (hasP modW r).2).1]) (by omega) (fun x hx => by
    rcases List.mem_append.1 hx with hx | hx
    ·exact hl x hx
    ·rw [List.mem_singleton.1 hx]; exact hn)
   exact ⟨q1, q2, Nat.le_trans q3 (by simp only [List.length_append, List.length_singleton]; omega)⟩
  ·exact ⟨hl, hr, by dsimp only; omega⟩
theorem parse_names (s : List UInt8) (h : (parse s).2 = 0) : (∀ x ∈ (parse s).1.mods, x.name.length ≤ s.length) ∧ (parse s).1.mods.length ≤ s.length + 1 ∧ (parse s).1.type.length ≤ s.length ∧ (parse s).1.name.length ≤ s.length := by
 rw [← parse_eq] at h ⊢
 obtain ⟨q1, q2, q3⟩ := mods_names s.length (s.length + 1) ⟨s, false⟩ [] (Nat.le_refl _) (by simp)
 unfold parseP at h ⊢
 dsimp only at h ⊢
 have l1 := has_len dataW (modsP (s.length + 1) ⟨s, false⟩ []).2
 have l2 := word_len (hasP dataW (modsP (s.length + 1) ⟨s, false⟩ []).2).2
 have l3 := skip_len [46] (wordP (hasP dataW (modsP (s.length + 1) ⟨s, false⟩ []).2).2).2
 have l4 := word_len (skipP [46] (wordP (hasP dataW (modsP (s.length + 1) ⟨s, false⟩ []).2).2).2)
 split at h
 ·simp at h
 ·next h1 =>
  rw [if_neg h1]
  split at h
  ·simp at h
  ·next h2 =>
   rw [if_neg h2]
   dsimp only
   exact ⟨q1, by simpa using q3, by omega, by omega⟩
end Adr
namespace AX
theorem a_static (s : List UInt8) (hs : s.length ≤ 2000000) (h : Hp) : ACall Tryz.prog GT 119 [.str s] h fun r h' => r = .tup [.str (Adr.static s).1, .int .i64 (Adr.static s).2] ∧ h' = h := by
 refine pcall ?_ rfl (by simp [A.pure, A.data]) h
 refine acall_of mixedT h_aStatic (by simp [c_aStatic]) ?_
 dsimp only [c_aStatic]
 have cp := fun h => a_parse s hs h
 have hS : Adr.static s = if (Adr.parse s).2 ≠ 0 then ([], (Adr.parse s).2) else (Adr.fmt (Adr.bare (Adr.parse s).1), 0) := rfl
 have hnm := Adr.parse_names s
 obtain ⟨⟨a, e⟩, hp⟩ : ∃ q, Adr.parse s = q := ⟨_, rfl⟩
 rw [hp] at cp hS hnm
 dsimp only at cp hS hnm
 rw [hS]
 by_cases he : e = 0
 rotate_left
 ·have e1 : (e != 0) = true := by simp [he]
  rw [if_pos he]
  obtain ⟨mods, data, ty, nm, ⟨kk, kn, ks⟩⟩ := a
  dsimp only [Adr.Ad.cells] at cp
  (refine AX.run0 True.intro ?_)
  refine use (cp _) ?_
  (refine AX.run0 e1 ?_)
  exact ⟨_, le_refl _, rfl⟩
 have e1 : (e != 0) = false := by simp [he]
 rw [if_neg (by simp [he])]
 obtain ⟨n1, n2, n3, n4⟩ := hnm he
 have cs := fun h => a_static0 a (by omega) h
 have cf := fun h => a_format0 (Adr.bare a) ⟨by unfold Adr.bare; dsimp only; rw [List.length_map]; omega, fun x hx => by
   unfold Adr.bare at hx
   obtain ⟨y, hy, rfl⟩ := List.mem_map.1 hx
   have := n1 y hy
   exact ⟨Nat.le_trans this hs, by simp [Adr.K.none]⟩, by unfold Adr.bare; dsimp only; omega, by unfold Adr.bare; dsimp only; omega, by unfold Adr.bare Adr.K.none; simp⟩
  (fun x hx => by
   unfold Adr.bare at hx
   obtain ⟨y, hy, rfl⟩ := List.mem_map.1 hx
   rfl) rfl h
 have hbc : (Adr.bare a).cells = [.sl 4 .no ((a.mods.map fun s => (⟨s.name, Adr.K.none⟩ : Adr.Step)).map Adr.Step.cells), .bool a.data, .str a.type, .str a.name, .int .i64 0, .int .i64 0, .str []] := rfl
 rw [hbc] at cs cf
 obtain ⟨F, hF⟩ : ∃ F, Adr.fmt (Adr.bare a) = F := ⟨_, rfl⟩
 rw [hF] at cf ⊢
 clear hS n1 n2 n3 n4 hnm hp hbc
 obtain ⟨mods, data, ty, nm, ⟨kk, kn, ks⟩⟩ := a
 dsimp only [Adr.Ad.cells] at cp cs cf
 (refine AX.run0 True.intro ?_)
 refine use (cp _) ?_
 (refine AX.run0 e1 ?_)
 refine use (cs _) ?_
 (refine AX.run0 True.intro ?_)
 refine use (cf _) ?_
 (refine AX.run0 True.intro ?_)
 exact ⟨_, le_refl _, rfl⟩
theorem leafs : Leafs where
 parse := a_parse
 static := a_static
 ident := a_ident
 num := a_numParse
 cmp := a_cmp
 known := fun v hl h => a_known v hl h
 text := fun s hs h => (a_stext s hs h).mono fun v h' hv => hv
theorem a_stateCheck (st : Sf.St) (ok : Sf.StIn st) : SCheck st := a_scheck leafs st ok
end AX
end Go.Proofs.YtnjkemakcejceaaGreatDoor

namespace Go.Proofs.YtnjkemakcejceaaGreatDoor
namespace Wire
theorem zig_zag (u : Nat) : zig (zag u) = u := by
 unfold zig zag
 by_cases h : u % 2 = 1
 ·rw [if_pos h, if_pos (by omega)]; omega
 ·rw [if_neg h, if_neg (by omega)]; omega
theorem grpF_back : ∀ (f i acc : Nat) (l : List UInt8) (n : Int) (long : Nat), i + f = 9 → grpF (f + 1) i acc l = .ok n long → ∃ u, (0 < i → u ≠ 0) ∧ n = zag (acc + u * 2 ^ (7 * i)) ∧ i < long ∧ l = encF f u ++ l.drop (long - i)
 | f, i, acc, [], n, long, hi, h => by simp [grpF] at h
 | 0, i, acc, c :: r, n, long, hi, h => by
  simp only [grpF] at h
  have hc := c.toNat_lt
  split at h
  ·cases h
  ·next h1 =>
   split at h
   ·cases h
   ·next h2 =>
    split at h
    ·cases h
    ·next h3 =>
     injection h with e1 e2
     refine ⟨c.toNat, fun hp e => h3 ⟨hp, UInt8.toNat_inj.1 (by simpa using e)⟩, ?_, by omega, ?_⟩
     ·rw [← e1, Nat.mod_eq_of_lt (by omega)]
     ·rw [show long - i = 1 by omega]; simp [encF]
 | f + 1, i, acc, c :: r, n, long, hi, h => by
  have hc := c.toNat_lt
  have e0 : grpF (f + 1 + 1) i acc (c :: r) = (if i = 9 ∧ 1 < c.toNat then .err 5
    else if 128 ≤ c.toNat then grpF (f + 1) (i + 1) (acc + c.toNat % 128 * 2 ^ (7 * i)) r
    else if 0 < i ∧ c = 0 then .err 1
    else .ok (zag (acc + c.toNat % 128 * 2 ^ (7 * i))) (i + 1)) := rfl
  rw [e0, if_neg (by omega)] at h
  by_cases h2 : 128 ≤ c.toNat
  ·rw [if_pos h2] at h
   obtain ⟨u, hu0, hn, hlt, hr⟩ := grpF_back f (i + 1) _ r n long (by omega) h
   have hu := hu0 (by omega)
   have hp : (2 : Nat) ^ (7 * (i + 1)) = 128 * 2 ^ (7 * i) := by rw [show 7 * (i + 1) = 7 + 7 * i by omega, Nat.pow_add]
   refine ⟨c.toNat % 128 + 128 * u, fun _ => by omega, ?_, by omega, ?_⟩
   ·rw [hn, hp, Nat.add_mul, ← Nat.mul_assoc, Nat.mul_comm u 128, Nat.add_assoc]
   ·unfold encF
    rw [if_neg (by omega), show (c.toNat % 128 + 128 * u) % 128 = c.toNat % 128 by omega, show (c.toNat % 128 + 128 * u) / 128 = u by omega, show c.toNat % 128 + 128 = c.toNat by omega, show long - i = (long - (i + 1)) + 1 by omega, List.drop_succ_cons]
    rw [List.cons_append, ← hr]
    simp
  ·rw [if_neg h2] at h
   split at h
   ·cases h
   ·next h3 =>
    injection h with e1 e2
    refine ⟨c.toNat, fun hp e => h3 ⟨hp, UInt8.toNat_inj.1 (by simpa using e)⟩, ?_, by omega, ?_⟩
    ·rw [← e1, Nat.mod_eq_of_lt (by omega)]
    ·unfold encF
     rw [if_pos (by omega), show long - i = 1 by omega]; simp
theorem grp_back {l : List UInt8} {n : Int} {long : Nat} (h : grp l = .ok n long) : l = num n ++ l.drop long := by
 obtain ⟨u, _, hn, _, hl⟩ := grpF_back 9 0 0 l n long rfl h
 unfold num
 rw [hn]
 simp only [Nat.zero_add, Nat.mul_zero, Nat.pow_zero, Nat.mul_one, zig_zag]
 exact hl
theorem grpF_err0 : ∀ (f i u : Nat) (l : List UInt8), grpF f i u l ≠ .err 0
 | 0, i, u, l, h => by simp [grpF] at h
 | f + 1, i, u, [], h => by simp [grpF] at h
 | f + 1, i, u, c :: r, h => by
  simp only [grpF] at h
  split at h
  ·cases h
  ·split at h
   ·exact grpF_err0 f _ _ r h
   ·split at h <;> cases h
theorem numR_back {r : St} (h : (numR r).1.e = 0) : r.e = 0 ∧ r.rest = num (numR r).2 ++ (numR r).1.rest := by
 unfold numR at h ⊢
 by_cases he : r.e = 0
 ·refine ⟨he, ?_⟩
  rw [if_neg (by simp [he])] at h ⊢
  cases hg : grp r.rest with
  | err e =>
   exfalso
   rw [hg] at h
   have h' : e = 0 := h
   subst h'
   unfold grp at hg
   exact grpF_err0 _ _ _ _ hg
  | ok n long => exact grp_back hg
 ·rw [if_pos he] at h
  exact absurd h he
theorem cntR_back {r : St} (h : (cntR r 1).1.e = 0) : r.e = 0 ∧ r.rest = num ((cntR r 1).2 : Nat) ++ (cntR r 1).1.rest := by
 unfold cntR at h ⊢
 by_cases he : r.e = 0
 ·refine ⟨he, ?_⟩
  rw [if_neg (by simp [he])] at h ⊢
  cases hg : grp r.rest with
  | err e =>
   exfalso
   rw [hg] at h
   have h' : e = 0 := h
   subst h'
   exact grpF_err0 _ _ _ _ hg
  | ok n long =>
   rw [hg] at h
   dsimp only at h ⊢
   split at h
   ·simp at h
   ·next h1 =>
    rw [if_neg h1]
    split at h
    ·simp at h
    ·next h2 =>
     rw [if_neg h2]
     have := grp_back hg
     dsimp only
     rw [show ((n.toNat : Nat) : Int) = n by omega]
     exact this
 ·rw [if_pos he] at h
  exact absurd h he
theorem cntR_fit {r : St} (h : (cntR r 1).1.e = 0) : (cntR r 1).2 ≤ (cntR r 1).1.rest.length := by
 unfold cntR at h ⊢
 by_cases he : r.e = 0
 ·rw [if_neg (by simp [he])] at h ⊢
  cases hg : grp r.rest with
  | err e =>
   rw [hg] at h
   have h' : e = 0 := h
   subst h'
   exact absurd hg (grpF_err0 _ _ _ _)
  | ok n long =>
   rw [hg] at h
   dsimp only at h ⊢
   split at h
   ·simp at h
   ·next h1 =>
    rw [if_neg h1]
    split at h
    ·simp at h
    ·next h2 =>
     rw [if_neg h2]
     rw [Nat.div_one] at h2
     dsimp only
     rw [List.length_drop]
     omega
 ·rw [if_pos he] at h
  exact absurd h he
theorem strR_back {r : St} (h : (strR r).1.e = 0) : r.e = 0 ∧ r.rest = strE (strR r).2 ++ (strR r).1.rest := by
 unfold strR at h ⊢
 dsimp only at h ⊢
 split at h
 ·next h1 => exact absurd h h1
 ·next h1 =>
  rw [if_neg h1]
  have h2 : (cntR r 1).1.e = 0 := by simpa using h1
  obtain ⟨q1, q2⟩ := cntR_back h2
  have q3 := cntR_fit h2
  refine ⟨q1, ?_⟩
  dsimp only
  unfold strE
  rw [List.length_take, Nat.min_eq_left q3, List.append_assoc, List.take_append_drop]
  exact q2
end Wire
namespace Val
def Good (one : Wire.St → Res) : Prop := ∀ r, (one r).2.1 = 0 → r.e = 0 ∧ (one r).1.e = 0 ∧ r.rest = enc (one r).2.2 ++ (one r).1.rest
theorem encs_cons (m : Bool) (v : V) (l : List V) (ks : List (List UInt8)) : encs m (v :: l) ks = keyE m ks ++ (enc v ++ encs m l ks.tail) := by rw [encs]
theorem encs_false : ∀ (is : List V) (k1 k2 : List (List UInt8)), encs false is k1 = encs false is k2
 | [], _, _ => by rw [encs, encs]
 | v :: l, k1, k2 => by rw [encs_cons, encs_cons, encs_false l k1.tail k2.tail]; simp [keyE]
theorem itemsW_back {one : Wire.St → Res} (hg : Good one) (m : Bool) : ∀ (c : Nat) (r : Wire.St) (is : List V) (ks : List (List UInt8)), (itemsW one m c r is ks).2.1 = 0 →
  r.e = 0 ∧ (itemsW one m c r is ks).1.e = 0 ∧ ∃ is' ks', (itemsW one m c r is ks).2.2 = (is ++ is', ks ++ ks') ∧ is'.length = c ∧ r.rest = encs m is' ks' ++ (itemsW one m c r is ks).1.rest
 | 0, r, is, ks, h => by
  unfold itemsW at h ⊢
  exact ⟨h, h, [], [], by simp, rfl, by rw [encs]; rfl⟩
 | c + 1, r, is, ks, h => by
  have step : ∀ (q : Wire.St × List UInt8) (k2 : List (List UInt8)), (if (one q.1).2.1 ≠ 0 then ((one q.1).1, (one q.1).2.1, is, ks) else itemsW one m c (one q.1).1 (is ++ [(one q.1).2.2]) k2).2.1 = 0 →
    ∃ (is' : List V) (ks' : List (List UInt8)), q.1.e = 0 ∧ (if (one q.1).2.1 ≠ 0 then ((one q.1).1, (one q.1).2.1, is, ks) else itemsW one m c (one q.1).1 (is ++ [(one q.1).2.2]) k2).1.e = 0 ∧
     (if (one q.1).2.1 ≠ 0 then ((one q.1).1, (one q.1).2.1, is, ks) else itemsW one m c (one q.1).1 (is ++ [(one q.1).2.2]) k2).2.2 = (is ++ (one q.1).2.2 :: is', k2 ++ ks') ∧ is'.length = c ∧
     q.1.rest = enc (one q.1).2.2 ++ (encs m is' ks' ++ (if (one q.1).2.1 ≠ 0 then ((one q.1).1, (one q.1).2.1, is, ks) else itemsW one m c (one q.1).1 (is ++ [(one q.1).2.2]) k2).1.rest) := fun q k2 h => by
   by_cases h1 : (one q.1).2.1 = 0
   rotate_left
   ·rw [if_pos h1] at h; exact absurd h h1
   rw [if_neg (by simp [h1])] at h ⊢
   obtain ⟨q1, q2, q3⟩ := hg _ h1
   obtain ⟨p1, p2, is', ks', p3, p4, p5⟩ := itemsW_back hg m c _ _ _ h
   exact ⟨is', ks', q1, p2, by rw [p3]; simp, p4, by rw [← p5]; exact q3⟩
  cases m with
  | false =>
   have e : itemsW one false (c + 1) r is ks = (if (one r).2.1 ≠ 0 then ((one r).1, (one r).2.1, is, ks) else itemsW one false c (one r).1 (is ++ [(one r).2.2]) ks) := by rw [itemsW]; rfl
   rw [e] at h ⊢
   obtain ⟨is', ks', s1, s2, s3, s4, s5⟩ := step (r, []) ks h
   refine ⟨s1, s2, _ :: is', ks', s3, by simp [s4], ?_⟩
   rw [encs_cons, encs_false is' ks'.tail ks']
   simp only [keyE, List.nil_append, List.append_assoc]
   exact s5
  | true =>
   have e : itemsW one true (c + 1) r is ks = (if (one (Wire.strR r).1).2.1 ≠ 0 then ((one (Wire.strR r).1).1, (one (Wire.strR r).1).2.1, is, ks) else itemsW one true c (one (Wire.strR r).1).1 (is ++ [(one (Wire.strR r).1).2.2]) (ks ++ [(Wire.strR r).2])) := by rw [itemsW]; rfl
   rw [e] at h ⊢
   obtain ⟨is', ks', s1, s2, s3, s4, s5⟩ := step (Wire.strR r) (ks ++ [(Wire.strR r).2]) h
   obtain ⟨t1, t2⟩ := Wire.strR_back s1
   refine ⟨t1, s2, (one (Wire.strR r).1).2.2 :: is', (Wire.strR r).2 :: ks', by rw [s3]; simp, by simp [s4], ?_⟩
   rw [encs_cons, t2, s5]
   simp only [keyE, List.tail_cons, List.append_assoc]
theorem readW_back {one : Wire.St → Res} (hg : Good one) : Good (readW one) := by
 intro r h
 unfold readW at h ⊢
 by_cases he : r.e = 0
 rotate_left
 ·rw [if_pos he] at h; exact absurd h he
 rw [if_neg (by simp [he])] at h ⊢
 dsimp only at h ⊢
 by_cases hq : (Wire.numR r).1.e = 0
 rotate_left
 ·rw [if_pos hq] at h; exact absurd h hq
 rw [if_neg (by simp [hq])] at h ⊢
 obtain ⟨_, hr⟩ := Wire.numR_back hq
 obtain ⟨⟨q, k⟩, hk⟩ : ∃ x, Wire.numR r = x := ⟨_, rfl⟩
 rw [hk] at h hq hr ⊢
 dsimp only at h hq hr ⊢
 split at h
 ·simp at h
 ·next h1 =>
  rw [if_neg h1]
  split at h
  ·next h2 =>
   rw [if_pos h2]
   obtain ⟨n1, n2⟩ := Wire.numR_back h
   refine ⟨he, h, ?_⟩
   unfold enc
   rw [if_pos h2, List.append_assoc, ← n2]
   exact hr
  ·next h2 =>
   rw [if_neg h2]
   split at h
   ·next h3 =>
    rw [if_pos h3]
    obtain ⟨n1, n2⟩ := Wire.strR_back h
    refine ⟨he, h, ?_⟩
    unfold enc
    rw [if_neg h2, if_pos h3, List.append_assoc, ← n2]
    exact hr
   ·next h3 =>
    rw [if_neg h3]
    split at h
    ·next h4 =>
     rw [if_pos h4]
     obtain ⟨p1, p2, is', ks', p3, p4, p5⟩ := itemsW_back hg (k == 5) _ _ _ _ h
     refine ⟨he, p2, ?_⟩
     rw [List.nil_append, List.nil_append] at p3
     dsimp only
     rw [p3]
     dsimp only
     unfold enc
     rw [if_neg h2, if_neg h3, if_pos h4, List.append_assoc, List.append_assoc, ← p5, p4, hr]
     obtain ⟨_, c2⟩ := Wire.cntR_back p1
     rw [← c2]
    ·next h4 =>
     rw [if_neg h4]
     refine ⟨he, hq, ?_⟩
     unfold enc
     rw [if_neg h2, if_neg h3, if_neg h4, List.append_nil]
     exact hr
theorem read_back : ∀ f, Good (read f)
 | 0 => fun r h => by
  exfalso
  unfold read at h
  dsimp only at h
  split at h
  ·next h1 => exact h1 h
  ·simp at h
 | f + 1 => by
  have : read (f + 1) = readW (read f) := by funext r; rw [read]
  rw [this]
  exact readW_back (read_back f)
theorem readValue_back {r : Wire.St} (h : (readValue r).2.1 = 0) : r.e = 0 ∧ (readValue r).1.e = 0 ∧ r.rest = enc (readValue r).2.2 ++ (readValue r).1.rest := by
 unfold readValue at h ⊢
 dsimp only at h ⊢
 split at h
 ·next h1 => exact absurd h h1
 ·next h1 =>
  rw [if_neg h1]
  split at h
  ·next h2 => exact absurd h h2
  ·next h2 =>
   rw [if_neg h2]
   exact read_back 32 r h
end Val
end Go.Proofs.YtnjkemakcejceaaGreatDoor

namespace Go.Proofs.YtnjkemakcejceaaGreatDoor
namespace Sf
theorem fails_iff (s : Rs) : s.fails = false ↔ s.bad = false ∧ s.r.e = 0 := by
 unfold Rs.fails
 rw [Bool.or_eq_false_iff, bne_eq_false_iff_eq]
def Took (s s' : Rs) (l : List UInt8) : Prop := s.fails = false ∧ s.r.rest = l ++ s'.r.rest
theorem Took.trans {a b c : Rs} {l m : List UInt8} (h : Took a b l) (k : Took b c m) : Took a c (l ++ m) := ⟨h.1, by rw [h.2, k.2, List.append_assoc]⟩
theorem num_took {s : Rs} (h : (numS s).1.fails = false) : Took s (numS s).1 (Wire.num (numS s).2) := by
 obtain ⟨h1, h2⟩ := (fails_iff _).1 h
 obtain ⟨q1, q2⟩ := Wire.numR_back h2
 exact ⟨(fails_iff _).2 ⟨h1, q1⟩, q2⟩
theorem str_took {s : Rs} (h : (strS s).1.fails = false) : Took s (strS s).1 (Wire.strE (strS s).2) := by
 obtain ⟨h1, h2⟩ := (fails_iff _).1 h
 obtain ⟨q1, q2⟩ := Wire.strR_back h2
 exact ⟨(fails_iff _).2 ⟨h1, q1⟩, q2⟩
theorem cnt_took {s : Rs} (h : (cntS s).1.fails = false) : Took s (cntS s).1 (Wire.num ((cntS s).2 : Nat)) := by
 obtain ⟨h1, h2⟩ := (fails_iff _).1 h
 obtain ⟨q1, q2⟩ := Wire.cntR_back h2
 exact ⟨(fails_iff _).2 ⟨h1, q1⟩, q2⟩
theorem flag_took {s : Rs} (h : (flagS s).1.fails = false) : Took s (flagS s).1 (flagE (flagS s).2) := by
 obtain ⟨h1, h2⟩ := (fails_iff _).1 h
 obtain ⟨q1, q2⟩ := Wire.numR_back h2
 have h1' : (s.bad || ((Wire.numR s.r).2 != 0 && (Wire.numR s.r).2 != 1)) = false := h1
 rw [Bool.or_eq_false_iff] at h1'
 refine ⟨(fails_iff _).2 ⟨h1'.1, q1⟩, ?_⟩
 have e : flagE (flagS s).2 = Wire.num (Wire.numR s.r).2 := by
  show Wire.num (if ((Wire.numR s.r).2 == 1) = true then 1 else 0) = _
  have h3 := h1'.2
  rw [Bool.and_eq_false_iff, bne_eq_false_iff_eq, bne_eq_false_iff_eq] at h3
  rcases h3 with h3 | h3 <;> rw [h3] <;> rfl
 rw [e]
 exact q2
theorem value_took {s : Rs} (h : (valueS s).1.fails = false) : Took s (valueS s).1 (Val.enc (valueS s).2) := by
 obtain ⟨h1, h2⟩ := (fails_iff _).1 h
 have h1' : (s.bad || (Val.readValue s.r).2.1 != 0) = false := h1
 rw [Bool.or_eq_false_iff, bne_eq_false_iff_eq] at h1'
 obtain ⟨q1, q2, q3⟩ := Val.readValue_back h1'.2
 exact ⟨(fails_iff _).2 ⟨h1'.1, q1⟩, q3⟩
theorem words_took : ∀ (c : Nat) (s : Rs) (l : List (List UInt8)), (wordsS c s l).1.fails = false → ∃ l', (wordsS c s l).2 = l ++ l' ∧ l'.length = c ∧ Took s (wordsS c s l).1 (wordsE l')
 | 0, s, l, h => ⟨[], by simp [wordsS], rfl, h, rfl⟩
 | c + 1, s, l, h => by
  unfold wordsS at h ⊢
  obtain ⟨l', h1, h2, h3⟩ := words_took c _ _ h
  exact ⟨(strS s).2 :: l', by rw [h1]; simp, by simp [h2], (str_took h3.1).trans h3⟩
theorem inst_took {ver : Int} {s : Rs} (h : (instS ver s).1.fails = false) : Took s (instS ver s).1 (instE ver (instS ver s).2) := by
 unfold instS at h ⊢
 dsimp only at h ⊢
 obtain ⟨ws, w1, w2, w3⟩ := words_took _ _ _ h
 have k := cnt_took w3.1
 have f : Took (flagS (numS (valueS (strS (strS (strS (strS s).1).1).1).1).1).1).1 (if ver = 2 then flagS (flagS (numS (valueS (strS (strS (strS (strS s).1).1).1).1).1).1).1 else ((flagS (numS (valueS (strS (strS (strS (strS s).1).1).1).1).1).1).1, false)).1 (if ver = 2 then flagE (if ver = 2 then flagS (flagS (numS (valueS (strS (strS (strS (strS s).1).1).1).1).1).1).1 else ((flagS (numS (valueS (strS (strS (strS (strS s).1).1).1).1).1).1).1, false)).2 else []) := by
  have := k.1
  by_cases hv : ver = 2
  ·simp only [if_pos hv] at this ⊢
   exact flag_took this
  ·simp only [if_neg hv] at this ⊢
   exact ⟨this, rfl⟩
 have t := flag_took f.1
 have n := num_took t.1
 have v := value_took n.1
 have d := str_took v.1
 have c := str_took d.1
 have b := str_took c.1
 have a := str_took b.1
 have all := ((((((((a.trans b).trans c).trans d).trans v).trans n).trans t).trans f).trans k).trans w3
 unfold instE
 dsimp only
 rw [List.nil_append] at w1
 rw [w1, w2]
 exact all
theorem pend_took {s : Rs} (h : (pendS s).1.fails = false) : Took s (pendS s).1 (pendE (pendS s).2) := by
 unfold pendS at h ⊢
 dsimp only at h ⊢
 have c := str_took h
 have b := str_took c.1
 have a := str_took b.1
 exact (a.trans b).trans c
theorem out_took {s : Rs} (h : (outS s).1.fails = false) : Took s (outS s).1 (outE (outS s).2) := by
 unfold outS at h ⊢
 dsimp only at h ⊢
 have c := flag_took h
 have b := value_took c.1
 have a := str_took b.1
 exact (a.trans b).trans c
theorem insts_took {ver : Int} : ∀ (c : Nat) (s : Rs) (l : List Inst), (instsS ver c s l).1.fails = false → ∃ l', (instsS ver c s l).2 = (l ++ l', true) ∧ l'.length = c ∧ Took s (instsS ver c s l).1 (l'.flatMap (instE ver))
 | 0, s, l, h => ⟨[], by simp [instsS], rfl, h, rfl⟩
 | c + 1, s, l, h => by
  unfold instsS at h ⊢
  by_cases hf : s.fails = true
  ·rw [if_pos hf] at h
   rw [hf] at h; cases h
  ·rw [if_neg hf] at h ⊢
   obtain ⟨l', h1, h2, h3⟩ := insts_took c _ _ h
   exact ⟨(instS ver s).2 :: l', by rw [h1]; simp, by simp [h2], by rw [List.flatMap_cons]; exact (inst_took h3.1).trans h3⟩
theorem pends_took : ∀ (c : Nat) (s : Rs) (l : List Pend), (pendsS c s l).1.fails = false → ∃ l', (pendsS c s l).2 = l ++ l' ∧ l'.length = c ∧ Took s (pendsS c s l).1 (l'.flatMap pendE)
 | 0, s, l, h => ⟨[], by simp [pendsS], rfl, h, rfl⟩
 | c + 1, s, l, h => by
  unfold pendsS at h ⊢
  obtain ⟨l', h1, h2, h3⟩ := pends_took c _ _ h
  exact ⟨(pendS s).2 :: l', by rw [h1]; simp, by simp [h2], by rw [List.flatMap_cons]; exact (pend_took h3.1).trans h3⟩
theorem outs_took : ∀ (c : Nat) (s : Rs) (l : List Outp), (outsS c s l).1.fails = false → ∃ l', (outsS c s l).2 = (l ++ l', true) ∧ l'.length = c ∧ Took s (outsS c s l).1 (l'.flatMap outE)
 | 0, s, l, h => ⟨[], by simp [outsS], rfl, h, rfl⟩
 | c + 1, s, l, h => by
  unfold outsS at h ⊢
  by_cases hf : s.fails = true
  ·rw [if_pos hf] at h
   rw [hf] at h; cases h
  ·rw [if_neg hf] at h ⊢
   obtain ⟨l', h1, h2, h3⟩ := outs_took c _ _ h
   exact ⟨(outS s).2 :: l', by rw [h1]; simp, by simp [h2], by rw [List.flatMap_cons]; exact (out_took h3.1).trans h3⟩
def restE (ver : Int) (s : St) : List UInt8 :=
 Wire.strE s.lin ++ Wire.num s.ser ++ Wire.num s.insts.length ++ s.insts.flatMap (instE ver) ++ (if ver = 2 then Wire.num s.pends.length ++ s.pends.flatMap pendE else []) ++ Wire.num s.outs.length ++ s.outs.flatMap outE
theorem stE_rest (ver : Int) (s : St) : stE ver s = magic ++ Wire.num ver ++ restE ver s := by
 unfold stE restE
 simp only [List.append_assoc]
theorem state_took {ver : Int} {s : Rs} (h : (stateS ver s).1.fails = false) : Took s (stateS ver s).1 (restE ver (stateS ver s).2) := by
 unfold stateS at h ⊢
 dsimp only at h ⊢
 obtain ⟨A, hA⟩ : ∃ A, strS s = A := ⟨_, rfl⟩
 obtain ⟨N, hN⟩ : ∃ N, numS A.1 = N := ⟨_, rfl⟩
 obtain ⟨CI, hCI⟩ : ∃ C, cntS N.1 = C := ⟨_, rfl⟩
 obtain ⟨I, hI⟩ : ∃ I, instsS ver CI.2 CI.1 [] = I := ⟨_, rfl⟩
 rw [hA, hN, hCI, hI] at h ⊢
 have front : I.1.fails = false → I.2.2 = true ∧ Took s I.1 (Wire.strE A.2 ++ Wire.num N.2 ++ Wire.num I.2.1.length ++ I.2.1.flatMap (instE ver)) := fun hi => by
  obtain ⟨is, i1, i2, i3⟩ := insts_took CI.2 CI.1 [] (by rw [hI]; exact hi)
  rw [hI, List.nil_append] at i1
  rw [hI] at i3
  have c := cnt_took (s := N.1) (by rw [hCI]; exact i3.1)
  have n := num_took (s := A.1) (by rw [hN]; exact c.1)
  have a := str_took (s := s) (by rw [hA]; exact n.1)
  rw [hCI] at c; rw [hN] at n; rw [hA] at a
  rw [i1]
  refine ⟨rfl, ?_⟩
  dsimp only
  rw [i2]
  exact ((a.trans n).trans c).trans i3
 cases hb : I.2.2
 ·rw [hb, if_pos rfl] at h
  have := (front h).1
  rw [hb] at this; cases this
 ·rw [hb, if_neg (by decide)] at h
  rw [if_neg (by decide)]
  dsimp only at h ⊢
  obtain ⟨P, hP⟩ : ∃ P, (if ver = 2 then pendsS (cntS I.1).2 (cntS I.1).1 [] else (I.1, [])) = P := ⟨_, rfl⟩
  rw [hP] at h ⊢
  obtain ⟨os, o1, o2, o3⟩ := outs_took _ _ _ h
  rw [List.nil_append] at o1
  have c := cnt_took (s := P.1) o3.1
  have mid : Took I.1 P.1 (if ver = 2 then Wire.num P.2.length ++ P.2.flatMap pendE else []) := by
   by_cases hv : ver = 2
   ·rw [if_pos hv] at hP ⊢
    obtain ⟨ps, p1, p2, p3⟩ := pends_took (cntS I.1).2 (cntS I.1).1 [] (by rw [hP]; exact c.1)
    rw [hP, List.nil_append] at p1
    rw [hP] at p3
    rw [p1, p2]
    exact (cnt_took p3.1).trans p3
   ·rw [if_neg hv] at hP ⊢
    subst hP
    exact ⟨c.1, rfl⟩
  obtain ⟨_, fr⟩ := front mid.1
  have all := ((fr.trans mid).trans c).trans o3
  unfold restE
  dsimp only
  rw [o1]
  dsimp only
  rw [o2]
  exact all
end Sf
end Go.Proofs.YtnjkemakcejceaaGreatDoor

namespace Go.Proofs.YtnjkemakcejceaaGreatDoor
open Go.RowKit
namespace Sf
theorem strS_len (s : Rs) : (strS s).2.length ≤ s.r.rest.length := by
 unfold strS Wire.strR
 dsimp only
 split
 ·exact Nat.zero_le _
 ·dsimp only
  rw [List.length_take]
  have := Wire.cntR_rest s.r 1
  omega
theorem words_in (N : Nat) : ∀ (c : Nat) (s : Rs) (l : List (List UInt8)), s.r.rest.length ≤ N → (∀ x ∈ l, x.length ≤ N) → (∀ x ∈ (wordsS c s l).2, x.length ≤ N) ∧ (wordsS c s l).2.length = l.length + c
 | 0, s, l, hs, hl => ⟨hl, rfl⟩
 | c + 1, s, l, hs, hl => by
  unfold wordsS
  obtain ⟨h1, h2⟩ := words_in N c (strS s).1 (l ++ [(strS s).2]) (Nat.le_trans (strS_le s) hs) (fun x hx => by
   rcases List.mem_append.1 hx with hx | hx
   ·exact hl x hx
   ·rw [List.mem_singleton.1 hx]; exact Nat.le_trans (strS_len s) hs)
  refine ⟨h1, ?_⟩
  rw [h2, List.length_append, List.length_singleton]; omega
theorem value_lens (s : Rs) (hs : s.r.rest.length ≤ 100000000) : (valueS s).2.lens := AX.readValue_lens s.r hs
theorem inst_in (ver : Int) (s : Rs) (hs : s.r.rest.length ≤ 2000000) : AX.Sf.InstIn (instS ver s).2 := by
 have e1 := strS_le s
 have e2 := strS_le (strS s).1
 have e3 := strS_le (strS (strS s).1).1
 have e4 := strS_le (strS (strS (strS s).1).1).1
 have e5 := valueS_le (strS (strS (strS (strS s).1).1).1).1
 have e6 := numS_le (valueS (strS (strS (strS (strS s).1).1).1).1).1
 have e7 := flagS_le (numS (valueS (strS (strS (strS (strS s).1).1).1).1).1).1
 have l1 := strS_len s
 have l2 := strS_len (strS s).1
 have l3 := strS_len (strS (strS s).1).1
 have v := value_lens (strS (strS (strS (strS s).1).1).1).1 (by omega)
 unfold instS
 dsimp only
 generalize hF : (if ver = 2 then flagS (flagS (numS (valueS (strS (strS (strS (strS s).1).1).1).1).1).1).1 else ((flagS (numS (valueS (strS (strS (strS (strS s).1).1).1).1).1).1).1, false)) = F
 have e8 : F.1.r.rest.length ≤ 2000000 := by
  rw [← hF]
  split
  ·have := flagS_le (flagS (numS (valueS (strS (strS (strS (strS s).1).1).1).1).1).1).1
   omega
  ·dsimp only; omega
 have e9 := cntS_le F.1
 have e10 := cntS_cnt F.1
 obtain ⟨w1, w2⟩ := words_in 2000000 (cntS F.1).2 (cntS F.1).1 [] (by omega) (by simp)
 refine ⟨by dsimp only; omega, by dsimp only; omega, by dsimp only; omega, v, ?_, w1⟩
 show (wordsS (cntS F.1).2 (cntS F.1).1 []).2.length ≤ 1000000000
 rw [w2, List.length_nil]; omega
theorem insts_in (ver : Int) : ∀ (c : Nat) (s : Rs) (l : List Inst), s.r.rest.length ≤ 2000000 → (∀ x ∈ l, AX.Sf.InstIn x) → (∀ x ∈ (instsS ver c s l).2.1, AX.Sf.InstIn x) ∧ (instsS ver c s l).2.1.length ≤ l.length + c ∧ (instsS ver c s l).1.r.rest.length ≤ s.r.rest.length
 | 0, s, l, hs, hl => ⟨hl, Nat.le_refl _, Nat.le_refl _⟩
 | c + 1, s, l, hs, hl => by
  unfold instsS
  split
  ·exact ⟨hl, by dsimp only; omega, Nat.le_refl _⟩
  ·have h0 := instS_le ver s
   obtain ⟨h1, h2, h3⟩ := insts_in ver c (instS ver s).1 (l ++ [(instS ver s).2]) (by omega) (fun x hx => by
    rcases List.mem_append.1 hx with hx | hx
    ·exact hl x hx
    ·rw [List.mem_singleton.1 hx]; exact inst_in ver s hs)
   refine ⟨h1, ?_, Nat.le_trans h3 h0⟩
   rw [List.length_append, List.length_singleton] at h2; omega
theorem pendS_le (s : Rs) : (pendS s).1.r.rest.length ≤ s.r.rest.length := Nat.le_trans (strS_le _) (Nat.le_trans (strS_le _) (strS_le _))
theorem pends_in : ∀ (c : Nat) (s : Rs) (l : List Pend), s.r.rest.length ≤ 2000000 → (∀ x ∈ l, x.addr.length ≤ 2000000 ∧ x.tok.length ≤ 2000000) → (∀ x ∈ (pendsS c s l).2, x.addr.length ≤ 2000000 ∧ x.tok.length ≤ 2000000) ∧ (pendsS c s l).2.length = l.length + c ∧ (pendsS c s l).1.r.rest.length ≤ s.r.rest.length
 | 0, s, l, hs, hl => ⟨hl, rfl, Nat.le_refl _⟩
 | c + 1, s, l, hs, hl => by
  unfold pendsS
  have h0 := pendS_le s
  have k1 := strS_len s
  have k2 := strS_len (strS (strS s).1).1
  have k3 := strS_le s
  have k4 := strS_le (strS s).1
  obtain ⟨h1, h2, h3⟩ := pends_in c (pendS s).1 (l ++ [(pendS s).2]) (by omega) (fun x hx => by
   rcases List.mem_append.1 hx with hx | hx
   ·exact hl x hx
   ·rw [List.mem_singleton.1 hx]
    unfold pendS
    dsimp only
    exact ⟨by omega, by omega⟩)
  refine ⟨h1, ?_, Nat.le_trans h3 h0⟩
  rw [h2, List.length_append, List.length_singleton]; omega
theorem outS_le (s : Rs) : (outS s).1.r.rest.length ≤ s.r.rest.length := Nat.le_trans (flagS_le _) (Nat.le_trans (valueS_le _) (strS_le _))
theorem outs_in : ∀ (c : Nat) (s : Rs) (l : List Outp), s.r.rest.length ≤ 2000000 → (∀ x ∈ l, x.name.length ≤ 2000000 ∧ x.value.lens) → (∀ x ∈ (outsS c s l).2.1, x.name.length ≤ 2000000 ∧ x.value.lens) ∧ (outsS c s l).2.1.length ≤ l.length + c
 | 0, s, l, hs, hl => ⟨hl, Nat.le_refl _⟩
 | c + 1, s, l, hs, hl => by
  unfold outsS
  split
  ·exact ⟨hl, by dsimp only; omega⟩
  ·have h0 := outS_le s
   have k1 := strS_len s
   have k3 := strS_le s
   obtain ⟨h1, h2⟩ := outs_in c (outS s).1 (l ++ [(outS s).2]) (by omega) (fun x hx => by
    rcases List.mem_append.1 hx with hx | hx
    ·exact hl x hx
    ·rw [List.mem_singleton.1 hx]
     unfold outS
     dsimp only
     exact ⟨by omega, value_lens _ (by omega)⟩)
   refine ⟨h1, ?_⟩
   rw [List.length_append, List.length_singleton] at h2; omega
theorem state_in (ver : Int) (s : Rs) (hs : s.r.rest.length ≤ 2000000) : AX.Sf.StIn (stateS ver s).2 := by
 have e1 := strS_le s
 have e2 := numS_le (strS s).1
 have e3 := cntS_le (numS (strS s).1).1
 have e4 := cntS_cnt (numS (strS s).1).1
 have l1 := strS_len s
 obtain ⟨i1, i2, i3⟩ := insts_in ver (cntS (numS (strS s).1).1).2 (cntS (numS (strS s).1).1).1 [] (by omega) (by simp)
 unfold stateS
 dsimp only
 generalize instsS ver (cntS (numS (strS s).1).1).2 (cntS (numS (strS s).1).1).1 [] = I at i1 i2 i3
 rw [List.length_nil] at i2
 split
 ·exact ⟨by dsimp only; omega, i1, by simp, by simp, by dsimp only; omega, by simp, by simp⟩
 ·have hP : ∃ P : Rs × List Pend, (if ver = 2 then pendsS (cntS I.1).2 (cntS I.1).1 [] else (I.1, [])) = P ∧ P.1.r.rest.length ≤ 2000000 ∧ (∀ x ∈ P.2, x.addr.length ≤ 2000000 ∧ x.tok.length ≤ 2000000) ∧ P.2.length ≤ 2000000 := by
   have c1 := cntS_le I.1
   have c2 := cntS_cnt I.1
   by_cases hv : ver = 2
   ·rw [if_pos hv]
    obtain ⟨p1, p2, p3⟩ := pends_in (cntS I.1).2 (cntS I.1).1 [] (by omega) (by simp)
    exact ⟨_, rfl, by omega, p1, by rw [p2, List.length_nil]; omega⟩
   ·rw [if_neg hv]
    exact ⟨_, rfl, by dsimp only; omega, by simp, by simp⟩
  obtain ⟨P, hP, p1, p2, p3⟩ := hP
  rw [hP]
  have c1 := cntS_le P.1
  have c2 := cntS_cnt P.1
  obtain ⟨o1, o2⟩ := outs_in (cntS P.1).2 (cntS P.1).1 [] (by omega) (by simp)
  rw [List.length_nil] at o2
  exact ⟨by dsimp only; omega, i1, p2, o1, by dsimp only; omega, by dsimp only; omega, by dsimp only; omega⟩
theorem insts_zero : ∀ (l : List Inst) (p : Option Inst), instsZ p l = 0 → ∀ x ∈ l, instZ x = 0
 | [], _, _ => by simp
 | x :: l, p, h => by
  unfold instsZ at h
  by_cases h1 : instZ x = 0
  rotate_left
  ·rw [if_pos h1] at h; exact absurd h h1
  ·rw [if_neg (by simp [h1])] at h
   have h' : instsZ (some x) l = 0 := by
    cases p with
    | none => simpa using h
    | some y =>
     dsimp only at h
     cases hb : behind y x
     ·simp [hb] at h
     ·simpa [hb] using h
   ·intro y hy
    rcases List.mem_cons.1 hy with rfl | hy
    ·exact h1
    ·exact insts_zero l _ h' y hy
theorem outs_zero : ∀ (l : List Outp) (p : Option (List UInt8)), outsZ p l = 0 → ∀ x ∈ l, outZ x = 0
 | [], _, _ => by simp
 | x :: l, p, h => by
  unfold outsZ at h
  split at h
  ·next h1 => exact absurd h h1
  ·next h1 =>
   split at h
   ·simp at h
   ·intro y hy
    rcases List.mem_cons.1 hy with rfl | hy
    ·simpa using h1
    ·exact outs_zero l _ h y hy
theorem inst_zero {x : Inst} (h : instZ x = 0) : Val.checkZ x.attrs = 0 ∧ 1 ≤ x.ver ∧ x.ver ≤ 9007199254740992 := by
 unfold instZ at h
 split at h
 ·simp at h
 ·split at h
  ·next h1 => exact absurd h h1
  ·next h1 =>
   split at h
   ·simp at h
   ·split at h
    ·simp at h
    ·split at h
     ·simp at h
     ·next h2 => exact ⟨by simpa using h1, by omega, by omega⟩
theorem out_zero {x : Outp} (h : outZ x = 0) : Val.checkZ x.value = 0 := by
 unfold outZ at h
 split at h
 ·simp at h
 ·split at h
  ·next h1 => exact absurd h h1
  ·next h1 => simpa using h1
theorem check_parts {s : St} (h : checkZ s = 0) : 0 ≤ s.ser ∧ s.ser ≤ 9007199254740992 ∧ s.insts.length ≤ 512 ∧ s.pends.length ≤ 512 ∧ s.outs.length ≤ 512 ∧ instsZ none s.insts = 0 ∧ pendsZ none s.pends = 0 ∧ outsZ none s.outs = 0 := by
 unfold checkZ at h
 split at h
 ·simp at h
 ·split at h
  ·simp at h
  ·split at h
   ·simp at h
   ·split at h
    ·next h1 => exact absurd h h1
    ·split at h
     ·next h1 => exact absurd h h1
     ·next h1 h2 h3 h4 h5 => exact ⟨by omega, by omega, by omega, by omega, by omega, by simpa using h4, by simpa using h5, h⟩
theorem stOk_of {s : St} (h : checkZ s = 0) (hin : AX.Sf.StIn s) : AX.Sf.StOk s := by
 obtain ⟨h1, h2, h3, h4, h5, h6, h7, h8⟩ := check_parts h
 refine ⟨fun x hx => ?_, fun x hx => ?_, by omega, by omega, by omega, by omega, by omega⟩
 ·obtain ⟨k1, k2, k3⟩ := inst_zero (insts_zero _ _ h6 x hx)
  exact ⟨⟨1, 0, k1⟩, (hin.insts x hx).l, by omega, by omega⟩
 ·exact ⟨⟨1, 0, out_zero (outs_zero _ _ h8 x hx)⟩, (hin.outs x hx).2⟩
theorem decode_back {b : List UInt8} {st : St} (h : decode b = (st, 0)) : ∃ ver, (ver = 1 ∨ ver = 2) ∧ AX.versionS b = (ver, 0) ∧ checkZ st = 0 ∧ encode ver st = (b, 0) ∧ (stE ver st).length ≤ b.length ∧ (ver = 1 → st.pends = []) ∧ ∃ s : Rs, s.r.rest.length ≤ b.length ∧ st = (stateS ver s).2 := by
 unfold decode at h
 by_cases h1 : 1048576 < b.length
 ·rw [if_pos h1] at h; simp at h
 rw [if_neg h1] at h
 by_cases h2 : AX.preB b = false
 ·rw [if_pos h2] at h; simp at h
 rw [if_neg h2] at h
 by_cases h3 : (Crc.ver b).2 = 0
 rotate_left
 ·rw [if_pos h3] at h; simp at h
 rw [if_neg (by simp [h3])] at h
 obtain ⟨⟨body, e⟩, hb⟩ : ∃ q, Crc.ver b = q := ⟨_, rfl⟩
 rw [hb] at h h3
 dsimp only at h h3
 subst h3
 have happ := Seal.app_ver b body hb
 by_cases h4 : (AX.versionS body).2 = 0
 rotate_left
 ·rw [if_pos h4] at h
  injection h with _ h
  exact absurd h h4
 rw [if_neg (by simp [h4])] at h
 have h12 := AX.versionS_12 h4
 obtain ⟨⟨ver, e⟩, hv⟩ : ∃ q, AX.versionS body = q := ⟨_, rfl⟩
 rw [hv] at h h4 h12
 dsimp only at h h4 h12
 subst h4
 generalize hr : stateS ver ⟨(Wire.numR ⟨body.drop 4, 0⟩).1, false⟩ = r at h
 cases hx : (r.1.fails || decide (0 < r.1.r.rest.length) || checkZ r.2 != 0)
 rotate_left
 ·rw [hx, if_pos rfl] at h; simp at h
 rw [hx, if_neg (by decide)] at h
 injection h with h5 _
 rw [Bool.or_eq_false_iff, Bool.or_eq_false_iff, bne_eq_false_iff_eq, decide_eq_false_iff_not] at hx
 obtain ⟨⟨x1, x2⟩, x3⟩ := hx
 have took := state_took (ver := ver) (s := ⟨(Wire.numR ⟨body.drop 4, 0⟩).1, false⟩) (by rw [hr]; exact x1)
 rw [hr] at took
 have hrest : r.1.r.rest = [] := List.eq_nil_of_length_eq_zero (by omega)
 have t2 : (Wire.numR ⟨body.drop 4, 0⟩).1.rest = restE ver r.2 := by
  have := took.2
  rw [hrest, List.append_nil] at this
  exact this
 have hpre : AX.preB body = true ∧ (Wire.numR ⟨body.drop 4, 0⟩).1.e = 0 ∧ (Wire.numR ⟨body.drop 4, 0⟩).2 = ver := by
  unfold AX.versionS at hv
  dsimp only at hv
  split at hv
  ·simp at hv
  ·next q1 =>
   split at hv
   ·simp at hv
   ·next q2 =>
    split at hv
    ·simp at hv
    ·injection hv with hv _
     exact ⟨by simpa using q1, by simpa using q2, hv⟩
 obtain ⟨g1, g2, g3⟩ := hpre
 obtain ⟨_, g4⟩ := Wire.numR_back g2
 rw [g3, t2] at g4
 have hmag : body.take 4 = magic := by
  unfold AX.preB at g1
  rw [Bool.and_eq_true, beq_iff_eq] at g1
  exact g1.2
 have hbody : body = stE ver r.2 := by
  rw [stE_rest, List.append_assoc, ← g4, ← hmag, List.take_append_drop]
 subst h5
 have hlen : b.length = body.length + 4 := by
  rw [happ]; unfold Crc.app; rw [List.length_append, Crc.four_length]
 have hnum : ∀ l : List UInt8, Wire.numR ⟨Wire.num ver ++ l, 0⟩ = (⟨l, 0⟩, ver) := fun l => by
  unfold Wire.numR
  rw [if_neg (by simp), Wire.grp_num ver l (by omega) (by omega)]
  dsimp only
  rw [List.drop_left]
 refine ⟨ver, h12, ?_, x3, ?_, by rw [← hbody]; omega, ?_, _, ?_, by rw [hr]⟩
 ·have hb4 : b.drop 4 = Wire.num ver ++ (restE ver r.2 ++ Crc.four (Crc.upd 0 body)) := by
   rw [happ]
   unfold Crc.app
   have h4 : 4 ≤ body.length := by
    have := congrArg List.length hmag
    rw [List.length_take] at this
    simp only [magic, List.length_cons, List.length_nil] at this
    omega
   rw [List.drop_append_of_le_length h4]
   rw [show body.drop 4 = Wire.num ver ++ restE ver r.2 from g4, List.append_assoc]
  unfold AX.versionS
  rw [if_neg h2]
  dsimp only
  rw [hb4, hnum]
  dsimp only
  rw [if_neg (by simp), if_neg (by omega)]
 ·unfold encode
  rw [if_neg (by simp [x3]), ← hbody, if_neg (by omega), ← happ]
 ·intro h1v
  rw [← hr]
  unfold stateS
  dsimp only
  split
  ·rfl
  ·rw [if_neg (by omega)]
 ·have := Wire.numR_rest ⟨body.drop 4, 0⟩
  dsimp only at this ⊢
  rw [List.length_drop] at this
  omega
end Sf
end Go.Proofs.YtnjkemakcejceaaGreatDoor

namespace Go.Proofs.YtnjkemakcejceaaGreatDoor
open Go.RowKit
set_option maxHeartbeats 4000000
namespace AX
theorem args3 {x y z : A} {v u r : Value} (h : ∀ C c, Rep C x c → c = v) (h' : ∀ C c, Rep C y c → c = u) (h'' : ∀ C c, Rep C z c → c = r) : ∀ C cs, RepL C [x, y, z] cs → cs = [v, u, r] := fun C cs hr => by
 obtain ⟨c, cs', rfl, h1, h2⟩ := repL_cons.1 hr
 rw [args2 h' h'' C cs' h2, h C c h1]
theorem Sf.encode_len (ver : Int) (st : Sf.St) : (Sf.encode ver st).1.length ≤ 1048576 := by
 unfold Sf.encode
 split
 ·simp
 ·split
  ·simp
  ·next h => show (Crc.app _).length ≤ _; simp [Crc.app, Crc.four]; omega
theorem a_sealCheck (k : List UInt8) (hk : k.length ≤ 1000000000) (h : Hp) : ACall Tryz.prog GT 61 [.str k] h fun r h' => r = .int .i64 (Seal.check k) ∧ h' = h :=
 acall_imp (args1 r_str) (fun w hg => (check_any ⟨k.toArray⟩ w (by rw [size_mk]; exact hk)).mono fun e w' ⟨h1, h2⟩ => ⟨h1, by rw [h2]; exact Below.refl _ _⟩) (fun C => rep_int.2 rfl) h
theorem a_seal (k : List UInt8) (n : Int) (p : List UInt8) (hk : k.length ≤ 1000000000) (hn : Seal.U64 n) (hp : p.length ≤ 1048576) (h : Hp) : ACall Tryz.prog GT 103 [.str k, .int .u64 n, .str p] h fun r h' => r = .tup [.str (Seal.enc k n p).1, .int .i64 (Seal.enc k n p).2] ∧ h' = h :=
 acall_imp (args3 r_str r_int r_str) (fun w hg => enc_any ⟨k.toArray⟩ n ⟨p.toArray⟩ w (by rw [size_mk]; exact hk) hn (by rw [size_mk]; exact hp)) (fun C => rep_tup.2 ⟨_, rfl, repL_cons.2 ⟨_, _, rfl, rep_str.2 rfl, repL_cons.2 ⟨_, _, rfl, rep_int.2 rfl, repL_nil.2 rfl⟩⟩⟩) h
theorem a_open (k p : List UInt8) (hk : k.length ≤ 1000000000) (hp : p.length ≤ 1048600) (h : Hp) : ACall Tryz.prog GT 107 [.str k, .str p] h fun r h' => r = .tup [.str (Seal.dec k p).1, .int .i64 (Seal.dec k p).2] ∧ h' = h :=
 acall_imp (args2 r_str r_str) (fun w hg => dec_any ⟨k.toArray⟩ ⟨p.toArray⟩ w (by rw [size_mk]; exact hk) (by rw [size_mk]; exact hp)) (fun C => rep_tup.2 ⟨_, rfl, repL_cons.2 ⟨_, _, rfl, rep_str.2 rfl, repL_cons.2 ⟨_, _, rfl, rep_int.2 rfl, repL_nil.2 rfl⟩⟩⟩) h
theorem u64_wrap (n : Int) : Seal.U64 (IntKind.u64.wrap n) := by
 rw [IntKind.wrap_u64]
 exact ⟨Int.emod_nonneg _ (by decide), Int.emod_lt_of_pos _ (by decide)⟩
def c_keep : AX.AFn := ⟨50, .seq (.reg false [⟨some 3, .box 26 (.t 1), none, []⟩, ⟨some 4, .mv (.c (.int .i64 0)), none, []⟩]) (.seq (.reg false [⟨some 9, .load true 5 (.t 3), none, []⟩, ⟨some 10, .call 10 [.t 9], none, []⟩, ⟨some 8, .mv (.t 10), none, []⟩, ⟨some 11, .extract (.t 8) 0, none, []⟩, ⟨some 12, .extract (.t 8) 1, none, []⟩, ⟨some 5, .mv (.t 11), none, []⟩, ⟨some 6, .mv (.t 12), none, []⟩]) (.seq (.seq (.reg false [⟨some 13, .mv (.t 6), none, []⟩, ⟨some 14, .bin .neq (.t 13) (.c (.int .i64 0)), none, []⟩]) (.cond (.t 14) (.seq (.reg false [⟨some 15, .mv (.t 6), none, []⟩, ⟨some 4, .mv (.t 15), none, []⟩]) (.ret)) (.skip))) (.seq (.reg true [⟨some 17, .mv (.t 0), none, []⟩, ⟨some 18, .nilck (.t 17), none, [0]⟩, ⟨some 19, .faddr 0 (.t 18), none, [1]⟩, ⟨some 20, .load false 1 (.t 19), none, [2]⟩, ⟨some 21, .faddr 1 (.t 3), none, []⟩, ⟨some 22, .load false 1 (.t 21), none, [4]⟩, ⟨some 23, .conv .u64 (.t 22), none, [5]⟩, ⟨some 24, .mv (.t 5), none, []⟩, ⟨some 25, .call 103 [.t 20, .t 23, .t 24], none, [3, 6, 7]⟩, ⟨some 16, .mv (.t 25), none, [8]⟩, ⟨some 26, .extract (.t 16) 0, none, [9]⟩, ⟨some 27, .extract (.t 16) 1, none, [9]⟩, ⟨some 7, .mv (.t 26), none, [10, 8, 0, 1, 2, 3, 4, 5, 6, 7, 8, 9, 10]⟩, ⟨some 6, .mv (.t 27), none, [11, 12, 0, 1, 2, 3, 4, 5, 6, 7, 8, 9, 10, 11, 12]⟩]) (.seq (.seq (.reg false [⟨some 28, .mv (.t 6), none, []⟩, ⟨some 29, .bin .neq (.t 28) (.c (.int .i64 0)), none, []⟩]) (.cond (.t 29) (.seq (.reg false [⟨some 30, .mv (.t 6), none, []⟩, ⟨some 4, .mv (.t 30), none, []⟩]) (.ret)) (.skip))) (.seq (.reg true [⟨some 31, .mv (.t 0), none, []⟩, ⟨some 32, .nilck (.t 31), none, [0]⟩, ⟨some 33, .faddr 3 (.t 32), none, [1]⟩, ⟨some 34, .load false 1 (.t 33), none, [2]⟩, ⟨some 35, .faddr 1 (.t 3), none, []⟩, ⟨some 36, .load false 1 (.t 35), none, [4]⟩, ⟨some 37, .mv (.t 7), none, []⟩, ⟨none, .mset (.t 34) (.t 36) (.t 37), none, [3, 5, 6, 0, 1, 2, 3, 4, 5, 6]⟩]) (.seq (.reg false [⟨some 38, .mv (.t 0), none, []⟩, ⟨some 39, .faddr 1 (.t 3), none, []⟩, ⟨some 40, .load false 1 (.t 39), none, []⟩, ⟨some 41, .nilck (.t 38), none, []⟩, ⟨some 42, .faddr 2 (.t 41), none, []⟩, ⟨none, .store 1 (.t 42) (.t 40), none, []⟩]) (.seq (.reg true [⟨some 43, .mv (.t 0), none, []⟩, ⟨some 44, .nilck (.t 43), none, [0]⟩, ⟨some 45, .faddr 3 (.t 44), none, [1]⟩, ⟨some 46, .load false 1 (.t 45), none, [2]⟩, ⟨some 47, .faddr 1 (.t 3), none, []⟩, ⟨some 48, .load false 1 (.t 47), none, [4]⟩, ⟨some 49, .bin .sub (.t 48) (.c (.int .i64 64)), none, [5]⟩, ⟨none, .mdel (.t 46) (.t 49), none, [3, 6]⟩]) (.seq (.reg false [⟨some 4, .mv (.c (.int .i64 0)), none, []⟩]) (.ret))))))))), [.t 4]⟩
theorem h_keep : AX.compFn Tryz.prog 63 = some c_keep := by kernel_rfl
def c_splain : AX.AFn := ⟨27, .seq (.reg false [⟨some 4, .mv (.c (.str [])), none, []⟩, ⟨some 5, .mv (.c (.int .i64 0)), none, []⟩]) (.seq (.reg false [⟨some 9, .mv (.t 0), none, []⟩, ⟨some 10, .nilck (.t 9), none, []⟩, ⟨some 11, .faddr 3 (.t 10), none, []⟩, ⟨some 12, .load false 1 (.t 11), none, []⟩, ⟨some 13, .mv (.t 1), none, []⟩, ⟨some 14, .mget (.str []) true (.t 12) (.t 13), none, []⟩, ⟨some 8, .mv (.t 14), none, []⟩, ⟨some 15, .extract (.t 8) 0, none, []⟩, ⟨some 16, .extract (.t 8) 1, none, []⟩, ⟨some 6, .mv (.t 15), none, []⟩, ⟨some 7, .mv (.t 16), none, []⟩]) (.seq (.seq (.reg false [⟨some 17, .mv (.t 7), none, []⟩, ⟨some 18, .un .not (.t 17), none, []⟩]) (.cond (.t 18) (.seq (.reg false [⟨some 4, .mv (.c (.str [])), none, []⟩, ⟨some 5, .mv (.c (.int .i64 9)), none, []⟩]) (.ret)) (.skip))) (.seq (.reg false [⟨some 19, .mv (.t 0), none, []⟩, ⟨some 20, .nilck (.t 19), none, []⟩, ⟨some 21, .faddr 0 (.t 20), none, []⟩, ⟨some 22, .load false 1 (.t 21), none, []⟩, ⟨some 23, .mv (.t 6), none, []⟩, ⟨some 24, .call 107 [.t 22, .t 23], none, []⟩, ⟨some 25, .extract (.t 24) 0, none, []⟩, ⟨some 26, .extract (.t 24) 1, none, []⟩, ⟨some 4, .mv (.t 25), none, []⟩, ⟨some 5, .mv (.t 26), none, []⟩]) (.ret)))), [.t 4, .t 5]⟩
theorem h_splain : AX.compFn Tryz.prog 72 = some c_splain := by kernel_rfl
def c_sat : AX.AFn := ⟨34, .seq (.reg false [⟨some 4, .alloc 26 [.str [], .int .i64 0, .sl 0 .nil [], .sl 0 .nil [], .sl 0 .nil []], none, []⟩, ⟨some 5, .mv (.c (.int .i64 0)), none, []⟩]) (.seq (.seq (.reg false [⟨some 9, .mv (.t 0), none, []⟩, ⟨some 10, .call 67 [.t 9], none, []⟩, ⟨some 11, .un .not (.t 10), none, []⟩]) (.cond (.t 11) (.seq (.reg false [⟨some 12, .build [.str [], .int .i64 0, .sl 0 .nil [], .sl 0 .nil [], .sl 0 .nil []] [], none, []⟩, ⟨none, .store 5 (.t 4) (.t 12), none, []⟩, ⟨some 5, .mv (.c (.int .i64 38)), none, []⟩]) (.ret)) (.skip))) (.seq (.reg false [⟨some 14, .mv (.t 0), none, []⟩, ⟨some 15, .mv (.t 1), none, []⟩, ⟨some 16, .call 72 [.t 14, .t 15], none, []⟩, ⟨some 13, .mv (.t 16), none, []⟩, ⟨some 17, .extract (.t 13) 0, none, []⟩, ⟨some 18, .extract (.t 13) 1, none, []⟩, ⟨some 6, .mv (.t 17), none, []⟩, ⟨some 7, .mv (.t 18), none, []⟩]) (.seq (.seq (.reg false [⟨some 19, .mv (.t 7), none, []⟩, ⟨some 20, .bin .neq (.t 19) (.c (.int .i64 0)), none, []⟩]) (.cond (.t 20) (.seq (.reg false [⟨some 21, .build [.str [], .int .i64 0, .sl 0 .nil [], .sl 0 .nil [], .sl 0 .nil []] [], none, []⟩, ⟨some 22, .mv (.t 7), none, []⟩, ⟨none, .store 5 (.t 4) (.t 21), none, []⟩, ⟨some 5, .mv (.t 22), none, []⟩]) (.ret)) (.skip))) (.seq (.reg false [⟨some 24, .mv (.t 6), none, []⟩, ⟨some 25, .call 12 [.t 24], none, []⟩, ⟨some 23, .mv (.t 25), none, []⟩, ⟨some 26, .extract (.t 23) 0, none, []⟩, ⟨some 27, .extract (.t 23) 1, none, []⟩, ⟨some 8, .alloc 26 [.str [], .int .i64 0, .sl 0 .nil [], .sl 0 .nil [], .sl 0 .nil []], none, []⟩, ⟨none, .store 5 (.t 8) (.t 26), none, []⟩, ⟨some 7, .mv (.t 27), none, []⟩]) (.seq (.seq (.reg false [⟨some 28, .mv (.t 7), none, []⟩, ⟨some 29, .bin .eql (.t 28) (.c (.int .i64 0)), none, []⟩]) (.cond (.t 29) (.reg false [⟨some 30, .load true 5 (.t 8), none, []⟩, ⟨some 31, .call 8 [.t 30], none, []⟩, ⟨some 7, .mv (.t 31), none, []⟩]) (.skip))) (.seq (.reg false [⟨some 32, .load true 5 (.t 8), none, []⟩, ⟨some 33, .mv (.t 7), none, []⟩, ⟨none, .store 5 (.t 4) (.t 32), none, []⟩, ⟨some 5, .mv (.t 33), none, []⟩]) (.ret))))))), [.c 4 true 5, .t 5]⟩
theorem h_sat : AX.compFn Tryz.prog 33 = some c_sat := by kernel_rfl
def c_swrite : AX.AFn := ⟨36, .seq (.reg false [⟨some 5, .box 26 (.t 2), none, []⟩, ⟨some 6, .mv (.c (.int .i64 0)), none, []⟩]) (.seq (.block 0 (.seq (.reg false [⟨some 8, .mv (.t 0), none, []⟩, ⟨some 9, .call 67 [.t 8], none, []⟩, ⟨some 10, .un .not (.t 9), none, []⟩, ⟨some 7, .mv (.t 10), none, []⟩]) (.cond (.t 7) (.seq (.reg false [⟨some 6, .mv (.c (.int .i64 38)), none, []⟩]) (.ret)) (.seq (.reg false [⟨some 12, .mv (.t 0), none, []⟩, ⟨some 13, .mv (.t 1), none, []⟩, ⟨some 14, .call 68 [.t 12, .t 13], none, []⟩, ⟨some 15, .un .not (.t 14), none, []⟩, ⟨some 11, .mv (.t 15), none, []⟩]) (.cond (.t 11) (.seq (.reg false [⟨some 6, .mv (.c (.int .i64 25)), none, []⟩]) (.ret)) (.seq (.reg true [⟨some 17, .faddr 0 (.t 5), none, []⟩, ⟨some 18, .load false 1 (.t 17), none, [0]⟩, ⟨some 19, .mv (.t 0), none, []⟩, ⟨some 20, .nilck (.t 19), none, [2]⟩, ⟨some 21, .faddr 1 (.t 20), none, [3]⟩, ⟨some 22, .load false 1 (.t 21), none, [4]⟩, ⟨some 23, .bin .neq (.t 18) (.t 22), none, [1, 5]⟩, ⟨some 16, .mv (.t 23), none, [6]⟩]) (.cond (.t 16) (.seq (.reg false [⟨some 6, .mv (.c (.int .i64 23)), none, []⟩]) (.ret)) (.seq (.reg true [⟨some 25, .faddr 1 (.t 5), none, []⟩, ⟨some 26, .load false 1 (.t 25), none, [0]⟩, ⟨some 27, .mv (.t 0), none, []⟩, ⟨some 28, .nilck (.t 27), none, [2]⟩, ⟨some 29, .faddr 2 (.t 28), none, [3]⟩, ⟨some 30, .load false 1 (.t 29), none, [4]⟩, ⟨some 31, .bin .add (.t 30) (.c (.int .i64 1)), none, [5]⟩, ⟨some 32, .bin .neq (.t 26) (.t 31), none, [1, 6]⟩, ⟨some 24, .mv (.t 32), none, [7]⟩]) (.cond (.t 24) (.seq (.reg false [⟨some 6, .mv (.c (.int .i64 22)), none, []⟩]) (.ret)) (.skip)))))))))) (.seq (.reg false [⟨some 33, .mv (.t 0), none, []⟩, ⟨some 34, .load true 5 (.t 5), none, []⟩, ⟨some 35, .call 63 [.t 33, .t 34], none, []⟩, ⟨some 6, .mv (.t 35), none, []⟩]) (.ret))), [.t 6]⟩
theorem h_swrite : AX.compFn Tryz.prog 28 = some c_swrite := by kernel_rfl
def c_sread : AX.AFn := ⟨16, .seq (.reg false [⟨some 2, .alloc 26 [.str [], .int .i64 0, .sl 0 .nil [], .sl 0 .nil [], .sl 0 .nil []], none, []⟩, ⟨some 3, .mv (.c (.int .i64 0)), none, []⟩]) (.seq (.seq (.reg false [⟨some 4, .mv (.t 0), none, []⟩, ⟨some 5, .call 67 [.t 4], none, []⟩, ⟨some 6, .un .not (.t 5), none, []⟩]) (.cond (.t 6) (.seq (.reg false [⟨some 7, .build [.str [], .int .i64 0, .sl 0 .nil [], .sl 0 .nil [], .sl 0 .nil []] [], none, []⟩, ⟨none, .store 5 (.t 2) (.t 7), none, []⟩, ⟨some 3, .mv (.c (.int .i64 38)), none, []⟩]) (.ret)) (.skip))) (.seq (.reg false [⟨some 8, .mv (.t 0), none, []⟩, ⟨some 9, .mv (.t 0), none, []⟩, ⟨some 10, .nilck (.t 9), none, []⟩, ⟨some 11, .faddr 2 (.t 10), none, []⟩, ⟨some 12, .load false 1 (.t 11), none, []⟩, ⟨some 13, .call 33 [.t 8, .t 12], none, []⟩, ⟨some 14, .extract (.t 13) 0, none, []⟩, ⟨some 15, .extract (.t 13) 1, none, []⟩, ⟨none, .store 5 (.t 2) (.t 14), none, []⟩, ⟨some 3, .mv (.t 15), none, []⟩]) (.ret))), [.c 2 true 5, .t 3]⟩
theorem h_sread : AX.compFn Tryz.prog 36 = some c_sread := by kernel_rfl
def c_sraw : AX.AFn := ⟨23, .seq (.reg false [⟨some 4, .mv (.c (.str [])), none, []⟩, ⟨some 5, .mv (.c (.int .i64 0)), none, []⟩]) (.seq (.seq (.reg false [⟨some 8, .mv (.t 0), none, []⟩, ⟨some 9, .call 67 [.t 8], none, []⟩, ⟨some 10, .un .not (.t 9), none, []⟩]) (.cond (.t 10) (.seq (.reg false [⟨some 4, .mv (.c (.str [])), none, []⟩, ⟨some 5, .mv (.c (.int .i64 38)), none, []⟩]) (.ret)) (.skip))) (.seq (.reg false [⟨some 12, .mv (.t 0), none, []⟩, ⟨some 13, .nilck (.t 12), none, []⟩, ⟨some 14, .faddr 3 (.t 13), none, []⟩, ⟨some 15, .load false 1 (.t 14), none, []⟩, ⟨some 16, .mv (.t 1), none, []⟩, ⟨some 17, .mget (.str []) true (.t 15) (.t 16), none, []⟩, ⟨some 11, .mv (.t 17), none, []⟩, ⟨some 18, .extract (.t 11) 0, none, []⟩, ⟨some 19, .extract (.t 11) 1, none, []⟩, ⟨some 6, .mv (.t 18), none, []⟩, ⟨some 7, .mv (.t 19), none, []⟩]) (.seq (.seq (.reg false [⟨some 20, .mv (.t 7), none, []⟩, ⟨some 21, .un .not (.t 20), none, []⟩]) (.cond (.t 21) (.seq (.reg false [⟨some 4, .mv (.c (.str [])), none, []⟩, ⟨some 5, .mv (.c (.int .i64 9)), none, []⟩]) (.ret)) (.skip))) (.seq (.reg false [⟨some 22, .mv (.t 6), none, []⟩, ⟨some 4, .mv (.t 22), none, []⟩, ⟨some 5, .mv (.c (.int .i64 0)), none, []⟩]) (.ret))))), [.t 4, .t 5]⟩
theorem h_sraw : AX.compFn Tryz.prog 34 = some c_sraw := by kernel_rfl
section
variable (s : Sto) (l : List Blk) (t : List (TypeId × Nat × Nat))
theorem a_keep (st : Sf.St) (hin : Sf.StIn st) (hk : s.key.length ≤ 1000000000) (hE : (Sf.stE 2 st).length + 20 ≤ 1000000000) : ACall Tryz.prog GT 63 [.ptr 1 0, st.A] ⟨s.M :: s.B :: l, t⟩ fun r h' => r = .int .i64 (s.keep st).2 ∧ h' = ⟨(s.keep st).1.M :: (s.keep st).1.B :: l, t⟩ := by
 refine liftS (s' := (s.keep st).1) ?_ rfl rfl l t
 refine acall_of mixedT h_keep (by simp [c_keep]) ?_
 dsimp only [c_keep]
 have hl := Sf.encode_len 2 st
 have he := a_Encode st (a_stateCheck st hin) (fun hz => ⟨Sf.stOk_of hz hin, hE⟩)
 obtain ⟨q, hq⟩ : ∃ q, s.keep st = q := ⟨_, rfl⟩
 rw [hq]
 unfold Sto.keep at hq
 obtain ⟨⟨p, e⟩, hp⟩ : ∃ q, Sf.encode 2 st = q := ⟨_, rfl⟩
 rw [hp] at hq he hl
 dsimp only at hq he hl
 have hs := fun h => a_seal s.key (IntKind.u64.wrap st.ser) p hk (u64_wrap _) hl h
 obtain ⟨⟨b, e2⟩, hb⟩ : ∃ q, Seal.enc s.key (IntKind.u64.wrap st.ser) p = q := ⟨_, rfl⟩
 rw [hb] at hq hs
 dsimp only at hq hs
 obtain ⟨lin, ser, ins, ps, os⟩ := st
 unfold Sf.St.A at he ⊢
 unfold Sto.B Sto.M
 dsimp only at hq hs he ⊢
 (refine AX.runM True.intro ?_)
 refine use (he _) ?_
 by_cases h1 : e = 0
 rotate_left
 ·rw [if_pos h1] at hq
  subst hq
  have e1 : (e != 0) = true := by simp [h1]
  (refine AX.runM e1 ?_)
  exact ⟨_, le_refl _, rfl, rfl, rfl⟩
 rw [if_neg (by simp [h1])] at hq
 have e1 : (e != 0) = false := by simp [h1]
 (refine AX.runM e1 ?_)
 refine use (hs _) ?_
 by_cases h2 : e2 = 0
 rotate_left
 ·rw [if_pos h2] at hq
  subst hq
  have e3 : (e2 != 0) = true := by simp [h2]
  (refine AX.runM e3 ?_)
  exact ⟨_, le_refl _, rfl, rfl, rfl⟩
 rw [if_neg (by simp [h2])] at hq
 have e3 : (e2 != 0) = false := by simp [h2]
 subst hq
 (refine AX.runM (And.intro e3 (And.intro mput_str merase_str)) ?_)
 exact ⟨_, le_refl _, rfl, rfl, rfl⟩
theorem a_plain (n : Int) (hk : s.key.length ≤ 1000000000) (hb : ∀ b, lfind n s.es = some b → b.length ≤ 1048600) : ACall Tryz.prog GT 72 [.ptr 1 0, .int .i64 n] ⟨s.M :: s.B :: l, t⟩ fun r h' => r = .tup [.str (s.plain n).1, .int .i64 (s.plain n).2] ∧ h' = ⟨s.M :: s.B :: l, t⟩ := by
 refine liftS (s' := s) ?_ rfl rfl l t
 refine acall_of mixedT h_splain (by simp [c_splain]) ?_
 dsimp only [c_splain]
 obtain ⟨q, hq⟩ : ∃ q, s.plain n = q := ⟨_, rfl⟩
 rw [hq]
 unfold Sto.plain at hq
 have hf := mfind_str n s.es
 cases hF : lfind n s.es with
 | none =>
  rw [hF] at hq hf
  dsimp only at hq
  subst hq
  have hf' : mfind n (strM s.es) = none := hf
  unfold Sto.B Sto.M
  (refine AX.runM hf' ?_)
  exact ⟨_, le_refl _, rfl, rfl, rfl⟩
 | some b =>
  rw [hF] at hq hf
  dsimp only at hq
  have hf' : mfind n (strM s.es) = some (.str b) := hf
  have ho := fun h => a_open s.key b hk (hb b hF) h
  rw [hq] at ho
  unfold Sto.B Sto.M
  (refine AX.runM hf' ?_)
  refine use (ho _) ?_
  (refine AX.runM True.intro ?_)
  exact ⟨_, le_refl _, rfl, rfl, rfl⟩
theorem a_at (n : Int) (hk : s.key.length ≤ 1000000000) (hb : ∀ b, lfind n s.es = some b → b.length ≤ 1048600) : ACall Tryz.prog GT 33 [.ptr 1 0, .int .i64 n] ⟨s.M :: s.B :: l, t⟩ fun r h' => r = .tup [(s.at' n).1.A, .int .i64 (s.at' n).2] ∧ h' = ⟨s.M :: s.B :: l, t⟩ := by
 refine liftS (s' := s) ?_ rfl rfl l t
 refine acall_of mixedT h_sat (by simp [c_sat]) ?_
 dsimp only [c_sat]
 obtain ⟨q, hq⟩ : ∃ q, s.at' n = q := ⟨_, rfl⟩
 rw [hq]
 unfold Sto.at' at hq
 have hm := a_made s
 have hpl := fun l t => a_plain s l t n hk hb
 have hpz : (s.plain n).1.length ≤ 1048600 := by
  unfold Sto.plain
  split
  ·simp
  ·next b hF => exact Nat.le_trans (dec_len _ _) (hb b hF)
 obtain ⟨⟨b, e⟩, hp⟩ : ∃ q, s.plain n = q := ⟨_, rfl⟩
 rw [hp] at hq hpl hpz
 dsimp only at hq hpl hpz
 have hD := fun h => a_Decode b (by omega) (ver_len b) (fun ver r hr => a_stateCheck _ (Sf.state_in ver ⟨r, false⟩ (by dsimp only; omega))) h
 have hz : ∀ e : Int, le (.tup [.agg [.str [], .int .i64 0, .sl 0 .nil [], .sl 0 .nil [], .sl 0 .nil []], .int .i64 e]) (.tup [Sf.zero.A, .int .i64 e]) := fun e => ⟨⟨le1_refl _, le1_refl _, ⟨rfl, .inr rfl, .inl rfl⟩, ⟨rfl, .inr rfl, .inl rfl⟩, ⟨rfl, .inr rfl, .inl rfl⟩, trivial⟩, rfl, trivial⟩
 unfold Sto.B Sto.M at hm hpl ⊢
 (refine AX.runM True.intro ?_)
 refine use (hm _ _) ?_
 (refine AX.runM True.intro ?_)
 refine use (hpl _ _) ?_
 by_cases h1 : e = 0
 rotate_left
 ·rw [if_pos h1] at hq
  subst hq
  have e1 : (e != 0) = true := by simp [h1]
  (refine AX.runM e1 ?_)
  exact ⟨_, hz _, rfl, rfl, rfl⟩
 rw [if_neg (by simp [h1])] at hq
 have e1 : (e != 0) = false := by simp [h1]
 have hck : (Sf.decode b).2 = 0 → SCheck (Sf.decode b).1 := fun h0 => by
  obtain ⟨ver, _, _, _, _, _, _, r, hr, hst⟩ := Sf.decode_back (b := b) (st := (Sf.decode b).1) (by rw [← h0])
  rw [hst]
  exact a_stateCheck _ (Sf.state_in ver r (by omega))
 obtain ⟨⟨st, e2⟩, hd⟩ : ∃ q, Sf.decode b = q := ⟨_, rfl⟩
 rw [hd] at hq hD hck
 dsimp only at hq hD hck
 obtain ⟨Z, hZ⟩ : ∃ Z, Sf.checkZ st = Z := ⟨_, rfl⟩
 unfold SCheck at hck
 rw [hZ] at hq hck
 obtain ⟨lin, ser, ins, ps, os⟩ := st
 have hA : ∀ e, (A.tup [Sf.St.A ⟨lin, ser, ins, ps, os⟩, .int .i64 e]) = A.tup [Sf.St.A ⟨lin, ser, ins, ps, os⟩, .int .i64 e] := fun _ => rfl
 (refine AX.runM e1 ?_)
 refine use (hD _) ?_
 unfold Sf.St.A at hck ⊢
 by_cases h2 : e2 = 0
 ·rw [if_pos h2] at hq
  subst hq
  have e3 : (e2 == 0) = true := by simp [h2]
  (refine AX.runM e3 ?_)
  refine use (hck h2 _) ?_
  (refine AX.runM True.intro ?_)
  exact ⟨_, le_refl _, rfl, rfl, rfl⟩
 ·rw [if_neg h2] at hq
  subst hq
  have e3 : (e2 == 0) = false := by simp [h2]
  (refine AX.runM e3 ?_)
  exact ⟨_, le_refl _, rfl, rfl, rfl⟩
theorem a_swrite (who : List UInt8) (st : Sf.St) (hin : Sf.StIn st) (hk : s.key.length ≤ 1000000000) (hE : (Sf.stE 2 st).length + 20 ≤ 1000000000) : ACall Tryz.prog GT 28 [.ptr 1 0, .str who, st.A] ⟨s.M :: s.B :: l, t⟩ fun r h' => r = .int .i64 (s.write who st).2 ∧ h' = ⟨(s.write who st).1.M :: (s.write who st).1.B :: l, t⟩ := by
 refine liftS (s' := (s.write who st).1) ?_ rfl rfl l t
 refine acall_of mixedT h_swrite (by simp [c_swrite]) ?_
 dsimp only [c_swrite]
 have hkp := fun l t => a_keep s l t st hin hk hE
 obtain ⟨q, hq⟩ : ∃ q, s.write who st = q := ⟨_, rfl⟩
 rw [hq]
 unfold Sto.write at hq
 have hm := a_made s
 have hh := fun l t => a_holds s l t who
 obtain ⟨k, hkk⟩ : ∃ k, s.keep st = k := ⟨_, rfl⟩
 rw [hkk] at hq hkp
 obtain ⟨lin, ser, ins, ps, os⟩ := st
 unfold Sf.St.A at hkp ⊢
 dsimp only at hq
 rw [show s.B = .cells 79 [.str s.key, .str s.lin, .int .i64 s.latest, .mp 0, .str s.own, .int .i64 s.left] from rfl] at hm hh hkp ⊢
 (refine AX.runM True.intro ?_)
 refine use (hm _ _) ?_
 (refine AX.runM True.intro ?_)
 refine use (hh _ _) ?_
 cases hT : s.holds who
 ·rw [hT, if_pos (by decide)] at hq
  subst hq
  (refine AX.runM True.intro ?_)
  exact ⟨_, le_refl _, rfl, rfl, rfl⟩
 rw [hT, if_neg (by decide)] at hq
 by_cases h1 : lin = s.lin
 rotate_left
 ·rw [if_pos h1] at hq
  subst hq
  have e1 : (lin != s.lin) = true := by simp [h1]
  (refine AX.runM e1 ?_)
  exact ⟨_, le_refl _, rfl, rfl, rfl⟩
 rw [if_neg (by simp [h1])] at hq
 have e1 : (lin != s.lin) = false := by simp [h1]
 by_cases h2 : ser = IntKind.i64.wrap (s.latest + 1)
 rotate_left
 ·rw [if_pos h2] at hq
  subst hq
  have e2 : (ser != IntKind.i64.wrap (s.latest + 1)) = true := by simp [h2]
  (refine AX.runM (And.intro e1 e2) ?_)
  exact ⟨_, le_refl _, rfl, rfl, rfl⟩
 rw [if_neg (by simp [h2])] at hq
 subst hq
 have e2 : (ser != IntKind.i64.wrap (s.latest + 1)) = false := by simp [h2]
 (refine AX.runM (And.intro e1 e2) ?_)
 refine use (hkp _ _) ?_
 (refine AX.runM True.intro ?_)
 exact ⟨_, le_refl _, rfl, rfl, rfl⟩
theorem a_read (hk : s.key.length ≤ 1000000000) (hb : ∀ b, lfind s.latest s.es = some b → b.length ≤ 1048600) : ACall Tryz.prog GT 36 [.ptr 1 0] ⟨s.M :: s.B :: l, t⟩ fun r h' => r = .tup [(s.at' s.latest).1.A, .int .i64 (s.at' s.latest).2] ∧ h' = ⟨s.M :: s.B :: l, t⟩ := by
 refine liftS (s' := s) ?_ rfl rfl l t
 refine acall_of mixedT h_sread (by simp [c_sread]) ?_
 dsimp only [c_sread]
 have hm := a_made s
 have ha := fun l t => a_at s l t s.latest hk hb
 obtain ⟨⟨st, e⟩, hq⟩ : ∃ q, s.at' s.latest = q := ⟨_, rfl⟩
 rw [hq] at ha ⊢
 obtain ⟨lin, ser, ins, ps, os⟩ := st
 unfold Sf.St.A at ha ⊢
 dsimp only at ha ⊢
 unfold Sto.B at hm ha ⊢
 (refine AX.runM True.intro ?_)
 refine use (hm _ _) ?_
 (refine AX.runM True.intro ?_)
 refine use (ha _ _) ?_
 (refine AX.runM True.intro ?_)
 exact ⟨_, le_refl _, rfl, rfl, rfl⟩
end
end AX
end Go.Proofs.YtnjkemakcejceaaGreatDoor

namespace Go.Proofs.YtnjkemakcejceaaGreatDoor
open Go.RowKit
set_option maxHeartbeats 4000000
namespace AX
namespace Sto
def lo (s : Sto) : Int := if 0 > s.latest - 63 then 0 else s.latest - 63
def upTo (lo : Int) (k : Nat) : List Int := (List.range k).map fun i : Nat => lo + (i : Int)
def serials (s : Sto) : List Int := upTo s.lo (s.latest + 1 - s.lo).toNat
end Sto
def rowsI (l : List Int) : List (List A) := l.map fun n => [.int .i64 n]
theorem upTo_succ (lo : Int) (k : Nat) : rowsI (Sto.upTo lo (k + 1)) = rowsI (Sto.upTo lo k) ++ [[.int .i64 (lo + (k : Int))]] := by
 unfold rowsI Sto.upTo
 rw [List.range_succ, List.map_append, List.map_append]
 rfl
theorem rowsI_len (lo : Int) (k : Nat) : (rowsI (Sto.upTo lo k)).length = k := by simp [rowsI, Sto.upTo]
def c_serials : AX.AFn := ⟨28, .seq (.reg false [⟨some 2, .mv (.c (.sl 0 .nil [])), none, []⟩]) (.seq (.seq (.reg false [⟨some 5, .mv (.t 0), none, []⟩, ⟨some 6, .call 67 [.t 5], none, []⟩, ⟨some 7, .un .not (.t 6), none, []⟩]) (.cond (.t 7) (.seq (.reg false [⟨some 2, .mv (.c (.sl 0 .nil [])), none, []⟩]) (.ret)) (.skip))) (.seq (.reg false [⟨some 3, .mv (.c (.sl 0 .nil [])), none, []⟩]) (.seq (.seq (.reg false [⟨some 8, .mv (.t 0), none, []⟩, ⟨some 9, .nilck (.t 8), none, []⟩, ⟨some 10, .faddr 2 (.t 9), none, []⟩, ⟨some 11, .load false 1 (.t 10), none, []⟩, ⟨some 12, .bin .sub (.t 11) (.c (.int .i64 64)), none, []⟩, ⟨some 13, .bin .add (.t 12) (.c (.int .i64 1)), none, []⟩, ⟨some 14, .mm true (.t 13) (.c (.int .i64 0)), none, []⟩, ⟨some 4, .mv (.t 14), none, []⟩]) (.block 0 (.loop (.seq (.seq (.reg false [⟨some 15, .mv (.t 4), none, []⟩, ⟨some 16, .mv (.t 0), none, []⟩, ⟨some 17, .nilck (.t 16), none, []⟩, ⟨some 18, .faddr 2 (.t 17), none, []⟩, ⟨some 19, .load false 1 (.t 18), none, []⟩, ⟨some 20, .bin .leq (.t 15) (.t 19), none, []⟩]) (.cond (.t 20) (.skip) (.exit 0))) (.seq (.block 1 (.reg false [⟨some 23, .mv (.t 3), none, []⟩, ⟨some 24, .mv (.t 4), none, []⟩, ⟨some 25, .mks 1 [.t 24], none, []⟩, ⟨some 26, .app 3 1 8 (.t 23) (.t 25), none, []⟩, ⟨some 3, .mv (.t 26), none, []⟩])) (.reg false [⟨some 21, .mv (.t 4), none, []⟩, ⟨some 22, .bin .add (.t 21) (.c (.int .i64 1)), none, []⟩, ⟨some 4, .mv (.t 22), none, []⟩])))))) (.seq (.reg false [⟨some 27, .mv (.t 3), none, []⟩, ⟨some 2, .mv (.t 27), none, []⟩]) (.ret))))), [.t 2]⟩
theorem h_serials : AX.compFn Tryz.prog 37 = some c_serials := by kernel_rfl
def c_snew : AX.AFn := ⟨30, .seq (.reg false [⟨some 4, .mv (.c (.nilp)), none, []⟩, ⟨some 5, .mv (.c (.int .i64 0)), none, []⟩]) (.seq (.seq (.reg false [⟨some 9, .mv (.t 0), none, []⟩, ⟨some 10, .call 61 [.t 9], none, []⟩, ⟨some 6, .mv (.t 10), none, []⟩]) (.seq (.reg false [⟨some 11, .mv (.t 6), none, []⟩, ⟨some 12, .bin .neq (.t 11) (.c (.int .i64 0)), none, []⟩]) (.cond (.t 12) (.seq (.reg false [⟨some 13, .mv (.t 6), none, []⟩, ⟨some 4, .mv (.c (.nilp)), none, []⟩, ⟨some 5, .mv (.t 13), none, []⟩]) (.ret)) (.skip)))) (.seq (.seq (.reg false [⟨some 14, .mv (.t 1), none, []⟩, ⟨some 15, .call 62 [.t 14], none, []⟩, ⟨some 16, .un .not (.t 15), none, []⟩]) (.cond (.t 16) (.seq (.reg false [⟨some 4, .mv (.c (.nilp)), none, []⟩, ⟨some 5, .mv (.c (.int .i64 1)), none, []⟩]) (.ret)) (.skip))) (.seq (.reg false [⟨some 17, .mv (.t 0), none, []⟩, ⟨some 18, .mv (.t 1), none, []⟩, ⟨some 19, .mkmap, none, []⟩, ⟨some 20, .build [.str [], .str [], .int .i64 0, .nilm, .str [], .int .i64 0] [(0, 1, .t 17), (1, 1, .t 18), (3, 1, .t 19)], none, []⟩, ⟨some 21, .box 79 (.t 20), none, []⟩, ⟨some 7, .mv (.t 21), none, []⟩]) (.seq (.seq (.reg false [⟨some 22, .mv (.t 7), none, []⟩, ⟨some 23, .mv (.t 1), none, []⟩, ⟨some 24, .build [.str [], .int .i64 0, .sl 0 .nil [], .sl 0 .nil [], .sl 0 .nil []] [(0, 1, .t 23)], none, []⟩, ⟨some 25, .call 63 [.t 22, .t 24], none, []⟩, ⟨some 8, .mv (.t 25), none, []⟩]) (.seq (.reg false [⟨some 26, .mv (.t 8), none, []⟩, ⟨some 27, .bin .neq (.t 26) (.c (.int .i64 0)), none, []⟩]) (.cond (.t 27) (.seq (.reg false [⟨some 28, .mv (.t 8), none, []⟩, ⟨some 4, .mv (.c (.nilp)), none, []⟩, ⟨some 5, .mv (.t 28), none, []⟩]) (.ret)) (.skip)))) (.seq (.reg false [⟨some 29, .mv (.t 7), none, []⟩, ⟨some 4, .mv (.t 29), none, []⟩, ⟨some 5, .mv (.c (.int .i64 0)), none, []⟩]) (.ret)))))), [.t 4, .t 5]⟩
theorem h_snew : AX.compFn Tryz.prog 16 = some c_snew := by kernel_rfl
theorem a_serials (s : Sto) (l : List Blk) (t : List (TypeId × Nat × Nat)) (h0 : 0 ≤ s.latest) (h1 : s.latest ≤ 9007199254740992) : ACall Tryz.prog GT 37 [.ptr 1 0] ⟨s.M :: s.B :: l, t⟩ fun r h' => r = .sl 1 .no (rowsI s.serials) ∧ h' = ⟨s.M :: s.B :: l, t⟩ := by
 refine liftS (s' := s) ?_ rfl rfl l t
 refine acall_of mixedT h_serials (by simp [c_serials]) ?_
 dsimp only [c_serials]
 have hm := a_made s
 unfold Sto.B at hm ⊢
 have w1 : IntKind.i64.wrap (s.latest - 64) = s.latest - 64 := wrap64 (by omega) (by omega)
 have w2 : IntKind.i64.wrap (s.latest - 64 + 1) = s.latest - 63 := by rw [wrap64 (by omega) (by omega)]; omega
 obtain ⟨lo, hlo⟩ : ∃ lo, s.lo = lo := ⟨_, rfl⟩
 have w3 : (if 0 > s.latest - 63 then 0 else s.latest - 63) = lo := hlo
 have b1 : 0 ≤ lo ∧ lo ≤ s.latest := by rw [← w3]; split <;> omega
 have b2 : s.latest ≤ lo + 63 := by rw [← w3]; split <;> omega
 (refine AX.runM True.intro ?_)
 refine use (hm _ _) ?_
 (refine AX.runM (And.intro w1 (And.intro w2 w3)) ?_)
 have upTo0 : rowsI (Sto.upTo lo 0) = [] := rfl
 have upTo1 : lo + ((0 : Nat) : Int) = lo := by simp
 refine awp_loop (fun mm ts h => ∃ (k : Nat) (W : Nat) (o : Own) (t : List (TypeId × Nat × Nat)), mm + k = (s.latest + 1 - lo).toNat ∧
  h = ⟨[s.M, .cells 79 [.str s.key, .str s.lin, .int .i64 s.latest, .mp 0, .str s.own, .int .i64 s.left]], t⟩ ∧
  Gs 3 1 0 ⟨[], t⟩ (rowsI (Sto.upTo lo k)) (.sl W o (rowsI (Sto.upTo lo k))) ∧ ts 0 = .ptr 1 0 ∧ ts 3 = .sl W o (rowsI (Sto.upTo lo k)) ∧ ts 4 = .int .i64 (lo + (k : Int))) (s.latest + 1 - lo).toNat ?_ ?_
 ·exact ⟨0, 0, .nil, [], by omega, rfl, .inl ⟨rfl, rfl⟩, by (exact AX.ev0 True.intro), by (exact AX.ev0 upTo0), by (exact AX.ev0 upTo1)⟩
 rintro mm ts h ⟨k, W, o, t, hk, rfl, gX, t0, t3, t4⟩
 cases mm with
 | zero =>
  have e1 : ¬ (lo + (k : Int) ≤ s.latest) := by omega
  (refine AX.runM (And.intro t0 (And.intro t3 (And.intro t4 e1))) ?_)
  refine ⟨_, ?_, rfl, rfl, rfl⟩
  have hk' : k = (s.latest + 1 - lo).toNat := by omega
  rw [show s.serials = Sto.upTo lo k by unfold Sto.serials; rw [hlo, hk']]
  rw [tupA_1]
  rcases gX with ⟨hr, hx⟩ | ⟨j, _, hx, _⟩
  ·exfalso
   have := rowsI_len lo k
   rw [hr] at this
   simp at this
   omega
  ·injection hx with hx1 hx2 hx3
   subst hx1
   exact ⟨rfl, .inl rfl, .inl rfl⟩
 | succ f =>
  have e1 : lo + (k : Int) ≤ s.latest := by omega
  obtain ⟨W', o', t', hX, gX', _⟩ := gX.grow 8 [.int .i64 (lo + (k : Int))] (by rw [rowsI_len]; omega) (by decide)
  rw [← upTo_succ] at gX'
  simp only [← upTo_succ] at hX
  have w4 : IntKind.i64.wrap (lo + (k : Int) + 1) = lo + ((k + 1 : Nat) : Int) := by rw [wrap64 (by omega) (by omega)]; omega
  (refine AX.runM (And.intro t0 (And.intro t3 (And.intro t4 (And.intro e1 (And.intro hX w4))))) ?_)
  exact ⟨f, by omega, k + 1, W', o', t', by omega, rfl, gX', by (exact AX.ev0 t0), by (exact AX.ev0 t3), by (exact AX.ev0 t4)⟩
def Sto.new (key lin : List UInt8) : Sto := ⟨key, lin, 0, [], 0, [], 0⟩
theorem new_len (lin : List UInt8) (hl : lin.length ≤ 900000) : Sf.StIn ⟨lin, 0, [], [], []⟩ := ⟨by dsimp only; omega, by simp, by simp, by simp, by simp, by simp, by simp⟩
theorem a_new (key lin : List UInt8) (hk : key.length ≤ 1000000000) (hl : lin.length ≤ 900000) (hE : (Sf.stE 2 ⟨lin, 0, [], [], []⟩).length + 20 ≤ 1000000000) (hc : Seal.check key = 0) (ht : Sto.txt lin = true) (hz : ((Sto.new key lin).keep ⟨lin, 0, [], [], []⟩).2 = 0) :
  ACall Tryz.prog GT 16 [.str key, .str lin] ⟨[], []⟩ fun r h' => r = .tup [.ptr 1 0, .int .i64 0] ∧ h' = ⟨[((Sto.new key lin).keep ⟨lin, 0, [], [], []⟩).1.M, ((Sto.new key lin).keep ⟨lin, 0, [], [], []⟩).1.B], []⟩ := by
 refine acall_of mixedT h_snew (by simp [c_snew]) ?_
 dsimp only [c_snew]
 have hkp := a_keep (Sto.new key lin) [] [] ⟨lin, 0, [], [], []⟩ (new_len lin hl) hk hE
 obtain ⟨⟨s2, e⟩, hq⟩ : ∃ q, (Sto.new key lin).keep ⟨lin, 0, [], [], []⟩ = q := ⟨_, rfl⟩
 rw [hq] at hkp hz ⊢
 dsimp only at hkp hz ⊢
 subst hz
 have hkp' : ACall Tryz.prog GT 63 [.ptr 1 0, .agg [.str lin, .int .i64 0, .sl 0 .nil [], .sl 0 .nil [], .sl 0 .nil []]] ⟨[(Sto.new key lin).M, (Sto.new key lin).B], []⟩ (fun r h' => r = .int .i64 0 ∧ h' = ⟨[s2.M, s2.B], []⟩) := by
  refine ACall.args ?_ hkp
  exact ⟨rfl, ⟨le1_refl _, le1_refl _, ⟨rfl, .inr rfl, .inl rfl⟩, ⟨rfl, .inr rfl, .inl rfl⟩, ⟨rfl, .inr rfl, .inl rfl⟩, trivial⟩, trivial⟩
 have hM : (Sto.new key lin).M = .map [] 0 := rfl
 have hB : (Sto.new key lin).B = .cells 79 [.str key, .str lin, .int .i64 0, .mp 0, .str [], .int .i64 0] := rfl
 rw [hM, hB] at hkp'
 have hc' := fun h => a_sealCheck key hk h
 rw [hc] at hc'
 have ht' := fun h => a_sttext lin (by omega) h
 rw [ht] at ht'
 (refine AX.runM True.intro ?_)
 refine use (hc' _) ?_
 (refine AX.runM True.intro ?_)
 refine use (ht' _) ?_
 (refine AX.runM True.intro ?_)
 refine use hkp' ?_
 (refine AX.runM True.intro ?_)
 exact ⟨_, le_refl _, rfl, rfl⟩
end AX
end Go.Proofs.YtnjkemakcejceaaGreatDoor

namespace Go.Proofs.YtnjkemakcejceaaGreatDoor
open Go.RowKit
set_option maxHeartbeats 4000000
namespace AX
namespace Sto
def stX (n : Int) : Sf.St := ⟨[120], n, [], [], []⟩
def w0 : Sto := (Sto.new [107] [120]).keep (stX 0) |>.1
def w1 : Sto := (w0.lock [97] 5).1
def w2 : Sto := (w1.write [97] (stX 1)).1
def w3 : Sto := w2.tick 2
end Sto
open Sto in
theorem stX_in (n : Int) : Sf.StIn (stX n) := ⟨by show [_].length ≤ _; simp, by simp [stX], by simp [stX], by simp [stX], by simp [stX], by simp [stX], by simp [stX]⟩
open Sto in
theorem stX_le (n : Int) (who : List UInt8) : leL2 [.ptr 1 0, .str who, .agg [.str [120], .int .i64 n, .sl 0 .nil [], .sl 0 .nil [], .sl 0 .nil []]] [.ptr 1 0, .str who, (stX n).A] :=
 ⟨rfl, rfl, ⟨le1_refl _, le1_refl _, ⟨rfl, .inr rfl, .inl rfl⟩, ⟨rfl, .inr rfl, .inl rfl⟩, ⟨rfl, .inr rfl, .inl rfl⟩, trivial⟩, trivial⟩
def c_awake34 : AX.AFn := ⟨80, .seq (.reg false [⟨some 0, .mv (.c (.bool false)), none, []⟩]) (.seq (.reg false [⟨some 12, .call 16 [.c (.str [107]), .c (.str [120])], none, []⟩, ⟨some 11, .mv (.t 12), none, []⟩, ⟨some 13, .extract (.t 11) 0, none, []⟩, ⟨some 14, .extract (.t 11) 1, none, []⟩, ⟨some 1, .mv (.t 13), none, []⟩, ⟨some 2, .mv (.t 14), none, []⟩]) (.seq (.seq (.reg false [⟨some 15, .mv (.t 2), none, []⟩, ⟨some 16, .bin .neq (.t 15) (.c (.int .i64 0)), none, []⟩, ⟨some 17, .mv (.t 16), none, []⟩, ⟨some 18, .mv (.t 1), some (17, false), []⟩, ⟨some 19, .eq 1 [] false (.t 18) (.c (.nilp)), some (17, false), []⟩, ⟨some 20, .pick (.t 17) (.c (.bool true)) (.t 19), none, []⟩]) (.cond (.t 20) (.seq (.reg false [⟨some 0, .mv (.c (.bool false)), none, []⟩]) (.ret)) (.skip))) (.seq (.reg false [⟨some 21, .mv (.t 1), none, []⟩, ⟨some 22, .build [.str [], .int .i64 0, .sl 0 .nil [], .sl 0 .nil [], .sl 0 .nil []] [(0, 1, .c (.str [120])), (1, 1, .c (.int .i64 1))], none, []⟩, ⟨some 23, .call 28 [.t 21, .c (.str [97]), .t 22], none, []⟩, ⟨some 3, .mv (.t 23), none, []⟩]) (.seq (.reg false [⟨some 24, .mv (.t 1), none, []⟩, ⟨some 25, .call 18 [.t 24, .c (.str [97]), .c (.int .i64 5)], none, []⟩, ⟨some 4, .mv (.t 25), none, []⟩]) (.seq (.reg false [⟨some 26, .mv (.t 1), none, []⟩, ⟨some 27, .call 18 [.t 26, .c (.str [98]), .c (.int .i64 5)], none, []⟩, ⟨some 5, .mv (.t 27), none, []⟩]) (.seq (.reg false [⟨some 28, .mv (.t 1), none, []⟩, ⟨some 29, .build [.str [], .int .i64 0, .sl 0 .nil [], .sl 0 .nil [], .sl 0 .nil []] [(0, 1, .c (.str [120])), (1, 1, .c (.int .i64 1))], none, []⟩, ⟨some 30, .call 28 [.t 28, .c (.str [97]), .t 29], none, []⟩, ⟨some 6, .mv (.t 30), none, []⟩]) (.seq (.reg false [⟨some 31, .mv (.t 1), none, []⟩, ⟨some 32, .call 24 [.t 31, .c (.int .i64 2)], none, []⟩]) (.seq (.reg false [⟨some 34, .mv (.t 1), none, []⟩, ⟨some 35, .call 35 [.t 34], none, []⟩, ⟨some 33, .mv (.t 35), none, []⟩, ⟨some 36, .extract (.t 33) 0, none, []⟩, ⟨some 37, .extract (.t 33) 1, none, []⟩, ⟨some 7, .mv (.t 36), none, []⟩, ⟨some 8, .mv (.t 37), none, []⟩]) (.seq (.reg false [⟨some 39, .mv (.t 1), none, []⟩, ⟨some 40, .call 36 [.t 39], none, []⟩, ⟨some 38, .mv (.t 40), none, []⟩, ⟨some 41, .extract (.t 38) 0, none, []⟩, ⟨some 42, .extract (.t 38) 1, none, []⟩, ⟨some 9, .alloc 26 [.str [], .int .i64 0, .sl 0 .nil [], .sl 0 .nil [], .sl 0 .nil []], none, []⟩, ⟨none, .store 5 (.t 9) (.t 41), none, []⟩, ⟨some 10, .mv (.t 42), none, []⟩]) (.seq (.reg false [⟨some 43, .mv (.t 3), none, []⟩, ⟨some 44, .bin .eql (.t 43) (.c (.int .i64 25)), none, []⟩, ⟨some 45, .mv (.t 44), none, []⟩, ⟨some 46, .mv (.t 4), some (45, true), []⟩, ⟨some 47, .bin .eql (.t 46) (.c (.int .i64 0)), some (45, true), []⟩, ⟨some 48, .pick (.t 45) (.t 47) (.c (.bool false)), none, []⟩, ⟨some 49, .mv (.t 48), none, []⟩, ⟨some 50, .mv (.t 5), some (49, true), []⟩, ⟨some 51, .bin .eql (.t 50) (.c (.int .i64 24)), some (49, true), []⟩, ⟨some 52, .pick (.t 49) (.t 51) (.c (.bool false)), none, []⟩, ⟨some 53, .mv (.t 52), none, []⟩, ⟨some 54, .mv (.t 6), some (53, true), []⟩, ⟨some 55, .bin .eql (.t 54) (.c (.int .i64 0)), some (53, true), []⟩, ⟨some 56, .pick (.t 53) (.t 55) (.c (.bool false)), none, []⟩, ⟨some 57, .mv (.t 56), none, []⟩, ⟨some 58, .mv (.t 7), some (57, true), []⟩, ⟨some 59, .bin .eql (.t 58) (.c (.str [97])), some (57, true), []⟩, ⟨some 60, .pick (.t 57) (.t 59) (.c (.bool false)), none, []⟩, ⟨some 61, .mv (.t 60), none, []⟩, ⟨some 62, .mv (.t 8), some (61, true), []⟩, ⟨some 63, .bin .eql (.t 62) (.c (.int .i64 3)), some (61, true), []⟩, ⟨some 64, .pick (.t 61) (.t 63) (.c (.bool false)), none, []⟩, ⟨some 65, .mv (.t 64), none, []⟩, ⟨some 66, .mv (.t 10), some (65, true), []⟩, ⟨some 67, .bin .eql (.t 66) (.c (.int .i64 0)), some (65, true), []⟩, ⟨some 68, .pick (.t 65) (.t 67) (.c (.bool false)), none, []⟩, ⟨some 69, .mv (.t 68), none, []⟩, ⟨some 70, .faddr 1 (.t 9), some (69, true), []⟩, ⟨some 71, .load false 1 (.t 70), some (69, true), []⟩, ⟨some 72, .bin .eql (.t 71) (.c (.int .i64 1)), some (69, true), []⟩, ⟨some 73, .pick (.t 69) (.t 72) (.c (.bool false)), none, []⟩, ⟨some 74, .mv (.t 73), none, []⟩, ⟨some 75, .mv (.t 1), some (74, true), []⟩, ⟨some 76, .call 37 [.t 75], some (74, true), []⟩, ⟨some 77, .len false (.t 76), some (74, true), []⟩, ⟨some 78, .bin .eql (.t 77) (.c (.int .i64 2)), some (74, true), []⟩, ⟨some 79, .pick (.t 74) (.t 78) (.c (.bool false)), none, []⟩, ⟨some 0, .mv (.t 79), none, []⟩]) (.ret))))))))))), [.t 0]⟩
theorem h_awake34 : AX.compFn Tryz.prog 15 = some c_awake34 := by kernel_rfl
def Awake34 : Prop := ∀ h, ACall Tryz.prog GT 15 [] h fun r h' => r = .bool true ∧ h' = h
open Sto in
theorem new0 : ACall Tryz.prog GT 16 [.str [107], .str [120]] ⟨[], []⟩ fun r h' => r = .tup [.ptr 1 0, .int .i64 0] ∧ h' = ⟨[w0.M, w0.B], []⟩ :=
 a_new [107] [120] (by decide) (by decide) (by decide +kernel) (by decide +kernel) (by decide +kernel) (by decide +kernel)
open Sto in
theorem awake34 : Awake34 := by
 intro h
 refine pcall ?_ rfl (by simp [A.pure, A.data]) h
 refine acall_of mixedT h_awake34 (by simp [c_awake34]) ?_
 dsimp only [c_awake34]
 have k0 : w0.key.length ≤ 1000000000 := by decide +kernel
 have k1 : w1.key.length ≤ 1000000000 := by decide +kernel
 have k3 : w3.key.length ≤ 1000000000 := by decide +kernel
 have hl : (Sf.encode 2 (stX 1)).1.length ≤ 1000000 := by decide +kernel
 have hE : (Sf.stE 2 (stX 1)).length + 20 ≤ 1000000000 := by decide +kernel
 have c1 := fun l t => a_swrite w0 l t [97] (stX 1) (stX_in 1) k0 hE
 have e1 : w0.write [97] (stX 1) = (w0, 25) := by unfold Sto.write; rw [if_pos (by decide +kernel)]
 have c2 := fun l t => a_lock w0 l t [97] (by decide) 5
 have e2 : (w0.lock [97] 5).2 = 0 := by decide +kernel
 have e2' : (w0.lock [97] 5).1 = w1 := rfl
 have c3 := fun l t => a_lock w1 l t [98] (by decide) 5
 have e3 : w1.lock [98] 5 = (w1, 24) := by unfold Sto.lock; rw [if_neg (by decide +kernel), if_pos (by decide +kernel)]
 have c4 := fun l t => a_swrite w1 l t [97] (stX 1) (stX_in 1) k1 hE
 have e4 : (w1.write [97] (stX 1)).2 = 0 := by decide +kernel
 have e4' : (w1.write [97] (stX 1)).1 = w2 := rfl
 have c5 := fun l t => a_tick w2 l t 2 (by decide +kernel) (by decide +kernel)
 have e5 : w2.tick 2 = w3 := rfl
 have c6 := fun l t => a_holder w3 l t
 have e6 : w3.own = [97] := by decide +kernel
 have e6' : w3.left = 3 := by decide +kernel
 have c7 := fun l t => a_read w3 l t k3 (fun b hb => by
  have h : ((lfind w3.latest w3.es).all fun b => decide (b.length ≤ 1048600)) = true := by decide +kernel
  rw [hb] at h
  simpa using h)
 have e7 : (w3.at' w3.latest).2 = 0 := by decide +kernel
 have e7' : (w3.at' w3.latest).1.ser = 1 := by decide +kernel
 have c8 := fun l t => a_serials w3 l t (by decide +kernel) (by decide +kernel)
 have e8 : (rowsI w3.serials).length = 2 := by
  have : (rowsI w3.serials).length = w3.serials.length := by simp [rowsI]
  rw [this]; decide +kernel
 rw [e1] at c1
 rw [e2, e2'] at c2
 rw [e3] at c3
 rw [e4, e4'] at c4
 rw [e5] at c5
 rw [e6, e6'] at c6
 rw [e7] at c7
 obtain ⟨⟨lin, ser, ins, ps, os⟩, hst⟩ : ∃ st, (w3.at' w3.latest).1 = st := ⟨_, rfl⟩
 rw [hst] at c7 e7'
 dsimp only at c1 c3 e7'
 subst e7'
 unfold Sf.St.A at c7
 dsimp only at c7
 have c1' := fun l t => ACall.args (stX_le 1 [97]) (c1 l t)
 have c4' := fun l t => ACall.args (stX_le 1 [97]) (c4 l t)
 (refine AX.runM True.intro ?_)
 refine use new0 ?_
 (refine AX.runM True.intro ?_)
 refine use (c1' _ _) ?_
 (refine AX.runM True.intro ?_)
 refine use (c2 _ _) ?_
 (refine AX.runM True.intro ?_)
 refine use (c3 _ _) ?_
 (refine AX.runM True.intro ?_)
 refine use (c4' _ _) ?_
 (refine AX.runM True.intro ?_)
 refine use (c5 _ _) ?_
 (refine AX.runM True.intro ?_)
 refine use (c6 _ _) ?_
 (refine AX.runM True.intro ?_)
 refine use (c7 _ _) ?_
 (refine AX.runM True.intro ?_)
 refine use (c8 _ _) ?_
 (refine AX.runM e8 ?_)
 exact ⟨_, le_refl _, rfl⟩
end AX
end Go.Proofs.YtnjkemakcejceaaGreatDoor

namespace Go.Proofs.YtnjkemakcejceaaGreatDoor
open Go.RowKit
set_option maxHeartbeats 4000000
namespace AX
noncomputable def c_srekey : AX.AFn := ⟨78, .seq (.reg false [⟨some 6, .mv (.c (.int .i64 0)), none, []⟩]) (.seq (.seq (.reg false [⟨some 15, .mv (.t 0), none, []⟩, ⟨some 16, .call 67 [.t 15], none, []⟩, ⟨some 17, .un .not (.t 16), none, []⟩]) (.cond (.t 17) (.seq (.reg false [⟨some 6, .mv (.c (.int .i64 38)), none, []⟩]) (.ret)) (.skip))) (.seq (.seq (.reg false [⟨some 18, .mv (.t 0), none, []⟩, ⟨some 19, .mv (.t 1), none, []⟩, ⟨some 20, .call 68 [.t 18, .t 19], none, []⟩, ⟨some 21, .un .not (.t 20), none, []⟩]) (.cond (.t 21) (.seq (.reg false [⟨some 6, .mv (.c (.int .i64 25)), none, []⟩]) (.ret)) (.skip))) (.seq (.seq (.reg false [⟨some 22, .mv (.t 2), none, []⟩, ⟨some 23, .call 61 [.t 22], none, []⟩, ⟨some 7, .mv (.t 23), none, []⟩]) (.seq (.reg false [⟨some 24, .mv (.t 7), none, []⟩, ⟨some 25, .bin .neq (.t 24) (.c (.int .i64 0)), none, []⟩]) (.cond (.t 25) (.seq (.reg false [⟨some 26, .mv (.t 7), none, []⟩, ⟨some 6, .mv (.t 26), none, []⟩]) (.ret)) (.skip)))) (.seq (.reg false [⟨some 27, .mkmap, none, []⟩, ⟨some 8, .mv (.t 27), none, []⟩]) (.seq (.seq (.reg false [⟨some 28, .mv (.t 0), none, []⟩, ⟨some 29, .call 37 [.t 28], none, []⟩, ⟨some 30, .len false (.t 29), none, []⟩, ⟨some 31, .mv (.c (.int .i64 0)), none, []⟩]) (.block 0 (.loop (.seq (.reg false [⟨some 32, .bin .lss (.t 31) (.t 30), none, []⟩]) (.seq (.cond (.t 32) (.skip) (.exit 0)) (.seq (.block 1 (.seq (.reg false [⟨some 33, .iaddr 1 (.t 29) (.t 31), none, []⟩, ⟨some 34, .load false 1 (.t 33), none, []⟩, ⟨some 10, .mv (.t 34), none, []⟩]) (.seq (.reg true [⟨some 36, .mv (.t 0), none, []⟩, ⟨some 37, .nilck (.t 36), none, [0]⟩, ⟨some 38, .faddr 0 (.t 37), none, [1]⟩, ⟨some 39, .load false 1 (.t 38), none, [2]⟩, ⟨some 40, .mv (.t 2), none, []⟩, ⟨some 41, .mv (.t 0), none, []⟩, ⟨some 42, .nilck (.t 41), none, [5]⟩, ⟨some 43, .faddr 3 (.t 42), none, [6]⟩, ⟨some 44, .load false 1 (.t 43), none, [7]⟩, ⟨some 45, .mv (.t 10), none, []⟩, ⟨some 46, .mget (.str []) false (.t 44) (.t 45), none, [8, 9]⟩, ⟨some 47, .call 70 [.t 39, .t 40, .t 46], none, [3, 4, 10]⟩, ⟨some 35, .mv (.t 47), none, [11]⟩, ⟨some 48, .extract (.t 35) 0, none, [12]⟩, ⟨some 49, .extract (.t 35) 1, none, [12]⟩, ⟨some 11, .mv (.t 48), none, [13, 11, 0, 1, 2, 3, 4, 5, 6, 7, 8, 9, 10, 11, 12, 13]⟩, ⟨some 12, .mv (.t 49), none, [14, 15, 0, 1, 2, 3, 4, 5, 6, 7, 8, 9, 10, 11, 12, 13, 14, 15]⟩]) (.seq (.seq (.reg false [⟨some 50, .mv (.t 12), none, []⟩, ⟨some 51, .bin .neq (.t 50) (.c (.int .i64 0)), none, []⟩]) (.cond (.t 51) (.seq (.reg false [⟨some 52, .mv (.t 12), none, []⟩, ⟨some 6, .mv (.t 52), none, []⟩]) (.ret)) (.skip))) (.reg false [⟨some 53, .mv (.t 8), none, []⟩, ⟨some 54, .mv (.t 10), none, []⟩, ⟨some 55, .mv (.t 11), none, []⟩, ⟨none, .mset (.t 53) (.t 54) (.t 55), none, []⟩]))))) (.reg false [⟨some 56, .bin .add (.t 31) (.c (.int .i64 1)), none, []⟩, ⟨some 31, .mv (.t 56), none, []⟩]))))))) (.seq (.reg false [⟨some 57, .mv (.t 0), none, []⟩, ⟨some 58, .nilck (.t 57), none, []⟩, ⟨some 59, .faddr 3 (.t 58), none, []⟩, ⟨some 60, .load false 1 (.t 59), none, []⟩, ⟨none, .mclr (.t 60), none, []⟩]) (.seq (.seq (.prim 78 (AX.rg Tryz.prog 30 0)) (.block 2 (.loop (.seq (.prim 78 (AX.rg Tryz.prog 30 1)) (.seq (.cond (.t 64) (.skip) (.exit 2)) (.block 3 (.seq (.prim 78 (AX.rg Tryz.prog 30 2)) (.reg false [⟨some 68, .mv (.t 0), none, []⟩, ⟨some 69, .nilck (.t 68), none, []⟩, ⟨some 70, .faddr 3 (.t 69), none, []⟩, ⟨some 71, .load false 1 (.t 70), none, []⟩, ⟨some 72, .mv (.t 13), none, []⟩, ⟨some 73, .mv (.t 14), none, []⟩, ⟨none, .mset (.t 71) (.t 72) (.t 73), none, []⟩])))))))) (.seq (.reg false [⟨some 74, .mv (.t 0), none, []⟩, ⟨some 75, .mv (.t 2), none, []⟩, ⟨some 76, .nilck (.t 74), none, []⟩, ⟨some 77, .faddr 0 (.t 76), none, []⟩, ⟨none, .store 1 (.t 77) (.t 75), none, []⟩]) (.seq (.reg false [⟨some 6, .mv (.c (.int .i64 0)), none, []⟩]) (.ret)))))))))), [.t 6]⟩
theorem h_srekey : AX.compFn Tryz.prog 30 = some c_srekey := by kernel_rfl
def ODD : Blk := .cells 79 [.str [], .str [], .int .i64 0, .nilm, .str [], .int .i64 0]
theorem set_same {l : List Blk} {i : Nat} {x : Blk} (h : l[i]? = some x) : l.set i x = l := by
 refine List.ext_getElem? fun j => ?_
 rw [List.getElem?_set]
 split
 ·next e => subst e; rw [h]; have := (List.getElem?_eq_some_iff.1 h).1; simp [this]
 ·rfl
theorem o_lift {f : FuncId} {args : List A} {v : A} (hc : ACall Tryz.prog GT f (.ptr 0 0 :: args) ⟨[ODD], []⟩ fun r h' => r = v ∧ h'.b[0]? = some ODD) (ha : A.locL 0 args = true) (hv : v.loc 0 = true) {h : Hp} {i : Nat} (hb : h.b[i]? = some ODD) :
  ACall Tryz.prog GT f (.ptr i 0 :: args) h fun r h' => r = v ∧ h' = h := by
 refine (ACall.lift1 (Q0 := fun r b' => r = v ∧ b' = ODD) (hc.mono fun r h' ⟨e, h0⟩ => ⟨ODD, h0, e, rfl⟩) ha rfl ?_ hb).mono ?_
 ·rintro r b' ⟨rfl, rfl⟩; exact ⟨hv, rfl⟩
 ·rintro r h' ⟨b', ⟨rfl, rfl⟩, rfl⟩
  exact ⟨rfl, by rw [set_same hb]⟩
theorem n_made (h : Hp) : ACall Tryz.prog GT 67 [.nilp] h fun r h' => r = .bool false ∧ h' = h := by
 refine pcall ?_ rfl (by simp [A.pure, A.data]) h
 refine acall_of mixedT h_made (by simp [c_made]) ?_
 dsimp only [c_made]
 (refine AX.runM True.intro ?_)
 exact ⟨_, le_refl _, rfl⟩
theorem o_made {h : Hp} {i : Nat} (hb : h.b[i]? = some ODD) : ACall Tryz.prog GT 67 [.ptr i 0] h fun r h' => r = .bool false ∧ h' = h := by
 refine o_lift ?_ rfl rfl hb
 refine acall_of mixedT h_made (by simp [c_made]) ?_
 dsimp only [c_made]
 unfold ODD
 (refine AX.runM True.intro ?_)
 exact ⟨_, le_refl _, rfl, rfl⟩
theorem n_Tick (n : Int) (h : Hp) : ACall Tryz.prog GT 24 [.nilp, .int .i64 n] h fun r h' => r = .tup [] ∧ h' = h := by
 refine pcall ?_ rfl (by simp [A.pure, A.data]) h
 refine acall_of mixedT h_stick (by simp [c_stick]) ?_
 dsimp only [c_stick]
 (refine AX.runM True.intro ?_)
 refine use (n_made _) ?_
 (refine AX.runM True.intro ?_)
 exact ⟨_, le_refl _, rfl⟩
theorem o_Tick (n : Int) {h : Hp} {i : Nat} (hb : h.b[i]? = some ODD) : ACall Tryz.prog GT 24 [.ptr i 0, .int .i64 n] h fun r h' => r = .tup [] ∧ h' = h := by
 refine o_lift ?_ rfl rfl hb
 refine acall_of mixedT h_stick (by simp [c_stick]) ?_
 dsimp only [c_stick]
 (refine AX.runM True.intro ?_)
 refine use (o_made rfl) ?_
 (refine AX.runM True.intro ?_)
 exact ⟨_, le_refl _, rfl, rfl⟩
theorem n_Holder (h : Hp) : ACall Tryz.prog GT 35 [.nilp] h fun r h' => r = .tup [.str [], .int .i64 0] ∧ h' = h := by
 refine pcall ?_ rfl (by simp [A.pure, A.data]) h
 refine acall_of mixedT h_holder (by simp [c_holder]) ?_
 dsimp only [c_holder]
 (refine AX.runM True.intro ?_)
 refine use (n_made _) ?_
 (refine AX.runM True.intro ?_)
 exact ⟨_, le_refl _, rfl⟩
theorem o_Holder {h : Hp} {i : Nat} (hb : h.b[i]? = some ODD) : ACall Tryz.prog GT 35 [.ptr i 0] h fun r h' => r = .tup [.str [], .int .i64 0] ∧ h' = h := by
 refine o_lift ?_ rfl rfl hb
 refine acall_of mixedT h_holder (by simp [c_holder]) ?_
 dsimp only [c_holder]
 (refine AX.runM True.intro ?_)
 refine use (o_made rfl) ?_
 (refine AX.runM True.intro ?_)
 exact ⟨_, le_refl _, rfl, rfl⟩
theorem n_Read (h : Hp) : ACall Tryz.prog GT 36 [.nilp] h fun r h' => r = .tup [.agg [.str [], .int .i64 0, .sl 0 .nil [], .sl 0 .nil [], .sl 0 .nil []], .int .i64 38] ∧ h' = h := by
 refine pcall ?_ rfl (by simp [A.pure, A.data]) h
 refine acall_of mixedT h_sread (by simp [c_sread]) ?_
 dsimp only [c_sread]
 (refine AX.runM True.intro ?_)
 refine use (n_made _) ?_
 (refine AX.runM True.intro ?_)
 exact ⟨_, le_refl _, rfl⟩
theorem o_Read {h : Hp} {i : Nat} (hb : h.b[i]? = some ODD) : ACall Tryz.prog GT 36 [.ptr i 0] h fun r h' => r = .tup [.agg [.str [], .int .i64 0, .sl 0 .nil [], .sl 0 .nil [], .sl 0 .nil []], .int .i64 38] ∧ h' = h := by
 refine o_lift ?_ rfl rfl hb
 refine acall_of mixedT h_sread (by simp [c_sread]) ?_
 dsimp only [c_sread]
 (refine AX.runM True.intro ?_)
 refine use (o_made rfl) ?_
 (refine AX.runM True.intro ?_)
 exact ⟨_, le_refl _, rfl, rfl⟩
theorem n_At (n : Int) (h : Hp) : ACall Tryz.prog GT 33 [.nilp, .int .i64 n] h fun r h' => r = .tup [.agg [.str [], .int .i64 0, .sl 0 .nil [], .sl 0 .nil [], .sl 0 .nil []], .int .i64 38] ∧ h' = h := by
 refine pcall ?_ rfl (by simp [A.pure, A.data]) h
 refine acall_of mixedT h_sat (by simp [c_sat]) ?_
 dsimp only [c_sat]
 (refine AX.runM True.intro ?_)
 refine use (n_made _) ?_
 (refine AX.runM True.intro ?_)
 exact ⟨_, le_refl _, rfl⟩
theorem o_At (n : Int) {h : Hp} {i : Nat} (hb : h.b[i]? = some ODD) : ACall Tryz.prog GT 33 [.ptr i 0, .int .i64 n] h fun r h' => r = .tup [.agg [.str [], .int .i64 0, .sl 0 .nil [], .sl 0 .nil [], .sl 0 .nil []], .int .i64 38] ∧ h' = h := by
 refine o_lift ?_ rfl rfl hb
 refine acall_of mixedT h_sat (by simp [c_sat]) ?_
 dsimp only [c_sat]
 (refine AX.runM True.intro ?_)
 refine use (o_made rfl) ?_
 (refine AX.runM True.intro ?_)
 exact ⟨_, le_refl _, rfl, rfl⟩
theorem n_Raw (n : Int) (h : Hp) : ACall Tryz.prog GT 34 [.nilp, .int .i64 n] h fun r h' => r = .tup [.str [], .int .i64 38] ∧ h' = h := by
 refine pcall ?_ rfl (by simp [A.pure, A.data]) h
 refine acall_of mixedT h_sraw (by simp [c_sraw]) ?_
 dsimp only [c_sraw]
 (refine AX.runM True.intro ?_)
 refine use (n_made _) ?_
 (refine AX.runM True.intro ?_)
 exact ⟨_, le_refl _, rfl⟩
theorem o_Raw (n : Int) {h : Hp} {i : Nat} (hb : h.b[i]? = some ODD) : ACall Tryz.prog GT 34 [.ptr i 0, .int .i64 n] h fun r h' => r = .tup [.str [], .int .i64 38] ∧ h' = h := by
 refine o_lift ?_ rfl rfl hb
 refine acall_of mixedT h_sraw (by simp [c_sraw]) ?_
 dsimp only [c_sraw]
 (refine AX.runM True.intro ?_)
 refine use (o_made rfl) ?_
 (refine AX.runM True.intro ?_)
 exact ⟨_, le_refl _, rfl, rfl⟩
theorem n_Lock (w : List UInt8) (n : Int) (h : Hp) : ACall Tryz.prog GT 18 [.nilp, .str w, .int .i64 n] h fun r h' => r = .int .i64 38 ∧ h' = h := by
 refine pcall ?_ rfl (by simp [A.pure, A.data]) h
 refine acall_of mixedT h_slock (by simp [c_slock]) ?_
 dsimp only [c_slock]
 (refine AX.runM True.intro ?_)
 refine use (n_made _) ?_
 (refine AX.runM True.intro ?_)
 exact ⟨_, le_refl _, rfl⟩
theorem o_Lock (w : List UInt8) (n : Int) {h : Hp} {i : Nat} (hb : h.b[i]? = some ODD) : ACall Tryz.prog GT 18 [.ptr i 0, .str w, .int .i64 n] h fun r h' => r = .int .i64 38 ∧ h' = h := by
 refine o_lift ?_ rfl rfl hb
 refine acall_of mixedT h_slock (by simp [c_slock]) ?_
 dsimp only [c_slock]
 (refine AX.runM True.intro ?_)
 refine use (o_made rfl) ?_
 (refine AX.runM True.intro ?_)
 exact ⟨_, le_refl _, rfl, rfl⟩
theorem n_Unlock (w : List UInt8) (h : Hp) : ACall Tryz.prog GT 20 [.nilp, .str w] h fun r h' => r = .int .i64 38 ∧ h' = h := by
 refine pcall ?_ rfl (by simp [A.pure, A.data]) h
 refine acall_of mixedT h_sunlock (by simp [c_sunlock]) ?_
 dsimp only [c_sunlock]
 (refine AX.runM True.intro ?_)
 refine use (n_made _) ?_
 (refine AX.runM True.intro ?_)
 exact ⟨_, le_refl _, rfl⟩
theorem o_Unlock (w : List UInt8) {h : Hp} {i : Nat} (hb : h.b[i]? = some ODD) : ACall Tryz.prog GT 20 [.ptr i 0, .str w] h fun r h' => r = .int .i64 38 ∧ h' = h := by
 refine o_lift ?_ rfl rfl hb
 refine acall_of mixedT h_sunlock (by simp [c_sunlock]) ?_
 dsimp only [c_sunlock]
 (refine AX.runM True.intro ?_)
 refine use (o_made rfl) ?_
 (refine AX.runM True.intro ?_)
 exact ⟨_, le_refl _, rfl, rfl⟩
theorem n_Break (h : Hp) : ACall Tryz.prog GT 23 [.nilp] h fun r h' => r = .bool false ∧ h' = h := by
 refine pcall ?_ rfl (by simp [A.pure, A.data]) h
 refine acall_of mixedT h_sbreak (by simp [c_sbreak]) ?_
 dsimp only [c_sbreak]
 (refine AX.runM True.intro ?_)
 refine use (n_made _) ?_
 (refine AX.runM True.intro ?_)
 exact ⟨_, le_refl _, rfl⟩
theorem o_Break {h : Hp} {i : Nat} (hb : h.b[i]? = some ODD) : ACall Tryz.prog GT 23 [.ptr i 0] h fun r h' => r = .bool false ∧ h' = h := by
 refine o_lift ?_ rfl rfl hb
 refine acall_of mixedT h_sbreak (by simp [c_sbreak]) ?_
 dsimp only [c_sbreak]
 (refine AX.runM True.intro ?_)
 refine use (o_made rfl) ?_
 (refine AX.runM True.intro ?_)
 exact ⟨_, le_refl _, rfl, rfl⟩
theorem n_Write (w : List UInt8) (h : Hp) : ACall Tryz.prog GT 28 [.nilp, .str w, .agg [.str [], .int .i64 0, .sl 0 .nil [], .sl 0 .nil [], .sl 0 .nil []]] h fun r h' => r = .int .i64 38 ∧ h' = h := by
 refine pcall ?_ rfl (by simp [A.pure, A.data]) h
 refine acall_of mixedT h_swrite (by simp [c_swrite]) ?_
 dsimp only [c_swrite]
 (refine AX.runM True.intro ?_)
 refine use (n_made _) ?_
 (refine AX.runM True.intro ?_)
 exact ⟨_, le_refl _, rfl⟩
theorem o_Write (w : List UInt8) {h : Hp} {i : Nat} (hb : h.b[i]? = some ODD) : ACall Tryz.prog GT 28 [.ptr i 0, .str w, .agg [.str [], .int .i64 0, .sl 0 .nil [], .sl 0 .nil [], .sl 0 .nil []]] h fun r h' => r = .int .i64 38 ∧ h' = h := by
 refine o_lift ?_ rfl rfl hb
 refine acall_of mixedT h_swrite (by simp [c_swrite]) ?_
 dsimp only [c_swrite]
 (refine AX.runM True.intro ?_)
 refine use (o_made rfl) ?_
 (refine AX.runM True.intro ?_)
 exact ⟨_, le_refl _, rfl, rfl⟩
theorem n_Serials (h : Hp) : ACall Tryz.prog GT 37 [.nilp] h fun r h' => r = .sl 0 .nil [] ∧ h' = h := by
 refine pcall ?_ rfl (by simp [A.pure, A.data]) h
 refine acall_of mixedT h_serials (by simp [c_serials]) ?_
 dsimp only [c_serials]
 (refine AX.runM True.intro ?_)
 refine use (n_made _) ?_
 (refine AX.runM True.intro ?_)
 exact ⟨_, le_refl _, rfl⟩
theorem o_Serials {h : Hp} {i : Nat} (hb : h.b[i]? = some ODD) : ACall Tryz.prog GT 37 [.ptr i 0] h fun r h' => r = .sl 0 .nil [] ∧ h' = h := by
 refine o_lift ?_ rfl rfl hb
 refine acall_of mixedT h_serials (by simp [c_serials]) ?_
 dsimp only [c_serials]
 (refine AX.runM True.intro ?_)
 refine use (o_made rfl) ?_
 (refine AX.runM True.intro ?_)
 exact ⟨_, le_refl _, rfl, rfl⟩
theorem n_Rekey (w : List UInt8) (k : List UInt8) (h : Hp) : ACall Tryz.prog GT 30 [.nilp, .str w, .str k] h fun r h' => r = .int .i64 38 ∧ h' = h := by
 refine pcall ?_ rfl (by simp [A.pure, A.data]) h
 refine acall_of mixedT h_srekey (by simp [c_srekey]) ?_
 dsimp only [c_srekey]
 (refine AX.runM True.intro ?_)
 refine use (n_made _) ?_
 (refine AX.runM True.intro ?_)
 exact ⟨_, le_refl _, rfl⟩
theorem o_Rekey (w : List UInt8) (k : List UInt8) {h : Hp} {i : Nat} (hb : h.b[i]? = some ODD) : ACall Tryz.prog GT 30 [.ptr i 0, .str w, .str k] h fun r h' => r = .int .i64 38 ∧ h' = h := by
 refine o_lift ?_ rfl rfl hb
 refine acall_of mixedT h_srekey (by simp [c_srekey]) ?_
 dsimp only [c_srekey]
 (refine AX.runM True.intro ?_)
 refine use (o_made rfl) ?_
 (refine AX.runM True.intro ?_)
 exact ⟨_, le_refl _, rfl, rfl⟩
end AX
end Go.Proofs.YtnjkemakcejceaaGreatDoor

namespace Go.Proofs.YtnjkemakcejceaaGreatDoor
open Go.RowKit
set_option maxHeartbeats 4000000
namespace AX
def c_nobody : AX.AFn := ⟨104, .seq (.reg false [⟨some 2, .mv (.c (.bool false)), none, []⟩]) (.seq (.reg false [⟨some 3, .mv (.c (.nilp)), none, []⟩]) (.seq (.reg false [⟨some 15, .build [.str [], .str [], .int .i64 0, .nilm, .str [], .int .i64 0] [], none, []⟩, ⟨some 16, .box 79 (.t 15), none, []⟩, ⟨some 4, .mv (.t 16), none, []⟩]) (.seq (.reg false [⟨some 17, .mv (.t 3), none, []⟩, ⟨some 18, .mv (.t 0), none, []⟩, ⟨some 19, .call 24 [.t 17, .t 18], none, []⟩]) (.seq (.reg false [⟨some 20, .mv (.t 4), none, []⟩, ⟨some 21, .mv (.t 0), none, []⟩, ⟨some 22, .call 24 [.t 20, .t 21], none, []⟩]) (.seq (.seq (.reg false [⟨some 23, .mv (.t 3), none, []⟩, ⟨some 24, .mv (.t 4), none, []⟩, ⟨some 25, .mkr 49 1 [.t 23, .t 24], none, []⟩, ⟨some 26, .len false (.t 25), none, []⟩, ⟨some 27, .mv (.c (.int .i64 0)), none, []⟩]) (.block 0 (.loop (.seq (.reg false [⟨some 28, .bin .lss (.t 27) (.t 26), none, []⟩]) (.seq (.cond (.t 28) (.skip) (.exit 0)) (.seq (.block 1 (.seq (.reg false [⟨some 29, .iaddr 1 (.t 25) (.t 27), none, []⟩, ⟨some 30, .load false 1 (.t 29), none, []⟩, ⟨some 6, .mv (.t 30), none, []⟩]) (.seq (.reg false [⟨some 32, .mv (.t 6), none, []⟩, ⟨some 33, .call 35 [.t 32], none, []⟩, ⟨some 31, .mv (.t 33), none, []⟩, ⟨some 34, .extract (.t 31) 0, none, []⟩, ⟨some 35, .extract (.t 31) 1, none, []⟩, ⟨some 7, .mv (.t 34), none, []⟩, ⟨some 8, .mv (.t 35), none, []⟩]) (.seq (.reg false [⟨some 37, .mv (.t 6), none, []⟩, ⟨some 38, .call 36 [.t 37], none, []⟩, ⟨some 36, .mv (.t 38), none, []⟩, ⟨some 39, .extract (.t 36) 0, none, []⟩, ⟨some 40, .extract (.t 36) 1, none, []⟩, ⟨some 9, .alloc 26 [.str [], .int .i64 0, .sl 0 .nil [], .sl 0 .nil [], .sl 0 .nil []], none, []⟩, ⟨none, .store 5 (.t 9) (.t 39), none, []⟩, ⟨some 10, .mv (.t 40), none, []⟩]) (.seq (.reg false [⟨some 42, .mv (.t 6), none, []⟩, ⟨some 43, .mv (.t 0), none, []⟩, ⟨some 44, .call 33 [.t 42, .t 43], none, []⟩, ⟨some 41, .mv (.t 44), none, []⟩, ⟨some 45, .extract (.t 41) 0, none, []⟩, ⟨some 46, .extract (.t 41) 1, none, []⟩, ⟨some 11, .alloc 26 [.str [], .int .i64 0, .sl 0 .nil [], .sl 0 .nil [], .sl 0 .nil []], none, []⟩, ⟨none, .store 5 (.t 11) (.t 45), none, []⟩, ⟨some 12, .mv (.t 46), none, []⟩]) (.seq (.reg false [⟨some 48, .mv (.t 6), none, []⟩, ⟨some 49, .mv (.t 0), none, []⟩, ⟨some 50, .call 34 [.t 48, .t 49], none, []⟩, ⟨some 47, .mv (.t 50), none, []⟩, ⟨some 51, .extract (.t 47) 0, none, []⟩, ⟨some 52, .extract (.t 47) 1, none, []⟩, ⟨some 13, .mv (.t 51), none, []⟩, ⟨some 14, .mv (.t 52), none, []⟩]) (.seq (.reg false [⟨some 53, .mv (.t 6), none, []⟩, ⟨some 54, .call 18 [.t 53, .c (.str [97]), .c (.int .i64 1)], none, []⟩, ⟨some 55, .bin .neq (.t 54) (.c (.int .i64 38)), none, []⟩, ⟨some 56, .mv (.t 55), none, []⟩, ⟨some 57, .mv (.t 6), some (56, false), []⟩, ⟨some 58, .call 20 [.t 57, .c (.str [97])], some (56, false), []⟩, ⟨some 59, .bin .neq (.t 58) (.c (.int .i64 38)), some (56, false), []⟩, ⟨some 60, .pick (.t 56) (.c (.bool true)) (.t 59), none, []⟩, ⟨some 61, .mv (.t 60), none, []⟩, ⟨some 62, .mv (.t 6), some (61, false), []⟩, ⟨some 63, .call 23 [.t 62], some (61, false), []⟩, ⟨some 64, .pick (.t 61) (.c (.bool true)) (.t 63), none, []⟩, ⟨some 65, .mv (.t 64), none, []⟩, ⟨some 66, .mv (.t 7), some (65, false), []⟩, ⟨some 67, .bin .neq (.t 66) (.c (.str [])), some (65, false), []⟩, ⟨some 68, .pick (.t 65) (.c (.bool true)) (.t 67), none, []⟩, ⟨some 69, .mv (.t 68), none, []⟩, ⟨some 70, .mv (.t 8), some (69, false), []⟩, ⟨some 71, .bin .neq (.t 70) (.c (.int .i64 0)), some (69, false), []⟩, ⟨some 72, .pick (.t 69) (.c (.bool true)) (.t 71), none, []⟩, ⟨some 73, .mv (.t 72), none, []⟩, ⟨some 74, .mv (.t 6), some (73, false), []⟩, ⟨some 75, .build [.str [], .int .i64 0, .sl 0 .nil [], .sl 0 .nil [], .sl 0 .nil []] [], some (73, false), []⟩, ⟨some 76, .call 28 [.t 74, .c (.str [97]), .t 75], some (73, false), []⟩, ⟨some 77, .bin .neq (.t 76) (.c (.int .i64 38)), some (73, false), []⟩, ⟨some 78, .pick (.t 73) (.c (.bool true)) (.t 77), none, []⟩, ⟨some 79, .mv (.t 78), none, []⟩, ⟨some 80, .mv (.t 10), some (79, false), []⟩, ⟨some 81, .bin .neq (.t 80) (.c (.int .i64 38)), some (79, false), []⟩, ⟨some 82, .pick (.t 79) (.c (.bool true)) (.t 81), none, []⟩, ⟨some 83, .mv (.t 82), none, []⟩, ⟨some 84, .mv (.t 12), some (83, false), []⟩, ⟨some 85, .bin .neq (.t 84) (.c (.int .i64 38)), some (83, false), []⟩, ⟨some 86, .pick (.t 83) (.c (.bool true)) (.t 85), none, []⟩, ⟨some 87, .mv (.t 86), none, []⟩, ⟨some 88, .mv (.t 14), some (87, false), []⟩, ⟨some 89, .bin .neq (.t 88) (.c (.int .i64 38)), some (87, false), []⟩, ⟨some 90, .pick (.t 87) (.c (.bool true)) (.t 89), none, []⟩, ⟨some 91, .mv (.t 90), none, []⟩, ⟨some 92, .mv (.t 6), some (91, false), []⟩, ⟨some 93, .call 37 [.t 92], some (91, false), []⟩, ⟨some 94, .len false (.t 93), some (91, false), []⟩, ⟨some 95, .bin .neq (.t 94) (.c (.int .i64 0)), some (91, false), []⟩, ⟨some 96, .pick (.t 91) (.c (.bool true)) (.t 95), none, []⟩, ⟨some 97, .mv (.t 96), none, []⟩, ⟨some 98, .mv (.t 6), some (97, false), []⟩, ⟨some 99, .call 30 [.t 98, .c (.str [97]), .c (.str [107])], some (97, false), []⟩, ⟨some 100, .bin .neq (.t 99) (.c (.int .i64 38)), some (97, false), []⟩, ⟨some 101, .pick (.t 97) (.c (.bool true)) (.t 100), none, []⟩]) (.cond (.t 101) (.seq (.reg false [⟨some 2, .mv (.c (.bool false)), none, []⟩]) (.ret)) (.skip))))))))) (.reg false [⟨some 102, .bin .add (.t 27) (.c (.int .i64 1)), none, []⟩, ⟨some 27, .mv (.t 102), none, []⟩]))))))) (.seq (.reg false [⟨some 103, .call 15 [], none, []⟩, ⟨some 2, .mv (.t 103), none, []⟩]) (.ret))))))), [.t 2]⟩
theorem h_nobody : AX.compFn Tryz.prog 5 = some c_nobody := by kernel_rfl
def ROW2 : Blk := .row 49 [.nilp, .ptr 0 0]
theorem w_nobody (n : Int) : ACall Tryz.prog GT 5 [.int .i64 n] ⟨[], []⟩ fun r _ => r = .bool true := by
 refine acall_of mixedT h_nobody (by simp [c_nobody]) ?_
 dsimp only [c_nobody]
 have hO : ODD = .cells 79 [.str [], .str [], .int .i64 0, .nilm, .str [], .int .i64 0] := rfl
 have oT := fun h hb => o_Tick n (h := h) (i := 0) hb
 rw [hO] at oT
 (refine AX.runM True.intro ?_)
 refine use (n_Tick n _) ?_
 (refine AX.runM True.intro ?_)
 refine use (oT _ rfl) ?_
 (refine AX.runM True.intro ?_)
 have ew0 : IntKind.i64.wrap ((0 : Int) + 1) = 1 := by decide
 have ew1 : IntKind.i64.wrap ((1 : Int) + 1) = 2 := by decide
 have en1 : Int.toNat 1 = 1 := rfl
 have z0 : (((0 : Nat) : Int) != 0) = false := by decide
 have lt0 : (0 : Int) < ((2 : Nat) : Int) := by decide
 have lt1 : (1 : Int) < ((2 : Nat) : Int) := by decide
 have lt2 : ¬ (2 : Int) < ((2 : Nat) : Int) := by decide
 have le1 : (0 : Int) ≤ 1 := by decide
 refine awp_loop (fun mm ts h => h.b[0]? = some ODD ∧ h.b[1]? = some ROW2 ∧ 2 ≤ h.b.length ∧ ts 0 = .int .i64 n ∧ ts 25 = .bs 1 1 2 ∧ ts 26 = .int .i64 ((2 : Nat) : Int) ∧ ((mm = 2 ∧ ts 27 = .int .i64 0) ∨ (mm = 1 ∧ ts 27 = .int .i64 1) ∨ (mm = 0 ∧ ts 27 = .int .i64 2))) 2 ?_ ?_
 ·exact ⟨rfl, rfl, by simp, by (exact AX.ev0 True.intro), by (exact AX.ev0 True.intro), by (exact AX.ev0 True.intro), .inl ⟨rfl, by (exact AX.ev0 True.intro)⟩⟩
 rintro mm ts ⟨hb, ht⟩ ⟨g0, g1, g2, t0, t25, t26, hj⟩
 dsimp only at g0 g1 g2
 have g0' : ∀ y, (hb ++ [y])[0]? = some ODD := fun y => by rw [List.getElem?_append_left (by omega)]; exact g0
 have g1' : ∀ y, (hb ++ [y])[1]? = some ROW2 := fun y => by rw [List.getElem?_append_left (by omega)]; exact g1
 have g0'' : ∀ y z, (hb ++ [y] ++ [z])[0]? = some ODD := fun y z => by rw [List.getElem?_append_left (by simp)]; exact g0' y
 have g1'' : ∀ y z, (hb ++ [y] ++ [z])[1]? = some ROW2 := fun y z => by rw [List.getElem?_append_left (by simp; omega)]; exact g1' y
 have g1r : hb[1]? = some (.row 49 [.nilp, .ptr 0 0]) := g1
 rcases hj with ⟨rfl, t27⟩ | ⟨rfl, t27⟩ | ⟨rfl, t27⟩
 rotate_left 2
 ·(refine AX.runM (And.intro t0 (And.intro t25 (And.intro t26 (And.intro t27 lt2)))) ?_)
  refine use (awake34 _) ?_
  (refine AX.runM True.intro ?_)
  exact ⟨_, le_refl _, rfl⟩
 rotate_left
 ·(refine AX.runM (And.intro t0 (And.intro t25 (And.intro t26 (And.intro t27 (And.intro g1r (And.intro lt1 (And.intro le1 en1))))))) ?_)
  refine use (o_Holder (h := ⟨hb, ht⟩) (i := 0) g0) ?_
  (refine AX.runM t0 ?_)
  refine use (o_Read (h := ⟨hb, ht⟩) (i := 0) g0) ?_
  (refine AX.runM t0 ?_)
  refine use (o_At n (i := 0) (g0' _)) ?_
  (refine AX.runM t0 ?_)
  refine use (o_Raw n (i := 0) (g0'' _ _)) ?_
  (refine AX.runM t0 ?_)
  refine use (o_Lock [97] 1 (i := 0) (g0'' _ _)) ?_
  (refine AX.runM t0 ?_)
  refine use (o_Unlock [97] (i := 0) (g0'' _ _)) ?_
  (refine AX.runM t0 ?_)
  refine use (o_Break (i := 0) (g0'' _ _)) ?_
  (refine AX.runM t0 ?_)
  refine use (o_Write [97] (i := 0) (g0'' _ _)) ?_
  (refine AX.runM t0 ?_)
  refine use (o_Serials (i := 0) (g0'' _ _)) ?_
  (refine AX.runM (And.intro t0 z0) ?_)
  refine use (o_Rekey [97] [107] (i := 0) (g0'' _ _)) ?_
  (refine AX.runM (And.intro t0 (And.intro t25 (And.intro t26 (And.intro t27 ew1)))) ?_)
  exact ⟨0, by omega, g0'' _ _, g1'' _ _, by simp, by (exact AX.ev0 t0), by (exact AX.ev0 t25), by (exact AX.ev0 t26), .inr (.inr ⟨rfl, by (exact AX.ev0 ew1)⟩)⟩
 ·(refine AX.runM (And.intro t0 (And.intro t25 (And.intro t26 (And.intro t27 (And.intro g1r lt0))))) ?_)
  refine use (n_Holder _) ?_
  (refine AX.runM t0 ?_)
  refine use (n_Read _) ?_
  (refine AX.runM t0 ?_)
  refine use (n_At n _) ?_
  (refine AX.runM t0 ?_)
  refine use (n_Raw n _) ?_
  (refine AX.runM t0 ?_)
  refine use (n_Lock [97] 1 _) ?_
  (refine AX.runM t0 ?_)
  refine use (n_Unlock [97] _) ?_
  (refine AX.runM t0 ?_)
  refine use (n_Break _) ?_
  (refine AX.runM t0 ?_)
  refine use (n_Write [97] _) ?_
  (refine AX.runM t0 ?_)
  refine use (n_Serials _) ?_
  (refine AX.runM (And.intro t0 z0) ?_)
  refine use (n_Rekey [97] [107] _) ?_
  (refine AX.runM (And.intro t0 (And.intro t25 (And.intro t26 (And.intro t27 ew0)))) ?_)
  exact ⟨1, by omega, g0'' _ _, g1'' _ _, by simp, by (exact AX.ev0 t0), by (exact AX.ev0 t25), by (exact AX.ev0 t26), .inr (.inl ⟨rfl, by (exact AX.ev0 ew0)⟩)⟩
theorem w_nobodyX (n : Int) (k : (Lit.int .i64 n).wf = true) : ACall Tryz.prog GT 5 [.int .i64 n] ⟨[], []⟩ fun r _ => r = .bool true := w_nobody n
end AX
end Go.Proofs.YtnjkemakcejceaaGreatDoor
