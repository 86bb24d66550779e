/- Slices of tokens that are read; the walks of provisionref13.Same and of the law's equal, few. -/
import Derived.Test.YtbpaeglmanjbfaaDoorTokProg12
import Derived.Laws.StructEq
namespace Go.Proofs.YtbpaeglmanjbfaaDoor
open Go.RowKit
set_option linter.unusedSimpArgs false
set_option linter.unusedVariables false
namespace Tok
/-- A token as it is read: its offset may be any number. -/
abbrev TI := Int × List UInt8 × Int
def toI (l : List T) : List TI := l.map fun t => (t.1, t.2.1, (t.2.2 : Int))
theorem toI_length (l : List T) : (toI l).length = l.length := by simp [toI]
end Tok
/-- The slice v reads as the tokens l. -/
def ReadsT (w : World) (v : Value) (l : List Tok.TI) : Prop :=
  ∃ (a : Option Addr) (cap : Nat), v = .slice a l.length cap ∧ l.length ≤ cap ∧ ∀ i (hi : i < l.length), ∃ g off, a = some ⟨g, off, none⟩ ∧ w.cell? ⟨g, off + i * 3, none⟩ = some (.int .i64 l[i].1) ∧ w.cell? ⟨g, off + i * 3 + 1, none⟩ = some (.string ⟨l[i].2.1.toArray⟩) ∧ w.cell? ⟨g, off + i * 3 + 2, none⟩ = some (.int .i64 l[i].2.2)
theorem cell_lt' {w : World} {a : Addr} {v : Value} (h : w.cell? a = some v) : a.block < w.heap.size := by
  rcases Nat.lt_or_ge a.block w.heap.size with h' | h'
  · exact h'
  · simp [World.cell?, Array.getElem?_eq_none h'] at h
theorem ReadsT.below {w w' : World} {v : Value} {l : List Tok.TI} (h : ReadsT w v l) (hb : Below w.heap.size w w') : ReadsT w' v l := by
  obtain ⟨a, cap, rfl, hcap, hc⟩ := h
  refine ⟨a, cap, rfl, hcap, fun i hi => ?_⟩
  obtain ⟨g, off, rfl, h0, h1, h2⟩ := hc i hi
  exact ⟨g, off, rfl, (hb.cell (cell_lt' h0)).trans h0, (hb.cell (cell_lt' h1)).trans h1, (hb.cell (cell_lt' h2)).trans h2⟩
theorem OwnsT.reads {w : World} {base : Nat} {v : Value} {l : List Tok.T} (h : OwnsT w base v l) : ReadsT w v (Tok.toI l) := by
  rcases h.open' with ⟨rfl, rfl⟩ | ⟨g, cap, rfl, _, hg, hc⟩
  · exact ⟨none, 0, rfl, Nat.le_refl _, fun i hi => by simp [Tok.toI] at hi⟩
  · have hcap : l.length ≤ cap := by
      rcases h.2 with ⟨h2, _⟩ | ⟨g2, cap2, cur2, h2, _, _, h3, _⟩
      · cases h2
      · injection h2 with _ _ h4; subst h4; exact h3
    refine ⟨_, cap, by rw [Tok.toI_length], by rw [Tok.toI_length]; exact hcap, fun i hi => ?_⟩
    have hi' : i < l.length := by rwa [Tok.toI_length] at hi
    have := hc i hi'
    refine ⟨g, 0, rfl, ?_, ?_, ?_⟩
    · simpa [Tok.toI] using this.1
    · simpa [Tok.toI] using this.2.1
    · simpa [Tok.toI] using this.2.2
/-- Equal up to offsets. -/
def Tok.sameB (l m : List Tok.TI) : Bool := decide (l.map (fun t => (t.1, t.2.1)) = m.map (fun t => (t.1, t.2.1)))
theorem Tok.same_of (l m : List Tok.TI) (h : l.length = m.length) (hc : ∀ i (h1 : i < l.length) (h2 : i < m.length), l[i].1 = m[i].1 ∧ l[i].2.1 = m[i].2.1) : Tok.sameB l m = true := by
  unfold Tok.sameB
  rw [decide_eq_true_eq]
  apply List.ext_getElem
  · simp [h]
  · intro i h1 h2
    have := hc i (by simpa using h1) (by simpa using h2)
    simp [this.1, this.2]
theorem Tok.same_no (l m : List Tok.TI) (i : Nat) (h1 : i < l.length) (h2 : i < m.length) (hc : ¬ (l[i].1 = m[i].1 ∧ l[i].2.1 = m[i].2.1)) : Tok.sameB l m = false := by
  unfold Tok.sameB
  rw [decide_eq_false_iff_not]
  intro h
  have h3 := congrArg (·[i]?) h
  simp [h1, h2] at h3
  exact hc h3
theorem Tok.same_len (l m : List Tok.TI) (h : l.length ≠ m.length) : Tok.sameB l m = false := by
  unfold Tok.sameB
  rw [decide_eq_false_iff_not]
  intro he
  exact h (by simpa using congrArg List.length he)
set_option maxHeartbeats 1000000 in
theorem same_any (l m : List Tok.TI) (v u : Value) (w : World) (hv : ReadsT w v l) (hu : ReadsT w u m) (hl : l.length ≤ 1000000) (hm : m.length ≤ 1000000) :
    Calls Tryd.prog 19 #[v, u] w fun e w' => e = .returned (.bool (Tok.sameB l m)) ∧ Below w.heap.size w w' := by
  obtain ⟨a, cap, rfl, _, hc⟩ := hv
  obtain ⟨b, cap2, rfl, _, hd⟩ := hu
  have HC := kept hc; have HD := kept hd
  clear hc hd
  by_cases hlen : l.length = m.length
  · have Hlen := kept hlen
    have hne : ((l.length : Int) != (m.length : Int)) = false := by simp; omega
    have Hsm := kept (Tok.same_of l m hlen)
    clear hlen
    go_enter Tryd.func19, Tryd.ntmps19
    go_wp2
    go_loopw [5] (fun iv wr => ∃ (k n : Nat), k ≤ l.length ∧ iv = .int .i64 k ∧ wr = w.drewN n ∧ (∀ i (h1 : i < l.length) (h2 : i < m.length), i < k → l[i].1 = m[i].1 ∧ l[i].2.1 = m[i].2.1)) (fun iv _ => l.length - (intOf iv).toNat)
    case atStart => exact ⟨0, 0, by omega, rfl, rfl, fun i _ _ h => by omega⟩
    case round =>
      obtain ⟨k, n, hk, rfl, rfl, hall⟩ := hrel
      have Hall := kept hall; clear hall
      by_cases hlt : k < l.length
      · have hlt' : (k : Int) < l.length := by omega
        have hlm : k < m.length := by have := Hlen.out; omega
        have hlm' : (k : Int) < m.length := by omega
        obtain ⟨g, off, rfl, c0, c1, c2⟩ := HC.out k hlt
        obtain ⟨g2, off2, rfl, d0, d1, d2⟩ := HD.out k hlm
        have Hno := kept (Tok.same_no l m k hlt hlm)
        obtain ⟨⟨k1, t1, a1⟩, hx⟩ : ∃ x, l[k] = x := ⟨_, rfl⟩
        obtain ⟨⟨k2, t2, a2⟩, hy⟩ : ∃ x, m[k] = x := ⟨_, rfl⟩
        rw [hx] at c0 c1 c2 Hno; rw [hy] at d0 d1 d2 Hno
        have Hx := kept hx; have Hy := kept hy
        clear hx hy
        by_cases h1 : k1 = k2
        · subst h1
          by_cases h2 : t1 = t2
          · subst h2
            go_wp2
            go_quiet (fail)
            go_wp2
            refine ⟨⟨k + 1, _, by omega, by go_num, rfl, fun i h1 h2 hi => ?_⟩, by simp [intOf]; omega⟩
            by_cases hik : i = k
            · subst hik; rw [Hx.out, Hy.out]; exact ⟨rfl, rfl⟩
            · exact Hall.out i h1 h2 (by omega)
          · have h2' : (!(t1 == t2)) = true := by simpa using h2
            have h2'' : (t1 == t2) = false := by simpa using h2
            have HR := kept (Hno.out (fun h => h2 h.2))
            clear Hno
            go_wp2
            go_quiet (fail)
            go_wp2
            go_ret
            exact ⟨ret_bool HR.out.symm, below_drewN (below_drewN (Below.refl _ _) _) _⟩
        · have h1' : (k1 != k2) = true := by simpa using h1
          have HR := kept (Hno.out (fun h => h1 h.1))
          clear Hno
          go_wp2
          go_quiet (fail)
          go_wp2
          go_ret
          exact ⟨ret_bool HR.out.symm, below_drewN (below_drewN (Below.refl _ _) _) _⟩
      · have HR := kept (Hsm.out (fun i h1 h2 => Hall.out i h1 h2 (by omega)))
        have hlt' : ¬ (k : Int) < l.length := by omega
        go_wp2
        go_ret
        exact ⟨ret_bool HR.out.symm, below_drewN (Below.refl _ _) _⟩
  · have hne : ((l.length : Int) != (m.length : Int)) = true := by simp; omega
    have HR := kept (Tok.same_len l m hlen)
    clear hlen
    go_enter Tryd.func19, Tryd.ntmps19
    go_wp2
    go_ret
    exact ⟨ret_bool HR.out.symm, Below.refl _ _⟩
theorem tok_eqs (k1 a1 k2 a2 : Int) (t1 t2 : List UInt8) (w : World) : (Op.equalIn 10000 36 (.agg #[.int .i64 k1, .string ⟨t1.toArray⟩, .int .i64 a1]) (.agg #[.int .i64 k2, .string ⟨t2.toArray⟩, .int .i64 a2])).run Tryd.prog w = .ok (k1 == k2 && (t1 == t2 && a1 == a2)) w := by
  rw [show (10000 : Nat) = 9999 + 1 from rfl, run_equalIn_struct w 9999 36 _ _ (by simp [Program.fieldsOf, Tryd.underlying36]) (by kernel_rfl)]
  simp only [Program.fieldsOf, Tryd.underlying36]
  cases h1 : k1 == k2 <;> cases h2 : t1 == t2 <;> cases h3 : a1 == a2 <;> simp [Op.eqFields, go_sem, Tryd.underlying34, Tryd.underlying9, Tryd.underlying3, h1, h2, h3] <;> simp_all
theorem tok_neq (k1 a1 k2 a2 : Int) (t1 t2 : List UInt8) (w : World) : (binOp .neq 36 (.agg #[.int .i64 k1, .string ⟨t1.toArray⟩, .int .i64 a1]) (.agg #[.int .i64 k2, .string ⟨t2.toArray⟩, .int .i64 a2])).run Tryd.prog w = .ok (.bool (!decide ((k1, t1, a1) = (k2, t2, a2)))) w := by
  rw [run_neq_struct, tok_eqs]
  have e : decide ((k1, t1, a1) = (k2, t2, a2)) = (k1 == k2 && (t1 == t2 && a1 == a2)) := by
    rw [Bool.eq_iff_iff]; simp
  rw [e]; rfl
set_option maxHeartbeats 1000000 in
theorem equal_any (l m : List Tok.TI) (v u : Value) (w : World) (hv : ReadsT w v l) (hu : ReadsT w u m) (hl : l.length ≤ 1000000) (hm : m.length ≤ 1000000) :
    Calls Tryd.prog 13 #[v, u] w fun e w' => e = .returned (.bool (decide (l = m))) ∧ Below w.heap.size w w' := by
  obtain ⟨a, cap, rfl, _, hc⟩ := hv
  obtain ⟨b, cap2, rfl, _, hd⟩ := hu
  have HC := kept hc; have HD := kept hd
  clear hc hd
  by_cases hlen : l.length = m.length
  · have Hlen := kept hlen
    have hne : ((l.length : Int) != (m.length : Int)) = false := by simp; omega
    clear hlen
    go_enter Tryd.func13, Tryd.ntmps13
    go_wp2
    go_loopw [5] (fun iv wr => ∃ (k n : Nat), k ≤ l.length ∧ iv = .int .i64 k ∧ wr = w.drewN n ∧ (∀ i (h1 : i < l.length) (h2 : i < m.length), i < k → l[i] = m[i])) (fun iv _ => l.length - (intOf iv).toNat)
    case atStart => exact ⟨0, 0, by omega, rfl, rfl, fun i _ _ h => by omega⟩
    case round =>
      obtain ⟨k, n, hk, rfl, rfl, hall⟩ := hrel
      have Hall := kept hall; clear hall
      by_cases hlt : k < l.length
      · have hlt' : (k : Int) < l.length := by omega
        have hlm : k < m.length := by have := Hlen.out; omega
        have hlm' : (k : Int) < m.length := by omega
        obtain ⟨g, off, rfl, c0, c1, c2⟩ := HC.out k hlt
        obtain ⟨g2, off2, rfl, d0, d1, d2⟩ := HD.out k hlm
        have Hno := kept (fun (h : l[k] ≠ m[k]) (he : l = m) => h (by subst he; rfl))
        obtain ⟨⟨k1, t1, a1⟩, hx⟩ : ∃ x, l[k] = x := ⟨_, rfl⟩
        obtain ⟨⟨k2, t2, a2⟩, hy⟩ : ∃ x, m[k] = x := ⟨_, rfl⟩
        rw [hx] at c0 c1 c2 Hno; rw [hy] at d0 d1 d2 Hno
        have Hx := kept hx; have Hy := kept hy
        clear hx hy
        have hnq := tok_neq k1 a1 k2 a2 t1 t2
        by_cases he : (k1, t1, a1) = (k2, t2, a2)
        · have hd : decide ((k1, t1, a1) = (k2, t2, a2)) = true := by simpa using he
          rw [hd] at hnq
          have Hxy := kept (show l[k] = m[k] by rw [Hx.out, Hy.out, he])
          clear hd he
          go_wp2
          go_quiet (fail)
          go_wp2
          refine ⟨⟨k + 1, _, by omega, by go_num, rfl, fun i h1 h2 hi => ?_⟩, by simp [intOf]; omega⟩
          by_cases hik : i = k
          · subst hik; exact Hxy.out
          · exact Hall.out i h1 h2 (by omega)
        · have hd : decide ((k1, t1, a1) = (k2, t2, a2)) = false := by simpa using he
          rw [hd] at hnq
          have HR := kept (Hno.out he)
          clear hd he Hno
          go_wp2
          go_quiet (fail)
          go_wp2
          go_ret
          exact ⟨ret_bool (by simpa using HR.out), below_drewN (below_drewN (Below.refl _ _) _) _⟩
      · have HR := kept (show l = m from List.ext_getElem Hlen.out (fun i h1 h2 => Hall.out i h1 h2 (by omega)))
        have hlt' : ¬ (k : Int) < l.length := by omega
        go_wp2
        go_ret
        exact ⟨ret_bool (by simpa using HR.out), below_drewN (Below.refl _ _) _⟩
  · have hne : ((l.length : Int) != (m.length : Int)) = true := by simp; omega
    have HR := kept (show l ≠ m from fun h => hlen (by rw [h]))
    clear hlen
    go_enter Tryd.func13, Tryd.ntmps13
    go_wp2
    go_ret
    exact ⟨ret_bool (by simpa using HR.out), Below.refl _ _⟩
end Go.Proofs.YtbpaeglmanjbfaaDoor
