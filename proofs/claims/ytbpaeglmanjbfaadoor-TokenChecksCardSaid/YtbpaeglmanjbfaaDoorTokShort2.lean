/- What Scan's tokens are to Check and Format. No program in sight. -/
import Derived.Test.YtbpaeglmanjbfaaDoorTokAdj
namespace Go.Proofs.YtbpaeglmanjbfaaDoor
set_option linter.unusedSimpArgs false
set_option linter.unusedVariables false
namespace Tok
open Go.Lib
/-- The length of the format of l behind the token ahead of it. -/
def gapO : Option TI → TI → Nat
  | some a, t => if apartT a t then 1 else 0
  | none, _ => 0
def FL : Option TI → List TI → Nat
  | _, [] => 0
  | p, t :: l => gapO p t + (sourceL t).length + FL (some t) l
theorem fmtN_FL (l : List TI) : ∀ (rest pre : List TI), l = pre ++ rest → (fmtN l l.length).length = (fmtN l pre.length).length + FL pre.getLast? rest
  | [], pre, h => by rw [List.append_nil] at h; subst h; simp [FL]
  | t :: rest, pre, h => by
    have ih := fmtN_FL l rest (pre ++ [t]) (by rw [h]; simp)
    have hlt : pre.length < l.length := by rw [h]; simp
    have hget : l[pre.length] = t := by simp [h]
    rw [ih]
    have e1 : (pre ++ [t]).length = pre.length + 1 := by simp
    have e2 : (pre ++ [t]).getLast? = some t := by simp
    rw [e1, e2, fmtN_succ l pre.length hlt, hget]
    show _ = _ + (gapO pre.getLast? t + (sourceL t).length + FL (some t) rest)
    have hg : (if gapB l pre.length then fmtN l pre.length ++ [32] else fmtN l pre.length).length = (fmtN l pre.length).length + gapO pre.getLast? t := by
      rcases List.eq_nil_or_concat pre with rfl | ⟨q, a, hqa⟩
      · rfl
      · rw [List.concat_eq_append] at hqa
        subst hqa
        have e3 : (q ++ [a]).length = q.length + 1 := by simp
        have e4 : (q ++ [a]).getLast? = some a := by simp
        have hg2 := gapB_succ l q.length (by rw [e3] at hlt; exact hlt)
        have ga : l[q.length]'(by rw [e3] at hlt; omega) = a := by simp [h]
        have gt : l[q.length + 1]'(by rw [e3] at hlt; exact hlt) = t := by simp [h]
        rw [ga, gt] at hg2
        rw [e3, e4, hg2]
        show _ = _ + (if apartT a t then 1 else 0)
        split <;> simp
    rw [List.length_append, hg]
    omega
theorem fmt_FL (l : List TI) : (fmt l).length = FL none l := by
  have := fmtN_FL l l [] rfl
  simpa [fmt, fmtN] using this
/-- Where the token p was read, right ahead of place j. -/
def Ahead (L : List UInt8) (j : Nat) (p : Option TI) : Prop :=
  p = none ∨ ∃ b t n, ∃ a : Int, p = some (kindL (b :: t), textL (b :: t) n, a) ∧ one 32 (b :: t) = .ok n ∧ (b :: t).drop n = L.drop j
theorem apart_end (a : TI) (k : Int) : apartT a (6, [], k) = false := by
  show apartB a.1 a.2.1 6 [] = false
  unfold apartB
  split
  · rfl
  · split
    · rfl
    · rw [if_neg (by omega)]
theorem chain_FL (L : List UInt8) (j : Nat) (toks : List T) (h : Chain L j toks) : ∀ p, Ahead L j p → j ≤ L.length → FL p (toI toks) ≤ L.length - j := by
  induction h with
  | fin j k hk he =>
    intro p hp hj
    show gapO p (6, [], (k : Int)) + (sourceL (6, [], (k : Int))).length + 0 ≤ _
    have e : gapO p (6, [], (k : Int)) = 0 := by
      cases p with
      | none => rfl
      | some a => show (if apartT a (6, [], (k : Int)) then 1 else 0) = 0; rw [apart_end]; rfl
    have e2 : (sourceL (6, [], (k : Int))).length = 0 := rfl
    omega
  | step j k n rest hk hlt hb ho hr ih =>
    intro p hp hj
    have hdk : ∃ c r, L.drop k = c :: r := by
      cases hx : L.drop k with
      | nil => have := congrArg List.length hx; simp at this; omega
      | cons c r => exact ⟨c, r, rfl⟩
    obtain ⟨c, r, hcr⟩ := hdk
    rw [hcr] at ho ⊢
    have hn := one_len' 32 _ _ ho
    have hlk : (c :: r).length = L.length - k := by rw [← hcr, List.length_drop]
    have hdn : (c :: r).drop n = L.drop (k + n) := by rw [← hcr, List.drop_drop]
    have ih2 := ih (some (kindL (c :: r), textL (c :: r) n, (k : Int))) (.inr ⟨c, r, n, k, rfl, ho, hdn⟩) (by omega)
    show gapO p (kindL (c :: r), textL (c :: r) n, (k : Int)) + (sourceL (kindL (c :: r), textL (c :: r) n, (k : Int))).length + FL (some (kindL (c :: r), textL (c :: r) n, (k : Int))) (toI rest) ≤ _
    rw [source_at 32 c r n k ho]
    have hl : ((c :: r).take n).length = n := by rw [List.length_take]; omega
    rw [hl]
    have hgap : gapO p (kindL (c :: r), textL (c :: r) n, (k : Int)) ≤ k - j := by
      rcases hp with rfl | ⟨b, t, m, a, rfl, h1, h2⟩
      · exact Nat.zero_le _
      · show (if apartT (kindL (b :: t), textL (b :: t) m, a) (kindL (c :: r), textL (c :: r) n, (k : Int)) then 1 else 0) ≤ k - j
        by_cases hjk : k = j
        · subst hjk
          rw [hcr] at h2
          have := adjacent b t m h1 c r h2 n ho a k
          rw [this]; simp
        · have : j ≤ k := by omega
          split <;> omega
    omega
theorem chain_parts (L : List UInt8) (j : Nat) (toks : List T) (h : Chain L j toks) : ∃ init k, toks = init ++ [(6, [], k)] ∧ ∀ x ∈ toI init, validB x = true := by
  induction h with
  | fin j k hk he => exact ⟨[], k, rfl, fun x hx => by simp [toI] at hx⟩
  | step j k n rest hk hlt hb ho hr ih =>
    obtain ⟨init, k', h1, h2⟩ := ih
    refine ⟨(kindL (L.drop k), textL (L.drop k) n, k) :: init, k', by rw [h1]; rfl, fun x hx => ?_⟩
    cases hx2 : L.drop k with
    | nil => have := congrArg List.length hx2; simp at this; omega
    | cons c r =>
      rw [hx2] at hx ho
      have hx3 : x = (kindL (c :: r), textL (c :: r) n, (k : Int)) ∨ x ∈ toI init := by simpa [toI] using hx
      rcases hx3 with rfl | hx3
      · exact valid_at c r n k ho
      · exact h2 x hx3
/-- Scan's tokens are accepted, and their format is no longer than the text. -/
theorem scan_checked (L : List UInt8) (h : Chain L 0 (scan L).toks) (hl : L.length ≤ 65536) : checkZ (toI (scan L).toks) = 0 ∧ (fmt (toI (scan L).toks)).length ≤ L.length := by
  generalize (scan L).toks = toks at *
  have hf : (fmt (toI toks)).length ≤ L.length := by
    rw [fmt_FL]
    have := chain_FL L 0 toks h none (.inl rfl) (by omega)
    omega
  refine ⟨?_, hf⟩
  obtain ⟨init, k, rfl, hv⟩ := chain_parts L 0 _ h
  have e : toI (init ++ [(6, [], k)]) = toI init ++ [(6, [], (k : Int))] := by simp [toI]
  rw [e] at hf ⊢
  have hlast : lastB (toI init ++ [(6, [], (k : Int))]) = true := by
    unfold lastB
    simp
  have hall : (List.take ((toI init ++ [(6, [], (k : Int))]).length - 1) (toI init ++ [(6, [], (k : Int))])).all validB = true := by
    rw [List.all_eq_true]
    intro x hx
    simp at hx
    exact hv x hx
  unfold checkZ
  rw [hlast, hall]
  simp only [if_true]
  rw [if_neg (by omega)]
end Tok
end Go.Proofs.YtbpaeglmanjbfaaDoor
