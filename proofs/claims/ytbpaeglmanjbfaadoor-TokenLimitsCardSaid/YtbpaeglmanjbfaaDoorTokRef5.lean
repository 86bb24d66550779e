/- The walk of provisionref13.one. -/
import Derived.Test.YtbpaeglmanjbfaaDoorTokRef4
namespace Go.Proofs.YtbpaeglmanjbfaaDoor
open Go.RowKit
set_option linter.unusedSimpArgs false
set_option linter.unusedVariables false
namespace Tok
def kindOf (b : UInt8) : Int := if b = 10 then 5 else if isLetter b then 1 else if isDigit b then 2 else if b = 34 then 3 else 4
/-- The kind of the token that begins here. -/
def kindL : List UInt8 → Int
  | [] => 0
  | b :: _ => kindOf b
/-- The text of a token of n bytes. -/
def textL (l : List UInt8) (n : Nat) : List UInt8 := if l.head? = some 34 then (l.drop 1).take (n - 2) else l.take n
end Tok
def tokV (kind : Int) (t : List UInt8) (at' : Int) : Value := .agg #[.int .i64 kind, .string ⟨t.toArray⟩, .int .i64 at']
def oneEnd (l : List UInt8) (k : Nat) (q : Int) : Tok.R → Ending
  | .ok n => .returned (.tuple #[tokV (Tok.kindL l) (Tok.textL l n) k, .int .i64 (k + n : Nat), diagV 0 0])
  | .err e a => .returned (.tuple #[tokV 0 [] 0, .int .i64 0, diagV e (k + a)])
  | .trunc => .returned (.tuple #[tokV 0 [] 0, .int .i64 0, diagV 40 q])
theorem oneEnd_ok {l t : List UInt8} {k n : Nat} {q kd p : Int} {r : Tok.R} (h : r = .ok n) (h1 : kd = Tok.kindL l) (h2 : t = Tok.textL l n) (h3 : p = (k + n : Nat)) :
    Ending.returned (.tuple #[tokV kd t k, .int .i64 p, diagV 0 0]) = oneEnd l k q r := by subst h; subst h1; subst h2; subst h3; rfl
theorem oneEnd_err {l : List UInt8} {k a : Nat} {q e p : Int} {r : Tok.R} (h : r = .err e a) (h3 : p = k + a) :
    Ending.returned (.tuple #[tokV 0 [] 0, .int .i64 0, diagV e p]) = oneEnd l k q r := by subst h; subst h3; rfl
theorem oneEnd_trunc {l : List UInt8} {k : Nat} {q : Int} {r : Tok.R} (h : r = .trunc) :
    Ending.returned (.tuple #[tokV 0 [] 0, .int .i64 0, diagV 40 q]) = oneEnd l k q r := by subst h; rfl

def Tri (w : World) (g : Nat) (T : TypeId) (a b c : Value) : Prop := w.heap[g]? = some (.cells #[a, b, c] T (0, 0))
theorem Tri.below {w w' : World} {g : Nat} {T : TypeId} {a b c : Value} (h : Tri w g T a b c) (hb : Below w.heap.size w w') : Tri w' g T a b c := (hb.block g (Array.getElem?_eq_some_iff.1 h).1).trans h
theorem Tri.facts {w : World} {g : Nat} {T : TypeId} {a b c : Value} (h : Tri w g T a b c) : w.cell? ⟨g, 0, none⟩ = some a ∧ w.cell? ⟨g, 1, none⟩ = some b ∧ w.cell? ⟨g, 2, none⟩ = some c ∧ w.frozen? ⟨g, 0, none⟩ = false ∧ w.frozen? ⟨g, 1, none⟩ = false ∧ w.frozen? ⟨g, 2, none⟩ = false := by
  refine ⟨?_, ?_, ?_, ?_, ?_, ?_⟩
  · rw [cell_of_row _ _ _ _ _ _ h]; rfl
  · rw [cell_of_row _ _ _ _ _ _ h]; rfl
  · rw [cell_of_row _ _ _ _ _ _ h]; rfl
  · simp only [World.frozen?, show w.heap[g]? = _ from h]; rfl
  · simp only [World.frozen?, show w.heap[g]? = _ from h]; rfl
  · simp only [World.frozen?, show w.heap[g]? = _ from h]; rfl
theorem Tri.fresh (w : World) (T : TypeId) (a b c : Value) : Tri (w.alloc (.cells #[a, b, c] T)) w.heap.size T a b c := heap_alloc_new w _
/-- The two results that lie in memory. -/
theorem two_at (w : World) (t u : TypeId) (a b c x y z : Value) : Tri ((w.alloc (.cells #[a, b, c] t)).alloc (.cells #[x, y, z] u)) w.heap.size t a b c ∧ Tri ((w.alloc (.cells #[a, b, c] t)).alloc (.cells #[x, y, z] u)) (w.heap.size + 1) u x y z ∧ Below w.heap.size w ((w.alloc (.cells #[a, b, c] t)).alloc (.cells #[x, y, z] u)) := by
  refine ⟨(Tri.fresh w t a b c).below (ball _ _), ?_, (ball w _).alloc (by simp) _⟩
  have := Tri.fresh (w.alloc (.cells #[a, b, c] t)) u x y z
  simpa using this

theorem bset6 {B g h : Nat} {w wr : World} (hb : Below B w wr) (hg : B ≤ g) (hh : B ≤ h) (x y z a b c : Value) : Below B w ((((((wr.setCell ⟨g, 0, none⟩ x).setCell ⟨g, 1, none⟩ y).setCell ⟨g, 2, none⟩ z).setCell ⟨h, 0, none⟩ a).setCell ⟨h, 1, none⟩ b).setCell ⟨h, 2, none⟩ c) := bset3 (bset3 hb hg x y z) hh a b c
namespace Tok
section
variable (src : List UInt8 → R) (s : ByteArray) (k : Nat) (hk : k < s.size)
include hk
theorem head34 : (s.data.toList.drop k).head? = some 34 ↔ s[k] = 34 := head_at s k hk 34
theorem one_nl (h : s[k] = 10) : oneW src (s.data.toList.drop k) = .ok 1 := by rw [get_cons s k hk]; show (if s[k] = 10 then _ else _) = _; rw [if_pos h]
theorem one_letter (h : s[k] ≠ 10) (hl : isLetter s[k] = true) : oneW src (s.data.toList.drop k) = if 64 < spanN (fun c => isLetter c || isDigit c) (s.data.toList.drop k) then .err 7 0 else .ok (spanN (fun c => isLetter c || isDigit c) (s.data.toList.drop k)) := by
  conv => lhs; rw [get_cons s k hk]
  show (if s[k] = 10 then _ else if isLetter s[k] then _ else _) = _
  rw [if_neg h, if_pos hl, ← get_cons s k hk]
theorem one_digit (h : s[k] ≠ 10) (hl : isLetter s[k] = false) (hd : isDigit s[k] = true) : oneW src (s.data.toList.drop k) = .ok (spanN isDigit (s.data.toList.drop k)) := by
  conv => lhs; rw [get_cons s k hk]
  show (if s[k] = 10 then _ else if isLetter s[k] then _ else if isDigit s[k] then _ else _) = _
  rw [if_neg h, hl, if_neg (by simp), if_pos hd, ← get_cons s k hk]
theorem one_string (h : s[k] = 34) : oneW src (s.data.toList.drop k) = match src (s.data.toList.drop (k + 1)) with
    | .ok n => .ok (n + 2)
    | r => r.up 1 := by
  conv => lhs; rw [get_cons s k hk]
  show (if s[k] = 10 then _ else if isLetter s[k] then _ else if isDigit s[k] then _ else if s[k] = 34 then _ else _) = _
  rw [h]; rfl
theorem one_sign (h : s[k] ≠ 10) (hl : isLetter s[k] = false) (hd : isDigit s[k] = false) (hq : s[k] ≠ 34) : oneW src (s.data.toList.drop k) = if signN (s.data.toList.drop k) = 0 then .err 2 0 else .ok (signN (s.data.toList.drop k)) := by
  conv => lhs; rw [get_cons s k hk]
  show (if s[k] = 10 then _ else if isLetter s[k] then _ else if isDigit s[k] then _ else if s[k] = 34 then _ else _) = _
  rw [if_neg h, hl, if_neg (by simp), hd, if_neg (by simp), if_neg hq, ← get_cons s k hk]
theorem kindL_at : kindL (s.data.toList.drop k) = kindOf s[k] := by rw [get_cons s k hk]; rfl
theorem textL_no (n : Nat) (h : s[k] ≠ 34) : textL (s.data.toList.drop k) n = (s.data.toList.drop k).take n := by
  unfold textL; rw [if_neg (fun hh => h ((head34 s k hk).1 hh))]
theorem textL_str (n : Nat) (h : s[k] = 34) : textL (s.data.toList.drop k) (n + 2) = (s.data.toList.drop (k + 1)).take n := by
  unfold textL; rw [if_pos ((head34 s k hk).2 h), drop_drop']; rfl
theorem sign_le : signN (s.data.toList.drop k) ≤ 2 ∧ k + signN (s.data.toList.drop k) ≤ s.size := by
  by_cases h1 : k + 1 < s.size
  · have : signN (s.data.toList.drop k) ≤ 2 := by
      rw [get_cons s k hk, get_cons s (k + 1) h1]
      show (if isTwo s[k] s[k + 1] then 2 else if isOne s[k] then 1 else 0) ≤ 2
      repeat' split
      all_goals omega
    omega
  · have : signN (s.data.toList.drop k) ≤ 1 := by
      rw [get_cons s k hk, drop_end s (k + 1) h1]
      show (if isOne s[k] then 1 else 0) ≤ 1
      split <;> omega
    omega
end
end Tok

set_option maxRecDepth 100000 in
set_option maxHeartbeats 2000000 in
theorem refOne_of (src : List UInt8 → Tok.R) (d : Nat) (s : ByteArray) (hs : s.size ≤ 1000000) (hd : d ≤ 32)
    (ht : ∀ (j : Nat) (q : Int) (w : World), j ≤ s.size → Calls Tryd.prog 57 #[.string s, .int .i64 j, .int .i64 d, .int .i64 q] w fun e w' => e = readEnd j q (src (s.data.toList.drop j)) ∧ Below w.heap.size w w')
    (hok : ∀ (j n : Nat), j ≤ s.size → src (s.data.toList.drop j) = .ok n → j + n < s.size)
    (hne : ∀ (l : List UInt8) (e : Int) (a : Nat), src l = .err e a → e ≠ 0)
    (k : Nat) (q q' : Int) (hq : q' = if d = 0 then (k : Int) else q) (hk : k < s.size) (w : World) :
    Calls Tryd.prog 31 #[.string s, .int .i64 k, .int .i64 d, .int .i64 q] w fun e w' => e = oneEnd (s.data.toList.drop k) k q' (Tok.oneW src (s.data.toList.drop k)) ∧ Below w.heap.size w w' := by
  obtain ⟨U, hU⟩ : ∃ U, U = Tok.oneW src (s.data.toList.drop k) := ⟨_, rfl⟩
  rw [← hU]
  have HU := kept hU; have Ht := kept ht; have Hok := kept hok; have Hne := kept hne; have Hq := kept hq
  clear hU ht hok hne hq
  have hlt' : (k : Int) < s.size := by omega
  obtain ⟨t1, t2, t3⟩ := two_at w 36 26 (.int .i64 0) (.string ⟨#[]⟩) (.int .i64 0) (.int .i64 0) (.int .i64 0) (.string ⟨#[]⟩)
  have T1 := kept t1; have T2 := kept t2; have T3 := kept t3
  clear t1 t2 t3
  have Hl := kept (refLetter_any s[k]); have Hdg := kept (refDigit_any s[k])
  obtain ⟨u, huu, hu0, hu1⟩ := byte_int s[k]
  rw [huu] at Hl Hdg
  by_cases h10 : s[k] = 10
  · have Hx := kept (HU.out.trans (Tok.one_nl src s k hk h10))
    have Hk := kept (show (5 : Int) = Tok.kindL (s.data.toList.drop k) by rw [Tok.kindL_at s k hk, h10]; rfl)
    have Htx := kept (show [10] = Tok.textL (s.data.toList.drop k) 1 by rw [Tok.textL_no s k hk 1 (by rw [h10]; decide), Tok.get_cons s k hk, h10]; rfl)
    have hv : u = 10 := by rw [← huu, h10]; rfl
    subst hv
    clear h10
    go_enter Tryd.func31, Tryd.ntmps31
    go_wp2
    exact bodyPost_ret (v := .tuple #[tokV 5 [10] k, .int .i64 (k + 1 : Int), diagV 0 0]) (by simp [results, Tryd.results31, go_sem, diagV, tokV]) rfl ⟨oneEnd_ok (n := 1) Hx.out Hk.out Htx.out (by omega), (ball w _).alloc (by simp) _⟩
  · have g10 : (u == 10) = false := by have := byte_neq s[k] 10 (by decide) h10; rwa [huu] at this
    rcases bool_or (Tok.isLetter s[k]) with hl | hl
    · have Hx := kept (HU.out.trans (Tok.one_letter src s k hk h10 hl))
      have h34 : s[k] ≠ 34 := by intro h; rw [h] at hl; exact absurd hl (by decide)
      have Hr := kept (fun w => refRun_any s k true w hs (by omega))
      rw [show (fun c => (true && Tok.isLetter c) || Tok.isDigit c) = (fun c => Tok.isLetter c || Tok.isDigit c) by funext c; simp] at Hr
      have hle := Tok.spanN_le (fun c => Tok.isLetter c || Tok.isDigit c) (s.data.toList.drop k)
      rw [List.length_drop, show s.data.toList.length = s.size by simp] at hle
      obtain ⟨n, hn⟩ : ∃ n, Tok.spanN (fun c => Tok.isLetter c || Tok.isDigit c) (s.data.toList.drop k) = n := ⟨_, rfl⟩
      rw [hn] at Hx Hr hle
      have hkn : k + n ≤ s.size := by omega
      have hkn' : (k : Int) + n ≤ s.size := by omega
      have Hk := kept (show (1 : Int) = Tok.kindL (s.data.toList.drop k) by rw [Tok.kindL_at s k hk]; unfold Tok.kindOf; rw [if_neg h10, if_pos hl])
      have Htx := kept (Tok.textL_no s k hk n h34)
      rw [hl] at Hl
      have hxt := Tok.extract_take s k n
      have hkk : ((k + n : Nat) : Int) = (k : Int) + n := by omega
      rw [hkk] at Hr
      clear h10 hl h34 hn hle hkk
      by_cases h64 : 64 < n
      · have Hx2 := kept (Hx.out.trans (if_pos h64))
        have h64' : (64 : Int) < (k : Int) + n - k := by omega
        go_enter Tryd.func31, Tryd.ntmps31
        go_wp2_with fail
        (with_reducible refine (Hl.out _).mono ?_); rintro e w1 ⟨rfl, rfl⟩
        go_wp2_with fail
        (with_reducible refine (Hr.out _).mono ?_); rintro e w1 ⟨rfl, rfl⟩
        go_wp2_with fail
        (with_reducible refine (refBad_any _ _ _).mono ?_); rintro e w9 ⟨rfl, b9⟩
        obtain ⟨c0, c1, c2, f0, f1, f2⟩ := (T1.out.below b9).facts
        obtain ⟨r0, r1, r2, g0, g1, g2⟩ := (T2.out.below b9).facts
        have T1b := kept (T1.out.below b9); have T2b := kept (T2.out.below b9); have L9 := kept (bthen2 T3.out b9 (by simp; omega))
        have hsz9 : w.heap.size + 2 ≤ w9.heap.size := by have := b9.size; simpa using this
        clear b9
        go_wp2
        exact bodyPost_ret (v := .tuple #[tokV 0 [] 0, .int .i64 0, diagV 7 k]) (by simp [c0, c1, c2, r0, r1, r2, results, Tryd.results31, go_sem, diagV, tokV]) rfl ⟨oneEnd_err Hx2.out (by omega), bset6 L9.out (Nat.le_refl _) (Nat.le_succ _) _ _ _ _ _ _⟩
      · have Hx2 := kept (Hx.out.trans (if_neg h64))
        have h64' : ¬ (64 : Int) < (k : Int) + n - k := by omega
        generalize (s.data.toList.drop k).take n = tx at *
        go_enter Tryd.func31, Tryd.ntmps31
        go_wp2_with fail
        (with_reducible refine (Hl.out _).mono ?_); rintro e w1 ⟨rfl, rfl⟩
        go_wp2_with fail
        (with_reducible refine (Hr.out _).mono ?_); rintro e w1 ⟨rfl, rfl⟩
        go_wp2
        exact bodyPost_ret (v := .tuple #[tokV 1 tx k, .int .i64 (k + n : Int), diagV 0 0]) (by simp [hxt, results, Tryd.results31, go_sem, diagV, tokV]) rfl ⟨oneEnd_ok (n := n) Hx2.out Hk.out Htx.out.symm (by omega), (ball w _).alloc (by simp) _⟩
    · rw [hl] at Hl
      rcases bool_or (Tok.isDigit s[k]) with hdg | hdg
      · have Hx := kept (HU.out.trans (Tok.one_digit src s k hk h10 hl hdg))
        have h34 : s[k] ≠ 34 := by intro h; rw [h] at hdg; exact absurd hdg (by decide)
        have Hr := kept (fun w => refRun_any s k false w hs (by omega))
        rw [show (fun c => (false && Tok.isLetter c) || Tok.isDigit c) = Tok.isDigit by funext c; simp] at Hr
        have hle := Tok.spanN_le Tok.isDigit (s.data.toList.drop k)
        rw [List.length_drop, show s.data.toList.length = s.size by simp] at hle
        obtain ⟨n, hn⟩ : ∃ n, Tok.spanN Tok.isDigit (s.data.toList.drop k) = n := ⟨_, rfl⟩
        rw [hn] at Hx Hr hle
        have hkn : k + n ≤ s.size := by omega
        have hkn' : (k : Int) + n ≤ s.size := by omega
        have Hk := kept (show (2 : Int) = Tok.kindL (s.data.toList.drop k) by rw [Tok.kindL_at s k hk]; unfold Tok.kindOf; rw [if_neg h10, hl, if_neg (by simp), if_pos hdg])
        have Htx := kept (Tok.textL_no s k hk n h34)
        rw [hdg] at Hdg
        have hxt := Tok.extract_take s k n
        have hkk : ((k + n : Nat) : Int) = (k : Int) + n := by omega
        rw [hkk] at Hr
        clear h10 hl h34 hn hle hkk hdg
        generalize (s.data.toList.drop k).take n = tx at *
        go_enter Tryd.func31, Tryd.ntmps31
        go_wp2_with fail
        (with_reducible refine (Hl.out _).mono ?_); rintro e w1 ⟨rfl, rfl⟩
        go_wp2_with fail
        (with_reducible refine (Hdg.out _).mono ?_); rintro e w1 ⟨rfl, rfl⟩
        go_wp2_with fail
        (with_reducible refine (Hr.out _).mono ?_); rintro e w1 ⟨rfl, rfl⟩
        go_wp2
        exact bodyPost_ret (v := .tuple #[tokV 2 tx k, .int .i64 (k + n : Int), diagV 0 0]) (by simp [hxt, results, Tryd.results31, go_sem, diagV, tokV]) rfl ⟨oneEnd_ok (n := n) Hx.out Hk.out Htx.out.symm (by omega), (ball w _).alloc (by simp) _⟩
      · rw [hdg] at Hdg
        by_cases h34 : s[k] = 34
        · have Hx := kept (HU.out.trans (Tok.one_string src s k hk h34))
          have Hk := kept (show (3 : Int) = Tok.kindL (s.data.toList.drop k) by rw [Tok.kindL_at s k hk, h34]; rfl)
          have Htx := kept (fun n => Tok.textL_str s k hk n h34)
          have hv : u = 34 := by rw [← huu, h34]; rfl
          subst hv
          have Htt := kept (fun w => Ht.out (k + 1) q' w (by omega))
          rw [show ((k + 1 : Nat) : Int) = (k : Int) + 1 by omega] at Htt
          have Hok2 := kept (Hok.out (k + 1))
          have Hne2 := kept (Hne.out (s.data.toList.drop (k + 1)))
          obtain ⟨r, hr⟩ : ∃ r, src (s.data.toList.drop (k + 1)) = r := ⟨_, rfl⟩
          rw [hr] at Hx Htt Hok2 Hne2
          have hq2 : d = 0 ∧ q' = k ∨ ((d : Int) == 0) = false ∧ q' = q := by
            have := Hq.out
            by_cases hd0 : d = 0
            · rw [if_pos hd0] at this; exact .inl ⟨hd0, this⟩
            · rw [if_neg hd0] at this; exact .inr ⟨by simpa using hd0, this⟩
          clear h10 hl hdg h34 hr
          cases r with
          | ok n =>
            have hkn := Hok2.out n (by omega) rfl
            have hkn' : (k : Int) + 1 + n < s.size := by omega
            have hxt := Tok.extract_take s (k + 1) n
            have Htx2 := kept (Htx.out n)
            simp only [readEnd, diagV] at Htt
            generalize (s.data.toList.drop (k + 1)).take n = tx at *
            rcases hq2 with ⟨rfl, rfl⟩ | ⟨hd0, rfl⟩
            all_goals
              (try rw [show ((0 : Nat) : Int) = 0 from rfl] at Htt ⊢)
              go_enter Tryd.func31, Tryd.ntmps31
              go_wp2_with fail
              (with_reducible refine (Hl.out _).mono ?_); rintro e w1 ⟨rfl, rfl⟩
              go_wp2_with fail
              (with_reducible refine (Hdg.out _).mono ?_); rintro e w1 ⟨rfl, rfl⟩
              go_wp2_with fail
              (with_reducible refine (Htt.out _).mono ?_); rintro e w9 ⟨rfl, b9⟩
              obtain ⟨c0, c1, c2, f0, f1, f2⟩ := (T1.out.below b9).facts
              obtain ⟨r0, r1, r2, g0, g1, g2⟩ := (T2.out.below b9).facts
              have T1b := kept (T1.out.below b9); have T2b := kept (T2.out.below b9); have L9 := kept (bthen2 T3.out b9 (by simp; omega))
              have hsz9 : w.heap.size + 2 ≤ w9.heap.size := by have := b9.size; simpa using this
              clear b9
              obtain ⟨d0, d1, d2, h0, h1, h2⟩ := (T1b.out.below (ball w9 (.cells #[.int .i64 0, .int .i64 0, .string ⟨#[]⟩] 26))).facts
              obtain ⟨i0, i1, i2, j0, j1, j2⟩ := (T2b.out.below (ball w9 (.cells #[.int .i64 0, .int .i64 0, .string ⟨#[]⟩] 26))).facts
              go_wp2
              exact bodyPost_ret (v := .tuple #[tokV 3 tx k, .int .i64 (k + 1 + n + 1 : Int), diagV 0 0]) (by simp [hxt, d0, d1, d2, i0, i1, i2, results, Tryd.results31, go_sem, diagV, tokV]) rfl ⟨oneEnd_ok (n := n + 2) Hx.out Hk.out Htx2.out.symm (by omega), bset6 (L9.out.alloc (by omega) _) (Nat.le_refl _) (Nat.le_succ _) _ _ _ _ _ _⟩
          | err e0 a0 =>
            have hne0 := Hne2.out e0 a0 rfl
            have hne1 : (e0 == 0) = false := by simpa using hne0
            have hne2 : (e0 != 0) = true := by simpa using hne0
            have Hx2 := kept (show U = .err e0 (1 + a0) by rw [Hx.out]; simp [Tok.R.up])
            simp only [readEnd, diagV] at Htt
            rcases hq2 with ⟨rfl, rfl⟩ | ⟨hd0, rfl⟩
            all_goals
              (try rw [show ((0 : Nat) : Int) = 0 from rfl] at Htt ⊢)
              go_enter Tryd.func31, Tryd.ntmps31
              go_wp2_with fail
              (with_reducible refine (Hl.out _).mono ?_); rintro e w1 ⟨rfl, rfl⟩
              go_wp2_with fail
              (with_reducible refine (Hdg.out _).mono ?_); rintro e w1 ⟨rfl, rfl⟩
              go_wp2_with fail
              (with_reducible refine (Htt.out _).mono ?_); rintro e w9 ⟨rfl, b9⟩
              obtain ⟨c0, c1, c2, f0, f1, f2⟩ := (T1.out.below b9).facts
              obtain ⟨r0, r1, r2, g0, g1, g2⟩ := (T2.out.below b9).facts
              have T1b := kept (T1.out.below b9); have T2b := kept (T2.out.below b9); have L9 := kept (bthen2 T3.out b9 (by simp; omega))
              have hsz9 : w.heap.size + 2 ≤ w9.heap.size := by have := b9.size; simpa using this
              clear b9
              obtain ⟨d0, d1, d2, h0, h1, h2⟩ := (T1b.out.below (ball w9 (.cells #[.int .i64 e0, .int .i64 ((k : Int) + 1 + a0), .string ⟨#[]⟩] 26))).facts
              obtain ⟨i0, i1, i2, j0, j1, j2⟩ := (T2b.out.below (ball w9 (.cells #[.int .i64 e0, .int .i64 ((k : Int) + 1 + a0), .string ⟨#[]⟩] 26))).facts
              go_wp2
              go_region
              all_goals go_wp2
              all_goals exact bodyPost_ret (v := .tuple #[tokV 0 [] 0, .int .i64 0, diagV e0 ((k : Int) + 1 + a0)]) (by simp [d0, d1, d2, i0, i1, i2, c0, c1, c2, r0, r1, r2, hsz9, results, Tryd.results31, go_sem, diagV, tokV]) rfl ⟨oneEnd_err Hx2.out (by omega), (bset6 (L9.out.alloc (by omega) _) (Nat.le_refl _) (Nat.le_succ _) _ _ _ _ _ _).drew⟩
          | trunc =>
            have Hx2 := kept (show U = .trunc by rw [Hx.out]; simp [Tok.R.up])
            simp only [readEnd, diagV] at Htt
            rcases hq2 with ⟨rfl, rfl⟩ | ⟨hd0, rfl⟩
            · (try rw [show ((0 : Nat) : Int) = 0 from rfl] at Htt ⊢)
              go_enter Tryd.func31, Tryd.ntmps31
              go_wp2_with fail
              (with_reducible refine (Hl.out _).mono ?_); rintro e w1 ⟨rfl, rfl⟩
              go_wp2_with fail
              (with_reducible refine (Hdg.out _).mono ?_); rintro e w1 ⟨rfl, rfl⟩
              go_wp2_with fail
              (with_reducible refine (Htt.out _).mono ?_); rintro e w9 ⟨rfl, b9⟩
              obtain ⟨c0, c1, c2, f0, f1, f2⟩ := (T1.out.below b9).facts
              obtain ⟨r0, r1, r2, g0, g1, g2⟩ := (T2.out.below b9).facts
              have T1b := kept (T1.out.below b9); have T2b := kept (T2.out.below b9); have L9 := kept (bthen2 T3.out b9 (by simp; omega))
              have hsz9 : w.heap.size + 2 ≤ w9.heap.size := by have := b9.size; simpa using this
              clear b9
              obtain ⟨d0, d1, d2, h0, h1, h2⟩ := (T1b.out.below (ball w9 (.cells #[.int .i64 40, .int .i64 (k : Int), .string ⟨#[]⟩] 26))).facts
              obtain ⟨i0, i1, i2, j0, j1, j2⟩ := (T2b.out.below (ball w9 (.cells #[.int .i64 40, .int .i64 (k : Int), .string ⟨#[]⟩] 26))).facts
              go_wp2
              go_region
              all_goals go_wp2
              all_goals exact bodyPost_ret (v := .tuple #[tokV 0 [] 0, .int .i64 0, diagV 40 (k : Int)]) (by simp [d0, d1, d2, i0, i1, i2, c0, c1, c2, r0, r1, r2, hsz9, results, Tryd.results31, go_sem, diagV, tokV]) rfl ⟨oneEnd_trunc Hx2.out, (bset6 (L9.out.alloc (by omega) _) (Nat.le_refl _) (Nat.le_succ _) _ _ _ _ _ _).drew⟩
            · (try rw [show ((0 : Nat) : Int) = 0 from rfl] at Htt ⊢)
              go_enter Tryd.func31, Tryd.ntmps31
              go_wp2_with fail
              (with_reducible refine (Hl.out _).mono ?_); rintro e w1 ⟨rfl, rfl⟩
              go_wp2_with fail
              (with_reducible refine (Hdg.out _).mono ?_); rintro e w1 ⟨rfl, rfl⟩
              go_wp2_with fail
              (with_reducible refine (Htt.out _).mono ?_); rintro e w9 ⟨rfl, b9⟩
              obtain ⟨c0, c1, c2, f0, f1, f2⟩ := (T1.out.below b9).facts
              obtain ⟨r0, r1, r2, g0, g1, g2⟩ := (T2.out.below b9).facts
              have T1b := kept (T1.out.below b9); have T2b := kept (T2.out.below b9); have L9 := kept (bthen2 T3.out b9 (by simp; omega))
              have hsz9 : w.heap.size + 2 ≤ w9.heap.size := by have := b9.size; simpa using this
              clear b9
              obtain ⟨d0, d1, d2, h0, h1, h2⟩ := (T1b.out.below (ball w9 (.cells #[.int .i64 40, .int .i64 q', .string ⟨#[]⟩] 26))).facts
              obtain ⟨i0, i1, i2, j0, j1, j2⟩ := (T2b.out.below (ball w9 (.cells #[.int .i64 40, .int .i64 q', .string ⟨#[]⟩] 26))).facts
              go_wp2
              go_region
              all_goals go_wp2
              all_goals exact bodyPost_ret (v := .tuple #[tokV 0 [] 0, .int .i64 0, diagV 40 q']) (by simp [d0, d1, d2, i0, i1, i2, c0, c1, c2, r0, r1, r2, hsz9, results, Tryd.results31, go_sem, diagV, tokV]) rfl ⟨oneEnd_trunc Hx2.out, (bset6 (L9.out.alloc (by omega) _) (Nat.le_refl _) (Nat.le_succ _) _ _ _ _ _ _).drew⟩
        · have Hx := kept (HU.out.trans (Tok.one_sign src s k hk h10 hl hdg h34))
          have g34 : (u == 34) = false := by have := byte_neq s[k] 34 (by decide) h34; rwa [huu] at this
          have Hk := kept (show (4 : Int) = Tok.kindL (s.data.toList.drop k) by rw [Tok.kindL_at s k hk]; unfold Tok.kindOf; rw [if_neg h10, hl, if_neg (by simp), hdg, if_neg (by simp), if_neg h34])
          have Hsg := kept (fun w => refSign_any s k w hs hk)
          have hsl := Tok.sign_le s k hk
          have hlen : ((s.data.toList.drop k).take (Tok.signN (s.data.toList.drop k))).length = Tok.signN (s.data.toList.drop k) := by
            rw [List.length_take, List.length_drop, show s.data.toList.length = s.size by simp]; omega
          have Htx := kept (Tok.textL_no s k hk (Tok.signN (s.data.toList.drop k)) h34)
          generalize Tok.signN (s.data.toList.drop k) = n at *
          generalize (s.data.toList.drop k).take n = tx at *
          have hn2 : k + n ≤ s.size := hsl.2
          clear h10 hl hdg h34 hsl
          by_cases hn : n = 0
          · have Hx2 := kept (Hx.out.trans (if_pos hn))
            obtain rfl : tx = [] := List.eq_nil_of_length_eq_zero (by omega)
            clear hlen hn
            go_enter Tryd.func31, Tryd.ntmps31
            go_wp2_with fail
            (with_reducible refine (Hl.out _).mono ?_); rintro e w1 ⟨rfl, rfl⟩
            go_wp2_with fail
            (with_reducible refine (Hdg.out _).mono ?_); rintro e w1 ⟨rfl, rfl⟩
            go_wp2_with fail
            (with_reducible refine (Hsg.out _).mono ?_); rintro e w8 ⟨rfl, b8⟩
            go_wp2_with fail
            (with_reducible refine (refBad_any _ _ _).mono ?_); rintro e w9 ⟨rfl, b9'⟩
            have b9 := bthen b8 b9'
            clear b8 b9'
            obtain ⟨c0, c1, c2, f0, f1, f2⟩ := (T1.out.below b9).facts
            obtain ⟨r0, r1, r2, g0, g1, g2⟩ := (T2.out.below b9).facts
            have T1b := kept (T1.out.below b9); have T2b := kept (T2.out.below b9); have L9 := kept (bthen2 T3.out b9 (by simp; omega))
            have hsz9 : w.heap.size + 2 ≤ w9.heap.size := by have := b9.size; simpa using this
            clear b9
            go_wp2
            exact bodyPost_ret (v := .tuple #[tokV 0 [] 0, .int .i64 0, diagV 2 k]) (by simp [c0, c1, c2, r0, r1, r2, results, Tryd.results31, go_sem, diagV, tokV]) rfl ⟨oneEnd_err Hx2.out (by omega), bset6 L9.out (Nat.le_refl _) (Nat.le_succ _) _ _ _ _ _ _⟩
          · have Hx2 := kept (Hx.out.trans (if_neg hn))
            have hz1 : tx ≠ [] := by intro h; rw [h] at hlen; simp at hlen; omega
            have hz2 : tx.isEmpty = false := by cases tx <;> simp_all
            have hsz := size_mk tx
            rw [hlen] at hsz
            clear hn
            have Hln := kept hlen
            clear hlen
            go_enter Tryd.func31, Tryd.ntmps31
            go_wp2_with fail
            (with_reducible refine (Hl.out _).mono ?_); rintro e w1 ⟨rfl, rfl⟩
            go_wp2_with fail
            (with_reducible refine (Hdg.out _).mono ?_); rintro e w1 ⟨rfl, rfl⟩
            go_wp2_with fail
            (with_reducible refine (Hsg.out _).mono ?_); rintro e w9 ⟨rfl, b9⟩
            obtain ⟨c0, c1, c2, f0, f1, f2⟩ := (T1.out.below b9).facts
            obtain ⟨r0, r1, r2, g0, g1, g2⟩ := (T2.out.below b9).facts
            have T1b := kept (T1.out.below b9); have T2b := kept (T2.out.below b9); have L9 := kept (bthen2 T3.out b9 (by simp; omega))
            have hsz9 : w.heap.size + 2 ≤ w9.heap.size := by have := b9.size; simpa using this
            clear b9
            go_wp2
            exact bodyPost_ret (v := .tuple #[tokV 4 tx k, .int .i64 (k + n : Int), diagV 0 0]) (by simp [c0, c1, c2, r0, r1, r2, results, Tryd.results31, go_sem, diagV, tokV]) rfl ⟨oneEnd_ok (n := n) Hx2.out Hk.out Htx.out.symm (by omega), bset6 L9.out (Nat.le_refl _) (Nat.le_succ _) _ _ _ _ _ _⟩
end Go.Proofs.YtbpaeglmanjbfaaDoor
