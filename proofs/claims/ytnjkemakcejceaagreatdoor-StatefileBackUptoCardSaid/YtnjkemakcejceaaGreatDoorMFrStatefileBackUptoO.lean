/- Part of what the proof needs. -/
import Derived.Test.YtnjkemakcejceaaGreatDoorMFrStatefileBackUptoF
import Derived.Test.YtnjkemakcejceaaGreatDoorMFrStatefileBackUptoI
import Derived.Test.YtnjkemakcejceaaGreatDoorMFrStatefileBackUptoL
import Derived.Test.YtnjkemakcejceaaGreatDoorMFrStatefileBackUptoM
import Derived.Test.YtnjkemakcejceaaGreatDoorMFrStatefileBackUptoN
import Derived.Laws.BitsAllLaws
set_option linter.unusedSimpArgs false
set_option linter.unusedVariables false
set_option linter.unnecessarySimpa false
namespace Go.Proofs.YtnjkemakcejceaaGreatDoor
open Go.RowKit
namespace Sf
theorem strS_len (s : Rs) : (strS s).2.length ≤ s.r.rest.length := by
 unfold strS Wire.strR
 dsimp only
 split
 ·exact Nat.zero_le _
 ·dsimp only
  rw [List.length_take]
  have := Wire.cntR_rest s.r 1
  omega
theorem words_in (N : Nat) : ∀ (c : Nat) (s : Rs) (l : List (List UInt8)), s.r.rest.length ≤ N → (∀ x ∈ l, x.length ≤ N) → (∀ x ∈ (wordsS c s l).2, x.length ≤ N) ∧ (wordsS c s l).2.length = l.length + c
 | 0, s, l, hs, hl => ⟨hl, rfl⟩
 | c + 1, s, l, hs, hl => by
  unfold wordsS
  obtain ⟨h1, h2⟩ := words_in N c (strS s).1 (l ++ [(strS s).2]) (Nat.le_trans (strS_le s) hs) (fun x hx => by
   rcases List.mem_append.1 hx with hx | hx
   ·exact hl x hx
   ·rw [List.mem_singleton.1 hx]; exact Nat.le_trans (strS_len s) hs)
  refine ⟨h1, ?_⟩
  rw [h2, List.length_append, List.length_singleton]; omega
theorem value_lens (s : Rs) (hs : s.r.rest.length ≤ 100000000) : (valueS s).2.lens := AX.readValue_lens s.r hs
theorem inst_in (ver : Int) (s : Rs) (hs : s.r.rest.length ≤ 2000000) : AX.Sf.InstIn (instS ver s).2 := by
 have e1 := strS_le s
 have e2 := strS_le (strS s).1
 have e3 := strS_le (strS (strS s).1).1
 have e4 := strS_le (strS (strS (strS s).1).1).1
 have e5 := valueS_le (strS (strS (strS (strS s).1).1).1).1
 have e6 := numS_le (valueS (strS (strS (strS (strS s).1).1).1).1).1
 have e7 := flagS_le (numS (valueS (strS (strS (strS (strS s).1).1).1).1).1).1
 have l1 := strS_len s
 have l2 := strS_len (strS s).1
 have l3 := strS_len (strS (strS s).1).1
 have v := value_lens (strS (strS (strS (strS s).1).1).1).1 (by omega)
 unfold instS
 dsimp only
 generalize hF : (if ver = 2 then flagS (flagS (numS (valueS (strS (strS (strS (strS s).1).1).1).1).1).1).1 else ((flagS (numS (valueS (strS (strS (strS (strS s).1).1).1).1).1).1).1, false)) = F
 have e8 : F.1.r.rest.length ≤ 2000000 := by
  rw [← hF]
  split
  ·have := flagS_le (flagS (numS (valueS (strS (strS (strS (strS s).1).1).1).1).1).1).1
   omega
  ·dsimp only; omega
 have e9 := cntS_le F.1
 have e10 := cntS_cnt F.1
 obtain ⟨w1, w2⟩ := words_in 2000000 (cntS F.1).2 (cntS F.1).1 [] (by omega) (by simp)
 refine ⟨by dsimp only; omega, by dsimp only; omega, by dsimp only; omega, v, ?_, w1⟩
 show (wordsS (cntS F.1).2 (cntS F.1).1 []).2.length ≤ 1000000000
 rw [w2, List.length_nil]; omega
theorem insts_in (ver : Int) : ∀ (c : Nat) (s : Rs) (l : List Inst), s.r.rest.length ≤ 2000000 → (∀ x ∈ l, AX.Sf.InstIn x) → (∀ x ∈ (instsS ver c s l).2.1, AX.Sf.InstIn x) ∧ (instsS ver c s l).2.1.length ≤ l.length + c ∧ (instsS ver c s l).1.r.rest.length ≤ s.r.rest.length
 | 0, s, l, hs, hl => ⟨hl, Nat.le_refl _, Nat.le_refl _⟩
 | c + 1, s, l, hs, hl => by
  unfold instsS
  split
  ·exact ⟨hl, by dsimp only; omega, Nat.le_refl _⟩
  ·have h0 := instS_le ver s
   obtain ⟨h1, h2, h3⟩ := insts_in ver c (instS ver s).1 (l ++ [(instS ver s).2]) (by omega) (fun x hx => by
    rcases List.mem_append.1 hx with hx | hx
    ·exact hl x hx
    ·rw [List.mem_singleton.1 hx]; exact inst_in ver s hs)
   refine ⟨h1, ?_, Nat.le_trans h3 h0⟩
   rw [List.length_append, List.length_singleton] at h2; omega
theorem pendS_le (s : Rs) : (pendS s).1.r.rest.length ≤ s.r.rest.length := Nat.le_trans (strS_le _) (Nat.le_trans (strS_le _) (strS_le _))
theorem pends_in : ∀ (c : Nat) (s : Rs) (l : List Pend), s.r.rest.length ≤ 2000000 → (∀ x ∈ l, x.addr.length ≤ 2000000 ∧ x.tok.length ≤ 2000000) → (∀ x ∈ (pendsS c s l).2, x.addr.length ≤ 2000000 ∧ x.tok.length ≤ 2000000) ∧ (pendsS c s l).2.length = l.length + c ∧ (pendsS c s l).1.r.rest.length ≤ s.r.rest.length
 | 0, s, l, hs, hl => ⟨hl, rfl, Nat.le_refl _⟩
 | c + 1, s, l, hs, hl => by
  unfold pendsS
  have h0 := pendS_le s
  have k1 := strS_len s
  have k2 := strS_len (strS (strS s).1).1
  have k3 := strS_le s
  have k4 := strS_le (strS s).1
  obtain ⟨h1, h2, h3⟩ := pends_in c (pendS s).1 (l ++ [(pendS s).2]) (by omega) (fun x hx => by
   rcases List.mem_append.1 hx with hx | hx
   ·exact hl x hx
   ·rw [List.mem_singleton.1 hx]
    unfold pendS
    dsimp only
    exact ⟨by omega, by omega⟩)
  refine ⟨h1, ?_, Nat.le_trans h3 h0⟩
  rw [h2, List.length_append, List.length_singleton]; omega
theorem outS_le (s : Rs) : (outS s).1.r.rest.length ≤ s.r.rest.length := Nat.le_trans (flagS_le _) (Nat.le_trans (valueS_le _) (strS_le _))
theorem outs_in : ∀ (c : Nat) (s : Rs) (l : List Outp), s.r.rest.length ≤ 2000000 → (∀ x ∈ l, x.name.length ≤ 2000000 ∧ x.value.lens) → (∀ x ∈ (outsS c s l).2.1, x.name.length ≤ 2000000 ∧ x.value.lens) ∧ (outsS c s l).2.1.length ≤ l.length + c
 | 0, s, l, hs, hl => ⟨hl, Nat.le_refl _⟩
 | c + 1, s, l, hs, hl => by
  unfold outsS
  split
  ·exact ⟨hl, by dsimp only; omega⟩
  ·have h0 := outS_le s
   have k1 := strS_len s
   have k3 := strS_le s
   obtain ⟨h1, h2⟩ := outs_in c (outS s).1 (l ++ [(outS s).2]) (by omega) (fun x hx => by
    rcases List.mem_append.1 hx with hx | hx
    ·exact hl x hx
    ·rw [List.mem_singleton.1 hx]
     unfold outS
     dsimp only
     exact ⟨by omega, value_lens _ (by omega)⟩)
   refine ⟨h1, ?_⟩
   rw [List.length_append, List.length_singleton] at h2; omega
theorem state_in (ver : Int) (s : Rs) (hs : s.r.rest.length ≤ 2000000) : AX.Sf.StIn (stateS ver s).2 := by
 have e1 := strS_le s
 have e2 := numS_le (strS s).1
 have e3 := cntS_le (numS (strS s).1).1
 have e4 := cntS_cnt (numS (strS s).1).1
 have l1 := strS_len s
 obtain ⟨i1, i2, i3⟩ := insts_in ver (cntS (numS (strS s).1).1).2 (cntS (numS (strS s).1).1).1 [] (by omega) (by simp)
 unfold stateS
 dsimp only
 generalize instsS ver (cntS (numS (strS s).1).1).2 (cntS (numS (strS s).1).1).1 [] = I at i1 i2 i3
 rw [List.length_nil] at i2
 split
 ·exact ⟨by dsimp only; omega, i1, by simp, by simp, by dsimp only; omega, by simp, by simp⟩
 ·have hP : ∃ P : Rs × List Pend, (if ver = 2 then pendsS (cntS I.1).2 (cntS I.1).1 [] else (I.1, [])) = P ∧ P.1.r.rest.length ≤ 2000000 ∧ (∀ x ∈ P.2, x.addr.length ≤ 2000000 ∧ x.tok.length ≤ 2000000) ∧ P.2.length ≤ 2000000 := by
   have c1 := cntS_le I.1
   have c2 := cntS_cnt I.1
   by_cases hv : ver = 2
   ·rw [if_pos hv]
    obtain ⟨p1, p2, p3⟩ := pends_in (cntS I.1).2 (cntS I.1).1 [] (by omega) (by simp)
    exact ⟨_, rfl, by omega, p1, by rw [p2, List.length_nil]; omega⟩
   ·rw [if_neg hv]
    exact ⟨_, rfl, by dsimp only; omega, by simp, by simp⟩
  obtain ⟨P, hP, p1, p2, p3⟩ := hP
  rw [hP]
  have c1 := cntS_le P.1
  have c2 := cntS_cnt P.1
  obtain ⟨o1, o2⟩ := outs_in (cntS P.1).2 (cntS P.1).1 [] (by omega) (by simp)
  rw [List.length_nil] at o2
  exact ⟨by dsimp only; omega, i1, p2, o1, by dsimp only; omega, by dsimp only; omega, by dsimp only; omega⟩
theorem insts_zero : ∀ (l : List Inst) (p : Option Inst), instsZ p l = 0 → ∀ x ∈ l, instZ x = 0
 | [], _, _ => by simp
 | x :: l, p, h => by
  unfold instsZ at h
  by_cases h1 : instZ x = 0
  rotate_left
  ·rw [if_pos h1] at h; exact absurd h h1
  ·rw [if_neg (by simp [h1])] at h
   have h' : instsZ (some x) l = 0 := by
    cases p with
    | none => simpa using h
    | some y =>
     dsimp only at h
     cases hb : behind y x
     ·simp [hb] at h
     ·simpa [hb] using h
   ·intro y hy
    rcases List.mem_cons.1 hy with rfl | hy
    ·exact h1
    ·exact insts_zero l _ h' y hy
theorem outs_zero : ∀ (l : List Outp) (p : Option (List UInt8)), outsZ p l = 0 → ∀ x ∈ l, outZ x = 0
 | [], _, _ => by simp
 | x :: l, p, h => by
  unfold outsZ at h
  split at h
  ·next h1 => exact absurd h h1
  ·next h1 =>
   split at h
   ·simp at h
   ·intro y hy
    rcases List.mem_cons.1 hy with rfl | hy
    ·simpa using h1
    ·exact outs_zero l _ h y hy
theorem inst_zero {x : Inst} (h : instZ x = 0) : Val.checkZ x.attrs = 0 ∧ 1 ≤ x.ver ∧ x.ver ≤ 9007199254740992 := by
 unfold instZ at h
 split at h
 ·simp at h
 ·split at h
  ·next h1 => exact absurd h h1
  ·next h1 =>
   split at h
   ·simp at h
   ·split at h
    ·simp at h
    ·split at h
     ·simp at h
     ·next h2 => exact ⟨by simpa using h1, by omega, by omega⟩
theorem out_zero {x : Outp} (h : outZ x = 0) : Val.checkZ x.value = 0 := by
 unfold outZ at h
 split at h
 ·simp at h
 ·split at h
  ·next h1 => exact absurd h h1
  ·next h1 => simpa using h1
theorem check_parts {s : St} (h : checkZ s = 0) : 0 ≤ s.ser ∧ s.ser ≤ 9007199254740992 ∧ s.insts.length ≤ 512 ∧ s.pends.length ≤ 512 ∧ s.outs.length ≤ 512 ∧ instsZ none s.insts = 0 ∧ pendsZ none s.pends = 0 ∧ outsZ none s.outs = 0 := by
 unfold checkZ at h
 split at h
 ·simp at h
 ·split at h
  ·simp at h
  ·split at h
   ·simp at h
   ·split at h
    ·next h1 => exact absurd h h1
    ·split at h
     ·next h1 => exact absurd h h1
     ·next h1 h2 h3 h4 h5 => exact ⟨by omega, by omega, by omega, by omega, by omega, by simpa using h4, by simpa using h5, h⟩
theorem stOk_of {s : St} (h : checkZ s = 0) (hin : AX.Sf.StIn s) : AX.Sf.StOk s := by
 obtain ⟨h1, h2, h3, h4, h5, h6, h7, h8⟩ := check_parts h
 refine ⟨fun x hx => ?_, fun x hx => ?_, by omega, by omega, by omega, by omega, by omega⟩
 ·obtain ⟨k1, k2, k3⟩ := inst_zero (insts_zero _ _ h6 x hx)
  exact ⟨⟨1, 0, k1⟩, (hin.insts x hx).l, by omega, by omega⟩
 ·exact ⟨⟨1, 0, out_zero (outs_zero _ _ h8 x hx)⟩, (hin.outs x hx).2⟩
end Sf
end Go.Proofs.YtnjkemakcejceaaGreatDoor

namespace Go.Proofs.YtnjkemakcejceaaGreatDoor
namespace Sf
def rd (l : List UInt8) : Rs := ⟨⟨l, 0⟩, false⟩
theorem rd_ok (l : List UInt8) : (rd l).fails = false := rfl
theorem num_enc (n : Int) (l : List UInt8) (h0 : -9223372036854775808 ≤ n) (h1 : n ≤ 9223372036854775807) : numS (rd (Wire.num n ++ l)) = (rd l, n) := by
 unfold numS rd
 rw [Val.numR_enc n l h0 h1]
theorem str_enc (s l : List UInt8) (h : s.length ≤ 9223372036854775807) : strS (rd (Wire.strE s ++ l)) = (rd l, s) := by
 unfold strS rd
 rw [Val.strR_enc s l h]
theorem cnt_enc (n : Nat) (l : List UInt8) (h : n ≤ l.length) (h1 : n ≤ 9223372036854775807) : cntS (rd (Wire.num n ++ l)) = (rd l, n) := by
 unfold cntS rd
 rw [Val.cntR_enc n l h h1]
theorem flag_enc (b : Bool) (l : List UInt8) : flagS (rd (flagE b ++ l)) = (rd l, b) := by
 unfold flagS rd flagE
 cases b
 ·rw [if_neg (by decide), Val.numR_enc 0 l (by decide) (by decide)]; rfl
 ·rw [if_pos rfl, Val.numR_enc 1 l (by decide) (by decide)]; rfl
theorem value_enc (v : V) (l : List UInt8) (h : Val.checkZ v = 0) : valueS (rd (Val.enc v ++ l)) = (rd l, v) := by
 unfold valueS rd
 rw [Val.value_back v l h]
 rfl
theorem words_enc : ∀ (ws acc : List (List UInt8)) (l : List UInt8), (∀ w ∈ ws, w.length ≤ 2000000) → wordsS ws.length (rd (wordsE ws ++ l)) acc = (rd l, acc ++ ws)
 | [], acc, l, h => by simp [wordsS, wordsE]
 | w :: ws, acc, l, h => by
  have e : wordsE (w :: ws) ++ l = Wire.strE w ++ (wordsE ws ++ l) := by simp [wordsE, List.append_assoc]
  show wordsS ws.length (strS (rd (wordsE (w :: ws) ++ l))).1 (acc ++ [(strS (rd (wordsE (w :: ws) ++ l))).2]) = _
  rw [e, str_enc _ _ (by have := h w List.mem_cons_self; omega)]
  rw [words_enc ws _ l fun x hx => h x (List.mem_cons_of_mem _ hx)]
  simp
theorem strE_pos (s : List UInt8) : 1 ≤ (Wire.strE s).length := by
 have := Val.num_len s.length
 unfold Wire.strE
 rw [List.length_append]; omega
theorem flat_len {α : Type} (f : α → List UInt8) (hf : ∀ x, 1 ≤ (f x).length) : ∀ l : List α, l.length ≤ (l.flatMap f).length
 | [] => by simp
 | x :: l => by
  have := hf x
  have := flat_len f hf l
  rw [List.flatMap_cons, List.length_append, List.length_cons]; omega
def oldI (ver : Int) (x : Inst) : Inst := if ver = 2 then x else { x with first := false }
theorem inst_enc (ver : Int) (x : Inst) (l : List UInt8) (hx : AX.Sf.InstIn x) (ht : x.typ.length ≤ 2000000) (hz : instZ x = 0) : instS ver (rd (instE ver x ++ l)) = (rd l, oldI ver x) := by
 obtain ⟨h1, h2, h3⟩ := inst_zero hz
 obtain ⟨ad, dep, id, typ, at', v, ta, fi, ds⟩ := x
 have ha := hx.a; have hd := hx.d; have hi := hx.i; have hn := hx.n; have hs := hx.ds
 dsimp only at h1 h2 h3 ha hd hi hn hs ht
 have e : instE ver ⟨ad, dep, id, typ, at', v, ta, fi, ds⟩ ++ l = Wire.strE ad ++ (Wire.strE dep ++ (Wire.strE id ++ (Wire.strE typ ++ (Val.enc at' ++ (Wire.num v ++ (flagE ta ++ ((if ver = 2 then flagE fi else []) ++ (Wire.num ds.length ++ (wordsE ds ++ l))))))))) := by
  unfold instE
  simp only [List.append_assoc]
 have hc : ds.length ≤ (wordsE ds ++ l).length := by
  have := flat_len Wire.strE strE_pos ds
  unfold wordsE
  rw [List.length_append]; omega
 rw [e]
 unfold instS
 dsimp only
 rw [str_enc ad _ (by omega)]
 dsimp only
 rw [str_enc dep _ (by omega)]
 dsimp only
 rw [str_enc id _ (by omega)]
 dsimp only
 rw [str_enc typ _ (by omega)]
 dsimp only
 rw [value_enc at' _ h1]
 dsimp only
 rw [num_enc v _ (by omega) (by omega)]
 dsimp only
 rw [flag_enc ta]
 dsimp only
 by_cases hv : ver = 2
 ·subst hv
  simp only [if_true]
  rw [flag_enc fi]
  dsimp only
  rw [cnt_enc _ _ hc (by omega)]
  dsimp only
  rw [words_enc ds [] l hs]
  simp [oldI]
 ·simp only [if_neg hv, List.nil_append]
  rw [cnt_enc _ _ hc (by omega)]
  dsimp only
  rw [words_enc ds [] l hs]
  simp [oldI, hv]
theorem pend_enc (p : Pend) (l : List UInt8) (ha : p.addr.length ≤ 2000000) (ht : p.typ.length ≤ 2000000) (hk : p.tok.length ≤ 2000000) : pendS (rd (pendE p ++ l)) = (rd l, p) := by
 obtain ⟨a, t, k⟩ := p
 dsimp only at ha ht hk
 have e : pendE ⟨a, t, k⟩ ++ l = Wire.strE a ++ (Wire.strE t ++ (Wire.strE k ++ l)) := by unfold pendE; simp only [List.append_assoc]
 rw [e]
 unfold pendS
 dsimp only
 rw [str_enc a _ (by omega)]
 dsimp only
 rw [str_enc t _ (by omega)]
 dsimp only
 rw [str_enc k _ (by omega)]
theorem out_enc (o : Outp) (l : List UInt8) (hn : o.name.length ≤ 2000000) (hz : outZ o = 0) : outS (rd (outE o ++ l)) = (rd l, o) := by
 have h1 := out_zero hz
 obtain ⟨n, v, b⟩ := o
 dsimp only at hn h1
 have e : outE ⟨n, v, b⟩ ++ l = Wire.strE n ++ (Val.enc v ++ (flagE b ++ l)) := by unfold outE; simp only [List.append_assoc]
 rw [e]
 unfold outS
 dsimp only
 rw [str_enc n _ (by omega)]
 dsimp only
 rw [value_enc v _ h1]
 dsimp only
 rw [flag_enc b]
theorem insts_enc (ver : Int) : ∀ (xs acc : List Inst) (l : List UInt8), (∀ x ∈ xs, AX.Sf.InstIn x ∧ x.typ.length ≤ 2000000 ∧ instZ x = 0) → instsS ver xs.length (rd (xs.flatMap (instE ver) ++ l)) acc = (rd l, acc ++ xs.map (oldI ver), true)
 | [], acc, l, h => by simp [instsS]
 | x :: xs, acc, l, h => by
  obtain ⟨h1, h2, h3⟩ := h x List.mem_cons_self
  rw [List.length_cons, List.flatMap_cons, List.append_assoc]
  unfold instsS
  rw [if_neg (by rw [rd_ok]; decide), inst_enc ver x _ h1 h2 h3]
  dsimp only
  rw [insts_enc ver xs _ l fun y hy => h y (List.mem_cons_of_mem _ hy)]
  simp
theorem pends_enc : ∀ (xs acc : List Pend) (l : List UInt8), (∀ x ∈ xs, x.addr.length ≤ 2000000 ∧ x.typ.length ≤ 2000000 ∧ x.tok.length ≤ 2000000) → pendsS xs.length (rd (xs.flatMap pendE ++ l)) acc = (rd l, acc ++ xs)
 | [], acc, l, h => by simp [pendsS]
 | x :: xs, acc, l, h => by
  obtain ⟨h1, h2, h3⟩ := h x List.mem_cons_self
  rw [List.length_cons, List.flatMap_cons, List.append_assoc]
  unfold pendsS
  rw [pend_enc x _ h1 h2 h3]
  dsimp only
  rw [pends_enc xs _ l fun y hy => h y (List.mem_cons_of_mem _ hy)]
  simp
theorem outs_enc : ∀ (xs acc : List Outp) (l : List UInt8), (∀ x ∈ xs, x.name.length ≤ 2000000 ∧ outZ x = 0) → outsS xs.length (rd (xs.flatMap outE ++ l)) acc = (rd l, acc ++ xs, true)
 | [], acc, l, h => by simp [outsS]
 | x :: xs, acc, l, h => by
  obtain ⟨h1, h2⟩ := h x List.mem_cons_self
  rw [List.length_cons, List.flatMap_cons, List.append_assoc]
  unfold outsS
  rw [if_neg (by rw [rd_ok]; decide), out_enc x _ h1 h2]
  dsimp only
  rw [outs_enc xs _ l fun y hy => h y (List.mem_cons_of_mem _ hy)]
  simp
theorem instE_pos (ver : Int) (x : Inst) : 1 ≤ (instE ver x).length := by
 have := strE_pos x.addr
 unfold instE
 simp only [List.length_append]; omega
theorem pendE_pos (x : Pend) : 1 ≤ (pendE x).length := by
 have := strE_pos x.addr
 unfold pendE
 simp only [List.length_append]; omega
theorem outE_pos (x : Outp) : 1 ≤ (outE x).length := by
 have := strE_pos x.name
 unfold outE
 simp only [List.length_append]; omega
structure TypIn (s : St) : Prop where
 insts : ∀ x ∈ s.insts, x.typ.length ≤ 2000000
 pends : ∀ x ∈ s.pends, x.typ.length ≤ 2000000
def oldS (ver : Int) (s : St) : St := if ver = 2 then s else { s with insts := s.insts.map (oldI ver), pends := [] }
theorem oldI_two : oldI 2 = id := by funext x; simp [oldI]
theorem state_enc (ver : Int) (s : St) (l : List UInt8) (hz : checkZ s = 0) (hin : AX.Sf.StIn s) (ht : TypIn s) : stateS ver (rd (restE ver s ++ l)) = (rd l, oldS ver s) := by
 obtain ⟨h1, h2, h3, h4, h5, h6, h7, h8⟩ := check_parts hz
 obtain ⟨lin, ser, ins, ps, os⟩ := s
 have hl := hin.lin; have hi := hin.insts; have hp := hin.pends; have ho := hin.outs
 have ti := ht.insts; have tp := ht.pends
 dsimp only at h1 h2 h3 h4 h5 h6 h7 h8 hl hi hp ho ti tp
 have e : restE ver ⟨lin, ser, ins, ps, os⟩ ++ l = Wire.strE lin ++ (Wire.num ser ++ (Wire.num ins.length ++ (ins.flatMap (instE ver) ++ ((if ver = 2 then Wire.num ps.length ++ ps.flatMap pendE else []) ++ (Wire.num os.length ++ (os.flatMap outE ++ l)))))) := by
  unfold restE
  simp only [List.append_assoc]
 have li := flat_len (instE ver) (instE_pos ver) ins
 have lp := flat_len pendE pendE_pos ps
 have lo := flat_len outE outE_pos os
 rw [e]
 unfold stateS
 dsimp only
 rw [str_enc lin _ (by omega)]
 dsimp only
 rw [num_enc ser _ (by omega) (by omega)]
 dsimp only
 rw [cnt_enc ins.length _ (by rw [List.length_append]; omega) (by omega)]
 dsimp only
 rw [insts_enc ver ins [] _ fun x hx => ⟨hi x hx, ti x hx, insts_zero _ _ h6 x hx⟩]
 dsimp only
 rw [if_neg (by decide)]
 by_cases hv : ver = 2
 ·subst hv
  simp only [if_true, List.append_assoc]
  rw [cnt_enc ps.length _ (by rw [List.length_append]; omega) (by omega)]
  dsimp only
  rw [pends_enc ps [] _ fun x hx => ⟨(hp x hx).1, tp x hx, (hp x hx).2⟩]
  dsimp only
  rw [cnt_enc os.length _ (by rw [List.length_append]; omega) (by omega)]
  dsimp only
  rw [outs_enc os [] l fun x hx => ⟨(ho x hx).1, outs_zero _ _ h8 x hx⟩]
  simp [oldS, oldI_two]
 ·simp only [if_neg hv, List.nil_append]
  rw [cnt_enc os.length _ (by rw [List.length_append]; omega) (by omega)]
  dsimp only
  have := outs_enc os [] l fun x hx => ⟨(ho x hx).1, outs_zero _ _ h8 x hx⟩
  rw [this]
  simp [oldS, hv]
theorem instsZ_old (ver : Int) : ∀ (l : List Inst) (p : Option Inst), instsZ (p.map (oldI ver)) (l.map (oldI ver)) = instsZ p l
 | [], p => by cases p <;> rfl
 | x :: l, p => by
  have hx : instZ (oldI ver x) = instZ x := by unfold oldI; split <;> rfl
  have hb : ∀ y, behind (oldI ver y) (oldI ver x) = behind y x := fun y => by unfold oldI; split <;> rfl
  have ih := instsZ_old ver l (some x)
  rw [List.map_cons]
  unfold instsZ
  rw [hx, show instsZ (some (oldI ver x)) (l.map (oldI ver)) = instsZ (some x) l from ih]
  cases p with
  | none => rfl
  | some y => simp only [Option.map_some, hb]
theorem check_old (ver : Int) (s : St) (hz : checkZ s = 0) : checkZ (oldS ver s) = 0 := by
 unfold oldS
 split
 ·exact hz
 ·obtain ⟨lin, ser, ins, ps, os⟩ := s
  obtain ⟨h1, h2, h3, h4, h5, h6, h7, h8⟩ := check_parts hz
  have ht : text lin = true := by
   cases h : text lin with
   | true => rfl
   | false => unfold checkZ at hz; simp [h] at hz
  dsimp only at h1 h2 h3 h4 h5 h6 h7 h8
  have e := instsZ_old ver ins none
  rw [h6] at e
  have e' : instsZ none (ins.map (oldI ver)) = 0 := e
  unfold checkZ
  simp only [ht, e', h8, pendsZ, List.length_map, List.length_nil]
  rw [if_neg (by decide), if_neg (by omega), if_neg (by omega)]
  simp
theorem decode_enc (ver : Int) (hv : ver = 1 ∨ ver = 2) (s : St) (hz : checkZ s = 0) (hin : AX.Sf.StIn s) (ht : TypIn s) (hl : (stE ver s).length ≤ 1048572) : encode ver s = (Crc.app (stE ver s), 0) ∧ decode (Crc.app (stE ver s)) = (oldS ver s, 0) := by
 refine ⟨by unfold encode; rw [if_neg (by simp [hz]), if_neg (by omega)], ?_⟩
 have happ : Crc.app (stE ver s) = stE ver s ++ (Crc.app (stE ver s)).drop (stE ver s).length := by
  unfold Crc.app; simp
 have hlen : (Crc.app (stE ver s)).length = (stE ver s).length + 4 := by
  unfold Crc.app; simp [Crc.four_length]
 have hm : ∀ t : List UInt8, AX.preB (stE ver s ++ t) = true := fun t => by
  rw [stE_rest]
  unfold AX.preB
  simp [magic, AX.magic]
 have hvb : AX.versionS (stE ver s) = (ver, 0) := by
  have h0 : AX.preB (stE ver s) = true := by have := hm []; rwa [List.append_nil] at this
  unfold AX.versionS
  rw [h0, if_neg (by decide), stE_rest]
  have hd : (magic ++ Wire.num ver ++ restE ver s).drop 4 = Wire.num ver ++ restE ver s := by simp [magic]
  rw [hd, Val.numR_enc ver _ (by omega) (by omega)]
  dsimp only
  rw [if_neg (by simp), if_neg (by omega)]
 have hdr : (Wire.numR ⟨(stE ver s).drop 4, 0⟩).1 = ⟨restE ver s, 0⟩ := by
  rw [stE_rest]
  have hd : (magic ++ Wire.num ver ++ restE ver s).drop 4 = Wire.num ver ++ restE ver s := by simp [magic]
  rw [hd, Val.numR_enc ver _ (by omega) (by omega)]
 have hst := state_enc ver s [] hz hin ht
 rw [List.append_nil] at hst
 unfold decode
 rw [if_neg (by omega), if_neg (by rw [happ, hm]; decide), ver_app]
 dsimp only
 rw [if_neg (by simp), hvb]
 dsimp only
 rw [if_neg (by simp), hdr]
 rw [show (⟨⟨restE ver s, 0⟩, false⟩ : Rs) = rd (restE ver s) from rfl, hst]
 dsimp only
 rw [if_neg (by simp [rd, Rs.fails, check_old ver s hz])]
end Sf
end Go.Proofs.YtnjkemakcejceaaGreatDoor

namespace Go.Proofs.YtnjkemakcejceaaGreatDoor
open Go.RowKit Go.ChangeShapes Go.WideShapes
theorem list_of_ {α : Type} {f : α → D} {Q : α → Prop} : ∀ l : List D, (∀ d ∈ l, ∃ x, d = f x ∧ Q x) → ∃ xs : List α, l = xs.map f ∧ ∀ x ∈ xs, Q x
 | [], h => ⟨[], rfl, by simp⟩
 | d :: l, h => by
  obtain ⟨x, rfl, hx⟩ := h d (by simp)
  obtain ⟨xs, rfl, hxs⟩ := list_of_ l fun d hd => h d (by simp [hd])
  exact ⟨x :: xs, rfl, List.forall_mem_cons.2 ⟨hx, hxs⟩⟩
namespace Sf
def Inst.toD (x : Inst) : D := .agg [.str x.addr, .str x.dep, .str x.id, .str x.typ, x.attrs.toD, .int .i64 x.ver, .bool x.tainted, .bool x.first, .sl 1 (x.deps.map .str)]
def Pend.toD (p : Pend) : D := .agg [.str p.addr, .str p.typ, .str p.tok]
def Outp.toD (o : Outp) : D := .agg [.str o.name, o.value.toD, .bool o.sens]
def St.toD (s : St) : D := .agg [.str s.lin, .int .i64 s.ser, .sl 13 (s.insts.map Inst.toD), .sl 3 (s.pends.map Pend.toD), .sl 7 (s.outs.map Outp.toD)]
structure St.Wf (s : St) : Prop where
 insts : ∀ x ∈ s.insts, x.attrs.Wf
 outs : ∀ x ∈ s.outs, x.value.Wf
 ser : (Lit.int .i64 s.ser).wf = true
theorem Inst.cells_toD (x : Inst) : x.toD.cells = x.cells := by
 obtain ⟨a, d, i, t, ⟨k, n, s, is, ks⟩, v, tn, fi, ds⟩ := x
 unfold Inst.toD Inst.cells
 simp only [D.cells, D.cellsL, V.cells_toD, V.cells, strs_rows, List.cons_append, List.nil_append, List.append_nil]
theorem Pend.cells_toD (x : Pend) : x.toD.cells = x.cells := by
 unfold Pend.toD Pend.cells
 simp only [D.cells, D.cellsL, List.cons_append, List.nil_append, List.append_nil]
theorem Outp.cells_toD (x : Outp) : x.toD.cells = x.cells := by
 obtain ⟨m, ⟨k, n, s, is, ks⟩, b⟩ := x
 unfold Outp.toD Outp.cells
 simp only [D.cells, D.cellsL, V.cells_toD, V.cells, strs_rows, List.cons_append, List.nil_append, List.append_nil]
theorem rows_map {α : Type} (f : α → D) (g : α → List AX.A) (h : ∀ x, (f x).cells = g x) : ∀ l : List α, D.rows (l.map f) = l.map g
 | [] => by simp [D.rows]
 | x :: l => by simp only [List.map_cons, D.rows, h, rows_map f g h l]
theorem St.cells_toD (s : St) : AX.A.agg s.toD.cells = s.A := by
 unfold St.toD St.A
 simp only [D.cells, D.cellsL, rows_map _ _ Inst.cells_toD, rows_map _ _ Pend.cells_toD, rows_map _ _ Outp.cells_toD, List.cons_append, List.nil_append, List.append_nil]
set_option maxRecDepth 100000 in
theorem conf_inst {d : D} (h : Conf Tryz.prog d 42) : ∃ x : Inst, d = x.toD ∧ x.attrs.Wf := by
 obtain ⟨l', rfl, h2⟩ := conf_struct Tryz.underlying42 h
 obtain ⟨d0, l1, rfl, c0, h2⟩ := confL_cons h2
 obtain ⟨d1, l2, rfl, c1, h2⟩ := confL_cons h2
 obtain ⟨d2, l3, rfl, c2, h2⟩ := confL_cons h2
 obtain ⟨d3, l4, rfl, c3, h2⟩ := confL_cons h2
 obtain ⟨d4, l5, rfl, c4, h2⟩ := confL_cons h2
 obtain ⟨d5, l6, rfl, c5, h2⟩ := confL_cons h2
 obtain ⟨d6, l7, rfl, c6, h2⟩ := confL_cons h2
 obtain ⟨d7, l8, rfl, c7, h2⟩ := confL_cons h2
 obtain ⟨d8, l9, rfl, c8, h2⟩ := confL_cons h2
 obtain rfl := confL_nil h2
 obtain ⟨a, rfl, _⟩ := conf_str Tryz.underlying9 c0
 obtain ⟨b, rfl, _⟩ := conf_str Tryz.underlying9 c1
 obtain ⟨c, rfl, _⟩ := conf_str Tryz.underlying9 c2
 obtain ⟨e, rfl, _⟩ := conf_str Tryz.underlying9 c3
 obtain ⟨v, rfl, hv⟩ := conf_val c4
 obtain ⟨n, rfl, _⟩ := conf_int (k := .i64) Tryz.underlying3 c5
 obtain ⟨t, rfl⟩ := conf_bool Tryz.underlying4 c6
 obtain ⟨f, rfl⟩ := conf_bool Tryz.underlying4 c7
 obtain ⟨l4, rfl, c9, _⟩ := conf_slice Tryz.underlying38 c8
 obtain ⟨ks, rfl, _⟩ := conf_strs Tryz.underlying9 l4 c9
 have hw : Tryz.prog.cellsOf 9 = 1 := by kernel_rfl
 rw [hw]
 exact ⟨⟨a, b, c, e, v, n, t, f, ks⟩, rfl, hv⟩
set_option maxRecDepth 100000 in
theorem conf_pend {d : D} (h : Conf Tryz.prog d 95) : ∃ x : Pend, d = x.toD ∧ True := by
 obtain ⟨l', rfl, h2⟩ := conf_struct Tryz.underlying95 h
 obtain ⟨d0, l1, rfl, c0, h2⟩ := confL_cons h2
 obtain ⟨d1, l2, rfl, c1, h2⟩ := confL_cons h2
 obtain ⟨d2, l3, rfl, c2, h2⟩ := confL_cons h2
 obtain rfl := confL_nil h2
 obtain ⟨a, rfl, _⟩ := conf_str Tryz.underlying9 c0
 obtain ⟨b, rfl, _⟩ := conf_str Tryz.underlying9 c1
 obtain ⟨c, rfl, _⟩ := conf_str Tryz.underlying9 c2
 exact ⟨⟨a, b, c⟩, rfl, trivial⟩
set_option maxRecDepth 100000 in
theorem conf_outp {d : D} (h : Conf Tryz.prog d 98) : ∃ x : Outp, d = x.toD ∧ x.value.Wf := by
 obtain ⟨l', rfl, h2⟩ := conf_struct Tryz.underlying98 h
 obtain ⟨d0, l1, rfl, c0, h2⟩ := confL_cons h2
 obtain ⟨d1, l2, rfl, c1, h2⟩ := confL_cons h2
 obtain ⟨d2, l3, rfl, c2, h2⟩ := confL_cons h2
 obtain rfl := confL_nil h2
 obtain ⟨a, rfl, _⟩ := conf_str Tryz.underlying9 c0
 obtain ⟨v, rfl, hv⟩ := conf_val c1
 obtain ⟨t, rfl⟩ := conf_bool Tryz.underlying4 c2
 exact ⟨⟨a, v, t⟩, rfl, hv⟩
set_option maxRecDepth 100000 in
theorem conf_st {d : D} (h : Conf Tryz.prog d 26) : ∃ x : St, d = x.toD ∧ x.Wf := by
 obtain ⟨l', rfl, h2⟩ := conf_struct Tryz.underlying26 h
 obtain ⟨d0, l1, rfl, c0, h2⟩ := confL_cons h2
 obtain ⟨d1, l2, rfl, c1, h2⟩ := confL_cons h2
 obtain ⟨d2, l3, rfl, c2, h2⟩ := confL_cons h2
 obtain ⟨d3, l4, rfl, c3, h2⟩ := confL_cons h2
 obtain ⟨d4, l5, rfl, c4, h2⟩ := confL_cons h2
 obtain rfl := confL_nil h2
 obtain ⟨a, rfl, _⟩ := conf_str Tryz.underlying9 c0
 obtain ⟨n, rfl, hn⟩ := conf_int (k := .i64) Tryz.underlying3 c1
 obtain ⟨l2, rfl, k2, _⟩ := conf_slice Tryz.underlying22 c2
 obtain ⟨l3, rfl, k3, _⟩ := conf_slice Tryz.underlying23 c3
 obtain ⟨l4, rfl, k4, _⟩ := conf_slice Tryz.underlying24 c4
 obtain ⟨xs, rfl, hx⟩ := list_of_ l2 fun d hd => conf_inst (confA_mem k2 d hd)
 obtain ⟨ps, rfl, _⟩ := list_of_ l3 fun d hd => conf_pend (confA_mem k3 d hd)
 obtain ⟨os, rfl, ho⟩ := list_of_ l4 fun d hd => conf_outp (confA_mem k4 d hd)
 have hw1 : Tryz.prog.cellsOf 42 = 13 := by kernel_rfl
 have hw2 : Tryz.prog.cellsOf 95 = 3 := by kernel_rfl
 have hw3 : Tryz.prog.cellsOf 98 = 7 := by kernel_rfl
 rw [hw1, hw2, hw3]
 exact ⟨⟨a, n, xs, ps, os⟩, rfl, hx, ho, hn⟩
end Sf
end Go.Proofs.YtnjkemakcejceaaGreatDoor

namespace Go.Proofs.YtnjkemakcejceaaGreatDoor
open Go.RowKit Go.ChangeShapes Go.WideShapes
theorem strs_bulk : ∀ ks : List (List UInt8), ks.length ≤ D.bulks (ks.map .str) ∧ ∀ s ∈ ks, s.length + 1 ≤ D.bulks (ks.map .str)
 | [] => by simp
 | k :: ks => by
  obtain ⟨h1, h2⟩ := strs_bulk ks
  rw [List.map_cons, D.bulks, D.bulk]
  refine ⟨by simp only [List.length_cons]; omega, fun s hs => ?_⟩
  rcases List.mem_cons.1 hs with rfl | hs
  ·omega
  ·have := h2 s hs; omega
theorem num10 (n : Int) : (Wire.num n).length ≤ 10 := (Wire.encF_len 9 (Wire.zig n)).2
theorem strE10 (s : List UInt8) : (Wire.strE s).length ≤ 10 + s.length := by
 unfold Wire.strE
 rw [List.length_append]
 have := num10 (s.length : Int)
 omega
theorem bulk_pos (d : D) : 1 ≤ d.bulk := by cases d <;> rw [D.bulk] <;> omega
mutual
theorem enc_bulk : ∀ v : V, (Val.enc v).length ≤ 30 * v.toD.bulk
 | .mk k n s is ks => by
  have h1 := encs_bulk (k == 5) is ks
  have n1 := num10 k
  have n2 := num10 n
  have n3 := strE10 s
  have n4 := num10 (is.length : Int)
  rw [Val.enc, V.toD, D.bulk, D.bulks, D.bulks, D.bulks, D.bulks, D.bulks, D.bulks, D.bulk, D.bulk, D.bulk, D.bulk, D.bulk, List.length_append]
  split
  ·omega
  ·split
   ·omega
   ·split
    ·rw [List.length_append]; omega
    ·simp only [List.length_nil]; omega
theorem encs_bulk : ∀ (m : Bool) (l : List V) (ks : List (List UInt8)), (Val.encs m l ks).length ≤ 30 * (D.bulks (V.toDs l) + D.bulks (ks.map .str))
 | m, [], ks => by rw [Val.encs]; simp
 | m, v :: l, ks => by
  have h1 := enc_bulk v
  have hp := bulk_pos v.toD
  rw [Val.encs, V.toDs, D.bulks, List.length_append, List.length_append]
  cases ks with
  | nil =>
   have h2 := encs_bulk m l ([] : List (List UInt8)).tail
   have : (Val.keyE m []).length = 0 := by cases m <;> rfl
   simp only [List.tail_nil] at h2 ⊢
   omega
  | cons k ks =>
   have h2 := encs_bulk m l (k :: ks).tail
   have h3 : (Val.keyE m (k :: ks)).length ≤ 10 + k.length := by
    cases m
    ·simp [Val.keyE]
    ·exact strE10 k
   rw [List.tail_cons] at h2
   rw [List.map_cons, D.bulks, D.bulk, List.tail_cons]
   omega
end
theorem flat_bulk {α : Type} (f : α → List UInt8) (g : α → D) (h : ∀ x, (f x).length ≤ 30 * (g x).bulk) : ∀ l : List α, (l.flatMap f).length ≤ 30 * D.bulks (l.map g)
 | [] => by simp
 | x :: l => by
  have := h x
  have := flat_bulk f g h l
  rw [List.flatMap_cons, List.map_cons, D.bulks, List.length_append]
  omega
theorem map_bulk {α : Type} (g : α → D) : ∀ l : List α, l.length ≤ D.bulks (l.map g) ∧ ∀ x ∈ l, (g x).bulk ≤ D.bulks (l.map g)
 | [] => by simp
 | x :: l => by
  obtain ⟨h1, h2⟩ := map_bulk g l
  have := bulk_pos (g x)
  rw [List.map_cons, D.bulks]
  refine ⟨by simp only [List.length_cons]; omega, fun y hy => ?_⟩
  rcases List.mem_cons.1 hy with rfl | hy
  ·omega
  ·have := h2 y hy; omega
namespace Sf
theorem flag10 (b : Bool) : (flagE b).length ≤ 10 := num10 _
theorem instE_bulk (ver : Int) (x : Inst) : (instE ver x).length ≤ 30 * x.toD.bulk := by
 have a1 := strE10 x.addr
 have a2 := strE10 x.dep
 have a3 := strE10 x.id
 have a4 := strE10 x.typ
 have a5 := enc_bulk x.attrs
 have a6 := num10 x.ver
 have a7 := flag10 x.tainted
 have a8 : (if ver = 2 then flagE x.first else []).length ≤ 10 := by
  split
  ·exact flag10 _
  ·simp
 have a9 := num10 (x.deps.length : Int)
 have a10 := flat_bulk Wire.strE D.str (fun s => by rw [D.bulk]; have := strE10 s; omega) x.deps
 unfold instE wordsE Inst.toD
 simp only [List.length_append, D.bulk, D.bulks]
 omega
theorem pendE_bulk (x : Pend) : (pendE x).length ≤ 30 * x.toD.bulk := by
 have a1 := strE10 x.addr
 have a2 := strE10 x.typ
 have a3 := strE10 x.tok
 unfold pendE Pend.toD
 simp only [List.length_append, D.bulk, D.bulks]
 omega
theorem outE_bulk (x : Outp) : (outE x).length ≤ 30 * x.toD.bulk := by
 have a1 := strE10 x.name
 have a2 := enc_bulk x.value
 have a3 := flag10 x.sens
 unfold outE Outp.toD
 simp only [List.length_append, D.bulk, D.bulks]
 omega
theorem stE_bulk (ver : Int) (s : St) : (stE ver s).length ≤ 30 * s.toD.bulk := by
 have a0 : magic.length = 4 := rfl
 have a1 := num10 ver
 have a2 := strE10 s.lin
 have a3 := num10 s.ser
 have a4 := num10 (s.insts.length : Int)
 have a5 := flat_bulk (instE ver) Inst.toD (instE_bulk ver) s.insts
 have a6 : (if ver = 2 then Wire.num s.pends.length ++ s.pends.flatMap pendE else []).length ≤ 10 + 30 * D.bulks (s.pends.map Pend.toD) := by
  have b1 := num10 (s.pends.length : Int)
  have b2 := flat_bulk pendE Pend.toD pendE_bulk s.pends
  split
  ·rw [List.length_append]; omega
  ·simp
 have a7 := num10 (s.outs.length : Int)
 have a8 := flat_bulk outE Outp.toD outE_bulk s.outs
 unfold stE St.toD
 simp only [List.length_append, D.bulk, D.bulks]
 omega
structure Fit (s : St) : Prop where
 sin : AX.Sf.StIn s
 tin : TypIn s
 len : ∀ ver, (stE ver s).length + 20 ≤ 1000000000
theorem inst_fit {x : Inst} (hw : x.attrs.Wf) (hb : x.toD.bulk ≤ 1500000) : AX.Sf.InstIn x ∧ x.typ.length ≤ 2000000 := by
 unfold Inst.toD at hb
 simp only [D.bulk, D.bulks] at hb
 obtain ⟨h1, h2⟩ := strs_bulk x.deps
 exact ⟨⟨by omega, by omega, by omega, V.Wf.lens _ hw, by omega, fun s hs => by have := h2 s hs; omega⟩, by omega⟩
theorem fit_of {s : St} (hw : s.Wf) (hb : s.toD.bulk ≤ 1500000) : Fit s := by
 have hE := fun ver => stE_bulk ver s
 have hb' := hb
 unfold St.toD at hb'
 simp only [D.bulk, D.bulks] at hb'
 obtain ⟨i1, i2⟩ := map_bulk Inst.toD s.insts
 obtain ⟨p1, p2⟩ := map_bulk Pend.toD s.pends
 obtain ⟨o1, o2⟩ := map_bulk Outp.toD s.outs
 have hi : ∀ x ∈ s.insts, AX.Sf.InstIn x ∧ x.typ.length ≤ 2000000 := fun x hx => inst_fit (hw.insts x hx) (by have := i2 x hx; omega)
 have hp : ∀ x ∈ s.pends, x.addr.length ≤ 2000000 ∧ x.typ.length ≤ 2000000 ∧ x.tok.length ≤ 2000000 := fun x hx => by
  have : x.toD.bulk ≤ 1500000 := by have := p2 x hx; omega
  unfold Pend.toD at this
  simp only [D.bulk, D.bulks] at this
  refine ⟨?_, ?_, ?_⟩ <;> omega
 have ho : ∀ x ∈ s.outs, x.name.length ≤ 2000000 ∧ x.value.lens := fun x hx => by
  have : x.toD.bulk ≤ 1500000 := by have := o2 x hx; omega
  unfold Outp.toD at this
  simp only [D.bulk, D.bulks] at this
  exact ⟨by omega, V.Wf.lens _ (hw.outs x hx)⟩
 refine ⟨⟨by omega, fun x hx => (hi x hx).1, fun x hx => ⟨(hp x hx).1, (hp x hx).2.2⟩, ho, by omega, by omega, by omega⟩, ⟨fun x hx => (hi x hx).2, fun x hx => (hp x hx).2.1⟩, fun ver => ?_⟩
 have := hE ver
 omega
end Sf
end Go.Proofs.YtnjkemakcejceaaGreatDoor

namespace Go.Proofs.YtnjkemakcejceaaGreatDoor
open Go.RowKit
set_option maxHeartbeats 4000000
def hitK (l : List UInt8) (p m : Nat) : Nat → List UInt8
 | 0 => l
 | i + 1 => hit1 (hitK l p m i) (p + i) (UInt8.ofNat (m / 2 ^ (8 * i)))
theorem hitK_len (l : List UInt8) (p m : Nat) : ∀ i, (hitK l p m i).length = l.length
 | 0 => rfl
 | i + 1 => by
  show (hit1 _ _ _).length = _
  unfold hit1
  rw [List.length_set, hitK_len l p m i]
theorem hitK_four (l : List UInt8) (p m : Nat) : hitK l p m 4 = hit l p m := by
 simp [hitK, hit]
namespace AX
theorem bcA_len (l : List UInt8) : (bcA l).length = l.length := by simp [bcA]
theorem bcA_set (l : List UInt8) (i : Nat) (x : UInt8) : bcA (hit1 l i x) = (bcA l).set i (.int .u8 ((l.getD i 0 ^^^ x).toNat : Nat)) := by
 unfold hit1 bcA
 rw [List.map_set]
theorem bcA_get (l : List UInt8) (i : Nat) (h : i < l.length) : (((bcA l).drop i).take 1)[0]? = some (.int .u8 ((l.getD i 0).toNat : Nat)) := by
 rw [List.getElem?_take_of_lt (by decide), List.getElem?_drop, Nat.add_zero]
 unfold bcA
 rw [List.getElem?_map, List.getElem?_eq_getElem h, Option.map_some, List.getD_eq_getElem?_getD, List.getElem?_eq_getElem h, Option.getD_some]
theorem xor_byte (b : UInt8) (m i : Nat) (hm : m < 4294967296) (hi : i < 4) :
  bits .xor .u8 ((b.toNat : Nat) : Int) (IntKind.u8.wrap ((m : Int).fdiv (2 ^ (min (Int.toNat (IntKind.u64.wrap (IntKind.i64.wrap (8 * (i : Int))))) 32)))) = (((b ^^^ UInt8.ofNat (m / 2 ^ (8 * i))).toNat : Nat) : Int) := by
 have e1 : IntKind.i64.wrap (8 * (i : Int)) = 8 * (i : Int) := wrap64 (by omega) (by omega)
 have e2 : IntKind.u64.wrap (8 * (i : Int)) = 8 * (i : Int) := by rw [IntKind.wrap_u64]; omega
 have e3 : min (Int.toNat (8 * (i : Int))) 32 = 8 * i := by omega
 have hb := b.toNat_lt
 rw [e1, e2, e3]
 have e4 : (m : Int).fdiv (2 ^ (8 * i)) = ((m / 2 ^ (8 * i) : Nat) : Int) := by
  rw [show ((2 : Int) ^ (8 * i)) = ((2 ^ (8 * i) : Nat) : Int) by push_cast; rfl]
  rw [Int.fdiv_eq_ediv_of_nonneg _ (Int.natCast_nonneg _)]
  rfl
 rw [e4]
 have e5 : IntKind.u8.wrap ((m / 2 ^ (8 * i) : Nat) : Int) = ((m / 2 ^ (8 * i) % 256 : Nat) : Int) := by
  rw [IntKind.wrap_u8]; omega
 rw [e5, u8_xor_nat _ _ hb (Nat.mod_lt _ (by decide))]
 rw [UInt8.toNat_xor, UInt8.toNat_ofNat']
section
def c_lsmall : AX.AFn := ⟨5, .seq (.reg false [⟨some 1, .box 26 (.t 0), none, []⟩, ⟨some 2, .mv (.c (.bool false)), none, []⟩]) (.seq (.reg false [⟨some 3, .load true 5 (.t 1), none, []⟩, ⟨some 4, .call 38 [.t 3, .c (.int .i64 60), .c (.int .i64 400)], none, []⟩, ⟨some 2, .mv (.t 4), none, []⟩]) (.ret)), [.t 2]⟩
theorem h_lsmall : AX.compFn Tryz.prog 7 = some c_lsmall := by kernel_rfl
theorem a_lsmall (st : Sf.St) (hin : Sf.StIn st) (h : Hp) : ACall Tryz.prog GT 7 [st.A] h fun r h' => r = .bool (Sf.smallP 60 400 st) ∧ h' = h := by
 have hs := a_r31Small st hin 60 400 (by decide) (by decide) (by decide)
 obtain ⟨b, hb⟩ : ∃ b, Sf.smallP 60 400 st = b := ⟨_, rfl⟩
 rw [hb] at hs ⊢
 refine pcall ?_ rfl (by simp [A.pure, A.data, Sf.St.A]) h
 refine acall_of mixedT h_lsmall (by simp [c_lsmall]) ?_
 dsimp only [c_lsmall]
 unfold Sf.St.A at hs ⊢
 (refine AX.run0 True.intro ?_)
 refine use (hs _) ?_
 (refine AX.run0 True.intro ?_)
 exact ⟨_, le_refl _, rfl⟩
theorem encode_cases (ver : Int) (st : Sf.St) (hz : Sf.checkZ st = 0) : (Sf.encode ver st = ([], 3)) ∨ ((Sf.encode ver st) = (Crc.app (Sf.stE ver st), 0) ∧ (Sf.stE ver st).length ≤ 1048572) := by
 unfold Sf.encode
 rw [if_neg (by simp [hz])]
 split
 ·exact .inl rfl
 ·exact .inr ⟨rfl, by omega⟩
theorem ver_len0 (l : List UInt8) : (Crc.ver l).1.length ≤ l.length := by
 unfold Crc.ver
 split
 ·simp
 ·split
  ·simp
  ·simp
theorem a_decodeAny (s : List UInt8) (hlen : s.length ≤ 2000000) (h : Hp) : ACall Tryz.prog GT 12 [.str s] h fun r h' => r = .tup [(Sf.decode s).1.A, .int .i64 (Sf.decode s).2] ∧ h' = h :=
 a_Decode s (by omega) (ver_len0 s) (fun ver r hr => a_stateCheck _ (Sf.state_in ver ⟨r, false⟩ (by dsimp only; omega))) h
theorem oldS_in (s : Sf.St) (h : Sf.StIn s) : Sf.StIn (Sf.oldS 1 s) := by
 rw [show Sf.oldS 1 s = { s with insts := s.insts.map (Sf.oldI 1), pends := [] } from if_neg (by decide)]
 refine ⟨h.lin, fun x hx => ?_, by simp, h.outs, by simpa using h.li, by simp, h.lo⟩
 obtain ⟨y, hy, rfl⟩ := List.mem_map.1 hx
 have k := h.insts y hy
 rw [show Sf.oldI 1 y = { y with first := false } from if_neg (by decide)]
 exact ⟨k.a, k.d, k.i, k.l, k.n, k.ds⟩
end
end AX
end Go.Proofs.YtnjkemakcejceaaGreatDoor

namespace Go.Proofs.YtnjkemakcejceaaGreatDoor
open Go.RowKit
set_option maxHeartbeats 4000000
namespace AX
noncomputable def c_lback : AX.AFn := ⟨156, .seq (.reg false [⟨some 3, .box 26 (.t 0), none, []⟩, ⟨some 6, .mv (.c (.bool false)), none, []⟩]) (.seq (.seq (.reg false [⟨some 22, .load true 5 (.t 3), none, []⟩, ⟨some 23, .call 7 [.t 22], none, []⟩, ⟨some 24, .un .not (.t 23), none, []⟩, ⟨some 25, .mv (.t 24), none, []⟩, ⟨some 26, .load true 5 (.t 3), some (25, false), []⟩, ⟨some 27, .call 8 [.t 26], some (25, false), []⟩, ⟨some 28, .bin .neq (.t 27) (.c (.int .i64 0)), some (25, false), []⟩, ⟨some 29, .pick (.t 25) (.c (.bool true)) (.t 28), none, []⟩]) (.cond (.t 29) (.seq (.reg false [⟨some 30, .call 9 [], none, []⟩, ⟨some 6, .mv (.t 30), none, []⟩]) (.ret)) (.skip))) (.seq (.reg false [⟨some 32, .load true 5 (.t 3), none, []⟩, ⟨some 33, .call 10 [.t 32], none, []⟩, ⟨some 31, .mv (.t 33), none, []⟩, ⟨some 34, .extract (.t 31) 0, none, []⟩, ⟨some 35, .extract (.t 31) 1, none, []⟩, ⟨some 7, .mv (.t 34), none, []⟩, ⟨some 8, .mv (.t 35), none, []⟩]) (.seq (.reg false [⟨some 37, .load true 5 (.t 3), none, []⟩, ⟨some 38, .call 11 [.t 37], none, []⟩, ⟨some 36, .mv (.t 38), none, []⟩, ⟨some 39, .extract (.t 36) 0, none, []⟩, ⟨some 40, .extract (.t 36) 1, none, []⟩, ⟨some 9, .mv (.t 39), none, []⟩, ⟨some 10, .mv (.t 40), none, []⟩]) (.seq (.seq (.reg false [⟨some 41, .mv (.t 8), none, []⟩, ⟨some 42, .bin .neq (.t 41) (.c (.int .i64 0)), none, []⟩, ⟨some 43, .mv (.t 42), none, []⟩, ⟨some 44, .mv (.t 10), some (43, false), []⟩, ⟨some 45, .bin .neq (.t 44) (.c (.int .i64 0)), some (43, false), []⟩, ⟨some 46, .pick (.t 43) (.c (.bool true)) (.t 45), none, []⟩]) (.cond (.t 46) (.seq (.reg false [⟨some 47, .mv (.t 8), none, []⟩, ⟨some 48, .bin .eql (.t 47) (.c (.int .i64 3)), none, []⟩, ⟨some 49, .mv (.t 48), none, []⟩, ⟨some 50, .mv (.t 10), some (49, false), []⟩, ⟨some 51, .bin .eql (.t 50) (.c (.int .i64 3)), some (49, false), []⟩, ⟨some 52, .pick (.t 49) (.c (.bool true)) (.t 51), none, []⟩, ⟨some 53, .mv (.t 52), none, []⟩, ⟨some 54, .call 9 [], some (53, true), []⟩, ⟨some 55, .pick (.t 53) (.t 54) (.c (.bool false)), none, []⟩, ⟨some 6, .mv (.t 55), none, []⟩]) (.ret)) (.skip))) (.seq (.reg false [⟨some 57, .mv (.t 7), none, []⟩, ⟨some 58, .call 12 [.t 57], none, []⟩, ⟨some 56, .mv (.t 58), none, []⟩, ⟨some 59, .extract (.t 56) 0, none, []⟩, ⟨some 60, .extract (.t 56) 1, none, []⟩, ⟨some 11, .alloc 26 [.str [], .int .i64 0, .sl 0 .nil [], .sl 0 .nil [], .sl 0 .nil []], none, []⟩, ⟨none, .store 5 (.t 11) (.t 59), none, []⟩, ⟨some 12, .mv (.t 60), none, []⟩]) (.seq (.reg false [⟨some 62, .mv (.t 9), none, []⟩, ⟨some 63, .call 12 [.t 62], none, []⟩, ⟨some 61, .mv (.t 63), none, []⟩, ⟨some 64, .extract (.t 61) 0, none, []⟩, ⟨some 65, .extract (.t 61) 1, none, []⟩, ⟨some 13, .alloc 26 [.str [], .int .i64 0, .sl 0 .nil [], .sl 0 .nil [], .sl 0 .nil []], none, []⟩, ⟨none, .store 5 (.t 13) (.t 64), none, []⟩, ⟨some 14, .mv (.t 65), none, []⟩]) (.seq (.reg false [⟨some 66, .load true 5 (.t 3), none, []⟩, ⟨some 15, .alloc 26 [.str [], .int .i64 0, .sl 0 .nil [], .sl 0 .nil [], .sl 0 .nil []], none, []⟩, ⟨none, .store 5 (.t 15) (.t 66), none, []⟩]) (.seq (.reg false [⟨some 67, .faddr 3 (.t 15), none, []⟩, ⟨none, .store 1 (.t 67) (.c (.sl 0 .nil [])), none, []⟩]) (.seq (.reg false [⟨some 68, .faddr 2 (.t 15), none, []⟩, ⟨none, .store 1 (.t 68) (.c (.sl 0 .nil [])), none, []⟩]) (.seq (.seq (.reg false [⟨some 16, .mv (.c (.int .i64 0)), none, []⟩]) (.block 0 (.loop (.seq (.seq (.reg false [⟨some 69, .mv (.t 16), none, []⟩, ⟨some 70, .faddr 2 (.t 3), none, []⟩, ⟨some 71, .load false 1 (.t 70), none, []⟩, ⟨some 72, .len false (.t 71), none, []⟩, ⟨some 73, .bin .lss (.t 69) (.t 72), none, []⟩]) (.cond (.t 73) (.skip) (.exit 0))) (.seq (.block 1 (.seq (.reg false [⟨some 76, .faddr 2 (.t 3), none, []⟩, ⟨some 77, .load false 1 (.t 76), none, []⟩, ⟨some 78, .mv (.t 16), none, []⟩, ⟨some 79, .iaddr 13 (.t 77) (.t 78), none, []⟩, ⟨some 80, .load true 13 (.t 79), none, []⟩, ⟨some 17, .alloc 42 [.str [], .str [], .str [], .str [], .int .i64 0, .int .i64 0, .str [], .sl 0 .nil [], .sl 0 .nil [], .int .i64 0, .bool false, .bool false, .sl 0 .nil []], none, []⟩, ⟨none, .store 13 (.t 17) (.t 80), none, []⟩]) (.seq (.reg false [⟨some 81, .faddr 11 (.t 17), none, []⟩, ⟨none, .store 1 (.t 81) (.c (.bool false)), none, []⟩]) (.reg false [⟨some 82, .faddr 2 (.t 15), none, []⟩, ⟨some 83, .load false 1 (.t 82), none, []⟩, ⟨some 84, .load true 13 (.t 17), none, []⟩, ⟨some 85, .mks 13 [.t 84], none, []⟩, ⟨some 86, .app 42 13 184 (.t 83) (.t 85), none, []⟩, ⟨some 87, .faddr 2 (.t 15), none, []⟩, ⟨none, .store 1 (.t 87) (.t 86), none, []⟩])))) (.reg false [⟨some 74, .mv (.t 16), none, []⟩, ⟨some 75, .bin .add (.t 74) (.c (.int .i64 1)), none, []⟩, ⟨some 16, .mv (.t 75), none, []⟩])))))) (.seq (.seq (.reg false [⟨some 88, .mv (.t 12), none, []⟩, ⟨some 89, .bin .neq (.t 88) (.c (.int .i64 0)), none, []⟩, ⟨some 90, .mv (.t 89), none, []⟩, ⟨some 91, .mv (.t 14), some (90, false), []⟩, ⟨some 92, .bin .neq (.t 91) (.c (.int .i64 0)), some (90, false), []⟩, ⟨some 93, .pick (.t 90) (.c (.bool true)) (.t 92), none, []⟩, ⟨some 94, .mv (.t 93), none, []⟩, ⟨some 95, .load true 5 (.t 3), some (94, false), []⟩, ⟨some 96, .load true 5 (.t 11), some (94, false), []⟩, ⟨some 97, .call 13 [.t 95, .t 96], some (94, false), []⟩, ⟨some 98, .un .not (.t 97), some (94, false), []⟩, ⟨some 99, .pick (.t 94) (.c (.bool true)) (.t 98), none, []⟩, ⟨some 100, .mv (.t 99), none, []⟩, ⟨some 101, .load true 5 (.t 15), some (100, false), []⟩, ⟨some 102, .load true 5 (.t 13), some (100, false), []⟩, ⟨some 103, .call 13 [.t 101, .t 102], some (100, false), []⟩, ⟨some 104, .un .not (.t 103), some (100, false), []⟩, ⟨some 105, .pick (.t 100) (.c (.bool true)) (.t 104), none, []⟩]) (.cond (.t 105) (.seq (.reg false [⟨some 6, .mv (.c (.bool false)), none, []⟩]) (.ret)) (.skip))) (.seq (.seq (.reg false [⟨some 106, .mv (.t 1), none, []⟩, ⟨some 107, .bin .lss (.t 106) (.c (.int .i64 0)), none, []⟩, ⟨some 108, .mv (.t 107), none, []⟩, ⟨some 109, .mv (.t 1), some (108, false), []⟩, ⟨some 110, .mv (.t 7), some (108, false), []⟩, ⟨some 111, .len true (.t 110), some (108, false), []⟩, ⟨some 112, .bin .sub (.t 111) (.c (.int .i64 4)), some (108, false), []⟩, ⟨some 113, .bin .gtr (.t 109) (.t 112), some (108, false), []⟩, ⟨some 114, .pick (.t 108) (.c (.bool true)) (.t 113), none, []⟩, ⟨some 115, .mv (.t 114), none, []⟩, ⟨some 116, .mv (.t 2), some (115, false), []⟩, ⟨some 117, .bin .eql (.t 116) (.c (.int .u32 0)), some (115, false), []⟩, ⟨some 118, .pick (.t 115) (.c (.bool true)) (.t 117), none, []⟩]) (.cond (.t 118) (.seq (.reg false [⟨some 119, .call 9 [], none, []⟩, ⟨some 6, .mv (.t 119), none, []⟩]) (.ret)) (.skip))) (.seq (.reg false [⟨some 18, .mv (.c (.sl 0 .nil [])), none, []⟩]) (.seq (.prim 156 (AX.rg Tryz.prog 3 0)) (.seq (.seq (.reg false [⟨some 19, .mv (.c (.int .i64 0)), none, []⟩]) (.block 2 (.loop (.seq (.seq (.reg false [⟨some 123, .mv (.t 19), none, []⟩, ⟨some 124, .bin .lss (.t 123) (.c (.int .i64 4)), none, []⟩]) (.cond (.t 124) (.skip) (.exit 2))) (.seq (.block 3 (.reg false [⟨some 127, .mv (.t 18), none, []⟩, ⟨some 128, .mv (.t 1), none, []⟩, ⟨some 129, .mv (.t 19), none, []⟩, ⟨some 130, .bin .add (.t 128) (.t 129), none, []⟩, ⟨some 131, .mv (.t 18), none, []⟩, ⟨some 132, .mv (.t 1), none, []⟩, ⟨some 133, .mv (.t 19), none, []⟩, ⟨some 134, .bin .add (.t 132) (.t 133), none, []⟩, ⟨some 135, .iaddr 1 (.t 131) (.t 134), none, []⟩, ⟨some 136, .load false 1 (.t 135), none, []⟩, ⟨some 137, .mv (.t 2), none, []⟩, ⟨some 138, .mv (.t 19), none, []⟩, ⟨some 139, .bin .mul (.c (.int .i64 8)) (.t 138), none, []⟩, ⟨some 140, .conv .u64 (.t 139), none, []⟩, ⟨some 141, .bin .shr (.t 137) (.t 140), none, []⟩, ⟨some 142, .conv .u8 (.t 141), none, []⟩, ⟨some 143, .bin .xor (.t 136) (.t 142), none, []⟩, ⟨some 144, .iaddr 1 (.t 127) (.t 130), none, []⟩, ⟨none, .store 1 (.t 144) (.t 143), none, []⟩])) (.reg false [⟨some 125, .mv (.t 19), none, []⟩, ⟨some 126, .bin .add (.t 125) (.c (.int .i64 1)), none, []⟩, ⟨some 19, .mv (.t 126), none, []⟩])))))) (.seq (.prim 156 (AX.rg Tryz.prog 3 1)) (.seq (.reg false [⟨some 151, .mv (.t 21), none, []⟩, ⟨some 152, .bin .neq (.t 151) (.c (.int .i64 0)), none, []⟩, ⟨some 153, .mv (.t 152), none, []⟩, ⟨some 154, .call 9 [], some (153, true), []⟩, ⟨some 155, .pick (.t 153) (.t 154) (.c (.bool false)), none, []⟩, ⟨some 6, .mv (.t 155), none, []⟩]) (.ret)))))))))))))))))), [.t 6]⟩
theorem h_lback : AX.compFn Tryz.prog 3 = some c_lback := by kernel_rfl
def callOf : Op → Call
 | .call c => c
 | _ => default
def infoOf (P : Program) (t : TypeId) : TypeInfo := (P.info? t).getD default
theorem bk0 : (AX.rg Tryz.prog 3 0) = .region (regId (AX.rg Tryz.prog 3 0)) (regOps (AX.rg Tryz.prog 3 0)) false := by kernel_rfl
theorem bk1 : (AX.rg Tryz.prog 3 1) = .region (regId (AX.rg Tryz.prog 3 1)) (regOps (AX.rg Tryz.prog 3 1)) false := by kernel_rfl
theorem bl0 : (regOps (AX.rg Tryz.prog 3 0)).toList = [(opAt (AX.rg Tryz.prog 3 0) 0), (opAt (AX.rg Tryz.prog 3 0) 1), (opAt (AX.rg Tryz.prog 3 0) 2), (opAt (AX.rg Tryz.prog 3 0) 3)] := by kernel_rfl
theorem bl1 : (regOps (AX.rg Tryz.prog 3 1)).toList = (opAt (AX.rg Tryz.prog 3 1) 0) :: (opAt (AX.rg Tryz.prog 3 1) 1) :: (regOps (AX.rg Tryz.prog 3 1)).toList.drop 2 := by kernel_rfl
theorem bf00 : (opAt (AX.rg Tryz.prog 3 0) 0).dst = some 120 ∧ (opAt (AX.rg Tryz.prog 3 0) 0).guard = none ∧ compOp Tryz.prog 156 (opAt (AX.rg Tryz.prog 3 0) 0) = some (.mv (.t 18)) := ⟨by kernel_rfl, by kernel_rfl, by kernel_rfl⟩
theorem bf01 : (opAt (AX.rg Tryz.prog 3 0) 1).dst = some 121 ∧ (opAt (AX.rg Tryz.prog 3 0) 1).guard = none ∧ compOp Tryz.prog 156 (opAt (AX.rg Tryz.prog 3 0) 1) = some (.mv (.t 7)) := ⟨by kernel_rfl, by kernel_rfl, by kernel_rfl⟩
theorem bf02 : ∃ c : Call, (opAt (AX.rg Tryz.prog 3 0) 2).dst = some 122 ∧ (opAt (AX.rg Tryz.prog 3 0) 2).guard = none ∧ (opAt (AX.rg Tryz.prog 3 0) 2).op = .call c ∧ c.callee = .builtin .append ∧ c.args = #[.tmp 120, .tmp 121] ∧ c.argTypes = #[44, 9] := ⟨callOf (opAt (AX.rg Tryz.prog 3 0) 2).op, by kernel_rfl, by kernel_rfl, by kernel_rfl, by kernel_rfl, by kernel_rfl, by kernel_rfl⟩
theorem bf03 : (opAt (AX.rg Tryz.prog 3 0) 3).dst = some 18 ∧ (opAt (AX.rg Tryz.prog 3 0) 3).guard = none ∧ compOp Tryz.prog 156 (opAt (AX.rg Tryz.prog 3 0) 3) = some (.mv (.t 122)) := ⟨by kernel_rfl, by kernel_rfl, by kernel_rfl⟩
theorem bf10 : (opAt (AX.rg Tryz.prog 3 1) 0).dst = some 146 ∧ (opAt (AX.rg Tryz.prog 3 1) 0).guard = none ∧ compOp Tryz.prog 156 (opAt (AX.rg Tryz.prog 3 1) 0) = some (.mv (.t 18)) := ⟨by kernel_rfl, by kernel_rfl, by kernel_rfl⟩
theorem bf11 : (opAt (AX.rg Tryz.prog 3 1) 1).dst = some 147 ∧ (opAt (AX.rg Tryz.prog 3 1) 1).guard = none ∧ (opAt (AX.rg Tryz.prog 3 1) 1).op = .convert 44 9 (.tmp 146) := ⟨by kernel_rfl, by kernel_rfl, by kernel_rfl⟩
theorem bf12 : compOpers Tryz.prog 156 false (regOps (AX.rg Tryz.prog 3 1)) ((regOps (AX.rg Tryz.prog 3 1)).toList.drop 2) = some [⟨some 148, .call 12 [.t 147], none, []⟩, ⟨some 145, .mv (.t 148), none, []⟩, ⟨some 149, .extract (.t 145) 0, none, []⟩, ⟨some 150, .extract (.t 145) 1, none, []⟩, ⟨some 20, .alloc 26 [.str [], .int .i64 0, .sl 0 .nil [], .sl 0 .nil [], .sl 0 .nil []], none, []⟩, ⟨none, .store 5 (.t 20) (.t 149), none, []⟩, ⟨some 21, .mv (.t 150), none, []⟩] := by kernel_rfl
theorem u8_info : ∃ it z, Tryz.prog.info? 5 = some it ∧ it.zero = some z ∧ it.bytes = 1 := ⟨infoOf Tryz.prog 5, (infoOf Tryz.prog 5).zero.getD default, by kernel_rfl, by kernel_rfl, by kernel_rfl⟩
theorem u8_sl : Tryz.prog.underlying 44 = some (.slice 5) := by kernel_rfl
theorem u8_u : Tryz.prog.underlying 5 = some (.int .u8) := by kernel_rfl
theorem str_u : Tryz.prog.underlying 9 = some .string := by kernel_rfl
section
variable {P : Program} {G : World → Prop} {n : Nat}
theorem pr_app {cd : Code} {x y d0 d1 d2 d3 : Nat} {T U E : TypeId} {it : TypeInfo} {z : Value} {l : List UInt8} {Q : AExit → Ts → Hp → Prop} {ts : Ts} {h : Hp} (hc : cd = .region (regId cd) (regOps cd) false) (hl : (regOps cd).toList = [opAt cd 0, opAt cd 1, opAt cd 2, opAt cd 3])
  (e0 : (opAt cd 0).dst = some d0 ∧ (opAt cd 0).guard = none ∧ compOp P n (opAt cd 0) = some (.mv (.t x))) (e1 : (opAt cd 1).dst = some d1 ∧ (opAt cd 1).guard = none ∧ compOp P n (opAt cd 1) = some (.mv (.t y)))
  (e2 : ∃ c : Call, (opAt cd 2).dst = some d2 ∧ (opAt cd 2).guard = none ∧ (opAt cd 2).op = .call c ∧ c.callee = .builtin .append ∧ c.args = #[.tmp d0, .tmp d1] ∧ c.argTypes = #[T, U]) (e3 : (opAt cd 3).dst = some d3 ∧ (opAt cd 3).guard = none ∧ compOp P n (opAt cd 3) = some (.mv (.t d2)))
  (hd : d0 < n ∧ d1 < n ∧ d2 < n ∧ d3 < n) (hne : d1 ≠ d0 ∧ y ≠ d0) (ht : P.underlying T = some (.slice E)) (hu : P.underlying U = some .string) (hi : P.info? E = some it) (hz : it.zero = some z) (hby : it.bytes = 1)
  (tx : ts x = .sl 0 .nil []) (ty : ts y = .str l) (h0 : 0 < l.length) (hll : l.length ≤ 1000000000)
  (hk : Q .normal (put (put (put (put ts (some d0) (.sl 0 .nil [])) (some d1) (.str l)) (some d2) (.bs h.b.length 1 l.length)) (some d3) (.bs h.b.length 1 l.length)) ⟨h.b ++ [.row E (bcA l)], h.t⟩) :
  awp P G (.prim n cd) Q ts h := by
 refine go_prim fun C a hI hT hdd => wp_prim hc hl ?_
 have ev : ∀ (t : Ts) k, evX t (.t k) = t k := fun _ _ => rfl
 have ex : ∀ (ts : Ts) d v, put ts (some d) v d = v := fun ts d v => by show (if d = d then v else ts d) = _; rw [if_pos rfl]
 have en : ∀ (ts : Ts) (d d' : Nat) v, d' ≠ d → put ts (some d) v d' = ts d' := fun ts d d' v hh => by show (if d' = d then v else ts d') = _; rw [if_neg hh]
 obtain ⟨a1, a2, a3⟩ := e0
 obtain ⟨b1, b2, b3⟩ := e1
 obtain ⟨c, c1, c2, c3, c4, c5, c6⟩ := e2
 obtain ⟨f1, f2, f3⟩ := e3
 refine pl_op (ao := .mv (.t x)) (v := .sl 0 .nil []) (h' := h) (pst_of hI hT hdd) a2 (by rw [a1]; simpa [compDst] using hd.1) a3 rfl (by show some (ts x, h) = _; rw [tx]) fun a' w' k1 => ?_
 rw [a1] at k1
 refine pl_op (ao := .mv (.t y)) (v := .str l) (h' := h) k1 b2 (by rw [b1]; simpa [compDst] using hd.2.1) b3 rfl (by show some (put ts (some d0) _ y, h) = _; rw [en _ _ _ _ hne.2, ty]) fun a' w' k2 => ?_
 rw [b1] at k2
 refine pl_appstr (x := .tmp d0) (y := .tmp d1) (xo := .t d0) (yo := .t d1) (l := l) k2 c2 (by rw [c1]; simpa [compDst] using hd.2.2.1) c3 c4 c5 c6 ht hu hi hz hby (by simp [compX, hd.1]) (by simp [compX, hd.2.1]) (by rw [ev, en _ _ _ _ hne.1.symm, ex]) (by rw [ev, ex]) h0 hll fun a' w' k3 => ?_
 rw [c1] at k3
 refine pl_op (ao := .mv (.t d2)) (v := .bs h.b.length 1 l.length) (h' := ⟨h.b ++ [.row E (bcA l)], h.t⟩) k3 f2 (by rw [f1]; simpa [compDst] using hd.2.2.2) f3 rfl (by show some (put _ (some d2) _ d2, _) = _; rw [ex]) fun a' w' k4 => ?_
 rw [f1] at k4
 exact pl_nil (ts := ts) (h := h) (k4.post hk)
theorem pr_str {cd : Code} {x d0 d1 i : Nat} {T U E : TypeId} {l : List UInt8} {L : List AOper} {Q : AExit → Ts → Hp → Prop} {ts : Ts} {h : Hp} (hc : cd = .region (regId cd) (regOps cd) false) (hl : (regOps cd).toList = opAt cd 0 :: opAt cd 1 :: (regOps cd).toList.drop 2)
  (e0 : (opAt cd 0).dst = some d0 ∧ (opAt cd 0).guard = none ∧ compOp P n (opAt cd 0) = some (.mv (.t x))) (e1 : (opAt cd 1).dst = some d1 ∧ (opAt cd 1).guard = none ∧ (opAt cd 1).op = .convert T U (.tmp d0)) (e2 : compOpers P n false (regOps cd) ((regOps cd).toList.drop 2) = some L)
  (hd : d0 < n ∧ d1 < n) (ht : P.underlying T = some (.slice E)) (he : P.underlying E = some (.int .u8)) (hu : P.underlying U = some .string) (tx : ts x = .bs i 1 l.length) (hb : h.b[i]? = some (.row E (bcA l)))
  (hk : awp P G (.reg false L) Q (put (put ts (some d0) (.bs i 1 l.length)) (some d1) (.str l)) h) : awp P G (.prim n cd) Q ts h := by
 refine go_prim fun C a hI hT hdd => wp_prim hc hl ?_
 have ev : ∀ (t : Ts) k, evX t (.t k) = t k := fun _ _ => rfl
 have ex : ∀ (ts : Ts) d v, put ts (some d) v d = v := fun ts d v => by show (if d = d then v else ts d) = _; rw [if_pos rfl]
 obtain ⟨a1, a2, a3⟩ := e0
 obtain ⟨b1, b2, b3⟩ := e1
 refine pl_op (ao := .mv (.t x)) (v := .bs i 1 l.length) (h' := h) (pst_of hI hT hdd) a2 (by rw [a1]; simpa [compDst] using hd.1) a3 rfl (by show some (ts x, h) = _; rw [tx]) fun a' w' k1 => ?_
 rw [a1] at k1
 refine pl_tostr (x := .tmp d0) (xo := .t d0) (i := i) (l := l) k1 b2 (by rw [b1]; simpa [compDst] using hd.2) b3 ht he hu (by simp [compX, hd.1]) (by rw [ev, ex]) hb fun a' w' k2 => ?_
 rw [b1] at k2
 exact pl_rest k2 e2 hk
end
theorem p_app {l : List UInt8} {Q : AExit → Ts → Hp → Prop} {ts : Ts} {h : Hp} (tx : ts 18 = .sl 0 .nil []) (ty : ts 7 = .str l) (h0 : 0 < l.length) (hll : l.length ≤ 1000000000)
  (hk : Q .normal (put (put (put (put ts (some 120) (.sl 0 .nil [])) (some 121) (.str l)) (some 122) (.bs h.b.length 1 l.length)) (some 18) (.bs h.b.length 1 l.length)) ⟨h.b ++ [.row 5 (bcA l)], h.t⟩) :
  awp Tryz.prog GT (.prim 156 (AX.rg Tryz.prog 3 0)) Q ts h := by
 obtain ⟨it, z, i1, i2, i3⟩ := u8_info
 exact pr_app bk0 bl0 bf00 bf01 bf02 bf03 (by decide) (by decide) u8_sl str_u i1 i2 i3 tx ty h0 hll hk
theorem p_str {i : Nat} {l : List UInt8} {Q : AExit → Ts → Hp → Prop} {ts : Ts} {h : Hp} (tx : ts 18 = .bs i 1 l.length) (hb : h.b[i]? = some (.row 5 (bcA l)))
  (hk : awp Tryz.prog GT (.reg false [⟨some 148, .call 12 [.t 147], none, []⟩, ⟨some 145, .mv (.t 148), none, []⟩, ⟨some 149, .extract (.t 145) 0, none, []⟩, ⟨some 150, .extract (.t 145) 1, none, []⟩, ⟨some 20, .alloc 26 [.str [], .int .i64 0, .sl 0 .nil [], .sl 0 .nil [], .sl 0 .nil []], none, []⟩, ⟨none, .store 5 (.t 20) (.t 149), none, []⟩, ⟨some 21, .mv (.t 150), none, []⟩]) Q (put (put ts (some 146) (.bs i 1 l.length)) (some 147) (.str l)) h) :
  awp Tryz.prog GT (.prim 156 (AX.rg Tryz.prog 3 1)) Q ts h :=
 pr_str bk1 bl1 bf10 bf11 bf12 (by decide) u8_sl u8_u str_u tx hb hk
end AX
end Go.Proofs.YtnjkemakcejceaaGreatDoor

namespace Go.Proofs.YtnjkemakcejceaaGreatDoor
open Go.RowKit
set_option maxHeartbeats 4000000
namespace AX
def stC (st : Sf.St) : Blk := .cells 26 [.str st.lin, .int .i64 st.ser, .sl 13 .no (st.insts.map Sf.Inst.cells), .sl 3 .no (st.pends.map Sf.Pend.cells), .sl 7 .no (st.outs.map Sf.Outp.cells)]
theorem decode_bad (b : List UInt8) (h : Crc.ver b = ([], 20)) : (Sf.decode b).2 ≠ 0 := by
 unfold Sf.decode
 split
 ·show (3 : Int) ≠ 0; decide
 ·split
  ·show (2 : Int) ≠ 0; decide
  ·split
   ·show (20 : Int) ≠ 0; decide
   ·next h1 => rw [h] at h1; exact absurd (show ((20 : Int) ≠ 0) by decide) h1
theorem w_back (st : Sf.St) (fit : Sf.Fit st) (at_ bits_ : Int) (a0 : -9223372036854775808 ≤ at_) (a1 : at_ ≤ 9223372036854775807) (b0 : 0 ≤ bits_) (b1 : bits_ < 4294967296) :
  ACall Tryz.prog GT 3 [st.A, .int .i64 at_, .int .u32 bits_] ⟨[], []⟩ fun r _ => r = .bool true := by
 have hsm := a_lsmall st fit.sin
 have hck : SCheck st := a_stateCheck st fit.sin
 have he2 := a_Encode st hck fun hz => ⟨Sf.stOk_of hz fit.sin, fit.len 2⟩
 have he1 := a_EncodeOld st hck fun hz => ⟨Sf.stOk_of hz fit.sin, fit.len 1⟩
 have hEq := a_stEqual st fit.sin
 have hEqO := a_stEqual (Sf.oldS 1 st) (oldS_in st fit.sin)
 have hd2 := fun hz hl => (Sf.decode_enc 2 (.inr rfl) st hz fit.sin fit.tin hl).2
 have hd1 := fun hz hl => (Sf.decode_enc 1 (.inl rfl) st hz fit.sin fit.tin hl).2
 rw [show Sf.oldS 2 st = st from if_pos rfl] at hd2
 rw [show Sf.oldS 1 st = { st with insts := st.insts.map (Sf.oldI 1), pends := [] } from if_neg (by decide)] at hd1 hEqO
 have hli := fit.sin.li
 unfold SCheck at hck
 obtain ⟨sm, hsv⟩ : ∃ sm, Sf.smallP 60 400 st = sm := ⟨_, rfl⟩
 obtain ⟨Z, hZ⟩ : ∃ Z, Sf.checkZ st = Z := ⟨_, rfl⟩
 rw [hsv] at hsm
 rw [hZ] at hck
 have c2 := encode_cases 2 st
 have c1 := encode_cases 1 st
 obtain ⟨⟨bb, e⟩, hbE⟩ : ∃ q, Sf.encode 2 st = q := ⟨_, rfl⟩
 obtain ⟨⟨cc, f⟩, hcE⟩ : ∃ q, Sf.encode 1 st = q := ⟨_, rfl⟩
 rw [hbE] at he2 c2
 rw [hcE] at he1 c1
 dsimp only at he2 he1
 refine acall_of mixedT h_lback (by simp [c_lback]) ?_
 dsimp only [c_lback]
 have hA : st.A = .agg [.str st.lin, .int .i64 st.ser, .sl 13 .no (st.insts.map Sf.Inst.cells), .sl 3 .no (st.pends.map Sf.Pend.cells), .sl 7 .no (st.outs.map Sf.Outp.cells)] := rfl
 rw [hA] at hsm hck he2 he1 hEq ⊢
 (refine AX.run0 True.intro ?_)
 refine use (hsm _) ?_
 cases sm
 ·(refine AX.run0 True.intro ?_)
  refine use (awake32 _) ?_
  (refine AX.run0 True.intro ?_)
  exact ⟨_, le_refl _, rfl⟩
 (refine AX.run0 True.intro ?_)
 refine use (hck _) ?_
 by_cases z0 : Z = 0
 rotate_left
 ·have e1 : (Z != 0) = true := by simp [z0]
  (refine AX.run0 e1 ?_)
  refine use (awake32 _) ?_
  (refine AX.run0 True.intro ?_)
  exact ⟨_, le_refl _, rfl⟩
 subst z0
 have e1 : ((0 : Int) != 0) = false := by decide
 (refine AX.run0 e1 ?_)
 refine use (he2 _) ?_
 (refine AX.run0 e1 ?_)
 refine use (he1 _) ?_
 have e3 : ((3 : Int) != 0) = true := by decide
 have e33 : ((3 : Int) == 3) = true := by decide
 have e03 : ((0 : Int) == 3) = false := by decide
 rcases c2 hZ with h2 | ⟨h2, hl2⟩
 ·injection h2 with h2a h2b
  subst h2a; subst h2b
  (refine AX.run0 (And.intro e1 (And.intro e3 e33)) ?_)
  refine use (awake32 _) ?_
  (refine AX.run0 True.intro ?_)
  exact ⟨_, le_refl _, rfl⟩
 rcases c1 hZ with h1 | ⟨h1, hl1⟩
 ·injection h1 with h1a h1b
  subst h1a; subst h1b
  injection h2 with h2a h2b
  subst h2b
  (refine AX.run0 (And.intro e1 (And.intro e3 (And.intro e33 e03))) ?_)
  refine use (awake32 _) ?_
  (refine AX.run0 True.intro ?_)
  exact ⟨_, le_refl _, rfl⟩
 injection h2 with h2a h2b
 injection h1 with h1a h1b
 subst h2b; subst h1b
 have d2 := hd2 hZ hl2
 have d1 := hd1 hZ hl1
 rw [← h2a] at d2
 rw [← h1a] at d1
 have hbl : bb.length = (Sf.stE 2 st).length + 4 := by rw [h2a]; unfold Crc.app; simp [Crc.four_length]
 have hcl : cc.length = (Sf.stE 1 st).length + 4 := by rw [h1a]; unfold Crc.app; simp [Crc.four_length]
 have hD2 := a_decodeAny bb (by omega)
 have hD1 := a_decodeAny cc (by omega)
 rw [d2] at hD2
 rw [d1] at hD1
 dsimp only at hD2 hD1
 rw [hA] at hD2
 have hA1 : Sf.St.A { st with insts := st.insts.map (Sf.oldI 1), pends := [] } = .agg [.str st.lin, .int .i64 st.ser, .sl 13 .no ((st.insts.map (Sf.oldI 1)).map Sf.Inst.cells), .sl 3 .no [], .sl 7 .no (st.outs.map Sf.Outp.cells)] := rfl
 rw [hA1] at hD1 hEqO
 (refine AX.run0 e1 ?_)
 refine use (hD2 _) ?_
 (refine AX.run0 e1 ?_)
 refine use (hD1 _) ?_
 have lmi : (st.insts.map Sf.Inst.cells).length = st.insts.length := List.length_map _
 (refine AX.run0 (And.intro e1 lmi) ?_)
 refine awp_loop (fun mm ts h => ∃ (j : Nat) (W : Nat) (o : Own) (l : List Blk) (t : List (TypeId × Nat × Nat)), mm + j = st.insts.length ∧
  h = ⟨stC st :: stC st :: stC { st with insts := st.insts.map (Sf.oldI 1), pends := [] } :: .cells 26 [.str st.lin, .int .i64 st.ser, .sl W o (((st.insts.take j).map (Sf.oldI 1)).map Sf.Inst.cells), .sl 0 .nil [], .sl 7 .no (st.outs.map Sf.Outp.cells)] :: l, t⟩ ∧
  Gs 42 13 0 ⟨[], t⟩ (((st.insts.take j).map (Sf.oldI 1)).map Sf.Inst.cells) (.sl W o (((st.insts.take j).map (Sf.oldI 1)).map Sf.Inst.cells)) ∧
  ts 1 = .int .i64 at_ ∧ ts 2 = .int .u32 bits_ ∧ ts 3 = .ptr 0 0 ∧ ts 7 = .str bb ∧ ts 11 = .ptr 1 0 ∧ ts 12 = .int .i64 0 ∧ ts 13 = .ptr 2 0 ∧ ts 14 = .int .i64 0 ∧ ts 15 = .ptr 3 0 ∧ ts 16 = .int .i64 (j : Nat)) st.insts.length ?_ ?_
 ·exact ⟨0, 0, .nil, [], [], by omega, rfl, .inl ⟨rfl, rfl⟩, by (exact AX.ev0 True.intro), by (exact AX.ev0 True.intro), by (exact AX.ev0 True.intro), by (exact AX.ev0 True.intro), by (exact AX.ev0 True.intro), by (exact AX.ev0 True.intro), by (exact AX.ev0 True.intro), by (exact AX.ev0 True.intro), by (exact AX.ev0 True.intro), by (exact AX.inv0 True.intro)⟩
 rintro mm ts h ⟨j, W, o, l, t, hj, rfl, gX, t1, t2, t3, t7, t11, t12, t13, t14, t15, t16⟩
 dsimp only [stC]
 by_cases hlt : j < st.insts.length
 ·have hlt2 : (j : Int) < (st.insts.length : Int) := by omega
  have hla : (j : Int) < ((st.insts.map Sf.Inst.cells).length : Int) := by rw [lmi]; omega
  have hj0 : (0 : Int) ≤ (j : Int) := by omega
  have ei : IntKind.i64.wrap ((j : Int) + 1) = ((j + 1 : Nat) : Int) := by rw [wrap64 (by omega) (by omega)]; omega
  have hg := map_getD Sf.Inst.cells st.insts j hlt
  have htk : st.insts.take (j + 1) = st.insts.take j ++ [st.insts[j]] := List.take_succ_eq_append_getElem hlt
  have hrl : (((st.insts.take j).map (Sf.oldI 1)).map Sf.Inst.cells).length + 1 ≤ 1000000000 := by
   rw [List.length_map, List.length_map, List.length_take]; omega
  have hrow : (((st.insts.take (j + 1)).map (Sf.oldI 1)).map Sf.Inst.cells) = (((st.insts.take j).map (Sf.oldI 1)).map Sf.Inst.cells) ++ [(Sf.oldI 1 st.insts[j]).cells] := by
   rw [htk, List.map_append, List.map_append]; rfl
  obtain ⟨x, hx⟩ : ∃ x, st.insts[j] = x := ⟨_, rfl⟩
  rw [hx] at hg hrow
  obtain ⟨a, d, id, ty, ⟨k, n, w, vi, vy⟩, v, tn, fi, ds⟩ := x
  have hcell : (Sf.oldI 1 ⟨a, d, id, ty, ⟨k, n, w, vi, vy⟩, v, tn, fi, ds⟩).cells = [.str a, .str d, .str id, .str ty, .int .i64 k, .int .i64 n, .str w, .sl 5 .no (V.cellss vi), .sl 1 .no (strsA vy), .int .i64 v, .bool tn, .bool false, .sl 1 .no (strsA ds)] := by
   rw [show Sf.oldI 1 _ = _ from if_neg (by decide)]
   simp only [Sf.Inst.cells]
  rw [hcell] at hrow
  simp only [Sf.Inst.cells] at hg
  obtain ⟨R, hR⟩ : ∃ R, ((st.insts.take j).map (Sf.oldI 1)).map Sf.Inst.cells = R := ⟨_, rfl⟩
  obtain ⟨R', hR'⟩ : ∃ R', ((st.insts.take (j + 1)).map (Sf.oldI 1)).map Sf.Inst.cells = R' := ⟨_, rfl⟩
  rw [hR] at gX hrl hrow ⊢
  rw [hR'] at hrow
  obtain ⟨W', o', t', hX, gX', _⟩ := gX.grow 184 [.str a, .str d, .str id, .str ty, .int .i64 k, .int .i64 n, .str w, .sl 5 .no (V.cellss vi), .sl 1 .no (strsA vy), .int .i64 v, .bool tn, .bool false, .sl 1 .no (strsA ds)] hrl (by decide)
  rw [← hrow] at gX'
  simp only [← hrow] at hX
  (refine AX.run0 (And.intro t1 (And.intro t2 (And.intro t3 (And.intro t7 (And.intro t11 (And.intro t12 (And.intro t13 (And.intro t14 (And.intro t15 (And.intro t16 (And.intro hlt2 (And.intro hla (And.intro hj0 (And.intro hg (And.intro hX (And.intro ei @set_new)))))))))))))))) ?_)
  exact ⟨mm - 1, by omega, j + 1, W', o', l ++ [.cells 42 [.str a, .str d, .str id, .str ty, .int .i64 k, .int .i64 n, .str w, .sl 5 .no (V.cellss vi), .sl 1 .no (strsA vy), .int .i64 v, .bool tn, .bool false, .sl 1 .no (strsA ds)]], t', by omega, by rw [hR']; rfl, by rw [hR']; exact gX', by (exact AX.ev0 t1), by (exact AX.ev0 t2), by (exact AX.ev0 t3), by (exact AX.ev0 t7), by (exact AX.ev0 t11), by (exact AX.ev0 t12), by (exact AX.ev0 t13), by (exact AX.ev0 t14), by (exact AX.ev0 t15), by (exact AX.ev0 ei)⟩
 ·have hlt2 : ¬ (j : Int) < (st.insts.length : Int) := by omega
  rw [List.take_of_length_le (by omega)] at gX ⊢
  (refine AX.run0 (And.intro t1 (And.intro t2 (And.intro t3 (And.intro t7 (And.intro t11 (And.intro t12 (And.intro t13 (And.intro t14 (And.intro t15 (And.intro t16 (And.intro lmi (And.intro hlt2 e1)))))))))))) ?_)
  refine use (hEq _) ?_
  (refine AX.run0 (And.intro t1 (And.intro t2 (And.intro t3 (And.intro t7 (And.intro t11 (And.intro t12 (And.intro t13 (And.intro t14 (And.intro t15 (And.intro t16 e1)))))))))) ?_)
  refine use (ACall.args (as' := [.agg [.str st.lin, .int .i64 st.ser, .sl 13 .no ((st.insts.map (Sf.oldI 1)).map Sf.Inst.cells), .sl 3 .no [], .sl 7 .no (st.outs.map Sf.Outp.cells)], .agg [.str st.lin, .int .i64 st.ser, .sl 13 .no ((st.insts.map (Sf.oldI 1)).map Sf.Inst.cells), .sl 3 .no [], .sl 7 .no (st.outs.map Sf.Outp.cells)]]) ⟨⟨rfl, rfl, gX.le, ⟨rfl, .inr rfl, .inl rfl⟩, le1_refl _, trivial⟩, le2_refl _, trivial⟩ (hEqO _)) ?_
  (refine AX.run0 (And.intro t1 (And.intro t2 (And.intro t3 (And.intro t7 (And.intro t11 (And.intro t12 (And.intro t13 (And.intro t14 (And.intro t15 e1))))))))) ?_)
  obtain ⟨p, hp⟩ : ∃ p : Nat, at_.toNat = p := ⟨_, rfl⟩
  by_cases g1 : at_ < 0
  ·(refine AX.run0 (And.intro t1 (And.intro t2 (And.intro t3 (And.intro t7 (And.intro t11 (And.intro t12 (And.intro t13 (And.intro t14 (And.intro t15 g1))))))))) ?_)
   refine use (awake32 _) ?_
   (refine AX.run0 True.intro ?_)
   exact ⟨_, le_refl _, rfl⟩
  have w4 : IntKind.i64.wrap ((bb.length : Int) - 4) = (bb.length : Int) - 4 := wrap64 (by omega) (by omega)
  by_cases g2 : at_ > (bb.length : Int) - 4
  ·(refine AX.run0 (And.intro t1 (And.intro t2 (And.intro t3 (And.intro t7 (And.intro t11 (And.intro t12 (And.intro t13 (And.intro t14 (And.intro t15 (And.intro g1 (And.intro g2 w4))))))))))) ?_)
   refine use (awake32 _) ?_
   (refine AX.run0 True.intro ?_)
   exact ⟨_, le_refl _, rfl⟩
  by_cases g3 : bits_ = 0
  ·have g3' : (bits_ == 0) = true := by simp [g3]
   (refine AX.run0 (And.intro t1 (And.intro t2 (And.intro t3 (And.intro t7 (And.intro t11 (And.intro t12 (And.intro t13 (And.intro t14 (And.intro t15 (And.intro g1 (And.intro g2 (And.intro w4 g3')))))))))))) ?_)
   refine use (awake32 _) ?_
   (refine AX.run0 True.intro ?_)
   exact ⟨_, le_refl _, rfl⟩
  have g3' : (bits_ == 0) = false := by simp [g3]
  (refine AX.run0 (And.intro t1 (And.intro t2 (And.intro t3 (And.intro t7 (And.intro t11 (And.intro t12 (And.intro t13 (And.intro t14 (And.intro t15 (And.intro g1 (And.intro g2 (And.intro w4 g3')))))))))))) ?_)
  refine p_app (l := bb) (by (exact AX.ev0 t7)) (by (exact AX.ev0 t7)) (by omega) (by omega) ?_
  refine go_tn ?_
  (refine AX.run0 (And.intro t1 (And.intro t2 (And.intro t3 (And.intro t7 (And.intro t11 (And.intro t12 (And.intro t13 (And.intro t14 t15)))))))) ?_)
  obtain ⟨m, hm⟩ : ∃ m : Nat, bits_ = (m : Int) := ⟨bits_.toNat, by omega⟩
  have hpa : at_ = (p : Int) := by omega
  subst hpa
  subst hm
  have hm32 : m < 4294967296 := by omega
  have hm0 : m ≠ 0 := fun e => g3 (by rw [e]; rfl)
  have hp4 : p + 4 ≤ bb.length := by omega
  refine awp_loop (fun mm ts h => ∃ (i : Nat), mm + i = 4 ∧
   h = ⟨stC st :: stC st :: stC { st with insts := st.insts.map (Sf.oldI 1), pends := [] } :: .cells 26 [.str st.lin, .int .i64 st.ser, .sl W o ((st.insts.map (Sf.oldI 1)).map Sf.Inst.cells), .sl 0 .nil [], .sl 7 .no (st.outs.map Sf.Outp.cells)] :: (l ++ [.row 5 (bcA (hitK bb p m i))]), t⟩ ∧
   ts 1 = .int .i64 (p : Nat) ∧ ts 2 = .int .u32 (m : Nat) ∧ ts 18 = .bs (l.length + 1 + 1 + 1 + 1) 1 bb.length ∧ ts 19 = .int .i64 (i : Nat)) 4 ?_ ?_
  ·refine ⟨0, by omega, rfl, by (exact AX.ev0 t1), by (exact AX.ev0 t2), ?_, ?_⟩
   ·exact rfl
   ·exact rfl
  rintro mm ts h ⟨i, hi, rfl, t1, t2, t18, t19⟩
  dsimp only [stC]
  by_cases hi4 : i < 4
  ·have h4 : (i : Int) < 4 := by omega
   have wi : IntKind.i64.wrap ((p : Int) + (i : Int)) = ((p + i : Nat) : Int) := by rw [wrap64 (by omega) (by omega)]; omega
   have ei : IntKind.i64.wrap ((i : Int) + 1) = ((i + 1 : Nat) : Int) := by rw [wrap64 (by omega) (by omega)]; omega
   have hq0 : (0 : Int) ≤ ((p + i : Nat) : Int) := by omega
   have hq1 : ((p + i : Nat) : Int) < ((bb.length : Nat) : Int) := by omega
   have hXl : (hitK bb p m i).length = bb.length := hitK_len bb p m i
   obtain ⟨X, hX⟩ : ∃ X, hitK bb p m i = X := ⟨_, rfl⟩
   have hY : hitK bb p m (i + 1) = hit1 X (p + i) (UInt8.ofNat (m / 2 ^ (8 * i))) := by rw [← hX]; rfl
   rw [hX] at hXl ⊢
   have hle : p + i + 1 ≤ (bcA X).length := by rw [bcA_len]; omega
   have hld := bcA_get X (p + i) (by omega)
   have hst := (bcA_set X (p + i) (UInt8.ofNat (m / 2 ^ (8 * i)))).symm
   rw [← hY] at hst
   have hxb := xor_byte (X.getD (p + i) 0) m i hm32 hi4
   have hsh : shA .shr .u32 (m : Int) (IntKind.u64.wrap (IntKind.i64.wrap (8 * (i : Int)))) = some (.int .u32 ((m : Int).fdiv (2 ^ (min (Int.toNat (IntKind.u64.wrap (IntKind.i64.wrap (8 * (i : Int))))) 32)))) := if_pos (by
    rw [IntKind.wrap_u64]
    exact Int.emod_nonneg _ (by decide))
   (refine AX.run0 (And.intro t1 (And.intro t2 (And.intro t18 (And.intro t19 (And.intro hsh (And.intro h4 (And.intro wi (And.intro hq0 (And.intro hq1 (And.intro hle (And.intro hld (And.intro hst (And.intro hxb (And.intro ei (And.intro @set_new Nat.mul_one))))))))))))))) ?_)
   exact ⟨mm - 1, by omega, i + 1, by omega, rfl, by (exact AX.ev0 t1), by (exact AX.ev0 t2), by (exact AX.ev0 t18), by (exact AX.ev0 ei)⟩
  ·have h4 : ¬ (i : Int) < 4 := by omega
   obtain rfl : i = 4 := by omega
   have hX4 : hitK bb p m 4 = hit bb p m := hitK_four bb p m
   have hXl : (hit bb p m).length = bb.length := by rw [← hX4]; exact hitK_len bb p m 4
   rw [hX4]
   have hbad : Crc.ver (hit bb p m) = ([], 20) := by
    have hf := hit_flipped bb p m hp4 hm32
    rw [show decide (m ≠ 0) = true from decide_eq_true hm0] at hf
    rw [h2a] at hf hp4 ⊢
    refine burst_bad _ _ (8 * p) ?_ hf
    have : (Crc.app (Sf.stE 2 st)).length = (Sf.stE 2 st).length + 4 := by unfold Crc.app; simp [Crc.four_length]
    omega
   have hDk := a_decodeAny (hit bb p m) (by omega)
   have hne := decode_bad _ hbad
   obtain ⟨⟨⟨l1, s1, i1, p1, o1⟩, ee⟩, hde⟩ : ∃ q, Sf.decode (hit bb p m) = q := ⟨_, rfl⟩
   rw [hde] at hDk hne
   have ek : (ee != 0) = true := by simpa using hne
   unfold Sf.St.A at hDk
   dsimp only at hDk
   (refine AX.run0 (And.intro t1 (And.intro t2 (And.intro t18 (And.intro t19 h4)))) ?_)
   refine p_str (i := l.length + 1 + 1 + 1 + 1) (l := hit bb p m) (by rw [hXl]; (exact AX.ev0 t18)) ?_ ?_
   ·exact (by simp)
   (refine AX.run0 True.intro ?_)
   refine use (hDk _) ?_
   (refine AX.run0 ek ?_)
   refine use (awake32 _) ?_
   (refine AX.run0 True.intro ?_)
   exact ⟨_, le_refl _, rfl⟩
end AX
end Go.Proofs.YtnjkemakcejceaaGreatDoor

namespace Go.Proofs.YtnjkemakcejceaaGreatDoor
open Go.RowKit Go.ChangeShapes Go.WideShapes
def Sf.St.bulkD (s : Sf.St) : Nat := s.toD.bulk
namespace AX
def kState : List TypeId := [26, 42, 95, 98, 22, 23, 24, 40, 36, 3, 9, 4, 37, 38]
theorem kState_plain : plainAll Tryz.prog kState = true := by kernel_rfl
section
variable {H : Type} {enc : TypeId × Value → H} {w : World} {base : Nat} {spare : Nat → Bool} {held : Bool} {r : Reach} {b0 : Nat} {v : Value} {d : DataW H} {p : List MemPlace}
set_option maxRecDepth 100000 in
theorem arg_dataB {K : List TypeId} {t : TypeId} {fs : Array Field} (hK : plainAll Tryz.prog K = true) (ht : t ∈ K) (hu : Tryz.prog.underlying t = some (.struct fs)) (hval : Value.okWide Tryz.prog w r b0 t v) (h : DataW.Trod enc Tryz.prog w base spare held t v d p) :
  ∃ x : D, Conf Tryz.prog x t ∧ x.bulk ≤ Rows.uptoBulk d ∧ Rep (Ctx.of w) (.agg x.cells) v := by
 obtain ⟨cs, rfl, _⟩ := okWide_struct hu hval
 obtain ⟨fuel, hf⟩ := h
 obtain ⟨x, h1, h2, h3⟩ := trod_rdB hK fuel t ht _ _ hf
 exact ⟨x, h2, h3, rep_agg.2 ⟨cs.toList, by simp, rd_of h1⟩⟩
set_option maxRecDepth 100000 in
theorem arg_conf_state (hval : Value.okWide Tryz.prog w r b0 26 v) (h : DataW.Trod enc Tryz.prog w base spare held 26 v d p) :
  ∃ (x : Sf.St) (_ : x.Wf ∧ x.bulkD ≤ Rows.uptoBulk d), Rep (Ctx.of w) x.A v := by
 obtain ⟨x, h1, h2, h3⟩ := arg_dataB kState_plain (by decide) Tryz.underlying26 hval h
 obtain ⟨y, rfl, h4⟩ := Sf.conf_st h1
 rw [Sf.St.cells_toD] at h3
 exact ⟨y, ⟨h4, h2⟩, h3⟩
end
theorem w_backX (st : Sf.St) (k : st.Wf ∧ st.bulkD ≤ 1048576) (a : Int) (ka : (Lit.int .i64 a).wf = true) (b : Int) (kb : (Lit.int .u32 b).wf = true) :
  ACall Tryz.prog GT 3 [st.A, .int .i64 a, .int .u32 b] ⟨[], []⟩ fun r _ => r = .bool true :=
 w_back st (Sf.fit_of k.1 (Nat.le_trans k.2 (by decide))) a b (wf_i64 ka).1 (wf_i64 ka).2 (wf_u32 kb).1 (wf_u32 kb).2
end AX
end Go.Proofs.YtnjkemakcejceaaGreatDoor
