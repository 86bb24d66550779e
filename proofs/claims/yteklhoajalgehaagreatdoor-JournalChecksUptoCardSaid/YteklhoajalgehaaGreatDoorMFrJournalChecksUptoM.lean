/- Part of what the proof needs. -/
import Derived.Test.YteklhoajalgehaaGreatDoorMFrJournalChecksUptoE
import Derived.Test.YteklhoajalgehaaGreatDoorMFrJournalChecksUptoF
import Derived.Test.YteklhoajalgehaaGreatDoorMFrJournalChecksUptoH
import Derived.Test.YteklhoajalgehaaGreatDoorMFrJournalChecksUptoJ
import Derived.Test.YteklhoajalgehaaGreatDoorMFrJournalChecksUptoL
set_option maxHeartbeats 4000000
set_option linter.unusedSimpArgs false
set_option linter.unusedVariables false
set_option linter.unnecessarySimpa false
namespace Go.Proofs.YteklhoajalgehaaGreatDoor
open Go.RowKit
namespace Wire
end Wire
namespace Val
end Val
namespace AX
theorem Gs.grow {E : TypeId} {W : Nat} {t : List (TypeId × Nat × Nat)} {W1 : Nat} {o1 : Own} {rows : List (List A)} (hg : Gs E W 0 ⟨[],t⟩ rows (.sl W1 o1 rows)) (bytes : Nat) (y : List A) (h1 : rows.length + 1 ≤ 1000000000) (h2 : bytes ≤ 1000) :
  ∃ W' o' t',(∀ b,appA ⟨b,t⟩ E W bytes (.sl W1 o1 rows) (.sl W .no [y]) = some (.sl W' o' (rows ++ [y]),⟨b,t'⟩)) ∧ Gs E W 0 ⟨[],t'⟩ (rows ++ [y]) (.sl W' o' (rows ++ [y])) ∧ (∀ (E' : TypeId) (W' : Nat) (rows' : List (List A)) (x'' : A),E' ≠ E → Gs E' W' 0 ⟨[],t⟩ rows' x'' → Gs E' W' 0 ⟨[],t'⟩ rows' x''):=by
 obtain ⟨x',t',k1,k2,k3,k4,k5⟩:=hg.app (Nat.zero_le _) bytes y h1 h2
 obtain ⟨W',o',rfl⟩:=(k2 []).sl
 exact ⟨W',o',t',k1,k2 [],fun E' W' rows' x'' hne hg' => Gs.keep hg' fun k n hh => k5 k _ _ _ hne hh⟩
end AX
end Go.Proofs.YteklhoajalgehaaGreatDoor

namespace Go.Proofs.YteklhoajalgehaaGreatDoor
namespace Sf
structure Rs where
 r : Wire.St
 bad : Bool
def Rs.fails (s : Rs) : Bool:=s.bad || s.r.e != 0
def numS (s : Rs) : Rs × Int:=(⟨(Wire.numR s.r).1,s.bad⟩,(Wire.numR s.r).2)
def strS (s : Rs) : Rs × List UInt8:=(⟨(Wire.strR s.r).1,s.bad⟩,(Wire.strR s.r).2)
def cntS (s : Rs) : Rs × Nat:=(⟨(Wire.cntR s.r 1).1,s.bad⟩,(Wire.cntR s.r 1).2)
def flagS (s : Rs) : Rs × Bool:=
 let q:=Wire.numR s.r
 (⟨q.1,s.bad || (q.2 != 0 && q.2 != 1)⟩,q.2 == 1)
def valueS (s : Rs) : Rs × V:=
 let x:=Val.readValue s.r
 (⟨x.1,s.bad || x.2.1 != 0⟩,x.2.2)
def wordsS : Nat → Rs → List (List UInt8) → Rs × List (List UInt8)
 | 0,s,l => (s,l)
 | c + 1,s,l => wordsS c (strS s).1 (l ++ [(strS s).2])
def instS (ver : Int) (s : Rs) : Rs × Inst:=
 let a:=strS s
 let b:=strS a.1
 let c:=strS b.1
 let d:=strS c.1
 let v:=valueS d.1
 let n:=numS v.1
 let t:=flagS n.1
 let f:=if ver = 2 then flagS t.1 else (t.1,false)
 let k:=cntS f.1
 let w:=wordsS k.2 k.1 []
 (w.1,⟨a.2,b.2,c.2,d.2,v.2,n.2,t.2,f.2,w.2⟩)
def pendS (s : Rs) : Rs × Pend:=
 let a:=strS s
 let b:=strS a.1
 let c:=strS b.1
 (c.1,⟨a.2,b.2,c.2⟩)
def outS (s : Rs) : Rs × Outp:=
 let a:=strS s
 let v:=valueS a.1
 let f:=flagS v.1
 (f.1,⟨a.2,v.2,f.2⟩)
def instsS (ver : Int) : Nat → Rs → List Inst → Rs × List Inst × Bool
 | 0,s,l => (s,l,true)
 | c + 1,s,l => if s.fails then (s,l,false) else instsS ver c (instS ver s).1 (l ++ [(instS ver s).2])
def pendsS : Nat → Rs → List Pend → Rs × List Pend
 | 0,s,l => (s,l)
 | c + 1,s,l => pendsS c (pendS s).1 (l ++ [(pendS s).2])
def outsS : Nat → Rs → List Outp → Rs × List Outp × Bool
 | 0,s,l => (s,l,true)
 | c + 1,s,l => if s.fails then (s,l,false) else outsS c (outS s).1 (l ++ [(outS s).2])
def stateS (ver : Int) (s : Rs) : Rs × St:=
 let a:=strS s
 let n:=numS a.1
 let ci:=cntS n.1
 let i:=instsS ver ci.2 ci.1 []
 if i.2.2 = false then (i.1,⟨a.2,n.2,i.2.1,[],[]⟩)
 else
  let p:=if ver = 2 then pendsS (cntS i.1).2 (cntS i.1).1 [] else (i.1,[])
  let co:=cntS p.1
  let o:=outsS co.2 co.1 []
  (o.1,⟨a.2,n.2,i.2.1,p.2,o.2.1⟩)
end Sf
end Go.Proofs.YteklhoajalgehaaGreatDoor

namespace Go.Proofs.YteklhoajalgehaaGreatDoor
open Go.RowKit
namespace Sf
def Inst.cells : Inst → List AX.A
 | ⟨a,d,i,t,.mk k n s is ks,v,tn,fi,ds⟩ => [.str a,.str d,.str i,.str t,.int .i64 k,.int .i64 n,.str s,.sl 5 .no (V.cellss is),.sl 1 .no (strsA ks),.int .i64 v,.bool tn,.bool fi,.sl 1 .no (strsA ds)]
def Pend.cells (p : Pend) : List AX.A:=[.str p.addr,.str p.typ,.str p.tok]
def Outp.cells : Outp → List AX.A
 | ⟨m,.mk k n s is ks,b⟩ => [.str m,.int .i64 k,.int .i64 n,.str s,.sl 5 .no (V.cellss is),.sl 1 .no (strsA ks),.bool b]
def St.A (s : St) : AX.A:=.agg [.str s.lin,.int .i64 s.ser,.sl 13 .no (s.insts.map Inst.cells),.sl 3 .no (s.pends.map Pend.cells),.sl 7 .no (s.outs.map Outp.cells)]
end Sf
namespace Val
end Val
namespace Sf
end Sf
namespace AX
end AX
structure Jr where
 kind : Int
 base : Sf.St
 step : Int
 op : Int
 addr : List UInt8
 dep : List UInt8
 typ : List UInt8
 tok : List UInt8
 err : Int
 after : Sf.Inst
namespace Jr
def shortB (l : List (List UInt8)) : Bool:=l.all fun s => decide ((s.length : Int) ≤ 4096)
def zeroV : V → Bool
 | .mk k n s is ks => k == 0 && n == 0 && s == [] && (is.length : Int) == 0 && (ks.length : Int) == 0
def noneB (x : Sf.Inst) : Bool:=zeroV x.attrs && x.addr == [] && x.dep == [] && x.id == [] && x.typ == [] && x.ver == 0 && !x.tainted && !x.first && (x.deps.length : Int) == 0
def emptyB (s : Sf.St) : Bool:=s.lin == [] && s.ser == 0 && (s.insts.length : Int) == 0 && (s.pends.length : Int) == 0 && (s.outs.length : Int) == 0
def instB (x : Sf.Inst) : Bool:=shortB [x.addr,x.dep,x.id,x.typ] && shortB x.deps && decide ((x.deps.length : Int) ≤ 512) && Val.checkZ x.attrs == 0 && decide (x.ver ≥ 0) && decide (x.ver ≤ 9007199254740992)
def stepB (r : Jr) : Bool:=decide (r.step ≥ 0) && decide (r.step < 2048) && decide (r.op ≥ 1) && decide (r.op ≤ 4) && shortB [r.addr,r.dep,r.typ]
def bareB (r : Jr) : Bool:=r.step == 0 && r.op == 0 && r.addr == [] && r.dep == [] && r.typ == []
def makesB (op : Int) : Bool:=op == 1 || op == 2
def afterB (r : Jr) : Bool:=noneB r.after || makesB r.op && instB r.after
def badB (r : Jr) : Bool:=r.kind != 1 && !emptyB r.base || r.kind != 2 && r.tok != [] || r.kind != 4 && r.err != 0
def validB (r : Jr) : Bool:=
 if badB r = true then false
 else if r.kind = 1 ∨ r.kind = 5 then bareB r && noneB r.after
 else if r.kind = 2 then stepB r && noneB r.after && shortB [r.tok] && (r.op == 1 || r.tok == [])
 else if r.kind = 3 then stepB r && afterB r
 else if r.kind = 4 then stepB r && afterB r && decide (r.err ≥ 1) && decide (r.err ≤ 42)
 else false
def cells (r : Jr) : List AX.A:=
 [.int .i64 r.kind,.str r.base.lin,.int .i64 r.base.ser,.sl 13 .no (r.base.insts.map Sf.Inst.cells),.sl 3 .no (r.base.pends.map Sf.Pend.cells),.sl 7 .no (r.base.outs.map Sf.Outp.cells),.int .i64 r.step,.int .i64 r.op,.str r.addr,.str r.dep,.str r.typ,.str r.tok,.int .i64 r.err] ++ Sf.Inst.cells r.after
end Jr
namespace AX
theorem rowj_at {α : Type} (f : α → List A) (l : List α) (i : Nat) (h : i < l.length) (hl : l.length ≤ 4611686018427387904) :
  (l.map f).length = l.length ∧ (i : Int) < (l.length : Int) ∧ (0 : Int) ≤ (i : Int) ∧ (l.map f).getD i [] = f l[i] ∧ IntKind.i64.wrap ((i : Int) + 1) = ((i + 1 : Nat) : Int):=
 ⟨List.length_map _,by omega,by omega,by simp [List.getD,h],by rw [wrap64 (by omega) (by omega)]; omega⟩
theorem rowj_end {α : Type} (f : α → List A) (l : List α) (i : Nat) (h : l.length ≤ i) : (l.map f).length = l.length ∧ ¬ (i : Int) < (l.length : Int):=⟨List.length_map _,by omega⟩
end AX
def gfind {α : Type} (n : Int) : List (Int × α) → Option α
 | [] => none
 | (k,x) :: l => if n = k then some x else gfind n l
def gput {α : Type} (n : Int) (x : α) : List (Int × α) → List (Int × α)
 | [] => [(n,x)]
 | (k,y) :: l => if n = k then (n,x) :: l else (k,y) :: gput n x l
def gmap {α : Type} (f : α → AX.A) (l : List (Int × α)) : List (Int × AX.A):=l.map fun e => (e.1,f e.2)
section
variable {α : Type} (f : α → AX.A) (n : Int)
theorem gmap_find : ∀ l : List (Int × α),AX.mfind n (gmap f l) = (gfind n l).map f
 | [] => rfl
 | (k,x) :: l => by
  show AX.mfind n ((k,f x) :: gmap f l) = _
  unfold AX.mfind gfind
  split
  ·rfl
  ·exact gmap_find l
theorem gmap_put (x : α) : ∀ l : List (Int × α),AX.mput n (f x) (gmap f l) = gmap f (gput n x l)
 | [] => rfl
 | (k,y) :: l => by
  show AX.mput n (f x) ((k,f y) :: gmap f l) = _
  unfold AX.mput gput
  split
  ·rfl
  ·rw [gmap_put x l]; rfl
theorem gmap_length (l : List (Int × α)) : (gmap f l).length = l.length:=List.length_map _
theorem gmap_clock (l : List (Int × α)) (c : Nat) : AX.mclock n (gmap f l) c = if (gfind n l).isSome = true then c else c + 1:=by
 unfold AX.mclock
 rw [gmap_find]
 cases gfind n l <;> rfl
end
structure Fo where
 n : Int
 ended : Bool
 ints : List (Int × Jr)
 ress : List (Int × Bool)
 c1 : Nat
 c2 : Nat
namespace Fo
def next (f : Fo) (r : Jr) : Bool × Fo:=
 let f1 : Fo:={ f with n:=IntKind.i64.wrap (f.n + 1) }
 if (f.ended || !((f.n == 0) == (r.kind == 1))) = true then (false,f1)
 else if r.kind = 2 then (!(gfind r.step f.ints).isSome,{ f1 with ints:=gput r.step r f.ints,c1:=if (gfind r.step f.ints).isSome = true then f.c1 else f.c1 + 1 })
 else if r.kind = 3 ∨ r.kind = 4 then
  ((match gfind r.step f.ints with
   | some i => !((gfind r.step f.ress).getD false) && i.op == r.op && i.addr == r.addr && i.typ == r.typ
   | none => false),{ f1 with ress:=gput r.step true f.ress,c2:=if (gfind r.step f.ress).isSome = true then f.c2 else f.c2 + 1 })
 else if r.kind = 5 then ((f.ints.length : Int) == (f.ress.length : Int),{ f1 with ended:=true })
 else (true,f1)
def check : Fo → List Jr → Int
 | _,[] => 0
 | f,r :: l => if (!r.validB || (r.kind == 1 && Sf.checkZ r.base != 0)) = true then 1 else if (f.next r).1 = true then check (f.next r).2 l else 38
end Fo
namespace Jr
def endedB (n : Int) (l : List Jr) : Bool:=l.any fun r => (r.kind == 3 || r.kind == 4) && r.step == n
def unfin (l : List Jr) : List Jr:=l.filter fun r => r.kind == 2 && !endedB r.step l
theorem unfin_length (l : List Jr) : (unfin l).length ≤ l.length:=List.length_filter_le _ _
def ends (l : List Jr) : List (Int × Bool):=l.foldl (fun m r => if (r.kind == 3 || r.kind == 4) = true then gput r.step true m else m) []
end Jr
end Go.Proofs.YteklhoajalgehaaGreatDoor

namespace Go.Proofs.YteklhoajalgehaaGreatDoor
open Go.RowKit
namespace Sf
end Sf
namespace AX
theorem a_liteHasPrefix (s p : List UInt8) (h : Hp) : ACall Tryz.prog GT 164 [.str s,.str p] h fun r h' => r = .bool (decide (p.length ≤ s.length) && s.take p.length == p) ∧ h' = h:=by
 refine pcall ?_ rfl (by simp [A.pure,A.data]) h
 refine fo ?_
 by_cases hl : p.length ≤ s.length
 ·have h1 : (s.length : Int) ≥ (p.length : Int):=by omega
  have h2 : (p.length : Int) ≤ (s.length : Int):=by omega
  refine go0 (ai h1 h2) ?_
  exact ⟨_,le_refl _,by rw [tupA_1,decide_eq_true hl]; rfl⟩
 ·have h1 : ¬ (s.length : Int) ≥ (p.length : Int):=by omega
  refine go0 h1 ?_
  exact ⟨_,le_refl _,by rw [tupA_1,decide_eq_false hl]; rfl⟩
theorem a_hasPrefix (s p : List UInt8) (h : Hp) : ACall Tryz.prog GT 95 [.str s,.str p] h fun r h' => r = .bool (decide (p.length ≤ s.length) && s.take p.length == p) ∧ h' = h:=by
 refine pcall ?_ rfl (by simp [A.pure,A.data]) h
 refine fo ?_
 refine go0 ti ?_
 refine gc0 ti ?_
 refine (a_liteHasPrefix s p _).mono ?_
 rintro v h1 ⟨rfl,rfl⟩
 refine go0 ti ?_
 exact ⟨_,le_refl _,rfl⟩
def magic : List UInt8:=[80,86,83,84]
def preB (s : List UInt8) : Bool:=decide (magic.length ≤ s.length) && s.take magic.length == magic
def versionS (s : List UInt8) : Int × Int:=
 if preB s = false then (0,2) else
 let r:=Wire.numR ⟨s.drop 4,0⟩
 if r.1.e ≠ 0 then (0,2) else if r.2 ≠ 1 ∧ r.2 ≠ 2 then (0,21) else (r.2,0)
theorem go_once {P : Program} {G : World → Prop} {c : ACode} {Q : AExit → Ts → Hp → Prop} {ts : Ts} {h : Hp} (k : awp P G c (thenA (fun _ _ => False) Q) ts h) : awp P G (.loop c) Q ts h:=⟨1,k⟩
theorem WP.bx {i : Nat} {ver : Int} {l : List UInt8} {h h' : Hp} (hp : WP i ver l h h') (h0 : l ≠ []) : h'.b[i]? = some (wtr ver l):=by
 rcases hp.1 with h1 | ⟨h1,_⟩
 ·exact h1
 ·exact absurd h1 h0
theorem wtr_loc (ver : Int) (l : List UInt8) : (wtr ver l).loc 0:=by
 intro o x h
 simp only [wtr] at h
 split at h
 ·injection h with h; subst h; rfl
 ·cases h
theorem liftW {f : FuncId} {args : List A} {ver : Int} {l l' : List UInt8} (hl' : l' ≠ []) (hc : ACall Tryz.prog GT f (.ptr 0 0 :: args) ⟨[wtr ver l],[]⟩ fun u h' => u = .tup [] ∧ WP 0 ver l' ⟨[wtr ver l],[]⟩ h') (ha : A.locL 0 args = true) {h : Hp} {i : Nat} (hb : h.b[i]? = some (wtr ver l)) :
  ACall Tryz.prog GT f (.ptr i 0 :: args) h fun u h' => u = .tup [] ∧ h' = ⟨h.b.set i (wtr ver l'),h.t⟩:=by
 have h1 : ACall Tryz.prog GT f (.ptr 0 0 :: args) ⟨[wtr ver l],[]⟩ fun u h' => ∃ b',h'.b[0]? = some b' ∧ u = .tup [] ∧ b' = wtr ver l':=hc.mono fun u h' ⟨e,hp⟩ => ⟨wtr ver l',WP.bx hp hl',e,rfl⟩
 refine (ACall.lift1 h1 ha (wtr_loc ver l) ?_ hb).mono ?_
 ·rintro u b' ⟨rfl,rfl⟩
  exact ⟨rfl,wtr_loc ver l'⟩
 ·rintro u h' ⟨b',⟨rfl,rfl⟩,rfl⟩
  exact ⟨rfl,rfl⟩
theorem num_ne (n : Int) : Wire.num n ≠ []:=by
 have:=(Wire.encF_len 9 (Wire.zig n)).1
 intro e
 have h : (Wire.num n).length = 0:=by rw [e]; rfl
 unfold Wire.num at h
 omega
theorem app_ne {a b : List UInt8} (h : b ≠ []) : a ++ b ≠ []:=by simp [h]
theorem wn {h : Hp} {i : Nat} {ver : Int} {l : List UInt8} (hb : h.b[i]? = some (wtr ver l)) (n : Int) (hlen : l.length + 10 ≤ 1000000000) (h0 : -9223372036854775808 ≤ n) (h1 : n ≤ 9223372036854775807) :
  ACall Tryz.prog GT 266 [.ptr i 0,.int .i64 n] h fun u h' => u = .tup [] ∧ h' = ⟨h.b.set i (wtr ver (l ++ Wire.num n)),h.t⟩:=
 liftW (app_ne (num_ne n)) (a_wnum (h:=⟨[wtr ver l],[]⟩) (.inl rfl) n hlen h0 h1) rfl hb
theorem wf {h : Hp} {i : Nat} {ver : Int} {l : List UInt8} (hb : h.b[i]? = some (wtr ver l)) (b : Bool) (hlen : l.length + 10 ≤ 1000000000) :
  ACall Tryz.prog GT 269 [.ptr i 0,.bool b] h fun u h' => u = .tup [] ∧ h' = ⟨h.b.set i (wtr ver (l ++ Sf.flagE b)),h.t⟩:=by
 refine fo ?_
 cases b
 ·refine run0 ti ?_
  refine use (wn hb _ hlen (by decide) (by decide)) ?_
  refine run0 ti ?_
  exact ⟨_,le_refl _,rfl,rfl⟩
 ·refine run0 ti ?_
  refine use (wn hb _ hlen (by decide) (by decide)) ?_
  refine run0 ti ?_
  exact ⟨_,le_refl _,rfl,rfl⟩
theorem map_getD {α : Type} (f : α → List A) (l : List α) (j : Nat) (hj : j < l.length) : (l.map f).getD j [] = f l[j]:=by simp [List.getD,hj]
theorem a_stext (s : List UInt8) (hs : s.length ≤ 2000000) (h : Hp) : ACall Tryz.prog GT 103 [.str s] h fun r h' => r = .bool (s != [] && Str.valid s) ∧ h' = h:=by
 refine pcall ?_ rfl (by simp [A.pure,A.data]) h
 refine fo ?_
 rcases bool_or (s != []) with h1 | h1
 ·refine go0 h1 ?_
  refine gc0 h1 ?_
  refine (a_valid s hs _).mono ?_
  rintro v h1' ⟨rfl,rfl⟩
  refine go0 h1 ?_
  exact ⟨_,le_refl _,by rw [tupA_1,h1]; rfl⟩
 ·refine go0 h1 ?_
  exact ⟨_,le_refl _,by rw [tupA_1,h1]; rfl⟩
theorem a_csAppend (s : List UInt8) (hs : s.length ≤ 1000000000) (h : Hp) : ACall Tryz.prog GT 120 [.str s] h fun v h' => v = .str (Crc.app s) ∧ h' = h:=
 acall_imp (args1 r_str) (fun w hg => append_any ⟨s.toArray⟩ w (by rw [size_mk]; exact hs)) (fun C => rep_str.2 rfl) h
theorem a_csVerify (s : List UInt8) (hs : s.length ≤ 1000000000) (h : Hp) : ACall Tryz.prog GT 96 [.str s] h fun v h' => v = .tup [.str (Crc.ver s).1,.int .i64 (Crc.ver s).2] ∧ h' = h:=
 acall_imp (args1 r_str) (fun w hg => verify_any ⟨s.toArray⟩ w (by rw [size_mk]; exact hs)) (fun C => rep_tup.2 ⟨_,rfl,repL_cons.2 ⟨_,_,rfl,rep_str.2 rfl,repL_cons.2 ⟨_,_,rfl,rep_int.2 rfl,repL_nil.2 rfl⟩⟩⟩) h
def stE : A:=.agg [.str [],.int .i64 0,.sl 0 .nil [],.sl 0 .nil [],.sl 0 .nil []]
end AX
namespace Sf
def zero : St:=⟨[],0,[],[],[]⟩
def encode (ver : Int) (st : St) : List UInt8 × Int:=
 if checkZ st ≠ 0 then ([],checkZ st) else if 1048572 < (stE ver st).length then ([],3) else (Crc.app (stE ver st),0)
def decode (s : List UInt8) : St × Int:=
 if 1048576 < s.length then (zero,3)
 else if AX.preB s = false then (zero,2)
 else if (Crc.ver s).2 ≠ 0 then (zero,20)
 else if (AX.versionS (Crc.ver s).1).2 ≠ 0 then (zero,(AX.versionS (Crc.ver s).1).2)
 else
  let r:=stateS (AX.versionS (Crc.ver s).1).1 ⟨(Wire.numR ⟨(Crc.ver s).1.drop 4,0⟩).1,false⟩
  if r.1.fails || decide (0 < r.1.r.rest.length) || checkZ r.2 != 0 then (zero,2) else (r.2,0)
end Sf
namespace AX
def SCheck (st : Sf.St) : Prop:=∀ h,ACall Tryz.prog GT 58 [st.A] h fun r h' => r = .int .i64 (Sf.checkZ st) ∧ h' = h
end AX
end Go.Proofs.YteklhoajalgehaaGreatDoor

namespace Go.Proofs.YteklhoajalgehaaGreatDoor
open Go.RowKit
open Go.Op (bytesLess)
namespace Adr
def Step.cells (s : Step) : List AX.A:=[.str s.name,.int .i64 s.key.kind,.int .i64 s.key.num,.str s.key.str]
def Ad.cells (a : Ad) : List AX.A:=[.sl 4 .no (a.mods.map Step.cells),.bool a.data,.str a.type,.str a.name,.int .i64 a.key.kind,.int .i64 a.key.num,.str a.key.str]
end Adr
namespace AX
def cmpZ (a b : List UInt8) : Int:=if a == b then 0 else if bytesLess a b then -1 else 1
structure Leafs : Prop where
 parse : ∀ (s : List UInt8),s.length ≤ 2000000 → ∀ h,ACall Tryz.prog GT 183 [.str s] h fun r h' => r = .tup [.agg (Adr.parse s).1.cells,.int .i64 (Adr.parse s).2] ∧ h' = h
 static : ∀ (s : List UInt8),s.length ≤ 2000000 → ∀ h,ACall Tryz.prog GT 234 [.str s] h fun r h' => r = .tup [.str (Adr.static s).1,.int .i64 (Adr.static s).2] ∧ h' = h
 ident : ∀ (s : List UInt8),s.length ≤ 2000000 → ∀ h,ACall Tryz.prog GT 184 [.str s] h fun r h' => r = .bool (Adr.ident s) ∧ h' = h
 num : ∀ (s : List UInt8),s.length ≤ 2000000 → ∀ h,ACall Tryz.prog GT 229 [.str s] h fun r h' => r = .tup [.int .i64 (Num.parse s).1,.int .i64 (Num.parse s).2] ∧ h' = h
 cmp : ∀ (a b : List UInt8) h,ACall Tryz.prog GT 182 [.str a,.str b] h fun r h' => r = .int .i64 (cmpZ a b) ∧ h' = h
 known : ∀ (v : V),v.lens → ∀ h,ACall Tryz.prog GT 179 [v.A] h fun r h' => r = .bool (Sf.known v) ∧ h' = h
 text : ∀ (s : List UInt8),s.length ≤ 2000000 → ∀ h,ACall Tryz.prog GT 103 [.str s] h fun r h' => r = .bool (Sf.text s) ∧ h' = h
theorem a_managed (L : Leafs) (s t : List UInt8) (hs : s.length ≤ 2000000) (h : Hp) : ACall Tryz.prog GT 107 [.str s,.str t] h fun r h' => r = .bool (Sf.managed s t) ∧ h' = h:=by
 refine pcall ?_ rfl (by simp [A.pure,A.data]) h
 refine fo ?_
 have hp:=fun h => L.parse s hs h
 unfold Sf.managed
 obtain ⟨⟨⟨mods,data,ty,nm,⟨kk,kn,ks⟩⟩,e⟩,he⟩ : ∃ x,Adr.parse s = x:=⟨_,rfl⟩
 rw [he] at hp ⊢
 simp only [Adr.Ad.cells] at hp
 refine run0 ti ?_
 refine use (hp _) ?_
 dsimp only
 rcases bool_or (e == 0) with e0 | e0
 ·rw [e0]
  (refine AX.run0 e0 ?_)
  first
  | exact ⟨_, le_refl _, rfl⟩
  | (cases data
     · (refine AX.run0 AX.ti ?_)
       exact ⟨_, le_refl _, rfl⟩
     · (refine AX.run0 AX.ti ?_)
       exact ⟨_, le_refl _, rfl⟩)
 ·rw [e0]
  (refine AX.run0 e0 ?_)
  first
  | exact ⟨_, le_refl _, rfl⟩
  | (cases data
     · (refine AX.run0 AX.ti ?_)
       exact ⟨_, le_refl _, rfl⟩
     · (refine AX.run0 AX.ti ?_)
       exact ⟨_, le_refl _, rfl⟩)
theorem a_key (L : Leafs) (s : List UInt8) (hs : s.length ≤ 2000000) (h : Hp) : ACall Tryz.prog GT 177 [.str s] h fun r h' => r = .bool ((Num.parse s).2 == 0 && decide (1 ≤ (Num.parse s).1)) ∧ h' = h:=by
 refine pcall ?_ rfl (by simp [A.pure,A.data]) h
 refine fo ?_
 have hp:=fun h => L.num s hs h
 obtain ⟨⟨n,e⟩,he⟩ : ∃ x,Num.parse s = x:=⟨_,rfl⟩
 rw [he] at hp ⊢
 dsimp only at hp ⊢
 refine run0 ti ?_
 refine use (hp _) ?_
 rcases bool_or (e == 0) with e0 | e0
 ·rw [e0]
  refine run0 e0 ?_
  exact ⟨_,le_refl _,rfl⟩
 ·rw [e0]
  refine run0 e0 ?_
  exact ⟨_,le_refl _,rfl⟩
theorem a_placeOf (x : Sf.Inst) (h : Hp) : ACall Tryz.prog GT 105 [.agg x.cells] h fun r h' => r = .agg [.str x.addr,.str x.dep] ∧ h' = h:=by
 obtain ⟨a,d,id,ty,⟨k,n,w,vi,vy⟩,v,tn,fi,ds⟩:=x
 refine pcall ?_ rfl (by simp [A.pure,A.data,Sf.Inst.cells]) h
 refine fo ?_
 dsimp only [Sf.Inst.cells]
 refine run0 ti ?_
 exact ⟨_,le_refl _,rfl⟩
theorem a_output (L : Leafs) (o : Sf.Outp) (hs : o.name.length ≤ 2000000) (hl : o.value.lens) (h : Hp) : ACall Tryz.prog GT 108 [.agg o.cells] h fun r h' => r = .int .i64 (Sf.outZ o) ∧ h' = h:=by
 have hi:=fun h => L.ident o.name hs h
 have hk:=fun h => L.known o.value hl h
 have hc:=fun h => a_vCheck o.value hl h
 obtain ⟨Z,hZ⟩ : ∃ Z,Sf.outZ o = Z:=⟨_,rfl⟩
 rw [hZ]
 unfold Sf.outZ at hZ
 obtain ⟨m,⟨k,n,w,vi,vy⟩,b⟩:=o
 dsimp only at hi hk hc hZ
 have hVA : (V.mk k n w vi vy).A = .agg [.int .i64 k,.int .i64 n,.str w,.sl 5 .no (V.cellss vi),.sl 1 .no (strsA vy)]:=by simp only [V.A,V.cells]
 rw [hVA] at hk hc
 refine pcall ?_ rfl (by simp [A.pure,A.data,Sf.Outp.cells]) h
 refine fo ?_
 dsimp only [Sf.Outp.cells]
 refine run0 ti ?_
 refine use (hi _) ?_
 cases hI : Adr.ident m
 ·rw [hI,if_pos (by decide)] at hZ
  refine run0 ti ?_
  exact ⟨_,le_refl _,by rw [← hZ]; rfl⟩
 rw [hI,if_neg (by decide)] at hZ
 refine run0 ti ?_
 refine use (hc _) ?_
 by_cases hz : Val.checkZ (.mk k n w vi vy) = 0
 rotate_left
 ·have e1 : (Val.checkZ (.mk k n w vi vy) != 0) = true:=by simp [hz]
  rw [if_pos hz] at hZ
  refine run0 e1 ?_
  exact ⟨_,le_refl _,by rw [← hZ]; rfl⟩
 have e1 : (Val.checkZ (.mk k n w vi vy) != 0) = false:=by simp [hz]
 rw [if_neg (by simp [hz])] at hZ
 refine run0 e1 ?_
 refine use (hk _) ?_
 cases hK : Sf.known (.mk k n w vi vy)
 ·rw [hK,if_pos (by decide)] at hZ
  refine run0 ti ?_
  exact ⟨_,le_refl _,by rw [← hZ]; rfl⟩
 ·rw [hK,if_neg (by decide)] at hZ
  refine run0 ti ?_
  exact ⟨_,le_refl _,by rw [← hZ]; rfl⟩
theorem a_statics (L : Leafs) (ds : List (List UInt8)) (hn : ds.length ≤ 1000000000) (hs : ∀ s ∈ ds,s.length ≤ 2000000) (h : Hp) : ACall Tryz.prog GT 180 [.sl 1 .no (strsA ds)] h fun r h' => r = .bool (Sf.depsB none ds) ∧ h' = h:=by
 refine pcall ?_ rfl (by simp [A.pure,A.data]) h
 refine fo ?_
 obtain ⟨D,hD⟩ : ∃ D,Sf.depsB none ds = D:=⟨_,rfl⟩
 rw [hD]
 have lm : (strsA ds).length = ds.length:=strsA_length ds
 refine run0 lm ?_
 refine awp_loop (fun mm ts h => ∃ (j : Nat),mm = ds.length - j ∧ j ≤ ds.length ∧ h = ⟨[],[]⟩ ∧ Sf.depsB (if j = 0 then none else ds[j - 1]?) (ds.drop j) = D ∧ ts 0 = .sl 1 .no (strsA ds) ∧ ts 7 = .sl 1 .no (strsA ds) ∧ ts 8 = .int .i64 (ds.length : Nat) ∧ ts 9 = .int .i64 (j : Nat)) ds.length ?_ ?_
 ·exact ⟨0,by omega,by omega,rfl,hD,by (exact ev0 ti),by (exact ev0 ti),by (exact ev0 lm),by (exact inv0 ti)⟩
 rintro mm ts h ⟨j,rfl,hjc,rfl,hit,t0,ta,tb,tc⟩
 by_cases hj : j < ds.length
 ·have hlt : (j : Int) < (ds.length : Int):=by omega
  have hlt' : (j : Int) < ((strsA ds).length : Int):=by rw [strsA_length]; exact hlt
  have hj0 : (0 : Int) ≤ (j : Int):=by omega
  have ei : IntKind.i64.wrap ((j : Int) + 1) = ((j + 1 : Nat) : Int):=by rw [wrap64 (by omega) (by omega)]; omega
  have hg:=strsA_get ds j hj
  have hst:=fun h => L.static ds[j] (hs _ (List.getElem_mem hj)) h
  rw [List.drop_eq_getElem_cons hj] at hit
  unfold Sf.depsB at hit
  have hsB : Sf.staticB ds[j] = ((Adr.static ds[j]).2 == 0 && (Adr.static ds[j]).1 == ds[j]):=rfl
  obtain ⟨⟨w,e⟩,hw⟩ : ∃ q,Adr.static ds[j] = q:=⟨_,rfl⟩
  rw [hw] at hst hsB
  dsimp only at hst hsB
  rw [hsB] at hit
  refine run0 (ai t0 (ai ta (ai tb (ai tc (ai hlt (ai hg (ai hlt' hj0))))))) ?_
  refine use (hst _) ?_
  by_cases he : e = 0
  rotate_left
  ·have e1 : (e != 0) = true:=by simp [he]
   have e2 : (e == 0) = false:=by simp [he]
   rw [e2,Bool.false_and,Bool.false_and,Bool.false_and] at hit
   subst hit
   refine run0 (ai t0 (ai ta (ai tb (ai tc e1)))) ?_
   exact ⟨_,le_refl _,rfl⟩
  have e1 : (e != 0) = false:=by simp [he]
  have e2 : (e == 0) = true:=by simp [he]
  rw [e2,Bool.true_and] at hit
  by_cases hw2 : w = ds[j]
  rotate_left
  ·have w1 : (w != ds[j]) = true:=by simp [hw2]
   have w2 : (w == ds[j]) = false:=by simp [hw2]
   rw [w2,Bool.false_and,Bool.false_and] at hit
   subst hit
   refine run0 (ai t0 (ai ta (ai tb (ai tc (ai e1 w1))))) ?_
   exact ⟨_,le_refl _,rfl⟩
  have w1 : (w != ds[j]) = false:=by simp [hw2]
  have w2 : (w == ds[j]) = true:=by simp [hw2]
  rw [w2,Bool.true_and] at hit
  cases j with
  | zero =>
   have h0 : ¬ ((0 : Nat) : Int) > 0:=by omega
   simp only [if_true,Val.badB,Bool.not_false,Bool.true_and] at hit
   refine run0 (ai t0 (ai ta (ai tb (ai tc (ai e1 (ai w1 (ai h0 ei))))))) ?_
   exact ⟨ds.length - 1,by omega,1,rfl,by omega,rfl,by rw [← hit]; simp [hj],by (exact ev0 t0),by (exact ev0 ta),by (exact ev0 tb),by (exact ev0 ei)⟩
  | succ i =>
   have h0 : ((i + 1 : Nat) : Int) > 0:=by omega
   have ej : IntKind.i64.wrap (((i + 1 : Nat) : Int) - 1) = (i : Int):=by rw [wrap64 (by omega) (by omega)]; omega
   have hg2:=strsA_get ds i (by omega)
   have hi' : (i : Int) < ((strsA ds).length : Int):=by omega
   have hi0 : (0 : Int) ≤ (i : Int):=by omega
   have hki : ds[i + 1 - 1]? = some (ds[i]'(by omega)):=List.getElem?_eq_getElem (by omega)
   rw [if_neg (by omega),hki] at hit
   simp only [Val.badB] at hit
   rw [Val.less_total] at hit
   rcases bool_or (bytesLess ds[i + 1] ds[i] || ds[i + 1] == ds[i]) with hb | hb
   ·rw [hb] at hit
    refine run0 (ai t0 (ai ta (ai tb (ai tc (ai e1 (ai w1 (ai h0 (ai ej (ai hg2 (ai hi' (ai hi0 (ai hb ei)))))))))))) ?_
    first
    | (subst hit; exact ⟨_,le_refl _,rfl⟩)
    | exact ⟨ds.length - (i + 1 + 1),by omega,i + 1 + 1,rfl,by omega,rfl,by rw [← hit]; simp [hj],by (exact ev0 t0),by (exact ev0 ta),by (exact ev0 tb),by (exact ev0 ei)⟩
   ·rw [hb] at hit
    refine run0 (ai t0 (ai ta (ai tb (ai tc (ai e1 (ai w1 (ai h0 (ai ej (ai hg2 (ai hi' (ai hi0 (ai hb ei)))))))))))) ?_
    first
    | (subst hit; exact ⟨_,le_refl _,rfl⟩)
    | exact ⟨ds.length - (i + 1 + 1),by omega,i + 1 + 1,rfl,by omega,rfl,by rw [← hit]; simp [hj],by (exact ev0 t0),by (exact ev0 ta),by (exact ev0 tb),by (exact ev0 ei)⟩
 ·have hlt : ¬ ((j : Int) < (ds.length : Int)):=by omega
  rw [List.drop_eq_nil_of_le (by omega)] at hit
  unfold Sf.depsB at hit
  subst hit
  refine run0 (ai t0 (ai ta (ai tb (ai tc hlt)))) ?_
  exact ⟨_,le_refl _,rfl⟩
structure Sf.InstIn (x : Sf.Inst) : Prop where
 a : x.addr.length ≤ 2000000
 d : x.dep.length ≤ 2000000
 i : x.id.length ≤ 2000000
 l : x.attrs.lens
 n : x.deps.length ≤ 1000000000
 ds : ∀ s ∈ x.deps,s.length ≤ 2000000
theorem a_instance (L : Leafs) (x : Sf.Inst) (hx : Sf.InstIn x) (h : Hp) : ACall Tryz.prog GT 104 [.agg x.cells] h fun r h' => r = .int .i64 (Sf.instZ x) ∧ h' = h:=by
 have cm:=fun h => a_managed L x.addr x.typ hx.a h
 have ck:=fun h => a_key L x.dep hx.d h
 have ct:=fun h => L.text x.id hx.i h
 have cv:=fun h => a_vCheck x.attrs hx.l h
 have cn:=fun h => L.known x.attrs hx.l h
 have cs:=fun h => a_statics L x.deps hx.n hx.ds h
 obtain ⟨Z,hZ⟩ : ∃ Z,Sf.instZ x = Z:=⟨_,rfl⟩
 rw [hZ]
 unfold Sf.instZ Sf.keyB at hZ
 obtain ⟨a,d,id,ty,⟨k,n,w,vi,vy⟩,v,tn,fi,ds⟩:=x
 clear hx
 dsimp only at cm ck ct cv cn cs hZ
 have hVA : (V.mk k n w vi vy).A = .agg [.int .i64 k,.int .i64 n,.str w,.sl 5 .no (V.cellss vi),.sl 1 .no (strsA vy)]:=by simp only [V.A,V.cells]
 rw [hVA] at cv cn
 obtain ⟨M,hM⟩ : ∃ M,Sf.managed a ty = M:=⟨_,rfl⟩
 obtain ⟨K,hK⟩ : ∃ K,((Num.parse d).2 == 0 && decide (1 ≤ (Num.parse d).1)) = K:=⟨_,rfl⟩
 obtain ⟨T,hT⟩ : ∃ T,Sf.text id = T:=⟨_,rfl⟩
 obtain ⟨C,hC⟩ : ∃ C,Val.checkZ (.mk k n w vi vy) = C:=⟨_,rfl⟩
 obtain ⟨N,hN⟩ : ∃ N,Sf.known (.mk k n w vi vy) = N:=⟨_,rfl⟩
 obtain ⟨S,hS⟩ : ∃ S,Sf.depsB none ds = S:=⟨_,rfl⟩
 have hkd : Sf.V.kind (.mk k n w vi vy) = k:=rfl
 rw [hM] at cm hZ
 rw [hK] at ck hZ
 rw [hT] at ct hZ
 rw [hC] at cv hZ
 rw [hN] at cn hZ
 rw [hS] at cs hZ
 rw [hkd] at hZ
 refine pcall ?_ rfl (by simp [A.pure,A.data,Sf.Inst.cells]) h
 refine fo ?_
 dsimp only [Sf.Inst.cells]
 refine run0 ti ?_
 refine use (cm _) ?_
 cases M
 ·rw [if_pos (by simp)] at hZ
  subst hZ
  refine run0 ti ?_
  exact ⟨_,le_refl _,rfl⟩
 have key : ∀ {G : Prop},((d != []) = false → (d == []) = true → G) → ((d != []) = true → (d == []) = false → G) → G:=fun p q => by
  by_cases e : d = []
  ·exact p (by simp [e]) (by simp [e])
  ·exact q (by simp [e]) (by simp [e])
 have rest : True:=ti
 refine key (fun d1 d2 => ?_) (fun d1 d2 => ?_)
 all_goals rw [d2] at hZ
 ·refine run0 d1 ?_
  refine use (ct _) ?_
  cases T
  ·rw [if_pos (by simp)] at hZ
   subst hZ
   refine run0 ti ?_
   exact ⟨_,le_refl _,rfl⟩
  rw [if_neg (by simp)] at hZ
  refine run0 ti ?_
  refine use (cv _) ?_
  by_cases hz : C = 0
  rotate_left
  ·have e1 : (C != 0) = true:=by simp [hz]
   rw [if_pos hz] at hZ
   refine run0 e1 ?_
   exact ⟨_,le_refl _,by rw [← hZ]; rfl⟩
  have e1 : (C != 0) = false:=by simp [hz]
  rw [if_neg (by simp [hz])] at hZ
  by_cases hk5 : k = 5
  rotate_left
  ·have e2 : (k != 5) = true:=by simp [hk5]
   rw [if_pos hk5] at hZ
   refine run0 (ai e1 e2) ?_
   exact ⟨_,le_refl _,by rw [← hZ]; rfl⟩
  have e2 : (k != 5) = false:=by simp [hk5]
  rw [if_neg (by simp [hk5])] at hZ
  refine run0 (ai e1 e2) ?_
  refine use (cn _) ?_
  cases N
  ·rw [if_pos (by simp)] at hZ
   refine run0 ti ?_
   exact ⟨_,le_refl _,by rw [← hZ]; rfl⟩
  rw [if_neg (by simp)] at hZ
  by_cases v0 : v < 1
  ·rw [if_pos (.inl v0)] at hZ
   refine run0 v0 ?_
   exact ⟨_,le_refl _,by rw [← hZ]; rfl⟩
  by_cases v1 : v > 9007199254740992
  ·rw [if_pos (.inr v1)] at hZ
   refine run0 (ai v0 v1) ?_
   exact ⟨_,le_refl _,by rw [← hZ]; rfl⟩
  rw [if_neg (by omega)] at hZ
  refine run0 (ai v0 v1) ?_
  refine use (cs _) ?_
  cases S
  ·rw [if_pos (by simp)] at hZ
   refine run0 ti ?_
   exact ⟨_,le_refl _,by rw [← hZ]; rfl⟩
  ·rw [if_neg (by simp)] at hZ
   refine run0 ti ?_
   exact ⟨_,le_refl _,by rw [← hZ]; rfl⟩
 ·refine run0 d1 ?_
  refine use (ck _) ?_
  cases K
  ·rw [if_pos (by simp)] at hZ
   subst hZ
   refine run0 ti ?_
   exact ⟨_,le_refl _,rfl⟩
  refine run0 ti ?_
  refine use (ct _) ?_
  cases T
  ·rw [if_pos (by simp)] at hZ
   subst hZ
   refine run0 ti ?_
   exact ⟨_,le_refl _,rfl⟩
  rw [if_neg (by simp)] at hZ
  refine run0 ti ?_
  refine use (cv _) ?_
  by_cases hz : C = 0
  rotate_left
  ·have e1 : (C != 0) = true:=by simp [hz]
   rw [if_pos hz] at hZ
   refine run0 e1 ?_
   exact ⟨_,le_refl _,by rw [← hZ]; rfl⟩
  have e1 : (C != 0) = false:=by simp [hz]
  rw [if_neg (by simp [hz])] at hZ
  by_cases hk5 : k = 5
  rotate_left
  ·have e2 : (k != 5) = true:=by simp [hk5]
   rw [if_pos hk5] at hZ
   refine run0 (ai e1 e2) ?_
   exact ⟨_,le_refl _,by rw [← hZ]; rfl⟩
  have e2 : (k != 5) = false:=by simp [hk5]
  rw [if_neg (by simp [hk5])] at hZ
  refine run0 (ai e1 e2) ?_
  refine use (cn _) ?_
  cases N
  ·rw [if_pos (by simp)] at hZ
   refine run0 ti ?_
   exact ⟨_,le_refl _,by rw [← hZ]; rfl⟩
  rw [if_neg (by simp)] at hZ
  by_cases v0 : v < 1
  ·rw [if_pos (.inl v0)] at hZ
   refine run0 v0 ?_
   exact ⟨_,le_refl _,by rw [← hZ]; rfl⟩
  by_cases v1 : v > 9007199254740992
  ·rw [if_pos (.inr v1)] at hZ
   refine run0 (ai v0 v1) ?_
   exact ⟨_,le_refl _,by rw [← hZ]; rfl⟩
  rw [if_neg (by omega)] at hZ
  refine run0 (ai v0 v1) ?_
  refine use (cs _) ?_
  cases S
  ·rw [if_pos (by simp)] at hZ
   refine run0 ti ?_
   exact ⟨_,le_refl _,by rw [← hZ]; rfl⟩
  ·rw [if_neg (by simp)] at hZ
   refine run0 ti ?_
   exact ⟨_,le_refl _,by rw [← hZ]; rfl⟩
theorem a_or (a b : Int) (h : Hp) : ACall Tryz.prog GT 181 [.sl 1 .no [[.int .i64 a],[.int .i64 b]]] h fun r h' => r = .int .i64 (if a ≠ 0 then a else b) ∧ h' = h:=by
 refine pcall ?_ rfl (by simp [A.pure,A.data]) h
 refine fo ?_
 refine run0 ti ?_
 have ew0 : IntKind.i64.wrap ((0 : Int) + 1) = 1:=by decide
 have ew1 : IntKind.i64.wrap ((1 : Int) + 1) = 2:=by decide
 have en1 : Int.toNat 1 = 1:=rfl
 have lt0 : (0 : Int) < ((2 : Nat) : Int):=by decide
 have lt1 : (1 : Int) < ((2 : Nat) : Int):=by decide
 have lt2 : ¬ (2 : Int) < ((2 : Nat) : Int):=by decide
 have le1 : (0 : Int) ≤ 1:=by decide
 refine awp_loop (fun mm ts h => h = ⟨[],[]⟩ ∧ ts 3 = .int .i64 0 ∧ ts 6 = .sl 1 .no [[.int .i64 a],[.int .i64 b]] ∧ ts 7 = .int .i64 ((2 : Nat) : Int) ∧ ((mm = 2 ∧ ts 8 = .int .i64 0) ∨ (mm = 1 ∧ ts 8 = .int .i64 1 ∧ a = 0) ∨ (mm = 0 ∧ ts 8 = .int .i64 2 ∧ a = 0 ∧ b = 0))) 2 ?_ ?_
 ·exact ⟨rfl,by (exact ev0 ti),by (exact ev0 ti),by (exact ev0 ti),.inl ⟨rfl,by (exact ev0 ti)⟩⟩
 rintro mm ts h ⟨rfl,t3,t6,t7,⟨rfl,t8⟩ | ⟨rfl,t8,ha⟩ | ⟨rfl,t8,ha,hb⟩⟩
 ·by_cases ha : a = 0
  ·have e1 : (a != 0) = false:=by simp [ha]
   refine run0 (ai t3 (ai t6 (ai t7 (ai t8 (ai e1 (ai ew0 lt0)))))) ?_
   exact ⟨1,by omega,rfl,by (exact ev0 t3),by (exact ev0 t6),by (exact ev0 t7),.inr (.inl ⟨rfl,by (exact ev0 ew0),ha⟩)⟩
  ·have e1 : (a != 0) = true:=by simp [ha]
   refine run0 (ai t3 (ai t6 (ai t7 (ai t8 (ai e1 lt0))))) ?_
   exact ⟨_,le_refl _,by rw [if_pos ha]; rfl⟩
 ·by_cases hb : b = 0
  ·have e1 : (b != 0) = false:=by simp [hb]
   refine run0 (ai t3 (ai t6 (ai t7 (ai t8 (ai e1 (ai ew1 (ai en1 (ai lt1 le1)))))))) ?_
   exact ⟨0,by omega,rfl,by (exact ev0 t3),by (exact ev0 t6),by (exact ev0 t7),.inr (.inr ⟨rfl,by (exact ev0 ew1),ha,hb⟩)⟩
  ·have e1 : (b != 0) = true:=by simp [hb]
   refine run0 (ai t3 (ai t6 (ai t7 (ai t8 (ai e1 (ai en1 (ai lt1 le1))))))) ?_
   exact ⟨_,le_refl _,by rw [if_neg (by simp [ha])]; rfl⟩
 ·refine run0 (ai t3 (ai t6 (ai t7 (ai t8 lt2)))) ?_
  exact ⟨_,le_refl _,by rw [if_neg (by simp [ha]),hb]; rfl⟩
def cmp2 (a b c d : List UInt8) : Int:=if cmpZ a c ≠ 0 then cmpZ a c else cmpZ b d
theorem a_compare (L : Leafs) (a b c d : List UInt8) (h : Hp) : ACall Tryz.prog GT 106 [.agg [.str a,.str b],.agg [.str c,.str d]] h fun r h' => r = .int .i64 (cmp2 a b c d) ∧ h' = h:=by
 refine pcall ?_ rfl (by simp [A.pure,A.data]) h
 refine fo ?_
 refine run0 ti ?_
 refine use (L.cmp a c _) ?_
 refine run0 ti ?_
 refine use (L.cmp b d _) ?_
 refine run0 ti ?_
 refine use (a_or (cmpZ a c) (cmpZ b d) _) ?_
 refine run0 ti ?_
 exact ⟨_,le_refl _,rfl⟩
theorem cmp2_ge (x y : Sf.Inst) : (cmp2 x.addr x.dep y.addr y.dep ≥ 0) ↔ Sf.behind x y = false:=by
 unfold cmp2 Sf.behind cmpZ
 by_cases h1 : x.addr = y.addr
 ·have irr : bytesLess y.addr y.addr = false:=by
   have:=Val.less_total y.addr y.addr
   cases h : bytesLess y.addr y.addr
   ·rfl
   ·rw [h] at this; simp at this
  rw [h1,irr]
  by_cases h2 : x.dep = y.dep
  ·have irr2 : bytesLess y.dep y.dep = false:=by
    have:=Val.less_total y.dep y.dep
    cases h : bytesLess y.dep y.dep
    ·rfl
    ·rw [h] at this; simp at this
   simp [h2,irr2]
  ·cases h3 : bytesLess x.dep y.dep <;> simp [h2]
 ·cases h3 : bytesLess x.addr y.addr <;> simp [h1]
structure Sf.StIn (s : Sf.St) : Prop where
 lin : s.lin.length ≤ 2000000
 insts : ∀ x ∈ s.insts,Sf.InstIn x
 pends : ∀ x ∈ s.pends,x.addr.length ≤ 2000000 ∧ x.tok.length ≤ 2000000
 outs : ∀ x ∈ s.outs,x.name.length ≤ 2000000 ∧ x.value.lens
 li : s.insts.length ≤ 1000000000
 lp : s.pends.length ≤ 1000000000
 lo : s.outs.length ≤ 1000000000
theorem a_scheck (L : Leafs) (st : Sf.St) (ok : Sf.StIn st) : SCheck st:=by
 intro h
 obtain ⟨lin,ser,ins,ps,os⟩:=st
 have ct:=fun h => L.text lin ok.lin h
 have li : ins.length ≤ 1000000000:=ok.li
 have lp : ps.length ≤ 1000000000:=ok.lp
 have lo : os.length ≤ 1000000000:=ok.lo
 have lm1 : (ins.map Sf.Inst.cells).length = ins.length:=List.length_map _
 have lm2 : (ps.map Sf.Pend.cells).length = ps.length:=List.length_map _
 have lm3 : (os.map Sf.Outp.cells).length = os.length:=List.length_map _
 obtain ⟨Z,hZ⟩ : ∃ Z,Sf.checkZ ⟨lin,ser,ins,ps,os⟩ = Z:=⟨_,rfl⟩
 rw [hZ]
 unfold Sf.checkZ at hZ
 dsimp only at hZ
 refine pcall ?_ rfl (by simp [A.pure,A.data,Sf.St.A]) h
 refine fo ?_
 dsimp only [Sf.St.A]
 refine run0 ti ?_
 refine use (ct _) ?_
 cases hT : Sf.text lin
 ·rw [hT,if_pos (by decide)] at hZ
  subst hZ
  refine run0 ti ?_
  exact ⟨_,le_refl _,rfl⟩
 rw [hT,if_neg (by decide)] at hZ
 by_cases s0 : ser < 0
 ·rw [if_pos (.inl s0)] at hZ
  subst hZ
  refine run0 s0 ?_
  exact ⟨_,le_refl _,rfl⟩
 by_cases s1 : ser > 9007199254740992
 ·rw [if_pos (.inr s1)] at hZ
  subst hZ
  refine run0 (ai s0 s1) ?_
  exact ⟨_,le_refl _,rfl⟩
 rw [if_neg (by omega)] at hZ
 obtain ⟨mx,hmx⟩ : ∃ mx : Int,(if (os.length : Int) > (if (ps.length : Int) > (ins.length : Int) then (ps.length : Int) else (ins.length : Int)) then (os.length : Int) else (if (ps.length : Int) > (ins.length : Int) then (ps.length : Int) else (ins.length : Int))) = mx:=⟨_,rfl⟩
 have hm5 : mx > 512 ↔ (512 < ins.length ∨ 512 < ps.length ∨ 512 < os.length):=by
  rw [← hmx]; split <;> split <;> omega
 by_cases hm : mx > 512
 ·rw [if_pos (hm5.1 hm)] at hZ
  subst hZ
  refine run0 (ai s0 (ai s1 (ai lm1 (ai lm2 (ai lm3 (ai hmx hm)))))) ?_
  exact ⟨_,le_refl _,rfl⟩
 rw [if_neg (fun e => hm (hm5.2 e))] at hZ
 obtain ⟨I,hI⟩ : ∃ I,Sf.instsZ none ins = I:=⟨_,rfl⟩
 obtain ⟨P,hP⟩ : ∃ P,Sf.pendsZ none ps = P:=⟨_,rfl⟩
 obtain ⟨O,hO⟩ : ∃ O,Sf.outsZ none os = O:=⟨_,rfl⟩
 have fi1 : ∀ z,z ≠ 0 → z = I → Z = z:=fun z h e => by rw [hI,← e,if_pos h] at hZ; exact hZ.symm
 have fi2 : I = 0 → (if P ≠ 0 then P else O) = Z:=fun e => by rw [hI,hP,hO,e,if_neg (by simp)] at hZ; exact hZ
 refine run0 (ai s0 (ai s1 (ai lm1 (ai lm2 (ai lm3 (ai hmx hm)))))) ?_
 refine awp_loop (fun mm ts h => ∃ (j : Nat) (l : List Blk),mm = ins.length - j ∧ j ≤ ins.length ∧ h = ⟨.cells 39 [.str lin,.int .i64 ser,.sl 13 .no (ins.map Sf.Inst.cells),.sl 3 .no (ps.map Sf.Pend.cells),.sl 7 .no (os.map Sf.Outp.cells)] :: l,[]⟩ ∧ Sf.instsZ (if j = 0 then none else ins[j - 1]?) (ins.drop j) = I ∧ ts 1 = .ptr 0 0 ∧ ts 35 = .sl 13 .no (ins.map Sf.Inst.cells) ∧ ts 36 = .int .i64 (ins.length : Nat) ∧ ts 37 = .int .i64 (j : Nat)) ins.length ?_ ?_
 ·exact ⟨0,[],by omega,by omega,rfl,hI,by (exact ev0 ti),by (exact ev0 ti),by (exact ev0 (ai lm1 (ai lm2 lm3))),by (exact inv0 ti)⟩
 rintro mm ts h ⟨j,l,rfl,hjc,rfl,hit,t1,ta,tb,tc⟩
 by_cases hj : j < ins.length
 ·have hlt : (j : Int) < (ins.length : Int):=by omega
  have hlt' : (j : Int) < ((ins.map Sf.Inst.cells).length : Int):=by rw [List.length_map]; exact hlt
  have hj0 : (0 : Int) ≤ (j : Int):=by omega
  have ei : IntKind.i64.wrap ((j : Int) + 1) = ((j + 1 : Nat) : Int):=by rw [wrap64 (by omega) (by omega)]; omega
  have hg:=map_getD Sf.Inst.cells ins j hj
  have hm:=List.getElem_mem hj
  rw [List.drop_eq_getElem_cons hj] at hit
  obtain ⟨x,hx⟩ : ∃ x,ins[j] = x:=⟨_,rfl⟩
  rw [hx] at hit hg hm
  have ci:=fun h => a_instance L x (ok.insts x hm) h
  have cp:=fun h => a_placeOf x h
  have hxj : ins[j]? = some x:=by rw [List.getElem?_eq_getElem hj,hx]
  have hx2 : ∃ x2,x = x2:=⟨_,rfl⟩
  unfold Sf.instsZ at hit
  obtain ⟨Z1,hZ1⟩ : ∃ z,Sf.instZ x = z:=⟨_,rfl⟩
  rw [hZ1] at ci hit
  have cge:=fun y => cmp2_ge y x
  have cc:=fun (y : Sf.Inst) h => a_compare L y.addr y.dep x.addr x.dep h
  have nx : Sf.instsZ (some x) (ins.drop (j + 1)) = I → Sf.instsZ (if j + 1 = 0 then none else ins[j + 1 - 1]?) (ins.drop (j + 1)) = I:=fun e => by rw [if_neg (by omega),Nat.add_sub_cancel,hxj]; exact e
  clear hx2 hm hZ1
  have cells : ∃ a d id ty k n s is ks v tn fi ds,x = ⟨a,d,id,ty,.mk k n s is ks,v,tn,fi,ds⟩:=by obtain ⟨a,d,id,ty,⟨k,n,s,is,ks⟩,v,tn,fi,ds⟩:=x; exact ⟨_,_,_,_,_,_,_,_,_,_,_,_,_,rfl⟩
  obtain ⟨a,d,id,ty,k,n,s,is,ks,v,tn,fi,ds,hxe⟩:=cells
  have hxc : x.cells = [.str a,.str d,.str id,.str ty,.int .i64 k,.int .i64 n,.str s,.sl 5 .no (V.cellss is),.sl 1 .no (strsA ks),.int .i64 v,.bool tn,.bool fi,.sl 1 .no (strsA ds)]:=by rw [hxe]; rfl
  rw [hxc] at ci cp hg
  refine run0 (ai t1 (ai ta (ai tb (ai tc (ai hlt (ai hg (ai hlt' hj0))))))) ?_
  refine use (ci _) ?_
  by_cases hz : Z1 = 0
  rotate_left
  ·have e1 : (Z1 != 0) = true:=by simp [hz]
   rw [if_pos hz] at hit
   have hZf:=fi1 Z1 hz hit
   refine run0 (ai t1 (ai ta (ai tb (ai tc e1)))) ?_
   exact ⟨_,le_refl _,by rw [hZf]; rfl⟩
  have e1 : (Z1 != 0) = false:=by simp [hz]
  rw [if_neg (by simp [hz])] at hit
  cases j with
  | zero =>
   have h0 : ¬ ((0 : Nat) : Int) > 0:=by omega
   simp only [if_true,Bool.false_eq_true,if_false] at hit
   refine run0 (ai t1 (ai ta (ai tb (ai tc (ai e1 (ai h0 ei)))))) ?_
   exact ⟨ins.length - (0 + 1),by omega,0 + 1,l ++ [.cells 73 [.str a,.str d,.str id,.str ty,.int .i64 k,.int .i64 n,.str s,.sl 5 .no (V.cellss is),.sl 1 .no (strsA ks),.int .i64 v,.bool tn,.bool fi,.sl 1 .no (strsA ds)]],rfl,by omega,rfl,nx hit,by (exact ev0 t1),by (exact ev0 ta),by (exact ev0 tb),by (exact ev0 ei)⟩
  | succ i =>
   have h0 : ((i + 1 : Nat) : Int) > 0:=by omega
   have ej : IntKind.i64.wrap (((i + 1 : Nat) : Int) - 1) = (i : Int):=by rw [wrap64 (by omega) (by omega)]; omega
   have hg2:=map_getD Sf.Inst.cells ins i (by omega)
   have hi' : (i : Int) < ((ins.map Sf.Inst.cells).length : Int):=by rw [List.length_map]; omega
   have hi0 : (0 : Int) ≤ (i : Int):=by omega
   have hki : ins[i + 1 - 1]? = some (ins[i]'(by omega)):=List.getElem?_eq_getElem (by omega)
   rw [show (if i + 1 = 0 then none else ins[i + 1 - 1]?) = (some (ins[i]'(by omega))) from by rw [if_neg (by omega),hki]] at hit
   obtain ⟨y,hy⟩ : ∃ y,ins[i]'(by omega) = y:=⟨_,rfl⟩
   rw [hy] at hit hg2
   dsimp only at hit
   have cpy:=fun h => a_placeOf y h
   have hyc : ∃ b1 b2 b3 b4 b5 b6 b7 b8 b9 c1 c2 c3 c4,y.cells = [.str b1,.str b2,.str b3,.str b4,.int .i64 b5,.int .i64 b6,.str b7,.sl 5 .no (V.cellss b8),.sl 1 .no (strsA b9),.int .i64 c1,.bool c2,.bool c3,.sl 1 .no (strsA c4)]:=by obtain ⟨a,d,id,ty,⟨k,n,s,is,ks⟩,v,tn,fi,ds⟩:=y; exact ⟨_,_,_,_,_,_,_,_,_,_,_,_,_,rfl⟩
   obtain ⟨b1,b2,b3,b4,b5,b6,b7,b8,b9,c1,c2,c3,c4,hyc⟩:=hyc
   rw [hyc] at hg2 cpy
   have cg:=cge y
   have cy:=cc y
   obtain ⟨c,hc⟩ : ∃ c,cmp2 y.addr y.dep x.addr x.dep = c:=⟨_,rfl⟩
   rw [hc] at cg cy
   refine run0 (ai t1 (ai ta (ai tb (ai tc (ai e1 (ai h0 (ai ej (ai hg2 (ai hi' hi0))))))))) ?_
   refine use (cpy _) ?_
   refine run0 (ai t1 (ai ta (ai tb tc))) ?_
   refine use (cp _) ?_
   refine run0 (ai t1 (ai ta (ai tb tc))) ?_
   refine use (cy _) ?_
   by_cases hcz : c ≥ 0
   ·simp only [cg.1 hcz,Bool.not_false,if_true] at hit
    have hZf:=fi1 1 (by decide) hit
    refine run0 (ai t1 (ai ta (ai tb (ai tc hcz)))) ?_
    exact ⟨_,le_refl _,by rw [hZf]; rfl⟩
   ·have hb : Sf.behind y x = true:=by cases hb : Sf.behind y x; exact absurd (cg.2 hb) hcz; rfl
    simp only [hb,Bool.not_true,Bool.false_eq_true,if_false] at hit
    refine run0 (ai t1 (ai ta (ai tb (ai tc (ai hcz ei))))) ?_
    exact ⟨ins.length - ((i + 1) + 1),by omega,(i + 1) + 1,l ++ [.cells 73 [.str a,.str d,.str id,.str ty,.int .i64 k,.int .i64 n,.str s,.sl 5 .no (V.cellss is),.sl 1 .no (strsA ks),.int .i64 v,.bool tn,.bool fi,.sl 1 .no (strsA ds)]],rfl,by omega,rfl,nx hit,by (exact ev0 t1),by (exact ev0 ta),by (exact ev0 tb),by (exact ev0 ei)⟩
 have hlt : ¬ ((j : Int) < (ins.length : Int)):=by omega
 rw [List.drop_eq_nil_of_le (by omega)] at hit
 unfold Sf.instsZ at hit
 have fi2:=fi2 hit.symm
 refine run0 (ai t1 (ai ta (ai tb (ai tc (ai hlt (ai lm1 (ai lm2 lm3))))))) ?_
 clear hit hlt hjc ta tb tc fi1
 have fj1 : ∀ z,z ≠ 0 → z = P → Z = z:=fun z h e => by rw [← e,if_pos h] at fi2; exact fi2.symm
 have fj2 : P = 0 → Z = O:=fun e => by rw [e,if_neg (by simp)] at fi2; exact fi2.symm
 obtain ⟨l0,hl0⟩ : ∃ l0 : List Blk,l = l0:=⟨_,rfl⟩
 refine awp_loop (fun mm ts h => ∃ (j : Nat) (l : List Blk),mm = ps.length - j ∧ j ≤ ps.length ∧ h = ⟨.cells 39 [.str lin,.int .i64 ser,.sl 13 .no (ins.map Sf.Inst.cells),.sl 3 .no (ps.map Sf.Pend.cells),.sl 7 .no (os.map Sf.Outp.cells)] :: l,[]⟩ ∧ Sf.pendsZ (if j = 0 then none else ps[j - 1]?.map Sf.Pend.tok) (ps.drop j) = P ∧ ts 1 = .ptr 0 0 ∧ ts 64 = .sl 3 .no (ps.map Sf.Pend.cells) ∧ ts 65 = .int .i64 (ps.length : Nat) ∧ ts 66 = .int .i64 (j : Nat)) ps.length ?_ ?_
 ·exact ⟨0,l,by omega,by omega,rfl,hP,by (exact ev0 t1),by (exact ev0 t1),by (exact ev0 (ai t1 (ai lm1 (ai lm2 lm3)))),by (exact inv0 t1)⟩
 rintro mm ts h ⟨j,l,rfl,hjc,rfl,hit,t1,ta,tb,tc⟩
 by_cases hj : j < ps.length
 ·have hlt : (j : Int) < (ps.length : Int):=by omega
  have hlt' : (j : Int) < ((ps.map Sf.Pend.cells).length : Int):=by rw [List.length_map]; exact hlt
  have hj0 : (0 : Int) ≤ (j : Int):=by omega
  have ei : IntKind.i64.wrap ((j : Int) + 1) = ((j + 1 : Nat) : Int):=by rw [wrap64 (by omega) (by omega)]; omega
  have hg:=map_getD Sf.Pend.cells ps j hj
  have hm:=List.getElem_mem hj
  rw [List.drop_eq_getElem_cons hj] at hit
  obtain ⟨x,hx⟩ : ∃ x,ps[j] = x:=⟨_,rfl⟩
  rw [hx] at hit hg hm
  have hin:=ok.pends x hm
  have ct:=fun h => L.text x.tok hin.2 h
  have cm:=fun h => a_managed L x.addr x.typ hin.1 h
  have hxj : ps[j]? = some x:=by rw [List.getElem?_eq_getElem hj,hx]
  unfold Sf.pendsZ Sf.pendB at hit
  have nx : Sf.pendsZ (some x.tok) (ps.drop (j + 1)) = P → Sf.pendsZ (if j + 1 = 0 then none else ps[j + 1 - 1]?.map Sf.Pend.tok) (ps.drop (j + 1)) = P:=fun e => by rw [if_neg (by omega),Nat.add_sub_cancel,hxj]; exact e
  simp only [Sf.Pend.cells] at hg
  obtain ⟨T,hT⟩ : ∃ T,Sf.text x.tok = T:=⟨_,rfl⟩
  rw [hT] at ct hit
  obtain ⟨M,hM⟩ : ∃ M,Sf.managed x.addr x.typ = M:=⟨_,rfl⟩
  rw [hM] at cm hit
  refine run0 (ai t1 (ai ta (ai tb (ai tc (ai hlt (ai hg (ai hlt' hj0))))))) ?_
  refine use (ct _) ?_
  cases T
  ·rw [if_pos (by simp)] at hit
   have hZf:=fj1 1 (by decide) hit
   refine run0 (ai t1 (ai ta (ai tb tc))) ?_
   exact ⟨_,le_refl _,by rw [hZf]; rfl⟩
  refine run0 (ai t1 (ai ta (ai tb tc))) ?_
  refine use (cm _) ?_
  cases M
  ·rw [if_pos (by simp)] at hit
   have hZf:=fj1 1 (by decide) hit
   refine run0 (ai t1 (ai ta (ai tb tc))) ?_
   exact ⟨_,le_refl _,by rw [hZf]; rfl⟩
  cases j with
  | zero =>
   have h0 : ¬ ((0 : Nat) : Int) > 0:=by omega
   rw [if_neg (by simp [Val.badB])] at hit
   refine run0 (ai t1 (ai ta (ai tb (ai tc (ai h0 ei))))) ?_
   exact ⟨ps.length - (0 + 1),by omega,0 + 1,l ++ [.cells 121 [.str x.addr,.str x.typ,.str x.tok]],rfl,by omega,rfl,nx hit,by (exact ev0 t1),by (exact ev0 ta),by (exact ev0 tb),by (exact ev0 ei)⟩
  | succ i =>
   have h0 : ((i + 1 : Nat) : Int) > 0:=by omega
   have ej : IntKind.i64.wrap (((i + 1 : Nat) : Int) - 1) = (i : Int):=by rw [wrap64 (by omega) (by omega)]; omega
   have hg2:=map_getD Sf.Pend.cells ps i (by omega)
   have hi' : (i : Int) < ((ps.map Sf.Pend.cells).length : Int):=by rw [List.length_map]; omega
   have hi0 : (0 : Int) ≤ (i : Int):=by omega
   have hki : ps[i + 1 - 1]? = some (ps[i]'(by omega)):=List.getElem?_eq_getElem (by omega)
   rw [show (if i + 1 = 0 then none else ps[i + 1 - 1]?.map Sf.Pend.tok) = (some (ps[i]'(by omega))).map Sf.Pend.tok from by rw [if_neg (by omega),hki]] at hit
   obtain ⟨y,hy⟩ : ∃ y,ps[i]'(by omega) = y:=⟨_,rfl⟩
   rw [hy] at hit hg2
   simp only [Sf.Pend.cells] at hg2
   simp only [Option.map_some,Val.badB] at hit
   cases hb : bytesLess y.tok x.tok
   ·simp only [hb,Bool.true_and,Bool.and_true,Bool.not_true,Bool.not_false,Bool.false_or,Bool.true_or,if_true] at hit
    have hZf:=fj1 1 (by decide) hit
    refine run0 (ai t1 (ai ta (ai tb (ai tc (ai h0 (ai ej (ai hg2 (ai hi' (ai hi0 hb))))))))) ?_
    exact ⟨_,le_refl _,by rw [hZf]; rfl⟩
   ·simp only [hb,Bool.true_and,Bool.and_true,Bool.not_true,Bool.not_false,Bool.false_or,Bool.or_false,Bool.false_eq_true,if_false] at hit
    refine run0 (ai t1 (ai ta (ai tb (ai tc (ai h0 (ai ej (ai hg2 (ai hi' (ai hi0 (ai hb ei)))))))))) ?_
    exact ⟨ps.length - ((i + 1) + 1),by omega,(i + 1) + 1,l ++ [.cells 121 [.str x.addr,.str x.typ,.str x.tok]],rfl,by omega,rfl,nx hit,by (exact ev0 t1),by (exact ev0 ta),by (exact ev0 tb),by (exact ev0 ei)⟩
 have hlt : ¬ ((j : Int) < (ps.length : Int)):=by omega
 rw [List.drop_eq_nil_of_le (by omega)] at hit
 unfold Sf.pendsZ at hit
 have fj2:=fj2 hit.symm
 refine run0 (ai t1 (ai ta (ai tb (ai tc (ai hlt (ai lm1 (ai lm2 lm3))))))) ?_
 clear hit hlt hjc ta tb tc fj1 hl0 l0
 refine awp_loop (fun mm ts h => ∃ (j : Nat) (l : List Blk),mm = os.length - j ∧ j ≤ os.length ∧ h = ⟨.cells 39 [.str lin,.int .i64 ser,.sl 13 .no (ins.map Sf.Inst.cells),.sl 3 .no (ps.map Sf.Pend.cells),.sl 7 .no (os.map Sf.Outp.cells)] :: l,[]⟩ ∧ Sf.outsZ (if j = 0 then none else os[j - 1]?.map Sf.Outp.name) (os.drop j) = O ∧ ts 1 = .ptr 0 0 ∧ ts 101 = .sl 7 .no (os.map Sf.Outp.cells) ∧ ts 102 = .int .i64 (os.length : Nat) ∧ ts 103 = .int .i64 (j : Nat)) os.length ?_ ?_
 ·exact ⟨0,l,by omega,by omega,rfl,hO,by (exact ev0 t1),by (exact ev0 t1),by (exact ev0 (ai t1 (ai lm1 (ai lm2 lm3)))),by (exact inv0 t1)⟩
 rintro mm ts h ⟨j,l,rfl,hjc,rfl,hit,t1,ta,tb,tc⟩
 by_cases hj : j < os.length
 ·have hlt : (j : Int) < (os.length : Int):=by omega
  have hlt' : (j : Int) < ((os.map Sf.Outp.cells).length : Int):=by rw [List.length_map]; exact hlt
  have hj0 : (0 : Int) ≤ (j : Int):=by omega
  have ei : IntKind.i64.wrap ((j : Int) + 1) = ((j + 1 : Nat) : Int):=by rw [wrap64 (by omega) (by omega)]; omega
  have hg:=map_getD Sf.Outp.cells os j hj
  have hm:=List.getElem_mem hj
  rw [List.drop_eq_getElem_cons hj] at hit
  obtain ⟨x,hx⟩ : ∃ x,os[j] = x:=⟨_,rfl⟩
  rw [hx] at hit hg hm
  have hin:=ok.outs x hm
  have ci:=fun h => a_output L x hin.1 hin.2 h
  have hxj : os[j]? = some x:=by rw [List.getElem?_eq_getElem hj,hx]
  unfold Sf.outsZ at hit
  have nx : Sf.outsZ (some x.name) (os.drop (j + 1)) = O → Sf.outsZ (if j + 1 = 0 then none else os[j + 1 - 1]?.map Sf.Outp.name) (os.drop (j + 1)) = O:=fun e => by rw [if_neg (by omega),Nat.add_sub_cancel,hxj]; exact e
  obtain ⟨Z1,hZ1⟩ : ∃ z,Sf.outZ x = z:=⟨_,rfl⟩
  rw [hZ1] at ci hit
  clear hZ1
  obtain ⟨m,⟨k,n,s,is,ks⟩,b⟩:=x
  simp only [Sf.Outp.cells] at hg ci
  dsimp only at hit nx
  refine run0 (ai t1 (ai ta (ai tb (ai tc (ai hlt (ai hg (ai hlt' hj0))))))) ?_
  refine use (ci _) ?_
  by_cases hz : Z1 = 0
  rotate_left
  ·have e1 : (Z1 != 0) = true:=by simp [hz]
   rw [if_pos hz] at hit
   refine run0 (ai t1 (ai ta (ai tb (ai tc e1)))) ?_
   exact ⟨_,le_refl _,by rw [fj2,← hit]; rfl⟩
  have e1 : (Z1 != 0) = false:=by simp [hz]
  rw [if_neg (by simp [hz])] at hit
  cases j with
  | zero =>
   have h0 : ¬ ((0 : Nat) : Int) > 0:=by omega
   rw [if_neg (by simp [Val.badB])] at hit
   refine run0 (ai t1 (ai ta (ai tb (ai tc (ai e1 (ai h0 ei)))))) ?_
   exact ⟨os.length - (0 + 1),by omega,0 + 1,l ++ [.cells 132 [.str m,.int .i64 k,.int .i64 n,.str s,.sl 5 .no (V.cellss is),.sl 1 .no (strsA ks),.bool b]],rfl,by omega,rfl,nx hit,by (exact ev0 t1),by (exact ev0 ta),by (exact ev0 tb),by (exact ev0 ei)⟩
  | succ i =>
   have h0 : ((i + 1 : Nat) : Int) > 0:=by omega
   have ej : IntKind.i64.wrap (((i + 1 : Nat) : Int) - 1) = (i : Int):=by rw [wrap64 (by omega) (by omega)]; omega
   have hg2:=map_getD Sf.Outp.cells os i (by omega)
   have hi' : (i : Int) < ((os.map Sf.Outp.cells).length : Int):=by rw [List.length_map]; omega
   have hi0 : (0 : Int) ≤ (i : Int):=by omega
   have hki : os[i + 1 - 1]? = some (os[i]'(by omega)):=List.getElem?_eq_getElem (by omega)
   rw [show (if i + 1 = 0 then none else os[i + 1 - 1]?.map Sf.Outp.name) = (some (os[i]'(by omega))).map Sf.Outp.name from by rw [if_neg (by omega),hki]] at hit
   obtain ⟨y,hy⟩ : ∃ y,os[i]'(by omega) = y:=⟨_,rfl⟩
   rw [hy] at hit hg2
   obtain ⟨m2,⟨k2,n2,s2,is2,ks2⟩,b2⟩:=y
   simp only [Sf.Outp.cells] at hg2
   simp only [Option.map_some,Val.badB] at hit
   cases hb : bytesLess m2 m
   ·simp only [hb,Bool.true_and,Bool.and_true,Bool.not_true,Bool.not_false,Bool.false_or,Bool.true_or,if_true] at hit
    refine run0 (ai t1 (ai ta (ai tb (ai tc (ai e1 (ai h0 (ai ej (ai hg2 (ai hi' (ai hi0 hb)))))))))) ?_
    exact ⟨_,le_refl _,by rw [fj2,← hit]; rfl⟩
   ·simp only [hb,Bool.true_and,Bool.and_true,Bool.not_true,Bool.not_false,Bool.false_or,Bool.or_false,Bool.false_eq_true,if_false] at hit
    refine run0 (ai t1 (ai ta (ai tb (ai tc (ai e1 (ai h0 (ai ej (ai hg2 (ai hi' (ai hi0 (ai hb ei))))))))))) ?_
    exact ⟨os.length - ((i + 1) + 1),by omega,(i + 1) + 1,l ++ [.cells 132 [.str m,.int .i64 k,.int .i64 n,.str s,.sl 5 .no (V.cellss is),.sl 1 .no (strsA ks),.bool b]],rfl,by omega,rfl,nx hit,by (exact ev0 t1),by (exact ev0 ta),by (exact ev0 tb),by (exact ev0 ei)⟩
 have hlt : ¬ ((j : Int) < (os.length : Int)):=by omega
 rw [List.drop_eq_nil_of_le (by omega)] at hit
 unfold Sf.outsZ at hit
 refine run0 (ai t1 (ai ta (ai tb (ai tc (ai hlt (ai lm1 (ai lm2 lm3))))))) ?_
 exact ⟨_,le_refl _,by rw [fj2,← hit]; rfl⟩
end AX
end Go.Proofs.YteklhoajalgehaaGreatDoor

namespace Go.Proofs.YteklhoajalgehaaGreatDoor
open Go.RowKit
namespace AX
theorem eqB_refl_ : ∀ v : V,Val.eqB v v = true:=by
 refine V.induct fun k n s is ks ih => ?_
 rw [Val.eqB]
 have : Val.eqBs is is = true:=by
  have key : ∀ l : List V,(∀ x ∈ l,Val.eqB x x = true) → Val.eqBs l l = true:=by
   intro l
   induction l with
   | nil => intro _; rw [Val.eqBs]
   | cons x l ihl =>
    intro hl
    rw [Val.eqBs,hl x (by simp),ihl fun y hy => hl y (by simp [hy])]
    rfl
  exact key is ih
 simp [this]
namespace Sf
def smallV (v : V) (nd : Nat) : Bool:=decide (0 ≤ Val.left v nd 40) && decide (IntKind.i64.wrap (Val.keysN v) ≤ 2 * (nd : Int))
def smallI (parts : Int) (nd : Nat) (x : Sf.Inst) : Bool:=smallV x.attrs nd && !decide ((x.deps.length : Int) > parts)
def smallP (parts : Int) (nd : Nat) (s : Sf.St) : Bool:=
 !(decide ((s.insts.length : Int) > parts) || decide ((s.pends.length : Int) > parts) || decide ((s.outs.length : Int) > parts)) && (s.insts.all (smallI parts nd) && s.outs.all fun o => smallV o.value nd)
end Sf
theorem all_drop {α : Type} (p : α → Bool) (l : List α) (i : Nat) (h : i < l.length) : (l.drop i).all p = (p l[i] && (l.drop (i + 1)).all p):=by
 rw [List.drop_eq_getElem_cons h,List.all_cons]
theorem a_r31Small (st : Sf.St) (hin : Sf.StIn st) (parts : Int) (nd : Nat) (hp : 0 ≤ parts) (hp2 : parts ≤ 1000000) (hn : nd ≤ 1000000) (h : Hp) : ACall Tryz.prog GT 41 [st.A,.int .i64 parts,.int .i64 (nd : Int)] h fun r h' => r = .bool (Sf.smallP parts nd st) ∧ h' = h:=by
 refine pcall ?_ rfl (by simp [A.pure,A.data,Sf.St.A]) h
 refine fo ?_
 have hli:=hin.li
 have hlo:=hin.lo
 have hci:=fun x (hx : x ∈ st.insts) => a_rSmall x.attrs nd hn (hin.insts x hx).l
 have hdi:=fun x (hx : x ∈ st.insts) => (hin.insts x hx).n
 have hco:=fun x (hx : x ∈ st.outs) => a_rSmall x.value nd hn (hin.outs x hx).2
 obtain ⟨lin,ser,ins,ps,os⟩:=st
 simp only [Sf.St.A]
 dsimp only at hli hlo hci hdi hco
 have lm1 : (ins.map Sf.Inst.cells).length = ins.length:=List.length_map _
 have lm2 : (ps.map Sf.Pend.cells).length = ps.length:=List.length_map _
 have lm3 : (os.map Sf.Outp.cells).length = os.length:=List.length_map _
 obtain ⟨q,hq⟩ : ∃ q,Sf.smallP parts nd ⟨lin,ser,ins,ps,os⟩ = q:=⟨_,rfl⟩
 rw [hq]
 unfold Sf.smallP at hq
 dsimp only at hq
 by_cases g1 : (ins.length : Int) > parts
 ·have : false = q:=by rw [← hq]; simp [g1]
  subst this
  refine run0 (ai lm1 (ai lm2 (ai lm3 g1))) ?_
  exact ⟨_,le_refl _,rfl⟩
 by_cases g2 : (ps.length : Int) > parts
 ·have : false = q:=by rw [← hq]; simp [g2]
  subst this
  refine run0 (ai lm1 (ai lm2 (ai lm3 (ai g1 g2)))) ?_
  exact ⟨_,le_refl _,rfl⟩
 by_cases g3 : (os.length : Int) > parts
 ·have : false = q:=by rw [← hq]; simp [g3]
  subst this
  refine run0 (ai lm1 (ai lm2 (ai lm3 (ai g1 (ai g2 g3))))) ?_
  exact ⟨_,le_refl _,rfl⟩
 have hq' : (ins.all (Sf.smallI parts nd) && os.all fun o => Sf.smallV o.value nd) = q:=by rw [← hq]; simp [g1,g2,g3]
 refine run0 (ai lm1 (ai lm2 (ai lm3 (ai g1 (ai g2 g3))))) ?_
 refine awp_loop (fun m ts hh => hh = ⟨[.cells 39 [.str lin,.int .i64 ser,.sl 13 .no (ins.map Sf.Inst.cells),.sl 3 .no (ps.map Sf.Pend.cells),.sl 7 .no (os.map Sf.Outp.cells)]],[]⟩ ∧ ∃ (i : Nat),m = ins.length - i ∧ i ≤ ins.length ∧ (ins.drop i).all (Sf.smallI parts nd) = ins.all (Sf.smallI parts nd) ∧ ts 1 = .int .i64 parts ∧ ts 2 = .int .i64 (nd : Int) ∧ ts 3 = .ptr 0 0 ∧ ts 7 = .int .i64 (i : Nat)) ins.length ?_ ?_
 ·exact ⟨rfl,0,rfl,Nat.zero_le _,rfl,by (exact ev0 ti),by (exact ev0 ti),by (exact ev0 ti),by (exact inv0 ti)⟩
 ·rintro m ts hh ⟨rfl,i,rfl,hi,heq,t1,t2,t3,t7⟩
  by_cases hlt : i < ins.length
  ·have hlt2 : (i : Int) < (ins.length : Int):=by omega
   have hla : (i : Int) < ((ins.map Sf.Inst.cells).length : Int):=by rw [lm1]; omega
   have hj0 : (0 : Int) ≤ (i : Int):=by omega
   have ei : IntKind.i64.wrap ((i : Int) + 1) = ((i + 1 : Nat) : Int):=by rw [wrap64 (by omega) (by omega)]; omega
   have hg:=map_getD Sf.Inst.cells ins i hlt
   have hc:=hci _ (List.getElem_mem hlt)
   rw [all_drop _ _ _ hlt] at heq
   obtain ⟨x,hxx⟩ : ∃ x,ins[i] = x:=⟨_,rfl⟩
   rw [hxx] at hg hc heq
   obtain ⟨a,d,id,ty,⟨k,n,w,vi,vy⟩,v,tn,fi,ds⟩:=x
   simp only [Sf.Inst.cells] at hg
   obtain ⟨b,hb⟩ : ∃ b,Sf.smallV (.mk k n w vi vy) nd = b:=⟨_,rfl⟩
   have hb' : (decide (0 ≤ Val.left (.mk k n w vi vy) nd 40) && decide (IntKind.i64.wrap (Val.keysN (.mk k n w vi vy)) ≤ 2 * (nd : Int))) = b:=hb
   dsimp only at hc
   rw [hb'] at hc
   have hsx : Sf.smallI parts nd ⟨a,d,id,ty,⟨k,n,w,vi,vy⟩,v,tn,fi,ds⟩ = (Sf.smallV (.mk k n w vi vy) nd && !decide ((ds.length : Int) > parts)):=rfl
   rw [hsx,hb] at heq
   have ld : (strsA ds).length = ds.length:=strsA_length ds
   simp only [V.A,V.cells] at hc
   refine run0 (ai t1 (ai t2 (ai t3 (ai t7 (ai lm1 (ai hlt2 (ai hla (ai hj0 hg)))))))) ?_
   refine use (hc _) ?_
   cases b
   ·refine run0 (ai t1 (ai t2 (ai t3 t7))) ?_
    exact ⟨_,le_refl _,by rw [tupA_1,← hq',show ins.all (Sf.smallI parts nd) = false from heq.symm]; rfl⟩
   ·by_cases gd : (ds.length : Int) > parts
    ·refine run0 (ai t1 (ai t2 (ai t3 (ai t7 (ai lm1 (ai hlt2 (ai hla (ai hj0 (ai hg (ai ld gd)))))))))) ?_
     exact ⟨_,le_refl _,by rw [tupA_1,← hq',show ins.all (Sf.smallI parts nd) = false from heq.symm.trans (by simp [gd])]; rfl⟩
    ·have hn : (true && !decide ((ds.length : Int) > parts)) = true:=by simp [gd]
     rw [hn,Bool.true_and] at heq
     refine run0 (ai t1 (ai t2 (ai t3 (ai t7 (ai lm1 (ai hlt2 (ai hla (ai hj0 (ai hg (ai ld (ai gd ei))))))))))) ?_
     exact ⟨ins.length - (i + 1),by omega,rfl,i + 1,rfl,by omega,heq,by (exact ev0 t1),by (exact ev0 t2),by (exact ev0 t3),by (exact ev0 ei)⟩
  ·have hlt2 : ¬ (i : Int) < (ins.length : Int):=by omega
   rw [List.drop_of_length_le (by omega),List.all_nil] at heq
   rw [← heq,Bool.true_and] at hq'
   refine run0 (ai t1 (ai t2 (ai t3 (ai t7 (ai lm1 hlt2))))) ?_
   refine awp_loop (fun m ts hh => hh = ⟨[.cells 39 [.str lin,.int .i64 ser,.sl 13 .no (ins.map Sf.Inst.cells),.sl 3 .no (ps.map Sf.Pend.cells),.sl 7 .no (os.map Sf.Outp.cells)]],[]⟩ ∧ ∃ (i : Nat),m = os.length - i ∧ i ≤ os.length ∧ ((os.drop i).all fun o => Sf.smallV o.value nd) = (os.all fun o => Sf.smallV o.value nd) ∧ ts 2 = .int .i64 (nd : Int) ∧ ts 3 = .ptr 0 0 ∧ ts 8 = .int .i64 (i : Nat)) os.length ?_ ?_
   ·exact ⟨rfl,0,rfl,Nat.zero_le _,rfl,by (exact ev0 t2),by (exact ev0 t3),by (exact inv0 ti)⟩
   ·rintro m ts hh ⟨rfl,i,rfl,hi,heq,t2,t3,t8⟩
    by_cases hlt : i < os.length
    ·have hlt2 : (i : Int) < (os.length : Int):=by omega
     have hla : (i : Int) < ((os.map Sf.Outp.cells).length : Int):=by rw [lm3]; omega
     have hj0 : (0 : Int) ≤ (i : Int):=by omega
     have ei : IntKind.i64.wrap ((i : Int) + 1) = ((i + 1 : Nat) : Int):=by rw [wrap64 (by omega) (by omega)]; omega
     have hg:=map_getD Sf.Outp.cells os i hlt
     have hc:=hco _ (List.getElem_mem hlt)
     rw [all_drop _ _ _ hlt] at heq
     obtain ⟨x,hxx⟩ : ∃ x,os[i] = x:=⟨_,rfl⟩
     rw [hxx] at hg hc heq
     obtain ⟨a,⟨k,n,w,vi,vy⟩,sn⟩:=x
     simp only [Sf.Outp.cells] at hg
     obtain ⟨b,hb⟩ : ∃ b,Sf.smallV (.mk k n w vi vy) nd = b:=⟨_,rfl⟩
     have hb' : (decide (0 ≤ Val.left (.mk k n w vi vy) nd 40) && decide (IntKind.i64.wrap (Val.keysN (.mk k n w vi vy)) ≤ 2 * (nd : Int))) = b:=hb
     dsimp only at hc heq
     rw [hb'] at hc
     rw [hb] at heq
     simp only [V.A,V.cells] at hc
     refine run0 (ai t2 (ai t3 (ai t8 (ai lm3 (ai hlt2 (ai hla (ai hj0 hg))))))) ?_
     refine use (hc _) ?_
     cases b
     ·refine run0 (ai t2 (ai t3 t8)) ?_
      exact ⟨_,le_refl _,by rw [tupA_1,← hq',← heq]; rfl⟩
     ·rw [Bool.true_and] at heq
      refine run0 (ai t2 (ai t3 (ai t8 ei))) ?_
      exact ⟨os.length - (i + 1),by omega,rfl,i + 1,rfl,by omega,heq,by (exact ev0 t2),by (exact ev0 t3),by (exact ev0 ei)⟩
    ·have hlt2 : ¬ (i : Int) < (os.length : Int):=by omega
     rw [List.drop_of_length_le (by omega),List.all_nil] at heq
     refine run0 (ai t2 (ai t3 (ai t8 (ai lm3 hlt2)))) ?_
     exact ⟨_,le_refl _,by rw [tupA_1,← hq',← heq]⟩
theorem t_rEqual : ∀ (v v' : V),v.lens → v'.lens → ∀ h,ACall Tryz.prog GT 83 [v.A,v'.A] h fun r h' => r = .bool (Val.eqB v v') ∧ h' = h:=by
 refine V.induct fun k n s is ks ih => ?_
 rintro ⟨k',n',s',is',ks'⟩ hlen hlen' h
 refine pcall ?_ rfl (by simp [V.A,V.cells,A.pure,A.data]) h
 refine fo ?_
 obtain ⟨hil,hkl,_,hmem⟩:=V.lens_mk hlen
 obtain ⟨hil',hkl',_,hmem'⟩:=V.lens_mk hlen'
 have hE : Val.eqB (.mk k n s is ks) (.mk k' n' s' is' ks') = (k == k' && n == n' && s == s' && ks == ks' && Val.eqBs is is'):=by rw [Val.eqB]
 have hno : ∀ b,b = false → Val.eqB (.mk k n s is ks) (.mk k' n' s' is' ks') = b → True:=fun _ _ _ => trivial
 by_cases h1 : k = k'
 rotate_left
 ·have e1 : (k != k') = true:=by simp [h1]
  refine go0 (ai @V_A (ai @V_cells e1)) ?_
  exact ⟨_,le_refl _,by rw [tupA_1,hE,beq_eq_false_iff_ne.2 h1]; rfl⟩
 have e1 : (k != k') = false:=by simp [h1]
 by_cases h2 : n = n'
 rotate_left
 ·have e2 : (n != n') = true:=by simp [h2]
  refine go0 (ai @V_A (ai @V_cells (ai e1 e2))) ?_
  exact ⟨_,le_refl _,by rw [tupA_1,hE,beq_eq_false_iff_ne.2 h2]; simp⟩
 have e2 : (n != n') = false:=by simp [h2]
 by_cases h3 : s = s'
 rotate_left
 ·have e3 : (s != s') = true:=by simp [h3]
  refine go0 (ai @V_A (ai @V_cells (ai e1 (ai e2 e3)))) ?_
  exact ⟨_,le_refl _,by rw [tupA_1,hE,beq_eq_false_iff_ne.2 h3]; simp⟩
 have e3 : (s != s') = false:=by simp [h3]
 by_cases h4 : is.length = is'.length
 rotate_left
 ·have e4 : ((is.length : Int) != (is'.length : Int)) = true:=by simp; omega
  have hb : Val.eqBs is is' = false:=by rw [Bool.eq_false_iff]; exact fun e => h4 (eqBs_len e)
  refine go0 (ai @V_A (ai @V_cells (ai e1 (ai e2 (ai e3 (ai @V.cellss_length e4)))))) ?_
  exact ⟨_,le_refl _,by rw [tupA_1,hE,hb]; simp⟩
 have e4 : ((is.length : Int) != (is'.length : Int)) = false:=by simp [h4]
 by_cases h5 : ks.length = ks'.length
 rotate_left
 ·have e5 : ((ks.length : Int) != (ks'.length : Int)) = true:=by simp; omega
  have hb : (ks == ks') = false:=by rw [beq_eq_false_iff_ne]; rintro rfl; exact h5 rfl
  refine go0 (ai @V_A (ai @V_cells (ai e1 (ai e2 (ai e3 (ai @V.cellss_length (ai e4 (ai @strsA_length e5)))))))) ?_
  exact ⟨_,le_refl _,by rw [tupA_1,hE,hb]; simp⟩
 have e5 : ((ks.length : Int) != (ks'.length : Int)) = false:=by simp [h5]
 have hE2 : Val.eqB (.mk k n s is ks) (.mk k' n' s' is' ks') = (ks == ks' && Val.eqBs is is'):=by rw [hE]; simp [h1,h2,h3]
 refine go0 (ai @V_A (ai @V_cells (ai e1 (ai e2 (ai e3 (ai @V.cellss_length (ai e4 (ai @strsA_length e5)))))))) ?_
 refine awp_loop (fun m ts hh => hh = ⟨[.cells 71 [.int .i64 k,.int .i64 n,.str s,.sl 5 .no (V.cellss is),.sl 1 .no (strsA ks)],.cells 71 [.int .i64 k',.int .i64 n',.str s',.sl 5 .no (V.cellss is'),.sl 1 .no (strsA ks')]],[]⟩ ∧ ∃ (i : Nat),m = ks.length - i ∧ i ≤ ks.length ∧ (ks.drop i == ks'.drop i) = (ks == ks') ∧ ts 2 = .ptr 0 0 ∧ ts 3 = .ptr 1 0 ∧ ts 5 = .int .i64 i) ks.length ?_ ?_
 ·refine ⟨rfl,0,rfl,Nat.zero_le _,rfl,?_⟩
  (exact inv0 @strsA_length)
 ·rintro m ts hh ⟨rfl,i,rfl,hi,heq,t2,t3,t5⟩
  by_cases hlt : i < ks.length
  ·have hla : (i : Int) < ((strsA ks).length : Int):=by rw [strsA_length]; omega
   have hlb : (i : Int) < ((strsA ks').length : Int):=by rw [strsA_length]; omega
   have ei : IntKind.i64.wrap ((i : Int) + 1) = (i : Int) + 1:=wrap64 (by omega) (by omega)
   have ea:=strsA_get ks i hlt
   have eb:=strsA_get ks' i (by omega)
   rw [List.drop_eq_getElem_cons hlt,List.drop_eq_getElem_cons (by omega : i < ks'.length)] at heq
   refine go0 (ai t2 (ai t3 (ai t5 hla))) ?_
   refine awp_quiet (by decide) ?_
   by_cases hc : ks[i] = ks'[i]
   ·have hc' : (ks[i] != ks'[i]) = false:=by simp [hc]
    refine go0 (ai t2 (ai t3 (ai t5 (ai hla (ai hlb (ai ea (ai eb (ai hc' ei)))))))) ?_
    refine ⟨ks.length - (i + 1),by omega,rfl,i + 1,rfl,by omega,?_,?_⟩
    ·rw [← heq,List.cons_beq_cons,hc,beq_self_eq_true,Bool.true_and]
    ·(exact inv0 (ai t2 (ai t3 (ai t5 ei))))
   ·have hc' : (ks[i] != ks'[i]) = true:=by simp [hc]
    refine go0 (ai t2 (ai t3 (ai t5 (ai hla (ai hlb (ai ea (ai eb (ai hc' ei)))))))) ?_
    exact ⟨_,le_refl _,by rw [tupA_1,hE2,← heq,List.cons_beq_cons,beq_eq_false_iff_ne.2 hc]; simp⟩
  ·have hla : ¬ (i : Int) < ((strsA ks).length : Int):=by rw [strsA_length]; omega
   rw [List.drop_of_length_le (by omega),List.drop_of_length_le (by omega)] at heq
   have hE3 : Val.eqB (.mk k n s is ks) (.mk k' n' s' is' ks') = Val.eqBs is is':=by rw [hE2,← heq]; simp
   refine go0 (ai t2 (ai t3 (ai t5 hla))) ?_
   refine awp_loop (fun m ts hh => hh = ⟨[.cells 71 [.int .i64 k,.int .i64 n,.str s,.sl 5 .no (V.cellss is),.sl 1 .no (strsA ks)],.cells 71 [.int .i64 k',.int .i64 n',.str s',.sl 5 .no (V.cellss is'),.sl 1 .no (strsA ks')]],[]⟩ ∧ ∃ (i : Nat),m = is.length - i ∧ i ≤ is.length ∧ Val.eqBs (is.drop i) (is'.drop i) = Val.eqBs is is' ∧ ts 2 = .ptr 0 0 ∧ ts 3 = .ptr 1 0 ∧ ts 6 = .int .i64 i) is.length ?_ ?_
   ·refine ⟨rfl,0,rfl,Nat.zero_le _,rfl,?_⟩
    (exact inv0 (ai @strsA_length (ai t2 t3)))
   ·clear heq
    rintro m ts hh ⟨rfl,i,rfl,hi,heq,t2,t3,t6⟩
    by_cases hlt : i < is.length
    ·have hla : (i : Int) < ((V.cellss is).length : Int):=by rw [V.cellss_length]; omega
     have hlb : (i : Int) < ((V.cellss is').length : Int):=by rw [V.cellss_length]; omega
     have ei : IntKind.i64.wrap ((i : Int) + 1) = (i : Int) + 1:=wrap64 (by omega) (by omega)
     have ea:=V.cellss_get is i hlt
     have eb:=V.cellss_get is' i (by omega)
     have hcall:=fun (h : Hp) => ih is[i] (List.getElem_mem hlt) (is'[i]'(by omega)) (hmem _ (List.getElem_mem hlt)) (hmem' _ (List.getElem_mem (by omega))) h
     rw [List.drop_eq_getElem_cons hlt,List.drop_eq_getElem_cons (by omega : i < is'.length),Val.eqBs] at heq
     obtain ⟨⟨k1,n1,s1,is1,ks1⟩,hv⟩ : ∃ x,is[i] = x:=⟨_,rfl⟩
     obtain ⟨⟨k2,n2,s2,is2,ks2⟩,hv2⟩ : ∃ x,is'[i]'(by omega) = x:=⟨_,rfl⟩
     rw [hv] at ea hcall heq
     rw [hv2] at eb hcall heq
     simp only [V.A,V.cells] at hcall
     refine go0 (ai @V_cells (ai t2 (ai t3 (ai t6 hla)))) ?_
     refine awp_quiet (by decide) ?_
     refine go0 (ai @V_cells (ai t2 (ai t3 (ai t6 (ai hla (ai hlb (ai ea eb))))))) ?_
     refine gq_call (by simp only [put_app,put_none,init_app,evX_t,evX_c,resA_nil,resA_t,resA_c,tupA_0,tupA_1,tupA_2,astep,bop,uop,loadA,storeA,appA,ssliceA,eqA,eqCells,fillA,rowsA,setCells,A.cells,A.one,A.data,optP_some,List.all_cons,List.all_nil,Bool.and_true,Bool.true_and,Option.map_some,Option.map_none,Option.bind_some,Option.bind_none,Option.getD_some,Option.getD_none,List.map_cons,List.map_nil,List.getD_cons_zero,List.getD_cons_succ,List.getElem?_cons_zero,List.getElem?_cons_succ,List.length_cons,List.length_nil,List.nil_append,List.cons_append,List.append_nil,List.set_cons_zero,List.set_cons_succ,List.drop_zero,List.drop_succ_cons,List.take_succ_cons,List.take_zero,List.take_nil,List.length_append,List.length_set,Nat.reduceAdd,Nat.reduceSub,Nat.reduceMul,Nat.reduceLeDiff,Nat.reduceEqDiff,Nat.reduceBEq,Int.toNat_natCast,Int.natCast_nonneg,if_true,if_false,reduceIte,ite_true,ite_false,true_and,and_true,ne_eq,not_true_eq_false,not_false_eq_true,Bool.false_eq_true,reduceCtorEq,and_self,Nat.zero_add,Nat.add_zero,Nat.le_refl,Bool.not_true,Bool.not_false,decide_true,decide_false,t2,t3,t6] <;> with_reducible rfl) (hcall _) ?_
     rcases bool_or (Val.eqB (.mk k1 n1 s1 is1 ks1) (.mk k2 n2 s2 is2 ks2)) with hz | hz
     ·rw [hz] at heq ⊢
      refine go0 (ai t2 (ai t3 (ai t6 ei))) ?_
      refine ⟨is.length - (i + 1),by omega,rfl,i + 1,rfl,by omega,by simpa using heq,?_⟩
      (exact inv0 (ai t2 (ai t3 (ai t6 ei))))
     ·rw [hz] at heq ⊢
      refine go0 (ai t2 (ai t3 (ai t6 ei))) ?_
      exact ⟨_,le_refl _,by rw [tupA_1,hE3,← heq]; rfl⟩
    ·have hla : ¬ (i : Int) < ((V.cellss is).length : Int):=by rw [V.cellss_length]; omega
     rw [List.drop_of_length_le (by omega),List.drop_of_length_le (by omega)] at heq
     refine go0 (ai t2 (ai t3 (ai t6 hla))) ?_
     exact ⟨_,le_refl _,by rw [tupA_1,hE3,← heq]; rfl⟩
theorem a_qsame (l : List (List UInt8)) (hl : l.length ≤ 1000000000) (h : Hp) : ACall Tryz.prog GT 146 [.sl 1 .no (strsA l),.sl 1 .no (strsA l)] h fun r h' => r = .bool true ∧ h' = h:=by
 refine pcall ?_ rfl (by simp [A.pure,A.data]) h
 refine fo ?_
 have li:=strsA_length l
 refine run0 li ?_
 refine awp_loop (fun m ts hh => hh = ⟨[],[]⟩ ∧ ∃ i : Nat,m = l.length - i ∧ i ≤ l.length ∧ (ts 0 = .sl 1 .no (strsA l) ∧ ts 1 = .sl 1 .no (strsA l) ∧ ts 5 = .int .i64 (i : Nat))) l.length ?_ ?_
 ·exact ⟨rfl,0,rfl,Nat.zero_le _,by (exact inv0 li)⟩
 rintro m ts hh ⟨rfl,i,rfl,hi,ht⟩
 rcases Nat.lt_or_ge i l.length with hlt | hge
 ·have hf : (strsA l).length = l.length ∧ (i : Int) < (l.length : Int) ∧ (0 : Int) ≤ (i : Int) ∧ (strsA l).getD i [] = [.str l[i]] ∧ IntKind.i64.wrap ((i : Int) + 1) = ((i + 1 : Nat) : Int):=rowj_at (fun s : List UInt8 => [A.str s]) l i hlt (by omega)
  refine run0 (ai ht hf) ?_
  exact ⟨_,by omega,rfl,i + 1,rfl,by omega,by (exact inv0 (ai ht hf))⟩
 ·have hf : ¬ (i : Int) < (l.length : Int):=by omega
  refine run0 (ai ht (ai li hf)) ?_
  exact ⟨_,le_refl _,rfl⟩
theorem a_qeqinst (x : Sf.Inst) (hx : x.attrs.lens) (hd : x.deps.length ≤ 1000000000) (h : Hp) : ACall Tryz.prog GT 82 [.agg x.cells,.agg x.cells] h fun r h' => r = .bool true ∧ h' = h:=by
 have c1:=t_rEqual x.attrs x.attrs hx hx
 rw [eqB_refl_] at c1
 have c2:=a_qsame x.deps hd
 obtain ⟨a1,a2,a3,a4,⟨k,nn,ss,is,ks⟩,v,tn,fi,ds⟩:=x
 simp only [Sf.Inst.cells,List.cons_append,List.nil_append,V.A,V.cells] at *
 refine pcall ?_ rfl (by simp [A.pure,A.data]) h
 refine fo ?_
 refine runc0 ti (ai c1 (ai c2 ti)) ?_
 exact ⟨_,le_refl _,rfl⟩
theorem a_qequal (st : Sf.St) (hin : Sf.StIn st) (h : Hp) : ACall Tryz.prog GT 40 [st.A,st.A] h fun r h' => r = .bool true ∧ h' = h:=by
 refine pcall ?_ rfl (by simp [A.pure,A.data,Sf.St.A]) h
 refine fo ?_
 have hli:=hin.li
 have hlp:=hin.lp
 have hlo:=hin.lo
 have hci:=fun x (hx : x ∈ st.insts) => a_qeqinst x (hin.insts x hx).l (hin.insts x hx).n
 have hco:=fun x (hx : x ∈ st.outs) => t_rEqual x.value x.value (hin.outs x hx).2 (hin.outs x hx).2
 obtain ⟨lin,ser,ins,ps,os⟩:=st
 simp only [Sf.St.A]
 dsimp only at hli hlp hlo hci hco
 have lm1 : (ins.map Sf.Inst.cells).length = ins.length:=List.length_map _
 have lm2 : (ps.map Sf.Pend.cells).length = ps.length:=List.length_map _
 have lm3 : (os.map Sf.Outp.cells).length = os.length:=List.length_map _
 refine runx0 (ai lm1 (ai lm2 lm3)) ti ?_
 refine awp_loop (fun m ts hh => hh = ⟨[.cells 39 [.str lin,.int .i64 ser,.sl 13 .no (ins.map Sf.Inst.cells),.sl 3 .no (ps.map Sf.Pend.cells),.sl 7 .no (os.map Sf.Outp.cells)],.cells 39 [.str lin,.int .i64 ser,.sl 13 .no (ins.map Sf.Inst.cells),.sl 3 .no (ps.map Sf.Pend.cells),.sl 7 .no (os.map Sf.Outp.cells)]],[]⟩ ∧ ∃ (i : Nat),m = ins.length - i ∧ i ≤ ins.length ∧ (ts 2 = .ptr 0 0 ∧ ts 3 = .ptr 1 0 ∧ ts 5 = .int .i64 (i : Nat))) ins.length ?_ ?_
 ·exact ⟨rfl,0,rfl,Nat.zero_le _,by (exact inv0 (ai lm1 (ai lm2 lm3)))⟩
 rintro m ts hh ⟨rfl,i,rfl,hi,ht⟩
 rcases Nat.lt_or_ge i ins.length with hlt | hge
 ·have hf:=rowj_at Sf.Inst.cells ins i hlt (by omega)
  have cx:=hci _ (List.getElem_mem hlt)
  obtain ⟨x,hx⟩ : ∃ x,ins[i] = x:=⟨_,rfl⟩
  rw [hx] at hf cx
  obtain ⟨a1,a2,a3,a4,⟨k,nn,ss,is,ks⟩,v,tn,fi,ds⟩:=x
  simp only [Sf.Inst.cells,List.cons_append,List.nil_append] at hf cx
  refine runx0 (ai ht hf) (ai cx ti) ?_
  exact ⟨_,by omega,rfl,i + 1,rfl,by omega,by (exact inv0 (ai ht hf))⟩
 have hf:=rowj_end Sf.Inst.cells ins i hge
 refine runx0 (ai ht hf) ti ?_
 refine awp_loop (fun m ts hh => hh = ⟨[.cells 39 [.str lin,.int .i64 ser,.sl 13 .no (ins.map Sf.Inst.cells),.sl 3 .no (ps.map Sf.Pend.cells),.sl 7 .no (os.map Sf.Outp.cells)],.cells 39 [.str lin,.int .i64 ser,.sl 13 .no (ins.map Sf.Inst.cells),.sl 3 .no (ps.map Sf.Pend.cells),.sl 7 .no (os.map Sf.Outp.cells)]],[]⟩ ∧ ∃ (i : Nat),m = ps.length - i ∧ i ≤ ps.length ∧ (ts 2 = .ptr 0 0 ∧ ts 3 = .ptr 1 0 ∧ ts 6 = .int .i64 (i : Nat))) ps.length ?_ ?_
 ·exact ⟨rfl,0,rfl,Nat.zero_le _,by (exact inv0 ht)⟩
 clear ht hf hi hge ts i
 rintro m ts hh ⟨rfl,i,rfl,hi,ht⟩
 rcases Nat.lt_or_ge i ps.length with hlt | hge
 ·have hf:=rowj_at Sf.Pend.cells ps i hlt (by omega)
  obtain ⟨x,hx⟩ : ∃ x,ps[i] = x:=⟨_,rfl⟩
  rw [hx] at hf
  obtain ⟨a1,a2,a3⟩:=x
  simp only [Sf.Pend.cells] at hf
  refine runx0 (ai ht hf) ti ?_
  exact ⟨_,by omega,rfl,i + 1,rfl,by omega,by (exact inv0 (ai ht hf))⟩
 have hf:=rowj_end Sf.Pend.cells ps i hge
 refine runx0 (ai ht hf) ti ?_
 refine awp_loop (fun m ts hh => ∃ (i : Nat) (l : List Blk),m = os.length - i ∧ i ≤ os.length ∧ hh = ⟨.cells 39 [.str lin,.int .i64 ser,.sl 13 .no (ins.map Sf.Inst.cells),.sl 3 .no (ps.map Sf.Pend.cells),.sl 7 .no (os.map Sf.Outp.cells)] :: .cells 39 [.str lin,.int .i64 ser,.sl 13 .no (ins.map Sf.Inst.cells),.sl 3 .no (ps.map Sf.Pend.cells),.sl 7 .no (os.map Sf.Outp.cells)] :: l,[]⟩ ∧ (ts 2 = .ptr 0 0 ∧ ts 3 = .ptr 1 0 ∧ ts 7 = .int .i64 (i : Nat))) os.length ?_ ?_
 ·exact ⟨0,[],rfl,Nat.zero_le _,rfl,by (exact inv0 ht)⟩
 clear ht hf hi hge ts i
 rintro m ts hh ⟨i,l,rfl,hi,rfl,ht⟩
 rcases Nat.lt_or_ge i os.length with hlt | hge
 rotate_left
 ·have hf:=rowj_end Sf.Outp.cells os i hge
  refine runx0 (ai ht hf) ti ?_
  exact ⟨_,le_refl _,rfl⟩
 have hf:=rowj_at Sf.Outp.cells os i hlt (by omega)
 have cx:=hco _ (List.getElem_mem hlt)
 rw [eqB_refl_] at cx
 obtain ⟨x,hx⟩ : ∃ x,os[i] = x:=⟨_,rfl⟩
 rw [hx] at hf cx
 obtain ⟨a1,⟨k,nn,ss,is,ks⟩,b1⟩:=x
 simp only [Sf.Outp.cells,V.A,V.cells,List.cons_append,List.nil_append] at hf cx
 refine runx0 (ai ht hf) (ai cx ti) ?_
 refine awp_two 10 (by decide +kernel) ?_ ?_
 all_goals simp only [edgeA,swapA,swap2,swN,aR,aF,aL,aM,List.map_cons,List.map_nil,reduceIte,Nat.reduceEqDiff,Nat.reduceAdd]
 ·refine runx0 (ai ht hf) (ai cx ti) ?_
  exact ⟨_,by omega,i + 1,_,rfl,by omega,rfl,by (exact inv0 (ai ht hf))⟩
 ·refine runx0 (ai ht hf) (ai cx ti) ?_
  exact ⟨_,by omega,i + 1,_,rfl,by omega,rfl,by (exact inv0 (ai ht hf))⟩
def longIdx : Nat → List (List UInt8) → Int
 | _,[] => -1
 | i,s :: l => if decide ((s.length : Int) > 4096) = true then i else longIdx (i + 1) l
theorem longIdx_ge : ∀ (l : List (List UInt8)) (i : Nat),decide (longIdx i l ≥ 0) = !Jr.shortB l
 | [],i => rfl
 | s :: l,i => by
  unfold longIdx Jr.shortB
  rw [List.all_cons]
  by_cases h : (s.length : Int) > 4096
  ·rw [if_pos (by simpa using h),show decide ((s.length : Int) ≤ 4096) = false by simpa using h]
   simp
  ·rw [if_neg (by simpa using h),show decide ((s.length : Int) ≤ 4096) = true by simpa using h,Bool.true_and]
   exact longIdx_ge l (i + 1)
theorem a_jshort1 (s : List UInt8) (h : Hp) : ACall Tryz.prog GT 186 [.str s] h fun r h' => r = .bool (decide ((s.length : Int) > 4096)) ∧ h' = h:=by
 refine pcall ?_ rfl (by simp [A.pure,A.data]) h
 refine fo ?_
 refine runx0 ti ti ?_
 exact ⟨_,le_refl _,rfl⟩
theorem a_indexs (ks : List (List UInt8)) (hn : ks.length ≤ 1000000000) (h : Hp) : ACall Tryz.prog GT 242 [.sl 1 .no (strsA ks),.fn 186 []] h fun r h' => r = .int .i64 (longIdx 0 ks) ∧ h' = h:=by
 refine pcall ?_ rfl (by simp [A.pure,A.data]) h
 refine fo ?_
 obtain ⟨D,hD⟩ : ∃ D,longIdx 0 ks = D:=⟨_,rfl⟩
 rw [hD]
 have li : (strsA ks).length = ks.length:=strsA_length ks
 refine run0 li ?_
 refine awp_loop (fun mm ts h => ∃ (j : Nat),mm = ks.length - j ∧ j ≤ ks.length ∧ h = ⟨[],[]⟩ ∧ longIdx j (ks.drop j) = D ∧ (ts 0 = .sl 1 .no (strsA ks) ∧ ts 1 = .fn 186 [] ∧ ts 7 = .int .i64 (ks.length : Nat) ∧ ts 8 = .int .i64 (j : Nat))) ks.length ?_ ?_
 ·exact ⟨0,by omega,by omega,rfl,hD,by (exact inv0 li)⟩
 rintro mm ts h ⟨j,rfl,hjc,rfl,hit,ht⟩
 by_cases hj : j < ks.length
 ·have hf:=rowj_at (fun s : List UInt8 => [A.str s]) ks j hj (by omega)
  have hf' : (strsA ks).length = ks.length ∧ (j : Int) < (ks.length : Int) ∧ (0 : Int) ≤ (j : Int) ∧ (strsA ks).getD j [] = [.str ks[j]] ∧ IntKind.i64.wrap ((j : Int) + 1) = ((j + 1 : Nat) : Int):=hf
  clear hf
  rw [List.drop_eq_getElem_cons hj] at hit
  unfold longIdx at hit
  obtain ⟨x,hx⟩ : ∃ x,ks[j] = x:=⟨_,rfl⟩
  rw [hx] at hf' hit
  have cf:=a_jshort1 x
  obtain ⟨K,hK⟩ : ∃ K,decide ((x.length : Int) > 4096) = K:=⟨_,rfl⟩
  rw [hK] at cf hit
  refine run0 (ai ht hf') ?_
  refine use (cf _) ?_
  cases K
  ·rw [if_neg (by simp)] at hit
   refine run0 (ai ht hf') ?_
   exact ⟨ks.length - (j + 1),by omega,j + 1,rfl,by omega,rfl,hit,by (exact inv0 (ai ht hf'))⟩
  ·rw [if_pos rfl] at hit
   subst hit
   refine run0 (ai ht hf') ?_
   exact ⟨_,le_refl _,rfl⟩
 ·have hlt : ¬ ((j : Int) < (ks.length : Int)):=by omega
  rw [List.drop_eq_nil_of_le (by omega)] at hit
  unfold longIdx at hit
  subst hit
  refine run0 (ai ht (ai hlt li)) ?_
  exact ⟨_,le_refl _,rfl⟩
theorem a_jshort (ks : List (List UInt8)) (hn : ks.length ≤ 1000000000) (h : Hp) : ACall Tryz.prog GT 115 [.sl 1 .no (strsA ks)] h fun r h' => r = .bool (Jr.shortB ks) ∧ h' = h:=by
 have ci:=a_indexs ks hn
 have hge:=longIdx_ge ks 0
 obtain ⟨D,hD⟩ : ∃ D,longIdx 0 ks = D:=⟨_,rfl⟩
 rw [hD] at ci hge
 have cc : ∀ h,ACall Tryz.prog GT 185 [.sl 1 .no (strsA ks),.fn 186 []] h fun r h' => r = .bool (!Jr.shortB ks) ∧ h' = h:=fun h => by
  rw [← hge]
  refine pcall ?_ rfl (by simp [A.pure,A.data]) h
  refine fo ?_
  refine runx0 ti (ai ci ti) ?_
  exact ⟨_,le_refl _,rfl⟩
 obtain ⟨B,hB⟩ : ∃ B,Jr.shortB ks = B:=⟨_,rfl⟩
 rw [hB] at cc ⊢
 refine pcall ?_ rfl (by simp [A.pure,A.data]) h
 refine fo ?_
 refine runx0 ti (ai cc ti) ?_
 exact ⟨_,le_refl _,by cases B <;> rfl⟩
theorem a_jnone (x : Sf.Inst) (h : Hp) : ACall Tryz.prog GT 110 [.agg (Sf.Inst.cells x)] h fun r h' => r = .bool (Jr.noneB x) ∧ h' = h:=by
 obtain ⟨a,d,i,t,⟨k,n,s,is,ks⟩,v,tn,fi,ds⟩:=x
 have l1:=V.cellss_length is
 have l2:=strsA_length ks
 have l3:=strsA_length ds
 unfold Sf.Inst.cells Jr.noneB Jr.zeroV
 dsimp only
 refine pcall ?_ rfl (by simp [A.pure,A.data]) h
 refine fo ?_
 refine runx0 (ai l1 (ai l2 l3)) ti ?_
 exact ⟨_,le_refl _,rfl⟩
theorem a_jempty (s : Sf.St) (h : Hp) : ACall Tryz.prog GT 109 [s.A] h fun r h' => r = .bool (Jr.emptyB s) ∧ h' = h:=by
 obtain ⟨lin,ser,ins,ps,os⟩:=s
 have l1 : (ins.map Sf.Inst.cells).length = ins.length:=List.length_map _
 have l2 : (ps.map Sf.Pend.cells).length = ps.length:=List.length_map _
 have l3 : (os.map Sf.Outp.cells).length = os.length:=List.length_map _
 unfold Sf.St.A Jr.emptyB
 dsimp only
 refine pcall ?_ rfl (by simp [A.pure,A.data]) h
 refine fo ?_
 refine runx0 (ai l1 (ai l2 l3)) ti ?_
 exact ⟨_,le_refl _,rfl⟩
theorem a_jmakes (n : Int) (h : Hp) : ACall Tryz.prog GT 111 [.int .i64 n] h fun r h' => r = .bool (Jr.makesB n) ∧ h' = h:=by
 refine pcall ?_ rfl (by simp [A.pure,A.data]) h
 refine fo ?_
 unfold Jr.makesB
 refine runx0 ti ti ?_
 exact ⟨_,le_refl _,rfl⟩
theorem a_jinst (x : Sf.Inst) (hl : x.attrs.lens) (hd : x.deps.length ≤ 1000000000) (h : Hp) : ACall Tryz.prog GT 112 [.agg (Sf.Inst.cells x)] h fun r h' => r = .bool (Jr.instB x) ∧ h' = h:=by
 obtain ⟨a,d,i,t,⟨k,n,s,is,ks⟩,v,tn,fi,ds⟩:=x
 have l3:=strsA_length ds
 have c1:=a_jshort [a,d,i,t] (by simp)
 have c2:=a_jshort ds hd
 have c3:=a_vCheck (.mk k n s is ks) hl
 simp only [V.A,V.cells] at c3
 unfold Sf.Inst.cells Jr.instB
 dsimp only
 obtain ⟨b1,h1⟩ : ∃ b,Jr.shortB [a,d,i,t] = b:=⟨_,rfl⟩
 obtain ⟨b2,h2⟩ : ∃ b,Jr.shortB ds = b:=⟨_,rfl⟩
 obtain ⟨Z,hZ⟩ : ∃ b,Val.checkZ (.mk k n s is ks) = b:=⟨_,rfl⟩
 rw [h1] at c1
 rw [h2] at c2
 rw [hZ] at c3
 rw [h1,h2,hZ]
 have c1' : ∀ h,ACall Tryz.prog GT 115 [.sl 1 .no [[.str a],[.str d],[.str i],[.str t]]] h fun r h' => r = .bool b1 ∧ h' = h:=c1
 refine pcall ?_ rfl (by simp [A.pure,A.data]) h
 refine fo ?_
 refine runx0 l3 (ai c1' (ai c2 (ai c3 ti))) ?_
 exact ⟨_,le_refl _,rfl⟩
theorem a_jbare (r : Jr) (h : Hp) : ACall Tryz.prog GT 113 [.agg r.cells] h fun v h' => v = .bool r.bareB ∧ h' = h:=by
 obtain ⟨kd,⟨lin,ser,ins,ps,os⟩,st,op,ad,dp,ty,tk,er,⟨a,d,i,t,⟨k,n,s,is,ks⟩,v,tn,fi,ds⟩⟩:=r
 unfold Jr.bareB
 simp only [Jr.cells,Sf.Inst.cells,List.cons_append,List.nil_append]
 refine pcall ?_ rfl (by simp [A.pure,A.data]) h
 refine fo ?_
 refine runx0 ti ti ?_
 exact ⟨_,le_refl _,rfl⟩
theorem a_jstep (r : Jr) (h : Hp) : ACall Tryz.prog GT 114 [.agg r.cells] h fun v h' => v = .bool r.stepB ∧ h' = h:=by
 obtain ⟨kd,⟨lin,ser,ins,ps,os⟩,st,op,ad,dp,ty,tk,er,⟨a,d,i,t,⟨k,n,s,is,ks⟩,v,tn,fi,ds⟩⟩:=r
 unfold Jr.stepB
 simp only [Jr.cells,Sf.Inst.cells,List.cons_append,List.nil_append]
 have c1:=a_jshort [ad,dp,ty] (by simp)
 obtain ⟨b1,h1⟩ : ∃ b,Jr.shortB [ad,dp,ty] = b:=⟨_,rfl⟩
 rw [h1] at c1 ⊢
 have c1' : ∀ h,ACall Tryz.prog GT 115 [.sl 1 .no [[.str ad],[.str dp],[.str ty]]] h fun r h' => r = .bool b1 ∧ h' = h:=c1
 refine pcall ?_ rfl (by simp [A.pure,A.data]) h
 refine fo ?_
 refine runx0 ti (ai c1' ti) ?_
 exact ⟨_,le_refl _,rfl⟩
theorem a_jvalid (r : Jr) (hl : r.after.attrs.lens) (hd : r.after.deps.length ≤ 1000000000) (h : Hp) : ACall Tryz.prog GT 60 [.agg r.cells] h fun v h' => v = .bool r.validB ∧ h' = h:=by
 have ce:=a_jempty r.base
 have cn:=a_jnone r.after
 have cm:=a_jmakes r.op
 have ci:=a_jinst r.after hl hd
 have cb:=a_jbare r
 have cs:=a_jstep r
 have ct:=a_jshort [r.tok] (by simp)
 have hbad : Jr.badB r = (r.kind != 1 && !Jr.emptyB r.base || r.kind != 2 && r.tok != [] || r.kind != 4 && r.err != 0):=rfl
 have haft : Jr.afterB r = (Jr.noneB r.after || Jr.makesB r.op && Jr.instB r.after):=rfl
 unfold Jr.validB
 obtain ⟨bad,hbd⟩ : ∃ b,Jr.badB r = b:=⟨_,rfl⟩
 obtain ⟨aft,haf⟩ : ∃ b,Jr.afterB r = b:=⟨_,rfl⟩
 obtain ⟨e,he⟩ : ∃ b,Jr.emptyB r.base = b:=⟨_,rfl⟩
 obtain ⟨n,hn⟩ : ∃ b,Jr.noneB r.after = b:=⟨_,rfl⟩
 obtain ⟨m,hm⟩ : ∃ b,Jr.makesB r.op = b:=⟨_,rfl⟩
 obtain ⟨i,hi⟩ : ∃ b,Jr.instB r.after = b:=⟨_,rfl⟩
 obtain ⟨b,hb⟩ : ∃ b,r.bareB = b:=⟨_,rfl⟩
 obtain ⟨s,hs⟩ : ∃ b,r.stepB = b:=⟨_,rfl⟩
 obtain ⟨t,ht⟩ : ∃ b,Jr.shortB [r.tok] = b:=⟨_,rfl⟩
 rw [hbd,he] at hbad
 rw [haf,hn,hm,hi] at haft
 rw [he] at ce; rw [hn] at cn; rw [hm] at cm; rw [hi] at ci; rw [hb] at cb; rw [hs] at cs; rw [ht] at ct
 rw [hbd,haf,hn,hb,hs,ht]
 clear hbd haf he hn hm hi hb hs ht hl hd
 obtain ⟨kd,⟨lin,ser,ins,ps,os⟩,st,op,ad,dp,ty,tk,er,⟨a1,a2,a3,a4,⟨k,nn,ss,is,ks⟩,v,tn,fi,ds⟩⟩:=r
 have ct' : ∀ h,ACall Tryz.prog GT 115 [.sl 1 .no [[.str tk]]] h fun r h' => r = .bool t ∧ h' = h:=ct
 simp only [Jr.cells,Sf.Inst.cells,List.cons_append,List.nil_append,Sf.St.A] at *
 refine pcall ?_ rfl (by simp [A.pure,A.data]) h
 refine fo ?_
 refine runx0 ti (ai ce ti) ?_
 (refine AX.alt0 ti ?_ ?_)
 ·intro hc
  rw [hc] at hbad
  subst hbad
  refine runx0 ti ti ?_
  exact ⟨_,le_refl _,rfl⟩
 intro hc
 rw [hc] at hbad
 subst hbad
 rw [if_neg (by decide)]
 refine runx0 ti (ai cn (ai cm (ai ci ti))) ?_
 by_cases q1 : kd = 1
 ·subst q1
  rw [if_pos (.inl rfl)]
  refine runx0 ti (ai cb (ai cn ti)) ?_
  exact ⟨_,le_refl _,rfl⟩
 have f1 : (kd == 1) = false:=by simp [q1]
 by_cases q5 : kd = 5
 ·subst q5
  rw [if_pos (.inr rfl)]
  refine runx0 ti (ai cb (ai cn ti)) ?_
  exact ⟨_,le_refl _,rfl⟩
 have f5 : (kd == 5) = false:=by simp [q5]
 rw [if_neg (by simp [q1,q5])]
 by_cases q2 : kd = 2
 ·subst q2
  rw [if_pos rfl]
  refine runx0 ti (ai cs (ai cn (ai ct' ti))) ?_
  exact ⟨_,le_refl _,rfl⟩
 have f2 : (kd == 2) = false:=by simp [q2]
 rw [if_neg q2]
 by_cases q3 : kd = 3
 ·subst q3
  rw [if_pos rfl,haft]
  refine runx0 ti (ai cs ti) ?_
  exact ⟨_,le_refl _,rfl⟩
 have f3 : (kd == 3) = false:=by simp [q3]
 rw [if_neg q3]
 by_cases q4 : kd = 4
 ·subst q4
  rw [if_pos rfl,haft]
  refine runx0 ti (ai cs ti) ?_
  exact ⟨_,le_refl _,rfl⟩
 have f4 : (kd == 4) = false:=by simp [q4]
 rw [if_neg q4]
 refine runx0 (ai f1 (ai f2 (ai f3 (ai f4 f5)))) ti ?_
 exact ⟨_,le_refl _,rfl⟩
end AX
end Go.Proofs.YteklhoajalgehaaGreatDoor
