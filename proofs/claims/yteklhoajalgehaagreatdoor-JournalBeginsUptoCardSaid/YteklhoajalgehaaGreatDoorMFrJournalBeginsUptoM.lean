/- Part of what the proof needs. -/
import Derived.Test.YteklhoajalgehaaGreatDoorMFrJournalBeginsUptoG
import Derived.Test.YteklhoajalgehaaGreatDoorMFrJournalBeginsUptoJ
import Derived.Test.YteklhoajalgehaaGreatDoorMFrJournalBeginsUptoL
import Derived.Lib.ParseIntB
import Derived.Test.YteklhoajalgehaaGreatDoorShelfP
set_option maxHeartbeats 4000000
set_option linter.unusedSimpArgs false
set_option linter.unusedVariables false
set_option linter.unnecessarySimpa false
namespace Go.Proofs.YteklhoajalgehaaGreatDoor
open Go.RowKit
namespace Wire
end Wire
namespace Val
end Val
namespace AX
def Gs (E : TypeId) (W lo : Nat) (h : Hp) (rows : List (List A)) (x : A) : Prop:=(rows = [] ∧ x = .sl 0 .nil []) ∨ ∃ t,lo ≤ t ∧ x = .sl W (.tok t) rows ∧ h.t[t]? = some (E,W,rows.length)
theorem Gs.app {E : TypeId} {W lo : Nat} {h : Hp} {rows : List (List A)} {x : A} (hg : Gs E W lo h rows x) (hlo : lo ≤ h.t.length) (bytes : Nat) (y : List A) (h1 : rows.length + 1 ≤ 1000000000) (h2 : bytes ≤ 1000) :
  ∃ x' t',(∀ b,appA ⟨b,h.t⟩ E W bytes x (.sl W .no [y]) = some (x',⟨b,t'⟩)) ∧ (∀ b,Gs E W lo ⟨b,t'⟩ (rows ++ [y]) x') ∧ (∀ (t : Nat) z,t < lo → h.t[t]? = some z → t'[t]? = some z) ∧ lo ≤ t'.length ∧ ∀ (t : Nat) E' W' n,E' ≠ E → h.t[t]? = some (E',W',n) → t'[t]? = some (E',W',n):=by
 have hb1 : (rows.length + 1) * bytes ≤ 140737488355328:=Nat.le_trans (Nat.mul_le_mul h1 h2) (by decide)
 have hb2 : 1 * bytes ≤ 140737488355328:=by omega
 rcases hg with ⟨rfl,rfl⟩ | ⟨t,ht,rfl,htt⟩
 ·refine ⟨.sl W (.tok h.t.length) [y],h.t ++ [(E,W,1)],?_,?_,?_,?_,?_⟩
  ·intro b; exact if_pos (show W = W ∧ 0 < [y].length ∧ [y].length ≤ maxLen ∧ [y].length * bytes ≤ 140737488355328 from ⟨rfl,by simp,by simp [maxLen],by simpa using hb2⟩)
  ·intro b; exact .inr ⟨h.t.length,hlo,rfl,by simp⟩
  ·intro t z _ hz
   rw [List.getElem?_append_left (List.getElem?_eq_some_iff.1 hz).1]; exact hz
  ·simp; omega
  ·intro t E' W' n _ hz
   rw [List.getElem?_append_left (List.getElem?_eq_some_iff.1 hz).1]; exact hz
 ·refine ⟨.sl W (.tok t) (rows ++ [y]),h.t.set t (E,W,rows.length + 1),?_,?_,?_,?_,?_⟩
  ·intro b; exact if_pos (show W = W ∧ W = W ∧ 0 < [y].length ∧ h.t[t]? = some (E,W,rows.length) ∧ rows.length + [y].length ≤ maxLen ∧ (rows.length + [y].length) * bytes ≤ 140737488355328 from ⟨rfl,rfl,by simp,htt,by simp [maxLen]; omega,by simpa using hb1⟩)
  ·intro b; refine .inr ⟨t,ht,rfl,?_⟩
   show (h.t.set t _)[t]? = _
   rw [List.getElem?_set,if_pos rfl,if_pos (List.getElem?_eq_some_iff.1 htt).1]; simp
  ·intro t' z hlt hz
   rw [List.getElem?_set,if_neg (by omega)]; exact hz
  ·simpa using hlo
  ·intro t' E' W' n hne hz
   rw [List.getElem?_set,if_neg (fun e => by subst e; rw [htt] at hz; injection hz with hz; injection hz with hz; exact hne hz.symm)]; exact hz
theorem Gs.sl {E : TypeId} {W lo : Nat} {h : Hp} {rows : List (List A)} {x : A} (hg : Gs E W lo h rows x) : ∃ W' o,x = .sl W' o rows:=by
 rcases hg with ⟨rfl,rfl⟩ | ⟨t,_,rfl,_⟩ <;> exact ⟨_,_,rfl⟩
theorem Gs.one {E : TypeId} {W lo : Nat} {h : Hp} {rows : List (List A)} {x : A} (hg : Gs E W lo h rows x) : x.one = true:=by
 rcases hg with ⟨_,rfl⟩ | ⟨t,_,rfl,_⟩ <;> rfl
theorem Gs.le {E : TypeId} {W lo : Nat} {h : Hp} {rows : List (List A)} {x : A} (hg : Gs E W lo h rows x) : le1 x (.sl W .no rows):=by
 rcases hg with ⟨rfl,rfl⟩ | ⟨t,_,rfl,_⟩ <;> simp [le1]
theorem Gs.keep {E : TypeId} {W lo : Nat} {h h' : Hp} {rows : List (List A)} {x : A} (hg : Gs E W lo h rows x) (hk : ∀ (t : Nat) n,h.t[t]? = some (E,W,n) → h'.t[t]? = some (E,W,n)) : Gs E W lo h' rows x:=by
 rcases hg with h1 | ⟨t,h1,h2,h3⟩
 ·exact .inl h1
 ·exact .inr ⟨t,h1,h2,hk _ _ h3⟩
theorem V.cells_data (v : V) : v.cells.all A.data = true:=by
 obtain ⟨k,n,s,is,ks⟩:=v
 rfl
end AX
namespace Val
end Val
namespace AX
end AX
namespace Wire
end Wire
namespace Val
end Val
namespace AX
theorem Gs.grow {E : TypeId} {W : Nat} {t : List (TypeId × Nat × Nat)} {W1 : Nat} {o1 : Own} {rows : List (List A)} (hg : Gs E W 0 ⟨[],t⟩ rows (.sl W1 o1 rows)) (bytes : Nat) (y : List A) (h1 : rows.length + 1 ≤ 1000000000) (h2 : bytes ≤ 1000) :
  ∃ W' o' t',(∀ b,appA ⟨b,t⟩ E W bytes (.sl W1 o1 rows) (.sl W .no [y]) = some (.sl W' o' (rows ++ [y]),⟨b,t'⟩)) ∧ Gs E W 0 ⟨[],t'⟩ (rows ++ [y]) (.sl W' o' (rows ++ [y])) ∧ (∀ (E' : TypeId) (W' : Nat) (rows' : List (List A)) (x'' : A),E' ≠ E → Gs E' W' 0 ⟨[],t⟩ rows' x'' → Gs E' W' 0 ⟨[],t'⟩ rows' x''):=by
 obtain ⟨x',t',k1,k2,k3,k4,k5⟩:=hg.app (Nat.zero_le _) bytes y h1 h2
 obtain ⟨W',o',rfl⟩:=(k2 []).sl
 exact ⟨W',o',t',k1,k2 [],fun E' W' rows' x'' hne hg' => Gs.keep hg' fun k n hh => k5 k _ _ _ hne hh⟩
end AX
end Go.Proofs.YteklhoajalgehaaGreatDoor

namespace Go.Proofs.YteklhoajalgehaaGreatDoor
namespace Sf
structure Rs where
 r : Wire.St
 bad : Bool
def Rs.fails (s : Rs) : Bool:=s.bad || s.r.e != 0
def numS (s : Rs) : Rs × Int:=(⟨(Wire.numR s.r).1,s.bad⟩,(Wire.numR s.r).2)
def strS (s : Rs) : Rs × List UInt8:=(⟨(Wire.strR s.r).1,s.bad⟩,(Wire.strR s.r).2)
def cntS (s : Rs) : Rs × Nat:=(⟨(Wire.cntR s.r 1).1,s.bad⟩,(Wire.cntR s.r 1).2)
def flagS (s : Rs) : Rs × Bool:=
 let q:=Wire.numR s.r
 (⟨q.1,s.bad || (q.2 != 0 && q.2 != 1)⟩,q.2 == 1)
def valueS (s : Rs) : Rs × V:=
 let x:=Val.readValue s.r
 (⟨x.1,s.bad || x.2.1 != 0⟩,x.2.2)
def wordsS : Nat → Rs → List (List UInt8) → Rs × List (List UInt8)
 | 0,s,l => (s,l)
 | c + 1,s,l => wordsS c (strS s).1 (l ++ [(strS s).2])
def instS (ver : Int) (s : Rs) : Rs × Inst:=
 let a:=strS s
 let b:=strS a.1
 let c:=strS b.1
 let d:=strS c.1
 let v:=valueS d.1
 let n:=numS v.1
 let t:=flagS n.1
 let f:=if ver = 2 then flagS t.1 else (t.1,false)
 let k:=cntS f.1
 let w:=wordsS k.2 k.1 []
 (w.1,⟨a.2,b.2,c.2,d.2,v.2,n.2,t.2,f.2,w.2⟩)
def pendS (s : Rs) : Rs × Pend:=
 let a:=strS s
 let b:=strS a.1
 let c:=strS b.1
 (c.1,⟨a.2,b.2,c.2⟩)
def outS (s : Rs) : Rs × Outp:=
 let a:=strS s
 let v:=valueS a.1
 let f:=flagS v.1
 (f.1,⟨a.2,v.2,f.2⟩)
def instsS (ver : Int) : Nat → Rs → List Inst → Rs × List Inst × Bool
 | 0,s,l => (s,l,true)
 | c + 1,s,l => if s.fails then (s,l,false) else instsS ver c (instS ver s).1 (l ++ [(instS ver s).2])
def pendsS : Nat → Rs → List Pend → Rs × List Pend
 | 0,s,l => (s,l)
 | c + 1,s,l => pendsS c (pendS s).1 (l ++ [(pendS s).2])
def outsS : Nat → Rs → List Outp → Rs × List Outp × Bool
 | 0,s,l => (s,l,true)
 | c + 1,s,l => if s.fails then (s,l,false) else outsS c (outS s).1 (l ++ [(outS s).2])
def stateS (ver : Int) (s : Rs) : Rs × St:=
 let a:=strS s
 let n:=numS a.1
 let ci:=cntS n.1
 let i:=instsS ver ci.2 ci.1 []
 if i.2.2 = false then (i.1,⟨a.2,n.2,i.2.1,[],[]⟩)
 else
  let p:=if ver = 2 then pendsS (cntS i.1).2 (cntS i.1).1 [] else (i.1,[])
  let co:=cntS p.1
  let o:=outsS co.2 co.1 []
  (o.1,⟨a.2,n.2,i.2.1,p.2,o.2.1⟩)
end Sf
end Go.Proofs.YteklhoajalgehaaGreatDoor

namespace Go.Proofs.YteklhoajalgehaaGreatDoor
open Go.RowKit
namespace Sf
def Inst.cells : Inst → List AX.A
 | ⟨a,d,i,t,.mk k n s is ks,v,tn,fi,ds⟩ => [.str a,.str d,.str i,.str t,.int .i64 k,.int .i64 n,.str s,.sl 5 .no (V.cellss is),.sl 1 .no (strsA ks),.int .i64 v,.bool tn,.bool fi,.sl 1 .no (strsA ds)]
def Pend.cells (p : Pend) : List AX.A:=[.str p.addr,.str p.typ,.str p.tok]
def Outp.cells : Outp → List AX.A
 | ⟨m,.mk k n s is ks,b⟩ => [.str m,.int .i64 k,.int .i64 n,.str s,.sl 5 .no (V.cellss is),.sl 1 .no (strsA ks),.bool b]
def St.A (s : St) : AX.A:=.agg [.str s.lin,.int .i64 s.ser,.sl 13 .no (s.insts.map Inst.cells),.sl 3 .no (s.pends.map Pend.cells),.sl 7 .no (s.outs.map Outp.cells)]
end Sf
namespace Val
end Val
namespace Sf
end Sf
namespace AX
end AX
structure Jr where
 kind : Int
 base : Sf.St
 step : Int
 op : Int
 addr : List UInt8
 dep : List UInt8
 typ : List UInt8
 tok : List UInt8
 err : Int
 after : Sf.Inst
namespace Jr
def shortB (l : List (List UInt8)) : Bool:=l.all fun s => decide ((s.length : Int) ≤ 4096)
def zeroV : V → Bool
 | .mk k n s is ks => k == 0 && n == 0 && s == [] && (is.length : Int) == 0 && (ks.length : Int) == 0
def noneB (x : Sf.Inst) : Bool:=zeroV x.attrs && x.addr == [] && x.dep == [] && x.id == [] && x.typ == [] && x.ver == 0 && !x.tainted && !x.first && (x.deps.length : Int) == 0
def emptyB (s : Sf.St) : Bool:=s.lin == [] && s.ser == 0 && (s.insts.length : Int) == 0 && (s.pends.length : Int) == 0 && (s.outs.length : Int) == 0
def instB (x : Sf.Inst) : Bool:=shortB [x.addr,x.dep,x.id,x.typ] && shortB x.deps && decide ((x.deps.length : Int) ≤ 512) && Val.checkZ x.attrs == 0 && decide (x.ver ≥ 0) && decide (x.ver ≤ 9007199254740992)
def stepB (r : Jr) : Bool:=decide (r.step ≥ 0) && decide (r.step < 2048) && decide (r.op ≥ 1) && decide (r.op ≤ 4) && shortB [r.addr,r.dep,r.typ]
def bareB (r : Jr) : Bool:=r.step == 0 && r.op == 0 && r.addr == [] && r.dep == [] && r.typ == []
def makesB (op : Int) : Bool:=op == 1 || op == 2
def afterB (r : Jr) : Bool:=noneB r.after || makesB r.op && instB r.after
def badB (r : Jr) : Bool:=r.kind != 1 && !emptyB r.base || r.kind != 2 && r.tok != [] || r.kind != 4 && r.err != 0
def validB (r : Jr) : Bool:=
 if badB r = true then false
 else if r.kind = 1 ∨ r.kind = 5 then bareB r && noneB r.after
 else if r.kind = 2 then stepB r && noneB r.after && shortB [r.tok] && (r.op == 1 || r.tok == [])
 else if r.kind = 3 then stepB r && afterB r
 else if r.kind = 4 then stepB r && afterB r && decide (r.err ≥ 1) && decide (r.err ≤ 42)
 else false
def cells (r : Jr) : List AX.A:=
 [.int .i64 r.kind,.str r.base.lin,.int .i64 r.base.ser,.sl 13 .no (r.base.insts.map Sf.Inst.cells),.sl 3 .no (r.base.pends.map Sf.Pend.cells),.sl 7 .no (r.base.outs.map Sf.Outp.cells),.int .i64 r.step,.int .i64 r.op,.str r.addr,.str r.dep,.str r.typ,.str r.tok,.int .i64 r.err] ++ Sf.Inst.cells r.after
end Jr
namespace AX
theorem rowj_at {α : Type} (f : α → List A) (l : List α) (i : Nat) (h : i < l.length) (hl : l.length ≤ 4611686018427387904) :
  (l.map f).length = l.length ∧ (i : Int) < (l.length : Int) ∧ (0 : Int) ≤ (i : Int) ∧ (l.map f).getD i [] = f l[i] ∧ IntKind.i64.wrap ((i : Int) + 1) = ((i + 1 : Nat) : Int):=
 ⟨List.length_map _,by omega,by omega,by simp [List.getD,h],by rw [wrap64 (by omega) (by omega)]; omega⟩
theorem rowj_end {α : Type} (f : α → List A) (l : List α) (i : Nat) (h : l.length ≤ i) : (l.map f).length = l.length ∧ ¬ (i : Int) < (l.length : Int):=⟨List.length_map _,by omega⟩
end AX
def gfind {α : Type} (n : Int) : List (Int × α) → Option α
 | [] => none
 | (k,x) :: l => if n = k then some x else gfind n l
def gput {α : Type} (n : Int) (x : α) : List (Int × α) → List (Int × α)
 | [] => [(n,x)]
 | (k,y) :: l => if n = k then (n,x) :: l else (k,y) :: gput n x l
def gmap {α : Type} (f : α → AX.A) (l : List (Int × α)) : List (Int × AX.A):=l.map fun e => (e.1,f e.2)
section
variable {α : Type} (f : α → AX.A) (n : Int)
theorem gmap_find : ∀ l : List (Int × α),AX.mfind n (gmap f l) = (gfind n l).map f
 | [] => rfl
 | (k,x) :: l => by
  show AX.mfind n ((k,f x) :: gmap f l) = _
  unfold AX.mfind gfind
  split
  ·rfl
  ·exact gmap_find l
theorem gmap_put (x : α) : ∀ l : List (Int × α),AX.mput n (f x) (gmap f l) = gmap f (gput n x l)
 | [] => rfl
 | (k,y) :: l => by
  show AX.mput n (f x) ((k,f y) :: gmap f l) = _
  unfold AX.mput gput
  split
  ·rfl
  ·rw [gmap_put x l]; rfl
theorem gmap_length (l : List (Int × α)) : (gmap f l).length = l.length:=List.length_map _
theorem gmap_clock (l : List (Int × α)) (c : Nat) : AX.mclock n (gmap f l) c = if (gfind n l).isSome = true then c else c + 1:=by
 unfold AX.mclock
 rw [gmap_find]
 cases gfind n l <;> rfl
end
structure Fo where
 n : Int
 ended : Bool
 ints : List (Int × Jr)
 ress : List (Int × Bool)
 c1 : Nat
 c2 : Nat
namespace Fo
def next (f : Fo) (r : Jr) : Bool × Fo:=
 let f1 : Fo:={ f with n:=IntKind.i64.wrap (f.n + 1) }
 if (f.ended || !((f.n == 0) == (r.kind == 1))) = true then (false,f1)
 else if r.kind = 2 then (!(gfind r.step f.ints).isSome,{ f1 with ints:=gput r.step r f.ints,c1:=if (gfind r.step f.ints).isSome = true then f.c1 else f.c1 + 1 })
 else if r.kind = 3 ∨ r.kind = 4 then
  ((match gfind r.step f.ints with
   | some i => !((gfind r.step f.ress).getD false) && i.op == r.op && i.addr == r.addr && i.typ == r.typ
   | none => false),{ f1 with ress:=gput r.step true f.ress,c2:=if (gfind r.step f.ress).isSome = true then f.c2 else f.c2 + 1 })
 else if r.kind = 5 then ((f.ints.length : Int) == (f.ress.length : Int),{ f1 with ended:=true })
 else (true,f1)
def check : Fo → List Jr → Int
 | _,[] => 0
 | f,r :: l => if (!r.validB || (r.kind == 1 && Sf.checkZ r.base != 0)) = true then 1 else if (f.next r).1 = true then check (f.next r).2 l else 38
theorem check_take : ∀ (l : List Jr) (f : Fo) (k : Nat),check f l = 0 → check f (l.take k) = 0
 | [],f,k,h => by rw [List.take_nil]; rfl
 | r :: l,f,0,h => rfl
 | r :: l,f,k + 1,h => by
  rw [List.take_succ_cons]
  unfold check at h ⊢
  split
  ·next hc => rw [if_pos hc] at h; exact h
  ·next hc =>
   rw [if_neg hc] at h
   split
   ·next hn => rw [if_pos hn] at h; exact check_take l _ k h
   ·next hn => rw [if_neg hn] at h; exact h
end Fo
namespace Jr
def endedB (n : Int) (l : List Jr) : Bool:=l.any fun r => (r.kind == 3 || r.kind == 4) && r.step == n
def unfin (l : List Jr) : List Jr:=l.filter fun r => r.kind == 2 && !endedB r.step l
theorem unfin_kind {l : List Jr} {r : Jr} (h : r ∈ unfin l) : r.kind = 2:=by
 unfold unfin at h
 rw [List.mem_filter,Bool.and_eq_true,beq_iff_eq] at h
 exact h.2.1
theorem unfin_length (l : List Jr) : (unfin l).length ≤ l.length:=List.length_filter_le _ _
def ends (l : List Jr) : List (Int × Bool):=l.foldl (fun m r => if (r.kind == 3 || r.kind == 4) = true then gput r.step true m else m) []
end Jr
end Go.Proofs.YteklhoajalgehaaGreatDoor

namespace Go.Proofs.YteklhoajalgehaaGreatDoor
open Go.RowKit
namespace AX
def c_indexs : AX.AFn:=⟨19,aS [aR 4 (.mv (aI 0))] (.seq (aS [aM 6 0,aR 7 (.len false (.t 6)),aR 8 (.mv (aI 0))] (.block 0 (.loop (aS [aR 9 (.bin .lss (.t 8) (.t 7))] (.seq (.cond (.t 9) (.skip) (.exit 0)) (.seq (.block 1 (aS [aM 10 8,aM 5 10] (aS [aM 11 1,aM 12 0,aM 13 5,aR 14 (.iaddr 1 (.t 12) (.t 13)),aL 15 14,aR 16 (.callv (.t 11) [.t 15])] (.cond (.t 16) (aS [aM 17 5,aM 4 17] (.ret)) (.skip))))) (.reg false [aR 18 (.bin .add (.t 8) (aI 1)),aM 8 18]))))))) (aS [aR 4 (.mv (aI (-1)))] (.ret))),[.t 4]⟩
theorem h_indexs : AX.compFn Tryz.prog 242 = some c_indexs:=by kernel_rfl
def c_containss : AX.AFn:=⟨9,aS [aR 4 (.mv (.c (.bool false)))] (aS [aM 5 0,aM 6 1,aR 7 (.call 242 [.t 5,.t 6]),aR 8 (.bin .geq (.t 7) (aI 0)),aM 4 8] (.ret)),[.t 4]⟩
theorem h_containss : AX.compFn Tryz.prog 185 = some c_containss:=by kernel_rfl
def c_jshort : AX.AFn:=⟨6,aS [aR 2 (.mv (.c (.bool false)))] (aS [aM 3 0,aR 4 (.call 185 [.t 3,.c (.fn 186 [])]),aR 5 (.un .not (.t 4)),aM 2 5] (.ret)),[.t 2]⟩
theorem h_jshort : AX.compFn Tryz.prog 115 = some c_jshort:=by kernel_rfl
def c_jshort1 : AX.AFn:=⟨6,aS [aR 2 (.mv (.c (.bool false)))] (aS [aM 3 0,aR 4 (.len true (.t 3)),aR 5 (.bin .gtr (.t 4) (aI 4096)),aM 2 5] (.ret)),[.t 2]⟩
theorem h_jshort1 : AX.compFn Tryz.prog 186 = some c_jshort1:=by kernel_rfl
def c_jinstance : AX.AFn:=⟨40,aS [aR 1 (.box 73 (.t 0)),aR 2 (.mv (.c (.bool false)))] (aS [aF 3 0 1,aL 4 3,aF 5 1 1,aL 6 5,aF 7 2 1,aL 8 7,aF 9 3 1,aL 10 9,aR 11 (.mks 1 [.t 4,.t 6,.t 8,.t 10]),aR 12 (.call 115 [.t 11]),aM 13 12,aG 14 (.faddr 12 (.t 1)) 13 true,aG 15 (.load false 1 (.t 14)) 13 true,aG 16 (.call 115 [.t 15]) 13 true,aR 17 (.pick (.t 13) (.t 16) (.c (.bool false))),aM 18 17,aG 19 (.faddr 12 (.t 1)) 18 true,aG 20 (.load false 1 (.t 19)) 18 true,aG 21 (.len false (.t 20)) 18 true,aG 22 (.bin .leq (.t 21) (aI 512)) 18 true,aR 23 (.pick (.t 18) (.t 22) (.c (.bool false))),aM 24 23,aG 25 (.faddr 4 (.t 1)) 24 true,aG 26 (.load true 5 (.t 25)) 24 true,aG 27 (.call 178 [.t 26]) 24 true,aG 28 (.bin .eql (.t 27) (aI 0)) 24 true,aR 29 (.pick (.t 24) (.t 28) (.c (.bool false))),aM 30 29,aG 31 (.faddr 9 (.t 1)) 30 true,aG 32 (.load false 1 (.t 31)) 30 true,aG 33 (.bin .geq (.t 32) (aI 0)) 30 true,aR 34 (.pick (.t 30) (.t 33) (.c (.bool false))),aM 35 34,aG 36 (.faddr 9 (.t 1)) 35 true,aG 37 (.load false 1 (.t 36)) 35 true,aG 38 (.bin .leq (.t 37) (aI 9007199254740992)) 35 true,aR 39 (.pick (.t 35) (.t 38) (.c (.bool false))),aM 2 39] (.ret)),[.t 2]⟩
theorem h_jinstance : AX.compFn Tryz.prog 112 = some c_jinstance:=by kernel_rfl
def c_jnone : AX.AFn:=⟨74,aS [aR 1 (.box 73 (.t 0)),aR 2 (.mv (.c (.bool false)))] (aS [aF 5 4 1,aR 6 (.load true 5 (.t 5)),aR 3 (.alloc 71 [.int .i64 0,.int .i64 0,.str [],.sl 0 .nil [],.sl 0 .nil []]),aU (.store 5 (.t 3) (.t 6))] (aS [aF 7 0 3,aL 8 7,aR 9 (.bin .eql (.t 8) (aI 0)),aM 10 9,aG 11 (.faddr 1 (.t 3)) 10 true,aG 12 (.load false 1 (.t 11)) 10 true,aG 13 (.bin .eql (.t 12) (aI 0)) 10 true,aR 14 (.pick (.t 10) (.t 13) (.c (.bool false))),aM 15 14,aG 16 (.faddr 2 (.t 3)) 15 true,aG 17 (.load false 1 (.t 16)) 15 true,aG 18 (.bin .eql (.t 17) (.c (.str []))) 15 true,aR 19 (.pick (.t 15) (.t 18) (.c (.bool false))),aM 20 19,aG 21 (.faddr 3 (.t 3)) 20 true,aG 22 (.load false 1 (.t 21)) 20 true,aG 23 (.len false (.t 22)) 20 true,aG 24 (.bin .eql (.t 23) (aI 0)) 20 true,aR 25 (.pick (.t 20) (.t 24) (.c (.bool false))),aM 26 25,aG 27 (.faddr 4 (.t 3)) 26 true,aG 28 (.load false 1 (.t 27)) 26 true,aG 29 (.len false (.t 28)) 26 true,aG 30 (.bin .eql (.t 29) (aI 0)) 26 true,aR 31 (.pick (.t 26) (.t 30) (.c (.bool false))),aM 4 31] (aS [aM 32 4,aM 33 32,aG 34 (.faddr 0 (.t 1)) 33 true,aG 35 (.load false 1 (.t 34)) 33 true,aG 36 (.bin .eql (.t 35) (.c (.str []))) 33 true,aR 37 (.pick (.t 33) (.t 36) (.c (.bool false))),aM 38 37,aG 39 (.faddr 1 (.t 1)) 38 true,aG 40 (.load false 1 (.t 39)) 38 true,aG 41 (.bin .eql (.t 40) (.c (.str []))) 38 true,aR 42 (.pick (.t 38) (.t 41) (.c (.bool false))),aM 43 42,aG 44 (.faddr 2 (.t 1)) 43 true,aG 45 (.load false 1 (.t 44)) 43 true,aG 46 (.bin .eql (.t 45) (.c (.str []))) 43 true,aR 47 (.pick (.t 43) (.t 46) (.c (.bool false))),aM 48 47,aG 49 (.faddr 3 (.t 1)) 48 true,aG 50 (.load false 1 (.t 49)) 48 true,aG 51 (.bin .eql (.t 50) (.c (.str []))) 48 true,aR 52 (.pick (.t 48) (.t 51) (.c (.bool false))),aM 53 52,aG 54 (.faddr 9 (.t 1)) 53 true,aG 55 (.load false 1 (.t 54)) 53 true,aG 56 (.bin .eql (.t 55) (aI 0)) 53 true,aR 57 (.pick (.t 53) (.t 56) (.c (.bool false))),aM 58 57,aG 59 (.faddr 10 (.t 1)) 58 true,aG 60 (.load false 1 (.t 59)) 58 true,aG 61 (.un .not (.t 60)) 58 true,aR 62 (.pick (.t 58) (.t 61) (.c (.bool false))),aM 63 62,aG 64 (.faddr 11 (.t 1)) 63 true,aG 65 (.load false 1 (.t 64)) 63 true,aG 66 (.un .not (.t 65)) 63 true,aR 67 (.pick (.t 63) (.t 66) (.c (.bool false))),aM 68 67,aG 69 (.faddr 12 (.t 1)) 68 true,aG 70 (.load false 1 (.t 69)) 68 true,aG 71 (.len false (.t 70)) 68 true,aG 72 (.bin .eql (.t 71) (aI 0)) 68 true,aR 73 (.pick (.t 68) (.t 72) (.c (.bool false))),aM 2 73] (.ret)))),[.t 2]⟩
theorem h_jnone : AX.compFn Tryz.prog 110 = some c_jnone:=by kernel_rfl
def c_jempty : AX.AFn:=⟨29,aS [aR 1 (.box 39 (.t 0)),aR 2 (.mv (.c (.bool false)))] (aS [aF 3 0 1,aL 4 3,aR 5 (.bin .eql (.t 4) (.c (.str []))),aM 6 5,aG 7 (.faddr 1 (.t 1)) 6 true,aG 8 (.load false 1 (.t 7)) 6 true,aG 9 (.bin .eql (.t 8) (aI 0)) 6 true,aR 10 (.pick (.t 6) (.t 9) (.c (.bool false))),aM 11 10,aG 12 (.faddr 2 (.t 1)) 11 true,aG 13 (.load false 1 (.t 12)) 11 true,aG 14 (.len false (.t 13)) 11 true,aG 15 (.bin .eql (.t 14) (aI 0)) 11 true,aR 16 (.pick (.t 11) (.t 15) (.c (.bool false))),aM 17 16,aG 18 (.faddr 3 (.t 1)) 17 true,aG 19 (.load false 1 (.t 18)) 17 true,aG 20 (.len false (.t 19)) 17 true,aG 21 (.bin .eql (.t 20) (aI 0)) 17 true,aR 22 (.pick (.t 17) (.t 21) (.c (.bool false))),aM 23 22,aG 24 (.faddr 4 (.t 1)) 23 true,aG 25 (.load false 1 (.t 24)) 23 true,aG 26 (.len false (.t 25)) 23 true,aG 27 (.bin .eql (.t 26) (aI 0)) 23 true,aR 28 (.pick (.t 23) (.t 27) (.c (.bool false))),aM 2 28] (.ret)),[.t 2]⟩
theorem h_jempty : AX.compFn Tryz.prog 109 = some c_jempty:=by kernel_rfl
def c_jstep : AX.AFn:=⟨31,aS [aR 1 (.box 75 (.t 0)),aR 2 (.mv (.c (.bool false)))] (aS [aF 3 6 1,aL 4 3,aR 5 (.bin .geq (.t 4) (aI 0)),aM 6 5,aG 7 (.faddr 6 (.t 1)) 6 true,aG 8 (.load false 1 (.t 7)) 6 true,aG 9 (.bin .lss (.t 8) (aI 2048)) 6 true,aR 10 (.pick (.t 6) (.t 9) (.c (.bool false))),aM 11 10,aG 12 (.faddr 7 (.t 1)) 11 true,aG 13 (.load false 1 (.t 12)) 11 true,aG 14 (.bin .geq (.t 13) (aI 1)) 11 true,aR 15 (.pick (.t 11) (.t 14) (.c (.bool false))),aM 16 15,aG 17 (.faddr 7 (.t 1)) 16 true,aG 18 (.load false 1 (.t 17)) 16 true,aG 19 (.bin .leq (.t 18) (aI 4)) 16 true,aR 20 (.pick (.t 16) (.t 19) (.c (.bool false))),aM 21 20,aG 22 (.faddr 8 (.t 1)) 21 true,aG 23 (.load false 1 (.t 22)) 21 true,aG 24 (.faddr 9 (.t 1)) 21 true,aG 25 (.load false 1 (.t 24)) 21 true,aG 26 (.faddr 10 (.t 1)) 21 true,aG 27 (.load false 1 (.t 26)) 21 true,aG 28 (.mks 1 [.t 23,.t 25,.t 27]) 21 true,aG 29 (.call 115 [.t 28]) 21 true,aR 30 (.pick (.t 21) (.t 29) (.c (.bool false))),aM 2 30] (.ret)),[.t 2]⟩
theorem h_jstep : AX.compFn Tryz.prog 114 = some c_jstep:=by kernel_rfl
def c_jbare : AX.AFn:=⟨26,aS [aR 1 (.box 75 (.t 0)),aR 2 (.mv (.c (.bool false)))] (aS [aF 3 6 1,aL 4 3,aR 5 (.bin .eql (.t 4) (aI 0)),aM 6 5,aG 7 (.faddr 7 (.t 1)) 6 true,aG 8 (.load false 1 (.t 7)) 6 true,aG 9 (.bin .eql (.t 8) (aI 0)) 6 true,aR 10 (.pick (.t 6) (.t 9) (.c (.bool false))),aM 11 10,aG 12 (.faddr 8 (.t 1)) 11 true,aG 13 (.load false 1 (.t 12)) 11 true,aG 14 (.bin .eql (.t 13) (.c (.str []))) 11 true,aR 15 (.pick (.t 11) (.t 14) (.c (.bool false))),aM 16 15,aG 17 (.faddr 9 (.t 1)) 16 true,aG 18 (.load false 1 (.t 17)) 16 true,aG 19 (.bin .eql (.t 18) (.c (.str []))) 16 true,aR 20 (.pick (.t 16) (.t 19) (.c (.bool false))),aM 21 20,aG 22 (.faddr 10 (.t 1)) 21 true,aG 23 (.load false 1 (.t 22)) 21 true,aG 24 (.bin .eql (.t 23) (.c (.str []))) 21 true,aR 25 (.pick (.t 21) (.t 24) (.c (.bool false))),aM 2 25] (.ret)),[.t 2]⟩
theorem h_jbare : AX.compFn Tryz.prog 113 = some c_jbare:=by kernel_rfl
def c_jmakes : AX.AFn:=⟨9,aS [aR 2 (.mv (.c (.bool false)))] (aS [aM 3 0,aR 4 (.bin .eql (.t 3) (aI 1)),aM 5 4,aG 6 (.mv (.t 0)) 5 false,aG 7 (.bin .eql (.t 6) (aI 2)) 5 false,aR 8 (.pick (.t 5) (.c (.bool true)) (.t 7)),aM 2 8] (.ret)),[.t 2]⟩
theorem h_jmakes : AX.compFn Tryz.prog 111 = some c_jmakes:=by kernel_rfl
def c_jvalid : AX.AFn:=⟨107,aS [aR 1 (.box 75 (.t 0)),aR 2 (.mv (.c (.bool false)))] (.seq (aS [aF 4 0 1,aL 5 4,aR 6 (.bin .neq (.t 5) (aI 1)),aM 7 6,aG 8 (.faddr 1 (.t 1)) 7 true,aG 9 (.load true 5 (.t 8)) 7 true,aG 10 (.call 109 [.t 9]) 7 true,aG 11 (.un .not (.t 10)) 7 true,aR 12 (.pick (.t 7) (.t 11) (.c (.bool false))),aM 13 12,aG 14 (.faddr 0 (.t 1)) 13 false,aG 15 (.load false 1 (.t 14)) 13 false,aG 16 (.bin .neq (.t 15) (aI 2)) 13 false,aG 17 (.mv (.t 16)) 13 false,aG 18 (.faddr 11 (.t 1)) 17 true,aG 19 (.load false 1 (.t 18)) 17 true,aG 20 (.bin .neq (.t 19) (.c (.str []))) 17 true,aG 21 (.pick (.t 17) (.t 20) (.c (.bool false))) 13 false,aR 22 (.pick (.t 13) (.c (.bool true)) (.t 21)),aM 23 22,aG 24 (.faddr 0 (.t 1)) 23 false,aG 25 (.load false 1 (.t 24)) 23 false,aG 26 (.bin .neq (.t 25) (aI 4)) 23 false,aG 27 (.mv (.t 26)) 23 false,aG 28 (.faddr 12 (.t 1)) 27 true,aG 29 (.load false 1 (.t 28)) 27 true,aG 30 (.bin .neq (.t 29) (aI 0)) 27 true,aG 31 (.pick (.t 27) (.t 30) (.c (.bool false))) 23 false,aR 32 (.pick (.t 23) (.c (.bool true)) (.t 31))] (.cond (.t 32) (aS [aR 2 (.mv (.c (.bool false)))] (.ret)) (.skip))) (aS [aF 33 13 1,aR 34 (.load true 13 (.t 33)),aR 35 (.call 110 [.t 34]),aM 36 35,aG 37 (.faddr 7 (.t 1)) 36 false,aG 38 (.load false 1 (.t 37)) 36 false,aG 39 (.call 111 [.t 38]) 36 false,aG 40 (.mv (.t 39)) 36 false,aG 41 (.faddr 13 (.t 1)) 40 true,aG 42 (.load true 13 (.t 41)) 40 true,aG 43 (.call 112 [.t 42]) 40 true,aG 44 (.pick (.t 40) (.t 43) (.c (.bool false))) 36 false,aR 45 (.pick (.t 36) (.c (.bool true)) (.t 44)),aM 3 45] (.seq (aS [aF 46 0 1,aL 47 46] (.block 0 (.seq (aS [aR 49 (.bin .eql (.t 47) (aI 1)),aM 48 49] (.cond (.t 48) (.skip) (.reg false [aR 50 (.bin .eql (.t 47) (aI 5)),aM 48 50]))) (.cond (.t 48) (aS [aR 51 (.load true 26 (.t 1)),aR 52 (.call 113 [.t 51]),aM 53 52,aG 54 (.faddr 13 (.t 1)) 53 true,aG 55 (.load true 13 (.t 54)) 53 true,aG 56 (.call 110 [.t 55]) 53 true,aR 57 (.pick (.t 53) (.t 56) (.c (.bool false))),aM 2 57] (.ret)) (aS [aR 59 (.bin .eql (.t 47) (aI 2)),aM 58 59] (.cond (.t 58) (aS [aR 60 (.load true 26 (.t 1)),aR 61 (.call 114 [.t 60]),aM 62 61,aG 63 (.faddr 13 (.t 1)) 62 true,aG 64 (.load true 13 (.t 63)) 62 true,aG 65 (.call 110 [.t 64]) 62 true,aR 66 (.pick (.t 62) (.t 65) (.c (.bool false))),aM 67 66,aG 68 (.faddr 11 (.t 1)) 67 true,aG 69 (.load false 1 (.t 68)) 67 true,aG 70 (.mks 1 [.t 69]) 67 true,aG 71 (.call 115 [.t 70]) 67 true,aR 72 (.pick (.t 67) (.t 71) (.c (.bool false))),aM 73 72,aG 74 (.faddr 7 (.t 1)) 73 true,aG 75 (.load false 1 (.t 74)) 73 true,aG 76 (.bin .eql (.t 75) (aI 1)) 73 true,aG 77 (.mv (.t 76)) 73 true,aG 78 (.faddr 11 (.t 1)) 77 false,aG 79 (.load false 1 (.t 78)) 77 false,aG 80 (.bin .eql (.t 79) (.c (.str []))) 77 false,aG 81 (.pick (.t 77) (.c (.bool true)) (.t 80)) 73 true,aR 82 (.pick (.t 73) (.t 81) (.c (.bool false))),aM 2 82] (.ret)) (aS [aR 84 (.bin .eql (.t 47) (aI 3)),aM 83 84] (.cond (.t 83) (aS [aR 85 (.load true 26 (.t 1)),aR 86 (.call 114 [.t 85]),aM 87 86,aG 88 (.mv (.t 3)) 87 true,aR 89 (.pick (.t 87) (.t 88) (.c (.bool false))),aM 2 89] (.ret)) (aS [aR 91 (.bin .eql (.t 47) (aI 4)),aM 90 91] (.cond (.t 90) (aS [aR 92 (.load true 26 (.t 1)),aR 93 (.call 114 [.t 92]),aM 94 93,aG 95 (.mv (.t 3)) 94 true,aR 96 (.pick (.t 94) (.t 95) (.c (.bool false))),aM 97 96,aG 98 (.faddr 12 (.t 1)) 97 true,aG 99 (.load false 1 (.t 98)) 97 true,aG 100 (.bin .geq (.t 99) (aI 1)) 97 true,aR 101 (.pick (.t 97) (.t 100) (.c (.bool false))),aM 102 101,aG 103 (.faddr 12 (.t 1)) 102 true,aG 104 (.load false 1 (.t 103)) 102 true,aG 105 (.bin .leq (.t 104) (aI 42)) 102 true,aR 106 (.pick (.t 102) (.t 105) (.c (.bool false))),aM 2 106] (.ret)) (.skip))))))))))) (aS [aR 2 (.mv (.c (.bool false)))] (.ret))))),[.t 2]⟩
theorem h_jvalid : AX.compFn Tryz.prog 60 = some c_jvalid:=by kernel_rfl
def longIdx : Nat → List (List UInt8) → Int
 | _,[] => -1
 | i,s :: l => if decide ((s.length : Int) > 4096) = true then i else longIdx (i + 1) l
theorem longIdx_ge : ∀ (l : List (List UInt8)) (i : Nat),decide (longIdx i l ≥ 0) = !Jr.shortB l
 | [],i => rfl
 | s :: l,i => by
  unfold longIdx Jr.shortB
  rw [List.all_cons]
  by_cases h : (s.length : Int) > 4096
  ·rw [if_pos (by simpa using h),show decide ((s.length : Int) ≤ 4096) = false by simpa using h]
   simp
  ·rw [if_neg (by simpa using h),show decide ((s.length : Int) ≤ 4096) = true by simpa using h,Bool.true_and]
   exact longIdx_ge l (i + 1)
theorem a_jshort1 (s : List UInt8) (h : Hp) : ACall Tryz.prog GT 186 [.str s] h fun r h' => r = .bool (decide ((s.length : Int) > 4096)) ∧ h' = h:=by
 refine pcall ?_ rfl (by simp [A.pure,A.data]) h
 refine acall_of mixedT h_jshort1 (by simp [c_jshort1]) ?_
 dsimp only [c_jshort1]
 refine runx0 ti ti ?_
 exact ⟨_,le_refl _,rfl⟩
theorem a_indexs (ks : List (List UInt8)) (hn : ks.length ≤ 1000000000) (h : Hp) : ACall Tryz.prog GT 242 [.sl 1 .no (strsA ks),.fn 186 []] h fun r h' => r = .int .i64 (longIdx 0 ks) ∧ h' = h:=by
 refine pcall ?_ rfl (by simp [A.pure,A.data]) h
 refine acall_of mixedT h_indexs (by simp [c_indexs]) ?_
 dsimp only [c_indexs]
 obtain ⟨D,hD⟩ : ∃ D,longIdx 0 ks = D:=⟨_,rfl⟩
 rw [hD]
 have li : (strsA ks).length = ks.length:=strsA_length ks
 refine run0 li ?_
 refine awp_loop (fun mm ts h => ∃ (j : Nat),mm = ks.length - j ∧ j ≤ ks.length ∧ h = ⟨[],[]⟩ ∧ longIdx j (ks.drop j) = D ∧ (ts 0 = .sl 1 .no (strsA ks) ∧ ts 1 = .fn 186 [] ∧ ts 7 = .int .i64 (ks.length : Nat) ∧ ts 8 = .int .i64 (j : Nat))) ks.length ?_ ?_
 ·exact ⟨0,by omega,by omega,rfl,hD,by (exact inv0 li)⟩
 rintro mm ts h ⟨j,rfl,hjc,rfl,hit,ht⟩
 by_cases hj : j < ks.length
 ·have hf:=rowj_at (fun s : List UInt8 => [A.str s]) ks j hj (by omega)
  have hf' : (strsA ks).length = ks.length ∧ (j : Int) < (ks.length : Int) ∧ (0 : Int) ≤ (j : Int) ∧ (strsA ks).getD j [] = [.str ks[j]] ∧ IntKind.i64.wrap ((j : Int) + 1) = ((j + 1 : Nat) : Int):=hf
  clear hf
  rw [List.drop_eq_getElem_cons hj] at hit
  unfold longIdx at hit
  obtain ⟨x,hx⟩ : ∃ x,ks[j] = x:=⟨_,rfl⟩
  rw [hx] at hf' hit
  have cf:=a_jshort1 x
  obtain ⟨K,hK⟩ : ∃ K,decide ((x.length : Int) > 4096) = K:=⟨_,rfl⟩
  rw [hK] at cf hit
  refine run0 (ai ht hf') ?_
  refine use (cf _) ?_
  cases K
  ·rw [if_neg (by simp)] at hit
   refine run0 (ai ht hf') ?_
   exact ⟨ks.length - (j + 1),by omega,j + 1,rfl,by omega,rfl,hit,by (exact inv0 (ai ht hf'))⟩
  ·rw [if_pos rfl] at hit
   subst hit
   refine run0 (ai ht hf') ?_
   exact ⟨_,le_refl _,rfl⟩
 ·have hlt : ¬ ((j : Int) < (ks.length : Int)):=by omega
  rw [List.drop_eq_nil_of_le (by omega)] at hit
  unfold longIdx at hit
  subst hit
  refine run0 (ai ht (ai hlt li)) ?_
  exact ⟨_,le_refl _,rfl⟩
theorem a_jshort (ks : List (List UInt8)) (hn : ks.length ≤ 1000000000) (h : Hp) : ACall Tryz.prog GT 115 [.sl 1 .no (strsA ks)] h fun r h' => r = .bool (Jr.shortB ks) ∧ h' = h:=by
 have ci:=a_indexs ks hn
 have hge:=longIdx_ge ks 0
 obtain ⟨D,hD⟩ : ∃ D,longIdx 0 ks = D:=⟨_,rfl⟩
 rw [hD] at ci hge
 have cc : ∀ h,ACall Tryz.prog GT 185 [.sl 1 .no (strsA ks),.fn 186 []] h fun r h' => r = .bool (!Jr.shortB ks) ∧ h' = h:=fun h => by
  rw [← hge]
  refine pcall ?_ rfl (by simp [A.pure,A.data]) h
  refine acall_of mixedT h_containss (by simp [c_containss]) ?_
  dsimp only [c_containss]
  refine runx0 ti (ai ci ti) ?_
  exact ⟨_,le_refl _,rfl⟩
 obtain ⟨B,hB⟩ : ∃ B,Jr.shortB ks = B:=⟨_,rfl⟩
 rw [hB] at cc ⊢
 refine pcall ?_ rfl (by simp [A.pure,A.data]) h
 refine acall_of mixedT h_jshort (by simp [c_jshort]) ?_
 dsimp only [c_jshort]
 refine runx0 ti (ai cc ti) ?_
 exact ⟨_,le_refl _,by cases B <;> rfl⟩
theorem a_jnone (x : Sf.Inst) (h : Hp) : ACall Tryz.prog GT 110 [.agg (Sf.Inst.cells x)] h fun r h' => r = .bool (Jr.noneB x) ∧ h' = h:=by
 obtain ⟨a,d,i,t,⟨k,n,s,is,ks⟩,v,tn,fi,ds⟩:=x
 have l1:=V.cellss_length is
 have l2:=strsA_length ks
 have l3:=strsA_length ds
 unfold Sf.Inst.cells Jr.noneB Jr.zeroV
 dsimp only
 refine pcall ?_ rfl (by simp [A.pure,A.data]) h
 refine acall_of mixedT h_jnone (by simp [c_jnone]) ?_
 dsimp only [c_jnone]
 refine runx0 (ai l1 (ai l2 l3)) ti ?_
 exact ⟨_,le_refl _,rfl⟩
theorem a_jempty (s : Sf.St) (h : Hp) : ACall Tryz.prog GT 109 [s.A] h fun r h' => r = .bool (Jr.emptyB s) ∧ h' = h:=by
 obtain ⟨lin,ser,ins,ps,os⟩:=s
 have l1 : (ins.map Sf.Inst.cells).length = ins.length:=List.length_map _
 have l2 : (ps.map Sf.Pend.cells).length = ps.length:=List.length_map _
 have l3 : (os.map Sf.Outp.cells).length = os.length:=List.length_map _
 unfold Sf.St.A Jr.emptyB
 dsimp only
 refine pcall ?_ rfl (by simp [A.pure,A.data]) h
 refine acall_of mixedT h_jempty (by simp [c_jempty]) ?_
 dsimp only [c_jempty]
 refine runx0 (ai l1 (ai l2 l3)) ti ?_
 exact ⟨_,le_refl _,rfl⟩
theorem a_jmakes (n : Int) (h : Hp) : ACall Tryz.prog GT 111 [.int .i64 n] h fun r h' => r = .bool (Jr.makesB n) ∧ h' = h:=by
 refine pcall ?_ rfl (by simp [A.pure,A.data]) h
 refine acall_of mixedT h_jmakes (by simp [c_jmakes]) ?_
 dsimp only [c_jmakes]
 unfold Jr.makesB
 refine runx0 ti ti ?_
 exact ⟨_,le_refl _,rfl⟩
theorem a_jinst (x : Sf.Inst) (hl : x.attrs.lens) (hd : x.deps.length ≤ 1000000000) (h : Hp) : ACall Tryz.prog GT 112 [.agg (Sf.Inst.cells x)] h fun r h' => r = .bool (Jr.instB x) ∧ h' = h:=by
 obtain ⟨a,d,i,t,⟨k,n,s,is,ks⟩,v,tn,fi,ds⟩:=x
 have l3:=strsA_length ds
 have c1:=a_jshort [a,d,i,t] (by simp)
 have c2:=a_jshort ds hd
 have c3:=a_vCheck (.mk k n s is ks) hl
 simp only [V.A,V.cells] at c3
 unfold Sf.Inst.cells Jr.instB
 dsimp only
 obtain ⟨b1,h1⟩ : ∃ b,Jr.shortB [a,d,i,t] = b:=⟨_,rfl⟩
 obtain ⟨b2,h2⟩ : ∃ b,Jr.shortB ds = b:=⟨_,rfl⟩
 obtain ⟨Z,hZ⟩ : ∃ b,Val.checkZ (.mk k n s is ks) = b:=⟨_,rfl⟩
 rw [h1] at c1
 rw [h2] at c2
 rw [hZ] at c3
 rw [h1,h2,hZ]
 have c1' : ∀ h,ACall Tryz.prog GT 115 [.sl 1 .no [[.str a],[.str d],[.str i],[.str t]]] h fun r h' => r = .bool b1 ∧ h' = h:=c1
 refine pcall ?_ rfl (by simp [A.pure,A.data]) h
 refine acall_of mixedT h_jinstance (by simp [c_jinstance]) ?_
 dsimp only [c_jinstance]
 refine runx0 l3 (ai c1' (ai c2 (ai c3 ti))) ?_
 exact ⟨_,le_refl _,rfl⟩
theorem a_jbare (r : Jr) (h : Hp) : ACall Tryz.prog GT 113 [.agg r.cells] h fun v h' => v = .bool r.bareB ∧ h' = h:=by
 obtain ⟨kd,⟨lin,ser,ins,ps,os⟩,st,op,ad,dp,ty,tk,er,⟨a,d,i,t,⟨k,n,s,is,ks⟩,v,tn,fi,ds⟩⟩:=r
 unfold Jr.bareB
 simp only [Jr.cells,Sf.Inst.cells,List.cons_append,List.nil_append]
 refine pcall ?_ rfl (by simp [A.pure,A.data]) h
 refine acall_of mixedT h_jbare (by simp [c_jbare]) ?_
 dsimp only [c_jbare]
 refine runx0 ti ti ?_
 exact ⟨_,le_refl _,rfl⟩
theorem a_jstep (r : Jr) (h : Hp) : ACall Tryz.prog GT 114 [.agg r.cells] h fun v h' => v = .bool r.stepB ∧ h' = h:=by
 obtain ⟨kd,⟨lin,ser,ins,ps,os⟩,st,op,ad,dp,ty,tk,er,⟨a,d,i,t,⟨k,n,s,is,ks⟩,v,tn,fi,ds⟩⟩:=r
 unfold Jr.stepB
 simp only [Jr.cells,Sf.Inst.cells,List.cons_append,List.nil_append]
 have c1:=a_jshort [ad,dp,ty] (by simp)
 obtain ⟨b1,h1⟩ : ∃ b,Jr.shortB [ad,dp,ty] = b:=⟨_,rfl⟩
 rw [h1] at c1 ⊢
 have c1' : ∀ h,ACall Tryz.prog GT 115 [.sl 1 .no [[.str ad],[.str dp],[.str ty]]] h fun r h' => r = .bool b1 ∧ h' = h:=c1
 refine pcall ?_ rfl (by simp [A.pure,A.data]) h
 refine acall_of mixedT h_jstep (by simp [c_jstep]) ?_
 dsimp only [c_jstep]
 refine runx0 ti (ai c1' ti) ?_
 exact ⟨_,le_refl _,rfl⟩
theorem a_jvalid (r : Jr) (hl : r.after.attrs.lens) (hd : r.after.deps.length ≤ 1000000000) (h : Hp) : ACall Tryz.prog GT 60 [.agg r.cells] h fun v h' => v = .bool r.validB ∧ h' = h:=by
 have ce:=a_jempty r.base
 have cn:=a_jnone r.after
 have cm:=a_jmakes r.op
 have ci:=a_jinst r.after hl hd
 have cb:=a_jbare r
 have cs:=a_jstep r
 have ct:=a_jshort [r.tok] (by simp)
 have hbad : Jr.badB r = (r.kind != 1 && !Jr.emptyB r.base || r.kind != 2 && r.tok != [] || r.kind != 4 && r.err != 0):=rfl
 have haft : Jr.afterB r = (Jr.noneB r.after || Jr.makesB r.op && Jr.instB r.after):=rfl
 unfold Jr.validB
 obtain ⟨bad,hbd⟩ : ∃ b,Jr.badB r = b:=⟨_,rfl⟩
 obtain ⟨aft,haf⟩ : ∃ b,Jr.afterB r = b:=⟨_,rfl⟩
 obtain ⟨e,he⟩ : ∃ b,Jr.emptyB r.base = b:=⟨_,rfl⟩
 obtain ⟨n,hn⟩ : ∃ b,Jr.noneB r.after = b:=⟨_,rfl⟩
 obtain ⟨m,hm⟩ : ∃ b,Jr.makesB r.op = b:=⟨_,rfl⟩
 obtain ⟨i,hi⟩ : ∃ b,Jr.instB r.after = b:=⟨_,rfl⟩
 obtain ⟨b,hb⟩ : ∃ b,r.bareB = b:=⟨_,rfl⟩
 obtain ⟨s,hs⟩ : ∃ b,r.stepB = b:=⟨_,rfl⟩
 obtain ⟨t,ht⟩ : ∃ b,Jr.shortB [r.tok] = b:=⟨_,rfl⟩
 rw [hbd,he] at hbad
 rw [haf,hn,hm,hi] at haft
 rw [he] at ce; rw [hn] at cn; rw [hm] at cm; rw [hi] at ci; rw [hb] at cb; rw [hs] at cs; rw [ht] at ct
 rw [hbd,haf,hn,hb,hs,ht]
 clear hbd haf he hn hm hi hb hs ht hl hd
 obtain ⟨kd,⟨lin,ser,ins,ps,os⟩,st,op,ad,dp,ty,tk,er,⟨a1,a2,a3,a4,⟨k,nn,ss,is,ks⟩,v,tn,fi,ds⟩⟩:=r
 have ct' : ∀ h,ACall Tryz.prog GT 115 [.sl 1 .no [[.str tk]]] h fun r h' => r = .bool t ∧ h' = h:=ct
 simp only [Jr.cells,Sf.Inst.cells,List.cons_append,List.nil_append,Sf.St.A] at *
 refine pcall ?_ rfl (by simp [A.pure,A.data]) h
 refine acall_of mixedT h_jvalid (by simp [c_jvalid]) ?_
 dsimp only [c_jvalid]
 refine runx0 ti (ai ce ti) ?_
 (refine AX.alt0 ti ?_ ?_)
 ·intro hc
  rw [hc] at hbad
  subst hbad
  refine runx0 ti ti ?_
  exact ⟨_,le_refl _,rfl⟩
 intro hc
 rw [hc] at hbad
 subst hbad
 rw [if_neg (by decide)]
 refine runx0 ti (ai cn (ai cm (ai ci ti))) ?_
 by_cases q1 : kd = 1
 ·subst q1
  rw [if_pos (.inl rfl)]
  refine runx0 ti (ai cb (ai cn ti)) ?_
  exact ⟨_,le_refl _,rfl⟩
 have f1 : (kd == 1) = false:=by simp [q1]
 by_cases q5 : kd = 5
 ·subst q5
  rw [if_pos (.inr rfl)]
  refine runx0 ti (ai cb (ai cn ti)) ?_
  exact ⟨_,le_refl _,rfl⟩
 have f5 : (kd == 5) = false:=by simp [q5]
 rw [if_neg (by simp [q1,q5])]
 by_cases q2 : kd = 2
 ·subst q2
  rw [if_pos rfl]
  refine runx0 ti (ai cs (ai cn (ai ct' ti))) ?_
  exact ⟨_,le_refl _,rfl⟩
 have f2 : (kd == 2) = false:=by simp [q2]
 rw [if_neg q2]
 by_cases q3 : kd = 3
 ·subst q3
  rw [if_pos rfl,haft]
  refine runx0 ti (ai cs ti) ?_
  exact ⟨_,le_refl _,rfl⟩
 have f3 : (kd == 3) = false:=by simp [q3]
 rw [if_neg q3]
 by_cases q4 : kd = 4
 ·subst q4
  rw [if_pos rfl,haft]
  refine runx0 ti (ai cs ti) ?_
  exact ⟨_,le_refl _,rfl⟩
 have f4 : (kd == 4) = false:=by simp [q4]
 rw [if_neg q4]
 refine runx0 (ai f1 (ai f2 (ai f3 (ai f4 f5)))) ti ?_
 exact ⟨_,le_refl _,rfl⟩
def c_hasPrefix : AX.AFn:=⟨8,aS [aR 4 (.mv (.c (.bool false)))] (aS [aM 5 0,aM 6 1,aR 7 (.call 164 [.t 5,.t 6]),aM 4 7] (.ret)),[.t 4]⟩
theorem h_hasPrefix : AX.compFn Tryz.prog 95 = some c_hasPrefix:=by kernel_rfl
def c_liteHasPrefix : AX.AFn:=⟨18,aS [aR 4 (.mv (.c (.bool false)))] (aS [aM 5 0,aR 6 (.len true (.t 5)),aM 7 1,aR 8 (.len true (.t 7)),aR 9 (.bin .geq (.t 6) (.t 8)),aM 10 9,aG 11 (.mv (.t 0)) 10 true,aG 12 (.mv (.t 1)) 10 true,aG 13 (.len true (.t 12)) 10 true,aG 14 (.ssl (.t 11) none (some (.t 13))) 10 true,aG 15 (.mv (.t 1)) 10 true,aG 16 (.bin .eql (.t 14) (.t 15)) 10 true,aR 17 (.pick (.t 10) (.t 16) (.c (.bool false))),aM 4 17] (.ret)),[.t 4]⟩
theorem h_liteHasPrefix : AX.compFn Tryz.prog 164 = some c_liteHasPrefix:=by kernel_rfl
theorem a_liteHasPrefix (s p : List UInt8) (h : Hp) : ACall Tryz.prog GT 164 [.str s,.str p] h fun r h' => r = .bool (decide (p.length ≤ s.length) && s.take p.length == p) ∧ h' = h:=by
 refine pcall ?_ rfl (by simp [A.pure,A.data]) h
 refine acall_of mixedT h_liteHasPrefix (by simp [c_liteHasPrefix]) ?_
 dsimp only [c_liteHasPrefix]
 by_cases hl : p.length ≤ s.length
 ·have h1 : (s.length : Int) ≥ (p.length : Int):=by omega
  have h2 : (p.length : Int) ≤ (s.length : Int):=by omega
  refine go0 (ai h1 h2) ?_
  exact ⟨_,le_refl _,by rw [tupA_1,decide_eq_true hl]; rfl⟩
 ·have h1 : ¬ (s.length : Int) ≥ (p.length : Int):=by omega
  refine go0 h1 ?_
  exact ⟨_,le_refl _,by rw [tupA_1,decide_eq_false hl]; rfl⟩
theorem a_hasPrefix (s p : List UInt8) (h : Hp) : ACall Tryz.prog GT 95 [.str s,.str p] h fun r h' => r = .bool (decide (p.length ≤ s.length) && s.take p.length == p) ∧ h' = h:=by
 refine pcall ?_ rfl (by simp [A.pure,A.data]) h
 refine acall_of mixedT h_hasPrefix (by simp [c_hasPrefix]) ?_
 dsimp only [c_hasPrefix]
 refine go0 ti ?_
 refine gc0 ti ?_
 refine (a_liteHasPrefix s p _).mono ?_
 rintro v h1 ⟨rfl,rfl⟩
 refine go0 ti ?_
 exact ⟨_,le_refl _,rfl⟩
def magic : List UInt8:=[80,86,83,84]
def preB (s : List UInt8) : Bool:=decide (magic.length ≤ s.length) && s.take magic.length == magic
def versionS (s : List UInt8) : Int × Int:=
 if preB s = false then (0,2) else
 let r:=Wire.numR ⟨s.drop 4,0⟩
 if r.1.e ≠ 0 then (0,2) else if r.2 ≠ 1 ∧ r.2 ≠ 2 then (0,21) else (r.2,0)
theorem go_once {P : Program} {G : World → Prop} {c : ACode} {Q : AExit → Ts → Hp → Prop} {ts : Ts} {h : Hp} (k : awp P G c (thenA (fun _ _ => False) Q) ts h) : awp P G (.loop c) Q ts h:=⟨1,k⟩
theorem WP.bx {i : Nat} {ver : Int} {l : List UInt8} {h h' : Hp} (hp : WP i ver l h h') (h0 : l ≠ []) : h'.b[i]? = some (wtr ver l):=by
 rcases hp.1 with h1 | ⟨h1,_⟩
 ·exact h1
 ·exact absurd h1 h0
end AX
end Go.Proofs.YteklhoajalgehaaGreatDoor

namespace Go.Proofs.YteklhoajalgehaaGreatDoor
open Go.Lib
namespace Num
def valA (n : Nat) (s : List UInt8) : Nat:=s.foldl (fun n c => 10 * n + (c.toNat - 48)) n
theorem valA_cons (n : Nat) (c : UInt8) (s : List UInt8) : valA n (c :: s) = valA (10 * n + (c.toNat - 48)) s:=by unfold valA; rw [List.foldl_cons]
theorem val_valA (s : List UInt8) : val s = valA 0 s:=rfl
theorem valA_ge : ∀ (s : List UInt8) (n : Nat),n * 10 ^ s.length ≤ valA n s
 | [],n => by simp [valA]
 | c :: s,n => by
  rw [valA_cons,List.length_cons,Nat.pow_succ]
  refine Nat.le_trans ?_ (valA_ge s _)
  have e : n * (10 ^ s.length * 10) = (10 * n) * 10 ^ s.length:=by
   rw [Nat.mul_comm (10 ^ s.length) 10,← Nat.mul_assoc,Nat.mul_comm n 10]
  rw [e]
  exact Nat.mul_le_mul_right _ (by omega)
theorem valA_le (s : List UInt8) (n : Nat) : n ≤ valA n s:=by
 have h:=valA_ge s n
 have h1 : 1 ≤ 10 ^ s.length:=Nat.one_le_pow _ _ (by omega)
 exact Nat.le_trans (by simpa using Nat.mul_le_mul_left n h1) h
theorem digB_iff (c : UInt8) : digB c = true ↔ 48 ≤ c.toNat ∧ c.toNat ≤ 57:=by simp [digB]
theorem uintM_digits : ∀ (l : List UInt8) (acc : Nat),l.all digB = true → parseUintM 18446744073709551615 acc l = if valA acc l ≤ 18446744073709551615 then .ok (valA acc l) else if l = [] then .ok acc else .range
 | [],acc,_ => by simp [parseUintM,valA]
 | c :: r,acc,h => by
  rw [List.all_cons,Bool.and_eq_true,digB_iff] at h
  have h1:=valA_le r (10 * acc + (c.toNat - 48))
  rw [valA_cons]
  unfold parseUintM
  rw [if_pos h.1]
  split
  ·rw [if_neg (by omega),if_neg (by simp)]
  ·split
   ·rw [if_neg (by omega),if_neg (by simp)]
   ·rw [uintM_digits r _ h.2,Nat.mul_comm acc 10]
    by_cases hv : valA (10 * acc + (c.toNat - 48)) r ≤ 18446744073709551615
    ·rw [if_pos hv,if_pos hv]
    ·rw [if_neg hv,if_neg hv,if_neg (show ¬ (c :: r = []) by simp)]
     cases r with
     | nil =>
      exfalso
      apply hv
      unfold valA
      rw [List.foldl_nil]
      omega
     | cons d q => rw [if_neg (by simp)]
def body (s : List UInt8) : List UInt8:=if s.getD 0 0 == 45 then s.drop 1 else s
def canonB (s : List UInt8) : Bool:=digits (body s) && !(s.getD 0 0 == 45 && body s == [48])
theorem digits_long {t : List UInt8} (h : digits t = true) (hl : 16 < t.length) : 9007199254740992 < val t:=by
 cases t with
 | nil => simp at hl
 | cons c r =>
  unfold digits at h
  rw [Bool.and_eq_true,Bool.or_eq_true,beq_iff_eq,Bool.and_eq_true,List.all_cons,Bool.and_eq_true,digB_iff] at h
  obtain ⟨⟨h1,h2⟩,h3⟩:=h
  rcases h3 with h3 | h3
  ·injection h3 with _ h3; subst h3; simp at hl
  ·have h4 : c ≠ 48:=by simpa using h3.2
   have h5 : c.toNat ≠ 48:=fun e => h4 (UInt8.toNat_inj.1 (by simpa using e))
   have h6:=valA_ge r (c.toNat - 48)
   have h7 : 10 ^ 16 ≤ 10 ^ r.length:=Nat.pow_le_pow_right (by omega) (by simp at hl; omega)
   have h8 : 1 * 10 ^ r.length ≤ (c.toNat - 48) * 10 ^ r.length:=Nat.mul_le_mul_right _ (by omega)
   have e : val (c :: r) = valA (c.toNat - 48) r:=by rw [val_valA,valA_cons]; simp
   rw [e]
   have h9 : (10 : Nat) ^ 16 = 10000000000000000:=by decide
   omega
theorem parse_form (s : List UInt8) : parse s = if canonB s = false then (0,2) else if 9007199254740992 < val (body s) then (0,5) else (if s.getD 0 0 == 45 then -(val (body s) : Int) else (val (body s) : Int),0):=by
 have e : parse s = if (!digits (body s) || (s.getD 0 0 == 45 && body s == [48])) = true then (0,2) else if 16 < (body s).length then (0,5) else if 9007199254740992 < val (body s) then (0,5) else (if s.getD 0 0 == 45 then -(val (body s) : Int) else (val (body s) : Int),0):=rfl
 rw [e]
 unfold canonB
 cases hd : digits (body s)
 ·simp
 ·cases hm : (s.getD 0 0 == 45 && body s == [48])
  ·simp only [Bool.not_true,Bool.or_false,Bool.false_eq_true,if_false,Bool.not_false,Bool.and_self,Bool.true_eq_false]
   split
   ·next hl => rw [if_pos (digits_long hd hl)]
   ·rfl
  ·simp
theorem parseIntB_canon (s : List UInt8) (h : canonB s = true) :
  (val (body s) ≤ 9007199254740992 ∧ parseIntB 64 s = .ok (if s.getD 0 0 == 45 then -(val (body s) : Int) else (val (body s) : Int))) ∨
  (9007199254740992 < val (body s) ∧ (parseIntB 64 s = .range ∨ ∃ v,parseIntB 64 s = .ok v ∧ ¬ (-9007199254740992 ≤ v ∧ v ≤ 9007199254740992))):=by
 unfold canonB at h
 rw [Bool.and_eq_true] at h
 obtain ⟨hd,_⟩:=h
 cases s with
 | nil => simp [body,digits] at hd
 | cons c r =>
  have hne : body (c :: r) ≠ []:=by
   intro e
   rw [e] at hd
   simp [digits] at hd
  have hall : (body (c :: r)).all digB = true:=by
   unfold digits at hd
   rw [Bool.and_eq_true] at hd
   exact hd.1
  have hneg : ((c :: r).getD 0 0 == 45) = decide (c.toNat = 45):=by
   show (c == 45) = _
   rw [Bool.eq_iff_iff,beq_iff_eq,decide_eq_true_eq]
   exact ⟨fun e => by rw [e]; rfl,fun e => UInt8.toNat_inj.1 (by simpa using e)⟩
  have h43 : c.toNat ≠ 43:=by
   intro e
   have e2 : ((c :: r).getD 0 0 == 45) = false:=by rw [hneg]; simp [e]
   unfold body at hall
   rw [e2] at hall
   simp only [Bool.false_eq_true,if_false,List.all_cons,Bool.and_eq_true,digB_iff] at hall
   omega
  have hb : (if c.toNat = 43 ∨ c.toNat = 45 then r else c :: r) = body (c :: r):=by
   unfold body
   rw [hneg]
   by_cases e : c.toNat = 45
   ·simp [e]
   ·simp [e,h43]
  have hu : parseUintB 64 (body (c :: r)) = if val (body (c :: r)) ≤ 18446744073709551615 then .ok (val (body (c :: r))) else .range:=by
   unfold parseUintB
   rw [if_neg hne]
   have:=uintM_digits _ 0 hall
   rw [if_neg hne,← val_valA] at this
   exact this
  have hp : parseIntB 64 (c :: r) = match parseUintB 64 (body (c :: r)) with
    | .syntax => .syntax
    | .range => .range
    | .ok u => if ¬ c.toNat = 45 ∧ 2 ^ (64 - 1) ≤ u then .range else if c.toNat = 45 ∧ 2 ^ (64 - 1) < u then .range else .ok (if c.toNat = 45 then -(u : Int) else u):=by
   rw [← hb]; rfl
  rw [hp,hu,hneg]
  have e63 : 2 ^ (64 - 1) = 9223372036854775808:=by decide
  rw [e63]
  generalize val (body (c :: r)) = u
  by_cases hm : u ≤ 9007199254740992
  ·refine .inl ⟨hm,?_⟩
   rw [if_pos (by omega)]
   dsimp only
   rw [if_neg (by omega),if_neg (by omega)]
   simp
  ·refine .inr ⟨by omega,?_⟩
   by_cases h64 : u ≤ 18446744073709551615
   ·rw [if_pos h64]
    dsimp only
    split
    ·exact .inl rfl
    ·split
     ·exact .inl rfl
     ·refine .inr ⟨_,rfl,?_⟩
      split <;> omega
   ·rw [if_neg h64]
    exact .inl rfl
end Num
end Go.Proofs.YteklhoajalgehaaGreatDoor

namespace Go.Proofs.YteklhoajalgehaaGreatDoor
open Go.RowKit
open Go.Op (bytesLess)
namespace Num
theorem digB_int (c : UInt8) : digB c = (decide (48 ≤ (c.toNat : Int)) && decide ((c.toNat : Int) ≤ 57)):=by
 unfold digB
 have e1 : decide (48 ≤ c.toNat) = decide (48 ≤ (c.toNat : Int)):=decide_eq_decide.2 (by omega)
 have e2 : decide (c.toNat ≤ 57) = decide ((c.toNat : Int) ≤ 57):=decide_eq_decide.2 (by omega)
 rw [e1,e2]
theorem all_fail {s : List UInt8} {j : Nat} (hj : j < s.length) (h : digB (s.getD j 0) = false) : digits s = false:=by
 have : s.all digB = false:=by
  rw [List.all_eq_false]
  refine ⟨s[j],List.getElem_mem hj,?_⟩
  have e : s.getD j 0 = s[j]:=by simp [List.getD,hj]
  rw [e] at h; rw [h]; decide
 unfold digits
 rw [this]; rfl
theorem all_end {s : List UInt8} (h : ∀ k,k < s.length → digB (s.getD k 0) = true) : digits s = (s != [] && (s.getD 0 0 != 48 || s.length == 1)):=by
 have h1 : s.all digB = true:=by
  rw [List.all_eq_true]
  intro x hx
  obtain ⟨j,hj,rfl⟩:=List.getElem_of_mem hx
  have:=h j hj
  have e : s.getD j 0 = s[j]:=by simp [List.getD,hj]
  rwa [e] at this
 unfold digits
 rw [h1,Bool.true_and]
 match s with
 | [] => rfl
 | [c] =>
  by_cases e : c = 48
  ·subst e; rfl
  ·have e1 : (c == 48) = false:=by simp [e]
   have e2 : ([c] == [48]) = false:=by simp [e]
   have e3 : (c != 48) = true:=by simp [e]
   show ([c] == [48] || ([c] != [] && c != 48)) = ([c] != [] && (c != 48 || ([c].length == 1)))
   rw [e2,e3]; rfl
 | c :: d :: r => simp
end Num
namespace AX
def c_canon : AX.AFn:=⟨44,aS [aR 2 (.mv (.c (.bool false)))] (.seq (aS [aM 4 0,aR 5 (.len true (.t 4)),aR 6 (.bin .gtr (.t 5) (aI 0)),aM 7 6,aG 8 (.mv (.t 0)) 7 true,aG 9 (.sidx (.t 8) (aI 0)) 7 true,aG 10 (.bin .eql (.t 9) (.c (.int .u8 45))) 7 true,aR 11 (.pick (.t 7) (.t 10) (.c (.bool false)))] (.cond (.t 11) (aS [aM 12 0,aR 13 (.ssl (.t 12) (some (aI 1)) none),aM 0 13] (aS [aM 14 0,aR 15 (.bin .eql (.t 14) (.c (.str [48])))] (.cond (.t 15) (aS [aR 2 (.mv (.c (.bool false)))] (.ret)) (.skip)))) (.skip))) (.seq (aS [aM 16 0,aR 17 (.len true (.t 16)),aR 18 (.mv (aI 0))] (.block 0 (.loop (aS [aR 19 (.bin .lss (.t 18) (.t 17))] (.seq (.cond (.t 19) (.skip) (.exit 0)) (.seq (.block 1 (aS [aM 20 18,aM 3 20] (aS [aM 21 0,aM 22 3,aR 23 (.sidx (.t 21) (.t 22)),aR 24 (.bin .lss (.t 23) (.c (.int .u8 48))),aM 25 24,aG 26 (.mv (.t 0)) 25 false,aG 27 (.mv (.t 3)) 25 false,aG 28 (.sidx (.t 26) (.t 27)) 25 false,aG 29 (.bin .gtr (.t 28) (.c (.int .u8 57))) 25 false,aR 30 (.pick (.t 25) (.c (.bool true)) (.t 29))] (.cond (.t 30) (aS [aR 2 (.mv (.c (.bool false)))] (.ret)) (.skip))))) (.reg false [aR 31 (.bin .add (.t 18) (aI 1)),aM 18 31]))))))) (aS [aM 32 0,aR 33 (.bin .neq (.t 32) (.c (.str []))),aM 34 33,aG 35 (.mv (.t 0)) 34 true,aG 36 (.sidx (.t 35) (aI 0)) 34 true,aG 37 (.bin .neq (.t 36) (.c (.int .u8 48))) 34 true,aG 38 (.mv (.t 37)) 34 true,aG 39 (.mv (.t 0)) 38 false,aG 40 (.len true (.t 39)) 38 false,aG 41 (.bin .eql (.t 40) (aI 1)) 38 false,aG 42 (.pick (.t 38) (.c (.bool true)) (.t 41)) 34 true,aR 43 (.pick (.t 34) (.t 42) (.c (.bool false))),aM 2 43] (.ret)))),[.t 2]⟩
theorem h_canon : AX.compFn Tryz.prog 274 = some c_canon:=by kernel_rfl
theorem u8_beq (c : UInt8) (n : UInt8) : ((c.toNat : Int) == (n.toNat : Int)) = (c == n):=by
 rw [Bool.eq_iff_iff,beq_iff_eq,beq_iff_eq]
 exact ⟨fun e => UInt8.toNat_inj.1 (by omega),fun e => by rw [e]⟩
theorem calls_bool {P : Program} {G : World → Prop} {f : FuncId} {args : List A} {vs : List Value} {w : World} {b : Bool} (hc : ACall P G f args ⟨[],[]⟩ fun v _ => v = .bool b) (hG : ∀ w' : World,(∀ g,g < w.heap.size → w'.heap[g]? = w.heap[g]?) → G w')
  (ha : RepL (Ctx.of w) args vs) : Calls P f vs.toArray w fun e w' => e = .returned (.bool b) ∧ Below w.heap.size w w':=by
 refine (hc (Ctx.of w) vs (inv_of hG) ha).mono ?_
 rintro e w' ⟨C',h',v,cv,rfl,rfl,_,st,hr,rfl⟩
 rw [rep_bool] at hr; subst hr
 exact ⟨rfl,st.os,st.tape,st.output,st.size,fun g hg => st.frame g hg rfl fun t ht => by simp [Ctx.of] at ht⟩
theorem a_canon (s : List UInt8) (hl : s.length ≤ 2000000) (h : Hp) : ACall Tryz.prog GT 274 [.str s] h fun r h' => r = .bool (Num.canonB s) ∧ h' = h:=by
 refine pcall ?_ rfl (by simp [A.pure,A.data]) h
 refine acall_of mixedT h_canon (by simp [c_canon]) ?_
 dsimp only [c_canon]
 obtain ⟨R,hR⟩ : ∃ R,Num.canonB s = R:=⟨_,rfl⟩
 rw [hR]
 unfold Num.canonB Num.body at hR
 by_cases hn : s = []
 ·subst hn
  have e0 : ¬ ((0 : Nat) : Int) > 0:=by decide
  have e1 : ¬ (0 : Int) < ((0 : Nat) : Int):=by decide
  have hR' : R = false:=by rw [← hR]; rfl
  subst hR'
  refine run0 e0 ?_
  refine go_once ?_
  refine run0 e1 ?_
  exact ⟨_,le_refl _,rfl⟩
 have hpos : (s.length : Int) > 0:=by
  have:=List.length_pos_iff.2 hn; omega
 have h0 : (0 : Int) < (s.length : Int):=hpos
 obtain ⟨c,hc⟩ : ∃ c,s.getD 0 0 = c:=⟨_,rfl⟩
 rw [hc] at hR
 have e45 : ((c.toNat : Int) == 45) = (c == 45):=u8_beq c 45
 have hbody : ∃ t : List UInt8,t = (if c == 45 then s.drop 1 else s):=⟨_,rfl⟩
 obtain ⟨t,ht⟩:=hbody
 rw [← ht] at hR
 have htl : t.length ≤ 2000000:=by
  rw [ht]; split
  ·rw [List.length_drop]; omega
  ·exact hl
 have hgr : ∀ j : Nat,t.getD j 0 = t.getD j 0:=fun _ => rfl
 have h1le : (1 : Int) ≤ (s.length : Int):=by omega
 have z1 : (0 : Int) ≤ 1:=by decide
 have n1 : (1 : Int).toNat = 1:=rfl
 have n0 : (0 : Int).toNat = 0:=rfl
 have key : ∀ {G : Prop},((c == 45) = true → t = s.drop 1 → G) → ((c == 45) = false → t = s → G) → G:=fun p q => by
  cases e : c == 45
  ·exact q e (by rw [ht,e]; rfl)
  ·exact p e (by rw [ht,e]; rfl)
 refine key (fun m1 m2 => ?_) (fun m1 m2 => ?_)
 ·rw [m1,Bool.true_and] at hR
  have m3 : s.drop 1 = t:=m2.symm
  have e10 : ((c.toNat : Int) == 45) = true:=by rw [e45,m1]
  cases h48 : t == [48]
  rotate_left
  ·rw [h48] at hR
   have hR' : R = false:=by rw [← hR,Bool.not_true,Bool.and_false]
   subst hR'
   refine run0 (ai hpos (ai h0 (ai n0 (ai hc (ai e10 (ai h1le (ai z1 (ai n1 (ai m3 h48))))))))) ?_
   exact ⟨_,le_refl _,rfl⟩
  rw [h48,Bool.not_false,Bool.and_true] at hR
  refine run0 (ai hpos (ai h0 (ai n0 (ai hc (ai e10 (ai h1le (ai z1 (ai n1 (ai m3 h48))))))))) ?_
  refine awp_loop (fun mm ts h => ∃ (j : Nat),mm = t.length - j ∧ j ≤ t.length ∧ h = ⟨[],[]⟩ ∧ (∀ k,k < j → Num.digB (t.getD k 0) = true) ∧ ts 0 = .str t ∧ ts 17 = .int .i64 (t.length : Nat) ∧ ts 18 = .int .i64 (j : Nat)) t.length ?_ ?_
  ·exact ⟨0,by omega,by omega,rfl,fun k hk => absurd hk (Nat.not_lt_zero k),by (exact ev0 m3),by (exact ev0 m3),by (exact inv0 ti)⟩
  rintro mm ts h ⟨j,rfl,hjc,rfl,hok,t0,t17,t18⟩
  by_cases hj : j < t.length
  ·have hlt : (j : Int) < (t.length : Int):=by omega
   have hj0 : (0 : Int) ≤ (j : Int):=by omega
   have ei : IntKind.i64.wrap ((j : Int) + 1) = ((j + 1 : Nat) : Int):=by rw [wrap64 (by omega) (by omega)]; omega
   obtain ⟨b,hb⟩ : ∃ b,t.getD j 0 = b:=⟨_,rfl⟩
   have hdg:=Num.digB_int b
   obtain ⟨x,hx⟩ : ∃ x : Int,(b.toNat : Int) = x:=⟨_,rfl⟩
   rw [hx] at hdg
   by_cases x1 : x < 48
   ·have hR' : R = false:=by rw [← hR]; exact Num.all_fail hj (by rw [hb,hdg,decide_eq_false (by omega)]; rfl)
    subst hR'
    refine run0 (ai t0 (ai t17 (ai t18 (ai hlt (ai hj0 (ai hb (ai hx x1))))))) ?_
    exact ⟨_,le_refl _,rfl⟩
   by_cases x2 : x > 57
   ·have hR' : R = false:=by rw [← hR]; exact Num.all_fail hj (by rw [hb,hdg,decide_eq_true (show 48 ≤ x by omega),decide_eq_false (by omega)]; rfl)
    subst hR'
    refine run0 (ai t0 (ai t17 (ai t18 (ai hlt (ai hj0 (ai hb (ai hx (ai x1 x2)))))))) ?_
    exact ⟨_,le_refl _,rfl⟩
   ·refine run0 (ai t0 (ai t17 (ai t18 (ai hlt (ai hj0 (ai hb (ai hx (ai x1 (ai x2 ei))))))))) ?_
    refine ⟨t.length - (j + 1),by omega,j + 1,rfl,by omega,rfl,fun k hk => ?_,by (exact ev0 t0),by (exact ev0 t17),by (exact ev0 ei)⟩
    by_cases e : k = j
    ·rw [e,hb,hdg,decide_eq_true (show 48 ≤ x by omega),decide_eq_true (show x ≤ 57 by omega)]; rfl
    ·exact hok k (by omega)
  ·have hlt : ¬ ((j : Int) < (t.length : Int)):=by omega
   have hje : j = t.length:=by omega
   rw [hje] at hok
   have hE:=Num.all_end hok
   rw [hR] at hE
   cases hnt : t != []
   ·rw [hnt,Bool.false_and] at hE
    subst hE
    refine run0 (ai t0 (ai t17 (ai t18 (ai hlt hnt)))) ?_
    exact ⟨_,le_refl _,rfl⟩
   rw [hnt,Bool.true_and] at hE
   have hp2 : (0 : Int) < (t.length : Int):=by
    have : t ≠ []:=by simpa using hnt
    have:=List.length_pos_iff.2 this; omega
   obtain ⟨b,hb⟩ : ∃ b,t.getD 0 0 = b:=⟨_,rfl⟩
   rw [hb] at hE
   have e48 : ((b.toNat : Int) != 48) = (b != 48):=congrArg (!·) (u8_beq b 48)
   cases hb48 : b != 48
   ·rw [hb48,Bool.false_or] at hE
    rw [hb48] at e48
    have el : ((t.length : Int) == 1) = (t.length == 1):=by
     rw [Bool.eq_iff_iff,beq_iff_eq,beq_iff_eq]; omega
    rw [← hE] at el
    refine run0 (ai t0 (ai t17 (ai t18 (ai hlt (ai hnt (ai hp2 (ai n0 (ai hb (ai e48 el))))))))) ?_
    exact ⟨_,le_refl _,rfl⟩
   ·rw [hb48,Bool.true_or] at hE
    subst hE
    rw [hb48] at e48
    refine run0 (ai t0 (ai t17 (ai t18 (ai hlt (ai hnt (ai hp2 (ai n0 (ai hb e48)))))))) ?_
    exact ⟨_,le_refl _,rfl⟩
 ·have e10 : ((c.toNat : Int) == 45) = false:=by rw [e45,m1]
  rw [m1,Bool.false_and,Bool.not_false,Bool.and_true] at hR
  have m3 : s = t:=m2.symm
  refine run0 (ai hpos (ai h0 (ai n0 (ai hc e10)))) ?_
  refine awp_loop (fun mm ts h => ∃ (j : Nat),mm = t.length - j ∧ j ≤ t.length ∧ h = ⟨[],[]⟩ ∧ (∀ k,k < j → Num.digB (t.getD k 0) = true) ∧ ts 0 = .str t ∧ ts 17 = .int .i64 (t.length : Nat) ∧ ts 18 = .int .i64 (j : Nat)) t.length ?_ ?_
  ·exact ⟨0,by omega,by omega,rfl,fun k hk => absurd hk (Nat.not_lt_zero k),by (exact ev0 m3),by (exact ev0 m3),by (exact inv0 ti)⟩
  rintro mm ts h ⟨j,rfl,hjc,rfl,hok,t0,t17,t18⟩
  by_cases hj : j < t.length
  ·have hlt : (j : Int) < (t.length : Int):=by omega
   have hj0 : (0 : Int) ≤ (j : Int):=by omega
   have ei : IntKind.i64.wrap ((j : Int) + 1) = ((j + 1 : Nat) : Int):=by rw [wrap64 (by omega) (by omega)]; omega
   obtain ⟨b,hb⟩ : ∃ b,t.getD j 0 = b:=⟨_,rfl⟩
   have hdg:=Num.digB_int b
   obtain ⟨x,hx⟩ : ∃ x : Int,(b.toNat : Int) = x:=⟨_,rfl⟩
   rw [hx] at hdg
   by_cases x1 : x < 48
   ·have hR' : R = false:=by rw [← hR]; exact Num.all_fail hj (by rw [hb,hdg,decide_eq_false (by omega)]; rfl)
    subst hR'
    refine run0 (ai t0 (ai t17 (ai t18 (ai hlt (ai hj0 (ai hb (ai hx x1))))))) ?_
    exact ⟨_,le_refl _,rfl⟩
   by_cases x2 : x > 57
   ·have hR' : R = false:=by rw [← hR]; exact Num.all_fail hj (by rw [hb,hdg,decide_eq_true (show 48 ≤ x by omega),decide_eq_false (by omega)]; rfl)
    subst hR'
    refine run0 (ai t0 (ai t17 (ai t18 (ai hlt (ai hj0 (ai hb (ai hx (ai x1 x2)))))))) ?_
    exact ⟨_,le_refl _,rfl⟩
   ·refine run0 (ai t0 (ai t17 (ai t18 (ai hlt (ai hj0 (ai hb (ai hx (ai x1 (ai x2 ei))))))))) ?_
    refine ⟨t.length - (j + 1),by omega,j + 1,rfl,by omega,rfl,fun k hk => ?_,by (exact ev0 t0),by (exact ev0 t17),by (exact ev0 ei)⟩
    by_cases e : k = j
    ·rw [e,hb,hdg,decide_eq_true (show 48 ≤ x by omega),decide_eq_true (show x ≤ 57 by omega)]; rfl
    ·exact hok k (by omega)
  ·have hlt : ¬ ((j : Int) < (t.length : Int)):=by omega
   have hje : j = t.length:=by omega
   rw [hje] at hok
   have hE:=Num.all_end hok
   rw [hR] at hE
   cases hnt : t != []
   ·rw [hnt,Bool.false_and] at hE
    subst hE
    refine run0 (ai t0 (ai t17 (ai t18 (ai hlt hnt)))) ?_
    exact ⟨_,le_refl _,rfl⟩
   rw [hnt,Bool.true_and] at hE
   have hp2 : (0 : Int) < (t.length : Int):=by
    have : t ≠ []:=by simpa using hnt
    have:=List.length_pos_iff.2 this; omega
   obtain ⟨b,hb⟩ : ∃ b,t.getD 0 0 = b:=⟨_,rfl⟩
   rw [hb] at hE
   have e48 : ((b.toNat : Int) != 48) = (b != 48):=congrArg (!·) (u8_beq b 48)
   cases hb48 : b != 48
   ·rw [hb48,Bool.false_or] at hE
    rw [hb48] at e48
    have el : ((t.length : Int) == 1) = (t.length == 1):=by
     rw [Bool.eq_iff_iff,beq_iff_eq,beq_iff_eq]; omega
    rw [← hE] at el
    refine run0 (ai t0 (ai t17 (ai t18 (ai hlt (ai hnt (ai hp2 (ai n0 (ai hb (ai e48 el))))))))) ?_
    exact ⟨_,le_refl _,rfl⟩
   ·rw [hb48,Bool.true_or] at hE
    subst hE
    rw [hb48] at e48
    refine run0 (ai t0 (ai t17 (ai t18 (ai hlt (ai hnt (ai hp2 (ai n0 (ai hb e48)))))))) ?_
    exact ⟨_,le_refl _,rfl⟩
end AX
theorem numParse_any (l : List UInt8) (hl : l.length ≤ 2000000) (w : World) (g : GT w) :
  Calls Tryz.prog 229 #[.string ⟨l.toArray⟩] w fun e w' => e = .returned (.tuple #[.int .i64 (Num.parse l).1,.int .i64 (Num.parse l).2]) ∧ Below w.heap.size w w':=by
 have hc:=AX.calls_bool (w:=w) (vs:=[.string ⟨l.toArray⟩]) ((AX.a_canon l hl ⟨[],[]⟩).mono fun v h' hv => hv.1) (AX.gt_keep g) (AX.repL_cons.2 ⟨_,_,rfl,AX.rep_str.2 rfl,AX.repL_nil.2 rfl⟩)
 have hf:=Num.parse_form l
 obtain ⟨P1,hP1⟩ : ∃ p,Num.parse l = p:=⟨_,rfl⟩
 rw [hP1] at hf ⊢
 cases hB : Num.canonB l
 ·rw [hB,if_pos rfl] at hf
  subst hf
  rw [hB] at hc
  go_enter Tryz.func229,Tryz.ntmps229
  go_wp2_with fail
  refine hc.mono ?_; rintro e w1 ⟨rfl,b1⟩
  have B1:=kept b1; clear b1
  go_wp2
  refine bodyPost_ret (v:=.tuple #[.int .i64 0,.int .i64 2]) (by simp [results,Tryz.results229,go_sem]) rfl ⟨rfl,B1.out⟩
 ·rw [hB,if_neg (by decide)] at hf
  rw [hB] at hc
  have hsz : (⟨l.toArray⟩ : ByteArray).size ≤ 9223372036854775806:=by rw [size_mk]; omega
  have hlim : (⟨l.toArray⟩ : ByteArray).size ≤ 281474976710656:=by rw [size_mk]; omega
  have hsyn:=g.esyn
  obtain ⟨ev,hev,hev2⟩:=g.erng
  have nilne : ∀ (a b : Value),True:=fun _ _ => AX.ti
  rcases Num.parseIntB_canon l hB with ⟨h1,h2⟩ | ⟨h1,h2 | ⟨v,h2,h3⟩⟩
  ·rw [if_neg (by omega)] at hf
   obtain ⟨v,hv⟩ : ∃ v : Int,(if l.getD 0 0 == 45 then -(Num.val (Num.body l) : Int) else (Num.val (Num.body l) : Int)) = v:=⟨_,rfl⟩
   rw [hv] at h2 hf
   have hvr : -9007199254740992 ≤ v ∧ v ≤ 9007199254740992:=by rw [← hv]; split <;> omega
   have hp : ∀ w' : World,Calls Tryz.prog 275 #[.string ⟨l.toArray⟩,.int .i64 10,.int .i64 64] w' fun e w2 => e = .returned (.tuple #[.int .i64 v,.nilIface]) ∧ (w2 = w' ∨ ∃ t,w2 = Lib.bytesWorld w' 5 t):=fun w' => Any.strconv_ParseInt_10_at64_ok (P:=Tryz.prog) Tryz.lays174 ⟨l.toArray⟩ hsz v h2 w'
   have Hnv:=kept (fun w' => numValid_any v w')
   rw [decide_eq_true hvr] at Hnv
   subst hf
   have Hp:=kept hp
   clear hp hsz hlim hsyn hev hev2 hvr hv h1 h2 hB
   go_enter Tryz.func229,Tryz.ntmps229
   go_wp2_with fail
   refine hc.mono ?_; rintro e w1 ⟨rfl,b1⟩
   have B1:=kept b1; clear b1
   go_wp2_with fail
   (with_reducible refine (Hp.out _).mono ?_); rintro e w2 ⟨rfl,hw⟩
   have B2 : Kept (Below w.heap.size w w2):=kept (by
    rcases hw with rfl | ⟨t,rfl⟩
    ·exact B1.out
    ·exact bthen B1.out (Lib.bytesWorld_below _ _ _))
   clear hw
   go_wp2_with fail
   (with_reducible refine (Hnv.out _).mono ?_); rintro e w3 ⟨rfl,rfl⟩
   go_wp2
   refine bodyPost_ret (v:=.tuple #[.int .i64 v,.int .i64 0]) (by simp [results,Tryz.results229,go_sem]) rfl ⟨rfl,B2.out⟩
  ·rw [if_pos (by omega)] at hf
   have hp : ∀ w' : World,w'.cell? ⟨4,0,none⟩ = some ev → Calls Tryz.prog 275 #[.string ⟨l.toArray⟩,.int .i64 10,.int .i64 64] w' fun e w2 => (∃ a b c,e = .returned (.tuple #[.int .i64 a,.iface b c])) ∧ Below w'.heap.size w' w2:=fun w' hv => (Any.strconv_ParseInt_10_at64_range (P:=Tryz.prog) Tryz.lays174 ⟨l.toArray⟩ hlim h2 ev w' hv hev2).mono fun e w2 ⟨N,q1,q2,q3,q4⟩ => ⟨⟨_,_,_,q1⟩,q4⟩
   subst hf
   have Hp:=kept hp
   have Hev:=kept hev
   clear hp hsz hlim hsyn hev hev2 h1 h2 hB
   go_enter Tryz.func229,Tryz.ntmps229
   go_wp2_with fail
   refine hc.mono ?_; rintro e w1 ⟨rfl,b1⟩
   have B1:=kept b1
   have Hev1:=kept (show w1.cell? ⟨4,0,none⟩ = some ev from by rw [← Hev.out]; simp only [World.cell?,b1.block _ (cell_there Hev.out).2])
   clear b1
   go_wp2_with fail
   (with_reducible refine (Hp.out _ Hev1.out).mono ?_); rintro e w2 ⟨⟨a,b,c,rfl⟩,b2⟩
   have B2 : Kept (Below w.heap.size w w2):=kept (bthen B1.out b2)
   clear b2
   go_wp2
   refine bodyPost_ret (v:=.tuple #[.int .i64 0,.int .i64 5]) (by simp [results,Tryz.results229,go_sem]) rfl ⟨rfl,B2.out⟩
  ·rw [if_pos (by omega)] at hf
   have hp : ∀ w' : World,Calls Tryz.prog 275 #[.string ⟨l.toArray⟩,.int .i64 10,.int .i64 64] w' fun e w2 => e = .returned (.tuple #[.int .i64 v,.nilIface]) ∧ (w2 = w' ∨ ∃ t,w2 = Lib.bytesWorld w' 5 t):=fun w' => Any.strconv_ParseInt_10_at64_ok (P:=Tryz.prog) Tryz.lays174 ⟨l.toArray⟩ hsz v h2 w'
   have Hnv:=kept (fun w' => numValid_any v w')
   rw [decide_eq_false h3] at Hnv
   subst hf
   have Hp:=kept hp
   clear hp hsz hlim hsyn hev hev2 h3 h1 h2 hB
   go_enter Tryz.func229,Tryz.ntmps229
   go_wp2_with fail
   refine hc.mono ?_; rintro e w1 ⟨rfl,b1⟩
   have B1:=kept b1; clear b1
   go_wp2_with fail
   (with_reducible refine (Hp.out _).mono ?_); rintro e w2 ⟨rfl,hw⟩
   have B2 : Kept (Below w.heap.size w w2):=kept (by
    rcases hw with rfl | ⟨t,rfl⟩
    ·exact B1.out
    ·exact bthen B1.out (Lib.bytesWorld_below _ _ _))
   clear hw
   go_wp2_with fail
   (with_reducible refine (Hnv.out _).mono ?_); rintro e w3 ⟨rfl,rfl⟩
   go_wp2
   refine bodyPost_ret (v:=.tuple #[.int .i64 0,.int .i64 5]) (by simp [results,Tryz.results229,go_sem]) rfl ⟨rfl,B2.out⟩
theorem AX.a_numParse (s : List UInt8) (hl : s.length ≤ 2000000) (h : AX.Hp) : AX.ACall Tryz.prog GT 229 [.str s] h fun r h' => r = .tup [.int .i64 (Num.parse s).1,.int .i64 (Num.parse s).2] ∧ h' = h:=
 AX.acall_imp (AX.args1 AX.r_str) (fun w hg => numParse_any s hl w hg) (fun C => AX.rep_tup.2 ⟨_,rfl,AX.repL_cons.2 ⟨_,_,rfl,AX.rep_int.2 rfl,AX.repL_cons.2 ⟨_,_,rfl,AX.rep_int.2 rfl,AX.repL_nil.2 rfl⟩⟩⟩) h
end Go.Proofs.YteklhoajalgehaaGreatDoor
