/- Part of what the proof needs. -/
import Derived.Test.YtahmpiioegemaaaGreatDoorMFrJournalRecordsUptoA
import Derived.Lib.TrimUEq
import Derived.Lib.ValidLaws
import Derived.Lib.RuneCount
import Derived.Lib.QuoteLoop
import Derived.Laws.BitsAllLaws
import Derived.ChangeArms
import Derived.Deep.Slices
import Derived.Below
import Derived.Test.YtahmpiioegemaaaGreatDoorProg
import Derived.Deep.QuietTactic
import Derived.BigQuiet
import Derived.BigRegion
import Derived.IntWalk
import Derived.StillTailTactics
import Derived.KernelRfl
set_option maxHeartbeats 4000000
set_option linter.unusedSimpArgs false
set_option linter.unusedVariables false
set_option linter.unnecessarySimpa false
namespace Go.Proofs.YtahmpiioegemaaaGreatDoor
namespace Str
open Go.Lib
def inB (s:ByteArray) (i:Nat) (lo hi:Int):Bool:=decide (∃ h:i < s.size,lo≤(s[i].toNat:Int)∧(s[i].toNat:Int)≤hi)
def Bad (d:Nat×Nat):Prop:=d.1=65533∧d.2=1
instance (d:Nat×Nat):Decidable (Bad d):=by unfold Bad; infer_instance
def refDec (s:ByteArray) (i:Nat):Nat×Nat:=if i < s.size∧¬ Bad (Utf8.decode s i) then Utf8.decode s i else (0,0)
theorem get_lt (s:ByteArray) (i:Nat) (h:i < s.size):(s.get! i).toNat=s[i].toNat:=by
 rw [show s.get! i=s[i] by simp [ByteArray.get!,h]; rfl]
theorem inB_true {s:ByteArray} {i:Nat} {lo hi:Int} (h:inB s i lo hi=true):i < s.size∧lo≤((s.get! i).toNat:Int)∧((s.get! i).toNat:Int)≤hi:=by
 obtain ⟨h1,h2,h3⟩:=of_decide_eq_true h
 rw [get_lt s i h1]; exact ⟨h1,h2,h3⟩
theorem inB_false {s:ByteArray} {i:Nat} {lo hi:Int} (h:inB s i lo hi=false):¬ (i < s.size∧lo≤((s.get! i).toNat:Int)∧((s.get! i).toNat:Int)≤hi):=by
 intro ⟨h1,h2,h3⟩
 rw [get_lt s i h1] at h2 h3
 exact of_decide_eq_false h ⟨h1,h2,h3⟩
theorem refDec_end (s:ByteArray) (i:Nat) (h:¬ i < s.size):refDec s i=(0,0):=by unfold refDec; rw [if_neg (fun hh=>h hh.1)]
theorem refDec_good (s:ByteArray) (i c n:Nat) (h:i < s.size) (hd:Utf8.decode s i=(c,n)) (hb:¬ (c=65533∧n=1)):refDec s i=(c,n):=by
 unfold refDec; rw [hd,if_pos ⟨h,hb⟩]
theorem refDec_bad (s:ByteArray) (i:Nat) (hd:Utf8.decode s i=(65533,1)):refDec s i=(0,0):=by
 unfold refDec; rw [hd,if_neg (by simp [Bad])]
section
variable (s:ByteArray) (i:Nat) (hi:i < s.size)
include hi
theorem refDec_ascii (h:s[i].toNat < 128):refDec s i=(s[i].toNat,1):=by
 refine refDec_good s i _ _ hi ?_ (by omega)
 rw [decode_at,get_lt s i hi]; simp [decodeN,h]
theorem refDec_lead (h:(128≤s[i].toNat∧s[i].toNat < 194)∨245≤s[i].toNat):refDec s i=(0,0):=by
 refine refDec_bad s i ?_
 rw [decode_at]
 have hb:=s[i].toNat_lt
 exact decodeN_bad _ _ _ _ _ (by rw [get_lt s i hi]; omega)
theorem refDec_two (h1:194≤s[i].toNat) (h2:s[i].toNat≤223) (hc:inB s (i+1) 128 191=true) :
  refDec s i=(s[i].toNat % 32*64+(s.get! (i+1)).toNat % 64,2):=by
 obtain ⟨c1,c2,c3⟩:=inB_true hc
 refine refDec_good s i _ _ hi ?_ (by omega)
 rw [decode_at,get_lt s i hi]
 unfold decodeN
 rw [if_neg (by omega),if_pos (by omega),if_pos (by omega)]
theorem refDec_two_no (h1:194≤s[i].toNat) (h2:s[i].toNat≤223) (hc:inB s (i+1) 128 191=false):refDec s i=(0,0):=by
 have c1:=inB_false hc
 refine refDec_bad s i ?_
 rw [decode_at,get_lt s i hi]
 have hb:=(s.get! (i+1)).toNat_lt
 unfold decodeN
 rw [if_neg (by omega),if_neg (by omega),if_neg (by omega),if_neg (by omega)]
theorem refDec_three (lo hh:Int) (h1:224≤s[i].toNat) (h2:s[i].toNat≤239) (hlo:lo=if s[i].toNat=224 then 160 else 128) (hhi:hh=if s[i].toNat=237 then 159 else 191)
  (hc:inB s (i+1) lo hh=true) (hd:inB s (i+2) 128 191=true) :
  refDec s i=(s[i].toNat % 16*4096+(s.get! (i+1)).toNat % 64*64+(s.get! (i+2)).toNat % 64,3):=by
 obtain ⟨c1,c2,c3⟩:=inB_true hc
 obtain ⟨d1,d2,d3⟩:=inB_true hd
 refine refDec_good s i _ _ hi ?_ (by omega)
 rw [decode_at,get_lt s i hi]
 unfold decodeN
 rw [if_neg (by omega),if_neg (by omega),if_pos (by split at hlo <;> split at hhi <;> omega),if_pos (by split at hlo <;> split at hhi <;> omega)]
theorem refDec_three_no (lo hh:Int) (h1:224≤s[i].toNat) (h2:s[i].toNat≤239) (hlo:lo=if s[i].toNat=224 then 160 else 128) (hhi:hh=if s[i].toNat=237 then 159 else 191)
  (hc:inB s (i+1) lo hh=false∨inB s (i+2) 128 191=false):refDec s i=(0,0):=by
 refine refDec_bad s i ?_
 rw [decode_at,get_lt s i hi]
 have hb:=(s.get! (i+1)).toNat_lt
 have hb2:=(s.get! (i+2)).toNat_lt
 unfold decodeN
 rw [if_neg (by omega),if_neg (by omega)]
 rcases hc with hc | hc
 ·have c1:=inB_false hc
  split
  ·rw [if_neg (by split at hlo <;> split at hhi <;> omega)]
  ·rw [if_neg (by omega)]
 ·have c1:=inB_false hc
  rw [if_neg (by omega),if_neg (by omega)]
theorem refDec_four (lo hh:Int) (h1:240≤s[i].toNat) (h2:s[i].toNat≤244) (hlo:lo=if s[i].toNat=240 then 144 else 128) (hhi:hh=if s[i].toNat=244 then 143 else 191)
  (hc:inB s (i+1) lo hh=true) (hd:inB s (i+2) 128 191=true) (he:inB s (i+3) 128 191=true) :
  refDec s i=(s[i].toNat % 8*262144+(s.get! (i+1)).toNat % 64*4096+(s.get! (i+2)).toNat % 64*64+(s.get! (i+3)).toNat % 64,4):=by
 obtain ⟨c1,c2,c3⟩:=inB_true hc
 obtain ⟨d1,d2,d3⟩:=inB_true hd
 obtain ⟨e1,e2,e3⟩:=inB_true he
 refine refDec_good s i _ _ hi ?_ (by omega)
 rw [decode_at,get_lt s i hi]
 unfold decodeN
 rw [if_neg (by omega),if_neg (by omega),if_neg (by omega),if_pos (by split at hlo <;> split at hhi <;> omega),if_pos (by split at hlo <;> split at hhi <;> omega)]
theorem refDec_four_no (lo hh:Int) (h1:240≤s[i].toNat) (h2:s[i].toNat≤244) (hlo:lo=if s[i].toNat=240 then 144 else 128) (hhi:hh=if s[i].toNat=244 then 143 else 191)
  (hc:inB s (i+1) lo hh=false∨inB s (i+2) 128 191=false∨inB s (i+3) 128 191=false):refDec s i=(0,0):=by
 refine refDec_bad s i ?_
 rw [decode_at,get_lt s i hi]
 have hb:=(s.get! (i+1)).toNat_lt
 have hb2:=(s.get! (i+2)).toNat_lt
 have hb3:=(s.get! (i+3)).toNat_lt
 unfold decodeN
 rw [if_neg (by omega),if_neg (by omega),if_neg (by omega)]
 rcases hc with hc | hc | hc
 ·have c1:=inB_false hc
  split
  ·rw [if_neg (by split at hlo <;> split at hhi <;> omega)]
  ·rfl
 ·have c1:=inB_false hc
  rw [if_neg (by omega)]
 ·have c1:=inB_false hc
  rw [if_neg (by omega)]
end
end Str
end Go.Proofs.YtahmpiioegemaaaGreatDoor

namespace Go.Proofs.YtahmpiioegemaaaGreatDoor
namespace Str
open Go.Lib
def hd (d:Nat):UInt8:=[48,49,50,51,52,53,54,55,56,57,97,98,99,100,101,102].getD d 0
def hexL (c:Nat):List UInt8:=if c < 16 then [hd c] else [hd (c / 16),hd (c % 16)]
theorem hexL_length (c:Nat):1≤(hexL c).length∧(hexL c).length≤2:=by unfold hexL; split <;> simp
def esc (b:UInt8):List UInt8:=
 if b=10 then [92,110] else if b=13 then [92,114] else if b=9 then [92,116] else if b=34 then [92,34] else if b=92 then [92,92]
 else if b < 32∨b=127 then [92,117,123]++hexL b.toNat++[125] else [b]
theorem esc_length (b:UInt8):1≤(esc b).length∧(esc b).length≤6:=by
 have:=hexL_length b.toNat
 unfold esc
 repeat' split
 all_goals simp
 omega
def quote (l:List UInt8):List UInt8:=34::(l.flatMap esc++[34])
theorem flatMap_esc_length (l:List UInt8):l.length≤(l.flatMap esc).length∧(l.flatMap esc).length≤6*l.length:=by
 induction l with
 | nil=>simp
 | cons b l ih =>
  have:=esc_length b
  simp only [List.flatMap_cons,List.length_append,List.length_cons]; omega
def valid (l:List UInt8):Bool:=decide (l.length≤4096)&&validD l
theorem decL (s:ByteArray) (k:Nat):decodeL (s.data.toList.drop k)=Utf8.decode s k:=decodeL_drop s k
theorem dec_width (s:ByteArray) (k:Nat) (h:k < s.size):1≤(Utf8.decode s k).2∧k+(Utf8.decode s k).2≤s.size:=by
 refine ⟨decode_width_pos s k h,?_⟩
 have h1:=decodeL_le (s.data.toList.drop k) (by intro h2; have:=congrArg List.length h2; simp at this; omega)
 rw [decL] at h1
 simp at h1
 omega
theorem valid_at (s:ByteArray) (k:Nat) (h:k < s.size):validD (s.data.toList.drop k)=if Bad (Utf8.decode s k) then false else validD (s.data.toList.drop (k+(Utf8.decode s k).2)):=by
 rw [validD_step _ (by intro h2; have:=congrArg List.length h2; simp at this; omega),decL,List.drop_drop]
 rfl
theorem refDec_cases (s:ByteArray) (k:Nat) (h:k < s.size) :
  (Bad (Utf8.decode s k)∧refDec s k=(0,0))∨(¬ Bad (Utf8.decode s k)∧refDec s k=Utf8.decode s k):=by
 by_cases hb:Bad (Utf8.decode s k)
 ·exact .inl ⟨hb,by unfold refDec; rw [if_neg (fun hh=>hh.2 hb)]⟩
 ·exact .inr ⟨hb,by unfold refDec; rw [if_pos ⟨h,hb⟩]⟩
end Str
end Go.Proofs.YtahmpiioegemaaaGreatDoor

namespace Go.Proofs.YtahmpiioegemaaaGreatDoor
open Go.RowKit
end Go.Proofs.YtahmpiioegemaaaGreatDoor

namespace Go.Proofs.YtahmpiioegemaaaGreatDoor
open Go.RowKit Go.ChangeShapes Go.WideShapes Go.Deep
inductive D where
 | int (k:IntKind) (n:Int)
 | str (l:List UInt8)
 | bool (b:Bool)
 | agg (l:List D)
 | sl (width:Nat) (l:List D)
mutual
def Rd (w:World) (S:Nat→Prop):D→List Value→Prop
 | .int k n,cs=>cs=[.int k n]
 | .str l,cs=>cs=[.string ⟨l.toArray⟩]
 | .bool b,cs=>cs=[.bool b]
 | .agg l,cs=>RdAgg w S l cs
 | .sl W l,cs=>∃ a cap,cs=[.slice a l.length cap]∧l.length≤cap∧RdRow w S W l a 0
def RdAgg (w:World) (S:Nat→Prop):List D→List Value→Prop
 | [],cs=>cs=[]
 | d::l,cs=>∃ c1 c2,cs=c1++c2∧Rd w S d c1∧RdAgg w S l c2
def RdRow (w:World) (S:Nat→Prop) (W:Nat):List D→Option Addr→Nat→Prop
 | [],_,_=>True
 | d::l,a,i=>(∃ g off c,a=some ⟨g,off,none⟩∧S g∧c.length=W∧(∀ j,j < W→w.cell? ⟨g,off+i*W+j,none⟩=c[j]?)∧Rd w S d c)∧RdRow w S W l a (i+1)
end
mutual
theorem Rd.frame {w w':World} {S S':Nat→Prop} (h:∀ g,S g→w'.heap[g]?=w.heap[g]?∧S' g):∀ (d:D) (cs:List Value),Rd w S d cs→Rd w' S' d cs
 | .int k n,cs,r=>by unfold Rd at r ⊢; exact r
 | .str l,cs,r=>by unfold Rd at r ⊢; exact r
 | .bool b,cs,r=>by unfold Rd at r ⊢; exact r
 | .agg l,cs,r=>by unfold Rd at r ⊢; exact RdAgg.frame h l cs r
 | .sl W l,cs,r=>by
  unfold Rd at r ⊢
  obtain ⟨a,cap,h1,h2,h3⟩:=r
  exact ⟨a,cap,h1,h2,RdRow.frame h W l a 0 h3⟩
theorem RdAgg.frame {w w':World} {S S':Nat→Prop} (h:∀ g,S g→w'.heap[g]?=w.heap[g]?∧S' g):∀ (l:List D) (cs:List Value),RdAgg w S l cs→RdAgg w' S' l cs
 | [],cs,r=>by unfold RdAgg at r ⊢; exact r
 | d::l,cs,r=>by
  unfold RdAgg at r ⊢
  obtain ⟨c1,c2,h1,h2,h3⟩:=r
  exact ⟨c1,c2,h1,Rd.frame h d c1 h2,RdAgg.frame h l c2 h3⟩
theorem RdRow.frame {w w':World} {S S':Nat→Prop} (h:∀ g,S g→w'.heap[g]?=w.heap[g]?∧S' g) (W:Nat):∀ (l:List D) (a:Option Addr) (i:Nat),RdRow w S W l a i→RdRow w' S' W l a i
 | [],a,i,r=>by unfold RdRow; trivial
 | d::l,a,i,r=>by
  unfold RdRow at r ⊢
  obtain ⟨⟨g,off,c,h1,h2,h3,h4,h5⟩,h6⟩:=r
  refine ⟨⟨g,off,c,h1,(h g h2).2,h3,fun j hj=>?_,Rd.frame h d c h5⟩,RdRow.frame h W l a (i+1) h6⟩
  rw [←h4 j hj]
  simp only [World.cell?,(h g h2).1]
end
def Old (w:World) (g:Nat):Prop:=g < w.heap.size
theorem Rd.below {w w':World} {d:D} {cs:List Value} {B:Nat} {S:Nat→Prop} (r:Rd w S d cs) (h:Below B w w') (hS:∀ g,S g→g < B):Rd w' S d cs:=
 Rd.frame (fun g hg=>⟨h.block g (hS g hg),hg⟩) d cs r
theorem RdRow.get {w:World} {S:Nat→Prop} {W:Nat}:∀ {l:List D} {a:Option Addr} {i:Nat},RdRow w S W l a i→∀ k (hk:k < l.length),∃ g off c,a=some ⟨g,off,none⟩∧S g∧c.length=W∧(∀ j,j < W→w.cell? ⟨g,off+(i+k)*W+j,none⟩=c[j]?)∧Rd w S l[k] c
 | [],a,i,r,k,hk=>by simp at hk
 | d::l,a,i,r,0,hk=>by unfold RdRow at r; simpa using r.1
 | d::l,a,i,r,k+1,hk=>by
  unfold RdRow at r
  have:=RdRow.get r.2 k (by simpa using hk)
  rw [show i+(k+1)=(i+1)+k by omega]
  exact this
theorem RdRow.of {w:World} {S:Nat→Prop} {W:Nat}:∀ (l:List D) (a:Option Addr) (i:Nat),(∀ k (hk:k < l.length),∃ g off c,a=some ⟨g,off,none⟩∧S g∧c.length=W∧(∀ j,j < W→w.cell? ⟨g,off+(i+k)*W+j,none⟩=c[j]?)∧Rd w S l[k] c)→RdRow w S W l a i
 | [],a,i,h=>by unfold RdRow; trivial
 | d::l,a,i,h=>by
  unfold RdRow
  refine ⟨h 0 (by simp),RdRow.of l a (i+1) fun k hk=>?_⟩
  have:=h (k+1) (by simpa using hk)
  rw [show i+(k+1)=(i+1)+k by omega] at this
  exact this
def flat (P:Program):List Field→Nat→Option Nat
 | [],o=>some o
 | f::fs,o=>if f.offset=o then flat P fs (o+P.cellsOf f.type) else none
def plainB (P:Program) (K:List TypeId) (t:TypeId):Bool:=
 match P.underlying t with
 | some (.int _)=>true
 | some .string=>true
 | some .bool=>true
 | some (.struct fs)=>fs.toList.all (fun f=>K.contains f.type)&&flat P fs.toList 0 == some (P.cellsOf t)
 | some (.slice e)=>K.contains e&&decide (0 < P.cellsOf e)
 | _=>false
def plainAll (P:Program) (K:List TypeId):Bool:=K.all (plainB P K)
mutual
def Conf (P:Program):D→TypeId→Prop
 | .int k n,t=>P.underlying t=some (.int k)∧(Lit.int k n).wf=true
 | .str l,t=>P.underlying t=some .string∧l.length≤maxLen
 | .bool b,t=>P.underlying t=some .bool
 | .agg l,t=>∃ fs,P.underlying t=some (.struct fs)∧ConfL P l (fs.toList.map (·.type))
 | .sl W l,t=>∃ e,P.underlying t=some (.slice e)∧W=P.cellsOf e∧ConfA P l e∧l.length≤maxLen
def ConfL (P:Program):List D→List TypeId→Prop
 | [],ts=>ts=[]
 | d::l,ts=>∃ t ts',ts=t::ts'∧Conf P d t∧ConfL P l ts'
def ConfA (P:Program):List D→TypeId→Prop
 | [],_=>True
 | d::l,t=>Conf P d t∧ConfA P l t
end
theorem confA_of (P:Program) (e:TypeId):∀ l:List D,(∀ k (hk:k < l.length),Conf P l[k] e)→ConfA P l e
 | [],h=>by unfold ConfA; trivial
 | d::l,h=>by
  unfold ConfA
  exact ⟨h 0 (by simp),confA_of P e l fun k hk=>h (k+1) (by simpa using hk)⟩
theorem cell_there {w:World} {a:Addr} {v:Value} (h:w.cell? a=some v):a.spot=none∧a.block < w.heap.size:=by
 obtain ⟨g,off,sp⟩:=a
 unfold World.cell? at h
 simp only at h
 split at h
 ·next hx =>
  refine ⟨?_,(Array.getElem?_eq_some_iff.1 hx).1⟩
  cases sp with
  | none=>rfl
  | some s=>simp at h
 ·cases h
section
variable {H:Type} {enc:TypeId×Value→H} {P:Program} {w:World} {base:Nat} {spare:Nat→Bool} {held:Bool} {K:List TypeId}
end
end Go.Proofs.YtahmpiioegemaaaGreatDoor

namespace Go.Proofs.YtahmpiioegemaaaGreatDoor
open Go.RowKit
inductive V where
 | mk (k n:Int) (s:List UInt8) (items:List V) (keys:List (List UInt8))
mutual
def V.toD:V→D
 | .mk k n s is ks => .agg [.int .i64 k,.int .i64 n,.str s,.sl 5 (V.toDs is),.sl 1 (ks.map .str)]
def V.toDs:List V→List D
 | []=>[]
 | v::l=>v.toD::V.toDs l
end
theorem V.toDs_map:∀ l:List V,V.toDs l=l.map V.toD
 | []=>rfl
 | v::l=>by rw [V.toDs,V.toDs_map l]; rfl
theorem RdRow.below {w w':World} {W:Nat} {l:List D} {a:Option Addr} {i:Nat} (r:RdRow w (Old w) W l a i) (h:Below w.heap.size w w'):RdRow w' (Old w') W l a i:=
 RdRow.frame (fun g hg=>⟨h.block g hg,Nat.lt_of_lt_of_le hg h.size⟩) W l a i r
mutual
theorem V.induct {P:V→Prop} (h:∀ k n s is ks,(∀ x∈is,P x)→P (.mk k n s is ks)):∀ v:V,P v
 | .mk k n s is ks=>h k n s is ks (V.inducts h is)
theorem V.inducts {P:V→Prop} (h:∀ k n s is ks,(∀ x∈is,P x)→P (.mk k n s is ks)):∀ l:List V,∀ x∈l,P x
 | []=>by simp
 | v::l=>List.forall_mem_cons.2 ⟨V.induct h v,V.inducts h l⟩
end
end Go.Proofs.YtahmpiioegemaaaGreatDoor

namespace Go.Proofs.YtahmpiioegemaaaGreatDoor
namespace Wire
def zig (n:Int):Nat:=if n < 0 then (2*(-n - 1)+1).toNat else (2*n).toNat
def zag (u:Nat):Int:=if u % 2=1 then -((u / 2:Nat):Int) - 1 else ((u / 2:Nat):Int)
def encF:Nat→Nat→List UInt8
 | 0,u=>[UInt8.ofNat u]
 | f+1,u=>if u < 128 then [UInt8.ofNat u] else UInt8.ofNat (u % 128+128)::encF f (u / 128)
def num (n:Int):List UInt8:=encF 9 (zig n)
def strE (s:List UInt8):List UInt8:=num s.length++s
inductive G where
 | ok (n:Int) (long:Nat)
 | err (e:Int)
deriving DecidableEq
def grpF:Nat→Nat→Nat→List UInt8→G
 | 0,_,_,_ => .err 5
 | f+1,i,u,l =>
  match l with
  | [] => .err 40
  | c::r =>
   if i=9∧1 < c.toNat then .err 5
   else if 128≤c.toNat then grpF f (i+1) (u+c.toNat % 128*2 ^ (7*i)) r
   else if 0 < i∧c=0 then .err 1
   else .ok (zag (u+c.toNat % 128*2 ^ (7*i))) (i+1)
def grp (l:List UInt8):G:=grpF 10 0 0 l
structure St where
 rest:List UInt8
 e:Int
deriving DecidableEq
def numR (r:St):St×Int:=
 if r.e≠0 then (r,0) else match grp r.rest with
  | .err e=>(⟨r.rest,e⟩,0)
  | .ok n long=>(⟨r.rest.drop long,0⟩,n)
def cntR (r:St) (least:Nat):St×Nat:=
 if r.e≠0 then (r,0) else match grp r.rest with
  | .err e=>(⟨r.rest,e⟩,0)
  | .ok n long =>
   if n < 0 then (⟨r.rest,1⟩,0)
   else if (((r.rest.length - long) / least:Nat):Int) < n then (⟨r.rest,40⟩,0)
   else (⟨r.rest.drop long,0⟩,n.toNat)
def strR (r:St):St×List UInt8:=
 let q:=cntR r 1
 if q.1.e≠0 then (q.1,[]) else (⟨q.1.rest.drop q.2,0⟩,q.1.rest.take q.2)
theorem zig_lt (n:Int) (h0:-9223372036854775808≤n) (h1:n≤9223372036854775807):zig n < 18446744073709551616:=by
 unfold zig
 split <;> omega
theorem encF_len:∀ f u,1≤(encF f u).length∧(encF f u).length≤f+1
 | 0,u=>by simp [encF]
 | f+1,u=>by
  unfold encF
  split
  ·simp
  ·have:=encF_len f (u / 128)
   simp; omega
end Wire
namespace Val
open Go.Op (bytesLess)
theorem less_irrefl:∀ a:List UInt8,bytesLess a a=false
 | []=>rfl
 | b::a=>by simp only [bytesLess]; rw [less_irrefl a]; simp
theorem less_total:∀ a b:List UInt8,(!bytesLess a b)=(bytesLess b a||b == a)
 | [],[]=>rfl
 | [],b::y=>by simp [bytesLess]
 | a::x,[]=>by simp [bytesLess]
 | a::x,b::y=>by
  have ih:=less_total x y
  simp only [bytesLess]
  rcases Nat.lt_trichotomy a.toNat b.toNat with h | h | h
  ·have h1:a < b:=UInt8.lt_iff_toNat_lt.2 h
   have h2:¬ b < a:=fun h'=>by have:=UInt8.lt_iff_toNat_lt.1 h'; omega
   have h3:a≠b:=fun e=>by rw [e] at h; omega
   have h4:b≠a:=fun e=>h3 e.symm
   simp [h1,h2,h3,h4]
  ·have e:a=b:=UInt8.toNat_inj.1 h
   subst e
   simp
   simpa using ih
  ·have h1:b < a:=UInt8.lt_iff_toNat_lt.2 h
   have h2:¬ a < b:=fun h'=>by have:=UInt8.lt_iff_toNat_lt.1 h'; omega
   have h3:a≠b:=fun e=>by rw [e] at h; omega
   simp [h1,h2,h3]
def textZ (s:List UInt8):Int:=if 4096 < s.length then 3 else if Str.valid s then 0 else 1
def shapedB (k n:Int) (s:List UInt8) (ni nk:Nat):Bool:=
 decide (0≤k∧k≤6)&&(k == 2||(k == 1&&(n == 0||n == 1))||n == 0)&&(k == 3||s == [])&&(k == 4||k == 5||ni == 0)&&(if k=5 then nk == ni else nk == 0)
def badB:Option (List UInt8)→List UInt8→Bool
 | some q,k=>!bytesLess q k
 | none,_=>false
def keysZ:Option (List UInt8)→List (List UInt8)→Int
 | _,[]=>0
 | p,k::l=>if textZ k≠0 then textZ k else if badB p k then 1 else keysZ (some k) l
def nodeZ:V→Int
 | .mk k n s is ks=>if shapedB k n s is.length ks.length=false then 1 else if k=2∧¬ (-9007199254740992≤n∧n≤9007199254740992) then 5 else if textZ s≠0 then textZ s else keysZ none ks
mutual
def chk:V→Nat→Nat→Int×Nat
 | .mk k n s is ks,lv,b=>if 32 < lv then (4,b) else if 4096≤b then (14,b) else if nodeZ (.mk k n s is ks)≠0 then (nodeZ (.mk k n s is ks),b) else chks is (lv+1) (b+1)
def chks:List V→Nat→Nat→Int×Nat
 | [],_,b=>(0,b)
 | v::l,lv,b=>if (chk v lv b).1≠0 then chk v lv b else chks l lv (chk v lv b).2
end
def checkZ (v:V):Int:=(chk v 1 0).1
mutual
def left:V→Int→Int→Int
 | .mk _ _ _ is _,nd,lv=>if nd < 1∨lv < 1 then -1 else lefts is (nd - 1) (lv - 1)
def lefts:List V→Int→Int→Int
 | [],n,_=>n
 | v::l,n,lv=>if 0≤n then lefts l (left v n lv) lv else n
end
mutual
def keysN:V→Nat
 | .mk _ _ _ is ks=>ks.length+keysNs is
def keysNs:List V→Nat
 | []=>0
 | v::l=>keysN v+keysNs l
end
def keyE:Bool→List (List UInt8)→List UInt8
 | true,k::_=>Wire.strE k
 | _,_=>[]
mutual
def enc:V→List UInt8
 | .mk k n s is ks=>Wire.num k++(if k=1∨k=2 then Wire.num n else if k=3 then Wire.strE s else if k=4∨k=5 then Wire.num is.length++encs (k == 5) is ks else [])
def encs:Bool→List V→List (List UInt8)→List UInt8
 | _,[],_=>[]
 | m,v::l,ks=>keyE m ks++(enc v++encs m l ks.tail)
end
def zeroV:V:=.mk 0 0 [] [] []
abbrev Res:=Wire.St×Int×V
def itemsW (one:Wire.St→Res) (m:Bool):Nat→Wire.St→List V→List (List UInt8)→Wire.St×Int×List V×List (List UInt8)
 | 0,r,is,ks=>(r,r.e,is,ks)
 | c+1,r,is,ks =>
  let q:=if m then Wire.strR r else (r,[])
  let x:=one q.1
  if x.2.1≠0 then (x.1,x.2.1,is,ks) else itemsW one m c x.1 (is++[x.2.2]) (if m then ks++[q.2] else ks)
def readW (one:Wire.St→Res) (r:Wire.St):Res:=
 if r.e≠0 then (r,r.e,zeroV) else
 let q:=Wire.numR r
 if q.1.e≠0 then (q.1,q.1.e,zeroV)
 else if q.2 < 0∨6 < q.2 then (q.1,1,zeroV)
 else if q.2=1∨q.2=2 then ((Wire.numR q.1).1,(Wire.numR q.1).1.e,.mk q.2 (Wire.numR q.1).2 [] [] [])
 else if q.2=3 then ((Wire.strR q.1).1,(Wire.strR q.1).1.e,.mk q.2 0 (Wire.strR q.1).2 [] [])
 else if q.2=4∨q.2=5 then
  let c:=Wire.cntR q.1 1
  let x:=itemsW one (q.2 == 5) c.2 c.1 [] []
  (x.1,x.2.1,.mk q.2 0 [] x.2.2.1 x.2.2.2)
 else (q.1,0,.mk q.2 0 [] [] [])
def read:Nat→Wire.St→Res
 | 0,r=>(r,(if r.e≠0 then r.e else 4),zeroV)
 | f+1,r=>readW (read f) r
def readValue (r:Wire.St):Res:=
 let x:=read 32 r
 if x.2.1≠0 then (x.1,x.2.1,zeroV) else if checkZ x.2.2≠0 then (x.1,checkZ x.2.2,zeroV) else x
end Val
end Go.Proofs.YtahmpiioegemaaaGreatDoor

namespace Go.Proofs.YtahmpiioegemaaaGreatDoor
open Go.RowKit
def Tri (w:World) (g:Nat) (T:TypeId) (a b c:Value):Prop:=w.heap[g]?=some (.cells #[a,b,c] T (0,0))
namespace Tri
variable {w w':World} {g:Nat} {T:TypeId} {a b c:Value}
theorem lt (h:Tri w g T a b c):g < w.heap.size:=(Array.getElem?_eq_some_iff.1 h).1
theorem below (h:Tri w g T a b c) (hb:Below w.heap.size w w'):Tri w' g T a b c:=(hb.block g h.lt).trans h
theorem fresh (w:World) (T:TypeId) (a b c:Value):Tri (w.alloc (.cells #[a,b,c] T)) w.heap.size T a b c:=heap_alloc_new w _
theorem draw (h:Tri w g T a b c):Tri w.drew g T a b c:=h
theorem set0 (h:Tri w g T a b c) (u:Value):Tri (w.setCell ⟨g,0,none⟩ u) g T u b c:=by
 unfold Tri World.setCell at *; rw [Array.getElem?_modify,if_pos rfl,h]; rfl
theorem set1 (h:Tri w g T a b c) (u:Value):Tri (w.setCell ⟨g,1,none⟩ u) g T a u c:=by
 unfold Tri World.setCell at *; rw [Array.getElem?_modify,if_pos rfl,h]; rfl
theorem grown {r:Nat} (h:Tri w g T a b c) (hg:w.grownBy w' (some r)) (hne:g≠r):Tri w' g T a b c:=(hg.block g h.lt (by simpa using hne)).trans h
end Tri
end Go.Proofs.YtahmpiioegemaaaGreatDoor

namespace Go.Proofs.YtahmpiioegemaaaGreatDoor
open Go.RowKit
namespace Wire
structure Left (n:Int) (l:List UInt8) (u:Nat):Prop where
 eq:l++encF (9 - l.length) u=num n
 len:l.length≤9
 lt:u*128 ^ l.length < 18446744073709551616
theorem Left.first (n:Int) (h0:-9223372036854775808≤n) (h1:n≤9223372036854775807):Left n [] (zig n):=⟨rfl,by simp,by simpa using zig_lt n h0 h1⟩
theorem Left.last {n:Int} {l:List UInt8} {u:Nat} (h:Left n l u) (hu:¬ 127 < u):l++[UInt8.ofNat u]=num n:=by
 rw [←h.eq]
 congr 1
 cases 9 - l.length with
 | zero=>rfl
 | succ f=>rw [encF,if_pos (by omega)]
theorem Left.next {n:Int} {l:List UInt8} {u:Nat} (h:Left n l u) (hu:127 < u):Left n (l++[UInt8.ofNat (u % 128+128)]) (u / 128):=by
 have hl9:l.length < 9:=by
  rcases Nat.lt_or_ge l.length 9 with h9 | h9
  ·exact h9
  ·exfalso
   have h3:=h.lt
   have h4:(128:Nat) ^ 9≤128 ^ l.length:=Nat.pow_le_pow_right (by decide) h9
   have h5:128*128 ^ 9≤u*128 ^ l.length:=Nat.mul_le_mul (by omega) h4
   have e:(128:Nat)*128 ^ 9=1180591620717411303424:=by decide
   omega
 refine ⟨?_,by simp; omega,?_⟩
 ·rw [←h.eq]
  have e:9 - l.length=(9 - (l.length+1))+1:=by omega
  rw [e,encF,if_neg (by omega)]
  simp
 ·have h3:=h.lt
  have e:(l++[UInt8.ofNat (u % 128+128)]).length=l.length+1:=by simp
  rw [e,Nat.pow_succ]
  have h5:u / 128*(128 ^ l.length*128)≤u*128 ^ l.length:=by
   rw [Nat.mul_comm (128 ^ l.length) 128,←Nat.mul_assoc]
   exact Nat.mul_le_mul_right _ (Nat.div_mul_le_self u 128)
  exact Nat.lt_of_le_of_lt h5 h3
end Wire
theorem low7 (u m:Nat) (hm:u % 128=m) (hu:u < 18446744073709551616):bits .and .u64 (u:Int) 127=(m:Int):=by
 have h:=u64_and_nat u 127 hu (by omega)
 rw [show ((127:Nat):Int)=127 from rfl] at h
 rw [h,show u &&& 127=u % 2 ^ 7 from Nat.and_two_pow_sub_one_eq_mod u 7,show (2:Nat) ^ 7=128 from rfl,hm]
theorem high8 (m:Nat) (hm:m < 128):bits .or .u8 (m:Int) 128=((m+128:Nat):Int):=by
 have h:=u8_or_nat m 128 (by omega) (by omega)
 rw [show ((128:Nat):Int)=128 from rfl] at h
 rw [h]
 have:=Nat.two_pow_add_eq_or_of_lt (i:=7) (b:=m) hm 1
 rw [show (2:Nat) ^ 7*1=128 from rfl] at this
 rw [Nat.or_comm,←this]; omega
theorem xor_ones (a:Nat) (h:a < 18446744073709551616):18446744073709551615 ^^^ a=18446744073709551615 - a:=by
 have e:(18446744073709551615:Nat)=2 ^ 64 - 1:=by decide
 have h2:a < 2 ^ 64:=h
 have e2:18446744073709551615 - a=2 ^ 64 - (a+1):=by
  have:(2:Nat) ^ 64=18446744073709551616:=by decide
  omega
 rw [e2,e]
 apply Nat.eq_of_testBit_eq
 intro i
 rw [Nat.testBit_xor,Nat.testBit_two_pow_sub_one,Nat.testBit_two_pow_sub_succ h2]
 by_cases hi:i < 64
 ·simp [hi]
 ·have:a.testBit i=false:=Nat.testBit_lt_two_pow (Nat.lt_of_lt_of_le h2 (Nat.pow_le_pow_right (by decide) (by omega)))
  simp [hi,this]
theorem wrap_u64' (n:Int):IntKind.u64.wrap n=n % 18446744073709551616:=by simp [IntKind.wrap,IntKind.bits,IntKind.signed]
theorem zig_neg (n:Int) (z:Nat) (h:n < 0) (h0:-9223372036854775808≤n) (hz:Wire.zig n=z):bits .xor .u64 IntKind.u64.max (IntKind.u64.wrap (IntKind.u64.wrap n*2))=(z:Int):=by
 unfold Wire.zig at hz
 rw [if_pos h] at hz
 obtain ⟨a,ha⟩:∃ a:Nat,IntKind.u64.wrap (IntKind.u64.wrap n*2)=a:=⟨(2*n+18446744073709551616).toNat,by rw [wrap_u64',wrap_u64']; omega⟩
 have ha2:(a:Int)=2*n+18446744073709551616:=by rw [←ha,wrap_u64',wrap_u64']; omega
 rw [ha,show IntKind.u64.max=((18446744073709551615:Nat):Int) from rfl,u64_xor_nat _ _ (by omega) (by omega),xor_ones a (by omega)]
 omega
theorem zig_pos (n:Int) (z:Nat) (h:¬ n < 0) (h1:n≤9223372036854775807) (hz:Wire.zig n=z):IntKind.u64.wrap (IntKind.u64.wrap n*2)=(z:Int):=by
 unfold Wire.zig at hz
 rw [if_neg h] at hz
 rw [wrap_u64',wrap_u64']
 omega
theorem info_u8:(Tryz.prog.info? 5).map (fun i=>(i.zero,i.size,i.bytes))=some (some (.int .u8 0),1,1):=by kernel_rfl
theorem left_lt {n:Int} {l:List UInt8} {u:Nat} (h:Wire.Left n l u):u < 18446744073709551616:=by
 have h1:=h.lt
 have h2:1≤128 ^ l.length:=Nat.one_le_pow _ _ (by decide)
 have h3:u*1≤u*128 ^ l.length:=Nat.mul_le_mul_left _ h2
 omega
set_option maxRecDepth 100000 in
theorem appendNumber_any (dst:List UInt8) (n:Int) (w:World) (hd:dst.length≤1000000000) (h0:-9223372036854775808≤n) (h1:n≤9223372036854775807) :
  Calls Tryz.prog 57 #[.string ⟨dst.toArray⟩,.int .i64 n] w fun e w'=>e = .returned (.string ⟨(dst++Wire.num n).toArray⟩)∧Below w.heap.size w w':=by
 obtain ⟨z,hz⟩:∃ z,Wire.zig n=z:=⟨_,rfl⟩
 have hL:=Wire.Left.first n h0 h1
 rw [hz] at hL
 have HL:=kept hL
 clear hL
 by_cases hn:n < 0
 ·have hs:bits .xor .u64 IntKind.u64.max (IntKind.u64.wrap (IntKind.u64.wrap n*2))=(z:Int):=zig_neg n z hn h0 hz
  clear h0 h1 hz
  go_enter Tryz.func57,Tryz.ntmps57
  go_wp2
  go_loopw [5,6] (fun uv bv wr=>∃ (u:Nat) (l:List UInt8),uv = .int .u64 u∧OwnsB wr w.heap.size 5 bv l∧Wire.Left n l u∧Below w.heap.size w wr) (fun uv _ _=>(intOf uv).toNat)
  case atStart=>exact ⟨z,[],rfl,OwnsB.nil _ _ _,HL.out,Below.refl _ _⟩
  case round =>
   obtain ⟨u,l,rfl,hO,hL,hB⟩:=hrel
   have HO:=kept hO; have HLu:=kept hL; have HB:=kept hB
   clear hO hL hB HL
   have hult:=left_lt HLu.out
   have hlen:=HLu.out.len
   by_cases hu:127 < u
   ·have hu':(127:Int) < u:=by omega
    obtain ⟨m,hm⟩:∃ m,u % 128=m:=⟨_,rfl⟩
    obtain ⟨y,hy⟩:∃ y,m+128=y:=⟨_,rfl⟩
    obtain ⟨q,hq⟩:∃ q,u / 128=q:=⟨_,rfl⟩
    have hm1:m < 128:=by omega
    have hb1:=low7 u m hm hult
    have hb2:(m:Int) % 256=m:=by omega
    have hb3:=high8 m hm1
    rw [hy] at hb3
    have Hq:=kept hq
    have HN:=kept (HLu.out.next hu)
    rw [hm,hy,hq] at HN
    have hy1:y < 256:=by omega
    have hsz:=HB.out.size
    have hqu:q < u:=by omega
    have Hlen:=kept hlen
    clear hm hy hq hm1 hult hlen HLu
    go_wp2_with (at_builtin; refine wpList_append_byte rfl _ _ 61 5 rfl Tryz.underlying61 info_u8 w.heap.size _ _ rfl (HO.out.below ((Below.refl _ _).alloc (Nat.le_refl _) _) (Nat.le_refl _)) (HB.out.alloc hsz _) ⟨wr.heap.size,0,none⟩ 1 (y:Int) rfl ?_ ?_ ?_ ?_ ?_ ?_)
    ·simp
    ·omega
    ·omega
    ·have:=Hlen.out; omega
    ·simp; omega
    ·intro v' w' hown' hbel' _
     have Ho':=kept hown'; have Hl':=kept hbel'
     clear hsz hown' hbel'
     go_wp2
     have hdq:(u:Int) / 128=(q:Int):=by have:=Hq.out; omega
     rw [hdq]
     exact ⟨⟨q,_,rfl,Ho'.out,HN.out,Hl'.out⟩,by simp [intOf]; omega⟩
   ·have hu':¬ (127:Int) < u:=by omega
    have hb2:(u:Int) % 256=u:=by omega
    have hsz:=HB.out.size
    have HN:=kept (HLu.out.last hu)
    have Hlen:=kept hlen
    clear hult hlen HLu
    go_wp2_with (at_builtin; refine wpList_append_byte rfl _ _ 61 5 rfl Tryz.underlying61 info_u8 w.heap.size _ _ rfl (HO.out.below ((Below.refl _ _).alloc (Nat.le_refl _) _) (Nat.le_refl _)) (HB.out.alloc hsz _) ⟨wr.heap.size,0,none⟩ 1 (u:Int) rfl ?_ ?_ ?_ ?_ ?_ ?_)
    ·omega
    ·have:=Hlen.out; omega
    ·omega
    ·intro v' w' hown' hbel' _
     rw [HN.out] at hown'
     have hc:=hown'.conv (P:=Tryz.prog) 61 9 Tryz.underlying61 Tryz.underlying5 Tryz.underlying9
     have hnl:=(Wire.encF_len 9 (Wire.zig n)).2
     have hcat:(Op.stringOp .add ⟨dst.toArray⟩ ⟨(Wire.num n).toArray⟩).run Tryz.prog w' = .ok (.string ⟨(dst++Wire.num n).toArray⟩) w':=run_cat w' rfl rfl (by show dst.length+(Wire.encF 9 (Wire.zig n)).length < _; omega)
     have Hl':=kept hbel'
     clear hsz hown' hbel' hnl
     go_wp2
     go_ret
     exact ⟨rfl,Hl'.out⟩
 ·have hs:IntKind.u64.wrap (IntKind.u64.wrap n*2)=(z:Int):=zig_pos n z hn h1 hz
  clear h0 h1 hz
  go_enter Tryz.func57,Tryz.ntmps57
  go_wp2
  go_loopw [5,6] (fun uv bv wr=>∃ (u:Nat) (l:List UInt8),uv = .int .u64 u∧OwnsB wr w.heap.size 5 bv l∧Wire.Left n l u∧Below w.heap.size w wr) (fun uv _ _=>(intOf uv).toNat)
  case atStart=>exact ⟨z,[],rfl,OwnsB.nil _ _ _,HL.out,Below.refl _ _⟩
  case round =>
   obtain ⟨u,l,rfl,hO,hL,hB⟩:=hrel
   have HO:=kept hO; have HLu:=kept hL; have HB:=kept hB
   clear hO hL hB HL
   have hult:=left_lt HLu.out
   have hlen:=HLu.out.len
   by_cases hu:127 < u
   ·have hu':(127:Int) < u:=by omega
    obtain ⟨m,hm⟩:∃ m,u % 128=m:=⟨_,rfl⟩
    obtain ⟨y,hy⟩:∃ y,m+128=y:=⟨_,rfl⟩
    obtain ⟨q,hq⟩:∃ q,u / 128=q:=⟨_,rfl⟩
    have hm1:m < 128:=by omega
    have hb1:=low7 u m hm hult
    have hb2:(m:Int) % 256=m:=by omega
    have hb3:=high8 m hm1
    rw [hy] at hb3
    have Hq:=kept hq
    have HN:=kept (HLu.out.next hu)
    rw [hm,hy,hq] at HN
    have hy1:y < 256:=by omega
    have hsz:=HB.out.size
    have hqu:q < u:=by omega
    have Hlen:=kept hlen
    clear hm hy hq hm1 hult hlen HLu
    go_wp2_with (at_builtin; refine wpList_append_byte rfl _ _ 61 5 rfl Tryz.underlying61 info_u8 w.heap.size _ _ rfl (HO.out.below ((Below.refl _ _).alloc (Nat.le_refl _) _) (Nat.le_refl _)) (HB.out.alloc hsz _) ⟨wr.heap.size,0,none⟩ 1 (y:Int) rfl ?_ ?_ ?_ ?_ ?_ ?_)
    ·simp
    ·omega
    ·omega
    ·have:=Hlen.out; omega
    ·simp; omega
    ·intro v' w' hown' hbel' _
     have Ho':=kept hown'; have Hl':=kept hbel'
     clear hsz hown' hbel'
     go_wp2
     have hdq:(u:Int) / 128=(q:Int):=by have:=Hq.out; omega
     rw [hdq]
     exact ⟨⟨q,_,rfl,Ho'.out,HN.out,Hl'.out⟩,by simp [intOf]; omega⟩
   ·have hu':¬ (127:Int) < u:=by omega
    have hb2:(u:Int) % 256=u:=by omega
    have hsz:=HB.out.size
    have HN:=kept (HLu.out.last hu)
    have Hlen:=kept hlen
    clear hult hlen HLu
    go_wp2_with (at_builtin; refine wpList_append_byte rfl _ _ 61 5 rfl Tryz.underlying61 info_u8 w.heap.size _ _ rfl (HO.out.below ((Below.refl _ _).alloc (Nat.le_refl _) _) (Nat.le_refl _)) (HB.out.alloc hsz _) ⟨wr.heap.size,0,none⟩ 1 (u:Int) rfl ?_ ?_ ?_ ?_ ?_ ?_)
    ·omega
    ·have:=Hlen.out; omega
    ·omega
    ·intro v' w' hown' hbel' _
     rw [HN.out] at hown'
     have hc:=hown'.conv (P:=Tryz.prog) 61 9 Tryz.underlying61 Tryz.underlying5 Tryz.underlying9
     have hnl:=(Wire.encF_len 9 (Wire.zig n)).2
     have hcat:(Op.stringOp .add ⟨dst.toArray⟩ ⟨(Wire.num n).toArray⟩).run Tryz.prog w' = .ok (.string ⟨(dst++Wire.num n).toArray⟩) w':=run_cat w' rfl rfl (by show dst.length+(Wire.encF 9 (Wire.zig n)).length < _; omega)
     have Hl':=kept hbel'
     clear hsz hown' hbel' hnl
     go_wp2
     go_ret
     exact ⟨rfl,Hl'.out⟩
def Rdr (w:World) (g:Nat) (r:Wire.St):Prop:=Tri w g 164 (.string ⟨r.rest.toArray⟩) (.int .i64 r.e) (.bool true)
namespace Wire
end Wire
namespace Rdr
variable {w w':World} {g:Nat} {r:Wire.St}
theorem below (h:Rdr w g r) (hb:Below w.heap.size w w'):Rdr w' g r:=Tri.below h hb
theorem lt (h:Rdr w g r):g < w.heap.size:=Tri.lt h
theorem fail (h:Rdr w g r) (e:Int):Rdr (w.setCell ⟨g,1,none⟩ (.int .i64 e)) g ⟨r.rest,e⟩:=Tri.set1 h _
theorem put (h:Rdr w g r) (l:List UInt8):Rdr (w.setCell ⟨g,0,none⟩ (.string ⟨l.toArray⟩)) g ⟨l,r.e⟩:=Tri.set0 h _
end Rdr
namespace Wire
end Wire
end Go.Proofs.YtahmpiioegemaaaGreatDoor

namespace Go.Proofs.YtahmpiioegemaaaGreatDoor
open Go.RowKit
theorem wrap_u64_in (n:Int) (h0:0≤n) (h1:n < 18446744073709551616):IntKind.u64.wrap n=n:=by rw [wrap_u64']; omega
theorem refZig_any (n:Int) (w:World) (h0:-9223372036854775808≤n) (h1:n≤9223372036854775807) :
  Calls Tryz.prog 106 #[.int .i64 n] w fun e w'=>e = .returned (.int .u64 (Wire.zig n:Nat))∧w=w':=by
 by_cases hn:n < 0
 ·have e0:IntKind.i64.wrap (n+1)=n+1:=IntWalk.i64_in _ (by omega)
  have e1:IntKind.i64.wrap (-(n+1))=-(n+1):=IntWalk.i64_in _ (by omega)
  have e2:IntKind.u64.wrap (-(n+1))=-(n+1):=wrap_u64_in _ (by omega) (by omega)
  have e3:IntKind.u64.wrap (2*-(n+1))=2*-(n+1):=wrap_u64_in _ (by omega) (by omega)
  have e4:IntKind.u64.wrap (2*-(n+1)+1)=2*-(n+1)+1:=wrap_u64_in _ (by omega) (by omega)
  have hz:((Wire.zig n:Nat):Int)=2*-(n+1)+1:=by unfold Wire.zig; rw [if_pos hn]; omega
  obtain ⟨z,hzz⟩:∃ z,Wire.zig n=z:=⟨_,rfl⟩
  rw [hzz] at hz ⊢
  have Hz:=kept hz
  clear hz hzz
  go_enter Tryz.func106,Tryz.ntmps106
  go_wp2
  go_ret
  exact ⟨ret_int (by have:=Hz.out; omega),rfl⟩
 ·have e2:IntKind.u64.wrap n=n:=wrap_u64_in _ (by omega) (by omega)
  have e3:IntKind.u64.wrap (2*n)=2*n:=wrap_u64_in _ (by omega) (by omega)
  have hz:((Wire.zig n:Nat):Int)=2*n:=by unfold Wire.zig; rw [if_neg hn]; omega
  obtain ⟨z,hzz⟩:∃ z,Wire.zig n=z:=⟨_,rfl⟩
  rw [hzz] at hz ⊢
  have Hz:=kept hz
  clear hz hzz
  go_enter Tryz.func106,Tryz.ntmps106
  go_wp2
  go_ret
  exact ⟨ret_int (by have:=Hz.out; omega),rfl⟩
theorem conv_one (w:World) (y:Int) (h0:0≤y) (h1:y < 256) :
  (convert 61 9 (.slice (some ⟨w.heap.size,0,none⟩) 1 1)).run Tryz.prog (w.alloc (.cells #[.int .u8 y] 5)) = .ok (.string ⟨#[UInt8.ofNat y.toNat]⟩) (w.alloc (.cells #[.int .u8 y] 5)):=by
 have h:=BytesAt.lit w 5 [UInt8.ofNat y.toNat]
 have e:(bcells [UInt8.ofNat y.toNat]).toArray=#[.int .u8 y]:=by simp only [bcells,List.map,byte_of y h0 h1]
 rw [e] at h
 exact h.conv_of (P:=Tryz.prog) 61 9 1 1 rfl Tryz.underlying61 Tryz.underlying5 Tryz.underlying9
set_option maxRecDepth 100000 in
theorem refAppendNumber_any (dst:List UInt8) (n:Int) (w:World) (hd:dst.length≤1000000000) (h0:-9223372036854775808≤n) (h1:n≤9223372036854775807) :
  Calls Tryz.prog 70 #[.string ⟨dst.toArray⟩,.int .i64 n] w fun e w'=>e = .returned (.string ⟨(dst++Wire.num n).toArray⟩)∧Below w.heap.size w w':=by
 have Hzg:=kept (fun w=>refZig_any n w h0 h1)
 obtain ⟨z,hz⟩:∃ z,Wire.zig n=z:=⟨_,rfl⟩
 have hL:=Wire.Left.first n h0 h1
 rw [hz] at hL Hzg
 have HL:=kept hL
 clear hL
 go_enter Tryz.func70,Tryz.ntmps70
 go_wp2_with fail
 (with_reducible refine (Hzg.out _).mono ?_); rintro e w1 ⟨rfl,rfl⟩
 go_wp2
 go_loopw [5,0] (fun uv dv wr=>∃ (u:Nat) (l:List UInt8),uv = .int .u64 u∧dv = .string ⟨(dst++l).toArray⟩∧Wire.Left n l u∧Below w.heap.size w wr) (fun uv _ _=>(intOf uv).toNat)
 case atStart=>exact ⟨z,[],rfl,by simp,HL.out,Below.refl _ _⟩
 case round =>
  obtain ⟨u,l,rfl,rfl,hL,hB⟩:=hrel
  have HLu:=kept hL; have HB:=kept hB
  clear hL hB HL
  have hult:=left_lt HLu.out
  have hlen:=HLu.out.len
  by_cases hu:127 < u
  ·have hu':(128:Int)≤u:=by omega
   obtain ⟨m,hm⟩:∃ m,u % 128=m:=⟨_,rfl⟩
   obtain ⟨y,hy⟩:∃ y,m+128=y:=⟨_,rfl⟩
   obtain ⟨q,hq⟩:∃ q,u / 128=q:=⟨_,rfl⟩
   have hb1:(u:Int) % 128=(m:Int):=by omega
   have HN:=kept (HLu.out.next hu)
   rw [hm,hy,hq] at HN
   have hsz:=HB.out.size
   have hqu:q < u:=by omega
   have hy1:(m:Int)+128=(y:Int):=by omega
   have hcv:=fun w=>conv_one w y (by omega) (by omega)
   rw [show UInt8.ofNat ((y:Int).toNat)=UInt8.ofNat y by simp] at hcv
   have hcat:∀ w:World,(Op.stringOp .add ⟨(dst++l).toArray⟩ ⟨#[UInt8.ofNat y]⟩).run Tryz.prog w = .ok (.string ⟨((dst++l)++[UInt8.ofNat y]).toArray⟩) w:=fun w=>run_cat w (m:=[UInt8.ofNat y]) rfl rfl (by simp; omega)
   have hdq:IntKind.u64.wrap ((u:Int) / 128)=(q:Int):=by rw [wrap_u64']; omega
   have HBn:=kept (HB.out.alloc hsz (.cells #[.int .u8 y] 5))
   have Hqu:=kept hqu
   clear hm hy hq hult hlen
   go_wp2
   exact ⟨⟨q,_,rfl,rfl,HN.out,HBn.out⟩,by simp [intOf]; have:=Hqu.out; omega⟩
  ·have hu':¬ (128:Int)≤u:=by omega
   have hb1:(u:Int) % 256=(u:Int):=by omega
   have HN:=kept (HLu.out.last hu)
   have hsz:=HB.out.size
   have hcv:=fun w=>conv_one w u (by omega) (by omega)
   rw [show UInt8.ofNat ((u:Int).toNat)=UInt8.ofNat u by simp] at hcv
   have hcat:∀ w:World,(Op.stringOp .add ⟨(dst++l).toArray⟩ ⟨#[UInt8.ofNat u]⟩).run Tryz.prog w = .ok (.string ⟨((dst++l)++[UInt8.ofNat u]).toArray⟩) w:=fun w=>run_cat w (m:=[UInt8.ofNat u]) rfl rfl (by simp; omega)
   have HBn:=kept (HB.out.alloc hsz (.cells #[.int .u8 u] 5))
   clear hult hlen
   go_wp2
   go_ret
   exact ⟨by show Ending.returned (.string ⟨(dst++(l++[UInt8.ofNat u])).toArray⟩)=_; rw [HN.out],HBn.out⟩
def Duo' (w:World) (g:Nat) (T:TypeId) (a b:Value):Prop:=w.heap[g]?=some (.cells #[a,b] T (0,0))
namespace Duo'
variable {w w':World} {g:Nat} {T:TypeId} {a b:Value}
theorem lt (h:Duo' w g T a b):g < w.heap.size:=(Array.getElem?_eq_some_iff.1 h).1
theorem below (h:Duo' w g T a b) (hb:Below w.heap.size w w'):Duo' w' g T a b:=(hb.block g h.lt).trans h
theorem fresh (w:World) (T:TypeId) (a b:Value):Duo' (w.alloc (.cells #[a,b] T)) w.heap.size T a b:=heap_alloc_new w _
end Duo'
theorem Duo'.set (w:World) (g:Nat) (T:TypeId) (a b x y:Value) (h:Duo' w g T a b):Duo' ((w.setCell ⟨g,0,none⟩ x).setCell ⟨g,1,none⟩ y) g T x y:=by
 unfold Duo' World.setCell at *
 rw [Array.getElem?_modify,if_pos rfl,Array.getElem?_modify,if_pos rfl,h]; rfl
end Go.Proofs.YtahmpiioegemaaaGreatDoor

namespace Go.Proofs.YtahmpiioegemaaaGreatDoor
open Go.RowKit
namespace Wire
end Wire
namespace Wire
end Wire
end Go.Proofs.YtahmpiioegemaaaGreatDoor

namespace Go.Proofs.YtahmpiioegemaaaGreatDoor
namespace Val
open Wire
theorem num_len (n:Int):1≤(num n).length:=(encF_len 9 _).1
theorem shaped_of {k n:Int} {s:List UInt8} {is:List V} {ks:List (List UInt8)} (h:nodeZ (.mk k n s is ks)=0) :
  shapedB k n s is.length ks.length=true∧(k=2→-9007199254740992≤n∧n≤9007199254740992)∧textZ s=0∧keysZ none ks=0:=by
 rw [nodeZ] at h
 split at h
 ·omega
 ·next h1 =>
  split at h
  ·omega
  ·next h2 =>
   split at h
   ·next h3=>exact absurd h h3
   ·next h3=>exact ⟨by simpa using h1,fun hk=>Decidable.byContradiction fun hn=>h2 ⟨hk,hn⟩,by omega,h⟩
theorem text_len {s:List UInt8} (h:textZ s=0):s.length≤4096:=by
 unfold textZ at h
 split at h <;> omega
theorem keys_len:∀ (ks:List (List UInt8)) (p:Option (List UInt8)),keysZ p ks=0→∀ k∈ks,k.length≤4096
 | [],p,h,k,hk=>by simp at hk
 | q::ks,p,h,k,hk=>by
  rw [keysZ] at h
  split at h
  ·next h1=>exact absurd h h1
  ·next h1 =>
   have h2:textZ q=0:=by omega
   have h3:keysZ (some q) ks=0:=by
    split at h
    ·omega
    ·exact h
   rcases List.mem_cons.1 hk with rfl | hk
   ·exact text_len h2
   ·exact keys_len ks (some q) h3 k hk
mutual
def eqB:V→V→Bool
 | .mk k n s is ks,.mk k' n' s' is' ks'=>k == k'&&n == n'&&s == s'&&ks == ks'&&eqBs is is'
def eqBs:List V→List V→Bool
 | [],[]=>true
 | v::l,v'::l'=>eqB v v'&&eqBs l l'
 | _,_=>false
end
end Val
end Go.Proofs.YtahmpiioegemaaaGreatDoor

namespace Go.Proofs.YtahmpiioegemaaaGreatDoor
namespace Val
theorem encs_take (m:Bool):∀ (is:List V) (ks:List (List UInt8)) (i:Nat) (h:i < is.length),
  encs m (is.take (i+1)) ks=encs m (is.take i) ks++(keyE m (ks.drop i)++enc is[i])
 | v::l,ks,0,h=>by simp [encs]
 | v::l,ks,i+1,h=>by
  have ih:=encs_take m l ks.tail i (by simpa using h)
  rw [List.take_succ_cons,encs,ih,List.take_succ_cons,encs]
  have e:ks.tail.drop i=ks.drop (i+1):=by rw [←List.drop_one,List.drop_drop,Nat.add_comm]
  rw [e]
  simp
theorem chks_get:∀ (l:List V) (lv b:Nat),(chks l lv b).1=0→∀ i (h:i < l.length),∃ b',(chk l[i] lv b').1=0
 | v::l,lv,b,h,0,hi=>by
  rw [chks] at h
  split at h
  ·next h1=>exact absurd h h1
  ·next h1=>exact ⟨b,by simpa using h1⟩
 | v::l,lv,b,h,i+1,hi=>by
  rw [chks] at h
  split at h
  ·next h1=>exact absurd h h1
  ·next h1=>simpa using chks_get l lv _ h i (by simpa using hi)
theorem chk_parts {k n:Int} {s:List UInt8} {is:List V} {ks:List (List UInt8)} {lv b:Nat} (h:(chk (.mk k n s is ks) lv b).1=0) :
  lv≤32∧b < 4096∧nodeZ (.mk k n s is ks)=0∧(chks is (lv+1) (b+1)).1=0:=by
 rw [chk] at h
 split at h
 ·simp at h
 next h1 =>
 split at h
 ·simp at h
 next h2 =>
 split at h
 ·next h3=>exact absurd h h3
 next h3=>exact ⟨by omega,by omega,by omega,h⟩
set_option maxRecDepth 100000
end Val
end Go.Proofs.YtahmpiioegemaaaGreatDoor

namespace Go.Proofs.YtahmpiioegemaaaGreatDoor
open Go.RowKit Go.ChangeShapes Go.WideShapes
mutual
theorem D.induct {P:D→Prop} (hi:∀ k n,P (.int k n)) (hs:∀ l,P (.str l)) (hb:∀ b,P (.bool b)) (ha:∀ l,(∀ d∈l,P d)→P (.agg l)) (hsl:∀ W l,(∀ d∈l,P d)→P (.sl W l)):∀ d:D,P d
 | .int k n=>hi k n
 | .str l=>hs l
 | .bool b=>hb b
 | .agg l=>ha l (D.inducts hi hs hb ha hsl l)
 | .sl W l=>hsl W l (D.inducts hi hs hb ha hsl l)
theorem D.inducts {P:D→Prop} (hi:∀ k n,P (.int k n)) (hs:∀ l,P (.str l)) (hb:∀ b,P (.bool b)) (ha:∀ l,(∀ d∈l,P d)→P (.agg l)) (hsl:∀ W l,(∀ d∈l,P d)→P (.sl W l)):∀ l:List D,∀ d∈l,P d
 | []=>by simp
 | d::l=>List.forall_mem_cons.2 ⟨D.induct hi hs hb ha hsl d,D.inducts hi hs hb ha hsl l⟩
end
mutual
def V.Wf:V→Prop
 | .mk k n s is ks=>((Lit.int .i64 k).wf=true∧(Lit.int .i64 n).wf=true∧s.length≤maxLen∧is.length≤maxLen∧ks.length≤maxLen∧∀ q∈ks,q.length≤maxLen)∧V.Wfs is
def V.Wfs:List V→Prop
 | []=>True
 | v::l=>v.Wf∧V.Wfs l
end
theorem V.wfs_of:∀ l:List V,(∀ v∈l,v.Wf)→V.Wfs l
 | [],_=>by unfold V.Wfs; trivial
 | v::l,h=>by unfold V.Wfs; exact ⟨h v (by simp),V.wfs_of l fun x hx=>h x (by simp [hx])⟩
section
variable {P:Program}
theorem conf_int {d:D} {t:TypeId} {k:IntKind} (hu:P.underlying t=some (.int k)) (h:Conf P d t):∃ n,d = .int k n∧(Lit.int k n).wf=true:=by
 cases d <;> unfold Conf at h <;> first
  | (obtain ⟨h1,h2⟩:=h; rw [hu] at h1; injection h1 with h1; injection h1 with h1; subst h1; exact ⟨_,rfl,h2⟩)
  | (obtain ⟨h1,h2⟩:=h; rw [hu] at h1; cases h1)
  | (obtain ⟨_,h1,_⟩:=h; rw [hu] at h1; cases h1)
  | (rw [hu] at h; cases h; done)
theorem conf_str {d:D} {t:TypeId} (hu:P.underlying t=some .string) (h:Conf P d t):∃ l,d = .str l∧l.length≤maxLen:=by
 cases d <;> unfold Conf at h <;> first
  | exact ⟨_,rfl,h.2⟩
  | (obtain ⟨h1,h2⟩:=h; rw [hu] at h1; cases h1)
  | (obtain ⟨_,h1,_⟩:=h; rw [hu] at h1; cases h1)
  | (rw [hu] at h; cases h; done)
theorem conf_bool {d:D} {t:TypeId} (hu:P.underlying t=some .bool) (h:Conf P d t):∃ b,d = .bool b:=by
 cases d <;> unfold Conf at h <;> first
  | exact ⟨_,rfl⟩
  | (obtain ⟨h1,h2⟩:=h; rw [hu] at h1; cases h1)
  | (obtain ⟨_,h1,_⟩:=h; rw [hu] at h1; cases h1)
theorem conf_struct {d:D} {t:TypeId} {fs:Array Field} (hu:P.underlying t=some (.struct fs)) (h:Conf P d t):∃ l,d = .agg l∧ConfL P l (fs.toList.map (·.type)):=by
 cases d <;> unfold Conf at h <;> first
  | (obtain ⟨fs',h1,h2⟩:=h; rw [hu] at h1; injection h1 with h1; injection h1 with h1; subst h1; exact ⟨_,rfl,h2⟩)
  | (obtain ⟨h1,h2⟩:=h; rw [hu] at h1; cases h1)
  | (obtain ⟨_,h1,_⟩:=h; rw [hu] at h1; cases h1)
  | (rw [hu] at h; cases h; done)
theorem conf_slice {d:D} {t e:TypeId} (hu:P.underlying t=some (.slice e)) (h:Conf P d t):∃ l,d = .sl (P.cellsOf e) l∧ConfA P l e∧l.length≤maxLen:=by
 cases d <;> unfold Conf at h <;> first
  | (obtain ⟨e',h1,h2,h3⟩:=h; rw [hu] at h1; injection h1 with h1; injection h1 with h1; subst h1; subst h2; exact ⟨_,rfl,h3⟩)
  | (obtain ⟨h1,h2⟩:=h; rw [hu] at h1; cases h1)
  | (obtain ⟨_,h1,_⟩:=h; rw [hu] at h1; cases h1)
  | (rw [hu] at h; cases h; done)
theorem confL_cons {l:List D} {t:TypeId} {ts:List TypeId} (h:ConfL P l (t::ts)):∃ d l',l=d::l'∧Conf P d t∧ConfL P l' ts:=by
 cases l with
 | nil=>unfold ConfL at h; cases h
 | cons d l =>
  unfold ConfL at h
  obtain ⟨t',ts',h1,h2,h3⟩:=h
  injection h1 with h1 h4
  subst h1; subst h4
  exact ⟨d,l,rfl,h2,h3⟩
theorem confL_nil {l:List D} (h:ConfL P l []):l=[]:=by
 cases l with
 | nil=>rfl
 | cons d l=>unfold ConfL at h; obtain ⟨_,_,h1,_⟩:=h; cases h1
theorem confA_mem:∀ {l:List D} {t:TypeId},ConfA P l t→∀ d∈l,Conf P d t
 | [],t,h=>by simp
 | d::l,t,h=>by
  unfold ConfA at h
  exact List.forall_mem_cons.2 ⟨h.1,confA_mem h.2⟩
theorem conf_strs {t:TypeId} (hu:P.underlying t=some .string):∀ l:List D,ConfA P l t→∃ ks:List (List UInt8),l=ks.map .str∧∀ q∈ks,q.length≤maxLen
 | [],h=>⟨[],rfl,by simp⟩
 | d::l,h=>by
  unfold ConfA at h
  obtain ⟨s,rfl,hs⟩:=conf_str hu h.1
  obtain ⟨ks,rfl,hk⟩:=conf_strs hu l h.2
  exact ⟨s::ks,rfl,List.forall_mem_cons.2 ⟨hs,hk⟩⟩
end
theorem list_of:∀ l:List D,(∀ d∈l,∃ v:V,d=v.toD∧v.Wf)→∃ vs:List V,l=V.toDs vs∧∀ v∈vs,v.Wf
 | [],h=>⟨[],rfl,by simp⟩
 | d::l,h=>by
  obtain ⟨v,rfl,hv⟩:=h d (by simp)
  obtain ⟨vs,rfl,hvs⟩:=list_of l fun d hd=>h d (by simp [hd])
  exact ⟨v::vs,rfl,List.forall_mem_cons.2 ⟨hv,hvs⟩⟩
theorem conf_val_both (d:D):(Conf Tryz.prog d 34→∃ v:V,d=v.toD∧v.Wf)∧(Conf Tryz.prog d 31→∃ vs:List V,d = .sl 5 (V.toDs vs)∧(∀ v∈vs,v.Wf)∧vs.length≤maxLen):=by
 have hst:∀ d,(∀ l,d≠D.agg l)→¬ Conf Tryz.prog d 34:=fun d hd h=>by
  obtain ⟨l,h1,_⟩:=conf_struct Tryz.underlying34 h
  exact hd l h1
 have hsl:∀ d,(∀ W l,d≠D.sl W l)→¬ Conf Tryz.prog d 31:=fun d hd h=>by
  obtain ⟨l,h1,_⟩:=conf_slice Tryz.underlying31 h
  exact hd _ l h1
 refine D.induct (P:=fun d=>(Conf Tryz.prog d 34→∃ v:V,d=v.toD∧v.Wf)∧(Conf Tryz.prog d 31→∃ vs:List V,d = .sl 5 (V.toDs vs)∧(∀ v∈vs,v.Wf)∧vs.length≤maxLen)) ?_ ?_ ?_ ?_ ?_ d
 ·exact fun k n=>⟨fun h=>absurd h (hst _ fun l=>by simp),fun h=>absurd h (hsl _ fun W l=>by simp)⟩
 ·exact fun l=>⟨fun h=>absurd h (hst _ fun l=>by simp),fun h=>absurd h (hsl _ fun W l=>by simp)⟩
 ·exact fun b=>⟨fun h=>absurd h (hst _ fun l=>by simp),fun h=>absurd h (hsl _ fun W l=>by simp)⟩
 ·intro l ih
  refine ⟨fun h=>?_,fun h=>absurd h (hsl _ fun W l=>by simp)⟩
  obtain ⟨l',h1,h2⟩:=conf_struct Tryz.underlying34 h
  injection h1 with h1
  subst h1
  obtain ⟨d0,l1,rfl,c0,h2⟩:=confL_cons h2
  obtain ⟨d1,l2,rfl,c1,h2⟩:=confL_cons h2
  obtain ⟨d2,l3,rfl,c2,h2⟩:=confL_cons h2
  obtain ⟨d3,l4,rfl,c3,h2⟩:=confL_cons h2
  obtain ⟨d4,l5,rfl,c4,h2⟩:=confL_cons h2
  obtain rfl:=confL_nil h2
  obtain ⟨k,rfl,hk⟩:=conf_int (k:=.i64) Tryz.underlying30 c0
  obtain ⟨n,rfl,hn⟩:=conf_int (k:=.i64) Tryz.underlying3 c1
  obtain ⟨s,rfl,hs⟩:=conf_str Tryz.underlying9 c2
  obtain ⟨vs,rfl,hvs,hvl⟩:=(ih d3 (by simp)).2 c3
  obtain ⟨l4,rfl,c5,hl4⟩:=conf_slice Tryz.underlying32 c4
  obtain ⟨ks,rfl,hks⟩:=conf_strs Tryz.underlying9 l4 c5
  have hw:Tryz.prog.cellsOf 9=1:=by kernel_rfl
  rw [hw]
  refine ⟨.mk k n s vs ks,rfl,?_⟩
  unfold V.Wf
  exact ⟨⟨hk,hn,hs,hvl,by simpa using hl4,hks⟩,V.wfs_of vs hvs⟩
 ·intro W l ih
  refine ⟨fun h=>absurd h (hst _ fun l=>by simp),fun h=>?_⟩
  obtain ⟨l',h1,h2,h3⟩:=conf_slice Tryz.underlying31 h
  injection h1 with h0 h1
  subst h1
  have hw:Tryz.prog.cellsOf 34=5:=by kernel_rfl
  rw [hw] at h0
  subst h0
  obtain ⟨vs,rfl,hvs⟩:=list_of l fun d hd=>(ih d hd).1 (confA_mem h2 d hd)
  exact ⟨vs,rfl,hvs,by rw [V.toDs_map] at h3; simpa using h3⟩
theorem conf_val {d:D} (h:Conf Tryz.prog d 34):∃ v:V,d=v.toD∧v.Wf:=(conf_val_both d).1 h
end Go.Proofs.YtahmpiioegemaaaGreatDoor
