/- Part of what the proof needs. -/
import Derived.Test.YtnghhnahdjjpkaaGreatDoorMFrRecoveryReplaysUpto0
import Derived.Test.YtnghhnahdjjpkaaGreatDoorMFrRecoveryReplaysUptoA
import Derived.Lib.TrimUEq
import Derived.Lib.ValidLaws
import Derived.Lib.RuneCount
import Derived.Lib.QuoteLoop
import Derived.Laws.BitsAllLaws
import Derived.ChangeArms
import Derived.Deep.Slices
import Derived.Below
import Derived.Test.YtnghhnahdjjpkaaGreatDoorProg
import Derived.Deep.QuietTactic
import Derived.BigQuiet
import Derived.BigRegion
import Derived.IntWalk
import Derived.StillTailTactics
import Derived.KernelRfl
set_option maxHeartbeats 4000000
set_option maxRecDepth 100000
set_option linter.all false
namespace Go.Proofs.YtnghhnahdjjpkaaGreatDoor
section
namespace Str
open Go.Lib
def inB(s:ByteArray)(i:Nat)(lo hi:Int):Bool:=decide (∃h:i<s.size,lo≤(s[i].toNat:Int)∧(s[i].toNat:Int)≤hi)
def Bad(d:Nat×Nat):Prop:=d.1=65533∧d.2=1
instance (d:Nat×Nat):Decidable (Bad d):=by unfold Bad;infer_instance
def refDec(s:ByteArray)(i:Nat):Nat×Nat:=if i<s.size∧¬Bad (Utf8.decode s i)then Utf8.decode s i else(0,0)
theorem get_lt(s:ByteArray)(i:Nat)(h:i<s.size):(s.get! i).toNat=s[i].toNat:=by
 rw[show s.get! i=s[i] by simp[ByteArray.get!,h];rfl]
theorem inB_true{s:ByteArray}{i:Nat}{lo hi:Int}(h:inB s i lo hi=true):i<s.size∧lo≤((s.get! i).toNat:Int)∧((s.get! i).toNat:Int)≤hi:=by
 obtain⟨h1,h2,h3⟩:=of_decide_eq_true h;rw[get_lt s i h1];exact⟨h1,h2,h3⟩
theorem inB_false{s:ByteArray}{i:Nat}{lo hi:Int}(h:inB s i lo hi=false):¬(i<s.size∧lo≤((s.get! i).toNat:Int)∧((s.get! i).toNat:Int)≤hi):=by
 intro ⟨h1,h2,h3⟩;rw[get_lt s i h1]at h2 h3;exact of_decide_eq_false h ⟨h1,h2,h3⟩
theorem refDec_end(s:ByteArray)(i:Nat)(h:¬i<s.size):refDec s i=(0,0):=by unfold refDec;rw[if_neg (fun hh=>h hh.1)]
theorem refDec_good(s:ByteArray)(i c n:Nat)(h:i<s.size)(hd:Utf8.decode s i=(c,n))(hb:¬(c=65533∧n=1)):refDec s i=(c,n):=by
 unfold refDec;rw[hd,if_pos ⟨h,hb⟩]
theorem refDec_bad(s:ByteArray)(i:Nat)(hd:Utf8.decode s i=(65533,1)):refDec s i=(0,0):=by
 unfold refDec;rw[hd,if_neg (by simp[Bad])]
section
variable (s:ByteArray) (i:Nat) (hi:i<s.size)
include hi
theorem refDec_ascii(h:s[i].toNat<128):refDec s i=(s[i].toNat,1):=by
 refine refDec_good s i _ _ hi ?_ (by omega);rw[decode_at,get_lt s i hi];simp[decodeN,h]
theorem refDec_lead(h:(128≤s[i].toNat∧s[i].toNat<194)∨245≤s[i].toNat):refDec s i=(0,0):=by
 refine refDec_bad s i ?_;rw[decode_at];have hb:=s[i].toNat_lt;exact decodeN_bad _ _ _ _ _ (by rw[get_lt s i hi];omega)
theorem refDec_two(h1:194≤s[i].toNat)(h2:s[i].toNat≤223)(hc:inB s (i+1) 128 191=true):
  refDec s i=(s[i].toNat%32*64+(s.get! (i+1)).toNat%64,2):=by
 obtain⟨c1,c2,c3⟩:=inB_true hc;refine refDec_good s i _ _ hi ?_ (by omega);rw[decode_at,get_lt s i hi];unfold decodeN;rw[if_neg (by omega),if_pos (by omega),if_pos (by omega)]
theorem refDec_two_no(h1:194≤s[i].toNat)(h2:s[i].toNat≤223)(hc:inB s (i+1) 128 191=false):refDec s i=(0,0):=by
 have c1:=inB_false hc;refine refDec_bad s i ?_;rw[decode_at,get_lt s i hi];have hb:=(s.get! (i+1)).toNat_lt;unfold decodeN;rw[if_neg (by omega),if_neg (by omega),if_neg (by omega),if_neg (by omega)]
theorem refDec_three(lo hh:Int)(h1:224≤s[i].toNat)(h2:s[i].toNat≤239)(hlo:lo=if s[i].toNat=224 then 160 else 128)(hhi:hh=if s[i].toNat=237 then 159 else 191)
  (hc:inB s (i+1) lo hh=true) (hd:inB s (i+2) 128 191=true):
  refDec s i=(s[i].toNat%16*4096+(s.get! (i+1)).toNat%64*64+(s.get! (i+2)).toNat%64,3):=by
 obtain⟨c1,c2,c3⟩:=inB_true hc;obtain⟨d1,d2,d3⟩:=inB_true hd;refine refDec_good s i _ _ hi ?_ (by omega);rw[decode_at,get_lt s i hi];unfold decodeN;rw[if_neg (by omega),if_neg (by omega),if_pos (by split at hlo<;>split at hhi<;>omega),if_pos (by split at hlo<;>split at hhi<;>omega)]
theorem refDec_three_no(lo hh:Int)(h1:224≤s[i].toNat)(h2:s[i].toNat≤239)(hlo:lo=if s[i].toNat=224 then 160 else 128)(hhi:hh=if s[i].toNat=237 then 159 else 191)
  (hc:inB s (i+1) lo hh=false∨inB s (i+2) 128 191=false):refDec s i=(0,0):=by
 refine refDec_bad s i ?_;rw[decode_at,get_lt s i hi];have hb:=(s.get! (i+1)).toNat_lt;have hb2:=(s.get! (i+2)).toNat_lt;unfold decodeN;rw[if_neg (by omega),if_neg (by omega)];rcases hc with hc|hc
 ·have c1:=inB_false hc;split
  ·rw[if_neg (by split at hlo<;>split at hhi<;>omega)]
  ·rw[if_neg (by omega)]
 ·have c1:=inB_false hc;rw[if_neg (by omega),if_neg (by omega)]
theorem refDec_four(lo hh:Int)(h1:240≤s[i].toNat)(h2:s[i].toNat≤244)(hlo:lo=if s[i].toNat=240 then 144 else 128)(hhi:hh=if s[i].toNat=244 then 143 else 191)
  (hc:inB s (i+1) lo hh=true) (hd:inB s (i+2) 128 191=true) (he:inB s (i+3) 128 191=true):
  refDec s i=(s[i].toNat%8*262144+(s.get! (i+1)).toNat%64*4096+(s.get! (i+2)).toNat%64*64+(s.get! (i+3)).toNat%64,4):=by
 obtain⟨c1,c2,c3⟩:=inB_true hc;obtain⟨d1,d2,d3⟩:=inB_true hd;obtain⟨e1,e2,e3⟩:=inB_true he;refine refDec_good s i _ _ hi ?_ (by omega);rw[decode_at,get_lt s i hi];unfold decodeN;rw[if_neg (by omega),if_neg (by omega),if_neg (by omega),if_pos (by split at hlo<;>split at hhi<;>omega),if_pos (by split at hlo<;>split at hhi<;>omega)]
theorem refDec_four_no(lo hh:Int)(h1:240≤s[i].toNat)(h2:s[i].toNat≤244)(hlo:lo=if s[i].toNat=240 then 144 else 128)(hhi:hh=if s[i].toNat=244 then 143 else 191)
  (hc:inB s (i+1) lo hh=false∨inB s (i+2) 128 191=false∨inB s (i+3) 128 191=false):refDec s i=(0,0):=by
 refine refDec_bad s i ?_;rw[decode_at,get_lt s i hi];have hb:=(s.get! (i+1)).toNat_lt;have hb2:=(s.get! (i+2)).toNat_lt;have hb3:=(s.get! (i+3)).toNat_lt;unfold decodeN;rw[if_neg (by omega),if_neg (by omega),if_neg (by omega)];rcases hc with hc|hc|hc
 ·have c1:=inB_false hc;split
  ·rw[if_neg (by split at hlo<;>split at hhi<;>omega)]
  ·rfl
 ·have c1:=inB_false hc;rw[if_neg (by omega)]
 ·have c1:=inB_false hc;rw[if_neg (by omega)]
end
end Str
end
section
namespace Str
open Go.Lib
def hd(d:Nat):UInt8:=[48,49,50,51,52,53,54,55,56,57,97,98,99,100,101,102].getD d 0
def hexL(c:Nat):List UInt8:=if c<16 then[hd c]else[hd (c/16),hd (c%16)]
theorem hexL_length(c:Nat):1≤(hexL c).length∧(hexL c).length≤2:=by unfold hexL;split<;>simp
def esc(b:UInt8):List UInt8:=
 if b=10 then[92,110]else if b=13 then[92,114]else if b=9 then[92,116]else if b=34 then[92,34]else if b=92 then[92,92]
 else if b<32∨b=127 then[92,117,123]++hexL b.toNat++[125]else[b]
theorem esc_length(b:UInt8):1≤(esc b).length∧(esc b).length≤6:=by
 have:=hexL_length b.toNat;unfold esc
 repeat' split
 all_goals simp
 omega
def quote(l:List UInt8):List UInt8:=34::(l.flatMap esc++[34])
theorem flatMap_esc_length(l:List UInt8):l.length≤(l.flatMap esc).length∧(l.flatMap esc).length≤6*l.length:=by
 induction l with
 |nil=>simp
 |cons b l ih=>
  have:=esc_length b;simp only[Zag,Zb,Zi];omega
def valid(l:List UInt8):Bool:=decide (l.length≤4096)&&validD l
theorem decL(s:ByteArray)(k:Nat):decodeL (s.data.toList.drop k)=Utf8.decode s k:=decodeL_drop s k
theorem dec_width(s:ByteArray)(k:Nat)(h:k<s.size):1≤(Utf8.decode s k).2∧k+(Utf8.decode s k).2≤s.size:=by
 refine⟨decode_width_pos s k h,?_⟩;have h1:=decodeL_le (s.data.toList.drop k) (by intro h2;have:=congrArg List.length h2;simp at this;omega);rw[decL]at h1;simp at h1;omega
theorem valid_at(s:ByteArray)(k:Nat)(h:k<s.size):validD (s.data.toList.drop k)=if Bad (Utf8.decode s k)then false else validD (s.data.toList.drop (k+(Utf8.decode s k).2)):=by
 rw[validD_step _ (by intro h2;have:=congrArg List.length h2;simp at this;omega),decL,YI];rfl
theorem refDec_cases(s:ByteArray)(k:Nat)(h:k<s.size):
  (Bad (Utf8.decode s k)∧refDec s k=(0,0))∨(¬Bad (Utf8.decode s k)∧refDec s k=Utf8.decode s k):=by
 by_cases hb:Bad (Utf8.decode s k)
 ·exact .inl ⟨hb,by unfold refDec;rw[if_neg (fun hh=>hh.2 hb)]⟩
 ·exact .inr ⟨hb,by unfold refDec;rw[if_pos ⟨h,hb⟩]⟩
end Str
end
section
open Go.RowKit

end
section
open Go.RowKit Go.ChangeShapes Go.WideShapes Go.Deep
inductive D where
 |int (k:IntKind) (n:Int)
 |str (l:List UInt8)
 |bool (b:Bool)
 |agg (l:List D)
 |sl (width:Nat) (l:List D)
mutual
def Rd(w:World)(S:Nat→Prop):D→List Value→Prop
 |.int k n,cs=>cs=[.int k n]
 |.str l,cs=>cs=[.string ⟨l.toArray⟩]
 |.bool b,cs=>cs=[.bool b]
 |.agg l,cs=>RdAgg w S l cs
 |.sl W l,cs=>∃a cap,cs=[.slice a l.length cap]∧l.length≤cap∧RdRow w S W l a 0
def RdAgg(w:World)(S:Nat→Prop):List D→List Value→Prop
 |[],cs=>cs=[]
 |d::l,cs=>∃c1 c2,cs=c1++c2∧Rd w S d c1∧RdAgg w S l c2
def RdRow(w:World)(S:Nat→Prop)(W:Nat):List D→Option Addr→Nat→Prop
 |[],_,_=>True
 |d::l,a,i=>(∃g off c,a=some ⟨g,off,none⟩∧S g∧c.length=W∧(∀j,j<W→w.cell? ⟨g,off+i*W+j,none⟩=c[j]?)∧Rd w S d c)∧RdRow w S W l a (i+1)
end
mutual
theorem Rd.frame{w w':World}{S S':Nat→Prop}(h:∀g,S g→w'.heap[g]?=w.heap[g]?∧S' g):∀(d:D) (cs:List Value),Rd w S d cs→Rd w' S' d cs
 |.int k n,cs,r=>by unfold Rd at r⊢;exact r
 |.str l,cs,r=>by unfold Rd at r⊢;exact r
 |.bool b,cs,r=>by unfold Rd at r⊢;exact r
 |.agg l,cs,r=>by unfold Rd at r⊢;exact RdAgg.frame h l cs r
 |.sl W l,cs,r=>by
  unfold Rd at r⊢;obtain⟨a,cap,h1,h2,h3⟩:=r;exact⟨a,cap,h1,h2,RdRow.frame h W l a 0 h3⟩
theorem RdAgg.frame{w w':World}{S S':Nat→Prop}(h:∀g,S g→w'.heap[g]?=w.heap[g]?∧S' g):∀(l:List D) (cs:List Value),RdAgg w S l cs→RdAgg w' S' l cs
 |[],cs,r=>by unfold RdAgg at r⊢;exact r
 |d::l,cs,r=>by
  unfold RdAgg at r⊢;obtain⟨c1,c2,h1,h2,h3⟩:=r;exact⟨c1,c2,h1,Rd.frame h d c1 h2,RdAgg.frame h l c2 h3⟩
theorem RdRow.frame{w w':World}{S S':Nat→Prop}(h:∀g,S g→w'.heap[g]?=w.heap[g]?∧S' g)(W:Nat):∀(l:List D) (a:Option Addr) (i:Nat),RdRow w S W l a i→RdRow w' S' W l a i
 |[],a,i,r=>by unfold RdRow;trivial
 |d::l,a,i,r=>by
  unfold RdRow at r⊢;obtain⟨⟨g,off,c,h1,h2,h3,h4,h5⟩,h6⟩:=r;refine⟨⟨g,off,c,h1,(h g h2).2,h3,fun j hj=>?_,Rd.frame h d c h5⟩,RdRow.frame h W l a (i+1) h6⟩;rw[←h4 j hj];simp only[World.cell?,(h g h2).1]
end
def Old(w:World)(g:Nat):Prop:=g<w.heap.size
theorem Rd.below{w w':World}{d:D}{cs:List Value}{B:Nat}{S:Nat→Prop}(r:Rd w S d cs)(h:Below B w w')(hS:∀g,S g→g<B):Rd w' S d cs:=
 Rd.frame (fun g hg=>⟨h.block g (hS g hg),hg⟩) d cs r
theorem RdRow.get{w:World}{S:Nat→Prop}{W:Nat}:∀{l:List D} {a:Option Addr} {i:Nat},RdRow w S W l a i→∀k (hk:k<l.length),∃g off c,a=some ⟨g,off,none⟩∧S g∧c.length=W∧(∀j,j<W→w.cell? ⟨g,off+(i+k)*W+j,none⟩=c[j]?)∧Rd w S l[k] c
 |[],a,i,r,k,hk=>by simp at hk
 |d::l,a,i,r,0,hk=>by unfold RdRow at r;simpa using r.1
 |d::l,a,i,r,k+1,hk=>by
  unfold RdRow at r;have:=RdRow.get r.2 k (by simpa using hk);rw[show i+(k+1)=(i+1)+k by omega];exact this
theorem RdRow.of{w:World}{S:Nat→Prop}{W:Nat}:∀(l:List D) (a:Option Addr) (i:Nat),(∀k (hk:k<l.length),∃g off c,a=some ⟨g,off,none⟩∧S g∧c.length=W∧(∀j,j<W→w.cell? ⟨g,off+(i+k)*W+j,none⟩=c[j]?)∧Rd w S l[k] c)→RdRow w S W l a i
 |[],a,i,h=>by unfold RdRow;trivial
 |d::l,a,i,h=>by
  unfold RdRow;refine⟨h 0 (by simp),RdRow.of l a (i+1) fun k hk=>?_⟩;have:=h (k+1) (by simpa using hk);rw[show i+(k+1)=(i+1)+k by omega]at this;exact this
def flat(P:Program):List Field→Nat→Option Nat
 |[],o=>some o
 |f::fs,o=>if f.offset=o then flat P fs (o+P.cellsOf f.type)else none
def plainB(P:Program)(K:List TypeId)(t:TypeId):Bool:=
 match P.underlying t with
 |some (.int _)=>true
 |some .string=>true
 |some .bool=>true
 |some (.struct fs)=>fs.toList.all (fun f=>K.contains f.type)&&flat P fs.toList 0==some (P.cellsOf t)
 |some (.slice e)=>K.contains e&&decide (0<P.cellsOf e)
 |_=>false
def plainAll(P:Program)(K:List TypeId):Bool:=K.all (plainB P K)
mutual
def Conf(P:Program):D→TypeId→Prop
 |.int k n,t=>P.underlying t=some (.int k)∧(Lit.int k n).wf=true
 |.str l,t=>P.underlying t=some .string∧l.length≤maxLen
 |.bool b,t=>P.underlying t=some .bool
 |.agg l,t=>∃fs,P.underlying t=some (.struct fs)∧ConfL P l (fs.toList.map (·.type))
 |.sl W l,t=>∃e,P.underlying t=some (.slice e)∧W=P.cellsOf e∧ConfA P l e∧l.length≤maxLen
def ConfL(P:Program):List D→List TypeId→Prop
 |[],ts=>ts=[]
 |d::l,ts=>∃t ts',ts=t::ts'∧Conf P d t∧ConfL P l ts'
def ConfA(P:Program):List D→TypeId→Prop
 |[],_=>True
 |d::l,t=>Conf P d t∧ConfA P l t
end
theorem czw(P:Program)(e:TypeId):∀l:List D,(∀k (hk:k<l.length),Conf P l[k] e)→ConfA P l e
 |[],h=>by unfold ConfA;trivial
 |d::l,h=>by
  unfold ConfA;exact⟨h 0 (by simp),czw P e l fun k hk=>h (k+1) (by simpa using hk)⟩
theorem aqo{w:World}{a:Addr}{v:Value}(h:w.cell? a=some v):a.spot=none∧a.block<w.heap.size:=by
 obtain⟨g,off,sp⟩:=a;unfold World.cell? at h;simp only at h;split at h
 ·next hx=>
  refine⟨?_,(ZL.1 hx).1⟩;cases sp with
  |none=>rfl
  |some s=>simp at h
 ·cases h
section
variable {H:Type} {enc:TypeId×Value→H} {P:Program} {w:World} {base:Nat} {spare:Nat→Bool} {held:Bool} {K:List TypeId}
end
end
section
open Go.RowKit
inductive V where
 |mk (k n:Int) (s:List UInt8) (items:List V) (keys:List (List UInt8))
mutual
def V.toD:V→D
 |.mk k n s is ks=> .agg [.int .i64 k,.int .i64 n,.str s,.sl 5 (V.toDs is),.sl 1 (ks.map .str)]
def V.toDs:List V→List D
 |[]=>[]
 |v::l=>v.toD::V.toDs l
end
theorem V.toDs_map:∀l:List V,V.toDs l=l.map V.toD
 |[]=>rfl
 |v::l=>by rw[V.toDs,V.toDs_map l];rfl
theorem RdRow.below{w w':World}{W:Nat}{l:List D}{a:Option Addr}{i:Nat}(r:RdRow w (Old w) W l a i)(h:Below w.heap.size w w'):RdRow w' (Old w') W l a i:=
 RdRow.frame (fun g hg=>⟨h.block g hg,ZA hg h.size⟩) W l a i r
mutual
theorem V.induct{P:V→Prop}(h:∀k n s is ks,(∀x∈is,P x)→P (.mk k n s is ks)):∀v:V,P v
 |.mk k n s is ks=>h k n s is ks (V.inducts h is)
theorem V.inducts{P:V→Prop}(h:∀k n s is ks,(∀x∈is,P x)→P (.mk k n s is ks)):∀l:List V,∀x∈l,P x
 |[]=>by simp
 |v::l=>YV.2 ⟨V.induct h v,V.inducts h l⟩
end
end
section
namespace Wire
def zig(n:Int):Nat:=if n<0 then(2*(-n-1)+1).toNat else(2*n).toNat
def zag(u:Nat):Int:=if u%2=1 then -((u/2:Nat):Int)-1 else((u/2:Nat):Int)
def encF:Nat→Nat→List UInt8
 |0,u=>[UInt8.ofNat u]
 |f+1,u=>if u<128 then[UInt8.ofNat u]else UInt8.ofNat (u%128+128)::encF f (u/128)
def num(n:Int):List UInt8:=encF 9 (zig n)
def strE(s:List UInt8):List UInt8:=num s.length++s
inductive G where
 |ok (n:Int) (long:Nat)
 |err (e:Int)
deriving DecidableEq
def grpF:Nat→Nat→Nat→List UInt8→G
 |0,_,_,_=> .err 5
 |f+1,i,u,l=>
  match l with
  |[]=> .err 40
  |c::r=>
   if i=9∧1<c.toNat then .err 5
   else if 128≤c.toNat then grpF f (i+1) (u+c.toNat%128*2^(7*i)) r
   else if 0<i∧c=0 then .err 1
   else .ok (zag (u+c.toNat%128*2^(7*i))) (i+1)
def grp(l:List UInt8):G:=grpF 10 0 0 l
structure St where
 rest:List UInt8
 e:Int
deriving DecidableEq
def numR(r:St):St×Int:=
 if r.e≠0 then(r,0)else match grp r.rest with
  |.err e=>(⟨r.rest,e⟩,0)
  |.ok n long=>(⟨r.rest.drop long,0⟩,n)
def cntR(r:St)(least:Nat):St×Nat:=
 if r.e≠0 then(r,0)else match grp r.rest with
  |.err e=>(⟨r.rest,e⟩,0)
  |.ok n long=>
   if n<0 then(⟨r.rest,1⟩,0)
   else if(((r.rest.length-long)/least:Nat):Int)<n then(⟨r.rest,40⟩,0)
   else(⟨r.rest.drop long,0⟩,n.toNat)
def strR(r:St):St×List UInt8:=
 let q:=cntR r 1
 if q.1.e≠0 then(q.1,[])else(⟨q.1.rest.drop q.2,0⟩,q.1.rest.take q.2)
theorem encF_len:∀f u,1≤(encF f u).length∧(encF f u).length≤f+1
 |0,u=>by simp[encF]
 |f+1,u=>by
  unfold encF;split
  ·simp
  ·have:=encF_len f (u/128);simp;omega
end Wire
end
section
namespace Val
open Go.Op (bytesLess)
theorem less_irrefl:∀a:List UInt8,bytesLess a a=false
 |[]=>rfl
 |b::a=>by simp only[bytesLess];rw[less_irrefl a];simp
theorem less_total:∀a b:List UInt8,(!bytesLess a b)=(bytesLess b a||b==a)
 |[],[]=>rfl
 |[],b::y=>by simp[bytesLess]
 |a::x,[]=>by simp[bytesLess]
 |a::x,b::y=>by
  have ih:=less_total x y;simp only[bytesLess];rcases Nat.lt_trichotomy a.toNat b.toNat with h|h|h
  ·have h1:a<b:=Yu.2 h;have h2:¬b<a:=fun h'=>by have:=Yu.1 h';omega
   have h3:a≠b:=fun e=>by rw[e]at h;omega
   have h4:b≠a:=fun e=>h3 e.symm
   simp[h1,h2,h3,h4]
  ·have e:a=b:=Ym.1 h;subst e;simp;simpa using ih
  ·have h1:b<a:=Yu.2 h;have h2:¬a<b:=fun h'=>by have:=Yu.1 h';omega
   have h3:a≠b:=fun e=>by rw[e]at h;omega
   simp[h1,h2,h3]
def textZ(s:List UInt8):Int:=if 4096<s.length then 3 else if Str.valid s then 0 else 1
def shapedB(k n:Int)(s:List UInt8)(ni nk:Nat):Bool:=
 decide (0≤k∧k≤6)&&(k==2||(k==1&&(n==0||n==1))||n==0)&&(k==3||s == [])&&(k==4||k==5||ni==0)&&(if k=5 then nk==ni else nk==0)
def badB:Option (List UInt8)→List UInt8→Bool
 |some q,k=>!bytesLess q k
 |none,_=>false
def keysZ:Option (List UInt8)→List (List UInt8)→Int
 |_,[]=>0
 |p,k::l=>if textZ k≠0 then textZ k else if badB p k then 1 else keysZ (some k) l
def nodeZ:V→Int
 |.mk k n s is ks=>if shapedB k n s is.length ks.length=false then 1 else if k=2∧¬(-9007199254740992≤n∧n≤9007199254740992)then 5 else if textZ s≠0 then textZ s else keysZ none ks
mutual
def chk:V→Nat→Nat→Int×Nat
 |.mk k n s is ks,lv,b=>if 32<lv then(4,b)else if 4096≤b then(14,b)else if nodeZ (.mk k n s is ks)≠0 then(nodeZ (.mk k n s is ks),b)else chks is (lv+1) (b+1)
def chks:List V→Nat→Nat→Int×Nat
 |[],_,b=>(0,b)
 |v::l,lv,b=>if(chk v lv b).1≠0 then chk v lv b else chks l lv (chk v lv b).2
end
def checkZ(v:V):Int:=(chk v 1 0).1
mutual
def left:V→Int→Int→Int
 |.mk _ _ _ is _,nd,lv=>if nd<1∨lv<1 then -1 else lefts is (nd-1) (lv-1)
def lefts:List V→Int→Int→Int
 |[],n,_=>n
 |v::l,n,lv=>if 0≤n then lefts l (left v n lv) lv else n
end
def keyE:Bool→List (List UInt8)→List UInt8
 |true,k::_=>Wire.strE k
 |_,_=>[]
mutual
def enc:V→List UInt8
 |.mk k n s is ks=>Wire.num k++(if k=1∨k=2 then Wire.num n else if k=3 then Wire.strE s else if k=4∨k=5 then Wire.num is.length++encs (k==5) is ks else[])
def encs:Bool→List V→List (List UInt8)→List UInt8
 |_,[],_=>[]
 |m,v::l,ks=>keyE m ks++(enc v++encs m l ks.tail)
end
def zeroV:V:=.mk 0 0 [] [] []
abbrev Res:=Wire.St×Int×V
def itemsW(one:Wire.St→Res)(m:Bool):Nat→Wire.St→List V→List (List UInt8)→Wire.St×Int×List V×List (List UInt8)
 |0,r,is,ks=>(r,r.e,is,ks)
 |c+1,r,is,ks=>
  let q:=if m then Wire.strR r else(r,[])
  let x:=one q.1
  if x.2.1≠0 then(x.1,x.2.1,is,ks)else itemsW one m c x.1 (is++[x.2.2]) (if m then ks++[q.2]else ks)
def readW(one:Wire.St→Res)(r:Wire.St):Res:=
 if r.e≠0 then(r,r.e,zeroV)else
 let q:=Wire.numR r
 if q.1.e≠0 then(q.1,q.1.e,zeroV)
 else if q.2<0∨6<q.2 then(q.1,1,zeroV)
 else if q.2=1∨q.2=2 then((Wire.numR q.1).1,(Wire.numR q.1).1.e,.mk q.2 (Wire.numR q.1).2 [] [] [])
 else if q.2=3 then((Wire.strR q.1).1,(Wire.strR q.1).1.e,.mk q.2 0 (Wire.strR q.1).2 [] [])
 else if q.2=4∨q.2=5 then
  let c:=Wire.cntR q.1 1
  let x:=itemsW one (q.2==5) c.2 c.1 [] []
  (x.1,x.2.1,.mk q.2 0 [] x.2.2.1 x.2.2.2)
 else(q.1,0,.mk q.2 0 [] [] [])
def read:Nat→Wire.St→Res
 |0,r=>(r,(if r.e≠0 then r.e else 4),zeroV)
 |f+1,r=>readW (read f) r
def readValue(r:Wire.St):Res:=
 let x:=read 32 r
 if x.2.1≠0 then(x.1,x.2.1,zeroV)else if checkZ x.2.2≠0 then(x.1,checkZ x.2.2,zeroV)else x
end Val
end
section
open Go.RowKit
def Tri(w:World)(g:Nat)(T:TypeId)(a b c:Value):Prop:=w.heap[g]?=some (.cells #[a,b,c] T (0,0))
namespace Tri
variable {w w':World} {g:Nat} {T:TypeId} {a b c:Value}
theorem lt(h:Tri w g T a b c):g<w.heap.size:=(ZL.1 h).1
theorem below(h:Tri w g T a b c)(hb:Below w.heap.size w w'):Tri w' g T a b c:=(hb.block g h.lt).trans h
theorem fresh(w:World)(T:TypeId)(a b c:Value):Tri (w.alloc (.cells #[a,b,c] T)) w.heap.size T a b c:=heap_alloc_new w _
theorem draw(h:Tri w g T a b c):Tri w.drew g T a b c:=h
theorem grown{r:Nat}(h:Tri w g T a b c)(hg:w.grownBy w' (some r))(hne:g≠r):Tri w' g T a b c:=(hg.block g h.lt (by simpa using hne)).trans h
end Tri
end
section
open Go.RowKit
namespace Wire
end Wire
namespace Wire
end Wire
end
section
open Go.RowKit
namespace Rdr
variable {w w':World} {g:Nat} {r:Wire.St}
end Rdr
namespace Wire
end Wire
end
section
open Go.RowKit


end
section
open Go.RowKit
def Duo'(w:World)(g:Nat)(T:TypeId)(a b:Value):Prop:=w.heap[g]?=some (.cells #[a,b] T (0,0))
namespace Duo'
variable {w w':World} {g:Nat} {T:TypeId} {a b:Value}
theorem lt(h:Duo' w g T a b):g<w.heap.size:=(ZL.1 h).1
theorem below(h:Duo' w g T a b)(hb:Below w.heap.size w w'):Duo' w' g T a b:=(hb.block g h.lt).trans h
theorem fresh(w:World)(T:TypeId)(a b:Value):Duo' (w.alloc (.cells #[a,b] T)) w.heap.size T a b:=heap_alloc_new w _
end Duo'
theorem Duo'.set(w:World)(g:Nat)(T:TypeId)(a b x y:Value)(h:Duo' w g T a b):Duo' ((w.setCell ⟨g,0,none⟩ x).setCell ⟨g,1,none⟩ y) g T x y:=by
 unfold Duo' World.setCell at *;rw[Y3,if_pos rfl,Y3,if_pos rfl,h];rfl
end
section
open Go.RowKit
namespace Wire
end Wire
namespace Wire
end Wire
end
section
namespace Val
open Wire
mutual
def eqB:V→V→Bool
 |.mk k n s is ks,.mk k' n' s' is' ks'=>k==k'&&n==n'&&s==s'&&ks==ks'&&eqBs is is'
def eqBs:List V→List V→Bool
 |[],[]=>true
 |v::l,v'::l'=>eqB v v'&&eqBs l l'
 |_,_=>false
end
end Val
end
section
namespace Val
set_option maxRecDepth 100000
end Val
end
section
open Go.RowKit Go.ChangeShapes Go.WideShapes
mutual
theorem D.induct{P:D→Prop}(hi:∀k n,P (.int k n))(hs:∀l,P (.str l))(hb:∀b,P (.bool b))(ha:∀l,(∀d∈l,P d)→P (.agg l))(hsl:∀W l,(∀d∈l,P d)→P (.sl W l)):∀d:D,P d
 |.int k n=>hi k n
 |.str l=>hs l
 |.bool b=>hb b
 |.agg l=>ha l (D.inducts hi hs hb ha hsl l)
 |.sl W l=>hsl W l (D.inducts hi hs hb ha hsl l)
theorem D.inducts{P:D→Prop}(hi:∀k n,P (.int k n))(hs:∀l,P (.str l))(hb:∀b,P (.bool b))(ha:∀l,(∀d∈l,P d)→P (.agg l))(hsl:∀W l,(∀d∈l,P d)→P (.sl W l)):∀l:List D,∀d∈l,P d
 |[]=>by simp
 |d::l=>YV.2 ⟨D.induct hi hs hb ha hsl d,D.inducts hi hs hb ha hsl l⟩
end
mutual
def V.Wf:V→Prop
 |.mk k n s is ks=>((Lit.int .i64 k).wf=true∧(Lit.int .i64 n).wf=true∧s.length≤maxLen∧is.length≤maxLen∧ks.length≤maxLen∧∀q∈ks,q.length≤maxLen)∧V.Wfs is
def V.Wfs:List V→Prop
 |[]=>True
 |v::l=>v.Wf∧V.Wfs l
end
theorem V.wfs_of:∀l:List V,(∀v∈l,v.Wf)→V.Wfs l
 |[],_=>by unfold V.Wfs;trivial
 |v::l,h=>by unfold V.Wfs;exact⟨h v (by simp),V.wfs_of l fun x hx=>h x (by simp[hx])⟩
section
variable {P:Program}
theorem aq2{d:D}{t:TypeId}{k:IntKind}(hu:P.underlying t=some (.int k))(h:Conf P d t):∃n,d=.int k n∧(Lit.int k n).wf=true:=by
 cases d<;>unfold Conf at h<;>first
  |(obtain⟨h1,h2⟩:=h;rw[hu]at h1;injection h1 with h1;injection h1 with h1;subst h1;exact⟨_,rfl,h2⟩)
  |(obtain⟨h1,h2⟩:=h;rw[hu]at h1;cases h1)
  |(obtain⟨_,h1,_⟩:=h;rw[hu]at h1;cases h1)
  |(rw[hu]at h;cases h;done)
theorem az0{d:D}{t:TypeId}(hu:P.underlying t=some .string)(h:Conf P d t):∃l,d=.str l∧l.length≤maxLen:=by
 cases d<;>unfold Conf at h<;>first
  |exact⟨_,rfl,h.2⟩
  |(obtain⟨h1,h2⟩:=h;rw[hu]at h1;cases h1)
  |(obtain⟨_,h1,_⟩:=h;rw[hu]at h1;cases h1)
  |(rw[hu]at h;cases h;done)
theorem awg{d:D}{t:TypeId}(hu:P.underlying t=some .bool)(h:Conf P d t):∃b,d=.bool b:=by
 cases d<;>unfold Conf at h<;>first
  |exact⟨_,rfl⟩
  |(obtain⟨h1,h2⟩:=h;rw[hu]at h1;cases h1)
  |(obtain⟨_,h1,_⟩:=h;rw[hu]at h1;cases h1)
theorem az7{d:D}{t:TypeId}{fs:Array Field}(hu:P.underlying t=some (.struct fs))(h:Conf P d t):∃l,d=.agg l∧ConfL P l (fs.toList.map (·.type)):=by
 cases d<;>unfold Conf at h<;>first
  |(obtain⟨fs',h1,h2⟩:=h;rw[hu]at h1;injection h1 with h1;injection h1 with h1;subst h1;exact⟨_,rfl,h2⟩)
  |(obtain⟨h1,h2⟩:=h;rw[hu]at h1;cases h1)
  |(obtain⟨_,h1,_⟩:=h;rw[hu]at h1;cases h1)
  |(rw[hu]at h;cases h;done)
theorem aqa{d:D}{t e:TypeId}(hu:P.underlying t=some (.slice e))(h:Conf P d t):∃l,d=.sl (P.cellsOf e) l∧ConfA P l e∧l.length≤maxLen:=by
 cases d<;>unfold Conf at h<;>first
  |(obtain⟨e',h1,h2,h3⟩:=h;rw[hu]at h1;injection h1 with h1;injection h1 with h1;subst h1;subst h2;exact⟨_,rfl,h3⟩)
  |(obtain⟨h1,h2⟩:=h;rw[hu]at h1;cases h1)
  |(obtain⟨_,h1,_⟩:=h;rw[hu]at h1;cases h1)
  |(rw[hu]at h;cases h;done)
theorem azi{l:List D}{t:TypeId}{ts:List TypeId}(h:ConfL P l (t::ts)):∃d l',l=d::l'∧Conf P d t∧ConfL P l' ts:=by
 cases l with
 |nil=>unfold ConfL at h;cases h
 |cons d l=>
  unfold ConfL at h;obtain⟨t',ts',h1,h2,h3⟩:=h;injection h1 with h1 h4;subst h1;subst h4;exact⟨d,l,rfl,h2,h3⟩
theorem axg{l:List D}(h:ConfL P l []):l=[]:=by
 cases l with
 |nil=>rfl
 |cons d l=>unfold ConfL at h;obtain⟨_,_,h1,_⟩:=h;cases h1
theorem axb:∀{l:List D} {t:TypeId},ConfA P l t→∀d∈l,Conf P d t
 |[],t,h=>by simp
 |d::l,t,h=>by
  unfold ConfA at h;exact YV.2 ⟨h.1,axb h.2⟩
theorem bzi{t:TypeId}(hu:P.underlying t=some .string):∀l:List D,ConfA P l t→∃ks:List (List UInt8),l=ks.map .str∧∀q∈ks,q.length≤maxLen
 |[],h=>⟨[],rfl,by simp⟩
 |d::l,h=>by
  unfold ConfA at h;obtain⟨s,rfl,hs⟩:=az0 hu h.1;obtain⟨ks,rfl,hk⟩:=bzi hu l h.2;exact⟨s::ks,rfl,YV.2 ⟨hs,hk⟩⟩
end
theorem cvd:∀l:List D,(∀d∈l,∃v:V,d=v.toD∧v.Wf)→∃vs:List V,l=V.toDs vs∧∀v∈vs,v.Wf
 |[],h=>⟨[],rfl,by simp⟩
 |d::l,h=>by
  obtain⟨v,rfl,hv⟩:=h d (by simp);obtain⟨vs,rfl,hvs⟩:=cvd l fun d hd=>h d (by simp[hd])
  exact⟨v::vs,rfl,YV.2 ⟨hv,hvs⟩⟩
theorem bjf(d:D):(Conf Tryz.prog d 40→∃v:V,d=v.toD∧v.Wf)∧(Conf Tryz.prog d 37→∃vs:List V,d=.sl 5 (V.toDs vs)∧(∀v∈vs,v.Wf)∧vs.length≤maxLen):=by
 have hst:∀d,(∀l,d≠D.agg l)→¬Conf Tryz.prog d 40:=fun d hd h=>by
  obtain⟨l,h1,_⟩:=az7 Tryz.underlying40 h;exact hd l h1
 have hsl:∀d,(∀W l,d≠D.sl W l)→¬Conf Tryz.prog d 37:=fun d hd h=>by
  obtain⟨l,h1,_⟩:=aqa Tryz.underlying37 h;exact hd _ l h1
 refine D.induct (P:=fun d=>(Conf Tryz.prog d 40→∃v:V,d=v.toD∧v.Wf)∧(Conf Tryz.prog d 37→∃vs:List V,d=.sl 5 (V.toDs vs)∧(∀v∈vs,v.Wf)∧vs.length≤maxLen)) ?_ ?_ ?_ ?_ ?_ d
 ·exact fun k n=>⟨fun h=>absurd h (hst _ fun l=>by simp),fun h=>absurd h (hsl _ fun W l=>by simp)⟩
 ·exact fun l=>⟨fun h=>absurd h (hst _ fun l=>by simp),fun h=>absurd h (hsl _ fun W l=>by simp)⟩
 ·exact fun b=>⟨fun h=>absurd h (hst _ fun l=>by simp),fun h=>absurd h (hsl _ fun W l=>by simp)⟩
 ·intro l ih;refine⟨fun h=>?_,fun h=>absurd h (hsl _ fun W l=>by simp)⟩;obtain⟨l',h1,h2⟩:=az7 Tryz.underlying40 h;injection h1 with h1;subst h1;obtain⟨d0,l1,rfl,c0,h2⟩:=azi h2;obtain⟨d1,l2,rfl,c1,h2⟩:=azi h2;obtain⟨d2,l3,rfl,c2,h2⟩:=azi h2;obtain⟨d3,l4,rfl,c3,h2⟩:=azi h2;obtain⟨d4,l5,rfl,c4,h2⟩:=azi h2;obtain rfl:=axg h2;obtain⟨k,rfl,hk⟩:=aq2 (k:=.i64) Tryz.underlying36 c0;obtain⟨n,rfl,hn⟩:=aq2 (k:=.i64) Tryz.underlying3 c1;obtain⟨s,rfl,hs⟩:=az0 Tryz.underlying9 c2;obtain⟨vs,rfl,hvs,hvl⟩:=(ih d3 (by simp)).2 c3;obtain⟨l4,rfl,c5,hl4⟩:=aqa Tryz.underlying38 c4;obtain⟨ks,rfl,hks⟩:=bzi Tryz.underlying9 l4 c5;have hw:Tryz.prog.cellsOf 9=1:=by kernel_rfl
  rw[hw];refine⟨.mk k n s vs ks,rfl,?_⟩;unfold V.Wf;exact⟨⟨hk,hn,hs,hvl,by simpa using hl4,hks⟩,V.wfs_of vs hvs⟩
 ·intro W l ih;refine⟨fun h=>absurd h (hst _ fun l=>by simp),fun h=>?_⟩;obtain⟨l',h1,h2,h3⟩:=aqa Tryz.underlying37 h;injection h1 with h0 h1;subst h1;have hw:Tryz.prog.cellsOf 40=5:=by kernel_rfl
  rw[hw]at h0;subst h0;obtain⟨vs,rfl,hvs⟩:=cvd l fun d hd=>(ih d hd).1 (axb h2 d hd)
  exact⟨vs,rfl,hvs,by rw[V.toDs_map]at h3;simpa using h3⟩
theorem cza{d:D}(h:Conf Tryz.prog d 40):∃v:V,d=v.toD∧v.Wf:=(bjf d).1 h
end
end Go.Proofs.YtnghhnahdjjpkaaGreatDoor
