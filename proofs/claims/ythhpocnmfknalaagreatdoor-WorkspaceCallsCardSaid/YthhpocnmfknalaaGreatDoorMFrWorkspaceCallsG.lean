/- Part of what the proof needs. -/
import Derived.Test.YthhpocnmfknalaaGreatDoorMFrWorkspaceCallsA
import Derived.Lib.TrimUEq
import Derived.Lib.ValidLaws
import Derived.Lib.RuneCount
import Derived.Lib.QuoteLoop
import Derived.ChangeArms
import Derived.Deep.Slices
import Derived.Below
import Derived.Test.YthhpocnmfknalaaGreatDoorProg
import Derived.Deep.QuietTactic
import Derived.BigQuiet
import Derived.BigRegion
import Derived.IntWalk
set_option maxHeartbeats 4000000
set_option maxRecDepth 100000
set_option linter.all false
namespace Go.Proofs.YthhpocnmfknalaaGreatDoor
section
namespace Str
open Go.Lib
def inB(s:ByteArray)(i:Nat)(lo hi:Int):Bool:=decide (∃h:i<s.size,lo<=(s[i].toNat:Int)/\(s[i].toNat:Int)<=hi)
def Bad(d:Nat×Nat):Prop:=d.1=65533/\d.2=1
instance (d:Nat×Nat):Decidable (Bad d):=by unfold Bad;infer_instance
def refDec(s:ByteArray)(i:Nat):Nat×Nat:=if i<s.size/\¬Bad (Utf8.decode s i)then Utf8.decode s i else(0,0)
theorem get_lt(s:ByteArray)(i:Nat)(h:i<s.size):(s.get! i).toNat=s[i].toNat:=by
 rw[show s.get! i=s[i] by simp[ByteArray.get!,h];rfl]
theorem inB_true{s:ByteArray}{i:Nat}{lo hi:Int}(h:inB s i lo hi=true):i<s.size/\lo<=((s.get! i).toNat:Int)/\((s.get! i).toNat:Int)<=hi:=by
 obtain⟨h1,h2,h3⟩:=of_decide_eq_true h;rw[get_lt s i h1];exact⟨h1,h2,h3⟩
theorem inB_false{s:ByteArray}{i:Nat}{lo hi:Int}(h:inB s i lo hi=false):¬(i<s.size/\lo<=((s.get! i).toNat:Int)/\((s.get! i).toNat:Int)<=hi):=by
 intro ⟨h1,h2,h3⟩;rw[get_lt s i h1]at h2 h3;exact of_decide_eq_false h ⟨h1,h2,h3⟩
theorem refDec_end(s:ByteArray)(i:Nat)(h:¬i<s.size):refDec s i=(0,0):=by unfold refDec;rw[if_neg (fun hh=>h hh.1)]
theorem refDec_good(s:ByteArray)(i c n:Nat)(h:i<s.size)(hd:Utf8.decode s i=(c,n))(hb:¬(c=65533/\n=1)):refDec s i=(c,n):=by
 unfold refDec;rw[hd,if_pos ⟨h,hb⟩]
theorem refDec_bad(s:ByteArray)(i:Nat)(hd:Utf8.decode s i=(65533,1)):refDec s i=(0,0):=by
 unfold refDec;rw[hd,if_neg (by simp[Bad])]
section
variable (s:ByteArray) (i:Nat) (hi:i<s.size)
include hi
theorem refDec_ascii(h:s[i].toNat<128):refDec s i=(s[i].toNat,1):=by
 refine refDec_good s i _ _ hi ?_ (by omega);rw[decode_at,get_lt s i hi];simp[decodeN,h]
theorem refDec_lead(h:(128<=s[i].toNat/\s[i].toNat<194)\/245<=s[i].toNat):refDec s i=(0,0):=by
 refine refDec_bad s i ?_;rw[decode_at];have hb:=s[i].toNat_lt;exact decodeN_bad _ _ _ _ _ (by rw[get_lt s i hi];omega)
theorem refDec_two(h1:194<=s[i].toNat)(h2:s[i].toNat<=223)(hc:inB s (i+1) 128 191=true):
  refDec s i=(s[i].toNat%32*64+(s.get! (i+1)).toNat%64,2):=by
 obtain⟨c1,c2,c3⟩:=inB_true hc;refine refDec_good s i _ _ hi ?_ (by omega);rw[decode_at,get_lt s i hi];unfold decodeN;rw[if_neg (by omega),if_pos (by omega),if_pos (by omega)]
theorem refDec_two_no(h1:194<=s[i].toNat)(h2:s[i].toNat<=223)(hc:inB s (i+1) 128 191=false):refDec s i=(0,0):=by
 have c1:=inB_false hc;refine refDec_bad s i ?_;rw[decode_at,get_lt s i hi];have hb:=(s.get! (i+1)).toNat_lt;unfold decodeN;rw[if_neg (by omega),if_neg (by omega),if_neg (by omega),if_neg (by omega)]
theorem refDec_three(lo hh:Int)(h1:224<=s[i].toNat)(h2:s[i].toNat<=239)(hlo:lo=if s[i].toNat=224 then 160 else 128)(hhi:hh=if s[i].toNat=237 then 159 else 191)
  (hc:inB s (i+1) lo hh=true) (hd:inB s (i+2) 128 191=true):
  refDec s i=(s[i].toNat%16*4096+(s.get! (i+1)).toNat%64*64+(s.get! (i+2)).toNat%64,3):=by
 obtain⟨c1,c2,c3⟩:=inB_true hc;obtain⟨d1,d2,d3⟩:=inB_true hd;refine refDec_good s i _ _ hi ?_ (by omega);rw[decode_at,get_lt s i hi];unfold decodeN;rw[if_neg (by omega),if_neg (by omega),if_pos (by split at hlo<;>split at hhi<;>omega),if_pos (by split at hlo<;>split at hhi<;>omega)]
theorem refDec_three_no(lo hh:Int)(h1:224<=s[i].toNat)(h2:s[i].toNat<=239)(hlo:lo=if s[i].toNat=224 then 160 else 128)(hhi:hh=if s[i].toNat=237 then 159 else 191)
  (hc:inB s (i+1) lo hh=false\/inB s (i+2) 128 191=false):refDec s i=(0,0):=by
 refine refDec_bad s i ?_;rw[decode_at,get_lt s i hi];have hb:=(s.get! (i+1)).toNat_lt;have hb2:=(s.get! (i+2)).toNat_lt;unfold decodeN;rw[if_neg (by omega),if_neg (by omega)];rcases hc with hc|hc
 ·have c1:=inB_false hc;split
  ·rw[if_neg (by split at hlo<;>split at hhi<;>omega)]
  ·rw[if_neg (by omega)]
 ·have c1:=inB_false hc;rw[if_neg (by omega),if_neg (by omega)]
theorem refDec_four(lo hh:Int)(h1:240<=s[i].toNat)(h2:s[i].toNat<=244)(hlo:lo=if s[i].toNat=240 then 144 else 128)(hhi:hh=if s[i].toNat=244 then 143 else 191)
  (hc:inB s (i+1) lo hh=true) (hd:inB s (i+2) 128 191=true) (he:inB s (i+3) 128 191=true):
  refDec s i=(s[i].toNat%8*262144+(s.get! (i+1)).toNat%64*4096+(s.get! (i+2)).toNat%64*64+(s.get! (i+3)).toNat%64,4):=by
 obtain⟨c1,c2,c3⟩:=inB_true hc;obtain⟨d1,d2,d3⟩:=inB_true hd;obtain⟨e1,e2,e3⟩:=inB_true he;refine refDec_good s i _ _ hi ?_ (by omega);rw[decode_at,get_lt s i hi];unfold decodeN;rw[if_neg (by omega),if_neg (by omega),if_neg (by omega),if_pos (by split at hlo<;>split at hhi<;>omega),if_pos (by split at hlo<;>split at hhi<;>omega)]
theorem refDec_four_no(lo hh:Int)(h1:240<=s[i].toNat)(h2:s[i].toNat<=244)(hlo:lo=if s[i].toNat=240 then 144 else 128)(hhi:hh=if s[i].toNat=244 then 143 else 191)
  (hc:inB s (i+1) lo hh=false\/inB s (i+2) 128 191=false\/inB s (i+3) 128 191=false):refDec s i=(0,0):=by
 refine refDec_bad s i ?_;rw[decode_at,get_lt s i hi];have hb:=(s.get! (i+1)).toNat_lt;have hb2:=(s.get! (i+2)).toNat_lt;have hb3:=(s.get! (i+3)).toNat_lt;unfold decodeN;rw[if_neg (by omega),if_neg (by omega),if_neg (by omega)];rcases hc with hc|hc|hc
 ·have c1:=inB_false hc;split
  ·rw[if_neg (by split at hlo<;>split at hhi<;>omega)]
  ·rfl
 ·have c1:=inB_false hc;rw[if_neg (by omega)]
 ·have c1:=inB_false hc;rw[if_neg (by omega)]
end
end Str
end
section
namespace Str
open Go.Lib
def hd(d:Nat):UInt8:=[48,49,50,51,52,53,54,55,56,57,97,98,99,100,101,102].getD d 0
def hexL(c:Nat):List UInt8:=if c<16 then[hd c]else[hd (c/16),hd (c%16)]
theorem hexL_length(c:Nat):1<=(hexL c).length/\(hexL c).length<=2:=by unfold hexL;split<;>simp
def esc(b:UInt8):List UInt8:=
 if b=10 then[92,110]else if b=13 then[92,114]else if b=9 then[92,116]else if b=34 then[92,34]else if b=92 then[92,92]
 else if b<32\/b=127 then[92,117,123]++hexL b.toNat++[125]else[b]
theorem esc_length(b:UInt8):1<=(esc b).length/\(esc b).length<=6:=by
 have:=hexL_length b.toNat;unfold esc
 repeat' split
 all_goals simp
 omega
def quote(l:List UInt8):List UInt8:=34::(l.flatMap esc++[34])
theorem flatMap_esc_length(l:List UInt8):l.length<=(l.flatMap esc).length/\(l.flatMap esc).length<=6*l.length:=by
 induction l with
 |nil=>simp
 |cons b l ih=>
  have:=esc_length b;simp only[YP,Za,Zf];omega
def valid(l:List UInt8):Bool:=decide (l.length<=4096)&&validD l
theorem decL(s:ByteArray)(k:Nat):decodeL (s.data.toList.drop k)=Utf8.decode s k:=decodeL_drop s k
theorem dec_width(s:ByteArray)(k:Nat)(h:k<s.size):1<=(Utf8.decode s k).2/\k+(Utf8.decode s k).2<=s.size:=by
 refine⟨decode_width_pos s k h,?_⟩;have h1:=decodeL_le (s.data.toList.drop k) (by intro h2;have:=congrArg List.length h2;simp at this;omega);rw[decL]at h1;simp at h1;omega
theorem valid_at(s:ByteArray)(k:Nat)(h:k<s.size):validD (s.data.toList.drop k)=if Bad (Utf8.decode s k)then false else validD (s.data.toList.drop (k+(Utf8.decode s k).2)):=by
 rw[validD_step _ (by intro h2;have:=congrArg List.length h2;simp at this;omega),decL,Y6];rfl
theorem refDec_cases(s:ByteArray)(k:Nat)(h:k<s.size):
  (Bad (Utf8.decode s k)/\refDec s k=(0,0))\/(¬Bad (Utf8.decode s k)/\refDec s k=Utf8.decode s k):=by
 by_cases hb:Bad (Utf8.decode s k)
 ·exact .inl ⟨hb,by unfold refDec;rw[if_neg (fun hh=>hh.2 hb)]⟩
 ·exact .inr ⟨hb,by unfold refDec;rw[if_pos ⟨h,hb⟩]⟩
end Str
end
section
open Go.RowKit
theorem bzm{P:Program}(w:World)(n:Nat)(t e:TypeId)(ht:P.underlying t=some (.slice e))(hi:(P.info? e).map (fun i=>(i.zero,i.size,i.bytes))=some (some (.int .u8 0),1,1))(h:n<1099511627776):
  ∃W1,(Instr.makeSlice t (.int .i64 (n:Int)) (.int .i64 (n:Int))).run P w=.ok (.slice (some ⟨w.heap.size,0,none⟩) n n) W1/\BytesAt W1 w.heap.size e (List.replicate n 0)/\Below w.heap.size w W1/\w.heap.size<W1.heap.size:=by
 obtain⟨i0,hi0,hz0,hz1,hz2⟩:=info_parts hi;have hr:=run_make (P:=P) w t e i0 (.int .u8 0) ht hi0 hz0 .i64 .i64 n n (by omega) (Int.le_refl _) (by rw[hz2];omega) (by omega);simp only[Yu,hz1,Nat.mul_one]at hr;exact⟨_,hr,BytesAt.made w e n,(Below.refl _ w).alloc (Ze _) _,by simp⟩
end
section
open Go.RowKit Go.ChangeShapes Go.WideShapes Go.Deep
inductive D where
 |int (k:IntKind) (n:Int)
 |str (l:List UInt8)
 |bool (b:Bool)
 |agg (l:List D)
 |sl (width:Nat) (l:List D)
mutual
def Rd(w:World)(S:Nat->Prop):D->List Value->Prop
 |.int k n,cs=>cs=[.int k n]
 |.str l,cs=>cs=[.string ⟨l.toArray⟩]
 |.bool b,cs=>cs=[.bool b]
 |.agg l,cs=>RdAgg w S l cs
 |.sl W l,cs=>∃a cap,cs=[.slice a l.length cap]/\l.length<=cap/\RdRow w S W l a 0
def RdAgg(w:World)(S:Nat->Prop):List D->List Value->Prop
 |[],cs=>cs=[]
 |d::l,cs=>∃c1 c2,cs=c1++c2/\Rd w S d c1/\RdAgg w S l c2
def RdRow(w:World)(S:Nat->Prop)(W:Nat):List D->Option Addr->Nat->Prop
 |[],_,_=>True
 |d::l,a,i=>(∃g off c,a=some ⟨g,off,none⟩/\S g/\c.length=W/\(∀j,j<W->w.cell? ⟨g,off+i*W+j,none⟩=c[j]?)/\Rd w S d c)/\RdRow w S W l a (i+1)
end
mutual
theorem Rd.frame{w w':World}{S S':Nat->Prop}(h:∀g,S g->w'.heap[g]?=w.heap[g]?/\S' g):∀(d:D) (cs:List Value),Rd w S d cs->Rd w' S' d cs
 |.int k n,cs,r=>by unfold Rd at r⊢;exact r
 |.str l,cs,r=>by unfold Rd at r⊢;exact r
 |.bool b,cs,r=>by unfold Rd at r⊢;exact r
 |.agg l,cs,r=>by unfold Rd at r⊢;exact RdAgg.frame h l cs r
 |.sl W l,cs,r=>by
  unfold Rd at r⊢;obtain⟨a,cap,h1,h2,h3⟩:=r;exact⟨a,cap,h1,h2,RdRow.frame h W l a 0 h3⟩
theorem RdAgg.frame{w w':World}{S S':Nat->Prop}(h:∀g,S g->w'.heap[g]?=w.heap[g]?/\S' g):∀(l:List D) (cs:List Value),RdAgg w S l cs->RdAgg w' S' l cs
 |[],cs,r=>by unfold RdAgg at r⊢;exact r
 |d::l,cs,r=>by
  unfold RdAgg at r⊢;obtain⟨c1,c2,h1,h2,h3⟩:=r;exact⟨c1,c2,h1,Rd.frame h d c1 h2,RdAgg.frame h l c2 h3⟩
theorem RdRow.frame{w w':World}{S S':Nat->Prop}(h:∀g,S g->w'.heap[g]?=w.heap[g]?/\S' g)(W:Nat):∀(l:List D) (a:Option Addr) (i:Nat),RdRow w S W l a i->RdRow w' S' W l a i
 |[],a,i,r=>by unfold RdRow;trivial
 |d::l,a,i,r=>by
  unfold RdRow at r⊢;obtain⟨⟨g,off,c,h1,h2,h3,h4,h5⟩,h6⟩:=r;refine⟨⟨g,off,c,h1,(h g h2).2,h3,fun j hj=>?_,Rd.frame h d c h5⟩,RdRow.frame h W l a (i+1) h6⟩;rw[<-h4 j hj];simp only[World.cell?,(h g h2).1]
end
def Old(w:World)(g:Nat):Prop:=g<w.heap.size
theorem Rd.below{w w':World}{d:D}{cs:List Value}{B:Nat}{S:Nat->Prop}(r:Rd w S d cs)(h:Below B w w')(hS:∀g,S g->g<B):Rd w' S d cs:=
 Rd.frame (fun g hg=>⟨h.block g (hS g hg),hg⟩) d cs r
theorem RdRow.get{w:World}{S:Nat->Prop}{W:Nat}:∀{l:List D} {a:Option Addr} {i:Nat},RdRow w S W l a i->∀k (hk:k<l.length),∃g off c,a=some ⟨g,off,none⟩/\S g/\c.length=W/\(∀j,j<W->w.cell? ⟨g,off+(i+k)*W+j,none⟩=c[j]?)/\Rd w S l[k] c
 |[],a,i,r,k,hk=>by simp at hk
 |d::l,a,i,r,0,hk=>by unfold RdRow at r;simpa using r.1
 |d::l,a,i,r,k+1,hk=>by
  unfold RdRow at r;have:=RdRow.get r.2 k (by simpa using hk);rw[show i+(k+1)=(i+1)+k by omega];exact this
theorem RdRow.of{w:World}{S:Nat->Prop}{W:Nat}:∀(l:List D) (a:Option Addr) (i:Nat),(∀k (hk:k<l.length),∃g off c,a=some ⟨g,off,none⟩/\S g/\c.length=W/\(∀j,j<W->w.cell? ⟨g,off+(i+k)*W+j,none⟩=c[j]?)/\Rd w S l[k] c)->RdRow w S W l a i
 |[],a,i,h=>by unfold RdRow;trivial
 |d::l,a,i,h=>by
  unfold RdRow;refine⟨h 0 (by simp),RdRow.of l a (i+1) fun k hk=>?_⟩;have:=h (k+1) (by simpa using hk);rw[show i+(k+1)=(i+1)+k by omega]at this;exact this
def flat(P:Program):List Field->Nat->Option Nat
 |[],o=>some o
 |f::fs,o=>if f.offset=o then flat P fs (o+P.cellsOf f.type)else none
def plainB(P:Program)(K:List TypeId)(t:TypeId):Bool:=
 match P.underlying t with
 |some (.int _)=>true
 |some .string=>true
 |some .bool=>true
 |some (.struct fs)=>fs.toList.all (fun f=>K.contains f.type)&&flat P fs.toList 0==some (P.cellsOf t)
 |some (.slice e)=>K.contains e&&decide (0<P.cellsOf e)
 |_=>false
def plainAll(P:Program)(K:List TypeId):Bool:=K.all (plainB P K)
mutual
def Conf(P:Program):D->TypeId->Prop
 |.int k n,t=>P.underlying t=some (.int k)/\(Lit.int k n).wf=true
 |.str l,t=>P.underlying t=some .string/\l.length<=maxLen
 |.bool b,t=>P.underlying t=some .bool
 |.agg l,t=>∃fs,P.underlying t=some (.struct fs)/\ConfL P l (fs.toList.map (·.type))
 |.sl W l,t=>∃e,P.underlying t=some (.slice e)/\W=P.cellsOf e/\ConfA P l e/\l.length<=maxLen
def ConfL(P:Program):List D->List TypeId->Prop
 |[],ts=>ts=[]
 |d::l,ts=>∃t ts',ts=t::ts'/\Conf P d t/\ConfL P l ts'
def ConfA(P:Program):List D->TypeId->Prop
 |[],_=>True
 |d::l,t=>Conf P d t/\ConfA P l t
end
theorem bkv(P:Program)(e:TypeId):∀l:List D,(∀k (hk:k<l.length),Conf P l[k] e)->ConfA P l e
 |[],h=>by unfold ConfA;trivial
 |d::l,h=>by
  unfold ConfA;exact⟨h 0 (by simp),bkv P e l fun k hk=>h (k+1) (by simpa using hk)⟩
theorem aqy{w:World}{a:Addr}{v:Value}(h:w.cell? a=some v):a.spot=none/\a.block<w.heap.size:=by
 obtain⟨g,off,sp⟩:=a;unfold World.cell? at h;simp only at h;split at h
 ·next hx=>
  refine⟨?_,(ZS.1 hx).1⟩;cases sp with
  |none=>rfl
  |some s=>simp at h
 ·cases h
section
variable {H:Type} {enc:TypeId×Value->H} {P:Program} {w:World} {base:Nat} {spare:Nat->Bool} {held:Bool} {K:List TypeId}
end
end
section
open Go.RowKit
inductive V where
 |mk (k n:Int) (s:List UInt8) (items:List V) (keys:List (List UInt8))
mutual
def V.toD:V->D
 |.mk k n s is ks=> .agg [.int .i64 k,.int .i64 n,.str s,.sl 5 (V.toDs is),.sl 1 (ks.map .str)]
def V.toDs:List V->List D
 |[]=>[]
 |v::l=>v.toD::V.toDs l
end
theorem V.toDs_map:∀l:List V,V.toDs l=l.map V.toD
 |[]=>rfl
 |v::l=>by rw[V.toDs,V.toDs_map l];rfl
theorem RdRow.below{w w':World}{W:Nat}{l:List D}{a:Option Addr}{i:Nat}(r:RdRow w (Old w) W l a i)(h:Below w.heap.size w w'):RdRow w' (Old w') W l a i:=
 RdRow.frame (fun g hg=>⟨h.block g hg,ZG hg h.size⟩) W l a i r
mutual
theorem V.induct{P:V->Prop}(h:∀k n s is ks,(∀x∈is,P x)->P (.mk k n s is ks)):∀v:V,P v
 |.mk k n s is ks=>h k n s is ks (V.inducts h is)
theorem V.inducts{P:V->Prop}(h:∀k n s is ks,(∀x∈is,P x)->P (.mk k n s is ks)):∀l:List V,∀x∈l,P x
 |[]=>by simp
 |v::l=>Y7.2 ⟨V.induct h v,V.inducts h l⟩
end
end
section
namespace Wire
def zig(n:Int):Nat:=if n<0 then(2*(-n-1)+1).toNat else(2*n).toNat
def zag(u:Nat):Int:=if u%2=1 then -((u/2:Nat):Int)-1 else((u/2:Nat):Int)
def encF:Nat->Nat->List UInt8
 |0,u=>[UInt8.ofNat u]
 |f+1,u=>if u<128 then[UInt8.ofNat u]else UInt8.ofNat (u%128+128)::encF f (u/128)
def num(n:Int):List UInt8:=encF 9 (zig n)
def strE(s:List UInt8):List UInt8:=num s.length++s
inductive G where
 |ok (n:Int) (long:Nat)
 |err (e:Int)
deriving DecidableEq
def grpF:Nat->Nat->Nat->List UInt8->G
 |0,_,_,_=> .err 5
 |f+1,i,u,l=>
  match l with
  |[]=> .err 40
  |c::r=>
   if i=9/\1<c.toNat then .err 5
   else if 128<=c.toNat then grpF f (i+1) (u+c.toNat%128*2^(7*i)) r
   else if 0<i/\c=0 then .err 1
   else .ok (zag (u+c.toNat%128*2^(7*i))) (i+1)
def grp(l:List UInt8):G:=grpF 10 0 0 l
structure St where
 rest:List UInt8
 e:Int
deriving DecidableEq
def numR(r:St):St×Int:=
 if r.e≠0 then(r,0)else match grp r.rest with
  |.err e=>(⟨r.rest,e⟩,0)
  |.ok n long=>(⟨r.rest.drop long,0⟩,n)
def cntR(r:St)(least:Nat):St×Nat:=
 if r.e≠0 then(r,0)else match grp r.rest with
  |.err e=>(⟨r.rest,e⟩,0)
  |.ok n long=>
   if n<0 then(⟨r.rest,1⟩,0)
   else if(((r.rest.length-long)/least:Nat):Int)<n then(⟨r.rest,40⟩,0)
   else(⟨r.rest.drop long,0⟩,n.toNat)
def strR(r:St):St×List UInt8:=
 let q:=cntR r 1
 if q.1.e≠0 then(q.1,[])else(⟨q.1.rest.drop q.2,0⟩,q.1.rest.take q.2)
theorem grpF_len:∀(f i u:Nat) (l:List UInt8) (n:Int) (long:Nat),grpF f i u l=.ok n long->i<long/\long-i<=l.length/\long<=i+f
 |0,i,u,l,n,long,h=>by simp[grpF]at h
 |f+1,i,u,l,n,long,h=>by
  cases l with
  |nil=>simp[grpF]at h
  |cons c r=>
   simp only[grpF]at h;split at h
   ·cases h
   ·split at h
    ·have:=grpF_len f (i+1) _ r n long h;simp;omega
    ·split at h
     ·cases h
     ·injection h with _ h;simp;omega
theorem grp_len(l:List UInt8)(n:Int)(long:Nat)(h:grp l=.ok n long):1<=long/\long<=l.length/\long<=10:=by
 have:=grpF_len 10 0 0 l n long h;omega
theorem zag_zig(n:Int):zag (zig n)=n:=by
 unfold zag zig;by_cases h:n<0
 ·rw[if_pos h,if_pos (by omega)];omega
 ·rw[if_neg h,if_neg (by omega)];omega
theorem zig_lt(n:Int)(h0:-9223372036854775808<=n)(h1:n<=9223372036854775807):zig n<18446744073709551616:=by
 unfold zig;split<;>omega
theorem encF_len:∀f u,1<=(encF f u).length/\(encF f u).length<=f+1
 |0,u=>by simp[encF]
 |f+1,u=>by
  unfold encF;split
  ·simp
  ·have:=encF_len f (u/128);simp;omega
theorem grpF_encF:∀(f i u acc:Nat) (l:List UInt8),i+f=9->u*2^(7*i)<18446744073709551616->(0<i->u≠0) ->
  grpF (f+1) i acc (encF f u++l)=.ok (zag (acc+u*2^(7*i))) (i+(encF f u).length)
 |0,i,u,acc,l,hi,hu,h0=>by
  obtain rfl:i=9:=by omega
  have hu2:u<2:=by
   have e:(2:Nat)^(7*9)=9223372036854775808:=by decide
   rw[e]at hu;omega
  have hn:(UInt8.ofNat u).toNat=u:=by rw[Yl];omega
  simp only[encF,ZE,Zq,grpF,hn];rw[if_neg (by omega),if_neg (by omega),if_neg ?_,YM (by omega)]
  ·rfl
  ·rintro⟨_,h⟩;have h1:=congrArg UInt8.toNat h;rw[hn]at h1;exact h0 (by omega) h1
 |f+1,i,u,acc,l,hi,hu,h0=>by
  unfold encF;by_cases h:u<128
  ·have hn:(UInt8.ofNat u).toNat=u:=by rw[Yl];omega
   rw[if_pos h];simp only[ZE,Zq,grpF,hn];rw[if_neg (by omega),if_neg (by omega),if_neg ?_,YM h]
   ·rfl
   ·rintro⟨h2,h3⟩;have h1:=congrArg UInt8.toNat h3;rw[hn]at h1;exact h0 h2 h1
  ·have hn:(UInt8.ofNat (u%128+128)).toNat=u%128+128:=by rw[Yl];omega
   rw[if_neg h]
   have e1:grpF (f+1+1) i acc (UInt8.ofNat (u%128+128)::encF f (u/128)++l)=(if i=9/\1<(UInt8.ofNat (u%128+128)).toNat then .err 5
    else if 128<=(UInt8.ofNat (u%128+128)).toNat then grpF (f+1) (i+1) (acc+(UInt8.ofNat (u%128+128)).toNat%128*2^(7*i)) (encF f (u/128)++l)
    else if 0<i/\UInt8.ofNat (u%128+128)=0 then .err 1
    else .ok (zag (acc+(UInt8.ofNat (u%128+128)).toNat%128*2^(7*i))) (i+1)):=rfl
   rw[e1,hn];have hp:(2:Nat)^(7*(i+1))=128*2^(7*i):=by
    rw[show 7*(i+1)=7+7*i by omega,Nat.pow_add]
   have hdm:=Nat.div_add_mod u 128;have hm:u/128*2^(7*(i+1))+u%128*2^(7*i)=u*2^(7*i):=by
    rw[hp,<-Nat.mul_assoc,<-YB];congr 1;omega
   rw[if_neg (by omega),if_pos (by omega),grpF_encF f (i+1) (u/128) _ l (by omega) (by omega) (by omega)];congr 1
   ·congr 1;rw[show(u%128+128)%128=u%128 by omega,<-hm];omega
   ·simp;omega
theorem grp_num(n:Int)(l:List UInt8)(h0:-9223372036854775808<=n)(h1:n<=9223372036854775807):grp (num n++l)=.ok n (num n).length:=by
 have:=grpF_encF 9 0 (zig n) 0 l rfl (by simpa using zig_lt n h0 h1) (by omega);unfold grp num;rw[this];simp[zag_zig]
end Wire
end
section
namespace Val
open Go.Op (bytesLess)
theorem less_irrefl:∀a:List UInt8,bytesLess a a=false
 |[]=>rfl
 |b::a=>by simp only[bytesLess];rw[less_irrefl a];simp
theorem less_total:∀a b:List UInt8,(!bytesLess a b)=(bytesLess b a||b==a)
 |[],[]=>rfl
 |[],b::y=>by simp[bytesLess]
 |a::x,[]=>by simp[bytesLess]
 |a::x,b::y=>by
  have ih:=less_total x y;simp only[bytesLess];rcases Nat.lt_trichotomy a.toNat b.toNat with h|h|h
  ·have h1:a<b:=Y4.2 h;have h2:¬b<a:=fun h'=>by have:=Y4.1 h';omega
   have h3:a≠b:=fun e=>by rw[e]at h;omega
   have h4:b≠a:=fun e=>h3 e.symm
   simp[h1,h2,h3,h4]
  ·have e:a=b:=YG.1 h;subst e;simp;simpa using ih
  ·have h1:b<a:=Y4.2 h;have h2:¬a<b:=fun h'=>by have:=Y4.1 h';omega
   have h3:a≠b:=fun e=>by rw[e]at h;omega
   simp[h1,h2,h3]
def textZ(s:List UInt8):Int:=if 4096<s.length then 3 else if Str.valid s then 0 else 1
def shapedB(k n:Int)(s:List UInt8)(ni nk:Nat):Bool:=
 decide (0<=k/\k<=6)&&(k==2||(k==1&&(n==0||n==1))||n==0)&&(k==3||s == [])&&(k==4||k==5||ni==0)&&(if k=5 then nk==ni else nk==0)
def badB:Option (List UInt8)->List UInt8->Bool
 |some q,k=>!bytesLess q k
 |none,_=>false
def keysZ:Option (List UInt8)->List (List UInt8)->Int
 |_,[]=>0
 |p,k::l=>if textZ k≠0 then textZ k else if badB p k then 1 else keysZ (some k) l
def nodeZ:V->Int
 |.mk k n s is ks=>if shapedB k n s is.length ks.length=false then 1 else if k=2/\¬(-9007199254740992<=n/\n<=9007199254740992)then 5 else if textZ s≠0 then textZ s else keysZ none ks
mutual
def chk:V->Nat->Nat->Int×Nat
 |.mk k n s is ks,lv,b=>if 32<lv then(4,b)else if 4096<=b then(14,b)else if nodeZ (.mk k n s is ks)≠0 then(nodeZ (.mk k n s is ks),b)else chks is (lv+1) (b+1)
def chks:List V->Nat->Nat->Int×Nat
 |[],_,b=>(0,b)
 |v::l,lv,b=>if(chk v lv b).1≠0 then chk v lv b else chks l lv (chk v lv b).2
end
def checkZ(v:V):Int:=(chk v 1 0).1
mutual
def left:V->Int->Int->Int
 |.mk _ _ _ is _,nd,lv=>if nd<1\/lv<1 then -1 else lefts is (nd-1) (lv-1)
def lefts:List V->Int->Int->Int
 |[],n,_=>n
 |v::l,n,lv=>if 0<=n then lefts l (left v n lv) lv else n
end
mutual
def keysN:V->Nat
 |.mk _ _ _ is ks=>ks.length+keysNs is
def keysNs:List V->Nat
 |[]=>0
 |v::l=>keysN v+keysNs l
end
def smallB(v:V)(nd:Int):Bool:=decide (0<=left v nd 40)&&decide ((keysN v:Int)<=2*nd)
def keyE:Bool->List (List UInt8)->List UInt8
 |true,k::_=>Wire.strE k
 |_,_=>[]
mutual
def enc:V->List UInt8
 |.mk k n s is ks=>Wire.num k++(if k=1\/k=2 then Wire.num n else if k=3 then Wire.strE s else if k=4\/k=5 then Wire.num is.length++encs (k==5) is ks else[])
def encs:Bool->List V->List (List UInt8)->List UInt8
 |_,[],_=>[]
 |m,v::l,ks=>keyE m ks++(enc v++encs m l ks.tail)
end
def zeroV:V:=.mk 0 0 [] [] []
abbrev Res:=Wire.St×Int×V
def itemsW(one:Wire.St->Res)(m:Bool):Nat->Wire.St->List V->List (List UInt8)->Wire.St×Int×List V×List (List UInt8)
 |0,r,is,ks=>(r,r.e,is,ks)
 |c+1,r,is,ks=>
  let q:=if m then Wire.strR r else(r,[])
  let x:=one q.1
  if x.2.1≠0 then(x.1,x.2.1,is,ks)else itemsW one m c x.1 (is++[x.2.2]) (if m then ks++[q.2]else ks)
def readW(one:Wire.St->Res)(r:Wire.St):Res:=
 if r.e≠0 then(r,r.e,zeroV)else
 let q:=Wire.numR r
 if q.1.e≠0 then(q.1,q.1.e,zeroV)
 else if q.2<0\/6<q.2 then(q.1,1,zeroV)
 else if q.2=1\/q.2=2 then((Wire.numR q.1).1,(Wire.numR q.1).1.e,.mk q.2 (Wire.numR q.1).2 [] [] [])
 else if q.2=3 then((Wire.strR q.1).1,(Wire.strR q.1).1.e,.mk q.2 0 (Wire.strR q.1).2 [] [])
 else if q.2=4\/q.2=5 then
  let c:=Wire.cntR q.1 1
  let x:=itemsW one (q.2==5) c.2 c.1 [] []
  (x.1,x.2.1,.mk q.2 0 [] x.2.2.1 x.2.2.2)
 else(q.1,0,.mk q.2 0 [] [] [])
def read:Nat->Wire.St->Res
 |0,r=>(r,(if r.e≠0 then r.e else 4),zeroV)
 |f+1,r=>readW (read f) r
def readValue(r:Wire.St):Res:=
 let x:=read 32 r
 if x.2.1≠0 then(x.1,x.2.1,zeroV)else if checkZ x.2.2≠0 then(x.1,checkZ x.2.2,zeroV)else x
end Val
end
section
open Go.RowKit
def Tri(w:World)(g:Nat)(T:TypeId)(a b c:Value):Prop:=w.heap[g]?=some (.cells #[a,b,c] T (0,0))
namespace Tri
variable {w w':World} {g:Nat} {T:TypeId} {a b c:Value}
theorem lt(h:Tri w g T a b c):g<w.heap.size:=(ZS.1 h).1
theorem below(h:Tri w g T a b c)(hb:Below w.heap.size w w'):Tri w' g T a b c:=(hb.block g h.lt).trans h
theorem facts(h:Tri w g T a b c):w.cell? ⟨g,0,none⟩=some a/\w.cell? ⟨g,1,none⟩=some b/\w.cell? ⟨g,2,none⟩=some c/\w.frozen? ⟨g,0,none⟩=false/\w.frozen? ⟨g,1,none⟩=false/\w.frozen? ⟨g,2,none⟩=false:=by
 refine⟨?_,?_,?_,?_,?_,?_⟩
 ·rw[cell_of_row _ _ _ _ _ _ h];rfl
 ·rw[cell_of_row _ _ _ _ _ _ h];rfl
 ·rw[cell_of_row _ _ _ _ _ _ h];rfl
 ·simp only[World.frozen?,show w.heap[g]?=_ from h];rfl
 ·simp only[World.frozen?,show w.heap[g]?=_ from h];rfl
 ·simp only[World.frozen?,show w.heap[g]?=_ from h];rfl
theorem fresh(w:World)(T:TypeId)(a b c:Value):Tri (w.alloc (.cells #[a,b,c] T)) w.heap.size T a b c:=heap_alloc_new w _
theorem draw(h:Tri w g T a b c):Tri w.drew g T a b c:=h
theorem set0(h:Tri w g T a b c)(u:Value):Tri (w.setCell ⟨g,0,none⟩ u) g T u b c:=by
 unfold Tri World.setCell at *;rw[Ys,if_pos rfl,h];rfl
theorem set1(h:Tri w g T a b c)(u:Value):Tri (w.setCell ⟨g,1,none⟩ u) g T a u c:=by
 unfold Tri World.setCell at *;rw[Ys,if_pos rfl,h];rfl
theorem grown{r:Nat}(h:Tri w g T a b c)(hg:w.grownBy w' (some r))(hne:g≠r):Tri w' g T a b c:=(hg.block g h.lt (by simpa using hne)).trans h
end Tri
theorem avx(w:World)(r:Option Nat):w.grownBy w r:=⟨rfl,rfl,rfl,Ze _,fun _ _ _=>rfl⟩
theorem azq{a b c:World}{r:Option Nat}(h:a.grownBy b r)(k:b.grownBy c r):a.grownBy c r:=
 ⟨k.os.trans h.os,k.tape.trans h.tape,k.output.trans h.output,Zr h.size k.size,fun g hg hne=>(k.block g (ZG hg h.size) hne).trans (h.block g hg hne)⟩
theorem bxr(w:World)(g i:Nat)(v:Value):w.grownBy (w.setCell ⟨g,i,none⟩ v) (some g):=
 ⟨rfl,rfl,rfl,by simp[World.setCell],fun k _ hk=>Below.heap_setCell _ _ _ _ (fun e=>hk (by simp[e]))⟩
theorem grown_below{a b:World}(r:Option Nat)(h:Below a.heap.size a b):a.grownBy b r:=⟨h.os,h.tape,h.output,h.size,fun g hg _=>h.block g hg⟩
end
section
open Go.RowKit
namespace Wire
structure Left(n:Int)(l:List UInt8)(u:Nat):Prop where
 eq:l++encF (9-l.length) u=num n
 len:l.length<=9
 lt:u*128^l.length<18446744073709551616
theorem Left.first(n:Int)(h0:-9223372036854775808<=n)(h1:n<=9223372036854775807):Left n [] (zig n):=⟨rfl,by simp,by simpa using zig_lt n h0 h1⟩
theorem Left.last{n:Int}{l:List UInt8}{u:Nat}(h:Left n l u)(hu:¬127<u):l++[UInt8.ofNat u]=num n:=by
 rw[<-h.eq];congr 1;cases 9-l.length with
 |zero=>rfl
 |succ f=>rw[encF,if_pos (by omega)]
theorem Left.next{n:Int}{l:List UInt8}{u:Nat}(h:Left n l u)(hu:127<u):Left n (l++[UInt8.ofNat (u%128+128)]) (u/128):=by
 have hl9:l.length<9:=by
  rcases Z0 l.length 9 with h9|h9
  ·exact h9
  ·exfalso
   have h3:=h.lt;have h4:(128:Nat)^9<=128^l.length:=YQ (by decide) h9;have h5:128*128^9<=u*128^l.length:=Nat.mul_le_mul (by omega) h4;have e:(128:Nat)*128^9=1180591620717411303424:=by decide
   omega
 refine⟨?_,by simp;omega,?_⟩
 ·rw[<-h.eq];have e:9-l.length=(9-(l.length+1))+1:=by omega
  rw[e,encF,if_neg (by omega)];simp
 ·have h3:=h.lt;have e:(l++[UInt8.ofNat (u%128+128)]).length=l.length+1:=by simp
  rw[e,Nat.pow_succ];have h5:u/128*(128^l.length*128)<=u*128^l.length:=by
   rw[Nat.mul_comm (128^l.length) 128,<-Nat.mul_assoc];exact Ym _ (Nat.div_mul_le_self u 128)
  exact Nat.lt_of_le_of_lt h5 h3
end Wire
theorem dvh(u m:Nat)(hm:u%128=m)(hu:u<18446744073709551616):bits .and .u64 (u:Int) 127=(m:Int):=by
 have h:=u64_and_nat u 127 hu (by omega);rw[show((127:Nat):Int)=127 from rfl]at h;rw[h,show u&&&127=u%2^7 from YV u 7,show(2:Nat)^7=128 from rfl,hm]
theorem dxq(m:Nat)(hm:m<128):bits .or .u8 (m:Int) 128=((m+128:Nat):Int):=by
 have h:=u8_or_nat m 128 (by omega) (by omega);rw[show((128:Nat):Int)=128 from rfl]at h;rw[h];have:=Nat.two_pow_add_eq_or_of_lt (i:=7) (b:=m) hm 1;rw[show(2:Nat)^7*1=128 from rfl]at this;rw[Nat.or_comm,<-this];omega
theorem bwn(a:Nat)(h:a<18446744073709551616):18446744073709551615^^^a=18446744073709551615-a:=by
 have e:(18446744073709551615:Nat)=2^64-1:=by decide
 have h2:a<2^64:=h;have e2:18446744073709551615-a=2^64-(a+1):=by
  have:(2:Nat)^64=18446744073709551616:=by decide
  omega
 rw[e2,e];apply Nat.eq_of_testBit_eq;intro i;rw[Nat.testBit_xor,Nat.testBit_two_pow_sub_one,Nat.testBit_two_pow_sub_succ h2];by_cases hi:i<64
 ·simp[hi]
 ·have:a.testBit i=false:=Nat.testBit_lt_two_pow (ZG h2 (YQ (by decide) (by omega)));simp[hi,this]
theorem aqq(n:Int):IntKind.u64.wrap n=n%18446744073709551616:=by simp[IntKind.wrap,IntKind.bits,IntKind.signed]
theorem dzz(n:Int)(z:Nat)(h:n<0)(h0:-9223372036854775808<=n)(hz:Wire.zig n=z):bits .xor .u64 IntKind.u64.max (IntKind.u64.wrap (IntKind.u64.wrap n*2))=(z:Int):=by
 unfold Wire.zig at hz;rw[if_pos h]at hz;obtain⟨a,ha⟩:∃a:Nat,IntKind.u64.wrap (IntKind.u64.wrap n*2)=a:=⟨(2*n+18446744073709551616).toNat,by rw[aqq,aqq];omega⟩;have ha2:(a:Int)=2*n+18446744073709551616:=by rw[<-ha,aqq,aqq];omega
 rw[ha,show IntKind.u64.max=((18446744073709551615:Nat):Int)from rfl,u64_xor_nat _ _ (by omega) (by omega),bwn a (by omega)];omega
theorem cyr(n:Int)(z:Nat)(h:¬n<0)(h1:n<=9223372036854775807)(hz:Wire.zig n=z):IntKind.u64.wrap (IntKind.u64.wrap n*2)=(z:Int):=by
 unfold Wire.zig at hz;rw[if_neg h]at hz;rw[aqq,aqq];omega
theorem bz5:(Tryz.prog.info? 5).map (fun i=>(i.zero,i.size,i.bytes))=some (some (.int .u8 0),1,1):=by kernel_rfl
theorem cj3{n:Int}{l:List UInt8}{u:Nat}(h:Wire.Left n l u):u<18446744073709551616:=by
 have h1:=h.lt;have h2:1<=128^l.length:=Nat.one_le_pow _ _ (by decide);have h3:u*1<=u*128^l.length:=Nat.mul_le_mul_left _ h2;omega
theorem akk(dst:List UInt8)(n:Int)(w:World)(hd:dst.length<=1000000000)(h0:-9223372036854775808<=n)(h1:n<=9223372036854775807):
  Calls Tryz.prog 185 #[.string ⟨dst.toArray⟩,.int .i64 n] w fun e w'=>e=.returned (.string ⟨(dst++Wire.num n).toArray⟩)/\Below w.heap.size w w':=by
 obtain⟨z,hz⟩:=Ex (Wire.zig n);have hL:=Wire.Left.first n h0 h1;rw[hz]at hL;have HL:=kept hL;clear hL;by_cases hn:n<0
 ·have hs:bits .xor .u64 IntKind.u64.max (IntKind.u64.wrap (IntKind.u64.wrap n*2))=(z:Int):=dzz n z hn h0 hz;clear h0 h1 hz;go_enter Tryz.func185,Tryz.ntmps185;go_wp2
  go_loopw [5,6] (fun uv bv wr=>∃(u:Nat) (l:List UInt8),uv=.int .u64 u/\OwnsB wr w.heap.size 5 bv l/\Wire.Left n l u/\Below w.heap.size w wr) (fun uv _ _=>(intOf uv).toNat)
  case atStart=>exact⟨z,[],rfl,OwnsB.nil _ _ _,HL.out,Below.refl _ _⟩
  case round=>
   obtain⟨u,l,rfl,hO,hL,hB⟩:=hrel;have HO:=kept hO;have HLu:=kept hL;have HB:=kept hB;clear hO hL hB HL;have hult:=cj3 HLu.out;have hlen:=HLu.out.len;by_cases hu:127<u
   ·have hu':(127:Int)<u:=by omega
    obtain⟨m,hm⟩:=Ex (u%128);obtain⟨y,hy⟩:=Ex (m+128);obtain⟨q,hq⟩:=Ex (u/128);have hm1:m<128:=by omega
    have hb1:=dvh u m hm hult;have hb2:(m:Int)%256=m:=by omega
    have hb3:=dxq m hm1;rw[hy]at hb3;have Hq:=kept hq;have HN:=kept (HLu.out.next hu);rw[hm,hy,hq]at HN;have hy1:y<256:=by omega
    have hsz:=HB.out.size;have hqu:q<u:=by omega
    have Hlen:=kept hlen;clear hm hy hq hm1 hult hlen HLu;go_wp2_with (at_builtin;refine wpList_append_byte rfl _ _ 190 5 rfl Tryz.underlying190 bz5 w.heap.size _ _ rfl (HO.out.below ((Below.refl _ _).alloc (Ze _) _) (Ze _)) (HB.out.alloc hsz _) ⟨wr.heap.size,0,none⟩ 1 (y:Int) rfl ?_ ?_ ?_ ?_ ?_ ?_)
    ·simp
    ·omega
    ·omega
    ·have:=Hlen.out;omega
    ·simp;omega
    ·intro v' w' hown' hbel' _;have Ho':=kept hown';have Hl':=kept hbel';clear hsz hown' hbel';go_wp2;have hdq:(u:Int)/128=(q:Int):=by have:=Hq.out;omega
     rw[hdq];exact⟨⟨q,_,rfl,Ho'.out,HN.out,Hl'.out⟩,by simp[intOf];omega⟩
   ·have hu':¬(127:Int)<u:=by omega
    have hb2:(u:Int)%256=u:=by omega
    have hsz:=HB.out.size;have HN:=kept (HLu.out.last hu);have Hlen:=kept hlen;clear hult hlen HLu;go_wp2_with (at_builtin;refine wpList_append_byte rfl _ _ 190 5 rfl Tryz.underlying190 bz5 w.heap.size _ _ rfl (HO.out.below ((Below.refl _ _).alloc (Ze _) _) (Ze _)) (HB.out.alloc hsz _) ⟨wr.heap.size,0,none⟩ 1 (u:Int) rfl ?_ ?_ ?_ ?_ ?_ ?_)
    ·omega
    ·have:=Hlen.out;omega
    ·omega
    ·intro v' w' hown' hbel' _;rw[HN.out]at hown';have hc:=hown'.conv (P:=Tryz.prog) 190 9 Tryz.underlying190 Tryz.underlying5 Tryz.underlying9;have hnl:=(Wire.encF_len 9 (Wire.zig n)).2;have hcat:(Op.stringOp .add ⟨dst.toArray⟩ ⟨(Wire.num n).toArray⟩).run Tryz.prog w'=.ok (.string ⟨(dst++Wire.num n).toArray⟩) w':=avq w' rfl rfl (by show dst.length+(Wire.encF 9 (Wire.zig n)).length<_;omega);have Hl':=kept hbel';clear hsz hown' hbel' hnl;go_wp2
     go_ret
     exact⟨rfl,Hl'.out⟩
 ·have hs:IntKind.u64.wrap (IntKind.u64.wrap n*2)=(z:Int):=cyr n z hn h1 hz;clear h0 h1 hz;go_enter Tryz.func185,Tryz.ntmps185;go_wp2
  go_loopw [5,6] (fun uv bv wr=>∃(u:Nat) (l:List UInt8),uv=.int .u64 u/\OwnsB wr w.heap.size 5 bv l/\Wire.Left n l u/\Below w.heap.size w wr) (fun uv _ _=>(intOf uv).toNat)
  case atStart=>exact⟨z,[],rfl,OwnsB.nil _ _ _,HL.out,Below.refl _ _⟩
  case round=>
   obtain⟨u,l,rfl,hO,hL,hB⟩:=hrel;have HO:=kept hO;have HLu:=kept hL;have HB:=kept hB;clear hO hL hB HL;have hult:=cj3 HLu.out;have hlen:=HLu.out.len;by_cases hu:127<u
   ·have hu':(127:Int)<u:=by omega
    obtain⟨m,hm⟩:=Ex (u%128);obtain⟨y,hy⟩:=Ex (m+128);obtain⟨q,hq⟩:=Ex (u/128);have hm1:m<128:=by omega
    have hb1:=dvh u m hm hult;have hb2:(m:Int)%256=m:=by omega
    have hb3:=dxq m hm1;rw[hy]at hb3;have Hq:=kept hq;have HN:=kept (HLu.out.next hu);rw[hm,hy,hq]at HN;have hy1:y<256:=by omega
    have hsz:=HB.out.size;have hqu:q<u:=by omega
    have Hlen:=kept hlen;clear hm hy hq hm1 hult hlen HLu;go_wp2_with (at_builtin;refine wpList_append_byte rfl _ _ 190 5 rfl Tryz.underlying190 bz5 w.heap.size _ _ rfl (HO.out.below ((Below.refl _ _).alloc (Ze _) _) (Ze _)) (HB.out.alloc hsz _) ⟨wr.heap.size,0,none⟩ 1 (y:Int) rfl ?_ ?_ ?_ ?_ ?_ ?_)
    ·simp
    ·omega
    ·omega
    ·have:=Hlen.out;omega
    ·simp;omega
    ·intro v' w' hown' hbel' _;have Ho':=kept hown';have Hl':=kept hbel';clear hsz hown' hbel';go_wp2;have hdq:(u:Int)/128=(q:Int):=by have:=Hq.out;omega
     rw[hdq];exact⟨⟨q,_,rfl,Ho'.out,HN.out,Hl'.out⟩,by simp[intOf];omega⟩
   ·have hu':¬(127:Int)<u:=by omega
    have hb2:(u:Int)%256=u:=by omega
    have hsz:=HB.out.size;have HN:=kept (HLu.out.last hu);have Hlen:=kept hlen;clear hult hlen HLu;go_wp2_with (at_builtin;refine wpList_append_byte rfl _ _ 190 5 rfl Tryz.underlying190 bz5 w.heap.size _ _ rfl (HO.out.below ((Below.refl _ _).alloc (Ze _) _) (Ze _)) (HB.out.alloc hsz _) ⟨wr.heap.size,0,none⟩ 1 (u:Int) rfl ?_ ?_ ?_ ?_ ?_ ?_)
    ·omega
    ·have:=Hlen.out;omega
    ·omega
    ·intro v' w' hown' hbel' _;rw[HN.out]at hown';have hc:=hown'.conv (P:=Tryz.prog) 190 9 Tryz.underlying190 Tryz.underlying5 Tryz.underlying9;have hnl:=(Wire.encF_len 9 (Wire.zig n)).2;have hcat:(Op.stringOp .add ⟨dst.toArray⟩ ⟨(Wire.num n).toArray⟩).run Tryz.prog w'=.ok (.string ⟨(dst++Wire.num n).toArray⟩) w':=avq w' rfl rfl (by show dst.length+(Wire.encF 9 (Wire.zig n)).length<_;omega);have Hl':=kept hbel';clear hsz hown' hbel' hnl;go_wp2
     go_ret
     exact⟨rfl,Hl'.out⟩
def Rdr(w:World)(g:Nat)(r:Wire.St):Prop:=Tri w g 164 (.string ⟨r.rest.toArray⟩) (.int .i64 r.e) (.bool true)
def grpEnd:Wire.G->Ending
 |.ok n long=> .returned (.tuple #[.int .i64 n,.int .i64 (long:Nat),.int .i64 0])
 |.err e=> .returned (.tuple #[.int .i64 0,.int .i64 0,.int .i64 e])
theorem cwh(b:UInt8):∃u:Int,(b.toNat:Int)=u/\0<=u/\u<256:=⟨_,rfl,by omega,by have:=b.toNat_lt;omega⟩
namespace Wire
structure Reads(l:List UInt8)(i u:Nat):Prop where
 eq:grpF (10-i) i u (l.drop i)=grp l
 len:i<=9
 le:i<=l.length
 lt:u<2^(7*i)
theorem Reads.first(l:List UInt8):Reads l 0 0:=⟨rfl,by omega,by omega,by decide⟩
theorem Reads.stop{l:List UInt8}{i u:Nat}(h:Reads l i u)(he:i=l.length):grp l=.err 40:=by
 rw[<-h.eq,he,List.drop_length,show 10-l.length=(9-l.length)+1 by have:=h.len;omega];rfl
theorem Reads.step{l:List UInt8}{i u:Nat}(h:Reads l i u)(hi:i<l.length):grp l =
  (if i=9/\1<l[i].toNat then .err 5
   else if 128<=l[i].toNat then grpF (9-i) (i+1) (u+l[i].toNat%128*2^(7*i)) (l.drop (i+1))
   else if 0<i/\l[i]=0 then .err 1
   else .ok (zag (u+l[i].toNat%128*2^(7*i))) (i+1)):=by
 rw[<-h.eq,Zu hi,show 10-i=(9-i)+1 by have:=h.len;omega];rfl
theorem Reads.next{l:List UInt8}{i u:Nat}(h:Reads l i u)(hi:i<l.length)(h1:¬(i=9/\1<l[i].toNat))(h2:128<=l[i].toNat):Reads l (i+1) (u+l[i].toNat%128*2^(7*i)):=by
 have hs:=h.step hi;rw[if_neg h1,if_pos h2]at hs;have hl:=h.len;refine⟨by rw[show 10-(i+1)=9-i by omega];exact hs.symm,by omega,by omega,?_⟩;have e:(2:Nat)^(7*(i+1))=128*2^(7*i):=by rw[show 7*(i+1)=7+7*i by omega,Nat.pow_add]
 rw[e];have h3:=h.lt;have h4:l[i].toNat%128*2^(7*i)<=127*2^(7*i):=Ym _ (by omega);omega
end Wire
theorem bwg(i m:Nat)(hi:i<=9)(hm:m<128)(h9:i=9->m<=1):m*2^(7*i)<=9223372036854775808:=by
 by_cases h:i=9
 ·subst h;have e:(2:Nat)^(7*9)=9223372036854775808:=by decide
  rw[e];have:=h9 rfl;omega
 ·have h1:(2:Nat)^(7*i)<=2^56:=YQ (by decide) (by omega);have e:(2:Nat)^56=72057594037927936:=by decide
  have h2:m*2^(7*i)<=127*72057594037927936:=Nat.mul_le_mul (by omega) (by omega);omega
theorem cka(u i m:Nat)(c:Int)(hc0:0<=c)(hc1:c<256)(hm:c.toNat%128=m)(hi:i<=9)(h9:i=9->m<=1)(hu:u<2^(7*i)):
  bits .or .u64 (u:Int) (IntKind.u64.wrap (IntKind.u64.wrap (bits .and .u8 c 127)*2^(7*i)))=((u+m*2^(7*i):Nat):Int):=by
 have ha:bits .and .u8 c 127=(m:Int):=by
  rw[u8_and c 127 hc0 hc1 (by omega) (by omega),show(127:Int).toNat=127 from rfl,show c.toNat&&&127=c.toNat%2^7 from YV _ 7,show(2:Nat)^7=128 from rfl,hm]
 have hm1:m<128:=by omega
 have hs:=bwg i m hi hm1 h9;have hp:(2:Nat)^(7*i)<=2^63:=YQ (by decide) (by omega);have e63:(2:Nat)^63=9223372036854775808:=by decide
 have e1:IntKind.u64.wrap (m:Int)=(m:Int):=by rw[aqq];omega
 have e2:(m:Int)*2^(7*i)=((m*2^(7*i):Nat):Int):=by push_cast;rfl
 have e3:IntKind.u64.wrap ((m*2^(7*i):Nat):Int)=((m*2^(7*i):Nat):Int):=by rw[aqq];omega
 rw[ha,e1,e2,e3,u64_or_nat _ _ (by omega) (by omega),Nat.or_comm,nat_join (7*i) _ _ (Nat.mul_mod_left _ _) hu];omega
theorem cyx(v:Nat)(hv:v<18446744073709551616)(h:v%2=1):wrap64 (bits .xor .u64 IntKind.u64.max ((v:Int)/2))=Wire.zag v:=by
 have e:(v:Int)/2=((v/2:Nat):Int):=by omega
 unfold Wire.zag;rw[e,show IntKind.u64.max=((18446744073709551615:Nat):Int)from rfl,u64_xor_nat _ _ (by omega) (by omega),bwn _ (by omega),if_pos h];unfold wrap64;omega
theorem ckb(v:Nat)(hv:v<18446744073709551616)(h:¬v%2=1):wrap64 ((v:Int)/2)=Wire.zag v:=by
 unfold Wire.zag wrap64;rw[if_neg h];omega
theorem and_one(v:Nat)(hv:v<18446744073709551616):bits .and .u64 (v:Int) 1=((v%2:Nat):Int):=by
 have h:=u64_and_nat v 1 hv (by omega);rw[show((1:Nat):Int)=1 from rfl]at h;rw[h,Nat.and_one_is_mod]
theorem group_any(r:Wire.St)(g:Nat)(w:World)(h:Rdr w g r)(hl:r.rest.length<=100000000):
  Calls Tryz.prog 124 #[.pointer (some ⟨g,0,none⟩)] w fun e w'=>e=grpEnd (Wire.grp r.rest)/\w'=w:=by
 obtain⟨x0,x1,x2,_,_,_⟩:=Tri.facts h;obtain⟨l,e0⟩:=r;simp only at x0 hl;obtain⟨G,hG⟩:=Ex (Wire.grp l);show Calls Tryz.prog _ _ w fun e w'=>e=grpEnd (Wire.grp l)/\w'=w
 rw[hG];have HG:=kept hG;clear hG h;go_enter Tryz.func124,Tryz.ntmps124;go_wp2
 go_loopw [6,5] (fun iv uv wr=>∃(i u:Nat),iv=.int .i64 i/\uv=.int .u64 u/\wr=w/\Wire.Reads l i u) (fun iv _ _=>10-(intOf iv).toNat)
 case atStart=>exact⟨0,0,rfl,rfl,rfl,Wire.Reads.first l⟩
 case round=>
  obtain⟨i,u,rfl,rfl,rfl,hR⟩:=hrel;have HR:=kept hR;have hi9:=hR.len;have hil:=hR.le;clear hR;by_cases he:i=l.length
  ·have he':((i:Int)==(l.length:Int))=true:=by simp;omega
   have HQ:=kept (show Wire.G.err 40=G by rw[<-HG.out,HR.out.stop he]);go_wp2;exact bodyPost_ret (v:=.tuple #[.int .i64 0,.int .i64 0,.int .i64 40]) (by simp[results,Tryz.results124,go_sem]) rfl ⟨by rw[<-HQ.out];rfl,rfl⟩
  ·have he':((i:Int)==(l.length:Int))=false:=by simp;omega
   have hlt:i<l.length:=by omega
   have hlt':(i:Int)<l.length:=by omega
   have hst:=HR.out.step hlt;have hnx:=HR.out.next hlt;have hks:i<(⟨l.toArray⟩:ByteArray).size:=by rw[size_mk];omega
   obtain⟨c,hc,hc0,hc1⟩:=cwh ((⟨l.toArray⟩:ByteArray)[i]'hks);have hcl:l[i].toNat=c.toNat:=by have:(l[i].toNat:Int)=c:=hc;omega
   rw[hcl]at hst hnx;obtain⟨m,hm⟩:=Ex (c.toNat%128);rw[hm]at hst hnx;have hc128:(128<=c.toNat)=(127<c):=by apply propext;omega
   have hc1':(1<c.toNat)=(1<c):=by apply propext;omega
   have hcz:(l[i]=0)=(c=0):=by
    apply propext;rw[<-YG,hcl];simp;omega
   simp only[hc128,hc1',hcz]at hst;simp only[hc128,hc1']at hnx;clear hc128 hc1' hcz;have hlt7:=HR.out.lt;by_cases h9:i=9/\1<c
   ·obtain⟨hi,h1⟩:=h9;have hi':((i:Int)==9)=true:=by simp;omega
    have HQ:=kept (show Wire.G.err 5=G by rw[<-HG.out,hst,if_pos ⟨hi,h1⟩]);clear hst hnx hcl hm hlt7 hi;go_wp2;exact bodyPost_ret (v:=.tuple #[.int .i64 0,.int .i64 0,.int .i64 5]) (by simp[results,Tryz.results124,go_sem]) rfl ⟨by rw[<-HQ.out];rfl,rfl⟩
   rw[if_neg h9]at hst;have h9m:i=9->m<=1:=fun h=>by have:¬1<c:=fun h1=>h9 ⟨h,h1⟩;omega
   have hor:=cka u i m c hc0 hc1 hm hi9 h9m hlt7;obtain⟨v,hv⟩:=Ex (u+m*2^(7*i));have hvl:v<18446744073709551616:=by
    have h1:=bwg i m hi9 (by omega) h9m;have hp:(2:Nat)^(7*i)<=2^63:=YQ (by decide) (by omega);have e63:(2:Nat)^63=9223372036854775808:=by decide
    omega
   rw[hv]at hor hst hnx;have Hor:Kept (i=9->bits .or .u64 (u:Int) (IntKind.u64.wrap (IntKind.u64.wrap (bits .and .u8 c 127)*9223372036854775808))=(v:Int)):=kept (fun h=>by subst h;exact hor);have hcond:((i:Int)==9&&decide (1<c))=false:=by
    rw[Zal];by_cases h:i=9
    ·right;have:¬1<c:=fun h1=>h9 ⟨h,h1⟩;simpa using this
    ·left;simp;omega
   by_cases hb:127<c
   ·have HN:=kept (hnx (by simpa using h9) hb);clear hst hnx hcl hm hlt7 hv hcond h9m;by_cases hi:i=9
    ·exact absurd hi (by omega)
    have hi':((i:Int)==9)=false:=by simp;omega
    clear h9;go_wp2;exact⟨⟨i+1,v,by go_num,rfl,trivial,HN.out⟩,by simp[intOf];omega⟩
   ·rw[if_neg hb]at hst;by_cases hz:0<i/\c=0
    ·obtain⟨hz1,hz2⟩:=hz;have HQ:=kept (show Wire.G.err 1=G by rw[<-HG.out,hst,if_pos ⟨hz1,hz2⟩]);have hz':(0:Int)<(i:Int):=by omega
     subst hz2;clear hst hnx hcl hm hlt7 hv hcond h9m h9;by_cases hi:i=9
     ·subst hi;go_wp2;exact bodyPost_ret (v:=.tuple #[.int .i64 0,.int .i64 0,.int .i64 1]) (by simp[results,Tryz.results124,go_sem]) rfl ⟨by rw[<-HQ.out];rfl,rfl⟩
     ·have hi':((i:Int)==9)=false:=by simp;omega
      go_wp2;exact bodyPost_ret (v:=.tuple #[.int .i64 0,.int .i64 0,.int .i64 1]) (by simp[results,Tryz.results124,go_sem]) rfl ⟨by rw[<-HQ.out];rfl,rfl⟩
    ·rw[if_neg hz]at hst;have HQ:=kept (show Wire.G.ok (Wire.zag v) (i+1)=G by rw[<-HG.out,hst]);have hz1:((decide (0<(i:Int)))&&(c==0))=false:=by
      rw[Zal];by_cases h:c=0
      ·left;have:¬0<i:=fun h0=>hz ⟨h0,h⟩;simp;omega
      ·right;simpa using h
     have ho1:=and_one v hvl;clear hst hnx hcl hm hlt7 hv hcond;have Hz:=kept hz;have H9:=kept h9;clear hz h9;rcases Nat.mod_two_eq_zero_or_one v with hpar|hpar;all_goals rw[hpar]at ho1
     all_goals have Hvl:=kept hvl
     ·have hzg:=ckb v hvl (by omega);clear hvl hpar;by_cases hi:i=9
      ·have hi':((i:Int)==9)=true:=by simp;omega
       have hc1n:¬1<c:=fun h=>H9.out ⟨hi,h⟩
       have hi1:(0:Int)<(i:Int):=by omega
       have hc0n:(c==0)=false:=by have h:=fun h=>Hz.out ⟨by omega,h⟩;simpa using h
       clear hi hi9;go_wp2;exact bodyPost_ret (v:=.tuple #[.int .i64 (Wire.zag v),.int .i64 ((i:Int)+1),.int .i64 0]) (by simp[results,Tryz.results124,go_sem]) rfl ⟨by rw[<-HQ.out];simp[grpEnd],rfl⟩
      ·have hi':((i:Int)==9)=false:=by simp;omega
       by_cases hi0:i=0
       ·have hi1:¬(0:Int)<(i:Int):=by omega
        clear hi hi0;go_wp2;exact bodyPost_ret (v:=.tuple #[.int .i64 (Wire.zag v),.int .i64 ((i:Int)+1),.int .i64 0]) (by simp[results,Tryz.results124,go_sem]) rfl ⟨by rw[<-HQ.out];simp[grpEnd],rfl⟩
       ·have hi1:(0:Int)<(i:Int):=by omega
        have hi1n:0<i:=by omega
        have hc0n:(c==0)=false:=by have h:=fun h=>Hz.out ⟨hi1n,h⟩;simpa using h
        clear hi hi0;go_wp2;exact bodyPost_ret (v:=.tuple #[.int .i64 (Wire.zag v),.int .i64 ((i:Int)+1),.int .i64 0]) (by simp[results,Tryz.results124,go_sem]) rfl ⟨by rw[<-HQ.out];simp[grpEnd],rfl⟩
     ·have hzg:=cyx v hvl hpar;clear hvl hpar;by_cases hi:i=9
      ·have hi':((i:Int)==9)=true:=by simp;omega
       have hc1n:¬1<c:=fun h=>H9.out ⟨hi,h⟩
       have hi1:(0:Int)<(i:Int):=by omega
       have hc0n:(c==0)=false:=by have h:=fun h=>Hz.out ⟨by omega,h⟩;simpa using h
       clear hi hi9;go_wp2;exact bodyPost_ret (v:=.tuple #[.int .i64 (Wire.zag v),.int .i64 ((i:Int)+1),.int .i64 0]) (by simp[results,Tryz.results124,go_sem]) rfl ⟨by rw[<-HQ.out];simp[grpEnd],rfl⟩
      ·have hi':((i:Int)==9)=false:=by simp;omega
       by_cases hi0:i=0
       ·have hi1:¬(0:Int)<(i:Int):=by omega
        clear hi hi0;go_wp2;exact bodyPost_ret (v:=.tuple #[.int .i64 (Wire.zag v),.int .i64 ((i:Int)+1),.int .i64 0]) (by simp[results,Tryz.results124,go_sem]) rfl ⟨by rw[<-HQ.out];simp[grpEnd],rfl⟩
       ·have hi1:(0:Int)<(i:Int):=by omega
        have hi1n:0<i:=by omega
        have hc0n:(c==0)=false:=by have h:=fun h=>Hz.out ⟨hi1n,h⟩;simpa using h
        clear hi hi0;go_wp2;exact bodyPost_ret (v:=.tuple #[.int .i64 (Wire.zag v),.int .i64 ((i:Int)+1),.int .i64 0]) (by simp[results,Tryz.results124,go_sem]) rfl ⟨by rw[<-HQ.out];simp[grpEnd],rfl⟩
end
section
open Go.RowKit
namespace Rdr
variable {w w':World} {g:Nat} {r:Wire.St}
theorem below(h:Rdr w g r)(hb:Below w.heap.size w w'):Rdr w' g r:=Tri.below h hb
theorem lt(h:Rdr w g r):g<w.heap.size:=Tri.lt h
theorem fail(h:Rdr w g r)(e:Int):Rdr (w.setCell ⟨g,1,none⟩ (.int .i64 e)) g ⟨r.rest,e⟩:=Tri.set1 h _
theorem put(h:Rdr w g r)(l:List UInt8):Rdr (w.setCell ⟨g,0,none⟩ (.string ⟨l.toArray⟩)) g ⟨l,r.e⟩:=Tri.set0 h _
end Rdr
theorem ak5(g:Nat)(r:Wire.St)(w:World)(h:Rdr w g r):
  Calls Tryz.prog 123 #[.pointer (some ⟨g,0,none⟩)] w fun e w'=>e=.returned (.bool (r.e==0))/\∃k,w'=w.drewN k:=by
 obtain⟨x0,x1,x2,_,_,_⟩:=Tri.facts h;go_enter Tryz.func123,Tryz.ntmps123;go_wp2
 go_ret
 exact⟨rfl,0,rfl⟩
theorem aq3(g:Nat)(r:Wire.St)(e:Int)(w:World)(h:Rdr w g r):
  Calls Tryz.prog 125 #[.pointer (some ⟨g,0,none⟩),.int .i64 e] w fun e' w'=>e'=.returned (.bool (e !=0))/\Rdr w' g ⟨r.rest,if e=0 then r.e else e⟩/\w.grownBy w' (some g):=by
 obtain⟨x0,x1,x2,y0,y1,y2⟩:=Tri.facts h;by_cases he:e=0
 ·subst he;go_enter Tryz.func125,Tryz.ntmps125;go_wp2
  go_ret
  exact⟨rfl,by first|exact h|trivial,avx _ _⟩
 ·have he':(e !=0)=true:=by simpa using he
  rw[if_neg he];go_enter Tryz.func125,Tryz.ntmps125;go_wp2
  go_ret
  exact⟨by rw[he'];rfl,h.fail e,bxr _ _ _ _⟩
theorem move_any(g:Nat)(r:Wire.St)(n:Nat)(w:World)(h:Rdr w g r)(hn:n<=r.rest.length):
  Calls Tryz.prog 126 #[.pointer (some ⟨g,0,none⟩),.int .i64 n] w fun e w'=>e=.returned (.string ⟨(r.rest.take n).toArray⟩)/\Rdr w' g ⟨r.rest.drop n,r.e⟩/\w.grownBy w' (some g):=by
 obtain⟨x0,x1,x2,y0,y1,y2⟩:=Tri.facts h;have hn':(n:Int)<=r.rest.length:=by omega
 have e1:(⟨r.rest.toArray⟩:ByteArray).extract 0 n=⟨(r.rest.take n).toArray⟩:=by apply ByteArray.ext;simp
 have e2:(⟨r.rest.toArray⟩:ByteArray).extract n r.rest.length=⟨(r.rest.drop n).toArray⟩:=by
  apply ByteArray.ext;apply Ya.1;simp;exact Zy (by simp)
 go_enter Tryz.func126,Tryz.ntmps126;go_wp2
 go_ret
 exact⟨rfl,h.put _,bxr _ _ _ _⟩
namespace Wire
theorem grpF_err:∀(f i u:Nat) (l:List UInt8) (e:Int),grpF f i u l=.err e->e=5\/e=40\/e=1
 |0,i,u,l,e,h=>by simp[grpF]at h;omega
 |f+1,i,u,l,e,h=>by
  cases l with
  |nil=>simp[grpF]at h;omega
  |cons c r=>
   simp only[grpF]at h;split at h
   ·injection h with h;omega
   ·split at h
    ·exact grpF_err f (i+1) _ r e h
    ·split at h
     ·injection h with h;omega
     ·cases h
theorem grp_err(l:List UInt8)(e:Int)(h:grp l=.err e):e≠0:=by
 have:=grpF_err 10 0 0 l e h;omega
end Wire
theorem czm(g:Nat)(r:Wire.St)(w:World)(h:Rdr w g r)(hl:r.rest.length<=100000000):
  Calls Tryz.prog 89 #[.pointer (some ⟨g,0,none⟩)] w fun e w'=>e=.returned (.int .i64 (Wire.numR r).2)/\Rdr w' g (Wire.numR r).1/\w.grownBy w' (some g):=by
 have H:=kept h;have Hr:=kept (ak5 g r w h);by_cases he:r.e=0
 ·rw[show(r.e==0)=true by simpa using he]at Hr;have He:=kept he;have Hg:=kept (fun w (h:Rdr w g r)=>group_any r g w h hl);obtain⟨G,hG⟩:=Ex (Wire.grp r.rest);rw[hG]at Hg;cases G with
  |ok n long=>
   have hlen:=Wire.grp_len r.rest n long hG;have HN:=kept (show Wire.numR r=(⟨r.rest.drop long,0⟩,n) by unfold Wire.numR;rw[if_neg (by simpa using he),hG]);clear hG he h;go_enter Tryz.func89,Tryz.ntmps89;go_wp2_with fail;(with_reducible refine(Hr.out).mono ?_);rintro e w1 ⟨rfl,k1,rfl⟩
   have H1:=kept (show Rdr (w.drewN k1) g r from Tri.below H.out (below_drewN (Below.refl _ _) k1));go_wp2_with fail;(with_reducible refine(Hg.out _ H1.out).mono ?_);rintro e w2 ⟨rfl,rfl⟩
   unfold grpEnd;have Hf:=kept (aq3 g r 0 _ H1.out);go_wp2_with fail;(with_reducible refine(Hf.out).mono ?_);rintro e w3 ⟨rfl,h3,g3⟩
   have H3:=kept (show Rdr w3 g r by simpa using h3);have G3:=kept (azq (grown_below (some g) (below_drewN (Below.refl _ _) k1)) g3);clear h3 g3;have Hm:=kept (move_any g r long w3 H3.out hlen.2.1);go_wp2_with fail;(with_reducible refine(Hm.out).mono ?_);rintro e w4 ⟨rfl,h4,g4⟩
   have G4:=kept (azq G3.out g4);have H4:=kept h4;clear h4 g4;go_wp2
   go_ret
   rw[HN.out];exact⟨rfl,by have:=H4.out;rw[He.out]at this;exact this,G4.out⟩
  |err e0=>
   have hne:=Wire.grp_err r.rest e0 hG;have hne':(e0 !=0)=true:=by simpa using hne
   have HN:=kept (show Wire.numR r=(⟨r.rest,e0⟩,0) by unfold Wire.numR;rw[if_neg (by simpa using he),hG]);clear hG he h;go_enter Tryz.func89,Tryz.ntmps89;go_wp2_with fail;(with_reducible refine(Hr.out).mono ?_);rintro e w1 ⟨rfl,k1,rfl⟩
   have H1:=kept (show Rdr (w.drewN k1) g r from Tri.below H.out (below_drewN (Below.refl _ _) k1));go_wp2_with fail;(with_reducible refine(Hg.out _ H1.out).mono ?_);rintro e w2 ⟨rfl,rfl⟩
   unfold grpEnd;have Hf:=kept (aq3 g r e0 _ H1.out);rw[hne']at Hf;go_wp2_with fail;(with_reducible refine(Hf.out).mono ?_);rintro e w3 ⟨rfl,h3,g3⟩
   have H3:=kept (show Rdr w3 g ⟨r.rest,e0⟩ by rw[if_neg hne]at h3;exact h3);have G3:=kept (azq (grown_below (some g) (below_drewN (Below.refl _ _) k1)) g3);clear h3 g3;go_wp2
   go_ret
   rw[HN.out];exact⟨rfl,H3.out,G3.out⟩
 ·rw[show(r.e==0)=false by simpa using he]at Hr;have HN:=kept (show Wire.numR r=(r,0) by unfold Wire.numR;rw[if_pos he]);clear he h;go_enter Tryz.func89,Tryz.ntmps89;go_wp2_with fail;(with_reducible refine(Hr.out).mono ?_);rintro e w1 ⟨rfl,k1,rfl⟩
  go_wp2
  go_ret
  rw[HN.out];exact⟨rfl,Tri.below H.out (below_drewN (Below.refl _ _) k1),grown_below (some g) (below_drewN (Below.refl _ _) k1)⟩
end
section
open Go.RowKit
def sizeEnd:Wire.G->Ending
 |.ok n long=> .returned (.tuple #[.int .i64 n,.int .i64 (long:Nat),.bool (!decide (n<0))])
 |.err _=> .returned (.tuple #[.int .i64 0,.int .i64 0,.bool false])
def sizeErr:Wire.G->Int
 |.ok n _=>if n<0 then 1 else 0
 |.err e=>e
theorem size_any(g:Nat)(r:Wire.St)(w:World)(h:Rdr w g r)(hl:r.rest.length<=100000000)(he:r.e=0):
  Calls Tryz.prog 151 #[.pointer (some ⟨g,0,none⟩)] w fun e w'=>e=sizeEnd (Wire.grp r.rest)/\Rdr w' g ⟨r.rest,sizeErr (Wire.grp r.rest)⟩/\w.grownBy w' (some g):=by
 have Hg:=kept (fun w (h:Rdr w g r)=>group_any r g w h hl);have H:=kept h;have He:=kept he;have hne:=Wire.grp_err r.rest;obtain⟨G,hG⟩:=Ex (Wire.grp r.rest);rw[hG]at Hg hne⊢;clear hG h he;cases G with
 |ok n long=>
  by_cases hn:n<0
  ·have Hf:=kept (aq3 g r 1 w H.out);have hnd:decide (n<0)=true:=by simpa using hn
   clear hne;go_enter Tryz.func151,Tryz.ntmps151;go_wp2_with fail;(with_reducible refine(Hg.out _ H.out).mono ?_);rintro e w2 ⟨rfl,rfl⟩
   unfold grpEnd;go_wp2_with fail;(with_reducible refine(Hf.out).mono ?_);rintro e w3 ⟨rfl,h3,g3⟩
   have H3:=kept h3;have G3:=kept g3;clear h3 g3;go_wp2;exact bodyPost_ret (v:=.tuple #[.int .i64 n,.int .i64 (long:Nat),.bool false]) (by simp[results,Tryz.results151,go_sem]) rfl ⟨by simp[sizeEnd,hnd],by have:=H3.out;simpa [sizeErr,hn,He.out]using this,G3.out⟩
  ·have Hf:=kept (aq3 g r 0 w H.out);have hnd:decide (n<0)=false:=by simpa using hn
   clear hne;go_enter Tryz.func151,Tryz.ntmps151;go_wp2_with fail;(with_reducible refine(Hg.out _ H.out).mono ?_);rintro e w2 ⟨rfl,rfl⟩
   unfold grpEnd;go_wp2_with fail;(with_reducible refine(Hf.out).mono ?_);rintro e w3 ⟨rfl,h3,g3⟩
   have H3:=kept h3;have G3:=kept g3;clear h3 g3;go_wp2;exact bodyPost_ret (v:=.tuple #[.int .i64 n,.int .i64 (long:Nat),.bool true]) (by simp[results,Tryz.results151,go_sem]) rfl ⟨by simp[sizeEnd,hnd],by have:=H3.out;rw[if_pos trivial,He.out]at this;show Rdr w3 g ⟨r.rest,if n<0 then 1 else 0⟩;rw[if_neg (by omega)];exact this,G3.out⟩
 |err e0=>
  have he0:=hne e0 rfl;have he1:(e0==0)=false:=by simpa using he0
  have he2:(e0 !=0)=true:=by simpa using he0
  have Hf:=kept (aq3 g r e0 w H.out);rw[he2]at Hf;clear hne;go_enter Tryz.func151,Tryz.ntmps151;go_wp2_with fail;(with_reducible refine(Hg.out _ H.out).mono ?_);rintro e w2 ⟨rfl,rfl⟩
  unfold grpEnd;go_wp2_with fail;(with_reducible refine(Hf.out).mono ?_);rintro e w3 ⟨rfl,h3,g3⟩
  have H3:=kept h3;have G3:=kept g3;clear h3 g3;go_wp2;exact bodyPost_ret (v:=.tuple #[.int .i64 0,.int .i64 0,.bool false]) (by simp[results,Tryz.results151,go_sem]) rfl ⟨rfl,by have:=H3.out;simpa [sizeErr,he0]using this,G3.out⟩
theorem count_any(g:Nat)(r:Wire.St)(w:World)(h:Rdr w g r)(hl:r.rest.length<=100000000):
  Calls Tryz.prog 128 #[.pointer (some ⟨g,0,none⟩),.int .i64 1] w fun e w'=>e=.returned (.int .i64 ((Wire.cntR r 1).2:Nat))/\Rdr w' g (Wire.cntR r 1).1/\w.grownBy w' (some g):=by
 have H:=kept h;have Hr:=kept (ak5 g r w h);by_cases he:r.e=0
 ·rw[show(r.e==0)=true by simpa using he]at Hr;have Hs:=kept (fun w (h:Rdr w g r)=>size_any g r w h hl he);have He:=kept he;have hlen:=Wire.grp_len r.rest;have hne:=Wire.grp_err r.rest;obtain⟨G,hG⟩:=Ex (Wire.grp r.rest);rw[hG]at Hs hlen hne;cases G with
  |ok n long=>
   obtain⟨hl1,hl2,hl3⟩:=hlen n long rfl;by_cases hn:n<0
   ·have HN:=kept (show Wire.cntR r 1=(⟨r.rest,1⟩,0) by unfold Wire.cntR;rw[if_neg (by simpa using he),hG];simp only;rw[if_pos hn]);have hnd:decide (n<0)=true:=by simpa using hn
    simp only[sizeEnd,sizeErr,hnd,if_pos hn]at Hs;clear hG he h hne hlen;go_enter Tryz.func128,Tryz.ntmps128;go_wp2_with fail;(with_reducible refine(Hr.out).mono ?_);rintro e w1 ⟨rfl,k1,rfl⟩
    have H1:=kept (show Rdr (w.drewN k1) g r from Tri.below H.out (below_drewN (Below.refl _ _) k1));go_wp2_with fail;(with_reducible refine(Hs.out _ H1.out).mono ?_);rintro e w2 ⟨rfl,h2,g2⟩
    have H2:=kept (show Rdr w2 g ⟨r.rest,1⟩from h2);have G2:=kept (azq (grown_below (some g) (below_drewN (Below.refl _ _) k1)) g2);clear h2 g2;go_wp2
    go_ret
    rw[HN.out];exact⟨rfl,H2.out,G2.out⟩
   ·obtain⟨c,rfl⟩:∃c:Nat,n=c:=⟨n.toNat,by omega⟩;have hnd:decide ((c:Int)<0)=false:=by simp
    simp only[sizeEnd,sizeErr,hnd,if_neg hn]at Hs;have hq:IntKind.i64.wrap ((r.rest.length:Int)-(long:Int))=((r.rest.length-long:Nat):Int):=by rw[IntWalk.i64_in _ (by omega)];omega
    obtain⟨q,hqq⟩:=Ex (r.rest.length-long);rw[hqq]at hq;have hw64:wrap64 (q:Int)=(q:Int):=by unfold wrap64;omega
    by_cases hb:q<c
    ·have HN:=kept (show Wire.cntR r 1=(⟨r.rest,40⟩,0) by unfold Wire.cntR;rw[if_neg (by simpa using he),hG];simp only;rw[if_neg hn,if_pos (by rw[Nat.div_one,hqq];omega)]);have hb':(q:Int)<(c:Int):=by omega
     have Hf:=kept (fun w h=>aq3 g r 40 w h);clear hG he h hne hlen hqq;go_enter Tryz.func128,Tryz.ntmps128;go_wp2_with fail;(with_reducible refine(Hr.out).mono ?_);rintro e w1 ⟨rfl,k1,rfl⟩
     have H1:=kept (show Rdr (w.drewN k1) g r from Tri.below H.out (below_drewN (Below.refl _ _) k1));go_wp2_with fail;(with_reducible refine(Hs.out _ H1.out).mono ?_);rintro e w2 ⟨rfl,h2,g2⟩
     have H2:=kept (show Rdr w2 g r from by rw[<-He.out]at h2;exact h2);have G2:=kept (azq (grown_below (some g) (below_drewN (Below.refl _ _) k1)) g2);clear h2 g2;obtain⟨x0,x1,x2,_,_,_⟩:=Tri.facts H2.out;go_wp2_with fail;(with_reducible refine(Hf.out _ H2.out).mono ?_);rintro e w3 ⟨rfl,h3,g3⟩
     have H3:=kept (show Rdr w3 g ⟨r.rest,40⟩from h3);have G3:=kept (azq G2.out g3);clear h3 g3 x0 x1 x2;go_wp2
     go_ret
     rw[HN.out];exact⟨rfl,H3.out,G3.out⟩
    ·have HN:=kept (show Wire.cntR r 1=(⟨r.rest.drop long,0⟩,c) by unfold Wire.cntR;rw[if_neg (by simpa using he),hG];simp only;rw[if_neg hn,if_neg (by rw[Nat.div_one,hqq];omega)];rfl);have hb':¬(q:Int)<(c:Int):=by omega
     have Hm:=kept (fun w h=>move_any g r long w h hl2);clear hG he h hne hlen hqq;go_enter Tryz.func128,Tryz.ntmps128;go_wp2_with fail;(with_reducible refine(Hr.out).mono ?_);rintro e w1 ⟨rfl,k1,rfl⟩
     have H1:=kept (show Rdr (w.drewN k1) g r from Tri.below H.out (below_drewN (Below.refl _ _) k1));go_wp2_with fail;(with_reducible refine(Hs.out _ H1.out).mono ?_);rintro e w2 ⟨rfl,h2,g2⟩
     have H2:=kept (show Rdr w2 g r from by rw[<-He.out]at h2;exact h2);have G2:=kept (azq (grown_below (some g) (below_drewN (Below.refl _ _) k1)) g2);clear h2 g2;obtain⟨x0,x1,x2,_,_,_⟩:=Tri.facts H2.out;go_wp2_with fail;(with_reducible refine(Hm.out _ H2.out).mono ?_);rintro e w3 ⟨rfl,h3,g3⟩
     have H3:=kept h3;have G3:=kept (azq G2.out g3);clear h3 g3 x0 x1 x2;go_wp2
     go_ret
     rw[HN.out];exact⟨rfl,by have:=H3.out;rw[He.out]at this;exact this,G3.out⟩
  |err e0=>
   have he0:=hne e0 rfl;have HN:=kept (show Wire.cntR r 1=(⟨r.rest,e0⟩,0) by unfold Wire.cntR;rw[if_neg (by simpa using he),hG]);simp only[sizeEnd,sizeErr]at Hs;clear hG he h hne hlen;go_enter Tryz.func128,Tryz.ntmps128;go_wp2_with fail;(with_reducible refine(Hr.out).mono ?_);rintro e w1 ⟨rfl,k1,rfl⟩
   have H1:=kept (show Rdr (w.drewN k1) g r from Tri.below H.out (below_drewN (Below.refl _ _) k1));go_wp2_with fail;(with_reducible refine(Hs.out _ H1.out).mono ?_);rintro e w2 ⟨rfl,h2,g2⟩
   have H2:=kept (show Rdr w2 g ⟨r.rest,e0⟩from h2);have G2:=kept (azq (grown_below (some g) (below_drewN (Below.refl _ _) k1)) g2);clear h2 g2;go_wp2
   go_ret
   rw[HN.out];exact⟨rfl,H2.out,G2.out⟩
 ·rw[show(r.e==0)=false by simpa using he]at Hr;have HN:=kept (show Wire.cntR r 1=(r,0) by unfold Wire.cntR;rw[if_pos he]);clear he h;go_enter Tryz.func128,Tryz.ntmps128;go_wp2_with fail;(with_reducible refine(Hr.out).mono ?_);rintro e w1 ⟨rfl,k1,rfl⟩
  go_wp2
  go_ret
  rw[HN.out];exact⟨rfl,Tri.below H.out (below_drewN (Below.refl _ _) k1),grown_below (some g) (below_drewN (Below.refl _ _) k1)⟩
theorem byx(g:Nat)(r:Wire.St)(w:World)(h:Rdr w g r)(hl:r.rest.length<=100000000):
  Calls Tryz.prog 127 #[.pointer (some ⟨g,0,none⟩)] w fun e w'=>e=.returned (.string ⟨((Wire.strR r).2).toArray⟩)/\Rdr w' g (Wire.strR r).1/\w.grownBy w' (some g):=by
 have H:=kept h;have Hr:=kept (ak5 g r w h);by_cases he:r.e=0
 ·rw[show(r.e==0)=true by simpa using he]at Hr;have Hs:=kept (fun w (h:Rdr w g r)=>size_any g r w h hl he);have He:=kept he;have hlen:=Wire.grp_len r.rest;have hne:=Wire.grp_err r.rest;obtain⟨G,hG⟩:=Ex (Wire.grp r.rest);rw[hG]at Hs hlen hne;cases G with
  |ok n long=>
   obtain⟨hl1,hl2,hl3⟩:=hlen n long rfl;by_cases hn:n<0
   ·have HN:=kept (show Wire.strR r=(⟨r.rest,1⟩,[]) by unfold Wire.strR;rw[show Wire.cntR r 1=_ from by unfold Wire.cntR;rw[if_neg (by simpa using he),hG]];simp only;rw[if_pos hn];simp);have hnd:decide (n<0)=true:=by simpa using hn
    simp only[sizeEnd,sizeErr,hnd,if_pos hn]at Hs;clear hG he h hne hlen;go_enter Tryz.func127,Tryz.ntmps127;go_wp2_with fail;(with_reducible refine(Hr.out).mono ?_);rintro e w1 ⟨rfl,k1,rfl⟩
    have H1:=kept (show Rdr (w.drewN k1) g r from Tri.below H.out (below_drewN (Below.refl _ _) k1));go_wp2_with fail;(with_reducible refine(Hs.out _ H1.out).mono ?_);rintro e w2 ⟨rfl,h2,g2⟩
    have H2:=kept (show Rdr w2 g ⟨r.rest,1⟩from h2);have G2:=kept (azq (grown_below (some g) (below_drewN (Below.refl _ _) k1)) g2);clear h2 g2;go_wp2
    go_ret
    rw[HN.out];exact⟨rfl,H2.out,G2.out⟩
   ·obtain⟨c,rfl⟩:∃c:Nat,n=c:=⟨n.toNat,by omega⟩;have hnd:decide ((c:Int)<0)=false:=by simp
    simp only[sizeEnd,sizeErr,hnd,if_neg hn]at Hs;have hq:IntKind.i64.wrap ((r.rest.length:Int)-(long:Int))=((r.rest.length-long:Nat):Int):=by rw[IntWalk.i64_in _ (by omega)];omega
    obtain⟨q,hqq⟩:=Ex (r.rest.length-long);rw[hqq]at hq;have hw64:wrap64 (q:Int)=(q:Int):=by unfold wrap64;omega
    by_cases hb:q<c
    ·have HN:=kept (show Wire.strR r=(⟨r.rest,40⟩,[]) by unfold Wire.strR;rw[show Wire.cntR r 1=(⟨r.rest,40⟩,0) by unfold Wire.cntR;rw[if_neg (by simpa using he),hG];simp only;rw[if_neg hn,if_pos (by rw[Nat.div_one,hqq];omega)]];simp);have hb':(q:Int)<(c:Int):=by omega
     have Hf:=kept (fun w h=>aq3 g r 40 w h);clear hG he h hne hlen hqq;go_enter Tryz.func127,Tryz.ntmps127;go_wp2_with fail;(with_reducible refine(Hr.out).mono ?_);rintro e w1 ⟨rfl,k1,rfl⟩
     have H1:=kept (show Rdr (w.drewN k1) g r from Tri.below H.out (below_drewN (Below.refl _ _) k1));go_wp2_with fail;(with_reducible refine(Hs.out _ H1.out).mono ?_);rintro e w2 ⟨rfl,h2,g2⟩
     have H2:=kept (show Rdr w2 g r from by rw[<-He.out]at h2;exact h2);have G2:=kept (azq (grown_below (some g) (below_drewN (Below.refl _ _) k1)) g2);clear h2 g2;obtain⟨x0,x1,x2,_,_,_⟩:=Tri.facts H2.out;go_wp2_with fail;(with_reducible refine(Hf.out _ H2.out).mono ?_);rintro e w3 ⟨rfl,h3,g3⟩
     have H3:=kept (show Rdr w3 g ⟨r.rest,40⟩from h3);have G3:=kept (azq G2.out g3);clear h3 g3 x0 x1 x2;go_wp2
     go_ret
     rw[HN.out];exact⟨rfl,H3.out,G3.out⟩
    ·have HN:=kept (show Wire.strR r=(⟨(r.rest.drop long).drop c,0⟩,(r.rest.drop long).take c) by unfold Wire.strR;rw[show Wire.cntR r 1=(⟨r.rest.drop long,0⟩,c) by unfold Wire.cntR;rw[if_neg (by simpa using he),hG];simp only;rw[if_neg hn,if_neg (by rw[Nat.div_one,hqq];omega)];rfl];rfl);have hb':¬(q:Int)<(c:Int):=by omega
     have Hm:=kept (fun w h=>move_any g r long w h hl2);have Hm2:=kept (fun w h=>move_any g ⟨r.rest.drop long,r.e⟩ c w h (by rw[ZC];omega));clear hG he h hne hlen hqq;go_enter Tryz.func127,Tryz.ntmps127;go_wp2_with fail;(with_reducible refine(Hr.out).mono ?_);rintro e w1 ⟨rfl,k1,rfl⟩
     have H1:=kept (show Rdr (w.drewN k1) g r from Tri.below H.out (below_drewN (Below.refl _ _) k1));go_wp2_with fail;(with_reducible refine(Hs.out _ H1.out).mono ?_);rintro e w2 ⟨rfl,h2,g2⟩
     have H2:=kept (show Rdr w2 g r from by rw[<-He.out]at h2;exact h2);have G2:=kept (azq (grown_below (some g) (below_drewN (Below.refl _ _) k1)) g2);clear h2 g2;obtain⟨x0,x1,x2,_,_,_⟩:=Tri.facts H2.out;go_wp2_with fail;(with_reducible refine(Hm.out _ H2.out).mono ?_);rintro e w3 ⟨rfl,h3,g3⟩
     have H3:=kept h3;have G3:=kept (azq G2.out g3);clear h3 g3 x0 x1 x2;go_wp2_with fail;(with_reducible refine(Hm2.out _ H3.out).mono ?_);rintro e w4 ⟨rfl,h4,g4⟩
     have H3:=kept h4;have G3:=kept (azq G3.out g4);clear h4 g4;go_wp2
     go_ret
     rw[HN.out];exact⟨rfl,by have:=H3.out;rw[He.out]at this;exact this,G3.out⟩
  |err e0=>
   have he0:=hne e0 rfl;have HN:=kept (show Wire.strR r=(⟨r.rest,e0⟩,[]) by unfold Wire.strR;rw[show Wire.cntR r 1=(⟨r.rest,e0⟩,0) by unfold Wire.cntR;rw[if_neg (by simpa using he),hG]];simp only;rw[if_pos he0]);simp only[sizeEnd,sizeErr]at Hs;clear hG he h hne hlen;go_enter Tryz.func127,Tryz.ntmps127;go_wp2_with fail;(with_reducible refine(Hr.out).mono ?_);rintro e w1 ⟨rfl,k1,rfl⟩
   have H1:=kept (show Rdr (w.drewN k1) g r from Tri.below H.out (below_drewN (Below.refl _ _) k1));go_wp2_with fail;(with_reducible refine(Hs.out _ H1.out).mono ?_);rintro e w2 ⟨rfl,h2,g2⟩
   have H2:=kept (show Rdr w2 g ⟨r.rest,e0⟩from h2);have G2:=kept (azq (grown_below (some g) (below_drewN (Below.refl _ _) k1)) g2);clear h2 g2;go_wp2
   go_ret
   rw[HN.out];exact⟨rfl,H2.out,G2.out⟩
 ·rw[show(r.e==0)=false by simpa using he]at Hr;have HN:=kept (show Wire.strR r=(r,[]) by unfold Wire.strR;rw[show Wire.cntR r 1=(r,0) by unfold Wire.cntR;rw[if_pos he]];simp only;rw[if_pos he]);clear he h;go_enter Tryz.func127,Tryz.ntmps127;go_wp2_with fail;(with_reducible refine(Hr.out).mono ?_);rintro e w1 ⟨rfl,k1,rfl⟩
  go_wp2
  go_ret
  rw[HN.out];exact⟨rfl,Tri.below H.out (below_drewN (Below.refl _ _) k1),grown_below (some g) (below_drewN (Below.refl _ _) k1)⟩
theorem cv9(g:Nat)(r:Wire.St)(w:World)(h:Rdr w g r):
  Calls Tryz.prog 92 #[.pointer (some ⟨g,0,none⟩)] w fun e w'=>e=.returned (.int .i64 r.rest.length)/\w'=w:=by
 obtain⟨x0,x1,x2,_,_,_⟩:=Tri.facts h;go_enter Tryz.func92,Tryz.ntmps92;go_wp2
 go_ret
 exact⟨rfl,rfl⟩
theorem dzl(g:Nat)(r:Wire.St)(w:World)(h:Rdr w g r):
  Calls Tryz.prog 122 #[.pointer (some ⟨g,0,none⟩)] w fun e w'=>e=.returned (.int .i64 r.e)/\w'=w:=by
 obtain⟨x0,x1,x2,_,_,_⟩:=Tri.facts h;go_enter Tryz.func122,Tryz.ntmps122;go_wp2
 go_ret
 exact⟨rfl,rfl⟩
theorem cjf(n:Int):(Wire.num n).length<=10:=(Wire.encF_len 9 (Wire.zig n)).2
end
end Go.Proofs.YthhpocnmfknalaaGreatDoor
