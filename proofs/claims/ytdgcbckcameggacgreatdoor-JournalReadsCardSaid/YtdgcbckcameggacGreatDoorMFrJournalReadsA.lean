/- Part of what the proof needs. -/
import Derived.Test.YtdgcbckcameggacGreatDoorMFrJournalReads0
import Derived.WalkKit
import Derived.WalkSpells
import Derived.WalkLawsBesides
import Derived.Laws.BitsAllLaws
import Derived.Lib.Hide
import Derived.Laws.Tables
import Derived.Laws.Entries
import Derived.Laws.Cells
import Derived.Laws.StructEq
import Derived.Laws.Slices
import Derived.Laws.Small
import Derived.Laws.AppendOwn
import Derived.Great.BuildSlice
import Derived.Deep.Upon
import Derived.MapKept
import Derived.LoopN
import Derived.Tactics
import Derived.Orders
import Derived.IntWalk
set_option maxHeartbeats 4000000
set_option maxRecDepth 100000
set_option linter.all false
namespace Go.Proofs.YtdgcbckcameggacGreatDoor
section
open Go.RowKit
structure Kept(p:Prop):Prop where
 out:p
theorem kept{p:Prop}(h:p):Kept p:=⟨h⟩
theorem aqk{k:IntKind}{a b:Int}(h:a=b):Ending.returned (.int k a)=Ending.returned (.int k b):=by rw[h]
theorem ck6{a b:List UInt8}(h:a=b):Ending.returned (.string ⟨a.toArray⟩)=Ending.returned (.string ⟨b.toArray⟩):=by rw[h]
theorem aqb{a b:Bool}(h:a=b):Ending.returned (.bool a)=Ending.returned (.bool b):=by rw[h]
theorem axm{P:Program}(w:World){a b:ByteArray}{l m:List UInt8}(ha:a.data.toList=l)(hb:b.data.toList=m)(h:l.length+m.length<1099511627776):
  (Op.stringOp .add a b).run P w=.ok (.string ⟨(l++m).toArray⟩) w:=by
 have e1:a.size=l.length:=by rw[←ha];simp
 have e2:b.size=m.length:=by rw[←hb];simp
 rw[run_string_add_sum w a b (by omega)];congr 2;apply ByteArray.ext;apply Yi.1;simp[ha,hb]
theorem bx6{s:ByteArray}{l:List UInt8}(h:s.data.toList=l):s=⟨l.toArray⟩:=by subst h;simp
theorem size_mk(l:List UInt8):(⟨l.toArray⟩:ByteArray).size=l.length:=by show l.toArray.size=_;simp
theorem bthen{W a b:World}(h:Below W.heap.size W a)(k:Below a.heap.size a b):Below W.heap.size W b:=h.trans (k.mono h.size)
theorem bdrew(W:World):Below W.heap.size W W.drew:=(Below.refl _ _).drew
theorem ball(W:World)(o:Obj):Below W.heap.size W (W.alloc o):=(Below.refl _ _).alloc (Zf _) o
def bcells(l:List UInt8):List Value:=l.map fun b=>Value.int .u8 b.toNat
theorem bzm(l:List UInt8):(bcells l).length=l.length:=by simp[bcells]
theorem bwm(l:List UInt8)(j:Nat)(h:j<l.length):(bcells l)[j]?=some (.int .u8 l[j].toNat):=by simp[bcells,h]
theorem ay5(l m:List UInt8):bcells (l++m)=bcells l++bcells m:=by simp[bcells]
theorem bw2(l:List UInt8)(j:Nat)(b:UInt8):bcells (l.set j b)=(bcells l).set j (.int .u8 b.toNat):=by simp[bcells,List.map_set]
theorem byte_of(n:Int)(h0:0≤n)(h:n<256):((UInt8.ofNat n.toNat).toNat:Int)=n:=by
 rw[Z6];omega
theorem avn(b o j:Nat):(⟨b,o,none⟩:Addr).add j=⟨b,o+j,none⟩:=by unfold Addr.add;split<;>simp_all
def BytesAt(w:World)(g:Nat)(e:TypeId)(l:List UInt8):Prop:=
 ∃cur lo hi,w.heap[g]?=some (.cells cur e (lo,hi))∧cur.toList.take l.length=bcells l∧(l.length≤lo∨hi=0)
namespace BytesAt
variable {w:World} {g:Nat} {e:TypeId} {l:List UInt8}
theorem lt(h:BytesAt w g e l):g<w.heap.size:=by
 obtain⟨cur,lo,hi,hg,_⟩:=h;exact(Z0.1 hg).1
theorem cell(h:BytesAt w g e l)(j:Nat)(hj:j<l.length):w.cell? ⟨g,j,none⟩=some (.int .u8 l[j].toNat):=by
 obtain⟨cur,lo,hi,hg,ht,_⟩:=h;rw[cell_of_row w g j cur e (lo,hi) hg];have h1:(cur.toList.take l.length)[j]?=cur.toList[j]?:=by rw[List.getElem?_take_of_lt hj]
 rw[←Array.getElem?_toList,←h1,ht,bwm l j hj]
theorem free(h:BytesAt w g e l)(j:Nat)(hj:j<l.length):w.frozen? ⟨g,j,none⟩=false:=by
 obtain⟨cur,lo,hi,hg,_,hf⟩:=h;simp only[World.frozen?,hg];rcases hf with hf|hf
 ·have:¬lo≤j:=by omega
  simp[this]
 ·subst hf;simp
theorem set(h:BytesAt w g e l)(j:Nat)(b:UInt8):BytesAt (w.setCell ⟨g,j,none⟩ (.int .u8 b.toNat)) g e (l.set j b):=by
 obtain⟨cur,lo,hi,hg,ht,hf⟩:=h;refine⟨cur.setIfInBounds j (.int .u8 b.toNat),lo,hi,?_,?_,by simpa using hf⟩
 ·simp only[World.setCell,Z5,if_true];rw[hg];simp
 ·rw[Array.toList_setIfInBounds,Yl,List.take_set,ht,bw2]
theorem below{w':World}{B:Nat}(h:BytesAt w g e l)(hb:Below B w w')(hg:g<B):BytesAt w' g e l:=by
 obtain⟨cur,lo,hi,h1,h2⟩:=h;exact⟨cur,lo,hi,(hb.block g hg).trans h1,h2⟩
theorem alloc(h:BytesAt w g e l)(o:Obj):BytesAt (w.alloc o) g e l:=
 h.below ((Below.refl w.heap.size w).alloc (Zf _) o) h.lt
theorem conv{P:Program}(h:BytesAt w g e l)(src dst:TypeId)(cap:Nat)(hs:P.underlying src=some (.slice e))(he:P.underlying e=some (.int .u8))(hd:P.underlying dst=some .string):
  (convert src dst (.slice (some ⟨g,0,none⟩) l.length cap)).run P w=.ok (.string ⟨l.toArray⟩) w:=
 run_convert_bytes_back w src dst e ⟨g,0,none⟩ cap l hs he hd (fun j hj=>by rw[avn,YD];exact h.cell j hj)
theorem conv_of{P:Program}(h:BytesAt w g e l)(src dst:TypeId)(n cap:Nat)(hn:l.length=n)(hs:P.underlying src=some (.slice e))(he:P.underlying e=some (.int .u8))(hd:P.underlying dst=some .string):
  (convert src dst (.slice (some ⟨g,0,none⟩) n cap)).run P w=.ok (.string ⟨l.toArray⟩) w:=by subst hn;exact h.conv src dst cap hs he hd
theorem lit(w:World)(e:TypeId)(l:List UInt8):BytesAt (w.alloc (.cells (bcells l).toArray e)) w.heap.size e l:=
 ⟨(bcells l).toArray,0,0,heap_alloc_new w _,by simp[←bzm],.inr rfl⟩
end BytesAt
def OwnsB(w:World)(base:Nat)(e:TypeId)(v:Value)(l:List UInt8):Prop:=w.ownsRow base e 1 v l.length (bcells l)
namespace OwnsB
variable {w:World} {base:Nat} {e:TypeId} {v:Value} {l:List UInt8}
theorem nil(w:World)(base:Nat)(e:TypeId):OwnsB w base e (.slice none 0 0) []:=World.ownsRow_nil w base e 1
theorem below{w':World}{B:Nat}(h:OwnsB w base e v l)(hb:Below B w w')(hB:w.heap.size≤B):OwnsB w' base e v l:=
 World.ownsRow.kept (row:=none) h ⟨hb.os,hb.tape,hb.output,hb.size,fun k hk _=>hb.block k (by omega)⟩ (by cases v.ownBlock<;>simp)
theorem conv{P:Program}(h:OwnsB w base e v l)(src dst:TypeId)(hs:P.underlying src=some (.slice e))(he:P.underlying e=some (.int .u8))(hd:P.underlying dst=some .string):
  (convert src dst v).run P w=.ok (.string ⟨l.toArray⟩) w:=by
 rcases h.2 with⟨rfl,h0⟩|⟨g,cap,cur,rfl,_,hg,_,_,_,ht⟩
 ·obtain rfl:l=[]:=Z4 h0;rw[run_convert_bytes_string w src dst e none 0 0 hs he hd];simp[Conv.bytesToString];rfl
 ·exact BytesAt.conv (e:=e) ⟨cur,0,0,hg,by simpa using ht,.inr rfl⟩ src dst cap hs he hd
end OwnsB
theorem wpList_append_byte{P:Program}{ops:Array Oper}{rest:List Oper}{o:Oper}{a:Act}{Q:Exit→Act→World→Prop}{w0 w:World}(hgd:o.guard=none)(s x:Operand)(t e:TypeId)
  (ho:o.op=.call { callee:=.builtin .append,args:=#[s,x],argTypes:=#[t,t] })
  (ht:P.underlying t=some (.slice e)) (hi:(P.info? e).map (fun i=>(i.zero,i.size,i.bytes))=some (some (.int .u8 0),1,1))
  (B:Nat) (v:Value) (l:List UInt8) (hs:a.eval s=v) (hown:OwnsB w B e v l) (hbel:Below B w0 w)
  (ad:Addr) (c:Nat) (n:Int) (hx:a.eval x=.slice (some ad) 1 c) (hcell:w.cell? ad=some (.int .u8 n)) (h0:0≤n) (h1:n<256)
  (hlen:l.length<1099511627776) (hbase:B≤w.heap.size)
  (h:∀v' w',OwnsB w' B e v' (l++[UInt8.ofNat n.toNat])→Below B w0 w'→w.heap.size≤w'.heap.size→wpList P ops Q rest (a.put o.dst v') w'):wpList P ops Q (o::rest) a w:=by
 obtain⟨i0,hi0,hz0,hz1,hz2⟩:=info_parts hi;refine wpList_append_own w hgd s x t ho B e i0 (.int .u8 0) 1 1 ht hi0 hz0 hz1 hz2 rfl (by decide) v l.length (bcells l) hs hown ad 1 c [.int .u8 n] hx rfl ?_ (by intro u hu;simp at hu;subst hu;rfl)
  (by unfold maxLen;omega) (by omega) hbase ?_
 ·intro j u hu;cases j with
  |zero=>simp at hu;subst hu;simpa [Addr.add]using hcell
  |succ j=>simp at hu
 ·intro v' w' hown' hgr _;refine h v' w' ?_ (hbel.grown hgr hbase ?_) hgr.size
  ·show w'.ownsRow B e 1 v' _ _
   rw[ay5,Za];have:bcells [UInt8.ofNat n.toNat]=[.int .u8 n]:=by simp only[bcells,List.map,byte_of n h0 h1]
   rw[this];exact hown'
  ·intro k hk;exact(World.ownsRow.lt hown k hk).1
end
section
open Go.RowKit
namespace AX
theorem ai{a b:Prop}(x:a)(y:b):a∧b:=⟨x,y⟩
theorem ti:True:=True.intro
inductive Own where
 |no|nil|tok (t:Nat)
inductive A where
 |int (k:IntKind) (n:Int)
 |str (l:List UInt8)
 |bool (b:Bool)
 |sl (W:Nat) (o:Own) (rows:List (List A))
 |ptr (i off:Nat)
 |vptr (cells:List A)
 |nilp
 |nili
 |nilf
 |nilm
 |mp (i:Nat)
 |bs (i W n:Nat)
 |fn (f:FuncId) (caps:List A)
 |agg (l:List A)
 |tup (l:List A)
structure Ctx where
 w:World
 S:Nat→Nat→Prop
 κ:Nat→Nat
 nb:Nat
 τ:Nat→Nat
 hw:Nat→Option (TypeId×Nat×Nat)
 own:Nat→Option Nat
 base:Nat
def A.data:A→Bool
 |.int ..=>true
 |.str ..=>true
 |.bool ..=>true
 |.sl _ .no _=>true
 |.sl _ .nil _=>true
 |.nilp=>true
 |.nili=>true
 |.nilf=>true
 |.nilm=>true
 |_=>false
def RowAt(C:Ctx)(g:Nat)(E:TypeId)(W cap:Nat):Prop:=∃cur,C.w.heap[g]?=some (.cells cur E (0,0))∧cur.size=cap*W∧cap≤maxLen
def RepOwn(C:Ctx)(W:Nat)(o:Own)(n:Nat)(a:Option Addr)(cap:Nat):Prop:=
 match o with
 |.no=>True
 |.nil=>a=none∧cap=0∧n=0
 |.tok t=>∃E m,C.hw t=some (E,W,m)∧n≤m∧(n=m→a=some ⟨C.τ t,0,none⟩∧RowAt C (C.τ t) E W cap)
def bmk:Nat:=1000000
def fnV(f:FuncId)(cs:Array Value):Value:=if f<bmk then .func (.func f) #[] cs else .func (.func (f%bmk)) cs #[]
mutual
def Rep(C:Ctx):A→Value→Prop
 |.int k n,v=>v=.int k n
 |.str l,v=>v=.string ⟨l.toArray⟩
 |.bool b,v=>v=.bool b
 |.sl W o rows,v=>∃a cap,v=.slice a rows.length cap∧rows.length≤cap∧RepRows C W rows a 0∧RepOwn C W o rows.length a cap
 |.ptr i off,v=>v=.pointer (some ⟨C.κ i,off,none⟩)∧i<C.nb
 |.vptr cells,v=>∃g off,v=.pointer (some ⟨g,off,none⟩)∧RepAt C cells g off
 |.nilp,v=>v=.pointer none
 |.nili,v=>v=.nilIface
 |.nilf,v=>v=.nilFunc
 |.nilm,v=>v=.map none
 |.mp i,v=>v=.map (some (C.κ i))∧i<C.nb
 |.bs i W n,v=>∃cap,v=.slice (some ⟨C.κ i,0,none⟩) n cap∧n≤cap∧i<C.nb
 |.fn f caps,v=>∃cs,v=fnV f cs.toArray∧RepL C caps cs
 |.agg l,v=>∃cs,v=.agg cs.toArray∧RepL C l cs
 |.tup l,v=>∃cs,v=.tuple cs.toArray∧RepL C l cs
def RepL(C:Ctx):List A→List Value→Prop
 |[],cs=>cs=[]
 |x::l,cs=>∃c cs',cs=c::cs'∧Rep C x c∧RepL C l cs'
def RepAt(C:Ctx):List A→Nat→Nat→Prop
 |[],_,_=>True
 |x::l,g,o=>(C.S g o∧x.data=true∧∃v,C.w.cell? ⟨g,o,none⟩=some v∧Rep C x v)∧RepAt C l g (o+1)
def RepRows(C:Ctx)(W:Nat):List (List A)→Option Addr→Nat→Prop
 |[],_,_=>True
 |r::rs,a,i=>(∃g off,a=some ⟨g,off,none⟩∧r.length=W∧RepAt C r g (off+i*W))∧RepRows C W rs a (i+1)
end
structure Ext(C C':Ctx):Prop where
 cells:∀g j,C.S g j→C'.S g j∧C'.w.cell? ⟨g,j,none⟩=C.w.cell? ⟨g,j,none⟩
 nb:C.nb≤C'.nb
 box:∀i,i<C.nb→C'.κ i=C.κ i
 row:∀t E W m,C.hw t=some (E,W,m)→∃m',C'.hw t=some (E,W,m')∧(m<m'∨m=m'∧C'.τ t=C.τ t∧(∀cap,RowAt C (C.τ t) E W cap→RowAt C' (C.τ t) E W cap))
theorem Ext.refl(C:Ctx):Ext C C:=⟨fun _ _ h=>⟨h,rfl⟩,Zf _,fun _ _=>rfl,fun t E W m h=>⟨m,h,.inr ⟨rfl,rfl,fun _ h=>h⟩⟩⟩
theorem Ext.trans{C C' C'':Ctx}(h:Ext C C')(k:Ext C' C''):Ext C C'':=by
 refine⟨fun g j hs=>?_,Zl h.nb k.nb,fun i hi=>(k.box i (ZK hi h.nb)).trans (h.box i hi),fun t E W m ht=>?_⟩
 ·have h1:=h.cells g j hs;have h2:=k.cells g j h1.1;exact⟨h2.1,h2.2.trans h1.2⟩
 ·obtain⟨m',h1,h2⟩:=h.row t E W m ht;obtain⟨m'',k1,k2⟩:=k.row t E W m' h1;refine⟨m'',k1,?_⟩;rcases h2 with h2|⟨rfl,h3,h4⟩
  ·rcases k2 with k2|⟨rfl,_⟩
   ·exact .inl (Nat.lt_trans h2 k2)
   ·exact .inl h2
  ·rcases k2 with k2|⟨rfl,k3,k4⟩
   ·exact .inl k2
   ·refine .inr ⟨rfl,k3.trans h3,fun cap hc=>?_⟩;have:=k4 cap (by rw[h3];exact h4 cap hc)
    rwa [h3]at this
theorem RepOwn.ext{C C':Ctx}(h:Ext C C'){W n cap:Nat}{o:Own}{a:Option Addr}(r:RepOwn C W o n a cap):RepOwn C' W o n a cap:=by
 cases o with
 |no=>trivial
 |nil=>exact r
 |tok t=>
  obtain⟨E,m,h1,h2,h3⟩:=r;obtain⟨m',k1,k2⟩:=h.row t E W m h1;rcases k2 with k2|⟨rfl,k3,k4⟩
  ·exact⟨E,m',k1,by omega,fun e=>by omega⟩
  ·refine⟨E,m,k1,h2,fun e=>?_⟩;obtain⟨h4,h5⟩:=h3 e;rw[k3];exact⟨h4,k4 cap h5⟩
mutual
theorem Rep.ext{C C':Ctx}(h:Ext C C'):∀(x:A) (v:Value),Rep C x v→Rep C' x v
 |.int k n,v,r=>by unfold Rep at r⊢;exact r
 |.str l,v,r=>by unfold Rep at r⊢;exact r
 |.bool b,v,r=>by unfold Rep at r⊢;exact r
 |.sl W o rows,v,r=>by
  unfold Rep at r⊢;obtain⟨a,cap,h1,h2,h3,h4⟩:=r;exact⟨a,cap,h1,h2,RepRows.ext h W rows a 0 h3,h4.ext h⟩
 |.ptr i off,v,r=>by
  unfold Rep at r⊢;rw[h.box i r.2];exact⟨r.1,ZK r.2 h.nb⟩
 |.vptr cells,v,r=>by
  unfold Rep at r⊢;obtain⟨g,off,h1,h2⟩:=r;exact⟨g,off,h1,RepAt.ext h cells g off h2⟩
 |.nilp,v,r=>by unfold Rep at r⊢;exact r
 |.nili,v,r=>by unfold Rep at r⊢;exact r
 |.nilf,v,r=>by unfold Rep at r⊢;exact r
 |.nilm,v,r=>by unfold Rep at r⊢;exact r
 |.mp i,v,r=>by
  unfold Rep at r⊢;rw[h.box i r.2];exact⟨r.1,ZK r.2 h.nb⟩
 |.bs i W n,v,r=>by
  unfold Rep at r⊢;obtain⟨cap,h1,h2,h3⟩:=r;rw[h.box i h3];exact⟨cap,h1,h2,ZK h3 h.nb⟩
 |.fn f caps,v,r=>by
  unfold Rep at r⊢;obtain⟨cs,h1,h2⟩:=r;exact⟨cs,h1,RepL.ext h caps cs h2⟩
 |.agg l,v,r=>by
  unfold Rep at r⊢;obtain⟨cs,h1,h2⟩:=r;exact⟨cs,h1,RepL.ext h l cs h2⟩
 |.tup l,v,r=>by
  unfold Rep at r⊢;obtain⟨cs,h1,h2⟩:=r;exact⟨cs,h1,RepL.ext h l cs h2⟩
theorem RepL.ext{C C':Ctx}(h:Ext C C'):∀(l:List A) (cs:List Value),RepL C l cs→RepL C' l cs
 |[],cs,r=>by unfold RepL at r⊢;exact r
 |x::l,cs,r=>by
  unfold RepL at r⊢;obtain⟨c,cs',h1,h2,h3⟩:=r;exact⟨c,cs',h1,Rep.ext h x c h2,RepL.ext h l cs' h3⟩
theorem RepAt.ext{C C':Ctx}(h:Ext C C'):∀(l:List A) (g o:Nat),RepAt C l g o→RepAt C' l g o
 |[],g,o,r=>by unfold RepAt;trivial
 |x::l,g,o,r=>by
  unfold RepAt at r⊢;obtain⟨⟨h1,h2,v,h3,h4⟩,h5⟩:=r;obtain⟨k1,k2⟩:=h.cells g o h1;exact⟨⟨k1,h2,v,k2.trans h3,Rep.ext h x v h4⟩,RepAt.ext h l g (o+1) h5⟩
theorem RepRows.ext{C C':Ctx}(h:Ext C C')(W:Nat):∀(l:List (List A)) (a:Option Addr) (i:Nat),RepRows C W l a i→RepRows C' W l a i
 |[],a,i,r=>by unfold RepRows;trivial
 |x::l,a,i,r=>by
  unfold RepRows at r⊢;obtain⟨⟨g,off,h1,h2,h3⟩,h5⟩:=r;exact⟨⟨g,off,h1,h2,RepAt.ext h x g _ h3⟩,RepRows.ext h W l a (i+1) h5⟩
end
structure Same(C C':Ctx):Prop where
 cells:∀g j,C.S g j→C'.S g j∧C'.w.cell? ⟨g,j,none⟩=C.w.cell? ⟨g,j,none⟩
def A.pure:A→Bool
 |.ptr ..=>false
 |.mp ..=>false
 |.bs ..=>false
 |.sl _ .no _=>true
 |.sl _ .nil _=>true
 |.sl ..=>false
 |.fn _ caps=>caps.all A.data
 |.agg l=>l.all A.data
 |.tup l=>l.all fun x=>match x with|.agg l=>l.all A.data|x=>x.data
 |_=>true
mutual
theorem Rep.same{C C':Ctx}(h:Same C C'):∀(x:A) (v:Value),x.data=true→Rep C x v→Rep C' x v
 |.int k n,v,d,r=>by unfold Rep at r⊢;exact r
 |.str l,v,d,r=>by unfold Rep at r⊢;exact r
 |.bool b,v,d,r=>by unfold Rep at r⊢;exact r
 |.sl W .no rows,v,d,r=>by
  unfold Rep at r⊢;obtain⟨a,cap,h1,h2,h3,h4⟩:=r;exact⟨a,cap,h1,h2,RepRows.same h W rows a 0 h3,trivial⟩
 |.sl W .nil rows,v,d,r=>by
  unfold Rep at r⊢;obtain⟨a,cap,h1,h2,h3,h4⟩:=r;exact⟨a,cap,h1,h2,RepRows.same h W rows a 0 h3,h4⟩
 |.sl W (.tok t) rows,v,d,r=>by simp[A.data]at d
 |.ptr i off,v,d,r=>by simp[A.data]at d
 |.vptr cells,v,d,r=>by simp[A.data]at d
 |.nilp,v,d,r=>by unfold Rep at r⊢;exact r
 |.nili,v,d,r=>by unfold Rep at r⊢;exact r
 |.nilf,v,d,r=>by unfold Rep at r⊢;exact r
 |.nilm,v,d,r=>by unfold Rep at r⊢;exact r
 |.mp i,v,d,r=>by simp[A.data]at d
 |.bs i W n,v,d,r=>by simp[A.data]at d
 |.fn f caps,v,d,r=>by simp[A.data]at d
 |.agg l,v,d,r=>by simp[A.data]at d
 |.tup l,v,d,r=>by simp[A.data]at d
theorem RepAt.same{C C':Ctx}(h:Same C C'):∀(l:List A) (g o:Nat),RepAt C l g o→RepAt C' l g o
 |[],g,o,r=>by unfold RepAt;trivial
 |x::l,g,o,r=>by
  unfold RepAt at r⊢;obtain⟨⟨h1,h2,v,h3,h4⟩,h5⟩:=r;obtain⟨k1,k2⟩:=h.cells g o h1;exact⟨⟨k1,h2,v,k2.trans h3,Rep.same h x v h2 h4⟩,RepAt.same h l g (o+1) h5⟩
theorem RepRows.same{C C':Ctx}(h:Same C C')(W:Nat):∀(l:List (List A)) (a:Option Addr) (i:Nat),RepRows C W l a i→RepRows C' W l a i
 |[],a,i,r=>by unfold RepRows;trivial
 |x::l,a,i,r=>by
  unfold RepRows at r⊢;obtain⟨⟨g,off,h1,h2,h3⟩,h5⟩:=r;exact⟨⟨g,off,h1,h2,RepAt.same h x g _ h3⟩,RepRows.same h W l a (i+1) h5⟩
end
theorem RepL.same{C C':Ctx}(h:Same C C'):∀(l:List A) (cs:List Value),l.all A.data=true→RepL C l cs→RepL C' l cs
 |[],cs,d,r=>by unfold RepL at r⊢;exact r
 |x::l,cs,d,r=>by
  unfold RepL at r⊢;rw[ZC,Zc]at d;obtain⟨c,cs',h1,h2,h3⟩:=r;exact⟨c,cs',h1,Rep.same h x c d.1 h2,RepL.same h l cs' d.2 h3⟩
theorem RepL.same_tup{C C':Ctx}(h:Same C C'):∀(l:List A) (cs:List Value),(l.all fun x=>match x with|.agg l=>l.all A.data|x=>x.data)=true→RepL C l cs→RepL C' l cs
 |[],cs,d,r=>by unfold RepL at r⊢;exact r
 |x::l,cs,d,r=>by
  unfold RepL at r⊢;rw[ZC,Zc]at d;obtain⟨c,cs',h1,h2,h3⟩:=r;refine⟨c,cs',h1,?_,RepL.same_tup h l cs' d.2 h3⟩;have d1:=d.1;split at d1
  ·next l'=>
   unfold Rep at h2⊢;obtain⟨cs2,k1,k2⟩:=h2;exact⟨cs2,k1,RepL.same h l' cs2 d1 k2⟩
  ·exact Rep.same h x c d1 h2
theorem Rep.pure{C C':Ctx}(h:Same C C')(x:A)(v:Value)(d:x.pure=true)(r:Rep C x v):Rep C' x v:=by
 cases x with
 |ptr i off=>simp[A.pure]at d
 |mp i=>simp[A.pure]at d
 |bs i W n=>simp[A.pure]at d
 |vptr cells=>
  unfold Rep at r⊢;obtain⟨g,off,h1,h2⟩:=r;exact⟨g,off,h1,RepAt.same h cells g off h2⟩
 |sl W o rows=>
  cases o with
  |no=>exact Rep.same h _ _ rfl r
  |nil=>exact Rep.same h _ _ rfl r
  |tok t=>simp[A.pure]at d
 |fn f caps=>
  unfold Rep at r⊢;obtain⟨cs,h1,h2⟩:=r;exact⟨cs,h1,RepL.same h caps cs d h2⟩
 |agg l=>
  unfold Rep at r⊢;obtain⟨cs,h1,h2⟩:=r;exact⟨cs,h1,RepL.same h l cs d h2⟩
 |tup l=>
  unfold Rep at r⊢;obtain⟨cs,h1,h2⟩:=r;exact⟨cs,h1,RepL.same_tup h l cs d h2⟩
 |int k n=>exact Rep.same h _ _ rfl r
 |str l=>exact Rep.same h _ _ rfl r
 |bool b=>exact Rep.same h _ _ rfl r
 |nilp=>exact Rep.same h _ _ rfl r
 |nili=>exact Rep.same h _ _ rfl r
 |nilf=>exact Rep.same h _ _ rfl r
 |nilm=>exact Rep.same h _ _ rfl r
inductive Blk where
 |cells (T:TypeId) (l:List A)
 |opq (R:(Nat→Prop)→Nat→World→Prop) (vis:Nat→Option A)
 |map (es:List (Int×A)) (clock:Nat)
 |row (T:TypeId) (l:List A)
structure Hp where
 b:List Blk
 t:List (TypeId×Nat×Nat)
def RepEs(C:Ctx):List (Int×A)→List MapEntry→Prop
 |[],es=>es=[]
 |(n,x)::l,es=>∃e es',es=e::es'∧e.key=.int .i64 n∧Rep C x e.val∧RepEs C l es'
def BornOk(es:List MapEntry)(clock:Nat):Prop:=(es.map (·.born)).Nodup∧∀e∈es,e.born<clock
theorem RepEs.ext{C C':Ctx}(h:Ext C C'):∀{l:List (Int×A)} {es:List MapEntry},RepEs C l es→RepEs C' l es
 |[],_,r=>r
 |(n,x)::l,es,r=>by
  obtain⟨e,es',h1,h2,h3,h4⟩:=r;exact⟨e,es',h1,h2,Rep.ext h _ _ h3,RepEs.ext h h4⟩
def BlkRep(C:Ctx)(i:Nat):Blk→Prop
 |.cells T l=>∃cs:List Value,C.w.heap[C.κ i]?=some (.cells cs.toArray T (0,0))∧RepL C l cs
 |.opq R vis=>(∀w':World,(∀g,C.own g=some i→w'.heap[g]?=C.w.heap[g]?)→C.w.heap.size≤w'.heap.size→R (fun g=>C.own g=some i) (C.κ i) w')∧∀o x,vis o=some x→∃v,C.w.cell? ⟨C.κ i,o,none⟩=some v∧Rep C x v
 |.row T l=>∃cs rest:List Value,C.w.heap[C.κ i]?=some (.cells (cs++rest).toArray T (0,0))∧RepL C l cs
 |.map l c=>∃es:Array MapEntry,C.w.heap[C.κ i]?=some (.map es c)∧RepEs C l es.toList∧BornOk es.toList c
structure Inv(G:World→Prop)(C:Ctx)(h:Hp):Prop where
 nb:h.b.length=C.nb
 box:∀i b,h.b[i]?=some b→BlkRep C i b
 ownk:∀i,i<C.nb→C.own (C.κ i)=some i
 ownlt:∀g i,C.own g=some i→i<C.nb∧g<C.w.heap.size∧C.base≤g
 prot:∀g j,C.S g j→g<C.w.heap.size∧C.own g=none∧∀t E W m,C.hw t=some (E,W,m)→C.τ t=g→j<m*W
 rows:∀t E W m,C.hw t=some (E,W,m)→C.own (C.τ t)=none∧C.base≤C.τ t∧∃cap,RowAt C (C.τ t) E W cap∧m≤cap
 inj:∀t t',(C.hw t).isSome=true→(C.hw t').isSome=true→C.τ t=C.τ t'→t=t'
 toks:∀t,C.hw t=h.t[t]?
 base:C.base≤C.w.heap.size
 glob:∀w':World,(∀g,g<C.base→w'.heap[g]?=C.w.heap[g]?)→G w'
structure Step(C C':Ctx):Prop where
 ext:Ext C C'
 os:C'.w.os=C.w.os
 tape:C'.w.tape=C.w.tape
 output:C'.w.output=C.w.output
 size:C.w.heap.size≤C'.w.heap.size
 base:C'.base=C.base
 frame:∀g,g<C.w.heap.size→C.own g=none→(∀t,(C.hw t).isSome=true→C.τ t≠g)→C'.w.heap[g]?=C.w.heap[g]?
 own:∀g,g<C.w.heap.size→C'.own g=C.own g
 prot:∀g j,C'.S g j→C.S g j∨C.w.heap.size≤g∨∃t,(C.hw t).isSome=true∧C.τ t=g
 row:∀t,(C'.hw t).isSome=true→C.w.heap.size≤C'.τ t∨((C.hw t).isSome=true∧C'.τ t=C.τ t)
theorem Step.refl(C:Ctx):Step C C:=
 ⟨Ext.refl C,rfl,rfl,rfl,Zf _,rfl,fun _ _ _ _=>rfl,fun _ _=>rfl,fun _ _ h=> .inl h,fun t h=> .inr ⟨h,rfl⟩⟩
theorem Step.trans{C C' C'':Ctx}(h:Step C C')(k:Step C' C''):Step C C'' where
 ext:=h.ext.trans k.ext
 os:=k.os.trans h.os
 tape:=k.tape.trans h.tape
 output:=k.output.trans h.output
 size:=Zl h.size k.size
 base:=k.base.trans h.base
 frame:=fun g hg ho ht=>by
  refine(k.frame g (ZK hg h.size) ((h.own g hg).trans ho) fun t hs e=>?_).trans (h.frame g hg ho ht);rcases h.row t hs with h1|⟨h1,h2⟩
  ·omega
  ·exact ht t h1 (h2.symm.trans e)
 own:=fun g hg=>(k.own g (ZK hg h.size)).trans (h.own g hg)
 prot:=fun g j hs=>by
  rcases k.prot g j hs with h1|h1|⟨t,h1,h2⟩
  ·exact h.prot g j h1
  ·exact .inr (.inl (Zl h.size h1))
  ·rcases h.row t h1 with h3|⟨h3,h4⟩
   ·exact .inr (.inl (by omega))
   ·exact .inr (.inr ⟨t,h3,h4.symm.trans h2⟩)
 row:=fun t hs=>by
  rcases k.row t hs with h1|⟨h1,h2⟩
  ·exact .inl (Zl h.size h1)
  ·rcases h.row t h1 with h3|⟨h3,h4⟩
   ·exact .inl (by omega)
   ·exact .inr ⟨h3,h2.trans h4⟩
def Ctx.at(C:Ctx)(w:World):Ctx:={ C with w:=w }
theorem cell_of_block{w w':World}{g j:Nat}(h:w'.heap[g]?=w.heap[g]?):w'.cell? ⟨g,j,none⟩=w.cell? ⟨g,j,none⟩:=by simp only[World.cell?,h]
theorem RowAt.same{C C':Ctx}{g cap W:Nat}{E:TypeId}(h:RowAt C g E W cap)(e:C'.w.heap[g]?=C.w.heap[g]?):RowAt C' g E W cap:=by
 obtain⟨cur,h1,h2⟩:=h;exact⟨cur,e.trans h1,h2⟩
theorem RowAt.lt{C:Ctx}{g cap W:Nat}{E:TypeId}(h:RowAt C g E W cap):g<C.w.heap.size:=by
 obtain⟨cur,h1,h2⟩:=h;exact(Z0.1 h1).1
theorem BlkRep.ext{C C':Ctx}{i:Nat}{b:Blk}(h:BlkRep C i b)(he:Ext C C')(hi:i<C.nb)(ho:C.own (C.κ i)=some i)(hlt:∀g j,C.own g=some j→g<C.w.heap.size)
  (hblk:∀g,C.own g=some i→C'.w.heap[g]?=C.w.heap[g]?) (hown:∀g,C'.own g=some i↔C.own g=some i) (hsz:C.w.heap.size≤C'.w.heap.size):BlkRep C' i b:=by
 cases b with
 |cells T l=>
  obtain⟨cs,h1,h2⟩:=h;refine⟨cs,?_,RepL.ext he l cs h2⟩;rw[he.box i hi,hblk _ ho];exact h1
 |opq R vis=>
  refine⟨fun w' hw hs=>?_,fun o x hx=>?_⟩
  ·have:=h.1 w' (fun g hg=>(hw g ((hown g).2 hg)).trans (hblk g hg)) (Zl hsz hs);rw[he.box i hi];have e:(fun g=>C'.own g=some i)=(fun g=>C.own g=some i):=funext fun g=>propext (hown g)
   rw[e];exact this
  ·obtain⟨v,h1,h2⟩:=h.2 o x hx;exact⟨v,by rw[he.box i hi,cell_of_block (hblk _ ho)];exact h1,Rep.ext he x v h2⟩
 |row T l=>
  obtain⟨cs,rest,h1,h2⟩:=h;refine⟨cs,rest,?_,RepL.ext he l cs h2⟩;rw[he.box i hi,hblk _ ho];exact h1
 |map l c=>
  obtain⟨es,h1,h2,h3⟩:=h;exact⟨es,by rw[he.box i hi,hblk _ ho];exact h1,h2.ext he,h3⟩
theorem cz6{C:Ctx}{w':World}{h:Hp}{G:World→Prop}(hI:Inv G C h)(hb:Below C.w.heap.size C.w w'):Ext C (C.at w') where
 cells:=fun g j hs=>⟨hs,cell_of_block (hb.block g (hI.prot g j hs).1)⟩
 nb:=Zf _
 box:=fun _ _=>rfl
 row:=fun t E W m ht=>by
  obtain⟨_,_,cap,h1,_⟩:=hI.rows t E W m ht;exact⟨m,ht,.inr ⟨rfl,rfl,fun cap hc=>hc.same (hb.block _ h1.lt)⟩⟩
theorem aq0{C:Ctx}{w':World}{h:Hp}{G:World→Prop}(hI:Inv G C h)(hb:Below C.w.heap.size C.w w'):Inv G (C.at w') h∧Step C (C.at w'):=by
 have he:=cz6 hI hb;refine⟨⟨hI.nb,fun i b hib=>?_,hI.ownk,fun g i hg=>?_,fun g j hs=>?_,fun t E W m ht=>?_,hI.inj,hI.toks,Zl hI.base hb.size,fun w2 hw=>?_⟩,⟨he,hb.os,hb.tape,hb.output,hb.size,rfl,fun g hg _ _=>hb.block g hg,fun _ _=>rfl,fun _ _ h=> .inl h,fun t h=> .inr ⟨h,rfl⟩⟩⟩
 ·have hi:i<C.nb:=by rw[←hI.nb];exact(Zd.1 hib).1
  exact(hI.box i b hib).ext he hi (hI.ownk i hi) (fun g j hg=>(hI.ownlt g j hg).2.1) (fun g hg=>hb.block g (hI.ownlt g i hg).2.1) (fun _=>Iff.rfl) hb.size
 ·obtain⟨h1,h2,h3⟩:=hI.ownlt g i hg;exact⟨h1,ZK h2 hb.size,h3⟩
 ·obtain⟨h1,h2,h3⟩:=hI.prot g j hs;exact⟨ZK h1 hb.size,h2,h3⟩
 ·obtain⟨h1,h2,cap,h3,h4⟩:=hI.rows t E W m ht;exact⟨h1,h2,cap,h3.same (hb.block _ h3.lt),h4⟩
 ·exact hI.glob w2 fun g hg=>(hw g hg).trans (hb.block g (ZK hg hI.base))
def ACall(P:Program)(G:World→Prop)(f:FuncId)(args:List A)(h:Hp)(Q:A→Hp→Prop):Prop:=
 ∀(C:Ctx) (cs:List Value),Inv G C h→RepL C args cs→Calls P f cs.toArray C.w fun e w'=>
  ∃(C':Ctx) (h':Hp) (v:A) (cv:Value),e=.returned cv∧C'.w=w'∧Inv G C' h'∧Step C C'∧Rep C' v cv∧Q v h'
theorem ACall.mono{P:Program}{G:World→Prop}{f:FuncId}{args:List A}{h:Hp}{Q Q':A→Hp→Prop}(hc:ACall P G f args h Q)(hq:∀v h',Q v h'→Q' v h'):ACall P G f args h Q':=
 fun C cs hI ha=>(hc C cs hI ha).mono fun e w' ⟨C',h',v,cv,h1,h2,h3,h4,h5,h6⟩=>⟨C',h',v,cv,h1,h2,h3,h4,h5,hq _ _ h6⟩
theorem azo{P:Program}{G:World→Prop}{f:FuncId}{args:List A}{cargs:List Value}{v:A}{cv:Value}(hargs:∀C cs,RepL C args cs→cs=cargs)
  (hc:∀w,G w→Calls P f cargs.toArray w fun e w'=>e=.returned cv∧Below w.heap.size w w') (hv:∀C,Rep C v cv) (h:Hp):ACall P G f args h fun v' h'=>v'=v∧h'=h:=by
 intro C cs hI ha;obtain rfl:=hargs C cs ha;refine(hc C.w (hI.glob C.w fun _ _=>rfl)).mono ?_;rintro e w' ⟨rfl,hb⟩;obtain⟨h1,h2⟩:=aq0 hI hb;exact⟨C.at w',h,v,cv,rfl,rfl,h1,h2,hv _,rfl,rfl⟩
def Ctx.hid(C:Ctx):Ctx:={ C with nb:=0,hw:=fun _=>none,own:=fun _=>none }
theorem RepL.pures{C C':Ctx}(h:Same C C'):∀(l:List A) (cs:List Value),l.all A.pure=true→RepL C l cs→RepL C' l cs
 |[],cs,d,r=>by unfold RepL at r⊢;exact r
 |x::l,cs,d,r=>by
  unfold RepL at r⊢;rw[ZC,Zc]at d;obtain⟨c,cs',h1,h2,h3⟩:=r;exact⟨c,cs',h1,Rep.pure h x c d.1 h2,RepL.pures h l cs' d.2 h3⟩
theorem ACall.beside{P:Program}{G:World→Prop}{f:FuncId}{args:List A}{Q:A→Hp→Prop}(hc:ACall P G f args ⟨[],[]⟩ Q)(hp:∀v h',Q v h'→v.pure=true)(ha:args.all A.pure=true)(h:Hp):
  ACall P G f args h fun v h'=>h'=h∧∃h0,Q v h0:=by
 intro C cs hI hr;have hid:Inv G C.hid ⟨[],[]⟩:=by
  refine⟨rfl,fun i b hb=>by simp at hb,fun i hi=>by simp[Ctx.hid]at hi,fun g i hg=>by simp[Ctx.hid]at hg,fun g j hs=>?_,fun t E W m ht=>by simp[Ctx.hid]at ht,fun t t' ht=>by simp[Ctx.hid]at ht,fun t=>by simp[Ctx.hid],hI.base,hI.glob⟩;exact⟨(hI.prot g j hs).1,rfl,fun t E W m ht=>by simp[Ctx.hid]at ht⟩
 refine(hc C.hid cs hid (RepL.pures (C:=C) (C':=C.hid) ⟨fun g j hs=>⟨hs,rfl⟩⟩ args cs ha hr)).mono ?_;rintro e w' ⟨C1,h1,v,cv,rfl,rfl,I1,S1,r1,q1⟩;have hblk:∀g,g<C.w.heap.size→C1.w.heap[g]?=C.w.heap[g]?:=fun g hg=>S1.frame g hg rfl fun t ht=>by simp[Ctx.hid]at ht
 let C2:Ctx:={ C with w:=C1.w,S:=C1.S,own:=fun g=>if g<C.w.heap.size then C.own g else none }
 have hsz:C.w.heap.size≤C1.w.heap.size:=S1.size;have he:Ext C C2:=by
  refine⟨fun g j hs=>S1.ext.cells g j hs,Zf _,fun _ _=>rfl,fun t E W m ht=>?_⟩;obtain⟨_,_,cap,h2,_⟩:=hI.rows t E W m ht;exact⟨m,ht,.inr ⟨rfl,rfl,fun cap hc=>hc.same (hblk _ h2.lt)⟩⟩
 have hown:∀g i,C2.own g=some i↔C.own g=some i:=fun g i=>by
  show(if g<C.w.heap.size then C.own g else none)=some i↔_
  split
  ·exact Iff.rfl
  ·next hg=>exact⟨fun e=>(by cases e),fun e=>absurd (hI.ownlt g i e).2.1 hg⟩
 have hprot:∀g j,C1.S g j→C.S g j∨C.w.heap.size≤g:=fun g j hs=>by
  rcases S1.prot g j hs with h2|h2|⟨t,h2,_⟩
  ·exact .inl h2
  ·exact .inr h2
  ·simp[Ctx.hid]at h2
 refine⟨C2,h,v,cv,rfl,rfl,⟨hI.nb,fun i b hib=>?_,fun i hi=>(hown _ _).2 (hI.ownk i hi),fun g i hg=>?_,fun g j hs=>?_,fun t E W m ht=>?_,hI.inj,hI.toks,Zl hI.base hsz,fun w2 hw=>?_⟩,⟨he,S1.os,S1.tape,S1.output,hsz,rfl,fun g hg _ _=>hblk g hg,fun g hg=>?_,fun g j hs=>?_,fun t ht=> .inr ⟨ht,rfl⟩⟩,Rep.pure (C:=C1) (C':=C2) ⟨fun g j hs=>⟨hs,rfl⟩⟩ v cv (hp v h1 q1) r1,rfl,h1,q1⟩
 ·have hi:i<C.nb:=by rw[←hI.nb];exact(Zd.1 hib).1
  exact(hI.box i b hib).ext he hi (hI.ownk i hi) (fun g j hg=>(hI.ownlt g j hg).2.1) (fun g hg=>hblk g (hI.ownlt g i hg).2.1) (fun g=>hown g i) hsz
 ·obtain⟨k1,k2,k3⟩:=hI.ownlt g i ((hown g i).1 hg);exact⟨k1,ZK k2 hsz,k3⟩
 ·have hlt:=(I1.prot g j hs).1;rcases hprot g j hs with h2|h2
  ·obtain⟨k1,k2,k3⟩:=hI.prot g j h2;exact⟨hlt,by show(if g<C.w.heap.size then C.own g else none)=none;rw[if_pos k1,k2],k3⟩
  ·refine⟨hlt,by show(if g<C.w.heap.size then C.own g else none)=none;rw[if_neg (by omega)],fun t E W m ht e=>?_⟩;obtain⟨_,_,cap,k1,_⟩:=hI.rows t E W m ht;have:=k1.lt;have e':C.τ t=g:=e;omega
 ·obtain⟨k1,k2,cap,k3,k4⟩:=hI.rows t E W m ht;exact⟨by show(if C.τ t<C.w.heap.size then C.own (C.τ t)else none)=none;rw[if_pos k3.lt,k1],k2,cap,k3.same (hblk _ k3.lt),k4⟩
 ·exact hI.glob w2 fun g hg=>(hw g hg).trans (hblk g (ZK hg hI.base))
 ·show(if g<C.w.heap.size then C.own g else none)=C.own g
  rw[if_pos hg]
 ·rcases hprot g j hs with h2|h2
  ·exact .inl h2
  ·exact .inr (.inl h2)
inductive Opd where
 |t (n:Nat)
 |c (a:A)
inductive AOp where
 |mv (x:Opd)
 |pick (c a b:Opd)
 |alloc (T:TypeId) (z:List A)
 |box (T:TypeId) (x:Opd)
 |build (z:List A) (parts:List (Nat×Nat×Opd))
 |mks (W:Nat) (parts:List Opd)
 |mkr (E:TypeId) (W:Nat) (parts:List Opd)
 |mkl (E:TypeId) (W:Nat) (parts:List Opd)
 |slsl (W:Nat) (x:Opd) (lo hi:Option Opd)
 |load (agg:Bool) (n:Nat) (p:Opd)
 |store (n:Nat) (p x:Opd)
 |nilck (x:Opd)
 |faddr (off:Nat) (x:Opd)
 |iaddr (W:Nat) (x i:Opd)
 |sidx (x i:Opd)
 |ssl (x:Opd) (lo hi:Option Opd)
 |len (s:Bool) (x:Opd)
 |app (E:TypeId) (W bytes:Nat) (x y:Opd)
 |bin (op:BinOp) (x y:Opd)
 |eq (kind:Nat) (ks:List Nat) (ne:Bool) (x y:Opd)
 |un (op:UnOp) (x:Opd)
 |conv (k:IntKind) (x:Opd)
 |extract (x:Opd) (i:Nat)
 |max3 (x y z:Opd)
 |mkfn (f:FuncId) (caps:List Opd)
 |mkmap
 |mget (z:A) (ok:Bool) (m k:Opd)
 |mset (m k x:Opd)
 |mdel (m k:Opd)
 |mclr (m:Opd)
 |mlen (m:Opd)
 |mm (mx:Bool) (x y:Opd)
 |call (f:FuncId) (args:List Opd)
 |callv (x:Opd) (args:List Opd)
structure AOper where
 dst:Option Nat
 op:AOp
 guard:Option (Nat×Bool)
 after:List Nat
inductive ACode where
 |skip
 |reg (draw:Bool) (ops:List AOper)
 |seq (a b:ACode)
 |cond (c:Opd) (a b:ACode)
 |block (id:Nat) (c:ACode)
 |loop (c:ACode)
 |exit (id:Nat)
 |ret
 |prim (n:Nat) (c:Code)
def A.cells:A→List A
 |.agg l=>l
 |x=>[x]
def A.one:A→Bool
 |.agg _=>false
 |.tup _=>false
 |_=>true
def setCells:List A→Nat→List A→List A
 |l,_,[]=>l
 |l,o,x::xs=>setCells (l.set o x) (o+1) xs
def fillA(ev:Opd→A):List A→List (Nat×Nat×Opd)→Option (List A)
 |z,[]=>some z
 |z,(o,n,x)::ps=>if(ev x).cells.length=n∧o+n≤z.length then fillA ev (setCells z o (ev x).cells) ps else none
def rowsA(ev:Opd→A)(W:Nat):List Opd→Option (List (List A))
 |[]=>some []
 |x::xs=>if(ev x).cells.length=W∧(ev x).cells.all A.data=true then(rowsA ev W xs).map ((ev x).cells::·)else none
def rowsR(ev:Opd→A)(W:Nat):List Opd→Option (List (List A))
 |[]=>some []
 |x::xs=>if(ev x).cells.length=W then(rowsR ev W xs).map ((ev x).cells::·)else none
def eqCells:List Nat→List A→List A→Option Bool
 |[],[],[]=>some true
 |0::ks,.int k a::l,.int k' b::m=>if k=k' then(eqCells ks l m).map ((a==b)&&·)else none
 |1::ks,.str a::l,.str b::m=>(eqCells ks l m).map ((a==b)&&·)
 |2::ks,.bool a::l,.bool b::m=>(eqCells ks l m).map ((a==b)&&·)
 |_,_,_=>none
def shA(op:BinOp)(k:IntKind)(a b:Int):Option A:=
 match op with
 |.shl=>if 0≤b then some (.int k (k.wrap (a*2^(min b.toNat k.bits))))else none
 |.shr=>if 0≤b then some (.int k (a.fdiv (2^(min b.toNat k.bits))))else none
 |_=>none
def bop(op:BinOp):A→A→Option A
 |.int k a,.int k' b=>
  (match op with
  |.shl=>shA .shl k a b
  |.shr=>shA .shr k a b
  |_=>if k=k' then
   (match op with
   |.and=>some (.int k (bits .and k a b))
   |.or=>some (.int k (bits .or k a b))
   |.xor=>some (.int k (bits .xor k a b))
   |.andNot=>some (.int k (bits .andNot k a b))
   |.add=>some (.int k (k.wrap (a+b)))
   |.sub=>some (.int k (k.wrap (a-b)))
   |.mul=>some (.int k (k.wrap (a*b)))
   |.quo=>if b≠0 then some (.int k (k.wrap (a.tdiv b)))else none
   |.rem=>if b≠0 then some (.int k (a.tmod b))else none
   |.eql=>some (.bool (a==b))
   |.neq=>some (.bool (a !=b))
   |.lss=>some (.bool (decide (a<b)))
   |.leq=>some (.bool (decide (a≤b)))
   |.gtr=>some (.bool (decide (a>b)))
   |.geq=>some (.bool (decide (a≥b)))
   |_=>none)else none)
 |.str a,.str b=>
   (match op with
   |.add=>if a.length+b.length<1099511627776 then some (.str (a++b))else none
   |.eql=>some (.bool (a==b))
   |.neq=>some (.bool (a !=b))
   |.lss=>some (.bool (Op.bytesLess a b))
   |.leq=>some (.bool (Op.bytesLess a b||a==b))
   |.gtr=>some (.bool (!(Op.bytesLess a b||a==b)))
   |.geq=>some (.bool (!Op.bytesLess a b))
   |_=>none)
 |_,_=>none
def eqA:Nat→List Nat→A→A→Option Bool
 |0,_,.bool a,.bool b=>some (a==b)
 |1,_,.nilp,.nilp=>some true
 |1,_,.nilp,.ptr ..=>some false
 |1,_,.nilp,.vptr ..=>some false
 |1,_,.ptr ..,.nilp=>some false
 |1,_,.vptr ..,.nilp=>some false
 |2,ks,.agg l,.agg m=>eqCells ks l m
 |3,_,.nilm,.nilm=>some true
 |3,_,.nilm,.mp ..=>some false
 |3,_,.mp ..,.nilm=>some false
 |_,_,_,_=>none
def uop(op:UnOp):A→Option A
 |.bool b=>(match op with|.not=>some (.bool (!b))|_=>none)
 |.int k n=>(match op with|.neg=>some (.int k (k.wrap (0-n)))|_=>none)
 |_=>none
def loadA(h:Hp)(agg:Bool)(n:Nat):A→Option A
 |.ptr i o=>match h.b[i]? with
  |some (.cells _ l)=>if o+n≤l.length then(if agg then some (.agg ((l.drop o).take n))else((l.drop o).take n)[0]?)else none
  |some (.opq _ vis)=>if agg=false∧n=1 then vis o else none
  |some (.row _ l)=>if o+n≤l.length then(if agg then some (.agg ((l.drop o).take n))else((l.drop o).take n)[0]?)else none
  |_=>none
 |.vptr l=>if n≤l.length then(if agg then some (.agg (l.take n))else(l.take n)[0]?)else none
 |_=>none
def storeA(h:Hp)(n:Nat)(x:A):A→Option Hp
 |.ptr i o=>match h.b[i]? with
  |some (.cells T l)=>if x.cells.length=n∧o+n≤l.length∧x.cells.all A.one=true then some ⟨h.b.set i (.cells T (setCells l o x.cells)),h.t⟩else none
  |some (.row T l)=>if x.cells.length=n∧o+n≤l.length∧x.cells.all A.one=true then some ⟨h.b.set i (.row T (setCells l o x.cells)),h.t⟩else none
  |_=>none
 |_=>none
def appA(h:Hp)(E:TypeId)(W bytes:Nat):A→A→Option (A×Hp)
 |.sl W1 .nil xs,.sl W' _ ys=>if W'=W∧0<ys.length∧ys.length≤maxLen∧ys.length*bytes≤140737488355328 then
   some (.sl W (.tok h.t.length) ys,⟨h.b,h.t++[(E,W,ys.length)]⟩)else if ys.length=0 then some (.sl W1 .nil xs,h)else none
 |.sl W1 (.tok t) xs,.sl W' _ ys=>if W1=W∧W'=W∧0<ys.length∧h.t[t]?=some (E,W,xs.length)∧xs.length+ys.length≤maxLen∧(xs.length+ys.length)*bytes≤140737488355328 then
   some (.sl W (.tok t) (xs++ys),⟨h.b,h.t.set t (E,W,xs.length+ys.length)⟩)else if ys.length=0 then some (.sl W1 (.tok t) xs,h)else none
 |_,_=>none
def ssliceA(lo hi:Option A):A→Option A
 |.str l=>
  (match lo.getD (.int .i64 0),hi.getD (.int .i64 l.length)with
  |.int _ a,.int _ b=>if 0≤a∧a≤b∧b≤l.length then some (.str ((l.take b.toNat).drop a.toNat))else none
  |_,_=>none)
 |_=>none
def sslA(W:Nat)(lo hi:Option A):A→Option A
 |.sl W' _ rows=>
  (match lo.getD (.int .i64 0),hi.getD (.int .i64 rows.length)with
  |.int _ a,.int _ b=>if 0≤a∧a≤b∧b≤rows.length∧(W'=W∨rows.length=0)then some (.sl W .no ((rows.take b.toNat).drop a.toNat))else none
  |_,_=>none)
 |_=>none
def mfind(n:Int):List (Int×A)→Option A
 |[]=>none
 |(k,x)::l=>if n=k then some x else mfind n l
def mput(n:Int)(x:A):List (Int×A)→List (Int×A)
 |[]=>[(n,x)]
 |(k,y)::l=>if n=k then(n,x)::l else(k,y)::mput n x l
def merase(n:Int):List (Int×A)→List (Int×A)
 |[]=>[]
 |(k,y)::l=>if n=k then l else(k,y)::merase n l
def mclock(n:Int)(l:List (Int×A))(c:Nat):Nat:=if(mfind n l).isSome then c else c+1
def mgetV(z:A)(ok:Bool)(r:Option A):A:=if ok then .tup [r.getD z,.bool r.isSome]else r.getD z
def mgetA(h:Hp)(z:A)(ok:Bool):A→A→Option A
 |.nilm,.int .i64 _=>some (mgetV z ok none)
 |.mp i,.int .i64 n=>match h.b[i]? with
  |some (.map es _)=>some (mgetV z ok (mfind n es))
  |_=>none
 |_,_=>none
def msetA(h:Hp)(x:A):A→A→Option Hp
 |.mp i,.int .i64 n=>match h.b[i]? with
  |some (.map es c)=>some ⟨h.b.set i (.map (mput n x es) (mclock n es c)),h.t⟩
  |_=>none
 |_,_=>none
def mdelA(h:Hp):A→A→Option Hp
 |.mp i,.int .i64 n=>match h.b[i]? with
  |some (.map es c)=>some ⟨h.b.set i (.map (merase n es) c),h.t⟩
  |_=>none
 |_,_=>none
def mclrA(h:Hp):A→Option Hp
 |.mp i=>match h.b[i]? with
  |some (.map _ c)=>some ⟨h.b.set i (.map [] c),h.t⟩
  |_=>none
 |_=>none
def mlenA(h:Hp):A→Option A
 |.nilm=>some (.int .i64 0)
 |.mp i=>match h.b[i]? with
  |some (.map es _)=>some (.int .i64 es.length)
  |_=>none
 |_=>none
def astep(ev:Opd→A)(h:Hp):AOp→Option (A×Hp)
 |.mv x=>some (ev x,h)
 |.pick c a b=>(match ev c with|.bool t=>some (if t then ev a else ev b,h)|_=>none)
 |.alloc T z=>some (.ptr h.b.length 0,⟨h.b++[.cells T z],h.t⟩)
 |.box T x=>some (.ptr h.b.length 0,⟨h.b++[.cells T (ev x).cells],h.t⟩)
 |.build z ps=>(fillA ev z ps).map fun l=>(.agg l,h)
 |.mks W ps=>(rowsA ev W ps).map fun r=>(.sl W .no r,h)
 |.mkl E W ps=>(rowsA ev W ps).map fun r=>(.sl W (.tok h.t.length) r,⟨h.b,h.t++[(E,W,r.length)]⟩)
 |.slsl W x lo hi=>(sslA W (lo.map ev) (hi.map ev) (ev x)).map (·,h)
 |.mkr E W ps=>(rowsR ev W ps).map fun r=>(.bs h.b.length W r.length,⟨h.b++[.row E r.flatten],h.t⟩)
 |.load g n p=>(loadA h g n (ev p)).map (·,h)
 |.store n p x=>(storeA h n (ev x) (ev p)).map (.tup [],·)
 |.nilck x=>(match ev x with|.ptr i o=>some (.ptr i o,h)|.vptr l=>some (.vptr l,h)|_=>none)
 |.faddr o x=>(match ev x with|.ptr i p=>some (.ptr i (p+o),h)|.vptr l=>if o≤l.length then some (.vptr (l.drop o),h)else none|_=>none)
 |.iaddr W x i=>(match ev x,ev i with|.sl W' _ rows,.int _ n=>if 0≤n∧n<rows.length∧W'=W then some (.vptr (rows.getD n.toNat []),h)else none|.bs b W' m,.int _ n=>if 0≤n∧n<m∧W'=W then some (.ptr b (n.toNat*W),h)else none|_,_=>none)
 |.sidx x i=>(match ev x,ev i with|.str l,.int _ n=>if 0≤n∧n<l.length then some (.int .u8 (l.getD n.toNat 0).toNat,h)else none|_,_=>none)
 |.ssl x lo hi=>(ssliceA (lo.map ev) (hi.map ev) (ev x)).map (·,h)
 |.len s x=>(match s,ev x with|true,.str l=>some (.int .i64 l.length,h)|false,.sl _ _ rows=>some (.int .i64 rows.length,h)|false,.bs _ _ m=>some (.int .i64 m,h)|_,_=>none)
 |.app E W by_ x y=>appA h E W by_ (ev x) (ev y)
 |.bin op x y=>(bop op (ev x) (ev y)).map (·,h)
 |.eq k ks ne x y=>(eqA k ks (ev x) (ev y)).map fun b=>(.bool (if ne then !b else b),h)
 |.un op x=>(uop op (ev x)).map (·,h)
 |.conv k x=>(match ev x with|.int _ n=>some (.int k (k.wrap n),h)|_=>none)
 |.extract x i=>(match ev x with|.tup l=>(l[i]?).map (·,h)|_=>none)
 |.max3 x y z=>(match ev x,ev y,ev z with|.int k a,.int _ b,.int _ c=>some (.int k (if c>(if b>a then b else a)then c else(if b>a then b else a)),h)|_,_,_=>none)
 |.mkfn f caps=>some (.fn f (caps.map ev),h)
 |.mkmap=>some (.mp h.b.length,⟨h.b++[.map [] 0],h.t⟩)
 |.mget z ok m k=>(mgetA h z ok (ev m) (ev k)).map (·,h)
 |.mset m k x=>(msetA h (ev x) (ev m) (ev k)).map (.tup [],·)
 |.mdel m k=>(mdelA h (ev m) (ev k)).map (.tup [],·)
 |.mclr m=>(mclrA h (ev m)).map (.tup [],·)
 |.mlen m=>(mlenA h (ev m)).map (·,h)
 |.mm mx x y=>(match ev x,ev y with|.int k a,.int _ b=>some (.int k (if mx then(if b>a then b else a)else(if b<a then b else a)),h)|_,_=>none)
 |.call ..=>none
 |.callv ..=>none
def cxd:Value→Option A
 |.int k n=>some (.int k n)
 |.string s=>some (.str s.data.toList)
 |.bool b=>some (.bool b)
 |.pointer none=>some .nilp
 |.nilIface=>some .nili
 |.nilFunc=>some .nilf
 |.map none=>some .nilm
 |.slice none 0 0=>some (.sl 0 .nil [])
 |_=>none
def convs:List Value→Option (List A)
 |[]=>some []
 |v::vs=>(cxd v).bind fun a=>(convs vs).bind fun l=>some (a::l)
def convV:Value→Option A
 |.agg cs=>(convs cs.toList).bind fun l=>some (.agg l)
 |.tuple cs=>if cs.toList.isEmpty then some (.tup [])else none
 |v=>cxd v
def compX(n:Nat):Operand→Option Opd
 |.tmp t=>if t<n then some (.t t)else none
 |.const v=>(convV v).bind fun a=>some (.c a)
 |.func f=>if f<bmk then some (.c (.fn f []))else none
 |.global _=>none
def compXs(n:Nat):List Operand→Option (List Opd)
 |[]=>some []
 |x::xs=>(compX n x).bind fun a=>(compXs n xs).bind fun l=>some (a::l)
def compO(n:Nat):Option Operand→Option (Option Opd)
 |none=>some none
 |some x=>(compX n x).bind fun a=>some (some a)
def compParts(P:Program)(n:Nat)(fs:Array Field):List (Nat×Operand)→Option (List (Nat×Nat×Opd))
 |[]=>some []
 |(j,x)::ps=>(fs[j]?).bind fun f=>(P.info? f.type).bind fun i=>(compX n x).bind fun a=>(compParts P n fs ps).bind fun l=>some ((f.offset,i.size,a)::l)
def compRow(n:Nat):Nat→List (Nat×Operand)→Option (List Opd)
 |_,[]=>some []
 |k,(j,x)::ps=>if j=k then(compX n x).bind fun a=>(compRow n (k+1) ps).bind fun l=>some (a::l)else none
def isAggB:TypeDesc→Bool
 |.struct _=>true
 |.array ..=>true
 |_=>false
def mapB(P:Program)(t:TypeId):Bool:=
 match P.underlying t with
 |some (.map k _)=>(match P.underlying k with|some (.int _)=>true|_=>false)
 |_=>false
def zeroOf(P:Program)(t:TypeId):Option A:=
 match P.underlying t with
 |some (.map _ e)=>(P.info? e).bind fun i=>i.zero.bind fun z=>convV z
 |_=>none
def callOk(P:Program)(f:FuncId):Bool:=
 match P.funcs[f]? with
 | some fn => !(fn.name == "runtime.NumGoroutine") && fn.body.isSome
 |none=>false
def compCall(P:Program)(n:Nat)(c:Call)(t:TypeId):Option AOp:=
 match c.callee with
 |.value (.func f)=>if callOk P f=true then(compXs n c.args.toList).bind fun l=>some (.call f l)else none
 |.value (.tmp x)=>if x<n then(compXs n c.args.toList).bind fun l=>some (.callv (.t x) l)else none
 | .builtin .len=>(match c.args.toList,c.argTypes.toList with
  | [x],[T]=>(match P.underlying T with
   | some .string=>(compX n x).bind fun a=>some (.len true a)
   | some (.slice _)=>(compX n x).bind fun a=>some (.len false a)
   | some (.map ..)=>(compX n x).bind fun a=>some (.mlen a)
   | _=>none)
  | _,_=>none)
 | .builtin .append=>(match c.args.toList,c.argTypes.toList with
  | [x,y],[T,T']=>if T=T' then (match P.underlying T with
   | some (.slice E)=>(P.info? E).bind fun i=>i.zero.bind fun z=>if z.cells.size=i.size∧0 < i.size then (compX n x).bind fun a=>(compX n y).bind fun b=>some (.app E i.size i.bytes a b) else none
   | _=>none) else none
  | _,_=>none)
 | .builtin .delete=>(match c.args.toList,c.argTypes.toList with
  | [x,y],T::_=>if mapB P T=true then (compX n x).bind fun a=>(compX n y).bind fun b=>some (.mdel a b) else none
  | _,_=>none)
 | .builtin .clear=>(match c.args.toList,c.argTypes.toList with
  | [x],T::_=>if mapB P T=true then (compX n x).bind fun a=>some (.mclr a) else none
  | _,_=>none)
 | .builtin .max=>(match c.args.toList with
  | [x,y,z]=>(compX n x).bind fun a=>(compX n y).bind fun b=>(compX n z).bind fun d=>some (.max3 a b d)
  | [x,y]=>(compX n x).bind fun a=>(compX n y).bind fun b=>some (.mm true a b)
  | _=>none)
 | .builtin .min=>(match c.args.toList with
  | [x,y]=>(compX n x).bind fun a=>(compX n y).bind fun b=>some (.mm false a b)
  | _=>none)
 |_=>none
def kindsB(P:Program):List Field→Nat→Option (List Nat)
 |[],_=>some []
 | f :: fs, o => if f.offset = o ∧ f.name ≠ "_" then (match P.underlying f.type with
  | some (.int _)=>(kindsB P fs (o+1)).bind fun l=>some (0::l)
  | some .string=>(kindsB P fs (o+1)).bind fun l=>some (1::l)
  | some .bool=>(kindsB P fs (o+1)).bind fun l=>some (2::l)
  | _=>none) else none
def ptrB(P:Program)(E:TypeId):Bool:=match P.underlying E with
 |some (.pointer _)=>true
 |_=>false
def compOp(P:Program)(n:Nat)(o:Oper):Option AOp:=
 match o.op with
 |.move x=>(compX n x).bind fun a=>some (.mv a)
 |.assign x=>(compX n x).bind fun a=>some (.mv a)
 |.pick c a b=>(compX n c).bind fun c=>(compX n a).bind fun a=>(compX n b).bind fun b=>some (.pick c a b)
 |.alloc T=>(P.info? T).bind fun i=>i.zero.bind fun z=>(convs z.cells.toList).bind fun l=>some (.alloc T l)
 |.box T x=>(compX n x).bind fun a=>some (.box T a)
 | .build t parts=>(match P.underlying t with
  | some (.struct fs)=>if fs.toList.all (fun f=>(P.info? f.type).isSome) then (P.info? t).bind fun i=>i.zero.bind fun z=>(convs z.cells.toList).bind fun l=>(compParts P n fs parts.toList).bind fun ps=>some (.build l ps) else none
  | _=>none)
 | .buildSlice t len parts=>(match P.underlying t with
  | some (.slice E)=>(P.info? E).bind fun i=>i.zero.bind fun z=>if z.cells.size=i.size∧0 < i.size∧parts.toList.length=len∧0 < len∧len*i.size≤1000 then (compRow n 0 parts.toList).bind fun ps=>if ptrB P E=true then some (.mkr E i.size ps) else some (.mks i.size ps) else none
  | _=>none)
 |.load t p=>(P.underlying t).bind fun d=>(P.info? t).bind fun i=>(compX n p).bind fun a=>if isAggB d=true∨i.size=1 then some (.load (isAggB d) i.size a)else none
 |.store t p x=>(P.info? t).bind fun i=>(compX n p).bind fun a=>(compX n x).bind fun b=>some (.store i.size a b)
 |.nilCheck x=>(compX n x).bind fun a=>some (.nilck a)
 | .binOp op t x y _=>(match P.underlying t with
  | some (.int _)=>(compX n x).bind fun a=>(compX n y).bind fun b=>some (.bin op a b)
  | some .string=>(compX n x).bind fun a=>(compX n y).bind fun b=>some (.bin op a b)
  | some .bool=>if op = .eql∨op = .neq then (compX n x).bind fun a=>(compX n y).bind fun b=>some (.eq 0 [] (op == .neq) a b) else none
  | some (.pointer _)=>if op = .eql∨op = .neq then (compX n x).bind fun a=>(compX n y).bind fun b=>some (.eq 1 [] (op == .neq) a b) else none
  | some (.map ..)=>if op = .eql∨op = .neq then (compX n x).bind fun a=>(compX n y).bind fun b=>some (.eq 3 [] (op == .neq) a b) else none
  | some (.struct fs)=>if (op = .eql∨op = .neq)∧P.stoodInHeld t=false∧P.eqGuardType P.depth t=false then (kindsB P fs.toList 0).bind fun ks=>(compX n x).bind fun a=>(compX n y).bind fun b=>some (.eq 2 ks (op == .neq) a b) else none
  | _=>none)
 |.unOp op _ x=>(compX n x).bind fun a=>some (.un op a)
 | .convert src dst x=>(match P.underlying src,P.underlying dst with
  | some (.int _),some (.int k)=>(compX n x).bind fun a=>some (.conv k a)
  | _,_=>none)
 |.makeFunc (.func f) first caps=>if f<bmk then(if first.toList.isEmpty then(compXs n caps.toList).bind fun l=>some (.mkfn f l)else if caps.toList.isEmpty then(compXs n first.toList).bind fun l=>some (.mkfn (f+bmk) l)else none)else none
 | .slice t x lo hi mx=>(match P.underlying t,mx with
  | some .string,none=>(compX n x).bind fun a=>(compO n lo).bind fun l=>(compO n hi).bind fun h=>some (.ssl a l h)
  | some (.slice e),none=>(P.info? e).bind fun ie=>(compX n x).bind fun a=>(compO n lo).bind fun l=>(compO n hi).bind fun h=>some (.slsl ie.size a l h)
  | _,_=>none)
 | .fieldAddr s x j=>(match P.underlying s with
  | some (.struct fs)=>(fs[j]?).bind fun f=>(P.info? f.type).bind fun i=>if i.size≠0 then (compX n x).bind fun a=>some (.faddr f.offset a) else none
  | _=>none)
 | .indexAddr t x i=>(match P.underlying t with
  | some (.slice e)=>(P.info? e).bind fun ie=>(compX n x).bind fun a=>(compX n i).bind fun b=>some (.iaddr ie.size a b)
  | _=>none)
 | .index t x i=>(match P.underlying t with
  | some .string=>(compX n x).bind fun a=>(compX n i).bind fun b=>some (.sidx a b)
  | _=>none)
 |.extract x i=>(compX n x).bind fun a=>some (.extract a i)
 |.makeMap t none=>if mapB P t=true then some .mkmap else none
 |.lookup t m k ok=>if mapB P t=true then(zeroOf P t).bind fun z=>(compX n m).bind fun a=>(compX n k).bind fun b=>some (.mget z ok a b)else none
 |.mapUpdate t m k x=>if mapB P t=true then(compX n m).bind fun a=>(compX n k).bind fun b=>(compX n x).bind fun d=>some (.mset a b d)else none
 |.call c=>compCall P n c o.type
 |_=>none
def compDst(n:Nat):Option Tmp→Bool
 |none=>true
 |some d=>decide (d<n)
def compGuard(n:Nat)(ops:Array Oper):Option (Nat×Bool)→Option (Option (Nat×Bool))
 |none=>some none
 |some (j,b)=>((ops[j]?).bind (·.dst)).bind fun t=>if t<n then some (some (t,b))else none
def afterOf(o:Oper):List Nat:=o.after.toList.filterMap fun e=>if Region.binds .any e=true then some e.on else none
def sliceZ(P:Program)(E:TypeId):Bool:=
 match (P.info? E).bind (·.zero)with
 |some (.agg cs)=>cs.toList.any fun v=>match v with|.slice ..=>true|_=>false
 |_=>false
def takenB(ops:List Oper)(d:Nat):Bool:=
 ops.any fun o=>match o.op with
  |.call c=>(match c.callee,c.args.toList with|.builtin .append,[_,.tmp x]=>x==d|_,_=>false)
  |_=>false
def litB(P:Program)(ops:List Oper)(o:Oper):Bool:=
 match o.op,o.dst with
 |.buildSlice t _ _,some d=>(match P.underlying t with|some (.slice E)=>sliceZ P E&&!takenB ops d|_=>false)
 |_,_=>false
def litA(P:Program)(o:Oper):AOp→AOp
 | .mks W ps=>(match o.op with
  | .buildSlice t _ _=>(match P.underlying t with | some (.slice E) => .mkl E W ps | _ => .mks W ps)
  | _ => .mks W ps)
 |x=>x
def compOp'(P:Program)(n:Nat)(ops:List Oper)(o:Oper):Option AOp:=
 if litB P ops o=true then(compOp P n o).map (litA P o)else compOp P n o
def compOpers(P:Program)(n:Nat)(draw:Bool)(ops:Array Oper):List Oper→Option (List AOper)
 |[]=>some []
 |o::os=>if compDst n o.dst=true then(compOp' P n ops.toList o).bind fun a=>(compGuard n ops o.guard).bind fun g=>(compOpers P n draw ops os).bind fun l=>some (⟨o.dst,a,g,if draw then afterOf o else[]⟩::l)else none
def stuck:ACode:=.cond (.c (.tup [])) .skip .skip
def comp(P:Program)(n:Nat):Code→Option ACode
 |.skip=>some .skip
 |.region id ops draw=>(match compOpers P n draw ops ops.toList with|some l=>some (.reg draw l)|none=>some (.prim n (.region id ops draw)))
 |.seq a b=>(comp P n a).bind fun a=>(comp P n b).bind fun b=>some (.seq a b)
 |.cond c a b=>(compX n c).bind fun c=>(comp P n a).bind fun a=>(comp P n b).bind fun b=>some (.cond c a b)
 |.block id c=>(comp P n c).bind fun c=>some (.block id c)
 |.loop c=>(comp P n c).bind fun c=>some (.loop c)
 |.exit id=>some (.exit id)
 |.ret=>some .ret
 |_=>some stuck
end AX
end
section
open Go.RowKit
namespace AX
def evX(ts:Nat→A):Opd→A
 |.t n=>ts n
 |.c a=>a
structure RepT(C:Ctx)(ts:Nat→A)(n:Nat)(a:Act):Prop where
 size:a.tmps.size=n
 rep:∀i,i<n→Rep C (ts i) (a.tmps.getD i undef)
theorem rep_int{C:Ctx}{k:IntKind}{n:Int}{v:Value}:Rep C (.int k n) v↔v=.int k n:=by unfold Rep;exact Iff.rfl
theorem rep_str{C:Ctx}{l:List UInt8}{v:Value}:Rep C (.str l) v↔v=.string ⟨l.toArray⟩:=by unfold Rep;exact Iff.rfl
theorem aqn{C:Ctx}{b:Bool}{v:Value}:Rep C (.bool b) v↔v=.bool b:=by unfold Rep;exact Iff.rfl
theorem aqp{C:Ctx}{v:Value}:Rep C .nilp v↔v=.pointer none:=by unfold Rep;exact Iff.rfl
theorem bv1{C:Ctx}{v:Value}:Rep C .nili v↔v=.nilIface:=by unfold Rep;exact Iff.rfl
theorem bkj{C:Ctx}{v:Value}:Rep C .nilf v↔v=.nilFunc:=by unfold Rep;exact Iff.rfl
theorem axt{C:Ctx}{v:Value}:Rep C .nilm v↔v=.map none:=by unfold Rep;exact Iff.rfl
theorem rep_bs{C:Ctx}{i W n:Nat}{v:Value}:Rep C (.bs i W n) v↔∃cap,v=.slice (some ⟨C.κ i,0,none⟩) n cap∧n≤cap∧i<C.nb:=by rw[Rep]
theorem rep_mp{C:Ctx}{i:Nat}{v:Value}:Rep C (.mp i) v↔v=.map (some (C.κ i))∧i<C.nb:=by rw[Rep]
theorem rep_sl{C:Ctx}{W:Nat}{o:Own}{rows:List (List A)}{v:Value}:Rep C (.sl W o rows) v↔∃a cap,v=.slice a rows.length cap∧rows.length≤cap∧RepRows C W rows a 0∧RepOwn C W o rows.length a cap:=by rw[Rep]
theorem rep_ptr{C:Ctx}{i o:Nat}{v:Value}:Rep C (.ptr i o) v↔v=.pointer (some ⟨C.κ i,o,none⟩)∧i<C.nb:=by rw[Rep]
theorem rep_vptr{C:Ctx}{l:List A}{v:Value}:Rep C (.vptr l) v↔∃g off,v=.pointer (some ⟨g,off,none⟩)∧RepAt C l g off:=by rw[Rep]
theorem rep_agg{C:Ctx}{l:List A}{v:Value}:Rep C (.agg l) v↔∃cs,v=.agg cs.toArray∧RepL C l cs:=by rw[Rep]
theorem rep_tup{C:Ctx}{l:List A}{v:Value}:Rep C (.tup l) v↔∃cs,v=.tuple cs.toArray∧RepL C l cs:=by rw[Rep]
theorem rep_fn{C:Ctx}{f:FuncId}{l:List A}{v:Value}:Rep C (.fn f l) v↔∃cs,v=fnV f cs.toArray∧RepL C l cs:=by rw[Rep]
theorem repL_nil{C:Ctx}{cs:List Value}:RepL C [] cs↔cs=[]:=by rw[RepL]
theorem repL_cons{C:Ctx}{x:A}{l:List A}{cs:List Value}:RepL C (x::l) cs↔∃c cs',cs=c::cs'∧Rep C x c∧RepL C l cs':=by rw[RepL]
theorem azm{C:Ctx}:∀{l:List A} {cs:List Value},RepL C l cs→cs.length=l.length
 |[],cs,h=>by rw[repL_nil]at h;simp[h]
 |x::l,cs,h=>by
  obtain⟨c,cs',rfl,_,h2⟩:=repL_cons.1 h;simp[azm h2]
theorem axn{C:Ctx}:∀{l:List A} {cs:List Value},RepL C l cs→∀(i:Nat) (x:A),l[i]?=some x→∃c,cs[i]?=some c∧Rep C x c
 |[],cs,h,i,x,hx=>by simp at hx
 |y::l,cs,h,0,x,hx=>by
  obtain⟨c,cs',rfl,h1,h2⟩:=repL_cons.1 h;simp at hx;subst hx;exact⟨c,rfl,h1⟩
 |y::l,cs,h,i+1,x,hx=>by
  obtain⟨c,cs',rfl,h1,h2⟩:=repL_cons.1 h;exact axn h2 i x (by simpa using hx)
theorem bzu{C:Ctx}:∀(l:List A) (cs:List Value),cs.length=l.length→(∀(i:Nat) (x:A) (c:Value),l[i]?=some x→cs[i]?=some c→Rep C x c)→RepL C l cs
 |[],cs,h,_=>by rw[repL_nil];exact Z4 h
 |x::l,[],h,_=>by simp at h
 |x::l,c::cs,h,hg=>by
  rw[repL_cons];exact⟨c,cs,rfl,hg 0 x c rfl rfl,bzu l cs (by simpa using h) fun i x c h1 h2=>hg (i+1) x c (by simpa using h1) (by simpa using h2)⟩
theorem bqx{C:Ctx}{v:Value}{a:A}(h:cxd v=some a):Rep C a v:=by
 unfold cxd at h;split at h<;>simp only[Zb,reduceCtorEq]at h<;>subst h
 ·exact rep_int.2 rfl
 ·next s=>exact rep_str.2 (by rw[show(⟨s.data.toList.toArray⟩:ByteArray)=s from by simp])
 ·exact aqn.2 rfl
 ·exact aqp.2 rfl
 ·exact bv1.2 rfl
 ·exact bkj.2 rfl
 ·exact axt.2 rfl
 ·exact rep_sl.2 ⟨none,0,rfl,Zf _,by unfold RepRows;trivial,rfl,rfl,rfl⟩
theorem ajy{C:Ctx}:∀{vs:List Value} {l:List A},convs vs=some l→RepL C l vs
 |[],l,h=>by simp only[convs,Zb]at h;subst h;exact repL_nil.2 rfl
 |v::vs,l,h=>by
  simp only[convs,Ze,Zb]at h;obtain⟨a,h1,m,h2,rfl⟩:=h;exact repL_cons.2 ⟨v,vs,rfl,bqx h1,ajy h2⟩
theorem bqt{C:Ctx}{v:Value}{a:A}(h:convV v=some a):Rep C a v:=by
 unfold convV at h;split at h
 ·simp only[Ze,Zb]at h;obtain⟨l,h1,rfl⟩:=h;exact rep_agg.2 ⟨_,by simp,ajy h1⟩
 ·next cs=>
  split at h
  ·next he=>
   simp only[Zb]at h;subst h
   exact rep_tup.2 ⟨[],by
    have:cs.toList=[]:=by simpa using he
    rw[Yi.1 (this:cs.toList=(#[]:Array Value).toList)],repL_nil.2 rfl⟩
  ·cases h
 ·exact bqx h
theorem azh{C:Ctx}{ts:Nat→A}{n:Nat}{a:Act}(hT:RepT C ts n a){x:Operand}{y:Opd}(h:compX n x=some y):Rep C (evX ts y) (a.eval x):=by
 unfold compX at h;split at h
 ·next t=>
  split at h
  ·simp only[Zb]at h;subst h;exact hT.rep t (by assumption)
  ·cases h
 ·next v=>
  simp only[Ze,Zb]at h;obtain⟨b,h1,rfl⟩:=h;exact bqt h1
 ·split at h
  ·next hb=>
   simp only[Zb]at h;subst h;exact rep_fn.2 ⟨[],by unfold fnV;rw[if_pos hb];rfl,repL_nil.2 rfl⟩
  ·cases h
 ·cases h
theorem ajd{C:Ctx}{ts:Nat→A}{n:Nat}{a:Act}(hT:RepT C ts n a):∀{xs:List Operand} {ys:List Opd},compXs n xs=some ys→RepL C (ys.map (evX ts)) (xs.map a.eval)
 |[],ys,h=>by simp only[compXs,Zb]at h;subst h;exact repL_nil.2 rfl
 |x::xs,ys,h=>by
  simp only[compXs,Ze,Zb]at h;obtain⟨b,h1,m,h2,rfl⟩:=h;exact repL_cons.2 ⟨_,_,rfl,azh hT h1,ajd hT h2⟩
def OpOk(P:Program)(G:World→Prop)(C:Ctx)(a:Act)(o:Oper)(v:A)(h':Hp):Prop:=
 ∃(C':Ctx) (cv:Value),((execOp a.eval o).run P C.w=.ok (.value cv) C'.w∨((execOp a.eval o).run P C.w=.ok .skip C'.w∧cv=undef))∧Inv G C' h'∧Step C C'∧Rep C' v cv
section
variable {P:Program} {G:World→Prop} {C:Ctx} {a:Act} {o:Oper} {h:Hp} {ts:Nat→A} {n:Nat}
theorem azt{v:A}{cv:Value}(hI:Inv G C h)(hr:(execOp a.eval o).run P C.w=.ok (.value cv) C.w)(hv:Rep C v cv):OpOk P G C a o v h:=
 ⟨C,cv,.inl hr,hI,Step.refl C,hv⟩
def valOf:A→Value
 |.int k n=> .int k n
 |.bool b=> .bool b
 |.str l=> .string ⟨l.toArray⟩
 |_=>undef
theorem ckh{op:BinOp}{t yt:TypeId}{x y:Operand}{u v r:A}(hI:Inv G C h)(hop:o.op=.binOp op t x y yt)
  (hx:Rep C u (a.eval x)) (hy:Rep C v (a.eval y)) (hb:bop op u v=some r):OpOk P G C a o r h:=by
 have key:(binOp op t (a.eval x) (a.eval y)).run P C.w=.ok (valOf r) C.w∧Rep C r (valOf r)∧(eqGuard op t x y (a.eval x) (a.eval y)).run P C.w=.ok () C.w:=by
  cases u with
  |int k m=>
   cases v with
   |int k' m'=>
    rw[rep_int]at hx hy;rw[hx,hy];refine⟨?_,?_,by simp[eqGuard]⟩
    ·cases op<;>simp only[bop,shA,Zb,reduceCtorEq,Zw,and_false]at hb<;>first
      |(obtain⟨hk,hb⟩:=hb;subst hk;subst hb;simp[binOp,Op.intArith,Op.intCmp,intBits_and,intBits_or,intBits_xor,intBits_andNot,valOf];done)
      |(obtain⟨hk,h0,hb⟩:=hb;subst hk;subst hb;simp[binOp,Op.intDiv,h0,valOf];done)
      | (obtain ⟨h0, hb⟩ := hb; subst hb; have h1 : ¬ m' < 0 := by omega
         simp [binOp, Op.shift, h1, valOf]; done)
    ·cases op<;>simp only[bop,shA,Zb,reduceCtorEq,Zw,and_false]at hb<;>first
      |(obtain⟨hk,hb⟩:=hb;subst hb;first|exact rep_int.2 rfl|exact aqn.2 rfl)
      |(obtain⟨hk,h0,hb⟩:=hb;subst hb;exact rep_int.2 rfl)
   |_=>simp[bop]at hb
  |str l=>
   cases v with
   |str m=>
    rw[rep_str]at hx hy;simp only[bop]at hb;rw[hx,hy];have e1:(⟨l.toArray⟩:ByteArray).toList=l:=by rw[ByteArray.toList_eq]
    have e2:(⟨m.toArray⟩:ByteArray).toList=m:=by rw[ByteArray.toList_eq]
    refine⟨?_,?_,by simp[eqGuard]⟩
    ·cases op<;>simp only[Zb,reduceCtorEq,Zw]at hb<;>first
      |(subst hb;simp[binOp,Op.stringOp,e1,e2,valOf,bne];done)
      |(obtain⟨h0,hb⟩:=hb;subst hb;simp only[binOp];exact axm C.w rfl rfl h0)
    ·cases op<;>simp only[Zb,reduceCtorEq,Zw]at hb<;>first
      |(subst hb;exact aqn.2 rfl)
      |(obtain⟨h0,hb⟩:=hb;subst hb;exact rep_str.2 rfl)
   |_=>simp[bop]at hb
  |_=>simp[bop]at hb
 obtain⟨h1,h2,h3⟩:=key;refine azt hI ?_ h2;unfold execOp;simp[hop,h1,h3]
theorem dzg{x:Operand}{v:A}(hI:Inv G C h)(hop:o.op=.move x∨o.op=.assign x)(hx:Rep C v (a.eval x)):OpOk P G C a o v h:=by
 refine azt hI ?_ hx;unfold execOp;rcases hop with e|e<;>simp[e]
theorem cww{c x y:Operand}{u v:A}{b:Bool}(hI:Inv G C h)(hop:o.op=.pick c x y)(hc:Rep C (.bool b) (a.eval c))(hx:Rep C u (a.eval x))(hy:Rep C v (a.eval y)):OpOk P G C a o (if b then u else v) h:=by
 rw[aqn]at hc;refine azt (cv:=if b then a.eval x else a.eval y) hI ?_ (by cases b<;>simpa);unfold execOp;cases b<;>simp[hop,hc,asBool]
theorem dqf{op:UnOp}{t:TypeId}{x:Operand}{u r:A}(hI:Inv G C h)(hop:o.op=.unOp op t x)(hx:Rep C u (a.eval x))(hb:uop op u=some r):OpOk P G C a o r h:=by
 cases u with
 |int k n=>
  rw[rep_int]at hx;simp only[uop]at hb;cases op<;>simp only[Zb,reduceCtorEq]at hb
  subst hb;refine azt hI ?_ (rep_int.2 rfl);unfold execOp;simp[hop,hx,Op.unary,Op.intArith]
 |bool b=>
  rw[aqn]at hx;simp only[uop]at hb;cases op<;>simp only[Zb,reduceCtorEq]at hb
  subst hb;refine azt hI ?_ (aqn.2 rfl);unfold execOp;simp[hop,hx,Op.unary]
 |_=>simp[uop]at hb
theorem cks{src dst:TypeId}{x:Operand}{k j:IntKind}{n:Int}{s:TypeDesc}(hI:Inv G C h)(hop:o.op=.convert src dst x)(hs:P.underlying src=some s)(hd:P.underlying dst=some (.int k))(hx:Rep C (.int j n) (a.eval x)):OpOk P G C a o (.int k (k.wrap n)) h:=by
 rw[rep_int]at hx;refine azt hI ?_ (rep_int.2 rfl);unfold execOp;simp[hop,hx,convert,run_underlying hs,run_underlying hd,Conv.intToInt]
theorem bwo{x:Operand}{i:Nat}{l:List A}{u:A}(hI:Inv G C h)(hop:o.op=.extract x i)(hx:Rep C (.tup l) (a.eval x))(hu:l[i]?=some u):OpOk P G C a o u h:=by
 obtain⟨cs,he,hl⟩:=rep_tup.1 hx;obtain⟨c,hc,hr⟩:=axn hl i u hu;refine azt hI ?_ hr;unfold execOp;simp[hop,he,Instr.extract,hc]
theorem cwg{f:FuncId}{fs cs:Array Operand}{l:List A}(hI:Inv G C h)(hop:o.op=.makeFunc (.func f) fs cs)(hb:f<bmk)(hf:cs=#[])(hx:RepL C l (fs.toList.map a.eval)):OpOk P G C a o (.fn (f+bmk) l) h:=by
 subst hf;refine azt (cv:=.func (.func f) (fs.toList.map a.eval).toArray #[]) hI ?_ (rep_fn.2 ⟨_,by unfold fnV;rw[if_neg (Nat.not_lt.2 (Nat.le_add_left _ _)),Nat.add_mod_right,YM hb],hx⟩);unfold execOp;have e:fs.map a.eval=(fs.toList.map a.eval).toArray:=Yi.1 (by simp);simp[hop,Instr.makeFunc,e]
theorem cwy{f:FuncId}{fs cs:Array Operand}{l:List A}(hI:Inv G C h)(hop:o.op=.makeFunc (.func f) fs cs)(hb:f<bmk)(hf:fs=#[])(hx:RepL C l (cs.toList.map a.eval)):OpOk P G C a o (.fn f l) h:=by
 subst hf;refine azt (cv:=.func (.func f) #[] (cs.toList.map a.eval).toArray) hI ?_ (rep_fn.2 ⟨_,by unfold fnV;rw[if_pos hb],hx⟩);unfold execOp;have e:cs.map a.eval=(cs.toList.map a.eval).toArray:=Yi.1 (by simp);simp[hop,Instr.makeFunc,e]
theorem cwj{t:TypeId}{x i:Operand}{l:List UInt8}{k:IntKind}{n:Int}(hI:Inv G C h)(hop:o.op=.index t x i)(ht:P.underlying t=some .string)(hx:Rep C (.str l) (a.eval x))(hi:Rep C (.int k n) (a.eval i))(h0:0≤n)(h1:n<l.length):OpOk P G C a o (.int .u8 (l.getD n.toNat 0).toNat) h:=by
 rw[rep_str]at hx;rw[rep_int]at hi;refine azt hI ?_ (rep_int.2 rfl);have hlt:n.toNat<l.length:=by omega
 unfold execOp;have hg:(⟨l.toArray⟩:ByteArray)[n.toNat]?=some (l.getD n.toNat 0):=by
  have hs:n.toNat<(⟨l.toArray⟩:ByteArray).size:=by rw[size_mk];exact hlt
  rw[getElem?_pos (⟨l.toArray⟩:ByteArray) n.toNat hs];congr 1;show l.toArray[n.toNat]=_
  simp[List.getD,hlt]
 simp[hop,hx,hi,Instr.index,run_underlying ht,asIntOf,h0,hg]
theorem byz{c:Call}{T:TypeId}{x:Operand}{u:A}{m:Nat}(hI:Inv G C h)(hop:o.op=.call c)(hc:c.callee=.builtin .len)(ha:c.args=#[x])(hT:c.argTypes=#[T])(hx:Rep C u (a.eval x))
  (hu:(P.underlying T=some .string∧∃l,u=.str l∧l.length=m)∨(∃e,P.underlying T=some (.slice e)∧∃W ow rows,u=.sl W ow rows∧rows.length=m)∨(∃e,P.underlying T=some (.slice e)∧∃b W,u=.bs b W m)):OpOk P G C a o (.int .i64 m) h:=by
 refine azt hI ?_ (rep_int.2 rfl);unfold execOp;rcases hu with⟨ht,l,rfl,rfl⟩|⟨e,ht,W,ow,rows,rfl,rfl⟩|⟨e,ht,b,W,rfl⟩
 ·rw[rep_str]at hx;simp[hop,resolve,hc,ha,hT,invoke,builtin,Builtin.len_,hx,run_underlying ht,size_mk,goInt]
 ·obtain⟨ad,cap,e1,_⟩:=rep_sl.1 hx;simp[hop,resolve,hc,ha,hT,invoke,builtin,Builtin.len_,e1,run_underlying ht,goInt]
 ·obtain⟨cap,e1,_⟩:=rep_bs.1 hx;simp[hop,resolve,hc,ha,hT,invoke,builtin,Builtin.len_,e1,run_underlying ht,goInt]
theorem cyc{c:Call}{x y z:Operand}{k1 k2 k3:IntKind}{m1 m2 m3:Int}(hI:Inv G C h)(hop:o.op=.call c)(hc:c.callee=.builtin .max)(ha:c.args=#[x,y,z])(hx:Rep C (.int k1 m1) (a.eval x))(hy:Rep C (.int k2 m2) (a.eval y))(hz:Rep C (.int k3 m3) (a.eval z)):
  OpOk P G C a o (.int k1 (if m3>(if m2>m1 then m2 else m1)then m3 else(if m2>m1 then m2 else m1))) h:=by
 rw[rep_int]at hx hy hz;refine azt hI ?_ (rep_int.2 rfl);unfold execOp;simp[hop,resolve,hc,ha,invoke,builtin,Builtin.max_,Builtin.max2,hx,hy,hz]
theorem cyw{c:Call}{mx:Bool}{x y:Operand}{k1 k2:IntKind}{m1 m2:Int}(hI:Inv G C h)(hop:o.op=.call c)(hc:c.callee=.builtin (if mx then .max else .min))(ha:c.args=#[x,y])(hx:Rep C (.int k1 m1) (a.eval x))(hy:Rep C (.int k2 m2) (a.eval y)):
  OpOk P G C a o (.int k1 (if mx then(if m2>m1 then m2 else m1)else(if m2<m1 then m2 else m1))) h:=by
 rw[rep_int]at hx hy;refine azt hI ?_ (rep_int.2 rfl);unfold execOp;cases mx
 ·simp[hop,resolve,hc,ha,invoke,builtin,Builtin.min_,Builtin.min2,hx,hy]
 ·simp[hop,resolve,hc,ha,invoke,builtin,Builtin.max_,Builtin.max2,hx,hy]
theorem bkn{x:Operand}{u:A}(hI:Inv G C h)(hop:o.op=.nilCheck x)(hx:Rep C u (a.eval x))(hu:(∃i p,u=.ptr i p)∨∃l,u=.vptr l):OpOk P G C a o u h:=by
 refine azt hI ?_ hx;unfold execOp;rcases hu with⟨i,p,rfl⟩|⟨l,rfl⟩
 ·simp[hop,(rep_ptr.1 hx).1]
 ·obtain⟨g,off,e,_⟩:=rep_vptr.1 hx;simp[hop,e]
theorem ayu:∀{l:List A} {g off:Nat} (k:Nat),RepAt C l g off→RepAt C (l.drop k) g (off+k)
 |[],g,off,k,h=>by simp only[List.drop_nil];unfold RepAt;trivial
 |x::l,g,off,0,h=>h
 |x::l,g,off,k+1,h=>by
  rw[RepAt]at h;have:=ayu k h.2;rw[ZU,show off+(k+1)=off+1+k by omega];exact this
theorem bv5{s:TypeId}{x:Operand}{j:Nat}{fs:Array Field}{f:Field}{i:TypeInfo}{u v:A}(hI:Inv G C h)(hop:o.op=.fieldAddr s x j)(hs:P.underlying s=some (.struct fs))(hf:fs[j]?=some f)(hi:P.info? f.type=some i)(h0:i.size≠0)(hx:Rep C u (a.eval x))
  (hu:(∃b p,u=.ptr b p∧v=.ptr b (p+f.offset))∨∃l,u=.vptr l∧v=.vptr (l.drop f.offset)):OpOk P G C a o v h:=by
 rcases hu with⟨b,p,rfl,rfl⟩|⟨l,rfl,rfl⟩
 ·obtain⟨e,hb⟩:=rep_ptr.1 hx;refine azt hI (cv:=.pointer (some ⟨C.κ b,p+f.offset,none⟩)) ?_ (rep_ptr.2 ⟨rfl,hb⟩);unfold execOp;simp[hop,e,Instr.fieldAt,run_underlying hs,hf,Instr.sureAddr,fieldPlace,sizeOf,typeInfo,hi,h0,Addr.add]
 ·obtain⟨g,off,e,hr⟩:=rep_vptr.1 hx;refine azt hI (cv:=.pointer (some ⟨g,off+f.offset,none⟩)) ?_ (rep_vptr.2 ⟨g,_,rfl,ayu _ hr⟩);unfold execOp;simp[hop,e,Instr.fieldAt,run_underlying hs,hf,Instr.sureAddr,fieldPlace,sizeOf,typeInfo,hi,h0,Addr.add]
theorem axr{W:Nat}:∀{rows:List (List A)} {ad:Option Addr} {i:Nat},RepRows C W rows ad i→∀k (hk:k<rows.length),∃g off,ad=some ⟨g,off,none⟩∧rows[k].length=W∧RepAt C rows[k] g (off+(i+k)*W)
 |[],ad,i,h,k,hk=>by simp at hk
 |r::rs,ad,i,h,0,hk=>by rw[RepRows]at h;simpa using h.1
 |r::rs,ad,i,h,k+1,hk=>by
  rw[RepRows]at h;have:=axr h.2 k (by simpa using hk);rw[show i+(k+1)=i+1+k by omega];exact this
theorem cjy{t e:TypeId}{x i:Operand}{ie:TypeInfo}{ow:Own}{rows:List (List A)}{k:IntKind}{n:Int}(hI:Inv G C h)(hop:o.op=.indexAddr t x i)(ht:P.underlying t=some (.slice e))(hie:P.info? e=some ie)
  (hx:Rep C (.sl ie.size ow rows) (a.eval x)) (hi:Rep C (.int k n) (a.eval i)) (h0:0≤n) (h1:n<rows.length):OpOk P G C a o (.vptr (rows.getD n.toNat [])) h:=by
 obtain⟨ad,cap,ex,hcap,hr,_⟩:=rep_sl.1 hx;rw[rep_int]at hi;have hlt:n.toNat<rows.length:=by omega
 obtain⟨g,off,rfl,hl,hat⟩:=axr hr n.toNat hlt;rw[YD]at hat;refine azt hI (cv:=.pointer (some ⟨g,off+n.toNat*ie.size,none⟩)) ?_ (rep_vptr.2 ⟨g,_,rfl,by simpa [List.getD,hlt]using hat⟩);unfold execOp;simp[hop,ex,hi,Instr.indexAt,run_underlying ht,asIntOf,h0,h1,sizeOf,typeInfo,hie,Addr.add]
theorem bw8{t e:TypeId}{x i:Operand}{ie:TypeInfo}{b m:Nat}{k:IntKind}{n:Int}(hI:Inv G C h)(hop:o.op=.indexAddr t x i)(ht:P.underlying t=some (.slice e))(hie:P.info? e=some ie)
  (hx:Rep C (.bs b ie.size m) (a.eval x)) (hi:Rep C (.int k n) (a.eval i)) (h0:0≤n) (h1:n<m):OpOk P G C a o (.ptr b (n.toNat*ie.size)) h:=by
 obtain⟨cap,ex,hcap,hb⟩:=rep_bs.1 hx;rw[rep_int]at hi;refine azt hI (cv:=.pointer (some ⟨C.κ b,n.toNat*ie.size,none⟩)) ?_ (rep_ptr.2 ⟨rfl,hb⟩);unfold execOp;simp[hop,ex,hi,Instr.indexAt,run_underlying ht,asIntOf,h0,h1,sizeOf,typeInfo,hie,Addr.add]
 try (intro e;exact e.symm)
theorem ajv:∀{l:List A} {g off:Nat},RepAt C l g off→∃cs,RepL C l cs∧∀(j:Nat) (v:Value),cs[j]?=some v→C.w.cell? ⟨g,off+j,none⟩=some v
 |[],g,off,h=>⟨[],repL_nil.2 rfl,fun j v h=>by simp at h⟩
 |x::l,g,off,h=>by
  rw[RepAt]at h;obtain⟨⟨_,_,v,h1,h2⟩,h3⟩:=h;obtain⟨cs,k1,k2⟩:=ajv h3;refine⟨v::cs,repL_cons.2 ⟨v,cs,rfl,h2,k1⟩,fun j u hu=>?_⟩;cases j with
  |zero=>simp at hu;subst hu;exact h1
  |succ j=>
   have:=k2 j u (by simpa using hu)
   rwa [show off+1+j=off+(j+1) by omega]at this
theorem axg{l:List A}{cs:List Value}(k:Nat)(h:RepL C l cs):RepL C (l.take k) (cs.take k):=by
 refine bzu _ _ (by simp[azm h]) fun i x c h1 h2=>?_
 rw[List.getElem?_take]at h1 h2;split at h1
 ·next hi=>
  rw[if_pos hi]at h2;obtain⟨c',k1,k2⟩:=axn h i x h1;rw[k1]at h2;injection h2 with h2;subst h2
  exact k2
 ·cases h1
theorem ax1{l:List A}{cs:List Value}(k:Nat)(h:RepL C l cs):RepL C (l.drop k) (cs.drop k):=by
 refine bzu _ _ (by simp[azm h]) fun i x c h1 h2=>?_
 rw[List.getElem?_drop]at h1 h2;obtain⟨c',k1,k2⟩:=axn h _ x h1;rw[k1]at h2;injection h2 with h2;subst h2
 exact k2
theorem aka{t:TypeId}{d:TypeDesc}{i:TypeInfo}{g off:Nat}{cs:List Value}(w:World)(hd:P.underlying t=some d)(hi:P.info? t=some i)(hl:cs.length=i.size)(hc:∀(j:Nat) (v:Value),cs[j]?=some v→w.cell? ⟨g,off+j,none⟩=some v)(h1:isAggB d=true∨i.size=1):
  (Instr.loadAt t (.pointer (some ⟨g,off,none⟩))).run P w=.ok (if isAggB d then .agg cs.toArray else cs.getD 0 undef) w:=by
 have hb:(isAgg t).run P w=.ok (isAggB d) w:=by
  unfold isAgg;simp only[Sem.run_bind,run_underlying hd,Result.andThen_ok];cases d<;>simp[isAggB]
 have hc':∀(j:Nat) (v:Value),cs[j]?=some v→w.cell? ((⟨g,off,none⟩:Addr).add j)=some v:=fun j v hv=>by rw[avn];exact hc j v hv
 have hs:(sizeOf t).run P w=.ok i.size w:=by simp[sizeOf,typeInfo,hi]
 unfold Instr.loadAt loadVar;simp only[Instr.sureAddr,Sem.run_bind,Sem.run_pure,Result.andThen_ok,hb];cases hB:isAggB d
 ·have hz : i.size = 1 := by rcases h1 with h1 | h1; · rw [hB] at h1; cases h1
                             · exact h1
  have:cs[0]?=some (cs.getD 0 undef):=by
   rw[Zn (by omega)];simp[List.getD,show 0<cs.length by omega]
  have h2:=hc 0 _ this;rw[Yg]at h2;simp only[Zi,if_false,run_load,h2]
 ·rw[if_pos rfl];simp only[Sem.run_bind,hs,Result.andThen_ok,←hl,run_loadCells_list w _ cs hc'];rfl
theorem bv6{t:TypeId}{d:TypeDesc}{i:TypeInfo}{pv:Value}{u r:A}(hI:Inv G C h)(hd:P.underlying t=some d)(hi:P.info? t=some i)(h1:isAggB d=true∨i.size=1)(hx:Rep C u pv)(hl:loadA h (isAggB d) i.size u=some r):
  ∃ad v,pv=.pointer (some ad)∧(Instr.loadAt t pv).run P C.w=.ok v C.w∧Rep C r v:=by
 have key:∃g off l cs,pv=.pointer (some ⟨g,off,none⟩)∧RepL C l cs∧l.length=i.size∧(∀(j:Nat) (v:Value),cs[j]?=some v→C.w.cell? ⟨g,off+j,none⟩=some v)∧(if isAggB d then some (.agg l)else l[0]?)=some r:=by
  cases u with
  |ptr b q=>
   simp only[loadA]at hl;split at hl
   ·next T l hb=>
    obtain⟨e,hlt⟩:=rep_ptr.1 hx;obtain⟨cs,k1,k2⟩:=hI.box b _ hb;split at hl
    ·next hle=>
     refine⟨_,_,(l.drop q).take i.size,(cs.drop q).take i.size,e,axg _ (ax1 _ k2),by simp;omega,fun j v hv=>?_,hl⟩;rw[cell_of_row _ _ _ _ _ _ k1];rw[List.getElem?_take]at hv;split at hv
     ·rw[List.getElem?_drop]at hv;simpa using hv
     ·cases hv
    ·cases hl
   ·next R vis hb=>
    obtain⟨e,hlt⟩:=rep_ptr.1 hx;obtain⟨_,k2⟩:=hI.box b _ hb;split at hl
    ·next hc=>
     obtain⟨v,k3,k4⟩:=k2 q r hl;refine⟨_,_,[r],[v],e,repL_cons.2 ⟨v,[],rfl,k4,repL_nil.2 rfl⟩,by simpa using hc.2.symm,fun j u hu=>?_,by simp[hc.1]⟩;cases j with
     |zero=>simp at hu;subst hu;exact k3
     |succ j=>simp at hu
    ·cases hl
   ·next T l hb=>
    obtain⟨e,hlt⟩:=rep_ptr.1 hx;obtain⟨cs,rest,k1,k2⟩:=hI.box b _ hb;have hcl:=azm k2;split at hl
    ·next hle=>
     refine⟨_,_,(l.drop q).take i.size,(cs.drop q).take i.size,e,axg _ (ax1 _ k2),by simp;omega,fun j v hv=>?_,hl⟩;rw[cell_of_row _ _ _ _ _ _ k1];rw[List.getElem?_take]at hv;split at hv
     ·rw[List.getElem?_drop]at hv;have hj:q+j<cs.length:=(Zd.1 hv).1;simp only[List.getElem?_toArray];rw[ZO hj];exact hv
     ·cases hv
    ·cases hl
   ·cases hl
  |vptr l=>
   simp only[loadA]at hl;split at hl
   ·next hle=>
    obtain⟨g,off,e,hr⟩:=rep_vptr.1 hx;obtain⟨cs,k1,k2⟩:=ajv hr;refine⟨g,off,l.take i.size,cs.take i.size,e,axg _ k1,by simp;omega,fun j v hv=>?_,hl⟩;rw[List.getElem?_take]at hv;split at hv
    ·exact k2 j v hv
    ·cases hv
   ·cases hl
  |_=>simp[loadA]at hl
 obtain⟨g,off,l,cs,e,hL,hlen,hc,hres⟩:=key;have hrun:=aka (P:=P) C.w hd hi (by rw[azm hL,hlen]) hc h1;refine⟨_,if isAggB d then .agg cs.toArray else cs.getD 0 undef,e,by rw[e];exact hrun,?_⟩;cases hB:isAggB d
 ·rw[hB]at hres;simp only[Zi,if_false]at hres⊢;obtain⟨c,k1,k2⟩:=axn hL 0 r hres;simpa [List.getD,k1]using k2
 ·rw[hB]at hres;simp only[if_true,Zb]at hres⊢;subst hres;exact rep_agg.2 ⟨cs,rfl,hL⟩
theorem cw9{t:TypeId}{d:TypeDesc}{i:TypeInfo}{p:Operand}{u r:A}(hI:Inv G C h)(hop:o.op=.load t p)(hd:P.underlying t=some d)(hi:P.info? t=some i)(h1:isAggB d=true∨i.size=1)(hx:Rep C u (a.eval p))(hl:loadA h (isAggB d) i.size u=some r):OpOk P G C a o r h:=by
 obtain⟨ad,v,_,hrun,hv⟩:=bv6 hI hd hi h1 hx hl;refine azt hI ?_ hv;unfold execOp;simp[hop,hrun]
end
end AX
end
section
open Go.RowKit
namespace AX
section
variable {P:Program} {G:World→Prop} {C:Ctx} {a:Act} {o:Oper} {h:Hp} {ts:Nat→A} {n:Nat}
theorem azz{l m:List A}:∀{cs ds:List Value},RepL C l cs→RepL C m ds→RepL C (l++m) (cs++ds):=by
 induction l with
 |nil=>intro cs ds h1 h2;rw[repL_nil]at h1;subst h1;exact h2
 |cons x l ih=>
  intro cs ds h1 h2;obtain⟨c,cs',rfl,k1,k2⟩:=repL_cons.1 h1;exact repL_cons.2 ⟨c,cs'++ds,rfl,k1,ih k2 h2⟩
theorem bko:∀(l:List A) (cs:List Value) (g off:Nat),RepL C l cs→l.all A.data=true→(∀j,j<l.length→C.S g (off+j))→(∀(j:Nat) (v:Value),cs[j]?=some v→C.w.cell? ⟨g,off+j,none⟩=some v)→RepAt C l g off
 |[],cs,g,off,h1,h2,h3,h4=>by unfold RepAt;trivial
 |x::l,cs,g,off,h1,h2,h3,h4=>by
  obtain⟨c,cs',rfl,k1,k2⟩:=repL_cons.1 h1;rw[ZC,Zc]at h2;rw[RepAt];refine⟨⟨h3 0 (by simp),h2.1,c,h4 0 c rfl,k1⟩,bko l cs' g (off+1) k2 h2.2 (fun j hj=>?_) fun j v hv=>?_⟩
  ·have:=h3 (j+1) (by simpa using hj)
   rwa [show off+(j+1)=off+1+j by omega]at this
  ·have:=h4 (j+1) v (by simpa using hv)
   rwa [show off+(j+1)=off+1+j by omega]at this
theorem ayj:∀{l:List A} {g off:Nat},RepAt C l g off→l.all A.data=true
 |[],g,off,h=>rfl
 |x::l,g,off,h=>by
  rw[RepAt]at h;rw[ZC,Zc];exact⟨h.1.2.1,ayj h.2⟩
theorem aqm{W g off:Nat}:∀(rows:List (List A)) (cs:List Value) (i:Nat),(∀r∈rows,r.length=W)→rows.flatten.all A.data=true→RepL C rows.flatten cs→(∀j,j<rows.length*W→C.S g (off+i*W+j)) →
  (∀(j:Nat) (v:Value),cs[j]?=some v→C.w.cell? ⟨g,off+i*W+j,none⟩=some v)→RepRows C W rows (some ⟨g,off,none⟩) i
 |[],cs,i,h1,h2,h3,h4,h5=>by unfold RepRows;trivial
 |r::rs,cs,i,h1,h2,h3,h4,h5=>by
  rw[YP]at h2 h3;rw[List.all_append,Zc]at h2;have hr:r.length=W:=h1 r (by simp);have hl:=azm h3;rw[Za,hr]at hl;have k1:=axg W h3;have k2:=ax1 W h3;rw[show(r++rs.flatten).take W=r by rw[←hr];simp]at k1;rw[show(r++rs.flatten).drop W=rs.flatten by rw[←hr];simp]at k2;have e1:(i+1)*W=i*W+W:=by rw[YS,Zan]
  have e2:(rs.length+1)*W=rs.length*W+W:=by rw[YS,Zan]
  rw[RepRows];refine⟨⟨g,off,rfl,hr,bko r _ g _ k1 h2.1 (fun j hj=>h4 j (by simp only[Zh];omega)) fun j v hv=>?_⟩,aqm rs _ (i+1) (fun r' hr'=>h1 r' (by simp[hr'])) h2.2 k2 (fun j hj=>?_) fun j v hv=>?_⟩
  ·rw[List.getElem?_take]at hv;split at hv
   ·exact h5 j v hv
   ·cases hv
  ·have:=h4 (W+j) (by simp only[Zh];omega)
   rwa [show off+i*W+(W+j)=off+(i+1)*W+j by omega]at this
  ·rw[List.getElem?_drop]at hv;have:=h5 _ v hv
   rwa [show off+i*W+(W+j)=off+(i+1)*W+j by omega]at this
theorem axi{W g off:Nat}:∀{rows:List (List A)} {i:Nat},RepRows C W rows (some ⟨g,off,none⟩) i→∃cs:List Value,RepL C rows.flatten cs∧cs.length=rows.length*W∧rows.flatten.all A.data=true∧(∀r∈rows,r.length=W) ∧
  (∀(j:Nat) (v:Value),cs[j]?=some v→C.w.cell? ⟨g,off+i*W+j,none⟩=some v)
 |[],i,h=>⟨[],repL_nil.2 rfl,by simp,rfl,by simp,fun j v hv=>by simp at hv⟩
 |r::rs,i,h=>by
  rw[RepRows]at h;obtain⟨⟨g',off',e,hr,hat⟩,hrs⟩:=h;injection e with e;injection e with e1 e2;subst e1;subst e2;obtain⟨cs1,k1,k2⟩:=ajv hat;obtain⟨cs2,m1,m2,m3,m4,m5⟩:=axi hrs;have hl1:cs1.length=W:=(azm k1).trans hr;have e1:(i+1)*W=i*W+W:=by rw[YS,Zan]
  refine⟨cs1++cs2,?_,?_,?_,?_,fun j v hv=>?_⟩
  ·rw[YP];exact azz k1 m1
  ·rw[Za,hl1,m2,Zh,YS,Zan];omega
  ·rw[YP,List.all_append,Zc];exact⟨ayj hat,m3⟩
  ·intro r' hr';rcases Z8.1 hr' with rfl|hm
   ·exact hr
   ·exact m4 r' hm
  ·rw[Zaf]at hv;split at hv
   ·exact k2 j v hv
   ·have:=m5 _ v hv;rw[show off+(i+1)*W+(j-cs1.length)=off+i*W+j by omega]at this;exact this
theorem axe{x:A}{v:Value}(hr:Rep C x v):RepL C x.cells v.cells.toList:=by
 cases x with
 |agg l=>
  obtain⟨cs,rfl,hl⟩:=rep_agg.1 hr;simpa [A.cells,Value.cells]using hl
 |_=>
  have e:v.cells.toList=[v]:=by
   first
    |(rw[rep_int]at hr;subst hr;rfl)
    |(rw[rep_str]at hr;subst hr;rfl)
    |(rw[aqn]at hr;subst hr;rfl)
    |(rw[aqp]at hr;subst hr;rfl)
    |(rw[bv1]at hr;subst hr;rfl)
    |(rw[bkj]at hr;subst hr;rfl)
    |(rw[axt]at hr;subst hr;rfl)
    |(obtain⟨rfl,_⟩:=rep_mp.1 hr;rfl)
    |(obtain⟨cap,rfl,_⟩:=rep_bs.1 hr;rfl)
    |(obtain⟨ad,cap,rfl,_⟩:=rep_sl.1 hr;rfl)
    |(obtain⟨rfl,_⟩:=rep_ptr.1 hr;rfl)
    |(obtain⟨g,off,rfl,_⟩:=rep_vptr.1 hr;rfl)
    |(obtain⟨cs,rfl,_⟩:=rep_fn.1 hr;unfold fnV;split<;>rfl)
    |(obtain⟨cs,rfl,_⟩:=rep_tup.1 hr;rfl)
  rw[e];exact repL_cons.2 ⟨v,[],rfl,hr,repL_nil.2 rfl⟩
theorem cyp{x:A}{v:Value}(hr:Rep C x v)(h1:x.one=true):v.oneCell'=true:=by
 cases x with
 |agg l=>simp[A.one]at h1
 |tup l=>simp[A.one]at h1
 |_=>
  first
   |(rw[rep_int]at hr;subst hr;rfl)
   |(rw[rep_str]at hr;subst hr;rfl)
   |(rw[aqn]at hr;subst hr;rfl)
   |(rw[aqp]at hr;subst hr;rfl)
   |(rw[bv1]at hr;subst hr;rfl)
   |(rw[bkj]at hr;subst hr;rfl)
   |(rw[axt]at hr;subst hr;rfl)
   |(obtain⟨rfl,_⟩:=rep_mp.1 hr;rfl)
   |(obtain⟨cap,rfl,_⟩:=rep_bs.1 hr;rfl)
   |(obtain⟨ad,cap,rfl,_⟩:=rep_sl.1 hr;rfl)
   |(obtain⟨rfl,_⟩:=rep_ptr.1 hr;rfl)
   |(obtain⟨g,off,rfl,_⟩:=rep_vptr.1 hr;rfl)
   |(obtain⟨cs,rfl,_⟩:=rep_fn.1 hr;unfold fnV;split<;>rfl)
theorem aj6:∀{l:List A} {cs:List Value},RepL C l cs→l.all A.one=true→∀v∈cs,v.oneCell'=true
 |[],cs,hr,h1=>by rw[repL_nil]at hr;subst hr;simp
 |x::l,cs,hr,h1=>by
  obtain⟨c,cs',rfl,k1,k2⟩:=repL_cons.1 hr;rw[ZC,Zc]at h1;intro v hv;rcases Z8.1 hv with rfl|hm
  ·exact cyp k1 h1.1
  ·exact aj6 k2 h1.2 v hm
theorem bq2{w:World}{T:TypeId}{l:List A}{cs:List Value}(hw:w=C.w∨w=C.w.drew)(hI:Inv G C h)(hl:RepL C l cs):
  ∃C':Ctx,C'.w=w.alloc (.cells cs.toArray T)∧Inv G C' ⟨h.b++[.cells T l],h.t⟩∧Step C C'∧Rep C' (.ptr h.b.length 0) (.pointer (some ⟨C.w.heap.size,0,none⟩)):=by
 have hh:w.heap=C.w.heap:=by rcases hw with rfl|rfl<;>rfl
 have hos:w.os=C.w.os∧w.tape=C.w.tape∧w.output=C.w.output:=by rcases hw with rfl|rfl<;>exact⟨rfl,rfl,rfl⟩
 let C':Ctx:={ C with w:=w.alloc (.cells cs.toArray T),κ:=fun i=>if i=C.nb then C.w.heap.size else C.κ i,nb:=C.nb+1,own:=fun g=>if g=C.w.heap.size then some C.nb else C.own g }
 have hblk:∀g,g<C.w.heap.size→C'.w.heap[g]?=C.w.heap[g]?:=fun g hg=>by
  show(w.alloc (.cells cs.toArray T)).heap[g]?=_
  rw[Below.heap_alloc w _ g (by rw[hh];exact hg),hh]
 have hsz:C'.w.heap.size=C.w.heap.size+1:=by show(w.alloc (.cells cs.toArray T)).heap.size=_;simp[hh]
 have hE:Ext C C':=by
  refine⟨fun g j hs=>⟨hs,cell_of_block (hblk g (hI.prot g j hs).1)⟩,Nat.le_succ _,fun i hi=>?_,fun t E W m ht=>?_⟩
  ·show(if i=C.nb then C.w.heap.size else C.κ i)=C.κ i
   rw[if_neg (by omega)]
  ·obtain⟨_,_,cap,h1,_⟩:=hI.rows t E W m ht;exact⟨m,ht,.inr ⟨rfl,rfl,fun cap hc=>hc.same (hblk _ h1.lt)⟩⟩
 have hown:∀g,g<C.w.heap.size→C'.own g=C.own g:=fun g hg=>by
  show(if g=C.w.heap.size then some C.nb else C.own g)=_
  rw[if_neg (by omega)]
 have hown':∀g i,i<C.nb→(C'.own g=some i↔C.own g=some i):=fun g i hi=>by
  show(if g=C.w.heap.size then some C.nb else C.own g)=some i↔_
  split
  ·next e=>exact⟨fun e=>by injection e with e;omega,fun e'=>by have:=(hI.ownlt g i e').2.1;omega⟩
  ·exact Iff.rfl
 refine⟨C',rfl,⟨?_,fun i b hib=>?_,fun i hi=>?_,fun g i hg=>?_,fun g j hs=>?_,fun t E W m ht=>?_,hI.inj,hI.toks,?_,fun w2 hw2=>?_⟩,⟨hE,hos.1,hos.2.1,hos.2.2,by omega,rfl,fun g hg _ _=>hblk g hg,hown,fun g j hs=> .inl hs,fun t ht=> .inr ⟨ht,rfl⟩⟩,?_⟩
 ·show(h.b++[Blk.cells T l]).length=C.nb+1
  rw[Za,hI.nb];rfl
 ·rw[Zaf]at hib;split at hib
  ·next hi=>
   have hi':i<C.nb:=by rw[←hI.nb];exact hi
   exact(hI.box i b hib).ext hE hi' (hI.ownk i hi') (fun g j hg=>(hI.ownlt g j hg).2.1) (fun g hg=>hblk g (hI.ownlt g i hg).2.1) (fun g=>hown' g i hi') (by omega)
  ·next hi=>
   have hk:i-h.b.length=0:=by
    rcases Nat.eq_zero_or_pos (i-h.b.length)with e|e
    ·exact e
    ·rw[YJ (by simp only[Zh,Zy];omega)]at hib;cases hib
   rw[hk]at hib;simp only[ZM,Zb]at hib;subst hib;have hi':i=C.nb:=by have:=hI.nb;omega
   refine⟨cs,?_,RepL.ext hE l cs hl⟩;show(w.alloc (.cells cs.toArray T)).heap[if i=C.nb then C.w.heap.size else C.κ i]?=_
   rw[if_pos hi',←hh];exact heap_alloc_new w _
 ·show(if(if i=C.nb then C.w.heap.size else C.κ i)=C.w.heap.size then some C.nb else C.own (if i=C.nb then C.w.heap.size else C.κ i))=some i
  by_cases hi':i=C.nb
  ·rw[if_pos hi',if_pos rfl,hi']
  ·have hi2:i<C.nb:=by have:i<C.nb+1:=hi;omega
   have:=(hI.ownlt _ _ (hI.ownk i hi2)).2.1;rw[if_neg hi',if_neg (by omega)];exact hI.ownk i hi2
 ·have hg':(if g=C.w.heap.size then some C.nb else C.own g)=some i:=hg;split at hg'
  ·next e=>
   injection hg' with hg';exact⟨by show i<C.nb+1;omega,by omega,by rw[e];exact hI.base⟩
  ·obtain⟨k1,k2,k3⟩:=hI.ownlt g i hg';exact⟨by show i<C.nb+1;omega,by omega,k3⟩
 ·obtain⟨k1,k2,k3⟩:=hI.prot g j hs;exact⟨by omega,(hown g k1).trans k2,k3⟩
 ·obtain⟨k1,k2,cap,k3,k4⟩:=hI.rows t E W m ht;exact⟨(hown _ k3.lt).trans k1,k2,cap,k3.same (hblk _ k3.lt),k4⟩
 ·show C.base≤C'.w.heap.size
  have:=hI.base;omega
 ·exact hI.glob w2 fun g hg=>(hw2 g hg).trans (hblk g (ZK hg hI.base))
 ·refine rep_ptr.2 ⟨?_,by show h.b.length<C.nb+1;have:=hI.nb;omega⟩;show _=Value.pointer (some ⟨if h.b.length=C.nb then C.w.heap.size else C.κ h.b.length,0,none⟩)
  rw[if_pos hI.nb]
theorem cvv{T:TypeId}{i:TypeInfo}{z:Value}{l:List A}(hI:Inv G C h)(hop:o.op=.alloc T)(hi:P.info? T=some i)(hz:i.zero=some z)(hl:convs z.cells.toList=some l):OpOk P G C a o (.ptr h.b.length 0) ⟨h.b++[.cells T l],h.t⟩:=by
 obtain⟨C',h1,h2,h3,h4⟩:=bq2 (T:=T) (w:=C.w) (.inl rfl) hI (ajy hl);refine⟨C',_,.inl ?_,h2,h3,h4⟩;rw[h1];unfold execOp;simp[hop,Instr.alloc,zeroValue,typeInfo,hi,hz,newVar,newRow]
theorem dzw{T:TypeId}{x:Operand}{u:A}(hI:Inv G C h)(hop:o.op=.box T x)(hx:Rep C u (a.eval x)):OpOk P G C a o (.ptr h.b.length 0) ⟨h.b++[.cells T u.cells],h.t⟩:=by
 obtain⟨C',h1,h2,h3,h4⟩:=bq2 (T:=T) (w:=C.w) (.inl rfl) hI (axe hx);refine⟨C',_,.inl ?_,h2,h3,h4⟩;rw[h1];unfold execOp;simp[hop,Instr.box,newVar,newRow]
theorem bwz{w:World}{T:TypeId}{cs:List Value}(hw:w=C.w∨w=C.w.drew)(hI:Inv G C h):
  ∃C':Ctx,C'.w=w.alloc (.cells cs.toArray T)∧Inv G C' h∧Step C C'∧(∀j,j<cs.length→C'.S C.w.heap.size j)∧(∀(j:Nat) (v:Value),cs[j]?=some v→C'.w.cell? ⟨C.w.heap.size,j,none⟩=some v):=by
 have hh:w.heap=C.w.heap:=by rcases hw with rfl|rfl<;>rfl
 have hos:w.os=C.w.os∧w.tape=C.w.tape∧w.output=C.w.output:=by rcases hw with rfl|rfl<;>exact⟨rfl,rfl,rfl⟩
 let C':Ctx:={ C with w:=w.alloc (.cells cs.toArray T),S:=fun g j=>C.S g j∨(g=C.w.heap.size∧j<cs.length) }
 have hblk:∀g,g<C.w.heap.size→C'.w.heap[g]?=C.w.heap[g]?:=fun g hg=>by
  show(w.alloc (.cells cs.toArray T)).heap[g]?=_
  rw[Below.heap_alloc w _ g (by rw[hh];exact hg),hh]
 have hsz:C'.w.heap.size=C.w.heap.size+1:=by show(w.alloc (.cells cs.toArray T)).heap.size=_;simp[hh]
 have hnew:C'.w.heap[C.w.heap.size]?=some (.cells cs.toArray T (0,0)):=by
  show(w.alloc (.cells cs.toArray T)).heap[C.w.heap.size]?=_
  rw[←hh];exact heap_alloc_new w _
 have hE:Ext C C':=by
  refine⟨fun g j hs=>⟨.inl hs,cell_of_block (hblk g (hI.prot g j hs).1)⟩,Zf _,fun i hi=>rfl,fun t E W m ht=>?_⟩;obtain⟨_,_,cap,h1,_⟩:=hI.rows t E W m ht;exact⟨m,ht,.inr ⟨rfl,rfl,fun cap hc=>hc.same (hblk _ h1.lt)⟩⟩
 have hno:C.own C.w.heap.size=none:=by
  cases e:C.own C.w.heap.size with
  |none=>rfl
  |some i=>have:=(hI.ownlt _ _ e).2.1;omega
 refine⟨C',rfl,⟨hI.nb,fun i b hib=>?_,hI.ownk,fun g i hg=>?_,fun g j hs=>?_,fun t E W m ht=>?_,hI.inj,hI.toks,?_,fun w2 hw2=>?_⟩,⟨hE,hos.1,hos.2.1,hos.2.2,by omega,rfl,fun g hg _ _=>hblk g hg,fun _ _=>rfl,fun g j hs=>?_,fun t ht=> .inr ⟨ht,rfl⟩⟩,fun j hj=> .inr ⟨rfl,hj⟩,fun j v hv=>?_⟩
 ·have hi':i<C.nb:=by rw[←hI.nb];exact(Zd.1 hib).1
  exact(hI.box i b hib).ext hE hi' (hI.ownk i hi') (fun g j hg=>(hI.ownlt g j hg).2.1) (fun g hg=>hblk g (hI.ownlt g i hg).2.1) (fun g=>Iff.rfl) (by omega)
 ·obtain⟨k1,k2,k3⟩:=hI.ownlt g i hg;exact⟨k1,by omega,k3⟩
 ·rcases hs with hs|⟨rfl,hj⟩
  ·obtain⟨k1,k2,k3⟩:=hI.prot g j hs;exact⟨by omega,k2,k3⟩
  ·refine⟨by omega,hno,fun t E W m ht e=>?_⟩;obtain⟨_,_,cap,k3,k4⟩:=hI.rows t E W m ht;have:=k3.lt;have e':C.τ t=C.w.heap.size:=e;omega
 ·obtain⟨k1,k2,cap,k3,k4⟩:=hI.rows t E W m ht;exact⟨k1,k2,cap,k3.same (hblk _ k3.lt),k4⟩
 ·show C.base≤C'.w.heap.size
  have:=hI.base;omega
 ·exact hI.glob w2 fun g hg=>(hw2 g hg).trans (hblk g (ZK hg hI.base))
 ·rcases hs with hs|⟨rfl,hj⟩
  ·exact .inl hs
  ·exact .inr (.inl (Zf _))
 ·rw[cell_of_row _ _ _ _ _ _ hnew];simpa using hv
theorem cqo{i off:Nat}{T:TypeId}{l xs:List A}{cs vs:List Value}(hI:Inv G C h)(hb:h.b[i]?=some (.cells T l))(hc:C.w.heap[C.κ i]?=some (.cells cs.toArray T (0,0)))(hl:RepL C l cs)(hx:RepL C xs vs)(hle:off+xs.length≤l.length):
  ∃C':Ctx,C'.w=C.w.setRow (C.κ i) (cs.take off++vs++cs.drop (off+vs.length)).toArray∧Inv G C' ⟨h.b.set i (.cells T (setCells l off xs)),h.t⟩∧Step C C':=by
 have hi:i<C.nb:=by rw[←hI.nb];exact(Zd.1 hb).1
 have hok:=hI.ownk i hi
 let C':Ctx:={ C with w:=C.w.setRow (C.κ i) (cs.take off++vs++cs.drop (off+vs.length)).toArray }
 have hblk:∀g,g≠C.κ i→C'.w.heap[g]?=C.w.heap[g]?:=fun g hg=>setRow_other C.w _ g _ hg
 have hsz:C'.w.heap.size=C.w.heap.size:=setRow_size _ _ _;have hne:∀g,C.own g=none→g≠C.κ i:=fun g hg e=>by rw[e,hok]at hg;cases hg
 have hE:Ext C C':=by
  refine⟨fun g j hs=>⟨hs,cell_of_block (hblk g (hne g (hI.prot g j hs).2.1))⟩,Zf _,fun i hi=>rfl,fun t E W m ht=>?_⟩;obtain⟨k1,_,cap,h1,_⟩:=hI.rows t E W m ht;exact⟨m,ht,.inr ⟨rfl,rfl,fun cap hc=>hc.same (hblk _ (hne _ k1))⟩⟩
 have hset:∀(xs l:List A) (off:Nat),off+xs.length≤l.length→setCells l off xs=l.take off++xs++l.drop (off+xs.length):=by
  intro xs;induction xs with
  |nil=>intro l off _;simp[setCells]
  |cons x xs ih=>
   intro l off hlt;rw[Zh]at hlt;rw[setCells,ih _ _ (by simp;omega),List.take_add_one,Zah (by omega),List.take_set_of_le (Zf _),List.drop_set_of_lt (by omega)];simp[show off+1+xs.length=off+(xs.length+1) by omega]
 have hvl:vs.length=xs.length:=azm hx;refine⟨C',rfl,⟨by rw[Yl];exact hI.nb,fun j b hjb=>?_,hI.ownk,fun g i hg=>?_,fun g j hs=>?_,fun t E W m ht=>?_,hI.inj,hI.toks,?_,fun w2 hw2=>?_⟩,⟨hE,rfl,rfl,rfl,by omega,rfl,fun g hg ho _=>hblk g (hne g ho),fun _ _=>rfl,fun g j hs=> .inl hs,fun t ht=> .inr ⟨ht,rfl⟩⟩⟩
 ·rw[Zs]at hjb;split at hjb
  ·next e=>
   subst e;split at hjb
   ·injection hjb with hjb;subst hjb;refine⟨cs.take off++vs++cs.drop (off+vs.length),setRow_heap C.w (C.κ i) _ _ T _ hc,?_⟩;rw[hset xs l off hle,hvl];exact azz (azz (axg _ (RepL.ext hE _ _ hl)) (RepL.ext hE _ _ hx)) (ax1 _ (RepL.ext hE _ _ hl))
   ·cases hjb
  ·next hne'=>
   have hj:j<C.nb:=by rw[←hI.nb];exact(Zd.1 hjb).1
   refine(hI.box j b hjb).ext hE hj (hI.ownk j hj) (fun g j hg=>(hI.ownlt g j hg).2.1) (fun g hg=>hblk g fun e=>?_) (fun g=>Iff.rfl) (by omega);rw[e,hok]at hg;injection hg with hg;exact hne' hg
 ·obtain⟨k1,k2,k3⟩:=hI.ownlt g i hg;exact⟨k1,by omega,k3⟩
 ·obtain⟨k1,k2,k3⟩:=hI.prot g j hs;exact⟨by omega,k2,k3⟩
 ·obtain⟨k1,k2,cap,k3,k4⟩:=hI.rows t E W m ht;exact⟨k1,k2,cap,k3.same (hblk _ (hne _ k1)),k4⟩
 ·show C.base≤C'.w.heap.size
  have:=hI.base;omega
 ·refine hI.glob w2 fun g hg=>(hw2 g hg).trans (hblk g fun e=>?_)
  have:=(hI.ownlt _ _ hok).2.2;have e':g=C.κ i:=e;omega
theorem bya{i off:Nat}{T:TypeId}{l xs:List A}{cs vs rest:List Value}(hI:Inv G C h)(hb:h.b[i]?=some (.row T l))(hc:C.w.heap[C.κ i]?=some (.cells (cs++rest).toArray T (0,0)))(hl:RepL C l cs)(hx:RepL C xs vs)(hle:off+xs.length≤l.length):
  ∃C':Ctx,C'.w=C.w.setRow (C.κ i) (cs.take off++vs++cs.drop (off+vs.length)++rest).toArray∧Inv G C' ⟨h.b.set i (.row T (setCells l off xs)),h.t⟩∧Step C C':=by
 have hi:i<C.nb:=by rw[←hI.nb];exact(Zd.1 hb).1
 have hok:=hI.ownk i hi
 let C':Ctx:={ C with w:=C.w.setRow (C.κ i) (cs.take off++vs++cs.drop (off+vs.length)++rest).toArray }
 have hblk:∀g,g≠C.κ i→C'.w.heap[g]?=C.w.heap[g]?:=fun g hg=>setRow_other C.w _ g _ hg
 have hsz:C'.w.heap.size=C.w.heap.size:=setRow_size _ _ _;have hne:∀g,C.own g=none→g≠C.κ i:=fun g hg e=>by rw[e,hok]at hg;cases hg
 have hE:Ext C C':=by
  refine⟨fun g j hs=>⟨hs,cell_of_block (hblk g (hne g (hI.prot g j hs).2.1))⟩,Zf _,fun i hi=>rfl,fun t E W m ht=>?_⟩;obtain⟨k1,_,cap,h1,_⟩:=hI.rows t E W m ht;exact⟨m,ht,.inr ⟨rfl,rfl,fun cap hc=>hc.same (hblk _ (hne _ k1))⟩⟩
 have hset:∀(xs l:List A) (off:Nat),off+xs.length≤l.length→setCells l off xs=l.take off++xs++l.drop (off+xs.length):=by
  intro xs;induction xs with
  |nil=>intro l off _;simp[setCells]
  |cons x xs ih=>
   intro l off hlt;rw[Zh]at hlt;rw[setCells,ih _ _ (by simp;omega),List.take_add_one,Zah (by omega),List.take_set_of_le (Zf _),List.drop_set_of_lt (by omega)];simp[show off+1+xs.length=off+(xs.length+1) by omega]
 have hvl:vs.length=xs.length:=azm hx;refine⟨C',rfl,⟨by rw[Yl];exact hI.nb,fun j b hjb=>?_,hI.ownk,fun g i hg=>?_,fun g j hs=>?_,fun t E W m ht=>?_,hI.inj,hI.toks,?_,fun w2 hw2=>?_⟩,⟨hE,rfl,rfl,rfl,by omega,rfl,fun g hg ho _=>hblk g (hne g ho),fun _ _=>rfl,fun g j hs=> .inl hs,fun t ht=> .inr ⟨ht,rfl⟩⟩⟩
 ·rw[Zs]at hjb;split at hjb
  ·next e=>
   subst e;split at hjb
   ·injection hjb with hjb;subst hjb;refine⟨cs.take off++vs++cs.drop (off+vs.length),rest,setRow_heap C.w (C.κ i) _ _ T _ hc,?_⟩;rw[hset xs l off hle,hvl];exact azz (azz (axg _ (RepL.ext hE _ _ hl)) (RepL.ext hE _ _ hx)) (ax1 _ (RepL.ext hE _ _ hl))
   ·cases hjb
  ·next hne'=>
   have hj:j<C.nb:=by rw[←hI.nb];exact(Zd.1 hjb).1
   refine(hI.box j b hjb).ext hE hj (hI.ownk j hj) (fun g j hg=>(hI.ownlt g j hg).2.1) (fun g hg=>hblk g fun e=>?_) (fun g=>Iff.rfl) (by omega);rw[e,hok]at hg;injection hg with hg;exact hne' hg
 ·obtain⟨k1,k2,k3⟩:=hI.ownlt g i hg;exact⟨k1,by omega,k3⟩
 ·obtain⟨k1,k2,k3⟩:=hI.prot g j hs;exact⟨by omega,k2,k3⟩
 ·obtain⟨k1,k2,cap,k3,k4⟩:=hI.rows t E W m ht;exact⟨k1,k2,cap,k3.same (hblk _ (hne _ k1)),k4⟩
 ·show C.base≤C'.w.heap.size
  have:=hI.base;omega
 ·refine hI.glob w2 fun g hg=>(hw2 g hg).trans (hblk g fun e=>?_)
  have:=(hI.ownlt _ _ hok).2.2;have e':g=C.κ i:=e;omega
theorem cvs{t:TypeId}{it:TypeInfo}{p x:Operand}{u v:A}{h':Hp}(hI:Inv G C h)(hop:o.op=.store t p x)(hi:P.info? t=some it)(hp:Rep C u (a.eval p))(hx:Rep C v (a.eval x))(hs:storeA h it.size v u=some h'):OpOk P G C a o (.tup []) h':=by
 cases u with
 |ptr i off=>
  simp only[storeA]at hs;split at hs
  ·next T l hb=>
   split at hs
   ·next hcond=>
    injection hs with hs;subst hs;obtain⟨hn,hle,h1⟩:=hcond;obtain⟨e,hlt⟩:=rep_ptr.1 hp;obtain⟨cs,k1,k2⟩:=hI.box i _ hb;have hv:=axe hx;have hvl:=azm hv;obtain⟨C',m1,m2,m3⟩:=cqo (off:=off) hI hb k1 k2 hv (by omega);refine⟨C',undef,.inr ⟨?_,rfl⟩,m2,m3,rep_tup.2 ⟨[],rfl,repL_nil.2 rfl⟩⟩;have hrun:=run_storeCells_at P (C.κ i) off T (a.eval x).cells.toList 0 cs.toArray C.w k1 (by have:=azm k2;simp only[List.size_toArray,Yg];omega) (aj6 hv h1);rw[m1];unfold execOp;have hsz:(a.eval x).cells.size=it.size:=by rw[←Yy];omega
    simp only[hop,Instr.storeAt,e,Instr.sureAddr,storeVar,Sem.run_bind,Sem.run_pure,Result.andThen_ok,sizeOf,typeInfo,run_program,hi,hsz,ne_eq,Yh,if_false,hrun,Yg,List.toList_toArray]
   ·cases hs
  ·next T l hb=>
   split at hs
   ·next hcond=>
    injection hs with hs;subst hs;obtain⟨hn,hle,h1⟩:=hcond;obtain⟨e,hlt⟩:=rep_ptr.1 hp;obtain⟨cs,rest,k1,k2⟩:=hI.box i _ hb;have hv:=axe hx;have hvl:=azm hv;have hcl:=azm k2;obtain⟨C',m1,m2,m3⟩:=bya (off:=off) hI hb k1 k2 hv (by omega);refine⟨C',undef,.inr ⟨?_,rfl⟩,m2,m3,rep_tup.2 ⟨[],rfl,repL_nil.2 rfl⟩⟩;have hrun:=run_storeCells_at P (C.κ i) off T (a.eval x).cells.toList 0 (cs++rest).toArray C.w k1 (by simp only[List.size_toArray,Yg,Za];omega) (aj6 hv h1);rw[m1];unfold execOp;have hsz:(a.eval x).cells.size=it.size:=by rw[←Yy];omega
    have e1:(cs++rest).take off=cs.take off:=List.take_append_of_le_length (by omega);have e2:(cs++rest).drop (off+(a.eval x).cells.toList.length)=cs.drop (off+(a.eval x).cells.toList.length)++rest:=List.drop_append_of_le_length (by omega);simp only[List.toList_toArray,Yg,e1,e2]at hrun;simp only[hop,Instr.storeAt,e,Instr.sureAddr,storeVar,Sem.run_bind,Sem.run_pure,Result.andThen_ok,sizeOf,typeInfo,run_program,hi,hsz,ne_eq,Yh,if_false,hrun,Yg,List.toList_toArray,Zg]
   ·cases hs
  ·cases hs
 |_=>simp[storeA]at hs
end
end AX
end
section
open Go.RowKit
namespace AX
section
variable {P:Program} {G:World→Prop} {C:Ctx} {a:Act} {o:Oper} {h:Hp} {ts:Nat→A} {n:Nat}
theorem avp:∀(xs:List A) (vs:List Value) (k off:Nat) (l:List A) (cells:Array Value),RepL C xs vs→RepL C l cells.toList →
  RepL C (setCells l (off+k) xs) ((vs.zipIdx k).foldl (fun cs (p:Value×Nat)=>cs.setIfInBounds (off+p.2) p.1) cells).toList
 |[],vs,k,off,l,cells,hx,hl=>by
  rw[repL_nil]at hx;subst hx;exact hl
 |x::xs,vs,k,off,l,cells,hx,hl=>by
  obtain⟨v,vs',rfl,h1,h2⟩:=repL_cons.1 hx;rw[List.zipIdx_cons,List.foldl_cons,setCells];have:=avp xs vs' (k+1) off (l.set (off+k) x) (cells.setIfInBounds (off+k) v) h2 ?_
  ·rw[show off+(k+1)=off+k+1 by omega]at this;exact this
  ·refine bzu _ _ (by simp[azm hl]) fun i y c h3 h4=>?_
   rw[Array.toList_setIfInBounds,Zs]at h4;rw[Zs]at h3;by_cases e:off+k=i
   ·simp only[e,if_true]at h3 h4;split at h3
    ·next hlt=>
     rw[if_pos (by rw[azm hl];exact hlt)]at h4;injection h3 with h3;injection h4 with h4;subst h3;subst h4;exact h1
    ·cases h3
   ·simp only[e,if_false]at h3 h4;obtain⟨c',k1,k2⟩:=axn hl i y h3;rw[k1]at h4;injection h4 with h4;subst h4
    exact k2
theorem bka(hT:RepT C ts n a)(fs:Array Field)(pls:Array (Nat×Nat))(hpl:∀(j:Nat) (f:Field),fs[j]?=some f→∀it,P.info? f.type=some it→pls[j]?=some (f.offset,it.size)):
  ∀(parts:List (Nat×Operand)) (ps:List (Nat×Nat×Opd)) (z r:List A) (cells:Array Value),compParts P n fs parts=some ps→RepL C z cells.toList→fillA (evX ts) z ps=some r →
  ∃out,Instr.fill (pls[·]?) cells (parts.map fun p=>(p.1,a.eval p.2))=some out∧RepL C r out.toList
 |[],ps,z,r,cells,hc,hz,hf=>by
  simp only[compParts,Zb]at hc;subst hc;simp only[fillA,Zb]at hf;subst hf;exact⟨cells,rfl,hz⟩
 |(j,x)::parts,ps,z,r,cells,hc,hz,hf=>by
  simp only[compParts,Ze,Zb]at hc;obtain⟨f,h1,it,h2,y,h3,l,h4,rfl⟩:=hc;simp only[fillA]at hf;split at hf
  ·next hcond=>
   have hx:=azh hT h3;have hcl:=axe hx;have hlen:=azm hcl;rw[Yy]at hlen;have hzl:=azm hz;rw[Yy]at hzl;have key:=avp (evX ts y).cells (a.eval x).cells.toList 0 f.offset z cells hcl hz;obtain⟨out,k1,k2⟩:=bka hT fs pls hpl parts l _ r _ h4 (by simpa using key) hf;refine⟨out,?_,k2⟩;simp only[ZW,Instr.fill,hpl j f h1 it h2];rw[if_neg (by simp;omega)];rw[←k1];congr 1;rw[←Array.foldl_toList,Array.toList_zipIdx]
  ·cases hf
theorem byn(fs:Array Field)(hall:fs.toList.all (fun f=>(P.info? f.type).isSome)=true):∃places:List (Nat×Nat),fs.toList.mapM (fun f=>(P.info? f.type).map fun i=>(f.offset,i.size))=some places∧∀(j:Nat) (f:Field),fs[j]?=some f→∀it,P.info? f.type=some it→places.toArray[j]?=some (f.offset,it.size):=by
 have key:∀l:List Field,l.all (fun f=>(P.info? f.type).isSome)=true→∃places:List (Nat×Nat),l.mapM (fun f=>(P.info? f.type).map fun i=>(f.offset,i.size))=some places∧∀(j:Nat) (f:Field),l[j]?=some f→∀it,P.info? f.type=some it→places[j]?=some (f.offset,it.size):=by
  intro l;induction l with
  |nil=>intro _;exact⟨[],rfl,fun j f h=>by simp at h⟩
  |cons f l ih=>
   intro hl;rw[ZC,Zc]at hl;obtain⟨ps,h1,h2⟩:=ih hl.2;obtain⟨it,hit⟩:=Option.isSome_iff_exists.1 hl.1;refine⟨(f.offset,it.size)::ps,by simp[List.mapM_cons,hit,h1],fun j g hj it' hit'=>?_⟩;cases j with
   |zero=>simp at hj;subst hj;rw[hit]at hit';injection hit' with e;subst e;rfl
   |succ j=>exact h2 j g (by simpa using hj) it' hit'
 obtain⟨ps,h1,h2⟩:=key _ hall;exact⟨ps,h1,fun j f hj it hit=>by simpa using h2 j f (by simpa using hj) it hit⟩
theorem cx0{t:TypeId}{parts:Array (Nat×Operand)}{fs:Array Field}{it:TypeInfo}{z:Value}{zl r:List A}{ps:List (Nat×Nat×Opd)}(hI:Inv G C h)(hT:RepT C ts n a)(hop:o.op=.build t parts)(ht:P.underlying t=some (.struct fs))(hall:fs.toList.all (fun f=>(P.info? f.type).isSome)=true)
  (hi:P.info? t=some it) (hz:it.zero=some z) (hzl:convs z.cells.toList=some zl) (hc:compParts P n fs parts.toList=some ps) (hf:fillA (evX ts) zl ps=some r):OpOk P G C a o (.agg r) h:=by
 obtain⟨places,h1,h2⟩:=byn (P:=P) fs hall;obtain⟨out,k1,k2⟩:=bka hT fs places.toArray h2 parts.toList ps zl r z.cells hc (ajy hzl) hf;refine azt hI ?_ (rep_agg.2 ⟨out.toList,rfl,k2⟩);have hb:P.built t (parts.map fun p=>(p.1,a.eval p.2)).toList=some out:=by
  unfold Program.built;simp only[hi,ht,hz,h1,Array.toList_map];exact k1
 unfold execOp;simp[hop,run_build C.w t _ out hb]
theorem bzg(hT:RepT C ts n a)(W:Nat)(hW:0<W):∀(parts:List (Nat×Operand)) (ps:List Opd) (rows:List (List A)) (k:Nat) (pre:List Value) (suf:List Value),compRow n k parts=some ps→rowsA (evX ts) W ps=some rows→pre.length=k*W→suf.length=parts.length*W →
  ∃out:List Value,Instr.fill (fun i=>some (i*W,W)) (pre++suf).toArray (parts.map fun p=>(p.1,a.eval p.2))=some (pre++out).toArray∧RepL C rows.flatten out∧rows.flatten.all A.data=true∧(∀r∈rows,r.length=W)∧rows.length=parts.length∧out.length=parts.length*W
 |[],ps,rows,k,pre,suf,hc,hr,hp,hs=>by
  simp only[compRow,Zb]at hc;subst hc;simp only[rowsA,Zb]at hr;subst hr;have:suf=[]:=Z4 (by simpa using hs);subst this;exact⟨[],rfl,repL_nil.2 rfl,rfl,by simp,rfl,by simp⟩
 |(j,x)::parts,ps,rows,k,pre,suf,hc,hr,hp,hs=>by
  simp only[compRow]at hc;split at hc
  ·next hj=>
   subst hj;simp only[Ze,Zb]at hc;obtain⟨y,h3,l,h4,rfl⟩:=hc;simp only[rowsA]at hr;split at hr
   ·next hcond=>
    simp only[Zu]at hr;obtain⟨rs,h5,rfl⟩:=hr;have hx:=azh hT h3;have hcl:=axe hx;have hlen:=azm hcl;have hsl:suf.length=W+parts.length*W:=by rw[hs,Zh,YS,Zan];omega
    obtain⟨out,k1,k2,k3,k4,k5,k6⟩:=bzg hT W hW parts l rs (j+1) (pre++(a.eval x).cells.toList) (suf.drop W) h4 h5 (by rw[Za,hp,hlen,hcond.1,YS,Zan]) (by rw[Zv,hsl];omega);refine⟨(a.eval x).cells.toList++out,?_,by rw[YP];exact azz hcl k2,by rw[YP,List.all_append,Zc];exact⟨hcond.2,k3⟩,?_,by simp[k5],by rw[Za,hlen,hcond.1,k6,Zh,YS,Zan];omega⟩
    ·simp only[ZW,Instr.fill];have hsz:(a.eval x).cells.size=W:=by rw[←Yy,hlen,hcond.1]
     rw[if_neg (by simp[hsz,hp,hsl])];rw[←Zg,←k1];congr 1;apply Yi.1;rw[←Array.foldl_toList,Array.toList_zipIdx];have hset:∀(vs:List Value) (q:Nat) (off:Nat) (cells:List Value),off+q+vs.length≤cells.length→((vs.zipIdx q).foldl (fun cs (p:Value×Nat)=>cs.setIfInBounds (off+p.2) p.1) cells.toArray).toList=cells.take (off+q)++vs++cells.drop (off+q+vs.length):=by
      intro vs;induction vs with
      |nil=>intro q off cells _;simp
      |cons v vs ih=>
       intro q off cells hle;rw[Zh]at hle;rw[List.zipIdx_cons,List.foldl_cons];have e:cells.toArray.setIfInBounds (off+q) v=(cells.set (off+q) v).toArray:=by simp
       rw[e,ih (q+1) off _ (by simp;omega),show off+(q+1)=off+q+1 by omega,List.take_add_one,Zah (by omega),List.take_set_of_le (Zf _),List.drop_set_of_lt (by omega)];simp[show off+q+1+vs.length=off+q+(vs.length+1) by omega]
     rw[hset _ 0 (j*W) _ (by rw[Yy,hsz,Za,hp,hsl];omega)];rw[Yg,Yy,hsz];rw[show(pre++suf).take (j*W)=pre by rw[←hp];simp,show(pre++suf).drop (j*W+W)=suf.drop W by rw[←hp,←YU];simp]
    ·intro r hr;rcases Z8.1 hr with rfl|hm
     ·exact hcond.1
     ·exact k4 r hm
   ·cases hr
  ·cases hc
theorem bxm(hT:RepT C ts n a)(W:Nat)(hW:0<W):∀(parts:List (Nat×Operand)) (ps:List Opd) (rows:List (List A)) (k:Nat) (pre:List Value) (suf:List Value),compRow n k parts=some ps→rowsR (evX ts) W ps=some rows→pre.length=k*W→suf.length=parts.length*W →
  ∃out:List Value,Instr.fill (fun i=>some (i*W,W)) (pre++suf).toArray (parts.map fun p=>(p.1,a.eval p.2))=some (pre++out).toArray∧RepL C rows.flatten out∧(∀r∈rows,r.length=W)∧rows.length=parts.length∧out.length=parts.length*W
 |[],ps,rows,k,pre,suf,hc,hr,hp,hs=>by
  simp only[compRow,Zb]at hc;subst hc;simp only[rowsR,Zb]at hr;subst hr;have:suf=[]:=Z4 (by simpa using hs);subst this;exact⟨[],rfl,repL_nil.2 rfl,by simp,rfl,by simp⟩
 |(j,x)::parts,ps,rows,k,pre,suf,hc,hr,hp,hs=>by
  simp only[compRow]at hc;split at hc
  ·next hj=>
   subst hj;simp only[Ze,Zb]at hc;obtain⟨y,h3,l,h4,rfl⟩:=hc;simp only[rowsR]at hr;split at hr
   ·next hcond=>
    simp only[Zu]at hr;obtain⟨rs,h5,rfl⟩:=hr;have hx:=azh hT h3;have hcl:=axe hx;have hlen:=azm hcl;have hsl:suf.length=W+parts.length*W:=by rw[hs,Zh,YS,Zan];omega
    obtain⟨out,k1,k2,k4,k5,k6⟩:=bxm hT W hW parts l rs (j+1) (pre++(a.eval x).cells.toList) (suf.drop W) h4 h5 (by rw[Za,hp,hlen,hcond,YS,Zan]) (by rw[Zv,hsl];omega);refine⟨(a.eval x).cells.toList++out,?_,by rw[YP];exact azz hcl k2,?_,by simp[k5],by rw[Za,hlen,hcond,k6,Zh,YS,Zan];omega⟩
    ·simp only[ZW,Instr.fill];have hsz:(a.eval x).cells.size=W:=by rw[←Yy,hlen,hcond]
     rw[if_neg (by simp[hsz,hp,hsl])];rw[←Zg,←k1];congr 1;apply Yi.1;rw[←Array.foldl_toList,Array.toList_zipIdx];have hset:∀(vs:List Value) (q:Nat) (off:Nat) (cells:List Value),off+q+vs.length≤cells.length→((vs.zipIdx q).foldl (fun cs (p:Value×Nat)=>cs.setIfInBounds (off+p.2) p.1) cells.toArray).toList=cells.take (off+q)++vs++cells.drop (off+q+vs.length):=by
      intro vs;induction vs with
      |nil=>intro q off cells _;simp
      |cons v vs ih=>
       intro q off cells hle;rw[Zh]at hle;rw[List.zipIdx_cons,List.foldl_cons];have e:cells.toArray.setIfInBounds (off+q) v=(cells.set (off+q) v).toArray:=by simp
       rw[e,ih (q+1) off _ (by simp;omega),show off+(q+1)=off+q+1 by omega,List.take_add_one,Zah (by omega),List.take_set_of_le (Zf _),List.drop_set_of_lt (by omega)];simp[show off+q+1+vs.length=off+q+(vs.length+1) by omega]
     rw[hset _ 0 (j*W) _ (by rw[Yy,hsz,Za,hp,hsl];omega)];rw[Yg,Yy,hsz];rw[show(pre++suf).take (j*W)=pre by rw[←hp];simp,show(pre++suf).drop (j*W+W)=suf.drop W by rw[←hp,←YU];simp]
    ·intro r hr;rcases Z8.1 hr with rfl|hm
     ·exact hcond
     ·exact k4 r hm
   ·cases hr
  ·cases hc
theorem cy1{t E:TypeId}{len:Nat}{parts:Array (Nat×Operand)}{it:TypeInfo}{z:Value}{ps:List Opd}{rows:List (List A)}(hI:Inv G C h)(hT:RepT C ts n a)(hop:o.op=.buildSlice t len parts)(ht:P.underlying t=some (.slice E))(hi:P.info? E=some it)(hz:it.zero=some z)
  (hzs:z.cells.size=it.size) (hpos:0<it.size) (hpl:parts.toList.length=len) (hl0:0<len) (hsm:len*it.size≤1000) (hc:compRow n 0 parts.toList=some ps) (hr:rowsA (evX ts) it.size ps=some rows):OpOk P G C a o (.sl it.size .no rows) h:=by
 have hsl:((Array.range (len*it.size)).map (z.cells[· % z.cells.size]!)).toList.length=parts.toList.length*it.size:=by simp[hpl]
 obtain⟨out,k1,k2,k3,k4,k5,k6⟩:=bzg hT it.size hpos parts.toList ps rows 0 [] _ hc hr (by simp) hsl;have hlen:rows.length=len:=by rw[k5,hpl]
 simp only[Zk,Array.toArray_toList]at k1;obtain⟨C',m1,m2,m3,m4,m5⟩:=bwz (T:=E) (cs:=out) (w:=C.w) (.inl rfl) hI;refine⟨C',.slice (some ⟨C.w.heap.size,0,none⟩) len len,.inl ?_,m2,m3,rep_sl.2 ⟨some ⟨C.w.heap.size,0,none⟩,len,by rw[hlen],by omega,aqm rows out 0 k4 k3 (RepL.ext m3.ext _ _ k2) (fun j hj=>?_) (fun j v hv=>?_),trivial⟩⟩
 ·rw[m1];have hrun:=run_buildSlice (P:=P) C.w t E len (parts.map fun p=>(p.1,a.eval p.2)) out.toArray it z ht hi hz (by omega) (by have:=Nat.mul_pos hl0 hpos;omega) (by rw[Array.toList_map];exact k1);unfold execOp;simp only[hop,Sem.run_bind];erw [hrun];rfl
 ·rw[show 0+0*it.size+j=j by omega];exact m4 j (by rw[k6,←k5];exact hj)
 ·rw[show 0+0*it.size+j=j by omega];exact m5 j v hv
theorem bym{w':World}{g:Nat}{T:TypeId}{l:List A}{cs rest:List Value}(hI:Inv G C h)(hb:Below C.w.heap.size C.w w')(hg:C.w.heap.size≤g)(hh:w'.heap[g]?=some (.cells (cs++rest).toArray T (0,0)))(hl:RepL C l cs):
  ∃C':Ctx,C'.w=w'∧Inv G C' ⟨h.b++[.row T l],h.t⟩∧Step C C'∧C'.κ h.b.length=g∧h.b.length<C'.nb:=by
 have hglt:g<w'.heap.size:=(Z0.1 hh).1
 let C':Ctx:={ C with w:=w',κ:=fun i=>if i=C.nb then g else C.κ i,nb:=C.nb+1,own:=fun k=>if k=g then some C.nb else C.own k }
 have hblk:∀k,k<C.w.heap.size→C'.w.heap[k]?=C.w.heap[k]?:=fun k hk=>hb.block k hk
 have hsz:C.w.heap.size≤C'.w.heap.size:=hb.size;have hE:Ext C C':=by
  refine⟨fun k j hs=>⟨hs,cell_of_block (hblk k (hI.prot k j hs).1)⟩,Nat.le_succ _,fun i hi=>?_,fun t E W m ht=>?_⟩
  ·show(if i=C.nb then g else C.κ i)=C.κ i
   rw[if_neg (by omega)]
  ·obtain⟨_,_,cap,h1,_⟩:=hI.rows t E W m ht;exact⟨m,ht,.inr ⟨rfl,rfl,fun cap hc=>hc.same (hblk _ h1.lt)⟩⟩
 have hown:∀k,k<C.w.heap.size→C'.own k=C.own k:=fun k hk=>by
  show(if k=g then some C.nb else C.own k)=_
  rw[if_neg (by omega)]
 have hown':∀k i,i<C.nb→(C'.own k=some i↔C.own k=some i):=fun k i hi=>by
  show(if k=g then some C.nb else C.own k)=some i↔_
  split
  ·next e=>exact⟨fun e=>by injection e with e;omega,fun e'=>by have:=(hI.ownlt k i e').2.1;omega⟩
  ·exact Iff.rfl
 refine⟨C',rfl,⟨?_,fun i b hib=>?_,fun i hi=>?_,fun k i hk=>?_,fun k j hs=>?_,fun t E W m ht=>?_,hI.inj,hI.toks,?_,fun w2 hw2=>?_⟩,⟨hE,hb.os,hb.tape,hb.output,hsz,rfl,fun k hk _ _=>hblk k hk,hown,fun k j hs=> .inl hs,fun t ht=> .inr ⟨ht,rfl⟩⟩,?_⟩
 ·show(h.b++[Blk.row T l]).length=C.nb+1
  rw[Za,hI.nb];rfl
 ·rw[Zaf]at hib;split at hib
  ·next hi=>
   have hi':i<C.nb:=by rw[←hI.nb];exact hi
   exact(hI.box i b hib).ext hE hi' (hI.ownk i hi') (fun k j hk=>(hI.ownlt k j hk).2.1) (fun k hk=>hblk k (hI.ownlt k i hk).2.1) (fun k=>hown' k i hi') hsz
  ·next hi=>
   have hk:i-h.b.length=0:=by
    rcases Nat.eq_zero_or_pos (i-h.b.length)with e|e
    ·exact e
    ·rw[YJ (by simp only[Zh,Zy];omega)]at hib;cases hib
   rw[hk]at hib;simp only[ZM,Zb]at hib;subst hib;have hi':i=C.nb:=by have:=hI.nb;omega
   refine⟨cs,rest,?_,RepL.ext hE l cs hl⟩;show w'.heap[if i=C.nb then g else C.κ i]?=_
   rw[if_pos hi'];exact hh
 ·show(if(if i=C.nb then g else C.κ i)=g then some C.nb else C.own (if i=C.nb then g else C.κ i))=some i
  by_cases hi':i=C.nb
  ·rw[if_pos hi',if_pos rfl,hi']
  ·have hi2:i<C.nb:=by have:i<C.nb+1:=hi;omega
   have:=(hI.ownlt _ _ (hI.ownk i hi2)).2.1;rw[if_neg hi',if_neg (by omega)];exact hI.ownk i hi2
 ·have hk':(if k=g then some C.nb else C.own k)=some i:=hk;split at hk'
  ·next e=>
   injection hk' with hk';exact⟨by show i<C.nb+1;omega,by rw[e];exact hglt,by rw[e];have:=hI.base;show C.base≤g;omega⟩
  ·obtain⟨k1,k2,k3⟩:=hI.ownlt k i hk';exact⟨by show i<C.nb+1;omega,by omega,k3⟩
 ·obtain⟨k1,k2,k3⟩:=hI.prot k j hs;exact⟨by omega,(hown k k1).trans k2,k3⟩
 ·obtain⟨k1,k2,cap,k3,k4⟩:=hI.rows t E W m ht;exact⟨(hown _ k3.lt).trans k1,k2,cap,k3.same (hblk _ k3.lt),k4⟩
 ·show C.base≤C'.w.heap.size
  have:=hI.base;omega
 ·exact hI.glob w2 fun k hk=>(hw2 k hk).trans (hblk k (ZK hk hI.base))
 ·refine⟨?_,by show h.b.length<C.nb+1;have:=hI.nb;omega⟩;show(if h.b.length=C.nb then g else C.κ h.b.length)=_
  rw[if_pos hI.nb]
theorem dzx{t E:TypeId}{len:Nat}{parts:Array (Nat×Operand)}{it:TypeInfo}{z:Value}{ps:List Opd}{rows:List (List A)}(hI:Inv G C h)(hT:RepT C ts n a)(hop:o.op=.buildSlice t len parts)(ht:P.underlying t=some (.slice E))(hi:P.info? E=some it)(hz:it.zero=some z)
  (hzs:z.cells.size=it.size) (hpos:0<it.size) (hpl:parts.toList.length=len) (hl0:0<len) (hsm:len*it.size≤1000) (hc:compRow n 0 parts.toList=some ps) (hr:rowsR (evX ts) it.size ps=some rows):OpOk P G C a o (.bs h.b.length it.size rows.length) ⟨h.b++[.row E rows.flatten],h.t⟩:=by
 have hsl:((Array.range (len*it.size)).map (z.cells[· % z.cells.size]!)).toList.length=parts.toList.length*it.size:=by simp[hpl]
 obtain⟨out,k1,k2,k4,k5,k6⟩:=bxm hT it.size hpos parts.toList ps rows 0 [] _ hc hr (by simp) hsl;have hlen:rows.length=len:=by rw[k5,hpl]
 simp only[Zk,Array.toArray_toList]at k1;obtain⟨C',m1,m2,m3,m4,m5⟩:=bym (w':=C.w.alloc (.cells out.toArray E)) (g:=C.w.heap.size) (T:=E) (rest:=[]) hI ((Below.refl _ _).alloc (Zf _) _) (Zf _) (by rw[ZB];exact Array.getElem?_push_size) k2;refine⟨C',.slice (some ⟨C.w.heap.size,0,none⟩) len len,.inl ?_,m2,m3,?_⟩
 ·rw[m1];have hrun:=run_buildSlice (P:=P) C.w t E len (parts.map fun p=>(p.1,a.eval p.2)) out.toArray it z ht hi hz (by omega) (by have:=Nat.mul_pos hl0 hpos;omega) (by rw[Array.toList_map];exact k1);unfold execOp;simp only[hop,Sem.run_bind];erw [hrun];rfl
 ·show ∃cap,_
  exact⟨len,by rw[m4,hlen],by omega,m5⟩
end
end AX
end
section
open Go.RowKit
namespace AX
section
variable {P:Program} {G:World→Prop} {C:Ctx} {a:Act} {o:Oper} {h:Hp} {ts:Nat→A} {n:Nat}
theorem bjg{w:World}{E:TypeId}{W m t cap:Nat}{cs rest:List Value}{hs:List (TypeId×Nat×Nat)}(hw:w=C.w.drew∨w=C.w)(hI:Inv G C h)(hcap:(cs++rest).length=cap*W)(hm:m≤cap)(hcm:cap≤maxLen)(hcs:cs.length=m*W)
  (ht:(t=h.t.length∧hs=h.t++[(E,W,m)])∨(∃m0,C.hw t=some (E,W,m0)∧m0<m∧hs=h.t.set t (E,W,m))):
  ∃C':Ctx,C'.w=w.alloc (.cells (cs++rest).toArray E)∧Inv G C' ⟨h.b,hs⟩∧Step C C'∧(∀j,j<m*W→C'.S C.w.heap.size j)∧(∀(j:Nat) (v:Value),cs[j]?=some v→C'.w.cell? ⟨C.w.heap.size,j,none⟩=some v) ∧
   C'.hw t=some (E,W,m)∧C'.τ t=C.w.heap.size∧RowAt C' C.w.heap.size E W cap:=by
 have hwh:w.heap=C.w.heap:=by rcases hw with rfl|rfl<;>rfl
 have hwo:w.os=C.w.os:=by rcases hw with rfl|rfl<;>rfl
 have hwt:w.tape=C.w.tape:=by rcases hw with rfl|rfl<;>rfl
 have hwu:w.output=C.w.output:=by rcases hw with rfl|rfl<;>rfl
 let C':Ctx:={ C with w:=w.alloc (.cells (cs++rest).toArray E),S:=fun g j=>C.S g j∨(g=C.w.heap.size∧j<m*W),τ:=fun u=>if u=t then C.w.heap.size else C.τ u,hw:=fun u=>if u=t then some (E,W,m)else C.hw u }
 have hblk:∀g,g<C.w.heap.size→C'.w.heap[g]?=C.w.heap[g]?:=fun g hg=>(Below.heap_alloc w _ g (by rw[hwh];exact hg)).trans (by rw[hwh])
 have hsz:C'.w.heap.size=C.w.heap.size+1:=by show(w.alloc _).heap.size=_;simp[hwh]
 have hnew:C'.w.heap[C.w.heap.size]?=some (.cells (cs++rest).toArray E (0,0)):=by
  show(w.alloc _).heap[C.w.heap.size]?=_
  rw[←hwh];exact heap_alloc_new w _
 have hrow:RowAt C' C.w.heap.size E W cap:=⟨_,hnew,by simpa using hcap,hcm⟩;have htok:∀u E' W' m',u≠t→(C'.hw u=some (E',W',m')↔C.hw u=some (E',W',m')):=fun u E' W' m' hu=>by
  show(if u=t then some (E,W,m)else C.hw u)=_↔_
  rw[if_neg hu]
 have htt:C'.hw t=some (E,W,m):=by show(if t=t then some (E,W,m)else C.hw t)=_;rw[if_pos rfl]
 have hτt:C'.τ t=C.w.heap.size:=by show(if t=t then _ else _)=_;rw[if_pos rfl]
 have hτ:∀u,u≠t→C'.τ u=C.τ u:=fun u hu=>by show(if u=t then _ else _)=_;rw[if_neg hu]
 have hno:C.own C.w.heap.size=none:=by
  cases e:C.own C.w.heap.size with
  |none=>rfl
  |some i=>have:=(hI.ownlt _ _ e).2.1;omega
 have hE:Ext C C':=by
  refine⟨fun g j hs=>⟨.inl hs,cell_of_block (hblk g (hI.prot g j hs).1)⟩,Zf _,fun i hi=>rfl,fun u E' W' m' hu=>?_⟩;by_cases e:u=t
  ·subst e;rcases ht with⟨rfl,_⟩|⟨m0,h1,h2,_⟩
   ·rw[hI.toks,YJ (Zf _)]at hu;cases hu
   ·rw[h1]at hu;injection hu with hu;injection hu with e1 e2;injection e2 with e2 e3;subst e1;subst e2;subst e3
    exact⟨m,htt,.inl h2⟩
  ·obtain⟨_,_,cap,h1,_⟩:=hI.rows u E' W' m' hu;exact⟨m',(htok u E' W' m' e).2 hu,.inr ⟨rfl,hτ u e,fun cap hc=>hc.same (hblk _ h1.lt)⟩⟩
 have hlt:∀u,(C.hw u).isSome=true→C.τ u<C.w.heap.size:=fun u hu=>by
  obtain⟨⟨E',W',m'⟩,e⟩:=Option.isSome_iff_exists.1 hu;obtain⟨_,_,cap,h1,_⟩:=hI.rows u E' W' m' e;exact h1.lt
 have hsome:∀u,u≠t→(C'.hw u).isSome=(C.hw u).isSome:=fun u hu=>by show(if u=t then some (E,W,m)else C.hw u).isSome=_;rw[if_neg hu]
 refine⟨C',rfl,⟨hI.nb,fun i b hib=>?_,hI.ownk,fun g i hg=>?_,fun g j hs=>?_,fun u E' W' m' hu=>?_,fun u u' hu hu' e=>?_,fun u=>?_,?_,fun w2 hw2=>?_⟩,⟨hE,hwo,hwt,hwu,by omega,rfl,fun g hg _ _=>hblk g hg,fun _ _=>rfl,fun g j hs=>?_,fun u hu=>?_⟩,fun j hj=> .inr ⟨rfl,hj⟩,fun j v hv=>?_,htt,hτt,hrow⟩
 ·have hi':i<C.nb:=by rw[←hI.nb];exact(Zd.1 hib).1
  exact(hI.box i b hib).ext hE hi' (hI.ownk i hi') (fun g j hg=>(hI.ownlt g j hg).2.1) (fun g hg=>hblk g (hI.ownlt g i hg).2.1) (fun g=>Iff.rfl) (by omega)
 ·obtain⟨k1,k2,k3⟩:=hI.ownlt g i hg;exact⟨k1,by omega,k3⟩
 ·rcases hs with hs|⟨rfl,hj⟩
  ·obtain⟨k1,k2,k3⟩:=hI.prot g j hs;refine⟨by omega,k2,fun u E' W' m' hu e=>?_⟩;by_cases e2:u=t
   ·subst e2;rw[hτt]at e;omega
   ·rw[hτ u e2]at e;exact k3 u E' W' m' ((htok u E' W' m' e2).1 hu) e
  ·refine⟨by omega,hno,fun u E' W' m' hu e=>?_⟩;by_cases e2:u=t
   ·subst e2;rw[htt]at hu;injection hu with hu;injection hu with e1 e2;injection e2 with e2 e3;subst e1;subst e2;subst e3
    exact hj
   ·rw[hτ u e2]at e;have:=hlt u (by rw[←hsome u e2,hu];rfl);omega
 ·by_cases e2:u=t
  ·subst e2;rw[htt]at hu;injection hu with hu;injection hu with e1 e2;injection e2 with e2 e3;subst e1;subst e2;subst e3
   rw[hτt];exact⟨hno,hI.base,cap,hrow,hm⟩
  ·rw[hτ u e2];obtain⟨k1,k2,cap',k3,k4⟩:=hI.rows u E' W' m' ((htok u E' W' m' e2).1 hu);exact⟨k1,k2,cap',k3.same (hblk _ k3.lt),k4⟩
 ·by_cases e2:u=t
  ·by_cases e3:u'=t
   ·rw[e2,e3]
   ·rw[e2,hτt,hτ u' e3]at e;have:=hlt u' (by rw[←hsome u' e3];exact hu');omega
  ·by_cases e3:u'=t
   ·rw[e3,hτt,hτ u e2]at e;have:=hlt u (by rw[←hsome u e2];exact hu);omega
   ·rw[hτ u e2,hτ u' e3]at e;exact hI.inj u u' (by rw[←hsome u e2];exact hu) (by rw[←hsome u' e3];exact hu') e
 ·show(if u=t then some (E,W,m)else C.hw u)=hs[u]?
  rcases ht with⟨rfl,rfl⟩|⟨m0,h1,_,rfl⟩
  ·by_cases e2:u=h.t.length
   ·subst e2;simp
   ·rw[if_neg e2,hI.toks];rcases Z7 u h.t.length with h3|h3
    ·rw[ZO h3]
    ·rw[YJ h3,YJ (by simp;omega)]
  ·have hlt':t<h.t.length:=by
    rw[hI.toks]at h1;exact(Zd.1 h1).1
   by_cases e2:u=t
   ·subst e2;simp[hlt']
   ·rw[if_neg e2,hI.toks,Zat (fun e=>e2 e.symm)]
 ·show C.base≤C'.w.heap.size
  have:=hI.base;omega
 ·exact hI.glob w2 fun g hg=>(hw2 g hg).trans (hblk g (ZK hg hI.base))
 ·rcases hs with hs|⟨rfl,hj⟩
  ·exact .inl hs
  ·exact .inr (.inl (Zf _))
 ·by_cases e2:u=t
  ·subst e2;left;rw[hτt];exact Zf _
  ·right;rw[hτ u e2];exact⟨by rw[←hsome u e2];exact hu,rfl⟩
 ·rw[cell_of_row _ _ _ _ _ _ hnew];have:j<cs.length:=(Zd.1 hv).1;simp[ZO this,hv]
theorem cxw{E:TypeId}{W m0 m t cap:Nat}{cs:List Value}{cur:Array Value}(hI:Inv G C h)(ht:C.hw t=some (E,W,m0))(hlt:m0<m)(hcur:C.w.heap[C.τ t]?=some (.cells cur E (0,0)))(hcs:cs.length=cur.size)(hsz:cur.size=cap*W)(hm:m≤cap)(hcm:cap≤maxLen)
  (hpre:cs.take (m0*W)=cur.toList.take (m0*W)):
  ∃C':Ctx,C'.w=C.w.setRow (C.τ t) cs.toArray∧Inv G C' ⟨h.b,h.t.set t (E,W,m)⟩∧Step C C'∧(∀j,j<m*W→C'.S (C.τ t) j)∧(∀(j:Nat) (v:Value),cs[j]?=some v→C'.w.cell? ⟨C.τ t,j,none⟩=some v) ∧
   C'.hw t=some (E,W,m)∧C'.τ t=C.τ t∧RowAt C' (C.τ t) E W cap:=by
 obtain⟨hown,hbase,cap0,hr0,_⟩:=hI.rows t E W m0 ht
 let C':Ctx:={ C with w:=C.w.setRow (C.τ t) cs.toArray,S:=fun g j=>C.S g j∨(g=C.τ t∧j<m*W),hw:=fun u=>if u=t then some (E,W,m)else C.hw u }
 have hblk:∀g,g≠C.τ t→C'.w.heap[g]?=C.w.heap[g]?:=fun g hg=>setRow_other C.w _ g _ hg
 have hws:C'.w.heap.size=C.w.heap.size:=setRow_size _ _ _;have hnew:C'.w.heap[C.τ t]?=some (.cells cs.toArray E (0,0)):=setRow_heap C.w _ _ _ E _ hcur;have hrow:RowAt C' (C.τ t) E W cap:=⟨_,hnew,by simpa [hcs]using hsz,hcm⟩;have htok:∀u E' W' m',u≠t→(C'.hw u=some (E',W',m')↔C.hw u=some (E',W',m')):=fun u E' W' m' hu=>by
  show(if u=t then some (E,W,m)else C.hw u)=_↔_
  rw[if_neg hu]
 have htt:C'.hw t=some (E,W,m):=by show(if t=t then some (E,W,m)else C.hw t)=_;rw[if_pos rfl]
 have hsome:∀u,(C'.hw u).isSome=(C.hw u).isSome:=fun u=>by
  show(if u=t then some (E,W,m)else C.hw u).isSome=_
  by_cases e:u=t
  ·subst e;rw[if_pos rfl,ht];rfl
  ·rw[if_neg e]
 have hother:∀u,u≠t→(C.hw u).isSome=true→C.τ u≠C.τ t:=fun u hu hs e=>hu (hI.inj u t hs (by rw[ht];rfl) e)
 have hcell:∀j,j<m0*W→C'.w.cell? ⟨C.τ t,j,none⟩=C.w.cell? ⟨C.τ t,j,none⟩:=fun j hj=>by
  rw[cell_of_row _ _ _ _ _ _ hnew,cell_of_row _ _ _ _ _ _ hcur];have h1:(cs.take (m0*W))[j]?=cs[j]?:=List.getElem?_take_of_lt hj;have h2:(cur.toList.take (m0*W))[j]?=cur.toList[j]?:=List.getElem?_take_of_lt hj;rw[hpre,h2]at h1;simpa using h1.symm
 have hE:Ext C C':=by
  refine⟨fun g j hs=>⟨.inl hs,?_⟩,Zf _,fun i hi=>rfl,fun u E' W' m' hu=>?_⟩
  ·by_cases e:g=C.τ t
   ·subst e;exact hcell j ((hI.prot _ j hs).2.2 t E W m0 ht rfl)
   ·exact cell_of_block (hblk g e)
  ·by_cases e:u=t
   ·subst e;rw[ht]at hu;injection hu with hu;injection hu with e1 e2;injection e2 with e2 e3;subst e1;subst e2;subst e3
    exact⟨m,htt,.inl hlt⟩
   ·exact⟨m',(htok u E' W' m' e).2 hu,.inr ⟨rfl,rfl,fun cap hc=>hc.same (hblk _ (hother u e (by rw[hu];rfl)))⟩⟩
 refine⟨C',rfl,⟨hI.nb,fun i b hib=>?_,hI.ownk,fun g i hg=>?_,fun g j hs=>?_,fun u E' W' m' hu=>?_,fun u u' hu hu' e=>?_,fun u=>?_,?_,fun w2 hw2=>?_⟩,⟨hE,rfl,rfl,rfl,by omega,rfl,fun g hg _ hx=>hblk g fun e=>hx t (by rw[ht];rfl) e.symm,fun _ _=>rfl,fun g j hs=>?_,fun u hu=> .inr ⟨by rw[←hsome u];exact hu,rfl⟩⟩,fun j hj=> .inr ⟨rfl,hj⟩,fun j v hv=>?_,htt,rfl,hrow⟩
 ·have hi':i<C.nb:=by rw[←hI.nb];exact(Zd.1 hib).1
  exact(hI.box i b hib).ext hE hi' (hI.ownk i hi') (fun g j hg=>(hI.ownlt g j hg).2.1) (fun g hg=>hblk g fun e=>by rw[e,hown]at hg;cases hg) (fun g=>Iff.rfl) (by omega)
 ·obtain⟨k1,k2,k3⟩:=hI.ownlt g i hg;exact⟨k1,by omega,k3⟩
 ·rcases hs with hs|⟨rfl,hj⟩
  ·obtain⟨k1,k2,k3⟩:=hI.prot g j hs;refine⟨by omega,k2,fun u E' W' m' hu e=>?_⟩;by_cases e2:u=t
   ·subst e2;rw[htt]at hu;injection hu with hu;injection hu with e1 e2;injection e2 with e2 e3;subst e1;subst e2;subst e3
    have h1:=k3 u E W m0 ht e;exact ZK h1 (YZ _ (Nat.le_of_lt hlt))
   ·exact k3 u E' W' m' ((htok u E' W' m' e2).1 hu) e
  ·refine⟨by have:=hr0.lt;omega,hown,fun u E' W' m' hu e=>?_⟩;by_cases e2:u=t
   ·subst e2;rw[htt]at hu;injection hu with hu;injection hu with e1 e2;injection e2 with e2 e3;subst e1;subst e2;subst e3
    exact hj
   ·exact absurd e (hother u e2 (by rw[←hsome u,hu];rfl))
 ·by_cases e2:u=t
  ·subst e2;rw[htt]at hu;injection hu with hu;injection hu with e1 e2;injection e2 with e2 e3;subst e1;subst e2;subst e3
   exact⟨hown,hbase,cap,hrow,hm⟩
  ·obtain⟨k1,k2,cap',k3,k4⟩:=hI.rows u E' W' m' ((htok u E' W' m' e2).1 hu);exact⟨k1,k2,cap',k3.same (hblk _ (hother u e2 (by rw[←hsome u,hu];rfl))),k4⟩
 ·exact hI.inj u u' (by rw[←hsome u];exact hu) (by rw[←hsome u'];exact hu') e
 ·show(if u=t then some (E,W,m)else C.hw u)=(h.t.set t (E,W,m))[u]?
  have hlt':t<h.t.length:=by
   rw[hI.toks]at ht;exact(Zd.1 ht).1
  by_cases e2:u=t
  ·subst e2;simp[hlt']
  ·rw[if_neg e2,hI.toks,Zat (fun e=>e2 e.symm)]
 ·show C.base≤C'.w.heap.size
  have:=hI.base;omega
 ·exact hI.glob w2 fun g hg=>(hw2 g hg).trans (hblk g (by omega))
 ·rcases hs with hs|⟨rfl,hj⟩
  ·exact .inl hs
  ·exact .inr (.inr ⟨t,by rw[ht];rfl,rfl⟩)
 ·rw[cell_of_row _ _ _ _ _ _ hnew];simpa using hv
theorem bza:∀{l:List A},l.all A.data=true→l.all A.one=true
 |[],_=>rfl
 |x::l,hd=>by
  rw[ZC,Zc]at hd⊢;refine⟨?_,bza hd.2⟩;have:=hd.1;cases x<;>simp_all [A.data,A.one]
theorem bje{W:Nat}{ow:Own}{ys:List (List A)}{v:Value}(hr:Rep C (.sl W ow ys) v)(h0:0<ys.length):
  ∃g off cap cs,v=.slice (some ⟨g,off,none⟩) ys.length cap∧RepL C ys.flatten cs∧cs.length=ys.length*W∧ys.flatten.all A.data=true∧(∀r∈ys,r.length=W)∧(∀(j:Nat) (u:Value),cs[j]?=some u→C.w.cell? ((⟨g,off,none⟩:Addr).add j)=some u):=by
 obtain⟨ad,cap,e,hcap,hrows,_⟩:=rep_sl.1 hr;obtain⟨g,off,rfl,_⟩:=axr hrows 0 h0;obtain⟨cs,h1,h2,h3,h4,h5⟩:=axi hrows;refine⟨g,off,cap,cs,e,h1,h2,h3,h4,fun j u hu=>?_⟩;rw[avn];have:=h5 j u hu
 rwa [Nat.zero_mul,Yg]at this
theorem bv8{T E:TypeId}{x y:Operand}{it:TypeInfo}{W1 W':Nat}{o1 o2:Own}{xs ys:List (List A)}(hI:Inv G C h)(ht:P.underlying T=some (.slice E))(hi:P.info? E=some it)
  (hexec:(execOp a.eval o).run P C.w=((Builtin.append_ #[T,T] o.type #[a.eval x,a.eval y]).run P C.w).andThen fun v w=> .ok (.value v) w) (hx:Rep C (.sl W1 o1 xs) (a.eval x)) (hy:Rep C (.sl W' o2 ys) (a.eval y)) (h0:ys.length=0):OpOk P G C a o (.sl W1 o1 xs) h:=by
 refine azt hI (cv:=a.eval x) ?_ hx;obtain⟨ax,cx,ex,hcx,_,_⟩:=rep_sl.1 hx;obtain⟨ay,cy,ey,_,_,_⟩:=rep_sl.1 hy;rw[h0]at ey;have hsrc:Src P it.size T (a.eval y) 0 [] C.w:=by
  rw[ey];cases ay with
  |none=>exact Src.ofNil C.w ht cy
  |some ad=>exact Src.ofSlice C.w ht ad 0 cy [] (by simp) (fun j u hu=>by simp at hu) (fun u hu=>by cases hu)
 have:=run_append_nothing C.w T T o.type E it ht hi ax xs.length cx hcx (a.eval y) hsrc;rw[hexec,ex,this];rfl
theorem cyt{c:Call}{T E:TypeId}{x y:Operand}{it:TypeInfo}{z:Value}{u v r:A}{h':Hp}(hI:Inv G C h)(hop:o.op=.call c)(hc:c.callee=.builtin .append)(ha:c.args=#[x,y])(hT:c.argTypes=#[T,T])(ht:P.underlying T=some (.slice E))(hi:P.info? E=some it)(hz:it.zero=some z)
  (hzs:z.cells.size=it.size) (hpos:0<it.size) (hx:Rep C u (a.eval x)) (hy:Rep C v (a.eval y)) (hs:appA h E it.size it.bytes u v=some (r,h')):OpOk P G C a o r h':=by
 have hexec:(execOp a.eval o).run P C.w=((Builtin.append_ #[T,T] o.type #[a.eval x,a.eval y]).run P C.w).andThen fun v w=> .ok (.value v) w:=by
  unfold execOp;simp[hop,resolve,hc,ha,hT,invoke,builtin]
 have hzc:∀k,(Builtin.zeroCells z.cells k).toList.length=k*it.size:=fun k=>by rw[Yy,size_zeroCells,hzs]
 cases u with
 |sl W1 ow xs=>
  cases v with
  |sl W' ow' ys=>
   cases ow with
   |no=>simp[appA]at hs
   |nil=>
    simp only[appA]at hs;split at hs
    ·next hcond=>
     obtain⟨rfl,h0,hml,hby⟩:=hcond;simp only[Zb,Zp]at hs;obtain⟨rfl,rfl⟩:=hs;obtain⟨g,off,cap,cs,ey,k1,k2,k3,k4,k5⟩:=bje hy h0;obtain⟨ad,cap',ex,_,_,hown⟩:=rep_sl.1 hx;obtain⟨rfl,rfl,hn0⟩:=hown;rw[hn0]at ex;have hr:=run_append_nil (P:=P) C.w T o.type E it z ht hi hz ⟨g,off,none⟩ ys.length cap cs k2 k5 h0 (by simp only[maxLen]at hml;omega) (by omega);have hge:=grownCap_ge C.w ys.length 0 E;have hle:=grownCap_le_maxLen C.w ys.length 0 E hml;obtain⟨C',m1,m2,m3,m4,m5,m6,m7,m8⟩:=bjg (w:=C.w.drew) (E:=E) (W:=it.size) (m:=ys.length) (t:=h.t.length) (cap:=grownCap C.w ys.length 0 E) (cs:=cs) (rest:=(Builtin.zeroCells z.cells (grownCap C.w ys.length 0 E-ys.length)).toList) (hs:=h.t++[(E,it.size,ys.length)]) (.inl rfl) hI
      (by rw[Za,k2,hzc,←YS];congr 1;omega) hge hle k2 (.inl ⟨rfl,rfl⟩)
     refine⟨C',.slice (some ⟨C.w.heap.size,0,none⟩) ys.length (grownCap C.w ys.length 0 E),.inl ?_,m2,m3,rep_sl.2 ⟨_,_,rfl,hge,aqm ys cs 0 k4 k3 (RepL.ext m3.ext _ _ k1) (fun j hj=>?_) (fun j u hu=>?_),E,ys.length,m6,Zf _,fun _=>⟨by rw[m7],by rw[m7];exact m8⟩⟩⟩
     ·rw[hexec,ex,ey,hr,m1];simp only[Result.andThen_ok];rw[show cs.toArray++Builtin.zeroCells z.cells (grownCap C.w ys.length 0 E-ys.length)=(cs++(Builtin.zeroCells z.cells (grownCap C.w ys.length 0 E-ys.length)).toList).toArray from Yi.1 (by simp)]
     ·rw[show 0+0*it.size+j=j by omega];exact m4 j hj
     ·rw[show 0+0*it.size+j=j by omega];exact m5 j u hu
    ·split at hs
     ·next h0=>
      simp only[Zb,Zp]at hs;obtain⟨rfl,rfl⟩:=hs;exact bv8 hI ht hi hexec hx hy h0
     ·cases hs
   |tok t=>
    simp only[appA]at hs;split at hs
    ·next hcond=>
     obtain⟨rfl,rfl,h0,htok,hml,hby⟩:=hcond;simp only[Zb,Zp]at hs;obtain⟨rfl,rfl⟩:=hs;obtain⟨g,off,capy,cs,ey,k1,k2,k3,k4,k5⟩:=bje hy h0;obtain⟨ad,cap,ex,hcap,hrx,E',m,q1,q2,q3⟩:=rep_sl.1 hx;rw[←hI.toks,q1]at htok;injection htok with htok;injection htok with e1 e2;injection e2 with e2 e3;subst e1;subst e3;obtain⟨rfl,hrow⟩:=q3 rfl;obtain⟨cur,hcur,hcs,hcm⟩:=hrow;obtain⟨cs1,p1,p2,p3,p4,p5⟩:=axi hrx;have p5':∀(j:Nat) (u:Value),cs1[j]?=some u→C.w.cell? ⟨C.τ t,j,none⟩=some u:=fun j u hu=>by
      have:=p5 j u hu
      rwa [show 0+0*it.size+j=j by omega]at this
     have hall:(xs++ys).flatten.all A.data=true:=by rw[List.flatten_append,List.all_append,Zc];exact⟨p3,k3⟩
     have hrl:∀r∈xs++ys,r.length=it.size:=fun r hr=>by
      rcases Yz.1 hr with hm|hm
      ·exact p4 r hm
      ·exact k4 r hm
     have hL:RepL C (xs++ys).flatten (cs1++cs):=by rw[List.flatten_append];exact azz p1 k1
     have hll:(cs1++cs).length=(xs.length+ys.length)*it.size:=by rw[Za,p2,k2,YS]
     by_cases hroom:xs.length+ys.length≤cap
     ·have hfit:xs.length*it.size+cs.length≤cur.size:=by rw[k2,hcs,←YS];exact YZ _ hroom
      have hxs:xs.length*it.size≤cur.size:=by omega
      have hr:=run_append_room (P:=P) C.w T o.type E' it ht hi (C.τ t) xs.length cap cur hcur ⟨g,off,none⟩ ys.length capy cs k2 k5 (aj6 k1 (bza k3)) hroom hfit;obtain⟨C',m1,m2,m3,m4,m5,m6,m7,m8⟩:=cxw (m:=xs.length+ys.length) (cap:=cap) (cs:=cur.toList.take (xs.length*it.size)++cs++cur.toList.drop (xs.length*it.size+cs.length)) hI q1 (by omega) hcur (by rw[Za,Za,ZQ,Zv,Yy (xs:=cur)];omega) hcs hroom hcm
       (by rw[Zg,List.take_append_of_le_length (by rw[ZQ,Yy (xs:=cur)];omega),List.take_take,Nat.min_self])
      refine⟨C',.slice (some ⟨C.τ t,0,none⟩) (xs.length+ys.length) cap,.inl ?_,m2,m3,rep_sl.2 ⟨some ⟨C.τ t,0,none⟩,cap,by simp,by simpa using hroom,aqm _ _ 0 hrl hall (RepL.ext m3.ext _ _ hL) (fun j hj=>?_) (fun j u hu=>?_),E',xs.length+ys.length,m6,by simp,fun _=>⟨by rw[m7],by rw[m7];exact m8⟩⟩⟩
      ·rw[hexec,ex,ey,hr,m1];rfl
      ·rw[show 0+0*it.size+j=j by omega];exact m4 j (by simpa using hj)
      ·rw[show 0+0*it.size+j=j by omega];refine m5 j u ?_;rw[Zaf]at hu;have hlt:j<(cs1++cs).length:=by
        rw[Za];split at hu
        ·omega
        ·have:=(Zd.1 hu).1;omega
       rw[hll,YS]at hlt;rw[Zg,Zaf];have hxs':cs1.length≤cur.size:=by rw[p2];exact hxs
       simp only[ZQ,Yy,←p2,Nat.min_eq_left hxs'];split at hu
       ·next hj=>
        rw[if_pos hj];have h5:=p5' j u hu;rw[cell_of_row _ _ _ _ _ _ hcur]at h5;rw[List.getElem?_take_of_lt hj];simpa using h5
       ·next hj=>
        rw[if_neg hj,ZO (by rw[k2];omega)];exact hu
     ·have hr:=run_append_grow (P:=P) C.w T o.type E' it z ht hi hz ⟨C.τ t,0,none⟩ xs.length cap cs1 p2 (fun j u hu=>by rw[avn,YD];exact p5' j u hu) ⟨g,off,none⟩ ys.length capy cs k2 k5 (by omega) (by simp only[maxLen]at hml;omega) (growslice_fits (by omega) hby);have hge:=grownCap_ge C.w (xs.length+ys.length) cap E';have hle:=grownCap_le_maxLen C.w (xs.length+ys.length) cap E' hml;obtain⟨C',m1,m2,m3,m4,m5,m6,m7,m8⟩:=bjg (w:=C.w.drew) (E:=E') (W:=it.size) (m:=xs.length+ys.length) (t:=t) (cap:=grownCap C.w (xs.length+ys.length) cap E') (cs:=cs1++cs) (rest:=(Builtin.zeroCells z.cells (grownCap C.w (xs.length+ys.length) cap E'-(xs.length+ys.length))).toList) (hs:=h.t.set t (E',it.size,xs.length+ys.length)) (.inl rfl) hI
       (by rw[Za,hll,hzc,←YS];congr 1;omega) hge hle hll (.inr ⟨xs.length,q1,by omega,rfl⟩)
      refine⟨C',.slice (some ⟨C.w.heap.size,0,none⟩) (xs.length+ys.length) (grownCap C.w (xs.length+ys.length) cap E'),.inl ?_,m2,m3,rep_sl.2 ⟨some ⟨C.w.heap.size,0,none⟩,_,by rw[Za],by simpa using hge,aqm _ _ 0 hrl hall (RepL.ext m3.ext _ _ hL) (fun j hj=>?_) (fun j u hu=>?_),E',xs.length+ys.length,m6,by simp,fun _=>⟨by rw[m7],by rw[m7];exact m8⟩⟩⟩
      ·rw[hexec,ex,ey,hr,m1];simp only[Result.andThen_ok];rw[show cs1.toArray++cs.toArray++Builtin.zeroCells z.cells (grownCap C.w (xs.length+ys.length) cap E'-(xs.length+ys.length))=(cs1++cs++(Builtin.zeroCells z.cells (grownCap C.w (xs.length+ys.length) cap E'-(xs.length+ys.length))).toList).toArray from Yi.1 (by simp)]
      ·rw[show 0+0*it.size+j=j by omega];exact m4 j (by simpa using hj)
      ·rw[show 0+0*it.size+j=j by omega];exact m5 j u hu
    ·split at hs
     ·next h0=>
      simp only[Zb,Zp]at hs;obtain⟨rfl,rfl⟩:=hs;exact bv8 hI ht hi hexec hx hy h0
     ·cases hs
  |_=>cases ow<;>simp[appA]at hs
 |_=>simp[appA]at hs
theorem cy0{t E:TypeId}{len:Nat}{parts:Array (Nat×Operand)}{it:TypeInfo}{z:Value}{ps:List Opd}{rows:List (List A)}(hI:Inv G C h)(hT:RepT C ts n a)(hop:o.op=.buildSlice t len parts)(ht:P.underlying t=some (.slice E))(hi:P.info? E=some it)(hz:it.zero=some z)
  (hzs:z.cells.size=it.size) (hpos:0<it.size) (hpl:parts.toList.length=len) (hl0:0<len) (hsm:len*it.size≤1000) (hc:compRow n 0 parts.toList=some ps) (hr:rowsA (evX ts) it.size ps=some rows):OpOk P G C a o (.sl it.size (.tok h.t.length) rows) ⟨h.b,h.t++[(E,it.size,rows.length)]⟩:=by
 have hsl:((Array.range (len*it.size)).map (z.cells[· % z.cells.size]!)).toList.length=parts.toList.length*it.size:=by simp[hpl]
 obtain⟨out,k1,k2,k3,k4,k5,k6⟩:=bzg hT it.size hpos parts.toList ps rows 0 [] _ hc hr (by simp) hsl;have hlen:rows.length=len:=by rw[k5,hpl]
 simp only[Zk,Array.toArray_toList]at k1;have hlm:len≤maxLen:=by
  have:len≤len*it.size:=Nat.le_mul_of_pos_right _ hpos;simp only[maxLen];omega
 obtain⟨C',m1,m2,m3,m4,m5,m6,m7,m8⟩:=bjg (w:=C.w) (E:=E) (W:=it.size) (m:=rows.length) (t:=h.t.length) (cap:=len) (cs:=out) (rest:=[]) (hs:=h.t++[(E,it.size,rows.length)]) (.inr rfl) hI (by rw[ZB,k6,hpl]) (by omega) hlm (by rw[k6,hpl,hlen]) (.inl ⟨rfl,rfl⟩);refine⟨C',.slice (some ⟨C.w.heap.size,0,none⟩) len len,.inl ?_,m2,m3,rep_sl.2 ⟨some ⟨C.w.heap.size,0,none⟩,len,by rw[hlen],by omega,aqm rows out 0 k4 k3 (RepL.ext m3.ext _ _ k2) (fun j hj=>?_) (fun j v hv=>?_),E,rows.length,m6,Zf _,fun _=>⟨by rw[m7],by rw[m7];exact m8⟩⟩⟩
 ·rw[m1,ZB];have hrun:=run_buildSlice (P:=P) C.w t E len (parts.map fun p=>(p.1,a.eval p.2)) out.toArray it z ht hi hz (by omega) (by have:=Nat.mul_pos hl0 hpos;omega) (by rw[Array.toList_map];exact k1);unfold execOp;simp only[hop,Sem.run_bind];erw [hrun];rfl
 ·rw[show 0+0*it.size+j=j by omega];exact m4 j hj
 ·rw[show 0+0*it.size+j=j by omega];exact m5 j v hv
end
end AX
end
section
open Go.RowKit
namespace AX
theorem bxv(l:List UInt8)(i j:Nat):(⟨l.toArray⟩:ByteArray).extract i j=⟨((l.take j).drop i).toArray⟩:=by
 apply ByteArray.ext;apply Yi.1;simp[List.drop_take]
section
variable {P:Program} {G:World→Prop} {C:Ctx} {a:Act} {o:Oper} {h:Hp} {ts:Nat→A} {n:Nat}
theorem akk(hT:RepT C ts n a){x:Option Operand}{y:Option Opd}(hc:compO n x=some y):(x=none∧y=none)∨∃u v,x=some u∧y=some v∧Rep C (evX ts v) (a.eval u):=by
 cases x with
 |none=>simp only[compO,Zb]at hc;exact .inl ⟨rfl,hc.symm⟩
 |some u=>
  simp only[compO,Ze,Zb]at hc;obtain⟨v,h1,rfl⟩:=hc;exact .inr ⟨u,v,rfl,rfl,azh hT h1⟩
theorem cy2{t:TypeId}{x:Operand}{lo hi:Option Operand}{lo' hi':Option Opd}{u r:A}(hI:Inv G C h)(hT:RepT C ts n a)(hop:o.op=.slice t x lo hi none)(ht:P.underlying t=some .string)(hx:Rep C u (a.eval x))(hlo:compO n lo=some lo')(hhi:compO n hi=some hi')
  (hs:ssliceA (lo'.map (evX ts)) (hi'.map (evX ts)) u=some r):OpOk P G C a o r h:=by
 cases u with
 |str l=>
  rw[rep_str]at hx;have hb:∀(k:IntKind) (i:Int) (y:Nat) (code:BoundsCode),0≤i→i≤(y:Int)→(Instr.sliceBound (.int k i) y code).run P C.w=.ok i.toNat C.w:=fun k i y code h0 h1=>by
   unfold Instr.sliceBound;simp[asIntOf,h0,h1]
  have hsz:(⟨l.toArray⟩:ByteArray).size=l.length:=size_mk l;have fin:∀i j:Nat,(execOp a.eval o).run P C.w=.ok (.value (.string ((⟨l.toArray⟩:ByteArray).extract i j))) C.w→r=.str ((l.take j).drop i)→OpOk P G C a o r h:=fun i j h1 h2=>by
   rw[bxv]at h1;subst h2;exact azt hI h1 (rep_str.2 rfl)
  rcases akk hT hlo with⟨rfl,rfl⟩|⟨ul,vl,rfl,rfl,hl⟩<;>rcases akk hT hhi with⟨rfl,rfl⟩|⟨uh,vh,rfl,rfl,hh⟩<;>simp only[ssliceA,YA,ZR,Yo,ZZ]at hs
  ·split at hs
   ·injection hs with hs;refine fin 0 l.length ?_ (by rw[←hs];simp);unfold execOp;simp only[hop,Instr.sliceAt,Sem.run_bind,run_underlying ht,Result.andThen_ok,hx,YA,run_slice_string_all C.w t _ ht,hsz,Sem.run_pure]
   ·cases hs
  ·split at hs
   ·next x1 x2 k a' k' b' e1 e2=>
    injection e1 with e0 e1;subst e1;rw[e2,rep_int]at hh;split at hs
    ·next hc=>
     injection hs with hs;refine fin 0 b'.toNat ?_ (by rw[←hs];simp);unfold execOp;simp[hop,Instr.sliceAt,Instr.slice,run_underlying ht,hx,hh,Instr.sliceBounds,hsz,hb _ _ _ _ (show 0≤b' by omega) (show b'≤(l.length:Int) by omega)]
    ·cases hs
   ·cases hs
  ·split at hs
   ·next x1 x2 k a' k' b' e1 e2=>
    injection e2 with e0 e2;subst e2;rw[e1,rep_int]at hl;split at hs
    ·next hc=>
     injection hs with hs;refine fin a'.toNat l.length ?_ (by rw[←hs];simp);unfold execOp;simp[hop,Instr.sliceAt,Instr.slice,run_underlying ht,hx,hl,Instr.sliceBounds,hsz,hb _ _ _ _ (show 0≤a' by omega) (show a'≤(l.length:Int) by omega)]
    ·cases hs
   ·cases hs
  ·split at hs
   ·next x1 x2 k a' k' b' e1 e2=>
    rw[e1,rep_int]at hl;rw[e2,rep_int]at hh;split at hs
    ·next hc=>
     injection hs with hs;refine fin a'.toNat b'.toNat ?_ hs.symm;unfold execOp;simp[hop,Instr.sliceAt,Instr.slice,run_underlying ht,hx,hl,hh,Instr.sliceBounds,hsz,hb _ _ _ _ (show 0≤b' by omega) (show b'≤(l.length:Int) by omega),hb _ a' b'.toNat _ (show 0≤a' by omega) (by omega)]
    ·cases hs
   ·cases hs
 |_=>simp[ssliceA]at hs
theorem av9{W:Nat}{ad:Option Addr}:∀{rows:List (List A)} {i:Nat} (k:Nat),RepRows C W rows ad i→RepRows C W (rows.drop k) ad (i+k)
 |rows,i,0,r=>r
 |[],i,k+1,r=>by rw[List.drop_nil];unfold RepRows;trivial
 |x::rows,i,k+1,r=>by
  unfold RepRows at r;rw[ZU,show i+(k+1)=i+1+k by omega];exact av9 k r.2
theorem av1{W:Nat}{ad:Option Addr}:∀{rows:List (List A)} {i:Nat} (k:Nat),RepRows C W rows ad i→RepRows C W (rows.take k) ad i
 |rows,i,0,r=>by rw[Yk];unfold RepRows;trivial
 |[],i,k+1,r=>by rw[YY];unfold RepRows;trivial
 |x::rows,i,k+1,r=>by
  unfold RepRows at r;rw[Z3];unfold RepRows;exact⟨r.1,av1 k r.2⟩
theorem avr{W g off k:Nat}:∀{rows:List (List A)} {i:Nat},RepRows C W rows (some ⟨g,off,none⟩) (i+k)→RepRows C W rows (some ⟨g,off+k*W,none⟩) i
 |[],i,r=>by unfold RepRows;trivial
 |x::rows,i,r=>by
  unfold RepRows at r;unfold RepRows;obtain⟨⟨g',off',e,h1,h2⟩,h3⟩:=r;injection e with e;injection e with e1 e2;subst e1;subst e2;refine⟨⟨g,off+k*W,rfl,h1,?_⟩,avr (by rw[show i+1+k=i+k+1 by omega];exact h3)⟩;rw[YS,Nat.add_comm (i*W),←Nat.add_assoc]at h2;exact h2
theorem cwv{t e:TypeId}{ie:TypeInfo}{x:Operand}{lo hi:Option Operand}{lo' hi':Option Opd}{u r:A}(hI:Inv G C h)(hT:RepT C ts n a)(hop:o.op=.slice t x lo hi none)(ht:P.underlying t=some (.slice e))(hie:P.info? e=some ie)(hx:Rep C u (a.eval x))(hlo:compO n lo=some lo')(hhi:compO n hi=some hi')
  (hs:sslA ie.size (lo'.map (evX ts)) (hi'.map (evX ts)) u=some r):OpOk P G C a o r h:=by
 cases u with
 |sl W' ow rows=>
  obtain⟨ad,cap,ex,hcap,hrows,_⟩:=rep_sl.1 hx;have hel:P.elem t=e:=by simp[Program.elem,ht]
  have ht':P.underlying t=some (.slice (P.elem t)):=by rw[hel];exact ht
  have hsz:(sizeOf (P.elem t)).run P C.w=.ok ie.size C.w:=by rw[hel];simp[sizeOf,typeInfo,hie]
  have fin:∀i j:Nat,i≤j→j≤rows.length→(W'=ie.size∨rows.length=0)→(execOp a.eval o).run P C.w=.ok (.value (sliced ad i j cap ie.size)) C.w→r=.sl ie.size .no ((rows.take j).drop i)→OpOk P G C a o r h:=fun i j h0 h1 hw h2 h3=>by
   subst h3;refine azt hI h2 (rep_sl.2 ?_);unfold sliced;have hlen:((rows.take j).drop i).length=j-i:=by rw[Zv,ZQ];omega
   refine⟨_,cap-i,by rw[hlen],by rw[hlen];omega,?_,trivial⟩;rcases Nat.eq_zero_or_pos (j-i)with hz|hp
   ·rw[Z4 (l:=(rows.take j).drop i) (by rw[hlen];exact hz)];unfold RepRows;trivial
   ·rw[if_neg (by omega)];have hW:W'=ie.size:=by rcases hw with hw|hw;exact hw;omega
    subst hW;obtain⟨g,off,rfl,_,_⟩:=axr hrows 0 (by omega);have:=av9 i (av1 j hrows);show RepRows C ie.size _ (some ((⟨g,off,none⟩:Addr).add (i*ie.size))) 0
    rw[avn];exact avr (i:=0) this
  have hex:(execOp a.eval o).run P C.w=((Instr.slice t (a.eval x) (lo.map a.eval) (hi.map a.eval) none).run P C.w).andThen fun v w=> .ok (.value v) w:=by
   unfold execOp;simp only[hop,run_sliceAt_slice C.w t _ _ _ _ ht',Sem.run_bind,YA];rfl
  rw[ex]at hex;rcases akk hT hlo with⟨rfl,rfl⟩|⟨ul,vl,rfl,rfl,hl⟩<;>rcases akk hT hhi with⟨rfl,rfl⟩|⟨uh,vh,rfl,rfl,hh⟩<;>simp only[sslA,YA,ZR,Yo,ZZ]at hs hex
  ·split at hs
   ·next hc=>
    injection hs with hs;refine fin 0 rows.length (by omega) (Zf _) hc.2.2.2 ?_ (by rw[←hs];simp);rw[hex,run_slice_all C.w t ad rows.length cap ht',hsz];rfl
   ·cases hs
  ·split at hs
   ·next x1 x2 k a' k' b' e1 e2=>
    injection e1 with e0 e1;subst e1;rw[e2,rep_int]at hh;split at hs
    ·next hc=>
     injection hs with hs;refine fin 0 b'.toNat (by omega) (by omega) hc.2.2.2 ?_ (by rw[←hs];simp);rw[hex,hh,run_slice_h C.w t ad rows.length cap ht' k' b' (by omega) (by omega),hsz];rfl
    ·cases hs
   ·cases hs
  ·split at hs
   ·next x1 x2 k a' k' b' e1 e2=>
    injection e2 with e0 e2;subst e2;rw[e1,rep_int]at hl;split at hs
    ·next hc=>
     injection hs with hs;refine fin a'.toNat rows.length (by omega) (Zf _) hc.2.2.2 ?_ (by rw[←hs];simp);rw[hex,hl,run_slice_l C.w t ad rows.length cap ht' k a' (by omega) (by omega),hsz];rfl
    ·cases hs
   ·cases hs
  ·split at hs
   ·next x1 x2 k a' k' b' e1 e2=>
    rw[e1,rep_int]at hl;rw[e2,rep_int]at hh;split at hs
    ·next hc=>
     injection hs with hs;refine fin a'.toNat b'.toNat (by omega) (by omega) hc.2.2.2 ?_ hs.symm;rw[hex,hl,hh,run_slice_lh C.w t ad rows.length cap ht' k k' a' b' (by omega) (by omega) (by omega),hsz];rfl
    ·cases hs
   ·cases hs
 |_=>simp[sslA]at hs
theorem av7(d:Nat):∀(fs:List Field) (ks:List Nat) (l m:List A) (cs ds pre pre':List Value) (b:Bool) (w:World),kindsB P fs pre.length=some ks→pre'.length=pre.length→RepL C l cs→RepL C m ds→eqCells ks l m=some b →
  (Op.eqFields (d+1) (pre++cs).toArray (pre'++ds).toArray fs).run P w=.ok b w
 |[],ks,l,m,cs,ds,pre,pre',b,w,hf,hp,hl,hm,he=>by
  simp only[kindsB,Zb]at hf;subst hf;cases l<;>cases m<;>simp only[eqCells,Zb,reduceCtorEq]at he
  subst he;simp[Op.eqFields]
 |f::fs,ks,l,m,cs,ds,pre,pre',b,w,hf,hp,hl,hm,he=>by
  simp only[kindsB]at hf;split at hf
  ·next hcond=>
   obtain⟨ho,hn⟩:=hcond;have key:∃k ks',ks=k::ks'∧kindsB P fs (pre.length+1)=some ks'∧((k=0∧∃q,P.underlying f.type=some (.int q))∨(k=1∧P.underlying f.type=some .string)∨(k=2∧P.underlying f.type=some .bool)):=by
    split at hf<;>simp only[Ze,Zb,reduceCtorEq]at hf
    ·next q hu=>obtain⟨l,h1,rfl⟩:=hf;exact⟨0,l,rfl,h1,.inl ⟨rfl,q,hu⟩⟩
    ·next hu=>obtain⟨l,h1,rfl⟩:=hf;exact⟨1,l,rfl,h1,.inr (.inl ⟨rfl,hu⟩)⟩
    ·next hu=>obtain⟨l,h1,rfl⟩:=hf;exact⟨2,l,rfl,h1,.inr (.inr ⟨rfl,hu⟩)⟩
   obtain⟨k,ks',rfl,hrest,hty⟩:=key;have hxy:∃x l' y m',l=x::l'∧m=y::m':=by
    cases l with
    |nil=>rcases hty with⟨rfl,_⟩|⟨rfl,_⟩|⟨rfl,_⟩<;>simp[eqCells]at he
    |cons x l=>
     cases m with
     |nil=>rcases hty with⟨rfl,_⟩|⟨rfl,_⟩|⟨rfl,_⟩<;>cases x<;>simp[eqCells]at he
     |cons y m=>exact⟨x,l,y,m,rfl,rfl⟩
   obtain⟨x,l',y,m',rfl,rfl⟩:=hxy;obtain⟨c,cs',rfl,h1,h2⟩:=repL_cons.1 hl;obtain⟨e,ds',rfl,k1,k2⟩:=repL_cons.1 hm;have ih:=fun b' hb=>av7 d fs ks' l' m' cs' ds' (pre++[c]) (pre'++[e]) b' w (by rw[Za];exact hrest) (by simp[hp]) h2 k2 hb
   rw[Zg,Zg]at ih;simp only[List.singleton_append]at ih;have g1:(pre++c::cs').toArray[f.offset]?=some c:=by simp[ho]
   have g2:(pre'++e::ds').toArray[f.offset]?=some e:=by simp[ho,←hp]
   have hagg:∀w,(isAgg f.type).run P w=.ok false w:=fun w=>by
    unfold isAgg;rcases hty with⟨_,q,hu⟩|⟨_,hu⟩|⟨_,hu⟩<;>simp[run_underlying hu]
   have hp1:∀w,(part f.type (pre++c::cs').toArray f.offset).run P w=.ok c w:=fun w=>by
    unfold part;simp only[Sem.run_bind,hagg,Result.andThen_ok,Zi,if_false,g1,Sem.run_pure]
   have hp2:∀w,(part f.type (pre'++e::ds').toArray f.offset).run P w=.ok e w:=fun w=>by
    unfold part;simp only[Sem.run_bind,hagg,Result.andThen_ok,Zi,if_false,g2,Sem.run_pure]
   have step:∀q b',(∀w,(Op.equalIn (d+1) f.type c e).run P w=.ok q w)→eqCells ks' l' m'=some b'→(q&&b')=b→(Op.eqFields (d+1) (pre++c::cs').toArray (pre'++e::ds').toArray (f::fs)).run P w=.ok b w:=fun q b' hq hb hqb=>by
    rw[Op.eqFields,if_pos hn];simp only[Sem.run_bind,hp1,hp2,hq,Result.andThen_ok];cases q
    ·subst hqb;simp
    ·simp only[ZP,Zi,if_false];rw[ih b' hb,←hqb,Zx]
   rcases hty with⟨rfl,q,hu⟩|⟨rfl,hu⟩|⟨rfl,hu⟩<;>cases x<;>cases y<;>simp only[eqCells,reduceCtorEq]at he
   ·next k p k' p'=>
    rw[rep_int]at h1 k1;subst h1;subst k1;split at he
    ·next hk=>
     subst hk;simp only[Zu]at he;obtain⟨b',hb,hqb⟩:=he;exact step _ b' (fun w=>run_equalIn_int w d f.type k q p p' hu) hb hqb
    ·cases he
   ·next p p'=>
    rw[rep_str]at h1 k1;subst h1;subst k1;simp only[Zu]at he;obtain⟨b',hb,hqb⟩:=he;refine step _ b' (fun w=>?_) hb hqb;rw[run_equalIn_string w d f.type _ _ hu,ByteArray.toList_eq,ByteArray.toList_eq]
   ·next p p'=>
    rw[aqn]at h1 k1;subst h1;subst k1;simp only[Zu]at he;obtain⟨b',hb,hqb⟩:=he;exact step _ b' (fun w=>run_equalIn_bool w d f.type p p' hu) hb hqb
  ·cases hf
theorem ok_eq{op:BinOp}{t yt:TypeId}{x y:Operand}{u v:A}{b:Bool}{k:Nat}{ks:List Nat}(hI:Inv G C h)(hop:o.op=.binOp op t x y yt)(hn:op=.eql∨op=.neq)(hx:Rep C u (a.eval x))(hy:Rep C v (a.eval y))
  (ht:(k=0∧P.underlying t=some .bool)∨(k=1∧∃e,P.underlying t=some (.pointer e))∨(k=3∧∃q e,P.underlying t=some (.map q e))∨(k=2∧∃fs,P.underlying t=some (.struct fs)∧P.stoodInHeld t=false∧P.eqGuardType P.depth t=false∧kindsB P fs.toList 0=some ks)) (hb:eqA k ks u v=some b):OpOk P G C a o (.bool (if(op == .neq)=true then !b else b)) h:=by
 have key:(Op.equal t (a.eval x) (a.eval y)).run P C.w=.ok b C.w∧(eqGuard op t x y (a.eval x) (a.eval y)).run P C.w=.ok () C.w∧(binOp op t (a.eval x) (a.eval y)=match op with|.eql=>do pure (.bool (←Op.equal t (a.eval x) (a.eval y)))|_=>do pure (.bool (!(←Op.equal t (a.eval x) (a.eval y))))):=by
  rcases ht with⟨rfl,ht⟩|⟨rfl,e,ht⟩|⟨rfl,q,e,ht⟩|⟨rfl,fs,ht,hst,hg,hk⟩
  ·cases u<;>cases v<;>simp only[eqA,reduceCtorEq,Zb]at hb
   next p q=>
   subst hb;rw[aqn]at hx hy;rw[hx,hy];refine⟨run_equalIn_bool C.w 9999 t p q ht,by simp[eqGuard],by rcases hn with rfl|rfl<;>rfl⟩
  ·cases u<;>cases v<;>simp only[eqA,reduceCtorEq,Zb]at hb<;>subst hb
   all_goals
    first
     |(rw[aqp]at hx hy;rw[hx,hy])
     |(rw[aqp]at hx;have hy:=(rep_ptr.1 hy).1;rw[hx,hy])
     |(rw[aqp]at hy;have hx:=(rep_ptr.1 hx).1;rw[hx,hy])
     |(rw[aqp]at hx;obtain⟨g,off,hy,_⟩:=rep_vptr.1 hy;rw[hx,hy])
     |(rw[aqp]at hy;obtain⟨g,off,hx,_⟩:=rep_vptr.1 hx;rw[hx,hy])
    refine⟨?_,by simp[eqGuard],by rcases hn with rfl|rfl<;>rfl⟩;obtain⟨d,hd⟩:∃d:Nat,10000=d+1:=⟨9999,rfl⟩;unfold Op.equal Op.maxDepth;rw[hd];simp[Op.equalIn,run_underlying ht]
  ·cases u<;>cases v<;>simp only[eqA,reduceCtorEq,Zb]at hb<;>subst hb
   all_goals
    first
     |(rw[axt]at hx hy;rw[hx,hy])
     |(rw[axt]at hx;have hy:=(rep_mp.1 hy).1;rw[hx,hy])
     |(rw[axt]at hy;have hx:=(rep_mp.1 hx).1;rw[hx,hy])
    refine⟨?_,by simp[eqGuard],by rcases hn with rfl|rfl<;>rfl⟩;obtain⟨d,hd⟩:∃d:Nat,10000=d+1:=⟨9999,rfl⟩;unfold Op.equal Op.maxDepth;rw[hd];simp[Op.equalIn,run_underlying ht]
  ·cases u<;>cases v<;>simp only[eqA,reduceCtorEq]at hb
   next l m=>
   obtain⟨cs,hx',hl⟩:=rep_agg.1 hx;obtain⟨ds,hy',hm⟩:=rep_agg.1 hy;rw[hx',hy'];have hfs:P.fieldsOf t=fs:=by unfold Program.fieldsOf;rw[ht]
   refine⟨?_,run_eqGuard_agg C.w op t x y _ _ hg,by rcases hn with rfl|rfl<;>rfl⟩;unfold Op.equal Op.maxDepth;rw[run_equalIn_agg C.w 9999 t _ _ (by rw[hfs];exact ht) hst,hfs];exact av7 (C:=C) 9998 fs.toList ks l m cs ds [] [] b C.w hk rfl hl hm hb
 obtain⟨h1,h2,h3⟩:=key;refine azt hI ?_ (aqn.2 rfl);unfold execOp;simp only[hop,Sem.run_bind,h2,Result.andThen_ok,h3];rcases hn with rfl|rfl<;>simp[h1]
end
end AX
end
section
open Go.RowKit
namespace AX
def Ctx.turn(C:Ctx)(w':World)(i:Nat)(claim:Bool):Ctx:={ C with w:=w',own:=fun g=>if g<C.w.heap.size then C.own g else if claim=true∧g<w'.heap.size then some i else none }
theorem aq8{G:World→Prop}{C:Ctx}{h:Hp}{w':World}{i:Nat}{b':Blk}(claim:Bool)(hI:Inv G C h)(hi:i<C.nb)(hos:w'.os=C.w.os)(htape:w'.tape=C.w.tape)(hout:w'.output=C.w.output)(hsz:C.w.heap.size≤w'.heap.size)
  (hblk:∀g,g<C.w.heap.size→C.own g≠some i→w'.heap[g]?=C.w.heap[g]?) (hrep:Step C (C.turn w' i claim)→BlkRep (C.turn w' i claim) i b'):Inv G (C.turn w' i claim) ⟨h.b.set i b',h.t⟩∧Step C (C.turn w' i claim):=by
 have hlt:∀g,C.own g=none→g<C.w.heap.size→w'.heap[g]?=C.w.heap[g]?:=fun g hg hl=>hblk g hl (by rw[hg];simp)
 have hE:Ext C (C.turn w' i claim):=by
  refine⟨fun g j hs=>⟨hs,?_⟩,Zf _,fun _ _=>rfl,fun t E W m ht=>?_⟩
  ·obtain⟨h1,h2,_⟩:=hI.prot g j hs;exact cell_of_block (hlt g h2 h1)
  ·obtain⟨h0,_,cap,h1,_⟩:=hI.rows t E W m ht;exact⟨m,ht,.inr ⟨rfl,rfl,fun cap hc=>hc.same (hlt _ h0 h1.lt)⟩⟩
 have hown:∀g,g<C.w.heap.size→(C.turn w' i claim).own g=C.own g:=fun g hg=>by
  show(if g<C.w.heap.size then C.own g else _)=_
  rw[if_pos hg]
 have hown':∀j,j≠i→∀g,(C.turn w' i claim).own g=some j↔C.own g=some j:=fun j hj g=>by
  show(if g<C.w.heap.size then C.own g else if claim=true∧g<w'.heap.size then some i else none)=some j↔_
  split
  ·exact Iff.rfl
  ·next hg=>
   constructor
   ·intro e;split at e
    ·injection e with e;exact absurd e.symm hj
    ·cases e
   ·intro e;exact absurd (hI.ownlt g j e).2.1 hg
 have hS:Step C (C.turn w' i claim):=⟨hE,hos,htape,hout,hsz,rfl,fun g hg ho _=>hlt g ho hg,hown,fun g j hs=> .inl hs,fun t ht=> .inr ⟨ht,rfl⟩⟩;refine⟨⟨by rw[Yl];exact hI.nb,fun j b hjb=>?_,fun j hj=>?_,fun g j hg=>?_,fun g j hs=>?_,fun t E W m ht=>?_,hI.inj,hI.toks,?_,fun w2 hw2=>?_⟩,hS⟩
 ·rw[Zs]at hjb;split at hjb
  ·next e=>
   subst e;split at hjb
   ·injection hjb with hjb;subst hjb;exact hrep hS
   ·cases hjb
  ·next hne=>
   have hj:j<C.nb:=by rw[←hI.nb];exact(Zd.1 hjb).1
   refine(hI.box j b hjb).ext hE hj (hI.ownk j hj) (fun g j hg=>(hI.ownlt g j hg).2.1) (fun g hg=>hblk g (hI.ownlt g j hg).2.1 (by rw[hg];intro e;injection e with e;exact hne e.symm)) (fun g=>hown' j (fun e=>hne e.symm) g) hsz
 ·have h1:=hI.ownk j hj;rw[show(C.turn w' i claim).κ j=C.κ j from rfl,hown _ (hI.ownlt _ _ h1).2.1];exact h1
 ·have hg':(if g<C.w.heap.size then C.own g else if claim=true∧g<w'.heap.size then some i else none)=some j:=hg;split at hg'
  ·obtain⟨k1,k2,k3⟩:=hI.ownlt g j hg';exact⟨k1,ZK k2 hsz,k3⟩
  ·next hge=>
   split at hg'
   ·next hc=>injection hg' with hg';subst hg';exact⟨hi,hc.2,by have:=hI.base;show C.base≤g;omega⟩
   ·cases hg'
 ·obtain⟨k1,k2,k3⟩:=hI.prot g j hs;exact⟨ZK k1 hsz,(hown g k1).trans k2,k3⟩
 ·obtain⟨k1,k2,cap,k3,k4⟩:=hI.rows t E W m ht;exact⟨(hown _ k3.lt).trans k1,k2,cap,k3.same (hlt _ k1 k3.lt),k4⟩
 ·exact Zl hI.base hsz
 ·refine hI.glob w2 fun g hg=>(hw2 g hg).trans ?_
  have hg':g<C.w.heap.size:=ZK hg hI.base;refine hblk g hg' fun e=>?_
  have:=(hI.ownlt g i e).2.2;omega
section
variable {P:Program} {G:World→Prop} {C:Ctx} {a:Act} {o:Oper} {h:Hp} {ts:Nat→A} {n:Nat}
theorem bzw{t:TypeId}(hm:mapB P t=true):∃q e k,P.underlying t=some (.map q e)∧P.underlying q=some (.int k):=by
 unfold mapB at hm;split at hm
 ·next q e hu=>
  split at hm
  ·next k hk=>exact⟨q,e,k,hu,hk⟩
  ·cases hm
 ·cases hm
theorem run_checkKey{q:TypeId}{k:IntKind}(w:World)(b:Bool)(d:Nat)(n:Int)(hq:P.underlying q=some (.int k)):(Instr.checkKey b (d+1) q (.int .i64 n)).run P w=.ok () w:=by
 simp[Instr.checkKey,run_underlying hq]
theorem bqd{k:IntKind}(n:Int):∀(l:List (Int×A)) (es:List MapEntry) (i:Nat),RepEs C l es →
  (mfind n l=none∧Instr.findNow (.int k) (.int .i64 n) es i=some none)∨∃x j e,mfind n l=some x∧Instr.findNow (.int k) (.int .i64 n) es i=some (some (i+j,e.val))∧es[j]?=some e∧e.key=.int .i64 n∧Rep C x e.val ∧
   (∀y v,Rep C y v→RepEs C (mput n y l) (es.modify j fun e=>{ e with key:=.int .i64 n,val:=v }))∧RepEs C (merase n l) (es.eraseIdx j)
 |[],es,i,hr=>by
  have:es=[]:=hr;subst this;exact .inl ⟨rfl,rfl⟩
 |(m,x)::l,es,i,hr=>by
  obtain⟨e,es',rfl,h1,h2,h3⟩:=hr;by_cases hn:n=m
  ·subst hn;refine .inr ⟨x,0,e,by simp[mfind],by simp[Instr.findNow,Instr.sameNow,h1],rfl,h1,h2,fun y v hv=>?_,?_⟩
   ·simp only[mput,if_true,List.modify_cons];exact⟨_,es',rfl,rfl,hv,h3⟩
   ·simp only[merase,if_true,List.eraseIdx_cons_zero];exact h3
  ·have hb:(n==m)=false:=by simp[hn]
   have hf:Instr.findNow (.int k) (.int .i64 n) (e::es') i=Instr.findNow (.int k) (.int .i64 n) es' (i+1):=by
    simp[Instr.findNow,Instr.sameNow,h1,hb]
   rw[hf];rcases bqd n l es' (i+1) h3 with⟨k1,k2⟩|⟨y,j,e',k1,k2,k3,k4,k5,k6,k7⟩
   ·exact .inl ⟨by simp only[mfind,if_neg hn];exact k1,k2⟩
   ·refine .inr ⟨y,j+1,e',by simp only[mfind,if_neg hn];exact k1,by rw[k2,show i+1+j=i+(j+1) by omega],by simpa using k3,k4,k5,fun z v hv=>?_,?_⟩
    ·simp only[mput,if_neg hn,List.modify_succ_cons];exact⟨e,_,rfl,h1,h2,k6 z v hv⟩
    ·simp only[merase,if_neg hn,List.eraseIdx_cons_succ];exact⟨e,_,rfl,h1,h2,k7⟩
theorem cke(n:Int):∀(l:List (Int×A)) (es:List MapEntry) (y:A) (v:Value) (b:Nat),RepEs C l es→mfind n l=none→Rep C y v→RepEs C (mput n y l) (es++[{ key:=.int .i64 n,val:=v,born:=b }])
 |[],es,y,v,b,hr,hf,hv=>by
  have:es=[]:=hr;subst this;exact⟨_,[],rfl,rfl,hv,rfl⟩
 |(m,x)::l,es,y,v,b,hr,hf,hv=>by
  obtain⟨e,es',rfl,h1,h2,h3⟩:=hr;have hn:n≠m:=by
   intro e;simp[mfind,e]at hf
  simp only[mfind,if_neg hn]at hf;simp only[mput,if_neg hn];exact⟨e,_,rfl,h1,h2,cke n l es' y v b h3 hf hv⟩
theorem run_findKey{q:TypeId}{k:IntKind}(w:World)(n:Int)(es:List MapEntry)(r:Option (Nat×Value))(hq:P.underlying q=some (.int k))(hf:Instr.findNow (.int k) (.int .i64 n) es 0=some r):(Instr.findKey q (.int .i64 n) es).run P w=.ok r w:=by
 simp[Instr.findKey,run_underlying hq,hf]
theorem aqd{w:World}{b:Nat}{es:Array MapEntry}{c:Nat}(hb:w.heap[b]?=some (.map es c)):(getObj b).run P w=.ok (.map es c) w:=MapKept.run_getObj_map hb
theorem bye{w:World}{ob:Obj}{b0:Blk}(hw:w=C.w∨w=C.w.drew)(hI:Inv G C h)(hrep:∀(C':Ctx) (i:Nat),Ext C C'→C'.κ i=C.w.heap.size→C'.own (C'.κ i)=some i→C'.w.heap[C'.κ i]?=some ob→BlkRep C' i b0):
  ∃C':Ctx,C'.w=w.alloc ob∧Inv G C' ⟨h.b++[b0],h.t⟩∧Step C C'∧C'.κ h.b.length=C.w.heap.size∧h.b.length<C'.nb:=by
 have hh:w.heap=C.w.heap:=by rcases hw with rfl|rfl<;>rfl
 have hos:w.os=C.w.os∧w.tape=C.w.tape∧w.output=C.w.output:=by rcases hw with rfl|rfl<;>exact⟨rfl,rfl,rfl⟩
 let C':Ctx:={ C with w:=w.alloc ob,κ:=fun i=>if i=C.nb then C.w.heap.size else C.κ i,nb:=C.nb+1,own:=fun g=>if g=C.w.heap.size then some C.nb else C.own g }
 have hblk:∀g,g<C.w.heap.size→C'.w.heap[g]?=C.w.heap[g]?:=fun g hg=>by
  show(w.alloc ob).heap[g]?=_
  rw[Below.heap_alloc w _ g (by rw[hh];exact hg),hh]
 have hsz:C'.w.heap.size=C.w.heap.size+1:=by show(w.alloc ob).heap.size=_;simp[hh]
 have hE:Ext C C':=by
  refine⟨fun g j hs=>⟨hs,cell_of_block (hblk g (hI.prot g j hs).1)⟩,Nat.le_succ _,fun i hi=>?_,fun t E W m ht=>?_⟩
  ·show(if i=C.nb then C.w.heap.size else C.κ i)=C.κ i
   rw[if_neg (by omega)]
  ·obtain⟨_,_,cap,h1,_⟩:=hI.rows t E W m ht;exact⟨m,ht,.inr ⟨rfl,rfl,fun cap hc=>hc.same (hblk _ h1.lt)⟩⟩
 have hown:∀g,g<C.w.heap.size→C'.own g=C.own g:=fun g hg=>by
  show(if g=C.w.heap.size then some C.nb else C.own g)=_
  rw[if_neg (by omega)]
 have hown':∀g i,i<C.nb→(C'.own g=some i↔C.own g=some i):=fun g i hi=>by
  show(if g=C.w.heap.size then some C.nb else C.own g)=some i↔_
  split
  ·next e=>exact⟨fun e=>by injection e with e;omega,fun e'=>by have:=(hI.ownlt g i e').2.1;omega⟩
  ·exact Iff.rfl
 refine⟨C',rfl,⟨?_,fun i b hib=>?_,fun i hi=>?_,fun g i hg=>?_,fun g j hs=>?_,fun t E W m ht=>?_,hI.inj,hI.toks,?_,fun w2 hw2=>?_⟩,⟨hE,hos.1,hos.2.1,hos.2.2,by omega,rfl,fun g hg _ _=>hblk g hg,hown,fun g j hs=> .inl hs,fun t ht=> .inr ⟨ht,rfl⟩⟩,?_⟩
 ·show(h.b++[b0]).length=C.nb+1
  rw[Za,hI.nb];rfl
 ·rw[Zaf]at hib;split at hib
  ·next hi=>
   have hi':i<C.nb:=by rw[←hI.nb];exact hi
   exact(hI.box i b hib).ext hE hi' (hI.ownk i hi') (fun g j hg=>(hI.ownlt g j hg).2.1) (fun g hg=>hblk g (hI.ownlt g i hg).2.1) (fun g=>hown' g i hi') (by omega)
  ·next hi=>
   have hk:i-h.b.length=0:=by
    rcases Nat.eq_zero_or_pos (i-h.b.length)with e|e
    ·exact e
    ·rw[YJ (by simp only[Zh,Zy];omega)]at hib;cases hib
   rw[hk]at hib;simp only[ZM,Zb]at hib;subst hib;have hi':i=C.nb:=by have:=hI.nb;omega
   have hκ:C'.κ i=C.w.heap.size:=by show(if i=C.nb then C.w.heap.size else C.κ i)=_;rw[if_pos hi']
   refine hrep C' i hE hκ (by rw[hκ];show(if C.w.heap.size=C.w.heap.size then some C.nb else _)=_;rw[if_pos rfl,hi']) ?_;show(w.alloc ob).heap[if i=C.nb then C.w.heap.size else C.κ i]?=_
   rw[if_pos hi',←hh];exact heap_alloc_new w _
 ·show(if(if i=C.nb then C.w.heap.size else C.κ i)=C.w.heap.size then some C.nb else C.own (if i=C.nb then C.w.heap.size else C.κ i))=some i
  by_cases hi':i=C.nb
  ·rw[if_pos hi',if_pos rfl,hi']
  ·have hi2:i<C.nb:=by have:i<C.nb+1:=hi;omega
   have:=(hI.ownlt _ _ (hI.ownk i hi2)).2.1;rw[if_neg hi',if_neg (by omega)];exact hI.ownk i hi2
 ·have hg':(if g=C.w.heap.size then some C.nb else C.own g)=some i:=hg;split at hg'
  ·next e=>
   injection hg' with hg';exact⟨by show i<C.nb+1;omega,by omega,by rw[e];exact hI.base⟩
  ·obtain⟨k1,k2,k3⟩:=hI.ownlt g i hg';exact⟨by show i<C.nb+1;omega,by omega,k3⟩
 ·obtain⟨k1,k2,k3⟩:=hI.prot g j hs;exact⟨by omega,(hown g k1).trans k2,k3⟩
 ·obtain⟨k1,k2,cap,k3,k4⟩:=hI.rows t E W m ht;exact⟨(hown _ k3.lt).trans k1,k2,cap,k3.same (hblk _ k3.lt),k4⟩
 ·show C.base≤C'.w.heap.size
  have:=hI.base;omega
 ·exact hI.glob w2 fun g hg=>(hw2 g hg).trans (hblk g (ZK hg hI.base))
 ·refine⟨?_,by show h.b.length<C.nb+1;have:=hI.nb;omega⟩;show(if h.b.length=C.nb then C.w.heap.size else C.κ h.b.length)=_
  rw[if_pos hI.nb]
theorem cjk{t:TypeId}(hI:Inv G C h)(hop:o.op=.makeMap t none):OpOk P G C a o (.mp h.b.length) ⟨h.b++[.map [] 0],h.t⟩:=by
 obtain⟨C',h1,h2,h3,h4,h5⟩:=bye (w:=C.w) (ob:=.map #[] 0) (b0:=.map [] 0) (.inl rfl) hI (fun C' i hE _ _ hh=>⟨#[],hh,rfl,by simp[BornOk],by simp⟩);refine⟨C',.map (some C.w.heap.size),.inl ?_,h2,h3,rep_mp.2 ⟨by rw[h4],h5⟩⟩;rw[h1];unfold execOp;simp[hop,Instr.makeMap]
theorem bw9{t q e:TypeId}{z:A}(hu:P.underlying t=some (.map q e))(hz:zeroOf P t=some z):∃zv,(∀w,(zeroValue e).run P w=.ok zv w)∧∀C,Rep C z zv:=by
 unfold zeroOf at hz;rw[hu]at hz;simp only[Ze]at hz;obtain⟨i,h1,zv,h2,h3⟩:=hz;exact⟨zv,fun w=>by simp[zeroValue,typeInfo,h1,h2],fun C=>bqt h3⟩
theorem ck8{t:TypeId}{m k:Operand}{ok:Bool}{z u v r:A}(hI:Inv G C h)(hop:o.op=.lookup t m k ok)(hm:mapB P t=true)(hz:zeroOf P t=some z)(hx:Rep C u (a.eval m))(hy:Rep C v (a.eval k))(hg:mgetA h z ok u v=some r):OpOk P G C a o r h:=by
 obtain⟨q,e,kk,hu,hq⟩:=bzw hm;obtain⟨zv,hz1,hz2⟩:=bw9 hu hz;have fin:∀(x:A) (xv:Value) (b:Bool),Rep C x xv→r=(if ok then .tup [x,.bool b]else x)→(Instr.lookup t (a.eval m) (a.eval k) ok).run P C.w=.ok (if ok then .tuple #[xv,.bool b]else xv) C.w→OpOk P G C a o r h:=fun x xv b h1 h2 h3=>by
  subst h2;refine azt (cv:=if ok then .tuple #[xv,.bool b]else xv) hI ?_ ?_
  ·unfold execOp;simp only[hop,Sem.run_bind,h3,Result.andThen_ok];rfl
  ·cases ok
   ·exact h1
   ·exact rep_tup.2 ⟨[xv,.bool b],rfl,repL_cons.2 ⟨_,_,rfl,h1,repL_cons.2 ⟨_,_,rfl,aqn.2 rfl,repL_nil.2 rfl⟩⟩⟩
 have hck:∀b n,(Instr.checkKey b 10000 q (.int .i64 n)).run P C.w=.ok () C.w:=fun b n=>run_checkKey C.w b 9999 n hq
 unfold mgetA at hg;split at hg
 ·next n=>
  rw[axt]at hx;rw[rep_int]at hy;simp only[Zb,mgetV,Yo,Zae]at hg;refine fin z zv false (hz2 C) hg.symm ?_;rw[hx,hy];have hf:=run_findKey (P:=P) C.w n [] none hq rfl;simp[Instr.lookup,run_underlying hu,hck,hf,hz1,Result.andThen]
 ·next i n=>
  obtain⟨hx,hi⟩:=rep_mp.1 hx;rw[rep_int]at hy;split at hg
  ·next es c hb=>
   obtain⟨es',k1,k2,k3⟩:=hI.box i _ hb;simp only[Zb]at hg;rcases bqd (k:=kk) n es es'.toList 0 k2 with⟨e1,e2⟩|⟨x,j,en,e1,e2,e3,e4,e5,e6,e7⟩
   ·rw[e1]at hg;simp only[mgetV,Yo,Zae]at hg;refine fin z zv false (hz2 C) hg.symm ?_;rw[hx,hy];have hf:=run_findKey (P:=P) C.w n es'.toList none hq e2;simp[Instr.lookup,run_underlying hu,aqd k1,hck,hf,hz1,Result.andThen]
   ·rw[e1]at hg;simp only[mgetV,ZZ,Zaj]at hg;refine fin x en.val true e5 hg.symm ?_;rw[hx,hy];have hf:=run_findKey (P:=P) C.w n es'.toList _ hq e2;simp[Instr.lookup,run_underlying hu,aqd k1,hck,hf,Result.andThen]
  ·cases hg
 ·cases hg
theorem ckz{t:TypeId}{c:Call}{m:Operand}{u r:A}{T:TypeId}{e q:TypeId}(hI:Inv G C h)(hop:o.op=.call c)(hcal:c.callee=.builtin .len)(ha:c.args=#[m])(hty:c.argTypes=#[T])(hu:P.underlying T=some (.map q e))(hx:Rep C u (a.eval m))(hg:mlenA h u=some r):OpOk P G C a o r h:=by
 have key:∃n:Nat,r=.int .i64 n∧(Builtin.len_ #[T] o.type #[a.eval m]).run P C.w=.ok (.int .i64 n) C.w:=by
  unfold mlenA at hg;split at hg
  ·rw[axt]at hx;simp only[Zb]at hg;refine⟨0,hg.symm,?_⟩;rw[hx];simp[Builtin.len_,run_underlying hu,goInt]
  ·next i=>
   obtain⟨hx,hi⟩:=rep_mp.1 hx;split at hg
   ·next es c hb=>
    obtain⟨es',k1,k2,k3⟩:=hI.box i _ hb;simp only[Zb]at hg;have hl:es'.size=es.length:=by
     have:∀(l:List (Int×A)) (es:List MapEntry),RepEs C l es→es.length=l.length:=by
      intro l;induction l with
      |nil=>intro es h;have:es=[]:=h;simp[this]
      |cons x l ih=>
       intro es h;obtain⟨e,es',rfl,_,_,h4⟩:=h;simp[ih _ h4]
     simpa using this _ _ k2
    refine⟨es.length,hg.symm,?_⟩;rw[hx];simp[Builtin.len_,run_underlying hu,aqd k1,hl,goInt]
   ·cases hg
  ·cases hg
 obtain⟨n,rfl,h1⟩:=key;refine azt hI ?_ (rep_int.2 rfl);unfold execOp;simp[hop,resolve,hcal,ha,hty,invoke,builtin,h1]
theorem ay6{i:Nat}{l l':List (Int×A)}{c c':Nat}{es:Array MapEntry}(es':Array MapEntry)(hI:Inv G C h)(hb:h.b[i]?=some (.map l c))(h1:C.w.heap[C.κ i]?=some (.map es c))
  (h2:RepEs C l' es'.toList) (h3:BornOk es'.toList c'):∃C':Ctx,C'.w={ C.w with heap:=C.w.heap.setIfInBounds (C.κ i) (.map es' c') }∧Inv G C' ⟨h.b.set i (.map l' c'),h.t⟩∧Step C C':=by
 have hi:i<C.nb:=by rw[←hI.nb];exact(Zd.1 hb).1
 have hk:C.κ i<C.w.heap.size:=(Z0.1 h1).1
 obtain⟨k1,k2⟩:=aq8 (w':={ C.w with heap:=C.w.heap.setIfInBounds (C.κ i) (.map es' c') }) (i:=i) (b':=.map l' c') false hI hi rfl rfl rfl (by simp) (fun g hg ho=>by
   have hne:C.κ i≠g:=fun e=>ho (by rw[←e];exact hI.ownk i hi)
   show(C.w.heap.setIfInBounds (C.κ i) (.map es' c'))[g]?=_
   rw[Array.getElem?_setIfInBounds_ne hne]) (fun hS=>by
   refine⟨es',?_,h2.ext hS.ext,h3⟩;show(C.w.heap.setIfInBounds (C.κ i) (.map es' c'))[C.κ i]?=_
   rw[Array.getElem?_setIfInBounds_self_of_lt hk])
 exact⟨_,rfl,k1,k2⟩
theorem bz4{es:List MapEntry}{c:Nat}(hb:BornOk es c)(j:Nat)(f:MapEntry→MapEntry)(hf:∀e,(f e).born=e.born):BornOk (es.modify j f) c:=by
 have e:(es.modify j f).map (·.born)=es.map (·.born):=by
  have key:∀(l:List MapEntry) (j:Nat),(l.modify j f).map (·.born)=l.map (·.born):=by
   intro l;induction l with
   |nil=>intro j;cases j<;>simp
   |cons x l ih=>intro j;cases j<;>simp[ih,hf]
  exact key es j
 refine⟨by rw[e];exact hb.1,fun x hx=>?_⟩;have:x.born∈(es.modify j f).map (·.born):=Y7.2 ⟨x,hx,rfl⟩;rw[e]at this;obtain⟨y,hy,e2⟩:=Y7.1 this;rw[←e2];exact hb.2 y hy
theorem bx3{es:List MapEntry}{c:Nat}(hb:BornOk es c)(j:Nat):BornOk (es.eraseIdx j) c:=
 ⟨hb.1.sublist ((List.eraseIdx_sublist es j).map _),fun x hx=>hb.2 x (List.mem_of_mem_eraseIdx hx)⟩
theorem bji{es:List MapEntry}{c:Nat}(hb:BornOk es c)(k v:Value):BornOk (es++[{ key:=k,val:=v,born:=c }]) (c+1):=by
 refine⟨?_,fun x hx=>?_⟩
 ·rw[Zam,List.nodup_append];refine⟨hb.1,by simp,fun a ha b hb'=>?_⟩;simp at hb';obtain⟨y,hy,rfl⟩:=Y7.1 ha;have:=hb.2 y hy;omega
 ·rcases Yz.1 hx with hx|hx
  ·exact Nat.lt_succ_of_lt (hb.2 x hx)
  ·simp at hx;subst hx;exact Nat.lt_succ_self _
theorem bxq(w:World)(n:Int):(Instr.keyThatStays (.int .i64 n) (.int .i64 n)).run P w=.ok (.int .i64 n) w:=by
 simp[Instr.keyThatStays,Instr.sameBits]
theorem ayr(es:Array MapEntry)(j:Nat)(f:MapEntry→MapEntry):(es.modify j f).toList=es.toList.modify j f:=by simp
theorem ck7{t:TypeId}{m k x:Operand}{u v y:A}{h':Hp}(hI:Inv G C h)(hop:o.op=.mapUpdate t m k x)(hm:mapB P t=true)(hx:Rep C u (a.eval m))(hy:Rep C v (a.eval k))(hv:Rep C y (a.eval x))(hg:msetA h y u v=some h'):OpOk P G C a o (.tup []) h':=by
 obtain⟨q,e,kk,hu,hq⟩:=bzw hm;have hck:∀b n,(Instr.checkKey b 10000 q (.int .i64 n)).run P C.w=.ok () C.w:=fun b n=>run_checkKey C.w b 9999 n hq
 unfold msetA at hg;split at hg
 ·next i n=>
  obtain⟨hx,hi⟩:=rep_mp.1 hx;rw[rep_int]at hy;split at hg
  ·next es c hb=>
   obtain⟨es',k1,k2,k3⟩:=hI.box i _ hb;simp only[Zb]at hg;subst hg;have fin:∀(es2:Array MapEntry) (c2:Nat),c2=mclock n es c→RepEs C (mput n y es) es2.toList→BornOk es2.toList c2→(Instr.mapUpdate t (a.eval m) (a.eval k) (a.eval x)).run P C.w=.ok () { C.w with heap:=C.w.heap.setIfInBounds (C.κ i) (.map es2 c2) }→OpOk P G C a o (.tup []) ⟨h.b.set i (.map (mput n y es) (mclock n es c)),h.t⟩:=fun es2 c2 hc2 q1 q2 q3=>by
    subst hc2;obtain⟨C',r1,r2,r3⟩:=ay6 es2 hI hb k1 q1 q2;refine⟨C',undef,.inr ⟨?_,rfl⟩,r2,r3,rep_tup.2 ⟨[],rfl,repL_nil.2 rfl⟩⟩;rw[r1];unfold execOp;simp only[hop,Sem.run_bind,q3,Result.andThen_ok,Sem.run_pure]
   rw[hx,hy]at fin;rcases bqd (k:=kk) n es es'.toList 0 k2 with⟨e1,e2⟩|⟨z,j,en,e1,e2,e3,e4,e5,e6,e7⟩
   ·have hf:=run_findKey (P:=P) C.w n es'.toList none hq e2;refine fin (es'.push { key:=.int .i64 n,val:=a.eval x,born:=c }) (c+1) (by unfold mclock;rw[e1];rfl) ?_ ?_ ?_
    ·rw[Array.toList_push];exact cke n es es'.toList y _ c k2 e1 hv
    ·rw[Array.toList_push];exact bji k3 _ _
    ·simp[Instr.mapUpdate,run_underlying hu,aqd k1,hck,hf,MapKept.run_setObj_map _ k1,Result.andThen]
   ·have hf:=run_findKey (P:=P) C.w n es'.toList _ hq e2;have hj:es'[j]?=some en:=by simpa using e3
    have hks:=bxq (P:=P) C.w n;rw[YD]at hf;refine fin (es'.modify j fun e=>{ e with key:=.int .i64 n,val:=a.eval x }) c (by unfold mclock;rw[e1];rfl) ?_ ?_ ?_
    ·rw[ayr];exact e6 y _ hv
    ·rw[ayr];exact bz4 k3 j _ fun _=>rfl
    ·simp[Instr.mapUpdate,run_underlying hu,aqd k1,hck,hf,hj,e4,hks,MapKept.run_setObj_map _ k1,Result.andThen]
  ·cases hg
 ·cases hg
theorem cyl{c:Call}{m k:Operand}{u v:A}{h':Hp}{T:TypeId}{Ts:List TypeId}(hI:Inv G C h)(hop:o.op=.call c)(hcal:c.callee=.builtin .delete)(ha:c.args=#[m,k])(hty:c.argTypes.toList=T::Ts)(hm:mapB P T=true)(hx:Rep C u (a.eval m))(hy:Rep C v (a.eval k))(hg:mdelA h u v=some h'):OpOk P G C a o (.tup []) h':=by
 obtain⟨q,e,kk,hu,hq⟩:=bzw hm;have hck:∀b n,(Instr.checkKey b 10000 q (.int .i64 n)).run P C.w=.ok () C.w:=fun b n=>run_checkKey C.w b 9999 n hq
 have hT:c.argTypes[0]?=some T:=by rw[←Array.getElem?_toList,hty];rfl
 unfold mdelA at hg;split at hg
 ·next i n=>
  obtain⟨hx,hi⟩:=rep_mp.1 hx;rw[rep_int]at hy;split at hg
  ·next es c0 hb=>
   obtain⟨es',k1,k2,k3⟩:=hI.box i _ hb;simp only[Zb]at hg;subst hg;have fin:∀(es2:Array MapEntry),RepEs C (merase n es) es2.toList→BornOk es2.toList c0→(Builtin.delete_ c.argTypes o.type #[a.eval m,a.eval k]).run P C.w=.ok (.tuple #[]) { C.w with heap:=C.w.heap.setIfInBounds (C.κ i) (.map es2 c0) }→OpOk P G C a o (.tup []) ⟨h.b.set i (.map (merase n es) c0),h.t⟩:=fun es2 q1 q2 q3=>by
    obtain⟨C',r1,r2,r3⟩:=ay6 es2 hI hb k1 q1 q2;refine⟨C',.tuple #[],.inl ?_,r2,r3,rep_tup.2 ⟨[],rfl,repL_nil.2 rfl⟩⟩;rw[r1];unfold execOp;simp[hop,resolve,hcal,ha,invoke,builtin,q3]
   rw[hx,hy]at fin;rcases bqd (k:=kk) n es es'.toList 0 k2 with⟨e1,e2⟩|⟨z,j,en,e1,e2,e3,e4,e5,e6,e7⟩
   ·have hf:=run_findKey (P:=P) C.w n es'.toList none hq e2;have he:merase n es=es:=by
     have key:∀l:List (Int×A),mfind n l=none→merase n l=l:=by
      intro l;induction l with
      |nil=>intro _;rfl
      |cons p l ih=>
       intro hp;obtain⟨k,w⟩:=p;have hne:n≠k:=by intro e;simp[mfind,e]at hp
       simp only[mfind,if_neg hne]at hp;simp only[merase,if_neg hne,ih hp]
     exact key es e1
    refine fin es' (by rw[he];exact k2) k3 ?_;simp[Builtin.delete_,hT,run_underlying hu,aqd k1,hck,hf,MapKept.run_setObj_map _ k1,Result.andThen]
   ·have hf:=run_findKey (P:=P) C.w n es'.toList _ hq e2;rw[YD]at hf;refine fin (es'.eraseIdxIfInBounds j) ?_ ?_ ?_
    ·rw[Array.toList_eraseIdxIfInBounds];exact e7
    ·rw[Array.toList_eraseIdxIfInBounds];exact bx3 k3 j
    ·simp[Builtin.delete_,hT,run_underlying hu,aqd k1,hck,hf,MapKept.run_setObj_map _ k1,Result.andThen]
  ·cases hg
 ·cases hg
theorem cwd{c:Call}{m:Operand}{u:A}{h':Hp}{T:TypeId}{Ts:List TypeId}(hI:Inv G C h)(hop:o.op=.call c)(hcal:c.callee=.builtin .clear)(ha:c.args=#[m])(hty:c.argTypes.toList=T::Ts)(hm:mapB P T=true)(hx:Rep C u (a.eval m))(hg:mclrA h u=some h'):OpOk P G C a o (.tup []) h':=by
 obtain⟨q,e,kk,hu,hq⟩:=bzw hm;have hT:c.argTypes[0]?=some T:=by rw[←Array.getElem?_toList,hty];rfl
 unfold mclrA at hg;split at hg
 ·next i=>
  obtain⟨hx,hi⟩:=rep_mp.1 hx;split at hg
  ·next es c0 hb=>
   obtain⟨es',k1,k2,k3⟩:=hI.box i _ hb;simp only[Zb]at hg;subst hg;obtain⟨C',r1,r2,r3⟩:=ay6 (l':=[]) (c':=c0) #[] hI hb k1 rfl ⟨by simp,by simp⟩;refine⟨C',.tuple #[],.inl ?_,r2,r3,rep_tup.2 ⟨[],rfl,repL_nil.2 rfl⟩⟩;rw[r1];unfold execOp;simp[hop,resolve,hcal,ha,invoke,builtin,Builtin.clear_,hT,hx,run_underlying hu,aqd k1,MapKept.run_setObj_map _ k1]
  ·cases hg
 ·cases hg
end
end AX
end
section
open Go.RowKit
namespace AX
section
variable {P:Program} {G:World→Prop} {C:Ctx} {a:Act} {o:Oper} {h:Hp} {ts:Nat→A} {n:Nat}
theorem aqq{α:Type}{xs:Array α}{l:List α}(h:xs.toList=l):xs=l.toArray:=Yi.1 (by simp[h])
theorem step_ok{ao:AOp}{v:A}{h':Hp}(hI:Inv G C h)(hT:RepT C ts n a)(hc:compOp P n o=some ao)(hs:astep (evX ts) h ao=some (v,h')):OpOk P G C a o v h':=by
 unfold compOp at hc;split at hc
 ·next x hop=>
  simp only[Ze,Zb]at hc;obtain⟨y,h1,rfl⟩:=hc;simp only[astep,Zb,Zp]at hs;obtain⟨rfl,rfl⟩:=hs;exact dzg hI (.inl hop) (azh hT h1)
 ·next x hop=>
  simp only[Ze,Zb]at hc;obtain⟨y,h1,rfl⟩:=hc;simp only[astep,Zb,Zp]at hs;obtain⟨rfl,rfl⟩:=hs;exact dzg hI (.inr hop) (azh hT h1)
 ·next c x y hop=>
  simp only[Ze,Zb]at hc;obtain⟨c',h1,x',h2,y',h3,rfl⟩:=hc;simp only[astep]at hs;split at hs
  ·next b hb=>
   simp only[Zb,Zp]at hs;obtain⟨rfl,rfl⟩:=hs;exact cww hI hop (by rw[←hb];exact azh hT h1) (azh hT h2) (azh hT h3)
  ·cases hs
 ·next T hop=>
  simp only[Ze,Zb]at hc;obtain⟨i,h1,z,h2,l,h3,rfl⟩:=hc;simp only[astep,Zb,Zp]at hs;obtain⟨rfl,rfl⟩:=hs;exact cvv hI hop h1 h2 h3
 ·next T x hop=>
  simp only[Ze,Zb]at hc;obtain⟨y,h1,rfl⟩:=hc;simp only[astep,Zb,Zp]at hs;obtain⟨rfl,rfl⟩:=hs;exact dzw hI hop (azh hT h1)
 ·next t parts hop=>
  split at hc
  ·next fs ht=>
   split at hc
   ·next hall=>
    simp only[Ze,Zb]at hc;obtain⟨i,h1,z,h2,l,h3,ps,h4,rfl⟩:=hc;simp only[astep,Zu,Zp]at hs;obtain⟨r,h5,rfl,rfl⟩:=hs;exact cx0 hI hT hop ht hall h1 h2 h3 h4 h5
   ·cases hc
  ·cases hc
 ·next t len parts hop=>
  split at hc
  ·next E ht=>
   simp only[Ze,Zw,Zb]at hc;obtain⟨i,h1,z,h2,⟨h3,h4,h5,h6,h7⟩,ps,h8,hc⟩:=hc;split at hc
   ·injection hc with hc;subst hc;simp only[astep,Zu,Zp]at hs;obtain⟨r,h9,rfl,rfl⟩:=hs;exact dzx hI hT hop ht h1 h2 h3 h4 h5 h6 h7 h8 h9
   ·injection hc with hc;subst hc;simp only[astep,Zu,Zp]at hs;obtain⟨r,h9,rfl,rfl⟩:=hs;exact cy1 hI hT hop ht h1 h2 h3 h4 h5 h6 h7 h8 h9
  ·cases hc
 ·next t p hop=>
  simp only[Ze,Zw,Zb]at hc;obtain⟨d,h1,i,h2,y,h3,h4,rfl⟩:=hc;simp only[astep,Zu,Zp]at hs;obtain⟨r,h5,rfl,rfl⟩:=hs;exact cw9 hI hop h1 h2 h4 (azh hT h3) h5
 ·next t p x hop=>
  simp only[Ze,Zb]at hc;obtain⟨i,h1,y,h2,z,h3,rfl⟩:=hc;simp only[astep,Zu,Zp]at hs;obtain⟨r,h5,rfl,rfl⟩:=hs;exact cvs hI hop h1 (azh hT h2) (azh hT h3) h5
 ·next x hop=>
  simp only[Ze,Zb]at hc;obtain⟨y,h1,rfl⟩:=hc;simp only[astep]at hs;have hx:=azh hT h1;split at hs
  ·next i p e=>
   simp only[Zb,Zp]at hs;obtain⟨rfl,rfl⟩:=hs;rw[e]at hx;exact bkn hI hop hx (.inl ⟨_,_,rfl⟩)
  ·next l e=>
   simp only[Zb,Zp]at hs;obtain⟨rfl,rfl⟩:=hs;rw[e]at hx;exact bkn hI hop hx (.inr ⟨_,rfl⟩)
  ·cases hs
 ·next op t x y yt hop=>
  split at hc
  ·simp only[Ze,Zb]at hc;obtain⟨x',h1,y',h2,rfl⟩:=hc;simp only[astep,Zu,Zp]at hs;obtain⟨r,h5,rfl,rfl⟩:=hs;exact ckh hI hop (azh hT h1) (azh hT h2) h5
  ·simp only[Ze,Zb]at hc;obtain⟨x',h1,y',h2,rfl⟩:=hc;simp only[astep,Zu,Zp]at hs;obtain⟨r,h5,rfl,rfl⟩:=hs;exact ckh hI hop (azh hT h1) (azh hT h2) h5
  ·next ht=>
   split at hc
   ·next hq=>
    simp only[Ze,Zb]at hc;obtain⟨x',h1,y',h2,rfl⟩:=hc;simp only[astep,Zu,Zp]at hs;obtain⟨r,h5,rfl,rfl⟩:=hs;exact ok_eq hI hop hq (azh hT h1) (azh hT h2) (.inl ⟨rfl,ht⟩) h5
   ·cases hc
  ·next e ht=>
   split at hc
   ·next hq=>
    simp only[Ze,Zb]at hc;obtain⟨x',h1,y',h2,rfl⟩:=hc;simp only[astep,Zu,Zp]at hs;obtain⟨r,h5,rfl,rfl⟩:=hs;exact ok_eq hI hop hq (azh hT h1) (azh hT h2) (.inr (.inl ⟨rfl,e,ht⟩)) h5
   ·cases hc
  ·next q e ht=>
   split at hc
   ·next hq=>
    simp only[Ze,Zb]at hc;obtain⟨x',h1,y',h2,rfl⟩:=hc;simp only[astep,Zu,Zp]at hs;obtain⟨r,h5,rfl,rfl⟩:=hs;exact ok_eq hI hop hq (azh hT h1) (azh hT h2) (.inr (.inr (.inl ⟨rfl,q,e,ht⟩))) h5
   ·cases hc
  ·next fs ht=>
   split at hc
   ·next hq=>
    simp only[Ze,Zb]at hc;obtain⟨ks,h0,x',h1,y',h2,rfl⟩:=hc;simp only[astep,Zu,Zp]at hs;obtain⟨r,h5,rfl,rfl⟩:=hs;exact ok_eq hI hop hq.1 (azh hT h1) (azh hT h2) (.inr (.inr (.inr ⟨rfl,fs,ht,hq.2.1,hq.2.2,h0⟩))) h5
   ·cases hc
  ·cases hc
 ·next op t x hop=>
  simp only[Ze,Zb]at hc;obtain⟨y,h1,rfl⟩:=hc;simp only[astep,Zu,Zp]at hs;obtain⟨r,h5,rfl,rfl⟩:=hs;exact dqf hI hop (azh hT h1) h5
 ·next src dst x hop=>
  split at hc
  ·next k0 k hsrc hdst=>
   simp only[Ze,Zb]at hc;obtain⟨y,h1,rfl⟩:=hc;have hx:=azh hT h1;simp only[astep]at hs;split at hs
   ·next j m e=>
    simp only[Zb,Zp]at hs;obtain⟨rfl,rfl⟩:=hs;rw[e]at hx;exact cks hI hop hsrc hdst hx
   ·cases hs
  ·cases hc
 ·next f first caps hop=>
  split at hc
  ·next hb=>
   split at hc
   ·next hf=>
    simp only[Ze,Zb]at hc;obtain⟨l,h1,rfl⟩:=hc;simp only[astep,Zb,Zp]at hs;obtain⟨rfl,rfl⟩:=hs;exact cwy hI hop hb (aqq (by simpa using hf)) (ajd hT h1)
   ·split at hc
    ·next hf=>
     simp only[Ze,Zb]at hc;obtain⟨l,h1,rfl⟩:=hc;simp only[astep,Zb,Zp]at hs;obtain⟨rfl,rfl⟩:=hs;exact cwg hI hop hb (aqq (by simpa using hf)) (ajd hT h1)
    ·cases hc
  ·cases hc
 ·next t x lo hi mx hop=>
  split at hc
  ·next ht=>
   simp only[Ze,Zb]at hc;obtain⟨y,h1,l,h2,k,h3,rfl⟩:=hc;simp only[astep,Zu,Zp]at hs;obtain⟨r,h5,rfl,rfl⟩:=hs;exact cy2 hI hT hop ht (azh hT h1) h2 h3 h5
  ·next e ht=>
   simp only[Ze,Zb]at hc;obtain⟨ie,h0,y,h1,l,h2,k,h3,rfl⟩:=hc;simp only[astep,Zu,Zp]at hs;obtain⟨r,h5,rfl,rfl⟩:=hs;exact cwv hI hT hop ht h0 (azh hT h1) h2 h3 h5
  ·cases hc
 ·next s x j hop=>
  split at hc
  ·next fs hsx=>
   simp only[Ze,Zb,Zw]at hc;obtain⟨f,h1,i,h2,h3,y,h4,rfl⟩:=hc;have hx:=azh hT h4;simp only[astep]at hs;split at hs
   ·next b p e=>
    simp only[Zb,Zp]at hs;obtain⟨rfl,rfl⟩:=hs;exact bv5 hI hop hsx h1 h2 h3 hx (.inl ⟨b,p,e,rfl⟩)
   ·next l e=>
    simp only[Zw,Zb,Zp]at hs;obtain⟨_,rfl,rfl⟩:=hs;exact bv5 hI hop hsx h1 h2 h3 hx (.inr ⟨l,e,rfl⟩)
   ·cases hs
  ·cases hc
 ·next t x i hop=>
  split at hc
  ·next e ht=>
   simp only[Ze,Zb]at hc;obtain⟨ie,h1,y,h2,z,h3,rfl⟩:=hc;have hx:=azh hT h2;have hi:=azh hT h3;simp only[astep]at hs;split at hs
   ·next W' ow rows k m e1 e2=>
    simp only[Zw,Zb,Zp]at hs;obtain⟨⟨h4,h5,rfl⟩,rfl,rfl⟩:=hs;rw[e1]at hx;rw[e2]at hi;exact cjy hI hop ht h1 hx hi h4 h5
   ·next b W' m' k m e1 e2=>
    simp only[Zw,Zb,Zp]at hs;obtain⟨⟨h4,h5,rfl⟩,rfl,rfl⟩:=hs;rw[e1]at hx;rw[e2]at hi;exact bw8 hI hop ht h1 hx hi h4 h5
   ·cases hs
  ·cases hc
 ·next t x i hop=>
  split at hc
  ·next ht=>
   simp only[Ze,Zb]at hc;obtain⟨y,h2,z,h3,rfl⟩:=hc;have hx:=azh hT h2;have hi:=azh hT h3;simp only[astep]at hs;split at hs
   ·next l k m e1 e2=>
    simp only[Zw,Zb,Zp]at hs;obtain⟨⟨h4,h5⟩,rfl,rfl⟩:=hs;rw[e1]at hx;rw[e2]at hi;exact cwj hI hop ht hx hi h4 h5
   ·cases hs
  ·cases hc
 ·next x i hop=>
  simp only[Ze,Zb]at hc;obtain⟨y,h1,rfl⟩:=hc;have hx:=azh hT h1;simp only[astep]at hs;split at hs
  ·next l e=>
   simp only[Zu,Zp]at hs;obtain⟨r,h5,rfl,rfl⟩:=hs;rw[e]at hx;exact bwo hI hop hx h5
  ·cases hs
 ·next t hop=>
  split at hc
  ·next hm=>
   simp only[Zb]at hc;subst hc;simp only[astep,Zb,Zp]at hs;obtain⟨rfl,rfl⟩:=hs;exact cjk hI hop
  ·cases hc
 ·next t m k ok hop=>
  split at hc
  ·next hm=>
   simp only[Ze,Zb]at hc;obtain⟨z,h0,x',h1,y',h2,rfl⟩:=hc;simp only[astep,Zu,Zp]at hs;obtain⟨r,h5,rfl,rfl⟩:=hs;exact ck8 hI hop hm h0 (azh hT h1) (azh hT h2) h5
  ·cases hc
 ·next t m k x hop=>
  split at hc
  ·next hm=>
   simp only[Ze,Zb]at hc;obtain⟨x',h1,y',h2,z',h3,rfl⟩:=hc;simp only[astep,Zu,Zp]at hs;obtain⟨r,h5,rfl,rfl⟩:=hs;exact ck7 hI hop hm (azh hT h1) (azh hT h2) (azh hT h3) h5
  ·cases hc
 ·next c hop=>
  unfold compCall at hc;split at hc
  ·simp only[Ze,Zb,Zw]at hc;obtain⟨_,l,h1,rfl⟩:=hc;simp[astep]at hs
  ·simp only[Ze,Zb,Zw]at hc;obtain⟨_,l,h1,rfl⟩:=hc;simp[astep]at hs
  ·next hcal=>
   split at hc
   ·next x T ha hTy=>
    split at hc
    ·next ht=>
     simp only[Ze,Zb]at hc;obtain⟨y,h1,rfl⟩:=hc;have hx:=azh hT h1;simp only[astep]at hs;split at hs
     ·next l _ e=>
      simp only[Zb,Zp]at hs;obtain⟨rfl,rfl⟩:=hs;exact byz hI hop hcal (aqq ha) (aqq hTy) hx (.inl ⟨ht,l,e,rfl⟩)
     ·next hf _=>cases hf
     ·next hf _=>cases hf
     ·cases hs
    ·next e' ht=>
     simp only[Ze,Zb]at hc;obtain⟨y,h1,rfl⟩:=hc;have hx:=azh hT h1;simp only[astep]at hs;split at hs
     ·next hf _=>cases hf
     ·next W ow rows _ e=>
      simp only[Zb,Zp]at hs;obtain⟨rfl,rfl⟩:=hs;exact byz hI hop hcal (aqq ha) (aqq hTy) hx (.inr (.inl ⟨e',ht,W,ow,rows,e,rfl⟩))
     ·next b W m _ e=>
      simp only[Zb,Zp]at hs;obtain⟨rfl,rfl⟩:=hs;exact byz hI hop hcal (aqq ha) (aqq hTy) hx (.inr (.inr ⟨e',ht,b,W,e⟩))
     ·cases hs
    ·next q e' ht=>
     simp only[Ze,Zb]at hc;obtain⟨y,h1,rfl⟩:=hc;simp only[astep,Zu,Zp]at hs;obtain⟨r,h5,rfl,rfl⟩:=hs;exact ckz (t:=T) hI hop hcal (aqq ha) (aqq hTy) ht (azh hT h1) h5
    ·cases hc
   ·cases hc
  ·next hcal=>
   split at hc
   ·next x y T T' ha hTy=>
    split at hc
    ·next hTT=>
     subst hTT;split at hc
     ·next E ht=>
      simp only[Ze,Zb,Zw]at hc;obtain⟨i,h1,z,h2,⟨h3,h4⟩,x',h5,y',h6,rfl⟩:=hc;simp only[astep]at hs;exact cyt hI hop hcal (aqq ha) (aqq hTy) ht h1 h2 h3 h4 (azh hT h5) (azh hT h6) hs
     ·cases hc
    ·cases hc
   ·cases hc
  ·next hcal=>
   split at hc
   ·next x y T Ts ha hTy=>
    split at hc
    ·next hm=>
     simp only[Ze,Zb]at hc;obtain⟨x',h1,y',h2,rfl⟩:=hc;simp only[astep,Zu,Zp]at hs;obtain⟨r,h5,rfl,rfl⟩:=hs;exact cyl hI hop hcal (aqq ha) hTy hm (azh hT h1) (azh hT h2) h5
    ·cases hc
   ·cases hc
  ·next hcal=>
   split at hc
   ·next x T Ts ha hTy=>
    split at hc
    ·next hm=>
     simp only[Ze,Zb]at hc;obtain⟨x',h1,rfl⟩:=hc;simp only[astep,Zu,Zp]at hs;obtain⟨r,h5,rfl,rfl⟩:=hs;exact cwd hI hop hcal (aqq ha) hTy hm (azh hT h1) h5
    ·cases hc
   ·cases hc
  ·next hcal=>
   split at hc
   ·next x y z ha=>
    simp only[Ze,Zb]at hc;obtain⟨x',h1,y',h2,z',h3,rfl⟩:=hc;have hx:=azh hT h1;have hy:=azh hT h2;have hz:=azh hT h3;simp only[astep]at hs;split at hs
    ·next k a' _ b' _ c' e1 e2 e3=>
     simp only[Zb,Zp]at hs;obtain⟨rfl,rfl⟩:=hs;rw[e1]at hx;rw[e2]at hy;rw[e3]at hz;exact cyc hI hop hcal (aqq ha) hx hy hz
    ·cases hs
   ·next x y ha=>
    simp only[Ze,Zb]at hc;obtain⟨x',h1,y',h2,rfl⟩:=hc;have hx:=azh hT h1;have hy:=azh hT h2;simp only[astep]at hs;split at hs
    ·next k a' _ b' e1 e2=>
     simp only[Zb,Zp]at hs;obtain⟨rfl,rfl⟩:=hs;rw[e1]at hx;rw[e2]at hy;exact cyw (mx:=true) hI hop hcal (aqq ha) hx hy
    ·cases hs
   ·cases hc
  ·next hcal=>
   split at hc
   ·next x y ha=>
    simp only[Ze,Zb]at hc;obtain⟨x',h1,y',h2,rfl⟩:=hc;have hx:=azh hT h1;have hy:=azh hT h2;simp only[astep]at hs;split at hs
    ·next k a' _ b' e1 e2=>
     simp only[Zb,Zp]at hs;obtain⟨rfl,rfl⟩:=hs;rw[e1]at hx;rw[e2]at hy;exact cyw (mx:=false) hI hop hcal (aqq ha) hx hy
    ·cases hs
   ·cases hc
  ·cases hc
 ·cases hc
end
end AX
end
section
open Go.RowKit
namespace AX
inductive AExit where
 |normal
 |exit (id:Nat)
 |ret
abbrev Ts:=Nat→A
def put(ts:Ts)(d:Option Nat)(v:A):Ts:=
 match d with
 |some d=>fun i=>if i=d then v else ts i
 |none=>ts
def condP:A→Prop→Prop→Prop
 |.bool t,p,q=>(t=true→p)∧(t=false→q)
 |_,_,_=>False
def guardP(ts:Ts):Option (Nat×Bool)→Prop→Prop→Prop
 |none,p,_=>p
 |some (t,b),p,q=>
  match ts t with
  |.bool c=>(c=b→p)∧(c=!b→q)
  |.tup []=>q
  |_=>False
def optP:Option (A×Hp)→(A→Hp→Prop)→Prop
 |some (v,h),K=>K v h
 |none,_=>False
def vF(f:FuncId):FuncId:=if f<bmk then f else f%bmk
def vA{α:Type}(f:FuncId)(as caps:List α):List α:=if f<bmk then as++caps else caps++as
def aopP(P:Program)(G:World→Prop)(ev:Opd→A)(h:Hp)(K:A→Hp→Prop):AOp→Prop
 |.call f args=>ACall P G f (args.map ev) h K
 |.callv x args=>∃f caps,ev x=.fn f caps∧callOk P (vF f)=true∧ACall P G (vF f) (vA f (args.map ev) caps) h K
 |op=>optP (astep ev h op) K
def aops(P:Program)(G:World→Prop):List AOper→(Ts→Hp→Prop)→Ts→Hp→Prop
 |[],K,ts,h=>K ts h
 |o::os,K,ts,h=>guardP ts o.guard (aopP P G (evX ts) h (fun v h'=>aops P G os K (put ts o.dst v) h') o.op) (aops P G os K (put ts o.dst (.tup [])) h)
section
variable {P:Program} {G:World→Prop} {C:Ctx} {a:Act} {o:Oper} {h:Hp} {ts:Ts} {n:Nat}
theorem RepT.ext{C':Ctx}(hT:RepT C ts n a)(he:Ext C C'):RepT C' ts n a:=⟨hT.size,fun i hi=>Rep.ext he _ _ (hT.rep i hi)⟩
theorem RepT.put{dst:Option Tmp}{v:A}{cv:Value}(hT:RepT C ts n a)(hd:compDst n dst=true)(hv:Rep C v cv):RepT C (put ts dst v) n (a.put dst cv):=by
 cases dst with
 |none=>exact hT
 |some d=>
  have hd':d<n:=by simpa [compDst]using hd
  refine⟨by simp[Act.put,hT.size],fun i hi=>?_⟩;show Rep C (if i=d then v else ts i) ((a.tmps.setIfInBounds d cv).getD i undef)
  by_cases e:i=d
  ·subst e;rw[if_pos rfl];simpa [hT.size,hd']using hv
  ·rw[if_neg e];have:=hT.rep i hi;rw[YF]at this⊢
   rwa [Array.getElem?_setIfInBounds_ne (fun h=>e h.symm)]
theorem put_defers{dst:Option Tmp}{v:Value}:(a.put dst v).defers=a.defers:=by cases dst<;>rfl
theorem avm{f:FuncId}(w:World)(args:Array Value)(hf:callOk P f=true):(callFunc f args).run P w=.ok (.enter f args) w:=by
 unfold callOk at hf;split at hf
 ·next fn hfn=>
  rw[Zc]at hf;obtain⟨h1,h2⟩:=hf;unfold callFunc
  have h3 : (fn.name == "runtime.NumGoroutine") = false := by simpa using h1
  have h4:fn.body.isNone=false:=by cases hb:fn.body<;>simp_all
  simp only[Sem.run_bind,run_program,Result.andThen_ok,hfn,h3,h4,Zi,if_false,Sem.run_pure]
 ·cases hf
def AOp.isCall:AOp→Bool
 |.call ..=>true
 |.callv ..=>true
 |_=>false
theorem bq4{r:AOp}(hc:compOp P n o=some r)(hr:r.isCall=true):∃c,o.op=.call c∧compCall P n c o.type=some r:=by
 unfold compOp at hc;split at hc
 case h_23 c hop=>exact⟨c,hop,hc⟩
 all_goals
  exfalso
  cases r<;>simp only[AOp.isCall,Zi]at hr
  all_goals
   revert hc
   repeat' split
   all_goals simp[Ze]
theorem bvz{ao:AOp}{K:A→Hp→Prop}{next:Act→World→Prop}{Q:Exit→Act→World→Prop}(hI:Inv G C h)(hT:RepT C ts n a)(hc:compOp P n o=some ao)(hk:aopP P G (evX ts) h K ao)
  (hn:∀(C':Ctx) (h':Hp) (v:A) (cv:Value),Inv G C' h'→Step C C'→Rep C' v cv→K v h'→next (a.put o.dst cv) C'.w):o.wp P a C.w next Q:=by
 have plain:optP (astep (evX ts) h ao) K→o.wp P a C.w next Q:=fun hk=>by
  cases hs:astep (evX ts) h ao with
  |none=>rw[hs]at hk;exact hk.elim
  |some r=>
   obtain⟨v,h'⟩:=r;rw[hs]at hk;obtain⟨C',cv,hr,h1,h2,h3⟩:=step_ok hI hT hc hs;unfold Oper.wp;rcases hr with hr|⟨hr,rfl⟩
   ·rw[hr];exact hn C' h' v cv h1 h2 h3 hk
   ·rw[hr];exact hn C' h' v undef h1 h2 h3 hk
 have called:∀(f:FuncId) (as:List A) (cs:List Value),RepL C as cs→ACall P G f as h K→(execOp a.eval o).run P C.w=.ok (.enter f cs.toArray) C.w→o.wp P a C.w next Q:=fun f as cs hl hcall hr=>by
  unfold Oper.wp;rw[hr,Oper.upon_enter];refine(hcall C cs hI hl).mono ?_;rintro e w' ⟨C',h',v,cv,rfl,rfl,h1,h2,h3,h4⟩;exact hn C' h' v cv h1 h2 h3 h4
 cases ao with
 |call f args=>
  obtain⟨c,hop,hcc⟩:=bq4 hc rfl;unfold compCall at hcc;split at hcc
  ·next g hcal=>
   simp only[Zw,Ze,Zb,AOp.call.injEq]at hcc;obtain⟨hok,l,h1,rfl,rfl⟩:=hcc;refine called g _ _ (ajd hT h1) hk ?_;unfold execOp;have e:c.args.map a.eval=(c.args.toList.map a.eval).toArray:=Yi.1 (by simp);simp only[hop,resolve,hcal,Deferred.ofValue,Act.eval,Sem.run_bind,Sem.run_pure,Result.andThen_ok,invoke,Array.append_empty,Array.empty_append,e];exact avm C.w _ hok
  ·simp only[Zw,Ze,Zb,reduceCtorEq,and_false,exists_false]at hcc
  ·exfalso
   revert hcc
   repeat' split
   all_goals simp[Ze]
  ·exfalso
   revert hcc
   repeat' split
   all_goals simp[Ze]
  ·exfalso
   revert hcc
   repeat' split
   all_goals simp[Ze]
  ·exfalso
   revert hcc
   repeat' split
   all_goals simp[Ze]
  ·exfalso
   revert hcc
   repeat' split
   all_goals simp[Ze]
  ·exfalso
   revert hcc
   repeat' split
   all_goals simp[Ze]
  ·cases hcc
 |callv x args=>
  obtain⟨f,caps,hx,hok,hk⟩:=hk;obtain⟨c,hop,hcc⟩:=bq4 hc rfl;unfold compCall at hcc;split at hcc
  ·simp only[Zw,Ze,Zb,reduceCtorEq,and_false,exists_false]at hcc
  ·next t hcal=>
   simp only[Zw,Ze,Zb,AOp.callv.injEq]at hcc;obtain⟨hlt,l,h1,rfl,rfl⟩:=hcc;have hf:Rep C (.fn f caps) (a.eval (.tmp t)):=by
    rw[←hx];exact hT.rep t hlt
   obtain⟨cs,hev,hcs⟩:=rep_fn.1 hf;by_cases hb:f<bmk
   ·unfold vF at hok hk;unfold vA at hk;unfold fnV at hev;rw[if_pos hb]at hok hev;rw[if_pos hb,if_pos hb]at hk;refine called f _ _ (azz (ajd hT h1) hcs) hk ?_;unfold execOp;have e:c.args.map a.eval=(c.args.toList.map a.eval).toArray:=Yi.1 (by simp);have e2:(c.args.toList.map a.eval).toArray++cs.toArray=(c.args.toList.map a.eval++cs).toArray:=Yi.1 (by simp);simp only[hop,resolve,hcal,Sem.run_bind,e];rw[hev];simp only[Deferred.ofValue,Sem.run_pure,Result.andThen_ok,invoke,Array.empty_append,e2];exact avm C.w _ hok
   ·unfold vF at hok hk;unfold vA at hk;unfold fnV at hev;rw[if_neg hb]at hok hev;rw[if_neg hb,if_neg hb]at hk;refine called (f%bmk) _ _ (azz hcs (ajd hT h1)) hk ?_;unfold execOp;have e:c.args.map a.eval=(c.args.toList.map a.eval).toArray:=Yi.1 (by simp);have e2:cs.toArray++(c.args.toList.map a.eval).toArray=(cs++c.args.toList.map a.eval).toArray:=Yi.1 (by simp);simp only[hop,resolve,hcal,Sem.run_bind,e];rw[hev];simp only[Deferred.ofValue,Sem.run_pure,Result.andThen_ok,invoke,Array.append_empty,e2];exact avm C.w _ hok
  ·exfalso
   revert hcc
   repeat' split
   all_goals simp[Ze]
  ·exfalso
   revert hcc
   repeat' split
   all_goals simp[Ze]
  ·exfalso
   revert hcc
   repeat' split
   all_goals simp[Ze]
  ·exfalso
   revert hcc
   repeat' split
   all_goals simp[Ze]
  ·exfalso
   revert hcc
   repeat' split
   all_goals simp[Ze]
  ·exfalso
   revert hcc
   repeat' split
   all_goals simp[Ze]
  ·cases hcc
 |_=>exact plain hk
theorem dzv{W E:Nat}{ps:List Opd}{t len:Nat}{parts:Array (Nat×Operand)}(h0:compOp P n o=some (.mks W ps))(hop:o.op=.buildSlice t len parts)(ht:P.underlying t=some (.slice E)):
  ∃it z,P.info? E=some it∧it.zero=some z∧z.cells.size=it.size∧0<it.size∧parts.toList.length=len∧0<len∧len*it.size≤1000∧compRow n 0 parts.toList=some ps∧W=it.size:=by
 unfold compOp at h0;rw[hop]at h0;simp only[ht,Ze,Zw]at h0;obtain⟨i,h1,z,h2,⟨h3,h4,h5,h6,h7⟩,ps',h8,h9⟩:=h0;split at h9
 ·cases h9
 ·injection h9 with h9;injection h9 with e1 e2;subst e1;subst e2;exact⟨i,z,h1,h2,h3,h4,h5,h6,h7,h8,rfl⟩
theorem czd{os:List Oper}{ao:AOp}{K:A→Hp→Prop}{next:Act→World→Prop}{Q:Exit→Act→World→Prop}(hI:Inv G C h)(hT:RepT C ts n a)(hc:compOp' P n os o=some ao)(hk:aopP P G (evX ts) h K ao)
  (hn:∀(C':Ctx) (h':Hp) (v:A) (cv:Value),Inv G C' h'→Step C C'→Rep C' v cv→K v h'→next (a.put o.dst cv) C'.w):o.wp P a C.w next Q:=by
 unfold compOp' at hc;split at hc
 ·next hlit=>
  rw[Zu]at hc;obtain⟨ao0,h0,rfl⟩:=hc;unfold litA at hk;split at hk
  ·next W ps=>
   split at hk
   ·next t len parts hop=>
    split at hk
    ·next E ht=>
     obtain⟨it,z,h1,h2,h3,h4,h5,h6,h7,h8,rfl⟩:=dzv h0 hop ht;simp only[aopP,astep]at hk;cases hr:rowsA (evX ts) it.size ps with
     |none=>rw[hr]at hk;exact hk.elim
     |some rows=>
      rw[hr]at hk;obtain⟨C',cv,hr',k1,k2,k3⟩:=cy0 (G:=G) hI hT hop ht h1 h2 h3 h4 h5 h6 h7 h8 hr;unfold Oper.wp;rcases hr' with hr'|⟨hr',rfl⟩
      ·rw[hr'];exact hn C' _ _ cv k1 k2 k3 hk
      ·rw[hr'];exact hn C' _ _ undef k1 k2 k3 hk
    ·exact bvz hI hT h0 hk hn
   ·exact bvz hI hT h0 hk hn
  ·exact bvz hI hT h0 hk hn
 ·exact bvz hI hT hc hk hn
end
end AX
end
section
open Go.RowKit
namespace AX
section
variable {P:Program} {G:World→Prop}
theorem azs{ts:Ts}{g:Option (Nat×Bool)}{p p' q q':Prop}(hp:p→p')(hq:q→q')(h:guardP ts g p q):guardP ts g p' q':=by
 unfold guardP at *;split at h
 ·exact hp h
 ·split at h
  ·exact⟨fun e=>hp (h.1 e),fun e=>hq (h.2 e)⟩
  ·exact hq h
  ·exact h.elim
theorem czr{r:Option (A×Hp)}{K K':A→Hp→Prop}(hk:∀v h,K v h→K' v h)(h:optP r K):optP r K':=by
 cases r with
 |none=>exact h
 |some r=>exact hk _ _ h
theorem axf{ev:Opd→A}{h:Hp}{K K':A→Hp→Prop}(hk:∀v h,K v h→K' v h){o:AOp}(hp:aopP P G ev h K o):aopP P G ev h K' o:=by
 cases o with
 |call f args=>exact ACall.mono hp hk
 |callv x args=>
  obtain⟨f,caps,h1,h2,h3⟩:=hp;exact⟨f,caps,h1,h2,ACall.mono h3 hk⟩
 |_=>simp only[aopP]at hp⊢;exact czr hk hp
end
def TD(ops:List AOper)(vals:Nat→A)(ts:Ts)(D:Nat→Bool):Ts:=fun x=>
 match ops.findIdx? (fun o=>o.dst==some x)with
 |some j=>if D j=true then vals j else ts x
 |none=>ts x
def Closed(ops:List AOper)(D:Nat→Bool):Prop:=∀j o,ops[j]?=some o→D j=true→∀k∈o.after,D k=true
def adraw(P:Program)(G:World→Prop)(ops:List AOper)(K:Ts→Hp→Prop)(ts:Ts)(h:Hp):Prop:=
 ∃I:(Nat→Bool)→Ts→Hp→Prop,I (fun _=>false) ts h ∧
  (∀D i o ts h,I D ts h→ops[i]?=some o→D i=false→Closed ops D→(∀j∈o.after,D j=true) →
   guardP ts o.guard (aopP P G (evX ts) h (fun v h'=>I (fun j=>j==i||D j) (put ts o.dst v) h') o.op) (I (fun j=>j==i||D j) (put ts o.dst (.tup [])) h)) ∧
  ∀ts h,I (fun j=>decide (j<ops.length)) ts h→K ts h
def edgesB:Nat→List AOper→Bool
 |_,[]=>true
 |i,o::os=>o.after.all (fun j=>decide (j<i))&&(match o.dst with|none=>true|some d=>os.all fun o'=>o'.dst !=some d)&&edgesB (i+1) os
inductive AExit.Is:AExit→Exit→Prop
 |normal:AExit.Is .normal .normal
 |exit (id:Nat):AExit.Is (.exit id) (.exit id)
 |ret:AExit.Is .ret .ret
def thenA(next:Ts→Hp→Prop)(Q:AExit→Ts→Hp→Prop):AExit→Ts→Hp→Prop
 |.normal=>next
 |e=>Q e
def blkA(id:Nat)(Q:AExit→Ts→Hp→Prop):AExit→Ts→Hp→Prop
 |.exit id'=>fun ts h=>if id'=id then Q .normal ts h else Q (.exit id') ts h
 |e=>Q e
def aloop(body:(AExit→Ts→Hp→Prop)→Ts→Hp→Prop)(Q:AExit→Ts→Hp→Prop):Nat→Ts→Hp→Prop
 |0=>fun _ _=>False
 |k+1=>body (thenA (aloop body Q k) Q)
def Post(G:World→Prop)(C0:Ctx)(n:Nat)(Q:AExit→Ts→Hp→Prop)(e:Exit)(a:Act)(w:World):Prop:=
 ∃(C:Ctx) (ts:Ts) (h:Hp) (ae:AExit),ae.Is e∧C.w=w∧Inv G C h∧Step C0 C∧RepT C ts n a∧a.defers=[]∧Q ae ts h
def awp(P:Program)(G:World→Prop):ACode→(AExit→Ts→Hp→Prop)→Ts→Hp→Prop
 |.skip,Q=>Q .normal
 |.reg false ops,Q=>aops P G ops (Q .normal)
 |.reg true ops,Q=>fun ts h=>edgesB 0 ops=true∧adraw P G ops (Q .normal) ts h
 |.seq x y,Q=>awp P G x (thenA (awp P G y Q) Q)
 |.cond c x y,Q=>fun ts h=>condP (evX ts c) (awp P G x Q ts h) (awp P G y Q ts h)
 |.block id c,Q=>awp P G c (blkA id Q)
 |.loop c,Q=>fun ts h=>∃k,aloop (awp P G c) Q k ts h
 |.exit id,Q=>Q (.exit id)
 |.ret,Q=>Q .ret
 |.prim n c,Q=>fun ts h=>∀(C:Ctx) (a:Act),Inv G C h→RepT C ts n a→a.defers=[]→c.wp P (Post G C n Q) a C.w
section
variable {P:Program} {G:World→Prop} {n:Nat} {C0:Ctx}
theorem awg{C:Ctx}{ts:Ts}{a:Act}{o:Oper}{ops:Array Oper}{g:Option (Nat×Bool)}{p q:Prop}(hT:RepT C ts n a)(hg:compGuard n ops o.guard=some g)(hp:guardP ts g p q):
  (Region.wanted o (yielded ops a.tmps)=true∧p)∨(Region.wanted o (yielded ops a.tmps)=false∧q):=by
 cases hog:o.guard with
 |none=>
  rw[hog]at hg;simp only[compGuard,Zb]at hg;subst hg;exact .inl ⟨by simp[Region.wanted,hog],hp⟩
 |some jb=>
  obtain⟨j,b⟩:=jb;rw[hog]at hg;simp only[compGuard,Ze,Zw,Zb]at hg;obtain⟨t,⟨oj,h1,h2⟩,h3,rfl⟩:=hg;have hr:=hT.rep t h3;have hlt:t<a.tmps.size:=by rw[hT.size];exact h3
  have hy:yielded ops a.tmps j=match a.tmps.getD t undef with|.bool b=>some b|_=>none:=by
   unfold yielded;rw[h1,YH,h2,YH];rw[Y0 hlt];rw[show a.tmps.getD t undef=a.tmps[t] by rw[YF,Y0 hlt];rfl];cases a.tmps[t]<;>rfl
  simp only[guardP]at hp;unfold Region.wanted;rw[hog];simp only[hy];split at hp
  ·next c e=>
   rw[e,aqn]at hr;rw[hr];by_cases hcb:c=b
   ·exact .inl ⟨by simp[hcb],hp.1 hcb⟩
   ·exact .inr ⟨by simp[hcb],hp.2 (by cases c<;>cases b<;>simp_all)⟩
  ·next e=>
   rw[e]at hr;obtain⟨cs,h4,h5⟩:=rep_tup.1 hr;rw[repL_nil]at h5;subst h5;rw[h4];exact .inr ⟨by simp,hp⟩
  ·exact hp.elim
theorem avc{C:Ctx}:Rep C (.tup []) undef:=rep_tup.2 ⟨[],rfl,repL_nil.2 rfl⟩
theorem aym{ops:Array Oper}{draw:Bool}{K:Ts→Hp→Prop}{Q:Exit→Act→World→Prop}(hK:∀(C:Ctx) (ts:Ts) (h:Hp) (a:Act),Inv G C h→Step C0 C→RepT C ts n a→a.defers=[]→K ts h→Q .normal a C.w):
  ∀(os:List Oper) (l:List AOper),compOpers P n draw ops os=some l→∀(C:Ctx) (ts:Ts) (h:Hp) (a:Act),Inv G C h→Step C0 C→RepT C ts n a→a.defers=[]→aops P G l K ts h→wpList P ops Q os a C.w
 |[],l,hc,C,ts,h,a,hI,hS,hT,hd,hk=>by
  simp only[compOpers,Zb]at hc;subst hc;exact hK C ts h a hI hS hT hd hk
 |o::os,l,hc,C,ts,h,a,hI,hS,hT,hd,hk=>by
  simp only[compOpers,Zw,Ze,Zb]at hc;obtain⟨hdst,ao,h1,g,h2,l',h3,rfl⟩:=hc;simp only[aops]at hk;have ih:=aym hK os l' h3;unfold wpList;rcases awg hT h2 hk with⟨hw,hk⟩|⟨hw,hk⟩
  ·rw[if_pos hw];refine .inl (czd hI hT h1 hk fun C' h' v cv k1 k2 k3 k4=>?_);exact ih C' _ h' _ k1 (hS.trans k2) ((hT.ext k2.ext).put hdst k3) (by rw[put_defers];exact hd) k4
  ·rw[if_neg (by simp[hw])];exact ih C _ h _ hI hS (hT.put hdst avc) (by rw[put_defers];exact hd) hk
theorem aqe:∀{ops:List AOper} {k:Nat},edgesB k ops=true→∀i o,ops[i]?=some o→∀j∈o.after,j<k+i
 |[],k,h,i,o,hi=>by simp at hi
 |x::ops,k,h,0,o,hi=>by
  simp only[edgesB,Zc,ZE,Zm]at h;simp at hi;subst hi;intro j hj;simpa using h.1.1 j hj
 |x::ops,k,h,i+1,o,hi=>by
  simp only[edgesB,Zc]at h;intro j hj;have:=aqe h.2 i o (by simpa using hi) j hj;omega
theorem ay2:∀{ops:List AOper} {k:Nat},edgesB k ops=true→∀(i:Nat) (o:AOper) (d:Nat),ops[i]?=some o→o.dst=some d→ops.findIdx? (fun o=>o.dst==some d)=some i
 |[],k,h,i,o,d,hi,hd=>by simp at hi
 |x::ops,k,h,0,o,d,hi,hd=>by
  simp at hi;subst hi;simp[List.findIdx?_cons,hd]
 |x::ops,k,h,i+1,o,d,hi,hd=>by
  simp only[edgesB,Zc]at h;have hi':ops[i]?=some o:=by simpa using hi
  have:=ay2 h.2 i o d hi' hd;rw[List.findIdx?_cons];have hx:(x.dst==some d)=false:=by
   cases hxd:x.dst with
   |none=>rfl
   |some e=>
    have h2:=h.1.2;rw[hxd]at h2;simp only[ZE,Y8,ne_eq]at h2;have:=h2 o (List.mem_of_getElem? hi');rw[hd]at this;simp only[Zb]at this;simp only[Zq,ne_eq,Zb];exact fun e'=>this e'.symm
  rw[hx,this];simp
theorem axu{draw:Bool}{ops:Array Oper}:∀{os:List Oper} {l:List AOper},compOpers P n draw ops os=some l→l.length=os.length∧∀(i:Nat) (o:Oper),os[i]?=some o→∃ao g,l[i]?=some ⟨o.dst,ao,g,if draw then afterOf o else[]⟩∧compDst n o.dst=true∧compOp' P n ops.toList o=some ao∧compGuard n ops o.guard=some g
 |[],l,hc=>by
  simp only[compOpers,Zb]at hc;subst hc;exact⟨rfl,fun i o hi=>by simp at hi⟩
 |x::os,l,hc=>by
  simp only[compOpers,Zw,Ze,Zb]at hc;obtain⟨hdst,ao,h1,g,h2,l',h3,rfl⟩:=hc;obtain⟨ih1,ih2⟩:=axu h3;refine⟨by simp[ih1],fun i o hi=>?_⟩;cases i with
  |zero=>
   simp at hi;subst hi;exact⟨ao,g,rfl,hdst,h1,h2⟩
  |succ i=>exact ih2 i o (by simpa using hi)
theorem afterOf_mem{o:Oper}{j:Nat}:j∈afterOf o↔∃e∈o.after,Region.binds .any e=true∧e.on=j:=by
 unfold afterOf;rw[List.mem_filterMap];constructor
 ·rintro⟨e,h1,h2⟩;split at h2
  ·next hb=>injection h2 with h2;exact⟨e,by simpa using h1,hb,h2⟩
  ·cases h2
 ·rintro⟨e,h1,h2,h3⟩;exact⟨e,by simpa using h1,by rw[if_pos h2,h3]⟩
theorem ckl{l:List AOper}(he:edgesB 0 l=true){vals:Nat→A}{ts:Ts}{D:Nat→Bool}{i:Nat}{o:AOper}(k1:l[i]?=some o):
  put (TD l vals ts D) o.dst (vals i)=TD l vals ts (fun j=>j==i||D j):=by
  funext x
  cases hd':o.dst with
  |none=>
   show TD l vals ts _ x=_
   unfold TD;cases hf:l.findIdx? (fun o=>o.dst==some x)with
   |none=>rfl
   |some j=>
    have hji:j≠i:=fun e=>by
     subst e;obtain⟨hj,hj2,_⟩:=List.findIdx?_eq_some_iff_getElem.1 hf;rw[Zn hj]at k1;injection k1 with k1;rw[k1,hd']at hj2;simp at hj2
    simp[hji]
  |some d=>
   show(if x=d then vals i else TD l vals ts _ x)=_
   have hfd:=ay2 he i _ d k1 hd';by_cases e:x=d
   ·subst e;rw[if_pos rfl];unfold TD;rw[hfd];simp
   ·rw[if_neg e];unfold TD;cases hf:l.findIdx? (fun o=>o.dst==some x)with
    |none=>rfl
    |some j=>
     have hji:j≠i:=fun e'=>by
      subst e';obtain⟨hj,hj2,_⟩:=List.findIdx?_eq_some_iff_getElem.1 hf;rw[Zn hj]at k1;injection k1 with k1;rw[k1,hd']at hj2;simp at hj2;exact e hj2.symm
     simp[hji]
theorem akj{P:Program}{G:World→Prop}{ops:List AOper}{K:Ts→Hp→Prop}{ts:Ts}{h:Hp}(he:edgesB 0 ops=true)(vals:Nat→A)(HD:(Nat→Bool)→Hp)(h0:HD (fun _=>false)=h)
  (hop:∀D i o,ops[i]?=some o→D i=false→Closed ops D→(∀j∈o.after,D j=true) →
   guardP (TD ops vals ts D) o.guard (aopP P G (evX (TD ops vals ts D)) (HD D) (fun v h'=>v=vals i∧h'=HD (fun j=>j==i||D j)) o.op) (vals i=.tup []∧HD (fun j=>j==i||D j)=HD D))
  (hfin:K (TD ops vals ts fun j=>decide (j<ops.length)) (HD fun j=>decide (j<ops.length))):adraw P G ops K ts h:=by
 refine⟨fun D ts' h'=>ts'=TD ops vals ts D∧h'=HD D,⟨?_,h0.symm⟩,?_,?_⟩
 ·funext x
  unfold TD;split<;>simp
 ·rintro D i o ts' h' ⟨rfl,rfl⟩ k1 hDi hcl haf;refine azs (fun hq=>axf (fun v h' hv=>?_) hq) (fun hq=>?_) (hop D i o k1 hDi hcl haf)
  ·obtain⟨rfl,rfl⟩:=hv;exact⟨ckl he k1,rfl⟩
  ·refine⟨?_,hq.2.symm⟩;rw[←ckl he k1,hq.1]
 ·rintro ts' h' ⟨rfl,rfl⟩;exact hfin
theorem bvb{ops:Array Oper}{l:List AOper}{K:Ts→Hp→Prop}{Q:Exit→Act→World→Prop}(hK:∀(C:Ctx) (ts:Ts) (h:Hp) (a:Act),Inv G C h→Step C0 C→RepT C ts n a→a.defers=[]→K ts h→Q .normal a C.w)
  (hc:compOpers P n true ops ops.toList=some l) (he:edgesB 0 l=true) (I:(Nat→Bool)→Ts→Hp→Prop)
  (hop:∀D i o ts h,I D ts h→l[i]?=some o→D i=false→Closed l D→(∀j∈o.after,D j=true) →
   guardP ts o.guard (aopP P G (evX ts) h (fun v h'=>I (fun j=>j==i||D j) (put ts o.dst v) h') o.op) (I (fun j=>j==i||D j) (put ts o.dst (.tup [])) h))
  (hfin:∀ts h,I (fun j=>decide (j<l.length)) ts h→K ts h):
  ∀(fuel:Nat) (listed:Array Bool) (C:Ctx) (a:Act) (ts:Ts) (h:Hp),listed.size=ops.size→Closed l (fun j=>listed.getD j false)→(listed.toList.filter (· == false)).length≤fuel →
   I (fun j=>listed.getD j false) ts h→Inv G C h→Step C0 C→RepT C ts n a→a.defers=[]→wpAny P .any ops Q fuel listed a C.w:=by
 obtain⟨hlen,hget⟩:=axu hc;have hlen':l.length=ops.size:=by rw[hlen];simp
 have hdone:∀(listed:Array Bool) (C:Ctx) (a:Act) (ts:Ts) (h:Hp),listed.size=ops.size→I (fun j=>listed.getD j false) ts h→Inv G C h→Step C0 C→RepT C ts n a→a.defers=[]→Region.ready .any ops listed=[]→Q .normal a C.w:=by
  intro listed C a ts h hsz hi0 hI hS hT hd hr;have hall:∀j,j<ops.size→listed.getD j false=true:=by
   intro j;induction j using Nat.strongRecOn with
   |_ j ih=>
    intro hj;cases hlj:listed.getD j false with
    |true=>rfl
    |false=>
     exfalso
     have hoj:ops[j]?=some ops[j]:=Y0 hj;obtain⟨ao,g,h1,h2,h3,h4⟩:=hget j ops[j] (by simpa using hoj);have:j∈Region.ready .any ops listed:=by
      refine mem_ready.2 ⟨?_,ops[j],hoj,fun e hem hb=>?_⟩
      ·rw[YF]at hlj⊢;rw[Y0 (by omega)]at hlj⊢;exact hlj
      ·have hlt:=aqe he j _ h1 e.on (by simp only[if_true];exact afterOf_mem.2 ⟨e,hem,hb,rfl⟩);exact ih e.on (by omega) (by omega)
     rw[hr]at this;simp at this
  have hD:(fun j=>listed.getD j false)=fun j=>decide (j<l.length):=by
   funext j
   by_cases hj:j<ops.size
   ·rw[hall j hj];simp[hlen',hj]
   ·rw[YF,Array.getElem?_eq_none (by omega)];simp[hlen',hj]
  rw[hD]at hi0;exact hK C _ _ a hI hS hT hd (hfin _ _ hi0)
 intro fuel;induction fuel with
 |zero=>
  intro listed C a ts h hsz hcl hf hi0 hI hS hT hd;have hnil:Region.ready .any ops listed=[]:=by
   cases hr:Region.ready .any ops listed with
   |nil=>rfl
   |cons i rs=>
    exfalso
    obtain⟨h1,o,h2,_⟩:=mem_ready.1 (by rw[hr];simp:i∈Region.ready .any ops listed);have hi:i<listed.size:=by rw[hsz];exact(Z0.1 h2).1
    have:listed[i]=false:=by
     rw[YF,Y0 hi]at h1;exact h1
    have hm:listed[i]∈listed.toList.filter (· == false):=List.mem_filter.2 ⟨by simp,by rw[this];rfl⟩;have:=List.length_pos_of_mem hm;omega
  exact⟨hnil,hdone listed C a ts h hsz hi0 hI hS hT hd hnil⟩
 |succ fuel ih=>
  intro listed C a ts h hsz hcl hf hi0 hI hS hT hd;refine⟨fun hr=>hdone listed C a ts h hsz hi0 hI hS hT hd hr,fun i hi=>?_⟩;obtain⟨h1,o,h2,h3⟩:=mem_ready.1 hi;have hilt:i<ops.size:=(Z0.1 h2).1;have hil:i<listed.size:=by omega
  have hif:listed[i]=false:=by
   rw[YF,Y0 hil]at h1;exact h1
  have hDi:listed.getD i false=false:=by rw[YF,Y0 hil];exact hif
  obtain⟨ao,g,k1,k2,k3,k4⟩:=hget i o (by simpa using h2);have hset:(fun j=>(listed.setIfInBounds i true).getD j false)=fun j=>j==i||listed.getD j false:=by
   funext j
   by_cases e:j=i
   ·subst e;simp[hil]
   ·rw[getD_set_ne false (fun h=>e h.symm)];simp[e]
  have hcl':Closed l (fun j=>(listed.setIfInBounds i true).getD j false):=by
   rw[hset];intro j oj hj hDj k hk;simp only[ZS,ZA]at hDj⊢;rcases hDj with rfl|hDj
   ·rw[k1]at hj;injection hj with hj;subst hj
    simp only[if_true]at hk;obtain⟨e,he1,he2,rfl⟩:=afterOf_mem.1 hk;exact .inr (h3 e he1 he2)
   ·exact .inr (hcl j oj hj hDj k hk)
  have hf':((listed.setIfInBounds i true).toList.filter (· == false)).length≤fuel:=by
   rw[Array.toList_setIfInBounds];have hsplit:listed.toList=listed.toList.take i++false::listed.toList.drop (i+1):=by
    have:listed.toList[i]'(by simpa using hil)=false:=by simpa using hif
    conv=>lhs;rw[←Yq i listed.toList,Zr (by simpa using hil),this]
   have h4:(listed.toList.filter (· == false)).length=((listed.toList.take i).filter (· == false)).length+(((listed.toList.drop (i+1)).filter (· == false)).length+1):=by
    conv=>lhs;rw[hsplit]
    simp[List.filter_append]
   rw[List.set_eq_take_append_cons_drop,if_pos (by simpa using hil)];simp only[List.filter_append,Za];rw[List.filter_cons_of_neg (by simp)];omega
  have hgd:=hop (fun j=>listed.getD j false) i _ ts h hi0 k1 hDi hcl (fun j hj=>by
   simp only[if_true]at hj;obtain⟨e,he1,he2,rfl⟩:=afterOf_mem.1 hj
   exact h3 e he1 he2)
  unfold wpOp;rw[h2];simp only;rcases awg hT k4 hgd with⟨hw,hk⟩|⟨hw,hk⟩
  ·rw[if_pos hw];refine .inl (czd hI hT k3 hk fun C' h' v cv q1 q2 q3 q4=>?_);refine ih _ C' _ (put ts o.dst v) h' (by simpa using hsz) hcl' hf' (by rw[hset];exact q4) q1 (hS.trans q2) ?_ (by rw[put_defers];exact hd);exact(hT.ext q2.ext).put k2 q3
  ·rw[if_neg (by simp[hw])];refine ih _ C _ (put ts o.dst (.tup [])) h (by simpa using hsz) hcl' hf' (by rw[hset];exact hk) hI hS ?_ (by rw[put_defers];exact hd);exact hT.put k2 avc
theorem cqi(hm:P.follows .mixedOrders=true):∀(c:Code) (ac:ACode),comp P n c=some ac→∀(Q:AExit→Ts→Hp→Prop) (ts:Ts) (h:Hp),awp P G ac Q ts h→∀(C:Ctx) (a:Act),Inv G C h→Step C0 C→RepT C ts n a→a.defers=[]→c.wp P (Post G C0 n Q) a C.w:=by
 intro c;induction c with
 |skip=>
  intro ac hc Q ts h hw C a hI hS hT hd;simp only[comp,Zb]at hc;subst hc;exact wp_skip ⟨C,ts,h,.normal,.normal,rfl,hI,hS,hT,hd,hw⟩
 |region id ops draw=>
  intro ac hc Q ts h hw C a hI hS hT hd;simp only[comp]at hc;split at hc;rotate_left
  ·injection hc with hc;subst hc;refine wp_mono (hw C a hI hT hd) ?_;rintro e a' w ⟨C1,ts1,hp1,ae,hae,rfl,i1,s1,t1,d1,q1⟩;exact⟨C1,ts1,hp1,ae,hae,rfl,i1,hS.trans s1,t1,d1,q1⟩
  next l h1=>
  injection hc with hc;subst hc;have hK:∀(C:Ctx) (ts:Ts) (h:Hp) (a:Act),Inv G C h→Step C0 C→RepT C ts n a→a.defers=[]→Q .normal ts h→Post G C0 n Q .normal a C.w:=fun C ts h a hI hS hT hd hq=>⟨C,ts,h,.normal,.normal,rfl,hI,hS,hT,hd,hq⟩
  cases draw with
  |false=>exact wp_region_list (aym hK ops.toList l h1 C ts h a hI hS hT hd hw)
  |true=>
   obtain⟨he,I,h0,hop,hfin⟩:=hw;refine wp_region_any hm ?_;have hlen:=(axu h1).1;have hD:(fun j=>(Array.replicate ops.size false).getD j false)=fun _=>false:=by
    funext j
    rw[YF];by_cases hj:j<ops.size
    ·simp[hj]
    ·simp[hj]
   have hb:Below C.w.heap.size C.w C.w.drew:=bdrew C.w;obtain⟨i1,s1⟩:=aq0 hI hb;refine bvb hK h1 he I hop hfin ops.size (Array.replicate ops.size false) (C.at C.w.drew) a ts h (by simp) ?_ (by simp[List.filter_replicate]) (by rw[hD];exact h0) i1 (hS.trans s1) (hT.ext s1.ext) hd;rw[hD];intro j o _ hj;cases hj
 |seq x y ihx ihy=>
  intro ac hc Q ts h hw C a hI hS hT hd;simp only[comp,Ze,Zb]at hc;obtain⟨ax,h1,ay,h2,rfl⟩:=hc;refine wp_seq (wp_mono (ihx ax h1 _ ts h hw C a hI hS hT hd) ?_);rintro e a' w ⟨C1,ts1,hp1,ae,hae,rfl,i1,s1,t1,d1,q1⟩;cases hae with
  |normal=>exact ihy ay h2 Q ts1 hp1 q1 C1 a' i1 s1 t1 d1
  |exit id=>exact⟨C1,ts1,hp1,.exit id,.exit id,rfl,i1,s1,t1,d1,q1⟩
  |ret=>exact⟨C1,ts1,hp1,.ret,.ret,rfl,i1,s1,t1,d1,q1⟩
 |cond b x y ihx ihy=>
  intro ac hc Q ts h hw C a hI hS hT hd;simp only[comp,Ze,Zb]at hc;obtain⟨ab,h0,ax,h1,ay,h2,rfl⟩:=hc;simp only[awp]at hw;have hr:=azh hT h0;cases hb:evX ts ab with
  |bool t=>
   rw[hb]at hw hr;rw[aqn]at hr;refine wp_cond_split hr (fun ht=>?_) (fun ht=>?_)
   ·exact ihx ax h1 Q ts h (hw.1 ht) C a hI hS hT hd
   ·exact ihy ay h2 Q ts h (hw.2 ht) C a hI hS hT hd
  |_=>rw[hb]at hw;exact hw.elim
 |block id x ihx=>
  intro ac hc Q ts h hw C a hI hS hT hd;simp only[comp,Ze,Zb]at hc;obtain⟨ax,h1,rfl⟩:=hc;refine wp_block (wp_mono (ihx ax h1 _ ts h hw C a hI hS hT hd) ?_);rintro e a' w ⟨C1,ts1,hp1,ae,hae,rfl,i1,s1,t1,d1,q1⟩;cases hae with
  |normal=>exact⟨C1,ts1,hp1,.normal,.normal,rfl,i1,s1,t1,d1,q1⟩
  |exit id'=>
   simp only[blkA]at q1;show if id'=id then _ else _
   split at q1
   ·next e=>rw[if_pos e];exact⟨C1,ts1,hp1,.normal,.normal,rfl,i1,s1,t1,d1,q1⟩
   ·next e=>rw[if_neg e];exact⟨C1,ts1,hp1,.exit id',.exit id',rfl,i1,s1,t1,d1,q1⟩
  |ret=>exact⟨C1,ts1,hp1,.ret,.ret,rfl,i1,s1,t1,d1,q1⟩
 |loop x ihx=>
  intro ac hc Q ts h hw C a hI hS hT hd;simp only[comp,Ze,Zb]at hc;obtain⟨ax,h1,rfl⟩:=hc;obtain⟨k,hk⟩:=hw;refine wp_loop_rounds k ?_;revert ts h C a;induction k with
  |zero=>intro ts h C a hI hS hT hd hk;exact hk.elim
  |succ k ih=>
   intro ts h C a hI hS hT hd hk;refine wp_mono (ihx ax h1 _ ts h hk C a hI hS hT hd) ?_;rintro e a' w ⟨C1,ts1,hp1,ae,hae,rfl,i1,s1,t1,d1,q1⟩;cases hae with
   |normal=>exact ih ts1 hp1 C1 a' i1 s1 t1 d1 q1
   |exit id=>exact⟨C1,ts1,hp1,.exit id,.exit id,rfl,i1,s1,t1,d1,q1⟩
   |ret=>exact⟨C1,ts1,hp1,.ret,.ret,rfl,i1,s1,t1,d1,q1⟩
 |exit id=>
  intro ac hc Q ts h hw C a hI hS hT hd;simp only[comp,Zb]at hc;subst hc;exact wp_exit ⟨C,ts,h,.exit id,.exit id,rfl,hI,hS,hT,hd,hw⟩
 |ret=>
  intro ac hc Q ts h hw C a hI hS hT hd;simp only[comp,Zb]at hc;subst hc;exact wp_ret ⟨C,ts,h,.ret,.ret,rfl,hI,hS,hT,hd,hw⟩
 |_=>
  intro ac hc Q ts h hw;simp only[comp,Zb]at hc;subst hc;exact hw.elim
end
end AX
end
section
open Go.RowKit
namespace AX
def le1:A→A→Prop
 |.sl W o rows,.sl W' o' rows'=>rows=rows'∧(W=W'∨rows'=[])∧(o'=.no∨o'=o∧W=W')
 |x,y=>x=y
def leL:List A→List A→Prop
 |[],[]=>True
 |x::l,y::m=>le1 x y∧leL l m
 |_,_=>False
def le2:A→A→Prop
 |.agg l,.agg m=>leL l m
 |x,y=>le1 x y
def bw6:List A→List A→Prop
 |[],[]=>True
 |x::l,y::m=>le2 x y∧bw6 l m
 |_,_=>False
def le:A→A→Prop
 |.tup l,.tup m=>bw6 l m
 |x,y=>le2 x y
section
variable {C:Ctx}
theorem czv{x y:A}{v:Value}(h:le1 x y)(hr:Rep C x v):Rep C y v:=by
 unfold le1 at h;split at h
 ·next W o rows W' o' rows'=>
  obtain⟨rfl,h1,h2⟩:=h;obtain⟨a,cap,e,h3,h4,h5⟩:=rep_sl.1 hr;refine rep_sl.2 ⟨a,cap,e,h3,?_,?_⟩
  ·rcases h1 with rfl|rfl
   ·exact h4
   ·unfold RepRows;trivial
  ·rcases h2 with rfl|⟨rfl,rfl⟩
   ·trivial
   ·exact h5
 ·subst h;exact hr
theorem czg:∀{l m:List A} {cs:List Value},leL l m→RepL C l cs→RepL C m cs
 |[],[],cs,_,hr=>hr
 |x::l,y::m,cs,h,hr=>by
  obtain⟨c,cs',rfl,h1,h2⟩:=repL_cons.1 hr;exact repL_cons.2 ⟨c,cs',rfl,czv h.1 h1,czg h.2 h2⟩
 |[],y::m,cs,h,hr=>h.elim
 |x::l,[],cs,h,hr=>h.elim
theorem cz7{x y:A}{v:Value}(h:le2 x y)(hr:Rep C x v):Rep C y v:=by
 unfold le2 at h;split at h
 ·obtain⟨cs,e,h1⟩:=rep_agg.1 hr;exact rep_agg.2 ⟨cs,e,czg h h1⟩
 ·exact czv h hr
theorem bzd:∀{l m:List A} {cs:List Value},bw6 l m→RepL C l cs→RepL C m cs
 |[],[],cs,_,hr=>hr
 |x::l,y::m,cs,h,hr=>by
  obtain⟨c,cs',rfl,h1,h2⟩:=repL_cons.1 hr;exact repL_cons.2 ⟨c,cs',rfl,cz7 h.1 h1,bzd h.2 h2⟩
 |[],y::m,cs,h,hr=>h.elim
 |x::l,[],cs,h,hr=>h.elim
theorem dzd{x y:A}{v:Value}(h:le x y)(hr:Rep C x v):Rep C y v:=by
 unfold le at h;split at h
 ·obtain⟨cs,e,h1⟩:=rep_tup.1 hr;exact rep_tup.2 ⟨cs,e,bzd h h1⟩
 ·exact cz7 h hr
theorem aza(x:A):le1 x x:=by
 unfold le1;split
 ·exact⟨rfl,.inl rfl,.inr ⟨rfl,rfl⟩⟩
 ·rfl
theorem bzx:∀l:List A,leL l l
 |[]=>trivial
 |x::l=>⟨aza x,bzx l⟩
theorem azx(x:A):le2 x x:=by
 unfold le2;split
 ·exact bzx _
 ·exact aza x
theorem bxi:∀l:List A,bw6 l l
 |[]=>trivial
 |x::l=>⟨azx x,bxi l⟩
theorem le_refl(x:A):le x x:=by
 unfold le;split
 ·exact bxi _
 ·exact azx x
end
theorem ACall.args{P:Program}{G:World→Prop}{f:FuncId}{as as':List A}{h:Hp}{K:A→Hp→Prop}(hle:bw6 as as')(hc:ACall P G f as' h K):ACall P G f as h K:=
 fun C cs hI hr=>hc C cs hI (bzd hle hr)
inductive ARes where
 |t (n:Nat)
 |c (n:Nat) (agg:Bool) (size:Nat)
def compRes(P:Program)(n:Nat):List ResultVar→Option (List ARes)
 |[]=>some []
 |.tmp t::rs=>if t<n then(compRes P n rs).bind fun l=>some (.t t::l)else none
 |.cell t T::rs=>if t<n then(P.underlying T).bind fun d=>(P.info? T).bind fun i=>if isAggB d=true∨i.size=1 then(compRes P n rs).bind fun l=>some (.c t (isAggB d) i.size::l)else none else none
def resA(ts:Ts)(h:Hp):List ARes→Option (List A)
 |[]=>some []
 |.t t::rs=>(resA ts h rs).bind fun l=>some (ts t::l)
 |.c t g n::rs=>(loadA h g n (ts t)).bind fun v=>(resA ts h rs).bind fun l=>some (v::l)
def tupA:List A→A
 |[v]=>v
 |l=> .tup l
def finO(r:Option (List A))(Q:A→Hp→Prop)(h:Hp):Prop:=
 match r with
 |some l=>∃v,le (tupA l) v∧Q v h
 |none=>False
def finP(rs:List ARes)(Q:A→Hp→Prop)(ts:Ts)(h:Hp):Prop:=finO (resA ts h rs) Q h
def finQ(rs:List ARes)(Q:A→Hp→Prop):AExit→Ts→Hp→Prop
 |.normal=>finP rs Q
 |.ret=>finP rs Q
 |.exit _=>fun _ _=>False
structure AFn where
 n:Nat
 code:ACode
 res:List ARes
def compFn(P:Program)(f:FuncId):Option AFn:=
 match P.funcs[f]? with
 |some fn=>(fn.body).bind fun c=>(comp P fn.ntmps c).bind fun ac=>(compRes P fn.ntmps fn.results.toList).bind fun rs=>some ⟨fn.ntmps,ac,rs⟩
 |none=>none
def initTs(args:List A):Ts:=fun i=>args.getD i (.tup [])
section
variable {P:Program} {G:World→Prop} {n:Nat}
def resOf(tmps:Array Value):ResultVar→Sem Value
 |.tmp t=>pure (tmps.getD t undef)
 |.cell b t=>do loadVar t (←asAddr (tmps.getD b undef))
theorem bwv(g:Func)(tmps:Array Value):results g tmps=(g.results.mapM (resOf tmps) >>= fun vs=>pure (if h:vs.size=1 then vs[0]else .tuple vs)):=by
 unfold results;congr 1
theorem bvh{C:Ctx}{h:Hp}{ts:Ts}{a:Act}(hI:Inv G C h)(hT:RepT C ts n a):∀(rs:List ResultVar) (rl:List ARes) (l:List A),compRes P n rs=some rl→resA ts h rl=some l →
  ∃vs:List Value,(rs.mapM (resOf a.tmps)).run P C.w=Result.ok vs C.w∧RepL C l vs
 |[],rl,l,hc,hr=>by
  simp only[compRes,Zb]at hc;subst hc;simp only[resA,Zb]at hr;subst hr;exact⟨[],by simp,repL_nil.2 rfl⟩
 |.tmp t::rs,rl,l,hc,hr=>by
  simp only[compRes,Zw,Ze,Zb]at hc;obtain⟨hlt,rl',h1,rfl⟩:=hc;simp only[resA,Ze,Zb]at hr;obtain⟨l',h2,rfl⟩:=hr;obtain⟨vs,k1,k2⟩:=bvh hI hT rs rl' l' h1 h2;exact⟨_::vs,by simp[List.mapM_cons,k1,resOf],repL_cons.2 ⟨_,vs,rfl,hT.rep t hlt,k2⟩⟩
 |.cell t T::rs,rl,l,hc,hr=>by
  simp only[compRes,Zw,Ze,Zb]at hc;obtain⟨hlt,d,hd,i,hi,h1,rl',h2,rfl⟩:=hc;simp only[resA,Ze,Zb]at hr;obtain⟨v,h3,l',h4,rfl⟩:=hr;obtain⟨vs,k1,k2⟩:=bvh hI hT rs rl' l' h2 h4;obtain⟨ad,cv,e,hrun,hv⟩:=bv6 hI hd hi h1 (hT.rep t hlt) h3;rw[e]at hrun;have hrun':(loadVar T ad).run P C.w=.ok cv C.w:=by
   unfold Instr.loadAt at hrun;simpa [Instr.sureAddr]using hrun
  refine⟨cv::vs,?_,repL_cons.2 ⟨cv,vs,rfl,hv,k2⟩⟩;simp[List.mapM_cons,resOf,e,asAddr,hrun',k1]
theorem bzc(hm:P.follows .mixedOrders=true){f:FuncId}{fn:AFn}{args:List A}{h:Hp}{Q:A→Hp→Prop}(hf:compFn P f=some fn)(hl:args.length≤fn.n)(hw:awp P G fn.code (finQ fn.res Q) (initTs args) h):ACall P G f args h Q:=by
 unfold compFn at hf;split at hf
 ·next g hg=>
  simp only[Ze,Zb]at hf;obtain⟨c,hb,ac,hc,rs,hr,rfl⟩:=hf;intro C cs hI hargs;have hcl:=azm hargs;refine calls_of_wp hg hb ?_;have hT:RepT C (initTs args) g.ntmps { tmps:=cs.toArray++Array.replicate (g.ntmps-cs.toArray.size) undef,defers:=[] }:=by
   simp only at hl;refine⟨by simp;omega,fun i hi=>?_⟩;unfold initTs;rw[YF];by_cases hlt:i<cs.length
   ·have hx:args[i]?=some args[i]:=Zn (by omega);obtain⟨v,k1,k2⟩:=axn hargs i _ hx;rw[Array.getElem?_append_left (by simpa using hlt)];simp only[List.getElem?_toArray,k1,ZZ];simpa [List.getD,hx]using k2
   ·rw[Array.getElem?_append_right (by simp;omega)];rw[ZX,YJ (by omega)];rw[Array.getElem?_replicate];split
    ·exact avc
    ·exact avc
  have key:=cqi (C0:=C) hm c ac hc _ _ _ hw C _ hI (Step.refl C) hT rfl;refine wp_mono key ?_;rintro e a' w ⟨C1,ts1,h1,ae,hae,rfl,i1,s1,t1,d1,q1⟩;have fin:finP rs Q ts1 h1→a'.defers=[]∧∃v,(results g a'.tmps).run P C1.w=.ok v C1.w∧∃(C':Ctx) (h':Hp) (u:A) (cv:Value),Ending.returned v=.returned cv∧C'.w=C1.w∧Inv G C' h'∧Step C C'∧Rep C' u cv∧Q u h':=by
   intro hq;unfold finP finO at hq;split at hq
   ·next l hl'=>
    obtain⟨u,hu,hQ⟩:=hq;obtain⟨vs,k1,k2⟩:=bvh i1 t1 g.results.toList rs l hr hl';have hvl:=azm k2;refine⟨d1,_,?_,C1,h1,u,if hh:vs.toArray.size=1 then vs.toArray[0]else .tuple vs.toArray,rfl,rfl,i1,s1,dzd hu ?_,hQ⟩
    ·have hmap:(g.results.mapM (resOf a'.tmps)).run P C1.w=.ok vs.toArray C1.w:=by
      rw[←Array.toArray_toList (xs:=g.results),List.mapM_toArray];simp[k1]
     rw[bwv,Sem.run_bind,hmap];rfl
    ·split
     ·next h1'=>
      have:vs.length=1:=by simpa using h1'
      match l,vs,k2,hvl,this with
      |[x],[v],k2,_,_=>
       obtain⟨c,cs',e,r1,_⟩:=repL_cons.1 k2;injection e with e1 e2;subst e1;exact r1
     ·next h1'=>
      have hne:l.length≠1:=by rw[←hvl];simpa using h1'
      have:tupA l=.tup l:=by
       unfold tupA;split
       ·simp at hne
       ·rfl
      rw[this];exact rep_tup.2 ⟨vs,rfl,k2⟩
   ·exact hq.elim
  cases hae with
  |normal=>exact fin q1
  |ret=>exact fin q1
  |exit id=>exact q1.elim
 ·cases hf
end
end AX
end
section
open Go.RowKit
namespace AX
section
variable {P:Program} {G:World→Prop}
theorem ak0{K K':Ts→Hp→Prop}(hk:∀ts h,K ts h→K' ts h):∀(l:List AOper) (ts:Ts) (h:Hp),aops P G l K ts h→aops P G l K' ts h
 |[],ts,h,hp=>hk _ _ hp
 |o::l,ts,h,hp=>azs (axf fun v h'=>ak0 hk l _ h') (ak0 hk l _ h) hp
theorem bww{K K':Ts→Hp→Prop}(hk:∀ts h,K ts h→K' ts h){l:List AOper}{ts:Ts}{h:Hp}(hp:adraw P G l K ts h):adraw P G l K' ts h:=by
 obtain⟨I,h1,h2,h3⟩:=hp;exact⟨I,h1,h2,fun ts h hi=>hk _ _ (h3 ts h hi)⟩
theorem ajc{K K':Ts→Hp→Prop}{Q Q':AExit→Ts→Hp→Prop}(hk:∀ts h,K ts h→K' ts h)(hq:∀e ts h,Q e ts h→Q' e ts h):∀e ts h,thenA K Q e ts h→thenA K' Q' e ts h:=by
 intro e ts h hp;cases e with
 |normal=>exact hk _ _ hp
 |exit id=>exact hq _ _ _ hp
 |ret=>exact hq _ _ _ hp
theorem ay4:∀(c:ACode) (Q Q':AExit→Ts→Hp→Prop),(∀e ts h,Q e ts h→Q' e ts h)→∀ts h,awp P G c Q ts h→awp P G c Q' ts h:=by
 intro c;induction c with
 |skip=>intro Q Q' hq ts h hp;exact hq _ _ _ hp
 |reg d l=>
  intro Q Q' hq ts h hp;cases d with
  |false=>exact ak0 (hq .normal) l ts h hp
  |true=>exact⟨hp.1,bww (hq .normal) hp.2⟩
 |seq x y ihx ihy=>intro Q Q' hq ts h hp;exact ihx _ _ (ajc (ihy _ _ hq) hq) ts h hp
 |cond b x y ihx ihy=>
  intro Q Q' hq ts h hp;simp only[awp]at hp⊢;generalize evX ts b=v at *;cases v with
  |bool t=>exact⟨fun e=>ihx _ _ hq _ _ (hp.1 e),fun e=>ihy _ _ hq _ _ (hp.2 e)⟩
  |_=>exact hp.elim
 |block id x ih=>
  intro Q Q' hq ts h hp;refine ih _ _ (fun e ts h hp=>?_) ts h hp;cases e with
  |normal=>exact hq _ _ _ hp
  |exit id'=>
   simp only[blkA]at hp⊢;split at hp
   ·next e=>rw[if_pos e];exact hq _ _ _ hp
   ·next e=>rw[if_neg e];exact hq _ _ _ hp
  |ret=>exact hq _ _ _ hp
 |loop x ih=>
  intro Q Q' hq ts h hp;obtain⟨k,hk⟩:=hp;refine⟨k,?_⟩;revert ts h;induction k with
  |zero=>intro ts h hk;exact hk
  |succ k ihk=>intro ts h hk;exact ih _ _ (ajc (fun ts h=>ihk ts h) hq) ts h hk
 |exit id=>intro Q Q' hq ts h hp;exact hq _ _ _ hp
 |ret=>intro Q Q' hq ts h hp;exact hq _ _ _ hp
 |prim n c=>
  intro Q Q' hq ts h hp C a hI hT hd;refine wp_mono (hp C a hI hT hd) ?_;rintro e a' w ⟨C1,ts1,hp1,ae,hae,rfl,i1,s1,t1,d1,q1⟩;exact⟨C1,ts1,hp1,ae,hae,rfl,i1,s1,t1,d1,hq _ _ _ q1⟩
theorem ay3(c:ACode)(Q:AExit→Ts→Hp→Prop):∀(k:Nat) (ts:Ts) (h:Hp),aloop (awp P G c) Q k ts h→aloop (awp P G c) Q (k+1) ts h
 |0,ts,h,hp=>hp.elim
 |k+1,ts,h,hp=>ay4 c _ _ (ajc (fun ts h=>ay3 c Q k ts h) fun _ _ _ h=>h) ts h hp
theorem cvd(c:ACode)(Q:AExit→Ts→Hp→Prop){k m:Nat}(hkm:k≤m)(ts:Ts)(h:Hp)(hp:aloop (awp P G c) Q k ts h):aloop (awp P G c) Q m ts h:=by
 induction hkm with
 |refl=>exact hp
 |step _ ih=>exact ay3 c Q _ ts h ih
theorem azf{c:ACode}{Q:AExit→Ts→Hp→Prop}{ts:Ts}{h:Hp}(I:Nat→Ts→Hp→Prop)(m:Nat)(h0:I m ts h)(hr:∀m ts h,I m ts h→awp P G c (thenA (fun ts' h'=>∃m',m'<m∧I m' ts' h') Q) ts h):awp P G (.loop c) Q ts h:=by
 refine⟨m+1,?_⟩;revert ts h;induction m using Nat.strongRecOn with
 |_ m ih=>
  intro ts h h0;refine ay4 c _ _ (ajc (fun ts' h' hp=>?_) fun _ _ _ h=>h) ts h (hr m ts h h0);obtain⟨m',h1,h2⟩:=hp;exact cvd c Q h1 ts' h' (ih m' h1 h2)
def opnds:AOp→List Opd
 |.mv x=>[x]
 |.pick c a b=>[c,a,b]
 |.alloc ..=>[]
 |.box _ x=>[x]
 |.build _ ps=>ps.map fun p=>p.2.2
 |.mks _ ps=>ps
 |.mkr _ _ ps=>ps
 |.mkl _ _ ps=>ps
 |.slsl _ x lo hi=>x::(lo.toList++hi.toList)
 |.load _ _ p=>[p]
 |.store _ p x=>[p,x]
 |.nilck x=>[x]
 |.faddr _ x=>[x]
 |.iaddr _ x i=>[x,i]
 |.sidx x i=>[x,i]
 |.ssl x lo hi=>x::(lo.toList++hi.toList)
 |.len _ x=>[x]
 |.app _ _ _ x y=>[x,y]
 |.bin _ x y=>[x,y]
 |.eq _ _ _ x y=>[x,y]
 |.un _ x=>[x]
 |.conv _ x=>[x]
 |.extract x _=>[x]
 |.max3 x y z=>[x,y,z]
 |.mkfn _ caps=>caps
 |.mkmap=>[]
 |.mget _ _ m k=>[m,k]
 |.mset m k x=>[m,k,x]
 |.mdel m k=>[m,k]
 |.mclr m=>[m]
 |.mlen m=>[m]
 |.mm _ x y=>[x,y]
 |.call _ args=>args
 |.callv x args=>x::args
theorem ak5{ev ev':Opd→A}:∀(ps:List (Nat×Nat×Opd)) (z:List A),(∀p∈ps,ev p.2.2=ev' p.2.2)→fillA ev z ps=fillA ev' z ps
 |[],z,h=>rfl
 |(o,n,x)::ps,z,h=>by
  have h1:=h (o,n,x) (by simp);simp only at h1;simp only[fillA,h1];split
  ·exact ak5 ps _ fun p hp=>h p (by simp[hp])
  ·rfl
theorem ajs{ev ev':Opd→A}(W:Nat):∀(ps:List Opd),(∀p∈ps,ev p=ev' p)→rowsA ev W ps=rowsA ev' W ps
 |[],h=>rfl
 |x::ps,h=>by
  have h1:=h x (by simp);simp only[rowsA,h1];rw[ajs W ps fun p hp=>h p (by simp[hp])]
theorem awy{ev ev':Opd→A}(W:Nat):∀(ps:List Opd),(∀p∈ps,ev p=ev' p)→rowsR ev W ps=rowsR ev' W ps
 |[],h=>rfl
 |x::ps,h=>by
  have h1:=h x (by simp);simp only[rowsR,h1];rw[awy W ps fun p hp=>h p (by simp[hp])]
theorem bjj{ev ev':Opd→A}{h:Hp}{o:AOp}(he:∀x∈opnds o,ev x=ev' x):astep ev h o=astep ev' h o:=by
 cases o with
 |build z ps=>
  simp only[astep];rw[ak5 ps z fun p hp=>he _ (Y7.2 ⟨p,hp,rfl⟩)]
 |mks W ps=>
  simp only[astep];rw[ajs W ps he]
 |mkr E W ps=>
  simp only[astep];rw[awy W ps he]
 |mkl E W ps=>
  simp only[astep];rw[ajs W ps he]
 |slsl W x lo hi=>
  have h1:=he x (by simp[opnds]);have h2:lo.map ev=lo.map ev':=by
   cases lo with
   |none=>rfl
   |some l=>simp only[ZR];rw[he l (by simp[opnds])]
  have h3:hi.map ev=hi.map ev':=by
   cases hi with
   |none=>rfl
   |some l=>simp only[ZR];rw[he l (by simp[opnds])]
  simp only[astep,h1,h2,h3]
 |mkfn f caps=>
  simp only[opnds]at he;simp only[astep];rw[List.map_congr_left he]
 |ssl x lo hi=>
  have h1:=he x (by simp[opnds]);have h2:lo.map ev=lo.map ev':=by
   cases lo with
   |none=>rfl
   |some l=>simp only[ZR];rw[he l (by simp[opnds])]
  have h3:hi.map ev=hi.map ev':=by
   cases hi with
   |none=>rfl
   |some l=>simp only[ZR];rw[he l (by simp[opnds])]
  simp only[astep,h1,h2,h3]
 |alloc=>rfl
 |mkmap=>rfl
 |call=>rfl
 |callv=>rfl
 |_=>
  simp only[opnds,Z8,List.not_mem_nil,or_false,forall_eq_or_imp,forall_eq]at he;simp only[astep,he]
theorem aqy{ev ev':Opd→A}{h:Hp}{K:A→Hp→Prop}{o:AOp}(he:∀x∈opnds o,ev x=ev' x)(hp:aopP P G ev h K o):aopP P G ev' h K o:=by
 cases o with
 |call f args=>
  simp only[opnds]at he;show ACall P G f (args.map ev') h K
  rw[←List.map_congr_left he];exact hp
 |callv x args=>
  obtain⟨f,caps,h1,h2,h3⟩:=hp;refine⟨f,caps,by rw[←he x (by simp[opnds])];exact h1,h2,?_⟩;rw[←List.map_congr_left fun y hy=>he y (by simp[opnds,hy])];exact h3
 |_=>
  have hs:=bjj (h:=h) he;simp only[aopP]at hp⊢;rw[←hs];exact hp
def aopQ(P:Program)(G:World→Prop)(ev:Opd→A)(h:Hp)(K:A→Prop):AOp→Prop
 |.call f args=>∃v,ACall P G f (args.map ev) h (fun v' h'=>v'=v∧h'=h)∧K v
 |.callv x args=>∃v f caps,ev x=.fn f caps∧callOk P (vF f)=true∧ACall P G (vF f) (vA f (args.map ev) caps) h (fun v' h'=>v'=v∧h'=h)∧K v
 |op=>optP (astep ev h op) fun v h'=>h'=h∧K v
def aquiet(P:Program)(G:World→Prop)(h:Hp):List AOper→(Ts→Prop)→Ts→Prop
 |[],K,ts=>K ts
 |o::os,K,ts=>guardP ts o.guard (aopQ P G (evX ts) h (fun v=>aquiet P G h os K (put ts o.dst v)) o.op) (aquiet P G h os K (put ts o.dst (.tup [])))
theorem bvs{ev:Opd→A}{h:Hp}{K:A→Prop}{o:AOp}(hp:aopQ P G ev h K o):∃v,aopP P G ev h (fun v' h'=>v'=v∧h'=h) o∧K v:=by
 cases o with
 |call f args=>
  obtain⟨v,h1,h2⟩:=hp;exact⟨v,h1,h2⟩
 |callv x args=>
  obtain⟨v,f,caps,h0,h1,h2,h3⟩:=hp;exact⟨v,⟨f,caps,h0,h1,h2⟩,h3⟩
 |_=>
  simp only[aopQ]at hp;simp only[aopP];generalize astep ev h _=r at hp⊢;cases r with
  |none=>exact hp.elim
  |some r=>
   obtain⟨v,h'⟩:=r;exact⟨v,⟨rfl,hp.1⟩,hp.2⟩
def seesT(o:AOper):List Nat:=((opnds o.op).filterMap fun x=>match x with|.t n=>some n|.c _=>none)++(match o.guard with|some (t,_)=>[t]|none=>[])
def seesB(ops:List AOper):Bool:=
 ops.zipIdx.all fun(o,i)=>(seesT o).all fun x=>ops.zipIdx.all fun(o',j)=>o'.dst !=some x||i==j||o.after.contains j||o'.after.contains i
def pre:Ts→List AOper→(Nat→A)→Nat→Ts
 |ts,_,_,0=>ts
 |ts,[],_,_+1=>ts
 |ts,o::os,vs,i+1=>pre (put ts o.dst (vs 0)) os (fun k=>vs (k+1)) i
theorem ax2{h:Hp}{K:Ts→Prop}:∀(os:List AOper) (ts:Ts),aquiet P G h os K ts →
  ∃vs:Nat→A,(∀(i:Nat) (o:AOper),os[i]?=some o→guardP (pre ts os vs i) o.guard (aopP P G (evX (pre ts os vs i)) h (fun v' h'=>v'=vs i∧h'=h) o.op) (vs i=.tup []))∧K (pre ts os vs os.length)
 |[],ts,hp=>⟨fun _=> .tup [],fun i o hi=>by simp at hi,hp⟩
 |o::os,ts,hp=>by
  have key:∃v,guardP ts o.guard (aopP P G (evX ts) h (fun v' h'=>v'=v∧h'=h) o.op) (v=.tup [])∧aquiet P G h os K (put ts o.dst v):=by
   simp only[aquiet]at hp;cases hg:o.guard with
   |none=>
    rw[hg]at hp;obtain⟨v,h1,h2⟩:=bvs hp;exact⟨v,h1,h2⟩
   |some tb=>
    obtain⟨t,b⟩:=tb;rw[hg]at hp;simp only[guardP]at hp⊢;split at hp
    ·next c e=>
     by_cases hcb:c=b
     ·obtain⟨v,h1,h2⟩:=bvs (hp.1 hcb);refine⟨v,⟨fun _=>h1,fun hc=>?_⟩,h2⟩;rw[hcb]at hc;cases b<;>cases hc
     ·have hcb':c=!b:=by cases c<;>cases b<;>simp_all
      exact⟨.tup [],⟨fun hc=>absurd hc hcb,fun _=>rfl⟩,hp.2 hcb'⟩
    ·next e=>exact⟨.tup [],rfl,hp⟩
    ·exact hp.elim
  obtain⟨v,h1,h2⟩:=key;obtain⟨vs,h3,h4⟩:=ax2 os _ h2;refine⟨fun i=>match i with|0=>v|i+1=>vs i,fun i o' hi=>?_,h4⟩;cases i with
  |zero=>simp at hi;subst hi;exact h1
  |succ i=>exact h3 i o' (by simpa using hi)
theorem bqr{os:List AOper}{d:Nat}(h:(os.all fun o'=>o'.dst !=some d)=true):os.findIdx? (fun o=>o.dst==some d)=none:=by
 rw[List.findIdx?_eq_none_iff];intro o ho;have:=ZE.1 h o ho;simpa using this
theorem pre_eq:∀(os:List AOper) (k:Nat) (ts:Ts) (vs:Nat→A) (i:Nat),edgesB k os=true→i≤os.length→∀x,pre ts os vs i x=TD os vs ts (fun j=>decide (j<i)) x
 |[],k,ts,vs,0,he,hi,x=>rfl
 |[],k,ts,vs,i+1,he,hi,x=>by simp at hi
 |o::os,k,ts,vs,0,he,hi,x=>by
  unfold TD pre;split<;>simp
 |o::os,k,ts,vs,i+1,he,hi,x=>by
  simp only[edgesB,Zc]at he;rw[pre,pre_eq os (k+1) _ _ i he.2 (by simpa using hi) x];unfold TD;rw[List.findIdx?_cons];cases hd:o.dst with
  |none=>
   have e:((none:Option Nat)==some x)=false:=rfl;rw[e];simp only[Zi,if_false];cases hf:os.findIdx? (fun o=>o.dst==some x)with
   |none=>simp[put]
   |some j=>simp[put]
  |some d=>
   by_cases hdx:d=x
   ·subst hdx;have h2:=he.1.2;rw[hd]at h2;rw[bqr h2];simp[put]
   ·have e:((some d:Option Nat)==some x)=false:=by simp[hdx]
    rw[e];simp only[Zi,if_false];cases hf:os.findIdx? (fun o=>o.dst==some x)with
    |none=>simp[put,Ne.symm hdx]
    |some j=>simp[put,Ne.symm hdx]
theorem bwa{ops:List AOper}(hs:seesB ops=true):∀(i:Nat) (o:AOper),ops[i]?=some o→∀x∈seesT o,∀(j:Nat) (o':AOper),ops[j]?=some o'→o'.dst=some x→i=j∨j∈o.after∨i∈o'.after:=by
 intro i o hi x hx j o' hj hd;unfold seesB at hs;have h1:=ZE.1 hs (o,i) (Ya.2 hi);have h2:=ZE.1 h1 x hx;have h3:=ZE.1 h2 (o',j) (Ya.2 hj);simp only[ZS,Y8,ne_eq,ZA,Zal]at h3;rcases h3 with((h3|h3)|h3)|h3
 ·exact absurd hd h3
 ·exact .inl h3
 ·exact .inr (.inl h3)
 ·exact .inr (.inr h3)
theorem bzp{ops:List AOper}(he:edgesB 0 ops=true)(hs:seesB ops=true){D:Nat→Bool}{i:Nat}{o:AOper}(hi:ops[i]?=some o)(hDi:D i=false)(hcl:Closed ops D)(haf:∀j∈o.after,D j=true)(vs:Nat→A)(ts:Ts):
  ∀x∈seesT o,TD ops vs ts D x=TD ops vs ts (fun j=>decide (j<i)) x:=by
 intro x hx;unfold TD;cases hf:ops.findIdx? (fun o=>o.dst==some x)with
 |none=>rfl
 |some j=>
  obtain⟨hj,hj2,_⟩:=List.findIdx?_eq_some_iff_getElem.1 hf;have hoj:ops[j]?=some ops[j]:=Zn hj;have hdx:ops[j].dst=some x:=by simpa using hj2
  rcases bwa hs i o hi x hx j _ hoj hdx with rfl|h1|h1
  ·simp[hDi]
  ·have h2:=aqe he i o hi j h1;have h3:j<i:=by omega
   simp[haf j h1,h3]
  ·have h2:=aqe he j _ hoj i h1;have h3:¬j<i:=by omega
   have h4:D j=false:=by
    cases hDj:D j with
    |false=>rfl
    |true=>rw[hcl j _ hoj hDj i h1]at hDi;cases hDi
   simp[h4,h3]
theorem ax6{o:AOper}{ts ts':Ts}(h:∀x∈seesT o,ts x=ts' x):∀y∈opnds o.op,evX ts y=evX ts' y:=by
 intro y hy;cases y with
 |c a=>rfl
 |t n=>
  refine h n (List.mem_append_left _ (List.mem_filterMap.2 ⟨.t n,hy,rfl⟩))
theorem axs{o:AOper}{ts ts':Ts}{p q:Prop}(h:∀x∈seesT o,ts x=ts' x)(hp:guardP ts o.guard p q):guardP ts' o.guard p q:=by
 cases hg:o.guard with
 |none=>rw[hg]at hp;exact hp
 |some tb=>
  obtain⟨t,b⟩:=tb;rw[hg]at hp;simp only[guardP]at hp⊢;rw[←h t (List.mem_append_right _ (by rw[hg];simp))];exact hp
theorem bjd{ops:List AOper}{K:Ts→Hp→Prop}{ts:Ts}{h:Hp}(he:edgesB 0 ops=true)(hs:seesB ops=true)(hp:aquiet P G h ops (fun ts=>K ts h) ts):adraw P G ops K ts h:=by
 obtain⟨vs,h1,h2⟩:=ax2 ops ts hp;refine akj he vs (fun _=>h) rfl (fun D i o hi hDi hcl haf=>?_) ?_
 ·have hsee:=bzp he hs hi hDi hcl haf vs ts;have hlt:i<ops.length:=(Zd.1 hi).1;have hpre:pre ts ops vs i=TD ops vs ts (fun j=>decide (j<i)):=funext fun x=>pre_eq ops 0 ts vs i he (by omega) x
  have h3:=h1 i o hi;rw[hpre]at h3;refine axs (fun x hx=>(hsee x hx).symm) (azs (fun hq=>?_) (fun hq=>⟨hq,rfl⟩) h3);exact aqy (ax6 fun x hx=>(hsee x hx).symm) hq
 ·have hpre:pre ts ops vs ops.length=TD ops vs ts (fun j=>decide (j<ops.length)):=funext fun x=>pre_eq ops 0 ts vs _ he (Zf _) x
  rw[←hpre];exact h2
end
end AX
end
section
open Go.RowKit
namespace AX
section
variable {P:Program} {G:World→Prop}
theorem aql(ts:Ts)(d:Nat)(v:A)(i:Nat):put ts (some d) v i=if i=d then v else ts i:=rfl
theorem az5(ts:Ts)(v:A):put ts none v=ts:=rfl
theorem az6(args:List A)(i:Nat):initTs args i=args.getD i (.tup []):=rfl
theorem azy(v:A)(h:Hp)(K:A→Hp→Prop):optP (some (v,h)) K=K v h:=rfl
theorem ak3{ops:List AOper}{Q:AExit→Ts→Hp→Prop}{ts:Ts}{h:Hp}(hb:(edgesB 0 ops&&seesB ops)=true)(hq:aquiet P G h ops (fun ts=>Q .normal ts h) ts):awp P G (.reg true ops) Q ts h:=by
 rw[Zc]at hb;exact⟨hb.1,bjd hb.1 hb.2 hq⟩
theorem aj7(ts:Ts)(n:Nat):evX ts (.t n)=ts n:=rfl
theorem avd(ts:Ts)(a:A):evX ts (.c a)=a:=rfl
theorem az4(ts:Ts)(h:Hp):resA ts h []=some []:=rfl
theorem aq9(ts:Ts)(h:Hp)(t:Nat)(rs:List ARes):resA ts h (.t t::rs)=(resA ts h rs).bind fun l=>some (ts t::l):=rfl
theorem aq7(ts:Ts)(h:Hp)(t:Nat)(g:Bool)(n:Nat)(rs:List ARes):resA ts h (.c t g n::rs)=(loadA h g n (ts t)).bind fun v=>(resA ts h rs).bind fun l=>some (v::l):=rfl
theorem azi(v:A):tupA [v]=v:=rfl
theorem aqa(u v:A)(l:List A):tupA (u::v::l)=.tup (u::v::l):=rfl
theorem aq6:tupA []=.tup []:=rfl
end
end AX
end
section
open Go.RowKit
namespace AX
theorem wrap64{x:Int}(h1:-9223372036854775808≤x)(h2:x≤9223372036854775807):IntKind.i64.wrap x=x:=Go.IntWalk.i64_in x ⟨h1,h2⟩
theorem cqu{P:Program}{G:World→Prop}{f:FuncId}{extra:List A}{ecs:List Value}{T:TypeId}{l l':List A}{cs cs':List Value}{v:A}{cv:Value}(hargs:∀C es,RepL C extra es→es=ecs)(hl:∀C es,RepL C l es→es=cs)(hl':∀C,RepL C l' cs')(hv:∀C,Rep C v cv)
  (hc:∀w g,w.heap[g]?=some (.cells cs.toArray T (0,0))→Calls P f (.pointer (some ⟨g,0,none⟩)::ecs).toArray w fun e w'=>e=.returned cv∧w'.heap[g]?=some (.cells cs'.toArray T (0,0))∧w.grownBy w' (some g))
  {h:Hp} {i:Nat} (hb:h.b[i]?=some (.cells T l)):ACall P G f (.ptr i 0::extra) h fun v' h'=>v'=v∧h'=⟨h.b.set i (.cells T l'),h.t⟩:=by
 intro C es hI ha;obtain⟨c,es',rfl,h1,h2⟩:=repL_cons.1 ha;obtain⟨rfl,hi⟩:=rep_ptr.1 h1;obtain rfl:=hargs C es' h2;obtain⟨cs1,k1,k2⟩:=hI.box i _ hb;obtain rfl:=hl C cs1 k2;refine(hc C.w (C.κ i) k1).mono ?_;rintro e w' ⟨rfl,m1,m2⟩;obtain⟨i1,s1⟩:=aq8 (b':=.cells T l') false hI hi m2.os m2.tape m2.output m2.size (fun g hg hne=>m2.block g hg fun e=>hne (by injection e with e;rw[e];exact hI.ownk i hi)) (fun _=>⟨cs',m1,hl' _⟩);exact⟨_,_,v,cv,rfl,rfl,i1,s1,hv _,rfl,rfl⟩
def sinkB(ops:List AOper):Bool:=
 ops.zipIdx.all fun(_,i)=>i+1==ops.length||ops.zipIdx.any fun(o',j)=>decide (i<j)&&o'.after.contains i
theorem cxx{ops:List AOper}(hs:sinkB ops=true){n:Nat}(hn:n+1=ops.length){o:AOper}(ho:ops[n]?=some o){D:Nat→Bool}(hcl:Closed ops D)(haf:∀j∈o.after,D j=true):∀i,i<n→D i=true:=by
 have key:∀d i,n-i=d→i<n→D i=true:=by
  intro d;induction d using Nat.strongRecOn with
  |_ d ih=>
   intro i hd hi;have hoi:ops[i]?=some (ops[i]'(by omega)):=Zn (by omega);unfold sinkB at hs;have h1:=ZE.1 hs (ops[i]'(by omega),i) (Ya.2 hoi);simp only[ZS,ZA]at h1;rcases h1 with h1|h1
   ·omega
   ·obtain⟨⟨o',j⟩,hm,hj⟩:=List.any_eq_true.1 h1;simp only[Zc,Zm,Zal]at hj;have hoj:=Ya.1 hm;have hjl:j<ops.length:=(Zd.1 hoj).1;by_cases hjn:j=n
    ·subst hjn;rw[ho]at hoj;injection hoj with hoj;subst hoj
     exact haf i hj.2
    ·have hjlt:j<n:=by omega
     exact hcl j o' hoj (ih (n-j) (by omega) j rfl hjlt) i hj.2
 intro i hi;exact key (n-i) i rfl hi
theorem bwh{P:Program}{G:World→Prop}{ops:List AOper}{os:List AOper}{o:AOper}{K:Ts→Hp→Prop}{ts:Ts}{h h1:Hp}{v:A}(hops:ops=os++[o])(he:edgesB 0 ops=true)(hs:seesB ops=true)(hk:sinkB ops=true)(hg:o.guard=none)
  (hp:aquiet P G h os (fun ts=>aopP P G (evX ts) h (fun v' h'=>v'=v∧h'=h1) o.op∧K (put ts o.dst v) h1) ts):adraw P G ops K ts h:=by
 obtain⟨vs,t1,t2,t3⟩:=ax2 os ts hp;have hlen:ops.length=os.length+1:=by rw[hops];simp
 have hon:ops[os.length]?=some o:=by rw[hops];simp
 have hgo:∀i,i<os.length→ops[i]?=os[i]?:=fun i hi=>by rw[hops,ZO hi]
 let vals:Nat→A:=fun i=>if i=os.length then v else vs i
 have hpre:∀i,i≤os.length→pre ts os vs i=TD ops vals ts (fun j=>decide (j<i)):=by
  intro i hi;have hpe:∀(xs:List AOper) (k:Nat) (ts:Ts) (w1 w2:Nat→A),(∀q,q<k→w1 q=w2 q)→pre ts xs w1 k=pre ts (xs++[o]) w2 k∨xs.length<k:=by
   intro xs;induction xs with
   |nil=>intro k ts w1 w2 hq;cases k with
    |zero=>exact .inl rfl
    |succ k=>exact .inr (by simp)
   |cons x xs ih=>
    intro k ts w1 w2 hq;cases k with
    |zero=>exact .inl rfl
    |succ k=>
     rcases ih k (put ts x.dst (w1 0)) (fun q=>w1 (q+1)) (fun q=>w2 (q+1)) (fun q hq'=>hq (q+1) (by omega))with h2|h2
     ·left
      simp only[pre,Zo];rw[h2,hq 0 (by omega)]
     ·right;simp;omega
  rcases hpe os i ts vs vals (fun q hq=>by show vs q=if q=os.length then v else vs q;rw[if_neg (by omega)])with h2|h2
  ·rw[h2,←hops];exact funext fun x=>pre_eq ops 0 ts vals i he (by omega) x
  ·omega
 refine akj he vals (fun D=>if D os.length=true then h1 else h) (by simp) (fun D i oi hi hDi hcl haf=>?_) ?_
 ·have hsee:=bzp he hs hi hDi hcl haf vals ts;have hilt:i<ops.length:=(Zd.1 hi).1;by_cases hin:i=os.length
  ·subst hin;rw[hon]at hi;injection hi with hi;subst hi
   rw[←hpre _ (Zf _)]at hsee;rw[hg];simp only[hDi,Zi,if_false,YV,YR,if_true];show aopP P G _ h _ o.op
   have hv:vals os.length=v:=by show(if os.length=os.length then v else _)=v;rw[if_pos rfl]
   rw[hv];exact aqy (ax6 fun x hx=>(hsee x hx).symm) t2
  ·have hi':i<os.length:=by omega
   have hDn:D os.length=false:=by
    cases hDn:D os.length with
    |false=>rfl
    |true=>
     rw[cxx hk hlen.symm hon hcl (fun j hj=>hcl _ _ hon hDn j hj) i hi']at hDi;cases hDi
   have h3:=t1 i oi (by rw[←hgo i hi'];exact hi);rw[hpre i (by omega)]at h3;have hne:(os.length==i)=false:=by simp;omega
   simp only[hDn,hne,Zi,if_false,Yr];have hv:vals i=vs i:=by show(if i=os.length then v else vs i)=vs i;rw[if_neg hin]
   rw[hv];refine axs (fun x hx=>(hsee x hx).symm) (azs (fun hq=>?_) (fun hq=>⟨hq,trivial⟩) h3);exact aqy (ax6 fun x hx=>(hsee x hx).symm) hq
 ·have h4:TD ops vals ts (fun j=>decide (j<ops.length))=put (TD ops vals ts fun j=>decide (j<os.length)) o.dst v:=by
   have e1:pre ts ops vals ops.length=TD ops vals ts (fun j=>decide (j<ops.length)):=funext fun x=>pre_eq ops 0 ts vals _ he (Zf _) x
   have e2:pre ts ops vals os.length=TD ops vals ts (fun j=>decide (j<os.length)):=funext fun x=>pre_eq ops 0 ts vals _ he (by omega) x
   rw[←e1,←e2,hlen,hops];have hstep:∀(xs:List AOper) (ts:Ts) (w1:Nat→A),pre ts (xs++[o]) w1 (xs.length+1)=put (pre ts (xs++[o]) w1 xs.length) o.dst (w1 xs.length):=by
    intro xs;induction xs with
    |nil=>intro ts w1;rfl
    |cons x xs ih=>intro ts w1;exact ih _ _
   rw[hstep];congr 1;show(if os.length=os.length then v else _)=v
   rw[if_pos rfl]
  rw[h4,←hpre _ (Zf _)];simp only[hlen,Nat.lt_succ_self,decide_true,if_true];exact t3
theorem cjh{P:Program}{G:World→Prop}{ops:List AOper}{Q:AExit→Ts→Hp→Prop}{ts:Ts}{h:Hp}(os:List AOper)(o:AOper)(h1:Hp)(v:A)(hops:ops=os++[o])(hb:(edgesB 0 ops&&seesB ops&&sinkB ops&&o.guard.isNone)=true)
  (hq:aquiet P G h os (fun ts=>aopP P G (evX ts) h (fun v' h'=>v'=v∧h'=h1) o.op∧Q .normal (put ts o.dst v) h1) ts):awp P G (.reg true ops) Q ts h:=by
 simp only[Zc,Option.isNone_iff_eq_none]at hb;exact⟨hb.1.1.1,bwh hops hb.1.1.1 hb.1.1.2 hb.1.2 hb.2 hq⟩
end AX
end
section
open Go.RowKit
namespace AX
section
variable {P:Program} {G:World→Prop}
theorem ckj{K:Ts→Hp→Prop}{ts:Ts}{h:Hp}(k:K ts h):aops P G [] K ts h:=k
theorem byk{d:Option Nat}{o:AOp}{af:List Nat}{os:List AOper}{K:Ts→Hp→Prop}{ts:Ts}{h h':Hp}{v:A}(hc:o.isCall=false)(hs:astep (evX ts) h o=some (v,h'))(k:aops P G os K (put ts d v) h'):aops P G (⟨d,o,none,af⟩::os) K ts h:=by
 show aopP P G (evX ts) h _ o
 cases o with
 |call=>simp[AOp.isCall]at hc
 |callv=>simp[AOp.isCall]at hc
 |_=>simp only[aopP];rw[hs];exact k
theorem cv8{d:Option Nat}{o:AOp}{t:Nat}{b:Bool}{af:List Nat}{os:List AOper}{K:Ts→Hp→Prop}{ts:Ts}{h h':Hp}{v:A}(hg:ts t=.bool b)(hc:o.isCall=false)(hs:astep (evX ts) h o=some (v,h'))(k:aops P G os K (put ts d v) h'):aops P G (⟨d,o,some (t,b),af⟩::os) K ts h:=by
 have key:=byk (P:=P) (G:=G) (d:=d) (af:=af) hc hs k;show guardP ts (some (t,b)) _ _
 simp only[guardP,hg];exact⟨fun _=>key,fun e=>(by cases b<;>cases e)⟩
theorem go_skip{d:Option Nat}{o:AOp}{t:Nat}{b:Bool}{af:List Nat}{os:List AOper}{K:Ts→Hp→Prop}{ts:Ts}{h:Hp}(hg:ts t=.bool (!b))(k:aops P G os K (put ts d (.tup [])) h):aops P G (⟨d,o,some (t,b),af⟩::os) K ts h:=by
 show guardP ts (some (t,b)) _ _
 simp only[guardP,hg];exact⟨fun e=>(by cases b<;>cases e),fun _=>k⟩
theorem cxo{d:Option Nat}{o:AOp}{t:Nat}{b:Bool}{af:List Nat}{os:List AOper}{K:Ts→Hp→Prop}{ts:Ts}{h:Hp}(hg:ts t=.tup [])(k:aops P G os K (put ts d (.tup [])) h):aops P G (⟨d,o,some (t,b),af⟩::os) K ts h:=by
 show guardP ts (some (t,b)) _ _
 simp only[guardP,hg];exact k
theorem go_call{d:Option Nat}{f:FuncId}{as:List Opd}{vs:List A}{af:List Nat}{os:List AOper}{K:Ts→Hp→Prop}{ts:Ts}{h:Hp}(ha:as.map (evX ts)=vs)(k:ACall P G f vs h fun v h'=>aops P G os K (put ts d v) h'):aops P G (⟨d,.call f as,none,af⟩::os) K ts h:=by
 subst ha;exact k
theorem cjd{d:Option Nat}{f:FuncId}{t:Nat}{b:Bool}{as:List Opd}{vs:List A}{af:List Nat}{os:List AOper}{K:Ts→Hp→Prop}{ts:Ts}{h:Hp}(hg:ts t=.bool b)(ha:as.map (evX ts)=vs)(k:ACall P G f vs h fun v h'=>aops P G os K (put ts d v) h'):aops P G (⟨d,.call f as,some (t,b),af⟩::os) K ts h:=by
 subst ha;show guardP ts (some (t,b)) _ _
 simp only[guardP,hg];exact⟨fun _=>k,fun e=>(by cases b<;>cases e)⟩
theorem cjf{d:Option Nat}{x:Opd}{f:FuncId}{caps:List A}{as:List Opd}{vs:List A}{af:List Nat}{os:List AOper}{K:Ts→Hp→Prop}{ts:Ts}{h:Hp}(hx:evX ts x=.fn f caps)(hb:Nat.blt f bmk=true)(hok:callOk P f=true)(ha:as.map (evX ts)++caps=vs)(k:ACall P G f vs h fun v h'=>aops P G os K (put ts d v) h'):aops P G (⟨d,.callv x as,none,af⟩::os) K ts h:=by
 subst ha;have hb:=Nat.blt_eq.mp hb;exact⟨f,caps,hx,by rw[vF,if_pos hb];exact hok,by rw[vF,vA,if_pos hb,if_pos hb];exact k⟩
theorem ckn{K:Ts→Prop}{ts:Ts}{h:Hp}(k:K ts):aquiet P G h [] K ts:=k
theorem cwf{d:Option Nat}{o:AOp}{af:List Nat}{os:List AOper}{K:Ts→Prop}{ts:Ts}{h:Hp}{v:A}(hc:o.isCall=false)(hs:astep (evX ts) h o=some (v,h))(k:aquiet P G h os K (put ts d v)):aquiet P G h (⟨d,o,none,af⟩::os) K ts:=by
 show aopQ P G (evX ts) h _ o
 cases o with
 |call=>simp[AOp.isCall]at hc
 |callv=>simp[AOp.isCall]at hc
 |_=>simp only[aopQ];rw[hs];exact⟨rfl,k⟩
theorem cki{d:Option Nat}{o:AOp}{t:Nat}{b:Bool}{af:List Nat}{os:List AOper}{K:Ts→Prop}{ts:Ts}{h:Hp}{v:A}(hg:ts t=.bool b)(hc:o.isCall=false)(hs:astep (evX ts) h o=some (v,h))(k:aquiet P G h os K (put ts d v)):aquiet P G h (⟨d,o,some (t,b),af⟩::os) K ts:=by
 have key:=cwf (P:=P) (G:=G) (d:=d) (af:=af) hc hs k;show guardP ts (some (t,b)) _ _
 simp only[guardP,hg];exact⟨fun _=>key,fun e=>(by cases b<;>cases e)⟩
theorem cye{d:Option Nat}{o:AOp}{t:Nat}{b:Bool}{af:List Nat}{os:List AOper}{K:Ts→Prop}{ts:Ts}{h:Hp}(hg:ts t=.bool (!b))(k:aquiet P G h os K (put ts d (.tup []))):aquiet P G h (⟨d,o,some (t,b),af⟩::os) K ts:=by
 show guardP ts (some (t,b)) _ _
 simp only[guardP,hg];exact⟨fun e=>(by cases b<;>cases e),fun _=>k⟩
theorem cjl{d:Option Nat}{o:AOp}{t:Nat}{b:Bool}{af:List Nat}{os:List AOper}{K:Ts→Prop}{ts:Ts}{h:Hp}(hg:ts t=.tup [])(k:aquiet P G h os K (put ts d (.tup []))):aquiet P G h (⟨d,o,some (t,b),af⟩::os) K ts:=by
 show guardP ts (some (t,b)) _ _
 simp only[guardP,hg];exact k
theorem byu{d:Option Nat}{f:FuncId}{as:List Opd}{vs:List A}{r:A}{af:List Nat}{os:List AOper}{K:Ts→Prop}{ts:Ts}{h:Hp}(ha:as.map (evX ts)=vs)(hcall:ACall P G f vs h fun v' h'=>v'=r∧h'=h)(k:aquiet P G h os K (put ts d r)):aquiet P G h (⟨d,.call f as,none,af⟩::os) K ts:=by
 subst ha;exact⟨r,hcall,k⟩
theorem cyk{Q:AExit→Ts→Hp→Prop}{ts:Ts}{h:Hp}(k:Q .normal ts h):awp P G .skip Q ts h:=k
theorem dza{ops:List AOper}{Q:AExit→Ts→Hp→Prop}{ts:Ts}{h:Hp}(k:aops P G ops (Q .normal) ts h):awp P G (.reg false ops) Q ts h:=k
theorem bvo{x y:ACode}{Q:AExit→Ts→Hp→Prop}{ts:Ts}{h:Hp}(k:awp P G x (thenA (awp P G y Q) Q) ts h):awp P G (.seq x y) Q ts h:=k
theorem cxg{c:Opd}{x y:ACode}{Q:AExit→Ts→Hp→Prop}{ts:Ts}{h:Hp}(hc:evX ts c=.bool true)(k:awp P G x Q ts h):awp P G (.cond c x y) Q ts h:=by
 show condP (evX ts c) _ _
 rw[hc];exact⟨fun _=>k,fun e=>(by cases e)⟩
theorem cjr{c:Opd}{x y:ACode}{Q:AExit→Ts→Hp→Prop}{ts:Ts}{h:Hp}(hc:evX ts c=.bool false)(k:awp P G y Q ts h):awp P G (.cond c x y) Q ts h:=by
 show condP (evX ts c) _ _
 rw[hc];exact⟨fun e=>(by cases e),fun _=>k⟩
theorem cyo{c:Opd}{b:Bool}{x y:ACode}{Q:AExit→Ts→Hp→Prop}{ts:Ts}{h:Hp}(hc:evX ts c=.bool b)(k1:b=true→awp P G x Q ts h)(k2:b=false→awp P G y Q ts h):awp P G (.cond c x y) Q ts h:=by
 show condP (evX ts c) _ _
 rw[hc];exact⟨k1,k2⟩
theorem bkp{id:Nat}{c:ACode}{Q:AExit→Ts→Hp→Prop}{ts:Ts}{h:Hp}(k:awp P G c (blkA id Q) ts h):awp P G (.block id c) Q ts h:=k
theorem bvf{id:Nat}{Q:AExit→Ts→Hp→Prop}{ts:Ts}{h:Hp}(k:Q (.exit id) ts h):awp P G (.exit id) Q ts h:=k
theorem go_ret{Q:AExit→Ts→Hp→Prop}{ts:Ts}{h:Hp}(k:Q .ret ts h):awp P G .ret Q ts h:=k
theorem cym{K:Ts→Hp→Prop}{Q:AExit→Ts→Hp→Prop}{ts:Ts}{h:Hp}(k:K ts h):thenA K Q .normal ts h:=k
theorem ck4{K:Ts→Hp→Prop}{Q:AExit→Ts→Hp→Prop}{ts:Ts}{h:Hp}(k:Q .ret ts h):thenA K Q .ret ts h:=k
theorem cwa{K:Ts→Hp→Prop}{Q:AExit→Ts→Hp→Prop}{id:Nat}{ts:Ts}{h:Hp}(k:Q (.exit id) ts h):thenA K Q (.exit id) ts h:=k
theorem cwe{id:Nat}{Q:AExit→Ts→Hp→Prop}{ts:Ts}{h:Hp}(k:Q .normal ts h):blkA id Q .normal ts h:=k
theorem cwx{id:Nat}{Q:AExit→Ts→Hp→Prop}{ts:Ts}{h:Hp}(k:Q .ret ts h):blkA id Q .ret ts h:=k
theorem cja{id:Nat}{Q:AExit→Ts→Hp→Prop}{ts:Ts}{h:Hp}(k:Q .normal ts h):blkA id Q (.exit id) ts h:=by
 show if id=id then _ else _
 rw[if_pos rfl];exact k
theorem cxq{id id':Nat}{Q:AExit→Ts→Hp→Prop}{ts:Ts}{h:Hp}(hne:(id'==id)=false)(k:Q (.exit id') ts h):blkA id Q (.exit id') ts h:=by
 show if id'=id then _ else _
 rw[if_neg (by simpa using hne)];exact k
theorem cx4{rs:List ARes}{Q:A→Hp→Prop}{ts:Ts}{h:Hp}{l:List A}(hr:resA ts h rs=some l)(k:∃v,le (tupA l) v∧Q v h):finQ rs Q .ret ts h:=by
 show finO (resA ts h rs) Q h
 rw[hr];exact k
theorem by1{rs:List ARes}{Q:A→Hp→Prop}{ts:Ts}{h:Hp}{l:List A}(hr:resA ts h rs=some l)(k:∃v,le (tupA l) v∧Q v h):finQ rs Q .normal ts h:=cx4 hr k
theorem pcall{f:FuncId}{args:List A}{r:A}(hc:ACall P G f args ⟨[],[]⟩ fun v _=>v=r)(hp:r.pure=true)(ha:args.all A.pure=true)(h:Hp):ACall P G f args h fun v h'=>v=r∧h'=h:=
 (hc.beside (fun v h' e=>by rw[e];exact hp) ha h).mono fun v h' ⟨h1,_,h2⟩=>⟨h2,h1⟩
end
end AX
end
section
open Go.RowKit
namespace AX
def stageB(ops:List AOper)(acts:List Nat)(i k:Nat):Bool:=
 acts.zipIdx.all fun(a,m)=>(!((ops[i]?.map (·.after)).getD []).contains a||decide (m<k))&&(!(((ops[a]?.map (·.after)).getD []).contains i||a==i)||decide (k≤m))
def chainB(ops:List AOper)(acts:List Nat):Bool:=
 acts.zipIdx.all fun(a,m)=>decide (a<ops.length)&&((ops[a]?.map (·.guard.isNone)).getD false)&&(acts.take m).all fun a'=>((ops[a]?.map (·.after)).getD []).contains a'
def chainG(ops:List AOper)(acts:List Nat):Bool:=
 acts.zipIdx.all fun(a,m)=>decide (a<ops.length)&&(acts.take m).all fun a'=>((ops[a]?.map (·.after)).getD []).contains a'
theorem aku{ops:List AOper}{acts:List Nat}(h:chainB ops acts=true):chainG ops acts=true:=by
 unfold chainB at h;unfold chainG;rw[ZE]at h⊢;intro x hx;have:=h x hx;simp only[Zc]at this⊢;exact⟨this.1.1,this.2⟩
def stagesB(ops:List AOper)(acts:List Nat)(stg:List (List Nat)):Bool:=
 (List.range ops.length).all fun i=>(List.range (acts.length+1)).all fun k=>!stageB ops acts i k||(stg.getD i []).contains k
def forL(p:Nat→Prop):List Nat→Prop
 |[]=>True
 |k::ks=>p k∧forL p ks
theorem ay8{p:Nat→Prop}:∀{ks:List Nat},forL p ks→∀k∈ks,p k
 |[],_,k,hk=>by simp at hk
 |a::ks,h,k,hk=>by
  rcases Z8.1 hk with rfl|hk
  ·exact h.1
  ·exact ay8 h.2 k hk
def achain(P:Program)(G:World→Prop)(acts:List Nat)(hl:List Hp):Nat→List AOper→List (List Nat)→(Ts→Prop)→Ts→Prop
 |_,[],_,K,ts=>K ts
 |i,o::os,stg,K,ts=>∃v,forL (fun k=>guardP ts o.guard (aopP P G (evX ts) (hl.getD k ⟨[],[]⟩) (fun v' h'=>v'=v∧h'=hl.getD (if acts[k]?=some i then k+1 else k) ⟨[],[]⟩) o.op) (v=.tup []∧hl.getD (if acts[k]?=some i then k+1 else k) ⟨[],[]⟩=hl.getD k ⟨[],[]⟩)) (stg.headD [])∧achain P G acts hl (i+1) os stg.tail K (put ts o.dst v)
section
variable {P:Program} {G:World→Prop}
theorem avt{acts:List Nat}{hl:List Hp}{K:Ts→Prop}:∀(os:List AOper) (b:Nat) (stg:List (List Nat)) (ts:Ts),achain P G acts hl b os stg K ts →
  ∃vs:Nat→A,(∀(i:Nat) (o:AOper),os[i]?=some o→∀k∈stg.getD i [],guardP (pre ts os vs i) o.guard (aopP P G (evX (pre ts os vs i)) (hl.getD k ⟨[],[]⟩) (fun v' h'=>v'=vs i∧h'=hl.getD (if acts[k]?=some (b+i)then k+1 else k) ⟨[],[]⟩) o.op) (vs i=.tup []∧hl.getD (if acts[k]?=some (b+i)then k+1 else k) ⟨[],[]⟩=hl.getD k ⟨[],[]⟩))∧K (pre ts os vs os.length)
 |[],b,stg,ts,hp=>⟨fun _=> .tup [],fun i o hi=>by simp at hi,hp⟩
 |o::os,b,stg,ts,hp=>by
  obtain⟨v,h1,h2⟩:=hp;obtain⟨vs,h3,h4⟩:=avt os (b+1) stg.tail _ h2;refine⟨fun i=>match i with|0=>v|i+1=>vs i,fun i o' hi k hk=>?_,h4⟩;cases i with
  |zero=>
   simp at hi;subst hi;have hk':k∈stg.headD []:=by cases stg with
    |nil=>simp at hk
    |cons a l=>simpa using hk
   exact ay8 h1 k hk'
  |succ i=>
   have hk':k∈stg.tail.getD i []:=by cases stg with
    |nil=>simp at hk
    |cons a l=>simpa using hk
   have:=h3 i o' (by simpa using hi) k hk';rw[show b+1+i=b+(i+1) by omega]at this;exact this
def cnt(acts:List Nat)(D:Nat→Bool):Nat:=(acts.takeWhile D).length
theorem ajj:∀(acts:List Nat) (D:Nat→Bool) (c:Nat),c≤acts.length→(∀m (h:m<acts.length),D acts[m]=true↔m<c)→cnt acts D=c
 |[],D,c,hc,h=>by simp at hc;subst hc;rfl
 |a::l,D,0,hc,h=>by
  have h0:=h 0 (by simp);simp at h0;simp[cnt,List.takeWhile_cons,h0]
 |a::l,D,c+1,hc,h=>by
  have h0:=h 0 (by simp);simp at h0;have ih:=ajj l D c (by simpa using hc) fun m hm=>by
   have:=h (m+1) (by simp;omega);simpa using this
  unfold cnt at ih⊢;rw[List.takeWhile_cons,h0];simp[ih]
theorem aq1 {ops:List AOper} {acts:List Nat} (hc:chainG ops acts=true) {m m':Nat} (hm:m < acts.length) (hlt:m' < m):∃ o,ops[acts[m]]?=some o∧acts[m']'(by omega)∈o.after:=by
 have h1:=ZE.1 hc (acts[m],m) (Ya.2 (Zn hm));simp only [Zc,Zm] at h1;have h2:=ZE.1 h1.2 (acts[m']'(by omega)) (by rw [List.mem_take_iff_getElem]; exact ⟨m',by omega,rfl⟩);have hlt':=h1.1;refine ⟨ops[acts[m]],Zn hlt',?_⟩;rw [Zn hlt'] at h2;simpa using h2
theorem bvv{ops:List AOper}{acts:List Nat}(hc:chainG ops acts=true){D:Nat→Bool}(hcl:Closed ops D):cnt acts D≤acts.length∧∀m (h:m<acts.length),D acts[m]=true↔m<cnt acts D:=by
 have key:∃c,c≤acts.length∧∀m (h:m<acts.length),D acts[m]=true↔m<c:=by
  have hdown:∀ m m' (h:m < acts.length) (hlt:m' < m),D acts[m]=true→D (acts[m']'(by omega))=true:=fun m m' h hlt hD=>by
   obtain⟨o,h1,h2⟩:=aq1 hc h hlt;exact hcl _ _ h1 hD _ h2
  have hex:∀n,n≤acts.length→∃c,c≤n∧∀m (h:m<n) (h':m<acts.length),D acts[m]=true↔m<c:=by
   intro n;induction n with
   |zero=>exact fun _=>⟨0,Zf _,fun m h=>by omega⟩
   |succ n ih=>
    intro hn;obtain⟨c,h1,h2⟩:=ih (by omega);by_cases hD:D (acts[n]'(by omega))=true
    ·refine⟨n+1,Zf _,fun m h h'=>⟨fun _=>h,fun _=>?_⟩⟩;by_cases hmn:m=n
     ·subst hmn;exact hD
     ·exact hdown n m (by omega) (by omega) hD
    ·refine⟨c,by omega,fun m h h'=>?_⟩;by_cases hmn:m=n
     ·subst hmn;exact⟨fun h=>absurd h hD,fun h=>by omega⟩
     ·exact h2 m (by omega) h'
  obtain⟨c,h1,h2⟩:=hex acts.length (Zf _);exact⟨c,h1,fun m h=>h2 m h h⟩
 obtain⟨c,h1,h2⟩:=key;rw[ajj acts D c h1 h2];exact⟨h1,h2⟩
theorem awj{ops:List AOper}{K:Ts→Hp→Prop}{ts:Ts}(acts:List Nat)(hl:List Hp)(stg:List (List Nat))(he:edgesB 0 ops=true)(hs:seesB ops=true)(hc:chainG ops acts=true)(hst:stagesB ops acts stg=true)
  (hp:achain P G acts hl 0 ops stg (fun ts=>K ts (hl.getD acts.length ⟨[],[]⟩)) ts):adraw P G ops K ts (hl.getD 0 ⟨[],[]⟩):=by
 obtain⟨vs,t1,t2⟩:=avt ops 0 stg ts hp;refine akj he vs (fun D=>hl.getD (cnt acts D) ⟨[],[]⟩) ?_ (fun D i o hi hDi hcl haf=>?_) ?_
 ·show hl.getD (cnt acts _) _=_
  rw[ajj acts (fun _=>false) 0 (Zz _) (fun m h=>by simp)]
 ·obtain⟨hk1,hk2⟩:=bvv hc hcl;generalize hkD:cnt acts D=k at hk1 hk2;have hsee:=bzp he hs hi hDi hcl haf vs ts;have hilt:i<ops.length:=(Zd.1 hi).1;have hmem:k∈stg.getD i []:=by
   have h1:=ZE.1 (ZE.1 hst i (List.mem_range.2 hilt)) k (List.mem_range.2 (by omega));have h2:stageB ops acts i k=true:=by
    unfold stageB;refine ZE.2 ?_;rintro⟨a,m⟩ hm;have hm':=Ya.1 hm;obtain⟨hml,hma⟩:=Zd.1 hm';subst hma;simp only[Zc,ZS,Zm,YG];constructor
    ·by_cases hin:acts[m]∈o.after
     ·right;exact(hk2 m hml).1 (haf _ hin)
     ·left;rw[hi];simpa using hin
    ·by_cases hin:D acts[m]=true
     ·left
      simp only[Yp];constructor
      ·cases ho:ops[acts[m]]? with
       |none=>simp
       |some o'=>
        simp only[ZR,ZZ];rw[Y3];intro hcon;have:=hcl _ _ ho hin i (by simpa using hcon);rw[hDi]at this;cases this
      ·rw[Y3];intro hcon;have:acts[m]=i:=by simpa using hcon
       rw[this,hDi]at hin;cases hin
     ·right
      have:=mt (hk2 m hml).2 hin;omega
   rw[h2]at h1;simpa using h1
  have h3:=t1 i o hi k hmem;rw[YD]at h3;have hpre:pre ts ops vs i=TD ops vs ts (fun j=>decide (j<i)):=funext fun x=>pre_eq ops 0 ts vs i he (by omega) x
  rw[hpre]at h3;have hcnt:cnt acts (fun j=>j==i||D j)=if acts[k]?=some i then k+1 else k:=by
   have hnd:∀ m m' (h:m < acts.length) (h':m' < m),acts[m]≠acts[m']'(by omega):=fun m m' h h' e=>by
    obtain⟨o',h1,h2⟩:=aq1 hc h h';have:=aqe he _ _ h1 _ h2;omega
   split
   ·next hki=>
    obtain⟨hkl,hki⟩:=Zd.1 hki;refine ajj acts _ (k+1) (by omega) fun m h=>?_
    simp only[ZS,ZA];rw[hk2 m h];constructor
    ·rintro(h1|h1)
     ·rcases Nat.lt_trichotomy m k with h4|h4|h4
      ·omega
      ·omega
      ·exact absurd (h1.trans hki.symm) (hnd m k h h4)
     ·omega
    ·intro h1;by_cases hmk:m=k
     ·subst hmk;exact .inl hki
     ·exact .inr (by omega)
   ·next hki=>
    refine ajj acts _ k hk1 fun m h=>?_
    simp only[ZS,ZA];rw[hk2 m h];constructor
    ·rintro(h1|h1)
     ·exfalso
      have h5:¬m<k:=fun h6=>by have:=(hk2 m h).2 h6;rw[h1,hDi]at this;cases this
      have h6:m≠k:=fun e=>by subst e;exact hki (by rw[Zn h,h1])
      obtain⟨o',h7,h8⟩:=aq1 hc h (show k<m by omega);rw[h1,hi]at h7;injection h7 with h7;subst h7
      have:=(hk2 k (by omega)).1 (haf _ h8);omega
     ·exact h1
    ·exact fun h1=> .inr h1
  rw[hcnt];refine axs (fun x hx=>(hsee x hx).symm) ?_;refine azs (fun hq=>?_) (fun hq=>hq) h3;exact aqy (ax6 fun x hx=>(hsee x hx).symm) hq
 ·have e1:pre ts ops vs ops.length=TD ops vs ts (fun j=>decide (j<ops.length)):=funext fun x=>pre_eq ops 0 ts vs _ he (Zf _) x
  show K _ (hl.getD (cnt acts _) _)
  rw[←e1,ajj acts _ acts.length (Zf _) fun m h=>?_]
  ·exact t2
  ·have h1:=ZE.1 hc (acts[m],m) (Ya.2 (Zn h));simp only[Zc,Zm]at h1;simp[h1.1,h]
theorem bxg{ops:List AOper}{Q:AExit→Ts→Hp→Prop}{ts:Ts}{h:Hp}(acts:List Nat)(hl:List Hp)(stg:List (List Nat))(h0:hl.getD 0 ⟨[],[]⟩=h)(hb:(edgesB 0 ops&&seesB ops&&chainG ops acts&&stagesB ops acts stg)=true)
  (hp:achain P G acts hl 0 ops stg (fun ts=>Q .normal ts (hl.getD acts.length ⟨[],[]⟩)) ts):awp P G (.reg true ops) Q ts h:=by
 simp only[Zc]at hb;subst h0;exact⟨hb.1.1.1,awj acts hl stg hb.1.1.1 hb.1.1.2 hb.1.2 hb.2 hp⟩
variable {acts:List Nat} {hl:List Hp} {stg:List (List Nat)} {i:Nat} {ks:List Nat} {d:Option Nat} {af:List Nat} {os:List AOper} {K:Ts→Prop} {ts:Ts} {v:A}
theorem cv3(k:K ts):achain P G acts hl i [] stg K ts:=k
theorem akx{o:AOp}(hc:o.isCall=false)(hs:forL (fun k=>astep (evX ts) (hl.getD k ⟨[],[]⟩) o=some (v,hl.getD (if acts[k]?=some i then k+1 else k) ⟨[],[]⟩)) ks)(k:achain P G acts hl (i+1) os stg K (put ts d v)):achain P G acts hl i (⟨d,o,none,af⟩::os) (ks::stg) K ts:=by
 refine⟨v,?_,k⟩;have key:∀ks,forL (fun k=>astep (evX ts) (hl.getD k ⟨[],[]⟩) o=some (v,hl.getD (if acts[k]?=some i then k+1 else k) ⟨[],[]⟩)) ks→forL (fun k=>guardP ts none (aopP P G (evX ts) (hl.getD k ⟨[],[]⟩) (fun v' h'=>v'=v∧h'=hl.getD (if acts[k]?=some i then k+1 else k) ⟨[],[]⟩) o) (v=.tup []∧hl.getD (if acts[k]?=some i then k+1 else k) ⟨[],[]⟩=hl.getD k ⟨[],[]⟩)) ks:=by
  intro ks;induction ks with
  |nil=>exact fun h=>h
  |cons a ks ih=>
   intro h;refine⟨?_,ih h.2⟩;have h1:=h.1;show aopP P G _ _ _ o
   cases o with
   |call=>simp[AOp.isCall]at hc
   |callv=>simp[AOp.isCall]at hc
   |_=>simp only[aopP];rw[h1];exact⟨rfl,rfl⟩
 exact key ks hs
theorem czk{f:FuncId}{as:List Opd}{vs:List A}(ha:as.map (evX ts)=vs)(hcall:forL (fun k=>ACall P G f vs (hl.getD k ⟨[],[]⟩) fun v' h'=>v'=v∧h'=hl.getD (if acts[k]?=some i then k+1 else k) ⟨[],[]⟩) ks)(k:achain P G acts hl (i+1) os stg K (put ts d v)):achain P G acts hl i (⟨d,.call f as,none,af⟩::os) (ks::stg) K ts:=by
 subst ha;exact⟨v,hcall,k⟩
end
end AX
end
end Go.Proofs.YtdgcbckcameggacGreatDoor
