/- Part of what the proof needs. -/
import Derived.Test.YtdgcbckcameggadGreatDoorMFrJournalLogsUpto0
import Derived.WalkKit
import Derived.WalkSpells
import Derived.WalkLawsBesides
import Derived.Laws.BitsAllLaws
import Derived.Lib.Hide
import Derived.Laws.Tables
import Derived.Laws.Entries
import Derived.Laws.Cells
import Derived.Laws.StructEq
import Derived.Laws.Slices
import Derived.Laws.Small
import Derived.Laws.AppendOwn
import Derived.Great.BuildSlice
set_option maxHeartbeats 4000000
set_option linter.unusedSimpArgs false
set_option linter.unusedVariables false
set_option linter.unnecessarySimpa false
namespace Go.Proofs.YtdgcbckcameggadGreatDoor
open Go.RowKit
structure Kept(p:Prop):Prop where
 out:p
theorem kept{p:Prop}(h:p):Kept p:=⟨h⟩
theorem aqg{k:IntKind}{a b:Int}(h:a=b):Ending.returned (.int k a)=Ending.returned (.int k b):=by rw[h]
theorem cwq{a b:List UInt8}(h:a=b):Ending.returned (.string ⟨a.toArray⟩)=Ending.returned (.string ⟨b.toArray⟩):=by rw[h]
theorem az9{a b:Bool}(h:a=b):Ending.returned (.bool a)=Ending.returned (.bool b):=by rw[h]
theorem axy{P:Program}(w:World){a b:ByteArray}{l m:List UInt8}(ha:a.data.toList=l)(hb:b.data.toList=m)(h:l.length+m.length<1099511627776) :
  (Op.stringOp .add a b).run P w=.ok (.string ⟨(l++m).toArray⟩) w:=by
 have e1:a.size=l.length:=by rw[←ha];simp
 have e2:b.size=m.length:=by rw[←hb];simp
 rw[run_string_add_sum w a b (by omega)];congr 2;apply ByteArray.ext;apply Yz.1;simp[ha,hb]
theorem bkr{s:ByteArray}{l:List UInt8}(h:s.data.toList=l):s=⟨l.toArray⟩:=by subst h;simp
theorem size_mk(l:List UInt8):(⟨l.toArray⟩:ByteArray).size=l.length:=by show l.toArray.size=_;simp
theorem bthen{W a b:World}(h:Below W.heap.size W a)(k:Below a.heap.size a b):Below W.heap.size W b:=h.trans (k.mono h.size)
theorem bdrew(W:World):Below W.heap.size W W.drew:=(Below.refl _ _).drew
theorem ball(W:World)(o:Obj):Below W.heap.size W (W.alloc o):=(Below.refl _ _).alloc (Zf _) o
def bcells(l:List UInt8):List Value:=l.map fun b=>Value.int .u8 b.toNat
theorem bzm(l:List UInt8):(bcells l).length=l.length:=by simp[bcells]
theorem byf(l:List UInt8)(j:Nat)(h:j<l.length):(bcells l)[j]?=some (.int .u8 l[j].toNat):=by simp[bcells,h]
theorem bzn(l m:List UInt8):bcells (l++m)=bcells l++bcells m:=by simp[bcells]
theorem bk2(l:List UInt8)(j:Nat)(b:UInt8):bcells (l.set j b)=(bcells l).set j (.int .u8 b.toNat):=by simp[bcells,List.map_set]
theorem byte_of(n:Int)(h0:0≤n)(h:n<256):((UInt8.ofNat n.toNat).toNat:Int)=n:=by
 rw[Z8];omega
theorem axe(b o j:Nat):(⟨b,o,none⟩:Addr).add j=⟨b,o+j,none⟩:=by unfold Addr.add;split<;>simp_all
def BytesAt(w:World)(g:Nat)(e:TypeId)(l:List UInt8):Prop:=
 ∃ cur lo hi,w.heap[g]?=some (.cells cur e (lo,hi))∧cur.toList.take l.length=bcells l∧(l.length≤lo∨hi=0)
namespace BytesAt
variable {w:World} {g:Nat} {e:TypeId} {l:List UInt8}
theorem lt(h:BytesAt w g e l):g<w.heap.size:=by
 obtain⟨cur,lo,hi,hg,_⟩:=h;exact(ZX.1 hg).1
theorem cell(h:BytesAt w g e l)(j:Nat)(hj:j<l.length):w.cell? ⟨g,j,none⟩=some (.int .u8 l[j].toNat):=by
 obtain⟨cur,lo,hi,hg,ht,_⟩:=h;rw[cell_of_row w g j cur e (lo,hi) hg];have h1:(cur.toList.take l.length)[j]?=cur.toList[j]?:=by rw[List.getElem?_take_of_lt hj]
 rw[←Array.getElem?_toList,←h1,ht,byf l j hj]
theorem free(h:BytesAt w g e l)(j:Nat)(hj:j<l.length):w.frozen? ⟨g,j,none⟩=false:=by
 obtain⟨cur,lo,hi,hg,_,hf⟩:=h;simp only[World.frozen?,hg];rcases hf with hf|hf
 ·have:¬lo≤j:=by omega
  simp[this]
 ·subst hf;simp
theorem set(h:BytesAt w g e l)(j:Nat)(b:UInt8):BytesAt (w.setCell ⟨g,j,none⟩ (.int .u8 b.toNat)) g e (l.set j b):=by
 obtain⟨cur,lo,hi,hg,ht,hf⟩:=h;refine⟨cur.setIfInBounds j (.int .u8 b.toNat),lo,hi,?_,?_,by simpa using hf⟩
 ·simp only[World.setCell,ZZ,if_true];rw[hg];simp
 ·rw[Array.toList_setIfInBounds,Ym,List.take_set,ht,bk2]
theorem below{w':World}{B:Nat}(h:BytesAt w g e l)(hb:Below B w w')(hg:g<B):BytesAt w' g e l:=by
 obtain⟨cur,lo,hi,h1,h2⟩:=h;exact⟨cur,lo,hi,(hb.block g hg).trans h1,h2⟩
theorem alloc(h:BytesAt w g e l)(o:Obj):BytesAt (w.alloc o) g e l:=
 h.below ((Below.refl w.heap.size w).alloc (Zf _) o) h.lt
theorem conv{P:Program}(h:BytesAt w g e l)(src dst:TypeId)(cap:Nat)(hs:P.underlying src=some (.slice e))(he:P.underlying e=some (.int .u8))(hd:P.underlying dst=some .string) :
  (convert src dst (.slice (some ⟨g,0,none⟩) l.length cap)).run P w=.ok (.string ⟨l.toArray⟩) w:=
 run_convert_bytes_back w src dst e ⟨g,0,none⟩ cap l hs he hd (fun j hj=>by rw[axe,Yt];exact h.cell j hj)
theorem conv_of{P:Program}(h:BytesAt w g e l)(src dst:TypeId)(n cap:Nat)(hn:l.length=n)(hs:P.underlying src=some (.slice e))(he:P.underlying e=some (.int .u8))(hd:P.underlying dst=some .string) :
  (convert src dst (.slice (some ⟨g,0,none⟩) n cap)).run P w=.ok (.string ⟨l.toArray⟩) w:=by subst hn;exact h.conv src dst cap hs he hd
theorem lit(w:World)(e:TypeId)(l:List UInt8):BytesAt (w.alloc (.cells (bcells l).toArray e)) w.heap.size e l:=
 ⟨(bcells l).toArray,0,0,heap_alloc_new w _,by simp[←bzm],.inr rfl⟩
end BytesAt
def OwnsB(w:World)(base:Nat)(e:TypeId)(v:Value)(l:List UInt8):Prop:=w.ownsRow base e 1 v l.length (bcells l)
namespace OwnsB
variable {w:World} {base:Nat} {e:TypeId} {v:Value} {l:List UInt8}
theorem nil(w:World)(base:Nat)(e:TypeId):OwnsB w base e (.slice none 0 0) []:=World.ownsRow_nil w base e 1
theorem below{w':World}{B:Nat}(h:OwnsB w base e v l)(hb:Below B w w')(hB:w.heap.size≤B):OwnsB w' base e v l:=
 World.ownsRow.kept (row:=none) h ⟨hb.os,hb.tape,hb.output,hb.size,fun k hk _=>hb.block k (by omega)⟩ (by cases v.ownBlock<;>simp)
theorem conv{P:Program}(h:OwnsB w base e v l)(src dst:TypeId)(hs:P.underlying src=some (.slice e))(he:P.underlying e=some (.int .u8))(hd:P.underlying dst=some .string) :
  (convert src dst v).run P w=.ok (.string ⟨l.toArray⟩) w:=by
 rcases h.2 with⟨rfl,h0⟩|⟨g,cap,cur,rfl,_,hg,_,_,_,ht⟩
 ·obtain rfl:l=[]:=ZD h0;rw[run_convert_bytes_string w src dst e none 0 0 hs he hd];simp[Conv.bytesToString];rfl
 ·exact BytesAt.conv (e:=e) ⟨cur,0,0,hg,by simpa using ht,.inr rfl⟩ src dst cap hs he hd
end OwnsB
theorem wpList_append_byte{P:Program}{ops:Array Oper}{rest:List Oper}{o:Oper}{a:Act}{Q:Exit→Act→World→Prop}{w0 w:World}(hgd:o.guard=none)(s x:Operand)(t e:TypeId)
  (ho:o.op=.call { callee:=.builtin .append,args:=#[s,x],argTypes:=#[t,t] })
  (ht:P.underlying t=some (.slice e)) (hi:(P.info? e).map (fun i=>(i.zero,i.size,i.bytes))=some (some (.int .u8 0),1,1))
  (B:Nat) (v:Value) (l:List UInt8) (hs:a.eval s=v) (hown:OwnsB w B e v l) (hbel:Below B w0 w)
  (ad:Addr) (c:Nat) (n:Int) (hx:a.eval x=.slice (some ad) 1 c) (hcell:w.cell? ad=some (.int .u8 n)) (h0:0≤n) (h1:n<256)
  (hlen:l.length<1099511627776) (hbase:B≤w.heap.size)
  (h:∀ v' w',OwnsB w' B e v' (l++[UInt8.ofNat n.toNat])→Below B w0 w'→w.heap.size≤w'.heap.size→wpList P ops Q rest (a.put o.dst v') w'):wpList P ops Q (o::rest) a w:=by
 obtain⟨i0,hi0,hz0,hz1,hz2⟩:=info_parts hi;refine wpList_append_own w hgd s x t ho B e i0 (.int .u8 0) 1 1 ht hi0 hz0 hz1 hz2 rfl (by decide) v l.length (bcells l) hs hown ad 1 c [.int .u8 n] hx rfl ?_ (by intro u hu;simp at hu;subst hu;rfl)
  (by unfold maxLen;omega) (by omega) hbase ?_
 ·intro j u hu;cases j with
  |zero=>simp at hu;subst hu;simpa [Addr.add]using hcell
  |succ j=>simp at hu
 ·intro v' w' hown' hgr _;refine h v' w' ?_ (hbel.grown hgr hbase ?_) hgr.size
  ·show w'.ownsRow B e 1 v' _ _
   rw[bzn,Za];have:bcells [UInt8.ofNat n.toNat]=[.int .u8 n]:=by simp only[bcells,List.map,byte_of n h0 h1]
   rw[this];exact hown'
  ·intro k hk;exact(World.ownsRow.lt hown k hk).1
end Go.Proofs.YtdgcbckcameggadGreatDoor

namespace Go.Proofs.YtdgcbckcameggadGreatDoor
open Go.RowKit
namespace AX
theorem ai{a b:Prop}(x:a)(y:b):a∧b:=⟨x,y⟩
theorem ti:True:=True.intro
inductive Own where
 |no|nil|tok (t:Nat)
inductive A where
 |int (k:IntKind) (n:Int)
 |str (l:List UInt8)
 |bool (b:Bool)
 |sl (W:Nat) (o:Own) (rows:List (List A))
 |ptr (i off:Nat)
 |vptr (cells:List A)
 |nilp
 |nili
 |nilf
 |nilm
 |mp (i:Nat)
 |bs (i W n:Nat)
 |fn (f:FuncId) (caps:List A)
 |agg (l:List A)
 |tup (l:List A)
structure Ctx where
 w:World
 S:Nat→Nat→Prop
 κ:Nat→Nat
 nb:Nat
 τ:Nat→Nat
 hw:Nat→Option (TypeId×Nat×Nat)
 own:Nat→Option Nat
 base:Nat
def A.data:A→Bool
 |.int ..=>true
 |.str ..=>true
 |.bool ..=>true
 |.sl _ .no _=>true
 |.sl _ .nil _=>true
 |.nilp=>true
 |.nili=>true
 |.nilf=>true
 |.nilm=>true
 |_=>false
def RowAt(C:Ctx)(g:Nat)(E:TypeId)(W cap:Nat):Prop:=∃ cur,C.w.heap[g]?=some (.cells cur E (0,0))∧cur.size=cap*W∧cap≤maxLen
def RepOwn(C:Ctx)(W:Nat)(o:Own)(n:Nat)(a:Option Addr)(cap:Nat):Prop:=
 match o with
 |.no=>True
 |.nil=>a=none∧cap=0∧n=0
 |.tok t=>∃ E m,C.hw t=some (E,W,m)∧n≤m∧(n=m→a=some ⟨C.τ t,0,none⟩∧RowAt C (C.τ t) E W cap)
def bmk:Nat:=1000000
def fnV(f:FuncId)(cs:Array Value):Value:=if f<bmk then .func (.func f) #[] cs else .func (.func (f%bmk)) cs #[]
mutual
def Rep(C:Ctx):A→Value→Prop
 |.int k n,v=>v=.int k n
 |.str l,v=>v=.string ⟨l.toArray⟩
 |.bool b,v=>v=.bool b
 |.sl W o rows,v=>∃ a cap,v=.slice a rows.length cap∧rows.length≤cap∧RepRows C W rows a 0∧RepOwn C W o rows.length a cap
 |.ptr i off,v=>v=.pointer (some ⟨C.κ i,off,none⟩)∧i<C.nb
 |.vptr cells,v=>∃ g off,v=.pointer (some ⟨g,off,none⟩)∧RepAt C cells g off
 |.nilp,v=>v=.pointer none
 |.nili,v=>v=.nilIface
 |.nilf,v=>v=.nilFunc
 |.nilm,v=>v=.map none
 |.mp i,v=>v=.map (some (C.κ i))∧i<C.nb
 |.bs i W n,v=>∃ cap,v=.slice (some ⟨C.κ i,0,none⟩) n cap∧n≤cap∧i<C.nb
 |.fn f caps,v=>∃ cs,v=fnV f cs.toArray∧RepL C caps cs
 |.agg l,v=>∃ cs,v=.agg cs.toArray∧RepL C l cs
 |.tup l,v=>∃ cs,v=.tuple cs.toArray∧RepL C l cs
def RepL(C:Ctx):List A→List Value→Prop
 |[],cs=>cs=[]
 |x::l,cs=>∃ c cs',cs=c::cs'∧Rep C x c∧RepL C l cs'
def RepAt(C:Ctx):List A→Nat→Nat→Prop
 |[],_,_=>True
 |x::l,g,o=>(C.S g o∧x.data=true∧∃ v,C.w.cell? ⟨g,o,none⟩=some v∧Rep C x v)∧RepAt C l g (o+1)
def RepRows(C:Ctx)(W:Nat):List (List A)→Option Addr→Nat→Prop
 |[],_,_=>True
 |r::rs,a,i=>(∃ g off,a=some ⟨g,off,none⟩∧r.length=W∧RepAt C r g (off+i*W))∧RepRows C W rs a (i+1)
end
structure Ext(C C':Ctx):Prop where
 cells:∀ g j,C.S g j→C'.S g j∧C'.w.cell? ⟨g,j,none⟩=C.w.cell? ⟨g,j,none⟩
 nb:C.nb≤C'.nb
 box:∀ i,i<C.nb→C'.κ i=C.κ i
 row:∀ t E W m,C.hw t=some (E,W,m)→∃ m',C'.hw t=some (E,W,m')∧(m<m'∨m=m'∧C'.τ t=C.τ t∧(∀ cap,RowAt C (C.τ t) E W cap→RowAt C' (C.τ t) E W cap))
theorem Ext.refl(C:Ctx):Ext C C:=⟨fun _ _ h=>⟨h,rfl⟩,Zf _,fun _ _=>rfl,fun t E W m h=>⟨m,h,.inr ⟨rfl,rfl,fun _ h=>h⟩⟩⟩
theorem Ext.trans{C C' C'':Ctx}(h:Ext C C')(k:Ext C' C''):Ext C C'':=by
 refine⟨fun g j hs=>?_,Zn h.nb k.nb,fun i hi=>(k.box i (ZL hi h.nb)).trans (h.box i hi),fun t E W m ht=>?_⟩
 ·have h1:=h.cells g j hs;have h2:=k.cells g j h1.1;exact⟨h2.1,h2.2.trans h1.2⟩
 ·obtain⟨m',h1,h2⟩:=h.row t E W m ht;obtain⟨m'',k1,k2⟩:=k.row t E W m' h1;refine⟨m'',k1,?_⟩;rcases h2 with h2|⟨rfl,h3,h4⟩
  ·rcases k2 with k2|⟨rfl,_⟩
   ·exact .inl (Nat.lt_trans h2 k2)
   ·exact .inl h2
  ·rcases k2 with k2|⟨rfl,k3,k4⟩
   ·exact .inl k2
   ·refine .inr ⟨rfl,k3.trans h3,fun cap hc=>?_⟩;have:=k4 cap (by rw[h3];exact h4 cap hc)
    rwa [h3]at this
theorem RepOwn.ext{C C':Ctx}(h:Ext C C'){W n cap:Nat}{o:Own}{a:Option Addr}(r:RepOwn C W o n a cap):RepOwn C' W o n a cap:=by
 cases o with
 |no=>trivial
 |nil=>exact r
 |tok t =>
  obtain⟨E,m,h1,h2,h3⟩:=r;obtain⟨m',k1,k2⟩:=h.row t E W m h1;rcases k2 with k2|⟨rfl,k3,k4⟩
  ·exact⟨E,m',k1,by omega,fun e=>by omega⟩
  ·refine⟨E,m,k1,h2,fun e=>?_⟩;obtain⟨h4,h5⟩:=h3 e;rw[k3];exact⟨h4,k4 cap h5⟩
mutual
theorem Rep.ext{C C':Ctx}(h:Ext C C'):∀(x:A) (v:Value),Rep C x v→Rep C' x v
 |.int k n,v,r=>by unfold Rep at r ⊢;exact r
 |.str l,v,r=>by unfold Rep at r ⊢;exact r
 |.bool b,v,r=>by unfold Rep at r ⊢;exact r
 |.sl W o rows,v,r=>by
  unfold Rep at r ⊢;obtain⟨a,cap,h1,h2,h3,h4⟩:=r;exact⟨a,cap,h1,h2,RepRows.ext h W rows a 0 h3,h4.ext h⟩
 |.ptr i off,v,r=>by
  unfold Rep at r ⊢;rw[h.box i r.2];exact⟨r.1,ZL r.2 h.nb⟩
 |.vptr cells,v,r=>by
  unfold Rep at r ⊢;obtain⟨g,off,h1,h2⟩:=r;exact⟨g,off,h1,RepAt.ext h cells g off h2⟩
 |.nilp,v,r=>by unfold Rep at r ⊢;exact r
 |.nili,v,r=>by unfold Rep at r ⊢;exact r
 |.nilf,v,r=>by unfold Rep at r ⊢;exact r
 |.nilm,v,r=>by unfold Rep at r ⊢;exact r
 |.mp i,v,r=>by
  unfold Rep at r ⊢;rw[h.box i r.2];exact⟨r.1,ZL r.2 h.nb⟩
 |.bs i W n,v,r=>by
  unfold Rep at r ⊢;obtain⟨cap,h1,h2,h3⟩:=r;rw[h.box i h3];exact⟨cap,h1,h2,ZL h3 h.nb⟩
 |.fn f caps,v,r=>by
  unfold Rep at r ⊢;obtain⟨cs,h1,h2⟩:=r;exact⟨cs,h1,RepL.ext h caps cs h2⟩
 |.agg l,v,r=>by
  unfold Rep at r ⊢;obtain⟨cs,h1,h2⟩:=r;exact⟨cs,h1,RepL.ext h l cs h2⟩
 |.tup l,v,r=>by
  unfold Rep at r ⊢;obtain⟨cs,h1,h2⟩:=r;exact⟨cs,h1,RepL.ext h l cs h2⟩
theorem RepL.ext{C C':Ctx}(h:Ext C C'):∀(l:List A) (cs:List Value),RepL C l cs→RepL C' l cs
 |[],cs,r=>by unfold RepL at r ⊢;exact r
 |x::l,cs,r=>by
  unfold RepL at r ⊢;obtain⟨c,cs',h1,h2,h3⟩:=r;exact⟨c,cs',h1,Rep.ext h x c h2,RepL.ext h l cs' h3⟩
theorem RepAt.ext{C C':Ctx}(h:Ext C C'):∀(l:List A) (g o:Nat),RepAt C l g o→RepAt C' l g o
 |[],g,o,r=>by unfold RepAt;trivial
 |x::l,g,o,r=>by
  unfold RepAt at r ⊢;obtain⟨⟨h1,h2,v,h3,h4⟩,h5⟩:=r;obtain⟨k1,k2⟩:=h.cells g o h1;exact⟨⟨k1,h2,v,k2.trans h3,Rep.ext h x v h4⟩,RepAt.ext h l g (o+1) h5⟩
theorem RepRows.ext{C C':Ctx}(h:Ext C C')(W:Nat):∀(l:List (List A)) (a:Option Addr) (i:Nat),RepRows C W l a i→RepRows C' W l a i
 |[],a,i,r=>by unfold RepRows;trivial
 |x::l,a,i,r=>by
  unfold RepRows at r ⊢;obtain⟨⟨g,off,h1,h2,h3⟩,h5⟩:=r;exact⟨⟨g,off,h1,h2,RepAt.ext h x g _ h3⟩,RepRows.ext h W l a (i+1) h5⟩
end
structure Same(C C':Ctx):Prop where
 cells:∀ g j,C.S g j→C'.S g j∧C'.w.cell? ⟨g,j,none⟩=C.w.cell? ⟨g,j,none⟩
def A.pure:A→Bool
 |.ptr ..=>false
 |.mp ..=>false
 |.bs ..=>false
 |.sl _ .no _=>true
 |.sl _ .nil _=>true
 |.sl ..=>false
 |.fn _ caps=>caps.all A.data
 |.agg l=>l.all A.data
 |.tup l=>l.all fun x=>match x with|.agg l=>l.all A.data|x=>x.data
 |_=>true
mutual
theorem Rep.same{C C':Ctx}(h:Same C C'):∀(x:A) (v:Value),x.data=true→Rep C x v→Rep C' x v
 |.int k n,v,d,r=>by unfold Rep at r ⊢;exact r
 |.str l,v,d,r=>by unfold Rep at r ⊢;exact r
 |.bool b,v,d,r=>by unfold Rep at r ⊢;exact r
 |.sl W .no rows,v,d,r=>by
  unfold Rep at r ⊢;obtain⟨a,cap,h1,h2,h3,h4⟩:=r;exact⟨a,cap,h1,h2,RepRows.same h W rows a 0 h3,trivial⟩
 |.sl W .nil rows,v,d,r=>by
  unfold Rep at r ⊢;obtain⟨a,cap,h1,h2,h3,h4⟩:=r;exact⟨a,cap,h1,h2,RepRows.same h W rows a 0 h3,h4⟩
 |.sl W (.tok t) rows,v,d,r=>by simp[A.data]at d
 |.ptr i off,v,d,r=>by simp[A.data]at d
 |.vptr cells,v,d,r=>by simp[A.data]at d
 |.nilp,v,d,r=>by unfold Rep at r ⊢;exact r
 |.nili,v,d,r=>by unfold Rep at r ⊢;exact r
 |.nilf,v,d,r=>by unfold Rep at r ⊢;exact r
 |.nilm,v,d,r=>by unfold Rep at r ⊢;exact r
 |.mp i,v,d,r=>by simp[A.data]at d
 |.bs i W n,v,d,r=>by simp[A.data]at d
 |.fn f caps,v,d,r=>by simp[A.data]at d
 |.agg l,v,d,r=>by simp[A.data]at d
 |.tup l,v,d,r=>by simp[A.data]at d
theorem RepAt.same{C C':Ctx}(h:Same C C'):∀(l:List A) (g o:Nat),RepAt C l g o→RepAt C' l g o
 |[],g,o,r=>by unfold RepAt;trivial
 |x::l,g,o,r=>by
  unfold RepAt at r ⊢;obtain⟨⟨h1,h2,v,h3,h4⟩,h5⟩:=r;obtain⟨k1,k2⟩:=h.cells g o h1;exact⟨⟨k1,h2,v,k2.trans h3,Rep.same h x v h2 h4⟩,RepAt.same h l g (o+1) h5⟩
theorem RepRows.same{C C':Ctx}(h:Same C C')(W:Nat):∀(l:List (List A)) (a:Option Addr) (i:Nat),RepRows C W l a i→RepRows C' W l a i
 |[],a,i,r=>by unfold RepRows;trivial
 |x::l,a,i,r=>by
  unfold RepRows at r ⊢;obtain⟨⟨g,off,h1,h2,h3⟩,h5⟩:=r;exact⟨⟨g,off,h1,h2,RepAt.same h x g _ h3⟩,RepRows.same h W l a (i+1) h5⟩
end
theorem RepL.same{C C':Ctx}(h:Same C C'):∀(l:List A) (cs:List Value),l.all A.data=true→RepL C l cs→RepL C' l cs
 |[],cs,d,r=>by unfold RepL at r ⊢;exact r
 |x::l,cs,d,r=>by
  unfold RepL at r ⊢;rw[ZE,Zc]at d;obtain⟨c,cs',h1,h2,h3⟩:=r;exact⟨c,cs',h1,Rep.same h x c d.1 h2,RepL.same h l cs' d.2 h3⟩
theorem RepL.same_tup{C C':Ctx}(h:Same C C'):∀(l:List A) (cs:List Value),(l.all fun x=>match x with|.agg l=>l.all A.data|x=>x.data)=true→RepL C l cs→RepL C' l cs
 |[],cs,d,r=>by unfold RepL at r ⊢;exact r
 |x::l,cs,d,r=>by
  unfold RepL at r ⊢;rw[ZE,Zc]at d;obtain⟨c,cs',h1,h2,h3⟩:=r;refine⟨c,cs',h1,?_,RepL.same_tup h l cs' d.2 h3⟩;have d1:=d.1;split at d1
  ·next l' =>
   unfold Rep at h2 ⊢;obtain⟨cs2,k1,k2⟩:=h2;exact⟨cs2,k1,RepL.same h l' cs2 d1 k2⟩
  ·exact Rep.same h x c d1 h2
theorem Rep.pure{C C':Ctx}(h:Same C C')(x:A)(v:Value)(d:x.pure=true)(r:Rep C x v):Rep C' x v:=by
 cases x with
 |ptr i off=>simp[A.pure]at d
 |mp i=>simp[A.pure]at d
 |bs i W n=>simp[A.pure]at d
 |vptr cells =>
  unfold Rep at r ⊢;obtain⟨g,off,h1,h2⟩:=r;exact⟨g,off,h1,RepAt.same h cells g off h2⟩
 |sl W o rows =>
  cases o with
  |no=>exact Rep.same h _ _ rfl r
  |nil=>exact Rep.same h _ _ rfl r
  |tok t=>simp[A.pure]at d
 |fn f caps =>
  unfold Rep at r ⊢;obtain⟨cs,h1,h2⟩:=r;exact⟨cs,h1,RepL.same h caps cs d h2⟩
 |agg l =>
  unfold Rep at r ⊢;obtain⟨cs,h1,h2⟩:=r;exact⟨cs,h1,RepL.same h l cs d h2⟩
 |tup l =>
  unfold Rep at r ⊢;obtain⟨cs,h1,h2⟩:=r;exact⟨cs,h1,RepL.same_tup h l cs d h2⟩
 |int k n=>exact Rep.same h _ _ rfl r
 |str l=>exact Rep.same h _ _ rfl r
 |bool b=>exact Rep.same h _ _ rfl r
 |nilp=>exact Rep.same h _ _ rfl r
 |nili=>exact Rep.same h _ _ rfl r
 |nilf=>exact Rep.same h _ _ rfl r
 |nilm=>exact Rep.same h _ _ rfl r
inductive Blk where
 |cells (T:TypeId) (l:List A)
 |opq (R:(Nat→Prop)→Nat→World→Prop) (vis:Nat→Option A)
 |map (es:List (Int×A)) (clock:Nat)
 |row (T:TypeId) (l:List A)
structure Hp where
 b:List Blk
 t:List (TypeId×Nat×Nat)
def RepEs(C:Ctx):List (Int×A)→List MapEntry→Prop
 |[],es=>es=[]
 |(n,x)::l,es=>∃ e es',es=e::es'∧e.key=.int .i64 n∧Rep C x e.val∧RepEs C l es'
def BornOk(es:List MapEntry)(clock:Nat):Prop:=(es.map (·.born)).Nodup∧∀ e∈es,e.born<clock
theorem RepEs.ext{C C':Ctx}(h:Ext C C'):∀ {l:List (Int×A)} {es:List MapEntry},RepEs C l es→RepEs C' l es
 |[],_,r=>r
 |(n,x)::l,es,r=>by
  obtain⟨e,es',h1,h2,h3,h4⟩:=r;exact⟨e,es',h1,h2,Rep.ext h _ _ h3,RepEs.ext h h4⟩
def BlkRep(C:Ctx)(i:Nat):Blk→Prop
 |.cells T l=>∃ cs:List Value,C.w.heap[C.κ i]?=some (.cells cs.toArray T (0,0))∧RepL C l cs
 |.opq R vis=>(∀ w':World,(∀ g,C.own g=some i→w'.heap[g]?=C.w.heap[g]?)→C.w.heap.size≤w'.heap.size→R (fun g=>C.own g=some i) (C.κ i) w')∧∀ o x,vis o=some x→∃ v,C.w.cell? ⟨C.κ i,o,none⟩=some v∧Rep C x v
 |.row T l=>∃ cs rest:List Value,C.w.heap[C.κ i]?=some (.cells (cs++rest).toArray T (0,0))∧RepL C l cs
 |.map l c=>∃ es:Array MapEntry,C.w.heap[C.κ i]?=some (.map es c)∧RepEs C l es.toList∧BornOk es.toList c
structure Inv(G:World→Prop)(C:Ctx)(h:Hp):Prop where
 nb:h.b.length=C.nb
 box:∀ i b,h.b[i]?=some b→BlkRep C i b
 ownk:∀ i,i<C.nb→C.own (C.κ i)=some i
 ownlt:∀ g i,C.own g=some i→i<C.nb∧g<C.w.heap.size∧C.base≤g
 prot:∀ g j,C.S g j→g<C.w.heap.size∧C.own g=none∧∀ t E W m,C.hw t=some (E,W,m)→C.τ t=g→j<m*W
 rows:∀ t E W m,C.hw t=some (E,W,m)→C.own (C.τ t)=none∧C.base≤C.τ t∧∃ cap,RowAt C (C.τ t) E W cap∧m≤cap
 inj:∀ t t',(C.hw t).isSome=true→(C.hw t').isSome=true→C.τ t=C.τ t'→t=t'
 toks:∀ t,C.hw t=h.t[t]?
 base:C.base≤C.w.heap.size
 glob:∀ w':World,(∀ g,g<C.base→w'.heap[g]?=C.w.heap[g]?)→G w'
structure Step(C C':Ctx):Prop where
 ext:Ext C C'
 os:C'.w.os=C.w.os
 tape:C'.w.tape=C.w.tape
 output:C'.w.output=C.w.output
 size:C.w.heap.size≤C'.w.heap.size
 base:C'.base=C.base
 frame:∀ g,g<C.w.heap.size→C.own g=none→(∀ t,(C.hw t).isSome=true→C.τ t≠g)→C'.w.heap[g]?=C.w.heap[g]?
 own:∀ g,g<C.w.heap.size→C'.own g=C.own g
 prot:∀ g j,C'.S g j→C.S g j∨C.w.heap.size≤g∨∃ t,(C.hw t).isSome=true∧C.τ t=g
 row:∀ t,(C'.hw t).isSome=true→C.w.heap.size≤C'.τ t∨((C.hw t).isSome=true∧C'.τ t=C.τ t)
theorem Step.refl(C:Ctx):Step C C:=
 ⟨Ext.refl C,rfl,rfl,rfl,Zf _,rfl,fun _ _ _ _=>rfl,fun _ _=>rfl,fun _ _ h => .inl h,fun t h => .inr ⟨h,rfl⟩⟩
theorem Step.trans{C C' C'':Ctx}(h:Step C C')(k:Step C' C''):Step C C'' where
 ext:=h.ext.trans k.ext
 os:=k.os.trans h.os
 tape:=k.tape.trans h.tape
 output:=k.output.trans h.output
 size:=Zn h.size k.size
 base:=k.base.trans h.base
 frame:=fun g hg ho ht=>by
  refine(k.frame g (ZL hg h.size) ((h.own g hg).trans ho) fun t hs e=>?_).trans (h.frame g hg ho ht);rcases h.row t hs with h1|⟨h1,h2⟩
  ·omega
  ·exact ht t h1 (h2.symm.trans e)
 own:=fun g hg=>(k.own g (ZL hg h.size)).trans (h.own g hg)
 prot:=fun g j hs=>by
  rcases k.prot g j hs with h1|h1|⟨t,h1,h2⟩
  ·exact h.prot g j h1
  ·exact .inr (.inl (Zn h.size h1))
  ·rcases h.row t h1 with h3|⟨h3,h4⟩
   ·exact .inr (.inl (by omega))
   ·exact .inr (.inr ⟨t,h3,h4.symm.trans h2⟩)
 row:=fun t hs=>by
  rcases k.row t hs with h1|⟨h1,h2⟩
  ·exact .inl (Zn h.size h1)
  ·rcases h.row t h1 with h3|⟨h3,h4⟩
   ·exact .inl (by omega)
   ·exact .inr ⟨h3,h2.trans h4⟩
def Ctx.at(C:Ctx)(w:World):Ctx:={ C with w:=w }
theorem cell_of_block{w w':World}{g j:Nat}(h:w'.heap[g]?=w.heap[g]?):w'.cell? ⟨g,j,none⟩=w.cell? ⟨g,j,none⟩:=by simp only[World.cell?,h]
theorem RowAt.same{C C':Ctx}{g cap W:Nat}{E:TypeId}(h:RowAt C g E W cap)(e:C'.w.heap[g]?=C.w.heap[g]?):RowAt C' g E W cap:=by
 obtain⟨cur,h1,h2⟩:=h;exact⟨cur,e.trans h1,h2⟩
theorem RowAt.lt{C:Ctx}{g cap W:Nat}{E:TypeId}(h:RowAt C g E W cap):g<C.w.heap.size:=by
 obtain⟨cur,h1,h2⟩:=h;exact(ZX.1 h1).1
theorem BlkRep.ext{C C':Ctx}{i:Nat}{b:Blk}(h:BlkRep C i b)(he:Ext C C')(hi:i<C.nb)(ho:C.own (C.κ i)=some i)(hlt:∀ g j,C.own g=some j→g<C.w.heap.size)
  (hblk:∀ g,C.own g=some i→C'.w.heap[g]?=C.w.heap[g]?) (hown:∀ g,C'.own g=some i↔C.own g=some i) (hsz:C.w.heap.size≤C'.w.heap.size):BlkRep C' i b:=by
 cases b with
 |cells T l =>
  obtain⟨cs,h1,h2⟩:=h;refine⟨cs,?_,RepL.ext he l cs h2⟩;rw[he.box i hi,hblk _ ho];exact h1
 |opq R vis =>
  refine⟨fun w' hw hs=>?_,fun o x hx=>?_⟩
  ·have:=h.1 w' (fun g hg=>(hw g ((hown g).2 hg)).trans (hblk g hg)) (Zn hsz hs);rw[he.box i hi];have e:(fun g=>C'.own g=some i)=(fun g=>C.own g=some i):=funext fun g=>propext (hown g)
   rw[e];exact this
  ·obtain⟨v,h1,h2⟩:=h.2 o x hx;exact⟨v,by rw[he.box i hi,cell_of_block (hblk _ ho)];exact h1,Rep.ext he x v h2⟩
 |row T l =>
  obtain⟨cs,rest,h1,h2⟩:=h;refine⟨cs,rest,?_,RepL.ext he l cs h2⟩;rw[he.box i hi,hblk _ ho];exact h1
 |map l c =>
  obtain⟨es,h1,h2,h3⟩:=h;exact⟨es,by rw[he.box i hi,hblk _ ho];exact h1,h2.ext he,h3⟩
theorem cqf{C:Ctx}{w':World}{h:Hp}{G:World→Prop}(hI:Inv G C h)(hb:Below C.w.heap.size C.w w'):Ext C (C.at w') where
 cells:=fun g j hs=>⟨hs,cell_of_block (hb.block g (hI.prot g j hs).1)⟩
 nb:=Zf _
 box:=fun _ _=>rfl
 row:=fun t E W m ht=>by
  obtain⟨_,_,cap,h1,_⟩:=hI.rows t E W m ht;exact⟨m,ht,.inr ⟨rfl,rfl,fun cap hc=>hc.same (hb.block _ h1.lt)⟩⟩
theorem aq7{C:Ctx}{w':World}{h:Hp}{G:World→Prop}(hI:Inv G C h)(hb:Below C.w.heap.size C.w w'):Inv G (C.at w') h∧Step C (C.at w'):=by
 have he:=cqf hI hb;refine⟨⟨hI.nb,fun i b hib=>?_,hI.ownk,fun g i hg=>?_,fun g j hs=>?_,fun t E W m ht=>?_,hI.inj,hI.toks,Zn hI.base hb.size,fun w2 hw=>?_⟩,⟨he,hb.os,hb.tape,hb.output,hb.size,rfl,fun g hg _ _=>hb.block g hg,fun _ _=>rfl,fun _ _ h => .inl h,fun t h => .inr ⟨h,rfl⟩⟩⟩
 ·have hi:i<C.nb:=by rw[←hI.nb];exact(Zd.1 hib).1
  exact(hI.box i b hib).ext he hi (hI.ownk i hi) (fun g j hg=>(hI.ownlt g j hg).2.1) (fun g hg=>hb.block g (hI.ownlt g i hg).2.1) (fun _=>Iff.rfl) hb.size
 ·obtain⟨h1,h2,h3⟩:=hI.ownlt g i hg;exact⟨h1,ZL h2 hb.size,h3⟩
 ·obtain⟨h1,h2,h3⟩:=hI.prot g j hs;exact⟨ZL h1 hb.size,h2,h3⟩
 ·obtain⟨h1,h2,cap,h3,h4⟩:=hI.rows t E W m ht;exact⟨h1,h2,cap,h3.same (hb.block _ h3.lt),h4⟩
 ·exact hI.glob w2 fun g hg=>(hw g hg).trans (hb.block g (ZL hg hI.base))
def ACall(P:Program)(G:World→Prop)(f:FuncId)(args:List A)(h:Hp)(Q:A→Hp→Prop):Prop:=
 ∀(C:Ctx) (cs:List Value),Inv G C h→RepL C args cs→Calls P f cs.toArray C.w fun e w' =>
  ∃(C':Ctx) (h':Hp) (v:A) (cv:Value),e=.returned cv∧C'.w=w'∧Inv G C' h'∧Step C C'∧Rep C' v cv∧Q v h'
theorem ACall.mono{P:Program}{G:World→Prop}{f:FuncId}{args:List A}{h:Hp}{Q Q':A→Hp→Prop}(hc:ACall P G f args h Q)(hq:∀ v h',Q v h'→Q' v h'):ACall P G f args h Q':=
 fun C cs hI ha=>(hc C cs hI ha).mono fun e w' ⟨C',h',v,cv,h1,h2,h3,h4,h5,h6⟩=>⟨C',h',v,cv,h1,h2,h3,h4,h5,hq _ _ h6⟩
theorem azs{P:Program}{G:World→Prop}{f:FuncId}{args:List A}{cargs:List Value}{v:A}{cv:Value}(hargs:∀ C cs,RepL C args cs→cs=cargs)
  (hc:∀ w,G w→Calls P f cargs.toArray w fun e w'=>e=.returned cv∧Below w.heap.size w w') (hv:∀ C,Rep C v cv) (h:Hp):ACall P G f args h fun v' h'=>v'=v∧h'=h:=by
 intro C cs hI ha;obtain rfl:=hargs C cs ha;refine(hc C.w (hI.glob C.w fun _ _=>rfl)).mono ?_;rintro e w' ⟨rfl,hb⟩;obtain⟨h1,h2⟩:=aq7 hI hb;exact⟨C.at w',h,v,cv,rfl,rfl,h1,h2,hv _,rfl,rfl⟩
def Ctx.hid(C:Ctx):Ctx:={ C with nb:=0,hw:=fun _=>none,own:=fun _=>none }
theorem RepL.pures{C C':Ctx}(h:Same C C'):∀(l:List A) (cs:List Value),l.all A.pure=true→RepL C l cs→RepL C' l cs
 |[],cs,d,r=>by unfold RepL at r ⊢;exact r
 |x::l,cs,d,r=>by
  unfold RepL at r ⊢;rw[ZE,Zc]at d;obtain⟨c,cs',h1,h2,h3⟩:=r;exact⟨c,cs',h1,Rep.pure h x c d.1 h2,RepL.pures h l cs' d.2 h3⟩
theorem ACall.beside{P:Program}{G:World→Prop}{f:FuncId}{args:List A}{Q:A→Hp→Prop}(hc:ACall P G f args ⟨[],[]⟩ Q)(hp:∀ v h',Q v h'→v.pure=true)(ha:args.all A.pure=true)(h:Hp) :
  ACall P G f args h fun v h'=>h'=h∧∃ h0,Q v h0:=by
 intro C cs hI hr;have hid:Inv G C.hid ⟨[],[]⟩:=by
  refine⟨rfl,fun i b hb=>by simp at hb,fun i hi=>by simp[Ctx.hid]at hi,fun g i hg=>by simp[Ctx.hid]at hg,fun g j hs=>?_,fun t E W m ht=>by simp[Ctx.hid]at ht,fun t t' ht=>by simp[Ctx.hid]at ht,fun t=>by simp[Ctx.hid],hI.base,hI.glob⟩;exact⟨(hI.prot g j hs).1,rfl,fun t E W m ht=>by simp[Ctx.hid]at ht⟩
 refine(hc C.hid cs hid (RepL.pures (C:=C) (C':=C.hid) ⟨fun g j hs=>⟨hs,rfl⟩⟩ args cs ha hr)).mono ?_;rintro e w' ⟨C1,h1,v,cv,rfl,rfl,I1,S1,r1,q1⟩;have hblk:∀ g,g<C.w.heap.size→C1.w.heap[g]?=C.w.heap[g]?:=fun g hg=>S1.frame g hg rfl fun t ht=>by simp[Ctx.hid]at ht
 let C2:Ctx:={ C with w:=C1.w,S:=C1.S,own:=fun g=>if g<C.w.heap.size then C.own g else none }
 have hsz:C.w.heap.size≤C1.w.heap.size:=S1.size;have he:Ext C C2:=by
  refine⟨fun g j hs=>S1.ext.cells g j hs,Zf _,fun _ _=>rfl,fun t E W m ht=>?_⟩;obtain⟨_,_,cap,h2,_⟩:=hI.rows t E W m ht;exact⟨m,ht,.inr ⟨rfl,rfl,fun cap hc=>hc.same (hblk _ h2.lt)⟩⟩
 have hown:∀ g i,C2.own g=some i↔C.own g=some i:=fun g i=>by
  show(if g<C.w.heap.size then C.own g else none)=some i↔_
  split
  ·exact Iff.rfl
  ·next hg=>exact⟨fun e=>(by cases e),fun e=>absurd (hI.ownlt g i e).2.1 hg⟩
 have hprot:∀ g j,C1.S g j→C.S g j∨C.w.heap.size≤g:=fun g j hs=>by
  rcases S1.prot g j hs with h2|h2|⟨t,h2,_⟩
  ·exact .inl h2
  ·exact .inr h2
  ·simp[Ctx.hid]at h2
 refine⟨C2,h,v,cv,rfl,rfl,⟨hI.nb,fun i b hib=>?_,fun i hi=>(hown _ _).2 (hI.ownk i hi),fun g i hg=>?_,fun g j hs=>?_,fun t E W m ht=>?_,hI.inj,hI.toks,Zn hI.base hsz,fun w2 hw=>?_⟩,⟨he,S1.os,S1.tape,S1.output,hsz,rfl,fun g hg _ _=>hblk g hg,fun g hg=>?_,fun g j hs=>?_,fun t ht => .inr ⟨ht,rfl⟩⟩,Rep.pure (C:=C1) (C':=C2) ⟨fun g j hs=>⟨hs,rfl⟩⟩ v cv (hp v h1 q1) r1,rfl,h1,q1⟩
 ·have hi:i<C.nb:=by rw[←hI.nb];exact(Zd.1 hib).1
  exact(hI.box i b hib).ext he hi (hI.ownk i hi) (fun g j hg=>(hI.ownlt g j hg).2.1) (fun g hg=>hblk g (hI.ownlt g i hg).2.1) (fun g=>hown g i) hsz
 ·obtain⟨k1,k2,k3⟩:=hI.ownlt g i ((hown g i).1 hg);exact⟨k1,ZL k2 hsz,k3⟩
 ·have hlt:=(I1.prot g j hs).1;rcases hprot g j hs with h2|h2
  ·obtain⟨k1,k2,k3⟩:=hI.prot g j h2;exact⟨hlt,by show(if g<C.w.heap.size then C.own g else none)=none;rw[if_pos k1,k2],k3⟩
  ·refine⟨hlt,by show(if g<C.w.heap.size then C.own g else none)=none;rw[if_neg (by omega)],fun t E W m ht e=>?_⟩;obtain⟨_,_,cap,k1,_⟩:=hI.rows t E W m ht;have:=k1.lt;have e':C.τ t=g:=e;omega
 ·obtain⟨k1,k2,cap,k3,k4⟩:=hI.rows t E W m ht;exact⟨by show(if C.τ t<C.w.heap.size then C.own (C.τ t)else none)=none;rw[if_pos k3.lt,k1],k2,cap,k3.same (hblk _ k3.lt),k4⟩
 ·exact hI.glob w2 fun g hg=>(hw g hg).trans (hblk g (ZL hg hI.base))
 ·show(if g<C.w.heap.size then C.own g else none)=C.own g
  rw[if_pos hg]
 ·rcases hprot g j hs with h2|h2
  ·exact .inl h2
  ·exact .inr (.inl h2)
inductive Opd where
 |t (n:Nat)
 |c (a:A)
inductive AOp where
 |mv (x:Opd)
 |pick (c a b:Opd)
 |alloc (T:TypeId) (z:List A)
 |box (T:TypeId) (x:Opd)
 |build (z:List A) (parts:List (Nat×Nat×Opd))
 |mks (W:Nat) (parts:List Opd)
 |mkr (E:TypeId) (W:Nat) (parts:List Opd)
 |mkl (E:TypeId) (W:Nat) (parts:List Opd)
 |slsl (W:Nat) (x:Opd) (lo hi:Option Opd)
 |load (agg:Bool) (n:Nat) (p:Opd)
 |store (n:Nat) (p x:Opd)
 |nilck (x:Opd)
 |faddr (off:Nat) (x:Opd)
 |iaddr (W:Nat) (x i:Opd)
 |sidx (x i:Opd)
 |ssl (x:Opd) (lo hi:Option Opd)
 |len (s:Bool) (x:Opd)
 |app (E:TypeId) (W bytes:Nat) (x y:Opd)
 |bin (op:BinOp) (x y:Opd)
 |eq (kind:Nat) (ks:List Nat) (ne:Bool) (x y:Opd)
 |un (op:UnOp) (x:Opd)
 |conv (k:IntKind) (x:Opd)
 |extract (x:Opd) (i:Nat)
 |max3 (x y z:Opd)
 |mkfn (f:FuncId) (caps:List Opd)
 |mkmap
 |mget (z:A) (ok:Bool) (m k:Opd)
 |mset (m k x:Opd)
 |mdel (m k:Opd)
 |mclr (m:Opd)
 |mlen (m:Opd)
 |mm (mx:Bool) (x y:Opd)
 |call (f:FuncId) (args:List Opd)
 |callv (x:Opd) (args:List Opd)
structure AOper where
 dst:Option Nat
 op:AOp
 guard:Option (Nat×Bool)
 after:List Nat
inductive ACode where
 |skip
 |reg (draw:Bool) (ops:List AOper)
 |seq (a b:ACode)
 |cond (c:Opd) (a b:ACode)
 |block (id:Nat) (c:ACode)
 |loop (c:ACode)
 |exit (id:Nat)
 |ret
 |prim (n:Nat) (c:Code)
def A.cells:A→List A
 |.agg l=>l
 |x=>[x]
def A.one:A→Bool
 |.agg _=>false
 |.tup _=>false
 |_=>true
def setCells:List A→Nat→List A→List A
 |l,_,[]=>l
 |l,o,x::xs=>setCells (l.set o x) (o+1) xs
def fillA(ev:Opd→A):List A→List (Nat×Nat×Opd)→Option (List A)
 |z,[]=>some z
 |z,(o,n,x)::ps=>if(ev x).cells.length=n∧o+n≤z.length then fillA ev (setCells z o (ev x).cells) ps else none
def rowsA(ev:Opd→A)(W:Nat):List Opd→Option (List (List A))
 |[]=>some []
 |x::xs=>if(ev x).cells.length=W∧(ev x).cells.all A.data=true then(rowsA ev W xs).map ((ev x).cells::·)else none
def rowsR(ev:Opd→A)(W:Nat):List Opd→Option (List (List A))
 |[]=>some []
 |x::xs=>if(ev x).cells.length=W then(rowsR ev W xs).map ((ev x).cells::·)else none
def eqCells:List Nat→List A→List A→Option Bool
 |[],[],[]=>some true
 |0::ks,.int k a::l,.int k' b::m=>if k=k' then(eqCells ks l m).map ((a==b)&&·)else none
 |1::ks,.str a::l,.str b::m=>(eqCells ks l m).map ((a==b)&&·)
 |2::ks,.bool a::l,.bool b::m=>(eqCells ks l m).map ((a==b)&&·)
 |_,_,_=>none
def shA(op:BinOp)(k:IntKind)(a b:Int):Option A:=
 match op with
 |.shl=>if 0≤b then some (.int k (k.wrap (a*2^(min b.toNat k.bits))))else none
 |.shr=>if 0≤b then some (.int k (a.fdiv (2^(min b.toNat k.bits))))else none
 |_=>none
def bop(op:BinOp):A→A→Option A
 |.int k a,.int k' b =>
  (match op with
  |.shl=>shA .shl k a b
  |.shr=>shA .shr k a b
  |_=>if k=k' then
   (match op with
   |.and=>some (.int k (bits .and k a b))
   |.or=>some (.int k (bits .or k a b))
   |.xor=>some (.int k (bits .xor k a b))
   |.andNot=>some (.int k (bits .andNot k a b))
   |.add=>some (.int k (k.wrap (a+b)))
   |.sub=>some (.int k (k.wrap (a-b)))
   |.mul=>some (.int k (k.wrap (a*b)))
   |.quo=>if b≠0 then some (.int k (k.wrap (a.tdiv b)))else none
   |.rem=>if b≠0 then some (.int k (a.tmod b))else none
   |.eql=>some (.bool (a==b))
   |.neq=>some (.bool (a !=b))
   |.lss=>some (.bool (decide (a<b)))
   |.leq=>some (.bool (decide (a≤b)))
   |.gtr=>some (.bool (decide (a>b)))
   |.geq=>some (.bool (decide (a≥b)))
   |_=>none)else none)
 |.str a,.str b =>
   (match op with
   |.add=>if a.length+b.length<1099511627776 then some (.str (a++b))else none
   |.eql=>some (.bool (a==b))
   |.neq=>some (.bool (a !=b))
   |.lss=>some (.bool (Op.bytesLess a b))
   |.leq=>some (.bool (Op.bytesLess a b||a==b))
   |.gtr=>some (.bool (!(Op.bytesLess a b||a==b)))
   |.geq=>some (.bool (!Op.bytesLess a b))
   |_=>none)
 |_,_=>none
def eqA:Nat→List Nat→A→A→Option Bool
 |0,_,.bool a,.bool b=>some (a==b)
 |1,_,.nilp,.nilp=>some true
 |1,_,.nilp,.ptr ..=>some false
 |1,_,.nilp,.vptr ..=>some false
 |1,_,.ptr ..,.nilp=>some false
 |1,_,.vptr ..,.nilp=>some false
 |2,ks,.agg l,.agg m=>eqCells ks l m
 |3,_,.nilm,.nilm=>some true
 |3,_,.nilm,.mp ..=>some false
 |3,_,.mp ..,.nilm=>some false
 |_,_,_,_=>none
def uop(op:UnOp):A→Option A
 |.bool b=>(match op with|.not=>some (.bool (!b))|_=>none)
 |.int k n=>(match op with|.neg=>some (.int k (k.wrap (0-n)))|_=>none)
 |_=>none
def loadA(h:Hp)(agg:Bool)(n:Nat):A→Option A
 |.ptr i o=>match h.b[i]? with
  |some (.cells _ l)=>if o+n≤l.length then(if agg then some (.agg ((l.drop o).take n))else((l.drop o).take n)[0]?)else none
  |some (.opq _ vis)=>if agg=false∧n=1 then vis o else none
  |some (.row _ l)=>if o+n≤l.length then(if agg then some (.agg ((l.drop o).take n))else((l.drop o).take n)[0]?)else none
  |_=>none
 |.vptr l=>if n≤l.length then(if agg then some (.agg (l.take n))else(l.take n)[0]?)else none
 |_=>none
def storeA(h:Hp)(n:Nat)(x:A):A→Option Hp
 |.ptr i o=>match h.b[i]? with
  |some (.cells T l)=>if x.cells.length=n∧o+n≤l.length∧x.cells.all A.one=true then some ⟨h.b.set i (.cells T (setCells l o x.cells)),h.t⟩else none
  |some (.row T l)=>if x.cells.length=n∧o+n≤l.length∧x.cells.all A.one=true then some ⟨h.b.set i (.row T (setCells l o x.cells)),h.t⟩else none
  |_=>none
 |_=>none
def appA(h:Hp)(E:TypeId)(W bytes:Nat):A→A→Option (A×Hp)
 |.sl W1 .nil xs,.sl W' _ ys=>if W'=W∧0<ys.length∧ys.length≤maxLen∧ys.length*bytes≤140737488355328 then
   some (.sl W (.tok h.t.length) ys,⟨h.b,h.t++[(E,W,ys.length)]⟩)else if ys.length=0 then some (.sl W1 .nil xs,h)else none
 |.sl W1 (.tok t) xs,.sl W' _ ys=>if W1=W∧W'=W∧0<ys.length∧h.t[t]?=some (E,W,xs.length)∧xs.length+ys.length≤maxLen∧(xs.length+ys.length)*bytes≤140737488355328 then
   some (.sl W (.tok t) (xs++ys),⟨h.b,h.t.set t (E,W,xs.length+ys.length)⟩)else if ys.length=0 then some (.sl W1 (.tok t) xs,h)else none
 |_,_=>none
def ssliceA(lo hi:Option A):A→Option A
 |.str l =>
  (match lo.getD (.int .i64 0),hi.getD (.int .i64 l.length)with
  |.int _ a,.int _ b=>if 0≤a∧a≤b∧b≤l.length then some (.str ((l.take b.toNat).drop a.toNat))else none
  |_,_=>none)
 |_=>none
def sslA(W:Nat)(lo hi:Option A):A→Option A
 |.sl W' _ rows =>
  (match lo.getD (.int .i64 0),hi.getD (.int .i64 rows.length)with
  |.int _ a,.int _ b=>if 0≤a∧a≤b∧b≤rows.length∧(W'=W∨rows.length=0)then some (.sl W .no ((rows.take b.toNat).drop a.toNat))else none
  |_,_=>none)
 |_=>none
def mfind(n:Int):List (Int×A)→Option A
 |[]=>none
 |(k,x)::l=>if n=k then some x else mfind n l
def mput(n:Int)(x:A):List (Int×A)→List (Int×A)
 |[]=>[(n,x)]
 |(k,y)::l=>if n=k then(n,x)::l else(k,y)::mput n x l
def merase(n:Int):List (Int×A)→List (Int×A)
 |[]=>[]
 |(k,y)::l=>if n=k then l else(k,y)::merase n l
def mclock(n:Int)(l:List (Int×A))(c:Nat):Nat:=if(mfind n l).isSome then c else c+1
def mgetV(z:A)(ok:Bool)(r:Option A):A:=if ok then .tup [r.getD z,.bool r.isSome]else r.getD z
def mgetA(h:Hp)(z:A)(ok:Bool):A→A→Option A
 |.nilm,.int .i64 _=>some (mgetV z ok none)
 |.mp i,.int .i64 n=>match h.b[i]? with
  |some (.map es _)=>some (mgetV z ok (mfind n es))
  |_=>none
 |_,_=>none
def msetA(h:Hp)(x:A):A→A→Option Hp
 |.mp i,.int .i64 n=>match h.b[i]? with
  |some (.map es c)=>some ⟨h.b.set i (.map (mput n x es) (mclock n es c)),h.t⟩
  |_=>none
 |_,_=>none
def mdelA(h:Hp):A→A→Option Hp
 |.mp i,.int .i64 n=>match h.b[i]? with
  |some (.map es c)=>some ⟨h.b.set i (.map (merase n es) c),h.t⟩
  |_=>none
 |_,_=>none
def mclrA(h:Hp):A→Option Hp
 |.mp i=>match h.b[i]? with
  |some (.map _ c)=>some ⟨h.b.set i (.map [] c),h.t⟩
  |_=>none
 |_=>none
def mlenA(h:Hp):A→Option A
 |.nilm=>some (.int .i64 0)
 |.mp i=>match h.b[i]? with
  |some (.map es _)=>some (.int .i64 es.length)
  |_=>none
 |_=>none
def astep(ev:Opd→A)(h:Hp):AOp→Option (A×Hp)
 |.mv x=>some (ev x,h)
 |.pick c a b=>(match ev c with|.bool t=>some (if t then ev a else ev b,h)|_=>none)
 |.alloc T z=>some (.ptr h.b.length 0,⟨h.b++[.cells T z],h.t⟩)
 |.box T x=>some (.ptr h.b.length 0,⟨h.b++[.cells T (ev x).cells],h.t⟩)
 |.build z ps=>(fillA ev z ps).map fun l=>(.agg l,h)
 |.mks W ps=>(rowsA ev W ps).map fun r=>(.sl W .no r,h)
 |.mkl E W ps=>(rowsA ev W ps).map fun r=>(.sl W (.tok h.t.length) r,⟨h.b,h.t++[(E,W,r.length)]⟩)
 |.slsl W x lo hi=>(sslA W (lo.map ev) (hi.map ev) (ev x)).map (·,h)
 |.mkr E W ps=>(rowsR ev W ps).map fun r=>(.bs h.b.length W r.length,⟨h.b++[.row E r.flatten],h.t⟩)
 |.load g n p=>(loadA h g n (ev p)).map (·,h)
 |.store n p x=>(storeA h n (ev x) (ev p)).map (.tup [],·)
 |.nilck x=>(match ev x with|.ptr i o=>some (.ptr i o,h)|.vptr l=>some (.vptr l,h)|_=>none)
 |.faddr o x=>(match ev x with|.ptr i p=>some (.ptr i (p+o),h)|.vptr l=>if o≤l.length then some (.vptr (l.drop o),h)else none|_=>none)
 |.iaddr W x i=>(match ev x,ev i with|.sl W' _ rows,.int _ n=>if 0≤n∧n<rows.length∧W'=W then some (.vptr (rows.getD n.toNat []),h)else none|.bs b W' m,.int _ n=>if 0≤n∧n<m∧W'=W then some (.ptr b (n.toNat*W),h)else none|_,_=>none)
 |.sidx x i=>(match ev x,ev i with|.str l,.int _ n=>if 0≤n∧n<l.length then some (.int .u8 (l.getD n.toNat 0).toNat,h)else none|_,_=>none)
 |.ssl x lo hi=>(ssliceA (lo.map ev) (hi.map ev) (ev x)).map (·,h)
 |.len s x=>(match s,ev x with|true,.str l=>some (.int .i64 l.length,h)|false,.sl _ _ rows=>some (.int .i64 rows.length,h)|false,.bs _ _ m=>some (.int .i64 m,h)|_,_=>none)
 |.app E W by_ x y=>appA h E W by_ (ev x) (ev y)
 |.bin op x y=>(bop op (ev x) (ev y)).map (·,h)
 |.eq k ks ne x y=>(eqA k ks (ev x) (ev y)).map fun b=>(.bool (if ne then !b else b),h)
 |.un op x=>(uop op (ev x)).map (·,h)
 |.conv k x=>(match ev x with|.int _ n=>some (.int k (k.wrap n),h)|_=>none)
 |.extract x i=>(match ev x with|.tup l=>(l[i]?).map (·,h)|_=>none)
 |.max3 x y z=>(match ev x,ev y,ev z with|.int k a,.int _ b,.int _ c=>some (.int k (if c>(if b>a then b else a)then c else(if b>a then b else a)),h)|_,_,_=>none)
 |.mkfn f caps=>some (.fn f (caps.map ev),h)
 |.mkmap=>some (.mp h.b.length,⟨h.b++[.map [] 0],h.t⟩)
 |.mget z ok m k=>(mgetA h z ok (ev m) (ev k)).map (·,h)
 |.mset m k x=>(msetA h (ev x) (ev m) (ev k)).map (.tup [],·)
 |.mdel m k=>(mdelA h (ev m) (ev k)).map (.tup [],·)
 |.mclr m=>(mclrA h (ev m)).map (.tup [],·)
 |.mlen m=>(mlenA h (ev m)).map (·,h)
 |.mm mx x y=>(match ev x,ev y with|.int k a,.int _ b=>some (.int k (if mx then(if b>a then b else a)else(if b<a then b else a)),h)|_,_=>none)
 |.call ..=>none
 |.callv ..=>none
def cvd:Value→Option A
 |.int k n=>some (.int k n)
 |.string s=>some (.str s.data.toList)
 |.bool b=>some (.bool b)
 |.pointer none=>some .nilp
 |.nilIface=>some .nili
 |.nilFunc=>some .nilf
 |.map none=>some .nilm
 |.slice none 0 0=>some (.sl 0 .nil [])
 |_=>none
def convs:List Value→Option (List A)
 |[]=>some []
 |v::vs=>(cvd v).bind fun a=>(convs vs).bind fun l=>some (a::l)
def convV:Value→Option A
 |.agg cs=>(convs cs.toList).bind fun l=>some (.agg l)
 |.tuple cs=>if cs.toList.isEmpty then some (.tup [])else none
 |v=>cvd v
def compX(n:Nat):Operand→Option Opd
 |.tmp t=>if t<n then some (.t t)else none
 |.const v=>(convV v).bind fun a=>some (.c a)
 |.func f=>if f<bmk then some (.c (.fn f []))else none
 |.global _=>none
def compXs(n:Nat):List Operand→Option (List Opd)
 |[]=>some []
 |x::xs=>(compX n x).bind fun a=>(compXs n xs).bind fun l=>some (a::l)
def compO(n:Nat):Option Operand→Option (Option Opd)
 |none=>some none
 |some x=>(compX n x).bind fun a=>some (some a)
def compParts(P:Program)(n:Nat)(fs:Array Field):List (Nat×Operand)→Option (List (Nat×Nat×Opd))
 |[]=>some []
 |(j,x)::ps=>(fs[j]?).bind fun f=>(P.info? f.type).bind fun i=>(compX n x).bind fun a=>(compParts P n fs ps).bind fun l=>some ((f.offset,i.size,a)::l)
def compRow(n:Nat):Nat→List (Nat×Operand)→Option (List Opd)
 |_,[]=>some []
 |k,(j,x)::ps=>if j=k then(compX n x).bind fun a=>(compRow n (k+1) ps).bind fun l=>some (a::l)else none
def isAggB:TypeDesc→Bool
 |.struct _=>true
 |.array ..=>true
 |_=>false
def mapB(P:Program)(t:TypeId):Bool:=
 match P.underlying t with
 |some (.map k _)=>(match P.underlying k with|some (.int _)=>true|_=>false)
 |_=>false
def zeroOf(P:Program)(t:TypeId):Option A:=
 match P.underlying t with
 |some (.map _ e)=>(P.info? e).bind fun i=>i.zero.bind fun z=>convV z
 |_=>none
def callOk(P:Program)(f:FuncId):Bool:=
 match P.funcs[f]? with
 | some fn => !(fn.name == "runtime.NumGoroutine") && fn.body.isSome
 |none=>false
def compCall(P:Program)(n:Nat)(c:Call)(t:TypeId):Option AOp:=
 match c.callee with
 |.value (.func f)=>if callOk P f=true then(compXs n c.args.toList).bind fun l=>some (.call f l)else none
 |.value (.tmp x)=>if x<n then(compXs n c.args.toList).bind fun l=>some (.callv (.t x) l)else none
 | .builtin .len=>(match c.args.toList,c.argTypes.toList with
  | [x],[T]=>(match P.underlying T with
   | some .string=>(compX n x).bind fun a=>some (.len true a)
   | some (.slice _)=>(compX n x).bind fun a=>some (.len false a)
   | some (.map ..)=>(compX n x).bind fun a=>some (.mlen a)
   | _=>none)
  | _,_=>none)
 | .builtin .append=>(match c.args.toList,c.argTypes.toList with
  | [x,y],[T,T']=>if T=T' then (match P.underlying T with
   | some (.slice E)=>(P.info? E).bind fun i=>i.zero.bind fun z=>if z.cells.size=i.size∧0 < i.size then (compX n x).bind fun a=>(compX n y).bind fun b=>some (.app E i.size i.bytes a b) else none
   | _=>none) else none
  | _,_=>none)
 | .builtin .delete=>(match c.args.toList,c.argTypes.toList with
  | [x,y],T::_=>if mapB P T=true then (compX n x).bind fun a=>(compX n y).bind fun b=>some (.mdel a b) else none
  | _,_=>none)
 | .builtin .clear=>(match c.args.toList,c.argTypes.toList with
  | [x],T::_=>if mapB P T=true then (compX n x).bind fun a=>some (.mclr a) else none
  | _,_=>none)
 | .builtin .max=>(match c.args.toList with
  | [x,y,z]=>(compX n x).bind fun a=>(compX n y).bind fun b=>(compX n z).bind fun d=>some (.max3 a b d)
  | [x,y]=>(compX n x).bind fun a=>(compX n y).bind fun b=>some (.mm true a b)
  | _=>none)
 | .builtin .min=>(match c.args.toList with
  | [x,y]=>(compX n x).bind fun a=>(compX n y).bind fun b=>some (.mm false a b)
  | _=>none)
 |_=>none
def kindsB(P:Program):List Field→Nat→Option (List Nat)
 |[],_=>some []
 | f :: fs, o => if f.offset = o ∧ f.name ≠ "_" then (match P.underlying f.type with
  | some (.int _)=>(kindsB P fs (o+1)).bind fun l=>some (0::l)
  | some .string=>(kindsB P fs (o+1)).bind fun l=>some (1::l)
  | some .bool=>(kindsB P fs (o+1)).bind fun l=>some (2::l)
  | _=>none) else none
def ptrB(P:Program)(E:TypeId):Bool:=match P.underlying E with
 |some (.pointer _)=>true
 |_=>false
def compOp(P:Program)(n:Nat)(o:Oper):Option AOp:=
 match o.op with
 |.move x=>(compX n x).bind fun a=>some (.mv a)
 |.assign x=>(compX n x).bind fun a=>some (.mv a)
 |.pick c a b=>(compX n c).bind fun c=>(compX n a).bind fun a=>(compX n b).bind fun b=>some (.pick c a b)
 |.alloc T=>(P.info? T).bind fun i=>i.zero.bind fun z=>(convs z.cells.toList).bind fun l=>some (.alloc T l)
 |.box T x=>(compX n x).bind fun a=>some (.box T a)
 | .build t parts=>(match P.underlying t with
  | some (.struct fs)=>if fs.toList.all (fun f=>(P.info? f.type).isSome) then (P.info? t).bind fun i=>i.zero.bind fun z=>(convs z.cells.toList).bind fun l=>(compParts P n fs parts.toList).bind fun ps=>some (.build l ps) else none
  | _=>none)
 | .buildSlice t len parts=>(match P.underlying t with
  | some (.slice E)=>(P.info? E).bind fun i=>i.zero.bind fun z=>if z.cells.size=i.size∧0 < i.size∧parts.toList.length=len∧0 < len∧len*i.size≤1000 then (compRow n 0 parts.toList).bind fun ps=>if ptrB P E=true then some (.mkr E i.size ps) else some (.mks i.size ps) else none
  | _=>none)
 |.load t p=>(P.underlying t).bind fun d=>(P.info? t).bind fun i=>(compX n p).bind fun a=>if isAggB d=true∨i.size=1 then some (.load (isAggB d) i.size a)else none
 |.store t p x=>(P.info? t).bind fun i=>(compX n p).bind fun a=>(compX n x).bind fun b=>some (.store i.size a b)
 |.nilCheck x=>(compX n x).bind fun a=>some (.nilck a)
 | .binOp op t x y _=>(match P.underlying t with
  | some (.int _)=>(compX n x).bind fun a=>(compX n y).bind fun b=>some (.bin op a b)
  | some .string=>(compX n x).bind fun a=>(compX n y).bind fun b=>some (.bin op a b)
  | some .bool=>if op = .eql∨op = .neq then (compX n x).bind fun a=>(compX n y).bind fun b=>some (.eq 0 [] (op == .neq) a b) else none
  | some (.pointer _)=>if op = .eql∨op = .neq then (compX n x).bind fun a=>(compX n y).bind fun b=>some (.eq 1 [] (op == .neq) a b) else none
  | some (.map ..)=>if op = .eql∨op = .neq then (compX n x).bind fun a=>(compX n y).bind fun b=>some (.eq 3 [] (op == .neq) a b) else none
  | some (.struct fs)=>if (op = .eql∨op = .neq)∧P.stoodInHeld t=false∧P.eqGuardType P.depth t=false then (kindsB P fs.toList 0).bind fun ks=>(compX n x).bind fun a=>(compX n y).bind fun b=>some (.eq 2 ks (op == .neq) a b) else none
  | _=>none)
 |.unOp op _ x=>(compX n x).bind fun a=>some (.un op a)
 | .convert src dst x=>(match P.underlying src,P.underlying dst with
  | some (.int _),some (.int k)=>(compX n x).bind fun a=>some (.conv k a)
  | _,_=>none)
 |.makeFunc (.func f) first caps=>if f<bmk then(if first.toList.isEmpty then(compXs n caps.toList).bind fun l=>some (.mkfn f l)else if caps.toList.isEmpty then(compXs n first.toList).bind fun l=>some (.mkfn (f+bmk) l)else none)else none
 | .slice t x lo hi mx=>(match P.underlying t,mx with
  | some .string,none=>(compX n x).bind fun a=>(compO n lo).bind fun l=>(compO n hi).bind fun h=>some (.ssl a l h)
  | some (.slice e),none=>(P.info? e).bind fun ie=>(compX n x).bind fun a=>(compO n lo).bind fun l=>(compO n hi).bind fun h=>some (.slsl ie.size a l h)
  | _,_=>none)
 | .fieldAddr s x j=>(match P.underlying s with
  | some (.struct fs)=>(fs[j]?).bind fun f=>(P.info? f.type).bind fun i=>if i.size≠0 then (compX n x).bind fun a=>some (.faddr f.offset a) else none
  | _=>none)
 | .indexAddr t x i=>(match P.underlying t with
  | some (.slice e)=>(P.info? e).bind fun ie=>(compX n x).bind fun a=>(compX n i).bind fun b=>some (.iaddr ie.size a b)
  | _=>none)
 | .index t x i=>(match P.underlying t with
  | some .string=>(compX n x).bind fun a=>(compX n i).bind fun b=>some (.sidx a b)
  | _=>none)
 |.extract x i=>(compX n x).bind fun a=>some (.extract a i)
 |.makeMap t none=>if mapB P t=true then some .mkmap else none
 |.lookup t m k ok=>if mapB P t=true then(zeroOf P t).bind fun z=>(compX n m).bind fun a=>(compX n k).bind fun b=>some (.mget z ok a b)else none
 |.mapUpdate t m k x=>if mapB P t=true then(compX n m).bind fun a=>(compX n k).bind fun b=>(compX n x).bind fun d=>some (.mset a b d)else none
 |.call c=>compCall P n c o.type
 |_=>none
def compDst(n:Nat):Option Tmp→Bool
 |none=>true
 |some d=>decide (d<n)
def compGuard(n:Nat)(ops:Array Oper):Option (Nat×Bool)→Option (Option (Nat×Bool))
 |none=>some none
 |some (j,b)=>((ops[j]?).bind (·.dst)).bind fun t=>if t<n then some (some (t,b))else none
def afterOf(o:Oper):List Nat:=o.after.toList.filterMap fun e=>if Region.binds .any e=true then some e.on else none
def sliceZ(P:Program)(E:TypeId):Bool:=
 match (P.info? E).bind (·.zero)with
 |some (.agg cs)=>cs.toList.any fun v=>match v with|.slice ..=>true|_=>false
 |_=>false
def takenB(ops:List Oper)(d:Nat):Bool:=
 ops.any fun o=>match o.op with
  |.call c=>(match c.callee,c.args.toList with|.builtin .append,[_,.tmp x]=>x==d|_,_=>false)
  |_=>false
def litB(P:Program)(ops:List Oper)(o:Oper):Bool:=
 match o.op,o.dst with
 |.buildSlice t _ _,some d=>(match P.underlying t with|some (.slice E)=>sliceZ P E&&!takenB ops d|_=>false)
 |_,_=>false
def litA(P:Program)(o:Oper):AOp→AOp
 | .mks W ps=>(match o.op with
  | .buildSlice t _ _=>(match P.underlying t with | some (.slice E) => .mkl E W ps | _ => .mks W ps)
  | _ => .mks W ps)
 |x=>x
def compOp'(P:Program)(n:Nat)(ops:List Oper)(o:Oper):Option AOp:=
 if litB P ops o=true then(compOp P n o).map (litA P o)else compOp P n o
def compOpers(P:Program)(n:Nat)(draw:Bool)(ops:Array Oper):List Oper→Option (List AOper)
 |[]=>some []
 |o::os=>if compDst n o.dst=true then(compOp' P n ops.toList o).bind fun a=>(compGuard n ops o.guard).bind fun g=>(compOpers P n draw ops os).bind fun l=>some (⟨o.dst,a,g,if draw then afterOf o else[]⟩::l)else none
def stuck:ACode:=.cond (.c (.tup [])) .skip .skip
def comp(P:Program)(n:Nat):Code→Option ACode
 |.skip=>some .skip
 |.region id ops draw=>(match compOpers P n draw ops ops.toList with|some l=>some (.reg draw l)|none=>some (.prim n (.region id ops draw)))
 |.seq a b=>(comp P n a).bind fun a=>(comp P n b).bind fun b=>some (.seq a b)
 |.cond c a b=>(compX n c).bind fun c=>(comp P n a).bind fun a=>(comp P n b).bind fun b=>some (.cond c a b)
 |.block id c=>(comp P n c).bind fun c=>some (.block id c)
 |.loop c=>(comp P n c).bind fun c=>some (.loop c)
 |.exit id=>some (.exit id)
 |.ret=>some .ret
 |_=>some stuck
def evX(ts:Nat→A):Opd→A
 |.t n=>ts n
 |.c a=>a
structure RepT(C:Ctx)(ts:Nat→A)(n:Nat)(a:Act):Prop where
 size:a.tmps.size=n
 rep:∀ i,i<n→Rep C (ts i) (a.tmps.getD i undef)
theorem rep_int{C:Ctx}{k:IntKind}{n:Int}{v:Value}:Rep C (.int k n) v↔v=.int k n:=by unfold Rep;exact Iff.rfl
theorem rep_str{C:Ctx}{l:List UInt8}{v:Value}:Rep C (.str l) v↔v=.string ⟨l.toArray⟩:=by unfold Rep;exact Iff.rfl
theorem aqo{C:Ctx}{b:Bool}{v:Value}:Rep C (.bool b) v↔v=.bool b:=by unfold Rep;exact Iff.rfl
theorem aqk{C:Ctx}{v:Value}:Rep C .nilp v↔v=.pointer none:=by unfold Rep;exact Iff.rfl
theorem bkl{C:Ctx}{v:Value}:Rep C .nili v↔v=.nilIface:=by unfold Rep;exact Iff.rfl
theorem bko{C:Ctx}{v:Value}:Rep C .nilf v↔v=.nilFunc:=by unfold Rep;exact Iff.rfl
theorem axt{C:Ctx}{v:Value}:Rep C .nilm v↔v=.map none:=by unfold Rep;exact Iff.rfl
theorem rep_bs{C:Ctx}{i W n:Nat}{v:Value}:Rep C (.bs i W n) v↔∃ cap,v=.slice (some ⟨C.κ i,0,none⟩) n cap∧n≤cap∧i<C.nb:=by rw[Rep]
theorem rep_mp{C:Ctx}{i:Nat}{v:Value}:Rep C (.mp i) v↔v=.map (some (C.κ i))∧i<C.nb:=by rw[Rep]
theorem rep_sl{C:Ctx}{W:Nat}{o:Own}{rows:List (List A)}{v:Value}:Rep C (.sl W o rows) v↔∃ a cap,v=.slice a rows.length cap∧rows.length≤cap∧RepRows C W rows a 0∧RepOwn C W o rows.length a cap:=by rw[Rep]
theorem rep_ptr{C:Ctx}{i o:Nat}{v:Value}:Rep C (.ptr i o) v↔v=.pointer (some ⟨C.κ i,o,none⟩)∧i<C.nb:=by rw[Rep]
theorem rep_vptr{C:Ctx}{l:List A}{v:Value}:Rep C (.vptr l) v↔∃ g off,v=.pointer (some ⟨g,off,none⟩)∧RepAt C l g off:=by rw[Rep]
theorem rep_agg{C:Ctx}{l:List A}{v:Value}:Rep C (.agg l) v↔∃ cs,v=.agg cs.toArray∧RepL C l cs:=by rw[Rep]
theorem rep_tup{C:Ctx}{l:List A}{v:Value}:Rep C (.tup l) v↔∃ cs,v=.tuple cs.toArray∧RepL C l cs:=by rw[Rep]
theorem rep_fn{C:Ctx}{f:FuncId}{l:List A}{v:Value}:Rep C (.fn f l) v↔∃ cs,v=fnV f cs.toArray∧RepL C l cs:=by rw[Rep]
theorem repL_nil{C:Ctx}{cs:List Value}:RepL C [] cs↔cs=[]:=by rw[RepL]
theorem repL_cons{C:Ctx}{x:A}{l:List A}{cs:List Value}:RepL C (x::l) cs↔∃ c cs',cs=c::cs'∧Rep C x c∧RepL C l cs':=by rw[RepL]
theorem azm{C:Ctx}:∀ {l:List A} {cs:List Value},RepL C l cs→cs.length=l.length
 |[],cs,h=>by rw[repL_nil]at h;simp[h]
 |x::l,cs,h=>by
  obtain⟨c,cs',rfl,_,h2⟩:=repL_cons.1 h;simp[azm h2]
theorem axr{C:Ctx}:∀ {l:List A} {cs:List Value},RepL C l cs→∀(i:Nat) (x:A),l[i]?=some x→∃ c,cs[i]?=some c∧Rep C x c
 |[],cs,h,i,x,hx=>by simp at hx
 |y::l,cs,h,0,x,hx=>by
  obtain⟨c,cs',rfl,h1,h2⟩:=repL_cons.1 h;simp at hx;subst hx;exact⟨c,rfl,h1⟩
 |y::l,cs,h,i+1,x,hx=>by
  obtain⟨c,cs',rfl,h1,h2⟩:=repL_cons.1 h;exact axr h2 i x (by simpa using hx)
theorem bz0{C:Ctx}:∀(l:List A) (cs:List Value),cs.length=l.length→(∀(i:Nat) (x:A) (c:Value),l[i]?=some x→cs[i]?=some c→Rep C x c)→RepL C l cs
 |[],cs,h,_=>by rw[repL_nil];exact ZD h
 |x::l,[],h,_=>by simp at h
 |x::l,c::cs,h,hg=>by
  rw[repL_cons];exact⟨c,cs,rfl,hg 0 x c rfl rfl,bz0 l cs (by simpa using h) fun i x c h1 h2=>hg (i+1) x c (by simpa using h1) (by simpa using h2)⟩
theorem bx6{C:Ctx}{v:Value}{a:A}(h:cvd v=some a):Rep C a v:=by
 unfold cvd at h;split at h<;>simp only[Zb,reduceCtorEq]at h<;>subst h
 ·exact rep_int.2 rfl
 ·next s=>exact rep_str.2 (by rw[show(⟨s.data.toList.toArray⟩:ByteArray)=s from by simp])
 ·exact aqo.2 rfl
 ·exact aqk.2 rfl
 ·exact bkl.2 rfl
 ·exact bko.2 rfl
 ·exact axt.2 rfl
 ·exact rep_sl.2 ⟨none,0,rfl,Zf _,by unfold RepRows;trivial,rfl,rfl,rfl⟩
theorem aj4{C:Ctx}:∀ {vs:List Value} {l:List A},convs vs=some l→RepL C l vs
 |[],l,h=>by simp only[convs,Zb]at h;subst h;exact repL_nil.2 rfl
 |v::vs,l,h=>by
  simp only[convs,Ze,Zb]at h;obtain⟨a,h1,m,h2,rfl⟩:=h;exact repL_cons.2 ⟨v,vs,rfl,bx6 h1,aj4 h2⟩
theorem bx1{C:Ctx}{v:Value}{a:A}(h:convV v=some a):Rep C a v:=by
 unfold convV at h;split at h
 ·simp only[Ze,Zb]at h;obtain⟨l,h1,rfl⟩:=h;exact rep_agg.2 ⟨_,by simp,aj4 h1⟩
 ·next cs =>
  split at h
  ·next he =>
   simp only[Zb]at h;subst h
   exact rep_tup.2 ⟨[],by
    have:cs.toList=[]:=by simpa using he
    rw[Yz.1 (this:cs.toList=(#[]:Array Value).toList)],repL_nil.2 rfl⟩
  ·cases h
 ·exact bx6 h
theorem azi{C:Ctx}{ts:Nat→A}{n:Nat}{a:Act}(hT:RepT C ts n a){x:Operand}{y:Opd}(h:compX n x=some y):Rep C (evX ts y) (a.eval x):=by
 unfold compX at h;split at h
 ·next t =>
  split at h
  ·simp only[Zb]at h;subst h;exact hT.rep t (by assumption)
  ·cases h
 ·next v =>
  simp only[Ze,Zb]at h;obtain⟨b,h1,rfl⟩:=h;exact bx1 h1
 ·split at h
  ·next hb =>
   simp only[Zb]at h;subst h;exact rep_fn.2 ⟨[],by unfold fnV;rw[if_pos hb];rfl,repL_nil.2 rfl⟩
  ·cases h
 ·cases h
theorem ajd{C:Ctx}{ts:Nat→A}{n:Nat}{a:Act}(hT:RepT C ts n a):∀ {xs:List Operand} {ys:List Opd},compXs n xs=some ys→RepL C (ys.map (evX ts)) (xs.map a.eval)
 |[],ys,h=>by simp only[compXs,Zb]at h;subst h;exact repL_nil.2 rfl
 |x::xs,ys,h=>by
  simp only[compXs,Ze,Zb]at h;obtain⟨b,h1,m,h2,rfl⟩:=h;exact repL_cons.2 ⟨_,_,rfl,azi hT h1,ajd hT h2⟩
def OpOk(P:Program)(G:World→Prop)(C:Ctx)(a:Act)(o:Oper)(v:A)(h':Hp):Prop:=
 ∃(C':Ctx) (cv:Value),((execOp a.eval o).run P C.w=.ok (.value cv) C'.w∨((execOp a.eval o).run P C.w=.ok .skip C'.w∧cv=undef))∧Inv G C' h'∧Step C C'∧Rep C' v cv
section
variable {P:Program} {G:World→Prop} {C:Ctx} {a:Act} {o:Oper} {h:Hp} {ts:Nat→A} {n:Nat}
theorem azu{v:A}{cv:Value}(hI:Inv G C h)(hr:(execOp a.eval o).run P C.w=.ok (.value cv) C.w)(hv:Rep C v cv):OpOk P G C a o v h:=
 ⟨C,cv,.inl hr,hI,Step.refl C,hv⟩
def valOf:A→Value
 |.int k n => .int k n
 |.bool b => .bool b
 |.str l => .string ⟨l.toArray⟩
 |_=>undef
theorem cv2{op:BinOp}{t yt:TypeId}{x y:Operand}{u v r:A}(hI:Inv G C h)(hop:o.op=.binOp op t x y yt)
  (hx:Rep C u (a.eval x)) (hy:Rep C v (a.eval y)) (hb:bop op u v=some r):OpOk P G C a o r h:=by
 have key:(binOp op t (a.eval x) (a.eval y)).run P C.w=.ok (valOf r) C.w∧Rep C r (valOf r)∧(eqGuard op t x y (a.eval x) (a.eval y)).run P C.w=.ok () C.w:=by
  cases u with
  |int k m =>
   cases v with
   |int k' m' =>
    rw[rep_int]at hx hy;rw[hx,hy];refine⟨?_,?_,by simp[eqGuard]⟩
    ·cases op<;>simp only[bop,shA,Zb,reduceCtorEq,Zv,and_false]at hb<;>first
      |(obtain⟨hk,hb⟩:=hb;subst hk;subst hb;simp[binOp,Op.intArith,Op.intCmp,intBits_and,intBits_or,intBits_xor,intBits_andNot,valOf];done)
      |(obtain⟨hk,h0,hb⟩:=hb;subst hk;subst hb;simp[binOp,Op.intDiv,h0,valOf];done)
      | (obtain ⟨h0, hb⟩ := hb; subst hb; have h1 : ¬ m' < 0 := by omega
         simp [binOp, Op.shift, h1, valOf]; done)
    ·cases op<;>simp only[bop,shA,Zb,reduceCtorEq,Zv,and_false]at hb<;>first
      |(obtain⟨hk,hb⟩:=hb;subst hb;first|exact rep_int.2 rfl|exact aqo.2 rfl)
      |(obtain⟨hk,h0,hb⟩:=hb;subst hb;exact rep_int.2 rfl)
   |_=>simp[bop]at hb
  |str l =>
   cases v with
   |str m =>
    rw[rep_str]at hx hy;simp only[bop]at hb;rw[hx,hy];have e1:(⟨l.toArray⟩:ByteArray).toList=l:=by rw[ByteArray.toList_eq]
    have e2:(⟨m.toArray⟩:ByteArray).toList=m:=by rw[ByteArray.toList_eq]
    refine⟨?_,?_,by simp[eqGuard]⟩
    ·cases op<;>simp only[Zb,reduceCtorEq,Zv]at hb<;>first
      |(subst hb;simp[binOp,Op.stringOp,e1,e2,valOf,bne];done)
      |(obtain⟨h0,hb⟩:=hb;subst hb;simp only[binOp];exact axy C.w rfl rfl h0)
    ·cases op<;>simp only[Zb,reduceCtorEq,Zv]at hb<;>first
      |(subst hb;exact aqo.2 rfl)
      |(obtain⟨h0,hb⟩:=hb;subst hb;exact rep_str.2 rfl)
   |_=>simp[bop]at hb
  |_=>simp[bop]at hb
 obtain⟨h1,h2,h3⟩:=key;refine azu hI ?_ h2;unfold execOp;simp[hop,h1,h3]
theorem cy3{x:Operand}{v:A}(hI:Inv G C h)(hop:o.op=.move x∨o.op=.assign x)(hx:Rep C v (a.eval x)):OpOk P G C a o v h:=by
 refine azu hI ?_ hx;unfold execOp;rcases hop with e|e<;>simp[e]
theorem cwu{c x y:Operand}{u v:A}{b:Bool}(hI:Inv G C h)(hop:o.op=.pick c x y)(hc:Rep C (.bool b) (a.eval c))(hx:Rep C u (a.eval x))(hy:Rep C v (a.eval y)):OpOk P G C a o (if b then u else v) h:=by
 rw[aqo]at hc;refine azu (cv:=if b then a.eval x else a.eval y) hI ?_ (by cases b<;>simpa);unfold execOp;cases b<;>simp[hop,hc,asBool]
theorem dz9{op:UnOp}{t:TypeId}{x:Operand}{u r:A}(hI:Inv G C h)(hop:o.op=.unOp op t x)(hx:Rep C u (a.eval x))(hb:uop op u=some r):OpOk P G C a o r h:=by
 cases u with
 |int k n =>
  rw[rep_int]at hx;simp only[uop]at hb;cases op<;>simp only[Zb,reduceCtorEq]at hb
  subst hb;refine azu hI ?_ (rep_int.2 rfl);unfold execOp;simp[hop,hx,Op.unary,Op.intArith]
 |bool b =>
  rw[aqo]at hx;simp only[uop]at hb;cases op<;>simp only[Zb,reduceCtorEq]at hb
  subst hb;refine azu hI ?_ (aqo.2 rfl);unfold execOp;simp[hop,hx,Op.unary]
 |_=>simp[uop]at hb
theorem cwc{src dst:TypeId}{x:Operand}{k j:IntKind}{n:Int}{s:TypeDesc}(hI:Inv G C h)(hop:o.op=.convert src dst x)(hs:P.underlying src=some s)(hd:P.underlying dst=some (.int k))(hx:Rep C (.int j n) (a.eval x)):OpOk P G C a o (.int k (k.wrap n)) h:=by
 rw[rep_int]at hx;refine azu hI ?_ (rep_int.2 rfl);unfold execOp;simp[hop,hx,convert,run_underlying hs,run_underlying hd,Conv.intToInt]
theorem bwd{x:Operand}{i:Nat}{l:List A}{u:A}(hI:Inv G C h)(hop:o.op=.extract x i)(hx:Rep C (.tup l) (a.eval x))(hu:l[i]?=some u):OpOk P G C a o u h:=by
 obtain⟨cs,he,hl⟩:=rep_tup.1 hx;obtain⟨c,hc,hr⟩:=axr hl i u hu;refine azu hI ?_ hr;unfold execOp;simp[hop,he,Instr.extract,hc]
theorem cyr{f:FuncId}{fs cs:Array Operand}{l:List A}(hI:Inv G C h)(hop:o.op=.makeFunc (.func f) fs cs)(hb:f<bmk)(hf:cs=#[])(hx:RepL C l (fs.toList.map a.eval)):OpOk P G C a o (.fn (f+bmk) l) h:=by
 subst hf;refine azu (cv:=.func (.func f) (fs.toList.map a.eval).toArray #[]) hI ?_ (rep_fn.2 ⟨_,by unfold fnV;rw[if_neg (Nat.not_lt.2 (Nat.le_add_left _ _)),Nat.add_mod_right,YM hb],hx⟩);unfold execOp;have e:fs.map a.eval=(fs.toList.map a.eval).toArray:=Yz.1 (by simp);simp[hop,Instr.makeFunc,e]
theorem cwn{f:FuncId}{fs cs:Array Operand}{l:List A}(hI:Inv G C h)(hop:o.op=.makeFunc (.func f) fs cs)(hb:f<bmk)(hf:fs=#[])(hx:RepL C l (cs.toList.map a.eval)):OpOk P G C a o (.fn f l) h:=by
 subst hf;refine azu (cv:=.func (.func f) #[] (cs.toList.map a.eval).toArray) hI ?_ (rep_fn.2 ⟨_,by unfold fnV;rw[if_pos hb],hx⟩);unfold execOp;have e:cs.map a.eval=(cs.toList.map a.eval).toArray:=Yz.1 (by simp);simp[hop,Instr.makeFunc,e]
theorem cyq{t:TypeId}{x i:Operand}{l:List UInt8}{k:IntKind}{n:Int}(hI:Inv G C h)(hop:o.op=.index t x i)(ht:P.underlying t=some .string)(hx:Rep C (.str l) (a.eval x))(hi:Rep C (.int k n) (a.eval i))(h0:0≤n)(h1:n<l.length):OpOk P G C a o (.int .u8 (l.getD n.toNat 0).toNat) h:=by
 rw[rep_str]at hx;rw[rep_int]at hi;refine azu hI ?_ (rep_int.2 rfl);have hlt:n.toNat<l.length:=by omega
 unfold execOp;have hg:(⟨l.toArray⟩:ByteArray)[n.toNat]?=some (l.getD n.toNat 0):=by
  have hs:n.toNat<(⟨l.toArray⟩:ByteArray).size:=by rw[size_mk];exact hlt
  rw[getElem?_pos (⟨l.toArray⟩:ByteArray) n.toNat hs];congr 1;show l.toArray[n.toNat]=_
  simp[List.getD,hlt]
 simp[hop,hx,hi,Instr.index,run_underlying ht,asIntOf,h0,hg]
theorem byl{c:Call}{T:TypeId}{x:Operand}{u:A}{m:Nat}(hI:Inv G C h)(hop:o.op=.call c)(hc:c.callee=.builtin .len)(ha:c.args=#[x])(hT:c.argTypes=#[T])(hx:Rep C u (a.eval x))
  (hu:(P.underlying T=some .string∧∃ l,u=.str l∧l.length=m)∨(∃ e,P.underlying T=some (.slice e)∧∃ W ow rows,u=.sl W ow rows∧rows.length=m)∨(∃ e,P.underlying T=some (.slice e)∧∃ b W,u=.bs b W m)):OpOk P G C a o (.int .i64 m) h:=by
 refine azu hI ?_ (rep_int.2 rfl);unfold execOp;rcases hu with⟨ht,l,rfl,rfl⟩|⟨e,ht,W,ow,rows,rfl,rfl⟩|⟨e,ht,b,W,rfl⟩
 ·rw[rep_str]at hx;simp[hop,resolve,hc,ha,hT,invoke,builtin,Builtin.len_,hx,run_underlying ht,size_mk,goInt]
 ·obtain⟨ad,cap,e1,_⟩:=rep_sl.1 hx;simp[hop,resolve,hc,ha,hT,invoke,builtin,Builtin.len_,e1,run_underlying ht,goInt]
 ·obtain⟨cap,e1,_⟩:=rep_bs.1 hx;simp[hop,resolve,hc,ha,hT,invoke,builtin,Builtin.len_,e1,run_underlying ht,goInt]
theorem ckp{c:Call}{x y z:Operand}{k1 k2 k3:IntKind}{m1 m2 m3:Int}(hI:Inv G C h)(hop:o.op=.call c)(hc:c.callee=.builtin .max)(ha:c.args=#[x,y,z])(hx:Rep C (.int k1 m1) (a.eval x))(hy:Rep C (.int k2 m2) (a.eval y))(hz:Rep C (.int k3 m3) (a.eval z)) :
  OpOk P G C a o (.int k1 (if m3>(if m2>m1 then m2 else m1)then m3 else(if m2>m1 then m2 else m1))) h:=by
 rw[rep_int]at hx hy hz;refine azu hI ?_ (rep_int.2 rfl);unfold execOp;simp[hop,resolve,hc,ha,invoke,builtin,Builtin.max_,Builtin.max2,hx,hy,hz]
theorem dzp{c:Call}{mx:Bool}{x y:Operand}{k1 k2:IntKind}{m1 m2:Int}(hI:Inv G C h)(hop:o.op=.call c)(hc:c.callee=.builtin (if mx then .max else .min))(ha:c.args=#[x,y])(hx:Rep C (.int k1 m1) (a.eval x))(hy:Rep C (.int k2 m2) (a.eval y)) :
  OpOk P G C a o (.int k1 (if mx then(if m2>m1 then m2 else m1)else(if m2<m1 then m2 else m1))) h:=by
 rw[rep_int]at hx hy;refine azu hI ?_ (rep_int.2 rfl);unfold execOp;cases mx
 ·simp[hop,resolve,hc,ha,invoke,builtin,Builtin.min_,Builtin.min2,hx,hy]
 ·simp[hop,resolve,hc,ha,invoke,builtin,Builtin.max_,Builtin.max2,hx,hy]
theorem bv0{x:Operand}{u:A}(hI:Inv G C h)(hop:o.op=.nilCheck x)(hx:Rep C u (a.eval x))(hu:(∃ i p,u=.ptr i p)∨∃ l,u=.vptr l):OpOk P G C a o u h:=by
 refine azu hI ?_ hx;unfold execOp;rcases hu with⟨i,p,rfl⟩|⟨l,rfl⟩
 ·simp[hop,(rep_ptr.1 hx).1]
 ·obtain⟨g,off,e,_⟩:=rep_vptr.1 hx;simp[hop,e]
theorem ayn:∀ {l:List A} {g off:Nat} (k:Nat),RepAt C l g off→RepAt C (l.drop k) g (off+k)
 |[],g,off,k,h=>by simp only[List.drop_nil];unfold RepAt;trivial
 |x::l,g,off,0,h=>h
 |x::l,g,off,k+1,h=>by
  rw[RepAt]at h;have:=ayn k h.2;rw[ZU,show off+(k+1)=off+1+k by omega];exact this
theorem bkg{s:TypeId}{x:Operand}{j:Nat}{fs:Array Field}{f:Field}{i:TypeInfo}{u v:A}(hI:Inv G C h)(hop:o.op=.fieldAddr s x j)(hs:P.underlying s=some (.struct fs))(hf:fs[j]?=some f)(hi:P.info? f.type=some i)(h0:i.size≠0)(hx:Rep C u (a.eval x))
  (hu:(∃ b p,u=.ptr b p∧v=.ptr b (p+f.offset))∨∃ l,u=.vptr l∧v=.vptr (l.drop f.offset)):OpOk P G C a o v h:=by
 rcases hu with⟨b,p,rfl,rfl⟩|⟨l,rfl,rfl⟩
 ·obtain⟨e,hb⟩:=rep_ptr.1 hx;refine azu hI (cv:=.pointer (some ⟨C.κ b,p+f.offset,none⟩)) ?_ (rep_ptr.2 ⟨rfl,hb⟩);unfold execOp;simp[hop,e,Instr.fieldAt,run_underlying hs,hf,Instr.sureAddr,fieldPlace,sizeOf,typeInfo,hi,h0,Addr.add]
 ·obtain⟨g,off,e,hr⟩:=rep_vptr.1 hx;refine azu hI (cv:=.pointer (some ⟨g,off+f.offset,none⟩)) ?_ (rep_vptr.2 ⟨g,_,rfl,ayn _ hr⟩);unfold execOp;simp[hop,e,Instr.fieldAt,run_underlying hs,hf,Instr.sureAddr,fieldPlace,sizeOf,typeInfo,hi,h0,Addr.add]
theorem axw{W:Nat}:∀ {rows:List (List A)} {ad:Option Addr} {i:Nat},RepRows C W rows ad i→∀ k (hk:k<rows.length),∃ g off,ad=some ⟨g,off,none⟩∧rows[k].length=W∧RepAt C rows[k] g (off+(i+k)*W)
 |[],ad,i,h,k,hk=>by simp at hk
 |r::rs,ad,i,h,0,hk=>by rw[RepRows]at h;simpa using h.1
 |r::rs,ad,i,h,k+1,hk=>by
  rw[RepRows]at h;have:=axw h.2 k (by simpa using hk);rw[show i+(k+1)=i+1+k by omega];exact this
theorem cjg{t e:TypeId}{x i:Operand}{ie:TypeInfo}{ow:Own}{rows:List (List A)}{k:IntKind}{n:Int}(hI:Inv G C h)(hop:o.op=.indexAddr t x i)(ht:P.underlying t=some (.slice e))(hie:P.info? e=some ie)
  (hx:Rep C (.sl ie.size ow rows) (a.eval x)) (hi:Rep C (.int k n) (a.eval i)) (h0:0≤n) (h1:n<rows.length):OpOk P G C a o (.vptr (rows.getD n.toNat [])) h:=by
 obtain⟨ad,cap,ex,hcap,hr,_⟩:=rep_sl.1 hx;rw[rep_int]at hi;have hlt:n.toNat<rows.length:=by omega
 obtain⟨g,off,rfl,hl,hat⟩:=axw hr n.toNat hlt;rw[Yt]at hat;refine azu hI (cv:=.pointer (some ⟨g,off+n.toNat*ie.size,none⟩)) ?_ (rep_vptr.2 ⟨g,_,rfl,by simpa [List.getD,hlt]using hat⟩);unfold execOp;simp[hop,ex,hi,Instr.indexAt,run_underlying ht,asIntOf,h0,h1,sizeOf,typeInfo,hie,Addr.add]
theorem czi{t e:TypeId}{x i:Operand}{ie:TypeInfo}{b m:Nat}{k:IntKind}{n:Int}(hI:Inv G C h)(hop:o.op=.indexAddr t x i)(ht:P.underlying t=some (.slice e))(hie:P.info? e=some ie)
  (hx:Rep C (.bs b ie.size m) (a.eval x)) (hi:Rep C (.int k n) (a.eval i)) (h0:0≤n) (h1:n<m):OpOk P G C a o (.ptr b (n.toNat*ie.size)) h:=by
 obtain⟨cap,ex,hcap,hb⟩:=rep_bs.1 hx;rw[rep_int]at hi;refine azu hI (cv:=.pointer (some ⟨C.κ b,n.toNat*ie.size,none⟩)) ?_ (rep_ptr.2 ⟨rfl,hb⟩);unfold execOp;simp[hop,ex,hi,Instr.indexAt,run_underlying ht,asIntOf,h0,h1,sizeOf,typeInfo,hie,Addr.add]
 try (intro e;exact e.symm)
theorem ajw:∀ {l:List A} {g off:Nat},RepAt C l g off→∃ cs,RepL C l cs∧∀(j:Nat) (v:Value),cs[j]?=some v→C.w.cell? ⟨g,off+j,none⟩=some v
 |[],g,off,h=>⟨[],repL_nil.2 rfl,fun j v h=>by simp at h⟩
 |x::l,g,off,h=>by
  rw[RepAt]at h;obtain⟨⟨_,_,v,h1,h2⟩,h3⟩:=h;obtain⟨cs,k1,k2⟩:=ajw h3;refine⟨v::cs,repL_cons.2 ⟨v,cs,rfl,h2,k1⟩,fun j u hu=>?_⟩;cases j with
  |zero=>simp at hu;subst hu;exact h1
  |succ j =>
   have:=k2 j u (by simpa using hu)
   rwa [show off+1+j=off+(j+1) by omega]at this
theorem axn{l:List A}{cs:List Value}(k:Nat)(h:RepL C l cs):RepL C (l.take k) (cs.take k):=by
 refine bz0 _ _ (by simp[azm h]) fun i x c h1 h2=>?_
 rw[List.getElem?_take]at h1 h2;split at h1
 ·next hi =>
  rw[if_pos hi]at h2;obtain⟨c',k1,k2⟩:=axr h i x h1;rw[k1]at h2;injection h2 with h2;subst h2
  exact k2
 ·cases h1
theorem ax7{l:List A}{cs:List Value}(k:Nat)(h:RepL C l cs):RepL C (l.drop k) (cs.drop k):=by
 refine bz0 _ _ (by simp[azm h]) fun i x c h1 h2=>?_
 rw[List.getElem?_drop]at h1 h2;obtain⟨c',k1,k2⟩:=axr h _ x h1;rw[k1]at h2;injection h2 with h2;subst h2
 exact k2
theorem av9{t:TypeId}{d:TypeDesc}{i:TypeInfo}{g off:Nat}{cs:List Value}(w:World)(hd:P.underlying t=some d)(hi:P.info? t=some i)(hl:cs.length=i.size)(hc:∀(j:Nat) (v:Value),cs[j]?=some v→w.cell? ⟨g,off+j,none⟩=some v)(h1:isAggB d=true∨i.size=1) :
  (Instr.loadAt t (.pointer (some ⟨g,off,none⟩))).run P w=.ok (if isAggB d then .agg cs.toArray else cs.getD 0 undef) w:=by
 have hb:(isAgg t).run P w=.ok (isAggB d) w:=by
  unfold isAgg;simp only[Sem.run_bind,run_underlying hd,Result.andThen_ok];cases d<;>simp[isAggB]
 have hc':∀(j:Nat) (v:Value),cs[j]?=some v→w.cell? ((⟨g,off,none⟩:Addr).add j)=some v:=fun j v hv=>by rw[axe];exact hc j v hv
 have hs:(sizeOf t).run P w=.ok i.size w:=by simp[sizeOf,typeInfo,hi]
 unfold Instr.loadAt loadVar;simp only[Instr.sureAddr,Sem.run_bind,Sem.run_pure,Result.andThen_ok,hb];cases hB:isAggB d
 ·have hz : i.size = 1 := by rcases h1 with h1 | h1; · rw [hB] at h1; cases h1
                             · exact h1
  have:cs[0]?=some (cs.getD 0 undef):=by
   rw[Zm (by omega)];simp[List.getD,show 0<cs.length by omega]
  have h2:=hc 0 _ this;rw[Yh]at h2;simp only[Zk,if_false,run_load,h2]
 ·rw[if_pos rfl];simp only[Sem.run_bind,hs,Result.andThen_ok,←hl,run_loadCells_list w _ cs hc'];rfl
theorem bke{t:TypeId}{d:TypeDesc}{i:TypeInfo}{pv:Value}{u r:A}(hI:Inv G C h)(hd:P.underlying t=some d)(hi:P.info? t=some i)(h1:isAggB d=true∨i.size=1)(hx:Rep C u pv)(hl:loadA h (isAggB d) i.size u=some r) :
  ∃ ad v,pv=.pointer (some ad)∧(Instr.loadAt t pv).run P C.w=.ok v C.w∧Rep C r v:=by
 have key:∃ g off l cs,pv=.pointer (some ⟨g,off,none⟩)∧RepL C l cs∧l.length=i.size∧(∀(j:Nat) (v:Value),cs[j]?=some v→C.w.cell? ⟨g,off+j,none⟩=some v)∧(if isAggB d then some (.agg l)else l[0]?)=some r:=by
  cases u with
  |ptr b q =>
   simp only[loadA]at hl;split at hl
   ·next T l hb =>
    obtain⟨e,hlt⟩:=rep_ptr.1 hx;obtain⟨cs,k1,k2⟩:=hI.box b _ hb;split at hl
    ·next hle =>
     refine⟨_,_,(l.drop q).take i.size,(cs.drop q).take i.size,e,axn _ (ax7 _ k2),by simp;omega,fun j v hv=>?_,hl⟩;rw[cell_of_row _ _ _ _ _ _ k1];rw[List.getElem?_take]at hv;split at hv
     ·rw[List.getElem?_drop]at hv;simpa using hv
     ·cases hv
    ·cases hl
   ·next R vis hb =>
    obtain⟨e,hlt⟩:=rep_ptr.1 hx;obtain⟨_,k2⟩:=hI.box b _ hb;split at hl
    ·next hc =>
     obtain⟨v,k3,k4⟩:=k2 q r hl;refine⟨_,_,[r],[v],e,repL_cons.2 ⟨v,[],rfl,k4,repL_nil.2 rfl⟩,by simpa using hc.2.symm,fun j u hu=>?_,by simp[hc.1]⟩;cases j with
     |zero=>simp at hu;subst hu;exact k3
     |succ j=>simp at hu
    ·cases hl
   ·next T l hb =>
    obtain⟨e,hlt⟩:=rep_ptr.1 hx;obtain⟨cs,rest,k1,k2⟩:=hI.box b _ hb;have hcl:=azm k2;split at hl
    ·next hle =>
     refine⟨_,_,(l.drop q).take i.size,(cs.drop q).take i.size,e,axn _ (ax7 _ k2),by simp;omega,fun j v hv=>?_,hl⟩;rw[cell_of_row _ _ _ _ _ _ k1];rw[List.getElem?_take]at hv;split at hv
     ·rw[List.getElem?_drop]at hv;have hj:q+j<cs.length:=(Zd.1 hv).1;simp only[List.getElem?_toArray];rw[ZV hj];exact hv
     ·cases hv
    ·cases hl
   ·cases hl
  |vptr l =>
   simp only[loadA]at hl;split at hl
   ·next hle =>
    obtain⟨g,off,e,hr⟩:=rep_vptr.1 hx;obtain⟨cs,k1,k2⟩:=ajw hr;refine⟨g,off,l.take i.size,cs.take i.size,e,axn _ k1,by simp;omega,fun j v hv=>?_,hl⟩;rw[List.getElem?_take]at hv;split at hv
    ·exact k2 j v hv
    ·cases hv
   ·cases hl
  |_=>simp[loadA]at hl
 obtain⟨g,off,l,cs,e,hL,hlen,hc,hres⟩:=key;have hrun:=av9 (P:=P) C.w hd hi (by rw[azm hL,hlen]) hc h1;refine⟨_,if isAggB d then .agg cs.toArray else cs.getD 0 undef,e,by rw[e];exact hrun,?_⟩;cases hB:isAggB d
 ·rw[hB]at hres;simp only[Zk,if_false]at hres ⊢;obtain⟨c,k1,k2⟩:=axr hL 0 r hres;simpa [List.getD,k1]using k2
 ·rw[hB]at hres;simp only[if_true,Zb]at hres ⊢;subst hres;exact rep_agg.2 ⟨cs,rfl,hL⟩
theorem cyf{t:TypeId}{d:TypeDesc}{i:TypeInfo}{p:Operand}{u r:A}(hI:Inv G C h)(hop:o.op=.load t p)(hd:P.underlying t=some d)(hi:P.info? t=some i)(h1:isAggB d=true∨i.size=1)(hx:Rep C u (a.eval p))(hl:loadA h (isAggB d) i.size u=some r):OpOk P G C a o r h:=by
 obtain⟨ad,v,_,hrun,hv⟩:=bke hI hd hi h1 hx hl;refine azu hI ?_ hv;unfold execOp;simp[hop,hrun]
end
end AX
end Go.Proofs.YtdgcbckcameggadGreatDoor

namespace Go.Proofs.YtdgcbckcameggadGreatDoor
open Go.RowKit
namespace AX
section
variable {P:Program} {G:World→Prop} {C:Ctx} {a:Act} {o:Oper} {h:Hp} {ts:Nat→A} {n:Nat}
theorem azz{l m:List A}:∀ {cs ds:List Value},RepL C l cs→RepL C m ds→RepL C (l++m) (cs++ds):=by
 induction l with
 |nil=>intro cs ds h1 h2;rw[repL_nil]at h1;subst h1;exact h2
 |cons x l ih =>
  intro cs ds h1 h2;obtain⟨c,cs',rfl,k1,k2⟩:=repL_cons.1 h1;exact repL_cons.2 ⟨c,cs'++ds,rfl,k1,ih k2 h2⟩
theorem bvj:∀(l:List A) (cs:List Value) (g off:Nat),RepL C l cs→l.all A.data=true→(∀ j,j<l.length→C.S g (off+j))→(∀(j:Nat) (v:Value),cs[j]?=some v→C.w.cell? ⟨g,off+j,none⟩=some v)→RepAt C l g off
 |[],cs,g,off,h1,h2,h3,h4=>by unfold RepAt;trivial
 |x::l,cs,g,off,h1,h2,h3,h4=>by
  obtain⟨c,cs',rfl,k1,k2⟩:=repL_cons.1 h1;rw[ZE,Zc]at h2;rw[RepAt];refine⟨⟨h3 0 (by simp),h2.1,c,h4 0 c rfl,k1⟩,bvj l cs' g (off+1) k2 h2.2 (fun j hj=>?_) fun j v hv=>?_⟩
  ·have:=h3 (j+1) (by simpa using hj)
   rwa [show off+(j+1)=off+1+j by omega]at this
  ·have:=h4 (j+1) v (by simpa using hv)
   rwa [show off+(j+1)=off+1+j by omega]at this
theorem ayj:∀ {l:List A} {g off:Nat},RepAt C l g off→l.all A.data=true
 |[],g,off,h=>rfl
 |x::l,g,off,h=>by
  rw[RepAt]at h;rw[ZE,Zc];exact⟨h.1.2.1,ayj h.2⟩
theorem aqm{W g off:Nat}:∀(rows:List (List A)) (cs:List Value) (i:Nat),(∀ r∈rows,r.length=W)→rows.flatten.all A.data=true→RepL C rows.flatten cs→(∀ j,j<rows.length*W→C.S g (off+i*W+j)) →
  (∀(j:Nat) (v:Value),cs[j]?=some v→C.w.cell? ⟨g,off+i*W+j,none⟩=some v)→RepRows C W rows (some ⟨g,off,none⟩) i
 |[],cs,i,h1,h2,h3,h4,h5=>by unfold RepRows;trivial
 |r::rs,cs,i,h1,h2,h3,h4,h5=>by
  rw[YP]at h2 h3;rw[List.all_append,Zc]at h2;have hr:r.length=W:=h1 r (by simp);have hl:=azm h3;rw[Za,hr]at hl;have k1:=axn W h3;have k2:=ax7 W h3;rw[show(r++rs.flatten).take W=r by rw[←hr];simp]at k1;rw[show(r++rs.flatten).drop W=rs.flatten by rw[←hr];simp]at k2;have e1:(i+1)*W=i*W+W:=by rw[YU,Zao]
  have e2:(rs.length+1)*W=rs.length*W+W:=by rw[YU,Zao]
  rw[RepRows];refine⟨⟨g,off,rfl,hr,bvj r _ g _ k1 h2.1 (fun j hj=>h4 j (by simp only[Zh];omega)) fun j v hv=>?_⟩,aqm rs _ (i+1) (fun r' hr'=>h1 r' (by simp[hr'])) h2.2 k2 (fun j hj=>?_) fun j v hv=>?_⟩
  ·rw[List.getElem?_take]at hv;split at hv
   ·exact h5 j v hv
   ·cases hv
  ·have:=h4 (W+j) (by simp only[Zh];omega)
   rwa [show off+i*W+(W+j)=off+(i+1)*W+j by omega]at this
  ·rw[List.getElem?_drop]at hv;have:=h5 _ v hv
   rwa [show off+i*W+(W+j)=off+(i+1)*W+j by omega]at this
theorem axo{W g off:Nat}:∀ {rows:List (List A)} {i:Nat},RepRows C W rows (some ⟨g,off,none⟩) i→∃ cs:List Value,RepL C rows.flatten cs∧cs.length=rows.length*W∧rows.flatten.all A.data=true∧(∀ r∈rows,r.length=W) ∧
  (∀(j:Nat) (v:Value),cs[j]?=some v→C.w.cell? ⟨g,off+i*W+j,none⟩=some v)
 |[],i,h=>⟨[],repL_nil.2 rfl,by simp,rfl,by simp,fun j v hv=>by simp at hv⟩
 |r::rs,i,h=>by
  rw[RepRows]at h;obtain⟨⟨g',off',e,hr,hat⟩,hrs⟩:=h;injection e with e;injection e with e1 e2;subst e1;subst e2;obtain⟨cs1,k1,k2⟩:=ajw hat;obtain⟨cs2,m1,m2,m3,m4,m5⟩:=axo hrs;have hl1:cs1.length=W:=(azm k1).trans hr;have e1:(i+1)*W=i*W+W:=by rw[YU,Zao]
  refine⟨cs1++cs2,?_,?_,?_,?_,fun j v hv=>?_⟩
  ·rw[YP];exact azz k1 m1
  ·rw[Za,hl1,m2,Zh,YU,Zao];omega
  ·rw[YP,List.all_append,Zc];exact⟨ayj hat,m3⟩
  ·intro r' hr';rcases Z7.1 hr' with rfl|hm
   ·exact hr
   ·exact m4 r' hm
  ·rw[Zag]at hv;split at hv
   ·exact k2 j v hv
   ·have:=m5 _ v hv;rw[show off+(i+1)*W+(j-cs1.length)=off+i*W+j by omega]at this;exact this
theorem axk{x:A}{v:Value}(hr:Rep C x v):RepL C x.cells v.cells.toList:=by
 cases x with
 |agg l =>
  obtain⟨cs,rfl,hl⟩:=rep_agg.1 hr;simpa [A.cells,Value.cells]using hl
 |_ =>
  have e:v.cells.toList=[v]:=by
   first
    |(rw[rep_int]at hr;subst hr;rfl)
    |(rw[rep_str]at hr;subst hr;rfl)
    |(rw[aqo]at hr;subst hr;rfl)
    |(rw[aqk]at hr;subst hr;rfl)
    |(rw[bkl]at hr;subst hr;rfl)
    |(rw[bko]at hr;subst hr;rfl)
    |(rw[axt]at hr;subst hr;rfl)
    |(obtain⟨rfl,_⟩:=rep_mp.1 hr;rfl)
    |(obtain⟨cap,rfl,_⟩:=rep_bs.1 hr;rfl)
    |(obtain⟨ad,cap,rfl,_⟩:=rep_sl.1 hr;rfl)
    |(obtain⟨rfl,_⟩:=rep_ptr.1 hr;rfl)
    |(obtain⟨g,off,rfl,_⟩:=rep_vptr.1 hr;rfl)
    |(obtain⟨cs,rfl,_⟩:=rep_fn.1 hr;unfold fnV;split<;>rfl)
    |(obtain⟨cs,rfl,_⟩:=rep_tup.1 hr;rfl)
  rw[e];exact repL_cons.2 ⟨v,[],rfl,hr,repL_nil.2 rfl⟩
theorem cyk{x:A}{v:Value}(hr:Rep C x v)(h1:x.one=true):v.oneCell'=true:=by
 cases x with
 |agg l=>simp[A.one]at h1
 |tup l=>simp[A.one]at h1
 |_ =>
  first
   |(rw[rep_int]at hr;subst hr;rfl)
   |(rw[rep_str]at hr;subst hr;rfl)
   |(rw[aqo]at hr;subst hr;rfl)
   |(rw[aqk]at hr;subst hr;rfl)
   |(rw[bkl]at hr;subst hr;rfl)
   |(rw[bko]at hr;subst hr;rfl)
   |(rw[axt]at hr;subst hr;rfl)
   |(obtain⟨rfl,_⟩:=rep_mp.1 hr;rfl)
   |(obtain⟨cap,rfl,_⟩:=rep_bs.1 hr;rfl)
   |(obtain⟨ad,cap,rfl,_⟩:=rep_sl.1 hr;rfl)
   |(obtain⟨rfl,_⟩:=rep_ptr.1 hr;rfl)
   |(obtain⟨g,off,rfl,_⟩:=rep_vptr.1 hr;rfl)
   |(obtain⟨cs,rfl,_⟩:=rep_fn.1 hr;unfold fnV;split<;>rfl)
theorem avc:∀ {l:List A} {cs:List Value},RepL C l cs→l.all A.one=true→∀ v∈cs,v.oneCell'=true
 |[],cs,hr,h1=>by rw[repL_nil]at hr;subst hr;simp
 |x::l,cs,hr,h1=>by
  obtain⟨c,cs',rfl,k1,k2⟩:=repL_cons.1 hr;rw[ZE,Zc]at h1;intro v hv;rcases Z7.1 hv with rfl|hm
  ·exact cyk k1 h1.1
  ·exact avc k2 h1.2 v hm
theorem bq2{w:World}{T:TypeId}{l:List A}{cs:List Value}(hw:w=C.w∨w=C.w.drew)(hI:Inv G C h)(hl:RepL C l cs) :
  ∃ C':Ctx,C'.w=w.alloc (.cells cs.toArray T)∧Inv G C' ⟨h.b++[.cells T l],h.t⟩∧Step C C'∧Rep C' (.ptr h.b.length 0) (.pointer (some ⟨C.w.heap.size,0,none⟩)):=by
 have hh:w.heap=C.w.heap:=by rcases hw with rfl|rfl<;>rfl
 have hos:w.os=C.w.os∧w.tape=C.w.tape∧w.output=C.w.output:=by rcases hw with rfl|rfl<;>exact⟨rfl,rfl,rfl⟩
 let C':Ctx:={ C with w:=w.alloc (.cells cs.toArray T),κ:=fun i=>if i=C.nb then C.w.heap.size else C.κ i,nb:=C.nb+1,own:=fun g=>if g=C.w.heap.size then some C.nb else C.own g }
 have hblk:∀ g,g<C.w.heap.size→C'.w.heap[g]?=C.w.heap[g]?:=fun g hg=>by
  show(w.alloc (.cells cs.toArray T)).heap[g]?=_
  rw[Below.heap_alloc w _ g (by rw[hh];exact hg),hh]
 have hsz:C'.w.heap.size=C.w.heap.size+1:=by show(w.alloc (.cells cs.toArray T)).heap.size=_;simp[hh]
 have hE:Ext C C':=by
  refine⟨fun g j hs=>⟨hs,cell_of_block (hblk g (hI.prot g j hs).1)⟩,Nat.le_succ _,fun i hi=>?_,fun t E W m ht=>?_⟩
  ·show(if i=C.nb then C.w.heap.size else C.κ i)=C.κ i
   rw[if_neg (by omega)]
  ·obtain⟨_,_,cap,h1,_⟩:=hI.rows t E W m ht;exact⟨m,ht,.inr ⟨rfl,rfl,fun cap hc=>hc.same (hblk _ h1.lt)⟩⟩
 have hown:∀ g,g<C.w.heap.size→C'.own g=C.own g:=fun g hg=>by
  show(if g=C.w.heap.size then some C.nb else C.own g)=_
  rw[if_neg (by omega)]
 have hown':∀ g i,i<C.nb→(C'.own g=some i↔C.own g=some i):=fun g i hi=>by
  show(if g=C.w.heap.size then some C.nb else C.own g)=some i↔_
  split
  ·next e=>exact⟨fun e=>by injection e with e;omega,fun e'=>by have:=(hI.ownlt g i e').2.1;omega⟩
  ·exact Iff.rfl
 refine⟨C',rfl,⟨?_,fun i b hib=>?_,fun i hi=>?_,fun g i hg=>?_,fun g j hs=>?_,fun t E W m ht=>?_,hI.inj,hI.toks,?_,fun w2 hw2=>?_⟩,⟨hE,hos.1,hos.2.1,hos.2.2,by omega,rfl,fun g hg _ _=>hblk g hg,hown,fun g j hs => .inl hs,fun t ht => .inr ⟨ht,rfl⟩⟩,?_⟩
 ·show(h.b++[Blk.cells T l]).length=C.nb+1
  rw[Za,hI.nb];rfl
 ·rw[Zag]at hib;split at hib
  ·next hi =>
   have hi':i<C.nb:=by rw[←hI.nb];exact hi
   exact(hI.box i b hib).ext hE hi' (hI.ownk i hi') (fun g j hg=>(hI.ownlt g j hg).2.1) (fun g hg=>hblk g (hI.ownlt g i hg).2.1) (fun g=>hown' g i hi') (by omega)
  ·next hi =>
   have hk:i-h.b.length=0:=by
    rcases Nat.eq_zero_or_pos (i-h.b.length)with e|e
    ·exact e
    ·rw[YJ (by simp only[Zh,ZA];omega)]at hib;cases hib
   rw[hk]at hib;simp only[ZN,Zb]at hib;subst hib;have hi':i=C.nb:=by have:=hI.nb;omega
   refine⟨cs,?_,RepL.ext hE l cs hl⟩;show(w.alloc (.cells cs.toArray T)).heap[if i=C.nb then C.w.heap.size else C.κ i]?=_
   rw[if_pos hi',←hh];exact heap_alloc_new w _
 ·show(if(if i=C.nb then C.w.heap.size else C.κ i)=C.w.heap.size then some C.nb else C.own (if i=C.nb then C.w.heap.size else C.κ i))=some i
  by_cases hi':i=C.nb
  ·rw[if_pos hi',if_pos rfl,hi']
  ·have hi2:i<C.nb:=by have:i<C.nb+1:=hi;omega
   have:=(hI.ownlt _ _ (hI.ownk i hi2)).2.1;rw[if_neg hi',if_neg (by omega)];exact hI.ownk i hi2
 ·have hg':(if g=C.w.heap.size then some C.nb else C.own g)=some i:=hg;split at hg'
  ·next e =>
   injection hg' with hg';exact⟨by show i<C.nb+1;omega,by omega,by rw[e];exact hI.base⟩
  ·obtain⟨k1,k2,k3⟩:=hI.ownlt g i hg';exact⟨by show i<C.nb+1;omega,by omega,k3⟩
 ·obtain⟨k1,k2,k3⟩:=hI.prot g j hs;exact⟨by omega,(hown g k1).trans k2,k3⟩
 ·obtain⟨k1,k2,cap,k3,k4⟩:=hI.rows t E W m ht;exact⟨(hown _ k3.lt).trans k1,k2,cap,k3.same (hblk _ k3.lt),k4⟩
 ·show C.base≤C'.w.heap.size
  have:=hI.base;omega
 ·exact hI.glob w2 fun g hg=>(hw2 g hg).trans (hblk g (ZL hg hI.base))
 ·refine rep_ptr.2 ⟨?_,by show h.b.length<C.nb+1;have:=hI.nb;omega⟩;show _=Value.pointer (some ⟨if h.b.length=C.nb then C.w.heap.size else C.κ h.b.length,0,none⟩)
  rw[if_pos hI.nb]
theorem cji{T:TypeId}{i:TypeInfo}{z:Value}{l:List A}(hI:Inv G C h)(hop:o.op=.alloc T)(hi:P.info? T=some i)(hz:i.zero=some z)(hl:convs z.cells.toList=some l):OpOk P G C a o (.ptr h.b.length 0) ⟨h.b++[.cells T l],h.t⟩:=by
 obtain⟨C',h1,h2,h3,h4⟩:=bq2 (T:=T) (w:=C.w) (.inl rfl) hI (aj4 hl);refine⟨C',_,.inl ?_,h2,h3,h4⟩;rw[h1];unfold execOp;simp[hop,Instr.alloc,zeroValue,typeInfo,hi,hz,newVar,newRow]
theorem cy7{T:TypeId}{x:Operand}{u:A}(hI:Inv G C h)(hop:o.op=.box T x)(hx:Rep C u (a.eval x)):OpOk P G C a o (.ptr h.b.length 0) ⟨h.b++[.cells T u.cells],h.t⟩:=by
 obtain⟨C',h1,h2,h3,h4⟩:=bq2 (T:=T) (w:=C.w) (.inl rfl) hI (axk hx);refine⟨C',_,.inl ?_,h2,h3,h4⟩;rw[h1];unfold execOp;simp[hop,Instr.box,newVar,newRow]
theorem bk1{w:World}{T:TypeId}{cs:List Value}(hw:w=C.w∨w=C.w.drew)(hI:Inv G C h) :
  ∃ C':Ctx,C'.w=w.alloc (.cells cs.toArray T)∧Inv G C' h∧Step C C'∧(∀ j,j<cs.length→C'.S C.w.heap.size j)∧(∀(j:Nat) (v:Value),cs[j]?=some v→C'.w.cell? ⟨C.w.heap.size,j,none⟩=some v):=by
 have hh:w.heap=C.w.heap:=by rcases hw with rfl|rfl<;>rfl
 have hos:w.os=C.w.os∧w.tape=C.w.tape∧w.output=C.w.output:=by rcases hw with rfl|rfl<;>exact⟨rfl,rfl,rfl⟩
 let C':Ctx:={ C with w:=w.alloc (.cells cs.toArray T),S:=fun g j=>C.S g j∨(g=C.w.heap.size∧j<cs.length) }
 have hblk:∀ g,g<C.w.heap.size→C'.w.heap[g]?=C.w.heap[g]?:=fun g hg=>by
  show(w.alloc (.cells cs.toArray T)).heap[g]?=_
  rw[Below.heap_alloc w _ g (by rw[hh];exact hg),hh]
 have hsz:C'.w.heap.size=C.w.heap.size+1:=by show(w.alloc (.cells cs.toArray T)).heap.size=_;simp[hh]
 have hnew:C'.w.heap[C.w.heap.size]?=some (.cells cs.toArray T (0,0)):=by
  show(w.alloc (.cells cs.toArray T)).heap[C.w.heap.size]?=_
  rw[←hh];exact heap_alloc_new w _
 have hE:Ext C C':=by
  refine⟨fun g j hs=>⟨.inl hs,cell_of_block (hblk g (hI.prot g j hs).1)⟩,Zf _,fun i hi=>rfl,fun t E W m ht=>?_⟩;obtain⟨_,_,cap,h1,_⟩:=hI.rows t E W m ht;exact⟨m,ht,.inr ⟨rfl,rfl,fun cap hc=>hc.same (hblk _ h1.lt)⟩⟩
 have hno:C.own C.w.heap.size=none:=by
  cases e:C.own C.w.heap.size with
  |none=>rfl
  |some i=>have:=(hI.ownlt _ _ e).2.1;omega
 refine⟨C',rfl,⟨hI.nb,fun i b hib=>?_,hI.ownk,fun g i hg=>?_,fun g j hs=>?_,fun t E W m ht=>?_,hI.inj,hI.toks,?_,fun w2 hw2=>?_⟩,⟨hE,hos.1,hos.2.1,hos.2.2,by omega,rfl,fun g hg _ _=>hblk g hg,fun _ _=>rfl,fun g j hs=>?_,fun t ht => .inr ⟨ht,rfl⟩⟩,fun j hj => .inr ⟨rfl,hj⟩,fun j v hv=>?_⟩
 ·have hi':i<C.nb:=by rw[←hI.nb];exact(Zd.1 hib).1
  exact(hI.box i b hib).ext hE hi' (hI.ownk i hi') (fun g j hg=>(hI.ownlt g j hg).2.1) (fun g hg=>hblk g (hI.ownlt g i hg).2.1) (fun g=>Iff.rfl) (by omega)
 ·obtain⟨k1,k2,k3⟩:=hI.ownlt g i hg;exact⟨k1,by omega,k3⟩
 ·rcases hs with hs|⟨rfl,hj⟩
  ·obtain⟨k1,k2,k3⟩:=hI.prot g j hs;exact⟨by omega,k2,k3⟩
  ·refine⟨by omega,hno,fun t E W m ht e=>?_⟩;obtain⟨_,_,cap,k3,k4⟩:=hI.rows t E W m ht;have:=k3.lt;have e':C.τ t=C.w.heap.size:=e;omega
 ·obtain⟨k1,k2,cap,k3,k4⟩:=hI.rows t E W m ht;exact⟨k1,k2,cap,k3.same (hblk _ k3.lt),k4⟩
 ·show C.base≤C'.w.heap.size
  have:=hI.base;omega
 ·exact hI.glob w2 fun g hg=>(hw2 g hg).trans (hblk g (ZL hg hI.base))
 ·rcases hs with hs|⟨rfl,hj⟩
  ·exact .inl hs
  ·exact .inr (.inl (Zf _))
 ·rw[cell_of_row _ _ _ _ _ _ hnew];simpa using hv
theorem cqr{i off:Nat}{T:TypeId}{l xs:List A}{cs vs:List Value}(hI:Inv G C h)(hb:h.b[i]?=some (.cells T l))(hc:C.w.heap[C.κ i]?=some (.cells cs.toArray T (0,0)))(hl:RepL C l cs)(hx:RepL C xs vs)(hle:off+xs.length≤l.length) :
  ∃ C':Ctx,C'.w=C.w.setRow (C.κ i) (cs.take off++vs++cs.drop (off+vs.length)).toArray∧Inv G C' ⟨h.b.set i (.cells T (setCells l off xs)),h.t⟩∧Step C C':=by
 have hi:i<C.nb:=by rw[←hI.nb];exact(Zd.1 hb).1
 have hok:=hI.ownk i hi
 let C':Ctx:={ C with w:=C.w.setRow (C.κ i) (cs.take off++vs++cs.drop (off+vs.length)).toArray }
 have hblk:∀ g,g≠C.κ i→C'.w.heap[g]?=C.w.heap[g]?:=fun g hg=>setRow_other C.w _ g _ hg
 have hsz:C'.w.heap.size=C.w.heap.size:=setRow_size _ _ _;have hne:∀ g,C.own g=none→g≠C.κ i:=fun g hg e=>by rw[e,hok]at hg;cases hg
 have hE:Ext C C':=by
  refine⟨fun g j hs=>⟨hs,cell_of_block (hblk g (hne g (hI.prot g j hs).2.1))⟩,Zf _,fun i hi=>rfl,fun t E W m ht=>?_⟩;obtain⟨k1,_,cap,h1,_⟩:=hI.rows t E W m ht;exact⟨m,ht,.inr ⟨rfl,rfl,fun cap hc=>hc.same (hblk _ (hne _ k1))⟩⟩
 have hset:∀(xs l:List A) (off:Nat),off+xs.length≤l.length→setCells l off xs=l.take off++xs++l.drop (off+xs.length):=by
  intro xs;induction xs with
  |nil=>intro l off _;simp[setCells]
  |cons x xs ih =>
   intro l off hlt;rw[Zh]at hlt;rw[setCells,ih _ _ (by simp;omega),List.take_add_one,Y9 (by omega),List.take_set_of_le (Zf _),List.drop_set_of_lt (by omega)];simp[show off+1+xs.length=off+(xs.length+1) by omega]
 have hvl:vs.length=xs.length:=azm hx;refine⟨C',rfl,⟨by rw[Ym];exact hI.nb,fun j b hjb=>?_,hI.ownk,fun g i hg=>?_,fun g j hs=>?_,fun t E W m ht=>?_,hI.inj,hI.toks,?_,fun w2 hw2=>?_⟩,⟨hE,rfl,rfl,rfl,by omega,rfl,fun g hg ho _=>hblk g (hne g ho),fun _ _=>rfl,fun g j hs => .inl hs,fun t ht => .inr ⟨ht,rfl⟩⟩⟩
 ·rw[Zs]at hjb;split at hjb
  ·next e =>
   subst e;split at hjb
   ·injection hjb with hjb;subst hjb;refine⟨cs.take off++vs++cs.drop (off+vs.length),setRow_heap C.w (C.κ i) _ _ T _ hc,?_⟩;rw[hset xs l off hle,hvl];exact azz (azz (axn _ (RepL.ext hE _ _ hl)) (RepL.ext hE _ _ hx)) (ax7 _ (RepL.ext hE _ _ hl))
   ·cases hjb
  ·next hne' =>
   have hj:j<C.nb:=by rw[←hI.nb];exact(Zd.1 hjb).1
   refine(hI.box j b hjb).ext hE hj (hI.ownk j hj) (fun g j hg=>(hI.ownlt g j hg).2.1) (fun g hg=>hblk g fun e=>?_) (fun g=>Iff.rfl) (by omega);rw[e,hok]at hg;injection hg with hg;exact hne' hg
 ·obtain⟨k1,k2,k3⟩:=hI.ownlt g i hg;exact⟨k1,by omega,k3⟩
 ·obtain⟨k1,k2,k3⟩:=hI.prot g j hs;exact⟨by omega,k2,k3⟩
 ·obtain⟨k1,k2,cap,k3,k4⟩:=hI.rows t E W m ht;exact⟨k1,k2,cap,k3.same (hblk _ (hne _ k1)),k4⟩
 ·show C.base≤C'.w.heap.size
  have:=hI.base;omega
 ·refine hI.glob w2 fun g hg=>(hw2 g hg).trans (hblk g fun e=>?_)
  have:=(hI.ownlt _ _ hok).2.2;have e':g=C.κ i:=e;omega
theorem czx{i off:Nat}{T:TypeId}{l xs:List A}{cs vs rest:List Value}(hI:Inv G C h)(hb:h.b[i]?=some (.row T l))(hc:C.w.heap[C.κ i]?=some (.cells (cs++rest).toArray T (0,0)))(hl:RepL C l cs)(hx:RepL C xs vs)(hle:off+xs.length≤l.length) :
  ∃ C':Ctx,C'.w=C.w.setRow (C.κ i) (cs.take off++vs++cs.drop (off+vs.length)++rest).toArray∧Inv G C' ⟨h.b.set i (.row T (setCells l off xs)),h.t⟩∧Step C C':=by
 have hi:i<C.nb:=by rw[←hI.nb];exact(Zd.1 hb).1
 have hok:=hI.ownk i hi
 let C':Ctx:={ C with w:=C.w.setRow (C.κ i) (cs.take off++vs++cs.drop (off+vs.length)++rest).toArray }
 have hblk:∀ g,g≠C.κ i→C'.w.heap[g]?=C.w.heap[g]?:=fun g hg=>setRow_other C.w _ g _ hg
 have hsz:C'.w.heap.size=C.w.heap.size:=setRow_size _ _ _;have hne:∀ g,C.own g=none→g≠C.κ i:=fun g hg e=>by rw[e,hok]at hg;cases hg
 have hE:Ext C C':=by
  refine⟨fun g j hs=>⟨hs,cell_of_block (hblk g (hne g (hI.prot g j hs).2.1))⟩,Zf _,fun i hi=>rfl,fun t E W m ht=>?_⟩;obtain⟨k1,_,cap,h1,_⟩:=hI.rows t E W m ht;exact⟨m,ht,.inr ⟨rfl,rfl,fun cap hc=>hc.same (hblk _ (hne _ k1))⟩⟩
 have hset:∀(xs l:List A) (off:Nat),off+xs.length≤l.length→setCells l off xs=l.take off++xs++l.drop (off+xs.length):=by
  intro xs;induction xs with
  |nil=>intro l off _;simp[setCells]
  |cons x xs ih =>
   intro l off hlt;rw[Zh]at hlt;rw[setCells,ih _ _ (by simp;omega),List.take_add_one,Y9 (by omega),List.take_set_of_le (Zf _),List.drop_set_of_lt (by omega)];simp[show off+1+xs.length=off+(xs.length+1) by omega]
 have hvl:vs.length=xs.length:=azm hx;refine⟨C',rfl,⟨by rw[Ym];exact hI.nb,fun j b hjb=>?_,hI.ownk,fun g i hg=>?_,fun g j hs=>?_,fun t E W m ht=>?_,hI.inj,hI.toks,?_,fun w2 hw2=>?_⟩,⟨hE,rfl,rfl,rfl,by omega,rfl,fun g hg ho _=>hblk g (hne g ho),fun _ _=>rfl,fun g j hs => .inl hs,fun t ht => .inr ⟨ht,rfl⟩⟩⟩
 ·rw[Zs]at hjb;split at hjb
  ·next e =>
   subst e;split at hjb
   ·injection hjb with hjb;subst hjb;refine⟨cs.take off++vs++cs.drop (off+vs.length),rest,setRow_heap C.w (C.κ i) _ _ T _ hc,?_⟩;rw[hset xs l off hle,hvl];exact azz (azz (axn _ (RepL.ext hE _ _ hl)) (RepL.ext hE _ _ hx)) (ax7 _ (RepL.ext hE _ _ hl))
   ·cases hjb
  ·next hne' =>
   have hj:j<C.nb:=by rw[←hI.nb];exact(Zd.1 hjb).1
   refine(hI.box j b hjb).ext hE hj (hI.ownk j hj) (fun g j hg=>(hI.ownlt g j hg).2.1) (fun g hg=>hblk g fun e=>?_) (fun g=>Iff.rfl) (by omega);rw[e,hok]at hg;injection hg with hg;exact hne' hg
 ·obtain⟨k1,k2,k3⟩:=hI.ownlt g i hg;exact⟨k1,by omega,k3⟩
 ·obtain⟨k1,k2,k3⟩:=hI.prot g j hs;exact⟨by omega,k2,k3⟩
 ·obtain⟨k1,k2,cap,k3,k4⟩:=hI.rows t E W m ht;exact⟨k1,k2,cap,k3.same (hblk _ (hne _ k1)),k4⟩
 ·show C.base≤C'.w.heap.size
  have:=hI.base;omega
 ·refine hI.glob w2 fun g hg=>(hw2 g hg).trans (hblk g fun e=>?_)
  have:=(hI.ownlt _ _ hok).2.2;have e':g=C.κ i:=e;omega
theorem cxq{t:TypeId}{it:TypeInfo}{p x:Operand}{u v:A}{h':Hp}(hI:Inv G C h)(hop:o.op=.store t p x)(hi:P.info? t=some it)(hp:Rep C u (a.eval p))(hx:Rep C v (a.eval x))(hs:storeA h it.size v u=some h'):OpOk P G C a o (.tup []) h':=by
 cases u with
 |ptr i off =>
  simp only[storeA]at hs;split at hs
  ·next T l hb =>
   split at hs
   ·next hcond =>
    injection hs with hs;subst hs;obtain⟨hn,hle,h1⟩:=hcond;obtain⟨e,hlt⟩:=rep_ptr.1 hp;obtain⟨cs,k1,k2⟩:=hI.box i _ hb;have hv:=axk hx;have hvl:=azm hv;obtain⟨C',m1,m2,m3⟩:=cqr (off:=off) hI hb k1 k2 hv (by omega);refine⟨C',undef,.inr ⟨?_,rfl⟩,m2,m3,rep_tup.2 ⟨[],rfl,repL_nil.2 rfl⟩⟩;have hrun:=run_storeCells_at P (C.κ i) off T (a.eval x).cells.toList 0 cs.toArray C.w k1 (by have:=azm k2;simp only[List.size_toArray,Yh];omega) (avc hv h1);rw[m1];unfold execOp;have hsz:(a.eval x).cells.size=it.size:=by rw[←YA];omega
    simp only[hop,Instr.storeAt,e,Instr.sureAddr,storeVar,Sem.run_bind,Sem.run_pure,Result.andThen_ok,sizeOf,typeInfo,run_program,hi,hsz,ne_eq,Yi,if_false,hrun,Yh,List.toList_toArray]
   ·cases hs
  ·next T l hb =>
   split at hs
   ·next hcond =>
    injection hs with hs;subst hs;obtain⟨hn,hle,h1⟩:=hcond;obtain⟨e,hlt⟩:=rep_ptr.1 hp;obtain⟨cs,rest,k1,k2⟩:=hI.box i _ hb;have hv:=axk hx;have hvl:=azm hv;have hcl:=azm k2;obtain⟨C',m1,m2,m3⟩:=czx (off:=off) hI hb k1 k2 hv (by omega);refine⟨C',undef,.inr ⟨?_,rfl⟩,m2,m3,rep_tup.2 ⟨[],rfl,repL_nil.2 rfl⟩⟩;have hrun:=run_storeCells_at P (C.κ i) off T (a.eval x).cells.toList 0 (cs++rest).toArray C.w k1 (by simp only[List.size_toArray,Yh,Za];omega) (avc hv h1);rw[m1];unfold execOp;have hsz:(a.eval x).cells.size=it.size:=by rw[←YA];omega
    have e1:(cs++rest).take off=cs.take off:=List.take_append_of_le_length (by omega);have e2:(cs++rest).drop (off+(a.eval x).cells.toList.length)=cs.drop (off+(a.eval x).cells.toList.length)++rest:=List.drop_append_of_le_length (by omega);simp only[List.toList_toArray,Yh,e1,e2]at hrun;simp only[hop,Instr.storeAt,e,Instr.sureAddr,storeVar,Sem.run_bind,Sem.run_pure,Result.andThen_ok,sizeOf,typeInfo,run_program,hi,hsz,ne_eq,Yi,if_false,hrun,Yh,List.toList_toArray,Zg]
   ·cases hs
  ·cases hs
 |_=>simp[storeA]at hs
end
end AX
end Go.Proofs.YtdgcbckcameggadGreatDoor
