/- Part of what the proof needs. -/
import Derived.Test.YthhpocnmfknalaaGreatDoorMFrWorkspaceCalls0
import Derived.WalkKit
import Derived.WalkSpells
import Derived.WalkLawsBesides
import Derived.Laws.BitsAllLaws
import Derived.Lib.Hide
set_option maxHeartbeats 4000000
set_option maxRecDepth 100000
set_option linter.all false
namespace Go.Proofs.YthhpocnmfknalaaGreatDoor
section
open Go.RowKit
structure Kept(p:Prop):Prop where
 out:p
theorem kept{p:Prop}(h:p):Kept p:=⟨h⟩
theorem axj{k:IntKind}{a b:Int}(h:a=b):Ending.returned (.int k a)=Ending.returned (.int k b):=by rw[h]
theorem cxf{a b:List UInt8}(h:a=b):Ending.returned (.string ⟨a.toArray⟩)=Ending.returned (.string ⟨b.toArray⟩):=by rw[h]
theorem az8{a b:Bool}(h:a=b):Ending.returned (.bool a)=Ending.returned (.bool b):=by rw[h]
theorem avq{P:Program}(w:World){a b:ByteArray}{l m:List UInt8}(ha:a.data.toList=l)(hb:b.data.toList=m)(h:l.length+m.length<1099511627776):
  (Op.stringOp .add a b).run P w=.ok (.string ⟨(l++m).toArray⟩) w:=by
 have e1:a.size=l.length:=by rw[<-ha];simp
 have e2:b.size=m.length:=by rw[<-hb];simp
 rw[run_string_add_sum w a b (by omega)];congr 2;apply ByteArray.ext;apply Ya.1;simp[ha,hb]
theorem cya{s:ByteArray}{l:List UInt8}(h:s.data.toList=l):s=⟨l.toArray⟩:=by subst h;simp
theorem size_mk(l:List UInt8):(⟨l.toArray⟩:ByteArray).size=l.length:=by show l.toArray.size=_;simp
theorem bthen{W a b:World}(h:Below W.heap.size W a)(k:Below a.heap.size a b):Below W.heap.size W b:=h.trans (k.mono h.size)
theorem bdrew(W:World):Below W.heap.size W W.drew:=(Below.refl _ _).drew
theorem ball(W:World)(o:Obj):Below W.heap.size W (W.alloc o):=(Below.refl _ _).alloc (Ze _) o
theorem wf_u8{n:Int}(h:(Lit.int .u8 n).wf=true):0<=n/\n<256:=by
 have:0<=n/\n<=255:=by simpa [Lit.wf,IntKind.min,IntKind.max,IntKind.signed,IntKind.bits]using h
 omega
def bcells(l:List UInt8):List Value:=l.map fun b=>Value.int .u8 b.toNat
theorem bq9(l:List UInt8):(bcells l).length=l.length:=by simp[bcells]
theorem byy(l:List UInt8)(j:Nat)(h:j<l.length):(bcells l)[j]?=some (.int .u8 l[j].toNat):=by simp[bcells,h]
theorem bxc(l m:List UInt8):bcells (l++m)=bcells l++bcells m:=by simp[bcells]
theorem czg(l:List UInt8)(j:Nat)(b:UInt8):bcells (l.set j b)=(bcells l).set j (.int .u8 b.toNat):=by simp[bcells,List.map_set]
theorem byte_of(n:Int)(h0:0<=n)(h:n<256):((UInt8.ofNat n.toNat).toNat:Int)=n:=by
 rw[Yl];omega
theorem aq1(b o j:Nat):(⟨b,o,none⟩:Addr).add j=⟨b,o+j,none⟩:=by unfold Addr.add;split<;>simp_all
def BytesAt(w:World)(g:Nat)(e:TypeId)(l:List UInt8):Prop:=
 ∃cur lo hi,w.heap[g]?=some (.cells cur e (lo,hi))/\cur.toList.take l.length=bcells l/\(l.length<=lo\/hi=0)
namespace BytesAt
variable {w:World} {g:Nat} {e:TypeId} {l:List UInt8}
theorem lt(h:BytesAt w g e l):g<w.heap.size:=by
 obtain⟨cur,lo,hi,hg,_⟩:=h;exact(ZS.1 hg).1
theorem cell(h:BytesAt w g e l)(j:Nat)(hj:j<l.length):w.cell? ⟨g,j,none⟩=some (.int .u8 l[j].toNat):=by
 obtain⟨cur,lo,hi,hg,ht,_⟩:=h;rw[cell_of_row w g j cur e (lo,hi) hg];have h1:(cur.toList.take l.length)[j]?=cur.toList[j]?:=by rw[List.getElem?_take_of_lt hj]
 rw[<-Array.getElem?_toList,<-h1,ht,byy l j hj]
theorem free(h:BytesAt w g e l)(j:Nat)(hj:j<l.length):w.frozen? ⟨g,j,none⟩=false:=by
 obtain⟨cur,lo,hi,hg,_,hf⟩:=h;simp only[World.frozen?,hg];rcases hf with hf|hf
 ·have:¬lo<=j:=by omega
  simp[this]
 ·subst hf;simp
theorem set(h:BytesAt w g e l)(j:Nat)(b:UInt8):BytesAt (w.setCell ⟨g,j,none⟩ (.int .u8 b.toNat)) g e (l.set j b):=by
 obtain⟨cur,lo,hi,hg,ht,hf⟩:=h;refine⟨cur.setIfInBounds j (.int .u8 b.toNat),lo,hi,?_,?_,by simpa using hf⟩
 ·simp only[World.setCell,Ys,if_true];rw[hg];simp
 ·rw[Array.toList_setIfInBounds,ZA,List.take_set,ht,czg]
theorem below{w':World}{B:Nat}(h:BytesAt w g e l)(hb:Below B w w')(hg:g<B):BytesAt w' g e l:=by
 obtain⟨cur,lo,hi,h1,h2⟩:=h;exact⟨cur,lo,hi,(hb.block g hg).trans h1,h2⟩
theorem alloc(h:BytesAt w g e l)(o:Obj):BytesAt (w.alloc o) g e l:=
 h.below ((Below.refl w.heap.size w).alloc (Ze _) o) h.lt
theorem conv{P:Program}(h:BytesAt w g e l)(src dst:TypeId)(cap:Nat)(hs:P.underlying src=some (.slice e))(he:P.underlying e=some (.int .u8))(hd:P.underlying dst=some .string):
  (convert src dst (.slice (some ⟨g,0,none⟩) l.length cap)).run P w=.ok (.string ⟨l.toArray⟩) w:=
 run_convert_bytes_back w src dst e ⟨g,0,none⟩ cap l hs he hd (fun j hj=>by rw[aq1,Yj];exact h.cell j hj)
theorem conv_of{P:Program}(h:BytesAt w g e l)(src dst:TypeId)(n cap:Nat)(hn:l.length=n)(hs:P.underlying src=some (.slice e))(he:P.underlying e=some (.int .u8))(hd:P.underlying dst=some .string):
  (convert src dst (.slice (some ⟨g,0,none⟩) n cap)).run P w=.ok (.string ⟨l.toArray⟩) w:=by subst hn;exact h.conv src dst cap hs he hd
theorem lit(w:World)(e:TypeId)(l:List UInt8):BytesAt (w.alloc (.cells (bcells l).toArray e)) w.heap.size e l:=
 ⟨(bcells l).toArray,0,0,heap_alloc_new w _,by simp[<-bq9],.inr rfl⟩
theorem made(w:World)(e:TypeId)(n:Nat):BytesAt (w.alloc (.cells (madeCells #[.int .u8 0] n) e)) w.heap.size e (List.replicate n 0):=by
 refine⟨madeCells #[.int .u8 0] n,0,0,heap_alloc_new w _,?_,.inr rfl⟩;rw[toList_madeCells_one];simp[bcells]
end BytesAt
def OwnsB(w:World)(base:Nat)(e:TypeId)(v:Value)(l:List UInt8):Prop:=w.ownsRow base e 1 v l.length (bcells l)
namespace OwnsB
variable {w:World} {base:Nat} {e:TypeId} {v:Value} {l:List UInt8}
theorem nil(w:World)(base:Nat)(e:TypeId):OwnsB w base e (.slice none 0 0) []:=World.ownsRow_nil w base e 1
theorem below{w':World}{B:Nat}(h:OwnsB w base e v l)(hb:Below B w w')(hB:w.heap.size<=B):OwnsB w' base e v l:=
 World.ownsRow.kept (row:=none) h ⟨hb.os,hb.tape,hb.output,hb.size,fun k hk _=>hb.block k (by omega)⟩ (by cases v.ownBlock<;>simp)
theorem conv{P:Program}(h:OwnsB w base e v l)(src dst:TypeId)(hs:P.underlying src=some (.slice e))(he:P.underlying e=some (.int .u8))(hd:P.underlying dst=some .string):
  (convert src dst v).run P w=.ok (.string ⟨l.toArray⟩) w:=by
 rcases h.2 with⟨rfl,h0⟩|⟨g,cap,cur,rfl,_,hg,_,_,_,ht⟩
 ·obtain rfl:l=[]:=ZN h0;rw[run_convert_bytes_string w src dst e none 0 0 hs he hd];simp[Conv.bytesToString];rfl
 ·exact BytesAt.conv (e:=e) ⟨cur,0,0,hg,by simpa using ht,.inr rfl⟩ src dst cap hs he hd
end OwnsB
theorem wpList_append_byte{P:Program}{ops:Array Oper}{rest:List Oper}{o:Oper}{a:Act}{Q:Exit->Act->World->Prop}{w0 w:World}(hgd:o.guard=none)(s x:Operand)(t e:TypeId)
  (ho:o.op=.call { callee:=.builtin .append,args:=#[s,x],argTypes:=#[t,t] })
  (ht:P.underlying t=some (.slice e)) (hi:(P.info? e).map (fun i=>(i.zero,i.size,i.bytes))=some (some (.int .u8 0),1,1))
  (B:Nat) (v:Value) (l:List UInt8) (hs:a.eval s=v) (hown:OwnsB w B e v l) (hbel:Below B w0 w)
  (ad:Addr) (c:Nat) (n:Int) (hx:a.eval x=.slice (some ad) 1 c) (hcell:w.cell? ad=some (.int .u8 n)) (h0:0<=n) (h1:n<256)
  (hlen:l.length<1099511627776) (hbase:B<=w.heap.size)
  (h:∀v' w',OwnsB w' B e v' (l++[UInt8.ofNat n.toNat])->Below B w0 w'->w.heap.size<=w'.heap.size->wpList P ops Q rest (a.put o.dst v') w'):wpList P ops Q (o::rest) a w:=by
 obtain⟨i0,hi0,hz0,hz1,hz2⟩:=info_parts hi;refine wpList_append_own w hgd s x t ho B e i0 (.int .u8 0) 1 1 ht hi0 hz0 hz1 hz2 rfl (by decide) v l.length (bcells l) hs hown ad 1 c [.int .u8 n] hx rfl ?_ (by intro u hu;simp at hu;subst hu;rfl)
  (by unfold maxLen;omega) (by omega) hbase ?_
 ·intro j u hu;cases j with
  |zero=>simp at hu;subst hu;simpa [Addr.add]using hcell
  |succ j=>simp at hu
 ·intro v' w' hown' hgr _;refine h v' w' ?_ (hbel.grown hgr hbase ?_) hgr.size
  ·show w'.ownsRow B e 1 v' _ _
   rw[bxc,Za];have:bcells [UInt8.ofNat n.toNat]=[.int .u8 n]:=by simp only[bcells,List.map,byte_of n h0 h1]
   rw[this];exact hown'
  ·intro k hk;exact(World.ownsRow.lt hown k hk).1
end
section
open Go.RowKit
namespace AX
theorem ai{a b:Prop}(x:a)(y:b):a/\b:=⟨x,y⟩
theorem ti:True:=True.intro
inductive Own where
 |no|nil|tok (t:Nat)|emp
inductive A where
 |int (k:IntKind) (n:Int)
 |str (l:List UInt8)
 |bool (b:Bool)
 |sl (W:Nat) (o:Own) (rows:List (List A))
 |ptr (i off:Nat)
 |vptr (cells:List A)
 |nilp
 |nili
 |nilf
 |nilm
 |mp (i:Nat)
 |bs (i W n:Nat)
 |fn (f:FuncId) (caps:List A)
 |agg (l:List A)
 |tup (l:List A)
structure Ctx where
 w:World
 S:Nat->Nat->Prop
 κ:Nat->Nat
 nb:Nat
 τ:Nat->Nat
 hw:Nat->Option (TypeId×Nat×Nat)
 own:Nat->Option Nat
 base:Nat
 kap:Nat->Nat
 lab:Nat->Nat
def A.data:A->Bool
 |.int ..=>true
 |.str ..=>true
 |.bool ..=>true
 |.sl _ .no _=>true
 |.sl _ .nil _=>true
 |.sl _ .emp _=>true
 |.nilp=>true
 |.nili=>true
 |.nilf=>true
 |.nilm=>true
 |_=>false
def RowAt(C:Ctx)(g:Nat)(E:TypeId)(W cap:Nat):Prop:=∃cur,C.w.heap[g]?=some (.cells cur E (0,0))/\cur.size=cap*W/\cap<=maxLen
def RepOwn(C:Ctx)(W:Nat)(o:Own)(n:Nat)(a:Option Addr)(cap:Nat):Prop:=
 match o with
 |.no=>True
 |.nil=>a=none/\cap=0/\n=0
 |.emp=>cap=0/\n=0
 |.tok t=>∃E m,C.hw t=some (E,W,m)/\n<=m/\(n=m->a=some ⟨C.τ t,0,none⟩/\RowAt C (C.τ t) E W cap)
def bmk:Nat:=1000000
def fnV(f:FuncId)(cs:Array Value):Value:=if f<bmk then .func (.func f) #[] cs else .func (.func (f%bmk)) cs #[]
mutual
def Rep(C:Ctx):A->Value->Prop
 |.int k n,v=>v=.int k n
 |.str l,v=>v=.string ⟨l.toArray⟩
 |.bool b,v=>v=.bool b
 |.sl W o rows,v=>∃a cap,v=.slice a rows.length cap/\rows.length<=cap/\RepRows C W rows a 0/\RepOwn C W o rows.length a cap
 |.ptr i off,v=>v=.pointer (some ⟨C.κ i,off,none⟩)/\i<C.nb
 |.vptr cells,v=>∃g off,v=.pointer (some ⟨g,off,none⟩)/\RepAt C cells g off
 |.nilp,v=>v=.pointer none
 |.nili,v=>v=.nilIface
 |.nilf,v=>v=.nilFunc
 |.nilm,v=>v=.map none
 |.mp i,v=>v=.map (some (C.κ i))/\i<C.nb
 |.bs i W n,v=>∃cap,v=.slice (some ⟨C.κ i,0,none⟩) n cap/\n<=cap/\i<C.nb/\cap<=maxLen/\cap*W<=C.kap i
 |.fn f caps,v=>∃cs,v=fnV f cs.toArray/\RepL C caps cs
 |.agg l,v=>∃cs,v=.agg cs.toArray/\RepL C l cs
 |.tup l,v=>∃cs,v=.tuple cs.toArray/\RepL C l cs
def RepL(C:Ctx):List A->List Value->Prop
 |[],cs=>cs=[]
 |x::l,cs=>∃c cs',cs=c::cs'/\Rep C x c/\RepL C l cs'
def RepAt(C:Ctx):List A->Nat->Nat->Prop
 |[],_,_=>True
 |x::l,g,o=>(C.S g o/\x.data=true/\∃v,C.w.cell? ⟨g,o,none⟩=some v/\Rep C x v)/\RepAt C l g (o+1)
def RepRows(C:Ctx)(W:Nat):List (List A)->Option Addr->Nat->Prop
 |[],_,_=>True
 |r::rs,a,i=>(∃g off,a=some ⟨g,off,none⟩/\r.length=W/\RepAt C r g (off+i*W))/\RepRows C W rs a (i+1)
end
structure Ext(C C':Ctx):Prop where
 cells:∀g j,C.S g j->C'.S g j/\C'.w.cell? ⟨g,j,none⟩=C.w.cell? ⟨g,j,none⟩
 nb:C.nb<=C'.nb
 box:∀i,i<C.nb->C'.κ i=C.κ i/\C'.kap i=C.kap i/\C'.lab i=C.lab i
 row:∀t E W m,C.hw t=some (E,W,m)->∃m',C'.hw t=some (E,W,m')/\(m<m'\/m=m'/\C'.τ t=C.τ t/\(∀cap,RowAt C (C.τ t) E W cap->RowAt C' (C.τ t) E W cap))
theorem Ext.refl(C:Ctx):Ext C C:=⟨fun _ _ h=>⟨h,rfl⟩,Ze _,fun _ _=>⟨rfl,rfl,rfl⟩,fun t E W m h=>⟨m,h,.inr ⟨rfl,rfl,fun _ h=>h⟩⟩⟩
theorem Ext.trans{C C' C'':Ctx}(h:Ext C C')(k:Ext C' C''):Ext C C'':=by
 refine⟨fun g j hs=>?_,Zr h.nb k.nb,fun i hi=>⟨(k.box i (ZG hi h.nb)).1.trans (h.box i hi).1,(k.box i (ZG hi h.nb)).2.1.trans (h.box i hi).2.1,(k.box i (ZG hi h.nb)).2.2.trans (h.box i hi).2.2⟩,fun t E W m ht=>?_⟩
 ·have h1:=h.cells g j hs;have h2:=k.cells g j h1.1;exact⟨h2.1,h2.2.trans h1.2⟩
 ·obtain⟨m',h1,h2⟩:=h.row t E W m ht;obtain⟨m'',k1,k2⟩:=k.row t E W m' h1;refine⟨m'',k1,?_⟩;rcases h2 with h2|⟨rfl,h3,h4⟩
  ·rcases k2 with k2|⟨rfl,_⟩
   ·exact .inl (Nat.lt_trans h2 k2)
   ·exact .inl h2
  ·rcases k2 with k2|⟨rfl,k3,k4⟩
   ·exact .inl k2
   ·refine .inr ⟨rfl,k3.trans h3,fun cap hc=>?_⟩;have:=k4 cap (by rw[h3];exact h4 cap hc)
    rwa [h3]at this
theorem RepOwn.ext{C C':Ctx}(h:Ext C C'){W n cap:Nat}{o:Own}{a:Option Addr}(r:RepOwn C W o n a cap):RepOwn C' W o n a cap:=by
 cases o with
 |no=>trivial
 |nil=>exact r
 |emp=>exact r
 |tok t=>
  obtain⟨E,m,h1,h2,h3⟩:=r;obtain⟨m',k1,k2⟩:=h.row t E W m h1;rcases k2 with k2|⟨rfl,k3,k4⟩
  ·exact⟨E,m',k1,by omega,fun e=>by omega⟩
  ·refine⟨E,m,k1,h2,fun e=>?_⟩;obtain⟨h4,h5⟩:=h3 e;rw[k3];exact⟨h4,k4 cap h5⟩
mutual
theorem Rep.ext{C C':Ctx}(h:Ext C C'):∀(x:A) (v:Value),Rep C x v->Rep C' x v
 |.int k n,v,r=>by unfold Rep at r⊢;exact r
 |.str l,v,r=>by unfold Rep at r⊢;exact r
 |.bool b,v,r=>by unfold Rep at r⊢;exact r
 |.sl W o rows,v,r=>by
  unfold Rep at r⊢;obtain⟨a,cap,h1,h2,h3,h4⟩:=r;exact⟨a,cap,h1,h2,RepRows.ext h W rows a 0 h3,h4.ext h⟩
 |.ptr i off,v,r=>by
  unfold Rep at r⊢;rw[(h.box i r.2).1];exact⟨r.1,ZG r.2 h.nb⟩
 |.vptr cells,v,r=>by
  unfold Rep at r⊢;obtain⟨g,off,h1,h2⟩:=r;exact⟨g,off,h1,RepAt.ext h cells g off h2⟩
 |.nilp,v,r=>by unfold Rep at r⊢;exact r
 |.nili,v,r=>by unfold Rep at r⊢;exact r
 |.nilf,v,r=>by unfold Rep at r⊢;exact r
 |.nilm,v,r=>by unfold Rep at r⊢;exact r
 |.mp i,v,r=>by
  unfold Rep at r⊢;rw[(h.box i r.2).1];exact⟨r.1,ZG r.2 h.nb⟩
 |.bs i W n,v,r=>by
  unfold Rep at r⊢;obtain⟨cap,h1,h2,h3,h4⟩:=r;rw[(h.box i h3).1,(h.box i h3).2.1];exact⟨cap,h1,h2,ZG h3 h.nb,h4⟩
 |.fn f caps,v,r=>by
  unfold Rep at r⊢;obtain⟨cs,h1,h2⟩:=r;exact⟨cs,h1,RepL.ext h caps cs h2⟩
 |.agg l,v,r=>by
  unfold Rep at r⊢;obtain⟨cs,h1,h2⟩:=r;exact⟨cs,h1,RepL.ext h l cs h2⟩
 |.tup l,v,r=>by
  unfold Rep at r⊢;obtain⟨cs,h1,h2⟩:=r;exact⟨cs,h1,RepL.ext h l cs h2⟩
theorem RepL.ext{C C':Ctx}(h:Ext C C'):∀(l:List A) (cs:List Value),RepL C l cs->RepL C' l cs
 |[],cs,r=>by unfold RepL at r⊢;exact r
 |x::l,cs,r=>by
  unfold RepL at r⊢;obtain⟨c,cs',h1,h2,h3⟩:=r;exact⟨c,cs',h1,Rep.ext h x c h2,RepL.ext h l cs' h3⟩
theorem RepAt.ext{C C':Ctx}(h:Ext C C'):∀(l:List A) (g o:Nat),RepAt C l g o->RepAt C' l g o
 |[],g,o,r=>by unfold RepAt;trivial
 |x::l,g,o,r=>by
  unfold RepAt at r⊢;obtain⟨⟨h1,h2,v,h3,h4⟩,h5⟩:=r;obtain⟨k1,k2⟩:=h.cells g o h1;exact⟨⟨k1,h2,v,k2.trans h3,Rep.ext h x v h4⟩,RepAt.ext h l g (o+1) h5⟩
theorem RepRows.ext{C C':Ctx}(h:Ext C C')(W:Nat):∀(l:List (List A)) (a:Option Addr) (i:Nat),RepRows C W l a i->RepRows C' W l a i
 |[],a,i,r=>by unfold RepRows;trivial
 |x::l,a,i,r=>by
  unfold RepRows at r⊢;obtain⟨⟨g,off,h1,h2,h3⟩,h5⟩:=r;exact⟨⟨g,off,h1,h2,RepAt.ext h x g _ h3⟩,RepRows.ext h W l a (i+1) h5⟩
end
structure Same(C C':Ctx):Prop where
 cells:∀g j,C.S g j->C'.S g j/\C'.w.cell? ⟨g,j,none⟩=C.w.cell? ⟨g,j,none⟩
def A.pure:A->Bool
 |.ptr ..=>false
 |.mp ..=>false
 |.bs ..=>false
 |.sl _ .no _=>true
 |.sl _ .nil _=>true
 |.sl _ .emp _=>true
 |.sl ..=>false
 |.fn _ caps=>caps.all A.data
 |.agg l=>l.all A.data
 |.tup l=>l.all fun x=>match x with|.agg l=>l.all A.data|x=>x.data
 |_=>true
mutual
theorem Rep.same{C C':Ctx}(h:Same C C'):∀(x:A) (v:Value),x.data=true->Rep C x v->Rep C' x v
 |.int k n,v,d,r=>by unfold Rep at r⊢;exact r
 |.str l,v,d,r=>by unfold Rep at r⊢;exact r
 |.bool b,v,d,r=>by unfold Rep at r⊢;exact r
 |.sl W .no rows,v,d,r=>by
  unfold Rep at r⊢;obtain⟨a,cap,h1,h2,h3,h4⟩:=r;exact⟨a,cap,h1,h2,RepRows.same h W rows a 0 h3,trivial⟩
 |.sl W .nil rows,v,d,r=>by
  unfold Rep at r⊢;obtain⟨a,cap,h1,h2,h3,h4⟩:=r;exact⟨a,cap,h1,h2,RepRows.same h W rows a 0 h3,h4⟩
 |.sl W .emp rows,v,d,r=>by
  unfold Rep at r⊢;obtain⟨a,cap,h1,h2,h3,h4⟩:=r;exact⟨a,cap,h1,h2,RepRows.same h W rows a 0 h3,h4⟩
 |.sl W (.tok t) rows,v,d,r=>by simp[A.data]at d
 |.ptr i off,v,d,r=>by simp[A.data]at d
 |.vptr cells,v,d,r=>by simp[A.data]at d
 |.nilp,v,d,r=>by unfold Rep at r⊢;exact r
 |.nili,v,d,r=>by unfold Rep at r⊢;exact r
 |.nilf,v,d,r=>by unfold Rep at r⊢;exact r
 |.nilm,v,d,r=>by unfold Rep at r⊢;exact r
 |.mp i,v,d,r=>by simp[A.data]at d
 |.bs i W n,v,d,r=>by simp[A.data]at d
 |.fn f caps,v,d,r=>by simp[A.data]at d
 |.agg l,v,d,r=>by simp[A.data]at d
 |.tup l,v,d,r=>by simp[A.data]at d
theorem RepAt.same{C C':Ctx}(h:Same C C'):∀(l:List A) (g o:Nat),RepAt C l g o->RepAt C' l g o
 |[],g,o,r=>by unfold RepAt;trivial
 |x::l,g,o,r=>by
  unfold RepAt at r⊢;obtain⟨⟨h1,h2,v,h3,h4⟩,h5⟩:=r;obtain⟨k1,k2⟩:=h.cells g o h1;exact⟨⟨k1,h2,v,k2.trans h3,Rep.same h x v h2 h4⟩,RepAt.same h l g (o+1) h5⟩
theorem RepRows.same{C C':Ctx}(h:Same C C')(W:Nat):∀(l:List (List A)) (a:Option Addr) (i:Nat),RepRows C W l a i->RepRows C' W l a i
 |[],a,i,r=>by unfold RepRows;trivial
 |x::l,a,i,r=>by
  unfold RepRows at r⊢;obtain⟨⟨g,off,h1,h2,h3⟩,h5⟩:=r;exact⟨⟨g,off,h1,h2,RepAt.same h x g _ h3⟩,RepRows.same h W l a (i+1) h5⟩
end
theorem RepL.same{C C':Ctx}(h:Same C C'):∀(l:List A) (cs:List Value),l.all A.data=true->RepL C l cs->RepL C' l cs
 |[],cs,d,r=>by unfold RepL at r⊢;exact r
 |x::l,cs,d,r=>by
  unfold RepL at r⊢;rw[ZK,Zg]at d;obtain⟨c,cs',h1,h2,h3⟩:=r;exact⟨c,cs',h1,Rep.same h x c d.1 h2,RepL.same h l cs' d.2 h3⟩
theorem RepL.same_tup{C C':Ctx}(h:Same C C'):∀(l:List A) (cs:List Value),(l.all fun x=>match x with|.agg l=>l.all A.data|x=>x.data)=true->RepL C l cs->RepL C' l cs
 |[],cs,d,r=>by unfold RepL at r⊢;exact r
 |x::l,cs,d,r=>by
  unfold RepL at r⊢;rw[ZK,Zg]at d;obtain⟨c,cs',h1,h2,h3⟩:=r;refine⟨c,cs',h1,?_,RepL.same_tup h l cs' d.2 h3⟩;have d1:=d.1;split at d1
  ·next l'=>
   unfold Rep at h2⊢;obtain⟨cs2,k1,k2⟩:=h2;exact⟨cs2,k1,RepL.same h l' cs2 d1 k2⟩
  ·exact Rep.same h x c d1 h2
theorem Rep.pure{C C':Ctx}(h:Same C C')(x:A)(v:Value)(d:x.pure=true)(r:Rep C x v):Rep C' x v:=by
 cases x with
 |ptr i off=>simp[A.pure]at d
 |mp i=>simp[A.pure]at d
 |bs i W n=>simp[A.pure]at d
 |vptr cells=>
  unfold Rep at r⊢;obtain⟨g,off,h1,h2⟩:=r;exact⟨g,off,h1,RepAt.same h cells g off h2⟩
 |sl W o rows=>
  cases o with
  |no=>exact Rep.same h _ _ rfl r
  |nil=>exact Rep.same h _ _ rfl r
  |emp=>exact Rep.same h _ _ rfl r
  |tok t=>simp[A.pure]at d
 |fn f caps=>
  unfold Rep at r⊢;obtain⟨cs,h1,h2⟩:=r;exact⟨cs,h1,RepL.same h caps cs d h2⟩
 |agg l=>
  unfold Rep at r⊢;obtain⟨cs,h1,h2⟩:=r;exact⟨cs,h1,RepL.same h l cs d h2⟩
 |tup l=>
  unfold Rep at r⊢;obtain⟨cs,h1,h2⟩:=r;exact⟨cs,h1,RepL.same_tup h l cs d h2⟩
 |int k n=>exact Rep.same h _ _ rfl r
 |str l=>exact Rep.same h _ _ rfl r
 |bool b=>exact Rep.same h _ _ rfl r
 |nilp=>exact Rep.same h _ _ rfl r
 |nili=>exact Rep.same h _ _ rfl r
 |nilf=>exact Rep.same h _ _ rfl r
 |nilm=>exact Rep.same h _ _ rfl r
inductive Blk where
 |cells (T:TypeId) (l:List A)
 |opq (R:(Nat->Prop)->Nat->World->Prop) (vis:Nat->Option A)
 |map (es:List (Int×A)) (clock:Nat)
 |row (T:TypeId) (l:List A)
 |gone
def Blk.live:Blk->Bool
 |.gone=>false
 |_=>true
structure Hp where
 b:List Blk
 t:List (TypeId×Nat×Nat)
def RepEs(C:Ctx):List (Int×A)->List MapEntry->Prop
 |[],es=>es=[]
 |(n,x)::l,es=>∃e es',es=e::es'/\e.key=.int .i64 n/\Rep C x e.val/\RepEs C l es'
def BornOk(es:List MapEntry)(clock:Nat):Prop:=(es.map (·.born)).Nodup/\∀e∈es,e.born<clock
theorem RepEs.ext{C C':Ctx}(h:Ext C C'):∀{l:List (Int×A)} {es:List MapEntry},RepEs C l es->RepEs C' l es
 |[],_,r=>r
 |(n,x)::l,es,r=>by
  obtain⟨e,es',h1,h2,h3,h4⟩:=r;exact⟨e,es',h1,h2,Rep.ext h _ _ h3,RepEs.ext h h4⟩
def BlkRep(C:Ctx)(i:Nat):Blk->Prop
 |.cells T l=>∃cs:List Value,C.w.heap[C.κ i]?=some (.cells cs.toArray T (0,0))/\RepL C l cs
 |.opq R vis=>(∀w':World,(∀g,C.own g=some (C.lab i)->w'.heap[g]?=C.w.heap[g]?)->C.w.heap.size<=w'.heap.size->R (fun g=>C.own g=some (C.lab i)) (C.κ i) w')/\∀o x,vis o=some x->∃v,C.w.cell? ⟨C.κ i,o,none⟩=some v/\Rep C x v
 |.row T l=>∃cs rest:List Value,C.w.heap[C.κ i]?=some (.cells (cs++rest).toArray T (0,0))/\RepL C l cs/\(cs++rest).length=C.kap i
 |.map l c=>∃es:Array MapEntry,C.w.heap[C.κ i]?=some (.map es c)/\RepEs C l es.toList/\BornOk es.toList c
 |.gone=>True
def OwnK(C:Ctx)(h:Hp):Prop:=(∀i b,h.b[i]?=some b->b.live=true->C.own (C.κ i)=some (C.lab i))/\∀i j b b',h.b[i]?=some b->h.b[j]?=some b'->b.live=true->b'.live=true->C.lab i=C.lab j->i=j
structure Inv(G:World->Prop)(C:Ctx)(h:Hp):Prop where
 nb:h.b.length=C.nb
 box:∀i b,h.b[i]?=some b->BlkRep C i b
 ownk:OwnK C h
 ownlt:∀g i,C.own g=some i->i<C.nb/\g<C.w.heap.size/\C.base<=g
 prot:∀g j,C.S g j->g<C.w.heap.size/\C.own g=none/\∀t E W m,C.hw t=some (E,W,m)->C.τ t=g->j<m*W
 rows:∀t E W m,C.hw t=some (E,W,m)->C.own (C.τ t)=none/\C.base<=C.τ t/\∃cap,RowAt C (C.τ t) E W cap/\m<=cap
 inj:∀t t',(C.hw t).isSome=true->(C.hw t').isSome=true->C.τ t=C.τ t'->t=t'
 toks:∀t,C.hw t=h.t[t]?
 base:C.base<=C.w.heap.size
 glob:∀w':World,(∀g,g<C.base->w'.heap[g]?=C.w.heap[g]?)->G w'
structure Step(C C':Ctx):Prop where
 ext:Ext C C'
 os:C'.w.os=C.w.os
 tape:C'.w.tape=C.w.tape
 output:C'.w.output=C.w.output
 size:C.w.heap.size<=C'.w.heap.size
 base:C'.base=C.base
 frame:∀g,g<C.w.heap.size->C.own g=none->(∀t,(C.hw t).isSome=true->C.τ t≠g)->C'.w.heap[g]?=C.w.heap[g]?
 own:∀g,g<C.w.heap.size->C'.own g=C.own g
 prot:∀g j,C'.S g j->C.S g j\/C.w.heap.size<=g\/∃t,(C.hw t).isSome=true/\C.τ t=g
 row:∀t,(C'.hw t).isSome=true->C.w.heap.size<=C'.τ t\/((C.hw t).isSome=true/\C'.τ t=C.τ t)
theorem Step.refl(C:Ctx):Step C C:=
 ⟨Ext.refl C,rfl,rfl,rfl,Ze _,rfl,fun _ _ _ _=>rfl,fun _ _=>rfl,fun _ _ h=> .inl h,fun t h=> .inr ⟨h,rfl⟩⟩
theorem Step.trans{C C' C'':Ctx}(h:Step C C')(k:Step C' C''):Step C C'' where
 ext:=h.ext.trans k.ext
 os:=k.os.trans h.os
 tape:=k.tape.trans h.tape
 output:=k.output.trans h.output
 size:=Zr h.size k.size
 base:=k.base.trans h.base
 frame:=fun g hg ho ht=>by
  refine(k.frame g (ZG hg h.size) ((h.own g hg).trans ho) fun t hs e=>?_).trans (h.frame g hg ho ht);rcases h.row t hs with h1|⟨h1,h2⟩
  ·omega
  ·exact ht t h1 (h2.symm.trans e)
 own:=fun g hg=>(k.own g (ZG hg h.size)).trans (h.own g hg)
 prot:=fun g j hs=>by
  rcases k.prot g j hs with h1|h1|⟨t,h1,h2⟩
  ·exact h.prot g j h1
  ·exact .inr (.inl (Zr h.size h1))
  ·rcases h.row t h1 with h3|⟨h3,h4⟩
   ·exact .inr (.inl (by omega))
   ·exact .inr (.inr ⟨t,h3,h4.symm.trans h2⟩)
 row:=fun t hs=>by
  rcases k.row t hs with h1|⟨h1,h2⟩
  ·exact .inl (Zr h.size h1)
  ·rcases h.row t h1 with h3|⟨h3,h4⟩
   ·exact .inl (by omega)
   ·exact .inr ⟨h3,h2.trans h4⟩
theorem Inv.ok{G:World->Prop}{C:Ctx}{h:Hp}(hI:Inv G C h){i:Nat}{b:Blk}(hb:h.b[i]?=some b)(hl:b.live=true):C.own (C.κ i)=some (C.lab i):=hI.ownk.1 i b hb hl
theorem Inv.lablt{G:World->Prop}{C:Ctx}{h:Hp}(hI:Inv G C h){i:Nat}{b:Blk}(hb:h.b[i]?=some b)(hl:b.live=true):C.lab i<C.nb:=(hI.ownlt _ _ (hI.ok hb hl)).1
theorem Inv.labne{G:World->Prop}{C:Ctx}{h:Hp}(hI:Inv G C h){i j:Nat}{b b':Blk}(hb:h.b[i]?=some b)(hb':h.b[j]?=some b')(hl:b.live=true)(hl':b'.live=true)(hne:i≠j):C.lab i≠C.lab j:=fun e=>hne (hI.ownk.2 i j b b' hb hb' hl hl' e)
theorem OwnK.push{C C':Ctx}{h:Hp}{b0:Blk}{t:List (TypeId×Nat×Nat)}{g:Nat}(ho:OwnK C h)(hnb:h.b.length=C.nb)(hlt:∀g i,C.own g=some i->i<C.nb/\g<C.w.heap.size)(hg:C.w.heap.size<=g)
  (e1:∀i,C'.κ i=if i=C.nb then g else C.κ i) (e2:∀k,C'.own k=if k=g then some C.nb else C.own k) (e3:∀i,C'.lab i=if i=C.nb then C.nb else C.lab i):OwnK C' ⟨h.b++[b0],t⟩:=by
 have hsp:∀(i:Nat) (b:Blk),(h.b++[b0])[i]?=some b->(i<C.nb/\h.b[i]?=some b)\/i=C.nb:=fun i b hib=>by
  rw[YZ]at hib;split at hib
  ·next hi=>exact .inl ⟨by rw[<-hnb];exact hi,hib⟩
  ·next hi=>
   refine .inr ?_;rcases Nat.eq_zero_or_pos (i-h.b.length)with e|e
   ·omega
   ·rw[Yh (by simp only[Zf,Zo];omega)]at hib;cases hib
 refine⟨fun i b hib hl=>?_,fun i j b b' hib hjb hl hl' e=>?_⟩
 ·rw[e1,e2,e3];rcases hsp i b hib with⟨hi,hb⟩|rfl
  ·have h1:=ho.1 i b hb hl;have:=(hlt _ _ h1).2;simp only[if_neg (show¬i=C.nb by omega)];rw[if_neg (show¬C.κ i=g by omega)];exact h1
  ·simp only[if_true]
 ·rw[e3,e3]at e;rcases hsp i b hib with⟨hi,hb⟩|rfl
  ·have l1:=(hlt _ _ (ho.1 i b hb hl)).1;rw[if_neg (by omega)]at e;rcases hsp j b' hjb with⟨hj,hb'⟩|rfl
   ·rw[if_neg (by omega)]at e;exact ho.2 i j b b' hb hb' hl hl' e
   ·rw[if_pos rfl]at e;omega
  ·rw[if_pos rfl]at e;rcases hsp j b' hjb with⟨hj,hb'⟩|rfl
   ·have l1:=(hlt _ _ (ho.1 j b' hb' hl')).1;rw[if_neg (by omega)]at e;omega
   ·rfl
theorem OwnK.set{C C':Ctx}{h:Hp}{b0 b':Blk}{t:List (TypeId×Nat×Nat)}{i:Nat}(ho:OwnK C h)(hb:h.b[i]?=some b0)(hl:b'.live=true->b0.live=true)(e1:∀i,C'.κ i=C.κ i)(e2:∀j l,C.own (C.κ j)=some l->C'.own (C.κ j)=some l)(e3:∀i,C'.lab i=C.lab i):OwnK C' ⟨h.b.set i b',t⟩:=by
 have hsp:∀(j:Nat) (b:Blk),(h.b.set i b')[j]?=some b->b.live=true->∃b2,h.b[j]?=some b2/\b2.live=true:=fun j b hjb hlb=>by
  rw[Zm]at hjb;split at hjb
  ·next e=>
   subst e;split at hjb
   ·injection hjb with hjb;subst hjb;exact⟨b0,hb,hl hlb⟩
   ·cases hjb
  ·exact⟨b,hjb,hlb⟩
 refine⟨fun j b hjb hlb=>?_,fun j k b b2 hjb hkb hlb hlb2 e=>?_⟩
 ·obtain⟨b2,h1,h2⟩:=hsp j b hjb hlb;rw[e1,e3];exact e2 _ _ (ho.1 j b2 h1 h2)
 ·obtain⟨b3,h1,h2⟩:=hsp j b hjb hlb;obtain⟨b4,h3,h4⟩:=hsp k b2 hkb hlb2;rw[e3,e3]at e;exact ho.2 j k b3 b4 h1 h3 h2 h4 e
def Ctx.at(C:Ctx)(w:World):Ctx:={ C with w:=w }
theorem cell_of_block{w w':World}{g j:Nat}(h:w'.heap[g]?=w.heap[g]?):w'.cell? ⟨g,j,none⟩=w.cell? ⟨g,j,none⟩:=by simp only[World.cell?,h]
theorem RowAt.same{C C':Ctx}{g cap W:Nat}{E:TypeId}(h:RowAt C g E W cap)(e:C'.w.heap[g]?=C.w.heap[g]?):RowAt C' g E W cap:=by
 obtain⟨cur,h1,h2⟩:=h;exact⟨cur,e.trans h1,h2⟩
theorem RowAt.lt{C:Ctx}{g cap W:Nat}{E:TypeId}(h:RowAt C g E W cap):g<C.w.heap.size:=by
 obtain⟨cur,h1,h2⟩:=h;exact(ZS.1 h1).1
theorem BlkRep.ext{C C':Ctx}{i:Nat}{b:Blk}(h:BlkRep C i b)(he:Ext C C')(hi:i<C.nb)(hx:b.live=true->C.own (C.κ i)=some (C.lab i)/\(∀g,C.own g=some (C.lab i)->C'.w.heap[g]?=C.w.heap[g]?)/\∀g,C'.own g=some (C.lab i)↔C.own g=some (C.lab i))(hsz:C.w.heap.size<=C'.w.heap.size):BlkRep C' i b:=by
 cases b with
 |gone=>trivial
 |cells T l=>
  obtain⟨ho,hblk,_⟩:=hx rfl;obtain⟨cs,h1,h2⟩:=h;refine⟨cs,?_,RepL.ext he l cs h2⟩;rw[(he.box i hi).1,hblk _ ho];exact h1
 |opq R vis=>
  obtain⟨ho,hblk,hown⟩:=hx rfl;have hlab:=(he.box i hi).2.2;refine⟨fun w' hw hs=>?_,fun o x hx=>?_⟩
  ·rw[hlab]at hw;have:=h.1 w' (fun g hg=>(hw g ((hown g).2 hg)).trans (hblk g hg)) (Zr hsz hs);rw[(he.box i hi).1,hlab];have e:(fun g=>C'.own g=some (C.lab i))=(fun g=>C.own g=some (C.lab i)):=funext fun g=>propext (hown g)
   rw[e];exact this
  ·obtain⟨v,h1,h2⟩:=h.2 o x hx;exact⟨v,by rw[(he.box i hi).1,cell_of_block (hblk _ ho)];exact h1,Rep.ext he x v h2⟩
 |row T l=>
  obtain⟨ho,hblk,_⟩:=hx rfl;obtain⟨cs,rest,h1,h2,h3⟩:=h;refine⟨cs,rest,?_,RepL.ext he l cs h2,by rw[(he.box i hi).2.1];exact h3⟩;rw[(he.box i hi).1,hblk _ ho];exact h1
 |map l c=>
  obtain⟨ho,hblk,_⟩:=hx rfl;obtain⟨es,h1,h2,h3⟩:=h;exact⟨es,by rw[(he.box i hi).1,hblk _ ho];exact h1,h2.ext he,h3⟩
theorem cxr{C:Ctx}{w':World}{h:Hp}{G:World->Prop}(hI:Inv G C h)(hb:Below C.w.heap.size C.w w'):Ext C (C.at w') where
 cells:=fun g j hs=>⟨hs,cell_of_block (hb.block g (hI.prot g j hs).1)⟩
 nb:=Ze _
 box:=fun _ _=>⟨rfl,rfl,rfl⟩
 row:=fun t E W m ht=>by
  obtain⟨_,_,cap,h1,_⟩:=hI.rows t E W m ht;exact⟨m,ht,.inr ⟨rfl,rfl,fun cap hc=>hc.same (hb.block _ h1.lt)⟩⟩
theorem aq8{C:Ctx}{w':World}{h:Hp}{G:World->Prop}(hI:Inv G C h)(hb:Below C.w.heap.size C.w w'):Inv G (C.at w') h/\Step C (C.at w'):=by
 have he:=cxr hI hb;refine⟨⟨hI.nb,fun i b hib=>?_,hI.ownk,fun g i hg=>?_,fun g j hs=>?_,fun t E W m ht=>?_,hI.inj,hI.toks,Zr hI.base hb.size,fun w2 hw=>?_⟩,⟨he,hb.os,hb.tape,hb.output,hb.size,rfl,fun g hg _ _=>hb.block g hg,fun _ _=>rfl,fun _ _ h=> .inl h,fun t h=> .inr ⟨h,rfl⟩⟩⟩
 ·have hi:i<C.nb:=by rw[<-hI.nb];exact(Zb.1 hib).1
  exact(hI.box i b hib).ext he hi (fun hl=>⟨hI.ok hib hl,fun g hg=>hb.block g (hI.ownlt g _ hg).2.1,fun _=>Iff.rfl⟩) hb.size
 ·obtain⟨h1,h2,h3⟩:=hI.ownlt g i hg;exact⟨h1,ZG h2 hb.size,h3⟩
 ·obtain⟨h1,h2,h3⟩:=hI.prot g j hs;exact⟨ZG h1 hb.size,h2,h3⟩
 ·obtain⟨h1,h2,cap,h3,h4⟩:=hI.rows t E W m ht;exact⟨h1,h2,cap,h3.same (hb.block _ h3.lt),h4⟩
 ·exact hI.glob w2 fun g hg=>(hw g hg).trans (hb.block g (ZG hg hI.base))
def ACall(P:Program)(G:World->Prop)(f:FuncId)(args:List A)(h:Hp)(Q:A->Hp->Prop):Prop:=
 ∀(C:Ctx) (cs:List Value),Inv G C h->RepL C args cs->Calls P f cs.toArray C.w fun e w'=>
  ∃(C':Ctx) (h':Hp) (v:A) (cv:Value),e=.returned cv/\C'.w=w'/\Inv G C' h'/\Step C C'/\Rep C' v cv/\Q v h'
theorem ACall.mono{P:Program}{G:World->Prop}{f:FuncId}{args:List A}{h:Hp}{Q Q':A->Hp->Prop}(hc:ACall P G f args h Q)(hq:∀v h',Q v h'->Q' v h'):ACall P G f args h Q':=
 fun C cs hI ha=>(hc C cs hI ha).mono fun e w' ⟨C',h',v,cv,h1,h2,h3,h4,h5,h6⟩=>⟨C',h',v,cv,h1,h2,h3,h4,h5,hq _ _ h6⟩
theorem azu{P:Program}{G:World->Prop}{f:FuncId}{args:List A}{cargs:List Value}{v:A}{cv:Value}(hargs:∀C cs,RepL C args cs->cs=cargs)
  (hc:∀w,G w->Calls P f cargs.toArray w fun e w'=>e=.returned cv/\Below w.heap.size w w') (hv:∀C,Rep C v cv) (h:Hp):ACall P G f args h fun v' h'=>v'=v/\h'=h:=by
 intro C cs hI ha;obtain rfl:=hargs C cs ha;refine(hc C.w (hI.glob C.w fun _ _=>rfl)).mono ?_;rintro e w' ⟨rfl,hb⟩;obtain⟨h1,h2⟩:=aq8 hI hb;exact⟨C.at w',h,v,cv,rfl,rfl,h1,h2,hv _,rfl,rfl⟩
def Ctx.hid(C:Ctx):Ctx:={ C with nb:=0,hw:=fun _=>none,own:=fun _=>none }
theorem RepL.pures{C C':Ctx}(h:Same C C'):∀(l:List A) (cs:List Value),l.all A.pure=true->RepL C l cs->RepL C' l cs
 |[],cs,d,r=>by unfold RepL at r⊢;exact r
 |x::l,cs,d,r=>by
  unfold RepL at r⊢;rw[ZK,Zg]at d;obtain⟨c,cs',h1,h2,h3⟩:=r;exact⟨c,cs',h1,Rep.pure h x c d.1 h2,RepL.pures h l cs' d.2 h3⟩
theorem ACall.beside{P:Program}{G:World->Prop}{f:FuncId}{args:List A}{Q:A->Hp->Prop}(hc:ACall P G f args ⟨[],[]⟩ Q)(hp:∀v h',Q v h'->v.pure=true)(ha:args.all A.pure=true)(h:Hp):
  ACall P G f args h fun v h'=>h'=h/\∃h0,Q v h0:=by
 intro C cs hI hr;have hid:Inv G C.hid ⟨[],[]⟩:=by
  refine⟨rfl,fun i b hb=>by simp at hb,⟨fun i b hb=>by simp at hb,fun i j b b' hb=>by simp at hb⟩,fun g i hg=>by simp[Ctx.hid]at hg,fun g j hs=>?_,fun t E W m ht=>by simp[Ctx.hid]at ht,fun t t' ht=>by simp[Ctx.hid]at ht,fun t=>by simp[Ctx.hid],hI.base,hI.glob⟩;exact⟨(hI.prot g j hs).1,rfl,fun t E W m ht=>by simp[Ctx.hid]at ht⟩
 refine(hc C.hid cs hid (RepL.pures (C:=C) (C':=C.hid) ⟨fun g j hs=>⟨hs,rfl⟩⟩ args cs ha hr)).mono ?_;rintro e w' ⟨C1,h1,v,cv,rfl,rfl,I1,S1,r1,q1⟩;have hblk:∀g,g<C.w.heap.size->C1.w.heap[g]?=C.w.heap[g]?:=fun g hg=>S1.frame g hg rfl fun t ht=>by simp[Ctx.hid]at ht
 let C2:Ctx:={ C with w:=C1.w,S:=C1.S,own:=fun g=>if g<C.w.heap.size then C.own g else none }
 have hsz:C.w.heap.size<=C1.w.heap.size:=S1.size;have he:Ext C C2:=by
  refine⟨fun g j hs=>S1.ext.cells g j hs,Ze _,fun _ _=>⟨rfl,rfl,rfl⟩,fun t E W m ht=>?_⟩;obtain⟨_,_,cap,h2,_⟩:=hI.rows t E W m ht;exact⟨m,ht,.inr ⟨rfl,rfl,fun cap hc=>hc.same (hblk _ h2.lt)⟩⟩
 have hown:∀g i,C2.own g=some i↔C.own g=some i:=fun g i=>by
  show(if g<C.w.heap.size then C.own g else none)=some i↔_
  split
  ·exact Iff.rfl
  ·next hg=>exact⟨fun e=>(by cases e),fun e=>absurd (hI.ownlt g i e).2.1 hg⟩
 have hprot:∀g j,C1.S g j->C.S g j\/C.w.heap.size<=g:=fun g j hs=>by
  rcases S1.prot g j hs with h2|h2|⟨t,h2,_⟩
  ·exact .inl h2
  ·exact .inr h2
  ·simp[Ctx.hid]at h2
 refine⟨C2,h,v,cv,rfl,rfl,⟨hI.nb,fun i b hib=>?_,⟨fun i b hb hl=>(hown _ _).2 (hI.ok hb hl),hI.ownk.2⟩,fun g i hg=>?_,fun g j hs=>?_,fun t E W m ht=>?_,hI.inj,hI.toks,Zr hI.base hsz,fun w2 hw=>?_⟩,⟨he,S1.os,S1.tape,S1.output,hsz,rfl,fun g hg _ _=>hblk g hg,fun g hg=>?_,fun g j hs=>?_,fun t ht=> .inr ⟨ht,rfl⟩⟩,Rep.pure (C:=C1) (C':=C2) ⟨fun g j hs=>⟨hs,rfl⟩⟩ v cv (hp v h1 q1) r1,rfl,h1,q1⟩
 ·have hi:i<C.nb:=by rw[<-hI.nb];exact(Zb.1 hib).1
  exact(hI.box i b hib).ext he hi (fun hl=>⟨hI.ok hib hl,fun g hg=>hblk g (hI.ownlt g _ hg).2.1,fun g=>hown g _⟩) hsz
 ·obtain⟨k1,k2,k3⟩:=hI.ownlt g i ((hown g i).1 hg);exact⟨k1,ZG k2 hsz,k3⟩
 ·have hlt:=(I1.prot g j hs).1;rcases hprot g j hs with h2|h2
  ·obtain⟨k1,k2,k3⟩:=hI.prot g j h2;exact⟨hlt,by show(if g<C.w.heap.size then C.own g else none)=none;rw[if_pos k1,k2],k3⟩
  ·refine⟨hlt,by show(if g<C.w.heap.size then C.own g else none)=none;rw[if_neg (by omega)],fun t E W m ht e=>?_⟩;obtain⟨_,_,cap,k1,_⟩:=hI.rows t E W m ht;have:=k1.lt;have e':C.τ t=g:=e;omega
 ·obtain⟨k1,k2,cap,k3,k4⟩:=hI.rows t E W m ht;exact⟨by show(if C.τ t<C.w.heap.size then C.own (C.τ t)else none)=none;rw[if_pos k3.lt,k1],k2,cap,k3.same (hblk _ k3.lt),k4⟩
 ·exact hI.glob w2 fun g hg=>(hw g hg).trans (hblk g (ZG hg hI.base))
 ·show(if g<C.w.heap.size then C.own g else none)=C.own g
  rw[if_pos hg]
 ·rcases hprot g j hs with h2|h2
  ·exact .inl h2
  ·exact .inr (.inl h2)
inductive Opd where
 |t (n:Nat)
 |c (a:A)
inductive AOp where
 |mv (x:Opd)
 |pick (c a b:Opd)
 |alloc (T:TypeId) (z:List A)
 |box (T:TypeId) (x:Opd)
 |build (z:List A) (parts:List (Nat×Nat×Opd))
 |mks (W:Nat) (parts:List Opd)
 |mkr (E:TypeId) (W:Nat) (parts:List Opd)
 |mkc (E:TypeId) (W bytes:Nat) (Z:List A) (l c:Opd)
 |mkl (E:TypeId) (W:Nat) (parts:List Opd)
 |slsl (W:Nat) (x:Opd) (lo hi:Option Opd)
 |load (agg:Bool) (n:Nat) (p:Opd)
 |store (n:Nat) (p x:Opd)
 |nilck (x:Opd)
 |faddr (off:Nat) (x:Opd)
 |iaddr (W:Nat) (x i:Opd)
 |sidx (x i:Opd)
 |ssl (x:Opd) (lo hi:Option Opd)
 |len (s:Bool) (x:Opd)
 |app (E:TypeId) (W bytes:Nat) (x y:Opd)
 |apb (E:TypeId) (W bytes:Nat) (x y:Opd)
 |bin (op:BinOp) (x y:Opd)
 |eq (kind:Nat) (ks:List Nat) (ne:Bool) (x y:Opd)
 |un (op:UnOp) (x:Opd)
 |conv (k:IntKind) (x:Opd)
 |fld (b:Bool) (n:Nat) (x:Opd) (o:Nat)
 |extract (x:Opd) (i:Nat)
 |max3 (x y z:Opd)
 |mkfn (f:FuncId) (caps:List Opd)
 |mkmap
 |mget (z:A) (ok:Bool) (m k:Opd)
 |mset (m k x:Opd)
 |mdel (m k:Opd)
 |mclr (m:Opd)
 |mlen (m:Opd)
 |mm (mx:Bool) (x y:Opd)
 |call (f:FuncId) (args:List Opd)
 |callv (x:Opd) (args:List Opd)
structure AOper where
 dst:Option Nat
 op:AOp
 guard:Option (Nat×Bool)
 after:List Nat
inductive ACode where
 |skip
 |reg (draw:Bool) (ops:List AOper)
 |seq (a b:ACode)
 |cond (c:Opd) (a b:ACode)
 |block (id:Nat) (c:ACode)
 |loop (c:ACode)
 |exit (id:Nat)
 |ret
 |prim (n:Nat) (c:Code)
def A.cells:A->List A
 |.agg l=>l
 |x=>[x]
def A.one:A->Bool
 |.agg _=>false
 |.tup _=>false
 |_=>true
def setCells:List A->Nat->List A->List A
 |l,_,[]=>l
 |l,o,x::xs=>setCells (l.set o x) (o+1) xs
def fillA(ev:Opd->A):List A->List (Nat×Nat×Opd)->Option (List A)
 |z,[]=>some z
 |z,(o,n,x)::ps=>if(ev x).cells.length=n/\o+n<=z.length then fillA ev (setCells z o (ev x).cells) ps else none
def rowsA(ev:Opd->A)(W:Nat):List Opd->Option (List (List A))
 |[]=>some []
 |x::xs=>if(ev x).cells.length=W/\(ev x).cells.all A.data=true then(rowsA ev W xs).map ((ev x).cells::·)else none
def rowsR(ev:Opd->A)(W:Nat):List Opd->Option (List (List A))
 |[]=>some []
 |x::xs=>if(ev x).cells.length=W then(rowsR ev W xs).map ((ev x).cells::·)else none
def eqCells:List Nat->List A->List A->Option Bool
 |[],[],[]=>some true
 |0::ks,.int k a::l,.int k' b::m=>if k=k' then(eqCells ks l m).map ((a==b)&&·)else none
 |1::ks,.str a::l,.str b::m=>(eqCells ks l m).map ((a==b)&&·)
 |2::ks,.bool a::l,.bool b::m=>(eqCells ks l m).map ((a==b)&&·)
 |_,_,_=>none
def shA(op:BinOp)(k:IntKind)(a b:Int):Option A:=
 match op with
 |.shl=>if 0<=b then some (.int k (k.wrap (a*2^(min b.toNat k.bits))))else none
 |.shr=>if 0<=b then some (.int k (a.fdiv (2^(min b.toNat k.bits))))else none
 |_=>none
def bop(op:BinOp):A->A->Option A
 |.int k a,.int k' b=>
  (match op with
  |.shl=>shA .shl k a b
  |.shr=>shA .shr k a b
  |_=>if k=k' then
   (match op with
   |.and=>some (.int k (bits .and k a b))
   |.or=>some (.int k (bits .or k a b))
   |.xor=>some (.int k (bits .xor k a b))
   |.andNot=>some (.int k (bits .andNot k a b))
   |.add=>some (.int k (k.wrap (a+b)))
   |.sub=>some (.int k (k.wrap (a-b)))
   |.mul=>some (.int k (k.wrap (a*b)))
   |.quo=>if b≠0 then some (.int k (k.wrap (a.tdiv b)))else none
   |.rem=>if b≠0 then some (.int k (a.tmod b))else none
   |.eql=>some (.bool (a==b))
   |.neq=>some (.bool (a !=b))
   |.lss=>some (.bool (decide (a<b)))
   |.leq=>some (.bool (decide (a<=b)))
   |.gtr=>some (.bool (decide (a>b)))
   |.geq=>some (.bool (decide (a>=b)))
   |_=>none)else none)
 |.str a,.str b=>
   (match op with
   |.add=>if a.length+b.length<1099511627776 then some (.str (a++b))else none
   |.eql=>some (.bool (a==b))
   |.neq=>some (.bool (a !=b))
   |.lss=>some (.bool (Op.bytesLess a b))
   |.leq=>some (.bool (Op.bytesLess a b||a==b))
   |.gtr=>some (.bool (!(Op.bytesLess a b||a==b)))
   |.geq=>some (.bool (!Op.bytesLess a b))
   |_=>none)
 |_,_=>none
def eqA:Nat->List Nat->A->A->Option Bool
 |0,_,.bool a,.bool b=>some (a==b)
 |1,_,.nilp,.nilp=>some true
 |1,_,.nilp,.ptr ..=>some false
 |1,_,.nilp,.vptr ..=>some false
 |1,_,.ptr ..,.nilp=>some false
 |1,_,.vptr ..,.nilp=>some false
 |4,_,.nilp,.nilp=>some true
 |4,_,.nilp,.ptr ..=>some false
 |4,_,.nilp,.vptr ..=>some false
 |4,_,.ptr ..,.nilp=>some false
 |4,_,.vptr ..,.nilp=>some false
 |4,_,.ptr i o,.ptr j p=>if i=j/\o=p then some true else none
 |2,ks,.agg l,.agg m=>eqCells ks l m
 |3,_,.nilm,.nilm=>some true
 |3,_,.nilm,.mp ..=>some false
 |3,_,.mp ..,.nilm=>some false
 |_,_,_,_=>none
def uop(op:UnOp):A->Option A
 |.bool b=>(match op with|.not=>some (.bool (!b))|_=>none)
 |.int k n=>(match op with|.neg=>some (.int k (k.wrap (0-n)))|_=>none)
 |_=>none
def loadA(h:Hp)(agg:Bool)(n:Nat):A->Option A
 |.ptr i o=>match h.b[i]? with
  |some (.cells _ l)=>if o+n<=l.length then(if agg then some (.agg ((l.drop o).take n))else((l.drop o).take n)[0]?)else none
  |some (.opq _ vis)=>if agg=false/\n=1 then vis o else none
  |some (.row _ l)=>if o+n<=l.length then(if agg then some (.agg ((l.drop o).take n))else((l.drop o).take n)[0]?)else none
  |_=>none
 |.vptr l=>if n<=l.length then(if agg then some (.agg (l.take n))else(l.take n)[0]?)else none
 |_=>none
def storeA(h:Hp)(n:Nat)(x:A):A->Option Hp
 |.ptr i o=>match h.b[i]? with
  |some (.cells T l)=>if x.cells.length=n/\o+n<=l.length/\x.cells.all A.one=true then some ⟨h.b.set i (.cells T (setCells l o x.cells)),h.t⟩else none
  |some (.row T l)=>if x.cells.length=n/\o+n<=l.length/\x.cells.all A.one=true then some ⟨h.b.set i (.row T (setCells l o x.cells)),h.t⟩else none
  |_=>none
 |_=>none
def appA(h:Hp)(E:TypeId)(W bytes:Nat):A->A->Option (A×Hp)
 |.sl W1 .nil xs,.sl W' _ ys=>if W'=W/\0<ys.length/\ys.length<=maxLen/\ys.length*bytes<=140737488355328 then
   some (.sl W (.tok h.t.length) ys,⟨h.b,h.t++[(E,W,ys.length)]⟩)else if ys.length=0 then some (.sl W1 .nil xs,h)else none
 |.sl W1 (.tok t) xs,.sl W' _ ys=>if W1=W/\W'=W/\0<ys.length/\h.t[t]?=some (E,W,xs.length)/\xs.length+ys.length<=maxLen/\(xs.length+ys.length)*bytes<=140737488355328 then
   some (.sl W (.tok t) (xs++ys),⟨h.b,h.t.set t (E,W,xs.length+ys.length)⟩)else if ys.length=0 then some (.sl W1 (.tok t) xs,h)else none
 |_,_=>none
def rowC(h:Hp)(E:TypeId)(W:Nat):A->Option (Nat×List A)
 |.sl W' _ ys=>if W'=W then some (ys.length,ys.flatten)else none
 | .bs j W' m=>if W'=W then (match h.b[j]? with
  | some (.row E' l)=>if E'=E/\m*W<=l.length/\(l.take (m*W)).all A.one=true then some (m,l.take (m*W)) else none
  | _=>none) else none
 |_=>none
def appB(h:Hp)(E:TypeId)(W bytes:Nat)(x y:A):Option (A×Hp):=
 match rowC h E W y with
 | some (m,l2)=>if 0 < m then (match x with
  | .sl _ .nil _=>if m<=maxLen/\m*bytes<=140737488355328 then some (.bs h.b.length W m,⟨h.b++[.row E l2],h.t⟩) else none
  | .bs i W1 n=>if W1=W/\n+m<=maxLen/\(n+m)*bytes<=140737488355328 then (match h.b[i]? with
   | some (.row E1 l)=>if E1=E/\n*W<=l.length then some (.bs h.b.length W (n+m),⟨h.b.set i .gone++[.row E (l.take (n*W)++l2)],h.t⟩) else none
   | _=>none) else none
  | _=>none) else none
 |none=>none
def ssliceA(lo hi:Option A):A->Option A
 |.str l=>
  (match lo.getD (.int .i64 0),hi.getD (.int .i64 l.length)with
  |.int _ a,.int _ b=>if 0<=a/\a<=b/\b<=l.length then some (.str ((l.take b.toNat).drop a.toNat))else none
  |_,_=>none)
 |_=>none
def sslA(W:Nat)(lo hi:Option A):A->Option A
 |.sl W' _ rows=>
  (match lo.getD (.int .i64 0),hi.getD (.int .i64 rows.length)with
  |.int _ a,.int _ b=>if 0<=a/\a<=b/\b<=rows.length/\(W'=W\/rows.length=0)then some (.sl W .no ((rows.take b.toNat).drop a.toNat))else none
  |_,_=>none)
 |.bs _ W' m=>
  (match lo,hi with
  |some (.int _ a),none=>if a=(m:Int)/\W'=W then some (.sl W .no [])else none
  |_,_=>none)
 |_=>none
def mfind(n:Int):List (Int×A)->Option A
 |[]=>none
 |(k,x)::l=>if n=k then some x else mfind n l
def mput(n:Int)(x:A):List (Int×A)->List (Int×A)
 |[]=>[(n,x)]
 |(k,y)::l=>if n=k then(n,x)::l else(k,y)::mput n x l
def merase(n:Int):List (Int×A)->List (Int×A)
 |[]=>[]
 |(k,y)::l=>if n=k then l else(k,y)::merase n l
def mclock(n:Int)(l:List (Int×A))(c:Nat):Nat:=if(mfind n l).isSome then c else c+1
def mgetV(z:A)(ok:Bool)(r:Option A):A:=if ok then .tup [r.getD z,.bool r.isSome]else r.getD z
def mgetA(h:Hp)(z:A)(ok:Bool):A->A->Option A
 |.nilm,.int .i64 _=>some (mgetV z ok none)
 |.mp i,.int .i64 n=>match h.b[i]? with
  |some (.map es _)=>some (mgetV z ok (mfind n es))
  |_=>none
 |_,_=>none
def msetA(h:Hp)(x:A):A->A->Option Hp
 |.mp i,.int .i64 n=>match h.b[i]? with
  |some (.map es c)=>some ⟨h.b.set i (.map (mput n x es) (mclock n es c)),h.t⟩
  |_=>none
 |_,_=>none
def mdelA(h:Hp):A->A->Option Hp
 |.mp i,.int .i64 n=>match h.b[i]? with
  |some (.map es c)=>some ⟨h.b.set i (.map (merase n es) c),h.t⟩
  |_=>none
 |_,_=>none
def mclrA(h:Hp):A->Option Hp
 |.mp i=>match h.b[i]? with
  |some (.map _ c)=>some ⟨h.b.set i (.map [] c),h.t⟩
  |_=>none
 |_=>none
def mlenA(h:Hp):A->Option A
 |.nilm=>some (.int .i64 0)
 |.mp i=>match h.b[i]? with
  |some (.map es _)=>some (.int .i64 es.length)
  |_=>none
 |_=>none
def zrows(m:Int)(Z:List A):List A:=if m=0 then[]else(List.replicate m.toNat Z).flatten
def astep(ev:Opd->A)(h:Hp):AOp->Option (A×Hp)
 |.mv x=>some (ev x,h)
 |.pick c a b=>(match ev c with|.bool t=>some (if t then ev a else ev b,h)|_=>none)
 |.alloc T z=>some (.ptr h.b.length 0,⟨h.b++[.cells T z],h.t⟩)
 |.box T x=>some (.ptr h.b.length 0,⟨h.b++[.cells T (ev x).cells],h.t⟩)
 |.build z ps=>(fillA ev z ps).map fun l=>(.agg l,h)
 |.mks W ps=>(rowsA ev W ps).map fun r=>(.sl W .no r,h)
 |.mkl E W ps=>(rowsA ev W ps).map fun r=>(.sl W (.tok h.t.length) r,⟨h.b,h.t++[(E,W,r.length)]⟩)
 |.slsl W x lo hi=>(sslA W (lo.map ev) (hi.map ev) (ev x)).map (·,h)
 |.mkr E W ps=>(rowsR ev W ps).map fun r=>(.bs h.b.length W r.length,⟨h.b++[.row E r.flatten],h.t⟩)
 |.mkc E W by_ Z l c=>(match ev l,ev c with|.int _ m,.int _ n=>if 0<=m/\m<=n/\n<=1000000000000/\n*(by_:Int)<=140737488355328 then some (.bs h.b.length W m.toNat,⟨h.b++[.row E (zrows m Z)],h.t⟩)else none|_,_=>none)
 |.load g n p=>(loadA h g n (ev p)).map (·,h)
 |.store n p x=>(storeA h n (ev x) (ev p)).map (.tup [],·)
 |.nilck x=>(match ev x with|.ptr i o=>some (.ptr i o,h)|.vptr l=>some (.vptr l,h)|_=>none)
 |.faddr o x=>(match ev x with|.ptr i p=>some (.ptr i (p+o),h)|.vptr l=>if o<=l.length then some (.vptr (l.drop o),h)else none|_=>none)
 |.iaddr W x i=>(match ev x,ev i with|.sl W' _ rows,.int _ n=>if 0<=n/\n<rows.length/\W'=W then some (.vptr (rows.getD n.toNat []),h)else none|.bs b W' m,.int _ n=>if 0<=n/\n<m/\W'=W then some (.ptr b (n.toNat*W),h)else none|_,_=>none)
 |.sidx x i=>(match ev x,ev i with|.str l,.int _ n=>if 0<=n/\n<l.length then some (.int .u8 (l.getD n.toNat 0).toNat,h)else none|_,_=>none)
 |.ssl x lo hi=>(ssliceA (lo.map ev) (hi.map ev) (ev x)).map (·,h)
 |.len s x=>(match s,ev x with|true,.str l=>some (.int .i64 l.length,h)|false,.sl _ _ rows=>some (.int .i64 rows.length,h)|false,.bs _ _ m=>some (.int .i64 m,h)|_,_=>none)
 |.app E W by_ x y=>appA h E W by_ (ev x) (ev y)
 |.apb E W by_ x y=>appB h E W by_ (ev x) (ev y)
 |.bin op x y=>(bop op (ev x) (ev y)).map (·,h)
 |.eq k ks ne x y=>(eqA k ks (ev x) (ev y)).map fun b=>(.bool (if ne then !b else b),h)
 |.un op x=>(uop op (ev x)).map (·,h)
 |.conv k x=>(match ev x with|.int _ n=>some (.int k (k.wrap n),h)|_=>none)
 |.fld b n x o=>(match ev x with|.agg l=>(if b then(if o+n<=l.length then some (.agg ((l.drop o).take n))else none)else l[o]?).map (·,h)|_=>none)
 |.extract x i=>(match ev x with|.tup l=>(l[i]?).map (·,h)|_=>none)
 |.max3 x y z=>(match ev x,ev y,ev z with|.int k a,.int _ b,.int _ c=>some (.int k (if c>(if b>a then b else a)then c else(if b>a then b else a)),h)|_,_,_=>none)
 |.mkfn f caps=>some (.fn f (caps.map ev),h)
 |.mkmap=>some (.mp h.b.length,⟨h.b++[.map [] 0],h.t⟩)
 |.mget z ok m k=>(mgetA h z ok (ev m) (ev k)).map (·,h)
 |.mset m k x=>(msetA h (ev x) (ev m) (ev k)).map (.tup [],·)
 |.mdel m k=>(mdelA h (ev m) (ev k)).map (.tup [],·)
 |.mclr m=>(mclrA h (ev m)).map (.tup [],·)
 |.mlen m=>(mlenA h (ev m)).map (·,h)
 |.mm mx x y=>(match ev x,ev y with|.int k a,.int _ b=>some (.int k (if mx then(if b>a then b else a)else(if b<a then b else a)),h)|_,_=>none)
 |.call ..=>none
 |.callv ..=>none
def cj9:Value->Option A
 |.int k n=>some (.int k n)
 |.string s=>some (.str s.data.toList)
 |.bool b=>some (.bool b)
 |.pointer none=>some .nilp
 |.nilIface=>some .nili
 |.nilFunc=>some .nilf
 |.map none=>some .nilm
 |.slice none 0 0=>some (.sl 0 .nil [])
 |_=>none
def convs:List Value->Option (List A)
 |[]=>some []
 |v::vs=>(cj9 v).bind fun a=>(convs vs).bind fun l=>some (a::l)
def convV:Value->Option A
 |.agg cs=>(convs cs.toList).bind fun l=>some (.agg l)
 |.tuple cs=>if cs.toList.isEmpty then some (.tup [])else none
 |v=>cj9 v
def compX(n:Nat):Operand->Option Opd
 |.tmp t=>if t<n then some (.t t)else none
 |.const v=>(convV v).bind fun a=>some (.c a)
 |.func f=>if f<bmk then some (.c (.fn f []))else none
 |.global _=>none
def compXs(n:Nat):List Operand->Option (List Opd)
 |[]=>some []
 |x::xs=>(compX n x).bind fun a=>(compXs n xs).bind fun l=>some (a::l)
def compO(n:Nat):Option Operand->Option (Option Opd)
 |none=>some none
 |some x=>(compX n x).bind fun a=>some (some a)
def compParts(P:Program)(n:Nat)(fs:Array Field):List (Nat×Operand)->Option (List (Nat×Nat×Opd))
 |[]=>some []
 |(j,x)::ps=>(fs[j]?).bind fun f=>(P.info? f.type).bind fun i=>(compX n x).bind fun a=>(compParts P n fs ps).bind fun l=>some ((f.offset,i.size,a)::l)
def compRow(n:Nat):Nat->List (Nat×Operand)->Option (List Opd)
 |_,[]=>some []
 |k,(j,x)::ps=>if j=k then(compX n x).bind fun a=>(compRow n (k+1) ps).bind fun l=>some (a::l)else none
def isAggB:TypeDesc->Bool
 |.struct _=>true
 |.array ..=>true
 |_=>false
def mapB(P:Program)(t:TypeId):Bool:=
 match P.underlying t with
 |some (.map k _)=>(match P.underlying k with|some (.int _)=>true|_=>false)
 |_=>false
def zeroOf(P:Program)(t:TypeId):Option A:=
 match P.underlying t with
 |some (.map _ e)=>(P.info? e).bind fun i=>i.zero.bind fun z=>convV z
 |_=>none
def callOk(P:Program)(f:FuncId):Bool:=
 match P.funcs[f]? with
 | some fn => !(fn.name == "runtime.NumGoroutine") && fn.body.isSome
 |none=>false
def compCall(P:Program)(B:TypeId->Bool)(n:Nat)(c:Call)(t:TypeId):Option AOp:=
 match c.callee with
 |.value (.func f)=>if callOk P f=true then(compXs n c.args.toList).bind fun l=>some (.call f l)else none
 |.value (.tmp x)=>if x<n then(compXs n c.args.toList).bind fun l=>some (.callv (.t x) l)else none
 | .builtin .len=>(match c.args.toList,c.argTypes.toList with
  | [x],[T]=>(match P.underlying T with
   | some .string=>(compX n x).bind fun a=>some (.len true a)
   | some (.slice _)=>(compX n x).bind fun a=>some (.len false a)
   | some (.map ..)=>(compX n x).bind fun a=>some (.mlen a)
   | _=>none)
  | _,_=>none)
 | .builtin .append=>(match c.args.toList,c.argTypes.toList with
  | [x,y],[T,T']=>if T=T' then (match P.underlying T with
   | some (.slice E)=>(P.info? E).bind fun i=>i.zero.bind fun z=>if z.cells.size=i.size/\0 < i.size then (compX n x).bind fun a=>(compX n y).bind fun b=>some (if B E=true then .apb E i.size i.bytes a b else .app E i.size i.bytes a b) else none
   | _=>none) else none
  | _,_=>none)
 | .builtin .delete=>(match c.args.toList,c.argTypes.toList with
  | [x,y],T::_=>if mapB P T=true then (compX n x).bind fun a=>(compX n y).bind fun b=>some (.mdel a b) else none
  | _,_=>none)
 | .builtin .clear=>(match c.args.toList,c.argTypes.toList with
  | [x],T::_=>if mapB P T=true then (compX n x).bind fun a=>some (.mclr a) else none
  | _,_=>none)
 | .builtin .max=>(match c.args.toList with
  | [x,y,z]=>(compX n x).bind fun a=>(compX n y).bind fun b=>(compX n z).bind fun d=>some (.max3 a b d)
  | [x,y]=>(compX n x).bind fun a=>(compX n y).bind fun b=>some (.mm true a b)
  | _=>none)
 | .builtin .min=>(match c.args.toList with
  | [x,y]=>(compX n x).bind fun a=>(compX n y).bind fun b=>some (.mm false a b)
  | _=>none)
 |_=>none
def kindsB(P:Program):List Field->Nat->Option (List Nat)
 |[],_=>some []
 | f :: fs, o => if f.offset = o ∧ f.name ≠ "_" then (match P.underlying f.type with
  | some (.int _)=>(kindsB P fs (o+1)).bind fun l=>some (0::l)
  | some .string=>(kindsB P fs (o+1)).bind fun l=>some (1::l)
  | some .bool=>(kindsB P fs (o+1)).bind fun l=>some (2::l)
  | _=>none) else none
def ptrB(P:Program)(E:TypeId):Bool:=match P.underlying E with
 |some (.pointer _)=>true
 |_=>match (P.info? E).bind (·.zero)with
  |some (.agg cs)=>cs.toList.any fun v=>match v with|.pointer _=>true|_=>false
  |_=>false
def compOp(P:Program)(B:TypeId->Bool)(n:Nat)(o:Oper):Option AOp:=
 match o.op with
 |.move x=>(compX n x).bind fun a=>some (.mv a)
 |.assign x=>(compX n x).bind fun a=>some (.mv a)
 |.pick c a b=>(compX n c).bind fun c=>(compX n a).bind fun a=>(compX n b).bind fun b=>some (.pick c a b)
 |.alloc T=>(P.info? T).bind fun i=>i.zero.bind fun z=>(convs z.cells.toList).bind fun l=>some (.alloc T l)
 |.box T x=>(compX n x).bind fun a=>some (.box T a)
 | .build t parts=>(match P.underlying t with
  | some (.struct fs)=>if fs.toList.all (fun f=>(P.info? f.type).isSome) then (P.info? t).bind fun i=>i.zero.bind fun z=>(convs z.cells.toList).bind fun l=>(compParts P n fs parts.toList).bind fun ps=>some (.build l ps) else none
  | _=>none)
 | .buildSlice t len parts=>(match P.underlying t with
  | some (.slice E)=>(P.info? E).bind fun i=>i.zero.bind fun z=>if z.cells.size=i.size/\0 < i.size/\parts.toList.length=len/\0 < len/\len*i.size<=1000 then (compRow n 0 parts.toList).bind fun ps=>if ptrB P E=true then some (.mkr E i.size ps) else some (.mks i.size ps) else none
  | _=>none)
 |.load t p=>(P.underlying t).bind fun d=>(P.info? t).bind fun i=>(compX n p).bind fun a=>if isAggB d=true\/i.size=1 then some (.load (isAggB d) i.size a)else none
 |.store t p x=>(P.info? t).bind fun i=>(compX n p).bind fun a=>(compX n x).bind fun b=>some (.store i.size a b)
 |.nilCheck x=>(compX n x).bind fun a=>some (.nilck a)
 | .binOp op t x y _=>(match P.underlying t with
  | some (.int _)=>(compX n x).bind fun a=>(compX n y).bind fun b=>some (.bin op a b)
  | some .string=>(compX n x).bind fun a=>(compX n y).bind fun b=>some (.bin op a b)
  | some .bool=>if op = .eql\/op = .neq then (compX n x).bind fun a=>(compX n y).bind fun b=>some (.eq 0 [] (op == .neq) a b) else none
  | some (.pointer e)=>if op = .eql\/op = .neq then (match P.info? e with
   | some i=>if 0 < i.size then (compX n x).bind fun a=>(compX n y).bind fun b=>some (.eq 4 [] (op == .neq) a b) else (compX n x).bind fun a=>(compX n y).bind fun b=>some (.eq 1 [] (op == .neq) a b)
   | none=>(compX n x).bind fun a=>(compX n y).bind fun b=>some (.eq 1 [] (op == .neq) a b)) else none
  | some (.map ..)=>if op = .eql\/op = .neq then (compX n x).bind fun a=>(compX n y).bind fun b=>some (.eq 3 [] (op == .neq) a b) else none
  | some (.struct fs)=>if (op = .eql\/op = .neq)/\P.stoodInHeld t=false/\P.eqGuardType P.depth t=false then (kindsB P fs.toList 0).bind fun ks=>(compX n x).bind fun a=>(compX n y).bind fun b=>some (.eq 2 ks (op == .neq) a b) else none
  | _=>none)
 |.unOp op _ x=>(compX n x).bind fun a=>some (.un op a)
 | .convert src dst x=>(match P.underlying src,P.underlying dst with
  | some (.int _),some (.int k)=>(compX n x).bind fun a=>some (.conv k a)
  | _,_=>none)
 |.makeFunc (.func f) first caps=>if f<bmk then(if first.toList.isEmpty then(compXs n caps.toList).bind fun l=>some (.mkfn f l)else if caps.toList.isEmpty then(compXs n first.toList).bind fun l=>some (.mkfn (f+bmk) l)else none)else none
 | .slice t x lo hi mx=>(match P.underlying t,mx with
  | some .string,none=>(compX n x).bind fun a=>(compO n lo).bind fun l=>(compO n hi).bind fun h=>some (.ssl a l h)
  | some (.slice e),none=>(P.info? e).bind fun ie=>(compX n x).bind fun a=>(compO n lo).bind fun l=>(compO n hi).bind fun h=>some (.slsl ie.size a l h)
  | _,_=>none)
 | .fieldAddr s x j=>(match P.underlying s with
  | some (.struct fs)=>(fs[j]?).bind fun f=>(P.info? f.type).bind fun i=>if i.size≠0 then (compX n x).bind fun a=>some (.faddr f.offset a) else none
  | _=>none)
 | .indexAddr t x i=>(match P.underlying t with
  | some (.slice e)=>(P.info? e).bind fun ie=>(compX n x).bind fun a=>(compX n i).bind fun b=>some (.iaddr ie.size a b)
  | _=>none)
 | .index t x i=>(match P.underlying t with
  | some .string=>(compX n x).bind fun a=>(compX n i).bind fun b=>some (.sidx a b)
  | _=>none)
 | .field t x j=>(match P.underlying t with
  | some (.struct fs)=>(fs[j]?).bind fun f=>(P.underlying f.type).bind fun d=>(P.info? f.type).bind fun i=>(compX n x).bind fun a=>if isAggB d=true\/i.size=1 then some (.fld (isAggB d) i.size a f.offset) else none
  | _=>none)
 |.extract x i=>(compX n x).bind fun a=>some (.extract a i)
 |.makeMap t none=>if mapB P t=true then some .mkmap else none
 |.lookup t m k ok=>if mapB P t=true then(zeroOf P t).bind fun z=>(compX n m).bind fun a=>(compX n k).bind fun b=>some (.mget z ok a b)else none
 |.mapUpdate t m k x=>if mapB P t=true then(compX n m).bind fun a=>(compX n k).bind fun b=>(compX n x).bind fun d=>some (.mset a b d)else none
 | .makeSlice t l c=>(match P.underlying t with
  | some (.slice E)=>(P.info? E).bind fun i=>i.zero.bind fun z=>if B E=true/\z.cells.size=i.size/\0 < i.size then (convs z.cells.toList).bind fun Z=>(compX n l).bind fun a=>(compX n c).bind fun b=>some (.mkc E i.size i.bytes Z a b) else none
  | _=>none)
 |.call c=>compCall P B n c o.type
 |_=>none
def compDst(n:Nat):Option Tmp->Bool
 |none=>true
 |some d=>decide (d<n)
def compGuard(n:Nat)(ops:Array Oper):Option (Nat×Bool)->Option (Option (Nat×Bool))
 |none=>some none
 |some (j,b)=>((ops[j]?).bind (·.dst)).bind fun t=>if t<n then some (some (t,b))else none
def afterOf(o:Oper):List Nat:=o.after.toList.filterMap fun e=>if Region.binds .any e=true then some e.on else none
def sliceZ(P:Program)(E:TypeId):Bool:=
 match (P.info? E).bind (·.zero)with
 |some (.agg cs)=>cs.toList.any fun v=>match v with|.slice ..=>true|_=>false
 |_=>false
def takenB(ops:List Oper)(d:Nat):Bool:=
 ops.any fun o=>match o.op with
  |.call c=>(match c.callee,c.args.toList with|.builtin .append,[_,.tmp x]=>x==d|_,_=>false)
  |_=>false
def litB(P:Program)(ops:List Oper)(o:Oper):Bool:=
 match o.op,o.dst with
 |.buildSlice t _ _,some d=>(match P.underlying t with|some (.slice E)=>sliceZ P E&&!takenB ops d|_=>false)
 |_,_=>false
def litA(P:Program)(o:Oper):AOp->AOp
 | .mks W ps=>(match o.op with
  | .buildSlice t _ _=>(match P.underlying t with | some (.slice E) => .mkl E W ps | _ => .mks W ps)
  | _ => .mks W ps)
 |x=>x
def compOp'(P:Program)(B:TypeId->Bool)(n:Nat)(ops:List Oper)(o:Oper):Option AOp:=
 if litB P ops o=true then(compOp P B n o).map (litA P o)else compOp P B n o
def compOpers(P:Program)(B:TypeId->Bool)(n:Nat)(draw:Bool)(ops:Array Oper):List Oper->Option (List AOper)
 |[]=>some []
 |o::os=>if compDst n o.dst=true then(compOp' P B n ops.toList o).bind fun a=>(compGuard n ops o.guard).bind fun g=>(compOpers P B n draw ops os).bind fun l=>some (⟨o.dst,a,g,if draw then afterOf o else[]⟩::l)else none
def stuck:ACode:=.cond (.c (.tup [])) .skip .skip
def comp(P:Program)(B:TypeId->Bool)(n:Nat):Code->Option ACode
 |.skip=>some .skip
 |.region id ops draw=>(match compOpers P B n draw ops ops.toList with|some l=>some (.reg draw l)|none=>some (.prim n (.region id ops draw)))
 |.seq a b=>(comp P B n a).bind fun a=>(comp P B n b).bind fun b=>some (.seq a b)
 |.cond c a b=>(compX n c).bind fun c=>(comp P B n a).bind fun a=>(comp P B n b).bind fun b=>some (.cond c a b)
 |.block id c=>(comp P B n c).bind fun c=>some (.block id c)
 |.loop c=>(comp P B n c).bind fun c=>some (.loop c)
 |.exit id=>some (.exit id)
 |.ret=>some .ret
 |_=>some stuck
def prims:ACode->List Code
 |.prim _ c=>[c]
 |.seq a b=>prims a++prims b
 |.cond _ a b=>prims a++prims b
 |.block _ c=>prims c
 |.loop c=>prims c
 |_=>[]
end AX
end
end Go.Proofs.YthhpocnmfknalaaGreatDoor
