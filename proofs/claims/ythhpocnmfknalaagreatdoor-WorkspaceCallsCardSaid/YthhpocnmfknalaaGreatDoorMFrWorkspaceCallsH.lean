/- Part of what the proof needs. -/
import Derived.Test.YthhpocnmfknalaaGreatDoorMFrWorkspaceCallsG
import Derived.StillTailTactics
import Derived.KernelRfl
set_option maxHeartbeats 4000000
set_option maxRecDepth 100000
set_option linter.all false
namespace Go.Proofs.YthhpocnmfknalaaGreatDoor
section
open Go.RowKit
def Duo'(w:World)(g:Nat)(T:TypeId)(a b:Value):Prop:=w.heap[g]?=some (.cells #[a,b] T (0,0))
namespace Duo'
variable {w w':World} {g:Nat} {T:TypeId} {a b:Value}
theorem lt(h:Duo' w g T a b):g<w.heap.size:=(ZS.1 h).1
theorem below(h:Duo' w g T a b)(hb:Below w.heap.size w w'):Duo' w' g T a b:=(hb.block g h.lt).trans h
theorem facts(h:Duo' w g T a b):w.cell? ⟨g,0,none⟩=some a/\w.cell? ⟨g,1,none⟩=some b/\w.frozen? ⟨g,0,none⟩=false/\w.frozen? ⟨g,1,none⟩=false:=by
 refine⟨?_,?_,?_,?_⟩
 ·rw[cell_of_row _ _ _ _ _ _ h];rfl
 ·rw[cell_of_row _ _ _ _ _ _ h];rfl
 ·simp only[World.frozen?,show w.heap[g]?=_ from h];rfl
 ·simp only[World.frozen?,show w.heap[g]?=_ from h];rfl
theorem fresh(w:World)(T:TypeId)(a b:Value):Duo' (w.alloc (.cells #[a,b] T)) w.heap.size T a b:=heap_alloc_new w _
end Duo'
theorem Duo'.set(w:World)(g:Nat)(T:TypeId)(a b x y:Value)(h:Duo' w g T a b):Duo' ((w.setCell ⟨g,0,none⟩ x).setCell ⟨g,1,none⟩ y) g T x y:=by
 unfold Duo' World.setCell at *;rw[Ys,if_pos rfl,Ys,if_pos rfl,h];rfl
end
section
open Go.RowKit
namespace Wire
end Wire
namespace Wire
end Wire
end
section
namespace Val
open Wire
theorem num_len(n:Int):1<=(num n).length:=(encF_len 9 _).1
theorem enc_len:∀v:V,1<=(enc v).length
 |.mk k n s is ks=>by
  rw[enc,Za];have:=num_len k;omega
theorem encs_len(m:Bool):∀(l:List V) (ks:List (List UInt8)),l.length<=(encs m l ks).length
 |[],ks=>by simp
 |v::l,ks=>by
  rw[encs,Za,Za,Zf];have h1:=enc_len v;have h2:=encs_len m l ks.tail;omega
mutual
theorem chk_nodes:∀(v:V) (lv b:Nat),(chk v lv b).1=0->b+1<=(chk v lv b).2/\(chk v lv b).2<=4096
 |.mk k n s is ks,lv,b,h=>by
  rw[chk]at h⊢;split at h
  ·simp at h
  ·next h1=>
   rw[if_neg h1];split at h
   ·simp at h
   ·next h2=>
    rw[if_neg h2];split at h
    ·next h3=>exact absurd h h3
    ·next h3=>
     rw[if_neg h3];have:=chks_nodes is (lv+1) (b+1) h (by omega);omega
theorem chks_nodes:∀(l:List V) (lv b:Nat),(chks l lv b).1=0->b<=4096->b+l.length<=(chks l lv b).2/\(chks l lv b).2<=4096
 |[],lv,b,h,hb=>by rw[chks];simp;omega
 |v::l,lv,b,h,hb=>by
  rw[chks]at h⊢;split at h
  ·next h1=>exact absurd h h1
  ·next h1=>
   rw[if_neg h1];have h2:=chk_nodes v lv b (by omega);have h3:=chks_nodes l lv _ h h2.2;rw[Zf];omega
end
theorem numR_enc(n:Int)(l:List UInt8)(h0:-9223372036854775808<=n)(h1:n<=9223372036854775807):numR ⟨num n++l,0⟩=(⟨l,0⟩,n):=by
 unfold numR;rw[if_neg (by simp),grp_num n l h0 h1];simp
theorem cntR_enc(n:Nat)(l:List UInt8)(h:n<=l.length)(h1:n<=9223372036854775807):cntR ⟨num n++l,0⟩ 1=(⟨l,0⟩,n):=by
 unfold cntR;rw[if_neg (by simp),grp_num n l (by omega) (by omega)];simp only;rw[if_neg (by omega),if_neg (by rw[Za,Nat.div_one];omega)];simp
theorem strR_enc(s l:List UInt8)(h:s.length<=9223372036854775807):strR ⟨strE s++l,0⟩=(⟨l,0⟩,s):=by
 unfold strR strE;rw[Zi,cntR_enc s.length (s++l) (by simp) h];simp
theorem shaped_of{k n:Int}{s:List UInt8}{is:List V}{ks:List (List UInt8)}(h:nodeZ (.mk k n s is ks)=0):
  shapedB k n s is.length ks.length=true/\(k=2->-9007199254740992<=n/\n<=9007199254740992)/\textZ s=0/\keysZ none ks=0:=by
 rw[nodeZ]at h;split at h
 ·omega
 ·next h1=>
  split at h
  ·omega
  ·next h2=>
   split at h
   ·next h3=>exact absurd h h3
   ·next h3=>exact⟨by simpa using h1,fun hk=>Decidable.byContradiction fun hn=>h2 ⟨hk,hn⟩,by omega,h⟩
theorem text_len{s:List UInt8}(h:textZ s=0):s.length<=4096:=by
 unfold textZ at h;split at h<;>omega
theorem keys_len:∀(ks:List (List UInt8)) (p:Option (List UInt8)),keysZ p ks=0->∀k∈ks,k.length<=4096
 |[],p,h,k,hk=>by simp at hk
 |q::ks,p,h,k,hk=>by
  rw[keysZ]at h;split at h
  ·next h1=>exact absurd h h1
  ·next h1=>
   have h2:textZ q=0:=by omega
   have h3:keysZ (some q) ks=0:=by
    split at h
    ·omega
    ·exact h
   rcases ZL.1 hk with rfl|hk
   ·exact text_len h2
   ·exact keys_len ks (some q) h3 k hk
mutual
theorem read_enc:∀(v:V) (lv b f:Nat) (more:List UInt8),(chk v lv b).1=0->lv+f=33->read f ⟨enc v++more,0⟩=(⟨more,0⟩,0,v)
 |.mk k n s is ks,lv,b,f,more,h,hf=>by
  have hn:=chk_nodes _ lv b h;rw[chk]at h;split at h
  ·simp at h
  next h1=>
  split at h
  ·simp at h
  next h2=>
  split at h
  ·next h3=>exact absurd h h3
  next h3=>
  obtain⟨hsh,hnum,htx,hks⟩:=shaped_of (by omega:nodeZ (.mk k n s is ks)=0);obtain⟨g,rfl⟩:∃g,f=g+1:=⟨f-1,by omega⟩;have hcn:=chks_nodes is (lv+1) (b+1) h (by omega);have hsl:=text_len htx;unfold shapedB at hsh;simp only[Zg,ZZ,Zx,ZT]at hsh;obtain⟨⟨⟨⟨⟨hk0,hk6⟩,hnn⟩,hss⟩,hii⟩,hkk⟩:=hsh;have hnb:-9007199254740992<=n/\n<=9007199254740992:=by
   rcases hnn with(h|⟨_,h|h⟩)|h
   ·exact hnum h
   all_goals omega
  rw[read,readW,if_neg (by simp),enc,Zi,numR_enc k _ (by omega) (by omega)];simp only;rw[if_neg (by simp),if_neg (by omega)];by_cases hk12:k=1\/k=2
  ·rw[if_pos hk12, if_pos hk12, numR_enc n _ (by omega) (by omega)]
   have e1 : s = [] := by rcases hss with h | h; · omega
                          · exact h
   have e2 : is = [] := by rcases hii with (h | h) | h; · omega
                           · omega
                           · exact ZN h
   have e3:ks=[]:=by rw[if_neg (by omega)]at hkk;exact ZN (by simpa using hkk)
   rw[e1,e2,e3]
  rw[if_neg hk12,if_neg hk12];have en:n=0:=by
   rcases hnn with(h|⟨h,_⟩)|h
   ·exact absurd (.inr h) hk12
   ·exact absurd (.inl h) hk12
   ·exact h
  by_cases hk3:k=3
  ·rw[if_pos hk3, if_pos hk3, strR_enc s _ (by omega)]
   have e2 : is = [] := by rcases hii with (h | h) | h; · omega
                           · omega
                           · exact ZN h
   have e3:ks=[]:=by rw[if_neg (by omega)]at hkk;exact ZN (by simpa using hkk)
   rw[e2,e3,en]
  rw[if_neg hk3,if_neg hk3]
  have e1 : s = [] := by rcases hss with h | h; · omega
                         · exact h
  by_cases hk45:k=4\/k=5
  ·rw[if_pos hk45,if_pos hk45,Zi,cntR_enc is.length _ (by have:=encs_len (k==5) is ks;rw[Za];omega) (by omega)];simp only;have hm:((k==5)=true->ks.length=is.length)/\((k==5)=false->ks=[]):=by
    constructor
    ·intro h5;rw[if_pos (by simpa using h5)]at hkk;simpa using hkk
    ·intro h5;rw[if_neg (by simpa using h5)]at hkk;exact ZN (by simpa using hkk)
   have:=items_enc is ks (k==5) (lv+1) (b+1) g more [] [] h (by omega) hm (keys_len ks none hks);rw[this];simp[en,e1]
  ·rw[if_neg hk45, if_neg hk45]
   have e2 : is = [] := by rcases hii with (h | h) | h; · omega
                           · omega
                           · exact ZN h
   have e3:ks=[]:=by rw[if_neg (by omega)]at hkk;exact ZN (by simpa using hkk)
   rw[e1,e2,e3,en];rfl
theorem items_enc:∀(l:List V) (ks:List (List UInt8)) (m:Bool) (lv b f:Nat) (more:List UInt8) (is0:List V) (ks0:List (List UInt8)),(chks l lv b).1=0->lv+f=33->((m=true->ks.length=l.length)/\(m=false->ks=[]))->(∀k∈ks,k.length<=4096) ->
  itemsW (read f) m l.length ⟨encs m l ks++more,0⟩ is0 ks0=(⟨more,0⟩,0,is0++l,ks0++ks)
 |[],ks,m,lv,b,f,more,is0,ks0,h,hf,hm,hk=>by
  have:ks=[]:=by
   cases m with
   |true=>exact ZN (by simpa using hm.1 rfl)
   |false=>exact hm.2 rfl
  subst this;simp[itemsW,encs]
 |v::l,ks,m,lv,b,f,more,is0,ks0,h,hf,hm,hk=>by
  rw[chks]at h;split at h
  ·next h1=>exact absurd h h1
  next h1=>
  have h1':(chk v lv b).1=0:=by omega
  rw[encs,Zf,itemsW];cases m with
  |true=>
   match ks,hm.1 rfl,hk with
   |k::ks,hl,hk=>
    have hkl:=hk k (by simp);simp only[if_true,Zaq,keyE];rw[Zi,Zi,strR_enc k _ (by omega)];simp only;rw[read_enc v lv b f _ h1' hf];simp only;rw[if_neg (by simp),items_enc l ks true lv _ f more (is0++[v]) (ks0++[k]) h hf ⟨fun _=>by simpa using hl,fun h=>by cases h⟩ (fun q hq=>hk q (by simp[hq]))];simp
  |false=>
   obtain rfl:=hm.2 rfl;simp only[Zn,if_false,keyE,Zq,List.tail_nil];rw[Zi,read_enc v lv b f _ h1' hf];simp only;rw[if_neg (by simp),items_enc l [] false lv _ f more (is0++[v]) ks0 h hf ⟨(by intro h;cases h),fun _=>rfl⟩ (by simp)];simp
end
theorem value_back(v:V)(more:List UInt8)(h:checkZ v=0):readValue ⟨enc v++more,0⟩=(⟨more,0⟩,0,v):=by
 unfold readValue;rw[read_enc v 1 0 32 more h rfl];simp[h]
mutual
def eqB:V->V->Bool
 |.mk k n s is ks,.mk k' n' s' is' ks'=>k==k'&&n==n'&&s==s'&&ks==ks'&&eqBs is is'
def eqBs:List V->List V->Bool
 |[],[]=>true
 |v::l,v'::l'=>eqB v v'&&eqBs l l'
 |_,_=>false
end
end Val
end
section
namespace Val
theorem encs_take(m:Bool):∀(is:List V) (ks:List (List UInt8)) (i:Nat) (h:i<is.length),
  encs m (is.take (i+1)) ks=encs m (is.take i) ks++(keyE m (ks.drop i)++enc is[i])
 |v::l,ks,0,h=>by simp[encs]
 |v::l,ks,i+1,h=>by
  have ih:=encs_take m l ks.tail i (by simpa using h);rw[Yd,encs,ih,Yd,encs];have e:ks.tail.drop i=ks.drop (i+1):=by rw[<-List.drop_one,Y6,Nat.add_comm]
  rw[e];simp
theorem chks_get:∀(l:List V) (lv b:Nat),(chks l lv b).1=0->∀i (h:i<l.length),∃b',(chk l[i] lv b').1=0
 |v::l,lv,b,h,0,hi=>by
  rw[chks]at h;split at h
  ·next h1=>exact absurd h h1
  ·next h1=>exact⟨b,by simpa using h1⟩
 |v::l,lv,b,h,i+1,hi=>by
  rw[chks]at h;split at h
  ·next h1=>exact absurd h h1
  ·next h1=>simpa using chks_get l lv _ h i (by simpa using hi)
theorem chk_parts{k n:Int}{s:List UInt8}{is:List V}{ks:List (List UInt8)}{lv b:Nat}(h:(chk (.mk k n s is ks) lv b).1=0):
  lv<=32/\b<4096/\nodeZ (.mk k n s is ks)=0/\(chks is (lv+1) (b+1)).1=0:=by
 rw[chk]at h;split at h
 ·simp at h
 next h1=>
 split at h
 ·simp at h
 next h2=>
 split at h
 ·next h3=>exact absurd h h3
 next h3=>exact⟨by omega,by omega,by omega,h⟩
set_option maxRecDepth 100000
mutual
theorem enc_bound:∀(v:V) (lv b:Nat),(chk v lv b).1=0->(enc v).length+9000*b+4500<=9000*(chk v lv b).2
 |.mk k n s is ks,lv,b,h=>by
  obtain⟨h1,h2,h3,h4⟩:=chk_parts h;have hc:chk (.mk k n s is ks) lv b=chks is (lv+1) (b+1):=by rw[chk,if_neg (by omega),if_neg (by omega),if_neg (by omega)]
  rw[hc];obtain⟨_,_,htx,hks⟩:=shaped_of h3;have hs:=text_len htx;have hb:=encs_bound is ks (k==5) (lv+1) (b+1) h4 (keys_len ks none hks);have hn:∀n:Int,(Wire.num n).length<=10:=fun n=>(Wire.encF_len 9 (Wire.zig n)).2
  rw[enc,Za];have a1:=hn k;have a2:=hn n;have a3:=hn is.length;have a4:=hn s.length;have hge:b+1<=(chks is (lv+1) (b+1)).2:=by have:=chks_nodes is (lv+1) (b+1) h4 (by omega);omega
  split
  ·omega
  ·split
   ·unfold Wire.strE;rw[Za];omega
   ·split
    ·rw[Za];omega
    ·simp;omega
theorem encs_bound:∀(l:List V) (ks:List (List UInt8)) (m:Bool) (lv b:Nat),(chks l lv b).1=0->(∀k∈ks,k.length<=4096)->(encs m l ks).length+9000*b<=9000*(chks l lv b).2
 |[],ks,m,lv,b,h,hk=>by rw[chks];simp[encs]
 |v::l,ks,m,lv,b,h,hk=>by
  rw[chks]at h⊢;split at h
  ·next h1=>exact absurd h h1
  next h1=>
  rw[if_neg h1];have i1:=enc_bound v lv b (by simpa using h1);have i2:=encs_bound l ks.tail m lv _ h (fun k hkm=>hk k (List.mem_of_mem_tail hkm));have hke:(keyE m ks).length<=4106:=by
   cases m with
   |false=>simp[keyE]
   |true=>
    cases ks with
    |nil=>simp[keyE]
    |cons q ks=>
     have h1:=hk q (by simp);have h2:=(Wire.encF_len 9 (Wire.zig (q.length:Int))).2;show(Wire.strE q).length<=4106
     unfold Wire.strE Wire.num;rw[Za];omega
  rw[encs,Za,Za];omega
end
end Val
end
section
open Go.RowKit Go.ChangeShapes Go.WideShapes
mutual
theorem D.induct{P:D->Prop}(hi:∀k n,P (.int k n))(hs:∀l,P (.str l))(hb:∀b,P (.bool b))(ha:∀l,(∀d∈l,P d)->P (.agg l))(hsl:∀W l,(∀d∈l,P d)->P (.sl W l)):∀d:D,P d
 |.int k n=>hi k n
 |.str l=>hs l
 |.bool b=>hb b
 |.agg l=>ha l (D.inducts hi hs hb ha hsl l)
 |.sl W l=>hsl W l (D.inducts hi hs hb ha hsl l)
theorem D.inducts{P:D->Prop}(hi:∀k n,P (.int k n))(hs:∀l,P (.str l))(hb:∀b,P (.bool b))(ha:∀l,(∀d∈l,P d)->P (.agg l))(hsl:∀W l,(∀d∈l,P d)->P (.sl W l)):∀l:List D,∀d∈l,P d
 |[]=>by simp
 |d::l=>Y7.2 ⟨D.induct hi hs hb ha hsl d,D.inducts hi hs hb ha hsl l⟩
end
mutual
def V.Wf:V->Prop
 |.mk k n s is ks=>((Lit.int .i64 k).wf=true/\(Lit.int .i64 n).wf=true/\s.length<=maxLen/\is.length<=maxLen/\ks.length<=maxLen/\∀q∈ks,q.length<=maxLen)/\V.Wfs is
def V.Wfs:List V->Prop
 |[]=>True
 |v::l=>v.Wf/\V.Wfs l
end
theorem V.wfs_of:∀l:List V,(∀v∈l,v.Wf)->V.Wfs l
 |[],_=>by unfold V.Wfs;trivial
 |v::l,h=>by unfold V.Wfs;exact⟨h v (by simp),V.wfs_of l fun x hx=>h x (by simp[hx])⟩
section
variable {P:Program}
theorem bz4{d:D}{t:TypeId}{k:IntKind}(hu:P.underlying t=some (.int k))(h:Conf P d t):∃n,d=.int k n/\(Lit.int k n).wf=true:=by
 cases d<;>unfold Conf at h<;>first
  |(obtain⟨h1,h2⟩:=h;rw[hu]at h1;injection h1 with h1;injection h1 with h1;subst h1;exact⟨_,rfl,h2⟩)
  |(obtain⟨h1,h2⟩:=h;rw[hu]at h1;cases h1)
  |(obtain⟨_,h1,_⟩:=h;rw[hu]at h1;cases h1)
  |(rw[hu]at h;cases h;done)
theorem akr{d:D}{t:TypeId}(hu:P.underlying t=some .string)(h:Conf P d t):∃l,d=.str l/\l.length<=maxLen:=by
 cases d<;>unfold Conf at h<;>first
  |exact⟨_,rfl,h.2⟩
  |(obtain⟨h1,h2⟩:=h;rw[hu]at h1;cases h1)
  |(obtain⟨_,h1,_⟩:=h;rw[hu]at h1;cases h1)
  |(rw[hu]at h;cases h;done)
theorem bj2{d:D}{t:TypeId}(hu:P.underlying t=some .bool)(h:Conf P d t):∃b,d=.bool b:=by
 cases d<;>unfold Conf at h<;>first
  |exact⟨_,rfl⟩
  |(obtain⟨h1,h2⟩:=h;rw[hu]at h1;cases h1)
  |(obtain⟨_,h1,_⟩:=h;rw[hu]at h1;cases h1)
theorem axq{d:D}{t:TypeId}{fs:Array Field}(hu:P.underlying t=some (.struct fs))(h:Conf P d t):∃l,d=.agg l/\ConfL P l (fs.toList.map (·.type)):=by
 cases d<;>unfold Conf at h<;>first
  |(obtain⟨fs',h1,h2⟩:=h;rw[hu]at h1;injection h1 with h1;injection h1 with h1;subst h1;exact⟨_,rfl,h2⟩)
  |(obtain⟨h1,h2⟩:=h;rw[hu]at h1;cases h1)
  |(obtain⟨_,h1,_⟩:=h;rw[hu]at h1;cases h1)
  |(rw[hu]at h;cases h;done)
theorem axo{d:D}{t e:TypeId}(hu:P.underlying t=some (.slice e))(h:Conf P d t):∃l,d=.sl (P.cellsOf e) l/\ConfA P l e/\l.length<=maxLen:=by
 cases d<;>unfold Conf at h<;>first
  |(obtain⟨e',h1,h2,h3⟩:=h;rw[hu]at h1;injection h1 with h1;injection h1 with h1;subst h1;subst h2;exact⟨_,rfl,h3⟩)
  |(obtain⟨h1,h2⟩:=h;rw[hu]at h1;cases h1)
  |(obtain⟨_,h1,_⟩:=h;rw[hu]at h1;cases h1)
  |(rw[hu]at h;cases h;done)
theorem azx{l:List D}{t:TypeId}{ts:List TypeId}(h:ConfL P l (t::ts)):∃d l',l=d::l'/\Conf P d t/\ConfL P l' ts:=by
 cases l with
 |nil=>unfold ConfL at h;cases h
 |cons d l=>
  unfold ConfL at h;obtain⟨t',ts',h1,h2,h3⟩:=h;injection h1 with h1 h4;subst h1;subst h4;exact⟨d,l,rfl,h2,h3⟩
theorem awg{l:List D}(h:ConfL P l []):l=[]:=by
 cases l with
 |nil=>rfl
 |cons d l=>unfold ConfL at h;obtain⟨_,_,h1,_⟩:=h;cases h1
theorem avm:∀{l:List D} {t:TypeId},ConfA P l t->∀d∈l,Conf P d t
 |[],t,h=>by simp
 |d::l,t,h=>by
  unfold ConfA at h;exact Y7.2 ⟨h.1,avm h.2⟩
theorem bj3{t:TypeId}(hu:P.underlying t=some .string):∀l:List D,ConfA P l t->∃ks:List (List UInt8),l=ks.map .str/\∀q∈ks,q.length<=maxLen
 |[],h=>⟨[],rfl,by simp⟩
 |d::l,h=>by
  unfold ConfA at h;obtain⟨s,rfl,hs⟩:=akr hu h.1;obtain⟨ks,rfl,hk⟩:=bj3 hu l h.2;exact⟨s::ks,rfl,Y7.2 ⟨hs,hk⟩⟩
end
theorem cq4:∀l:List D,(∀d∈l,∃v:V,d=v.toD/\v.Wf)->∃vs:List V,l=V.toDs vs/\∀v∈vs,v.Wf
 |[],h=>⟨[],rfl,by simp⟩
 |d::l,h=>by
  obtain⟨v,rfl,hv⟩:=h d (by simp);obtain⟨vs,rfl,hvs⟩:=cq4 l fun d hd=>h d (by simp[hd])
  exact⟨v::vs,rfl,Y7.2 ⟨hv,hvs⟩⟩
theorem bqj(d:D):(Conf Tryz.prog d 51->∃v:V,d=v.toD/\v.Wf)/\(Conf Tryz.prog d 49->∃vs:List V,d=.sl 5 (V.toDs vs)/\(∀v∈vs,v.Wf)/\vs.length<=maxLen):=by
 have hst:∀d,(∀l,d≠D.agg l)->¬Conf Tryz.prog d 51:=fun d hd h=>by
  obtain⟨l,h1,_⟩:=axq Tryz.underlying51 h;exact hd l h1
 have hsl:∀d,(∀W l,d≠D.sl W l)->¬Conf Tryz.prog d 49:=fun d hd h=>by
  obtain⟨l,h1,_⟩:=axo Tryz.underlying49 h;exact hd _ l h1
 refine D.induct (P:=fun d=>(Conf Tryz.prog d 51->∃v:V,d=v.toD/\v.Wf)/\(Conf Tryz.prog d 49->∃vs:List V,d=.sl 5 (V.toDs vs)/\(∀v∈vs,v.Wf)/\vs.length<=maxLen)) ?_ ?_ ?_ ?_ ?_ d
 ·exact fun k n=>⟨fun h=>absurd h (hst _ fun l=>by simp),fun h=>absurd h (hsl _ fun W l=>by simp)⟩
 ·exact fun l=>⟨fun h=>absurd h (hst _ fun l=>by simp),fun h=>absurd h (hsl _ fun W l=>by simp)⟩
 ·exact fun b=>⟨fun h=>absurd h (hst _ fun l=>by simp),fun h=>absurd h (hsl _ fun W l=>by simp)⟩
 ·intro l ih;refine⟨fun h=>?_,fun h=>absurd h (hsl _ fun W l=>by simp)⟩;obtain⟨l',h1,h2⟩:=axq Tryz.underlying51 h;injection h1 with h1;subst h1;obtain⟨d0,l1,rfl,c0,h2⟩:=azx h2;obtain⟨d1,l2,rfl,c1,h2⟩:=azx h2;obtain⟨d2,l3,rfl,c2,h2⟩:=azx h2;obtain⟨d3,l4,rfl,c3,h2⟩:=azx h2;obtain⟨d4,l5,rfl,c4,h2⟩:=azx h2;obtain rfl:=awg h2;obtain⟨k,rfl,hk⟩:=bz4 (k:=.i64) Tryz.underlying48 c0;obtain⟨n,rfl,hn⟩:=bz4 (k:=.i64) Tryz.underlying3 c1;obtain⟨s,rfl,hs⟩:=akr Tryz.underlying9 c2;obtain⟨vs,rfl,hvs,hvl⟩:=(ih d3 (by simp)).2 c3;obtain⟨l4,rfl,c5,hl4⟩:=axo Tryz.underlying34 c4;obtain⟨ks,rfl,hks⟩:=bj3 Tryz.underlying9 l4 c5;have hw:Tryz.prog.cellsOf 9=1:=by kernel_rfl
  rw[hw];refine⟨.mk k n s vs ks,rfl,?_⟩;unfold V.Wf;exact⟨⟨hk,hn,hs,hvl,by simpa using hl4,hks⟩,V.wfs_of vs hvs⟩
 ·intro W l ih;refine⟨fun h=>absurd h (hst _ fun l=>by simp),fun h=>?_⟩;obtain⟨l',h1,h2,h3⟩:=axo Tryz.underlying49 h;injection h1 with h0 h1;subst h1;have hw:Tryz.prog.cellsOf 51=5:=by kernel_rfl
  rw[hw]at h0;subst h0;obtain⟨vs,rfl,hvs⟩:=cq4 l fun d hd=>(ih d hd).1 (avm h2 d hd)
  exact⟨vs,rfl,hvs,by rw[V.toDs_map]at h3;simpa using h3⟩
theorem cvq{d:D}(h:Conf Tryz.prog d 51):∃v:V,d=v.toD/\v.Wf:=(bqj d).1 h
end
end Go.Proofs.YthhpocnmfknalaaGreatDoor
