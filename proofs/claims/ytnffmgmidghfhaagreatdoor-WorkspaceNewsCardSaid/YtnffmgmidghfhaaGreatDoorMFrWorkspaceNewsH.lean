/- Part of what the proof needs. -/
import Derived.Test.YtnffmgmidghfhaaGreatDoorMFrWorkspaceNewsG
import Derived.KernelRfl
set_option maxHeartbeats 4000000
set_option maxRecDepth 100000
set_option linter.all false
namespace Go.Proofs.YtnffmgmidghfhaaGreatDoor
section
namespace Val
open Wire
theorem num_len(n:Int):1<=(num n).length:=(encF_len 9 _).1
theorem enc_len:∀v:V,1<=(enc v).length
 |.mk k n s is ks=>by
  rw[enc,Za];have:=num_len k;omega
theorem encs_len(m:Bool):∀(l:List V) (ks:List (List UInt8)),l.length<=(encs m l ks).length
 |[],ks=>by simp
 |v::l,ks=>by
  rw[encs,Za,Za,Zf];have h1:=enc_len v;have h2:=encs_len m l ks.tail;omega
mutual
theorem chk_nodes:∀(v:V) (lv b:Nat),(chk v lv b).1=0->b+1<=(chk v lv b).2/\(chk v lv b).2<=4096
 |.mk k n s is ks,lv,b,h=>by
  rw[chk]at h⊢;split at h
  ·simp at h
  ·next h1=>
   rw[if_neg h1];split at h
   ·simp at h
   ·next h2=>
    rw[if_neg h2];split at h
    ·next h3=>exact absurd h h3
    ·next h3=>
     rw[if_neg h3];have:=chks_nodes is (lv+1) (b+1) h (by omega);omega
theorem chks_nodes:∀(l:List V) (lv b:Nat),(chks l lv b).1=0->b<=4096->b+l.length<=(chks l lv b).2/\(chks l lv b).2<=4096
 |[],lv,b,h,hb=>by rw[chks];simp;omega
 |v::l,lv,b,h,hb=>by
  rw[chks]at h⊢;split at h
  ·next h1=>exact absurd h h1
  ·next h1=>
   rw[if_neg h1];have h2:=chk_nodes v lv b (by omega);have h3:=chks_nodes l lv _ h h2.2;rw[Zf];omega
end
theorem numR_enc(n:Int)(l:List UInt8)(h0:-9223372036854775808<=n)(h1:n<=9223372036854775807):numR ⟨num n++l,0⟩=(⟨l,0⟩,n):=by
 unfold numR;rw[if_neg (by simp),grp_num n l h0 h1];simp
theorem cntR_enc(n:Nat)(l:List UInt8)(h:n<=l.length)(h1:n<=9223372036854775807):cntR ⟨num n++l,0⟩ 1=(⟨l,0⟩,n):=by
 unfold cntR;rw[if_neg (by simp),grp_num n l (by omega) (by omega)];simp only;rw[if_neg (by omega),if_neg (by rw[Za,Nat.div_one];omega)];simp
theorem strR_enc(s l:List UInt8)(h:s.length<=9223372036854775807):strR ⟨strE s++l,0⟩=(⟨l,0⟩,s):=by
 unfold strR strE;rw[Zh,cntR_enc s.length (s++l) (by simp) h];simp
theorem shaped_of{k n:Int}{s:List UInt8}{is:List V}{ks:List (List UInt8)}(h:nodeZ (.mk k n s is ks)=0):
  shapedB k n s is.length ks.length=true/\(k=2->-9007199254740992<=n/\n<=9007199254740992)/\textZ s=0/\keysZ none ks=0:=by
 rw[nodeZ]at h;split at h
 ·omega
 ·next h1=>
  split at h
  ·omega
  ·next h2=>
   split at h
   ·next h3=>exact absurd h h3
   ·next h3=>exact⟨by simpa using h1,fun hk=>Decidable.byContradiction fun hn=>h2 ⟨hk,hn⟩,by omega,h⟩
theorem text_len{s:List UInt8}(h:textZ s=0):s.length<=4096:=by
 unfold textZ at h;split at h<;>omega
theorem keys_len:∀(ks:List (List UInt8)) (p:Option (List UInt8)),keysZ p ks=0->∀k∈ks,k.length<=4096
 |[],p,h,k,hk=>by simp at hk
 |q::ks,p,h,k,hk=>by
  rw[keysZ]at h;split at h
  ·next h1=>exact absurd h h1
  ·next h1=>
   have h2:textZ q=0:=by omega
   have h3:keysZ (some q) ks=0:=by
    split at h
    ·omega
    ·exact h
   rcases ZM.1 hk with rfl|hk
   ·exact text_len h2
   ·exact keys_len ks (some q) h3 k hk
mutual
theorem read_enc:∀(v:V) (lv b f:Nat) (more:List UInt8),(chk v lv b).1=0->lv+f=33->read f ⟨enc v++more,0⟩=(⟨more,0⟩,0,v)
 |.mk k n s is ks,lv,b,f,more,h,hf=>by
  have hn:=chk_nodes _ lv b h;rw[chk]at h;split at h
  ·simp at h
  next h1=>
  split at h
  ·simp at h
  next h2=>
  split at h
  ·next h3=>exact absurd h h3
  next h3=>
  obtain⟨hsh,hnum,htx,hks⟩:=shaped_of (by omega:nodeZ (.mk k n s is ks)=0);obtain⟨g,rfl⟩:∃g,f=g+1:=⟨f-1,by omega⟩;have hcn:=chks_nodes is (lv+1) (b+1) h (by omega);have hsl:=text_len htx;unfold shapedB at hsh;simp only[Zg,ZU,ZE,Z3]at hsh;obtain⟨⟨⟨⟨⟨hk0,hk6⟩,hnn⟩,hss⟩,hii⟩,hkk⟩:=hsh;have hnb:-9007199254740992<=n/\n<=9007199254740992:=by
   rcases hnn with(h|⟨_,h|h⟩)|h
   ·exact hnum h
   all_goals omega
  rw[read,readW,if_neg (by simp),enc,Zh,numR_enc k _ (by omega) (by omega)];simp only;rw[if_neg (by simp),if_neg (by omega)];by_cases hk12:k=1\/k=2
  ·rw[if_pos hk12, if_pos hk12, numR_enc n _ (by omega) (by omega)]
   have e1 : s = [] := by rcases hss with h | h; · omega
                          · exact h
   have e2 : is = [] := by rcases hii with (h | h) | h; · omega
                           · omega
                           · exact ZD h
   have e3:ks=[]:=by rw[if_neg (by omega)]at hkk;exact ZD (by simpa using hkk)
   rw[e1,e2,e3]
  rw[if_neg hk12,if_neg hk12];have en:n=0:=by
   rcases hnn with(h|⟨h,_⟩)|h
   ·exact absurd (.inr h) hk12
   ·exact absurd (.inl h) hk12
   ·exact h
  by_cases hk3:k=3
  ·rw[if_pos hk3, if_pos hk3, strR_enc s _ (by omega)]
   have e2 : is = [] := by rcases hii with (h | h) | h; · omega
                           · omega
                           · exact ZD h
   have e3:ks=[]:=by rw[if_neg (by omega)]at hkk;exact ZD (by simpa using hkk)
   rw[e2,e3,en]
  rw[if_neg hk3,if_neg hk3]
  have e1 : s = [] := by rcases hss with h | h; · omega
                         · exact h
  by_cases hk45:k=4\/k=5
  ·rw[if_pos hk45,if_pos hk45,Zh,cntR_enc is.length _ (by have:=encs_len (k==5) is ks;rw[Za];omega) (by omega)];simp only;have hm:((k==5)=true->ks.length=is.length)/\((k==5)=false->ks=[]):=by
    constructor
    ·intro h5;rw[if_pos (by simpa using h5)]at hkk;simpa using hkk
    ·intro h5;rw[if_neg (by simpa using h5)]at hkk;exact ZD (by simpa using hkk)
   have:=items_enc is ks (k==5) (lv+1) (b+1) g more [] [] h (by omega) hm (keys_len ks none hks);rw[this];simp[en,e1]
  ·rw[if_neg hk45, if_neg hk45]
   have e2 : is = [] := by rcases hii with (h | h) | h; · omega
                           · omega
                           · exact ZD h
   have e3:ks=[]:=by rw[if_neg (by omega)]at hkk;exact ZD (by simpa using hkk)
   rw[e1,e2,e3,en];rfl
theorem items_enc:∀(l:List V) (ks:List (List UInt8)) (m:Bool) (lv b f:Nat) (more:List UInt8) (is0:List V) (ks0:List (List UInt8)),(chks l lv b).1=0->lv+f=33->((m=true->ks.length=l.length)/\(m=false->ks=[]))->(∀k∈ks,k.length<=4096) ->
  itemsW (read f) m l.length ⟨encs m l ks++more,0⟩ is0 ks0=(⟨more,0⟩,0,is0++l,ks0++ks)
 |[],ks,m,lv,b,f,more,is0,ks0,h,hf,hm,hk=>by
  have:ks=[]:=by
   cases m with
   |true=>exact ZD (by simpa using hm.1 rfl)
   |false=>exact hm.2 rfl
  subst this;simp[itemsW,encs]
 |v::l,ks,m,lv,b,f,more,is0,ks0,h,hf,hm,hk=>by
  rw[chks]at h;split at h
  ·next h1=>exact absurd h h1
  next h1=>
  have h1':(chk v lv b).1=0:=by omega
  rw[encs,Zf,itemsW];cases m with
  |true=>
   match ks,hm.1 rfl,hk with
   |k::ks,hl,hk=>
    have hkl:=hk k (by simp);simp only[if_true,Zao,keyE];rw[Zh,Zh,strR_enc k _ (by omega)];simp only;rw[read_enc v lv b f _ h1' hf];simp only;rw[if_neg (by simp),items_enc l ks true lv _ f more (is0++[v]) (ks0++[k]) h hf ⟨fun _=>by simpa using hl,fun h=>by cases h⟩ (fun q hq=>hk q (by simp[hq]))];simp
  |false=>
   obtain rfl:=hm.2 rfl;simp only[Zo,if_false,keyE,ZA,List.tail_nil];rw[Zh,read_enc v lv b f _ h1' hf];simp only;rw[if_neg (by simp),items_enc l [] false lv _ f more (is0++[v]) ks0 h hf ⟨(by intro h;cases h),fun _=>rfl⟩ (by simp)];simp
end
theorem value_back(v:V)(more:List UInt8)(h:checkZ v=0):readValue ⟨enc v++more,0⟩=(⟨more,0⟩,0,v):=by
 unfold readValue;rw[read_enc v 1 0 32 more h rfl];simp[h]
end Val
end
section
namespace Val
theorem encs_take(m:Bool):∀(is:List V) (ks:List (List UInt8)) (i:Nat) (h:i<is.length),
  encs m (is.take (i+1)) ks=encs m (is.take i) ks++(keyE m (ks.drop i)++enc is[i])
 |v::l,ks,0,h=>by simp[encs]
 |v::l,ks,i+1,h=>by
  have ih:=encs_take m l ks.tail i (by simpa using h);rw[Yd,encs,ih,Yd,encs];have e:ks.tail.drop i=ks.drop (i+1):=by rw[<-List.drop_one,Y3,Nat.add_comm]
  rw[e];simp
theorem chks_get:∀(l:List V) (lv b:Nat),(chks l lv b).1=0->∀i (h:i<l.length),∃b',(chk l[i] lv b').1=0
 |v::l,lv,b,h,0,hi=>by
  rw[chks]at h;split at h
  ·next h1=>exact absurd h h1
  ·next h1=>exact⟨b,by simpa using h1⟩
 |v::l,lv,b,h,i+1,hi=>by
  rw[chks]at h;split at h
  ·next h1=>exact absurd h h1
  ·next h1=>simpa using chks_get l lv _ h i (by simpa using hi)
theorem chk_parts{k n:Int}{s:List UInt8}{is:List V}{ks:List (List UInt8)}{lv b:Nat}(h:(chk (.mk k n s is ks) lv b).1=0):
  lv<=32/\b<4096/\nodeZ (.mk k n s is ks)=0/\(chks is (lv+1) (b+1)).1=0:=by
 rw[chk]at h;split at h
 ·simp at h
 next h1=>
 split at h
 ·simp at h
 next h2=>
 split at h
 ·next h3=>exact absurd h h3
 next h3=>exact⟨by omega,by omega,by omega,h⟩
set_option maxRecDepth 100000
end Val
end
section
open Go.RowKit Go.ChangeShapes Go.WideShapes
mutual
theorem D.induct{P:D->Prop}(hi:∀k n,P (.int k n))(hs:∀l,P (.str l))(hb:∀b,P (.bool b))(ha:∀l,(∀d∈l,P d)->P (.agg l))(hsl:∀W l,(∀d∈l,P d)->P (.sl W l)):∀d:D,P d
 |.int k n=>hi k n
 |.str l=>hs l
 |.bool b=>hb b
 |.agg l=>ha l (D.inducts hi hs hb ha hsl l)
 |.sl W l=>hsl W l (D.inducts hi hs hb ha hsl l)
theorem D.inducts{P:D->Prop}(hi:∀k n,P (.int k n))(hs:∀l,P (.str l))(hb:∀b,P (.bool b))(ha:∀l,(∀d∈l,P d)->P (.agg l))(hsl:∀W l,(∀d∈l,P d)->P (.sl W l)):∀l:List D,∀d∈l,P d
 |[]=>by simp
 |d::l=>Zak.2 ⟨D.induct hi hs hb ha hsl d,D.inducts hi hs hb ha hsl l⟩
end
section
variable {P:Program}
end
end
end Go.Proofs.YtnffmgmidghfhaaGreatDoor
