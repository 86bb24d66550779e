/- Part of what the proof needs. -/
import Derived.Test.YthhpocnmfknalaaGreatDoorMFrWorkspaceCallsW
set_option maxHeartbeats 4000000
set_option maxRecDepth 100000
set_option linter.all false
namespace Go.Proofs.YthhpocnmfknalaaGreatDoor
section
open Go.RowKit
namespace Val
theorem lefts_pos:∀(l:List V) (n lv:Int),0<=lefts l n lv->0<=n
 |[],n,lv,h=>by rw[lefts]at h;exact h
 |v::l,n,lv,h=>by
  rw[lefts]at h;split at h
  ·assumption
  ·exact h
mutual
theorem left_chk:∀(v:V) (lv b:Nat) (nd l':Int),(chk v lv b).1=0->0<=left v nd l'->((chk v lv b).2:Int)+left v nd l'=b+nd
 |.mk k n s is ks,lv,b,nd,l',h,hl=>by
  obtain⟨h1,h2,h3,h4⟩:=chk_parts h;have hc:chk (.mk k n s is ks) lv b=chks is (lv+1) (b+1):=by rw[chk,if_neg (by omega),if_neg (by omega),if_neg (by omega)]
  rw[left]at hl⊢;split at hl
  ·omega
  next hn=>
  rw[if_neg hn,hc];have:=lefts_chk is (lv+1) (b+1) (nd-1) (l'-1) h4 hl;omega
theorem lefts_chk:∀(l:List V) (lv b:Nat) (n l':Int),(chks l lv b).1=0->0<=lefts l n l'->((chks l lv b).2:Int)+lefts l n l'=b+n
 |[],lv,b,n,l',h,hl=>by rw[chks,lefts]
 |v::l,lv,b,n,l',h,hl=>by
  have h0:=lefts_pos (v::l) n l' hl;rw[chks]at h⊢;split at h
  ·next h1=>exact absurd h h1
  next h1=>
  rw[if_neg h1];rw[lefts,if_pos h0]at hl⊢;have h2:=lefts_pos l _ l' hl;have i1:=left_chk v lv b n l' (by simpa using h1) h2;have i2:=lefts_chk l lv _ _ l' h hl;omega
end
theorem small_enc{v:V}(h:checkZ v=0)(hs:smallB v 20=true):(enc v).length<=180000:=by
 unfold smallB at hs;rw[Zg,Zx]at hs;have h1:=left_chk v 1 0 20 40 h hs.1;have h2:=enc_bound v 1 0 h;omega
theorem keys_of{k n:Int}{s:List UInt8}{is:List V}{ks:List (List UInt8)}{lv b:Nat}(h:(chk (.mk k n s is ks) lv b).1=0):is.length<=4096/\ks.length<=4096/\s.length<=4096/\∀q∈ks,q.length<=4096:=by
 obtain⟨h1,h2,h3,h4⟩:=chk_parts h;have hn:=chks_nodes is (lv+1) (b+1) h4 (by omega);obtain⟨hsh,_,ht,hk⟩:=shaped_of h3;refine⟨by omega,?_,text_len ht,keys_len ks none hk⟩;unfold shapedB at hsh;simp only[Zg]at hsh;have h5:=hsh.2;split at h5
 ·have:=ZT.1 h5;omega
 ·have:=ZT.1 h5;omega
mutual
theorem chk_few:∀(v:V) (lv b:Nat),(chk v lv b).1=0->v.few
 |.mk k n s is ks,lv,b,h=>by
  obtain⟨k1,k2,_⟩:=keys_of h;unfold V.few;exact⟨by omega,by omega,chks_few is _ _ (chk_parts h).2.2.2⟩
theorem chks_few:∀(l:List V) (lv b:Nat),(chks l lv b).1=0->V.fews l
 |[],_,_,_=>by unfold V.fews;trivial
 |v::l,lv,b,h=>by
  rw[chks]at h;split at h
  ·next h1=>exact absurd h h1
  next h1=>
  unfold V.fews;exact⟨chk_few v lv b (by simpa using h1),chks_few l lv _ h⟩
end
mutual
theorem chk_lens:∀(v:V) (lv b:Nat),(chk v lv b).1=0->v.lens
 |.mk k n s is ks,lv,b,h=>by
  obtain⟨k1,k2,k3,k4⟩:=keys_of h;have hm:(4096:Nat)<=maxLen:=by decide
  unfold V.lens;exact⟨by omega,by omega,by omega,fun q hq=>by have:=k4 q hq;omega,chks_lens is _ _ (chk_parts h).2.2.2⟩
theorem chks_lens:∀(l:List V) (lv b:Nat),(chks l lv b).1=0->V.lensS l
 |[],_,_,_=>by unfold V.lensS;trivial
 |v::l,lv,b,h=>by
  rw[chks]at h;split at h
  ·next h1=>exact absurd h h1
  next h1=>
  unfold V.lensS;exact⟨chk_lens v lv b (by simpa using h1),chks_lens l lv _ h⟩
end
mutual
theorem chk_keysN:∀(v:V) (lv b:Nat),(chk v lv b).1=0->keysN v+4096*b<=4096*(chk v lv b).2
 |.mk k n s is ks,lv,b,h=>by
  obtain⟨h1,h2,h3,h4⟩:=chk_parts h;have hc:chk (.mk k n s is ks) lv b=chks is (lv+1) (b+1):=by rw[chk,if_neg (by omega),if_neg (by omega),if_neg (by omega)]
  have hk:=(keys_of h).2.1;have i1:=chks_keysN is (lv+1) (b+1) h4;rw[hc,keysN];omega
theorem chks_keysN:∀(l:List V) (lv b:Nat),(chks l lv b).1=0->keysNs l+4096*b<=4096*(chks l lv b).2
 |[],lv,b,h=>by rw[chks,keysNs];omega
 |v::l,lv,b,h=>by
  rw[chks]at h⊢;split at h
  ·next h1=>exact absurd h h1
  next h1=>
  rw[if_neg h1,keysNs];have i1:=chk_keysN v lv b (by simpa using h1);have i2:=chks_keysN l lv _ h;omega
end
theorem small_wrap{v:V}(h:checkZ v=0):(decide (0<=left v ((20:Nat):Int) 40)&&decide (Go.IntKind.i64.wrap (keysN v)<=2*((20:Nat):Int)))=smallB v 20:=by
 have h1:=chk_keysN v 1 0 h;have h2:=(chk_nodes v 1 0 h).2;unfold smallB;rw[AX.wrap64 (by omega) (by omega)];rfl
end Val
end
section
open Go.RowKit
open Go.Op (bytesLess)
namespace Sf
theorem outZ_parts{o:Outp}(h:outZ o=0):Adr.ident o.name=true/\Val.checkZ o.value=0/\known o.value=true:=by
 unfold outZ at h;split at h
 ·cases h
 next h1=>
 split at h
 ·next h2=>exact absurd h h2
 next h2=>
 split at h
 ·cases h
 next h3=>exact⟨by simpa using h1,by omega,by simpa using h3⟩
theorem outsZ_srt:∀(l:List Outp) (p:Option (List UInt8)),outsZ p l=0->(∀q,p=some q->∀x∈l,bytesLess q x.name=true)/\l.Pairwise fun x y=>bytesLess x.name y.name=true
 |[],_,_=>⟨fun _ _ x hx=>by simp at hx,List.Pairwise.nil⟩
 |x::l,p,h=>by
  unfold outsZ at h;split at h
  ·next h1=>exact absurd h h1
  split at h
  ·cases h
  next h2=>
  obtain⟨i1,i2⟩:=outsZ_srt l _ h;have i1:=i1 x.name rfl;refine⟨fun q hq y hy=>?_,List.pairwise_cons.2 ⟨i1,i2⟩⟩;subst hq;have hqx:bytesLess q x.name=true:=by simpa [Val.badB]using h2
  rcases ZL.1 hy with rfl|hy
  ·exact hqx
  ·exact less_trans _ _ _ hqx (i1 y hy)
end Sf
namespace AX
open Sto
theorem czz{α:Type}{f:α->List UInt8}{n:Nat}:∀{l:List α},(∀x∈l,(f x).length<=n)->(l.flatMap f).length<=l.length*n
 |[],_=>by simp
 |x::l,h=>by
  rw[YP,Za,Zf,Nat.succ_mul];have h1:=h x (by simp);have h2:=czz (l:=l) fun y hy=>h y (by simp[hy])
  omega
structure OutsV(os:List Sf.Outp):Prop where
 len:os.length<=5
 z:Sf.outsZ none os=0
 small:∀o∈os,Val.smallB o.value 20=true
theorem OutsV.one{os:List Sf.Outp}(v:OutsV os){o:Sf.Outp}(h:o∈os):Adr.ident o.name=true/\Val.checkZ o.value=0/\Sf.known o.value=true:=Sf.outZ_parts (Sf.outs_zero _ _ v.z o h)
theorem OutsV.ok{os:List Sf.Outp}(v:OutsV os):OutsOk os:=
 ⟨(Sf.outsZ_srt os none v.z).2,fun o h=>Val.chk_few _ _ _ (v.one h).2.1,by have:=v.len;omega⟩
theorem cqx:OutsV []:=⟨by simp,by rfl,by simp⟩
theorem inst0_ok:Sf.instZ aj2=0/\(Sf.instE 2 aj2).length<=1000/\Sf.instsZ none [aj2]=0:=by refine⟨by decide +kernel,by decide +kernel,by decide +kernel⟩
theorem dqn{st:Sf.St}{os:List Sf.Outp}(full:Bool)(v:OutsV os)(hn:Adr.ident st.lin=true)(h0:0<=st.ser)(h1:st.ser<=1000):
  Sf.checkZ (nextS st os full)=0/\(Sf.stE 2 (nextS st os full)).length<=1000000:=by
 obtain⟨n1,n2,n3⟩:=az7 hn;have hN:∀n:Int,(Wire.num n).length<=10:=fun n=>(Wire.encF_len 9 (Wire.zig n)).2
 refine⟨?_,?_⟩
 ·unfold Sf.checkZ nextS;have ht:Sf.text st.lin=true:=by unfold Sf.text;rw[n3,ZX,Y2];exact n1
  have l5:=v.len;dsimp only;rw[if_neg (by rw[ht];decide),if_neg (by omega)];cases full
  ·rw[if_neg (by simp;omega),if_neg (by decide),if_neg (by decide)];exact v.z
  ·rw[if_neg (by simp;omega),if_neg (by rw[if_pos rfl,inst0_ok.2.2];decide),if_neg (by decide)];exact v.z
 ·have lo:(os.flatMap Sf.outE).length<=os.length*180200:=czz fun o ho=>by
   obtain⟨i1,i2,i3⟩:=v.one ho;have e1:=Val.small_enc i2 (v.small o ho);have e2:=(az7 i1).2.1;have e3:=hN o.name.length;have e4:=hN (if o.sens then 1 else 0);unfold Sf.outE Wire.strE Sf.flagE;simp only[Za];omega
  have li:((if full=true then[aj2]else[]).flatMap (Sf.instE 2)).length<=1000:=by
   cases full
   ·simp
   ·have:=inst0_ok.2.1;simp;omega
  have l5:=v.len;have e1:=hN 2;have e2:=hN st.lin.length;have e3:=hN (st.ser+1);have e4:=hN (if full=true then[aj2]else[]).length;have e5:=hN os.length;have e6:=hN ([]:List Sf.Pend).length;unfold Sf.stE nextS Wire.strE;dsimp only;rw[if_pos rfl];simp only[Za,Zae,Zo];have e7:Sf.magic.length=4:=rfl;have:os.length*180200<=5*180200:=Ym _ l5;simp only[Zo]at e6;omega
theorem dzo{st:Sf.St}{os:List Sf.Outp}(full:Bool)(v:OutsV os)(hn:Adr.ident st.lin=true):Sf.StIn (nextS st os full)/\Sf.TypIn (nextS st os full):=by
 obtain⟨n1,n2,n3⟩:=az7 hn;have l5:=v.len;refine⟨⟨by unfold nextS;dsimp only;omega,fun x hx=>?_,fun x hx=>by simp[nextS]at hx,fun x hx=>?_,?_,by simp[nextS],by unfold nextS;dsimp only;omega⟩,⟨fun x hx=>?_,fun x hx=>by simp[nextS]at hx⟩⟩
 ·cases full
  ·simp[nextS]at hx
  ·rw[show x=aj2 by simpa [nextS]using hx];exact⟨by decide,by decide,by decide,by unfold aj2 V.lens V.lensS;simp,by decide,by simp[aj2]⟩
 ·have:=v.one (o:=x) hx;exact⟨by have:=(az7 this.1).2.1;omega,Val.chk_lens _ _ _ this.2.1⟩
 ·cases full<;>simp[nextS]
 ·cases full
  ·simp[nextS]at hx
  ·rw[show x=aj2 by simpa [nextS]using hx];decide
theorem enc_ok{st:Sf.St}(z:Sf.checkZ st=0)(l:(Sf.stE 2 st).length<=1000000):Sf.encode 2 st=(Crc.app (Sf.stE 2 st),0):=by
 unfold Sf.encode;rw[if_neg (by simp[z]),if_neg (by omega)]
theorem bye{s:Sto}{who:List UInt8}{st:Sf.St}(hk:Seal.check s.key=0)(hh:s.holds who=true)(hl:st.lin=s.lin)(hs:st.ser=IntKind.i64.wrap (s.latest+1))(z:Sf.checkZ st=0)(l:(Sf.stE 2 st).length<=1000000):(s.write who st).2=0:=by
 unfold Sto.write;rw[if_neg (by simp[hh]),if_neg (by simp[hl]),if_neg (by simp[hs])];unfold Sto.keep;rw[enc_ok z l,if_neg (by simp)];have e2:(Seal.enc s.key (IntKind.u64.wrap st.ser) (Crc.app (Sf.stE 2 st))).2=0:=by
  unfold Seal.enc;rw[if_neg (by simp[hk]),if_neg (by unfold Crc.app;rw[Za,Crc.four_length];omega)]
 rw[if_neg (by simp[e2])]
structure EInv(J:Nat)(e:Ent):Prop where
 vs:∃wr,Vs e.s (wr++[stOf e])/\(stOf e).ser=(wr.length:Int)/\wr.length<=J
 own:e.s.own=[]\/e.s.own=meT
 lin:e.s.lin=e.name/\(stOf e).lin=e.name
 nm:Adr.ident e.name=true
 ins:(stOf e).insts=[]\/(stOf e).insts=[aj2]
 pn:(stOf e).pends=[]
 os:OutsV (stOf e).outs
theorem EInv.mono{J K:Nat}{e:Ent}(v:EInv J e)(h:J<=K):EInv K e:=by
 obtain⟨wr,h1,h2,h3⟩:=v.vs;exact⟨⟨wr,h1,h2,by omega⟩,v.own,v.lin,v.nm,v.ins,v.pn,v.os⟩
theorem EInv.new{key n:List UInt8}(hk:Seal.check key=0)(hn:Adr.ident n=true)(p m J:Nat):EInv J ⟨n,newS key n,p,m⟩:=by
 obtain⟨n1,n2,n3⟩:=az7 hn;have v:=bqp hk n1 n2 n3;have e:stOf ⟨n,newS key n,p,m⟩=st0 n:=Vs.stOf (e:=⟨n,newS key n,p,m⟩) v;obtain⟨p1,p2,p3⟩:=axk key n;exact⟨⟨[],by rw[e];exact v,by rw[e];rfl,ZB _⟩,.inl p1,⟨p2,by rw[e];rfl⟩,hn,.inl (by rw[e];rfl),by rw[e];rfl,by rw[e];exact cqx⟩
theorem EInv.ok{J:Nat}{e:Ent}(v:EInv J e):EntOk e:=by
 obtain⟨wr,h1,_⟩:=v.vs;exact h1.ok v.os.ok
theorem EInv.few{J:Nat}{e:Ent}(v:EInv J e)(hJ:J<=50):(stOf e).insts.length+(stOf e).pends.length<=1000000/\0<=(stOf e).ser/\(stOf e).ser<=50:=by
 obtain⟨wr,h1,h2,h3⟩:=v.vs;refine⟨?_,by omega,by omega⟩;rw[v.pn];rcases v.ins with h|h<;>rw[h]<;>decide
theorem EInv.next{J:Nat}{e:Ent}(v:EInv J e)(hJ:J<=50){os:List Sf.Outp}(full:Bool)(ho:OutsV os):
  Sf.checkZ (nextS (stOf e) os full)=0/\(Sf.stE 2 (nextS (stOf e) os full)).length<=1000000/\Sf.StIn (nextS (stOf e) os full)/\Sf.TypIn (nextS (stOf e) os full):=by
 have hn:Adr.ident (stOf e).lin=true:=by rw[v.lin.2];exact v.nm
 have h:=v.few hJ;have h1:=dqn full ho hn h.2.1 (by omega);have h2:=dzo full ho hn;exact⟨h1.1,h1.2,h2.1,h2.2⟩
theorem EInv.same{J:Nat}{e:Ent}(v:EInv J e){s:Sto}(h1:s.latest=e.s.latest)(h2:s.key=e.s.key)(h3:s.es=e.s.es)(h4:s.lin=e.s.lin)(h5:s.own=[]\/s.own=meT):stOf { e with s:=s }=stOf e/\EInv J { e with s:=s }:=by
 obtain⟨wr,w1,w2,w3⟩:=v.vs;have w:=w1.same h1 h2 h3;have hs:stOf { e with s:=s }=stOf e:=Vs.stOf (e:={ e with s:=s }) w;exact⟨hs,⟨⟨wr,by rw[hs];exact w,by rw[hs];exact w2,w3⟩,h5,⟨h4.trans v.lin.1,by rw[hs];exact v.lin.2⟩,v.nm,by rw[hs];exact v.ins,by rw[hs];exact v.pn,by rw[hs];exact v.os⟩⟩
theorem EInv.lock{J:Nat}{e:Ent}(v:EInv J e):(e.s.lock meT 1000).2=0/\(e.s.lock meT 1000).1.own=meT/\stOf { e with s:=(e.s.lock meT 1000).1 }=stOf e/\EInv J { e with s:=(e.s.lock meT 1000).1 }:=by
 have hl:e.s.lock meT 1000=({ e.s with own:=meT,left:=1000 },0):=by
  unfold Sto.lock;rw[if_neg (by decide +kernel),if_neg];rcases v.own with h|h<;>rw[h]<;>decide
 rw[hl];exact⟨rfl,rfl,v.same rfl rfl rfl rfl (.inr rfl)⟩
theorem EInv.unlock{J:Nat}{e:Ent}(v:EInv J e):(e.s.unlock meT).2=(if e.s.own=[]then 25 else 0)/\(e.s.unlock meT).1.own=[]/\stOf { e with s:=(e.s.unlock meT).1 }=stOf e/\EInv J { e with s:=(e.s.unlock meT).1 }:=by
 rcases v.own with h|h
 ·have hl:e.s.unlock meT=(e.s,25):=by
   unfold Sto.unlock Sto.holds;rw[h,if_pos (by decide)]
  rw[hl,if_pos h];exact⟨rfl,h,rfl,v⟩
 ·rw[Sto.unlock_me h,if_neg (by rw[h];decide)];exact⟨rfl,rfl,v.same rfl rfl rfl rfl (.inl rfl)⟩
theorem EInv.write{J:Nat}{e:Ent}(v:EInv J e)(hJ:J<=50)(ho:e.s.own=meT){os:List Sf.Outp}(full:Bool)(hv:OutsV os):
  (e.s.write meT (nextS (stOf e) os full)).2=0/\(e.s.write meT (nextS (stOf e) os full)).1.own=meT/\stOf { e with s:=(e.s.write meT (nextS (stOf e) os full)).1 }=nextS (stOf e) os full/\EInv (J+1) { e with s:=(e.s.write meT (nextS (stOf e) os full)).1 }:=by
 obtain⟨n1,n2,n3,n4⟩:=v.next hJ full hv;obtain⟨wr,w1,w2,w3⟩:=v.vs;have hh:e.s.holds meT=true:=by unfold Sto.holds;rw[ho];decide
 have hlat:=w1.lat;rw[Za,Yi]at hlat
 have z:=bye (s:=e.s) (who:=meT) (st:=nextS (stOf e) os full) w1.key hh (by show(stOf e).lin=_;rw[v.lin.2,v.lin.1]) (by
  show(stOf e).ser+1=_
  rw[w2,hlat,wrap64 (by omega) (by omega)];omega) n1 n2
 have hvn:OutsV (nextS (stOf e) os full).outs:=hv;obtain⟨N,hN⟩:=Ex (nextS (stOf e) os full);have q1:N.lin=(stOf e).lin:=by rw[<-hN];rfl
 have q2:N.ser=(stOf e).ser+1:=by rw[<-hN];rfl
 have q3:N.insts=[]\/N.insts=[aj2]:=by rw[<-hN];unfold nextS;dsimp only;cases full<;>simp
 have q4:N.pends=[]:=by rw[<-hN];rfl
 rw[hN]at n3 n4 z hvn⊢;rcases w1.write (by rw[Za,Yi];omega) meT N n3 n4 with⟨h1,_⟩|⟨_,_,_,_,h1,h2,h3,_⟩
 ·exact absurd z h1
 ·have hs:stOf { e with s:=(e.s.write meT N).1 }=N:=Vs.stOf (e:={ e with s:=(e.s.write meT N).1 }) h1;refine⟨z,h3.trans ho,hs,⟨⟨wr++[stOf e],by rw[hs];exact h1,by rw[hs,q2,w2,Za,Yi];omega,by rw[Za,Yi];omega⟩,.inr (h3.trans ho),⟨h2.trans v.lin.1,by rw[hs,q1];exact v.lin.2⟩,v.nm,by rw[hs];exact q3,by rw[hs];exact q4,by rw[hs];exact hvn⟩⟩
theorem EInv.wr{J:Nat}{e:Ent}(v:EInv J e)(hJ:J<=50){os:List Sf.Outp}(full:Bool)(hv:OutsV os):
  (wrS e.s (nextS (stOf e) os full)).2=0/\(wrS e.s (nextS (stOf e) os full)).1.own=e.s.own/\stOf { e with s:=(wrS e.s (nextS (stOf e) os full)).1 }=nextS (stOf e) os full/\EInv (J+1) { e with s:=(wrS e.s (nextS (stOf e) os full)).1 }:=by
 unfold wrS;by_cases h:e.s.own=[]
 ·rw[if_pos h];obtain⟨l1,l2,l3,l4⟩:=v.lock;obtain⟨w1,w2,w3,w4⟩:=l4.write hJ l2 full hv;rw[l3]at w1 w2 w3 w4;obtain⟨u1,u2,u3,u4⟩:=w4.unlock;exact⟨w1,by rw[h];exact u2,u3.trans w3,u4⟩
 ·rw[if_neg h];have ho:e.s.own=meT:=v.own.resolve_left h;obtain⟨w1,w2,w3,w4⟩:=v.write hJ ho full hv;exact⟨w1,w2.trans ho.symm,w3,w4⟩
end AX
end
section
open Go.RowKit
open Go.Op (bytesLess)
namespace AX
open Sto
section
variable {key:List UInt8} {W W':List Ent} {k:Int} {n:List UInt8} {os:List Sf.Outp} {full:Bool} {q:Nat} {er:Int}
theorem mem_insW{e x:Ent}:x∈insW W q e↔x=e\/x∈W:=by rw[(aja W q e).mem_iff,ZL]
theorem bx5(h:crE W n q=0):Adr.ident n=true/\hasW W n q=false/\W.length<32:=by
 unfold crE at h;split at h
 ·cases h
 next h1=>
 split at h
 ·cases h
 next h2=>
 split at h
 ·cases h
 next h3=>exact⟨by simpa using h1,by simpa using h2,by omega⟩
theorem DoR.kinds(hk:0<=k)(P:Prop)(h0:k=0->P)(h1:k=1->P)(h2:2<=k->k<=4->P)(h5:4<k->P):P:=by
 rcases(show k=0\/k=1\/(2<=k/\k<=4)\/4<k by omega)with h|h|⟨h,h'⟩|h
 ·exact h0 h
 ·exact h1 h
 ·exact h2 h h'
 ·exact h5 h
theorem dqh{J:Nat}{e:Ent}(v:EInv J e)(hJ:J<=50)(hv:OutsV os):EInv (J+1) { e with s:=(acS k e.s (stOf e) os full).1 }:=by
 unfold acS;split
 ·exact(v.wr hJ full hv).2.2.2
 ·split
  ·exact v.lock.2.2.2.mono (Nat.le_succ J)
  ·exact v.unlock.2.2.2.mono (Nat.le_succ J)
theorem DoR.inv{J:Nat}(r:DoR key W k n os full q W' er)(hk:0<=k)(hkey:Seal.check key=0)(hi:∀e∈W,EInv J e)(hJ:J<=50)(hv:OutsV os):∀e∈W',EInv (J+1) e:=by
 have up:∀e∈W,EInv (J+1) e:=fun e he=>(hi e he).mono (Nat.le_succ J)
 refine DoR.kinds hk _ (fun h=>?_) (fun h=>?_) (fun h h'=>?_) (fun h=>?_)
 ·rcases r.cr h with⟨_,h1,_⟩|⟨hc,_,p,m,h1⟩
  ·rw[h1];exact up
  ·intro e he;rw[h1]at he;rcases mem_insW.1 he with rfl|he
   ·exact EInv.new hkey (bx5 hc).1 p m _
   ·exact up e he
 ·rcases r.dl h with⟨_,h1,_⟩|⟨_,e,_,_,h1,h2⟩
  ·rw[h1];exact up
  ·by_cases hz:er=0
   ·rw[h2 hz];intro x hx;rcases Yk.1 hx with hx|hx
    ·exact up x (List.mem_of_mem_take hx)
    ·exact up x (List.mem_of_mem_drop hx)
   ·rw[h1 hz];exact up
 ·rcases r.ac h h' with⟨_,h1,_⟩|⟨_,e,he,h1,_⟩
  ·rw[h1];exact up
  ·intro x hx;rw[h1]at hx;rcases List.mem_or_eq_of_mem_set hx with hx|rfl
   ·exact up x hx
   ·have hem:e∈W:=by obtain⟨hl,rfl⟩:=Zb.1 he;exact Zl hl
    exact dqh (hi e hem) hJ hv
 ·rw[(r.no h).1];exact up
end
theorem dzj{W:List Ent}{e:Ent}{q:Nat}(hs:SrtW W)(h:e∈W)(hc:CutW W e.name q):W[q]?=some e/\hasW W e.name q=true/\ptrW W q=e.p:=by
 obtain⟨j,hj,he⟩:=List.mem_iff_getElem.1 h;have hz:cmpZ W[j].name e.name=0:=(Sf.cmpZ_eq _ _).2 (by rw[he]);have h1:q<=j:=Nat.le_of_not_lt fun hlt=>by have:=hc.lt j hj hlt;omega
 have h2:¬q<j:=fun hlt=>by
  have a:=hc.ge q (by omega) (Ze _);have b:=List.pairwise_iff_getElem.1 hs q j (by omega) hj hlt;rw[he]at b;omega
 obtain rfl:q=j:=by omega
 have hg:W[q]?=some e:=by rw[Zj hj,he]
 refine⟨hg,?_,by unfold ptrW;rw[hg];rfl⟩;unfold hasW;rw[hg];show(cmpZ e.name e.name==0)=true
 rw[(Sf.cmpZ_eq _ _).2 rfl];rfl
structure Spc where
 name:List UInt8
 st:Sf.St
 held:Bool
def absE(e:Ent):Spc:=⟨e.name,stOf e,e.s.own != []⟩
def absW(W:List Ent):List Spc:=W.map absE
end AX
end
section
open Go.RowKit
open Go.Op (bytesLess)
namespace AX
open Sto
def findS:List Spc->List UInt8->Nat->Option Nat
 |[],_,_=>none
 |s::l,n,i=>if s.name=n then some i else findS l n (i+1)
def atS:List Spc->List UInt8->Nat
 |[],_=>0
 |s::l,n=>if bytesLess s.name n then atS l n+1 else 0
def spCreate(l:List Spc)(n:List UInt8):List Spc×Int:=
 if Adr.ident n=false then(l,7)else if(findS l n 0).isSome then(l,8)else if 32<=l.length then(l,14)else(l.take (atS l n)++[⟨n,st0 n,false⟩]++l.drop (atS l n),0)
def spDelete(l:List Spc)(n:List UInt8):List Spc×Int:=
 match findS l n 0 with
 |none=>(l,9)
 |some i=>match l[i]? with
  |none=>(l,9)
  |some s=>if s.held then(l,24)else if 0<s.st.insts.length\/0<s.st.pends.length then(l,38)else(l.take i++l.drop (i+1),0)
def spDo(l:List Spc)(k:Int)(n:List UInt8)(os:List Sf.Outp)(full:Bool):List Spc×Int:=
 if k=0 then spCreate l n else if k=1 then spDelete l n else if 4<k then(l,0)
 else match findS l n 0 with
 |none=>(l,9)
 |some i=>match l[i]? with
  |none=>(l,9)
  |some s=>if k=3 then(l.set i { s with held:=true },0)else if k=4 then(if s.held=false then(l,25)else(l.set i { s with held:=false },0))else(l.set i { s with st:=nextS s.st os full },0)
theorem ak7:∀(l:List Spc) (n:List UInt8) (i:Nat),findS l n i=(findS l n 0).map (·+i)
 |[],n,i=>rfl
 |s::l,n,i=>by
  unfold findS;split
  ·simp
  ·rw[ak7 l n (i+1),ak7 l n (0+1),Option.map_map];congr 1
   funext x
   simp only[Function.comp];omega
theorem bzn(n:List UInt8):∀(W:List Ent) (i:Nat),(∀x∈W,x.name≠n)->findS (absW W) n i=none
 |[],i,_=>rfl
 |e::W,i,h=>by
  show(if e.name=n then some i else findS (absW W) n (i+1))=none
  rw[if_neg (h e (by simp)),bzn n W (i+1) fun x hx=>h x (by simp[hx])]
theorem bwv(n:List UInt8):∀(W:List Ent) (q:Nat),SrtW W->CutW W n q->findS (absW W) n 0=if hasW W n q=true then some q else none
 |[],q,_,hc=>by
  have:q=0:=by have:=hc.le;simpa using this
  subst this;rfl
 |e::W,0,hs,hc=>by
  have h0:0<=cmpZ e.name n:=hc.ge 0 (by simp) (ZB _);show(if e.name=n then some 0 else findS (absW W) n (0+1))=if(cmpZ e.name n==0)=true then some 0 else none
  by_cases he:e.name=n
  ·rw[if_pos he,if_pos (by rw[ZT];exact(Sf.cmpZ_eq _ _).2 he)]
  ·rw[if_neg he,if_neg (fun h=>he ((Sf.cmpZ_eq _ _).1 (ZT.1 h)))];refine bzn n W _ fun x hx ee=>?_
   have h1:=(List.pairwise_cons.1 hs).1 x hx;rw[ee]at h1;omega
 |e::W,q+1,hs,hc=>by
  have h0:cmpZ e.name n<0:=hc.lt 0 (by simp) (by omega);have ih:=bwv n W q (List.pairwise_cons.1 hs).2 ⟨by have:=hc.le;simp at this;omega,fun i hi h=>by have:=hc.lt (i+1) (by simp;omega) (by omega);simpa using this,fun i hi h=>by have:=hc.ge (i+1) (by simp;omega) (by omega);simpa using this⟩;have hne:e.name≠n:=fun ee=>by rw[ee,(Sf.cmpZ_eq n n).2 rfl]at h0;omega
  have hh:hasW (e::W) n (q+1)=hasW W n q:=rfl;show(if e.name=n then some 0 else findS (absW W) n (0+1))=_
  rw[if_neg hne,ak7,ih,hh];split<;>rfl
theorem cw9(n:List UInt8):∀(W:List Ent) (q:Nat),CutW W n q->atS (absW W) n=q
 |[],q,hc=>by
  have:q=0:=by have:=hc.le;simpa using this
  subst this;rfl
 |e::W,0,hc=>by
  have h0:=hc.ge 0 (by simp) (ZB _);show(if bytesLess e.name n=true then atS (absW W) n+1 else 0)=0
  rw[if_neg];intro hb;have:=(Sf.cmpZ_lt e.name n).2 hb;have h0:0<=cmpZ e.name n:=h0;omega
 |e::W,q+1,hc=>by
  have h0:cmpZ e.name n<0:=hc.lt 0 (by simp) (by omega);have ih:=cw9 n W q ⟨by have:=hc.le;simp at this;omega,fun i hi h=>by have:=hc.lt (i+1) (by simp;omega) (by omega);simpa using this,fun i hi h=>by have:=hc.ge (i+1) (by simp;omega) (by omega);simpa using this⟩;show(if bytesLess e.name n=true then atS (absW W) n+1 else 0)=q+1
  rw[if_pos ((Sf.cmpZ_lt e.name n).1 h0),ih]
theorem bvr{W:List Ent}{q:Nat}{e:Ent}(h:W[q]?=some e):(absW W)[q]?=some (absE e):=by unfold absW;rw[List.getElem?_map,h];rfl
theorem held_iff{e:Ent}:(absE e).held=true↔e.s.own≠[]:=by unfold absE;simp
theorem dxe{key:List UInt8}{W W':List Ent}{k:Int}{n:List UInt8}{os:List Sf.Outp}{full:Bool}{q:Nat}{er:Int}{J:Nat}(hk:0<=k)(hkey:Seal.check key=0)(hs:SrtW W)(hc:CutW W n q)(hi:∀e∈W,EInv J e)(hJ:J<=50)(hv:OutsV os)(r:DoR key W k n os full q W' er):
  spDo (absW W) k n os full=(absW W',er):=by
 have hf:=bwv n W q hs hc;have ha:=cw9 n W q hc;have hlen:(absW W).length=W.length:=Zh _;unfold spDo;refine DoR.kinds hk _ (fun h=>?_) (fun h=>?_) (fun h h'=>?_) (fun h=>?_)
 ·rw[if_pos h];unfold spCreate;rw[hf,ha,hlen];rcases r.cr h with⟨hz,h1,h2⟩|⟨hz,h2,p,m,h1⟩
  ·rw[h1,h2];unfold crE at hz⊢;split
   ·rfl
   split
   ·next h3=>rfl
   next h3=>
   rw[if_neg (by decide)];split
   ·rfl
   ·next h4 h5=>exact absurd (by rw[if_neg h4,if_neg h3,if_neg h5]) hz
  ·obtain⟨c1,c2,c3⟩:=bx5 hz;rw[if_neg (by simp[c1]),if_neg (by simp[c2]),if_neg (by omega),h1,h2];have hst:absE ⟨n,newS key n,p,m⟩=⟨n,st0 n,false⟩:=by
    obtain⟨n1,n2,n3⟩:=az7 c1;have e:stOf ⟨n,newS key n,p,m⟩=st0 n:=Vs.stOf (e:=⟨n,newS key n,p,m⟩) (bqp hkey n1 n2 n3);unfold absE;rw[e];simp[(axk key n).1]
   unfold insW absW;simp only[Z6,ZM,Yn,List.map_take,List.map_drop,hst]
 ·rw[if_neg (by omega),if_pos h];unfold spDelete;rw[hf];rcases r.dl h with⟨hh,h1,h2⟩|⟨hh,e,he,h2,h3,h4⟩
  ·rw[if_neg (by simp[hh]),h1,h2]
  ·have hem:e∈W:=by obtain⟨hl,rfl⟩:=Zb.1 he;exact Zl hl
   have hpn:=(hi e hem).pn;rw[if_pos hh];dsimp only;rw[bvr he];dsimp only;unfold dlE at h2;by_cases g1:e.s.own≠[]
   ·rw[if_pos (held_iff.2 g1)];rw[if_pos g1]at h2;rw[h2,h3 (by rw[h2];decide)]
   ·rw[if_neg (fun x=>g1 (held_iff.1 x))];rw[if_neg g1]at h2;show(if 0<(stOf e).insts.length\/0<(stOf e).pends.length then _ else _)=_
    by_cases g2:0<(stOf e).insts.length+(stOf e).pends.length
    ·rw[if_pos (by omega)];rw[if_pos g2]at h2;rw[h2,h3 (by rw[h2];decide)]
    ·rw[if_neg (by omega)];rw[if_neg g2]at h2;rw[h2,h4 h2];unfold absW;simp only[Z6,List.map_take,List.map_drop]
 ·rw[if_neg (by omega),if_neg (by omega),if_neg (by omega),hf];rcases r.ac h h' with⟨hh,h1,h2⟩|⟨hh,e,he,h1,h2⟩
  ·rw[if_neg (by simp[hh]),h1,h2]
  ·have hem:e∈W:=by obtain⟨hl,rfl⟩:=Zb.1 he;exact Zl hl
   have v:=hi e hem;rw[if_pos hh];dsimp only;rw[bvr he];dsimp only;have hset:∀s:Sto,absW (W.set q { e with s:=s })=(absW W).set q (absE { e with s:=s }):=fun s=>by unfold absW;rw[List.map_set]
   rw[h1,h2,hset];unfold acS;rcases(show k=2\/k=3\/k=4 by omega)with rfl|rfl|rfl
   ·obtain⟨w1,w2,w3,_⟩:=v.wr hJ full hv;rw[if_neg (by decide),if_neg (by decide),if_pos rfl,w1];refine Prod.ext ?_ rfl;dsimp only;congr 1;show(⟨e.name,nextS (stOf e) os full,e.s.own != []⟩:Spc)=⟨e.name,stOf _,_⟩
    rw[w3];dsimp only;rw[w2]
   ·obtain⟨w1,w2,w3,_⟩:=v.lock;rw[if_pos rfl,if_neg (by decide),if_pos rfl,w1];refine Prod.ext ?_ rfl;dsimp only;congr 1;show(⟨e.name,stOf e,true⟩:Spc)=⟨e.name,stOf _,_⟩
    rw[w3];dsimp only;rw[w2];rfl
   ·obtain⟨w1,w2,w3,_⟩:=v.unlock;have n43:¬(4:Int)=3:=by decide
    have n42:¬(4:Int)=2:=by decide
    simp only[n43,n42,if_false,if_true];rw[w1];have hnew:absE { e with s:=(e.s.unlock meT).1 }=⟨e.name,stOf e,false⟩:=by
     show(⟨e.name,stOf _,_⟩:Spc)=_
     rw[w3];dsimp only;rw[w2];rfl
    rw[hnew];by_cases g:e.s.own=[]
    ·have hd:(absE e).held=false:=by unfold absE;simp[g]
     rw[if_pos hd,if_pos g];refine Prod.ext ?_ rfl;dsimp only;have:(⟨e.name,stOf e,false⟩:Spc)=absE e:=by unfold absE;simp[g]
     rw[this];obtain⟨hl,he'⟩:=Zb.1 (bvr he);rw[<-he',List.set_getElem_self]
    ·have hd:(absE e).held=true:=held_iff.2 g;rw[if_neg (by simp[hd]),if_neg g];rfl
 ·rw[if_neg (by omega),if_neg (by omega),if_pos h,(r.no h).1,(r.no h).2]
theorem aje:∀l:List V,(∀v∈l,v.lens)->V.lensS l
 |[],_=>by unfold V.lensS;trivial
 |v::l,h=>by unfold V.lensS;exact⟨h v (by simp),aje l fun x hx=>h x (by simp[hx])⟩
theorem czk{os:List Sf.Outp}(v:OutsV os):(outsV os).lens:=by
 have hm:(4096:Nat)<=maxLen:=by decide
 have l5:=v.len;unfold outsV V.lens;refine⟨by rw[Zh];omega,by rw[Zh];omega,by simp,fun q hq=>?_,aje _ fun x hx=>?_⟩
 ·obtain⟨o,ho,rfl⟩:=ZW.1 hq;have:=(az7 (v.one ho).1).2.1;omega
 ·obtain⟨o,ho,rfl⟩:=ZW.1 hx;exact Val.chk_lens _ _ _ (v.one ho).2.1
theorem aw3{W:List Ent}{J:Nat}(hi:∀e∈W,EInv J e)(hl:W.length<=1000)(ex:List UInt8):(remV W ex).lens:=by
 have hm:(4096:Nat)<=maxLen:=by decide
 have hs:=(aqm W ex).length_le;unfold remV V.lens vlR nmR;refine⟨by rw[Zh];omega,by rw[Zh];omega,by simp,fun q hq=>?_,aje _ fun x hx=>?_⟩
 ·obtain⟨e,he,rfl⟩:=ZW.1 hq;have:=(az7 (hi e ((aqm W ex).mem he)).nm).2.1;omega
 ·obtain⟨e,he,rfl⟩:=ZW.1 hx;exact czk (hi e ((aqm W ex).mem he)).os
end AX
end
section
open Go.RowKit
open Go.Op (bytesLess)
namespace AX
open Sto
structure Op51 where
 kind:Int
 name:List UInt8
 outs:List Sf.Outp
 full:Bool
def Op51.cells(x:Op51):List A:=opA x.kind x.name x.outs x.full
def axx:Option (List UInt8)->List Sf.Outp->Bool
 |_,[]=>true
 |p,o::l=>decide (o.name.length<=100)&&Val.smallB o.value 20&&Sf.outZ o==0&&!Val.badB p o.name&&axx (some o.name) l
def outsB(os:List Sf.Outp):Bool:=decide (os.length<=5)&&axx none os
theorem bx3:∀(l:List Sf.Outp) (p:Option (List UInt8)),axx p l=true->Sf.outsZ p l=0/\∀o∈l,Val.smallB o.value 20=true
 |[],_,_=>⟨rfl,fun o h=>by cases h⟩
 |o::l,p,h=>by
  unfold axx at h;simp only[Zg,YI,Zx,ZT]at h;obtain⟨⟨⟨⟨h1,h2⟩,h3⟩,h4⟩,h5⟩:=h;obtain⟨i1,i2⟩:=bx3 l _ h5;refine⟨?_,fun x hx=>?_⟩
  ·unfold Sf.outsZ;rw[if_neg (by simp[h3]),if_neg (by simp[h4]),i1]
  ·rcases ZL.1 hx with rfl|hx
   ·exact h2
   ·exact i2 x hx
theorem cwa{os:List Sf.Outp}(h:outsB os=true):OutsV os:=by
 unfold outsB at h;rw[Zg,Zx]at h;obtain⟨i1,i2⟩:=bx3 os none h.2;exact⟨h.1,i1,i2⟩
structure Op51.Ok(x:Op51):Prop where
 kind:0<=x.kind
 name:x.name.length<=100
 outs:OutsV x.outs
def bxq(key:List UInt8)(l:List Op51):Bool:=decide (l.length<=20)&&Seal.check key==0&&l.all fun x=>decide (x.name.length<=100)&&outsB x.outs
theorem ck9{key:List UInt8}{l:List Op51}(h:bxq key l=true)(hk:∀x∈l,0<=x.kind):l.length<=20/\Seal.check key=0/\∀x∈l,x.Ok:=by
 unfold bxq at h;simp only[Zg,Zx,ZT,ZD]at h;exact⟨h.1.1,h.1.2,fun x hx=>⟨hk x hx,(h.2 x hx).1,cwa (h.2 x hx).2⟩⟩
structure Live(b:List Blk)(i:Nat)(key:List UInt8)(W:List Ent)(J:Nat):Prop where
 at':∃sp,WsAt b i key sp W
 inv:∀e∈W,EInv J e
theorem Live.more{b:List Blk}{i:Nat}{key:List UInt8}{W:List Ent}{J:Nat}(v:Live b i key W J)(L:List Blk):Live (b++L) i key W J:=by
 obtain⟨sp,w⟩:=v.at';exact⟨⟨sp,w.more L⟩,v.inv⟩
theorem Live.ok{b:List Blk}{i:Nat}{key:List UInt8}{W:List Ent}{J:Nat}(v:Live b i key W J):∀e∈W,EntOk e:=fun e he=>(v.inv e he).ok
structure StepW(b b':List Blk)(i:Nat)(key:List UInt8)(W W':List Ent)(J:Nat)(x:Op51)(er:Int):Prop where
 rel:∃q,CutW W x.name q/\DoR key W x.kind x.name x.outs x.full q W' er
 live:Live b' i key W' (J+1)
 keep:KeepT b b'
 len:b.length<=b'.length
theorem dxl{h:Hp}{i:Nat}{key:List UInt8}{W:List Ent}{J:Nat}(hkey:Seal.check key=0)(v:Live h.b i key W J)(hJ:J<=50)(x:Op51)(hx:x.Ok):
  AC 11 [.ptr i 0,.agg x.cells] h fun r h'=>h'.t=h.t/\∃W' er,r=.int .i64 er/\StepW h.b h'.b i key W W' J x er:=by
 obtain⟨sp,w⟩:=v.at';obtain⟨q,hc⟩:=bka x.name W w.srt
 refine(dvl hkey w x.kind hx.kind x.name (by have:=hx.name;omega) x.outs x.full q hc v.ok (fun e he=>((v.inv e he).few hJ).1) (fun e he=>by have:=(v.inv e he).few hJ;omega)
  (fun e he=>((v.inv e he).next hJ x.full hx.outs).2.2.1) (fun e he=>by have:=((v.inv e he).next hJ x.full hx.outs).2.1;omega)).mono ?_
 rintro r h' ⟨h1,W',er,h2,h3,h4⟩;exact⟨h1,W',er,h2,⟨⟨q,hc,h3⟩,⟨h4.at',h3.inv hx.kind hkey v.inv hJ hx.outs⟩,h4.keep,h4.len⟩⟩
theorem StepW.spec{b b':List Blk}{i:Nat}{key:List UInt8}{W W':List Ent}{J:Nat}{x:Op51}{er:Int}(s:StepW b b' i key W W' J x er)(hkey:Seal.check key=0)(v:Live b i key W J)(hJ:J<=50)(hx:x.Ok):spDo (absW W) x.kind x.name x.outs x.full=(absW W',er):=by
 obtain⟨sp,w⟩:=v.at';obtain⟨q,hc,r⟩:=s.rel;exact dxe hx.kind hkey w.srt hc v.inv hJ hx.outs r
end AX
end
section
open Go.RowKit
namespace AX
open Sto
def az9:List UInt8:=[107,101,121]
def netN:List UInt8:=[110,101,116]
def outId:Sf.Outp:=⟨[105,100],.mk 3 0 [110,101,116,45,49] [] [],false⟩
def st1:Sf.St:=nextS (st0 netN) [outId] false
theorem dve:OutsOk [outId]:=⟨by simp,fun o ho=>by rw[ZJ.1 ho];unfold outId V.few V.fews;simp,by simp⟩
theorem dxb:(V.mk 3 0 [110,101,116,45,49] [] []).lens:=by unfold V.lens V.lensS;simp[maxLen]
theorem dzg(n:List UInt8):CutW [] n 0:=⟨Ze _,fun i h=>absurd h (Nat.not_lt_zero _),fun i h=>absurd h (Nat.not_lt_zero _)⟩
theorem dvd{e:Ent}{W:List Ent}{n:List UInt8}(h:∀x∈e::W,0<=cmpZ x.name n):CutW (e::W) n 0:=⟨ZB _,fun i _ h=>absurd h (Nat.not_lt_zero _),fun i hi _=>h _ (Zl hi)⟩
theorem cyh(x:V)(k:List UInt8)(h:Hp):AT 26 [(V.mk 5 0 [] [x] [k]).A,.str k] h (.tup [x.A,.bool true]):=by
 obtain⟨kd,n,s,is,ks⟩:=x;refine pcall ?_ rfl (by simp[A.pure,A.data,V.A,V.cells]) h;simp only[V.A,V.cells,V.cellss,strsA,ZM,Yn];refine fo ?_;obtain⟨I,hI⟩:=Ex (V.cellss is);rw[hI];have z1:(0:Int)<1:=by decide
 have z2:(0:Int)<((1:Nat):Int):=by decide
 refine azj (ai z1 z2) ti ?_;refine ajx ?_;refine azj (ai z1 z2) ti ?_;exact Fn rfl
theorem st1_in:Sf.StIn st1/\Sf.TypIn st1:=by
 refine⟨⟨?_,?_,?_,fun x hx=>?_,?_,?_,?_⟩,⟨?_,?_⟩⟩
 ·decide
 ·intro x hx;cases hx
 ·intro x hx;cases hx
 ·rw[ZJ.1 (show x∈[outId]from hx)];exact⟨by decide,dxb⟩
 ·decide
 ·decide
 ·decide
 ·intro x hx;cases hx
 ·intro x hx;cases hx
theorem dq2:(Sf.stE 2 st1).length+20<=1000000000:=by decide +kernel
theorem dxy:(wrS (newS az9 netN) st1).2=0:=by
 unfold wrS;rw[if_pos (axk _ _).1];decide +kernel
theorem dva(key:List UInt8)(v:Vs (newS az9 netN) ([]++[st0 netN])):Vs (wrS (newS az9 netN) st1).1 (([]++[st0 netN])++[st1]):=by
 have h:=dxy;unfold wrS at h⊢;rw[if_pos (axk _ _).1]at h⊢;rcases(v.lock meT 1000).write (by decide) meT st1 st1_in.1 st1_in.2 with⟨h1,_⟩|⟨_,_,_,_,h1,_⟩
 ·exact absurd h h1
 ·exact h1.unlock meT
def opB:Blk:=.cells 25 [.int .u8 2,.str [110,101,116],.sl 7 (.tok 0) [[.str [105,100],.int .i64 3,.int .i64 0,.str [110,101,116,45,49],.sl 0 .nil [],.sl 0 .nil [],.bool false]],.bool false]
theorem ACall.wkA{P:Program}{G:World->Prop}{f:FuncId}{l l':List A}{h:Hp}{Q:A->Hp->Prop}(hc:ACall P G f l' h Q)(hw:∀C cs,RepL C l cs->RepL C l' cs):ACall P G f l h Q:=fun C cs hI ha=>hc C cs hI (hw C cs ha)
theorem dzi{i:Nat}(C:Ctx)(cs:List Value)(r:RepL C [.ptr i 0,.agg [.int .u8 2,.str [110,101,116],.sl 7 (.tok 0) [[.str [105,100],.int .i64 3,.int .i64 0,.str [110,101,116,45,49],.sl 0 .nil [],.sl 0 .nil [],.bool false]],.bool false]] cs):
  RepL C [.ptr i 0,.agg [.int .u8 2,.str netN,.sl 7 .no ([outId].map Sf.Outp.cells),.bool false]] cs:=by
 obtain⟨c0,cs0,rfl,r0,rl⟩:=repL_cons.1 r;obtain⟨c1,cs1,rfl,r1,rl⟩:=repL_cons.1 rl;refine repL_cons.2 ⟨_,_,rfl,r0,repL_cons.2 ⟨_,_,rfl,?_,rl⟩⟩;obtain⟨ds,rfl,dl⟩:=rep_agg.1 r1;obtain⟨d0,ds0,rfl,x0,dl⟩:=repL_cons.1 dl;obtain⟨d1,ds1,rfl,x1,dl⟩:=repL_cons.1 dl;obtain⟨d2,ds2,rfl,x2,dl⟩:=repL_cons.1 dl;refine rep_agg.2 ⟨_,rfl,repL_cons.2 ⟨_,_,rfl,x0,repL_cons.2 ⟨_,_,rfl,x1,repL_cons.2 ⟨_,_,rfl,?_,dl⟩⟩⟩⟩;obtain⟨a,cap,rfl,hc,rr,_⟩:=rep_sl.1 x2;refine rep_sl.2 ⟨a,cap,rfl,hc,?_,trivial⟩;unfold RepRows at rr;obtain⟨⟨g,off,e,hl,ra⟩,_⟩:=rr;show RepRows C 7 [(Sf.Outp.cells outId)] a 0
 have hw:WkL [.str [105,100],.int .i64 3,.int .i64 0,.str [110,101,116,45,49],.sl 0 .nil [],.sl 0 .nil [],.bool false] (Sf.Outp.cells outId):=
  ⟨.inl rfl,.inl rfl,.inl rfl,.inl rfl,.inr ⟨0,5,rfl,rfl⟩,.inr ⟨0,1,rfl,rfl⟩,.inl rfl,trivial⟩
 unfold RepRows RepRows;exact⟨⟨g,off,e,by rw[hw.len,hl],aks hw ra⟩,trivial⟩
def vb3:Blk:=.cells 51 [.int .i64 3,.int .i64 0,.str [110,101,116,45,49],.sl 5 .no [],.sl 1 .no []]
def vb2:Blk:=.cells 51 [.int .i64 5,.int .i64 0,.str [],.sl 5 .no [[.int .i64 3,.int .i64 0,.str [110,101,116,45,49],.sl 5 .no [],.sl 1 .no []]],.sl 1 .no [[.str [105,100]]]]
def vb1:Blk:=.cells 51 [.int .i64 5,.int .i64 0,.str [],.sl 5 .no [[.int .i64 5,.int .i64 0,.str [],.sl 5 .no [[.int .i64 3,.int .i64 0,.str [110,101,116,45,49],.sl 5 .no [],.sl 1 .no []]],.sl 1 .no [[.str [105,100]]]]],.sl 1 .no [[.str [110,101,116]]]]
theorem dvk(b:List Blk)(x y z:Blk):(b++[x]++[y]++[z])[b.length]?=some x/\(b++[x]++[y]++[z])[b.length+1]?=some y/\(b++[x]++[y]++[z])[b.length+1+1]?=some z:=
 ⟨azc (azc Zt _) _,azc (aqj (by simp)) _,aqj (by simp)⟩
theorem ck1:(V.mk 5 0 [] [outsV [outId]] [netN]).lens:=by
 simp[outsV,outId,V.lens,V.lensS,netN,maxLen]
theorem dx3:Val.checkZ (.mk 5 0 [] [outsV [outId]] [netN])=0:=by decide +kernel
theorem dzt(h:Hp):AT 8 [] h (.bool true):=by
 refine pcall ?_ rfl rfl h;have hk:Seal.check az9=0:=by decide +kernel
 have v1:=bqp (key:=az9) (lin:=netN) hk (by decide) (by decide) (by decide +kernel);have v2:=bqp (key:=az9) (lin:=mainN) hk (by decide) (by decide) (by decide +kernel);have c0:=bk1 hk ⟨[],[]⟩;refine fo ?_;have t1:az9=[107,101,121]:=rfl;have t2:netN=[110,101,116]:=rfl;have t3:mainN=[109,97,105,110]:=rfl;rw[t1]at c0;refine go0 ti ?_;refine gc0 ti ?_;refine c0.mono ?_;rintro v ⟨B,T⟩ ⟨i,rfl,rfl,-,-,w⟩;rw[<-t1]at w;have c1:=avv (h:=⟨B,[]⟩) w hk netN 0 (dzg _) (by decide +kernel);rw[t2]at c1;refine go0 ti ?_;refine gc0 ti ?_;refine c1.mono ?_;rintro v ⟨B,T⟩ ⟨rfl,rfl,⟨sp,p1,m1,w⟩,-,-⟩;rw[<-t2]at w;have w:WsAt B i az9 sp [⟨netN,newS az9 netN,p1,m1⟩]:=w;have l1:0<=cmpZ netN mainN:=by decide +kernel
 have l2:0<=cmpZ mainN mainN:=by decide +kernel
 have l3:cmpZ mainN netN<0:=by decide +kernel
 have l4:0<=cmpZ netN netN:=by decide +kernel
 have cm:∀x∈[(⟨netN,newS az9 netN,p1,m1⟩:Ent)],0<=cmpZ x.name mainN:=fun x hx=>by rw[ZJ.1 hx];exact l1
 have c2:=avv (h:=⟨B,[]⟩) w hk mainN 0 (dvd cm) (by
  unfold crE
  rw[if_neg (by decide +kernel),if_neg (by show¬(cmpZ netN mainN==0)=true;decide +kernel),if_neg (by show¬32<=1;decide)])
 rw[t3]at c2;refine go0 ti ?_;refine gc0 ti ?_;refine c2.mono ?_;rintro v ⟨B,T⟩ ⟨rfl,rfl,⟨sp,p2,m2,w⟩,-,-⟩;rw[<-t3]at w;have w:WsAt B i az9 sp [⟨mainN,newS az9 mainN,p2,m2⟩,⟨netN,newS az9 netN,p1,m1⟩]:=w
 have c3:=ay2 (h:=⟨B,[]⟩) w mainN (by decide) 0 (dvd (fun x hx=>by
  rcases ZL.1 hx with rfl|hx
  ·exact l2
  ·exact cm x hx)) (by
  unfold crE;rw[if_neg (by decide +kernel),if_pos (by show(cmpZ mainN mainN==0)=true;decide +kernel)]
  decide)
 rw[show crE [⟨mainN,newS az9 mainN,p2,m2⟩,⟨netN,newS az9 netN,p1,m1⟩] mainN 0=8 by
  unfold crE
  rw[if_neg (by decide +kernel),if_pos (by show(cmpZ mainN mainN==0)=true;decide +kernel)],t3]at c3
 refine go0 ti ?_;refine gc0 ti ?_;refine c3.mono ?_;rintro v h' ⟨rfl,L,rfl⟩;have w:=w.more L;obtain⟨B1,hB1⟩:=Ex (B++L);simp only[hB1]at w⊢;clear hB1 c1 c2 c3;have w:=w.more [opB];have s1:stOf ⟨netN,newS az9 netN,p1,m1⟩=st0 netN:=Vs.stOf (e:=⟨netN,newS az9 netN,p1,m1⟩) v1
 have cd:=djl (h:=⟨B1++[opB],[(55,7,1)]⟩) w netN 1 ⟨by simp,fun i hi h=>by
  obtain rfl:i=0:=by omega
  exact l3,fun i hi h=>by
  obtain rfl:i=1:=by simp at hi;omega
  exact l4⟩ (by show(cmpZ netN netN==0)=true;decide +kernel) ⟨netN,newS az9 netN,p1,m1⟩ rfl (Vs.ok (e:=⟨netN,newS az9 netN,p1,m1⟩) v1 bwx) [outId] false (by rw[s1];decide) (by rw[s1];decide) (by rw[s1];exact st1_in.1) (by rw[s1];exact dq2)
 rw[s1]at cd;rw[show nextS (st0 netN) [outId] false=st1 from rfl,dxy,t2]at cd;rw[<-t2]at cd;have vS:=dva az9 v1;obtain⟨S,hS⟩:=Ex ((wrS (newS az9 netN) st1).1);rw[hS]at cd vS;unfold opB at cd;refine go0 ti ?_;refine gc0 ti ?_;refine(cd.wkA dzi).mono ?_;rintro v ⟨B3,T⟩ ⟨rfl,rfl,-,-,w⟩;have w:WsAt B3 i az9 sp [⟨mainN,newS az9 mainN,p2,m2⟩,⟨netN,S,p1,m1⟩]:=w;have o2:EntOk ⟨mainN,newS az9 mainN,p2,m2⟩:=Vs.ok (e:=⟨mainN,newS az9 mainN,p2,m2⟩) v2 bwx;have o1:EntOk ⟨netN,S,p1,m1⟩:=Vs.ok (e:=⟨netN,S,p1,m1⟩) vS dve;have q1:stOf ⟨netN,S,p1,m1⟩=st1:=Vs.stOf (e:=⟨netN,S,p1,m1⟩) vS;have hR:remV [⟨mainN,newS az9 mainN,p2,m2⟩,⟨netN,S,p1,m1⟩] mainN=.mk 5 0 [] [outsV [outId]] [netN]:=by
  unfold remV;rw[show remL [⟨mainN,newS az9 mainN,p2,m2⟩,⟨netN,S,p1,m1⟩] mainN=[⟨netN,S,p1,m1⟩] by simp[remL,mainN,netN]];simp only[vlR,nmR,ZM,Yn,q1];rfl
 have c5:=bx1 (h:=⟨B3,[(55,7,1)]⟩) w (fun e he=>by
  rcases ZL.1 he with rfl|he
  ·exact o2
  ·rw[ZJ.1 he];exact o1) mainN (by rw[hR];exact ck1)
 unfold remA at c5;rw[hR,if_pos dx3,t3]at c5;have g1:=fun h=>cyh (outsV [outId]) netN h
 have g2:=fun h=>cyh (.mk 3 0 [110,101,116,45,49] [] []) [105,100] h
 simp only[outsV,outId,V.A,V.cells,V.cellss,strsA,ZM,Yn,t2]at c5 g1 g2;refine go0 ti ?_;refine gc0 ti ?_;refine c5.mono ?_;rintro v h' ⟨rfl,L,rfl⟩;have w:=w.more L;obtain⟨B4,hB4⟩:=Ex (B3++L);simp only[hB4]at w⊢;refine go0 ti ?_;refine gc0 ti ?_;refine(g1 _).mono ?_;rintro v h' ⟨rfl,rfl⟩;refine go0 ti ?_;refine gc0 ti ?_;refine(g2 _).mono ?_;rintro v h' ⟨rfl,rfl⟩;refine go0 ti ?_;have fb:=dvk B4 vb1 vb2 vb3;have w:=((w.more [vb1]).more [vb2]).more [vb3];obtain⟨B5,hB5⟩:=Ex (B4++[vb1]++[vb2]++[vb3]);rw[hB5]at fb w;unfold vb1 vb2 vb3 at fb hB5;simp only[hB5];have c6:=bqr (h:=⟨B5,[(55,7,1)]⟩) w;simp only[ZM,Yn,strsA,t2,t3]at c6;refine gc0 ti ?_;refine c6.mono ?_;rintro v h' ⟨rfl,L,T,rfl⟩;have w:=w.more L;have fb:=ai (azc fb.1 L) (ai (azc fb.2.1 L) (azc fb.2.2 L));obtain⟨B6,hB6⟩:=Ex (B5++L);simp only[hB6]at w fb⊢;have l5:cmpZ mainN [122,122]<0:=by decide +kernel
 have l6:cmpZ netN [122,122]<0:=by decide +kernel
 have c7:=aj9 (h:=⟨B6,T⟩) w [122,122] 2 ⟨by simp,fun i hi h=>by
  rcases(show i=0\/i=1 by omega)with rfl|rfl
  ·exact l5
  ·exact l6,fun i hi h=>by simp at hi;omega⟩
 rw[if_neg (by show¬(false=true);decide)]at c7;refine go0 ti ?_;refine gc0 ti ?_;refine c7.mono ?_;rintro v h' ⟨rfl,L,rfl⟩;have w:=w.more L;have fb:=ai (azc fb.1 L) (ai (azc fb.2.1 L) (azc fb.2.2 L));obtain⟨B7,hB7⟩:=Ex (B6++L);simp only[hB7]at w fb⊢
 have c8:=bxp (h:=⟨B7,T⟩) w mainN 0 (dvd (fun x hx=>by
  rcases ZL.1 hx with rfl|hx
  ·exact l2
  ·rw[ZJ.1 hx];exact l1)) (by show(cmpZ mainN mainN==0)=true;decide +kernel) ⟨mainN,newS az9 mainN,p2,m2⟩ rfl (st0 mainN) v2.last (by decide) v2.keyLen (fun b h=>v2.find _ b h)
 rw[show dlE ⟨mainN,newS az9 mainN,p2,m2⟩ (st0 mainN)=0 by unfold dlE;rw[if_neg (by simp[(axk az9 mainN).1]),if_neg (by decide)],t3]at c8;obtain⟨fb1,fb2,fb3⟩:=fb;have z1:(0:Int)<((2:Nat):Int):=by decide
 have z2:(((1:Nat):Int)==1)=true:=rfl;have z3:(((2:Nat):Int)==2)=true:=rfl;refine go0 (ai fb1 (ai fb2 (ai fb3 (ai z1 (ai z2 z3))))) ?_;refine gc0 (ai fb1 (ai fb2 (ai fb3 (ai z1 (ai z2 z3))))) ?_;refine c8.mono ?_;rintro v ⟨B8,T8⟩ ⟨rfl,-,-,g⟩;obtain⟨⟨sp',w8⟩,-,-⟩:=g rfl;have w8:WsAt B8 i az9 sp' [⟨netN,S,p1,m1⟩]:=w8;have c9:=bqr (h:=⟨B8,T8⟩) w8;simp only[ZM,Yn,strsA,t2]at c9;refine go0 ti ?_;refine gc0 ti ?_;refine c9.mono ?_;rintro v h' ⟨rfl,L,T',rfl⟩;refine go0 z2 ?_;exact Fn rfl
end AX
end
section
open Go.RowKit
namespace AX
theorem bzy:∀(v v':V),v.lens->v'.lens->∀h,AT 18 [v.A,v'.A] h (.bool (Val.eqB v v')):=by
 refine V.induct fun k n s is ks ih=>?_
 rintro⟨k',n',s',is',ks'⟩ hlen hlen' h;refine pcall ?_ rfl (by simp[V.A,V.cells,A.pure,A.data]) h;refine fo ?_;obtain⟨hil,hkl,_,hmem⟩:=V.lens_mk hlen;obtain⟨hil',hkl',_,hmem'⟩:=V.lens_mk hlen';have hE:Val.eqB (.mk k n s is ks) (.mk k' n' s' is' ks')=(k==k'&&n==n'&&s==s'&&ks==ks'&&Val.eqBs is is'):=by rw[Val.eqB]
 have hno:∀b,b=false->Val.eqB (.mk k n s is ks) (.mk k' n' s' is' ks')=b->True:=fun _ _ _=>trivial
 by_cases h1:k=k'
 rotate_left
 ·have e1:(k !=k')=true:=by simp[h1]
  refine go0 (ai @V_A (ai @azb e1)) ?_;exact⟨_,le_refl _,by rw[azk,hE,Zs.2 h1];rfl⟩
 have e1:(k !=k')=false:=by simp[h1]
 by_cases h2:n=n'
 rotate_left
 ·have e2:(n !=n')=true:=by simp[h2]
  refine go0 (ai @V_A (ai @azb (ai e1 e2))) ?_;exact⟨_,le_refl _,by rw[azk,hE,Zs.2 h2];simp⟩
 have e2:(n !=n')=false:=by simp[h2]
 by_cases h3:s=s'
 rotate_left
 ·have e3:(s !=s')=true:=by simp[h3]
  refine go0 (ai @V_A (ai @azb (ai e1 (ai e2 e3)))) ?_;exact⟨_,le_refl _,by rw[azk,hE,Zs.2 h3];simp⟩
 have e3:(s !=s')=false:=by simp[h3]
 by_cases h4:is.length=is'.length
 rotate_left
 ·have e4:((is.length:Int)!=(is'.length:Int))=true:=by simp;omega
  have hb:Val.eqBs is is'=false:=by rw[YR];exact fun e=>h4 (bwm e)
  refine go0 (ai @V_A (ai @azb (ai e1 (ai e2 (ai e3 (ai @V.cellss_length e4)))))) ?_;exact⟨_,le_refl _,by rw[azk,hE,hb];simp⟩
 have e4:((is.length:Int)!=(is'.length:Int))=false:=by simp[h4]
 by_cases h5:ks.length=ks'.length
 rotate_left
 ·have e5:((ks.length:Int)!=(ks'.length:Int))=true:=by simp;omega
  have hb:(ks==ks')=false:=by rw[Zs];rintro rfl;exact h5 rfl
  refine go0 (ai @V_A (ai @azb (ai e1 (ai e2 (ai e3 (ai @V.cellss_length (ai e4 (ai @azd e5)))))))) ?_;exact⟨_,le_refl _,by rw[azk,hE,hb];simp⟩
 have e5:((ks.length:Int)!=(ks'.length:Int))=false:=by simp[h5]
 have hE2:Val.eqB (.mk k n s is ks) (.mk k' n' s' is' ks')=(ks==ks'&&Val.eqBs is is'):=by rw[hE];simp[h1,h2,h3]
 refine go0 (ai @V_A (ai @azb (ai e1 (ai e2 (ai e3 (ai @V.cellss_length (ai e4 (ai @azd e5)))))))) ?_;refine azg (fun m ts hh=>hh=⟨[.cells 51 [.int .i64 k,.int .i64 n,.str s,.sl 5 .no (V.cellss is),.sl 1 .no (strsA ks)],.cells 51 [.int .i64 k',.int .i64 n',.str s',.sl 5 .no (V.cellss is'),.sl 1 .no (strsA ks')]],[]⟩/\∃(i:Nat),m=ks.length-i/\i<=ks.length/\(ks.drop i==ks'.drop i)=(ks==ks')/\ts 2=.ptr 0 0/\ts 3=.ptr 1 0/\ts 5=.int .i64 i) ks.length ?_ ?_
 ·refine⟨rfl,0,rfl,ZB _,rfl,?_⟩;(exact azv @azd)
 ·rintro m ts hh ⟨rfl,i,rfl,hi,heq,t2,t3,t5⟩;by_cases hlt:i<ks.length
  ·have hla:(i:Int)<((strsA ks).length:Int):=by rw[azd];omega
   have hlb:(i:Int)<((strsA ks').length:Int):=by rw[azd];omega
   have ei:IntKind.i64.wrap ((i:Int)+1)=(i:Int)+1:=wrap64 (by omega) (by omega);have ea:=az5 ks i hlt;have eb:=az5 ks' i (by omega);rw[Zu hlt,Zu (by omega:i<ks'.length)]at heq;refine go0 (ai t2 (ai t3 (ai t5 hla))) ?_;refine ayd (by decide) ?_;by_cases hc:ks[i]=ks'[i]
   ·have hc':(ks[i]!=ks'[i])=false:=by simp[hc]
    refine go0 (ai t2 (ai t3 (ai t5 (ai hla (ai hlb (ai ea (ai eb (ai hc' ei)))))))) ?_;refine⟨ks.length-(i+1),by omega,rfl,i+1,rfl,by omega,?_,?_⟩
    ·rw[<-heq,List.cons_beq_cons,hc,Y9,ZH]
    ·(exact azv (ai t2 (ai t3 (ai t5 ei))))
   ·have hc':(ks[i]!=ks'[i])=true:=by simp[hc]
    refine go0 (ai t2 (ai t3 (ai t5 (ai hla (ai hlb (ai ea (ai eb (ai hc' ei)))))))) ?_;exact⟨_,le_refl _,by rw[azk,hE2,<-heq,List.cons_beq_cons,Zs.2 hc];simp⟩
  ·have hla:¬(i:Int)<((strsA ks).length:Int):=by rw[azd];omega
   rw[ZQ (by omega),ZQ (by omega)]at heq;have hE3:Val.eqB (.mk k n s is ks) (.mk k' n' s' is' ks')=Val.eqBs is is':=by rw[hE2,<-heq];simp
   refine go0 (ai t2 (ai t3 (ai t5 hla))) ?_;refine azg (fun m ts hh=>hh=⟨[.cells 51 [.int .i64 k,.int .i64 n,.str s,.sl 5 .no (V.cellss is),.sl 1 .no (strsA ks)],.cells 51 [.int .i64 k',.int .i64 n',.str s',.sl 5 .no (V.cellss is'),.sl 1 .no (strsA ks')]],[]⟩/\∃(i:Nat),m=is.length-i/\i<=is.length/\Val.eqBs (is.drop i) (is'.drop i)=Val.eqBs is is'/\ts 2=.ptr 0 0/\ts 3=.ptr 1 0/\ts 6=.int .i64 i) is.length ?_ ?_
   ·refine⟨rfl,0,rfl,ZB _,rfl,?_⟩;(exact azv (ai @azd (ai t2 t3)))
   ·clear heq;rintro m ts hh ⟨rfl,i,rfl,hi,heq,t2,t3,t6⟩;by_cases hlt:i<is.length
    ·have hla:(i:Int)<((V.cellss is).length:Int):=by rw[V.cellss_length];omega
     have hlb:(i:Int)<((V.cellss is').length:Int):=by rw[V.cellss_length];omega
     have ei:IntKind.i64.wrap ((i:Int)+1)=(i:Int)+1:=wrap64 (by omega) (by omega);have ea:=V.cellss_get is i hlt;have eb:=V.cellss_get is' i (by omega);have hcall:=fun(h:Hp)=>ih is[i] (Zl hlt) (is'[i]'(by omega)) (hmem _ (Zl hlt)) (hmem' _ (Zl (by omega))) h
     rw[Zu hlt,Zu (by omega:i<is'.length),Val.eqBs]at heq;obtain⟨⟨k1,n1,s1,is1,ks1⟩,hv⟩:=Ex (is[i]);obtain⟨⟨k2,n2,s2,is2,ks2⟩,hv2⟩:=Ex (is'[i]'(by omega));rw[hv]at ea hcall heq;rw[hv2]at eb hcall heq;simp only[V.A,V.cells]at hcall;refine go0 (ai @azb (ai t2 (ai t3 (ai t6 hla)))) ?_;refine ayd (by decide) ?_;refine go0 (ai @azb (ai t2 (ai t3 (ai t6 (ai hla (ai hlb (ai ea eb))))))) ?_;refine cjk (by simp only[aq6,aqf,aqc,ayj,ayg,aqd,ax8,ajc,ajf,azk,aqh,astep,bop,uop,loadA,storeA,appA,ssliceA,eqA,eqCells,fillA,rowsA,setCells,A.cells,A.one,A.data,az4,ZK,YK,ZX,ZH,ZY,Yz,YN,Y3,Yb,YD,ZM,Yn,Ye,Z5,ZU,ZR,Zf,Zo,Zq,ZE,Zz,YT,YU,YW,Z4,Yd,Yt,Zab,Za,ZA,Nat.reduceAdd,Nat.reduceSub,Nat.reduceMul,Nat.reduceLeDiff,Nat.reduceEqDiff,Nat.reduceBEq,Yu,YJ,if_true,if_false,reduceIte,ite_true,ite_false,true_and,and_true,ne_eq,Yw,YH,Zn,reduceCtorEq,and_self,Yj,Yr,Ze,Yc,Z9,decide_true,decide_false,t2,t3,t6]<;>with_reducible rfl) (hcall _) ?_;rcases azl (Val.eqB (.mk k1 n1 s1 is1 ks1) (.mk k2 n2 s2 is2 ks2))with hz|hz
     ·rw[hz]at heq⊢;refine go0 (ai t2 (ai t3 (ai t6 ei))) ?_;refine⟨is.length-(i+1),by omega,rfl,i+1,rfl,by omega,by simpa using heq,?_⟩;(exact azv (ai t2 (ai t3 (ai t6 ei))))
     ·rw[hz]at heq⊢;refine go0 (ai t2 (ai t3 (ai t6 ei))) ?_;exact⟨_,le_refl _,by rw[azk,hE3,<-heq];rfl⟩
    ·have hla:¬(i:Int)<((V.cellss is).length:Int):=by rw[V.cellss_length];omega
     rw[ZQ (by omega),ZQ (by omega)]at heq;refine go0 (ai t2 (ai t3 (ai t6 hla))) ?_;exact⟨_,le_refl _,by rw[azk,hE3,<-heq];rfl⟩
theorem aw2:∀v:V,Val.eqB v v=true:=by
 refine V.induct fun k n s is ks ih=>?_
 rw[Val.eqB];have:Val.eqBs is is=true:=by
  have key:∀l:List V,(∀x∈l,Val.eqB x x=true)->Val.eqBs l l=true:=by
   intro l;induction l with
   |nil=>intro _;rw[Val.eqBs]
   |cons x l ihl=>
    intro hl;rw[Val.eqBs,hl x (by simp),ihl fun y hy=>hl y (by simp[hy])];rfl
  exact key is ih
 simp[this]
namespace Sf
end Sf
def av0:AX.AFn:=⟨21,aS [aR 2 (.mv (.c (.bool false)))] (aS [aM 3 0,aR 4 (.bin .geq (.t 3) (.c (.int .u8 97))),aM 5 4,aG 6 (.mv (.t 0)) 5 true,aG 7 (.bin .leq (.t 6) (.c (.int .u8 122))) 5 true,aR 8 (.pick (.t 5) (.t 7) (.c (.bool false))),aM 9 8,aG 10 (.mv (.t 0)) 9 false,aG 11 (.bin .geq (.t 10) (.c (.int .u8 65))) 9 false,aG 12 (.mv (.t 11)) 9 false,aG 13 (.mv (.t 0)) 12 true,aG 14 (.bin .leq (.t 13) (.c (.int .u8 90))) 12 true,aG 15 (.pick (.t 12) (.t 14) (.c (.bool false))) 9 false,aR 16 (.pick (.t 9) (.c (.bool true)) (.t 15)),aM 17 16,aG 18 (.mv (.t 0)) 17 false,aG 19 (.bin .eql (.t 18) (.c (.int .u8 95))) 17 false,aR 20 (.pick (.t 17) (.c (.bool true)) (.t 19)),aM 2 20] (.ret)),[.t 2]⟩
theorem byp:AX.compFn Tryz.prog 107=some av0:=by kernel_rfl
theorem by3(c:UInt8)(h:Hp):AT 107 [.int .u8 (c.toNat:Int)] h (.bool (Adr.letter c)):=by
 refine pcall ?_ rfl (by simp[A.pure,A.data]) h;refine azf mixedT byp (by simp[av0]) ?_;dsimp only[av0];refine azz ti ti ?_;refine⟨_,le_refl _,?_⟩;rw[azk];congr 1;unfold Adr.letter;have e1:decide ((c.toNat:Int)>=97)=decide (97<=c.toNat):=by rw[decide_eq_decide];omega
 have e2:decide ((c.toNat:Int)<=122)=decide (c.toNat<=122):=by rw[decide_eq_decide];omega
 have e3:decide ((c.toNat:Int)>=65)=decide (65<=c.toNat):=by rw[decide_eq_decide];omega
 have e4:decide ((c.toNat:Int)<=90)=decide (c.toNat<=90):=by rw[decide_eq_decide];omega
 have e5:((c.toNat:Int)==95)=(c==95):=by
  rw[YO,ZT,ZT,<-YG];show _↔c.toNat=95
  omega
 rw[e1,e2,e3,e4,e5]
theorem i80{n:Nat}(h:n<=2000000):IntKind.i64.wrap ((n:Int)+1)=((n+1:Nat):Int):=by rw[wrap64 (by omega) (by omega)];omega
theorem dqc(c:UInt8):(!Adr.letter c&&(decide ((c.toNat:Int)<48)||decide ((c.toNat:Int)>57)))=!Adr.wordB c:=by
 unfold Adr.wordB Num.digB;have e1:decide ((c.toNat:Int)<48)=!decide (48<=c.toNat):=by rw[<-decide_not,decide_eq_decide];omega
 have e2:decide ((c.toNat:Int)>57)=!decide (c.toNat<=57):=by rw[<-decide_not,decide_eq_decide];omega
 rw[e1,e2,Bool.not_or,Bool.not_and]
theorem bxk(s:List UInt8)(hl:s.length<=2000000)(h:Hp):AT 73 [.str s] h (.bool (Adr.ident s)):=by
 refine pcall ?_ rfl (by simp[A.pure,A.data]) h;refine fo ?_;obtain⟨q,hq⟩:=Ex (Adr.ident s);rw[hq];unfold Adr.ident at hq;cases s with
 |nil=>
  refine azz ti ti ?_;exact⟨_,le_refl _,by rw[<-hq];rfl⟩
 |cons c0 t=>
 have e0:((c0::t)==([]:List UInt8))=false:=rfl;have e0':((c0::t)!=([]:List UInt8))=true:=rfl;have h0:(0:Int)<((t.length+1:Nat):Int):=by omega
 have hc:=by3;rw[e0',ZH]at hq;by_cases h64:(t.length+1:Nat)<=64
 rotate_left
 ·have e1:((t.length+1:Nat):Int)>64:=by omega
  have:false=q:=by rw[<-hq];simp;omega
  subst this;refine azz (ai e0 e1) ti ?_;exact Fn rfl
 have e1:¬((t.length+1:Nat):Int)>64:=by omega
 rw[show decide ((c0::t).length<=64)=true from Yg h64,ZH,Ye]at hq;cases hL:Adr.letter c0 with
 |false=>
  rw[hL]at hq;have:false=q:=hq;subst this;have hc0:=hc c0;rw[hL]at hc0;refine azz (ai e0 (ai e1 h0)) (ai hc0 ti) ?_;exact Fn rfl
 |true=>
 rw[hL,ZH]at hq;have hc0:=hc c0;rw[hL]at hc0;refine azz (ai e0 (ai e1 h0)) (ai hc0 ti) ?_;obtain⟨s,hs⟩:=Ex (c0::t);have hsl:t.length+1=s.length:=by rw[<-hs];rfl
 rw[hs]at hq⊢;refine azg (fun m ts hh=>hh=⟨[],[]⟩/\∃j:Nat,m=s.length-j/\j<=s.length/\(s.drop j).all Adr.wordB=s.all Adr.wordB/\(ts 0=.str s/\ts 3=.int .i64 (j:Nat))) s.length ?_ ?_
 ·exact⟨rfl,0,rfl,ZB _,rfl,by(exact azv hs)⟩
 rintro m ts hh ⟨rfl,j,rfl,hj,heq,ht⟩;rcases Z0 j s.length with hlt|hge
 ·have hf:(j:Int)<(s.length:Int)/\(0:Int)<=(j:Int)/\IntKind.i64.wrap ((j:Int)+1)=((j+1:Nat):Int):=⟨by omega,by omega,i80 (by omega)⟩;rw[Zu hlt,ZK]at heq;have hg:s.getD j 0=s[j]:=by simp[List.getD,hlt]
  obtain⟨c,hcc⟩:=Ex (s[j]);rw[hcc]at heq hg;have hw:=dqc c;cases hB:Adr.wordB c with
  |false=>
   rw[hB]at heq hw;have:false=q:=by rw[<-hq,<-heq];rfl
   subst this;refine azz (ai ht (ai hf (ai hg hw))) (ai (hc c) ti) ?_;exact Fn rfl
  |true=>
   rw[hB]at heq hw;refine azz (ai ht (ai hf (ai hg hw))) (ai (hc c) ti) ?_;exact⟨_,by omega,rfl,j+1,rfl,by omega,heq,by(exact azv (ai ht hf))⟩
 ·have hf:¬(j:Int)<(s.length:Int):=by omega
  rw[ZQ hge,YK]at heq;refine azz (ai ht hf) ti ?_;exact⟨_,le_refl _,by rw[<-hq,<-heq];rfl⟩
end AX



def Str.at'(i:Nat)(r:List UInt8×Nat×Int):List UInt8×Nat×Int:=if r.2.2=0 then(r.1,i+r.2.1,0)else([],0,r.2.2)

namespace AX
theorem bkb{α:Type}(f:α->List A)(l:List α)(i:Nat)(h:i<l.length)(hl:l.length<=4611686018427387904):
  (l.map f).length=l.length/\(i:Int)<(l.length:Int)/\(0:Int)<=(i:Int)/\(l.map f).getD i []=f l[i]/\IntKind.i64.wrap ((i:Int)+1)=((i+1:Nat):Int):=
 ⟨Zh _,by omega,by omega,az0 f l i h,by rw[wrap64 (by omega) (by omega)];omega⟩
end AX
end
section
open Go.RowKit
open Go.Op (bytesLess)
namespace AX
def akx:AX.AFn:=⟨21,aS [aR 1 (.box 51 (.t 0)),aR 2 (.mv (.c (.bool false)))] (.seq (aS [aF 4 0 1,aL 5 4,aR 6 (.bin .eql (.t 5) (aI 6))] (.cond (.t 6) (aS [aR 2 (.mv (.c (.bool false)))] (.ret)) (.skip))) (.seq (aS [aR 3 (.mv (aI 0))] (.block 0 (.loop (.seq (aS [aM 7 3,aF 8 3 1,aL 9 8,aR 10 (.len false (.t 9)),aR 11 (.bin .lss (.t 7) (.t 10))] (.cond (.t 11) (.skip) (.exit 0))) (.seq (.block 1 (aS [aF 14 3 1,aL 15 14,aM 16 3,aR 17 (.iaddr 5 (.t 15) (.t 16)),aR 18 (.load true 5 (.t 17)),aR 19 (.call 78 [.t 18]),aR 20 (.un .not (.t 19))] (.cond (.t 20) (aS [aR 2 (.mv (.c (.bool false)))] (.ret)) (.skip)))) (.reg false [aM 12 3,aR 13 (.bin .add (.t 12) (aI 1)),aM 3 13])))))) (aS [aR 2 (.mv (.c (.bool true)))] (.ret)))),[.t 2]⟩
theorem cxg:AX.compFn Tryz.prog 78=some akx:=by kernel_rfl
def aw4:AX.AFn:=⟨18,aS [aR 1 (.box 55 (.t 0)),aR 2 (.mv (aI 0))] (.seq (aS [aF 4 0 1,aL 5 4,aR 6 (.call 73 [.t 5]),aR 7 (.un .not (.t 6))] (.cond (.t 7) (aS [aR 2 (.mv (aI 7))] (.ret)) (.skip))) (.seq (aS [aF 8 1 1,aR 9 (.load true 5 (.t 8)),aR 10 (.call 50 [.t 9]),aM 3 10] (aS [aM 11 3,aR 12 (.bin .neq (.t 11) (aI 0))] (.cond (.t 12) (aS [aM 13 3,aM 2 13] (.ret)) (.skip)))) (.seq (aS [aF 14 1 1,aR 15 (.load true 5 (.t 14)),aR 16 (.call 78 [.t 15]),aR 17 (.un .not (.t 16))] (.cond (.t 17) (aS [aR 2 (.mv (aI 11))] (.ret)) (.skip))) (aS [aR 2 (.mv (aI 0))] (.ret))))),[.t 2]⟩
theorem cqg:AX.compFn Tryz.prog 52=some aw4:=by kernel_rfl
theorem cqb:∀(v:V),v.lens->∀h,AT 78 [v.A] h (.bool (Sf.known v)):=by
 refine V.induct fun k n s is ks ih=>?_
 intro hlen h;unfold V.lens at hlen;have hall:=hlen.2.2.2.2;have hisl:is.length<=9223372036854775807:=by have:=hlen.1;simp only[maxLen]at this;omega
 simp only[V.A,V.cells];refine pcall ?_ rfl (by simp[A.pure,A.data]) h;refine azf mixedT cxg (by simp[akx]) ?_;dsimp only[akx];obtain⟨q,hq⟩:=Ex (Sf.known (.mk k n s is ks));rw[hq];unfold Sf.known at hq;by_cases h6:k=6
 ·have e1:(k==6)=true:=by simp[h6]
  have:false=q:=by rw[<-hq];simp[h6]
  subst this;refine azz e1 ti ?_;exact Fn rfl
 have e1:(k==6)=false:=by simp[h6]
 have hq':Sf.knowns is=q:=by rw[<-hq];simp[h6]
 refine azz e1 ti ?_;refine azg (fun m ts hh=>hh=⟨[.cells 51 [.int .i64 k,.int .i64 n,.str s,.sl 5 .no (V.cellss is),.sl 1 .no (strsA ks)]],[]⟩/\∃j:Nat,m=is.length-j/\j<=is.length/\Sf.knowns (is.drop j)=q/\(ts 1=.ptr 0 0/\ts 3=.int .i64 (j:Nat))) is.length ?_ ?_
 ·exact⟨rfl,0,rfl,ZB _,hq',by(exact azv ti)⟩
 rintro m ts hh ⟨rfl,j,rfl,hj,hkn,ht⟩;rcases Z0 j is.length with hlt|hge
 ·have hf:(V.cellss is).length=is.length/\(j:Int)<(is.length:Int)/\(0:Int)<=(j:Int)/\(V.cellss is).getD j []=is[j].cells/\IntKind.i64.wrap ((j:Int)+1)=((j+1:Nat):Int):=
   ⟨V.cellss_length is,by omega,by omega,V.cellss_get is j hlt,by rw[wrap64 (by omega) (by omega)];omega⟩
  have hc:=ih is[j] (Zl hlt) (V.lensS_mem hall _ (Zl hlt));rw[Zu hlt]at hkn;unfold Sf.knowns at hkn;obtain⟨x,hx⟩:=Ex (is[j]);rw[hx]at hf hc hkn;obtain⟨k1,n1,w1,vi,vy⟩:=x;simp only[V.A,V.cells]at hf hc;cases hK:Sf.known (.mk k1 n1 w1 vi vy)with
  |false=>
   rw[hK]at hc hkn;have:false=q:=hkn;subst this;refine azz (ai ht hf) (ai hc ti) ?_;exact Fn rfl
  |true=>
   rw[hK,ZH]at hkn;rw[hK]at hc;refine azz (ai ht hf) (ai hc ti) ?_;exact⟨_,by omega,rfl,j+1,rfl,by omega,hkn,by(exact azv (ai ht hf))⟩
 ·have hf:=ai (V.cellss_length is) (show¬(j:Int)<(is.length:Int) by omega);rw[ZQ hge]at hkn;unfold Sf.knowns at hkn;subst hkn;refine azz (ai ht hf) ti ?_;exact Fn rfl
theorem cjc(o:Sf.Outp)(hn:o.name.length<=2000000)(hl:o.value.lens)(h:Hp):AT 52 [.agg o.cells] h (.int .i64 (Sf.outZ o)):=by
 have ci:=bxk o.name hn;have cc:=bwj o.value hl;have cn:=cqb o.value hl;obtain⟨q,hq⟩:=Ex (Sf.outZ o);rw[hq];unfold Sf.outZ at hq;obtain⟨nm,⟨k,n,w,vi,vy⟩,sn⟩:=o;dsimp only at ci hq;simp only[V.A,V.cells]at cc cn;refine pcall ?_ rfl (by simp[A.pure,A.data,Sf.Outp.cells]) h;refine azf mixedT cqg (by simp[aw4]) ?_;dsimp only[aw4,Sf.Outp.cells];cases hI:Adr.ident nm with
 |false=>
  rw[hI]at ci hq;rw[if_pos (by decide)]at hq;subst hq;refine azz ti (ai ci ti) ?_;exact Fn rfl
 |true=>
 rw[hI]at ci hq;rw[if_neg (by decide)]at hq;by_cases hZ:Val.checkZ (.mk k n w vi vy)=0
 rotate_left
 ·obtain⟨Z,hZZ⟩:=Ex (Val.checkZ (.mk k n w vi vy));rw[hZZ]at cc hZ hq;have e1:(Z !=0)=true:=by simp[hZ]
  rw[if_pos hZ]at hq;subst hq;refine azz e1 (ai ci (ai cc ti)) ?_;exact Fn rfl
 rw[hZ]at cc;rw[if_neg (by simp[hZ])]at hq;cases hN:Sf.known (.mk k n w vi vy)with
 |false=>
  rw[hN]at cn hq;rw[if_pos (by decide)]at hq;subst hq;refine azz ti (ai ci (ai cc (ai cn ti))) ?_;exact Fn rfl
 |true=>
  rw[hN]at cn hq;rw[if_neg (by decide)]at hq;subst hq;refine azz ti (ai ci (ai cc (ai cn ti))) ?_;exact Fn rfl
theorem bq0{α:Type}(f:α->List A)(l:List α)(i:Nat)(h:l.length<=i):(l.map f).length=l.length/\¬(i:Int)<(l.length:Int):=⟨Zh _,by omega⟩
def prevG{α:Type}(l:List α):Nat->Option α
 |0=>none
 |j+1=>l[j]?
theorem ay1{α:Type}(l:List α)(j:Nat)(h:j<l.length):prevG l (j+1)=some l[j]:=Zj h
theorem by2{α:Type}(f:α->List A)(l:List α)(i:Nat)(h:i+1<l.length)(hl:l.length<=4611686018427387904):
  ((i+1:Nat):Int)>0/\IntKind.i64.wrap (((i+1:Nat):Int)-1)=(i:Int)/\(i:Int)<(l.length:Int)/\(0:Int)<=(i:Int)/\(l.map f).getD i []=f (l[i]'(by omega)):=
 ⟨by omega,by rw[wrap64 (by omega) (by omega)];omega,by omega,by omega,az0 f l i (by omega)⟩
def bqb:AX.AFn:=⟨8,aS [aR 2 (.mv (aI 0))] (.seq (aS [aM 3 0,aR 4 (.bin .eql (.t 3) (.c (.str [])))] (.cond (.t 4) (aS [aR 2 (.mv (aI 1))] (.ret)) (.skip))) (.seq (aS [aM 5 0,aR 6 (.len true (.t 5)),aR 7 (.bin .gtr (.t 6) (aI 64))] (.cond (.t 7) (aS [aR 2 (.mv (aI 3))] (.ret)) (.skip))) (aS [aR 2 (.mv (aI 0))] (.ret)))),[.t 2]⟩
theorem cvr:AX.compFn Tryz.prog 24=some bqb:=by kernel_rfl
theorem bkp(l:List Sf.Outp)(ho:∀o∈l,o.value.lens)(h:Hp):AT 25 [.sl 7 .no (l.map Sf.Outp.cells)] h (.bool (outsB l)):=by
 refine pcall ?_ rfl (by simp[A.pure,A.data]) h;refine fo ?_;have lm:(l.map Sf.Outp.cells).length=l.length:=Zh _;by_cases h5:(l.length:Int)>5
 ·have e:outsB l=false:=by unfold outsB;rw[Yp (by omega),Z7]
  rw[e];refine azz (ai lm h5) ti ?_;exact Fn rfl
 have e:outsB l=axx none l:=by unfold outsB;rw[Yg (by omega),ZH]
 rw[e];obtain⟨q,hq⟩:=Ex (axx none l);rw[hq];refine azz (ai lm h5) ti ?_;refine azg (fun m ts hh=>hh=⟨[],[]⟩/\∃j:Nat,m=l.length-j/\j<=l.length/\axx ((prevG l j).map Sf.Outp.name) (l.drop j)=q/\(ts 0=.sl 7 .no (l.map Sf.Outp.cells)/\ts 3=.int .i64 (j:Nat))) l.length ?_ ?_
 ·exact⟨rfl,0,rfl,ZB _,hq,by(exact azv ti)⟩
 rintro m ts hh ⟨rfl,j,rfl,hj,hd,ht⟩;rcases Z0 j l.length with hlt|hge;rotate_left
 ·have hf:=bq0 Sf.Outp.cells l j hge;rw[ZQ hge]at hd;unfold axx at hd;subst hd;refine azz (ai ht hf) ti ?_;exact Fn rfl
 have hf:=bkb Sf.Outp.cells l j hlt (by omega);have hox:=ho _ (Zl hlt);rw[Zu hlt]at hd;unfold axx at hd;have hnx:=ay1 l j hlt;obtain⟨x,hx⟩:=Ex (l[j]);rw[hx]at hf hox hd hnx;have co:=fun(hh:¬(x.name.length:Int)>100)=>cjc x (by omega) hox
 have cs:=cvg x.value 20 (by decide) hox;have hsm:Sf.outZ x=0->(decide (0<=Val.left x.value ((20:Nat):Int) 40)&&decide (IntKind.i64.wrap (Val.keysN x.value)<=2*((20:Nat):Int)))=Val.smallB x.value 20:=fun hz=>Val.small_wrap (Sf.outZ_parts hz).2.1
 obtain⟨sw,hsw⟩:=Ex ((decide (0<=Val.left x.value ((20:Nat):Int) 40)&&decide (IntKind.i64.wrap (Val.keysN x.value)<=2*((20:Nat):Int))));rw[hsw]at cs hsm;obtain⟨Z,hZ⟩:=Ex (Sf.outZ x);obtain⟨sm,hsmm⟩:=Ex (Val.smallB x.value 20);rw[hZ]at co hd hsm;rw[hsmm]at hd hsm;have hxn:(some x).map Sf.Outp.name=some x.name:=rfl;obtain⟨nm,⟨k,n,w,vi,vy⟩,sn⟩:=x;simp only[V.A,V.cells]at cs;dsimp only[Sf.Outp.cells]at hf co hd hxn;by_cases h100:(nm.length:Int)>100
 ·rw[Yp (by omega)]at hd;simp only[Z7]at hd;subst hd;refine azz (ai ht (ai hf h100)) ti ?_;exact Fn rfl
 rw[Yg (by omega),ZH]at hd;have co:=co h100;by_cases hz:Z=0
 rotate_left
 ·have e1:(Z !=0)=true:=by simp[hz]
  have e2:(Z==0)=false:=by simp[hz]
  simp only[e2,Zad,Z7]at hd;subst hd;cases sw with
  |false=>
   refine azz (ai ht (ai hf h100)) (ai cs ti) ?_;exact Fn rfl
  |true=>
   refine azz (ai ht (ai hf (ai h100 e1))) (ai cs (ai co ti)) ?_;exact Fn rfl
 have hsm:=hsm hz;subst hsm;cases sw with
 |false=>
  simp only[Z7]at hd;subst hd;refine azz (ai ht (ai hf h100)) (ai cs ti) ?_;exact Fn rfl
 |true=>
 rw[ZH]at hd;have e1:(Z !=0)=false:=by simp[hz]
 have e2:(Z==0)=true:=by simp[hz]
 rw[e2,ZH]at hd;cases j with
 |zero=>
  have z0:¬((0:Nat):Int)>0:=by decide
  have hd':axx (some nm) (l.drop 1)=q:=by simpa [prevG,Val.badB]using hd
  refine azz (ai ht (ai hf (ai h100 (ai e1 z0)))) (ai cs (ai co ti)) ?_;exact⟨l.length-1,by omega,rfl,1,rfl,by omega,by rw[hnx];exact hd',by(exact azv (ai ht hf))⟩
 |succ i=>
  have hb:=by2 Sf.Outp.cells l i hlt (by omega);rw[ay1 l i (by omega)]at hd;obtain⟨y,hy⟩:=Ex (l[i]);rw[hy]at hb hd;obtain⟨nm2,⟨k2,n2,w2,vi2,vy2⟩,sn2⟩:=y;dsimp only[Sf.Outp.cells,Option.map_some]at hb hd
  replace hd:(!(!bytesLess nm2 nm)&&axx (some nm) (l.drop (i+1+1)))=q:=hd
  have hT:=(Val.less_total nm2 nm).symm;cases hB:bytesLess nm2 nm with
  |false=>
   rw[hB]at hd hT;have hT:(bytesLess nm nm2||nm==nm2)=true:=hT;have hd:q=false:=by rw[<-hd];rfl
   subst hd;refine azz (ai ht (ai hf (ai h100 (ai e1 (ai hb hT))))) (ai cs (ai co ti)) ?_;exact Fn rfl
  |true=>
   rw[hB]at hd hT;have hT:(bytesLess nm nm2||nm==nm2)=false:=hT
   replace hd:axx (some nm) (l.drop (i+1+1))=q:=by simpa using hd
   refine azz (ai ht (ai hf (ai h100 (ai e1 (ai hb hT))))) (ai cs (ai co ti)) ?_;exact⟨_,by omega,rfl,i+1+1,rfl,by omega,by rw[hnx];exact hd,by(exact azv (ai ht hf))⟩
theorem cvb(key:List UInt8)(h:Hp):AT 24 [.str key] h (.int .i64 (Seal.check key)):=by
 refine pcall ?_ rfl rfl h;refine azf mixedT cvr (by simp[bqb]) ?_;dsimp only[bqb];unfold Seal.check;by_cases h0:key=[]
 ·subst h0;refine azj ti ti ?_;exact Fn rfl
 ·have e0:(key == [])=false:=by simp[h0]
  rw[if_neg h0];by_cases h1:(key.length:Int)>64
  ·rw[if_pos (by omega)];refine azj (ai e0 h1) ti ?_;exact Fn rfl
  ·rw[if_neg (by omega)];refine azj (ai e0 h1) ti ?_;exact Fn rfl
def bj6(l:List Op51):Bool:=l.all fun x=>decide (x.name.length<=100)&&outsB x.outs
theorem dzp(key:List UInt8)(l:List Op51)(ho:∀x∈l,∀o∈x.outs,o.value.lens)(h:Hp):AT 7 [.str key,.sl 4 .no (l.map Op51.cells)] h (.bool (bxq key l)):=by
 refine pcall ?_ rfl (by simp[A.pure,A.data]) h;refine fo ?_;have lm:(l.map Op51.cells).length=l.length:=Zh _;have ce:=cvb key;by_cases h20:(l.length:Int)>20
 ·have e:bxq key l=false:=by unfold bxq;rw[Yp (by omega),Z7,Z7]
  rw[e];refine azz (ai lm h20) ti ?_;exact Fn rfl
 have e:bxq key l=(Seal.check key==0&&bj6 l):=by unfold bxq bj6;rw[Yg (by omega),ZH]
 rw[e];obtain⟨Z,hZ⟩:=Ex (Seal.check key);rw[hZ]at ce⊢;by_cases hz:Z=0
 rotate_left
 ·have e1:(Z !=0)=true:=by simp[hz]
  have e2:(Z==0)=false:=by simp[hz]
  rw[e2,Z7];refine azz (ai lm (ai h20 e1)) (ai ce ti) ?_;exact Fn rfl
 have e1:(Z !=0)=false:=by simp[hz]
 have e2:(Z==0)=true:=by simp[hz]
 rw[e2,ZH];obtain⟨q,hq⟩:=Ex (bj6 l);rw[hq];refine azz (ai lm (ai h20 e1)) (ai ce ti) ?_;refine azg (fun m ts hh=>hh=⟨[],[]⟩/\∃j:Nat,m=l.length-j/\j<=l.length/\bj6 (l.drop j)=q/\(ts 1=.sl 4 .no (l.map Op51.cells)/\ts 5=.int .i64 (j:Nat))) l.length ?_ ?_
 ·exact⟨rfl,0,rfl,ZB _,hq,by(exact azv ti)⟩
 rintro m ts hh ⟨rfl,j,rfl,hj,hd,ht⟩;rcases Z0 j l.length with hlt|hge;rotate_left
 ·have hf:=bq0 Op51.cells l j hge;rw[ZQ hge]at hd;have hd:q=true:=by rw[<-hd];rfl
  subst hd;refine azz (ai ht hf) ti ?_;exact Fn rfl
 have hf:=bkb Op51.cells l j hlt (by omega);have hox:=ho _ (Zl hlt);rw[Zu hlt]at hd;obtain⟨x,hx⟩:=Ex (l[j]);rw[hx]at hf hox hd
 replace hd:((decide (x.name.length<=100)&&outsB x.outs)&&bj6 (l.drop (j+1)))=q:=hd
 have co:=bkp x.outs hox;obtain⟨ob,hob⟩:=Ex (outsB x.outs);rw[hob]at co hd;obtain⟨kd,nm,os,fu⟩:=x;dsimp only[Op51.cells,opA]at hf co hd;by_cases h100:(nm.length:Int)>100
 ·rw[Yp (by omega)]at hd;simp only[Z7]at hd;subst hd;refine azz (ai ht (ai hf h100)) ti ?_;exact Fn rfl
 rw[Yg (by omega),ZH]at hd;cases ob with
 |false=>
  simp only[Z7]at hd;subst hd;refine azz (ai ht (ai hf h100)) (ai co ti) ?_;exact Fn rfl
 |true=>
  rw[ZH]at hd;refine azz (ai ht (ai hf h100)) (ai co ti) ?_;exact⟨_,by omega,rfl,j+1,rfl,by omega,hd,by(exact azv (ai ht hf))⟩
end AX
end
end Go.Proofs.YthhpocnmfknalaaGreatDoor
