/- Part of what the proof needs. -/
import Derived.Test.YthhpocnmfknalaaGreatDoorMFrWorkspaceCallsU
set_option maxHeartbeats 4000000
set_option maxRecDepth 100000
set_option linter.all false
namespace Go.Proofs.YthhpocnmfknalaaGreatDoor
section
open Go.RowKit
namespace AX
theorem azt{b:List Blk}{i j:Nat}{x:Blk}(h:i≠j):(b.set i x)[j]?=b[j]?:=Zas h
theorem axz{b:List Blk}{i:Nat}{x y:Blk}(h:b[i]?=some y):(b.set i x)[i]?=some x:=YE (Zb.1 h).1
theorem aqj{b:List Blk}{x:Blk}{n:Nat}(h:n=b.length):(b++[x])[n]?=some x:=by rw[h];exact Zt
theorem get_lt{b:List Blk}{i:Nat}{x:Blk}(h:b[i]?=some x):i<b.length:=(Zb.1 h).1
def KeepC(i:Nat)(b b':List Blk):Prop:=∀j T l,j≠i->b[j]?=some (.cells T l)->b'[j]?=some (.cells T l)
theorem axu(V W:List Ent):rowW (V++W)=rowW V++rowW W:=by unfold rowW;rw[Z6,List.flatten_append]
theorem avd(W:List Ent)(q:Nat)(h:q<=W.length):(rowW W).take (q*2)=rowW (W.take q)/\(rowW W).drop (q*2)=rowW (W.drop q):=by
 have e:rowW W=rowW (W.take q)++rowW (W.drop q):=by rw[<-axu,Yo]
 have l:(rowW (W.take q)).length=q*2:=by rw[ajl,Zk,Nat.min_eq_left h]
 rw[e,<-l];exact⟨List.take_left' rfl,List.drop_left' rfl⟩
theorem WsAt.row_ne{b:List Blk}{i k:Nat}{key:List UInt8}{sp:A}{W:List Ent}{F:List A}(w:WsAt b i key sp W)(hk:b[k]?=some (.row 78 F)):k≠i/\∀e∈W,e.m≠i/\e.p≠i/\e.m≠k/\e.p≠k:=by
 have hs:=w.set;unfold setC at hs;refine⟨fun e=>(by rw[e,hs]at hk;cases hk),fun e he=>?_⟩;obtain⟨h1,h2⟩:=w.ent e he;unfold Sto.Bk at h2;unfold Sto.M at h1;exact⟨fun e=>(by rw[e,hs]at h1;cases h1),fun e=>(by rw[e,hs]at h2;injection h2 with h2;injection h2 with h2 _;exact absurd h2 (by decide)),fun e=>(by rw[e,hk]at h1;cases h1),fun e=>(by rw[e,hk]at h2;cases h2)⟩
theorem WsAt.set_ne{b:List Blk}{i:Nat}{key:List UInt8}{sp:A}{W:List Ent}(w:WsAt b i key sp W):∀e∈W,e.m≠i/\e.p≠i:=by
 have hs:=w.set;unfold setC at hs;intro e he;obtain⟨h1,h2⟩:=w.ent e he;unfold Sto.Bk at h2;unfold Sto.M at h1;exact⟨fun e=>(by rw[e,hs]at h1;cases h1),fun e=>(by rw[e,hs]at h2;injection h2 with h2;injection h2 with h2 _;exact absurd h2 (by decide))⟩
def insW(W:List Ent)(q:Nat)(e:Ent):List Ent:=W.take q++[e]++W.drop q
theorem aja(W:List Ent)(q:Nat)(e:Ent):(insW W q e).Perm (e::W):=by
 unfold insW;rw[Zi];refine(List.perm_middle (l₁:=W.take q) (a:=e) (l₂:=W.drop q)).trans ?_;rw[Yo]
theorem bya(W:List Ent)(q:Nat)(e:Ent):(insW W q e).length=W.length+1:=(aja W q e).length_eq
theorem cwe{W:List Ent}{q:Nat}{e:Ent}(hs:SrtW W)(hc:CutW W e.name q)(hh:hasW W e.name q=false):SrtW (insW W q e):=by
 have hs2:SrtW (W.take q++W.drop q):=by rw[Yo];exact hs
 obtain⟨s1,s2,s3⟩:=List.pairwise_append.1 hs2;have l1:∀x∈W.take q,cmpZ x.name e.name<0:=fun x hx=>by
  obtain⟨j,hj,rfl⟩:=List.mem_take_iff_getElem.1 hx;exact hc.lt j (by omega) (by omega)
 have l2:∀x∈W.drop q,cmpZ e.name x.name<0:=fun x hx=>by
  obtain⟨j,hj,rfl⟩:=List.mem_drop_iff_getElem.1 hx;have hj':q+j<W.length:=by omega
  have h0:∀p (hp:q<=p) (hl:p<W.length),¬cmpZ W[p].name e.name<0:=fun p hp hl=>by have:=hc.ge p hl hp;omega
  have hne:¬cmpZ W[q].name e.name=0:=fun e0=>by
   unfold hasW at hh;rw[Zj (by omega)]at hh;simp[e0]at hh
  have hq:cmpZ e.name W[q].name<0:=by
   rcases Sf.cmpZ_tri (h0 q (Ze _) (by omega))with e1|e1
   ·exact absurd ((Sf.cmpZ_eq _ _).2 e1) hne
   ·exact e1
  rcases Nat.eq_zero_or_pos j with rfl|hp
  ·exact hq
  ·exact Sf.cmpZ_trans hq (List.pairwise_iff_getElem.1 hs q (q+j) (by omega) hj' (by omega))
 unfold insW SrtW;rw[Zi,List.pairwise_append];refine⟨s1,List.pairwise_append.2 ⟨List.pairwise_singleton _ _,s2,fun x hx y hy=>by rw[ZJ.1 hx];exact l2 y hy⟩,fun x hx y hy=>?_⟩;rcases Yk.1 hy with hy|hy
 ·rw[ZJ.1 hy];exact l1 x hx
 ·exact s3 x hx y hy
section
variable {h:Hp}
def crE(W:List Ent)(n:List UInt8)(p:Nat):Int:=if Adr.ident n=false then 7 else if hasW W n p=true then 8 else if 32<=W.length then 14 else 0
theorem ay2{i:Nat}{key:List UInt8}{sp:A}{W:List Ent}(w:WsAt h.b i key sp W)(n:List UInt8)(hn:n.length<=maxLen)(p:Nat)(hc:CutW W n p)(he:crE W n p≠0):
  AC 10 [.ptr i 0,.str n] h fun v h'=>v=.int .i64 (crE W n p)/\∃L,h'=⟨h.b++L,h.t⟩:=by
 have cr:=axe w.set;have ci:=ajy n hn;have cf:=awa w n p hc;unfold crE at he⊢;refine fo ?_;cases h1:Adr.ident n with
 |false=>
  rw[h1]at ci;rw[if_pos rfl];refine azj ti (ai cr (ai ci ti)) ?_;exact⟨_,le_refl _,rfl,[],by rw[Zz]⟩
 |true=>
 rw[h1]at ci he;rw[if_neg (by decide)]at he⊢;refine go0 ti ?_;refine gc0 ti ?_;refine cr.mono ?_;rintro v h' ⟨rfl,rfl⟩;refine go0 ti ?_;refine gc0 ti ?_;refine(ci _).mono ?_;rintro v h' ⟨rfl,rfl⟩;refine go0 ti ?_;refine gc0 ti ?_;refine cf.mono ?_;rintro v h' ⟨rfl,L,rfl⟩;have hb:=azc w.set L;unfold setC at hb;cases h2:hasW W n p with
 |true=>
  rw[if_pos rfl];refine go0 hb ?_;exact⟨_,le_refl _,rfl,L,rfl⟩
 |false=>
  rw[h2,if_neg (by decide)]at he;rw[if_neg (by decide)];by_cases h3:32<=W.length
  ·rw[if_pos h3];revert hb;have hs:=w.sp;cases hs with
   |nil=>exact absurd h3 (by decide)
   |row hk=>
    intro hb;have h4:(W.length:Int)>=32:=by omega
    refine go0 (ai hb h4) ?_;exact⟨_,le_refl _,rfl,L,rfl⟩
  ·rw[if_neg h3]at he;exact absurd rfl he
end
end AX
end
section
open Go.RowKit
namespace AX
structure Made(b b':List Blk)(i:Nat)(key:List UInt8)(W:List Ent)(n:List UInt8)(q:Nat):Prop where
 at':∃sp p m,WsAt b' i key sp (insW W q ⟨n,newS key n,p,m⟩)
 keep:KeepC i b b'
 len:b.length<=b'.length
theorem dqj{b B1 B4:List Blk}{i k n0:Nat}{key:List UInt8}{sp:A}{W:List Ent}{n:List UInt8}{q:Nat}(w:WsAt b i key sp W)(hl:W.length<32)(hc:CutW W n q)(hh:hasW W n q=false)
  (hn0:b.length<=n0) (hkn:n0<=k)
  (hset:B4[i]?=some (setC key (.bs k 2 (W.length+1)))) (hrow:B4[k]?=some (.row 78 (rowW (insW W q ⟨n,newS key n,n0+1,n0⟩)))) (hm:B4[n0]?=some (newS key n).M) (hp:B4[n0+1]?=some ((newS key n).Bk n0))
  (hold:∀j x,j≠i->(∀F,x≠.row 78 F)->b[j]?=some x->B4[j]?=some x) (hlen:b.length<=B4.length):Made b B4 i key W n q:=by
 have hne:=w.set_ne;refine⟨⟨_,n0+1,n0,⟨hset,?_,fun e he=>?_,?_,?_,cwe (e:=⟨n,newS key n,n0+1,n0⟩) w.srt hc hh,by rw[bya];omega⟩⟩,fun j T l hj hb=>hold j _ hj (fun F e=>by cases e) hb,hlen⟩
 ·have:=SpAt.row hrow;rw[bya]at this;exact this
 ·rcases ZL.1 ((aja W q _).mem_iff.1 he)with rfl|he
  ·exact⟨hm,hp⟩
  ·obtain⟨h1,h2⟩:=w.ent e he;exact⟨hold _ _ (hne e he).1 (fun F e=>by unfold Sto.M at e;cases e) h1,hold _ _ (hne e he).2 (fun F e=>by unfold Sto.Bk at e;cases e) h2⟩
 ·rw[((aja W q ⟨n,newS key n,n0+1,n0⟩).map (·.p)).nodup_iff,ZM,List.nodup_cons];refine⟨fun hm=>?_,w.ps⟩;obtain⟨e,he,hep⟩:=ZW.1 hm;have h1:=get_lt (w.ent e he).2;have hep':e.p=n0+1:=hep;omega
 ·rw[((aja W q ⟨n,newS key n,n0+1,n0⟩).map (·.m)).nodup_iff,ZM,List.nodup_cons];refine⟨fun hm=>?_,w.ms⟩;obtain⟨e,he,hem⟩:=ZW.1 hm;have h1:=get_lt (w.ent e he).1;have hem':e.m=n0:=hem;omega
section
variable {h:Hp}
theorem avv{i:Nat}{key:List UInt8}{sp:A}{W:List Ent}(w:WsAt h.b i key sp W)(hkey:Seal.check key=0)(n:List UInt8)(q:Nat)(hc:CutW W n q)(he:crE W n q=0):
  AC 10 [.ptr i 0,.str n] h fun v h'=>v=.int .i64 0/\h'.t=h.t/\Made h.b h'.b i key W n q:=by
 unfold crE at he;have h1:Adr.ident n=true:=by
  cases h:Adr.ident n with
  |true=>rfl
  |false=>rw[h,if_pos rfl]at he;cases he
 rw[h1,if_neg (by decide)]at he;have h2:hasW W n q=false:=by
  cases h:hasW W n q with
  |false=>rfl
  |true=>rw[h,if_pos rfl]at he;cases he
 rw[h2,if_neg (by decide)]at he;have h3:W.length<32:=by
  rcases Z0 W.length 32 with h|h
  ·exact h
  ·rw[if_pos h]at he;cases he
 clear he;obtain⟨t1,t2,t3⟩:=az7 h1;have cr:=axe w.set;have ci:=ajy n (by have hM:maxLen=9223372036854775807:=rfl;omega);rw[h1]at ci;have cf:=awa w n q hc;rw[h2]at cf;have cn:=fun h=>cx7 hkey t1 t2 t3 h
 have hset0:=w.set;obtain⟨b,t⟩:=h;dsimp only at w cr cf hset0⊢;refine fo ?_;refine go0 ti ?_;refine gc0 ti ?_;refine cr.mono ?_;rintro v h' ⟨rfl,rfl⟩;refine go0 ti ?_;refine gc0 ti ?_;refine(ci _).mono ?_;rintro v h' ⟨rfl,rfl⟩;refine go0 ti ?_;refine gc0 ti ?_;refine cf.mono ?_;rintro v h' ⟨rfl,L,rfl⟩;have hbL:=azc hset0 L;obtain⟨B0,hB0⟩:=Ex (b++L);obtain⟨n0,hn0⟩:=Ex (B0.length);have hbn:b.length<=n0:=by rw[<-hn0,<-hB0,Za];omega
 rw[hB0]at hbL;have cn:=cn ⟨B0,t⟩;obtain⟨s,hs⟩:=Ex (newS key n);rw[hs]at cn;obtain⟨B1,hB1⟩:=Ex (B0++[s.M,s.Bk n0]);simp only[hn0,hB1]at cn;have hi0:=get_lt hbL;have l1:B1.length=n0+2:=by rw[<-hB1,Za,hn0];rfl
 have a1:B1[i]?=some (setC key sp):=by rw[<-hB1];exact azc hbL _
 have m1:B1[n0]?=some s.M:=by rw[<-hB1,List.getElem?_append_right (by omega),hn0,Nat.sub_self];rfl
 have p1:B1[n0+1]?=some (s.Bk n0):=by rw[<-hB1,List.getElem?_append_right (by omega),hn0,show n0+1-n0=1 by omega];rfl
 have o1:∀j x,b[j]?=some x->B1[j]?=some x:=fun j x hj=>by rw[<-hB1,<-hB0];exact azc (azc hj _) _
 obtain⟨B2,hB2⟩:=Ex (B1++[.row 78 [.str n,.ptr (n0+1) 0]]);have l2:B2.length=n0+3:=by rw[<-hB2,Za,l1];rfl
 have a2:B2[i]?=some (setC key sp):=by rw[<-hB2];exact azc a1 _
 have m2:B2[n0]?=some s.M:=by rw[<-hB2];exact azc m1 _
 have p2:B2[n0+1]?=some (s.Bk n0):=by rw[<-hB2];exact azc p1 _
 have x2:B2[n0+2]?=some (.row 78 [.str n,.ptr (n0+1) 0]):=by rw[<-hB2];exact aqj l1.symm
 have o2:∀j x,b[j]?=some x->B2[j]?=some x:=fun j x hj=>by rw[<-hB2];exact azc (o1 j x hj) _
 have hV:rowC ⟨B2,t⟩ 78 2 (.bs (n0+2) 2 1)=some (1,[.str n,.ptr (n0+1) 0]):=by
  simp only[rowC,x2,if_true];rfl
 have z0:¬(W.length:Int)>=32:=by omega
 have e0:rowW [⟨n,s,n0+1,n0⟩]=[.str n,.ptr (n0+1) 0]:=rfl;have fin:∀B4 k,n0<=k->B4[i]?=some (setC key (.bs k 2 (W.length+1)))->B4[k]?=some (.row 78 (rowW (insW W q ⟨n,s,n0+1,n0⟩)))->B4[n0]?=some s.M->B4[n0+1]?=some (s.Bk n0)->(∀j x,j≠i->(∀F,x≠.row 78 F)->b[j]?=some x->B4[j]?=some x)->b.length<=B4.length->Made b B4 i key W n q:=fun B4 k hk q1 q2 q3 q4 q5 q6=>by
  subst hs;exact dqj (B1:=B1) w h3 hc h2 hbn hk q1 q2 q3 q4 q5 q6
 have sp0:=w.sp;unfold setC at hbL a1 a2;revert hbL a1 a2;cases sp0 with
 |nil=>
  intro hbL a1 a2;obtain rfl:q=0:=Nat.le_zero.1 hc.le;have cI:=fun t=>cjs (Gw:=GT) (h:=⟨B2,t⟩) (W0:=0) (V:=.bs (n0+2) 2 1) (x:=[.str n,.ptr (n0+1) 0]) (by simp only[rowC,x2,if_true];rfl)
  obtain⟨B3,hB3⟩:=Ex (B2++[.row 78 [.str n,.ptr (n0+1) 0]]);simp only[hB3,l2]at cI;have a3:B3[i]?=some (.cells 72 [.str key,.bool true,.sl 0 .nil []]):=by rw[<-hB3];exact azc a2 _
  have f0:=fin (B3.set i (setC key (.bs (n0+3) 2 1))) (n0+3) (by omega) (axz a3) ((azt (by have:=get_lt hbL;omega)).trans (by rw[<-hB3];exact aqj l2.symm)) ((azt (by have:=get_lt hbL;omega)).trans (by rw[<-hB3];exact azc m2 _)) ((azt (by have:=get_lt hbL;omega)).trans (by rw[<-hB3];exact azc p2 _)) (fun j x hj hF hb=>(azt (Ne.symm hj)).trans (by rw[<-hB3];exact azc (o2 j x hb) _)) (by rw[ZA,<-hB3,Za,l2];omega);clear fin o1 o2;unfold setC at f0;have z1:¬((0:Nat):Int)>=32:=by decide
  refine go0 (ai hB0 (ai hbL z1)) ?_;refine gc0 (ai hB0 (ai hbL z1)) ?_;refine cn.mono ?_;rintro v h' ⟨rfl,rfl⟩;refine go0 (ai a1 (ai hB2 l1)) ?_;refine gc0 (ai a1 (ai hB2 l1)) ?_;refine(cI _).mono ?_;rintro v h' ⟨rfl,rfl⟩;refine go0 a3 ?_;exact⟨_,le_refl _,rfl,rfl,f0⟩
 |@row k _ hk=>
  intro hbL a1 a2;have hkb:=get_lt hk;have hik:=(w.row_ne hk).1;have r2:=o2 k _ hk;have cI:=fun t=>djs (Gw:=GT) (h:=⟨B2,t⟩) (i:=k) (n:=W.length) (k:=q) (V:=.bs (n0+2) 2 1) (x:=[.str n,.ptr (n0+1) 0]) r2 (ajl W) hc.le (by simp only[rowC,x2,if_true];rfl) (fun m e=>by injection e with e1;omega) (by omega) (bk4 W)
  have er:(rowW W).take (q*2)++[.str n,.ptr (n0+1) 0]++(rowW W).drop (q*2)=rowW (insW W q ⟨n,s,n0+1,n0⟩):=by
   unfold insW;rw[axu,axu,(avd W q hc.le).1,(avd W q hc.le).2,e0]
  rw[er]at cI;obtain⟨R,hR⟩:=Ex (rowW (insW W q ⟨n,s,n0+1,n0⟩));rw[hR]at cI fin;obtain⟨B3,hB3⟩:=Ex (B2.set k .gone++[.row 78 R]);simp only[hB3,l2]at cI;have a3:B3[i]?=some (.cells 72 [.str key,.bool true,.bs k 2 W.length]):=by rw[<-hB3];exact azc ((azt hik).trans a2) _
  have f0:=fin (B3.set i (setC key (.bs (n0+3) 2 (W.length+1)))) (n0+3) (by omega) (axz a3) ((azt (by have:=get_lt hbL;omega)).trans (by rw[<-hB3];exact aqj (by rw[ZA,l2]))) ((azt (by have:=get_lt hbL;omega)).trans (by rw[<-hB3];exact azc ((azt (by omega)).trans m2) _)) ((azt (by have:=get_lt hbL;omega)).trans (by rw[<-hB3];exact azc ((azt (by omega)).trans p2) _)) (fun j x hj hF hb=>(azt (Ne.symm hj)).trans (by
    rw[<-hB3];refine azc ((azt (fun e=>?_)).trans (o2 j x hb)) _;subst e
    rw[hk]at hb;injection hb with hb;exact hF _ hb.symm)) (by rw[ZA,<-hB3,Za,ZA,l2];omega)
  clear fin o1 o2;unfold setC at f0;refine go0 (ai hB0 (ai hbL z0)) ?_;refine gc0 (ai hB0 (ai hbL z0)) ?_;refine cn.mono ?_;rintro v h' ⟨rfl,rfl⟩;refine go0 (ai a1 (ai hB2 l1)) ?_;refine gc0 (ai a1 (ai hB2 l1)) ?_;refine(cI _).mono ?_;rintro v h' ⟨rfl,rfl⟩;refine go0 a3 ?_;exact⟨_,le_refl _,rfl,rfl,f0⟩
end
end AX
end
section
open Go.RowKit
namespace AX
structure StAt(b:List Blk)(p m:Nat)(s:Sto):Prop where
 bm:b[m]?=some s.M
 bp:b[p]?=some (s.Bk m)
theorem StAt.ne{b:List Blk}{p m:Nat}{s:Sto}(h:StAt b p m s):p≠m:=fun e=>by
 have h1:=h.bm;have h2:=h.bp;unfold Sto.M at h1;unfold Sto.Bk at h2;rw[e,h1]at h2;cases h2
theorem StAt.more{b:List Blk}{p m:Nat}{s:Sto}(h:StAt b p m s)(L:List Blk):StAt (b++L) p m s:=⟨azc h.bm L,azc h.bp L⟩
theorem StAt.same{b:List Blk}{p m:Nat}{s:Sto}(h:StAt b p m s):(b.set m s.M).set p (s.Bk m)=b:=by
 have e1:b.set m s.M=b:=by obtain⟨hl,e⟩:=Zb.1 h.bm;rw[<-e];exact List.set_getElem_self hl
 rw[e1];obtain⟨hl,e⟩:=Zb.1 h.bp;rw[<-e];exact List.set_getElem_self hl
section
variable {h:Hp} {p m:Nat} {s:Sto}
theorem cw4{f:FuncId}{args:List A}{v:A}(hc:∀l t,AC f (.ptr 1 0::args) ⟨s.M::s.B::l,t⟩ fun v' h'=>v'=v/\h'=⟨s.M::s.B::l,t⟩)(ha:A.locL 0 args=true)(hv:v.loc 0=true)(w:StAt h.b p m s):
  AC f (.ptr p 0::args) h fun v' h'=>v'=v/\h'=h:=by
 have:=Sto.at_any hc ha hv w.ne w.bm w.bp;rw[w.same]at this;exact this
theorem bwo(w:StAt h.b p m s):AT 34 [.ptr p 0] h (.tup [.str s.own,.int .i64 s.left]):=
 cw4 (fun l t=>cww s l t) rfl rfl w
theorem bws(w:StAt h.b p m s)(hk:s.key.length<=1000000000)(hb:∀b,lfind s.latest s.es=some b->b.length<=1048600):AT 15 [.ptr p 0] h (.tup [(s.at' s.latest).1.A,.int .i64 (s.at' s.latest).2]):=
 cw4 (fun l t=>dxv s l t hk hb) rfl (by simp[A.loc,A.locL,Sf.St.A]) w
theorem cyl(w:StAt h.b p m s)(who:List UInt8)(hw:who.length<=2000000)(n:Int):AC 32 [.ptr p 0,.str who,.int .i64 n] h fun r h'=>r=.int .i64 (s.lock who n).2/\h'=⟨(h.b.set m (s.lock who n).1.M).set p ((s.lock who n).1.Bk m),h.t⟩:=
 Sto.at_any (fun l t=>dxh s l t who hw n) rfl rfl w.ne w.bm w.bp
theorem bwi(w:StAt h.b p m s)(who:List UInt8):AC 33 [.ptr p 0,.str who] h fun r h'=>r=.int .i64 (s.unlock who).2/\h'=⟨(h.b.set m (s.unlock who).1.M).set p ((s.unlock who).1.Bk m),h.t⟩:=
 Sto.at_any (fun l t=>cki s l t who) rfl rfl w.ne w.bm w.bp
theorem cx2(w:StAt h.b p m s)(who:List UInt8)(st:Sf.St)(hin:Sf.StIn st)(hk:s.key.length<=1000000000)(hE:(Sf.stE 2 st).length+20<=1000000000):AC 35 [.ptr p 0,.str who,st.A] h fun r h'=>r=.int .i64 (s.write who st).2/\h'=⟨(h.b.set m (s.write who st).1.M).set p ((s.write who st).1.Bk m),h.t⟩:=
 Sto.at_any (fun l t=>cvt s l t who st hin hk hE) (by simp[A.loc,A.locL,Sf.St.A]) rfl w.ne w.bm w.bp
theorem WsAt.st{b:List Blk}{i:Nat}{key:List UInt8}{sp:A}{W:List Ent}(w:WsAt b i key sp W){e:Ent}(he:e∈W):StAt b e.p e.m e.s:=⟨(w.ent e he).1,(w.ent e he).2⟩
theorem SpAt.row_of{b:List Blk}{sp:A}{W:List Ent}(h:SpAt b sp W)(hp:0<W.length):∃k,b[k]?=some (.row 78 (rowW W))/\sp=.bs k 2 W.length:=by
 cases h with
 |nil=>exact absurd hp (Nat.not_lt_zero _)
 |row hk=>exact⟨_,hk,rfl⟩
def dlE(e:Ent)(st:Sf.St):Int:=if e.s.own≠[]then 24 else if 0<st.insts.length+st.pends.length then 38 else 0
theorem bys{i:Nat}{key:List UInt8}{sp:A}{W:List Ent}(w:WsAt h.b i key sp W)(n:List UInt8)(q:Nat)(hc:CutW W n q)(hh:hasW W n q=false):
  AC 12 [.ptr i 0,.str n] h fun v h'=>v=.int .i64 9/\∃L,h'=⟨h.b++L,h.t⟩:=by
 have cr:=axe w.set;have cf:=awa w n q hc;rw[hh]at cf;refine fo ?_;refine go0 ti ?_;refine gc0 ti ?_;refine cr.mono ?_;rintro v h' ⟨rfl,rfl⟩;refine go0 ti ?_;refine gc0 ti ?_;refine cf.mono ?_;rintro v h' ⟨rfl,L,rfl⟩;refine go0 ti ?_;exact⟨_,le_refl _,rfl,L,rfl⟩
structure Gone(b b':List Blk)(i:Nat)(key:List UInt8)(W:List Ent)(q:Nat):Prop where
 at':∃sp,WsAt b' i key sp (W.take q++W.drop (q+1))
 keep:KeepC i b b'
 len:b.length<=b'.length
theorem bxp{i:Nat}{key:List UInt8}{sp:A}{W:List Ent}(w:WsAt h.b i key sp W)(n:List UInt8)(q:Nat)(hc:CutW W n q)(hh:hasW W n q=true)(e:Ent)(he:W[q]?=some e)(st:Sf.St)(hr:e.s.at' e.s.latest=(st,0))(hl:st.insts.length+st.pends.length<=1000000)(hk:e.s.key.length<=1000000000)(hb:∀b,lfind e.s.latest e.s.es=some b->b.length<=1048600):
  AC 12 [.ptr i 0,.str n] h fun v h'=>v=.int .i64 (dlE e st)/\h'.t=h.t/\(dlE e st≠0->∃L,h'.b=h.b++L)/\(dlE e st=0->Gone h.b h'.b i key W q):=by
 have cr:=axe w.set;have cf:=awa w n q hc;rw[hh]at cf;have hlt:=bjl hh;have heW:W[q]=e:=by rw[Zj hlt]at he;injection he
 have hem:e∈W:=by rw[<-heW];exact Zl hlt
 obtain⟨b,t⟩:=h;dsimp only at w cr cf⊢;have hset0:=w.set;have hz:(0:Int)<=(q:Int)/\(q:Int)<(W.length:Int):=by omega
 have hlen:=w.len;have sp0:=w.sp;obtain⟨k,hk0,rfl⟩:=sp0.row_of (by omega);obtain⟨g1,_,g3⟩:=avz W q hlt;have g1':q*2+1+1<=(rowW W).length:=by omega
 rw[heW]at g3;refine fo ?_;refine go0 ti ?_;refine gc0 ti ?_;refine cr.mono ?_;rintro v h' ⟨rfl,rfl⟩;refine go0 ti ?_;refine gc0 ti ?_;refine cf.mono ?_;rintro v h' ⟨rfl,L,rfl⟩;have hbL:=azc hset0 L;have hkL:=azc hk0 L;have hw:=(w.st hem).more L;have hb0:∀j x,b[j]?=some x->(b++L)[j]?=some x:=fun j x hj=>azc hj L
 have hln:b.length<=(b++L).length:=by rw[Za];omega
 have ex:∃L',b++L=b++L':=⟨L,rfl⟩;have ey:∀x:Blk,∃L',b++L++[x]=b++L':=fun x=>⟨L++[x],Zi _ _ _⟩
 obtain⟨B,hB⟩:=Ex (b++L);simp only[hB]at hbL hkL hw hb0 hln ex ey⊢;clear hB;have c1:=bwo (h:=⟨B,t⟩) hw;have c2:=bws (h:=⟨B,t⟩) hw hk hb;rw[hr]at c2;unfold setC at hbL;have hrow:=ajl W;obtain⟨F,hF⟩:=Ex (rowW W);obtain⟨own,hown⟩:∃own,e.s.own=own:=⟨_,rfl⟩;unfold dlE;rw[hown]at c1⊢;rw[hF]at g1' g3 hkL;by_cases h1:own=[]
 rotate_left
 ·have e1:(own != [])=true:=by simp[h1]
  rw[if_pos h1];refine go0 (ai hbL (ai hkL (ai hz (ai g1' g3)))) ?_;refine gc0 (ai hbL (ai hkL (ai hz (ai g1' g3)))) ?_;refine c1.mono ?_;rintro v h' ⟨rfl,rfl⟩;refine go0 e1 ?_;exact⟨_,le_refl _,rfl,rfl,fun _=>ex,fun e=>by cases e⟩
 have e1:(own != [])=false:=by simp[h1]
 rw[if_neg (by simp[h1])];obtain⟨lin,ser,ins,ps,os⟩:=st;simp only[Sf.St.A]at c2;dsimp only at hl⊢;have li:(ins.map Sf.Inst.cells).length=ins.length:=Zh _;have lp:(ps.map Sf.Pend.cells).length=ps.length:=Zh _;have w1:IntKind.i64.wrap ((ins.length:Int)+(ps.length:Int))=(ins.length:Int)+(ps.length:Int):=wrap64 (by omega) (by omega);by_cases h2:0<ins.length+ps.length
 ·have e2:(ins.length:Int)+(ps.length:Int)>0:=by omega
  rw[if_pos h2];refine go0 (ai hbL (ai hkL (ai hz (ai g1' g3)))) ?_;refine gc0 (ai hbL (ai hkL (ai hz (ai g1' g3)))) ?_;refine c1.mono ?_;rintro v h' ⟨rfl,rfl⟩;refine go0 e1 ?_;refine gc0 e1 ?_;refine c2.mono ?_;rintro v h' ⟨rfl,rfl⟩;refine go0 (ai li (ai lp (ai w1 e2))) ?_;exact⟨_,le_refl _,rfl,rfl,fun _=>ey _,fun e=>by cases e⟩
 ·have e2:¬(ins.length:Int)+(ps.length:Int)>0:=by omega
  rw[if_neg h2];have w2:IntKind.i64.wrap ((q:Int)+1)=((q+1:Nat):Int):=by rw[wrap64 (by omega) (by omega)];omega
  obtain⟨B1,hB1⟩:=Ex (B++[.cells 42 [.str lin,.int .i64 ser,.sl 13 .no (ins.map Sf.Inst.cells),.sl 3 .no (ps.map Sf.Pend.cells),.sl 7 .no (os.map Sf.Outp.cells)]]);have sb:B1[B.length]?=some (.cells 42 [.str lin,.int .i64 ser,.sl 13 .no (ins.map Sf.Inst.cells),.sl 3 .no (ps.map Sf.Pend.cells),.sl 7 .no (os.map Sf.Outp.cells)]):=by rw[<-hB1];exact Zt
  have k1:B1[k]?=some (.row 78 F):=by rw[<-hB1];exact azc hkL _
  have s1:B1[i]?=some (.cells 72 [.str key,.bool true,.bs k 2 W.length]):=by rw[<-hB1];exact azc hbL _
  have cD:=djj (Gw:=GT) (h:=⟨B1,t⟩) k1 (by rw[<-hF];exact hrow) hlt (by rw[<-hF];exact bk4 W);have er:F.take (q*2)++F.drop ((q+1)*2)=rowW (W.take q++W.drop (q+1)):=by
   rw[axu,<-hF,(avd W q (Nat.le_of_lt hlt)).1,(avd W (q+1) hlt).2]
  rw[er]at cD;obtain⟨R,hR⟩:=Ex (rowW (W.take q++W.drop (q+1)));rw[hR]at cD;obtain⟨B2,hB2⟩:=Ex (B1.set k (.row 78 R));simp only[hB2]at cD;obtain⟨hki,hne⟩:=w.row_ne hk0;have s2:B2[i]?=some (.cells 72 [.str key,.bool true,.bs k 2 W.length]):=by rw[<-hB2];exact(azt hki).trans s1
  have lW:(W.take q++W.drop (q+1)).length=W.length-1:=by rw[Za,Zk,ZC];omega
  have sub:(W.take q++W.drop (q+1)).Sublist W:=by
   have:=List.Sublist.append (List.Sublist.refl (W.take q)) (List.drop_sublist_drop_left W (Nat.le_succ q))
   rwa [Yo]at this
  have hold:∀j x,j≠i->j≠k->b[j]?=some x->(B2.set i (setC key (.bs k 2 (W.length-1))))[j]?=some x:=fun j x h1 h2 hj=>(azt (Ne.symm h1)).trans (by rw[<-hB2];exact(azt (Ne.symm h2)).trans (by rw[<-hB1];exact azc (hb0 j x hj) _))
  have f0:Gone b (B2.set i (setC key (.bs k 2 (W.length-1)))) i key W q:=by
   refine⟨⟨.bs k 2 (W.length-1),⟨axz s2,?_,fun e he=>?_,w.ps.sublist (sub.map _),w.ms.sublist (sub.map _),List.Pairwise.sublist sub w.srt,by omega⟩⟩,fun j T l hj hbj=>hold j _ hj (fun ee=>by rw[ee,hk0]at hbj;cases hbj) hbj,?_⟩
   ·rw[<-lW];refine .row ?_;rw[hR,lW];exact(azt (Ne.symm hki)).trans (by rw[<-hB2];exact axz k1)
   ·have he:=sub.mem he;obtain⟨n1,n2,n3,n4⟩:=hne e he;obtain⟨h1,h2⟩:=w.ent e he;exact⟨hold _ _ n1 n3 h1,hold _ _ n2 n4 h2⟩
   ·rw[ZA,<-hB2,ZA,<-hB1,Za];omega
  unfold setC at f0;clear hold hb0;refine go0 (ai hbL (ai hkL (ai hz (ai g1' g3)))) ?_;refine gc0 (ai hbL (ai hkL (ai hz (ai g1' g3)))) ?_;refine c1.mono ?_;rintro v h' ⟨rfl,rfl⟩;refine go0 e1 ?_;refine gc0 e1 ?_;refine c2.mono ?_;rintro v h' ⟨rfl,rfl⟩;refine go0 (ai li (ai lp (ai w1 (ai e2 (ai hB1 (ai sb (ai s1 w2))))))) ?_;refine gc0 (ai li (ai lp (ai w1 (ai e2 (ai hB1 (ai sb (ai s1 w2))))))) ?_;refine cD.mono ?_;rintro v h' ⟨rfl,rfl⟩;refine go0 s2 ?_;exact⟨_,le_refl _,rfl,rfl,fun e=>absurd rfl e,fun _=>f0⟩
end
end AX
end
section
open Go.RowKit
namespace AX
def Grw(lo W:Nat)(T:TypeId)(L:List Blk)(rows:List (List A))(v:A):Prop:=(rows=[]/\v=.sl 0 .nil [])\/∃k,v=.bs (lo+k) W rows.length/\L[k]?=some (.row T rows.flatten)
def LocL(L:List Blk):Prop:=∀b∈L,b.loc 0\/b=.gone
theorem aqw{rows:List (List A)}{W:Nat}(hW:∀r∈rows,r.length=W):rows.flatten.length=rows.length*W:=by
 induction rows with
 |nil=>simp
 |cons r rows ih=>
  rw[ZP,Za,Zf,YB,ih fun r hr=>hW r (ZV _ hr),hW r Yq];omega
theorem cvu{x:A}(h:x.data=true):x.loc 0=true:=by
 cases x with
 |sl W o rows=>cases o<;>first|(unfold A.loc;rfl)|(simp[A.data]at h)
 |_=>first|(unfold A.loc;rfl)|(simp[A.data]at h)
theorem aj7:∀{l:List A},l.all A.data=true->A.locL 0 l=true:=fun {l}=>by
 induction l with
 |nil=>intro _;unfold A.locL;rfl
 |cons x l ih=>
  intro h;rw[ZK,Zg]at h;unfold A.locL;rw[cvu h.1,ih h.2];rfl
theorem Grw.grow{lo W:Nat}{T:TypeId}{L:List Blk}{rows:List (List A)}{v:A}(hg:Grw lo W T L rows v)(hl:LocL L)(bytes:Nat)(x:List A)(hx:x.length=W)(hd:x.all A.data=true)(hW:∀r∈rows,r.length=W)(hrd:rows.flatten.all A.data=true)(hn:rows.length+1<=100000000)(hb:bytes<=1000):
  ∃(i n:Nat) (F:Blk->List Blk),(∀(p:List Blk) e,p.length=lo->appB ⟨p++(L++[e]),[]⟩ T W bytes v (.sl W .no [x])=some (.bs i W n,⟨p++F e,[]⟩))/\(∀e,Grw lo W T (F e) (rows++[x]) (.bs i W n))/\∀e:Blk,e.loc 0->LocL (F e):=by
 have hmul:(rows.length+1)*bytes<=140737488355328:=by
  have:=Nat.mul_le_mul hn hb;omega
 have hml:rows.length+1<=maxLen:=by unfold maxLen;omega
 have hrow:∀l:List A,l.all A.data=true->(Blk.row T l).loc 0:=fun l h=>aj7 h
 rcases hg with⟨rfl,rfl⟩|⟨k,rfl,hk⟩
 ·refine⟨lo+(L.length+1),1,fun e=>L++[e]++[.row T x],fun p e hp=>?_,fun e=> .inr ⟨L.length+1,rfl,?_⟩,fun e he y hy=>?_⟩
  ·simp only[appB,rowC,if_true,Zf,Zo,ZP,List.flatten_nil,Zz,Za,hp];rw[if_pos (by omega),if_pos ⟨by unfold maxLen;omega,by simp only[Zo]at hmul;omega⟩,Zi]
  ·rw[List.getElem?_append_right (by simp)];simp
  ·rcases Yk.1 hy with hy|hy
   ·rcases Yk.1 hy with hy|hy
    ·exact hl y hy
    ·exact .inl (by rw[ZJ.1 hy];exact he)
   ·exact .inl (by rw[ZJ.1 hy];exact hrow _ hd)
 ·have hlt:k<L.length:=(Zb.1 hk).1;have hfl:=aqw hW;refine⟨lo+(L.length+1),rows.length+1,fun e=>(L.set k .gone)++[e]++[.row T (rows++[x]).flatten],fun p e hp=>?_,fun e=> .inr ⟨L.length+1,by rw[Za];rfl,?_⟩,fun e he y hy=>?_⟩
  ·have hget:(p++(L++[e]))[lo+k]?=some (.row T rows.flatten):=by
    rw[List.getElem?_append_right (by omega),hp,show lo+k-lo=k by omega,ZF hlt];exact hk
   have hset:(p++(L++[e])).set (lo+k) .gone=p++(L.set k .gone++[e]):=by
    rw[List.set_append_right _ _ (by omega),hp,show lo+k-lo=k by omega,List.set_append_left k Blk.gone hlt]
   simp only[appB,rowC,if_true,Zf,Zo,ZP,List.flatten_nil,Zz,Za,hget,hset,hp];rw[if_pos (by omega),if_pos ⟨trivial,by simpa using hml,by simpa using hmul⟩,if_pos ⟨trivial,by omega⟩,Zy (by omega)];simp only[List.flatten_append,ZP,List.flatten_nil,Zz];rw[Zi]
  ·rw[List.getElem?_append_right (by simp)];simp
  ·rcases Yk.1 hy with hy|hy
   ·rcases Yk.1 hy with hy|hy
    ·rcases List.mem_or_eq_of_mem_set hy with hy|hy
     ·exact hl y hy
     ·exact .inr hy
    ·exact .inl (by rw[ZJ.1 hy];exact he)
   ·have hfd:(rows++[x]).flatten.all A.data=true:=by
     rw[List.flatten_append,List.all_append,Zg];exact⟨hrd,by simpa using hd⟩
    exact .inl (by rw[ZJ.1 hy];exact hrow _ hfd)
end AX
theorem byl(b off n c:Nat)(news:List Value)(w:World)(hl:news.length=n*1)(hn:0<n)(hbig:n*16<=140737488355328)(hmax:n<=maxLen)(hc:∀j v,news[j]?=some v->w.cell? ((⟨b,off,none⟩:Addr).add j)=some v)(h1:∀u∈news,u.oneCell'=true):
  Calls Tryz.prog 99 #[.slice (some ⟨b,off,none⟩) n c] w fun e w'=>∃v',e=.returned v'/\w'.ownsRow w.heap.size 9 1 v' n news/\Below w.heap.size w w':=by
 obtain⟨i0,hi,hz0,hz1,hz2⟩:=info_parts (show(Tryz.prog.info? 9).map (fun i=>(i.zero,i.size,i.bytes))=some (some (.string ⟨#[]⟩),1,16) by kernel_rfl);have q22:∀(w:World) (a:Option Addr) (n c n' c':Nat),(binOp .eql 34 (.slice a n c) (.slice none n' c')).run Tryz.prog w=.ok (.bool a.isNone) w:=fun w a n c n' c'=>Lib.run_eql_slice_nil w _ _ a n c n' c' Tryz.underlying34
 have u22:∀w,Sem.run Tryz.prog (underlying 34) w=.ok (TypeDesc.slice 9) w:=run_underlying Tryz.underlying34;have HC:=kept hc;have H1:=kept h1;clear hc h1;go_enter Tryz.func99,Tryz.ntmps99;go_wp2_with (at_builtin;refine wpList_append_own _ rfl _ _ 34 rfl w.heap.size 9 i0 (.string ⟨#[]⟩) 1 16 Tryz.underlying34 hi hz0 hz1 hz2 rfl (by decide) _ _ _ rfl (World.ownsRow_made w #[] 0 (Ze _) (ZB _) rfl) ⟨b,off,none⟩ n c news rfl ?qc1 ?qc2 ?qc3 ?qc4 ?qc5 ?qc6 ?_)
 case qc1=>exact hl
 case qc2=>
  intro j u hj;have:=HC.out j u hj;rw[Addr.add_lit]at this⊢;exact Lib.cell?_alloc_some _ this
 case qc3=>exact H1.out
 case qc4=>omega
 case qc5=>omega
 case qc6=>simp
 intro v' w1 hown hgrow hnil;have Hb:=kept (((Below.refl _ w).alloc (Ze _) (.cells #[] 9)).grown hgrow (by simp) (by intro k hk;simp[Value.ownBlock]at hk;omega));have Ho:=kept (show w1.ownsRow w.heap.size 9 1 v' n news by simpa using hown);clear hown hgrow hnil HC H1;go_wp2
 go_ret
 exact⟨v',rfl,Ho.out,Hb.out⟩
theorem bve(a:Option Addr)(c:Nat)(w:World):
  Calls Tryz.prog 99 #[.slice a 0 c] w fun e w'=>(∃a' c',e=.returned (.slice a' 0 c'))/\Below w.heap.size w w':=by
 have q22:∀(w:World) (a:Option Addr) (n c n' c':Nat),(binOp .eql 34 (.slice a n c) (.slice none n' c')).run Tryz.prog w=.ok (.bool a.isNone) w:=fun w a n c n' c'=>Lib.run_eql_slice_nil w _ _ a n c n' c' Tryz.underlying34
 have u22:∀w,Sem.run Tryz.prog (underlying 34) w=.ok (TypeDesc.slice 9) w:=run_underlying Tryz.underlying34;cases a with
 |none=>
  go_enter Tryz.func99,Tryz.ntmps99;go_wp2
  go_ret
  exact⟨⟨_,_,rfl⟩,Below.refl _ _⟩
 |some ad=>
  obtain⟨i0,hi,hz0,hz1,hz2⟩:=info_parts (show(Tryz.prog.info? 9).map (fun i=>(i.zero,i.size,i.bytes))=some (some (.string ⟨#[]⟩),1,16) by kernel_rfl);go_enter Tryz.func99,Tryz.ntmps99;go_wp2_with (at_builtin;refine wpList_append_own _ rfl _ _ 34 rfl w.heap.size 9 i0 (.string ⟨#[]⟩) 1 16 Tryz.underlying34 hi hz0 hz1 hz2 rfl (by decide) _ _ _ rfl (World.ownsRow_made w #[] 0 (Ze _) (ZB _) rfl) ad 0 c [] rfl rfl (by intro j u hj;simp at hj) (by intro u hu;cases hu) (by unfold maxLen;omega) (by omega) (by simp) ?_);intro v' w1 hown hgrow hnil;have Hb:=kept (((Below.refl _ w).alloc (Ze _) (.cells #[] 9)).grown hgrow (by simp) (by intro k hk;simp[Value.ownBlock]at hk;omega));have Hv:∃a' c',v'=.slice a' 0 c':=by
   rcases hown.2 with⟨rfl,_⟩|⟨g,cap,cur,rfl,_⟩
   ·exact⟨_,_,rfl⟩
   ·exact⟨_,_,rfl⟩
  obtain⟨a',c',rfl⟩:=Hv;clear hown hgrow hnil;go_wp2
  go_ret
  exact⟨⟨_,_,rfl⟩,Hb.out⟩
namespace AX
theorem bz2(W0:Nat)(o:Own)(h:Hp):AT 99 [.sl W0 o []] h (.sl 1 .no []):=by
 intro C es hI ha;obtain⟨c,es',rfl,h1,h2⟩:=repL_cons.1 ha;rw[azp]at h2;subst h2;obtain⟨a,cap,rfl,_,_,_⟩:=rep_sl.1 h1;refine(bve a cap C.w).mono ?_;rintro e w' ⟨⟨a',c',rfl⟩,hb⟩;obtain⟨i1,s1⟩:=aq8 hI hb;exact⟨C.at w',h,.sl 1 .no [],_,rfl,rfl,i1,s1,rep_sl.2 ⟨a',c',rfl,ZB _,by unfold RepRows;trivial,trivial⟩,rfl,rfl⟩
theorem ake(o:Own)(rows:List (List A))(h0:rows≠[])(hbig:rows.length*16<=140737488355328)(hmax:rows.length<=maxLen)(h:Hp):
  AC 99 [.sl 1 o rows] h fun v h'=>v=.bs h.b.length 1 rows.length/\h'=⟨h.b++[.row 9 rows.flatten],h.t⟩:=by
 intro C es hI ha;obtain⟨c,es',rfl,h1,h2⟩:=repL_cons.1 ha;rw[azp]at h2;subst h2;have hpos:0<rows.length:=YA.2 h0;obtain⟨g,off,cap,cs,rfl,k1,k2,k3,k4,k5⟩:=awe h1 hpos;refine(byl g off rows.length cap cs C.w k2 hpos hbig hmax k5 (aqo k1 (aj6 k3))).mono ?_;rintro e w' ⟨v',rfl,hown,hb⟩;rcases hown.2 with⟨_,hz⟩|⟨g',cap',cur,rfl,hg,hh,hcap,hcm,hcs,htake⟩
 ·omega
 ·have hcur:cur=(cs++cur.toList.drop (rows.length*1)).toArray:=by
   apply Ya.1;rw[<-htake];simp
  rw[hcur]at hh;obtain⟨C',m1,m2,m3,m4,m5,m6⟩:=ajd hI hb hg hh k1;exact⟨C',_,.bs h.b.length 1 rows.length,_,rfl,m1,m2,m3,rep_bs.2 ⟨cap',by rw[m4],hcap,m5,hcm,by rw[m6,<-hcs];exact Nat.le_of_eq (congrArg Array.size hcur)⟩,rfl,rfl⟩
end AX
namespace AX
end AX
namespace AX
theorem ckm(ks:List (List UInt8))(hn:ks.length<=1000000000)(h:Hp):AT 99 [.sl 1 .no (strsA ks)] h (.sl 1 .no (strsA ks)):=by
 cases ks with
 |nil=>exact bz2 _ _ h
 |cons k l=>
  have hl:(strsA (k::l)).length=(k::l).length:=azd _;refine pcallv (ACall.mono (ake .no (strsA (k::l)) (by simp[strsA]) (by rw[hl];omega) (by rw[hl];unfold maxLen;omega) ⟨[],[]⟩) ?_) (by simp[A.pure,A.data]) h;rintro v h' ⟨rfl,rfl⟩;refine .one (.inr ⟨0,1,_,strsA (k::l),rfl,rfl,rfl,fun r hr=>?_,?_⟩)
  ·obtain⟨s,_,rfl⟩:=ZW.1 hr;rfl
  ·rw[ZD];intro x hx;obtain⟨r,hr,hx⟩:=List.mem_flatten.1 hx;obtain⟨s,_,rfl⟩:=ZW.1 hr;rw[ZJ.1 hx];rfl
end AX
theorem ayo(w:World):Calls Tryz.prog 99 #[.slice none 0 0] w fun e w'=>e=.returned (.slice none 0 0)/\Below w.heap.size w w':=by
 have q22:∀(w:World) (a:Option Addr) (n c n' c':Nat),(binOp .eql 34 (.slice a n c) (.slice none n' c')).run Tryz.prog w=.ok (.bool a.isNone) w:=fun w a n c n' c'=>Lib.run_eql_slice_nil w _ _ a n c n' c' Tryz.underlying34
 have u22:∀w,Sem.run Tryz.prog (underlying 34) w=.ok (TypeDesc.slice 9) w:=run_underlying Tryz.underlying34;go_enter Tryz.func99,Tryz.ntmps99;go_wp2
 go_ret
 exact⟨rfl,Below.refl _ _⟩
theorem AX.a_clone_strs_nil(W:Nat)(h:AX.Hp):AX.AT 99 [.sl W .nil []] h (.sl 0 .nil []):=by
 intro C es hI ha;obtain⟨c,es',rfl,h1,h2⟩:=AX.repL_cons.1 ha;rw[AX.azp]at h2;subst h2;obtain⟨a,cap,rfl,_,_,hn⟩:=AX.rep_sl.1 h1;obtain⟨rfl,rfl,_⟩:=hn;refine(ayo C.w).mono ?_;rintro e w' ⟨rfl,hb⟩;obtain⟨i1,s1⟩:=AX.aq8 hI hb;exact⟨C.at w',h,.sl 0 .nil [],_,rfl,rfl,i1,s1,AX.rep_sl.2 ⟨none,0,rfl,Ze _,by unfold AX.RepRows;trivial,rfl,rfl,rfl⟩,rfl,rfl⟩
end
section
mutual
def V.few:V->Prop
 |.mk k n s is ks=>is.length<=2000000/\ks.length<=2000000/\V.fews is
def V.fews:List V->Prop
 |[]=>True
 |v::l=>v.few/\V.fews l
end
theorem V.fews_mem:∀{l:List V},V.fews l->∀x∈l,x.few
 |[],_=>by simp
 |v::l,h=>by
  unfold V.fews at h;exact Y7.2 ⟨h.1,V.fews_mem h.2⟩
end
section
open Go.RowKit
namespace AX
theorem az6{α:Type}(f:α->List A)(l:List α)(i:Nat)(h:i<l.length)(hl:l.length<=4611686018427387904):
  (l.map f).length=l.length/\(i:Int)<(l.length:Int)/\(0:Int)<=(i:Int)/\(l.map f).getD i []=f l[i]/\IntKind.i64.wrap ((i:Int)+1)=((i+1:Nat):Int):=
 ⟨Zh _,by omega,by omega,by simp[List.getD,h],by rw[wrap64 (by omega) (by omega)];omega⟩
theorem aqk{α:Type}(f:α->List A)(l:List α)(i:Nat)(h:l.length<=i):(l.map f).length=l.length/\¬(i:Int)<(l.length:Int):=⟨Zh _,by omega⟩
def aq4:AX.AFn:=⟨12,aS [aR 1 (.box 51 (.t 0)),aR 2 (.alloc 51 [.int .i64 0,.int .i64 0,.str [],.sl 0 .nil [],.sl 0 .nil []])] (aS [aF 3 4 1,aL 4 3,aR 5 (.call 99 [.t 4]),aF 6 4 1,aU (.store 1 (.t 6) (.t 5))] (aS [aF 7 3 1,aL 8 7,aR 9 (.call 100 [.t 8]),aF 10 3 1,aU (.store 1 (.t 10) (.t 9))] (aS [aR 11 (.load true 5 (.t 1)),aU (.store 5 (.t 2) (.t 11))] (.ret)))),[.c 2 true 5]⟩
theorem awz:AX.compFn Tryz.prog 66=some aq4:=by kernel_rfl
def aw6:AX.AFn:=⟨17,aS [aR 4 (.mv (.c (.bool false)))] (aS [aM 5 0,aR 6 (.call 137 [.t 5]),aM 7 6,aG 8 (.mv (.t 1)) 7 true,aG 9 (.call 137 [.t 8]) 7 true,aG 10 (.un .not (.t 9)) 7 true,aR 11 (.pick (.t 7) (.t 10) (.c (.bool false))),aM 12 11,aG 13 (.mv (.t 0)) 12 false,aG 14 (.mv (.t 1)) 12 false,aG 15 (.bin .lss (.t 13) (.t 14)) 12 false,aR 16 (.pick (.t 12) (.c (.bool true)) (.t 15)),aM 4 16] (.ret)),[.t 4]⟩
theorem cji:AX.compFn Tryz.prog 101=some aw6:=by kernel_rfl
def bxb:AX.AFn:=⟨6,aS [aR 2 (.mv (.c (.bool false)))] (aS [aM 3 0,aM 4 0,aR 5 (.bin .neq (.t 3) (.t 4)),aM 2 5] (.ret)),[.t 2]⟩
theorem cv4:AX.compFn Tryz.prog 137=some bxb:=by kernel_rfl
noncomputable def avi:AX.AFn:=⟨95,aS [aR 6 (.mv (.c (.sl 0 .nil [])))] (aS [aM 10 0,aM 11 1,aR 12 (.slsl 1 (.t 10) (some (.t 11)) none)] (aS [aM 13 2,aR 14 (.len false (.t 13)),aM 7 14] (.seq (aS [aM 15 7,aR 16 (.bin .eql (.t 15) (aI 0))] (.cond (.t 16) (aS [aM 17 0,aM 6 17] (.ret)) (.skip))) (aS [aM 18 0,aR 19 (.len false (.t 18)),aM 8 19] (.seq (aS [aM 20 1,aM 21 8,aR 22 (.bin .eql (.t 20) (.t 21))] (.cond (.t 22) (aS [aM 23 0,aM 24 2,aR 25 (.apb 9 1 16 (.t 23) (.t 24)),aM 6 25] (.ret)) (.skip))) (.seq (.seq (.prim 95 (AX.rg Tryz.prog 68 0)) (.cond (.t 31) (.seq (.prim 95 (AX.rg Tryz.prog 68 1)) (.seq (.prim 95 (AX.rg Tryz.prog 68 2)) (.seq (.prim 95 (AX.rg Tryz.prog 68 3)) (aS [aM 55 9,aM 6 55] (.ret))))) (.skip))) (aS [aM 56 0,aM 57 8,aM 58 7,aR 59 (.bin .add (.t 57) (.t 58)),aR 60 (.slsl 1 (.t 56) none (some (.t 59))),aM 0 60] (.seq (.seq (.prim 95 (AX.rg Tryz.prog 68 4)) (.cond (.t 68) (.seq (.prim 95 (AX.rg Tryz.prog 68 5)) (.seq (.prim 95 (AX.rg Tryz.prog 68 6)) (aS [aM 83 0,aM 6 83] (.ret)))) (.skip))) (.seq (.prim 95 (AX.rg Tryz.prog 68 7)) (aS [aM 89 0,aM 90 1,aR 91 (.slsl 1 (.t 89) (some (.t 90)) none),aM 92 7,aR 93 (.call 104 [.t 91,.t 92])] (aS [aM 94 0,aM 6 94] (.ret)))))))))))),[.t 6]⟩
theorem bwc:AX.compFn Tryz.prog 68=some avi:=by kernel_rfl
noncomputable def avf:AX.AFn:=⟨95,aS [aR 6 (.mv (.c (.sl 0 .nil [])))] (aS [aM 10 0,aM 11 1,aR 12 (.slsl 5 (.t 10) (some (.t 11)) none)] (aS [aM 13 2,aR 14 (.len false (.t 13)),aM 7 14] (.seq (aS [aM 15 7,aR 16 (.bin .eql (.t 15) (aI 0))] (.cond (.t 16) (aS [aM 17 0,aM 6 17] (.ret)) (.skip))) (aS [aM 18 0,aR 19 (.len false (.t 18)),aM 8 19] (.seq (aS [aM 20 1,aM 21 8,aR 22 (.bin .eql (.t 20) (.t 21))] (.cond (.t 22) (aS [aM 23 0,aM 24 2,aR 25 (.apb 51 5 80 (.t 23) (.t 24)),aM 6 25] (.ret)) (.skip))) (.seq (.seq (.prim 95 (AX.rg Tryz.prog 69 0)) (.cond (.t 31) (.seq (.prim 95 (AX.rg Tryz.prog 69 1)) (.seq (.prim 95 (AX.rg Tryz.prog 69 2)) (.seq (.prim 95 (AX.rg Tryz.prog 69 3)) (aS [aM 55 9,aM 6 55] (.ret))))) (.skip))) (aS [aM 56 0,aM 57 8,aM 58 7,aR 59 (.bin .add (.t 57) (.t 58)),aR 60 (.slsl 5 (.t 56) none (some (.t 59))),aM 0 60] (.seq (.seq (.prim 95 (AX.rg Tryz.prog 69 4)) (.cond (.t 68) (.seq (.prim 95 (AX.rg Tryz.prog 69 5)) (.seq (.prim 95 (AX.rg Tryz.prog 69 6)) (aS [aM 83 0,aM 6 83] (.ret)))) (.skip))) (.seq (.prim 95 (AX.rg Tryz.prog 69 7)) (aS [aM 89 0,aM 90 1,aR 91 (.slsl 5 (.t 89) (some (.t 90)) none),aM 92 7,aR 93 (.call 106 [.t 91,.t 92])] (aS [aM 94 0,aM 6 94] (.ret)))))))))))),[.t 6]⟩
theorem bw4:AX.compFn Tryz.prog 69=some avf:=by kernel_rfl
theorem V.cellsD(v:V):v.cells.all A.data=true:=by obtain⟨k,n,s,is,ks⟩:=v;simp[V.cells,A.data]
theorem V.cells_len5(v:V):v.cells.length=5:=by obtain⟨k,n,s,is,ks⟩:=v;simp[V.cells]
theorem axm(l:List V):(∀r∈V.cellss l,r.length=5)/\(V.cellss l).flatten.all A.data=true:=by
 rw[V.cellss_map];refine⟨fun r hr=>by obtain⟨y,_,rfl⟩:=ZW.1 hr;exact V.cells_len5 y,?_⟩;rw[ZD];intro x hx;obtain⟨r,hr,hx⟩:=List.mem_flatten.1 hx;obtain⟨y,_,rfl⟩:=ZW.1 hr;exact ZD.1 (V.cellsD y) x hx
theorem ajk(l:List (List UInt8)):(∀r∈strsA l,r.length=1)/\(strsA l).flatten.all A.data=true/\∀i (h:i<l.length),((strsA l).flatten.drop i).take 1=[.str l[i]]:=by
 refine⟨fun r hr=>by obtain⟨y,_,rfl⟩:=ZW.1 hr;rfl,?_,?_⟩
 ·rw[ZD];intro x hx;obtain⟨r,hr,hx⟩:=List.mem_flatten.1 hx;obtain⟨y,_,rfl⟩:=ZW.1 hr;rw[ZJ.1 hx];rfl
 ·induction l with
  |nil=>intro i h;cases h
  |cons s l ih=>
   intro i h;cases i with
   |zero=>rfl
   |succ i=>exact ih i (by simpa using h)
theorem bxy(l:List (List UInt8)):(strsA l).flatten.length=l.length:=by
 rw[aqw (ajk l).1,azd,Nat.mul_one]
theorem bxu(l:List V)(hn:l.length<=2000000)(ih:∀v∈l,∀h,AT 66 [v.A] h (v.A)):
  AC 100 [.sl 5 .no (V.cellss l)] ⟨[],[]⟩ fun v h'=>∃L,h'=⟨L,[]⟩/\Grw 0 5 51 L (V.cellss l) v/\LocL L:=by
 rw[V.cellss_map];have li:(l.map V.cells).length=l.length:=Zh _;refine fo ?_;by_cases h0:l.length=0
 ·obtain rfl:=YL.1 h0;have z0:(((0:Nat):Int)==0)=true:=rfl;refine azj z0 ti ?_;exact⟨_,le_refl _,[],rfl,.inl ⟨rfl,rfl⟩,fun b hb=>by cases hb⟩
 have z1:((l.length:Int)==0)=false:=by rw[Zs];omega
 have z2:(0:Int)<=(l.length:Int):=by omega
 have z3:(l.length:Int)<=1000000000000:=by omega
 have z4:(l.length:Int)*((80:Nat):Int)<=140737488355328:=by omega
 have z5:zrows 0 [.int .i64 0,.int .i64 0,.str [],.sl 0 .nil [],.sl 0 .nil []]=[]:=rfl;refine azj (ai li (ai z1 (ai z2 (ai z3 (ai z4 z5))))) ti ?_
 refine azg (fun m ts hh=>∃(j:Nat) (L:List Blk) (i n:Nat),m=l.length-j/\j<=l.length/\hh=⟨L,[]⟩/\Grw 0 5 51 L ((l.take j).map V.cells) (.bs i 5 n)/\LocL L /\
  (ts 3=.bs i 5 n/\ts 12=.sl 5 .no (l.map V.cells)/\ts 13=.int .i64 (l.length:Nat)/\ts 14=.int .i64 (j:Nat))) l.length ?_ ?_
 ·exact⟨0,_,0,0,rfl,ZB _,rfl,.inr ⟨0,rfl,rfl⟩,fun b hb=> .inl (by rw[ZJ.1 hb];show A.locL 0 []=true;unfold A.locL;rfl),by(exact azv li)⟩
 clear z1 z2 z3 z4 z5;rintro m ts hh ⟨j,L,i,n,rfl,hj,rfl,hg,hL,ht⟩;rcases Z0 j l.length with hlt|hge
 ·have hf:=az6 V.cells l j hlt (by omega);have em:(l.take j).map V.cells++[V.cells l[j]]=(l.take (j+1)).map V.cells:=by
   have e:l.take (j+1)=l.take j++[l[j]]:=(List.take_append_getElem hlt).symm;rw[e,Z6];rfl
  obtain⟨i',n',F,hX,gX,hL'⟩:=hg.grow hL 80 (V.cells l[j]) (V.cells_len5 _) (V.cellsD _) (fun r hr=>by obtain⟨y,_,rfl⟩:=ZW.1 hr;exact V.cells_len5 y) (by have:=(axm (l.take j)).2;rwa [V.cellss_map]at this) (by rw[Zh,Zk];omega) (by decide);rw[em]at gX;have cx:=ih _ (Zl hlt);have gX':=gX (.cells 51 (V.cells l[j]));have hL2:=hL' (.cells 51 (V.cells l[j])) (aj7 (V.cellsD _));have hX':=hX [] (.cells 51 (V.cells l[j])) rfl;simp only[Zq]at hX';clear hX gX hL' em ih;obtain⟨v,hv⟩:=Ex (l[j]);rw[hv]at hf cx hX' hL2;rw[hv]at gX';obtain⟨F2,hF2⟩:=Ex (F (.cells 51 v.cells));rw[hF2]at hX' hL2 gX';clear hF2 hv;obtain⟨k,nn,ss,is,ks⟩:=v;rw[V_A]at cx;simp only[V.cells]at hf cx hX';refine azj (ai ht (ai hf hX')) (ai cx ti) ?_;exact⟨_,by omega,j+1,F2,i',n',rfl,by omega,rfl,gX',hL2,by(exact azv (ai ht hf))⟩
 have hf:=aqk V.cells l j hge;rw[Zy hge]at hg;refine azj (ai ht hf) ti ?_;exact⟨_,le_refl _,L,rfl,hg,hL⟩
theorem LocL.ren{L:List Blk}(h:LocL L)(σ:Nat->Nat):L.map (Blk.ren σ)=L:=by
 conv=>rhs;rw[<-List.map_id L]
 refine List.map_congr_left fun b hb=>?_
 rcases h b hb with h|rfl
 ·exact(Blk.loc0 0 b h).2 σ
 ·rfl
theorem cz2(l:List V)(hn:l.length<=2000000)(ih:∀v∈l,∀h,AT 66 [v.A] h (v.A))(h:Hp):
  AC 100 [.sl 5 .no (V.cellss l)] h fun v h'=>∃L,h'=⟨h.b++L,h.t⟩/\Grw h.b.length 5 51 L (V.cellss l) v/\LocL L:=by
 refine(ACall.fresh (bxu l hn ih) ?_ (by simp[A.pure,A.data]) h).mono ?_
 ·rintro v h' ⟨L,rfl,hg,hL⟩;refine⟨?_,fun b hb=>(hL b hb).imp (fun h=>(Blk.loc0 _ b h).1) id⟩;rcases hg with⟨_,rfl⟩|⟨k,rfl,hk⟩
  ·unfold A.loc;rfl
  ·have:=(Zb.1 hk).1;unfold A.loc;simp;omega
 ·rintro v h' ⟨v0,⟨b0,t0⟩,⟨L,e,hg,hL⟩,rfl,rfl⟩;injection e with e1 e2;subst e1;refine⟨b0,by rw[hL.ren],?_,hL⟩;rcases hg with⟨h1,rfl⟩|⟨k,rfl,hk⟩
  ·exact .inl ⟨h1,by unfold A.ren;rfl⟩
  ·exact .inr ⟨k,by rw[Yj];unfold A.ren;rfl,hk⟩
theorem cj6(l:List V)(hn:l.length<=2000000)(ih:∀v∈l,∀h,AT 66 [v.A] h (v.A))(h:Hp):
  AT 100 [.sl 5 .no (V.cellss l)] h (.sl 5 .no (V.cellss l)):=by
 by_cases h0:l=[]
 ·subst h0;refine pcall ?_ rfl (by simp[A.pure,A.data]) h;refine fo ?_;rw[show V.cellss []=[] by rw[V.cellss]];have z0:(((0:Nat):Int)==0)=true:=rfl;refine azj z0 ti ?_;exact⟨.sl 5 .no [],⟨rfl,.inr rfl,.inl rfl⟩,rfl⟩
 refine pcallv (ACall.mono (bxu l hn ih) ?_) (by simp[A.pure,A.data]) h;rintro v h' ⟨L,rfl,hg,_⟩;obtain⟨hW,hd⟩:=axm l;rcases hg with⟨h1,_⟩|⟨k,rfl,hk⟩
 ·rw[V.cellss_map,List.map_eq_nil_iff]at h1;exact absurd h1 h0
 ·exact .one (.inr ⟨_,_,_,V.cellss l,rfl,by rw[Yj];exact hk,rfl,hW,hd⟩)
theorem ayi:∀v:V,v.few->∀h,AT 66 [v.A] h (v.A):=by
 refine V.induct ?_;intro k n s is ks ih hfew h;unfold V.few at hfew;obtain⟨hl1,hl2,hfs⟩:=hfew;have ck:=ckm ks (by omega);have cp:=cj6 is hl1 fun v hv=>ih v hv (V.fews_mem hfs v hv)
 have hVA:(V.mk k n s is ks).A=.agg [.int .i64 k,.int .i64 n,.str s,.sl 5 .no (V.cellss is),.sl 1 .no (strsA ks)]:=by simp only[V.A,V.cells]
 rw[hVA];refine pcall ?_ rfl (by simp[A.pure,A.data]) h;refine azf mixedT awz (by simp[aq4]) ?_;dsimp only[aq4];refine azj ti (ai ck (ai cp ti)) ?_;exact Fn rfl
theorem czn(k n:Int)(s:List UInt8)(is:List V)(ks:List (List UInt8))(hi:is≠[])(hk:ks≠[])(hf:(V.mk k n s is ks).few)(h:Hp):
  AC 66 [(V.mk k n s is ks).A] h fun v h'=>∃(L:List Blk) (i j:Nat),h'=⟨h.b++L,h.t⟩/\v=.agg [.int .i64 k,.int .i64 n,.str s,.bs i 5 is.length,.bs j 1 ks.length] /\
   (h.b++L)[i]?=some (.row 51 (V.cellss is).flatten)/\(h.b++L)[j]?=some (.row 9 (strsA ks).flatten)/\h.b.length<=i/\h.b.length<=j:=by
 unfold V.few at hf;obtain⟨hl1,hl2,hfs⟩:=hf;have lk:=azd ks;have li:=V.cellss_length is;have ck:=fun h=>ake .no (strsA ks) (by intro e;rw[e]at lk;exact hk (YL.1 lk.symm)) (by omega) (by unfold maxLen;omega) h
 have cp:=fun h=>cz2 is hl1 (fun v hv=>ayi v (V.fews_mem hfs v hv)) h
 have hVA:(V.mk k n s is ks).A=.agg [.int .i64 k,.int .i64 n,.str s,.sl 5 .no (V.cellss is),.sl 1 .no (strsA ks)]:=by simp only[V.A,V.cells]
 rw[hVA];have key:AC 66 [.agg [.int .i64 k,.int .i64 n,.str s,.sl 5 .no (V.cellss is),.sl 1 .no (strsA ks)]] ⟨[],[]⟩ fun v h'=>∃(b0 b1:Blk) (L:List Blk) (q:Nat),h'=⟨b0::b1 :: .row 9 (strsA ks).flatten::L,[]⟩/\v=.agg [.int .i64 k,.int .i64 n,.str s,.bs (3+q) 5 is.length,.bs 2 1 ks.length]/\L[q]?=some (.row 51 (V.cellss is).flatten)/\LocL L/\b0.loc (3+L.length)/\b1.loc (3+L.length):=by
  rw[lk]at ck;refine azf mixedT awz (by simp[aq4]) ?_;dsimp only[aq4];refine go0 ti ?_;refine gc0 ti ?_;refine(ck _).mono ?_;rintro v h' ⟨rfl,rfl⟩;refine go0 ti ?_;refine gc0 ti ?_;refine(cp _).mono ?_;rintro v h' ⟨L,rfl,hg,hL⟩;simp only[ZE,Zq,Zf,Zo];rcases hg with⟨h1,_⟩|⟨q,rfl,hq⟩
  ·rw[h1]at li;exact absurd (YL.1 li.symm) hi
  rw[li];refine go0 ti ?_;refine⟨_,le_refl _,_,_,L,q,rfl,rfl,hq,hL,?_,?_⟩
  ·have:=(Zb.1 hq).1;show A.locL _ _=true
   simp[A.locL,A.loc];omega
  ·have:=(Zb.1 hq).1;show A.locL _ _=true
   simp[A.locL,A.loc];omega
 refine(ACall.fresh key ?_ (by simp[A.pure,A.data]) h).mono ?_
 ·rintro v h' ⟨b0,b1,L,q,rfl,rfl,hq,hL,l0,l1⟩;have hq':=(Zb.1 hq).1;have hlen:(b0::b1::Blk.row 9 (strsA ks).flatten::L).length=3+L.length:=by simp only[Zf];omega
  dsimp only;rw[hlen];refine⟨by simp[A.loc,A.locL];omega,fun b hb=>?_⟩;rcases ZL.1 hb with rfl|hb
  ·exact .inl l0
  rcases ZL.1 hb with rfl|hb
  ·exact .inl l1
  rcases ZL.1 hb with rfl|hb
  ·exact .inl (Blk.loc0 _ (.row _ _) (aj7 (ajk ks).2.1)).1
  ·exact(hL b hb).imp (fun h=>(Blk.loc0 _ b h).1) id
 ·rintro v h' ⟨v0,⟨bb,tt⟩,⟨b0,b1,L,q,e,rfl,hq,hL,l0,l1⟩,rfl,rfl⟩;injection e with e1 e2;subst e1;have er:(Blk.row 9 (strsA ks).flatten).ren (fun i=>h.b.length+i)=.row 9 (strsA ks).flatten:=(Blk.loc0 0 (.row _ _) (aj7 (ajk ks).2.1)).2 _;simp only[ZM,hL.ren,er];refine⟨_,h.b.length+(3+q),h.b.length+2,rfl,by simp[A.ren,A.renL],?_,?_,by omega,by omega⟩
  ·rw[List.getElem?_append_right (by omega),show h.b.length+(3+q)-h.b.length=q+1+1+1 by omega];exact hq
  ·rw[List.getElem?_append_right (by omega),show h.b.length+2-h.b.length=2 by omega];rfl
end AX
end
section
open Go.RowKit
open Go.Op (bytesLess)
namespace AX
theorem cve(a:List UInt8)(h:Hp):AT 137 [.str a] h (.bool false):=by
 have e:(a !=a)=false:=by simp
 refine pcall ?_ rfl rfl h;refine azf mixedT cv4 (by simp[bxb]) ?_;dsimp only[bxb];refine azj e ti ?_;exact Fn rfl
theorem cjo(a b:List UInt8)(h:Hp):AT 101 [.str a,.str b] h (.bool (bytesLess a b)):=by
 have c:=cve;refine pcall ?_ rfl rfl h;refine azf mixedT cji (by simp[aw6]) ?_;dsimp only[aw6];refine azj ti (ai c ti) ?_;exact Fn rfl
section
variable {h:Hp}
theorem dq6{k:Nat}{ks:List (List UInt8)}(hk:h.b[k]?=some (.row 9 (strsA ks).flatten))(key:List UInt8)(hl:∀s∈ks,bytesLess s key=true)(hn:ks.length<=1000000):
  AT 67 [.bs k 1 ks.length,.str key] h (.tup [.int .i64 (ks.length:Nat),.bool false]):=by
 have cl:=fun a=>cjo a key
 have hrow:=(ajk ks).2.2;have hlen:=bxy ks;obtain⟨F,hF⟩:=Ex ((strsA ks).flatten);rw[hF]at hrow hlen hk;clear hF;refine fo ?_;refine azj ti ti ?_
 refine azg (fun m ts hh=>∃i:Nat,m=ks.length-i/\i<=ks.length/\hh=h /\
  (ts 0=.bs k 1 ks.length/\ts 1=.str key/\ts 6=.int .i64 (ks.length:Nat)/\ts 7=.int .i64 (i:Nat)/\ts 8=.int .i64 (ks.length:Nat))) ks.length ?_ ?_
 ·exact⟨0,rfl,ZB _,rfl,by(exact azv ti)⟩
 rintro m ts hh ⟨i,rfl,hil,rfl,ht⟩;rcases Z0 i ks.length with hlt|hge
 ·have hf:(i:Int)<(ks.length:Int):=by omega
  obtain⟨e1,e2,e3,e4,e5⟩:=bjd hlt (Ze _) hn;obtain⟨q,hq⟩:=Ex ((i+ks.length)/2);have hk1:i<=q/\q<ks.length:=by omega
  rw[hq]at e3 e4 e5;have hki:(q:Int)<(ks.length:Int):=by omega
  have g1:q+1<=F.length:=by omega
  have g2:=hrow q hk1.2;have hle:=hl _ (Zl hk1.2);obtain⟨x,hx⟩:=Ex (ks[q]);rw[hx]at g2 hle;have cx:=cl x;rw[hle]at cx;clear hx hrow hl cl;refine azj (ai ht (ai hf (ai e1 (ai e2 (ai e3 (ai e4 (ai e5 (ai g1 (ai g2 (ai hk (ai hki Nat.mul_one))))))))))) (ai cx ti) ?_;exact⟨_,by omega,q+1,rfl,by omega,rfl,by(exact azv (ai ht e5))⟩
 ·have hf:¬(i:Int)<(ks.length:Int):=by omega
  obtain rfl:i=ks.length:=by omega
  refine azj (ai ht hf) ti ?_;exact⟨_,le_refl _,rfl,rfl⟩
theorem cvf(key:List UInt8):AT 67 [.sl 0 .nil [],.str key] h (.tup [.int .i64 (0:Nat),.bool false]):=by
 have e0:¬(0:Int)<((0:Nat):Int):=by decide
 refine fo ?_;refine azj ti ti ?_;refine ajx ?_;refine azj e0 ti ?_;exact⟨_,le_refl _,rfl,rfl⟩
theorem cwy{k n:Nat}{F:List A}(hk:h.b[k]?=some (.row 9 F))(hF:F.length=n)(hn:n<=1000000)(key:List UInt8):
  AC 68 [.bs k 1 n,.int .i64 (n:Nat),.sl 1 .no [[.str key]]] h fun v h'=>v=.bs h.b.length 1 (n+1)/\h'=⟨h.b.set k .gone++[.row 9 (F++[.str key])],h.t⟩:=by
 have hX:appB h 9 1 16 (.bs k 1 n) (.sl 1 .no [[.str key]])=some (.bs h.b.length 1 (n+1),⟨h.b.set k .gone++[.row 9 (F++[.str key])],h.t⟩):=by
  simp only[appB,rowC,if_true,Zf,Zo,ZP,List.flatten_nil,Zz,hk];rw[if_pos (by omega),if_pos ⟨trivial,by unfold maxLen;omega,by omega⟩,if_pos ⟨trivial,by omega⟩,Zy (by omega)]
 have e1:(((1:Nat):Int)==0)=false:=rfl;have e2:((n:Int)==(n:Int))=true:=by simp
 have hS:sslA 1 (some (.int .i64 (n:Int))) none (.bs k 1 n)=some (.sl 1 .no []):=by simp[sslA]
 refine azf mixedT bwc (by simp[avi]) ?_;dsimp only[avi];refine azj (ai e1 (ai e2 (ai hS hX))) ti ?_;exact⟨_,le_refl _,rfl,rfl⟩
theorem cjp(key:List UInt8):
  AC 68 [.sl 0 .nil [],.int .i64 (0:Nat),.sl 1 .no [[.str key]]] h fun v h'=>v=.bs h.b.length 1 1/\h'=⟨h.b++[.row 9 [.str key]],h.t⟩:=by
 have hX:appB h 9 1 16 (.sl 0 .nil []) (.sl 1 .no [[.str key]])=some (.bs h.b.length 1 1,⟨h.b++[.row 9 [.str key]],h.t⟩):=by
  simp only[appB,rowC,if_true,Zf,Zo,ZP,List.flatten_nil,Zz];rw[if_pos (by omega),if_pos ⟨by unfold maxLen;omega,by omega⟩]
 have e1:(((1:Nat):Int)==0)=false:=rfl;have e2:(((0:Nat):Int)==((0:Nat):Int))=true:=rfl;have hS:sslA 1 (some (.int .i64 ((0:Nat):Int))) none (.sl 0 .nil [])=some (.sl 1 .no []):=by simp[sslA]
 refine azf mixedT bwc (by simp[avi]) ?_;dsimp only[avi];refine azj (ai e1 (ai e2 (ai hS hX))) ti ?_;exact⟨_,le_refl _,rfl,rfl⟩
theorem cvi{k n W0:Nat}{F x:List A}{o:Own}(hk:h.b[k]?=some (.row 51 F))(hF:F.length=n*5)(hn:n<=1000000):
  AC 69 [.bs k 5 n,.int .i64 (n:Nat),.sl 5 o [x]] h fun v h'=>v=.bs h.b.length 5 (n+1)/\h'=⟨h.b.set k .gone++[.row 51 (F++x)],h.t⟩:=by
 have hX:appB h 51 5 80 (.bs k 5 n) (.sl 5 o [x])=some (.bs h.b.length 5 (n+1),⟨h.b.set k .gone++[.row 51 (F++x)],h.t⟩):=by
  simp only[appB,rowC,if_true,Zf,Zo,ZP,List.flatten_nil,Zz,hk];rw[if_pos (by omega),if_pos ⟨trivial,by unfold maxLen;omega,by omega⟩,if_pos ⟨trivial,by omega⟩,Zy (by omega)]
 have e1:(((1:Nat):Int)==0)=false:=rfl;have e2:((n:Int)==(n:Int))=true:=by simp
 have hS:sslA 5 (some (.int .i64 (n:Int))) none (.bs k 5 n)=some (.sl 5 .no []):=by simp[sslA]
 refine azf mixedT bw4 (by simp[avf]) ?_;dsimp only[avf];refine azj (ai e1 (ai e2 (ai hS hX))) ti ?_;exact⟨_,le_refl _,rfl,rfl⟩
theorem cju{x:List A}{o:Own}:
  AC 69 [.sl 0 .nil [],.int .i64 (0:Nat),.sl 5 o [x]] h fun v h'=>v=.bs h.b.length 5 1/\h'=⟨h.b++[.row 51 x],h.t⟩:=by
 have hX:appB h 51 5 80 (.sl 0 .nil []) (.sl 5 o [x])=some (.bs h.b.length 5 1,⟨h.b++[.row 51 x],h.t⟩):=by
  simp only[appB,rowC,if_true,Zf,Zo,ZP,List.flatten_nil,Zz];rw[if_pos (by omega),if_pos ⟨by unfold maxLen;omega,by omega⟩]
 have e1:(((1:Nat):Int)==0)=false:=rfl;have e2:(((0:Nat):Int)==((0:Nat):Int))=true:=rfl;have hS:sslA 5 (some (.int .i64 ((0:Nat):Int))) none (.sl 0 .nil [])=some (.sl 5 .no []):=by simp[sslA]
 refine azf mixedT bw4 (by simp[avf]) ?_;dsimp only[avf];refine azj (ai e1 (ai e2 (ai hS hX))) ti ?_;exact⟨_,le_refl _,rfl,rfl⟩
end
end AX
end
section
open Go.RowKit
open Go.Op (bytesLess)
namespace AX
theorem by6(h:Hp):AT 66 [.agg [.int .i64 5,.int .i64 0,.str [],.sl 0 .nil [],.sl 0 .nil []]] h (.agg [.int .i64 5,.int .i64 0,.str [],.sl 0 .nil [],.sl 0 .nil []]):=by
 have ck:=fun h=>a_clone_strs_nil 0 h
 have cp:∀h,AT 100 [.sl 0 .nil []] h (.sl 0 .nil []):=fun h=>by
  refine pcall ?_ rfl rfl h;refine fo ?_;have z0:(((0:Nat):Int)==0)=true:=rfl;refine azj z0 ti ?_;exact Fn rfl
 refine pcall ?_ rfl rfl h;refine azf mixedT awz (by simp[aq4]) ?_;dsimp only[aq4];refine azj ti (ai ck (ai cp ti)) ?_;exact Fn rfl
theorem dqb(key:List UInt8)(x:V)(hx:x.few)(h:Hp):
  AT 41 [.agg [.int .i64 5,.int .i64 0,.str [],.sl 0 .nil [],.sl 0 .nil []],.str key,x.A] h ((V.mk 5 0 [] [x] [key]).A):=by
 have c1:=by6;have c2:=fun h=>@cvf h key
 have c3:=fun h=>@cjp h key
 have c4:=fun h=>@cju h [.int .i64 0,.int .i64 0,.str [],.sl 0 .nil [],.sl 0 .nil []] (.tok 0)
 have c5:=ayi x hx;have hVA:(V.mk 5 0 [] [x] [key]).A=.agg [.int .i64 5,.int .i64 0,.str [],.sl 5 .no [x.cells],.sl 1 .no [[.str key]]]:=by simp only[V.A,V.cells,V.cellss,strsA,ZM,Yn]
 rw[hVA];clear hVA hx;obtain⟨k,n,s,is,ks⟩:=x;simp only[V.A,V.cells]at c5⊢;refine pcallv ?_ (by simp[A.pure,A.data]) h;refine fo ?_;have z1:¬(0:Int)>((0:Nat):Int):=by decide
 have z2:¬((0:Nat):Int)>((0:Nat):Int):=by decide
 have z3:(((0:Nat):Int)==((0:Nat):Int))=true:=rfl;have z4:((0:Nat):Int)<((1:Nat):Int):=by decide
 have z5:0*5+5<=5:=by decide
 refine azj (ai z1 (ai z2 z3)) (ai c1 (ai c2 (ai c3 (ai c4 ti)))) ?_;refine azj (ai z1 (ai z2 (ai z3 (ai z4 z5)))) (ai c5 ti) ?_;exact⟨_,le_refl _,.agg ⟨.inl ⟨rfl,rfl⟩,.inl ⟨rfl,rfl⟩,.inl ⟨rfl,rfl⟩,.inr ⟨_,5,_,[[.int .i64 k,.int .i64 n,.str s,.sl 5 .no (V.cellss is),.sl 1 .no (strsA ks)]],rfl,rfl,rfl,fun r hr=>by rw[ZJ.1 hr];rfl,rfl⟩,.inr ⟨_,1,_,[[.str key]],rfl,rfl,rfl,fun r hr=>by rw[ZJ.1 hr];rfl,rfl⟩,trivial⟩⟩
theorem aka:∀(xs F z:List A),z.length=xs.length->setCells (F++z) F.length xs=F++xs
 |[],F,z,h=>by
  have:z=[]:=YL.1 h;subst this;rfl
 |x::xs,F,[],h=>by cases h
 |x::xs,F,y::z,h=>by
  unfold setCells;have e1:(F++y::z).set F.length x=(F++[x])++z:=by rw[List.set_append_right _ _ (Ze _),Nat.sub_self];simp
  rw[e1,show F.length+1=(F++[x]).length by simp,aka xs (F++[x]) z (by simpa using h)];simp
theorem cyu(is:List V)(ks:List (List UInt8))(key:List UInt8)(x:V)(hi:is≠[])(hik:is.length=ks.length)(hf:(V.mk 5 0 [] is ks).few)(hx:x.few)(hl:∀s∈ks,bytesLess s key=true)(hn:ks.length<=100000)(h:Hp):
  AT 41 [(V.mk 5 0 [] is ks).A,.str key,x.A] h ((V.mk 5 0 [] (is++[x]) (ks++[key])).A):=by
 have hk:ks≠[]:=fun e=>hi (YL.1 (by rw[hik,e];rfl))
 have c1:=czn 5 0 [] is ks hi hk hf;have c5:=ayi x hx;have hVA:(V.mk 5 0 [] is ks).A=.agg [.int .i64 5,.int .i64 0,.str [],.sl 5 .no (V.cellss is),.sl 1 .no (strsA ks)]:=by simp only[V.A,V.cells]
 have hVB:(V.mk 5 0 [] (is++[x]) (ks++[key])).A=.agg [.int .i64 5,.int .i64 0,.str [],.sl 5 .no (V.cellss is++[x.cells]),.sl 1 .no (strsA ks++[[.str key]])]:=by simp only[V.A,V.cells,V.cellss_map,strsA,Z6,ZM,Yn]
 rw[hVA]at c1⊢;rw[hVB];rw[hik]at c1;clear hVA hVB hx hf;have hxl:=V.cells_len5 x;have hxd:=V.cellsD x;have hVx:x.A=.agg x.cells:=V_A x;obtain⟨N,hN⟩:=Ex (ks.length);have FK1:=bxy ks;have FI1:=aqw (axm is).1;rw[V.cellss_length,hik]at FI1;rw[hN]at c1 hn FK1 FI1;have hN0:0<N:=by rw[<-hN];exact YA.2 hk
 obtain⟨k,n,s,xs,xk⟩:=x;simp only[V.A,V.cells]at c5 hxl hxd⊢;refine pcallv ?_ (by simp[A.pure,A.data]) h;refine fo ?_;refine go0 ti ?_;refine gc0 ti ?_;refine(c1 _).mono ?_;rintro v h' ⟨L,i,j,rfl,rfl,hgi,hgj,hi3,hj3⟩;simp only[ZE,Zq,Zf,Zo]at hgi hgj hi3 hj3⊢;obtain⟨FI,hFI⟩:=Ex ((V.cellss is).flatten);obtain⟨FK,hFK⟩:=Ex ((strsA ks).flatten);rw[hFI]at hgi FI1;have hij:i≠j:=fun e=>by rw[e,hgj]at hgi;injection hgi with e1;injection e1 with e1 _;exact absurd e1 (by decide)
 have c2:=fun h (hk:h.b[j]?=_)=>dq6 (h:=h) (k:=j) (ks:=ks) hk key hl (by omega)
 rw[hN]at c2;rw[hFK]at hgj FK1 c2;obtain⟨B,hB⟩:∃B:List Blk,(.cells 51 [.int .i64 5,.int .i64 0,.str [],.sl 5 .no (V.cellss is),.sl 1 .no (strsA ks)] :: .cells 51 [.int .i64 k,.int .i64 n,.str s,.sl 5 .no (V.cellss xs),.sl 1 .no (strsA xk)] :: .cells 51 [.int .i64 0,.int .i64 0,.str [],.sl 0 .nil [],.sl 0 .nil []]::L:List Blk)=B:=⟨_,rfl⟩;have hB1:B[1]?=some (.cells 51 [.int .i64 k,.int .i64 n,.str s,.sl 5 .no (V.cellss xs),.sl 1 .no (strsA xk)]):=by rw[<-hB];rfl
 have hB2:B[2]?=some (.cells 51 [.int .i64 0,.int .i64 0,.str [],.sl 0 .nil [],.sl 0 .nil []]):=by rw[<-hB];rfl
 rw[hB]at hgi hgj⊢;clear hB c1;have hin:=(Zb.1 hgi).1;have hjn:=(Zb.1 hgj).1;obtain⟨n0,hn0⟩:=Ex (B.length);rw[hn0]at hin hjn;have hs1:setCells (FI++[.int .i64 0,.int .i64 0,.str [],.sl 0 .nil [],.sl 0 .nil []]) (N*5) [.int .i64 k,.int .i64 n,.str s,.sl 5 .no (V.cellss xs),.sl 1 .no (strsA xk)]=FI++[.int .i64 k,.int .i64 n,.str s,.sl 5 .no (V.cellss xs),.sl 1 .no (strsA xk)]:=by rw[<-FI1];exact aka _ _ _ rfl
 simp only[setCells]at hs1;have hle:N*5+5<=(FI++[A.int .i64 0,.int .i64 0,.str [],.sl 0 .nil [],.sl 0 .nil []]).length:=by rw[Za,FI1];exact Ze _
 have z1:¬(N:Int)>(N:Int):=by omega
 have z2:((N:Int)==(N:Int))=true:=by simp
 have z3:(0:Int)<=(N:Int)/\(N:Int)<((N+1:Nat):Int):=by omega
 obtain⟨B',hB'⟩:=Ex (B++[.cells 51 [.int .i64 5,.int .i64 0,.str [],.bs i 5 N,.bs j 1 N]]);have f0:(B++[Blk.cells 51 [.int .i64 0,.int .i64 0,.str [],.sl 0 .nil [],.sl 0 .nil []]])[n0]?=some (.cells 51 [.int .i64 0,.int .i64 0,.str [],.sl 0 .nil [],.sl 0 .nil []]):=aqj hn0.symm;have f1:(B++[Blk.cells 51 [.int .i64 0,.int .i64 0,.str [],.sl 0 .nil [],.sl 0 .nil []]]).set n0 (.cells 51 [.int .i64 5,.int .i64 0,.str [],.bs i 5 N,.bs j 1 N])=B':=by
  rw[<-hB',<-hn0,List.set_append_right _ _ (Ze _),Nat.sub_self];rfl
 have p1:B'[j]?=some (.row 9 FK):=by rw[<-hB'];exact azc hgj _
 have p2:B'[n0]?=some (.cells 51 [.int .i64 5,.int .i64 0,.str [],.bs i 5 N,.bs j 1 N]):=by rw[<-hB'];exact aqj hn0.symm
 have p3:B'[i]?=some (.row 51 FI):=by rw[<-hB'];exact azc hgi _
 have p4:B'[1]?=some (.cells 51 [.int .i64 k,.int .i64 n,.str s,.sl 5 .no (V.cellss xs),.sl 1 .no (strsA xk)]):=by rw[<-hB'];exact azc hB1 _
 have p5:B'[2]?=some (.cells 51 [.int .i64 0,.int .i64 0,.str [],.sl 0 .nil [],.sl 0 .nil []]):=by rw[<-hB'];exact azc hB2 _
 have p6:B'.length=n0+1:=by rw[<-hB',Za,hn0];rfl
 have c2':=c2 ⟨B',[]⟩ p1;have c3:=fun t=>cwy (h:=⟨B',t⟩) p1 FK1 (by omega) key
 obtain⟨B2,hB2'⟩:=Ex (B'.set j .gone++[.row 9 (FK++[.str key])]);simp only[hB2',p6]at c3;have q2:B2[n0]?=some (.cells 51 [.int .i64 5,.int .i64 0,.str [],.bs i 5 N,.bs j 1 N]):=by rw[<-hB2'];exact azc ((azt (by omega)).trans p2) _
 have q3:B2[i]?=some (.row 51 FI):=by rw[<-hB2'];exact azc ((azt (Ne.symm hij)).trans p3) _
 have q4:B2[1]?=some (.cells 51 [.int .i64 k,.int .i64 n,.str s,.sl 5 .no (V.cellss xs),.sl 1 .no (strsA xk)]):=by rw[<-hB2'];exact azc ((azt (by omega)).trans p4) _
 have q5:B2[2]?=some (.cells 51 [.int .i64 0,.int .i64 0,.str [],.sl 0 .nil [],.sl 0 .nil []]):=by rw[<-hB2'];exact azc ((azt (by omega)).trans p5) _
 have q6:B2.length=n0+2:=by rw[<-hB2',Za,ZA,p6];rfl
 have q7:B2[n0+1]?=some (.row 9 (FK++[.str key])):=by rw[<-hB2'];exact aqj (by rw[ZA,p6])
 obtain⟨B3,hB3⟩:=Ex (B2.set n0 (.cells 51 [.int .i64 5,.int .i64 0,.str [],.bs i 5 N,.bs (n0+1) 1 (N+1)]));have r2:B3[n0]?=some (.cells 51 [.int .i64 5,.int .i64 0,.str [],.bs i 5 N,.bs (n0+1) 1 (N+1)]):=by rw[<-hB3];exact axz q2
 have r3:B3[i]?=some (.row 51 FI):=by rw[<-hB3];exact(azt (by omega)).trans q3
 have r4:B3[1]?=some (.cells 51 [.int .i64 k,.int .i64 n,.str s,.sl 5 .no (V.cellss xs),.sl 1 .no (strsA xk)]):=by rw[<-hB3];exact(azt (by omega)).trans q4
 have r5:B3[2]?=some (.cells 51 [.int .i64 0,.int .i64 0,.str [],.sl 0 .nil [],.sl 0 .nil []]):=by rw[<-hB3];exact(azt (by omega)).trans q5
 have r6:B3.length=n0+2:=by rw[<-hB3,ZA,q6]
 have r7:B3[n0+1]?=some (.row 9 (FK++[.str key])):=by rw[<-hB3];exact(azt (by omega)).trans q7
 have c4:=fun t o=>cvi (h:=⟨B3,t⟩) (o:=o) (W0:=0) (x:=[.int .i64 0,.int .i64 0,.str [],.sl 0 .nil [],.sl 0 .nil []]) r3 FI1 (by omega)
 obtain⟨B4,hB4⟩:=Ex (B3.set i .gone++[.row 51 (FI++[.int .i64 0,.int .i64 0,.str [],.sl 0 .nil [],.sl 0 .nil []])]);simp only[hB4,r6]at c4;have s2:B4[n0]?=some (.cells 51 [.int .i64 5,.int .i64 0,.str [],.bs i 5 N,.bs (n0+1) 1 (N+1)]):=by rw[<-hB4];exact azc ((azt (by omega)).trans r2) _
 have s4:B4[1]?=some (.cells 51 [.int .i64 k,.int .i64 n,.str s,.sl 5 .no (V.cellss xs),.sl 1 .no (strsA xk)]):=by rw[<-hB4];exact azc ((azt (by omega)).trans r4) _
 have s5:B4[2]?=some (.cells 51 [.int .i64 0,.int .i64 0,.str [],.sl 0 .nil [],.sl 0 .nil []]):=by rw[<-hB4];exact azc ((azt (by omega)).trans r5) _
 have s7:B4[n0+1]?=some (.row 9 (FK++[.str key])):=by rw[<-hB4];exact azc ((azt (by omega)).trans r7) _
 have s8:B4[n0+2]?=some (.row 51 (FI++[.int .i64 0,.int .i64 0,.str [],.sl 0 .nil [],.sl 0 .nil []])):=by rw[<-hB4];exact aqj (by rw[ZA,r6])
 obtain⟨B5,hB5⟩:=Ex (B4.set n0 (.cells 51 [.int .i64 5,.int .i64 0,.str [],.bs (n0+2) 5 (N+1),.bs (n0+1) 1 (N+1)]));have t2:B5[n0]?=some (.cells 51 [.int .i64 5,.int .i64 0,.str [],.bs (n0+2) 5 (N+1),.bs (n0+1) 1 (N+1)]):=by rw[<-hB5];exact axz s2
 have t4:B5[1]?=some (.cells 51 [.int .i64 k,.int .i64 n,.str s,.sl 5 .no (V.cellss xs),.sl 1 .no (strsA xk)]):=by rw[<-hB5];exact(azt (by omega)).trans s4
 have t5:B5[2]?=some (.cells 51 [.int .i64 0,.int .i64 0,.str [],.sl 0 .nil [],.sl 0 .nil []]):=by rw[<-hB5];exact(azt (by omega)).trans s5
 have t7:B5[n0+1]?=some (.row 9 (FK++[.str key])):=by rw[<-hB5];exact(azt (by omega)).trans s7
 have t8:B5[n0+2]?=some (.row 51 (FI++[.int .i64 0,.int .i64 0,.str [],.sl 0 .nil [],.sl 0 .nil []])):=by rw[<-hB5];exact(azt (by omega)).trans s8
 obtain⟨B6,hB6⟩:=Ex (B5.set (n0+2) (.row 51 (FI++[.int .i64 k,.int .i64 n,.str s,.sl 5 .no (V.cellss xs),.sl 1 .no (strsA xk)])));have u2:B6[n0]?=some (.cells 51 [.int .i64 5,.int .i64 0,.str [],.bs (n0+2) 5 (N+1),.bs (n0+1) 1 (N+1)]):=by rw[<-hB6];exact(azt (by omega)).trans t2
 have u5:B6[2]?=some (.cells 51 [.int .i64 0,.int .i64 0,.str [],.sl 0 .nil [],.sl 0 .nil []]):=by rw[<-hB6];exact(azt (by omega)).trans t5
 have u7:B6[n0+1]?=some (.row 9 (FK++[.str key])):=by rw[<-hB6];exact(azt (by omega)).trans t7
 have u8:B6[n0+2]?=some (.row 51 (FI++[.int .i64 k,.int .i64 n,.str s,.sl 5 .no (V.cellss xs),.sl 1 .no (strsA xk)])):=by rw[<-hB6];exact axz t8
 obtain⟨B7,hB7⟩:=Ex (B6.set 2 (.cells 51 [.int .i64 5,.int .i64 0,.str [],.bs (n0+2) 5 (N+1),.bs (n0+1) 1 (N+1)]));have v5:B7[2]?=some (.cells 51 [.int .i64 5,.int .i64 0,.str [],.bs (n0+2) 5 (N+1),.bs (n0+1) 1 (N+1)]):=by rw[<-hB7];exact axz u5
 have v7:B7[n0+1]?=some (.row 9 (FK++[.str key])):=by rw[<-hB7];exact(azt (by omega)).trans u7
 have v8:B7[n0+2]?=some (.row 51 (FI++[.int .i64 k,.int .i64 n,.str s,.sl 5 .no (V.cellss xs),.sl 1 .no (strsA xk)])):=by rw[<-hB7];exact(azt (by omega)).trans u8
 clear hgi hgj hB1 hB2 p1 p3 p4 p5 q3 q4 q5 q7 r3 r4 r5 r7 s4 s5 s7 t7 u7 c2 hl;refine go0 (ai hn0 (ai f0 (ai f1 p2))) ?_;refine gc0 (ai hn0 (ai f0 (ai f1 p2))) ?_;refine c2'.mono ?_;rintro v h' ⟨rfl,rfl⟩;refine go0 (ai hB2' (ai hB3 (ai hB4 (ai hB5 (ai hB6 (ai hB7 (ai p2 (ai p6 (ai z1 (ai z2 (ai z3 (ai q2 (ai r2 (ai r6 (ai s2 (ai t2 (ai t4 (ai t5 (ai t8 (ai u2 (ai u5 (ai v5 (ai hle hs1))))))))))))))))))))))) ?_;refine gc0 (ai hB2' (ai hB3 (ai hB4 (ai hB5 (ai hB6 (ai hB7 (ai p2 (ai p6 (ai z1 (ai z2 (ai z3 (ai q2 (ai r2 (ai r6 (ai s2 (ai t2 (ai t4 (ai t5 (ai t8 (ai u2 (ai u5 (ai v5 (ai hle hs1))))))))))))))))))))))) ?_;refine(c3 _).mono ?_;rintro v h' ⟨rfl,rfl⟩;refine go0 (ai hB2' (ai hB3 (ai hB4 (ai hB5 (ai hB6 (ai hB7 (ai p2 (ai p6 (ai z1 (ai z2 (ai z3 (ai q2 (ai r2 (ai r6 (ai s2 (ai t2 (ai t4 (ai t5 (ai t8 (ai u2 (ai u5 (ai v5 (ai hle hs1))))))))))))))))))))))) ?_;refine gc0 (ai hB2' (ai hB3 (ai hB4 (ai hB5 (ai hB6 (ai hB7 (ai p2 (ai p6 (ai z1 (ai z2 (ai z3 (ai q2 (ai r2 (ai r6 (ai s2 (ai t2 (ai t4 (ai t5 (ai t8 (ai u2 (ai u5 (ai v5 (ai hle hs1))))))))))))))))))))))) ?_;refine(c4 _ _).mono ?_;rintro v h' ⟨rfl,rfl⟩;refine go0 (ai hB2' (ai hB3 (ai hB4 (ai hB5 (ai hB6 (ai hB7 (ai p2 (ai p6 (ai z1 (ai z2 (ai z3 (ai q2 (ai r2 (ai r6 (ai s2 (ai t2 (ai t4 (ai t5 (ai t8 (ai u2 (ai u5 (ai v5 (ai hle hs1))))))))))))))))))))))) ?_;refine azj (ai hB2' (ai hB3 (ai hB4 (ai hB5 (ai hB6 (ai hB7 (ai p2 (ai p6 (ai z1 (ai z2 (ai z3 (ai q2 (ai r2 (ai r6 (ai s2 (ai t2 (ai t4 (ai t5 (ai t8 (ai u2 (ai u5 (ai v5 (ai FI1 hs1))))))))))))))))))))))) ti ?_;refine use (c5 _) ?_ (hm:=⟨fun e=>absurd e (by decide),fun _=>bvp t2⟩);refine azj (ai hB2' (ai hB3 (ai hB4 (ai hB5 (ai hB6 (ai hB7 (ai p2 (ai p6 (ai z1 (ai z2 (ai z3 (ai q2 (ai r2 (ai r6 (ai s2 (ai t2 (ai t4 (ai t5 (ai t8 (ai u2 (ai u5 (ai v5 (ai FI1 hs1))))))))))))))))))))))) ti ?_;refine⟨_,le_refl _,.agg ⟨.inl ⟨rfl,rfl⟩,.inl ⟨rfl,rfl⟩,.inl ⟨rfl,rfl⟩,.inr ⟨n0+2,5,51,V.cellss is++[[.int .i64 k,.int .i64 n,.str s,.sl 5 .no (V.cellss xs),.sl 1 .no (strsA xk)]],?_,?_,rfl,?_,?_⟩,.inr ⟨n0+1,1,9,strsA ks++[[.str key]],?_,?_,rfl,?_,?_⟩,trivial⟩⟩
 ·rw[Za,V.cellss_length,hik,hN];rfl
 ·rw[List.flatten_append,hFI];exact v8
 ·intro r hr;rcases Yk.1 hr with hr|hr
  ·exact(axm is).1 r hr
  ·rw[ZJ.1 hr];rfl
 ·rw[List.flatten_append,List.all_append,(axm is).2];rfl
 ·rw[Za,azd,hN];rfl
 ·rw[List.flatten_append,hFK];exact v7
 ·intro r hr;rcases Yk.1 hr with hr|hr
  ·exact(ajk ks).1 r hr
  ·rw[ZJ.1 hr];rfl
 ·rw[List.flatten_append,List.all_append,(ajk ks).2.1];rfl
end AX
end
end Go.Proofs.YthhpocnmfknalaaGreatDoor
