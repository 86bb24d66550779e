/- Part of what the proof needs. -/
import Derived.Test.YthhpocnmfknalaaGreatDoorMFrWorkspaceCallsN
set_option maxHeartbeats 4000000
set_option maxRecDepth 100000
set_option linter.all false
namespace Go.Proofs.YthhpocnmfknalaaGreatDoor
open Go.RowKit
namespace AX
theorem cj4(lv b:Nat):Val.chks [] lv b=(0,b):=by rw[Val.chks]
theorem czi(v:V)(l:List V)(lv b:Nat):Val.chks (v::l) lv b=if(Val.chk v lv b).1≠0 then Val.chk v lv b else Val.chks l lv (Val.chk v lv b).2:=by rw[Val.chks]
def cntB(b:Nat):Blk:=.cells 3 [.int .i64 b]
def visB:Blk:=.cells 96 [.fn 43 [.ptr 1 0,.ptr 2 0]]
theorem awk{l m:List Blk}{i:Nat}{x:Blk}(h:l[i]?=some x):(l++m)[i]?=some x:=by
 rw[ZF (Zb.1 h).1];exact h
theorem cyn(l:List Blk)(x y:Blk):(l++[x]).set l.length y=l++[y]:=by
 rw[List.set_append_right _ _ (Ze _)];simp
theorem dz9:∀(v:V) (lv b:Nat) (h:Hp),v.lens->h.b[1]?=some (cntB b)->h.b[2]?=some visB->AC 43 [v.A,.int .i64 lv,.ptr 1 0,.ptr 2 0] h fun r h'=>r=.int .i64 (Val.chk v lv b).1/\((Val.chk v lv b).1=0->h'.b[1]?=some (cntB (Val.chk v lv b).2)/\h'.b[2]?=some visB):=by
 refine V.induct fun k n s is ks ih=>?_
 intro lv b h hlen hb1 hb2;refine fo ?_;obtain⟨hil,hkl,_,hmem⟩:=V.lens_mk hlen;have hbl:2<h.b.length:=(Zb.1 hb2).1;have g1:∀m,(h.b++m)[1]?=some (.cells 3 [.int .i64 b]):=fun m=>awk hb1
 have g2:∀m,(h.b++m)[2]?=some visB:=fun m=>awk hb2
 have hC:¬(lv:Int)>32->¬(b:Int)>=4096->Val.chk (.mk k n s is ks) lv b=if Val.nodeZ (.mk k n s is ks)≠0 then(Val.nodeZ (.mk k n s is ks),b)else Val.chks is (lv+1) (b+1):=fun h1 h2=>by rw[Val.chk,if_neg (by omega),if_neg (by omega)]
 by_cases h1:(lv:Int)>32
 ·have hC1:Val.chk (.mk k n s is ks) lv b=(4,b):=by rw[Val.chk,if_pos (by omega)]
  refine go0 (ai @V_A (ai @azb h1)) ?_;exact⟨_,le_refl _,by rw[azk,hC1],fun e=>by rw[hC1]at e;simp at e⟩
 by_cases h2:(b:Int)>=4096
 ·have hC1:Val.chk (.mk k n s is ks) lv b=(14,b):=by rw[Val.chk,if_neg (by omega),if_pos (by omega)]
  refine go0 (ai @V_A (ai @azb (ai h1 (ai h2 (ai g1 g2))))) ?_;exact⟨_,le_refl _,by rw[azk,hC1],fun e=>by rw[hC1]at e;simp at e⟩
 have eb:IntKind.i64.wrap ((b:Int)+1)=((b+1:Nat):Int):=by rw[wrap64 (by omega) (by omega)];omega
 have hne1:¬(1=h.b.length):=by omega
 have hle1:1<=1:=by omega
 refine go0 (ai @V_A (ai @azb (ai h1 (ai h2 (ai g1 (ai g2 (ai eb (ai (@Zm AX.Blk) hne1)))))))) ?_;refine gc0 (ai @V_A (ai @azb (ai h1 h2))) ?_;refine(dqk k n s is ks hlen _).mono ?_;rintro v h' ⟨rfl,rfl⟩;have hC':=hC h1 h2;by_cases hn:Val.nodeZ (.mk k n s is ks)=0
 ·rw[hn];rw[if_neg (by simp[hn])]at hC';have elv:IntKind.i64.wrap ((lv:Int)+1)=((lv+1:Nat):Int):=by rw[wrap64 (by omega) (by omega)];omega
  refine go0 (ai @V_A (ai @azb (ai h1 (ai h2 (ai (@Zm AX.Blk) hne1))))) ?_;refine azg (fun m ts hh=>∃(i q:Nat),m=is.length-i/\i<=is.length/\Val.chks (is.drop i) (lv+1) q=Val.chks is (lv+1) (b+1)/\hh.b[1]?=some (cntB q)/\hh.b[2]?=some visB/\ts 1=.int .i64 lv/\ts 3=.ptr 2 0/\ts 23=.sl 5 .no (V.cellss is)/\ts 24=.int .i64 is.length/\ts 25=.int .i64 i) is.length ?_ ?_
  ·refine⟨0,b+1,rfl,ZB _,rfl,?_,?_,?_⟩
   ·show(List.set _ 1 _)[1]?=_
    rw[Zm,if_pos rfl,if_pos (by simp;omega)];rfl
   ·show(List.set _ 1 _)[2]?=_
    rw[Zm,if_neg (by omega)];exact g2 _
   ·(exact azv @V.cellss_length)
  ·rintro m ts hh ⟨i,q,rfl,hi,heq,p1,p2,t1,t3,t23,t24,t25⟩;by_cases hlt:i<is.length
   ·have hlt2:(i:Int)<(is.length:Int):=by omega
    have hlt':(i:Int)<((V.cellss is).length:Int):=by rw[V.cellss_length];omega
    have ei:IntKind.i64.wrap ((i:Int)+1)=(i:Int)+1:=wrap64 (by omega) (by omega);have ee:=V.cellss_get is i hlt;have hcall:=fun(h:Hp)=>ih is[i] (Zl hlt) (lv+1) q h (hmem _ (Zl hlt))
    rw[Zu hlt,czi]at heq;obtain⟨⟨k',n',s',is',ks'⟩,hv⟩:=Ex (is[i]);rw[hv]at ee hcall heq;have q2:∀m,(hh.b++m)[2]?=some (.cells 96 [.fn 43 [.ptr 1 0,.ptr 2 0]]):=fun m=>awk p2
    refine go0 (ai @azb (ai t1 (ai t3 (ai t23 (ai t24 (ai t25 (ai hlt' (ai hlt2 (ai ee (ai elv (ai ei (ai @cyn q2)))))))))))) ?_;refine gc0 (ai @azb (ai t1 (ai t3 (ai t23 (ai t24 (ai t25 elv)))))) ?_;refine(hcall _ (awk p1) (awk p2)).mono ?_;rintro v h' ⟨rfl,hcnt⟩;by_cases hz:(Val.chk (.mk k' n' s' is' ks') (lv+1) q).1=0
    ·rw[if_neg (by simp[hz])]at heq;rw[hz];obtain⟨r1,r2⟩:=hcnt hz;refine go0 (ai @azb (ai t1 (ai t3 (ai t23 (ai t24 (ai t25 ei)))))) ?_;refine⟨is.length-(i+1),by omega,i+1,_,rfl,by omega,heq,r1,r2,?_⟩;(exact azv (ai t1 (ai t3 (ai t23 (ai t24 (ai t25 ei))))))
    ·have hz':((Val.chk (.mk k' n' s' is' ks') (lv+1) q).1 !=0)=true:=by simp[hz]
     rw[if_pos (by simp[hz])]at heq;refine go0 (ai @azb (ai t1 (ai t3 (ai t23 (ai t24 (ai t25 (ai ei hz'))))))) ?_;exact⟨_,le_refl _,by rw[azk,hC',<-heq],fun e=>by rw[hC',<-heq]at e;exact absurd e hz⟩
   ·have hlt2:¬(i:Int)<(is.length:Int):=by omega
    rw[ZQ (by omega),cj4]at heq;refine go0 (ai @azb (ai t1 (ai t3 (ai t23 (ai t24 (ai t25 hlt2)))))) ?_;exact⟨_,le_refl _,by rw[azk,hC',<-heq],fun _=>by rw[hC',<-heq];exact⟨p1,p2⟩⟩
 ·have hn':(Val.nodeZ (.mk k n s is ks)!=0)=true:=by simp[hn]
  rw[if_pos (by simp[hn])]at hC';refine go0 (ai @V_A (ai @azb (ai h1 (ai h2 hn')))) ?_;exact⟨_,le_refl _,by rw[azk,hC'],fun e=>by rw[hC']at e;exact absurd e hn⟩
theorem aku(v:V)(hlen:v.lens)(h:Hp):AT 19 [v.A] h (.int .i64 (Val.checkZ v)):=by
 have ht:∀h:Hp,h.b[1]?=some (cntB 0)->h.b[2]?=some visB->AC 43 [v.A,.int .i64 1,.ptr 1 0,.ptr 2 0] h fun r h'=>r=.int .i64 (Val.chk v 1 0).1/\((Val.chk v 1 0).1=0->h'.b[1]?=some (cntB (Val.chk v 1 0).2)/\h'.b[2]?=some visB):=fun h=>dz9 v 1 0 h hlen
 obtain⟨k,n,s,is,ks⟩:=v;refine pcall ?_ rfl (by simp[V.A,V.cells,A.pure,A.data]) h;refine azf mixedT cv5 (by simp[bqv]) ?_;dsimp only[bqv];refine go0 (ai @V_A @azb) ?_;refine gc0 (ai @V_A @azb) ?_;refine(ht _ rfl rfl).mono ?_;rintro v h' ⟨rfl,_⟩;refine go0 (ai @V_A @azb) ?_;exact Fn rfl
theorem bwm:∀{l l':List V},Val.eqBs l l'=true->l.length=l'.length
 |[],[],_=>rfl
 |[],_::_,h=>by simp[Val.eqBs]at h
 |_::_,[],h=>by simp[Val.eqBs]at h
 |v::l,v'::l',h=>by
  rw[Val.eqBs,Zg]at h;simp[bwm h.2]
def bzs:AX.AFn:=⟨24,aS [aR 1 (.box 51 (.t 0)),aR 2 (.mv (aI 0))] (aS [aF 5 4 1,aL 6 5,aR 7 (.len false (.t 6)),aM 3 7] (.seq (aS [aR 4 (.mv (aI 0))] (.block 0 (.loop (.seq (aS [aM 8 4,aF 9 3 1,aL 10 9,aR 11 (.len false (.t 10)),aR 12 (.bin .lss (.t 8) (.t 11))] (.cond (.t 12) (.skip) (.exit 0))) (.seq (.block 1 (.reg false [aM 15 3,aF 16 3 1,aL 17 16,aM 18 4,aR 19 (.iaddr 5 (.t 17) (.t 18)),aR 20 (.load true 5 (.t 19)),aR 21 (.call 77 [.t 20]),aR 22 (.bin .add (.t 15) (.t 21)),aM 3 22])) (.reg false [aM 13 4,aR 14 (.bin .add (.t 13) (aI 1)),aM 4 14])))))) (aS [aM 23 3,aM 2 23] (.ret)))),[.t 2]⟩
theorem ckq:AX.compFn Tryz.prog 77=some bzs:=by kernel_rfl
def awh:AX.AFn:=⟨16,aS [aR 2 (.box 51 (.t 0)),aR 4 (.mv (.c (.bool false)))] (aS [aR 5 (.load true 5 (.t 2)),aM 6 1,aR 7 (.call 76 [.t 5,.t 6,aI 40]),aR 8 (.bin .geq (.t 7) (aI 0)),aM 9 8,aG 10 (.load true 5 (.t 2)) 9 true,aG 11 (.call 77 [.t 10]) 9 true,aG 12 (.mv (.t 1)) 9 true,aG 13 (.bin .mul (aI 2) (.t 12)) 9 true,aG 14 (.bin .leq (.t 11) (.t 13)) 9 true,aR 15 (.pick (.t 9) (.t 14) (.c (.bool false))),aM 4 15] (.ret)),[.t 4]⟩
theorem cz8:AX.compFn Tryz.prog 51=some awh:=by kernel_rfl
theorem bkc:∀(l:List V) (i:Nat) (h:i<l.length),Val.keysNs (l.drop i)=Val.keysN l[i]+Val.keysNs (l.drop (i+1)):=by
 intro l i h;rw[Zu h,Val.keysNs]
theorem wrap_wrap(a b:Int):IntKind.i64.wrap (IntKind.i64.wrap a+IntKind.i64.wrap b)=IntKind.i64.wrap (a+b):=by
 have e:∀x,IntKind.i64.wrap x=(x+9223372036854775808)%18446744073709551616-9223372036854775808:=fun x=>by
  unfold IntKind.wrap;simp[IntKind.bits,IntKind.signed];split<;>omega
 rw[e,e,e,e];omega
theorem cyv:∀(v:V),v.lens->∀h,AT 77 [v.A] h (.int .i64 (IntKind.i64.wrap (Val.keysN v))):=by
 refine V.induct fun k n s is ks ih=>?_
 intro hlen h;refine pcall ?_ rfl (by simp[V.A,V.cells,A.pure,A.data]) h;refine azf mixedT ckq (by simp[bzs]) ?_;dsimp only[bzs];obtain⟨hil,hkl,_,hmem⟩:=V.lens_mk hlen;have hK:Val.keysN (.mk k n s is ks)=ks.length+Val.keysNs is:=by rw[Val.keysN]
 rw[hK];have hkw:IntKind.i64.wrap (ks.length:Int)=(ks.length:Int):=wrap64 (by omega) (by omega);refine go0 (ai @V_A (ai @azb @azd)) ?_;refine azg (fun m ts hh=>hh=⟨[.cells 51 (V.mk k n s is ks).cells],[]⟩/\∃(i:Nat) (q:Nat),m=is.length-i/\i<=is.length/\q+Val.keysNs (is.drop i)=ks.length+Val.keysNs is/\ts 1=.ptr 0 0/\ts 3=.int .i64 (IntKind.i64.wrap (q:Int))/\ts 4=.int .i64 i) is.length ?_ ?_
 ·refine⟨rfl,0,ks.length,rfl,ZB _,rfl,?_⟩;(exact azv (ai @azd hkw))
 ·rintro m ts hh ⟨rfl,i,q,rfl,hi,heq,t1,t3,t4⟩;by_cases hlt:i<is.length
  ·have hlt':(i:Int)<((V.cellss is).length:Int):=by rw[V.cellss_length];omega
   have ee:=V.cellss_get is i hlt;have ei:IntKind.i64.wrap ((i:Int)+1)=(i:Int)+1:=wrap64 (by omega) (by omega);rw[bkc is i hlt]at heq;have hcall:=ih is[i] (Zl hlt) (hmem _ (Zl hlt));obtain⟨⟨k',n',s',is',ks'⟩,hv⟩:=Ex (is[i]);rw[hv]at ee hcall heq;have eq':IntKind.i64.wrap (IntKind.i64.wrap (q:Int)+IntKind.i64.wrap (Val.keysN (.mk k' n' s' is' ks'):Int))=IntKind.i64.wrap ((q+Val.keysN (.mk k' n' s' is' ks'):Nat):Int):=by rw[wrap_wrap];simp
   refine go0 (ai @azb (ai t1 (ai t3 (ai t4 (ai hlt' (ai ee ei)))))) ?_;refine gc0 (ai @azb (ai t1 (ai t3 t4))) ?_;refine(hcall _).mono ?_;rintro v h' ⟨rfl,rfl⟩;refine go0 (ai @azb (ai t1 (ai t3 (ai t4 (ai hlt' (ai ee (ai ei eq'))))))) ?_;refine⟨is.length-(i+1),by omega,rfl,i+1,q+Val.keysN (.mk k' n' s' is' ks'),rfl,by omega,by omega,?_⟩;(exact azv (ai t1 (ai t3 (ai t4 (ai ei eq')))))
  ·have hlt':¬(i:Int)<((V.cellss is).length:Int):=by rw[V.cellss_length];omega
   refine go0 (ai @azb (ai t1 (ai t3 (ai t4 hlt')))) ?_;rw[ZQ (by omega),Val.keysNs]at heq;exact⟨_,le_refl _,by rw[azk,<-heq];rfl⟩
theorem cvg(v:V)(nd:Nat)(hn:nd<=1000000)(hlen:v.lens)(h:Hp):AT 51 [v.A,.int .i64 nd] h (.bool (decide (0<=Val.left v nd 40)&&decide (IntKind.i64.wrap (Val.keysN v)<=2*(nd:Int)))):=by
 have hL:=dx9 v nd 40 (by omega) (by omega) (by decide) (by decide) hlen;have hK:=cyv v hlen;have hp:=V.pure v;obtain⟨k,n,s,is,ks⟩:=v;refine pcall ?_ rfl (by simp[V.A,V.cells,A.pure,A.data]) h;refine azf mixedT cz8 (by simp[awh]) ?_;dsimp only[awh];refine go0 (ai @V_A @azb) ?_;refine gc0 (ai @V_A @azb) ?_;refine(pcall hL rfl (by simp[V.A,V.cells,A.pure,A.data]) _).mono ?_;rintro v1 h' ⟨rfl,rfl⟩;have e2:IntKind.i64.wrap (2*(nd:Int))=2*(nd:Int):=wrap64 (by omega) (by omega);by_cases h0:Val.left (.mk k n s is ks) nd 40>=0
 ·refine go0 (ai @V_A (ai @azb h0)) ?_;refine gc0 (ai @V_A (ai @azb h0)) ?_;refine(hK _).mono ?_;rintro v2 h' ⟨rfl,rfl⟩;refine go0 (ai @V_A (ai @azb (ai h0 e2))) ?_;exact⟨_,le_refl _,by rw[azk,Yg h0,ZH]⟩
 ·refine go0 (ai @V_A (ai @azb h0)) ?_;exact⟨_,le_refl _,by rw[azk,Yp h0,Z7]⟩
def cjd:AX.AFn:=⟨10,.reg true [aM 4 0,⟨some 5,.nilck (.t 4),none,[0]⟩,⟨some 6,.faddr 0 (.t 5),none,[1]⟩,aM 7 1,⟨some 8,.call 185 [.c (.str []),.t 7],none,[3]⟩,⟨some 9,.call 166 [.t 6,.t 8],none,[2,4,4]⟩],[]⟩
theorem dxs:AX.compFn Tryz.prog 167=some cjd:=by kernel_rfl
def bvl:AX.AFn:=⟨13,aS [aM 4 0,aM 5 1,aR 6 (.len true (.t 5)),aR 7 (.call 167 [.t 4,.t 6])] (.reg false [aM 8 0,aR 9 (.nilck (.t 8)),aF 10 0 9,aM 11 1,aR 12 (.call 166 [.t 10,.t 11])]),[]⟩
theorem cy8:AX.compFn Tryz.prog 168=some bvl:=by kernel_rfl
def WP(i:Nat)(ver:Int)(l:List UInt8)(h h':Hp):Prop:=Wt h' i ver l/\h'.t=h.t/\∀j x,j≠i->h.b[j]?=some x->h'.b[j]?=some x
theorem WP.of{h:Hp}{i:Nat}{ver:Int}{l l':List UInt8}(hw:Wt h i ver l):WP i ver l' h ⟨h.b.set i (wtr ver l'),h.t⟩:=by
 refine⟨.inl ?_,rfl,fun j x hj hx=>?_⟩
 ·show(List.set _ i _)[i]?=_
  rw[Zm,if_pos rfl,if_pos hw.lt]
 ·show(List.set _ i _)[j]?=_
  rw[Zm,if_neg (Ne.symm hj)];exact hx
theorem WP.tr{i:Nat}{ver:Int}{l l':List UInt8}{h h' h'':Hp}(a:WP i ver l h h')(b:WP i ver l' h' h''):WP i ver l' h h'':=
 ⟨b.1,b.2.1.trans a.2.1,fun j x hj hx=>b.2.2 j x hj (a.2.2 j x hj hx)⟩
theorem akq{l m:List Blk}{i:Nat}{x:Blk}(h:l[i]?=some x):(l++m)[i]?=some x:=by
 rw[ZF (Zb.1 h).1];exact h
theorem bww(l:List Blk)(x y:Blk):(l++[x]).set l.length y=l++[y]:=by
 rw[List.set_append_right _ _ (Ze _)];simp
theorem Wt.app{b:List Blk}{t:_}{i:Nat}{ver:Int}{l:List UInt8}(hw:Wt ⟨b,t⟩ i ver l)(m:List Blk):Wt ⟨b++m,t⟩ i ver l:=by
 rcases hw with h|⟨h0,h⟩
 ·exact .inl (akq h)
 ·exact .inr ⟨h0,akq h⟩
theorem WP.app{b:List Blk}{t:_}{m:List Blk}{h':Hp}{i:Nat}{ver:Int}{l:List UInt8}(hp:WP i ver l ⟨b++m,t⟩ h'):WP i ver l ⟨b,t⟩ h':=
 ⟨hp.1,hp.2.1,fun j x hj hx=>hp.2.2 j x hj (akq hx)⟩
theorem num_len(n:Int):(Wire.num n).length<=10:=(Wire.encF_len 9 (Wire.zig n)).2
theorem bjs{h:Hp}{i:Nat}{ver:Int}{l:List UInt8}(hw:Wt h i ver l)(n:Int)(hlen:l.length+10<=1000000000)(h0:-9223372036854775808<=n)(h1:n<=9223372036854775807):
  AC 167 [.ptr i 0,.int .i64 n] h fun u h'=>u=.tup []/\WP i ver (l++Wire.num n) h h':=by
 have hn:=num_len n;refine azf mixedT dxs (by simp[cjd]) ?_;dsimp only[cjd];refine cva _ _ ⟨h.b.set i (wtr ver (l++Wire.num n)),h.t⟩ (.tup [.int .i64 (Wire.num n).length,.nili]) (List.dropLast_concat_getLast (l:=_::_) (by simp)).symm (by decide) ?_;dsimp only[List.dropLast,List.getLast];refine go0 ti ?_;refine cjk (vs:=[.str [],.int .i64 n]) (r:=.str (Wire.num n)) (by(exact ev0 ti)) ?_ ?_
 ·refine(ayy [] n (by simp) h0 h1 _).mono ?_;rintro v h' ⟨rfl,rfl⟩;exact⟨by simp,rfl⟩
 refine cyb ⟨?_,?_⟩
 ·show ACall _ _ _ _ _ _
  simp only[aq6,aqf,aqc,ayj,ayg,aqd,ax8,ajc,ajf,azk,aqh,astep,bop,uop,loadA,storeA,appA,ssliceA,eqA,eqCells,fillA,rowsA,setCells,A.cells,A.one,A.data,az4,ZK,YK,ZX,ZH,ZY,Yz,YN,Y3,Yb,YD,ZM,Yn,Ye,Z5,ZU,ZR,Zf,Zo,Zq,ZE,Zz,YT,YU,YW,Z4,Yd,Yt,Zab,Za,ZA,Nat.reduceAdd,Nat.reduceSub,Nat.reduceMul,Nat.reduceLeDiff,Nat.reduceEqDiff,Nat.reduceBEq,Yu,YJ,if_true,if_false,reduceIte,ite_true,ite_false,true_and,and_true,ne_eq,Yw,YH,Zn,reduceCtorEq,and_self,Yj,Yr,Ze,Yc,Z9,decide_true,decide_false];exact bvx hw _ (by omega)
 ·exact cxn rfl ⟨_,le_refl _,rfl,WP.of hw⟩
theorem bv1{h:Hp}{i:Nat}{ver:Int}{l:List UInt8}(hw:Wt h i ver l)(s:List UInt8)(hlen:l.length+s.length+10<=1000000000):
  AC 168 [.ptr i 0,.str s] h fun u h'=>u=.tup []/\WP i ver (l++Wire.strE s) h h':=by
 have hn:=num_len s.length;refine azf mixedT cy8 (by simp[bvl]) ?_;dsimp only[bvl];refine go0 ti ?_;refine gc0 ti ?_;refine(bjs hw s.length (by omega) (by omega) (by omega)).mono ?_;rintro v h' ⟨-,hp⟩;refine go0 ti ?_;refine gc0 ti ?_;refine(bvx hp.1 s (by rw[Za];omega)).mono ?_;rintro v h' ⟨rfl,rfl⟩;refine cye (cxn rfl ⟨_,le_refl _,rfl,?_⟩);rw[Wire.strE,<-Zi];exact hp.tr (WP.of hp.1)
theorem cz5(m:Bool)(is:List V)(ks:List (List UInt8))(j:Nat)(hj:j<is.length):(Val.encs m (is.take j) ks).length+(Val.keyE m (ks.drop j)).length+(Val.enc is[j]).length<=(Val.encs m is ks).length:=by
 have key:∀d,j+1+d<=is.length->(Val.encs m (is.take (j+1)) ks).length<=(Val.encs m (is.take (j+1+d)) ks).length:=by
  intro d;induction d with
  |zero=>intro _;exact Ze _
  |succ d ihd=>
   intro hd;have h1:=Val.encs_take m is ks (j+1+d) (by omega);have h2:=ihd (by omega);have h3:(Val.encs m (is.take (j+1+(d+1))) ks).length=_:=congrArg List.length h1;rw[Za]at h3;omega
 have h1:=Val.encs_take m is ks j hj;have h2:=key (is.length-(j+1)) (by omega);rw[show j+1+(is.length-(j+1))=is.length by omega,Yy,h1,Za,Za]at h2;omega
theorem dzc:∀(v:V) (i:Nat) (ver:Int) (l:List UInt8) (h:Hp),Wt h i ver l->(∃lv b,(Val.chk v lv b).1=0)->l.length+(Val.enc v).length+10<=1000000000->v.lens->AC 170 [.ptr i 0,v.A] h fun u h'=>u=.tup []/\WP i ver (l++Val.enc v) h h':=by
 refine V.induct fun k n s is ks ih=>?_
 rintro i ver l ⟨hb,ht⟩ hw ⟨lv,b,hchk⟩ hlen hlens;refine fo ?_;obtain⟨hil,hkl,_,hmem⟩:=V.lens_mk hlens;obtain⟨_,_,hz,hcs⟩:=Val.chk_parts hchk;obtain⟨hsh,hn2,hts,hks⟩:=Val.shaped_of hz;have hs:=Val.text_len hts;have hkk:=Val.keys_len ks none hks;unfold Val.shapedB at hsh;simp only[Zg,ZZ,Zx,ZT]at hsh;obtain⟨⟨⟨⟨⟨hk0,hk6⟩,hnn⟩,_⟩,_⟩,hkn⟩:=hsh;have hne:¬(i=hb.length):=by have:=hw.lt;simp at this;omega
 have hE:Val.enc (.mk k n s is ks)=Wire.num k++(if k=1\/k=2 then Wire.num n else if k=3 then Wire.strE s else if k=4\/k=5 then Wire.num is.length++Val.encs (k==5) is ks else[]):=by rw[Val.enc]
 rw[hE]at hlen⊢;simp only[Za]at hlen;refine go0 (ai @V_A @azb) ?_;refine gc0 (ai @V_A @azb) ?_;refine(bjs (hw.app _) k (by omega) (by omega) (by omega)).mono ?_;rintro v0 h1 ⟨-,hp1⟩;have g1:h1.b[hb.length]?=some (.cells 51 (V.mk k n s is ks).cells):=hp1.2.2 _ _ (Ne.symm hne) Zt;simp only[V.cells]at g1;have hlk:=num_len k;by_cases hk12:k=1\/k=2
 ·rw[if_pos hk12]at hlen⊢;have hn:-9223372036854775808<=n/\n<=9223372036854775807:=by
   rcases hk12 with rfl|rfl
   ·rcases hnn with(h|h)|h
    ·exact absurd h (by decide)
    ·omega
    ·omega
   ·have:=hn2 rfl;omega
  rcases hk12 with rfl|rfl;all_goals
   refine go0 g1 ?_;refine gc0 g1 ?_;refine(bjs hp1.1 n (by rw[Za];omega) (by omega) (by omega)).mono ?_;rintro v2 h2 ⟨-,hp2⟩;refine go0 g1 ?_;refine⟨_,le_refl _,rfl,?_⟩;rw[<-Zi];exact(hp1.tr hp2).app
 rw[if_neg hk12]at hlen⊢;have e1:(k==1)=false:=by simp;omega
 have e2:(k==2)=false:=by simp;omega
 by_cases hk3:k=3
 ·rw[if_pos hk3]at hlen⊢;subst hk3;refine go0 g1 ?_;refine gc0 g1 ?_;unfold Wire.strE at hlen;rw[Za]at hlen;refine(bv1 hp1.1 s (by rw[Za];omega)).mono ?_;rintro v2 h2 ⟨-,hp2⟩;refine go0 g1 ?_;refine⟨_,le_refl _,rfl,?_⟩;rw[<-Zi];exact(hp1.tr hp2).app
 rw[if_neg hk3]at hlen⊢;have e3:(k==3)=false:=by simp;omega
 by_cases hk45:k=4\/k=5
 ·rw[if_pos hk45]at hlen⊢;rw[Za]at hlen;have hkl5:(k==5)=true->ks.length=is.length:=fun e=>by
   rw[if_pos (by simpa using e)]at hkn;simpa using hkn
  have hln:=num_len is.length;have step:∀(j:Nat) (hj:j<is.length),(Val.encs (k==5) (is.take j) ks).length+(Val.keyE (k==5) (ks.drop j)).length+(Val.enc is[j]).length<=(Val.encs (k==5) is ks).length:=cz5 _ _ _;have e45:(k==4)=true\/(k==4)=false/\(k==5)=true:=by
   rcases hk45 with rfl|rfl
   ·exact .inl rfl
   ·exact .inr ⟨rfl,rfl⟩
  rcases e45 with e4|⟨e4,e5⟩;all_goals
   refine go0 (ai g1 (ai e1 (ai e2 (ai e3 (ai e4 @V.cellss_length))))) ?_
   try (refine go0 (ai g1 (ai e1 (ai e2 (ai e3 (ai e4 (ai e5 @V.cellss_length)))))) ?_)
   refine gc0 g1 ?_;refine(bjs hp1.1 is.length (by rw[Za];omega) (by omega) (by omega)).mono ?_;rintro v2 h2 ⟨-,hp2⟩;have g2:=hp2.2.2 _ _ (Ne.symm hne) g1;refine go0 (ai g2 @V.cellss_length) ?_;refine azg (fun m ts hh=>∃(j:Nat),m=is.length-j/\j<=is.length/\WP i ver (l++Wire.num k++Wire.num is.length++Val.encs (k==5) (is.take j) ks) ⟨hb,ht⟩ hh/\hh.b[hb.length]?=some (.cells 51 [.int .i64 k,.int .i64 n,.str s,.sl 5 .no (V.cellss is),.sl 1 .no (strsA ks)])/\ts 0=.ptr i 0/\ts 3=.ptr hb.length 0/\ts 34=.sl 5 .no (V.cellss is)/\ts 35=.int .i64 is.length/\ts 36=.int .i64 j) is.length ?_ ?_
   ·refine⟨0,rfl,ZB _,?_,g2,?_⟩
    ·have:=(hp1.tr hp2).app;simpa [Val.encs]using this
    ·(exact azv @V.cellss_length)
   ·rintro m ts hh ⟨j,rfl,hj,hp,g3,t0,t3,t34,t35,t36⟩;by_cases hlt:j<is.length
    ·have hlt2:(j:Int)<(is.length:Int):=by omega
     have hla:(j:Int)<((V.cellss is).length:Int):=by rw[V.cellss_length];omega
     have ei:IntKind.i64.wrap ((j:Int)+1)=(j:Int)+1:=wrap64 (by omega) (by omega);have ee:=V.cellss_get is j hlt;have hst:=step j hlt;have htk:=Val.encs_take (k==5) is ks j hlt;have hcall:=fun(l':List UInt8) (h:Hp) (hw:Wt h i ver l') (hb:l'.length+(Val.enc is[j]).length+10<=1000000000)=>ih is[j] (Zl hlt) i ver l' h hw ((Val.chks_get is _ _ hcs j hlt).elim fun b' hb'=>⟨_,b',hb'⟩) hb (hmem _ (Zl hlt))
     obtain⟨⟨k',n',s',is',ks'⟩,hv⟩:=Ex (is[j]);rw[hv]at ee hcall htk hst;have hil2:hh.b.length≠i:=fun e=>by have:=hp.1.lt;omega
     have q3:∀m,(hh.b++m)[hb.length]?=some (.cells 51 [.int .i64 k,.int .i64 n,.str s,.sl 5 .no (V.cellss is),.sl 1 .no (strsA ks)]):=fun m=>akq g3
     rcases azl (k==5)with e5'|e5'
     ·have hkj:j<ks.length:=by rw[hkl5 e5'];exact hlt
      have hlk2:(j:Int)<((strsA ks).length:Int):=by rw[azd];omega
      have ek:=az5 ks j hkj;have hke:Val.keyE (k==5) (ks.drop j)=Wire.strE ks[j]:=by rw[e5',Zu hkj];rfl
      rw[hke]at htk hst;have hsl:(Wire.strE ks[j]).length=(Wire.num ks[j].length).length+ks[j].length:=by unfold Wire.strE;rw[Za]
      refine go0 (ai @azb (ai t0 (ai t3 (ai t34 (ai t35 (ai t36 (ai hla (ai hlt2 (ai ee (ai ei (ai @bww (ai q3 (ai e5' (ai hlk2 ek)))))))))))))) ?_;refine gc0 (ai t0 (ai t3 (ai t34 (ai t35 t36)))) ?_;refine(bv1 (hp.1.app _) ks[j] (by simp only[Za];omega)).mono ?_;rintro v3 h3 ⟨-,hp3⟩;have g4:=hp3.2.2 _ _ (Ne.symm hne) (q3 _);have g5:=hp3.2.2 _ _ hil2 Zt;refine go0 (ai t0 (ai t3 (ai t34 (ai t35 (ai t36 (ai g4 g5)))))) ?_;refine gc0 (ai t0 (ai t3 (ai t34 (ai t35 t36)))) ?_;refine(hcall _ _ hp3.1 (by simp only[Za];omega)).mono ?_;rintro v4 h4 ⟨-,hp4⟩;have g6:=hp4.2.2 _ _ (Ne.symm hne) g4;refine go0 (ai t0 (ai t3 (ai t34 (ai t35 (ai t36 ei))))) ?_;refine⟨is.length-(j+1),by omega,j+1,rfl,by omega,?_,g6,?_⟩
      ·rw[htk,<-Zi,<-Zi];exact hp.tr (hp3.tr hp4).app
      ·(exact azv (ai t0 (ai t3 (ai t34 (ai t35 (ai t36 ei))))))
     ·have hke:Val.keyE (k==5) (ks.drop j)=[]:=by rw[e5'];rfl
      rw[hke]at htk hst;refine go0 (ai @azb (ai t0 (ai t3 (ai t34 (ai t35 (ai t36 (ai hla (ai hlt2 (ai ee (ai ei (ai @bww (ai q3 e5')))))))))))) ?_;refine gc0 (ai t0 (ai t3 (ai t34 (ai t35 t36)))) ?_;refine(hcall _ _ (hp.1.app _) (by simp only[Za];omega)).mono ?_;rintro v4 h4 ⟨-,hp4⟩;have g6:=hp4.2.2 _ _ (Ne.symm hne) (q3 _);refine go0 (ai t0 (ai t3 (ai t34 (ai t35 (ai t36 ei))))) ?_;refine⟨is.length-(j+1),by omega,j+1,rfl,by omega,?_,g6,?_⟩
      ·rw[htk,Zq,<-Zi];exact hp.tr hp4.app
      ·(exact azv (ai t0 (ai t3 (ai t34 (ai t35 (ai t36 ei))))))
    ·have hlt2:¬(j:Int)<(is.length:Int):=by omega
     rw[Zy (by omega)]at hp;refine go0 (ai t0 (ai t3 (ai t34 (ai t35 (ai t36 hlt2))))) ?_;refine⟨_,le_refl _,rfl,?_⟩;rw[<-Zi,<-Zi];exact hp
 ·rw[if_neg hk45]at hlen⊢;rw[Zz];have e4:(k==4)=false:=by simp;omega
  have e5:(k==5)=false:=by simp;omega
  refine go0 (ai g1 (ai e1 (ai e2 (ai e3 (ai e4 e5))))) ?_;exact⟨_,le_refl _,rfl,hp1.app⟩
theorem dxz(v:V):Val.enc v≠[]:=by
 obtain⟨k,n,s,is,ks⟩:=v;rw[Val.enc];intro h;have:=(List.append_eq_nil_iff.1 h).1;unfold Wire.num Wire.encF at this;split at this<;>simp at this
end AX
namespace Wire
theorem numR_rest(r:St):(numR r).1.rest.length<=r.rest.length:=by
 unfold numR;split
 ·exact Ze _
 ·split
  ·exact Ze _
  ·simp
theorem cntR_rest(r:St)(n:Nat):(cntR r n).1.rest.length<=r.rest.length:=by
 unfold cntR;split
 ·exact Ze _
 ·split
  ·exact Ze _
  ·split
   ·exact Ze _
   ·split
    ·exact Ze _
    ·simp
theorem cntR_cnt(r:St):(cntR r 1).2<=r.rest.length:=by
 unfold cntR;split
 ·simp
 ·split
  ·simp
  ·split
   ·simp
   ·split
    ·simp
    ·next h=>simp only[Nat.div_one]at h⊢;omega
theorem strR_rest(r:St):(strR r).1.rest.length<=r.rest.length:=by
 have:=cntR_rest r 1;unfold strR;dsimp only;split
 ·exact this
 ·simp;omega
end Wire
namespace Val
theorem itemsW_step(one:Wire.St->Res)(m:Bool)(c:Nat)(r:Wire.St)(is:List V)(ks:List (List UInt8))(q:Wire.St×List UInt8)(hq:q=if m then Wire.strR r else(r,[])):itemsW one m (c+1) r is ks=if(one q.1).2.1≠0 then((one q.1).1,(one q.1).2.1,is,ks)else itemsW one m c (one q.1).1 (is++[(one q.1).2.2]) (if m then ks++[q.2]else ks):=by
 subst hq;rw[itemsW]
theorem itemsW_le{one:Wire.St->Res}(h1:∀r,(one r).1.rest.length<=r.rest.length)(m:Bool):∀(c:Nat) (r:Wire.St) (is:List V) (ks:List (List UInt8)),(itemsW one m c r is ks).1.rest.length<=r.rest.length
 |0,r,is,ks=>Ze _
 |c+1,r,is,ks=>by
  obtain⟨q,hqe⟩:∃q,q=if m then Wire.strR r else(r,[]):=⟨_,rfl⟩
  have hq:q.1.rest.length<=r.rest.length:=by
   rw[hqe];split
   ·exact Wire.strR_rest r
   ·exact Ze _
  rw[itemsW_step one m c r is ks q hqe];have h2:=h1 q.1;split
  ·show(one q.1).1.rest.length<=_
   omega
  ·have:=itemsW_le h1 m c (one q.1).1 (is++[(one q.1).2.2]) (if m then ks++[q.2]else ks);omega
theorem read_le:∀(f:Nat) (r:Wire.St),(read f r).1.rest.length<=r.rest.length
 |0,r=>by rw[read];exact Ze _
 |f+1,r=>by
  have ih:=read_le f;have hn:=Wire.numR_rest r;have hn2:=Wire.numR_rest (Wire.numR r).1;have hs2:=Wire.strR_rest (Wire.numR r).1;have hc2:=Wire.cntR_rest (Wire.numR r).1 1;have hi2:=itemsW_le ih ((Wire.numR r).2==5) (Wire.cntR (Wire.numR r).1 1).2 (Wire.cntR (Wire.numR r).1 1).1 [] [];rw[read];unfold readW;dsimp only;split
  ·exact Ze _
  ·split
   ·exact hn
   ·split
    ·exact hn
    ·split
     ·simp only;omega
     ·split
      ·simp only;omega
      ·split
       ·simp only;omega
       ·exact hn
end Val
namespace AX
def RQ(i:Nat)(r:Wire.St)(h h':Hp):Prop:=h'.b[i]?=some (rdr r)/\(∀(j:Nat) x,j≠i->h.b[j]?=some x->h'.b[j]?=some x)/\∀(t:Nat) x,h.t[t]?=some x->h'.t[t]?=some x
theorem RQ.of{i:Nat}{r r':Wire.St}{h:Hp}(hb:h.b[i]?=some (rdr r)):RQ i r' h ⟨h.b.set i (rdr r'),h.t⟩:=by
 have hlt:=(Zb.1 hb).1;refine⟨?_,fun j x hj hx=>?_,fun _ _ hx=>hx⟩
 ·show(List.set _ i _)[i]?=_
  rw[Zm,if_pos rfl,if_pos hlt]
 ·show(List.set _ i _)[j]?=_
  rw[Zm,if_neg (Ne.symm hj)];exact hx
theorem RQ.tr{i:Nat}{r r':Wire.St}{h h' h'':Hp}(a:RQ i r h h')(b:RQ i r' h' h''):RQ i r' h h'':=
 ⟨b.1,fun j x hj hx=>b.2.1 j x hj (a.2.1 j x hj hx),fun t x hx=>b.2.2 t x (a.2.2 t x hx)⟩
theorem azn{l m:List Blk}{i:Nat}{x:Blk}(h:l[i]?=some x):(l++m)[i]?=some x:=by
 rw[ZF (Zb.1 h).1];exact h
theorem azw(l:List Blk)(x y:Blk):(l++[x]).set l.length y=l++[y]:=by
 rw[List.set_append_right _ _ (Ze _)];simp
theorem RQ.app{b:List Blk}{t:_}{m:List Blk}{h':Hp}{i:Nat}{r:Wire.St}(hp:RQ i r ⟨b++m,t⟩ h'):RQ i r ⟨b,t⟩ h':=
 ⟨hp.1,fun j x hj hx=>hp.2.1 j x hj (azn hx),hp.2.2⟩
def Gs(E:TypeId)(W lo:Nat)(h:Hp)(rows:List (List A))(x:A):Prop:=(rows=[]/\x=.sl 0 .nil [])\/∃t,lo<=t/\x=.sl W (.tok t) rows/\h.t[t]?=some (E,W,rows.length)
theorem Gs.app{E:TypeId}{W lo:Nat}{h:Hp}{rows:List (List A)}{x:A}(hg:Gs E W lo h rows x)(hlo:lo<=h.t.length)(bytes:Nat)(y:List A)(h1:rows.length+1<=1000000000)(h2:bytes<=1000):
  ∃x' t',(∀b,appA ⟨b,h.t⟩ E W bytes x (.sl W .no [y])=some (x',⟨b,t'⟩))/\(∀b,Gs E W lo ⟨b,t'⟩ (rows++[y]) x')/\(∀(t:Nat) z,t<lo->h.t[t]?=some z->t'[t]?=some z)/\lo<=t'.length/\∀(t:Nat) E' W' n,E'≠E->h.t[t]?=some (E',W',n)->t'[t]?=some (E',W',n):=by
 have hb1:(rows.length+1)*bytes<=140737488355328:=Zr (Nat.mul_le_mul h1 h2) (by decide);have hb2:1*bytes<=140737488355328:=by omega
 rcases hg with⟨rfl,rfl⟩|⟨t,ht,rfl,htt⟩
 ·refine⟨.sl W (.tok h.t.length) [y],h.t++[(E,W,1)],?_,?_,?_,?_,?_⟩
  ·intro b;exact if_pos (show W=W/\0 < [y].length/\[y].length<=maxLen/\[y].length*bytes<=140737488355328 from⟨rfl,by simp,by simp[maxLen],by simpa using hb2⟩)
  ·intro b;exact .inr ⟨h.t.length,hlo,rfl,by simp⟩
  ·intro t z _ hz;rw[ZF (Zb.1 hz).1];exact hz
  ·simp;omega
  ·intro t E' W' n _ hz;rw[ZF (Zb.1 hz).1];exact hz
 ·refine⟨.sl W (.tok t) (rows++[y]),h.t.set t (E,W,rows.length+1),?_,?_,?_,?_,?_⟩
  ·intro b;exact if_pos (show W=W/\W=W/\0 < [y].length/\h.t[t]?=some (E,W,rows.length)/\rows.length+[y].length<=maxLen/\(rows.length+[y].length)*bytes<=140737488355328 from⟨rfl,rfl,by simp,htt,by simp[maxLen];omega,by simpa using hb1⟩)
  ·intro b;refine .inr ⟨t,ht,rfl,?_⟩;show(h.t.set t _)[t]?=_
   rw[Zm,if_pos rfl,if_pos (Zb.1 htt).1];simp
  ·intro t' z hlt hz;rw[Zm,if_neg (by omega)];exact hz
  ·simpa using hlo
  ·intro t' E' W' n hne hz;rw[Zm,if_neg (fun e=>by subst e;rw[htt]at hz;injection hz with hz;injection hz with hz;exact hne hz.symm)];exact hz
theorem Gs.sl{E:TypeId}{W lo:Nat}{h:Hp}{rows:List (List A)}{x:A}(hg:Gs E W lo h rows x):∃W' o,x=.sl W' o rows:=by
 rcases hg with⟨rfl,rfl⟩|⟨t,_,rfl,_⟩<;>exact⟨_,_,rfl⟩
theorem Gs.one{E:TypeId}{W lo:Nat}{h:Hp}{rows:List (List A)}{x:A}(hg:Gs E W lo h rows x):x.one=true:=by
 rcases hg with⟨_,rfl⟩|⟨t,_,rfl,_⟩<;>rfl
theorem Gs.le{E:TypeId}{W lo:Nat}{h:Hp}{rows:List (List A)}{x:A}(hg:Gs E W lo h rows x):le1 x (.sl W .no rows):=by
 rcases hg with⟨rfl,rfl⟩|⟨t,_,rfl,_⟩<;>simp[le1]
theorem Gs.keep{E:TypeId}{W lo:Nat}{h h':Hp}{rows:List (List A)}{x:A}(hg:Gs E W lo h rows x)(hk:∀(t:Nat) n,h.t[t]?=some (E,W,n)->h'.t[t]?=some (E,W,n)):Gs E W lo h' rows x:=by
 rcases hg with h1|⟨t,h1,h2,h3⟩
 ·exact .inl h1
 ·exact .inr ⟨t,h1,h2,hk _ _ h3⟩
theorem RQ.keep{i:Nat}{r:Wire.St}{h:Hp}(hb:h.b[i]?=some (rdr r))(m:List Blk):RQ i r h ⟨h.b++m,h.t⟩:=⟨azn hb,fun j x _ hx=>azn hx,fun _ _ hx=>hx⟩
theorem RQ.set{i k:Nat}{r:Wire.St}{h h':Hp}(hp:RQ i r h h')(hk:h.b.length<=k)(hi:i≠k)(x:Blk)(t':_)(ht:t'=h'.t):RQ i r h ⟨h'.b.set k x,t'⟩:=by
 subst ht;refine⟨?_,fun j y hj hy=>?_,hp.2.2⟩
 ·show(List.set _ k _)[i]?=_
  rw[Zm,if_neg (Ne.symm hi)];exact hp.1
 ·have:=(Zb.1 hy).1;show(List.set _ k _)[j]?=_
  rw[Zm,if_neg (by omega)];exact hp.2.1 j y hj hy
theorem le_zero(e:Int):le (.tup [.agg [.int .i64 0,.int .i64 0,.str [],.sl 0 .nil [],.sl 0 .nil []],.int .i64 e]) (.tup [Val.zeroV.A,.int .i64 e]):=by
 simp[le,dzb,le2,leL,le1,V.A,V.cells,Val.zeroV,V.cellss,strsA]
def VR(res:Val.Res)(v:A):Prop:=∃l,v=.tup [.agg l,.int .i64 res.2.1]/\l.length=5/\l.all A.one=true/\(res.2.1=0->l=res.2.2.cells)
theorem V.cells_data(v:V):v.cells.all A.data=true:=by
 obtain⟨k,n,s,is,ks⟩:=v;rfl
theorem V.cells_one(v:V):v.cells.length=5/\v.cells.all A.one=true:=by
 obtain⟨k,n,s,is,ks⟩:=v;exact⟨rfl,rfl⟩
theorem VR.err{res:Val.Res}{e:Int}(h:res.2.1=e)(he:e≠0):VR res (.tup [Val.zeroV.A,.int .i64 e]):=
 ⟨Val.zeroV.cells,by rw[h];rfl,(V.cells_one _).1,(V.cells_one _).2,fun h0=>absurd (h.symm.trans h0) he⟩
theorem RQ.tlen{i:Nat}{r:Wire.St}{h h':Hp}(hp:RQ i r h h'):h.t.length<=h'.t.length:=by
 by_cases h0:h.t.length=0
 ·omega
 ·have:=hp.2.2 (h.t.length-1) _ (Zj (by omega));have:=(Zb.1 this).1;omega
theorem dzs{l:List A}(hl:l.length=5):∃a0 a1 a2 a3 a4,l=[a0,a1,a2,a3,a4]:=by
 match l,hl with
 |[a0,a1,a2,a3,a4],_=>exact⟨_,_,_,_,_,rfl⟩
theorem ay3(l:List V)(v:V):V.cellss (l++[v])=V.cellss l++[v.cells]:=by
 rw[V.cellss_map,V.cellss_map];simp
theorem ax3(l:List (List UInt8))(s:List UInt8):strsA (l++[s])=strsA l++[[.str s]]:=by simp[strsA]
def tailOps:List AOper:=[⟨some 86,.load true 5 (.t 9),none,[]⟩,⟨some 87,.mv (.t 0),none,[]⟩,⟨some 88,.call 122 [.t 87],none,[1]⟩,⟨none,.store 5 (.t 4) (.t 86),none,[0,2,0]⟩,⟨some 5,.mv (.t 88),none,[2,3,0,1,2,3]⟩]
theorem cxh{ts:Ts}{hh:Hp}{i b4 b9:Nat}{q:Wire.St}{l l0:List A}{T:TypeId}{Q:AExit->Ts->Hp->Prop}(t0:ts 0=.ptr i 0)(t4:ts 4=.ptr b4 0)(t9:ts 9=.ptr b9 0)(hi:hh.b[i]?=some (rdr q))(h4:hh.b[b4]?=some (.cells T l0))(hl0:l0.length=5)(h9:hh.b[b9]?=some (.cells T l))(hl:l.length=5)(hlo:l.all A.one=true)
  (hQ:Q .normal (put (put (put (put (put ts (some 86) (.agg l)) (some 87) (.ptr i 0)) (some 88) (.int .i64 q.e)) none (.tup [])) (some 5) (.int .i64 q.e)) ⟨hh.b.set b4 (.cells T l),hh.t⟩):awp Tryz.prog GT (.reg true tailOps) Q ts hh:=by
 refine bx0 [3] [hh,⟨hh.b.set b4 (.cells T l),hh.t⟩] [[0],[0,1],[0],[0],[1]] rfl (by decide) ?_;obtain⟨a0,a1,a2,a3,a4,rfl⟩:∃a0 a1 a2 a3 a4,l=[a0,a1,a2,a3,a4]:=by
  match l,hl with
  |[a0,a1,a2,a3,a4],_=>exact⟨_,_,_,_,_,rfl⟩
 obtain⟨c0,c1,c2,c3,c4,rfl⟩:∃a0 a1 a2 a3 a4,l0=[a0,a1,a2,a3,a4]:=by
  match l0,hl0 with
  |[a0,a1,a2,a3,a4],_=>exact⟨_,_,_,_,_,rfl⟩
 refine ak8 (v:=.agg [a0,a1,a2,a3,a4]) rfl ⟨?_,trivial⟩ ?_
 ·simp[evX,astep,loadA,t9,h9]
 refine ak8 (v:=.ptr i 0) rfl ⟨?_,?_,trivial⟩ ?_
 ·simp[evX,put,astep,t0]
 ·simp[evX,put,astep,t0]
 refine cqd (vs:=[.ptr i 0]) (v:=.int .i64 q.e) (by simp[evX,put]) ⟨czj hi,trivial⟩ ?_;refine ak8 (v:=.tup []) rfl ⟨?_,trivial⟩ ?_
 ·simp only[ZK,YK,ZX,Zg]at hlo;simp[evX,put,astep,storeA,t4,h4,setCells,A.cells,hlo]
 refine ak8 (v:=.int .i64 q.e) rfl ⟨?_,trivial⟩ ?_
 ·simp[evX,put,astep]
 exact cw1 hQ
theorem dxk:∀(f:Nat) (r:Wire.St) (i:Nat) (h:Hp),f<=32->h.b[i]?=some (rdr r)->r.rest.length<=100000000->AC 172 [.ptr i 0,.int .i64 (33-(f:Int))] h fun v h'=>VR (Val.read f r) v/\RQ i (Val.read f r).1 h h':=by
 intro f;induction f with
 |zero=>
  rintro r i ⟨hb,ht⟩ hf hbi hlen;refine fo ?_;have hil:=(Zb.1 hbi).1;refine go0 ti ?_;refine gc0 ti ?_;refine(czj (azn hbi)).mono ?_;rintro v h' ⟨rfl,rfl⟩;by_cases he:r.e=0
  ·have he':(r.e !=0)=false:=by simp[he]
   have hlv:(33-((0:Nat):Int))>32:=by decide
   refine go0 (ai he' (ai hlv @azw)) ?_;have hRR:Val.read 0 r=(r,4,Val.zeroV):=by rw[Val.read,if_neg (by simp[he])]
   rw[hRR];exact⟨_,le_zero 4,VR.err rfl (by decide),RQ.keep hbi _⟩
  ·have he':(r.e !=0)=true:=by simp[he]
   refine go0 (ai he' @azw) ?_;have hRR:Val.read 0 r=(r,r.e,Val.zeroV):=by rw[Val.read,if_pos (by simp[he])]
   rw[hRR];exact⟨_,le_zero r.e,VR.err rfl he,RQ.keep hbi _⟩
 |succ f ih=>
  rintro r i ⟨hb,ht⟩ hf hbi hlen;refine fo ?_;have hil:i<hb.length:=(Zb.1 hbi).1;have hR:Val.read (f+1) r=Val.readW (Val.read f) r:=by rw[Val.read]
  refine go0 ti ?_;refine gc0 ti ?_;refine(czj (azn hbi)).mono ?_;rintro v h' ⟨rfl,rfl⟩;by_cases he:r.e=0
  rotate_left
  ·have he':(r.e !=0)=true:=by simp[he]
   refine go0 (ai he' @azw) ?_;have hRR:Val.read (f+1) r=(r,r.e,Val.zeroV):=by rw[hR,Val.readW,if_pos he]
   rw[hRR];exact⟨_,le_zero r.e,VR.err rfl he,RQ.keep hbi _⟩
  have he':(r.e !=0)=false:=by simp[he]
  have hlv:¬(33-((f+1:Nat):Int))>32:=by omega
  refine go0 (ai he' hlv) ?_;refine gc0 ti ?_;refine(axr (azn hbi) hlen).mono ?_;rintro v h1 ⟨rfl,hh1⟩;have hq1:RQ i (Wire.numR r).1 ⟨hb,ht⟩ h1:=by rw[hh1];exact(RQ.of (h:=⟨hb++_,ht⟩) (azn hbi)).app
  have hz1:h1.b[hb.length]?=some (.cells 51 [.int .i64 0,.int .i64 0,.str [],.sl 0 .nil [],.sl 0 .nil []]):=by
   rw[hh1];show(List.set _ i _)[hb.length]?=_
   rw[Zm,if_neg (by omega)];exact Zt
  clear hh1;have hn:=Wire.numR_rest r;obtain⟨q,hq⟩:=Ex (Wire.numR r);rw[hq]at hq1 hn⊢;have hsz:∀(i':Nat) x,(h1.b++[x])[hb.length]?=some (.cells 51 [.int .i64 0,.int .i64 0,.str [],.sl 0 .nil [],.sl 0 .nil []]):=fun _ x=>azn hz1
  have hset:∀y,(h1.b.set hb.length y)[hb.length]?=some y:=fun y=>by
   rw[Zm,if_pos rfl,if_pos (Zb.1 hz1).1]
  refine go0 ti ?_;refine gc0 ti ?_;refine(czj hq1.1).mono ?_;rintro v h1 ⟨rfl,rfl⟩;by_cases hqe:q.1.e=0
  rotate_left
  ·have he':(q.1.e !=0)=true:=by simp[hqe]
   refine go0 (ai he' (ai hz1 hset)) ?_;have hRR:Val.read (f+1) r=(q.1,q.1.e,Val.zeroV):=by
    rw[hR,Val.readW,if_neg (by simp[he])];dsimp only;rw[hq,if_pos hqe]
   rw[hRR];exact⟨_,le_zero q.1.e,VR.err rfl hqe,hq1.set (Ze _) (by show i≠hb.length;omega) _ _ rfl⟩
  have he'':(q.1.e !=0)=false:=by simp[hqe]
  have hil1:i≠h1.b.length:=fun e=>by have:=(Zb.1 hq1.1).1;omega
  have hb4:hb.length≠h1.b.length:=fun e=>by have:=(Zb.1 hz1).1;omega
  have hib4:i≠hb.length:=by omega
  have hbl:hb.length<=h1.b.length:=by have:=(Zb.1 hz1).1;omega
  have hW:Val.readW (Val.read f) r=if q.2<0\/6<q.2 then(q.1,1,Val.zeroV)
   else if q.2=1\/q.2=2 then((Wire.numR q.1).1,(Wire.numR q.1).1.e,.mk q.2 (Wire.numR q.1).2 [] [] [])
   else if q.2=3 then((Wire.strR q.1).1,(Wire.strR q.1).1.e,.mk q.2 0 (Wire.strR q.1).2 [] [])
   else if q.2=4\/q.2=5 then((Val.itemsW (Val.read f) (q.2==5) (Wire.cntR q.1 1).2 (Wire.cntR q.1 1).1 [] []).1,(Val.itemsW (Val.read f) (q.2==5) (Wire.cntR q.1 1).2 (Wire.cntR q.1 1).1 [] []).2.1,.mk q.2 0 [] (Val.itemsW (Val.read f) (q.2==5) (Wire.cntR q.1 1).2 (Wire.cntR q.1 1).1 [] []).2.2.1 (Val.itemsW (Val.read f) (q.2==5) (Wire.cntR q.1 1).2 (Wire.cntR q.1 1).1 [] []).2.2.2)
   else(q.1,0,.mk q.2 0 [] [] []):=by
   rw[Val.readW,if_neg (by simp[he])];dsimp only;rw[hq,if_neg (by simp[hqe])]
  by_cases hk0:q.2<0
  ·refine go0 (ai he'' (ai hk0 (ai hz1 hset))) ?_;have hRR:Val.read (f+1) r=(q.1,1,Val.zeroV):=by rw[hR,hW,if_pos (.inl hk0)]
   rw[hRR];exact⟨_,le_zero 1,VR.err rfl (by decide),hq1.set (Ze _) hib4 _ _ rfl⟩
  by_cases hk6:q.2>6
  ·refine go0 (ai he'' (ai hk0 (ai hk6 (ai hz1 hset)))) ?_;have hRR:Val.read (f+1) r=(q.1,1,Val.zeroV):=by rw[hR,hW,if_pos (.inr hk6)]
   rw[hRR];exact⟨_,le_zero 1,VR.err rfl (by decide),hq1.set (Ze _) hib4 _ _ rfl⟩
  rw[if_neg (by omega)]at hW;have fin:∀(h2:Hp) (q2:Wire.St) (n:Int) (s:List UInt8) (is:List V) (ks:List (List UInt8)) (X Y:A),RQ i q2 ⟨hb,ht⟩ h2->Val.read (f+1) r=(q2,q2.e,.mk q.2 n s is ks)->le1 X (.sl 5 .no (V.cellss is))->le1 Y (.sl 1 .no (strsA ks)) ->
    ∃v,le (.tup [.agg [.int .i64 q.2,.int .i64 n,.str s,X,Y],.int .i64 q2.e]) v/\VR (Val.read (f+1) r) v/\RQ i (Val.read (f+1) r).1 ⟨hb,ht⟩ ⟨h2.b.set hb.length (.cells 51 [.int .i64 q.2,.int .i64 n,.str s,X,Y]),h2.t⟩:=by
   intro h2 q2 n s is ks X Y hp e hX hY;rw[e];refine⟨.tup [(V.mk q.2 n s is ks).A,.int .i64 q2.e],?_,⟨_,rfl,(V.cells_one (V.mk q.2 n s is ks)).1,(V.cells_one (V.mk q.2 n s is ks)).2,fun _=>rfl⟩,hp.set (Ze _) hib4 _ _ rfl⟩;simp only[V.A,V.cells,le,dzb,le2,leL,hX,hY,and_true,true_and];simp[le1]
  have hnilX:le1 (.sl 0 .nil []) (.sl 5 .no (V.cellss [])):=by simp[le1,V.cellss]
  have hnilY:le1 (.sl 0 .nil []) (.sl 1 .no (strsA [])):=by simp[le1,strsA]
  have leaf:∀(ts:Ts) (h2:Hp) (q2:Wire.St) (n:Int) (s:List UInt8) (is:List V) (ks:List (List UInt8)) (X Y:A),ts 0=.ptr i 0->ts 4=.ptr hb.length 0->ts 9=.ptr h1.b.length 0->RQ i q2 ⟨hb,ht⟩ h2 ->
    h2.b[hb.length]?=some (.cells 51 [.int .i64 0,.int .i64 0,.str [],.sl 0 .nil [],.sl 0 .nil []])->h2.b[h1.b.length]?=some (.cells 51 [.int .i64 q.2,.int .i64 n,.str s,X,Y])->X.one=true->Y.one=true ->
    Val.read (f+1) r=(q2,q2.e,.mk q.2 n s is ks)->le1 X (.sl 5 .no (V.cellss is))->le1 Y (.sl 1 .no (strsA ks)) ->
    awp Tryz.prog GT (.reg true tailOps) (thenA (awp Tryz.prog GT .ret (finQ [.c 4 true 5,.t 5] fun v h'=>VR (Val.read (f+1) r) v/\RQ i (Val.read (f+1) r).1 ⟨hb,ht⟩ h')) (finQ [.c 4 true 5,.t 5] fun v h'=>VR (Val.read (f+1) r) v/\RQ i (Val.read (f+1) r).1 ⟨hb,ht⟩ h')) ts h2:=by
   intro ts h2 q2 n s is ks X Y t0 t4 t9 hp g4 g9 hX1 hY1 e hX hY;refine cxh t0 t4 t9 hp.1 g4 rfl g9 rfl (by simp only[ZK,YK,hX1,hY1];rfl) ?_;have hs4:∀y,(h2.b.set hb.length y)[hb.length]?=some y:=fun y=>by
    rw[Zm,if_pos rfl,if_pos (Zb.1 g4).1]
   refine go0 (ai t4 hs4) ?_;exact fin h2 q2 n s is ks X Y hp e hX hY
  have aft:∀(q2:Wire.St) (h2:Hp),h2=⟨(h1.b++[(.cells 51 [.int .i64 q.2,.int .i64 0,.str [],.sl 0 .nil [],.sl 0 .nil []]:Blk)]).set i (rdr q2),h1.t⟩->RQ i q2 ⟨hb,ht⟩ h2 /\
    h2.b[hb.length]?=some (.cells 51 [.int .i64 0,.int .i64 0,.str [],.sl 0 .nil [],.sl 0 .nil []])/\h2.b[h1.b.length]?=some (.cells 51 [.int .i64 q.2,.int .i64 0,.str [],.sl 0 .nil [],.sl 0 .nil []]):=by
   rintro q2 h2 rfl;refine⟨hq1.tr (RQ.of (h:=⟨h1.b++_,h1.t⟩) (azn hq1.1)).app,?_,?_⟩
   ·show(List.set _ i _)[_]?=_
    rw[Zm,if_neg hib4];exact azn hz1
   ·show(List.set _ i _)[_]?=_
    rw[Zm,if_neg hil1];exact Zt
  by_cases hk12:q.2=1\/q.2=2
  ·rw[if_pos hk12]at hW;have e12:(q.2==1)=true\/(q.2==1)=false/\(q.2==2)=true:=by
    rcases hk12 with h|h
    ·exact .inl (by simp[h])
    ·exact .inr ⟨by simp[h],by simp[h]⟩
   rcases e12 with e1|⟨e1,e2⟩;all_goals
    refine go0 (ai he'' (ai hk0 (ai hk6 (ai @azw e1)))) ?_
    try (refine go0 (ai he'' (ai hk0 (ai hk6 (ai @azw (ai e1 e2))))) ?_)
    refine gc0 ti ?_;refine(axr (azn hq1.1) (by omega)).mono ?_;rintro v h2 ⟨rfl,hh2⟩;obtain⟨hq2,g4,g9⟩:=aft _ _ hh2;have h9:∀y,(h2.b.set h1.b.length y)[h1.b.length]?=some y:=fun y=>by
     rw[Zm,if_pos rfl,if_pos (Zb.1 g9).1]
    clear hh2;refine go0 g9 ?_;refine leaf _ _ (Wire.numR q.1).1 (Wire.numR q.1).2 [] [] [] _ _ (by(exact ev0 ti)) (by(exact ev0 ti)) (by(exact ev0 ti)) (hq2.set (by exact hbl) hil1 _ _ rfl) ?_ (h9 _) rfl rfl (by rw[hR,hW]) hnilX hnilY;show(List.set _ _ _)[_]?=_
    rw[Zm,if_neg (Ne.symm hb4)];exact g4
  rw[if_neg hk12]at hW;have e1:(q.2==1)=false:=by simp;omega
  have e2:(q.2==2)=false:=by simp;omega
  by_cases hk3:q.2=3
  ·rw[if_pos hk3]at hW;have e3:(q.2==3)=true:=by simp[hk3]
   refine go0 (ai he'' (ai hk0 (ai hk6 (ai @azw (ai e1 (ai e2 e3)))))) ?_;refine gc0 ti ?_;refine(avl (azn hq1.1) (by omega)).mono ?_;rintro v h2 ⟨rfl,hh2⟩;obtain⟨hq2,g4,g9⟩:=aft _ _ hh2;have h9:∀y,(h2.b.set h1.b.length y)[h1.b.length]?=some y:=fun y=>by
    rw[Zm,if_pos rfl,if_pos (Zb.1 g9).1]
   clear hh2;refine go0 g9 ?_;refine leaf _ _ (Wire.strR q.1).1 0 (Wire.strR q.1).2 [] [] _ _ (by(exact ev0 ti)) (by(exact ev0 ti)) (by(exact ev0 ti)) (hq2.set (by exact hbl) hil1 _ _ rfl) ?_ (h9 _) rfl rfl (by rw[hR,hW]) hnilX hnilY;show(List.set _ _ _)[_]?=_
   rw[Zm,if_neg (Ne.symm hb4)];exact g4
  rw[if_neg hk3]at hW;have e3:(q.2==3)=false:=by simp[hk3]
  by_cases hk45:q.2=4\/q.2=5
  ·rw[if_pos hk45]at hW;have e45:(q.2==4)=true\/(q.2==4)=false/\(q.2==5)=true:=by
    rcases hk45 with h|h
    ·exact .inl (by simp[h])
    ·exact .inr ⟨by simp[h],by simp[h]⟩
   rcases e45 with e4|⟨e4,e5⟩;all_goals
    refine go0 (ai he'' (ai hk0 (ai hk6 (ai @azw (ai e1 (ai e2 (ai e3 e4))))))) ?_
    try (refine go0 (ai he'' (ai hk0 (ai hk6 (ai @azw (ai e1 (ai e2 (ai e3 (ai e4 e5)))))))) ?_)
    refine gc0 ti ?_;refine(bz6 (azn hq1.1) (by omega)).mono ?_;rintro v h2 ⟨rfl,hh2⟩;obtain⟨hq2,g4,g9⟩:=aft _ _ hh2;clear hh2;have hcr:=Wire.cntR_rest q.1 1;have hcc:=Wire.cntR_cnt q.1;obtain⟨c0,hc0⟩:=Ex (Wire.cntR q.1 1);rw[hc0]at hq2 hcr hcc hW⊢;refine go0 g9 ?_
    refine azg (fun m ts hh=>∃(j:Nat) (p:Wire.St) (is:List V) (ks:List (List UInt8)) (X Y:A),m=c0.2-j/\j<=c0.2/\Val.itemsW (Val.read f) (q.2==5) (c0.2-j) p is ks=Val.itemsW (Val.read f) (q.2==5) c0.2 c0.1 [] []/\RQ i p ⟨hb,ht⟩ hh/\p.rest.length<=q.1.rest.length/\is.length<=j/\ks.length<=j /\
      hh.b[hb.length]?=some (.cells 51 [.int .i64 0,.int .i64 0,.str [],.sl 0 .nil [],.sl 0 .nil []])/\hh.b[h1.b.length]?=some (.cells 51 [.int .i64 q.2,.int .i64 0,.str [],X,Y])/\Gs 51 5 ht.length hh (V.cellss is) X/\Gs 9 1 ht.length hh (strsA ks) Y/\ht.length<=hh.t.length /\
      ts 0=.ptr i 0/\ts 1=.int .i64 (33-((f+1:Nat):Int))/\ts 4=.ptr hb.length 0/\ts 9=.ptr h1.b.length 0/\ts 55=.int .i64 c0.2/\ts 56=.int .i64 j) c0.2 ?_ ?_
    ·refine⟨0,c0.1,[],[],_,_,rfl,ZB _,rfl,hq2,hcr,Ze _,Ze _,g4,g9,.inl ⟨rfl,rfl⟩,.inl ⟨rfl,rfl⟩,hq2.tlen,?_⟩;(exact azv ti)
    ·rintro m ts hh ⟨j,p,is,ks,X,Y,rfl,hj,hit,hp,hpl,hil2,hkl2,g4,g9,gX,gY,htl,t0,t1,t4,t9,t55,t56⟩;by_cases hlt:j<c0.2
     ·have hlt2:(j:Int)<(c0.2:Int):=by omega
      have ei:IntKind.i64.wrap ((j:Int)+1)=(j:Int)+1:=wrap64 (by omega) (by omega);have elv:IntKind.i64.wrap ((33-((f+1:Nat):Int))+1)=33-(f:Int):=by rw[wrap64 (by omega) (by omega)];omega
      obtain⟨d,hd⟩:∃d,c0.2-j=d+1:=⟨c0.2-j-1,by omega⟩;obtain⟨q2,hq2e⟩:∃q2,q2=if(q.2==5)=true then Wire.strR p else(p,[]):=⟨_,rfl⟩
      rw[hd,Val.itemsW_step _ _ _ _ _ _ q2 hq2e]at hit;have hbi:=hp.1;have hcell:∀y,(hh.b.set i y)[h1.b.length]?=some (.cells 51 [.int .i64 q.2,.int .i64 0,.str [],X,Y]):=fun y=>by
       rw[Zm,if_neg hil1];exact g9
      rcases azl (q.2==5)with e5'|e5'
      ·rw[if_pos e5']at hq2e;have hp':RQ i q2.1 ⟨hb,ht⟩ ⟨hh.b.set i (rdr q2.1),hh.t⟩:=hp.tr (RQ.of hbi);have hpl':q2.1.rest.length<=p.rest.length:=by rw[hq2e];exact Wire.strR_rest p
       obtain⟨ks',hks'⟩:∃l,l=(if(q.2==5)=true then ks++[q2.2]else ks):=⟨_,rfl⟩;rw[<-hks']at hit;rw[if_pos e5']at hks';obtain⟨Y',t',hY1,hY2,hY3,hY4,hY5⟩:=gY.app htl 16 [.str q2.2] (by rw[azd];omega) (by decide);obtain⟨Wy0,oy0,rfl⟩:=Gs.sl gY;obtain⟨Wy1,oy1,rfl⟩:=Gs.sl (hY2 []);refine go0 (ai t0 (ai t1 (ai t4 (ai t9 (ai t55 (ai t56 (ai hlt2 (ai g9 e5')))))))) ?_;refine bx0 [3,5,7] [hh,⟨hh.b.set i (rdr q2.1),hh.t⟩,⟨hh.b.set i (rdr q2.1),t'⟩,⟨(hh.b.set i (rdr q2.1)).set h1.b.length (.cells 51 [.int .i64 q.2,.int .i64 0,.str [],X,.sl Wy1 oy1 (strsA ks++[[.str q2.2]])]),t'⟩] [[0,1,2],[0,1],[0],[0],[1],[1],[2],[2]] rfl (by decide) ?_;refine ak8 (v:=.ptr h1.b.length 4) rfl ⟨?_,?_,?_,trivial⟩ ?_
       ·simp[evX,put,astep,t9]
       ·simp[evX,put,astep,t9]
       ·simp[evX,put,astep,t9]
       refine ak8 (v:=.sl Wy0 oy0 (strsA ks)) rfl ⟨?_,?_,trivial⟩ ?_
       ·simp[evX,put,astep,loadA,g9]
       ·simp[evX,put,astep,loadA,hcell]
       refine ak8 (v:=.ptr i 0) rfl ⟨?_,trivial⟩ ?_
       ·simp[evX,put,astep,t0]
       refine cqd (vs:=[.ptr i 0]) (v:=.str q2.2) (by simp[evX,put]) ⟨?_,trivial⟩ ?_
       ·rw[hq2e];exact avl hp.1 (by omega)
       refine ak8 (v:=.sl 1 .no [[.str q2.2]]) rfl ⟨?_,trivial⟩ ?_
       ·simp[evX,put,astep,rowsA,A.cells,A.data]
       refine ak8 (v:=.sl Wy1 oy1 (strsA ks++[[.str q2.2]])) rfl ⟨?_,trivial⟩ ?_
       ·show appA _ _ _ _ _ _=_
        simp only[evX,put,Nat.reduceEqDiff,if_true,if_false,ite_true,ite_false,reduceIte];exact hY1 _
       refine ak8 (v:=.ptr h1.b.length 4) rfl ⟨?_,trivial⟩ ?_
       ·simp[evX,put,astep,t9]
       refine ak8 (v:=.tup []) rfl ⟨?_,trivial⟩ ?_
       ·simp[evX,put,astep,storeA,hcell,setCells,A.cells,A.one]
       refine cw1 ?_;have hsetl:h1.b.length<(hh.b.set i (rdr q2.1)).length:=(Zb.1 (hcell (rdr q2.1))).1;show thenA _ _ .normal _ (⟨(hh.b.set i (rdr q2.1)).set h1.b.length (.cells 51 [.int .i64 q.2,.int .i64 0,.str [],X,.sl Wy1 oy1 (strsA ks++[[.str q2.2]])]),t'⟩:Hp)
       have g4:((hh.b.set i (rdr q2.1)).set h1.b.length (.cells 51 [.int .i64 q.2,.int .i64 0,.str [],X,.sl Wy1 oy1 (strsA ks++[[.str q2.2]])]))[hb.length]?=some (.cells 51 [.int .i64 0,.int .i64 0,.str [],.sl 0 .nil [],.sl 0 .nil []]):=by
        rw[Zm,if_neg (Ne.symm hb4),Zm,if_neg hib4];exact g4
       have g9:((hh.b.set i (rdr q2.1)).set h1.b.length (.cells 51 [.int .i64 q.2,.int .i64 0,.str [],X,.sl Wy1 oy1 (strsA ks++[[.str q2.2]])]))[h1.b.length]?=some (.cells 51 [.int .i64 q.2,.int .i64 0,.str [],X,.sl Wy1 oy1 (strsA ks++[[.str q2.2]])]):=by
        rw[Zm,if_pos rfl,if_pos hsetl]
       have gX:=Gs.keep (h':=⟨(hh.b.set i (rdr q2.1)).set h1.b.length (.cells 51 [.int .i64 q.2,.int .i64 0,.str [],X,.sl Wy1 oy1 (strsA ks++[[.str q2.2]])]),t'⟩) gX fun t n hz=>hY5 t _ _ _ (by decide) hz
       have gY:Gs 9 1 ht.length ⟨(hh.b.set i (rdr q2.1)).set h1.b.length (.cells 51 [.int .i64 q.2,.int .i64 0,.str [],X,.sl Wy1 oy1 (strsA ks++[[.str q2.2]])]),t'⟩ (strsA ks') (.sl Wy1 oy1 (strsA ks++[[.str q2.2]])):=by
        rw[hks',ax3];exact hY2 _
       have htl:=hY4;have hkl2:ks'.length<=j+1:=by rw[hks'];simp;omega
       have hp':RQ i q2.1 ⟨hb,ht⟩ ⟨(hh.b.set i (rdr q2.1)).set h1.b.length (.cells 51 [.int .i64 q.2,.int .i64 0,.str [],X,.sl Wy1 oy1 (strsA ks++[[.str q2.2]])]),t'⟩:=by
        refine⟨?_,fun j y hj hy=>?_,fun t y hy=>?_⟩
        ·show(List.set _ _ _)[i]?=_
         rw[Zm,if_neg (Ne.symm hil1)];exact hp'.1
        ·have hjl:j<hb.length:=(Zb.1 hy).1;show(List.set _ _ _)[j]?=_
         rw[Zm,if_neg (by omega)];exact hp'.2.1 j y hj hy
        ·exact hY3 t y (Zb.1 hy).1 (hp'.2.2 t y hy)
       have u0:=t0;have u1:=t1;refine go0 (ai t0 (ai t1 (ai t4 (ai t9 (ai t55 (ai t56 elv)))))) ?_;refine gc0 (ai t0 (ai t1 (ai t4 (ai t9 (ai elv (ai u0 u1)))))) ?_;refine(ih q2.1 i _ (by omega) hp'.1 (by omega)).mono ?_;rintro v h3 ⟨⟨l3,rfl,hl3,ho3,hv3⟩,hp3⟩;obtain⟨x,hx⟩:=Ex (Val.read f q2.1);have hxl:=Val.read_le f q2.1;rw[hx]at hit hv3 hp3 hxl⊢;obtain⟨a0,a1,a2,a3,a4,rfl⟩:=dzs hl3;have g4':=hp3.2.1 _ _ (Ne.symm hib4) g4;have g9':=hp3.2.1 _ _ (Ne.symm hil1) g9;have h4n:∀y,(h3.b++[y])[hb.length]?=_:=fun y=>azn g4'
       have h9n:∀y,(h3.b++[y])[h1.b.length]?=_:=fun y=>azn g9'
       have hl4:hb.length<h3.b.length:=(Zb.1 g4').1;have hl9:h1.b.length<h3.b.length:=(Zb.1 g9').1;have hs4:∀y z,((h3.b++[y]).set hb.length z)[hb.length]?=some z:=fun y z=>by
        rw[Zm,if_pos rfl,if_pos (by simp;omega)]
       simp only[ZK,YK,ZX,Zg]at ho3;simp only[A.one]at ho3;obtain⟨o0,o1,o2,o3,o4⟩:=ho3;by_cases hx0:x.2.1=0
       rotate_left
       ·have hx0':(x.2.1 !=0)=true:=by simp[hx0]
        rw[if_pos hx0]at hit;have hRR:Val.read (f+1) r=(x.1,x.2.1,.mk q.2 0 [] is ks):=by rw[hR,hW,<-hit]
        refine go0 (ai t0 (ai t1 (ai t4 (ai t9 (ai t55 (ai t56 (ai @azw (ai hx0' (ai h4n (ai hs4 (ai o0 (ai o1 (ai o2 (ai o3 o4)))))))))))))) ?_;rw[hRR];exact⟨_,le_zero x.2.1,VR.err rfl hx0,RQ.set (h':=⟨h3.b++_,h3.t⟩) ⟨azn (hp'.tr hp3).1,fun j x hj hx=>azn ((hp'.tr hp3).2.1 j x hj hx),(hp'.tr hp3).2.2⟩ (Ze _) hib4 _ _ rfl⟩
       ·have hx0':(x.2.1 !=0)=false:=by simp[hx0]
        rw[if_neg (by simp[hx0])]at hit;have hv:=hv3 hx0;obtain⟨X',t'',hX1,hX2,hX3,hX4,hX5⟩:=(Gs.keep (h':=h3) gX fun t n hh=>hp3.2.2 _ _ hh).app (Zr htl hp3.tlen) 80 x.2.2.cells (by rw[V.cellss_length];omega) (by decide);rw[<-hv]at hX1 hX2;have hdd:=V.cells_data x.2.2;rw[<-hv]at hdd;simp only[ZK,YK,ZX,Zg,A.data]at hdd;obtain⟨d0,d1,d2,d3,d4⟩:=hdd;obtain⟨Wx,ox,rfl⟩:=Gs.sl (hX2 []);have hdummy:=trivial;refine go0 (ai t0 (ai t1 (ai t4 (ai t9 (ai t55 (ai t56 (ai @azw (ai hx0' (ai h4n (ai h9n (ai hs4 (ai o0 (ai o1 (ai o2 (ai o3 (ai o4 (ai ei (ai d0 (ai d1 (ai d2 (ai d3 d4))))))))))))))))))))) ?_;refine cjm (v:=.sl Wx ox (V.cellss is++[[a0,a1,a2,a3,a4]])) (h':=⟨h3.b++[.cells 51 [a0,a1,a2,a3,a4]],t''⟩) rfl ?_ ?_
        ·simp only[aq6,aqf,aqc,ayj,ayg,aqd,ax8,ajc,ajf,azk,aqh,astep,bop,uop,loadA,storeA,ssliceA,eqA,eqCells,fillA,rowsA,setCells,A.cells,az4,ZK,YK,ZX,ZH,ZY,Yz,YN,Y3,Yb,YD,ZM,Yn,Ye,Z5,ZU,ZR,Zf,Zo,Zq,ZE,Zz,YT,YU,YW,Z4,Yd,Yt,Zab,Za,ZA,Nat.reduceAdd,Nat.reduceSub,Nat.reduceMul,Nat.reduceLeDiff,Nat.reduceEqDiff,Nat.reduceBEq,Yu,YJ,if_true,if_false,reduceIte,ite_true,ite_false,true_and,and_true,ne_eq,Yw,YH,Zn,reduceCtorEq,and_self,Yj,Yr,Ze,Yc,Z9,decide_true,decide_false];exact hX1 _
        refine go0 (ai t0 (ai t1 (ai t4 (ai t9 (ai t55 (ai t56 (ai h9n ei))))))) ?_;refine⟨c0.2-(j+1),by omega,j+1,x.1,is++[x.2.2],ks',.sl Wx ox (V.cellss is++[[a0,a1,a2,a3,a4]]),.sl Wy1 oy1 (strsA ks++[[.str q2.2]]),rfl,by omega,?_,?_,by omega,by simp;omega,by omega,?_,?_,?_,?_,hX4,?_⟩
        ·rw[show c0.2-(j+1)=d by omega];exact hit
        ·have hp3':=hp'.tr hp3;refine⟨?_,fun j y hj hy=>?_,fun t y hy=>?_⟩
         ·show(List.set _ _ _)[i]?=_
          rw[Zm,if_neg (Ne.symm hil1)];exact azn hp3'.1
         ·have hjl:j<hb.length:=(Zb.1 hy).1;show(List.set _ _ _)[j]?=_
          rw[Zm,if_neg (by omega)];exact azn (hp3'.2.1 j y hj hy)
         ·exact hX3 t y (Zb.1 hy).1 (hp3'.2.2 t y hy)
        ·show(List.set _ _ _)[_]?=_
         rw[Zm,if_neg (Ne.symm hb4)];exact h4n _
        ·show(List.set _ _ _)[_]?=_
         rw[Zm,if_pos rfl,if_pos (by simp;omega)]
        ·rw[ay3,<-hv];exact hX2 _
        ·exact Gs.keep (Gs.keep (h':=h3) gY fun t n hh=>hp3.2.2 _ _ hh) fun t n hh=>hX5 t _ _ _ (by decide) hh
        ·(exact azv (ai t0 (ai t1 (ai t4 (ai t9 (ai t55 (ai t56 ei)))))))
      ·rw[if_neg (by simp[e5'])]at hq2e;have hp':RQ i q2.1 ⟨hb,ht⟩ hh:=by rw[hq2e];exact hp
       have hpl':q2.1.rest.length<=p.rest.length:=by rw[hq2e];exact Ze _
       obtain⟨ks',hks'⟩:∃l,l=(if(q.2==5)=true then ks++[q2.2]else ks):=⟨_,rfl⟩;rw[<-hks']at hit;rw[if_neg (by simp[e5'])]at hks';rw[<-hks']at gY hkl2;have u0:=t0;have u1:=t1;refine go0 (ai t0 (ai t1 (ai t4 (ai t9 (ai t55 (ai t56 (ai hlt2 (ai g9 (ai e5' elv))))))))) ?_;refine gc0 (ai t0 (ai t1 (ai t4 (ai t9 (ai elv (ai u0 u1)))))) ?_;refine(ih q2.1 i _ (by omega) hp'.1 (by omega)).mono ?_;rintro v h3 ⟨⟨l3,rfl,hl3,ho3,hv3⟩,hp3⟩;obtain⟨x,hx⟩:=Ex (Val.read f q2.1);have hxl:=Val.read_le f q2.1;rw[hx]at hit hv3 hp3 hxl⊢;obtain⟨a0,a1,a2,a3,a4,rfl⟩:=dzs hl3;have g4':=hp3.2.1 _ _ (Ne.symm hib4) g4;have g9':=hp3.2.1 _ _ (Ne.symm hil1) g9;have h4n:∀y,(h3.b++[y])[hb.length]?=_:=fun y=>azn g4'
       have h9n:∀y,(h3.b++[y])[h1.b.length]?=_:=fun y=>azn g9'
       have hl4:hb.length<h3.b.length:=(Zb.1 g4').1;have hl9:h1.b.length<h3.b.length:=(Zb.1 g9').1;have hs4:∀y z,((h3.b++[y]).set hb.length z)[hb.length]?=some z:=fun y z=>by
        rw[Zm,if_pos rfl,if_pos (by simp;omega)]
       simp only[ZK,YK,ZX,Zg]at ho3;simp only[A.one]at ho3;obtain⟨o0,o1,o2,o3,o4⟩:=ho3;by_cases hx0:x.2.1=0
       rotate_left
       ·have hx0':(x.2.1 !=0)=true:=by simp[hx0]
        rw[if_pos hx0]at hit;have hRR:Val.read (f+1) r=(x.1,x.2.1,.mk q.2 0 [] is ks):=by rw[hR,hW,<-hit]
        refine go0 (ai t0 (ai t1 (ai t4 (ai t9 (ai t55 (ai t56 (ai @azw (ai hx0' (ai h4n (ai hs4 (ai o0 (ai o1 (ai o2 (ai o3 o4)))))))))))))) ?_;rw[hRR];exact⟨_,le_zero x.2.1,VR.err rfl hx0,RQ.set (h':=⟨h3.b++_,h3.t⟩) ⟨azn (hp'.tr hp3).1,fun j x hj hx=>azn ((hp'.tr hp3).2.1 j x hj hx),(hp'.tr hp3).2.2⟩ (Ze _) hib4 _ _ rfl⟩
       ·have hx0':(x.2.1 !=0)=false:=by simp[hx0]
        rw[if_neg (by simp[hx0])]at hit;have hv:=hv3 hx0;obtain⟨X',t'',hX1,hX2,hX3,hX4,hX5⟩:=(Gs.keep (h':=h3) gX fun t n hh=>hp3.2.2 _ _ hh).app (Zr htl hp3.tlen) 80 x.2.2.cells (by rw[V.cellss_length];omega) (by decide);rw[<-hv]at hX1 hX2;have hdd:=V.cells_data x.2.2;rw[<-hv]at hdd;simp only[ZK,YK,ZX,Zg,A.data]at hdd;obtain⟨d0,d1,d2,d3,d4⟩:=hdd;obtain⟨Wx,ox,rfl⟩:=Gs.sl (hX2 []);obtain⟨Wy,oy,rfl⟩:=Gs.sl gY;refine go0 (ai t0 (ai t1 (ai t4 (ai t9 (ai t55 (ai t56 (ai @azw (ai hx0' (ai h4n (ai h9n (ai hs4 (ai o0 (ai o1 (ai o2 (ai o3 (ai o4 (ai ei (ai d0 (ai d1 (ai d2 (ai d3 d4))))))))))))))))))))) ?_;refine cjm (v:=.sl Wx ox (V.cellss is++[[a0,a1,a2,a3,a4]])) (h':=⟨h3.b++[.cells 51 [a0,a1,a2,a3,a4]],t''⟩) rfl ?_ ?_
        ·simp only[aq6,aqf,aqc,ayj,ayg,aqd,ax8,ajc,ajf,azk,aqh,astep,bop,uop,loadA,storeA,ssliceA,eqA,eqCells,fillA,rowsA,setCells,A.cells,az4,ZK,YK,ZX,ZH,ZY,Yz,YN,Y3,Yb,YD,ZM,Yn,Ye,Z5,ZU,ZR,Zf,Zo,Zq,ZE,Zz,YT,YU,YW,Z4,Yd,Yt,Zab,Za,ZA,Nat.reduceAdd,Nat.reduceSub,Nat.reduceMul,Nat.reduceLeDiff,Nat.reduceEqDiff,Nat.reduceBEq,Yu,YJ,if_true,if_false,reduceIte,ite_true,ite_false,true_and,and_true,ne_eq,Yw,YH,Zn,reduceCtorEq,and_self,Yj,Yr,Ze,Yc,Z9,decide_true,decide_false];exact hX1 _
        refine go0 (ai t0 (ai t1 (ai t4 (ai t9 (ai t55 (ai t56 (ai h9n ei))))))) ?_;refine⟨c0.2-(j+1),by omega,j+1,x.1,is++[x.2.2],ks',.sl Wx ox (V.cellss is++[[a0,a1,a2,a3,a4]]),.sl Wy oy (strsA ks'),rfl,by omega,?_,?_,by omega,by simp;omega,by omega,?_,?_,?_,?_,hX4,?_⟩
        ·rw[show c0.2-(j+1)=d by omega];exact hit
        ·have hp3':=hp'.tr hp3;refine⟨?_,fun j y hj hy=>?_,fun t y hy=>?_⟩
         ·show(List.set _ _ _)[i]?=_
          rw[Zm,if_neg (Ne.symm hil1)];exact azn hp3'.1
         ·have hjl:j<hb.length:=(Zb.1 hy).1;show(List.set _ _ _)[j]?=_
          rw[Zm,if_neg (by omega)];exact azn (hp3'.2.1 j y hj hy)
         ·exact hX3 t y (Zb.1 hy).1 (hp3'.2.2 t y hy)
        ·show(List.set _ _ _)[_]?=_
         rw[Zm,if_neg (Ne.symm hb4)];exact h4n _
        ·show(List.set _ _ _)[_]?=_
         rw[Zm,if_pos rfl,if_pos (by simp;omega)]
        ·rw[ay3,<-hv];exact hX2 _
        ·exact Gs.keep (Gs.keep (h':=h3) gY fun t n hh=>hp3.2.2 _ _ hh) fun t n hh=>hX5 t _ _ _ (by decide) hh
        ·(exact azv (ai t0 (ai t1 (ai t4 (ai t9 (ai t55 (ai t56 ei)))))))
     ·have hlt2:¬(j:Int)<(c0.2:Int):=by omega
      rw[show c0.2-j=0 by omega,Val.itemsW]at hit;refine go0 (ai t0 (ai t1 (ai t4 (ai t9 (ai t55 (ai t56 hlt2)))))) ?_;exact leaf _ _ p 0 [] is ks X Y (by(exact ev0 t0)) (by(exact ev0 t4)) (by(exact ev0 t9)) hp g4 g9 (Gs.one gX) (Gs.one gY) (by rw[hR,hW,<-hit]) (Gs.le gX) (Gs.le gY)
  rw[if_neg hk45]at hW;have e4:(q.2==4)=false:=by simp;omega
  have e5:(q.2==5)=false:=by simp;omega
  have g9:(h1.b++[(.cells 51 [.int .i64 q.2,.int .i64 0,.str [],.sl 0 .nil [],.sl 0 .nil []]:Blk)])[h1.b.length]?=some (.cells 51 [.int .i64 q.2,.int .i64 0,.str [],.sl 0 .nil [],.sl 0 .nil []]):=Zt;refine go0 (ai he'' (ai hk0 (ai hk6 (ai @azw (ai e1 (ai e2 (ai e3 (ai e4 e5)))))))) ?_;exact leaf _ _ q.1 0 [] [] [] _ _ (by(exact ev0 ti)) (by(exact ev0 ti)) (by(exact ev0 ti)) ⟨azn hq1.1,fun j x hj hx=>azn (hq1.2.1 j x hj hx),hq1.2.2⟩ (azn hz1) g9 rfl rfl (by rw[hR,hW,hqe]) hnilX hnilY
end AX
theorem Wire.strR_len(r:Wire.St):(Wire.strR r).2.length<=r.rest.length:=by
 have:=Wire.cntR_rest r 1;unfold Wire.strR;dsimp only;split
 ·simp
 ·simp;omega
theorem V.lensS_of:∀{l:List V},(∀x∈l,x.lens)->V.lensS l
 |[],_=>by unfold V.lensS;trivial
 |v::l,h=>by
  unfold V.lensS;exact⟨h v (by simp),V.lensS_of fun x hx=>h x (by simp[hx])⟩
theorem V.lens_of{k n:Int}{s:List UInt8}{is:List V}{ks:List (List UInt8)}(h1:is.length<=1000000000)(h2:ks.length<=1000000000)(h3:s.length<=1000000000)(h4:∀q∈ks,q.length<=1000000000)(h5:∀x∈is,x.lens):(V.mk k n s is ks).lens:=by
 unfold V.lens;simp only[maxLen];exact⟨by omega,by omega,by omega,fun q hq=>by have:=h4 q hq;omega,V.lensS_of h5⟩
namespace Val
theorem itemsW_lens{one:Wire.St->Res}(h1:∀r,r.rest.length<=100000000->(one r).2.2.lens)(hle:∀r,(one r).1.rest.length<=r.rest.length)(m:Bool):∀(c:Nat) (r:Wire.St) (is:List V) (ks:List (List UInt8)),r.rest.length<=100000000->(∀x∈is,x.lens)->(∀k∈ks,k.length<=1000000000) ->
  (∀x∈(itemsW one m c r is ks).2.2.1,x.lens)/\(∀k∈(itemsW one m c r is ks).2.2.2,k.length<=1000000000)/\(itemsW one m c r is ks).2.2.1.length<=is.length+c/\(itemsW one m c r is ks).2.2.2.length<=ks.length+c
 |0,r,is,ks,hr,hi,hk=>by rw[itemsW];exact⟨hi,hk,Ze _,Ze _⟩
 |c+1,r,is,ks,hr,hi,hk=>by
  obtain⟨q,hqe⟩:∃q,q=if m then Wire.strR r else(r,[]):=⟨_,rfl⟩
  have hq:q.1.rest.length<=r.rest.length/\q.2.length<=r.rest.length:=by
   rw[hqe];split
   ·exact⟨Wire.strR_rest r,Wire.strR_len r⟩
   ·exact⟨Ze _,by simp⟩
  rw[itemsW_step one m c r is ks q hqe];have h2:=hle q.1;split
  ·exact⟨hi,hk,by simp,by simp⟩
  ·have ih:=itemsW_lens h1 hle m c (one q.1).1 (is++[(one q.1).2.2]) (if m then ks++[q.2]else ks) (by omega) (fun x hx=>by
    rcases Yk.1 hx with hx|hx
    ·exact hi x hx
    ·rw[ZJ.1 hx];exact h1 _ (by omega)) (fun k hkk=>by
    split at hkk
    ·rcases Yk.1 hkk with hkk|hkk
     ·exact hk k hkk
     ·rw[ZJ.1 hkk];omega
    ·exact hk k hkk)
   refine⟨ih.1,ih.2.1,?_,?_⟩
   ·have:=ih.2.2.1;simp only[Za,Zf,Zo]at this;omega
   ·have:=ih.2.2.2;have hl:(if m then ks++[q.2]else ks).length<=ks.length+1:=by split<;>simp
    omega
theorem zero_lens:zeroV.lens:=V.lens_of (by simp) (by simp) (by simp) (by simp) (by simp)
theorem read_lens:∀(f:Nat) (r:Wire.St),r.rest.length<=100000000->(read f r).2.2.lens
 |0,r,hr=>by rw[read];exact zero_lens
 |f+1,r,hr=>by
  have ih:=read_lens f;have hn:=Wire.numR_rest r;have hs2:=Wire.strR_len (Wire.numR r).1;have hc2:=Wire.cntR_rest (Wire.numR r).1 1;have hc3:=Wire.cntR_cnt (Wire.numR r).1;have hi2:=itemsW_lens ih (read_le f) ((Wire.numR r).2==5) (Wire.cntR (Wire.numR r).1 1).2 (Wire.cntR (Wire.numR r).1 1).1 [] [] (by omega) (by simp) (by simp);simp only[Zo]at hi2;rw[read];unfold readW;dsimp only;split
  ·exact zero_lens
  ·split
   ·exact zero_lens
   ·split
    ·exact zero_lens
    ·split
     ·exact V.lens_of (by simp) (by simp) (by simp) (by simp) (by simp)
     ·split
      ·exact V.lens_of (by simp) (by simp) (by omega) (by simp) (by simp)
      ·split
       ·exact V.lens_of (by omega) (by omega) (by simp) hi2.2.1 hi2.1
       ·exact V.lens_of (by simp) (by simp) (by simp) (by simp) (by simp)
end Val
namespace AX
theorem bv3(r:Wire.St)(i:Nat)(h:Hp)(hbi:h.b[i]?=some (rdr r))(hlen:r.rest.length<=100000000):AC 152 [.ptr i 0] h fun v h'=>v=.tup [(Val.readValue r).2.2.A,.int .i64 (Val.readValue r).2.1]/\RQ i (Val.readValue r).1 h h':=by
 obtain⟨hb,ht⟩:=h;refine fo ?_;have hil:i<hb.length:=(Zb.1 hbi).1;have hR:Val.readValue r=if(Val.read 32 r).2.1≠0 then((Val.read 32 r).1,(Val.read 32 r).2.1,Val.zeroV)else if Val.checkZ (Val.read 32 r).2.2≠0 then((Val.read 32 r).1,Val.checkZ (Val.read 32 r).2.2,Val.zeroV)else Val.read 32 r:=by rw[Val.readValue]
 have hlens:=Val.read_lens 32 r hlen;refine go0 ti ?_;refine gc0 ti ?_;refine(dxk 32 r i _ (Ze _) (azn hbi) hlen).mono ?_;rintro v h1 ⟨⟨l3,rfl,hl3,ho3,hv3⟩,hp⟩;obtain⟨x,hx⟩:=Ex (Val.read 32 r);rw[hx]at hR hv3 hp hlens⊢;obtain⟨a0,a1,a2,a3,a4,rfl⟩:=dzs hl3;have g2:h1.b[hb.length]?=some (.cells 51 [.int .i64 0,.int .i64 0,.str [],.sl 0 .nil [],.sl 0 .nil []]):=hp.2.1 _ _ (by omega) Zt;have hl2:hb.length<h1.b.length:=(Zb.1 g2).1;have hib:i≠hb.length:=by omega
 have h2n:∀y,(h1.b++[y])[hb.length]?=_:=fun y=>azn g2
 have hs2:∀y z,((h1.b++[y]).set hb.length z)[hb.length]?=some z:=fun y z=>by
  rw[Zm,if_pos rfl,if_pos (by simp;omega)]
 have hout:∀y z,RQ i x.1 ⟨hb,ht⟩ ⟨(h1.b++[y]).set hb.length z,h1.t⟩:=fun y z=>
  RQ.set (h:=⟨hb,ht⟩) (h':=⟨h1.b++[y],h1.t⟩) ⟨azn hp.1,fun j w hj hw=>azn (hp.2.1 j w hj (azn hw)),hp.2.2⟩ (Ze _) hib _ _ rfl
 simp only[ZK,YK,ZX,Zg,A.one]at ho3;obtain⟨o0,o1,o2,o3,o4⟩:=ho3;by_cases hx0:x.2.1=0
 rotate_left
 ·have e1:(x.2.1==0)=false:=by simp[hx0]
  have e2:(x.2.1 !=0)=true:=by simp[hx0]
  rw[if_pos hx0]at hR;refine go0 (ai @azw (ai o0 (ai o1 (ai o2 (ai o3 (ai o4 (ai e1 (ai e2 (ai h2n hs2))))))))) ?_;rw[hR];exact⟨_,le_zero x.2.1,rfl,hout _ _⟩
 have e1:(x.2.1==0)=true:=by simp[hx0]
 rw[if_neg (by simp[hx0])]at hR;have hv:=hv3 hx0;refine go0 (ai @azw (ai o0 (ai o1 (ai o2 (ai o3 (ai o4 (ai e1 (ai h2n hs2)))))))) ?_;refine gc0 @azw ?_;have hck:=fun h=>aku x.2.2 hlens h
 rw[V.A,<-hv]at hck;refine(hck _).mono ?_;rintro v h2 ⟨rfl,rfl⟩;by_cases hz:Val.checkZ x.2.2=0
 ·rw[if_neg (by simp[hz])]at hR;have e2:(Val.checkZ x.2.2 !=0)=false:=by simp[hz]
  refine go0 (ai @azw (ai o0 (ai o1 (ai o2 (ai o3 (ai o4 (ai e2 (ai h2n hs2)))))))) ?_;rw[hR];refine⟨_,le_refl _,?_,hout _ _⟩;rw[aqh,V.A,<-hv,hx0]
 ·rw[if_pos hz]at hR;have e2:(Val.checkZ x.2.2 !=0)=true:=by simp[hz]
  refine go0 (ai @azw (ai o0 (ai o1 (ai o2 (ai o3 (ai o4 (ai e2 (ai h2n hs2)))))))) ?_;rw[hR];exact⟨_,le_zero (Val.checkZ x.2.2),rfl,hout _ _⟩
def aj0:AX.AFn:=⟨7,aS [aR 2 (.mv (.c (.nilp)))] (aS [aM 3 0,aR 4 (.build [.str [],.int .i64 0,.bool false] [(0,1,.t 3),(2,1,.c (.bool true))]),aR 5 (.build [.str [],.int .i64 0,.bool false] [(0,3,.t 4)]),aR 6 (.box 164 (.t 5)),aM 2 6] (.ret)),[.t 2]⟩
theorem bki:AX.compFn Tryz.prog 88=some aj0:=by kernel_rfl
theorem ak9(l:List UInt8)(h:Hp):AC 88 [.str l] h fun v h'=>v=.ptr h.b.length 0/\h'=⟨h.b++[rdr ⟨l,0⟩],h.t⟩:=by
 refine azf mixedT bki (by simp[aj0]) ?_;dsimp only[aj0];refine go0 ti ?_;exact⟨_,le_refl _,rfl,rfl⟩
theorem cxw(r:Wire.St):(rdr r).loc 0:=rfl
theorem bva{h:Hp}{i:Nat}{r:Wire.St}(hb:h.b[i]?=some (rdr r))(hlen:r.rest.length<=100000000):AC 152 [.ptr i 0] h fun v h'=>v=.tup [(Val.readValue r).2.2.A,.int .i64 (Val.readValue r).2.1]/\h'=⟨h.b.set i (rdr (Val.readValue r).1),h.t⟩:=by
 have h1:AC 152 [.ptr 0 0] ⟨[rdr r],[]⟩ fun v h'=>∃b',h'.b[0]?=some b'/\v=.tup [(Val.readValue r).2.2.A,.int .i64 (Val.readValue r).2.1]/\b'=rdr (Val.readValue r).1:=
  (bv3 r 0 ⟨[rdr r],[]⟩ rfl hlen).mono fun v h' ⟨e,hp⟩=>⟨_,hp.1,e,rfl⟩
 refine(ACall.lift1 h1 rfl (cxw r) ?_ hb).mono ?_
 ·rintro v b' ⟨rfl,rfl⟩;refine⟨?_,cxw _⟩;obtain⟨k,n,s,is,ks⟩:=(Val.readValue r).2.2;rfl
 ·rintro v h' ⟨b',⟨rfl,rfl⟩,rfl⟩;exact⟨rfl,rfl⟩
theorem ays(r:Wire.St)(hlen:r.rest.length<=100000000):(Val.readValue r).2.2.lens:=by
 unfold Val.readValue;dsimp only;split
 ·exact Val.zero_lens
 ·split
  ·exact Val.zero_lens
  ·exact Val.read_lens 32 r hlen
end AX
namespace Wire
end Wire
namespace Val
end Val
namespace AX
theorem Gs.grow{E:TypeId}{W:Nat}{t:List (TypeId×Nat×Nat)}{W1:Nat}{o1:Own}{rows:List (List A)}(hg:Gs E W 0 ⟨[],t⟩ rows (.sl W1 o1 rows))(bytes:Nat)(y:List A)(h1:rows.length+1<=1000000000)(h2:bytes<=1000):
  ∃W' o' t',(∀b,appA ⟨b,t⟩ E W bytes (.sl W1 o1 rows) (.sl W .no [y])=some (.sl W' o' (rows++[y]),⟨b,t'⟩))/\Gs E W 0 ⟨[],t'⟩ (rows++[y]) (.sl W' o' (rows++[y]))/\(∀(E':TypeId) (W':Nat) (rows':List (List A)) (x'':A),E'≠E->Gs E' W' 0 ⟨[],t⟩ rows' x''->Gs E' W' 0 ⟨[],t'⟩ rows' x''):=by
 obtain⟨x',t',k1,k2,k3,k4,k5⟩:=hg.app (ZB _) bytes y h1 h2;obtain⟨W',o',rfl⟩:=(k2 []).sl;exact⟨W',o',t',k1,k2 [],fun E' W' rows' x'' hne hg'=>Gs.keep hg' fun k n hh=>k5 k _ _ _ hne hh⟩
end AX
end Go.Proofs.YthhpocnmfknalaaGreatDoor
