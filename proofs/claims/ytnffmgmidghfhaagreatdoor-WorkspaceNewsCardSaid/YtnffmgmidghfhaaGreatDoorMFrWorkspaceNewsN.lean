/- Part of what the proof needs. -/
import Derived.Test.YtnffmgmidghfhaaGreatDoorMFrWorkspaceNewsM
set_option maxHeartbeats 4000000
set_option maxRecDepth 100000
set_option linter.all false
namespace Go.Proofs.YtnffmgmidghfhaaGreatDoor
section
open Go.RowKit
namespace Wire
theorem numR_rest(r:St):(numR r).1.rest.length<=r.rest.length:=by
 unfold numR;split
 ·exact Ze _
 ·split
  ·exact Ze _
  ·simp
theorem cntR_rest(r:St)(n:Nat):(cntR r n).1.rest.length<=r.rest.length:=by
 unfold cntR;split
 ·exact Ze _
 ·split
  ·exact Ze _
  ·split
   ·exact Ze _
   ·split
    ·exact Ze _
    ·simp
theorem cntR_cnt(r:St):(cntR r 1).2<=r.rest.length:=by
 unfold cntR;split
 ·simp
 ·split
  ·simp
  ·split
   ·simp
   ·split
    ·simp
    ·next h=>simp only[Nat.div_one]at h⊢;omega
theorem strR_rest(r:St):(strR r).1.rest.length<=r.rest.length:=by
 have:=cntR_rest r 1;unfold strR;dsimp only;split
 ·exact this
 ·simp;omega
end Wire
namespace Val
theorem itemsW_step(one:Wire.St->Res)(m:Bool)(c:Nat)(r:Wire.St)(is:List V)(ks:List (List UInt8))(q:Wire.St×List UInt8)(hq:q=if m then Wire.strR r else(r,[])):itemsW one m (c+1) r is ks=if(one q.1).2.1≠0 then((one q.1).1,(one q.1).2.1,is,ks)else itemsW one m c (one q.1).1 (is++[(one q.1).2.2]) (if m then ks++[q.2]else ks):=by
 subst hq;rw[itemsW]
theorem itemsW_le{one:Wire.St->Res}(h1:∀r,(one r).1.rest.length<=r.rest.length)(m:Bool):∀(c:Nat) (r:Wire.St) (is:List V) (ks:List (List UInt8)),(itemsW one m c r is ks).1.rest.length<=r.rest.length
 |0,r,is,ks=>Ze _
 |c+1,r,is,ks=>by
  obtain⟨q,hqe⟩:∃q,q=if m then Wire.strR r else(r,[]):=⟨_,rfl⟩
  have hq:q.1.rest.length<=r.rest.length:=by
   rw[hqe];split
   ·exact Wire.strR_rest r
   ·exact Ze _
  rw[itemsW_step one m c r is ks q hqe];have h2:=h1 q.1;split
  ·show(one q.1).1.rest.length<=_
   omega
  ·have:=itemsW_le h1 m c (one q.1).1 (is++[(one q.1).2.2]) (if m then ks++[q.2]else ks);omega
theorem read_le:∀(f:Nat) (r:Wire.St),(read f r).1.rest.length<=r.rest.length
 |0,r=>by rw[read];exact Ze _
 |f+1,r=>by
  have ih:=read_le f;have hn:=Wire.numR_rest r;have hn2:=Wire.numR_rest (Wire.numR r).1;have hs2:=Wire.strR_rest (Wire.numR r).1;have hc2:=Wire.cntR_rest (Wire.numR r).1 1;have hi2:=itemsW_le ih ((Wire.numR r).2==5) (Wire.cntR (Wire.numR r).1 1).2 (Wire.cntR (Wire.numR r).1 1).1 [] [];rw[read];unfold readW;dsimp only;split
  ·exact Ze _
  ·split
   ·exact hn
   ·split
    ·exact hn
    ·split
     ·simp only;omega
     ·split
      ·simp only;omega
      ·split
       ·simp only;omega
       ·exact hn
end Val
namespace AX
def bqm:AX.AFn:=⟨89,aS [aR 4 (.alloc 32 [.int .i64 0,.int .i64 0,.str [],.sl 0 .nil [],.sl 0 .nil []]),aR 5 (.mv (aI 0))] (.seq (aS [aM 12 0,aR 13 (.call 104 [.t 12]),aM 6 13] (aS [aM 14 6,aR 15 (.bin .neq (.t 14) (aI 0))] (.cond (.t 15) (aS [aR 16 (.build [.int .i64 0,.int .i64 0,.str [],.sl 0 .nil [],.sl 0 .nil []] []),aM 17 6,aU (.store 5 (.t 4) (.t 16)),aM 5 17] (.ret)) (.skip)))) (.seq (aS [aM 18 1,aR 19 (.bin .gtr (.t 18) (aI 32))] (.cond (.t 19) (aS [aR 20 (.build [.int .i64 0,.int .i64 0,.str [],.sl 0 .nil [],.sl 0 .nil []] []),aU (.store 5 (.t 4) (.t 20)),aR 5 (.mv (aI 4))] (.ret)) (.skip))) (aS [aM 21 0,aR 22 (.call 79 [.t 21]),aM 7 22] (.seq (aS [aM 23 0,aR 24 (.call 104 [.t 23]),aM 8 24] (aS [aM 25 8,aR 26 (.bin .neq (.t 25) (aI 0))] (.cond (.t 26) (aS [aR 27 (.build [.int .i64 0,.int .i64 0,.str [],.sl 0 .nil [],.sl 0 .nil []] []),aM 28 8,aU (.store 5 (.t 4) (.t 27)),aM 5 28] (.ret)) (.skip)))) (.seq (aS [aM 29 7,aR 30 (.bin .lss (.t 29) (aI 0)),aM 31 30,aG 32 (.mv (.t 7)) 31 false,aG 33 (.bin .gtr (.t 32) (aI 6)) 31 false,aR 34 (.pick (.t 31) (.c (.bool true)) (.t 33))] (.cond (.t 34) (aS [aR 35 (.build [.int .i64 0,.int .i64 0,.str [],.sl 0 .nil [],.sl 0 .nil []] []),aU (.store 5 (.t 4) (.t 35)),aR 5 (.mv (aI 1))] (.ret)) (.skip))) (aS [aM 36 7,aR 37 (.build [.int .i64 0,.int .i64 0,.str [],.sl 0 .nil [],.sl 0 .nil []] [(0,1,.t 36)]),aR 9 (.alloc 32 [.int .i64 0,.int .i64 0,.str [],.sl 0 .nil [],.sl 0 .nil []]),aU (.store 5 (.t 9) (.t 37))] (.seq (aS [aF 38 0 9,aL 39 38] (.block 0 (.seq (aS [aR 41 (.bin .eql (.t 39) (aI 1)),aM 40 41] (.cond (.t 40) (.skip) (.reg false [aR 42 (.bin .eql (.t 39) (aI 2)),aM 40 42]))) (.cond (.t 40) (.reg false [aM 43 0,aR 44 (.call 79 [.t 43]),aF 45 1 9,aU (.store 1 (.t 45) (.t 44))]) (aS [aR 47 (.bin .eql (.t 39) (aI 3)),aM 46 47] (.cond (.t 46) (.reg false [aM 48 0,aR 49 (.call 109 [.t 48]),aF 50 2 9,aU (.store 1 (.t 50) (.t 49))]) (.seq (aS [aR 52 (.bin .eql (.t 39) (aI 4)),aM 51 52] (.cond (.t 51) (.skip) (.reg false [aR 53 (.bin .eql (.t 39) (aI 5)),aM 51 53]))) (.cond (.t 51) (aS [aM 54 0,aR 55 (.call 110 [.t 54,aI 1]),aR 56 (.mv (aI 0))] (.block 1 (.loop (aS [aR 57 (.bin .lss (.t 56) (.t 55))] (.seq (.cond (.t 57) (.skip) (.exit 1)) (.seq (.block 2 (.seq (aS [aF 58 0 9,aL 59 58,aR 60 (.bin .eql (.t 59) (aI 5))] (.cond (.t 60) (.reg true [aF 61 4 9,⟨some 62,.load false 1 (.t 61),none,[0]⟩,aM 63 0,⟨some 64,.call 109 [.t 63],none,[2]⟩,⟨some 65,.mks 1 [.t 64],none,[3]⟩,⟨some 66,.app 9 1 16 (.t 62) (.t 65),none,[1,4,3]⟩,⟨some 67,.faddr 4 (.t 9),none,[0,1,2,3,4,5]⟩,⟨none,.store 1 (.t 67) (.t 66),none,[6,5,5,0,1,2,3,4,5]⟩]) (.skip))) (aS [aM 69 0,aM 70 1,aR 71 (.bin .add (.t 70) (aI 1)),aR 72 (.call 143 [.t 69,.t 71]),aM 68 72,aE 73 68 0,aE 74 68 1,aR 10 (.alloc 32 [.int .i64 0,.int .i64 0,.str [],.sl 0 .nil [],.sl 0 .nil []]),aU (.store 5 (.t 10) (.t 73)),aM 11 74] (.seq (aS [aM 75 11,aR 76 (.bin .neq (.t 75) (aI 0))] (.cond (.t 76) (aS [aR 77 (.build [.int .i64 0,.int .i64 0,.str [],.sl 0 .nil [],.sl 0 .nil []] []),aM 78 11,aU (.store 5 (.t 4) (.t 77)),aM 5 78] (.ret)) (.skip))) (.reg false [aF 79 3 9,aL 80 79,aR 81 (.load true 5 (.t 10)),aR 82 (.mks 5 [.t 81]),aR 83 (.app 32 5 80 (.t 80) (.t 82)),aF 84 3 9,aU (.store 1 (.t 84) (.t 83))]))))) (.reg false [aR 85 (.bin .add (.t 56) (aI 1)),aM 56 85]))))))) (.skip))))))))) (.seq (.reg true [aR 86 (.load true 5 (.t 9)),aM 87 0,⟨some 88,.call 104 [.t 87],none,[1]⟩,⟨none,.store 5 (.t 4) (.t 86),none,[0,2,0]⟩,⟨some 5,.mv (.t 88),none,[2,3,0,1,2,3]⟩]) (.ret))))))))),[.c 4 true 5,.t 5]⟩
theorem cvv:AX.compFn Tryz.prog 143=some bqm:=by kernel_rfl
def RQ(i:Nat)(r:Wire.St)(h h':Hp):Prop:=h'.b[i]?=some (rdr r)/\(∀(j:Nat) x,j≠i->h.b[j]?=some x->h'.b[j]?=some x)/\∀(t:Nat) x,h.t[t]?=some x->h'.t[t]?=some x
theorem RQ.of{i:Nat}{r r':Wire.St}{h:Hp}(hb:h.b[i]?=some (rdr r)):RQ i r' h ⟨h.b.set i (rdr r'),h.t⟩:=by
 have hlt:=(Zc.1 hb).1;refine⟨?_,fun j x hj hx=>?_,fun _ _ hx=>hx⟩
 ·show(List.set _ i _)[i]?=_
  rw[Zj,if_pos rfl,if_pos hlt]
 ·show(List.set _ i _)[j]?=_
  rw[Zj,if_neg (Ne.symm hj)];exact hx
theorem RQ.tr{i:Nat}{r r':Wire.St}{h h' h'':Hp}(a:RQ i r h h')(b:RQ i r' h' h''):RQ i r' h h'':=
 ⟨b.1,fun j x hj hx=>b.2.1 j x hj (a.2.1 j x hj hx),fun t x hx=>b.2.2 t x (a.2.2 t x hx)⟩
theorem azi{l m:List Blk}{i:Nat}{x:Blk}(h:l[i]?=some x):(l++m)[i]?=some x:=by
 rw[Zt (Zc.1 h).1];exact h
theorem azt(l:List Blk)(x y:Blk):(l++[x]).set l.length y=l++[y]:=by
 rw[List.set_append_right _ _ (Ze _)];simp
theorem RQ.app{b:List Blk}{t:_}{m:List Blk}{h':Hp}{i:Nat}{r:Wire.St}(hp:RQ i r ⟨b++m,t⟩ h'):RQ i r ⟨b,t⟩ h':=
 ⟨hp.1,fun j x hj hx=>hp.2.1 j x hj (azi hx),hp.2.2⟩
def Gs(E:TypeId)(W lo:Nat)(h:Hp)(rows:List (List A))(x:A):Prop:=(rows=[]/\x=.sl 0 .nil [])\/∃t,lo<=t/\x=.sl W (.tok t) rows/\h.t[t]?=some (E,W,rows.length)
theorem Gs.app{E:TypeId}{W lo:Nat}{h:Hp}{rows:List (List A)}{x:A}(hg:Gs E W lo h rows x)(hlo:lo<=h.t.length)(bytes:Nat)(y:List A)(h1:rows.length+1<=1000000000)(h2:bytes<=1000):
  ∃x' t',(∀b,appA ⟨b,h.t⟩ E W bytes x (.sl W .no [y])=some (x',⟨b,t'⟩))/\(∀b,Gs E W lo ⟨b,t'⟩ (rows++[y]) x')/\(∀(t:Nat) z,t<lo->h.t[t]?=some z->t'[t]?=some z)/\lo<=t'.length/\∀(t:Nat) E' W' n,E'≠E->h.t[t]?=some (E',W',n)->t'[t]?=some (E',W',n):=by
 have hb1:(rows.length+1)*bytes<=140737488355328:=Zr (Nat.mul_le_mul h1 h2) (by decide);have hb2:1*bytes<=140737488355328:=by omega
 rcases hg with⟨rfl,rfl⟩|⟨t,ht,rfl,htt⟩
 ·refine⟨.sl W (.tok h.t.length) [y],h.t++[(E,W,1)],?_,?_,?_,?_,?_⟩
  ·intro b;exact if_pos (show W=W/\0 < [y].length/\[y].length<=maxLen/\[y].length*bytes<=140737488355328 from⟨rfl,by simp,by simp[maxLen],by simpa using hb2⟩)
  ·intro b;exact .inr ⟨h.t.length,hlo,rfl,by simp⟩
  ·intro t z _ hz;rw[Zt (Zc.1 hz).1];exact hz
  ·simp;omega
  ·intro t E' W' n _ hz;rw[Zt (Zc.1 hz).1];exact hz
 ·refine⟨.sl W (.tok t) (rows++[y]),h.t.set t (E,W,rows.length+1),?_,?_,?_,?_,?_⟩
  ·intro b;exact if_pos (show W=W/\W=W/\0 < [y].length/\h.t[t]?=some (E,W,rows.length)/\rows.length+[y].length<=maxLen/\(rows.length+[y].length)*bytes<=140737488355328 from⟨rfl,rfl,by simp,htt,by simp[maxLen];omega,by simpa using hb1⟩)
  ·intro b;refine .inr ⟨t,ht,rfl,?_⟩;show(h.t.set t _)[t]?=_
   rw[Zj,if_pos rfl,if_pos (Zc.1 htt).1];simp
  ·intro t' z hlt hz;rw[Zj,if_neg (by omega)];exact hz
  ·simpa using hlo
  ·intro t' E' W' n hne hz;rw[Zj,if_neg (fun e=>by subst e;rw[htt]at hz;injection hz with hz;injection hz with hz;exact hne hz.symm)];exact hz
theorem Gs.sl{E:TypeId}{W lo:Nat}{h:Hp}{rows:List (List A)}{x:A}(hg:Gs E W lo h rows x):∃W' o,x=.sl W' o rows:=by
 rcases hg with⟨rfl,rfl⟩|⟨t,_,rfl,_⟩<;>exact⟨_,_,rfl⟩
theorem Gs.one{E:TypeId}{W lo:Nat}{h:Hp}{rows:List (List A)}{x:A}(hg:Gs E W lo h rows x):x.one=true:=by
 rcases hg with⟨_,rfl⟩|⟨t,_,rfl,_⟩<;>rfl
theorem Gs.le{E:TypeId}{W lo:Nat}{h:Hp}{rows:List (List A)}{x:A}(hg:Gs E W lo h rows x):le1 x (.sl W .no rows):=by
 rcases hg with⟨rfl,rfl⟩|⟨t,_,rfl,_⟩<;>simp[le1]
theorem Gs.keep{E:TypeId}{W lo:Nat}{h h':Hp}{rows:List (List A)}{x:A}(hg:Gs E W lo h rows x)(hk:∀(t:Nat) n,h.t[t]?=some (E,W,n)->h'.t[t]?=some (E,W,n)):Gs E W lo h' rows x:=by
 rcases hg with h1|⟨t,h1,h2,h3⟩
 ·exact .inl h1
 ·exact .inr ⟨t,h1,h2,hk _ _ h3⟩
theorem RQ.keep{i:Nat}{r:Wire.St}{h:Hp}(hb:h.b[i]?=some (rdr r))(m:List Blk):RQ i r h ⟨h.b++m,h.t⟩:=⟨azi hb,fun j x _ hx=>azi hx,fun _ _ hx=>hx⟩
theorem RQ.set{i k:Nat}{r:Wire.St}{h h':Hp}(hp:RQ i r h h')(hk:h.b.length<=k)(hi:i≠k)(x:Blk)(t':_)(ht:t'=h'.t):RQ i r h ⟨h'.b.set k x,t'⟩:=by
 subst ht;refine⟨?_,fun j y hj hy=>?_,hp.2.2⟩
 ·show(List.set _ k _)[i]?=_
  rw[Zj,if_neg (Ne.symm hi)];exact hp.1
 ·have:=(Zc.1 hy).1;show(List.set _ k _)[j]?=_
  rw[Zj,if_neg (by omega)];exact hp.2.1 j y hj hy
theorem le_zero(e:Int):le (.tup [.agg [.int .i64 0,.int .i64 0,.str [],.sl 0 .nil [],.sl 0 .nil []],.int .i64 e]) (.tup [Val.zeroV.A,.int .i64 e]):=by
 simp[le,cwo,le2,leL,le1,V.A,V.cells,Val.zeroV,V.cellss,strsA]
def VR(res:Val.Res)(v:A):Prop:=∃l,v=.tup [.agg l,.int .i64 res.2.1]/\l.length=5/\l.all A.one=true/\(res.2.1=0->l=res.2.2.cells)
theorem V.cells_data(v:V):v.cells.all A.data=true:=by
 obtain⟨k,n,s,is,ks⟩:=v;rfl
theorem V.cells_one(v:V):v.cells.length=5/\v.cells.all A.one=true:=by
 obtain⟨k,n,s,is,ks⟩:=v;exact⟨rfl,rfl⟩
theorem VR.err{res:Val.Res}{e:Int}(h:res.2.1=e)(he:e≠0):VR res (.tup [Val.zeroV.A,.int .i64 e]):=
 ⟨Val.zeroV.cells,by rw[h];rfl,(V.cells_one _).1,(V.cells_one _).2,fun h0=>absurd (h.symm.trans h0) he⟩
theorem RQ.tlen{i:Nat}{r:Wire.St}{h h':Hp}(hp:RQ i r h h'):h.t.length<=h'.t.length:=by
 by_cases h0:h.t.length=0
 ·omega
 ·have:=hp.2.2 (h.t.length-1) _ (Zi (by omega));have:=(Zc.1 this).1;omega
theorem ckt{l:List A}(hl:l.length=5):∃a0 a1 a2 a3 a4,l=[a0,a1,a2,a3,a4]:=by
 match l,hl with
 |[a0,a1,a2,a3,a4],_=>exact⟨_,_,_,_,_,rfl⟩
theorem aw6(l:List V)(v:V):V.cellss (l++[v])=V.cellss l++[v.cells]:=by
 rw[V.cellss_map,V.cellss_map];simp
theorem axj(l:List (List UInt8))(s:List UInt8):strsA (l++[s])=strsA l++[[.str s]]:=by simp[strsA]
def tailOps:List AOper:=[⟨some 86,.load true 5 (.t 9),none,[]⟩,⟨some 87,.mv (.t 0),none,[]⟩,⟨some 88,.call 104 [.t 87],none,[1]⟩,⟨none,.store 5 (.t 4) (.t 86),none,[0,2,0]⟩,⟨some 5,.mv (.t 88),none,[2,3,0,1,2,3]⟩]
theorem czj{ts:Ts}{hh:Hp}{i b4 b9:Nat}{q:Wire.St}{l l0:List A}{T:TypeId}{Q:AExit->Ts->Hp->Prop}(t0:ts 0=.ptr i 0)(t4:ts 4=.ptr b4 0)(t9:ts 9=.ptr b9 0)(hi:hh.b[i]?=some (rdr q))(h4:hh.b[b4]?=some (.cells T l0))(hl0:l0.length=5)(h9:hh.b[b9]?=some (.cells T l))(hl:l.length=5)(hlo:l.all A.one=true)
  (hQ:Q .normal (put (put (put (put (put ts (some 86) (.agg l)) (some 87) (.ptr i 0)) (some 88) (.int .i64 q.e)) none (.tup [])) (some 5) (.int .i64 q.e)) ⟨hh.b.set b4 (.cells T l),hh.t⟩):awp Tryz.prog GT (.reg true tailOps) Q ts hh:=by
 refine bqb [3] [hh,⟨hh.b.set b4 (.cells T l),hh.t⟩] [[0],[0,1],[0],[0],[1]] rfl (by decide) ?_;obtain⟨a0,a1,a2,a3,a4,rfl⟩:∃a0 a1 a2 a3 a4,l=[a0,a1,a2,a3,a4]:=by
  match l,hl with
  |[a0,a1,a2,a3,a4],_=>exact⟨_,_,_,_,_,rfl⟩
 obtain⟨c0,c1,c2,c3,c4,rfl⟩:∃a0 a1 a2 a3 a4,l0=[a0,a1,a2,a3,a4]:=by
  match l0,hl0 with
  |[a0,a1,a2,a3,a4],_=>exact⟨_,_,_,_,_,rfl⟩
 refine akk (v:=.agg [a0,a1,a2,a3,a4]) rfl ⟨?_,trivial⟩ ?_
 ·simp[evX,astep,loadA,t9,h9]
 refine akk (v:=.ptr i 0) rfl ⟨?_,?_,trivial⟩ ?_
 ·simp[evX,put,astep,t0]
 ·simp[evX,put,astep,t0]
 refine bwc (vs:=[.ptr i 0]) (v:=.int .i64 q.e) (by simp[evX,put]) ⟨bv2 hi,trivial⟩ ?_;refine akk (v:=.tup []) rfl ⟨?_,trivial⟩ ?_
 ·simp only[ZH,YN,ZW,Zg]at hlo;simp[evX,put,astep,storeA,t4,h4,setCells,A.cells,hlo]
 refine akk (v:=.int .i64 q.e) rfl ⟨?_,trivial⟩ ?_
 ·simp[evX,put,astep]
 exact cvc hQ
theorem dz2:∀(f:Nat) (r:Wire.St) (i:Nat) (h:Hp),f<=32->h.b[i]?=some (rdr r)->r.rest.length<=100000000->AC 143 [.ptr i 0,.int .i64 (33-(f:Int))] h fun v h'=>VR (Val.read f r) v/\RQ i (Val.read f r).1 h h':=by
 intro f;induction f with
 |zero=>
  rintro r i ⟨hb,ht⟩ hf hbi hlen;refine aza mixedT cvv (by simp[bqm]) ?_;dsimp only[bqm];have hil:=(Zc.1 hbi).1;refine go0 ti ?_;refine gc0 ti ?_;refine(bv2 (azi hbi)).mono ?_;rintro v h' ⟨rfl,rfl⟩;by_cases he:r.e=0
  ·have he':(r.e !=0)=false:=by simp[he]
   have hlv:(33-((0:Nat):Int))>32:=by decide
   refine go0 (ai he' (ai hlv @azt)) ?_;have hRR:Val.read 0 r=(r,4,Val.zeroV):=by rw[Val.read,if_neg (by simp[he])]
   rw[hRR];exact⟨_,le_zero 4,VR.err rfl (by decide),RQ.keep hbi _⟩
  ·have he':(r.e !=0)=true:=by simp[he]
   refine go0 (ai he' @azt) ?_;have hRR:Val.read 0 r=(r,r.e,Val.zeroV):=by rw[Val.read,if_pos (by simp[he])]
   rw[hRR];exact⟨_,le_zero r.e,VR.err rfl he,RQ.keep hbi _⟩
 |succ f ih=>
  rintro r i ⟨hb,ht⟩ hf hbi hlen;refine aza mixedT cvv (by simp[bqm]) ?_;dsimp only[bqm];have hil:i<hb.length:=(Zc.1 hbi).1;have hR:Val.read (f+1) r=Val.readW (Val.read f) r:=by rw[Val.read]
  refine go0 ti ?_;refine gc0 ti ?_;refine(bv2 (azi hbi)).mono ?_;rintro v h' ⟨rfl,rfl⟩;by_cases he:r.e=0
  rotate_left
  ·have he':(r.e !=0)=true:=by simp[he]
   refine go0 (ai he' @azt) ?_;have hRR:Val.read (f+1) r=(r,r.e,Val.zeroV):=by rw[hR,Val.readW,if_pos he]
   rw[hRR];exact⟨_,le_zero r.e,VR.err rfl he,RQ.keep hbi _⟩
  have he':(r.e !=0)=false:=by simp[he]
  have hlv:¬(33-((f+1:Nat):Int))>32:=by omega
  refine go0 (ai he' hlv) ?_;refine gc0 ti ?_;refine(axa (azi hbi) hlen).mono ?_;rintro v h1 ⟨rfl,hh1⟩;have hq1:RQ i (Wire.numR r).1 ⟨hb,ht⟩ h1:=by rw[hh1];exact(RQ.of (h:=⟨hb++_,ht⟩) (azi hbi)).app
  have hz1:h1.b[hb.length]?=some (.cells 32 [.int .i64 0,.int .i64 0,.str [],.sl 0 .nil [],.sl 0 .nil []]):=by
   rw[hh1];show(List.set _ i _)[hb.length]?=_
   rw[Zj,if_neg (by omega)];exact Zs
  clear hh1;have hn:=Wire.numR_rest r;obtain⟨q,hq⟩:=Ex (Wire.numR r);rw[hq]at hq1 hn⊢;have hsz:∀(i':Nat) x,(h1.b++[x])[hb.length]?=some (.cells 32 [.int .i64 0,.int .i64 0,.str [],.sl 0 .nil [],.sl 0 .nil []]):=fun _ x=>azi hz1
  have hset:∀y,(h1.b.set hb.length y)[hb.length]?=some y:=fun y=>by
   rw[Zj,if_pos rfl,if_pos (Zc.1 hz1).1]
  refine go0 ti ?_;refine gc0 ti ?_;refine(bv2 hq1.1).mono ?_;rintro v h1 ⟨rfl,rfl⟩;by_cases hqe:q.1.e=0
  rotate_left
  ·have he':(q.1.e !=0)=true:=by simp[hqe]
   refine go0 (ai he' (ai hz1 hset)) ?_;have hRR:Val.read (f+1) r=(q.1,q.1.e,Val.zeroV):=by
    rw[hR,Val.readW,if_neg (by simp[he])];dsimp only;rw[hq,if_pos hqe]
   rw[hRR];exact⟨_,le_zero q.1.e,VR.err rfl hqe,hq1.set (Ze _) (by show i≠hb.length;omega) _ _ rfl⟩
  have he'':(q.1.e !=0)=false:=by simp[hqe]
  have hil1:i≠h1.b.length:=fun e=>by have:=(Zc.1 hq1.1).1;omega
  have hb4:hb.length≠h1.b.length:=fun e=>by have:=(Zc.1 hz1).1;omega
  have hib4:i≠hb.length:=by omega
  have hbl:hb.length<=h1.b.length:=by have:=(Zc.1 hz1).1;omega
  have hW:Val.readW (Val.read f) r=if q.2<0\/6<q.2 then(q.1,1,Val.zeroV)
   else if q.2=1\/q.2=2 then((Wire.numR q.1).1,(Wire.numR q.1).1.e,.mk q.2 (Wire.numR q.1).2 [] [] [])
   else if q.2=3 then((Wire.strR q.1).1,(Wire.strR q.1).1.e,.mk q.2 0 (Wire.strR q.1).2 [] [])
   else if q.2=4\/q.2=5 then((Val.itemsW (Val.read f) (q.2==5) (Wire.cntR q.1 1).2 (Wire.cntR q.1 1).1 [] []).1,(Val.itemsW (Val.read f) (q.2==5) (Wire.cntR q.1 1).2 (Wire.cntR q.1 1).1 [] []).2.1,.mk q.2 0 [] (Val.itemsW (Val.read f) (q.2==5) (Wire.cntR q.1 1).2 (Wire.cntR q.1 1).1 [] []).2.2.1 (Val.itemsW (Val.read f) (q.2==5) (Wire.cntR q.1 1).2 (Wire.cntR q.1 1).1 [] []).2.2.2)
   else(q.1,0,.mk q.2 0 [] [] []):=by
   rw[Val.readW,if_neg (by simp[he])];dsimp only;rw[hq,if_neg (by simp[hqe])]
  by_cases hk0:q.2<0
  ·refine go0 (ai he'' (ai hk0 (ai hz1 hset))) ?_;have hRR:Val.read (f+1) r=(q.1,1,Val.zeroV):=by rw[hR,hW,if_pos (.inl hk0)]
   rw[hRR];exact⟨_,le_zero 1,VR.err rfl (by decide),hq1.set (Ze _) hib4 _ _ rfl⟩
  by_cases hk6:q.2>6
  ·refine go0 (ai he'' (ai hk0 (ai hk6 (ai hz1 hset)))) ?_;have hRR:Val.read (f+1) r=(q.1,1,Val.zeroV):=by rw[hR,hW,if_pos (.inr hk6)]
   rw[hRR];exact⟨_,le_zero 1,VR.err rfl (by decide),hq1.set (Ze _) hib4 _ _ rfl⟩
  rw[if_neg (by omega)]at hW;have fin:∀(h2:Hp) (q2:Wire.St) (n:Int) (s:List UInt8) (is:List V) (ks:List (List UInt8)) (X Y:A),RQ i q2 ⟨hb,ht⟩ h2->Val.read (f+1) r=(q2,q2.e,.mk q.2 n s is ks)->le1 X (.sl 5 .no (V.cellss is))->le1 Y (.sl 1 .no (strsA ks)) ->
    ∃v,le (.tup [.agg [.int .i64 q.2,.int .i64 n,.str s,X,Y],.int .i64 q2.e]) v/\VR (Val.read (f+1) r) v/\RQ i (Val.read (f+1) r).1 ⟨hb,ht⟩ ⟨h2.b.set hb.length (.cells 32 [.int .i64 q.2,.int .i64 n,.str s,X,Y]),h2.t⟩:=by
   intro h2 q2 n s is ks X Y hp e hX hY;rw[e];refine⟨.tup [(V.mk q.2 n s is ks).A,.int .i64 q2.e],?_,⟨_,rfl,(V.cells_one (V.mk q.2 n s is ks)).1,(V.cells_one (V.mk q.2 n s is ks)).2,fun _=>rfl⟩,hp.set (Ze _) hib4 _ _ rfl⟩;simp only[V.A,V.cells,le,cwo,le2,leL,hX,hY,and_true,true_and];simp[le1]
  have hnilX:le1 (.sl 0 .nil []) (.sl 5 .no (V.cellss [])):=by simp[le1,V.cellss]
  have hnilY:le1 (.sl 0 .nil []) (.sl 1 .no (strsA [])):=by simp[le1,strsA]
  have leaf:∀(ts:Ts) (h2:Hp) (q2:Wire.St) (n:Int) (s:List UInt8) (is:List V) (ks:List (List UInt8)) (X Y:A),ts 0=.ptr i 0->ts 4=.ptr hb.length 0->ts 9=.ptr h1.b.length 0->RQ i q2 ⟨hb,ht⟩ h2 ->
    h2.b[hb.length]?=some (.cells 32 [.int .i64 0,.int .i64 0,.str [],.sl 0 .nil [],.sl 0 .nil []])->h2.b[h1.b.length]?=some (.cells 32 [.int .i64 q.2,.int .i64 n,.str s,X,Y])->X.one=true->Y.one=true ->
    Val.read (f+1) r=(q2,q2.e,.mk q.2 n s is ks)->le1 X (.sl 5 .no (V.cellss is))->le1 Y (.sl 1 .no (strsA ks)) ->
    awp Tryz.prog GT (.reg true tailOps) (thenA (awp Tryz.prog GT .ret (finQ [.c 4 true 5,.t 5] fun v h'=>VR (Val.read (f+1) r) v/\RQ i (Val.read (f+1) r).1 ⟨hb,ht⟩ h')) (finQ [.c 4 true 5,.t 5] fun v h'=>VR (Val.read (f+1) r) v/\RQ i (Val.read (f+1) r).1 ⟨hb,ht⟩ h')) ts h2:=by
   intro ts h2 q2 n s is ks X Y t0 t4 t9 hp g4 g9 hX1 hY1 e hX hY;refine czj t0 t4 t9 hp.1 g4 rfl g9 rfl (by simp only[ZH,YN,hX1,hY1];rfl) ?_;have hs4:∀y,(h2.b.set hb.length y)[hb.length]?=some y:=fun y=>by
    rw[Zj,if_pos rfl,if_pos (Zc.1 g4).1]
   refine go0 (ai t4 hs4) ?_;exact fin h2 q2 n s is ks X Y hp e hX hY
  have aft:∀(q2:Wire.St) (h2:Hp),h2=⟨(h1.b++[(.cells 32 [.int .i64 q.2,.int .i64 0,.str [],.sl 0 .nil [],.sl 0 .nil []]:Blk)]).set i (rdr q2),h1.t⟩->RQ i q2 ⟨hb,ht⟩ h2 /\
    h2.b[hb.length]?=some (.cells 32 [.int .i64 0,.int .i64 0,.str [],.sl 0 .nil [],.sl 0 .nil []])/\h2.b[h1.b.length]?=some (.cells 32 [.int .i64 q.2,.int .i64 0,.str [],.sl 0 .nil [],.sl 0 .nil []]):=by
   rintro q2 h2 rfl;refine⟨hq1.tr (RQ.of (h:=⟨h1.b++_,h1.t⟩) (azi hq1.1)).app,?_,?_⟩
   ·show(List.set _ i _)[_]?=_
    rw[Zj,if_neg hib4];exact azi hz1
   ·show(List.set _ i _)[_]?=_
    rw[Zj,if_neg hil1];exact Zs
  by_cases hk12:q.2=1\/q.2=2
  ·rw[if_pos hk12]at hW;have e12:(q.2==1)=true\/(q.2==1)=false/\(q.2==2)=true:=by
    rcases hk12 with h|h
    ·exact .inl (by simp[h])
    ·exact .inr ⟨by simp[h],by simp[h]⟩
   rcases e12 with e1|⟨e1,e2⟩;all_goals
    refine go0 (ai he'' (ai hk0 (ai hk6 (ai @azt e1)))) ?_
    try (refine go0 (ai he'' (ai hk0 (ai hk6 (ai @azt (ai e1 e2))))) ?_)
    refine gc0 ti ?_;refine(axa (azi hq1.1) (by omega)).mono ?_;rintro v h2 ⟨rfl,hh2⟩;obtain⟨hq2,g4,g9⟩:=aft _ _ hh2;have h9:∀y,(h2.b.set h1.b.length y)[h1.b.length]?=some y:=fun y=>by
     rw[Zj,if_pos rfl,if_pos (Zc.1 g9).1]
    clear hh2;refine go0 g9 ?_;refine leaf _ _ (Wire.numR q.1).1 (Wire.numR q.1).2 [] [] [] _ _ (by(exact ev0 ti)) (by(exact ev0 ti)) (by(exact ev0 ti)) (hq2.set (by exact hbl) hil1 _ _ rfl) ?_ (h9 _) rfl rfl (by rw[hR,hW]) hnilX hnilY;show(List.set _ _ _)[_]?=_
    rw[Zj,if_neg (Ne.symm hb4)];exact g4
  rw[if_neg hk12]at hW;have e1:(q.2==1)=false:=by simp;omega
  have e2:(q.2==2)=false:=by simp;omega
  by_cases hk3:q.2=3
  ·rw[if_pos hk3]at hW;have e3:(q.2==3)=true:=by simp[hk3]
   refine go0 (ai he'' (ai hk0 (ai hk6 (ai @azt (ai e1 (ai e2 e3)))))) ?_;refine gc0 ti ?_;refine(ajq (azi hq1.1) (by omega)).mono ?_;rintro v h2 ⟨rfl,hh2⟩;obtain⟨hq2,g4,g9⟩:=aft _ _ hh2;have h9:∀y,(h2.b.set h1.b.length y)[h1.b.length]?=some y:=fun y=>by
    rw[Zj,if_pos rfl,if_pos (Zc.1 g9).1]
   clear hh2;refine go0 g9 ?_;refine leaf _ _ (Wire.strR q.1).1 0 (Wire.strR q.1).2 [] [] _ _ (by(exact ev0 ti)) (by(exact ev0 ti)) (by(exact ev0 ti)) (hq2.set (by exact hbl) hil1 _ _ rfl) ?_ (h9 _) rfl rfl (by rw[hR,hW]) hnilX hnilY;show(List.set _ _ _)[_]?=_
   rw[Zj,if_neg (Ne.symm hb4)];exact g4
  rw[if_neg hk3]at hW;have e3:(q.2==3)=false:=by simp[hk3]
  by_cases hk45:q.2=4\/q.2=5
  ·rw[if_pos hk45]at hW;have e45:(q.2==4)=true\/(q.2==4)=false/\(q.2==5)=true:=by
    rcases hk45 with h|h
    ·exact .inl (by simp[h])
    ·exact .inr ⟨by simp[h],by simp[h]⟩
   rcases e45 with e4|⟨e4,e5⟩;all_goals
    refine go0 (ai he'' (ai hk0 (ai hk6 (ai @azt (ai e1 (ai e2 (ai e3 e4))))))) ?_
    try (refine go0 (ai he'' (ai hk0 (ai hk6 (ai @azt (ai e1 (ai e2 (ai e3 (ai e4 e5)))))))) ?_)
    refine gc0 ti ?_;refine(ays (azi hq1.1) (by omega)).mono ?_;rintro v h2 ⟨rfl,hh2⟩;obtain⟨hq2,g4,g9⟩:=aft _ _ hh2;clear hh2;have hcr:=Wire.cntR_rest q.1 1;have hcc:=Wire.cntR_cnt q.1;obtain⟨c0,hc0⟩:=Ex (Wire.cntR q.1 1);rw[hc0]at hq2 hcr hcc hW⊢;refine go0 g9 ?_
    refine azh (fun m ts hh=>∃(j:Nat) (p:Wire.St) (is:List V) (ks:List (List UInt8)) (X Y:A),m=c0.2-j/\j<=c0.2/\Val.itemsW (Val.read f) (q.2==5) (c0.2-j) p is ks=Val.itemsW (Val.read f) (q.2==5) c0.2 c0.1 [] []/\RQ i p ⟨hb,ht⟩ hh/\p.rest.length<=q.1.rest.length/\is.length<=j/\ks.length<=j /\
      hh.b[hb.length]?=some (.cells 32 [.int .i64 0,.int .i64 0,.str [],.sl 0 .nil [],.sl 0 .nil []])/\hh.b[h1.b.length]?=some (.cells 32 [.int .i64 q.2,.int .i64 0,.str [],X,Y])/\Gs 32 5 ht.length hh (V.cellss is) X/\Gs 9 1 ht.length hh (strsA ks) Y/\ht.length<=hh.t.length /\
      ts 0=.ptr i 0/\ts 1=.int .i64 (33-((f+1:Nat):Int))/\ts 4=.ptr hb.length 0/\ts 9=.ptr h1.b.length 0/\ts 55=.int .i64 c0.2/\ts 56=.int .i64 j) c0.2 ?_ ?_
    ·refine⟨0,c0.1,[],[],_,_,rfl,Z0 _,rfl,hq2,hcr,Ze _,Ze _,g4,g9,.inl ⟨rfl,rfl⟩,.inl ⟨rfl,rfl⟩,hq2.tlen,?_⟩;(exact aqj ti)
    ·rintro m ts hh ⟨j,p,is,ks,X,Y,rfl,hj,hit,hp,hpl,hil2,hkl2,g4,g9,gX,gY,htl,t0,t1,t4,t9,t55,t56⟩;by_cases hlt:j<c0.2
     ·have hlt2:(j:Int)<(c0.2:Int):=by omega
      have ei:IntKind.i64.wrap ((j:Int)+1)=(j:Int)+1:=wrap64 (by omega) (by omega);have elv:IntKind.i64.wrap ((33-((f+1:Nat):Int))+1)=33-(f:Int):=by rw[wrap64 (by omega) (by omega)];omega
      obtain⟨d,hd⟩:∃d,c0.2-j=d+1:=⟨c0.2-j-1,by omega⟩;obtain⟨q2,hq2e⟩:∃q2,q2=if(q.2==5)=true then Wire.strR p else(p,[]):=⟨_,rfl⟩
      rw[hd,Val.itemsW_step _ _ _ _ _ _ q2 hq2e]at hit;have hbi:=hp.1;have hcell:∀y,(hh.b.set i y)[h1.b.length]?=some (.cells 32 [.int .i64 q.2,.int .i64 0,.str [],X,Y]):=fun y=>by
       rw[Zj,if_neg hil1];exact g9
      rcases azr (q.2==5)with e5'|e5'
      ·rw[if_pos e5']at hq2e;have hp':RQ i q2.1 ⟨hb,ht⟩ ⟨hh.b.set i (rdr q2.1),hh.t⟩:=hp.tr (RQ.of hbi);have hpl':q2.1.rest.length<=p.rest.length:=by rw[hq2e];exact Wire.strR_rest p
       obtain⟨ks',hks'⟩:∃l,l=(if(q.2==5)=true then ks++[q2.2]else ks):=⟨_,rfl⟩;rw[<-hks']at hit;rw[if_pos e5']at hks';obtain⟨Y',t',hY1,hY2,hY3,hY4,hY5⟩:=gY.app htl 16 [.str q2.2] (by rw[azg];omega) (by decide);obtain⟨Wy0,oy0,rfl⟩:=Gs.sl gY;obtain⟨Wy1,oy1,rfl⟩:=Gs.sl (hY2 []);refine go0 (ai t0 (ai t1 (ai t4 (ai t9 (ai t55 (ai t56 (ai hlt2 (ai g9 e5')))))))) ?_;refine bqb [3,5,7] [hh,⟨hh.b.set i (rdr q2.1),hh.t⟩,⟨hh.b.set i (rdr q2.1),t'⟩,⟨(hh.b.set i (rdr q2.1)).set h1.b.length (.cells 32 [.int .i64 q.2,.int .i64 0,.str [],X,.sl Wy1 oy1 (strsA ks++[[.str q2.2]])]),t'⟩] [[0,1,2],[0,1],[0],[0],[1],[1],[2],[2]] rfl (by decide) ?_;refine akk (v:=.ptr h1.b.length 4) rfl ⟨?_,?_,?_,trivial⟩ ?_
       ·simp[evX,put,astep,t9]
       ·simp[evX,put,astep,t9]
       ·simp[evX,put,astep,t9]
       refine akk (v:=.sl Wy0 oy0 (strsA ks)) rfl ⟨?_,?_,trivial⟩ ?_
       ·simp[evX,put,astep,loadA,g9]
       ·simp[evX,put,astep,loadA,hcell]
       refine akk (v:=.ptr i 0) rfl ⟨?_,trivial⟩ ?_
       ·simp[evX,put,astep,t0]
       refine bwc (vs:=[.ptr i 0]) (v:=.str q2.2) (by simp[evX,put]) ⟨?_,trivial⟩ ?_
       ·rw[hq2e];exact ajq hp.1 (by omega)
       refine akk (v:=.sl 1 .no [[.str q2.2]]) rfl ⟨?_,trivial⟩ ?_
       ·simp[evX,put,astep,rowsA,A.cells,A.data]
       refine akk (v:=.sl Wy1 oy1 (strsA ks++[[.str q2.2]])) rfl ⟨?_,trivial⟩ ?_
       ·show appA _ _ _ _ _ _=_
        simp only[evX,put,Nat.reduceEqDiff,if_true,if_false,ite_true,ite_false,reduceIte];exact hY1 _
       refine akk (v:=.ptr h1.b.length 4) rfl ⟨?_,trivial⟩ ?_
       ·simp[evX,put,astep,t9]
       refine akk (v:=.tup []) rfl ⟨?_,trivial⟩ ?_
       ·simp[evX,put,astep,storeA,hcell,setCells,A.cells,A.one]
       refine cvc ?_;have hsetl:h1.b.length<(hh.b.set i (rdr q2.1)).length:=(Zc.1 (hcell (rdr q2.1))).1;show thenA _ _ .normal _ (⟨(hh.b.set i (rdr q2.1)).set h1.b.length (.cells 32 [.int .i64 q.2,.int .i64 0,.str [],X,.sl Wy1 oy1 (strsA ks++[[.str q2.2]])]),t'⟩:Hp)
       have g4:((hh.b.set i (rdr q2.1)).set h1.b.length (.cells 32 [.int .i64 q.2,.int .i64 0,.str [],X,.sl Wy1 oy1 (strsA ks++[[.str q2.2]])]))[hb.length]?=some (.cells 32 [.int .i64 0,.int .i64 0,.str [],.sl 0 .nil [],.sl 0 .nil []]):=by
        rw[Zj,if_neg (Ne.symm hb4),Zj,if_neg hib4];exact g4
       have g9:((hh.b.set i (rdr q2.1)).set h1.b.length (.cells 32 [.int .i64 q.2,.int .i64 0,.str [],X,.sl Wy1 oy1 (strsA ks++[[.str q2.2]])]))[h1.b.length]?=some (.cells 32 [.int .i64 q.2,.int .i64 0,.str [],X,.sl Wy1 oy1 (strsA ks++[[.str q2.2]])]):=by
        rw[Zj,if_pos rfl,if_pos hsetl]
       have gX:=Gs.keep (h':=⟨(hh.b.set i (rdr q2.1)).set h1.b.length (.cells 32 [.int .i64 q.2,.int .i64 0,.str [],X,.sl Wy1 oy1 (strsA ks++[[.str q2.2]])]),t'⟩) gX fun t n hz=>hY5 t _ _ _ (by decide) hz
       have gY:Gs 9 1 ht.length ⟨(hh.b.set i (rdr q2.1)).set h1.b.length (.cells 32 [.int .i64 q.2,.int .i64 0,.str [],X,.sl Wy1 oy1 (strsA ks++[[.str q2.2]])]),t'⟩ (strsA ks') (.sl Wy1 oy1 (strsA ks++[[.str q2.2]])):=by
        rw[hks',axj];exact hY2 _
       have htl:=hY4;have hkl2:ks'.length<=j+1:=by rw[hks'];simp;omega
       have hp':RQ i q2.1 ⟨hb,ht⟩ ⟨(hh.b.set i (rdr q2.1)).set h1.b.length (.cells 32 [.int .i64 q.2,.int .i64 0,.str [],X,.sl Wy1 oy1 (strsA ks++[[.str q2.2]])]),t'⟩:=by
        refine⟨?_,fun j y hj hy=>?_,fun t y hy=>?_⟩
        ·show(List.set _ _ _)[i]?=_
         rw[Zj,if_neg (Ne.symm hil1)];exact hp'.1
        ·have hjl:j<hb.length:=(Zc.1 hy).1;show(List.set _ _ _)[j]?=_
         rw[Zj,if_neg (by omega)];exact hp'.2.1 j y hj hy
        ·exact hY3 t y (Zc.1 hy).1 (hp'.2.2 t y hy)
       have u0:=t0;have u1:=t1;refine go0 (ai t0 (ai t1 (ai t4 (ai t9 (ai t55 (ai t56 elv)))))) ?_;refine gc0 (ai t0 (ai t1 (ai t4 (ai t9 (ai elv (ai u0 u1)))))) ?_;refine(ih q2.1 i _ (by omega) hp'.1 (by omega)).mono ?_;rintro v h3 ⟨⟨l3,rfl,hl3,ho3,hv3⟩,hp3⟩;obtain⟨x,hx⟩:=Ex (Val.read f q2.1);have hxl:=Val.read_le f q2.1;rw[hx]at hit hv3 hp3 hxl⊢;obtain⟨a0,a1,a2,a3,a4,rfl⟩:=ckt hl3;have g4':=hp3.2.1 _ _ (Ne.symm hib4) g4;have g9':=hp3.2.1 _ _ (Ne.symm hil1) g9;have h4n:∀y,(h3.b++[y])[hb.length]?=_:=fun y=>azi g4'
       have h9n:∀y,(h3.b++[y])[h1.b.length]?=_:=fun y=>azi g9'
       have hl4:hb.length<h3.b.length:=(Zc.1 g4').1;have hl9:h1.b.length<h3.b.length:=(Zc.1 g9').1;have hs4:∀y z,((h3.b++[y]).set hb.length z)[hb.length]?=some z:=fun y z=>by
        rw[Zj,if_pos rfl,if_pos (by simp;omega)]
       simp only[ZH,YN,ZW,Zg]at ho3;simp only[A.one]at ho3;obtain⟨o0,o1,o2,o3,o4⟩:=ho3;by_cases hx0:x.2.1=0
       rotate_left
       ·have hx0':(x.2.1 !=0)=true:=by simp[hx0]
        rw[if_pos hx0]at hit;have hRR:Val.read (f+1) r=(x.1,x.2.1,.mk q.2 0 [] is ks):=by rw[hR,hW,<-hit]
        refine go0 (ai t0 (ai t1 (ai t4 (ai t9 (ai t55 (ai t56 (ai @azt (ai hx0' (ai h4n (ai hs4 (ai o0 (ai o1 (ai o2 (ai o3 o4)))))))))))))) ?_;rw[hRR];exact⟨_,le_zero x.2.1,VR.err rfl hx0,RQ.set (h':=⟨h3.b++_,h3.t⟩) ⟨azi (hp'.tr hp3).1,fun j x hj hx=>azi ((hp'.tr hp3).2.1 j x hj hx),(hp'.tr hp3).2.2⟩ (Ze _) hib4 _ _ rfl⟩
       ·have hx0':(x.2.1 !=0)=false:=by simp[hx0]
        rw[if_neg (by simp[hx0])]at hit;have hv:=hv3 hx0;obtain⟨X',t'',hX1,hX2,hX3,hX4,hX5⟩:=(Gs.keep (h':=h3) gX fun t n hh=>hp3.2.2 _ _ hh).app (Zr htl hp3.tlen) 80 x.2.2.cells (by rw[V.cellss_length];omega) (by decide);rw[<-hv]at hX1 hX2;have hdd:=V.cells_data x.2.2;rw[<-hv]at hdd;simp only[ZH,YN,ZW,Zg,A.data]at hdd;obtain⟨d0,d1,d2,d3,d4⟩:=hdd;obtain⟨Wx,ox,rfl⟩:=Gs.sl (hX2 []);have hdummy:=trivial;refine go0 (ai t0 (ai t1 (ai t4 (ai t9 (ai t55 (ai t56 (ai @azt (ai hx0' (ai h4n (ai h9n (ai hs4 (ai o0 (ai o1 (ai o2 (ai o3 (ai o4 (ai ei (ai d0 (ai d1 (ai d2 (ai d3 d4))))))))))))))))))))) ?_;refine by5 (v:=.sl Wx ox (V.cellss is++[[a0,a1,a2,a3,a4]])) (h':=⟨h3.b++[.cells 32 [a0,a1,a2,a3,a4]],t''⟩) rfl ?_ ?_
        ·simp only[aq5,aqg,aqf,bzw,bzt,aqh,ajz,ajc,aji,azq,axm,astep,bop,uop,loadA,storeA,ssliceA,eqA,eqCells,fillA,rowsA,setCells,A.cells,az3,ZH,YN,ZW,Z5,ZR,Yx,YR,Y2,Z7,YB,ZO,Yg,Yj,ZT,ZQ,ZY,Zf,Zp,ZA,ZL,Zx,YV,YW,YX,ZS,Yd,Yp,Y8,Za,Zv,Nat.reduceAdd,Nat.reduceSub,Nat.reduceMul,Nat.reduceLeDiff,Nat.reduceEqDiff,Nat.reduceBEq,Yt,YO,if_true,if_false,reduceIte,ite_true,ite_false,true_and,and_true,ne_eq,YD,YT,Zo,reduceCtorEq,and_self,Yf,Yl,Ze,Ye,Z9,decide_true,decide_false];exact hX1 _
        refine go0 (ai t0 (ai t1 (ai t4 (ai t9 (ai t55 (ai t56 (ai h9n ei))))))) ?_;refine⟨c0.2-(j+1),by omega,j+1,x.1,is++[x.2.2],ks',.sl Wx ox (V.cellss is++[[a0,a1,a2,a3,a4]]),.sl Wy1 oy1 (strsA ks++[[.str q2.2]]),rfl,by omega,?_,?_,by omega,by simp;omega,by omega,?_,?_,?_,?_,hX4,?_⟩
        ·rw[show c0.2-(j+1)=d by omega];exact hit
        ·have hp3':=hp'.tr hp3;refine⟨?_,fun j y hj hy=>?_,fun t y hy=>?_⟩
         ·show(List.set _ _ _)[i]?=_
          rw[Zj,if_neg (Ne.symm hil1)];exact azi hp3'.1
         ·have hjl:j<hb.length:=(Zc.1 hy).1;show(List.set _ _ _)[j]?=_
          rw[Zj,if_neg (by omega)];exact azi (hp3'.2.1 j y hj hy)
         ·exact hX3 t y (Zc.1 hy).1 (hp3'.2.2 t y hy)
        ·show(List.set _ _ _)[_]?=_
         rw[Zj,if_neg (Ne.symm hb4)];exact h4n _
        ·show(List.set _ _ _)[_]?=_
         rw[Zj,if_pos rfl,if_pos (by simp;omega)]
        ·rw[aw6,<-hv];exact hX2 _
        ·exact Gs.keep (Gs.keep (h':=h3) gY fun t n hh=>hp3.2.2 _ _ hh) fun t n hh=>hX5 t _ _ _ (by decide) hh
        ·(exact aqj (ai t0 (ai t1 (ai t4 (ai t9 (ai t55 (ai t56 ei)))))))
      ·rw[if_neg (by simp[e5'])]at hq2e;have hp':RQ i q2.1 ⟨hb,ht⟩ hh:=by rw[hq2e];exact hp
       have hpl':q2.1.rest.length<=p.rest.length:=by rw[hq2e];exact Ze _
       obtain⟨ks',hks'⟩:∃l,l=(if(q.2==5)=true then ks++[q2.2]else ks):=⟨_,rfl⟩;rw[<-hks']at hit;rw[if_neg (by simp[e5'])]at hks';rw[<-hks']at gY hkl2;have u0:=t0;have u1:=t1;refine go0 (ai t0 (ai t1 (ai t4 (ai t9 (ai t55 (ai t56 (ai hlt2 (ai g9 (ai e5' elv))))))))) ?_;refine gc0 (ai t0 (ai t1 (ai t4 (ai t9 (ai elv (ai u0 u1)))))) ?_;refine(ih q2.1 i _ (by omega) hp'.1 (by omega)).mono ?_;rintro v h3 ⟨⟨l3,rfl,hl3,ho3,hv3⟩,hp3⟩;obtain⟨x,hx⟩:=Ex (Val.read f q2.1);have hxl:=Val.read_le f q2.1;rw[hx]at hit hv3 hp3 hxl⊢;obtain⟨a0,a1,a2,a3,a4,rfl⟩:=ckt hl3;have g4':=hp3.2.1 _ _ (Ne.symm hib4) g4;have g9':=hp3.2.1 _ _ (Ne.symm hil1) g9;have h4n:∀y,(h3.b++[y])[hb.length]?=_:=fun y=>azi g4'
       have h9n:∀y,(h3.b++[y])[h1.b.length]?=_:=fun y=>azi g9'
       have hl4:hb.length<h3.b.length:=(Zc.1 g4').1;have hl9:h1.b.length<h3.b.length:=(Zc.1 g9').1;have hs4:∀y z,((h3.b++[y]).set hb.length z)[hb.length]?=some z:=fun y z=>by
        rw[Zj,if_pos rfl,if_pos (by simp;omega)]
       simp only[ZH,YN,ZW,Zg]at ho3;simp only[A.one]at ho3;obtain⟨o0,o1,o2,o3,o4⟩:=ho3;by_cases hx0:x.2.1=0
       rotate_left
       ·have hx0':(x.2.1 !=0)=true:=by simp[hx0]
        rw[if_pos hx0]at hit;have hRR:Val.read (f+1) r=(x.1,x.2.1,.mk q.2 0 [] is ks):=by rw[hR,hW,<-hit]
        refine go0 (ai t0 (ai t1 (ai t4 (ai t9 (ai t55 (ai t56 (ai @azt (ai hx0' (ai h4n (ai hs4 (ai o0 (ai o1 (ai o2 (ai o3 o4)))))))))))))) ?_;rw[hRR];exact⟨_,le_zero x.2.1,VR.err rfl hx0,RQ.set (h':=⟨h3.b++_,h3.t⟩) ⟨azi (hp'.tr hp3).1,fun j x hj hx=>azi ((hp'.tr hp3).2.1 j x hj hx),(hp'.tr hp3).2.2⟩ (Ze _) hib4 _ _ rfl⟩
       ·have hx0':(x.2.1 !=0)=false:=by simp[hx0]
        rw[if_neg (by simp[hx0])]at hit;have hv:=hv3 hx0;obtain⟨X',t'',hX1,hX2,hX3,hX4,hX5⟩:=(Gs.keep (h':=h3) gX fun t n hh=>hp3.2.2 _ _ hh).app (Zr htl hp3.tlen) 80 x.2.2.cells (by rw[V.cellss_length];omega) (by decide);rw[<-hv]at hX1 hX2;have hdd:=V.cells_data x.2.2;rw[<-hv]at hdd;simp only[ZH,YN,ZW,Zg,A.data]at hdd;obtain⟨d0,d1,d2,d3,d4⟩:=hdd;obtain⟨Wx,ox,rfl⟩:=Gs.sl (hX2 []);obtain⟨Wy,oy,rfl⟩:=Gs.sl gY;refine go0 (ai t0 (ai t1 (ai t4 (ai t9 (ai t55 (ai t56 (ai @azt (ai hx0' (ai h4n (ai h9n (ai hs4 (ai o0 (ai o1 (ai o2 (ai o3 (ai o4 (ai ei (ai d0 (ai d1 (ai d2 (ai d3 d4))))))))))))))))))))) ?_;refine by5 (v:=.sl Wx ox (V.cellss is++[[a0,a1,a2,a3,a4]])) (h':=⟨h3.b++[.cells 32 [a0,a1,a2,a3,a4]],t''⟩) rfl ?_ ?_
        ·simp only[aq5,aqg,aqf,bzw,bzt,aqh,ajz,ajc,aji,azq,axm,astep,bop,uop,loadA,storeA,ssliceA,eqA,eqCells,fillA,rowsA,setCells,A.cells,az3,ZH,YN,ZW,Z5,ZR,Yx,YR,Y2,Z7,YB,ZO,Yg,Yj,ZT,ZQ,ZY,Zf,Zp,ZA,ZL,Zx,YV,YW,YX,ZS,Yd,Yp,Y8,Za,Zv,Nat.reduceAdd,Nat.reduceSub,Nat.reduceMul,Nat.reduceLeDiff,Nat.reduceEqDiff,Nat.reduceBEq,Yt,YO,if_true,if_false,reduceIte,ite_true,ite_false,true_and,and_true,ne_eq,YD,YT,Zo,reduceCtorEq,and_self,Yf,Yl,Ze,Ye,Z9,decide_true,decide_false];exact hX1 _
        refine go0 (ai t0 (ai t1 (ai t4 (ai t9 (ai t55 (ai t56 (ai h9n ei))))))) ?_;refine⟨c0.2-(j+1),by omega,j+1,x.1,is++[x.2.2],ks',.sl Wx ox (V.cellss is++[[a0,a1,a2,a3,a4]]),.sl Wy oy (strsA ks'),rfl,by omega,?_,?_,by omega,by simp;omega,by omega,?_,?_,?_,?_,hX4,?_⟩
        ·rw[show c0.2-(j+1)=d by omega];exact hit
        ·have hp3':=hp'.tr hp3;refine⟨?_,fun j y hj hy=>?_,fun t y hy=>?_⟩
         ·show(List.set _ _ _)[i]?=_
          rw[Zj,if_neg (Ne.symm hil1)];exact azi hp3'.1
         ·have hjl:j<hb.length:=(Zc.1 hy).1;show(List.set _ _ _)[j]?=_
          rw[Zj,if_neg (by omega)];exact azi (hp3'.2.1 j y hj hy)
         ·exact hX3 t y (Zc.1 hy).1 (hp3'.2.2 t y hy)
        ·show(List.set _ _ _)[_]?=_
         rw[Zj,if_neg (Ne.symm hb4)];exact h4n _
        ·show(List.set _ _ _)[_]?=_
         rw[Zj,if_pos rfl,if_pos (by simp;omega)]
        ·rw[aw6,<-hv];exact hX2 _
        ·exact Gs.keep (Gs.keep (h':=h3) gY fun t n hh=>hp3.2.2 _ _ hh) fun t n hh=>hX5 t _ _ _ (by decide) hh
        ·(exact aqj (ai t0 (ai t1 (ai t4 (ai t9 (ai t55 (ai t56 ei)))))))
     ·have hlt2:¬(j:Int)<(c0.2:Int):=by omega
      rw[show c0.2-j=0 by omega,Val.itemsW]at hit;refine go0 (ai t0 (ai t1 (ai t4 (ai t9 (ai t55 (ai t56 hlt2)))))) ?_;exact leaf _ _ p 0 [] is ks X Y (by(exact ev0 t0)) (by(exact ev0 t4)) (by(exact ev0 t9)) hp g4 g9 (Gs.one gX) (Gs.one gY) (by rw[hR,hW,<-hit]) (Gs.le gX) (Gs.le gY)
  rw[if_neg hk45]at hW;have e4:(q.2==4)=false:=by simp;omega
  have e5:(q.2==5)=false:=by simp;omega
  have g9:(h1.b++[(.cells 32 [.int .i64 q.2,.int .i64 0,.str [],.sl 0 .nil [],.sl 0 .nil []]:Blk)])[h1.b.length]?=some (.cells 32 [.int .i64 q.2,.int .i64 0,.str [],.sl 0 .nil [],.sl 0 .nil []]):=Zs;refine go0 (ai he'' (ai hk0 (ai hk6 (ai @azt (ai e1 (ai e2 (ai e3 (ai e4 e5)))))))) ?_;exact leaf _ _ q.1 0 [] [] [] _ _ (by(exact ev0 ti)) (by(exact ev0 ti)) (by(exact ev0 ti)) ⟨azi hq1.1,fun j x hj hx=>azi (hq1.2.1 j x hj hx),hq1.2.2⟩ (azi hz1) g9 rfl rfl (by rw[hR,hW,hqe]) hnilX hnilY
end AX
theorem Wire.strR_len(r:Wire.St):(Wire.strR r).2.length<=r.rest.length:=by
 have:=Wire.cntR_rest r 1;unfold Wire.strR;dsimp only;split
 ·simp
 ·simp;omega
theorem V.lensS_of:∀{l:List V},(∀x∈l,x.lens)->V.lensS l
 |[],_=>by unfold V.lensS;trivial
 |v::l,h=>by
  unfold V.lensS;exact⟨h v (by simp),V.lensS_of fun x hx=>h x (by simp[hx])⟩
theorem V.lens_of{k n:Int}{s:List UInt8}{is:List V}{ks:List (List UInt8)}(h1:is.length<=1000000000)(h2:ks.length<=1000000000)(h3:s.length<=1000000000)(h4:∀q∈ks,q.length<=1000000000)(h5:∀x∈is,x.lens):(V.mk k n s is ks).lens:=by
 unfold V.lens;simp only[maxLen];exact⟨by omega,by omega,by omega,fun q hq=>by have:=h4 q hq;omega,V.lensS_of h5⟩
namespace Val
theorem itemsW_lens{one:Wire.St->Res}(h1:∀r,r.rest.length<=100000000->(one r).2.2.lens)(hle:∀r,(one r).1.rest.length<=r.rest.length)(m:Bool):∀(c:Nat) (r:Wire.St) (is:List V) (ks:List (List UInt8)),r.rest.length<=100000000->(∀x∈is,x.lens)->(∀k∈ks,k.length<=1000000000) ->
  (∀x∈(itemsW one m c r is ks).2.2.1,x.lens)/\(∀k∈(itemsW one m c r is ks).2.2.2,k.length<=1000000000)/\(itemsW one m c r is ks).2.2.1.length<=is.length+c/\(itemsW one m c r is ks).2.2.2.length<=ks.length+c
 |0,r,is,ks,hr,hi,hk=>by rw[itemsW];exact⟨hi,hk,Ze _,Ze _⟩
 |c+1,r,is,ks,hr,hi,hk=>by
  obtain⟨q,hqe⟩:∃q,q=if m then Wire.strR r else(r,[]):=⟨_,rfl⟩
  have hq:q.1.rest.length<=r.rest.length/\q.2.length<=r.rest.length:=by
   rw[hqe];split
   ·exact⟨Wire.strR_rest r,Wire.strR_len r⟩
   ·exact⟨Ze _,by simp⟩
  rw[itemsW_step one m c r is ks q hqe];have h2:=hle q.1;split
  ·exact⟨hi,hk,by simp,by simp⟩
  ·have ih:=itemsW_lens h1 hle m c (one q.1).1 (is++[(one q.1).2.2]) (if m then ks++[q.2]else ks) (by omega) (fun x hx=>by
    rcases Ya.1 hx with hx|hx
    ·exact hi x hx
    ·rw[ZB.1 hx];exact h1 _ (by omega)) (fun k hkk=>by
    split at hkk
    ·rcases Ya.1 hkk with hkk|hkk
     ·exact hk k hkk
     ·rw[ZB.1 hkk];omega
    ·exact hk k hkk)
   refine⟨ih.1,ih.2.1,?_,?_⟩
   ·have:=ih.2.2.1;simp only[Za,Zf,Zp]at this;omega
   ·have:=ih.2.2.2;have hl:(if m then ks++[q.2]else ks).length<=ks.length+1:=by split<;>simp
    omega
theorem zero_lens:zeroV.lens:=V.lens_of (by simp) (by simp) (by simp) (by simp) (by simp)
theorem read_lens:∀(f:Nat) (r:Wire.St),r.rest.length<=100000000->(read f r).2.2.lens
 |0,r,hr=>by rw[read];exact zero_lens
 |f+1,r,hr=>by
  have ih:=read_lens f;have hn:=Wire.numR_rest r;have hs2:=Wire.strR_len (Wire.numR r).1;have hc2:=Wire.cntR_rest (Wire.numR r).1 1;have hc3:=Wire.cntR_cnt (Wire.numR r).1;have hi2:=itemsW_lens ih (read_le f) ((Wire.numR r).2==5) (Wire.cntR (Wire.numR r).1 1).2 (Wire.cntR (Wire.numR r).1 1).1 [] [] (by omega) (by simp) (by simp);simp only[Zp]at hi2;rw[read];unfold readW;dsimp only;split
  ·exact zero_lens
  ·split
   ·exact zero_lens
   ·split
    ·exact zero_lens
    ·split
     ·exact V.lens_of (by simp) (by simp) (by simp) (by simp) (by simp)
     ·split
      ·exact V.lens_of (by simp) (by simp) (by omega) (by simp) (by simp)
      ·split
       ·exact V.lens_of (by omega) (by omega) (by simp) hi2.2.1 hi2.1
       ·exact V.lens_of (by simp) (by simp) (by simp) (by simp) (by simp)
end Val
namespace AX
def ax8:AX.AFn:=⟨20,aS [aR 2 (.alloc 32 [.int .i64 0,.int .i64 0,.str [],.sl 0 .nil [],.sl 0 .nil []]),aR 3 (.mv (aI 0))] (aS [aM 7 0,aR 8 (.call 143 [.t 7,aI 1]),aM 6 8,aE 9 6 0,aE 10 6 1,aR 4 (.alloc 32 [.int .i64 0,.int .i64 0,.str [],.sl 0 .nil [],.sl 0 .nil []]),aU (.store 5 (.t 4) (.t 9)),aM 5 10] (.seq (aS [aM 11 5,aR 12 (.bin .eql (.t 11) (aI 0))] (.cond (.t 12) (.reg false [aR 13 (.load true 5 (.t 4)),aR 14 (.call 21 [.t 13]),aM 5 14]) (.skip))) (.seq (aS [aM 15 5,aR 16 (.bin .neq (.t 15) (aI 0))] (.cond (.t 16) (aS [aR 17 (.build [.int .i64 0,.int .i64 0,.str [],.sl 0 .nil [],.sl 0 .nil []] []),aM 18 5,aU (.store 5 (.t 2) (.t 17)),aM 3 18] (.ret)) (.skip))) (aS [aR 19 (.load true 5 (.t 4)),aU (.store 5 (.t 2) (.t 19)),aR 3 (.mv (aI 0))] (.ret))))),[.c 2 true 5,.t 3]⟩
theorem bjd:AX.compFn Tryz.prog 130=some ax8:=by kernel_rfl
theorem bx7(r:Wire.St)(i:Nat)(h:Hp)(hbi:h.b[i]?=some (rdr r))(hlen:r.rest.length<=100000000):AC 130 [.ptr i 0] h fun v h'=>v=.tup [(Val.readValue r).2.2.A,.int .i64 (Val.readValue r).2.1]/\RQ i (Val.readValue r).1 h h':=by
 obtain⟨hb,ht⟩:=h;refine aza mixedT bjd (by simp[ax8]) ?_;dsimp only[ax8];have hil:i<hb.length:=(Zc.1 hbi).1;have hR:Val.readValue r=if(Val.read 32 r).2.1≠0 then((Val.read 32 r).1,(Val.read 32 r).2.1,Val.zeroV)else if Val.checkZ (Val.read 32 r).2.2≠0 then((Val.read 32 r).1,Val.checkZ (Val.read 32 r).2.2,Val.zeroV)else Val.read 32 r:=by rw[Val.readValue]
 have hlens:=Val.read_lens 32 r hlen;refine go0 ti ?_;refine gc0 ti ?_;refine(dz2 32 r i _ (Ze _) (azi hbi) hlen).mono ?_;rintro v h1 ⟨⟨l3,rfl,hl3,ho3,hv3⟩,hp⟩;obtain⟨x,hx⟩:=Ex (Val.read 32 r);rw[hx]at hR hv3 hp hlens⊢;obtain⟨a0,a1,a2,a3,a4,rfl⟩:=ckt hl3;have g2:h1.b[hb.length]?=some (.cells 32 [.int .i64 0,.int .i64 0,.str [],.sl 0 .nil [],.sl 0 .nil []]):=hp.2.1 _ _ (by omega) Zs;have hl2:hb.length<h1.b.length:=(Zc.1 g2).1;have hib:i≠hb.length:=by omega
 have h2n:∀y,(h1.b++[y])[hb.length]?=_:=fun y=>azi g2
 have hs2:∀y z,((h1.b++[y]).set hb.length z)[hb.length]?=some z:=fun y z=>by
  rw[Zj,if_pos rfl,if_pos (by simp;omega)]
 have hout:∀y z,RQ i x.1 ⟨hb,ht⟩ ⟨(h1.b++[y]).set hb.length z,h1.t⟩:=fun y z=>
  RQ.set (h:=⟨hb,ht⟩) (h':=⟨h1.b++[y],h1.t⟩) ⟨azi hp.1,fun j w hj hw=>azi (hp.2.1 j w hj (azi hw)),hp.2.2⟩ (Ze _) hib _ _ rfl
 simp only[ZH,YN,ZW,Zg,A.one]at ho3;obtain⟨o0,o1,o2,o3,o4⟩:=ho3;by_cases hx0:x.2.1=0
 rotate_left
 ·have e1:(x.2.1==0)=false:=by simp[hx0]
  have e2:(x.2.1 !=0)=true:=by simp[hx0]
  rw[if_pos hx0]at hR;refine go0 (ai @azt (ai o0 (ai o1 (ai o2 (ai o3 (ai o4 (ai e1 (ai e2 (ai h2n hs2))))))))) ?_;rw[hR];exact⟨_,le_zero x.2.1,rfl,hout _ _⟩
 have e1:(x.2.1==0)=true:=by simp[hx0]
 rw[if_neg (by simp[hx0])]at hR;have hv:=hv3 hx0;refine go0 (ai @azt (ai o0 (ai o1 (ai o2 (ai o3 (ai o4 (ai e1 (ai h2n hs2)))))))) ?_;refine gc0 @azt ?_;have hck:=fun h=>avv x.2.2 hlens h
 rw[V.A,<-hv]at hck;refine(hck _).mono ?_;rintro v h2 ⟨rfl,rfl⟩;by_cases hz:Val.checkZ x.2.2=0
 ·rw[if_neg (by simp[hz])]at hR;have e2:(Val.checkZ x.2.2 !=0)=false:=by simp[hz]
  refine go0 (ai @azt (ai o0 (ai o1 (ai o2 (ai o3 (ai o4 (ai e2 (ai h2n hs2)))))))) ?_;rw[hR];refine⟨_,le_refl _,?_,hout _ _⟩;rw[axm,V.A,<-hv,hx0]
 ·rw[if_pos hz]at hR;have e2:(Val.checkZ x.2.2 !=0)=true:=by simp[hz]
  refine go0 (ai @azt (ai o0 (ai o1 (ai o2 (ai o3 (ai o4 (ai e2 (ai h2n hs2)))))))) ?_;rw[hR];exact⟨_,le_zero (Val.checkZ x.2.2),rfl,hout _ _⟩
def ax1:AX.AFn:=⟨7,aS [aR 2 (.mv (.c (.nilp)))] (aS [aM 3 0,aR 4 (.build [.str [],.int .i64 0,.bool false] [(0,1,.t 3),(2,1,.c (.bool true))]),aR 5 (.build [.str [],.int .i64 0,.bool false] [(0,3,.t 4)]),aR 6 (.box 157 (.t 5)),aM 2 6] (.ret)),[.t 2]⟩
theorem bjl:AX.compFn Tryz.prog 78=some ax1:=by kernel_rfl
theorem akd(l:List UInt8)(h:Hp):AC 78 [.str l] h fun v h'=>v=.ptr h.b.length 0/\h'=⟨h.b++[rdr ⟨l,0⟩],h.t⟩:=by
 refine aza mixedT bjl (by simp[ax1]) ?_;dsimp only[ax1];refine go0 ti ?_;exact⟨_,le_refl _,rfl,rfl⟩
theorem cz0(r:Wire.St):(rdr r).loc 0:=rfl
theorem bz5{h:Hp}{i:Nat}{r:Wire.St}(hb:h.b[i]?=some (rdr r))(hlen:r.rest.length<=100000000):AC 130 [.ptr i 0] h fun v h'=>v=.tup [(Val.readValue r).2.2.A,.int .i64 (Val.readValue r).2.1]/\h'=⟨h.b.set i (rdr (Val.readValue r).1),h.t⟩:=by
 have h1:AC 130 [.ptr 0 0] ⟨[rdr r],[]⟩ fun v h'=>∃b',h'.b[0]?=some b'/\v=.tup [(Val.readValue r).2.2.A,.int .i64 (Val.readValue r).2.1]/\b'=rdr (Val.readValue r).1:=
  (bx7 r 0 ⟨[rdr r],[]⟩ rfl hlen).mono fun v h' ⟨e,hp⟩=>⟨_,hp.1,e,rfl⟩
 refine(ACall.lift1 h1 rfl (cz0 r) ?_ hb).mono ?_
 ·rintro v b' ⟨rfl,rfl⟩;refine⟨?_,cz0 _⟩;obtain⟨k,n,s,is,ks⟩:=(Val.readValue r).2.2;rfl
 ·rintro v h' ⟨b',⟨rfl,rfl⟩,rfl⟩;exact⟨rfl,rfl⟩
theorem awb(r:Wire.St)(hlen:r.rest.length<=100000000):(Val.readValue r).2.2.lens:=by
 unfold Val.readValue;dsimp only;split
 ·exact Val.zero_lens
 ·split
  ·exact Val.zero_lens
  ·exact Val.read_lens 32 r hlen
end AX
namespace Wire
end Wire
namespace Val
end Val
namespace AX
theorem Gs.grow{E:TypeId}{W:Nat}{t:List (TypeId×Nat×Nat)}{W1:Nat}{o1:Own}{rows:List (List A)}(hg:Gs E W 0 ⟨[],t⟩ rows (.sl W1 o1 rows))(bytes:Nat)(y:List A)(h1:rows.length+1<=1000000000)(h2:bytes<=1000):
  ∃W' o' t',(∀b,appA ⟨b,t⟩ E W bytes (.sl W1 o1 rows) (.sl W .no [y])=some (.sl W' o' (rows++[y]),⟨b,t'⟩))/\Gs E W 0 ⟨[],t'⟩ (rows++[y]) (.sl W' o' (rows++[y]))/\(∀(E':TypeId) (W':Nat) (rows':List (List A)) (x'':A),E'≠E->Gs E' W' 0 ⟨[],t⟩ rows' x''->Gs E' W' 0 ⟨[],t'⟩ rows' x''):=by
 obtain⟨x',t',k1,k2,k3,k4,k5⟩:=hg.app (Z0 _) bytes y h1 h2;obtain⟨W',o',rfl⟩:=(k2 []).sl;exact⟨W',o',t',k1,k2 [],fun E' W' rows' x'' hne hg'=>Gs.keep hg' fun k n hh=>k5 k _ _ _ hne hh⟩
end AX
end
section
namespace Sf
structure Rs where
 r:Wire.St
 bad:Bool
def Rs.fails(s:Rs):Bool:=s.bad||s.r.e !=0
def numS(s:Rs):Rs×Int:=(⟨(Wire.numR s.r).1,s.bad⟩,(Wire.numR s.r).2)
def strS(s:Rs):Rs×List UInt8:=(⟨(Wire.strR s.r).1,s.bad⟩,(Wire.strR s.r).2)
def cntS(s:Rs):Rs×Nat:=(⟨(Wire.cntR s.r 1).1,s.bad⟩,(Wire.cntR s.r 1).2)
def flagS(s:Rs):Rs×Bool:=
 let q:=Wire.numR s.r
 (⟨q.1,s.bad||(q.2 !=0&&q.2 !=1)⟩,q.2==1)
def valueS(s:Rs):Rs×V:=
 let x:=Val.readValue s.r
 (⟨x.1,s.bad||x.2.1 !=0⟩,x.2.2)
def wordsS:Nat->Rs->List (List UInt8)->Rs×List (List UInt8)
 |0,s,l=>(s,l)
 |c+1,s,l=>wordsS c (strS s).1 (l++[(strS s).2])
def instS(ver:Int)(s:Rs):Rs×Inst:=
 let a:=strS s
 let b:=strS a.1
 let c:=strS b.1
 let d:=strS c.1
 let v:=valueS d.1
 let n:=numS v.1
 let t:=flagS n.1
 let f:=if ver=2 then flagS t.1 else(t.1,false)
 let k:=cntS f.1
 let w:=wordsS k.2 k.1 []
 (w.1,⟨a.2,b.2,c.2,d.2,v.2,n.2,t.2,f.2,w.2⟩)
def pendS(s:Rs):Rs×Pend:=
 let a:=strS s
 let b:=strS a.1
 let c:=strS b.1
 (c.1,⟨a.2,b.2,c.2⟩)
def outS(s:Rs):Rs×Outp:=
 let a:=strS s
 let v:=valueS a.1
 let f:=flagS v.1
 (f.1,⟨a.2,v.2,f.2⟩)
def instsS(ver:Int):Nat->Rs->List Inst->Rs×List Inst×Bool
 |0,s,l=>(s,l,true)
 |c+1,s,l=>if s.fails then(s,l,false)else instsS ver c (instS ver s).1 (l++[(instS ver s).2])
def pendsS:Nat->Rs->List Pend->Rs×List Pend
 |0,s,l=>(s,l)
 |c+1,s,l=>pendsS c (pendS s).1 (l++[(pendS s).2])
def outsS:Nat->Rs->List Outp->Rs×List Outp×Bool
 |0,s,l=>(s,l,true)
 |c+1,s,l=>if s.fails then(s,l,false)else outsS c (outS s).1 (l++[(outS s).2])
def stateS(ver:Int)(s:Rs):Rs×St:=
 let a:=strS s
 let n:=numS a.1
 let ci:=cntS n.1
 let i:=instsS ver ci.2 ci.1 []
 if i.2.2=false then(i.1,⟨a.2,n.2,i.2.1,[],[]⟩)
 else
  let p:=if ver=2 then pendsS (cntS i.1).2 (cntS i.1).1 []else(i.1,[])
  let co:=cntS p.1
  let o:=outsS co.2 co.1 []
  (o.1,⟨a.2,n.2,i.2.1,p.2,o.2.1⟩)
end Sf
end
end Go.Proofs.YtnffmgmidghfhaaGreatDoor
