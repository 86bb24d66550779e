/- Part of what the proof needs. -/
import Derived.Test.YthhpocnmfknalaaGreatDoorMFrWorkspaceCallsO
set_option maxHeartbeats 4000000
set_option maxRecDepth 100000
set_option linter.all false
namespace Go.Proofs.YthhpocnmfknalaaGreatDoor
section
namespace Sf
structure Rs where
 r:Wire.St
 bad:Bool
def Rs.fails(s:Rs):Bool:=s.bad||s.r.e !=0
def numS(s:Rs):Rs×Int:=(⟨(Wire.numR s.r).1,s.bad⟩,(Wire.numR s.r).2)
def strS(s:Rs):Rs×List UInt8:=(⟨(Wire.strR s.r).1,s.bad⟩,(Wire.strR s.r).2)
def cntS(s:Rs):Rs×Nat:=(⟨(Wire.cntR s.r 1).1,s.bad⟩,(Wire.cntR s.r 1).2)
def flagS(s:Rs):Rs×Bool:=
 let q:=Wire.numR s.r
 (⟨q.1,s.bad||(q.2 !=0&&q.2 !=1)⟩,q.2==1)
def valueS(s:Rs):Rs×V:=
 let x:=Val.readValue s.r
 (⟨x.1,s.bad||x.2.1 !=0⟩,x.2.2)
def wordsS:Nat->Rs->List (List UInt8)->Rs×List (List UInt8)
 |0,s,l=>(s,l)
 |c+1,s,l=>wordsS c (strS s).1 (l++[(strS s).2])
def instS(ver:Int)(s:Rs):Rs×Inst:=
 let a:=strS s
 let b:=strS a.1
 let c:=strS b.1
 let d:=strS c.1
 let v:=valueS d.1
 let n:=numS v.1
 let t:=flagS n.1
 let f:=if ver=2 then flagS t.1 else(t.1,false)
 let k:=cntS f.1
 let w:=wordsS k.2 k.1 []
 (w.1,⟨a.2,b.2,c.2,d.2,v.2,n.2,t.2,f.2,w.2⟩)
def pendS(s:Rs):Rs×Pend:=
 let a:=strS s
 let b:=strS a.1
 let c:=strS b.1
 (c.1,⟨a.2,b.2,c.2⟩)
def outS(s:Rs):Rs×Outp:=
 let a:=strS s
 let v:=valueS a.1
 let f:=flagS v.1
 (f.1,⟨a.2,v.2,f.2⟩)
def instsS(ver:Int):Nat->Rs->List Inst->Rs×List Inst×Bool
 |0,s,l=>(s,l,true)
 |c+1,s,l=>if s.fails then(s,l,false)else instsS ver c (instS ver s).1 (l++[(instS ver s).2])
def pendsS:Nat->Rs->List Pend->Rs×List Pend
 |0,s,l=>(s,l)
 |c+1,s,l=>pendsS c (pendS s).1 (l++[(pendS s).2])
def outsS:Nat->Rs->List Outp->Rs×List Outp×Bool
 |0,s,l=>(s,l,true)
 |c+1,s,l=>if s.fails then(s,l,false)else outsS c (outS s).1 (l++[(outS s).2])
def stateS(ver:Int)(s:Rs):Rs×St:=
 let a:=strS s
 let n:=numS a.1
 let ci:=cntS n.1
 let i:=instsS ver ci.2 ci.1 []
 if i.2.2=false then(i.1,⟨a.2,n.2,i.2.1,[],[]⟩)
 else
  let p:=if ver=2 then pendsS (cntS i.1).2 (cntS i.1).1 []else(i.1,[])
  let co:=cntS p.1
  let o:=outsS co.2 co.1 []
  (o.1,⟨a.2,n.2,i.2.1,p.2,o.2.1⟩)
end Sf
end
section
open Go.RowKit
namespace Sf
def Inst.cells:Inst->List AX.A
 |⟨a,d,i,t,.mk k n s is ks,v,tn,fi,ds⟩=>[.str a,.str d,.str i,.str t,.int .i64 k,.int .i64 n,.str s,.sl 5 .no (V.cellss is),.sl 1 .no (strsA ks),.int .i64 v,.bool tn,.bool fi,.sl 1 .no (strsA ds)]
def Pend.cells(p:Pend):List AX.A:=[.str p.addr,.str p.typ,.str p.tok]
def Outp.cells:Outp->List AX.A
 |⟨m,.mk k n s is ks,b⟩=>[.str m,.int .i64 k,.int .i64 n,.str s,.sl 5 .no (V.cellss is),.sl 1 .no (strsA ks),.bool b]
def St.A(s:St):AX.A:=.agg [.str s.lin,.int .i64 s.ser,.sl 13 .no (s.insts.map Inst.cells),.sl 3 .no (s.pends.map Pend.cells),.sl 7 .no (s.outs.map Outp.cells)]
end Sf
namespace Val
theorem readValue_le(r:Wire.St):(readValue r).1.rest.length<=r.rest.length:=by
 have:=read_le 32 r;unfold readValue;dsimp only;split
 ·exact this
 ·split<;>exact this
end Val
namespace Sf
theorem strS_le(s:Rs):(strS s).1.r.rest.length<=s.r.rest.length:=Wire.strR_rest _
theorem numS_le(s:Rs):(numS s).1.r.rest.length<=s.r.rest.length:=Wire.numR_rest _
theorem cntS_le(s:Rs):(cntS s).1.r.rest.length<=s.r.rest.length:=Wire.cntR_rest _ _
theorem cntS_cnt(s:Rs):(cntS s).2<=s.r.rest.length:=Wire.cntR_cnt _
theorem flagS_le(s:Rs):(flagS s).1.r.rest.length<=s.r.rest.length:=Wire.numR_rest _
theorem valueS_le(s:Rs):(valueS s).1.r.rest.length<=s.r.rest.length:=Val.readValue_le _
theorem wordsS_le:∀(c:Nat) (s:Rs) (l:List (List UInt8)),(wordsS c s l).1.r.rest.length<=s.r.rest.length
 |0,s,l=>Ze _
 |c+1,s,l=>Zr (wordsS_le c _ _) (strS_le s)
end Sf
namespace AX
def RB(ver:Int)(bad:Bool):Blk:=.cells 134 [.ptr 1 0,.int .i64 ver,.bool bad]
theorem liftR{P:Program}{G:World->Prop}{f:FuncId}{args:List A}{ver:Int}{s s':Sf.Rs}{v:A}(hc:ACall P G f (.ptr 0 0::args) ⟨[RB ver s.bad,rdr s.r],[]⟩ fun v' h'=>v'=v/\h'.b[0]?=some (RB ver s'.bad)/\h'.b[1]?=some (rdr s'.r))(ha:A.locL 0 args=true)(hv:v.loc 0=true)(l:List Blk)(t:List (TypeId×Nat×Nat)):
  ACall P G f (.ptr 0 0::args) ⟨RB ver s.bad::rdr s.r::l,t⟩ fun v' h'=>v'=v/\h'=⟨RB ver s'.bad::rdr s'.r::l,t⟩:=by
 have key:=ACall.lift hc (fun i=>i) (fun a b _ _ e=>e) (by unfold A.locL;rw[(A.locL0 _ args ha).1];rfl)
  (fun x hx=>by
   rcases ZL.1 hx with rfl|hx
   ·rfl
   ·rw[ZJ.1 hx];rfl)
  (fun v' h' ⟨e,h0,h1⟩=>⟨by rw[e];exact(A.loc0 _ v hv).1,fun j x hj hx=>by
   have:j=0\/j=1:=by simp only[Zf,Zo]at hj;omega
   rcases this with rfl|rfl
   ·rw[h0]at hx;injection hx with hx;subst hx;rfl
   ·rw[h1]at hx;injection hx with hx;subst hx;rfl⟩)
  (h:=⟨RB ver s.bad::rdr s.r::l,t⟩) (fun j hj=>by
   have:j=0\/j=1:=by simp only[Zf,Zo]at hj;omega
   rcases this with rfl|rfl<;>rfl)
 have e:A.renL (fun i=>i) (.ptr 0 0::args)=.ptr 0 0::args:=by unfold A.renL;rw[(A.locL0 0 args ha).2];rfl
 rw[e]at key;refine key.mono ?_;rintro v' h' ⟨v0,⟨b0,t0⟩,⟨rfl,h0,h1⟩,rfl,rfl⟩;refine⟨(A.loc0 0 _ hv).2 _,?_⟩
 match b0,h0,h1 with
 |x::y::b,h0,h1=>
  simp only[ZU,ZR,Zc]at h0 h1;subst h0;subst h1;rfl
def bv0:AX.AFn:=⟨26,aS [aR 2 (.mv (.c (.bool false)))] (aS [aM 4 0,aR 5 (.nilck (.t 4)),aF 6 0 5,aL 7 6,aR 8 (.call 89 [.t 7]),aM 3 8] (aS [aM 9 0,aM 10 0,aR 11 (.nilck (.t 10)),aF 12 2 11,aL 13 12,aM 14 13,aG 15 (.mv (.t 3)) 14 false,aG 16 (.bin .neq (.t 15) (aI 0)) 14 false,aG 17 (.mv (.t 16)) 14 false,aG 18 (.mv (.t 3)) 17 true,aG 19 (.bin .neq (.t 18) (aI 1)) 17 true,aG 20 (.pick (.t 17) (.t 19) (.c (.bool false))) 14 false,aR 21 (.pick (.t 14) (.c (.bool true)) (.t 20)),aR 22 (.nilck (.t 9)),aF 23 2 22,aU (.store 1 (.t 23) (.t 21))] (aS [aM 24 3,aR 25 (.bin .eql (.t 24) (aI 1)),aM 2 25] (.ret)))),[.t 2]⟩
theorem dz6:AX.compFn Tryz.prog 131=some bv0:=by kernel_rfl
def bq7:AX.AFn:=⟨25,aS [aR 2 (.alloc 51 [.int .i64 0,.int .i64 0,.str [],.sl 0 .nil [],.sl 0 .nil []])] (aS [aM 6 0,aR 7 (.nilck (.t 6)),aF 8 0 7,aL 9 8,aR 10 (.call 152 [.t 9]),aM 5 10,aE 11 5 0,aE 12 5 1,aR 3 (.alloc 51 [.int .i64 0,.int .i64 0,.str [],.sl 0 .nil [],.sl 0 .nil []]),aU (.store 5 (.t 3) (.t 11)),aM 4 12] (aS [aM 13 0,aM 14 0,aR 15 (.nilck (.t 14)),aF 16 2 15,aL 17 16,aM 18 17,aG 19 (.mv (.t 4)) 18 false,aG 20 (.bin .neq (.t 19) (aI 0)) 18 false,aR 21 (.pick (.t 18) (.c (.bool true)) (.t 20)),aR 22 (.nilck (.t 13)),aF 23 2 22,aU (.store 1 (.t 23) (.t 21))] (aS [aR 24 (.load true 5 (.t 3)),aU (.store 5 (.t 2) (.t 24))] (.ret)))),[.c 2 true 5]⟩
theorem cv0:AX.compFn Tryz.prog 130=some bq7:=by kernel_rfl
def bqy:AX.AFn:=⟨15,aS [aR 2 (.mv (.c (.bool false)))] (aS [aM 3 0,aR 4 (.nilck (.t 3)),aF 5 2 4,aL 6 5,aM 7 6,aG 8 (.mv (.t 0)) 7 false,aG 9 (.nilck (.t 8)) 7 false,aG 10 (.faddr 0 (.t 9)) 7 false,aG 11 (.load false 1 (.t 10)) 7 false,aG 12 (.call 122 [.t 11]) 7 false,aG 13 (.bin .neq (.t 12) (aI 0)) 7 false,aR 14 (.pick (.t 7) (.c (.bool true)) (.t 13)),aM 2 14] (.ret)),[.t 2]⟩
theorem ckc:AX.compFn Tryz.prog 91=some bqy:=by kernel_rfl
theorem bq4{ver:Int}(s:Sf.Rs)(hl:s.r.rest.length<=100000000)(l:List Blk)(t:List (TypeId×Nat×Nat)):
  AC 131 [.ptr 0 0] ⟨RB ver s.bad::rdr s.r::l,t⟩ fun v h'=>v=.bool (Sf.flagS s).2/\h'=⟨RB ver (Sf.flagS s).1.bad::rdr (Sf.flagS s).1.r::l,t⟩:=by
 refine liftR ?_ rfl rfl l t;refine azf mixedT dz6 (by simp[bv0]) ?_;dsimp only[bv0];unfold RB;refine aza ti ?_;refine use (axr (i:=1) (r:=s.r) rfl hl) ?_;obtain⟨q,hq⟩:=Ex (Wire.numR s.r);have hF:Sf.flagS s=(⟨q.1,s.bad||(q.2 !=0&&q.2 !=1)⟩,q.2==1):=by unfold Sf.flagS;rw[hq]
 rw[hq,hF];rcases azl s.bad with e0|e0
 ·rw[e0];refine aza ti ?_;exact⟨_,le_refl _,rfl,rfl,rfl⟩
 ·rw[e0];rcases azl (q.2 !=0)with e1|e1
  ·refine aza e1 ?_;exact⟨_,le_refl _,rfl,by rw[e1];rfl,rfl⟩
  ·refine aza e1 ?_;exact⟨_,le_refl _,rfl,by rw[e1];rfl,rfl⟩
theorem akt{ver:Int}(s:Sf.Rs)(l:List Blk)(t:List (TypeId×Nat×Nat)):
  AT 91 [.ptr 0 0] ⟨RB ver s.bad::rdr s.r::l,t⟩ (.bool s.fails):=by
 refine azf mixedT ckc (by simp[bqy]) ?_;dsimp only[bqy];unfold RB;unfold Sf.Rs.fails;rcases azl s.bad with e0|e0
 ·rw[e0];refine aza ti ?_;exact⟨_,le_refl _,rfl,rfl⟩
 ·rw[e0];refine aza ti ?_;refine use (czj (i:=1) (r:=s.r) rfl) ?_;refine aza ti ?_;exact⟨_,le_refl _,rfl,rfl⟩
theorem bqc{ver:Int}(s:Sf.Rs)(hl:s.r.rest.length<=100000000)(l:List Blk)(t:List (TypeId×Nat×Nat)):
  AC 130 [.ptr 0 0] ⟨RB ver s.bad::rdr s.r::l,t⟩ fun v h'=>v=(Sf.valueS s).2.A/\h'=⟨RB ver (Sf.valueS s).1.bad::rdr (Sf.valueS s).1.r::l,t⟩:=by
 obtain⟨⟨x1,x2,x3⟩,hx⟩:=Ex (Val.readValue s.r);have hF:Sf.valueS s=(⟨x1,s.bad||x2 !=0⟩,x3):=by unfold Sf.valueS;rw[hx]
 have hrd:=bva (i:=1) (r:=s.r) (h:=⟨[RB ver s.bad,rdr s.r,.cells 51 [.int .i64 0,.int .i64 0,.str [],.sl 0 .nil [],.sl 0 .nil []]],[]⟩) rfl hl;rw[hx]at hrd;rw[hF];obtain⟨k,n,w,is,ks⟩:=x3;have hVA:(V.mk k n w is ks).A=.agg [.int .i64 k,.int .i64 n,.str w,.sl 5 .no (V.cellss is),.sl 1 .no (strsA ks)]:=by simp only[V.A,V.cells]
 dsimp only at hrd⊢;rw[hVA]at hrd⊢;unfold RB at hrd;refine liftR (s':=⟨x1,s.bad||x2 !=0⟩) ?_ rfl rfl l t;refine azf mixedT cv0 (by simp[bq7]) ?_;dsimp only[bq7];unfold RB;refine aza ti ?_;refine use hrd ?_;rcases azl s.bad with e0|e0
 ·rw[e0];refine aza ti ?_;exact⟨_,le_refl _,rfl,rfl,rfl⟩
 ·rw[e0];refine aza ti ?_;exact⟨_,le_refl _,rfl,rfl,rfl⟩
def ZI:Blk:=.cells 91 [.str [],.str [],.str [],.str [],.int .i64 0,.int .i64 0,.str [],.sl 0 .nil [],.sl 0 .nil [],.int .i64 0,.bool false,.bool false,.sl 0 .nil []]
def IB(a b c d:List UInt8)(v:List A)(n:Int)(tn fi:Bool)(x:A):Blk:=.cells 91 ([.str a,.str b,.str c,.str d]++v++[.int .i64 n,.bool tn,.bool fi,x])
theorem dzq{ver:Int}(hver:ver=1\/ver=2)(s:Sf.Rs)(hl:s.r.rest.length<=100000000)(l:List Blk)(t:List (TypeId×Nat×Nat)):
  AC 129 [.ptr 0 0] ⟨RB ver s.bad::rdr s.r::l,t⟩ fun v h'=>v=.agg (Sf.instS ver s).2.cells/\h'=⟨RB ver (Sf.instS ver s).1.bad::rdr (Sf.instS ver s).1.r::l,t⟩:=by
 refine liftR (s':=(Sf.instS ver s).1) (v:=.agg (Sf.instS ver s).2.cells) ?_ rfl ?_ l t;rotate_left
 ·obtain⟨a,d,i,ty,⟨k,n,w,is,ks⟩,v,tn,fi,ds⟩:=(Sf.instS ver s).2;rfl
 refine fo ?_;unfold RB;obtain⟨⟨r1,x1⟩,h1⟩:=Ex (Wire.strR s.r);have l1:=Wire.strR_rest s.r;rw[h1]at l1;obtain⟨⟨r2,x2⟩,h2⟩:=Ex (Wire.strR r1);have l2:=Wire.strR_rest r1;rw[h2]at l2;obtain⟨⟨r3,x3⟩,h3⟩:=Ex (Wire.strR r2);have l3:=Wire.strR_rest r2;rw[h3]at l3;obtain⟨⟨r4,x4⟩,h4⟩:=Ex (Wire.strR r3);have l4:=Wire.strR_rest r3;rw[h4]at l4;dsimp only at l1 l2 l3 l4;have str:∀(r r':Wire.St) (x:List UInt8) (h:Hp),Wire.strR r=(r',x)->h.b[1]?=some (rdr r)->r.rest.length<=100000000->AC 127 [.ptr 1 0] h fun v h'=>v=.str x/\h'=⟨h.b.set 1 (rdr r'),h.t⟩:=fun r r' x h e hb hl=>by
  have:=avl hb hl;rw[e]at this;exact this
 refine aza ti ?_;refine cyd [4,9,14,19,22] 21 [⟨[.cells 134 [.ptr 1 0,.int .i64 ver,.bool s.bad],rdr s.r,.cells 91 [.str [],.str [],.str [],.str [],.int .i64 0,.int .i64 0,.str [],.sl 0 .nil [],.sl 0 .nil [],.int .i64 0,.bool false,.bool false,.sl 0 .nil []]],[]⟩,⟨[.cells 134 [.ptr 1 0,.int .i64 ver,.bool s.bad],rdr r1,.cells 91 [.str [],.str [],.str [],.str [],.int .i64 0,.int .i64 0,.str [],.sl 0 .nil [],.sl 0 .nil [],.int .i64 0,.bool false,.bool false,.sl 0 .nil []]],[]⟩,⟨[.cells 134 [.ptr 1 0,.int .i64 ver,.bool s.bad],rdr r2,.cells 91 [.str [],.str [],.str [],.str [],.int .i64 0,.int .i64 0,.str [],.sl 0 .nil [],.sl 0 .nil [],.int .i64 0,.bool false,.bool false,.sl 0 .nil []]],[]⟩,⟨[.cells 134 [.ptr 1 0,.int .i64 ver,.bool s.bad],rdr r3,.cells 91 [.str [],.str [],.str [],.str [],.int .i64 0,.int .i64 0,.str [],.sl 0 .nil [],.sl 0 .nil [],.int .i64 0,.bool false,.bool false,.sl 0 .nil []]],[]⟩,⟨[.cells 134 [.ptr 1 0,.int .i64 ver,.bool s.bad],rdr r4,.cells 91 [.str [],.str [],.str [],.str [],.int .i64 0,.int .i64 0,.str [],.sl 0 .nil [],.sl 0 .nil [],.int .i64 0,.bool false,.bool false,.sl 0 .nil []]],[]⟩,⟨[],[]⟩,⟨[.cells 134 [.ptr 1 0,.int .i64 ver,.bool s.bad],rdr s.r,.cells 91 [.str [],.str [],.str [],.str [],.int .i64 0,.int .i64 0,.str [],.sl 0 .nil [],.sl 0 .nil [],.int .i64 0,.bool false,.bool false,.sl 0 .nil []],.cells 91 [.str [],.str [],.str [],.str [],.int .i64 0,.int .i64 0,.str [],.sl 0 .nil [],.sl 0 .nil [],.int .i64 0,.bool false,.bool false,.sl 0 .nil []]],[]⟩,⟨[.cells 134 [.ptr 1 0,.int .i64 ver,.bool s.bad],rdr r1,.cells 91 [.str [],.str [],.str [],.str [],.int .i64 0,.int .i64 0,.str [],.sl 0 .nil [],.sl 0 .nil [],.int .i64 0,.bool false,.bool false,.sl 0 .nil []],.cells 91 [.str [],.str [],.str [],.str [],.int .i64 0,.int .i64 0,.str [],.sl 0 .nil [],.sl 0 .nil [],.int .i64 0,.bool false,.bool false,.sl 0 .nil []]],[]⟩,⟨[.cells 134 [.ptr 1 0,.int .i64 ver,.bool s.bad],rdr r2,.cells 91 [.str [],.str [],.str [],.str [],.int .i64 0,.int .i64 0,.str [],.sl 0 .nil [],.sl 0 .nil [],.int .i64 0,.bool false,.bool false,.sl 0 .nil []],.cells 91 [.str [],.str [],.str [],.str [],.int .i64 0,.int .i64 0,.str [],.sl 0 .nil [],.sl 0 .nil [],.int .i64 0,.bool false,.bool false,.sl 0 .nil []]],[]⟩,⟨[.cells 134 [.ptr 1 0,.int .i64 ver,.bool s.bad],rdr r3,.cells 91 [.str [],.str [],.str [],.str [],.int .i64 0,.int .i64 0,.str [],.sl 0 .nil [],.sl 0 .nil [],.int .i64 0,.bool false,.bool false,.sl 0 .nil []],.cells 91 [.str [],.str [],.str [],.str [],.int .i64 0,.int .i64 0,.str [],.sl 0 .nil [],.sl 0 .nil [],.int .i64 0,.bool false,.bool false,.sl 0 .nil []]],[]⟩,⟨[.cells 134 [.ptr 1 0,.int .i64 ver,.bool s.bad],rdr r4,.cells 91 [.str [],.str [],.str [],.str [],.int .i64 0,.int .i64 0,.str [],.sl 0 .nil [],.sl 0 .nil [],.int .i64 0,.bool false,.bool false,.sl 0 .nil []],.cells 91 [.str [],.str [],.str [],.str [],.int .i64 0,.int .i64 0,.str [],.sl 0 .nil [],.sl 0 .nil [],.int .i64 0,.bool false,.bool false,.sl 0 .nil []]],[]⟩,⟨[.cells 134 [.ptr 1 0,.int .i64 ver,.bool s.bad],rdr r4,.cells 91 [.str [],.str [],.str [],.str [],.int .i64 0,.int .i64 0,.str [],.sl 0 .nil [],.sl 0 .nil [],.int .i64 0,.bool false,.bool false,.sl 0 .nil []],.cells 91 [.str x1,.str x2,.str x3,.str x4,.int .i64 0,.int .i64 0,.str [],.sl 0 .nil [],.sl 0 .nil [],.int .i64 0,.bool false,.bool false,.sl 0 .nil []]],[]⟩] [[0,6],[0,6],[0,6],[0,6],[0,6],[0,1,6,7],[0,1,6,7],[0,1,6,7],[0,1,6,7],[1,7],[0,1,2,6,7,8],[0,1,2,6,7,8],[0,1,2,6,7,8],[0,1,2,6,7,8],[2,8],[0,1,2,3,6,7,8,9],[0,1,2,3,6,7,8,9],[0,1,2,3,6,7,8,9],[0,1,2,3,6,7,8,9],[3,9],[4,10],[0,1,2,3,4],[10]] rfl (by decide +kernel) ?_;refine AX.rung ti ?_;refine avw (vs:=[.ptr 1 0]) (by(exact ev0 ti)) ⟨str s.r r1 x1 _ h1 rfl (by omega),str s.r r1 x1 _ h1 rfl (by omega),trivial⟩ ?_;refine AX.rung ti ?_;refine avw (vs:=[.ptr 1 0]) (by(exact ev0 ti)) ⟨str r1 r2 x2 _ h2 rfl (by omega),str r1 r2 x2 _ h2 rfl (by omega),trivial⟩ ?_;refine AX.rung ti ?_;refine avw (vs:=[.ptr 1 0]) (by(exact ev0 ti)) ⟨str r2 r3 x3 _ h3 rfl (by omega),str r2 r3 x3 _ h3 rfl (by omega),trivial⟩ ?_;refine AX.rung ti ?_;refine avw (vs:=[.ptr 1 0]) (by(exact ev0 ti)) ⟨str r3 r4 x4 _ h4 rfl (by omega),str r3 r4 x4 _ h4 rfl (by omega),trivial⟩ ?_;refine AX.rung ti ?_;obtain⟨⟨⟨r5,b5⟩,xv⟩,h5⟩:=Ex (Sf.valueS ⟨r4,s.bad⟩);have c5:=bqc (ver:=ver) ⟨r4,s.bad⟩ (by dsimp only;omega) [ZI,IB x1 x2 x3 x4 [.int .i64 0,.int .i64 0,.str [],.sl 0 .nil [],.sl 0 .nil []] 0 false false (.sl 0 .nil [])] [];have l5:=Sf.valueS_le ⟨r4,s.bad⟩;rw[h5]at c5 l5;obtain⟨vk,vn,vs,vi,vy⟩:=xv;have hVA:(V.mk vk vn vs vi vy).A=.agg [.int .i64 vk,.int .i64 vn,.str vs,.sl 5 .no (V.cellss vi),.sl 1 .no (strsA vy)]:=by simp only[V.A,V.cells]
 dsimp only at c5 l5;rw[hVA]at c5;unfold RB ZI IB at c5;refine aza ti ?_;refine use c5 ?_;refine aza ti ?_;refine use (axr (i:=1) (r:=r5) rfl (by omega)) ?_;have l6:=Wire.numR_rest r5;obtain⟨⟨r6,x6⟩,h6⟩:=Ex (Wire.numR r5);rw[h6]at l6⊢;dsimp only at l6⊢;obtain⟨⟨⟨r7,b7⟩,x7⟩,h7⟩:=Ex (Sf.flagS ⟨r6,b5⟩);have l7:=Sf.flagS_le ⟨r6,b5⟩;have c7:=bq4 (ver:=ver) ⟨r6,b5⟩ (by dsimp only;omega) [ZI,IB x1 x2 x3 x4 [.int .i64 vk,.int .i64 vn,.str vs,.sl 5 .no (V.cellss vi),.sl 1 .no (strsA vy)] x6 false false (.sl 0 .nil [])] [];rw[h7]at c7 l7;dsimp only at c7 l7;unfold RB ZI IB at c7;simp only[ZE,Zq]at c7;refine aza ti ?_;refine use c7 ?_;have fin:∀(r8:Wire.St) (b8 x8:Bool) (c0:Wire.St×Nat) (rr:Wire.St) (bw:Bool) (ds:List (List UInt8)),(if ver=2 then Sf.flagS ⟨r7,b7⟩else(⟨r7,b7⟩,false))=(⟨r8,b8⟩,x8)->Wire.cntR r8 1=c0->Sf.wordsS c0.2 ⟨c0.1,b8⟩ []=(⟨rr,bw⟩,ds)->Sf.instS ver s=(⟨rr,bw⟩,⟨x1,x2,x3,x4,.mk vk vn vs vi vy,x6,x7,x8,ds⟩):=by
  intro r8 b8 x8 c0 rr bw ds h8 hc hw;unfold Sf.instS Sf.strS Sf.numS Sf.cntS;simp only[h1,h2,h3,h4,h5,h6,h7,h8,hc,hw]
 have branch:∃(r8:Wire.St) (b8 x8:Bool),(if ver=2 then Sf.flagS ⟨r7,b7⟩else(⟨r7,b7⟩,false))=(⟨r8,b8⟩,x8)/\r8.rest.length<=r7.rest.length:=by
  by_cases hv:ver=2
  ·rw[if_pos hv];exact⟨(Sf.flagS ⟨r7,b7⟩).1.r,(Sf.flagS ⟨r7,b7⟩).1.bad,(Sf.flagS ⟨r7,b7⟩).2,rfl,Sf.flagS_le _⟩
  ·rw[if_neg hv];exact⟨r7,b7,false,rfl,Ze _⟩
 obtain⟨r8,b8,x8,h8,l8⟩:=branch;have hfin:=fin r8 b8 x8;have c8:=bq4 (ver:=ver) ⟨r7,b7⟩ (by dsimp only;omega) [ZI,IB x1 x2 x3 x4 [.int .i64 vk,.int .i64 vn,.str vs,.sl 5 .no (V.cellss vi),.sl 1 .no (strsA vy)] x6 x7 false (.sl 0 .nil [])] [];unfold RB ZI IB at c8;simp only[ZE,Zq]at c8;have hv12:∀{G:Prop},(((ver==2)=false)->r8=r7->b8=b7->x8=false->G)->((ver==2)=true->Sf.flagS ⟨r7,b7⟩=(⟨r8,b8⟩,x8)->G)->G:=fun a b=>by
  rcases hver with rfl|rfl
  ·rw[if_neg (by decide)]at h8;injection h8 with h8 h9;injection h8 with h8 h10;exact a rfl h8.symm h10.symm h9.symm
  ·rw[if_pos rfl]at h8;exact b rfl h8
 have hval:=h8;refine hv12 (fun e2 er eb ex=>?_) (fun e2 hf=>?_)
 ·refine aza e2 ?_;subst er;subst eb;subst ex;refine use (bz6 (i:=1) (r:=r8) rfl (by omega)) ?_;have lc:=Wire.cntR_rest r8 1;have lk:=Wire.cntR_cnt r8;obtain⟨⟨rc,c⟩,hc⟩:=Ex (Wire.cntR r8 1);rw[hc]at lc lk⊢;dsimp only at lc lk⊢;obtain⟨⟨⟨rr,bw⟩,dw⟩,hw⟩:=Ex (Sf.wordsS c ⟨rc,b8⟩ []);refine aza ti ?_
  refine azg (fun mm ts h=>∃(j:Nat) (p:Wire.St) (ds:List (List UInt8)) (W:Nat) (o:Own) (t:List (TypeId×Nat×Nat)),mm=c-j/\j<=c /\
   h=⟨[.cells 134 [.ptr 1 0,.int .i64 ver,.bool b8],rdr p,.cells 91 [.str [],.str [],.str [],.str [],.int .i64 0,.int .i64 0,.str [],.sl 0 .nil [],.sl 0 .nil [],.int .i64 0,.bool false,.bool false,.sl 0 .nil []],.cells 91 [.str x1,.str x2,.str x3,.str x4,.int .i64 vk,.int .i64 vn,.str vs,.sl 5 .no (V.cellss vi),.sl 1 .no (strsA vy),.int .i64 x6,.bool x7,.bool false,.sl W o (strsA ds)]],t⟩ /\
   Sf.wordsS (c-j) ⟨p,b8⟩ ds=(⟨rr,bw⟩,dw)/\ds.length=j/\p.rest.length<=rc.rest.length/\Gs 9 1 0 ⟨[],t⟩ (strsA ds) (.sl W o (strsA ds)) /\
   ts 0=.ptr 0 0/\ts 2=.ptr 2 0/\ts 3=.ptr 3 0/\ts 49=.int .i64 (c:Nat)/\ts 50=.int .i64 (j:Nat)) c ?_ ?_
  ·exact⟨0,rc,[],0,.nil,[],by omega,by omega,rfl,hw,rfl,Ze _,.inl ⟨rfl,rfl⟩,by(exact ev0 ti),by(exact ev0 ti),by(exact ev0 ti),by(exact ev0 ti),by(exact azv ti)⟩
  ·rintro mm ts h ⟨j,p,ds,W,o,t,rfl,hjc,rfl,hit,hdl,hpl,gX,t0,t2,t3,t49,t50⟩;by_cases hj:j<c
   ·have hlt:(j:Int)<(c:Int):=by omega
    have ei:IntKind.i64.wrap ((j:Int)+1)=((j+1:Nat):Int):=by rw[wrap64 (by omega) (by omega)];omega
    have lp:=Wire.strR_rest p;have cp:=fun h hb=>str p (Wire.strR p).1 (Wire.strR p).2 h rfl hb (by omega)
    obtain⟨⟨p2,s2⟩,hp2⟩:=Ex (Wire.strR p);have hstep:Sf.wordsS (c-(j+1)) ⟨p2,b8⟩ (ds++[s2])=(⟨rr,bw⟩,dw):=by
     rw[show c-j=(c-(j+1))+1 by omega,Sf.wordsS]at hit;unfold Sf.strS at hit;simp only[hp2]at hit;exact hit
    rw[hp2]at lp cp;dsimp only at lp cp;obtain⟨W',o',t',hX,gX',_⟩:=gX.grow 16 [.str s2] (by rw[azd];omega) (by decide);rw[<-ax3]at gX';simp only[<-ax3]at hX;refine aza (ai t0 (ai t2 (ai t3 (ai t49 (ai t50 hlt))))) ?_;refine use (cp _ rfl) ?_;refine aza (ai t0 (ai t2 (ai t3 (ai t49 (ai t50 (ai hX ei)))))) ?_;exact⟨c-(j+1),by omega,j+1,p2,ds++[s2],W',o',t',rfl,by omega,rfl,hstep,by simp[hdl],by omega,gX',by(exact ev0 t0),by(exact ev0 t2),by(exact ev0 t3),by(exact ev0 t49),by(exact ev0 ei)⟩
   ·have hlt:¬((j:Int)<(c:Int)):=by omega
    rw[show c-j=0 by omega,Sf.wordsS]at hit;injection hit with hit hit2;injection hit with hit hit3;subst hit;subst hit2;subst hit3;refine aza (ai t0 (ai t2 (ai t3 (ai t49 (ai t50 hlt))))) ?_;rw[hfin _ _ _ _ hval hc hw];exact⟨.agg [.str x1,.str x2,.str x3,.str x4,.int .i64 vk,.int .i64 vn,.str vs,.sl 5 .no (V.cellss vi),.sl 1 .no (strsA vy),.int .i64 x6,.bool x7,.bool false,.sl 1 .no (strsA ds)],⟨aze _,aze _,aze _,aze _,aze _,aze _,aze _,aze _,aze _,aze _,aze _,aze _,Gs.le gX,trivial⟩,rfl,rfl,rfl⟩
 ·refine aza e2 ?_;rw[hf]at c8;dsimp only at c8;refine use c8 ?_;refine aza ti ?_;refine use (bz6 (i:=1) (r:=r8) rfl (by omega)) ?_;have lc:=Wire.cntR_rest r8 1;have lk:=Wire.cntR_cnt r8;obtain⟨⟨rc,c⟩,hc⟩:=Ex (Wire.cntR r8 1);rw[hc]at lc lk⊢;dsimp only at lc lk⊢;obtain⟨⟨⟨rr,bw⟩,dw⟩,hw⟩:=Ex (Sf.wordsS c ⟨rc,b8⟩ []);refine aza ti ?_
  refine azg (fun mm ts h=>∃(j:Nat) (p:Wire.St) (ds:List (List UInt8)) (W:Nat) (o:Own) (t:List (TypeId×Nat×Nat)),mm=c-j/\j<=c /\
   h=⟨[.cells 134 [.ptr 1 0,.int .i64 ver,.bool b8],rdr p,.cells 91 [.str [],.str [],.str [],.str [],.int .i64 0,.int .i64 0,.str [],.sl 0 .nil [],.sl 0 .nil [],.int .i64 0,.bool false,.bool false,.sl 0 .nil []],.cells 91 [.str x1,.str x2,.str x3,.str x4,.int .i64 vk,.int .i64 vn,.str vs,.sl 5 .no (V.cellss vi),.sl 1 .no (strsA vy),.int .i64 x6,.bool x7,.bool x8,.sl W o (strsA ds)]],t⟩ /\
   Sf.wordsS (c-j) ⟨p,b8⟩ ds=(⟨rr,bw⟩,dw)/\ds.length=j/\p.rest.length<=rc.rest.length/\Gs 9 1 0 ⟨[],t⟩ (strsA ds) (.sl W o (strsA ds)) /\
   ts 0=.ptr 0 0/\ts 2=.ptr 2 0/\ts 3=.ptr 3 0/\ts 49=.int .i64 (c:Nat)/\ts 50=.int .i64 (j:Nat)) c ?_ ?_
  ·exact⟨0,rc,[],0,.nil,[],by omega,by omega,rfl,hw,rfl,Ze _,.inl ⟨rfl,rfl⟩,by(exact ev0 ti),by(exact ev0 ti),by(exact ev0 ti),by(exact ev0 ti),by(exact azv ti)⟩
  ·rintro mm ts h ⟨j,p,ds,W,o,t,rfl,hjc,rfl,hit,hdl,hpl,gX,t0,t2,t3,t49,t50⟩;by_cases hj:j<c
   ·have hlt:(j:Int)<(c:Int):=by omega
    have ei:IntKind.i64.wrap ((j:Int)+1)=((j+1:Nat):Int):=by rw[wrap64 (by omega) (by omega)];omega
    have lp:=Wire.strR_rest p;have cp:=fun h hb=>str p (Wire.strR p).1 (Wire.strR p).2 h rfl hb (by omega)
    obtain⟨⟨p2,s2⟩,hp2⟩:=Ex (Wire.strR p);have hstep:Sf.wordsS (c-(j+1)) ⟨p2,b8⟩ (ds++[s2])=(⟨rr,bw⟩,dw):=by
     rw[show c-j=(c-(j+1))+1 by omega,Sf.wordsS]at hit;unfold Sf.strS at hit;simp only[hp2]at hit;exact hit
    rw[hp2]at lp cp;dsimp only at lp cp;obtain⟨W',o',t',hX,gX',_⟩:=gX.grow 16 [.str s2] (by rw[azd];omega) (by decide);rw[<-ax3]at gX';simp only[<-ax3]at hX;refine aza (ai t0 (ai t2 (ai t3 (ai t49 (ai t50 hlt))))) ?_;refine use (cp _ rfl) ?_;refine aza (ai t0 (ai t2 (ai t3 (ai t49 (ai t50 (ai hX ei)))))) ?_;exact⟨c-(j+1),by omega,j+1,p2,ds++[s2],W',o',t',rfl,by omega,rfl,hstep,by simp[hdl],by omega,gX',by(exact ev0 t0),by(exact ev0 t2),by(exact ev0 t3),by(exact ev0 t49),by(exact ev0 ei)⟩
   ·have hlt:¬((j:Int)<(c:Int)):=by omega
    rw[show c-j=0 by omega,Sf.wordsS]at hit;injection hit with hit hit2;injection hit with hit hit3;subst hit;subst hit2;subst hit3;refine aza (ai t0 (ai t2 (ai t3 (ai t49 (ai t50 hlt))))) ?_;rw[hfin _ _ _ _ hval hc hw];exact⟨.agg [.str x1,.str x2,.str x3,.str x4,.int .i64 vk,.int .i64 vn,.str vs,.sl 5 .no (V.cellss vi),.sl 1 .no (strsA vy),.int .i64 x6,.bool x7,.bool x8,.sl 1 .no (strsA ds)],⟨aze _,aze _,aze _,aze _,aze _,aze _,aze _,aze _,aze _,aze _,aze _,aze _,Gs.le gX,trivial⟩,rfl,rfl,rfl⟩
end AX
namespace Sf
theorem instS_le(ver:Int)(s:Rs):(instS ver s).1.r.rest.length<=s.r.rest.length:=by
 unfold instS;dsimp only;refine Zr (wordsS_le _ _ _) (Zr (cntS_le _) ?_);have k:(flagS (numS (valueS (strS (strS (strS (strS s).1).1).1).1).1).1).1.r.rest.length<=s.r.rest.length:=
  Zr (flagS_le _) (Zr (numS_le _) (Zr (valueS_le _) (Zr (strS_le _) (Zr (strS_le _) (Zr (strS_le _) (strS_le _))))))
 split
 ·exact Zr (flagS_le _) k
 ·exact k
end Sf
namespace AX
theorem ckd{ver:Int}(hver:ver=1\/ver=2)(s:Sf.Rs)(hl:s.r.rest.length<=100000000)(l:List Blk)(t:List (TypeId×Nat×Nat)):
  AC 90 [.ptr 0 0] ⟨RB ver s.bad::rdr s.r::l,t⟩ fun v h'=>v=(Sf.stateS ver s).2.A/\h'=⟨RB ver (Sf.stateS ver s).1.bad::rdr (Sf.stateS ver s).1.r::l,t⟩:=by
 refine liftR (s':=(Sf.stateS ver s).1) (v:=(Sf.stateS ver s).2.A) ?_ rfl rfl l t;refine fo ?_;unfold RB;obtain⟨⟨r1,x1⟩,h1⟩:=Ex (Wire.strR s.r);have l1:=Wire.strR_rest s.r;rw[h1]at l1;obtain⟨⟨r2,x2⟩,h2⟩:=Ex (Wire.numR r1);have l2:=Wire.numR_rest r1;rw[h2]at l2;obtain⟨⟨rc,c⟩,hc⟩:=Ex (Wire.cntR r2 1);have lc:=Wire.cntR_rest r2 1;have lk:=Wire.cntR_cnt r2;rw[hc]at lc lk;dsimp only at l1 l2 lc lk;have str:∀(r r':Wire.St) (x:List UInt8) (h:Hp),Wire.strR r=(r',x)->h.b[1]?=some (rdr r)->r.rest.length<=100000000->AC 127 [.ptr 1 0] h fun v h'=>v=.str x/\h'=⟨h.b.set 1 (rdr r'),h.t⟩:=fun r r' x h e hb hl=>by
  have:=avl hb hl;rw[e]at this;exact this
 have num:∀(r r':Wire.St) (x:Int) (h:Hp),Wire.numR r=(r',x)->h.b[1]?=some (rdr r)->r.rest.length<=100000000->AC 89 [.ptr 1 0] h fun v h'=>v=.int .i64 x/\h'=⟨h.b.set 1 (rdr r'),h.t⟩:=fun r r' x h e hb hl=>by
  have:=axr hb hl;rw[e]at this;exact this
 have cnt:∀(r r':Wire.St) (x:Nat) (h:Hp),Wire.cntR r 1=(r',x)->h.b[1]?=some (rdr r)->r.rest.length<=100000000->AC 128 [.ptr 1 0,.int .i64 1] h fun v h'=>v=.int .i64 (x:Nat)/\h'=⟨h.b.set 1 (rdr r'),h.t⟩:=fun r r' x h e hb hl=>by
  have:=bz6 hb hl;rw[e]at this;exact this
 obtain⟨res,hres⟩:=Ex (Sf.instsS ver c ⟨rc,s.bad⟩ [])
 have hS:Sf.stateS ver s=(if res.2.2=false then(res.1,⟨x1,x2,res.2.1,[],[]⟩)else
   let p:=if ver=2 then Sf.pendsS (Sf.cntS res.1).2 (Sf.cntS res.1).1 []else(res.1,[])
   let co:=Sf.cntS p.1
   let o:=Sf.outsS co.2 co.1 []
   (o.1,⟨x1,x2,res.2.1,p.2,o.2.1⟩)):=by
  rw[<-hres];unfold Sf.stateS Sf.strS Sf.numS;simp only[h1,h2];rw[show Sf.cntS ⟨r2,s.bad⟩=(⟨rc,s.bad⟩,c) by unfold Sf.cntS;simp only[hc]]
 have fin1:∀{p:Sf.Rs} {is:List Sf.Inst},(p,is,false)=res->Sf.stateS ver s=(p,⟨x1,x2,is,[],[]⟩):=fun e=>by rw[hS,<-e];rfl
 have fin2:∀{p:Sf.Rs} {is:List Sf.Inst},(p,is,true)=res->∀(q:Sf.Rs) (ps:List Sf.Pend) (rc3:Wire.St) (c3:Nat) {r3:Sf.Rs×List Sf.Outp×Bool},(if ver=2 then Sf.pendsS (Sf.cntS p).2 (Sf.cntS p).1 []else(p,[]))=(q,ps)->Wire.cntR q.r 1=(rc3,c3)->Sf.outsS c3 ⟨rc3,q.bad⟩ []=r3->Sf.stateS ver s=(r3.1,⟨x1,x2,is,ps,r3.2.1⟩):=by
  intro p is e q ps rc3 c3 r3 h h3 hr;rw[hS,<-e];dsimp only;rw[if_neg (by decide),h];dsimp only;rw[show Sf.cntS q=(⟨rc3,q.bad⟩,c3) by unfold Sf.cntS;rw[h3]];dsimp only;rw[hr]
 have hv12:∀{G:Prop},((ver==2)=false->G)->((ver==2)=true->G)->G:=fun p q=>by
  rcases azl (ver==2)with e|e
  ·first|exact q e|exact p e
  ·first|exact p e|exact q e
 refine aza ti ?_;refine cyd [4,9,12] 11 [⟨[.cells 134 [.ptr 1 0,.int .i64 ver,.bool s.bad],rdr s.r,.cells 42 [.str [],.int .i64 0,.sl 0 .nil [],.sl 0 .nil [],.sl 0 .nil []]],[]⟩,⟨[.cells 134 [.ptr 1 0,.int .i64 ver,.bool s.bad],rdr r1,.cells 42 [.str [],.int .i64 0,.sl 0 .nil [],.sl 0 .nil [],.sl 0 .nil []]],[]⟩,⟨[.cells 134 [.ptr 1 0,.int .i64 ver,.bool s.bad],rdr r2,.cells 42 [.str [],.int .i64 0,.sl 0 .nil [],.sl 0 .nil [],.sl 0 .nil []]],[]⟩,⟨[],[]⟩,⟨[.cells 134 [.ptr 1 0,.int .i64 ver,.bool s.bad],rdr s.r,.cells 42 [.str [],.int .i64 0,.sl 0 .nil [],.sl 0 .nil [],.sl 0 .nil []],.cells 42 [.str [],.int .i64 0,.sl 0 .nil [],.sl 0 .nil [],.sl 0 .nil []]],[]⟩,⟨[.cells 134 [.ptr 1 0,.int .i64 ver,.bool s.bad],rdr r1,.cells 42 [.str [],.int .i64 0,.sl 0 .nil [],.sl 0 .nil [],.sl 0 .nil []],.cells 42 [.str [],.int .i64 0,.sl 0 .nil [],.sl 0 .nil [],.sl 0 .nil []]],[]⟩,⟨[.cells 134 [.ptr 1 0,.int .i64 ver,.bool s.bad],rdr r2,.cells 42 [.str [],.int .i64 0,.sl 0 .nil [],.sl 0 .nil [],.sl 0 .nil []],.cells 42 [.str [],.int .i64 0,.sl 0 .nil [],.sl 0 .nil [],.sl 0 .nil []]],[]⟩,⟨[.cells 134 [.ptr 1 0,.int .i64 ver,.bool s.bad],rdr r2,.cells 42 [.str [],.int .i64 0,.sl 0 .nil [],.sl 0 .nil [],.sl 0 .nil []],.cells 42 [.str x1,.int .i64 x2,.sl 0 .nil [],.sl 0 .nil [],.sl 0 .nil []]],[]⟩] [[0,4],[0,4],[0,4],[0,4],[0,4],[0,1,4,5],[0,1,4,5],[0,1,4,5],[0,1,4,5],[1,5],[2,6],[0,1,2],[6]] rfl (by decide +kernel) ?_;refine AX.rung ti ?_;refine avw (vs:=[.ptr 1 0]) (by(exact ev0 ti)) ⟨str s.r r1 x1 _ h1 rfl (by omega),str s.r r1 x1 _ h1 rfl (by omega),trivial⟩ ?_;refine AX.rung ti ?_;refine avw (vs:=[.ptr 1 0]) (by(exact ev0 ti)) ⟨num r1 r2 x2 _ h2 rfl (by omega),num r1 r2 x2 _ h2 rfl (by omega),trivial⟩ ?_;refine AX.rung ti ?_;refine aza ti ?_;refine use (cnt r2 rc c _ hc rfl (by omega)) ?_;refine aza ti ?_;refine azg (fun mm ts h=>∃(j:Nat) (p:Sf.Rs) (is:List Sf.Inst) (W:Nat) (o:Own) (t:List (TypeId×Nat×Nat)),mm=c-j/\j<=c/\h=⟨[.cells 134 [.ptr 1 0,.int .i64 ver,.bool p.bad],rdr p.r,.cells 42 [.str [],.int .i64 0,.sl 0 .nil [],.sl 0 .nil [],.sl 0 .nil []],.cells 42 [.str x1,.int .i64 x2,(.sl W o (is.map Sf.Inst.cells)),.sl 0 .nil [],.sl 0 .nil []]],t⟩/\Sf.instsS ver (c-j) p is=res/\is.length=j/\p.r.rest.length<=100000000/\Gs 91 13 0 ⟨[],t⟩ (is.map Sf.Inst.cells) (.sl W o (is.map Sf.Inst.cells))/\ts 0=.ptr 0 0/\ts 2=.ptr 2 0/\ts 3=.ptr 3 0/\ts 20=.int .i64 (c:Nat)/\ts 21=.int .i64 (j:Nat)) c ?_ ?_
 ·exact⟨0,⟨rc,s.bad⟩,[],0,.nil,[],by omega,by omega,rfl,hres,rfl,(by dsimp only;omega),.inl ⟨rfl,rfl⟩,by(exact ev0 ti),by(exact ev0 ti),by(exact ev0 ti),by(exact ev0 ti),by(exact azv ti)⟩
 rintro mm ts h ⟨j,p,is,W,o,t,rfl,hjc,rfl,hit,hdl,hpl,gX,t0,t2,t3,ta,tb⟩;by_cases hj:j<c
 ·have cf:=akt (ver:=ver) p [.cells 42 [.str [],.int .i64 0,.sl 0 .nil [],.sl 0 .nil [],.sl 0 .nil []],.cells 42 [.str x1,.int .i64 x2,(.sl W o (is.map Sf.Inst.cells)),.sl 0 .nil [],.sl 0 .nil []]] t;unfold RB at cf;have hlt:(j:Int)<(c:Int):=by omega
  have ei:IntKind.i64.wrap ((j:Int)+1)=((j+1:Nat):Int):=by rw[wrap64 (by omega) (by omega)];omega
  rw[show c-j=(c-(j+1))+1 by omega]at hit;unfold Sf.instsS at hit;refine aza (ai t0 (ai t2 (ai t3 (ai ta (ai tb hlt))))) ?_;refine use cf ?_;rcases azl p.fails with e|e
  ·rw[e,if_pos rfl]at hit;rw[e];refine aza (ai t0 (ai t2 (ai t3 (ai ta tb)))) ?_;subst hit;have hfin:=fin1 rfl;exact⟨.agg [.str x1,.int .i64 x2,.sl 13 .no (is.map Sf.Inst.cells),.sl 3 .no (([]:List Sf.Pend).map Sf.Pend.cells),.sl 7 .no (([]:List Sf.Outp).map Sf.Outp.cells)],⟨aze _,aze _,Gs.le gX,⟨rfl,.inr rfl,.inl rfl⟩,⟨rfl,.inr rfl,.inl rfl⟩,trivial⟩,by rw[hfin];rfl,by rw[hfin];rfl,by rw[hfin];rfl⟩
  rw[e,if_neg (by decide)]at hit;rw[e];have ci:=dzq hver p hpl [.cells 42 [.str [],.int .i64 0,.sl 0 .nil [],.sl 0 .nil [],.sl 0 .nil []],.cells 42 [.str x1,.int .i64 x2,(.sl W o (is.map Sf.Inst.cells)),.sl 0 .nil [],.sl 0 .nil []]] t;have li:=Sf.instS_le ver p;obtain⟨⟨p2,x⟩,hx⟩:=Ex (Sf.instS ver p);rw[hx]at ci hit li;dsimp only at ci hit li;unfold RB at ci;obtain⟨W',o',t',hX,gX',_⟩:=gX.grow 184 x.cells (by rw[Zh];omega) (by decide);have em:is.map Sf.Inst.cells++[x.cells]=(is++[x]).map Sf.Inst.cells:=by simp
  rw[em]at gX';simp only[em]at hX;have hil:(is++[x]).length=j+1:=by simp[hdl]
  obtain⟨is2,hi2⟩:=Ex (is++[x]);rw[hi2]at hX gX' hit hil;clear em hi2 hx;obtain⟨a,d,id,ty,⟨k,n,w,vi,vy⟩,v,tn,fi,ds⟩:=x;simp only[Sf.Inst.cells]at ci hX;refine aza (ai t0 (ai t2 (ai t3 (ai ta tb)))) ?_;refine use ci ?_;refine aza (ai t0 (ai t2 (ai t3 (ai ta (ai tb (ai hX ei)))))) ?_;exact⟨c-(j+1),by omega,j+1,p2,is2,W',o',t',rfl,by omega,rfl,hit,hil,by omega,gX',by(exact ev0 t0),by(exact ev0 t2),by(exact ev0 t3),by(exact ev0 ta),by(exact ev0 ei)⟩
 have hlt:¬((j:Int)<(c:Int)):=by omega
 rw[show c-j=0 by omega]at hit;unfold Sf.instsS at hit;subst hit;have cb:∀q:Wire.St,(Wire.cntR q 1).2<=q.rest.length:=fun q=>Wire.cntR_cnt q
 refine hv12 (fun e2=>?_) (fun e2=>?_)
 ·have gY:Gs 93 3 0 ⟨[],t⟩ (([]:List Sf.Pend).map Sf.Pend.cells) (.sl 0 .nil (([]:List Sf.Pend).map Sf.Pend.cells)):=.inl ⟨rfl,rfl⟩;refine aza (ai t0 (ai t2 (ai t3 (ai ta (ai tb (ai hlt e2)))))) ?_;obtain⟨q,hq⟩:=Ex p;obtain⟨ps,hps⟩:∃ps:List Sf.Pend,[]=ps:=⟨_,rfl⟩;have fin2:=fin2 rfl;have hv0:ver≠2:=by simpa using e2
  subst hq;obtain⟨q,hq⟩:=Ex p;rw[hq]at hpl⊢;obtain⟨⟨rc3,c3⟩,hc3⟩:=Ex (Wire.cntR q.r 1);have lc3:=Wire.cntR_rest q.r 1;have lk3:=Wire.cntR_cnt q.r;rw[hc3]at lc3 lk3;dsimp only at lc3 lk3;obtain⟨res3,hres3⟩:=Ex (Sf.outsS c3 ⟨rc3,q.bad⟩ []);have fin3:∀{r3:Sf.Rs×List Sf.Outp×Bool},r3=res3->Sf.stateS ver s=(r3.1,⟨x1,x2,is,ps,r3.2.1⟩):=fun e=>by rw[e];exact fin2 q ps rc3 c3 (by rw[if_neg hv0,hq,hps]) hc3 hres3
  obtain⟨W2,o2,hW2⟩:∃(W2:Nat) (o2:Own),W2=0/\o2=.nil:=⟨_,_,rfl,rfl⟩;have hY0:(A.sl 0 .nil []:A)=.sl W2 o2 (ps.map Sf.Pend.cells):=by rw[hW2.1,hW2.2,<-hps];rfl
  rw[hps]at gY;have gY:Gs 93 3 0 ⟨[],t⟩ (ps.map Sf.Pend.cells) (.sl W2 o2 (ps.map Sf.Pend.cells)):=by rw[hW2.1,hW2.2];exact gY
  refine use (cnt q.r rc3 c3 _ hc3 rfl (by omega)) ?_;refine aza (ai t0 (ai t2 t3)) ?_;refine azg (fun mm ts h=>∃(j:Nat) (p:Sf.Rs) (os:List Sf.Outp) (W3:Nat) (o3:Own) (l:List Blk) (t:List (TypeId×Nat×Nat)),mm=c3-j/\j<=c3/\h=⟨.cells 134 [.ptr 1 0,.int .i64 ver,.bool p.bad]::rdr p.r :: .cells 42 [.str [],.int .i64 0,.sl 0 .nil [],.sl 0 .nil [],.sl 0 .nil []] :: .cells 42 [.str x1,.int .i64 x2,(.sl W o (is.map Sf.Inst.cells)),(.sl W2 o2 (ps.map Sf.Pend.cells)),(.sl W3 o3 (os.map Sf.Outp.cells))]::l,t⟩/\Sf.outsS (c3-j) p os=res3/\os.length=j/\p.r.rest.length<=100000000/\Gs 91 13 0 ⟨[],t⟩ (is.map Sf.Inst.cells) (.sl W o (is.map Sf.Inst.cells))/\Gs 93 3 0 ⟨[],t⟩ (ps.map Sf.Pend.cells) (.sl W2 o2 (ps.map Sf.Pend.cells))/\Gs 55 7 0 ⟨[],t⟩ (os.map Sf.Outp.cells) (.sl W3 o3 (os.map Sf.Outp.cells))/\ts 0=.ptr 0 0/\ts 2=.ptr 2 0/\ts 3=.ptr 3 0/\ts 72=.int .i64 (c3:Nat)/\ts 73=.int .i64 (j:Nat)) c3 ?_ ?_
  ·exact⟨0,⟨rc3,q.bad⟩,[],0,.nil,[],t,by omega,by omega,(by rw[<-hY0];rfl),hres3,rfl,(by dsimp only;omega),gX,gY,.inl ⟨rfl,rfl⟩,by(exact ev0 t0),by(exact ev0 t2),by(exact ev0 t3),by(exact ev0 ti),by(exact azv ti)⟩
  rintro mm ts h ⟨j,p,os,W3,o3,l,t,rfl,hjc,rfl,hit,hdl,hpl,gX,gY,gZ,t0,t2,t3,ta,tb⟩;by_cases hj:j<c3
  ·have cf:=akt (ver:=ver) p (.cells 42 [.str [],.int .i64 0,.sl 0 .nil [],.sl 0 .nil [],.sl 0 .nil []] :: .cells 42 [.str x1,.int .i64 x2,(.sl W o (is.map Sf.Inst.cells)),(.sl W2 o2 (ps.map Sf.Pend.cells)),(.sl W3 o3 (os.map Sf.Outp.cells))]::l) t;unfold RB at cf;have hlt:(j:Int)<(c3:Int):=by omega
   have ei:IntKind.i64.wrap ((j:Int)+1)=((j+1:Nat):Int):=by rw[wrap64 (by omega) (by omega)];omega
   rw[show c3-j=(c3-(j+1))+1 by omega]at hit;unfold Sf.outsS at hit;refine aza (ai t0 (ai t2 (ai t3 (ai ta (ai tb hlt))))) ?_;refine use cf ?_;rcases azl p.fails with e|e
   ·rw[e,if_pos rfl]at hit;rw[e];refine aza (ai t0 (ai t2 (ai t3 (ai ta tb)))) ?_;subst hit;have hfin:=fin3 rfl;exact⟨.agg [.str x1,.int .i64 x2,.sl 13 .no (is.map Sf.Inst.cells),.sl 3 .no (ps.map Sf.Pend.cells),.sl 7 .no (os.map Sf.Outp.cells)],⟨aze _,aze _,Gs.le gX,Gs.le gY,Gs.le gZ,trivial⟩,by rw[hfin];rfl,by rw[hfin];rfl,by rw[hfin];rfl⟩
   rw[e,if_neg (by decide)]at hit;rw[e];refine aza (ai t0 (ai t2 (ai t3 (ai ta tb)))) ?_;obtain⟨⟨q1,y1⟩,g1⟩:=Ex (Wire.strR p.r);have m1:=Wire.strR_rest p.r;rw[g1]at m1;dsimp only at m1;refine use (str p.r q1 y1 _ g1 rfl hpl) ?_;refine aza (ai t0 (ai t2 (ai t3 (ai ta tb)))) ?_;have cv:=bqc (ver:=ver) ⟨q1,p.bad⟩ (by dsimp only;omega) (.cells 42 [.str [],.int .i64 0,.sl 0 .nil [],.sl 0 .nil [],.sl 0 .nil []] :: .cells 42 [.str x1,.int .i64 x2,(.sl W o (is.map Sf.Inst.cells)),(.sl W2 o2 (ps.map Sf.Pend.cells)),(.sl W3 o3 (os.map Sf.Outp.cells))]::(l++[.cells 55 [.str y1,.int .i64 0,.int .i64 0,.str [],.sl 0 .nil [],.sl 0 .nil [],.bool false]])) t;have m2:=Sf.valueS_le ⟨q1,p.bad⟩;obtain⟨⟨⟨q2,b2⟩,y2⟩,g2⟩:=Ex (Sf.valueS ⟨q1,p.bad⟩);rw[g2]at cv m2;dsimp only at cv m2;obtain⟨⟨⟨q3,b3⟩,y3⟩,g3⟩:=Ex (Sf.flagS ⟨q2,b2⟩);have m3:=Sf.flagS_le ⟨q2,b2⟩;rw[g3]at m3;dsimp only at m3;have ho:Sf.outS p=(⟨q3,b3⟩,⟨y1,y2,y3⟩):=by unfold Sf.outS Sf.strS;simp only[g1,g2,g3]
   rw[ho]at hit;dsimp only at hit;obtain⟨x,hxe⟩:∃x:Sf.Outp,x=⟨y1,y2,y3⟩:=⟨_,rfl⟩;rw[<-hxe]at hit;obtain⟨W',o',t',hX,gZ',kZ⟩:=gZ.grow 104 x.cells (by rw[Zh];omega) (by decide);have gX':=kZ _ _ _ _ (by decide) gX;have gY':=kZ _ _ _ _ (by decide) gY;have em:os.map Sf.Outp.cells++[x.cells]=(os++[x]).map Sf.Outp.cells:=by simp
   rw[em]at gZ';simp only[em]at hX;have hil:(os++[x]).length=j+1:=by simp[hdl]
   obtain⟨os2,hi2⟩:=Ex (os++[x]);rw[hi2]at hX gZ' hit hil;clear em hi2;subst hxe;obtain⟨k,n,w,vi,vy⟩:=y2;have hVA:(V.mk k n w vi vy).A=.agg [.int .i64 k,.int .i64 n,.str w,.sl 5 .no (V.cellss vi),.sl 1 .no (strsA vy)]:=by simp only[V.A,V.cells]
   rw[hVA]at cv;unfold RB at cv;simp only[Sf.Outp.cells]at hX;refine use cv ?_;refine aza (ai t0 (ai t2 (ai t3 (ai ta tb)))) ?_;have cg:=bq4 (ver:=ver) ⟨q2,b2⟩ (by dsimp only;omega) (.cells 42 [.str [],.int .i64 0,.sl 0 .nil [],.sl 0 .nil [],.sl 0 .nil []] :: .cells 42 [.str x1,.int .i64 x2,(.sl W o (is.map Sf.Inst.cells)),(.sl W2 o2 (ps.map Sf.Pend.cells)),(.sl W3 o3 (os.map Sf.Outp.cells))]::(l++[.cells 55 [.str y1,.int .i64 k,.int .i64 n,.str w,.sl 5 .no (V.cellss vi),.sl 1 .no (strsA vy),.bool false]])) t;rw[g3]at cg;dsimp only at cg;unfold RB at cg;refine use cg ?_;refine aza (ai t0 (ai t2 (ai t3 (ai ta (ai tb (ai hX ei)))))) ?_;exact⟨c3-(j+1),by omega,j+1,⟨q3,b3⟩,os2,W',o',l++[.cells 55 [.str y1,.int .i64 k,.int .i64 n,.str w,.sl 5 .no (V.cellss vi),.sl 1 .no (strsA vy),.bool y3]],t',rfl,by omega,rfl,hit,hil,(by dsimp only;omega),gX',gY',gZ',by(exact ev0 t0),by(exact ev0 t2),by(exact ev0 t3),by(exact ev0 ta),by(exact ev0 ei)⟩
  have hlt:¬((j:Int)<(c3:Int)):=by omega
  rw[show c3-j=0 by omega]at hit;unfold Sf.outsS at hit;subst hit;refine aza (ai t0 (ai t2 (ai t3 (ai ta (ai tb hlt))))) ?_;have hfin:=fin3 rfl;exact⟨.agg [.str x1,.int .i64 x2,.sl 13 .no (is.map Sf.Inst.cells),.sl 3 .no (ps.map Sf.Pend.cells),.sl 7 .no (os.map Sf.Outp.cells)],⟨aze _,aze _,Gs.le gX,Gs.le gY,Gs.le gZ,trivial⟩,by rw[hfin];rfl,by rw[hfin];rfl,by rw[hfin];rfl⟩
 ·obtain⟨⟨rc2,c2⟩,hc2⟩:=Ex (Wire.cntR p.r 1);have lc2:=Wire.cntR_rest p.r 1;have lk2:=Wire.cntR_cnt p.r;rw[hc2]at lc2 lk2;dsimp only at lc2 lk2;obtain⟨res2,hres2⟩:=Ex (Sf.pendsS c2 ⟨rc2,p.bad⟩ []);have hv2:ver=2:=by simpa using e2
  have fin2:=fin2 rfl;have hp2:(if ver=2 then Sf.pendsS (Sf.cntS p).2 (Sf.cntS p).1 []else(p,[]))=res2:=by rw[if_pos hv2];unfold Sf.cntS;rw[hc2];exact hres2
  rw[hp2]at fin2;refine aza (ai t0 (ai t2 (ai t3 (ai ta (ai tb (ai hlt e2)))))) ?_;refine use (cnt p.r rc2 c2 _ hc2 rfl (by omega)) ?_;refine aza (ai t0 (ai t2 t3)) ?_;refine azg (fun mm ts h=>∃(j:Nat) (p:Sf.Rs) (ps:List Sf.Pend) (W2:Nat) (o2:Own) (t:List (TypeId×Nat×Nat)),mm=c2-j/\j<=c2/\h=⟨[.cells 134 [.ptr 1 0,.int .i64 ver,.bool p.bad],rdr p.r,.cells 42 [.str [],.int .i64 0,.sl 0 .nil [],.sl 0 .nil [],.sl 0 .nil []],.cells 42 [.str x1,.int .i64 x2,(.sl W o (is.map Sf.Inst.cells)),(.sl W2 o2 (ps.map Sf.Pend.cells)),.sl 0 .nil []]],t⟩/\Sf.pendsS (c2-j) p ps=res2/\ps.length=j/\p.r.rest.length<=100000000/\Gs 91 13 0 ⟨[],t⟩ (is.map Sf.Inst.cells) (.sl W o (is.map Sf.Inst.cells))/\Gs 93 3 0 ⟨[],t⟩ (ps.map Sf.Pend.cells) (.sl W2 o2 (ps.map Sf.Pend.cells))/\ts 0=.ptr 0 0/\ts 2=.ptr 2 0/\ts 3=.ptr 3 0/\ts 43=.int .i64 (c2:Nat)/\ts 44=.int .i64 (j:Nat)) c2 ?_ ?_
  ·exact⟨0,⟨rc2,p.bad⟩,[],0,.nil,t,by omega,by omega,rfl,hres2,rfl,(by dsimp only;omega),gX,.inl ⟨rfl,rfl⟩,by(exact ev0 t0),by(exact ev0 t2),by(exact ev0 t3),by(exact ev0 ti),by(exact azv ti)⟩
  rintro mm ts h ⟨j,q,ps,W2,o2,t,rfl,hjc,rfl,hit,hdl,hpl,gX,gY,t0,t2,t3,ta,tb⟩;by_cases hj:j<c2
  ·have hq:=hpl;have hlt:(j:Int)<(c2:Int):=by omega
   have ei:IntKind.i64.wrap ((j:Int)+1)=((j+1:Nat):Int):=by rw[wrap64 (by omega) (by omega)];omega
   rw[show c2-j=(c2-(j+1))+1 by omega]at hit;unfold Sf.pendsS at hit;obtain⟨⟨q1,y1⟩,g1⟩:=Ex (Wire.strR q.r);have m1:=Wire.strR_rest q.r;rw[g1]at m1;dsimp only at m1;obtain⟨⟨q2,y2⟩,g2⟩:=Ex (Wire.strR q1);have m2:=Wire.strR_rest q1;rw[g2]at m2;dsimp only at m2;obtain⟨⟨q3,y3⟩,g3⟩:=Ex (Wire.strR q2);have m3:=Wire.strR_rest q2;rw[g3]at m3;dsimp only at m3;have ho:Sf.pendS q=(⟨q3,q.bad⟩,⟨y1,y2,y3⟩):=by unfold Sf.pendS Sf.strS;simp only[g1,g2,g3]
   rw[ho]at hit;dsimp only at hit;obtain⟨x,hxe⟩:∃x:Sf.Pend,x=⟨y1,y2,y3⟩:=⟨_,rfl⟩;rw[<-hxe]at hit;obtain⟨W',o',t',hX,gY',kY⟩:=gY.grow 48 x.cells (by rw[Zh];omega) (by decide);have gX':=kY _ _ _ _ (by decide) gX;have em:ps.map Sf.Pend.cells++[x.cells]=(ps++[x]).map Sf.Pend.cells:=by simp
   rw[em]at gY';simp only[em]at hX;have hil:(ps++[x]).length=j+1:=by simp[hdl]
   obtain⟨ps2,hi2⟩:=Ex (ps++[x]);rw[hi2]at hX gY' hit hil;clear em hi2;subst hxe;simp only[Sf.Pend.cells]at hX;refine aza (ai t0 (ai t2 (ai t3 (ai ta (ai tb hlt))))) ?_;refine use (str q.r q1 y1 _ g1 rfl hpl) ?_;refine aza (ai t0 (ai t2 (ai t3 (ai ta tb)))) ?_;refine use (str q1 q2 y2 _ g2 rfl (by omega)) ?_;refine aza (ai t0 (ai t2 (ai t3 (ai ta tb)))) ?_;refine use (str q2 q3 y3 _ g3 rfl (by omega)) ?_;refine aza (ai t0 (ai t2 (ai t3 (ai ta (ai tb (ai hX ei)))))) ?_;exact⟨c2-(j+1),by omega,j+1,⟨q3,q.bad⟩,ps2,W',o',t',rfl,by omega,rfl,hit,hil,(by dsimp only;omega),gX',gY',by(exact ev0 t0),by(exact ev0 t2),by(exact ev0 t3),by(exact ev0 ta),by(exact ev0 ei)⟩
  have hlt:¬((j:Int)<(c2:Int)):=by omega
  rw[show c2-j=0 by omega]at hit;unfold Sf.pendsS at hit;subst hit;obtain⟨⟨rc3,c3⟩,hc3⟩:=Ex (Wire.cntR q.r 1);have lc3:=Wire.cntR_rest q.r 1;have lk3:=Wire.cntR_cnt q.r;rw[hc3]at lc3 lk3;dsimp only at lc3 lk3;obtain⟨res3,hres3⟩:=Ex (Sf.outsS c3 ⟨rc3,q.bad⟩ []);have fin3:∀{r3:Sf.Rs×List Sf.Outp×Bool},r3=res3->Sf.stateS ver s=(r3.1,⟨x1,x2,is,ps,r3.2.1⟩):=fun e=>by rw[e];exact fin2 q ps rc3 c3 rfl hc3 hres3
  refine aza (ai t0 (ai t2 (ai t3 (ai ta (ai tb hlt))))) ?_;refine use (cnt q.r rc3 c3 _ hc3 rfl (by omega)) ?_;refine aza (ai t0 (ai t2 t3)) ?_;refine azg (fun mm ts h=>∃(j:Nat) (p:Sf.Rs) (os:List Sf.Outp) (W3:Nat) (o3:Own) (l:List Blk) (t:List (TypeId×Nat×Nat)),mm=c3-j/\j<=c3/\h=⟨.cells 134 [.ptr 1 0,.int .i64 ver,.bool p.bad]::rdr p.r :: .cells 42 [.str [],.int .i64 0,.sl 0 .nil [],.sl 0 .nil [],.sl 0 .nil []] :: .cells 42 [.str x1,.int .i64 x2,(.sl W o (is.map Sf.Inst.cells)),(.sl W2 o2 (ps.map Sf.Pend.cells)),(.sl W3 o3 (os.map Sf.Outp.cells))]::l,t⟩/\Sf.outsS (c3-j) p os=res3/\os.length=j/\p.r.rest.length<=100000000/\Gs 91 13 0 ⟨[],t⟩ (is.map Sf.Inst.cells) (.sl W o (is.map Sf.Inst.cells))/\Gs 93 3 0 ⟨[],t⟩ (ps.map Sf.Pend.cells) (.sl W2 o2 (ps.map Sf.Pend.cells))/\Gs 55 7 0 ⟨[],t⟩ (os.map Sf.Outp.cells) (.sl W3 o3 (os.map Sf.Outp.cells))/\ts 0=.ptr 0 0/\ts 2=.ptr 2 0/\ts 3=.ptr 3 0/\ts 72=.int .i64 (c3:Nat)/\ts 73=.int .i64 (j:Nat)) c3 ?_ ?_
  ·exact⟨0,⟨rc3,q.bad⟩,[],0,.nil,[],t,by omega,by omega,rfl,hres3,rfl,(by dsimp only;omega),gX,gY,.inl ⟨rfl,rfl⟩,by(exact ev0 t0),by(exact ev0 t2),by(exact ev0 t3),by(exact ev0 ti),by(exact azv ti)⟩
  rintro mm ts h ⟨j,p,os,W3,o3,l,t,rfl,hjc,rfl,hit,hdl,hpl,gX,gY,gZ,t0,t2,t3,ta,tb⟩;by_cases hj:j<c3
  ·have cf:=akt (ver:=ver) p (.cells 42 [.str [],.int .i64 0,.sl 0 .nil [],.sl 0 .nil [],.sl 0 .nil []] :: .cells 42 [.str x1,.int .i64 x2,(.sl W o (is.map Sf.Inst.cells)),(.sl W2 o2 (ps.map Sf.Pend.cells)),(.sl W3 o3 (os.map Sf.Outp.cells))]::l) t;unfold RB at cf;have hlt:(j:Int)<(c3:Int):=by omega
   have ei:IntKind.i64.wrap ((j:Int)+1)=((j+1:Nat):Int):=by rw[wrap64 (by omega) (by omega)];omega
   rw[show c3-j=(c3-(j+1))+1 by omega]at hit;unfold Sf.outsS at hit;refine aza (ai t0 (ai t2 (ai t3 (ai ta (ai tb hlt))))) ?_;refine use cf ?_;rcases azl p.fails with e|e
   ·rw[e,if_pos rfl]at hit;rw[e];refine aza (ai t0 (ai t2 (ai t3 (ai ta tb)))) ?_;subst hit;have hfin:=fin3 rfl;exact⟨.agg [.str x1,.int .i64 x2,.sl 13 .no (is.map Sf.Inst.cells),.sl 3 .no (ps.map Sf.Pend.cells),.sl 7 .no (os.map Sf.Outp.cells)],⟨aze _,aze _,Gs.le gX,Gs.le gY,Gs.le gZ,trivial⟩,by rw[hfin];rfl,by rw[hfin];rfl,by rw[hfin];rfl⟩
   rw[e,if_neg (by decide)]at hit;rw[e];refine aza (ai t0 (ai t2 (ai t3 (ai ta tb)))) ?_;obtain⟨⟨q1,y1⟩,g1⟩:=Ex (Wire.strR p.r);have m1:=Wire.strR_rest p.r;rw[g1]at m1;dsimp only at m1;refine use (str p.r q1 y1 _ g1 rfl hpl) ?_;refine aza (ai t0 (ai t2 (ai t3 (ai ta tb)))) ?_;have cv:=bqc (ver:=ver) ⟨q1,p.bad⟩ (by dsimp only;omega) (.cells 42 [.str [],.int .i64 0,.sl 0 .nil [],.sl 0 .nil [],.sl 0 .nil []] :: .cells 42 [.str x1,.int .i64 x2,(.sl W o (is.map Sf.Inst.cells)),(.sl W2 o2 (ps.map Sf.Pend.cells)),(.sl W3 o3 (os.map Sf.Outp.cells))]::(l++[.cells 55 [.str y1,.int .i64 0,.int .i64 0,.str [],.sl 0 .nil [],.sl 0 .nil [],.bool false]])) t;have m2:=Sf.valueS_le ⟨q1,p.bad⟩;obtain⟨⟨⟨q2,b2⟩,y2⟩,g2⟩:=Ex (Sf.valueS ⟨q1,p.bad⟩);rw[g2]at cv m2;dsimp only at cv m2;obtain⟨⟨⟨q3,b3⟩,y3⟩,g3⟩:=Ex (Sf.flagS ⟨q2,b2⟩);have m3:=Sf.flagS_le ⟨q2,b2⟩;rw[g3]at m3;dsimp only at m3;have ho:Sf.outS p=(⟨q3,b3⟩,⟨y1,y2,y3⟩):=by unfold Sf.outS Sf.strS;simp only[g1,g2,g3]
   rw[ho]at hit;dsimp only at hit;obtain⟨x,hxe⟩:∃x:Sf.Outp,x=⟨y1,y2,y3⟩:=⟨_,rfl⟩;rw[<-hxe]at hit;obtain⟨W',o',t',hX,gZ',kZ⟩:=gZ.grow 104 x.cells (by rw[Zh];omega) (by decide);have gX':=kZ _ _ _ _ (by decide) gX;have gY':=kZ _ _ _ _ (by decide) gY;have em:os.map Sf.Outp.cells++[x.cells]=(os++[x]).map Sf.Outp.cells:=by simp
   rw[em]at gZ';simp only[em]at hX;have hil:(os++[x]).length=j+1:=by simp[hdl]
   obtain⟨os2,hi2⟩:=Ex (os++[x]);rw[hi2]at hX gZ' hit hil;clear em hi2;subst hxe;obtain⟨k,n,w,vi,vy⟩:=y2;have hVA:(V.mk k n w vi vy).A=.agg [.int .i64 k,.int .i64 n,.str w,.sl 5 .no (V.cellss vi),.sl 1 .no (strsA vy)]:=by simp only[V.A,V.cells]
   rw[hVA]at cv;unfold RB at cv;simp only[Sf.Outp.cells]at hX;refine use cv ?_;refine aza (ai t0 (ai t2 (ai t3 (ai ta tb)))) ?_;have cg:=bq4 (ver:=ver) ⟨q2,b2⟩ (by dsimp only;omega) (.cells 42 [.str [],.int .i64 0,.sl 0 .nil [],.sl 0 .nil [],.sl 0 .nil []] :: .cells 42 [.str x1,.int .i64 x2,(.sl W o (is.map Sf.Inst.cells)),(.sl W2 o2 (ps.map Sf.Pend.cells)),(.sl W3 o3 (os.map Sf.Outp.cells))]::(l++[.cells 55 [.str y1,.int .i64 k,.int .i64 n,.str w,.sl 5 .no (V.cellss vi),.sl 1 .no (strsA vy),.bool false]])) t;rw[g3]at cg;dsimp only at cg;unfold RB at cg;refine use cg ?_;refine aza (ai t0 (ai t2 (ai t3 (ai ta (ai tb (ai hX ei)))))) ?_;exact⟨c3-(j+1),by omega,j+1,⟨q3,b3⟩,os2,W',o',l++[.cells 55 [.str y1,.int .i64 k,.int .i64 n,.str w,.sl 5 .no (V.cellss vi),.sl 1 .no (strsA vy),.bool y3]],t',rfl,by omega,rfl,hit,hil,(by dsimp only;omega),gX',gY',gZ',by(exact ev0 t0),by(exact ev0 t2),by(exact ev0 t3),by(exact ev0 ta),by(exact ev0 ei)⟩
  have hlt:¬((j:Int)<(c3:Int)):=by omega
  rw[show c3-j=0 by omega]at hit;unfold Sf.outsS at hit;subst hit;refine aza (ai t0 (ai t2 (ai t3 (ai ta (ai tb hlt))))) ?_;have hfin:=fin3 rfl;exact⟨.agg [.str x1,.int .i64 x2,.sl 13 .no (is.map Sf.Inst.cells),.sl 3 .no (ps.map Sf.Pend.cells),.sl 7 .no (os.map Sf.Outp.cells)],⟨aze _,aze _,Gs.le gX,Gs.le gY,Gs.le gZ,trivial⟩,by rw[hfin];rfl,by rw[hfin];rfl,by rw[hfin];rfl⟩
def aj5:AX.AFn:=⟨8,aS [aR 4 (.mv (.c (.bool false)))] (aS [aM 5 0,aM 6 1,aR 7 (.call 119 [.t 5,.t 6]),aM 4 7] (.ret)),[.t 4]⟩
theorem bv4:AX.compFn Tryz.prog 85=some aj5:=by kernel_rfl
def aq0:AX.AFn:=⟨18,aS [aR 4 (.mv (.c (.bool false)))] (aS [aM 5 0,aR 6 (.len true (.t 5)),aM 7 1,aR 8 (.len true (.t 7)),aR 9 (.bin .geq (.t 6) (.t 8)),aM 10 9,aG 11 (.mv (.t 0)) 10 true,aG 12 (.mv (.t 1)) 10 true,aG 13 (.len true (.t 12)) 10 true,aG 14 (.ssl (.t 11) none (some (.t 13))) 10 true,aG 15 (.mv (.t 1)) 10 true,aG 16 (.bin .eql (.t 14) (.t 15)) 10 true,aR 17 (.pick (.t 10) (.t 16) (.c (.bool false))),aM 4 17] (.ret)),[.t 4]⟩
theorem awt:AX.compFn Tryz.prog 119=some aq0:=by kernel_rfl
theorem ax0(s p:List UInt8)(h:Hp):AT 119 [.str s,.str p] h (.bool (decide (p.length<=s.length)&&s.take p.length==p)):=by
 refine pcall ?_ rfl (by simp[A.pure,A.data]) h;refine azf mixedT awt (by simp[aq0]) ?_;dsimp only[aq0];by_cases hl:p.length<=s.length
 ·have h1:(s.length:Int)>=(p.length:Int):=by omega
  have h2:(p.length:Int)<=(s.length:Int):=by omega
  refine go0 (ai h1 h2) ?_;exact⟨_,le_refl _,by rw[azk,Yg hl];rfl⟩
 ·have h1:¬(s.length:Int)>=(p.length:Int):=by omega
  refine go0 h1 ?_;exact⟨_,le_refl _,by rw[azk,Yp hl];rfl⟩
theorem ajv(s p:List UInt8)(h:Hp):AT 85 [.str s,.str p] h (.bool (decide (p.length<=s.length)&&s.take p.length==p)):=by
 refine pcall ?_ rfl (by simp[A.pure,A.data]) h;refine azf mixedT bv4 (by simp[aj5]) ?_;dsimp only[aj5];refine go0 ti ?_;refine gc0 ti ?_;refine(ax0 s p _).mono ?_;rintro v h1 ⟨rfl,rfl⟩;refine go0 ti ?_;exact Fn rfl
def magic:List UInt8:=[80,86,83,84]
def preB(s:List UInt8):Bool:=decide (magic.length<=s.length)&&s.take magic.length==magic
def versionS(s:List UInt8):Int×Int:=
 if preB s=false then(0,2)else
 let r:=Wire.numR ⟨s.drop 4,0⟩
 if r.1.e≠0 then(0,2)else if r.2≠1/\r.2≠2 then(0,21)else(r.2,0)
theorem cje(s:List UInt8)(hs:s.length<=100000000)(h:Hp):AT 87 [.str s] h (.tup [.int .i64 (versionS s).1,.int .i64 (versionS s).2]):=by
 refine pcall ?_ rfl (by simp[A.pure,A.data]) h;refine fo ?_;refine go0 ti ?_;refine gc0 ti ?_;refine(ajv s magic _).mono ?_;rintro v h1 ⟨rfl,rfl⟩;have hV:versionS s=if preB s=false then(0,2)else if(Wire.numR ⟨s.drop 4,0⟩).1.e≠0 then(0,2)else if(Wire.numR ⟨s.drop 4,0⟩).2≠1/\(Wire.numR ⟨s.drop 4,0⟩).2≠2 then(0,21)else((Wire.numR ⟨s.drop 4,0⟩).2,0):=rfl
 rcases azl (preB s)with hp|hp;rotate_left
 ·rw[if_pos hp]at hV;unfold preB at hp;rw[hp,hV];refine go0 ti ?_;exact Fn rfl
 ·rw[if_neg (by simp[hp])]at hV;have hl4:(4:Int)<=(s.length:Int):=by
   unfold preB at hp;simp only[Zg,Zx]at hp;have:=hp.1;simp only[magic,Zf,Zo]at this;omega
  unfold preB at hp;rw[hp];have h04:(0:Int)<=4:=by decide
  have h4:(4:Int).toNat=4:=rfl;refine go0 (ai hl4 (ai h04 h4)) ?_;refine gc0 ti ?_;refine(ak9 (s.drop 4) _).mono ?_;rintro v h1 ⟨rfl,rfl⟩;refine go0 ti ?_;refine gc0 ti ?_;refine(axr (i:=0) (r:=⟨s.drop 4,0⟩) rfl (by simp;omega)).mono ?_;rintro v h1 ⟨rfl,rfl⟩;refine go0 ti ?_;refine gc0 ti ?_;refine(czj (i:=0) (r:=(Wire.numR ⟨s.drop 4,0⟩).1) rfl).mono ?_;rintro v h1 ⟨rfl,rfl⟩;obtain⟨q,hq⟩:=Ex (Wire.numR ⟨s.drop 4,0⟩);rw[hq]at hV⊢;by_cases he:q.1.e=0
  rotate_left
  ·have e1:(q.1.e !=0)=true:=by simp[he]
   rw[if_pos he]at hV;rw[hV];refine go0 e1 ?_;exact Fn rfl
  ·have e1:(q.1.e !=0)=false:=by simp[he]
   rw[if_neg (by simp[he])]at hV;by_cases h1:q.2=1
   ·have e2:(q.2 !=1)=false:=by simp[h1]
    rw[if_neg (by simp[h1])]at hV;rw[hV];refine go0 (ai e1 e2) ?_;exact Fn rfl
   ·have e2:(q.2 !=1)=true:=by simp[h1]
    by_cases h2:q.2=2
    ·have e3:(q.2 !=2)=false:=by simp[h2]
     rw[if_neg (by simp[h2])]at hV;rw[hV];refine go0 (ai e1 (ai e2 e3)) ?_;exact Fn rfl
    ·have e3:(q.2 !=2)=true:=by simp[h2]
     rw[if_pos ⟨h1,h2⟩]at hV;rw[hV];refine go0 (ai e1 (ai e2 e3)) ?_;exact Fn rfl
theorem ajx{P:Program}{G:World->Prop}{c:ACode}{Q:AExit->Ts->Hp->Prop}{ts:Ts}{h:Hp}(k:awp P G c (thenA (fun _ _=>False) Q) ts h):awp P G (.loop c) Q ts h:=⟨1,k⟩
theorem WP.bx{i:Nat}{ver:Int}{l:List UInt8}{h h':Hp}(hp:WP i ver l h h')(h0:l≠[]):h'.b[i]?=some (wtr ver l):=by
 rcases hp.1 with h1|⟨h1,_⟩
 ·exact h1
 ·exact absurd h1 h0
def bvy:AX.AFn:=⟨9,aS [aR 4 (.mv (aI 0))] (.seq (aS [aM 5 1] (.cond (.t 5) (.reg false [aR 4 (.mv (aI 1))]) (.skip))) (.reg false [aM 6 0,aM 7 4,aR 8 (.call 167 [.t 6,.t 7])])),[]⟩
theorem dqa:AX.compFn Tryz.prog 171=some bvy:=by kernel_rfl
theorem aww(ver:Int)(l:List UInt8):(wtr ver l).loc 0:=by
 intro o x h;simp only[wtr]at h;split at h
 ·injection h with h;subst h;rfl
 ·cases h
theorem liftW{f:FuncId}{args:List A}{ver:Int}{l l':List UInt8}(hl':l'≠[])(hc:AC f (.ptr 0 0::args) ⟨[wtr ver l],[]⟩ fun u h'=>u=.tup []/\WP 0 ver l' ⟨[wtr ver l],[]⟩ h')(ha:A.locL 0 args=true){h:Hp}{i:Nat}(hb:h.b[i]?=some (wtr ver l)):
  AC f (.ptr i 0::args) h fun u h'=>u=.tup []/\h'=⟨h.b.set i (wtr ver l'),h.t⟩:=by
 have h1:AC f (.ptr 0 0::args) ⟨[wtr ver l],[]⟩ fun u h'=>∃b',h'.b[0]?=some b'/\u=.tup []/\b'=wtr ver l':=hc.mono fun u h' ⟨e,hp⟩=>⟨wtr ver l',WP.bx hp hl',e,rfl⟩
 refine(ACall.lift1 h1 ha (aww ver l) ?_ hb).mono ?_
 ·rintro u b' ⟨rfl,rfl⟩;exact⟨rfl,aww ver l'⟩
 ·rintro u h' ⟨b',⟨rfl,rfl⟩,rfl⟩;exact⟨rfl,rfl⟩
theorem cw5(n:Int):Wire.num n≠[]:=by
 have:=(Wire.encF_len 9 (Wire.zig n)).1;intro e;have h:(Wire.num n).length=0:=by rw[e];rfl
 unfold Wire.num at h;omega
theorem cz7{a b:List UInt8}(h:b≠[]):a++b≠[]:=by simp[h]
theorem cq5(s:List UInt8):Wire.strE s≠[]:=by
 unfold Wire.strE;intro e;exact cw5 _ (List.append_eq_nil_iff.1 e).1
theorem wn{h:Hp}{i:Nat}{ver:Int}{l:List UInt8}(hb:h.b[i]?=some (wtr ver l))(n:Int)(hlen:l.length+10<=1000000000)(h0:-9223372036854775808<=n)(h1:n<=9223372036854775807):
  AC 167 [.ptr i 0,.int .i64 n] h fun u h'=>u=.tup []/\h'=⟨h.b.set i (wtr ver (l++Wire.num n)),h.t⟩:=
 liftW (cz7 (cw5 n)) (bjs (h:=⟨[wtr ver l],[]⟩) (.inl rfl) n hlen h0 h1) rfl hb
theorem wt{h:Hp}{i:Nat}{ver:Int}{l:List UInt8}(hb:h.b[i]?=some (wtr ver l))(s:List UInt8)(hlen:l.length+s.length+10<=1000000000):
  AC 168 [.ptr i 0,.str s] h fun u h'=>u=.tup []/\h'=⟨h.b.set i (wtr ver (l++Wire.strE s)),h.t⟩:=
 liftW (cz7 (cq5 s)) (bv1 (h:=⟨[wtr ver l],[]⟩) (.inl rfl) s hlen) rfl hb
theorem wv{h:Hp}{i:Nat}{ver:Int}{l:List UInt8}(hb:h.b[i]?=some (wtr ver l))(v:V)(hz:∃lv b,(Val.chk v lv b).1=0)(hlen:l.length+(Val.enc v).length+10<=1000000000)(hv:v.lens):
  AC 170 [.ptr i 0,v.A] h fun u h'=>u=.tup []/\h'=⟨h.b.set i (wtr ver (l++Val.enc v)),h.t⟩:=
 liftW (cz7 (dxz v)) (dzc v 0 ver l ⟨[wtr ver l],[]⟩ (.inl rfl) hz hlen hv) (by obtain⟨k,n,s,is,ks⟩:=v;rfl) hb
theorem wf{h:Hp}{i:Nat}{ver:Int}{l:List UInt8}(hb:h.b[i]?=some (wtr ver l))(b:Bool)(hlen:l.length+10<=1000000000):
  AC 171 [.ptr i 0,.bool b] h fun u h'=>u=.tup []/\h'=⟨h.b.set i (wtr ver (l++Sf.flagE b)),h.t⟩:=by
 refine azf mixedT dqa (by simp[bvy]) ?_;dsimp only[bvy];cases b
 ·refine aza ti ?_;refine use (wn hb _ hlen (by decide) (by decide)) ?_;refine aza ti ?_;exact⟨_,le_refl _,rfl,rfl⟩
 ·refine aza ti ?_;refine use (wn hb _ hlen (by decide) (by decide)) ?_;refine aza ti ?_;exact⟨_,le_refl _,rfl,rfl⟩
structure Sf.InstOk(x:Sf.Inst):Prop where
 z:∃lv b,(Val.chk x.attrs lv b).1=0
 lens:x.attrs.lens
 v0:-9223372036854775808<=x.ver
 v1:x.ver<=9223372036854775807
theorem aqs(s:List UInt8):s.length<=(Wire.strE s).length:=by unfold Wire.strE;rw[Za];omega
theorem aji(ds:List (List UInt8))(j:Nat)(hj:j<ds.length):Sf.wordsE (ds.take (j+1))=Sf.wordsE (ds.take j)++Wire.strE ds[j]:=by
 unfold Sf.wordsE;rw[Z3 hj,Zah];simp
theorem avn(ds:List (List UInt8))(j:Nat):(Sf.wordsE (ds.take j)).length<=(Sf.wordsE ds).length:=by
 have:Sf.wordsE ds=Sf.wordsE (ds.take j)++Sf.wordsE (ds.drop j):=by unfold Sf.wordsE;rw[<-Zah,Yo]
 rw[this,Za];omega
theorem dxt{ver:Int}(hver:ver=1\/ver=2)(x:Sf.Inst)(hx:Sf.InstOk x)(l:List UInt8)(hlen:l.length+(Sf.instE ver x).length+20<=1000000000){h:Hp}{i:Nat}(hb:h.b[i]?=some (wtr ver l)):
  AC 169 [.ptr i 0,.agg x.cells] h fun u h'=>u=.tup []/\h'=⟨h.b.set i (wtr ver (l++Sf.instE ver x)),h.t⟩:=by
 have key:AC 169 [.ptr 0 0,.agg x.cells] ⟨[wtr ver l],[]⟩ fun u h'=>∃b',h'.b[0]?=some b'/\u=.tup []/\b'=wtr ver (l++Sf.instE ver x):=by
  have hz:=hx.z;have hl:=hx.lens;have v0:=hx.v0;have v1:=hx.v1;obtain⟨a,d,id,ty,⟨k,n,s,is,ks⟩,v,tn,fi,ds⟩:=x;have hE:Sf.instE ver ⟨a,d,id,ty,.mk k n s is ks,v,tn,fi,ds⟩=Wire.strE a++Wire.strE d++Wire.strE id++Wire.strE ty++Val.enc (.mk k n s is ks)++Wire.num v++Sf.flagE tn++(if ver=2 then Sf.flagE fi else[])++Wire.num ds.length++Sf.wordsE ds:=rfl;rw[hE]at hlen⊢;have la:=aqs a;have lb:=aqs d;have lc:=aqs id;have ld:=aqs ty;have hVA:(V.mk k n s is ks).A=.agg [.int .i64 k,.int .i64 n,.str s,.sl 5 .no (V.cellss is),.sl 1 .no (strsA ks)]:=by simp only[V.A,V.cells]
  have cv:=fun(m:List UInt8) (h:Hp) (hb:h.b[0]?=some (wtr ver m)) (hm:m.length+(Val.enc (.mk k n s is ks)).length+10<=1000000000)=>wv hb (.mk k n s is ks) hz hm hl
  rw[hVA]at cv;simp only[Za]at hlen;obtain⟨F,hF⟩:=Ex ((if ver=2 then Sf.flagE fi else[]));rw[hF]at hlen⊢;have hdl:ds.length<=1000000000:=by
   have:∀l:List (List UInt8),l.length<=(Sf.wordsE l).length:=by
    intro l;induction l with
    |nil=>simp
    |cons x l ih=>
     have h1:Sf.wordsE (x::l)=Wire.strE x++Sf.wordsE l:=by simp[Sf.wordsE]
     have h2:(Wire.strE x).length≠0:=fun e=>cq5 x (YL.1 e)
     rw[h1,Za,Zf];omega
   have:=this ds;omega
  refine fo ?_;dsimp only[Sf.Inst.cells];refine aza ti ?_;refine use (wt rfl a (by omega)) ?_;refine aza ti ?_;refine use (wt rfl d (by simp only[Za];omega)) ?_;refine aza ti ?_;refine use (wt rfl id (by simp only[Za];omega)) ?_;refine aza ti ?_;refine use (wt rfl ty (by simp only[Za];omega)) ?_;refine aza ti ?_;refine use (cv _ _ rfl (by simp only[Za];omega)) ?_;refine aza ti ?_;refine use (wn rfl v (by simp only[Za];omega) v0 v1) ?_;refine aza ti ?_;refine use (wf rfl tn (by simp only[Za];omega)) ?_;have hv12:∀{G:Prop},((ver==2)=false->F=[]->G)->((ver==2)=true->F=Sf.flagE fi->G)->G:=fun p q=>by
   rcases hver with rfl|rfl
   ·rw[if_neg (by decide)]at hF;exact p rfl hF.symm
   ·rw[if_pos rfl]at hF;exact q rfl hF.symm
  refine hv12 (fun e2 eF=>?_) (fun e2 eF=>?_);all_goals subst eF
  ·refine aza (ai @djo (ai e2 @azd)) ?_;refine use (wn rfl _ (by simp only[Za];omega) (by omega) (by omega)) ?_;refine aza @azd ?_;refine azg (fun mm ts h=>∃j:Nat,mm=ds.length-j/\j<=ds.length/\h=⟨[wtr ver (l++Wire.strE a++Wire.strE d++Wire.strE id++Wire.strE ty++Val.enc (.mk k n s is ks)++Wire.num v++Sf.flagE tn++Wire.num ds.length++Sf.wordsE (ds.take j)),.cells 91 [.str a,.str d,.str id,.str ty,.int .i64 k,.int .i64 n,.str s,.sl 5 .no (V.cellss is),.sl 1 .no (strsA ks),.int .i64 v,.bool tn,.bool fi,.sl 1 .no (strsA ds)]],[]⟩/\ts 0=.ptr 0 0/\ts 49=.sl 1 .no (strsA ds)/\ts 50=.int .i64 (ds.length:Nat)/\ts 51=.int .i64 (j:Nat)) ds.length ?_ ?_
   ·exact⟨0,by omega,by omega,by simp only[Sf.wordsE,Yt,Zae,Zz],by(exact ev0 ti),by(exact ev0 ti),by(exact ev0 @azd),by(exact azv ti)⟩
   ·rintro mm ts h ⟨j,rfl,hjc,rfl,t0,t49,t50,t51⟩;by_cases hj:j<ds.length
    ·have hlt:(j:Int)<(ds.length:Int):=by omega
     have ei:IntKind.i64.wrap ((j:Int)+1)=((j+1:Nat):Int):=by rw[wrap64 (by omega) (by omega)];omega
     have hg:=az5 ds j hj;have hlt':(j:Int)<((strsA ds).length:Int):=by rw[azd];exact hlt
     have hj0:(0:Int)<=(j:Int):=by omega
     have ht:=avn ds (j+1);rw[aji ds j hj,Za]at ht;have hsl:=aqs ds[j];refine aza (ai t0 (ai t49 (ai t50 (ai t51 (ai hlt (ai hg (ai hlt' hj0))))))) ?_;refine use (wt rfl ds[j] (by simp only[Za];omega)) ?_;refine aza (ai t0 (ai t49 (ai t50 (ai t51 ei)))) ?_;exact⟨ds.length-(j+1),by omega,j+1,rfl,by omega,by rw[aji ds j hj];simp only[Zi],by(exact ev0 t0),by(exact ev0 t49),by(exact ev0 t50),by(exact ev0 ei)⟩
    ·have hlt:¬((j:Int)<(ds.length:Int)):=by omega
     have hjl:j=ds.length:=by omega
     subst hjl;refine aza (ai t0 (ai t49 (ai t50 (ai t51 hlt)))) ?_;exact⟨_,le_refl _,_,rfl,rfl,by simp only[Yy,Zi,Zq]⟩
  ·refine aza (ai @djo e2) ?_;refine use (wf rfl fi (by simp only[Za];omega)) ?_;refine aza @azd ?_;refine use (wn rfl _ (by simp only[Za];omega) (by omega) (by omega)) ?_;refine aza @azd ?_;refine azg (fun mm ts h=>∃j:Nat,mm=ds.length-j/\j<=ds.length/\h=⟨[wtr ver (l++Wire.strE a++Wire.strE d++Wire.strE id++Wire.strE ty++Val.enc (.mk k n s is ks)++Wire.num v++Sf.flagE tn++Sf.flagE fi++Wire.num ds.length++Sf.wordsE (ds.take j)),.cells 91 [.str a,.str d,.str id,.str ty,.int .i64 k,.int .i64 n,.str s,.sl 5 .no (V.cellss is),.sl 1 .no (strsA ks),.int .i64 v,.bool tn,.bool fi,.sl 1 .no (strsA ds)]],[]⟩/\ts 0=.ptr 0 0/\ts 49=.sl 1 .no (strsA ds)/\ts 50=.int .i64 (ds.length:Nat)/\ts 51=.int .i64 (j:Nat)) ds.length ?_ ?_
   ·exact⟨0,by omega,by omega,by simp only[Sf.wordsE,Yt,Zae,Zz],by(exact ev0 ti),by(exact ev0 ti),by(exact ev0 @azd),by(exact azv ti)⟩
   ·rintro mm ts h ⟨j,rfl,hjc,rfl,t0,t49,t50,t51⟩;by_cases hj:j<ds.length
    ·have hlt:(j:Int)<(ds.length:Int):=by omega
     have ei:IntKind.i64.wrap ((j:Int)+1)=((j+1:Nat):Int):=by rw[wrap64 (by omega) (by omega)];omega
     have hg:=az5 ds j hj;have hlt':(j:Int)<((strsA ds).length:Int):=by rw[azd];exact hlt
     have hj0:(0:Int)<=(j:Int):=by omega
     have ht:=avn ds (j+1);rw[aji ds j hj,Za]at ht;have hsl:=aqs ds[j];refine aza (ai t0 (ai t49 (ai t50 (ai t51 (ai hlt (ai hg (ai hlt' hj0))))))) ?_;refine use (wt rfl ds[j] (by simp only[Za];omega)) ?_;refine aza (ai t0 (ai t49 (ai t50 (ai t51 ei)))) ?_;exact⟨ds.length-(j+1),by omega,j+1,rfl,by omega,by rw[aji ds j hj];simp only[Zi],by(exact ev0 t0),by(exact ev0 t49),by(exact ev0 t50),by(exact ev0 ei)⟩
    ·have hlt:¬((j:Int)<(ds.length:Int)):=by omega
     have hjl:j=ds.length:=by omega
     subst hjl;refine aza (ai t0 (ai t49 (ai t50 (ai t51 hlt)))) ?_;exact⟨_,le_refl _,_,rfl,rfl,by simp only[Yy,Zi,Zq]⟩
 refine(ACall.lift1 key (by obtain⟨a,d,id,ty,⟨k,n,s,is,ks⟩,v,tn,fi,ds⟩:=x;rfl) (aww ver l) ?_ hb).mono ?_
 ·rintro u b' ⟨rfl,rfl⟩;exact⟨rfl,aww _ _⟩
 ·rintro u h' ⟨b',⟨rfl,rfl⟩,rfl⟩;exact⟨rfl,rfl⟩
end AX
end
end Go.Proofs.YthhpocnmfknalaaGreatDoor
