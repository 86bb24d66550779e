/- Part of what the proof needs. -/
import Derived.Test.YtnghhnahdjjpkaaGreatDoorMFrRecoveryReplaysUpto0
import Derived.Test.YtnghhnahdjjpkaaGreatDoorMFrRecoveryReplaysUptoB
import Derived.Test.YtnghhnahdjjpkaaGreatDoorMFrRecoveryReplaysUptoD
import Derived.Test.YtnghhnahdjjpkaaGreatDoorMFrRecoveryReplaysUptoK
import Derived.Test.YtnghhnahdjjpkaaGreatDoorMFrRecoveryReplaysUptoR
import Derived.Laws.CopyRow
import Derived.Lib.AppendZerosOnto
import Derived.Lib.Overlaps
import Derived.Shelf.RegionOpenPlain
import Derived.WalkKit
import Derived.Lib.JoinLaws
import Derived.Lib.AppendZeros
import Derived.Laws.Externs
import Derived.Laws.NewBlocks
set_option maxHeartbeats 4000000
set_option maxRecDepth 100000
set_option linter.all false
namespace Go.Proofs.YtnghhnahdjjpkaaGreatDoor
section
open Go.RowKit
namespace AX
def Kp(h:Hp)(k n:Nat):List A→List A→Prop
 |[],[]=>True
 |x::l,y::m=>((le1 x y∧y.data=true)∨(∃W c,x=.bs k W c∧y=.bs n W c)∨∃i W T rows,i≠k∧x=.bs i W rows.length∧h.b[i]?=some (.row T rows.flatten)∧y=.sl W .no rows∧(∀r∈rows,r.length=W)∧rows.flatten.all A.data=true)∧Kp h k n l m
 |_,_=>False
theorem ACall.wk{P:Program}{G:World→Prop}{f:FuncId}{args:List A}{h:Hp}{K K':A→Hp→Prop}(hc:ACall P G f args h K)(hk:∀v h',K v h'→∃v',le v v'∧K' v' h'):ACall P G f args h K':=by
 intro C cs hI hr;refine(hc C cs hI hr).mono ?_;rintro e w' ⟨C1,h1,v,cv,e1,e2,I1,S1,r1,q1⟩;obtain⟨v',hl,q2⟩:=hk v h1 q1;exact⟨C1,h1,v',cv,e1,e2,I1,S1,dqy hl r1,q2⟩
theorem ACall.keep1{P:Program}{G:World→Prop}{f:FuncId}{args:List A}{ys:Nat→List A}{T:TypeId}{l:List A}(hc:ACall P G f args ⟨[],[]⟩ fun v h'=>∃k xs,v=.agg xs∧h'.b[k]?=some (.row T l)∧∀n,Kp h' k n xs (ys n))(hl:l.all A.data=true)(ha:args.all A.pure=true)(h:Hp):
  ACall P G f args h fun v h'=>v=.agg (ys h.b.length)∧h'=⟨h.b++[.row T l],h.t⟩:=by
 intro C cs hI hr;have hid:Inv G C.hid ⟨[],[]⟩:=by
  refine⟨rfl,fun i b hb=>by simp at hb,⟨fun i b hb=>by simp at hb,fun i j b b' hb=>by simp at hb⟩,fun g i hg=>by simp[Ctx.hid]at hg,fun g j hs=>?_,fun t E W m ht=>by simp[Ctx.hid]at ht,fun t t' ht=>by simp[Ctx.hid]at ht,fun t=>by simp[Ctx.hid],hI.base,hI.glob⟩;exact⟨(hI.prot g j hs).1,rfl,fun t E W m ht=>by simp[Ctx.hid]at ht⟩
 refine(hc C.hid cs hid (RepL.pures (C:=C) (C':=C.hid) ⟨fun g j hs=>⟨hs,rfl⟩⟩ args cs ha hr)).mono ?_;rintro e w' ⟨C1,h1,v,cv,rfl,rfl,I1,S1,r1,k,xs,rfl,hk,hxy⟩;have hblk:∀g,g<C.w.heap.size→C1.w.heap[g]?=C.w.heap[g]?:=fun g hg=>S1.frame g hg rfl fun t ht=>by simp[Ctx.hid]at ht
 have hno:∀g,g<C.w.heap.size→C1.own g=none:=fun g hg=>S1.own g hg
 have hsz:C.w.heap.size≤C1.w.heap.size:=S1.size;have hnew:∀g i,C1.own g=some i→C.w.heap.size≤g:=fun g i hg=>by
  rcases Zr g C.w.heap.size with hlt|hge
  ·rw[hno g hlt]at hg;cases hg
  ·exact hge
 have hprot:∀g j,C1.S g j→C.S g j∨C.w.heap.size≤g:=fun g j hs=>by
  rcases S1.prot g j hs with h2|h2|⟨t,h2,_⟩
  ·exact .inl h2
  ·exact .inr h2
  ·simp[Ctx.hid]at h2
 have okk:C1.own (C1.κ k)=some (C1.lab k):=I1.ok hk rfl;have hkge:C.w.heap.size≤C1.κ k:=by
  rcases Zr (C1.κ k) C.w.heap.size with h2|h2
  ·rw[hno _ h2]at okk;cases okk
  ·exact h2
 let C2:Ctx:={ C with w:=C1.w,S:=fun g j=>C1.S g j∨∃m,C1.own g=some m∧m≠C1.lab k,κ:=fun i=>if i<C.nb then C.κ i else C1.κ k,nb:=C.nb+1,own:=fun g=>if g<C.w.heap.size then C.own g else if C1.own g=some (C1.lab k)then some C.nb else none,kap:=fun i=>if i<C.nb then C.kap i else C1.kap k,lab:=fun i=>if i<C.nb then C.lab i else C.nb }
 have k2:C2.κ C.nb=C1.κ k∧C2.kap C.nb=C1.kap k∧C2.lab C.nb=C.nb:=⟨if_neg (Nat.lt_irrefl _),if_neg (Nat.lt_irrefl _),if_neg (Nat.lt_irrefl _)⟩;have k1:∀i,i<C.nb→C2.κ i=C.κ i∧C2.kap i=C.kap i∧C2.lab i=C.lab i:=fun i hi=>⟨if_pos hi,if_pos hi,if_pos hi⟩
 have o1:∀g,g<C.w.heap.size→C2.own g=C.own g:=fun g hg=>if_pos hg
 have o2:∀g,C.w.heap.size≤g→C2.own g=if C1.own g=some (C1.lab k)then some C.nb else none:=fun g hg=>if_neg (by omega)
 have o3:∀g l,l<C.nb→(C2.own g=some l↔C.own g=some l):=fun g l hl=>by
  by_cases hg:g<C.w.heap.size
  ·rw[o1 g hg]
  ·rw[o2 g (by omega)];constructor
   ·intro e;split at e
    ·injection e with e;omega
    ·cases e
   ·intro e;exact absurd (hI.ownlt g l e).2.1 hg
 have hE:Ext C C2:=by
  refine⟨fun g j hs=>⟨.inl (S1.ext.cells g j hs).1,(S1.ext.cells g j hs).2⟩,Nat.le_succ _,k1,fun t E W m ht=>?_⟩;obtain⟨h0,_,cap,h2,_⟩:=hI.rows t E W m ht;exact⟨m,ht,.inr ⟨rfl,rfl,fun cap hc=>hc.same (hblk _ h2.lt)⟩⟩
 have hlen:=hI.nb;have hsame:Same C1 C2:=⟨fun g j hs=>⟨.inl hs,rfl⟩⟩;have hsp:∀(i:Nat) (b:Blk),(h.b++[Blk.row T l])[i]?=some b→(i<C.nb∧h.b[i]?=some b)∨(i=C.nb∧b=.row T l):=fun i b hib=>by
  rw[YG]at hib;split at hib
  ·next hi=>exact .inl ⟨by rw[←hlen];exact hi,hib⟩
  ·next hi=>
   rcases Nat.eq_zero_or_pos (i-h.b.length)with e|e
   ·rw[e]at hib;simp only[Z7,Za]at hib;exact .inr ⟨by omega,hib.symm⟩
   ·rw[ZO (by simp only[Zi,ZH];omega)]at hib;cases hib
 have hrep:∀(xs ys:List A) (vs:List Value),Kp h1 k C.nb xs ys→RepL C1 xs vs→RepL C2 ys vs:=by
  intro xs;induction xs with
  |nil=>
   intro ys vs hf hr;cases ys with
   |nil=>exact hr
   |cons y ys=>exact hf.elim
  |cons x xs ih=>
   intro ys vs hf hr;cases ys with
   |nil=>exact hf.elim
   |cons y ys=>
    obtain⟨c,cs',rfl,q1,q2⟩:=repL_cons.1 hr;refine repL_cons.2 ⟨c,cs',rfl,?_,ih ys cs' hf.2 q2⟩;rcases hf.1 with⟨hle,hd⟩|⟨W,m,rfl,rfl⟩|⟨i,W,T',rows,hik,rfl,hb,rfl,hW,hd⟩
    ·exact Rep.same hsame _ _ hd (byo hle q1)
    ·obtain⟨cap,rfl,hcap,hi,hx⟩:=rep_bs.1 q1;refine rep_bs.2 ⟨cap,by rw[k2.1],hcap,Nat.lt_succ_self _,?_⟩;rw[k2.2.1];exact hx
    ·obtain⟨cap,rfl,hcap,hi,_⟩:=rep_bs.1 q1;obtain⟨ds,rest,m1,m2,_⟩:=I1.box i _ hb;have hsd:∃m,C1.own (C1.κ i)=some m∧m≠C1.lab k:=⟨_,I1.ok hb rfl,I1.labne hb hk rfl rfl hik⟩;have hdd:RepL C2 rows.flatten ds:=RepL.same hsame _ _ hd m2;refine rep_sl.2 ⟨_,cap,rfl,hcap,az2 rows ds 0 hW hd hdd (fun j _=> .inr hsd) (fun j u hu=>?_),trivial⟩;have q1':C2.w.heap[C1.κ i]?=some (.cells (ds++rest).toArray T' (0,0)):=m1;rw[cell_of_row _ _ _ _ _ _ q1'];have hj:j<ds.length:=(Ze.1 hu).1;simp only[List.getElem?_toArray];rw[show 0+0*W+j=j by omega,ZB hj];exact hu
 refine⟨C2,⟨h.b++[.row T l],h.t⟩,.agg (ys h.b.length),cv,rfl,rfl,⟨?_,fun i b hib=>?_,⟨fun i b hib hl=>?_,fun i j b b' hib hjb hl hl' e=>?_⟩,fun g m hg=>?_,fun g j hs=>?_,fun t E W m ht=>?_,hI.inj,hI.toks,Zs hI.base hsz,fun w2 hw=>?_⟩,⟨hE,S1.os,S1.tape,S1.output,hsz,rfl,fun g hg _ _=>hblk g hg,o1,fun g j hs=>?_,fun t ht=> .inr ⟨ht,rfl⟩⟩,?_,rfl,rfl⟩
 ·rw[Zb,hlen];rfl
 ·rcases hsp i b hib with⟨hi,hb⟩|⟨rfl,rfl⟩
  ·exact(hI.box i b hb).ext hE hi (fun hl=>⟨hI.ok hb hl,fun g hg=>hblk g (hI.ownlt g _ hg).2.1,fun g=>o3 g _ (hI.lablt hb hl)⟩) hsz
  ·obtain⟨ds,rest,m1,m2,m3⟩:=I1.box k _ hk;exact⟨ds,rest,by rw[k2.1];exact m1,RepL.same hsame l ds hl m2,by rw[k2.2.1];exact m3⟩
 ·rcases hsp i b hib with⟨hi,hb⟩|⟨rfl,rfl⟩
  ·rw[(k1 i hi).1,(k1 i hi).2.2];exact(o3 _ _ (hI.lablt hb hl)).2 (hI.ok hb hl)
  ·rw[k2.1,k2.2.2,o2 _ hkge,if_pos okk]
 ·rcases hsp i b hib with⟨hi,hb⟩|⟨rfl,rfl⟩
  ·rw[(k1 i hi).2.2]at e;have l1:=hI.lablt hb hl;rcases hsp j b' hjb with⟨hj,hb'⟩|⟨rfl,rfl⟩
   ·rw[(k1 j hj).2.2]at e;exact hI.ownk.2 i j b b' hb hb' hl hl' e
   ·rw[k2.2.2]at e;omega
  ·rw[k2.2.2]at e;rcases hsp j b' hjb with⟨hj,hb'⟩|⟨rfl,rfl⟩
   ·rw[(k1 j hj).2.2]at e;have l1:=hI.lablt hb' hl';omega
   ·rfl
 ·by_cases hg':g<C.w.heap.size
  ·rw[o1 g hg']at hg;obtain⟨m1,m2,m3⟩:=hI.ownlt g m hg;exact⟨Nat.lt_succ_of_lt m1,ZA m2 hsz,m3⟩
  ·rw[o2 g (by omega)]at hg;split at hg
   ·next e=>
    injection hg with hg;subst hg;obtain⟨m1,m2,m3⟩:=I1.ownlt g _ e;exact⟨Nat.lt_succ_self _,m2,by rw[S1.base]at m3;exact m3⟩
   ·cases hg
 ·have hlt:g<C1.w.heap.size:=by
   rcases hs with hs|⟨m,hm,_⟩
   ·exact(I1.prot g j hs).1
   ·exact(I1.ownlt g m hm).2.1
  have hn1:¬C1.own g=some (C1.lab k):=by
   rcases hs with hs|⟨m,hm,hne⟩
   ·rw[(I1.prot g j hs).2.1];exact fun e=>by cases e
   ·rw[hm];exact fun e=>hne (by injection e)
  have hpr:C.S g j∨C.w.heap.size≤g:=by
   rcases hs with hs|⟨m,hm,_⟩
   ·exact hprot g j hs
   ·exact .inr (hnew g m hm)
  rcases hpr with h2|h2
  ·obtain⟨m1,m2,m3⟩:=hI.prot g j h2;exact⟨hlt,by rw[o1 g m1];exact m2,m3⟩
  ·refine⟨hlt,by rw[o2 g h2,if_neg hn1],fun t E W m ht e=>?_⟩;obtain⟨_,_,cap,m1,_⟩:=hI.rows t E W m ht;have:=m1.lt;have e':C.τ t=g:=e;omega
 ·obtain⟨m1,m2,cap,m3,m4⟩:=hI.rows t E W m ht;exact⟨(o1 _ m3.lt).trans m1,m2,cap,m3.same (hblk _ m3.lt),m4⟩
 ·exact hI.glob w2 fun g hg=>(hw g hg).trans (hblk g (ZA hg hI.base))
 ·rcases hs with hs|⟨m,hm,_⟩
  ·rcases hprot g j hs with h2|h2
   ·exact .inl h2
   ·exact .inr (.inl h2)
  ·exact .inr (.inl (hnew g m hm))
 ·obtain⟨vs,rfl,hlv⟩:=rep_agg.1 r1;rw[hlen];exact rep_agg.2 ⟨vs,rfl,hrep _ _ vs (hxy _) hlv⟩
def aws:AX.AFn:=⟨28,aS [aR 3 (.box 26 (.t 0)),aR 6 (.alloc 42 [.str [],.str [],.str [],.str [],.int .i64 0,.int .i64 0,.str [],.sl 0 .nil [],.sl 0 .nil [],.int .i64 0,.bool false,.bool false,.sl 0 .nil []]),aR 7 (.mv (.c (.bool false)))] (aS [aF 11 2 3,aL 12 11,aM 13 1,aM 14 2,aR 15 (.build [.str [],.str []] [(0,1,.t 13),(1,1,.t 14)]),aR 16 (.call 118 [.t 12,.t 15]),aM 10 16,aE 17 10 0,aE 18 10 1,aM 8 17,aM 9 18] (.seq (aS [aM 19 9,aR 20 (.un .not (.t 19))] (.cond (.t 20) (aS [aR 21 (.build [.str [],.str [],.str [],.str [],.int .i64 0,.int .i64 0,.str [],.sl 0 .nil [],.sl 0 .nil [],.int .i64 0,.bool false,.bool false,.sl 0 .nil []] []),aU (.store 13 (.t 6) (.t 21)),aR 7 (.mv (.c (.bool false)))] (.ret)) (.skip))) (aS [aF 22 2 3,aL 23 22,aM 24 8,aR 25 (.iaddr 13 (.t 23) (.t 24)),aR 26 (.load true 13 (.t 25)),aR 27 (.call 112 [.t 26]),aU (.store 13 (.t 6) (.t 27)),aR 7 (.mv (.c (.bool true)))] (.ret)))),[.c 6 true 13,.t 7]⟩
theorem ckn:AX.compFn Tryz.prog 73=some aws:=by kernel_rfl
theorem ayr(st:Sf.St)(hf:StFew st)(he:st.insts=[])(h:Hp):AT 69 [st.A] h (.agg [.str st.lin,.int .i64 st.ser,.sl 0 .nil [],.sl 3 .no (st.pends.map Sf.Pend.cells),.sl 7 .no (st.outs.map Sf.Outp.cells)]):=by
 obtain⟨w,L,⟨hg,hL,h0⟩,hcl⟩:=bzu st hf .no _ (cz9 st.pends (by have:=hf.ps;omega));obtain rfl:=h0 he;exact pcall (hcl.mono fun v h' hq=>hq.1) rfl (by simp[A.pure,A.data,Sf.St.A]) h
theorem ayw(st:Sf.St)(hf:StFew st)(he:st.insts≠[])(h:Hp):AC 69 [st.A] h fun r h'=>r=.agg [.str st.lin,.int .i64 st.ser,.bs h.b.length 13 st.insts.length,.sl 3 .no (st.pends.map Sf.Pend.cells),.sl 7 .no (st.outs.map Sf.Outp.cells)]∧h'=⟨h.b++[rowI st.insts],h.t⟩:=by
 obtain⟨w,L,⟨hg,hL,_⟩,hcl⟩:=bzu st hf .no _ (cz9 st.pends (by have:=hf.ps;omega));rcases hg with⟨h1,_⟩|⟨k,rfl,hk⟩
 ·exact absurd (by simpa using h1) he
 ·rw[Zj]at hcl;refine ACall.keep1 (ys:=fun n=>[.str st.lin,.int .i64 st.ser,.bs n 13 st.insts.length,.sl 3 .no (st.pends.map Sf.Pend.cells),.sl 7 .no (st.outs.map Sf.Outp.cells)]) (hcl.mono ?_) (rows_data _ Sf.Inst.cells_data st.insts) (by simp[A.pure,A.data,Sf.St.A]) h;rintro v h' ⟨rfl,rfl⟩;exact⟨3+k,_,rfl,by rw[show 3+k=k+1+1+1 by omega];exact hk,fun n=>⟨.inl ⟨aza _,rfl⟩,.inl ⟨aza _,rfl⟩,.inr (.inl ⟨13,_,rfl,rfl⟩),.inl ⟨aza _,rfl⟩,.inl ⟨aza _,rfl⟩,trivial⟩⟩
def zeroI:List A:=[.str [],.str [],.str [],.str [],.int .i64 0,.int .i64 0,.str [],.sl 0 .nil [],.sl 0 .nil [],.int .i64 0,.bool false,.bool false,.sl 0 .nil []]
theorem dxx(LF:Leafs)(st:Sf.St)(hf:StFew st)(a d:List UInt8)(p:Nat)(hc:Sf.Cut st.insts a d p)(hn:st.insts.length≤1000000)(h:Hp):
  AT 73 [st.A,.str a,.str d] h (.tup [.agg (if Sf.hasB st.insts a d p=true then(match st.insts[p]? with|some x=>x.cells|none=>zeroI)else zeroI),.bool (Sf.hasB st.insts a d p)]):=by
 have cs:=ayd LF st.insts a d p hc hn;have hio:=hf.ins.2;clear LF hf hn;obtain⟨lin,ser,ins,ps,os⟩:=st;simp only[Sf.St.A];dsimp only at cs hio hc⊢;have hz:Sf.hasB ins a d p=true→p<ins.length:=fun hb=>by
  rcases Zr p ins.length with h1|h1
  ·exact h1
  ·unfold Sf.hasB at hb;rw[ZO h1]at hb;cases hb
 obtain⟨B,hB⟩:=Ex (Sf.hasB ins a d p);rw[hB]at cs hz⊢;clear hB hc;have hlen0:(ins.map Sf.Inst.cells).length=ins.length:=Zj _;cases B with
 |false=>
  refine pcall ?_ rfl (by simp[A.pure,A.data,zeroI]) h;refine azb mixedT ckn (by simp[aws]) ?_;dsimp only[aws];refine aze ti (ai cs ti) ?_;exact Fn rfl
 |true=>
  have hlt:=hz rfl;have hx:=hio _ (Zp hlt);have cx:=axa _ hx.1 hx.2;have hg:(p:Int)<(ins.length:Int)∧(ins.map Sf.Inst.cells).getD p []=Sf.Inst.cells ins[p]:=⟨by omega,by simp[List.getD,hlt]⟩;rw[Zm hlt];clear hz hio;obtain⟨x,hxx⟩:=Ex (ins[p]);rw[hxx]at hg cx⊢;clear hxx hx;obtain⟨b1,b2,b3,b4,⟨jk2,jn,js,jis,jks⟩,jv,jtn,jfi,jds⟩:=x;simp only[Sf.Inst.cells,if_true]at hg cx⊢;refine pcall ?_ rfl (by simp[A.pure,A.data]) h;refine azb mixedT ckn (by simp[aws]) ?_;dsimp only[aws];refine aze (ai hlen0 hg) (ai cs (ai cx ti)) ?_;exact Fn rfl
end AX
end
section
open Go.RowKit
section
variable {P:Program}
theorem azw(w:World)(dT sT ty elem:TypeId)(it:TypeInfo)(g o dLen dCap:Nat)(a:Addr)(sLen sCap:Nat)(cur:Array Value)(t:TypeId)(cs:List Value)
  (hu:P.underlying dT=some (.slice elem)) (hs:P.info? elem=some it) (hg:w.heap[g]?=some (.cells cur t (0,0))) (hn:cs.length=Nat.min sLen dLen*it.size)
  (hsrc:∀j v,cs[j]?=some v→w.cell? (a.add j)=some v) (hfit:o+cs.length≤cur.size) (h1:∀v∈cs,v.oneCell'=true):
  (Builtin.copy_ #[dT,sT] ty #[.slice (some ⟨g,o,none⟩) dLen dCap,.slice (some a) sLen sCap]).run P w =
   .ok (goInt (Nat.min sLen dLen)) (w.setRow g (cur.toList.take o++cs++cur.toList.drop (o+cs.length)).toArray):=by
 have hl:=run_loadCells_list (P:=P) w a cs hsrc;have hst:=run_storeCells_at P g o t cs 0 cur w hg (by simpa using hfit) h1;simp only[Yt]at hst;simp[Builtin.copy_,run_underlying hu,Builtin.lenOf,Builtin.firstCells,sizeOf,typeInfo,hs,←hn,hl,hst]
theorem czj(w:World){o:Oper}{a:Act}{K:Act→World→Prop}{Q:Exit→Act→World→Prop}(d s:Operand)(t t':TypeId)
  (ho:o.op=.call { callee:=.builtin .copy,args:=#[d,s],argTypes:=#[t,t'] }) (v u:Value) (hd:a.eval d=v) (hs:a.eval s=u) {v':Value} {w':World}
  (hr:(Builtin.copy_ #[t,t'] o.type #[v,u]).run P w=.ok v' w') (h:K (a.put o.dst v') w'):o.wp P a w K Q:=by
 unfold Oper.wp execOp;simp only[ho,resolve,invoke,builtin,Sem.run_bind,Sem.run_pure,Result.andThen_ok,List.map_toArray,ZE,Yj,hd,hs,hr];exact h
theorem aqb(w:World){ops:Array Oper}{rest:List Oper}{o:Oper}{a:Act}{Q:Exit→Act→World→Prop}(hgd:o.guard=none)(d s:Operand)(t t':TypeId)
  (ho:o.op=.call { callee:=.builtin .copy,args:=#[d,s],argTypes:=#[t,t'] }) (v u:Value) (hd:a.eval d=v) (hs:a.eval s=u) {v':Value} {w':World}
  (hr:(Builtin.copy_ #[t,t'] o.type #[v,u]).run P w=.ok v' w') (h:wpList P ops Q rest (a.put o.dst v') w'):wpList P ops Q (o::rest) a w:=
 wpList_plain hgd fun _ hK=>czj w d s t t' ho v u hd hs hr (hK _ _ h)
theorem akj{ops:Array Oper}{o:Oper}{a:Act}{w:World}{K:Act→World→Prop}{Q:Exit→Act→World→Prop}{E:Prop}
  (hg:o.guard=none) (s x:Operand) (t t':TypeId) (hop:o.op=Op.call { callee:=Callee.builtin Builtin.append,args:=#[s,x],argTypes:=#[t,t'] })
  (v u:Value) (hs:a.eval s=v) (hx:a.eval x=u) {v':Value} {w':World} (hr:(Builtin.append_ #[t,t'] o.type #[v,u]).run P w=.ok v' w') (hK:K (a.put o.dst v') w'):
  if Region.wanted o (yielded ops a.tmps)=true then Oper.wp P o a w K Q else E:=by
 have hw:Region.wanted o (yielded ops a.tmps)=true:=by simp[Region.wanted,hg]
 rw[if_pos hw];unfold Oper.wp execOp;simp only[hop,resolve,invoke,builtin,Sem.run_bind,Sem.run_pure,Result.andThen_ok,List.map_toArray,ZE,Yj,hs,hx,hr];exact hK
theorem ajd{ops:Array Oper}{o:Oper}{a:Act}{w:World}{K:Act→World→Prop}{Q:Exit→Act→World→Prop}{E:Prop}
  (hg:o.guard=none) (d x:Operand) (dT sT:TypeId) (hop:o.op=Op.call { callee:=Callee.builtin Builtin.copy,args:=#[d,x],argTypes:=#[dT,sT] })
  (v u:Value) (hd:a.eval d=v) (hx:a.eval x=u) {v':Value} {w':World} (hr:(Builtin.copy_ #[dT,sT] o.type #[v,u]).run P w=.ok v' w') (hK:K (a.put o.dst v') w'):
  if Region.wanted o (yielded ops a.tmps)=true then Oper.wp P o a w K Q else E:=by
 have hw:Region.wanted o (yielded ops a.tmps)=true:=by simp[Region.wanted,hg]
 rw[if_pos hw];exact czj w d x dT sT hop v u hd hx hr hK
theorem aj9{B g:Nat}{w0 w:World}(hb:Below B w0 w)(hBg:B≤g)(cs:Array Value):Below B w0 (w.setRow g cs):=
 hb.trans ⟨rfl,rfl,rfl,by simp[World.setRow],fun k hk=>setRow_other w g k cs (by omega)⟩
theorem ajk(w:World)(t e ty:TypeId)(z:Value)(g o n c k:Nat)(cur:Array Value)(T:TypeId)(ht:P.underlying t=some (.slice e))(hv:∀w,(zeroValue e).run P w=.ok z w)(hk:z.cells.size=k)(h1:∀v∈z.cells.toList,v.oneCell'=true)
  (hg:w.heap[g]?=some (.cells cur T (0,0))) (hfit:o+n*k≤cur.size) (hn:0<n):
  (Builtin.clear_ #[t] ty #[.slice (some ⟨g,o,none⟩) n c]).run P w=.ok (.tuple #[]) (w.setRow g (cur.toList.take o++(Builtin.zeroCells z.cells n).toList++cur.toList.drop (o+(Builtin.zeroCells z.cells n).toList.length)).toArray):=by
 have hz1:∀v∈(Builtin.zeroCells z.cells n).toList,v.oneCell'=true:=by
  intro v hv;simp only[Builtin.zeroCells,Array.toList_map,Z0]at hv;obtain⟨i,hi,rfl⟩:=hv
  have hlt:i%z.cells.size<z.cells.size:=Nat.mod_lt _ (by
   rcases Nat.eq_zero_or_pos z.cells.size with h0|h0
   ·rw[h0]at hi;simp at hi
   ·exact h0)
  rw[getElem!_pos z.cells _ hlt];exact h1 _ (by simp)
 have hzl:(Builtin.zeroCells z.cells n).toList.length=n*k:=by rw[Zz,size_zeroCells,hk]
 have hst:=run_storeCells_at P g o T (Builtin.zeroCells z.cells n).toList 0 cur w hg (by rw[hzl];simpa using hfit) hz1;simp only[Yt]at hst;obtain⟨m,rfl⟩:∃m,n=m+1:=⟨n-1,by omega⟩;simp[Builtin.clear_,run_underlying ht,hv,hst]
theorem avn(w:World)(tS tR e:TypeId)(ht:P.underlying tS=some (.slice e))(size:Nat)(hz:∀w,(Go.sizeOf e).run P w=.ok size w)
  (a b:Addr) (la ca lb cb:Nat) (hne:a.block≠b.block) {curA curB:Array Value} {tA tB:TypeId} {fr:Nat×Nat} (ha:w.heap[a.block]?=some (.cells curA tA fr)) (hA:curA.size≠0) (hb:w.heap[b.block]?=some (.cells curB tB (0,0))):
  (Extern.SlicesOverlaps.overlaps #[tS,tS] #[tR] #[.slice (some a) la ca,.slice (some b) lb cb]).run P w=.ok (.bool false) w:=by
 have hnb:(a.block !=b.block)=true:=by simpa using hne
 have hnb':(a.block==b.block)=false:=by simpa using hne
 have hsa:w.shape? a.block=some (tA,curA.size):=by simp[World.shape?,ha]
 have hsb:w.shape? b.block=some (tB,curB.size):=by simp[World.shape?,hb]
 have hfb:∀o s,w.frozen? ⟨b.block,o,s⟩=false:=fun o s=>by simp[World.frozen?,hb]
 have hfb':w.frozen? b=false:=hfb b.off b.spot
 change Sem.run P (α:=Value) (do
  let some t := (#[tS, tS] : Array TypeId)[0]? | stuck "slices.overlaps: no parameter types"
  let .slice elem ← underlying t | stuck "slices.overlaps: slice type expected"
  let size ←sizeOf elem
  match (some a:Option Addr),(some b:Option Addr)with
  |some a,some b=>
   if la=0∨lb=0∨size=0 then pure (Value.bool false)
   else if a.block !=b.block&&(←frozen a)&&(←frozen b)then unsupported .addressObserved
   else do
    if a.block !=b.block then do
     noView a;noView b
     if ← mayBeOne a b then return Value.bool ((← choose (.extern "sameAddr.stringBytes" 2)) == 1)
    pure (Value.bool (a.block==b.block&&a.off<b.off+lb*size&&b.off<a.off+la*size))
  |_,_=>pure (Value.bool false)) w=_
 by_cases h0:la=0∨lb=0∨size=0
 ·simp[run_underlying ht,hz,h0]
 ·obtain⟨kA,hkA⟩:∃kA,curA.size=kA+1:=⟨curA.size-1,by omega⟩;rw[hkA]at hsa;cases hfa:w.frozen? a<;>cases hfe:w.frozen? { block:=a.block,off:=kA+1 }<;>
   simp[run_underlying ht,hz,h0,hnb,hnb',frozen,noView,viewAt,mayBeOne,stringish,shape,Sem.run,hsa,hsb,hfa,hfe,hfb,hfb']
end
end
section
open Go.RowKit
namespace AX
section
variable {P:Program} {G:World→Prop} {C:Ctx} {h:Hp}
theorem ak6{i W n' cap:Nat}{T:TypeId}{l l':List A}{w':World}{cs rest:List Value}(hI:Inv G C h)(hb:h.b[i]?=some (.row T l))(hh:w'.heap[C.κ i]?=some (.cells (cs++rest).toArray T (0,0)))(hlen:(cs++rest).length=C.kap i)
  (hg:C.w.grownBy w' (some (C.κ i))) (hl:RepL C l' cs) (hcap:n'≤cap) (hcm:cap≤maxLen) (hk:cap*W≤C.kap i):
  ∃C':Ctx,C'.w=w'∧Inv G C' ⟨h.b.set i .gone++[.row T l'],h.t⟩∧Step C C'∧Rep C' (.bs h.b.length W n') (.slice (some ⟨C.κ i,0,none⟩) n' cap):=by
 have hown:=hI.ok hb rfl;obtain⟨i1,s1⟩:=axo (w':=w') (b':=.row T l') false hI hb rfl hg.os hg.tape hg.output hg.size (fun g' h1 hne=>hg.block g' h1 fun e=>hne (by injection e with e;rw[e];exact hown))
  (fun hS=>⟨cs,rest,hh,RepL.ext hS.ext _ _ hl,hlen⟩)
 have hb2:(⟨h.b.set i (.row T l'),h.t⟩:Hp).b[i]?=some (.row T l'):=by
  show(h.b.set i _)[i]?=_
  rw[YB (Ze.1 hb).1]
 obtain⟨C2,n1,n2,n3,n4,n5,n6⟩:=czp i1 hb2;have hll:(⟨h.b.set i (.row T l'),h.t⟩:Hp).b.length=h.b.length:=Yr;rw[hll]at n4 n5 n6;have hss:(h.b.set i (.row T l')).set i .gone=h.b.set i .gone:=List.set_set ..;simp only[hss]at n2;exact⟨C2,n1,n2,s1.trans n3,rep_bs.2 ⟨cap,by rw[n4];rfl,hcap,n6,hcm,by rw[n5];exact hk⟩⟩
theorem ak3{i W n' cap:Nat}{T:TypeId}{l':List A}{b0:Blk}{w':World}{cs rest:List Value}(hI:Inv G C h)(hb:h.b[i]?=some b0)(hh:w'.heap[C.w.heap.size]?=some (.cells (cs++rest).toArray T (0,0)))(hlen:(cs++rest).length=cap*W)
  (hg:Below C.w.heap.size C.w w') (hl:RepL C l' cs) (hcap:n'≤cap) (hcm:cap≤maxLen):
  ∃C':Ctx,C'.w=w'∧Inv G C' ⟨h.b.set i .gone++[.row T l'],h.t⟩∧Step C C'∧Rep C' (.bs h.b.length W n') (.slice (some ⟨C.w.heap.size,0,none⟩) n' cap):=by
 obtain⟨C',m1,m2,m3,m4,m5,m6⟩:=aq7 hI hg (Zh _) hh hl;have hi:i<h.b.length:=(Ze.1 hb).1;have m2':=cz6 (i:=i) (b:=b0) m2 (by show(h.b++_)[i]?=_;rw[ZB hi];exact hb);rw[show(⟨h.b++[Blk.row T l'],h.t⟩:Hp).b.set i .gone=h.b.set i .gone++[.row T l']from List.set_append_left _ _ hi]at m2';exact⟨C',m1,m2',m3,rep_bs.2 ⟨cap,by rw[m4],hcap,m5,hcm,by rw[m6,hlen];exact Zh _⟩⟩
theorem cwk{W n' cap:Nat}{T:TypeId}{l':List A}{w':World}{cs rest:List Value}(hI:Inv G C h)(hh:w'.heap[C.w.heap.size]?=some (.cells (cs++rest).toArray T (0,0)))(hlen:(cs++rest).length=cap*W)
  (hg:Below C.w.heap.size C.w w') (hl:RepL C l' cs) (hcap:n'≤cap) (hcm:cap≤maxLen):
  ∃C':Ctx,C'.w=w'∧Inv G C' ⟨h.b++[.row T l'],h.t⟩∧Step C C'∧Rep C' (.bs h.b.length W n') (.slice (some ⟨C.w.heap.size,0,none⟩) n' cap):=by
 obtain⟨C',m1,m2,m3,m4,m5,m6⟩:=aq7 hI hg (Zh _) hh hl;exact⟨C',m1,m2,m3,rep_bs.2 ⟨cap,by rw[m4],hcap,m5,hcm,by rw[m6,hlen];exact Zh _⟩⟩
theorem bqn{w:World}{g o:Nat}{v:Value}(hc:w.cell? ⟨g,o,none⟩=some v):∃c T fr,w.heap[g]?=some (.cells c T fr)∧c.size≠0:=by
 unfold World.cell? at hc;split at hc
 ·next c T fr hh=>
  refine⟨c,T,fr,hh,?_⟩;simp only[Y4,Zn,if_false]at hc;have:=(ZL.1 hc).1;omega
 ·cases hc
theorem bqd{E:TypeId}{W i g off cap:Nat}{v:A}{l2:List A}{b:Blk}(hI:Inv G C h)(hW:0<W)(hr:Rep C v (.slice (some ⟨g,off,none⟩) 1 cap))(hs:rowC h E W v=some (1,l2))(hb:h.b[i]?=some b)(hl:b.live=true)(hne:∀n,v≠.bs i W n):g≠C.κ i:=by
 intro e;have hown:=hI.ok hb hl;rw[←e]at hown;cases v with
 |sl W' o ys=>
  simp only[rowC]at hs;split at hs
  ·next e2=>
   subst e2;simp only[Za,Zv]at hs;obtain⟨h1,rfl⟩:=hs;obtain⟨a,cap',e1,_,hrows,_⟩:=rep_sl.1 hr;injection e1 with e1 _ _;obtain⟨g',off',e3,hlen,hat⟩:=aqy hrows 0 (by omega);rw[←e1]at e3;injection e3 with e3;injection e3 with e3 e4;subst e3;cases hy:ys[0]with
   |nil=>rw[hy]at hlen;simp at hlen;omega
   |cons x r=>
    rw[hy,RepAt]at hat;have:=(hI.prot _ _ hat.1.1).2.1;rw[hown]at this;cases this
  ·cases hs
 |bs j W' m=>
  obtain⟨cap',e1,_,hj,_⟩:=rep_bs.1 hr;simp only[rowC]at hs;split at hs
  ·next e2=>
   subst e2;split at hs
   ·next E' l hb'=>
    injection e1 with e1 _ _;injection e1 with e1;injection e1 with e1 _;have h2:=hI.ok hb' rfl;rw[←e1,hown]at h2;injection h2 with h2;by_cases hij:i=j
    ·subst hij;exact hne _ rfl
    ·exact hI.labne hb hb' hl rfl hij h2
   ·cases hs
  ·cases hs
 |_=>simp[rowC]at hs
end
end AX
end
section
open Go.RowKit Go.Lib
theorem cj3(b n c k vb vo vc:Nat)(cs vs:List Value)(w:World)(hk:k<n)(hnc:n≤c)(hroom:c<n+1)(hbig:(n+1)*184≤140737488355328)
  (hcl:cs.length=n*13) (hvl:vs.length=13) (hbw:b<w.heap.size) (hvw:vb<w.heap.size)
  (hcs:∀j v,cs[j]?=some v→w.cell? ⟨b,j,none⟩=some v) (hvs:∀j v,vs[j]?=some v→w.cell? ⟨vb,vo+j,none⟩=some v) (h1c:∀v∈cs,v.oneCell'=true) (h1v:∀v∈vs,v.oneCell'=true):
  Calls Tryz.prog 151 #[.slice (some ⟨b,0,none⟩) n c,.int .i64 k,.slice (some ⟨vb,vo,none⟩) 1 vc] w fun e w'=>
   ∃(G:Nat) (rest:List Value),e=.returned (.slice (some ⟨w.heap.size,0,none⟩) (n+1) G)∧n+1≤G∧G≤maxLen ∧
   w'.heap[w.heap.size]?=some (.cells (cs.take (k*13)++vs++cs.drop (k*13)++rest).toArray 42 (0,0))∧(cs.take (k*13)++vs++cs.drop (k*13)++rest).length=G*13∧Below w.heap.size w w':=by
 obtain⟨i0,hi0,hz0,hzs,hzb⟩:=info_parts (show(Tryz.prog.info? 42).map (fun i=>(i.zero,i.size,i.bytes))=some (some (.agg #[.string ⟨#[]⟩,.string ⟨#[]⟩,.string ⟨#[]⟩,.string ⟨#[]⟩,.int .i64 0,.int .i64 0,.string ⟨#[]⟩,.slice none 0 0,.slice none 0 0,.int .i64 0,.bool false,.bool false,.slice none 0 0]:Value),13,184) by kernel_rfl);have uS:∀w,Sem.run Tryz.prog (underlying 22) w=.ok (TypeDesc.slice 42) w:=run_underlying Tryz.underlying22;have mixed:Tryz.prog.follows .mixedOrders=true:=by kernel_rfl
 have hz1:¬((1:Int)=0):=by omega
 have hz2:¬((k:Int)=(n:Int)):=by omega
 have hz3:(c:Int)<(n:Int)+(1:Int):=by omega
 have hik:k+(n+1-k)=n+1:=by omega
 have hkk:(n:Int)+1-(k:Int)=((n+1-k:Nat):Int):=by omega
 have hold:(Builtin.firstCells i0.size k (.slice (some ⟨b,0,none⟩) k c)).run Tryz.prog w.drew=.ok (cs.take (k*13)).toArray w.drew:=by
  rw[hzs]
  exact run_firstCells_some w.drew 13 k ⟨b,0,none⟩ k c (cs.take (k*13)) (by rw[Zk];omega) (fun j v hj=>by
   rw[Addr.add_lit,Yc];rw[List.getElem?_take]at hj;split at hj
   ·exact hcs j v hj
   ·cases hj)
 have hrz:∀ty,(Builtin.append_ #[22,3] ty #[.slice (some ⟨b,0,none⟩) k c,.int .i64 ((n:Int)+1-(k:Int))]).run Tryz.prog w =
   .ok (.slice (some ⟨w.heap.size,0,none⟩) (n+1) (grownCap w (n+1) c 42)) (w.drew.alloc (.cells ((cs.take (k*13)).toArray++Builtin.zeroCells ((.agg #[.string ⟨#[]⟩,.string ⟨#[]⟩,.string ⟨#[]⟩,.string ⟨#[]⟩,.int .i64 0,.int .i64 0,.string ⟨#[]⟩,.slice none 0 0,.slice none 0 0,.int .i64 0,.bool false,.bool false,.slice none 0 0]:Value):Value).cells (n+1-k)++Builtin.zeroCells ((.agg #[.string ⟨#[]⟩,.string ⟨#[]⟩,.string ⟨#[]⟩,.string ⟨#[]⟩,.int .i64 0,.int .i64 0,.string ⟨#[]⟩,.slice none 0 0,.slice none 0 0,.int .i64 0,.bool false,.bool false,.slice none 0 0]:Value):Value).cells (grownCap w (n+1) c 42-(n+1))) 42)):=fun ty=>by
  have h:=Lib.run_append_grow_zeros w 22 3 ty 42 i0 _ .i64 .i64 Tryz.underlying22 (by kernel_rfl) hi0 hz0 (some ⟨b,0,none⟩) k c (cs.take (k*13)) hold (n+1-k) (by omega) (by omega) (by omega) (by omega) (by rw[hzb];omega) (by rw[hzb,hik];exact growslice_fits hroom hbig);rw[hik]at h;rw[hkk];exact h
 have hGm:=grownCap_le_maxLen w (n+1) c 42 (by unfold maxLen;omega);have hGn:=grownCap_ge w (n+1) c 42;obtain⟨G,hG⟩:∃G,G=grownCap w (n+1) c 42:=⟨_,rfl⟩;rw[←hG]at hrz hGm hGn;obtain⟨ROW,hROW⟩:∃ROW:Array Value,ROW=(cs.take (k*13)).toArray++Builtin.zeroCells ((.agg #[.string ⟨#[]⟩,.string ⟨#[]⟩,.string ⟨#[]⟩,.string ⟨#[]⟩,.int .i64 0,.int .i64 0,.string ⟨#[]⟩,.slice none 0 0,.slice none 0 0,.int .i64 0,.bool false,.bool false,.slice none 0 0]:Value):Value).cells (n+1-k)++Builtin.zeroCells ((.agg #[.string ⟨#[]⟩,.string ⟨#[]⟩,.string ⟨#[]⟩,.string ⟨#[]⟩,.int .i64 0,.int .i64 0,.string ⟨#[]⟩,.slice none 0 0,.slice none 0 0,.int .i64 0,.bool false,.bool false,.slice none 0 0]:Value):Value).cells (G-(n+1)):=⟨_,rfl⟩;rw[←hROW]at hrz;have hzc:((.agg #[.string ⟨#[]⟩,.string ⟨#[]⟩,.string ⟨#[]⟩,.string ⟨#[]⟩,.int .i64 0,.int .i64 0,.string ⟨#[]⟩,.slice none 0 0,.slice none 0 0,.int .i64 0,.bool false,.bool false,.slice none 0 0]:Value):Value).cells.size=13:=rfl;have hRl:ROW.size=G*13:=by
  rw[hROW];simp only[Array.size_append,size_zeroCells,hzc,List.size_toArray,Zk,hcl];have:min (k*13) (n*13)=k*13:=by omega
  omega
 have hRt:ROW.toList.take (k*13)=cs.take (k*13):=by
  rw[hROW];simp only[Array.toList_append,ZK];rw[List.take_append_of_le_length (by simp;omega),Zy (by simp;omega)]
 obtain⟨W1,hW1⟩:∃W1,W1=w.drew.alloc (.cells ROW 42):=⟨_,rfl⟩;rw[←hW1]at hrz;have hg1:W1.heap[w.heap.size]?=some (.cells ROW 42 (0,0)):=by rw[hW1];exact heap_alloc_new w.drew _
 have hOb:∀j v,w.cell? ⟨b,j,none⟩=some v→W1.cell? ⟨b,j,none⟩=some v:=fun j v h=>by rw[hW1,World.cell?_alloc_past (w:=w.drew) _ b j hbw];exact h
 have hOv:∀j v,w.cell? ⟨vb,j,none⟩=some v→W1.cell? ⟨vb,j,none⟩=some v:=fun j v h=>by rw[hW1,World.cell?_alloc_past (w:=w.drew) _ vb j hvw];exact h
 have hB1:Below w.heap.size w W1:=by rw[hW1];exact((Below.refl w.heap.size w).drew).alloc (Zh _) _
 have hmin1:Nat.min 1 (n+1-k)=1:=by simp only[Nat.min_def];split<;>omega
 have hmin2:Nat.min (n-k) (n+1-(k+1))=n-k:=by simp only[Nat.min_def];split<;>omega
 obtain⟨R1,hR1⟩:∃R1:Array Value,R1=(ROW.toList.take (k*13)++vs++ROW.toList.drop (k*13+vs.length)).toArray:=⟨_,rfl⟩;have hR1l:R1.size=G*13:=by
  rw[hR1];simp only[List.size_toArray,Zb,Zk,Zo,Zz];omega
 have hcpA:∀(W:World),W.heap=W1.heap→∀ty dc,(Builtin.copy_ #[22,22] ty #[.slice (some ⟨w.heap.size,k*13,none⟩) (n+1-k) dc,.slice (some ⟨vb,vo,none⟩) 1 vc]).run Tryz.prog W=.ok (goInt 1) (W.setRow w.heap.size R1):=fun W hW ty dc=>by
  have h:=azw (P:=Tryz.prog) W 22 22 ty 42 i0 w.heap.size (k*13) (n+1-k) dc ⟨vb,vo,none⟩ 1 vc ROW 42 vs Tryz.underlying22 hi0 (by rw[hW];exact hg1) (by rw[hmin1,hzs,hvl])
   (fun j v hj=>by rw[Addr.add_lit,show W.cell? ⟨vb,vo+j,none⟩=W1.cell? ⟨vb,vo+j,none⟩ by simp only[World.cell?,hW]];exact hOv _ v (hvs j v hj)) (by omega) h1v
  rw[hmin1,←hR1]at h;exact h
 obtain⟨W2,hW2⟩:∃W2,W2=W1.setRow w.heap.size R1:=⟨_,rfl⟩;have hg2:W2.heap[w.heap.size]?=some (.cells R1 42 (0,0)):=by rw[hW2];exact setRow_heap W1 _ _ _ _ _ hg1
 have hdl:(cs.drop (k*13)).length=(n-k)*13:=by rw[Zo,hcl];omega
 obtain⟨R2,hR2⟩:∃R2:Array Value,R2=(R1.toList.take ((k+1)*13)++cs.drop (k*13)++R1.toList.drop ((k+1)*13+(cs.drop (k*13)).length)).toArray:=⟨_,rfl⟩;have hcpB:∀(W:World),W.heap=W2.heap→∀ty dc sc,(Builtin.copy_ #[22,22] ty #[.slice (some ⟨w.heap.size,(k+1)*13,none⟩) (n+1-(k+1)) dc,.slice (some ⟨b,k*13,none⟩) (n-k) sc]).run Tryz.prog W=.ok (goInt (n-k:Nat)) (W.setRow w.heap.size R2):=fun W hW ty dc sc=>by
  have h:=azw (P:=Tryz.prog) W 22 22 ty 42 i0 w.heap.size ((k+1)*13) (n+1-(k+1)) dc ⟨b,k*13,none⟩ (n-k) sc R1 42 (cs.drop (k*13)) Tryz.underlying22 hi0 (by rw[hW];exact hg2) (by rw[hmin2,hzs,hdl])
   (fun j v hj=>by
    rw[Addr.add_lit,show W.cell? ⟨b,k*13+j,none⟩=W1.cell? ⟨b,k*13+j,none⟩ by
     have:W.heap[b]?=W1.heap[b]?:=by rw[hW,hW2];exact setRow_other W1 _ _ _ (by omega)
     simp only[World.cell?,this]]
    exact hOb _ v (hcs _ v (by rwa [List.getElem?_drop]at hj))) (by omega) (fun v hv=>h1c v (List.mem_of_mem_drop hv))
  rw[hmin2,←hR2]at h;exact h
 have hfin:R2.toList=cs.take (k*13)++vs++cs.drop (k*13)++ROW.toList.drop ((n+1)*13):=by
  have e1:R1.toList.take ((k+1)*13)=cs.take (k*13)++vs:=by
   rw[hR1];simp only[List.toList_toArray];rw[List.take_append_of_le_length (by simp only[Zb,Zk,Zz];omega),Zy (by simp only[Zb,Zk,Zz];omega),hRt]
  have e2:R1.toList.drop ((k+1)*13+(cs.drop (k*13)).length)=ROW.toList.drop ((n+1)*13):=by
   rw[hR1,hdl];simp only[List.toList_toArray];rw[List.drop_append,Zt (by simp only[Zb,Zk,Zz];omega),Zg,YI];congr 1;simp only[Zb,Zk,Zz];omega
  rw[hR2,List.toList_toArray,e1,e2]
 have hw1 : IntKind.i64.wrap ((k : Int) + 1) = (k : Int) + 1 := by rw [IntKind.wrap_i64]; have : c ≤ 9000000000000000000 := by omega
                                                                   omega
 have hb1:(0:Int)≤(k:Int)+1:=by omega
 have hin:k≤n:=by omega
 have htn:((k:Int)+1).toNat=k+1:=by omega
 have hb3:(k:Int)≤(n:Int):=by omega
 have hGk:¬(G=k):=by omega
 have hGk1:¬(G=k+1):=by omega
 have hck:¬(c=k):=by omega
 have hK1:=kept hfin;have hK2:=kept hRl;have hK3:=kept hg2;have hK4:=kept hB1;have hK5:=kept hW2;have hK6:=kept hW1;clear hkk hik hold hROW hG hRl hfin hg1 hg2 hR1 hR2 hRt hB1 hOb hOv hcs hvs h1c h1v hR1l hdl;have hE1:((w.alloc (.cells ROW 42)).drew).heap=W1.heap:=by rw[hK6.out];rfl
 have hE1':W1.heap=W1.heap:=rfl;go_enter Tryz.func151,Tryz.ntmps151
 go_wp2_with (first
  |(at_builtin;refine Lib.wpList_append_run _ rfl _ _ _ _ rfl _ _ rfl rfl _ _ (hrz _) ?_)
  |(at_builtin;refine aqb _ rfl _ _ 22 22 rfl _ _ rfl rfl (hcpA _ (by first|rfl|exact hE1) _ _) ?_)
  |(at_builtin;refine aqb _ rfl _ _ 22 22 rfl _ _ rfl rfl (hcpB _ (by first|rfl|exact hE1) _ _ _) ?_))
 have hE2:((w.alloc (.cells ROW 42)).drew.setRow w.heap.size R1).heap=W2.heap:=by rw[hK5.out,hK6.out];rfl
 have hB2:Below w.heap.size w ((w.alloc (.cells ROW 42)).drew.setRow w.heap.size R1).drew:=(aj9 (((Below.refl w.heap.size w).alloc (Zh _) _).drew) (Zh _) _).drew
 go_region_law_o (refine ajd rfl _ _ 22 22 rfl (.slice (some ⟨w.heap.size,(k+1)*13,none⟩) (n+1-(k+1)) (G-(k+1))) (.slice (some ⟨b,k*13,none⟩) (n-k) (c-k)) (by simp[Act.eval,Act.put]) (by simp[Act.eval,Act.put]) (hcpB _ (by first|exact hE2|rfl) _ _ _) ?_)
 go_wp2
 go_ret
 have hfin:=hK1.out;have hg3:((w.alloc (.cells ROW 42)).drew.setRow w.heap.size R1).drew.heap[w.heap.size]?=some (.cells R1 42 (0,0)):=by
  show((w.alloc (.cells ROW 42)).drew.setRow w.heap.size R1).heap[w.heap.size]?=_
  rw[hE2];exact hK3.out
 refine⟨G,ROW.toList.drop ((n+1)*13),rfl,hGn,hGm,?_,?_,aj9 hB2 (Zh _) _⟩
 ·rw[setRow_heap _ _ _ _ _ _ hg3,←hfin,Array.toArray_toList]
 ·have hr:=hK2.out;simp only[Zb,Zk,Zo,Zz,hcl,hvl];omega
theorem cxl(b n c k vb vo vc:Nat)(cur cs vs:List Value)(curA:Array Value)(tA:TypeId)(fr:Nat×Nat)(w:World)(hk:k<n)(hroom:n+1≤c)(hcm:c≤maxLen)
  (hg:w.heap[b]?=some (.cells cur.toArray 42 (0,0))) (hcap:c*13≤cur.length) (hcs:cs=cur.take (n*13)) (hvl:vs.length=13) (hne:vb≠b) (hA:w.heap[vb]?=some (.cells curA tA fr)) (hA0:curA.size≠0)
  (hvs:∀j v,vs[j]?=some v→w.cell? ⟨vb,vo+j,none⟩=some v) (h1c:∀v∈cs,v.oneCell'=true) (h1v:∀v∈vs,v.oneCell'=true):
  Calls Tryz.prog 151 #[.slice (some ⟨b,0,none⟩) n c,.int .i64 k,.slice (some ⟨vb,vo,none⟩) 1 vc] w fun e w'=>
   ∃rest:List Value,e=.returned (.slice (some ⟨b,0,none⟩) (n+1) c) ∧
   w'.heap[b]?=some (.cells (cs.take (k*13)++vs++cs.drop (k*13)++rest).toArray 42 (0,0))∧(cs.take (k*13)++vs++cs.drop (k*13)++rest).length=cur.length∧w.grownBy w' (some b):=by
 obtain⟨i0,hi0,hz0,hzs,hzb⟩:=info_parts (show(Tryz.prog.info? 42).map (fun i=>(i.zero,i.size,i.bytes))=some (some (.agg #[.string ⟨#[]⟩,.string ⟨#[]⟩,.string ⟨#[]⟩,.string ⟨#[]⟩,.int .i64 0,.int .i64 0,.string ⟨#[]⟩,.slice none 0 0,.slice none 0 0,.int .i64 0,.bool false,.bool false,.slice none 0 0]:Value),13,184) by kernel_rfl);have uS:∀w,Sem.run Tryz.prog (underlying 22) w=.ok (TypeDesc.slice 42) w:=run_underlying Tryz.underlying22;have mixed:Tryz.prog.follows .mixedOrders=true:=by kernel_rfl
 have hz1:¬((1:Int)=0):=by omega
 have hz2:¬((k:Int)=(n:Int)):=by omega
 have hz3:¬((c:Int)<(n:Int)+(1:Int)):=by omega
 have hcl:cs.length=n*13:=by rw[hcs,Zk];omega
 have hcsC:∀j v,cs[j]?=some v→w.cell? ⟨b,j,none⟩=some v:=fun j v hj=>by
  rw[hcs,List.getElem?_take]at hj;split at hj
  ·simp[World.cell?,hg,hj]
  ·cases hj
 have hov:∀lb cb,(callFunc 182 #[.slice (some ⟨vb,vo,none⟩) 1 vc,.slice (some ⟨b,(k+1)*13,none⟩) lb cb]).run Tryz.prog w=.ok (.value (.bool false)) w:=fun lb cb=>by
  rw[run_callFunc_extern Tryz.func182 (by kernel_rfl) (by kernel_rfl) (by kernel_rfl) (e:=Extern.SlicesOverlaps.overlaps #[22,22] #[4]) (by kernel_rfl),
   avn w 22 4 42 Tryz.underlying22 13 (by intro w;simp[sizeOf,typeInfo,hi0,hzs]) ⟨vb,vo,none⟩ ⟨b,(k+1)*13,none⟩ 1 vc lb cb hne hA hA0 hg]
  rfl
 have hmin1:Nat.min (n+1-k) (n-k)=n-k:=by simp only[Nat.min_def];split<;>omega
 have hmin2:Nat.min 1 (n+1-k)=1:=by simp only[Nat.min_def];split<;>omega
 have hdl:(cs.drop (k*13)).length=(n-k)*13:=by rw[Zo,hcl];omega
 obtain⟨R1,hR1⟩:∃R1:Array Value,R1=(cur.take ((k+1)*13)++cs.drop (k*13)++cur.drop ((k+1)*13+(cs.drop (k*13)).length)).toArray:=⟨_,rfl⟩;have hR1l:R1.size=cur.length:=by rw[hR1];simp only[List.size_toArray,Zb,Zk,Zo,hdl];omega
 have hcpA:∀ty dc sc,(Builtin.copy_ #[22,22] ty #[.slice (some ⟨b,(k+1)*13,none⟩) (n-k) dc,.slice (some ⟨b,k*13,none⟩) (n+1-k) sc]).run Tryz.prog w.drew=.ok (goInt (n-k:Nat)) (w.drew.setRow b R1):=fun ty dc sc=>by
  have h:=azw (P:=Tryz.prog) w.drew 22 22 ty 42 i0 b ((k+1)*13) (n-k) dc ⟨b,k*13,none⟩ (n+1-k) sc cur.toArray 42 (cs.drop (k*13)) Tryz.underlying22 hi0 hg (by rw[hmin1,hzs,hdl])
   (fun j v hj=>by rw[Addr.add_lit];exact hcsC _ v (by rwa [List.getElem?_drop]at hj)) (by simp only[List.size_toArray];omega) (fun v hv=>h1c v (List.mem_of_mem_drop hv))
  rw[hmin1,List.toList_toArray,←hR1]at h;exact h
 obtain⟨W1,hW1⟩:∃W1,W1=w.drew.setRow b R1:=⟨_,rfl⟩;rw[←hW1]at hcpA;have hg1:W1.heap[b]?=some (.cells R1 42 (0,0)):=by rw[hW1];exact setRow_heap w.drew _ _ _ _ _ hg
 obtain⟨R2,hR2⟩:∃R2:Array Value,R2=(R1.toList.take (k*13)++vs++R1.toList.drop (k*13+vs.length)).toArray:=⟨_,rfl⟩;have hcpB:∀(W:World),W.heap=W1.heap→∀ty dc,(Builtin.copy_ #[22,22] ty #[.slice (some ⟨b,k*13,none⟩) (n+1-k) dc,.slice (some ⟨vb,vo,none⟩) 1 vc]).run Tryz.prog W=.ok (goInt 1) (W.setRow b R2):=fun W hW ty dc=>by
  have h:=azw (P:=Tryz.prog) W 22 22 ty 42 i0 b (k*13) (n+1-k) dc ⟨vb,vo,none⟩ 1 vc R1 42 vs Tryz.underlying22 hi0 (by rw[hW];exact hg1) (by rw[hmin2,hzs,hvl])
   (fun j v hj=>by
    rw[Addr.add_lit,show W.cell? ⟨vb,vo+j,none⟩=w.cell? ⟨vb,vo+j,none⟩ by
     have:W.heap[vb]?=w.heap[vb]?:=by rw[hW,hW1];exact setRow_other w.drew _ _ _ hne
     simp only[World.cell?,this]]
    exact hvs j v hj) (by omega) h1v
  rw[hmin2,←hR2]at h;exact h
 have hfin:R2.toList=cs.take (k*13)++vs++cs.drop (k*13)++cur.drop ((n+1)*13):=by
  have e1:R1.toList.take (k*13)=cs.take (k*13):=by
   rw[hR1,List.toList_toArray,ZK,List.take_append_of_le_length (by rw[Zk];omega),List.take_take,hcs,List.take_take];congr 1;omega
  have e2:R1.toList.drop (k*13+vs.length)=cs.drop (k*13)++cur.drop ((n+1)*13):=by
   have hl:(cur.take ((k+1)*13)).length=k*13+vs.length:=by rw[Zk,hvl];omega
   rw[hR1,List.toList_toArray,ZK,←hl,List.drop_left,hdl];congr 2;omega
  rw[hR2,List.toList_toArray,e1,e2];simp only[ZK]
 have hw1:IntKind.i64.wrap ((k:Int)+1)=(k:Int)+1:=by rw[IntKind.wrap_i64];unfold maxLen at hcm;omega
 have hw2:IntKind.i64.wrap ((n:Int)+1)=(n:Int)+1:=by rw[IntKind.wrap_i64];unfold maxLen at hcm;omega
 have hb1:(0:Int)≤(k:Int)+1:=by omega
 have hb2:(0:Int)≤(n:Int)+1:=by omega
 have hin:k≤n:=by omega
 have htn:((k:Int)+1).toNat=k+1:=by omega
 have htn2:((n:Int)+1).toNat=n+1:=by omega
 have hb3:(k:Int)≤(n:Int):=by omega
 have hb4:(k:Int)≤(n:Int)+1:=by omega
 have hck:¬(c=k):=by omega
 have hck1:¬(c=k+1):=by omega
 have hK1:=kept hfin;have hK3:=kept hg;have hK5:=kept hW1;have hK6:=kept hR1l;have hK7:=kept hcap;clear hfin hg hg1 hR1 hR2 hcs hvs h1c h1v hR1l hdl hcsC hcap hA;go_enter Tryz.func151,Tryz.ntmps151;go_wp2_with (simp only[hov])
 go_region_law_o (refine ajd rfl _ _ 22 22 rfl _ _ (by simp[Act.eval,Act.put]) (by simp[Act.eval,Act.put]) (hcpA _ _ _) ?_)
 go_wp2_with (at_builtin;refine aqb _ rfl _ _ 22 22 rfl _ _ rfl rfl (hcpB _ rfl _ _) ?_)
 go_ret
 have hfin:=hK1.out;have hg3:W1.heap[b]?=some (.cells R1 42 (0,0)):=by rw[hK5.out];exact setRow_heap w.drew _ _ _ _ _ hK3.out
 have hgr:w.grownBy W1 (some b):=by
  rw[hK5.out];exact⟨rfl,rfl,rfl,by simp,fun j _ hj=>setRow_other w.drew _ j _ fun e=>hj (by rw[e])⟩
 rw[←hK5.out];refine⟨cur.drop ((n+1)*13),rfl,?_,?_,⟨hgr.os,hgr.tape,hgr.output,by simpa using hgr.size,fun j h1 hj=>(setRow_other W1 _ j _ fun e=>hj (by rw[e])).trans (hgr.block j h1 hj)⟩⟩
 ·rw[setRow_heap _ _ _ _ _ _ hg3,←hfin,Array.toArray_toList]
 ·have hc:=hK7.out;simp only[Zb,Zk,Zo,hcl,hvl];have:=Z6 13 hroom;omega
theorem delI(b n c k:Nat)(cur cs:List Value)(w:World)(hk:k<n)(hnc:n≤c)(hcm:c≤maxLen)
  (hg:w.heap[b]?=some (.cells cur.toArray 42 (0,0))) (hcap:c*13≤cur.length) (hcs:cs=cur.take (n*13)) (h1c:∀v∈cs,v.oneCell'=true):
  Calls Tryz.prog 119 #[.slice (some ⟨b,0,none⟩) n c,.int .i64 k,.int .i64 ((k:Int)+1)] w fun e w'=>
   ∃rest:List Value,e=.returned (.slice (some ⟨b,0,none⟩) (n-1) c) ∧
   w'.heap[b]?=some (.cells (cs.take (k*13)++cs.drop ((k+1)*13)++rest).toArray 42 (0,0))∧(cs.take (k*13)++cs.drop ((k+1)*13)++rest).length=cur.length∧w.grownBy w' (some b):=by
 obtain⟨i0,hi0,hz0,hzs,hzb⟩:=info_parts (show(Tryz.prog.info? 42).map (fun i=>(i.zero,i.size,i.bytes))=some (some (.agg #[.string ⟨#[]⟩,.string ⟨#[]⟩,.string ⟨#[]⟩,.string ⟨#[]⟩,.int .i64 0,.int .i64 0,.string ⟨#[]⟩,.slice none 0 0,.slice none 0 0,.int .i64 0,.bool false,.bool false,.slice none 0 0]:Value),13,184) by kernel_rfl);have mixed:Tryz.prog.follows .mixedOrders=true:=by kernel_rfl
 have uS:∀w,Sem.run Tryz.prog (underlying 22) w=.ok (TypeDesc.slice 42) w:=run_underlying Tryz.underlying22;have hcl:cs.length=n*13:=by rw[hcs,Zk];omega
 have hcsC:∀j v,cs[j]?=some v→w.cell? ⟨b,j,none⟩=some v:=fun j v hj=>by
  rw[hcs,List.getElem?_take]at hj;split at hj
  ·simp[World.cell?,hg,hj]
  ·cases hj
 have hz1:¬((k:Int)=(k:Int)+1):=by omega
 have hdl:(cs.drop ((k+1)*13)).length=(n-(k+1))*13:=by rw[Zo,hcl];omega
 obtain⟨R1,hR1⟩:∃R1:Array Value,R1=(cur.take (k*13)++cs.drop ((k+1)*13)++cur.drop (k*13+(cs.drop ((k+1)*13)).length)).toArray:=⟨_,rfl⟩;have hR1l:R1.size=cur.length:=by rw[hR1];simp only[List.size_toArray,Zb,Zk,Zo,hdl];omega
 have hap:∀(W:World),W.heap=w.heap→∀ty (ad:Addr) c2,(n-(k+1)=0∨ad=⟨b,(k+1)*13,none⟩)→(Builtin.append_ #[22,22] ty #[.slice (some ⟨b,0,none⟩) k c,.slice (some ad) (n-(k+1)) c2]).run Tryz.prog W=.ok (.slice (some ⟨b,0,none⟩) (n-1) c) (W.setRow b R1):=fun W hW ty ad c2 had=>by
  have h:=run_append_room (P:=Tryz.prog) W 22 ty 42 i0 Tryz.underlying22 hi0 b k c cur.toArray (by rw[hW];exact hg) ad (n-(k+1)) c2 (cs.drop ((k+1)*13)) (by rw[hzs];exact hdl)
   (fun j u hj=>by
    rcases had with h0|rfl
    ·have:(cs.drop ((k+1)*13)).length=0:=by rw[hdl,h0,Nat.zero_mul]
     rw[ZS this]at hj;simp at hj
    ·rw[Addr.add_lit,show W.cell? ⟨b,(k+1)*13+j,none⟩=w.cell? ⟨b,(k+1)*13+j,none⟩ by simp only[World.cell?,hW]]
     exact hcsC _ u (by rwa [List.getElem?_drop]at hj))
   (fun v hv=>h1c v (List.mem_of_mem_drop hv)) (by omega) (by rw[hzs,hdl];simp only[List.size_toArray];omega)
  rw[hzs,List.toList_toArray,←hR1,show k+(n-(k+1))=n-1 by omega]at h;exact h
 obtain⟨W1,hW1⟩:∃W1,W1=w.setRow b R1:=⟨_,rfl⟩;have hg1:W1.heap[b]?=some (.cells R1 42 (0,0)):=by rw[hW1];exact setRow_heap w _ _ _ _ _ hg
 have hzv:∀w,(zeroValue 42).run Tryz.prog w=.ok ((.agg #[.string ⟨#[]⟩,.string ⟨#[]⟩,.string ⟨#[]⟩,.string ⟨#[]⟩,.int .i64 0,.int .i64 0,.string ⟨#[]⟩,.slice none 0 0,.slice none 0 0,.int .i64 0,.bool false,.bool false,.slice none 0 0]:Value)) w:=by intro w;simp[zeroValue,typeInfo,hi0,hz0]
 have hcK:(n-1)*13+1*13≤R1.size:=by
  rw[hR1l];have:=Z6 13 hnc;omega
 obtain⟨Z,hZ⟩:∃Z:List Value,Z=(Builtin.zeroCells ((.agg #[.string ⟨#[]⟩,.string ⟨#[]⟩,.string ⟨#[]⟩,.string ⟨#[]⟩,.int .i64 0,.int .i64 0,.string ⟨#[]⟩,.slice none 0 0,.slice none 0 0,.int .i64 0,.bool false,.bool false,.slice none 0 0]:Value)).cells 1).toList:=⟨_,rfl⟩;have hZl:Z.length=13:=by rw[hZ];simp[size_zeroCells,Value.cells]
 obtain⟨R2,hR2⟩:∃R2:Array Value,R2=(R1.toList.take ((n-1)*13)++Z++R1.toList.drop ((n-1)*13+Z.length)).toArray:=⟨_,rfl⟩;have hcr:∀(W:World),W.heap=W1.heap→∀ty c2,(Builtin.clear_ #[22] ty #[.slice (some ⟨b,(n-1)*13,none⟩) 1 c2]).run Tryz.prog W=.ok (.tuple #[]) (W.setRow b R2):=fun W hW ty c2=>by
  rw[hR2,hZ];exact ajk W 22 42 ty ((.agg #[.string ⟨#[]⟩,.string ⟨#[]⟩,.string ⟨#[]⟩,.string ⟨#[]⟩,.int .i64 0,.int .i64 0,.string ⟨#[]⟩,.slice none 0 0,.slice none 0 0,.int .i64 0,.bool false,.bool false,.slice none 0 0]:Value)) b ((n-1)*13) 1 c2 13 R1 42 Tryz.underlying22 hzv rfl (by decide) (by rw[hW];exact hg1) hcK (by decide)
 have hfin:R2.toList=cs.take (k*13)++cs.drop ((k+1)*13)++(Z++R1.toList.drop ((n-1)*13+Z.length)):=by
  have e1:R1.toList.take ((n-1)*13)=cs.take (k*13)++cs.drop ((k+1)*13):=by
   have h1:cur.take (k*13)=cs.take (k*13):=by rw[hcs,List.take_take];congr 1;omega
   rw[hR1,List.toList_toArray,List.take_append_of_le_length (by rw[Zb,Zk,hdl];omega),Zy (by rw[Zb,Zk,hdl];omega),h1]
  rw[hR2,List.toList_toArray,e1,ZK]
 have hw1:IntKind.i64.wrap ((n:Int)-1)=(n:Int)-1:=by rw[IntKind.wrap_i64];unfold maxLen at hcm;omega
 have hb1:(0:Int)≤(k:Int)+1:=by omega
 have hb2:(k:Int)≤(k:Int)+1:=by omega
 have hb3:(k:Int)+1≤(n:Int):=by omega
 have hb4:(k:Int)≤(n:Int):=by omega
 have hb5:(n:Int)≤(c:Int):=by omega
 have htn:((k:Int)+1).toNat=k+1:=by omega
 have hck:¬(c=k):=by omega
 obtain⟨A,hA,had⟩:∃A:Addr,(if c=k+1 then(some ⟨b,0,none⟩:Option Addr)else some ⟨b,(k+1)*13,none⟩)=some A∧(n-(k+1)=0∨A=⟨b,(k+1)*13,none⟩):=by
  by_cases h:c=k+1
  ·exact⟨_,if_pos h,.inl (by omega)⟩
  ·exact⟨_,if_neg h,.inr rfl⟩
 have hcn:¬(c=n-1):=by omega
 have hkc:k≤c:=by omega
 have hn1:n-(n-1)=1:=by omega
 have hn2:((n-1:Nat):Int)≤(n:Int):=by omega
 have hK0:=kept hfin;have hK1:=kept hcK;have hK2:=kept hg;have hK3:=kept hR1;have hK4:=kept hW1;have hK5:=kept hg1;have hK6:=kept hcs;have hK7:=kept hR1l;clear hfin hcK hg hR1 hcs h1c hR1l hdl hcsC hcap hg1 hZ hR2;go_enter Tryz.func119,Tryz.ntmps119;go_wp2_with fail
 go_region_law_o (refine akj rfl _ _ 22 22 rfl (.slice (some ⟨b,0,none⟩) k c) (.slice (some A) (n-(k+1)) (c-(k+1))) (by simp[Act.eval,Act.put]) (by simp[Act.eval,Act.put]) (hap w.drew rfl _ _ _ had) ?_)
 go_wp2;rw[hcr (w.drew.setRow b R1) (by rw[hK4.out];rfl)];go_wp2
 go_ret
 have hg3:(w.drew.setRow b R1).heap[b]?=some (.cells R1 42 (0,0)):=setRow_heap w.drew _ _ _ _ _ hK2.out;refine⟨Z++R1.toList.drop ((n-1)*13+Z.length),rfl,?_,?_,⟨rfl,rfl,rfl,by simp,fun j _ hj=>(setRow_other _ _ j _ fun e=>hj (by rw[e])).trans (setRow_other w.drew _ j _ fun e=>hj (by rw[e]))⟩⟩
 ·rw[setRow_heap _ _ _ _ _ _ hg3,←hK0.out,Array.toArray_toList]
 ·have h1:=hK1.out;have h7:=hK7.out;simp only[Zb,Zk,Zo,Zz,hcl,hZl];omega
theorem dzl(b n c vb vo vc:Nat)(cur cs vs:List Value)(w:World)(hnc:n≤c)(hcm:c≤maxLen)(hn1:n+1≤maxLen)(hbig:(n+1)*184≤140737488355328)
  (hg:w.heap[b]?=some (.cells cur.toArray 42 (0,0))) (hcap:c*13≤cur.length) (hcs:cs=cur.take (n*13)) (hvl:vs.length=13)
  (hvs:∀j v,vs[j]?=some v→w.cell? ⟨vb,vo+j,none⟩=some v) (h1v:∀v∈vs,v.oneCell'=true):
  Calls Tryz.prog 151 #[.slice (some ⟨b,0,none⟩) n c,.int .i64 n,.slice (some ⟨vb,vo,none⟩) 1 vc] w fun e w'=>
   (∃rest:List Value,n+1≤c∧e=.returned (.slice (some ⟨b,0,none⟩) (n+1) c)∧w'.heap[b]?=some (.cells (cs++vs++rest).toArray 42 (0,0))∧(cs++vs++rest).length=cur.length∧w.grownBy w' (some b)) ∨
   ∃(G:Nat) (rest:List Value),e=.returned (.slice (some ⟨w.heap.size,0,none⟩) (n+1) G)∧n+1≤G∧G≤maxLen∧w'.heap[w.heap.size]?=some (.cells (cs++vs++rest).toArray 42 (0,0))∧(cs++vs++rest).length=G*13∧Below w.heap.size w w':=by
 obtain⟨i0,hi0,hz0,hzs,hzb⟩:=info_parts (show(Tryz.prog.info? 42).map (fun i=>(i.zero,i.size,i.bytes))=some (some (.agg #[.string ⟨#[]⟩,.string ⟨#[]⟩,.string ⟨#[]⟩,.string ⟨#[]⟩,.int .i64 0,.int .i64 0,.string ⟨#[]⟩,.slice none 0 0,.slice none 0 0,.int .i64 0,.bool false,.bool false,.slice none 0 0]:Value),13,184) by kernel_rfl);have uS:∀w,Sem.run Tryz.prog (underlying 22) w=.ok (TypeDesc.slice 42) w:=run_underlying Tryz.underlying22;have mixed:Tryz.prog.follows .mixedOrders=true:=by kernel_rfl
 have hz1:¬((1:Int)=0):=by omega
 have hcl:cs.length=n*13:=by rw[hcs,Zk];have:=Z6 13 hnc;omega
 have hvs':∀j v,vs[j]?=some v→w.cell? ((⟨vb,vo,none⟩:Addr).add j)=some v:=fun j v hj=>by rw[Addr.add_lit];exact hvs j v hj
 by_cases hroom:n+1≤c
 ·have hk:=Z6 13 hroom;have hrun:∀ty,(Builtin.append_ #[22,22] ty #[.slice (some ⟨b,0,none⟩) n c,.slice (some ⟨vb,vo,none⟩) 1 vc]).run Tryz.prog w=.ok (.slice (some ⟨b,0,none⟩) (n+1) c) (w.setRow b (cs++vs++cur.drop (n*13+13)).toArray):=fun ty=>by
   have h:=run_append_room (P:=Tryz.prog) w 22 ty 42 i0 Tryz.underlying22 hi0 b n c cur.toArray hg ⟨vb,vo,none⟩ 1 vc vs (by rw[hzs,hvl]) hvs' h1v hroom (by rw[hzs,hvl];simp only[List.size_toArray];omega);rw[hzs,List.toList_toArray,hvl,←hcs]at h;exact h
  have hKg:=kept hg;have hKc:=kept hcap;clear hg hvs hvs' h1v hcs hcap;go_enter Tryz.func151,Tryz.ntmps151;go_wp2_with (at_builtin;refine Lib.wpList_append_run _ rfl _ _ _ _ rfl _ _ rfl rfl _ _ (hrun _) ?_);all_goals (go_ret;refine .inl ⟨cur.drop (n*13+13),hroom,rfl,by rw[ZK];exact setRow_heap _ _ _ _ _ _ hKg.out,?_,⟨rfl,rfl,rfl,by simp,fun j _ hj=>setRow_other _ _ j _ fun e=>hj (by rw[e])⟩⟩;have:=hKc.out;simp only[Zb,Zo,hcl,hvl];omega)
 ·have hrun:∀ty,(Builtin.append_ #[22,22] ty #[.slice (some ⟨b,0,none⟩) n c,.slice (some ⟨vb,vo,none⟩) 1 vc]).run Tryz.prog w=_:=fun ty=>
   run_append_grow (P:=Tryz.prog) w 22 ty 42 i0 _ Tryz.underlying22 hi0 hz0 ⟨b,0,none⟩ n c cs (by rw[hzs,hcl]) (fun j v hj=>by
    rw[Addr.add_lit,Yc];rw[hcs,List.getElem?_take]at hj;split at hj
    ·simp[World.cell?,hg,hj]
    ·cases hj) ⟨vb,vo,none⟩ 1 vc vs (by rw[hzs,hvl]) hvs' (by omega) (by unfold maxLen at hn1;omega) (by rw[hzb];exact growslice_fits (by omega) hbig)
  have hGm:=grownCap_le_maxLen w (n+1) c 42 hn1;have hGn:=grownCap_ge w (n+1) c 42;obtain⟨G,hG⟩:∃G,G=grownCap w (n+1) c 42:=⟨_,rfl⟩;rw[←hG]at hrun hGm hGn;obtain⟨X,hX⟩:∃X,X=(Builtin.zeroCells ((.agg #[.string ⟨#[]⟩,.string ⟨#[]⟩,.string ⟨#[]⟩,.string ⟨#[]⟩,.int .i64 0,.int .i64 0,.string ⟨#[]⟩,.slice none 0 0,.slice none 0 0,.int .i64 0,.bool false,.bool false,.slice none 0 0]:Value)).cells (G-(n+1))).toList:=⟨_,rfl⟩;have hrow:cs.toArray++vs.toArray++Builtin.zeroCells ((.agg #[.string ⟨#[]⟩,.string ⟨#[]⟩,.string ⟨#[]⟩,.string ⟨#[]⟩,.int .i64 0,.int .i64 0,.string ⟨#[]⟩,.slice none 0 0,.slice none 0 0,.int .i64 0,.bool false,.bool false,.slice none 0 0]:Value)).cells (G-(n+1))=(cs++vs++X).toArray:=by rw[hX];apply ZR.1;simp
  have hXl:X.length=(G-(n+1))*13:=by rw[hX,Zz,size_zeroCells];rfl
  simp only[hrow]at hrun;have hKx:=kept hXl;clear hg hvs hvs' h1v hcs hcap hX hrow hXl hG;go_enter Tryz.func151,Tryz.ntmps151;go_wp2_with (at_builtin;refine Lib.wpList_append_run _ rfl _ _ _ _ rfl _ _ rfl rfl _ _ (hrun _) ?_);all_goals (go_ret;refine .inr ⟨G,X,rfl,hGn,hGm,by rw[ZK];exact heap_alloc_new w.drew _,?_,((Below.refl w.heap.size w).drew).alloc (Zh _) _⟩;rw[Zb,Zb,hcl,hvl,hKx.out];omega)
theorem cyx(vb vo vc:Nat)(vs:List Value)(w:World)(hvl:vs.length=13)
  (hvs:∀j v,vs[j]?=some v→w.cell? ⟨vb,vo+j,none⟩=some v):
  Calls Tryz.prog 151 #[.slice none 0 0,.int .i64 0,.slice (some ⟨vb,vo,none⟩) 1 vc] w fun e w'=>
   ∃(G:Nat) (rest:List Value),e=.returned (.slice (some ⟨w.heap.size,0,none⟩) 1 G)∧1≤G∧G≤maxLen∧w'.heap[w.heap.size]?=some (.cells (vs++rest).toArray 42 (0,0))∧(vs++rest).length=G*13∧Below w.heap.size w w':=by
 obtain⟨i0,hi0,hz0,hzs,hzb⟩:=info_parts (show(Tryz.prog.info? 42).map (fun i=>(i.zero,i.size,i.bytes))=some (some (.agg #[.string ⟨#[]⟩,.string ⟨#[]⟩,.string ⟨#[]⟩,.string ⟨#[]⟩,.int .i64 0,.int .i64 0,.string ⟨#[]⟩,.slice none 0 0,.slice none 0 0,.int .i64 0,.bool false,.bool false,.slice none 0 0]:Value),13,184) by kernel_rfl);have uS:∀w,Sem.run Tryz.prog (underlying 22) w=.ok (TypeDesc.slice 42) w:=run_underlying Tryz.underlying22;have mixed:Tryz.prog.follows .mixedOrders=true:=by kernel_rfl
 have hz1:¬((1:Int)=0):=by omega
 have hrun:∀ty,(Builtin.append_ #[22,22] ty #[.slice none 0 0,.slice (some ⟨vb,vo,none⟩) 1 vc]).run Tryz.prog w=_:=fun ty=>
  run_append_nil (P:=Tryz.prog) w 22 ty 42 i0 _ Tryz.underlying22 hi0 hz0 ⟨vb,vo,none⟩ 1 vc vs (by rw[hzs,hvl]) (fun j v hj=>by rw[Addr.add_lit];exact hvs j v hj) (by omega) (by omega) (by rw[hzb];omega)
 have hGm:=grownCap_le_maxLen w 1 0 42 (by unfold maxLen;omega);have hGn:=grownCap_ge w 1 0 42;obtain⟨G,hG⟩:∃G,G=grownCap w 1 0 42:=⟨_,rfl⟩;rw[←hG]at hrun hGm hGn;obtain⟨X,hX⟩:∃X,X=(Builtin.zeroCells ((.agg #[.string ⟨#[]⟩,.string ⟨#[]⟩,.string ⟨#[]⟩,.string ⟨#[]⟩,.int .i64 0,.int .i64 0,.string ⟨#[]⟩,.slice none 0 0,.slice none 0 0,.int .i64 0,.bool false,.bool false,.slice none 0 0]:Value)).cells (G-1)).toList:=⟨_,rfl⟩;have hrow:vs.toArray++Builtin.zeroCells ((.agg #[.string ⟨#[]⟩,.string ⟨#[]⟩,.string ⟨#[]⟩,.string ⟨#[]⟩,.int .i64 0,.int .i64 0,.string ⟨#[]⟩,.slice none 0 0,.slice none 0 0,.int .i64 0,.bool false,.bool false,.slice none 0 0]:Value)).cells (G-1)=(vs++X).toArray:=by rw[hX];apply ZR.1;simp
 have hXl:X.length=(G-1)*13:=by rw[hX,Zz,size_zeroCells];rfl
 simp only[hrow]at hrun;have hKx:=kept hXl;clear hvs hX hrow hXl hG;go_enter Tryz.func151,Tryz.ntmps151;go_wp2_with (at_builtin;refine Lib.wpList_append_run _ rfl _ _ _ _ rfl _ _ rfl rfl _ _ (hrun _) ?_);all_goals (go_ret;refine⟨G,X,rfl,hGn,hGm,heap_alloc_new w.drew _,?_,((Below.refl w.heap.size w).drew).alloc (Zh _) _⟩;rw[Zb,hvl,hKx.out];omega)
namespace AX
theorem dvx{Gw:World→Prop}{h:Hp}{i n k:Nat}{l x:List A}{V:A}(hb:h.b[i]?=some (.row 42 l))(hl:l.length=n*13)(hk:k≤n)(hV:rowC h 42 13 V=some (1,x))(hne:∀m,V≠.bs i 13 m)(hn:n+1≤1000000)(h1:l.all A.one=true):
  ACall Tryz.prog Gw 151 [.bs i 13 n,.int .i64 k,V] h fun v h'=>v=.bs h.b.length 13 (n+1)∧h'=⟨h.b.set i .gone++[.row 42 (l.take (k*13)++x++l.drop (k*13))],h.t⟩:=by
 intro C es hI ha;obtain⟨c0,es1,rfl,r0,ha⟩:=repL_cons.1 ha;obtain⟨c1,es2,rfl,r1,ha⟩:=repL_cons.1 ha;obtain⟨c2,es3,rfl,r2,ha⟩:=repL_cons.1 ha;rw[repL_nil]at ha;subst ha;obtain⟨cap,rfl,hcap,hilt,hcm,hkap⟩:=rep_bs.1 r0;rw[rep_int]at r1;subst r1;obtain⟨g,off,capv,vs,rfl,v1,v2,v3,v4⟩:=axx hI r2 hV (by decide);obtain⟨cs,rest,q1,q2,q3⟩:=hI.box i _ hb;have hcl:cs.length=n*13:=(azk q2).trans hl;have hap:=bqd hI (by decide) r2 hV hb rfl hne;have hcsC:∀j v,cs[j]?=some v→C.w.cell? ⟨C.κ i,j,none⟩=some v:=fun j v hj=>by
  rw[cell_of_row _ _ _ _ _ _ q1];simp only[List.getElem?_toArray];rw[ZB (Ze.1 hj).1];exact hj
 have hvsC:∀j v,vs[j]?=some v→C.w.cell? ⟨g,off+j,none⟩=some v:=fun j v hj=>by
  have:=v4 j v hj
  rwa [Addr.add_lit]at this
 have hvl:vs.length=13:=by rw[v2]
 obtain⟨curA,tA,fr,hA,hA0⟩:=bqn (hvsC 0 _ (Zm (by omega)));have h1c:=azy q2 h1;have htk:cs=(cs++rest).take (n*13):=by rw[List.take_append_of_le_length (by omega),Zy (by omega)]
 have hL:RepL C (l.take (k*13)++x++l.drop (k*13)) (cs.take (k*13)++vs++cs.drop (k*13)):=azl (azl (azv _ q2) v1) (az4 _ q2);have hkl:cap*13≤(cs++rest).length:=by rw[q3];exact hkap
 rcases Zr k n with hlt|hge
 ·by_cases hroom:n+1≤cap
  ·refine(cxl (C.κ i) n cap k g off capv (cs++rest) cs vs curA tA fr C.w hlt hroom hcm q1 hkl htk hvl hap hA hA0 hvsC h1c v3).mono ?_;rintro e w' ⟨rest',rfl,hh,hlen,hg⟩;obtain⟨C',m1,m2,m3,m4⟩:=ak6 (W:=13) (n':=n+1) (cap:=cap) hI hb hh (hlen.trans q3) hg hL hroom hcm hkap;exact⟨C',_,_,_,rfl,m1,m2,m3,m4,rfl,rfl⟩
  ·refine(cj3 (C.κ i) n cap k g off capv cs vs C.w hlt hcap (by omega) (by omega) hcl hvl (ZL.1 q1).1 (ZL.1 hA).1 hcsC hvsC h1c v3).mono ?_;rintro e w' ⟨G,rest',rfl,hG1,hG2,hh,hlen,hg⟩;obtain⟨C',m1,m2,m3,m4⟩:=ak3 (W:=13) (n':=n+1) (cap:=G) hI hb hh hlen hg hL hG1 hG2;exact⟨C',_,_,_,rfl,m1,m2,m3,m4,rfl,rfl⟩
 ·obtain rfl:k=n:=by omega
  have e1:l.take (k*13)++x++l.drop (k*13)=l++x:=by rw[Zy (by omega),Zt (by omega),ZN]
  rw[e1];refine(dzl (C.κ i) k cap g off capv (cs++rest) cs vs C.w hcap hcm (by unfold maxLen;omega) (by omega) q1 hkl htk hvl hvsC v3).mono ?_;rintro e w' (⟨rest',hroom,rfl,hh,hlen,hg⟩|⟨G,rest',rfl,hG1,hG2,hh,hlen,hg⟩)
  ·obtain⟨C',m1,m2,m3,m4⟩:=ak6 (W:=13) (n':=k+1) (cap:=cap) hI hb hh (hlen.trans q3) hg (azl q2 v1) hroom hcm hkap;exact⟨C',_,_,_,rfl,m1,m2,m3,m4,rfl,rfl⟩
  ·obtain⟨C',m1,m2,m3,m4⟩:=ak3 (W:=13) (n':=k+1) (cap:=G) hI hb hh hlen hg (azl q2 v1) hG1 hG2;exact⟨C',_,_,_,rfl,m1,m2,m3,m4,rfl,rfl⟩
theorem cvx{Gw:World→Prop}{h:Hp}{W0:Nat}{x:List A}{V:A}(hV:rowC h 42 13 V=some (1,x)):
  ACall Tryz.prog Gw 151 [.sl W0 .nil [],.int .i64 0,V] h fun v h'=>v=.bs h.b.length 13 1∧h'=⟨h.b++[.row 42 x],h.t⟩:=by
 intro C es hI ha;obtain⟨c0,es1,rfl,r0,ha⟩:=repL_cons.1 ha;obtain⟨c1,es2,rfl,r1,ha⟩:=repL_cons.1 ha;obtain⟨c2,es3,rfl,r2,ha⟩:=repL_cons.1 ha;rw[repL_nil]at ha;subst ha;obtain⟨ad,cap,rfl,_,_,hn⟩:=rep_sl.1 r0;obtain⟨rfl,rfl,_⟩:=hn;rw[rep_int]at r1;subst r1;obtain⟨g,off,capv,vs,rfl,v1,v2,v3,v4⟩:=axx hI r2 hV (by decide);refine(cyx g off capv vs C.w (by rw[v2]) (fun j v hj=>by have:=v4 j v hj;rwa [Addr.add_lit]at this)).mono ?_;rintro e w' ⟨G,rest',rfl,hG1,hG2,hh,hlen,hg⟩;obtain⟨C',m1,m2,m3,m4⟩:=cwk (W:=13) (n':=1) (cap:=G) hI hh hlen hg v1 hG1 hG2;exact⟨C',_,_,_,rfl,m1,m2,m3,m4,rfl,rfl⟩
theorem dkj{Gw:World→Prop}{h:Hp}{i n k:Nat}{l:List A}(hb:h.b[i]?=some (.row 42 l))(hl:l.length=n*13)(hk:k<n)(h1:l.all A.one=true):
  ACall Tryz.prog Gw 119 [.bs i 13 n,.int .i64 k,.int .i64 ((k+1:Nat):Int)] h fun v h'=>v=.bs i 13 (n-1)∧h'=⟨h.b.set i (.row 42 (l.take (k*13)++l.drop ((k+1)*13))),h.t⟩:=by
 intro C es hI ha;obtain⟨c0,es1,rfl,r0,ha⟩:=repL_cons.1 ha;obtain⟨c1,es2,rfl,r1,ha⟩:=repL_cons.1 ha;obtain⟨c2,es3,rfl,r2,ha⟩:=repL_cons.1 ha;rw[repL_nil]at ha;subst ha;obtain⟨cap,rfl,hcap,hilt,hcm,hkap⟩:=rep_bs.1 r0;rw[rep_int]at r1 r2;subst r1;subst r2;obtain⟨cs,rest,q1,q2,q3⟩:=hI.box i _ hb;have hcl:cs.length=n*13:=(azk q2).trans hl;have htk:cs=(cs++rest).take (n*13):=by rw[List.take_append_of_le_length (by omega),Zy (by omega)]
 have hown:=hI.ok hb rfl;refine(delI (C.κ i) n cap k (cs++rest) cs C.w hk hcap hcm q1 (by rw[q3];exact hkap) htk (azy q2 h1)).mono ?_;rintro e w' ⟨rest',rfl,hh,hlen,hg⟩;obtain⟨i1,s1⟩:=axo (w':=w') (b':=.row 42 (l.take (k*13)++l.drop ((k+1)*13))) false hI hb rfl hg.os hg.tape hg.output hg.size (fun g' h1 hne=>hg.block g' h1 fun e=>hne (by injection e with e;rw[e];exact hown))
  (fun hS=>⟨_,rest',hh,azl (azv _ (RepL.ext hS.ext _ _ q2)) (az4 _ (RepL.ext hS.ext _ _ q2)),by rw[hlen];exact q3⟩)
 exact⟨_,_,.bs i 13 (n-1),_,rfl,rfl,i1,s1,rep_bs.2 ⟨cap,rfl,by omega,hilt,hcm,hkap⟩,rfl,rfl⟩
end AX
end
section
open Go.RowKit
namespace Sf
def remI(l:List Inst)(a d:List UInt8)(p:Nat):List Inst:=if hasB l a d p=true then l.take p++l.drop (p+1)else l
end Sf
namespace AX
def aqw:AX.AFn:=⟨30,aS [aR 3 (.box 26 (.t 0)),aR 6 (.alloc 26 [.str [],.int .i64 0,.sl 0 .nil [],.sl 0 .nil [],.sl 0 .nil []])] (aS [aR 10 (.load true 5 (.t 3)),aR 11 (.call 69 [.t 10]),aR 7 (.alloc 26 [.str [],.int .i64 0,.sl 0 .nil [],.sl 0 .nil [],.sl 0 .nil []]),aU (.store 5 (.t 7) (.t 11))] (.seq (aS [aF 13 2 7,aL 14 13,aM 15 1,aM 16 2,aR 17 (.build [.str [],.str []] [(0,1,.t 15),(1,1,.t 16)]),aR 18 (.call 118 [.t 14,.t 17]),aM 12 18,aE 19 12 0,aE 20 12 1,aM 8 19,aM 9 20] (aS [aM 21 9] (.cond (.t 21) (.reg false [aF 22 2 7,aL 23 22,aM 24 8,aM 25 8,aR 26 (.bin .add (.t 25) (aI 1)),aR 27 (.call 119 [.t 23,.t 24,.t 26]),aF 28 2 7,aU (.store 1 (.t 28) (.t 27))]) (.skip)))) (aS [aR 29 (.load true 5 (.t 7)),aU (.store 5 (.t 6) (.t 29))] (.ret)))),[.c 6 true 5]⟩
theorem bzf:AX.compFn Tryz.prog 74=some aqw:=by kernel_rfl
theorem bka(l:List Sf.Inst)(p:Nat):((l.map Sf.Inst.cells).flatten).take (p*13)=((l.take p).map Sf.Inst.cells).flatten:=by
 induction l generalizing p with
 |nil=>simp
 |cons x l ih=>
  cases p with
  |zero=>simp
  |succ p=>
   rw[ZE,ZI,Z8,ZE,ZI,List.take_append,Sf.Inst.cells_len,Zy (by rw[Sf.Inst.cells_len];omega),show(p+1)*13-13=p*13 by omega,ih]
theorem bj8(l:List Sf.Inst)(p:Nat):((l.map Sf.Inst.cells).flatten).drop (p*13)=((l.drop p).map Sf.Inst.cells).flatten:=by
 induction l generalizing p with
 |nil=>simp
 |cons x l ih=>
  cases p with
  |zero=>simp
  |succ p=>
   rw[ZE,ZI,Z5,List.drop_append,Sf.Inst.cells_len,Zt (by rw[Sf.Inst.cells_len];omega),Zg,show(p+1)*13-13=p*13 by omega,ih]
theorem aqi{h:Hp}{lin:List UInt8}{ser:Int}{v:A}{l:List Sf.Inst}{ps:List Sf.Pend}{os:List Sf.Outp}(hv:(l=[]∧v=.sl 13 .no [])∨∃i,v=.bs i 13 l.length∧h.b[i]?=some (rowI l)):
  FzV h (.agg [.str lin,.int .i64 ser,v,.sl 3 .no (ps.map Sf.Pend.cells),.sl 7 .no (os.map Sf.Outp.cells)]) (.agg [.str lin,.int .i64 ser,.sl 13 .no (l.map Sf.Inst.cells),.sl 3 .no (ps.map Sf.Pend.cells),.sl 7 .no (os.map Sf.Outp.cells)]):=by
 refine .agg ⟨.inl ⟨rfl,rfl⟩,.inl ⟨rfl,rfl⟩,?_,.inl ⟨rfl,rfl⟩,.inl ⟨rfl,rfl⟩,trivial⟩;rcases hv with⟨rfl,rfl⟩|⟨i,rfl,hi⟩
 ·exact .inl ⟨rfl,rfl⟩
 ·exact .inr ⟨i,13,_,l.map Sf.Inst.cells,by rw[Zj],hi,rfl,fun r hr=>by obtain⟨x,_,rfl⟩:=Z0.1 hr;exact Sf.Inst.cells_len x,rows_data _ Sf.Inst.cells_data l⟩
theorem ck5(LF:Leafs)(st:Sf.St)(hf:StFew st)(a d:List UInt8)(p:Nat)(hc:Sf.Cut st.insts a d p)(hn:st.insts.length≤100000)(h:Hp):
  AT 74 [st.A,.str a,.str d] h (Sf.St.A { st with insts:=Sf.remI st.insts a d p }):=by
 rcases Nat.eq_zero_or_pos st.insts.length with h0|h0
 ·have he:st.insts=[]:=ZS h0;have cl:=ayr st hf he;have hp:p=0:=by have:=hc.le;omega
  have hb:Sf.hasB st.insts a d p=false:=by rw[he,hp];rfl
  have cs0:∀h,AT 118 [.sl 0 .nil [],.agg [.str a,.str d]] h (.tup [.int .i64 ((0:Nat):Int),.bool false]):=fun h=>ACall.args (as':=[.sl 13 .no [],.agg [.str a,.str d]]) ⟨⟨rfl,.inr rfl,.inl rfl⟩,azz _,trivial⟩ (by have:=ayd LF st.insts a d p hc (by omega) h;rw[hb,hp,he]at this;exact this)
  have hrem:Sf.remI st.insts a d p=[]:=by unfold Sf.remI;rw[hb,he];rfl
  rw[hrem];clear LF hf hrem hc hb h0 hp;obtain⟨lin,ser,ins,ps,os⟩:=st;simp only[Sf.St.A]at *;subst he;refine pcallv ?_ (by simp[A.pure,A.data]) h;refine azb mixedT bzf (by simp[aqw]) ?_;dsimp only[aqw];refine aze ti (ai cl (ai cs0 ti)) ?_;exact⟨.agg [.str lin,.int .i64 ser,.sl 13 .no [],.sl 3 .no (ps.map Sf.Pend.cells),.sl 7 .no (os.map Sf.Outp.cells)],⟨aza _,aza _,⟨rfl,.inr rfl,.inl rfl⟩,aza _,aza _,trivial⟩,aqi (.inl ⟨rfl,rfl⟩)⟩
 have he:st.insts≠[]:=fun e=>by rw[e]at h0;simp at h0
 have cl:∀x y:Blk,_:=fun x y=>ayw st hf he ⟨[x,y],[]⟩
 have cs0:∀{x y z:Blk},_:=fun {x y z}=>bq3 LF st.insts a d p hc (by omega) (h:=⟨[x,y,rowI st.insts,z],[]⟩) (i:=2) rfl
 have hone:((st.insts.map Sf.Inst.cells).flatten).all A.one=true:=az5 (rows_data _ Sf.Inst.cells_data st.insts);have hfl:=flat_len Sf.Inst.cells 13 Sf.Inst.cells_len st.insts;have cd:∀{x y z:Blk},p<st.insts.length→_:=fun {x y z} hp=>dkj (Gw:=GT) (h:=⟨[x,y,rowI st.insts,z],[]⟩) (i:=2) (n:=st.insts.length) (k:=p) rfl hfl hp hone
 have hlt:Sf.hasB st.insts a d p=true→p<st.insts.length:=fun hb=>by
  rcases Zr p st.insts.length with h1|h1
  ·exact h1
  ·unfold Sf.hasB at hb;rw[ZO h1]at hb;cases hb
 have hrem:Sf.remI st.insts a d p=if Sf.hasB st.insts a d p=true then st.insts.take p++st.insts.drop (p+1)else st.insts:=rfl
 rw[hrem];have hple:=hc.le;clear LF hf hrem hc he hone hfl h0;obtain⟨lin,ser,ins,ps,os⟩:=st;simp only[Sf.St.A]at *;obtain⟨B,hB⟩:=Ex (Sf.hasB ins a d p);rw[hB]at cs0 hlt⊢;clear hB;have hsz:IntKind.i64.wrap ((p:Int)+1)=((p+1:Nat):Int):=by rw[wrap64 (by omega) (by omega)];omega
 have hrow:((ins.map Sf.Inst.cells).flatten).take (p*13)++((ins.map Sf.Inst.cells).flatten).drop ((p+1)*13)=((ins.take p++ins.drop (p+1)).map Sf.Inst.cells).flatten:=by rw[bka,bj8,YF,List.flatten_append]
 unfold rowI at cl cs0 cd;rw[hrow]at cd;clear hrow;obtain⟨F,hF⟩:=Ex ((ins.map Sf.Inst.cells).flatten);rw[hF]at cl cs0 cd;obtain⟨F',hF'⟩:=Ex (((ins.take p++ins.drop (p+1)).map Sf.Inst.cells).flatten);rw[hF']at cd;simp only[Zi,ZH,Zd,Zg,Yc,Nat.reduceAdd,Yx,ZV]at cl cd;cases B with
 |false=>
  clear cd hlt;refine pcallv ?_ (by simp[A.pure,A.data]) h;refine azb mixedT bzf (by simp[aqw]) ?_;dsimp only[aqw];refine aze ti (ai cl (ai @cs0 ti)) ?_;exact⟨_,le_refl _,aqi (.inr ⟨2,rfl,by rw[if_neg (by decide)];unfold rowI;rw[hF];rfl⟩)⟩
 |true=>
  have hp:=hlt rfl;have cd:=fun {x y z:Blk}=>@cd x y z hp
  have hl1:(ins.take p++ins.drop (p+1)).length=ins.length-1:=by rw[Zb,Zk,Zo];omega
  clear hlt;refine pcallv ?_ (by simp[A.pure,A.data]) h;refine azb mixedT bzf (by simp[aqw]) ?_;dsimp only[aqw];refine aze hsz (ai cl (ai @cs0 (ai @cd ti))) ?_;exact⟨_,le_refl _,aqi (.inr ⟨2,by rw[if_pos rfl,hl1],by rw[if_pos rfl];unfold rowI;rw[hF'];rfl⟩)⟩
end AX
end
end Go.Proofs.YtnghhnahdjjpkaaGreatDoor
