/- Part of what the proof needs. -/
import Derived.Test.YtnghhnahdjjpkaaGreatDoorMFrRecoveryReplaysUpto0
import Derived.Test.YtnghhnahdjjpkaaGreatDoorMFrRecoveryReplaysUptoK
import Derived.Test.YtnghhnahdjjpkaaGreatDoorMFrRecoveryReplaysUptoS
import Derived.Shelf.RegionOpenPlain
import Derived.WalkKit
import Derived.Lib.JoinLaws
import Derived.Lib.AppendZeros
import Derived.Laws.Externs
import Derived.Laws.NewBlocks
set_option maxHeartbeats 4000000
set_option maxRecDepth 100000
set_option linter.all false
namespace Go.Proofs.YtnghhnahdjjpkaaGreatDoor
section
open Go.RowKit
namespace Sf
def putI(l:List Inst)(x:Inst)(p:Nat):List Inst:=l.take p++x::l.drop (if hasB l x.addr x.dep p=true then p+1 else p)
end Sf
namespace AX
def aye:AX.AFn:=⟨34,aS [aR 2 (.box 26 (.t 0)),aR 3 (.box 42 (.t 1)),aR 4 (.alloc 26 [.str [],.int .i64 0,.sl 0 .nil [],.sl 0 .nil [],.sl 0 .nil []])] (aS [aR 8 (.load true 5 (.t 2)),aR 9 (.call 69 [.t 8]),aR 5 (.alloc 26 [.str [],.int .i64 0,.sl 0 .nil [],.sl 0 .nil [],.sl 0 .nil []]),aU (.store 5 (.t 5) (.t 9))] (.seq (.reg true [aF 11 2 5,⟨some 12,.load false 1 (.t 11),none,[0]⟩,aR 13 (.load true 13 (.t 3)),⟨some 14,.call 27 [.t 13],none,[2]⟩,⟨some 15,.call 118 [.t 12,.t 14],none,[1,3,3]⟩,⟨some 10,.mv (.t 15),none,[4]⟩,⟨some 16,.extract (.t 10) 0,none,[5]⟩,⟨some 17,.extract (.t 10) 1,none,[5]⟩,⟨some 6,.mv (.t 16),none,[6,4,0,1,2,3,4,5,6]⟩,⟨some 7,.mv (.t 17),none,[7,8,0,1,2,3,4,5,6,7,8]⟩]) (.seq (aS [aM 18 7] (.cond (.t 18) (.reg true [aF 19 2 5,⟨some 20,.load false 1 (.t 19),none,[0]⟩,aM 21 6,aR 22 (.load true 13 (.t 3)),⟨some 23,.call 112 [.t 22],none,[3]⟩,⟨some 24,.iaddr 13 (.t 20) (.t 21),none,[1,2,0,1,2,3,4]⟩,⟨none,.store 13 (.t 24) (.t 23),none,[5,4,4,0,1,2,3,4]⟩]) (.reg true [aF 25 2 5,⟨some 26,.load false 1 (.t 25),none,[0]⟩,aM 27 6,aR 28 (.load true 13 (.t 3)),⟨some 29,.call 112 [.t 28],none,[3]⟩,⟨some 30,.mkl 42 13 [.t 29],none,[4]⟩,⟨some 31,.call 151 [.t 26,.t 27,.t 30],none,[1,2,5,4]⟩,⟨some 32,.faddr 2 (.t 5),none,[0,1,2,3,4,5,6]⟩,⟨none,.store 1 (.t 32) (.t 31),none,[7,6,6,0,1,2,3,4,5,6]⟩]))) (aS [aR 33 (.load true 5 (.t 5)),aU (.store 5 (.t 4) (.t 33))] (.ret))))),[.c 4 true 5]⟩
theorem cv4:AX.compFn Tryz.prog 117=some aye:=by kernel_rfl
theorem setCells_at:∀(xs l:List A) (off:Nat),off+xs.length≤l.length→setCells l off xs=l.take off++xs++l.drop (off+xs.length):=by
 intro xs;induction xs with
 |nil=>intro l off _;simp[setCells]
 |cons x xs ih=>
  intro l off hlt;rw[Zi]at hlt;rw[setCells,ih _ _ (by simp;omega),List.take_add_one,YB (by omega),List.take_set_of_le (Zh _),List.drop_set_of_lt (by omega)];simp[show off+1+xs.length=off+(xs.length+1) by omega]
theorem cz5(l:List Sf.Inst)(x:Sf.Inst)(p q:Nat):((l.map Sf.Inst.cells).flatten).take (p*13)++x.cells++((l.map Sf.Inst.cells).flatten).drop (q*13)=((l.take p++x::l.drop q).map Sf.Inst.cells).flatten:=by
 rw[bka,bj8,YF,List.flatten_append,ZE,ZI,ZK]
theorem dxh(LF:Leafs)(st:Sf.St)(hf:StFew st)(x:Sf.Inst)(hx:x.attrs.few∧x.deps.length≤1000000000)(he:st.insts=[])(h:Hp):
  AT 117 [st.A,.agg x.cells] h (Sf.St.A { st with insts:=[x] }):=by
 have hc:Sf.Cut ([]:List Sf.Inst) x.addr x.dep 0:=⟨Zh _,fun i h _=>absurd h (Nat.not_lt_zero i),fun i h _=>absurd h (Nat.not_lt_zero i)⟩;have cl:=ayr st hf he;have cs0:∀h,AT 118 [.sl 0 .nil [],.agg [.str x.addr,.str x.dep]] h (.tup [.int .i64 ((0:Nat):Int),.bool false]):=fun h=>ACall.args (as':=[.sl 13 .no [],.agg [.str x.addr,.str x.dep]]) ⟨⟨rfl,.inr rfl,.inl rfl⟩,azz _,trivial⟩ (ayd LF [] _ _ 0 hc (by decide) h)
 have cp:=axs x;have cx:=axa x hx.1 hx.2;have ci:∀{a b c d:Blk},_:=fun {a b c d}=>cvx (Gw:=GT) (h:=⟨[a,b,c,d],[(42,13,1)]⟩) (W0:=0) (x:=x.cells) (V:=.sl 13 (.tok 0) [x.cells]) (by simp[rowC])
 have hfz:∀(h:Hp) (lin:List UInt8) (ser:Int) (ps:List Sf.Pend) (os:List Sf.Outp),h.b[4]?=some (.row 42 x.cells)→FzV h (.agg [.str lin,.int .i64 ser,.bs 4 13 1,.sl 3 .no (ps.map Sf.Pend.cells),.sl 7 .no (os.map Sf.Outp.cells)]) (.agg [.str lin,.int .i64 ser,.sl 13 .no ([x].map Sf.Inst.cells),.sl 3 .no (ps.map Sf.Pend.cells),.sl 7 .no (os.map Sf.Outp.cells)]):=fun h lin ser ps os hh=>aqi (l:=[x]) (.inr ⟨4,rfl,by rw[hh];unfold rowI;simp⟩)
 have hcl:=Sf.Inst.cells_len x;obtain⟨adr,hadr⟩:=Ex (x.addr);obtain⟨dep,hdep⟩:∃dep,x.dep=dep:=⟨_,rfl⟩;rw[hadr,hdep]at cs0 cp;clear LF hf hc hx hadr hdep;obtain⟨lin,ser,ins,ps,os⟩:=st;simp only[Sf.St.A]at *;subst he;obtain⟨b1,b2,b3,b4,⟨jk2,jn,js,jis,jks⟩,jv,jtn,jfi,jds⟩:=x;simp only[Sf.Inst.cells]at cp cx ci hfz⊢;refine pcallv ?_ (by simp[A.pure,A.data]) h;refine azb mixedT cv4 (by simp[aye]) ?_;dsimp only[aye];refine aze ti (ai cl (ai cs0 (ai cp (ai cx (ai @ci ti))))) ?_;exact⟨_,le_refl _,hfz _ _ _ _ _ rfl⟩
theorem djo(LF:Leafs)(st:Sf.St)(hf:StFew st)(x:Sf.Inst)(hx:x.attrs.few∧x.deps.length≤1000000000)(p:Nat)(hc:Sf.Cut st.insts x.addr x.dep p)(hn:st.insts.length≤100000)(he:st.insts≠[])(h:Hp):
  AT 117 [st.A,.agg x.cells] h (Sf.St.A { st with insts:=Sf.putI st.insts x p }):=by
 have cl:∀{a b c:Blk},_:=fun {a b c}=>ayw st hf he ⟨[a,b,c],[]⟩
 have cs0:∀{a b c d:Blk},_:=fun {a b c d}=>bq3 LF st.insts x.addr x.dep p hc (by omega) (h:=⟨[a,b,c,rowI st.insts,d],[]⟩) (i:=3) rfl
 have cp:=axs x;have cx:=axa x hx.1 hx.2;have hone:((st.insts.map Sf.Inst.cells).flatten).all A.one=true:=az5 (rows_data _ Sf.Inst.cells_data st.insts);have hfl:=flat_len Sf.Inst.cells 13 Sf.Inst.cells_len st.insts;have ci:∀{a b c d:Blk},_:=fun {a b c d}=>dvx (Gw:=GT) (h:=⟨[a,b,c,rowI st.insts,d],[(42,13,1)]⟩) (i:=3) (n:=st.insts.length) (k:=p) (x:=x.cells) (V:=.sl 13 (.tok 0) [x.cells]) rfl hfl hc.le (by simp[rowC]) (fun m e=>by cases e) (by omega) hone
 have hlt:Sf.hasB st.insts x.addr x.dep p=true→p<st.insts.length:=fun hb=>by
  rcases Zr p st.insts.length with h1|h1
  ·exact h1
  ·unfold Sf.hasB at hb;rw[ZO h1]at hb;cases hb
 have hput:Sf.putI st.insts x p=st.insts.take p++x::st.insts.drop (if Sf.hasB st.insts x.addr x.dep p=true then p+1 else p):=rfl;rw[hput];have hple:=hc.le;have hcl:=Sf.Inst.cells_len x;have hp1:=cz5 st.insts x p (p+1);have hp0:=cz5 st.insts x p p;have hlen1:p<st.insts.length→(st.insts.take p++x::st.insts.drop (p+1)).length=st.insts.length:=fun h=>by rw[Zb,Zi,Zk,Zo];omega
 have hlen0:(st.insts.take p++x::st.insts.drop p).length=st.insts.length+1:=by rw[Zb,Zi,Zk,Zo];omega
 obtain⟨adr,hadr⟩:=Ex (x.addr);obtain⟨dep,hdep⟩:∃dep,x.dep=dep:=⟨_,rfl⟩;rw[hadr,hdep]at cs0 cp hlt⊢;clear LF hf hput hc he hone hx hadr hdep;obtain⟨lin,ser,ins,ps,os⟩:=st;simp only[Sf.St.A]at *;obtain⟨B,hB⟩:=Ex (Sf.hasB ins adr dep p);rw[hB]at cs0 hlt⊢;clear hB;unfold rowI at cl cs0 ci;rw[hp0]at ci;obtain⟨F,hF⟩:=Ex ((ins.map Sf.Inst.cells).flatten);rw[hF]at cl cs0 ci hp1 hfl;obtain⟨l0,hl0⟩:=Ex (ins.take p++x::ins.drop p);obtain⟨l1,hl1⟩:=Ex (ins.take p++x::ins.drop (p+1));rw[hl0]at ci hlen0;rw[hl1]at hp1 hlen1;simp only[Zi,ZH,Zd,Zg,Yc,Nat.reduceAdd,Yx,ZV]at cl ci;obtain⟨n,hn'⟩:=Ex (ins.length);rw[hn']at cl cs0 ci hlen1 hlen0 hlt hn hple hfl;cases B with
 |false=>
  rw[if_neg (by decide),hl0];have hfz:∀(h:Hp) (lin:List UInt8) (ser:Int) (ps:List Sf.Pend) (os:List Sf.Outp),h.b[5]?=some (rowI l0)→FzV h (.agg [.str lin,.int .i64 ser,.bs 5 13 (n+1),.sl 3 .no (ps.map Sf.Pend.cells),.sl 7 .no (os.map Sf.Outp.cells)]) (.agg [.str lin,.int .i64 ser,.sl 13 .no (l0.map Sf.Inst.cells),.sl 3 .no (ps.map Sf.Pend.cells),.sl 7 .no (os.map Sf.Outp.cells)]):=fun h lin ser ps os hh=>aqi (l:=l0) (.inr ⟨5,by rw[hlen0],hh⟩)
  unfold rowI at hfz;obtain⟨F0,hF0⟩:=Ex ((l0.map Sf.Inst.cells).flatten);rw[hF0]at ci hfz;clear hlt hp1 hl1 hp0 hl0 hlen0 hlen1 hF hF0;obtain⟨b1,b2,b3,b4,⟨jk2,jn,js,jis,jks⟩,jv,jtn,jfi,jds⟩:=x;simp only[Sf.Inst.cells]at cp cx ci;refine pcallv ?_ (by simp[A.pure,A.data,Sf.Inst.cells]) h;refine azb mixedT cv4 (by simp[aye]) ?_;dsimp only[aye,Sf.Inst.cells];refine aze ti (ai @cl (ai @cs0 (ai cp (ai cx (ai @ci ti))))) ?_;exact⟨_,le_refl _,hfz _ _ _ _ _ rfl⟩
 |true=>
  have hp:=hlt rfl;rw[if_pos rfl,hl1];have hfz:∀(h:Hp) (lin:List UInt8) (ser:Int) (ps:List Sf.Pend) (os:List Sf.Outp),h.b[3]?=some (rowI l1)→FzV h (.agg [.str lin,.int .i64 ser,.bs 3 13 n,.sl 3 .no (ps.map Sf.Pend.cells),.sl 7 .no (os.map Sf.Outp.cells)]) (.agg [.str lin,.int .i64 ser,.sl 13 .no (l1.map Sf.Inst.cells),.sl 3 .no (ps.map Sf.Pend.cells),.sl 7 .no (os.map Sf.Outp.cells)]):=fun h lin ser ps os hh=>aqi (l:=l1) (.inr ⟨3,by rw[hlen1 hp],hh⟩)
  have hpi:(p:Int)<(n:Int):=by omega
  have hle:p*13+13≤F.length:=by rw[hfl];omega
  have hset:setCells F (p*13) x.cells=(l1.map Sf.Inst.cells).flatten:=by
   rw[setCells_at _ _ _ (by rw[hcl];exact hle),hcl,show p*13+13=(p+1)*13 by omega];exact hp1
  unfold rowI at hfz;obtain⟨F1,hF1⟩:=Ex ((l1.map Sf.Inst.cells).flatten);rw[hF1]at hset hfz;clear hlt hlen0 hlen1 ci hp0 hl0 hp1 hl1 hF hF1 hcl;obtain⟨b1,b2,b3,b4,⟨jk2,jn,js,jis,jks⟩,jv,jtn,jfi,jds⟩:=x;simp only[Sf.Inst.cells,setCells]at cp cx hset;refine pcallv ?_ (by simp[A.pure,A.data,Sf.Inst.cells]) h;refine azb mixedT cv4 (by simp[aye]) ?_;dsimp only[aye,Sf.Inst.cells];refine aze (ai hpi (ai hle hset)) (ai @cl (ai @cs0 (ai cp (ai cx ti)))) ?_;exact⟨_,le_refl _,hfz _ _ _ _ _ rfl⟩
def rowP(l:List Sf.Pend):Blk:=.row 48 (l.map Sf.Pend.cells).flatten
theorem Sf.Pend.cells_len(x:Sf.Pend):(Sf.Pend.cells x).length=3:=rfl
theorem Sf.Pend.cells_data(x:Sf.Pend):(Sf.Pend.cells x).all A.data=true:=rfl
theorem cxc(st:Sf.St)(hf:StFew st)(hp:st.pends≠[]):AC 69 [st.A] ⟨[],[]⟩ fun r h'=>∃k xs,r=.agg xs∧h'.b[k]?=some (rowP st.pends)∧∀n,Kp h' k n xs [.str st.lin,.int .i64 st.ser,.sl 13 .no (st.insts.map Sf.Inst.cells),.bs n 3 st.pends.length,.sl 7 .no (st.outs.map Sf.Outp.cells)]:=by
 obtain⟨V,LL,hV0,hL0,hgr,hst⟩:=bqy 4 st.insts hf.ins.1;have cp:=akg .no (st.pends.map Sf.Pend.cells) (by simpa using hp) (by rw[Zj];have:=hf.ps;omega) (by rw[Zj];have:=hf.ps;unfold maxLen;omega);have co:=av6 st.outs hf.os.1 hf.os.2;obtain⟨hin,hio⟩:=hf.ins;have hrp:Blk.row 48 (st.pends.map Sf.Pend.cells).flatten=rowP st.pends:=rfl;rw[hrp,Zj]at cp;clear hf hp hrp;obtain⟨lin,ser,ins,ps,os⟩:=st;simp only[Sf.St.A];dsimp only at cp co hin hio hst hgr⊢;obtain⟨RP,hRP⟩:=Ex (rowP ps);rw[hRP]at cp⊢;have hend:∀(b1 b2 b3 b4:Blk) (k:Nat),(∀(i:Nat) (b:Blk),i<4→[b1,b2,b3,b4][i]?=some b→True)→k<4→[b1,b2,b3,b4][k]?=some RP →
   ∃q xs,A.agg [.str lin,.int .i64 ser,V ins.length,.bs k 3 ps.length,.sl 7 .no (os.map Sf.Outp.cells)]=.agg xs∧(b1::b2::b3::b4::LL ins.length)[q]?=some RP∧∀n,Kp ⟨b1::b2::b3::b4::LL ins.length,[]⟩ q n xs [.str lin,.int .i64 ser,.sl 13 .no (ins.map Sf.Inst.cells),.bs n 3 ps.length,.sl 7 .no (os.map Sf.Outp.cells)]:=by
  intro b1 b2 b3 b4 k _ hk4 hk;refine⟨k,_,rfl,?_,fun n=>⟨.inl ⟨aza _,rfl⟩,.inl ⟨aza _,rfl⟩,?_,.inr (.inl ⟨3,_,rfl,rfl⟩),.inl ⟨aza _,rfl⟩,trivial⟩⟩
  ·rw[show b1::b2::b3::b4::LL ins.length=[b1,b2,b3,b4]++LL ins.length from rfl,ZB hk4];exact hk
  ·have hg:=(hgr ins.length (Zh _)).1;rw[Yy]at hg;rcases hg with⟨h1,h2⟩|⟨j,h1,h2⟩
   ·rw[h2,h1];exact .inl ⟨⟨rfl,.inr rfl,.inl rfl⟩,rfl⟩
   ·rw[h1];refine .inr (.inr ⟨4+j,13,42,ins.map Sf.Inst.cells,by omega,rfl,?_,rfl,fun r hr=>by obtain⟨x,_,rfl⟩:=Z0.1 hr;exact Sf.Inst.cells_len x,rows_data _ Sf.Inst.cells_data ins⟩);rw[show 4+j=j+1+1+1+1 by omega];exact h2
 refine azb mixedT cz4 (by simp[avb]) ?_;dsimp only[avb];have li:(ins.map Sf.Inst.cells).length=ins.length:=Zj _;refine aze ti ti ?_;refine awa 10 (by decide +kernel) ?_;refine awa 9 (by decide +kernel) ?_;refine awa 8 (by decide +kernel) ?_;refine awa 7 (by decide +kernel) ?_;refine cke 6 (by decide +kernel) ?_ ?_;all_goals simp only[edgeA,swapA,ak1,swN,aR,aF,aL,aM,aU,ZE,Yj,reduceIte,Nat.reduceEqDiff,Nat.reduceAdd]
 ·refine bqw [6,7,12] 10 [⟨[.cells 26 [.str lin,.int .i64 ser,.sl 13 .no (ins.map Sf.Inst.cells),.sl 3 .no (ps.map Sf.Pend.cells),.sl 7 .no (os.map Sf.Outp.cells)],.cells 26 [.str [],.int .i64 0,.sl 0 .nil [],.sl 0 .nil [],.sl 0 .nil []]],[]⟩,⟨[.cells 26 [.str lin,.int .i64 ser,.sl 13 .no (ins.map Sf.Inst.cells),.sl 3 .no (ps.map Sf.Pend.cells),.sl 7 .no (os.map Sf.Outp.cells)],.cells 26 [.str [],.int .i64 0,.sl 0 .nil [],.sl 0 .nil [],.sl 0 .nil []],RP],[]⟩,⟨[.cells 26 [.str lin,.int .i64 ser,.sl 13 .no (ins.map Sf.Inst.cells),.sl 3 .no (ps.map Sf.Pend.cells),.sl 7 .no (os.map Sf.Outp.cells)],.cells 26 [.str [],.int .i64 0,.sl 0 .nil [],.sl 0 .nil [],.sl 0 .nil []],RP,.cells 26 [.str [],.int .i64 0,.sl 0 .nil [],.sl 0 .nil [],.sl 0 .nil []]],[]⟩,⟨[],[]⟩,⟨[.cells 26 [.str lin,.int .i64 ser,.sl 13 .no (ins.map Sf.Inst.cells),.sl 3 .no (ps.map Sf.Pend.cells),.sl 7 .no (os.map Sf.Outp.cells)],.cells 26 [.str [],.int .i64 0,.sl 0 .nil [],.sl 0 .nil [],.sl 0 .nil []]],[]⟩,⟨[.cells 26 [.str lin,.int .i64 ser,.sl 13 .no (ins.map Sf.Inst.cells),.sl 3 .no (ps.map Sf.Pend.cells),.sl 7 .no (os.map Sf.Outp.cells)],.cells 26 [.str [],.int .i64 0,.sl 0 .nil [],.sl 0 .nil [],.sl 0 .nil []],RP],[]⟩,⟨[.cells 26 [.str lin,.int .i64 ser,.sl 13 .no (ins.map Sf.Inst.cells),.sl 3 .no (ps.map Sf.Pend.cells),.sl 7 .no (os.map Sf.Outp.cells)],.cells 26 [.str [],.int .i64 0,.sl 0 .nil [],.sl 0 .nil [],.sl 0 .nil []],RP,.cells 26 [.str [],.int .i64 0,.sl 0 .nil [],.sl 0 .nil [],.sl 0 .nil []]],[]⟩,⟨[.cells 26 [.str lin,.int .i64 ser,.sl 13 .no (ins.map Sf.Inst.cells),.sl 3 .no (ps.map Sf.Pend.cells),.sl 7 .no (os.map Sf.Outp.cells)],.cells 26 [.str [],.int .i64 0,.sl 0 .nil [],.sl 0 .nil [],.sl 0 .nil []],RP,.cells 26 [.str lin,.int .i64 ser,.sl 0 .nil [],.bs 2 3 ps.length,.sl 7 .no (os.map Sf.Outp.cells)]],[]⟩] [[0,1,2,4,5,6],[0,1,2,4,5,6],[0,1,2,4,5,6],[0,1,2,4,5,6],[0,4],[0,4],[0,4],[1,5],[0,1,2,4,5,6],[0,1,2,4,5,6],[1,2],[5,6],[6]] rfl (by decide +kernel) ?_;refine AX.rung ti ?_;refine axm (v:=.bs 2 3 ps.length) (vs:=[.sl 3 .no (ps.map Sf.Pend.cells)]) (by(exact ev0 ti)) ⟨cp _,cp _,trivial⟩ ?_;refine AX.rung ti ?_;refine axm (vs:=[.sl 7 .no (os.map Sf.Outp.cells)]) (by(exact ev0 ti)) ⟨co _,co _,trivial⟩ ?_;refine AX.rung ti ?_;refine aze li ti ?_
  refine azd (fun m ts hh=>∃(j:Nat),m=ins.length-j∧j≤ins.length∧hh=⟨.cells 26 [.str lin,.int .i64 ser,.sl 13 .no (ins.map Sf.Inst.cells),.sl 3 .no (ps.map Sf.Pend.cells),.sl 7 .no (os.map Sf.Outp.cells)] :: .cells 26 [.str [],.int .i64 0,.sl 0 .nil [],.sl 0 .nil [],.sl 0 .nil []]::RP :: .cells 26 [.str lin,.int .i64 ser,V j,.bs 2 3 ps.length,.sl 7 .no (os.map Sf.Outp.cells)]::LL j,[]⟩ ∧
   (ts 1=.ptr 0 0∧ts 2=.ptr 1 0∧ts 3=.ptr 3 0∧ts 18=.sl 13 .no (ins.map Sf.Inst.cells)∧ts 19=.int .i64 (ins.length:Nat)∧ts 20=.int .i64 (j:Nat))) ins.length ?_ ?_
  ·exact⟨0,rfl,Zq _,by rw[hV0,hL0],by(exact azo li)⟩
  rintro m ts hh ⟨j,rfl,hj,rfl,ht⟩;rcases Zr j ins.length with hlt|hge
  ·have hf:=azp Sf.Inst.cells ins j hlt (by omega);have hx:=hio _ (Zp hlt);have cx:=axa _ hx.1 hx.2;obtain⟨⟨i',n',hv'⟩,hX0⟩:=hst j hlt;have hX:=fun a b c d=>hX0 [a,b,c,d] rfl
   clear hX0;simp only[Zd,Zg]at hX;rw[hv']at hX;have hvv:V (j+1)=.bs i' 13 n':=hv';clear hx hgr hst hend;obtain⟨x,hx⟩:=Ex (ins[j]);rw[hx]at hf cx hX;obtain⟨b1,b2,b3,b4,⟨jk2,jn,js,jis,jks⟩,jv,jtn,jfi,jds⟩:=x;simp only[Sf.Inst.cells]at hf cx hX;refine aze (ai ht (ai hf hX)) (ai cx ti) ?_;exact⟨_,by omega,j+1,rfl,by omega,by rw[hvv],by(exact azo (ai ht hf))⟩
  have hf:=azq Sf.Inst.cells ins j hge;obtain rfl:j=ins.length:=by omega
  have hone:∃v,V ins.length=v∧(v=.sl 0 .nil []∨∃i n,v=.bs i 13 n):=by
   refine⟨_,rfl,?_⟩;rcases(hgr ins.length (Zh _)).1 with⟨_,h1⟩|⟨k,h1,_⟩
   ·exact .inl h1
   ·exact .inr ⟨_,_,h1⟩
  obtain⟨v,hv,h1|⟨i,n,h1⟩⟩:=hone;all_goals
   rw[h1]at hv;rw[hv]at hend⊢;refine aze (ai ht hf) ti ?_;exact⟨_,le_refl _,hend _ _ _ _ 2 (fun _ _ _ _=>trivial) (by decide) rfl⟩
 ·refine aze li (ai cp (ai co ti)) ?_
  refine azd (fun m ts hh=>∃(j:Nat),m=ins.length-j∧j≤ins.length∧hh=⟨.cells 26 [.str lin,.int .i64 ser,.sl 13 .no (ins.map Sf.Inst.cells),.sl 3 .no (ps.map Sf.Pend.cells),.sl 7 .no (os.map Sf.Outp.cells)] :: .cells 26 [.str [],.int .i64 0,.sl 0 .nil [],.sl 0 .nil [],.sl 0 .nil []] :: .cells 26 [.str lin,.int .i64 ser,V j,.bs 3 3 ps.length,.sl 7 .no (os.map Sf.Outp.cells)]::RP::LL j,[]⟩ ∧
   (ts 1=.ptr 0 0∧ts 2=.ptr 1 0∧ts 3=.ptr 2 0∧ts 18=.sl 13 .no (ins.map Sf.Inst.cells)∧ts 19=.int .i64 (ins.length:Nat)∧ts 20=.int .i64 (j:Nat))) ins.length ?_ ?_
  ·exact⟨0,rfl,Zq _,by rw[hV0,hL0],by(exact azo li)⟩
  rintro m ts hh ⟨j,rfl,hj,rfl,ht⟩;rcases Zr j ins.length with hlt|hge
  ·have hf:=azp Sf.Inst.cells ins j hlt (by omega);have hx:=hio _ (Zp hlt);have cx:=axa _ hx.1 hx.2;obtain⟨⟨i',n',hv'⟩,hX0⟩:=hst j hlt;have hX:=fun a b c d=>hX0 [a,b,c,d] rfl
   clear hX0;simp only[Zd,Zg]at hX;rw[hv']at hX;have hvv:V (j+1)=.bs i' 13 n':=hv';clear hx hgr hst hend;obtain⟨x,hx⟩:=Ex (ins[j]);rw[hx]at hf cx hX;obtain⟨b1,b2,b3,b4,⟨jk2,jn,js,jis,jks⟩,jv,jtn,jfi,jds⟩:=x;simp only[Sf.Inst.cells]at hf cx hX;refine aze (ai ht (ai hf hX)) (ai cx ti) ?_;exact⟨_,by omega,j+1,rfl,by omega,by rw[hvv],by(exact azo (ai ht hf))⟩
  have hf:=azq Sf.Inst.cells ins j hge;obtain rfl:j=ins.length:=by omega
  have hone:∃v,V ins.length=v∧(v=.sl 0 .nil []∨∃i n,v=.bs i 13 n):=by
   refine⟨_,rfl,?_⟩;rcases(hgr ins.length (Zh _)).1 with⟨_,h1⟩|⟨k,h1,_⟩
   ·exact .inl h1
   ·exact .inr ⟨_,_,h1⟩
  obtain⟨v,hv,h1|⟨i,n,h1⟩⟩:=hone;all_goals
   rw[h1]at hv;rw[hv]at hend⊢;refine aze (ai ht hf) ti ?_;exact⟨_,le_refl _,hend _ _ _ _ 3 (fun _ _ _ _=>trivial) (by decide) rfl⟩
theorem bq4(st:Sf.St)(hf:StFew st)(hp:st.pends≠[])(h:Hp):AC 69 [st.A] h fun r h'=>r=.agg [.str st.lin,.int .i64 st.ser,.sl 13 .no (st.insts.map Sf.Inst.cells),.bs h.b.length 3 st.pends.length,.sl 7 .no (st.outs.map Sf.Outp.cells)]∧h'=⟨h.b++[rowP st.pends],h.t⟩:=
 ACall.keep1 (ys:=fun n=>[.str st.lin,.int .i64 st.ser,.sl 13 .no (st.insts.map Sf.Inst.cells),.bs n 3 st.pends.length,.sl 7 .no (st.outs.map Sf.Outp.cells)]) (cxc st hf hp) (rows_data _ Sf.Pend.cells_data st.pends) (by simp[A.pure,A.data,Sf.St.A]) h
theorem bqu(st:Sf.St)(hf:StFew st)(hp:st.pends=[])(h:Hp):AT 69 [st.A] h (.agg [.str st.lin,.int .i64 st.ser,.sl 13 .no (st.insts.map Sf.Inst.cells),.sl 3 .emp [],.sl 7 .no (st.outs.map Sf.Outp.cells)]):=by
 obtain⟨w,L,⟨hg,hL,h0⟩,hcl⟩:=bzu st hf .emp [] (fun h=>by rw[hp];exact bjo 3 .no h);refine pcallv (ACall.wk hcl ?_) (by simp[A.pure,A.data,Sf.St.A]) h;rintro v h' ⟨rfl,rfl⟩;rcases hg with⟨h1,rfl⟩|⟨k,rfl,hk⟩
 ·rw[h1];exact⟨.agg [.str st.lin,.int .i64 st.ser,.sl 13 .no [],.sl 3 .emp [],.sl 7 .no (st.outs.map Sf.Outp.cells)],⟨aza _,aza _,⟨rfl,.inr rfl,.inl rfl⟩,aza _,aza _,trivial⟩,.agg ⟨.inl ⟨rfl,rfl⟩,.inl ⟨rfl,rfl⟩,.inl ⟨rfl,rfl⟩,.inl ⟨rfl,rfl⟩,.inl ⟨rfl,rfl⟩,trivial⟩⟩
 ·refine⟨_,le_refl _,.agg ⟨.inl ⟨rfl,rfl⟩,.inl ⟨rfl,rfl⟩,.inr ⟨3+k,13,42,_,rfl,?_,rfl,fun r hr=>?_,rows_data _ Sf.Inst.cells_data st.insts⟩,.inl ⟨rfl,rfl⟩,.inl ⟨rfl,rfl⟩,trivial⟩⟩
  ·rw[show 3+k=k+1+1+1 by omega];exact hk
  ·obtain⟨x,_,rfl⟩:=Z0.1 hr;exact Sf.Inst.cells_len x
end AX
end
section
open Go.RowKit Go.Lib
theorem ckj(b n c k vb vo vc:Nat)(cs vs:List Value)(w:World)(hk:k<n)(hnc:n≤c)(hroom:c<n+1)(hbig:(n+1)*48≤140737488355328)
  (hcl:cs.length=n*3) (hvl:vs.length=3) (hbw:b<w.heap.size) (hvw:vb<w.heap.size)
  (hcs:∀j v,cs[j]?=some v→w.cell? ⟨b,j,none⟩=some v) (hvs:∀j v,vs[j]?=some v→w.cell? ⟨vb,vo+j,none⟩=some v) (h1c:∀v∈cs,v.oneCell'=true) (h1v:∀v∈vs,v.oneCell'=true):
  Calls Tryz.prog 79 #[.slice (some ⟨b,0,none⟩) n c,.int .i64 k,.slice (some ⟨vb,vo,none⟩) 1 vc] w fun e w'=>
   ∃(G:Nat) (rest:List Value),e=.returned (.slice (some ⟨w.heap.size,0,none⟩) (n+1) G)∧n+1≤G∧G≤maxLen ∧
   w'.heap[w.heap.size]?=some (.cells (cs.take (k*3)++vs++cs.drop (k*3)++rest).toArray 48 (0,0))∧(cs.take (k*3)++vs++cs.drop (k*3)++rest).length=G*3∧Below w.heap.size w w':=by
 obtain⟨i0,hi0,hz0,hzs,hzb⟩:=info_parts (show(Tryz.prog.info? 48).map (fun i=>(i.zero,i.size,i.bytes))=some (some (.agg #[.string ⟨#[]⟩,.string ⟨#[]⟩,.string ⟨#[]⟩]:Value),3,48) by kernel_rfl);have uS:∀w,Sem.run Tryz.prog (underlying 23) w=.ok (TypeDesc.slice 48) w:=run_underlying Tryz.underlying23;have mixed:Tryz.prog.follows .mixedOrders=true:=by kernel_rfl
 have hz1:¬((1:Int)=0):=by omega
 have hz2:¬((k:Int)=(n:Int)):=by omega
 have hz3:(c:Int)<(n:Int)+(1:Int):=by omega
 have hik:k+(n+1-k)=n+1:=by omega
 have hkk:(n:Int)+1-(k:Int)=((n+1-k:Nat):Int):=by omega
 have hold:(Builtin.firstCells i0.size k (.slice (some ⟨b,0,none⟩) k c)).run Tryz.prog w.drew=.ok (cs.take (k*3)).toArray w.drew:=by
  rw[hzs]
  exact run_firstCells_some w.drew 3 k ⟨b,0,none⟩ k c (cs.take (k*3)) (by rw[Zk];omega) (fun j v hj=>by
   rw[Addr.add_lit,Yc];rw[List.getElem?_take]at hj;split at hj
   ·exact hcs j v hj
   ·cases hj)
 have hrz:∀ty,(Builtin.append_ #[23,3] ty #[.slice (some ⟨b,0,none⟩) k c,.int .i64 ((n:Int)+1-(k:Int))]).run Tryz.prog w =
   .ok (.slice (some ⟨w.heap.size,0,none⟩) (n+1) (grownCap w (n+1) c 48)) (w.drew.alloc (.cells ((cs.take (k*3)).toArray++Builtin.zeroCells ((.agg #[.string ⟨#[]⟩,.string ⟨#[]⟩,.string ⟨#[]⟩]:Value):Value).cells (n+1-k)++Builtin.zeroCells ((.agg #[.string ⟨#[]⟩,.string ⟨#[]⟩,.string ⟨#[]⟩]:Value):Value).cells (grownCap w (n+1) c 48-(n+1))) 48)):=fun ty=>by
  have h:=Lib.run_append_grow_zeros w 23 3 ty 48 i0 _ .i64 .i64 Tryz.underlying23 (by kernel_rfl) hi0 hz0 (some ⟨b,0,none⟩) k c (cs.take (k*3)) hold (n+1-k) (by omega) (by omega) (by omega) (by omega) (by rw[hzb];omega) (by rw[hzb,hik];exact growslice_fits hroom hbig);rw[hik]at h;rw[hkk];exact h
 have hGm:=grownCap_le_maxLen w (n+1) c 48 (by unfold maxLen;omega);have hGn:=grownCap_ge w (n+1) c 48;obtain⟨G,hG⟩:∃G,G=grownCap w (n+1) c 48:=⟨_,rfl⟩;rw[←hG]at hrz hGm hGn;obtain⟨ROW,hROW⟩:∃ROW:Array Value,ROW=(cs.take (k*3)).toArray++Builtin.zeroCells ((.agg #[.string ⟨#[]⟩,.string ⟨#[]⟩,.string ⟨#[]⟩]:Value):Value).cells (n+1-k)++Builtin.zeroCells ((.agg #[.string ⟨#[]⟩,.string ⟨#[]⟩,.string ⟨#[]⟩]:Value):Value).cells (G-(n+1)):=⟨_,rfl⟩;rw[←hROW]at hrz;have hzc:((.agg #[.string ⟨#[]⟩,.string ⟨#[]⟩,.string ⟨#[]⟩]:Value):Value).cells.size=3:=rfl;have hRl:ROW.size=G*3:=by
  rw[hROW];simp only[Array.size_append,size_zeroCells,hzc,List.size_toArray,Zk,hcl];have:min (k*3) (n*3)=k*3:=by omega
  omega
 have hRt:ROW.toList.take (k*3)=cs.take (k*3):=by
  rw[hROW];simp only[Array.toList_append,ZK];rw[List.take_append_of_le_length (by simp;omega),Zy (by simp;omega)]
 obtain⟨W1,hW1⟩:∃W1,W1=w.drew.alloc (.cells ROW 48):=⟨_,rfl⟩;rw[←hW1]at hrz;have hg1:W1.heap[w.heap.size]?=some (.cells ROW 48 (0,0)):=by rw[hW1];exact heap_alloc_new w.drew _
 have hOb:∀j v,w.cell? ⟨b,j,none⟩=some v→W1.cell? ⟨b,j,none⟩=some v:=fun j v h=>by rw[hW1,World.cell?_alloc_past (w:=w.drew) _ b j hbw];exact h
 have hOv:∀j v,w.cell? ⟨vb,j,none⟩=some v→W1.cell? ⟨vb,j,none⟩=some v:=fun j v h=>by rw[hW1,World.cell?_alloc_past (w:=w.drew) _ vb j hvw];exact h
 have hB1:Below w.heap.size w W1:=by rw[hW1];exact((Below.refl w.heap.size w).drew).alloc (Zh _) _
 have hmin1:Nat.min 1 (n+1-k)=1:=by simp only[Nat.min_def];split<;>omega
 have hmin2:Nat.min (n-k) (n+1-(k+1))=n-k:=by simp only[Nat.min_def];split<;>omega
 obtain⟨R1,hR1⟩:∃R1:Array Value,R1=(ROW.toList.take (k*3)++vs++ROW.toList.drop (k*3+vs.length)).toArray:=⟨_,rfl⟩;have hR1l:R1.size=G*3:=by
  rw[hR1];simp only[List.size_toArray,Zb,Zk,Zo,Zz];omega
 have hcpA:∀(W:World),W.heap=W1.heap→∀ty dc,(Builtin.copy_ #[23,23] ty #[.slice (some ⟨w.heap.size,k*3,none⟩) (n+1-k) dc,.slice (some ⟨vb,vo,none⟩) 1 vc]).run Tryz.prog W=.ok (goInt 1) (W.setRow w.heap.size R1):=fun W hW ty dc=>by
  have h:=azw (P:=Tryz.prog) W 23 23 ty 48 i0 w.heap.size (k*3) (n+1-k) dc ⟨vb,vo,none⟩ 1 vc ROW 48 vs Tryz.underlying23 hi0 (by rw[hW];exact hg1) (by rw[hmin1,hzs,hvl])
   (fun j v hj=>by rw[Addr.add_lit,show W.cell? ⟨vb,vo+j,none⟩=W1.cell? ⟨vb,vo+j,none⟩ by simp only[World.cell?,hW]];exact hOv _ v (hvs j v hj)) (by omega) h1v
  rw[hmin1,←hR1]at h;exact h
 obtain⟨W2,hW2⟩:∃W2,W2=W1.setRow w.heap.size R1:=⟨_,rfl⟩;have hg2:W2.heap[w.heap.size]?=some (.cells R1 48 (0,0)):=by rw[hW2];exact setRow_heap W1 _ _ _ _ _ hg1
 have hdl:(cs.drop (k*3)).length=(n-k)*3:=by rw[Zo,hcl];omega
 obtain⟨R2,hR2⟩:∃R2:Array Value,R2=(R1.toList.take ((k+1)*3)++cs.drop (k*3)++R1.toList.drop ((k+1)*3+(cs.drop (k*3)).length)).toArray:=⟨_,rfl⟩;have hcpB:∀(W:World),W.heap=W2.heap→∀ty dc sc,(Builtin.copy_ #[23,23] ty #[.slice (some ⟨w.heap.size,(k+1)*3,none⟩) (n+1-(k+1)) dc,.slice (some ⟨b,k*3,none⟩) (n-k) sc]).run Tryz.prog W=.ok (goInt (n-k:Nat)) (W.setRow w.heap.size R2):=fun W hW ty dc sc=>by
  have h:=azw (P:=Tryz.prog) W 23 23 ty 48 i0 w.heap.size ((k+1)*3) (n+1-(k+1)) dc ⟨b,k*3,none⟩ (n-k) sc R1 48 (cs.drop (k*3)) Tryz.underlying23 hi0 (by rw[hW];exact hg2) (by rw[hmin2,hzs,hdl])
   (fun j v hj=>by
    rw[Addr.add_lit,show W.cell? ⟨b,k*3+j,none⟩=W1.cell? ⟨b,k*3+j,none⟩ by
     have:W.heap[b]?=W1.heap[b]?:=by rw[hW,hW2];exact setRow_other W1 _ _ _ (by omega)
     simp only[World.cell?,this]]
    exact hOb _ v (hcs _ v (by rwa [List.getElem?_drop]at hj))) (by omega) (fun v hv=>h1c v (List.mem_of_mem_drop hv))
  rw[hmin2,←hR2]at h;exact h
 have hfin:R2.toList=cs.take (k*3)++vs++cs.drop (k*3)++ROW.toList.drop ((n+1)*3):=by
  have e1:R1.toList.take ((k+1)*3)=cs.take (k*3)++vs:=by
   rw[hR1];simp only[List.toList_toArray];rw[List.take_append_of_le_length (by simp only[Zb,Zk,Zz];omega),Zy (by simp only[Zb,Zk,Zz];omega),hRt]
  have e2:R1.toList.drop ((k+1)*3+(cs.drop (k*3)).length)=ROW.toList.drop ((n+1)*3):=by
   rw[hR1,hdl];simp only[List.toList_toArray];rw[List.drop_append,Zt (by simp only[Zb,Zk,Zz];omega),Zg,YI];congr 1;simp only[Zb,Zk,Zz];omega
  rw[hR2,List.toList_toArray,e1,e2]
 have hw1 : IntKind.i64.wrap ((k : Int) + 1) = (k : Int) + 1 := by rw [IntKind.wrap_i64]; have : c ≤ 9000000000000000000 := by omega
                                                                   omega
 have hb1:(0:Int)≤(k:Int)+1:=by omega
 have hin:k≤n:=by omega
 have htn:((k:Int)+1).toNat=k+1:=by omega
 have hb3:(k:Int)≤(n:Int):=by omega
 have hGk:¬(G=k):=by omega
 have hGk1:¬(G=k+1):=by omega
 have hck:¬(c=k):=by omega
 have hK1:=kept hfin;have hK2:=kept hRl;have hK3:=kept hg2;have hK4:=kept hB1;have hK5:=kept hW2;have hK6:=kept hW1;clear hkk hik hold hROW hG hRl hfin hg1 hg2 hR1 hR2 hRt hB1 hOb hOv hcs hvs h1c h1v hR1l hdl;have hE1:((w.alloc (.cells ROW 48)).drew).heap=W1.heap:=by rw[hK6.out];rfl
 have hE1':W1.heap=W1.heap:=rfl;go_enter Tryz.func79,Tryz.ntmps79
 go_wp2_with (first
  |(at_builtin;refine Lib.wpList_append_run _ rfl _ _ _ _ rfl _ _ rfl rfl _ _ (hrz _) ?_)
  |(at_builtin;refine aqb _ rfl _ _ 23 23 rfl _ _ rfl rfl (hcpA _ (by first|rfl|exact hE1) _ _) ?_)
  |(at_builtin;refine aqb _ rfl _ _ 23 23 rfl _ _ rfl rfl (hcpB _ (by first|rfl|exact hE1) _ _ _) ?_))
 have hE2:((w.alloc (.cells ROW 48)).drew.setRow w.heap.size R1).heap=W2.heap:=by rw[hK5.out,hK6.out];rfl
 have hB2:Below w.heap.size w ((w.alloc (.cells ROW 48)).drew.setRow w.heap.size R1).drew:=(aj9 (((Below.refl w.heap.size w).alloc (Zh _) _).drew) (Zh _) _).drew
 go_region_law_o (refine ajd rfl _ _ 23 23 rfl (.slice (some ⟨w.heap.size,(k+1)*3,none⟩) (n+1-(k+1)) (G-(k+1))) (.slice (some ⟨b,k*3,none⟩) (n-k) (c-k)) (by simp[Act.eval,Act.put]) (by simp[Act.eval,Act.put]) (hcpB _ (by first|exact hE2|rfl) _ _ _) ?_)
 go_wp2
 go_ret
 have hfin:=hK1.out;have hg3:((w.alloc (.cells ROW 48)).drew.setRow w.heap.size R1).drew.heap[w.heap.size]?=some (.cells R1 48 (0,0)):=by
  show((w.alloc (.cells ROW 48)).drew.setRow w.heap.size R1).heap[w.heap.size]?=_
  rw[hE2];exact hK3.out
 refine⟨G,ROW.toList.drop ((n+1)*3),rfl,hGn,hGm,?_,?_,aj9 hB2 (Zh _) _⟩
 ·rw[setRow_heap _ _ _ _ _ _ hg3,←hfin,Array.toArray_toList]
 ·have hr:=hK2.out;simp only[Zb,Zk,Zo,Zz,hcl,hvl];omega
theorem cx1(b n c k vb vo vc:Nat)(cur cs vs:List Value)(curA:Array Value)(tA:TypeId)(fr:Nat×Nat)(w:World)(hk:k<n)(hroom:n+1≤c)(hcm:c≤maxLen)
  (hg:w.heap[b]?=some (.cells cur.toArray 48 (0,0))) (hcap:c*3≤cur.length) (hcs:cs=cur.take (n*3)) (hvl:vs.length=3) (hne:vb≠b) (hA:w.heap[vb]?=some (.cells curA tA fr)) (hA0:curA.size≠0)
  (hvs:∀j v,vs[j]?=some v→w.cell? ⟨vb,vo+j,none⟩=some v) (h1c:∀v∈cs,v.oneCell'=true) (h1v:∀v∈vs,v.oneCell'=true):
  Calls Tryz.prog 79 #[.slice (some ⟨b,0,none⟩) n c,.int .i64 k,.slice (some ⟨vb,vo,none⟩) 1 vc] w fun e w'=>
   ∃rest:List Value,e=.returned (.slice (some ⟨b,0,none⟩) (n+1) c) ∧
   w'.heap[b]?=some (.cells (cs.take (k*3)++vs++cs.drop (k*3)++rest).toArray 48 (0,0))∧(cs.take (k*3)++vs++cs.drop (k*3)++rest).length=cur.length∧w.grownBy w' (some b):=by
 obtain⟨i0,hi0,hz0,hzs,hzb⟩:=info_parts (show(Tryz.prog.info? 48).map (fun i=>(i.zero,i.size,i.bytes))=some (some (.agg #[.string ⟨#[]⟩,.string ⟨#[]⟩,.string ⟨#[]⟩]:Value),3,48) by kernel_rfl);have uS:∀w,Sem.run Tryz.prog (underlying 23) w=.ok (TypeDesc.slice 48) w:=run_underlying Tryz.underlying23;have mixed:Tryz.prog.follows .mixedOrders=true:=by kernel_rfl
 have hz1:¬((1:Int)=0):=by omega
 have hz2:¬((k:Int)=(n:Int)):=by omega
 have hz3:¬((c:Int)<(n:Int)+(1:Int)):=by omega
 have hcl:cs.length=n*3:=by rw[hcs,Zk];omega
 have hcsC:∀j v,cs[j]?=some v→w.cell? ⟨b,j,none⟩=some v:=fun j v hj=>by
  rw[hcs,List.getElem?_take]at hj;split at hj
  ·simp[World.cell?,hg,hj]
  ·cases hj
 have hov:∀lb cb,(callFunc 123 #[.slice (some ⟨vb,vo,none⟩) 1 vc,.slice (some ⟨b,(k+1)*3,none⟩) lb cb]).run Tryz.prog w=.ok (.value (.bool false)) w:=fun lb cb=>by
  rw[run_callFunc_extern Tryz.func123 (by kernel_rfl) (by kernel_rfl) (by kernel_rfl) (e:=Extern.SlicesOverlaps.overlaps #[23,23] #[4]) (by kernel_rfl),
   avn w 23 4 48 Tryz.underlying23 3 (by intro w;simp[sizeOf,typeInfo,hi0,hzs]) ⟨vb,vo,none⟩ ⟨b,(k+1)*3,none⟩ 1 vc lb cb hne hA hA0 hg]
  rfl
 have hmin1:Nat.min (n+1-k) (n-k)=n-k:=by simp only[Nat.min_def];split<;>omega
 have hmin2:Nat.min 1 (n+1-k)=1:=by simp only[Nat.min_def];split<;>omega
 have hdl:(cs.drop (k*3)).length=(n-k)*3:=by rw[Zo,hcl];omega
 obtain⟨R1,hR1⟩:∃R1:Array Value,R1=(cur.take ((k+1)*3)++cs.drop (k*3)++cur.drop ((k+1)*3+(cs.drop (k*3)).length)).toArray:=⟨_,rfl⟩;have hR1l:R1.size=cur.length:=by rw[hR1];simp only[List.size_toArray,Zb,Zk,Zo,hdl];omega
 have hcpA:∀ty dc sc,(Builtin.copy_ #[23,23] ty #[.slice (some ⟨b,(k+1)*3,none⟩) (n-k) dc,.slice (some ⟨b,k*3,none⟩) (n+1-k) sc]).run Tryz.prog w.drew=.ok (goInt (n-k:Nat)) (w.drew.setRow b R1):=fun ty dc sc=>by
  have h:=azw (P:=Tryz.prog) w.drew 23 23 ty 48 i0 b ((k+1)*3) (n-k) dc ⟨b,k*3,none⟩ (n+1-k) sc cur.toArray 48 (cs.drop (k*3)) Tryz.underlying23 hi0 hg (by rw[hmin1,hzs,hdl])
   (fun j v hj=>by rw[Addr.add_lit];exact hcsC _ v (by rwa [List.getElem?_drop]at hj)) (by simp only[List.size_toArray];omega) (fun v hv=>h1c v (List.mem_of_mem_drop hv))
  rw[hmin1,List.toList_toArray,←hR1]at h;exact h
 obtain⟨W1,hW1⟩:∃W1,W1=w.drew.setRow b R1:=⟨_,rfl⟩;rw[←hW1]at hcpA;have hg1:W1.heap[b]?=some (.cells R1 48 (0,0)):=by rw[hW1];exact setRow_heap w.drew _ _ _ _ _ hg
 obtain⟨R2,hR2⟩:∃R2:Array Value,R2=(R1.toList.take (k*3)++vs++R1.toList.drop (k*3+vs.length)).toArray:=⟨_,rfl⟩;have hcpB:∀(W:World),W.heap=W1.heap→∀ty dc,(Builtin.copy_ #[23,23] ty #[.slice (some ⟨b,k*3,none⟩) (n+1-k) dc,.slice (some ⟨vb,vo,none⟩) 1 vc]).run Tryz.prog W=.ok (goInt 1) (W.setRow b R2):=fun W hW ty dc=>by
  have h:=azw (P:=Tryz.prog) W 23 23 ty 48 i0 b (k*3) (n+1-k) dc ⟨vb,vo,none⟩ 1 vc R1 48 vs Tryz.underlying23 hi0 (by rw[hW];exact hg1) (by rw[hmin2,hzs,hvl])
   (fun j v hj=>by
    rw[Addr.add_lit,show W.cell? ⟨vb,vo+j,none⟩=w.cell? ⟨vb,vo+j,none⟩ by
     have:W.heap[vb]?=w.heap[vb]?:=by rw[hW,hW1];exact setRow_other w.drew _ _ _ hne
     simp only[World.cell?,this]]
    exact hvs j v hj) (by omega) h1v
  rw[hmin2,←hR2]at h;exact h
 have hfin:R2.toList=cs.take (k*3)++vs++cs.drop (k*3)++cur.drop ((n+1)*3):=by
  have e1:R1.toList.take (k*3)=cs.take (k*3):=by
   rw[hR1,List.toList_toArray,ZK,List.take_append_of_le_length (by rw[Zk];omega),List.take_take,hcs,List.take_take];congr 1;omega
  have e2:R1.toList.drop (k*3+vs.length)=cs.drop (k*3)++cur.drop ((n+1)*3):=by
   have hl:(cur.take ((k+1)*3)).length=k*3+vs.length:=by rw[Zk,hvl];omega
   rw[hR1,List.toList_toArray,ZK,←hl,List.drop_left,hdl];congr 2;omega
  rw[hR2,List.toList_toArray,e1,e2];simp only[ZK]
 have hw1:IntKind.i64.wrap ((k:Int)+1)=(k:Int)+1:=by rw[IntKind.wrap_i64];unfold maxLen at hcm;omega
 have hw2:IntKind.i64.wrap ((n:Int)+1)=(n:Int)+1:=by rw[IntKind.wrap_i64];unfold maxLen at hcm;omega
 have hb1:(0:Int)≤(k:Int)+1:=by omega
 have hb2:(0:Int)≤(n:Int)+1:=by omega
 have hin:k≤n:=by omega
 have htn:((k:Int)+1).toNat=k+1:=by omega
 have htn2:((n:Int)+1).toNat=n+1:=by omega
 have hb3:(k:Int)≤(n:Int):=by omega
 have hb4:(k:Int)≤(n:Int)+1:=by omega
 have hck:¬(c=k):=by omega
 have hck1:¬(c=k+1):=by omega
 have hK1:=kept hfin;have hK3:=kept hg;have hK5:=kept hW1;have hK6:=kept hR1l;have hK7:=kept hcap;clear hfin hg hg1 hR1 hR2 hcs hvs h1c h1v hR1l hdl hcsC hcap hA;go_enter Tryz.func79,Tryz.ntmps79;go_wp2_with (simp only[hov])
 go_region_law_o (refine ajd rfl _ _ 23 23 rfl _ _ (by simp[Act.eval,Act.put]) (by simp[Act.eval,Act.put]) (hcpA _ _ _) ?_)
 go_wp2_with (at_builtin;refine aqb _ rfl _ _ 23 23 rfl _ _ rfl rfl (hcpB _ rfl _ _) ?_)
 go_ret
 have hfin:=hK1.out;have hg3:W1.heap[b]?=some (.cells R1 48 (0,0)):=by rw[hK5.out];exact setRow_heap w.drew _ _ _ _ _ hK3.out
 have hgr:w.grownBy W1 (some b):=by
  rw[hK5.out];exact⟨rfl,rfl,rfl,by simp,fun j _ hj=>setRow_other w.drew _ j _ fun e=>hj (by rw[e])⟩
 rw[←hK5.out];refine⟨cur.drop ((n+1)*3),rfl,?_,?_,⟨hgr.os,hgr.tape,hgr.output,by simpa using hgr.size,fun j h1 hj=>(setRow_other W1 _ j _ fun e=>hj (by rw[e])).trans (hgr.block j h1 hj)⟩⟩
 ·rw[setRow_heap _ _ _ _ _ _ hg3,←hfin,Array.toArray_toList]
 ·have hc:=hK7.out;simp only[Zb,Zk,Zo,hcl,hvl];have:=Z6 3 hroom;omega
theorem delP(b n c k:Nat)(cur cs:List Value)(w:World)(hk:k<n)(hnc:n≤c)(hcm:c≤maxLen)
  (hg:w.heap[b]?=some (.cells cur.toArray 48 (0,0))) (hcap:c*3≤cur.length) (hcs:cs=cur.take (n*3)) (h1c:∀v∈cs,v.oneCell'=true):
  Calls Tryz.prog 150 #[.slice (some ⟨b,0,none⟩) n c,.int .i64 k,.int .i64 ((k:Int)+1)] w fun e w'=>
   ∃rest:List Value,e=.returned (.slice (some ⟨b,0,none⟩) (n-1) c) ∧
   w'.heap[b]?=some (.cells (cs.take (k*3)++cs.drop ((k+1)*3)++rest).toArray 48 (0,0))∧(cs.take (k*3)++cs.drop ((k+1)*3)++rest).length=cur.length∧w.grownBy w' (some b):=by
 obtain⟨i0,hi0,hz0,hzs,hzb⟩:=info_parts (show(Tryz.prog.info? 48).map (fun i=>(i.zero,i.size,i.bytes))=some (some (.agg #[.string ⟨#[]⟩,.string ⟨#[]⟩,.string ⟨#[]⟩]:Value),3,48) by kernel_rfl);have mixed:Tryz.prog.follows .mixedOrders=true:=by kernel_rfl
 have uS:∀w,Sem.run Tryz.prog (underlying 23) w=.ok (TypeDesc.slice 48) w:=run_underlying Tryz.underlying23;have hcl:cs.length=n*3:=by rw[hcs,Zk];omega
 have hcsC:∀j v,cs[j]?=some v→w.cell? ⟨b,j,none⟩=some v:=fun j v hj=>by
  rw[hcs,List.getElem?_take]at hj;split at hj
  ·simp[World.cell?,hg,hj]
  ·cases hj
 have hz1:¬((k:Int)=(k:Int)+1):=by omega
 have hdl:(cs.drop ((k+1)*3)).length=(n-(k+1))*3:=by rw[Zo,hcl];omega
 obtain⟨R1,hR1⟩:∃R1:Array Value,R1=(cur.take (k*3)++cs.drop ((k+1)*3)++cur.drop (k*3+(cs.drop ((k+1)*3)).length)).toArray:=⟨_,rfl⟩;have hR1l:R1.size=cur.length:=by rw[hR1];simp only[List.size_toArray,Zb,Zk,Zo,hdl];omega
 have hap:∀(W:World),W.heap=w.heap→∀ty (ad:Addr) c2,(n-(k+1)=0∨ad=⟨b,(k+1)*3,none⟩)→(Builtin.append_ #[23,23] ty #[.slice (some ⟨b,0,none⟩) k c,.slice (some ad) (n-(k+1)) c2]).run Tryz.prog W=.ok (.slice (some ⟨b,0,none⟩) (n-1) c) (W.setRow b R1):=fun W hW ty ad c2 had=>by
  have h:=run_append_room (P:=Tryz.prog) W 23 ty 48 i0 Tryz.underlying23 hi0 b k c cur.toArray (by rw[hW];exact hg) ad (n-(k+1)) c2 (cs.drop ((k+1)*3)) (by rw[hzs];exact hdl)
   (fun j u hj=>by
    rcases had with h0|rfl
    ·have:(cs.drop ((k+1)*3)).length=0:=by rw[hdl,h0,Nat.zero_mul]
     rw[ZS this]at hj;simp at hj
    ·rw[Addr.add_lit,show W.cell? ⟨b,(k+1)*3+j,none⟩=w.cell? ⟨b,(k+1)*3+j,none⟩ by simp only[World.cell?,hW]]
     exact hcsC _ u (by rwa [List.getElem?_drop]at hj))
   (fun v hv=>h1c v (List.mem_of_mem_drop hv)) (by omega) (by rw[hzs,hdl];simp only[List.size_toArray];omega)
  rw[hzs,List.toList_toArray,←hR1,show k+(n-(k+1))=n-1 by omega]at h;exact h
 obtain⟨W1,hW1⟩:∃W1,W1=w.setRow b R1:=⟨_,rfl⟩;have hg1:W1.heap[b]?=some (.cells R1 48 (0,0)):=by rw[hW1];exact setRow_heap w _ _ _ _ _ hg
 have hzv:∀w,(zeroValue 48).run Tryz.prog w=.ok ((.agg #[.string ⟨#[]⟩,.string ⟨#[]⟩,.string ⟨#[]⟩]:Value)) w:=by intro w;simp[zeroValue,typeInfo,hi0,hz0]
 have hcK:(n-1)*3+1*3≤R1.size:=by
  rw[hR1l];have:=Z6 3 hnc;omega
 obtain⟨Z,hZ⟩:∃Z:List Value,Z=(Builtin.zeroCells ((.agg #[.string ⟨#[]⟩,.string ⟨#[]⟩,.string ⟨#[]⟩]:Value)).cells 1).toList:=⟨_,rfl⟩;have hZl:Z.length=3:=by rw[hZ];simp[size_zeroCells,Value.cells]
 obtain⟨R2,hR2⟩:∃R2:Array Value,R2=(R1.toList.take ((n-1)*3)++Z++R1.toList.drop ((n-1)*3+Z.length)).toArray:=⟨_,rfl⟩;have hcr:∀(W:World),W.heap=W1.heap→∀ty c2,(Builtin.clear_ #[23] ty #[.slice (some ⟨b,(n-1)*3,none⟩) 1 c2]).run Tryz.prog W=.ok (.tuple #[]) (W.setRow b R2):=fun W hW ty c2=>by
  rw[hR2,hZ];exact ajk W 23 48 ty ((.agg #[.string ⟨#[]⟩,.string ⟨#[]⟩,.string ⟨#[]⟩]:Value)) b ((n-1)*3) 1 c2 3 R1 48 Tryz.underlying23 hzv rfl (by decide) (by rw[hW];exact hg1) hcK (by decide)
 have hfin:R2.toList=cs.take (k*3)++cs.drop ((k+1)*3)++(Z++R1.toList.drop ((n-1)*3+Z.length)):=by
  have e1:R1.toList.take ((n-1)*3)=cs.take (k*3)++cs.drop ((k+1)*3):=by
   have h1:cur.take (k*3)=cs.take (k*3):=by rw[hcs,List.take_take];congr 1;omega
   rw[hR1,List.toList_toArray,List.take_append_of_le_length (by rw[Zb,Zk,hdl];omega),Zy (by rw[Zb,Zk,hdl];omega),h1]
  rw[hR2,List.toList_toArray,e1,ZK]
 have hw1:IntKind.i64.wrap ((n:Int)-1)=(n:Int)-1:=by rw[IntKind.wrap_i64];unfold maxLen at hcm;omega
 have hb1:(0:Int)≤(k:Int)+1:=by omega
 have hb2:(k:Int)≤(k:Int)+1:=by omega
 have hb3:(k:Int)+1≤(n:Int):=by omega
 have hb4:(k:Int)≤(n:Int):=by omega
 have hb5:(n:Int)≤(c:Int):=by omega
 have htn:((k:Int)+1).toNat=k+1:=by omega
 have hck:¬(c=k):=by omega
 obtain⟨A,hA,had⟩:∃A:Addr,(if c=k+1 then(some ⟨b,0,none⟩:Option Addr)else some ⟨b,(k+1)*3,none⟩)=some A∧(n-(k+1)=0∨A=⟨b,(k+1)*3,none⟩):=by
  by_cases h:c=k+1
  ·exact⟨_,if_pos h,.inl (by omega)⟩
  ·exact⟨_,if_neg h,.inr rfl⟩
 have hcn:¬(c=n-1):=by omega
 have hkc:k≤c:=by omega
 have hn1:n-(n-1)=1:=by omega
 have hn2:((n-1:Nat):Int)≤(n:Int):=by omega
 have hK0:=kept hfin;have hK1:=kept hcK;have hK2:=kept hg;have hK3:=kept hR1;have hK4:=kept hW1;have hK5:=kept hg1;have hK6:=kept hcs;have hK7:=kept hR1l;clear hfin hcK hg hR1 hcs h1c hR1l hdl hcsC hcap hg1 hZ hR2;go_enter Tryz.func150,Tryz.ntmps150;go_wp2_with fail
 go_region_law_o (refine akj rfl _ _ 23 23 rfl (.slice (some ⟨b,0,none⟩) k c) (.slice (some A) (n-(k+1)) (c-(k+1))) (by simp[Act.eval,Act.put]) (by simp[Act.eval,Act.put]) (hap w.drew rfl _ _ _ had) ?_)
 go_wp2;rw[hcr (w.drew.setRow b R1) (by rw[hK4.out];rfl)];go_wp2
 go_ret
 have hg3:(w.drew.setRow b R1).heap[b]?=some (.cells R1 48 (0,0)):=setRow_heap w.drew _ _ _ _ _ hK2.out;refine⟨Z++R1.toList.drop ((n-1)*3+Z.length),rfl,?_,?_,⟨rfl,rfl,rfl,by simp,fun j _ hj=>(setRow_other _ _ j _ fun e=>hj (by rw[e])).trans (setRow_other w.drew _ j _ fun e=>hj (by rw[e]))⟩⟩
 ·rw[setRow_heap _ _ _ _ _ _ hg3,←hK0.out,Array.toArray_toList]
 ·have h1:=hK1.out;have h7:=hK7.out;simp only[Zb,Zk,Zo,Zz,hcl,hZl];omega
theorem dzj(b n c vb vo vc:Nat)(cur cs vs:List Value)(w:World)(hnc:n≤c)(hcm:c≤maxLen)(hn1:n+1≤maxLen)(hbig:(n+1)*48≤140737488355328)
  (hg:w.heap[b]?=some (.cells cur.toArray 48 (0,0))) (hcap:c*3≤cur.length) (hcs:cs=cur.take (n*3)) (hvl:vs.length=3)
  (hvs:∀j v,vs[j]?=some v→w.cell? ⟨vb,vo+j,none⟩=some v) (h1v:∀v∈vs,v.oneCell'=true):
  Calls Tryz.prog 79 #[.slice (some ⟨b,0,none⟩) n c,.int .i64 n,.slice (some ⟨vb,vo,none⟩) 1 vc] w fun e w'=>
   (∃rest:List Value,n+1≤c∧e=.returned (.slice (some ⟨b,0,none⟩) (n+1) c)∧w'.heap[b]?=some (.cells (cs++vs++rest).toArray 48 (0,0))∧(cs++vs++rest).length=cur.length∧w.grownBy w' (some b)) ∨
   ∃(G:Nat) (rest:List Value),e=.returned (.slice (some ⟨w.heap.size,0,none⟩) (n+1) G)∧n+1≤G∧G≤maxLen∧w'.heap[w.heap.size]?=some (.cells (cs++vs++rest).toArray 48 (0,0))∧(cs++vs++rest).length=G*3∧Below w.heap.size w w':=by
 obtain⟨i0,hi0,hz0,hzs,hzb⟩:=info_parts (show(Tryz.prog.info? 48).map (fun i=>(i.zero,i.size,i.bytes))=some (some (.agg #[.string ⟨#[]⟩,.string ⟨#[]⟩,.string ⟨#[]⟩]:Value),3,48) by kernel_rfl);have uS:∀w,Sem.run Tryz.prog (underlying 23) w=.ok (TypeDesc.slice 48) w:=run_underlying Tryz.underlying23;have mixed:Tryz.prog.follows .mixedOrders=true:=by kernel_rfl
 have hz1:¬((1:Int)=0):=by omega
 have hcl:cs.length=n*3:=by rw[hcs,Zk];have:=Z6 3 hnc;omega
 have hvs':∀j v,vs[j]?=some v→w.cell? ((⟨vb,vo,none⟩:Addr).add j)=some v:=fun j v hj=>by rw[Addr.add_lit];exact hvs j v hj
 by_cases hroom:n+1≤c
 ·have hk:=Z6 3 hroom;have hrun:∀ty,(Builtin.append_ #[23,23] ty #[.slice (some ⟨b,0,none⟩) n c,.slice (some ⟨vb,vo,none⟩) 1 vc]).run Tryz.prog w=.ok (.slice (some ⟨b,0,none⟩) (n+1) c) (w.setRow b (cs++vs++cur.drop (n*3+3)).toArray):=fun ty=>by
   have h:=run_append_room (P:=Tryz.prog) w 23 ty 48 i0 Tryz.underlying23 hi0 b n c cur.toArray hg ⟨vb,vo,none⟩ 1 vc vs (by rw[hzs,hvl]) hvs' h1v hroom (by rw[hzs,hvl];simp only[List.size_toArray];omega);rw[hzs,List.toList_toArray,hvl,←hcs]at h;exact h
  have hKg:=kept hg;have hKc:=kept hcap;clear hg hvs hvs' h1v hcs hcap;go_enter Tryz.func79,Tryz.ntmps79;go_wp2_with (at_builtin;refine Lib.wpList_append_run _ rfl _ _ _ _ rfl _ _ rfl rfl _ _ (hrun _) ?_);all_goals (go_ret;refine .inl ⟨cur.drop (n*3+3),hroom,rfl,by rw[ZK];exact setRow_heap _ _ _ _ _ _ hKg.out,?_,⟨rfl,rfl,rfl,by simp,fun j _ hj=>setRow_other _ _ j _ fun e=>hj (by rw[e])⟩⟩;have:=hKc.out;simp only[Zb,Zo,hcl,hvl];omega)
 ·have hrun:∀ty,(Builtin.append_ #[23,23] ty #[.slice (some ⟨b,0,none⟩) n c,.slice (some ⟨vb,vo,none⟩) 1 vc]).run Tryz.prog w=_:=fun ty=>
   run_append_grow (P:=Tryz.prog) w 23 ty 48 i0 _ Tryz.underlying23 hi0 hz0 ⟨b,0,none⟩ n c cs (by rw[hzs,hcl]) (fun j v hj=>by
    rw[Addr.add_lit,Yc];rw[hcs,List.getElem?_take]at hj;split at hj
    ·simp[World.cell?,hg,hj]
    ·cases hj) ⟨vb,vo,none⟩ 1 vc vs (by rw[hzs,hvl]) hvs' (by omega) (by unfold maxLen at hn1;omega) (by rw[hzb];exact growslice_fits (by omega) hbig)
  have hGm:=grownCap_le_maxLen w (n+1) c 48 hn1;have hGn:=grownCap_ge w (n+1) c 48;obtain⟨G,hG⟩:∃G,G=grownCap w (n+1) c 48:=⟨_,rfl⟩;rw[←hG]at hrun hGm hGn;obtain⟨X,hX⟩:∃X,X=(Builtin.zeroCells ((.agg #[.string ⟨#[]⟩,.string ⟨#[]⟩,.string ⟨#[]⟩]:Value)).cells (G-(n+1))).toList:=⟨_,rfl⟩;have hrow:cs.toArray++vs.toArray++Builtin.zeroCells ((.agg #[.string ⟨#[]⟩,.string ⟨#[]⟩,.string ⟨#[]⟩]:Value)).cells (G-(n+1))=(cs++vs++X).toArray:=by rw[hX];apply ZR.1;simp
  have hXl:X.length=(G-(n+1))*3:=by rw[hX,Zz,size_zeroCells];rfl
  simp only[hrow]at hrun;have hKx:=kept hXl;clear hg hvs hvs' h1v hcs hcap hX hrow hXl hG;go_enter Tryz.func79,Tryz.ntmps79;go_wp2_with (at_builtin;refine Lib.wpList_append_run _ rfl _ _ _ _ rfl _ _ rfl rfl _ _ (hrun _) ?_);all_goals (go_ret;refine .inr ⟨G,X,rfl,hGn,hGm,by rw[ZK];exact heap_alloc_new w.drew _,?_,((Below.refl w.heap.size w).drew).alloc (Zh _) _⟩;rw[Zb,Zb,hcl,hvl,hKx.out];omega)
theorem dz7(vb vo vc:Nat)(vs:List Value)(w:World)(hvl:vs.length=3)
  (hvs:∀j v,vs[j]?=some v→w.cell? ⟨vb,vo+j,none⟩=some v):
  Calls Tryz.prog 79 #[.slice none 0 0,.int .i64 0,.slice (some ⟨vb,vo,none⟩) 1 vc] w fun e w'=>
   ∃(G:Nat) (rest:List Value),e=.returned (.slice (some ⟨w.heap.size,0,none⟩) 1 G)∧1≤G∧G≤maxLen∧w'.heap[w.heap.size]?=some (.cells (vs++rest).toArray 48 (0,0))∧(vs++rest).length=G*3∧Below w.heap.size w w':=by
 obtain⟨i0,hi0,hz0,hzs,hzb⟩:=info_parts (show(Tryz.prog.info? 48).map (fun i=>(i.zero,i.size,i.bytes))=some (some (.agg #[.string ⟨#[]⟩,.string ⟨#[]⟩,.string ⟨#[]⟩]:Value),3,48) by kernel_rfl);have uS:∀w,Sem.run Tryz.prog (underlying 23) w=.ok (TypeDesc.slice 48) w:=run_underlying Tryz.underlying23;have mixed:Tryz.prog.follows .mixedOrders=true:=by kernel_rfl
 have hz1:¬((1:Int)=0):=by omega
 have hrun:∀ty,(Builtin.append_ #[23,23] ty #[.slice none 0 0,.slice (some ⟨vb,vo,none⟩) 1 vc]).run Tryz.prog w=_:=fun ty=>
  run_append_nil (P:=Tryz.prog) w 23 ty 48 i0 _ Tryz.underlying23 hi0 hz0 ⟨vb,vo,none⟩ 1 vc vs (by rw[hzs,hvl]) (fun j v hj=>by rw[Addr.add_lit];exact hvs j v hj) (by omega) (by omega) (by rw[hzb];omega)
 have hGm:=grownCap_le_maxLen w 1 0 48 (by unfold maxLen;omega);have hGn:=grownCap_ge w 1 0 48;obtain⟨G,hG⟩:∃G,G=grownCap w 1 0 48:=⟨_,rfl⟩;rw[←hG]at hrun hGm hGn;obtain⟨X,hX⟩:∃X,X=(Builtin.zeroCells ((.agg #[.string ⟨#[]⟩,.string ⟨#[]⟩,.string ⟨#[]⟩]:Value)).cells (G-1)).toList:=⟨_,rfl⟩;have hrow:vs.toArray++Builtin.zeroCells ((.agg #[.string ⟨#[]⟩,.string ⟨#[]⟩,.string ⟨#[]⟩]:Value)).cells (G-1)=(vs++X).toArray:=by rw[hX];apply ZR.1;simp
 have hXl:X.length=(G-1)*3:=by rw[hX,Zz,size_zeroCells];rfl
 simp only[hrow]at hrun;have hKx:=kept hXl;clear hvs hX hrow hXl hG;go_enter Tryz.func79,Tryz.ntmps79;go_wp2_with (at_builtin;refine Lib.wpList_append_run _ rfl _ _ _ _ rfl _ _ rfl rfl _ _ (hrun _) ?_);all_goals (go_ret;refine⟨G,X,rfl,hGn,hGm,heap_alloc_new w.drew _,?_,((Below.refl w.heap.size w).drew).alloc (Zh _) _⟩;rw[Zb,hvl,hKx.out];omega)
namespace AX
theorem dv8{Gw:World→Prop}{h:Hp}{i n k:Nat}{l x:List A}{V:A}(hb:h.b[i]?=some (.row 48 l))(hl:l.length=n*3)(hk:k≤n)(hV:rowC h 48 3 V=some (1,x))(hne:∀m,V≠.bs i 3 m)(hn:n+1≤1000000)(h1:l.all A.one=true):
  ACall Tryz.prog Gw 79 [.bs i 3 n,.int .i64 k,V] h fun v h'=>v=.bs h.b.length 3 (n+1)∧h'=⟨h.b.set i .gone++[.row 48 (l.take (k*3)++x++l.drop (k*3))],h.t⟩:=by
 intro C es hI ha;obtain⟨c0,es1,rfl,r0,ha⟩:=repL_cons.1 ha;obtain⟨c1,es2,rfl,r1,ha⟩:=repL_cons.1 ha;obtain⟨c2,es3,rfl,r2,ha⟩:=repL_cons.1 ha;rw[repL_nil]at ha;subst ha;obtain⟨cap,rfl,hcap,hilt,hcm,hkap⟩:=rep_bs.1 r0;rw[rep_int]at r1;subst r1;obtain⟨g,off,capv,vs,rfl,v1,v2,v3,v4⟩:=axx hI r2 hV (by decide);obtain⟨cs,rest,q1,q2,q3⟩:=hI.box i _ hb;have hcl:cs.length=n*3:=(azk q2).trans hl;have hap:=bqd hI (by decide) r2 hV hb rfl hne;have hcsC:∀j v,cs[j]?=some v→C.w.cell? ⟨C.κ i,j,none⟩=some v:=fun j v hj=>by
  rw[cell_of_row _ _ _ _ _ _ q1];simp only[List.getElem?_toArray];rw[ZB (Ze.1 hj).1];exact hj
 have hvsC:∀j v,vs[j]?=some v→C.w.cell? ⟨g,off+j,none⟩=some v:=fun j v hj=>by
  have:=v4 j v hj
  rwa [Addr.add_lit]at this
 have hvl:vs.length=3:=by rw[v2]
 obtain⟨curA,tA,fr,hA,hA0⟩:=bqn (hvsC 0 _ (Zm (by omega)));have h1c:=azy q2 h1;have htk:cs=(cs++rest).take (n*3):=by rw[List.take_append_of_le_length (by omega),Zy (by omega)]
 have hL:RepL C (l.take (k*3)++x++l.drop (k*3)) (cs.take (k*3)++vs++cs.drop (k*3)):=azl (azl (azv _ q2) v1) (az4 _ q2);have hkl:cap*3≤(cs++rest).length:=by rw[q3];exact hkap
 rcases Zr k n with hlt|hge
 ·by_cases hroom:n+1≤cap
  ·refine(cx1 (C.κ i) n cap k g off capv (cs++rest) cs vs curA tA fr C.w hlt hroom hcm q1 hkl htk hvl hap hA hA0 hvsC h1c v3).mono ?_;rintro e w' ⟨rest',rfl,hh,hlen,hg⟩;obtain⟨C',m1,m2,m3,m4⟩:=ak6 (W:=3) (n':=n+1) (cap:=cap) hI hb hh (hlen.trans q3) hg hL hroom hcm hkap;exact⟨C',_,_,_,rfl,m1,m2,m3,m4,rfl,rfl⟩
  ·refine(ckj (C.κ i) n cap k g off capv cs vs C.w hlt hcap (by omega) (by omega) hcl hvl (ZL.1 q1).1 (ZL.1 hA).1 hcsC hvsC h1c v3).mono ?_;rintro e w' ⟨G,rest',rfl,hG1,hG2,hh,hlen,hg⟩;obtain⟨C',m1,m2,m3,m4⟩:=ak3 (W:=3) (n':=n+1) (cap:=G) hI hb hh hlen hg hL hG1 hG2;exact⟨C',_,_,_,rfl,m1,m2,m3,m4,rfl,rfl⟩
 ·obtain rfl:k=n:=by omega
  have e1:l.take (k*3)++x++l.drop (k*3)=l++x:=by rw[Zy (by omega),Zt (by omega),ZN]
  rw[e1];refine(dzj (C.κ i) k cap g off capv (cs++rest) cs vs C.w hcap hcm (by unfold maxLen;omega) (by omega) q1 hkl htk hvl hvsC v3).mono ?_;rintro e w' (⟨rest',hroom,rfl,hh,hlen,hg⟩|⟨G,rest',rfl,hG1,hG2,hh,hlen,hg⟩)
  ·obtain⟨C',m1,m2,m3,m4⟩:=ak6 (W:=3) (n':=k+1) (cap:=cap) hI hb hh (hlen.trans q3) hg (azl q2 v1) hroom hcm hkap;exact⟨C',_,_,_,rfl,m1,m2,m3,m4,rfl,rfl⟩
  ·obtain⟨C',m1,m2,m3,m4⟩:=ak3 (W:=3) (n':=k+1) (cap:=G) hI hb hh hlen hg (azl q2 v1) hG1 hG2;exact⟨C',_,_,_,rfl,m1,m2,m3,m4,rfl,rfl⟩
theorem dvw{Gw:World→Prop}{h:Hp}{i n k:Nat}{l:List A}(hb:h.b[i]?=some (.row 48 l))(hl:l.length=n*3)(hk:k<n)(h1:l.all A.one=true):
  ACall Tryz.prog Gw 150 [.bs i 3 n,.int .i64 k,.int .i64 ((k+1:Nat):Int)] h fun v h'=>v=.bs i 3 (n-1)∧h'=⟨h.b.set i (.row 48 (l.take (k*3)++l.drop ((k+1)*3))),h.t⟩:=by
 intro C es hI ha;obtain⟨c0,es1,rfl,r0,ha⟩:=repL_cons.1 ha;obtain⟨c1,es2,rfl,r1,ha⟩:=repL_cons.1 ha;obtain⟨c2,es3,rfl,r2,ha⟩:=repL_cons.1 ha;rw[repL_nil]at ha;subst ha;obtain⟨cap,rfl,hcap,hilt,hcm,hkap⟩:=rep_bs.1 r0;rw[rep_int]at r1 r2;subst r1;subst r2;obtain⟨cs,rest,q1,q2,q3⟩:=hI.box i _ hb;have hcl:cs.length=n*3:=(azk q2).trans hl;have htk:cs=(cs++rest).take (n*3):=by rw[List.take_append_of_le_length (by omega),Zy (by omega)]
 have hown:=hI.ok hb rfl;refine(delP (C.κ i) n cap k (cs++rest) cs C.w hk hcap hcm q1 (by rw[q3];exact hkap) htk (azy q2 h1)).mono ?_;rintro e w' ⟨rest',rfl,hh,hlen,hg⟩;obtain⟨i1,s1⟩:=axo (w':=w') (b':=.row 48 (l.take (k*3)++l.drop ((k+1)*3))) false hI hb rfl hg.os hg.tape hg.output hg.size (fun g' h1 hne=>hg.block g' h1 fun e=>hne (by injection e with e;rw[e];exact hown))
  (fun hS=>⟨_,rest',hh,azl (azv _ (RepL.ext hS.ext _ _ q2)) (az4 _ (RepL.ext hS.ext _ _ q2)),by rw[hlen];exact q3⟩)
 exact⟨_,_,.bs i 3 (n-1),_,rfl,rfl,i1,s1,rep_bs.2 ⟨cap,rfl,by omega,hilt,hcm,hkap⟩,rfl,rfl⟩
end AX
end
section
open Go.RowKit
namespace Sf
structure CutP(l:List Pend)(t:List UInt8)(p:Nat):Prop where
 le:p≤l.length
 lt:∀i (h:i<l.length),i<p→AX.cmpZ l[i].tok t<0
 ge:∀i (h:i<l.length),p≤i→0≤AX.cmpZ l[i].tok t
def hasP(l:List Pend)(t:List UInt8)(p:Nat):Bool:=match l[p]? with
 |some x=>AX.cmpZ x.tok t==0
 |none=>false
def putP(l:List Pend)(x:Pend)(p:Nat):List Pend:=l.take p++x::l.drop (if hasP l x.tok p=true then p+1 else p)
def remP(l:List Pend)(t:List UInt8)(p:Nat):List Pend:=if hasP l t p=true then l.take p++l.drop (p+1)else l
end Sf
theorem dzm(ad:Addr)(vb vo vc:Nat)(vs:List Value)(w:World)(hvl:vs.length=3)
  (hvs:∀j v,vs[j]?=some v→w.cell? ⟨vb,vo+j,none⟩=some v):
  Calls Tryz.prog 79 #[.slice (some ad) 0 0,.int .i64 0,.slice (some ⟨vb,vo,none⟩) 1 vc] w fun e w'=>
   ∃(G:Nat) (rest:List Value),e=.returned (.slice (some ⟨w.heap.size,0,none⟩) 1 G)∧1≤G∧G≤maxLen∧w'.heap[w.heap.size]?=some (.cells (vs++rest).toArray 48 (0,0))∧(vs++rest).length=G*3∧Below w.heap.size w w':=by
 obtain⟨i0,hi0,hz0,hzs,hzb⟩:=info_parts (show(Tryz.prog.info? 48).map (fun i=>(i.zero,i.size,i.bytes))=some (some (.agg #[.string ⟨#[]⟩,.string ⟨#[]⟩,.string ⟨#[]⟩]:Value),3,48) by kernel_rfl);have uS:∀w,Sem.run Tryz.prog (underlying 23) w=.ok (TypeDesc.slice 48) w:=run_underlying Tryz.underlying23;have mixed:Tryz.prog.follows .mixedOrders=true:=by kernel_rfl
 have hz1:¬((1:Int)=0):=by omega
 have hrun0:∀ty,(Builtin.append_ #[23,23] ty #[.slice (some ad) 0 0,.slice (some ⟨vb,vo,none⟩) 1 vc]).run Tryz.prog w=_:=fun ty=>
  run_append_grow (P:=Tryz.prog) w 23 ty 48 i0 _ Tryz.underlying23 hi0 hz0 ad 0 0 [] (by simp) (fun j v hj=>by simp at hj) ⟨vb,vo,none⟩ 1 vc vs (by rw[hzs,hvl]) (fun j v hj=>by rw[Addr.add_lit];exact hvs j v hj) (by omega) (by omega) (by rw[hzb];decide)
 have hrun:∀ty,(Builtin.append_ #[23,23] ty #[.slice (some ad) 0 0,.slice (some ⟨vb,vo,none⟩) 1 vc]).run Tryz.prog w=.ok (.slice (some ⟨w.heap.size,0,none⟩) 1 (grownCap w 1 0 48)) (w.drew.alloc (.cells (vs.toArray++Builtin.zeroCells ((.agg #[.string ⟨#[]⟩,.string ⟨#[]⟩,.string ⟨#[]⟩]:Value)).cells (grownCap w 1 0 48-1)) 48)):=fun ty=>by
  have:=hrun0 ty;simpa using this
 have hGm:=grownCap_le_maxLen w 1 0 48 (by unfold maxLen;omega);have hGn:=grownCap_ge w 1 0 48;obtain⟨G,hG⟩:∃G,G=grownCap w 1 0 48:=⟨_,rfl⟩;rw[←hG]at hrun hGm hGn;obtain⟨X,hX⟩:∃X,X=(Builtin.zeroCells ((.agg #[.string ⟨#[]⟩,.string ⟨#[]⟩,.string ⟨#[]⟩]:Value)).cells (G-1)).toList:=⟨_,rfl⟩;have hrow:vs.toArray++Builtin.zeroCells ((.agg #[.string ⟨#[]⟩,.string ⟨#[]⟩,.string ⟨#[]⟩]:Value)).cells (G-1)=(vs++X).toArray:=by rw[hX];apply ZR.1;simp
 have hXl:X.length=(G-1)*3:=by rw[hX,Zz,size_zeroCells];rfl
 simp only[hrow]at hrun;have hKx:=kept hXl;clear hvs hX hrow hXl hG hrun0;go_enter Tryz.func79,Tryz.ntmps79;go_wp2_with (at_builtin;refine Lib.wpList_append_run _ rfl _ _ _ _ rfl _ _ rfl rfl _ _ (hrun _) ?_);all_goals (go_ret;refine⟨G,X,rfl,hGn,hGm,heap_alloc_new w.drew _,?_,((Below.refl w.heap.size w).drew).alloc (Zh _) _⟩;rw[Zb,hvl,hKx.out];omega)
namespace AX
theorem cwb{Gw:World→Prop}{h:Hp}{W0:Nat}{x:List A}{V:A}(hV:rowC h 48 3 V=some (1,x)):
  ACall Tryz.prog Gw 79 [.sl W0 .emp [],.int .i64 0,V] h fun v h'=>v=.bs h.b.length 3 1∧h'=⟨h.b++[.row 48 x],h.t⟩:=by
 intro C es hI ha;obtain⟨c0,es1,rfl,r0,ha⟩:=repL_cons.1 ha;obtain⟨c1,es2,rfl,r1,ha⟩:=repL_cons.1 ha;obtain⟨c2,es3,rfl,r2,ha⟩:=repL_cons.1 ha;rw[repL_nil]at ha;subst ha;obtain⟨ad,cap,rfl,_,_,hn⟩:=rep_sl.1 r0;obtain⟨rfl,_⟩:=hn;rw[rep_int]at r1;subst r1;obtain⟨g,off,capv,vs,rfl,v1,v2,v3,v4⟩:=axx hI r2 hV (by decide);have key:Calls Tryz.prog 79 #[.slice ad 0 0,.int .i64 0,.slice (some ⟨g,off,none⟩) 1 capv] C.w fun e w'=>
   ∃(G:Nat) (rest:List Value),e=.returned (.slice (some ⟨C.w.heap.size,0,none⟩) 1 G)∧1≤G∧G≤maxLen∧w'.heap[C.w.heap.size]?=some (.cells (vs++rest).toArray 48 (0,0))∧(vs++rest).length=G*3∧Below C.w.heap.size C.w w':=by
  have hvs:∀j v,vs[j]?=some v→C.w.cell? ⟨g,off+j,none⟩=some v:=fun j v hj=>by have:=v4 j v hj;rwa [Addr.add_lit]at this
  cases ad with
  |none=>exact dz7 g off capv vs C.w (by rw[v2]) hvs
  |some b=>exact dzm b g off capv vs C.w (by rw[v2]) hvs
 refine key.mono ?_;rintro e w' ⟨G,rest',rfl,hG1,hG2,hh,hlen,hg⟩;obtain⟨C',m1,m2,m3,m4⟩:=cwk (W:=3) (n':=1) (cap:=G) hI hh hlen hg v1 hG1 hG2;exact⟨C',_,_,_,rfl,m1,m2,m3,m4,rfl,rfl⟩
def aj5:AX.AFn:=⟨9,aS [aR 2 (.box 48 (.t 0)),aR 4 (.mv (aI 0))] (aS [aF 5 2 2,aL 6 5,aM 7 1,aR 8 (.call 59 [.t 6,.t 7]),aM 4 8] (.ret)),[.t 4]⟩
theorem bwn:AX.compFn Tryz.prog 122=some aj5:=by kernel_rfl
def bvy:AX.AFn:=⟨49,aS [aR 6 (.mv (aI 0)),aR 7 (.mv (.c (.bool false)))] (aS [aM 12 0,aR 13 (.len false (.t 12)),aM 8 13] (aS [aM 14 8,aR 9 (.mv (aI 0)),aM 10 14] (.seq (.block 0 (.loop (.seq (aS [aM 15 9,aM 16 10,aR 17 (.bin .lss (.t 15) (.t 16))] (.cond (.t 17) (.skip) (.exit 0))) (.block 1 (aS [aM 18 9,aM 19 10,aR 20 (.bin .add (.t 18) (.t 19)),aR 21 (.conv .u64 (.t 20)),aR 22 (.bin .shr (.t 21) (.c (.int .u64 1))),aR 23 (.conv .i64 (.t 22)),aM 11 23] (aS [aM 24 2,aM 25 0,aM 26 11,aR 27 (.iaddr 3 (.t 25) (.t 26)),aR 28 (.load true 3 (.t 27)),aM 29 1,aR 30 (.callv (.t 24) [.t 28,.t 29]),aR 31 (.bin .lss (.t 30) (aI 0))] (.cond (.t 31) (.reg false [aM 32 11,aR 33 (.bin .add (.t 32) (aI 1)),aM 9 33]) (.reg false [aM 34 11,aM 10 34])))))))) (aS [aM 35 9,aM 36 9,aM 37 8,aR 38 (.bin .lss (.t 36) (.t 37)),aM 39 38,aG 40 (.mv (.t 2)) 39 true,aG 41 (.mv (.t 0)) 39 true,aG 42 (.mv (.t 9)) 39 true,aG 43 (.iaddr 3 (.t 41) (.t 42)) 39 true,aG 44 (.load true 3 (.t 43)) 39 true,aG 45 (.mv (.t 1)) 39 true,aG 46 (.callv (.t 40) [.t 44,.t 45]) 39 true,aG 47 (.bin .eql (.t 46) (aI 0)) 39 true,aR 48 (.pick (.t 39) (.t 47) (.c (.bool false))),aM 6 35,aM 7 48] (.ret))))),[.t 6,.t 7]⟩
theorem dq1:AX.compFn Tryz.prog 121=some bvy:=by kernel_rfl
def axf:AX.AFn:=⟨11,aS [aR 4 (.mv (aI 0)),aR 5 (.mv (.c (.bool false)))] (aS [aM 6 0,aM 7 1,aR 8 (.call 121 [.t 6,.t 7,.c (.fn 122 [])]),aE 9 8 0,aE 10 8 1,aM 4 9,aM 5 10] (.ret)),[.t 4,.t 5]⟩
theorem bqj:AX.compFn Tryz.prog 78=some axf:=by kernel_rfl
theorem cqo(LF:Leafs)(x:Sf.Pend)(t:List UInt8)(h:Hp):AT 122 [.agg x.cells,.str t] h (.int .i64 (cmpZ x.tok t)):=by
 have cc:=LF.cmp x.tok t;obtain⟨c,hc⟩:=Ex (cmpZ x.tok t);rw[hc]at cc⊢;clear LF hc;obtain⟨b1,b2,b3⟩:=x;simp only[Sf.Pend.cells]at *;refine pcall ?_ rfl (by simp[A.pure,A.data]) h;refine azb mixedT bwn (by simp[aj5]) ?_;dsimp only[aj5];refine aze ti (ai cc ti) ?_;exact Fn rfl
theorem dq9(l:List Sf.Pend)(k:Nat)(hk:k<l.length):k*3+3≤(l.map Sf.Pend.cells).flatten.length∧(((l.map Sf.Pend.cells).flatten).drop (k*3)).take 3=l[k].cells:=
 ⟨by rw[flat_len Sf.Pend.cells 3 Sf.Pend.cells_len];omega,avh Sf.Pend.cells 3 Sf.Pend.cells_len l k hk⟩
theorem dkn(LF:Leafs)(l:List Sf.Pend)(t:List UInt8)(p:Nat)(hc:Sf.CutP l t p)(hn:l.length≤1000000):
  AT 121 [.bs 0 3 l.length,.str t,.fn 122 []] ⟨[rowP l],[]⟩ (.tup [.int .i64 (p:Nat),.bool (Sf.hasP l t p)]):=by
 have cs:=fun x=>cqo LF x t
 clear LF;have hrow:=dq9 l;unfold rowP;obtain⟨F,hF⟩:=Ex ((l.map Sf.Pend.cells).flatten);rw[hF]at hrow⊢;refine azb mixedT dq1 (by simp[bvy]) ?_;dsimp only[bvy];refine aze ti ti ?_
 refine azd (fun m ts hh=>∃i j:Nat,m=j-i∧i≤p∧p≤j∧j≤l.length∧hh=⟨[.row 48 F],[]⟩ ∧
  (ts 0=.bs 0 3 l.length∧ts 1=.str t∧ts 2=.fn 122 []∧ts 8=.int .i64 (l.length:Nat)∧ts 9=.int .i64 (i:Nat)∧ts 10=.int .i64 (j:Nat))) l.length ?_ ?_
 ·exact⟨0,l.length,rfl,Zq _,hc.le,Zh _,rfl,by(exact azo ti)⟩
 rintro m ts hh ⟨i,j,rfl,hip,hpj,hjl,rfl,ht⟩;rcases Zr i j with hlt|hge
 ·have hf:(i:Int)<(j:Int):=by omega
  obtain⟨e1,e2,e3,e4,e5⟩:=bzh hlt hjl hn;obtain⟨k,hk⟩:=Ex ((i+j)/2);have hk1:i≤k∧k<j:=by omega
  have hkl:k<l.length:=by omega
  rw[hk]at e3 e4 e5;have hki:(k:Int)<(l.length:Int):=by omega
  have hg:=hrow k hkl;have cx:=cs l[k];have hL:=hc.lt k hkl;have hG:=hc.ge k hkl;obtain⟨x,hx⟩:=Ex (l[k]);rw[hx]at hg cx hL hG;obtain⟨c,hcc⟩:=Ex (cmpZ x.tok t);rw[hcc]at cx hL hG;clear hcc hx;obtain⟨b1,b2,b3⟩:=x;simp only[Sf.Pend.cells]at hg cx;by_cases hneg:c<0
  ·refine aze (ai ht (ai hf (ai e1 (ai e2 (ai e3 (ai e4 (ai e5 (ai hg (ai hki hneg))))))))) (ai cx ti) ?_;exact⟨_,by omega,k+1,j,rfl,by rcases Zr k p with h|h;exact h;have:=hG h;omega,hpj,hjl,rfl,by(exact azo (ai ht e5))⟩
  ·refine aze (ai ht (ai hf (ai e1 (ai e2 (ai e3 (ai e4 (ai e5 (ai hg (ai hki hneg))))))))) (ai cx ti) ?_;exact⟨_,by omega,i,k,rfl,hip,by rcases Zr k p with h|h;exact absurd (hL h) hneg;exact h,by omega,rfl,by(exact azo ht)⟩
 ·have hf:¬(i:Int)<(j:Int):=by omega
  obtain rfl:i=p:=by omega
  rcases Zr i l.length with hlt|hge2
  ·have hf2:(i:Int)<(l.length:Int):=by omega
   have hg:=hrow i hlt;have cx:=cs l[i];have hB:Sf.hasP l t i=(cmpZ l[i].tok t==0):=by unfold Sf.hasP;rw[Zm hlt]
   rw[hB];obtain⟨x,hx⟩:=Ex (l[i]);rw[hx]at hg cx⊢;obtain⟨c,hcc⟩:=Ex (cmpZ x.tok t);rw[hcc]at cx⊢;clear hcc hx;obtain⟨b1,b2,b3⟩:=x;simp only[Sf.Pend.cells]at hg cx;refine aze (ai ht (ai hf (ai hf2 hg))) (ai cx ti) ?_;exact⟨_,le_refl _,rfl,rfl⟩
  ·have hf2:¬(i:Int)<(l.length:Int):=by omega
   have hB:Sf.hasP l t i=false:=by unfold Sf.hasP;rw[ZO hge2]
   rw[hB];refine aze (ai ht (ai hf hf2)) ti ?_;exact⟨_,le_refl _,rfl,rfl⟩
theorem dj2(t:List UInt8)(h:Hp):
  AT 121 [.sl 3 .emp [],.str t,.fn 122 []] h (.tup [.int .i64 ((0:Nat):Int),.bool false]):=by
 refine pcall ?_ rfl (by simp[A.pure,A.data]) h;refine azb mixedT dq1 (by simp[bvy]) ?_;dsimp only[bvy];refine aze ti ti ?_;refine azd (fun m ts hh=>m=0∧hh=⟨[],[]⟩∧(ts 0=.sl 3 .emp []∧ts 2=.fn 122 []∧ts 8=.int .i64 ((0:Nat):Int)∧ts 9=.int .i64 ((0:Nat):Int)∧ts 10=.int .i64 ((0:Nat):Int))) 0 ?_ ?_
 ·exact⟨rfl,rfl,by(exact azo ti)⟩
 rintro m ts hh ⟨rfl,rfl,ht⟩;have hf:¬((0:Nat):Int)<((0:Nat):Int):=by decide
 refine aze (ai ht hf) ti ?_;exact Fn rfl
theorem awk(t:List UInt8)(h:Hp):AT 78 [.sl 3 .emp [],.str t] h (.tup [.int .i64 ((0:Nat):Int),.bool false]):=by
 have cb:=dj2 t;refine pcall ?_ rfl (by simp[A.pure,A.data]) h;refine azb mixedT bqj (by simp[axf]) ?_;dsimp only[axf];refine aze ti (ai cb ti) ?_;exact Fn rfl
theorem bzp(LF:Leafs)(l:List Sf.Pend)(t:List UInt8)(p:Nat)(hc:Sf.CutP l t p)(hn:l.length≤1000000){h:Hp}{i:Nat}(hi:h.b[i]?=some (rowP l)):AT 78 [.bs i 3 l.length,.str t] h (.tup [.int .i64 (p:Nat),.bool (Sf.hasP l t p)]):=by
 have cb:=dkn LF l t p hc hn;clear LF;refine ACall.lift1b (b:=rowP l) ?_ (by unfold A.loc;rfl) (by unfold A.loc A.locL A.locL A.locL;rfl) (axh (rows_data _ Sf.Pend.cells_data l)) hi;obtain⟨R,hR⟩:=Ex (rowP l);rw[hR]at cb⊢;refine azb mixedT bqj (by simp[axf]) ?_;dsimp only[axf];refine aze ti (ai cb ti) ?_;exact⟨_,le_refl _,rfl,rfl⟩
end AX
end
end Go.Proofs.YtnghhnahdjjpkaaGreatDoor
