/- Part of what the proof needs. -/
import Derived.Test.YtnghhnahdjjpkaaGreatDoorMFrRecoveryReplaysUpto0
import Derived.Test.YtnghhnahdjjpkaaGreatDoorMFrRecoveryReplaysUptoM
import Derived.Test.YtnghhnahdjjpkaaGreatDoorMFrRecoveryReplaysUptoP
import Derived.Test.YtnghhnahdjjpkaaGreatDoorMFrRecoveryReplaysUptoR
import Derived.Test.YtnghhnahdjjpkaaGreatDoorMFrRecoveryReplaysUptoT
set_option maxHeartbeats 4000000
set_option maxRecDepth 100000
set_option linter.all false
namespace Go.Proofs.YtnghhnahdjjpkaaGreatDoor
section
open Go.RowKit
namespace AX
def aju:AX.AFn:=⟨32,aS [aR 2 (.box 26 (.t 0)),aR 3 (.box 48 (.t 1)),aR 4 (.alloc 26 [.str [],.int .i64 0,.sl 0 .nil [],.sl 0 .nil [],.sl 0 .nil []])] (aS [aR 8 (.load true 5 (.t 2)),aR 9 (.call 69 [.t 8]),aR 5 (.alloc 26 [.str [],.int .i64 0,.sl 0 .nil [],.sl 0 .nil [],.sl 0 .nil []]),aU (.store 5 (.t 5) (.t 9))] (aS [aF 11 3 5,aL 12 11,aF 13 2 3,aL 14 13,aR 15 (.call 78 [.t 12,.t 14]),aM 10 15,aE 16 10 0,aE 17 10 1,aM 6 16,aM 7 17] (.seq (aS [aM 18 7] (.cond (.t 18) (.reg false [aF 19 3 5,aL 20 19,aM 21 6,aR 22 (.load true 3 (.t 3)),aR 23 (.iaddr 3 (.t 20) (.t 21)),aU (.store 3 (.t 23) (.t 22))]) (.reg false [aF 24 3 5,aL 25 24,aM 26 6,aR 27 (.load true 3 (.t 3)),aR 28 (.mks 3 [.t 27]),aR 29 (.call 79 [.t 25,.t 26,.t 28]),aF 30 3 5,aU (.store 1 (.t 30) (.t 29))]))) (aS [aR 31 (.load true 5 (.t 5)),aU (.store 5 (.t 4) (.t 31))] (.ret))))),[.c 4 true 5]⟩
theorem byu:AX.compFn Tryz.prog 38=some aju:=by kernel_rfl
def aj1:AX.AFn:=⟨26,aS [aR 2 (.box 26 (.t 0)),aR 4 (.alloc 26 [.str [],.int .i64 0,.sl 0 .nil [],.sl 0 .nil [],.sl 0 .nil []])] (aS [aR 8 (.load true 5 (.t 2)),aR 9 (.call 69 [.t 8]),aR 5 (.alloc 26 [.str [],.int .i64 0,.sl 0 .nil [],.sl 0 .nil [],.sl 0 .nil []]),aU (.store 5 (.t 5) (.t 9))] (.seq (aS [aF 11 3 5,aL 12 11,aM 13 1,aR 14 (.call 78 [.t 12,.t 13]),aM 10 14,aE 15 10 0,aE 16 10 1,aM 6 15,aM 7 16] (aS [aM 17 7] (.cond (.t 17) (.reg false [aF 18 3 5,aL 19 18,aM 20 6,aM 21 6,aR 22 (.bin .add (.t 21) (aI 1)),aR 23 (.call 150 [.t 19,.t 20,.t 22]),aF 24 3 5,aU (.store 1 (.t 24) (.t 23))]) (.skip)))) (aS [aR 25 (.load true 5 (.t 5)),aU (.store 5 (.t 4) (.t 25))] (.ret)))),[.c 4 true 5]⟩
theorem byt:AX.compFn Tryz.prog 116=some aj1:=by kernel_rfl
theorem bvf(l:List Sf.Pend)(p:Nat):((l.map Sf.Pend.cells).flatten).take (p*3)=((l.take p).map Sf.Pend.cells).flatten:=by
 induction l generalizing p with
 |nil=>simp
 |cons x l ih=>
  cases p with
  |zero=>simp
  |succ p=>
   rw[ZE,ZI,Z8,ZE,ZI,List.take_append,Sf.Pend.cells_len,Zy (by rw[Sf.Pend.cells_len];omega),show(p+1)*3-3=p*3 by omega,ih]
theorem bkt(l:List Sf.Pend)(p:Nat):((l.map Sf.Pend.cells).flatten).drop (p*3)=((l.drop p).map Sf.Pend.cells).flatten:=by
 induction l generalizing p with
 |nil=>simp
 |cons x l ih=>
  cases p with
  |zero=>simp
  |succ p=>
   rw[ZE,ZI,Z5,List.drop_append,Sf.Pend.cells_len,Zt (by rw[Sf.Pend.cells_len];omega),Zg,show(p+1)*3-3=p*3 by omega,ih]
theorem czf(l:List Sf.Pend)(x:Sf.Pend)(p q:Nat):((l.map Sf.Pend.cells).flatten).take (p*3)++x.cells++((l.map Sf.Pend.cells).flatten).drop (q*3)=((l.take p++x::l.drop q).map Sf.Pend.cells).flatten:=by
 rw[bvf,bkt,YF,List.flatten_append,ZE,ZI,ZK]
theorem ax7{h:Hp}{lin:List UInt8}{ser:Int}{i n:Nat}{l:List Sf.Pend}{is:List Sf.Inst}{os:List Sf.Outp}(hn:n=l.length)(hi:h.b[i]?=some (rowP l)):
  FzV h (.agg [.str lin,.int .i64 ser,.sl 13 .no (is.map Sf.Inst.cells),.bs i 3 n,.sl 7 .no (os.map Sf.Outp.cells)]) (.agg [.str lin,.int .i64 ser,.sl 13 .no (is.map Sf.Inst.cells),.sl 3 .no (l.map Sf.Pend.cells),.sl 7 .no (os.map Sf.Outp.cells)]):=by
 subst hn;exact .agg ⟨.inl ⟨rfl,rfl⟩,.inl ⟨rfl,rfl⟩,.inl ⟨rfl,rfl⟩,.inr ⟨i,3,_,l.map Sf.Pend.cells,by rw[Zj],hi,rfl,fun r hr=>by obtain⟨x,_,rfl⟩:=Z0.1 hr;rfl,rows_data _ Sf.Pend.cells_data l⟩,.inl ⟨rfl,rfl⟩,trivial⟩
theorem cy7(st:Sf.St)(hf:StFew st)(x:Sf.Pend)(he:st.pends=[])(h:Hp):
  AT 38 [st.A,.agg x.cells] h (Sf.St.A { st with pends:=[x] }):=by
 have cl:=bqu st hf he;have cs:=awk x.tok;have ci:∀{a b c d:Blk},_:=fun {a b c d}=>cwb (Gw:=GT) (h:=⟨[a,b,c,d],[]⟩) (W0:=3) (x:=x.cells) (V:=.sl 3 .no [x.cells]) (by simp[rowC])
 have hfz:∀(h:Hp) (lin:List UInt8) (ser:Int) (is:List Sf.Inst) (os:List Sf.Outp),h.b[4]?=some (.row 48 x.cells)→FzV h (.agg [.str lin,.int .i64 ser,.sl 13 .no (is.map Sf.Inst.cells),.bs 4 3 1,.sl 7 .no (os.map Sf.Outp.cells)]) (.agg [.str lin,.int .i64 ser,.sl 13 .no (is.map Sf.Inst.cells),.sl 3 .no ([x].map Sf.Pend.cells),.sl 7 .no (os.map Sf.Outp.cells)]):=fun h lin ser is os hh=>ax7 (l:=[x]) rfl (by rw[hh];unfold rowP;simp)
 clear hf;obtain⟨lin,ser,ins,ps,os⟩:=st;simp only[Sf.St.A]at *;subst he;obtain⟨b1,b2,b3⟩:=x;simp only[Sf.Pend.cells]at cs ci hfz⊢;refine pcallv ?_ (by simp[A.pure,A.data]) h;refine azb mixedT byu (by simp[aju]) ?_;dsimp only[aju];refine aze ti (ai cl (ai cs (ai @ci ti))) ?_;exact⟨_,le_refl _,hfz _ _ _ _ _ rfl⟩
theorem dzv(LF:Leafs)(st:Sf.St)(hf:StFew st)(x:Sf.Pend)(p:Nat)(hc:Sf.CutP st.pends x.tok p)(hn:st.pends.length≤100000)(he:st.pends≠[])(h:Hp):
  AT 38 [st.A,.agg x.cells] h (Sf.St.A { st with pends:=Sf.putP st.pends x p }):=by
 have cl:∀{a b c:Blk},_:=fun {a b c}=>bq4 st hf he ⟨[a,b,c],[]⟩
 have cs0:∀{a b c d:Blk},_:=fun {a b c d}=>bzp LF st.pends x.tok p hc (by omega) (h:=⟨[a,b,c,rowP st.pends,d],[]⟩) (i:=3) rfl
 have hone:((st.pends.map Sf.Pend.cells).flatten).all A.one=true:=az5 (rows_data _ Sf.Pend.cells_data st.pends);have hfl:=flat_len Sf.Pend.cells 3 Sf.Pend.cells_len st.pends;have ci:∀{a b c d:Blk},_:=fun {a b c d}=>dv8 (Gw:=GT) (h:=⟨[a,b,c,rowP st.pends,d],[]⟩) (i:=3) (n:=st.pends.length) (k:=p) (x:=x.cells) (V:=.sl 3 .no [x.cells]) rfl hfl hc.le (by simp[rowC]) (fun m e=>by cases e) (by omega) hone
 have hlt:Sf.hasP st.pends x.tok p=true→p<st.pends.length:=fun hb=>by
  rcases Zr p st.pends.length with h1|h1
  ·exact h1
  ·unfold Sf.hasP at hb;rw[ZO h1]at hb;cases hb
 have hput:Sf.putP st.pends x p=st.pends.take p++x::st.pends.drop (if Sf.hasP st.pends x.tok p=true then p+1 else p):=rfl;rw[hput];have hple:=hc.le;have hp1:=czf st.pends x p (p+1);have hp0:=czf st.pends x p p;have hlen1:p<st.pends.length→(st.pends.take p++x::st.pends.drop (p+1)).length=st.pends.length:=fun h=>by rw[Zb,Zi,Zk,Zo];omega
 have hlen0:(st.pends.take p++x::st.pends.drop p).length=st.pends.length+1:=by rw[Zb,Zi,Zk,Zo];omega
 obtain⟨tok,htok⟩:∃tok,x.tok=tok:=⟨_,rfl⟩;rw[htok]at cs0 hlt⊢;clear LF hf hput hc he hone;obtain⟨lin,ser,ins,ps,os⟩:=st;simp only[Sf.St.A]at *;obtain⟨B,hB⟩:=Ex (Sf.hasP ps tok p);rw[hB]at cs0 hlt⊢;clear hB;unfold rowP at cl cs0 ci;rw[hp0]at ci;obtain⟨F,hF⟩:=Ex ((ps.map Sf.Pend.cells).flatten);rw[hF]at cl cs0 ci hp1 hfl;obtain⟨l0,hl0⟩:=Ex (ps.take p++x::ps.drop p);obtain⟨l1,hl1⟩:=Ex (ps.take p++x::ps.drop (p+1));rw[hl0]at ci hlen0;rw[hl1]at hp1 hlen1;simp only[Zi,ZH,Zd,Zg,Yc,Nat.reduceAdd,Yx,ZV]at cl ci;obtain⟨n,hn'⟩:=Ex (ps.length);rw[hn']at cl cs0 ci hlen1 hlen0 hlt hn hple hfl;cases B with
 |false=>
  rw[if_neg (by decide),hl0];have hfz:∀(h:Hp) (lin:List UInt8) (ser:Int) (is:List Sf.Inst) (os:List Sf.Outp),h.b[5]?=some (rowP l0)→FzV h (.agg [.str lin,.int .i64 ser,.sl 13 .no (is.map Sf.Inst.cells),.bs 5 3 (n+1),.sl 7 .no (os.map Sf.Outp.cells)]) (.agg [.str lin,.int .i64 ser,.sl 13 .no (is.map Sf.Inst.cells),.sl 3 .no (l0.map Sf.Pend.cells),.sl 7 .no (os.map Sf.Outp.cells)]):=fun h lin ser is os hh=>ax7 (l:=l0) hlen0.symm hh
  unfold rowP at hfz;obtain⟨F0,hF0⟩:=Ex ((l0.map Sf.Pend.cells).flatten);rw[hF0]at ci hfz;clear hlt hp1 hl1 hp0 hl0 hlen0 hlen1 hF hF0;obtain⟨b1,b2,b3⟩:=x;subst htok;simp only[Sf.Pend.cells]at ci cs0;refine pcallv ?_ (by simp[A.pure,A.data,Sf.Pend.cells]) h;refine azb mixedT byu (by simp[aju]) ?_;dsimp only[aju,Sf.Pend.cells];refine aze ti (ai @cl (ai @cs0 (ai @ci ti))) ?_;exact⟨_,le_refl _,hfz _ _ _ _ _ rfl⟩
 |true=>
  have hp:=hlt rfl;rw[if_pos rfl,hl1];have hfz:∀(h:Hp) (lin:List UInt8) (ser:Int) (is:List Sf.Inst) (os:List Sf.Outp),h.b[3]?=some (rowP l1)→FzV h (.agg [.str lin,.int .i64 ser,.sl 13 .no (is.map Sf.Inst.cells),.bs 3 3 n,.sl 7 .no (os.map Sf.Outp.cells)]) (.agg [.str lin,.int .i64 ser,.sl 13 .no (is.map Sf.Inst.cells),.sl 3 .no (l1.map Sf.Pend.cells),.sl 7 .no (os.map Sf.Outp.cells)]):=fun h lin ser is os hh=>ax7 (l:=l1) (hlen1 hp).symm hh
  have hpi:(p:Int)<(n:Int):=by omega
  have hle:p*3+3≤F.length:=by rw[hfl];omega
  have hset:setCells F (p*3) x.cells=(l1.map Sf.Pend.cells).flatten:=by
   rw[setCells_at _ _ _ (by rw[Sf.Pend.cells_len];exact hle),Sf.Pend.cells_len,show p*3+3=(p+1)*3 by omega];exact hp1
  unfold rowP at hfz;obtain⟨F1,hF1⟩:=Ex ((l1.map Sf.Pend.cells).flatten);rw[hF1]at hset hfz;clear hlt hlen0 hlen1 ci hp0 hl0 hp1 hl1 hF hF1;obtain⟨b1,b2,b3⟩:=x;subst htok;simp only[Sf.Pend.cells,setCells]at cs0 hset;refine pcallv ?_ (by simp[A.pure,A.data,Sf.Pend.cells]) h;refine azb mixedT byu (by simp[aju]) ?_;dsimp only[aju,Sf.Pend.cells];refine aze (ai hpi (ai hle hset)) (ai @cl (ai @cs0 ti)) ?_;exact⟨_,le_refl _,hfz _ _ _ _ _ rfl⟩
theorem cy3(st:Sf.St)(hf:StFew st)(t:List UInt8)(he:st.pends=[])(h:Hp):
  AT 116 [st.A,.str t] h (st.A):=by
 have cl:=bqu st hf he;have cs:=awk t;clear hf;obtain⟨lin,ser,ins,ps,os⟩:=st;simp only[Sf.St.A]at *;subst he;refine pcall ?_ rfl (by simp[A.pure,A.data]) h;refine azb mixedT byt (by simp[aj1]) ?_;dsimp only[aj1];refine aze ti (ai cl (ai cs ti)) ?_;exact⟨.agg [.str lin,.int .i64 ser,.sl 13 .no (ins.map Sf.Inst.cells),.sl 3 .no [],.sl 7 .no (os.map Sf.Outp.cells)],⟨aza _,aza _,aza _,⟨rfl,.inl rfl,.inl rfl⟩,aza _,trivial⟩,rfl⟩
theorem cy5(LF:Leafs)(st:Sf.St)(hf:StFew st)(t:List UInt8)(p:Nat)(hc:Sf.CutP st.pends t p)(hn:st.pends.length≤100000)(he:st.pends≠[])(h:Hp):
  AT 116 [st.A,.str t] h (Sf.St.A { st with pends:=Sf.remP st.pends t p }):=by
 have cl:∀x y:Blk,_:=fun x y=>bq4 st hf he ⟨[x,y],[]⟩
 have cs0:∀{x y z:Blk},_:=fun {x y z}=>bzp LF st.pends t p hc (by omega) (h:=⟨[x,y,rowP st.pends,z],[]⟩) (i:=2) rfl
 have hone:((st.pends.map Sf.Pend.cells).flatten).all A.one=true:=az5 (rows_data _ Sf.Pend.cells_data st.pends);have hfl:=flat_len Sf.Pend.cells 3 Sf.Pend.cells_len st.pends;have cd:∀{x y z:Blk},p<st.pends.length→_:=fun {x y z} hp=>dvw (Gw:=GT) (h:=⟨[x,y,rowP st.pends,z],[]⟩) (i:=2) (n:=st.pends.length) (k:=p) rfl hfl hp hone
 have hlt:Sf.hasP st.pends t p=true→p<st.pends.length:=fun hb=>by
  rcases Zr p st.pends.length with h1|h1
  ·exact h1
  ·unfold Sf.hasP at hb;rw[ZO h1]at hb;cases hb
 have hrem:Sf.remP st.pends t p=if Sf.hasP st.pends t p=true then st.pends.take p++st.pends.drop (p+1)else st.pends:=rfl
 rw[hrem];have hple:=hc.le;clear LF hf hrem hc he hone hfl;obtain⟨lin,ser,ins,ps,os⟩:=st;simp only[Sf.St.A]at *;obtain⟨B,hB⟩:=Ex (Sf.hasP ps t p);rw[hB]at cs0 hlt⊢;clear hB;have hsz:IntKind.i64.wrap ((p:Int)+1)=((p+1:Nat):Int):=by rw[wrap64 (by omega) (by omega)];omega
 have hrow:((ps.map Sf.Pend.cells).flatten).take (p*3)++((ps.map Sf.Pend.cells).flatten).drop ((p+1)*3)=((ps.take p++ps.drop (p+1)).map Sf.Pend.cells).flatten:=by rw[bvf,bkt,YF,List.flatten_append]
 unfold rowP at cl cs0 cd;rw[hrow]at cd;clear hrow;obtain⟨F,hF⟩:=Ex ((ps.map Sf.Pend.cells).flatten);rw[hF]at cl cs0 cd;obtain⟨F',hF'⟩:=Ex (((ps.take p++ps.drop (p+1)).map Sf.Pend.cells).flatten);rw[hF']at cd;simp only[Zi,ZH,Zd,Zg,Yc,Nat.reduceAdd,Yx,ZV]at cl cd;cases B with
 |false=>
  clear cd hlt;refine pcallv ?_ (by simp[A.pure,A.data]) h;refine azb mixedT byt (by simp[aj1]) ?_;dsimp only[aj1];refine aze ti (ai cl (ai @cs0 ti)) ?_;exact⟨_,le_refl _,ax7 (i:=2) rfl (by rw[if_neg (by decide)];unfold rowP;rw[hF];rfl)⟩
 |true=>
  have hp:=hlt rfl;have cd:=fun {x y z:Blk}=>@cd x y z hp
  have hl1:(ps.take p++ps.drop (p+1)).length=ps.length-1:=by rw[Zb,Zk,Zo];omega
  clear hlt;refine pcallv ?_ (by simp[A.pure,A.data]) h;refine azb mixedT byt (by simp[aj1]) ?_;dsimp only[aj1];refine aze hsz (ai cl (ai @cs0 (ai @cd ti))) ?_;exact⟨_,le_refl _,ax7 (i:=2) (by rw[if_pos rfl,hl1]) (by rw[if_pos rfl];unfold rowP;rw[hF'];rfl)⟩
end AX
end
section
open Go.RowKit
open Go.Op (bytesLess)
namespace Sf
theorem less_trans:∀a b c:List UInt8,bytesLess a b=true→bytesLess b c=true→bytesLess a c=true
 |a,[],_,h,_=>by cases a<;>simp[bytesLess]at h
 |_,_::_,[],_,k=>by simp[bytesLess]at k
 |[],_::_,_::_,_,_=>rfl
 |x::a,y::b,z::c,h,k=>by
  simp only[bytesLess,ZP,Zf,ZD,ZC]at *;rcases h with h|⟨rfl,h⟩
  ·rcases k with k|⟨rfl,k⟩
   ·exact .inl (UInt8.lt_trans h k)
   ·exact .inl h
  ·rcases k with k|⟨rfl,k⟩
   ·exact .inl k
   ·exact .inr ⟨rfl,less_trans a b c h k⟩
theorem cmpZ_lt(a b:List UInt8):AX.cmpZ a b<0↔bytesLess a b=true:=by
 unfold AX.cmpZ;by_cases h:a=b
 ·subst h;simp[Val.less_irrefl]
 ·cases hb:bytesLess a b<;>simp[h]
theorem cmpZ_eq(a b:List UInt8):AX.cmpZ a b=0↔a=b:=by
 unfold AX.cmpZ;by_cases h:a=b
 ·simp[h]
 ·cases hb:bytesLess a b<;>simp[h]
theorem cmpZ_tri{a b:List UInt8}(h:¬AX.cmpZ a b<0):a=b∨AX.cmpZ b a<0:=by
 rw[cmpZ_lt]at *;have:=Val.less_total a b;rw[YJ.2 h]at this;rcases(ZP _ _).mp this.symm with h|h
 ·exact .inr h
 ·exact .inl (eq_of_beq h).symm
theorem cmpZ_trans{a b c:List UInt8}(h:AX.cmpZ a b<0)(k:AX.cmpZ b c<0):AX.cmpZ a c<0:=by
 rw[cmpZ_lt]at *;exact less_trans a b c h k
theorem cmp2_lt(a b c d:List UInt8):AX.aq8 a b c d<0↔bytesLess a c=true∨(a=c∧bytesLess b d=true):=by
 unfold AX.aq8;by_cases h:a=c
 ·subst h;rw[if_neg (by simp[cmpZ_eq]),cmpZ_lt];simp[Val.less_irrefl]
 ·rw[if_pos (by rwa [ne_eq,cmpZ_eq]),cmpZ_lt];simp[h]
theorem cmp2_eq(a b c d:List UInt8):AX.aq8 a b c d=0↔a=c∧b=d:=by
 unfold AX.aq8;by_cases h:a=c
 ·subst h;rw[if_neg (by simp[cmpZ_eq]),cmpZ_eq];simp
 ·rw[if_pos (by rwa [ne_eq,cmpZ_eq]),cmpZ_eq];simp[h]
theorem cmp2_tri{a b c d:List UInt8}(h:¬AX.aq8 a b c d<0):(a=c∧b=d)∨AX.aq8 c d a b<0:=by
 rw[cmp2_lt]at *;rcases Classical.em (a=c)with e|e
 ·subst e;rcases cmpZ_tri (a:=b) (b:=d) (fun k=>h (.inr ⟨rfl,(cmpZ_lt _ _).1 k⟩))with e|e
  ·exact .inl ⟨rfl,e⟩
  ·exact .inr (.inr ⟨rfl,(cmpZ_lt _ _).1 e⟩)
 ·rcases cmpZ_tri (a:=a) (b:=c) (fun k=>h (.inl ((cmpZ_lt _ _).1 k)))with e2|e2
  ·exact absurd e2 e
  ·exact .inr (.inl ((cmpZ_lt _ _).1 e2))
theorem cmp2_trans{a b c d e f:List UInt8}(h:AX.aq8 a b c d<0)(k:AX.aq8 c d e f<0):AX.aq8 a b e f<0:=by
 rw[cmp2_lt]at *;rcases h with h|⟨rfl,h⟩
 ·rcases k with k|⟨rfl,k⟩
  ·exact .inl (less_trans _ _ _ h k)
  ·exact .inl h
 ·rcases k with k|⟨rfl,k⟩
  ·exact .inl k
  ·exact .inr ⟨rfl,less_trans _ _ _ h k⟩
def atI(a d:List UInt8)(x:Inst):Bool:=x.addr==a&&x.dep==d
theorem atI_iff(a d:List UInt8)(x:Inst):atI a d x=(AX.aq8 x.addr x.dep a d==0):=by
 rw[Z4,ZC,cmp2_eq];simp[atI]
def findL(l:List Inst)(a d:List UInt8):Option Inst:=l.find? (atI a d)
def remL(l:List Inst)(a d:List UInt8):List Inst:=l.filter fun x=>!atI a d x
def insL(x:Inst):List Inst→List Inst
 |[]=>[x]
 |y::l=>if AX.aq8 x.addr x.dep y.addr y.dep<0 then x::y::l else y::insL x l
def putL(l:List Inst)(x:Inst):List Inst:=insL x (remL l x.addr x.dep)
def SrtI(l:List Inst):Prop:=l.Pairwise fun x y=>AX.aq8 x.addr x.dep y.addr y.dep<0
theorem remL_none{l:List Inst}{a d:List UInt8}(h:∀x∈l,¬AX.aq8 x.addr x.dep a d=0):remL l a d=l:=
 List.filter_eq_self.2 fun x hx=>by rw[atI_iff];simp[h x hx]
theorem insL_front{x:Inst}{l:List Inst}(h:∀y∈l,AX.aq8 x.addr x.dep y.addr y.dep<0):insL x l=x::l:=by
 cases l with
 |nil=>rfl
 |cons y l=>unfold insL;rw[if_pos (h y Yb)]
theorem cut_ex(a d:List UInt8):∀l:List Inst,SrtI l→∃p,Cut l a d p∧hasB l a d p=(findL l a d).isSome∧(hasB l a d p=true→l[p]?=findL l a d)∧remI l a d p=remL l a d∧∀x:Inst,x.addr=a→x.dep=d→putI l x p=putL l x
 |[],_=>⟨0,⟨Zh _,fun i h=>absurd h (Nat.not_lt_zero i),fun i h=>absurd h (Nat.not_lt_zero i)⟩,rfl,fun _=>rfl,rfl,fun x _ _=>rfl⟩
 |y::l,hs=>by
  obtain⟨h1,h2⟩:=List.pairwise_cons.1 hs;by_cases hy:AX.aq8 y.addr y.dep a d<0
  ·obtain⟨p,hc,hb,hf,hr,hp⟩:=cut_ex a d l h2;have hne:atI a d y=false:=by rw[atI_iff];simp;omega
   have hbs:hasB (y::l) a d (p+1)=hasB l a d p:=by unfold hasB;rw[ZT]
   have hfs:findL (y::l) a d=findL l a d:=by unfold findL;rw[List.find?_cons,hne]
   have hrs:remL (y::l) a d=y::remL l a d:=by unfold remL;rw[List.filter_cons,hne];rfl
   refine⟨p+1,⟨by have:=hc.le;rw[Zi];omega,fun i h hi=>?_,fun i h hi=>?_⟩,by rw[hbs,hfs];exact hb,fun h=>by rw[hbs]at h;rw[hfs,ZT];exact hf h,?_,fun x hx1 hx2=>?_⟩
   ·cases i with
    |zero=>exact hy
    |succ i=>exact hc.lt i (by simpa using h) (by omega)
   ·cases i with
    |zero=>omega
    |succ i=>exact hc.ge i (by simpa using h) (by omega)
   ·rw[hrs,←hr];unfold remI;rw[hbs];split<;>rfl
   ·have:=hp x hx1 hx2;unfold putI putL at *;rw[hx1,hx2]at this⊢;have hi:insL x (y::remL l a d)=y::insL x (remL l a d):=by
     rw[insL,if_neg (by rw[hx1,hx2];intro k;have:=(cmp2_lt _ _ _ _).1 (cmp2_trans hy k);simp[Val.less_irrefl]at this)]
    rw[hbs,hrs,hi,←this];split<;>rfl
  ·have hgt:∀x∈l,AX.aq8 a d x.addr x.dep<0:=fun x hx=>by
    rcases cmp2_tri hy with⟨e1,e2⟩|e
    ·rw[←e1,←e2];exact h1 x hx
    ·exact cmp2_trans e (h1 x hx)
   have hne:∀x∈l,¬AX.aq8 x.addr x.dep a d=0:=fun x hx e=>by
    have h3:=hgt x hx;obtain⟨e1,e2⟩:=(cmp2_eq _ _ _ _).1 e;rw[e1,e2,cmp2_lt]at h3;simp[Val.less_irrefl]at h3
   have hge:∀x∈l,0≤AX.aq8 x.addr x.dep a d:=fun x hx=>by
    rcases Int.lt_or_le (AX.aq8 x.addr x.dep a d) 0 with h|h
    ·have:=(cmp2_lt _ _ _ _).1 (cmp2_trans h (hgt x hx));simp[Val.less_irrefl]at this
    ·exact h
   have hbs:hasB (y::l) a d 0=atI a d y:=by rw[atI_iff];rfl
   have hfn:findL l a d=none:=List.find?_eq_none.2 fun x hx=>by rw[atI_iff];simp[hne x hx]
   have hrl:=remL_none hne;refine⟨0,⟨Zq _,fun i h hi=>absurd hi (Nat.not_lt_zero i),fun i h hi=>?_⟩,?_,fun h=>?_,?_,fun x hx1 hx2=>?_⟩
   ·cases i with
    |zero=>exact Int.not_lt.1 hy
    |succ i=>exact hge _ (Zp _)
   ·rw[hbs];unfold findL at hfn⊢;rw[List.find?_cons];cases atI a d y
    ·rw[hfn];rfl
    ·rfl
   ·rw[hbs]at h;unfold findL;rw[List.find?_cons,h];rfl
   ·unfold remI;rw[hbs];have:remL (y::l) a d=if atI a d y=true then l else y::l:=by
     show List.filter _ (y::l)=_
     rw[List.filter_cons];have:l.filter (fun x=>!atI a d x)=l:=hrl;rw[this];cases atI a d y<;>rfl
    rw[this];cases atI a d y<;>rfl
   ·unfold putI putL;rw[hx1,hx2,hbs];cases hyb:atI a d y with
    |true=>
     have:remL (y::l) a d=l:=by
      show List.filter _ (y::l)=_
      rw[List.filter_cons,hyb];exact hrl
     rw[this,insL_front (by rw[hx1,hx2];exact hgt)];rfl
    |false=>
     have hyl:AX.aq8 a d y.addr y.dep<0:=by
      rcases cmp2_tri hy with e|e
      ·rw[atI_iff,(cmp2_eq _ _ _ _).2 e]at hyb;cases hyb
      ·exact e
     have:remL (y::l) a d=y::l:=by
      show List.filter _ (y::l)=_
      rw[List.filter_cons,hyb];have:l.filter (fun x=>!atI a d x)=l:=hrl;rw[this];rfl
     have hall:∀z∈y::l,AX.aq8 x.addr x.dep z.addr z.dep<0:=fun z hz=>by
      rw[hx1,hx2];rcases ZJ.1 hz with rfl|hz
      ·exact hyl
      ·exact hgt z hz
     rw[this,insL_front hall];rfl
theorem insL_mem{x z:Inst}:∀{l:List Inst},z∈insL x l→z=x∨z∈l
 |[],h=> .inl (Yq.1 h)
 |y::l,h=>by
  unfold insL at h;split at h
  ·exact ZJ.1 h
  ·rcases ZJ.1 h with h|h
   ·exact .inr (h▸Yb)
   ·rcases insL_mem h with h|h
    ·exact .inl h
    ·exact .inr (ZY _ h)
theorem insL_srt{x:Inst}:∀{l:List Inst},SrtI l→(∀y∈l,¬AX.aq8 y.addr y.dep x.addr x.dep=0)→SrtI (insL x l)
 |[],_,_=>List.pairwise_singleton _ _
 |y::l,hs,hn=>by
  obtain⟨h1,h2⟩:=List.pairwise_cons.1 hs;unfold insL;split
  ·next h=>exact List.pairwise_cons.2 ⟨fun z hz=>by
    rcases ZJ.1 hz with rfl|hz
    ·exact h
    ·exact cmp2_trans h (h1 z hz),hs⟩
  ·next h=>exact List.pairwise_cons.2 ⟨fun z hz=>by
    rcases insL_mem hz with rfl|hz
    ·rcases cmp2_tri h with⟨e1,e2⟩|e
     ·exact absurd ((cmp2_eq _ _ _ _).2 ⟨e1.symm,e2.symm⟩) (hn y Yb)
     ·exact e
    ·exact h1 z hz,insL_srt h2 fun z hz=>hn z (ZY _ hz)⟩
theorem remL_srt{l:List Inst}{a d:List UInt8}(h:SrtI l):SrtI (remL l a d):=List.Pairwise.filter _ h
theorem putL_srt{l:List Inst}{x:Inst}(h:SrtI l):SrtI (putL l x):=insL_srt (remL_srt h) fun y hy e=>by
 have:=(List.mem_filter.1 hy).2;rw[atI_iff,e]at this;cases this
theorem putL_mem{l:List Inst}{x z:Inst}(h:z∈putL l x):z=x∨z∈l:=by
 rcases insL_mem h with h|h
 ·exact .inl h
 ·exact .inr (List.mem_filter.1 h).1
theorem insL_length(x:Inst):∀l:List Inst,(insL x l).length=l.length+1
 |[]=>rfl
 |y::l=>by
  unfold insL;split
  ·rfl
  ·rw[Zi,insL_length x l,Zi]
theorem remL_length(l:List Inst)(a d:List UInt8):(remL l a d).length≤l.length:=List.length_filter_le _ _
theorem putL_length(l:List Inst)(x:Inst):(putL l x).length≤l.length+1:=by
 unfold putL;rw[insL_length];have:=remL_length l x.addr x.dep;omega
def remQ(l:List Pend)(t:List UInt8):List Pend:=l.filter fun x=>!(x.tok==t)
def insQ(x:Pend):List Pend→List Pend
 |[]=>[x]
 |y::l=>if AX.cmpZ x.tok y.tok<0 then x::y::l else y::insQ x l
def putQ(l:List Pend)(x:Pend):List Pend:=insQ x (remQ l x.tok)
def SrtP(l:List Pend):Prop:=l.Pairwise fun x y=>AX.cmpZ x.tok y.tok<0
theorem insQ_front{x:Pend}{l:List Pend}(h:∀y∈l,AX.cmpZ x.tok y.tok<0):insQ x l=x::l:=by
 cases l with
 |nil=>rfl
 |cons y l=>unfold insQ;rw[if_pos (h y Yb)]
theorem tok_eq(x t:List UInt8):(x==t)=(AX.cmpZ x t==0):=by rw[Z4,ZC,ZC,cmpZ_eq]
theorem cutP_ex(t:List UInt8):∀l:List Pend,SrtP l→∃p,CutP l t p∧remP l t p=remQ l t∧∀x:Pend,x.tok=t→putP l x p=putQ l x
 |[],_=>⟨0,⟨Zh _,fun i h=>absurd h (Nat.not_lt_zero i),fun i h=>absurd h (Nat.not_lt_zero i)⟩,rfl,fun x _=>rfl⟩
 |y::l,hs=>by
  obtain⟨h1,h2⟩:=List.pairwise_cons.1 hs;by_cases hy:AX.cmpZ y.tok t<0
  ·obtain⟨p,hc,hr,hp⟩:=cutP_ex t l h2;have hne:(y.tok==t)=false:=by rw[tok_eq];simp;omega
   have hbs:hasP (y::l) t (p+1)=hasP l t p:=by unfold hasP;rw[ZT]
   have hrs:remQ (y::l) t=y::remQ l t:=by unfold remQ;rw[List.filter_cons,hne];rfl
   refine⟨p+1,⟨by have:=hc.le;rw[Zi];omega,fun i h hi=>?_,fun i h hi=>?_⟩,?_,fun x hx=>?_⟩
   ·cases i with
    |zero=>exact hy
    |succ i=>exact hc.lt i (by simpa using h) (by omega)
   ·cases i with
    |zero=>omega
    |succ i=>exact hc.ge i (by simpa using h) (by omega)
   ·rw[hrs,←hr];unfold remP;rw[hbs];split<;>rfl
   ·have:=hp x hx;unfold putP putQ at *;rw[hx]at this⊢;have hi:insQ x (y::remQ l t)=y::insQ x (remQ l t):=by
     rw[insQ,if_neg (by rw[hx];intro k;have:=(cmpZ_lt _ _).1 (cmpZ_trans hy k);simp[Val.less_irrefl]at this)]
    rw[hbs,hrs,hi,←this];split<;>rfl
  ·have hgt:∀x∈l,AX.cmpZ t x.tok<0:=fun x hx=>by
    rcases cmpZ_tri hy with e1|e
    ·rw[←e1];exact h1 x hx
    ·exact cmpZ_trans e (h1 x hx)
   have hne:∀x∈l,¬AX.cmpZ x.tok t=0:=fun x hx e=>by
    have h3:=hgt x hx;rw[(cmpZ_eq _ _).1 e,cmpZ_lt]at h3;simp[Val.less_irrefl]at h3
   have hge:∀x∈l,0≤AX.cmpZ x.tok t:=fun x hx=>by
    rcases Int.lt_or_le (AX.cmpZ x.tok t) 0 with h|h
    ·have:=(cmpZ_lt _ _).1 (cmpZ_trans h (hgt x hx));simp[Val.less_irrefl]at this
    ·exact h
   have hbs:hasP (y::l) t 0=(y.tok==t):=by rw[tok_eq];rfl
   have hrl:l.filter (fun x=>!(x.tok==t))=l:=List.filter_eq_self.2 fun x hx=>by rw[tok_eq];simp[hne x hx]
   have hrs:remQ (y::l) t=if(y.tok==t)=true then l else y::l:=by
    show List.filter _ (y::l)=_
    rw[List.filter_cons,hrl];cases y.tok==t<;>rfl
   refine⟨0,⟨Zq _,fun i h hi=>absurd hi (Nat.not_lt_zero i),fun i h hi=>?_⟩,?_,fun x hx=>?_⟩
   ·cases i with
    |zero=>exact Int.not_lt.1 hy
    |succ i=>exact hge _ (Zp _)
   ·unfold remP;rw[hbs,hrs];cases y.tok==t<;>rfl
   ·unfold putP putQ;rw[hx,hbs,hrs];cases hyb:y.tok==t with
    |true=>rw[if_pos rfl,insQ_front (by rw[hx];exact hgt)];rfl
    |false=>
     have hyl:AX.cmpZ t y.tok<0:=by
      rcases cmpZ_tri hy with e|e
      ·rw[tok_eq,(cmpZ_eq _ _).2 e]at hyb;cases hyb
      ·exact e
     have hall:∀z∈y::l,AX.cmpZ x.tok z.tok<0:=fun z hz=>by
      rw[hx];rcases ZJ.1 hz with rfl|hz
      ·exact hyl
      ·exact hgt z hz
     rw[if_neg (show¬false=true by decide),if_neg (show¬false=true by decide),insQ_front hall];rfl
theorem insQ_mem{x z:Pend}:∀{l:List Pend},z∈insQ x l→z=x∨z∈l
 |[],h=> .inl (Yq.1 h)
 |y::l,h=>by
  unfold insQ at h;split at h
  ·exact ZJ.1 h
  ·rcases ZJ.1 h with h|h
   ·exact .inr (h▸Yb)
   ·rcases insQ_mem h with h|h
    ·exact .inl h
    ·exact .inr (ZY _ h)
theorem insQ_srt{x:Pend}:∀{l:List Pend},SrtP l→(∀y∈l,¬AX.cmpZ y.tok x.tok=0)→SrtP (insQ x l)
 |[],_,_=>List.pairwise_singleton _ _
 |y::l,hs,hn=>by
  obtain⟨h1,h2⟩:=List.pairwise_cons.1 hs;unfold insQ;split
  ·next h=>exact List.pairwise_cons.2 ⟨fun z hz=>by
    rcases ZJ.1 hz with rfl|hz
    ·exact h
    ·exact cmpZ_trans h (h1 z hz),hs⟩
  ·next h=>exact List.pairwise_cons.2 ⟨fun z hz=>by
    rcases insQ_mem hz with rfl|hz
    ·rcases cmpZ_tri h with e|e
     ·exact absurd ((cmpZ_eq _ _).2 e.symm) (hn y Yb)
     ·exact e
    ·exact h1 z hz,insQ_srt h2 fun z hz=>hn z (ZY _ hz)⟩
theorem remQ_srt{l:List Pend}{t:List UInt8}(h:SrtP l):SrtP (remQ l t):=List.Pairwise.filter _ h
theorem putQ_srt{l:List Pend}{x:Pend}(h:SrtP l):SrtP (putQ l x):=insQ_srt (remQ_srt h) fun y hy e=>by
 have:=(List.mem_filter.1 hy).2;rw[tok_eq,e]at this;cases this
theorem insQ_length(x:Pend):∀l:List Pend,(insQ x l).length=l.length+1
 |[]=>rfl
 |y::l=>by
  unfold insQ;split
  ·rfl
  ·rw[Zi,insQ_length x l,Zi]
theorem remQ_length(l:List Pend)(t:List UInt8):(remQ l t).length≤l.length:=List.length_filter_le _ _
theorem putQ_length(l:List Pend)(x:Pend):(putQ l x).length≤l.length+1:=by
 unfold putQ;rw[insQ_length];have:=remQ_length l x.tok;omega
theorem behind_lt(x y:Inst):behind x y=true↔AX.aq8 x.addr x.dep y.addr y.dep<0:=by
 rw[cmp2_lt];simp[behind]
theorem instsZ_srt:∀(l:List Inst) (p:Option Inst),instsZ p l=0→SrtI l∧∀y,p=some y→∀x∈l,AX.aq8 y.addr y.dep x.addr x.dep<0
 |[],p,_=>⟨List.Pairwise.nil,fun y _ x hx=>by cases hx⟩
 |x::l,p,h=>by
  unfold instsZ at h;by_cases k:instZ x≠0
  ·rw[if_pos k]at h;exact absurd h k
  rw[if_neg k]at h;cases p with
  |none=>
   obtain⟨h1,h2⟩:=instsZ_srt l (some x) h;exact⟨List.pairwise_cons.2 ⟨fun z hz=>h2 x rfl z hz,h1⟩,fun y hy=>by cases hy⟩
  |some y=>
   dsimp only at h;cases hb:behind y x with
   |false=>simp[hb]at h
   |true=>
    simp only[hb,ZW,Zn,if_false]at h;obtain⟨h1,h2⟩:=instsZ_srt l (some x) h;refine⟨List.pairwise_cons.2 ⟨fun z hz=>h2 x rfl z hz,h1⟩,fun y' hy z hz=>?_⟩;cases hy;have hyx:=(behind_lt y x).1 hb;rcases ZJ.1 hz with rfl|hz
    ·exact hyx
    ·exact cmp2_trans hyx (h2 x rfl z hz)
theorem pendsZ_srt:∀(l:List Pend) (p:Option (List UInt8)),pendsZ p l=0→SrtP l∧∀y,p=some y→∀x∈l,AX.cmpZ y x.tok<0
 |[],p,_=>⟨List.Pairwise.nil,fun y _ x hx=>by cases hx⟩
 |x::l,p,h=>by
  unfold pendsZ at h;split at h
  ·cases h
  ·next k=>
   obtain⟨h1,h2⟩:=pendsZ_srt l (some x.tok) h;refine⟨List.pairwise_cons.2 ⟨fun z hz=>h2 x.tok rfl z hz,h1⟩,fun y hy z hz=>?_⟩;subst hy;have hyx:AX.cmpZ y x.tok<0:=(cmpZ_lt _ _).2 (by simp[Val.badB]at k;exact k.2);rcases ZJ.1 hz with rfl|hz
   ·exact hyx
   ·exact cmpZ_trans hyx (h2 x.tok rfl z hz)
theorem check_srt{s:St}(h:checkZ s=0):SrtI s.insts∧SrtP s.pends∧s.insts.length≤512∧s.pends.length≤512∧s.outs.length≤512:=by
 unfold checkZ at h;split at h
 ·cases h
 split at h
 ·cases h
 split at h
 ·cases h
 next k0=>
 split at h
 ·next k=>exact absurd h k
 next k1=>
 split at h
 ·next k=>exact absurd h k
 next k2=>
 exact⟨(instsZ_srt _ _ (Classical.not_not.1 k1)).1,(pendsZ_srt _ _ (Classical.not_not.1 k2)).1,by omega,by omega,by omega⟩
end Sf
end
section
open Go.RowKit
namespace AX
theorem bxw:∀(v v':V),v.lens→v'.lens→∀h,AT 24 [v.A,v'.A] h (.bool (Val.eqB v v')):=by
 refine V.induct fun k n s is ks ih=>?_
 rintro⟨k',n',s',is',ks'⟩ hlen hlen' h;refine pcall ?_ rfl (by simp[V.A,V.cells,A.pure,A.data]) h;refine fo ?_;obtain⟨hil,hkl,_,hmem⟩:=V.lens_mk hlen;obtain⟨hil',hkl',_,hmem'⟩:=V.lens_mk hlen';have hE:Val.eqB (.mk k n s is ks) (.mk k' n' s' is' ks')=(k==k'&&n==n'&&s==s'&&ks==ks'&&Val.eqBs is is'):=by rw[Val.eqB]
 have hno:∀b,b=false→Val.eqB (.mk k n s is ks) (.mk k' n' s' is' ks')=b→True:=fun _ _ _=>trivial
 by_cases h1:k=k'
 rotate_left
 ·have e1:(k !=k')=true:=by simp[h1]
  refine go0 (ai @V_A (ai @azg e1)) ?_;exact⟨_,le_refl _,by rw[azn,hE,Zw.2 h1];rfl⟩
 have e1:(k !=k')=false:=by simp[h1]
 by_cases h2:n=n'
 rotate_left
 ·have e2:(n !=n')=true:=by simp[h2]
  refine go0 (ai @V_A (ai @azg (ai e1 e2))) ?_;exact⟨_,le_refl _,by rw[azn,hE,Zw.2 h2];simp⟩
 have e2:(n !=n')=false:=by simp[h2]
 by_cases h3:s=s'
 rotate_left
 ·have e3:(s !=s')=true:=by simp[h3]
  refine go0 (ai @V_A (ai @azg (ai e1 (ai e2 e3)))) ?_;exact⟨_,le_refl _,by rw[azn,hE,Zw.2 h3];simp⟩
 have e3:(s !=s')=false:=by simp[h3]
 by_cases h4:is.length=is'.length
 rotate_left
 ·have e4:((is.length:Int)!=(is'.length:Int))=true:=by simp;omega
  have hb:Val.eqBs is is'=false:=by rw[YJ];exact fun e=>h4 (czr e)
  refine go0 (ai @V_A (ai @azg (ai e1 (ai e2 (ai e3 (ai @V.cellss_length e4)))))) ?_;exact⟨_,le_refl _,by rw[azn,hE,hb];simp⟩
 have e4:((is.length:Int)!=(is'.length:Int))=false:=by simp[h4]
 by_cases h5:ks.length=ks'.length
 rotate_left
 ·have e5:((ks.length:Int)!=(ks'.length:Int))=true:=by simp;omega
  have hb:(ks==ks')=false:=by rw[Zw];rintro rfl;exact h5 rfl
  refine go0 (ai @V_A (ai @azg (ai e1 (ai e2 (ai e3 (ai @V.cellss_length (ai e4 (ai @azh e5)))))))) ?_;exact⟨_,le_refl _,by rw[azn,hE,hb];simp⟩
 have e5:((ks.length:Int)!=(ks'.length:Int))=false:=by simp[h5]
 have hE2:Val.eqB (.mk k n s is ks) (.mk k' n' s' is' ks')=(ks==ks'&&Val.eqBs is is'):=by rw[hE];simp[h1,h2,h3]
 refine go0 (ai @V_A (ai @azg (ai e1 (ai e2 (ai e3 (ai @V.cellss_length (ai e4 (ai @azh e5)))))))) ?_;refine azd (fun m ts hh=>hh=⟨[.cells 40 [.int .i64 k,.int .i64 n,.str s,.sl 5 .no (V.cellss is),.sl 1 .no (strsA ks)],.cells 40 [.int .i64 k',.int .i64 n',.str s',.sl 5 .no (V.cellss is'),.sl 1 .no (strsA ks')]],[]⟩∧∃(i:Nat),m=ks.length-i∧i≤ks.length∧(ks.drop i==ks'.drop i)=(ks==ks')∧ts 2=.ptr 0 0∧ts 3=.ptr 1 0∧ts 5=.int .i64 i) ks.length ?_ ?_
 ·refine⟨rfl,0,rfl,Zq _,rfl,?_⟩;(exact azo @azh)
 ·rintro m ts hh ⟨rfl,i,rfl,hi,heq,t2,t3,t5⟩;by_cases hlt:i<ks.length
  ·have hla:(i:Int)<((strsA ks).length:Int):=by rw[azh];omega
   have hlb:(i:Int)<((strsA ks').length:Int):=by rw[azh];omega
   have ei:IntKind.i64.wrap ((i:Int)+1)=(i:Int)+1:=wrap64 (by omega) (by omega);have ea:=az1 ks i hlt;have eb:=az1 ks' i (by omega);rw[Zl hlt,Zl (by omega:i<ks'.length)]at heq;refine go0 (ai t2 (ai t3 (ai t5 hla))) ?_;refine ayt (by decide) ?_;by_cases hc:ks[i]=ks'[i]
   ·have hc':(ks[i]!=ks'[i])=false:=by simp[hc]
    refine go0 (ai t2 (ai t3 (ai t5 (ai hla (ai hlb (ai ea (ai eb (ai hc' ei)))))))) ?_;refine⟨ks.length-(i+1),by omega,rfl,i+1,rfl,by omega,?_,?_⟩
    ·rw[←heq,List.cons_beq_cons,hc,YM,ZG]
    ·(exact azo (ai t2 (ai t3 (ai t5 ei))))
   ·have hc':(ks[i]!=ks'[i])=true:=by simp[hc]
    refine go0 (ai t2 (ai t3 (ai t5 (ai hla (ai hlb (ai ea (ai eb (ai hc' ei)))))))) ?_;exact⟨_,le_refl _,by rw[azn,hE2,←heq,List.cons_beq_cons,Zw.2 hc];simp⟩
  ·have hla:¬(i:Int)<((strsA ks).length:Int):=by rw[azh];omega
   rw[Zt (by omega),Zt (by omega)]at heq;have hE3:Val.eqB (.mk k n s is ks) (.mk k' n' s' is' ks')=Val.eqBs is is':=by rw[hE2,←heq];simp
   refine go0 (ai t2 (ai t3 (ai t5 hla))) ?_;refine azd (fun m ts hh=>hh=⟨[.cells 40 [.int .i64 k,.int .i64 n,.str s,.sl 5 .no (V.cellss is),.sl 1 .no (strsA ks)],.cells 40 [.int .i64 k',.int .i64 n',.str s',.sl 5 .no (V.cellss is'),.sl 1 .no (strsA ks')]],[]⟩∧∃(i:Nat),m=is.length-i∧i≤is.length∧Val.eqBs (is.drop i) (is'.drop i)=Val.eqBs is is'∧ts 2=.ptr 0 0∧ts 3=.ptr 1 0∧ts 6=.int .i64 i) is.length ?_ ?_
   ·refine⟨rfl,0,rfl,Zq _,rfl,?_⟩;(exact azo (ai @azh (ai t2 t3)))
   ·clear heq;rintro m ts hh ⟨rfl,i,rfl,hi,heq,t2,t3,t6⟩;by_cases hlt:i<is.length
    ·have hla:(i:Int)<((V.cellss is).length:Int):=by rw[V.cellss_length];omega
     have hlb:(i:Int)<((V.cellss is').length:Int):=by rw[V.cellss_length];omega
     have ei:IntKind.i64.wrap ((i:Int)+1)=(i:Int)+1:=wrap64 (by omega) (by omega);have ea:=V.cellss_get is i hlt;have eb:=V.cellss_get is' i (by omega);have hcall:=fun(h:Hp)=>ih is[i] (Zp hlt) (is'[i]'(by omega)) (hmem _ (Zp hlt)) (hmem' _ (Zp (by omega))) h
     rw[Zl hlt,Zl (by omega:i<is'.length),Val.eqBs]at heq;obtain⟨⟨k1,n1,s1,is1,ks1⟩,hv⟩:=Ex (is[i]);obtain⟨⟨k2,n2,s2,is2,ks2⟩,hv2⟩:=Ex (is'[i]'(by omega));rw[hv]at ea hcall heq;rw[hv2]at eb hcall heq;simp only[V.A,V.cells]at hcall;refine go0 (ai @azg (ai t2 (ai t3 (ai t6 hla)))) ?_;refine ayt (by decide) ?_;refine go0 (ai @azg (ai t2 (ai t3 (ai t6 (ai hla (ai hlb (ai ea eb))))))) ?_;refine dvg (by simp only[ax6,aq6,aq5,bvd,bj6,aq3,aks,akn,akh,azn,aq4,astep,bop,uop,loadA,storeA,appA,ssliceA,eqA,eqCells,fillA,rowsA,setCells,A.cells,A.one,A.data,aqk,ZM,Y6,Yl,ZG,Z3,YQ,Y1,Y8,Yg,YK,ZE,Yj,ZZ,ZX,Z7,ZT,Zi,ZH,Zg,Zd,ZN,ZV,Yx,YA,Z5,Z8,YL,Zab,Zb,Yr,Nat.reduceAdd,Nat.reduceSub,Nat.reduceMul,Nat.reduceLeDiff,Nat.reduceEqDiff,Nat.reduceBEq,YS,YX,if_true,if_false,reduceIte,ite_true,ite_false,true_and,and_true,ne_eq,YH,YR,Zn,reduceCtorEq,and_self,Yc,Yt,Zh,ZW,ZU,decide_true,decide_false,t2,t3,t6]<;>with_reducible rfl) (hcall _) ?_;rcases azs (Val.eqB (.mk k1 n1 s1 is1 ks1) (.mk k2 n2 s2 is2 ks2))with hz|hz
     ·rw[hz]at heq⊢;refine go0 (ai t2 (ai t3 (ai t6 ei))) ?_;refine⟨is.length-(i+1),by omega,rfl,i+1,rfl,by omega,by simpa using heq,?_⟩;(exact azo (ai t2 (ai t3 (ai t6 ei))))
     ·rw[hz]at heq⊢;refine go0 (ai t2 (ai t3 (ai t6 ei))) ?_;exact⟨_,le_refl _,by rw[azn,hE3,←heq];rfl⟩
    ·have hla:¬(i:Int)<((V.cellss is).length:Int):=by rw[V.cellss_length];omega
     rw[Zt (by omega),Zt (by omega)]at heq;refine go0 (ai t2 (ai t3 (ai t6 hla))) ?_;exact⟨_,le_refl _,by rw[azn,hE3,←heq];rfl⟩
end AX
namespace Jr
def noneR(x:Sf.Inst):Bool:=x.addr == []&&x.dep == []&&x.id == []&&x.typ == []&&Val.eqB x.attrs (.mk 0 0 [] [] [])&&x.ver==0&&!x.tainted&&!x.first&&(x.deps.length:Int)==0
def emptyR(s:Sf.St):Bool:=s.lin == []&&s.ser==0&&((s.insts.length:Int)+s.pends.length+s.outs.length)==0
def stepR(r:Jr):Bool:=emptyR r.base&&decide (r.step≥0)&&decide (r.step<2048)&&decide (r.op≥1)&&decide (r.op≤4)&&shortB [r.addr,r.dep,r.typ,r.tok]
def validR(r:Jr):Bool:=
 if r.kind=1 then r.step==0&&r.op==0&&r.addr == []&&r.dep == []&&r.typ == []&&r.tok == []&&r.err==0&&noneR r.after
 else if r.kind=5 then r.step==0&&r.op==0&&r.addr == []&&r.dep == []&&r.typ == []&&r.tok == []&&r.err==0&&noneR r.after&&emptyR r.base
 else if r.kind=2 then stepR r&&r.err==0&&noneR r.after&&(r.op==1||r.tok == [])
 else if r.kind=3 then stepR r&&r.err==0&&r.tok == []&&instB r.after&&(r.op==1||r.op==2||noneR r.after)
 else if r.kind=4 then stepR r&&decide (r.err>0)&&decide (r.err≤42)&&r.tok == []&&instB r.after&&(r.op==1||r.op==2||noneR r.after)
 else false
theorem noneR_eq(x:Sf.Inst):noneR x=noneB x:=by
 obtain⟨a,d,i,t,⟨k,n,s,is,ks⟩,v,tn,fi,ds⟩:=x;unfold noneR noneB zeroV;simp only[Val.eqB];have h1:(ks == [])=((ks.length:Int)==0):=by cases ks<;>simp<;>omega
 have h2:Val.eqBs is []=((is.length:Int)==0):=by
  cases is with
  |nil=>simp[Val.eqBs]
  |cons v l=>
   simp only[Val.eqBs,Zi]
   symm
   simp;omega
 rw[h1,h2];cases(k==0)<;>cases(n==0)<;>cases(s == [])<;>cases((is.length:Int)==0)<;>cases((ks.length:Int)==0)<;>simp
theorem emptyR_eq(s:Sf.St):emptyR s=emptyB s:=by
 unfold emptyR emptyB;have h:(((s.insts.length:Int)+s.pends.length+s.outs.length)==0)=(((s.insts.length:Int)==0)&&((s.pends.length:Int)==0)&&((s.outs.length:Int)==0)):=by
  rw[Z4];simp only[ZC,Zf];omega
 rw[h];simp only[Bool.and_assoc]
theorem none_inst{x:Sf.Inst}(h:noneB x=true):instB x=true:=by
 obtain⟨a,d,i,t,⟨k,n,s,is,ks⟩,v,tn,fi,ds⟩:=x;unfold noneB zeroV at h;simp only[Zf,ZC]at h;obtain⟨⟨⟨⟨⟨⟨⟨⟨⟨⟨⟨⟨hk,hn⟩,hs⟩,hi⟩,hks⟩,ha⟩,hd⟩,hid⟩,ht⟩,hv⟩,_⟩,_⟩,hde⟩:=h;have e1:is=[]:=ZS (by omega);have e2:ks=[]:=ZS (by omega);have e3:ds=[]:=ZS (by omega);subst hk hn hs ha hd hid ht hv e1 e2 e3;cases tn<;>cases fi<;>decide +kernel
theorem validR_eq(r:Jr):validR r=validB r:=by
 unfold validR validB stepR stepB afterB bareB makesB;rw[noneR_eq,emptyR_eq];have hs4:shortB [r.addr,r.dep,r.typ,r.tok]=(shortB [r.addr,r.dep,r.typ]&&shortB [r.tok]):=by
  simp only[shortB,ZM,Y6,Yl,Bool.and_assoc]
 have ht:(r.tok == [])=true→shortB [r.tok]=true:=fun h=>by
  rw[ZC]at h;rw[h];rfl
 have hni:=@none_inst r.after;have he:decide (r.err>0)=decide (r.err≥1):=by rw[decide_eq_decide];omega
 rw[hs4,he];have hb:badB r=(!(r.kind==1)&&!emptyB r.base||!(r.kind==2)&&!(r.tok == [])||!(r.kind==4)&&!(r.err==0)):=rfl;generalize badB r=B at *;clear hs4 he;obtain⟨kd,base,st,op,ad,dp,ty,tk,er,af⟩:=r;dsimp only at *;generalize shortB [tk]=T at *;generalize shortB [ad,dp,ty]=S at *;generalize noneB af=N at *;generalize instB af=I at *;generalize emptyB base=E at *;generalize (tk == [])=K at *;generalize (er==0)=R at *;generalize decide (er≥1)=R1 at *;generalize decide (er≤42)=R2 at *;generalize (st==0)=P0 at *;generalize (op==0)=P1 at *;generalize (op==1)=O1 at *;generalize (op==2)=O2 at *;generalize decide (st≥0)=P2 at *;generalize decide (st<2048)=P3 at *;generalize decide (op≥1)=P4 at *;generalize decide (op≤4)=P5 at *;generalize (ad == [])=Q1 at *;generalize (dp == [])=Q2 at *;generalize (ty == [])=Q3 at *;by_cases k1:kd=1
 ·subst k1;simp at hb;subst hb;clear hni ht;cases K<;>cases R<;>simp
 by_cases k5:kd=5
 ·subst k5;simp at hb;subst hb;clear hni ht;cases E<;>cases K<;>cases R<;>simp
 by_cases k2:kd=2
 ·subst k2;simp at hb;subst hb;clear hni;cases K
  ·clear ht;cases E<;>cases R<;>cases T<;>cases S<;>cases N<;>simp
  ·have:=ht rfl;subst this;cases E<;>cases R<;>cases S<;>cases N<;>simp
 have hT:K=true→T=true:=ht;by_cases k3:kd=3
 ·subst k3;simp at hb;subst hb;cases K
  ·clear ht;simp
  ·have:=ht rfl;subst this;clear ht hT;cases E<;>cases R<;>cases S<;>simp<;>(cases N<;>cases I<;>cases O1<;>cases O2<;>simp at hni⊢)
 by_cases k4:kd=4
 ·subst k4;simp at hb;subst hb;cases K
  ·clear ht;simp
  ·have:=ht rfl;subst this;clear ht hT;cases E<;>cases R1<;>cases R2<;>cases S<;>simp<;>(cases N<;>cases I<;>cases O1<;>cases O2<;>simp at hni⊢)
 simp[k1,k2,k3,k4,k5]
end Jr
namespace Jr
def isInt(n:Int)(r:Jr):Bool:=r.kind==2&&r.step==n
def intentR(l:List Jr)(n:Int):Option Jr:=l.find? (isInt n)
def lastEnd(l:List Jr):Bool:=match l.getLast? with
 |some r=>r.kind==5
 |none=>false
def followsR(l:List Jr)(r:Jr):Bool:=
 if l.isEmpty||r.kind==1 then l.isEmpty&&r.kind==1
 else if lastEnd l=true then false
 else if r.kind=2 then !(intentR l r.step).isSome
 else if r.kind=5 then(unfin l).isEmpty
 else match intentR l r.step with
  |some i=>!endedB r.step l&&i.op==r.op&&i.addr==r.addr&&i.typ==r.typ
  |none=>false
def chkR:List Jr→List Jr→Int
 |_,[]=>0
 |p,r::l=>if(!r.validR||(r.kind==1&&Sf.checkZ r.base !=0))=true then 1 else if followsR p r=true then chkR (p++[r]) l else 38
end Jr
theorem bjt{α:Type}[DecidableEq α]:∀(b a:List α),b.Nodup→b ⊆ a→b.length≤a.length
 |[],a,_,_=>Zq _
 |x::b,a,hn,hs=>by
  have hx:x∈a:=hs (Yb);have hn':=List.nodup_cons.1 hn;have h1:b ⊆ a.erase x:=fun y hy=>(List.mem_erase_of_ne (fun e=>hn'.1 (by rw[←e];exact hy))).2 (hs (ZY _ hy))
  have h2:=bjt b (a.erase x) hn'.2 h1;have h3:=List.length_erase_of_mem hx;have h4:0<a.length:=List.length_pos_of_mem hx;rw[Zi];omega
theorem cqx{α:Type}[DecidableEq α]{a b:List α}(ha:a.Nodup)(hb:b.Nodup)(hs:b ⊆ a):a.length=b.length↔a ⊆ b:=by
 constructor
 ·intro h x hx;refine Classical.byContradiction fun hc=>?_
  have h1:b ⊆ a.erase x:=fun y hy=>(List.mem_erase_of_ne (fun e=>hc (by rw[←e];exact hy))).2 (hs hy)
  have h2:=bjt b _ hb h1;have h3:=List.length_erase_of_mem hx;have h4:0<a.length:=List.length_pos_of_mem hx;omega
 ·intro h;exact Nat.le_antisymm (bjt _ _ ha h) (bjt _ _ hb hs)
def gkeys{α:Type}(m:List (Int×α)):List Int:=m.map (·.1)
theorem aqq{α:Type}(n:Int):∀m:List (Int×α),(gfind n m).isSome=true↔n∈gkeys m
 |[]=>by simp[gfind,gkeys]
 |(k,x)::m=>by
  have ih:=aqq n m;have e:gfind n ((k,x)::m)=if n=k then some x else gfind n m:=rfl
  rw[e];by_cases h:n=k
  ·subst h;simp[gkeys]
  ·rw[if_neg h,ih];unfold gkeys;rw[ZE,ZJ];simp[h]
theorem ayc{α:Type}(n:Int)(x:α):∀m:List (Int×α),gkeys (gput n x m)=if n∈gkeys m then gkeys m else gkeys m++[n]
 |[]=>by simp[gput,gkeys]
 |(k,y)::m=>by
  have ih:=ayc n x m;unfold gput;by_cases h:n=k
  ·subst h;simp[gkeys]
  ·rw[if_neg h];unfold gkeys at *;simp only[ZE,ZJ,h,false_or,ih];split<;>rfl
theorem bq2{α:Type}(n:Int)(x:α)(m:List (Int×α))(h:(gkeys m).Nodup):(gkeys (gput n x m)).Nodup:=by
 rw[ayc];split
 ·exact h
 ·next hc=>
  rw[List.nodup_append];exact⟨h,by simp,by rintro a ha b hb rfl;rw[Yq]at hb;subst hb;exact hc ha⟩
theorem cz7{α : Type}(n k : Int)(x : α)(m : List (Int × α)): k ∈ gkeys (gput n x m) ↔ k = n ∨ k ∈ gkeys m := by
 rw[ayc];split
 ·next hc => constructor
             · exact .inr
             · rintro (rfl | h)
               · exact hc
               · exact h
 ·rw[YE,Yq];exact Or.comm
namespace Jr
structure Foo(f:Fo)(p:List Jr):Prop where
 n:f.n=(p.length:Int)
 e:f.ended=lastEnd p
 i:∀n,gfind n f.ints=intentR p n
 r:∀n,(gfind n f.ress).isSome=endedB n p
 rt:∀n,(gfind n f.ress).getD false=endedB n p
 di:(gkeys f.ints).Nodup
 dr:(gkeys f.ress).Nodup
 s:gkeys f.ress ⊆ gkeys f.ints
theorem foo0:Foo ⟨0,false,[],[],0,0⟩ []:=⟨rfl,rfl,fun _=>rfl,fun _=>rfl,fun _=>rfl,by simp[gkeys],by simp[gkeys],by simp[gkeys]⟩
theorem unfin_nil(l:List Jr):(unfin l).isEmpty=true↔∀n,(intentR l n).isSome=true→endedB n l=true:=by
 unfold unfin intentR;rw[List.isEmpty_iff,List.filter_eq_nil_iff];constructor
 ·intro h n hn;rw[List.find?_isSome]at hn;obtain⟨r,hr,hi⟩:=hn;have:=h r hr;unfold isInt at hi;rw[Zf,ZC,ZC]at hi;rw[hi.1,hi.2]at this;simpa using this
 ·intro h r hr hc;rw[Zf,ZC]at hc;have:=h r.step (by rw[List.find?_isSome];exact⟨r,hr,by unfold isInt;rw[hc.1];simp⟩);rw[this]at hc;simp at hc
theorem Foo.lens{f:Fo}{p:List Jr}(h:Foo f p):((f.ints.length:Int)==(f.ress.length:Int))=(unfin p).isEmpty:=by
 rw[Z4,unfin_nil,ZC];have h1:=cqx h.di h.dr h.s;have e1:(gkeys f.ints).length=f.ints.length:=Zj _;have e2:(gkeys f.ress).length=f.ress.length:=Zj _;rw[e1,e2]at h1;have h2:((f.ints.length:Int)=(f.ress.length:Int))↔f.ints.length=f.ress.length:=by omega
 rw[h2,h1];constructor
 ·intro hs n hn;rw[←h.i]at hn;rw[←h.r];exact(aqq n _).2 (hs ((aqq n _).1 hn))
 ·intro hs n hn;have:=hs n (by rw[←h.i];exact(aqq n _).2 hn);rw[←h.r]at this;exact(aqq n _).1 this
theorem lastEnd_snoc(p:List Jr)(r:Jr):lastEnd (p++[r])=(r.kind==5):=by unfold lastEnd;rw[List.getLast?_append];rfl
theorem intentR_snoc(p:List Jr)(r:Jr)(n:Int):intentR (p++[r]) n=(intentR p n).or (if isInt n r=true then some r else none):=by
 unfold intentR;rw[List.find?_append];congr 1;cases h:isInt n r<;>simp[List.find?,h]
theorem endedB_snoc(p:List Jr)(r:Jr)(n:Int):endedB n (p++[r])=(endedB n p||((r.kind==3||r.kind==4)&&r.step==n)):=by
 unfold endedB;rw[List.any_append];simp
theorem foo_next{f:Fo}{p:List Jr}(h:Foo f p)(hl:p.length<1000000){r:Jr}(hk:r.kind=1∨r.kind=2∨r.kind=3∨r.kind=4∨r.kind=5):
  (f.next r).1=followsR p r∧(followsR p r=true→Foo (f.next r).2 (p++[r])):=by
 have hw:IntKind.i64.wrap (f.n+1)=((p++[r]).length:Int):=by
  rw[h.n,AX.wrap64 (by omega) (by omega),Zb];simp
 have hz:(f.n==0)=p.isEmpty:=by
  rw[h.n];cases p<;>simp<;>omega
 unfold Fo.next followsR;rw[h.e,hz];cases p with
 |nil=>
  have h0:lastEnd ([]:List Jr)=false:=rfl;rw[h0];by_cases k1:r.kind=1
  ·have:(r.kind==1)=true:=by rw[k1];rfl
   simp only[this,k1];refine⟨by simp,fun _=>?_⟩;simp;refine⟨hw,?_,?_,?_,?_,h.di,h.dr,h.s⟩
   ·show false=lastEnd [r]
    unfold lastEnd;simp[k1]
   ·intro n;show gfind n f.ints=_
    rw[h.i];unfold intentR isInt;simp[List.find?,k1]
   ·intro n;show(gfind n f.ress).isSome=_
    rw[h.r];unfold endedB;simp[k1]
   ·intro n;show(gfind n f.ress).getD false=_
    rw[h.rt];unfold endedB;simp[k1]
  ·have:(r.kind==1)=false:=by simp[k1]
   simp[this]
 |cons a p'=>
  generalize hp:a::p'=p at *;have he:p.isEmpty=false:=by rw[←hp];rfl
  rw[he];by_cases k1:r.kind=1
  ·have:(r.kind==1)=true:=by rw[k1];rfl
   simp[this]
  have hk1:(r.kind==1)=false:=by simp[k1]
  rw[hk1];cases hE:lastEnd p;rotate_left
  ·simp
  simp only[Yn,YO,YM,ZW,Zn,if_false];by_cases k2:r.kind=2
  ·simp only[k2,if_true];rw[h.i];refine⟨rfl,fun hf=>?_⟩;rw[YC]at hf;refine⟨hw,?_,?_,?_,?_,bq2 _ _ _ h.di,h.dr,fun x hx=>(cz7 _ _ _ _).2 (.inr (h.s hx))⟩
   ·show false=_
    rw[lastEnd_snoc,k2];rfl
   ·intro n;show gfind n (gput r.step r f.ints)=_
    rw[AX.axc,intentR_snoc,h.i];by_cases hn:n=r.step
    ·subst hn;rw[if_pos rfl];cases hq:intentR p r.step with
     |some x=>rw[hq]at hf;simp at hf
     |none=>unfold isInt;simp[k2]
    ·rw[if_neg hn];have:isInt n r=false:=by unfold isInt;simp;intro _ e;exact hn e.symm
     rw[this];simp
   ·intro n;show(gfind n f.ress).isSome=_
    rw[h.r,endedB_snoc,k2];simp
   ·intro n;show(gfind n f.ress).getD false=_
    rw[h.rt,endedB_snoc,k2];simp
  by_cases k5:r.kind=5
  ·simp only[k5];simp;refine⟨h.lens,fun _=>⟨hw,?_,?_,?_,?_,h.di,h.dr,h.s⟩⟩
   ·show true=_
    rw[lastEnd_snoc,k5];rfl
   ·intro n;show gfind n f.ints=_
    rw[intentR_snoc,h.i];have:isInt n r=false:=by unfold isInt;simp[k5]
    rw[this];simp
   ·intro n;show(gfind n f.ress).isSome=_
    rw[h.r,endedB_snoc,k5];simp
   ·intro n;show(gfind n f.ress).getD false=_
    rw[h.rt,endedB_snoc,k5];simp
  have k34:r.kind=3∨r.kind=4:=by omega
  have hb34:(r.kind==3||r.kind==4)=true:=by rcases k34 with e|e<;>rw[e]<;>rfl
  simp only[k2,k5,k34,if_true,if_false];rw[h.i,h.rt];refine⟨rfl,fun hf=>?_⟩;cases hq:intentR p r.step with
  |none=>rw[hq]at hf;simp at hf
  |some x=>
   refine⟨hw,?_,?_,?_,?_,h.di,bq2 _ _ _ h.dr,?_⟩
   ·show false=_
    rw[lastEnd_snoc];simp[k5]
   ·intro n;show gfind n f.ints=_
    rw[intentR_snoc,h.i];have:isInt n r=false:=by unfold isInt;simp[k2]
    rw[this];simp
   ·intro n;show(gfind n (gput r.step true f.ress)).isSome=_
    rw[AX.axc,endedB_snoc,hb34];by_cases hn:n=r.step
    ·subst hn;simp
    ·rw[if_neg hn,h.r,show(r.step==n)=false by simp;exact fun e=>hn e.symm];simp
   ·intro n;show(gfind n (gput r.step true f.ress)).getD false=_
    rw[AX.axc,endedB_snoc,hb34];by_cases hn:n=r.step
    ·subst hn;simp
    ·rw[if_neg hn,h.rt,show(r.step==n)=false by simp;exact fun e=>hn e.symm];simp
   ·intro k hk;rcases(cz7 _ _ _ _).1 hk with rfl|hk
    ·exact(aqq _ _).1 (by rw[h.i,hq];rfl)
    ·exact h.s hk
theorem valid_kind{r:Jr}(h:r.validB=true):r.kind=1∨r.kind=2∨r.kind=3∨r.kind=4∨r.kind=5:=by
 unfold validB at h;by_cases k1:r.kind=1
 ·exact .inl k1
 by_cases k2:r.kind=2
 ·exact .inr (.inl k2)
 by_cases k3:r.kind=3
 ·exact .inr (.inr (.inl k3))
 by_cases k4:r.kind=4
 ·exact .inr (.inr (.inr (.inl k4)))
 by_cases k5:r.kind=5
 ·exact .inr (.inr (.inr (.inr k5)))
 simp[k1,k2,k3,k4,k5]at h
theorem chk_eq:∀(l p:List Jr) (f:Fo),Foo f p→p.length+l.length≤1000000→Fo.check f l=chkR p l
 |[],p,f,h,hl=>rfl
 |r::l,p,f,h,hl=>by
  unfold Fo.check chkR;rw[validR_eq];cases hv:(!r.validB||(r.kind==1&&Sf.checkZ r.base !=0));rotate_left
  ·rfl
  have hv':r.validB=true:=by
   cases hb:r.validB
   ·rw[hb]at hv;simp at hv
   ·rfl
  rw[Zi]at hl;have hn:=foo_next h (by omega) (valid_kind hv');simp only[Zn,if_false];rw[hn.1];cases hf:followsR p r
  ·rfl
  ·rw[if_pos rfl,if_pos rfl];exact chk_eq l (p++[r]) _ (hn.2 hf) (by rw[Zb];simp;omega)
end Jr
namespace Rp
def intL(p:List Jr)(n:Int):Option Jr:=p.reverse.find? (Jr.isInt n)
theorem intL_snoc(p:List Jr)(r:Jr)(n:Int):intL (p++[r]) n=if Jr.isInt n r=true then some r else intL p n:=by
 unfold intL;rw[List.reverse_append,List.reverse_singleton,List.singleton_append,List.find?_cons];cases Jr.isInt n r<;>rfl
def tokOf:Option Jr→List UInt8
 |some r=>r.tok
 |none=>[]
def pendOf:Option Jr→Sf.Pend
 |some r=>⟨r.addr,r.typ,r.tok⟩
 |none=>⟨[],[],[]⟩
def putS(s:Sf.St)(x:Sf.Inst):Sf.St:={ s with insts:=Sf.putL s.insts x }
def remS(s:Sf.St)(a d:List UInt8):Sf.St:={ s with insts:=Sf.remL s.insts a d }
def putR(s:Sf.St)(x:Sf.Pend):Sf.St:={ s with pends:=Sf.putQ s.pends x }
def remR(s:Sf.St)(t:List UInt8):Sf.St:={ s with pends:=Sf.remQ s.pends t }
def hasS(s:Sf.St)(a d:List UInt8):Bool:=(Sf.findL s.insts a d).isSome
def depose(s:Sf.St)(a k:List UInt8):Sf.St×Bool:=
 match Sf.findL s.insts a []with
 |none=>(s,false)
 |some x=>if hasS s a k=true then(s,false)else(putS (remS s a []) { x with dep:=k },true)
def created(s:Sf.St)(r:Jr)(t:List UInt8):Sf.St×Bool:=
 if r.dep=[]then(remR (putS s r.after) t,true)else(remR (putS (depose s r.addr r.dep).1 r.after) t,(depose s r.addr r.dep).2)
def one(s:Sf.St)(f:Option Jr)(r:Jr):Sf.St×Bool:=
 if r.kind=1 then(r.base,true)
 else if r.kind=3∧r.op=1 then created s r (tokOf f)
 else if r.kind=3∧r.op=2 then(putS s r.after,hasS s r.addr [])
 else if r.kind=3∧r.op=3 then(remS s r.addr r.dep,hasS s r.addr r.dep)
 else if r.kind=4∧r.op=1∧r.after.id≠[]then created s r (tokOf f)
 else if r.kind=4∧r.op=2∧r.after.id≠[]then(putS s r.after,hasS s r.addr [])
 else if r.kind=4∧r.op=1∧r.err=31 then(putR s (pendOf f),true)
 else(s,true)
def stepP(s:Sf.St)(f:Option Jr)(r:Jr):Int×Sf.St:=
 if r.kind=1 then(if r.base.lin=s.lin then(if r.base.ser=s.ser then(0,r.base)else(22,s))else(23,s))
 else if(one s f r).2=true then(0,(one s f r).1)else(38,s)
def runP:Sf.St→List Jr→List Jr→Int×Sf.St
 |s,_,[]=>(0,s)
 |s,p,r::l=>if(stepP s (intL p r.step) r).1=0 then runP (stepP s (intL p r.step) r).2 (p++[r]) l else((stepP s (intL p r.step) r).1,s)
def runR:Sf.St→List Jr→List Jr→Option Sf.St
 |s,_,[]=>some s
 |s,p,r::l=>if(one s (intL p r.step) r).2=true then runR (one s (intL p r.step) r).1 (p++[r]) l else none
def asks(s:Sf.St)(l:List Jr):Sf.St:=l.foldl (fun s r=>putR s (pendOf (some r))) s
def openP(l:List Jr):List Jr:=(Jr.unfin l).filter fun r=>r.op==1
def openR:List Jr→List Jr
 |[]=>[]
 |r::l=>if(r.kind==2&&r.op==1&&!Jr.endedB r.step l)=true then r::openR l else openR l
def raise(s:Sf.St)(n:Int):Sf.St:={ s with ser:=IntKind.i64.wrap (n+1) }
def zeroS:Sf.St:=⟨[],0,[],[],[]⟩
def replayP(s:Sf.St)(l:List Jr):Int×Sf.St:=
 if Sf.checkZ s≠0 then(1,zeroS)
 else if Jr.chkR [] l≠0 then(Jr.chkR [] l,zeroS)
 else match l with
  |[]=>(0,s)
  |r::_=>if(runP s [] l).1=0 then(0,raise (asks (runP s [] l).2 (openP l)) r.base.ser)else((runP s [] l).1,zeroS)
def replayR(s:Sf.St)(l:List Jr):Int×Sf.St:=
 if Sf.checkZ s≠0 then(1,zeroS)
 else if Jr.chkR [] l≠0 then(Jr.chkR [] l,zeroS)
 else match l with
  |[]=>(0,s)
  |r::_=>if r.base.lin≠s.lin then(23,zeroS)else if r.base.ser≠s.ser then(22,zeroS)else match runR s [] l with
   |some o=>(0,raise (asks o (openR l)) s.ser)
   |none=>(38,zeroS)
theorem depose_none{s:Sf.St}{a d:List UInt8}(h:Sf.findL s.insts a []=none):depose s a d=(s,false):=by unfold depose;rw[h]
theorem depose_used{s:Sf.St}{a d:List UInt8}{x:Sf.Inst}(h:Sf.findL s.insts a []=some x)(k:(Sf.findL s.insts a d).isSome=true):depose s a d=(s,false):=by unfold depose;rw[h];dsimp only;rw[if_pos (show hasS s a d=true from k)]
theorem depose_some{s:Sf.St}{a d:List UInt8}{x:Sf.Inst}(h:Sf.findL s.insts a []=some x)(k:Sf.findL s.insts a d=none):depose s a d=(putS (remS s a []) { x with dep:=d },true):=by unfold depose;rw[h];dsimp only;rw[if_neg (show¬hasS s a d=true by unfold hasS;rw[k];decide)]
theorem chkR_cons{p:List Jr}{r:Jr}{l:List Jr}(h:Jr.chkR p (r::l)=0):Jr.followsR p r=true∧Jr.chkR (p++[r]) l=0∧(r.kind=1→Sf.checkZ r.base=0):=by
 unfold Jr.chkR at h;split at h
 ·cases h
 next h1=>
 split at h
 ·next h2=>
  refine⟨h2,h,fun hk=>?_⟩;refine Classical.byContradiction fun hc=>h1 ?_
  rw[ZP];exact .inr (by simp[hk,hc])
 ·cases h
theorem follows_one{p:List Jr}{r:Jr}(h:Jr.followsR p r=true):(p.isEmpty=true↔r.kind=1):=by
 unfold Jr.followsR at h;split at h
 ·next hc=>
  rw[Zf,ZC]at h;exact⟨fun _=>h.2,fun _=>h.1⟩
 ·next hc=>
  rw[ZP,ZC]at hc;exact⟨fun h=>absurd (.inl h) hc,fun h=>absurd (.inr h) hc⟩
theorem run_tail:∀(l p:List Jr) (s:Sf.St),p≠[]→Jr.chkR p l=0→(runR s p l=none∧(runP s p l).1=38)∨∃o,runR s p l=some o∧runP s p l=(0,o)
 |[],p,s,_,_=> .inr ⟨s,rfl,rfl⟩
 |r::l,p,s,hp,h=>by
  obtain⟨hf,hc,_⟩:=chkR_cons h;have hk:r.kind≠1:=fun hk=>hp (List.isEmpty_iff.1 ((follows_one hf).2 hk))
  have es:stepP s (intL p r.step) r=if(one s (intL p r.step) r).2=true then(0,(one s (intL p r.step) r).1)else(38,s):=by unfold stepP;rw[if_neg hk]
  unfold runR runP;rw[es];cases hb:(one s (intL p r.step) r).2 with
  |false=>exact .inl ⟨rfl,rfl⟩
  |true=>exact run_tail l (p++[r]) _ (by simp) hc
theorem open_gen:∀(l p:List Jr),(∀n,Jr.endedB n p=true→(Jr.intentR p n).isSome=true)→Jr.chkR p l=0→openR l=(l.filter fun r=>r.kind==2&&!Jr.endedB r.step (p++l)).filter fun r=>r.op==1
 |[],p,_,_=>rfl
 |r::l,p,hi,h=>by
  obtain⟨hf,hc,_⟩:=chkR_cons h;have e1:p++r::l=(p++[r])++l:=by simp
  have hi2:∀n,Jr.endedB n (p++[r])=true→(Jr.intentR (p++[r]) n).isSome=true:=fun n hn=>by
   rw[Jr.endedB_snoc,ZP]at hn;rw[Jr.intentR_snoc];have hs:(Jr.intentR p n).isSome=true:=by
    rcases hn with hn|hn
    ·exact hi n hn
    ·rw[Zf,ZC]at hn;obtain⟨h1,rfl⟩:=hn;have hk:r.kind=3∨r.kind=4:=by simpa using h1
     unfold Jr.followsR at hf;split at hf
     ·rw[Zf,ZC]at hf;omega
     split at hf
     ·cases hf
     rw[if_neg (by omega),if_neg (by omega)]at hf;cases hx:Jr.intentR p r.step with
     |none=>rw[hx]at hf;cases hf
     |some x=>rfl
   cases hx:Jr.intentR p n with
   |none=>rw[hx]at hs;cases hs
   |some x=>rfl
  have ih:=open_gen l (p++[r]) hi2 hc;rw[e1,List.filter_cons];unfold openR;have hend:r.kind=2→Jr.endedB r.step ((p++[r])++l)=Jr.endedB r.step l:=fun hk=>by
   have h1:Jr.endedB r.step p=false:=by
    rw[YJ];intro hb;have hs:=hi _ hb;unfold Jr.followsR at hf;split at hf
    ·rw[Zf,ZC]at hf;omega
    split at hf
    ·cases hf
    first|(rw[if_pos hk,hs]at hf;cases hf)|(rw[hs]at hf;cases hf)
   have h2:Jr.endedB r.step (p++[r])=false:=by rw[Jr.endedB_snoc,h1,hk];rfl
   unfold Jr.endedB at h2⊢;rw[List.any_append,h2,Yn]
  by_cases hk:r.kind=2
  ·rw[hend hk,hk,ih];cases Jr.endedB r.step l<;>cases h3:(r.op==1)<;>simp[List.filter_cons,h3]
  ·have h0:(r.kind==2)=false:=by simp[hk]
   rw[h0,ih];simp
theorem open_eq{l:List Jr}(h:Jr.chkR [] l=0):openR l=openP l:=open_gen l [] (fun n hn=>by cases hn) h
theorem replay_eq(s:Sf.St)(l:List Jr):replayR s l=replayP s l:=by
 unfold replayR replayP;split
 ·rfl
 split
 ·rfl
 next hc=>
 have hc:Jr.chkR [] l=0:=Classical.not_not.1 hc;rw[open_eq hc];cases l with
 |nil=>rfl
 |cons r l=>
  obtain⟨hf,hc2,_⟩:=chkR_cons hc;have hk:r.kind=1:=(follows_one hf).1 rfl;have ht:=run_tail l [r] r.base (by simp) hc2;have e0:one s (intL [] r.step) r=(r.base,true):=by unfold one;rw[if_pos hk]
  have eR:runR s [] (r::l)=runR r.base [r] l:=by rw[runR,e0];rfl
  by_cases h1:r.base.lin=s.lin
  ·by_cases h2:r.base.ser=s.ser
   ·have es:stepP s (intL [] r.step) r=(0,r.base):=by unfold stepP;rw[if_pos hk,if_pos h1,if_pos h2]
    have eP:runP s [] (r::l)=runP r.base [r] l:=by rw[runP,es];rfl
    dsimp only;rw[if_neg (by simp[h1]),if_neg (by simp[h2]),eR,eP];rcases ht with⟨t1,t2⟩|⟨o,t1,t2⟩
    ·rw[t1,t2];rfl
    ·rw[t1,t2,h2];rfl
   ·have es:stepP s (intL [] r.step) r=(22,s):=by unfold stepP;rw[if_pos hk,if_pos h1,if_neg h2]
    have eP:runP s [] (r::l)=(22,s):=by rw[runP,es];rfl
    dsimp only;rw[if_neg (by simp[h1]),if_pos h2,eP];rfl
  ·have es:stepP s (intL [] r.step) r=(23,s):=by unfold stepP;rw[if_pos hk,if_neg h1]
   have eP:runP s [] (r::l)=(23,s):=by rw[runP,es];rfl
   dsimp only;rw[if_pos h1,eP];rfl
end Rp
namespace Rp
structure XOk(x:Sf.Inst):Prop where
 few:x.attrs.few
 lens:x.attrs.lens
 deps:x.deps.length≤1000000000
structure Gd(n:Nat)(s:Sf.St):Prop where
 ins:∀x∈s.insts,XOk x
 outs:∀x∈s.outs,x.value.few∧x.value.lens
 lo:s.outs.length≤2000000
 si:Sf.SrtI s.insts
 sp:Sf.SrtP s.pends
 li:s.insts.length≤n
 lp:s.pends.length≤n
theorem Gd.stFew{n:Nat}{s:Sf.St}(h:Gd n s)(hn:n≤100000):AX.StFew s:=
 ⟨⟨by have:=h.li;omega,fun x hx=>⟨(h.ins x hx).few,(h.ins x hx).deps⟩⟩,by have:=h.lp;omega,h.lo,fun x hx=>(h.outs x hx).1⟩
theorem Gd.mono{n m:Nat}{s:Sf.St}(h:Gd n s)(hn:n≤m):Gd m s:=⟨h.ins,h.outs,h.lo,h.si,h.sp,Zs h.li hn,Zs h.lp hn⟩
theorem Gd.put{n:Nat}{s:Sf.St}{x:Sf.Inst}(h:Gd n s)(hx:XOk x):Gd (n+1) (putS s x):=
 ⟨fun y hy=>by
  rcases Sf.putL_mem hy with rfl|hy
  ·exact hx
  ·exact h.ins y hy,h.outs,h.lo,Sf.putL_srt h.si,h.sp,Zs (Sf.putL_length _ _) (Nat.succ_le_succ h.li),Nat.le_succ_of_le h.lp⟩
theorem Gd.rem{n:Nat}{s:Sf.St}(h:Gd n s)(a d:List UInt8):Gd n (remS s a d):=
 ⟨fun y hy=>h.ins y (List.mem_filter.1 hy).1,h.outs,h.lo,Sf.remL_srt h.si,h.sp,Zs (Sf.remL_length _ _ _) h.li,h.lp⟩
theorem Gd.putR{n:Nat}{s:Sf.St}(h:Gd n s)(x:Sf.Pend):Gd (n+1) (putR s x):=
 ⟨h.ins,h.outs,h.lo,h.si,Sf.putQ_srt h.sp,Nat.le_succ_of_le h.li,Zs (Sf.putQ_length _ _) (Nat.succ_le_succ h.lp)⟩
theorem Gd.remR{n:Nat}{s:Sf.St}(h:Gd n s)(t:List UInt8):Gd n (remR s t):=
 ⟨h.ins,h.outs,h.lo,h.si,Sf.remQ_srt h.sp,h.li,Zs (Sf.remQ_length _ _) h.lp⟩
theorem find_mem{l:List Sf.Inst}{a d:List UInt8}{x:Sf.Inst}(h:Sf.findL l a d=some x):x∈l:=List.mem_of_find?_eq_some h
theorem depose_len(s:Sf.St)(a d:List UInt8):(depose s a d).1.insts.length≤s.insts.length+1∧(depose s a d).1.pends=s.pends:=by
 cases hx:Sf.findL s.insts a []with
 |none=>rw[depose_none hx];exact⟨Nat.le_succ _,rfl⟩
 |some x=>
  cases hy:Sf.findL s.insts a d with
  |some y=>rw[depose_used hx (by rw[hy];rfl)];exact⟨Nat.le_succ _,rfl⟩
  |none=>
   rw[depose_some hx hy];exact⟨Zs (Sf.putL_length _ _) (Nat.succ_le_succ (Sf.remL_length _ _ _)),rfl⟩
theorem Gd.depose{n:Nat}{s:Sf.St}(h:Gd n s)(a k:List UInt8):Gd (n+1) (depose s a k).1:=by
 unfold Rp.depose;cases hf:Sf.findL s.insts a []with
 |none=>exact h.mono (Nat.le_succ n)
 |some x=>
  dsimp only;split
  ·exact h.mono (Nat.le_succ n)
  ·have hx:=h.ins x (find_mem hf);exact(h.rem a []).put ⟨hx.few,hx.lens,hx.deps⟩
theorem Gd.created{n:Nat}{s:Sf.St}(h:Gd n s)(r:Jr)(t:List UInt8)(hr:XOk r.after):Gd (n+2) (created s r t).1:=by
 unfold Rp.created;split
 ·exact((h.put hr).remR t).mono (Nat.le_succ _)
 ·exact((h.depose r.addr r.dep).put hr).remR t
theorem Gd.one{n:Nat}{s:Sf.St}(h:Gd n s)(f:Option Jr)(r:Jr)(hr:XOk r.after)(hb:r.kind=1→Gd n r.base):Gd (n+2) (one s f r).1:=by
 have e1:n≤n+2:=by omega
 have e2:n+1≤n+2:=by omega
 unfold Rp.one;split
 ·next hk=>exact(hb hk).mono e1
 split
 ·exact h.created r _ hr
 split
 ·exact(h.put hr).mono e2
 split
 ·exact(h.rem _ _).mono e1
 split
 ·exact h.created r _ hr
 split
 ·exact(h.put hr).mono e2
 split
 ·exact(h.putR _).mono e2
 ·exact h.mono e1
theorem Gd.stepP{n:Nat}{s:Sf.St}(h:Gd n s)(f:Option Jr)(r:Jr)(hr:XOk r.after)(hb:r.kind=1→Gd n r.base):Gd (n+2) (stepP s f r).2:=by
 unfold Rp.stepP;split
 ·next hk=>
  split
  ·split
   ·exact(hb hk).mono (by omega)
   ·exact h.mono (by omega)
  ·exact h.mono (by omega)
 ·split
  ·exact h.one f r hr hb
  ·exact h.mono (by omega)
theorem asks_cons(s:Sf.St)(r:Jr)(l:List Jr):asks s (r::l)=asks (Rp.putR s (pendOf (some r))) l:=rfl
theorem Gd.asks:∀(l:List Jr) {n:Nat} {s:Sf.St},Gd n s→Gd (n+l.length) (asks s l)
 |[],n,s,h=>h
 |r::l,n,s,h=>by
  rw[asks_cons];exact(Gd.asks l (h.putR _)).mono (by rw[Zi];omega)
theorem Gd.raise{n:Nat}{s:Sf.St}(h:Gd n s)(k:Int):Gd n (raise s k):=⟨h.ins,h.outs,h.lo,h.si,h.sp,h.li,h.lp⟩
theorem good_of{s:Sf.St}(hz:Sf.checkZ s=0)(hi:∀x∈s.insts,XOk x)(ho:∀x∈s.outs,x.value.few∧x.value.lens):Gd 512 s:=by
 obtain⟨h1,h2,k1,k2,k3⟩:=Sf.check_srt hz;exact⟨hi,ho,by omega,h1,h2,k1,k2⟩
end Rp
end
end Go.Proofs.YtnghhnahdjjpkaaGreatDoor
