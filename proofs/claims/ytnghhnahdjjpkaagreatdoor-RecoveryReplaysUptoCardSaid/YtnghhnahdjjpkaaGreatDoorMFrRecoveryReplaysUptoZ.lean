/- Part of what the proof needs. -/
import Derived.Test.YtnghhnahdjjpkaaGreatDoorMFrRecoveryReplaysUpto0
import Derived.Test.YtnghhnahdjjpkaaGreatDoorMFrRecoveryReplaysUptoY
set_option maxHeartbeats 4000000
set_option maxRecDepth 100000
set_option linter.all false
namespace Go.Proofs.YtnghhnahdjjpkaaGreatDoor
section
open Go.RowKit
namespace AX
open Rp (recOf intL)
def ajv:AX.AFn:=⟨35,aS [aR 6 (.alloc 44 [.int .i64 0,.str [],.int .i64 0,.sl 0 .nil [],.sl 0 .nil [],.sl 0 .nil [],.int .i64 0,.int .i64 0,.str [],.str [],.str [],.str [],.int .i64 0,.str [],.str [],.str [],.str [],.int .i64 0,.int .i64 0,.str [],.sl 0 .nil [],.sl 0 .nil [],.int .i64 0,.bool false,.bool false,.sl 0 .nil []]),aR 7 (.mv (.c (.bool false)))] (.seq (aS [aM 9 2,aR 10 (.bin .sub (.t 9) (aI 1)),aM 8 10] (.block 0 (.loop (.seq (aS [aM 11 8,aR 12 (.bin .geq (.t 11) (aI 0))] (.cond (.t 12) (.skip) (.exit 0))) (.seq (.block 1 (aS [aM 15 0,aM 16 8,aR 17 (.iaddr 26 (.t 15) (.t 16)),aF 18 0 17,aL 19 18,aR 20 (.bin .eql (.t 19) (aI 2)),aM 21 20,aG 22 (.mv (.t 0)) 21 true,aG 23 (.mv (.t 8)) 21 true,aG 24 (.iaddr 26 (.t 22) (.t 23)) 21 true,aG 25 (.faddr 6 (.t 24)) 21 true,aG 26 (.load false 1 (.t 25)) 21 true,aG 27 (.mv (.t 1)) 21 true,aG 28 (.bin .eql (.t 26) (.t 27)) 21 true,aR 29 (.pick (.t 21) (.t 28) (.c (.bool false)))] (.cond (.t 29) (aS [aM 30 0,aM 31 8,aR 32 (.iaddr 26 (.t 30) (.t 31)),aR 33 (.load true 26 (.t 32)),aU (.store 26 (.t 6) (.t 33)),aR 7 (.mv (.c (.bool true)))] (.ret)) (.skip)))) (.reg false [aM 13 8,aR 14 (.bin .sub (.t 13) (aI 1)),aM 8 14])))))) (aS [aR 34 (.build [.int .i64 0,.str [],.int .i64 0,.sl 0 .nil [],.sl 0 .nil [],.sl 0 .nil [],.int .i64 0,.int .i64 0,.str [],.str [],.str [],.str [],.int .i64 0,.str [],.str [],.str [],.str [],.int .i64 0,.int .i64 0,.str [],.sl 0 .nil [],.sl 0 .nil [],.int .i64 0,.bool false,.bool false,.sl 0 .nil []] []),aU (.store 26 (.t 6) (.t 34)),aR 7 (.mv (.c (.bool false)))] (.ret))),[.c 6 true 26,.t 7]⟩
theorem by1:AX.compFn Tryz.prog 46=some ajv:=by kernel_rfl
def axy:AX.AFn:=⟨10,aS [aR 1 (.box 44 (.t 0)),aR 2 (.alloc 48 [.str [],.str [],.str []])] (aS [aF 3 8 1,aL 4 3,aF 5 10 1,aL 6 5,aF 7 11 1,aL 8 7,aR 9 (.build [.str [],.str [],.str []] [(0,1,.t 4),(1,1,.t 6),(2,1,.t 8)]),aU (.store 3 (.t 2) (.t 9))] (.ret)),[.c 2 true 3]⟩
theorem bv5:AX.compFn Tryz.prog 22=some axy:=by kernel_rfl
def ajp:AX.AFn:=⟨39,aS [aR 3 (.box 26 (.t 0)),aR 6 (.alloc 26 [.str [],.int .i64 0,.sl 0 .nil [],.sl 0 .nil [],.sl 0 .nil []]),aR 7 (.mv (.c (.bool false)))] (aS [aR 13 (.load true 5 (.t 3)),aM 14 1,aR 15 (.call 48 [.t 13,.t 14,.c (.str [])]),aM 12 15,aE 16 12 0,aE 17 12 1,aR 8 (.alloc 42 [.str [],.str [],.str [],.str [],.int .i64 0,.int .i64 0,.str [],.sl 0 .nil [],.sl 0 .nil [],.int .i64 0,.bool false,.bool false,.sl 0 .nil []]),aU (.store 13 (.t 8) (.t 16)),aM 9 17] (aS [aR 19 (.load true 5 (.t 3)),aM 20 1,aM 21 2,aR 22 (.call 48 [.t 19,.t 20,.t 21]),aM 18 22,aE 23 18 0,aE 24 18 1,aR 10 (.alloc 42 [.str [],.str [],.str [],.str [],.int .i64 0,.int .i64 0,.str [],.sl 0 .nil [],.sl 0 .nil [],.int .i64 0,.bool false,.bool false,.sl 0 .nil []]),aU (.store 13 (.t 10) (.t 23)),aM 11 24] (.seq (aS [aM 25 9,aR 26 (.un .not (.t 25)),aM 27 26,aG 28 (.mv (.t 11)) 27 false,aR 29 (.pick (.t 27) (.c (.bool true)) (.t 28))] (.cond (.t 29) (aS [aR 30 (.load true 5 (.t 3)),aU (.store 5 (.t 6) (.t 30)),aR 7 (.mv (.c (.bool false)))] (.ret)) (.skip))) (aS [aR 31 (.load true 5 (.t 3)),aM 32 1,aR 33 (.call 50 [.t 31,.t 32,.c (.str [])]),aU (.store 5 (.t 3) (.t 33))] (aS [aM 34 2,aF 35 1 8,aU (.store 1 (.t 35) (.t 34))] (aS [aR 36 (.load true 5 (.t 3)),aR 37 (.load true 13 (.t 8)),aR 38 (.call 49 [.t 36,.t 37]),aU (.store 5 (.t 6) (.t 38)),aR 7 (.mv (.c (.bool true)))] (.ret))))))),[.c 6 true 5,.t 7]⟩
theorem bw4:AX.compFn Tryz.prog 95=some ajp:=by kernel_rfl
def axu:AX.AFn:=⟨29,aS [aR 3 (.box 26 (.t 0)),aR 4 (.box 44 (.t 1)),aR 5 (.box 44 (.t 2)),aR 6 (.alloc 26 [.str [],.int .i64 0,.sl 0 .nil [],.sl 0 .nil [],.sl 0 .nil []]),aR 7 (.mv (.c (.bool false)))] (aS [aR 8 (.mv (.c (.bool true)))] (.seq (aS [aF 9 9 4,aL 10 9,aR 11 (.bin .neq (.t 10) (.c (.str [])))] (.cond (.t 11) (.reg false [aR 13 (.load true 5 (.t 3)),aF 14 8 4,aL 15 14,aF 16 9 4,aL 17 16,aR 18 (.call 95 [.t 13,.t 15,.t 17]),aM 12 18,aE 19 12 0,aE 20 12 1,aU (.store 5 (.t 3) (.t 19)),aM 8 20]) (.skip))) (.seq (.reg true [aR 21 (.load true 5 (.t 3)),aF 22 13 4,⟨some 23,.load true 13 (.t 22),none,[1]⟩,⟨some 24,.call 49 [.t 21,.t 23],none,[0,2]⟩,aF 25 11 5,⟨some 26,.load false 1 (.t 25),none,[4]⟩,⟨some 27,.call 51 [.t 24,.t 26],none,[3,5,3]⟩,aM 28 8,⟨none,.store 5 (.t 6) (.t 27),none,[6,6,0,1,2,3,4,5,6]⟩,⟨some 7,.mv (.t 28),none,[7,8,0,1,2,3,4,5,6,7,8]⟩]) (.ret)))),[.c 6 true 5,.t 7]⟩
theorem bkl:AX.compFn Tryz.prog 47=some axu:=by kernel_rfl
theorem cqr(o:Option Jr)(b:Bool):(A.tup [.agg (recOf o).cells,.bool b]).pure=true:=by
 obtain⟨kd,⟨lin,ser,ins,ps,os⟩,st,op,ad,dp,ty,tk,er,⟨a1,a2,a3,a4,⟨k,nn,ss,is,ks⟩,v,tn,fi,ds⟩⟩:=recOf o;rfl
theorem bwq(l:List Jr)(n:Int)(b:Nat)(hb:b≤l.length)(hl:l.length≤1000000)(h:Hp):AT 46 [.sl 26 .no (l.map Jr.cells),.int .i64 n,.int .i64 b] h (.tup [.agg (recOf (intL (l.take b) n)).cells,.bool (intL (l.take b) n).isSome]):=by
 refine pcall ?_ (cqr _ _) (by simp[A.pure,A.data]) h;refine azb mixedT by1 (by simp[ajv]) ?_;dsimp only[ajv];obtain⟨D,hD⟩:=Ex (intL (l.take b) n);rw[hD];have li:(l.map Jr.cells).length=l.length:=Zj _;have hw0:IntKind.i64.wrap ((b:Int)-1)=(b:Int)-1:=by rw[wrap64 (by omega) (by omega)]
 refine azf (ai li hw0) ?_;refine azd (fun mm ts h=>mm≤b∧h=⟨[.cells 44 zeroK],[]⟩∧intL (l.take mm) n=D∧(ts 0=.sl 26 .no (l.map Jr.cells)∧ts 1=.int .i64 n∧ts 6=.ptr 0 0∧ts 8=.int .i64 ((mm:Int)-1))) b ?_ ?_
 ·exact⟨Zh _,rfl,hD,by(exact azo (ai li hw0))⟩
 rintro mm ts h ⟨hm,rfl,hit,ht⟩;unfold zeroK;cases mm with
 |zero=>
  rw[YL]at hit;have:D=none:=by rw[←hit];rfl
  subst this;have hge:¬((0:Nat):Int)-1≥0:=by decide
  refine azc (ai ht hge) ti ?_;exact⟨.tup [.agg (recOf none).cells,.bool false],⟨⟨aza _,aza _,aza _,⟨rfl,.inr rfl,.inl rfl⟩,⟨rfl,.inr rfl,.inl rfl⟩,⟨rfl,.inr rfl,.inl rfl⟩,aza _,aza _,aza _,aza _,aza _,aza _,aza _,aza _,aza _,aza _,aza _,aza _,aza _,aza _,⟨rfl,.inr rfl,.inl rfl⟩,⟨rfl,.inr rfl,.inl rfl⟩,aza _,aza _,aza _,⟨rfl,.inr rfl,.inl rfl⟩,trivial⟩,azz _,trivial⟩,rfl⟩
 |succ j=>
  have hlt:j<l.length:=by omega
  have hz:((j+1:Nat):Int)-1=(j:Int):=by omega
  rw[hz]at ht;have hf0:=azp Jr.cells l j hlt (by omega);have hf:(l.map Jr.cells).length=l.length∧(j:Int)<(l.length:Int)∧(0:Int)≤(j:Int)∧(l.map Jr.cells).getD j []=Jr.cells l[j]∧IntKind.i64.wrap ((j:Int)-1)=(j:Int)-1∧(j:Int)≥0:=⟨hf0.1,hf0.2.1,hf0.2.2.1,hf0.2.2.2.1,by rw[wrap64 (by omega) (by omega)],hf0.2.2.1⟩;clear hf0;have es:l.take (j+1)=l.take j++[l[j]]:=(List.take_append_getElem hlt).symm;rw[es,Rp.intL_snoc]at hit;obtain⟨r,hr⟩:=Ex (l[j]);rw[hr]at hf hit;have hi:Jr.isInt n r=(r.kind==2&&r.step==n):=rfl;have fin:Jr.isInt n r=true→A.tup [.agg r.cells,.bool true]=.tup [.agg (recOf D).cells,.bool D.isSome]:=fun e=>by
   rw[e]at hit;rw[←hit];rfl
  have go:Jr.isInt n r=false→intL (l.take j) n=D:=fun e=>by
   rw[e]at hit;exact hit
  rw[hi]at fin go;clear hit hr hi es;obtain⟨kd,⟨lin,ser,ins,ps,os⟩,st,op,ad,dp,ty,tk,er,⟨a1,a2,a3,a4,⟨k,nn,ss,is,ks⟩,v,tn,fi,ds⟩⟩:=r;simp only[Jr.cells,Sf.Inst.cells,Zd,Zg]at hf fin;dsimp only at fin go;refine azc (ai ht hf) ti ?_;(refine AX.bw0 ht ?_ ?_)
  ·intro hb;refine azc (ai ht hf) ti ?_;exact⟨_,le_refl _,fin hb⟩
  ·intro hb;refine azc (ai ht hf) ti ?_;exact⟨_,Nat.lt_succ_self _,by omega,rfl,go hb,by(exact azo (ai ht hf))⟩
theorem akf(r:Jr)(h:Hp):AT 22 [.agg r.cells] h (.agg (Sf.Pend.cells ⟨r.addr,r.typ,r.tok⟩)):=by
 obtain⟨kd,⟨lin,ser,ins,ps,os⟩,st,op,ad,dp,ty,tk,er,⟨a1,a2,a3,a4,⟨k,nn,ss,is,ks⟩,v,tn,fi,ds⟩⟩:=r;simp only[Jr.cells,Sf.Inst.cells,Zd,Zg,Sf.Pend.cells];refine pcall ?_ rfl (by simp[A.pure,A.data]) h;refine azb mixedT bv5 (by simp[axy]) ?_;dsimp only[axy];refine aze ti ti ?_;exact Fn rfl
theorem bxo(s:Sf.St)(b:Bool):(A.tup [s.A,.bool b]).pure=true:=rfl
theorem byp(st:Sf.St)(hl:st.insts.length≤900000)(a d:List UInt8)(h:Hp):
  AT 95 [st.A,.str a,.str d] h (.tup [(Rp.depose st a d).1.A,.bool (Rp.depose st a d).2]):=by
 have c1:=avr st (by omega) a [];have c2:=avr st (by omega) a d;have c3:=ajw st (by omega) a [];have c4:=fun x=>ak5 (Rp.remS st a []) (Zs (Sf.remL_length _ _ _) hl) x
 clear hl;refine pcall ?_ (bxo _ _) (by simp[A.pure,A.data,Sf.St.A]) h;refine azb mixedT bw4 (by simp[ajp]) ?_;dsimp only[ajp];cases hx:Sf.findL st.insts a []with
 |none=>
  rw[Rp.depose_none hx];rw[hx]at c1;clear c3 c4 hx;obtain⟨z1,z2,z3,z4,z5,z6,z7,z8,z9,z10,z11,z12,z13,hz,hone⟩:=axl (Sf.findL st.insts a d);simp only[A.one]at hone;obtain⟨B,hB⟩:=Ex ((Sf.findL st.insts a d).isSome);rw[hz,hB]at c2;clear hz hB;obtain⟨lin,ser,ins,ps,os⟩:=st;simp only[Sf.St.A,instA,zeroI]at *;refine aze hone (ai c1 (ai c2 ti)) ?_;exact Fn rfl
 |some x=>
  cases hy:Sf.findL st.insts a d with
  |some y=>
   rw[Rp.depose_used hx (by rw[hy];rfl)];rw[hx]at c1;rw[hy]at c2;clear hy hx c3 c4;obtain⟨lin,ser,ins,ps,os⟩:=st;obtain⟨b1,b2,b3,b4,⟨jk2,jn,js,jis,jks⟩,jv,jtn,jfi,jds⟩:=y;obtain⟨e1,e2,e3,e4,⟨ek2,en,es,eis,eks⟩,ev,etn,efi,eds⟩:=x;simp only[Sf.St.A,instA,Sf.Inst.cells]at *;refine aze ti (ai c1 (ai c2 ti)) ?_;exact Fn rfl
  |none=>
   rw[Rp.depose_some hx hy];rw[hx]at c1;rw[hy]at c2;have c4:=c4 { x with dep:=d };clear hy hx;obtain⟨R,hR⟩:=Ex (Rp.remS st a []);rw[hR]at c3 c4⊢;clear hR;obtain⟨lin,ser,ins,ps,os⟩:=st;obtain⟨e1,e2,e3,e4,⟨ek2,en,es,eis,eks⟩,ev,etn,efi,eds⟩:=x;dsimp only[Option.isSome]at *;obtain⟨S,hS⟩:=Ex (Rp.putS R ⟨e1,d,e3,e4,⟨ek2,en,es,eis,eks⟩,ev,etn,efi,eds⟩);rw[hS]at c4⊢;clear hS;obtain⟨Rlin,Rser,Rins,Rps,Ros⟩:=R;obtain⟨Slin,Sser,Sins,Sps,Sos⟩:=S;simp only[Sf.St.A,instA,zeroI,Sf.Inst.cells]at *;refine aze ti (ai c1 (ai c2 (ai c3 (ai c4 ti)))) ?_;exact Fn rfl
theorem bkp(st:Sf.St)(hl:st.insts.length≤800000)(hp:st.pends.length≤800000)(r f:Jr)(h:Hp):
  AT 47 [st.A,.agg r.cells,.agg f.cells] h (.tup [(Rp.created st r f.tok).1.A,.bool (Rp.created st r f.tok).2]):=by
 have hdl:(Rp.depose st r.addr r.dep).1.insts.length≤900000∧(Rp.depose st r.addr r.dep).1.pends.length≤800000:=by
  obtain⟨h1,h2⟩:=Rp.depose_len st r.addr r.dep;rw[h2];exact⟨by omega,hp⟩
 refine pcall ?_ (bxo _ _) (by
  obtain⟨kd,⟨lin,ser,ins,ps,os⟩,st,op,ad,dp,ty,tk,er,⟨a1,a2,a3,a4,⟨k,nn,ss,is,ks⟩,v,tn,fi,ds⟩⟩:=r;obtain⟨kd,⟨lin,ser,ins,ps,os⟩,st,op,ad,dp,ty,tk,er,⟨a1,a2,a3,a4,⟨k,nn,ss,is,ks⟩,v,tn,fi,ds⟩⟩:=f
  rfl) h
 unfold Rp.created;refine azb mixedT bkl (by simp[axu]) ?_;dsimp only[axu];have c1:=byp st (by omega) r.addr r.dep;by_cases hd:r.dep=[]
 ·rw[if_pos hd];have c2:=ak5 st (by omega) r.after;have c3:=awx (Rp.putS st r.after) (show st.pends.length≤_ by omega) f.tok;clear c1 hl hp hdl;obtain⟨kd,⟨lin,ser,ins,ps,os⟩,sp,op,ad,dp,ty,tk,er,⟨a1,a2,a3,a4,⟨k,nn,ss,is,ks⟩,v,tn,fi,ds⟩⟩:=r;obtain⟨fkd,⟨flin,fser,fins,fps,fos⟩,fst,fop,fad,fdp,fty,ftk,fer,⟨fa1,fa2,fa3,fa4,⟨fk,fnn,fss,fis,fks⟩,fv,ftn,ffi,fds⟩⟩:=f;dsimp only at hd c2 c3⊢;subst hd;obtain⟨S,hS⟩:=Ex (Rp.putS st ⟨a1,a2,a3,a4,⟨k,nn,ss,is,ks⟩,v,tn,fi,ds⟩);rw[hS]at c2 c3⊢;obtain⟨T,hT⟩:=Ex (Rp.remR S ftk);rw[hT]at c3⊢;clear hS hT;obtain⟨Xlin,Xser,Xins,Xps,Xos⟩:=st;obtain⟨Slin,Sser,Sins,Sps,Sos⟩:=S;obtain⟨Tlin,Tser,Tins,Tps,Tos⟩:=T;simp only[Sf.St.A,Sf.Inst.cells,Jr.cells,Zd,Zg]at *;refine aze ti (ai c2 (ai c3 ti)) ?_;exact Fn rfl
 ·rw[if_neg hd];have c2:=ak5 (Rp.depose st r.addr r.dep).1 hdl.1 r.after;have c3:=awx (Rp.putS (Rp.depose st r.addr r.dep).1 r.after) (Zs hdl.2 (by decide)) f.tok;clear hl hp hdl;obtain⟨kd,⟨lin,ser,ins,ps,os⟩,sp,op,ad,dp,ty,tk,er,⟨a1,a2,a3,a4,⟨k,nn,ss,is,ks⟩,v,tn,fi,ds⟩⟩:=r;obtain⟨fkd,⟨flin,fser,fins,fps,fos⟩,fst,fop,fad,fdp,fty,ftk,fer,⟨fa1,fa2,fa3,fa4,⟨fk,fnn,fss,fis,fks⟩,fv,ftn,ffi,fds⟩⟩:=f;dsimp only at hd c1 c2 c3⊢;have hdb:(dp != [])=true:=by simp[hd]
  obtain⟨⟨E,B⟩,hE⟩:=Ex (Rp.depose st ad dp);rw[hE]at c1 c2 c3⊢;dsimp only at c1 c2 c3⊢;obtain⟨S,hS⟩:=Ex (Rp.putS E ⟨a1,a2,a3,a4,⟨k,nn,ss,is,ks⟩,v,tn,fi,ds⟩);rw[hS]at c2 c3⊢;obtain⟨T,hT⟩:=Ex (Rp.remR S ftk);rw[hT]at c3⊢;clear hS hT hE;obtain⟨Xlin,Xser,Xins,Xps,Xos⟩:=st;obtain⟨Elin,Eser,Eins,Eps,Eos⟩:=E;obtain⟨Slin,Sser,Sins,Sps,Sos⟩:=S;obtain⟨Tlin,Tser,Tins,Tps,Tos⟩:=T;simp only[Sf.St.A,Sf.Inst.cells,Jr.cells,Zd,Zg]at *;refine aze hdb (ai c1 (ai c2 (ai c3 ti))) ?_;exact Fn rfl
theorem cyc(st:Sf.St)(hl:st.insts.length≤800000)(hp:st.pends.length≤800000)(l:List Jr)(i:Nat)(hi:i<l.length)(hll:l.length≤1000000)(h:Hp):
  AT 19 [st.A,.sl 26 .no (l.map Jr.cells),.int .i64 i] h (.tup [(Rp.one st (intL (l.take i) l[i].step) l[i]).1.A,.bool (Rp.one st (intL (l.take i) l[i].step) l[i]).2]):=by
 refine pcall ?_ (bxo _ _) (by simp[A.pure,A.data,Sf.St.A]) h;refine fo ?_;have c0:=bwq l l[i].step i (Nat.le_of_lt hi) hll;have hf:=azp Jr.cells l i hi (by omega);obtain⟨F,hF⟩:=Ex (intL (l.take i) l[i].step);rw[hF]at c0⊢;obtain⟨r,hr⟩:=Ex (l[i]);rw[hr]at c0 hf⊢;clear hF hr hi hll;obtain⟨R,hR⟩:=Ex (recOf F);rw[hR]at c0;have cc:=bkp st hl hp r R;have cf1:=avr st (by omega) r.addr [];have cf2:=avr st (by omega) r.addr r.dep;have cp:=ak5 st (by omega) r.after;have cr:=ajw st (by omega) r.addr r.dep;have cpe:=akf R;have cpp:=bj7 st (by omega) ⟨R.addr,R.typ,R.tok⟩;by_cases q0:r.kind=1
 ·have e:Rp.one st F r=(r.base,true):=by unfold Rp.one;simp[q0,Rp.tokOf_rec,Rp.pendOf_rec,hR]
  rw[e];clear e hR hl hp cc cf1 cf2 cp cr cpe cpp;obtain⟨kd,⟨lin,ser,ins,ps,os⟩,sp,op,ad,dp,ty,tk,er,⟨a1,a2,a3,a4,⟨k,nn,ss,is,ks⟩,v,tn,fi,ds⟩⟩:=r;obtain⟨fkd,⟨flin,fser,fins,fps,fos⟩,fst,fop,fad,fdp,fty,ftk,fer,⟨fa1,fa2,fa3,fa4,⟨fk,fnn,fss,fis,fks⟩,fv,ftn,ffi,fds⟩⟩:=R;obtain⟨Xlin,Xser,Xins,Xps,Xos⟩:=st;dsimp only at q0;subst q0;simp only[Sf.St.A,Sf.Inst.cells,Jr.cells,Sf.Pend.cells,Zd,Zg]at *;refine aze hf (ai c0 ti) ?_;exact Fn rfl
 ·by_cases q1:r.kind=3
  ·by_cases q2:r.op=1
   ·have e:Rp.one st F r=Rp.created st r R.tok:=by unfold Rp.one;simp[q1,q2,Rp.tokOf_rec,Rp.pendOf_rec,hR]
    rw[e];clear q0;clear e hR hl hp cf1 cf2 cp cr cpe cpp;obtain⟨⟨S,B⟩,hS⟩:=Ex (Rp.created st r R.tok);rw[hS]at cc⊢;clear hS;dsimp only at cc⊢;obtain⟨kd,⟨lin,ser,ins,ps,os⟩,sp,op,ad,dp,ty,tk,er,⟨a1,a2,a3,a4,⟨k,nn,ss,is,ks⟩,v,tn,fi,ds⟩⟩:=r;obtain⟨fkd,⟨flin,fser,fins,fps,fos⟩,fst,fop,fad,fdp,fty,ftk,fer,⟨fa1,fa2,fa3,fa4,⟨fk,fnn,fss,fis,fks⟩,fv,ftn,ffi,fds⟩⟩:=R;obtain⟨Xlin,Xser,Xins,Xps,Xos⟩:=st;obtain⟨Slin,Sser,Sins,Sps,Sos⟩:=S;dsimp only at q1 q2;subst q1;subst q2;simp only[Sf.St.A,Sf.Inst.cells,Jr.cells,Sf.Pend.cells,Zd,Zg]at *;refine aze hf (ai c0 (ai cc ti)) ?_;exact Fn rfl
   ·by_cases q3:r.op=2
    ·have e:Rp.one st F r=(Rp.putS st r.after,Rp.hasS st r.addr []):=by unfold Rp.one;simp[q1,q3,Rp.tokOf_rec,Rp.pendOf_rec,hR]
     rw[e];clear q0 q2;clear e hR hl hp cc cf2 cr cpe cpp;obtain⟨S,hS⟩:=Ex (Rp.putS st r.after);rw[hS]at cp⊢;clear hS;unfold Rp.hasS;obtain⟨z1,z2,z3,z4,z5,z6,z7,z8,z9,z10,z11,z12,z13,hz,hone⟩:=axl (Sf.findL st.insts r.addr []);simp only[A.one]at hone;obtain⟨B,hB⟩:=Ex ((Sf.findL st.insts r.addr []).isSome);rw[hz,hB]at cf1;rw[hB];clear hz hB;obtain⟨kd,⟨lin,ser,ins,ps,os⟩,sp,op,ad,dp,ty,tk,er,⟨a1,a2,a3,a4,⟨k,nn,ss,is,ks⟩,v,tn,fi,ds⟩⟩:=r;obtain⟨fkd,⟨flin,fser,fins,fps,fos⟩,fst,fop,fad,fdp,fty,ftk,fer,⟨fa1,fa2,fa3,fa4,⟨fk,fnn,fss,fis,fks⟩,fv,ftn,ffi,fds⟩⟩:=R;obtain⟨Xlin,Xser,Xins,Xps,Xos⟩:=st;obtain⟨Slin,Sser,Sins,Sps,Sos⟩:=S;dsimp only at q1 q3;subst q1;subst q3;simp only[Sf.St.A,Sf.Inst.cells,Jr.cells,Sf.Pend.cells,Zd,Zg]at *;refine aze (ai hf hone) (ai c0 (ai cf1 (ai cp ti))) ?_;exact Fn rfl
    ·by_cases q4:r.op=3
     ·have e:Rp.one st F r=(Rp.remS st r.addr r.dep,Rp.hasS st r.addr r.dep):=by unfold Rp.one;simp[q1,q4,Rp.tokOf_rec,Rp.pendOf_rec,hR]
      rw[e];clear q0 q2 q3;clear e hR hl hp cc cf1 cp cpe cpp;obtain⟨S,hS⟩:=Ex (Rp.remS st r.addr r.dep);rw[hS]at cr⊢;clear hS;unfold Rp.hasS;obtain⟨z1,z2,z3,z4,z5,z6,z7,z8,z9,z10,z11,z12,z13,hz,hone⟩:=axl (Sf.findL st.insts r.addr r.dep);simp only[A.one]at hone;obtain⟨B,hB⟩:=Ex ((Sf.findL st.insts r.addr r.dep).isSome);rw[hz,hB]at cf2;rw[hB];clear hz hB;obtain⟨kd,⟨lin,ser,ins,ps,os⟩,sp,op,ad,dp,ty,tk,er,⟨a1,a2,a3,a4,⟨k,nn,ss,is,ks⟩,v,tn,fi,ds⟩⟩:=r;obtain⟨fkd,⟨flin,fser,fins,fps,fos⟩,fst,fop,fad,fdp,fty,ftk,fer,⟨fa1,fa2,fa3,fa4,⟨fk,fnn,fss,fis,fks⟩,fv,ftn,ffi,fds⟩⟩:=R;obtain⟨Xlin,Xser,Xins,Xps,Xos⟩:=st;obtain⟨Slin,Sser,Sins,Sps,Sos⟩:=S;dsimp only at q1 q4;subst q1;subst q4;simp only[Sf.St.A,Sf.Inst.cells,Jr.cells,Sf.Pend.cells,Zd,Zg]at *;refine aze (ai hf hone) (ai c0 (ai cf2 (ai cr ti))) ?_;exact Fn rfl
     ·have e:Rp.one st F r=(st,true):=by unfold Rp.one;simp[q1,q2,q3,q4,Rp.tokOf_rec,Rp.pendOf_rec,hR]
      rw[e];clear q0;clear e hR hl hp cc cf1 cf2 cp cr cpe cpp;obtain⟨kd,⟨lin,ser,ins,ps,os⟩,sp,op,ad,dp,ty,tk,er,⟨a1,a2,a3,a4,⟨k,nn,ss,is,ks⟩,v,tn,fi,ds⟩⟩:=r;obtain⟨fkd,⟨flin,fser,fins,fps,fos⟩,fst,fop,fad,fdp,fty,ftk,fer,⟨fa1,fa2,fa3,fa4,⟨fk,fnn,fss,fis,fks⟩,fv,ftn,ffi,fds⟩⟩:=R;obtain⟨Xlin,Xser,Xins,Xps,Xos⟩:=st;dsimp only at q1 q2 q3 q4;subst q1;have gq2:(op==1)=false:=by simp[q2]
      have gq3:(op==2)=false:=by simp[q3]
      have gq4:(op==3)=false:=by simp[q4]
      simp only[Sf.St.A,Sf.Inst.cells,Jr.cells,Sf.Pend.cells,Zd,Zg]at *;refine aze (ai hf (ai gq2 (ai gq3 gq4))) (ai c0 ti) ?_;exact Fn rfl
  ·by_cases q5:r.kind=4
   ·by_cases q6:r.op=1
    ·by_cases q7:r.after.id=[]
     ·by_cases q8:r.err=31
      ·have e:Rp.one st F r=(Rp.putR st ⟨R.addr,R.typ,R.tok⟩,true):=by unfold Rp.one;simp[q5,q6,q7,q8,Rp.tokOf_rec,Rp.pendOf_rec,hR]
       rw[e];clear q0 q1;clear e hR hl hp cc cf1 cf2 cp cr;obtain⟨S,hS⟩:=Ex (Rp.putR st ⟨R.addr,R.typ,R.tok⟩);rw[hS]at cpp⊢;clear hS;obtain⟨kd,⟨lin,ser,ins,ps,os⟩,sp,op,ad,dp,ty,tk,er,⟨a1,a2,a3,a4,⟨k,nn,ss,is,ks⟩,v,tn,fi,ds⟩⟩:=r;obtain⟨fkd,⟨flin,fser,fins,fps,fos⟩,fst,fop,fad,fdp,fty,ftk,fer,⟨fa1,fa2,fa3,fa4,⟨fk,fnn,fss,fis,fks⟩,fv,ftn,ffi,fds⟩⟩:=R;obtain⟨Xlin,Xser,Xins,Xps,Xos⟩:=st;obtain⟨Slin,Sser,Sins,Sps,Sos⟩:=S;dsimp only at q5 q6 q7 q8;subst q5;subst q6;subst q7;subst q8;simp only[Sf.St.A,Sf.Inst.cells,Jr.cells,Sf.Pend.cells,Zd,Zg]at *;refine aze hf (ai c0 (ai cpe (ai cpp ti))) ?_;exact Fn rfl
      ·have e:Rp.one st F r=(st,true):=by unfold Rp.one;simp[q5,q6,q7,q8,Rp.tokOf_rec,Rp.pendOf_rec,hR]
       rw[e];clear q0 q1;clear e hR hl hp cc cf1 cf2 cp cr cpe cpp;obtain⟨kd,⟨lin,ser,ins,ps,os⟩,sp,op,ad,dp,ty,tk,er,⟨a1,a2,a3,a4,⟨k,nn,ss,is,ks⟩,v,tn,fi,ds⟩⟩:=r;obtain⟨fkd,⟨flin,fser,fins,fps,fos⟩,fst,fop,fad,fdp,fty,ftk,fer,⟨fa1,fa2,fa3,fa4,⟨fk,fnn,fss,fis,fks⟩,fv,ftn,ffi,fds⟩⟩:=R;obtain⟨Xlin,Xser,Xins,Xps,Xos⟩:=st;dsimp only at q5 q6 q7 q8;subst q5;subst q6;subst q7;have gq8:(er==31)=false:=by simp[q8]
       simp only[Sf.St.A,Sf.Inst.cells,Jr.cells,Sf.Pend.cells,Zd,Zg]at *;refine aze (ai hf gq8) (ai c0 ti) ?_;exact Fn rfl
     ·have e:Rp.one st F r=Rp.created st r R.tok:=by unfold Rp.one;simp[q5,q6,q7,Rp.tokOf_rec,Rp.pendOf_rec,hR]
      rw[e];clear q0 q1;clear e hR hl hp cf1 cf2 cp cr cpe cpp;obtain⟨⟨S,B⟩,hS⟩:=Ex (Rp.created st r R.tok);rw[hS]at cc⊢;clear hS;dsimp only at cc⊢;obtain⟨kd,⟨lin,ser,ins,ps,os⟩,sp,op,ad,dp,ty,tk,er,⟨a1,a2,a3,a4,⟨k,nn,ss,is,ks⟩,v,tn,fi,ds⟩⟩:=r;obtain⟨fkd,⟨flin,fser,fins,fps,fos⟩,fst,fop,fad,fdp,fty,ftk,fer,⟨fa1,fa2,fa3,fa4,⟨fk,fnn,fss,fis,fks⟩,fv,ftn,ffi,fds⟩⟩:=R;obtain⟨Xlin,Xser,Xins,Xps,Xos⟩:=st;obtain⟨Slin,Sser,Sins,Sps,Sos⟩:=S;dsimp only at q5 q6 q7;subst q5;subst q6;have gq7:(a3 != [])=true:=by simp[q7]
      simp only[Sf.St.A,Sf.Inst.cells,Jr.cells,Sf.Pend.cells,Zd,Zg]at *;refine aze (ai hf gq7) (ai c0 (ai cc ti)) ?_;exact Fn rfl
    ·by_cases q9:r.op=2
     ·by_cases q10:r.after.id=[]
      ·have e:Rp.one st F r=(st,true):=by unfold Rp.one;simp[q5,q9,q10,Rp.tokOf_rec,Rp.pendOf_rec,hR]
       rw[e];clear q0 q1 q6;clear e hR hl hp cc cf1 cf2 cp cr cpe cpp;obtain⟨kd,⟨lin,ser,ins,ps,os⟩,sp,op,ad,dp,ty,tk,er,⟨a1,a2,a3,a4,⟨k,nn,ss,is,ks⟩,v,tn,fi,ds⟩⟩:=r;obtain⟨fkd,⟨flin,fser,fins,fps,fos⟩,fst,fop,fad,fdp,fty,ftk,fer,⟨fa1,fa2,fa3,fa4,⟨fk,fnn,fss,fis,fks⟩,fv,ftn,ffi,fds⟩⟩:=R;obtain⟨Xlin,Xser,Xins,Xps,Xos⟩:=st;dsimp only at q5 q9 q10;subst q5;subst q9;subst q10;simp only[Sf.St.A,Sf.Inst.cells,Jr.cells,Sf.Pend.cells,Zd,Zg]at *;refine aze hf (ai c0 ti) ?_;exact Fn rfl
      ·have e:Rp.one st F r=(Rp.putS st r.after,Rp.hasS st r.addr []):=by unfold Rp.one;simp[q5,q9,q10,Rp.tokOf_rec,Rp.pendOf_rec,hR]
       rw[e];clear q0 q1 q6;clear e hR hl hp cc cf2 cr cpe cpp;obtain⟨S,hS⟩:=Ex (Rp.putS st r.after);rw[hS]at cp⊢;clear hS;unfold Rp.hasS;obtain⟨z1,z2,z3,z4,z5,z6,z7,z8,z9,z10,z11,z12,z13,hz,hone⟩:=axl (Sf.findL st.insts r.addr []);simp only[A.one]at hone;obtain⟨B,hB⟩:=Ex ((Sf.findL st.insts r.addr []).isSome);rw[hz,hB]at cf1;rw[hB];clear hz hB;obtain⟨kd,⟨lin,ser,ins,ps,os⟩,sp,op,ad,dp,ty,tk,er,⟨a1,a2,a3,a4,⟨k,nn,ss,is,ks⟩,v,tn,fi,ds⟩⟩:=r;obtain⟨fkd,⟨flin,fser,fins,fps,fos⟩,fst,fop,fad,fdp,fty,ftk,fer,⟨fa1,fa2,fa3,fa4,⟨fk,fnn,fss,fis,fks⟩,fv,ftn,ffi,fds⟩⟩:=R;obtain⟨Xlin,Xser,Xins,Xps,Xos⟩:=st;obtain⟨Slin,Sser,Sins,Sps,Sos⟩:=S;dsimp only at q5 q9 q10;subst q5;subst q9;have gq10:(a3 != [])=true:=by simp[q10]
       simp only[Sf.St.A,Sf.Inst.cells,Jr.cells,Sf.Pend.cells,Zd,Zg]at *;refine aze (ai hf (ai hone gq10)) (ai c0 (ai cf1 (ai cp ti))) ?_;exact Fn rfl
     ·have e:Rp.one st F r=(st,true):=by unfold Rp.one;simp[q5,q6,q9,Rp.tokOf_rec,Rp.pendOf_rec,hR]
      rw[e];clear q0 q1;clear e hR hl hp cc cf1 cf2 cp cr cpe cpp;obtain⟨kd,⟨lin,ser,ins,ps,os⟩,sp,op,ad,dp,ty,tk,er,⟨a1,a2,a3,a4,⟨k,nn,ss,is,ks⟩,v,tn,fi,ds⟩⟩:=r;obtain⟨fkd,⟨flin,fser,fins,fps,fos⟩,fst,fop,fad,fdp,fty,ftk,fer,⟨fa1,fa2,fa3,fa4,⟨fk,fnn,fss,fis,fks⟩,fv,ftn,ffi,fds⟩⟩:=R;obtain⟨Xlin,Xser,Xins,Xps,Xos⟩:=st;dsimp only at q5 q6 q9;subst q5;have gq6:(op==1)=false:=by simp[q6]
      have gq9:(op==2)=false:=by simp[q9]
      simp only[Sf.St.A,Sf.Inst.cells,Jr.cells,Sf.Pend.cells,Zd,Zg]at *;refine aze (ai hf (ai gq6 gq9)) (ai c0 ti) ?_;exact Fn rfl
   ·have e:Rp.one st F r=(st,true):=by unfold Rp.one;simp[q0,q1,q5,Rp.tokOf_rec,Rp.pendOf_rec,hR]
    rw[e];clear e hR hl hp cc cf1 cf2 cp cr cpe cpp;obtain⟨kd,⟨lin,ser,ins,ps,os⟩,sp,op,ad,dp,ty,tk,er,⟨a1,a2,a3,a4,⟨k,nn,ss,is,ks⟩,v,tn,fi,ds⟩⟩:=r;obtain⟨fkd,⟨flin,fser,fins,fps,fos⟩,fst,fop,fad,fdp,fty,ftk,fer,⟨fa1,fa2,fa3,fa4,⟨fk,fnn,fss,fis,fks⟩,fv,ftn,ffi,fds⟩⟩:=R;obtain⟨Xlin,Xser,Xins,Xps,Xos⟩:=st;dsimp only at q0 q1 q5;have gq0:(kd==1)=false:=by simp[q0]
    have gq1:(kd==3)=false:=by simp[q1]
    have gq5:(kd==4)=false:=by simp[q5]
    simp only[Sf.St.A,Sf.Inst.cells,Jr.cells,Sf.Pend.cells,Zd,Zg]at *;refine aze (ai hf (ai gq0 (ai gq1 gq5))) (ai c0 ti) ?_;exact Fn rfl
end AX
end
section
open Go.RowKit
namespace AX
open Rp (recOf intL Gd XOk)
def RPB(k:Nat)(s:Sf.St):Blk:=.cells 55 [.str s.lin,.int .i64 s.ser,.sl 13 .no (s.insts.map Sf.Inst.cells),.sl 3 .no (s.pends.map Sf.Pend.cells),.sl 7 .no (s.outs.map Sf.Outp.cells),.mp k]
def jA(r:Jr):A:=.agg r.cells
def MB(m:List (Int×Jr))(c:Nat):Blk:=.map (gmap jA m) c
theorem liftP{f:FuncId}{args:List A}{s s':Sf.St}{m m':List (Int×Jr)}{c c':Nat}{v:A}(hc:AC f (.ptr 0 0::args) ⟨[RPB 1 s,MB m c],[]⟩ fun v' h'=>v'=v∧h'.b[0]?=some (RPB 1 s')∧h'.b[1]?=some (MB m' c'))(ha:A.locL 0 args=true)(hv:v.loc 0=true)
  {h:Hp} {i k:Nat} (hik:i≠k) (hi:h.b[i]?=some (RPB k s)) (hk:h.b[k]?=some (MB m c)):
  AC f (.ptr i 0::args) h fun v' h'=>v'=v∧h'=⟨(h.b.set i (RPB k s')).set k (MB m' c'),h.t⟩:=by
 have m0:∀(m:List (Int×Jr)) (c:Nat),(MB m c).loc 0:=fun m c=>ZF.2 fun e he=>by
  obtain⟨x,_,rfl⟩:=Z0.1 he;obtain⟨n,kd,⟨lin,ser,ins,ps,os⟩,st,op,ad,dp,ty,tk,er,⟨a1,a2,a3,a4,⟨k,nn,ss,is,ks⟩,v,tn,fi,ds⟩⟩:=x;rfl
 have ml:=fun m c=>Blk.loc0 2 _ (m0 m c)
 have key:=ACall.lift hc (fun j=>if j=0 then i else k) (fun a b ha hb e=>by
   simp only[Zi,ZH]at ha hb;have h1:a=0∨a=1:=by omega
   have h2:b=0∨b=1:=by omega
   rcases h1 with rfl|rfl<;>rcases h2 with rfl|rfl<;>simp at e⊢
   ·exact hik e
   ·exact hik e.symm) (by unfold A.locL;rw[(A.locL0 _ args ha).1];rfl)
  (fun x hx=>by
   rcases ZJ.1 hx with rfl|hx
   ·rfl
   ·rw[Yq.1 hx];exact(ml m c).1)
  (fun v' h' ⟨e,h0,h1⟩=>⟨by rw[e];exact(A.loc0 _ v hv).1,fun j x hj hx=>by
   have:j=0∨j=1:=by simp only[Zi,ZH]at hj;omega
   rcases this with rfl|rfl
   ·rw[h0]at hx;injection hx with hx;subst hx;rfl
   ·rw[h1]at hx;injection hx with hx;subst hx;exact(ml m' c').1⟩)
  (h:=h) (fun j hj=>by
   have:j=0∨j=1:=by simp only[Zi,ZH]at hj;omega
   rcases this with rfl|rfl
   ·exact hi
   ·show h.b[k]?=some ((MB m c).ren _);rw[(ml m c).2];exact hk)
 have e0:A.renL (fun j=>if j=0 then i else k) (.ptr 0 0::args)=.ptr i 0::args:=by unfold A.renL;rw[(A.locL0 2 args ha).2];rfl
 rw[e0]at key;refine key.mono ?_;rintro v' h' ⟨v0,h0,⟨rfl,k0,k1⟩,rfl,rfl⟩;refine⟨(A.loc0 2 _ hv).2 _,?_⟩;have et:h0.b.take 2=[RPB 1 s',MB m' c']:=by
  rcases hb:h0.b with _|⟨x,_|⟨y,l⟩⟩
  ·rw[hb]at k0;cases k0
  ·rw[hb]at k1;cases k1
  ·rw[hb]at k0 k1;injection k0 with k0;injection k1 with k1;subst k0;subst k1;rfl
 show(⟨setAll _ h.b 0 (h0.b.take 2),h.t⟩:Hp)=_
 rw[et];show(⟨(h.b.set i ((RPB 1 s').ren _)).set k ((MB m' c').ren _),h.t⟩:Hp)=_
 rw[(ml m' c').2];rfl
def bjw:AX.AFn:=⟨28,aS [aR 3 (.box 44 (.t 1)),aR 4 (.mv (aI 0))] (.seq (.seq (.reg true [aF 5 1 3,⟨some 6,.faddr 0 (.t 5),none,[0]⟩,⟨some 7,.load false 1 (.t 6),none,[1]⟩,aM 8 0,⟨some 9,.nilck (.t 8),none,[3]⟩,⟨some 10,.faddr 0 (.t 9),none,[4]⟩,⟨some 11,.faddr 0 (.t 10),none,[5]⟩,⟨some 12,.load false 1 (.t 11),none,[6]⟩,⟨some 13,.bin .neq (.t 7) (.t 12),none,[2,7]⟩]) (.cond (.t 13) (aS [aR 4 (.mv (aI 23))] (.ret)) (.skip))) (.seq (.seq (.reg true [aF 14 1 3,⟨some 15,.faddr 1 (.t 14),none,[0]⟩,⟨some 16,.load false 1 (.t 15),none,[1]⟩,aM 17 0,⟨some 18,.nilck (.t 17),none,[3]⟩,⟨some 19,.faddr 0 (.t 18),none,[4]⟩,⟨some 20,.faddr 1 (.t 19),none,[5]⟩,⟨some 21,.load false 1 (.t 20),none,[6]⟩,⟨some 22,.bin .neq (.t 16) (.t 21),none,[2,7]⟩]) (.cond (.t 22) (aS [aR 4 (.mv (aI 22))] (.ret)) (.skip))) (aS [aM 23 0,aF 24 1 3,aR 25 (.load true 5 (.t 24)),aR 26 (.nilck (.t 23)),aF 27 0 26,aU (.store 5 (.t 27) (.t 25))] (aS [aR 4 (.mv (aI 0))] (.ret))))),[.t 4]⟩
theorem dqf:AX.compFn Tryz.prog 34=some bjw:=by kernel_rfl
def bzv:AX.AFn:=⟨55,aS [aR 6 (.mv (aI 0))] (aS [aM 12 0,aR 13 (.nilck (.t 12)),aF 14 0 13,aR 15 (.load true 5 (.t 14)),aM 16 1,aR 17 (.call 73 [.t 15,.t 16,.c (.str [])]),aM 11 17,aE 18 11 0,aE 19 11 1,aR 7 (.alloc 42 [.str [],.str [],.str [],.str [],.int .i64 0,.int .i64 0,.str [],.sl 0 .nil [],.sl 0 .nil [],.int .i64 0,.bool false,.bool false,.sl 0 .nil []]),aU (.store 13 (.t 7) (.t 18)),aM 8 19] (.seq (aS [aM 21 0,aR 22 (.nilck (.t 21)),aF 23 0 22,aR 24 (.load true 5 (.t 23)),aM 25 1,aM 26 2,aR 27 (.call 73 [.t 24,.t 25,.t 26]),aM 20 27,aE 28 20 0,aE 29 20 1,aR 9 (.alloc 42 [.str [],.str [],.str [],.str [],.int .i64 0,.int .i64 0,.str [],.sl 0 .nil [],.sl 0 .nil [],.int .i64 0,.bool false,.bool false,.sl 0 .nil []]),aU (.store 13 (.t 9) (.t 28)),aM 10 29] (aS [aM 30 8,aR 31 (.un .not (.t 30)),aM 32 31,aG 33 (.mv (.t 10)) 32 false,aR 34 (.pick (.t 32) (.c (.bool true)) (.t 33))] (.cond (.t 34) (aS [aR 6 (.mv (aI 38))] (.ret)) (.skip)))) (aS [aM 35 0,aM 36 0,aR 37 (.nilck (.t 36)),aF 38 0 37,aR 39 (.load true 5 (.t 38)),aM 40 1,aR 41 (.call 74 [.t 39,.t 40,.c (.str [])]),aR 42 (.nilck (.t 35)),aF 43 0 42,aU (.store 5 (.t 43) (.t 41))] (aS [aM 44 2,aF 45 1 7,aU (.store 1 (.t 45) (.t 44))] (.seq (.reg true [aM 46 0,aM 47 0,⟨some 48,.nilck (.t 47),none,[1]⟩,⟨some 49,.faddr 0 (.t 48),none,[2]⟩,⟨some 50,.load true 5 (.t 49),none,[3]⟩,aR 51 (.load true 13 (.t 7)),⟨some 52,.call 117 [.t 50,.t 51],none,[4,5]⟩,⟨some 53,.nilck (.t 46),none,[0,0,1,2,3,4,5,6]⟩,⟨some 54,.faddr 0 (.t 53),none,[7,0,1,2,3,4,5,6]⟩,⟨none,.store 5 (.t 54) (.t 52),none,[8,6,6,0,1,2,3,4,5,6]⟩]) (aS [aR 6 (.mv (aI 0))] (.ret))))))),[.t 6]⟩
theorem cvf:AX.compFn Tryz.prog 115=some bzv:=by kernel_rfl
def awo:AX.AFn:=⟨37,aS [aR 3 (.box 44 (.t 1)),aR 4 (.mv (aI 0))] (.seq (aS [aF 6 9 3,aL 7 6,aR 8 (.bin .neq (.t 7) (.c (.str [])))] (.cond (.t 8) (aS [aM 9 0,aF 10 8 3,aL 11 10,aF 12 9 3,aL 13 12,aR 14 (.call 115 [.t 9,.t 11,.t 13]),aM 5 14] (aS [aM 15 5,aR 16 (.bin .neq (.t 15) (aI 0))] (.cond (.t 16) (aS [aM 17 5,aM 4 17] (.ret)) (.skip)))) (.skip))) (.seq (.reg true [aM 18 0,aM 19 0,⟨some 20,.nilck (.t 19),none,[1]⟩,⟨some 21,.faddr 0 (.t 20),none,[2]⟩,⟨some 22,.load true 5 (.t 21),none,[3]⟩,aF 23 13 3,⟨some 24,.load true 13 (.t 23),none,[5]⟩,⟨some 25,.call 117 [.t 22,.t 24],none,[4,6]⟩,aM 26 0,⟨some 27,.nilck (.t 26),none,[8]⟩,⟨some 28,.faddr 5 (.t 27),none,[9]⟩,⟨some 29,.load false 1 (.t 28),none,[10]⟩,aF 30 6 3,⟨some 31,.load false 1 (.t 30),none,[12]⟩,⟨some 32,.mget (.agg [.int .i64 0,.str [],.int .i64 0,.sl 0 .nil [],.sl 0 .nil [],.sl 0 .nil [],.int .i64 0,.int .i64 0,.str [],.str [],.str [],.str [],.int .i64 0,.str [],.str [],.str [],.str [],.int .i64 0,.int .i64 0,.str [],.sl 0 .nil [],.sl 0 .nil [],.int .i64 0,.bool false,.bool false,.sl 0 .nil []]) false (.t 29) (.t 31),none,[11,13]⟩,⟨some 33,.fld false 1 (.t 32) 11,none,[14]⟩,⟨some 34,.call 116 [.t 25,.t 33],none,[7,15,7]⟩,⟨some 35,.nilck (.t 18),none,[0,0,1,2,3,4,5,6,7,8,9,10,11,12,13,14,15,16]⟩,⟨some 36,.faddr 0 (.t 35),none,[17,0,1,2,3,4,5,6,7,8,9,10,11,12,13,14,15,16]⟩,⟨none,.store 5 (.t 36) (.t 34),none,[18,16,16,0,1,2,3,4,5,6,7,8,9,10,11,12,13,14,15,16]⟩]) (aS [aR 4 (.mv (aI 0))] (.ret)))),[.t 4]⟩
theorem ck2:AX.compFn Tryz.prog 71=some awo:=by kernel_rfl
def ayx:AX.AFn:=⟨29,aS [aR 3 (.box 44 (.t 1)),aR 4 (.mv (aI 0))] (.seq (.seq (.reg true [aM 8 0,⟨some 9,.nilck (.t 8),none,[0]⟩,⟨some 10,.faddr 0 (.t 9),none,[1]⟩,⟨some 11,.load true 5 (.t 10),none,[2]⟩,aF 12 8 3,⟨some 13,.load false 1 (.t 12),none,[4]⟩,⟨some 14,.call 73 [.t 11,.t 13,.c (.str [])],none,[3,5]⟩,⟨some 7,.mv (.t 14),none,[6]⟩,⟨some 15,.extract (.t 7) 0,none,[7]⟩,⟨some 16,.extract (.t 7) 1,none,[7]⟩,aR 5 (.alloc 42 [.str [],.str [],.str [],.str [],.int .i64 0,.int .i64 0,.str [],.sl 0 .nil [],.sl 0 .nil [],.int .i64 0,.bool false,.bool false,.sl 0 .nil []]),⟨none,.store 13 (.t 5) (.t 15),none,[10,8,6,0,1,2,3,4,5,6,7,8,10]⟩,⟨some 6,.mv (.t 16),none,[9,11,0,1,2,3,4,5,6,7,8,9,10,11]⟩]) (aS [aM 17 6,aR 18 (.un .not (.t 17))] (.cond (.t 18) (aS [aR 4 (.mv (aI 38))] (.ret)) (.skip)))) (.seq (.reg true [aM 19 0,aM 20 0,⟨some 21,.nilck (.t 20),none,[1]⟩,⟨some 22,.faddr 0 (.t 21),none,[2]⟩,⟨some 23,.load true 5 (.t 22),none,[3]⟩,aF 24 13 3,⟨some 25,.load true 13 (.t 24),none,[5]⟩,⟨some 26,.call 117 [.t 23,.t 25],none,[4,6]⟩,⟨some 27,.nilck (.t 19),none,[0,0,1,2,3,4,5,6,7]⟩,⟨some 28,.faddr 0 (.t 27),none,[8,0,1,2,3,4,5,6,7]⟩,⟨none,.store 5 (.t 28) (.t 26),none,[9,7,7,0,1,2,3,4,5,6,7]⟩]) (aS [aR 4 (.mv (aI 0))] (.ret)))),[.t 4]⟩
theorem ckc:AX.compFn Tryz.prog 72=some ayx:=by kernel_rfl
def cvq:AX.AFn:=⟨19,aS [aR 3 (.box 44 (.t 1))] (.reg true [aM 4 0,aM 5 0,⟨some 6,.nilck (.t 5),none,[1]⟩,⟨some 7,.faddr 0 (.t 6),none,[2]⟩,⟨some 8,.load true 5 (.t 7),none,[3]⟩,aF 9 8 3,⟨some 10,.load false 1 (.t 9),none,[5]⟩,aF 11 10 3,⟨some 12,.load false 1 (.t 11),none,[7]⟩,aF 13 11 3,⟨some 14,.load false 1 (.t 13),none,[9]⟩,⟨some 15,.build [.str [],.str [],.str []] [(0,1,.t 10),(1,1,.t 12),(2,1,.t 14)],none,[6,8,10]⟩,⟨some 16,.call 38 [.t 8,.t 15],none,[4,11]⟩,⟨some 17,.nilck (.t 4),none,[0,0,1,2,3,4,5,6,7,8,9,10,11,12]⟩,⟨some 18,.faddr 0 (.t 17),none,[13,0,1,2,3,4,5,6,7,8,9,10,11,12]⟩,⟨none,.store 5 (.t 18) (.t 16),none,[14,12,12,0,1,2,3,4,5,6,7,8,9,10,11,12]⟩]),[]⟩
theorem dvv:AX.compFn Tryz.prog 16=some cvq:=by kernel_rfl
def awz:AX.AFn:=⟨49,aS [aR 3 (.box 44 (.t 1)),aR 4 (.mv (aI 0))] (.seq (.block 0 (aS [aF 6 7 3,aL 7 6,aR 8 (.bin .eql (.t 7) (aI 1)),aM 9 8,aG 10 (.faddr 13 (.t 3)) 9 true,aG 11 (.faddr 2 (.t 10)) 9 true,aG 12 (.load false 1 (.t 11)) 9 true,aG 13 (.bin .neq (.t 12) (.c (.str []))) 9 true,aR 14 (.pick (.t 9) (.t 13) (.c (.bool false))),aM 5 14] (.cond (.t 5) (aS [aM 15 0,aR 16 (.load true 26 (.t 3)),aR 17 (.call 71 [.t 15,.t 16]),aM 4 17] (.ret)) (aS [aF 19 7 3,aL 20 19,aR 21 (.bin .eql (.t 20) (aI 1)),aM 22 21,aG 23 (.faddr 12 (.t 3)) 22 true,aG 24 (.load false 1 (.t 23)) 22 true,aG 25 (.bin .eql (.t 24) (aI 31)) 22 true,aR 26 (.pick (.t 22) (.t 25) (.c (.bool false))),aM 18 26] (.cond (.t 18) (.reg true [aM 27 0,aM 28 0,⟨some 29,.nilck (.t 28),none,[1]⟩,⟨some 30,.faddr 5 (.t 29),none,[2]⟩,⟨some 31,.load false 1 (.t 30),none,[3]⟩,aF 32 6 3,⟨some 33,.load false 1 (.t 32),none,[5]⟩,⟨some 34,.mget (.agg [.int .i64 0,.str [],.int .i64 0,.sl 0 .nil [],.sl 0 .nil [],.sl 0 .nil [],.int .i64 0,.int .i64 0,.str [],.str [],.str [],.str [],.int .i64 0,.str [],.str [],.str [],.str [],.int .i64 0,.int .i64 0,.str [],.sl 0 .nil [],.sl 0 .nil [],.int .i64 0,.bool false,.bool false,.sl 0 .nil []]) false (.t 31) (.t 33),none,[4,6]⟩,⟨some 35,.call 16 [.t 27,.t 34],none,[0,7]⟩]) (aS [aF 37 7 3,aL 38 37,aR 39 (.bin .eql (.t 38) (aI 2)),aM 40 39,aG 41 (.faddr 13 (.t 3)) 40 true,aG 42 (.faddr 2 (.t 41)) 40 true,aG 43 (.load false 1 (.t 42)) 40 true,aG 44 (.bin .neq (.t 43) (.c (.str []))) 40 true,aR 45 (.pick (.t 40) (.t 44) (.c (.bool false))),aM 36 45] (.cond (.t 36) (aS [aM 46 0,aR 47 (.load true 26 (.t 3)),aR 48 (.call 72 [.t 46,.t 47]),aM 4 48] (.ret)) (.skip)))))))) (aS [aR 4 (.mv (aI 0))] (.ret))),[.t 4]⟩
theorem cwq:AX.compFn Tryz.prog 36=some awz:=by kernel_rfl
def bzt:AX.AFn:=⟨31,aS [aR 3 (.box 44 (.t 1)),aR 4 (.mv (aI 0))] (.seq (aS [aF 5 0 3,aL 6 5] (.block 0 (aS [aR 8 (.bin .eql (.t 6) (aI 1)),aM 7 8] (.cond (.t 7) (aS [aM 9 0,aR 10 (.load true 26 (.t 3)),aR 11 (.call 34 [.t 9,.t 10]),aM 4 11] (.ret)) (aS [aR 13 (.bin .eql (.t 6) (aI 2)),aM 12 13] (.cond (.t 12) (.reg true [aM 14 0,⟨some 15,.nilck (.t 14),none,[0]⟩,⟨some 16,.faddr 5 (.t 15),none,[1]⟩,⟨some 17,.load false 1 (.t 16),none,[2]⟩,aF 18 6 3,⟨some 19,.load false 1 (.t 18),none,[4]⟩,aR 20 (.load true 26 (.t 3)),⟨none,.mset (.t 17) (.t 19) (.t 20),none,[3,5,6,0,1,2,3,4,5,6]⟩]) (aS [aR 22 (.bin .eql (.t 6) (aI 3)),aM 21 22] (.cond (.t 21) (aS [aM 23 0,aR 24 (.load true 26 (.t 3)),aR 25 (.call 35 [.t 23,.t 24]),aM 4 25] (.ret)) (aS [aR 27 (.bin .eql (.t 6) (aI 4)),aM 26 27] (.cond (.t 26) (aS [aM 28 0,aR 29 (.load true 26 (.t 3)),aR 30 (.call 36 [.t 28,.t 29]),aM 4 30] (.ret)) (.skip))))))))))) (aS [aR 4 (.mv (aI 0))] (.ret))),[.t 4]⟩
theorem cwi:AX.compFn Tryz.prog 14=some bzt:=by kernel_rfl
theorem dzf{h:Hp}{k:Nat}{b:Blk}{l:List Blk}(hl:l[k]?=some b):l.set k b=l:=by
 obtain⟨hk,e⟩:=Ze.1 hl;rw[←e];exact List.set_getElem_self hk
theorem awf{f:FuncId}{args:List A}{s s':Sf.St}{m:List (Int×Jr)}{c:Nat}{v:A}(hc:AC f (.ptr 0 0::args) ⟨[RPB 1 s,MB m c],[]⟩ fun v' h'=>v'=v∧h'.b[0]?=some (RPB 1 s')∧h'.b[1]?=some (MB m c))(ha:A.locL 0 args=true)(hv:v.loc 0=true)
  {h:Hp} {i k:Nat} (hik:i≠k) (hi:h.b[i]?=some (RPB k s)) (hk:h.b[k]?=some (MB m c)):
  AC f (.ptr i 0::args) h fun v' h'=>v'=v∧h'=⟨h.b.set i (RPB k s'),h.t⟩:=by
 refine(liftP hc ha hv hik hi hk).mono ?_;rintro v' h' ⟨rfl,rfl⟩;refine⟨rfl,?_⟩;rw[dzf (h:=h) (by rw[Zaf hik];exact hk)]
theorem aj4(r:Jr):A.locL 0 [.agg r.cells]=true:=by
 obtain⟨kd,⟨lin,ser,ins,ps,os⟩,st,op,ad,dp,ty,tk,er,⟨a1,a2,a3,a4,⟨k,nn,ss,is,ks⟩,v,tn,fi,ds⟩⟩:=r;rfl
section
variable {n:Nat} {st:Sf.St} {m:List (Int×Jr)} {c:Nat} {h:Hp} {i k:Nat}
theorem cyn(r:Jr)(hik:i≠k)(hi:h.b[i]?=some (RPB k st))(hk:h.b[k]?=some (MB m c))(e:r.kind=1)(f:Option Jr):
  AC 34 [.ptr i 0,.agg r.cells] h fun v h'=>v=.int .i64 (Rp.stepP st f r).1∧h'=⟨h.b.set i (RPB k (Rp.stepP st f r).2),h.t⟩:=by
 refine awf ?_ (aj4 r) rfl hik hi hk;refine azb mixedT dqf (by simp[bjw]) ?_;dsimp only[bjw];unfold Rp.stepP;rw[if_pos e];clear e;obtain⟨kd,⟨lin,ser,ins,ps,os⟩,sp,op,ad,dp,ty,tk,er,⟨a1,a2,a3,a4,⟨k,nn,ss,is,ks⟩,v,tn,fi,ds⟩⟩:=r;obtain⟨Xlin,Xser,Xins,Xps,Xos⟩:=st;simp only[Sf.Inst.cells,Jr.cells,Zd,Zg,RPB];by_cases h1:lin=Xlin
 ·subst h1;by_cases h2:ser=Xser
  ·subst h2;refine aze ti ti ?_;exact⟨_,le_refl _,by simp[tupA]⟩
  ·have g2:(ser !=Xser)=true:=by simp[h2]
   refine aze g2 ti ?_;exact⟨_,le_refl _,by simp[h2,tupA]⟩
 ·have g1:(lin !=Xlin)=true:=by simp[h1]
  refine aze g1 ti ?_;exact⟨_,le_refl _,by simp[h1,tupA]⟩
theorem cv6(g:Gd n st)(hn:n≤40000)(a d:List UInt8)(hik:i≠k)(hi:h.b[i]?=some (RPB k st))(hk:h.b[k]?=some (MB m c)):
  AC 115 [.ptr i 0,.str a,.str d] h fun v h'=>v=.int .i64 (if(Rp.depose st a d).2=true then 0 else 38)∧h'=⟨h.b.set i (RPB k (Rp.depose st a d).1),h.t⟩:=by
 refine awf ?_ rfl rfl hik hi hk;have c1:=bxn g (by omega) a [];have c2:=bxn g (by omega) a d;have c3:=bvi g (by omega) a [];have c4:=fun x hx=>czb (g.rem a []) (by omega) (x:=x) hx
 have hio:=g.ins;clear hi hk hik g hn;refine azb mixedT cvf (by simp[bzv]) ?_;dsimp only[bzv];cases hx:Sf.findL st.insts a []with
 |none=>
  rw[Rp.depose_none hx];rw[hx]at c1;clear c3 c4 hx hio;obtain⟨z1,z2,z3,z4,z5,z6,z7,z8,z9,z10,z11,z12,z13,hz,hone⟩:=axl (Sf.findL st.insts a d);simp only[A.one]at hone;obtain⟨B,hB⟩:=Ex ((Sf.findL st.insts a d).isSome);rw[hz,hB]at c2;clear hz hB;obtain⟨lin,ser,ins,ps,os⟩:=st;simp only[Sf.St.A,instA,zeroI,RPB]at *;refine aze hone (ai c1 (ai c2 ti)) ?_;exact⟨_,le_refl _,rfl,rfl,rfl⟩
 |some x=>
  have hX:=hio x (Rp.find_mem hx);clear hio;cases hy:Sf.findL st.insts a d with
  |some y=>
   rw[Rp.depose_used hx (by rw[hy];rfl)];rw[hx]at c1;rw[hy]at c2;clear hy hx c3 c4;obtain⟨lin,ser,ins,ps,os⟩:=st;obtain⟨b1,b2,b3,b4,⟨jk2,jn,js,jis,jks⟩,jv,jtn,jfi,jds⟩:=y;obtain⟨e1,e2,e3,e4,⟨ek2,en,es,eis,eks⟩,ev,etn,efi,eds⟩:=x;simp only[Sf.St.A,instA,Sf.Inst.cells,RPB]at *;refine aze ti (ai c1 (ai c2 ti)) ?_;exact⟨_,le_refl _,rfl,rfl,rfl⟩
  |none=>
   rw[Rp.depose_some hx hy];rw[hx]at c1;rw[hy]at c2;have c4:=c4 { x with dep:=d } ⟨hX.few,hX.lens,hX.deps⟩;clear hy hX hx;obtain⟨R,hR⟩:=Ex (Rp.remS st a []);rw[hR]at c3 c4⊢;clear hR;obtain⟨lin,ser,ins,ps,os⟩:=st;obtain⟨e1,e2,e3,e4,⟨ek2,en,es,eis,eks⟩,ev,etn,efi,eds⟩:=x;dsimp only[Option.isSome]at *;obtain⟨S,hS⟩:=Ex (Rp.putS R ⟨e1,d,e3,e4,⟨ek2,en,es,eis,eks⟩,ev,etn,efi,eds⟩);rw[hS]at c4⊢;clear hS;obtain⟨Rlin,Rser,Rins,Rps,Ros⟩:=R;obtain⟨Slin,Sser,Sins,Sps,Sos⟩:=S;simp only[Sf.St.A,instA,zeroI,Sf.Inst.cells,RPB]at *;refine aze ti (ai c1 (ai c2 (ai c3 (ai c4 ti)))) ?_;exact⟨_,le_refl _,rfl,rfl,rfl⟩
theorem ckd(g:Gd n st)(hn:n≤40000)(r:Jr)(hik:i≠k)(hi:h.b[i]?=some (RPB k st))(hk:h.b[k]?=some (MB m c)):
  AC 16 [.ptr i 0,.agg r.cells] h fun v h'=>v=.tup []∧h'=⟨h.b.set i (RPB k (Rp.putR st ⟨r.addr,r.typ,r.tok⟩)),h.t⟩:=by
 refine awf ?_ (aj4 r) rfl hik hi hk;have c1:=dxu g (by omega) ⟨r.addr,r.typ,r.tok⟩;clear hi hk hik g hn;refine azb mixedT dvv (by simp[cvq]) ?_;dsimp only[cvq];obtain⟨S,hS⟩:=Ex (Rp.putR st ⟨r.addr,r.typ,r.tok⟩);rw[hS]at c1⊢;clear hS;obtain⟨kd,⟨lin,ser,ins,ps,os⟩,sp,op,ad,dp,ty,tk,er,⟨a1,a2,a3,a4,⟨k,nn,ss,is,ks⟩,v,tn,fi,ds⟩⟩:=r;obtain⟨Xlin,Xser,Xins,Xps,Xos⟩:=st;obtain⟨Slin,Sser,Sins,Sps,Sos⟩:=S;simp only[Sf.Inst.cells,Jr.cells,Sf.Pend.cells,Sf.St.A,Zd,Zg,RPB]at *;refine aze ti (ai c1 ti) ?_;exact⟨_,le_refl _,rfl,rfl,rfl⟩
theorem dva(g:Gd n st)(hn:n≤40000)(hik:i≠k)(hi:h.b[i]?=some (RPB k st))(hk:h.b[k]?=some (MB m c)):
  AC 16 [.ptr i 0,.agg zeroK] h fun v h'=>v=.tup []∧h'=⟨h.b.set i (RPB k (Rp.putR st ⟨[],[],[]⟩)),h.t⟩:=
 ACall.args (as':=[.ptr i 0,.agg Rp.zeroR.cells]) ⟨azz _,⟨aza _,aza _,aza _,⟨rfl,.inr rfl,.inl rfl⟩,⟨rfl,.inr rfl,.inl rfl⟩,⟨rfl,.inr rfl,.inl rfl⟩,aza _,aza _,aza _,aza _,aza _,aza _,aza _,aza _,aza _,aza _,aza _,aza _,aza _,aza _,⟨rfl,.inr rfl,.inl rfl⟩,⟨rfl,.inr rfl,.inl rfl⟩,aza _,aza _,aza _,⟨rfl,.inr rfl,.inl rfl⟩,trivial⟩,trivial⟩ (ckd g hn Rp.zeroR hik hi hk)
theorem bvu(g:Gd n st)(hn:n≤40000)(r:Jr)(hr:XOk r.after)(hik:i≠k)(hi:h.b[i]?=some (RPB k st))(hk:h.b[k]?=some (MB m c)):
  AC 72 [.ptr i 0,.agg r.cells] h fun v h'=>v=.int .i64 (if Rp.hasS st r.addr []=true then 0 else 38)∧h'=⟨h.b.set i (RPB k (if Rp.hasS st r.addr []=true then Rp.putS st r.after else st)),h.t⟩:=by
 refine awf ?_ (aj4 r) rfl hik hi hk;have c1:=bxn g (by omega) r.addr [];have c2:=czb g (by omega) hr;clear hi hk hik g hn hr;refine azb mixedT ckc (by simp[ayx]) ?_;dsimp only[ayx];unfold Rp.hasS;obtain⟨S,hS⟩:=Ex (Rp.putS st r.after);rw[hS]at c2⊢;clear hS;obtain⟨z1,z2,z3,z4,z5,z6,z7,z8,z9,z10,z11,z12,z13,hz,hone⟩:=axl (Sf.findL st.insts r.addr []);obtain⟨B,hB⟩:=Ex ((Sf.findL st.insts r.addr []).isSome);rw[hz,hB]at c1;rw[hB];clear hz hB;obtain⟨kd,⟨lin,ser,ins,ps,os⟩,sp,op,ad,dp,ty,tk,er,⟨a1,a2,a3,a4,⟨k,nn,ss,is,ks⟩,v,tn,fi,ds⟩⟩:=r;obtain⟨Xlin,Xser,Xins,Xps,Xos⟩:=st;obtain⟨Slin,Sser,Sins,Sps,Sos⟩:=S;simp only[Sf.Inst.cells,Jr.cells,Sf.St.A,Zd,Zg,RPB]at *;refine aze ti ti ?_;refine bqw [11] 10 [⟨[.cells 55 [.str Xlin,.int .i64 Xser,.sl 13 .no (Xins.map Sf.Inst.cells),.sl 3 .no (Xps.map Sf.Pend.cells),.sl 7 .no (Xos.map Sf.Outp.cells),.mp 1],MB m c,.cells 44 [.int .i64 kd,.str lin,.int .i64 ser,.sl 13 .no (ins.map Sf.Inst.cells),.sl 3 .no (ps.map Sf.Pend.cells),.sl 7 .no (os.map Sf.Outp.cells),.int .i64 sp,.int .i64 op,.str ad,.str dp,.str ty,.str tk,.int .i64 er,.str a1,.str a2,.str a3,.str a4,.int .i64 k,.int .i64 nn,.str ss,.sl 5 .no (V.cellss is),.sl 1 .no (strsA ks),.int .i64 v,.bool tn,.bool fi,.sl 1 .no (strsA ds)]],[]⟩,⟨[],[]⟩,⟨[.cells 55 [.str Xlin,.int .i64 Xser,.sl 13 .no (Xins.map Sf.Inst.cells),.sl 3 .no (Xps.map Sf.Pend.cells),.sl 7 .no (Xos.map Sf.Outp.cells),.mp 1],MB m c,.cells 44 [.int .i64 kd,.str lin,.int .i64 ser,.sl 13 .no (ins.map Sf.Inst.cells),.sl 3 .no (ps.map Sf.Pend.cells),.sl 7 .no (os.map Sf.Outp.cells),.int .i64 sp,.int .i64 op,.str ad,.str dp,.str ty,.str tk,.int .i64 er,.str a1,.str a2,.str a3,.str a4,.int .i64 k,.int .i64 nn,.str ss,.sl 5 .no (V.cellss is),.sl 1 .no (strsA ks),.int .i64 v,.bool tn,.bool fi,.sl 1 .no (strsA ds)],.cells 42 [.str [],.str [],.str [],.str [],.int .i64 0,.int .i64 0,.str [],.sl 0 .nil [],.sl 0 .nil [],.int .i64 0,.bool false,.bool false,.sl 0 .nil []]],[]⟩,⟨[.cells 55 [.str Xlin,.int .i64 Xser,.sl 13 .no (Xins.map Sf.Inst.cells),.sl 3 .no (Xps.map Sf.Pend.cells),.sl 7 .no (Xos.map Sf.Outp.cells),.mp 1],MB m c,.cells 44 [.int .i64 kd,.str lin,.int .i64 ser,.sl 13 .no (ins.map Sf.Inst.cells),.sl 3 .no (ps.map Sf.Pend.cells),.sl 7 .no (os.map Sf.Outp.cells),.int .i64 sp,.int .i64 op,.str ad,.str dp,.str ty,.str tk,.int .i64 er,.str a1,.str a2,.str a3,.str a4,.int .i64 k,.int .i64 nn,.str ss,.sl 5 .no (V.cellss is),.sl 1 .no (strsA ks),.int .i64 v,.bool tn,.bool fi,.sl 1 .no (strsA ds)],.cells 42 [z1,z2,z3,z4,z5,z6,z7,z8,z9,z10,z11,z12,z13]],[]⟩] [[0,2],[0,2],[0,2],[0,2],[0,2],[0,2],[0,2],[0,2],[0,2],[0,2,3],[0],[2],[3]] rfl (by decide +kernel) ?_;refine AX.rung ti ?_;refine axm (vs:=[.agg [.str Xlin,.int .i64 Xser,.sl 13 .no (Xins.map Sf.Inst.cells),.sl 3 .no (Xps.map Sf.Pend.cells),.sl 7 .no (Xos.map Sf.Outp.cells)],.str ad,.str []]) (by(exact ev0 ti)) ⟨c1 _,c1 _,trivial⟩ ?_;refine AX.rung hone ?_;refine aka (v:=.bool B) rfl ⟨by simp[evX,put,astep,ajm],by simp[evX,put,astep,ajm],by simp[evX,put,astep,ajm],trivial⟩ ?_;refine AX.rung hone ?_;refine aka (v:=.tup []) rfl ⟨by simp[evX,put,astep,storeA,setCells,A.cells,ajm,hone],trivial⟩ ?_;refine aka (v:=.bool B) rfl ⟨by simp[evX,put,astep,ajm],trivial⟩ ?_;refine bj4 ?_;cases B with
 |true=>
  refine aze ti (ai c2 ti) ?_;exact⟨_,le_refl _,rfl,rfl,rfl⟩
 |false=>
  refine aze ti ti ?_;exact⟨_,le_refl _,rfl,rfl,rfl⟩
theorem bk0(g:Gd n st)(hn:n≤30000)(r:Jr)(hr:XOk r.after)(hik:i≠k)(hi:h.b[i]?=some (RPB k st))(hk:h.b[k]?=some (MB m c)):
  AC 71 [.ptr i 0,.agg r.cells] h fun v h'=>v=.int .i64 (if(Rp.created st r (Rp.tokOf (gfind r.step m))).2=true then 0 else 38)∧h'=⟨h.b.set i (RPB k (if(Rp.created st r (Rp.tokOf (gfind r.step m))).2=true then(Rp.created st r (Rp.tokOf (gfind r.step m))).1 else st)),h.t⟩:=by
 refine awf ?_ (aj4 r) rfl hik hi hk;have hG:mgetV (.agg zeroK) false (mfind r.step (gmap jA m))=match gfind r.step m with|some x=> .agg x.cells|none=> .agg zeroK:=by rw[aqr];cases gfind r.step m<;>rfl
 have hG':(mfind r.step (gmap jA m)).getD (.agg zeroK)=match gfind r.step m with|some x=> .agg x.cells|none=> .agg zeroK:=hG
 clear hi hk hik;have cd:=fun {b:Blk}=>cv6 (m:=m) (c:=c) g (by omega) r.addr r.dep (h:=⟨[RPB 1 st,MB m c,b],[]⟩) (i:=0) (k:=1) (by decide) rfl rfl
 have c2:=czb g (by omega) hr;have c2':=czb (g.depose r.addr r.dep) (by omega) hr;have c3:=fun t=>cwa (g.put hr) (by omega) t
 have c3':=fun t=>cwa ((g.depose r.addr r.dep).put hr) (by omega) t
 clear g hn hr;refine azb mixedT ck2 (by simp[awo]) ?_;dsimp only[awo];unfold Rp.created;by_cases hd:r.dep=[]
 ·rw[if_pos hd];clear cd c2' c3';obtain⟨S,hS⟩:=Ex (Rp.putS st r.after);rw[hS]at c2 c3⊢;clear hS;cases hF:gfind r.step m with
  |none=>
   rw[hF]at hG hG';have c3:=c3 [];obtain⟨T,hT⟩:=Ex (Rp.remR S (Rp.tokOf none));have hT':Rp.remR S []=T:=hT;rw[hT']at c3;rw[hT];clear hF hT hT';obtain⟨kd,⟨lin,ser,ins,ps,os⟩,sp,op,ad,dp,ty,tk,er,⟨a1,a2,a3,a4,⟨k,nn,ss,is,ks⟩,v,tn,fi,ds⟩⟩:=r;dsimp only at hd hG hG';subst hd;obtain⟨Xlin,Xser,Xins,Xps,Xos⟩:=st;obtain⟨Slin,Sser,Sins,Sps,Sos⟩:=S;obtain⟨Tlin,Tser,Tins,Tps,Tos⟩:=T;simp only[Sf.Inst.cells,Jr.cells,Sf.St.A,Zd,Zg,RPB,MB,zeroK]at *;refine aze (ai hG hG') (ai c2 (ai c3 ti)) ?_;exact⟨_,le_refl _,rfl,rfl,rfl⟩
  |some x=>
   rw[hF]at hG hG';have c3:=c3 x.tok;obtain⟨T,hT⟩:=Ex (Rp.remR S (Rp.tokOf (some x)));have hT':Rp.remR S x.tok=T:=hT;rw[hT']at c3;rw[hT];clear hF hT hT';obtain⟨kd,⟨lin,ser,ins,ps,os⟩,sp,op,ad,dp,ty,tk,er,⟨a1,a2,a3,a4,⟨k,nn,ss,is,ks⟩,v,tn,fi,ds⟩⟩:=r;obtain⟨fkd,⟨flin,fser,fins,fps,fos⟩,fst,fop,fad,fdp,fty,ftk,fer,⟨fa1,fa2,fa3,fa4,⟨fk,fnn,fss,fis,fks⟩,fv,ftn,ffi,fds⟩⟩:=x;dsimp only at hd hG hG';subst hd;obtain⟨Xlin,Xser,Xins,Xps,Xos⟩:=st;obtain⟨Slin,Sser,Sins,Sps,Sos⟩:=S;obtain⟨Tlin,Tser,Tins,Tps,Tos⟩:=T;simp only[Sf.Inst.cells,Jr.cells,Sf.St.A,Zd,Zg,RPB,MB,zeroK]at *;refine aze (ai hG hG') (ai c2 (ai c3 ti)) ?_;exact⟨_,le_refl _,rfl,rfl,rfl⟩
 ·rw[if_neg hd];clear c2 c3;obtain⟨⟨E,B⟩,hE⟩:=Ex (Rp.depose st r.addr r.dep);have hst:B=false→E=st:=fun hb=>by
   unfold Rp.depose at hE;split at hE
   ·injection hE with h1 h2;exact h1.symm
   ·split at hE
    ·injection hE with h1 h2;exact h1.symm
    ·injection hE with h1 h2;rw[←h2]at hb;cases hb
  rw[hE]at cd c2' c3'⊢;dsimp only at cd c2' c3'⊢;clear hE;obtain⟨S,hS⟩:=Ex (Rp.putS E r.after);rw[hS]at c2' c3'⊢;clear hS;cases B with
  |false=>
   have hst:=hst rfl;subst hst;clear c2' c3' hG hG';obtain⟨kd,⟨lin,ser,ins,ps,os⟩,sp,op,ad,dp,ty,tk,er,⟨a1,a2,a3,a4,⟨k,nn,ss,is,ks⟩,v,tn,fi,ds⟩⟩:=r;dsimp only at hd cd;have hdb:(dp != [])=true:=by simp[hd]
   obtain⟨Xlin,Xser,Xins,Xps,Xos⟩:=E;simp only[Sf.Inst.cells,Jr.cells,Sf.St.A,Zd,Zg,RPB,MB]at *;refine aze hdb (ai @cd ti) ?_;exact⟨_,le_refl _,rfl,rfl,rfl⟩
  |true=>
   clear hst;cases hF:gfind r.step m with
   |none=>
    rw[hF]at hG hG';have c3:=c3' [];obtain⟨T,hT⟩:=Ex (Rp.remR S (Rp.tokOf none));have hT':Rp.remR S []=T:=hT;rw[hT']at c3;rw[hT];clear hF hT hT' c3';obtain⟨kd,⟨lin,ser,ins,ps,os⟩,sp,op,ad,dp,ty,tk,er,⟨a1,a2,a3,a4,⟨k,nn,ss,is,ks⟩,v,tn,fi,ds⟩⟩:=r;dsimp only at hd hG hG' cd;have hdb:(dp != [])=true:=by simp[hd]
    obtain⟨Xlin,Xser,Xins,Xps,Xos⟩:=st;obtain⟨Elin,Eser,Eins,Eps,Eos⟩:=E;obtain⟨Slin,Sser,Sins,Sps,Sos⟩:=S;obtain⟨Tlin,Tser,Tins,Tps,Tos⟩:=T;simp only[Sf.Inst.cells,Jr.cells,Sf.St.A,Zd,Zg,RPB,MB,zeroK]at *;refine aze (ai hdb (ai hG hG')) (ai @cd (ai c2' (ai c3 ti))) ?_;exact⟨_,le_refl _,rfl,rfl,rfl⟩
   |some x=>
    rw[hF]at hG hG';have c3:=c3' x.tok;obtain⟨T,hT⟩:=Ex (Rp.remR S (Rp.tokOf (some x)));have hT':Rp.remR S x.tok=T:=hT;rw[hT']at c3;rw[hT];clear hF hT hT' c3';obtain⟨kd,⟨lin,ser,ins,ps,os⟩,sp,op,ad,dp,ty,tk,er,⟨a1,a2,a3,a4,⟨k,nn,ss,is,ks⟩,v,tn,fi,ds⟩⟩:=r;obtain⟨fkd,⟨flin,fser,fins,fps,fos⟩,fst,fop,fad,fdp,fty,ftk,fer,⟨fa1,fa2,fa3,fa4,⟨fk,fnn,fss,fis,fks⟩,fv,ftn,ffi,fds⟩⟩:=x;dsimp only at hd hG hG' cd;have hdb:(dp != [])=true:=by simp[hd]
    obtain⟨Xlin,Xser,Xins,Xps,Xos⟩:=st;obtain⟨Elin,Eser,Eins,Eps,Eos⟩:=E;obtain⟨Slin,Sser,Sins,Sps,Sos⟩:=S;obtain⟨Tlin,Tser,Tins,Tps,Tos⟩:=T;simp only[Sf.Inst.cells,Jr.cells,Sf.St.A,Zd,Zg,RPB,MB,zeroK]at *;refine aze (ai hdb (ai hG hG')) (ai @cd (ai c2' (ai c3 ti))) ?_;exact⟨_,le_refl _,rfl,rfl,rfl⟩
theorem dj4(g:Gd n st)(hn:n≤30000)(r:Jr)(hr:XOk r.after)(hik:i≠k)(hi:h.b[i]?=some (RPB k st))(hk:h.b[k]?=some (MB m c))(e:r.kind=3):
  AC 35 [.ptr i 0,.agg r.cells] h fun v h'=>v=.int .i64 (Rp.stepP st (gfind r.step m) r).1∧h'=⟨h.b.set i (RPB k (Rp.stepP st (gfind r.step m) r).2),h.t⟩:=by
 refine awf ?_ (aj4 r) rfl hik hi hk;clear hi hk hik;have c1:=fun {b:Blk}=>bk0 (m:=m) (c:=c) g (by omega) r hr (h:=⟨[RPB 1 st,MB m c,b],[]⟩) (i:=0) (k:=1) (by decide) rfl rfl
 have c2:=fun {b:Blk}=>bvu (m:=m) (c:=c) g (by omega) r hr (h:=⟨[RPB 1 st,MB m c,b],[]⟩) (i:=0) (k:=1) (by decide) rfl rfl
 have c3:=bxn g (by omega) r.addr r.dep;have c4:=bvi g (by omega) r.addr r.dep;clear g hn hr;refine fo ?_;unfold Rp.stepP;rw[if_neg (by omega)];obtain⟨F,hF⟩:=Ex (gfind r.step m);rw[hF]at c1⊢;clear hF;by_cases q1:r.op=1
 ·have ee:Rp.one st F r=Rp.created st r (Rp.tokOf F):=by unfold Rp.one;simp[e,q1]
  rw[ee];clear ee c2 c3 c4;obtain⟨⟨E,B⟩,hE⟩:=Ex (Rp.created st r (Rp.tokOf F));rw[hE]at c1⊢;clear hE;obtain⟨kd,⟨lin,ser,ins,ps,os⟩,sp,op,ad,dp,ty,tk,er,⟨a1,a2,a3,a4,⟨k,nn,ss,is,ks⟩,v,tn,fi,ds⟩⟩:=r;obtain⟨Xlin,Xser,Xins,Xps,Xos⟩:=st;obtain⟨Elin,Eser,Eins,Eps,Eos⟩:=E;dsimp only at q1 e;subst q1;subst e;simp only[Sf.Inst.cells,Jr.cells,Zd,Zg,RPB]at *;cases B<;>simp only[if_true,Zn,if_false,ZV]at c1⊢
  ·refine aze ti (ai @c1 ti) ?_;exact⟨_,le_refl _,rfl,rfl,rfl⟩
  ·refine aze ti (ai @c1 ti) ?_;exact⟨_,le_refl _,rfl,rfl,rfl⟩
 by_cases q2:r.op=2
 ·have ee:Rp.one st F r=(Rp.putS st r.after,Rp.hasS st r.addr []):=by unfold Rp.one;simp[e,q2]
  rw[ee];clear ee c1 c3 c4 q1;obtain⟨B,hB⟩:=Ex (Rp.hasS st r.addr []);obtain⟨E,hE⟩:=Ex (Rp.putS st r.after);rw[hE,hB]at c2⊢;clear hE hB;obtain⟨kd,⟨lin,ser,ins,ps,os⟩,sp,op,ad,dp,ty,tk,er,⟨a1,a2,a3,a4,⟨k,nn,ss,is,ks⟩,v,tn,fi,ds⟩⟩:=r;obtain⟨Xlin,Xser,Xins,Xps,Xos⟩:=st;obtain⟨Elin,Eser,Eins,Eps,Eos⟩:=E;dsimp only at q2 e;subst q2;subst e;simp only[Sf.Inst.cells,Jr.cells,Zd,Zg,RPB]at *;cases B<;>simp only[if_true,Zn,if_false,ZV]at c2⊢
  ·refine aze ti (ai @c2 ti) ?_;exact⟨_,le_refl _,rfl,rfl,rfl⟩
  ·refine aze ti (ai @c2 ti) ?_;exact⟨_,le_refl _,rfl,rfl,rfl⟩
 by_cases q3:r.op=3
 ·have ee:Rp.one st F r=(Rp.remS st r.addr r.dep,Rp.hasS st r.addr r.dep):=by unfold Rp.one;simp[e,q3]
  rw[ee];clear ee c1 c2 q1 q2;unfold Rp.hasS;obtain⟨z1,z2,z3,z4,z5,z6,z7,z8,z9,z10,z11,z12,z13,hz,hone⟩:=axl (Sf.findL st.insts r.addr r.dep);obtain⟨B,hB⟩:=Ex ((Sf.findL st.insts r.addr r.dep).isSome);obtain⟨E,hE⟩:=Ex (Rp.remS st r.addr r.dep);rw[hz,hB]at c3;rw[hE]at c4⊢;rw[hB];clear hE hB hz;obtain⟨kd,⟨lin,ser,ins,ps,os⟩,sp,op,ad,dp,ty,tk,er,⟨a1,a2,a3,a4,⟨k,nn,ss,is,ks⟩,v,tn,fi,ds⟩⟩:=r;obtain⟨Xlin,Xser,Xins,Xps,Xos⟩:=st;obtain⟨Elin,Eser,Eins,Eps,Eos⟩:=E;dsimp only at q3 e;subst q3;subst e;simp only[Sf.Inst.cells,Jr.cells,Sf.St.A,Zd,Zg,RPB]at *;refine aze ti ti ?_;refine bqw [13] 12 [⟨[.cells 55 [.str Xlin,.int .i64 Xser,.sl 13 .no (Xins.map Sf.Inst.cells),.sl 3 .no (Xps.map Sf.Pend.cells),.sl 7 .no (Xos.map Sf.Outp.cells),.mp 1],MB m c,.cells 44 [.int .i64 3,.str lin,.int .i64 ser,.sl 13 .no (ins.map Sf.Inst.cells),.sl 3 .no (ps.map Sf.Pend.cells),.sl 7 .no (os.map Sf.Outp.cells),.int .i64 sp,.int .i64 3,.str ad,.str dp,.str ty,.str tk,.int .i64 er,.str a1,.str a2,.str a3,.str a4,.int .i64 k,.int .i64 nn,.str ss,.sl 5 .no (V.cellss is),.sl 1 .no (strsA ks),.int .i64 v,.bool tn,.bool fi,.sl 1 .no (strsA ds)]],[]⟩,⟨[],[]⟩,⟨[.cells 55 [.str Xlin,.int .i64 Xser,.sl 13 .no (Xins.map Sf.Inst.cells),.sl 3 .no (Xps.map Sf.Pend.cells),.sl 7 .no (Xos.map Sf.Outp.cells),.mp 1],MB m c,.cells 44 [.int .i64 3,.str lin,.int .i64 ser,.sl 13 .no (ins.map Sf.Inst.cells),.sl 3 .no (ps.map Sf.Pend.cells),.sl 7 .no (os.map Sf.Outp.cells),.int .i64 sp,.int .i64 3,.str ad,.str dp,.str ty,.str tk,.int .i64 er,.str a1,.str a2,.str a3,.str a4,.int .i64 k,.int .i64 nn,.str ss,.sl 5 .no (V.cellss is),.sl 1 .no (strsA ks),.int .i64 v,.bool tn,.bool fi,.sl 1 .no (strsA ds)],.cells 42 [.str [],.str [],.str [],.str [],.int .i64 0,.int .i64 0,.str [],.sl 0 .nil [],.sl 0 .nil [],.int .i64 0,.bool false,.bool false,.sl 0 .nil []]],[]⟩,⟨[.cells 55 [.str Xlin,.int .i64 Xser,.sl 13 .no (Xins.map Sf.Inst.cells),.sl 3 .no (Xps.map Sf.Pend.cells),.sl 7 .no (Xos.map Sf.Outp.cells),.mp 1],MB m c,.cells 44 [.int .i64 3,.str lin,.int .i64 ser,.sl 13 .no (ins.map Sf.Inst.cells),.sl 3 .no (ps.map Sf.Pend.cells),.sl 7 .no (os.map Sf.Outp.cells),.int .i64 sp,.int .i64 3,.str ad,.str dp,.str ty,.str tk,.int .i64 er,.str a1,.str a2,.str a3,.str a4,.int .i64 k,.int .i64 nn,.str ss,.sl 5 .no (V.cellss is),.sl 1 .no (strsA ks),.int .i64 v,.bool tn,.bool fi,.sl 1 .no (strsA ds)],.cells 42 [z1,z2,z3,z4,z5,z6,z7,z8,z9,z10,z11,z12,z13]],[]⟩] [[0,2],[0,2],[0,2],[0,2],[0,2],[0,2],[0,2],[0,2],[0,2],[0,2],[0,2],[0,2,3],[0],[2],[3]] rfl (by decide +kernel) ?_;refine AX.rung ti ?_;refine axm (vs:=[.agg [.str Xlin,.int .i64 Xser,.sl 13 .no (Xins.map Sf.Inst.cells),.sl 3 .no (Xps.map Sf.Pend.cells),.sl 7 .no (Xos.map Sf.Outp.cells)],.str ad,.str dp]) (by(exact ev0 ti)) ⟨c3 _,c3 _,trivial⟩ ?_;refine AX.rung hone ?_;refine aka (v:=.bool B) rfl ⟨by simp[evX,put,astep,ajm],by simp[evX,put,astep,ajm],by simp[evX,put,astep,ajm],trivial⟩ ?_;refine AX.rung hone ?_;refine aka (v:=.tup []) rfl ⟨by simp[evX,put,astep,storeA,setCells,A.cells,ajm,hone],trivial⟩ ?_;refine aka (v:=.bool B) rfl ⟨by simp[evX,put,astep,ajm],trivial⟩ ?_;refine bj4 ?_;cases B
  ·refine aze ti ti ?_;exact⟨_,le_refl _,rfl,rfl,rfl⟩
  ·refine aze ti (ai c4 ti) ?_;exact⟨_,le_refl _,rfl,rfl,rfl⟩
 have ee:Rp.one st F r=(st,true):=by unfold Rp.one;simp[e,q1,q2,q3]
 rw[ee];clear ee c1 c2 c3 c4;obtain⟨kd,⟨lin,ser,ins,ps,os⟩,sp,op,ad,dp,ty,tk,er,⟨a1,a2,a3,a4,⟨k,nn,ss,is,ks⟩,v,tn,fi,ds⟩⟩:=r;obtain⟨Xlin,Xser,Xins,Xps,Xos⟩:=st;dsimp only at q1 q2 q3 e;subst e;have g1:(op==1)=false:=by simp[q1]
 have g2:(op==2)=false:=by simp[q2]
 have g3:(op==3)=false:=by simp[q3]
 simp only[Sf.Inst.cells,Jr.cells,Zd,Zg,RPB]at *;refine aze (ai g1 (ai g2 g3)) ti ?_;exact⟨_,le_refl _,rfl,rfl,rfl⟩
theorem ck1(g:Gd n st)(hn:n≤30000)(r:Jr)(hr:XOk r.after)(hik:i≠k)(hi:h.b[i]?=some (RPB k st))(hk:h.b[k]?=some (MB m c))(e:r.kind=4):
  AC 36 [.ptr i 0,.agg r.cells] h fun v h'=>v=.int .i64 (Rp.stepP st (gfind r.step m) r).1∧h'=⟨h.b.set i (RPB k (Rp.stepP st (gfind r.step m) r).2),h.t⟩:=by
 refine awf ?_ (aj4 r) rfl hik hi hk;clear hi hk hik;have hG:mgetV (.agg zeroK) false (mfind r.step (gmap jA m))=match gfind r.step m with|some x=> .agg x.cells|none=> .agg zeroK:=by rw[aqr];cases gfind r.step m<;>rfl
 have hG':(mfind r.step (gmap jA m)).getD (.agg zeroK)=match gfind r.step m with|some x=> .agg x.cells|none=> .agg zeroK:=hG
 have c1:=fun {b:Blk}=>bk0 (m:=m) (c:=c) g (by omega) r hr (h:=⟨[RPB 1 st,MB m c,b],[]⟩) (i:=0) (k:=1) (by decide) rfl rfl
 have c2:=fun {b:Blk}=>bvu (m:=m) (c:=c) g (by omega) r hr (h:=⟨[RPB 1 st,MB m c,b],[]⟩) (i:=0) (k:=1) (by decide) rfl rfl
 have c3:=fun {b:Blk} (x:Jr)=>ckd (m:=m) (c:=c) g (by omega) x (h:=⟨[RPB 1 st,MB m c,b],[]⟩) (i:=0) (k:=1) (by decide) rfl rfl
 have c4:=fun {b:Blk}=>dva (m:=m) (c:=c) g (by omega) (h:=⟨[RPB 1 st,MB m c,b],[]⟩) (i:=0) (k:=1) (by decide) rfl rfl
 clear g hn hr;refine azb mixedT cwq (by simp[awz]) ?_;dsimp only[awz];unfold Rp.stepP;rw[if_neg (by omega)];obtain⟨F,hF⟩:=Ex (gfind r.step m);rw[hF]at c1 hG hG'⊢;clear hF;by_cases q1:r.op=1
 ·by_cases q4:r.after.id=[]
  ·by_cases q5:r.err=31
   ·have ee:Rp.one st F r=(Rp.putR st (Rp.pendOf F),true):=by unfold Rp.one;simp[e,q1,q4,q5]
    rw[ee];clear ee c1 c2;cases F with
    |none=>
     clear c3;unfold Rp.pendOf;obtain⟨E,hE⟩:=Ex (Rp.putR st ⟨[],[],[]⟩);rw[hE]at c4⊢;clear hE;obtain⟨kd,⟨lin,ser,ins,ps,os⟩,sp,op,ad,dp,ty,tk,er,⟨a1,a2,a3,a4,⟨k,nn,ss,is,ks⟩,v,tn,fi,ds⟩⟩:=r;obtain⟨Xlin,Xser,Xins,Xps,Xos⟩:=st;obtain⟨Elin,Eser,Eins,Eps,Eos⟩:=E;dsimp only at q1 q4 q5 e hG hG';subst q1 q4 q5 e;simp only[Sf.Inst.cells,Jr.cells,Zd,Zg,RPB,MB,zeroK]at *;simp only[ZV]at c4;refine aze (ai hG hG') (ai @c4 ti) ?_;exact⟨_,le_refl _,rfl,rfl,rfl⟩
    |some x=>
     clear c4;have d3:=fun {b:Blk}=>@c3 b x
     clear c3;unfold Rp.pendOf;obtain⟨E,hE⟩:=Ex (Rp.putR st ⟨x.addr,x.typ,x.tok⟩);rw[hE]at d3⊢;clear hE;obtain⟨kd,⟨lin,ser,ins,ps,os⟩,sp,op,ad,dp,ty,tk,er,⟨a1,a2,a3,a4,⟨k,nn,ss,is,ks⟩,v,tn,fi,ds⟩⟩:=r;obtain⟨fkd,⟨flin,fser,fins,fps,fos⟩,fst,fop,fad,fdp,fty,ftk,fer,⟨fa1,fa2,fa3,fa4,⟨fk,fnn,fss,fis,fks⟩,fv,ftn,ffi,fds⟩⟩:=x;obtain⟨Xlin,Xser,Xins,Xps,Xos⟩:=st;obtain⟨Elin,Eser,Eins,Eps,Eos⟩:=E;dsimp only at q1 q4 q5 e hG hG';subst q1 q4 q5 e;simp only[Sf.Inst.cells,Jr.cells,Zd,Zg,RPB,MB,zeroK]at *;simp only[ZV]at d3;refine aze (ai hG hG') (ai @d3 ti) ?_;exact⟨_,le_refl _,rfl,rfl,rfl⟩
   ·have ee:Rp.one st F r=(st,true):=by unfold Rp.one;simp[e,q1,q4,q5]
    rw[ee];clear ee c1 c2 c3 c4 hG hG';obtain⟨kd,⟨lin,ser,ins,ps,os⟩,sp,op,ad,dp,ty,tk,er,⟨a1,a2,a3,a4,⟨k,nn,ss,is,ks⟩,v,tn,fi,ds⟩⟩:=r;obtain⟨Xlin,Xser,Xins,Xps,Xos⟩:=st;dsimp only at q1 q4 q5 e;subst q1 q4 e;have g5:(er==31)=false:=by simp[q5]
    simp only[Sf.Inst.cells,Jr.cells,Zd,Zg,RPB]at *;refine aze g5 ti ?_;exact⟨_,le_refl _,rfl,rfl,rfl⟩
  ·have ee:Rp.one st F r=Rp.created st r (Rp.tokOf F):=by unfold Rp.one;simp[e,q1,q4]
   rw[ee];clear ee c2 c3 c4 hG hG';obtain⟨⟨E,B⟩,hE⟩:=Ex (Rp.created st r (Rp.tokOf F));rw[hE]at c1⊢;clear hE;obtain⟨kd,⟨lin,ser,ins,ps,os⟩,sp,op,ad,dp,ty,tk,er,⟨a1,a2,a3,a4,⟨k,nn,ss,is,ks⟩,v,tn,fi,ds⟩⟩:=r;obtain⟨Xlin,Xser,Xins,Xps,Xos⟩:=st;obtain⟨Elin,Eser,Eins,Eps,Eos⟩:=E;dsimp only at q1 q4 e;subst q1 e;have g4:(a3 != [])=true:=by simp[q4]
   simp only[Sf.Inst.cells,Jr.cells,Zd,Zg,RPB]at *;cases B<;>simp only[if_true,Zn,if_false,ZV]at c1⊢
   ·refine aze g4 (ai @c1 ti) ?_;exact⟨_,le_refl _,rfl,rfl,rfl⟩
   ·refine aze g4 (ai @c1 ti) ?_;exact⟨_,le_refl _,rfl,rfl,rfl⟩
 by_cases q2:r.op=2
 ·by_cases q4:r.after.id=[]
  ·have ee:Rp.one st F r=(st,true):=by unfold Rp.one;simp[e,q2,q4]
   rw[ee];clear ee c1 c2 c3 c4 hG hG' q1;obtain⟨kd,⟨lin,ser,ins,ps,os⟩,sp,op,ad,dp,ty,tk,er,⟨a1,a2,a3,a4,⟨k,nn,ss,is,ks⟩,v,tn,fi,ds⟩⟩:=r;obtain⟨Xlin,Xser,Xins,Xps,Xos⟩:=st;dsimp only at q2 q4 e;subst q2 q4 e;simp only[Sf.Inst.cells,Jr.cells,Zd,Zg,RPB]at *;refine aze ti ti ?_;exact⟨_,le_refl _,rfl,rfl,rfl⟩
  ·have ee:Rp.one st F r=(Rp.putS st r.after,Rp.hasS st r.addr []):=by unfold Rp.one;simp[e,q2,q4]
   rw[ee];clear ee c1 c3 c4 hG hG' q1;obtain⟨B,hB⟩:=Ex (Rp.hasS st r.addr []);obtain⟨E,hE⟩:=Ex (Rp.putS st r.after);rw[hE,hB]at c2⊢;clear hE hB;obtain⟨kd,⟨lin,ser,ins,ps,os⟩,sp,op,ad,dp,ty,tk,er,⟨a1,a2,a3,a4,⟨k,nn,ss,is,ks⟩,v,tn,fi,ds⟩⟩:=r;obtain⟨Xlin,Xser,Xins,Xps,Xos⟩:=st;obtain⟨Elin,Eser,Eins,Eps,Eos⟩:=E;dsimp only at q2 q4 e;subst q2 e;have g4:(a3 != [])=true:=by simp[q4]
   simp only[Sf.Inst.cells,Jr.cells,Zd,Zg,RPB]at *;cases B<;>simp only[if_true,Zn,if_false,ZV]at c2⊢
   ·refine aze g4 (ai @c2 ti) ?_;exact⟨_,le_refl _,rfl,rfl,rfl⟩
   ·refine aze g4 (ai @c2 ti) ?_;exact⟨_,le_refl _,rfl,rfl,rfl⟩
 have ee:Rp.one st F r=(st,true):=by unfold Rp.one;simp[e,q1,q2]
 rw[ee];clear ee c1 c2 c3 c4 hG hG';obtain⟨kd,⟨lin,ser,ins,ps,os⟩,sp,op,ad,dp,ty,tk,er,⟨a1,a2,a3,a4,⟨k,nn,ss,is,ks⟩,v,tn,fi,ds⟩⟩:=r;obtain⟨Xlin,Xser,Xins,Xps,Xos⟩:=st;dsimp only at q1 q2 e;subst e;have g1:(op==1)=false:=by simp[q1]
 have g2:(op==2)=false:=by simp[q2]
 simp only[Sf.Inst.cells,Jr.cells,Zd,Zg,RPB]at *;refine aze (ai g1 g2) ti ?_;exact⟨_,le_refl _,rfl,rfl,rfl⟩
def putM(m:List (Int×Jr))(r:Jr):List (Int×Jr):=if r.kind=2 then gput r.step r m else m
def clockM(m:List (Int×Jr))(c:Nat)(r:Jr):Nat:=if r.kind=2 then(if(gfind r.step m).isSome=true then c else c+1)else c
theorem cvw(g:Gd n st)(hn:n≤30000)(r:Jr)(hr:XOk r.after)(hik:i≠k)(hi:h.b[i]?=some (RPB k st))(hk:h.b[k]?=some (MB m c)):
  AC 14 [.ptr i 0,.agg r.cells] h fun v h'=>v=.int .i64 (Rp.stepP st (gfind r.step m) r).1∧h'=⟨(h.b.set i (RPB k (Rp.stepP st (gfind r.step m) r).2)).set k (MB (putM m r) (clockM m c r)),h.t⟩:=by
 refine liftP ?_ (aj4 r) rfl hik hi hk;clear hi hk hik;have c1:=fun {b:Blk}=>cyn (st:=st) (m:=m) (c:=c) r (h:=⟨[RPB 1 st,MB m c,b],[]⟩) (i:=0) (k:=1) (by decide) rfl rfl
 have c3:=fun {b:Blk}=>dj4 (m:=m) (c:=c) g (by omega) r hr (h:=⟨[RPB 1 st,MB m c,b],[]⟩) (i:=0) (k:=1) (by decide) rfl rfl
 have c4:=fun {b:Blk}=>ck1 (m:=m) (c:=c) g (by omega) r hr (h:=⟨[RPB 1 st,MB m c,b],[]⟩) (i:=0) (k:=1) (by decide) rfl rfl
 have p2:=avj jA r.step r m;have k2:=aja jA r.step m c;clear g hn hr;refine azb mixedT cwi (by simp[bzt]) ?_;dsimp only[bzt];unfold putM clockM;obtain⟨F,hF⟩:=Ex (gfind r.step m);rw[hF]at c3 c4 k2⊢;clear hF;obtain⟨⟨Z,E⟩,hE⟩:=Ex (Rp.stepP st F r);by_cases q1:r.kind=1
 ·have d1:=fun {b:Blk}=>@c1 b q1 F
  rw[hE]at d1⊢;clear c1;rw[if_neg (by omega),if_neg (by omega)];clear hE c3 c4 p2 k2;obtain⟨kd,⟨lin,ser,ins,ps,os⟩,sp,op,ad,dp,ty,tk,er,⟨a1,a2,a3,a4,⟨k,nn,ss,is,ks⟩,v,tn,fi,ds⟩⟩:=r;obtain⟨Xlin,Xser,Xins,Xps,Xos⟩:=st;obtain⟨Elin,Eser,Eins,Eps,Eos⟩:=E;dsimp only at q1 d1;subst q1;simp only[Sf.Inst.cells,Jr.cells,Zd,Zg,RPB,ZV]at *;refine aze ti (ai @d1 ti) ?_;exact⟨_,le_refl _,rfl,rfl,rfl⟩
 by_cases q3:r.kind=3
 ·have d3:=fun {b:Blk}=>@c3 b q3
  rw[hE]at d3⊢;clear c3;rw[if_neg (by omega),if_neg (by omega)];clear hE c1 c4 p2 k2 q1;obtain⟨kd,⟨lin,ser,ins,ps,os⟩,sp,op,ad,dp,ty,tk,er,⟨a1,a2,a3,a4,⟨k,nn,ss,is,ks⟩,v,tn,fi,ds⟩⟩:=r;obtain⟨Xlin,Xser,Xins,Xps,Xos⟩:=st;obtain⟨Elin,Eser,Eins,Eps,Eos⟩:=E;dsimp only at q3 d3;subst q3;simp only[Sf.Inst.cells,Jr.cells,Zd,Zg,RPB,ZV]at *;refine aze ti (ai @d3 ti) ?_;exact⟨_,le_refl _,rfl,rfl,rfl⟩
 by_cases q4:r.kind=4
 ·have d4:=fun {b:Blk}=>@c4 b q4
  rw[hE]at d4⊢;clear c4;rw[if_neg (by omega),if_neg (by omega)];clear hE c1 c3 p2 k2 q1 q3;obtain⟨kd,⟨lin,ser,ins,ps,os⟩,sp,op,ad,dp,ty,tk,er,⟨a1,a2,a3,a4,⟨k,nn,ss,is,ks⟩,v,tn,fi,ds⟩⟩:=r;obtain⟨Xlin,Xser,Xins,Xps,Xos⟩:=st;obtain⟨Elin,Eser,Eins,Eps,Eos⟩:=E;dsimp only at q4 d4;subst q4;simp only[Sf.Inst.cells,Jr.cells,Zd,Zg,RPB,ZV]at *;refine aze ti (ai @d4 ti) ?_;exact⟨_,le_refl _,rfl,rfl,rfl⟩
 have ee:Rp.stepP st F r=(0,st):=by
  have:Rp.one st F r=(st,true):=by unfold Rp.one;simp[q1,q3,q4]
  unfold Rp.stepP;rw[if_neg q1,this,if_pos rfl]
 rw[ee];clear ee hE c1 c3 c4;by_cases q2:r.kind=2
 ·rw[if_pos q2,if_pos q2];clear q1 q3 q4;obtain⟨M,hM⟩:=Ex (gput r.step r m);rw[hM]at p2⊢;clear hM;unfold jA at p2;have jf:(fun r:Jr=>A.agg r.cells)=jA:=rfl;rw[jf]at p2;obtain⟨kd,⟨lin,ser,ins,ps,os⟩,sp,op,ad,dp,ty,tk,er,⟨a1,a2,a3,a4,⟨k,nn,ss,is,ks⟩,v,tn,fi,ds⟩⟩:=r;obtain⟨Xlin,Xser,Xins,Xps,Xos⟩:=st;dsimp only at q2 p2 k2;subst q2;simp only[Sf.Inst.cells,Jr.cells,Zd,Zg,RPB,MB]at *;refine aze (ai p2 k2) ti ?_;exact⟨_,le_refl _,rfl,rfl,rfl⟩
 rw[if_neg q2,if_neg q2];clear p2 k2;obtain⟨kd,⟨lin,ser,ins,ps,os⟩,sp,op,ad,dp,ty,tk,er,⟨a1,a2,a3,a4,⟨k,nn,ss,is,ks⟩,v,tn,fi,ds⟩⟩:=r;obtain⟨Xlin,Xser,Xins,Xps,Xos⟩:=st;dsimp only at q1 q2 q3 q4;have g1:(kd==1)=false:=by simp[q1]
 have g2:(kd==2)=false:=by simp[q2]
 have g3:(kd==3)=false:=by simp[q3]
 have g4:(kd==4)=false:=by simp[q4]
 simp only[Sf.Inst.cells,Jr.cells,Zd,Zg,RPB]at *;refine aze (ai g1 (ai g2 (ai g3 g4))) ti ?_;exact⟨_,le_refl _,rfl,rfl,rfl⟩
end
end AX
end
end Go.Proofs.YtnghhnahdjjpkaaGreatDoor
