/- Part of what the proof needs. -/
import Derived.Test.YtdgcbckcameggadGreatDoorMFrJournalLogsUpto0
import Derived.Test.YtdgcbckcameggadGreatDoorMFrJournalLogsUptoD
import Derived.Test.YtdgcbckcameggadGreatDoorMFrJournalLogsUptoJ
import Derived.Test.YtdgcbckcameggadGreatDoorMFrJournalLogsUptoK
import Derived.Test.YtdgcbckcameggadGreatDoorMFrJournalLogsUptoL
import Derived.Test.YtdgcbckcameggadGreatDoorMFrJournalLogsUptoM
import Derived.Test.YtdgcbckcameggadGreatDoorMFrJournalLogsUptoN
import Derived.Test.YtdgcbckcameggadGreatDoorMFrJournalLogsUptoO
import Derived.Test.YtdgcbckcameggadGreatDoorMFrJournalLogsUptoP
set_option maxHeartbeats 4000000
set_option linter.unusedSimpArgs false
set_option linter.unusedVariables false
set_option linter.unnecessarySimpa false
namespace Go.Proofs.YtdgcbckcameggadGreatDoor
open Go.RowKit
namespace AX
theorem bqw:∀ v:V,Val.eqB v v=true:=by
 refine V.induct fun k n s is ks ih=>?_
 rw[Val.eqB];have:Val.eqBs is is=true:=by
  have key:∀ l:List V,(∀ x∈l,Val.eqB x x=true)→Val.eqBs l l=true:=by
   intro l;induction l with
   |nil=>intro _;rw[Val.eqBs]
   |cons x l ihl =>
    intro hl;rw[Val.eqBs,hl x (by simp),ihl fun y hy=>hl y (by simp[hy])];rfl
  exact key is ih
 simp[this]
namespace Sf
def smallV(v:V)(nd:Nat):Bool:=decide (0≤Val.left v nd 40)&&decide (IntKind.i64.wrap (Val.keysN v)≤2*(nd:Int))
def smallI(parts:Int)(nd:Nat)(x:Sf.Inst):Bool:=smallV x.attrs nd&&!decide ((x.deps.length:Int)>parts)
def smallP(parts:Int)(nd:Nat)(s:Sf.St):Bool:=
 !(decide ((s.insts.length:Int)>parts)||decide ((s.pends.length:Int)>parts)||decide ((s.outs.length:Int)>parts))&&(s.insts.all (smallI parts nd)&&s.outs.all fun o=>smallV o.value nd)
end Sf
theorem bqa{α:Type}(p:α→Bool)(l:List α)(i:Nat)(h:i<l.length):(l.drop i).all p=(p l[i]&&(l.drop (i+1)).all p):=by
 rw[Zo h,ZE]
theorem bwe(st:Sf.St)(hin:Sf.StIn st)(parts:Int)(nd:Nat)(hp:0≤parts)(hp2:parts≤1000000)(hn:nd≤1000000)(h:Hp):AT 23 [st.A,.int .i64 parts,.int .i64 (nd:Int)] h (.bool (Sf.smallP parts nd st)):=by
 refine pcall ?_ rfl (by simp[A.pure,A.data,Sf.St.A]) h;refine fo ?_;have hli:=hin.li;have hlo:=hin.lo;have hci:=fun x (hx:x∈st.insts)=>bqd x.attrs nd hn (hin.insts x hx).l
 have hdi:=fun x (hx:x∈st.insts)=>(hin.insts x hx).n
 have hco:=fun x (hx:x∈st.outs)=>bqd x.value nd hn (hin.outs x hx).2
 obtain⟨lin,ser,ins,ps,os⟩:=st;simp only[Sf.St.A];dsimp only at hli hlo hci hdi hco;have lm1:(ins.map Sf.Inst.cells).length=ins.length:=Zj _;have lm2:(ps.map Sf.Pend.cells).length=ps.length:=Zj _;have lm3:(os.map Sf.Outp.cells).length=os.length:=Zj _;obtain⟨q,hq⟩:=Ex (Sf.smallP parts nd ⟨lin,ser,ins,ps,os⟩);rw[hq];unfold Sf.smallP at hq;dsimp only at hq;by_cases g1:(ins.length:Int)>parts
 ·have:false=q:=by rw[←hq];simp[g1]
  subst this;refine azb (ai lm1 (ai lm2 (ai lm3 g1))) ?_;exact⟨_,le_refl _,rfl⟩
 by_cases g2:(ps.length:Int)>parts
 ·have:false=q:=by rw[←hq];simp[g2]
  subst this;refine azb (ai lm1 (ai lm2 (ai lm3 (ai g1 g2)))) ?_;exact⟨_,le_refl _,rfl⟩
 by_cases g3:(os.length:Int)>parts
 ·have:false=q:=by rw[←hq];simp[g3]
  subst this;refine azb (ai lm1 (ai lm2 (ai lm3 (ai g1 (ai g2 g3))))) ?_;exact⟨_,le_refl _,rfl⟩
 have hq':(ins.all (Sf.smallI parts nd)&&os.all fun o=>Sf.smallV o.value nd)=q:=by rw[←hq];simp[g1,g2,g3]
 refine azb (ai lm1 (ai lm2 (ai lm3 (ai g1 (ai g2 g3))))) ?_;refine azf (fun m ts hh=>hh=⟨[.cells 35 [.str lin,.int .i64 ser,.sl 13 .no (ins.map Sf.Inst.cells),.sl 3 .no (ps.map Sf.Pend.cells),.sl 7 .no (os.map Sf.Outp.cells)]],[]⟩∧∃(i:Nat),m=ins.length-i∧i≤ins.length∧(ins.drop i).all (Sf.smallI parts nd)=ins.all (Sf.smallI parts nd)∧ts 1=.int .i64 parts∧ts 2=.int .i64 (nd:Int)∧ts 3=.ptr 0 0∧ts 7=.int .i64 (i:Nat)) ins.length ?_ ?_
 ·exact⟨rfl,0,rfl,Zy _,rfl,by(exact ev0 ti),by(exact ev0 ti),by(exact ev0 ti),by(exact azq ti)⟩
 ·rintro m ts hh ⟨rfl,i,rfl,hi,heq,t1,t2,t3,t7⟩;by_cases hlt:i<ins.length
  ·have hlt2:(i:Int)<(ins.length:Int):=by omega
   have hla:(i:Int)<((ins.map Sf.Inst.cells).length:Int):=by rw[lm1];omega
   have hj0:(0:Int)≤(i:Int):=by omega
   have ei:IntKind.i64.wrap ((i:Int)+1)=((i+1:Nat):Int):=by rw[wrap64 (by omega) (by omega)];omega
   have hg:=az0 Sf.Inst.cells ins i hlt;have hc:=hci _ (Zp hlt);rw[bqa _ _ _ hlt]at heq;obtain⟨x,hxx⟩:=Ex (ins[i]);rw[hxx]at hg hc heq;obtain⟨a,d,id,ty,⟨k,n,w,vi,vy⟩,v,tn,fi,ds⟩:=x;simp only[Sf.Inst.cells]at hg;obtain⟨b,hb⟩:=Ex (Sf.smallV (.mk k n w vi vy) nd);have hb':(decide (0≤Val.left (.mk k n w vi vy) nd 40)&&decide (IntKind.i64.wrap (Val.keysN (.mk k n w vi vy))≤2*(nd:Int)))=b:=hb;dsimp only at hc;rw[hb']at hc;have hsx:Sf.smallI parts nd ⟨a,d,id,ty,⟨k,n,w,vi,vy⟩,v,tn,fi,ds⟩=(Sf.smallV (.mk k n w vi vy) nd&&!decide ((ds.length:Int)>parts)):=rfl;rw[hsx,hb]at heq;have ld:(strsA ds).length=ds.length:=aze ds;simp only[V.A,V.cells]at hc;refine azb (ai t1 (ai t2 (ai t3 (ai t7 (ai lm1 (ai hlt2 (ai hla (ai hj0 hg)))))))) ?_;refine use (hc _) ?_;cases b
   ·refine azb (ai t1 (ai t2 (ai t3 t7))) ?_;exact⟨_,le_refl _,by rw[azj,←hq',show ins.all (Sf.smallI parts nd)=false from heq.symm];rfl⟩
   ·by_cases gd:(ds.length:Int)>parts
    ·refine azb (ai t1 (ai t2 (ai t3 (ai t7 (ai lm1 (ai hlt2 (ai hla (ai hj0 (ai hg (ai ld gd)))))))))) ?_;exact⟨_,le_refl _,by rw[azj,←hq',show ins.all (Sf.smallI parts nd)=false from heq.symm.trans (by simp[gd])];rfl⟩
    ·have hn:(true&&!decide ((ds.length:Int)>parts))=true:=by simp[gd]
     rw[hn,Zx]at heq;refine azb (ai t1 (ai t2 (ai t3 (ai t7 (ai lm1 (ai hlt2 (ai hla (ai hj0 (ai hg (ai ld (ai gd ei))))))))))) ?_;exact⟨ins.length-(i+1),by omega,rfl,i+1,rfl,by omega,heq,by(exact ev0 t1),by(exact ev0 t2),by(exact ev0 t3),by(exact ev0 ei)⟩
  ·have hlt2:¬(i:Int)<(ins.length:Int):=by omega
   rw[Zw (by omega),Yo]at heq;rw[←heq,Zx]at hq';refine azb (ai t1 (ai t2 (ai t3 (ai t7 (ai lm1 hlt2))))) ?_;refine azf (fun m ts hh=>hh=⟨[.cells 35 [.str lin,.int .i64 ser,.sl 13 .no (ins.map Sf.Inst.cells),.sl 3 .no (ps.map Sf.Pend.cells),.sl 7 .no (os.map Sf.Outp.cells)]],[]⟩∧∃(i:Nat),m=os.length-i∧i≤os.length∧((os.drop i).all fun o=>Sf.smallV o.value nd)=(os.all fun o=>Sf.smallV o.value nd)∧ts 2=.int .i64 (nd:Int)∧ts 3=.ptr 0 0∧ts 8=.int .i64 (i:Nat)) os.length ?_ ?_
   ·exact⟨rfl,0,rfl,Zy _,rfl,by(exact ev0 t2),by(exact ev0 t3),by(exact azq ti)⟩
   ·rintro m ts hh ⟨rfl,i,rfl,hi,heq,t2,t3,t8⟩;by_cases hlt:i<os.length
    ·have hlt2:(i:Int)<(os.length:Int):=by omega
     have hla:(i:Int)<((os.map Sf.Outp.cells).length:Int):=by rw[lm3];omega
     have hj0:(0:Int)≤(i:Int):=by omega
     have ei:IntKind.i64.wrap ((i:Int)+1)=((i+1:Nat):Int):=by rw[wrap64 (by omega) (by omega)];omega
     have hg:=az0 Sf.Outp.cells os i hlt;have hc:=hco _ (Zp hlt);rw[bqa _ _ _ hlt]at heq;obtain⟨x,hxx⟩:=Ex (os[i]);rw[hxx]at hg hc heq;obtain⟨a,⟨k,n,w,vi,vy⟩,sn⟩:=x;simp only[Sf.Outp.cells]at hg;obtain⟨b,hb⟩:=Ex (Sf.smallV (.mk k n w vi vy) nd);have hb':(decide (0≤Val.left (.mk k n w vi vy) nd 40)&&decide (IntKind.i64.wrap (Val.keysN (.mk k n w vi vy))≤2*(nd:Int)))=b:=hb;dsimp only at hc heq;rw[hb']at hc;rw[hb]at heq;simp only[V.A,V.cells]at hc;refine azb (ai t2 (ai t3 (ai t8 (ai lm3 (ai hlt2 (ai hla (ai hj0 hg))))))) ?_;refine use (hc _) ?_;cases b
     ·refine azb (ai t2 (ai t3 t8)) ?_;exact⟨_,le_refl _,by rw[azj,←hq',←heq];rfl⟩
     ·rw[Zx]at heq;refine azb (ai t2 (ai t3 (ai t8 ei))) ?_;exact⟨os.length-(i+1),by omega,rfl,i+1,rfl,by omega,heq,by(exact ev0 t2),by(exact ev0 t3),by(exact ev0 ei)⟩
    ·have hlt2:¬(i:Int)<(os.length:Int):=by omega
     rw[Zw (by omega),Yo]at heq;refine azb (ai t2 (ai t3 (ai t8 (ai lm3 hlt2)))) ?_;exact⟨_,le_refl _,by rw[azj,←hq',←heq]⟩
end AX
end Go.Proofs.YtdgcbckcameggadGreatDoor

namespace Go.Proofs.YtdgcbckcameggadGreatDoor
open Go.RowKit Go.ChangeShapes Go.WideShapes
namespace AX
section
variable {H:Type} {enc:TypeId×Value→H} {w:World} {base:Nat} {spare:Nat→Bool} {held:Bool} {r:Reach} {b0:Nat} {v:Value} {d:DataW H} {p:List MemPlace}
set_option maxRecDepth 100000 in
theorem bk6{K:List TypeId}{t e:TypeId}(hK:plainAll Tryz.prog K=true)(ht:t∈K)(hu:Tryz.prog.underlying t=some (.slice e))(hval:Value.okWide Tryz.prog w r b0 t v)(h:DataW.Trod enc Tryz.prog w base spare held t v d p) :
  ∃ x:List D,ConfA Tryz.prog x e∧x.length≤maxLen∧D.bulks x≤Rows.uptoBulk d∧Rep (Ctx.of w) (.sl (Tryz.prog.cellsOf e) .no (D.rows x)) v:=by
 obtain⟨a,len,cap,rfl⟩:=okWide_slice hu hval;obtain⟨fuel,hf⟩:=h;obtain⟨x,h1,h2,h3⟩:=bzq hK fuel t ht _ _ hf;obtain⟨l,rfl,h4,h5⟩:=aqf hu h2;refine⟨l,h4,h5,?_,?_⟩
 ·rw[D.bulk]at h3;exact Zn (by omega) h3
 ·have:=dqa h1;rw[D.cells]at this;obtain⟨c,cs',e1,e2,e3⟩:=repL_cons.1 this;rw[repL_nil]at e3;subst e3;injection e1 with e1;rw[e1];exact e2
end
end AX
end Go.Proofs.YtdgcbckcameggadGreatDoor

namespace Go.Proofs.YtdgcbckcameggadGreatDoor
open Go.RowKit Go.ChangeShapes Go.WideShapes
namespace Jr
def toD(r:Jr):D:=.agg [.int .i64 r.kind,r.base.toD,.int .i64 r.step,.int .i64 r.op,.str r.addr,.str r.dep,.str r.typ,.str r.tok,.int .i64 r.err,r.after.toD]
theorem cells_toD(r:Jr):r.toD.cells=r.cells:=by
 obtain⟨kd,st0,st,op,ad,dp,ty,tk,er,af⟩:=r;have h:=Sf.St.cells_toD st0;have h2:=Sf.Inst.cells_toD af;unfold Sf.St.A at h;injection h with h;unfold toD cells;simp only[D.cells,D.cellsL,h,h2,Zl,Zi,Zr]
structure Wf(r:Jr):Prop where
 base:r.base.Wf
 after:r.after.attrs.Wf
end Jr
set_option maxRecDepth 100000 in
theorem cyo{d:D}(h:Conf Tryz.prog d 45):∃ x:Jr,d=x.toD∧x.Wf:=by
 obtain⟨l',rfl,h2⟩:=aqb Tryz.underlying45 h;obtain⟨d0,l1,rfl,c0,h2⟩:=azh h2;obtain⟨d1,l2,rfl,c1,h2⟩:=azh h2;obtain⟨d2,l3,rfl,c2,h2⟩:=azh h2;obtain⟨d3,l4,rfl,c3,h2⟩:=azh h2;obtain⟨d4,l5,rfl,c4,h2⟩:=azh h2;obtain⟨d5,l6,rfl,c5,h2⟩:=azh h2;obtain⟨d6,l7,rfl,c6,h2⟩:=azh h2;obtain⟨d7,l8,rfl,c7,h2⟩:=azh h2;obtain⟨d8,l9,rfl,c8,h2⟩:=azh h2;obtain⟨d9,l10,rfl,c9,h2⟩:=azh h2;obtain rfl:=axl h2;obtain⟨k,rfl,_⟩:=axc (k:=.i64) Tryz.underlying30 c0;obtain⟨st,rfl,hs⟩:=Sf.conf_st c1;obtain⟨n,rfl,_⟩:=axc (k:=.i64) Tryz.underlying3 c2;obtain⟨o,rfl,_⟩:=axc (k:=.i64) Tryz.underlying36 c3;obtain⟨a,rfl,_⟩:=az2 Tryz.underlying9 c4;obtain⟨b,rfl,_⟩:=az2 Tryz.underlying9 c5;obtain⟨c,rfl,_⟩:=az2 Tryz.underlying9 c6;obtain⟨t,rfl,_⟩:=az2 Tryz.underlying9 c7;obtain⟨e,rfl,_⟩:=axc (k:=.i64) Tryz.underlying27 c8;obtain⟨x,rfl,hx⟩:=Sf.conf_inst c9;exact⟨⟨k,st,n,o,a,b,c,t,e,x⟩,rfl,hs,hx⟩
structure Jrs where
 l:List Jr
def Jrs.bulkD(x:Jrs):Nat:=D.bulks (x.l.map Jr.toD)
namespace AX
def kJrs:List TypeId:=[22,45,30,36,27,35,43,123,94,31,32,33,41,37,3,9,4,38,39]
theorem bky:plainAll Tryz.prog kJrs=true:=by kernel_rfl
section
variable {H:Type} {enc:TypeId×Value→H} {w:World} {base:Nat} {spare:Nat→Bool} {held:Bool} {r:Reach} {b0:Nat} {v:Value} {d:DataW H} {p:List MemPlace}
set_option maxRecDepth 100000 in
theorem bq8(hval:Value.okWide Tryz.prog w r b0 22 v)(h:DataW.Trod enc Tryz.prog w base spare held 22 v d p) :
  ∃(x:Jrs) (_:((∀ a∈x.l,a.Wf)∧x.l.length≤maxLen)∧x.bulkD≤Rows.uptoBulk d),Rep (Ctx.of w) (.sl 26 .no (x.l.map Jr.cells)) v:=by
 obtain⟨l,h1,h2,h3,h4⟩:=bk6 bky (by decide) Tryz.underlying22 hval h;obtain⟨xs,rfl,hx⟩:=avg l fun d hd=>cyo (axm h1 d hd)
 rw[Sf.rows_map Jr.toD Jr.cells Jr.cells_toD]at h4;have hw:Tryz.prog.cellsOf 45=26:=by kernel_rfl
 rw[hw]at h4;exact⟨⟨xs⟩,⟨⟨hx,by simpa using h2⟩,h3⟩,h4⟩
end
structure JrFit(r:Jr):Prop where
 few:JrFew r
 strs:r.addr.length≤2000000∧r.dep.length≤2000000∧r.typ.length≤2000000∧r.tok.length≤2000000∧r.after.addr.length≤2000000∧r.after.dep.length≤2000000∧r.after.id.length≤2000000∧r.after.typ.length≤2000000
 deps:r.after.deps.length≤2000000∧∀ s∈r.after.deps,s.length≤2000000
theorem cke{r:Jr}(hw:r.Wf)(hb:r.toD.bulk≤1048576):JrFit r:=by
 unfold Jr.toD at hb;simp only[D.bulk,D.bulks]at hb;have hb1:r.base.toD.bulk≤1048576:=by omega
 have hb2:r.after.toD.bulk≤1048576:=by omega
 have f1:=(Sf.fit_of hw.base (Zn hb1 (by decide))).sin;have f2:=Sf.inst_fit hw.after (Zn hb2 (by decide));have vf:∀ x:Sf.Inst,x.toD.bulk≤1500000→x.attrs.few∧x.deps.length≤1000000000:=fun x hx=>by
  unfold Sf.Inst.toD at hx;simp only[D.bulk,D.bulks]at hx;have:=(ax3 x.deps).1;exact⟨V.few_of _ (by omega),by omega⟩
 have hb3:=hb1;unfold Sf.St.toD at hb3;simp only[D.bulk,D.bulks]at hb3;obtain⟨i1,i2⟩:=aqt Sf.Inst.toD r.base.insts;obtain⟨p1,p2⟩:=aqt Sf.Pend.toD r.base.pends;obtain⟨o1,o2⟩:=aqt Sf.Outp.toD r.base.outs;have hb4:=hb2;unfold Sf.Inst.toD at hb4;simp only[D.bulk,D.bulks]at hb4;obtain⟨d1,d2⟩:=ax3 r.after.deps;refine⟨⟨⟨f1,V.Wf.lens _ hw.after,by omega⟩,V.few_of _ (by omega),⟨by omega,fun x hx=>vf x (by have:=i2 x hx;omega)⟩,by omega,by omega,fun x hx=>?_⟩,⟨by omega,by omega,by omega,by omega,by omega,by omega,by omega,by omega⟩,by omega,fun s hs=>by have:=d2 s hs;omega⟩;have h1:x.toD.bulk≤1048576:=by have:=o2 x hx;omega
 unfold Sf.Outp.toD at h1;simp only[D.bulk,D.bulks]at h1;exact V.few_of _ (by omega)
def lsum:List (List UInt8)→Int→Int
 |[],n=>n
 |s::l,n=>if n≤20000 then lsum l (n+1+s.length)else n
def lightB(r:Jr):Bool:=
 decide (lsum r.after.deps ((r.addr.length:Int)+r.dep.length+r.typ.length+r.tok.length+r.after.addr.length+r.after.dep.length+r.after.id.length+r.after.typ.length)≤20000)&&Sf.smallP 30 200 r.base&&(decide (0≤Val.left r.after.attrs ((200:Nat):Int) 40)&&decide (IntKind.i64.wrap (Val.keysN r.after.attrs)≤2*((200:Nat):Int)))
theorem cvx(r:Jr)(hf:JrFit r)(h:Hp):AT 12 [.agg r.cells] h (.bool (lightB r)):=by
 have c1:=bwe r.base hf.few.inn.base 30 200 (by decide) (by decide) (by decide);have c2:=bqd r.after.attrs 200 (by decide) hf.few.inn.lens;obtain⟨s1,s2,s3,s4,s5,s6,s7,s8⟩:=hf.strs;obtain⟨d1,d2⟩:=hf.deps;clear hf;unfold lightB;obtain⟨B1,hB1⟩:=Ex (Sf.smallP 30 200 r.base);obtain⟨B2,hB2⟩:=Ex ((decide (0≤Val.left r.after.attrs ((200:Nat):Int) 40)&&decide (IntKind.i64.wrap (Val.keysN r.after.attrs)≤2*((200:Nat):Int))));rw[hB1]at c1 ⊢;rw[hB2]at c2 ⊢;clear hB1 hB2;have c2:∀ h,AT 24 [r.after.attrs.A,.int .i64 200] h (.bool B2):=c2;obtain⟨kd,⟨lin,ser,ins,ps,os⟩,st,op,ad,dp,ty,tk,er,⟨a1,a2,a3,a4,⟨k,nn,ss,is,ks⟩,v,tn,fi,ds⟩⟩:=r;dsimp only at s1 s2 s3 s4 s5 s6 s7 s8 d1 d2 ⊢;simp only[Jr.cells,Sf.Inst.cells,Zl,Zi,Sf.St.A,V.A,V.cells]at *;have w1:IntKind.i64.wrap ((ad.length:Int)+dp.length)=(ad.length:Int)+dp.length:=wrap64 (by omega) (by omega);have w2:IntKind.i64.wrap ((ad.length:Int)+dp.length+ty.length)=(ad.length:Int)+dp.length+ty.length:=wrap64 (by omega) (by omega);have w3:IntKind.i64.wrap ((ad.length:Int)+dp.length+ty.length+tk.length)=(ad.length:Int)+dp.length+ty.length+tk.length:=wrap64 (by omega) (by omega);have w4:IntKind.i64.wrap ((ad.length:Int)+dp.length+ty.length+tk.length+a1.length)=(ad.length:Int)+dp.length+ty.length+tk.length+a1.length:=wrap64 (by omega) (by omega);have w5:IntKind.i64.wrap ((ad.length:Int)+dp.length+ty.length+tk.length+a1.length+a2.length)=(ad.length:Int)+dp.length+ty.length+tk.length+a1.length+a2.length:=wrap64 (by omega) (by omega);have w6:IntKind.i64.wrap ((ad.length:Int)+dp.length+ty.length+tk.length+a1.length+a2.length+a3.length)=(ad.length:Int)+dp.length+ty.length+tk.length+a1.length+a2.length+a3.length:=wrap64 (by omega) (by omega);have w7:IntKind.i64.wrap ((ad.length:Int)+dp.length+ty.length+tk.length+a1.length+a2.length+a3.length+a4.length)=(ad.length:Int)+dp.length+ty.length+tk.length+a1.length+a2.length+a3.length+a4.length:=wrap64 (by omega) (by omega);obtain⟨N,hN⟩:=Ex ((ad.length:Int)+dp.length+ty.length+tk.length+a1.length+a2.length+a3.length+a4.length);have hN0:0≤N∧N≤16000000:=by omega
 have w7:IntKind.i64.wrap ((ad.length:Int)+dp.length+ty.length+tk.length+a1.length+a2.length+a3.length+a4.length)=N:=w7.trans hN;rw[hN];have li:=aze ds;refine pcall ?_ rfl (by simp[A.pure,A.data]) h;refine fo ?_;refine azd (ai w1 (ai w2 (ai w3 (ai w4 (ai w5 (ai w6 w7)))))) ti ?_;obtain⟨D,hD⟩:=Ex (lsum ds N);rw[hD];refine azf (fun m ts hh=>∃(j:Nat) (n:Int),m=ds.length-j∧j≤ds.length∧hh=⟨[.cells 45 [.int .i64 kd,.str lin,.int .i64 ser,.sl 13 .no (ins.map Sf.Inst.cells),.sl 3 .no (ps.map Sf.Pend.cells),.sl 7 .no (os.map Sf.Outp.cells),.int .i64 st,.int .i64 op,.str ad,.str dp,.str ty,.str tk,.int .i64 er,.str a1,.str a2,.str a3,.str a4,.int .i64 k,.int .i64 nn,.str ss,.sl 5 .no (V.cellss is),.sl 1 .no (strsA ks),.int .i64 v,.bool tn,.bool fi,.sl 1 .no (strsA ds)]],[]⟩∧lsum (ds.drop j) n=D∧0≤n∧n≤16000000∧(ts 1=.ptr 0 0∧ts 3=.int .i64 n∧ts 4=.int .i64 (j:Nat))) ds.length ?_ ?_
 ·exact⟨0,N,rfl,Zy _,rfl,hD,hN0.1,hN0.2,by(exact azq (ai w1 (ai w2 (ai w3 (ai w4 (ai w5 (ai w6 w7)))))))⟩
 rintro m ts hh ⟨j,n,rfl,hj,rfl,hs,hn0,hn1,ht⟩;rcases Z4 j ds.length with hlt|hge;rotate_left
 ·have hf:¬(j:Int)<(ds.length:Int):=by omega
  rw[Zw hge]at hs;have hs:n=D:=hs;subst hs;refine azd (ai ht (ai li hf)) (ai c1 (ai c2 ti)) ?_;exact⟨_,le_refl _,rfl⟩
 have hf':=axg (fun s:List UInt8=>[A.str s]) ds j hlt (by omega);have hf:(strsA ds).length=ds.length∧(j:Int)<(ds.length:Int)∧(0:Int)≤(j:Int)∧(strsA ds).getD j []=[.str ds[j]]∧IntKind.i64.wrap ((j:Int)+1)=((j+1:Nat):Int):=hf';clear hf';rw[Zo hlt]at hs;unfold lsum at hs;have hds:=d2 _ (Zp hlt);obtain⟨s,hs'⟩:=Ex (ds[j]);rw[hs']at hf hs hds;by_cases hle:n≤20000
 ·rw[if_pos hle]at hs;have u1:IntKind.i64.wrap (n+1)=n+1:=wrap64 (by omega) (by omega);have u2:IntKind.i64.wrap (n+1+s.length)=n+1+s.length:=wrap64 (by omega) (by omega);refine azd (ai ht (ai hf (ai hle (ai u1 u2)))) ti ?_;exact⟨_,by omega,j+1,n+1+s.length,rfl,by omega,rfl,hs,by omega,by omega,by(exact azq (ai ht hf))⟩
 ·rw[if_neg hle]at hs;subst hs;refine azd (ai ht (ai hf hle)) ti ?_;exact⟨_,le_refl _,by simp[hle,tupA]⟩
end AX
end Go.Proofs.YtdgcbckcameggadGreatDoor

namespace Go.Proofs.YtdgcbckcameggadGreatDoor
open Go.RowKit Go.ChangeShapes Go.WideShapes
def Sf.St.bulkD(s:Sf.St):Nat:=s.toD.bulk
namespace AX
section
variable {H:Type} {enc:TypeId×Value→H} {w:World} {base:Nat} {spare:Nat→Bool} {held:Bool} {r:Reach} {b0:Nat} {v:Value} {d:DataW H} {p:List MemPlace}
end
end AX
end Go.Proofs.YtdgcbckcameggadGreatDoor

namespace Go.Proofs.YtdgcbckcameggadGreatDoor
open Go.RowKit
namespace AX
inductive T where
 |z
 |n (l:T) (v:A) (r:T)
def T.get:T→Nat→A
 |.z,_ => .tup []
 |.n l v r,i=>bif i.beq 0 then v else bif (i%2).beq 1 then l.get (i/2)else r.get (i/2-1)
def T.set:T→Nat→A→Option T
 |.z,_,_=>none
 |.n l v r,i,x=>bif i.beq 0 then some (.n l x r)else bif (i%2).beq 1 then(match l.set (i/2) x with|some l'=>some (.n l' v r)|none=>none)else(match r.set (i/2-1) x with|some r'=>some (.n l v r')|none=>none)
def T.full:Nat→T
 |0 => .z
 |d+1 => .n (T.full d) (.tup []) (T.full d)
theorem T.get_full:∀(d i:Nat),(T.full d).get i=.tup []
 |0,i=>rfl
 |d+1,i=>by
  simp only[T.full,T.get,T.get_full d];cases i.beq 0<;>cases(i%2).beq 1<;>rfl
theorem ay3{i j:Nat}:i.beq j=true↔i=j:=⟨Nat.eq_of_beq_eq_true,fun h=>by subst h;exact Nat.beq_refl i⟩
theorem cy5{i j:Nat}:i.beq j=false↔i≠j:=by rw[←Zar,ay3]
theorem T.get_set:∀ {t t':T} {i:Nat} {x:A},t.set i x=some t'→∀ j,t'.get j=if j=i then x else t.get j
 |.z,t',i,x,h,j=>by cases h
 |.n l v r,t',i,x,h,j=>by
  unfold T.set at h;cases h0:i.beq 0 with
  |true =>
   rw[h0]at h;injection h with h;subst h
   have:=ay3.1 h0;subst this;simp only[T.get];cases hj:j.beq 0 with
   |true=>rw[if_pos (ay3.1 hj)];rfl
   |false=>rw[if_neg (cy5.1 hj)];rfl
  |false =>
   have n0:=cy5.1 h0;rw[h0]at h;cases h1:(i%2).beq 1 with
   |true =>
    have m1:=ay3.1 h1;rw[h1]at h;simp only[cond_false,cond_true]at h;split at h
    ·next l' hl =>
     injection h with h;subst h;have ih:=T.get_set hl;simp only[T.get];cases hj:j.beq 0 with
     |true=>rw[if_neg (by have:=ay3.1 hj;omega)];rfl
     |false =>
      have nj:=cy5.1 hj;cases hm:(j%2).beq 1 with
      |true =>
       have:=ay3.1 hm;simp only[cond_false,cond_true,ih];by_cases e:j=i
       ·subst e;simp
       ·rw[if_neg (by omega),if_neg e]
      |false =>
       have:=cy5.1 hm;rw[if_neg (by intro e;subst e;omega)];rfl
    ·cases h
   |false =>
    have m1:=cy5.1 h1;rw[h1]at h;simp only[cond_false,cond_true]at h;split at h
    ·next r' hr =>
     injection h with h;subst h;have ih:=T.get_set hr;simp only[T.get];cases hj:j.beq 0 with
     |true=>rw[if_neg (by have:=ay3.1 hj;omega)];rfl
     |false =>
      have nj:=cy5.1 hj;cases hm:(j%2).beq 1 with
      |true =>
       have:=ay3.1 hm;rw[if_neg (by intro e;subst e;omega)];rfl
      |false =>
       have:=cy5.1 hm;simp only[cond_false,ih];by_cases e:j=i
       ·subst e;simp
       ·rw[if_neg (by omega),if_neg e]
    ·cases h
def T.put(t:T)(d:Option Nat)(v:A):Option T:=
 match d with
 |some d=>t.set d v
 |none=>some t
theorem T.put_ok{t t':T}{d:Option Nat}{v:A}(h:t.put d v=some t'):t'.get=AX.put t.get d v:=by
 cases d with
 |none=>injection h with h;subst h;rfl
 |some d=>exact funext fun j=>T.get_set h j
def T.initF:List A→Nat→T→Option T
 |[],_,t=>some t
 |a::l,i,t=>match t.set i a with
  |some t'=>T.initF l (i+1) t'
  |none=>none
theorem T.initF_ok:∀ {l:List A} {i:Nat} {t t':T},T.initF l i t=some t'→∀ j,t'.get j=if j<i then t.get j else if j<i+l.length then l.getD (j-i) (.tup [])else t.get j
 |[],i,t,t',h,j=>by
  injection h with h;subst h;split
  ·rfl
  ·rw[if_neg (by simpa using by omega)]
 |a::l,i,t,t',h,j=>by
  unfold T.initF at h;split at h
  ·next t1 h1 =>
   rw[T.initF_ok h j,T.get_set h1];by_cases e:j=i
   ·subst e;simp
   ·by_cases e2:j<i
    ·rw[if_pos (by omega),if_neg e,if_pos e2]
    ·rw[if_neg (by omega),if_neg e2,if_neg e];have:j-i=(j-(i+1))+1:=by omega
     rw[this,ZK];simp only[Zh];by_cases e3:j<i+1+l.length
     ·rw[if_pos e3,if_pos (by omega)]
     ·rw[if_neg e3,if_neg (by omega)]
  ·cases h
def T.init(args:List A):Option T:=T.initF args 0 (T.full 10)
theorem T.init_ok{args:List A}{t:T}(h:T.init args=some t):t.get=initTs args:=by
 funext j
 rw[T.initF_ok h j,if_neg (by omega),T.get_full];show _=args.getD j _
 split
 ·simp
 ·rw[ZY,YJ (by omega)];rfl
def fN:Nat→Option Nat
 |0=>some 0
 |m+1=>some (m+1)
theorem ajm{n m:Nat}(h:fN n=some m):m=n:=by cases n<;>(injection h with h;exact h.symm)
def fI:Int→Option Int
 |.ofNat n=>match fN n with|some n=>some (.ofNat n)|none=>none
 |.negSucc n=>match fN n with|some n=>some (.negSucc n)|none=>none
theorem dqm{n m:Int}(h:fI n=some m):m=n:=by
 cases n<;>(simp only[fI]at h;split at h)<;>first|(next e=>injection h with h;rw[←h,ajm e])|cases h
def mapO{α β:Type}(f:α→Option β):List α→Option (List β)
 |[]=>some []
 |x::l=>match f x with
  |some y=>(match mapO f l with|some m=>some (y::m)|none=>none)
  |none=>none
theorem bzb{α β:Type}{f:α→Option β}{g:α→β}(hf:∀ x y,f x=some y→y=g x):∀ {l:List α} {m:List β},mapO f l=some m→m=l.map g
 |[],m,h=>by injection h with h;exact h.symm
 |x::l,m,h=>by
  unfold mapO at h;split at h
  ·next y e =>
   split at h
   ·next m' e' =>
    injection h with h;rw[←h,hf x y e,bzb hf e',ZH]
   ·cases h
  ·cases h
theorem az1{α:Type}{f:α→Option α}(hf:∀ x y,f x=some y→y=x){l m:List α}(h:mapO f l=some m):m=l:=by rw[bzb (g:=id) hf h,List.map_id]
def fU(u:UInt8):Option UInt8:=match fN u.toNat with|some n=>some (UInt8.ofNat n)|none=>none
theorem cy9(u v:UInt8)(h:fU u=some v):v=u:=by
 unfold fU at h;split at h
 ·next e=>injection h with h;rw[←h,ajm e];simp
 ·cases h
def fH:A→Option A
 |.int k n=>some (.int k n)
 |.str l=>some (.str l)
 |.bool b=>(match b with|true=>some (.bool true)|false=>some (.bool false))
 |.sl W o rows=>some (.sl W o rows)
 |.ptr i off=>some (.ptr i off)
 |.vptr c=>some (.vptr c)
 |.nilp=>some .nilp
 |.nili=>some .nili
 |.nilf=>some .nilf
 |.nilm=>some .nilm
 |.mp i=>some (.mp i)
 |.bs i W n=>some (.bs i W n)
 |.fn f c=>some (.fn f c)
 |.agg l=>some (.agg l)
 |.tup l=>some (.tup l)
theorem ax1(x y:A)(h:fH x=some y):y=x:=by
 cases x<;>first|(injection h with h;exact h.symm)|(simp only[fH]at h;split at h<;>(injection h with h;rw[←h]))
def fO:Own→Option Own
 |.no=>some .no
 |.nil=>some .nil
 |.tok t=>match fN t with|some t=>some (.tok t)|none=>none
theorem dqc{x y:Own}(h:fO x=some y):y=x:=by
 cases x with
 |tok t=>(simp only[fO]at h;split at h)<;>first|(next e=>injection h with h;rw[←h,ajm e])|cases h
 |_=>injection h with h;exact h.symm
def fA:A→Option A
 |.int k n=>(match fI n with|some n=>some (.int k n)|none=>none)
 |.str l=>(match mapO fU l with|some l=>some (.str l)|none=>none)
 |.bool b=>(match b with|true=>some (.bool true)|false=>some (.bool false))
 |.sl W o rows=>(match fN W,fO o,mapO (mapO fH) rows with|some W,some o,some rows=>some (.sl W o rows)|_,_,_=>none)
 |.ptr i off=>(match fN i,fN off with|some i,some off=>some (.ptr i off)|_,_=>none)
 |.vptr c=>(match mapO fH c with|some c=>some (.vptr c)|none=>none)
 |.mp i=>(match fN i with|some i=>some (.mp i)|none=>none)
 |.bs i W n=>(match fN i,fN W,fN n with|some i,some W,some n=>some (.bs i W n)|_,_,_=>none)
 |.fn f c=>(match mapO fH c with|some c=>some (.fn f c)|none=>none)
 |.agg l=>(match mapO fH l with|some c=>some (.agg c)|none=>none)
 |.tup l=>(match mapO fH l with|some c=>some (.tup c)|none=>none)
 |x=>fH x
theorem cj6(x y:A)(h:fA x=some y):y=x:=by
 cases x with
 |int k n=>(simp only[fA]at h;split at h)<;>first|(next e=>injection h with h;rw[←h,dqm e])|cases h
 |str l=>(simp only[fA]at h;split at h)<;>first|(next e=>injection h with h;rw[←h,az1 cy9 e])|cases h
 |bool b=>simp only[fA]at h;split at h<;>(injection h with h;rw[←h])
 |sl W o rows=>(simp only[fA]at h;split at h)<;>first|(next e1 e2 e3=>injection h with h;rw[←h,ajm e1,dqc e2,az1 (fun _ _ e=>az1 ax1 e) e3])|cases h
 |ptr i off=>(simp only[fA]at h;split at h)<;>first|(next e1 e2=>injection h with h;rw[←h,ajm e1,ajm e2])|cases h
 |vptr c=>(simp only[fA]at h;split at h)<;>first|(next e=>injection h with h;rw[←h,az1 ax1 e])|cases h
 |mp i=>(simp only[fA]at h;split at h)<;>first|(next e=>injection h with h;rw[←h,ajm e])|cases h
 |bs i W n=>(simp only[fA]at h;split at h)<;>first|(next e1 e2 e3=>injection h with h;rw[←h,ajm e1,ajm e2,ajm e3])|cases h
 |fn f c=>(simp only[fA]at h;split at h)<;>first|(next e=>injection h with h;rw[←h,az1 ax1 e])|cases h
 |agg l=>(simp only[fA]at h;split at h)<;>first|(next e=>injection h with h;rw[←h,az1 ax1 e])|cases h
 |tup l=>(simp only[fA]at h;split at h)<;>first|(next e=>injection h with h;rw[←h,az1 ax1 e])|cases h
 |_=>exact ax1 _ _ h
def fR:A→Option A
 |.tup l=>(match mapO fA l with|some c=>some (.tup c)|none=>none)
 |x=>fA x
theorem cvf(x y:A)(h:fR x=some y):y=x:=by
 cases x with
 |tup l=>(simp only[fR]at h;split at h)<;>first|(next e=>injection h with h;rw[←h,az1 cj6 e])|cases h
 |_=>exact cj6 _ _ h
def snoc{α:Type}:List α→α→Option (List α)
 |[],x=>some [x]
 |y::l,x=>match snoc l x with
  |some m=>some (y::m)
  |none=>none
theorem bj5{α:Type}{x:α}:∀ {l m:List α},snoc l x=some m→m=l++[x]
 |[],m,h=>by injection h with h;exact h.symm
 |y::l,m,h=>by
  unfold snoc at h;split at h
  ·next e=>injection h with h;rw[←h,bj5 e];rfl
  ·cases h
def setO{α:Type}:List α→Nat→α→Option (List α)
 |[],_,_=>none
 |y::l,0,x=>some (x::l)
 |y::l,i+1,x=>match setO l i x with
  |some m=>some (y::m)
  |none=>none
theorem czw{α:Type}{x:α}:∀ {l m:List α} {i:Nat},setO l i x=some m→m=l.set i x
 |[],m,i,h=>by cases i<;>cases h
 |y::l,m,0,h=>by injection h with h;exact h.symm
 |y::l,m,i+1,h=>by
  unfold setO at h;split at h
  ·next e=>injection h with h;rw[←h,czw e];rfl
  ·cases h
def bwb{α:Type}(p:α→α→Bool):List α→List α→Bool
 |[],[]=>true
 |x::l,y::m=>p x y&&bwb p l m
 |_,_=>false
theorem axs{α:Type}{p:α→α→Bool}(hp:∀ x y,p x y=true→x=y):∀ {l m:List α},bwb p l m=true→l=m
 |[],[],_=>rfl
 |x::l,y::m,h=>by
  simp only[bwb,Zc]at h;rw[hp x y h.1,axs hp h.2]
 |[],y::m,h=>by cases h
 |x::l,[],h=>by cases h
def eqo:Own→Own→Bool
 |.no,.no=>true
 |.nil,.nil=>true
 |.tok a,.tok b=>a.beq b
 |_,_=>false
theorem dz2{a b:Own}(h:eqo a b=true):a=b:=by
 cases a<;>cases b<;>first|rfl|cases h|(simp only[eqo,ay3]at h;rw[h])
def eqb:Nat→A→A→Bool
 |0,_,_=>false
 |d+1,.int k n,.int k' n'=>decide (k=k')&&decide (n=n')
 |d+1,.str a,.str b=>decide (a=b)
 |d+1,.bool a,.bool b=>decide (a=b)
 |d+1,.sl W o r,.sl W' o' r'=>W.beq W'&&eqo o o'&&bwb (bwb (eqb d)) r r'
 |d+1,.ptr i o,.ptr i' o'=>i.beq i'&&o.beq o'
 |d+1,.vptr c,.vptr c'=>bwb (eqb d) c c'
 |d+1,.nilp,.nilp=>true
 |d+1,.nili,.nili=>true
 |d+1,.nilf,.nilf=>true
 |d+1,.nilm,.nilm=>true
 |d+1,.mp i,.mp j=>i.beq j
 |d+1,.bs i W n,.bs i' W' n'=>i.beq i'&&W.beq W'&&n.beq n'
 |d+1,.agg l,.agg m=>bwb (eqb d) l m
 |d+1,.tup l,.tup m=>bwb (eqb d) l m
 |_,_,_=>false
theorem bv4:∀(d:Nat) (x y:A),eqb d x y=true→x=y
 |0,x,y,h=>by cases h
 |d+1,x,y,h=>by
  have ih:=bv4 d;cases x<;>cases y<;>simp only[eqb,Zk,Zc,Zq,ay3]at h<;>first|(obtain⟨rfl,rfl⟩:=h;rfl)|(subst h;rfl)|(obtain⟨⟨rfl,rfl⟩,rfl⟩:=h;rfl)|(rw[axs ih h])|(obtain⟨⟨rfl,h1⟩,h2⟩:=h;rw[dz2 h1,axs (fun _ _ e=>axs ih e) h2])|exact rfl
inductive EB where
 |cells (T:TypeId) (l:List A)
 |map (es:List (Int×A)) (clock:Nat)
 |row (T:TypeId) (l:List A)
 |obj (k:Nat) (d:A)
structure EH where
 b:List EB
 t:List (TypeId×Nat×Nat)
abbrev Tab:=Nat→A→Blk
def EB.blk(tab:Tab):EB→Blk
 |.cells T l => .cells T l
 |.map es c => .map es c
 |.row T l => .row T l
 |.obj k d=>tab k d
def EH.abs(tab:Tab)(h:EH):Hp:=⟨h.b.map (EB.blk tab),h.t⟩
theorem ak1{tab:Tab}{h:EH}{i:Nat}{x:EB}(e:h.b[i]?=some x):(h.abs tab).b[i]?=some (x.blk tab):=by
 simp[EH.abs,e]
theorem cys{tab:Tab}(h:EH):(h.abs tab).b.length=h.b.length:=by simp[EH.abs]
theorem czv{tab:Tab}{h:EH}{i:Nat}{x:EB}{b':List EB}(e:setO h.b i x=some b'):(EH.abs tab ⟨b',h.t⟩)=⟨(h.abs tab).b.set i (x.blk tab),(h.abs tab).t⟩:=by
 rw[czw e];simp[EH.abs,List.map_set]
theorem cjx{tab:Tab}{h:EH}{x:EB}{b':List EB}(e:snoc h.b x=some b'):(EH.abs tab ⟨b',h.t⟩)=⟨(h.abs tab).b++[x.blk tab],(h.abs tab).t⟩:=by
 rw[bj5 e];simp[EH.abs]
def nbE(h:EH)(x:EB)(mk:Nat→A):Option (A×Option EH):=
 match fN h.b.length,snoc h.b x with
 |some n,some b=>some (mk n,some ⟨b,h.t⟩)
 |_,_=>none
theorem bvp{tab:Tab}{h:EH}{x:EB}{mk:Nat→A}{v:A}{oh:Option EH}(e:nbE h x mk=some (v,oh)):v=mk (h.abs tab).b.length∧(oh.getD h).abs tab=⟨(h.abs tab).b++[x.blk tab],(h.abs tab).t⟩:=by
 unfold nbE at e;split at e
 ·next n b e1 e2 =>
  injection e with e;injection e with e3 e4;subst e3;subst e4;exact⟨by rw[ajm e1,cys],cjx e2⟩
 ·cases e
def putE(h:EH)(i:Nat)(x:EB):Option (A×Option EH):=
 match setO h.b i x with
 |some b=>some (.tup [],some ⟨b,h.t⟩)
 |none=>none
theorem bj0{tab:Tab}{h:EH}{x:EB}{i:Nat}{v:A}{oh:Option EH}(e:putE h i x=some (v,oh)):v=.tup []∧(oh.getD h).abs tab=⟨(h.abs tab).b.set i (x.blk tab),(h.abs tab).t⟩:=by
 unfold putE at e;split at e
 ·next b e1 =>
  injection e with e;injection e with e3 e4;subst e3;subst e4;exact⟨rfl,czv e1⟩
 ·cases e
def storeE(h:EH)(n:Nat)(x:A):A→Option (A×Option EH)
 | .ptr i o=>(match h.b[i]? with
  | some (.cells T l)=>if x.cells.length=n∧o+n≤l.length∧x.cells.all A.one=true then (match mapO fH (setCells l o x.cells) with | some l'=>putE h i (.cells T l') | none=>none) else none
  | some (.row T l)=>if x.cells.length=n∧o+n≤l.length∧x.cells.all A.one=true then (match mapO fH (setCells l o x.cells) with | some l'=>putE h i (.row T l') | none=>none) else none
  | _=>none)
 |_=>none
theorem cza{tab:Tab}{h:EH}{n:Nat}{x p v:A}{oh:Option EH}(e:storeE h n x p=some (v,oh)):v=.tup []∧storeA (h.abs tab) n x p=some ((oh.getD h).abs tab):=by
 unfold storeE at e;split at e
 ·next i o =>
  split at e
  ·next T l hb =>
   split at e
   ·next hc =>
    split at e
    ·next l' e1 =>
     obtain⟨h1,h2⟩:=bj0 (tab:=tab) e;refine⟨h1,?_⟩;unfold storeA;simp only[ak1 hb,EB.blk];rw[if_pos hc,h2,az1 ax1 e1];rfl
    ·cases e
   ·cases e
  ·next T l hb =>
   split at e
   ·next hc =>
    split at e
    ·next l' e1 =>
     obtain⟨h1,h2⟩:=bj0 (tab:=tab) e;refine⟨h1,?_⟩;unfold storeA;simp only[ak1 hb,EB.blk];rw[if_pos hc,h2,az1 ax1 e1];rfl
    ·cases e
   ·cases e
  ·cases e
 ·cases e
def fP(e:Int×A):Option (Int×A):=match e with|(n,x)=>some (n,x)
theorem dqn(x y:Int×A)(h:fP x=some y):y=x:=by injection h with h;exact h.symm
def mapE(h:EH)(g:List (Int×A)→Nat→List (Int×A)×Nat):A→Option (A×Option EH)
 | .mp i=>(match h.b[i]? with
  | some (.map es c)=>(match mapO fP (g es c).1,fN (g es c).2 with | some es',some c'=>putE h i (.map es' c') | _,_=>none)
  | _=>none)
 |_=>none
theorem bjw{tab:Tab}{h:EH}{g:List (Int×A)→Nat→List (Int×A)×Nat}{m v:A}{oh:Option EH}(e:mapE h g m=some (v,oh)):v=.tup []∧∃ i es c,m=.mp i∧(h.abs tab).b[i]?=some (.map es c)∧(oh.getD h).abs tab=⟨(h.abs tab).b.set i (.map (g es c).1 (g es c).2),(h.abs tab).t⟩:=by
 unfold mapE at e;split at e
 ·next i =>
  split at e
  ·next es c hb =>
   split at e
   ·next es' c' e1 e2 =>
    obtain⟨h1,h2⟩:=bj0 (tab:=tab) e;refine⟨h1,i,es,c,rfl,ak1 hb,?_⟩;rw[h2,az1 dqn e1,ajm e2];rfl
   ·cases e
  ·cases e
 ·cases e
def fT(x:TypeId×Nat×Nat):Option (TypeId×Nat×Nat):=
 match x with
 |(a,b,c)=>(match fN c with|some c=>some (a,b,c)|none=>none)
theorem dqd(x y:TypeId×Nat×Nat)(h:fT x=some y):y=x:=by
 obtain⟨a,b,c⟩:=x;unfold fT at h;simp only at h;split at h
 ·next e=>injection h with h;rw[←h,ajm e]
 ·cases h
def keyE(f:Int→A→Option (A×Option EH))(m:A):A→Option (A×Option EH)
 |.int .i64 n=>f n m
 |_=>none
def opE(tab:Tab)(ev:Opd→A)(h:EH):AOp→Option (A×Option EH)
 |.mv x=>(match fH (ev x)with|some v=>some (v,none)|none=>none)
 |.alloc T z=>(match mapO fH z with|some z=>nbE h (.cells T z) (.ptr · 0)|none=>none)
 |.box T x=>(match mapO fH (ev x).cells with|some z=>nbE h (.cells T z) (.ptr · 0)|none=>none)
 | .mkr E W ps=>(match rowsR ev W ps with
  | some r=>(match mapO fH r.flatten,fN r.length with | some z,some n=>nbE h (.row E z) (.bs · W n) | _,_=>none)
  | none=>none)
 | .mkl E W ps=>(match rowsA ev W ps with
  | some r=>(match mapO (mapO fH) r,fN h.t.length,fN r.length with
   | some r',some k,some n=>(match snoc h.t (E,W,n) with | some t=>some (.sl W (.tok k) r',some ⟨h.b,t⟩) | none=>none)
   | _,_,_=>none)
  | none=>none)
 |.store n p x=>storeE h n (ev x) (ev p)
 | .app E W by_ x y=>(match appA ⟨[],h.t⟩ E W by_ (ev x) (ev y) with
  | some (v,h')=>(match fA v,mapO fT h'.t with | some v,some t=>some (v,some ⟨h.b,t⟩) | _,_=>none)
  | none=>none)
 |.mkmap=>nbE h (.map [] 0) .mp
 |.mset m k x=>keyE (fun n m=>mapE h (fun es c=>(mput n (ev x) es,mclock n es c)) m) (ev m) (ev k)
 |.mdel m k=>keyE (fun n m=>mapE h (fun es c=>(merase n es,c)) m) (ev m) (ev k)
 |.mclr m=>mapE h (fun es c=>([],c)) (ev m)
 |.load false n p=>(match loadA (h.abs tab) false n (ev p)with|some v=>(match fH v with|some v=>some (v,none)|none=>none)|none=>none)
 |.pick c a b=>(match ev c with|.bool t=>(match fH (bif t then ev a else ev b)with|some v=>some (v,none)|none=>none)|_=>none)
 |.extract x i=>(match ev x with|.tup l=>(match l[i]? with|some v=>(match fH v with|some v=>some (v,none)|none=>none)|none=>none)|_=>none)
 |.call ..=>none
 |.callv ..=>none
 |op=>match astep ev (h.abs tab) op with
  |some (v,_)=>(match fA v with|some v=>some (v,none)|none=>none)
  |none=>none
theorem cxa{bs:List Blk}{t:List (TypeId×Nat×Nat)}{E:TypeId}{W b:Nat}{x y v:A}{h':Hp}(h:appA ⟨[],t⟩ E W b x y=some (v,h')):appA ⟨bs,t⟩ E W b x y=some (v,⟨bs,h'.t⟩):=by
 unfold appA at h ⊢;split at h
 ·split at h
  ·next hc=>injection h with h;injection h with h1 h2;subst h1;subst h2;simp only[if_pos hc]
  ·next hc =>
   split at h
   ·next hc2=>injection h with h;injection h with h1 h2;subst h1;subst h2;simp only[if_neg hc,if_pos hc2]
   ·cases h
 ·split at h
  ·next hc=>injection h with h;injection h with h1 h2;subst h1;subst h2;simp only[if_pos hc]
  ·next hc =>
   split at h
   ·next hc2=>injection h with h;injection h with h1 h2;subst h1;subst h2;simp only[if_neg hc,if_pos hc2]
   ·cases h
 ·cases h
theorem cy4{tab:Tab}{ev:Opd→A}{h:EH}{op:AOp}{v:A}{oh:Option EH}(e:opE tab ev h op=some (v,oh)):op.isCall=false∧astep ev (h.abs tab) op=some (v,(oh.getD h).abs tab):=by
 have fin:∀ {w:A} {f:A→Option A},(∀ x y,f x=some y→y=x)→(match f w with|some v=>some (v,(none:Option EH))|none=>none)=some (v,oh)→v=w∧oh=none:=by
  intro w f hf h1;split at h1
  ·next e1=>injection h1 with h1;injection h1 with h2 h3;exact⟨h2▸hf _ _ e1,h3.symm⟩
  ·cases h1
 have gen:astep ev (h.abs tab) op≠none→(∀ v' h'',astep ev (h.abs tab) op=some (v',h'')→h''=h.abs tab)→(match astep ev (h.abs tab) op with|some (v,_)=>(match fA v with|some v=>some (v,(none:Option EH))|none=>none)|none=>none)=some (v,oh)→astep ev (h.abs tab) op=some (v,(oh.getD h).abs tab):=by
  intro _ hq h1;split at h1
  ·next v' h' e1 =>
   obtain⟨rfl,rfl⟩:=fin cj6 h1;rw[e1,hq _ _ e1];rfl
  ·cases h1
 have quiet:(match astep ev (h.abs tab) op with|some (v,_)=>(match fA v with|some v=>some (v,(none:Option EH))|none=>none)|none=>none)=some (v,oh)→(∀ v' h'',astep ev (h.abs tab) op=some (v',h'')→h''=h.abs tab)→astep ev (h.abs tab) op=some (v,(oh.getD h).abs tab):=by
  intro h1 hq;exact gen (fun hn=>by rw[hn]at h1;cases h1) hq h1
 cases op with
 |call=>cases e
 |callv=>cases e
 |mv x =>
  obtain⟨rfl,rfl⟩:=fin ax1 e;exact⟨rfl,rfl⟩
 |alloc T z =>
  simp only[opE]at e;split at e
  ·next z' e1 =>
   obtain⟨h1,h2⟩:=bvp (tab:=tab) e;exact⟨rfl,by rw[h1,h2,az1 ax1 e1];rfl⟩
  ·cases e
 |box T x =>
  simp only[opE]at e;split at e
  ·next z' e1 =>
   obtain⟨h1,h2⟩:=bvp (tab:=tab) e;exact⟨rfl,by rw[h1,h2,az1 ax1 e1];rfl⟩
  ·cases e
 |mkmap =>
  obtain⟨h1,h2⟩:=bvp (tab:=tab) e;exact⟨rfl,by rw[h1,h2];rfl⟩
 |mkr E W ps =>
  simp only[opE]at e;split at e
  ·next r hr =>
   split at e
   ·next z n e1 e2 =>
    obtain⟨h1,h2⟩:=bvp (tab:=tab) e;exact⟨rfl,by rw[h1,h2,az1 ax1 e1,ajm e2];simp only[astep,hr];rfl⟩
   ·cases e
  ·cases e
 |mkl E W ps =>
  simp only[opE]at e;split at e
  ·next r hr =>
   split at e
   ·next r' k n e1 e2 e3 =>
    split at e
    ·next t e4 =>
     injection e with e;injection e with h1 h2;subst h1;subst h2
     exact⟨rfl,by
      simp only[astep,hr,ZO,Z3];rw[az1 (fun _ _ e=>az1 ax1 e) e1,ajm e2];congr 2;simp only[EH.abs,Hp.mk.injEq,true_and]
      rw[bj5 e4,ajm e3]⟩
    ·cases e
   ·cases e
  ·cases e
 |store n p x =>
  obtain⟨h1,h2⟩:=cza (tab:=tab) e;exact⟨rfl,by simp only[astep,h2,h1];rfl⟩
 |app E W b x y =>
  simp only[opE]at e;split at e
  ·next v' h' e1 =>
   split at e
   ·next v2 t e2 e3 =>
    injection e with e;injection e with h1 h2;subst h1;subst h2;refine⟨rfl,?_⟩;simp only[astep];have:=cxa (bs:=(h.abs tab).b) e1;rw[show h.abs tab=⟨(h.abs tab).b,h.t⟩from rfl,this,cj6 _ _ e2,az1 dqd e3];rfl
   ·cases e
  ·cases e
 |mset m k x =>
  simp only[opE]at e;unfold keyE at e;split at e
  ·next n hk =>
   obtain⟨h1,i,es,c,h2,h3,h4⟩:=bjw (tab:=tab) e;refine⟨rfl,?_⟩;simp only[astep,h2,hk,msetA,h3,h1,h4];rfl
  ·cases e
 |mdel m k =>
  simp only[opE]at e;unfold keyE at e;split at e
  ·next n hk =>
   obtain⟨h1,i,es,c,h2,h3,h4⟩:=bjw (tab:=tab) e;refine⟨rfl,?_⟩;simp only[astep,h2,hk,mdelA,h3,h1,h4];rfl
  ·cases e
 |mclr m =>
  simp only[opE]at e;obtain⟨h1,i,es,c,h2,h3,h4⟩:=bjw (tab:=tab) e;refine⟨rfl,?_⟩;simp only[astep,h2,mclrA,h3,h1,h4];rfl
 |load g n p =>
  refine⟨rfl,?_⟩;cases g with
  |false =>
   simp only[opE]at e;split at e
   ·next v' e1 =>
    obtain⟨rfl,rfl⟩:=fin ax1 e;simp only[astep,e1];rfl
   ·cases e
  |true =>
   refine quiet e fun v' h'' h1=>?_
   simp only[astep,Zt]at h1;obtain⟨_,_,h1⟩:=h1;injection h1 with _ h1;exact h1.symm
 |pick c a b =>
  refine⟨rfl,?_⟩;simp only[opE]at e;split at e
  ·next t ht =>
   obtain⟨rfl,rfl⟩:=fin ax1 e;simp only[astep,ht];cases t<;>rfl
  ·cases e
 |extract x i =>
  refine⟨rfl,?_⟩;simp only[opE]at e;split at e
  ·next l hl =>
   split at e
   ·next v' hv =>
    obtain⟨rfl,rfl⟩:=fin ax1 e;simp only[astep,hl,hv];rfl
   ·cases e
  ·cases e
 |_ =>
  refine⟨rfl,quiet e fun v' h'' h1=>?_⟩;revert h1;simp only[astep]
  repeat' split
  all_goals (intro h1;first|cases h1|skip)
  all_goals (first|rfl|(simp only[Zt,Zz]at h1;obtain⟨_,_,_,h1⟩:=h1;exact h1.symm)|skip)
section
variable (P:Program) (G:World→Prop) (tab:Tab)
structure Ent where
 f:FuncId
 run:List A→EH→Option (A×Option EH)
 ok:∀ avs h v oh,run avs h=some (v,oh)→ACall P G f avs (h.abs tab) fun v' h'=>v'=v∧h'=(oh.getD h).abs tab
end
section
variable {P:Program} {G:World→Prop} {tab:Tab}
def findE(f:FuncId):List (Ent P G tab)→Option (Ent P G tab)
 |[]=>none
 |e::l=>bif Nat.beq f e.f then some e else findE f l
theorem bvi{f:FuncId}:∀ {l:List (Ent P G tab)} {e:Ent P G tab},findE f l=some e→e.f=f
 |[],e,h=>by cases h
 |x::l,e,h=>by
  unfold findE at h;cases hb:Nat.beq f x.f with
  |true=>rw[hb]at h;injection h with h;subst h;exact(ay3.1 hb).symm
  |false=>rw[hb]at h;exact bvi h
def wk1:A→A
 |.sl W (.tok _) rows => .sl W .no rows
 |x=>x
def wk2:A→A
 |.agg l => .agg (l.map wk1)
 |x=>wk1 x
def wk3:A→A
 |.tup l => .tup (l.map wk2)
 |x=>wk2 x
theorem cv8(x:A):le1 x (wk1 x):=by
 unfold wk1;split
 ·exact⟨rfl,.inl rfl,.inl rfl⟩
 ·exact aza x
theorem cv3:∀ l:List A,leL l (l.map wk1)
 |[]=>trivial
 |x::l=>⟨cv8 x,cv3 l⟩
theorem cyc{x y:A}(h:le1 x y)(hx:∀ l,x≠.agg l):le2 x y:=by
 unfold le2;split
 ·exact absurd rfl (hx _)
 ·exact h
theorem cki(x:A):le2 x (wk2 x):=by
 unfold wk2;split
 ·exact cv3 _
 ·next h=>exact cyc (cv8 _) fun l e=>h l e
theorem czt:∀ l:List A,cxf l (l.map wk2)
 |[]=>trivial
 |x::l=>⟨cki x,czt l⟩
theorem dz3(x:A):le x (wk3 x):=by
 unfold wk3;split
 ·exact czt _
 ·next h =>
  unfold le;split
  ·exact absurd rfl (h _)
  ·exact cki _
abbrev Ih:=ACode→T→EH→Option (AExit×T×EH)
def IhOk(P:Program)(G:World→Prop)(tab:Tab)(ih:Ih):Prop:=∀ c t h e t' h',ih c t h=some (e,t',h')→∀ Q:AExit→Ts→Hp→Prop,Q e t'.get (h'.abs tab)→awp P G c Q t.get (h.abs tab)
def endE:AExit→Bool
 |.exit _=>false
 |_=>true
def finE(tab:Tab)(rs:List ARes)(t:T)(h:EH):Option A:=
 match resA t.get (h.abs tab) rs with
 |some l=>fR (tupA l)
 |none=>none
theorem cqb{rs:List ARes}{t:T}{h:EH}{v:A}{e:AExit}(he:endE e=true)(hf:finE tab rs t h=some v){Q:A→Hp→Prop}{u:A}(hl:le v u)(hq:Q u (h.abs tab)):finQ rs Q e t.get (h.abs tab):=by
 have key:finO (resA t.get (h.abs tab) rs) Q (h.abs tab):=by
  unfold finE at hf;split at hf
  ·next l hr =>
   rw[hr];exact⟨u,by rw[←cvf _ _ hf];exact hl,hq⟩
  ·cases hf
 cases e with
 |exit=>cases he
 |normal=>exact key
 |ret=>exact key
def callE(lib:List (Ent P G tab))(inp:List FuncId)(ih:Ih)(f:FuncId)(args:List A)(h:EH):Option (A×Option EH):=
 match findE f lib with
 |some e=>e.run args h
 |none=>match compFn P f with
  |none=>none
  | some fn=>bif args.length.ble fn.n then (match T.init args with
   | none=>none
   | some t=>bif args.all A.pure&&!(inp.any (Nat.beq f)) then (match ih fn.code t ⟨[],[]⟩ with
     | none=>none
     | some (e,t',h')=>bif endE e then (match finE tab fn.res t' h' with
      | none=>none
      | some v=>(match fR (wk3 v) with
       | none=>none
       | some v=>bif v.pure then some (v,none) else none)) else none)
    else (match ih fn.code t h with
     | none=>none
     | some (e,t',h')=>bif endE e then (match finE tab fn.res t' h' with
      | none=>none
      | some v=>some (v,some h')) else none)) else none
theorem bzr(hm:P.follows .mixedOrders=true){lib:List (Ent P G tab)}{inp:List FuncId}{ih:Ih}(hih:IhOk P G tab ih){f:FuncId}{args:List A}{h:EH}{v:A}{oh:Option EH}(hc:callE lib inp ih f args h=some (v,oh)) :
  ACall P G f args (h.abs tab) fun v' h'=>v'=v∧h'=(oh.getD h).abs tab:=by
 unfold callE at hc;split at hc
 ·next e he =>
  have:=e.ok args h v oh hc;rw[bvi he]at this;exact this
 ·split at hc
  ·cases hc
  ·next fn hfn =>
   cases hle:args.length.ble fn.n with
   |false=>rw[hle]at hc;cases hc
   |true =>
    rw[hle]at hc;simp only[cond_true]at hc;have hlen:args.length≤fn.n:=Zae hle;split at hc
    ·cases hc
    ·next t ht =>
     have htg:=T.init_ok ht;cases hp:(args.all A.pure&&!(inp.any (Nat.beq f)))with
     |true =>
      rw[hp]at hc;simp only[cond_true]at hc;rw[Zc]at hp;split at hc
      ·cases hc
      ·next e t' h' hr =>
       cases hee:endE e with
       |false=>rw[hee]at hc;cases hc
       |true =>
        rw[hee]at hc;simp only[cond_true]at hc;split at hc
        ·cases hc
        ·next u hu =>
         split at hc
         ·cases hc
         ·next u' hu' =>
          cases hpu:u'.pure with
          |false=>rw[hpu]at hc;cases hc
          |true =>
           rw[hpu]at hc;injection hc with hc;injection hc with h1 h2;subst h1;subst h2;have hE:ACall P G f args ⟨[],[]⟩ fun v _=>v=u':=by
            refine ayz hm hfn hlen ?_;rw[←htg];refine hih _ _ _ _ _ _ hr _ (cqb hee hu (u:=u') ?_ rfl);rw[cvf _ _ hu'];exact dz3 u
           exact pcall hE hpu hp.1 _
     |false =>
      rw[hp]at hc;simp only[cond_false]at hc;split at hc
      ·cases hc
      ·next e t' h' hr =>
       cases hee:endE e with
       |false=>rw[hee]at hc;cases hc
       |true =>
        rw[hee]at hc;simp only[cond_true]at hc;split at hc
        ·cases hc
        ·next u hu =>
         injection hc with hc;injection hc with h1 h2;subst h1;subst h2;refine ayz hm hfn hlen ?_;rw[←htg];exact hih _ _ _ _ _ _ hr _ (cqb hee hu (le_refl _) ⟨rfl,rfl⟩)
def opdE(t:T)(o:Opd):Option A:=fH (evX t.get o)
theorem cze{t:T}(x:Opd)(y:A)(h:opdE t x=some y):y=evX t.get x:=ax1 _ _ h
def stepE(lib:List (Ent P G tab))(inp:List FuncId)(ih:Ih)(t:T)(h:EH):AOp→Option (A×Option EH)
 | .call f avs=>(match mapO (opdE t) avs with
  | some vs=>callE lib inp ih f vs h
  | none=>none)
 | .callv x avs=>(match evX t.get x with
  | .fn f caps=>bif callOk P (vF f) then (match mapO (opdE t) avs with
   | some vs=>(match mapO fH (vA f vs caps) with
    | some vs=>callE lib inp ih (vF f) vs h
    | none=>none)
   | none=>none) else none
  | _=>none)
 |op=>opE tab (evX t.get) h op
theorem bkp(hm:P.follows .mixedOrders=true){lib:List (Ent P G tab)}{inp:List FuncId}{ih:Ih}(hih:IhOk P G tab ih){t:T}{h:EH}{op:AOp}{v:A}{oh:Option EH}(hc:stepE lib inp ih t h op=some (v,oh)) :
  aopP P G (evX t.get) (h.abs tab) (fun v' h'=>v'=v∧h'=(oh.getD h).abs tab) op:=by
 have plain:opE tab (evX t.get) h op=some (v,oh)→aopP P G (evX t.get) (h.abs tab) (fun v' h'=>v'=v∧h'=(oh.getD h).abs tab) op:=fun e=>by
  obtain⟨h1,h2⟩:=cy4 e;exact axd h1 h2
 cases op with
 |call f avs =>
  simp only[stepE]at hc;split at hc
  ·next vs e =>
   have:=bzb cze e;subst this;exact bzr hm hih hc
  ·cases hc
 |callv x avs =>
  simp only[stepE]at hc;split at hc
  ·next f caps hx =>
   cases hok:callOk P (vF f)with
   |false=>rw[hok]at hc;cases hc
   |true =>
    rw[hok]at hc;simp only[cond_true]at hc;split at hc
    ·next vs e =>
     have:=bzb cze e;subst this;split at hc
     ·next vs e2 =>
      have:=az1 ax1 e2;subst this;exact⟨f,caps,hx,hok,bzr hm hih hc⟩
     ·cases hc
    ·cases hc
  ·cases hc
 |_=>exact plain hc
def gd(t:T):Option (Nat×Bool)→Option Bool
 |none=>some true
 |some (i,b)=>match t.get i with
  |.bool c=>some (bif c then b else !b)
  |.tup []=>some false
  |_=>none
theorem bjc{t:T}{g:Option (Nat×Bool)}{p q:Prop}(h:gd t g=some true)(hp:p):guardP t.get g p q:=by
 cases g with
 |none=>exact hp
 |some ib =>
  obtain⟨i,b⟩:=ib;unfold gd at h;simp only at h;simp only[guardP];split at h
  ·next c e =>
   rw[e];injection h with h;cases c<;>cases b<;>simp_all
  ·cases h
  ·cases h
theorem bzf{t:T}{g:Option (Nat×Bool)}{p q:Prop}(h:gd t g=some false)(hq:q):guardP t.get g p q:=by
 cases g with
 |none=>cases h
 |some ib =>
  obtain⟨i,b⟩:=ib;unfold gd at h;simp only at h;simp only[guardP];split at h
  ·next c e =>
   rw[e];injection h with h;cases c<;>cases b<;>simp_all
  ·next e=>rw[e];exact hq
  ·cases h
def unitB:A→Bool
 |.tup []=>true
 |_=>false
def qchk(tab:Tab)(t:T)(o:AOper)(v:A)(h:EH):Bool:=
 match gd t o.guard with
 |some true=>loadB o.op&&(match astep (evX t.get) (h.abs tab) o.op with|some (v',_)=>eqb 9 v' v|none=>false)
 |some false=>unitB v
 |none=>false
theorem cxk{v:A}(h:unitB v=true):v=.tup []:=by
 unfold unitB at h;split at h
 ·rfl
 ·cases h
theorem byn{t:T}{o:AOper}{v:A}{h:EH}(e:qchk tab t o v h=true):quietAt P G t.get o v (h.abs tab):=by
 unfold qchk at e;unfold quietAt;split at e
 ·next hg =>
  rw[Zc]at e;refine bjc hg ?_;obtain⟨e1,e2⟩:=e;cases hop:o.op with
  |load g n p =>
   rw[hop]at e2;refine axd rfl ?_;simp only[astep]at e2 ⊢;cases hl:loadA (h.abs tab) g n (evX t.get p)with
   |none=>rw[hl]at e2;cases e2
   |some v'=>rw[hl]at e2;rw[←bv4 _ _ _ e2];rfl
  |_=>rw[hop]at e1;cases e1
 ·next hg=>exact bzf hg (cxk e)
 ·cases e
abbrev Ob:=Nat×T×AOper×A
def obOk(tab:Tab)(af:List Nat)(h:EH):List Ob→Bool
 |[]=>true
 |(j,t,o,v)::l=>(memN j af||qchk tab t o v h)&&obOk tab af h l
def obDrop(af:List Nat):List Ob→List Ob
 |[]=>[]
 |(j,t,o,v)::l=>bif memN j af then obDrop af l else(j,t,o,v)::obDrop af l
def obP(P:Program)(G:World→Prop):Ob→Nat×(Hp→Prop):=fun x=>(x.1,quietAt P G x.2.1.get x.2.2.1 x.2.2.2)
theorem bvc{af:List Nat}{h:EH}:∀ {l:List Ob},obOk tab af h l=true→obsP af (l.map (obP P G)) (h.abs tab)
 |[],_=>trivial
 |(j,t,o,v)::l,e=>by
  simp only[obOk,Zc,ZS]at e;exact⟨e.1.imp id fun e=>byn e,bvc e.2⟩
theorem bxq{af:List Nat}:∀ l:List Ob,obsD af (l.map (obP P G))=(obDrop af l).map (obP P G)
 |[]=>rfl
 |(j,t,o,v)::l=>by
  simp only[ZH,obDrop];rw[show obP P G (j,t,o,v)=(j,quietAt P G t.get o v)from rfl];unfold obsD;have ih:=bxq (af:=af) l;cases hm:memN j af with
  |true=>rw[if_pos rfl];exact ih
  |false =>
   rw[if_neg (by simp)];rw[ih];rfl
def eqB:EB→EB→Bool
 |.cells T l,.cells T' l'=>Nat.beq T T'&&bwb (eqb 20) l l'
 |.map es c,.map es' c'=>bwb (fun x y=>decide (x.1=y.1)&&eqb 20 x.2 y.2) es es'&&c.beq c'
 |.row T l,.row T' l'=>Nat.beq T T'&&bwb (eqb 20) l l'
 |.obj k d,.obj k' d'=>k.beq k'&&eqb 20 d d'
 |_,_=>false
theorem dzs(x y:EB)(h:eqB x y=true):x=y:=by
 have e:=bv4 20;cases x<;>cases y<;>simp only[eqB,Zk,Zc,ay3]at h
 ·rw[h.1,axs e h.2]
 ·rw[axs (fun x y hh=>by
   simp only[Zc,Zq]at hh
   exact Prod.ext hh.1 (e _ _ hh.2)) h.1,h.2]
 ·rw[h.1,axs e h.2]
 ·rw[h.1,e _ _ h.2]
def eqH(x y:EH):Bool:=bwb eqB x.b y.b&&bwb (fun a b=>decide (a=b)) x.t y.t
theorem cv5{x y:EH}(h:eqH x y=true):x=y:=by
 simp only[eqH,Zc]at h;obtain⟨a,b⟩:=x;obtain⟨c,d⟩:=y;rw[show a=c from axs dzs h.1,show b=d from axs (fun _ _ e=>of_decide_eq_true e) h.2]
def keptB(h:EH):Option EH→Bool
 |none=>true
 |some h'=>eqH h' h
theorem cju{h:EH}{oh:Option EH}(e:keptB h oh=true):oh.getD h=h:=by
 cases oh with
 |none=>rfl
 |some h'=>exact cv5 e
def runD(lib:List (Ent P G tab))(inp:List FuncId)(ih:Ih)(m:Nat):List AOper→Nat→List Bool→List EH→List Ob→T→EH→Option (T×EH)
 |[],_,_,_,_,t,h=>some (t,h)
 |o::os,i,fl,past,obs,t,h =>
  match gd t o.guard with
  |none=>none
  |some g=>match (bif g then stepE lib inp ih t h o.op else some (.tup [],none))with
   |none=>none
   |some (v,oh)=>match t.put o.dst v with
    |none=>none
    | some t'=>bif actB m o.op then (match oh with
      | none=>bif obOk tab o.after h obs then runD lib inp ih m os (i+1) fl.tail (h::past) (obDrop o.after obs) t' h else none
      | some h'=>bif obOk tab o.after h' obs then runD lib inp ih m os (i+1) fl.tail (h::past) (obDrop o.after obs) t' h' else none)
     else bif keptB h oh then(bif fl.headD false then(bif qchk tab t o v h&&past.all (qchk tab t o v)then runD lib inp ih m os (i+1) fl.tail past ((i,t,o,v)::obs) t' h else none)
       else runD lib inp ih m os (i+1) fl.tail past obs t' h)else none
theorem ay9(hm:P.follows .mixedOrders=true){lib:List (Ent P G tab)}{inp:List FuncId}{ih:Ih}(hih:IhOk P G tab ih){m:Nat}{K:Ts→Hp→Prop}{t2:T}{h2:EH}(hK:K t2.get (h2.abs tab)) :
  ∀(os:List AOper) (i:Nat) (fl:List Bool) (past:List EH) (obs:List Ob) (t:T) (h:EH),runD lib inp ih m os i fl past obs t h=some (t2,h2)→aseq P G m i fl os (past.map (EH.abs tab)) (obs.map (obP P G)) K t.get (h.abs tab)
 |[],i,fl,past,obs,t,h,e=>by
  injection e with e;injection e with e1 e2;subst e1;subst e2;exact hK
 |o::os,i,fl,past,obs,t,h,e=>by
  have ihr:=ay9 hm (lib:=lib) (inp:=inp) (m:=m) hih hK os (i+1) fl.tail;unfold runD at e;split at e
  ·cases e
  ·next g hg =>
   split at e
   ·cases e
   ·next v oh hs =>
    split at e
    ·cases e
    ·next t' hp =>
     have hput:=T.put_ok hp;have hgd:guardP t.get o.guard (aopP P G (evX t.get) (h.abs tab) (fun v' h''=>v'=v∧h''=(oh.getD h).abs tab) o.op) (v=.tup []∧(oh.getD h).abs tab=h.abs tab):=by
      cases g with
      |true=>exact bjc hg (bkp hm hih hs)
      |false =>
       injection hs with hs;injection hs with h1 h2;subst h1;subst h2;exact bzf hg ⟨rfl,rfl⟩
     refine⟨v,(oh.getD h).abs tab,hgd,?_⟩;cases hact:actB m o.op with
     |true =>
      rw[hact]at e;simp only[cond_true]at e;refine⟨.inl rfl,?_⟩;rw[if_pos rfl,←hput,bxq];cases oh with
      |none =>
       simp only at e;cases hob:obOk tab o.after h obs with
       |false=>rw[hob]at e;cases e
       |true =>
        rw[hob]at e;exact⟨bvc hob,ihr (h::past) _ t' h e⟩
      |some h' =>
       simp only at e;cases hob:obOk tab o.after h' obs with
       |false=>rw[hob]at e;cases e
       |true =>
        rw[hob]at e;exact⟨bvc hob,ihr (h::past) _ t' h' e⟩
     |false =>
      rw[hact]at e;simp only[cond_false]at e;cases hk:keptB h oh with
      |false=>rw[hk]at e;cases e
      |true =>
       rw[hk]at e;simp only[cond_true]at e;rw[cju hk];refine⟨.inr rfl,?_⟩;rw[if_neg (by simp),←hput];cases hfl:fl.headD false with
       |true =>
        rw[hfl]at e;simp only[cond_true]at e;rw[if_pos rfl];cases hq:(qchk tab t o v h&&past.all (qchk tab t o v))with
        |false=>rw[hq]at e;cases e
        |true =>
         rw[hq]at e;rw[Zc,ZF]at hq;refine⟨?_,ihr past ((i,t,o,v)::obs) t' h e⟩;have:∀ l:List EH,(∀ x∈l,qchk tab t o v x=true)→forH (quietAt P G t.get o v) (l.map (EH.abs tab)):=by
          intro l;induction l with
          |nil=>intro _;trivial
          |cons x l ih=>intro hx;exact⟨byn (hx x (by simp)),ih fun y hy=>hx y (by simp[hy])⟩
         exact this past hq.2
       |false =>
        rw[hfl]at e;rw[if_neg (by simp)];exact ihr past obs t' h e
def newB:AOp→Bool
 |.alloc ..=>true
 |_=>false
def findA:Nat→List AOper→Option Nat
 |_,[]=>none
 |i,o::os=>bif newB o.op then some i else findA (i+1) os
def hbs(lib:List (Ent P G tab))(inp:List FuncId)(ih:Ih)(acts:List Nat)(a:Nat)(va:A):List AOper→Nat→T→EH→Option (List EH)
 |[],_,_,h=>some [h]
 | o::os,i,t,h=>bif i.beq a then (match t.put o.dst va with
   | some t'=>hbs lib inp ih acts a va os (i+1) t' h
   | none=>none)
  else(match gd t o.guard with
   |none=>none
   |some g=>match (bif g then stepE lib inp ih t h o.op else some (.tup [],none))with
    |none=>none
    |some (v,oh)=>match t.put o.dst v with
     |none=>none
     | some t'=>bif memN i acts then (match hbs lib inp ih acts a va os (i+1) t' (oh.getD h) with
       | some l=>some (h::l)
       | none=>none)
      else hbs lib inp ih acts a va os (i+1) t' h)
def agenE(lib:List (Ent P G tab))(inp:List FuncId)(ih:Ih)(acts:List Nat)(a:Nat)(hl:List EH):List AOper→Nat→List (List Nat)→T→Option T
 |[],_,_,t=>some t
 |o::os,i,stg,t=>match gd t o.guard with
  |none=>none
  |some g=>match (bif g then(match stepE lib inp ih t (hl.getD ((stg.headD []).headD 0) ⟨[],[]⟩) o.op with|some (v,_)=>some v|none=>none)else some (.tup []))with
   |none => none
   | some v => bif (stg.headD []).all (fun j => bif g then (match stepE lib inp ih t (hl.getD j ⟨[], []⟩) o.op with
         | some (v', oh) => eqb 20 v' v && eqH (oh.getD (hl.getD j ⟨[], []⟩)) (hl.getD (bye acts a acts.length i j) ⟨[], []⟩)
         | none => false) else !(i.beq a)) then (match t.put o.dst v with
     |some t'=>agenE lib inp ih acts a hl os (i+1) stg.tail t'
     |none=>none)else none
theorem absD{hl:List EH}{j:Nat}:(hl.map (EH.abs tab)).getD j ⟨[],[]⟩=(hl.getD j ⟨[],[]⟩).abs tab:=by
 rw[ZY,ZY,List.getElem?_map];cases hl[j]?<;>rfl
theorem aw9{p:Nat→Prop}:∀ {l:List Nat},(∀ k∈l,p k)→forL p l
 |[],_=>trivial
 |a::l,h=>⟨h a (by simp),aw9 fun k hk=>h k (by simp[hk])⟩
theorem bvo(hm:P.follows .mixedOrders=true){lib:List (Ent P G tab)}{inp:List FuncId}{ih:Ih}(hih:IhOk P G tab ih){acts:List Nat}{a:Nat}{hl:List EH}{K:Ts→Prop}{t2:T}(hK:K t2.get) :
  ∀(os:List AOper) (i:Nat) (stg:List (List Nat)) (t:T),agenE lib inp ih acts a hl os i stg t=some t2→agen P G acts a acts.length (hl.map (EH.abs tab)) i os stg K t.get
 |[],i,stg,t,e=>by
  injection e with e;subst e;exact hK
 |o::os,i,stg,t,e=>by
  have ihr:=bvo hm (lib:=lib) (inp:=inp) hih (acts:=acts) (a:=a) (hl:=hl) hK os (i+1) stg.tail;unfold agenE at e;split at e
  ·cases e
  ·next g hg =>
   split at e
   ·cases e
   ·next v hv =>
    cases hall:(stg.headD []).all (fun j=>bif g then(match stepE lib inp ih t (hl.getD j ⟨[],[]⟩) o.op with
      |some (v',oh)=>eqb 20 v' v&&eqH (oh.getD (hl.getD j ⟨[],[]⟩)) (hl.getD (bye acts a acts.length i j) ⟨[],[]⟩)
      |none=>false)else !(i.beq a))with
    |false=>rw[hall]at e;cases e
    |true =>
     rw[hall]at e;simp only[cond_true]at e;split at e
     ·next t' hp =>
      refine⟨v,aw9 fun j hj=>?_,by rw[←T.put_ok hp];exact ihr t' e⟩;have hj:=ZF.1 hall j hj;rw[absD,absD];cases g with
      |true =>
       simp only[cond_true]at hj;split at hj
       ·next v' oh hs =>
        rw[Zc]at hj;refine bjc hg ?_;rw[←cv5 hj.2,←bv4 _ _ _ hj.1];exact bkp hm hih hs
       ·cases hj
      |false =>
       simp only[cond_false]at hj hv;injection hv with hv;rw[Yv,cy5]at hj;exact bzf hg ⟨hv.symm,hj⟩
     ·cases e
def cutO(n:Nat)(h:EH):Option EH:=
 match mapO some (h.b.take n)with
 |some b=>some ⟨b,h.t⟩
 |none=>none
def runG(lib:List (Ent P G tab))(inp:List FuncId)(ih:Ih)(ops:List AOper)(t:T)(h:EH):Option (T×EH):=
 match findA 0 ops with
 |none=>none
 | some a=>bif genB ops ((actsF 1 0 (closeOps ops)).filter fun i=>!(i.beq a)) a (cj0 (closeOps ops) ((actsF 1 0 (closeOps ops)).filter fun i=>!(i.beq a)) a) then (match ops[a]? with
   | none=>none
   | some o=>match opE tab (evX t.get) h o.op with
    | some (va,some hx)=>(match hbs lib inp ih ((actsF 1 0 (closeOps ops)).filter fun i=>!(i.beq a)) a va ops 0 t hx with
     | none=>none
     | some hb=>match mapO (cutO h.b.length) (hb.drop 1) with
      | none=>none
      | some hn=>match agenE lib inp ih ((actsF 1 0 (closeOps ops)).filter fun i=>!(i.beq a)) a (h::(hn++hb)) ops 0 (cj0 (closeOps ops) ((actsF 1 0 (closeOps ops)).filter fun i=>!(i.beq a)) a) t with
       | none=>none
       | some t'=>match (h::(hn++hb))[((actsF 1 0 (closeOps ops)).filter fun i=>!(i.beq a)).length+(((actsF 1 0 (closeOps ops)).filter fun i=>!(i.beq a)).length+1)]? with
        | some h'=>some (t',h')
        | none=>none)
    | _=>none) else none
theorem cyn(hm:P.follows .mixedOrders=true){lib:List (Ent P G tab)}{inp:List FuncId}{ih:Ih}(hih:IhOk P G tab ih){Q:AExit→Ts→Hp→Prop}{ops:List AOper}{t t2:T}{h h2:EH}(hQ:Q .normal t2.get (h2.abs tab))(e:runG lib inp ih ops t h=some (t2,h2)) :
  awp P G (.reg true ops) Q t.get (h.abs tab):=by
 unfold runG at e;split at e
 ·cases e
 ·next a ha =>
  obtain⟨acts,hacts⟩:=Ex (((actsF 1 0 (closeOps ops)).filter fun i=>!(i.beq a)));rw[hacts]at e;cases hb:genB ops acts a (cj0 (closeOps ops) acts a)with
  |false=>rw[hb]at e;cases e
  |true =>
   rw[hb]at e;simp only[cond_true]at e;split at e
   ·cases e
   ·split at e
    ·split at e
     ·cases e
     ·next hbl _ =>
      split at e
      ·cases e
      ·next hn _ =>
       split at e
       ·cases e
       ·next t' ht' =>
        split at e
        ·next h' hh =>
         injection e with e;injection e with e1 e2;subst e1;subst e2;refine by3 acts a ((h::(hn++hbl)).map (EH.abs tab)) (cj0 (closeOps ops) acts a) rfl hb (bvo hm hih ?_ ops 0 _ t ht');rw[absD,ZY,hh];exact hQ
        ·cases e
    ·cases e
def nrm(r:Option (T×EH)):Option (AExit×T×EH):=
 match r with
 |some (t,h)=>some (.normal,t,h)
 |none=>none
def evB(lib:List (Ent P G tab))(inp:List FuncId)(ih:Ih):Ih:=fun c t h =>
 match c with
 |.skip=>some (.normal,t,h)
 |.reg false ops=>nrm (runD lib inp ih 0 ops 0 [] [] [] t h)
 |.reg true ops=>bif seqB 1 ops then nrm (runD lib inp ih 1 ops 0 (flagsOf 1 ops) [] [] t h)else bif seqB 2 ops then nrm (runD lib inp ih 2 ops 0 (flagsOf 2 ops) [] [] t h)else nrm (runG lib inp ih ops t h)
 | .seq a b=>(match ih a t h with
  | none=>none
  | some (e,t',h')=>(match e with
   | .normal=>ih b t' h'
   | .exit j=>some (.exit j,t',h')
   | .ret=>some (.ret,t',h')))
 | .cond c a b=>(match evX t.get c with
  | .bool x=>bif x then ih a t h else ih b t h
  | _=>none)
 | .block id c=>(match ih c t h with
  | none=>none
  | some (e,t',h')=>(match e with
   | .normal=>some (.normal,t',h')
   | .exit j=>bif Nat.beq j id then some (.normal,t',h') else some (.exit j,t',h')
   | .ret=>some (.ret,t',h')))
 | .loop c=>(match ih c t h with
  | none=>none
  | some (e,t',h')=>(match e with
   | .normal=>ih (.loop c) t' h'
   | .exit j=>some (.exit j,t',h')
   | .ret=>some (.ret,t',h')))
 |.exit id=>some (.exit id,t,h)
 |.ret=>some (.ret,t,h)
 |.prim ..=>none
noncomputable def ev(lib:List (Ent P G tab))(inp:List FuncId)(n:Nat):Ih:=Nat.rec (motive:=fun _=>Ih) (fun _ _ _=>none) (fun _ ih=>evB lib inp ih) n
theorem akb{r:Option (T×EH)}{e:AExit}{t:T}{h:EH}(hn:nrm r=some (e,t,h)):e=.normal∧r=some (t,h):=by
 cases r with
 |none=>cases hn
 |some x =>
  injection hn with hn;injection hn with h1 h2;injection h2 with h2 h3;exact⟨h1.symm,by rw[←h2,←h3]⟩
theorem dzu(hm:P.follows .mixedOrders=true){lib:List (Ent P G tab)}{inp:List FuncId}{ih:Ih}(hih:IhOk P G tab ih):IhOk P G tab (evB lib inp ih):=by
 intro c t h e t' h' hr Q hQ;cases c with
 |skip=>injection hr with hr;injection hr with h1 h2;injection h2 with h2 h3;subst h1;subst h2;subst h3;exact hQ
 |exit id=>injection hr with hr;injection hr with h1 h2;injection h2 with h2 h3;subst h1;subst h2;subst h3;exact hQ
 |ret=>injection hr with hr;injection hr with h1 h2;injection h2 with h2 h3;subst h1;subst h2;subst h3;exact hQ
 |prim n c=>cases hr
 |reg d ops =>
  cases d with
  |false =>
   obtain⟨rfl,h1⟩:=akb hr;exact bjr (ay9 hm hih (K:=Q .normal) hQ ops 0 [] [] [] t h h1)
  |true =>
   simp only[evB]at hr;cases h1:seqB 1 ops with
   |true =>
    rw[h1]at hr;obtain⟨rfl,h2⟩:=akb hr;exact bjz 1 h1 (ay9 hm hih (K:=Q .normal) hQ ops 0 _ [] [] t h h2)
   |false =>
    rw[h1]at hr;simp only[cond_false]at hr;cases h3:seqB 2 ops with
    |true =>
     rw[h3]at hr;obtain⟨rfl,h2⟩:=akb hr;exact bjz 2 h3 (ay9 hm hih (K:=Q .normal) hQ ops 0 _ [] [] t h h2)
    |false =>
     rw[h3]at hr;obtain⟨rfl,h2⟩:=akb hr;exact cyn hm hih hQ h2
 |seq a b =>
  simp only[evB]at hr;split at hr
  ·cases hr
  ·next e1 t1 h1 hx =>
   refine bkd (hih _ _ _ _ _ _ hx _ ?_);cases e1 with
   |normal=>exact hih _ _ _ _ _ _ hr _ hQ
   |exit j=>injection hr with hr;injection hr with h1 h2;injection h2 with h2 h3;subst h1;subst h2;subst h3;exact hQ
   |ret=>injection hr with hr;injection hr with h1 h2;injection h2 with h2 h3;subst h1;subst h2;subst h3;exact hQ
 |cond c a b =>
  simp only[evB]at hr;split at hr
  ·next x hx =>
   cases x with
   |true=>exact cxz hx (hih _ _ _ _ _ _ hr _ hQ)
   |false=>exact cvu hx (hih _ _ _ _ _ _ hr _ hQ)
  ·cases hr
 |block id c =>
  simp only[evB]at hr;split at hr
  ·cases hr
  ·next e1 t1 h1 hx =>
   refine bvx (hih _ _ _ _ _ _ hx _ ?_);cases e1 with
   |normal=>injection hr with hr;injection hr with h1 h2;injection h2 with h2 h3;subst h1;subst h2;subst h3;exact hQ
   |ret=>injection hr with hr;injection hr with h1 h2;injection h2 with h2 h3;subst h1;subst h2;subst h3;exact hQ
   |exit j =>
    simp only at hr;cases hj:Nat.beq j id with
    |true =>
     rw[hj]at hr;injection hr with hr;injection hr with h1 h2;injection h2 with h2 h3;subst h1;subst h2;subst h3;have:=ay3.1 hj;subst this;exact cj8 hQ
    |false =>
     rw[hj]at hr;injection hr with hr;injection hr with h1 h2;injection h2 with h2 h3;subst h1;subst h2;subst h3;exact cvi (by rw[Zu];exact cy5.1 hj) hQ
 |loop c =>
  simp only[evB]at hr;split at hr
  ·cases hr
  ·next e1 t1 h1 hx =>
   cases e1 with
   |normal =>
    obtain⟨k,hk⟩:=hih _ _ _ _ _ _ hr Q hQ;exact⟨k+1,hih _ _ _ _ _ _ hx _ hk⟩
   |exit j=>injection hr with hr;injection hr with h1 h2;injection h2 with h2 h3;subst h1;subst h2;subst h3;exact⟨1,hih _ _ _ _ _ _ hx _ hQ⟩
   |ret=>injection hr with hr;injection hr with h1 h2;injection h2 with h2 h3;subst h1;subst h2;subst h3;exact⟨1,hih _ _ _ _ _ _ hx _ hQ⟩
theorem dze(hm:P.follows .mixedOrders=true)(lib:List (Ent P G tab))(inp:List FuncId):∀ n,IhOk P G tab (ev lib inp n)
 |0=>fun c t h e t' h' hr=>by cases hr
 |n+1=>dzu hm (dze hm lib inp n)
theorem eval(hm:P.follows .mixedOrders=true)(lib:List (Ent P G tab))(inp:List FuncId)(n:Nat){f:FuncId}{args:List A}{h:EH}{v:A}(hc:(callE lib inp (ev lib inp n) f args h).map (·.1)=some v):ACall P G f args (h.abs tab) fun v' _=>v'=v:=by
 rw[Zt]at hc;obtain⟨⟨v',oh⟩,h1,rfl⟩:=hc;exact(bzr hm (dze hm lib inp n) h1).mono fun _ _ h=>h.1
end
end AX
end Go.Proofs.YtdgcbckcameggadGreatDoor

namespace Go.Proofs.YtdgcbckcameggadGreatDoor
open Go.RowKit
namespace AX
def gate(b:Bool)(v:A):Option (A×Option EH):=bif b then(match fR v with|some v=>some (v,none)|none=>none)else none
theorem ak0{b:Bool}{v v':A}{oh:Option EH}(h:gate b v=some (v',oh)):b=true∧v'=v∧oh=none:=by
 unfold gate at h;cases b with
 |false=>cases h
 |true =>
  simp only[cond_true]at h;split at h
  ·next e=>injection h with h;injection h with h1 h2;exact⟨rfl,by rw[←h1,cvf _ _ e],h2.symm⟩
  ·cases h
abbrev Bs:=List UInt8
def eS{tab:Tab}(f:FuncId)(b:Bs→Bool)(r:Bs→A)(ok:∀ s,b s=true→∀ h,AT f [.str s] h (r s)):Ent Tryz.prog GT tab where
 f:=f
 run avs h:=match avs with
  |[.str s]=>gate (b s) (r s)
  |_=>none
 ok avs h v oh e:=by
  split at e
  ·obtain⟨h1,rfl,rfl⟩:=ak0 e;exact ok _ h1 _
  ·cases e
def eSI{tab:Tab}(f:FuncId)(b:Bs→Int→Bool)(r:Bs→Int→A)(ok:∀ s n,b s n=true→∀ h,AT f [.str s,.int .i64 n] h (r s n)):Ent Tryz.prog GT tab where
 f:=f
 run avs h:=match avs with
  |[.str s,.int .i64 n]=>gate (b s n) (r s n)
  |_=>none
 ok avs h v oh e:=by
  split at e
  ·obtain⟨h1,rfl,rfl⟩:=ak0 e;exact ok _ _ h1 _
  ·cases e
theorem dqp{l m:Bs}(e:mapO fU l=some m):m=l:=az1 cy9 e
def libP{tab:Tab}:List (Ent Tryz.prog GT tab):=[
 eS 103 (fun s=>s.length.ble 2000000) (fun s => .bool (Str.valid s)) (fun s e h=>bjm s (Zae e) h),
 eS 153 (fun _=>true) (fun s => .int .i64 (Val.textZ s)) (fun s _ h=>bjn s h),
 eSI 53 (fun s n=>s.length.ble 1000000000&&decide (-9223372036854775808≤n∧n≤9223372036854775807)) (fun s n => .str (s++Wire.num n)) (fun s n e h=>by
  rw[Zc,Zq]at e
  exact aqn s n (Zae e.1) e.2.1 e.2.2 h),
 eS 31 (fun s=>s.length.ble 1000000000) (fun s => .str (Crc.app s)) (fun s e h=>avl s (Zae e) h),
 eS 129 (fun s=>s.length.ble 1000000000) (fun s => .tup [.str (Crc.ver s).1,.int .i64 (Crc.ver s).2]) (fun s e h=>ayv s (Zae e) h)]
def tabL:Tab:=fun k d =>
 match k,d with
 |3,.str l=>lwt l
 |_,_=>dead
abbrev EntL:=Ent Tryz.prog GT tabL
def turnL(h:EH)(i:Nat)(k:Nat)(d:A)(v:A):Option (A×Option EH):=
 match setO h.b i (.obj k d),fR v with
 |some b,some v=>some (v,some ⟨b,h.t⟩)
 |_,_=>none
theorem bvy{h:EH}{i k:Nat}{d v v':A}{oh:Option EH}(e:turnL h i k d v=some (v',oh)):v'=v∧(oh.getD h).abs tabL=⟨(h.abs tabL).b.set i (tabL k d),(h.abs tabL).t⟩:=by
 unfold turnL at e;split at e
 ·next b v1 e1 e2 =>
  injection e with e;injection e with h1 h2;subst h1;subst h2;exact⟨cvf _ _ e2,czv e1⟩
 ·cases e
def lxE(h:EH)(i:Nat):Option Bs:=
 match h.b[i]? with
 |some (.obj k (.str l))=>bif k.beq 3 then some l else none
 |some (.cells T [.nilp,.sl 0 .nil []])=>bif Nat.beq T 62 then some []else none
 |_=>none
theorem cq7{h:EH}{i:Nat}{l:Bs}(e:lxE h i=some l):Lt (h.abs tabL) i l:=by
 unfold lxE at e;split at e
 ·next k l' hb =>
  cases hk:k.beq 3 with
  |false=>rw[hk]at e;cases e
  |true =>
   rw[hk]at e;injection e with e;subst e;have:=ay3.1 hk;subst this;exact .inl (ak1 hb)
 ·next T hb =>
  cases hk:Nat.beq T 62 with
  |false=>rw[hk]at e;cases e
  |true =>
   rw[hk]at e;injection e with e;subst e;have:=ay3.1 hk;subst this;exact .inr ⟨rfl,ak1 hb⟩
 ·cases e
def eLWrite:EntL where
 f:=20
 run avs h:=match avs with
  | [.ptr i 0,.str s]=>(match lxE h i with
   | some l=>bif (l.length+s.length).ble 1000000000 then (match mapO fU (l++s) with | some m=>turnL h i 3 (.str m) (.tup [.int .i64 s.length,.nili]) | none=>none) else none
   | none=>none)
  |_=>none
 ok avs h v oh e:=by
  split at e
  ·next i s =>
   split at e
   ·next l hw =>
    cases hb:(l.length+s.length).ble 1000000000 with
    |false=>rw[hb]at e;cases e
    |true =>
     rw[hb]at e;simp only[cond_true]at e;split at e
     ·next m hm =>
      obtain⟨rfl,h2⟩:=bvy e;rw[h2,dqp hm];exact bvm (cq7 hw) s (Zae hb)
     ·cases e
   ·cases e
  ·cases e
def eLLen:EntL where
 f:=19
 run avs h:=match avs with
  | [.ptr i 0]=>(match lxE h i with
   | some l=>gate true (.int .i64 l.length)
   | none=>none)
  |_=>none
 ok avs h v oh e:=by
  split at e
  ·split at e
   ·next hw =>
    obtain⟨_,rfl,rfl⟩:=ak0 e;exact ckm (cq7 hw)
   ·cases e
  ·cases e
def eLStr:EntL where
 f:=21
 run avs h:=match avs with
  | [.ptr i 0]=>(match lxE h i with
   | some l=>bif l.isEmpty then none else turnL h i 2 .nilp (.str l)
   | none=>none)
  |_=>none
 ok avs h v oh e:=by
  split at e
  ·split at e
   ·next l hw =>
    cases hl:l.isEmpty with
    |true=>rw[hl]at e;cases e
    |false =>
     rw[hl]at e;obtain⟨rfl,h2⟩:=bvy e;rw[h2];exact cz8 (cq7 hw) (by intro h0;rw[h0]at hl;cases hl)
   ·cases e
  ·cases e
def eClS:EntL where
 f:=111
 run avs h:=match avs with
  |[.sl W0 o []]=>gate true (.sl 1 .no [])
  |_=>none
 ok avs h v oh e:=by
  split at e
  ·obtain⟨_,rfl,rfl⟩:=ak0 e;exact bzi _ _ _
  ·cases e
def eClP:EntL where
 f:=75
 run avs h:=match avs with
  |[.sl W0 o []]=>gate true (.sl 3 .no [])
  |_=>none
 ok avs h v oh e:=by
  split at e
  ·obtain⟨_,rfl,rfl⟩:=ak0 e;exact bze _ _ _
  ·cases e
def libL:List EntL:=eLWrite::eLLen::eLStr::eClS::eClP::libP
theorem dqw(h:Hp):AT 5 [] h (.bool true):=
 pcall (eval (tab:=tabL) mixedT libL [62,6] 100000 (h:=⟨[],[]⟩) (by kernel_rfl)) rfl rfl h
end AX
end Go.Proofs.YtdgcbckcameggadGreatDoor

namespace Go.Proofs.YtdgcbckcameggadGreatDoor
open Go.RowKit Go.ChangeShapes Go.WideShapes
def Jr.bulkD(r:Jr):Nat:=r.toD.bulk
namespace AX
section
variable {H:Type} {enc:TypeId×Value→H} {w:World} {base:Nat} {spare:Nat→Bool} {held:Bool} {r:Reach} {b0:Nat} {v:Value} {d:DataW H} {p:List MemPlace}
end
structure JrOk(r:Jr):Prop where
 fit:JrFit r
 len:JrLen r
 st:Sf.Fit r.base
theorem dqo{r:Jr}(hw:r.Wf)(hb:r.toD.bulk≤1048576):JrOk r:=by
 have hf:=cke hw hb;have hi:=Sf.instE_bulk 2 r.after;unfold Jr.toD at hb;simp only[D.bulk,D.bulks]at hb;obtain⟨s1,s2,s3,s4,s5,s6,s7,s8⟩:=hf.strs;refine⟨hf,⟨?_,by omega,s4,hf.few.inn.lens⟩,Sf.fit_of hw.base (by omega)⟩;have n1:=aj8 r.step;have n2:=aj8 r.op;have e1:=aq2 r.addr;have e2:=aq2 r.dep;have e3:=aq2 r.typ;unfold Jr.stepE;simp only[Za];omega
theorem JrOk.encP{r:Jr}(ok:JrOk r):∀ h,AT 13 [.agg r.cells] h (.tup [.str (Jr.enc r).1,.int .i64 (Jr.enc r).2]):=
 bqm r ok.len ok.fit.few.inn.deps (ax5 r.base ok.st.sin) fun hz=>⟨Sf.stOk_of hz ok.st.sin,ok.st.len 2⟩
theorem JrOk.encQ{r:Jr}(ok:JrOk r):∀ h,AT 18 [.agg r.cells] h (.tup [.str (Jr.enc r).1,.int .i64 (Jr.enc r).2]):=
 byz r ok.len ok.fit.few.inn.deps ok.st.sin ok.st.tin fun _=>ok.st.len 2
theorem bki(r:Jr):(Jr.enc r).1.length≤1048576:=by
 unfold Jr.enc;split
 ·simp
 split
 ·simp
 split
 ·simp
 ·dsimp only;omega
theorem JrOk.baseOk{r:Jr}(ok:JrOk r)(h:(Jr.enc r).2=0):Jr.BaseOk r:=fun k=>by
 have hv:=(Jr.enc_ok h).1;have he:(Sf.encode 2 r.base).2=0:=by
  by_cases e:(Sf.encode 2 r.base).2=0
  ·exact e
  ·unfold Jr.enc at h;rw[if_neg (by rw[hv];decide),if_pos ⟨k,e⟩]at h;exact h
 have hz:Sf.checkZ r.base=0:=by
  by_cases z:Sf.checkZ r.base=0
  ·exact z
  ·unfold Sf.encode at he;rw[if_pos z]at he;exact he
 have hg:(Sf.stE 2 r.base).length≤1048572:=by
  by_cases g:1048572<(Sf.stE 2 r.base).length
  ·unfold Sf.encode at he;rw[if_neg (by simp[hz]),if_pos g]at he;exact absurd (show(3:Int)=0 from he) (by decide)
  ·omega
 obtain⟨d1,d2⟩:=Sf.decode_enc 2 (.inr rfl) r.base hz ok.st.sin ok.st.tin hg;rw[show Sf.oldS 2 r.base=r.base from if_pos rfl]at d2;rw[d1];refine⟨d2,?_⟩;show(Crc.app _).length≤_
 simp[Crc.app,Crc.four_length];omega
end AX
end Go.Proofs.YtdgcbckcameggadGreatDoor

namespace Go.Proofs.YtdgcbckcameggadGreatDoor
open Go.RowKit
namespace AX
theorem cym(h:Hp):AC 6 [] h fun v h'=>v=.ptr h.b.length 0∧h'=⟨h.b++[.cells 62 [.nilp,.sl 0 .nil []]],h.t⟩:=by
 refine fo ?_;refine azb ti ?_;exact⟨_,le_refl _,rfl,rfl⟩
theorem czr{h:Hp}{i:Nat}{l:List UInt8}(hw:Lt h i l)(h0:l≠[]):AC 9 [.ptr i 0] h fun v h'=>v=.str l∧h'=⟨h.b.set i (lwt l),h.t⟩:=by
 have hi:=hw.lt;refine fo ?_;refine azb ti ?_;refine use (bwu hw h0) ?_;refine azb ti ?_;exact⟨_,le_refl _,rfl,rfl⟩
theorem avr(h:Hp):AT 9 [.nilp] h (.str []):=by
 refine fo ?_;refine azb ti ?_;exact⟨_,le_refl _,rfl,rfl⟩
theorem bzs(r:Jr)(h:Hp):AT 8 [.nilp,.agg r.cells] h (.int .i64 38):=by
 refine pcall ?_ rfl (by
  obtain⟨kd,⟨lin,ser,ins,ps,os⟩,st,op,ad,dp,ty,tk,er,⟨a1,a2,a3,a4,⟨k,nn,ss,is,ks⟩,v,tn,fi,ds⟩⟩:=r
  simp[A.pure,A.data,Jr.cells,Sf.Inst.cells]) h
 refine fo ?_;obtain⟨kd,⟨lin,ser,ins,ps,os⟩,st,op,ad,dp,ty,tk,er,⟨a1,a2,a3,a4,⟨k,nn,ss,is,ks⟩,v,tn,fi,ds⟩⟩:=r;simp only[Jr.cells,Sf.Inst.cells,Zl,Zi];refine azb ti ?_;exact⟨_,le_refl _,rfl⟩
end AX
namespace Jr
open Sf (Rs rd numS strS flagS cntS Took)
theorem zeroI_lens:zeroI.attrs.lens:=Val.zero_lens
theorem stepJ_le(s:Rs)(x:Jr):(stepJ s x).1.r.rest.length≤s.r.rest.length:=
 Zn (Sf.strS_le _) (Zn (Sf.strS_le _) (Zn (Sf.strS_le _) (Zn (Sf.numS_le _) (Sf.numS_le _))))
theorem instJ_lens(s:Rs)(hs:s.r.rest.length≤100000000):(instJ s).2.attrs.lens:=by
 have e1:=Sf.strS_le s;have e2:=Sf.strS_le (strS s).1;have e3:=Sf.strS_le (strS (strS s).1).1;have e4:=Sf.strS_le (strS (strS (strS s).1).1).1;have lv:=AX.ajo (strS (strS (strS (strS s).1).1).1).1.r (by omega);unfold instJ;dsimp only;split
 ·exact zeroI_lens
 ·split
  ·exact zeroI_lens
  ·exact lv
theorem recJ_lens(l:List UInt8)(hl:l.length≤100000000):(recJ l).1.after.attrs.lens:=by
 have e0:=Sf.numS_le (rd l);have e0':(rd l).r.rest.length=l.length:=rfl;unfold recJ;dsimp only;obtain⟨q,hq⟩:=Ex (numS (rd l));rw[hq]at e0 ⊢;unfold partJ;dsimp only;split
 ·exact zeroI_lens
 ·split
  ·exact zeroI_lens
  ·split
   ·exact instJ_lens _ (Zn (stepJ_le q.1 _) (by omega))
   ·split
    ·exact instJ_lens _ (Zn (Sf.numS_le _) (Zn (stepJ_le q.1 _) (by omega)))
    ·exact zeroI_lens
theorem wordsE_len:∀ ws:List (List UInt8),ws.length≤(Sf.wordsE ws).length
 |[]=>Zy _
 |w::ws=>by
  have ih:=wordsE_len ws;have h1:1≤(Wire.num w.length).length:=by
   have:=AX.cqc (w.length:Int);cases h:Wire.num (w.length:Int)with
   |nil=>exact absurd h this
   |cons a t=>simp
  have:Sf.wordsE (w::ws)=Wire.num w.length++w++Sf.wordsE ws:=by simp[Sf.wordsE,Wire.strE]
  rw[this];simp only[Za,Zh];omega
theorem deps_le(x:Sf.Inst):x.deps.length≤(Sf.instE 2 x).length:=by
 have:=wordsE_len x.deps;unfold Sf.instE;simp only[Za];omega
theorem zero_in:AX.Sf.StIn Sf.zero:=⟨by decide,by simp[Sf.zero],by simp[Sf.zero],by simp[Sf.zero],by decide,by decide,by decide⟩
theorem rec_size{l:List UInt8}{x:Jr}(h:recJ l=(x,true))(hl:l.length≤2000000) :
  (stepE x).length≤100000000∧(Sf.instE 2 x.after).length≤100000000∧x.tok.length≤2000000∧x.after.attrs.lens∧x.after.deps.length≤1000000000∧AX.Sf.StIn x.base∧(Sf.checkZ x.base=0→AX.Sf.StOk x.base∧(Sf.stE 2 x.base).length+20≤1000000000):=by
 have hlens:x.after.attrs.lens:=by
  have:=recJ_lens l (by omega);rw[h]at this;exact this
 have hz:(Sf.instE 2 zeroI).length≤100:=by decide +kernel
 have hb:AX.Sf.StIn Sf.zero∧(Sf.checkZ Sf.zero=0→AX.Sf.StOk Sf.zero∧(Sf.stE 2 Sf.zero).length+20≤1000000000):=
  ⟨zero_in,fun e=>⟨Sf.stOk_of e zero_in,by decide +kernel⟩⟩
 have hd:=deps_le x.after;have sl:∀ s:List UInt8,s.length≤(Wire.strE s).length:=fun s=>by unfold Wire.strE;rw[Za];omega
 rcases rec_took h with⟨k1,ka,kt,k2,k3,k4,k5,k6,B,kl,kB⟩|⟨k1,kb,ka,kl⟩|⟨k1,kb,kt,kl⟩|⟨k1,kb,kt,kl⟩|k
 ·have hB:B.length≤2000000:=by
   have:=sl B;have:=congrArg List.length kl;simp only[Za]at this;omega
  obtain⟨ver,hver,hvs,hck,henc,hlen,hp1,s0,hs0,hst⟩:=Sf.decode_back kB;have hin:AX.Sf.StIn x.base:=by rw[hst];exact Sf.state_in ver s0 (by omega)
  refine⟨?_,by rw[ka];omega,by rw[kt];decide,hlens,by rw[ka];decide,hin,fun e=>⟨Sf.stOk_of hck hin,?_⟩⟩
  ·unfold stepE;rw[k2,k3,k4,k5,k6];decide +kernel
  ·have hparts:=Sf.check_parts hck;rcases hver with rfl|rfl
   ·have:=Sf.stE_two x.base (hp1 rfl);omega
   ·omega
 ·have:=congrArg List.length kl;simp only[Za]at this;have:=sl x.tok;exact⟨by omega,by rw[ka];omega,by omega,hlens,by rw[ka];decide,by rw[kb];exact hb.1,by rw[kb];exact hb.2⟩
 ·have:=congrArg List.length kl;simp only[Za]at this;exact⟨by omega,by omega,by rw[kt];decide,hlens,by omega,by rw[kb];exact hb.1,by rw[kb];exact hb.2⟩
 ·have:=congrArg List.length kl;simp only[Za]at this;exact⟨by omega,by omega,by rw[kt];decide,hlens,by omega,by rw[kb];exact hb.1,by rw[kb];exact hb.2⟩
 ·generalize x.kind=kd at k;subst k;refine⟨?_,Zn hz (by decide),Zy _,zeroI_lens,Zy _,hb.1,hb.2⟩;have:(stepE zeroR).length≤100000000:=by decide +kernel
  exact this
end Jr
end Go.Proofs.YtdgcbckcameggadGreatDoor

namespace Go.Proofs.YtdgcbckcameggadGreatDoor
open Go.RowKit
namespace AX
theorem byt(b:List UInt8)(hl:b.length≤2000000)(h:Hp) :
  AT 33 [.str b] h (firstA b):=by
 refine cjo b hl (fun x hx h=>?_) h;have ht:(Sf.strS (Sf.rd b)).2.length≤2000000:=Zn (Sf.strS_len (Sf.rd b)) hl;obtain⟨h1,h2,h3,h4,h5,h6,h7⟩:=Jr.rec_size hx ht;exact bqm x ⟨h1,h2,h3,h4⟩ h5 (ax5 x.base h6) h7 h
theorem cjr(rs:List Jr)(n:Int):(A.tup [.sl 26 .no (rs.map Jr.cells),.int .i64 n]).pure=true:=by
 simp[A.pure,A.data]
theorem cqj(b:List UInt8)(hl:b.length≤2000000)(h:Hp) :
  AT 14 [.str b] h (.tup [.sl 26 .no ((Jr.readJ b).1.map Jr.cells),.int .i64 ((Jr.readJ b).2:Nat)]):=by
 refine pcall ?_ (cjr _ _) (by simp[A.pure,A.data]) h;refine fo ?_;refine azb ti ?_;refine azf (fun mm ts h=>∃(a:Nat) (rs:List Jr) (W:Nat) (o:Own) (l:List Blk) (t:List (TypeId×Nat×Nat)),mm=b.length-a∧a≤b.length∧h=⟨l,t⟩∧Jr.readJ b=(rs++(Jr.readJ (b.drop a)).1,a+(Jr.readJ (b.drop a)).2)∧rs.length≤a∧Gs 45 26 0 ⟨[],t⟩ (rs.map Jr.cells) (.sl W o (rs.map Jr.cells))∧ts 0=.str b∧ts 4=.sl W o (rs.map Jr.cells)∧ts 5=.int .i64 (a:Nat)) b.length ?_ ?_
 ·exact⟨0,[],0,.nil,[],[],by omega,by omega,rfl,by simp,by simp,.inl ⟨rfl,rfl⟩,by(exact ev0 ti),by(exact ev0 ti),by(exact azq ti)⟩
 rintro mm ts h ⟨a,rs,W,o,l,t,rfl,ha,rfl,hr,hn,gX,t0,t4,t5⟩;have cf:=byt (b.drop a) (by rw[ZB];omega);have hs:(0:Int)≤(a:Int)∧(a:Int)≤(b.length:Int):=by omega
 cases hF:Jr.firstJ (b.drop a)with
 |none =>
  have hA:firstA (b.drop a)=.tup [.agg Jr.zeroR.cells,.int .i64 0,.bool false]:=by unfold firstA;rw[hF]
  rw[hA]at cf;rw[Jr.readJ_none hF]at hr;simp only[Jr.cells,Jr.zeroR,Jr.zeroI,Sf.zero,Sf.Inst.cells,Zl,Zi]at cf;rw[hr];refine azb (ai t0 (ai t4 (ai t5 hs))) ?_;refine use (cf _) ?_;refine azb (ai t0 (ai t4 (ai t5 hs))) ?_;exact⟨.tup [.sl 26 .no (rs.map Jr.cells),.int .i64 (a:Nat)],⟨Gs.le gX,aqu _,trivial⟩,by simp⟩
 |some p =>
  obtain⟨x,n⟩:=p;have hsm:=Jr.first_some hF;have hA:firstA (b.drop a)=.tup [.agg x.cells,.int .i64 (n:Nat),.bool true]:=by unfold firstA;rw[hF]
  rw[hA]at cf;rw[Jr.readJ_cons hF,YV]at hr;have hlen:n≤b.length-a:=by have:=hsm.2.2;rw[ZB]at this;exact this
  have ei:IntKind.i64.wrap ((a:Int)+(n:Int))=((a+n:Nat):Int):=by rw[wrap64 (by omega) (by omega)];omega
  obtain⟨W',o',t',hX,gX',kX⟩:=gX.grow 376 x.cells (by rw[Zj];omega) (by decide);have em:rs.map Jr.cells++[x.cells]=(rs++[x]).map Jr.cells:=by simp
  rw[em]at gX';simp only[em]at hX;obtain⟨rs2,hrs⟩:=Ex (rs++[x]);have hr2:Jr.readJ b=(rs2++(Jr.readJ (b.drop (a+n))).1,(a+n)+(Jr.readJ (b.drop (a+n))).2):=by
   rw[hr,←hrs,Nat.add_assoc];simp
  have hn2:rs2.length≤a+n:=by rw[←hrs];simp;omega
  rw[hrs]at gX' hX;clear hrs hr em hA hF;have h4:=hsm.2.1;clear hsm;obtain⟨B,hB⟩:∃ B,B=Blk.cells 45 x.cells:=⟨_,rfl⟩;obtain⟨kd,⟨lin,ser,ins,ps,os⟩,st,op,ad,dp,ty,tk,er,⟨a1,a2,a3,a4,⟨k,nn,ss,is,ks⟩,v,tn,fi,ds⟩⟩:=x;simp only[Jr.cells,Sf.Inst.cells,Zl,Zi]at cf hX hB;refine azb (ai t0 (ai t4 (ai t5 hs))) ?_;refine use (cf _) ?_;refine azb (ai t0 (ai t4 (ai t5 (ai hs (ai hX ei))))) ?_;exact⟨b.length-(a+n),by omega,a+n,rs2,W',o',l++[B],t',rfl,by omega,by rw[hB],hr2,hn2,gX',by(exact ev0 t0),by(exact ev0 ti),by(exact ev0 ei)⟩
theorem awu(h:Hp):AT 11 [.nilp] h (.sl 26 .no []):=by
 refine fo ?_;refine azb ti ?_;refine use (avr _) ?_;refine azb ti ?_;refine use (cqj [] (by simp) _) ?_;refine azb ti ?_;exact⟨_,le_refl _,rfl,rfl⟩
end AX
set_option maxRecDepth 100000 in
theorem bwk{F:Nat→Prop}{b cap:Nat}{p:Value}{w:World}(hbk:w.heap[b]?=some (.cells #[p,.slice none 0 cap] 62 (0,0))) :
  Calls Tryz.prog 21 #[.pointer (some ⟨b,0,none⟩)] w fun e w'=>e=.returned (.string .empty)∧w'.heap=w.heap∧Fr F w w':=by
 have c1:w.drew.cell? ⟨b,1,none⟩=some (.slice none 0 cap):=(azt hbk).2.1;have hSD:(Builtin.unsafeSliceData_ #[58] 90 #[.slice none 0 cap]).run Tryz.prog w.drew=.ok (.pointer none) w.drew:=
  Lib.run_unsafeSliceData_nil _ _ _ _ _
 have hUS:(Builtin.unsafeString_ #[90,3] 9 #[.pointer none,.int .i64 0]).run Tryz.prog w.drew=.ok (.string .empty) w.drew:=
  Lib.run_unsafeString_none _ _ _ _ _
 have Hfr:=kept (show w.drew.heap=w.heap∧Fr F w w.drew from⟨rfl,⟨rfl,rfl,rfl,Zf _,fun _ _ _=>rfl⟩⟩);clear hbk;have mixed:=Tryz.lays169.mixed;go_enter Tryz.func21,Tryz.ntmps21;go_wp2
 go_region_o
 all_goals (go_wp2;go_ret;exact⟨rfl,Hfr.out.1,Hfr.out.2⟩)
namespace AX
theorem bw7{h:Hp}{i:Nat}(h1:h.b[i]?=some (.cells 62 [.nilp,.sl 0 .nil []])):AT 21 [.ptr i 0] h (.str []):=by
 intro C es hI ha;obtain⟨c,es',rfl,g1,g2⟩:=repL_cons.1 ha;obtain⟨rfl,hi⟩:=rep_ptr.1 g1;rw[repL_nil]at g2;subst g2;obtain⟨cs,k1,k2⟩:=hI.box i _ h1;obtain⟨c0,d0,rfl,e0,k2⟩:=repL_cons.1 k2;obtain⟨c1,d1,rfl,e1,k2⟩:=repL_cons.1 k2;rw[repL_nil]at k2;subst k2;rw[aqk]at e0;subst e0;obtain⟨a,cap,rfl,f1,f2,e3,e4,e5⟩:=rep_sl.1 e1;subst e3;subst e4;refine(bwk (F:=fun g=>C.own g=some i) k1).mono ?_;rintro e w' ⟨rfl,mh,m2⟩;have hrep:BlkRep (C.turn w' i false) i (.cells 62 [.nilp,.sl 0 .nil []]):=by
  refine⟨[.pointer none,.slice none 0 0],by show w'.heap[C.κ i]?=_;rw[mh];exact k1,repL_cons.2 ⟨_,_,rfl,aqk.2 rfl,repL_cons.2 ⟨_,_,rfl,?_,repL_nil.2 rfl⟩⟩⟩;exact rep_sl.2 ⟨none,0,rfl,f1,by simp[RepRows],by simp[RepOwn]⟩
 obtain⟨i1,s1⟩:=aqp (b':=.cells 62 [.nilp,.sl 0 .nil []]) false hI hi m2.os m2.tape m2.output m2.size (fun g hg hne=>m2.block g hg hne) (fun _=>hrep);have hh:(⟨h.b.set i (.cells 62 [.nilp,.sl 0 .nil []]),h.t⟩:Hp)=h:=by
  have hs:h.b.set i (.cells 62 [.nilp,.sl 0 .nil []])=h.b:=by
   apply List.ext_getElem?;intro j;by_cases e:i=j
   ·subst e;rw[Y9 (by have:=(Zd.1 h1).1;exact this),h1]
   ·rw[Zas e]
  rw[hs]
 rw[hh]at i1;exact⟨_,_,.str [],_,rfl,rfl,i1,s1,rep_str.2 rfl,rfl,rfl⟩
theorem bw4{h:Hp}{i:Nat}(h1:h.b[i]?=some (.cells 62 [.nilp,.sl 0 .nil []])):AT 9 [.ptr i 0] h (.str []):=by
 have hi:i<h.b.length:=(Zd.1 h1).1;refine fo ?_;refine azb ti ?_;refine use (bw7 h1) ?_;refine azb ti ?_;exact⟨_,le_refl _,rfl,rfl⟩
theorem ck6{l:List UInt8}(hl:l.length≤1048576)(r:Jr)(he:(Jr.enc r).1.length≤1048576)(cE:∀ h,AT 13 [.agg r.cells] h (.tup [.str (Jr.enc r).1,.int .i64 (Jr.enc r).2])){h:Hp}{i:Nat}(hb:h.b[i]?=some (lgB l)) :
  AC 8 [.ptr i 0,.agg r.cells] h fun v h'=>v=.int .i64 (Jr.appE l r).2∧h'=⟨h.b.set i (lgB (Jr.appE l r).1),h.t⟩:=by
 have key:AC 8 [.ptr 0 0,.agg r.cells] ⟨[lgB l],[]⟩ fun v h'=>∃ b',h'.b[0]?=some b'∧v=.int .i64 (Jr.appE l r).2∧b'=lgB (Jr.appE l r).1:=
  (bwh (h:=⟨[lgB l],[]⟩) (i:=0) rfl hl r he cE).mono fun v h' ⟨e,h1,_⟩=>⟨_,h1,e,rfl⟩
 refine(ACall.lift1 key (ckn r) (cqn l) ?_ hb).mono ?_
 ·rintro v b' ⟨rfl,rfl⟩;exact⟨rfl,cqn _⟩
 ·rintro v h' ⟨b',⟨rfl,rfl⟩,rfl⟩;exact⟨rfl,rfl⟩
theorem cy1(h:Hp)(i:Nat)(x:Blk)(hb:h.b[i]?=some x):(⟨h.b.set i x,h.t⟩:Hp)=h:=by
 obtain⟨b,t⟩:=h;obtain⟨h1,h2⟩:=Zd.1 hb;have:b.set i x=b:=by rw[←h2];exact List.set_getElem_self h1
 dsimp only;rw[this]
theorem dzd{h:Hp}{i:Nat}{l:List UInt8}(hb:h.b[i]?=some (lgB l)):AT 9 [.ptr i 0] h (.str l):=by
 by_cases h0:l=[]
 ·subst h0;exact bw4 hb
 ·refine(czr (ckf hb) h0).mono ?_;rintro v h' ⟨rfl,rfl⟩;have e:lgB l=lwt l:=if_neg h0;exact⟨rfl,cy1 h i _ (by rw[hb,e])⟩
theorem dqb{h:Hp}{i:Nat}{l:List UInt8}(hb:h.b[i]?=some (lgB l))(hl:l.length≤2000000):AT 11 [.ptr i 0] h (.sl 26 .no ((Jr.readJ l).1.map Jr.cells)):=by
 refine fo ?_;refine azb ti ?_;refine use (dzd hb) ?_;refine azb ti ?_;refine use (cqj l hl _) ?_;refine azb ti ?_;exact⟨_,le_refl _,rfl,rfl⟩
end AX
end Go.Proofs.YtdgcbckcameggadGreatDoor

namespace Go.Proofs.YtdgcbckcameggadGreatDoor
namespace Jr
def logF:List Jr→List UInt8→List Jr→List UInt8×List Jr
 |[],b,ks=>(b,ks)
 |r::rs,b,ks=>logF rs (appE b r).1 (if(appE b r).2=0 then ks++[r]else ks)
theorem logF_cons(r:Jr)(rs:List Jr)(b:List UInt8)(ks:List Jr):logF (r::rs) b ks=logF rs (appE b r).1 (if(appE b r).2=0 then ks++[r]else ks):=rfl
theorem appE_zero{b:List UInt8}{r:Jr}(h:(appE b r).2=0):(enc r).2=0∧(appE b r).1=b++(enc r).1∧b.length+(enc r).1.length≤1048576:=by
 unfold appE at h ⊢;by_cases e:(enc r).2≠0
 ·rw[if_pos e]at h;exact absurd h e
 rw[if_neg e]at h ⊢;by_cases g:1048576<b.length+(enc r).1.length
 ·rw[if_pos g]at h;exact absurd (show(3:Int)=0 from h) (by decide)
 rw[if_neg g];exact⟨by simpa using e,rfl,by omega⟩
theorem appE_not{b:List UInt8}{r:Jr}(h:(appE b r).2≠0):(appE b r).1=b:=by
 unfold appE at h ⊢;by_cases e:(enc r).2≠0
 ·rw[if_pos e]
 rw[if_neg e]at h ⊢;by_cases g:1048576<b.length+(enc r).1.length
 ·rw[if_pos g]
 ·rw[if_neg g]at h;exact absurd rfl h
theorem encs_snoc(ks:List Jr)(r:Jr):encs (ks++[r])=encs ks++(enc r).1:=by simp[encs]
theorem logF_encs:∀(rs:List Jr) (b:List UInt8) (ks:List Jr),b=encs ks→b.length≤1048576→(∀ r∈ks,(enc r).2=0∧BaseOk r)→(∀ r∈rs,(enc r).2=0→BaseOk r) →
  (logF rs b ks).1=encs (logF rs b ks).2∧(logF rs b ks).1.length≤1048576∧∀ r∈(logF rs b ks).2,(enc r).2=0∧BaseOk r
 |[],b,ks,h,hl,hk,_=>⟨h,hl,hk⟩
 |r::rs,b,ks,h,hl,hk,hr=>by
  unfold logF;by_cases e:(appE b r).2=0
  ·obtain⟨e1,e2,e3⟩:=appE_zero e;rw[if_pos e];refine logF_encs rs _ _ (by rw[e2,encs_snoc,←h]) (by rw[e2,Za];exact e3) (fun x hx=>?_) (fun x hx=>hr x (Z5 _ hx));rcases YQ.1 hx with hx|hx
   ·exact hk x hx
   ·rw[YR.1 hx];exact⟨e1,hr r Yg e1⟩
  ·rw[if_neg e,appE_not e];exact logF_encs rs _ _ h hl hk (fun x hx=>hr x (Z5 _ hx))
theorem log_read(rs:List Jr)(hr:∀ r∈rs,(enc r).2=0→BaseOk r):readJ (logF rs [] []).1=((logF rs [] []).2,(logF rs [] []).1.length):=by
 obtain⟨h1,_,h3⟩:=logF_encs rs [] [] rfl (by simp) (by simp) hr;have:=read_encs (logF rs [] []).2 [] h3;rw[Zr]at this;have e0:readJ []=([],0):=rfl;rw[e0,Zr]at this;rw[h1,this];simp
theorem logF_mem:∀(rs:List Jr) (b:List UInt8) (ks:List Jr) (r:Jr),r∈(logF rs b ks).2→r∈ks∨r∈rs
 |[],b,ks,r,h => .inl h
 |x::rs,b,ks,r,h=>by
  unfold logF at h;rcases logF_mem rs _ _ r h with h|h
  ·split at h
   ·rcases YQ.1 h with h|h
    ·exact .inl h
    ·rw[YR.1 h];exact .inr Yg
   ·exact .inl h
  ·exact .inr (Z5 _ h)
end Jr
end Go.Proofs.YtdgcbckcameggadGreatDoor

namespace Go.Proofs.YtdgcbckcameggadGreatDoor
open Go.RowKit
namespace AX
theorem cwa(l:List (List UInt8))(hl:l.length≤1000000000)(h:Hp):AT 87 [.sl 1 .no (strsA l),.sl 1 .no (strsA l)] h (.bool true):=by
 refine pcall ?_ rfl (by simp[A.pure,A.data]) h;refine fo ?_;have li:=aze l;refine azb li ?_;refine azf (fun m ts hh=>hh=⟨[],[]⟩∧∃ i:Nat,m=l.length-i∧i≤l.length∧(ts 0=.sl 1 .no (strsA l)∧ts 1=.sl 1 .no (strsA l)∧ts 5=.int .i64 (i:Nat))) l.length ?_ ?_
 ·exact⟨rfl,0,rfl,Zy _,by(exact azq li)⟩
 rintro m ts hh ⟨rfl,i,rfl,hi,ht⟩;rcases Z4 i l.length with hlt|hge
 ·have hf:(strsA l).length=l.length∧(i:Int)<(l.length:Int)∧(0:Int)≤(i:Int)∧(strsA l).getD i []=[.str l[i]]∧IntKind.i64.wrap ((i:Int)+1)=((i+1:Nat):Int):=axg (fun s:List UInt8=>[A.str s]) l i hlt (by omega);refine azb (ai ht hf) ?_;exact⟨_,by omega,rfl,i+1,rfl,by omega,by(exact azq (ai ht hf))⟩
 ·have hf:¬(i:Int)<(l.length:Int):=by omega
  refine azb (ai ht (ai li hf)) ?_;exact⟨_,le_refl _,rfl⟩
theorem bxp(x:Sf.Inst)(hx:x.attrs.lens)(hd:x.deps.length≤1000000000)(h:Hp):AT 43 [.agg x.cells,.agg x.cells] h (.bool true):=by
 have c1:=bz1 x.attrs x.attrs hx hx;rw[bqw]at c1;have c2:=cwa x.deps hd;obtain⟨a1,a2,a3,a4,⟨k,nn,ss,is,ks⟩,v,tn,fi,ds⟩:=x;simp only[Sf.Inst.cells,Zl,Zi,V.A,V.cells]at *;refine pcall ?_ rfl (by simp[A.pure,A.data]) h;refine fo ?_;refine azx ti (ai c1 (ai c2 ti)) ?_;exact⟨_,le_refl _,rfl⟩
theorem cjh(st:Sf.St)(hin:Sf.StIn st)(h:Hp):AT 42 [st.A,st.A] h (.bool true):=by
 refine pcall ?_ rfl (by simp[A.pure,A.data,Sf.St.A]) h;refine fo ?_;have hli:=hin.li;have hlp:=hin.lp;have hlo:=hin.lo;have hci:=fun x (hx:x∈st.insts)=>bxp x (hin.insts x hx).l (hin.insts x hx).n
 have hco:=fun x (hx:x∈st.outs)=>bz1 x.value x.value (hin.outs x hx).2 (hin.outs x hx).2
 obtain⟨lin,ser,ins,ps,os⟩:=st;simp only[Sf.St.A];dsimp only at hli hlp hlo hci hco;have lm1:(ins.map Sf.Inst.cells).length=ins.length:=Zj _;have lm2:(ps.map Sf.Pend.cells).length=ps.length:=Zj _;have lm3:(os.map Sf.Outp.cells).length=os.length:=Zj _;refine azd (ai lm1 (ai lm2 lm3)) ti ?_;refine azf (fun m ts hh=>hh=⟨[.cells 35 [.str lin,.int .i64 ser,.sl 13 .no (ins.map Sf.Inst.cells),.sl 3 .no (ps.map Sf.Pend.cells),.sl 7 .no (os.map Sf.Outp.cells)],.cells 35 [.str lin,.int .i64 ser,.sl 13 .no (ins.map Sf.Inst.cells),.sl 3 .no (ps.map Sf.Pend.cells),.sl 7 .no (os.map Sf.Outp.cells)]],[]⟩∧∃(i:Nat),m=ins.length-i∧i≤ins.length∧(ts 2=.ptr 0 0∧ts 3=.ptr 1 0∧ts 5=.int .i64 (i:Nat))) ins.length ?_ ?_
 ·exact⟨rfl,0,rfl,Zy _,by(exact azq (ai lm1 (ai lm2 lm3)))⟩
 rintro m ts hh ⟨rfl,i,rfl,hi,ht⟩;rcases Z4 i ins.length with hlt|hge
 ·have hf:=axg Sf.Inst.cells ins i hlt (by omega);have cx:=hci _ (Zp hlt);obtain⟨x,hx⟩:=Ex (ins[i]);rw[hx]at hf cx;obtain⟨a1,a2,a3,a4,⟨k,nn,ss,is,ks⟩,v,tn,fi,ds⟩:=x;simp only[Sf.Inst.cells,Zl,Zi]at hf cx;refine azd (ai ht hf) (ai cx ti) ?_;exact⟨_,by omega,rfl,i+1,rfl,by omega,by(exact azq (ai ht hf))⟩
 have hf:=ajl Sf.Inst.cells ins i hge;refine azd (ai ht hf) ti ?_;refine azf (fun m ts hh=>hh=⟨[.cells 35 [.str lin,.int .i64 ser,.sl 13 .no (ins.map Sf.Inst.cells),.sl 3 .no (ps.map Sf.Pend.cells),.sl 7 .no (os.map Sf.Outp.cells)],.cells 35 [.str lin,.int .i64 ser,.sl 13 .no (ins.map Sf.Inst.cells),.sl 3 .no (ps.map Sf.Pend.cells),.sl 7 .no (os.map Sf.Outp.cells)]],[]⟩∧∃(i:Nat),m=ps.length-i∧i≤ps.length∧(ts 2=.ptr 0 0∧ts 3=.ptr 1 0∧ts 6=.int .i64 (i:Nat))) ps.length ?_ ?_
 ·exact⟨rfl,0,rfl,Zy _,by(exact azq ht)⟩
 clear ht hf hi hge ts i;rintro m ts hh ⟨rfl,i,rfl,hi,ht⟩;rcases Z4 i ps.length with hlt|hge
 ·have hf:=axg Sf.Pend.cells ps i hlt (by omega);obtain⟨x,hx⟩:=Ex (ps[i]);rw[hx]at hf;obtain⟨a1,a2,a3⟩:=x;simp only[Sf.Pend.cells]at hf;refine azd (ai ht hf) ti ?_;exact⟨_,by omega,rfl,i+1,rfl,by omega,by(exact azq (ai ht hf))⟩
 have hf:=ajl Sf.Pend.cells ps i hge;refine azd (ai ht hf) ti ?_;refine azf (fun m ts hh=>∃(i:Nat) (l:List Blk),m=os.length-i∧i≤os.length∧hh=⟨.cells 35 [.str lin,.int .i64 ser,.sl 13 .no (ins.map Sf.Inst.cells),.sl 3 .no (ps.map Sf.Pend.cells),.sl 7 .no (os.map Sf.Outp.cells)] :: .cells 35 [.str lin,.int .i64 ser,.sl 13 .no (ins.map Sf.Inst.cells),.sl 3 .no (ps.map Sf.Pend.cells),.sl 7 .no (os.map Sf.Outp.cells)]::l,[]⟩∧(ts 2=.ptr 0 0∧ts 3=.ptr 1 0∧ts 7=.int .i64 (i:Nat))) os.length ?_ ?_
 ·exact⟨0,[],rfl,Zy _,rfl,by(exact azq ht)⟩
 clear ht hf hi hge ts i;rintro m ts hh ⟨i,l,rfl,hi,rfl,ht⟩;rcases Z4 i os.length with hlt|hge;rotate_left
 ·have hf:=ajl Sf.Outp.cells os i hge;refine azd (ai ht hf) ti ?_;exact⟨_,le_refl _,rfl⟩
 have hf:=axg Sf.Outp.cells os i hlt (by omega);have cx:=hco _ (Zp hlt);rw[bqw]at cx;obtain⟨x,hx⟩:=Ex (os[i]);rw[hx]at hf cx;obtain⟨a1,⟨k,nn,ss,is,ks⟩,b1⟩:=x;simp only[Sf.Outp.cells,V.A,V.cells,Zl,Zi]at hf cx;refine azd (ai ht hf) (ai cx ti) ?_;refine cyb 10 (by decide +kernel) ?_ ?_;all_goals simp only[edgeA,swapA,akl,swN,aR,aF,aL,aM,ZH,Yn,reduceIte,Nat.reduceEqDiff,Nat.reduceAdd]
 ·refine azd (ai ht hf) (ai cx ti) ?_;exact⟨_,by omega,i+1,_,rfl,by omega,rfl,by(exact azq (ai ht hf))⟩
 ·refine azd (ai ht hf) (ai cx ti) ?_;exact⟨_,by omega,i+1,_,rfl,by omega,rfl,by(exact azq (ai ht hf))⟩
def fewJ(l:List Jr):Bool:=(l.take 41).all lightB&&decide (l.length≤40)
theorem dzh(l:List Jr)(hin:∀ a∈l,JrFit a)(hl:l.length≤1000000000)(h:Hp):AT 4 [.sl 26 .no (l.map Jr.cells)] h (.bool (fewJ l)):=by
 refine pcall ?_ rfl (by simp[A.pure,A.data]) h;refine fo ?_;obtain⟨q,hq⟩:=Ex (fewJ l);rw[hq];unfold fewJ at hq;have e40:decide ((l.length:Int)≤40)=decide (l.length≤40):=by rw[decide_eq_decide];omega
 have lt41:(l.take 41).length=min 41 l.length:=ZT;have li:(l.map Jr.cells).length=l.length:=Zj _;refine azb ti ?_;refine azf (fun m ts hh=>hh=⟨[],[]⟩∧∃ i:Nat,m=l.length-i∧i≤l.length∧i≤41∧((l.take 41).drop i).all lightB=(l.take 41).all lightB∧(ts 0=.sl 26 .no (l.map Jr.cells)∧ts 3=.int .i64 (i:Nat))) l.length ?_ ?_
 ·exact⟨rfl,0,rfl,Zy _,by omega,rfl,by(exact azq ti)⟩
 rintro m ts hh ⟨rfl,i,rfl,hi,h41,heq,ht⟩;have fin:l.length≤i∨41≤i→(l.take 41).all lightB=true:=fun hc=>by
  rw[←heq,Zw (by omega)];rfl
 rcases Z4 i l.length with hlt|hge;rotate_left
 ·have hf:=ajl Jr.cells l i hge;rw[fin (.inl hge),Zx]at hq;refine azd (ai ht hf) ti ?_;exact⟨_,le_refl _,by rw[azj,←hq,e40]⟩
 have hf:=axg Jr.cells l i hlt (by omega);rcases Z4 i 41 with h3|h3;rotate_left
 ·have g3:¬(i:Int)≤40:=by omega
  rw[fin (.inr h3),Zx]at hq;refine azd (ai ht (ai hf g3)) ti ?_;exact⟨_,le_refl _,by rw[azj,←hq,e40]⟩
 have g3:(i:Int)≤40:=by omega
 have hlt':i<(l.take 41).length:=by omega
 rw[bqa _ _ _ hlt',List.getElem_take]at heq;have hc:=cvx l[i] (hin _ (Zp hlt));obtain⟨a,ha⟩:=Ex (l[i]);rw[ha]at hf heq hc;obtain⟨b,hb⟩:=Ex (lightB a);rw[hb]at heq hc;have no:(l.take 41).all lightB=false→q=false:=fun e=>by rw[←hq,e];rfl
 clear hb ha;obtain⟨kd,⟨lin,ser,ins,ps,os⟩,st,op,ad,dp,ty,tk,er,⟨a1,a2,a3,a4,⟨k,nn,ss,is,ks⟩,v,tn,fi,ds⟩⟩:=a;simp only[Jr.cells,Sf.Inst.cells,Zl,Zi]at hf hc;cases b with
 |false =>
  rw[no (by rw[←heq];rfl)];refine azd (ai ht (ai hf g3)) (ai hc ti) ?_;exact⟨_,le_refl _,rfl⟩
 |true =>
  refine azd (ai ht (ai hf g3)) (ai hc ti) ?_;exact⟨_,by omega,rfl,i+1,rfl,by omega,by omega,by rw[←heq,Zx],by(exact azq (ai ht hf))⟩
theorem cya(x:Jrs)(k:((∀ a∈x.l,a.Wf)∧x.l.length≤maxLen)∧x.bulkD≤1048576):(∀ a∈x.l,JrFit a)∧x.l.length≤1000000000:=by
 have hm:=aqt Jr.toD x.l;have h3:D.bulks (x.l.map Jr.toD)≤1048576:=k.2;exact⟨fun a ha=>cke (k.1.1 a ha) (Zn (hm.2 a ha) h3),by have:=hm.1;omega⟩
theorem ck1(r:Jr)(hf:JrIn r)(h:Hp):AT 22 [.agg r.cells,.agg r.cells] h (.bool true):=by
 have c1:=cjh r.base hf.base;have c2:=bxp r.after hf.lens hf.deps;clear hf;obtain⟨kd,⟨lin,ser,ins,ps,os⟩,st,op,ad,dp,ty,tk,er,⟨a1,a2,a3,a4,⟨k,nn,ss,is,ks⟩,v,tn,fi,ds⟩⟩:=r;simp only[Jr.cells,Sf.Inst.cells,Zl,Zi,Sf.St.A]at *;refine pcall ?_ rfl (by simp[A.pure,A.data]) h;refine fo ?_;refine azx ti (ai c1 (ai c2 ti)) ?_;exact⟨_,le_refl _,rfl⟩
theorem dzg(l:List Jr)(hin:∀ r∈l,JrIn r)(hl:l.length≤1000000000)(h:Hp):AT 10 [.sl 26 .no (l.map Jr.cells),.sl 26 .no (l.map Jr.cells)] h (.bool true):=by
 refine pcall ?_ rfl (by simp[A.pure,A.data]) h;refine fo ?_;have li:(l.map Jr.cells).length=l.length:=Zj _;refine azb li ?_;refine azf (fun m ts hh=>hh=⟨[],[]⟩∧∃ i:Nat,m=l.length-i∧i≤l.length∧(ts 0=.sl 26 .no (l.map Jr.cells)∧ts 1=.sl 26 .no (l.map Jr.cells)∧ts 5=.int .i64 (i:Nat))) l.length ?_ ?_
 ·exact⟨rfl,0,rfl,Zy _,by(exact azq li)⟩
 rintro m ts hh ⟨rfl,i,rfl,hi,ht⟩;rcases Z4 i l.length with hlt|hge
 ·have hf:=axg Jr.cells l i hlt (by omega);have cx:=ck1 _ (hin _ (Zp hlt));obtain⟨x,hx⟩:=Ex (l[i]);rw[hx]at hf cx;obtain⟨kd,⟨lin,ser,ins,ps,os⟩,st,op,ad,dp,ty,tk,er,⟨a1,a2,a3,a4,⟨k,nn,ss,is,ks⟩,v,tn,fi,ds⟩⟩:=x;simp only[Jr.cells,Sf.Inst.cells,Zl,Zi]at hf cx;refine azx (ai ht hf) (ai cx ti) ?_;exact⟨_,by omega,rfl,i+1,rfl,by omega,by(exact azq (ai ht hf))⟩
 ·have hf:=ajl Jr.cells l i hge;refine azb (ai ht hf) ?_;exact⟨_,le_refl _,rfl⟩
theorem dzt(l:List Jr)(ok:∀ a∈l,JrOk a)(hl:l.length≤1000000000) :
  AC 3 [.sl 26 .no (l.map Jr.cells)] ⟨[],[]⟩ fun r _=>r=.bool true:=by
 have cf:=dzh l (fun a ha=>(ok a ha).fit) (by omega);have aw:=dqw;obtain⟨b,hb⟩:=Ex (fewJ l);rw[hb]at cf;refine fo ?_;cases b
 ·refine azx ti (ai cf (ai aw ti)) ?_;exact⟨_,le_refl _,rfl⟩
 have hl40:l.length≤40:=by
  unfold fewJ at hb;rw[Zc,Zq]at hb;exact hb.2
 have li:(l.map Jr.cells).length=l.length:=Zj _;refine azx ti (ai cf ti) ?_;refine use (cym _) ?_;refine azb ti ?_
 refine azf (fun m ts hh=>∃(i:Nat) (b:List UInt8) (ks:List Jr) (W:Nat) (o:Own) (l':List Blk) (t:List (TypeId×Nat×Nat)),m=l.length-i∧i≤l.length∧hh=⟨lgB b::l',t⟩∧Jr.logF (l.drop i) b ks=Jr.logF l [] []∧b.length≤1048576∧ks.length≤i∧Gs 45 26 0 ⟨[],t⟩ (ks.map Jr.cells) (.sl W o (ks.map Jr.cells)) ∧
  (ts 0=.sl 26 .no (l.map Jr.cells)∧ts 3=.ptr 0 0∧ts 4=.str b∧ts 5=.sl W o (ks.map Jr.cells)∧ts 6=.int .i64 (i:Nat))) l.length ?_ ?_
 ·exact⟨0,[],[],0,.nil,[],[],by omega,by omega,rfl,rfl,by simp,by simp,.inl ⟨rfl,rfl⟩,by(exact azq ti)⟩
 rintro m ts hh ⟨i,b,ks,W,o,l',t,rfl,hi,rfl,hF,hbl,hkl,gX,ht⟩;rcases Z4 i l.length with hlt|hge
 ·have hf:=axg Jr.cells l i hlt (by omega);have okr:=ok _ (Zp hlt);rw[Zo hlt,Jr.logF_cons]at hF;obtain⟨r,hr⟩:=Ex (l[i]);rw[hr]at hf okr hF;have cQ:=cq0 b hbl r (bki r) okr.encQ;have cA:=fun l' t=>ck6 hbl r (bki r) okr.encP (h:=⟨lgB b::l',t⟩) (i:=0) rfl
  simp only[Yc]at cA;have hz:=fun h=>Jr.appE_zero (b:=b) (r:=r) h
  have hn:=fun h=>Jr.appE_not (b:=b) (r:=r) h
  obtain⟨⟨b',e⟩,hE⟩:=Ex (Jr.appE b r);rw[hE]at cQ cA hF hz hn;dsimp only at cQ cA hF hz hn;obtain⟨W',o',t',hX,gX',kX⟩:=gX.grow 376 r.cells (by rw[Zj];omega) (by decide);have em:ks.map Jr.cells++[r.cells]=(ks++[r]).map Jr.cells:=by simp
  rw[em]at gX';simp only[em]at hX;obtain⟨ks2,hks⟩:=Ex (ks++[r]);have hkl2:ks2.length≤i+1:=by rw[←hks];simp;omega
  rw[hks]at gX' hX hF;have hbl':b'.length≤1048576:=by
   by_cases e0:e=0
   ·obtain⟨_,h2,h3⟩:=hz e0;rw[h2,Za];exact h3
   ·rw[hn e0];exact hbl
  clear hks em hE hz hn okr hr;obtain⟨kd,⟨lin,ser,ins,ps,os⟩,st,op,ad,dp,ty,tk,er,⟨a1,a2,a3,a4,⟨k,nn,ss,is,ks'⟩,v,tn,fi,ds⟩⟩:=r;simp only[Jr.cells,Sf.Inst.cells,Zl,Zi]at hf cQ cA hX;by_cases e0:e=0
  ·subst e0;rw[if_pos rfl]at hF;refine azx (ai ht (ai hf hX)) (ai cQ (ai cA ti)) ?_;exact⟨_,by omega,i+1,b',ks2,W',o',_,t',rfl,by omega,rfl,hF,hbl',hkl2,gX',by(exact azq (ai ht (ai hf hX)))⟩
  ·have e1:(e==0)=false:=by simp[e0]
   rw[if_neg e0]at hF;refine azx (ai ht (ai hf e1)) (ai cQ (ai cA ti)) ?_;exact⟨_,by omega,i+1,b',ks,W,o,_,t,rfl,by omega,rfl,hF,hbl',by omega,gX,by(exact azq (ai ht hf))⟩
 have hf:=ajl Jr.cells l i hge;rw[Zw hge]at hF;have hF:(b,ks)=Jr.logF l [] []:=hF;have hbk:∀ r∈l,(Jr.enc r).2=0→Jr.BaseOk r:=fun r hr h=>(ok r hr).baseOk h
 have hrd:=Jr.log_read l hbk;have hmem:=Jr.logF_mem l [] [];rw[←hF]at hrd hmem;dsimp only at hrd hmem;have cB:=fun l' t=>dzd (l:=b) (h:=⟨lgB b::l',t⟩) (i:=0) rfl
 have cR:=fun l' t=>dqb (l:=b) (h:=⟨lgB b::l',t⟩) (i:=0) rfl (by omega)
 rw[hrd]at cR;dsimp only at cR;have cL:∀ h,AT 10 [.sl 26 .no (ks.map Jr.cells),.sl W o (ks.map Jr.cells)] h (.bool true):=fun h=>ACall.args (as':=[.sl 26 .no (ks.map Jr.cells),.sl 26 .no (ks.map Jr.cells)]) ⟨aqu _,Gs.le gX,trivial⟩ (dzg ks (fun r hr=>(ok r ((hmem r hr).resolve_left (by simp))).fit.few.inn) (by omega) h)
 have cN:∀ h,AT 8 [.nilp,.agg [.int .i64 5,.str [],.int .i64 0,.sl 0 .nil [],.sl 0 .nil [],.sl 0 .nil [],.int .i64 0,.int .i64 0,.str [],.str [],.str [],.str [],.int .i64 0,.str [],.str [],.str [],.str [],.int .i64 0,.int .i64 0,.str [],.sl 0 .nil [],.sl 0 .nil [],.int .i64 0,.bool false,.bool false,.sl 0 .nil []]] h (.int .i64 38):=fun h=>ACall.args (as':=[.nilp,.agg (Jr.cells ⟨5,Sf.zero,0,0,[],[],[],[],0,Jr.zeroI⟩)]) ⟨aqu _,cyx 5 0 0 [] [] [] [],trivial⟩ (bzs ⟨5,Sf.zero,0,0,[],[],[],[],0,Jr.zeroI⟩ h)
 have cM:=avr;have cO:=awu;have e2:(b==b)=true:=by simp
 have e3:(((0:Nat):Int)==0)=true:=rfl;have e4:(((([]:List (List A)).length:Nat):Int)==0)=true:=rfl;refine azx (ai ht (ai hf (ai e2 (ai e3 e4)))) (ai cB (ai cR (ai cL (ai cN (ai cM (ai cO (ai aw ti))))))) ?_;exact⟨_,le_refl _,rfl⟩
theorem cw8(x:Jrs)(k:((∀ a∈x.l,a.Wf)∧x.l.length≤maxLen)∧x.bulkD≤1048576) :
  AC 3 [.sl 26 .no (x.l.map Jr.cells)] ⟨[],[]⟩ fun r _=>r=.bool true:=by
 have hm:=aqt Jr.toD x.l;have h3:D.bulks (x.l.map Jr.toD)≤1048576:=k.2;exact dzt x.l (fun a ha=>dqo (k.1.1 a ha) (Zn (hm.2 a ha) h3)) (cya x k).2
end AX
end Go.Proofs.YtdgcbckcameggadGreatDoor
