/- Part of what the proof needs. -/
import Derived.Test.YtnghhnahdjjpkaaGreatDoorMFrRecoveryReplaysUpto0
import Derived.Test.YtnghhnahdjjpkaaGreatDoorMFrRecoveryReplaysUptoF
import Derived.Test.YtnghhnahdjjpkaaGreatDoorMFrRecoveryReplaysUptoM
import Derived.Test.YtnghhnahdjjpkaaGreatDoorMFrRecoveryReplaysUptoP
import Derived.Test.YtnghhnahdjjpkaaGreatDoorMFrRecoveryReplaysUptoQ
import Derived.Test.YtnghhnahdjjpkaaGreatDoorMFrRecoveryReplaysUptoR
import Derived.Test.YtnghhnahdjjpkaaGreatDoorMFrRecoveryReplaysUptoS
import Derived.Test.YtnghhnahdjjpkaaGreatDoorMFrRecoveryReplaysUptoU
import Derived.Test.YtnghhnahdjjpkaaGreatDoorMFrRecoveryReplaysUptoX
set_option maxHeartbeats 4000000
set_option maxRecDepth 100000
set_option linter.all false
namespace Go.Proofs.YtnghhnahdjjpkaaGreatDoor
section
open Go.RowKit
namespace AX
def byl:AX.AFn:=⟨26,aS [aR 4 (.mv (.c (.bool false)))] (.seq (aS [aM 6 0,aR 7 (.len false (.t 6)),aM 8 1,aR 9 (.len false (.t 8)),aR 10 (.bin .neq (.t 7) (.t 9))] (.cond (.t 10) (aS [aR 4 (.mv (.c (.bool false)))] (.ret)) (.skip))) (.seq (aS [aR 5 (.mv (aI 0))] (.block 0 (.loop (.seq (aS [aM 11 5,aM 12 0,aR 13 (.len false (.t 12)),aR 14 (.bin .lss (.t 11) (.t 13))] (.cond (.t 14) (.skip) (.exit 0))) (.seq (.block 1 (.seq (.reg true [aM 17 0,aM 18 5,⟨some 19,.iaddr 1 (.t 17) (.t 18),none,[0,1]⟩,⟨some 20,.load false 1 (.t 19),none,[2]⟩,aM 21 1,aM 22 5,⟨some 23,.iaddr 1 (.t 21) (.t 22),none,[4,5]⟩,⟨some 24,.load false 1 (.t 23),none,[6]⟩,⟨some 25,.bin .neq (.t 20) (.t 24),none,[3,7]⟩]) (.cond (.t 25) (aS [aR 4 (.mv (.c (.bool false)))] (.ret)) (.skip)))) (.reg false [aM 15 5,aR 16 (.bin .add (.t 15) (aI 1)),aM 5 16])))))) (aS [aR 4 (.mv (.c (.bool true)))] (.ret)))),[.t 4]⟩
theorem djf:AX.compFn Tryz.prog 52=some byl:=by kernel_rfl
theorem dx7(l:List (List UInt8))(hl:l.length≤1000000000)(h:Hp):AT 52 [.sl 1 .no (strsA l),.sl 1 .no (strsA l)] h (.bool true):=by
 refine pcall ?_ rfl (by simp[A.pure,A.data]) h;refine azb mixedT djf (by simp[byl]) ?_;dsimp only[byl];have li:=azh l;refine azf li ?_;refine azd (fun m ts hh=>hh=⟨[],[]⟩∧∃i:Nat,m=l.length-i∧i≤l.length∧(ts 0=.sl 1 .no (strsA l)∧ts 1=.sl 1 .no (strsA l)∧ts 5=.int .i64 (i:Nat))) l.length ?_ ?_
 ·exact⟨rfl,0,rfl,Zq _,by(exact azo li)⟩
 rintro m ts hh ⟨rfl,i,rfl,hi,ht⟩;rcases Zr i l.length with hlt|hge
 ·have hf:(strsA l).length=l.length∧(i:Int)<(l.length:Int)∧(0:Int)≤(i:Int)∧(strsA l).getD i []=[.str l[i]]∧IntKind.i64.wrap ((i:Int)+1)=((i+1:Nat):Int):=azp (fun s:List UInt8=>[A.str s]) l i hlt (by omega);refine azf (ai ht hf) ?_;exact⟨_,by omega,rfl,i+1,rfl,by omega,by(exact azo (ai ht hf))⟩
 ·have hf:¬(i:Int)<(l.length:Int):=by omega
  refine azf (ai ht (ai li hf)) ?_;exact Fn rfl
theorem cw4(x:Sf.Inst)(hx:x.attrs.lens)(hd:x.deps.length≤1000000000)(h:Hp):AT 23 [.agg x.cells,.agg x.cells] h (.bool true):=by
 have c1:=bxw x.attrs x.attrs hx hx;rw[bvw]at c1;have c2:=dx7 x.deps hd;obtain⟨a1,a2,a3,a4,⟨k,nn,ss,is,ks⟩,v,tn,fi,ds⟩:=x;simp only[Sf.Inst.cells,Zd,Zg,V.A,V.cells]at *;refine pcall ?_ rfl (by simp[A.pure,A.data]) h;refine fo ?_;refine aze ti (ai c1 (ai c2 ti)) ?_;exact Fn rfl
structure EqIn(s:Sf.St):Prop where
 li:s.insts.length≤1000000000
 lp:s.pends.length≤1000000000
 lo:s.outs.length≤1000000000
 insts:∀x∈s.insts,x.attrs.lens∧x.deps.length≤1000000000
 outs:∀x∈s.outs,x.value.lens
theorem cvy(st:Sf.St)(hin:EqIn st)(h:Hp):AT 8 [st.A,st.A] h (.bool true):=by
 refine pcall ?_ rfl (by simp[A.pure,A.data,Sf.St.A]) h;refine fo ?_;have hli:=hin.li;have hlp:=hin.lp;have hlo:=hin.lo;have hci:=fun x (hx:x∈st.insts)=>cw4 x (hin.insts x hx).1 (hin.insts x hx).2
 have hco:=fun x (hx:x∈st.outs)=>bxw x.value x.value (hin.outs x hx) (hin.outs x hx)
 obtain⟨lin,ser,ins,ps,os⟩:=st;simp only[Sf.St.A];dsimp only at hli hlp hlo hci hco;have lm1:(ins.map Sf.Inst.cells).length=ins.length:=Zj _;have lm2:(ps.map Sf.Pend.cells).length=ps.length:=Zj _;have lm3:(os.map Sf.Outp.cells).length=os.length:=Zj _;refine azc (ai lm1 (ai lm2 lm3)) ti ?_;refine azd (fun m ts hh=>hh=⟨[.cells 26 [.str lin,.int .i64 ser,.sl 13 .no (ins.map Sf.Inst.cells),.sl 3 .no (ps.map Sf.Pend.cells),.sl 7 .no (os.map Sf.Outp.cells)],.cells 26 [.str lin,.int .i64 ser,.sl 13 .no (ins.map Sf.Inst.cells),.sl 3 .no (ps.map Sf.Pend.cells),.sl 7 .no (os.map Sf.Outp.cells)]],[]⟩∧∃(i:Nat),m=ins.length-i∧i≤ins.length∧(ts 2=.ptr 0 0∧ts 3=.ptr 1 0∧ts 5=.int .i64 (i:Nat))) ins.length ?_ ?_
 ·exact⟨rfl,0,rfl,Zq _,by(exact azo (ai lm1 (ai lm2 lm3)))⟩
 rintro m ts hh ⟨rfl,i,rfl,hi,ht⟩;rcases Zr i ins.length with hlt|hge
 ·have hf:=azp Sf.Inst.cells ins i hlt (by omega);have cx:=hci _ (Zp hlt);obtain⟨x,hx⟩:=Ex (ins[i]);rw[hx]at hf cx;obtain⟨a1,a2,a3,a4,⟨k,nn,ss,is,ks⟩,v,tn,fi,ds⟩:=x;simp only[Sf.Inst.cells,Zd,Zg]at hf cx;refine azc (ai ht hf) (ai cx ti) ?_;exact⟨_,by omega,rfl,i+1,rfl,by omega,by(exact azo (ai ht hf))⟩
 have hf:=azq Sf.Inst.cells ins i hge;refine azc (ai ht hf) ti ?_;refine azd (fun m ts hh=>hh=⟨[.cells 26 [.str lin,.int .i64 ser,.sl 13 .no (ins.map Sf.Inst.cells),.sl 3 .no (ps.map Sf.Pend.cells),.sl 7 .no (os.map Sf.Outp.cells)],.cells 26 [.str lin,.int .i64 ser,.sl 13 .no (ins.map Sf.Inst.cells),.sl 3 .no (ps.map Sf.Pend.cells),.sl 7 .no (os.map Sf.Outp.cells)]],[]⟩∧∃(i:Nat),m=ps.length-i∧i≤ps.length∧(ts 2=.ptr 0 0∧ts 3=.ptr 1 0∧ts 6=.int .i64 (i:Nat))) ps.length ?_ ?_
 ·exact⟨rfl,0,rfl,Zq _,by(exact azo ht)⟩
 clear ht hf hi hge ts i;rintro m ts hh ⟨rfl,i,rfl,hi,ht⟩;rcases Zr i ps.length with hlt|hge
 ·have hf:=azp Sf.Pend.cells ps i hlt (by omega);obtain⟨x,hx⟩:=Ex (ps[i]);rw[hx]at hf;obtain⟨a1,a2,a3⟩:=x;simp only[Sf.Pend.cells]at hf;refine azc (ai ht hf) ti ?_;exact⟨_,by omega,rfl,i+1,rfl,by omega,by(exact azo (ai ht hf))⟩
 have hf:=azq Sf.Pend.cells ps i hge;refine azc (ai ht hf) ti ?_;refine azd (fun m ts hh=>∃(i:Nat) (l:List Blk),m=os.length-i∧i≤os.length∧hh=⟨.cells 26 [.str lin,.int .i64 ser,.sl 13 .no (ins.map Sf.Inst.cells),.sl 3 .no (ps.map Sf.Pend.cells),.sl 7 .no (os.map Sf.Outp.cells)] :: .cells 26 [.str lin,.int .i64 ser,.sl 13 .no (ins.map Sf.Inst.cells),.sl 3 .no (ps.map Sf.Pend.cells),.sl 7 .no (os.map Sf.Outp.cells)]::l,[]⟩∧(ts 2=.ptr 0 0∧ts 3=.ptr 1 0∧ts 7=.int .i64 (i:Nat))) os.length ?_ ?_
 ·exact⟨0,[],rfl,Zq _,rfl,by(exact azo ht)⟩
 clear ht hf hi hge ts i;rintro m ts hh ⟨i,l,rfl,hi,rfl,ht⟩;rcases Zr i os.length with hlt|hge;rotate_left
 ·have hf:=azq Sf.Outp.cells os i hge;refine azc (ai ht hf) ti ?_;exact Fn rfl
 have hf:=azp Sf.Outp.cells os i hlt (by omega);have cx:=hco _ (Zp hlt);rw[bvw]at cx;obtain⟨x,hx⟩:=Ex (os[i]);rw[hx]at hf cx;obtain⟨a1,⟨k,nn,ss,is,ks⟩,b1⟩:=x;simp only[Sf.Outp.cells,V.A,V.cells,Zd,Zg]at hf cx;refine azc (ai ht hf) (ai cx ti) ?_;refine cke 10 (by decide +kernel) ?_ ?_;all_goals simp only[edgeA,swapA,ak1,swN,aR,aF,aL,aM,ZE,Yj,reduceIte,Nat.reduceEqDiff,Nat.reduceAdd]
 ·refine azc (ai ht hf) (ai cx ti) ?_;exact⟨_,by omega,i+1,_,rfl,by omega,rfl,by(exact azo (ai ht hf))⟩
 ·refine azc (ai ht hf) (ai cx ti) ?_;exact⟨_,by omega,i+1,_,rfl,by omega,rfl,by(exact azo (ai ht hf))⟩
end AX
end
section
open Go.RowKit Go.ChangeShapes Go.WideShapes
namespace AX
section
variable {H:Type} {enc:TypeId×Value→H} {w:World} {base:Nat} {spare:Nat→Bool} {held:Bool} {r:Reach} {b0:Nat} {v:Value} {d:DataW H} {p:List MemPlace}
theorem cxj{K:List TypeId}{t e:TypeId}(hK:plainAll Tryz.prog K=true)(ht:t∈K)(hu:Tryz.prog.underlying t=some (.slice e))(hval:Value.okWide Tryz.prog w r b0 t v)(h:DataW.Trod enc Tryz.prog w base spare held t v d p):
  ∃x:List D,ConfA Tryz.prog x e∧x.length≤maxLen∧D.bulks x≤Rows.uptoBulk d∧Rep (Ctx.of w) (.sl (Tryz.prog.cellsOf e) .no (D.rows x)) v:=by
 obtain⟨a,len,cap,rfl⟩:=okWide_slice hu hval;obtain⟨fuel,hf⟩:=h;obtain⟨x,h1,h2,h3⟩:=ak4 hK fuel t ht _ _ hf;obtain⟨l,rfl,h4,h5⟩:=aqa hu h2;refine⟨l,h4,h5,?_,?_⟩
 ·rw[D.bulk]at h3;exact Zs (by omega) h3
 ·have:=dkc h1;rw[D.cells]at this;obtain⟨c,cs',e1,e2,e3⟩:=repL_cons.1 this;rw[repL_nil]at e3;subst e3;injection e1 with e1;rw[e1];exact e2
end
end AX
end
section
open Go.RowKit Go.ChangeShapes Go.WideShapes
namespace Jr
def toD(r:Jr):D:=.agg [.int .i64 r.kind,r.base.toD,.int .i64 r.step,.int .i64 r.op,.str r.addr,.str r.dep,.str r.typ,.str r.tok,.int .i64 r.err,r.after.toD]
theorem cells_toD(r:Jr):r.toD.cells=r.cells:=by
 obtain⟨kd,st0,st,op,ad,dp,ty,tk,er,af⟩:=r;have h:=Sf.St.cells_toD st0;have h2:=Sf.Inst.cells_toD af;unfold Sf.St.A at h;injection h with h;unfold toD cells;simp only[D.cells,D.cellsL,h,h2,Zd,Zg,ZN]
structure Wf(r:Jr):Prop where
 base:r.base.Wf
 after:r.after.attrs.Wf
end Jr
theorem dju{d:D}(h:Conf Tryz.prog d 44):∃x:Jr,d=x.toD∧x.Wf:=by
 obtain⟨l',rfl,h2⟩:=az7 Tryz.underlying44 h;obtain⟨d0,l1,rfl,c0,h2⟩:=azi h2;obtain⟨d1,l2,rfl,c1,h2⟩:=azi h2;obtain⟨d2,l3,rfl,c2,h2⟩:=azi h2;obtain⟨d3,l4,rfl,c3,h2⟩:=azi h2;obtain⟨d4,l5,rfl,c4,h2⟩:=azi h2;obtain⟨d5,l6,rfl,c5,h2⟩:=azi h2;obtain⟨d6,l7,rfl,c6,h2⟩:=azi h2;obtain⟨d7,l8,rfl,c7,h2⟩:=azi h2;obtain⟨d8,l9,rfl,c8,h2⟩:=azi h2;obtain⟨d9,l10,rfl,c9,h2⟩:=azi h2;obtain rfl:=axg h2;obtain⟨k,rfl,_⟩:=aq2 (k:=.i64) Tryz.underlying34 c0;obtain⟨st,rfl,hs⟩:=Sf.conf_st c1;obtain⟨n,rfl,_⟩:=aq2 (k:=.i64) Tryz.underlying3 c2;obtain⟨o,rfl,_⟩:=aq2 (k:=.i64) Tryz.underlying35 c3;obtain⟨a,rfl,_⟩:=az0 Tryz.underlying9 c4;obtain⟨b,rfl,_⟩:=az0 Tryz.underlying9 c5;obtain⟨c,rfl,_⟩:=az0 Tryz.underlying9 c6;obtain⟨t,rfl,_⟩:=az0 Tryz.underlying9 c7;obtain⟨e,rfl,_⟩:=aq2 (k:=.i64) Tryz.underlying30 c8;obtain⟨x,rfl,hx⟩:=Sf.conf_inst c9;exact⟨⟨k,st,n,o,a,b,c,t,e,x⟩,rfl,hs,hx⟩
structure Jrs where
 l:List Jr
def Jrs.bulkD(x:Jrs):Nat:=D.bulks (x.l.map Jr.toD)
namespace AX
def kJrs:List TypeId:=[27,44,34,35,30,26,42,48,65,22,23,24,40,36,3,9,4,37,38]
theorem cxk:plainAll Tryz.prog kJrs=true:=by kernel_rfl
section
variable {H:Type} {enc:TypeId×Value→H} {w:World} {base:Nat} {spare:Nat→Bool} {held:Bool} {r:Reach} {b0:Nat} {v:Value} {d:DataW H} {p:List MemPlace}
theorem bvx(hval:Value.okWide Tryz.prog w r b0 27 v)(h:DataW.Trod enc Tryz.prog w base spare held 27 v d p):
  ∃(x:Jrs) (_:((∀a∈x.l,a.Wf)∧x.l.length≤maxLen)∧x.bulkD≤Rows.uptoBulk d),Rep (Ctx.of w) (.sl 26 .no (x.l.map Jr.cells)) v:=by
 obtain⟨l,h1,h2,h3,h4⟩:=cxj cxk (by decide) Tryz.underlying27 hval h;obtain⟨xs,rfl,hx⟩:=avf l fun d hd=>dju (axb h1 d hd)
 rw[Sf.rows_map Jr.toD Jr.cells Jr.cells_toD]at h4;have hw:Tryz.prog.cellsOf 44=26:=by kernel_rfl
 rw[hw]at h4;exact⟨⟨xs⟩,⟨⟨hx,by simpa using h2⟩,h3⟩,h4⟩
end
structure JrFit(r:Jr):Prop where
 few:JrFew r
 strs:r.addr.length≤2000000∧r.dep.length≤2000000∧r.typ.length≤2000000∧r.tok.length≤2000000∧r.after.addr.length≤2000000∧r.after.dep.length≤2000000∧r.after.id.length≤2000000∧r.after.typ.length≤2000000
 deps:r.after.deps.length≤2000000∧∀s∈r.after.deps,s.length≤2000000
theorem dv7{r:Jr}(hw:r.Wf)(hb:r.toD.bulk≤1048576):JrFit r:=by
 unfold Jr.toD at hb;simp only[D.bulk,D.bulks]at hb;have hb1:r.base.toD.bulk≤1048576:=by omega
 have hb2:r.after.toD.bulk≤1048576:=by omega
 have f1:=(Sf.fit_of hw.base (Zs hb1 (by decide))).sin;have f2:=Sf.inst_fit hw.after (Zs hb2 (by decide));have vf:∀x:Sf.Inst,x.toD.bulk≤1500000→x.attrs.few∧x.deps.length≤1000000000:=fun x hx=>by
  unfold Sf.Inst.toD at hx;simp only[D.bulk,D.bulks]at hx;have:=(ax1 x.deps).1;exact⟨V.few_of _ (by omega),by omega⟩
 have hb3:=hb1;unfold Sf.St.toD at hb3;simp only[D.bulk,D.bulks]at hb3;obtain⟨i1,i2⟩:=aqe Sf.Inst.toD r.base.insts;obtain⟨p1,p2⟩:=aqe Sf.Pend.toD r.base.pends;obtain⟨o1,o2⟩:=aqe Sf.Outp.toD r.base.outs;have hb4:=hb2;unfold Sf.Inst.toD at hb4;simp only[D.bulk,D.bulks]at hb4;obtain⟨d1,d2⟩:=ax1 r.after.deps;refine⟨⟨⟨f1,V.Wf.lens _ hw.after,by omega⟩,V.few_of _ (by omega),⟨by omega,fun x hx=>vf x (by have:=i2 x hx;omega)⟩,by omega,by omega,fun x hx=>?_⟩,⟨by omega,by omega,by omega,by omega,by omega,by omega,by omega,by omega⟩,by omega,fun s hs=>by have:=d2 s hs;omega⟩;have h1:x.toD.bulk≤1048576:=by have:=o2 x hx;omega
 unfold Sf.Outp.toD at h1;simp only[D.bulk,D.bulks]at h1;exact V.few_of _ (by omega)
end AX
end
section
open Go.RowKit
namespace AX
theorem dxo(x:Jrs)(k:((∀a∈x.l,a.Wf)∧x.l.length≤maxLen)∧x.bulkD≤1048576):(∀a∈x.l,JrFit a)∧x.l.length≤1000000000:=by
 have hm:=aqe Jr.toD x.l;have h3:D.bulks (x.l.map Jr.toD)≤1048576:=k.2;exact⟨fun a ha=>dv7 (k.1.1 a ha) (Zs (hm.2 a ha) h3),by have:=hm.1;omega⟩
end AX
end
section
open Go.RowKit Go.ChangeShapes Go.WideShapes
def Sf.St.bulkD(s:Sf.St):Nat:=s.toD.bulk
namespace AX
def kState:List TypeId:=[26,42,48,65,22,23,24,40,36,3,9,4,37,38]
theorem bvh:plainAll Tryz.prog kState=true:=by kernel_rfl
section
variable {H:Type} {enc:TypeId×Value→H} {w:World} {base:Nat} {spare:Nat→Bool} {held:Bool} {r:Reach} {b0:Nat} {v:Value} {d:DataW H} {p:List MemPlace}
theorem cvt{K:List TypeId}{t:TypeId}{fs:Array Field}(hK:plainAll Tryz.prog K=true)(ht:t∈K)(hu:Tryz.prog.underlying t=some (.struct fs))(hval:Value.okWide Tryz.prog w r b0 t v)(h:DataW.Trod enc Tryz.prog w base spare held t v d p):
  ∃x:D,Conf Tryz.prog x t∧x.bulk≤Rows.uptoBulk d∧Rep (Ctx.of w) (.agg x.cells) v:=by
 obtain⟨cs,rfl,_⟩:=okWide_struct hu hval;obtain⟨fuel,hf⟩:=h;obtain⟨x,h1,h2,h3⟩:=ak4 hK fuel t ht _ _ hf;exact⟨x,h2,h3,rep_agg.2 ⟨cs.toList,by simp,dkc h1⟩⟩
theorem bz3(hval:Value.okWide Tryz.prog w r b0 26 v)(h:DataW.Trod enc Tryz.prog w base spare held 26 v d p):
  ∃(x:Sf.St) (_:x.Wf∧x.bulkD≤Rows.uptoBulk d),Rep (Ctx.of w) x.A v:=by
 obtain⟨x,h1,h2,h3⟩:=cvt bvh (by decide) Tryz.underlying26 hval h;obtain⟨y,rfl,h4⟩:=Sf.conf_st h1;rw[Sf.St.cells_toD]at h3;exact⟨y,⟨h4,h2⟩,h3⟩
end
end AX
end
section
open Go.RowKit
namespace AX
end AX
end
section
open Go.RowKit
namespace Rp
def zeroR:Jr:=⟨0,zeroS,0,0,[],[],[],[],0,⟨[],[],[],[],.mk 0 0 [] [] [],0,false,false,[]⟩⟩
def recOf:Option Jr→Jr
 |some r=>r
 |none=>zeroR
theorem tokOf_rec(o:Option Jr):tokOf o=(recOf o).tok:=by cases o<;>rfl
theorem pendOf_rec(o:Option Jr):pendOf o=⟨(recOf o).addr,(recOf o).typ,(recOf o).tok⟩:=by cases o<;>rfl
end Rp
namespace AX
open Rp (Gd XOk)
def instA:Option Sf.Inst→A
 |some x=> .agg x.cells
 |none=> .agg zeroI
theorem bxn{n:Nat}{st:Sf.St}(g:Gd n st)(hn:n≤50000)(a d:List UInt8)(h:Hp):
  AT 73 [st.A,.str a,.str d] h (.tup [instA (Sf.findL st.insts a d),.bool (Sf.findL st.insts a d).isSome]):=by
 obtain⟨p,hc,hb,hf,_⟩:=Sf.cut_ex a d st.insts g.si;have:=dxx leafs st (g.stFew (by omega)) a d p hc (by have:=g.li;omega) h;rw[hb]at this;rw[hb]at hf;cases hx:Sf.findL st.insts a d with
 |none=>rw[hx]at this;exact this
 |some x=>
  rw[hx]at this hf;rw[hf rfl]at this;exact this
theorem bvi{n:Nat}{st:Sf.St}(g:Gd n st)(hn:n≤50000)(a d:List UInt8)(h:Hp):
  AT 74 [st.A,.str a,.str d] h ((Rp.remS st a d).A):=by
 obtain⟨p,hc,_,_,hr,_⟩:=Sf.cut_ex a d st.insts g.si;have:=ck5 leafs st (g.stFew (by omega)) a d p hc (by have:=g.li;omega) h;rw[hr]at this;exact this
theorem czb{n:Nat}{st:Sf.St}(g:Gd n st)(hn:n≤50000){x:Sf.Inst}(hx:XOk x)(h:Hp):
  AT 117 [st.A,.agg x.cells] h ((Rp.putS st x).A):=by
 by_cases he:st.insts=[]
 ·have:=dxh leafs st (g.stFew (by omega)) x ⟨hx.few,hx.deps⟩ he h;have e:Rp.putS st x={ st with insts:=[x] }:=by unfold Rp.putS;rw[he];rfl
  rw[e];exact this
 ·obtain⟨p,hc,_,_,_,hp⟩:=Sf.cut_ex x.addr x.dep st.insts g.si;have:=djo leafs st (g.stFew (by omega)) x ⟨hx.few,hx.deps⟩ p hc (by have:=g.li;omega) he h;rw[hp x rfl rfl]at this;exact this
theorem dxu{n:Nat}{st:Sf.St}(g:Gd n st)(hn:n≤50000)(x:Sf.Pend)(h:Hp):
  AT 38 [st.A,.agg x.cells] h ((Rp.putR st x).A):=by
 by_cases he:st.pends=[]
 ·have:=cy7 st (g.stFew (by omega)) x he h;have e:Rp.putR st x={ st with pends:=[x] }:=by unfold Rp.putR;rw[he];rfl
  rw[e];exact this
 ·obtain⟨p,hc,_,hp⟩:=Sf.cutP_ex x.tok st.pends g.sp;have:=dzv leafs st (g.stFew (by omega)) x p hc (by have:=g.lp;omega) he h;rw[hp x rfl]at this;exact this
theorem cwa{n:Nat}{st:Sf.St}(g:Gd n st)(hn:n≤50000)(t:List UInt8)(h:Hp):
  AT 116 [st.A,.str t] h ((Rp.remR st t).A):=by
 by_cases he:st.pends=[]
 ·have:=cy3 st (g.stFew (by omega)) t he h;have e:Rp.remR st t=st:=by unfold Rp.remR;rw[he];obtain⟨l,s,i,p,o⟩:=st;dsimp only at he;subst he;rfl
  rw[e];exact this
 ·obtain⟨p,hc,hr,_⟩:=Sf.cutP_ex t st.pends g.sp;have:=cy5 leafs st (g.stFew (by omega)) t p hc (by have:=g.lp;omega) he h;rw[hr]at this;exact this
def zeroK:List A:=[.int .i64 0,.str [],.int .i64 0,.sl 0 .nil [],.sl 0 .nil [],.sl 0 .nil [],.int .i64 0,.int .i64 0,.str [],.str [],.str [],.str [],.int .i64 0,.str [],.str [],.str [],.str [],.int .i64 0,.int .i64 0,.str [],.sl 0 .nil [],.sl 0 .nil [],.int .i64 0,.bool false,.bool false,.sl 0 .nil []]
theorem axl(o:Option Sf.Inst):∃z1 z2 z3 z4 z5 z6 z7 z8 z9 z10 z11 z12 z13,instA o=.agg [z1,z2,z3,z4,z5,z6,z7,z8,z9,z10,z11,z12,z13]∧(z1.one=true∧z2.one=true∧z3.one=true∧z4.one=true∧z5.one=true∧z6.one=true∧z7.one=true∧z8.one=true∧z9.one=true∧z10.one=true∧z11.one=true∧z12.one=true∧z13.one=true):=by
 cases o with
 |none=>exact⟨_,_,_,_,_,_,_,_,_,_,_,_,_,rfl,rfl,rfl,rfl,rfl,rfl,rfl,rfl,rfl,rfl,rfl,rfl,rfl,rfl⟩
 |some x=>
  obtain⟨b1,b2,b3,b4,⟨k,n,s,is,ks⟩,jv,jtn,jfi,jds⟩:=x;exact⟨_,_,_,_,_,_,_,_,_,_,_,_,_,rfl,rfl,rfl,rfl,rfl,rfl,rfl,rfl,rfl,rfl,rfl,rfl,rfl,rfl⟩
theorem Grw.grow0{lo W:Nat}{T:TypeId}{L:List Blk}{rows:List (List A)}{v:A}(hg:Grw lo W T L rows v)(hl:LocL L)(bytes:Nat)(x:List A)(hx:x.length=W)(hd:x.all A.data=true)(hW:∀r∈rows,r.length=W)(hrd:rows.flatten.all A.data=true)(hn:rows.length+1≤100000000)(hb:bytes≤1000):
  ∃(i n:Nat) (L':List Blk),(∀p:List Blk,p.length=lo→appB ⟨p++L,[]⟩ T W bytes v (.sl W .no [x])=some (.bs i W n,⟨p++L',[]⟩))∧Grw lo W T L' (rows++[x]) (.bs i W n)∧LocL L':=by
 have hmul:(rows.length+1)*bytes≤140737488355328:=by
  have:=Nat.mul_le_mul hn hb;omega
 have hml:rows.length+1≤maxLen:=by unfold maxLen;omega
 have hrow:∀l:List A,l.all A.data=true→(Blk.row T l).loc 0:=fun l h=>axh h
 rcases hg with⟨rfl,rfl⟩|⟨k,rfl,hk⟩
 ·refine⟨lo+L.length,1,L++[.row T x],fun p hp=>?_,.inr ⟨L.length,rfl,?_⟩,fun y hy=>?_⟩
  ·simp only[appB,rowC,if_true,Zi,ZH,ZI,List.flatten_nil,ZN,Zb,hp];rw[if_pos (by omega),if_pos ⟨by unfold maxLen;omega,by simp only[ZH]at hmul;omega⟩,ZK]
  ·rw[List.getElem?_append_right (by simp)];simp
  ·rcases YE.1 hy with hy|hy
   ·exact hl y hy
   ·exact .inl (by rw[Yq.1 hy];exact hrow _ hd)
 ·have hlt:k<L.length:=(Ze.1 hk).1;have hfl:=avc hW;refine⟨lo+L.length,rows.length+1,L.set k .gone++[.row T (rows++[x]).flatten],fun p hp=>?_,.inr ⟨L.length,by rw[Zb];rfl,?_⟩,fun y hy=>?_⟩
  ·have hget:(p++L)[lo+k]?=some (.row T rows.flatten):=by
    rw[List.getElem?_append_right (by omega),hp,show lo+k-lo=k by omega];exact hk
   have hset:(p++L).set (lo+k) .gone=p++L.set k .gone:=by
    rw[List.set_append_right _ _ (by omega),hp,show lo+k-lo=k by omega]
   simp only[appB,rowC,if_true,Zi,ZH,ZI,List.flatten_nil,ZN,Zb,hget,hset,hp];rw[if_pos (by omega),if_pos ⟨trivial,by simpa using hml,by simpa using hmul⟩,if_pos ⟨trivial,by omega⟩,Zy (by omega)];simp only[List.flatten_append,ZI,List.flatten_nil,ZN];rw[ZK]
  ·rw[List.getElem?_append_right (by simp)];simp
  ·rcases YE.1 hy with hy|hy
   ·rcases List.mem_or_eq_of_mem_set hy with hy|hy
    ·exact hl y hy
    ·exact .inr hy
   ·have hfd:(rows++[x]).flatten.all A.data=true:=by
     rw[List.flatten_append,List.all_append,Zf];exact⟨hrd,by simpa using hd⟩
    exact .inl (by rw[Yq.1 hy];exact hrow _ hfd)
def GI(lo:Nat)(L:List Blk)(l:List Sf.Inst)(v:A):Prop:=Grw lo 13 42 L (l.map Sf.Inst.cells) v∧LocL L
theorem GI.nil(lo:Nat):GI lo [] [] (.sl 0 .nil []):=⟨.inl ⟨rfl,rfl⟩,fun b hb=>by cases hb⟩
theorem GI.grow{lo:Nat}{L:List Blk}{l:List Sf.Inst}{v:A}(g:GI lo L l v)(x:Sf.Inst)(hn:l.length≤1000000):
  ∃(i n:Nat) (L':List Blk),(∀p:List Blk,p.length=lo→appB ⟨p++L,[]⟩ 42 13 184 v (.sl 13 .no [x.cells])=some (.bs i 13 n,⟨p++L',[]⟩))∧GI lo L' (l++[x]) (.bs i 13 n):=by
 obtain⟨i,n,L',h1,h2,h3⟩:=g.1.grow0 g.2 184 (Sf.Inst.cells x) (Sf.Inst.cells_len _) (Sf.Inst.cells_data _) (fun r hr=>by obtain⟨y,_,rfl⟩:=Z0.1 hr;exact Sf.Inst.cells_len y) (rows_data _ Sf.Inst.cells_data _) (by rw[Zj];omega) (by decide);exact⟨i,n,L',h1,by unfold GI;rw[YF];exact⟨h2,h3⟩⟩
theorem GI.fz{lo:Nat}{p L:List Blk}{l:List Sf.Inst}{v:A}{t:List (TypeId×Nat×Nat)}{lin:List UInt8}{ser:Int}{ps:List Sf.Pend}{os:List Sf.Outp}(g:GI lo L l v)(hp:p.length=lo):
  ∃r',le (.agg [.str lin,.int .i64 ser,v,.sl 3 .no (ps.map Sf.Pend.cells),.sl 7 .no (os.map Sf.Outp.cells)]) r'∧FzV ⟨p++L,t⟩ r' (.agg [.str lin,.int .i64 ser,.sl 13 .no (l.map Sf.Inst.cells),.sl 3 .no (ps.map Sf.Pend.cells),.sl 7 .no (os.map Sf.Outp.cells)]):=by
 rcases g.1 with⟨h1,rfl⟩|⟨k,rfl,hk⟩
 ·have:l=[]:=List.map_eq_nil_iff.1 h1;exact⟨.agg [.str lin,.int .i64 ser,.sl 13 .no [],.sl 3 .no (ps.map Sf.Pend.cells),.sl 7 .no (os.map Sf.Outp.cells)],⟨aza _,aza _,⟨rfl,.inr rfl,.inl rfl⟩,aza _,aza _,trivial⟩,aqi (.inl ⟨this,rfl⟩)⟩
 ·refine⟨_,le_refl _,aqi (.inr ⟨lo+k,by rw[Zj],?_⟩)⟩;rw[List.getElem?_append_right (by omega),hp,show lo+k-lo=k by omega];exact hk
def bzn:AX.AFn:=⟨40,aS [aR 3 (.box 26 (.t 0)),aR 6 (.alloc 42 [.str [],.str [],.str [],.str [],.int .i64 0,.int .i64 0,.str [],.sl 0 .nil [],.sl 0 .nil [],.int .i64 0,.bool false,.bool false,.sl 0 .nil []]),aR 7 (.mv (.c (.bool false)))] (.seq (aS [aR 8 (.mv (aI 0))] (.block 0 (.loop (.seq (aS [aM 9 8,aF 10 2 3,aL 11 10,aR 12 (.len false (.t 11)),aR 13 (.bin .lss (.t 9) (.t 12))] (.cond (.t 13) (.skip) (.exit 0))) (.seq (.block 1 (aS [aF 16 2 3,aL 17 16,aM 18 8,aR 19 (.iaddr 13 (.t 17) (.t 18)),aF 20 0 19,aL 21 20,aM 22 1,aR 23 (.bin .eql (.t 21) (.t 22)),aM 24 23,aG 25 (.faddr 2 (.t 3)) 24 true,aG 26 (.load false 1 (.t 25)) 24 true,aG 27 (.mv (.t 8)) 24 true,aG 28 (.iaddr 13 (.t 26) (.t 27)) 24 true,aG 29 (.faddr 1 (.t 28)) 24 true,aG 30 (.load false 1 (.t 29)) 24 true,aG 31 (.mv (.t 2)) 24 true,aG 32 (.bin .eql (.t 30) (.t 31)) 24 true,aR 33 (.pick (.t 24) (.t 32) (.c (.bool false)))] (.cond (.t 33) (aS [aF 34 2 3,aL 35 34,aM 36 8,aR 37 (.iaddr 13 (.t 35) (.t 36)),aR 38 (.load true 13 (.t 37)),aU (.store 13 (.t 6) (.t 38)),aR 7 (.mv (.c (.bool true)))] (.ret)) (.skip)))) (.reg false [aM 14 8,aR 15 (.bin .add (.t 14) (aI 1)),aM 8 15])))))) (aS [aR 39 (.build [.str [],.str [],.str [],.str [],.int .i64 0,.int .i64 0,.str [],.sl 0 .nil [],.sl 0 .nil [],.int .i64 0,.bool false,.bool false,.sl 0 .nil []] []),aU (.store 13 (.t 6) (.t 39)),aR 7 (.mv (.c (.bool false)))] (.ret))),[.c 6 true 13,.t 7]⟩
theorem ckb:AX.compFn Tryz.prog 48=some bzn:=by kernel_rfl
def aj2:AX.AFn:=⟨45,aS [aR 3 (.box 26 (.t 0)),aR 6 (.alloc 26 [.str [],.int .i64 0,.sl 0 .nil [],.sl 0 .nil [],.sl 0 .nil []])] (aS [aR 7 (.mv (.c (.sl 0 .nil [])))] (.seq (aS [aR 8 (.mv (aI 0))] (.block 0 (.loop (.seq (aS [aM 9 8,aF 10 2 3,aL 11 10,aR 12 (.len false (.t 11)),aR 13 (.bin .lss (.t 9) (.t 12))] (.cond (.t 13) (.skip) (.exit 0))) (.seq (.block 1 (aS [aF 16 2 3,aL 17 16,aM 18 8,aR 19 (.iaddr 13 (.t 17) (.t 18)),aF 20 0 19,aL 21 20,aM 22 1,aR 23 (.bin .neq (.t 21) (.t 22)),aM 24 23,aG 25 (.faddr 2 (.t 3)) 24 false,aG 26 (.load false 1 (.t 25)) 24 false,aG 27 (.mv (.t 8)) 24 false,aG 28 (.iaddr 13 (.t 26) (.t 27)) 24 false,aG 29 (.faddr 1 (.t 28)) 24 false,aG 30 (.load false 1 (.t 29)) 24 false,aG 31 (.mv (.t 2)) 24 false,aG 32 (.bin .neq (.t 30) (.t 31)) 24 false,aR 33 (.pick (.t 24) (.c (.bool true)) (.t 32))] (.cond (.t 33) (.reg false [aM 34 7,aF 35 2 3,aL 36 35,aM 37 8,aR 38 (.iaddr 13 (.t 36) (.t 37)),aR 39 (.load true 13 (.t 38)),aR 40 (.mks 13 [.t 39]),aR 41 (.apb 42 13 184 (.t 34) (.t 40)),aM 7 41]) (.skip)))) (.reg false [aM 14 8,aR 15 (.bin .add (.t 14) (aI 1)),aM 8 15])))))) (aS [aM 42 7,aF 43 2 3,aU (.store 1 (.t 43) (.t 42))] (aS [aR 44 (.load true 5 (.t 3)),aU (.store 5 (.t 6) (.t 44))] (.ret))))),[.c 6 true 5]⟩
theorem bwz:AX.compFn Tryz.prog 50=some aj2:=by kernel_rfl
theorem cq6(o:Option Sf.Inst)(b:Bool):(A.tup [instA o,.bool b]).pure=true:=by
 cases o with
 |none=>rfl
 |some x=>obtain⟨b1,b2,b3,b4,⟨k,n,s,is,ks⟩,jv,jtn,jfi,jds⟩:=x;rfl
theorem avr(st:Sf.St)(hl:st.insts.length≤1000000)(a d:List UInt8)(h:Hp):
  AT 48 [st.A,.str a,.str d] h (.tup [instA (Sf.findL st.insts a d),.bool (Sf.findL st.insts a d).isSome]):=by
 refine pcall ?_ (cq6 _ _) (by simp[A.pure,A.data,Sf.St.A]) h;refine azb mixedT ckb (by simp[bzn]) ?_;dsimp only[bzn];obtain⟨D,hD⟩:=Ex (Sf.findL st.insts a d);rw[hD];obtain⟨lin,ser,ins,ps,os⟩:=st;simp only[Sf.St.A];dsimp only at hl hD;have li:(ins.map Sf.Inst.cells).length=ins.length:=Zj _;refine azf li ?_;refine azd (fun mm ts h=>∃(j:Nat),mm=ins.length-j∧j≤ins.length∧h=⟨[.cells 26 [.str lin,.int .i64 ser,.sl 13 .no (ins.map Sf.Inst.cells),.sl 3 .no (ps.map Sf.Pend.cells),.sl 7 .no (os.map Sf.Outp.cells)],.cells 42 zeroI],[]⟩∧Sf.findL (ins.drop j) a d=D∧(ts 1=.str a∧ts 2=.str d∧ts 3=.ptr 0 0∧ts 6=.ptr 1 0∧ts 8=.int .i64 (j:Nat))) ins.length ?_ ?_
 ·exact⟨0,by omega,by omega,rfl,hD,by(exact azo li)⟩
 rintro mm ts h ⟨j,rfl,hjc,rfl,hit,ht⟩;unfold zeroI;rcases Zr j ins.length with hlt|hge
 ·have hf:=azp Sf.Inst.cells ins j hlt (by omega);rw[Zl hlt]at hit;unfold Sf.findL at hit;rw[List.find?_cons]at hit;obtain⟨r,hr⟩:=Ex (ins[j]);rw[hr]at hf hit;have hi:Sf.atI a d r=(r.addr==a&&r.dep==d):=rfl;have fin:Sf.atI a d r=true→A.tup [.agg r.cells,.bool true]=.tup [instA D,.bool D.isSome]:=fun e=>by
   rw[e]at hit;rw[←hit];rfl
  have go:Sf.atI a d r=false→Sf.findL (ins.drop (j+1)) a d=D:=fun e=>by
   rw[e]at hit;exact hit
  rw[hi]at fin go;clear hit hr hi;obtain⟨b1,b2,b3,b4,⟨jk2,jn,js,jis,jks⟩,jv,jtn,jfi,jds⟩:=r;simp only[Sf.Inst.cells]at hf fin;dsimp only at fin go;refine azc (ai ht hf) ti ?_;(refine AX.bw0 ht ?_ ?_)
  ·intro hb;refine azc (ai ht hf) ti ?_;exact⟨_,le_refl _,fin hb⟩
  ·intro hb;refine azc (ai ht hf) ti ?_;exact⟨_,by omega,j+1,rfl,by omega,rfl,go hb,by(exact azo (ai ht hf))⟩
 have hf:=azq Sf.Inst.cells ins j hge;rw[ZQ (by omega)]at hit;unfold Sf.findL at hit;rw[List.find?_nil]at hit;subst hit;refine azc (ai ht hf) ti ?_;exact Fn rfl
theorem cv8(l:List Sf.Inst)(x:Sf.Inst)(a d:List UInt8):Sf.remL (l++[x]) a d=if(x.addr !=a||x.dep !=d)=true then Sf.remL l a d++[x]else Sf.remL l a d:=by
 unfold Sf.remL;rw[List.filter_append,List.filter_cons,List.filter_nil];have:(!Sf.atI a d x)=(x.addr !=a||x.dep !=d):=by unfold Sf.atI;cases h1:x.addr==a<;>cases h2:x.dep==d<;>simp[h1,h2,bne]
 rw[this];split<;>simp
theorem ajw(st:Sf.St)(hl:st.insts.length≤1000000)(a d:List UInt8)(h:Hp):
  AT 50 [st.A,.str a,.str d] h ((Rp.remS st a d).A):=by
 unfold Rp.remS;obtain⟨lin,ser,ins,ps,os⟩:=st;simp only[Sf.St.A];dsimp only at hl;refine pcallv ?_ (by simp[A.pure,A.data]) h;refine azb mixedT bwz (by simp[aj2]) ?_;dsimp only[aj2];have li:(ins.map Sf.Inst.cells).length=ins.length:=Zj _;refine azf li ?_;refine azd (fun mm ts h=>∃(j:Nat) (L:List Blk) (v:A),mm=ins.length-j∧j≤ins.length∧GI 2 L (Sf.remL (ins.take j) a d) v∧h=⟨.cells 26 [.str lin,.int .i64 ser,.sl 13 .no (ins.map Sf.Inst.cells),.sl 3 .no (ps.map Sf.Pend.cells),.sl 7 .no (os.map Sf.Outp.cells)] :: .cells 26 [.str [],.int .i64 0,.sl 0 .nil [],.sl 0 .nil [],.sl 0 .nil []]::L,[]⟩∧(ts 1=.str a∧ts 2=.str d∧ts 3=.ptr 0 0∧ts 6=.ptr 1 0∧ts 7=v∧ts 8=.int .i64 (j:Nat))) ins.length ?_ ?_
 ·exact⟨0,[],_,by omega,by omega,GI.nil 2,rfl,by(exact azo li)⟩
 rintro mm ts h ⟨j,L,v,rfl,hjc,gX,rfl,ht⟩;rcases Zr j ins.length with hlt|hge
 ·have hf:=azp Sf.Inst.cells ins j hlt (by omega);have es:ins.take (j+1)=ins.take j++[ins[j]]:=(List.take_append_getElem hlt).symm;have er:=cv8 (ins.take j) ins[j] a d;rw[←es]at er;have hlen:(Sf.remL (ins.take j) a d).length≤1000000:=Zs (Sf.remL_length _ _ _) (by rw[Zk];omega);obtain⟨i',n',L',hX0,gX'⟩:=gX.grow ins[j] hlen;have hX:=fun x y=>hX0 [x,y] rfl
  simp only[Zd,Zg]at hX;obtain⟨r,hr⟩:=Ex (ins[j]);rw[hr]at hf er hX gX';have fin:(r.addr !=a||r.dep !=d)=true→GI 2 L' (Sf.remL (ins.take (j+1)) a d) (.bs i' 13 n'):=fun e=>by rw[er,if_pos e];exact gX'
  have go:(r.addr !=a||r.dep !=d)=false→GI 2 L (Sf.remL (ins.take (j+1)) a d) v:=fun e=>by rw[er,if_neg (by rw[e];decide)];exact gX
  clear hr es er hX0 gX' gX;obtain⟨b1,b2,b3,b4,⟨jk2,jn,js,jis,jks⟩,jv,jtn,jfi,jds⟩:=r;simp only[Sf.Inst.cells]at hf hX;dsimp only at fin go;refine azc (ai ht hf) ti ?_;(refine AX.bw0 ht ?_ ?_)
  ·intro hb;refine aze (ai ht (ai hf hX)) ti ?_;exact⟨_,by omega,j+1,L',_,rfl,by omega,fin hb,rfl,by(exact azo (ai ht hf))⟩
  ·intro hb;refine azc (ai ht hf) ti ?_;exact⟨_,by omega,j+1,L,v,rfl,by omega,go hb,rfl,by(exact azo (ai ht hf))⟩
 have hf:=azq Sf.Inst.cells ins j hge;rw[Zy (by omega)]at gX;have hone:v=.sl 0 .nil []∨∃i n,v=.bs i 13 n:=by
  rcases gX.1 with⟨_,h1⟩|⟨k,h1,_⟩
  ·exact .inl h1
  ·exact .inr ⟨_,_,h1⟩
 rcases hone with rfl|⟨i,n,rfl⟩
 ·refine azc (ai ht hf) ti ?_;exact gX.fz (p:=[_,_]) rfl
 ·refine azc (ai ht hf) ti ?_;exact gX.fz (p:=[_,_]) rfl
end AX
end
section
open Go.RowKit
namespace AX
def bza:AX.AFn:=⟨33,aS [aR 2 (.box 26 (.t 0)),aR 4 (.alloc 26 [.str [],.int .i64 0,.sl 0 .nil [],.sl 0 .nil [],.sl 0 .nil []])] (aS [aR 5 (.mv (.c (.sl 0 .nil [])))] (.seq (aS [aR 6 (.mv (aI 0))] (.block 0 (.loop (.seq (aS [aM 7 6,aF 8 3 2,aL 9 8,aR 10 (.len false (.t 9)),aR 11 (.bin .lss (.t 7) (.t 10))] (.cond (.t 11) (.skip) (.exit 0))) (.seq (.block 1 (aS [aF 14 3 2,aL 15 14,aM 16 6,aR 17 (.iaddr 3 (.t 15) (.t 16)),aF 18 2 17,aL 19 18,aM 20 1,aR 21 (.bin .neq (.t 19) (.t 20))] (.cond (.t 21) (.reg false [aM 22 5,aF 23 3 2,aL 24 23,aM 25 6,aR 26 (.iaddr 3 (.t 24) (.t 25)),aR 27 (.load true 3 (.t 26)),aR 28 (.mks 3 [.t 27]),aR 29 (.app 48 3 48 (.t 22) (.t 28)),aM 5 29]) (.skip)))) (.reg false [aM 12 6,aR 13 (.bin .add (.t 12) (aI 1)),aM 6 13])))))) (aS [aM 30 5,aF 31 3 2,aU (.store 1 (.t 31) (.t 30))] (aS [aR 32 (.load true 5 (.t 2)),aU (.store 5 (.t 4) (.t 32))] (.ret))))),[.c 4 true 5]⟩
theorem cv3:AX.compFn Tryz.prog 51=some bza:=by kernel_rfl
theorem cku(a b:List UInt8):cmpB a b<0↔Go.Op.bytesLess a b=true:=by
 unfold cmpB;cases h:Go.Op.bytesLess a b
 ·rw[if_neg (by decide)];split<;>simp
 ·rw[if_pos rfl];simp
theorem cw3(a d:List UInt8)(y:Sf.Inst):beforeZ a d y<0↔aq8 a d y.addr y.dep<0:=by
 unfold beforeZ;rw[Sf.cmp2_lt];by_cases h:a=y.addr
 ·rw[if_pos h,cku];subst h;simp[Val.less_irrefl]
 ·rw[if_neg h,cku];simp[h]
theorem ak5(st:Sf.St)(hl:st.insts.length≤900000)(x:Sf.Inst)(h:Hp):
  AT 49 [st.A,.agg x.cells] h ((Rp.putS st x).A):=by
 have cr:=ajw st (by omega) x.addr x.dep;have cb:=fun y=>bzk x.addr x.dep y
 have hlt0:=fun y=>cw3 x.addr x.dep y
 have hgr:=fun(L:List Blk) (l:List Sf.Inst) (v:A) (g:GI 3 L l v) (hn:l.length≤1000000)=>g.grow x hn
 have hins1:∀y l,Sf.insL x (y::l)=if aq8 x.addr x.dep y.addr y.dep<0 then x::y::l else y::Sf.insL x l:=fun y l=>rfl
 have hput:(Rp.putS st x).A=.agg [.str st.lin,.int .i64 st.ser,.sl 13 .no ((Sf.insL x (Rp.remS st x.addr x.dep).insts).map Sf.Inst.cells),.sl 3 .no (st.pends.map Sf.Pend.cells),.sl 7 .no (st.outs.map Sf.Outp.cells)]:=rfl;have hml:(Rp.remS st x.addr x.dep).insts.length≤900000:=Zs (Sf.remL_length _ _ _) hl;have hremA:(Rp.remS st x.addr x.dep).A=.agg [.str st.lin,.int .i64 st.ser,.sl 13 .no ((Rp.remS st x.addr x.dep).insts.map Sf.Inst.cells),.sl 3 .no (st.pends.map Sf.Pend.cells),.sl 7 .no (st.outs.map Sf.Outp.cells)]:=rfl;rw[hput];rw[hremA]at cr;obtain⟨m,hm⟩:=Ex ((Rp.remS st x.addr x.dep).insts);rw[hm]at cr hml⊢;obtain⟨D,hD⟩:=Ex (Sf.insL x m);rw[hD];have hDl:D.length≤900001:=by rw[←hD,Sf.insL_length];omega
 clear hm hput hremA hl;obtain⟨lin,ser,ins,ps,os⟩:=st;simp only[Sf.St.A]at *;have lm:(m.map Sf.Inst.cells).length=m.length:=Zj _;obtain⟨a1,a2,a3,a4,⟨k,nn,ss,is,ks⟩,v0,tn,fi,ds⟩:=x;simp only[Sf.Inst.cells]at hgr⊢;dsimp only at cr cb hlt0 hins1;refine pcallv ?_ (by simp[A.pure,A.data]) h;refine fo ?_;refine aze lm (ai cr ti) ?_;refine azd (fun mm ts h=>∃(j:Nat) (L:List Blk) (acc:List Sf.Inst) (B:Bool) (v:A),mm=m.length-j∧j≤m.length∧GI 3 L acc v∧acc++(if B=true then m.drop j else Sf.insL ⟨a1,a2,a3,a4,⟨k,nn,ss,is,ks⟩,v0,tn,fi,ds⟩ (m.drop j))=D∧h=⟨.cells 26 [.str lin,.int .i64 ser,.sl 13 .no (m.map Sf.Inst.cells),.sl 3 .no (ps.map Sf.Pend.cells),.sl 7 .no (os.map Sf.Outp.cells)] :: .cells 42 [.str a1,.str a2,.str a3,.str a4,.int .i64 k,.int .i64 nn,.str ss,.sl 5 .no (V.cellss is),.sl 1 .no (strsA ks),.int .i64 v0,.bool tn,.bool fi,.sl 1 .no (strsA ds)] :: .cells 26 [.str [],.int .i64 0,.sl 0 .nil [],.sl 0 .nil [],.sl 0 .nil []]::L,[]⟩∧(ts 2=.ptr 0 0∧ts 3=.ptr 1 0∧ts 4=.ptr 2 0∧ts 5=v∧ts 6=.bool B∧ts 7=.int .i64 (j:Nat))) m.length ?_ ?_
 ·exact⟨0,[],[],false,_,by omega,by omega,GI.nil 3,hD,rfl,by(exact azo lm)⟩
 rintro mm ts h ⟨j,L,acc,B,v,rfl,hjc,gX,hacc,rfl,ht⟩;have hal:acc.length≤900001:=by rw[←hacc,Zb]at hDl;omega
 rcases Zr j m.length with hlt|hge
 ·have hf:=azp Sf.Inst.cells m j hlt (by omega);rw[Zl hlt,hins1]at hacc;have cy:=cb m[j];have hy:=hlt0 m[j];obtain⟨i1,n1,L1,hX1,gX1⟩:=gX.grow m[j] (by omega);obtain⟨i2,n2,L2,hX2,gX2⟩:=hgr L acc v gX (by omega);obtain⟨i3,n3,L3,hX3,gX3⟩:=gX2.grow m[j] (by rw[Zb];simp;omega);have hY1:=fun x y z=>hX1 [x,y,z] rfl
  have hY2:=fun x y z=>hX2 [x,y,z] rfl
  have hY3:=fun x y z=>hX3 [x,y,z] rfl
  simp only[Zd,Zg]at hY1 hY2 hY3;obtain⟨r,hr⟩:=Ex (m[j]);rw[hr]at hf hacc cy hy hY1 hY3 gX1 gX3;obtain⟨Z,hZ⟩:=Ex (beforeZ a1 a2 r);rw[hZ]at cy hy;clear hr hX1 hX2 hX3 hZ hgr hins1 cb hlt0 cr;cases B with
  |true=>
   rw[if_pos rfl]at hacc;have h1:(acc++[r])++(if true=true then m.drop (j+1)else Sf.insL ⟨a1,a2,a3,a4,⟨k,nn,ss,is,ks⟩,v0,tn,fi,ds⟩ (m.drop (j+1)))=D:=by rw[if_pos rfl,←hacc];simp
   clear hacc gX hY2 hY3 gX2 gX3 hy;obtain⟨b1,b2,b3,b4,⟨jk2,jn,js,jis,jks⟩,jv,jtn,jfi,jds⟩:=r;simp only[Sf.Inst.cells]at hf hY1 cy;refine aze (ai ht (ai hf hY1)) ti ?_;exact⟨_,by omega,j+1,L1,_,true,_,rfl,by omega,gX1,h1,rfl,by(exact azo (ai ht hf))⟩
  |false=>
   rw[if_neg (by decide)]at hacc;by_cases hz:Z<0
   ·rw[if_pos (hy.1 hz)]at hacc;have h1:((acc++[⟨a1,a2,a3,a4,⟨k,nn,ss,is,ks⟩,v0,tn,fi,ds⟩])++[r])++(if true=true then m.drop (j+1)else Sf.insL ⟨a1,a2,a3,a4,⟨k,nn,ss,is,ks⟩,v0,tn,fi,ds⟩ (m.drop (j+1)))=D:=by rw[if_pos rfl,←hacc];simp
    clear hacc gX hY1 gX1 gX2 hy;obtain⟨b1,b2,b3,b4,⟨jk2,jn,js,jis,jks⟩,jv,jtn,jfi,jds⟩:=r;simp only[Sf.Inst.cells]at hf hY2 hY3 cy;refine aze (ai ht (ai hf (ai hz (ai hY2 hY3)))) (ai cy ti) ?_;exact⟨_,by omega,j+1,L3,_,true,_,rfl,by omega,gX3,h1,rfl,by(exact azo (ai ht hf))⟩
   ·rw[if_neg (fun e=>hz (hy.2 e))]at hacc;have h1:(acc++[r])++(if false=true then m.drop (j+1)else Sf.insL ⟨a1,a2,a3,a4,⟨k,nn,ss,is,ks⟩,v0,tn,fi,ds⟩ (m.drop (j+1)))=D:=by rw[if_neg (by decide),←hacc];simp
    clear hacc gX hY2 hY3 gX2 gX3 hy;obtain⟨b1,b2,b3,b4,⟨jk2,jn,js,jis,jks⟩,jv,jtn,jfi,jds⟩:=r;simp only[Sf.Inst.cells]at hf hY1 cy;refine aze (ai ht (ai hf (ai hz hY1))) (ai cy ti) ?_;exact⟨_,by omega,j+1,L1,_,false,_,rfl,by omega,gX1,h1,rfl,by(exact azo (ai ht hf))⟩
 have hf:=azq Sf.Inst.cells m j hge;rw[ZQ (by omega)]at hacc;cases B with
 |true=>
  rw[if_pos rfl,ZN]at hacc;subst hacc;have hone:v=.sl 0 .nil []∨∃i n,v=.bs i 13 n:=by
   rcases gX.1 with⟨_,h1⟩|⟨k,h1,_⟩
   ·exact .inl h1
   ·exact .inr ⟨_,_,h1⟩
  rcases hone with rfl|⟨i,n,rfl⟩
  ·refine azc (ai ht hf) ti ?_;exact gX.fz (p:=[_,_,_]) rfl
  ·refine azc (ai ht hf) ti ?_;exact gX.fz (p:=[_,_,_]) rfl
 |false=>
  rw[if_neg (by decide)]at hacc;obtain⟨i2,n2,L2,hX2,gX2⟩:=hgr L acc v gX (by omega);have hY2:=fun x y z=>hX2 [x,y,z] rfl
  simp only[Zd,Zg]at hY2;have hacc:acc++[⟨a1,a2,a3,a4,⟨k,nn,ss,is,ks⟩,v0,tn,fi,ds⟩]=D:=hacc;rw[hacc]at gX2;refine aze (ai ht (ai hf hY2)) ti ?_;exact gX2.fz (p:=[_,_,_]) rfl
abbrev GP(t:List (TypeId×Nat×Nat))(l:List Sf.Pend)(W:Nat)(o:Own):Prop:=Gs 48 3 0 ⟨[],t⟩ (l.map Sf.Pend.cells) (.sl W o (l.map Sf.Pend.cells))
theorem GP.grow{t:List (TypeId×Nat×Nat)}{l:List Sf.Pend}{W:Nat}{o:Own}(g:GP t l W o)(x:Sf.Pend)(hn:l.length≤1000000):
  ∃W' o' t',(∀b,appA ⟨b,t⟩ 48 3 48 (.sl W o (l.map Sf.Pend.cells)) (.sl 3 .no [x.cells])=some (.sl W' o' ((l++[x]).map Sf.Pend.cells),⟨b,t'⟩))∧GP t' (l++[x]) W' o':=by
 obtain⟨W',o',t',h1,h2,_⟩:=Gs.grow g 48 x.cells (by rw[Zj];omega) (by decide);have e:l.map Sf.Pend.cells++[x.cells]=(l++[x]).map Sf.Pend.cells:=by simp
 unfold GP;rw[e]at h2;simp only[e]at h1;exact⟨W',o',t',h1,h2⟩
theorem cje(l:List Sf.Pend)(x:Sf.Pend)(t:List UInt8):Sf.remQ (l++[x]) t=if(x.tok !=t)=true then Sf.remQ l t++[x]else Sf.remQ l t:=by
 unfold Sf.remQ;rw[List.filter_append,List.filter_cons,List.filter_nil];show _=if(!(x.tok==t))=true then _ else _
 split<;>simp
theorem awx(st:Sf.St)(hl:st.pends.length≤1000000)(t:List UInt8)(h:Hp):
  AT 51 [st.A,.str t] h ((Rp.remR st t).A):=by
 unfold Rp.remR;obtain⟨lin,ser,ins,ps,os⟩:=st;simp only[Sf.St.A];dsimp only at hl;refine pcall ?_ rfl (by simp[A.pure,A.data]) h;refine azb mixedT cv3 (by simp[bza]) ?_;dsimp only[bza];have li:(ps.map Sf.Pend.cells).length=ps.length:=Zj _;refine azf li ?_;refine azd (fun mm ts h=>∃(j:Nat) (W:Nat) (o:Own) (tt:List (TypeId×Nat×Nat)),mm=ps.length-j∧j≤ps.length∧GP tt (Sf.remQ (ps.take j) t) W o∧h=⟨[.cells 26 [.str lin,.int .i64 ser,.sl 13 .no (ins.map Sf.Inst.cells),.sl 3 .no (ps.map Sf.Pend.cells),.sl 7 .no (os.map Sf.Outp.cells)],.cells 26 [.str [],.int .i64 0,.sl 0 .nil [],.sl 0 .nil [],.sl 0 .nil []]],tt⟩∧(ts 1=.str t∧ts 2=.ptr 0 0∧ts 4=.ptr 1 0∧ts 5=.sl W o ((Sf.remQ (ps.take j) t).map Sf.Pend.cells)∧ts 6=.int .i64 (j:Nat))) ps.length ?_ ?_
 ·exact⟨0,0,.nil,[],by omega,by omega,.inl ⟨rfl,rfl⟩,rfl,by(exact azo li)⟩
 rintro mm ts h ⟨j,W,o,tt,rfl,hjc,gX,rfl,ht⟩;rcases Zr j ps.length with hlt|hge
 ·have hf:=azp Sf.Pend.cells ps j hlt (by omega);have es:ps.take (j+1)=ps.take j++[ps[j]]:=(List.take_append_getElem hlt).symm;have er:=cje (ps.take j) ps[j] t;rw[←es]at er;have hlen:(Sf.remQ (ps.take j) t).length≤1000000:=Zs (Sf.remQ_length _ _) (by rw[Zk];omega);obtain⟨W',o',t',hX,gX'⟩:=gX.grow ps[j] hlen;obtain⟨r,hr⟩:=Ex (ps[j]);rw[hr]at hf er hX gX';have e1:(r.tok !=t)=true→Sf.remQ (ps.take (j+1)) t=Sf.remQ (ps.take j) t++[r]:=fun e=>by rw[er,if_pos e]
  have e0:(r.tok !=t)=false→Sf.remQ (ps.take (j+1)) t=Sf.remQ (ps.take j) t:=fun e=>by rw[er,if_neg (by rw[e];decide)]
  clear hr es er;obtain⟨b1,b2,b3⟩:=r;simp only[Sf.Pend.cells]at hf;dsimp only at e1 e0;refine azc (ai ht hf) ti ?_;(refine AX.bw0 ht ?_ ?_)
  ·intro hb;have e:=e1 hb;rw[←e]at hX gX';simp only[Sf.Pend.cells]at hX;refine aze (ai ht (ai hf hX)) ti ?_;exact⟨_,by omega,j+1,W',o',t',rfl,by omega,gX',rfl,by(exact azo (ai ht hf))⟩
  ·intro hb;have e:=e0 hb;rw[←e]at gX;refine azc (ai ht hf) ti ?_;exact⟨_,by omega,j+1,W,o,tt,rfl,by omega,gX,rfl,by rw[e];(exact azo (ai ht hf))⟩
 have hf:=azq Sf.Pend.cells ps j hge;rw[Zy (by omega)]at gX ht;have lX:=Gs.le gX;refine azc (ai ht hf) ti ?_;exact⟨.agg [.str lin,.int .i64 ser,.sl 13 .no (ins.map Sf.Inst.cells),.sl 3 .no ((Sf.remQ ps t).map Sf.Pend.cells),.sl 7 .no (os.map Sf.Outp.cells)],⟨aza _,aza _,aza _,lX,aza _,trivial⟩,rfl⟩
theorem cvn(x y:List UInt8):(!(Go.Op.bytesLess y x||y==x))=Go.Op.bytesLess x y:=by
 have:=Val.less_total x y;rw[←Bool.not_not (Go.Op.bytesLess x y),this]
theorem bj7(st:Sf.St)(hl:st.pends.length≤900000)(x:Sf.Pend)(h:Hp):
  AT 21 [st.A,.agg x.cells] h ((Rp.putR st x).A):=by
 have cr:=awx st (by omega) x.tok;have hins1:∀y l,Sf.insQ x (y::l)=if cmpZ x.tok y.tok<0 then x::y::l else y::Sf.insQ x l:=fun y l=>rfl
 have hput:(Rp.putR st x).A=.agg [.str st.lin,.int .i64 st.ser,.sl 13 .no (st.insts.map Sf.Inst.cells),.sl 3 .no ((Sf.insQ x (Rp.remR st x.tok).pends).map Sf.Pend.cells),.sl 7 .no (st.outs.map Sf.Outp.cells)]:=rfl;have hml:(Rp.remR st x.tok).pends.length≤900000:=Zs (Sf.remQ_length _ _) hl;have hremA:(Rp.remR st x.tok).A=.agg [.str st.lin,.int .i64 st.ser,.sl 13 .no (st.insts.map Sf.Inst.cells),.sl 3 .no ((Rp.remR st x.tok).pends.map Sf.Pend.cells),.sl 7 .no (st.outs.map Sf.Outp.cells)]:=rfl;rw[hput];rw[hremA]at cr;obtain⟨m,hm⟩:=Ex ((Rp.remR st x.tok).pends);rw[hm]at cr hml⊢;obtain⟨D,hD⟩:=Ex (Sf.insQ x m);rw[hD];have hDl:D.length≤900001:=by rw[←hD,Sf.insQ_length];omega
 clear hm hput hremA hl;obtain⟨lin,ser,ins,ps,os⟩:=st;simp only[Sf.St.A]at *;have lm:(m.map Sf.Pend.cells).length=m.length:=Zj _;obtain⟨a1,a2,a3⟩:=x;simp only[Sf.Pend.cells]at cr⊢;dsimp only at cr hins1;refine pcall ?_ rfl (by simp[A.pure,A.data]) h;refine fo ?_;refine aze lm (ai cr ti) ?_;refine azd (fun mm ts h=>∃(j:Nat) (W:Nat) (o:Own) (tt:List (TypeId×Nat×Nat)) (acc:List Sf.Pend) (B:Bool),mm=m.length-j∧j≤m.length∧GP tt acc W o∧acc++(if B=true then m.drop j else Sf.insQ ⟨a1,a2,a3⟩ (m.drop j))=D∧h=⟨[.cells 26 [.str lin,.int .i64 ser,.sl 13 .no (ins.map Sf.Inst.cells),.sl 3 .no (m.map Sf.Pend.cells),.sl 7 .no (os.map Sf.Outp.cells)],.cells 48 [.str a1,.str a2,.str a3],.cells 26 [.str [],.int .i64 0,.sl 0 .nil [],.sl 0 .nil [],.sl 0 .nil []]],tt⟩∧(ts 2=.ptr 0 0∧ts 3=.ptr 1 0∧ts 4=.ptr 2 0∧ts 5=.sl W o (acc.map Sf.Pend.cells)∧ts 6=.bool B∧ts 7=.int .i64 (j:Nat))) m.length ?_ ?_
 ·exact⟨0,0,.nil,[],[],false,by omega,by omega,.inl ⟨rfl,rfl⟩,hD,rfl,by(exact azo lm)⟩
 rintro mm ts h ⟨j,W,o,tt,acc,B,rfl,hjc,gX,hacc,rfl,ht⟩;have hal:acc.length≤900001:=by rw[←hacc,Zb]at hDl;omega
 rcases Zr j m.length with hlt|hge
 ·have hf:=azp Sf.Pend.cells m j hlt (by omega);rw[Zl hlt,hins1]at hacc;obtain⟨W1,o1,t1,hX1,gX1⟩:=gX.grow m[j] (by omega);obtain⟨W2,o2,t2,hX2,gX2⟩:=gX.grow ⟨a1,a2,a3⟩ (by omega);obtain⟨W3,o3,t3,hX3,gX3⟩:=gX2.grow m[j] (by rw[Zb];simp;omega);obtain⟨r,hr⟩:=Ex (m[j]);rw[hr]at hf hacc hX1 hX3 gX1 gX3;clear hr hins1 cr;cases B with
  |true=>
   rw[if_pos rfl]at hacc;have h1:(acc++[r])++(if true=true then m.drop (j+1)else Sf.insQ ⟨a1,a2,a3⟩ (m.drop (j+1)))=D:=by rw[if_pos rfl,←hacc];simp
   clear hacc gX hX2 hX3 gX2 gX3;obtain⟨F1,hF1⟩:=Ex (acc++[r]);rw[hF1]at hX1 gX1 h1;clear hF1;obtain⟨b1,b2,b3⟩:=r;simp only[Sf.Pend.cells]at hf hX1;refine aze (ai ht (ai hf hX1)) ti ?_;exact⟨_,by omega,j+1,W1,o1,t1,F1,true,rfl,by omega,gX1,h1,rfl,by(exact azo (ai ht hf))⟩
  |false=>
   rw[if_neg (by decide)]at hacc;cases hz:Go.Op.bytesLess a3 r.tok with
   |true=>
    rw[if_pos ((Sf.cmpZ_lt _ _).2 hz)]at hacc;have h1:((acc++[⟨a1,a2,a3⟩])++[r])++(if true=true then m.drop (j+1)else Sf.insQ ⟨a1,a2,a3⟩ (m.drop (j+1)))=D:=by rw[if_pos rfl,←hacc];simp
    rw[←cvn]at hz;clear hacc gX hX1 gX1 gX2;obtain⟨F2,hF2⟩:=Ex (acc++[⟨a1,a2,a3⟩]);rw[hF2]at hX2 hX3 gX3 h1;obtain⟨F1,hF1⟩:=Ex (F2++[r]);rw[hF1]at hX3 gX3 h1;clear hF1 hF2;obtain⟨b1,b2,b3⟩:=r;simp only[Sf.Pend.cells]at hf hX2 hX3;dsimp only at hz;refine aze (ai ht (ai hf (ai hz (ai hX2 hX3)))) ti ?_;exact⟨_,by omega,j+1,W3,o3,t3,F1,true,rfl,by omega,gX3,h1,rfl,by(exact azo (ai ht hf))⟩
   |false=>
    rw[if_neg (fun e=>by rw[(Sf.cmpZ_lt _ _).1 e]at hz;cases hz)]at hacc;have h1:(acc++[r])++(if false=true then m.drop (j+1)else Sf.insQ ⟨a1,a2,a3⟩ (m.drop (j+1)))=D:=by rw[if_neg (by decide),←hacc];simp
    rw[←cvn]at hz;clear hacc gX hX2 hX3 gX2 gX3;obtain⟨F1,hF1⟩:=Ex (acc++[r]);rw[hF1]at hX1 gX1 h1;clear hF1;obtain⟨b1,b2,b3⟩:=r;simp only[Sf.Pend.cells]at hf hX1;dsimp only at hz;refine aze (ai ht (ai hf (ai hz hX1))) ti ?_;exact⟨_,by omega,j+1,W1,o1,t1,F1,false,rfl,by omega,gX1,h1,rfl,by(exact azo (ai ht hf))⟩
 have hf:=azq Sf.Pend.cells m j hge;rw[ZQ (by omega)]at hacc;cases B with
 |true=>
  rw[if_pos rfl,ZN]at hacc;subst hacc;have lX:=Gs.le gX;refine azc (ai ht hf) ti ?_;exact⟨.agg [.str lin,.int .i64 ser,.sl 13 .no (ins.map Sf.Inst.cells),.sl 3 .no (acc.map Sf.Pend.cells),.sl 7 .no (os.map Sf.Outp.cells)],⟨aza _,aza _,aza _,lX,aza _,trivial⟩,rfl⟩
 |false=>
  rw[if_neg (by decide)]at hacc;obtain⟨W2,o2,t2,hX2,gX2⟩:=gX.grow ⟨a1,a2,a3⟩ (by omega);have hacc:acc++[⟨a1,a2,a3⟩]=D:=hacc;rw[hacc]at gX2 hX2;have lX:=Gs.le gX2;simp only[Sf.Pend.cells]at hX2;refine aze (ai ht (ai hf hX2)) ti ?_;exact⟨.agg [.str lin,.int .i64 ser,.sl 13 .no (ins.map Sf.Inst.cells),.sl 3 .no (D.map Sf.Pend.cells),.sl 7 .no (os.map Sf.Outp.cells)],⟨aza _,aza _,aza _,lX,aza _,trivial⟩,rfl⟩
end AX
end
end Go.Proofs.YtnghhnahdjjpkaaGreatDoor
