/- Part of what the proof needs. -/
import Derived.Test.YtdgcbckcameggacGreatDoorMFrJournalReads0
import Derived.Test.YtdgcbckcameggacGreatDoorMFrJournalReadsA
import Derived.Test.YtdgcbckcameggacGreatDoorMFrJournalReadsC
import Derived.Test.YtdgcbckcameggacGreatDoorMFrJournalReadsD
import Derived.Lib.FrozenHead
import Derived.BigRegion
import Derived.Laws.Append
import Derived.Laws.AppendOwn
import Derived.Test.YtdgcbckcameggacGreatDoorRows
import Derived.Deep.QuietTactic
import Derived.BigQuiet
import Derived.IntWalk
import Derived.Lib.MapLaws
set_option maxHeartbeats 4000000
set_option maxRecDepth 100000
set_option linter.all false
namespace Go.Proofs.YtdgcbckcameggacGreatDoor
section
open Go.RowKit
def Wtr(B b:Nat)(ver:Int)(l:List UInt8)(w:World):Prop:=
 B≤b∧∃p v,(p=.pointer none∨p=.pointer (some ⟨b,0,none⟩))∧w.heap[b]?=some (.cells #[p,v,.int .i64 ver] 160 (0,0))∧w.ownsRowF B 5 1 v l.length (Lib.byteCells l)∧v.ownBlock≠some b
def WtrU(B b:Nat)(ver:Int)(l:List UInt8)(w:World):Prop:=
 B≤b∧∃v,w.heap[b]?=some (.cells #[.pointer (some ⟨b,0,none⟩),v,.int .i64 ver] 160 (0,0))∧w.ownsRowF B 5 1 v l.length (Lib.byteCells l)∧v.ownBlock≠some b
theorem WtrU.wtr{B b:Nat}{ver:Int}{l:List UInt8}{w:World}(h:WtrU B b ver l w):Wtr B b ver l w:=by
 obtain⟨h1,v,h2,h3⟩:=h;exact⟨h1,_,v,.inr rfl,h2,h3⟩
theorem cqh(b:Nat)(w:World)(h0:w.cell? ⟨b,0,none⟩=some (.pointer none))(hsh:w.shape? b=some (160,3))(hfz:w.frozen? ⟨b,0,none⟩=false):
  Calls Tryz.prog 61 #[.pointer (some ⟨b,0,none⟩)] w fun e w'=>e=.returned (.tuple #[])∧w'=w.setCell ⟨b,0,none⟩ (.pointer (some ⟨b,0,none⟩)):=by
 obtain⟨j,hj,hjs⟩:=Zu.1 (show(Tryz.prog.info? 73).map (·.size)=some 2 by kernel_rfl);have hlies:liesAt Tryz.prog Tryz.prog.depth 160 (3/Tryz.prog.cellsOf 160) 0 73 1=true:=by kernel_rfl
 go_enter Tryz.func61,Tryz.ntmps61;go_wp2;rw[Lib.run_to_unsafe w ⟨b,0,none⟩ Tryz.underlying70 Tryz.underlying166 hj (by rw[hjs];decide) hsh (by show 0<3;omega)];simp only[Result.andThen];rw[Oper.upon_value];go_wp2;rw[run_callFunc_extern Tryz.func98 (by kernel_rfl) (by kernel_rfl) (by kernel_rfl) (e:=Extern.AbiNoEscape.same) (by kernel_rfl)];rw[Lib.run_noEscape];simp only[Result.andThen];rw[Oper.upon_value];go_wp2;rw[Lib.run_from_unsafe w ⟨b,0,none⟩ Tryz.underlying166 Tryz.underlying70 hj hsh hlies];simp only[Result.andThen];rw[Oper.upon_value];go_wp2
 go_end0
 exact⟨rfl,rfl⟩
theorem aqi{w:World}{b:Nat}{p v x:Value}{T:TypeId}(h:w.heap[b]?=some (.cells #[p,v,x] T (0,0))):w.cell? ⟨b,0,none⟩=some p∧w.cell? ⟨b,1,none⟩=some v∧w.cell? ⟨b,2,none⟩=some x∧(∀i,w.frozen? ⟨b,i,none⟩=false)∧w.shape? b=some (T,3)∧b<w.heap.size:=by
 refine⟨?_,?_,?_,fun i=>?_,?_,(Z0.1 h).1⟩
 ·rw[cell_of_row _ _ _ _ _ _ h];rfl
 ·rw[cell_of_row _ _ _ _ _ _ h];rfl
 ·rw[cell_of_row _ _ _ _ _ _ h];rfl
 ·simp[World.frozen?,h]
 ·simp[World.shape?,h]
theorem Wtr.used{B b:Nat}{ver:Int}{l:List UInt8}{w:World}{p v:Value}(hB:B≤b)(hb:w.heap[b]?=some (.cells #[p,v,.int .i64 ver] 160 (0,0)))(hown:w.ownsRowF B 5 1 v l.length (Lib.byteCells l))(hne:v.ownBlock≠some b):
  WtrU B b ver l (w.setCell ⟨b,0,none⟩ (.pointer (some ⟨b,0,none⟩))):=by
 refine⟨hB,v,?_,?_,hne⟩
 ·simp[World.setCell,Z5,hb]
 ·exact hown.kept (row:=some b) ⟨rfl,rfl,rfl,by simp[World.setCell],fun k _ hk=>Below.heap_setCell _ _ _ _ (fun e=>hk (by simp[e]))⟩ (Or.inr hne)
theorem aky:(Tryz.prog.info? 5).map (fun i=>(i.zero,i.size,i.bytes))=some (some (.int .u8 0),1,1):=by kernel_rfl
theorem cw8{B b:Nat}{ver:Int}{l:List UInt8}{w:World}(h:Wtr B b ver l w):
  Calls Tryz.prog 26 #[.pointer (some ⟨b,0,none⟩)] w fun e w'=>e=.returned (.int .i64 l.length)∧w'=w:=by
 obtain⟨hB,p,v,hp,hb,hown,hne⟩:=h;obtain⟨c0,c1,c2,hf,hsh,hlt⟩:=aqi hb;obtain⟨ao,cap,rfl⟩:∃ao cap,v=.slice ao l.length cap:=by
  rcases hown.2 with⟨hv,h0⟩|⟨g,cap,cur,fz,hv,_⟩
  ·exact⟨none,0,by rw[hv,h0]⟩
  ·exact⟨_,_,hv⟩
 clear hown hp hne hb;go_enter Tryz.func26,Tryz.ntmps26;go_wp2
 go_ret
 exact⟨rfl,rfl⟩
def WF(F:Nat→Prop)(b:Nat)(ver:Int)(l:List UInt8)(w:World):Prop:=
 ∃p v,(p=.pointer none∨p=.pointer (some ⟨b,0,none⟩))∧w.heap[b]?=some (.cells #[p,v,.int .i64 ver] 160 (0,0))∧w.ownsRowF 0 5 1 v l.length (Lib.byteCells l)∧v.ownBlock≠some b∧F b∧∀k,v.ownBlock=some k→F k
structure Fr(F:Nat→Prop)(w w':World):Prop where
 os:w'.os=w.os
 tape:w'.tape=w.tape
 output:w'.output=w.output
 size:w.heap.size≤w'.heap.size
 block:∀k,k<w.heap.size→¬F k→w'.heap[k]?=w.heap[k]?
theorem Fr.refl(F:Nat→Prop)(w:World):Fr F w w:=⟨rfl,rfl,rfl,Zf _,fun _ _ _=>rfl⟩
theorem Fr.trans{F:Nat→Prop}{a b c:World}(h:Fr F a b)(k:Fr F b c):Fr F a c:=
 ⟨k.os.trans h.os,k.tape.trans h.tape,k.output.trans h.output,Zl h.size k.size,fun g hg hn=>(k.block g (ZK hg h.size) hn).trans (h.block g hg hn)⟩
theorem Fr.grown{F:Nat→Prop}{a b:World}{r:Option Nat}(h:a.grownBy b r)(hr:∀k,r=some k→F k):Fr F a b:=
 ⟨h.os,h.tape,h.output,h.size,fun g hg hn=>h.block g hg fun e=>hn (hr g e.symm)⟩
theorem Fr.set{F:Nat→Prop}(w:World)(b i:Nat)(v:Value)(hF:F b):Fr F w (w.setCell ⟨b,i,none⟩ v):=
 Fr.grown (grown_set' w b i v) fun k hk=>by injection hk with hk;subst hk;exact hF
where grown_set' (w:World) (g i:Nat) (v:Value):w.grownBy (w.setCell ⟨g,i,none⟩ v) (some g):=
 ⟨rfl,rfl,rfl,by simp[World.setCell],fun k _ hk=>Below.heap_setCell _ _ _ _ (fun e=>hk (by simp[e]))⟩
theorem WF.wtr{F:Nat→Prop}{b:Nat}{ver:Int}{l:List UInt8}{w:World}(h:WF F b ver l w):Wtr 0 b ver l w:=by
 obtain⟨p,v,hp,hb,hown,hne,_⟩:=h;exact⟨Zz _,p,v,hp,hb,hown,hne⟩
theorem cxu{F:Nat→Prop}{b:Nat}{ver:Int}{l:List UInt8}{w:World}(h:WF F b ver l w):
  Calls Tryz.prog 61 #[.pointer (some ⟨b,0,none⟩)] w fun e w'=>e=.returned (.tuple #[])∧(∃v,w'.heap[b]?=some (.cells #[.pointer (some ⟨b,0,none⟩),v,.int .i64 ver] 160 (0,0))∧w'.ownsRowF 0 5 1 v l.length (Lib.byteCells l)∧v.ownBlock≠some b∧F b∧∀k,v.ownBlock=some k→F k)∧Fr F w w':=by
 obtain⟨p,v,hp,hb,hown,hne,hF,hFk⟩:=h;obtain⟨c0,c1,c2,hf,hsh,hlt⟩:=aqi hb;rcases hp with rfl|rfl
 ·refine(cqh b w c0 hsh (hf 0)).mono ?_;rintro e w' ⟨rfl,rfl⟩;obtain⟨_,v',hb',hown',hne'⟩:=Wtr.used (B:=0) (Zz _) hb hown hne;have hv:v'=v:=by
   have:=(aqi hb').2.1;have h2:(w.setCell ⟨b,0,none⟩ (.pointer (some ⟨b,0,none⟩))).heap[b]?=some (.cells #[.pointer (some ⟨b,0,none⟩),v,.int .i64 ver] 160 (0,0)):=by simp[World.setCell,Z5,hb]
   have h3:=(aqi h2).2.1;rw[h3]at this;injection this with this;exact this.symm
  subst hv;exact⟨rfl,⟨v',hb',hown',hne',hF,hFk⟩,Fr.set w b 0 _ hF⟩
 ·refine(Any.Builder_copyCheck_used Tryz.lays240 Tryz.Builder_X72_240 b w c0).mono ?_;rintro e w' ⟨rfl,rfl⟩;exact⟨rfl,⟨v,hb,hown,hne,hF,hFk⟩,Fr.refl F _⟩
theorem cji{P:Program}(w:World)(t u ty e:TypeId)(i:TypeInfo)(ht:P.underlying t=some (.slice e))(hu:P.underlying u=some .string)(hi:P.info? e=some i)(hz:i.zero=some (.int .u8 0))
  (hsize:i.size=1) (hby:i.bytes=1) (v:Value) (n:Nat) (xs:List Value) (hown:w.ownsRowF 0 e 1 v n xs) (s:ByteArray) (h63:n+s.size≤maxLen) (hbytes:n+s.size≤140737488355328):
  ∃v' w',(Builtin.append_ #[t,u] ty #[v,.string s]).run P w=.ok v' w'∧w'.ownsRowF 0 e 1 v' (n+s.size) (xs++Lib.strCells s)∧w.grownBy w' v.ownBlock∧(∀k,v'.ownBlock=some k→v.ownBlock=some k∨w.heap.size≤k):=by
 obtain⟨v',w',hr,h2,h3,h4⟩:=Lib.run_append_own_stringF (P:=P) w 0 t u ty e i ht hu hi hz hsize hby v n xs hown s h63 hbytes (Zz _);refine⟨v',w',hr,h2,h3,fun k hk=>?_⟩;rcases hown.2 with⟨rfl,rfl⟩|⟨g,cap,cur,fz,rfl,hbg,hg,hfz,hnc,hcm,hcs,htake⟩
 ·obtain⟨v2,w2,k1,k2,k3,k4⟩:=Lib.run_append_own_string (P:=P) w w.heap.size t u ty e i ht hu hi hz hsize hby (.slice none 0 0) 0 xs ⟨hown.1,.inl ⟨rfl,rfl⟩⟩ s h63 hbytes (Zf _);rw[hr]at k1;injection k1 with e1 e2;subst e1;exact .inr (k2.lt k hk).1
 ·have hsmall:n+s.size≤9223372036854775807:=by simp only[maxLen]at h63;omega
  have hxl:xs.length=n:=by simpa using hown.1
  by_cases hroom:n+s.size≤cap
  ·have hcs':cur.size=cap:=by simpa using hcs
   have hr2:=Lib.run_append_room_stringF (P:=P) w t u ty e i ht hu hi hsize g n cap cur fz hg (by simpa using hfz) s hroom (by omega);rw[hr]at hr2;injection hr2 with e1 e2;subst e1;exact .inl hk
  ·have holds:∀j u,xs[j]?=some u→w.cell? ((⟨g,0,none⟩:Addr).add j)=some u:=hown.cells (g:=g) rfl;have hr2:=Lib.run_append_grow_string (P:=P) w t u ty e i (.int .u8 0) ht hu hi hz ⟨g,0,none⟩ n cap xs (by rw[hsize];simpa using hxl) holds s (by omega) (by omega) (by rw[hby];exact growslice_fits (by omega) (by omega));rw[hr]at hr2;injection hr2 with e1 e2;subst e1;simp only[Value.ownBlock,Zb]at hk;exact .inr (by omega)
theorem aq4{P:Program}(w:World){ops:Array Oper}{rest:List Oper}{o:Oper}{a:Act}{Q:Exit→Act→World→Prop}(hgd:o.guard=none)(sl x:Operand)(t u:TypeId)
  (ho:o.op=.call { callee:=.builtin .append,args:=#[sl,x],argTypes:=#[t,u] })
  (e:TypeId) (i:TypeInfo) (ht:P.underlying t=some (.slice e)) (hu:P.underlying u=some .string) (hi:P.info? e=some i) (hz:i.zero=some (.int .u8 0))
  (hsize:i.size=1) (hby:i.bytes=1)
  (v:Value) (n:Nat) (xs:List Value) (hs:a.eval sl=v) (hown:w.ownsRowF 0 e 1 v n xs) (s:ByteArray) (hx:a.eval x=.string s)
  (h63:n+s.size≤maxLen) (hbytes:n+s.size≤140737488355328)
  (h:∀v' w',w'.ownsRowF 0 e 1 v' (n+s.size) (xs++Lib.strCells s)→w.grownBy w' v.ownBlock→(∀k,v'.ownBlock=some k→v.ownBlock=some k∨w.heap.size≤k)→wpList P ops Q rest (a.put o.dst v') w'):wpList P ops Q (o::rest) a w:=by
 refine wpList_plain hgd fun K hK=>?_
 obtain⟨v',w',hr,h2,h3,h4⟩:=cji (P:=P) w t u o.type e i ht hu hi hz hsize hby v n xs hown s h63 hbytes;unfold Oper.wp execOp;simp only[ho,resolve,invoke,builtin,Sem.run_bind,Sem.run_pure,Result.andThen_ok,List.map_toArray,ZW,Ym,hs,hx,hr];exact hK _ _ (h v' w' h2 h3 h4)
theorem cx5{F:Nat→Prop}{b:Nat}{ver:Int}{l:List UInt8}{w:World}(h:WF F b ver l w)(s:List UInt8)(hlen:l.length+s.length≤1000000000):
  Calls Tryz.prog 27 #[.pointer (some ⟨b,0,none⟩),.string ⟨s.toArray⟩] w fun e w'=>e=.returned (.tuple #[.int .i64 s.length,.nilIface])∧WF (fun k=>F k∨w.heap.size≤k) b ver (l++s) w'∧Fr F w w':=by
 obtain⟨i0,hi,hz0,hz1,hz2⟩:=info_parts aky;go_enter Tryz.func27,Tryz.ntmps27;go_wp2_with fail;(with_reducible refine(cxu h).mono ?_);rintro e w1 ⟨rfl,⟨v,hbk,hown,hne,hF,hFk⟩,hb1⟩;obtain⟨c0,c1,c2,hf,hsh,hlt⟩:=aqi hbk;go_wp2_with (at_builtin;refine aq4 _ rfl _ _ 71 9 rfl 5 i0 Tryz.underlying71 Tryz.underlying9 hi hz0 hz1 hz2 _ _ _ rfl hown ⟨s.toArray⟩ rfl ?c3 ?c4 ?_)
 case c3=>rw[size_mk];unfold maxLen;omega
 case c4=>rw[size_mk];omega
 intro v' w2 hown' hgrow hwhere;have hb2:w2.heap[b]?=some (.cells #[.pointer (some ⟨b,0,none⟩),v,.int .i64 ver] 160 (0,0)):=(hgrow.block b hlt (fun e=>hne e.symm)).trans hbk;obtain⟨d0,d1,d2,hf2,_,hlt2⟩:=aqi hb2;have f1:=hf2 1;have hown2:w2.ownsRowF 0 5 1 v' (l++s).length (Lib.byteCells (l++s)):=by
  have e1:(⟨s.toArray⟩:ByteArray).size=s.length:=size_mk s;have e2:Lib.byteCells l++Lib.strCells ⟨s.toArray⟩=Lib.byteCells (l++s):=by unfold Lib.strCells Lib.byteCells;simp
  rw[Za,←e2,←e1];exact hown'
 have hne2:=Lib.ownBlock_neF hown2 hb2 (show 160≠5 by decide);have hwb1:=hb1.size
 have Hfin:=kept (show WF (fun k=>F k∨w.heap.size≤k) b ver (l++s) (w2.setCell ⟨b,1,none⟩ v')from by
  refine⟨_,v',.inr rfl,?_,?_,hne2,.inl hF,fun k hk=>?_⟩
  ·simp[World.setCell,Z5,hb2]
  ·exact hown2.kept (row:=some b) ⟨rfl,rfl,rfl,by simp[World.setCell],fun k _ hk=>Below.heap_setCell _ _ _ _ (fun e=>hk (by simp[e]))⟩ (Or.inr hne2)
  ·rcases hwhere k hk with h1|h1
   ·exact .inl (hFk k h1)
   ·exact .inr (by omega))
 have Hfr:=kept ((hb1.trans (Fr.grown hgrow fun k hk=>hFk k hk)).trans (Fr.set w2 b 1 v' hF));obtain⟨ao,n',cap,rfl⟩:∃ao n' cap,v'=.slice ao n' cap:=by
  rcases hown'.2 with⟨hv,_⟩|⟨g,cap,cur,fz,hv,_⟩
  ·exact⟨_,_,_,hv⟩
  ·exact⟨_,_,_,hv⟩
 clear hown' hown2 hne2 hb2 hbk hown hne hgrow hb1 h hwhere;go_wp2
 go_ret2
 exact⟨by simp,Hfin.out,Hfr.out⟩
theorem czi{F:Nat→Prop}{b:Nat}{ver:Int}{l:List UInt8}{w:World}(h:WF F b ver l w)(h0:l≠[]):
  Calls Tryz.prog 28 #[.pointer (some ⟨b,0,none⟩)] w fun e w'=>e=.returned (.string ⟨l.toArray⟩)∧Fr F w w':=by
 obtain⟨p,v,hp,hbk,hown,hne,hFb,hFk⟩:=h;have hl0:l.length≠0:=by simpa using h0
 obtain⟨g,cap,cur,fz,rfl,hbg,hg,hfz,hnc,hcm,hcs,htake⟩:∃g cap cur fz,v=.slice (some ⟨g,0,none⟩) l.length cap∧0≤g∧w.heap[g]?=some (.cells cur 5 fz)∧fz.2≤l.length*1∧l.length≤cap∧cap≤maxLen∧cur.size=cap*1∧cur.toList.take (l.length*1)=Lib.byteCells l:=by
  rcases hown.2 with⟨_,hz⟩|⟨g,cap,cur,fz,hv,r⟩
  ·exact absurd hz hl0
  ·exact⟨g,cap,cur,fz,hv,r⟩
 have HFg:=kept (hFk g rfl);have c1:w.drew.cell? ⟨b,1,none⟩=some (.slice (some ⟨g,0,none⟩) l.length cap):=(aqi hbk).2.1;have hSD:(Builtin.unsafeSliceData_ #[71] 116 #[.slice (some ⟨g,0,none⟩) l.length cap]).run Tryz.prog w.drew=.ok (.pointer (some ⟨g,0,none⟩)) w.drew:=
  Lib.run_unsafeSliceData_row _ _ _ _ _ _ (by omega)
 have hUS:(Builtin.unsafeString_ #[116,3] 9 #[.pointer (some ⟨g,0,none⟩),.int .i64 l.length]).run Tryz.prog w.drew=.ok (.string ⟨l.toArray⟩) (w.drew.freeze ⟨g,0,none⟩ l.length):=by
  refine Lib.run_unsafeString_row w.drew 116 3 9 5 Tryz.underlying116 Tryz.Builder_Extra_169.cellsByte g cur.size (by have hg':w.drew.heap[g]?=some (.cells cur 5 fz):=hg;simp[World.shape?,hg']) l h0 (by omega) (by unfold maxLen at hcm;omega) ?_;intro j x hx;have:=hown.cells (g:=g) rfl j (.int .u8 x.toNat) (by simp[Lib.byteCells,hx]);exact this
 have Hfr:=kept (show Fr F w (w.drew.freeze ⟨g,0,none⟩ l.length)from by
  unfold World.freeze;split
  ·exact⟨rfl,rfl,rfl,Zf _,fun _ _ _=>rfl⟩
  ·refine⟨rfl,rfl,rfl,by simp,fun k hk hn=>?_⟩;have hkg:k≠g:=fun e=>hn (by rw[e];exact HFg.out)
   simp only[Z5,if_neg hkg.symm];rfl)
 clear hown hp hne hbk hnc hcm hcs htake hfz hg hl0 h0 hFk hFb;have mixed:=Tryz.lays169.mixed;go_enter Tryz.func28,Tryz.ntmps28;go_wp2
 go_region_o
 all_goals (go_wp2;go_ret;exact⟨rfl,Hfr.out⟩)
theorem cj5(s:ByteArray)(i lo hi:Int)(w:World)(h0:0≤i):
  Calls Tryz.prog 244 #[.string s,.int .i64 i,.int .u8 lo,.int .u8 hi] w fun e w'=>e=.returned (.bool (Str.inB s i.toNat lo hi))∧w=w':=by
 by_cases h1:i<s.size
 ·have h1':i.toNat<s.size:=by omega
  by_cases h2:lo≤(s[i.toNat].toNat:Int)
  ·have Hc:=kept (show Str.inB s i.toNat lo hi=decide ((s[i.toNat].toNat:Int)≤hi) by simp[Str.inB,h1',h2]);go_enter Tryz.func244,Tryz.ntmps244;go_wp2
   go_ret
   exact⟨aqb Hc.out.symm,rfl⟩
  ·have Hc:=kept (show Str.inB s i.toNat lo hi=false by simp[Str.inB,h2]);go_enter Tryz.func244,Tryz.ntmps244;go_wp2
   go_ret
   exact⟨aqb Hc.out.symm,rfl⟩
 ·have Hc:=kept (show Str.inB s i.toNat lo hi=false by simp[Str.inB];omega);go_enter Tryz.func244,Tryz.ntmps244;go_wp2
  go_ret
  exact⟨aqb Hc.out.symm,rfl⟩
theorem azl(s:ByteArray)(i lo hi:Int)(k:Nat)(c:Bool)(w:World)(h0:0≤i)(hk:i.toNat=k)(h:Str.inB s k lo hi=c):
  Calls Tryz.prog 244 #[.string s,.int .i64 i,.int .u8 lo,.int .u8 hi] w fun e w'=>e=.returned (.bool c)∧w=w':=by
 subst hk;subst h;exact cj5 s i lo hi w h0
theorem aje(b:UInt8):bits .and .u8 (b.toNat:Int) 63=(b.toNat:Int)%64:=by
 have:=b.toNat_lt;rw[show(63:Int)=((63:Nat):Int)from rfl,u8_and_nat _ _ (by omega) (by omega),show(63:Nat)=2^6-1 from rfl,YN];rfl
theorem dz9(b:UInt8):bits .and .u8 (b.toNat:Int) 31=(b.toNat:Int)%32:=by
 have:=b.toNat_lt;rw[show(31:Int)=((31:Nat):Int)from rfl,u8_and_nat _ _ (by omega) (by omega),show(31:Nat)=2^5-1 from rfl,YN];rfl
theorem cwq(b:UInt8):bits .and .u8 (b.toNat:Int) 15=(b.toNat:Int)%16:=by
 have:=b.toNat_lt;rw[show(15:Int)=((15:Nat):Int)from rfl,u8_and_nat _ _ (by omega) (by omega),show(15:Nat)=2^4-1 from rfl,YN];rfl
theorem and7(b:UInt8):bits .and .u8 (b.toNat:Int) 7=(b.toNat:Int)%8:=by
 have:=b.toNat_lt;rw[show(7:Int)=((7:Nat):Int)from rfl,u8_and_nat _ _ (by omega) (by omega),show(7:Nat)=2^3-1 from rfl,YN];rfl
theorem dzu(x y p:Nat)(n:Nat)(hp:p=2^n)(hy:y<p)(hx:x*p<1152921504606846976)(hp2:p<1152921504606846976):bits .or .i64 ((x:Int)*(p:Int)) (y:Int)=((x*p+y:Nat):Int):=by
 subst hp;have h:=u64_or_nat (x*2^n) y (by omega) (by omega);have e:(x*2^n ||| y)=x*2^n+y:=by rw[Nat.mul_comm,←Nat.two_pow_add_eq_or_of_lt hy]
 rw[e]at h;rw[←Int.natCast_mul];have h1:(BitVec.ofInt 64 ((x*2^n:Nat):Int) ||| BitVec.ofInt 64 (y:Int)).toNat=x*2^n+y:=by
  rw[BitVec.toNat_or,BitVec.ofInt_natCast,BitVec.ofInt_natCast,BitVec.toNat_ofNat,BitVec.toNat_ofNat,YM (by omega),YM (by omega),e]
 show IntKind.i64.wrap ((BitVec.ofInt 64 ((x*2^n:Nat):Int) ||| BitVec.ofInt 64 (y:Int)).toNat:Int)=_
 rw[h1,IntKind.wrap_i64];omega
theorem aqf(x y:Int)(p:Nat)(n:Nat)(hp:p=2^n)(hx0:0≤x)(hx:x<16777216)(hy0:0≤y)(hy:y<p)(hp2:p<16777216):bits .or .i64 (x*(p:Int)) y=x*(p:Int)+y:=by
 obtain⟨X,rfl⟩:=Int.eq_ofNat_of_zero_le hx0;obtain⟨Y,rfl⟩:=Int.eq_ofNat_of_zero_le hy0;have hX:X<16777216:=by omega
 have hXp:X*p≤16777216*16777216:=Nat.mul_le_mul (by omega) (by omega);rw[dzu X Y p n hp (by omega) (by omega) (by omega)];simp
def DecEnd(d:Nat×Nat):Ending:=.returned (.tuple #[.int .i64 d.1,.int .i64 d.2])
theorem ajl(x m:Int)(c n:Nat)(hx:x=c)(hm:m=n):Ending.returned (.tuple #[.int .i64 x,.int .i64 m])=DecEnd (c,n):=by subst hx;subst hm;rfl
theorem ckw(s:ByteArray)(k:Nat)(w:World)(hk:¬k<s.size):
  Calls Tryz.prog 226 #[.string s,.int .i64 k] w fun e w'=>e=DecEnd (Str.refDec s k)∧∃q,w'=w.drewN q:=by
 have Hr:=kept (Str.refDec_end s k hk);have hk':(s.size:Int)≤k:=by omega
 clear hk;go_enter Tryz.func226,Tryz.ntmps226;go_wp2
 go_ret2
 exact⟨by rw[Hr.out];rfl,0,rfl⟩
theorem by7(s:ByteArray)(k:Nat)(w:World)(hk:k<s.size)(h:s[k].toNat<128):
  Calls Tryz.prog 226 #[.string s,.int .i64 k] w fun e w'=>e=DecEnd (Str.refDec s k)∧∃q,w'=w.drewN q:=by
 have Hr:=kept (Str.refDec_ascii s k hk h);have Hb:=kept (show((s[k].toNat:Nat):Int)<256 by have:=s[k].toNat_lt;omega);have hk':(k:Int)<s.size:=by omega
 have h':(s[k].toNat:Int)<128:=by omega
 obtain⟨u,hu⟩:∃u:Int,(s[k].toNat:Int)=u:=⟨_,rfl⟩;have hu0:0≤u:=by omega
 have Hu:=kept hu;rw[hu]at h';clear h;go_enter Tryz.func226,Tryz.ntmps226;go_wp2
 go_ret2
 exact⟨by rw[Hr.out];show _=DecEnd _;unfold DecEnd;rw[Hu.out];rfl,0,rfl⟩
theorem cwo(s:ByteArray)(k:Nat)(w:World)(hk:k<s.size)(hs:s.size≤1000000000)(h1:194≤s[k].toNat)(h2:s[k].toNat≤223)(hc:Str.inB s (k+1) 128 191=true):
  Calls Tryz.prog 226 #[.string s,.int .i64 k] w fun e w'=>e=DecEnd (Str.refDec s k)∧∃q,w'=w.drewN q:=by
 have Hr:=kept (Str.refDec_two s k hk h1 h2 hc);have Hc:=kept hc;have hk1:k+1<s.size:=(Str.inB_true hc).1;have hg1:=Str.get_lt s (k+1) hk1;have hk':(k:Int)+1<s.size:=by omega
 have a0:=dz9 s[k];have a1:=aje s[k+1];obtain⟨u0,hu0⟩:∃u:Int,(s[k].toNat:Int)=u:=⟨_,rfl⟩;have Hu0:=kept hu0;have hu00:0≤u0:=by omega
 have hu01:u0<256:=by have:=s[k].toNat_lt;omega
 obtain⟨u1,hu1⟩:∃u:Int,(s[k+1].toNat:Int)=u:=⟨_,rfl⟩;have Hu1:=kept hu1;have hu10:0≤u1:=by omega
 have hu11:u1<256:=by have:=s[k+1].toNat_lt;omega
 have h1':194≤u0:=by omega
 have h2':u0≤223:=by omega
 rw[hu0]at a0;rw[hu1]at a1;have o1:bits .or .i64 ((u0%32)*64) ((u1%64))=(u0%32)*64+(u1%64):=aqf ((u0%32)) ((u1%64)) 64 6 (by decide) (by omega) (by omega) (by omega) (by omega) (by omega);have Hg1:=kept hg1;clear hg1;clear h1 h2 hc;go_enter Tryz.func226,Tryz.ntmps226;go_wp2_with fail;refine(azl _ _ _ _ (k+1) true _ (by omega) (by omega) Hc.out).mono ?_;rintro e w' ⟨rfl,rfl⟩;go_wp2
 go_ret2
 refine⟨?_,0,rfl⟩;rw[Hr.out];refine ajl _ _ _ _ ?_ rfl;have:=Hu0.out;have:=Hu1.out;have:=Hg1.out;omega
theorem bwd(s:ByteArray)(k:Nat)(w:World)(hk:k<s.size)(hs:s.size≤1000000000)(h1:194≤s[k].toNat)(h2:s[k].toNat≤223)(hc:Str.inB s (k+1) 128 191=false):
  Calls Tryz.prog 226 #[.string s,.int .i64 k] w fun e w'=>e=DecEnd (Str.refDec s k)∧∃q,w'=w.drewN q:=by
 have Hr:=kept (Str.refDec_two_no s k hk h1 h2 hc);have Hc:=kept hc;have hk':(k:Int)<s.size:=by omega
 obtain⟨u0,hu0⟩:∃u:Int,(s[k].toNat:Int)=u:=⟨_,rfl⟩;have Hu0:=kept hu0;have hu00:0≤u0:=by omega
 have hu01:u0<256:=by have:=s[k].toNat_lt;omega
 have h1':194≤u0:=by omega
 have h2':u0≤223:=by omega
 clear h1 h2 hc;go_enter Tryz.func226,Tryz.ntmps226;go_wp2_with fail;refine(azl _ _ _ _ (k+1) false _ (by omega) (by omega) Hc.out).mono ?_;rintro e w' ⟨rfl,rfl⟩;go_wp2
 go_ret2
 exact⟨by rw[Hr.out];rfl,0,rfl⟩
theorem bjp(s:ByteArray)(k:Nat)(w:World)(hk:k<s.size)(hs:s.size≤1000000000)(h1:s[k].toNat=224)(hc:Str.inB s (k+1) 160 191=true)(hd:Str.inB s (k+2) 128 191=true):
  Calls Tryz.prog 226 #[.string s,.int .i64 k] w fun e w'=>e=DecEnd (Str.refDec s k)∧∃q,w'=w.drewN q:=by
 have Hr:=kept (Str.refDec_three s k hk 160 191 (by omega) (by omega) (by simp[*]) (by simp[*]) hc hd);have Hc:=kept hc;have Hd:=kept hd;have hk1:k+1<s.size:=(Str.inB_true hc).1;have hg1:=Str.get_lt s (k+1) hk1;have hk2:k+2<s.size:=(Str.inB_true hd).1;have hg2:=Str.get_lt s (k+2) hk2;have hk':(k:Int)+2<s.size:=by omega
 have a0:=cwq s[k];have a1:=aje s[k+1];have a2:=aje s[k+2];obtain⟨u0,hu0⟩:∃u:Int,(s[k].toNat:Int)=u:=⟨_,rfl⟩;have Hu0:=kept hu0;have hu00:0≤u0:=by omega
 have hu01:u0<256:=by have:=s[k].toNat_lt;omega
 obtain⟨u1,hu1⟩:∃u:Int,(s[k+1].toNat:Int)=u:=⟨_,rfl⟩;have Hu1:=kept hu1;have hu10:0≤u1:=by omega
 have hu11:u1<256:=by have:=s[k+1].toNat_lt;omega
 obtain⟨u2,hu2⟩:∃u:Int,(s[k+2].toNat:Int)=u:=⟨_,rfl⟩;have Hu2:=kept hu2;have hu20:0≤u2:=by omega
 have hu21:u2<256:=by have:=s[k+2].toNat_lt;omega
 rw[hu0]at a0;rw[hu1]at a1;rw[hu2]at a2;have h1':u0=224:=by omega
 subst h1';have o1:bits .or .i64 (0) (u1%64*64)=u1%64*64:=by have:=aqf (0) (u1%64*64) 4096 12 (by decide) (by omega) (by omega) (by omega) (by omega) (by omega);simpa using this
 have o2:bits .or .i64 (u1%64*64) (u2%64)=u1%64*64+u2%64:=by
  have:=aqf (0*64+u1%64) (u2%64) 64 6 (by decide) (by omega) (by omega) (by omega) (by omega) (by omega)
  rwa [show(0*64+u1%64)*((64:Nat):Int)=u1%64*64 by omega]at this
 have Hg1:=kept hg1;clear hg1;have Hg2:=kept hg2;clear hg2;clear h1 hc hd;go_enter Tryz.func226,Tryz.ntmps226;go_wp2_with fail;refine(azl _ _ _ _ (k+1) true _ (by omega) (by omega) Hc.out).mono ?_;rintro e w' ⟨rfl,rfl⟩;go_wp2_with fail;refine(azl _ _ _ _ (k+2) true _ (by omega) (by omega) Hd.out).mono ?_;rintro e w' ⟨rfl,rfl⟩;go_wp2;have i1:(0:Int)≤(k:Int)+1:=by omega
 have v1:(k:Int)+1<s.size:=by omega
 have w1:IntKind.i64.wrap ((k:Int)+1)=(k:Int)+1:=IntWalk.i64_in _ (by omega);have n1:((k:Int)+1).toNat=k+1:=by omega
 have i2:(0:Int)≤(k:Int)+2:=by omega
 have v2:(k:Int)+2<s.size:=by omega
 have w2:IntKind.i64.wrap ((k:Int)+2)=(k:Int)+2:=IntWalk.i64_in _ (by omega);have n2:((k:Int)+2).toNat=k+2:=by omega
 have s1:IntKind.i64.wrap (224%16*4096)=224%16*4096:=IntWalk.i64_in _ (by omega);have s2:IntKind.i64.wrap (u1%64*64)=u1%64*64:=IntWalk.i64_in _ (by omega)
 go_region
 clear w1 n1 w2 n2 s1 s2;go_wp2
 go_ret2
 refine⟨?_,_,rfl⟩;rw[Hr.out];refine ajl _ _ _ _ ?_ rfl;have:=Hu0.out;have:=Hu1.out;have:=Hg1.out;have:=Hu2.out;have:=Hg2.out;omega
theorem aws(s:ByteArray)(k:Nat)(w:World)(hk:k<s.size)(hs:s.size≤1000000000)(h1:s[k].toNat=224)(hc:Str.inB s (k+1) 160 191=false):
  Calls Tryz.prog 226 #[.string s,.int .i64 k] w fun e w'=>e=DecEnd (Str.refDec s k)∧∃q,w'=w.drewN q:=by
 have Hr:=kept (Str.refDec_three_no s k hk 160 191 (by omega) (by omega) (by simp[*]) (by simp[*]) (.inl hc));have Hc:=kept hc;have hk':(k:Int)<s.size:=by omega
 obtain⟨u0,hu0⟩:∃u:Int,(s[k].toNat:Int)=u:=⟨_,rfl⟩;have Hu0:=kept hu0;have hu00:0≤u0:=by omega
 have hu01:u0<256:=by have:=s[k].toNat_lt;omega
 have h1':u0=224:=by omega
 subst h1';clear h1 hc;go_enter Tryz.func226,Tryz.ntmps226;go_wp2_with fail;refine(azl _ _ _ _ (k+1) false _ (by omega) (by omega) Hc.out).mono ?_;rintro e w' ⟨rfl,rfl⟩;go_wp2
 go_ret2
 exact⟨by rw[Hr.out];rfl,0,rfl⟩
theorem awx(s:ByteArray)(k:Nat)(w:World)(hk:k<s.size)(hs:s.size≤1000000000)(h1:s[k].toNat=224)(hc:Str.inB s (k+1) 160 191=true)(hd:Str.inB s (k+2) 128 191=false):
  Calls Tryz.prog 226 #[.string s,.int .i64 k] w fun e w'=>e=DecEnd (Str.refDec s k)∧∃q,w'=w.drewN q:=by
 have Hr:=kept (Str.refDec_three_no s k hk 160 191 (by omega) (by omega) (by simp[*]) (by simp[*]) (.inr hd));have Hc:=kept hc;have Hd:=kept hd;have hk':(k:Int)<s.size:=by omega
 obtain⟨u0,hu0⟩:∃u:Int,(s[k].toNat:Int)=u:=⟨_,rfl⟩;have Hu0:=kept hu0;have hu00:0≤u0:=by omega
 have hu01:u0<256:=by have:=s[k].toNat_lt;omega
 have h1':u0=224:=by omega
 subst h1';clear h1 hc hd;go_enter Tryz.func226,Tryz.ntmps226;go_wp2_with fail;refine(azl _ _ _ _ (k+1) true _ (by omega) (by omega) Hc.out).mono ?_;rintro e w' ⟨rfl,rfl⟩;go_wp2_with fail;refine(azl _ _ _ _ (k+2) false _ (by omega) (by omega) Hd.out).mono ?_;rintro e w' ⟨rfl,rfl⟩;go_wp2
 go_ret2
 exact⟨by rw[Hr.out];rfl,0,rfl⟩
theorem bvk(s:ByteArray)(k:Nat)(w:World)(hk:k<s.size)(hs:s.size≤1000000000)(h1:s[k].toNat=237)(hc:Str.inB s (k+1) 128 159=true)(hd:Str.inB s (k+2) 128 191=true):
  Calls Tryz.prog 226 #[.string s,.int .i64 k] w fun e w'=>e=DecEnd (Str.refDec s k)∧∃q,w'=w.drewN q:=by
 have Hr:=kept (Str.refDec_three s k hk 128 159 (by omega) (by omega) (by simp[*]) (by simp[*]) hc hd);have Hc:=kept hc;have Hd:=kept hd;have hk1:k+1<s.size:=(Str.inB_true hc).1;have hg1:=Str.get_lt s (k+1) hk1;have hk2:k+2<s.size:=(Str.inB_true hd).1;have hg2:=Str.get_lt s (k+2) hk2;have hk':(k:Int)+2<s.size:=by omega
 have a0:=cwq s[k];have a1:=aje s[k+1];have a2:=aje s[k+2];obtain⟨u0,hu0⟩:∃u:Int,(s[k].toNat:Int)=u:=⟨_,rfl⟩;have Hu0:=kept hu0;have hu00:0≤u0:=by omega
 have hu01:u0<256:=by have:=s[k].toNat_lt;omega
 obtain⟨u1,hu1⟩:∃u:Int,(s[k+1].toNat:Int)=u:=⟨_,rfl⟩;have Hu1:=kept hu1;have hu10:0≤u1:=by omega
 have hu11:u1<256:=by have:=s[k+1].toNat_lt;omega
 obtain⟨u2,hu2⟩:∃u:Int,(s[k+2].toNat:Int)=u:=⟨_,rfl⟩;have Hu2:=kept hu2;have hu20:0≤u2:=by omega
 have hu21:u2<256:=by have:=s[k+2].toNat_lt;omega
 rw[hu0]at a0;rw[hu1]at a1;rw[hu2]at a2;have h1':u0=237:=by omega
 subst h1';have o1:bits .or .i64 (53248) (u1%64*64)=53248+u1%64*64:=by have:=aqf (13) (u1%64*64) 4096 12 (by decide) (by omega) (by omega) (by omega) (by omega) (by omega);simpa using this
 have o2:bits .or .i64 (53248+u1%64*64) (u2%64)=53248+u1%64*64+u2%64:=by
  have:=aqf (13*64+u1%64) (u2%64) 64 6 (by decide) (by omega) (by omega) (by omega) (by omega) (by omega)
  rwa [show(13*64+u1%64)*((64:Nat):Int)=53248+u1%64*64 by omega]at this
 have Hg1:=kept hg1;clear hg1;have Hg2:=kept hg2;clear hg2;clear h1 hc hd;go_enter Tryz.func226,Tryz.ntmps226;go_wp2_with fail;refine(azl _ _ _ _ (k+1) true _ (by omega) (by omega) Hc.out).mono ?_;rintro e w' ⟨rfl,rfl⟩;go_wp2_with fail;refine(azl _ _ _ _ (k+2) true _ (by omega) (by omega) Hd.out).mono ?_;rintro e w' ⟨rfl,rfl⟩;go_wp2;have i1:(0:Int)≤(k:Int)+1:=by omega
 have v1:(k:Int)+1<s.size:=by omega
 have w1:IntKind.i64.wrap ((k:Int)+1)=(k:Int)+1:=IntWalk.i64_in _ (by omega);have n1:((k:Int)+1).toNat=k+1:=by omega
 have i2:(0:Int)≤(k:Int)+2:=by omega
 have v2:(k:Int)+2<s.size:=by omega
 have w2:IntKind.i64.wrap ((k:Int)+2)=(k:Int)+2:=IntWalk.i64_in _ (by omega);have n2:((k:Int)+2).toNat=k+2:=by omega
 have s1:IntKind.i64.wrap (237%16*4096)=237%16*4096:=IntWalk.i64_in _ (by omega);have s2:IntKind.i64.wrap (u1%64*64)=u1%64*64:=IntWalk.i64_in _ (by omega)
 go_region
 clear w1 n1 w2 n2 s1 s2;go_wp2
 go_ret2
 refine⟨?_,_,rfl⟩;rw[Hr.out];refine ajl _ _ _ _ ?_ rfl;have:=Hu0.out;have:=Hu1.out;have:=Hg1.out;have:=Hu2.out;have:=Hg2.out;omega
theorem awi(s:ByteArray)(k:Nat)(w:World)(hk:k<s.size)(hs:s.size≤1000000000)(h1:s[k].toNat=237)(hc:Str.inB s (k+1) 128 159=false):
  Calls Tryz.prog 226 #[.string s,.int .i64 k] w fun e w'=>e=DecEnd (Str.refDec s k)∧∃q,w'=w.drewN q:=by
 have Hr:=kept (Str.refDec_three_no s k hk 128 159 (by omega) (by omega) (by simp[*]) (by simp[*]) (.inl hc));have Hc:=kept hc;have hk':(k:Int)<s.size:=by omega
 obtain⟨u0,hu0⟩:∃u:Int,(s[k].toNat:Int)=u:=⟨_,rfl⟩;have Hu0:=kept hu0;have hu00:0≤u0:=by omega
 have hu01:u0<256:=by have:=s[k].toNat_lt;omega
 have h1':u0=237:=by omega
 subst h1';clear h1 hc;go_enter Tryz.func226,Tryz.ntmps226;go_wp2_with fail;refine(azl _ _ _ _ (k+1) false _ (by omega) (by omega) Hc.out).mono ?_;rintro e w' ⟨rfl,rfl⟩;go_wp2
 go_ret2
 exact⟨by rw[Hr.out];rfl,0,rfl⟩
theorem awm(s:ByteArray)(k:Nat)(w:World)(hk:k<s.size)(hs:s.size≤1000000000)(h1:s[k].toNat=237)(hc:Str.inB s (k+1) 128 159=true)(hd:Str.inB s (k+2) 128 191=false):
  Calls Tryz.prog 226 #[.string s,.int .i64 k] w fun e w'=>e=DecEnd (Str.refDec s k)∧∃q,w'=w.drewN q:=by
 have Hr:=kept (Str.refDec_three_no s k hk 128 159 (by omega) (by omega) (by simp[*]) (by simp[*]) (.inr hd));have Hc:=kept hc;have Hd:=kept hd;have hk':(k:Int)<s.size:=by omega
 obtain⟨u0,hu0⟩:∃u:Int,(s[k].toNat:Int)=u:=⟨_,rfl⟩;have Hu0:=kept hu0;have hu00:0≤u0:=by omega
 have hu01:u0<256:=by have:=s[k].toNat_lt;omega
 have h1':u0=237:=by omega
 subst h1';clear h1 hc hd;go_enter Tryz.func226,Tryz.ntmps226;go_wp2_with fail;refine(azl _ _ _ _ (k+1) true _ (by omega) (by omega) Hc.out).mono ?_;rintro e w' ⟨rfl,rfl⟩;go_wp2_with fail;refine(azl _ _ _ _ (k+2) false _ (by omega) (by omega) Hd.out).mono ?_;rintro e w' ⟨rfl,rfl⟩;go_wp2
 go_ret2
 exact⟨by rw[Hr.out];rfl,0,rfl⟩
theorem bvj(s:ByteArray)(k:Nat)(w:World)(hk:k<s.size)(hs:s.size≤1000000000)(h1:224≤s[k].toNat)(h2:s[k].toNat≤239)(h3:s[k].toNat≠224)(h4:s[k].toNat≠237)(hc:Str.inB s (k+1) 128 191=true)(hd:Str.inB s (k+2) 128 191=true):
  Calls Tryz.prog 226 #[.string s,.int .i64 k] w fun e w'=>e=DecEnd (Str.refDec s k)∧∃q,w'=w.drewN q:=by
 have Hr:=kept (Str.refDec_three s k hk 128 191 (by omega) (by omega) (by simp[*]) (by simp[*]) hc hd);have Hc:=kept hc;have Hd:=kept hd;have hk1:k+1<s.size:=(Str.inB_true hc).1;have hg1:=Str.get_lt s (k+1) hk1;have hk2:k+2<s.size:=(Str.inB_true hd).1;have hg2:=Str.get_lt s (k+2) hk2;have hk':(k:Int)+2<s.size:=by omega
 have a0:=cwq s[k];have a1:=aje s[k+1];have a2:=aje s[k+2];obtain⟨u0,hu0⟩:∃u:Int,(s[k].toNat:Int)=u:=⟨_,rfl⟩;have Hu0:=kept hu0;have hu00:0≤u0:=by omega
 have hu01:u0<256:=by have:=s[k].toNat_lt;omega
 obtain⟨u1,hu1⟩:∃u:Int,(s[k+1].toNat:Int)=u:=⟨_,rfl⟩;have Hu1:=kept hu1;have hu10:0≤u1:=by omega
 have hu11:u1<256:=by have:=s[k+1].toNat_lt;omega
 obtain⟨u2,hu2⟩:∃u:Int,(s[k+2].toNat:Int)=u:=⟨_,rfl⟩;have Hu2:=kept hu2;have hu20:0≤u2:=by omega
 have hu21:u2<256:=by have:=s[k+2].toNat_lt;omega
 rw[hu0]at a0;rw[hu1]at a1;rw[hu2]at a2;have h1':224≤u0:=by omega
 have h2':u0≤239:=by omega
 have h3':(u0==224)=false:=by simp;omega
 have h4':(u0==237)=false:=by simp;omega
 have h5':¬u0=224:=by omega
 have h6':¬u0=237:=by omega
 have o1:bits .or .i64 (u0%16*4096) (u1%64*64)=u0%16*4096+u1%64*64:=by have:=aqf ((u0%16)) (u1%64*64) 4096 12 (by decide) (by omega) (by omega) (by omega) (by omega) (by omega);simpa using this
 have o2:bits .or .i64 (u0%16*4096+u1%64*64) (u2%64)=u0%16*4096+u1%64*64+u2%64:=by
  have:=aqf ((u0%16)*64+u1%64) (u2%64) 64 6 (by decide) (by omega) (by omega) (by omega) (by omega) (by omega)
  rwa [show((u0%16)*64+u1%64)*((64:Nat):Int)=u0%16*4096+u1%64*64 by omega]at this
 have Hg1:=kept hg1;clear hg1;have Hg2:=kept hg2;clear hg2;clear h1 h2 h3 h4 hc hd;go_enter Tryz.func226,Tryz.ntmps226;go_wp2_with fail;refine(azl _ _ _ _ (k+1) true _ (by omega) (by omega) Hc.out).mono ?_;rintro e w' ⟨rfl,rfl⟩;go_wp2_with fail;refine(azl _ _ _ _ (k+2) true _ (by omega) (by omega) Hd.out).mono ?_;rintro e w' ⟨rfl,rfl⟩;go_wp2;have i1:(0:Int)≤(k:Int)+1:=by omega
 have v1:(k:Int)+1<s.size:=by omega
 have w1:IntKind.i64.wrap ((k:Int)+1)=(k:Int)+1:=IntWalk.i64_in _ (by omega);have n1:((k:Int)+1).toNat=k+1:=by omega
 have i2:(0:Int)≤(k:Int)+2:=by omega
 have v2:(k:Int)+2<s.size:=by omega
 have w2:IntKind.i64.wrap ((k:Int)+2)=(k:Int)+2:=IntWalk.i64_in _ (by omega);have n2:((k:Int)+2).toNat=k+2:=by omega
 have s1:IntKind.i64.wrap (u0%16*4096)=u0%16*4096:=IntWalk.i64_in _ (by omega);have s2:IntKind.i64.wrap (u1%64*64)=u1%64*64:=IntWalk.i64_in _ (by omega)
 go_region
 clear w1 n1 w2 n2 s1 s2;go_wp2
 go_ret2
 refine⟨?_,_,rfl⟩;rw[Hr.out];refine ajl _ _ _ _ ?_ rfl;have:=Hu0.out;have:=Hu1.out;have:=Hg1.out;have:=Hu2.out;have:=Hg2.out;omega
theorem aww(s:ByteArray)(k:Nat)(w:World)(hk:k<s.size)(hs:s.size≤1000000000)(h1:224≤s[k].toNat)(h2:s[k].toNat≤239)(h3:s[k].toNat≠224)(h4:s[k].toNat≠237)(hc:Str.inB s (k+1) 128 191=false):
  Calls Tryz.prog 226 #[.string s,.int .i64 k] w fun e w'=>e=DecEnd (Str.refDec s k)∧∃q,w'=w.drewN q:=by
 have Hr:=kept (Str.refDec_three_no s k hk 128 191 (by omega) (by omega) (by simp[*]) (by simp[*]) (.inl hc));have Hc:=kept hc;have hk':(k:Int)<s.size:=by omega
 obtain⟨u0,hu0⟩:∃u:Int,(s[k].toNat:Int)=u:=⟨_,rfl⟩;have Hu0:=kept hu0;have hu00:0≤u0:=by omega
 have hu01:u0<256:=by have:=s[k].toNat_lt;omega
 have h1':224≤u0:=by omega
 have h2':u0≤239:=by omega
 have h3':(u0==224)=false:=by simp;omega
 have h4':(u0==237)=false:=by simp;omega
 have h5':¬u0=224:=by omega
 have h6':¬u0=237:=by omega
 clear h1 h2 h3 h4 hc;go_enter Tryz.func226,Tryz.ntmps226;go_wp2_with fail;refine(azl _ _ _ _ (k+1) false _ (by omega) (by omega) Hc.out).mono ?_;rintro e w' ⟨rfl,rfl⟩;go_wp2
 go_ret2
 exact⟨by rw[Hr.out];rfl,0,rfl⟩
theorem ak4(s:ByteArray)(k:Nat)(w:World)(hk:k<s.size)(hs:s.size≤1000000000)(h1:224≤s[k].toNat)(h2:s[k].toNat≤239)(h3:s[k].toNat≠224)(h4:s[k].toNat≠237)(hc:Str.inB s (k+1) 128 191=true)(hd:Str.inB s (k+2) 128 191=false):
  Calls Tryz.prog 226 #[.string s,.int .i64 k] w fun e w'=>e=DecEnd (Str.refDec s k)∧∃q,w'=w.drewN q:=by
 have Hr:=kept (Str.refDec_three_no s k hk 128 191 (by omega) (by omega) (by simp[*]) (by simp[*]) (.inr hd));have Hc:=kept hc;have Hd:=kept hd;have hk':(k:Int)<s.size:=by omega
 obtain⟨u0,hu0⟩:∃u:Int,(s[k].toNat:Int)=u:=⟨_,rfl⟩;have Hu0:=kept hu0;have hu00:0≤u0:=by omega
 have hu01:u0<256:=by have:=s[k].toNat_lt;omega
 have h1':224≤u0:=by omega
 have h2':u0≤239:=by omega
 have h3':(u0==224)=false:=by simp;omega
 have h4':(u0==237)=false:=by simp;omega
 have h5':¬u0=224:=by omega
 have h6':¬u0=237:=by omega
 clear h1 h2 h3 h4 hc hd;go_enter Tryz.func226,Tryz.ntmps226;go_wp2_with fail;refine(azl _ _ _ _ (k+1) true _ (by omega) (by omega) Hc.out).mono ?_;rintro e w' ⟨rfl,rfl⟩;go_wp2_with fail;refine(azl _ _ _ _ (k+2) false _ (by omega) (by omega) Hd.out).mono ?_;rintro e w' ⟨rfl,rfl⟩;go_wp2
 go_ret2
 exact⟨by rw[Hr.out];rfl,0,rfl⟩
theorem bw1(s:ByteArray)(k:Nat)(w:World)(hk:k<s.size)(hs:s.size≤1000000000)(h1:s[k].toNat=240)(hc:Str.inB s (k+1) 144 191=true)(hd:Str.inB s (k+2) 128 191=true)(he:Str.inB s (k+3) 128 191=true):
  Calls Tryz.prog 226 #[.string s,.int .i64 k] w fun e w'=>e=DecEnd (Str.refDec s k)∧∃q,w'=w.drewN q:=by
 have Hr:=kept (Str.refDec_four s k hk 144 191 (by omega) (by omega) (by simp[*]) (by simp[*]) hc hd he);have Hc:=kept hc;have Hd:=kept hd;have He:=kept he;have hk1:k+1<s.size:=(Str.inB_true hc).1;have hg1:=Str.get_lt s (k+1) hk1;have hk2:k+2<s.size:=(Str.inB_true hd).1;have hg2:=Str.get_lt s (k+2) hk2;have hk3:k+3<s.size:=(Str.inB_true he).1;have hg3:=Str.get_lt s (k+3) hk3;have hk':(k:Int)+3<s.size:=by omega
 have a0:=and7 s[k];have a1:=aje s[k+1];have a2:=aje s[k+2];have a3:=aje s[k+3];obtain⟨u0,hu0⟩:∃u:Int,(s[k].toNat:Int)=u:=⟨_,rfl⟩;have Hu0:=kept hu0;have hu00:0≤u0:=by omega
 have hu01:u0<256:=by have:=s[k].toNat_lt;omega
 obtain⟨u1,hu1⟩:∃u:Int,(s[k+1].toNat:Int)=u:=⟨_,rfl⟩;have Hu1:=kept hu1;have hu10:0≤u1:=by omega
 have hu11:u1<256:=by have:=s[k+1].toNat_lt;omega
 obtain⟨u2,hu2⟩:∃u:Int,(s[k+2].toNat:Int)=u:=⟨_,rfl⟩;have Hu2:=kept hu2;have hu20:0≤u2:=by omega
 have hu21:u2<256:=by have:=s[k+2].toNat_lt;omega
 obtain⟨u3,hu3⟩:∃u:Int,(s[k+3].toNat:Int)=u:=⟨_,rfl⟩;have Hu3:=kept hu3;have hu30:0≤u3:=by omega
 have hu31:u3<256:=by have:=s[k+3].toNat_lt;omega
 rw[hu0]at a0;rw[hu1]at a1;rw[hu2]at a2;rw[hu3]at a3;have h1':u0=240:=by omega
 subst h1';have o1:bits .or .i64 (0) (u1%64*4096)=u1%64*4096:=by have:=aqf (0) (u1%64*4096) 262144 18 (by decide) (by omega) (by omega) (by omega) (by omega) (by omega);simpa using this
 have o2:bits .or .i64 (u1%64*4096) (u2%64*64)=u1%64*4096+u2%64*64:=by
  have:=aqf (0*64+u1%64) (u2%64*64) 4096 12 (by decide) (by omega) (by omega) (by omega) (by omega) (by omega)
  rwa [show(0*64+u1%64)*((4096:Nat):Int)=u1%64*4096 by omega]at this
 have o3:bits .or .i64 (u1%64*4096+u2%64*64) (u3%64)=u1%64*4096+u2%64*64+u3%64:=by
  have:=aqf (0*4096+u1%64*64+u2%64) (u3%64) 64 6 (by decide) (by omega) (by omega) (by omega) (by omega) (by omega)
  rwa [show(0*4096+u1%64*64+u2%64)*((64:Nat):Int)=u1%64*4096+u2%64*64 by omega]at this
 have Hg1:=kept hg1;clear hg1;have Hg2:=kept hg2;clear hg2;have Hg3:=kept hg3;clear hg3;clear h1 hc hd he;go_enter Tryz.func226,Tryz.ntmps226;go_wp2_with fail;refine(azl _ _ _ _ (k+1) true _ (by omega) (by omega) Hc.out).mono ?_;rintro e w' ⟨rfl,rfl⟩;go_wp2_with fail;refine(azl _ _ _ _ (k+2) true _ (by omega) (by omega) Hd.out).mono ?_;rintro e w' ⟨rfl,rfl⟩;go_wp2_with fail;refine(azl _ _ _ _ (k+3) true _ (by omega) (by omega) He.out).mono ?_;rintro e w' ⟨rfl,rfl⟩;go_wp2;have i1:(0:Int)≤(k:Int)+1:=by omega
 have v1:(k:Int)+1<s.size:=by omega
 have w1:IntKind.i64.wrap ((k:Int)+1)=(k:Int)+1:=IntWalk.i64_in _ (by omega);have n1:((k:Int)+1).toNat=k+1:=by omega
 have i2:(0:Int)≤(k:Int)+2:=by omega
 have v2:(k:Int)+2<s.size:=by omega
 have w2:IntKind.i64.wrap ((k:Int)+2)=(k:Int)+2:=IntWalk.i64_in _ (by omega);have n2:((k:Int)+2).toNat=k+2:=by omega
 have i3:(0:Int)≤(k:Int)+3:=by omega
 have v3:(k:Int)+3<s.size:=by omega
 have w3:IntKind.i64.wrap ((k:Int)+3)=(k:Int)+3:=IntWalk.i64_in _ (by omega);have n3:((k:Int)+3).toNat=k+3:=by omega
 have s1:IntKind.i64.wrap (240%8*262144)=240%8*262144:=IntWalk.i64_in _ (by omega);have s2:IntKind.i64.wrap (u1%64*4096)=u1%64*4096:=IntWalk.i64_in _ (by omega);have s3:IntKind.i64.wrap (u2%64*64)=u2%64*64:=IntWalk.i64_in _ (by omega)
 go_region
 clear w1 n1 w2 n2 w3 n3 s1 s2 s3;go_wp2
 go_ret2
 refine⟨?_,_,rfl⟩;rw[Hr.out];refine ajl _ _ _ _ ?_ rfl;have:=Hu0.out;have:=Hu1.out;have:=Hg1.out;have:=Hu2.out;have:=Hg2.out;have:=Hu3.out;have:=Hg3.out;omega
theorem aw1(s:ByteArray)(k:Nat)(w:World)(hk:k<s.size)(hs:s.size≤1000000000)(h1:s[k].toNat=240)(hc:Str.inB s (k+1) 144 191=false):
  Calls Tryz.prog 226 #[.string s,.int .i64 k] w fun e w'=>e=DecEnd (Str.refDec s k)∧∃q,w'=w.drewN q:=by
 have Hr:=kept (Str.refDec_four_no s k hk 144 191 (by omega) (by omega) (by simp[*]) (by simp[*]) (.inl hc));have Hc:=kept hc;have hk':(k:Int)<s.size:=by omega
 obtain⟨u0,hu0⟩:∃u:Int,(s[k].toNat:Int)=u:=⟨_,rfl⟩;have Hu0:=kept hu0;have hu00:0≤u0:=by omega
 have hu01:u0<256:=by have:=s[k].toNat_lt;omega
 have h1':u0=240:=by omega
 subst h1';clear h1 hc;go_enter Tryz.func226,Tryz.ntmps226;go_wp2_with fail;refine(azl _ _ _ _ (k+1) false _ (by omega) (by omega) Hc.out).mono ?_;rintro e w' ⟨rfl,rfl⟩;go_wp2
 go_ret2
 exact⟨by rw[Hr.out];rfl,0,rfl⟩
theorem awz(s:ByteArray)(k:Nat)(w:World)(hk:k<s.size)(hs:s.size≤1000000000)(h1:s[k].toNat=240)(hc:Str.inB s (k+1) 144 191=true)(hd:Str.inB s (k+2) 128 191=false):
  Calls Tryz.prog 226 #[.string s,.int .i64 k] w fun e w'=>e=DecEnd (Str.refDec s k)∧∃q,w'=w.drewN q:=by
 have Hr:=kept (Str.refDec_four_no s k hk 144 191 (by omega) (by omega) (by simp[*]) (by simp[*]) (.inr (.inl hd)));have Hc:=kept hc;have Hd:=kept hd;have hk':(k:Int)<s.size:=by omega
 obtain⟨u0,hu0⟩:∃u:Int,(s[k].toNat:Int)=u:=⟨_,rfl⟩;have Hu0:=kept hu0;have hu00:0≤u0:=by omega
 have hu01:u0<256:=by have:=s[k].toNat_lt;omega
 have h1':u0=240:=by omega
 subst h1';clear h1 hc hd;go_enter Tryz.func226,Tryz.ntmps226;go_wp2_with fail;refine(azl _ _ _ _ (k+1) true _ (by omega) (by omega) Hc.out).mono ?_;rintro e w' ⟨rfl,rfl⟩;go_wp2_with fail;refine(azl _ _ _ _ (k+2) false _ (by omega) (by omega) Hd.out).mono ?_;rintro e w' ⟨rfl,rfl⟩;go_wp2
 go_ret2
 exact⟨by rw[Hr.out];rfl,0,rfl⟩
theorem aw9(s:ByteArray)(k:Nat)(w:World)(hk:k<s.size)(hs:s.size≤1000000000)(h1:s[k].toNat=240)(hc:Str.inB s (k+1) 144 191=true)(hd:Str.inB s (k+2) 128 191=true)(he:Str.inB s (k+3) 128 191=false):
  Calls Tryz.prog 226 #[.string s,.int .i64 k] w fun e w'=>e=DecEnd (Str.refDec s k)∧∃q,w'=w.drewN q:=by
 have Hr:=kept (Str.refDec_four_no s k hk 144 191 (by omega) (by omega) (by simp[*]) (by simp[*]) (.inr (.inr he)));have Hc:=kept hc;have Hd:=kept hd;have He:=kept he;have hk':(k:Int)<s.size:=by omega
 obtain⟨u0,hu0⟩:∃u:Int,(s[k].toNat:Int)=u:=⟨_,rfl⟩;have Hu0:=kept hu0;have hu00:0≤u0:=by omega
 have hu01:u0<256:=by have:=s[k].toNat_lt;omega
 have h1':u0=240:=by omega
 subst h1';clear h1 hc hd he;go_enter Tryz.func226,Tryz.ntmps226;go_wp2_with fail;refine(azl _ _ _ _ (k+1) true _ (by omega) (by omega) Hc.out).mono ?_;rintro e w' ⟨rfl,rfl⟩;go_wp2_with fail;refine(azl _ _ _ _ (k+2) true _ (by omega) (by omega) Hd.out).mono ?_;rintro e w' ⟨rfl,rfl⟩;go_wp2_with fail;refine(azl _ _ _ _ (k+3) false _ (by omega) (by omega) He.out).mono ?_;rintro e w' ⟨rfl,rfl⟩;go_wp2
 go_ret2
 exact⟨by rw[Hr.out];rfl,0,rfl⟩
theorem bw4(s:ByteArray)(k:Nat)(w:World)(hk:k<s.size)(hs:s.size≤1000000000)(h1:s[k].toNat=244)(hc:Str.inB s (k+1) 128 143=true)(hd:Str.inB s (k+2) 128 191=true)(he:Str.inB s (k+3) 128 191=true):
  Calls Tryz.prog 226 #[.string s,.int .i64 k] w fun e w'=>e=DecEnd (Str.refDec s k)∧∃q,w'=w.drewN q:=by
 have Hr:=kept (Str.refDec_four s k hk 128 143 (by omega) (by omega) (by simp[*]) (by simp[*]) hc hd he);have Hc:=kept hc;have Hd:=kept hd;have He:=kept he;have hk1:k+1<s.size:=(Str.inB_true hc).1;have hg1:=Str.get_lt s (k+1) hk1;have hk2:k+2<s.size:=(Str.inB_true hd).1;have hg2:=Str.get_lt s (k+2) hk2;have hk3:k+3<s.size:=(Str.inB_true he).1;have hg3:=Str.get_lt s (k+3) hk3;have hk':(k:Int)+3<s.size:=by omega
 have a0:=and7 s[k];have a1:=aje s[k+1];have a2:=aje s[k+2];have a3:=aje s[k+3];obtain⟨u0,hu0⟩:∃u:Int,(s[k].toNat:Int)=u:=⟨_,rfl⟩;have Hu0:=kept hu0;have hu00:0≤u0:=by omega
 have hu01:u0<256:=by have:=s[k].toNat_lt;omega
 obtain⟨u1,hu1⟩:∃u:Int,(s[k+1].toNat:Int)=u:=⟨_,rfl⟩;have Hu1:=kept hu1;have hu10:0≤u1:=by omega
 have hu11:u1<256:=by have:=s[k+1].toNat_lt;omega
 obtain⟨u2,hu2⟩:∃u:Int,(s[k+2].toNat:Int)=u:=⟨_,rfl⟩;have Hu2:=kept hu2;have hu20:0≤u2:=by omega
 have hu21:u2<256:=by have:=s[k+2].toNat_lt;omega
 obtain⟨u3,hu3⟩:∃u:Int,(s[k+3].toNat:Int)=u:=⟨_,rfl⟩;have Hu3:=kept hu3;have hu30:0≤u3:=by omega
 have hu31:u3<256:=by have:=s[k+3].toNat_lt;omega
 rw[hu0]at a0;rw[hu1]at a1;rw[hu2]at a2;rw[hu3]at a3;have h1':u0=244:=by omega
 subst h1';have o1:bits .or .i64 (1048576) (u1%64*4096)=1048576+u1%64*4096:=by have:=aqf (4) (u1%64*4096) 262144 18 (by decide) (by omega) (by omega) (by omega) (by omega) (by omega);simpa using this
 have o2:bits .or .i64 (1048576+u1%64*4096) (u2%64*64)=1048576+u1%64*4096+u2%64*64:=by
  have:=aqf (4*64+u1%64) (u2%64*64) 4096 12 (by decide) (by omega) (by omega) (by omega) (by omega) (by omega)
  rwa [show(4*64+u1%64)*((4096:Nat):Int)=1048576+u1%64*4096 by omega]at this
 have o3:bits .or .i64 (1048576+u1%64*4096+u2%64*64) (u3%64)=1048576+u1%64*4096+u2%64*64+u3%64:=by
  have:=aqf (4*4096+u1%64*64+u2%64) (u3%64) 64 6 (by decide) (by omega) (by omega) (by omega) (by omega) (by omega)
  rwa [show(4*4096+u1%64*64+u2%64)*((64:Nat):Int)=1048576+u1%64*4096+u2%64*64 by omega]at this
 have Hg1:=kept hg1;clear hg1;have Hg2:=kept hg2;clear hg2;have Hg3:=kept hg3;clear hg3;clear h1 hc hd he;go_enter Tryz.func226,Tryz.ntmps226;go_wp2_with fail;refine(azl _ _ _ _ (k+1) true _ (by omega) (by omega) Hc.out).mono ?_;rintro e w' ⟨rfl,rfl⟩;go_wp2_with fail;refine(azl _ _ _ _ (k+2) true _ (by omega) (by omega) Hd.out).mono ?_;rintro e w' ⟨rfl,rfl⟩;go_wp2_with fail;refine(azl _ _ _ _ (k+3) true _ (by omega) (by omega) He.out).mono ?_;rintro e w' ⟨rfl,rfl⟩;go_wp2;have i1:(0:Int)≤(k:Int)+1:=by omega
 have v1:(k:Int)+1<s.size:=by omega
 have w1:IntKind.i64.wrap ((k:Int)+1)=(k:Int)+1:=IntWalk.i64_in _ (by omega);have n1:((k:Int)+1).toNat=k+1:=by omega
 have i2:(0:Int)≤(k:Int)+2:=by omega
 have v2:(k:Int)+2<s.size:=by omega
 have w2:IntKind.i64.wrap ((k:Int)+2)=(k:Int)+2:=IntWalk.i64_in _ (by omega);have n2:((k:Int)+2).toNat=k+2:=by omega
 have i3:(0:Int)≤(k:Int)+3:=by omega
 have v3:(k:Int)+3<s.size:=by omega
 have w3:IntKind.i64.wrap ((k:Int)+3)=(k:Int)+3:=IntWalk.i64_in _ (by omega);have n3:((k:Int)+3).toNat=k+3:=by omega
 have s1:IntKind.i64.wrap (244%8*262144)=244%8*262144:=IntWalk.i64_in _ (by omega);have s2:IntKind.i64.wrap (u1%64*4096)=u1%64*4096:=IntWalk.i64_in _ (by omega);have s3:IntKind.i64.wrap (u2%64*64)=u2%64*64:=IntWalk.i64_in _ (by omega)
 go_region
 clear w1 n1 w2 n2 w3 n3 s1 s2 s3;go_wp2
 go_ret2
 refine⟨?_,_,rfl⟩;rw[Hr.out];refine ajl _ _ _ _ ?_ rfl;have:=Hu0.out;have:=Hu1.out;have:=Hg1.out;have:=Hu2.out;have:=Hg2.out;have:=Hu3.out;have:=Hg3.out;omega
theorem aw2(s:ByteArray)(k:Nat)(w:World)(hk:k<s.size)(hs:s.size≤1000000000)(h1:s[k].toNat=244)(hc:Str.inB s (k+1) 128 143=false):
  Calls Tryz.prog 226 #[.string s,.int .i64 k] w fun e w'=>e=DecEnd (Str.refDec s k)∧∃q,w'=w.drewN q:=by
 have Hr:=kept (Str.refDec_four_no s k hk 128 143 (by omega) (by omega) (by simp[*]) (by simp[*]) (.inl hc));have Hc:=kept hc;have hk':(k:Int)<s.size:=by omega
 obtain⟨u0,hu0⟩:∃u:Int,(s[k].toNat:Int)=u:=⟨_,rfl⟩;have Hu0:=kept hu0;have hu00:0≤u0:=by omega
 have hu01:u0<256:=by have:=s[k].toNat_lt;omega
 have h1':u0=244:=by omega
 subst h1';clear h1 hc;go_enter Tryz.func226,Tryz.ntmps226;go_wp2_with fail;refine(azl _ _ _ _ (k+1) false _ (by omega) (by omega) Hc.out).mono ?_;rintro e w' ⟨rfl,rfl⟩;go_wp2
 go_ret2
 exact⟨by rw[Hr.out];rfl,0,rfl⟩
theorem aw3(s:ByteArray)(k:Nat)(w:World)(hk:k<s.size)(hs:s.size≤1000000000)(h1:s[k].toNat=244)(hc:Str.inB s (k+1) 128 143=true)(hd:Str.inB s (k+2) 128 191=false):
  Calls Tryz.prog 226 #[.string s,.int .i64 k] w fun e w'=>e=DecEnd (Str.refDec s k)∧∃q,w'=w.drewN q:=by
 have Hr:=kept (Str.refDec_four_no s k hk 128 143 (by omega) (by omega) (by simp[*]) (by simp[*]) (.inr (.inl hd)));have Hc:=kept hc;have Hd:=kept hd;have hk':(k:Int)<s.size:=by omega
 obtain⟨u0,hu0⟩:∃u:Int,(s[k].toNat:Int)=u:=⟨_,rfl⟩;have Hu0:=kept hu0;have hu00:0≤u0:=by omega
 have hu01:u0<256:=by have:=s[k].toNat_lt;omega
 have h1':u0=244:=by omega
 subst h1';clear h1 hc hd;go_enter Tryz.func226,Tryz.ntmps226;go_wp2_with fail;refine(azl _ _ _ _ (k+1) true _ (by omega) (by omega) Hc.out).mono ?_;rintro e w' ⟨rfl,rfl⟩;go_wp2_with fail;refine(azl _ _ _ _ (k+2) false _ (by omega) (by omega) Hd.out).mono ?_;rintro e w' ⟨rfl,rfl⟩;go_wp2
 go_ret2
 exact⟨by rw[Hr.out];rfl,0,rfl⟩
theorem aw5(s:ByteArray)(k:Nat)(w:World)(hk:k<s.size)(hs:s.size≤1000000000)(h1:s[k].toNat=244)(hc:Str.inB s (k+1) 128 143=true)(hd:Str.inB s (k+2) 128 191=true)(he:Str.inB s (k+3) 128 191=false):
  Calls Tryz.prog 226 #[.string s,.int .i64 k] w fun e w'=>e=DecEnd (Str.refDec s k)∧∃q,w'=w.drewN q:=by
 have Hr:=kept (Str.refDec_four_no s k hk 128 143 (by omega) (by omega) (by simp[*]) (by simp[*]) (.inr (.inr he)));have Hc:=kept hc;have Hd:=kept hd;have He:=kept he;have hk':(k:Int)<s.size:=by omega
 obtain⟨u0,hu0⟩:∃u:Int,(s[k].toNat:Int)=u:=⟨_,rfl⟩;have Hu0:=kept hu0;have hu00:0≤u0:=by omega
 have hu01:u0<256:=by have:=s[k].toNat_lt;omega
 have h1':u0=244:=by omega
 subst h1';clear h1 hc hd he;go_enter Tryz.func226,Tryz.ntmps226;go_wp2_with fail;refine(azl _ _ _ _ (k+1) true _ (by omega) (by omega) Hc.out).mono ?_;rintro e w' ⟨rfl,rfl⟩;go_wp2_with fail;refine(azl _ _ _ _ (k+2) true _ (by omega) (by omega) Hd.out).mono ?_;rintro e w' ⟨rfl,rfl⟩;go_wp2_with fail;refine(azl _ _ _ _ (k+3) false _ (by omega) (by omega) He.out).mono ?_;rintro e w' ⟨rfl,rfl⟩;go_wp2
 go_ret2
 exact⟨by rw[Hr.out];rfl,0,rfl⟩
theorem bwg(s:ByteArray)(k:Nat)(w:World)(hk:k<s.size)(hs:s.size≤1000000000)(h1:240≤s[k].toNat)(h2:s[k].toNat≤244)(h3:s[k].toNat≠240)(h4:s[k].toNat≠244)(hc:Str.inB s (k+1) 128 191=true)(hd:Str.inB s (k+2) 128 191=true)(he:Str.inB s (k+3) 128 191=true):
  Calls Tryz.prog 226 #[.string s,.int .i64 k] w fun e w'=>e=DecEnd (Str.refDec s k)∧∃q,w'=w.drewN q:=by
 have Hr:=kept (Str.refDec_four s k hk 128 191 (by omega) (by omega) (by simp[*]) (by simp[*]) hc hd he);have Hc:=kept hc;have Hd:=kept hd;have He:=kept he;have hk1:k+1<s.size:=(Str.inB_true hc).1;have hg1:=Str.get_lt s (k+1) hk1;have hk2:k+2<s.size:=(Str.inB_true hd).1;have hg2:=Str.get_lt s (k+2) hk2;have hk3:k+3<s.size:=(Str.inB_true he).1;have hg3:=Str.get_lt s (k+3) hk3;have hk':(k:Int)+3<s.size:=by omega
 have a0:=and7 s[k];have a1:=aje s[k+1];have a2:=aje s[k+2];have a3:=aje s[k+3];obtain⟨u0,hu0⟩:∃u:Int,(s[k].toNat:Int)=u:=⟨_,rfl⟩;have Hu0:=kept hu0;have hu00:0≤u0:=by omega
 have hu01:u0<256:=by have:=s[k].toNat_lt;omega
 obtain⟨u1,hu1⟩:∃u:Int,(s[k+1].toNat:Int)=u:=⟨_,rfl⟩;have Hu1:=kept hu1;have hu10:0≤u1:=by omega
 have hu11:u1<256:=by have:=s[k+1].toNat_lt;omega
 obtain⟨u2,hu2⟩:∃u:Int,(s[k+2].toNat:Int)=u:=⟨_,rfl⟩;have Hu2:=kept hu2;have hu20:0≤u2:=by omega
 have hu21:u2<256:=by have:=s[k+2].toNat_lt;omega
 obtain⟨u3,hu3⟩:∃u:Int,(s[k+3].toNat:Int)=u:=⟨_,rfl⟩;have Hu3:=kept hu3;have hu30:0≤u3:=by omega
 have hu31:u3<256:=by have:=s[k+3].toNat_lt;omega
 rw[hu0]at a0;rw[hu1]at a1;rw[hu2]at a2;rw[hu3]at a3;have h1':240≤u0:=by omega
 have h2':u0≤244:=by omega
 have h3':(u0==240)=false:=by simp;omega
 have h4':(u0==244)=false:=by simp;omega
 have h5':¬u0=240:=by omega
 have h6':¬u0=244:=by omega
 have o1:bits .or .i64 (u0%8*262144) (u1%64*4096)=u0%8*262144+u1%64*4096:=by have:=aqf ((u0%8)) (u1%64*4096) 262144 18 (by decide) (by omega) (by omega) (by omega) (by omega) (by omega);simpa using this
 have o2:bits .or .i64 (u0%8*262144+u1%64*4096) (u2%64*64)=u0%8*262144+u1%64*4096+u2%64*64:=by
  have:=aqf ((u0%8)*64+u1%64) (u2%64*64) 4096 12 (by decide) (by omega) (by omega) (by omega) (by omega) (by omega)
  rwa [show((u0%8)*64+u1%64)*((4096:Nat):Int)=u0%8*262144+u1%64*4096 by omega]at this
 have o3:bits .or .i64 (u0%8*262144+u1%64*4096+u2%64*64) (u3%64)=u0%8*262144+u1%64*4096+u2%64*64+u3%64:=by
  have:=aqf ((u0%8)*4096+u1%64*64+u2%64) (u3%64) 64 6 (by decide) (by omega) (by omega) (by omega) (by omega) (by omega)
  rwa [show((u0%8)*4096+u1%64*64+u2%64)*((64:Nat):Int)=u0%8*262144+u1%64*4096+u2%64*64 by omega]at this
 have Hg1:=kept hg1;clear hg1;have Hg2:=kept hg2;clear hg2;have Hg3:=kept hg3;clear hg3;clear h1 h2 h3 h4 hc hd he;go_enter Tryz.func226,Tryz.ntmps226;go_wp2_with fail;refine(azl _ _ _ _ (k+1) true _ (by omega) (by omega) Hc.out).mono ?_;rintro e w' ⟨rfl,rfl⟩;go_wp2_with fail;refine(azl _ _ _ _ (k+2) true _ (by omega) (by omega) Hd.out).mono ?_;rintro e w' ⟨rfl,rfl⟩;go_wp2_with fail;refine(azl _ _ _ _ (k+3) true _ (by omega) (by omega) He.out).mono ?_;rintro e w' ⟨rfl,rfl⟩;go_wp2;have i1:(0:Int)≤(k:Int)+1:=by omega
 have v1:(k:Int)+1<s.size:=by omega
 have w1:IntKind.i64.wrap ((k:Int)+1)=(k:Int)+1:=IntWalk.i64_in _ (by omega);have n1:((k:Int)+1).toNat=k+1:=by omega
 have i2:(0:Int)≤(k:Int)+2:=by omega
 have v2:(k:Int)+2<s.size:=by omega
 have w2:IntKind.i64.wrap ((k:Int)+2)=(k:Int)+2:=IntWalk.i64_in _ (by omega);have n2:((k:Int)+2).toNat=k+2:=by omega
 have i3:(0:Int)≤(k:Int)+3:=by omega
 have v3:(k:Int)+3<s.size:=by omega
 have w3:IntKind.i64.wrap ((k:Int)+3)=(k:Int)+3:=IntWalk.i64_in _ (by omega);have n3:((k:Int)+3).toNat=k+3:=by omega
 have s1:IntKind.i64.wrap (u0%8*262144)=u0%8*262144:=IntWalk.i64_in _ (by omega);have s2:IntKind.i64.wrap (u1%64*4096)=u1%64*4096:=IntWalk.i64_in _ (by omega);have s3:IntKind.i64.wrap (u2%64*64)=u2%64*64:=IntWalk.i64_in _ (by omega)
 go_region
 clear w1 n1 w2 n2 w3 n3 s1 s2 s3;go_wp2
 go_ret2
 refine⟨?_,_,rfl⟩;rw[Hr.out];refine ajl _ _ _ _ ?_ rfl;have:=Hu0.out;have:=Hu1.out;have:=Hg1.out;have:=Hu2.out;have:=Hg2.out;have:=Hu3.out;have:=Hg3.out;omega
theorem aw0(s:ByteArray)(k:Nat)(w:World)(hk:k<s.size)(hs:s.size≤1000000000)(h1:240≤s[k].toNat)(h2:s[k].toNat≤244)(h3:s[k].toNat≠240)(h4:s[k].toNat≠244)(hc:Str.inB s (k+1) 128 191=false):
  Calls Tryz.prog 226 #[.string s,.int .i64 k] w fun e w'=>e=DecEnd (Str.refDec s k)∧∃q,w'=w.drewN q:=by
 have Hr:=kept (Str.refDec_four_no s k hk 128 191 (by omega) (by omega) (by simp[*]) (by simp[*]) (.inl hc));have Hc:=kept hc;have hk':(k:Int)<s.size:=by omega
 obtain⟨u0,hu0⟩:∃u:Int,(s[k].toNat:Int)=u:=⟨_,rfl⟩;have Hu0:=kept hu0;have hu00:0≤u0:=by omega
 have hu01:u0<256:=by have:=s[k].toNat_lt;omega
 have h1':240≤u0:=by omega
 have h2':u0≤244:=by omega
 have h3':(u0==240)=false:=by simp;omega
 have h4':(u0==244)=false:=by simp;omega
 have h5':¬u0=240:=by omega
 have h6':¬u0=244:=by omega
 clear h1 h2 h3 h4 hc;go_enter Tryz.func226,Tryz.ntmps226;go_wp2_with fail;refine(azl _ _ _ _ (k+1) false _ (by omega) (by omega) Hc.out).mono ?_;rintro e w' ⟨rfl,rfl⟩;go_wp2
 go_ret2
 exact⟨by rw[Hr.out];rfl,0,rfl⟩
theorem aw4(s:ByteArray)(k:Nat)(w:World)(hk:k<s.size)(hs:s.size≤1000000000)(h1:240≤s[k].toNat)(h2:s[k].toNat≤244)(h3:s[k].toNat≠240)(h4:s[k].toNat≠244)(hc:Str.inB s (k+1) 128 191=true)(hd:Str.inB s (k+2) 128 191=false):
  Calls Tryz.prog 226 #[.string s,.int .i64 k] w fun e w'=>e=DecEnd (Str.refDec s k)∧∃q,w'=w.drewN q:=by
 have Hr:=kept (Str.refDec_four_no s k hk 128 191 (by omega) (by omega) (by simp[*]) (by simp[*]) (.inr (.inl hd)));have Hc:=kept hc;have Hd:=kept hd;have hk':(k:Int)<s.size:=by omega
 obtain⟨u0,hu0⟩:∃u:Int,(s[k].toNat:Int)=u:=⟨_,rfl⟩;have Hu0:=kept hu0;have hu00:0≤u0:=by omega
 have hu01:u0<256:=by have:=s[k].toNat_lt;omega
 have h1':240≤u0:=by omega
 have h2':u0≤244:=by omega
 have h3':(u0==240)=false:=by simp;omega
 have h4':(u0==244)=false:=by simp;omega
 have h5':¬u0=240:=by omega
 have h6':¬u0=244:=by omega
 clear h1 h2 h3 h4 hc hd;go_enter Tryz.func226,Tryz.ntmps226;go_wp2_with fail;refine(azl _ _ _ _ (k+1) true _ (by omega) (by omega) Hc.out).mono ?_;rintro e w' ⟨rfl,rfl⟩;go_wp2_with fail;refine(azl _ _ _ _ (k+2) false _ (by omega) (by omega) Hd.out).mono ?_;rintro e w' ⟨rfl,rfl⟩;go_wp2
 go_ret2
 exact⟨by rw[Hr.out];rfl,0,rfl⟩
theorem aw7(s:ByteArray)(k:Nat)(w:World)(hk:k<s.size)(hs:s.size≤1000000000)(h1:240≤s[k].toNat)(h2:s[k].toNat≤244)(h3:s[k].toNat≠240)(h4:s[k].toNat≠244)(hc:Str.inB s (k+1) 128 191=true)(hd:Str.inB s (k+2) 128 191=true)(he:Str.inB s (k+3) 128 191=false):
  Calls Tryz.prog 226 #[.string s,.int .i64 k] w fun e w'=>e=DecEnd (Str.refDec s k)∧∃q,w'=w.drewN q:=by
 have Hr:=kept (Str.refDec_four_no s k hk 128 191 (by omega) (by omega) (by simp[*]) (by simp[*]) (.inr (.inr he)));have Hc:=kept hc;have Hd:=kept hd;have He:=kept he;have hk':(k:Int)<s.size:=by omega
 obtain⟨u0,hu0⟩:∃u:Int,(s[k].toNat:Int)=u:=⟨_,rfl⟩;have Hu0:=kept hu0;have hu00:0≤u0:=by omega
 have hu01:u0<256:=by have:=s[k].toNat_lt;omega
 have h1':240≤u0:=by omega
 have h2':u0≤244:=by omega
 have h3':(u0==240)=false:=by simp;omega
 have h4':(u0==244)=false:=by simp;omega
 have h5':¬u0=240:=by omega
 have h6':¬u0=244:=by omega
 clear h1 h2 h3 h4 hc hd he;go_enter Tryz.func226,Tryz.ntmps226;go_wp2_with fail;refine(azl _ _ _ _ (k+1) true _ (by omega) (by omega) Hc.out).mono ?_;rintro e w' ⟨rfl,rfl⟩;go_wp2_with fail;refine(azl _ _ _ _ (k+2) true _ (by omega) (by omega) Hd.out).mono ?_;rintro e w' ⟨rfl,rfl⟩;go_wp2_with fail;refine(azl _ _ _ _ (k+3) false _ (by omega) (by omega) He.out).mono ?_;rintro e w' ⟨rfl,rfl⟩;go_wp2
 go_ret2
 exact⟨by rw[Hr.out];rfl,0,rfl⟩
theorem czt(s:ByteArray)(k:Nat)(w:World)(hk:k<s.size)(h1:128≤s[k].toNat)(h2:s[k].toNat<194):
  Calls Tryz.prog 226 #[.string s,.int .i64 k] w fun e w'=>e=DecEnd (Str.refDec s k)∧∃q,w'=w.drewN q:=by
 have Hr:=kept (Str.refDec_lead s k hk (.inl ⟨h1,h2⟩));have hk':(k:Int)<s.size:=by omega
 obtain⟨u0,hu0⟩:∃u:Int,(s[k].toNat:Int)=u:=⟨_,rfl⟩;have Hu0:=kept hu0;have hu00:0≤u0:=by omega
 have hu01:u0<256:=by have:=s[k].toNat_lt;omega
 have h1':128≤u0:=by omega
 have h2':u0<194:=by omega
 clear h1 h2;go_enter Tryz.func226,Tryz.ntmps226;go_wp2
 go_ret2
 exact⟨by rw[Hr.out];rfl,0,rfl⟩
theorem cq5(s:ByteArray)(k:Nat)(w:World)(hk:k<s.size)(h1:245≤s[k].toNat):
  Calls Tryz.prog 226 #[.string s,.int .i64 k] w fun e w'=>e=DecEnd (Str.refDec s k)∧∃q,w'=w.drewN q:=by
 have Hr:=kept (Str.refDec_lead s k hk (.inr h1));have hk':(k:Int)<s.size:=by omega
 obtain⟨u0,hu0⟩:∃u:Int,(s[k].toNat:Int)=u:=⟨_,rfl⟩;have Hu0:=kept hu0;have hu00:0≤u0:=by omega
 have hu01:u0<256:=by have:=s[k].toNat_lt;omega
 have h1':245≤u0:=by omega
 clear h1;go_enter Tryz.func226,Tryz.ntmps226;go_wp2
 go_ret2
 exact⟨by rw[Hr.out];rfl,0,rfl⟩
theorem azk(b:Bool):b=true∨b=false:=by cases b<;>simp
theorem decode_any(s:ByteArray)(k:Nat)(w:World)(hs:s.size≤1000000000):
  Calls Tryz.prog 226 #[.string s,.int .i64 k] w fun e w'=>e=DecEnd (Str.refDec s k)∧∃q,w'=w.drewN q:=by
 by_cases hk:k<s.size
 ·have hb:=s[k].toNat_lt;by_cases h1:s[k].toNat<128
  ·exact by7 s k w hk h1
  by_cases h2:s[k].toNat<194
  ·exact czt s k w hk (by omega) h2
  by_cases h3:s[k].toNat≤223
  ·rcases azk (Str.inB s (k+1) 128 191)with hc|hc
   ·exact cwo s k w hk hs (by omega) h3 hc
   ·exact bwd s k w hk hs (by omega) h3 hc
  by_cases h4:s[k].toNat≤239
  ·by_cases ha:s[k].toNat=224
   ·rcases azk (Str.inB s (k+1) 160 191)with hc|hc
    ·rcases azk (Str.inB s (k+2) 128 191)with hd|hd
     ·exact bjp s k w hk hs ha hc hd
     ·exact awx s k w hk hs ha hc hd
    ·exact aws s k w hk hs ha hc
   ·by_cases hbb:s[k].toNat=237
    ·rcases azk (Str.inB s (k+1) 128 159)with hc|hc
     ·rcases azk (Str.inB s (k+2) 128 191)with hd|hd
      ·exact bvk s k w hk hs hbb hc hd
      ·exact awm s k w hk hs hbb hc hd
     ·exact awi s k w hk hs hbb hc
    ·rcases azk (Str.inB s (k+1) 128 191)with hc|hc
     ·rcases azk (Str.inB s (k+2) 128 191)with hd|hd
      ·exact bvj s k w hk hs (by omega) h4 ha hbb hc hd
      ·exact ak4 s k w hk hs (by omega) h4 ha hbb hc hd
     ·exact aww s k w hk hs (by omega) h4 ha hbb hc
  by_cases h5:s[k].toNat≤244
  ·by_cases ha:s[k].toNat=240
   ·rcases azk (Str.inB s (k+1) 144 191)with hc|hc
    ·rcases azk (Str.inB s (k+2) 128 191)with hd|hd
     ·rcases azk (Str.inB s (k+3) 128 191)with he|he
      ·exact bw1 s k w hk hs ha hc hd he
      ·exact aw9 s k w hk hs ha hc hd he
     ·exact awz s k w hk hs ha hc hd
    ·exact aw1 s k w hk hs ha hc
   ·by_cases hbb:s[k].toNat=244
    ·rcases azk (Str.inB s (k+1) 128 143)with hc|hc
     ·rcases azk (Str.inB s (k+2) 128 191)with hd|hd
      ·rcases azk (Str.inB s (k+3) 128 191)with he|he
       ·exact bw4 s k w hk hs hbb hc hd he
       ·exact aw5 s k w hk hs hbb hc hd he
      ·exact aw3 s k w hk hs hbb hc hd
     ·exact aw2 s k w hk hs hbb hc
    ·rcases azk (Str.inB s (k+1) 128 191)with hc|hc
     ·rcases azk (Str.inB s (k+2) 128 191)with hd|hd
      ·rcases azk (Str.inB s (k+3) 128 191)with he|he
       ·exact bwg s k w hk hs (by omega) h5 ha hbb hc hd he
       ·exact aw7 s k w hk hs (by omega) h5 ha hbb hc hd he
      ·exact aw4 s k w hk hs (by omega) h5 ha hbb hc hd
     ·exact aw0 s k w hk hs (by omega) h5 ha hbb hc
  exact cq5 s k w hk (by omega)
 ·exact ckw s k w hk
theorem aqw(s:ByteArray)(k c n:Nat)(w:World)(hs:s.size≤1000000000)(h:Str.refDec s k=(c,n)):
  Calls Tryz.prog 226 #[.string s,.int .i64 k] w fun e w'=>e=.returned (.tuple #[.int .i64 c,.int .i64 n])∧Below w.heap.size w w':=by
 refine(decode_any s k w hs).mono fun e w' ⟨he,q,hw⟩=>?_
 subst hw;exact⟨by rw[he,h];rfl,below_drewN (Below.refl _ _) _⟩
theorem avu(s:ByteArray)(w:World)(hs:s.size≤2000000):
  Calls Tryz.prog 203 #[.string s] w fun e w'=>e=.returned (.bool (Str.valid s.data.toList))∧Below w.heap.size w w':=by
 by_cases h4:s.size≤4096
 ·have Hv:=kept (show Str.valid s.data.toList=Lib.validD s.data.toList by simp[Str.valid,h4]);go_enter Tryz.func203,Tryz.ntmps203;go_wp2
  go_loopw [3] (fun i wr=>∃k:Nat,k≤s.size∧i=.int .i64 k∧Lib.validD (s.data.toList.drop k)=Lib.validD s.data.toList∧Below w.heap.size w wr) (fun i _=>s.size-(intOf i).toNat)
  case atStart=>exact⟨0,by omega,rfl,rfl,Below.refl _ _⟩
  case round=>
   obtain⟨k,hk,rfl,hval,hbel⟩:=hrel;have Hval:=kept hval;have Hl:=kept hbel;clear hval hbel;by_cases hlt:k<s.size
   ·have hlt':(k:Int)<s.size:=by omega
    have Hst:=kept (Str.valid_at s k hlt);have hwd:=Str.dec_width s k hlt;generalize hd:Utf8.decode s k=d at Hst hwd;obtain⟨c,n⟩:=d;rcases Str.refDec_cases s k hlt with⟨hb,he⟩|⟨hb,he⟩
    ·have He:=kept he;rw[hd]at hb;have Hf:=kept (show Lib.validD s.data.toList=false by rw[←Hval.out,Hst.out,if_pos hb]);clear hb he hd hwd;go_wp2_with fail;refine(aqw _ _ 0 0 _ (by omega) He.out).mono ?_;rintro e w1 ⟨rfl,b1⟩;have B1:=kept b1;clear b1;go_wp2
     go_ret
     exact⟨aqb (by rw[Hv.out,Hf.out]),bthen Hl.out B1.out⟩
    ·rw[hd]at hb he;have He:=kept he;have Hf:=kept (show Lib.validD (s.data.toList.drop (k+n))=Lib.validD s.data.toList by rw[←Hval.out,Hst.out,if_neg hb]);have hw1:1≤n:=hwd.1;have hw2:(k:Int)+n≤s.size:=by have:=hwd.2;simp only at this;omega
     have hnz:((n:Int)==0)=false:=by simp;omega
     have hnz2:¬(n:Int)=0:=by omega
     clear hb he hd hwd;go_wp2_with fail;refine(aqw _ _ c n _ (by omega) He.out).mono ?_;rintro e w1 ⟨rfl,b1⟩;have B1:=kept b1;clear b1;go_wp2
     go_roundw
     case rel=>exact⟨k+n,by omega,by go_num,Hf.out,bthen Hl.out B1.out⟩
     case measure=>simp[intOf];omega
   ·have Hf:=kept (show Lib.validD s.data.toList=true by rw[←Hval.out,ZG (by simp;omega)];rfl);go_wp2
    go_ret
    exact⟨aqb (by rw[Hv.out,Hf.out]),Hl.out⟩
 ·have Hv:=kept (show Str.valid s.data.toList=false by simp[Str.valid];omega);go_enter Tryz.func203,Tryz.ntmps203;go_wp2
  go_ret
  exact⟨aqb Hv.out.symm,Below.refl _ _⟩
theorem bq6(s:ByteArray)(w:World)(hs:s.size≤2000000)(g:Lib.Utf8Tabs 0 1 w):
  Calls Tryz.prog 99 #[.string s] w fun e w'=>e=.returned (.bool (Str.valid s.data.toList))∧Below w.heap.size w w':=by
 by_cases h4:s.size≤4096
 ·have Hv:=kept (show Str.valid s.data.toList=Lib.validD s.data.toList by simp[Str.valid,h4]);have G:=kept g;clear g;go_enter Tryz.func99,Tryz.ntmps99;go_wp2_with fail;refine(Tryz.utf8_ValidString s _ (by omega) G.out).mono ?_;rintro e w1 ⟨rfl,b1⟩;have B1:=kept b1;clear b1;go_wp2
  go_ret
  exact⟨aqb Hv.out.symm,B1.out⟩
 ·have Hv:=kept (show Str.valid s.data.toList=false by simp[Str.valid];omega);go_enter Tryz.func99,Tryz.ntmps99;go_wp2
  go_ret
  exact⟨aqb Hv.out.symm,Below.refl _ _⟩
theorem cvr(s:List UInt8)(w:World)(g:Lib.Utf8Tabs 0 1 w):
  Calls Tryz.prog 168 #[.string ⟨s.toArray⟩] w fun e w'=>e=.returned (.int .i64 (Val.textZ s))∧Below w.heap.size w w':=by
 by_cases h:4096<s.length
 ·have h':(4096:Int)<s.length:=by omega
  have HR:=kept (show(3:Int)=Val.textZ s by unfold Val.textZ;rw[if_pos h]);clear h g;go_enter Tryz.func168,Tryz.ntmps168;go_wp2
  go_ret
  exact⟨aqk HR.out,Below.refl _ _⟩
 ·have h':¬(4096:Int)<s.length:=by omega
  have Hv:=kept (bq6 ⟨s.toArray⟩ w (by rw[size_mk];omega) g);rw[show(⟨s.toArray⟩:ByteArray).data.toList=s from rfl]at Hv;have HR:=kept (show(if Str.valid s then(0:Int)else 1)=Val.textZ s by unfold Val.textZ;rw[if_neg h]);clear h g;rcases azk (Str.valid s)with hv|hv;all_goals
   rw[hv]at Hv HR;clear hv;go_enter Tryz.func168,Tryz.ntmps168;go_wp2_with fail;(with_reducible refine(Hv.out).mono ?_);rintro e w1 ⟨rfl,b1⟩
   have B1:=kept b1;clear b1;go_wp2
   go_ret
   exact⟨aqk HR.out,B1.out⟩
theorem bj2(s:List UInt8)(w:World):
  Calls Tryz.prog 233 #[.string ⟨s.toArray⟩] w fun e w'=>e=.returned (.int .i64 (Val.textZ s))∧Below w.heap.size w w':=by
 by_cases h:4096<s.length
 ·have h':(4096:Int)<s.length:=by omega
  have HR:=kept (show(3:Int)=Val.textZ s by unfold Val.textZ;rw[if_pos h]);clear h;go_enter Tryz.func233,Tryz.ntmps233;go_wp2
  go_ret
  exact⟨aqk HR.out,Below.refl _ _⟩
 ·have h':¬(4096:Int)<s.length:=by omega
  have Hv:=kept (avu ⟨s.toArray⟩ w (by rw[size_mk];omega));rw[show(⟨s.toArray⟩:ByteArray).data.toList=s from rfl]at Hv;have HR:=kept (show(if Str.valid s then(0:Int)else 1)=Val.textZ s by unfold Val.textZ;rw[if_neg h]);clear h;rcases azk (Str.valid s)with hv|hv;all_goals
   rw[hv]at Hv HR;clear hv;go_enter Tryz.func233,Tryz.ntmps233;go_wp2_with fail;(with_reducible refine(Hv.out).mono ?_);rintro e w1 ⟨rfl,b1⟩
   have B1:=kept b1;clear b1;go_wp2
   go_ret
   exact⟨aqk HR.out,B1.out⟩
theorem bwk(k n:Int)(s:List UInt8)(a b:Option Addr)(ni ca nk cb:Nat)(w:World):
  Calls Tryz.prog 166 #[.agg #[.int .i64 k,.int .i64 n,.string ⟨s.toArray⟩,.slice a ni ca,.slice b nk cb]] w fun e w'=>e=.returned (.bool (Val.shapedB k n s ni nk))∧Below w.heap.size w w':=by
 obtain⟨R,hR⟩:=Ex (Val.shapedB k n s ni nk);rw[hR];have HR:=kept hR;clear hR;go_enter Tryz.func166,Tryz.ntmps166;go_wp2;all_goals go_ret
 all_goals refine⟨aqb ?_,ball w _⟩
 all_goals rw[←HR.out]
 all_goals unfold Val.shapedB
 all_goals (try simp only[ZA,Zq,Y8,ne_eq,ZS,Yp,Zc,Zac,Zm,YW,bne_eq_false_iff_eq]at *)
 all_goals (rw[Ye];simp only[Zc,ZS,Zm,ZA,Y8,ne_eq,Zi,false_iff,true_iff,iff_true,iff_false])
 all_goals rw[show((if k=5 then nk==ni else nk==0)=true)=((k=5∧nk=ni)∨(¬k=5∧nk=0))from by by_cases h:k=5<;>simp[h]]
 all_goals (by_cases hs:s=[]<;>simp only[hs,or_true,or_false,true_and,and_true,Yh,Ys,false_and,and_false]at*<;>first|omega|contradiction|(exfalso;simp_all;done))
theorem bzr(k n:Int)(s:List UInt8)(a b:Option Addr)(ni ca nk cb:Nat)(w:World):
  Calls Tryz.prog 231 #[.agg #[.int .i64 k,.int .i64 n,.string ⟨s.toArray⟩,.slice a ni ca,.slice b nk cb]] w fun e w'=>e=.returned (.bool (Val.shapedB k n s ni nk))∧Below w.heap.size w w':=by
 obtain⟨R,hR⟩:=Ex (Val.shapedB k n s ni nk);rw[hR];have HR:=kept hR;clear hR;go_enter Tryz.func231,Tryz.ntmps231;go_wp2;all_goals go_ret
 all_goals refine⟨aqb ?_,ball w _⟩
 all_goals rw[←HR.out]
 all_goals unfold Val.shapedB
 all_goals (try simp only[ZA,Zq,Y8,ne_eq,ZS,Yp,Zc,Zac,Zm,YW,bne_eq_false_iff_eq]at *)
 all_goals (rw[Ye];simp only[Zc,ZS,Zm,ZA,Y8,ne_eq,Zi,false_iff,true_iff,iff_true,iff_false])
 all_goals rw[show((if k=5 then nk==ni else nk==0)=true)=((k=5∧nk=ni)∨(¬k=5∧nk=0))from by by_cases h:k=5<;>simp[h]]
 all_goals (by_cases hs:s=[]<;>simp only[hs,or_true,or_false,true_and,and_true,Yh,Ys,false_and,and_false]at*<;>first|omega|contradiction|(exfalso;simp_all;done))
theorem axx(n:Int)(w:World):
  Calls Tryz.prog 167 #[.int .i64 n] w fun e w'=>e=.returned (.bool (decide (-9007199254740992≤n∧n≤9007199254740992)))∧w'=w:=by
 go_enter Tryz.func167,Tryz.ntmps167;go_wp2;all_goals go_ret
 all_goals refine⟨aqb ?_,rfl⟩
 all_goals (rw[Ye];simp only[Zc,Zm,Zi,false_iff,true_iff,iff_true,iff_false]at *;try omega)
theorem ak8(n:Int)(w:World):
  Calls Tryz.prog 232 #[.int .i64 n] w fun e w'=>e=.returned (.bool (decide (-9007199254740992≤n∧n≤9007199254740992)))∧w'=w:=by
 go_enter Tryz.func232,Tryz.ntmps232;go_wp2;all_goals go_ret
 all_goals refine⟨aqb ?_,rfl⟩
 all_goals (rw[Ye];simp only[Zc,Zm,Zi,false_iff,true_iff,iff_true,iff_false]at *;try omega)
end
section
namespace Str
open Go.Lib
def hexv(b:UInt8):Int:=if 48≤b.toNat∧b.toNat≤57 then b.toNat-48 else if 97≤b.toNat∧b.toNat≤102 then b.toNat-87 else -1
def isHex(b:UInt8):Bool:=decide (0≤hexv b)
def hexN:Nat→List UInt8→Nat
 |0,_=>0
 |_,[]=>0
 |m+1,b::l=>if isHex b then hexN m l+1 else 0
def hexC(n:Nat)(l:List UInt8):Nat:=(l.take n).foldl (fun c b=>16*c+(hexv b).toNat) 0
def point(l:List UInt8):Nat×Nat×Int:=
 if hexN 6 l=l.length then(0,0,40)
 else if l.getD (hexN 6 l) 0≠125∨hexN 6 l=0∨(1<hexN 6 l∧l.getD 0 0=48)∨Utf8.valid (hexC (hexN 6 l) l)=false then(0,0,2)
 else(hexC (hexN 6 l) l,hexN 6 l+1,0)
def escp(l:List UInt8):Nat×Nat×Int:=
 match l with
 |[]=>(0,0,40)
 |b::t=>
  if b=110 then(10,1,0)else if b=114 then(13,1,0)else if b=116 then(9,1,0)else if b=34∨b=92 then(b.toNat,1,0)
  else if b=117 then(match t with
   |[]=>(0,0,40)
   |c::u=>if c=123 then((point u).1,(point u).2.1+2,(point u).2.2)else(0,0,2))
  else(0,0,2)
def enc(c:Nat):List UInt8:=encodeRune c
def one(l:List UInt8):List UInt8×Nat×Int:=
 if l.getD 0 0=92 then
  (if(escp (l.drop 1)).2.2≠0 then([],0,(escp (l.drop 1)).2.2)else(enc (escp (l.drop 1)).1,(escp (l.drop 1)).2.1+1,0))
 else if Bad (decodeL l)∨l.getD 0 0<32∨l.getD 0 0=127 then([],0,2)
 else(l.take (decodeL l).2,(decodeL l).2,0)
def unq:Nat→List UInt8→List UInt8→Nat→List UInt8×Nat×Int
 |0,_,_,_=>([],0,40)
 |f+1,l,acc,i=>
  if l=[]then([],0,40)
  else if l.getD 0 0=34 then(if 4096<acc.length then([],0,3)else(acc,i+1,0))
  else if(one l).2.2≠0 then([],0,(one l).2.2)
  else unq f (l.drop (one l).2.1) (acc++(one l).1) (i+(one l).2.1)
def unquote(l:List UInt8):List UInt8×Nat×Int:=
 if l=[]then([],0,40)else if l.getD 0 0≠34 then([],0,2)else unq l.length (l.drop 1) [] 1
theorem hexN_le:∀(m:Nat) (l:List UInt8),hexN m l≤m∧hexN m l≤l.length
 |0,_=>by simp[hexN]
 |m+1,[]=>by simp[hexN]
 |m+1,b::l=>by
  have:=hexN_le m l;unfold hexN;split<;>simp<;>omega
theorem hexN_end:∀(m k:Nat) (l:List UInt8),(∀j,j<k→isHex (l.getD j 0)=true)→k≤l.length→k≤m→(k=m∨k=l.length∨isHex (l.getD k 0)=false)→hexN m l=k
 |0,k,l,_,_,h3,_=>by simp[hexN];omega
 |m+1,k,[],_,h2,_,_=>by simp[hexN]at *;omega
 |m+1,0,b::l,_,_,_,h4=>by
  have:isHex b=false:=by
   rcases h4 with h|h|h
   ·omega
   ·simp at h
   ·simpa using h
  simp[hexN,this]
 |m+1,k+1,b::l,h1,h2,h3,h4=>by
  have hb:isHex b=true:=by simpa using h1 0 (by omega)
  have ih:=hexN_end m k l (fun j hj=>by simpa using h1 (j+1) (by omega)) (by simpa using h2) (by omega) (by
   rcases h4 with h|h|h
   ·exact .inl (by omega)
   ·exact .inr (.inl (by simpa using h))
   ·exact .inr (.inr (by simpa using h)))
  simp[hexN,hb,ih]
theorem hexv_le(b:UInt8):hexv b≤15:=by
 unfold hexv;split
 ·omega
 ·split<;>omega
theorem hexC_succ(n:Nat)(l:List UInt8)(h:n<l.length):hexC (n+1) l=16*hexC n l+(hexv l[n]).toNat:=by
 unfold hexC;rw[ZV h,List.foldl_append];rfl
theorem hexC_lt:∀(n:Nat) (l:List UInt8),n≤l.length→hexC n l<16^n
 |0,l,_=>by simp[hexC]
 |n+1,l,h=>by
  have ih:=hexC_lt n l (by omega);have:=hexv_le l[n];rw[hexC_succ n l (by omega),Nat.pow_succ];omega
theorem enc_length(c:Nat):1≤(enc c).length∧(enc c).length≤4:=by
 have:=encodeRuneZ_length c;simpa [enc,encodeRune]using this
theorem unq_step(f:Nat)(l acc:List UInt8)(i:Nat)(b:List UInt8)(n:Nat)(h1:l≠[])(h2:l.getD 0 0≠34)(h3:one l=(b,n,(0:Int))):unq (f+1) l acc i=unq f (l.drop n) (acc++b) (i+n):=by
 rw[unq,if_neg h1,if_neg h2,h3,if_neg (by simp)]
theorem unq_err(f:Nat)(l acc:List UInt8)(i:Nat)(b:List UInt8)(n:Nat)(e:Int)(h1:l≠[])(h2:l.getD 0 0≠34)(h3:one l=(b,n,e))(he:e≠0):unq (f+1) l acc i=([],0,e):=by
 rw[unq,if_neg h1,if_neg h2,h3,if_pos (by simpa using he)]
end Str
end
section
namespace Str
open Go.Lib
theorem dec_cases(l:List UInt8):((l.getD 0 0).toNat<128∧decodeL l=((l.getD 0 0).toNat,1))∨(128≤(l.getD 0 0).toNat∧128≤(decodeL l).1):=by
 rw[decodeL_N];generalize (l.getD 0 0).toNat=b0;generalize (l.getD 1 0).toNat=b1;generalize (l.getD 2 0).toNat=b2;generalize (l.getD 3 0).toNat=b3;rcases decodeN_shape l.length b0 b1 b2 b3 with⟨c,e⟩|⟨c1,c2,c3,cv,e⟩|⟨c1,c2,c3,c4,cv,cs,e⟩|⟨c1,c2,c3,c4,c5,cv,cw,e⟩|e
 ·exact .inl ⟨c,e⟩
 ·right;rw[e];simp only;omega
 ·right;rw[e];simp only;omega
 ·right;rw[e];simp only;omega
 ·by_cases hb:b0<128
  ·left
   refine⟨hb,?_⟩;unfold decodeN;rw[if_pos hb]
  ·right;rw[e];simp only;omega
theorem dec_lt(l:List UInt8):(decodeL l).1≤1114111:=by
 have hb:(l.getD 0 0).toNat<256:=UInt8.toNat_lt _;rw[decodeL_N];have:=decodeN_valid l.length (l.getD 0 0).toNat (l.getD 1 0).toNat (l.getD 2 0).toNat (l.getD 3 0).toNat hb;omega
theorem point_lt(l:List UInt8):(point l).1<16777216:=by
 have h1:=hexN_le 6 l;have h2:=hexC_lt (hexN 6 l) l h1.2;have h3:16^hexN 6 l≤16^6:=YB (by decide) h1.1;unfold point
 repeat' split
 all_goals simp only
 all_goals omega
theorem point_len(l:List UInt8):(point l).2.1≤l.length:=by
 have h1:=hexN_le 6 l;unfold point;split;next hh=>simp only;omega
 next hh=>
  split
  ·simp
  ·simp only;omega
theorem escp_lt(l:List UInt8):(escp l).1<16777216:=by
 unfold escp;split
 ·simp
 ·next b t=>
  have:=b.toNat_lt
  repeat' split
  all_goals first
   |exact point_lt _
   |(simp only;omega)
theorem escp_len(l:List UInt8)(h:(escp l).2.2=0):1≤(escp l).2.1∧(escp l).2.1≤l.length:=by
 unfold escp at h⊢;split
 ·simp at h
 ·next b t=>
  simp only at h;split
  ·simp
  split
  ·simp
  split
  ·simp
  split
  ·simp
  next h1 h2 h3 h4=>
  rw[if_neg h1,if_neg h2,if_neg h3,if_neg h4]at h;split;next h5=>
   rw[if_pos h5]at h;split
   ·simp at h
   ·next c u=>
    simp only at h;split;next h6=>
     rw[if_pos h6]at h;have:=point_len u;simp only[Zh];omega
    next h6=>rw[if_neg h6]at h;simp at h
  next h5=>rw[if_neg h5]at h;simp at h
theorem one_esc(l:List UInt8)(h:l.getD 0 0=92)(c n:Nat)(e:Int)(he:escp (l.drop 1)=(c,n,e)):one l=if e≠0 then([],0,e)else(enc c,n+1,0):=by
 unfold one;rw[if_pos h,he]
theorem one_bad(l:List UInt8)(c n:Nat)(hd:decodeL l=(c,n))(h1:c≠92)(h2:(c=65533∧n=1)∨c<32∨c=127):one l=([],0,2):=by
 have hc:=dec_cases l;rw[hd]at hc;have h0:l.getD 0 0≠92:=by
  intro h;rw[h]at hc;rcases hc with⟨_,h4⟩|⟨h4,_⟩
  ·exact h1 (congrArg Prod.fst h4)
  ·exact absurd h4 (by decide)
 unfold one;rw[if_neg h0,if_pos ?_];rw[hd];rcases h2 with h2|h2|h2
 ·exact .inl h2
 ·rcases hc with⟨_,h4⟩|⟨_,h4⟩
  ·right;left
   rw[YE];have:=congrArg Prod.fst h4;simp only at this;show _<32;omega
  ·simp only at h4;omega
 ·rcases hc with⟨_,h4⟩|⟨_,h4⟩
  ·right;right
   rw[←Z9];have:=congrArg Prod.fst h4;simp only at this;show _=127;omega
  ·simp only at h4;omega
theorem one_ok(l:List UInt8)(hl:l≠[])(c n:Nat)(hd:decodeL l=(c,n))(h1:c≠92)(h2:¬((c=65533∧n=1)∨c<32∨c=127)):one l=(enc c,n,0):=by
 have hc:=dec_cases l;have hen:=encode_decode l hl (by rw[hd];exact fun h=>h2 (.inl h));rw[hd]at hc hen;have hv:∀v:UInt8,v.toNat<128→c≠v.toNat→l.getD 0 0≠v:=by
  intro v hv hne h;rw[h]at hc;rcases hc with⟨_,h4⟩|⟨h4,_⟩
  ·exact hne (congrArg Prod.fst h4)
  ·omega
 unfold one;rw[if_neg (hv 92 (by decide) h1),if_neg ?_,hd]
 ·show(l.take n,n,(0:Int))=(enc c,n,0)
  rw[enc,←hen]
 ·rintro(h|h|h)
  ·rw[hd]at h;exact h2 (.inl h)
  ·rw[YE]at h;have h':(l.getD 0 0).toNat<32:=h;rcases hc with⟨_,h4⟩|⟨h4,_⟩
   ·have:=congrArg Prod.fst h4;simp only at this;exact h2 (.inr (.inl (by omega)))
   ·omega
  ·exact hv 127 (by decide) (fun hh=>h2 (.inr (.inr hh))) h
theorem unq_nil(f:Nat)(acc:List UInt8)(i:Nat):unq (f+1) [] acc i=([],0,40):=by rw[unq,if_pos rfl]
theorem unq_quote(f:Nat)(l acc:List UInt8)(i:Nat)(h1:l≠[])(h:l.getD 0 0=34):unq (f+1) l acc i=if 4096<acc.length then([],0,3)else(acc,i+1,0):=by
 rw[unq,if_neg h1,if_pos h]
end Str
end
section
namespace Str
open Go.Lib
theorem getD_app(a b:List UInt8)(i:Nat)(h:i<a.length):(a++b).getD i 0=a.getD i 0:=by
 simp[List.getD,ZO h]
theorem dec_append(a b:List UInt8)(h:a≠[])(hg:¬Bad (decodeL a)):decodeL (a++b)=decodeL a:=by
 have h0:0<a.length:=YK.2 h;have e0:=getD_app a b 0 h0;have hl:(a++b).length=a.length+b.length:=Za;rw[decodeL_N]at hg;rw[decodeL_N,decodeL_N,e0,hl];rcases decodeN_shape a.length (a.getD 0 0).toNat (a.getD 1 0).toNat (a.getD 2 0).toNat (a.getD 3 0).toNat with⟨c,e⟩|⟨c1,c2,c3,cv,e⟩|⟨c1,c2,c3,c4,cv,cs,e⟩|⟨c1,c2,c3,c4,c5,cv,cw,e⟩|e
 ·rw[e];unfold decodeN;rw[if_pos c]
 ·rw[e,getD_app a b 1 c2];generalize (a.getD 0 0).toNat=b0 at *;generalize (a.getD 1 0).toNat=b1 at *;unfold decodeN
  repeat' split
  all_goals first
   |rfl
   |(exfalso;omega)
 ·rw[e,getD_app a b 1 (by omega),getD_app a b 2 c2];generalize (a.getD 0 0).toNat=b0 at *;generalize (a.getD 1 0).toNat=b1 at *;generalize (a.getD 2 0).toNat=b2 at *;unfold decodeN
  repeat' split
  all_goals first
   |rfl
   |(exfalso;omega)
 ·rw[e,getD_app a b 1 (by omega),getD_app a b 2 (by omega),getD_app a b 3 c2];generalize (a.getD 0 0).toNat=b0 at *;generalize (a.getD 1 0).toNat=b1 at *;generalize (a.getD 2 0).toNat=b2 at *;generalize (a.getD 3 0).toNat=b3 at *;unfold decodeN
  repeat' split
  all_goals first
   |rfl
   |(exfalso;omega)
 ·exact absurd (by rw[e];exact⟨rfl,rfl⟩) hg
theorem valid_step(l:List UInt8)(h:l≠[]):validD l=if Bad (decodeL l)then false else validD (l.drop (decodeL l).2):=by
 rw[validD_step _ h];rfl
theorem valid_append:∀(n:Nat) (a b:List UInt8),a.length≤n→validD a=true→validD (a++b)=validD b
 |_,[],_,_,_=>rfl
 |0,_::_,_,hn,_=>by simp at hn
 |n+1,x::a,b,hn,hv=>by
  have hne:x::a≠[]:=by simp
  have hw:=decodeL_le (x::a) hne;rw[valid_step _ hne]at hv;by_cases hb:Bad (decodeL (x::a))
  ·rw[if_pos hb]at hv;simp at hv
  ·rw[if_neg hb]at hv;have hd:=dec_append (x::a) b hne hb;have hne2:(x::a)++b≠[]:=by simp
   rw[valid_step _ hne2,hd,if_neg hb,List.drop_append_of_le_length hw];refine valid_append n _ b ?_ hv;have h1:1≤(decodeL (x::a)).2:=by
    have:=dec_width ⟨(x::a).toArray⟩ 0 (show 0<(x::a).toArray.size by simp);rw[←decL]at this;exact this.1
   rw[Zv];omega
def rc:Nat→List UInt8→Nat
 |0,_=>0
 |f+1,l=>if l=[]then 0 else 1+rc f (l.drop (decodeL l).2)
theorem dec_pos(l:List UInt8)(h:l≠[]):1≤(decodeL l).2:=by
 have:=dec_width ⟨l.toArray⟩ 0 (show 0<l.toArray.size by simpa using YK.2 h);rw[←decL]at this;exact this.1
end Str
end
section
namespace Str
open Go.Lib
theorem getD_take(l:List UInt8)(n i:Nat)(h:i<n):(l.take n).getD i 0=l.getD i 0:=by
 simp[List.getD,h]
theorem dec_good(l:List UInt8)(h:l≠[])(hg:¬Bad (decodeL l)):decodeL (l.take (decodeL l).2)=decodeL l:=by
 have h0:0<l.length:=YK.2 h;have ht:=ZQ (i:=(decodeL l).2) (l:=l);rw[Nat.min_eq_left (decodeL_le l h)]at ht;rw[decodeL_N (l.take _),ht];rw[decodeL_N]at hg⊢;rcases decodeN_shape l.length (l.getD 0 0).toNat (l.getD 1 0).toNat (l.getD 2 0).toNat (l.getD 3 0).toNat with⟨c,e⟩|⟨c1,c2,c3,cv,e⟩|⟨c1,c2,c3,c4,cv,cs,e⟩|⟨c1,c2,c3,c4,c5,cv,cw,e⟩|e
 ·rw[e];simp only;rw[getD_take l 1 0 (by omega)];unfold decodeN;rw[if_pos c]
 ·rw[e];simp only;rw[getD_take l 2 0 (by omega),getD_take l 2 1 (by omega)];generalize (l.getD 0 0).toNat=b0 at *;generalize (l.getD 1 0).toNat=b1 at *;unfold decodeN
  repeat' split
  all_goals first
   |rfl
   |(exfalso;omega)
 ·rw[e];simp only;rw[getD_take l 3 0 (by omega),getD_take l 3 1 (by omega),getD_take l 3 2 (by omega)];generalize (l.getD 0 0).toNat=b0 at *;generalize (l.getD 1 0).toNat=b1 at *;generalize (l.getD 2 0).toNat=b2 at *;unfold decodeN
  repeat' split
  all_goals first
   |rfl
   |(exfalso;omega)
 ·rw[e];simp only;rw[getD_take l 4 0 (by omega),getD_take l 4 1 (by omega),getD_take l 4 2 (by omega),getD_take l 4 3 (by omega)];generalize (l.getD 0 0).toNat=b0 at *;generalize (l.getD 1 0).toNat=b1 at *;generalize (l.getD 2 0).toNat=b2 at *;generalize (l.getD 3 0).toNat=b3 at *;unfold decodeN
  repeat' split
  all_goals first
   |rfl
   |(exfalso;omega)
 ·exact absurd (by rw[e];exact⟨rfl,rfl⟩) hg
theorem take_ne(l:List UInt8)(h:l≠[]):l.take (decodeL l).2≠[]:=by
 have h1:=dec_pos l h;have h2:=YK.2 h;intro he;have:=congrArg List.length he;simp at this;rcases this with h3|h3
 ·omega
 ·exact h h3
end Str
end
section
namespace Num
def digB(c:UInt8):Bool:=decide (48≤c.toNat)&&decide (c.toNat≤57)
def digits(s:List UInt8):Bool:=s.all digB&&(s == [48]||(s != []&&s.getD 0 0 !=48))
def val(s:List UInt8):Nat:=s.foldl (fun n c=>10*n+(c.toNat-48)) 0
def parse(s:List UInt8):Int×Int:=
 let minus:Bool:=s.getD 0 0==45
 let t:=if minus then s.drop 1 else s
 if !digits t||(minus&&t == [48])then(0,2)
 else if 16<t.length then(0,5)
 else if 9007199254740992<val t then(0,5)
 else((if minus then-(val t:Int)else val t),0)
def fmtN:Nat→Nat→List UInt8
 |0,_=>[]
 |f+1,n=>if n<10 then[UInt8.ofNat (48+n)]else fmtN f (n/10)++[UInt8.ofNat (48+n%10)]
def fmt(n:Nat):List UInt8:=fmtN 20 n
end Num
namespace Adr
structure K where
 kind:Int
 num:Int
 str:List UInt8
deriving DecidableEq
def K.none:K:=⟨0,0,[]⟩
structure Step where
 name:List UInt8
 key:K
deriving DecidableEq
structure Ad where
 mods:List Step
 data:Bool
 type:List UInt8
 name:List UInt8
 key:K
deriving DecidableEq
def Ad.zero:Ad:=⟨[],false,[],[],K.none⟩
def letter(c:UInt8):Bool:=(decide (97≤c.toNat)&&decide (c.toNat≤122))||(decide (65≤c.toNat)&&decide (c.toNat≤90))||c==95
def wordB(c:UInt8):Bool:=letter c||Num.digB c
def ident(s:List UInt8):Bool:=s != []&&decide (s.length≤64)&&letter (s.getD 0 0)&&s.all wordB
def reservedL:List (List UInt8):=[[109,111,100,117,108,101],[100,97,116,97],[118,97,114],[108,111,99,97,108],[111,117,116,112,117,116],[101,97,99,104],[99,111,117,110,116],[114,101,109,111,116,101],[112,97,116,104],[115,101,108,102],[99,104,97,110,103,101]]
def reserved(s:List UInt8):Bool:=reservedL.contains s
def kindB(s:List UInt8):Bool:=!reserved s&&ident s
def keyOk(k:K):Bool:=
 if k.kind=1 then decide (0≤k.num)&&decide (k.num≤9007199254740992)&&k.str == []
 else if k.kind=2 then k.num==0&&Str.valid k.str
 else k==K.none
def check(a:Ad):Int:=
 if 16<a.mods.length then 4
 else match a.mods.find? (fun s=>!(ident s.name&&keyOk s.key))with
  |some s=>if ident s.name then 1 else 7
  |none=>if !kindB a.type||!ident a.name then 7 else if !keyOk a.key then 1 else 0
def fmtKey(k:K):List UInt8:=
 if !keyOk k||k.kind==0 then[]else if k.kind=1 then 91::(Num.fmt k.num.toNat++[93])else 91::(Str.quote k.str++[93])
def modW:List UInt8:=[109,111,100,117,108,101,46]
def dataW:List UInt8:=[100,97,116,97,46]
def steps(l:List Step):List UInt8:=l.flatMap fun s=>modW++s.name++fmtKey s.key++[46]
def fmt(a:Ad):List UInt8:=
 if check a≠0 then[]else steps a.mods++(if a.data then dataW else[])++a.type++[46]++a.name++fmtKey a.key
def key(s : List UInt8): Option (K × List UInt8) :=
 if s.getD 0 0 ≠ 91 then some (K.none, s)
 else if 1<s.length ∧ s.getD 1 0 = 34 then
  (let u := Str.unquote (s.drop 1)
   let k : K := ⟨2, 0, u.1⟩
   if u.2.2 ≠ 0 ∨ s.length ≤ u.2.1 + 1 ∨ s.getD (u.2.1 + 1) 0 ≠ 93 ∨ (s.take (u.2.1 + 1)).drop 1 ≠ Str.quote u.1 ∨ keyOk k = false then Option.none
   else some (k, s.drop (u.2.1 + 2)))
 else
  (let d := (s.drop 1).takeWhile Num.digB
   let x := Num.parse d
   if x.2 ≠ 0 ∨ s.length ≤ d.length + 1 ∨ s.getD (d.length + 1) 0 ≠ 93 then Option.none
   else some (⟨1, x.1, []⟩, s.drop (d.length + 2)))
def begins(s p:List UInt8):Bool:=p.isPrefixOf s
def step(s:List UInt8):Option (Step×List UInt8):=
 match key ((s.drop 7).dropWhile wordB)with
 |Option.none=>Option.none
 |some (k,rest)=>if ident ((s.drop 7).takeWhile wordB)then some (⟨(s.drop 7).takeWhile wordB,k⟩,rest)else Option.none
def last(s:List UInt8):Option Ad:=
 let t:=if begins s dataW then s.drop 5 else s
 let typ:=t.takeWhile wordB
 let r:=t.dropWhile wordB
 if kindB typ=false∨r.getD 0 0≠46 then Option.none
 else
  let n:=(r.drop 1).takeWhile wordB
  match key ((r.drop 1).dropWhile wordB)with
  |Option.none=>Option.none
  |some (k,rest)=>if ident n=true∧rest=[]then some ⟨[],begins s dataW,typ,n,k⟩else Option.none
def place:Nat→List UInt8→Option (Ad×Bool)
 |0,_=>Option.none
 |f+1,s=>
  if begins s modW then
   match step s with
   |Option.none=>Option.none
   |some (x,rest)=>
    if rest=[]then some ({ Ad.zero with mods:=[x] },false)
    else if rest.getD 0 0≠46 then Option.none
    else match place f (rest.drop 1)with
     |Option.none=>Option.none
     |some (p,w)=>some ({ p with mods:=x::p.mods },w)
  else match last s with
   |Option.none=>Option.none
   |some p=>some (p,true)
def parse(s:List UInt8):Ad×Int:=
 match place (s.length+1) s with
 |some (p,true)=>if 16<p.mods.length then(Ad.zero,4)else(p,0)
 |_=>(Ad.zero,2)
def bare(a:Ad):Ad:={ a with mods:=a.mods.map (fun s=>⟨s.name,K.none⟩),key:=K.none }
def static(s:List UInt8):List UInt8×Int:=if(parse s).2≠0 then([],(parse s).2)else(fmt (bare (parse s).1),0)
structure Rd where
 rest:List UInt8
 bad:Bool
def stopB(c:UInt8):Bool:=c==46||c==91
def wordP(r:Rd):List UInt8×Rd:=
 let s:=r.rest.takeWhile (fun c=>!stopB c)
 (s,⟨r.rest.dropWhile (fun c=>!stopB c),r.bad||!ident s⟩)
def skipP(p:List UInt8)(r:Rd):Rd:=if begins r.rest p then⟨r.rest.drop p.length,r.bad⟩else⟨r.rest,true⟩
def hasP(p:List UInt8)(r:Rd):Bool×Rd:=if begins r.rest p then(true,⟨r.rest.drop p.length,r.bad⟩)else(false,r)
def keyP(r:Rd):K×Rd:=
 if r.bad then(K.none,r)
 else if begins r.rest [91]=false then(K.none,r)
 else
  let t:=r.rest.drop 1
  if begins t [34]then
   let u:=Str.unquote t
   if u.2.2≠0∨Str.quote u.1≠t.take u.2.1 then(K.none,⟨t,true⟩)
   else(⟨2,0,u.1⟩,skipP [93] ⟨t.drop u.2.1,false⟩)
  else
   let n:=if t.all (· != 93)then 0 else(t.takeWhile (· != 93)).length
   let x:=Num.parse (t.take n)
   (⟨1,x.1,[]⟩,skipP [93] ⟨t.drop n,x.2 !=0||decide (x.1<0)⟩)
def stepP(r:Rd):Step×Rd:=
 let w:=wordP r
 let k:=keyP w.2
 (⟨w.1,k.1⟩,k.2)
def modsP:Nat→Rd→List Step→List Step×Rd
 |0,r,l=>(l,r)
 |f+1,r,l=>if r.bad=false∧begins r.rest modW=true then
   (let x := stepP (hasP modW r).2
    modsP f (skipP [46] x.2) (l ++ [x.1]))
  else(l,r)
def parseP(s:List UInt8):Ad×Int:=
 let m:=modsP (s.length+1) ⟨s,false⟩ []
 let d:=hasP dataW m.2
 let t:=wordP d.2
 let n:=wordP (skipP [46] t.2)
 let k:=keyP n.2
 if k.2.bad=true∨k.2.rest≠[]∨kindB t.1=false then(Ad.zero,2)
 else if 16<m.1.length then(Ad.zero,4)
 else(⟨m.1,d.1,t.1,n.1,k.1⟩,0)
end Adr
end
section
open Go.Op (bytesLess)
namespace Sf
structure Inst where
 addr:List UInt8
 dep:List UInt8
 id:List UInt8
 typ:List UInt8
 attrs:V
 ver:Int
 tainted:Bool
 first:Bool
 deps:List (List UInt8)
structure Pend where
 addr:List UInt8
 typ:List UInt8
 tok:List UInt8
structure Outp where
 name:List UInt8
 value:V
 sens:Bool
structure St where
 lin:List UInt8
 ser:Int
 insts:List Inst
 pends:List Pend
 outs:List Outp
def text(s:List UInt8):Bool:=s != []&&Str.valid s
def managed(s typ:List UInt8):Bool:=(Adr.parse s).2==0&&!(Adr.parse s).1.data&&(Adr.parse s).1.type==typ
def keyB(s:List UInt8):Bool:=s == []||((Num.parse s).2==0&&decide (1≤(Num.parse s).1))
def staticB(s:List UInt8):Bool:=(Adr.static s).2==0&&(Adr.static s).1==s
def depsB:Option (List UInt8)→List (List UInt8)→Bool
 |_,[]=>true
 |p,s::l=>staticB s&&!Val.badB p s&&depsB (some s) l
mutual
def known:V→Bool
 |.mk k _ _ is _=>k !=6&&knowns is
def knowns:List V→Bool
 |[]=>true
 |v::l=>known v&&knowns l
end
def V.kind:V→Int
 |.mk k _ _ _ _=>k
def instZ(x:Inst):Int:=
 if !managed x.addr x.typ||!keyB x.dep||!text x.id then 1
 else if Val.checkZ x.attrs≠0 then Val.checkZ x.attrs
 else if V.kind x.attrs≠5 then 6
 else if !known x.attrs then 11
 else if x.ver<1∨9007199254740992<x.ver then 5
 else if !depsB none x.deps then 1 else 0
def behind(x y:Inst):Bool:=bytesLess x.addr y.addr||(x.addr==y.addr&&bytesLess x.dep y.dep)
def instsZ:Option Inst→List Inst→Int
 |_,[]=>0
 |p,x::l=>if instZ x≠0 then instZ x else if(match p with|some y=>!behind y x|none=>false)then 1 else instsZ (some x) l
def pendB(p:Pend):Bool:=text p.tok&&managed p.addr p.typ
def pendsZ:Option (List UInt8)→List Pend→Int
 |_,[]=>0
 |p,x::l=>if !pendB x||Val.badB p x.tok then 1 else pendsZ (some x.tok) l
def outZ(o:Outp):Int:=
 if !Adr.ident o.name then 7 else if Val.checkZ o.value≠0 then Val.checkZ o.value else if !known o.value then 11 else 0
def outsZ:Option (List UInt8)→List Outp→Int
 |_,[]=>0
 |p,x::l=>if outZ x≠0 then outZ x else if Val.badB p x.name then 1 else outsZ (some x.name) l
def checkZ(s:St):Int:=
 if !text s.lin then 1
 else if s.ser<0∨9007199254740992<s.ser then 5
 else if 512<s.insts.length∨512<s.pends.length∨512<s.outs.length then 14
 else if instsZ none s.insts≠0 then instsZ none s.insts
 else if pendsZ none s.pends≠0 then pendsZ none s.pends
 else outsZ none s.outs
def flagE(b:Bool):List UInt8:=Wire.num (if b then 1 else 0)
def wordsE(l:List (List UInt8)):List UInt8:=l.flatMap Wire.strE
def instE(ver:Int)(x:Inst):List UInt8:=
 Wire.strE x.addr++Wire.strE x.dep++Wire.strE x.id++Wire.strE x.typ++Val.enc x.attrs++Wire.num x.ver++flagE x.tainted++(if ver=2 then flagE x.first else[])++Wire.num x.deps.length++wordsE x.deps
def pendE(p:Pend):List UInt8:=Wire.strE p.addr++Wire.strE p.typ++Wire.strE p.tok
def outE(o:Outp):List UInt8:=Wire.strE o.name++Val.enc o.value++flagE o.sens
def magic:List UInt8:=[80,86,83,84]
def stE(ver:Int)(s:St):List UInt8:=
 magic++Wire.num ver++Wire.strE s.lin++Wire.num s.ser++Wire.num s.insts.length++s.insts.flatMap (instE ver)++(if ver=2 then Wire.num s.pends.length++s.pends.flatMap pendE else[])++Wire.num s.outs.length++s.outs.flatMap outE
end Sf
end
section
namespace Str
open Go.Lib
theorem dec_of(l:List UInt8):decodeL l=decodeN l.length (l.getD 0 0).toNat (l.getD 1 0).toNat (l.getD 2 0).toNat (l.getD 3 0).toNat:=by
 have hg:∀i,((⟨l.toArray⟩:ByteArray).get! i)=l.getD i 0:=fun i=>by
  simp[ByteArray.get!,ZX];rfl
 unfold decodeL;rw[decode_at];simp only[hg];rfl
theorem enc_dec(c:Nat)(h:Utf8.valid c=true):(decodeL (enc c)).2=(enc c).length∧¬Bad (decodeL (enc c)):=by
 have hv:(c:Int)<55296∨(57344≤(c:Int)∧(c:Int)≤1114111):=by
  unfold Utf8.valid at h;simp at h;omega
 rw[dec_of];unfold enc encodeRune;by_cases h1:c≤127
 ·rw[encodeRuneZ_one (by omega) (by omega)];simp[decodeN,Bad];rw[if_pos (by omega)];simp;omega
 by_cases h2:c≤2047
 ·rw[encodeRuneZ_two (by omega) (by omega)];have e0:(UInt8.ofNat (192+(c:Int)/64).toNat).toNat=192+c/64:=by
   rw[Z6];omega
  have e1:(UInt8.ofNat (128+(c:Int)%64).toNat).toNat=128+c%64:=by
   rw[Z6];omega
  simp only[ZW,Ym,Zh,Zy,ZN,ZH,List.getD_nil,Nat.toUInt8_eq,e0,e1];unfold decodeN;rw[if_neg (by omega),if_pos (by omega),if_pos (by omega)];simp[Bad]
 by_cases h3:c≤65535
 ·rw[encodeRuneZ_three (by omega)];have e0:(UInt8.ofNat (224+(c:Int)/4096).toNat).toNat=224+c/4096:=by
   rw[Z6];omega
  have e1:(UInt8.ofNat (128+(c:Int)/64%64).toNat).toNat=128+c/64%64:=by
   rw[Z6];omega
  have e2:(UInt8.ofNat (128+(c:Int)%64).toNat).toNat=128+c%64:=by
   rw[Z6];omega
  simp only[ZW,Ym,Zh,Zy,ZN,ZH,List.getD_nil,Nat.toUInt8_eq,e0,e1,e2];unfold decodeN;rw[if_neg (by omega),if_neg (by omega),if_pos (by omega),if_pos (by omega)];simp[Bad]
 ·rw[encodeRuneZ_four (by omega) (by omega)];have e0:(UInt8.ofNat (240+(c:Int)/262144).toNat).toNat=240+c/262144:=by
   rw[Z6];omega
  have e1:(UInt8.ofNat (128+(c:Int)/4096%64).toNat).toNat=128+c/4096%64:=by
   rw[Z6];omega
  have e2:(UInt8.ofNat (128+(c:Int)/64%64).toNat).toNat=128+c/64%64:=by
   rw[Z6];omega
  have e3:(UInt8.ofNat (128+(c:Int)%64).toNat).toNat=128+c%64:=by
   rw[Z6];omega
  simp only[ZW,Ym,Zh,Zy,ZN,ZH,List.getD_nil,Nat.toUInt8_eq,e0,e1,e2,e3];unfold decodeN;rw[if_neg (by omega),if_neg (by omega),if_neg (by omega),if_pos (by omega),if_pos (by omega)];simp[Bad]
theorem enc_valid(c:Nat)(h:Utf8.valid c=true):validD (enc c)=true:=by
 have hl:=enc_length c;have hd:=enc_dec c h;rw[valid_step _ (by intro e;rw[e]at hl;simp at hl),if_neg hd.2,hd.1,List.drop_length];rfl
theorem escp_valid(l:List UInt8)(h:(escp l).2.2=0):Utf8.valid (escp l).1=true:=by
 unfold escp at h⊢;have hp:∀u,(point u).2.2=0→Utf8.valid (point u).1=true:=by
  intro u hu;unfold point at hu⊢;split at hu
  ·simp at hu
  ·split at hu
   ·simp at hu
   ·next h1 h2=>
    rw[if_neg h1,if_neg h2];simp only[not_or]at h2;simpa using h2.2.2.2
 cases l with
 |nil=>simp at h
 |cons b t=>
  dsimp only at h⊢;split
  ·decide
  ·split
   ·decide
   ·split
    ·decide
    ·split
     ·next h34=>rcases h34 with rfl|rfl<;>decide
     ·split
      ·next h1 h2 h3 h4 h5=>
       rw[if_neg h1,if_neg h2,if_neg h3,if_neg h4,if_pos h5]at h;cases t with
       |nil=>simp at h
       |cons c u=>
        dsimp only at h⊢;split
        ·next hc=>rw[if_pos hc]at h;exact hp u h
        ·next hc=>rw[if_neg hc]at h;simp at h
      ·next h1 h2 h3 h4 h5=>rw[if_neg h1,if_neg h2,if_neg h3,if_neg h4,if_neg h5]at h;simp at h
theorem one_valid(l:List UInt8)(hl:l≠[])(h:(one l).2.2=0):validD (one l).1=true:=by
 unfold one at h⊢;split
 ·next h1=>
  rw[if_pos h1]at h;split
  ·next h2=>rfl
  ·next h2=>
   have h2':(escp (l.drop 1)).2.2=0:=by simpa using h2
   exact enc_valid _ (escp_valid _ h2')
 ·next h1=>
  rw[if_neg h1]at h;split
  ·rfl
  ·next h2=>
   have hg:¬Bad (decodeL l):=fun hb=>h2 (.inl hb)
   show validD (l.take (decodeL l).2)=true
   rw[valid_step _ (take_ne l hl),dec_good l hl hg,if_neg hg,List.drop_take];simp[validD_nil]
theorem unq_valid:∀(f:Nat) (l acc:List UInt8) (i:Nat),validD acc=true→(unq f l acc i).2.2=0→valid (unq f l acc i).1=true
 |0,l,acc,i,ha,h=>by simp[unq]at h
 |f+1,l,acc,i,ha,h=>by
  rw[unq]at h⊢;split
  ·next h1=>rw[if_pos h1]at h;simp at h
  ·next h1=>
   rw[if_neg h1]at h;split
   ·next h2=>
    rw[if_pos h2]at h;split
    ·next h3=>rw[if_pos h3]at h;simp at h
    ·next h3=>unfold valid;rw[ha];simp;omega
   ·next h2=>
    rw[if_neg h2]at h;split
    ·next h3=>rw[if_pos h3]at h;exact absurd h h3
    ·next h3=>
     rw[if_neg h3]at h;refine unq_valid f _ _ _ ?_ h;rw[valid_append _ acc _ (Zf _) ha];exact one_valid l h1 (by simpa using h3)
theorem unquote_valid(l:List UInt8)(h:(unquote l).2.2=0):valid (unquote l).1=true:=by
 unfold unquote at h⊢;split
 ·next h1=>rw[if_pos h1]at h;simp at h
 ·next h1=>
  rw[if_neg h1]at h;split
  ·next h2=>rw[if_pos h2]at h;simp at h
  ·next h2=>rw[if_neg h2]at h;exact unq_valid _ _ _ _ rfl h
end Str
namespace Adr
theorem wordB_stop{c:UInt8}(h:wordB c=true):stopB c=false:=by
 unfold wordB letter Num.digB at h;unfold stopB;simp only[ZS,Zc,Zm,ZA]at h;simp only[Yp,Zq,ne_eq];constructor
 ·rintro rfl;revert h;decide
 ·rintro rfl;revert h;decide
theorem take_all:∀(p q:UInt8→Bool) (s:List UInt8),(∀c,p c=true→q c=true)→(s.takeWhile q).all p=true→s.takeWhile p=s.takeWhile q∧s.dropWhile p=s.dropWhile q
 |p,q,[],_,_=>⟨rfl,rfl⟩
 |p,q,c::s,hpq,h=>by
  by_cases hq:q c=true
  ·rw[Yx hq,ZC,Zc]at h;have ih:=take_all p q s hpq h.2;rw[Yx h.1,Yx hq,YQ h.1,YQ hq,ih.1,ih.2];exact⟨rfl,rfl⟩
  ·have hp:¬p c=true:=fun hp=>hq (hpq c hp)
   rw[YX hp,YX hq,Y5 hp,Y5 hq];exact⟨rfl,rfl⟩
theorem take_odd:∀(s:List UInt8),(s.takeWhile (fun c=>!stopB c)).all wordB=false→∃c t,s.dropWhile wordB=c::t∧stopB c=false
 |[],h=>by simp at h
 |c::s,h=>by
  by_cases hs:stopB c=true
  ·rw[YX (by simp[hs])]at h;simp at h
  ·have hs':stopB c=false:=by simpa using hs
   rw[Yx (by simp[hs'])]at h;by_cases hw:wordB c=true
   ·rw[ZC,hw,Zx]at h;rw[YQ hw];exact take_odd s h
   ·rw[Y5 hw];exact⟨c,s,rfl,hs'⟩
theorem ident_all{s:List UInt8}(h:ident s=true):s.all wordB=true:=by
 unfold ident at h;simp only[Zc]at h;exact h.2
theorem word_cases(s:List UInt8):
  (ident (s.takeWhile (fun c=>!stopB c))=true∧s.takeWhile wordB=s.takeWhile (fun c=>!stopB c)∧s.dropWhile wordB=s.dropWhile (fun c=>!stopB c)) ∨
  (ident (s.takeWhile (fun c=>!stopB c))=false∧(ident (s.takeWhile wordB)=false∨∃c t,s.dropWhile wordB=c::t∧stopB c=false)):=by
 have hpq:∀c,wordB c=true→(!stopB c)=true:=fun c hc=>by rw[wordB_stop hc];rfl
 by_cases h:ident (s.takeWhile (fun c=>!stopB c))=true
 ·exact .inl ⟨h,take_all _ _ s hpq (ident_all h)⟩
 ·refine .inr ⟨by simpa using h,?_⟩;by_cases ha:(s.takeWhile (fun c=>!stopB c)).all wordB=true
  ·refine .inl ?_;rw[(take_all _ _ s hpq ha).1];simpa using h
  ·exact .inr (take_odd s (by simpa using ha))
theorem begins_one(s:List UInt8)(c:UInt8)(hc:c≠0):begins s [c]=(s.getD 0 0==c):=by
 cases s with
 |nil=>simp[begins,Ne.symm hc]
 |cons a t=>
  show(c==a&&true)=(a==c)
  rw[ZY];exact Ye.2 ⟨fun h=>by rw[ZA]at h⊢;exact h.symm,fun h=>by rw[ZA]at h⊢;exact h.symm⟩
theorem drop_begins{s:List UInt8}{c:UInt8}(hc:c≠0)(h:s.getD 0 0=c):∃t,s=c::t:=by
 cases s with
 |nil=>exact absurd h (by simpa using Ne.symm hc)
 |cons a t=>exact⟨t,by simpa using h⟩
theorem getD_dropn(s:List UInt8)(n i:Nat):(s.drop n).getD i 0=s.getD (n+i) 0:=by
 simp[ZX,List.getElem?_drop]
theorem skip_one(t:List UInt8)(b:Bool):skipP [93] ⟨t,b⟩=if t.getD 0 0=93 then⟨t.drop 1,b⟩else⟨t,true⟩:=by
 unfold skipP;rw[begins_one _ _ (by decide)];by_cases h:t.getD 0 0=93
 ·rw[if_pos h,if_pos (by rw[h];rfl)];rfl
 ·rw[if_neg h,if_neg (by simpa using h)]
theorem digB_ne{c:UInt8}(h:Num.digB c=true):c≠93:=by
 rintro rfl;revert h;decide
theorem parse_digits{s:List UInt8}(h:(Num.parse s).2=0):(s.all Num.digB=true∧0≤(Num.parse s).1)∨(s.getD 0 0=45∧(Num.parse s).1<0):=by
 unfold Num.parse at h⊢;dsimp only at h⊢;by_cases hm:(s.getD 0 0==45)=true
 ·rw[hm]at h⊢;simp only[if_true]at h⊢;split at h
  ·simp at h
  ·next h1=>
   rw[if_neg h1];split at h
   ·simp at h
   ·next h2=>
    rw[if_neg h2];split at h
    ·simp at h
    ·next h3=>
     rw[if_neg h3];refine .inr ⟨by simpa using hm,?_⟩;show -(Num.val (s.drop 1):Int)<0
     have hpos:Num.val (s.drop 1)≠0:=by
      intro h0;simp only[ZS,Zc,YG,not_or,Zx]at h1;obtain⟨ha,hb⟩:=h1;have hd:Num.digits (s.drop 1)=true:=by simpa using ha
      unfold Num.digits at hd;simp only[Zc,ZS]at hd;obtain⟨hd1,hd2⟩:=hd;rcases hd2 with hd2|⟨hd2,hd3⟩
      ·exact hb hd2
      ·cases ht:s.drop 1 with
       |nil=>rw[ht]at hd2;simp at hd2
       |cons c u=>
        rw[ht]at hd1 hd3 h0;simp only[ZC,Zc]at hd1;have hc:49≤c.toNat:=by
         have h48:=hd1.1;unfold Num.digB at h48;simp only[Zc,Zm]at h48;have:c≠48:=by simpa using hd3
         have:c.toNat≠48:=fun e=>this (Z9.1 e)
         omega
        have hge:∀(l:List UInt8) (n:Nat),n≤l.foldl (fun n c=>10*n+(c.toNat-48)) n:=by
         intro l;induction l with
         |nil=>intro n;exact Zf _
         |cons x l ih=>intro n;exact Zl (Zl (Nat.le_mul_of_pos_left n (by decide)) (Nat.le_add_right _ _)) (ih (10*n+(x.toNat-48)))
        have:=hge u (10*0+(c.toNat-48));unfold Num.val at h0;simp only[List.foldl_cons]at h0;omega
     omega
 ·have hm':(s.getD 0 0==45)=false:=by simpa using hm
  rw[hm']at h⊢;simp only[Zi,if_false,ZT,Y6]at h⊢;split at h
  ·simp at h
  ·next h1=>
   rw[if_neg h1];split at h
   ·simp at h
   ·next h2=>
    rw[if_neg h2];split at h
    ·simp at h
    ·next h3=>
     rw[if_neg h3];refine .inl ⟨?_,?_⟩
     ·have:Num.digits s=true:=by simpa using h1
      unfold Num.digits at this;simp only[Zc]at this;exact this.1
     ·show(0:Int)≤(Num.val s:Int)
      omega
theorem takeW_all{p:UInt8→Bool}:∀(s:List UInt8),(s.takeWhile p).all p=true
 |[]=>rfl
 |c::s=>by
  by_cases h:p c=true
  ·rw[Yx h,ZC,h,takeW_all s];rfl
  ·rw[YX h];rfl
theorem takeW_take{p:UInt8→Bool}:∀(s:List UInt8),s.take (s.takeWhile p).length=s.takeWhile p
 |[]=>rfl
 |c::s=>by
  by_cases h:p c=true
  ·rw[Yx h,Zh,Z3,takeW_take s]
  ·rw[YX h];rfl
theorem takeW_next{p:UInt8→Bool}:∀(s:List UInt8),s.getD (s.takeWhile p).length 0=(s.dropWhile p).getD 0 0
 |[]=>rfl
 |c::s=>by
  by_cases h:p c=true
  ·rw[Yx h,YQ h,Zh,ZH,takeW_next s]
  ·rw[YX h,Y5 h];rfl
theorem dropW_head{p:UInt8→Bool}:∀(s:List UInt8),(s.dropWhile p)=[]∨p ((s.dropWhile p).getD 0 0)=false
 |[]=> .inl rfl
 |c::s=>by
  by_cases h:p c=true
  ·rw[YQ h];exact dropW_head s
  ·rw[Y5 h];exact .inr (by simpa using h)
theorem key_eq(s:List UInt8):match key s with
  |some (k,rest)=>keyP ⟨s,false⟩=(k,⟨rest,false⟩)
  |none=>(keyP ⟨s,false⟩).2.bad=true:=by
 have hk:keyP ⟨s,false⟩=if begins s [91]=false then(K.none,⟨s,false⟩)else
   if begins (s.drop 1) [34]then
    (if(Str.unquote (s.drop 1)).2.2≠0∨Str.quote (Str.unquote (s.drop 1)).1≠(s.drop 1).take (Str.unquote (s.drop 1)).2.1 then(K.none,⟨s.drop 1,true⟩)
    else(⟨2,0,(Str.unquote (s.drop 1)).1⟩,skipP [93] ⟨(s.drop 1).drop (Str.unquote (s.drop 1)).2.1,false⟩))
   else(⟨1,(Num.parse ((s.drop 1).take (if(s.drop 1).all (· != 93)then 0 else((s.drop 1).takeWhile (· != 93)).length))).1,[]⟩,
    skipP [93] ⟨(s.drop 1).drop (if(s.drop 1).all (· != 93)then 0 else((s.drop 1).takeWhile (· != 93)).length),(Num.parse ((s.drop 1).take (if(s.drop 1).all (· != 93)then 0 else((s.drop 1).takeWhile (· != 93)).length))).2 !=0||decide ((Num.parse ((s.drop 1).take (if(s.drop 1).all (· != 93)then 0 else((s.drop 1).takeWhile (· != 93)).length))).1<0)⟩):=by
  unfold keyP;simp only[Zi,if_false]
 rw[hk,begins_one s 91 (by decide)];unfold key;by_cases h91:s.getD 0 0=91
 rotate_left
 ·rw[if_pos h91,if_pos (by simpa using h91)]
 obtain⟨t,rfl⟩:=drop_begins (by decide) h91;rw[if_neg (show¬(91::t).getD 0 0≠91 by simp),if_neg (show¬((91::t).getD 0 0==91)=false by simp)];simp only[ZU,Yv];rw[begins_one t 34 (by decide)];by_cases h34:t.getD 0 0=34
 ·have h1:1<(91::t).length∧(91::t).getD 1 0=34:=by
   refine⟨?_,by simpa using h34⟩;obtain⟨u,rfl⟩:=drop_begins (by decide) h34;simp
  rw[if_pos h1,if_pos (show(t.getD 0 0==34)=true by rw[h34];rfl)];obtain⟨x,n,e,hu⟩:∃x n e,Str.unquote t=(x,n,e):=⟨_,_,_,rfl⟩;have hv:=Str.unquote_valid t;rw[hu]at hv⊢;dsimp only at hv⊢;by_cases he:e=0
  rotate_left
  ·rw[if_pos (.inl he),if_pos (.inl he)]
  have hko:keyOk ⟨2,0,x⟩=true:=by
   unfold keyOk;simp;exact hv he
  have htk:((91::t).take (n+1)).drop 1=t.take n:=by simp
  rw[htk];by_cases hq:Str.quote x=t.take n
  rotate_left
  ·rw[if_pos (.inr (.inr (.inr (.inl (Ne.symm hq))))),if_pos (.inr hq)]
  rw[if_neg (show¬(e≠0∨Str.quote x≠t.take n)from fun h=>h.elim (fun h=>h he) (fun h=>h hq))];rw[skip_one,getD_dropn];by_cases h93:t.getD n 0=93
  ·have hn:n<t.length:=by
    refine Classical.byContradiction fun hn=>?_
    rw[ZX,YJ (by omega)]at h93;exact absurd h93 (by decide)
   rw[if_pos (show t.getD (n+0) 0=93 from h93),if_neg]
   ·simp[YU]
   ·simp only[Zh,ZH,h93,hq,hko,he,not_or];refine⟨by simp,by omega,by simp,by simp,by simp⟩
  ·rw[if_neg (show¬t.getD (n+0) 0=93 from h93),if_pos];exact .inr (.inr (.inl (by simpa using h93)))
 ·have h1:¬(1<(91::t).length∧(91::t).getD 1 0=34):=fun h=>h34 (by simpa using h.2)
  rw[if_neg h1,if_neg (show¬(t.getD 0 0==34)=true from fun h=>h34 (by simpa using h))];dsimp only;obtain⟨d,hd⟩:∃d,d=t.takeWhile Num.digB:=⟨_,rfl⟩;rw[←hd];have hdall:d.all Num.digB=true:=by rw[hd];exact takeW_all t
  have hnx:t.getD d.length 0=(t.dropWhile Num.digB).getD 0 0:=by rw[hd];exact takeW_next t
  have hdt:t=d++t.dropWhile Num.digB:=by rw[hd];exact(List.takeWhile_append_dropWhile).symm
  by_cases hno:t.all (· != 93)=true
  ·rw[if_pos hno];have hp0:Num.parse []=(0,2):=by decide
   have hn93:(91::t).getD (d.length+1) 0≠93:=by
    intro h;rw[ZH]at h;have hl:d.length<t.length:=by
     refine Classical.byContradiction fun hn=>?_
     rw[ZX,YJ (by omega)]at h;exact absurd h (by decide)
    have:=ZE.1 hno t[d.length] (Zt hl);rw[ZX,Zn hl]at h;simp at h this;exact this h
   rw[if_pos (.inr (.inr hn93))];simp only[Yk,Yv,hp0];rw[skip_one];split<;>simp
  ·rw[if_neg hno];obtain⟨p,hp⟩:∃p,p=t.takeWhile (· != 93):=⟨_,rfl⟩;rw[←hp];have hpt:t.take p.length=p:=by rw[hp];exact takeW_take t
   have hpn:t.getD p.length 0=93:=by
    rw[hp,takeW_next];rcases dropW_head (p:=(· != 93)) t with h|h
    ·exfalso
     apply hno;have:=List.takeWhile_append_dropWhile (p:=(· != 93)) (l:=t);rw[h,ZB]at this;rw[←this];exact takeW_all t
    ·simpa using h
   rw[hpt,skip_one,getD_dropn,if_pos (show t.getD (p.length+0) 0=93 from hpn)];have hpl:p.length<t.length:=by
    refine Classical.byContradiction fun hn=>?_
    rw[ZX,YJ (by omega)]at hpn;exact absurd hpn (by decide)
   by_cases hok:(Num.parse p).2=0∧0≤(Num.parse p).1
   ·have hall:p.all Num.digB=true:=by
     rcases parse_digits hok.1 with h|h
     ·exact h.1
     ·omega
    have hpd:p=d:=by
     rw[hp,hd];exact(take_all Num.digB (· != 93) t (fun c hc=>by simpa using digB_ne hc) (by rw[←hp];exact hall)).1.symm
    subst hpd;rw[if_neg (by simp only[hok.1,ZH,hpn,Zh,not_or];exact⟨by simp,by omega,by simp⟩)];simp only[hok.1];rw[show decide ((Num.parse p).1<0)=false by simp;omega];simp[YU]
   ·have hbad:((Num.parse p).2 !=0||decide ((Num.parse p).1<0))=true:=by
     simp only[ZS,Y8,Zm];by_cases h0:(Num.parse p).2=0
     ·exact .inr (by
       by_cases h2:0≤(Num.parse p).1
       ·exact absurd ⟨h0,h2⟩ hok
       ·omega)
     ·exact .inl h0
    have hnone:(Num.parse d).2≠0∨(91::t).length≤d.length+1∨(91::t).getD (d.length+1) 0≠93:=by
     refine Classical.byContradiction fun h=>?_
     simp only[not_or,Decidable.not_not,ZH,Zh]at h;obtain⟨h1,h2,h3⟩:=h;have hpd:p=d:=by
      rw[hp]
      conv=>lhs;rw[hdt]
      rw[hnx]at h3;cases hr:t.dropWhile Num.digB with
      |nil=>rw[hr]at h3;exact absurd h3 (by decide)
      |cons c u=>
       rw[hr]at h3;have hc:c=93:=by simpa using h3
       subst hc
       rw[List.takeWhile_append_of_pos (fun a ha=>by
        have:=ZE.1 hdall a ha
        simpa using digB_ne this)]
       simp
     subst hpd;rcases parse_digits h1 with h|h
     ·exact hok ⟨h1,h.2⟩
     ·have h0:=h.1;cases p with
      |nil=>exact absurd h0 (by decide)
      |cons c u=>
       simp only[ZC,Zc]at hdall;have hc:c=45:=by simpa using h0
       subst hc;exact absurd hdall.1 (by decide)
    rw[if_pos hnone,hbad]
theorem word_bad(r:Rd)(h:r.bad=true):(wordP r).2.bad=true:=by unfold wordP;simp[h]
theorem skip_bad(p:List UInt8)(r:Rd)(h:r.bad=true):(skipP p r).bad=true:=by unfold skipP;split<;>simp[h]
theorem has_bad(p:List UInt8)(r:Rd)(h:r.bad=true):(hasP p r).2.bad=true:=by unfold hasP;split<;>simp[h]
theorem key_bad(r:Rd)(h:r.bad=true):(keyP r).2.bad=true:=by unfold keyP;rw[if_pos h];exact h
def finP(l:List Step)(r:Rd):Ad×Int:=
 let d:=hasP dataW r
 let t:=wordP d.2
 let n:=wordP (skipP [46] t.2)
 let k:=keyP n.2
 if k.2.bad=true∨k.2.rest≠[]∨kindB t.1=false then(Ad.zero,2)
 else if 16<l.length then(Ad.zero,4)
 else(⟨l,d.1,t.1,n.1,k.1⟩,0)
theorem parseP_fin(s:List UInt8):parseP s=finP (modsP (s.length+1) ⟨s,false⟩ []).1 (modsP (s.length+1) ⟨s,false⟩ []).2:=rfl
theorem fin_bad(l:List Step)(r:Rd)(h:r.bad=true):finP l r=(Ad.zero,2):=by
 unfold finP;dsimp only;rw[if_pos (.inl (key_bad _ (word_bad _ (skip_bad _ _ (word_bad _ (has_bad _ _ h))))))]
theorem key_other{c:UInt8}{t:List UInt8}(h:stopB c=false):key (c::t)=some (K.none,c::t):=by
 unfold key;rw[if_pos];unfold stopB at h;simp only[Yp,Zq]at h;simpa using h.2
theorem fin_last(l:List Step)(s:List UInt8):finP l ⟨s,false⟩=match last s with
  |none=>(Ad.zero,2)
  |some p=>if 16<l.length then(Ad.zero,4)else({ p with mods:=l },0):=by
 unfold finP last;dsimp only;have hd:hasP dataW ⟨s,false⟩=(begins s dataW,⟨if begins s dataW then s.drop 5 else s,false⟩):=by
  unfold hasP;by_cases h:begins s dataW=true
  ·rw[if_pos h,if_pos h,h];rfl
  ·rw[if_neg h,if_neg h];simp at h;rw[h]
 rw[hd];dsimp only;obtain⟨t,ht⟩:∃t,t=if begins s dataW then s.drop 5 else s:=⟨_,rfl⟩
 rw[←ht];have hw:∀u,wordP ⟨u,false⟩=(u.takeWhile (fun c=>!stopB c),⟨u.dropWhile (fun c=>!stopB c),!ident (u.takeWhile (fun c=>!stopB c))⟩):=fun u=>by
  unfold wordP;simp
 have hsk:∀u b,skipP [46] ⟨u,b⟩=if u.getD 0 0=46 then⟨u.drop 1,b⟩else⟨u,true⟩:=fun u b=>by
  unfold skipP;rw[begins_one _ _ (by decide)];by_cases h:u.getD 0 0=46
  ·rw[if_pos h,if_pos (by rw[h];rfl)];rfl
  ·rw[if_neg h,if_neg (by simpa using h)]
 rw[hw t];dsimp only;rcases word_cases t with⟨h1,h2,h3⟩|⟨h1,h2⟩
 ·rw[h1,h2,h3,hsk];obtain⟨r,hr⟩:∃r,r=t.dropWhile (fun c=>!stopB c):=⟨_,rfl⟩;obtain⟨a,ha⟩:∃a,a=t.takeWhile (fun c=>!stopB c):=⟨_,rfl⟩;rw[←hr,←ha];by_cases h46:r.getD 0 0=46
  rotate_left
  ·rw[if_neg h46,if_pos (.inl (key_bad _ (word_bad _ rfl))),if_pos (.inr h46)]
  rw[if_pos h46];simp only[ZP];rw[hw];dsimp only;by_cases hk:kindB a=true
  rotate_left
  ·rw[if_pos (.inr (.inr (by simpa using hk))),if_pos (.inl (by simpa using hk))]
  rw[if_neg (show¬(kindB a=false∨r.getD 0 0≠46)from fun h=>h.elim (fun h=>by rw[hk]at h;cases h) (fun h=>h h46))];rcases word_cases (r.drop 1)with⟨k1,k2,k3⟩|⟨k1,k2⟩
  ·rw[k1,k2,k3];have hke:=key_eq ((r.drop 1).dropWhile (fun c=>!stopB c));simp only[ZP];revert hke;split
   ·next k rest hkk=>
    intro hke;rw[hkk,hke];dsimp only;by_cases hre:rest=[]
    ·rw[if_neg (show¬(false=true∨rest≠[]∨kindB a=false) by simp[hre,hk]),if_pos (show ident (List.takeWhile (fun c=>!stopB c) (List.drop 1 r))=true∧rest=[]from⟨k1,hre⟩)]
    ·rw[if_pos (.inr (.inl hre)),if_neg (fun h=>hre h.2)]
   ·next hkk=>
    intro hke;rw[hkk,if_pos (.inl hke)]
  ·rw[k1];rw[if_pos (.inl (key_bad _ rfl))];rcases k2 with k2|⟨c,u,k2,k3⟩
   ·cases hkk:key ((r.drop 1).dropWhile wordB)with
    |none=>rfl
    |some q=>
     obtain⟨k,rest⟩:=q;dsimp only;rw[if_neg (fun h=>by rw[k2]at h;exact absurd h.1 (by simp))]
   ·rw[k2,key_other k3];dsimp only;rw[if_neg (fun h=>by simp at h)]
 ·rw[h1];rw[if_pos (.inl (key_bad _ (word_bad _ (skip_bad _ _ rfl))))];rcases h2 with h2|⟨c,u,h2,h3⟩
  ·rw[if_pos (.inl (by unfold kindB;rw[h2];simp))]
  ·rw[h2,if_pos];refine .inr ?_;unfold stopB at h3;simp only[Yp,Zq]at h3;simpa using h3.1
theorem step_eq(s:List UInt8):match step s with
  |some (x,rest)=>stepP ⟨s.drop 7,false⟩=(x,⟨rest,false⟩)∨((stepP ⟨s.drop 7,false⟩).2.bad=true∧rest≠[]∧rest.getD 0 0≠46)
  |none=>(stepP ⟨s.drop 7,false⟩).2.bad=true:=by
 unfold step stepP;dsimp only;obtain⟨t,ht⟩:∃t,t=s.drop 7:=⟨_,rfl⟩;rw[←ht];have hw:wordP ⟨t,false⟩=(t.takeWhile (fun c=>!stopB c),⟨t.dropWhile (fun c=>!stopB c),!ident (t.takeWhile (fun c=>!stopB c))⟩):=by
  unfold wordP;simp
 rw[hw];dsimp only;rcases word_cases t with⟨h1,h2,h3⟩|⟨h1,h2⟩
 ·rw[h1,h2,h3];have hke:=key_eq (t.dropWhile (fun c=>!stopB c));simp only[ZP];revert hke;split
  ·next k rest hkk=>
   intro hke;rw[hkk,hke];dsimp only;rw[if_pos h1];exact .inl rfl
  ·next hkk=>
   intro hke;rw[hkk];exact hke
 ·rw[h1];have hb:(keyP ⟨t.dropWhile (fun c=>!stopB c),!false⟩).2.bad=true:=key_bad _ rfl;rcases h2 with h2|⟨c,u,h2,h3⟩
  ·rw[h2];split
   ·next x rest hx=>
    split at hx
    ·cases hx
    ·simp at hx
   ·exact hb
  ·rw[h2,key_other h3];dsimp only;split
   ·next x rest hx=>
    split at hx
    ·injection hx with hx;injection hx with hx1 hx2;subst hx2;refine .inr ⟨hb,by simp,?_⟩;unfold stopB at h3;simp only[Yp,Zq]at h3;simpa using h3.1
    ·cases hx
   ·exact hb
theorem key_rest(s:List UInt8)(k:K)(rest:List UInt8)(h:key s=some (k,rest)):rest.length≤s.length:=by
 unfold key at h;split at h
 ·injection h with h;injection h with h1 h2;subst h2;exact Zf _
 ·split at h
  ·dsimp only at h;split at h
   ·cases h
   ·injection h with h;injection h with h1 h2;subst h2;simp
  ·dsimp only at h;split at h
   ·cases h
   ·injection h with h;injection h with h1 h2;subst h2;simp
theorem step_rest(s:List UInt8)(x:Step)(rest:List UInt8)(h:step s=some (x,rest)):rest.length≤s.length:=by
 unfold step at h;split at h
 ·cases h
 ·next k r hk=>
  split at h
  ·injection h with h;injection h with h1 h2;subst h2;have:=key_rest _ _ _ hk;have h2:((s.drop 7).dropWhile wordB).length≤(s.drop 7).length:=(List.dropWhile_suffix _).length_le;simp at h2;omega
  ·cases h
theorem begins_len{s p:List UInt8}(h:begins s p=true):p.length≤s.length:=(Zak.1 h).length_le
theorem place_eq:∀(f:Nat) (s:List UInt8) (l:List Step),s.length<f →
  finP (modsP f ⟨s,false⟩ l).1 (modsP f ⟨s,false⟩ l).2=match place f s with
   |some (p,true)=>if 16<(l++p.mods).length then(Ad.zero,4)else({ p with mods:=l++p.mods },0)
   |_=>(Ad.zero,2)
 |0,s,l,h=>absurd h (Nat.not_lt_zero _)
 |f+1,s,l,h=>by
  rw[modsP,place];by_cases hb:begins s modW=true
  ·rw[if_pos ⟨rfl,hb⟩,if_pos hb];have hh:(hasP modW ⟨s,false⟩).2=⟨s.drop 7,false⟩:=by unfold hasP;rw[if_pos hb];rfl
   dsimp only;rw[hh];have hse:=step_eq s;have hl7:=begins_len hb;have hbad:∀r:Rd,r.bad=true→∀l',modsP f r l'=(l',r):=by
    intro r hr l';cases f with
    |zero=>rfl
    |succ f=>rw[modsP,if_neg (fun h=>by rw[hr]at h;exact absurd h.1 (by simp))]
   split at hse
   ·next x rest hst=>
    rw[hst];dsimp only;have hsr:=step_rest s x rest hst;rcases hse with hse|⟨hse,h1,h2⟩
    ·rw[hse];dsimp only;by_cases hr0:rest=[]
     ·rw[if_pos hr0,hr0];have:skipP [46] ⟨[],false⟩=⟨[],true⟩:=rfl;rw[this,hbad _ rfl];exact fin_bad _ _ rfl
     ·rw[if_neg hr0];by_cases h46:rest.getD 0 0=46
      ·rw[if_neg (fun h=>h h46)];obtain⟨u,rfl⟩:=drop_begins (by decide) h46;have:skipP [46] ⟨46::u,false⟩=⟨u,false⟩:=by
        unfold skipP;rw[begins_one _ _ (by decide)];rfl
       rw[this];have ih:=place_eq f u (l++[x]) (by simp at hsr;omega);rw[ih];simp only[ZU,Yv];split
       ·next p hp=>
        rw[hp];simp
       ·next hp=>
        cases hpl:place f u with
        |none=>rfl
        |some q=>
         obtain⟨p,w⟩:=q;cases w with
         |true=>exact absurd hpl (hp p)
         |false=>rfl
      ·rw[if_pos h46];have:(skipP [46] ⟨rest,false⟩).bad=true:=by
        unfold skipP;rw[begins_one _ _ (by decide),if_neg (by simpa using h46)]
       rw[hbad _ this];exact fin_bad _ _ this
    ·rw[if_neg h1,if_pos h2];have:=skip_bad [46] _ hse;rw[hbad _ this];exact fin_bad _ _ this
   ·next hst=>
    rw[hst];have:=skip_bad [46] _ hse;rw[hbad _ this];exact fin_bad _ _ this
  ·rw[if_neg (fun h=>hb h.2),if_neg hb,fin_last];cases hl:last s with
   |none=>rfl
   |some p=>
    have:p.mods=[]:=by
     unfold last at hl;dsimp only at hl;generalize (if begins s dataW=true then s.drop 5 else s)=t at hl;split at hl
     ·cases hl
     ·split at hl
      ·cases hl
      ·split at hl
       ·injection hl with hl;subst hl;rfl
       ·cases hl
    simp[this]
theorem parse_eq(s:List UInt8):parseP s=parse s:=by
 rw[parseP_fin,place_eq _ _ _ (Nat.lt_succ_self _)];unfold parse;split
 ·next p hp=>rw[hp];simp
 ·next hp=>
  first
  |rfl
  | (split
     · next p hp' => exact absurd hp' (hp p)
     · rfl)
end Adr
end
section
open Go.RowKit
structure Glob(w:World):Prop where
 tabs:Lib.Utf8Tabs 0 1 w
 tz:w.cell? ⟨7,15,none⟩=some (.int .u8 4)
theorem cell_lt{w:World}{a:Addr}{v:Value}(h:w.cell? a=some v):a.block<w.heap.size:=by
 rcases Z7 a.block w.heap.size with h'|h'
 ·exact h'
 ·simp[World.cell?,Array.getElem?_eq_none h']at h
theorem cell_below{w w':World}{a:Addr}{v:Value}(h:w.cell? a=some v)(b:Below w.heap.size w w'):w'.cell? a=some v:=(b.cell (cell_lt h)).trans h
theorem Glob.below{w w':World}(h:Glob w)(b:Below w.heap.size w w'):Glob w':=
 ⟨Utf8Tabs_below h.tabs b,cell_below h.tz b⟩
theorem axj{P:Program}(w:World){a b:ByteArray}{l m r:List UInt8}(ha:a.data.toList=l)(hb:b.data.toList=m)(hr:l++m=r)(h:r.length<1099511627776):
  (Op.stringOp .add a b).run P w=.ok (.string ⟨r.toArray⟩) w:=by
 subst hr;exact axm w ha hb (by rw[Za]at h;exact h)
theorem bqq(s:ByteArray)(k:Nat)(h:k<s.size):s.data.toList.take (k+1)=s.data.toList.take k++[s[k]]:=by
 rw[ZV (by simpa using h)];rfl
theorem drop_cons(s:ByteArray)(k:Nat)(h:k<s.size):s.data.toList.drop k=s[k]::s.data.toList.drop (k+1):=by
 rw[Zr (by simpa using h)];rfl
theorem bjy(s:ByteArray)(k:Nat)(h:k<s.size):s.extract k (k+1)=⟨#[s[k]]⟩:=by
 have:(s.extract k (k+1)).data.toList=[s[k]]:=by
  simp only[ByteArray.data_extract,Array.toList_extract,List.extract_eq_take_drop];rw[drop_cons s k h];simp
 exact bx6 this
theorem azr(b:UInt8)(n:Nat)(hn:n<256)(h:b≠UInt8.ofNat n):((b.toNat:Int)==(n:Int))=false:=by
 have:=b.toNat_lt;refine Zq.2 fun hh=>h ?_
 rw[←Z9,Z6];omega
theorem dqp(w:World)(hc:w.cell? ⟨7,15,none⟩=some (.int .u8 4)):Calls Tryz.prog 263 #[.int .u64 16] w fun e w'=>e=.returned (.int .i64 4)∧Below w.heap.size w w':=by
  have e1:IntKind.u64.wrap (bits BinOp.and IntKind.u64 16 (IntKind.u64.wrap (-16))*285870213051353865)/288230376151711744=15:=by decide
  go_enter Tryz.func263,Tryz.ntmps263;go_wp2
  go_ret
  exact⟨rfl,Below.refl _ _⟩
theorem dz6(w:World)(g:Glob w):Calls Tryz.prog 254 #[.int .u64 16] w fun e w'=>e=.returned (.int .i64 4)∧Below w.heap.size w w':=by
 have hc:=g.tz;clear g;go_enter Tryz.func254,Tryz.ntmps254;go_wp2_with fail;refine(dqp _ hc).mono ?_;rintro e w1 ⟨rfl,b1⟩;go_wp2
 go_ret
 exact⟨rfl,b1⟩
theorem cwz(w:World):Calls Tryz.prog 253 #[.int .i64 16] w fun e w'=>e=.returned (.bool true)∧w=w':=by
 have e1:(bits BinOp.and IntKind.i64 16 15)=0:=by decide
 go_enter Tryz.func253,Tryz.ntmps253;go_wp2
 go_ret
 exact⟨rfl,rfl⟩
theorem BytesAt.conv_from{P:Program}{w:World}{g:Nat}{e0:TypeId}{l:List UInt8}(h:BytesAt w g e0 l)(src dst e:TypeId)(k n cap:Nat)(hn:k+n=l.length)(hs:P.underlying src=some (.slice e))(he:P.underlying e=some (.int .u8))(hd:P.underlying dst=some .string):
  (convert src dst (.slice (some ⟨g,k,none⟩) n cap)).run P w=.ok (.string ⟨(l.drop k).toArray⟩) w:=by
 obtain rfl:(l.drop k).length=n:=by rw[Zv];omega
 exact run_convert_bytes_back w src dst e ⟨g,k,none⟩ cap (l.drop k) hs he hd (fun j hj=>by
  rw[avn,List.getElem_drop];exact h.cell (k+j) (by rw[Zv]at hj;omega))
theorem cvc(w:World):BytesAt (w.alloc (.cells Tryz.zeroCells290 290)) w.heap.size 290 (List.replicate 65 0):=
 ⟨Tryz.zeroCells290,0,0,heap_alloc_new w _,by rfl,.inr rfl⟩
theorem dzb:∀x:Fin 256,bits .and .u64 ((x.val:Nat):Int) 15=((x.val%16:Nat):Int):=by decide
theorem dzo:∀d:Fin 16,(#[48,49,50,51,52,53,54,55,56,57,97,98,99,100,101,102,103,104,105,106,107,108,109,110,111,112,113,114,115,116,117,118,119,120,121,122]:Array UInt8)[d.val]'(Nat.lt_trans d.isLt (by decide))=Str.hd d.val:=by decide
theorem cw6 (d:Nat) (h:d < 16) (h':d < (⟨#[48,49,50,51,52,53,54,55,56,57,97,98,99,100,101,102,103,104,105,106,107,108,109,110,111,112,113,114,115,116,117,118,119,120,121,122]⟩:ByteArray).size):(⟨#[48,49,50,51,52,53,54,55,56,57,97,98,99,100,101,102,103,104,105,106,107,108,109,110,111,112,113,114,115,116,117,118,119,120,121,122]⟩:ByteArray)[d]'h'=Str.hd d:=dzo ⟨d,h⟩
theorem cj3(u:Nat)(w:World)(g:Glob w)(hu:u<256):
  Calls Tryz.prog 243 #[.slice none 0 0,.int .u64 u,.int .i64 16,.bool false,.bool false] w fun e w'=>e=.returned (.tuple #[.slice none 0 0,.string ⟨(Str.hexL u).toArray⟩])∧Below w.heap.size w w':=by
 have G:=kept g;clear g;have Z:=kept (cvc w);have B0:=kept (ball w (.cells Tryz.zeroCells290 290));go_enter Tryz.func243,Tryz.ntmps243;go_wp2_with fail;refine(cwz _).mono ?_;rintro e w1 ⟨rfl,rfl⟩;generalize w.alloc (.cells Tryz.zeroCells290 290)=w1 at Z B0;go_wp2_with fail;refine(dz6 _ (G.out.below B0.out)).mono ?_;rintro e w2 ⟨rfl,b2⟩;have B2:=kept (bthen B0.out b2);have Z2:=kept (Z.out.below b2 Z.out.lt);clear Z B0 b2;go_wp2
 go_loopw [1,13] (fun uv iv wr=>Below w.heap.size w wr∧((uv=.int .u64 u∧iv=.int .i64 65∧BytesAt wr w.heap.size 290 (List.replicate 65 0))∨(16≤u∧uv=.int .u64 ((u/16:Nat):Int)∧iv=.int .i64 64∧BytesAt wr w.heap.size 290 ((List.replicate 65 0).set 64 (Str.hd (u%16)))))) (fun uv _ _=>(intOf uv).toNat)
 case atStart=>exact⟨B2.out,.inl ⟨rfl,rfl,Z2.out⟩⟩
 case round=>
  clear Z2 B2;obtain⟨hbel,⟨rfl,rfl,hz⟩|⟨h16,rfl,rfl,hz⟩⟩:=hrel
  ·have Hl:=kept hbel;have Hz:=kept hz;clear hbel hz;by_cases h16:16≤u
   ·have h16':(16:Int)≤u:=by omega
    have hc:wr.cell? ⟨w.heap.size,64,none⟩=_:=Hz.out.cell 64 (by decide);have hf:wr.frozen? ⟨w.heap.size,64,none⟩=_:=Hz.out.free 64 (by decide);have Hs:=kept (Hz.out.set 64 (Str.hd (u%16)));have ha:bits .and .u64 (u:Int) 15=((u%16:Nat):Int):=dzb ⟨u,hu⟩;have hr:0≤(u:Int)%16∧(u:Int)%16<36:=by omega
    go_wp2;rw[cw6 _ (by omega)];refine⟨⟨Hl.out.setCell (Zf _) _,.inr ⟨h16,rfl,rfl,Hs.out⟩⟩,?_⟩;simp only[intOf];omega
   ·have h16':¬(16:Int)≤u:=by omega
    have hc:wr.cell? ⟨w.heap.size,64,none⟩=_:=Hz.out.cell 64 (by decide);have hf:wr.frozen? ⟨w.heap.size,64,none⟩=_:=Hz.out.free 64 (by decide);have hs:=Hz.out.set 64 (Str.hd u);have hcv:=hs.conv_from (P:=Tryz.prog) 71 9 5 64 1 1 (by simp) Tryz.underlying71 Tryz.underlying5 Tryz.underlying9;have hdg:∀ h',(⟨#[48,49,50,51,52,53,54,55,56,57,97,98,99,100,101,102,103,104,105,106,107,108,109,110,111,112,113,114,115,116,117,118,119,120,121,122]⟩:ByteArray)[u]'h'=Str.hd u:=cw6 u (by omega);have hr:0≤(u:Int)∧(u:Int) < 36:=by omega
    clear hs;go_wp2;refine bodyPost_ret (v:=.tuple #[.slice none 0 0,.string ⟨#[Str.hd u]⟩]) (by simp[results,Tryz.results243,go_sem]) rfl ⟨?_,Hl.out.setCell (Zf _) _⟩;unfold Str.hexL;rw[if_pos (by omega)]
  ·have Hl:=kept hbel;have Hz:=kept hz;clear hbel hz;obtain⟨v,hv⟩:=Ex (u/16);have Hv:=kept hv;have h16':¬(16:Int)≤v:=by omega
   have hr:0≤(v:Int)∧(v:Int)<36:=by omega
   rw [hv];have hdg:∀ h',(⟨#[48,49,50,51,52,53,54,55,56,57,97,98,99,100,101,102,103,104,105,106,107,108,109,110,111,112,113,114,115,116,117,118,119,120,121,122]⟩:ByteArray)[v]'h'=Str.hd v:=cw6 v (by omega);clear hv;have hc:wr.cell? ⟨w.heap.size,63,none⟩=_:=Hz.out.cell 63 (by rw [Yl]; decide);have hf:wr.frozen? ⟨w.heap.size,63,none⟩=_:=Hz.out.free 63 (by rw [Yl]; decide);have hs:=Hz.out.set 63 (Str.hd v);have hcv:=hs.conv_from (P:=Tryz.prog) 71 9 5 63 2 2 (by simp) Tryz.underlying71 Tryz.underlying5 Tryz.underlying9;clear hs;go_wp2;refine bodyPost_ret (v:=.tuple #[.slice none 0 0,.string ⟨#[Str.hd v,Str.hd (u % 16)]⟩]) (by simp [results,Tryz.results243,go_sem]) rfl ⟨?_,Hl.out.setCell (Zf _) _⟩;unfold Str.hexL; rw [if_neg (by omega),Hv.out]
theorem bkz(u:Nat)(w:World)(g:Glob w)(hu:u<256):
  Calls Tryz.prog 224 #[.int .i64 u,.int .i64 16] w fun e w'=>e=.returned (.string ⟨(Str.hexL u).toArray⟩)∧Below w.heap.size w w':=by
 have hb:=cj3 u w g hu;have h0:¬(u:Int)<0:=by omega
 clear g;go_enter Tryz.func224,Tryz.ntmps224;go_wp2_with fail;refine hb.mono ?_;rintro e w1 ⟨rfl,b1⟩;go_wp2
 go_ret
 exact⟨rfl,b1⟩
theorem bwf(u:Nat)(w:World)(g:Glob w)(hu:u<256):
  Calls Tryz.prog 201 #[.int .i64 u,.int .i64 16] w fun e w'=>e=.returned (.string ⟨(Str.hexL u).toArray⟩)∧Below w.heap.size w w':=by
 have hb:=bkz u w g hu;clear g;go_enter Tryz.func201,Tryz.ntmps201;go_wp2_with fail;refine hb.mono ?_;rintro e w1 ⟨rfl,b1⟩;go_wp2
 go_ret
 exact⟨rfl,b1⟩
theorem czo:∀b:Fin 256,Lib.indexByte [48,49,50,51,52,53,54,55,56,57,97,98,99,100,101,102] (UInt8.ofNat b.val)=Str.hexv (UInt8.ofNat b.val):=by decide
theorem bxh(b:UInt8)(w:World):
  Calls Tryz.prog 180 #[.string ⟨#[48,49,50,51,52,53,54,55,56,57,97,98,99,100,101,102]⟩,.int .u8 b.toNat] w fun e w'=>e=.returned (.int .i64 (Str.hexv b))∧w'=w:=by
 refine(Tryz.strings_IndexByte _ _ w).mono fun e w' h=>?_
 have:=czo ⟨b.toNat,b.toNat_lt⟩;simp only[UInt8.ofNat_toNat]at this;rw[←this];simpa using h
theorem ays(c:Nat):Lib.validRune (c:Int)=Utf8.valid (c:Int):=by
 unfold Lib.validRune Utf8.valid;rw[Ye];simp only[Zm,ZS,Zc];omega
theorem bxz(l:List UInt8)(h:Str.hexN 6 l=l.length):Str.point l=(0,0,40):=by unfold Str.point;rw[if_pos h]
theorem aqr(l:List UInt8)(k:Nat)(h:Str.hexN 6 l=k)(hk:k<l.length)(hb:l.getD k 0≠125∨k=0∨(1<k∧l.getD 0 0=48)∨Utf8.valid (Str.hexC k l)=false):Str.point l=(0,0,2):=by
 subst h;unfold Str.point;rw[if_neg (by omega),if_pos hb]
theorem bkb(l:List UInt8)(k:Nat)(h:Str.hexN 6 l=k)(hk:k<l.length)(hb:¬(l.getD k 0≠125∨k=0∨(1<k∧l.getD 0 0=48)∨Utf8.valid (Str.hexC k l)=false)):Str.point l=(Str.hexC k l,k+1,0):=by
 subst h;unfold Str.point;rw[if_neg (by omega),if_neg hb]
theorem bqn(l:List UInt8)(k:Nat)(h:Str.hexN 6 l=k)(hk:k<l.length)(h1:l.getD k 0=125)(h2:k≠0)(h3:¬(1<k∧l.getD 0 0=48))(h4:Utf8.valid (Str.hexC k l)=true):Str.point l=(Str.hexC k l,k+1,0):=by
 refine bkb l k h hk ?_;rw[h1,h4];rintro(h|h|h|h)
 ·exact h rfl
 ·exact h2 h
 ·exact h3 h
 ·simp at h
theorem awo(s:ByteArray)(w:World):
  Calls Tryz.prog 222 #[.string s] w fun e w'=>e=.returned (.tuple #[.int .i32 (Str.point s.data.toList).1,.int .i64 (Str.point s.data.toList).2.1,.int .i64 (Str.point s.data.toList).2.2])∧Below w.heap.size w w':=by
 go_enter Tryz.func222,Tryz.ntmps222;go_wp2
 go_loopw [5,6] (fun nv iv wr=>Below w.heap.size w wr∧∃k:Nat,k≤6∧k≤s.size∧iv=.int .i64 k∧nv=.int .i32 (Str.hexC k s.data.toList)∧∀j,j<k→Str.isHex (s.data.toList.getD j 0)=true) (fun _ iv _=>6-(intOf iv).toNat)
 case atStart=>exact⟨Below.refl _ _,0,by omega,by omega,rfl,rfl,by omega⟩
 case round=>
  obtain⟨hbel,k,h6,hk,rfl,rfl,hall⟩:=hrel;have Hl:=kept hbel;have Ha:=kept hall;clear hbel hall;by_cases hend:k=s.size
  ·subst hend;have Hp:=kept (bxz _ (Str.hexN_end 6 s.size s.data.toList Ha.out (by simp) h6 (.inr (.inl (by simp)))));go_wp2;refine bodyPost_ret (v:=.tuple #[.int .i32 0,.int .i64 0,.int .i64 40]) (by simp[results,Tryz.results222,go_sem]) rfl ⟨by rw[Hp.out];rfl,Hl.out⟩
  ·have hlt:k<s.size:=by omega
   have Hb:=kept (show k=6∨Str.isHex (s.data.toList.getD k 0)=false→Str.hexN 6 s.data.toList=k from fun h=>Str.hexN_end 6 k _ Ha.out (by simpa using hk) h6 (h.imp_right .inr));have hgk:s.data.toList.getD k 0=s[k]:=by simp[hlt];rfl
   have hnn:0≤Str.hexC k s.data.toList:=by omega
   have Hc:=kept (Str.hexC_lt k s.data.toList (by simp;omega));by_cases hk6:k=6
   ·have Hn:=kept (Hb.out (.inl hk6));have hk6':¬(k:Int)<6:=by omega
    have hkpos:1<k:=by omega
    clear hk6;obtain⟨u,hu⟩:∃u:Int,(s[k].toNat:Int)=u:=⟨_,rfl⟩;by_cases h125:s[k]=125
    ·have hu1:(u==125)=true:=by rw[←hu,h125];rfl
     have hu2:(u !=125)=false:=by rw[←hu,h125];rfl
     have hu3:u=125:=by rw[←hu,h125];rfl
     clear hu3;have H125:=kept h125;clear h125;by_cases hk0:k=0
     ·exfalso;omega
     ·have hkz1:((k:Int)==0)=false:=by simpa using hk0
      have hkz2:¬(k:Int)=0:=by omega
      have hlt0:0<s.size:=by omega
      obtain⟨z,hz⟩:∃z:Int,(s[0].toNat:Int)=z:=⟨_,rfl⟩;have hg0:s.data.toList.getD 0 0=s[0]:=by simp[hlt0];rfl
      by_cases h48:1<k∧s[0]=48
      ·have Hp:=kept (aqr _ k Hn.out (by simpa using hlt) (.inr (.inr (.inl ⟨h48.1,by rw[hg0];exact h48.2⟩))));have hk1:1<(k:Int):=by omega
       have hz1:(z==48)=true:=by rw[←hz,h48.2];rfl
       clear hg0 h48;go_wp2;refine bodyPost_ret (v:=.tuple #[.int .i32 0,.int .i64 0,.int .i64 2]) (by simp[results,Tryz.results222,go_sem]) rfl ⟨by rw[Hp.out];rfl,Hl.out⟩
      ·have hv0:=ays (Str.hexC k s.data.toList);rcases azk (Utf8.valid (Str.hexC k s.data.toList:Int))with hv|hv
       ·have Hp:=kept (bqn _ k Hn.out (by simpa using hlt) (by rw[hgk];exact H125.out) hk0 (by rw[hg0];exact h48) hv);have Hv0:=kept (hv0.trans hv);clear hv hv0 hg0;have Hr:=kept (fun W=>(Tryz.utf8_ValidRune (Str.hexC k s.data.toList:Int) W));by_cases hk1:1<k
        ·have hk2:1<(k:Int):=by omega
         have hz1:(z==48)=false:=by rw[←hz];exact azr s[0] 48 (by decide) (fun h=>h48 ⟨hk1,h⟩)
         clear h48;go_wp2_with fail;refine(Hr.out _).mono ?_;rintro e w2 ⟨rfl,rfl⟩;rw[Hv0.out];go_wp2;refine bodyPost_ret (v:=.tuple #[.int .i32 (Str.hexC k s.data.toList:Nat),.int .i64 (k+1:Nat),.int .i64 0]) (by simp[results,Tryz.results222,go_sem]) rfl ⟨by rw[Hp.out],Hl.out⟩
        ·exfalso;omega
       ·have Hp:=kept (aqr _ k Hn.out (by simpa using hlt) (.inr (.inr (.inr hv))));have Hv0:=kept (hv0.trans hv);clear hv hv0 hg0;have Hr:=kept (fun W=>(Tryz.utf8_ValidRune (Str.hexC k s.data.toList:Int) W));by_cases hk1:1<k
        ·have hk2:1<(k:Int):=by omega
         have hz1:(z==48)=false:=by rw[←hz];exact azr s[0] 48 (by decide) (fun h=>h48 ⟨hk1,h⟩)
         clear h48;go_wp2_with fail;refine(Hr.out _).mono ?_;rintro e w2 ⟨rfl,rfl⟩;rw[Hv0.out];go_wp2;refine bodyPost_ret (v:=.tuple #[.int .i32 0,.int .i64 0,.int .i64 2]) (by simp[results,Tryz.results222,go_sem]) rfl ⟨by rw[Hp.out];rfl,Hl.out⟩
        ·exfalso;omega
    ·have Hp:=kept (aqr _ k Hn.out (by simpa using hlt) (.inl (by rw[hgk];exact h125)));have hu1:(u==125)=false:=by rw[←hu];exact azr s[k] 125 (by decide) h125
     have hu2:(u !=125)=true:=by simpa using hu1
     have hu3:¬u=125:=by simpa using hu1
     go_wp2;refine bodyPost_ret (v:=.tuple #[.int .i32 0,.int .i64 0,.int .i64 2]) (by simp[results,Tryz.results222,go_sem]) rfl ⟨by rw[Hp.out];rfl,Hl.out⟩
   ·have hk6':(k:Int)<6:=by omega
    by_cases hx:Str.isHex s[k]=true
    ·have Hx:=kept hx;have hhx:=Str.hexv_le s[k];have hge:¬Str.hexv s[k]<0:=by simpa [Str.isHex]using hx
     have Hs:=kept (Str.hexC_succ k s.data.toList (by simpa using hlt))
     have Hd:=kept (show Str.hexC k s.data.toList<1048576 by
      have:=Hc.out;have:16^k≤16^5:=YB (by decide) (by omega)
      omega)
     clear hx;go_wp2_with fail;refine(bxh s[k] _).mono ?_;rintro e w1 ⟨rfl,rfl⟩;go_wp2;refine⟨⟨Hl.out,k+1,by omega,by omega,by go_num,?_,?_⟩,by simp only[intOf];omega⟩
     ·have e:=Hs.out;have e1:s.data.toList[k]'(by simpa using hlt)=s[k]:=rfl;rw[e1]at e;have hd:=Hd.out;generalize Str.hexC k s.data.toList=C at *;generalize Str.hexv s[k]=D at *;rw[e];congr 1;unfold wrap32;omega
     ·intro j hj;by_cases hjk:j=k
      ·subst hjk;rw[hgk];exact Hx.out
      ·exact Ha.out j (by omega)
    ·have Hn:=kept (Hb.out (.inr (by rw[hgk];simpa using hx)));have hlz:Str.hexv s[k]<0:=by simpa [Str.isHex]using hx
     clear hx;obtain⟨u,hu⟩:∃u:Int,(s[k].toNat:Int)=u:=⟨_,rfl⟩;have Hdig:Kept (∀W:World,Calls Tryz.prog 180 #[.string ⟨#[48,49,50,51,52,53,54,55,56,57,97,98,99,100,101,102]⟩,.int .u8 u] W fun e w'=>e=.returned (.int .i64 (Str.hexv s[k]))∧w'=W):=by
      refine kept fun W=>?_
      have h:=bxh s[k] W
      rwa [hu]at h
     by_cases h125:s[k]=125
     ·have hu1:(u==125)=true:=by rw[←hu,h125];rfl
      have hu2:(u !=125)=false:=by rw[←hu,h125];rfl
      have hu3:u=125:=by rw[←hu,h125];rfl
      clear hu3;have H125:=kept h125;clear h125;by_cases hk0:k=0
      ·have Hp:=kept (aqr _ k Hn.out (by simpa using hlt) (.inr (.inl hk0)));subst hk0;go_wp2_with fail;refine(Hdig.out _).mono ?_;rintro e w1 ⟨rfl,rfl⟩;go_wp2;refine bodyPost_ret (v:=.tuple #[.int .i32 0,.int .i64 0,.int .i64 2]) (by simp[results,Tryz.results222,go_sem]) rfl ⟨by rw[Hp.out];rfl,Hl.out⟩
      ·have hkz1:((k:Int)==0)=false:=by simpa using hk0
       have hkz2:¬(k:Int)=0:=by omega
       have hlt0:0<s.size:=by omega
       obtain⟨z,hz⟩:∃z:Int,(s[0].toNat:Int)=z:=⟨_,rfl⟩;have hg0:s.data.toList.getD 0 0=s[0]:=by simp[hlt0];rfl
       by_cases h48:1<k∧s[0]=48
       ·have Hp:=kept (aqr _ k Hn.out (by simpa using hlt) (.inr (.inr (.inl ⟨h48.1,by rw[hg0];exact h48.2⟩))));have hk1:1<(k:Int):=by omega
        have hz1:(z==48)=true:=by rw[←hz,h48.2];rfl
        clear hg0 h48;go_wp2_with fail;refine(Hdig.out _).mono ?_;rintro e w1 ⟨rfl,rfl⟩;go_wp2;refine bodyPost_ret (v:=.tuple #[.int .i32 0,.int .i64 0,.int .i64 2]) (by simp[results,Tryz.results222,go_sem]) rfl ⟨by rw[Hp.out];rfl,Hl.out⟩
       ·have hv0:=ays (Str.hexC k s.data.toList);rcases azk (Utf8.valid (Str.hexC k s.data.toList:Int))with hv|hv
        ·have Hp:=kept (bqn _ k Hn.out (by simpa using hlt) (by rw[hgk];exact H125.out) hk0 (by rw[hg0];exact h48) hv);have Hv0:=kept (hv0.trans hv);clear hv hv0 hg0;have Hr:=kept (fun W=>(Tryz.utf8_ValidRune (Str.hexC k s.data.toList:Int) W));by_cases hk1:1<k
         ·have hk2:1<(k:Int):=by omega
          have hz1:(z==48)=false:=by rw[←hz];exact azr s[0] 48 (by decide) (fun h=>h48 ⟨hk1,h⟩)
          clear h48;go_wp2_with fail;refine(Hdig.out _).mono ?_;rintro e w1 ⟨rfl,rfl⟩;go_wp2_with fail;refine(Hr.out _).mono ?_;rintro e w2 ⟨rfl,rfl⟩;rw[Hv0.out];go_wp2;refine bodyPost_ret (v:=.tuple #[.int .i32 (Str.hexC k s.data.toList:Nat),.int .i64 (k+1:Nat),.int .i64 0]) (by simp[results,Tryz.results222,go_sem]) rfl ⟨by rw[Hp.out],Hl.out⟩
         ·have hk2:¬1<(k:Int):=by omega
          clear h48;go_wp2_with fail;refine(Hdig.out _).mono ?_;rintro e w1 ⟨rfl,rfl⟩;go_wp2_with fail;refine(Hr.out _).mono ?_;rintro e w2 ⟨rfl,rfl⟩;rw[Hv0.out];go_wp2;refine bodyPost_ret (v:=.tuple #[.int .i32 (Str.hexC k s.data.toList:Nat),.int .i64 (k+1:Nat),.int .i64 0]) (by simp[results,Tryz.results222,go_sem]) rfl ⟨by rw[Hp.out],Hl.out⟩
        ·have Hp:=kept (aqr _ k Hn.out (by simpa using hlt) (.inr (.inr (.inr hv))));have Hv0:=kept (hv0.trans hv);clear hv hv0 hg0;have Hr:=kept (fun W=>(Tryz.utf8_ValidRune (Str.hexC k s.data.toList:Int) W));by_cases hk1:1<k
         ·have hk2:1<(k:Int):=by omega
          have hz1:(z==48)=false:=by rw[←hz];exact azr s[0] 48 (by decide) (fun h=>h48 ⟨hk1,h⟩)
          clear h48;go_wp2_with fail;refine(Hdig.out _).mono ?_;rintro e w1 ⟨rfl,rfl⟩;go_wp2_with fail;refine(Hr.out _).mono ?_;rintro e w2 ⟨rfl,rfl⟩;rw[Hv0.out];go_wp2;refine bodyPost_ret (v:=.tuple #[.int .i32 0,.int .i64 0,.int .i64 2]) (by simp[results,Tryz.results222,go_sem]) rfl ⟨by rw[Hp.out];rfl,Hl.out⟩
         ·have hk2:¬1<(k:Int):=by omega
          clear h48;go_wp2_with fail;refine(Hdig.out _).mono ?_;rintro e w1 ⟨rfl,rfl⟩;go_wp2_with fail;refine(Hr.out _).mono ?_;rintro e w2 ⟨rfl,rfl⟩;rw[Hv0.out];go_wp2;refine bodyPost_ret (v:=.tuple #[.int .i32 0,.int .i64 0,.int .i64 2]) (by simp[results,Tryz.results222,go_sem]) rfl ⟨by rw[Hp.out];rfl,Hl.out⟩
     ·have Hp:=kept (aqr _ k Hn.out (by simpa using hlt) (.inl (by rw[hgk];exact h125)));have hu1:(u==125)=false:=by rw[←hu];exact azr s[k] 125 (by decide) h125
      have hu2:(u !=125)=true:=by simpa using hu1
      have hu3:¬u=125:=by simpa using hu1
      go_wp2_with fail;refine(Hdig.out _).mono ?_;rintro e w1 ⟨rfl,rfl⟩;go_wp2;refine bodyPost_ret (v:=.tuple #[.int .i32 0,.int .i64 0,.int .i64 2]) (by simp[results,Tryz.results222,go_sem]) rfl ⟨by rw[Hp.out];rfl,Hl.out⟩
theorem aqj(b:UInt8)(l:List UInt8):Str.escp (b::l)=if b=110 then(10,1,0)else if b=114 then(13,1,0)else if b=116 then(9,1,0)else if b=34∨b=92 then(b.toNat,1,0)
  else if b=117 then(match l with
   |[]=>(0,0,40)
   |c::u=>if c=123 then((Str.point u).1,(Str.point u).2.1+2,(Str.point u).2.2)else(0,0,2))
  else(0,0,2):=rfl
theorem extract_drop(s:ByteArray)(k:Nat):(s.extract k s.size).data.toList=s.data.toList.drop k:=by
 simp[ZD]
theorem bkr(l:List UInt8):(Str.point l).2.1≤7:=by
 have:=Str.hexN_le 6 l;unfold Str.point
 repeat' split
 all_goals simp only
 all_goals omega
theorem bj5(s:ByteArray)(w:World):
  Calls Tryz.prog 198 #[.string s] w fun e w'=>e=.returned (.tuple #[.int .i32 (Str.escp s.data.toList).1,.int .i64 (Str.escp s.data.toList).2.1,.int .i64 (Str.escp s.data.toList).2.2])∧Below w.heap.size w w':=by
 by_cases h0:s.size=0
 ·have hs:s=⟨#[]⟩:=by
   apply ByteArray.ext;exact Array.eq_empty_of_size_eq_zero h0
  subst hs;go_enter Tryz.func198,Tryz.ntmps198;go_wp2;refine bodyPost_ret (v:=.tuple #[.int .i32 0,.int .i64 0,.int .i64 40]) (by simp[results,Tryz.results198,go_sem]) rfl ⟨rfl,Below.refl _ _⟩
 ·have hlt:0<s.size:=by omega
  have hd:s.data.toList=s[0]::s.data.toList.drop 1:=by have:=drop_cons s 0 hlt;simpa using this
  have hie:s.toList.isEmpty=false:=by rw[ByteArray.toList_eq,hd];rfl
  go_enter Tryz.func198,Tryz.ntmps198;clear h0;by_cases h110:s[0]=110
  ·have Hp:=kept (show Str.escp s.data.toList=(10,1,0) by rw[hd,aqj,if_pos h110]);have hu:(s[0].toNat:Int)=110:=by rw[h110];rfl
   clear hd h110;go_wp2;refine bodyPost_ret (v:=.tuple #[.int .i32 10,.int .i64 1,.int .i64 0]) (by simp[results,Tryz.results198,go_sem]) rfl ⟨by rw[Hp.out];rfl,Below.refl _ _⟩
  have g110:=azr s[0] 110 (by decide) h110;by_cases h114:s[0]=114
  ·have Hp:=kept (show Str.escp s.data.toList=(13,1,0) by rw[hd,aqj,if_neg h110,if_pos h114]);have hu:(s[0].toNat:Int)=114:=by rw[h114];rfl
   clear hd h110 h114;go_wp2;refine bodyPost_ret (v:=.tuple #[.int .i32 13,.int .i64 1,.int .i64 0]) (by simp[results,Tryz.results198,go_sem]) rfl ⟨by rw[Hp.out];rfl,Below.refl _ _⟩
  have g114:=azr s[0] 114 (by decide) h114;by_cases h116:s[0]=116
  ·have Hp:=kept (show Str.escp s.data.toList=(9,1,0) by rw[hd,aqj,if_neg h110,if_neg h114,if_pos h116]);have hu:(s[0].toNat:Int)=116:=by rw[h116];rfl
   clear hd h110 h114 h116;go_wp2;refine bodyPost_ret (v:=.tuple #[.int .i32 9,.int .i64 1,.int .i64 0]) (by simp[results,Tryz.results198,go_sem]) rfl ⟨by rw[Hp.out];rfl,Below.refl _ _⟩
  have g116:=azr s[0] 116 (by decide) h116;by_cases h34:s[0]=34
  ·have Hp:=kept (show Str.escp s.data.toList=(34,1,0) by rw[hd,aqj,if_neg h110,if_neg h114,if_neg h116,if_pos (.inl h34),h34];rfl);have hu:(s[0].toNat:Int)=34:=by rw[h34];rfl
   clear hd h110 h114 h116 h34;go_wp2;refine bodyPost_ret (v:=.tuple #[.int .i32 34,.int .i64 1,.int .i64 0]) (by simp[results,Tryz.results198,go_sem]) rfl ⟨by rw[Hp.out];rfl,Below.refl _ _⟩
  have g34:=azr s[0] 34 (by decide) h34;by_cases h92:s[0]=92
  ·have Hp:=kept (show Str.escp s.data.toList=(92,1,0) by rw[hd,aqj,if_neg h110,if_neg h114,if_neg h116,if_pos (.inr h92),h92];rfl);have hu:(s[0].toNat:Int)=92:=by rw[h92];rfl
   clear hd h110 h114 h116 h34 h92;go_wp2;refine bodyPost_ret (v:=.tuple #[.int .i32 92,.int .i64 1,.int .i64 0]) (by simp[results,Tryz.results198,go_sem]) rfl ⟨by rw[Hp.out];rfl,Below.refl _ _⟩
  have g92:=azr s[0] 92 (by decide) h92;by_cases h117:s[0]=117
  ·have He:=kept (show Str.escp s.data.toList=_ by rw[hd,aqj,if_neg h110,if_neg h114,if_neg h116,if_neg (fun h=>h.elim h34 h92),if_pos h117]);have hu:(s[0].toNat:Int)=117:=by rw[h117];rfl
   clear hd h117 h110 g110 h114 g114 h116 g116 h34 g34 h92 g92;by_cases h1:s.size=1
   ·have Hp:=kept (show Str.escp s.data.toList=(0,0,40) by rw[He.out,ZG (by simp;omega)]);have h1':(s.size:Int)=1:=by omega
    go_wp2;refine bodyPost_ret (v:=.tuple #[.int .i32 0,.int .i64 0,.int .i64 40]) (by simp[results,Tryz.results198,go_sem]) rfl ⟨by rw[Hp.out];rfl,Below.refl _ _⟩
   ·have hlt1:1<s.size:=by omega
    have hlt1':(1:Int)<s.size:=by omega
    have hd1:s.data.toList.drop 1=s[1]::s.data.toList.drop 2:=drop_cons s 1 hlt1;have h1a:((s.size:Int)==1)=false:=by simp;omega
    by_cases h123:s[1]=123
    ·have Hp:=kept (show Str.escp s.data.toList=((Str.point (s.data.toList.drop 2)).1,(Str.point (s.data.toList.drop 2)).2.1+2,(Str.point (s.data.toList.drop 2)).2.2) by rw[He.out,hd1];exact if_pos h123);have hv:(s[1].toNat:Int)=123:=by rw[h123];rfl
     have hsl:(2:Int)≤s.size:=by omega
     have hx:=awo (s.extract 2 s.size);rw[extract_drop]at hx;have Hx:=kept hx;have hle:=bkr (s.data.toList.drop 2);clear hd1 h123 hx h1;generalize Str.point (s.data.toList.drop 2)=q at *;obtain⟨q1,q2,q3⟩:=q;simp only at hle;go_wp2_with fail;refine(Hx.out _).mono ?_;rintro e w1 ⟨rfl,b1⟩;have B1:=kept b1;clear b1;go_wp2;refine bodyPost_ret (v:=.tuple #[.int .i32 q1,.int .i64 (q2+2:Nat),.int .i64 q3]) (by simp[results,Tryz.results198,go_sem]) rfl ⟨by rw[Hp.out],B1.out⟩
    ·have Hp:=kept (show Str.escp s.data.toList=(0,0,2) by rw[He.out,hd1];exact if_neg h123);have hv1:=azr s[1] 123 (by decide) h123;have hv2:((s[1].toNat:Int)!=123)=true:=by simpa using hv1
     clear hd1 h123 h1;go_wp2;refine bodyPost_ret (v:=.tuple #[.int .i32 0,.int .i64 0,.int .i64 2]) (by simp[results,Tryz.results198,go_sem]) rfl ⟨by rw[Hp.out];rfl,Below.refl _ _⟩
  ·have Hp:=kept (show Str.escp s.data.toList=(0,0,2) by rw[hd,aqj,if_neg h110,if_neg h114,if_neg h116,if_neg (fun h=>h.elim h34 h92),if_neg h117]);have g117:=azr s[0] 117 (by decide) h117;clear hd h117 h110 h114 h116 h34 h92;go_wp2;refine bodyPost_ret (v:=.tuple #[.int .i32 0,.int .i64 0,.int .i64 2]) (by simp[results,Tryz.results198,go_sem]) rfl ⟨by rw[Hp.out];rfl,Below.refl _ _⟩
end
section
open Go.RowKit
structure Bld(W:World)(l:List UInt8)(w:World):Prop where
 out:Lib.IsBuilderF 73 5 W.heap.size W.heap.size (Lib.byteCells l) w
theorem ayl{T e:TypeId}{B b:Nat}{p:Value}{bs:List Value}{W W':World}(h:Lib.BuilderAtF T e B b p bs W)(hb:Below W.heap.size W W'):Lib.BuilderAtF T e B b p bs W':=by
 have hlt:=h.lt;obtain⟨hB,v,hv,hown,hne⟩:=h;exact⟨hB,v,(hb.block b hlt).trans hv,hown.kept (row:=none) ⟨hb.os,hb.tape,hb.output,hb.size,fun k hk _=>hb.block k hk⟩ (Classical.em _),hne⟩
namespace Bld
variable {W w:World} {l:List UInt8}
theorem fresh(W:World):Bld W [] (W.alloc (.cells #[.pointer none,.slice none 0 0] 73)):=⟨Lib.IsBuilderF.of (Lib.fresh_isBuilder _ _ W)⟩
theorem below{w':World}(h:Bld W l w)(b:Below w.heap.size w w'):Bld W l w':=⟨h.out.elim (fun x=> .inl (ayl x b)) (fun x=> .inr (ayl x b))⟩
theorem size(h:Bld W l w):W.heap.size<w.heap.size:=h.out.elim (fun x=>x.lt) (fun x=>x.lt)
theorem byte(h:Bld W l w)(hl:l.length≤1000000000)(c:UInt8):
  Calls Tryz.prog 200 #[.pointer (some ⟨W.heap.size,0,none⟩),.int .u8 c.toNat] w fun e w'=>e=.returned .nilIface∧Bld W (l++[c]) w'∧Below W.heap.size w w':=by
 have hs:=h.size;refine(Tryz.Builder_WriteByte_k _ _ _ c.toNat w h.out (by rw[Lib.byteCells_length];omega) (by omega)).mono fun e w' hh=>⟨hh.1,⟨.inr ?_⟩,hh.2.2.1⟩
 have:=hh.2.1;simpa [Lib.byteCells]using this
theorem str(h:Bld W l w)(hl:l.length≤1000000000)(s:ByteArray)(hs2:s.size≤1000000000):
  Calls Tryz.prog 27 #[.pointer (some ⟨W.heap.size,0,none⟩),.string s] w fun e w'=>e=.returned (.tuple #[.int .i64 s.size,.nilIface])∧Bld W (l++s.data.toList) w'∧Below W.heap.size w w':=by
 have hs:=h.size;refine(Tryz.Builder_WriteString_k _ _ _ s w h.out (by rw[Lib.byteCells_length];omega) (by omega)).mono fun e w' hh=>⟨hh.1,⟨.inr ?_⟩,hh.2.2.1⟩
 have:=hh.2.1;simpa [Lib.byteCells,Lib.strCells]using this
theorem rune(h:Bld W l w)(hl:l.length≤1000000000)(c:Nat)(hc:c<2147483648):
  Calls Tryz.prog 199 #[.pointer (some ⟨W.heap.size,0,none⟩),.int .i32 c] w fun e w'=>(∃n:Int,e=.returned (.tuple #[.int .i64 n,.nilIface]))∧Bld W (l++Str.enc c) w'∧Below W.heap.size w w':=by
 have hs:=h.size;refine(Tryz.Builder_WriteRune_k _ _ _ c (by omega) (by omega) w h.out (by rw[Lib.byteCells_length];omega) (by omega)).mono fun e w' hh=>⟨⟨_,hh.1⟩,⟨.inr ?_⟩,hh.2.2.1⟩
 have:=hh.2.1;rw[←Lib.byteCells_encodeRune]at this;simpa [Lib.byteCells,Str.enc]using this
theorem len(h:Bld W l w):
  Calls Tryz.prog 26 #[.pointer (some ⟨W.heap.size,0,none⟩)] w fun e w'=>e=.returned (.int .i64 l.length)∧w'=w:=by
 refine(Tryz.Builder_Len_f _ _ _ w h.out).mono fun e w' hh=>?_
 rw[Lib.byteCells_length]at hh;exact hh
theorem string(h:Bld W l w):
  Calls Tryz.prog 28 #[.pointer (some ⟨W.heap.size,0,none⟩)] w fun e w'=>e=.returned (.string ⟨l.toArray⟩)∧Below W.heap.size w w':=by
 have hs:=h.size;exact(Tryz.Builder_String_any_k _ _ _ w h.out (by omega)).mono fun e w' hh=>⟨hh.1,hh.2.2.1⟩
end Bld
end
section
open Go.RowKit
open Go.Lib in
theorem Str.decodeGo_drop(s:ByteArray)(k:Nat)(h:k<s.size):decodeGo (s.extract k s.size)=decodeL (s.data.toList.drop k):=by
 unfold decodeGo;rw[if_neg (by simp;omega),←Str.decL (s.extract k s.size) 0];congr 1;simp[ZD]
theorem bvd(s:ByteArray)(w:World)(hs:s.size≤2000000)(g:Glob w):
  Calls Tryz.prog 178 #[.string s] w fun e w'=>e=.returned (.tuple #[.string ⟨(Str.unquote s.data.toList).1.toArray⟩,.int .i64 (Str.unquote s.data.toList).2.1,.int .i64 (Str.unquote s.data.toList).2.2])∧Below w.heap.size w w':=by
 obtain⟨U,hU⟩:=Ex (Str.unquote s.data.toList);obtain⟨U1,U2,U3⟩:=U;rw[hU];show Calls Tryz.prog 178 #[.string s] w fun e w'=>e=.returned (.tuple #[.string ⟨U1.toArray⟩,.int .i64 U2,.int .i64 U3])∧Below w.heap.size w w'
 have G:=kept g;clear g;by_cases h0:s.size=0
 ·have hs:s=⟨#[]⟩:=by
   apply ByteArray.ext;exact Array.eq_empty_of_size_eq_zero h0
  subst hs;obtain⟨rfl,h⟩:=Yc (show(([],0,40):List UInt8×Nat×Int)=(U1,U2,U3)from hU);obtain⟨rfl,rfl⟩:=Yc h;go_enter Tryz.func178,Tryz.ntmps178;go_wp2;refine bodyPost_ret (v:=.tuple #[.string ⟨#[]⟩,.int .i64 0,.int .i64 40]) (by simp[results,Tryz.results178,go_sem]) rfl ⟨rfl,Below.refl _ _⟩
 ·have hlt:0<s.size:=by omega
  have hd:s.data.toList=s[0]::s.data.toList.drop 1:=by have:=drop_cons s 0 hlt;simpa using this
  have hie:s.toList.isEmpty=false:=by rw[ByteArray.toList_eq,hd];rfl
  have hne:s.data.toList≠[]:=by rw[hd];simp
  have hg0:s.data.toList.getD 0 0=s[0]:=by rw[hd];rfl
  unfold Str.unquote at hU;rw[if_neg hne,hg0]at hU;clear h0 hd hne hg0;by_cases h34:s[0]=34
  ·rw[if_neg (by simpa using h34)]at hU;have HU:=kept hU;have hu:(s[0].toNat:Int)=34:=by rw[h34];rfl
   clear hU h34;go_enter Tryz.func178,Tryz.ntmps178;go_wp2
   go_loopw [6] (fun av wr=>Below w.heap.size w wr∧∃(k f:Nat) (acc:List UInt8),1≤k∧k≤s.size∧av=.int .i64 k∧s.size-k<f∧acc.length≤4*k∧Bld w acc wr∧Str.unq f (s.data.toList.drop k) acc k=(U1,U2,U3)) (fun av _=>s.size-(intOf av).toNat)
   case atStart=>exact⟨ball w _,1,s.data.toList.length,[],by omega,by omega,rfl,by simp;omega,by simp,Bld.fresh w,HU.out⟩
   case round=>
    obtain⟨hbel,k,f,acc,hk1,hk,rfl,hf,hacc,hb,hun⟩:=hrel;have Hl:=kept hbel;have Hb:=kept hb;have Hacc:=kept (show acc.length≤1000000000 by omega);clear hbel hb;obtain⟨f,rfl⟩:∃f',f=f'+1:=⟨f-1,by omega⟩;by_cases hend:k=s.size
    ·subst hend;rw[ZG (by simp),Str.unq_nil]at hun;obtain⟨rfl,h⟩:=Yc hun;obtain⟨rfl,rfl⟩:=Yc h;clear hacc hf;go_wp2;refine bodyPost_ret (v:=.tuple #[.string ⟨#[]⟩,.int .i64 0,.int .i64 40]) (by simp[results,Tryz.results178,go_sem]) rfl ⟨rfl,Hl.out⟩
    ·have hkl:k<s.size:=by omega
     have hne:s.data.toList.drop k≠[]:=by rw[drop_cons s k hkl];simp
     have hgk:(s.data.toList.drop k).getD 0 0=s[k]:=by rw[drop_cons s k hkl];rfl
     by_cases h34k:s[k]=34
     ·rw[Str.unq_quote _ _ _ _ hne (by rw[hgk];exact h34k)]at hun;have hv:(s[k].toNat:Int)=34:=by rw[h34k];rfl
      clear hne hgk h34k hf;have hke:((k:Int)==s.size)=false:=by simp;omega
      by_cases hbig:4096<acc.length
      ·rw[if_pos hbig]at hun;obtain⟨rfl,h⟩:=Yc hun;obtain⟨rfl,rfl⟩:=Yc h;have hbig':(4096:Int)<acc.length:=by omega
       clear hbig hacc hend;go_wp2_with fail;refine(Hb.out.len).mono ?_;rintro e w1 ⟨rfl,rfl⟩;go_wp2;refine bodyPost_ret (v:=.tuple #[.string ⟨#[]⟩,.int .i64 0,.int .i64 3]) (by simp[results,Tryz.results178,go_sem]) rfl ⟨rfl,Hl.out⟩
      ·rw[if_neg hbig]at hun;obtain⟨rfl,h⟩:=Yc hun;obtain⟨rfl,rfl⟩:=Yc h;have hbig':¬(4096:Int)<acc.length:=by omega
       clear hbig hacc hend;go_wp2_with fail;refine(Hb.out.len).mono ?_;rintro e w1 ⟨rfl,rfl⟩;go_wp2_with fail;refine(Hb.out.string).mono ?_;rintro e w2 ⟨rfl,b2⟩;have B2:=kept b2;clear b2;go_wp2;refine bodyPost_ret (v:=.tuple #[.string ⟨acc.toArray⟩,.int .i64 (k+1:Nat),.int .i64 0]) (by simp[results,Tryz.results178,go_sem]) rfl ⟨rfl,Hl.out.trans B2.out⟩
     ·obtain⟨⟨c,n⟩,hd⟩:=Ex (Lib.decodeL (s.data.toList.drop k));have hwd:=Str.dec_width s k hkl;have hcl:=Str.dec_lt (s.data.toList.drop k);rw[←Str.decL,hd]at hwd;rw[hd]at hcl;have hw1:1≤n:=hwd.1;have hw2':k+n≤s.size:=hwd.2;have hw2:(k:Int)+n≤s.size:=by omega
      have Hcl:=kept (show c<2147483648 by have:c≤1114111:=hcl;omega);have Hd:=kept hd;have Hdec:Kept (∀W:World,Glob W→Calls Tryz.prog 197 #[.string (s.extract k s.size)] W fun e W'=>e=.returned (.tuple #[.int .i32 c,.int .i64 n])∧Below W.heap.size W W'):=by
       refine kept fun W gW=>?_
       have h:=Tryz.utf8_DecodeRuneInString (s.extract k s.size) W gW.tabs;rw[Str.decodeGo_drop s k hkl,hd]at h;exact h
      have hvk1:=azr s[k] 34 (by decide) h34k;have hvk2:((s[k].toNat:Int)!=34)=true:=by simpa using hvk1
      rw[←hgk]at h34k;clear hd hwd hcl hend;rw[hgk]at h34k;by_cases hc92:c=92
      ·have h92:(s.data.toList.drop k).getD 0 0=92:=by
        have hcs:=Str.dec_cases (s.data.toList.drop k);rw[Hd.out,hc92]at hcs;rcases hcs with⟨_,h4⟩|⟨_,h4⟩
        ·rw[←Z9];exact(congrArg Prod.fst h4).symm
        ·simp only at h4;omega
       obtain⟨⟨x,m,e0⟩,he⟩:=Ex (Str.escp (s.data.toList.drop (k+1)));have H1:=kept (Str.one_esc (s.data.toList.drop k) h92 x m e0 (by rw[YU];exact he));have Hx:Kept (∀W:World,Calls Tryz.prog 198 #[.string (s.extract (k+1) s.size)] W fun e W'=>e=.returned (.tuple #[.int .i32 x,.int .i64 m,.int .i64 e0])∧Below W.heap.size W W'):=by
        refine kept fun W=>?_
        have h:=bj5 (s.extract (k+1) s.size) W;rw[extract_drop,he]at h;exact h
       have hxl:=Str.escp_lt (s.data.toList.drop (k+1));have hml:=Str.escp_len (s.data.toList.drop (k+1));rw[he]at hxl hml;have Hxl:=kept (show x<2147483648 by have:x<16777216:=hxl;omega);have hk1s:(k:Int)+1≤s.size:=by omega
       subst hc92;clear he hxl h92;by_cases he0:e0=0
       ·subst he0;have hml2:=hml rfl;have hm1:1≤m:=hml2.1;have hm2:m+k+1≤s.size:=by have:=hml2.2;simp at this;omega
        clear hml hml2;rw[if_neg (by simp)]at H1;rw[Str.unq_step _ _ _ _ _ _ hne (by rw[hgk];exact h34k) H1.out,YU]at hun;have Hun:=kept hun;have Hac:=kept hacc;clear hne hgk h34k hun hacc;go_wp2_with fail;refine(Hdec.out _ (G.out.below Hl.out)).mono ?_;rintro e w1 ⟨rfl,b1⟩;have B1:=kept (bthen Hl.out b1);have Hb1:=kept (Hb.out.below b1);clear b1;go_wp2_with fail;refine(Hx.out _).mono ?_;rintro e w2 ⟨rfl,b2⟩;have B2:=kept (bthen B1.out b2);have Hb2:=kept (Hb1.out.below b2);clear b2;go_wp2_with fail;refine(Hb2.out.rune Hacc.out x Hxl.out).mono ?_;rintro e w3 ⟨⟨q,rfl⟩,hb3,b3⟩;have B3:=kept (Below.trans B2.out b3);have Hb3:=kept hb3;clear b3 hb3;go_wp2
        go_roundw
        case rel=>
         refine⟨B3.out,k+(m+1),f,acc++Str.enc x,by omega,by omega,by go_num,by omega,?_,Hb3.out,Hun.out⟩;have h1:=(Str.enc_length x).2;have h2:=Hac.out;rw[Za];omega
        case measure=>simp[intOf];omega
       ·rw[if_pos he0]at H1;rw[Str.unq_err _ _ _ _ _ _ _ hne (by rw[hgk];exact h34k) H1.out he0]at hun;obtain⟨rfl,h⟩:=Yc hun;obtain⟨rfl,rfl⟩:=Yc h;have he1:(e0==0)=false:=by simpa using he0
        have he2:(e0 !=0)=true:=by simpa using he0
        clear hne hgk h34k hf hacc hml hw1 hw2 hw2';go_wp2_with fail;refine(Hdec.out _ (G.out.below Hl.out)).mono ?_;rintro e w1 ⟨rfl,b1⟩;have B1:=kept (bthen Hl.out b1);have Hb1:=kept (Hb.out.below b1);clear b1;go_wp2_with fail;refine(Hx.out _).mono ?_;rintro e w2 ⟨rfl,b2⟩;have B2:=kept (bthen B1.out b2);clear b2;go_wp2;refine bodyPost_ret (v:=.tuple #[.string ⟨#[]⟩,.int .i64 0,.int .i64 e0]) (by simp[results,Tryz.results178,go_sem]) rfl ⟨rfl,B2.out⟩
      ·have g1:((c:Int)==92)=false:=by simp;omega
       have g2:¬(c:Int)=92:=by omega
       by_cases h655:c=65533
       ·subst h655;by_cases hn1:n=1
        ·subst hn1;have H1:=kept (Str.one_bad (s.data.toList.drop k) _ _ Hd.out hc92 (.inl ⟨rfl,rfl⟩));rw[Str.unq_err _ _ _ _ _ _ _ hne (by rw[hgk];exact h34k) H1.out (by decide)]at hun;obtain⟨rfl,h⟩:=Yc hun;obtain⟨rfl,rfl⟩:=Yc h;clear hne hgk h34k hf hacc;go_wp2_with fail;refine(Hdec.out _ (G.out.below Hl.out)).mono ?_;rintro e w1 ⟨rfl,b1⟩;have B1:=kept (bthen Hl.out b1);have Hb1:=kept (Hb.out.below b1);clear b1;go_wp2;refine bodyPost_ret (v:=.tuple #[.string ⟨#[]⟩,.int .i64 0,.int .i64 2]) (by simp[results,Tryz.results178,go_sem]) rfl ⟨rfl,B1.out⟩
        ·have hn2:((n:Int)==1)=false:=by simp;omega
         have H1:=kept (Str.one_ok (s.data.toList.drop k) hne _ _ Hd.out hc92 (by omega));rw[Str.unq_step _ _ _ _ _ _ hne (by rw[hgk];exact h34k) H1.out,YU]at hun;have Hun:=kept hun;have Hac:=kept hacc;clear hne hgk h34k hun hacc;go_wp2_with fail;refine(Hdec.out _ (G.out.below Hl.out)).mono ?_;rintro e w1 ⟨rfl,b1⟩;have B1:=kept (bthen Hl.out b1);have Hb1:=kept (Hb.out.below b1);clear b1;go_wp2_with fail;refine(Hb1.out.rune Hacc.out _ Hcl.out).mono ?_;rintro e w2 ⟨⟨q,rfl⟩,hb2,b2⟩;have B2:=kept (Below.trans B1.out b2);have Hb2:=kept hb2;clear b2 hb2;go_wp2
         go_roundw
         case rel=>
          refine⟨B2.out,k+n,f,acc++Str.enc _,by omega,hw2',by go_num,by omega,?_,Hb2.out,Hun.out⟩;have h1:=(Str.enc_length 65533).2;have h2:=Hac.out;rw[Za];omega
         case measure=>simp[intOf];omega
       ·have h655a:((c:Int)==65533)=false:=by simp;omega
        by_cases h32:c<32
        ·have h32':(c:Int)<32:=by omega
         have H1:=kept (Str.one_bad (s.data.toList.drop k) _ _ Hd.out hc92 (.inr (.inl h32)));rw[Str.unq_err _ _ _ _ _ _ _ hne (by rw[hgk];exact h34k) H1.out (by decide)]at hun;obtain⟨rfl,h⟩:=Yc hun;obtain⟨rfl,rfl⟩:=Yc h;clear hne hgk h34k hf hacc;go_wp2_with fail;refine(Hdec.out _ (G.out.below Hl.out)).mono ?_;rintro e w1 ⟨rfl,b1⟩;have B1:=kept (bthen Hl.out b1);have Hb1:=kept (Hb.out.below b1);clear b1;go_wp2;refine bodyPost_ret (v:=.tuple #[.string ⟨#[]⟩,.int .i64 0,.int .i64 2]) (by simp[results,Tryz.results178,go_sem]) rfl ⟨rfl,B1.out⟩
        ·have h32':¬(c:Int)<32:=by omega
         by_cases h127:c=127
         ·subst h127;have H1:=kept (Str.one_bad (s.data.toList.drop k) _ _ Hd.out hc92 (.inr (.inr rfl)));rw[Str.unq_err _ _ _ _ _ _ _ hne (by rw[hgk];exact h34k) H1.out (by decide)]at hun;obtain⟨rfl,h⟩:=Yc hun;obtain⟨rfl,rfl⟩:=Yc h;clear hne hgk h34k hf hacc;go_wp2_with fail;refine(Hdec.out _ (G.out.below Hl.out)).mono ?_;rintro e w1 ⟨rfl,b1⟩;have B1:=kept (bthen Hl.out b1);have Hb1:=kept (Hb.out.below b1);clear b1;go_wp2;refine bodyPost_ret (v:=.tuple #[.string ⟨#[]⟩,.int .i64 0,.int .i64 2]) (by simp[results,Tryz.results178,go_sem]) rfl ⟨rfl,B1.out⟩
         ·have h127a:((c:Int)==127)=false:=by simp;omega
          have H1:=kept (Str.one_ok (s.data.toList.drop k) hne _ _ Hd.out hc92 (by omega));rw[Str.unq_step _ _ _ _ _ _ hne (by rw[hgk];exact h34k) H1.out,YU]at hun;have Hun:=kept hun;have Hac:=kept hacc;clear hne hgk h34k hun hacc;go_wp2_with fail;refine(Hdec.out _ (G.out.below Hl.out)).mono ?_;rintro e w1 ⟨rfl,b1⟩;have B1:=kept (bthen Hl.out b1);have Hb1:=kept (Hb.out.below b1);clear b1;go_wp2_with fail;refine(Hb1.out.rune Hacc.out _ Hcl.out).mono ?_;rintro e w2 ⟨⟨q,rfl⟩,hb2,b2⟩;have B2:=kept (Below.trans B1.out b2);have Hb2:=kept hb2;clear b2 hb2;go_wp2
          go_roundw
          case rel=>
           refine⟨B2.out,k+n,f,acc++Str.enc _,by omega,hw2',by go_num,by omega,?_,Hb2.out,Hun.out⟩;have h1:=(Str.enc_length c).2;have h2:=Hac.out;rw[Za];omega
          case measure=>simp[intOf];omega
  ·rw[if_pos h34]at hU;obtain⟨rfl,h⟩:=Yc hU;obtain⟨rfl,rfl⟩:=Yc h;have g34:=azr s[0] 34 (by decide) h34;have g34':((s[0].toNat:Int)!=34)=true:=by simpa using g34
   clear h34 hU;go_enter Tryz.func178,Tryz.ntmps178;go_wp2;refine bodyPost_ret (v:=.tuple #[.string ⟨#[]⟩,.int .i64 0,.int .i64 2]) (by simp[results,Tryz.results178,go_sem]) rfl ⟨rfl,Below.refl _ _⟩
theorem cj4(s:ByteArray)(k:Nat)(h:k<s.size):(s.data.toList.take (k+1)).flatMap Str.esc=(s.data.toList.take k).flatMap Str.esc++Str.esc s[k]:=by
 rw[bqq s k h,Yn];simp
theorem cqz(s:ByteArray)(w:World)(hs:s.size≤2000000)(g:Glob w):
  Calls Tryz.prog 179 #[.string s] w fun e w'=>e=.returned (.string ⟨(Str.quote s.data.toList).toArray⟩)∧Below w.heap.size w w':=by
 have G:=kept g;clear g;have Hb0:=kept (Bld.fresh w);have B0:=kept (ball w (.cells #[.pointer none,.slice none 0 0] 73));go_enter Tryz.func179,Tryz.ntmps179;go_wp2_with fail;refine(Hb0.out.byte (by simp) 34).mono ?_;rintro e w2 ⟨rfl,hb2,b2⟩;have B2:=kept (Below.trans B0.out b2);have Hb2:=kept hb2;clear B0 Hb0 b2 hb2;go_wp2
 go_loopw [9] (fun iv wr=>Below w.heap.size w wr∧∃k:Nat,k≤s.size∧iv=.int .i64 k∧Bld w (34::(s.data.toList.take k).flatMap Str.esc) wr) (fun iv _=>s.size-(intOf iv).toNat)
 case atStart=>exact⟨B2.out,0,by omega,rfl,Hb2.out⟩
 case round=>
  clear B2 Hb2;obtain⟨hbel,k,hk,rfl,hb⟩:=hrel;have Hl:=kept hbel;have Hb:=kept hb
  have Hlen:=kept (show(34::(s.data.toList.take k).flatMap Str.esc).length≤900000000 by
   have h1:=(Str.flatMap_esc_length (s.data.toList.take k)).2;have h2:(s.data.toList.take k).length≤k:=by simp;omega
   rw[Zh];omega)
  clear hbel hb;by_cases hlt:k<s.size
  ·have hlt':(k:Int)<s.size:=by omega
   have Het:=kept (cj4 s k hlt);by_cases h10:s[k]=10
   ·have He:=kept (show Str.esc s[k]=[92,110] by rw[h10];rfl);have hu:(s[k].toNat:Int)=10:=by rw[h10];rfl
    clear h10;go_wp2_with fail;refine(Hb.out.str (Zl Hlen.out (by decide)) _ (by decide)).mono ?_;rintro e w2 ⟨rfl,hb2,b2⟩;have B2:=kept (Below.trans Hl.out b2);have Hb2:=kept hb2;clear b2 hb2;go_wp2
    go_roundw
    case rel=>exact⟨B2.out,k+1,by omega,by go_num,by rw[Het.out,←Zo,He.out];exact Hb2.out⟩
    case measure=>simp[intOf];omega
   have g10:((s[k].toNat:Int)==10)=false:=azr s[k] 10 (by decide) h10;by_cases h13:s[k]=13
   ·have He:=kept (show Str.esc s[k]=[92,114] by rw[h13];rfl);have hu:(s[k].toNat:Int)=13:=by rw[h13];rfl
    clear h10 h13;go_wp2_with fail;refine(Hb.out.str (Zl Hlen.out (by decide)) _ (by decide)).mono ?_;rintro e w2 ⟨rfl,hb2,b2⟩;have B2:=kept (Below.trans Hl.out b2);have Hb2:=kept hb2;clear b2 hb2;go_wp2
    go_roundw
    case rel=>exact⟨B2.out,k+1,by omega,by go_num,by rw[Het.out,←Zo,He.out];exact Hb2.out⟩
    case measure=>simp[intOf];omega
   have g13:((s[k].toNat:Int)==13)=false:=azr s[k] 13 (by decide) h13;by_cases h9:s[k]=9
   ·have He:=kept (show Str.esc s[k]=[92,116] by rw[h9];rfl);have hu:(s[k].toNat:Int)=9:=by rw[h9];rfl
    clear h10 h13 h9;go_wp2_with fail;refine(Hb.out.str (Zl Hlen.out (by decide)) _ (by decide)).mono ?_;rintro e w2 ⟨rfl,hb2,b2⟩;have B2:=kept (Below.trans Hl.out b2);have Hb2:=kept hb2;clear b2 hb2;go_wp2
    go_roundw
    case rel=>exact⟨B2.out,k+1,by omega,by go_num,by rw[Het.out,←Zo,He.out];exact Hb2.out⟩
    case measure=>simp[intOf];omega
   have g9:((s[k].toNat:Int)==9)=false:=azr s[k] 9 (by decide) h9;by_cases h34:s[k]=34
   ·have He:=kept (show Str.esc s[k]=[92]++[34] by rw[h34];rfl);have hu:(s[k].toNat:Int)=34:=by rw[h34];rfl
    clear h10 h13 h9 h34;go_wp2_with fail;refine(Hb.out.byte (Zl Hlen.out (by decide)) 92).mono ?_;rintro e w2 ⟨rfl,hb2,b2⟩;have B2:=kept (Below.trans Hl.out b2);have Hb2:=kept hb2;clear b2 hb2;have Hlen2:=kept (show((34::(s.data.toList.take k).flatMap Str.esc)++[92]).length≤1000000000 by have:=Hlen.out;rw[Za,YT];omega);go_wp2_with fail;refine(Hb2.out.byte Hlen2.out 34).mono ?_;rintro e w3 ⟨rfl,hb3,b3⟩;have B3:=kept (Below.trans B2.out b3);have Hb3:=kept hb3;clear b3 hb3;go_wp2
    go_roundw
    case rel=>exact⟨B3.out,k+1,by omega,by go_num,by rw[Het.out,←Zo,He.out,←Zg];exact Hb3.out⟩
    case measure=>simp[intOf];omega
   have g34:((s[k].toNat:Int)==34)=false:=azr s[k] 34 (by decide) h34;by_cases h92:s[k]=92
   ·have He:=kept (show Str.esc s[k]=[92]++[92] by rw[h92];rfl);have hu:(s[k].toNat:Int)=92:=by rw[h92];rfl
    clear h10 h13 h9 h34 h92;go_wp2_with fail;refine(Hb.out.byte (Zl Hlen.out (by decide)) 92).mono ?_;rintro e w2 ⟨rfl,hb2,b2⟩;have B2:=kept (Below.trans Hl.out b2);have Hb2:=kept hb2;clear b2 hb2;have Hlen2:=kept (show((34::(s.data.toList.take k).flatMap Str.esc)++[92]).length≤1000000000 by have:=Hlen.out;rw[Za,YT];omega);go_wp2_with fail;refine(Hb2.out.byte Hlen2.out 92).mono ?_;rintro e w3 ⟨rfl,hb3,b3⟩;have B3:=kept (Below.trans B2.out b3);have Hb3:=kept hb3;clear b3 hb3;go_wp2
    go_roundw
    case rel=>exact⟨B3.out,k+1,by omega,by go_num,by rw[Het.out,←Zo,He.out,←Zg];exact Hb3.out⟩
    case measure=>simp[intOf];omega
   have g92:((s[k].toNat:Int)==92)=false:=azr s[k] 92 (by decide) h92;have hor:((s[k].toNat:Int)==34||(s[k].toNat:Int)==92)=false:=by rw[g34,g92];rfl
   have hb256:=s[k].toNat_lt;by_cases hctl:s[k]<32∨s[k]=127
   ·have He:=kept (show Str.esc s[k]=92::117::123::(Str.hexL s[k].toNat++[125]) by unfold Str.esc;rw[if_neg h10,if_neg h13,if_neg h9,if_neg h34,if_neg h92,if_pos hctl];rfl);have Hf:=kept (fun W gW=>bwf s[k].toNat W gW hb256);have hx:=(Str.hexL_length s[k].toNat).2;have hcat1:=fun W=>axj (P:=Tryz.prog) W (a:=⟨#[92,117,123]⟩) (b:=⟨(Str.hexL s[k].toNat).toArray⟩) (l:=[92,117,123]) (m:=Str.hexL s[k].toNat) (r:=92::117::123::Str.hexL s[k].toNat) rfl rfl rfl (by simp;omega)
    have hcat2:=fun W=>axj (P:=Tryz.prog) W (a:=⟨(92::117::123::Str.hexL s[k].toNat).toArray⟩) (b:=⟨#[125]⟩) (l:=92::117::123::Str.hexL s[k].toNat) (m:=[125]) (r:=92::117::123::(Str.hexL s[k].toNat++[125])) rfl rfl rfl (by simp;omega)
    have Hsz:Kept ((⟨(92::117::123::(Str.hexL s[k].toNat++[125])).toArray⟩:ByteArray).size≤1000000000):=kept (by rw[size_mk];simp;omega);have hcnd:((s[k].toNat:Int)<32)∨(¬(s[k].toNat:Int)<32∧(s[k].toNat:Int)=127):=by
     rcases hctl with h|h
     ·rw[YE]at h;have h':s[k].toNat<32:=h;exact .inl (by omega)
     ·right;rw[h];exact⟨by decide,rfl⟩
    clear hctl hx h10 h13 h9 h34 h92;rcases hcnd with h32|⟨h32,h127⟩
    ·have hz:=h32;clear hz;go_wp2_with fail;refine(Hf.out _ (G.out.below Hl.out)).mono ?_;rintro e w2 ⟨rfl,b2⟩;have B2:=kept (bthen Hl.out b2);have Hb2:=kept (Hb.out.below b2);clear b2;go_wp2_with fail;refine(Hb2.out.str (Zl Hlen.out (by decide)) _ Hsz.out).mono ?_;rintro e w3 ⟨rfl,hb3,b3⟩;have B3:=kept (Below.trans B2.out b3);have Hb3:=kept hb3;clear b3 hb3;go_wp2
     go_roundw
     case rel=>exact⟨B3.out,k+1,by omega,by go_num,by rw[Het.out,←Zo,He.out];exact Hb3.out⟩
     case measure=>simp[intOf];omega
    ·have hn:s[k].toNat=127:=by omega
     rw[hn]at Hf hcat1 hcat2 Hsz He;clear hor hn g10 g13 g9 g34 g92;go_wp2_with fail;refine(Hf.out _ (G.out.below Hl.out)).mono ?_;rintro e w2 ⟨rfl,b2⟩;have B2:=kept (bthen Hl.out b2);have Hb2:=kept (Hb.out.below b2);clear b2;go_wp2_with fail;refine(Hb2.out.str (Zl Hlen.out (by decide)) _ Hsz.out).mono ?_;rintro e w3 ⟨rfl,hb3,b3⟩;have B3:=kept (Below.trans B2.out b3);have Hb3:=kept hb3;clear b3 hb3;go_wp2
     go_roundw
     case rel=>exact⟨B3.out,k+1,by omega,by go_num,by rw[Het.out,←Zo,He.out];exact Hb3.out⟩
     case measure=>simp[intOf];omega
   ·have He:=kept (show Str.esc s[k]=[s[k]] by unfold Str.esc;rw[if_neg h10,if_neg h13,if_neg h9,if_neg h34,if_neg h92,if_neg hctl]);have g127:((s[k].toNat:Int)==127)=false:=azr s[k] 127 (by decide) (fun h=>hctl (.inr h));have g32:¬(s[k].toNat:Int)<32:=by
     intro h;apply hctl;left;rw[YE];show s[k].toNat<32;omega
    have Hbb:=kept (Hb.out.byte (Zl Hlen.out (by decide)) s[k]);clear hctl h10 h13 h9 h34 h92;go_wp2_with fail;refine Hbb.out.mono ?_;rintro e w2 ⟨rfl,hb2,b2⟩;have B2:=kept (Below.trans Hl.out b2);have Hb2:=kept hb2;clear b2 hb2;go_wp2
    go_roundw
    case rel=>exact⟨B2.out,k+1,by omega,by go_num,by rw[Het.out,←Zo,He.out];exact Hb2.out⟩
    case measure=>simp[intOf];omega
  ·obtain rfl:k=s.size:=by omega
   rw[ZD (by simp)]at Hb Hlen;go_wp2_with fail;refine(Hb.out.byte (Zl Hlen.out (by decide)) 34).mono ?_;rintro e w2 ⟨rfl,hb2,b2⟩;have B2:=kept (Below.trans Hl.out b2);have Hb2:=kept hb2;clear b2 hb2;go_wp2_with fail;refine(Hb2.out.string).mono ?_;rintro e w3 ⟨rfl,b3⟩;have B3:=kept (Below.trans B2.out b3);clear b3;go_wp2
   go_ret
   exact⟨rfl,B3.out⟩
end
end Go.Proofs.YtdgcbckcameggacGreatDoor
