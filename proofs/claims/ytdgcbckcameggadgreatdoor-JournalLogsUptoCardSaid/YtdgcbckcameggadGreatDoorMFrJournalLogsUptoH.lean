/- Part of what the proof needs. -/
import Derived.Test.YtdgcbckcameggadGreatDoorMFrJournalLogsUpto0
import Derived.Test.YtdgcbckcameggadGreatDoorMFrJournalLogsUptoA
import Derived.Test.YtdgcbckcameggadGreatDoorMFrJournalLogsUptoE
import Derived.Test.YtdgcbckcameggadGreatDoorMFrJournalLogsUptoF
import Derived.Lib.FrozenHead
import Derived.BigRegion
import Derived.Laws.Append
import Derived.Laws.AppendOwn
import Derived.Test.YtdgcbckcameggadGreatDoorRows
import Derived.Deep.QuietTactic
import Derived.BigQuiet
import Derived.IntWalk
import Derived.Lib.MapLaws
set_option maxHeartbeats 4000000
set_option linter.unusedSimpArgs false
set_option linter.unusedVariables false
set_option linter.unnecessarySimpa false
namespace Go.Proofs.YtdgcbckcameggadGreatDoor
open Go.RowKit
def Wtr(B b:Nat)(ver:Int)(l:List UInt8)(w:World):Prop:=
 B≤b∧∃ p v,(p=.pointer none∨p=.pointer (some ⟨b,0,none⟩))∧w.heap[b]?=some (.cells #[p,v,.int .i64 ver] 140 (0,0))∧w.ownsRowF B 5 1 v l.length (Lib.byteCells l)∧v.ownBlock≠some b
def WtrU(B b:Nat)(ver:Int)(l:List UInt8)(w:World):Prop:=
 B≤b∧∃ v,w.heap[b]?=some (.cells #[.pointer (some ⟨b,0,none⟩),v,.int .i64 ver] 140 (0,0))∧w.ownsRowF B 5 1 v l.length (Lib.byteCells l)∧v.ownBlock≠some b
theorem WtrU.wtr{B b:Nat}{ver:Int}{l:List UInt8}{w:World}(h:WtrU B b ver l w):Wtr B b ver l w:=by
 obtain⟨h1,v,h2,h3⟩:=h;exact⟨h1,_,v,.inr rfl,h2,h3⟩
set_option maxRecDepth 100000 in
theorem byv(b:Nat)(w:World)(h0:w.cell? ⟨b,0,none⟩=some (.pointer none))(hsh:w.shape? b=some (140,3))(hfz:w.frozen? ⟨b,0,none⟩=false) :
  Calls Tryz.prog 41 #[.pointer (some ⟨b,0,none⟩)] w fun e w'=>e=.returned (.tuple #[])∧w'=w.setCell ⟨b,0,none⟩ (.pointer (some ⟨b,0,none⟩)):=by
 obtain⟨j,hj,hjs⟩:=Zt.1 (show(Tryz.prog.info? 60).map (·.size)=some 2 by kernel_rfl);have hlies:liesAt Tryz.prog Tryz.prog.depth 140 (3/Tryz.prog.cellsOf 140) 0 60 1=true:=by kernel_rfl
 go_enter Tryz.func41,Tryz.ntmps41;go_wp2;rw[Lib.run_to_unsafe w ⟨b,0,none⟩ Tryz.underlying57 Tryz.underlying130 hj (by rw[hjs];decide) hsh (by show 0<3;omega)];simp only[Result.andThen];rw[Oper.upon_value];go_wp2;rw[run_callFunc_extern Tryz.func85 (by kernel_rfl) (by kernel_rfl) (by kernel_rfl) (e:=Extern.AbiNoEscape.same) (by kernel_rfl)];rw[Lib.run_noEscape];simp only[Result.andThen];rw[Oper.upon_value];go_wp2;rw[Lib.run_from_unsafe w ⟨b,0,none⟩ Tryz.underlying130 Tryz.underlying57 hj hsh hlies];simp only[Result.andThen];rw[Oper.upon_value];go_wp2
 go_end0
 exact⟨rfl,rfl⟩
theorem aqi{w:World}{b:Nat}{p v x:Value}{T:TypeId}(h:w.heap[b]?=some (.cells #[p,v,x] T (0,0))):w.cell? ⟨b,0,none⟩=some p∧w.cell? ⟨b,1,none⟩=some v∧w.cell? ⟨b,2,none⟩=some x∧(∀ i,w.frozen? ⟨b,i,none⟩=false)∧w.shape? b=some (T,3)∧b<w.heap.size:=by
 refine⟨?_,?_,?_,fun i=>?_,?_,(ZX.1 h).1⟩
 ·rw[cell_of_row _ _ _ _ _ _ h];rfl
 ·rw[cell_of_row _ _ _ _ _ _ h];rfl
 ·rw[cell_of_row _ _ _ _ _ _ h];rfl
 ·simp[World.frozen?,h]
 ·simp[World.shape?,h]
theorem Wtr.used{B b:Nat}{ver:Int}{l:List UInt8}{w:World}{p v:Value}(hB:B≤b)(hb:w.heap[b]?=some (.cells #[p,v,.int .i64 ver] 140 (0,0)))(hown:w.ownsRowF B 5 1 v l.length (Lib.byteCells l))(hne:v.ownBlock≠some b) :
  WtrU B b ver l (w.setCell ⟨b,0,none⟩ (.pointer (some ⟨b,0,none⟩))):=by
 refine⟨hB,v,?_,?_,hne⟩
 ·simp[World.setCell,ZZ,hb]
 ·exact hown.kept (row:=some b) ⟨rfl,rfl,rfl,by simp[World.setCell],fun k _ hk=>Below.heap_setCell _ _ _ _ (fun e=>hk (by simp[e]))⟩ (Or.inr hne)
theorem aws:(Tryz.prog.info? 5).map (fun i=>(i.zero,i.size,i.bytes))=some (some (.int .u8 0),1,1):=by kernel_rfl
theorem cww{B b:Nat}{ver:Int}{l:List UInt8}{w:World}(h:Wtr B b ver l w) :
  Calls Tryz.prog 19 #[.pointer (some ⟨b,0,none⟩)] w fun e w'=>e=.returned (.int .i64 l.length)∧w'=w:=by
 obtain⟨hB,p,v,hp,hb,hown,hne⟩:=h;obtain⟨c0,c1,c2,hf,hsh,hlt⟩:=aqi hb;obtain⟨ao,cap,rfl⟩:∃ ao cap,v=.slice ao l.length cap:=by
  rcases hown.2 with⟨hv,h0⟩|⟨g,cap,cur,fz,hv,_⟩
  ·exact⟨none,0,by rw[hv,h0]⟩
  ·exact⟨_,_,hv⟩
 clear hown hp hne hb;go_enter Tryz.func19,Tryz.ntmps19;go_wp2
 go_ret
 exact⟨rfl,rfl⟩
def WF(F:Nat→Prop)(b:Nat)(ver:Int)(l:List UInt8)(w:World):Prop:=
 ∃ p v,(p=.pointer none∨p=.pointer (some ⟨b,0,none⟩))∧w.heap[b]?=some (.cells #[p,v,.int .i64 ver] 140 (0,0))∧w.ownsRowF 0 5 1 v l.length (Lib.byteCells l)∧v.ownBlock≠some b∧F b∧∀ k,v.ownBlock=some k→F k
structure Fr(F:Nat→Prop)(w w':World):Prop where
 os:w'.os=w.os
 tape:w'.tape=w.tape
 output:w'.output=w.output
 size:w.heap.size≤w'.heap.size
 block:∀ k,k<w.heap.size→¬F k→w'.heap[k]?=w.heap[k]?
theorem Fr.refl(F:Nat→Prop)(w:World):Fr F w w:=⟨rfl,rfl,rfl,Zf _,fun _ _ _=>rfl⟩
theorem Fr.trans{F:Nat→Prop}{a b c:World}(h:Fr F a b)(k:Fr F b c):Fr F a c:=
 ⟨k.os.trans h.os,k.tape.trans h.tape,k.output.trans h.output,Zn h.size k.size,fun g hg hn=>(k.block g (ZL hg h.size) hn).trans (h.block g hg hn)⟩
theorem Fr.grown{F:Nat→Prop}{a b:World}{r:Option Nat}(h:a.grownBy b r)(hr:∀ k,r=some k→F k):Fr F a b:=
 ⟨h.os,h.tape,h.output,h.size,fun g hg hn=>h.block g hg fun e=>hn (hr g e.symm)⟩
theorem Fr.set{F:Nat→Prop}(w:World)(b i:Nat)(v:Value)(hF:F b):Fr F w (w.setCell ⟨b,i,none⟩ v):=
 Fr.grown (grown_set' w b i v) fun k hk=>by injection hk with hk;subst hk;exact hF
where grown_set' (w:World) (g i:Nat) (v:Value):w.grownBy (w.setCell ⟨g,i,none⟩ v) (some g):=
 ⟨rfl,rfl,rfl,by simp[World.setCell],fun k _ hk=>Below.heap_setCell _ _ _ _ (fun e=>hk (by simp[e]))⟩
theorem WF.wtr{F:Nat→Prop}{b:Nat}{ver:Int}{l:List UInt8}{w:World}(h:WF F b ver l w):Wtr 0 b ver l w:=by
 obtain⟨p,v,hp,hb,hown,hne,_⟩:=h;exact⟨Zy _,p,v,hp,hb,hown,hne⟩
theorem cjy{F:Nat→Prop}{b:Nat}{ver:Int}{l:List UInt8}{w:World}(h:WF F b ver l w) :
  Calls Tryz.prog 41 #[.pointer (some ⟨b,0,none⟩)] w fun e w'=>e=.returned (.tuple #[])∧(∃ v,w'.heap[b]?=some (.cells #[.pointer (some ⟨b,0,none⟩),v,.int .i64 ver] 140 (0,0))∧w'.ownsRowF 0 5 1 v l.length (Lib.byteCells l)∧v.ownBlock≠some b∧F b∧∀ k,v.ownBlock=some k→F k)∧Fr F w w':=by
 obtain⟨p,v,hp,hb,hown,hne,hF,hFk⟩:=h;obtain⟨c0,c1,c2,hf,hsh,hlt⟩:=aqi hb;rcases hp with rfl|rfl
 ·refine(byv b w c0 hsh (hf 0)).mono ?_;rintro e w' ⟨rfl,rfl⟩;obtain⟨_,v',hb',hown',hne'⟩:=Wtr.used (B:=0) (Zy _) hb hown hne;have hv:v'=v:=by
   have:=(aqi hb').2.1;have h2:(w.setCell ⟨b,0,none⟩ (.pointer (some ⟨b,0,none⟩))).heap[b]?=some (.cells #[.pointer (some ⟨b,0,none⟩),v,.int .i64 ver] 140 (0,0)):=by simp[World.setCell,ZZ,hb]
   have h3:=(aqi h2).2.1;rw[h3]at this;injection this with this;exact this.symm
  subst hv;exact⟨rfl,⟨v',hb',hown',hne',hF,hFk⟩,Fr.set w b 0 _ hF⟩
 ·refine(Any.Builder_copyCheck_used Tryz.lays240 Tryz.Builder_X72_240 b w c0).mono ?_;rintro e w' ⟨rfl,rfl⟩;exact⟨rfl,⟨v,hb,hown,hne,hF,hFk⟩,Fr.refl F _⟩
theorem cvg{P:Program}(w:World)(t u ty e:TypeId)(i:TypeInfo)(ht:P.underlying t=some (.slice e))(hu:P.underlying u=some .string)(hi:P.info? e=some i)(hz:i.zero=some (.int .u8 0))
  (hsize:i.size=1) (hby:i.bytes=1) (v:Value) (n:Nat) (xs:List Value) (hown:w.ownsRowF 0 e 1 v n xs) (s:ByteArray) (h63:n+s.size≤maxLen) (hbytes:n+s.size≤140737488355328) :
  ∃ v' w',(Builtin.append_ #[t,u] ty #[v,.string s]).run P w=.ok v' w'∧w'.ownsRowF 0 e 1 v' (n+s.size) (xs++Lib.strCells s)∧w.grownBy w' v.ownBlock∧(∀ k,v'.ownBlock=some k→v.ownBlock=some k∨w.heap.size≤k):=by
 obtain⟨v',w',hr,h2,h3,h4⟩:=Lib.run_append_own_stringF (P:=P) w 0 t u ty e i ht hu hi hz hsize hby v n xs hown s h63 hbytes (Zy _);refine⟨v',w',hr,h2,h3,fun k hk=>?_⟩;rcases hown.2 with⟨rfl,rfl⟩|⟨g,cap,cur,fz,rfl,hbg,hg,hfz,hnc,hcm,hcs,htake⟩
 ·obtain⟨v2,w2,k1,k2,k3,k4⟩:=Lib.run_append_own_string (P:=P) w w.heap.size t u ty e i ht hu hi hz hsize hby (.slice none 0 0) 0 xs ⟨hown.1,.inl ⟨rfl,rfl⟩⟩ s h63 hbytes (Zf _);rw[hr]at k1;injection k1 with e1 e2;subst e1;exact .inr (k2.lt k hk).1
 ·have hsmall:n+s.size≤9223372036854775807:=by simp only[maxLen]at h63;omega
  have hxl:xs.length=n:=by simpa using hown.1
  by_cases hroom:n+s.size≤cap
  ·have hcs':cur.size=cap:=by simpa using hcs
   have hr2:=Lib.run_append_room_stringF (P:=P) w t u ty e i ht hu hi hsize g n cap cur fz hg (by simpa using hfz) s hroom (by omega);rw[hr]at hr2;injection hr2 with e1 e2;subst e1;exact .inl hk
  ·have holds:∀ j u,xs[j]?=some u→w.cell? ((⟨g,0,none⟩:Addr).add j)=some u:=hown.cells (g:=g) rfl;have hr2:=Lib.run_append_grow_string (P:=P) w t u ty e i (.int .u8 0) ht hu hi hz ⟨g,0,none⟩ n cap xs (by rw[hsize];simpa using hxl) holds s (by omega) (by omega) (by rw[hby];exact growslice_fits (by omega) (by omega));rw[hr]at hr2;injection hr2 with e1 e2;subst e1;simp only[Value.ownBlock,Zb]at hk;exact .inr (by omega)
theorem aq5{P:Program}(w:World){ops:Array Oper}{rest:List Oper}{o:Oper}{a:Act}{Q:Exit→Act→World→Prop}(hgd:o.guard=none)(sl x:Operand)(t u:TypeId)
  (ho:o.op=.call { callee:=.builtin .append,args:=#[sl,x],argTypes:=#[t,u] })
  (e:TypeId) (i:TypeInfo) (ht:P.underlying t=some (.slice e)) (hu:P.underlying u=some .string) (hi:P.info? e=some i) (hz:i.zero=some (.int .u8 0))
  (hsize:i.size=1) (hby:i.bytes=1)
  (v:Value) (n:Nat) (xs:List Value) (hs:a.eval sl=v) (hown:w.ownsRowF 0 e 1 v n xs) (s:ByteArray) (hx:a.eval x=.string s)
  (h63:n+s.size≤maxLen) (hbytes:n+s.size≤140737488355328)
  (h:∀ v' w',w'.ownsRowF 0 e 1 v' (n+s.size) (xs++Lib.strCells s)→w.grownBy w' v.ownBlock→(∀ k,v'.ownBlock=some k→v.ownBlock=some k∨w.heap.size≤k)→wpList P ops Q rest (a.put o.dst v') w'):wpList P ops Q (o::rest) a w:=by
 refine wpList_plain hgd fun K hK=>?_
 obtain⟨v',w',hr,h2,h3,h4⟩:=cvg (P:=P) w t u o.type e i ht hu hi hz hsize hby v n xs hown s h63 hbytes;unfold Oper.wp execOp;simp only[ho,resolve,invoke,builtin,Sem.run_bind,Sem.run_pure,Result.andThen_ok,List.map_toArray,ZH,Yn,hs,hx,hr];exact hK _ _ (h v' w' h2 h3 h4)
set_option maxRecDepth 100000 in
theorem cve{F:Nat→Prop}{b:Nat}{ver:Int}{l:List UInt8}{w:World}(h:WF F b ver l w)(s:List UInt8)(hlen:l.length+s.length≤1000000000) :
  Calls Tryz.prog 20 #[.pointer (some ⟨b,0,none⟩),.string ⟨s.toArray⟩] w fun e w'=>e=.returned (.tuple #[.int .i64 s.length,.nilIface])∧WF (fun k=>F k∨w.heap.size≤k) b ver (l++s) w'∧Fr F w w':=by
 obtain⟨i0,hi,hz0,hz1,hz2⟩:=info_parts aws;go_enter Tryz.func20,Tryz.ntmps20;go_wp2_with fail;(with_reducible refine(cjy h).mono ?_);rintro e w1 ⟨rfl,⟨v,hbk,hown,hne,hF,hFk⟩,hb1⟩;obtain⟨c0,c1,c2,hf,hsh,hlt⟩:=aqi hbk;go_wp2_with (at_builtin;refine aq5 _ rfl _ _ 58 9 rfl 5 i0 Tryz.underlying58 Tryz.underlying9 hi hz0 hz1 hz2 _ _ _ rfl hown ⟨s.toArray⟩ rfl ?c3 ?c4 ?_)
 case c3=>rw[size_mk];unfold maxLen;omega
 case c4=>rw[size_mk];omega
 intro v' w2 hown' hgrow hwhere;have hb2:w2.heap[b]?=some (.cells #[.pointer (some ⟨b,0,none⟩),v,.int .i64 ver] 140 (0,0)):=(hgrow.block b hlt (fun e=>hne e.symm)).trans hbk;obtain⟨d0,d1,d2,hf2,_,hlt2⟩:=aqi hb2;have f1:=hf2 1;have hown2:w2.ownsRowF 0 5 1 v' (l++s).length (Lib.byteCells (l++s)):=by
  have e1:(⟨s.toArray⟩:ByteArray).size=s.length:=size_mk s;have e2:Lib.byteCells l++Lib.strCells ⟨s.toArray⟩=Lib.byteCells (l++s):=by unfold Lib.strCells Lib.byteCells;simp
  rw[Za,←e2,←e1];exact hown'
 have hne2:=Lib.ownBlock_neF hown2 hb2 (show 140≠5 by decide);have hwb1:=hb1.size
 have Hfin:=kept (show WF (fun k=>F k∨w.heap.size≤k) b ver (l++s) (w2.setCell ⟨b,1,none⟩ v')from by
  refine⟨_,v',.inr rfl,?_,?_,hne2,.inl hF,fun k hk=>?_⟩
  ·simp[World.setCell,ZZ,hb2]
  ·exact hown2.kept (row:=some b) ⟨rfl,rfl,rfl,by simp[World.setCell],fun k _ hk=>Below.heap_setCell _ _ _ _ (fun e=>hk (by simp[e]))⟩ (Or.inr hne2)
  ·rcases hwhere k hk with h1|h1
   ·exact .inl (hFk k h1)
   ·exact .inr (by omega))
 have Hfr:=kept ((hb1.trans (Fr.grown hgrow fun k hk=>hFk k hk)).trans (Fr.set w2 b 1 v' hF));obtain⟨ao,n',cap,rfl⟩:∃ ao n' cap,v'=.slice ao n' cap:=by
  rcases hown'.2 with⟨hv,_⟩|⟨g,cap,cur,fz,hv,_⟩
  ·exact⟨_,_,_,hv⟩
  ·exact⟨_,_,_,hv⟩
 clear hown' hown2 hne2 hb2 hbk hown hne hgrow hb1 h hwhere;go_wp2
 go_ret2
 exact⟨by simp,Hfin.out,Hfr.out⟩
set_option maxRecDepth 100000 in
theorem cz6{F:Nat→Prop}{b:Nat}{ver:Int}{l:List UInt8}{w:World}(h:WF F b ver l w)(h0:l≠[]) :
  Calls Tryz.prog 21 #[.pointer (some ⟨b,0,none⟩)] w fun e w'=>e=.returned (.string ⟨l.toArray⟩)∧Fr F w w':=by
 obtain⟨p,v,hp,hbk,hown,hne,hFb,hFk⟩:=h;have hl0:l.length≠0:=by simpa using h0
 obtain⟨g,cap,cur,fz,rfl,hbg,hg,hfz,hnc,hcm,hcs,htake⟩:∃ g cap cur fz,v=.slice (some ⟨g,0,none⟩) l.length cap∧0≤g∧w.heap[g]?=some (.cells cur 5 fz)∧fz.2≤l.length*1∧l.length≤cap∧cap≤maxLen∧cur.size=cap*1∧cur.toList.take (l.length*1)=Lib.byteCells l:=by
  rcases hown.2 with⟨_,hz⟩|⟨g,cap,cur,fz,hv,r⟩
  ·exact absurd hz hl0
  ·exact⟨g,cap,cur,fz,hv,r⟩
 have HFg:=kept (hFk g rfl);have c1:w.drew.cell? ⟨b,1,none⟩=some (.slice (some ⟨g,0,none⟩) l.length cap):=(aqi hbk).2.1;have hSD:(Builtin.unsafeSliceData_ #[58] 90 #[.slice (some ⟨g,0,none⟩) l.length cap]).run Tryz.prog w.drew=.ok (.pointer (some ⟨g,0,none⟩)) w.drew:=
  Lib.run_unsafeSliceData_row _ _ _ _ _ _ (by omega)
 have hUS:(Builtin.unsafeString_ #[90,3] 9 #[.pointer (some ⟨g,0,none⟩),.int .i64 l.length]).run Tryz.prog w.drew=.ok (.string ⟨l.toArray⟩) (w.drew.freeze ⟨g,0,none⟩ l.length):=by
  refine Lib.run_unsafeString_row w.drew 90 3 9 5 Tryz.underlying90 Tryz.Builder_Extra_169.cellsByte g cur.size (by have hg':w.drew.heap[g]?=some (.cells cur 5 fz):=hg;simp[World.shape?,hg']) l h0 (by omega) (by unfold maxLen at hcm;omega) ?_;intro j x hx;have:=hown.cells (g:=g) rfl j (.int .u8 x.toNat) (by simp[Lib.byteCells,hx]);exact this
 have Hfr:=kept (show Fr F w (w.drew.freeze ⟨g,0,none⟩ l.length)from by
  unfold World.freeze;split
  ·exact⟨rfl,rfl,rfl,Zf _,fun _ _ _=>rfl⟩
  ·refine⟨rfl,rfl,rfl,by simp,fun k hk hn=>?_⟩;have hkg:k≠g:=fun e=>hn (by rw[e];exact HFg.out)
   simp only[ZZ,if_neg hkg.symm];rfl)
 clear hown hp hne hbk hnc hcm hcs htake hfz hg hl0 h0 hFk hFb;have mixed:=Tryz.lays169.mixed;go_enter Tryz.func21,Tryz.ntmps21;go_wp2
 go_region_o
 all_goals (go_wp2;go_ret;exact⟨rfl,Hfr.out⟩)
theorem cj7(s:ByteArray)(i lo hi:Int)(w:World)(h0:0≤i) :
  Calls Tryz.prog 233 #[.string s,.int .i64 i,.int .u8 lo,.int .u8 hi] w fun e w'=>e=.returned (.bool (Str.inB s i.toNat lo hi))∧w=w':=by
 by_cases h1:i<s.size
 ·have h1':i.toNat<s.size:=by omega
  by_cases h2:lo≤(s[i.toNat].toNat:Int)
  ·have Hc:=kept (show Str.inB s i.toNat lo hi=decide ((s[i.toNat].toNat:Int)≤hi) by simp[Str.inB,h1',h2]);go_enter Tryz.func233,Tryz.ntmps233;go_wp2
   go_ret
   exact⟨az9 Hc.out.symm,rfl⟩
  ·have Hc:=kept (show Str.inB s i.toNat lo hi=false by simp[Str.inB,h2]);go_enter Tryz.func233,Tryz.ntmps233;go_wp2
   go_ret
   exact⟨az9 Hc.out.symm,rfl⟩
 ·have Hc:=kept (show Str.inB s i.toNat lo hi=false by simp[Str.inB];omega);go_enter Tryz.func233,Tryz.ntmps233;go_wp2
  go_ret
  exact⟨az9 Hc.out.symm,rfl⟩
theorem azn(s:ByteArray)(i lo hi:Int)(k:Nat)(c:Bool)(w:World)(h0:0≤i)(hk:i.toNat=k)(h:Str.inB s k lo hi=c) :
  Calls Tryz.prog 233 #[.string s,.int .i64 i,.int .u8 lo,.int .u8 hi] w fun e w'=>e=.returned (.bool c)∧w=w':=by
 subst hk;subst h;exact cj7 s i lo hi w h0
theorem ajn(b:UInt8):bits .and .u8 (b.toNat:Int) 63=(b.toNat:Int)%64:=by
 have:=b.toNat_lt;rw[show(63:Int)=((63:Nat):Int)from rfl,u8_and_nat _ _ (by omega) (by omega),show(63:Nat)=2^6-1 from rfl,YN];rfl
theorem dqq(b:UInt8):bits .and .u8 (b.toNat:Int) 31=(b.toNat:Int)%32:=by
 have:=b.toNat_lt;rw[show(31:Int)=((31:Nat):Int)from rfl,u8_and_nat _ _ (by omega) (by omega),show(31:Nat)=2^5-1 from rfl,YN];rfl
theorem cwt(b:UInt8):bits .and .u8 (b.toNat:Int) 15=(b.toNat:Int)%16:=by
 have:=b.toNat_lt;rw[show(15:Int)=((15:Nat):Int)from rfl,u8_and_nat _ _ (by omega) (by omega),show(15:Nat)=2^4-1 from rfl,YN];rfl
theorem and7(b:UInt8):bits .and .u8 (b.toNat:Int) 7=(b.toNat:Int)%8:=by
 have:=b.toNat_lt;rw[show(7:Int)=((7:Nat):Int)from rfl,u8_and_nat _ _ (by omega) (by omega),show(7:Nat)=2^3-1 from rfl,YN];rfl
theorem dz0(x y p:Nat)(n:Nat)(hp:p=2^n)(hy:y<p)(hx:x*p<1152921504606846976)(hp2:p<1152921504606846976):bits .or .i64 ((x:Int)*(p:Int)) (y:Int)=((x*p+y:Nat):Int):=by
 subst hp;have h:=u64_or_nat (x*2^n) y (by omega) (by omega);have e:(x*2^n ||| y)=x*2^n+y:=by rw[Nat.mul_comm,←Nat.two_pow_add_eq_or_of_lt hy]
 rw[e]at h;rw[←Int.natCast_mul];have h1:(BitVec.ofInt 64 ((x*2^n:Nat):Int) ||| BitVec.ofInt 64 (y:Int)).toNat=x*2^n+y:=by
  rw[BitVec.toNat_or,BitVec.ofInt_natCast,BitVec.ofInt_natCast,BitVec.toNat_ofNat,BitVec.toNat_ofNat,YM (by omega),YM (by omega),e]
 show IntKind.i64.wrap ((BitVec.ofInt 64 ((x*2^n:Nat):Int) ||| BitVec.ofInt 64 (y:Int)).toNat:Int)=_
 rw[h1,IntKind.wrap_i64];omega
theorem aqc(x y:Int)(p:Nat)(n:Nat)(hp:p=2^n)(hx0:0≤x)(hx:x<16777216)(hy0:0≤y)(hy:y<p)(hp2:p<16777216):bits .or .i64 (x*(p:Int)) y=x*(p:Int)+y:=by
 obtain⟨X,rfl⟩:=Int.eq_ofNat_of_zero_le hx0;obtain⟨Y,rfl⟩:=Int.eq_ofNat_of_zero_le hy0;have hX:X<16777216:=by omega
 have hXp:X*p≤16777216*16777216:=Nat.mul_le_mul (by omega) (by omega);rw[dz0 X Y p n hp (by omega) (by omega) (by omega)];simp
def DecEnd(d:Nat×Nat):Ending:=.returned (.tuple #[.int .i64 d.1,.int .i64 d.2])
theorem ajx(x m:Int)(c n:Nat)(hx:x=c)(hm:m=n):Ending.returned (.tuple #[.int .i64 x,.int .i64 m])=DecEnd (c,n):=by subst hx;subst hm;rfl
theorem cwf(s:ByteArray)(k:Nat)(w:World)(hk:¬k<s.size) :
  Calls Tryz.prog 218 #[.string s,.int .i64 k] w fun e w'=>e=DecEnd (Str.refDec s k)∧∃ q,w'=w.drewN q:=by
 have Hr:=kept (Str.refDec_end s k hk);have hk':(s.size:Int)≤k:=by omega
 clear hk;go_enter Tryz.func218,Tryz.ntmps218;go_wp2
 go_ret2
 exact⟨by rw[Hr.out];rfl,0,rfl⟩
theorem by9(s:ByteArray)(k:Nat)(w:World)(hk:k<s.size)(h:s[k].toNat<128) :
  Calls Tryz.prog 218 #[.string s,.int .i64 k] w fun e w'=>e=DecEnd (Str.refDec s k)∧∃ q,w'=w.drewN q:=by
 have Hr:=kept (Str.refDec_ascii s k hk h);have Hb:=kept (show((s[k].toNat:Nat):Int)<256 by have:=s[k].toNat_lt;omega);have hk':(k:Int)<s.size:=by omega
 have h':(s[k].toNat:Int)<128:=by omega
 obtain⟨u,hu⟩:∃ u:Int,(s[k].toNat:Int)=u:=⟨_,rfl⟩;have hu0:0≤u:=by omega
 have Hu:=kept hu;rw[hu]at h';clear h;go_enter Tryz.func218,Tryz.ntmps218;go_wp2
 go_ret2
 exact⟨by rw[Hr.out];show _=DecEnd _;unfold DecEnd;rw[Hu.out];rfl,0,rfl⟩
theorem cwz(s:ByteArray)(k:Nat)(w:World)(hk:k<s.size)(hs:s.size≤1000000000)(h1:194≤s[k].toNat)(h2:s[k].toNat≤223)(hc:Str.inB s (k+1) 128 191=true) :
  Calls Tryz.prog 218 #[.string s,.int .i64 k] w fun e w'=>e=DecEnd (Str.refDec s k)∧∃ q,w'=w.drewN q:=by
 have Hr:=kept (Str.refDec_two s k hk h1 h2 hc);have Hc:=kept hc;have hk1:k+1<s.size:=(Str.inB_true hc).1;have hg1:=Str.get_lt s (k+1) hk1;have hk':(k:Int)+1<s.size:=by omega
 have a0:=dqq s[k];have a1:=ajn s[k+1];obtain⟨u0,hu0⟩:∃ u:Int,(s[k].toNat:Int)=u:=⟨_,rfl⟩;have Hu0:=kept hu0;have hu00:0≤u0:=by omega
 have hu01:u0<256:=by have:=s[k].toNat_lt;omega
 obtain⟨u1,hu1⟩:∃ u:Int,(s[k+1].toNat:Int)=u:=⟨_,rfl⟩;have Hu1:=kept hu1;have hu10:0≤u1:=by omega
 have hu11:u1<256:=by have:=s[k+1].toNat_lt;omega
 have h1':194≤u0:=by omega
 have h2':u0≤223:=by omega
 rw[hu0]at a0;rw[hu1]at a1;have o1:bits .or .i64 ((u0%32)*64) ((u1%64))=(u0%32)*64+(u1%64):=aqc ((u0%32)) ((u1%64)) 64 6 (by decide) (by omega) (by omega) (by omega) (by omega) (by omega);have Hg1:=kept hg1;clear hg1;clear h1 h2 hc;go_enter Tryz.func218,Tryz.ntmps218;go_wp2_with fail;refine(azn _ _ _ _ (k+1) true _ (by omega) (by omega) Hc.out).mono ?_;rintro e w' ⟨rfl,rfl⟩;go_wp2
 go_ret2
 refine⟨?_,0,rfl⟩;rw[Hr.out];refine ajx _ _ _ _ ?_ rfl;have:=Hu0.out;have:=Hu1.out;have:=Hg1.out;omega
theorem byc(s:ByteArray)(k:Nat)(w:World)(hk:k<s.size)(hs:s.size≤1000000000)(h1:194≤s[k].toNat)(h2:s[k].toNat≤223)(hc:Str.inB s (k+1) 128 191=false) :
  Calls Tryz.prog 218 #[.string s,.int .i64 k] w fun e w'=>e=DecEnd (Str.refDec s k)∧∃ q,w'=w.drewN q:=by
 have Hr:=kept (Str.refDec_two_no s k hk h1 h2 hc);have Hc:=kept hc;have hk':(k:Int)<s.size:=by omega
 obtain⟨u0,hu0⟩:∃ u:Int,(s[k].toNat:Int)=u:=⟨_,rfl⟩;have Hu0:=kept hu0;have hu00:0≤u0:=by omega
 have hu01:u0<256:=by have:=s[k].toNat_lt;omega
 have h1':194≤u0:=by omega
 have h2':u0≤223:=by omega
 clear h1 h2 hc;go_enter Tryz.func218,Tryz.ntmps218;go_wp2_with fail;refine(azn _ _ _ _ (k+1) false _ (by omega) (by omega) Hc.out).mono ?_;rintro e w' ⟨rfl,rfl⟩;go_wp2
 go_ret2
 exact⟨by rw[Hr.out];rfl,0,rfl⟩
theorem bjy(s:ByteArray)(k:Nat)(w:World)(hk:k<s.size)(hs:s.size≤1000000000)(h1:s[k].toNat=224)(hc:Str.inB s (k+1) 160 191=true)(hd:Str.inB s (k+2) 128 191=true) :
  Calls Tryz.prog 218 #[.string s,.int .i64 k] w fun e w'=>e=DecEnd (Str.refDec s k)∧∃ q,w'=w.drewN q:=by
 have Hr:=kept (Str.refDec_three s k hk 160 191 (by omega) (by omega) (by simp[*]) (by simp[*]) hc hd);have Hc:=kept hc;have Hd:=kept hd;have hk1:k+1<s.size:=(Str.inB_true hc).1;have hg1:=Str.get_lt s (k+1) hk1;have hk2:k+2<s.size:=(Str.inB_true hd).1;have hg2:=Str.get_lt s (k+2) hk2;have hk':(k:Int)+2<s.size:=by omega
 have a0:=cwt s[k];have a1:=ajn s[k+1];have a2:=ajn s[k+2];obtain⟨u0,hu0⟩:∃ u:Int,(s[k].toNat:Int)=u:=⟨_,rfl⟩;have Hu0:=kept hu0;have hu00:0≤u0:=by omega
 have hu01:u0<256:=by have:=s[k].toNat_lt;omega
 obtain⟨u1,hu1⟩:∃ u:Int,(s[k+1].toNat:Int)=u:=⟨_,rfl⟩;have Hu1:=kept hu1;have hu10:0≤u1:=by omega
 have hu11:u1<256:=by have:=s[k+1].toNat_lt;omega
 obtain⟨u2,hu2⟩:∃ u:Int,(s[k+2].toNat:Int)=u:=⟨_,rfl⟩;have Hu2:=kept hu2;have hu20:0≤u2:=by omega
 have hu21:u2<256:=by have:=s[k+2].toNat_lt;omega
 rw[hu0]at a0;rw[hu1]at a1;rw[hu2]at a2;have h1':u0=224:=by omega
 subst h1';have o1:bits .or .i64 (0) (u1%64*64)=u1%64*64:=by have:=aqc (0) (u1%64*64) 4096 12 (by decide) (by omega) (by omega) (by omega) (by omega) (by omega);simpa using this
 have o2:bits .or .i64 (u1%64*64) (u2%64)=u1%64*64+u2%64:=by
  have:=aqc (0*64+u1%64) (u2%64) 64 6 (by decide) (by omega) (by omega) (by omega) (by omega) (by omega)
  rwa [show(0*64+u1%64)*((64:Nat):Int)=u1%64*64 by omega]at this
 have Hg1:=kept hg1;clear hg1;have Hg2:=kept hg2;clear hg2;clear h1 hc hd;go_enter Tryz.func218,Tryz.ntmps218;go_wp2_with fail;refine(azn _ _ _ _ (k+1) true _ (by omega) (by omega) Hc.out).mono ?_;rintro e w' ⟨rfl,rfl⟩;go_wp2_with fail;refine(azn _ _ _ _ (k+2) true _ (by omega) (by omega) Hd.out).mono ?_;rintro e w' ⟨rfl,rfl⟩;go_wp2;have i1:(0:Int)≤(k:Int)+1:=by omega
 have v1:(k:Int)+1<s.size:=by omega
 have w1:IntKind.i64.wrap ((k:Int)+1)=(k:Int)+1:=IntWalk.i64_in _ (by omega);have n1:((k:Int)+1).toNat=k+1:=by omega
 have i2:(0:Int)≤(k:Int)+2:=by omega
 have v2:(k:Int)+2<s.size:=by omega
 have w2:IntKind.i64.wrap ((k:Int)+2)=(k:Int)+2:=IntWalk.i64_in _ (by omega);have n2:((k:Int)+2).toNat=k+2:=by omega
 have s1:IntKind.i64.wrap (224%16*4096)=224%16*4096:=IntWalk.i64_in _ (by omega);have s2:IntKind.i64.wrap (u1%64*64)=u1%64*64:=IntWalk.i64_in _ (by omega)
 go_region
 clear w1 n1 w2 n2 s1 s2;go_wp2
 go_ret2
 refine⟨?_,_,rfl⟩;rw[Hr.out];refine ajx _ _ _ _ ?_ rfl;have:=Hu0.out;have:=Hu1.out;have:=Hg1.out;have:=Hu2.out;have:=Hg2.out;omega
theorem ako(s:ByteArray)(k:Nat)(w:World)(hk:k<s.size)(hs:s.size≤1000000000)(h1:s[k].toNat=224)(hc:Str.inB s (k+1) 160 191=false) :
  Calls Tryz.prog 218 #[.string s,.int .i64 k] w fun e w'=>e=DecEnd (Str.refDec s k)∧∃ q,w'=w.drewN q:=by
 have Hr:=kept (Str.refDec_three_no s k hk 160 191 (by omega) (by omega) (by simp[*]) (by simp[*]) (.inl hc));have Hc:=kept hc;have hk':(k:Int)<s.size:=by omega
 obtain⟨u0,hu0⟩:∃ u:Int,(s[k].toNat:Int)=u:=⟨_,rfl⟩;have Hu0:=kept hu0;have hu00:0≤u0:=by omega
 have hu01:u0<256:=by have:=s[k].toNat_lt;omega
 have h1':u0=224:=by omega
 subst h1';clear h1 hc;go_enter Tryz.func218,Tryz.ntmps218;go_wp2_with fail;refine(azn _ _ _ _ (k+1) false _ (by omega) (by omega) Hc.out).mono ?_;rintro e w' ⟨rfl,rfl⟩;go_wp2
 go_ret2
 exact⟨by rw[Hr.out];rfl,0,rfl⟩
theorem ak4(s:ByteArray)(k:Nat)(w:World)(hk:k<s.size)(hs:s.size≤1000000000)(h1:s[k].toNat=224)(hc:Str.inB s (k+1) 160 191=true)(hd:Str.inB s (k+2) 128 191=false) :
  Calls Tryz.prog 218 #[.string s,.int .i64 k] w fun e w'=>e=DecEnd (Str.refDec s k)∧∃ q,w'=w.drewN q:=by
 have Hr:=kept (Str.refDec_three_no s k hk 160 191 (by omega) (by omega) (by simp[*]) (by simp[*]) (.inr hd));have Hc:=kept hc;have Hd:=kept hd;have hk':(k:Int)<s.size:=by omega
 obtain⟨u0,hu0⟩:∃ u:Int,(s[k].toNat:Int)=u:=⟨_,rfl⟩;have Hu0:=kept hu0;have hu00:0≤u0:=by omega
 have hu01:u0<256:=by have:=s[k].toNat_lt;omega
 have h1':u0=224:=by omega
 subst h1';clear h1 hc hd;go_enter Tryz.func218,Tryz.ntmps218;go_wp2_with fail;refine(azn _ _ _ _ (k+1) true _ (by omega) (by omega) Hc.out).mono ?_;rintro e w' ⟨rfl,rfl⟩;go_wp2_with fail;refine(azn _ _ _ _ (k+2) false _ (by omega) (by omega) Hd.out).mono ?_;rintro e w' ⟨rfl,rfl⟩;go_wp2
 go_ret2
 exact⟨by rw[Hr.out];rfl,0,rfl⟩
theorem bji(s:ByteArray)(k:Nat)(w:World)(hk:k<s.size)(hs:s.size≤1000000000)(h1:s[k].toNat=237)(hc:Str.inB s (k+1) 128 159=true)(hd:Str.inB s (k+2) 128 191=true) :
  Calls Tryz.prog 218 #[.string s,.int .i64 k] w fun e w'=>e=DecEnd (Str.refDec s k)∧∃ q,w'=w.drewN q:=by
 have Hr:=kept (Str.refDec_three s k hk 128 159 (by omega) (by omega) (by simp[*]) (by simp[*]) hc hd);have Hc:=kept hc;have Hd:=kept hd;have hk1:k+1<s.size:=(Str.inB_true hc).1;have hg1:=Str.get_lt s (k+1) hk1;have hk2:k+2<s.size:=(Str.inB_true hd).1;have hg2:=Str.get_lt s (k+2) hk2;have hk':(k:Int)+2<s.size:=by omega
 have a0:=cwt s[k];have a1:=ajn s[k+1];have a2:=ajn s[k+2];obtain⟨u0,hu0⟩:∃ u:Int,(s[k].toNat:Int)=u:=⟨_,rfl⟩;have Hu0:=kept hu0;have hu00:0≤u0:=by omega
 have hu01:u0<256:=by have:=s[k].toNat_lt;omega
 obtain⟨u1,hu1⟩:∃ u:Int,(s[k+1].toNat:Int)=u:=⟨_,rfl⟩;have Hu1:=kept hu1;have hu10:0≤u1:=by omega
 have hu11:u1<256:=by have:=s[k+1].toNat_lt;omega
 obtain⟨u2,hu2⟩:∃ u:Int,(s[k+2].toNat:Int)=u:=⟨_,rfl⟩;have Hu2:=kept hu2;have hu20:0≤u2:=by omega
 have hu21:u2<256:=by have:=s[k+2].toNat_lt;omega
 rw[hu0]at a0;rw[hu1]at a1;rw[hu2]at a2;have h1':u0=237:=by omega
 subst h1';have o1:bits .or .i64 (53248) (u1%64*64)=53248+u1%64*64:=by have:=aqc (13) (u1%64*64) 4096 12 (by decide) (by omega) (by omega) (by omega) (by omega) (by omega);simpa using this
 have o2:bits .or .i64 (53248+u1%64*64) (u2%64)=53248+u1%64*64+u2%64:=by
  have:=aqc (13*64+u1%64) (u2%64) 64 6 (by decide) (by omega) (by omega) (by omega) (by omega) (by omega)
  rwa [show(13*64+u1%64)*((64:Nat):Int)=53248+u1%64*64 by omega]at this
 have Hg1:=kept hg1;clear hg1;have Hg2:=kept hg2;clear hg2;clear h1 hc hd;go_enter Tryz.func218,Tryz.ntmps218;go_wp2_with fail;refine(azn _ _ _ _ (k+1) true _ (by omega) (by omega) Hc.out).mono ?_;rintro e w' ⟨rfl,rfl⟩;go_wp2_with fail;refine(azn _ _ _ _ (k+2) true _ (by omega) (by omega) Hd.out).mono ?_;rintro e w' ⟨rfl,rfl⟩;go_wp2;have i1:(0:Int)≤(k:Int)+1:=by omega
 have v1:(k:Int)+1<s.size:=by omega
 have w1:IntKind.i64.wrap ((k:Int)+1)=(k:Int)+1:=IntWalk.i64_in _ (by omega);have n1:((k:Int)+1).toNat=k+1:=by omega
 have i2:(0:Int)≤(k:Int)+2:=by omega
 have v2:(k:Int)+2<s.size:=by omega
 have w2:IntKind.i64.wrap ((k:Int)+2)=(k:Int)+2:=IntWalk.i64_in _ (by omega);have n2:((k:Int)+2).toNat=k+2:=by omega
 have s1:IntKind.i64.wrap (237%16*4096)=237%16*4096:=IntWalk.i64_in _ (by omega);have s2:IntKind.i64.wrap (u1%64*64)=u1%64*64:=IntWalk.i64_in _ (by omega)
 go_region
 clear w1 n1 w2 n2 s1 s2;go_wp2
 go_ret2
 refine⟨?_,_,rfl⟩;rw[Hr.out];refine ajx _ _ _ _ ?_ rfl;have:=Hu0.out;have:=Hu1.out;have:=Hg1.out;have:=Hu2.out;have:=Hg2.out;omega
theorem ak7(s:ByteArray)(k:Nat)(w:World)(hk:k<s.size)(hs:s.size≤1000000000)(h1:s[k].toNat=237)(hc:Str.inB s (k+1) 128 159=false) :
  Calls Tryz.prog 218 #[.string s,.int .i64 k] w fun e w'=>e=DecEnd (Str.refDec s k)∧∃ q,w'=w.drewN q:=by
 have Hr:=kept (Str.refDec_three_no s k hk 128 159 (by omega) (by omega) (by simp[*]) (by simp[*]) (.inl hc));have Hc:=kept hc;have hk':(k:Int)<s.size:=by omega
 obtain⟨u0,hu0⟩:∃ u:Int,(s[k].toNat:Int)=u:=⟨_,rfl⟩;have Hu0:=kept hu0;have hu00:0≤u0:=by omega
 have hu01:u0<256:=by have:=s[k].toNat_lt;omega
 have h1':u0=237:=by omega
 subst h1';clear h1 hc;go_enter Tryz.func218,Tryz.ntmps218;go_wp2_with fail;refine(azn _ _ _ _ (k+1) false _ (by omega) (by omega) Hc.out).mono ?_;rintro e w' ⟨rfl,rfl⟩;go_wp2
 go_ret2
 exact⟨by rw[Hr.out];rfl,0,rfl⟩
theorem awg(s:ByteArray)(k:Nat)(w:World)(hk:k<s.size)(hs:s.size≤1000000000)(h1:s[k].toNat=237)(hc:Str.inB s (k+1) 128 159=true)(hd:Str.inB s (k+2) 128 191=false) :
  Calls Tryz.prog 218 #[.string s,.int .i64 k] w fun e w'=>e=DecEnd (Str.refDec s k)∧∃ q,w'=w.drewN q:=by
 have Hr:=kept (Str.refDec_three_no s k hk 128 159 (by omega) (by omega) (by simp[*]) (by simp[*]) (.inr hd));have Hc:=kept hc;have Hd:=kept hd;have hk':(k:Int)<s.size:=by omega
 obtain⟨u0,hu0⟩:∃ u:Int,(s[k].toNat:Int)=u:=⟨_,rfl⟩;have Hu0:=kept hu0;have hu00:0≤u0:=by omega
 have hu01:u0<256:=by have:=s[k].toNat_lt;omega
 have h1':u0=237:=by omega
 subst h1';clear h1 hc hd;go_enter Tryz.func218,Tryz.ntmps218;go_wp2_with fail;refine(azn _ _ _ _ (k+1) true _ (by omega) (by omega) Hc.out).mono ?_;rintro e w' ⟨rfl,rfl⟩;go_wp2_with fail;refine(azn _ _ _ _ (k+2) false _ (by omega) (by omega) Hd.out).mono ?_;rintro e w' ⟨rfl,rfl⟩;go_wp2
 go_ret2
 exact⟨by rw[Hr.out];rfl,0,rfl⟩
theorem bjj(s:ByteArray)(k:Nat)(w:World)(hk:k<s.size)(hs:s.size≤1000000000)(h1:224≤s[k].toNat)(h2:s[k].toNat≤239)(h3:s[k].toNat≠224)(h4:s[k].toNat≠237)(hc:Str.inB s (k+1) 128 191=true)(hd:Str.inB s (k+2) 128 191=true) :
  Calls Tryz.prog 218 #[.string s,.int .i64 k] w fun e w'=>e=DecEnd (Str.refDec s k)∧∃ q,w'=w.drewN q:=by
 have Hr:=kept (Str.refDec_three s k hk 128 191 (by omega) (by omega) (by simp[*]) (by simp[*]) hc hd);have Hc:=kept hc;have Hd:=kept hd;have hk1:k+1<s.size:=(Str.inB_true hc).1;have hg1:=Str.get_lt s (k+1) hk1;have hk2:k+2<s.size:=(Str.inB_true hd).1;have hg2:=Str.get_lt s (k+2) hk2;have hk':(k:Int)+2<s.size:=by omega
 have a0:=cwt s[k];have a1:=ajn s[k+1];have a2:=ajn s[k+2];obtain⟨u0,hu0⟩:∃ u:Int,(s[k].toNat:Int)=u:=⟨_,rfl⟩;have Hu0:=kept hu0;have hu00:0≤u0:=by omega
 have hu01:u0<256:=by have:=s[k].toNat_lt;omega
 obtain⟨u1,hu1⟩:∃ u:Int,(s[k+1].toNat:Int)=u:=⟨_,rfl⟩;have Hu1:=kept hu1;have hu10:0≤u1:=by omega
 have hu11:u1<256:=by have:=s[k+1].toNat_lt;omega
 obtain⟨u2,hu2⟩:∃ u:Int,(s[k+2].toNat:Int)=u:=⟨_,rfl⟩;have Hu2:=kept hu2;have hu20:0≤u2:=by omega
 have hu21:u2<256:=by have:=s[k+2].toNat_lt;omega
 rw[hu0]at a0;rw[hu1]at a1;rw[hu2]at a2;have h1':224≤u0:=by omega
 have h2':u0≤239:=by omega
 have h3':(u0==224)=false:=by simp;omega
 have h4':(u0==237)=false:=by simp;omega
 have h5':¬u0=224:=by omega
 have h6':¬u0=237:=by omega
 have o1:bits .or .i64 (u0%16*4096) (u1%64*64)=u0%16*4096+u1%64*64:=by have:=aqc ((u0%16)) (u1%64*64) 4096 12 (by decide) (by omega) (by omega) (by omega) (by omega) (by omega);simpa using this
 have o2:bits .or .i64 (u0%16*4096+u1%64*64) (u2%64)=u0%16*4096+u1%64*64+u2%64:=by
  have:=aqc ((u0%16)*64+u1%64) (u2%64) 64 6 (by decide) (by omega) (by omega) (by omega) (by omega) (by omega)
  rwa [show((u0%16)*64+u1%64)*((64:Nat):Int)=u0%16*4096+u1%64*64 by omega]at this
 have Hg1:=kept hg1;clear hg1;have Hg2:=kept hg2;clear hg2;clear h1 h2 h3 h4 hc hd;go_enter Tryz.func218,Tryz.ntmps218;go_wp2_with fail;refine(azn _ _ _ _ (k+1) true _ (by omega) (by omega) Hc.out).mono ?_;rintro e w' ⟨rfl,rfl⟩;go_wp2_with fail;refine(azn _ _ _ _ (k+2) true _ (by omega) (by omega) Hd.out).mono ?_;rintro e w' ⟨rfl,rfl⟩;go_wp2;have i1:(0:Int)≤(k:Int)+1:=by omega
 have v1:(k:Int)+1<s.size:=by omega
 have w1:IntKind.i64.wrap ((k:Int)+1)=(k:Int)+1:=IntWalk.i64_in _ (by omega);have n1:((k:Int)+1).toNat=k+1:=by omega
 have i2:(0:Int)≤(k:Int)+2:=by omega
 have v2:(k:Int)+2<s.size:=by omega
 have w2:IntKind.i64.wrap ((k:Int)+2)=(k:Int)+2:=IntWalk.i64_in _ (by omega);have n2:((k:Int)+2).toNat=k+2:=by omega
 have s1:IntKind.i64.wrap (u0%16*4096)=u0%16*4096:=IntWalk.i64_in _ (by omega);have s2:IntKind.i64.wrap (u1%64*64)=u1%64*64:=IntWalk.i64_in _ (by omega)
 go_region
 clear w1 n1 w2 n2 s1 s2;go_wp2
 go_ret2
 refine⟨?_,_,rfl⟩;rw[Hr.out];refine ajx _ _ _ _ ?_ rfl;have:=Hu0.out;have:=Hu1.out;have:=Hg1.out;have:=Hu2.out;have:=Hg2.out;omega
theorem akp(s:ByteArray)(k:Nat)(w:World)(hk:k<s.size)(hs:s.size≤1000000000)(h1:224≤s[k].toNat)(h2:s[k].toNat≤239)(h3:s[k].toNat≠224)(h4:s[k].toNat≠237)(hc:Str.inB s (k+1) 128 191=false) :
  Calls Tryz.prog 218 #[.string s,.int .i64 k] w fun e w'=>e=DecEnd (Str.refDec s k)∧∃ q,w'=w.drewN q:=by
 have Hr:=kept (Str.refDec_three_no s k hk 128 191 (by omega) (by omega) (by simp[*]) (by simp[*]) (.inl hc));have Hc:=kept hc;have hk':(k:Int)<s.size:=by omega
 obtain⟨u0,hu0⟩:∃ u:Int,(s[k].toNat:Int)=u:=⟨_,rfl⟩;have Hu0:=kept hu0;have hu00:0≤u0:=by omega
 have hu01:u0<256:=by have:=s[k].toNat_lt;omega
 have h1':224≤u0:=by omega
 have h2':u0≤239:=by omega
 have h3':(u0==224)=false:=by simp;omega
 have h4':(u0==237)=false:=by simp;omega
 have h5':¬u0=224:=by omega
 have h6':¬u0=237:=by omega
 clear h1 h2 h3 h4 hc;go_enter Tryz.func218,Tryz.ntmps218;go_wp2_with fail;refine(azn _ _ _ _ (k+1) false _ (by omega) (by omega) Hc.out).mono ?_;rintro e w' ⟨rfl,rfl⟩;go_wp2
 go_ret2
 exact⟨by rw[Hr.out];rfl,0,rfl⟩
theorem aky(s:ByteArray)(k:Nat)(w:World)(hk:k<s.size)(hs:s.size≤1000000000)(h1:224≤s[k].toNat)(h2:s[k].toNat≤239)(h3:s[k].toNat≠224)(h4:s[k].toNat≠237)(hc:Str.inB s (k+1) 128 191=true)(hd:Str.inB s (k+2) 128 191=false) :
  Calls Tryz.prog 218 #[.string s,.int .i64 k] w fun e w'=>e=DecEnd (Str.refDec s k)∧∃ q,w'=w.drewN q:=by
 have Hr:=kept (Str.refDec_three_no s k hk 128 191 (by omega) (by omega) (by simp[*]) (by simp[*]) (.inr hd));have Hc:=kept hc;have Hd:=kept hd;have hk':(k:Int)<s.size:=by omega
 obtain⟨u0,hu0⟩:∃ u:Int,(s[k].toNat:Int)=u:=⟨_,rfl⟩;have Hu0:=kept hu0;have hu00:0≤u0:=by omega
 have hu01:u0<256:=by have:=s[k].toNat_lt;omega
 have h1':224≤u0:=by omega
 have h2':u0≤239:=by omega
 have h3':(u0==224)=false:=by simp;omega
 have h4':(u0==237)=false:=by simp;omega
 have h5':¬u0=224:=by omega
 have h6':¬u0=237:=by omega
 clear h1 h2 h3 h4 hc hd;go_enter Tryz.func218,Tryz.ntmps218;go_wp2_with fail;refine(azn _ _ _ _ (k+1) true _ (by omega) (by omega) Hc.out).mono ?_;rintro e w' ⟨rfl,rfl⟩;go_wp2_with fail;refine(azn _ _ _ _ (k+2) false _ (by omega) (by omega) Hd.out).mono ?_;rintro e w' ⟨rfl,rfl⟩;go_wp2
 go_ret2
 exact⟨by rw[Hr.out];rfl,0,rfl⟩
theorem bw2(s:ByteArray)(k:Nat)(w:World)(hk:k<s.size)(hs:s.size≤1000000000)(h1:s[k].toNat=240)(hc:Str.inB s (k+1) 144 191=true)(hd:Str.inB s (k+2) 128 191=true)(he:Str.inB s (k+3) 128 191=true) :
  Calls Tryz.prog 218 #[.string s,.int .i64 k] w fun e w'=>e=DecEnd (Str.refDec s k)∧∃ q,w'=w.drewN q:=by
 have Hr:=kept (Str.refDec_four s k hk 144 191 (by omega) (by omega) (by simp[*]) (by simp[*]) hc hd he);have Hc:=kept hc;have Hd:=kept hd;have He:=kept he;have hk1:k+1<s.size:=(Str.inB_true hc).1;have hg1:=Str.get_lt s (k+1) hk1;have hk2:k+2<s.size:=(Str.inB_true hd).1;have hg2:=Str.get_lt s (k+2) hk2;have hk3:k+3<s.size:=(Str.inB_true he).1;have hg3:=Str.get_lt s (k+3) hk3;have hk':(k:Int)+3<s.size:=by omega
 have a0:=and7 s[k];have a1:=ajn s[k+1];have a2:=ajn s[k+2];have a3:=ajn s[k+3];obtain⟨u0,hu0⟩:∃ u:Int,(s[k].toNat:Int)=u:=⟨_,rfl⟩;have Hu0:=kept hu0;have hu00:0≤u0:=by omega
 have hu01:u0<256:=by have:=s[k].toNat_lt;omega
 obtain⟨u1,hu1⟩:∃ u:Int,(s[k+1].toNat:Int)=u:=⟨_,rfl⟩;have Hu1:=kept hu1;have hu10:0≤u1:=by omega
 have hu11:u1<256:=by have:=s[k+1].toNat_lt;omega
 obtain⟨u2,hu2⟩:∃ u:Int,(s[k+2].toNat:Int)=u:=⟨_,rfl⟩;have Hu2:=kept hu2;have hu20:0≤u2:=by omega
 have hu21:u2<256:=by have:=s[k+2].toNat_lt;omega
 obtain⟨u3,hu3⟩:∃ u:Int,(s[k+3].toNat:Int)=u:=⟨_,rfl⟩;have Hu3:=kept hu3;have hu30:0≤u3:=by omega
 have hu31:u3<256:=by have:=s[k+3].toNat_lt;omega
 rw[hu0]at a0;rw[hu1]at a1;rw[hu2]at a2;rw[hu3]at a3;have h1':u0=240:=by omega
 subst h1';have o1:bits .or .i64 (0) (u1%64*4096)=u1%64*4096:=by have:=aqc (0) (u1%64*4096) 262144 18 (by decide) (by omega) (by omega) (by omega) (by omega) (by omega);simpa using this
 have o2:bits .or .i64 (u1%64*4096) (u2%64*64)=u1%64*4096+u2%64*64:=by
  have:=aqc (0*64+u1%64) (u2%64*64) 4096 12 (by decide) (by omega) (by omega) (by omega) (by omega) (by omega)
  rwa [show(0*64+u1%64)*((4096:Nat):Int)=u1%64*4096 by omega]at this
 have o3:bits .or .i64 (u1%64*4096+u2%64*64) (u3%64)=u1%64*4096+u2%64*64+u3%64:=by
  have:=aqc (0*4096+u1%64*64+u2%64) (u3%64) 64 6 (by decide) (by omega) (by omega) (by omega) (by omega) (by omega)
  rwa [show(0*4096+u1%64*64+u2%64)*((64:Nat):Int)=u1%64*4096+u2%64*64 by omega]at this
 have Hg1:=kept hg1;clear hg1;have Hg2:=kept hg2;clear hg2;have Hg3:=kept hg3;clear hg3;clear h1 hc hd he;go_enter Tryz.func218,Tryz.ntmps218;go_wp2_with fail;refine(azn _ _ _ _ (k+1) true _ (by omega) (by omega) Hc.out).mono ?_;rintro e w' ⟨rfl,rfl⟩;go_wp2_with fail;refine(azn _ _ _ _ (k+2) true _ (by omega) (by omega) Hd.out).mono ?_;rintro e w' ⟨rfl,rfl⟩;go_wp2_with fail;refine(azn _ _ _ _ (k+3) true _ (by omega) (by omega) He.out).mono ?_;rintro e w' ⟨rfl,rfl⟩;go_wp2;have i1:(0:Int)≤(k:Int)+1:=by omega
 have v1:(k:Int)+1<s.size:=by omega
 have w1:IntKind.i64.wrap ((k:Int)+1)=(k:Int)+1:=IntWalk.i64_in _ (by omega);have n1:((k:Int)+1).toNat=k+1:=by omega
 have i2:(0:Int)≤(k:Int)+2:=by omega
 have v2:(k:Int)+2<s.size:=by omega
 have w2:IntKind.i64.wrap ((k:Int)+2)=(k:Int)+2:=IntWalk.i64_in _ (by omega);have n2:((k:Int)+2).toNat=k+2:=by omega
 have i3:(0:Int)≤(k:Int)+3:=by omega
 have v3:(k:Int)+3<s.size:=by omega
 have w3:IntKind.i64.wrap ((k:Int)+3)=(k:Int)+3:=IntWalk.i64_in _ (by omega);have n3:((k:Int)+3).toNat=k+3:=by omega
 have s1:IntKind.i64.wrap (240%8*262144)=240%8*262144:=IntWalk.i64_in _ (by omega);have s2:IntKind.i64.wrap (u1%64*4096)=u1%64*4096:=IntWalk.i64_in _ (by omega);have s3:IntKind.i64.wrap (u2%64*64)=u2%64*64:=IntWalk.i64_in _ (by omega)
 go_region
 clear w1 n1 w2 n2 w3 n3 s1 s2 s3;go_wp2
 go_ret2
 refine⟨?_,_,rfl⟩;rw[Hr.out];refine ajx _ _ _ _ ?_ rfl;have:=Hu0.out;have:=Hu1.out;have:=Hg1.out;have:=Hu2.out;have:=Hg2.out;have:=Hu3.out;have:=Hg3.out;omega
theorem aw3(s:ByteArray)(k:Nat)(w:World)(hk:k<s.size)(hs:s.size≤1000000000)(h1:s[k].toNat=240)(hc:Str.inB s (k+1) 144 191=false) :
  Calls Tryz.prog 218 #[.string s,.int .i64 k] w fun e w'=>e=DecEnd (Str.refDec s k)∧∃ q,w'=w.drewN q:=by
 have Hr:=kept (Str.refDec_four_no s k hk 144 191 (by omega) (by omega) (by simp[*]) (by simp[*]) (.inl hc));have Hc:=kept hc;have hk':(k:Int)<s.size:=by omega
 obtain⟨u0,hu0⟩:∃ u:Int,(s[k].toNat:Int)=u:=⟨_,rfl⟩;have Hu0:=kept hu0;have hu00:0≤u0:=by omega
 have hu01:u0<256:=by have:=s[k].toNat_lt;omega
 have h1':u0=240:=by omega
 subst h1';clear h1 hc;go_enter Tryz.func218,Tryz.ntmps218;go_wp2_with fail;refine(azn _ _ _ _ (k+1) false _ (by omega) (by omega) Hc.out).mono ?_;rintro e w' ⟨rfl,rfl⟩;go_wp2
 go_ret2
 exact⟨by rw[Hr.out];rfl,0,rfl⟩
theorem aw5(s:ByteArray)(k:Nat)(w:World)(hk:k<s.size)(hs:s.size≤1000000000)(h1:s[k].toNat=240)(hc:Str.inB s (k+1) 144 191=true)(hd:Str.inB s (k+2) 128 191=false) :
  Calls Tryz.prog 218 #[.string s,.int .i64 k] w fun e w'=>e=DecEnd (Str.refDec s k)∧∃ q,w'=w.drewN q:=by
 have Hr:=kept (Str.refDec_four_no s k hk 144 191 (by omega) (by omega) (by simp[*]) (by simp[*]) (.inr (.inl hd)));have Hc:=kept hc;have Hd:=kept hd;have hk':(k:Int)<s.size:=by omega
 obtain⟨u0,hu0⟩:∃ u:Int,(s[k].toNat:Int)=u:=⟨_,rfl⟩;have Hu0:=kept hu0;have hu00:0≤u0:=by omega
 have hu01:u0<256:=by have:=s[k].toNat_lt;omega
 have h1':u0=240:=by omega
 subst h1';clear h1 hc hd;go_enter Tryz.func218,Tryz.ntmps218;go_wp2_with fail;refine(azn _ _ _ _ (k+1) true _ (by omega) (by omega) Hc.out).mono ?_;rintro e w' ⟨rfl,rfl⟩;go_wp2_with fail;refine(azn _ _ _ _ (k+2) false _ (by omega) (by omega) Hd.out).mono ?_;rintro e w' ⟨rfl,rfl⟩;go_wp2
 go_ret2
 exact⟨by rw[Hr.out];rfl,0,rfl⟩
theorem aw4(s:ByteArray)(k:Nat)(w:World)(hk:k<s.size)(hs:s.size≤1000000000)(h1:s[k].toNat=240)(hc:Str.inB s (k+1) 144 191=true)(hd:Str.inB s (k+2) 128 191=true)(he:Str.inB s (k+3) 128 191=false) :
  Calls Tryz.prog 218 #[.string s,.int .i64 k] w fun e w'=>e=DecEnd (Str.refDec s k)∧∃ q,w'=w.drewN q:=by
 have Hr:=kept (Str.refDec_four_no s k hk 144 191 (by omega) (by omega) (by simp[*]) (by simp[*]) (.inr (.inr he)));have Hc:=kept hc;have Hd:=kept hd;have He:=kept he;have hk':(k:Int)<s.size:=by omega
 obtain⟨u0,hu0⟩:∃ u:Int,(s[k].toNat:Int)=u:=⟨_,rfl⟩;have Hu0:=kept hu0;have hu00:0≤u0:=by omega
 have hu01:u0<256:=by have:=s[k].toNat_lt;omega
 have h1':u0=240:=by omega
 subst h1';clear h1 hc hd he;go_enter Tryz.func218,Tryz.ntmps218;go_wp2_with fail;refine(azn _ _ _ _ (k+1) true _ (by omega) (by omega) Hc.out).mono ?_;rintro e w' ⟨rfl,rfl⟩;go_wp2_with fail;refine(azn _ _ _ _ (k+2) true _ (by omega) (by omega) Hd.out).mono ?_;rintro e w' ⟨rfl,rfl⟩;go_wp2_with fail;refine(azn _ _ _ _ (k+3) false _ (by omega) (by omega) He.out).mono ?_;rintro e w' ⟨rfl,rfl⟩;go_wp2
 go_ret2
 exact⟨by rw[Hr.out];rfl,0,rfl⟩
theorem bw5(s:ByteArray)(k:Nat)(w:World)(hk:k<s.size)(hs:s.size≤1000000000)(h1:s[k].toNat=244)(hc:Str.inB s (k+1) 128 143=true)(hd:Str.inB s (k+2) 128 191=true)(he:Str.inB s (k+3) 128 191=true) :
  Calls Tryz.prog 218 #[.string s,.int .i64 k] w fun e w'=>e=DecEnd (Str.refDec s k)∧∃ q,w'=w.drewN q:=by
 have Hr:=kept (Str.refDec_four s k hk 128 143 (by omega) (by omega) (by simp[*]) (by simp[*]) hc hd he);have Hc:=kept hc;have Hd:=kept hd;have He:=kept he;have hk1:k+1<s.size:=(Str.inB_true hc).1;have hg1:=Str.get_lt s (k+1) hk1;have hk2:k+2<s.size:=(Str.inB_true hd).1;have hg2:=Str.get_lt s (k+2) hk2;have hk3:k+3<s.size:=(Str.inB_true he).1;have hg3:=Str.get_lt s (k+3) hk3;have hk':(k:Int)+3<s.size:=by omega
 have a0:=and7 s[k];have a1:=ajn s[k+1];have a2:=ajn s[k+2];have a3:=ajn s[k+3];obtain⟨u0,hu0⟩:∃ u:Int,(s[k].toNat:Int)=u:=⟨_,rfl⟩;have Hu0:=kept hu0;have hu00:0≤u0:=by omega
 have hu01:u0<256:=by have:=s[k].toNat_lt;omega
 obtain⟨u1,hu1⟩:∃ u:Int,(s[k+1].toNat:Int)=u:=⟨_,rfl⟩;have Hu1:=kept hu1;have hu10:0≤u1:=by omega
 have hu11:u1<256:=by have:=s[k+1].toNat_lt;omega
 obtain⟨u2,hu2⟩:∃ u:Int,(s[k+2].toNat:Int)=u:=⟨_,rfl⟩;have Hu2:=kept hu2;have hu20:0≤u2:=by omega
 have hu21:u2<256:=by have:=s[k+2].toNat_lt;omega
 obtain⟨u3,hu3⟩:∃ u:Int,(s[k+3].toNat:Int)=u:=⟨_,rfl⟩;have Hu3:=kept hu3;have hu30:0≤u3:=by omega
 have hu31:u3<256:=by have:=s[k+3].toNat_lt;omega
 rw[hu0]at a0;rw[hu1]at a1;rw[hu2]at a2;rw[hu3]at a3;have h1':u0=244:=by omega
 subst h1';have o1:bits .or .i64 (1048576) (u1%64*4096)=1048576+u1%64*4096:=by have:=aqc (4) (u1%64*4096) 262144 18 (by decide) (by omega) (by omega) (by omega) (by omega) (by omega);simpa using this
 have o2:bits .or .i64 (1048576+u1%64*4096) (u2%64*64)=1048576+u1%64*4096+u2%64*64:=by
  have:=aqc (4*64+u1%64) (u2%64*64) 4096 12 (by decide) (by omega) (by omega) (by omega) (by omega) (by omega)
  rwa [show(4*64+u1%64)*((4096:Nat):Int)=1048576+u1%64*4096 by omega]at this
 have o3:bits .or .i64 (1048576+u1%64*4096+u2%64*64) (u3%64)=1048576+u1%64*4096+u2%64*64+u3%64:=by
  have:=aqc (4*4096+u1%64*64+u2%64) (u3%64) 64 6 (by decide) (by omega) (by omega) (by omega) (by omega) (by omega)
  rwa [show(4*4096+u1%64*64+u2%64)*((64:Nat):Int)=1048576+u1%64*4096+u2%64*64 by omega]at this
 have Hg1:=kept hg1;clear hg1;have Hg2:=kept hg2;clear hg2;have Hg3:=kept hg3;clear hg3;clear h1 hc hd he;go_enter Tryz.func218,Tryz.ntmps218;go_wp2_with fail;refine(azn _ _ _ _ (k+1) true _ (by omega) (by omega) Hc.out).mono ?_;rintro e w' ⟨rfl,rfl⟩;go_wp2_with fail;refine(azn _ _ _ _ (k+2) true _ (by omega) (by omega) Hd.out).mono ?_;rintro e w' ⟨rfl,rfl⟩;go_wp2_with fail;refine(azn _ _ _ _ (k+3) true _ (by omega) (by omega) He.out).mono ?_;rintro e w' ⟨rfl,rfl⟩;go_wp2;have i1:(0:Int)≤(k:Int)+1:=by omega
 have v1:(k:Int)+1<s.size:=by omega
 have w1:IntKind.i64.wrap ((k:Int)+1)=(k:Int)+1:=IntWalk.i64_in _ (by omega);have n1:((k:Int)+1).toNat=k+1:=by omega
 have i2:(0:Int)≤(k:Int)+2:=by omega
 have v2:(k:Int)+2<s.size:=by omega
 have w2:IntKind.i64.wrap ((k:Int)+2)=(k:Int)+2:=IntWalk.i64_in _ (by omega);have n2:((k:Int)+2).toNat=k+2:=by omega
 have i3:(0:Int)≤(k:Int)+3:=by omega
 have v3:(k:Int)+3<s.size:=by omega
 have w3:IntKind.i64.wrap ((k:Int)+3)=(k:Int)+3:=IntWalk.i64_in _ (by omega);have n3:((k:Int)+3).toNat=k+3:=by omega
 have s1:IntKind.i64.wrap (244%8*262144)=244%8*262144:=IntWalk.i64_in _ (by omega);have s2:IntKind.i64.wrap (u1%64*4096)=u1%64*4096:=IntWalk.i64_in _ (by omega);have s3:IntKind.i64.wrap (u2%64*64)=u2%64*64:=IntWalk.i64_in _ (by omega)
 go_region
 clear w1 n1 w2 n2 w3 n3 s1 s2 s3;go_wp2
 go_ret2
 refine⟨?_,_,rfl⟩;rw[Hr.out];refine ajx _ _ _ _ ?_ rfl;have:=Hu0.out;have:=Hu1.out;have:=Hg1.out;have:=Hu2.out;have:=Hg2.out;have:=Hu3.out;have:=Hg3.out;omega
theorem aw0(s:ByteArray)(k:Nat)(w:World)(hk:k<s.size)(hs:s.size≤1000000000)(h1:s[k].toNat=244)(hc:Str.inB s (k+1) 128 143=false) :
  Calls Tryz.prog 218 #[.string s,.int .i64 k] w fun e w'=>e=DecEnd (Str.refDec s k)∧∃ q,w'=w.drewN q:=by
 have Hr:=kept (Str.refDec_four_no s k hk 128 143 (by omega) (by omega) (by simp[*]) (by simp[*]) (.inl hc));have Hc:=kept hc;have hk':(k:Int)<s.size:=by omega
 obtain⟨u0,hu0⟩:∃ u:Int,(s[k].toNat:Int)=u:=⟨_,rfl⟩;have Hu0:=kept hu0;have hu00:0≤u0:=by omega
 have hu01:u0<256:=by have:=s[k].toNat_lt;omega
 have h1':u0=244:=by omega
 subst h1';clear h1 hc;go_enter Tryz.func218,Tryz.ntmps218;go_wp2_with fail;refine(azn _ _ _ _ (k+1) false _ (by omega) (by omega) Hc.out).mono ?_;rintro e w' ⟨rfl,rfl⟩;go_wp2
 go_ret2
 exact⟨by rw[Hr.out];rfl,0,rfl⟩
theorem aw7(s:ByteArray)(k:Nat)(w:World)(hk:k<s.size)(hs:s.size≤1000000000)(h1:s[k].toNat=244)(hc:Str.inB s (k+1) 128 143=true)(hd:Str.inB s (k+2) 128 191=false) :
  Calls Tryz.prog 218 #[.string s,.int .i64 k] w fun e w'=>e=DecEnd (Str.refDec s k)∧∃ q,w'=w.drewN q:=by
 have Hr:=kept (Str.refDec_four_no s k hk 128 143 (by omega) (by omega) (by simp[*]) (by simp[*]) (.inr (.inl hd)));have Hc:=kept hc;have Hd:=kept hd;have hk':(k:Int)<s.size:=by omega
 obtain⟨u0,hu0⟩:∃ u:Int,(s[k].toNat:Int)=u:=⟨_,rfl⟩;have Hu0:=kept hu0;have hu00:0≤u0:=by omega
 have hu01:u0<256:=by have:=s[k].toNat_lt;omega
 have h1':u0=244:=by omega
 subst h1';clear h1 hc hd;go_enter Tryz.func218,Tryz.ntmps218;go_wp2_with fail;refine(azn _ _ _ _ (k+1) true _ (by omega) (by omega) Hc.out).mono ?_;rintro e w' ⟨rfl,rfl⟩;go_wp2_with fail;refine(azn _ _ _ _ (k+2) false _ (by omega) (by omega) Hd.out).mono ?_;rintro e w' ⟨rfl,rfl⟩;go_wp2
 go_ret2
 exact⟨by rw[Hr.out];rfl,0,rfl⟩
theorem awt(s:ByteArray)(k:Nat)(w:World)(hk:k<s.size)(hs:s.size≤1000000000)(h1:s[k].toNat=244)(hc:Str.inB s (k+1) 128 143=true)(hd:Str.inB s (k+2) 128 191=true)(he:Str.inB s (k+3) 128 191=false) :
  Calls Tryz.prog 218 #[.string s,.int .i64 k] w fun e w'=>e=DecEnd (Str.refDec s k)∧∃ q,w'=w.drewN q:=by
 have Hr:=kept (Str.refDec_four_no s k hk 128 143 (by omega) (by omega) (by simp[*]) (by simp[*]) (.inr (.inr he)));have Hc:=kept hc;have Hd:=kept hd;have He:=kept he;have hk':(k:Int)<s.size:=by omega
 obtain⟨u0,hu0⟩:∃ u:Int,(s[k].toNat:Int)=u:=⟨_,rfl⟩;have Hu0:=kept hu0;have hu00:0≤u0:=by omega
 have hu01:u0<256:=by have:=s[k].toNat_lt;omega
 have h1':u0=244:=by omega
 subst h1';clear h1 hc hd he;go_enter Tryz.func218,Tryz.ntmps218;go_wp2_with fail;refine(azn _ _ _ _ (k+1) true _ (by omega) (by omega) Hc.out).mono ?_;rintro e w' ⟨rfl,rfl⟩;go_wp2_with fail;refine(azn _ _ _ _ (k+2) true _ (by omega) (by omega) Hd.out).mono ?_;rintro e w' ⟨rfl,rfl⟩;go_wp2_with fail;refine(azn _ _ _ _ (k+3) false _ (by omega) (by omega) He.out).mono ?_;rintro e w' ⟨rfl,rfl⟩;go_wp2
 go_ret2
 exact⟨by rw[Hr.out];rfl,0,rfl⟩
theorem bwi(s:ByteArray)(k:Nat)(w:World)(hk:k<s.size)(hs:s.size≤1000000000)(h1:240≤s[k].toNat)(h2:s[k].toNat≤244)(h3:s[k].toNat≠240)(h4:s[k].toNat≠244)(hc:Str.inB s (k+1) 128 191=true)(hd:Str.inB s (k+2) 128 191=true)(he:Str.inB s (k+3) 128 191=true) :
  Calls Tryz.prog 218 #[.string s,.int .i64 k] w fun e w'=>e=DecEnd (Str.refDec s k)∧∃ q,w'=w.drewN q:=by
 have Hr:=kept (Str.refDec_four s k hk 128 191 (by omega) (by omega) (by simp[*]) (by simp[*]) hc hd he);have Hc:=kept hc;have Hd:=kept hd;have He:=kept he;have hk1:k+1<s.size:=(Str.inB_true hc).1;have hg1:=Str.get_lt s (k+1) hk1;have hk2:k+2<s.size:=(Str.inB_true hd).1;have hg2:=Str.get_lt s (k+2) hk2;have hk3:k+3<s.size:=(Str.inB_true he).1;have hg3:=Str.get_lt s (k+3) hk3;have hk':(k:Int)+3<s.size:=by omega
 have a0:=and7 s[k];have a1:=ajn s[k+1];have a2:=ajn s[k+2];have a3:=ajn s[k+3];obtain⟨u0,hu0⟩:∃ u:Int,(s[k].toNat:Int)=u:=⟨_,rfl⟩;have Hu0:=kept hu0;have hu00:0≤u0:=by omega
 have hu01:u0<256:=by have:=s[k].toNat_lt;omega
 obtain⟨u1,hu1⟩:∃ u:Int,(s[k+1].toNat:Int)=u:=⟨_,rfl⟩;have Hu1:=kept hu1;have hu10:0≤u1:=by omega
 have hu11:u1<256:=by have:=s[k+1].toNat_lt;omega
 obtain⟨u2,hu2⟩:∃ u:Int,(s[k+2].toNat:Int)=u:=⟨_,rfl⟩;have Hu2:=kept hu2;have hu20:0≤u2:=by omega
 have hu21:u2<256:=by have:=s[k+2].toNat_lt;omega
 obtain⟨u3,hu3⟩:∃ u:Int,(s[k+3].toNat:Int)=u:=⟨_,rfl⟩;have Hu3:=kept hu3;have hu30:0≤u3:=by omega
 have hu31:u3<256:=by have:=s[k+3].toNat_lt;omega
 rw[hu0]at a0;rw[hu1]at a1;rw[hu2]at a2;rw[hu3]at a3;have h1':240≤u0:=by omega
 have h2':u0≤244:=by omega
 have h3':(u0==240)=false:=by simp;omega
 have h4':(u0==244)=false:=by simp;omega
 have h5':¬u0=240:=by omega
 have h6':¬u0=244:=by omega
 have o1:bits .or .i64 (u0%8*262144) (u1%64*4096)=u0%8*262144+u1%64*4096:=by have:=aqc ((u0%8)) (u1%64*4096) 262144 18 (by decide) (by omega) (by omega) (by omega) (by omega) (by omega);simpa using this
 have o2:bits .or .i64 (u0%8*262144+u1%64*4096) (u2%64*64)=u0%8*262144+u1%64*4096+u2%64*64:=by
  have:=aqc ((u0%8)*64+u1%64) (u2%64*64) 4096 12 (by decide) (by omega) (by omega) (by omega) (by omega) (by omega)
  rwa [show((u0%8)*64+u1%64)*((4096:Nat):Int)=u0%8*262144+u1%64*4096 by omega]at this
 have o3:bits .or .i64 (u0%8*262144+u1%64*4096+u2%64*64) (u3%64)=u0%8*262144+u1%64*4096+u2%64*64+u3%64:=by
  have:=aqc ((u0%8)*4096+u1%64*64+u2%64) (u3%64) 64 6 (by decide) (by omega) (by omega) (by omega) (by omega) (by omega)
  rwa [show((u0%8)*4096+u1%64*64+u2%64)*((64:Nat):Int)=u0%8*262144+u1%64*4096+u2%64*64 by omega]at this
 have Hg1:=kept hg1;clear hg1;have Hg2:=kept hg2;clear hg2;have Hg3:=kept hg3;clear hg3;clear h1 h2 h3 h4 hc hd he;go_enter Tryz.func218,Tryz.ntmps218;go_wp2_with fail;refine(azn _ _ _ _ (k+1) true _ (by omega) (by omega) Hc.out).mono ?_;rintro e w' ⟨rfl,rfl⟩;go_wp2_with fail;refine(azn _ _ _ _ (k+2) true _ (by omega) (by omega) Hd.out).mono ?_;rintro e w' ⟨rfl,rfl⟩;go_wp2_with fail;refine(azn _ _ _ _ (k+3) true _ (by omega) (by omega) He.out).mono ?_;rintro e w' ⟨rfl,rfl⟩;go_wp2;have i1:(0:Int)≤(k:Int)+1:=by omega
 have v1:(k:Int)+1<s.size:=by omega
 have w1:IntKind.i64.wrap ((k:Int)+1)=(k:Int)+1:=IntWalk.i64_in _ (by omega);have n1:((k:Int)+1).toNat=k+1:=by omega
 have i2:(0:Int)≤(k:Int)+2:=by omega
 have v2:(k:Int)+2<s.size:=by omega
 have w2:IntKind.i64.wrap ((k:Int)+2)=(k:Int)+2:=IntWalk.i64_in _ (by omega);have n2:((k:Int)+2).toNat=k+2:=by omega
 have i3:(0:Int)≤(k:Int)+3:=by omega
 have v3:(k:Int)+3<s.size:=by omega
 have w3:IntKind.i64.wrap ((k:Int)+3)=(k:Int)+3:=IntWalk.i64_in _ (by omega);have n3:((k:Int)+3).toNat=k+3:=by omega
 have s1:IntKind.i64.wrap (u0%8*262144)=u0%8*262144:=IntWalk.i64_in _ (by omega);have s2:IntKind.i64.wrap (u1%64*4096)=u1%64*4096:=IntWalk.i64_in _ (by omega);have s3:IntKind.i64.wrap (u2%64*64)=u2%64*64:=IntWalk.i64_in _ (by omega)
 go_region
 clear w1 n1 w2 n2 w3 n3 s1 s2 s3;go_wp2
 go_ret2
 refine⟨?_,_,rfl⟩;rw[Hr.out];refine ajx _ _ _ _ ?_ rfl;have:=Hu0.out;have:=Hu1.out;have:=Hg1.out;have:=Hu2.out;have:=Hg2.out;have:=Hu3.out;have:=Hg3.out;omega
theorem aw6(s:ByteArray)(k:Nat)(w:World)(hk:k<s.size)(hs:s.size≤1000000000)(h1:240≤s[k].toNat)(h2:s[k].toNat≤244)(h3:s[k].toNat≠240)(h4:s[k].toNat≠244)(hc:Str.inB s (k+1) 128 191=false) :
  Calls Tryz.prog 218 #[.string s,.int .i64 k] w fun e w'=>e=DecEnd (Str.refDec s k)∧∃ q,w'=w.drewN q:=by
 have Hr:=kept (Str.refDec_four_no s k hk 128 191 (by omega) (by omega) (by simp[*]) (by simp[*]) (.inl hc));have Hc:=kept hc;have hk':(k:Int)<s.size:=by omega
 obtain⟨u0,hu0⟩:∃ u:Int,(s[k].toNat:Int)=u:=⟨_,rfl⟩;have Hu0:=kept hu0;have hu00:0≤u0:=by omega
 have hu01:u0<256:=by have:=s[k].toNat_lt;omega
 have h1':240≤u0:=by omega
 have h2':u0≤244:=by omega
 have h3':(u0==240)=false:=by simp;omega
 have h4':(u0==244)=false:=by simp;omega
 have h5':¬u0=240:=by omega
 have h6':¬u0=244:=by omega
 clear h1 h2 h3 h4 hc;go_enter Tryz.func218,Tryz.ntmps218;go_wp2_with fail;refine(azn _ _ _ _ (k+1) false _ (by omega) (by omega) Hc.out).mono ?_;rintro e w' ⟨rfl,rfl⟩;go_wp2
 go_ret2
 exact⟨by rw[Hr.out];rfl,0,rfl⟩
theorem aww(s:ByteArray)(k:Nat)(w:World)(hk:k<s.size)(hs:s.size≤1000000000)(h1:240≤s[k].toNat)(h2:s[k].toNat≤244)(h3:s[k].toNat≠240)(h4:s[k].toNat≠244)(hc:Str.inB s (k+1) 128 191=true)(hd:Str.inB s (k+2) 128 191=false) :
  Calls Tryz.prog 218 #[.string s,.int .i64 k] w fun e w'=>e=DecEnd (Str.refDec s k)∧∃ q,w'=w.drewN q:=by
 have Hr:=kept (Str.refDec_four_no s k hk 128 191 (by omega) (by omega) (by simp[*]) (by simp[*]) (.inr (.inl hd)));have Hc:=kept hc;have Hd:=kept hd;have hk':(k:Int)<s.size:=by omega
 obtain⟨u0,hu0⟩:∃ u:Int,(s[k].toNat:Int)=u:=⟨_,rfl⟩;have Hu0:=kept hu0;have hu00:0≤u0:=by omega
 have hu01:u0<256:=by have:=s[k].toNat_lt;omega
 have h1':240≤u0:=by omega
 have h2':u0≤244:=by omega
 have h3':(u0==240)=false:=by simp;omega
 have h4':(u0==244)=false:=by simp;omega
 have h5':¬u0=240:=by omega
 have h6':¬u0=244:=by omega
 clear h1 h2 h3 h4 hc hd;go_enter Tryz.func218,Tryz.ntmps218;go_wp2_with fail;refine(azn _ _ _ _ (k+1) true _ (by omega) (by omega) Hc.out).mono ?_;rintro e w' ⟨rfl,rfl⟩;go_wp2_with fail;refine(azn _ _ _ _ (k+2) false _ (by omega) (by omega) Hd.out).mono ?_;rintro e w' ⟨rfl,rfl⟩;go_wp2
 go_ret2
 exact⟨by rw[Hr.out];rfl,0,rfl⟩
theorem aw2(s:ByteArray)(k:Nat)(w:World)(hk:k<s.size)(hs:s.size≤1000000000)(h1:240≤s[k].toNat)(h2:s[k].toNat≤244)(h3:s[k].toNat≠240)(h4:s[k].toNat≠244)(hc:Str.inB s (k+1) 128 191=true)(hd:Str.inB s (k+2) 128 191=true)(he:Str.inB s (k+3) 128 191=false) :
  Calls Tryz.prog 218 #[.string s,.int .i64 k] w fun e w'=>e=DecEnd (Str.refDec s k)∧∃ q,w'=w.drewN q:=by
 have Hr:=kept (Str.refDec_four_no s k hk 128 191 (by omega) (by omega) (by simp[*]) (by simp[*]) (.inr (.inr he)));have Hc:=kept hc;have Hd:=kept hd;have He:=kept he;have hk':(k:Int)<s.size:=by omega
 obtain⟨u0,hu0⟩:∃ u:Int,(s[k].toNat:Int)=u:=⟨_,rfl⟩;have Hu0:=kept hu0;have hu00:0≤u0:=by omega
 have hu01:u0<256:=by have:=s[k].toNat_lt;omega
 have h1':240≤u0:=by omega
 have h2':u0≤244:=by omega
 have h3':(u0==240)=false:=by simp;omega
 have h4':(u0==244)=false:=by simp;omega
 have h5':¬u0=240:=by omega
 have h6':¬u0=244:=by omega
 clear h1 h2 h3 h4 hc hd he;go_enter Tryz.func218,Tryz.ntmps218;go_wp2_with fail;refine(azn _ _ _ _ (k+1) true _ (by omega) (by omega) Hc.out).mono ?_;rintro e w' ⟨rfl,rfl⟩;go_wp2_with fail;refine(azn _ _ _ _ (k+2) true _ (by omega) (by omega) Hd.out).mono ?_;rintro e w' ⟨rfl,rfl⟩;go_wp2_with fail;refine(azn _ _ _ _ (k+3) false _ (by omega) (by omega) He.out).mono ?_;rintro e w' ⟨rfl,rfl⟩;go_wp2
 go_ret2
 exact⟨by rw[Hr.out];rfl,0,rfl⟩
theorem cqy(s:ByteArray)(k:Nat)(w:World)(hk:k<s.size)(h1:128≤s[k].toNat)(h2:s[k].toNat<194) :
  Calls Tryz.prog 218 #[.string s,.int .i64 k] w fun e w'=>e=DecEnd (Str.refDec s k)∧∃ q,w'=w.drewN q:=by
 have Hr:=kept (Str.refDec_lead s k hk (.inl ⟨h1,h2⟩));have hk':(k:Int)<s.size:=by omega
 obtain⟨u0,hu0⟩:∃ u:Int,(s[k].toNat:Int)=u:=⟨_,rfl⟩;have Hu0:=kept hu0;have hu00:0≤u0:=by omega
 have hu01:u0<256:=by have:=s[k].toNat_lt;omega
 have h1':128≤u0:=by omega
 have h2':u0<194:=by omega
 clear h1 h2;go_enter Tryz.func218,Tryz.ntmps218;go_wp2
 go_ret2
 exact⟨by rw[Hr.out];rfl,0,rfl⟩
theorem byx(s:ByteArray)(k:Nat)(w:World)(hk:k<s.size)(h1:245≤s[k].toNat) :
  Calls Tryz.prog 218 #[.string s,.int .i64 k] w fun e w'=>e=DecEnd (Str.refDec s k)∧∃ q,w'=w.drewN q:=by
 have Hr:=kept (Str.refDec_lead s k hk (.inr h1));have hk':(k:Int)<s.size:=by omega
 obtain⟨u0,hu0⟩:∃ u:Int,(s[k].toNat:Int)=u:=⟨_,rfl⟩;have Hu0:=kept hu0;have hu00:0≤u0:=by omega
 have hu01:u0<256:=by have:=s[k].toNat_lt;omega
 have h1':245≤u0:=by omega
 clear h1;go_enter Tryz.func218,Tryz.ntmps218;go_wp2
 go_ret2
 exact⟨by rw[Hr.out];rfl,0,rfl⟩
theorem azl(b:Bool):b=true∨b=false:=by cases b<;>simp
theorem decode_any(s:ByteArray)(k:Nat)(w:World)(hs:s.size≤1000000000) :
  Calls Tryz.prog 218 #[.string s,.int .i64 k] w fun e w'=>e=DecEnd (Str.refDec s k)∧∃ q,w'=w.drewN q:=by
 by_cases hk:k<s.size
 ·have hb:=s[k].toNat_lt;by_cases h1:s[k].toNat<128
  ·exact by9 s k w hk h1
  by_cases h2:s[k].toNat<194
  ·exact cqy s k w hk (by omega) h2
  by_cases h3:s[k].toNat≤223
  ·rcases azl (Str.inB s (k+1) 128 191)with hc|hc
   ·exact cwz s k w hk hs (by omega) h3 hc
   ·exact byc s k w hk hs (by omega) h3 hc
  by_cases h4:s[k].toNat≤239
  ·by_cases ha:s[k].toNat=224
   ·rcases azl (Str.inB s (k+1) 160 191)with hc|hc
    ·rcases azl (Str.inB s (k+2) 128 191)with hd|hd
     ·exact bjy s k w hk hs ha hc hd
     ·exact ak4 s k w hk hs ha hc hd
    ·exact ako s k w hk hs ha hc
   ·by_cases hbb:s[k].toNat=237
    ·rcases azl (Str.inB s (k+1) 128 159)with hc|hc
     ·rcases azl (Str.inB s (k+2) 128 191)with hd|hd
      ·exact bji s k w hk hs hbb hc hd
      ·exact awg s k w hk hs hbb hc hd
     ·exact ak7 s k w hk hs hbb hc
    ·rcases azl (Str.inB s (k+1) 128 191)with hc|hc
     ·rcases azl (Str.inB s (k+2) 128 191)with hd|hd
      ·exact bjj s k w hk hs (by omega) h4 ha hbb hc hd
      ·exact aky s k w hk hs (by omega) h4 ha hbb hc hd
     ·exact akp s k w hk hs (by omega) h4 ha hbb hc
  by_cases h5:s[k].toNat≤244
  ·by_cases ha:s[k].toNat=240
   ·rcases azl (Str.inB s (k+1) 144 191)with hc|hc
    ·rcases azl (Str.inB s (k+2) 128 191)with hd|hd
     ·rcases azl (Str.inB s (k+3) 128 191)with he|he
      ·exact bw2 s k w hk hs ha hc hd he
      ·exact aw4 s k w hk hs ha hc hd he
     ·exact aw5 s k w hk hs ha hc hd
    ·exact aw3 s k w hk hs ha hc
   ·by_cases hbb:s[k].toNat=244
    ·rcases azl (Str.inB s (k+1) 128 143)with hc|hc
     ·rcases azl (Str.inB s (k+2) 128 191)with hd|hd
      ·rcases azl (Str.inB s (k+3) 128 191)with he|he
       ·exact bw5 s k w hk hs hbb hc hd he
       ·exact awt s k w hk hs hbb hc hd he
      ·exact aw7 s k w hk hs hbb hc hd
     ·exact aw0 s k w hk hs hbb hc
    ·rcases azl (Str.inB s (k+1) 128 191)with hc|hc
     ·rcases azl (Str.inB s (k+2) 128 191)with hd|hd
      ·rcases azl (Str.inB s (k+3) 128 191)with he|he
       ·exact bwi s k w hk hs (by omega) h5 ha hbb hc hd he
       ·exact aw2 s k w hk hs (by omega) h5 ha hbb hc hd he
      ·exact aww s k w hk hs (by omega) h5 ha hbb hc hd
     ·exact aw6 s k w hk hs (by omega) h5 ha hbb hc
  exact byx s k w hk (by omega)
 ·exact cwf s k w hk
theorem aqx(s:ByteArray)(k c n:Nat)(w:World)(hs:s.size≤1000000000)(h:Str.refDec s k=(c,n)) :
  Calls Tryz.prog 218 #[.string s,.int .i64 k] w fun e w'=>e=.returned (.tuple #[.int .i64 c,.int .i64 n])∧Below w.heap.size w w':=by
 refine(decode_any s k w hs).mono fun e w' ⟨he,q,hw⟩=>?_
 subst hw;exact⟨by rw[he,h];rfl,below_drewN (Below.refl _ _) _⟩
theorem av6(s:ByteArray)(w:World)(hs:s.size≤2000000) :
  Calls Tryz.prog 196 #[.string s] w fun e w'=>e=.returned (.bool (Str.valid s.data.toList))∧Below w.heap.size w w':=by
 by_cases h4:s.size≤4096
 ·have Hv:=kept (show Str.valid s.data.toList=Lib.validD s.data.toList by simp[Str.valid,h4]);go_enter Tryz.func196,Tryz.ntmps196;go_wp2
  go_loopw [3] (fun i wr=>∃ k:Nat,k≤s.size∧i=.int .i64 k∧Lib.validD (s.data.toList.drop k)=Lib.validD s.data.toList∧Below w.heap.size w wr) (fun i _=>s.size-(intOf i).toNat)
  case atStart=>exact⟨0,by omega,rfl,rfl,Below.refl _ _⟩
  case round =>
   obtain⟨k,hk,rfl,hval,hbel⟩:=hrel;have Hval:=kept hval;have Hl:=kept hbel;clear hval hbel;by_cases hlt:k<s.size
   ·have hlt':(k:Int)<s.size:=by omega
    have Hst:=kept (Str.valid_at s k hlt);have hwd:=Str.dec_width s k hlt;generalize hd:Utf8.decode s k=d at Hst hwd;obtain⟨c,n⟩:=d;rcases Str.refDec_cases s k hlt with⟨hb,he⟩|⟨hb,he⟩
    ·have He:=kept he;rw[hd]at hb;have Hf:=kept (show Lib.validD s.data.toList=false by rw[←Hval.out,Hst.out,if_pos hb]);clear hb he hd hwd;go_wp2_with fail;refine(aqx _ _ 0 0 _ (by omega) He.out).mono ?_;rintro e w1 ⟨rfl,b1⟩;have B1:=kept b1;clear b1;go_wp2
     go_ret
     exact⟨az9 (by rw[Hv.out,Hf.out]),bthen Hl.out B1.out⟩
    ·rw[hd]at hb he;have He:=kept he;have Hf:=kept (show Lib.validD (s.data.toList.drop (k+n))=Lib.validD s.data.toList by rw[←Hval.out,Hst.out,if_neg hb]);have hw1:1≤n:=hwd.1;have hw2:(k:Int)+n≤s.size:=by have:=hwd.2;simp only at this;omega
     have hnz:((n:Int)==0)=false:=by simp;omega
     have hnz2:¬(n:Int)=0:=by omega
     clear hb he hd hwd;go_wp2_with fail;refine(aqx _ _ c n _ (by omega) He.out).mono ?_;rintro e w1 ⟨rfl,b1⟩;have B1:=kept b1;clear b1;go_wp2
     go_roundw
     case rel=>exact⟨k+n,by omega,by go_num,Hf.out,bthen Hl.out B1.out⟩
     case measure=>simp[intOf];omega
   ·have Hf:=kept (show Lib.validD s.data.toList=true by rw[←Hval.out,Zw (by simp;omega)];rfl);go_wp2
    go_ret
    exact⟨az9 (by rw[Hv.out,Hf.out]),Hl.out⟩
 ·have Hv:=kept (show Str.valid s.data.toList=false by simp[Str.valid];omega);go_enter Tryz.func196,Tryz.ntmps196;go_wp2
  go_ret
  exact⟨az9 Hv.out.symm,Below.refl _ _⟩
theorem bxa(s:ByteArray)(w:World)(hs:s.size≤2000000)(g:Lib.Utf8Tabs 0 1 w) :
  Calls Tryz.prog 103 #[.string s] w fun e w'=>e=.returned (.bool (Str.valid s.data.toList))∧Below w.heap.size w w':=by
 by_cases h4:s.size≤4096
 ·have Hv:=kept (show Str.valid s.data.toList=Lib.validD s.data.toList by simp[Str.valid,h4]);have G:=kept g;clear g;go_enter Tryz.func103,Tryz.ntmps103;go_wp2_with fail;refine(Tryz.utf8_ValidString s _ (by omega) G.out).mono ?_;rintro e w1 ⟨rfl,b1⟩;have B1:=kept b1;clear b1;go_wp2
  go_ret
  exact⟨az9 Hv.out.symm,B1.out⟩
 ·have Hv:=kept (show Str.valid s.data.toList=false by simp[Str.valid];omega);go_enter Tryz.func103,Tryz.ntmps103;go_wp2
  go_ret
  exact⟨az9 Hv.out.symm,Below.refl _ _⟩
theorem cvn(s:List UInt8)(w:World)(g:Lib.Utf8Tabs 0 1 w) :
  Calls Tryz.prog 153 #[.string ⟨s.toArray⟩] w fun e w'=>e=.returned (.int .i64 (Val.textZ s))∧Below w.heap.size w w':=by
 by_cases h:4096<s.length
 ·have h':(4096:Int)<s.length:=by omega
  have HR:=kept (show(3:Int)=Val.textZ s by unfold Val.textZ;rw[if_pos h]);clear h g;go_enter Tryz.func153,Tryz.ntmps153;go_wp2
  go_ret
  exact⟨aqg HR.out,Below.refl _ _⟩
 ·have h':¬(4096:Int)<s.length:=by omega
  have Hv:=kept (bxa ⟨s.toArray⟩ w (by rw[size_mk];omega) g);rw[show(⟨s.toArray⟩:ByteArray).data.toList=s from rfl]at Hv;have HR:=kept (show(if Str.valid s then(0:Int)else 1)=Val.textZ s by unfold Val.textZ;rw[if_neg h]);clear h g;rcases azl (Str.valid s)with hv|hv;all_goals
   rw[hv]at Hv HR;clear hv;go_enter Tryz.func153,Tryz.ntmps153;go_wp2_with fail;(with_reducible refine(Hv.out).mono ?_);rintro e w1 ⟨rfl,b1⟩
   have B1:=kept b1;clear b1;go_wp2
   go_ret
   exact⟨aqg HR.out,B1.out⟩
theorem bjg(s:List UInt8)(w:World) :
  Calls Tryz.prog 195 #[.string ⟨s.toArray⟩] w fun e w'=>e=.returned (.int .i64 (Val.textZ s))∧Below w.heap.size w w':=by
 by_cases h:4096<s.length
 ·have h':(4096:Int)<s.length:=by omega
  have HR:=kept (show(3:Int)=Val.textZ s by unfold Val.textZ;rw[if_pos h]);clear h;go_enter Tryz.func195,Tryz.ntmps195;go_wp2
  go_ret
  exact⟨aqg HR.out,Below.refl _ _⟩
 ·have h':¬(4096:Int)<s.length:=by omega
  have Hv:=kept (av6 ⟨s.toArray⟩ w (by rw[size_mk];omega));rw[show(⟨s.toArray⟩:ByteArray).data.toList=s from rfl]at Hv;have HR:=kept (show(if Str.valid s then(0:Int)else 1)=Val.textZ s by unfold Val.textZ;rw[if_neg h]);clear h;rcases azl (Str.valid s)with hv|hv;all_goals
   rw[hv]at Hv HR;clear hv;go_enter Tryz.func195,Tryz.ntmps195;go_wp2_with fail;(with_reducible refine(Hv.out).mono ?_);rintro e w1 ⟨rfl,b1⟩
   have B1:=kept b1;clear b1;go_wp2
   go_ret
   exact⟨aqg HR.out,B1.out⟩
set_option maxRecDepth 100000 in
theorem bws(k n:Int)(s:List UInt8)(a b:Option Addr)(ni ca nk cb:Nat)(w:World) :
  Calls Tryz.prog 151 #[.agg #[.int .i64 k,.int .i64 n,.string ⟨s.toArray⟩,.slice a ni ca,.slice b nk cb]] w fun e w'=>e=.returned (.bool (Val.shapedB k n s ni nk))∧Below w.heap.size w w':=by
 obtain⟨R,hR⟩:=Ex (Val.shapedB k n s ni nk);rw[hR];have HR:=kept hR;clear hR;go_enter Tryz.func151,Tryz.ntmps151;go_wp2;all_goals go_ret
 all_goals refine⟨az9 ?_,ball w _⟩
 all_goals rw[←HR.out]
 all_goals unfold Val.shapedB
 all_goals (try simp only[ZC,Zu,Zab,ne_eq,ZS,YC,Zc,Zam,Zq,YW,bne_eq_false_iff_eq]at *)
 all_goals (rw[Yf];simp only[Zc,ZS,Zq,ZC,Zab,ne_eq,Zk,false_iff,true_iff,iff_true,iff_false])
 all_goals rw[show((if k=5 then nk==ni else nk==0)=true)=((k=5∧nk=ni)∨(¬k=5∧nk=0))from by by_cases h:k=5<;>simp[h]]
 all_goals (by_cases hs:s=[]<;>simp only[hs,or_true,or_false,true_and,and_true,Yi,Yu,false_and,and_false]at*<;>first|omega|contradiction|(exfalso;simp_all;done))
set_option maxRecDepth 100000 in
theorem bzu(k n:Int)(s:List UInt8)(a b:Option Addr)(ni ca nk cb:Nat)(w:World) :
  Calls Tryz.prog 193 #[.agg #[.int .i64 k,.int .i64 n,.string ⟨s.toArray⟩,.slice a ni ca,.slice b nk cb]] w fun e w'=>e=.returned (.bool (Val.shapedB k n s ni nk))∧Below w.heap.size w w':=by
 obtain⟨R,hR⟩:=Ex (Val.shapedB k n s ni nk);rw[hR];have HR:=kept hR;clear hR;go_enter Tryz.func193,Tryz.ntmps193;go_wp2;all_goals go_ret
 all_goals refine⟨az9 ?_,ball w _⟩
 all_goals rw[←HR.out]
 all_goals unfold Val.shapedB
 all_goals (try simp only[ZC,Zu,Zab,ne_eq,ZS,YC,Zc,Zam,Zq,YW,bne_eq_false_iff_eq]at *)
 all_goals (rw[Yf];simp only[Zc,ZS,Zq,ZC,Zab,ne_eq,Zk,false_iff,true_iff,iff_true,iff_false])
 all_goals rw[show((if k=5 then nk==ni else nk==0)=true)=((k=5∧nk=ni)∨(¬k=5∧nk=0))from by by_cases h:k=5<;>simp[h]]
 all_goals (by_cases hs:s=[]<;>simp only[hs,or_true,or_false,true_and,and_true,Yi,Yu,false_and,and_false]at*<;>first|omega|contradiction|(exfalso;simp_all;done))
theorem ax8(n:Int)(w:World) :
  Calls Tryz.prog 152 #[.int .i64 n] w fun e w'=>e=.returned (.bool (decide (-9007199254740992≤n∧n≤9007199254740992)))∧w'=w:=by
 go_enter Tryz.func152,Tryz.ntmps152;go_wp2;all_goals go_ret
 all_goals refine⟨az9 ?_,rfl⟩
 all_goals (rw[Yf];simp only[Zc,Zq,Zk,false_iff,true_iff,iff_true,iff_false]at *;try omega)
theorem akn(n:Int)(w:World) :
  Calls Tryz.prog 194 #[.int .i64 n] w fun e w'=>e=.returned (.bool (decide (-9007199254740992≤n∧n≤9007199254740992)))∧w'=w:=by
 go_enter Tryz.func194,Tryz.ntmps194;go_wp2;all_goals go_ret
 all_goals refine⟨az9 ?_,rfl⟩
 all_goals (rw[Yf];simp only[Zc,Zq,Zk,false_iff,true_iff,iff_true,iff_false]at *;try omega)
end Go.Proofs.YtdgcbckcameggadGreatDoor

namespace Go.Proofs.YtdgcbckcameggadGreatDoor
namespace Str
open Go.Lib
def hexv(b:UInt8):Int:=if 48≤b.toNat∧b.toNat≤57 then b.toNat-48 else if 97≤b.toNat∧b.toNat≤102 then b.toNat-87 else -1
def isHex(b:UInt8):Bool:=decide (0≤hexv b)
def hexN:Nat→List UInt8→Nat
 |0,_=>0
 |_,[]=>0
 |m+1,b::l=>if isHex b then hexN m l+1 else 0
def hexC(n:Nat)(l:List UInt8):Nat:=(l.take n).foldl (fun c b=>16*c+(hexv b).toNat) 0
def point(l:List UInt8):Nat×Nat×Int:=
 if hexN 6 l=l.length then(0,0,40)
 else if l.getD (hexN 6 l) 0≠125∨hexN 6 l=0∨(1<hexN 6 l∧l.getD 0 0=48)∨Utf8.valid (hexC (hexN 6 l) l)=false then(0,0,2)
 else(hexC (hexN 6 l) l,hexN 6 l+1,0)
def escp(l:List UInt8):Nat×Nat×Int:=
 match l with
 |[]=>(0,0,40)
 |b::t =>
  if b=110 then(10,1,0)else if b=114 then(13,1,0)else if b=116 then(9,1,0)else if b=34∨b=92 then(b.toNat,1,0)
  else if b=117 then(match t with
   |[]=>(0,0,40)
   |c::u=>if c=123 then((point u).1,(point u).2.1+2,(point u).2.2)else(0,0,2))
  else(0,0,2)
def enc(c:Nat):List UInt8:=encodeRune c
def one(l:List UInt8):List UInt8×Nat×Int:=
 if l.getD 0 0=92 then
  (if(escp (l.drop 1)).2.2≠0 then([],0,(escp (l.drop 1)).2.2)else(enc (escp (l.drop 1)).1,(escp (l.drop 1)).2.1+1,0))
 else if Bad (decodeL l)∨l.getD 0 0<32∨l.getD 0 0=127 then([],0,2)
 else(l.take (decodeL l).2,(decodeL l).2,0)
def unq:Nat→List UInt8→List UInt8→Nat→List UInt8×Nat×Int
 |0,_,_,_=>([],0,40)
 |f+1,l,acc,i =>
  if l=[]then([],0,40)
  else if l.getD 0 0=34 then(if 4096<acc.length then([],0,3)else(acc,i+1,0))
  else if(one l).2.2≠0 then([],0,(one l).2.2)
  else unq f (l.drop (one l).2.1) (acc++(one l).1) (i+(one l).2.1)
def unquote(l:List UInt8):List UInt8×Nat×Int:=
 if l=[]then([],0,40)else if l.getD 0 0≠34 then([],0,2)else unq l.length (l.drop 1) [] 1
theorem hexN_le:∀(m:Nat) (l:List UInt8),hexN m l≤m∧hexN m l≤l.length
 |0,_=>by simp[hexN]
 |m+1,[]=>by simp[hexN]
 |m+1,b::l=>by
  have:=hexN_le m l;unfold hexN;split<;>simp<;>omega
theorem hexN_end:∀(m k:Nat) (l:List UInt8),(∀ j,j<k→isHex (l.getD j 0)=true)→k≤l.length→k≤m→(k=m∨k=l.length∨isHex (l.getD k 0)=false)→hexN m l=k
 |0,k,l,_,_,h3,_=>by simp[hexN];omega
 |m+1,k,[],_,h2,_,_=>by simp[hexN]at *;omega
 |m+1,0,b::l,_,_,_,h4=>by
  have:isHex b=false:=by
   rcases h4 with h|h|h
   ·omega
   ·simp at h
   ·simpa using h
  simp[hexN,this]
 |m+1,k+1,b::l,h1,h2,h3,h4=>by
  have hb:isHex b=true:=by simpa using h1 0 (by omega)
  have ih:=hexN_end m k l (fun j hj=>by simpa using h1 (j+1) (by omega)) (by simpa using h2) (by omega) (by
   rcases h4 with h|h|h
   ·exact .inl (by omega)
   ·exact .inr (.inl (by simpa using h))
   ·exact .inr (.inr (by simpa using h)))
  simp[hexN,hb,ih]
theorem hexv_le(b:UInt8):hexv b≤15:=by
 unfold hexv;split
 ·omega
 ·split<;>omega
theorem hexC_succ(n:Nat)(l:List UInt8)(h:n<l.length):hexC (n+1) l=16*hexC n l+(hexv l[n]).toNat:=by
 unfold hexC;rw[ZW h,List.foldl_append];rfl
theorem hexC_lt:∀(n:Nat) (l:List UInt8),n≤l.length→hexC n l<16^n
 |0,l,_=>by simp[hexC]
 |n+1,l,h=>by
  have ih:=hexC_lt n l (by omega);have:=hexv_le l[n];rw[hexC_succ n l (by omega),Nat.pow_succ];omega
theorem enc_length(c:Nat):1≤(enc c).length∧(enc c).length≤4:=by
 have:=encodeRuneZ_length c;simpa [enc,encodeRune]using this
theorem unq_step(f:Nat)(l acc:List UInt8)(i:Nat)(b:List UInt8)(n:Nat)(h1:l≠[])(h2:l.getD 0 0≠34)(h3:one l=(b,n,(0:Int))):unq (f+1) l acc i=unq f (l.drop n) (acc++b) (i+n):=by
 rw[unq,if_neg h1,if_neg h2,h3,if_neg (by simp)]
theorem unq_err(f:Nat)(l acc:List UInt8)(i:Nat)(b:List UInt8)(n:Nat)(e:Int)(h1:l≠[])(h2:l.getD 0 0≠34)(h3:one l=(b,n,e))(he:e≠0):unq (f+1) l acc i=([],0,e):=by
 rw[unq,if_neg h1,if_neg h2,h3,if_pos (by simpa using he)]
end Str
end Go.Proofs.YtdgcbckcameggadGreatDoor

namespace Go.Proofs.YtdgcbckcameggadGreatDoor
namespace Str
open Go.Lib
theorem dec_cases(l:List UInt8):((l.getD 0 0).toNat<128∧decodeL l=((l.getD 0 0).toNat,1))∨(128≤(l.getD 0 0).toNat∧128≤(decodeL l).1):=by
 rw[decodeL_N];generalize (l.getD 0 0).toNat=b0;generalize (l.getD 1 0).toNat=b1;generalize (l.getD 2 0).toNat=b2;generalize (l.getD 3 0).toNat=b3;rcases decodeN_shape l.length b0 b1 b2 b3 with⟨c,e⟩|⟨c1,c2,c3,cv,e⟩|⟨c1,c2,c3,c4,cv,cs,e⟩|⟨c1,c2,c3,c4,c5,cv,cw,e⟩|e
 ·exact .inl ⟨c,e⟩
 ·right;rw[e];simp only;omega
 ·right;rw[e];simp only;omega
 ·right;rw[e];simp only;omega
 ·by_cases hb:b0<128
  ·left
   refine⟨hb,?_⟩;unfold decodeN;rw[if_pos hb]
  ·right;rw[e];simp only;omega
theorem dec_lt(l:List UInt8):(decodeL l).1≤1114111:=by
 have hb:(l.getD 0 0).toNat<256:=UInt8.toNat_lt _;rw[decodeL_N];have:=decodeN_valid l.length (l.getD 0 0).toNat (l.getD 1 0).toNat (l.getD 2 0).toNat (l.getD 3 0).toNat hb;omega
theorem point_lt(l:List UInt8):(point l).1<16777216:=by
 have h1:=hexN_le 6 l;have h2:=hexC_lt (hexN 6 l) l h1.2;have h3:16^hexN 6 l≤16^6:=YL (by decide) h1.1;unfold point
 repeat' split
 all_goals simp only
 all_goals omega
theorem point_len(l:List UInt8):(point l).2.1≤l.length:=by
 have h1:=hexN_le 6 l;unfold point;split;next hh=>simp only;omega
 next hh =>
  split
  ·simp
  ·simp only;omega
theorem escp_lt(l:List UInt8):(escp l).1<16777216:=by
 unfold escp;split
 ·simp
 ·next b t =>
  have:=b.toNat_lt
  repeat' split
  all_goals first
   |exact point_lt _
   |(simp only;omega)
theorem escp_len(l:List UInt8)(h:(escp l).2.2=0):1≤(escp l).2.1∧(escp l).2.1≤l.length:=by
 unfold escp at h ⊢;split
 ·simp at h
 ·next b t =>
  simp only at h;split
  ·simp
  split
  ·simp
  split
  ·simp
  split
  ·simp
  next h1 h2 h3 h4 =>
  rw[if_neg h1,if_neg h2,if_neg h3,if_neg h4]at h;split;next h5 =>
   rw[if_pos h5]at h;split
   ·simp at h
   ·next c u =>
    simp only at h;split;next h6 =>
     rw[if_pos h6]at h;have:=point_len u;simp only[Zh];omega
    next h6=>rw[if_neg h6]at h;simp at h
  next h5=>rw[if_neg h5]at h;simp at h
theorem one_esc(l:List UInt8)(h:l.getD 0 0=92)(c n:Nat)(e:Int)(he:escp (l.drop 1)=(c,n,e)):one l=if e≠0 then([],0,e)else(enc c,n+1,0):=by
 unfold one;rw[if_pos h,he]
theorem one_bad(l:List UInt8)(c n:Nat)(hd:decodeL l=(c,n))(h1:c≠92)(h2:(c=65533∧n=1)∨c<32∨c=127):one l=([],0,2):=by
 have hc:=dec_cases l;rw[hd]at hc;have h0:l.getD 0 0≠92:=by
  intro h;rw[h]at hc;rcases hc with⟨_,h4⟩|⟨h4,_⟩
  ·exact h1 (congrArg Prod.fst h4)
  ·exact absurd h4 (by decide)
 unfold one;rw[if_neg h0,if_pos ?_];rw[hd];rcases h2 with h2|h2|h2
 ·exact .inl h2
 ·rcases hc with⟨_,h4⟩|⟨_,h4⟩
  ·right;left
   rw[YD];have:=congrArg Prod.fst h4;simp only at this;show _<32;omega
  ·simp only at h4;omega
 ·rcases hc with⟨_,h4⟩|⟨_,h4⟩
  ·right;right
   rw[←Z9];have:=congrArg Prod.fst h4;simp only at this;show _=127;omega
  ·simp only at h4;omega
theorem one_ok(l:List UInt8)(hl:l≠[])(c n:Nat)(hd:decodeL l=(c,n))(h1:c≠92)(h2:¬((c=65533∧n=1)∨c<32∨c=127)):one l=(enc c,n,0):=by
 have hc:=dec_cases l;have hen:=encode_decode l hl (by rw[hd];exact fun h=>h2 (.inl h));rw[hd]at hc hen;have hv:∀ v:UInt8,v.toNat<128→c≠v.toNat→l.getD 0 0≠v:=by
  intro v hv hne h;rw[h]at hc;rcases hc with⟨_,h4⟩|⟨h4,_⟩
  ·exact hne (congrArg Prod.fst h4)
  ·omega
 unfold one;rw[if_neg (hv 92 (by decide) h1),if_neg ?_,hd]
 ·show(l.take n,n,(0:Int))=(enc c,n,0)
  rw[enc,←hen]
 ·rintro(h|h|h)
  ·rw[hd]at h;exact h2 (.inl h)
  ·rw[YD]at h;have h':(l.getD 0 0).toNat<32:=h;rcases hc with⟨_,h4⟩|⟨h4,_⟩
   ·have:=congrArg Prod.fst h4;simp only at this;exact h2 (.inr (.inl (by omega)))
   ·omega
  ·exact hv 127 (by decide) (fun hh=>h2 (.inr (.inr hh))) h
theorem unq_nil(f:Nat)(acc:List UInt8)(i:Nat):unq (f+1) [] acc i=([],0,40):=by rw[unq,if_pos rfl]
theorem unq_quote(f:Nat)(l acc:List UInt8)(i:Nat)(h1:l≠[])(h:l.getD 0 0=34):unq (f+1) l acc i=if 4096<acc.length then([],0,3)else(acc,i+1,0):=by
 rw[unq,if_neg h1,if_pos h]
end Str
end Go.Proofs.YtdgcbckcameggadGreatDoor

namespace Go.Proofs.YtdgcbckcameggadGreatDoor
namespace Str
open Go.Lib
theorem getD_app(a b:List UInt8)(i:Nat)(h:i<a.length):(a++b).getD i 0=a.getD i 0:=by
 simp[List.getD,ZV h]
set_option maxRecDepth 100000 in
theorem dec_append(a b:List UInt8)(h:a≠[])(hg:¬Bad (decodeL a)):decodeL (a++b)=decodeL a:=by
 have h0:0<a.length:=YK.2 h;have e0:=getD_app a b 0 h0;have hl:(a++b).length=a.length+b.length:=Za;rw[decodeL_N]at hg;rw[decodeL_N,decodeL_N,e0,hl];rcases decodeN_shape a.length (a.getD 0 0).toNat (a.getD 1 0).toNat (a.getD 2 0).toNat (a.getD 3 0).toNat with⟨c,e⟩|⟨c1,c2,c3,cv,e⟩|⟨c1,c2,c3,c4,cv,cs,e⟩|⟨c1,c2,c3,c4,c5,cv,cw,e⟩|e
 ·rw[e];unfold decodeN;rw[if_pos c]
 ·rw[e,getD_app a b 1 c2];generalize (a.getD 0 0).toNat=b0 at *;generalize (a.getD 1 0).toNat=b1 at *;unfold decodeN
  repeat' split
  all_goals first
   |rfl
   |(exfalso;omega)
 ·rw[e,getD_app a b 1 (by omega),getD_app a b 2 c2];generalize (a.getD 0 0).toNat=b0 at *;generalize (a.getD 1 0).toNat=b1 at *;generalize (a.getD 2 0).toNat=b2 at *;unfold decodeN
  repeat' split
  all_goals first
   |rfl
   |(exfalso;omega)
 ·rw[e,getD_app a b 1 (by omega),getD_app a b 2 (by omega),getD_app a b 3 c2];generalize (a.getD 0 0).toNat=b0 at *;generalize (a.getD 1 0).toNat=b1 at *;generalize (a.getD 2 0).toNat=b2 at *;generalize (a.getD 3 0).toNat=b3 at *;unfold decodeN
  repeat' split
  all_goals first
   |rfl
   |(exfalso;omega)
 ·exact absurd (by rw[e];exact⟨rfl,rfl⟩) hg
theorem valid_step(l:List UInt8)(h:l≠[]):validD l=if Bad (decodeL l)then false else validD (l.drop (decodeL l).2):=by
 rw[validD_step _ h];rfl
theorem valid_append:∀(n:Nat) (a b:List UInt8),a.length≤n→validD a=true→validD (a++b)=validD b
 |_,[],_,_,_=>rfl
 |0,_::_,_,hn,_=>by simp at hn
 |n+1,x::a,b,hn,hv=>by
  have hne:x::a≠[]:=by simp
  have hw:=decodeL_le (x::a) hne;rw[valid_step _ hne]at hv;by_cases hb:Bad (decodeL (x::a))
  ·rw[if_pos hb]at hv;simp at hv
  ·rw[if_neg hb]at hv;have hd:=dec_append (x::a) b hne hb;have hne2:(x::a)++b≠[]:=by simp
   rw[valid_step _ hne2,hd,if_neg hb,List.drop_append_of_le_length hw];refine valid_append n _ b ?_ hv;have h1:1≤(decodeL (x::a)).2:=by
    have:=dec_width ⟨(x::a).toArray⟩ 0 (show 0<(x::a).toArray.size by simp);rw[←decL]at this;exact this.1
   rw[ZB];omega
def rc:Nat→List UInt8→Nat
 |0,_=>0
 |f+1,l=>if l=[]then 0 else 1+rc f (l.drop (decodeL l).2)
theorem dec_pos(l:List UInt8)(h:l≠[]):1≤(decodeL l).2:=by
 have:=dec_width ⟨l.toArray⟩ 0 (show 0<l.toArray.size by simpa using YK.2 h);rw[←decL]at this;exact this.1
end Str
end Go.Proofs.YtdgcbckcameggadGreatDoor

namespace Go.Proofs.YtdgcbckcameggadGreatDoor
namespace Str
open Go.Lib
theorem getD_take(l:List UInt8)(n i:Nat)(h:i<n):(l.take n).getD i 0=l.getD i 0:=by
 simp[List.getD,h]
set_option maxRecDepth 100000 in
theorem dec_good(l:List UInt8)(h:l≠[])(hg:¬Bad (decodeL l)):decodeL (l.take (decodeL l).2)=decodeL l:=by
 have h0:0<l.length:=YK.2 h;have ht:=ZT (i:=(decodeL l).2) (l:=l);rw[Nat.min_eq_left (decodeL_le l h)]at ht;rw[decodeL_N (l.take _),ht];rw[decodeL_N]at hg ⊢;rcases decodeN_shape l.length (l.getD 0 0).toNat (l.getD 1 0).toNat (l.getD 2 0).toNat (l.getD 3 0).toNat with⟨c,e⟩|⟨c1,c2,c3,cv,e⟩|⟨c1,c2,c3,c4,cv,cs,e⟩|⟨c1,c2,c3,c4,c5,cv,cw,e⟩|e
 ·rw[e];simp only;rw[getD_take l 1 0 (by omega)];unfold decodeN;rw[if_pos c]
 ·rw[e];simp only;rw[getD_take l 2 0 (by omega),getD_take l 2 1 (by omega)];generalize (l.getD 0 0).toNat=b0 at *;generalize (l.getD 1 0).toNat=b1 at *;unfold decodeN
  repeat' split
  all_goals first
   |rfl
   |(exfalso;omega)
 ·rw[e];simp only;rw[getD_take l 3 0 (by omega),getD_take l 3 1 (by omega),getD_take l 3 2 (by omega)];generalize (l.getD 0 0).toNat=b0 at *;generalize (l.getD 1 0).toNat=b1 at *;generalize (l.getD 2 0).toNat=b2 at *;unfold decodeN
  repeat' split
  all_goals first
   |rfl
   |(exfalso;omega)
 ·rw[e];simp only;rw[getD_take l 4 0 (by omega),getD_take l 4 1 (by omega),getD_take l 4 2 (by omega),getD_take l 4 3 (by omega)];generalize (l.getD 0 0).toNat=b0 at *;generalize (l.getD 1 0).toNat=b1 at *;generalize (l.getD 2 0).toNat=b2 at *;generalize (l.getD 3 0).toNat=b3 at *;unfold decodeN
  repeat' split
  all_goals first
   |rfl
   |(exfalso;omega)
 ·exact absurd (by rw[e];exact⟨rfl,rfl⟩) hg
theorem take_ne(l:List UInt8)(h:l≠[]):l.take (decodeL l).2≠[]:=by
 have h1:=dec_pos l h;have h2:=YK.2 h;intro he;have:=congrArg List.length he;simp at this;rcases this with h3|h3
 ·omega
 ·exact h h3
end Str
end Go.Proofs.YtdgcbckcameggadGreatDoor

namespace Go.Proofs.YtdgcbckcameggadGreatDoor
namespace Num
def digB(c:UInt8):Bool:=decide (48≤c.toNat)&&decide (c.toNat≤57)
def digits(s:List UInt8):Bool:=s.all digB&&(s == [48]||(s != []&&s.getD 0 0 !=48))
def val(s:List UInt8):Nat:=s.foldl (fun n c=>10*n+(c.toNat-48)) 0
def parse(s:List UInt8):Int×Int:=
 let minus:Bool:=s.getD 0 0==45
 let t:=if minus then s.drop 1 else s
 if !digits t||(minus&&t == [48])then(0,2)
 else if 16<t.length then(0,5)
 else if 9007199254740992<val t then(0,5)
 else((if minus then-(val t:Int)else val t),0)
def fmtN:Nat→Nat→List UInt8
 |0,_=>[]
 |f+1,n=>if n<10 then[UInt8.ofNat (48+n)]else fmtN f (n/10)++[UInt8.ofNat (48+n%10)]
def fmt(n:Nat):List UInt8:=fmtN 20 n
end Num
namespace Adr
structure K where
 kind:Int
 num:Int
 str:List UInt8
deriving DecidableEq
def K.none:K:=⟨0,0,[]⟩
structure Step where
 name:List UInt8
 key:K
deriving DecidableEq
structure Ad where
 mods:List Step
 data:Bool
 type:List UInt8
 name:List UInt8
 key:K
deriving DecidableEq
def Ad.zero:Ad:=⟨[],false,[],[],K.none⟩
def letter(c:UInt8):Bool:=(decide (97≤c.toNat)&&decide (c.toNat≤122))||(decide (65≤c.toNat)&&decide (c.toNat≤90))||c==95
def wordB(c:UInt8):Bool:=letter c||Num.digB c
def ident(s:List UInt8):Bool:=s != []&&decide (s.length≤64)&&letter (s.getD 0 0)&&s.all wordB
def reservedL:List (List UInt8):=[[109,111,100,117,108,101],[100,97,116,97],[118,97,114],[108,111,99,97,108],[111,117,116,112,117,116],[101,97,99,104],[99,111,117,110,116],[114,101,109,111,116,101],[112,97,116,104],[115,101,108,102],[99,104,97,110,103,101]]
def reserved(s:List UInt8):Bool:=reservedL.contains s
def kindB(s:List UInt8):Bool:=!reserved s&&ident s
def keyOk(k:K):Bool:=
 if k.kind=1 then decide (0≤k.num)&&decide (k.num≤9007199254740992)&&k.str == []
 else if k.kind=2 then k.num==0&&Str.valid k.str
 else k==K.none
def check(a:Ad):Int:=
 if 16<a.mods.length then 4
 else match a.mods.find? (fun s=>!(ident s.name&&keyOk s.key))with
  |some s=>if ident s.name then 1 else 7
  |none=>if !kindB a.type||!ident a.name then 7 else if !keyOk a.key then 1 else 0
def fmtKey(k:K):List UInt8:=
 if !keyOk k||k.kind==0 then[]else if k.kind=1 then 91::(Num.fmt k.num.toNat++[93])else 91::(Str.quote k.str++[93])
def modW:List UInt8:=[109,111,100,117,108,101,46]
def dataW:List UInt8:=[100,97,116,97,46]
def steps(l:List Step):List UInt8:=l.flatMap fun s=>modW++s.name++fmtKey s.key++[46]
def fmt(a:Ad):List UInt8:=
 if check a≠0 then[]else steps a.mods++(if a.data then dataW else[])++a.type++[46]++a.name++fmtKey a.key
def key(s : List UInt8) : Option (K × List UInt8) :=
 if s.getD 0 0 ≠ 91 then some (K.none, s)
 else if 1<s.length ∧ s.getD 1 0 = 34 then
  (let u := Str.unquote (s.drop 1)
   let k : K := ⟨2, 0, u.1⟩
   if u.2.2 ≠ 0 ∨ s.length ≤ u.2.1 + 1 ∨ s.getD (u.2.1 + 1) 0 ≠ 93 ∨ (s.take (u.2.1 + 1)).drop 1 ≠ Str.quote u.1 ∨ keyOk k = false then Option.none
   else some (k, s.drop (u.2.1 + 2)))
 else
  (let d := (s.drop 1).takeWhile Num.digB
   let x := Num.parse d
   if x.2 ≠ 0 ∨ s.length ≤ d.length + 1 ∨ s.getD (d.length + 1) 0 ≠ 93 then Option.none
   else some (⟨1, x.1, []⟩, s.drop (d.length + 2)))
def begins(s p:List UInt8):Bool:=p.isPrefixOf s
def step(s:List UInt8):Option (Step×List UInt8):=
 match key ((s.drop 7).dropWhile wordB)with
 |Option.none=>Option.none
 |some (k,rest)=>if ident ((s.drop 7).takeWhile wordB)then some (⟨(s.drop 7).takeWhile wordB,k⟩,rest)else Option.none
def last(s:List UInt8):Option Ad:=
 let t:=if begins s dataW then s.drop 5 else s
 let typ:=t.takeWhile wordB
 let r:=t.dropWhile wordB
 if kindB typ=false∨r.getD 0 0≠46 then Option.none
 else
  let n:=(r.drop 1).takeWhile wordB
  match key ((r.drop 1).dropWhile wordB)with
  |Option.none=>Option.none
  |some (k,rest)=>if ident n=true∧rest=[]then some ⟨[],begins s dataW,typ,n,k⟩else Option.none
def place:Nat→List UInt8→Option (Ad×Bool)
 |0,_=>Option.none
 |f+1,s =>
  if begins s modW then
   match step s with
   |Option.none=>Option.none
   |some (x,rest) =>
    if rest=[]then some ({ Ad.zero with mods:=[x] },false)
    else if rest.getD 0 0≠46 then Option.none
    else match place f (rest.drop 1)with
     |Option.none=>Option.none
     |some (p,w)=>some ({ p with mods:=x::p.mods },w)
  else match last s with
   |Option.none=>Option.none
   |some p=>some (p,true)
def parse(s:List UInt8):Ad×Int:=
 match place (s.length+1) s with
 |some (p,true)=>if 16<p.mods.length then(Ad.zero,4)else(p,0)
 |_=>(Ad.zero,2)
def bare(a:Ad):Ad:={ a with mods:=a.mods.map (fun s=>⟨s.name,K.none⟩),key:=K.none }
def static(s:List UInt8):List UInt8×Int:=if(parse s).2≠0 then([],(parse s).2)else(fmt (bare (parse s).1),0)
structure Rd where
 rest:List UInt8
 bad:Bool
def stopB(c:UInt8):Bool:=c==46||c==91
def wordP(r:Rd):List UInt8×Rd:=
 let s:=r.rest.takeWhile (fun c=>!stopB c)
 (s,⟨r.rest.dropWhile (fun c=>!stopB c),r.bad||!ident s⟩)
def skipP(p:List UInt8)(r:Rd):Rd:=if begins r.rest p then⟨r.rest.drop p.length,r.bad⟩else⟨r.rest,true⟩
def hasP(p:List UInt8)(r:Rd):Bool×Rd:=if begins r.rest p then(true,⟨r.rest.drop p.length,r.bad⟩)else(false,r)
def keyP(r:Rd):K×Rd:=
 if r.bad then(K.none,r)
 else if begins r.rest [91]=false then(K.none,r)
 else
  let t:=r.rest.drop 1
  if begins t [34]then
   let u:=Str.unquote t
   if u.2.2≠0∨Str.quote u.1≠t.take u.2.1 then(K.none,⟨t,true⟩)
   else(⟨2,0,u.1⟩,skipP [93] ⟨t.drop u.2.1,false⟩)
  else
   let n:=if t.all (· != 93)then 0 else(t.takeWhile (· != 93)).length
   let x:=Num.parse (t.take n)
   (⟨1,x.1,[]⟩,skipP [93] ⟨t.drop n,x.2 !=0||decide (x.1<0)⟩)
def stepP(r:Rd):Step×Rd:=
 let w:=wordP r
 let k:=keyP w.2
 (⟨w.1,k.1⟩,k.2)
def modsP:Nat→Rd→List Step→List Step×Rd
 |0,r,l=>(l,r)
 |f+1,r,l=>if r.bad=false∧begins r.rest modW=true then
   (let x := stepP (hasP modW r).2
    modsP f (skipP [46] x.2) (l ++ [x.1]))
  else(l,r)
def parseP(s:List UInt8):Ad×Int:=
 let m:=modsP (s.length+1) ⟨s,false⟩ []
 let d:=hasP dataW m.2
 let t:=wordP d.2
 let n:=wordP (skipP [46] t.2)
 let k:=keyP n.2
 if k.2.bad=true∨k.2.rest≠[]∨kindB t.1=false then(Ad.zero,2)
 else if 16<m.1.length then(Ad.zero,4)
 else(⟨m.1,d.1,t.1,n.1,k.1⟩,0)
end Adr
end Go.Proofs.YtdgcbckcameggadGreatDoor

namespace Go.Proofs.YtdgcbckcameggadGreatDoor
open Go.Op (bytesLess)
namespace Sf
structure Inst where
 addr:List UInt8
 dep:List UInt8
 id:List UInt8
 typ:List UInt8
 attrs:V
 ver:Int
 tainted:Bool
 first:Bool
 deps:List (List UInt8)
structure Pend where
 addr:List UInt8
 typ:List UInt8
 tok:List UInt8
structure Outp where
 name:List UInt8
 value:V
 sens:Bool
structure St where
 lin:List UInt8
 ser:Int
 insts:List Inst
 pends:List Pend
 outs:List Outp
def text(s:List UInt8):Bool:=s != []&&Str.valid s
def managed(s typ:List UInt8):Bool:=(Adr.parse s).2==0&&!(Adr.parse s).1.data&&(Adr.parse s).1.type==typ
def keyB(s:List UInt8):Bool:=s == []||((Num.parse s).2==0&&decide (1≤(Num.parse s).1))
def staticB(s:List UInt8):Bool:=(Adr.static s).2==0&&(Adr.static s).1==s
def depsB:Option (List UInt8)→List (List UInt8)→Bool
 |_,[]=>true
 |p,s::l=>staticB s&&!Val.badB p s&&depsB (some s) l
mutual
def known:V→Bool
 |.mk k _ _ is _=>k !=6&&knowns is
def knowns:List V→Bool
 |[]=>true
 |v::l=>known v&&knowns l
end
def V.kind:V→Int
 |.mk k _ _ _ _=>k
def instZ(x:Inst):Int:=
 if !managed x.addr x.typ||!keyB x.dep||!text x.id then 1
 else if Val.checkZ x.attrs≠0 then Val.checkZ x.attrs
 else if V.kind x.attrs≠5 then 6
 else if !known x.attrs then 11
 else if x.ver<1∨9007199254740992<x.ver then 5
 else if !depsB none x.deps then 1 else 0
def behind(x y:Inst):Bool:=bytesLess x.addr y.addr||(x.addr==y.addr&&bytesLess x.dep y.dep)
def instsZ:Option Inst→List Inst→Int
 |_,[]=>0
 |p,x::l=>if instZ x≠0 then instZ x else if(match p with|some y=>!behind y x|none=>false)then 1 else instsZ (some x) l
def pendB(p:Pend):Bool:=text p.tok&&managed p.addr p.typ
def pendsZ:Option (List UInt8)→List Pend→Int
 |_,[]=>0
 |p,x::l=>if !pendB x||Val.badB p x.tok then 1 else pendsZ (some x.tok) l
def outZ(o:Outp):Int:=
 if !Adr.ident o.name then 7 else if Val.checkZ o.value≠0 then Val.checkZ o.value else if !known o.value then 11 else 0
def outsZ:Option (List UInt8)→List Outp→Int
 |_,[]=>0
 |p,x::l=>if outZ x≠0 then outZ x else if Val.badB p x.name then 1 else outsZ (some x.name) l
def checkZ(s:St):Int:=
 if !text s.lin then 1
 else if s.ser<0∨9007199254740992<s.ser then 5
 else if 512<s.insts.length∨512<s.pends.length∨512<s.outs.length then 14
 else if instsZ none s.insts≠0 then instsZ none s.insts
 else if pendsZ none s.pends≠0 then pendsZ none s.pends
 else outsZ none s.outs
def flagE(b:Bool):List UInt8:=Wire.num (if b then 1 else 0)
def wordsE(l:List (List UInt8)):List UInt8:=l.flatMap Wire.strE
def instE(ver:Int)(x:Inst):List UInt8:=
 Wire.strE x.addr++Wire.strE x.dep++Wire.strE x.id++Wire.strE x.typ++Val.enc x.attrs++Wire.num x.ver++flagE x.tainted++(if ver=2 then flagE x.first else[])++Wire.num x.deps.length++wordsE x.deps
def pendE(p:Pend):List UInt8:=Wire.strE p.addr++Wire.strE p.typ++Wire.strE p.tok
def outE(o:Outp):List UInt8:=Wire.strE o.name++Val.enc o.value++flagE o.sens
def magic:List UInt8:=[80,86,83,84]
def stE(ver:Int)(s:St):List UInt8:=
 magic++Wire.num ver++Wire.strE s.lin++Wire.num s.ser++Wire.num s.insts.length++s.insts.flatMap (instE ver)++(if ver=2 then Wire.num s.pends.length++s.pends.flatMap pendE else[])++Wire.num s.outs.length++s.outs.flatMap outE
end Sf
end Go.Proofs.YtdgcbckcameggadGreatDoor
