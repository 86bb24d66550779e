/- Part of what the proof needs. -/
import Derived.Test.YthhpocnmfknalaaGreatDoorMFrWorkspaceCallsG
import Derived.Test.YthhpocnmfknalaaGreatDoorMFrWorkspaceCallsI
import Derived.Lib.FrozenHead
import Derived.Laws.Append
import Derived.Laws.AppendOwn
import Derived.Test.YthhpocnmfknalaaGreatDoorRows
set_option maxHeartbeats 4000000
set_option maxRecDepth 100000
set_option linter.all false
namespace Go.Proofs.YthhpocnmfknalaaGreatDoor
open Go.RowKit
def Wtr(B b:Nat)(ver:Int)(l:List UInt8)(w:World):Prop:=
 B<=b/\∃p v,(p=.pointer none\/p=.pointer (some ⟨b,0,none⟩))/\w.heap[b]?=some (.cells #[p,v,.int .i64 ver] 194 (0,0))/\w.ownsRowF B 5 1 v l.length (Lib.byteCells l)/\v.ownBlock≠some b
def WtrU(B b:Nat)(ver:Int)(l:List UInt8)(w:World):Prop:=
 B<=b/\∃v,w.heap[b]?=some (.cells #[.pointer (some ⟨b,0,none⟩),v,.int .i64 ver] 194 (0,0))/\w.ownsRowF B 5 1 v l.length (Lib.byteCells l)/\v.ownBlock≠some b
theorem WtrU.wtr{B b:Nat}{ver:Int}{l:List UInt8}{w:World}(h:WtrU B b ver l w):Wtr B b ver l w:=by
 obtain⟨h1,v,h2,h3⟩:=h;exact⟨h1,_,v,.inr rfl,h2,h3⟩
theorem cxo(b:Nat)(w:World)(h0:w.cell? ⟨b,0,none⟩=some (.pointer none))(hsh:w.shape? b=some (194,3))(hfz:w.frozen? ⟨b,0,none⟩=false):
  Calls Tryz.prog 184 #[.pointer (some ⟨b,0,none⟩)] w fun e w'=>e=.returned (.tuple #[])/\w'=w.setCell ⟨b,0,none⟩ (.pointer (some ⟨b,0,none⟩)):=by
 obtain⟨j,hj,hjs⟩:=Zv.1 (show(Tryz.prog.info? 192).map (·.size)=some 2 by kernel_rfl);have hlies:liesAt Tryz.prog Tryz.prog.depth 194 (3/Tryz.prog.cellsOf 194) 0 192 1=true:=by kernel_rfl
 go_enter Tryz.func184,Tryz.ntmps184;go_wp2;rw[Lib.run_to_unsafe w ⟨b,0,none⟩ Tryz.underlying189 Tryz.underlying254 hj (by rw[hjs];decide) hsh (by show 0<3;omega)];simp only[Result.andThen];rw[Oper.upon_value];go_wp2;rw[run_callFunc_extern Tryz.func203 (by kernel_rfl) (by kernel_rfl) (by kernel_rfl) (e:=Extern.AbiNoEscape.same) (by kernel_rfl)];rw[Lib.run_noEscape];simp only[Result.andThen];rw[Oper.upon_value];go_wp2;rw[Lib.run_from_unsafe w ⟨b,0,none⟩ Tryz.underlying254 Tryz.underlying189 hj hsh hlies];simp only[Result.andThen];rw[Oper.upon_value];go_wp2
 go_end0
 exact⟨rfl,rfl⟩
theorem aqg{w:World}{b:Nat}{p v x:Value}{T:TypeId}(h:w.heap[b]?=some (.cells #[p,v,x] T (0,0))):w.cell? ⟨b,0,none⟩=some p/\w.cell? ⟨b,1,none⟩=some v/\w.cell? ⟨b,2,none⟩=some x/\(∀i,w.frozen? ⟨b,i,none⟩=false)/\w.shape? b=some (T,3)/\b<w.heap.size:=by
 refine⟨?_,?_,?_,fun i=>?_,?_,(ZS.1 h).1⟩
 ·rw[cell_of_row _ _ _ _ _ _ h];rfl
 ·rw[cell_of_row _ _ _ _ _ _ h];rfl
 ·rw[cell_of_row _ _ _ _ _ _ h];rfl
 ·simp[World.frozen?,h]
 ·simp[World.shape?,h]
theorem Wtr.used{B b:Nat}{ver:Int}{l:List UInt8}{w:World}{p v:Value}(hB:B<=b)(hb:w.heap[b]?=some (.cells #[p,v,.int .i64 ver] 194 (0,0)))(hown:w.ownsRowF B 5 1 v l.length (Lib.byteCells l))(hne:v.ownBlock≠some b):
  WtrU B b ver l (w.setCell ⟨b,0,none⟩ (.pointer (some ⟨b,0,none⟩))):=by
 refine⟨hB,v,?_,?_,hne⟩
 ·simp[World.setCell,Ys,hb]
 ·exact hown.kept (row:=some b) ⟨rfl,rfl,rfl,by simp[World.setCell],fun k _ hk=>Below.heap_setCell _ _ _ _ (fun e=>hk (by simp[e]))⟩ (Or.inr hne)
theorem bxe:(Tryz.prog.info? 5).map (fun i=>(i.zero,i.size,i.bytes))=some (some (.int .u8 0),1,1):=by kernel_rfl
theorem dqe{B b:Nat}{ver:Int}{l:List UInt8}{w:World}(h:Wtr B b ver l w):
  Calls Tryz.prog 145 #[.pointer (some ⟨b,0,none⟩)] w fun e w'=>e=.returned (.int .i64 l.length)/\w'=w:=by
 obtain⟨hB,p,v,hp,hb,hown,hne⟩:=h;obtain⟨c0,c1,c2,hf,hsh,hlt⟩:=aqg hb;obtain⟨ao,cap,rfl⟩:∃ao cap,v=.slice ao l.length cap:=by
  rcases hown.2 with⟨hv,h0⟩|⟨g,cap,cur,fz,hv,_⟩
  ·exact⟨none,0,by rw[hv,h0]⟩
  ·exact⟨_,_,hv⟩
 clear hown hp hne hb;go_enter Tryz.func145,Tryz.ntmps145;go_wp2
 go_ret
 exact⟨rfl,rfl⟩
def WF(F:Nat->Prop)(b:Nat)(ver:Int)(l:List UInt8)(w:World):Prop:=
 ∃p v,(p=.pointer none\/p=.pointer (some ⟨b,0,none⟩))/\w.heap[b]?=some (.cells #[p,v,.int .i64 ver] 194 (0,0))/\w.ownsRowF 0 5 1 v l.length (Lib.byteCells l)/\v.ownBlock≠some b/\F b/\∀k,v.ownBlock=some k->F k
structure Fr(F:Nat->Prop)(w w':World):Prop where
 os:w'.os=w.os
 tape:w'.tape=w.tape
 output:w'.output=w.output
 size:w.heap.size<=w'.heap.size
 block:∀k,k<w.heap.size->¬F k->w'.heap[k]?=w.heap[k]?
theorem Fr.refl(F:Nat->Prop)(w:World):Fr F w w:=⟨rfl,rfl,rfl,Ze _,fun _ _ _=>rfl⟩
theorem Fr.trans{F:Nat->Prop}{a b c:World}(h:Fr F a b)(k:Fr F b c):Fr F a c:=
 ⟨k.os.trans h.os,k.tape.trans h.tape,k.output.trans h.output,Zr h.size k.size,fun g hg hn=>(k.block g (ZG hg h.size) hn).trans (h.block g hg hn)⟩
theorem Fr.grown{F:Nat->Prop}{a b:World}{r:Option Nat}(h:a.grownBy b r)(hr:∀k,r=some k->F k):Fr F a b:=
 ⟨h.os,h.tape,h.output,h.size,fun g hg hn=>h.block g hg fun e=>hn (hr g e.symm)⟩
theorem Fr.set{F:Nat->Prop}(w:World)(b i:Nat)(v:Value)(hF:F b):Fr F w (w.setCell ⟨b,i,none⟩ v):=
 Fr.grown (grown_set' w b i v) fun k hk=>by injection hk with hk;subst hk;exact hF
where grown_set' (w:World) (g i:Nat) (v:Value):w.grownBy (w.setCell ⟨g,i,none⟩ v) (some g):=
 ⟨rfl,rfl,rfl,by simp[World.setCell],fun k _ hk=>Below.heap_setCell _ _ _ _ (fun e=>hk (by simp[e]))⟩
theorem WF.wtr{F:Nat->Prop}{b:Nat}{ver:Int}{l:List UInt8}{w:World}(h:WF F b ver l w):Wtr 0 b ver l w:=by
 obtain⟨p,v,hp,hb,hown,hne,_⟩:=h;exact⟨ZB _,p,v,hp,hb,hown,hne⟩
theorem cko{F:Nat->Prop}{b:Nat}{ver:Int}{l:List UInt8}{w:World}(h:WF F b ver l w):
  Calls Tryz.prog 184 #[.pointer (some ⟨b,0,none⟩)] w fun e w'=>e=.returned (.tuple #[])/\(∃v,w'.heap[b]?=some (.cells #[.pointer (some ⟨b,0,none⟩),v,.int .i64 ver] 194 (0,0))/\w'.ownsRowF 0 5 1 v l.length (Lib.byteCells l)/\v.ownBlock≠some b/\F b/\∀k,v.ownBlock=some k->F k)/\Fr F w w':=by
 obtain⟨p,v,hp,hb,hown,hne,hF,hFk⟩:=h;obtain⟨c0,c1,c2,hf,hsh,hlt⟩:=aqg hb;rcases hp with rfl|rfl
 ·refine(cxo b w c0 hsh (hf 0)).mono ?_;rintro e w' ⟨rfl,rfl⟩;obtain⟨_,v',hb',hown',hne'⟩:=Wtr.used (B:=0) (ZB _) hb hown hne;have hv:v'=v:=by
   have:=(aqg hb').2.1;have h2:(w.setCell ⟨b,0,none⟩ (.pointer (some ⟨b,0,none⟩))).heap[b]?=some (.cells #[.pointer (some ⟨b,0,none⟩),v,.int .i64 ver] 194 (0,0)):=by simp[World.setCell,Ys,hb]
   have h3:=(aqg h2).2.1;rw[h3]at this;injection this with this;exact this.symm
  subst hv;exact⟨rfl,⟨v',hb',hown',hne',hF,hFk⟩,Fr.set w b 0 _ hF⟩
 ·refine(Any.Builder_copyCheck_used Tryz.lays240 Tryz.Builder_X72_240 b w c0).mono ?_;rintro e w' ⟨rfl,rfl⟩;exact⟨rfl,⟨v,hb,hown,hne,hF,hFk⟩,Fr.refl F _⟩
theorem cv6{P:Program}(w:World)(t u ty e:TypeId)(i:TypeInfo)(ht:P.underlying t=some (.slice e))(hu:P.underlying u=some .string)(hi:P.info? e=some i)(hz:i.zero=some (.int .u8 0))
  (hsize:i.size=1) (hby:i.bytes=1) (v:Value) (n:Nat) (xs:List Value) (hown:w.ownsRowF 0 e 1 v n xs) (s:ByteArray) (h63:n+s.size<=maxLen) (hbytes:n+s.size<=140737488355328):
  ∃v' w',(Builtin.append_ #[t,u] ty #[v,.string s]).run P w=.ok v' w'/\w'.ownsRowF 0 e 1 v' (n+s.size) (xs++Lib.strCells s)/\w.grownBy w' v.ownBlock/\(∀k,v'.ownBlock=some k->v.ownBlock=some k\/w.heap.size<=k):=by
 obtain⟨v',w',hr,h2,h3,h4⟩:=Lib.run_append_own_stringF (P:=P) w 0 t u ty e i ht hu hi hz hsize hby v n xs hown s h63 hbytes (ZB _);refine⟨v',w',hr,h2,h3,fun k hk=>?_⟩;rcases hown.2 with⟨rfl,rfl⟩|⟨g,cap,cur,fz,rfl,hbg,hg,hfz,hnc,hcm,hcs,htake⟩
 ·obtain⟨v2,w2,k1,k2,k3,k4⟩:=Lib.run_append_own_string (P:=P) w w.heap.size t u ty e i ht hu hi hz hsize hby (.slice none 0 0) 0 xs ⟨hown.1,.inl ⟨rfl,rfl⟩⟩ s h63 hbytes (Ze _);rw[hr]at k1;injection k1 with e1 e2;subst e1;exact .inr (k2.lt k hk).1
 ·have hsmall:n+s.size<=9223372036854775807:=by simp only[maxLen]at h63;omega
  have hxl:xs.length=n:=by simpa using hown.1
  by_cases hroom:n+s.size<=cap
  ·have hcs':cur.size=cap:=by simpa using hcs
   have hr2:=Lib.run_append_room_stringF (P:=P) w t u ty e i ht hu hi hsize g n cap cur fz hg (by simpa using hfz) s hroom (by omega);rw[hr]at hr2;injection hr2 with e1 e2;subst e1;exact .inl hk
  ·have holds:∀j u,xs[j]?=some u->w.cell? ((⟨g,0,none⟩:Addr).add j)=some u:=hown.cells (g:=g) rfl;have hr2:=Lib.run_append_grow_string (P:=P) w t u ty e i (.int .u8 0) ht hu hi hz ⟨g,0,none⟩ n cap xs (by rw[hsize];simpa using hxl) holds s (by omega) (by omega) (by rw[hby];exact growslice_fits (by omega) (by omega));rw[hr]at hr2;injection hr2 with e1 e2;subst e1;simp only[Value.ownBlock,Zc]at hk;exact .inr (by omega)
theorem ax9{P:Program}(w:World){ops:Array Oper}{rest:List Oper}{o:Oper}{a:Act}{Q:Exit->Act->World->Prop}(hgd:o.guard=none)(sl x:Operand)(t u:TypeId)
  (ho:o.op=.call { callee:=.builtin .append,args:=#[sl,x],argTypes:=#[t,u] })
  (e:TypeId) (i:TypeInfo) (ht:P.underlying t=some (.slice e)) (hu:P.underlying u=some .string) (hi:P.info? e=some i) (hz:i.zero=some (.int .u8 0))
  (hsize:i.size=1) (hby:i.bytes=1)
  (v:Value) (n:Nat) (xs:List Value) (hs:a.eval sl=v) (hown:w.ownsRowF 0 e 1 v n xs) (s:ByteArray) (hx:a.eval x=.string s)
  (h63:n+s.size<=maxLen) (hbytes:n+s.size<=140737488355328)
  (h:∀v' w',w'.ownsRowF 0 e 1 v' (n+s.size) (xs++Lib.strCells s)->w.grownBy w' v.ownBlock->(∀k,v'.ownBlock=some k->v.ownBlock=some k\/w.heap.size<=k)->wpList P ops Q rest (a.put o.dst v') w'):wpList P ops Q (o::rest) a w:=by
 refine wpList_plain hgd fun K hK=>?_
 obtain⟨v',w',hr,h2,h3,h4⟩:=cv6 (P:=P) w t u o.type e i ht hu hi hz hsize hby v n xs hown s h63 hbytes;unfold Oper.wp execOp;simp only[ho,resolve,invoke,builtin,Sem.run_bind,Sem.run_pure,Result.andThen_ok,List.map_toArray,ZM,Yn,hs,hx,hr];exact hK _ _ (h v' w' h2 h3 h4)
theorem ckf{F:Nat->Prop}{b:Nat}{ver:Int}{l:List UInt8}{w:World}(h:WF F b ver l w)(s:List UInt8)(hlen:l.length+s.length<=1000000000):
  Calls Tryz.prog 166 #[.pointer (some ⟨b,0,none⟩),.string ⟨s.toArray⟩] w fun e w'=>e=.returned (.tuple #[.int .i64 s.length,.nilIface])/\WF (fun k=>F k\/w.heap.size<=k) b ver (l++s) w'/\Fr F w w':=by
 obtain⟨i0,hi,hz0,hz1,hz2⟩:=info_parts bxe;go_enter Tryz.func166,Tryz.ntmps166;go_wp2_with fail;(with_reducible refine(cko h).mono ?_);rintro e w1 ⟨rfl,⟨v,hbk,hown,hne,hF,hFk⟩,hb1⟩;obtain⟨c0,c1,c2,hf,hsh,hlt⟩:=aqg hbk;go_wp2_with (at_builtin;refine ax9 _ rfl _ _ 190 9 rfl 5 i0 Tryz.underlying190 Tryz.underlying9 hi hz0 hz1 hz2 _ _ _ rfl hown ⟨s.toArray⟩ rfl ?c3 ?c4 ?_)
 case c3=>rw[size_mk];unfold maxLen;omega
 case c4=>rw[size_mk];omega
 intro v' w2 hown' hgrow hwhere;have hb2:w2.heap[b]?=some (.cells #[.pointer (some ⟨b,0,none⟩),v,.int .i64 ver] 194 (0,0)):=(hgrow.block b hlt (fun e=>hne e.symm)).trans hbk;obtain⟨d0,d1,d2,hf2,_,hlt2⟩:=aqg hb2;have f1:=hf2 1;have hown2:w2.ownsRowF 0 5 1 v' (l++s).length (Lib.byteCells (l++s)):=by
  have e1:(⟨s.toArray⟩:ByteArray).size=s.length:=size_mk s;have e2:Lib.byteCells l++Lib.strCells ⟨s.toArray⟩=Lib.byteCells (l++s):=by unfold Lib.strCells Lib.byteCells;simp
  rw[Za,<-e2,<-e1];exact hown'
 have hne2:=Lib.ownBlock_neF hown2 hb2 (show 194≠5 by decide);have hwb1:=hb1.size
 have Hfin:=kept (show WF (fun k=>F k\/w.heap.size<=k) b ver (l++s) (w2.setCell ⟨b,1,none⟩ v')from by
  refine⟨_,v',.inr rfl,?_,?_,hne2,.inl hF,fun k hk=>?_⟩
  ·simp[World.setCell,Ys,hb2]
  ·exact hown2.kept (row:=some b) ⟨rfl,rfl,rfl,by simp[World.setCell],fun k _ hk=>Below.heap_setCell _ _ _ _ (fun e=>hk (by simp[e]))⟩ (Or.inr hne2)
  ·rcases hwhere k hk with h1|h1
   ·exact .inl (hFk k h1)
   ·exact .inr (by omega))
 have Hfr:=kept ((hb1.trans (Fr.grown hgrow fun k hk=>hFk k hk)).trans (Fr.set w2 b 1 v' hF));obtain⟨ao,n',cap,rfl⟩:∃ao n' cap,v'=.slice ao n' cap:=by
  rcases hown'.2 with⟨hv,_⟩|⟨g,cap,cur,fz,hv,_⟩
  ·exact⟨_,_,_,hv⟩
  ·exact⟨_,_,_,hv⟩
 clear hown' hown2 hne2 hb2 hbk hown hne hgrow hb1 h hwhere;go_wp2
 go_ret2
 exact⟨by simp,Hfin.out,Hfr.out⟩
theorem cj5{F:Nat->Prop}{b:Nat}{ver:Int}{l:List UInt8}{w:World}(h:WF F b ver l w)(h0:l≠[]):
  Calls Tryz.prog 146 #[.pointer (some ⟨b,0,none⟩)] w fun e w'=>e=.returned (.string ⟨l.toArray⟩)/\Fr F w w':=by
 obtain⟨p,v,hp,hbk,hown,hne,hFb,hFk⟩:=h;have hl0:l.length≠0:=by simpa using h0
 obtain⟨g,cap,cur,fz,rfl,hbg,hg,hfz,hnc,hcm,hcs,htake⟩:∃g cap cur fz,v=.slice (some ⟨g,0,none⟩) l.length cap/\0<=g/\w.heap[g]?=some (.cells cur 5 fz)/\fz.2<=l.length*1/\l.length<=cap/\cap<=maxLen/\cur.size=cap*1/\cur.toList.take (l.length*1)=Lib.byteCells l:=by
  rcases hown.2 with⟨_,hz⟩|⟨g,cap,cur,fz,hv,r⟩
  ·exact absurd hz hl0
  ·exact⟨g,cap,cur,fz,hv,r⟩
 have HFg:=kept (hFk g rfl);have c1:w.drew.cell? ⟨b,1,none⟩=some (.slice (some ⟨g,0,none⟩) l.length cap):=(aqg hbk).2.1;have hSD:(Builtin.unsafeSliceData_ #[190] 223 #[.slice (some ⟨g,0,none⟩) l.length cap]).run Tryz.prog w.drew=.ok (.pointer (some ⟨g,0,none⟩)) w.drew:=
  Lib.run_unsafeSliceData_row _ _ _ _ _ _ (by omega)
 have hUS:(Builtin.unsafeString_ #[223,3] 9 #[.pointer (some ⟨g,0,none⟩),.int .i64 l.length]).run Tryz.prog w.drew=.ok (.string ⟨l.toArray⟩) (w.drew.freeze ⟨g,0,none⟩ l.length):=by
  refine Lib.run_unsafeString_row w.drew 223 3 9 5 Tryz.underlying223 Tryz.Builder_Extra_169.cellsByte g cur.size (by have hg':w.drew.heap[g]?=some (.cells cur 5 fz):=hg;simp[World.shape?,hg']) l h0 (by omega) (by unfold maxLen at hcm;omega) ?_;intro j x hx;have:=hown.cells (g:=g) rfl j (.int .u8 x.toNat) (by simp[Lib.byteCells,hx]);exact this
 have Hfr:=kept (show Fr F w (w.drew.freeze ⟨g,0,none⟩ l.length)from by
  unfold World.freeze;split
  ·exact⟨rfl,rfl,rfl,Ze _,fun _ _ _=>rfl⟩
  ·refine⟨rfl,rfl,rfl,by simp,fun k hk hn=>?_⟩;have hkg:k≠g:=fun e=>hn (by rw[e];exact HFg.out)
   simp only[Ys,if_neg hkg.symm];rfl)
 clear hown hp hne hbk hnc hcm hcs htake hfz hg hl0 h0 hFk hFb;have mixed:=Tryz.lays169.mixed;go_enter Tryz.func146,Tryz.ntmps146;go_wp2
 go_region_o
 all_goals (go_wp2;go_ret;exact⟨rfl,Hfr.out⟩)
theorem ck5(s:ByteArray)(i lo hi:Int)(w:World)(h0:0<=i):
  Calls Tryz.prog 202 #[.string s,.int .i64 i,.int .u8 lo,.int .u8 hi] w fun e w'=>e=.returned (.bool (Str.inB s i.toNat lo hi))/\w=w':=by
 by_cases h1:i<s.size
 ·have h1':i.toNat<s.size:=by omega
  by_cases h2:lo<=(s[i.toNat].toNat:Int)
  ·have Hc:=kept (show Str.inB s i.toNat lo hi=decide ((s[i.toNat].toNat:Int)<=hi) by simp[Str.inB,h1',h2]);go_enter Tryz.func202,Tryz.ntmps202;go_wp2
   go_ret
   exact⟨az8 Hc.out.symm,rfl⟩
  ·have Hc:=kept (show Str.inB s i.toNat lo hi=false by simp[Str.inB,h2]);go_enter Tryz.func202,Tryz.ntmps202;go_wp2
   go_ret
   exact⟨az8 Hc.out.symm,rfl⟩
 ·have Hc:=kept (show Str.inB s i.toNat lo hi=false by simp[Str.inB];omega);go_enter Tryz.func202,Tryz.ntmps202;go_wp2
  go_ret
  exact⟨az8 Hc.out.symm,rfl⟩
theorem azm(s:ByteArray)(i lo hi:Int)(k:Nat)(c:Bool)(w:World)(h0:0<=i)(hk:i.toNat=k)(h:Str.inB s k lo hi=c):
  Calls Tryz.prog 202 #[.string s,.int .i64 i,.int .u8 lo,.int .u8 hi] w fun e w'=>e=.returned (.bool c)/\w=w':=by
 subst hk;subst h;exact ck5 s i lo hi w h0
theorem ajr(b:UInt8):bits .and .u8 (b.toNat:Int) 63=(b.toNat:Int)%64:=by
 have:=b.toNat_lt;rw[show(63:Int)=((63:Nat):Int)from rfl,u8_and_nat _ _ (by omega) (by omega),show(63:Nat)=2^6-1 from rfl,YV];rfl
theorem dvf(b:UInt8):bits .and .u8 (b.toNat:Int) 31=(b.toNat:Int)%32:=by
 have:=b.toNat_lt;rw[show(31:Int)=((31:Nat):Int)from rfl,u8_and_nat _ _ (by omega) (by omega),show(31:Nat)=2^5-1 from rfl,YV];rfl
theorem dq4(b:UInt8):bits .and .u8 (b.toNat:Int) 15=(b.toNat:Int)%16:=by
 have:=b.toNat_lt;rw[show(15:Int)=((15:Nat):Int)from rfl,u8_and_nat _ _ (by omega) (by omega),show(15:Nat)=2^4-1 from rfl,YV];rfl
theorem and7(b:UInt8):bits .and .u8 (b.toNat:Int) 7=(b.toNat:Int)%8:=by
 have:=b.toNat_lt;rw[show(7:Int)=((7:Nat):Int)from rfl,u8_and_nat _ _ (by omega) (by omega),show(7:Nat)=2^3-1 from rfl,YV];rfl
theorem dxn(x y p:Nat)(n:Nat)(hp:p=2^n)(hy:y<p)(hx:x*p<1152921504606846976)(hp2:p<1152921504606846976):bits .or .i64 ((x:Int)*(p:Int)) (y:Int)=((x*p+y:Nat):Int):=by
 subst hp;have h:=u64_or_nat (x*2^n) y (by omega) (by omega);have e:(x*2^n ||| y)=x*2^n+y:=by rw[Nat.mul_comm,<-Nat.two_pow_add_eq_or_of_lt hy]
 rw[e]at h;rw[<-Int.natCast_mul];have h1:(BitVec.ofInt 64 ((x*2^n:Nat):Int) ||| BitVec.ofInt 64 (y:Int)).toNat=x*2^n+y:=by
  rw[BitVec.toNat_or,BitVec.ofInt_natCast,BitVec.ofInt_natCast,BitVec.toNat_ofNat,BitVec.toNat_ofNat,YM (by omega),YM (by omega),e]
 show IntKind.i64.wrap ((BitVec.ofInt 64 ((x*2^n:Nat):Int) ||| BitVec.ofInt 64 (y:Int)).toNat:Int)=_
 rw[h1,IntKind.wrap_i64];omega
theorem aqt(x y:Int)(p:Nat)(n:Nat)(hp:p=2^n)(hx0:0<=x)(hx:x<16777216)(hy0:0<=y)(hy:y<p)(hp2:p<16777216):bits .or .i64 (x*(p:Int)) y=x*(p:Int)+y:=by
 obtain⟨X,rfl⟩:=Int.eq_ofNat_of_zero_le hx0;obtain⟨Y,rfl⟩:=Int.eq_ofNat_of_zero_le hy0;have hX:X<16777216:=by omega
 have hXp:X*p<=16777216*16777216:=Nat.mul_le_mul (by omega) (by omega);rw[dxn X Y p n hp (by omega) (by omega) (by omega)];simp
def DecEnd(d:Nat×Nat):Ending:=.returned (.tuple #[.int .i64 d.1,.int .i64 d.2])
theorem ajw(x m:Int)(c n:Nat)(hx:x=c)(hm:m=n):Ending.returned (.tuple #[.int .i64 x,.int .i64 m])=DecEnd (c,n):=by subst hx;subst hm;rfl
theorem dzf(s:ByteArray)(k:Nat)(w:World)(hk:¬k<s.size):
  Calls Tryz.prog 183 #[.string s,.int .i64 k] w fun e w'=>e=DecEnd (Str.refDec s k)/\∃q,w'=w.drewN q:=by
 have Hr:=kept (Str.refDec_end s k hk);have hk':(s.size:Int)<=k:=by omega
 clear hk;go_enter Tryz.func183,Tryz.ntmps183;go_wp2
 go_ret2
 exact⟨by rw[Hr.out];rfl,0,rfl⟩
theorem cqo(s:ByteArray)(k:Nat)(w:World)(hk:k<s.size)(h:s[k].toNat<128):
  Calls Tryz.prog 183 #[.string s,.int .i64 k] w fun e w'=>e=DecEnd (Str.refDec s k)/\∃q,w'=w.drewN q:=by
 have Hr:=kept (Str.refDec_ascii s k hk h);have Hb:=kept (show((s[k].toNat:Nat):Int)<256 by have:=s[k].toNat_lt;omega);have hk':(k:Int)<s.size:=by omega
 have h':(s[k].toNat:Int)<128:=by omega
 obtain⟨u,hu⟩:∃u:Int,(s[k].toNat:Int)=u:=⟨_,rfl⟩;have hu0:0<=u:=by omega
 have Hu:=kept hu;rw[hu]at h';clear h;go_enter Tryz.func183,Tryz.ntmps183;go_wp2
 go_ret2
 exact⟨by rw[Hr.out];show _=DecEnd _;unfold DecEnd;rw[Hu.out];rfl,0,rfl⟩
theorem cy6(s:ByteArray)(k:Nat)(w:World)(hk:k<s.size)(hs:s.size<=1000000000)(h1:194<=s[k].toNat)(h2:s[k].toNat<=223)(hc:Str.inB s (k+1) 128 191=true):
  Calls Tryz.prog 183 #[.string s,.int .i64 k] w fun e w'=>e=DecEnd (Str.refDec s k)/\∃q,w'=w.drewN q:=by
 have Hr:=kept (Str.refDec_two s k hk h1 h2 hc);have Hc:=kept hc;have hk1:k+1<s.size:=(Str.inB_true hc).1;have hg1:=Str.get_lt s (k+1) hk1;have hk':(k:Int)+1<s.size:=by omega
 have a0:=dvf s[k];have a1:=ajr s[k+1];obtain⟨u0,hu0⟩:∃u:Int,(s[k].toNat:Int)=u:=⟨_,rfl⟩;have Hu0:=kept hu0;have hu00:0<=u0:=by omega
 have hu01:u0<256:=by have:=s[k].toNat_lt;omega
 obtain⟨u1,hu1⟩:∃u:Int,(s[k+1].toNat:Int)=u:=⟨_,rfl⟩;have Hu1:=kept hu1;have hu10:0<=u1:=by omega
 have hu11:u1<256:=by have:=s[k+1].toNat_lt;omega
 have h1':194<=u0:=by omega
 have h2':u0<=223:=by omega
 rw[hu0]at a0;rw[hu1]at a1;have o1:bits .or .i64 ((u0%32)*64) ((u1%64))=(u0%32)*64+(u1%64):=aqt ((u0%32)) ((u1%64)) 64 6 (by decide) (by omega) (by omega) (by omega) (by omega) (by omega);have Hg1:=kept hg1;clear hg1;clear h1 h2 hc;go_enter Tryz.func183,Tryz.ntmps183;go_wp2_with fail;refine(azm _ _ _ _ (k+1) true _ (by omega) (by omega) Hc.out).mono ?_;rintro e w' ⟨rfl,rfl⟩;go_wp2
 go_ret2
 refine⟨?_,0,rfl⟩;rw[Hr.out];refine ajw _ _ _ _ ?_ rfl;have:=Hu0.out;have:=Hu1.out;have:=Hg1.out;omega
theorem byk(s:ByteArray)(k:Nat)(w:World)(hk:k<s.size)(hs:s.size<=1000000000)(h1:194<=s[k].toNat)(h2:s[k].toNat<=223)(hc:Str.inB s (k+1) 128 191=false):
  Calls Tryz.prog 183 #[.string s,.int .i64 k] w fun e w'=>e=DecEnd (Str.refDec s k)/\∃q,w'=w.drewN q:=by
 have Hr:=kept (Str.refDec_two_no s k hk h1 h2 hc);have Hc:=kept hc;have hk':(k:Int)<s.size:=by omega
 obtain⟨u0,hu0⟩:∃u:Int,(s[k].toNat:Int)=u:=⟨_,rfl⟩;have Hu0:=kept hu0;have hu00:0<=u0:=by omega
 have hu01:u0<256:=by have:=s[k].toNat_lt;omega
 have h1':194<=u0:=by omega
 have h2':u0<=223:=by omega
 clear h1 h2 hc;go_enter Tryz.func183,Tryz.ntmps183;go_wp2_with fail;refine(azm _ _ _ _ (k+1) false _ (by omega) (by omega) Hc.out).mono ?_;rintro e w' ⟨rfl,rfl⟩;go_wp2
 go_ret2
 exact⟨by rw[Hr.out];rfl,0,rfl⟩
theorem bks(s:ByteArray)(k:Nat)(w:World)(hk:k<s.size)(hs:s.size<=1000000000)(h1:s[k].toNat=224)(hc:Str.inB s (k+1) 160 191=true)(hd:Str.inB s (k+2) 128 191=true):
  Calls Tryz.prog 183 #[.string s,.int .i64 k] w fun e w'=>e=DecEnd (Str.refDec s k)/\∃q,w'=w.drewN q:=by
 have Hr:=kept (Str.refDec_three s k hk 160 191 (by omega) (by omega) (by simp[*]) (by simp[*]) hc hd);have Hc:=kept hc;have Hd:=kept hd;have hk1:k+1<s.size:=(Str.inB_true hc).1;have hg1:=Str.get_lt s (k+1) hk1;have hk2:k+2<s.size:=(Str.inB_true hd).1;have hg2:=Str.get_lt s (k+2) hk2;have hk':(k:Int)+2<s.size:=by omega
 have a0:=dq4 s[k];have a1:=ajr s[k+1];have a2:=ajr s[k+2];obtain⟨u0,hu0⟩:∃u:Int,(s[k].toNat:Int)=u:=⟨_,rfl⟩;have Hu0:=kept hu0;have hu00:0<=u0:=by omega
 have hu01:u0<256:=by have:=s[k].toNat_lt;omega
 obtain⟨u1,hu1⟩:∃u:Int,(s[k+1].toNat:Int)=u:=⟨_,rfl⟩;have Hu1:=kept hu1;have hu10:0<=u1:=by omega
 have hu11:u1<256:=by have:=s[k+1].toNat_lt;omega
 obtain⟨u2,hu2⟩:∃u:Int,(s[k+2].toNat:Int)=u:=⟨_,rfl⟩;have Hu2:=kept hu2;have hu20:0<=u2:=by omega
 have hu21:u2<256:=by have:=s[k+2].toNat_lt;omega
 rw[hu0]at a0;rw[hu1]at a1;rw[hu2]at a2;have h1':u0=224:=by omega
 subst h1';have o1:bits .or .i64 (0) (u1%64*64)=u1%64*64:=by have:=aqt (0) (u1%64*64) 4096 12 (by decide) (by omega) (by omega) (by omega) (by omega) (by omega);simpa using this
 have o2:bits .or .i64 (u1%64*64) (u2%64)=u1%64*64+u2%64:=by
  have:=aqt (0*64+u1%64) (u2%64) 64 6 (by decide) (by omega) (by omega) (by omega) (by omega) (by omega)
  rwa [show(0*64+u1%64)*((64:Nat):Int)=u1%64*64 by omega]at this
 have Hg1:=kept hg1;clear hg1;have Hg2:=kept hg2;clear hg2;clear h1 hc hd;go_enter Tryz.func183,Tryz.ntmps183;go_wp2_with fail;refine(azm _ _ _ _ (k+1) true _ (by omega) (by omega) Hc.out).mono ?_;rintro e w' ⟨rfl,rfl⟩;go_wp2_with fail;refine(azm _ _ _ _ (k+2) true _ (by omega) (by omega) Hd.out).mono ?_;rintro e w' ⟨rfl,rfl⟩;go_wp2;have i1:(0:Int)<=(k:Int)+1:=by omega
 have v1:(k:Int)+1<s.size:=by omega
 have w1:IntKind.i64.wrap ((k:Int)+1)=(k:Int)+1:=IntWalk.i64_in _ (by omega);have n1:((k:Int)+1).toNat=k+1:=by omega
 have i2:(0:Int)<=(k:Int)+2:=by omega
 have v2:(k:Int)+2<s.size:=by omega
 have w2:IntKind.i64.wrap ((k:Int)+2)=(k:Int)+2:=IntWalk.i64_in _ (by omega);have n2:((k:Int)+2).toNat=k+2:=by omega
 have s1:IntKind.i64.wrap (224%16*4096)=224%16*4096:=IntWalk.i64_in _ (by omega);have s2:IntKind.i64.wrap (u1%64*64)=u1%64*64:=IntWalk.i64_in _ (by omega)
 go_region
 clear w1 n1 w2 n2 s1 s2;go_wp2
 go_ret2
 refine⟨?_,_,rfl⟩;rw[Hr.out];refine ajw _ _ _ _ ?_ rfl;have:=Hu0.out;have:=Hu1.out;have:=Hg1.out;have:=Hu2.out;have:=Hg2.out;omega
theorem awy(s:ByteArray)(k:Nat)(w:World)(hk:k<s.size)(hs:s.size<=1000000000)(h1:s[k].toNat=224)(hc:Str.inB s (k+1) 160 191=false):
  Calls Tryz.prog 183 #[.string s,.int .i64 k] w fun e w'=>e=DecEnd (Str.refDec s k)/\∃q,w'=w.drewN q:=by
 have Hr:=kept (Str.refDec_three_no s k hk 160 191 (by omega) (by omega) (by simp[*]) (by simp[*]) (.inl hc));have Hc:=kept hc;have hk':(k:Int)<s.size:=by omega
 obtain⟨u0,hu0⟩:∃u:Int,(s[k].toNat:Int)=u:=⟨_,rfl⟩;have Hu0:=kept hu0;have hu00:0<=u0:=by omega
 have hu01:u0<256:=by have:=s[k].toNat_lt;omega
 have h1':u0=224:=by omega
 subst h1';clear h1 hc;go_enter Tryz.func183,Tryz.ntmps183;go_wp2_with fail;refine(azm _ _ _ _ (k+1) false _ (by omega) (by omega) Hc.out).mono ?_;rintro e w' ⟨rfl,rfl⟩;go_wp2
 go_ret2
 exact⟨by rw[Hr.out];rfl,0,rfl⟩
theorem ak4(s:ByteArray)(k:Nat)(w:World)(hk:k<s.size)(hs:s.size<=1000000000)(h1:s[k].toNat=224)(hc:Str.inB s (k+1) 160 191=true)(hd:Str.inB s (k+2) 128 191=false):
  Calls Tryz.prog 183 #[.string s,.int .i64 k] w fun e w'=>e=DecEnd (Str.refDec s k)/\∃q,w'=w.drewN q:=by
 have Hr:=kept (Str.refDec_three_no s k hk 160 191 (by omega) (by omega) (by simp[*]) (by simp[*]) (.inr hd));have Hc:=kept hc;have Hd:=kept hd;have hk':(k:Int)<s.size:=by omega
 obtain⟨u0,hu0⟩:∃u:Int,(s[k].toNat:Int)=u:=⟨_,rfl⟩;have Hu0:=kept hu0;have hu00:0<=u0:=by omega
 have hu01:u0<256:=by have:=s[k].toNat_lt;omega
 have h1':u0=224:=by omega
 subst h1';clear h1 hc hd;go_enter Tryz.func183,Tryz.ntmps183;go_wp2_with fail;refine(azm _ _ _ _ (k+1) true _ (by omega) (by omega) Hc.out).mono ?_;rintro e w' ⟨rfl,rfl⟩;go_wp2_with fail;refine(azm _ _ _ _ (k+2) false _ (by omega) (by omega) Hd.out).mono ?_;rintro e w' ⟨rfl,rfl⟩;go_wp2
 go_ret2
 exact⟨by rw[Hr.out];rfl,0,rfl⟩
theorem bkl(s:ByteArray)(k:Nat)(w:World)(hk:k<s.size)(hs:s.size<=1000000000)(h1:s[k].toNat=237)(hc:Str.inB s (k+1) 128 159=true)(hd:Str.inB s (k+2) 128 191=true):
  Calls Tryz.prog 183 #[.string s,.int .i64 k] w fun e w'=>e=DecEnd (Str.refDec s k)/\∃q,w'=w.drewN q:=by
 have Hr:=kept (Str.refDec_three s k hk 128 159 (by omega) (by omega) (by simp[*]) (by simp[*]) hc hd);have Hc:=kept hc;have Hd:=kept hd;have hk1:k+1<s.size:=(Str.inB_true hc).1;have hg1:=Str.get_lt s (k+1) hk1;have hk2:k+2<s.size:=(Str.inB_true hd).1;have hg2:=Str.get_lt s (k+2) hk2;have hk':(k:Int)+2<s.size:=by omega
 have a0:=dq4 s[k];have a1:=ajr s[k+1];have a2:=ajr s[k+2];obtain⟨u0,hu0⟩:∃u:Int,(s[k].toNat:Int)=u:=⟨_,rfl⟩;have Hu0:=kept hu0;have hu00:0<=u0:=by omega
 have hu01:u0<256:=by have:=s[k].toNat_lt;omega
 obtain⟨u1,hu1⟩:∃u:Int,(s[k+1].toNat:Int)=u:=⟨_,rfl⟩;have Hu1:=kept hu1;have hu10:0<=u1:=by omega
 have hu11:u1<256:=by have:=s[k+1].toNat_lt;omega
 obtain⟨u2,hu2⟩:∃u:Int,(s[k+2].toNat:Int)=u:=⟨_,rfl⟩;have Hu2:=kept hu2;have hu20:0<=u2:=by omega
 have hu21:u2<256:=by have:=s[k+2].toNat_lt;omega
 rw[hu0]at a0;rw[hu1]at a1;rw[hu2]at a2;have h1':u0=237:=by omega
 subst h1';have o1:bits .or .i64 (53248) (u1%64*64)=53248+u1%64*64:=by have:=aqt (13) (u1%64*64) 4096 12 (by decide) (by omega) (by omega) (by omega) (by omega) (by omega);simpa using this
 have o2:bits .or .i64 (53248+u1%64*64) (u2%64)=53248+u1%64*64+u2%64:=by
  have:=aqt (13*64+u1%64) (u2%64) 64 6 (by decide) (by omega) (by omega) (by omega) (by omega) (by omega)
  rwa [show(13*64+u1%64)*((64:Nat):Int)=53248+u1%64*64 by omega]at this
 have Hg1:=kept hg1;clear hg1;have Hg2:=kept hg2;clear hg2;clear h1 hc hd;go_enter Tryz.func183,Tryz.ntmps183;go_wp2_with fail;refine(azm _ _ _ _ (k+1) true _ (by omega) (by omega) Hc.out).mono ?_;rintro e w' ⟨rfl,rfl⟩;go_wp2_with fail;refine(azm _ _ _ _ (k+2) true _ (by omega) (by omega) Hd.out).mono ?_;rintro e w' ⟨rfl,rfl⟩;go_wp2;have i1:(0:Int)<=(k:Int)+1:=by omega
 have v1:(k:Int)+1<s.size:=by omega
 have w1:IntKind.i64.wrap ((k:Int)+1)=(k:Int)+1:=IntWalk.i64_in _ (by omega);have n1:((k:Int)+1).toNat=k+1:=by omega
 have i2:(0:Int)<=(k:Int)+2:=by omega
 have v2:(k:Int)+2<s.size:=by omega
 have w2:IntKind.i64.wrap ((k:Int)+2)=(k:Int)+2:=IntWalk.i64_in _ (by omega);have n2:((k:Int)+2).toNat=k+2:=by omega
 have s1:IntKind.i64.wrap (237%16*4096)=237%16*4096:=IntWalk.i64_in _ (by omega);have s2:IntKind.i64.wrap (u1%64*64)=u1%64*64:=IntWalk.i64_in _ (by omega)
 go_region
 clear w1 n1 w2 n2 s1 s2;go_wp2
 go_ret2
 refine⟨?_,_,rfl⟩;rw[Hr.out];refine ajw _ _ _ _ ?_ rfl;have:=Hu0.out;have:=Hu1.out;have:=Hg1.out;have:=Hu2.out;have:=Hg2.out;omega
theorem ak0(s:ByteArray)(k:Nat)(w:World)(hk:k<s.size)(hs:s.size<=1000000000)(h1:s[k].toNat=237)(hc:Str.inB s (k+1) 128 159=false):
  Calls Tryz.prog 183 #[.string s,.int .i64 k] w fun e w'=>e=DecEnd (Str.refDec s k)/\∃q,w'=w.drewN q:=by
 have Hr:=kept (Str.refDec_three_no s k hk 128 159 (by omega) (by omega) (by simp[*]) (by simp[*]) (.inl hc));have Hc:=kept hc;have hk':(k:Int)<s.size:=by omega
 obtain⟨u0,hu0⟩:∃u:Int,(s[k].toNat:Int)=u:=⟨_,rfl⟩;have Hu0:=kept hu0;have hu00:0<=u0:=by omega
 have hu01:u0<256:=by have:=s[k].toNat_lt;omega
 have h1':u0=237:=by omega
 subst h1';clear h1 hc;go_enter Tryz.func183,Tryz.ntmps183;go_wp2_with fail;refine(azm _ _ _ _ (k+1) false _ (by omega) (by omega) Hc.out).mono ?_;rintro e w' ⟨rfl,rfl⟩;go_wp2
 go_ret2
 exact⟨by rw[Hr.out];rfl,0,rfl⟩
theorem aw7(s:ByteArray)(k:Nat)(w:World)(hk:k<s.size)(hs:s.size<=1000000000)(h1:s[k].toNat=237)(hc:Str.inB s (k+1) 128 159=true)(hd:Str.inB s (k+2) 128 191=false):
  Calls Tryz.prog 183 #[.string s,.int .i64 k] w fun e w'=>e=DecEnd (Str.refDec s k)/\∃q,w'=w.drewN q:=by
 have Hr:=kept (Str.refDec_three_no s k hk 128 159 (by omega) (by omega) (by simp[*]) (by simp[*]) (.inr hd));have Hc:=kept hc;have Hd:=kept hd;have hk':(k:Int)<s.size:=by omega
 obtain⟨u0,hu0⟩:∃u:Int,(s[k].toNat:Int)=u:=⟨_,rfl⟩;have Hu0:=kept hu0;have hu00:0<=u0:=by omega
 have hu01:u0<256:=by have:=s[k].toNat_lt;omega
 have h1':u0=237:=by omega
 subst h1';clear h1 hc hd;go_enter Tryz.func183,Tryz.ntmps183;go_wp2_with fail;refine(azm _ _ _ _ (k+1) true _ (by omega) (by omega) Hc.out).mono ?_;rintro e w' ⟨rfl,rfl⟩;go_wp2_with fail;refine(azm _ _ _ _ (k+2) false _ (by omega) (by omega) Hd.out).mono ?_;rintro e w' ⟨rfl,rfl⟩;go_wp2
 go_ret2
 exact⟨by rw[Hr.out];rfl,0,rfl⟩
theorem bv9(s:ByteArray)(k:Nat)(w:World)(hk:k<s.size)(hs:s.size<=1000000000)(h1:224<=s[k].toNat)(h2:s[k].toNat<=239)(h3:s[k].toNat≠224)(h4:s[k].toNat≠237)(hc:Str.inB s (k+1) 128 191=true)(hd:Str.inB s (k+2) 128 191=true):
  Calls Tryz.prog 183 #[.string s,.int .i64 k] w fun e w'=>e=DecEnd (Str.refDec s k)/\∃q,w'=w.drewN q:=by
 have Hr:=kept (Str.refDec_three s k hk 128 191 (by omega) (by omega) (by simp[*]) (by simp[*]) hc hd);have Hc:=kept hc;have Hd:=kept hd;have hk1:k+1<s.size:=(Str.inB_true hc).1;have hg1:=Str.get_lt s (k+1) hk1;have hk2:k+2<s.size:=(Str.inB_true hd).1;have hg2:=Str.get_lt s (k+2) hk2;have hk':(k:Int)+2<s.size:=by omega
 have a0:=dq4 s[k];have a1:=ajr s[k+1];have a2:=ajr s[k+2];obtain⟨u0,hu0⟩:∃u:Int,(s[k].toNat:Int)=u:=⟨_,rfl⟩;have Hu0:=kept hu0;have hu00:0<=u0:=by omega
 have hu01:u0<256:=by have:=s[k].toNat_lt;omega
 obtain⟨u1,hu1⟩:∃u:Int,(s[k+1].toNat:Int)=u:=⟨_,rfl⟩;have Hu1:=kept hu1;have hu10:0<=u1:=by omega
 have hu11:u1<256:=by have:=s[k+1].toNat_lt;omega
 obtain⟨u2,hu2⟩:∃u:Int,(s[k+2].toNat:Int)=u:=⟨_,rfl⟩;have Hu2:=kept hu2;have hu20:0<=u2:=by omega
 have hu21:u2<256:=by have:=s[k+2].toNat_lt;omega
 rw[hu0]at a0;rw[hu1]at a1;rw[hu2]at a2;have h1':224<=u0:=by omega
 have h2':u0<=239:=by omega
 have h3':(u0==224)=false:=by simp;omega
 have h4':(u0==237)=false:=by simp;omega
 have h5':¬u0=224:=by omega
 have h6':¬u0=237:=by omega
 have o1:bits .or .i64 (u0%16*4096) (u1%64*64)=u0%16*4096+u1%64*64:=by have:=aqt ((u0%16)) (u1%64*64) 4096 12 (by decide) (by omega) (by omega) (by omega) (by omega) (by omega);simpa using this
 have o2:bits .or .i64 (u0%16*4096+u1%64*64) (u2%64)=u0%16*4096+u1%64*64+u2%64:=by
  have:=aqt ((u0%16)*64+u1%64) (u2%64) 64 6 (by decide) (by omega) (by omega) (by omega) (by omega) (by omega)
  rwa [show((u0%16)*64+u1%64)*((64:Nat):Int)=u0%16*4096+u1%64*64 by omega]at this
 have Hg1:=kept hg1;clear hg1;have Hg2:=kept hg2;clear hg2;clear h1 h2 h3 h4 hc hd;go_enter Tryz.func183,Tryz.ntmps183;go_wp2_with fail;refine(azm _ _ _ _ (k+1) true _ (by omega) (by omega) Hc.out).mono ?_;rintro e w' ⟨rfl,rfl⟩;go_wp2_with fail;refine(azm _ _ _ _ (k+2) true _ (by omega) (by omega) Hd.out).mono ?_;rintro e w' ⟨rfl,rfl⟩;go_wp2;have i1:(0:Int)<=(k:Int)+1:=by omega
 have v1:(k:Int)+1<s.size:=by omega
 have w1:IntKind.i64.wrap ((k:Int)+1)=(k:Int)+1:=IntWalk.i64_in _ (by omega);have n1:((k:Int)+1).toNat=k+1:=by omega
 have i2:(0:Int)<=(k:Int)+2:=by omega
 have v2:(k:Int)+2<s.size:=by omega
 have w2:IntKind.i64.wrap ((k:Int)+2)=(k:Int)+2:=IntWalk.i64_in _ (by omega);have n2:((k:Int)+2).toNat=k+2:=by omega
 have s1:IntKind.i64.wrap (u0%16*4096)=u0%16*4096:=IntWalk.i64_in _ (by omega);have s2:IntKind.i64.wrap (u1%64*64)=u1%64*64:=IntWalk.i64_in _ (by omega)
 go_region
 clear w1 n1 w2 n2 s1 s2;go_wp2
 go_ret2
 refine⟨?_,_,rfl⟩;rw[Hr.out];refine ajw _ _ _ _ ?_ rfl;have:=Hu0.out;have:=Hu1.out;have:=Hg1.out;have:=Hu2.out;have:=Hg2.out;omega
theorem awr(s:ByteArray)(k:Nat)(w:World)(hk:k<s.size)(hs:s.size<=1000000000)(h1:224<=s[k].toNat)(h2:s[k].toNat<=239)(h3:s[k].toNat≠224)(h4:s[k].toNat≠237)(hc:Str.inB s (k+1) 128 191=false):
  Calls Tryz.prog 183 #[.string s,.int .i64 k] w fun e w'=>e=DecEnd (Str.refDec s k)/\∃q,w'=w.drewN q:=by
 have Hr:=kept (Str.refDec_three_no s k hk 128 191 (by omega) (by omega) (by simp[*]) (by simp[*]) (.inl hc));have Hc:=kept hc;have hk':(k:Int)<s.size:=by omega
 obtain⟨u0,hu0⟩:∃u:Int,(s[k].toNat:Int)=u:=⟨_,rfl⟩;have Hu0:=kept hu0;have hu00:0<=u0:=by omega
 have hu01:u0<256:=by have:=s[k].toNat_lt;omega
 have h1':224<=u0:=by omega
 have h2':u0<=239:=by omega
 have h3':(u0==224)=false:=by simp;omega
 have h4':(u0==237)=false:=by simp;omega
 have h5':¬u0=224:=by omega
 have h6':¬u0=237:=by omega
 clear h1 h2 h3 h4 hc;go_enter Tryz.func183,Tryz.ntmps183;go_wp2_with fail;refine(azm _ _ _ _ (k+1) false _ (by omega) (by omega) Hc.out).mono ?_;rintro e w' ⟨rfl,rfl⟩;go_wp2
 go_ret2
 exact⟨by rw[Hr.out];rfl,0,rfl⟩
theorem aw1(s:ByteArray)(k:Nat)(w:World)(hk:k<s.size)(hs:s.size<=1000000000)(h1:224<=s[k].toNat)(h2:s[k].toNat<=239)(h3:s[k].toNat≠224)(h4:s[k].toNat≠237)(hc:Str.inB s (k+1) 128 191=true)(hd:Str.inB s (k+2) 128 191=false):
  Calls Tryz.prog 183 #[.string s,.int .i64 k] w fun e w'=>e=DecEnd (Str.refDec s k)/\∃q,w'=w.drewN q:=by
 have Hr:=kept (Str.refDec_three_no s k hk 128 191 (by omega) (by omega) (by simp[*]) (by simp[*]) (.inr hd));have Hc:=kept hc;have Hd:=kept hd;have hk':(k:Int)<s.size:=by omega
 obtain⟨u0,hu0⟩:∃u:Int,(s[k].toNat:Int)=u:=⟨_,rfl⟩;have Hu0:=kept hu0;have hu00:0<=u0:=by omega
 have hu01:u0<256:=by have:=s[k].toNat_lt;omega
 have h1':224<=u0:=by omega
 have h2':u0<=239:=by omega
 have h3':(u0==224)=false:=by simp;omega
 have h4':(u0==237)=false:=by simp;omega
 have h5':¬u0=224:=by omega
 have h6':¬u0=237:=by omega
 clear h1 h2 h3 h4 hc hd;go_enter Tryz.func183,Tryz.ntmps183;go_wp2_with fail;refine(azm _ _ _ _ (k+1) true _ (by omega) (by omega) Hc.out).mono ?_;rintro e w' ⟨rfl,rfl⟩;go_wp2_with fail;refine(azm _ _ _ _ (k+2) false _ (by omega) (by omega) Hd.out).mono ?_;rintro e w' ⟨rfl,rfl⟩;go_wp2
 go_ret2
 exact⟨by rw[Hr.out];rfl,0,rfl⟩
theorem by4(s:ByteArray)(k:Nat)(w:World)(hk:k<s.size)(hs:s.size<=1000000000)(h1:s[k].toNat=240)(hc:Str.inB s (k+1) 144 191=true)(hd:Str.inB s (k+2) 128 191=true)(he:Str.inB s (k+3) 128 191=true):
  Calls Tryz.prog 183 #[.string s,.int .i64 k] w fun e w'=>e=DecEnd (Str.refDec s k)/\∃q,w'=w.drewN q:=by
 have Hr:=kept (Str.refDec_four s k hk 144 191 (by omega) (by omega) (by simp[*]) (by simp[*]) hc hd he);have Hc:=kept hc;have Hd:=kept hd;have He:=kept he;have hk1:k+1<s.size:=(Str.inB_true hc).1;have hg1:=Str.get_lt s (k+1) hk1;have hk2:k+2<s.size:=(Str.inB_true hd).1;have hg2:=Str.get_lt s (k+2) hk2;have hk3:k+3<s.size:=(Str.inB_true he).1;have hg3:=Str.get_lt s (k+3) hk3;have hk':(k:Int)+3<s.size:=by omega
 have a0:=and7 s[k];have a1:=ajr s[k+1];have a2:=ajr s[k+2];have a3:=ajr s[k+3];obtain⟨u0,hu0⟩:∃u:Int,(s[k].toNat:Int)=u:=⟨_,rfl⟩;have Hu0:=kept hu0;have hu00:0<=u0:=by omega
 have hu01:u0<256:=by have:=s[k].toNat_lt;omega
 obtain⟨u1,hu1⟩:∃u:Int,(s[k+1].toNat:Int)=u:=⟨_,rfl⟩;have Hu1:=kept hu1;have hu10:0<=u1:=by omega
 have hu11:u1<256:=by have:=s[k+1].toNat_lt;omega
 obtain⟨u2,hu2⟩:∃u:Int,(s[k+2].toNat:Int)=u:=⟨_,rfl⟩;have Hu2:=kept hu2;have hu20:0<=u2:=by omega
 have hu21:u2<256:=by have:=s[k+2].toNat_lt;omega
 obtain⟨u3,hu3⟩:∃u:Int,(s[k+3].toNat:Int)=u:=⟨_,rfl⟩;have Hu3:=kept hu3;have hu30:0<=u3:=by omega
 have hu31:u3<256:=by have:=s[k+3].toNat_lt;omega
 rw[hu0]at a0;rw[hu1]at a1;rw[hu2]at a2;rw[hu3]at a3;have h1':u0=240:=by omega
 subst h1';have o1:bits .or .i64 (0) (u1%64*4096)=u1%64*4096:=by have:=aqt (0) (u1%64*4096) 262144 18 (by decide) (by omega) (by omega) (by omega) (by omega) (by omega);simpa using this
 have o2:bits .or .i64 (u1%64*4096) (u2%64*64)=u1%64*4096+u2%64*64:=by
  have:=aqt (0*64+u1%64) (u2%64*64) 4096 12 (by decide) (by omega) (by omega) (by omega) (by omega) (by omega)
  rwa [show(0*64+u1%64)*((4096:Nat):Int)=u1%64*4096 by omega]at this
 have o3:bits .or .i64 (u1%64*4096+u2%64*64) (u3%64)=u1%64*4096+u2%64*64+u3%64:=by
  have:=aqt (0*4096+u1%64*64+u2%64) (u3%64) 64 6 (by decide) (by omega) (by omega) (by omega) (by omega) (by omega)
  rwa [show(0*4096+u1%64*64+u2%64)*((64:Nat):Int)=u1%64*4096+u2%64*64 by omega]at this
 have Hg1:=kept hg1;clear hg1;have Hg2:=kept hg2;clear hg2;have Hg3:=kept hg3;clear hg3;clear h1 hc hd he;go_enter Tryz.func183,Tryz.ntmps183;go_wp2_with fail;refine(azm _ _ _ _ (k+1) true _ (by omega) (by omega) Hc.out).mono ?_;rintro e w' ⟨rfl,rfl⟩;go_wp2_with fail;refine(azm _ _ _ _ (k+2) true _ (by omega) (by omega) Hd.out).mono ?_;rintro e w' ⟨rfl,rfl⟩;go_wp2_with fail;refine(azm _ _ _ _ (k+3) true _ (by omega) (by omega) He.out).mono ?_;rintro e w' ⟨rfl,rfl⟩;go_wp2;have i1:(0:Int)<=(k:Int)+1:=by omega
 have v1:(k:Int)+1<s.size:=by omega
 have w1:IntKind.i64.wrap ((k:Int)+1)=(k:Int)+1:=IntWalk.i64_in _ (by omega);have n1:((k:Int)+1).toNat=k+1:=by omega
 have i2:(0:Int)<=(k:Int)+2:=by omega
 have v2:(k:Int)+2<s.size:=by omega
 have w2:IntKind.i64.wrap ((k:Int)+2)=(k:Int)+2:=IntWalk.i64_in _ (by omega);have n2:((k:Int)+2).toNat=k+2:=by omega
 have i3:(0:Int)<=(k:Int)+3:=by omega
 have v3:(k:Int)+3<s.size:=by omega
 have w3:IntKind.i64.wrap ((k:Int)+3)=(k:Int)+3:=IntWalk.i64_in _ (by omega);have n3:((k:Int)+3).toNat=k+3:=by omega
 have s1:IntKind.i64.wrap (240%8*262144)=240%8*262144:=IntWalk.i64_in _ (by omega);have s2:IntKind.i64.wrap (u1%64*4096)=u1%64*4096:=IntWalk.i64_in _ (by omega);have s3:IntKind.i64.wrap (u2%64*64)=u2%64*64:=IntWalk.i64_in _ (by omega)
 go_region
 clear w1 n1 w2 n2 w3 n3 s1 s2 s3;go_wp2
 go_ret2
 refine⟨?_,_,rfl⟩;rw[Hr.out];refine ajw _ _ _ _ ?_ rfl;have:=Hu0.out;have:=Hu1.out;have:=Hg1.out;have:=Hu2.out;have:=Hg2.out;have:=Hu3.out;have:=Hg3.out;omega
theorem ayu(s:ByteArray)(k:Nat)(w:World)(hk:k<s.size)(hs:s.size<=1000000000)(h1:s[k].toNat=240)(hc:Str.inB s (k+1) 144 191=false):
  Calls Tryz.prog 183 #[.string s,.int .i64 k] w fun e w'=>e=DecEnd (Str.refDec s k)/\∃q,w'=w.drewN q:=by
 have Hr:=kept (Str.refDec_four_no s k hk 144 191 (by omega) (by omega) (by simp[*]) (by simp[*]) (.inl hc));have Hc:=kept hc;have hk':(k:Int)<s.size:=by omega
 obtain⟨u0,hu0⟩:∃u:Int,(s[k].toNat:Int)=u:=⟨_,rfl⟩;have Hu0:=kept hu0;have hu00:0<=u0:=by omega
 have hu01:u0<256:=by have:=s[k].toNat_lt;omega
 have h1':u0=240:=by omega
 subst h1';clear h1 hc;go_enter Tryz.func183,Tryz.ntmps183;go_wp2_with fail;refine(azm _ _ _ _ (k+1) false _ (by omega) (by omega) Hc.out).mono ?_;rintro e w' ⟨rfl,rfl⟩;go_wp2
 go_ret2
 exact⟨by rw[Hr.out];rfl,0,rfl⟩
theorem aym(s:ByteArray)(k:Nat)(w:World)(hk:k<s.size)(hs:s.size<=1000000000)(h1:s[k].toNat=240)(hc:Str.inB s (k+1) 144 191=true)(hd:Str.inB s (k+2) 128 191=false):
  Calls Tryz.prog 183 #[.string s,.int .i64 k] w fun e w'=>e=DecEnd (Str.refDec s k)/\∃q,w'=w.drewN q:=by
 have Hr:=kept (Str.refDec_four_no s k hk 144 191 (by omega) (by omega) (by simp[*]) (by simp[*]) (.inr (.inl hd)));have Hc:=kept hc;have Hd:=kept hd;have hk':(k:Int)<s.size:=by omega
 obtain⟨u0,hu0⟩:∃u:Int,(s[k].toNat:Int)=u:=⟨_,rfl⟩;have Hu0:=kept hu0;have hu00:0<=u0:=by omega
 have hu01:u0<256:=by have:=s[k].toNat_lt;omega
 have h1':u0=240:=by omega
 subst h1';clear h1 hc hd;go_enter Tryz.func183,Tryz.ntmps183;go_wp2_with fail;refine(azm _ _ _ _ (k+1) true _ (by omega) (by omega) Hc.out).mono ?_;rintro e w' ⟨rfl,rfl⟩;go_wp2_with fail;refine(azm _ _ _ _ (k+2) false _ (by omega) (by omega) Hd.out).mono ?_;rintro e w' ⟨rfl,rfl⟩;go_wp2
 go_ret2
 exact⟨by rw[Hr.out];rfl,0,rfl⟩
theorem ayw(s:ByteArray)(k:Nat)(w:World)(hk:k<s.size)(hs:s.size<=1000000000)(h1:s[k].toNat=240)(hc:Str.inB s (k+1) 144 191=true)(hd:Str.inB s (k+2) 128 191=true)(he:Str.inB s (k+3) 128 191=false):
  Calls Tryz.prog 183 #[.string s,.int .i64 k] w fun e w'=>e=DecEnd (Str.refDec s k)/\∃q,w'=w.drewN q:=by
 have Hr:=kept (Str.refDec_four_no s k hk 144 191 (by omega) (by omega) (by simp[*]) (by simp[*]) (.inr (.inr he)));have Hc:=kept hc;have Hd:=kept hd;have He:=kept he;have hk':(k:Int)<s.size:=by omega
 obtain⟨u0,hu0⟩:∃u:Int,(s[k].toNat:Int)=u:=⟨_,rfl⟩;have Hu0:=kept hu0;have hu00:0<=u0:=by omega
 have hu01:u0<256:=by have:=s[k].toNat_lt;omega
 have h1':u0=240:=by omega
 subst h1';clear h1 hc hd he;go_enter Tryz.func183,Tryz.ntmps183;go_wp2_with fail;refine(azm _ _ _ _ (k+1) true _ (by omega) (by omega) Hc.out).mono ?_;rintro e w' ⟨rfl,rfl⟩;go_wp2_with fail;refine(azm _ _ _ _ (k+2) true _ (by omega) (by omega) Hd.out).mono ?_;rintro e w' ⟨rfl,rfl⟩;go_wp2_with fail;refine(azm _ _ _ _ (k+3) false _ (by omega) (by omega) He.out).mono ?_;rintro e w' ⟨rfl,rfl⟩;go_wp2
 go_ret2
 exact⟨by rw[Hr.out];rfl,0,rfl⟩
theorem byg(s:ByteArray)(k:Nat)(w:World)(hk:k<s.size)(hs:s.size<=1000000000)(h1:s[k].toNat=244)(hc:Str.inB s (k+1) 128 143=true)(hd:Str.inB s (k+2) 128 191=true)(he:Str.inB s (k+3) 128 191=true):
  Calls Tryz.prog 183 #[.string s,.int .i64 k] w fun e w'=>e=DecEnd (Str.refDec s k)/\∃q,w'=w.drewN q:=by
 have Hr:=kept (Str.refDec_four s k hk 128 143 (by omega) (by omega) (by simp[*]) (by simp[*]) hc hd he);have Hc:=kept hc;have Hd:=kept hd;have He:=kept he;have hk1:k+1<s.size:=(Str.inB_true hc).1;have hg1:=Str.get_lt s (k+1) hk1;have hk2:k+2<s.size:=(Str.inB_true hd).1;have hg2:=Str.get_lt s (k+2) hk2;have hk3:k+3<s.size:=(Str.inB_true he).1;have hg3:=Str.get_lt s (k+3) hk3;have hk':(k:Int)+3<s.size:=by omega
 have a0:=and7 s[k];have a1:=ajr s[k+1];have a2:=ajr s[k+2];have a3:=ajr s[k+3];obtain⟨u0,hu0⟩:∃u:Int,(s[k].toNat:Int)=u:=⟨_,rfl⟩;have Hu0:=kept hu0;have hu00:0<=u0:=by omega
 have hu01:u0<256:=by have:=s[k].toNat_lt;omega
 obtain⟨u1,hu1⟩:∃u:Int,(s[k+1].toNat:Int)=u:=⟨_,rfl⟩;have Hu1:=kept hu1;have hu10:0<=u1:=by omega
 have hu11:u1<256:=by have:=s[k+1].toNat_lt;omega
 obtain⟨u2,hu2⟩:∃u:Int,(s[k+2].toNat:Int)=u:=⟨_,rfl⟩;have Hu2:=kept hu2;have hu20:0<=u2:=by omega
 have hu21:u2<256:=by have:=s[k+2].toNat_lt;omega
 obtain⟨u3,hu3⟩:∃u:Int,(s[k+3].toNat:Int)=u:=⟨_,rfl⟩;have Hu3:=kept hu3;have hu30:0<=u3:=by omega
 have hu31:u3<256:=by have:=s[k+3].toNat_lt;omega
 rw[hu0]at a0;rw[hu1]at a1;rw[hu2]at a2;rw[hu3]at a3;have h1':u0=244:=by omega
 subst h1';have o1:bits .or .i64 (1048576) (u1%64*4096)=1048576+u1%64*4096:=by have:=aqt (4) (u1%64*4096) 262144 18 (by decide) (by omega) (by omega) (by omega) (by omega) (by omega);simpa using this
 have o2:bits .or .i64 (1048576+u1%64*4096) (u2%64*64)=1048576+u1%64*4096+u2%64*64:=by
  have:=aqt (4*64+u1%64) (u2%64*64) 4096 12 (by decide) (by omega) (by omega) (by omega) (by omega) (by omega)
  rwa [show(4*64+u1%64)*((4096:Nat):Int)=1048576+u1%64*4096 by omega]at this
 have o3:bits .or .i64 (1048576+u1%64*4096+u2%64*64) (u3%64)=1048576+u1%64*4096+u2%64*64+u3%64:=by
  have:=aqt (4*4096+u1%64*64+u2%64) (u3%64) 64 6 (by decide) (by omega) (by omega) (by omega) (by omega) (by omega)
  rwa [show(4*4096+u1%64*64+u2%64)*((64:Nat):Int)=1048576+u1%64*4096+u2%64*64 by omega]at this
 have Hg1:=kept hg1;clear hg1;have Hg2:=kept hg2;clear hg2;have Hg3:=kept hg3;clear hg3;clear h1 hc hd he;go_enter Tryz.func183,Tryz.ntmps183;go_wp2_with fail;refine(azm _ _ _ _ (k+1) true _ (by omega) (by omega) Hc.out).mono ?_;rintro e w' ⟨rfl,rfl⟩;go_wp2_with fail;refine(azm _ _ _ _ (k+2) true _ (by omega) (by omega) Hd.out).mono ?_;rintro e w' ⟨rfl,rfl⟩;go_wp2_with fail;refine(azm _ _ _ _ (k+3) true _ (by omega) (by omega) He.out).mono ?_;rintro e w' ⟨rfl,rfl⟩;go_wp2;have i1:(0:Int)<=(k:Int)+1:=by omega
 have v1:(k:Int)+1<s.size:=by omega
 have w1:IntKind.i64.wrap ((k:Int)+1)=(k:Int)+1:=IntWalk.i64_in _ (by omega);have n1:((k:Int)+1).toNat=k+1:=by omega
 have i2:(0:Int)<=(k:Int)+2:=by omega
 have v2:(k:Int)+2<s.size:=by omega
 have w2:IntKind.i64.wrap ((k:Int)+2)=(k:Int)+2:=IntWalk.i64_in _ (by omega);have n2:((k:Int)+2).toNat=k+2:=by omega
 have i3:(0:Int)<=(k:Int)+3:=by omega
 have v3:(k:Int)+3<s.size:=by omega
 have w3:IntKind.i64.wrap ((k:Int)+3)=(k:Int)+3:=IntWalk.i64_in _ (by omega);have n3:((k:Int)+3).toNat=k+3:=by omega
 have s1:IntKind.i64.wrap (244%8*262144)=244%8*262144:=IntWalk.i64_in _ (by omega);have s2:IntKind.i64.wrap (u1%64*4096)=u1%64*4096:=IntWalk.i64_in _ (by omega);have s3:IntKind.i64.wrap (u2%64*64)=u2%64*64:=IntWalk.i64_in _ (by omega)
 go_region
 clear w1 n1 w2 n2 w3 n3 s1 s2 s3;go_wp2
 go_ret2
 refine⟨?_,_,rfl⟩;rw[Hr.out];refine ajw _ _ _ _ ?_ rfl;have:=Hu0.out;have:=Hu1.out;have:=Hg1.out;have:=Hu2.out;have:=Hg2.out;have:=Hu3.out;have:=Hg3.out;omega
theorem ayp(s:ByteArray)(k:Nat)(w:World)(hk:k<s.size)(hs:s.size<=1000000000)(h1:s[k].toNat=244)(hc:Str.inB s (k+1) 128 143=false):
  Calls Tryz.prog 183 #[.string s,.int .i64 k] w fun e w'=>e=DecEnd (Str.refDec s k)/\∃q,w'=w.drewN q:=by
 have Hr:=kept (Str.refDec_four_no s k hk 128 143 (by omega) (by omega) (by simp[*]) (by simp[*]) (.inl hc));have Hc:=kept hc;have hk':(k:Int)<s.size:=by omega
 obtain⟨u0,hu0⟩:∃u:Int,(s[k].toNat:Int)=u:=⟨_,rfl⟩;have Hu0:=kept hu0;have hu00:0<=u0:=by omega
 have hu01:u0<256:=by have:=s[k].toNat_lt;omega
 have h1':u0=244:=by omega
 subst h1';clear h1 hc;go_enter Tryz.func183,Tryz.ntmps183;go_wp2_with fail;refine(azm _ _ _ _ (k+1) false _ (by omega) (by omega) Hc.out).mono ?_;rintro e w' ⟨rfl,rfl⟩;go_wp2
 go_ret2
 exact⟨by rw[Hr.out];rfl,0,rfl⟩
theorem ayq(s:ByteArray)(k:Nat)(w:World)(hk:k<s.size)(hs:s.size<=1000000000)(h1:s[k].toNat=244)(hc:Str.inB s (k+1) 128 143=true)(hd:Str.inB s (k+2) 128 191=false):
  Calls Tryz.prog 183 #[.string s,.int .i64 k] w fun e w'=>e=DecEnd (Str.refDec s k)/\∃q,w'=w.drewN q:=by
 have Hr:=kept (Str.refDec_four_no s k hk 128 143 (by omega) (by omega) (by simp[*]) (by simp[*]) (.inr (.inl hd)));have Hc:=kept hc;have Hd:=kept hd;have hk':(k:Int)<s.size:=by omega
 obtain⟨u0,hu0⟩:∃u:Int,(s[k].toNat:Int)=u:=⟨_,rfl⟩;have Hu0:=kept hu0;have hu00:0<=u0:=by omega
 have hu01:u0<256:=by have:=s[k].toNat_lt;omega
 have h1':u0=244:=by omega
 subst h1';clear h1 hc hd;go_enter Tryz.func183,Tryz.ntmps183;go_wp2_with fail;refine(azm _ _ _ _ (k+1) true _ (by omega) (by omega) Hc.out).mono ?_;rintro e w' ⟨rfl,rfl⟩;go_wp2_with fail;refine(azm _ _ _ _ (k+2) false _ (by omega) (by omega) Hd.out).mono ?_;rintro e w' ⟨rfl,rfl⟩;go_wp2
 go_ret2
 exact⟨by rw[Hr.out];rfl,0,rfl⟩
theorem ay0(s:ByteArray)(k:Nat)(w:World)(hk:k<s.size)(hs:s.size<=1000000000)(h1:s[k].toNat=244)(hc:Str.inB s (k+1) 128 143=true)(hd:Str.inB s (k+2) 128 191=true)(he:Str.inB s (k+3) 128 191=false):
  Calls Tryz.prog 183 #[.string s,.int .i64 k] w fun e w'=>e=DecEnd (Str.refDec s k)/\∃q,w'=w.drewN q:=by
 have Hr:=kept (Str.refDec_four_no s k hk 128 143 (by omega) (by omega) (by simp[*]) (by simp[*]) (.inr (.inr he)));have Hc:=kept hc;have Hd:=kept hd;have He:=kept he;have hk':(k:Int)<s.size:=by omega
 obtain⟨u0,hu0⟩:∃u:Int,(s[k].toNat:Int)=u:=⟨_,rfl⟩;have Hu0:=kept hu0;have hu00:0<=u0:=by omega
 have hu01:u0<256:=by have:=s[k].toNat_lt;omega
 have h1':u0=244:=by omega
 subst h1';clear h1 hc hd he;go_enter Tryz.func183,Tryz.ntmps183;go_wp2_with fail;refine(azm _ _ _ _ (k+1) true _ (by omega) (by omega) Hc.out).mono ?_;rintro e w' ⟨rfl,rfl⟩;go_wp2_with fail;refine(azm _ _ _ _ (k+2) true _ (by omega) (by omega) Hd.out).mono ?_;rintro e w' ⟨rfl,rfl⟩;go_wp2_with fail;refine(azm _ _ _ _ (k+3) false _ (by omega) (by omega) He.out).mono ?_;rintro e w' ⟨rfl,rfl⟩;go_wp2
 go_ret2
 exact⟨by rw[Hr.out];rfl,0,rfl⟩
theorem byj(s:ByteArray)(k:Nat)(w:World)(hk:k<s.size)(hs:s.size<=1000000000)(h1:240<=s[k].toNat)(h2:s[k].toNat<=244)(h3:s[k].toNat≠240)(h4:s[k].toNat≠244)(hc:Str.inB s (k+1) 128 191=true)(hd:Str.inB s (k+2) 128 191=true)(he:Str.inB s (k+3) 128 191=true):
  Calls Tryz.prog 183 #[.string s,.int .i64 k] w fun e w'=>e=DecEnd (Str.refDec s k)/\∃q,w'=w.drewN q:=by
 have Hr:=kept (Str.refDec_four s k hk 128 191 (by omega) (by omega) (by simp[*]) (by simp[*]) hc hd he);have Hc:=kept hc;have Hd:=kept hd;have He:=kept he;have hk1:k+1<s.size:=(Str.inB_true hc).1;have hg1:=Str.get_lt s (k+1) hk1;have hk2:k+2<s.size:=(Str.inB_true hd).1;have hg2:=Str.get_lt s (k+2) hk2;have hk3:k+3<s.size:=(Str.inB_true he).1;have hg3:=Str.get_lt s (k+3) hk3;have hk':(k:Int)+3<s.size:=by omega
 have a0:=and7 s[k];have a1:=ajr s[k+1];have a2:=ajr s[k+2];have a3:=ajr s[k+3];obtain⟨u0,hu0⟩:∃u:Int,(s[k].toNat:Int)=u:=⟨_,rfl⟩;have Hu0:=kept hu0;have hu00:0<=u0:=by omega
 have hu01:u0<256:=by have:=s[k].toNat_lt;omega
 obtain⟨u1,hu1⟩:∃u:Int,(s[k+1].toNat:Int)=u:=⟨_,rfl⟩;have Hu1:=kept hu1;have hu10:0<=u1:=by omega
 have hu11:u1<256:=by have:=s[k+1].toNat_lt;omega
 obtain⟨u2,hu2⟩:∃u:Int,(s[k+2].toNat:Int)=u:=⟨_,rfl⟩;have Hu2:=kept hu2;have hu20:0<=u2:=by omega
 have hu21:u2<256:=by have:=s[k+2].toNat_lt;omega
 obtain⟨u3,hu3⟩:∃u:Int,(s[k+3].toNat:Int)=u:=⟨_,rfl⟩;have Hu3:=kept hu3;have hu30:0<=u3:=by omega
 have hu31:u3<256:=by have:=s[k+3].toNat_lt;omega
 rw[hu0]at a0;rw[hu1]at a1;rw[hu2]at a2;rw[hu3]at a3;have h1':240<=u0:=by omega
 have h2':u0<=244:=by omega
 have h3':(u0==240)=false:=by simp;omega
 have h4':(u0==244)=false:=by simp;omega
 have h5':¬u0=240:=by omega
 have h6':¬u0=244:=by omega
 have o1:bits .or .i64 (u0%8*262144) (u1%64*4096)=u0%8*262144+u1%64*4096:=by have:=aqt ((u0%8)) (u1%64*4096) 262144 18 (by decide) (by omega) (by omega) (by omega) (by omega) (by omega);simpa using this
 have o2:bits .or .i64 (u0%8*262144+u1%64*4096) (u2%64*64)=u0%8*262144+u1%64*4096+u2%64*64:=by
  have:=aqt ((u0%8)*64+u1%64) (u2%64*64) 4096 12 (by decide) (by omega) (by omega) (by omega) (by omega) (by omega)
  rwa [show((u0%8)*64+u1%64)*((4096:Nat):Int)=u0%8*262144+u1%64*4096 by omega]at this
 have o3:bits .or .i64 (u0%8*262144+u1%64*4096+u2%64*64) (u3%64)=u0%8*262144+u1%64*4096+u2%64*64+u3%64:=by
  have:=aqt ((u0%8)*4096+u1%64*64+u2%64) (u3%64) 64 6 (by decide) (by omega) (by omega) (by omega) (by omega) (by omega)
  rwa [show((u0%8)*4096+u1%64*64+u2%64)*((64:Nat):Int)=u0%8*262144+u1%64*4096+u2%64*64 by omega]at this
 have Hg1:=kept hg1;clear hg1;have Hg2:=kept hg2;clear hg2;have Hg3:=kept hg3;clear hg3;clear h1 h2 h3 h4 hc hd he;go_enter Tryz.func183,Tryz.ntmps183;go_wp2_with fail;refine(azm _ _ _ _ (k+1) true _ (by omega) (by omega) Hc.out).mono ?_;rintro e w' ⟨rfl,rfl⟩;go_wp2_with fail;refine(azm _ _ _ _ (k+2) true _ (by omega) (by omega) Hd.out).mono ?_;rintro e w' ⟨rfl,rfl⟩;go_wp2_with fail;refine(azm _ _ _ _ (k+3) true _ (by omega) (by omega) He.out).mono ?_;rintro e w' ⟨rfl,rfl⟩;go_wp2;have i1:(0:Int)<=(k:Int)+1:=by omega
 have v1:(k:Int)+1<s.size:=by omega
 have w1:IntKind.i64.wrap ((k:Int)+1)=(k:Int)+1:=IntWalk.i64_in _ (by omega);have n1:((k:Int)+1).toNat=k+1:=by omega
 have i2:(0:Int)<=(k:Int)+2:=by omega
 have v2:(k:Int)+2<s.size:=by omega
 have w2:IntKind.i64.wrap ((k:Int)+2)=(k:Int)+2:=IntWalk.i64_in _ (by omega);have n2:((k:Int)+2).toNat=k+2:=by omega
 have i3:(0:Int)<=(k:Int)+3:=by omega
 have v3:(k:Int)+3<s.size:=by omega
 have w3:IntKind.i64.wrap ((k:Int)+3)=(k:Int)+3:=IntWalk.i64_in _ (by omega);have n3:((k:Int)+3).toNat=k+3:=by omega
 have s1:IntKind.i64.wrap (u0%8*262144)=u0%8*262144:=IntWalk.i64_in _ (by omega);have s2:IntKind.i64.wrap (u1%64*4096)=u1%64*4096:=IntWalk.i64_in _ (by omega);have s3:IntKind.i64.wrap (u2%64*64)=u2%64*64:=IntWalk.i64_in _ (by omega)
 go_region
 clear w1 n1 w2 n2 w3 n3 s1 s2 s3;go_wp2
 go_ret2
 refine⟨?_,_,rfl⟩;rw[Hr.out];refine ajw _ _ _ _ ?_ rfl;have:=Hu0.out;have:=Hu1.out;have:=Hg1.out;have:=Hu2.out;have:=Hg2.out;have:=Hu3.out;have:=Hg3.out;omega
theorem ayn(s:ByteArray)(k:Nat)(w:World)(hk:k<s.size)(hs:s.size<=1000000000)(h1:240<=s[k].toNat)(h2:s[k].toNat<=244)(h3:s[k].toNat≠240)(h4:s[k].toNat≠244)(hc:Str.inB s (k+1) 128 191=false):
  Calls Tryz.prog 183 #[.string s,.int .i64 k] w fun e w'=>e=DecEnd (Str.refDec s k)/\∃q,w'=w.drewN q:=by
 have Hr:=kept (Str.refDec_four_no s k hk 128 191 (by omega) (by omega) (by simp[*]) (by simp[*]) (.inl hc));have Hc:=kept hc;have hk':(k:Int)<s.size:=by omega
 obtain⟨u0,hu0⟩:∃u:Int,(s[k].toNat:Int)=u:=⟨_,rfl⟩;have Hu0:=kept hu0;have hu00:0<=u0:=by omega
 have hu01:u0<256:=by have:=s[k].toNat_lt;omega
 have h1':240<=u0:=by omega
 have h2':u0<=244:=by omega
 have h3':(u0==240)=false:=by simp;omega
 have h4':(u0==244)=false:=by simp;omega
 have h5':¬u0=240:=by omega
 have h6':¬u0=244:=by omega
 clear h1 h2 h3 h4 hc;go_enter Tryz.func183,Tryz.ntmps183;go_wp2_with fail;refine(azm _ _ _ _ (k+1) false _ (by omega) (by omega) Hc.out).mono ?_;rintro e w' ⟨rfl,rfl⟩;go_wp2
 go_ret2
 exact⟨by rw[Hr.out];rfl,0,rfl⟩
theorem ayt(s:ByteArray)(k:Nat)(w:World)(hk:k<s.size)(hs:s.size<=1000000000)(h1:240<=s[k].toNat)(h2:s[k].toNat<=244)(h3:s[k].toNat≠240)(h4:s[k].toNat≠244)(hc:Str.inB s (k+1) 128 191=true)(hd:Str.inB s (k+2) 128 191=false):
  Calls Tryz.prog 183 #[.string s,.int .i64 k] w fun e w'=>e=DecEnd (Str.refDec s k)/\∃q,w'=w.drewN q:=by
 have Hr:=kept (Str.refDec_four_no s k hk 128 191 (by omega) (by omega) (by simp[*]) (by simp[*]) (.inr (.inl hd)));have Hc:=kept hc;have Hd:=kept hd;have hk':(k:Int)<s.size:=by omega
 obtain⟨u0,hu0⟩:∃u:Int,(s[k].toNat:Int)=u:=⟨_,rfl⟩;have Hu0:=kept hu0;have hu00:0<=u0:=by omega
 have hu01:u0<256:=by have:=s[k].toNat_lt;omega
 have h1':240<=u0:=by omega
 have h2':u0<=244:=by omega
 have h3':(u0==240)=false:=by simp;omega
 have h4':(u0==244)=false:=by simp;omega
 have h5':¬u0=240:=by omega
 have h6':¬u0=244:=by omega
 clear h1 h2 h3 h4 hc hd;go_enter Tryz.func183,Tryz.ntmps183;go_wp2_with fail;refine(azm _ _ _ _ (k+1) true _ (by omega) (by omega) Hc.out).mono ?_;rintro e w' ⟨rfl,rfl⟩;go_wp2_with fail;refine(azm _ _ _ _ (k+2) false _ (by omega) (by omega) Hd.out).mono ?_;rintro e w' ⟨rfl,rfl⟩;go_wp2
 go_ret2
 exact⟨by rw[Hr.out];rfl,0,rfl⟩
theorem ayx(s:ByteArray)(k:Nat)(w:World)(hk:k<s.size)(hs:s.size<=1000000000)(h1:240<=s[k].toNat)(h2:s[k].toNat<=244)(h3:s[k].toNat≠240)(h4:s[k].toNat≠244)(hc:Str.inB s (k+1) 128 191=true)(hd:Str.inB s (k+2) 128 191=true)(he:Str.inB s (k+3) 128 191=false):
  Calls Tryz.prog 183 #[.string s,.int .i64 k] w fun e w'=>e=DecEnd (Str.refDec s k)/\∃q,w'=w.drewN q:=by
 have Hr:=kept (Str.refDec_four_no s k hk 128 191 (by omega) (by omega) (by simp[*]) (by simp[*]) (.inr (.inr he)));have Hc:=kept hc;have Hd:=kept hd;have He:=kept he;have hk':(k:Int)<s.size:=by omega
 obtain⟨u0,hu0⟩:∃u:Int,(s[k].toNat:Int)=u:=⟨_,rfl⟩;have Hu0:=kept hu0;have hu00:0<=u0:=by omega
 have hu01:u0<256:=by have:=s[k].toNat_lt;omega
 have h1':240<=u0:=by omega
 have h2':u0<=244:=by omega
 have h3':(u0==240)=false:=by simp;omega
 have h4':(u0==244)=false:=by simp;omega
 have h5':¬u0=240:=by omega
 have h6':¬u0=244:=by omega
 clear h1 h2 h3 h4 hc hd he;go_enter Tryz.func183,Tryz.ntmps183;go_wp2_with fail;refine(azm _ _ _ _ (k+1) true _ (by omega) (by omega) Hc.out).mono ?_;rintro e w' ⟨rfl,rfl⟩;go_wp2_with fail;refine(azm _ _ _ _ (k+2) true _ (by omega) (by omega) Hd.out).mono ?_;rintro e w' ⟨rfl,rfl⟩;go_wp2_with fail;refine(azm _ _ _ _ (k+3) false _ (by omega) (by omega) He.out).mono ?_;rintro e w' ⟨rfl,rfl⟩;go_wp2
 go_ret2
 exact⟨by rw[Hr.out];rfl,0,rfl⟩
theorem cj0(s:ByteArray)(k:Nat)(w:World)(hk:k<s.size)(h1:128<=s[k].toNat)(h2:s[k].toNat<194):
  Calls Tryz.prog 183 #[.string s,.int .i64 k] w fun e w'=>e=DecEnd (Str.refDec s k)/\∃q,w'=w.drewN q:=by
 have Hr:=kept (Str.refDec_lead s k hk (.inl ⟨h1,h2⟩));have hk':(k:Int)<s.size:=by omega
 obtain⟨u0,hu0⟩:∃u:Int,(s[k].toNat:Int)=u:=⟨_,rfl⟩;have Hu0:=kept hu0;have hu00:0<=u0:=by omega
 have hu01:u0<256:=by have:=s[k].toNat_lt;omega
 have h1':128<=u0:=by omega
 have h2':u0<194:=by omega
 clear h1 h2;go_enter Tryz.func183,Tryz.ntmps183;go_wp2
 go_ret2
 exact⟨by rw[Hr.out];rfl,0,rfl⟩
theorem czv(s:ByteArray)(k:Nat)(w:World)(hk:k<s.size)(h1:245<=s[k].toNat):
  Calls Tryz.prog 183 #[.string s,.int .i64 k] w fun e w'=>e=DecEnd (Str.refDec s k)/\∃q,w'=w.drewN q:=by
 have Hr:=kept (Str.refDec_lead s k hk (.inr h1));have hk':(k:Int)<s.size:=by omega
 obtain⟨u0,hu0⟩:∃u:Int,(s[k].toNat:Int)=u:=⟨_,rfl⟩;have Hu0:=kept hu0;have hu00:0<=u0:=by omega
 have hu01:u0<256:=by have:=s[k].toNat_lt;omega
 have h1':245<=u0:=by omega
 clear h1;go_enter Tryz.func183,Tryz.ntmps183;go_wp2
 go_ret2
 exact⟨by rw[Hr.out];rfl,0,rfl⟩
theorem azl(b:Bool):b=true\/b=false:=by cases b<;>simp
theorem decode_any(s:ByteArray)(k:Nat)(w:World)(hs:s.size<=1000000000):
  Calls Tryz.prog 183 #[.string s,.int .i64 k] w fun e w'=>e=DecEnd (Str.refDec s k)/\∃q,w'=w.drewN q:=by
 by_cases hk:k<s.size
 ·have hb:=s[k].toNat_lt;by_cases h1:s[k].toNat<128
  ·exact cqo s k w hk h1
  by_cases h2:s[k].toNat<194
  ·exact cj0 s k w hk (by omega) h2
  by_cases h3:s[k].toNat<=223
  ·rcases azl (Str.inB s (k+1) 128 191)with hc|hc
   ·exact cy6 s k w hk hs (by omega) h3 hc
   ·exact byk s k w hk hs (by omega) h3 hc
  by_cases h4:s[k].toNat<=239
  ·by_cases ha:s[k].toNat=224
   ·rcases azl (Str.inB s (k+1) 160 191)with hc|hc
    ·rcases azl (Str.inB s (k+2) 128 191)with hd|hd
     ·exact bks s k w hk hs ha hc hd
     ·exact ak4 s k w hk hs ha hc hd
    ·exact awy s k w hk hs ha hc
   ·by_cases hbb:s[k].toNat=237
    ·rcases azl (Str.inB s (k+1) 128 159)with hc|hc
     ·rcases azl (Str.inB s (k+2) 128 191)with hd|hd
      ·exact bkl s k w hk hs hbb hc hd
      ·exact aw7 s k w hk hs hbb hc hd
     ·exact ak0 s k w hk hs hbb hc
    ·rcases azl (Str.inB s (k+1) 128 191)with hc|hc
     ·rcases azl (Str.inB s (k+2) 128 191)with hd|hd
      ·exact bv9 s k w hk hs (by omega) h4 ha hbb hc hd
      ·exact aw1 s k w hk hs (by omega) h4 ha hbb hc hd
     ·exact awr s k w hk hs (by omega) h4 ha hbb hc
  by_cases h5:s[k].toNat<=244
  ·by_cases ha:s[k].toNat=240
   ·rcases azl (Str.inB s (k+1) 144 191)with hc|hc
    ·rcases azl (Str.inB s (k+2) 128 191)with hd|hd
     ·rcases azl (Str.inB s (k+3) 128 191)with he|he
      ·exact by4 s k w hk hs ha hc hd he
      ·exact ayw s k w hk hs ha hc hd he
     ·exact aym s k w hk hs ha hc hd
    ·exact ayu s k w hk hs ha hc
   ·by_cases hbb:s[k].toNat=244
    ·rcases azl (Str.inB s (k+1) 128 143)with hc|hc
     ·rcases azl (Str.inB s (k+2) 128 191)with hd|hd
      ·rcases azl (Str.inB s (k+3) 128 191)with he|he
       ·exact byg s k w hk hs hbb hc hd he
       ·exact ay0 s k w hk hs hbb hc hd he
      ·exact ayq s k w hk hs hbb hc hd
     ·exact ayp s k w hk hs hbb hc
    ·rcases azl (Str.inB s (k+1) 128 191)with hc|hc
     ·rcases azl (Str.inB s (k+2) 128 191)with hd|hd
      ·rcases azl (Str.inB s (k+3) 128 191)with he|he
       ·exact byj s k w hk hs (by omega) h5 ha hbb hc hd he
       ·exact ayx s k w hk hs (by omega) h5 ha hbb hc hd he
      ·exact ayt s k w hk hs (by omega) h5 ha hbb hc hd
     ·exact ayn s k w hk hs (by omega) h5 ha hbb hc
  exact czv s k w hk (by omega)
 ·exact dzf s k w hk
theorem bzc(s:ByteArray)(k c n:Nat)(w:World)(hs:s.size<=1000000000)(h:Str.refDec s k=(c,n)):
  Calls Tryz.prog 183 #[.string s,.int .i64 k] w fun e w'=>e=.returned (.tuple #[.int .i64 c,.int .i64 n])/\Below w.heap.size w w':=by
 refine(decode_any s k w hs).mono fun e w' ⟨he,q,hw⟩=>?_
 subst hw;exact⟨by rw[he,h];rfl,below_drewN (Below.refl _ _) _⟩
theorem bxf(s:ByteArray)(w:World)(hs:s.size<=2000000):
  Calls Tryz.prog 165 #[.string s] w fun e w'=>e=.returned (.bool (Str.valid s.data.toList))/\Below w.heap.size w w':=by
 by_cases h4:s.size<=4096
 ·have Hv:=kept (show Str.valid s.data.toList=Lib.validD s.data.toList by simp[Str.valid,h4]);go_enter Tryz.func165,Tryz.ntmps165;go_wp2
  go_loopw [3] (fun i wr=>∃k:Nat,k<=s.size/\i=.int .i64 k/\Lib.validD (s.data.toList.drop k)=Lib.validD s.data.toList/\Below w.heap.size w wr) (fun i _=>s.size-(intOf i).toNat)
  case atStart=>exact⟨0,by omega,rfl,rfl,Below.refl _ _⟩
  case round=>
   obtain⟨k,hk,rfl,hval,hbel⟩:=hrel;have Hval:=kept hval;have Hl:=kept hbel;clear hval hbel;by_cases hlt:k<s.size
   ·have hlt':(k:Int)<s.size:=by omega
    have Hst:=kept (Str.valid_at s k hlt);have hwd:=Str.dec_width s k hlt;generalize hd:Utf8.decode s k=d at Hst hwd;obtain⟨c,n⟩:=d;rcases Str.refDec_cases s k hlt with⟨hb,he⟩|⟨hb,he⟩
    ·have He:=kept he;rw[hd]at hb;have Hf:=kept (show Lib.validD s.data.toList=false by rw[<-Hval.out,Hst.out,if_pos hb]);clear hb he hd hwd;go_wp2_with fail;refine(bzc _ _ 0 0 _ (by omega) He.out).mono ?_;rintro e w1 ⟨rfl,b1⟩;have B1:=kept b1;clear b1;go_wp2
     go_ret
     exact⟨az8 (by rw[Hv.out,Hf.out]),bthen Hl.out B1.out⟩
    ·rw[hd]at hb he;have He:=kept he;have Hf:=kept (show Lib.validD (s.data.toList.drop (k+n))=Lib.validD s.data.toList by rw[<-Hval.out,Hst.out,if_neg hb]);have hw1:1<=n:=hwd.1;have hw2:(k:Int)+n<=s.size:=by have:=hwd.2;simp only at this;omega
     have hnz:((n:Int)==0)=false:=by simp;omega
     have hnz2:¬(n:Int)=0:=by omega
     clear hb he hd hwd;go_wp2_with fail;refine(bzc _ _ c n _ (by omega) He.out).mono ?_;rintro e w1 ⟨rfl,b1⟩;have B1:=kept b1;clear b1;go_wp2
     go_roundw
     case rel=>exact⟨k+n,by omega,by go_num,Hf.out,bthen Hl.out B1.out⟩
     case measure=>simp[intOf];omega
   ·have Hf:=kept (show Lib.validD s.data.toList=true by rw[<-Hval.out,ZQ (by simp;omega)];rfl);go_wp2
    go_ret
    exact⟨az8 (by rw[Hv.out,Hf.out]),Hl.out⟩
 ·have Hv:=kept (show Str.valid s.data.toList=false by simp[Str.valid];omega);go_enter Tryz.func165,Tryz.ntmps165;go_wp2
  go_ret
  exact⟨az8 Hv.out.symm,Below.refl _ _⟩
theorem bju(s:ByteArray)(w:World)(hs:s.size<=2000000)(g:Lib.Utf8Tabs 1 2 w):
  Calls Tryz.prog 79 #[.string s] w fun e w'=>e=.returned (.bool (Str.valid s.data.toList))/\Below w.heap.size w w':=by
 by_cases h4:s.size<=4096
 ·have Hv:=kept (show Str.valid s.data.toList=Lib.validD s.data.toList by simp[Str.valid,h4]);have G:=kept g;clear g;go_enter Tryz.func79,Tryz.ntmps79;go_wp2_with fail;refine(Tryz.utf8_ValidString s _ (by omega) G.out).mono ?_;rintro e w1 ⟨rfl,b1⟩;have B1:=kept b1;clear b1;go_wp2
  go_ret
  exact⟨az8 Hv.out.symm,B1.out⟩
 ·have Hv:=kept (show Str.valid s.data.toList=false by simp[Str.valid];omega);go_enter Tryz.func79,Tryz.ntmps79;go_wp2
  go_ret
  exact⟨az8 Hv.out.symm,Below.refl _ _⟩
end Go.Proofs.YthhpocnmfknalaaGreatDoor
