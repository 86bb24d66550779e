/- Part of what the proof needs. -/
import Derived.Test.YtnghhnahdjjpkaaGreatDoorMFrRecoveryReplaysUpto0
import Derived.Test.YtnghhnahdjjpkaaGreatDoorMFrRecoveryReplaysUptoE
import Derived.Test.YtnghhnahdjjpkaaGreatDoorMFrRecoveryReplaysUptoF
import Derived.Test.YtnghhnahdjjpkaaGreatDoorMFrRecoveryReplaysUptoG
import Derived.Test.YtnghhnahdjjpkaaGreatDoorMFrRecoveryReplaysUptoJ
import Derived.Test.YtnghhnahdjjpkaaGreatDoorProg
import Derived.KernelRfl
import Derived.Test.YtnghhnahdjjpkaaGreatDoorCards
import Derived.Test.YtnghhnahdjjpkaaGreatDoorTie
import Derived.ProofKit
import Derived.OpenShut
import Derived.ShutString
import Derived.ChangeOld
import Derived.Below
import Derived.Deep.DeepHandedRow
import Derived.Lib.LaidU8
import Derived.MakeChecks
import Derived.Shelf.Unicode.DecodeSlow
set_option maxHeartbeats 4000000
set_option maxRecDepth 100000
set_option linter.all false
namespace Go.Proofs.YtnghhnahdjjpkaaGreatDoor
section
open Go.RowKit
def strsA(l:List (List UInt8)):List (List AX.A):=l.map fun s=>[.str s]
mutual
def V.cells:V→List AX.A
 |.mk k n s is ks=>[.int .i64 k,.int .i64 n,.str s,.sl 5 .no (V.cellss is),.sl 1 .no (strsA ks)]
def V.cellss:List V→List (List AX.A)
 |[]=>[]
 |v::l=>v.cells::V.cellss l
end
def V.A(v:V):AX.A:=.agg v.cells
theorem V.cellss_map:∀l:List V,V.cellss l=l.map V.cells
 |[]=>rfl
 |v::l=>by rw[V.cellss,V.cellss_map l];rfl
theorem V.cellss_length(l:List V):(V.cellss l).length=l.length:=by rw[V.cellss_map];simp
theorem azh(l:List (List UInt8)):(strsA l).length=l.length:=by simp[strsA]
theorem az1(l:List (List UInt8))(i:Nat)(h:i<l.length):(strsA l).getD i []=[.str l[i]]:=by simp[strsA,List.getD,h]
theorem V.cellss_get(l:List V)(i:Nat)(h:i<l.length):(V.cellss l).getD i []=l[i].cells:=by rw[V.cellss_map];simp[List.getD,h]
theorem V.pure(v:V):v.A.pure=true:=by cases v;unfold V.A V.cells;rfl
mutual
def V.lens:V→Prop
 |.mk k n s is ks=>is.length≤maxLen∧ks.length≤maxLen∧s.length≤maxLen∧(∀q∈ks,q.length≤maxLen)∧V.lensS is
def V.lensS:List V→Prop
 |[]=>True
 |v::l=>v.lens∧V.lensS l
end
theorem V.lensS_mem:∀{l:List V},V.lensS l→∀x∈l,x.lens
 |[],_=>by simp
 |v::l,h=>by
  unfold V.lensS at h;exact YV.2 ⟨h.1,V.lensS_mem h.2⟩
theorem V.lens_mk{k n:Int}{s:List UInt8}{is:List V}{ks:List (List UInt8)}(h:(V.mk k n s is ks).lens):is.length≤9223372036854775807∧ks.length≤9223372036854775807∧s.length≤9223372036854775807∧(∀x∈is,x.lens):=by
 unfold V.lens at h;simp only[maxLen]at h;exact⟨by omega,by omega,by omega,V.lensS_mem h.2.2.2.2⟩
def IfaceAt(g:Nat)(w:World):Prop:=∃ev,w.cell? ⟨g,0,none⟩=some ev∧(ev=.nilIface∨∃te pe,ev=.iface te pe)
structure GT(w:World):Prop where
 tabs:Lib.Utf8Tabs 0 1 w
 esyn:IfaceAt 3 w
 erng:IfaceAt 4 w
 tz:w.cell? ⟨7,15,none⟩=some (.int .u8 4)
namespace AX
abbrev AT(f:FuncId)(l:List A)(h:Hp)(x:A):Prop:=ACall Tryz.prog GT f l h fun v h'=>v=x∧h'=h
abbrev AC:=ACall Tryz.prog GT
theorem Fn{v:A}{Q:A→Prop}(h:Q v):∃a,le v a∧Q a:=⟨_,le_refl _,h⟩
theorem mixedT:Tryz.prog.follows Departure.mixedOrders=true:=by kernel_rfl
theorem fo{G:World→Prop}{f:FuncId}{args:List A}{h:Hp}{Q:A→Hp→Prop}{n:Nat}{code:ACode}{res:List ARes}(k:awp Tryz.prog G code (finQ res Q) (initTs args) h)(hc:compFn Tryz.prog f=some ⟨n,code,res⟩:=by set_option maxRecDepth 1000000 in (conv=>lhs;cbv))(hl:args.length≤n:=by simp):ACall Tryz.prog G f args h Q:=azb mixedT hc hl k
theorem av9{x:A}{v:Value}(h:∀C c,Rep C x c→c=v):∀C cs,RepL C [x] cs→cs=[v]:=fun C cs hr=>by
 obtain⟨c,cs',rfl,h1,h2⟩:=repL_cons.1 hr;rw[repL_nil]at h2;subst h2;rw[h C c h1]
theorem djm{x y:A}{v u:Value}(h:∀C c,Rep C x c→c=v)(h':∀C c,Rep C y c→c=u):∀C cs,RepL C [x,y] cs→cs=[v,u]:=fun C cs hr=>by
 obtain⟨c,cs',rfl,h1,h2⟩:=repL_cons.1 hr;rw[av9 h' C cs' h2,h C c h1]
theorem ajr{l:List UInt8}:∀C c,Rep C (.str l) c→c=.string ⟨l.toArray⟩:=fun C c h=>rep_str.1 h
theorem dj7{k:IntKind}{n:Int}:∀C c,Rep C (.int k n) c→c=.int k n:=fun C c h=>rep_int.1 h
theorem cjt(s:List UInt8)(hl:s.length≤2000000)(h:Hp):ACall Tryz.prog GT 53 [.str s] h fun v h'=>v=.bool (Str.valid s)∧h'=h:=
 azx (av9 ajr) (fun w hg=>bva ⟨s.toArray⟩ w (by rw[size_mk];exact hl) hg.tabs) (fun C=>aqh.2 rfl) h
theorem bqo(s:List UInt8)(hl:s.length≤2000000)(h:Hp):ACall Tryz.prog GT 80 [.str s] h fun v h'=>v=.bool (Str.valid s)∧h'=h:=
 azx (av9 ajr) (fun w hg=>akx ⟨s.toArray⟩ w (by rw[size_mk];exact hl)) (fun C=>aqh.2 rfl) h
theorem cj0(s:List UInt8)(h:Hp):ACall Tryz.prog GT 137 [.str s] h fun v h'=>v=.int .i64 (Val.textZ s)∧h'=h:=
 azx (av9 ajr) (fun w hg=>dqh s w hg.tabs) (fun C=>rep_int.2 rfl) h
theorem cwn(s:List UInt8)(h:Hp):ACall Tryz.prog GT 191 [.str s] h fun v h'=>v=.int .i64 (Val.textZ s)∧h'=h:=
 azx (av9 ajr) (fun w hg=>bwk s w) (fun C=>rep_int.2 rfl) h
theorem dzs(n:Int)(h:Hp):ACall Tryz.prog GT 135 [.int .i64 n] h fun v h'=>v=.bool (decide (-9007199254740992≤n∧n≤9007199254740992))∧h'=h:=
 azx (av9 dj7) (fun w hg=>(ax2 n w).mono fun e w' ⟨h1,h2⟩=>⟨h1,by rw[h2];exact Below.refl _ _⟩) (fun C=>aqh.2 rfl) h
theorem bkv(n:Int)(h:Hp):ACall Tryz.prog GT 158 [.int .i64 n] h fun v h'=>v=.bool (decide (-9007199254740992≤n∧n≤9007199254740992))∧h'=h:=
 azx (av9 dj7) (fun w hg=>(aw5 n w).mono fun e w' ⟨h1,h2⟩=>⟨h1,by rw[h2];exact Below.refl _ _⟩) (fun C=>aqh.2 rfl) h
theorem cy6(k n:Int)(s:List UInt8)(o o':Own)(W W':Nat)(rs rs':List (List A))(h:Hp):ACall Tryz.prog GT 136 [.agg [.int .i64 k,.int .i64 n,.str s,.sl W o rs,.sl W' o' rs']] h fun v h'=>v=.bool (Val.shapedB k n s rs.length rs'.length)∧h'=h:=by
 intro C cs hI ha;obtain⟨c,cs',rfl,h1,h2⟩:=repL_cons.1 ha;rw[repL_nil]at h2;subst h2;obtain⟨ds,rfl,h3⟩:=rep_agg.1 h1;obtain⟨c0,d0,rfl,e0,h3⟩:=repL_cons.1 h3;obtain⟨c1,d1,rfl,e1,h3⟩:=repL_cons.1 h3;obtain⟨c2,d2,rfl,e2,h3⟩:=repL_cons.1 h3;obtain⟨c3,d3,rfl,e3,h3⟩:=repL_cons.1 h3;obtain⟨c4,d4,rfl,e4,h3⟩:=repL_cons.1 h3;rw[repL_nil]at h3;subst h3;rw[rep_int]at e0 e1;rw[rep_str]at e2;subst e0;subst e1;subst e2;obtain⟨a,ca,rfl,_⟩:=rep_sl.1 e3;obtain⟨b,cb,rfl,_⟩:=rep_sl.1 e4;refine(cqz k n s a b rs.length ca rs'.length cb C.w).mono ?_;rintro e w' ⟨rfl,hb⟩;obtain⟨i1,s1⟩:=az3 hI hb;exact⟨C.at w',h,_,_,rfl,rfl,i1,s1,aqh.2 rfl,rfl,rfl⟩
theorem byi(k n:Int)(s:List UInt8)(o o':Own)(W W':Nat)(rs rs':List (List A))(h:Hp):ACall Tryz.prog GT 190 [.agg [.int .i64 k,.int .i64 n,.str s,.sl W o rs,.sl W' o' rs']] h fun v h'=>v=.bool (Val.shapedB k n s rs.length rs'.length)∧h'=h:=by
 intro C cs hI ha;obtain⟨c,cs',rfl,h1,h2⟩:=repL_cons.1 ha;rw[repL_nil]at h2;subst h2;obtain⟨ds,rfl,h3⟩:=rep_agg.1 h1;obtain⟨c0,d0,rfl,e0,h3⟩:=repL_cons.1 h3;obtain⟨c1,d1,rfl,e1,h3⟩:=repL_cons.1 h3;obtain⟨c2,d2,rfl,e2,h3⟩:=repL_cons.1 h3;obtain⟨c3,d3,rfl,e3,h3⟩:=repL_cons.1 h3;obtain⟨c4,d4,rfl,e4,h3⟩:=repL_cons.1 h3;rw[repL_nil]at h3;subst h3;rw[rep_int]at e0 e1;rw[rep_str]at e2;subst e0;subst e1;subst e2;obtain⟨a,ca,rfl,_⟩:=rep_sl.1 e3;obtain⟨b,cb,rfl,_⟩:=rep_sl.1 e4;refine(bje k n s a b rs.length ca rs'.length cb C.w).mono ?_;rintro e w' ⟨rfl,hb⟩;obtain⟨i1,s1⟩:=az3 hI hb;exact⟨C.at w',h,_,_,rfl,rfl,i1,s1,aqh.2 rfl,rfl,rfl⟩
def dead:Blk:=.opq (fun _ _ _=>True) (fun _=>none)
end AX
end
section
open Go.ChangeShapes Go.WideShapes Go.ChangeAt Go.RowKit
namespace Card
theorem own:ownKnob Tryz.prog.godebug=none:=by kernel_rfl
theorem first_eq:Go.Pinned.utf8First=Lib.firstData:=by kernel_rfl
theorem accept_eq:(Rows.laid_unicode_utf8_acceptRanges:DataW Unit)=Lib.acceptData:=by kernel_rfl
theorem tz_name : Tryz.prog.globalNamed "math/bits.deBruijn64tab" = some 7 := by kernel_rfl
theorem tz_type:(Tryz.prog.globals[7]?).map (·.type)=some 259:=by kernel_rfl
theorem tz_cells:Tryz.prog.cellsOf 259=64:=by kernel_rfl
theorem tz_cell:Tryz.prog.cellsOf 5=1:=by kernel_rfl
def tab64:List Int:=[0,1,56,2,57,49,28,3,61,58,42,50,38,29,17,4,62,47,59,36,45,43,51,22,53,39,33,30,24,18,12,5,63,55,48,27,60,41,37,16,46,35,44,21,52,32,23,11,54,26,40,15,34,20,31,10,25,14,19,9,13,8,7,6]
theorem tab64_eq:(Rows.laid_math_bits_deBruijn64tab:DataW Unit)=Lib.tabData .u8 tab64:=by kernel_rfl
theorem iface_reads{P:Program}{w:World}{n:String}{g:Nat}{t:TypeId}{d:DataW Unit}{m:Array (String×TypeId)}(hg:P.globalNamed n=some g)(ht:(P.globals[g]?).map (·.type)=some t)(hu:P.underlying t=some (.interface m))(h:Lib.VarReads P w n d):IfaceAt g w:=by
 obtain⟨g',t',cs,fuel,p,h1,h2,h3,h4⟩:=h;rw[hg]at h1;injection h1 with h1;subst h1
 rw[ht]at h2;injection h2 with h2;subst h2
 have hc:=World.var?_cell hg h3 0;obtain⟨l⟩:=cs;cases fuel with
 |zero=>simp[DataW.trod]at h4
 |succ k=>
  match l,hc with
  |[],_=>simp[DataW.trod,hu]at h4
  |[.nilIface],hc=>exact⟨_,hc,.inl rfl⟩
  |[.iface u v],hc=>exact⟨_,hc,.inr ⟨u,v,rfl⟩⟩
  |v::x::l,_=>cases v<;>simp[DataW.trod,hu]at h4
  |[v],hc=>cases v<;>first|exact⟨_,hc,.inl rfl⟩|exact⟨_,hc,.inr ⟨_,_,rfl⟩⟩|simp[DataW.trod,hu]at h4
theorem tz_of {W : World} (r3 : Lib.VarReads Tryz.prog W "math/bits.deBruijn64tab" (Lib.tabData .u8 tab64)) : W.cell? ⟨7, 15, none⟩ = some (.int .u8 4) := by
 obtain⟨g,t,cs,fuel,p,hg,hty,hvar,hd⟩:=r3;obtain rfl:=Zak (tz_name.symm.trans hg);obtain rfl:=Zak (tz_type.symm.trans hty);have hcs:=Lib.cells_of_tab Tryz.underlying259 Tryz.underlying5 tz_cell tz_cells hd;have:=World.var?_cell hg hvar 15;rw[this,←Array.getElem?_toList,hcs];rfl
theorem gt_of{W:World}(h:laidMetH Tryz.prog Rows.recoveryReplaysRow.laid W):GT W:=by
 have hL:laidMet Tryz.prog Rows.recoveryReplaysRow.laid W:=by
  have e:=Go.MakeChecks.laidMetH_plain Tryz.prog Rows.recoveryReplaysRow.laid W (by kernel_rfl)
  rwa [e]at h
 have r1 : Lib.VarReads Tryz.prog W "unicode/utf8.first" Lib.firstData := by
  rw[←first_eq];exact Lib.laidMet.reads hL (.tail _ (.tail _ (.tail _ (.tail _ (.tail _ (.tail _ (.head _)))))))
 have r2 : Lib.VarReads Tryz.prog W "unicode/utf8.acceptRanges" Lib.acceptData := by
  rw[←accept_eq];exact Lib.laidMet.reads hL (.tail _ (.tail _ (.tail _ (.head _))))
 exact⟨utf8Tabs_of_reads (ρ:=Tryz.lays260_ren) Tryz.lays260 ⟨by kernel_rfl,by kernel_rfl,by kernel_rfl,by kernel_rfl,by kernel_rfl,by kernel_rfl,by kernel_rfl⟩ r1 r2,
  iface_reads (by kernel_rfl) (by kernel_rfl) Tryz.underlying160 (Lib.laidMet.reads hL (.tail _ (.tail _ (.tail _ (.tail _ (.tail _ (.head _))))))),iface_reads (by kernel_rfl) (by kernel_rfl) Tryz.underlying160 (Lib.laidMet.reads hL (.tail _ (.tail _ (.tail _ (.tail _ (.head _)))))),tz_of (by rw[←tab64_eq];exact Lib.laidMet.reads hL (.tail _ (.head _)))⟩
def ints(k:IntKind)(l:List Int):Array Value:=(l.map fun z=>Value.int k z).toArray
def u8s(l:List Int):Array Value:=ints .u8 l
def setTab(h:Array Obj)(g:Nat)(cs:Array Value):Array Obj:=h.modify g fun
 |.cells _ t frozen=> .cells cs t frozen
 |o=>o
noncomputable def low:Nat:=(World.holding Tryz.prog default ⟨#[],#[],[]⟩).heap.size
noncomputable def laidWorld(os:Os)(args:Array Value):World:=
 { World.holding Tryz.prog os ⟨#[.cells #[.string { data:=#[118,97,108,117,101,32,111,117,116,32,111,102,32,114,97,110,103,101] }] 250,.cells #[.string { data:=#[105,110,118,97,108,105,100,32,115,121,110,116,97,120] }] 250],args,[]⟩with
  heap:=(setTab (setTab (setTab (setTab (setTab (setTab (setTab (World.holding Tryz.prog os ⟨#[.cells #[.string { data:=#[118,97,108,117,101,32,111,117,116,32,111,102,32,114,97,110,103,101] }] 250,.cells #[.string { data:=#[105,110,118,97,108,105,100,32,115,121,110,116,97,120] }] 250],args,[]⟩).heap 6 (ints .u8 [0,1,28,2,29,14,24,3,30,22,20,15,25,17,4,8,31,27,13,23,21,19,16,7,26,12,18,6,11,5,10,9])) 7 (ints .u8 [0,1,56,2,57,49,28,3,61,58,42,50,38,29,17,4,62,47,59,36,45,43,51,22,53,39,33,30,24,18,12,5,63,55,48,27,60,41,37,16,46,35,44,21,52,32,23,11,54,26,40,15,34,20,31,10,25,14,19,9,13,8,7,6])) 5 (ints .u64 [1,10,100,1000,10000,100000,1000000,10000000,100000000,1000000000,10000000000,100000000000,1000000000000,10000000000000,100000000000000,1000000000000000,10000000000000000,100000000000000000,1000000000000000000,10000000000000000000])) 1 (ints .u8 [128,191,160,191,128,159,144,191,128,143,0,0,0,0,0,0,0,0,0,0,0,0,0,0,0,0,0,0,0,0,0,0])) 4 (#[.iface 248 (.pointer (some ⟨low+0,0,none⟩))])) 3 (#[.iface 248 (.pointer (some ⟨low+1,0,none⟩))])) 0 (u8s Lib.firstTab)) }
end Card
end
section
open Go.RowKit
mutual
def D.cells:D→List AX.A
 |.int k n=>[.int k n]
 |.str l=>[.str l]
 |.bool b=>[.bool b]
 |.agg l=>D.cellsL l
 |.sl W l=>[.sl W .no (D.rows l)]
def D.cellsL:List D→List AX.A
 |[]=>[]
 |d::l=>d.cells++D.cellsL l
def D.rows:List D→List (List AX.A)
 |[]=>[]
 |d::l=>d.cells::D.rows l
end
theorem D.rows_length:∀l:List D,(D.rows l).length=l.length
 |[]=>by simp[D.rows]
 |d::l=>by simp[D.rows,D.rows_length l]
mutual
theorem D.cells_data:∀(d:D) (x:AX.A),x∈d.cells→x.data=true
 |.int k n,x,h=>by unfold D.cells at h;simp at h;subst h;rfl
 |.str l,x,h=>by unfold D.cells at h;simp at h;subst h;rfl
 |.bool b,x,h=>by unfold D.cells at h;simp at h;subst h;rfl
 |.agg l,x,h=>by unfold D.cells at h;exact D.cellsL_data l x h
 |.sl W l,x,h=>by unfold D.cells at h;simp at h;subst h;rfl
theorem D.cellsL_data:∀(l:List D) (x:AX.A),x∈D.cellsL l→x.data=true
 |[],x,h=>by unfold D.cellsL at h;simp at h
 |d::l,x,h=>by
  unfold D.cellsL at h;rcases YE.1 h with h|h
  ·exact D.cells_data d x h
  ·exact D.cellsL_data l x h
end
namespace AX
theorem bv2{C:Ctx}:∀{l m:List A} {cs ds:List Value},RepL C l cs→RepL C m ds→RepL C (l++m) (cs++ds)
 |[],m,cs,ds,h,k=>by
  rw[repL_nil]at h;subst h;exact k
 |x::l,m,cs,ds,h,k=>by
  obtain⟨c,cs',rfl,h1,h2⟩:=repL_cons.1 h;exact repL_cons.2 ⟨c,cs'++ds,rfl,h1,bv2 h2 k⟩
theorem bj9{C:Ctx}{g:Nat}(hS:∀j,C.S g j):∀(l:List A) (c:List Value) (o:Nat),RepL C l c→(∀x∈l,x.data=true)→(∀j,j<l.length→C.w.cell? ⟨g,o+j,none⟩=c[j]?)→RepAt C l g o
 |[],c,o,h,hd,hc=>by unfold RepAt;trivial
 |x::l,c,o,h,hd,hc=>by
  obtain⟨v,c',rfl,h1,h2⟩:=repL_cons.1 h;unfold RepAt;refine⟨⟨hS o,hd x (by simp),v,by simpa using hc 0 (by simp),h1⟩,bj9 hS l c' (o+1) h2 (fun y hy=>hd y (by simp[hy])) fun j hj=>?_⟩;have:=hc (j+1) (by simpa using hj);rw[show o+1+j=o+(j+1) by omega];simpa using this
mutual
theorem cjy{C:Ctx}{S:Nat→Prop}(hS:∀g,S g→∀j,C.S g j):∀(d:D) (cs:List Value),Rd C.w S d cs→RepL C d.cells cs
 |.int k n,cs,h=>by unfold Rd at h;unfold D.cells;subst h;exact repL_cons.2 ⟨_,_,rfl,rep_int.2 rfl,repL_nil.2 rfl⟩
 |.str l,cs,h=>by unfold Rd at h;unfold D.cells;subst h;exact repL_cons.2 ⟨_,_,rfl,rep_str.2 rfl,repL_nil.2 rfl⟩
 |.bool b,cs,h=>by unfold Rd at h;unfold D.cells;subst h;exact repL_cons.2 ⟨_,_,rfl,aqh.2 rfl,repL_nil.2 rfl⟩
 |.agg l,cs,h=>by unfold Rd at h;unfold D.cells;exact bvz hS l cs h
 |.sl W l,cs,h=>by
  unfold Rd at h;unfold D.cells;obtain⟨a,cap,rfl,h1,h2⟩:=h;refine repL_cons.2 ⟨_,_,rfl,rep_sl.2 ⟨a,cap,by rw[D.rows_length],by rw[D.rows_length];exact h1,bkj hS W l a 0 h2,trivial⟩,repL_nil.2 rfl⟩
theorem bvz{C:Ctx}{S:Nat→Prop}(hS:∀g,S g→∀j,C.S g j):∀(l:List D) (cs:List Value),RdAgg C.w S l cs→RepL C (D.cellsL l) cs
 |[],cs,h=>by unfold RdAgg at h;unfold D.cellsL;exact repL_nil.2 h
 |d::l,cs,h=>by
  unfold RdAgg at h;unfold D.cellsL;obtain⟨c1,c2,rfl,h1,h2⟩:=h;exact bv2 (cjy hS d c1 h1) (bvz hS l c2 h2)
theorem bkj{C:Ctx}{S:Nat→Prop}(hS:∀g,S g→∀j,C.S g j)(W:Nat):∀(l:List D) (a:Option Addr) (i:Nat),RdRow C.w S W l a i→RepRows C W (D.rows l) a i
 |[],a,i,h=>by unfold D.rows RepRows;trivial
 |d::l,a,i,h=>by
  unfold RdRow at h;unfold D.rows RepRows;obtain⟨⟨g,off,c,h1,h2,h3,h4,h5⟩,h6⟩:=h;have hr:=cjy hS d c h5;have hl:=azk hr;refine⟨⟨g,off,h1,by omega,bj9 (hS g h2) d.cells c _ hr (D.cells_data d) fun j hj=>h4 j (by omega)⟩,bkj hS W l a (i+1) h6⟩
end
def Ctx.of(w:World):Ctx:={ w:=w,S:=fun g _=>g<w.heap.size,κ:=fun _=>0,nb:=0,τ:=fun _=>0,hw:=fun _=>none,own:=fun _=>none,base:=w.heap.size,kap:=fun _=>0,lab:=fun i=>i }
theorem inv_of{G:World→Prop}{w:World}(hG:∀w':World,(∀g,g<w.heap.size→w'.heap[g]?=w.heap[g]?)→G w'):Inv G (Ctx.of w) ⟨[],[]⟩ where
 nb:=rfl
 box:=fun i b h=>by simp at h
 ownk:=⟨fun i b h=>by simp at h,fun i j b b' h=>by simp at h⟩
 ownlt:=fun g i h=>by simp[Ctx.of]at h
 prot:=fun g j h=>⟨h,rfl,fun t E W m ht=>by simp[Ctx.of]at ht⟩
 rows:=fun t E W m h=>by simp[Ctx.of]at h
 inj:=fun t t' h=>by simp[Ctx.of]at h
 toks:=fun t=>by simp[Ctx.of]
 base:=Zh _
 glob:=hG
theorem dkc{w:World}{d:D}{cs:List Value}(h:Rd w (Old w) d cs):RepL (Ctx.of w) d.cells cs:=cjy (C:=Ctx.of w) (S:=Old w) (fun g hg j=>hg) d cs h
theorem dqi{P:Program}{G:World→Prop}{f:FuncId}{args:List A}{vs:List Value}{w:World}(hc:ACall P G f args ⟨[],[]⟩ fun v _=>v=.bool true)(hG:∀w':World,(∀g,g<w.heap.size→w'.heap[g]?=w.heap[g]?)→G w')
  (ha:RepL (Ctx.of w) args vs):Calls P f vs.toArray w fun e w'=>e=.returned (.bool true)∧Below w.heap.size w w':=by
 refine(hc (Ctx.of w) vs (inv_of hG) ha).mono ?_;rintro e w' ⟨C',h',v,cv,rfl,rfl,_,st,hr,rfl⟩;rw[aqh]at hr;subst hr;exact⟨rfl,st.os,st.tape,st.output,st.size,fun g hg=>st.frame g hg rfl fun t ht=>by simp[Ctx.of]at ht⟩
theorem cjj{a b:Nat}{w:World}(h:Lib.Utf8Tabs a b w):∀w':World,(∀g,g<w.heap.size→w'.heap[g]?=w.heap[g]?)→Lib.Utf8Tabs a b w':=by
 intro w' hw;have hlt:∀{g j:Nat} {v:Value},w.cell? ⟨g,j,none⟩=some v→g<w.heap.size:=fun {g j v} h=>(aqo h).2
 have hc:∀{g j:Nat} {v:Value},w.cell? ⟨g,j,none⟩=some v→w'.cell? ⟨g,j,none⟩=some v:=fun {g j v} h=>by
  rw[←h];simp only[World.cell?,hw g (hlt h)]
 exact⟨fun c hcl=>hc (h.1 c hcl),fun i hi=>⟨hc (h.2 i hi).1,hc (h.2 i hi).2⟩⟩
end AX
end
section
open Go.RowKit Go.ChangeShapes Go.WideShapes
theorem ave:∀ks:List (List UInt8),D.rows (ks.map .str)=strsA ks
 |[]=>by simp[D.rows,strsA]
 |k::ks=>by
  have:=ave ks;simp only[ZE,D.rows,D.cells,this];rfl
mutual
theorem V.cells_toD:∀v:V,v.toD.cells=v.cells
 |.mk k n s is ks=>by
  unfold V.toD V.cells;simp only[D.cells,D.cellsL,Zd,Zg,ZN,V.rows_toDs is,ave]
theorem V.rows_toDs:∀l:List V,D.rows (V.toDs l)=V.cellss l
 |[]=>by unfold V.toDs D.rows V.cellss;rfl
 |v::l=>by unfold V.toDs D.rows V.cellss;rw[V.cells_toD v,V.rows_toDs l]
end
mutual
theorem V.Wf.lens:∀v:V,v.Wf→v.lens
 |.mk k n s is ks,h=>by
  unfold V.Wf at h;unfold V.lens;exact⟨h.1.2.2.2.1,h.1.2.2.2.2.1,h.1.2.2.1,h.1.2.2.2.2.2,V.Wfs.lens is h.2⟩
theorem V.Wfs.lens:∀l:List V,V.Wfs l→V.lensS l
 |[],h=>by unfold V.lensS;trivial
 |v::l,h=>by
  unfold V.Wfs at h;unfold V.lensS;exact⟨V.Wf.lens v h.1,V.Wfs.lens l h.2⟩
end
namespace AX
theorem cwl{w:World}(g:GT w):∀w':World,(∀g,g<w.heap.size→w'.heap[g]?=w.heap[g]?)→GT w':=fun w' hw=>by
 have hi:∀{n:Nat},IfaceAt n w→IfaceAt n w':=fun⟨ev,h1,h2⟩=>⟨ev,by rw[←h1];simp only[World.cell?,hw _ (aqo h1).2],h2⟩
 exact⟨cjj g.tabs w' hw,hi g.esyn,hi g.erng,by rw[←g.tz];simp only[World.cell?,hw _ (aqo g.tz).2]⟩
section
variable {H:Type} {enc:TypeId×Value→H} {w:World} {base:Nat} {spare:Nat→Bool} {held:Bool} {r:Reach} {b0:Nat} {v:Value} {d:DataW H} {p:List MemPlace}
end
end AX
end
section
open Go.RowKit
namespace AX
theorem ak9{P:Program}{G:World→Prop}{ops:List AOper}{Q:AExit→Ts→Hp→Prop}{ts:Ts}{h:Hp}(m:Nat)(hb:(seqB m ops&&chainB (closeOps ops) (actsF m 0 (closeOps ops)))=true)(hp:aseq P G m 0 (flagsOf m ops) ops [] [] (Q .normal) ts h):awp P G (.reg true ops) Q ts h:=
 dvm m (Bool.and_eq_true_iff.1 hb).1 hp
theorem evp{A F:Prop}(f:F)(h:F→A:=by intro f;simp only[f]<;>with_reducible rfl):A:=h f
theorem ev0{A F:Prop}(f:F)(h:F→A:=by intro f;simp only[ax6,aq6,aq5,bvd,bj6,aq3,aks,akn,akh,azn,aq4,astep,bop,uop,loadA,storeA,appA,ssliceA,eqA,eqCells,fillA,rowsA,setCells,A.cells,A.one,A.data,aqk,ZM,Y6,Yl,ZG,Ye,Z3,YQ,Y1,Y8,Yg,YK,ZE,Yj,ZZ,ZX,Z7,ZT,Yf,ake,akl,ajj,aki,akk,bzr,bzb,awy,aym,ayb,ayh,Zi,ZH,Zg,Zd,ZN,ZV,Yx,YA,Z5,Z8,YL,Zab,Yy,Zb,Yr,Nat.reduceAdd,Nat.reduceSub,Nat.reduceMul,Nat.reduceLeDiff,Nat.reduceEqDiff,Nat.reduceBEq,YS,YX,Int.reduceBEq,Int.reduceBNe,Int.reduceLT,Int.reduceLE,Int.reduceEq,Int.le_refl,Zah,if_true,if_false,reduceIte,ite_true,ite_false,true_and,and_true,ne_eq,YH,YR,Zn,reduceCtorEq,and_self,Yc,Yt,Zh,ZW,ZU,and_self,decide_true,decide_false,YM,Zaa,Bool.or_true,YO,YT,Yn,YY,Bool.not_not,bqk,bky,bkb,cvk,bjh,bxz,rowsR,ZI,List.flatten_nil,mgetA,msetA,mdelA,mclrA,mlenA,mgetV,Zac,Y4,f]<;>with_reducible rfl):A:=h f
theorem dkr{A F:Prop}(f:F)(h:F→A:=by intro f;simp only[ax6,aq6,aq5,bvd,bj6,aq3,aks,akn,akh,azn,aq4,astep,bop,uop,loadA,storeA,appA,ssliceA,eqA,eqCells,fillA,rowsA,setCells,A.cells,A.one,A.data,aqk,ZM,Y6,Yl,ZG,Ye,Z3,YQ,Y1,Y8,Yg,YK,ZE,Yj,ZZ,ZX,Z7,ZT,Yf,ake,akl,ajj,aki,akk,bzr,bzb,awy,aym,ayb,ayh,Zi,ZH,Zg,Zd,ZN,ZV,Yx,YA,Z5,Z8,YL,Zab,Yy,Zb,Yr,Nat.reduceAdd,Nat.reduceSub,Nat.reduceMul,Nat.reduceLeDiff,Nat.reduceEqDiff,Nat.reduceBEq,YS,YX,Int.reduceBEq,Int.reduceBNe,Int.reduceLT,Int.reduceLE,Int.reduceEq,Int.le_refl,Zah,if_true,if_false,reduceIte,ite_true,ite_false,true_and,and_true,ne_eq,YH,YR,Zn,reduceCtorEq,and_self,Yc,Yt,Zh,ZW,ZU,and_self,decide_true,decide_false,YM,Zaa,Bool.or_true,YO,YT,Yn,YY,Bool.not_not,bqk,bky,bkb,cvk,bjh,bxz,rowsR,ZI,List.flatten_nil,mgetA,msetA,mdelA,mclrA,mlenA,mgetV,Zac,Y4,f];first|with_reducible exact rfl|with_reducible exact(bqk _).symm):A:=h f
theorem eu0{A F:Prop}(f:F)(h:F→A:=by intro f;simp only[ax6,aq6,aq5,bvd,bj6,aq3,aks,akn,akh,azn,aq4,astep,bop,uop,loadA,storeA,appA,ssliceA,eqA,eqCells,fillA,rowsA,setCells,A.cells,A.one,A.data,aqk,ZM,Y6,Yl,ZG,Ye,Z3,YQ,Y1,Y8,Yg,YK,ZE,Yj,ZZ,ZX,Z7,ZT,Yf,ake,akl,ajj,aki,akk,bzr,bzb,awy,aym,ayb,ayh,Zi,ZH,Zg,Zd,ZN,ZV,Yx,YA,Z5,Z8,YL,Zab,Yy,Zb,Yr,Nat.reduceAdd,Nat.reduceSub,Nat.reduceMul,Nat.reduceLeDiff,Nat.reduceEqDiff,Nat.reduceBEq,YS,YX,Int.reduceBEq,Int.reduceBNe,Int.reduceLT,Int.reduceLE,Int.reduceEq,Int.le_refl,Zah,if_true,if_false,reduceIte,ite_true,ite_false,true_and,and_true,ne_eq,YH,YR,Zn,reduceCtorEq,and_self,Yc,Yt,Zh,ZW,ZU,and_self,decide_true,decide_false,YM,Zaa,Bool.or_true,YO,YT,Yn,YY,Bool.not_not,bqk,bky,bkb,cvk,bjh,bxz,rowsR,ZI,List.flatten_nil,mgetA,msetA,mdelA,mclrA,mlenA,mgetV,Zac,Y4,f];rw[if_pos (by first|omega|(refine⟨?_,?_⟩<;>omega)|(simp only[true_and,and_true];omega))];with_reducible rfl):A:=h f
theorem azo{A F:Prop}(f:F)(h:F→A:=by intro f;simp only[ax6,aq6,aq5,bvd,bj6,aq3,aks,akn,akh,azn,aq4,astep,bop,uop,loadA,storeA,appA,ssliceA,eqA,eqCells,fillA,rowsA,setCells,A.cells,A.one,A.data,aqk,ZM,Y6,Yl,ZG,Ye,Z3,YQ,Y1,Y8,Yg,YK,ZE,Yj,ZZ,ZX,Z7,ZT,Yf,ake,akl,ajj,aki,akk,bzr,bzb,awy,aym,ayb,ayh,Zi,ZH,Zg,Zd,ZN,ZV,Yx,YA,Z5,Z8,YL,Zab,Yy,Zb,Yr,Nat.reduceAdd,Nat.reduceSub,Nat.reduceMul,Nat.reduceLeDiff,Nat.reduceEqDiff,Nat.reduceBEq,YS,YX,Int.reduceBEq,Int.reduceBNe,Int.reduceLT,Int.reduceLE,Int.reduceEq,Int.le_refl,Zah,if_true,if_false,reduceIte,ite_true,ite_false,true_and,and_true,ne_eq,YH,YR,Zn,reduceCtorEq,and_self,Yc,Yt,Zh,ZW,ZU,and_self,decide_true,decide_false,YM,Zaa,Bool.or_true,YO,YT,Yn,YY,Bool.not_not,bqk,bky,bkb,cvk,bjh,bxz,rowsR,ZI,List.flatten_nil,mgetA,msetA,mdelA,mclrA,mlenA,mgetV,Zac,Y4,f,Int.natCast_add,Int.natCast_one]<;>trivial):A:=h f
theorem cw5{A F:Prop}(f:F)(h:F→A:=by intro f;simp only[ax6,aq6,aq5,bvd,bj6,aq3,aks,akn,akh,azn,aq4,astep,bop,uop,loadA,storeA,appA,ssliceA,eqA,eqCells,fillA,rowsA,setCells,A.cells,A.one,A.data,aqk,ZM,Y6,Yl,ZG,Ye,Z3,YQ,Y1,Y8,Yg,YK,ZE,Yj,ZZ,ZX,Z7,ZT,Yf,ake,akl,ajj,aki,akk,bzr,bzb,awy,aym,ayb,ayh,Zi,ZH,Zg,Zd,ZN,ZV,Yx,YA,Z5,Z8,YL,Zab,Yy,Zb,Yr,Nat.reduceAdd,Nat.reduceSub,Nat.reduceMul,Nat.reduceLeDiff,Nat.reduceEqDiff,Nat.reduceBEq,YS,YX,Int.reduceBEq,Int.reduceBNe,Int.reduceLT,Int.reduceLE,Int.reduceEq,Int.le_refl,Zah,if_true,if_false,reduceIte,ite_true,ite_false,true_and,and_true,ne_eq,YH,YR,Zn,reduceCtorEq,and_self,Yc,Yt,Zh,ZW,ZU,and_self,decide_true,decide_false,YM,Zaa,Bool.or_true,YO,YT,Yn,YY,Bool.not_not,bqk,bky,bkb,cvk,bjh,bxz,rowsR,ZI,List.flatten_nil,mgetA,msetA,mdelA,mclrA,mlenA,mgetV,Zac,Y4,forH,pastN,obsP,obsD,obsN,memN,Yn,YT,YO,Bool.or_true,true_or,or_true,false_or,or_false,f]<;>exact ti):A:=h f
theorem go0{A B F:Prop}(f:F)(k:B)(h:F→B→A:=by intro f k;(repeat (first|with_reducible refine cwe ?_|with_reducible refine dko ?_|with_reducible refine dv1 ?_|with_reducible refine dxt ?_|with_reducible refine dvh ?_|with_reducible refine ckw ?_|with_reducible refine bwu ?_|with_reducible refine go_ret ?_|with_reducible refine dvl ?_|with_reducible refine djn ?_|with_reducible refine djr ?_|with_reducible refine dxi ?_|with_reducible refine dvo ?_|((with_reducible refine dvc ?_ ?_);exact rfl)|with_reducible refine dv5 ?_|((with_reducible apply dxr);exact rfl;exact ev0 f)|((with_reducible apply dxr);exact rfl;exact eu0 f)|((with_reducible apply dj8);exact rfl;exact ev0 f)|((with_reducible apply dj8);exact rfl;exact eu0 f)|((with_reducible refine dqj ?_ ?_);exact ev0 f)|((with_reducible refine go_skip ?_ ?_);exact ev0 f)|((with_reducible refine dz4 ?_ ?_);exact ev0 f)|((with_reducible refine dj9 ?_ ?_);exact ev0 f)|((with_reducible apply dqr);exact ev0 f;exact rfl;exact ev0 f)|((with_reducible apply dqr);exact ev0 f;exact rfl;exact eu0 f)|((with_reducible apply dqz);exact ev0 f;exact rfl;exact ev0 f)|((with_reducible apply dqz);exact ev0 f;exact rfl;exact eu0 f)|((with_reducible refine dvk ?_ ?_);exact ev0 f)|((with_reducible refine dxn ?_ ?_);exact ev0 f)|((with_reducible apply dzu);exact ev0 f)|((with_reducible apply djd);exact ev0 f)));exact k):A:=h f k
theorem gc0{A B F:Prop}(f:F)(k:B)(h:F→B→A:=by intro f k;first|((with_reducible apply go_call);exact ev0 f;exact k)|((with_reducible apply dql);exact ev0 f;exact ev0 f;exact k)|((with_reducible apply cyb);exact ev0 f;exact rfl;kernel_rfl;exact ev0 f;exact k)):A:=h f k
theorem azf{A B F:Prop}(f:F)(k:B)(h:F→B→A:=by intro f k;(repeat (first|with_reducible refine cwe ?_|with_reducible refine ck8 ?_|with_reducible refine dq3 ?_|with_reducible refine dxt ?_|with_reducible refine dvh ?_|with_reducible refine ckw ?_|with_reducible refine bwu ?_|with_reducible refine go_ret ?_|with_reducible refine dvl ?_|with_reducible refine djn ?_|with_reducible refine djr ?_|with_reducible refine dxi ?_|with_reducible refine dvo ?_|((with_reducible refine dvc ?_ ?_);exact rfl)|((with_reducible apply cvc);exact rfl;exact ev0 f;exact ev0 f;(first|exact evp f|exact ev0 f|exact eu0 f))|((with_reducible apply bvo);exact rfl;exact rfl;exact ev0 f)|((with_reducible apply bvo);exact rfl;exact rfl;exact eu0 f)|((with_reducible apply bj3);exact rfl;exact ev0 f)|((with_reducible apply by8);exact rfl;exact ev0 f)|((with_reducible apply czt);exact ev0 f)|((with_reducible apply cwr);exact ev0 f;exact ev0 f;(first|exact evp f|exact ev0 f|exact eu0 f);(first|exact ti|exact cw5 f))|((with_reducible apply dqb);exact rfl;decide +kernel;exact rfl;exact ev0 f)|((with_reducible apply bkk);exact rfl;exact rfl;exact ev0 f;(first|exact ti|exact cw5 f))|((with_reducible apply dqb);exact rfl;decide +kernel;exact rfl;exact eu0 f)|((with_reducible apply bkk);exact rfl;exact rfl;exact eu0 f;(first|exact ti|exact cw5 f))|((with_reducible apply cwp);exact rfl;decide +kernel;exact rfl;exact ev0 f;(first|exact ti|exact cw5 f))|((with_reducible apply czd);decide +kernel;exact rfl;exact ev0 f)|((with_reducible apply cx7);decide +kernel;exact rfl;exact ev0 f)|((with_reducible apply cv2);exact ev0 f)|((with_reducible apply by5);exact ev0 f;exact rfl;kernel_rfl;exact ev0 f)|((with_reducible apply by9);exact ev0 f;exact rfl;exact rfl;kernel_rfl;exact ev0 f)|((with_reducible refine dvk ?_ ?_);exact ev0 f)|((with_reducible refine dxn ?_ ?_);exact ev0 f)|((with_reducible apply dzu);exact ev0 f)|((with_reducible apply djd);exact ev0 f)|((with_reducible refine ak9 1 ?_ ?_);decide +kernel)|((with_reducible refine ak9 2 ?_ ?_);decide +kernel)));exact k):A:=h f k
theorem bw0{P:Program}{G:World→Prop}{c:Opd}{b:Bool}{x y:ACode}{Q:AExit→Ts→Hp→Prop}{ts:Ts}{h:Hp}{F:Prop}(f:F)(k1:b=true→awp P G x Q ts h)(k2:b=false→awp P G y Q ts h)(hc:F→evX ts c=.bool b:=by intro f;exact ev0 f):awp P G (.cond c x y) Q ts h:=dq4 (hc f) k1 k2
theorem V_A:∀v:V,V.A v=.agg v.cells:=fun _=>rfl
theorem azg:∀k n s is ks,V.cells (.mk k n s is ks)=[.int .i64 k,.int .i64 n,.str s,.sl 5 .no (V.cellss is),.sl 1 .no (strsA ks)]:=fun k n s is ks=>by rw[V.cells]
theorem use{P:Program}{G:World→Prop}{m i:Nat}{fl:List Bool}{past:List Hp}{obs:Obs}{d:Option Nat}{af:List Nat}{os:List AOper}{K:Ts→Hp→Prop}{ts:Ts}{h:Hp}{f:FuncId}{vs:List A}{h':Hp}{v:A}(hc:ACall P G f vs h fun v' h''=>v'=v∧h''=h')(k:aseq P G m (i+1) fl.tail os (pastN m h past) (obsN m af obs) K (put ts d v) h')(hm:(m=2→h'=h∧fl.headD false=false)∧(m≠2→obsP af obs h'):=by first|exact⟨fun e=>absurd e (by decide),fun _=>ti⟩|exact⟨fun e=>absurd e (by decide),fun _=>cw5 ti⟩|exact⟨fun _=>⟨rfl,by decide +kernel⟩,fun e=>absurd rfl e⟩):CallK P G m i fl f vs h d af os past obs K ts:=rt hc hm k
theorem azc{A B F C:Prop}(f:F)(c:C)(k:B)(h:F→C→B→A:=by intro f c k;(repeat (first|with_reducible refine cwe ?_|with_reducible refine ck8 ?_|with_reducible refine dq3 ?_|with_reducible refine dxt ?_|with_reducible refine dvh ?_|with_reducible refine ckw ?_|with_reducible refine bwu ?_|with_reducible refine go_ret ?_|with_reducible refine dvl ?_|with_reducible refine djn ?_|with_reducible refine djr ?_|with_reducible refine dxi ?_|with_reducible refine dvo ?_|((with_reducible refine dvc ?_ ?_);exact rfl)|((with_reducible apply cvc);exact rfl;exact ev0 f;exact ev0 f;(first|exact evp f|exact ev0 f|exact eu0 f))|((with_reducible apply bvo);exact rfl;exact rfl;exact ev0 f)|((with_reducible apply bvo);exact rfl;exact rfl;exact eu0 f)|((with_reducible apply bj3);exact rfl;exact ev0 f)|((with_reducible apply by8);exact rfl;exact ev0 f)|((with_reducible apply czt);exact ev0 f)|((with_reducible apply cwr);exact ev0 f;exact ev0 f;(first|exact evp f|exact ev0 f|exact eu0 f);(first|exact ti|exact cw5 f))|((with_reducible apply dqb);exact rfl;decide +kernel;exact rfl;exact ev0 f)|((with_reducible apply bkk);exact rfl;exact rfl;exact ev0 f;(first|exact ti|exact cw5 f))|((with_reducible apply dqb);exact rfl;decide +kernel;exact rfl;exact eu0 f)|((with_reducible apply bkk);exact rfl;exact rfl;exact eu0 f;(first|exact ti|exact cw5 f))|((with_reducible apply cwp);exact rfl;decide +kernel;exact rfl;exact ev0 f;(first|exact ti|exact cw5 f))|((with_reducible apply czd);decide +kernel;exact rfl;exact ev0 f)|((with_reducible apply cx7);decide +kernel;exact rfl;exact ev0 f)|((with_reducible apply cv2);exact ev0 f)|((with_reducible apply by5);exact ev0 f;exact rfl;kernel_rfl;exact ev0 f)|((with_reducible apply by9);exact ev0 f;exact rfl;exact rfl;kernel_rfl;exact ev0 f)|((with_reducible refine dvk ?_ ?_);exact ev0 f)|((with_reducible refine dxn ?_ ?_);exact ev0 f)|((with_reducible apply dzu);exact ev0 f)|((with_reducible apply djd);exact ev0 f)|((with_reducible refine ak9 1 ?_ ?_);decide +kernel)|((with_reducible refine ak9 2 ?_ ?_);decide +kernel)|((with_reducible apply dkd);exact rfl;exact rfl;exact dkr f;(intro hp;simp only[bjh,bxz,ZG,Yl,Zf,YC]at hp<;>first|exact ev0 (ai hp f)|(have hq:=hp;simp only[ZD,YU,Y5,ne_eq,ZC,Zaj,Zw]at hq;exact ev0 (ai hq (ai hp f)))))|((with_reducible apply dkz);exact rfl;decide +kernel;exact rfl;exact dkr f;(intro hp;simp only[bjh,bxz,ZG,Yl,Zf,YC]at hp<;>first|exact ev0 (ai hp f)|(have hq:=hp;simp only[ZD,YU,Y5,ne_eq,ZC,Zaj,Zw]at hq;exact ev0 (ai hq (ai hp f)))))|((with_reducible apply dzp);exact rfl;exact dkr f;(intro hp;simp only[bjh,bxz,ZG,Yl,Zf,YC]at hp<;>first|exact ev0 (ai hp f)|(have hq:=hp;simp only[ZD,YU,Y5,ne_eq,ZC,Zaj,Zw]at hq;exact ev0 (ai hq (ai hp f)))))|((with_reducible apply cyi);decide +kernel;exact dkr f;(intro hp;simp only[bjh,bxz,ZG,Yl,Zf,YC]at hp<;>first|exact ev0 (ai hp f)|(have hq:=hp;simp only[ZD,YU,Y5,ne_eq,ZC,Zaj,Zw]at hq;exact ev0 (ai hq (ai hp f)))))|refine use (c.1 _) ?_|refine use (c.1 _ _) ?_|refine use c.1 ?_|refine use (c.2.1 _) ?_|refine use (c.2.1 _ _) ?_|refine use c.2.1 ?_|refine use (c.2.2.1 _) ?_|refine use (c.2.2.1 _ _) ?_|refine use c.2.2.1 ?_|refine use (c.2.2.2.1 _) ?_|refine use (c.2.2.2.1 _ _) ?_|refine use c.2.2.2.1 ?_|refine use (c.2.2.2.2.1 _) ?_|refine use (c.2.2.2.2.1 _ _) ?_|refine use c.2.2.2.2.1 ?_|refine use (c.2.2.2.2.2.1 _) ?_|refine use (c.2.2.2.2.2.1 _ _) ?_|refine use c.2.2.2.2.2.1 ?_|refine use (c.2.2.2.2.2.2.1 _) ?_|refine use (c.2.2.2.2.2.2.1 _ _) ?_|refine use c.2.2.2.2.2.2.1 ?_|refine use (c.2.2.2.2.2.2.2.1 _) ?_|refine use (c.2.2.2.2.2.2.2.1 _ _) ?_|refine use c.2.2.2.2.2.2.2.1 ?_|refine use (c.2.2.2.2.2.2.2.2.1 _) ?_|refine use (c.2.2.2.2.2.2.2.2.1 _ _) ?_|refine use c.2.2.2.2.2.2.2.2.1 ?_|refine usew (c.1 _) ?_|refine usew (c.1 _ _) ?_|refine usew c.1 ?_|refine usew (c.2.1 _) ?_|refine usew (c.2.1 _ _) ?_|refine usew c.2.1 ?_|refine usew (c.2.2.1 _) ?_|refine usew (c.2.2.1 _ _) ?_|refine usew c.2.2.1 ?_|refine usew (c.2.2.2.1 _) ?_|refine usew (c.2.2.2.1 _ _) ?_|refine usew c.2.2.2.1 ?_|refine usew (c.2.2.2.2.1 _) ?_|refine usew (c.2.2.2.2.1 _ _) ?_|refine usew c.2.2.2.2.1 ?_|refine usew (c.2.2.2.2.2.1 _) ?_|refine usew (c.2.2.2.2.2.1 _ _) ?_|refine usew c.2.2.2.2.2.1 ?_|refine usew (c.2.2.2.2.2.2.1 _) ?_|refine usew (c.2.2.2.2.2.2.1 _ _) ?_|refine usew c.2.2.2.2.2.2.1 ?_|refine usew (c.2.2.2.2.2.2.2.1 _) ?_|refine usew (c.2.2.2.2.2.2.2.1 _ _) ?_|refine usew c.2.2.2.2.2.2.2.1 ?_|refine usew (c.2.2.2.2.2.2.2.2.1 _) ?_|refine usew (c.2.2.2.2.2.2.2.2.1 _ _) ?_|refine usew c.2.2.2.2.2.2.2.2.1 ?_));exact k):A:=h f c k
theorem aze{A B F C:Prop}(f:F)(c:C)(k:B)(h:F→C→B→A:=by intro f c k;refine azf f ?_;(repeat ((first|refine use (c.1 _) ?_|refine use (c.1 _ _) ?_|refine use c.1 ?_|refine use (c.2.1 _) ?_|refine use (c.2.1 _ _) ?_|refine use c.2.1 ?_|refine use (c.2.2.1 _) ?_|refine use (c.2.2.1 _ _) ?_|refine use c.2.2.1 ?_|refine use (c.2.2.2.1 _) ?_|refine use (c.2.2.2.1 _ _) ?_|refine use c.2.2.2.1 ?_|refine use (c.2.2.2.2.1 _) ?_|refine use (c.2.2.2.2.1 _ _) ?_|refine use c.2.2.2.2.1 ?_|refine use (c.2.2.2.2.2.1 _) ?_|refine use (c.2.2.2.2.2.1 _ _) ?_|refine use c.2.2.2.2.2.1 ?_|refine use (c.2.2.2.2.2.2.1 _) ?_|refine use (c.2.2.2.2.2.2.1 _ _) ?_|refine use c.2.2.2.2.2.2.1 ?_|refine use (c.2.2.2.2.2.2.2.1 _) ?_|refine use (c.2.2.2.2.2.2.2.1 _ _) ?_|refine use c.2.2.2.2.2.2.2.1 ?_|refine use (c.2.2.2.2.2.2.2.2.1 _) ?_|refine use (c.2.2.2.2.2.2.2.2.1 _ _) ?_|refine use c.2.2.2.2.2.2.2.2.1 ?_);refine azf f ?_));exact k):A:=h f c k
theorem evg{A F:Prop}(f:F)(h:F→A:=by intro f;simp only[ax6,aq6,aq5,bvd,bj6,aq3,aks,akn,akh,azn,aq4,astep,bop,uop,loadA,storeA,appA,ssliceA,eqA,eqCells,fillA,rowsA,setCells,A.cells,A.one,A.data,aqk,ZM,Y6,Yl,ZG,Ye,Z3,YQ,Y1,Y8,Yg,YK,ZE,Yj,ZZ,ZX,Z7,ZT,Yf,ake,akl,ajj,aki,akk,bzr,bzb,awy,aym,ayb,ayh,Zi,ZH,Zg,Zd,ZN,ZV,Yx,YA,Z5,Z8,YL,Zab,Yy,Zb,Yr,Nat.reduceAdd,Nat.reduceSub,Nat.reduceMul,Nat.reduceLeDiff,Nat.reduceEqDiff,Nat.reduceBEq,YS,YX,Int.reduceBEq,Int.reduceBNe,Int.reduceLT,Int.reduceLE,Int.reduceEq,Int.le_refl,Zah,if_true,if_false,reduceIte,ite_true,ite_false,true_and,and_true,ne_eq,YH,YR,Zn,reduceCtorEq,and_self,Yc,Yt,Zh,ZW,ZU,and_self,decide_true,decide_false,YM,Zaa,forL,ajm,Nat.reduceMod,Za,ZZ,ZX,f]<;>with_reducible rfl):A:=h f
theorem ing{A F:Prop}(f:F)(h:F→A:=by intro f;simp only[ax6,aq6,aq5,bvd,bj6,aq3,aks,akn,akh,azn,aq4,astep,bop,uop,loadA,storeA,appA,ssliceA,eqA,eqCells,fillA,rowsA,setCells,A.cells,A.one,A.data,aqk,ZM,Y6,Yl,ZG,Ye,Z3,YQ,Y1,Y8,Yg,YK,ZE,Yj,ZZ,ZX,Z7,ZT,Yf,ake,akl,ajj,aki,akk,bzr,bzb,awy,aym,ayb,ayh,Zi,ZH,Zg,Zd,ZN,ZV,Yx,YA,Z5,Z8,YL,Zab,Yy,Zb,Yr,Nat.reduceAdd,Nat.reduceSub,Nat.reduceMul,Nat.reduceLeDiff,Nat.reduceEqDiff,Nat.reduceBEq,YS,YX,Int.reduceBEq,Int.reduceBNe,Int.reduceLT,Int.reduceLE,Int.reduceEq,Int.le_refl,Zah,if_true,if_false,reduceIte,ite_true,ite_false,true_and,and_true,ne_eq,YH,YR,Zn,reduceCtorEq,and_self,Yc,Yt,Zh,ZW,ZU,and_self,decide_true,decide_false,YM,Zaa,forL,ajm,Nat.reduceMod,Za,ZZ,ZX,f]<;>exact ti):A:=h f
theorem rung{A B F:Prop}(f:F)(k:B)(h:F→B→A:=by intro f k;(repeat (first|with_reducible refine bj4 ?_|((with_reducible apply aka);exact rfl;(refine⟨?_,?_⟩);exact evg f;(first|exact ti|exact ing f))));exact k):A:=h f k
def bx7:AX.AFn:=⟨52,aS [aR 3 (.box 40 (.t 0)),aR 6 (.mv (aI 0)),aR 7 (.mv (aI 0))] (.seq (aS [aM 13 1,aR 14 (.bin .gtr (.t 13) (aI 32))] (.cond (.t 14) (aS [aM 15 2,aR 6 (.mv (aI 4)),aM 7 15] (.ret)) (.skip))) (.seq (aS [aM 16 2,aR 17 (.bin .geq (.t 16) (aI 4096))] (.cond (.t 17) (aS [aM 18 2,aR 6 (.mv (aI 14)),aM 7 18] (.ret)) (.skip))) (.seq (aS [aR 19 (.load true 5 (.t 3)),aR 20 (.call 159 [.t 19]),aM 8 20] (aS [aM 21 8,aR 22 (.bin .neq (.t 21) (aI 0))] (.cond (.t 22) (aS [aM 23 8,aM 24 2,aM 6 23,aM 7 24] (.ret)) (.skip)))) (aS [aM 25 2,aR 26 (.bin .add (.t 25) (aI 1)),aM 9 26] (.seq (aS [aR 10 (.mv (aI 0))] (.block 0 (.loop (.seq (aS [aM 27 10,aF 28 3 3,aL 29 28,aR 30 (.len false (.t 29)),aR 31 (.bin .lss (.t 27) (.t 30))] (.cond (.t 31) (.skip) (.exit 0))) (.seq (.block 1 (aS [aF 35 3 3,aL 36 35,aM 37 10,aR 38 (.iaddr 5 (.t 36) (.t 37)),aR 39 (.load true 5 (.t 38)),aM 40 1,aR 41 (.bin .add (.t 40) (aI 1)),aM 42 9,aR 43 (.call 128 [.t 39,.t 41,.t 42]),aM 34 43,aE 44 34 0,aE 45 34 1,aM 11 44,aM 12 45] (.seq (aS [aM 46 11,aR 47 (.bin .neq (.t 46) (aI 0))] (.cond (.t 47) (aS [aM 48 11,aM 49 12,aM 6 48,aM 7 49] (.ret)) (.skip))) (.reg false [aM 50 12,aM 9 50])))) (.reg false [aM 32 10,aR 33 (.bin .add (.t 32) (aI 1)),aM 10 33])))))) (aS [aM 51 9,aR 6 (.mv (aI 0)),aM 7 51] (.ret))))))),[.t 6,.t 7]⟩
theorem dqa:AX.compFn Tryz.prog 128=some bx7:=by kernel_rfl
def bjk:AX.AFn:=⟨11,aS [aR 1 (.box 40 (.t 0)),aR 2 (.mv (aI 0))] (aS [aR 6 (.load true 5 (.t 1)),aR 7 (.call 128 [.t 6,aI 1,aI 0]),aM 5 7,aE 8 5 0,aE 9 5 1,aM 3 8,aM 4 9] (aS [aM 10 3,aM 2 10] (.ret))),[.t 2]⟩
theorem dzx:AX.compFn Tryz.prog 83=some bjk:=by kernel_rfl
theorem cye(lv b:Nat):Val.chks [] lv b=(0,b):=by rw[Val.chks]
theorem cww(v:V)(l:List V)(lv b:Nat):Val.chks (v::l) lv b=if(Val.chk v lv b).1≠0 then Val.chk v lv b else Val.chks l lv (Val.chk v lv b).2:=by rw[Val.chks]
theorem djt(k n:Int)(s:List UInt8)(is:List V)(ks:List (List UInt8))(hlen:(V.mk k n s is ks).lens)(h:Hp):AT 159 [(V.mk k n s is ks).A] h (.int .i64 (Val.nodeZ (.mk k n s is ks))):=by
 refine pcall ?_ rfl (by simp[V.A,V.cells,A.pure,A.data]) h;obtain⟨hil,hkl,_,_⟩:=V.lens_mk hlen;refine fo ?_;refine go0 (ai @V_A @azg) ?_;refine gc0 (ai @V_A @azg) ?_;refine(byi k n s .no .no 5 1 _ _ _).mono ?_;rintro v h' ⟨rfl,rfl⟩;rw[V.cellss_length,azh];have hZ:Val.nodeZ (.mk k n s is ks)=if Val.shapedB k n s is.length ks.length=false then 1 else if k=2∧¬(-9007199254740992≤n∧n≤9007199254740992)then 5 else if Val.textZ s≠0 then Val.textZ s else Val.keysZ none ks:=by rw[Val.nodeZ]
 rcases azs (Val.shapedB k n s is.length ks.length)with hs|hs
 ·rw[hs];rw[if_neg (by rw[hs];simp)]at hZ;have hc:(k=2∧¬(-9007199254740992≤n∧n≤9007199254740992))∨(k=2∧(-9007199254740992≤n∧n≤9007199254740992))∨k≠2:=by
   by_cases hk:k=2
   ·by_cases hn:-9007199254740992≤n∧n≤9007199254740992
    ·exact .inr (.inl ⟨hk,hn⟩)
    ·exact .inl ⟨hk,hn⟩
   ·exact .inr (.inr hk)
  rcases hc with⟨hk,hn⟩|⟨hk,hn⟩|hk
  ·have hk':(k==2)=true:=by simp[hk]
   rw[if_pos ⟨hk,hn⟩]at hZ;(refine AX.go0 (AX.ai @V_A (AX.ai @azg hk')) ?_);(refine AX.gc0 (AX.ai @V_A (AX.ai @azg hk')) ?_);refine(bkv n _).mono ?_;rintro v h' ⟨rfl, rfl⟩;(refine AX.go0 (AX.ai @V_A (AX.ai @azg (AX.ai hn hk'))) ?_);exact⟨_, le_refl _, by rw[azn, hZ]⟩
  all_goals first
   | (have hn' := hn.1
      have hk' : (k == 2) = true := by simp [hk]
      rw [if_neg (by simp [hn])] at hZ;(refine AX.go0 (AX.ai @V_A (AX.ai @azg hk')) ?_);(refine AX.gc0 (AX.ai @V_A (AX.ai @azg hk')) ?_);refine (bkv n _).mono ?_;rintro v h' ⟨rfl, rfl⟩
      (refine AX.go0 (AX.ai @V_A (AX.ai @azg (AX.ai hn hk'))) ?_))
   | (have hk' : (k == 2) = false := by simp [hk]
      rw [if_neg (by simp [hk])] at hZ
      (refine AX.go0 (AX.ai @V_A (AX.ai @azg hk')) ?_))
  all_goals
   refine gc0 (ai @V_A @azg) ?_;refine(cwn s _).mono ?_;rintro v h' ⟨rfl,rfl⟩;by_cases ht:Val.textZ s=0
   ·rw[if_neg (by simp[ht])]at hZ;rw[ht];refine go0 (ai @V_A @azg) ?_;refine azd (fun m ts h=>h=⟨[.cells 40 (V.mk k n s is ks).cells],[]⟩∧∃(i:Nat),m=ks.length-i∧i≤ks.length∧Val.keysZ (if i=0 then none else ks[i-1]?) (ks.drop i)=Val.keysZ none ks∧ts 1=.ptr 0 0∧ts 4=.int .i64 i) ks.length ?_ ?_
    ·refine⟨rfl,0,rfl,Zq _,rfl,?_⟩;(exact azo ti)
    ·rintro m ts h ⟨rfl,i,rfl,hi,heq,t1,t4⟩;by_cases hlt:i<ks.length
     ·have hlt':(i:Int)<((strsA ks).length:Int):=by rw[azh];omega
      have ee:=az1 ks i hlt;have ei:IntKind.i64.wrap ((i:Int)+1)=(i:Int)+1:=wrap64 (by omega) (by omega);rw[Zl hlt,Val.keysZ]at heq;refine go0 (ai @azg (ai t1 (ai t4 (ai hlt' (ai ee ei))))) ?_;refine gc0 (ai @azg (ai t1 (ai t4 (ai hlt' (ai ee ei))))) ?_;refine(cwn ks[i] _).mono ?_;rintro v h' ⟨rfl,rfl⟩;by_cases ht2:Val.textZ ks[i]=0
      ·rw[if_neg (by simp[ht2])]at heq;rw[ht2];refine go0 (ai @azg (ai t1 (ai t4 (ai hlt' (ai ee ei))))) ?_;refine ayt (by decide) ?_;cases i with
       |zero=>
        have h0:¬((0:Nat):Int)>0:=by omega
        simp only[Nat.reduceAdd,if_true,Val.badB,Zn,if_false]at heq;refine go0 (ai @azg (ai t1 (ai t4 (ai hlt' (ai ee (ai ei h0)))))) ?_;refine⟨ks.length-1,by omega,rfl,1,rfl,by omega,?_,?_⟩
        ·rw[←heq];simp[hlt]
        ·(exact azo (ai t1 (ai t4 ei)))
       |succ j=>
        have h0:((j+1:Nat):Int)>0:=by omega
        have ej:IntKind.i64.wrap (((j+1:Nat):Int)-1)=(j:Int):=by rw[wrap64 (by omega) (by omega)];omega
        have ee2:=az1 ks j (by omega);have hj':(j:Int)<((strsA ks).length:Int):=by omega
        have hkj:ks[j+1-1]?=some (ks[j]'(by omega)):=Zm (by omega);rw[show(if j+1=0 then none else ks[j+1-1]?)=some (ks[j]'(by omega))from by rw[if_neg (by omega)];exact hkj]at heq;simp only[Val.badB]at heq;rcases azs (Op.bytesLess (ks[j]'(by omega)) ks[j+1])with hb|hb
        ·simp only[hb,ZW,ZU,Zn,if_false,if_true]at heq;refine go0 (ai @azg (ai t1 (ai t4 (ai hlt' (ai ee (ai ee2 (ai ei (ai ej (ai h0 (ai hj' hb)))))))))) ?_;refine⟨ks.length-(j+1+1),by omega,rfl,j+1+1,rfl,by omega,?_,?_⟩
         ·rw[←heq];simp[hlt]
         ·(exact azo (ai t1 (ai t4 ei)))
        ·simp only[hb,ZW,ZU,Zn,if_false,if_true]at heq;refine go0 (ai @azg (ai t1 (ai t4 (ai hlt' (ai ee (ai ee2 (ai ei (ai ej (ai h0 (ai hj' hb)))))))))) ?_;exact⟨_,le_refl _,by rw[azn,hZ,←heq]⟩
      ·have ht3:(Val.textZ ks[i]!=0)=true:=by simp[ht2]
       rw[if_pos (by simp[ht2])]at heq;refine go0 (ai @azg (ai t1 (ai t4 (ai hlt' (ai ee (ai ei ht3)))))) ?_;exact⟨_,le_refl _,by rw[azn,hZ,←heq]⟩
     ·have hlt':¬(i:Int)<((strsA ks).length:Int):=by rw[azh];omega
      refine go0 (ai @azg (ai t1 (ai t4 hlt'))) ?_;refine⟨_,le_refl _,?_⟩;rw[azn,hZ,←heq,Zt (by omega)];cases(if i=0 then none else ks[i-1]?)<;>rfl
   ·have ht':(Val.textZ s !=0)=true:=by simp[ht]
    rw[if_pos (by simp[ht])]at hZ;refine go0 (ai @V_A (ai @azg ht')) ?_;exact⟨_,le_refl _,by rw[azn,hZ]⟩
 ·rw[hs];refine go0 (ai @V_A @azg) ?_;exact⟨_,le_refl _,by rw[azn,hZ,if_pos hs]⟩
theorem dvb:∀(v:V) (lv b:Nat),v.lens→AC 128 [v.A,.int .i64 lv,.int .i64 b] ⟨[],[]⟩ fun r _=>r=.tup [.int .i64 (Val.chk v lv b).1,.int .i64 (Val.chk v lv b).2]:=by
 refine V.induct fun k n s is ks ih=>?_
 intro lv b hlen;refine azb mixedT dqa (by simp[bx7]) ?_;dsimp only[bx7];obtain⟨hil,hkl,_,hmem⟩:=V.lens_mk hlen;by_cases h1:(lv:Int)>32
 ·refine go0 (ai @V_A (ai @azg h1)) ?_;exact⟨_,le_refl _,by rw[aq4,Val.chk,if_pos (by omega)]⟩
 by_cases h2:(b:Int)≥4096
 ·refine go0 (ai @V_A (ai @azg (ai h1 h2))) ?_;exact⟨_,le_refl _,by rw[aq4,Val.chk,if_neg (by omega),if_pos (by omega)]⟩
 refine go0 (ai @V_A (ai @azg (ai h1 h2))) ?_;refine gc0 (ai @V_A (ai @azg (ai h1 h2))) ?_;refine(djt k n s is ks hlen _).mono ?_;rintro v h' ⟨rfl,rfl⟩;by_cases hn:Val.nodeZ (.mk k n s is ks)=0
 ·rw[hn];have eb:IntKind.i64.wrap ((b:Int)+1)=((b+1:Nat):Int):=by rw[wrap64 (by omega) (by omega)];omega
  have elv:IntKind.i64.wrap ((lv:Int)+1)=((lv+1:Nat):Int):=by rw[wrap64 (by omega) (by omega)];omega
  refine go0 (ai @V_A (ai @azg (ai h1 (ai h2 eb)))) ?_;have hC:Val.chk (.mk k n s is ks) lv b=Val.chks is (lv+1) (b+1):=by rw[Val.chk,if_neg (by omega),if_neg (by omega),if_neg (by simp[hn])]
  refine azd (fun m ts h=>h=⟨[.cells 40 (V.mk k n s is ks).cells],[]⟩∧∃(i q:Nat),m=is.length-i∧i≤is.length∧Val.chks (is.drop i) (lv+1) q=Val.chks is (lv+1) (b+1)∧ts 1=.int .i64 lv∧ts 3=.ptr 0 0∧ts 9=.int .i64 q∧ts 10=.int .i64 i) is.length ?_ ?_
  ·refine⟨rfl,0,b+1,rfl,Zq _,rfl,?_⟩;(exact azo ti)
  ·rintro m ts h ⟨rfl,i,q,rfl,hi,heq,t1,t3,t9,t10⟩;by_cases hlt:i<is.length
   ·have hlt':(i:Int)<((V.cellss is).length:Int):=by rw[V.cellss_length];omega
    have ei:IntKind.i64.wrap ((i:Int)+1)=(i:Int)+1:=wrap64 (by omega) (by omega);have ee:=V.cellss_get is i hlt;have hcall:=ih is[i] (Zp hlt) (lv+1) q (hmem _ (Zp hlt));rw[Zl hlt,cww]at heq;obtain⟨⟨k',n',s',is',ks'⟩,hv⟩:=Ex (is[i]);rw[hv]at ee hcall heq;refine go0 (ai @azg (ai t1 (ai t3 (ai t9 (ai t10 (ai hlt' (ai ee (ai elv ei)))))))) ?_;refine gc0 (ai @azg (ai t1 (ai t3 (ai t9 (ai t10 elv))))) ?_;refine(pcall hcall rfl (by simp[V.A,V.cells,A.pure,A.data]) _).mono ?_;rintro v h' ⟨rfl,rfl⟩;by_cases hz:(Val.chk (.mk k' n' s' is' ks') (lv+1) q).1=0
    ·rw[if_neg (by simp[hz])]at heq;rw[hz];refine go0 (ai @azg (ai t1 (ai t3 (ai t9 (ai t10 (ai hlt' (ai ee (ai elv ei)))))))) ?_;refine⟨is.length-(i+1),by omega,rfl,i+1,_,rfl,by omega,heq,?_⟩;(exact azo (ai t1 (ai t3 (ai t9 (ai t10 ei)))))
    ·have hz':((Val.chk (.mk k' n' s' is' ks') (lv+1) q).1 !=0)=true:=by simp[hz]
     rw[if_pos (by simp[hz])]at heq;refine go0 (ai @azg (ai t1 (ai t3 (ai t9 (ai t10 (ai hlt' (ai ee (ai elv (ai ei hz'))))))))) ?_;exact⟨_,le_refl _,by rw[aq4,hC,←heq]⟩
   ·have hlt':¬(i:Int)<((V.cellss is).length:Int):=by rw[V.cellss_length];omega
    refine go0 (ai @azg (ai t1 (ai t3 (ai t9 (ai t10 hlt'))))) ?_;refine⟨_,le_refl _,?_⟩;rw[aq4,hC,←heq,Zt (by omega),cye]
 ·have hn':(Val.nodeZ (.mk k n s is ks)!=0)=true:=by simp[hn]
  refine go0 (ai @V_A (ai @azg (ai h1 (ai h2 hn')))) ?_;exact⟨_,le_refl _,by rw[aq4,Val.chk,if_neg (by omega),if_neg (by omega),if_pos (by simp[hn])]⟩
theorem bxh(v:V)(hlen:v.lens)(h:Hp):AT 83 [v.A] h (.int .i64 (Val.checkZ v)):=by
 have ht:AC 128 [v.A,.int .i64 1,.int .i64 0] ⟨[],[]⟩ fun r _=>r=.tup [.int .i64 (Val.chk v 1 0).1,.int .i64 (Val.chk v 1 0).2]:=dvb v 1 0 hlen
 obtain⟨k,n,s,is,ks⟩:=v;refine pcall ?_ rfl (by simp[V.A,V.cells,A.pure,A.data]) h;refine azb mixedT dzx (by simp[bjk]) ?_;dsimp only[bjk];refine go0 (ai @V_A @azg) ?_;refine gc0 (ai @V_A @azg) ?_;refine(pcall ht rfl (by simp[V.A,V.cells,A.pure,A.data]) _).mono ?_;rintro v h' ⟨rfl,rfl⟩;refine go0 (ai @V_A @azg) ?_;exact Fn rfl
def bw9:AX.AFn:=⟨50,aS [aR 1 (.box 40 (.t 0)),aR 2 (.mv (aI 0))] (.seq (aS [aR 6 (.load true 5 (.t 1)),aR 7 (.call 136 [.t 6]),aR 8 (.un .not (.t 7))] (.cond (.t 8) (aS [aR 2 (.mv (aI 1))] (.ret)) (.skip))) (.seq (aS [aF 9 0 1,aL 10 9] (.block 0 (aS [aR 12 (.bin .eql (.t 10) (aI 2)),aM 11 12] (.cond (.t 11) (aS [aF 13 1 1,aL 14 13,aR 15 (.call 135 [.t 14]),aR 16 (.un .not (.t 15))] (.cond (.t 16) (aS [aR 2 (.mv (aI 5))] (.ret)) (.skip))) (aS [aR 18 (.bin .eql (.t 10) (aI 3)),aM 17 18] (.cond (.t 17) (aS [aF 19 2 1,aL 20 19,aR 21 (.call 137 [.t 20]),aM 2 21] (.ret)) (aS [aR 23 (.bin .eql (.t 10) (aI 5)),aM 22 23] (.cond (.t 22) (aS [aF 24 4 1,aL 25 24,aR 26 (.len false (.t 25)),aR 27 (.mv (aI 0))] (.block 1 (.loop (aS [aR 28 (.bin .lss (.t 27) (.t 26))] (.seq (.cond (.t 28) (.skip) (.exit 1)) (.seq (.block 2 (aS [aM 29 27,aR 30 (.iaddr 1 (.t 25) (.t 27)),aL 31 30,aM 3 29,aM 4 31] (.seq (aS [aM 32 4,aR 33 (.call 137 [.t 32]),aM 5 33] (aS [aM 34 5,aR 35 (.bin .neq (.t 34) (aI 0))] (.cond (.t 35) (aS [aM 36 5,aM 2 36] (.ret)) (.skip)))) (aS [aM 37 3,aR 38 (.bin .gtr (.t 37) (aI 0)),aM 39 38,aG 40 (.mv (.t 4)) 39 true,aG 41 (.faddr 4 (.t 1)) 39 true,aG 42 (.load false 1 (.t 41)) 39 true,aG 43 (.mv (.t 3)) 39 true,aG 44 (.bin .sub (.t 43) (aI 1)) 39 true,aG 45 (.iaddr 1 (.t 42) (.t 44)) 39 true,aG 46 (.load false 1 (.t 45)) 39 true,aG 47 (.bin .leq (.t 40) (.t 46)) 39 true,aR 48 (.pick (.t 39) (.t 47) (.c (.bool false)))] (.cond (.t 48) (aS [aR 2 (.mv (aI 1))] (.ret)) (.skip)))))) (.reg false [aR 49 (.bin .add (.t 27) (aI 1)),aM 27 49]))))))) (.skip))))))))) (aS [aR 2 (.mv (aI 0))] (.ret)))),[.t 2]⟩
theorem dxg:AX.compFn Tryz.prog 99=some bw9:=by kernel_rfl
def bjg:AX.AFn:=⟨9,aS [aR 1 (.box 40 (.t 0)),aR 2 (.mv (aI 0))] (aS [aR 3 (.alloc 3 [.int .i64 0]),aU (.store 1 (.t 3) (aI 0))] (aS [aR 4 (.alloc 126 [.nilf])] (aS [aR 5 (.mkfn 98 [.t 3,.t 4]),aU (.store 1 (.t 4) (.t 5))] (aS [aL 6 4,aR 7 (.load true 5 (.t 1)),aR 8 (.callv (.t 6) [.t 7,aI 1]),aM 2 8] (.ret))))),[.t 2]⟩
theorem cy0:AX.compFn Tryz.prog 55=some bjg:=by kernel_rfl
def bjx:AX.AFn:=⟨38,aS [aR 4 (.box 40 (.t 0)),aR 6 (.mv (aI 0))] (.seq (aS [aM 11 1,aR 12 (.bin .gtr (.t 11) (aI 32))] (.cond (.t 12) (aS [aR 6 (.mv (aI 4))] (.ret)) (.skip))) (.seq (aS [aL 13 2,aR 14 (.bin .geq (.t 13) (aI 4096))] (.cond (.t 14) (aS [aR 6 (.mv (aI 14))] (.ret)) (.skip))) (aS [aL 15 2,aR 16 (.bin .add (.t 15) (aI 1)),aU (.store 1 (.t 2) (.t 16))] (.seq (aS [aR 17 (.load true 5 (.t 4)),aR 18 (.call 99 [.t 17]),aM 7 18] (aS [aM 19 7,aR 20 (.bin .neq (.t 19) (aI 0))] (.cond (.t 20) (aS [aM 21 7,aM 6 21] (.ret)) (.skip)))) (.seq (aS [aF 22 3 4,aL 23 22,aR 24 (.len false (.t 23)),aR 25 (.mv (aI 0))] (.block 0 (.loop (aS [aR 26 (.bin .lss (.t 25) (.t 24))] (.seq (.cond (.t 26) (.skip) (.exit 0)) (.seq (.block 1 (aS [aR 27 (.iaddr 5 (.t 23) (.t 25)),aR 28 (.load true 5 (.t 27)),aR 9 (.alloc 40 [.int .i64 0,.int .i64 0,.str [],.sl 0 .nil [],.sl 0 .nil []]),aU (.store 5 (.t 9) (.t 28))] (aS [aL 29 3,aR 30 (.load true 5 (.t 9)),aM 31 1,aR 32 (.bin .add (.t 31) (aI 1)),aR 33 (.callv (.t 29) [.t 30,.t 32]),aM 10 33] (aS [aM 34 10,aR 35 (.bin .neq (.t 34) (aI 0))] (.cond (.t 35) (aS [aM 36 10,aM 6 36] (.ret)) (.skip)))))) (.reg false [aR 37 (.bin .add (.t 25) (aI 1)),aM 25 37]))))))) (aS [aR 6 (.mv (aI 0))] (.ret))))))),[.t 6]⟩
theorem cya:AX.compFn Tryz.prog 98=some bjx:=by kernel_rfl
theorem bkq{k n:Int}{s:List UInt8}{is:List V}{ks:List (List UInt8)}(h:Val.shapedB k n s is.length ks.length=true):(k≠3→s=[])∧(k≠5→ks=[]):=by
 unfold Val.shapedB at h;simp only[Zf,ZP,ZD,ZC]at h;obtain⟨⟨⟨⟨_,_⟩,h1⟩,_⟩,h2⟩:=h;refine⟨fun hk=>?_,fun hk=>?_⟩
 ·rcases h1 with h1|h1
  ·exact absurd h1 hk
  ·exact h1
 ·rw[if_neg hk]at h2;exact ZS (by simpa using h2)
theorem djp(k n:Int)(s:List UInt8)(is:List V)(ks:List (List UInt8))(hlen:(V.mk k n s is ks).lens)(h:Hp):AT 99 [(V.mk k n s is ks).A] h (.int .i64 (Val.nodeZ (.mk k n s is ks))):=by
 refine pcall ?_ rfl (by simp[V.A,V.cells,A.pure,A.data]) h;obtain⟨hil,hkl,_,_⟩:=V.lens_mk hlen;refine azb mixedT dxg (by simp[bw9]) ?_;dsimp only[bw9];refine go0 (ai @V_A @azg) ?_;refine gc0 (ai @V_A @azg) ?_;refine(cy6 k n s .no .no 5 1 _ _ _).mono ?_;rintro v h' ⟨rfl,rfl⟩;rw[V.cellss_length,azh];rcases azs (Val.shapedB k n s is.length ks.length)with hs|hs
 ·rw[hs];obtain⟨hs3,hs5⟩:=bkq hs;have hZ:Val.nodeZ (.mk k n s is ks)=if k=2∧¬(-9007199254740992≤n∧n≤9007199254740992)then 5 else if Val.textZ s≠0 then Val.textZ s else Val.keysZ none ks:=by rw[Val.nodeZ,if_neg (by rw[hs];simp)]
  have ht0:Val.textZ []=0:=by decide
  have hk0:Val.keysZ none []=0:=rfl;by_cases h2:k=2
  ·have e2:(k==2)=true:=by simp[h2]
   obtain rfl:s=[]:=hs3 (by omega);obtain rfl:ks=[]:=hs5 (by omega);refine go0 (ai @V_A (ai @azg e2)) ?_;refine gc0 (ai @V_A (ai @azg e2)) ?_;refine(dzs n _).mono ?_;rintro v h' ⟨rfl,rfl⟩;by_cases hn:-9007199254740992≤n∧n≤9007199254740992
   ·refine go0 (ai @V_A (ai @azg (ai e2 hn))) ?_;exact⟨_,le_refl _,by rw[azn,hZ,if_neg (by simp[hn]),ht0];simp[hk0]⟩
   ·refine go0 (ai @V_A (ai @azg (ai e2 hn))) ?_;exact⟨_,le_refl _,by rw[azn,hZ,if_pos ⟨h2,hn⟩]⟩
  have e2:(k==2)=false:=by simp[h2]
  rw[if_neg (by simp[h2])]at hZ;by_cases h3:k=3
  ·have e3:(k==3)=true:=by simp[h3]
   obtain rfl:ks=[]:=hs5 (by omega);refine go0 (ai @V_A (ai @azg (ai e2 e3))) ?_;refine gc0 (ai @V_A (ai @azg (ai e2 e3))) ?_;refine(cj0 s _).mono ?_;rintro v h' ⟨rfl,rfl⟩;refine go0 (ai @V_A (ai @azg (ai e2 e3))) ?_
   exact⟨_,le_refl _,by
    rw[azn,hZ];split
    ·rfl
    ·next h=>rw[hk0];simp at h;rw[h]⟩
  have e3:(k==3)=false:=by simp[h3]
  obtain rfl:s=[]:=hs3 h3;rw[ht0,if_neg (by simp)]at hZ;by_cases h5:k=5
  ·have e5:(k==5)=true:=by simp[h5]
   refine go0 (ai @V_A (ai @azg (ai e2 (ai e3 e5)))) ?_;refine azd (fun m ts h=>h=⟨[.cells 40 (V.mk k n [] is ks).cells],[]⟩∧∃(i:Nat),m=ks.length-i∧i≤ks.length∧Val.keysZ (if i=0 then none else ks[i-1]?) (ks.drop i)=Val.keysZ none ks∧ts 1=.ptr 0 0∧ts 25=.sl 1 .no (strsA ks)∧ts 26=.int .i64 ks.length∧ts 27=.int .i64 i) ks.length ?_ ?_
   ·refine⟨rfl,0,rfl,Zq _,rfl,?_⟩;(exact azo @azh)
   ·rintro m ts h ⟨rfl,i,rfl,hi,heq,t1,t25,t26,t27⟩;by_cases hlt:i<ks.length
    ·have hlt2:(i:Int)<(ks.length:Int):=by omega
     have hlt':(i:Int)<((strsA ks).length:Int):=by rw[azh];omega
     have ee:=az1 ks i hlt;have ei:IntKind.i64.wrap ((i:Int)+1)=(i:Int)+1:=wrap64 (by omega) (by omega);rw[Zl hlt,Val.keysZ]at heq;refine go0 (ai @azg (ai t1 (ai t25 (ai t26 (ai t27 (ai hlt' (ai hlt2 (ai ee ei)))))))) ?_;refine gc0 (ai @azg (ai t1 (ai t25 (ai t26 (ai t27 (ai hlt' (ai ee ei))))))) ?_;refine(cj0 ks[i] _).mono ?_;rintro v h' ⟨rfl,rfl⟩;by_cases ht2:Val.textZ ks[i]=0
     ·rw[if_neg (by simp[ht2])]at heq;rw[ht2];cases i with
      |zero=>
       have h0:¬((0:Nat):Int)>0:=by omega
       simp only[Nat.reduceAdd,if_true,Val.badB,Zn,if_false]at heq;refine go0 (ai @azg (ai t1 (ai t25 (ai t26 (ai t27 (ai hlt' (ai hlt2 (ai ee (ai ei h0))))))))) ?_;refine⟨ks.length-1,by omega,rfl,1,rfl,by omega,?_,?_⟩
       ·rw[←heq];simp[hlt]
       ·(exact azo (ai t1 (ai t25 (ai t26 (ai t27 ei)))))
      |succ j=>
       have h0:((j+1:Nat):Int)>0:=by omega
       have ej:IntKind.i64.wrap (((j+1:Nat):Int)-1)=(j:Int):=by rw[wrap64 (by omega) (by omega)];omega
       have ee2:=az1 ks j (by omega);have hj':(j:Int)<((strsA ks).length:Int):=by omega
       have hkj:ks[j+1-1]?=some (ks[j]'(by omega)):=Zm (by omega);rw[show(if j+1=0 then none else ks[j+1-1]?)=some (ks[j]'(by omega))from by rw[if_neg (by omega)];exact hkj]at heq;simp only[Val.badB,Val.less_total]at heq;rcases azs (Op.bytesLess ks[j+1] (ks[j]'(by omega))||ks[j+1]==(ks[j]'(by omega)))with hb|hb
       ·simp only[hb,ZW,ZU,Zn,if_false,if_true]at heq;refine go0 (ai @azg (ai t1 (ai t25 (ai t26 (ai t27 (ai hlt' (ai hlt2 (ai ee (ai ee2 (ai ei (ai ej (ai h0 (ai hj' hb))))))))))))) ?_;exact⟨_,le_refl _,by rw[azn,hZ,←heq]⟩
       ·simp only[hb,ZW,ZU,Zn,if_false,if_true]at heq;refine go0 (ai @azg (ai t1 (ai t25 (ai t26 (ai t27 (ai hlt' (ai hlt2 (ai ee (ai ee2 (ai ei (ai ej (ai h0 (ai hj' hb))))))))))))) ?_;refine⟨ks.length-(j+1+1),by omega,rfl,j+1+1,rfl,by omega,?_,?_⟩
        ·rw[←heq];simp[hlt]
        ·(exact azo (ai t1 (ai t25 (ai t26 (ai t27 ei)))))
     ·have ht3:(Val.textZ ks[i]!=0)=true:=by simp[ht2]
      rw[if_pos (by simp[ht2])]at heq;refine go0 (ai @azg (ai t1 (ai t25 (ai t26 (ai t27 (ai hlt' (ai hlt2 (ai ee (ai ei ht3))))))))) ?_;exact⟨_,le_refl _,by rw[azn,hZ,←heq]⟩
    ·have hlt2:¬(i:Int)<(ks.length:Int):=by omega
     refine go0 (ai @azg (ai t1 (ai t25 (ai t26 (ai t27 hlt2))))) ?_;refine⟨_,le_refl _,?_⟩;rw[azn,hZ,←heq,Zt (by omega)];cases(if i=0 then none else ks[i-1]?)<;>rfl
  have e5:(k==5)=false:=by simp[h5]
  obtain rfl:ks=[]:=hs5 h5;refine go0 (ai @V_A (ai @azg (ai e2 (ai e3 e5)))) ?_;exact⟨_,le_refl _,by rw[azn,hZ,hk0]⟩
 ·rw[hs];refine go0 (ai @V_A @azg) ?_;exact⟨_,le_refl _,by rw[azn,Val.nodeZ,if_pos hs]⟩
theorem cjx(lv b:Nat):Val.chks [] lv b=(0,b):=by rw[Val.chks]
theorem cq4(v:V)(l:List V)(lv b:Nat):Val.chks (v::l) lv b=if(Val.chk v lv b).1≠0 then Val.chk v lv b else Val.chks l lv (Val.chk v lv b).2:=by rw[Val.chks]
def cntB(b:Nat):Blk:=.cells 3 [.int .i64 b]
def visB:Blk:=.cells 126 [.fn 98 [.ptr 1 0,.ptr 2 0]]
theorem bzc{l m:List Blk}{i:Nat}{x:Blk}(h:l[i]?=some x):(l++m)[i]?=some x:=by
 rw[ZB (Ze.1 h).1];exact h
theorem djv(l:List Blk)(x y:Blk):(l++[x]).set l.length y=l++[y]:=by
 rw[List.set_append_right _ _ (Zh _)];simp
theorem dx4:∀(v:V) (lv b:Nat) (h:Hp),v.lens→h.b[1]?=some (cntB b)→h.b[2]?=some visB→AC 98 [v.A,.int .i64 lv,.ptr 1 0,.ptr 2 0] h fun r h'=>r=.int .i64 (Val.chk v lv b).1∧((Val.chk v lv b).1=0→h'.b[1]?=some (cntB (Val.chk v lv b).2)∧h'.b[2]?=some visB):=by
 refine V.induct fun k n s is ks ih=>?_
 intro lv b h hlen hb1 hb2;refine azb mixedT cya (by simp[bjx]) ?_;dsimp only[bjx];obtain⟨hil,hkl,_,hmem⟩:=V.lens_mk hlen;have hbl:2<h.b.length:=(Ze.1 hb2).1;have g1:∀m,(h.b++m)[1]?=some (.cells 3 [.int .i64 b]):=fun m=>bzc hb1
 have g2:∀m,(h.b++m)[2]?=some visB:=fun m=>bzc hb2
 have hC:¬(lv:Int)>32→¬(b:Int)≥4096→Val.chk (.mk k n s is ks) lv b=if Val.nodeZ (.mk k n s is ks)≠0 then(Val.nodeZ (.mk k n s is ks),b)else Val.chks is (lv+1) (b+1):=fun h1 h2=>by rw[Val.chk,if_neg (by omega),if_neg (by omega)]
 by_cases h1:(lv:Int)>32
 ·have hC1:Val.chk (.mk k n s is ks) lv b=(4,b):=by rw[Val.chk,if_pos (by omega)]
  refine go0 (ai @V_A (ai @azg h1)) ?_;exact⟨_,le_refl _,by rw[azn,hC1],fun e=>by rw[hC1]at e;simp at e⟩
 by_cases h2:(b:Int)≥4096
 ·have hC1:Val.chk (.mk k n s is ks) lv b=(14,b):=by rw[Val.chk,if_neg (by omega),if_pos (by omega)]
  refine go0 (ai @V_A (ai @azg (ai h1 (ai h2 (ai g1 g2))))) ?_;exact⟨_,le_refl _,by rw[azn,hC1],fun e=>by rw[hC1]at e;simp at e⟩
 have eb:IntKind.i64.wrap ((b:Int)+1)=((b+1:Nat):Int):=by rw[wrap64 (by omega) (by omega)];omega
 have hne1:¬(1=h.b.length):=by omega
 have hle1:1≤1:=by omega
 refine go0 (ai @V_A (ai @azg (ai h1 (ai h2 (ai g1 (ai g2 (ai eb (ai (@Yk AX.Blk) hne1)))))))) ?_;refine gc0 (ai @V_A (ai @azg (ai h1 h2))) ?_;refine(djp k n s is ks hlen _).mono ?_;rintro v h' ⟨rfl,rfl⟩;have hC':=hC h1 h2;by_cases hn:Val.nodeZ (.mk k n s is ks)=0
 ·rw[hn];rw[if_neg (by simp[hn])]at hC';have elv:IntKind.i64.wrap ((lv:Int)+1)=((lv+1:Nat):Int):=by rw[wrap64 (by omega) (by omega)];omega
  refine go0 (ai @V_A (ai @azg (ai h1 (ai h2 (ai (@Yk AX.Blk) hne1))))) ?_;refine azd (fun m ts hh=>∃(i q:Nat),m=is.length-i∧i≤is.length∧Val.chks (is.drop i) (lv+1) q=Val.chks is (lv+1) (b+1)∧hh.b[1]?=some (cntB q)∧hh.b[2]?=some visB∧ts 1=.int .i64 lv∧ts 3=.ptr 2 0∧ts 23=.sl 5 .no (V.cellss is)∧ts 24=.int .i64 is.length∧ts 25=.int .i64 i) is.length ?_ ?_
  ·refine⟨0,b+1,rfl,Zq _,rfl,?_,?_,?_⟩
   ·show(List.set _ 1 _)[1]?=_
    rw[Yk,if_pos rfl,if_pos (by simp;omega)];rfl
   ·show(List.set _ 1 _)[2]?=_
    rw[Yk,if_neg (by omega)];exact g2 _
   ·(exact azo @V.cellss_length)
  ·rintro m ts hh ⟨i,q,rfl,hi,heq,p1,p2,t1,t3,t23,t24,t25⟩;by_cases hlt:i<is.length
   ·have hlt2:(i:Int)<(is.length:Int):=by omega
    have hlt':(i:Int)<((V.cellss is).length:Int):=by rw[V.cellss_length];omega
    have ei:IntKind.i64.wrap ((i:Int)+1)=(i:Int)+1:=wrap64 (by omega) (by omega);have ee:=V.cellss_get is i hlt;have hcall:=fun(h:Hp)=>ih is[i] (Zp hlt) (lv+1) q h (hmem _ (Zp hlt))
    rw[Zl hlt,cq4]at heq;obtain⟨⟨k',n',s',is',ks'⟩,hv⟩:=Ex (is[i]);rw[hv]at ee hcall heq;have q2:∀m,(hh.b++m)[2]?=some (.cells 126 [.fn 98 [.ptr 1 0,.ptr 2 0]]):=fun m=>bzc p2
    refine go0 (ai @azg (ai t1 (ai t3 (ai t23 (ai t24 (ai t25 (ai hlt' (ai hlt2 (ai ee (ai elv (ai ei (ai @djv q2)))))))))))) ?_;refine gc0 (ai @azg (ai t1 (ai t3 (ai t23 (ai t24 (ai t25 elv)))))) ?_;refine(hcall _ (bzc p1) (bzc p2)).mono ?_;rintro v h' ⟨rfl,hcnt⟩;by_cases hz:(Val.chk (.mk k' n' s' is' ks') (lv+1) q).1=0
    ·rw[if_neg (by simp[hz])]at heq;rw[hz];obtain⟨r1,r2⟩:=hcnt hz;refine go0 (ai @azg (ai t1 (ai t3 (ai t23 (ai t24 (ai t25 ei)))))) ?_;refine⟨is.length-(i+1),by omega,i+1,_,rfl,by omega,heq,r1,r2,?_⟩;(exact azo (ai t1 (ai t3 (ai t23 (ai t24 (ai t25 ei))))))
    ·have hz':((Val.chk (.mk k' n' s' is' ks') (lv+1) q).1 !=0)=true:=by simp[hz]
     rw[if_pos (by simp[hz])]at heq;refine go0 (ai @azg (ai t1 (ai t3 (ai t23 (ai t24 (ai t25 (ai ei hz'))))))) ?_;exact⟨_,le_refl _,by rw[azn,hC',←heq],fun e=>by rw[hC',←heq]at e;exact absurd e hz⟩
   ·have hlt2:¬(i:Int)<(is.length:Int):=by omega
    rw[Zt (by omega),cjx]at heq;refine go0 (ai @azg (ai t1 (ai t3 (ai t23 (ai t24 (ai t25 hlt2)))))) ?_;exact⟨_,le_refl _,by rw[azn,hC',←heq],fun _=>by rw[hC',←heq];exact⟨p1,p2⟩⟩
 ·have hn':(Val.nodeZ (.mk k n s is ks)!=0)=true:=by simp[hn]
  rw[if_pos (by simp[hn])]at hC';refine go0 (ai @V_A (ai @azg (ai h1 (ai h2 hn')))) ?_;exact⟨_,le_refl _,by rw[azn,hC'],fun e=>by rw[hC']at e;exact absurd e hn⟩
theorem bjv(v:V)(hlen:v.lens)(h:Hp):AT 55 [v.A] h (.int .i64 (Val.checkZ v)):=by
 have ht:∀h:Hp,h.b[1]?=some (cntB 0)→h.b[2]?=some visB→AC 98 [v.A,.int .i64 1,.ptr 1 0,.ptr 2 0] h fun r h'=>r=.int .i64 (Val.chk v 1 0).1∧((Val.chk v 1 0).1=0→h'.b[1]?=some (cntB (Val.chk v 1 0).2)∧h'.b[2]?=some visB):=fun h=>dx4 v 1 0 h hlen
 obtain⟨k,n,s,is,ks⟩:=v;refine pcall ?_ rfl (by simp[V.A,V.cells,A.pure,A.data]) h;refine azb mixedT cy0 (by simp[bjg]) ?_;dsimp only[bjg];refine go0 (ai @V_A @azg) ?_;refine gc0 (ai @V_A @azg) ?_;refine(ht _ rfl rfl).mono ?_;rintro v h' ⟨rfl,_⟩;refine go0 (ai @V_A @azg) ?_;exact Fn rfl
theorem czr:∀{l l':List V},Val.eqBs l l'=true→l.length=l'.length
 |[],[],_=>rfl
 |[],_::_,h=>by simp[Val.eqBs]at h
 |_::_,[],h=>by simp[Val.eqBs]at h
 |v::l,v'::l',h=>by
  rw[Val.eqBs,Zf]at h;simp[czr h.2]
end AX
namespace Wire
end Wire
namespace Val
end Val
namespace AX
def Gs(E:TypeId)(W lo:Nat)(h:Hp)(rows:List (List A))(x:A):Prop:=(rows=[]∧x=.sl 0 .nil [])∨∃t,lo≤t∧x=.sl W (.tok t) rows∧h.t[t]?=some (E,W,rows.length)
theorem Gs.app{E:TypeId}{W lo:Nat}{h:Hp}{rows:List (List A)}{x:A}(hg:Gs E W lo h rows x)(hlo:lo≤h.t.length)(bytes:Nat)(y:List A)(h1:rows.length+1≤1000000000)(h2:bytes≤1000):
  ∃x' t',(∀b,appA ⟨b,h.t⟩ E W bytes x (.sl W .no [y])=some (x',⟨b,t'⟩))∧(∀b,Gs E W lo ⟨b,t'⟩ (rows++[y]) x')∧(∀(t:Nat) z,t<lo→h.t[t]?=some z→t'[t]?=some z)∧lo≤t'.length∧∀(t:Nat) E' W' n,E'≠E→h.t[t]?=some (E',W',n)→t'[t]?=some (E',W',n):=by
 have hb1:(rows.length+1)*bytes≤140737488355328:=Zs (Nat.mul_le_mul h1 h2) (by decide);have hb2:1*bytes≤140737488355328:=by omega
 rcases hg with⟨rfl,rfl⟩|⟨t,ht,rfl,htt⟩
 ·refine⟨.sl W (.tok h.t.length) [y],h.t++[(E,W,1)],?_,?_,?_,?_,?_⟩
  ·intro b;exact if_pos (show W=W∧0 < [y].length∧[y].length≤maxLen∧[y].length*bytes≤140737488355328 from⟨rfl,by simp,by simp[maxLen],by simpa using hb2⟩)
  ·intro b;exact .inr ⟨h.t.length,hlo,rfl,by simp⟩
  ·intro t z _ hz;rw[ZB (Ze.1 hz).1];exact hz
  ·simp;omega
  ·intro t E' W' n _ hz;rw[ZB (Ze.1 hz).1];exact hz
 ·refine⟨.sl W (.tok t) (rows++[y]),h.t.set t (E,W,rows.length+1),?_,?_,?_,?_,?_⟩
  ·intro b;exact if_pos (show W=W∧W=W∧0 < [y].length∧h.t[t]?=some (E,W,rows.length)∧rows.length+[y].length≤maxLen∧(rows.length+[y].length)*bytes≤140737488355328 from⟨rfl,rfl,by simp,htt,by simp[maxLen];omega,by simpa using hb1⟩)
  ·intro b;refine .inr ⟨t,ht,rfl,?_⟩;show(h.t.set t _)[t]?=_
   rw[Yk,if_pos rfl,if_pos (Ze.1 htt).1];simp
  ·intro t' z hlt hz;rw[Yk,if_neg (by omega)];exact hz
  ·simpa using hlo
  ·intro t' E' W' n hne hz;rw[Yk,if_neg (fun e=>by subst e;rw[htt]at hz;injection hz with hz;injection hz with hz;exact hne hz.symm)];exact hz
theorem Gs.sl{E:TypeId}{W lo:Nat}{h:Hp}{rows:List (List A)}{x:A}(hg:Gs E W lo h rows x):∃W' o,x=.sl W' o rows:=by
 rcases hg with⟨rfl,rfl⟩|⟨t,_,rfl,_⟩<;>exact⟨_,_,rfl⟩
theorem Gs.one{E:TypeId}{W lo:Nat}{h:Hp}{rows:List (List A)}{x:A}(hg:Gs E W lo h rows x):x.one=true:=by
 rcases hg with⟨_,rfl⟩|⟨t,_,rfl,_⟩<;>rfl
theorem Gs.le{E:TypeId}{W lo:Nat}{h:Hp}{rows:List (List A)}{x:A}(hg:Gs E W lo h rows x):le1 x (.sl W .no rows):=by
 rcases hg with⟨rfl,rfl⟩|⟨t,_,rfl,_⟩<;>simp[le1]
theorem Gs.keep{E:TypeId}{W lo:Nat}{h h':Hp}{rows:List (List A)}{x:A}(hg:Gs E W lo h rows x)(hk:∀(t:Nat) n,h.t[t]?=some (E,W,n)→h'.t[t]?=some (E,W,n)):Gs E W lo h' rows x:=by
 rcases hg with h1|⟨t,h1,h2,h3⟩
 ·exact .inl h1
 ·exact .inr ⟨t,h1,h2,hk _ _ h3⟩
theorem V.cells_data(v:V):v.cells.all A.data=true:=by
 obtain⟨k,n,s,is,ks⟩:=v;rfl
end AX
namespace Val
end Val
namespace AX
end AX
end
end Go.Proofs.YtnghhnahdjjpkaaGreatDoor
