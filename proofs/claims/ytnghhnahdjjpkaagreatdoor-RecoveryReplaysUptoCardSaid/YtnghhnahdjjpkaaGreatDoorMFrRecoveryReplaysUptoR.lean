/- Part of what the proof needs. -/
import Derived.Test.YtnghhnahdjjpkaaGreatDoorMFrRecoveryReplaysUpto0
import Derived.Test.YtnghhnahdjjpkaaGreatDoorMFrRecoveryReplaysUptoD
import Derived.Test.YtnghhnahdjjpkaaGreatDoorMFrRecoveryReplaysUptoE
import Derived.Test.YtnghhnahdjjpkaaGreatDoorMFrRecoveryReplaysUptoF
import Derived.Test.YtnghhnahdjjpkaaGreatDoorMFrRecoveryReplaysUptoP
import Derived.Test.YtnghhnahdjjpkaaGreatDoorMFrRecoveryReplaysUptoQ
set_option maxHeartbeats 4000000
set_option maxRecDepth 100000
set_option linter.all false
namespace Go.Proofs.YtnghhnahdjjpkaaGreatDoor
section
open Go.RowKit
mutual
def V.few:V→Prop
 |.mk k n s is ks=>is.length≤2000000∧ks.length≤2000000∧V.fews is
def V.fews:List V→Prop
 |[]=>True
 |v::l=>v.few∧V.fews l
end
theorem V.fews_mem:∀{l:List V},V.fews l→∀x∈l,x.few
 |[],_=>by simp
 |v::l,h=>by
  unfold V.fews at h;exact YV.2 ⟨h.1,V.fews_mem h.2⟩
theorem bk2:∀l:List V,l.length≤D.bulks (V.toDs l)
 |[]=>Zq _
 |v::l=>by
  have:=bk2 l;have h1:1≤v.toD.bulk:=by cases h:v.toD<;>rw[D.bulk]<;>omega
  rw[V.toDs,D.bulks,Zi];omega
mutual
theorem V.few_of:∀v:V,v.toD.bulk≤1500000→v.few
 |.mk k n s is ks,h=>by
  rw[V.toD,D.bulk,D.bulks,D.bulks,D.bulks,D.bulks,D.bulks,D.bulks,D.bulk,D.bulk,D.bulk,D.bulk,D.bulk]at h;have h1:=bk2 is;have h2:=(ax1 ks).1;unfold V.few;exact⟨by omega,by omega,V.fews_of is (by omega)⟩
theorem V.fews_of:∀l:List V,D.bulks (V.toDs l)≤1500000→V.fews l
 |[],_=>by unfold V.fews;trivial
 |v::l,h=>by
  rw[V.toDs,D.bulks]at h;unfold V.fews;exact⟨V.few_of v (by omega),V.fews_of l (by omega)⟩
end
namespace AX
def ays:AX.AFn:=⟨26,aS [aR 1 (.box 40 (.t 0)),aR 2 (.alloc 40 [.int .i64 0,.int .i64 0,.str [],.sl 0 .nil [],.sl 0 .nil []])] (aS [aF 6 4 1,aL 7 6,aR 8 (.call 120 [.t 7]),aF 9 4 1,aU (.store 1 (.t 9) (.t 8))] (aS [aR 3 (.mv (.c (.sl 0 .nil [])))] (.seq (aS [aF 10 3 1,aL 11 10,aR 12 (.len false (.t 11)),aR 13 (.mv (aI 0))] (.block 0 (.loop (aS [aR 14 (.bin .lss (.t 13) (.t 12))] (.seq (.cond (.t 14) (.skip) (.exit 0)) (.seq (.block 1 (aS [aR 15 (.iaddr 5 (.t 11) (.t 13)),aR 16 (.load true 5 (.t 15)),aR 5 (.alloc 40 [.int .i64 0,.int .i64 0,.str [],.sl 0 .nil [],.sl 0 .nil []]),aU (.store 5 (.t 5) (.t 16))] (.reg false [aM 17 3,aR 18 (.load true 5 (.t 5)),aR 19 (.call 76 [.t 18]),aR 20 (.mks 5 [.t 19]),aR 21 (.app 40 5 80 (.t 17) (.t 20)),aM 3 21]))) (.reg false [aR 22 (.bin .add (.t 13) (aI 1)),aM 13 22]))))))) (aS [aM 23 3,aF 24 3 1,aU (.store 1 (.t 24) (.t 23))] (aS [aR 25 (.load true 5 (.t 1)),aU (.store 5 (.t 2) (.t 25))] (.ret)))))),[.c 2 true 5]⟩
theorem cvj:AX.compFn Tryz.prog 76=some ays:=by kernel_rfl
def ayi:AX.AFn:=⟨12,aS [aR 1 (.box 42 (.t 0)),aR 2 (.alloc 42 [.str [],.str [],.str [],.str [],.int .i64 0,.int .i64 0,.str [],.sl 0 .nil [],.sl 0 .nil [],.int .i64 0,.bool false,.bool false,.sl 0 .nil []])] (.seq (.reg true [aF 3 4 1,⟨some 4,.load true 5 (.t 3),none,[0]⟩,⟨some 5,.call 76 [.t 4],none,[1]⟩,aF 6 12 1,⟨some 7,.load false 1 (.t 6),none,[3]⟩,⟨some 8,.call 120 [.t 7],none,[4,2]⟩,⟨some 9,.faddr 4 (.t 1),none,[0,1,2,3,4]⟩,⟨none,.store 5 (.t 9) (.t 5),none,[6,2,5,0,1,2,3,4]⟩,⟨some 10,.faddr 12 (.t 1),none,[0,1,2,3,4,5,6,7]⟩,⟨none,.store 1 (.t 10) (.t 8),none,[8,5,7,0,1,2,3,4,5,6,7]⟩]) (aS [aR 11 (.load true 13 (.t 1)),aU (.store 13 (.t 2) (.t 11))] (.ret))),[.c 2 true 13]⟩
theorem cwm:AX.compFn Tryz.prog 75=some ayi:=by kernel_rfl
theorem ck7:∀v:V,v.few→∀h,AT 76 [v.A] h (v.A):=by
 refine V.induct ?_;intro k n s is ks ih hfew h;unfold V.few at hfew;obtain⟨hl1,hl2,hfs⟩:=hfew;have ck:=awc ks (by omega);have li:=V.cellss_length is;have hVA:(V.mk k n s is ks).A=.agg [.int .i64 k,.int .i64 n,.str s,.sl 5 .no (V.cellss is),.sl 1 .no (strsA ks)]:=by simp only[V.A,V.cells]
 rw[hVA];refine pcall ?_ rfl (by simp[A.pure,A.data]) h;refine azb mixedT cvj (by simp[ays]) ?_;dsimp only[ays];refine aze li (ai ck ti) ?_
 refine azd (fun m ts hh=>∃(j:Nat) (W:Nat) (o:Own) (l':List Blk) (t:List (TypeId×Nat×Nat)),m=is.length-j∧j≤is.length∧hh=⟨.cells 40 [.int .i64 k,.int .i64 n,.str s,.sl 5 .no (V.cellss is),.sl 1 .no (strsA ks)] :: .cells 40 [.int .i64 0,.int .i64 0,.str [],.sl 0 .nil [],.sl 0 .nil []]::l',t⟩∧Gs 40 5 0 ⟨[],t⟩ (V.cellss (is.take j)) (.sl W o (V.cellss (is.take j))) ∧
  (ts 1=.ptr 0 0∧ts 2=.ptr 1 0∧ts 3=.sl W o (V.cellss (is.take j))∧ts 11=.sl 5 .no (V.cellss is)∧ts 12=.int .i64 (is.length:Nat)∧ts 13=.int .i64 (j:Nat))) is.length ?_ ?_
 ·exact⟨0,0,.nil,[],[],rfl,Zq _,rfl,.inl ⟨rfl,rfl⟩,by(exact azo li)⟩
 rintro m ts hh ⟨j,W,o,l',t,rfl,hj,rfl,gX,ht⟩;rcases Zr j is.length with hlt|hge;rotate_left
 ·have hf:¬(j:Int)<(is.length:Int):=by omega
  rw[Zy hge]at gX ht;refine azf (ai ht hf) ?_;exact⟨.agg [.int .i64 k,.int .i64 n,.str s,.sl 5 .no (V.cellss is),.sl 1 .no (strsA ks)],⟨aza _,aza _,aza _,Gs.le gX,aza _,trivial⟩,rfl⟩
 have hf:(V.cellss is).length=is.length∧(j:Int)<(is.length:Int)∧(0:Int)≤(j:Int)∧(V.cellss is).getD j []=is[j].cells∧IntKind.i64.wrap ((j:Int)+1)=((j+1:Nat):Int):=
  ⟨li,by omega,by omega,V.cellss_get is j hlt,by rw[wrap64 (by omega) (by omega)];omega⟩
 have cx:=ih _ (Zp hlt) (V.fews_mem hfs _ (Zp hlt));have em:V.cellss (is.take j)++[is[j].cells]=V.cellss (is.take (j+1)):=by
  have e:is.take (j+1)=is.take j++[is[j]]:=(List.take_append_getElem hlt).symm;rw[e,V.cellss_map,V.cellss_map,YF];rfl
 have hrl:(V.cellss (is.take j)).length=j:=by rw[V.cellss_length,Zk];omega
 obtain⟨W',o',t',hX,gX',_⟩:=gX.grow 80 is[j].cells (by rw[hrl];omega) (by decide);rw[em]at gX';simp only[em]at hX;clear em ih gX;obtain⟨x,hx⟩:=Ex (is[j]);rw[hx]at hf cx hX;obtain⟨k2,n2,w,vi,vy⟩:=x;simp only[V.A,V.cells]at hf cx hX;refine aze (ai ht (ai hf hX)) (ai cx ti) ?_;exact⟨_,by omega,j+1,W',o',_,t',rfl,by omega,rfl,gX',by(exact azo (ai ht hf))⟩
theorem cvo(x:Sf.Inst)(hv:x.attrs.few)(hd:x.deps.length≤1000000000)(h:Hp):AT 75 [.agg (Sf.Inst.cells x)] h (.agg (Sf.Inst.cells x)):=by
 have cc:=ck7 x.attrs hv;have cs:=awc x.deps hd;obtain⟨a,d,i,t,⟨k,n,s,is,ks⟩,v,tn,fi,ds⟩:=x;simp only[V.A,V.cells,Sf.Inst.cells]at cc cs⊢;refine pcall ?_ rfl (by simp[A.pure,A.data]) h;refine azb mixedT cwm (by simp[ayi]) ?_;dsimp only[ayi];refine aze ti (ai cc (ai cs ti)) ?_;exact Fn rfl
structure JrFew(r:Jr):Prop where
 inn:JrIn r
 vfew:r.after.attrs.few
 ins:r.base.insts.length≤2000000∧∀x∈r.base.insts,x.attrs.few∧x.deps.length≤1000000000
 ps:r.base.pends.length≤2000000
 os:r.base.outs.length≤2000000∧∀x∈r.base.outs,x.value.few
theorem axc{α:Type}(n k:Int)(x:α):∀m:List (Int×α),gfind n (gput k x m)=if n=k then some x else gfind n m
 |[]=>rfl
 |(q,y)::m=>by
  unfold gput;by_cases h:k=q
  ·subst h;rw[if_pos rfl];unfold gfind;by_cases h2:n=k
   ·rw[if_pos h2,if_pos h2]
   ·rw[if_neg h2,if_neg h2,if_neg h2]
  ·rw[if_neg h];unfold gfind;by_cases h2:n=q
   ·subst h2;rw[if_pos rfl,if_neg (fun e=>h e.symm),if_pos rfl]
   ·rw[if_neg h2,if_neg h2];exact axc n k x m
theorem by4(n:Int):∀(l:List Jr) (m:List (Int×Bool)),(gfind n (l.foldl (fun m r=>if(r.kind==3||r.kind==4)=true then gput r.step true m else m) m)).getD false=((gfind n m).getD false||Jr.endedB n l)
 |[],m=>by simp[Jr.endedB]
 |r::l,m=>by
  rw[List.foldl_cons,by4 n l];unfold Jr.endedB;rw[List.any_cons];cases h:(r.kind==3||r.kind==4)
  ·simp
  ·rw[if_pos rfl,axc];by_cases h2:n=r.step
   ·subst h2;simp
   ·rw[if_neg h2,show(r.step==n)=false by simp;exact fun e=>h2 e.symm];simp
theorem cwd(n:Int)(l:List Jr):(gfind n (Jr.ends l)).getD false=Jr.endedB n l:=by
 unfold Jr.ends;rw[by4];rfl
theorem ck4(l:List Jr)(r:Jr):Jr.ends (l++[r])=if(r.kind==3||r.kind==4)=true then gput r.step true (Jr.ends l)else Jr.ends l:=by
 unfold Jr.ends;rw[List.foldl_append];rfl
end AX
theorem cqi(b off n c:Nat)(news:List Value)(w:World)(hl:news.length=n*5)(hn:0<n)(hbig:n*80≤140737488355328)(hmax:n≤maxLen)(hc:∀j v,news[j]?=some v→w.cell? ((⟨b,off,none⟩:Addr).add j)=some v)(h1:∀u∈news,u.oneCell'=true):
  Calls Tryz.prog 149 #[.slice (some ⟨b,off,none⟩) n c] w fun e w'=>∃v',e=.returned v'∧w'.ownsRow w.heap.size 40 5 v' n news∧Below w.heap.size w w':=by
 obtain⟨i0,hi,hz0,hz1,hz2⟩:=info_parts (show(Tryz.prog.info? 40).map (fun i=>(i.zero,i.size,i.bytes))=some (some (.agg #[.int .i64 0,.int .i64 0,.string ⟨#[]⟩,.slice none 0 0,.slice none 0 0]),5,80) by kernel_rfl);have q22:∀(w:World) (a:Option Addr) (n c n' c':Nat),(binOp .eql 37 (.slice a n c) (.slice none n' c')).run Tryz.prog w=.ok (.bool a.isNone) w:=fun w a n c n' c'=>Lib.run_eql_slice_nil w _ _ a n c n' c' Tryz.underlying37
 have u22:∀w,Sem.run Tryz.prog (underlying 37) w=.ok (TypeDesc.slice 40) w:=run_underlying Tryz.underlying37;have HC:=kept hc;have H1:=kept h1;clear hc h1;go_enter Tryz.func149,Tryz.ntmps149;go_wp2_with (at_builtin;refine wpList_append_own _ rfl _ _ 37 rfl w.heap.size 40 i0 (.agg #[.int .i64 0,.int .i64 0,.string ⟨#[]⟩,.slice none 0 0,.slice none 0 0]) 5 80 Tryz.underlying37 hi hz0 hz1 hz2 rfl (by decide) _ _ _ rfl (World.ownsRow_made w #[] 0 (Zh _) (Zq _) rfl) ⟨b,off,none⟩ n c news rfl ?qc1 ?qc2 ?qc3 ?qc4 ?qc5 ?qc6 ?_)
 case qc1=>exact hl
 case qc2=>
  intro j u hj;have:=HC.out j u hj;rw[Addr.add_lit]at this⊢;exact Lib.cell?_alloc_some _ this
 case qc3=>exact H1.out
 case qc4=>omega
 case qc5=>omega
 case qc6=>simp
 intro v' w1 hown hgrow hnil;have Hb:=kept (((Below.refl _ w).alloc (Zh _) (.cells #[] 40)).grown hgrow (by simp) (by intro k hk;simp[Value.ownBlock]at hk;omega));have Ho:=kept (show w1.ownsRow w.heap.size 40 5 v' n news by simpa using hown);clear hown hgrow hnil HC H1;go_wp2
 go_ret
 exact⟨v',rfl,Ho.out,Hb.out⟩
theorem bww(a:Option Addr)(c:Nat)(w:World):
  Calls Tryz.prog 149 #[.slice a 0 c] w fun e w'=>(∃a' c',e=.returned (.slice a' 0 c'))∧Below w.heap.size w w':=by
 have q22:∀(w:World) (a:Option Addr) (n c n' c':Nat),(binOp .eql 37 (.slice a n c) (.slice none n' c')).run Tryz.prog w=.ok (.bool a.isNone) w:=fun w a n c n' c'=>Lib.run_eql_slice_nil w _ _ a n c n' c' Tryz.underlying37
 have u22:∀w,Sem.run Tryz.prog (underlying 37) w=.ok (TypeDesc.slice 40) w:=run_underlying Tryz.underlying37;cases a with
 |none=>
  go_enter Tryz.func149,Tryz.ntmps149;go_wp2
  go_ret
  exact⟨⟨_,_,rfl⟩,Below.refl _ _⟩
 |some ad=>
  obtain⟨i0,hi,hz0,hz1,hz2⟩:=info_parts (show(Tryz.prog.info? 40).map (fun i=>(i.zero,i.size,i.bytes))=some (some (.agg #[.int .i64 0,.int .i64 0,.string ⟨#[]⟩,.slice none 0 0,.slice none 0 0]),5,80) by kernel_rfl);go_enter Tryz.func149,Tryz.ntmps149;go_wp2_with (at_builtin;refine wpList_append_own _ rfl _ _ 37 rfl w.heap.size 40 i0 (.agg #[.int .i64 0,.int .i64 0,.string ⟨#[]⟩,.slice none 0 0,.slice none 0 0]) 5 80 Tryz.underlying37 hi hz0 hz1 hz2 rfl (by decide) _ _ _ rfl (World.ownsRow_made w #[] 0 (Zh _) (Zq _) rfl) ad 0 c [] rfl rfl (by intro j u hj;simp at hj) (by intro u hu;cases hu) (by unfold maxLen;omega) (by omega) (by simp) ?_);intro v' w1 hown hgrow hnil;have Hb:=kept (((Below.refl _ w).alloc (Zh _) (.cells #[] 40)).grown hgrow (by simp) (by intro k hk;simp[Value.ownBlock]at hk;omega));have Hv:∃a' c',v'=.slice a' 0 c':=by
   rcases hown.2 with⟨rfl,_⟩|⟨g,cap,cur,rfl,_⟩
   ·exact⟨_,_,rfl⟩
   ·exact⟨_,_,rfl⟩
  obtain⟨a',c',rfl⟩:=Hv;clear hown hgrow hnil;go_wp2
  go_ret
  exact⟨⟨_,_,rfl⟩,Hb.out⟩
namespace AX
theorem bja(W0:Nat)(o:Own)(h:Hp):AT 149 [.sl W0 o []] h (.sl 5 .no []):=by
 intro C es hI ha;obtain⟨c,es',rfl,h1,h2⟩:=repL_cons.1 ha;rw[repL_nil]at h2;subst h2;obtain⟨a,cap,rfl,_,_,_⟩:=rep_sl.1 h1;refine(bww a cap C.w).mono ?_;rintro e w' ⟨⟨a',c',rfl⟩,hb⟩;obtain⟨i1,s1⟩:=az3 hI hb;exact⟨C.at w',h,.sl 5 .no [],_,rfl,rfl,i1,s1,rep_sl.2 ⟨a',c',rfl,Zq _,by unfold RepRows;trivial,trivial⟩,rfl,rfl⟩
theorem bko(o:Own)(rows:List (List A))(h0:rows≠[])(hbig:rows.length*80≤140737488355328)(hmax:rows.length≤maxLen)(h:Hp):
  AC 149 [.sl 5 o rows] h fun v h'=>v=.bs h.b.length 5 rows.length∧h'=⟨h.b++[.row 40 rows.flatten],h.t⟩:=by
 intro C es hI ha;obtain⟨c,es',rfl,h1,h2⟩:=repL_cons.1 ha;rw[repL_nil]at h2;subst h2;have hpos:0<rows.length:=Z9.2 h0;obtain⟨g,off,cap,cs,rfl,k1,k2,k3,k4,k5⟩:=axz h1 hpos;refine(cqi g off rows.length cap cs C.w k2 hpos hbig hmax k5 (azy k1 (az5 k3))).mono ?_;rintro e w' ⟨v',rfl,hown,hb⟩;rcases hown.2 with⟨_,hz⟩|⟨g',cap',cur,rfl,hg,hh,hcap,hcm,hcs,htake⟩
 ·omega
 ·have hcur:cur=(cs++cur.toList.drop (rows.length*5)).toArray:=by
   apply ZR.1;rw[←htake];simp
  rw[hcur]at hh;obtain⟨C',m1,m2,m3,m4,m5,m6⟩:=aq7 hI hb hg hh k1;exact⟨C',_,.bs h.b.length 5 rows.length,_,rfl,m1,m2,m3,rep_bs.2 ⟨cap',by rw[m4],hcap,m5,hcm,by rw[m6,←hcs];exact Nat.le_of_eq (congrArg Array.size hcur)⟩,rfl,rfl⟩
end AX
theorem cq2(b off n c:Nat)(news:List Value)(w:World)(hl:news.length=n*7)(hn:0<n)(hbig:n*104≤140737488355328)(hmax:n≤maxLen)(hc:∀j v,news[j]?=some v→w.cell? ((⟨b,off,none⟩:Addr).add j)=some v)(h1:∀u∈news,u.oneCell'=true):
  Calls Tryz.prog 113 #[.slice (some ⟨b,off,none⟩) n c] w fun e w'=>∃v',e=.returned v'∧w'.ownsRow w.heap.size 65 7 v' n news∧Below w.heap.size w w':=by
 obtain⟨i0,hi,hz0,hz1,hz2⟩:=info_parts (show(Tryz.prog.info? 65).map (fun i=>(i.zero,i.size,i.bytes))=some (some (.agg #[.string ⟨#[]⟩,.int .i64 0,.int .i64 0,.string ⟨#[]⟩,.slice none 0 0,.slice none 0 0,.bool false]),7,104) by kernel_rfl);have q22:∀(w:World) (a:Option Addr) (n c n' c':Nat),(binOp .eql 24 (.slice a n c) (.slice none n' c')).run Tryz.prog w=.ok (.bool a.isNone) w:=fun w a n c n' c'=>Lib.run_eql_slice_nil w _ _ a n c n' c' Tryz.underlying24
 have u22:∀w,Sem.run Tryz.prog (underlying 24) w=.ok (TypeDesc.slice 65) w:=run_underlying Tryz.underlying24;have HC:=kept hc;have H1:=kept h1;clear hc h1;go_enter Tryz.func113,Tryz.ntmps113;go_wp2_with (at_builtin;refine wpList_append_own _ rfl _ _ 24 rfl w.heap.size 65 i0 (.agg #[.string ⟨#[]⟩,.int .i64 0,.int .i64 0,.string ⟨#[]⟩,.slice none 0 0,.slice none 0 0,.bool false]) 7 104 Tryz.underlying24 hi hz0 hz1 hz2 rfl (by decide) _ _ _ rfl (World.ownsRow_made w #[] 0 (Zh _) (Zq _) rfl) ⟨b,off,none⟩ n c news rfl ?qc1 ?qc2 ?qc3 ?qc4 ?qc5 ?qc6 ?_)
 case qc1=>exact hl
 case qc2=>
  intro j u hj;have:=HC.out j u hj;rw[Addr.add_lit]at this⊢;exact Lib.cell?_alloc_some _ this
 case qc3=>exact H1.out
 case qc4=>omega
 case qc5=>omega
 case qc6=>simp
 intro v' w1 hown hgrow hnil;have Hb:=kept (((Below.refl _ w).alloc (Zh _) (.cells #[] 65)).grown hgrow (by simp) (by intro k hk;simp[Value.ownBlock]at hk;omega));have Ho:=kept (show w1.ownsRow w.heap.size 65 7 v' n news by simpa using hown);clear hown hgrow hnil HC H1;go_wp2
 go_ret
 exact⟨v',rfl,Ho.out,Hb.out⟩
theorem by0(a:Option Addr)(c:Nat)(w:World):
  Calls Tryz.prog 113 #[.slice a 0 c] w fun e w'=>(∃a' c',e=.returned (.slice a' 0 c'))∧Below w.heap.size w w':=by
 have q22:∀(w:World) (a:Option Addr) (n c n' c':Nat),(binOp .eql 24 (.slice a n c) (.slice none n' c')).run Tryz.prog w=.ok (.bool a.isNone) w:=fun w a n c n' c'=>Lib.run_eql_slice_nil w _ _ a n c n' c' Tryz.underlying24
 have u22:∀w,Sem.run Tryz.prog (underlying 24) w=.ok (TypeDesc.slice 65) w:=run_underlying Tryz.underlying24;cases a with
 |none=>
  go_enter Tryz.func113,Tryz.ntmps113;go_wp2
  go_ret
  exact⟨⟨_,_,rfl⟩,Below.refl _ _⟩
 |some ad=>
  obtain⟨i0,hi,hz0,hz1,hz2⟩:=info_parts (show(Tryz.prog.info? 65).map (fun i=>(i.zero,i.size,i.bytes))=some (some (.agg #[.string ⟨#[]⟩,.int .i64 0,.int .i64 0,.string ⟨#[]⟩,.slice none 0 0,.slice none 0 0,.bool false]),7,104) by kernel_rfl);go_enter Tryz.func113,Tryz.ntmps113;go_wp2_with (at_builtin;refine wpList_append_own _ rfl _ _ 24 rfl w.heap.size 65 i0 (.agg #[.string ⟨#[]⟩,.int .i64 0,.int .i64 0,.string ⟨#[]⟩,.slice none 0 0,.slice none 0 0,.bool false]) 7 104 Tryz.underlying24 hi hz0 hz1 hz2 rfl (by decide) _ _ _ rfl (World.ownsRow_made w #[] 0 (Zh _) (Zq _) rfl) ad 0 c [] rfl rfl (by intro j u hj;simp at hj) (by intro u hu;cases hu) (by unfold maxLen;omega) (by omega) (by simp) ?_);intro v' w1 hown hgrow hnil;have Hb:=kept (((Below.refl _ w).alloc (Zh _) (.cells #[] 65)).grown hgrow (by simp) (by intro k hk;simp[Value.ownBlock]at hk;omega));have Hv:∃a' c',v'=.slice a' 0 c':=by
   rcases hown.2 with⟨rfl,_⟩|⟨g,cap,cur,rfl,_⟩
   ·exact⟨_,_,rfl⟩
   ·exact⟨_,_,rfl⟩
  obtain⟨a',c',rfl⟩:=Hv;clear hown hgrow hnil;go_wp2
  go_ret
  exact⟨⟨_,_,rfl⟩,Hb.out⟩
namespace AX
theorem bxb(W0:Nat)(o:Own)(h:Hp):AT 113 [.sl W0 o []] h (.sl 7 .no []):=by
 intro C es hI ha;obtain⟨c,es',rfl,h1,h2⟩:=repL_cons.1 ha;rw[repL_nil]at h2;subst h2;obtain⟨a,cap,rfl,_,_,_⟩:=rep_sl.1 h1;refine(by0 a cap C.w).mono ?_;rintro e w' ⟨⟨a',c',rfl⟩,hb⟩;obtain⟨i1,s1⟩:=az3 hI hb;exact⟨C.at w',h,.sl 7 .no [],_,rfl,rfl,i1,s1,rep_sl.2 ⟨a',c',rfl,Zq _,by unfold RepRows;trivial,trivial⟩,rfl,rfl⟩
theorem bvq(o:Own)(rows:List (List A))(h0:rows≠[])(hbig:rows.length*104≤140737488355328)(hmax:rows.length≤maxLen)(h:Hp):
  AC 113 [.sl 7 o rows] h fun v h'=>v=.bs h.b.length 7 rows.length∧h'=⟨h.b++[.row 65 rows.flatten],h.t⟩:=by
 intro C es hI ha;obtain⟨c,es',rfl,h1,h2⟩:=repL_cons.1 ha;rw[repL_nil]at h2;subst h2;have hpos:0<rows.length:=Z9.2 h0;obtain⟨g,off,cap,cs,rfl,k1,k2,k3,k4,k5⟩:=axz h1 hpos;refine(cq2 g off rows.length cap cs C.w k2 hpos hbig hmax k5 (azy k1 (az5 k3))).mono ?_;rintro e w' ⟨v',rfl,hown,hb⟩;rcases hown.2 with⟨_,hz⟩|⟨g',cap',cur,rfl,hg,hh,hcap,hcm,hcs,htake⟩
 ·omega
 ·have hcur:cur=(cs++cur.toList.drop (rows.length*7)).toArray:=by
   apply ZR.1;rw[←htake];simp
  rw[hcur]at hh;obtain⟨C',m1,m2,m3,m4,m5,m6⟩:=aq7 hI hb hg hh k1;exact⟨C',_,.bs h.b.length 7 rows.length,_,rfl,m1,m2,m3,rep_bs.2 ⟨cap',by rw[m4],hcap,m5,hcm,by rw[m6,←hcs];exact Nat.le_of_eq (congrArg Array.size hcur)⟩,rfl,rfl⟩
end AX
namespace AX
def ay5:AX.AFn:=⟨30,aS [aR 1 (.box 40 (.t 0)),aR 2 (.alloc 40 [.int .i64 0,.int .i64 0,.str [],.sl 0 .nil [],.sl 0 .nil []])] (aS [aF 4 4 1,aL 5 4,aR 6 (.call 120 [.t 5]),aF 7 4 1,aU (.store 1 (.t 7) (.t 6))] (aS [aF 8 3 1,aL 9 8,aR 10 (.call 149 [.t 9]),aF 11 3 1,aU (.store 1 (.t 11) (.t 10))] (.seq (aS [aF 12 3 1,aL 13 12,aR 14 (.len false (.t 13)),aR 15 (.mv (aI 0))] (.block 0 (.loop (aS [aR 16 (.bin .lss (.t 15) (.t 14))] (.seq (.cond (.t 16) (.skip) (.exit 0)) (.seq (.block 1 (aS [aM 17 15,aM 3 17] (.reg true [aF 18 3 1,⟨some 19,.load false 1 (.t 18),none,[0]⟩,aM 20 3,aF 21 3 1,⟨some 22,.load false 1 (.t 21),none,[3]⟩,aM 23 3,⟨some 24,.iaddr 5 (.t 22) (.t 23),none,[4,5]⟩,⟨some 25,.load true 5 (.t 24),none,[6]⟩,⟨some 26,.call 114 [.t 25],none,[7]⟩,⟨some 27,.iaddr 5 (.t 19) (.t 20),none,[1,2,0,1,2,3,4,5,6,7,8]⟩,⟨none,.store 5 (.t 27) (.t 26),none,[9,8,8,0,1,2,3,4,5,6,7,8]⟩]))) (.reg false [aR 28 (.bin .add (.t 15) (aI 1)),aM 15 28]))))))) (aS [aR 29 (.load true 5 (.t 1)),aU (.store 5 (.t 2) (.t 29))] (.ret))))),[.c 2 true 5]⟩
theorem cjc:AX.compFn Tryz.prog 114=some ay5:=by kernel_rfl
def ayp:AX.AFn:=⟨12,aS [aR 1 (.box 42 (.t 0)),aR 2 (.alloc 42 [.str [],.str [],.str [],.str [],.int .i64 0,.int .i64 0,.str [],.sl 0 .nil [],.sl 0 .nil [],.int .i64 0,.bool false,.bool false,.sl 0 .nil []])] (aS [aF 3 4 1,aR 4 (.load true 5 (.t 3)),aR 5 (.call 114 [.t 4]),aF 6 4 1,aU (.store 5 (.t 6) (.t 5))] (aS [aF 7 12 1,aL 8 7,aR 9 (.call 120 [.t 8]),aF 10 12 1,aU (.store 1 (.t 10) (.t 9))] (aS [aR 11 (.load true 13 (.t 1)),aU (.store 13 (.t 2) (.t 11))] (.ret)))),[.c 2 true 13]⟩
theorem ckm:AX.compFn Tryz.prog 112=some ayp:=by kernel_rfl
def av8:AX.AFn:=⟨24,aS [aR 2 (.mv (.c (.sl 0 .nil [])))] (aS [aM 5 0,aR 6 (.call 113 [.t 5]),aM 3 6] (.seq (aS [aM 7 3,aR 8 (.len false (.t 7)),aR 9 (.mv (aI 0))] (.block 0 (.loop (aS [aR 10 (.bin .lss (.t 9) (.t 8))] (.seq (.cond (.t 10) (.skip) (.exit 0)) (.seq (.block 1 (aS [aM 11 9,aM 4 11] (.reg false [aM 12 3,aM 13 4,aM 14 3,aM 15 4,aR 16 (.iaddr 7 (.t 14) (.t 15)),aF 17 1 16,aR 18 (.load true 5 (.t 17)),aR 19 (.call 114 [.t 18]),aR 20 (.iaddr 7 (.t 12) (.t 13)),aF 21 1 20,aU (.store 5 (.t 21) (.t 19))]))) (.reg false [aR 22 (.bin .add (.t 9) (aI 1)),aM 9 22]))))))) (aS [aM 23 3,aM 2 23] (.ret)))),[.t 2]⟩
theorem cq8:AX.compFn Tryz.prog 70=some av8:=by kernel_rfl
def avb:AX.AFn:=⟨33,aS [aR 1 (.box 26 (.t 0)),aR 2 (.alloc 26 [.str [],.int .i64 0,.sl 0 .nil [],.sl 0 .nil [],.sl 0 .nil []])] (.seq (.reg true [aF 6 0 1,⟨some 7,.load false 1 (.t 6),none,[0]⟩,aF 8 1 1,⟨some 9,.load false 1 (.t 8),none,[2]⟩,aF 10 3 1,⟨some 11,.load false 1 (.t 10),none,[4]⟩,⟨some 12,.call 77 [.t 11],none,[5]⟩,aF 13 4 1,⟨some 14,.load false 1 (.t 13),none,[7]⟩,⟨some 15,.call 70 [.t 14],none,[8,6]⟩,⟨some 16,.build [.str [],.int .i64 0,.sl 0 .nil [],.sl 0 .nil [],.sl 0 .nil []] [(0,1,.t 7),(1,1,.t 9),(3,1,.t 12),(4,1,.t 15)],none,[1,3,6,9]⟩,aR 3 (.alloc 26 [.str [],.int .i64 0,.sl 0 .nil [],.sl 0 .nil [],.sl 0 .nil []]),⟨none,.store 5 (.t 3) (.t 16),none,[11,10,9,0,1,2,3,4,5,6,7,8,9,10,11]⟩]) (.seq (aS [aF 17 2 1,aL 18 17,aR 19 (.len false (.t 18)),aR 20 (.mv (aI 0))] (.block 0 (.loop (aS [aR 21 (.bin .lss (.t 20) (.t 19))] (.seq (.cond (.t 21) (.skip) (.exit 0)) (.seq (.block 1 (aS [aR 22 (.iaddr 13 (.t 18) (.t 20)),aR 23 (.load true 13 (.t 22)),aR 5 (.alloc 42 [.str [],.str [],.str [],.str [],.int .i64 0,.int .i64 0,.str [],.sl 0 .nil [],.sl 0 .nil [],.int .i64 0,.bool false,.bool false,.sl 0 .nil []]),aU (.store 13 (.t 5) (.t 23))] (.reg true [aF 24 2 3,⟨some 25,.load false 1 (.t 24),none,[0]⟩,aR 26 (.load true 13 (.t 5)),⟨some 27,.call 112 [.t 26],none,[2]⟩,⟨some 28,.mks 13 [.t 27],none,[3]⟩,⟨some 29,.apb 42 13 184 (.t 25) (.t 28),none,[1,4,3]⟩,⟨some 30,.faddr 2 (.t 3),none,[0,1,2,3,4,5]⟩,⟨none,.store 1 (.t 30) (.t 29),none,[6,5,5,0,1,2,3,4,5]⟩]))) (.reg false [aR 31 (.bin .add (.t 20) (aI 1)),aM 20 31]))))))) (aS [aR 32 (.load true 5 (.t 3)),aU (.store 5 (.t 2) (.t 32))] (.ret)))),[.c 2 true 5]⟩
theorem cz4:AX.compFn Tryz.prog 69=some avb:=by kernel_rfl
theorem avp:∀(xs l:List A) (off:Nat),(l.drop off).take xs.length=xs→setCells l off xs=l:=by
 intro xs;induction xs with
 |nil=>intro l off _;rfl
 |cons x xs ih=>
  intro l off h;rcases hd:l.drop off with _|⟨y,r⟩
  ·rw[hd]at h;simp at h
  ·rw[hd,Zi,Z8]at h;injection h with h1 h2;subst h1;have hlt:off<l.length:=by
    rcases Zr off l.length with h3|h3
    ·exact h3
    ·rw[Zt h3]at hd;cases hd
   have hd':=hd;rw[Zl hlt]at hd';injection hd' with e1 e2;unfold setCells;rw[show l.set off y=l by rw[←e1];exact List.set_getElem_self hlt];exact ih l (off+1) (by rw[e2];exact h2)
theorem flat_len{α:Type}(f:α→List A)(W:Nat)(hf:∀x,(f x).length=W):∀l:List α,((l.map f).flatten).length=l.length*W
 |[]=>by simp
 |x::l=>by rw[ZE,ZI,Zb,flat_len f W hf l,hf,Zi,Yv];omega
theorem avh{α:Type}(f:α→List A)(W:Nat)(hf:∀x,(f x).length=W):∀(l:List α) (j:Nat) (h:j<l.length),(((l.map f).flatten).drop (j*W)).take W=f l[j]
 |x::l,0,_=>by
  rw[ZE,ZI,Nat.zero_mul,YA,List.take_append_of_le_length (by rw[hf];exact Zh _),←hf x,Yy];rfl
 |x::l,j+1,h=>by
  rw[ZE,ZI,List.drop_append,Zt (by rw[hf,Yv];omega),Zg,hf,show(j+1)*W-W=j*W by rw[Yv];omega];exact avh f W hf l j (by rw[Zi]at h;omega)
theorem V.cells_len(v:V):v.cells.length=5:=by obtain⟨k,n,s,is,ks⟩:=v;rw[V.cells];rfl
theorem rows_data{α:Type}(f:α→List A)(hf:∀x,(f x).all A.data=true)(l:List α):(l.map f).flatten.all A.data=true:=by
 rw[List.all_flatten,ZF];intro r hr;obtain⟨s,_,rfl⟩:=Z0.1 hr;exact hf s
theorem bj1:∀v:V,v.few→∀h,AT 114 [v.A] h (v.A):=by
 refine V.induct ?_;intro k n s is ks ih hfew h;unfold V.few at hfew;obtain⟨hl1,hl2,hfs⟩:=hfew;have ck:=awc ks (by omega);have li:=V.cellss_length is;have hVA:(V.mk k n s is ks).A=.agg [.int .i64 k,.int .i64 n,.str s,.sl 5 .no (V.cellss is),.sl 1 .no (strsA ks)]:=by simp only[V.A,V.cells]
 rw[hVA];refine pcallv ?_ (by simp[A.pure,A.data]) h;refine azb mixedT cjc (by simp[ay5]) ?_;dsimp only[ay5];by_cases hm:is=[]
 ·subst hm;have e0:V.cellss []=[]:=by rw[V.cellss]
  have cv:=fun h=>bja 5 .no h
  rw[e0];refine aze ti (ai ck (ai cv ti)) ?_;refine avu ?_;have hz:¬(0:Int)<((0:Nat):Int):=by decide
  refine azf hz ?_;exact⟨_,le_refl _,.agg ⟨.inl ⟨rfl,rfl⟩,.inl ⟨rfl,rfl⟩,.inl ⟨rfl,rfl⟩,.inl ⟨rfl,rfl⟩,.inl ⟨rfl,rfl⟩,trivial⟩⟩
 have hne:V.cellss is≠[]:=fun e=>hm (Zao.1 (by rw[←li,e];rfl))
 have cv:=fun h=>bko .no (V.cellss is) hne (by rw[li];omega) (by rw[li];unfold maxLen;omega) h
 rw[li]at cv;have eF:V.cellss is=is.map V.cells:=V.cellss_map is;obtain⟨F,hF⟩:=Ex ((V.cellss is).flatten);rw[hF]at cv;refine aze li (ai ck (ai cv ti)) ?_
 refine azd (fun m ts hh=>∃j:Nat,m=is.length-j∧j≤is.length∧hh=⟨[.cells 40 [.int .i64 k,.int .i64 n,.str s,.bs 2 5 is.length,.sl 1 .no (strsA ks)],.cells 40 [.int .i64 0,.int .i64 0,.str [],.sl 0 .nil [],.sl 0 .nil []],.row 40 F],[]⟩ ∧
  (ts 1=.ptr 0 0∧ts 2=.ptr 1 0∧ts 14=.int .i64 (is.length:Nat)∧ts 15=.int .i64 (j:Nat))) is.length ?_ ?_
 ·exact⟨0,rfl,Zq _,rfl,by(exact azo li)⟩
 rintro m ts hh ⟨j,rfl,hj,rfl,ht⟩;rcases Zr j is.length with hlt|hge;rotate_left
 ·have hf:¬(j:Int)<(is.length:Int):=by omega
  refine azf (ai ht hf) ?_;exact⟨_,le_refl _,.agg ⟨.inl ⟨rfl,rfl⟩,.inl ⟨rfl,rfl⟩,.inl ⟨rfl,rfl⟩,.inr ⟨2,5,40,V.cellss is,by rw[li],by rw[hF];rfl,rfl,fun r hr=>by rw[eF]at hr;obtain⟨x,_,rfl⟩:=Z0.1 hr;exact V.cells_len x,by rw[eF];exact rows_data _ V.cells_data is⟩,.inl ⟨rfl,rfl⟩,trivial⟩⟩
 have hf:(j:Int)<(is.length:Int)∧(0:Int)≤(j:Int)∧IntKind.i64.wrap ((j:Int)+1)=((j+1:Nat):Int):=
  ⟨by omega,by omega,by rw[wrap64 (by omega) (by omega)];omega⟩
 have hln:j*5+5≤F.length:=by rw[←hF,eF,flat_len V.cells 5 V.cells_len];omega
 have hrow:(F.drop (j*5)).take 5=is[j].cells:=by rw[←hF,eF];exact avh V.cells 5 V.cells_len is j hlt
 have hset:setCells F (j*5) is[j].cells=F:=avp _ _ _ (by rw[V.cells_len];exact hrow);have cx:=ih _ (Zp hlt) (V.fews_mem hfs _ (Zp hlt));obtain⟨x,hx⟩:=Ex (is[j]);rw[hx]at cx hrow hset;obtain⟨k2,n2,w,vi,vy⟩:=x;simp only[V.A,V.cells]at cx hrow hset;simp only[setCells]at hset;refine aze (ai ht (ai hf (ai hln (ai hrow hset)))) (ai cx ti) ?_;exact⟨_,by omega,j+1,rfl,by omega,rfl,by(exact azo (ai ht hf))⟩
theorem axa(x:Sf.Inst)(hv:x.attrs.few)(hd:x.deps.length≤1000000000)(h:Hp):AT 112 [.agg (Sf.Inst.cells x)] h (.agg (Sf.Inst.cells x)):=by
 have cc:=bj1 x.attrs hv;have cs:=awc x.deps hd;obtain⟨a,d,i,t,⟨k,n,s,is,ks⟩,v,tn,fi,ds⟩:=x;simp only[V.A,V.cells,Sf.Inst.cells]at cc cs⊢;refine pcall ?_ rfl (by simp[A.pure,A.data]) h;refine azb mixedT ckm (by simp[ayp]) ?_;dsimp only[ayp];refine aze ti (ai cc (ai cs ti)) ?_;exact Fn rfl
theorem Sf.Outp.cells_len(o:Sf.Outp):o.cells.length=7:=by obtain⟨a,v,b⟩:=o;obtain⟨k,n,s,is,ks⟩:=v;simp[Sf.Outp.cells,V.cells]
theorem Sf.Outp.cells_data(o:Sf.Outp):o.cells.all A.data=true:=by obtain⟨a,v,b⟩:=o;obtain⟨k,n,s,is,ks⟩:=v;simp[Sf.Outp.cells,V.cells,A.data]
theorem av6(os:List Sf.Outp)(hn:os.length≤2000000)(hv:∀x∈os,x.value.few)(h:Hp):AT 70 [.sl 7 .no (os.map Sf.Outp.cells)] h (.sl 7 .no (os.map Sf.Outp.cells)):=by
 have lo:(os.map Sf.Outp.cells).length=os.length:=Zj _;refine pcallv ?_ (by simp[A.pure,A.data]) h;refine azb mixedT cq8 (by simp[av8]) ?_;dsimp only[av8];by_cases hm:os=[]
 ·subst hm;have cv:=fun h=>bxb 7 .no h
  simp only[Yj];refine aze ti (ai cv ti) ?_;refine avu ?_;have hz:¬(0:Int)<((0:Nat):Int):=by decide
  refine azf hz ?_;exact⟨_,le_refl _,.one (.inl ⟨rfl,rfl⟩)⟩
 have hne:os.map Sf.Outp.cells≠[]:=by simpa using hm
 have cv:=fun h=>bvq .no (os.map Sf.Outp.cells) hne (by rw[lo];omega) (by rw[lo];unfold maxLen;omega) h
 rw[lo]at cv;obtain⟨F,hF⟩:=Ex ((os.map Sf.Outp.cells).flatten);rw[hF]at cv;refine aze lo (ai cv ti) ?_
 refine azd (fun m ts hh=>∃j:Nat,m=os.length-j∧j≤os.length∧hh=⟨[.row 65 F],[]⟩ ∧
  (ts 3=.bs 0 7 os.length∧ts 8=.int .i64 (os.length:Nat)∧ts 9=.int .i64 (j:Nat))) os.length ?_ ?_
 ·exact⟨0,rfl,Zq _,rfl,by(exact azo lo)⟩
 rintro m ts hh ⟨j,rfl,hj,rfl,ht⟩;rcases Zr j os.length with hlt|hge;rotate_left
 ·have hf:¬(j:Int)<(os.length:Int):=by omega
  refine azf (ai ht hf) ?_;exact⟨_,le_refl _,.one (.inr ⟨0,7,65,os.map Sf.Outp.cells,by rw[lo];rfl,by rw[hF];rfl,rfl,fun r hr=>by obtain⟨x,_,rfl⟩:=Z0.1 hr;exact Sf.Outp.cells_len x,rows_data _ Sf.Outp.cells_data os⟩)⟩
 have hf:(j:Int)<(os.length:Int)∧(0:Int)≤(j:Int)∧IntKind.i64.wrap ((j:Int)+1)=((j+1:Nat):Int):=
  ⟨by omega,by omega,by rw[wrap64 (by omega) (by omega)];omega⟩
 have hln:j*7+1+5≤F.length:=by rw[←hF,flat_len Sf.Outp.cells 7 Sf.Outp.cells_len];omega
 have hrow0:(F.drop (j*7)).take 7=os[j].cells:=by rw[←hF];exact avh Sf.Outp.cells 7 Sf.Outp.cells_len os j hlt
 have hrow:(F.drop (j*7+1)).take 5=os[j].value.cells:=by
  have h5:((F.drop (j*7)).take 7).drop 1=os[j].cells.drop 1:=by rw[hrow0]
  rw[←YI];rw[List.drop_take]at h5;have h6:=congrArg (List.take 5) h5;rw[List.take_take]at h6;have h7:(os[j].cells.drop 1).take 5=os[j].value.cells:=by
   obtain⟨a,v,b⟩:=os[j];obtain⟨k,n,s,is,ks⟩:=v;simp[Sf.Outp.cells,V.cells]
  rw[h7]at h6;exact h6
 have hset:setCells F (j*7+1) os[j].value.cells=F:=avp _ _ _ (by rw[V.cells_len];exact hrow);have cx:=bj1 _ (hv _ (Zp hlt));clear hrow0;obtain⟨x,hx⟩:=Ex (os[j].value);rw[hx]at cx hrow hset;obtain⟨k2,n2,w,vi,vy⟩:=x;simp only[V.A,V.cells]at cx hrow hset;simp only[setCells]at hset;refine aze (ai ht (ai hf (ai hln (ai hrow hset)))) (ai cx ti) ?_;exact⟨_,by omega,j+1,rfl,by omega,rfl,by(exact azo (ai ht hf))⟩
end AX
end
section
open Go.RowKit
namespace AX
section
variable {P:Program} {G:World→Prop}
theorem bv7{a:Nat}{ops:List AOper}(ha:a+1<ops.length)(i:Nat):(swapA a ops)[swN a i]?=(ops[i]?).map fun o=>⟨o.dst,o.op,o.guard,o.after.map (swN a)⟩:=by
 unfold swapA;rw[List.getElem?_map,ayo a ops i ha]
theorem cxz{ops:List AOper}{K:Ts→Hp→Prop}{ts:Ts}{h:Hp}(a:Nat)(ha:a+1<ops.length)(hk:adraw P G (swapA a ops) K ts h):adraw P G ops K ts h:=by
 obtain⟨I,h0,h1,h2⟩:=hk;refine⟨fun D ts h=>I (fun j=>D (swN a j)) ts h,h0,fun D i o ts h hI hi hD hcl haf=>?_,fun ts h hI=>h2 ts h ?_⟩
 ·have hs:(swapA a ops)[swN a i]?=some ⟨o.dst,o.op,o.guard,o.after.map (swN a)⟩:=by rw[bv7 ha,hi];rfl
  have:=h1 (fun j=>D (swN a j)) (swN a i) _ ts h hI hs (by rw[az8];exact hD) (fun j o' hj hDj k hk=>by
   have hj':=bv7 (ops:=ops) ha (swN a j);rw[az8,hj]at hj';obtain⟨o0,ho0,e⟩:=Zx.1 hj'.symm;rw[←e]at hk;obtain⟨k0,hk0,rfl⟩:=Z0.1 hk;show D (swN a (swN a k0))=true
   rw[az8]
   exact hcl _ o0 ho0 hDj k0 hk0) (fun j hj=>by
   obtain⟨k0,hk0,rfl⟩:=Z0.1 hj;show D (swN a (swN a k0))=true
   rw[az8]
   exact haf k0 hk0)
  have e:(fun j=>j==swN a i||D (swN a j))=fun j=>(fun j=>j==i||D j) (swN a j):=by
   funext j
   show(j==swN a i||D (swN a j))=(swN a j==i||D (swN a j))
   congr 1;by_cases h:j=swN a i
   ·rw[h,az8,YM,YM]
   ·have:swN a j≠i:=fun e=>h (by rw[←e,az8])
    rw[Zw.2 h,Zw.2 this]
  rw[e]at this;exact this
 ·have hl:(swapA a ops).length=ops.length:=by unfold swapA;rw[Zj,ax8]
  rw[hl];have e:(fun j=>decide (j<ops.length))=fun j=>decide (swN a j<ops.length):=by
   funext j
   exact decide_eq_decide.2 (dqw a j _ ha).symm
  rw[e];exact hI
theorem awa{ops:List AOper}{Q:AExit→Ts→Hp→Prop}{ts:Ts}{h:Hp}(a:Nat)(hb:(edgesB 0 ops&&decide (a+1<ops.length))=true)(hk:awp P G (.reg true (swapA a ops)) Q ts h):awp P G (.reg true ops) Q ts h:=by
 simp only[Zf,ZD]at hb;exact⟨hb.1,cxz a hb.2 hk.2⟩
end
theorem ACall.fresh{P:Program}{G:World→Prop}{f:FuncId}{args:List A}{Q:A→Hp→Prop}(hc:ACall P G f args ⟨[],[]⟩ Q)(hq:∀v h',Q v h'→v.loc h'.b.length=true∧∀b∈h'.b,b.loc h'.b.length∨b=.gone)(ha:args.all A.pure=true)(h:Hp):
  ACall P G f args h fun v h'=>∃v0 h0,Q v0 h0∧v=v0.ren (fun i=>h.b.length+i)∧h'=⟨h.b++h0.b.map (Blk.ren fun i=>h.b.length+i),h.t⟩:=by
 intro C cs hI hr;have hid:Inv G C.hid ⟨[],[]⟩:=by
  refine⟨rfl,fun i b hb=>by simp at hb,⟨fun i b hb=>by simp at hb,fun i j b b' hb=>by simp at hb⟩,fun g i hg=>by simp[Ctx.hid]at hg,fun g j hs=>?_,fun t E W m ht=>by simp[Ctx.hid]at ht,fun t t' ht=>by simp[Ctx.hid]at ht,fun t=>by simp[Ctx.hid],hI.base,hI.glob⟩;exact⟨(hI.prot g j hs).1,rfl,fun t E W m ht=>by simp[Ctx.hid]at ht⟩
 refine(hc C.hid cs hid (RepL.pures (C:=C) (C':=C.hid) ⟨fun g j hs=>⟨hs,rfl⟩⟩ args cs ha hr)).mono ?_;rintro e w' ⟨C1,h1,v,cv,rfl,rfl,I1,S1,r1,q1⟩;obtain⟨qv,qb⟩:=hq v h1 q1;rw[I1.nb]at qv qb;have hblk:∀g,g<C.w.heap.size→C1.w.heap[g]?=C.w.heap[g]?:=fun g hg=>S1.frame g hg rfl fun t ht=>by simp[Ctx.hid]at ht
 have hno:∀g,g<C.w.heap.size→C1.own g=none:=fun g hg=>S1.own g hg
 have hsz:C.w.heap.size≤C1.w.heap.size:=S1.size;have hprot:∀g j,C1.S g j→C.S g j∨C.w.heap.size≤g:=fun g j hs=>by
  rcases S1.prot g j hs with h2|h2|⟨t,h2,_⟩
  ·exact .inl h2
  ·exact .inr h2
  ·simp[Ctx.hid]at h2
 let C2:Ctx:={ C with w:=C1.w,S:=C1.S,κ:=fun i=>if i<C.nb then C.κ i else C1.κ (i-C.nb),nb:=C.nb+C1.nb,own:=fun g=>if g<C.w.heap.size then C.own g else(C1.own g).map (·+C.nb),kap:=fun i=>if i<C.nb then C.kap i else C1.kap (i-C.nb),lab:=fun i=>if i<C.nb then C.lab i else C1.lab (i-C.nb)+C.nb }
 have k2:∀i,C2.κ (C.nb+i)=C1.κ i∧C2.kap (C.nb+i)=C1.kap i∧C2.lab (C.nb+i)=C1.lab i+C.nb:=fun i=>by
  have h0:¬C.nb+i<C.nb:=by omega
  have h3:C.nb+i-C.nb=i:=by omega
  refine⟨?_,?_,?_⟩
  ·show(if C.nb+i<C.nb then _ else C1.κ (C.nb+i-C.nb))=_
   rw[if_neg h0,h3]
  ·show(if C.nb+i<C.nb then _ else C1.kap (C.nb+i-C.nb))=_
   rw[if_neg h0,h3]
  ·show(if C.nb+i<C.nb then _ else C1.lab (C.nb+i-C.nb)+C.nb)=_
   rw[if_neg h0,h3]
 have k1:∀i,i<C.nb→C2.κ i=C.κ i∧C2.kap i=C.kap i∧C2.lab i=C.lab i:=fun i hi=>⟨if_pos hi,if_pos hi,if_pos hi⟩
 have o1:∀g,g<C.w.heap.size→C2.own g=C.own g:=fun g hg=>if_pos hg
 have o2:∀g l,C2.own g=some (l+C.nb)↔C1.own g=some l:=fun g l=>by
  by_cases hg:g<C.w.heap.size
  ·rw[o1 g hg,hno g hg];exact⟨fun e=>by have:=(hI.ownlt g _ e).1;omega,fun e=>by cases e⟩
  ·show(if g<C.w.heap.size then C.own g else(C1.own g).map (·+C.nb))=_↔_
   rw[if_neg hg];cases C1.own g with
   |none=>simp
   |some l'=>simp
 have o3:∀g l,l<C.nb→(C2.own g=some l↔C.own g=some l):=fun g l hl=>by
  by_cases hg:g<C.w.heap.size
  ·rw[o1 g hg]
  ·show(if g<C.w.heap.size then C.own g else(C1.own g).map (·+C.nb))=_↔_
   rw[if_neg hg];constructor
   ·intro e;cases e2:C1.own g with
    |none=>rw[e2]at e;cases e
    |some l'=>rw[e2]at e;simp at e;omega
   ·intro e;exact absurd (hI.ownlt g l e).2.1 hg
 have hE:Ext C C2:=by
  refine⟨fun g j hs=>S1.ext.cells g j hs,Nat.le_add_right _ _,k1,fun t E W m ht=>?_⟩;obtain⟨h0,_,cap,h2,_⟩:=hI.rows t E W m ht;exact⟨m,ht,.inr ⟨rfl,rfl,fun cap hc=>hc.same (hblk _ h2.lt)⟩⟩
 have hlen:=hI.nb
 have rN:Ren C1 C2 (fun i=>h.b.length+i) C1.nb:=⟨fun g j hs=>⟨hs,rfl⟩,fun j hj=>by
  rw[hlen]
  exact⟨Nat.add_lt_add_left hj _,(k2 j).1,(k2 j).2.1⟩⟩
 have hsp:∀(i:Nat) (b:Blk),(h.b++h1.b.map (Blk.ren fun i=>h.b.length+i))[i]?=some b→(i<C.nb∧h.b[i]?=some b)∨∃j b1,i=C.nb+j∧j<C1.nb∧h1.b[j]?=some b1∧b=b1.ren fun i=>h.b.length+i:=fun i b hib=>by
  rw[YG]at hib;split at hib
  ·next hi=>exact .inl ⟨by rw[←hlen];exact hi,hib⟩
  ·next hi=>
   rw[List.getElem?_map,Zx]at hib;obtain⟨b1,hb1,rfl⟩:=hib;exact .inr ⟨i-h.b.length,b1,by omega,by rw[←I1.nb];exact(Ze.1 hb1).1,hb1,rfl⟩
 have hlive:∀(b1:Blk) (σ:Nat→Nat),(b1.ren σ).live=b1.live:=fun b1 σ=>by cases b1<;>rfl
 refine⟨C2,⟨h.b++h1.b.map (Blk.ren fun i=>h.b.length+i),h.t⟩,v.ren fun i=>h.b.length+i,cv,rfl,rfl,⟨?_,fun i b hib=>?_,⟨fun i b hib hl=>?_,fun i j b b' hib hjb hl hl' e=>?_⟩,fun g l hg=>?_,fun g j hs=>?_,fun t E W m ht=>?_,hI.inj,hI.toks,Zs hI.base hsz,fun w2 hw=>?_⟩,⟨hE,S1.os,S1.tape,S1.output,hsz,rfl,fun g hg _ _=>hblk g hg,o1,fun g j hs=>?_,fun t ht=> .inr ⟨ht,rfl⟩⟩,Rep.ren rN v cv qv r1,v,h1,q1,rfl,rfl⟩
 ·rw[Zb,Zj,hlen,I1.nb]
 ·rcases hsp i b hib with⟨hi,hb⟩|⟨j,b1,rfl,hj,hb1,rfl⟩
  ·exact(hI.box i b hb).ext hE hi (fun hl=>⟨hI.ok hb hl,fun g hg=>hblk g (hI.ownlt g _ hg).2.1,fun g=>o3 g _ (hI.lablt hb hl)⟩) hsz
  ·have hB:=I1.box j b1 hb1;rcases qb b1 (List.mem_of_getElem? hb1)with hl|rfl
   ·cases b1 with
    |cells T l=>
     obtain⟨cs,m1,m2⟩:=hB;exact⟨cs,by rw[(k2 j).1];exact m1,RepL.ren rN l cs hl m2⟩
    |opq R vis=>
     have e:(fun g=>C2.own g=some (C2.lab (C.nb+j)))=fun g=>C1.own g=some (C1.lab j):=by rw[(k2 j).2.2];exact funext fun g=>propext (o2 g _)
     refine⟨fun w' hw hs=>?_,fun o x hx=>?_⟩
     ·rw[e,(k2 j).1];exact hB.1 w' (fun g hg=>hw g (by rw[(k2 j).2.2];exact(o2 g _).2 hg)) hs
     ·obtain⟨u,m1,m2⟩:=hB.2 o x hx;exact⟨u,by rw[(k2 j).1];exact m1,Rep.same (C:=C1) (C':=C2) ⟨fun g j hs=>⟨hs,rfl⟩⟩ x u (hl o x hx) m2⟩
    |row T l=>
     obtain⟨cs,rest,m1,m2,m3⟩:=hB;exact⟨cs,rest,by rw[(k2 j).1];exact m1,RepL.ren rN l cs hl m2,by rw[(k2 j).2.1];exact m3⟩
    |map l c=>
     obtain⟨es,m1,m2,m3⟩:=hB;exact⟨es,by rw[(k2 j).1];exact m1,RepEs.ren rN hl m2,m3⟩
    |gone=>trivial
   ·trivial
 ·rcases hsp i b hib with⟨hi,hb⟩|⟨j,b1,rfl,hj,hb1,rfl⟩
  ·rw[(k1 i hi).1,(k1 i hi).2.2];exact(o3 _ _ (hI.lablt hb hl)).2 (hI.ok hb hl)
  ·rw[(k2 j).1,(k2 j).2.2];exact(o2 _ _).2 (I1.ok hb1 (by rw[←hlive b1];exact hl))
 ·rcases hsp i b hib with⟨hi,hb⟩|⟨m,b1,rfl,hm,hb1,rfl⟩
  ·rw[(k1 i hi).2.2]at e;have l1:=hI.lablt hb hl;rcases hsp j b' hjb with⟨hj,hb'⟩|⟨n,b2,rfl,hn,hb2,rfl⟩
   ·rw[(k1 j hj).2.2]at e;exact hI.ownk.2 i j b b' hb hb' hl hl' e
   ·rw[(k2 n).2.2]at e;omega
  ·rw[(k2 m).2.2]at e;rcases hsp j b' hjb with⟨hj,hb'⟩|⟨n,b2,rfl,hn,hb2,rfl⟩
   ·rw[(k1 j hj).2.2]at e;have l1:=hI.lablt hb' hl';omega
   ·rw[(k2 n).2.2]at e;rw[I1.ownk.2 m n b1 b2 hb1 hb2 (by rw[←hlive b1];exact hl) (by rw[←hlive b2];exact hl') (by omega)]
 ·by_cases hg':g<C.w.heap.size
  ·rw[o1 g hg']at hg;obtain⟨m1,m2,m3⟩:=hI.ownlt g l hg;exact⟨ZA m1 (Nat.le_add_right _ _),ZA m2 hsz,m3⟩
  ·have hg2:(if g<C.w.heap.size then C.own g else(C1.own g).map (·+C.nb))=some l:=hg;rw[if_neg hg']at hg2;cases e:C1.own g with
   |none=>rw[e]at hg2;cases hg2
   |some l'=>
    rw[e]at hg2;simp at hg2;obtain⟨m1,m2,m3⟩:=I1.ownlt g l' e;exact⟨by show l<C.nb+C1.nb;omega,m2,by rw[S1.base]at m3;exact m3⟩
 ·have hlt:=(I1.prot g j hs).1;have hn1:=(I1.prot g j hs).2.1;rcases hprot g j hs with h2|h2
  ·obtain⟨m1,m2,m3⟩:=hI.prot g j h2;exact⟨hlt,by rw[o1 g m1];exact m2,m3⟩
  ·refine⟨hlt,by show(if g<C.w.heap.size then C.own g else(C1.own g).map (·+C.nb))=none;rw[if_neg (by omega),hn1];rfl,fun t E W m ht e=>?_⟩;obtain⟨_,_,cap,m1,_⟩:=hI.rows t E W m ht;have:=m1.lt;have e':C.τ t=g:=e;omega
 ·obtain⟨m1,m2,cap,m3,m4⟩:=hI.rows t E W m ht;exact⟨(o1 _ m3.lt).trans m1,m2,cap,m3.same (hblk _ m3.lt),m4⟩
 ·exact hI.glob w2 fun g hg=>(hw g hg).trans (hblk g (ZA hg hI.base))
 ·rcases hprot g j hs with h2|h2
  ·exact .inl h2
  ·exact .inr (.inl h2)
end AX
end
section
open Go.RowKit
namespace AX
def Grw(lo W:Nat)(T:TypeId)(L:List Blk)(rows:List (List A))(v:A):Prop:=(rows=[]∧v=.sl 0 .nil [])∨∃k,v=.bs (lo+k) W rows.length∧L[k]?=some (.row T rows.flatten)
def LocL(L:List Blk):Prop:=∀b∈L,b.loc 0∨b=.gone
theorem avc{rows:List (List A)}{W:Nat}(hW:∀r∈rows,r.length=W):rows.flatten.length=rows.length*W:=by
 induction rows with
 |nil=>simp
 |cons r rows ih=>
  rw[ZI,Zb,Zi,Yv,ih fun r hr=>hW r (ZY _ hr),hW r Yb];omega
theorem cyh{x:A}(h:x.data=true):x.loc 0=true:=by
 cases x with
 |sl W o rows=>cases o<;>first|(unfold A.loc;rfl)|(simp[A.data]at h)
 |_=>first|(unfold A.loc;rfl)|(simp[A.data]at h)
theorem axh:∀{l:List A},l.all A.data=true→A.locL 0 l=true:=fun {l}=>by
 induction l with
 |nil=>intro _;unfold A.locL;rfl
 |cons x l ih=>
  intro h;rw[ZM,Zf]at h;unfold A.locL;rw[cyh h.1,ih h.2];rfl
theorem Grw.grow{lo W:Nat}{T:TypeId}{L:List Blk}{rows:List (List A)}{v:A}(hg:Grw lo W T L rows v)(hl:LocL L)(bytes:Nat)(x:List A)(hx:x.length=W)(hd:x.all A.data=true)(hW:∀r∈rows,r.length=W)(hrd:rows.flatten.all A.data=true)(hn:rows.length+1≤100000000)(hb:bytes≤1000):
  ∃(i n:Nat) (F:Blk→List Blk),(∀(p:List Blk) e,p.length=lo→appB ⟨p++(L++[e]),[]⟩ T W bytes v (.sl W .no [x])=some (.bs i W n,⟨p++F e,[]⟩))∧(∀e,Grw lo W T (F e) (rows++[x]) (.bs i W n))∧∀e:Blk,e.loc 0→LocL (F e):=by
 have hmul:(rows.length+1)*bytes≤140737488355328:=by
  have:=Nat.mul_le_mul hn hb;omega
 have hml:rows.length+1≤maxLen:=by unfold maxLen;omega
 have hrow:∀l:List A,l.all A.data=true→(Blk.row T l).loc 0:=fun l h=>axh h
 rcases hg with⟨rfl,rfl⟩|⟨k,rfl,hk⟩
 ·refine⟨lo+(L.length+1),1,fun e=>L++[e]++[.row T x],fun p e hp=>?_,fun e=> .inr ⟨L.length+1,rfl,?_⟩,fun e he y hy=>?_⟩
  ·simp only[appB,rowC,if_true,Zi,ZH,ZI,List.flatten_nil,ZN,Zb,hp];rw[if_pos (by omega),if_pos ⟨by unfold maxLen;omega,by simp only[ZH]at hmul;omega⟩,ZK]
  ·rw[List.getElem?_append_right (by simp)];simp
  ·rcases YE.1 hy with hy|hy
   ·rcases YE.1 hy with hy|hy
    ·exact hl y hy
    ·exact .inl (by rw[Yq.1 hy];exact he)
   ·exact .inl (by rw[Yq.1 hy];exact hrow _ hd)
 ·have hlt:k<L.length:=(Ze.1 hk).1;have hfl:=avc hW;refine⟨lo+(L.length+1),rows.length+1,fun e=>(L.set k .gone)++[e]++[.row T (rows++[x]).flatten],fun p e hp=>?_,fun e=> .inr ⟨L.length+1,by rw[Zb];rfl,?_⟩,fun e he y hy=>?_⟩
  ·have hget:(p++(L++[e]))[lo+k]?=some (.row T rows.flatten):=by
    rw[List.getElem?_append_right (by omega),hp,show lo+k-lo=k by omega,ZB hlt];exact hk
   have hset:(p++(L++[e])).set (lo+k) .gone=p++(L.set k .gone++[e]):=by
    rw[List.set_append_right _ _ (by omega),hp,show lo+k-lo=k by omega,List.set_append_left k Blk.gone hlt]
   simp only[appB,rowC,if_true,Zi,ZH,ZI,List.flatten_nil,ZN,Zb,hget,hset,hp];rw[if_pos (by omega),if_pos ⟨trivial,by simpa using hml,by simpa using hmul⟩,if_pos ⟨trivial,by omega⟩,Zy (by omega)];simp only[List.flatten_append,ZI,List.flatten_nil,ZN];rw[ZK]
  ·rw[List.getElem?_append_right (by simp)];simp
  ·rcases YE.1 hy with hy|hy
   ·rcases YE.1 hy with hy|hy
    ·rcases List.mem_or_eq_of_mem_set hy with hy|hy
     ·exact hl y hy
     ·exact .inr hy
    ·exact .inl (by rw[Yq.1 hy];exact he)
   ·have hfd:(rows++[x]).flatten.all A.data=true:=by
     rw[List.flatten_append,List.all_append,Zf];exact⟨hrd,by simpa using hd⟩
    exact .inl (by rw[Yq.1 hy];exact hrow _ hfd)
structure StFew(s:Sf.St):Prop where
 ins:s.insts.length≤2000000∧∀x∈s.insts,x.attrs.few∧x.deps.length≤1000000000
 ps:s.pends.length≤2000000
 os:s.outs.length≤2000000∧∀x∈s.outs,x.value.few
theorem Sf.Inst.cells_len(x:Sf.Inst):(Sf.Inst.cells x).length=13:=by
 obtain⟨b1,b2,b3,b4,⟨k,n,s,is,ks⟩,jv,jtn,jfi,jds⟩:=x;simp[Sf.Inst.cells]
theorem Sf.Inst.cells_data(x:Sf.Inst):(Sf.Inst.cells x).all A.data=true:=by
 obtain⟨b1,b2,b3,b4,⟨k,n,s,is,ks⟩,jv,jtn,jfi,jds⟩:=x;simp[Sf.Inst.cells,A.data]
theorem bqy(lo:Nat)(l:List Sf.Inst)(hn:l.length≤2000000):∃(V:Nat→A) (L:Nat→List Blk),V 0=.sl 0 .nil []∧L 0=[]∧(∀j,j≤l.length→Grw lo 13 42 (L j) ((l.take j).map Sf.Inst.cells) (V j)∧LocL (L j)) ∧
  ∀j (hj:j<l.length),(∃i n,V (j+1)=.bs i 13 n)∧∀p:List Blk,p.length=lo→appB ⟨p++(L j++[.cells 42 l[j].cells]),[]⟩ 42 13 184 (V j) (.sl 13 .no [l[j].cells])=some (V (j+1),⟨p++L (j+1),[]⟩):=by
 have step:∀j (hj:j<l.length) (s:A×List Blk),(Grw lo 13 42 s.2 ((l.take j).map Sf.Inst.cells) s.1∧LocL s.2)→∃s':A×List Blk,(Grw lo 13 42 s'.2 ((l.take (j+1)).map Sf.Inst.cells) s'.1∧LocL s'.2)∧(∃i n,s'.1=.bs i 13 n) ∧
   ∀p:List Blk,p.length=lo→appB ⟨p++(s.2++[.cells 42 l[j].cells]),[]⟩ 42 13 184 s.1 (.sl 13 .no [l[j].cells])=some (s'.1,⟨p++s'.2,[]⟩):=by
  intro j hj s ⟨hg,hL⟩;have em:(l.take j).map Sf.Inst.cells++[Sf.Inst.cells l[j]]=(l.take (j+1)).map Sf.Inst.cells:=by
   have e:l.take (j+1)=l.take j++[l[j]]:=(List.take_append_getElem hj).symm;rw[e,YF];rfl
  obtain⟨i,n,F,hX,gX,hL'⟩:=hg.grow hL 184 (Sf.Inst.cells l[j]) (Sf.Inst.cells_len _) (Sf.Inst.cells_data _) (fun r hr=>by obtain⟨y,_,rfl⟩:=Z0.1 hr;exact Sf.Inst.cells_len y) (rows_data _ Sf.Inst.cells_data _) (by rw[Zj,Zk];omega) (by decide);rw[em]at gX;exact⟨(.bs i 13 n,F (.cells 42 l[j].cells)),⟨gX _,hL' _ (axh (Sf.Inst.cells_data _))⟩,⟨i,n,rfl⟩,fun p hp=>hX p _ hp⟩
 have key:∀m,m≤l.length→∃S:Nat→A×List Blk,S 0=(.sl 0 .nil [],[])∧(∀j,j≤m→Grw lo 13 42 (S j).2 ((l.take j).map Sf.Inst.cells) (S j).1∧LocL (S j).2) ∧
   ∀j (hj:j<l.length),j<m→(∃i n,(S (j+1)).1=.bs i 13 n)∧∀p:List Blk,p.length=lo→appB ⟨p++((S j).2++[.cells 42 l[j].cells]),[]⟩ 42 13 184 (S j).1 (.sl 13 .no [l[j].cells])=some ((S (j+1)).1,⟨p++(S (j+1)).2,[]⟩):=by
  intro m;induction m with
  |zero=>exact fun _=>⟨fun _=>(.sl 0 .nil [],[]),rfl,fun j hj=>by
    obtain rfl:j=0:=by omega
    exact⟨.inl ⟨rfl,rfl⟩,fun b hb=>by cases hb⟩,fun j _ hj=>by omega⟩
  |succ m ih=>
   intro hm;obtain⟨S,h0,h1,h2⟩:=ih (by omega);obtain⟨s',k1,k2,k3⟩:=step m (by omega) (S m) (h1 m (Zh _));refine⟨fun j=>if j=m+1 then s' else S j,by simp only[if_neg (show¬0=m+1 by omega)];exact h0,fun j hj=>?_,fun j hj hjm=>?_⟩
   ·by_cases e:j=m+1
    ·subst e;simp only[if_true];exact k1
    ·simp only[if_neg e];exact h1 j (by omega)
   ·have e1:j≠m+1:=by omega
    simp only[if_neg e1];by_cases e:j=m
    ·subst e;simp only[if_true];exact⟨k2,k3⟩
    ·simp only[if_neg (show¬j+1=m+1 by omega)];exact h2 j hj (by omega)
 obtain⟨S,h0,h1,h2⟩:=key l.length (Zh _);exact⟨fun j=>(S j).1,fun j=>(S j).2,congrArg Prod.fst h0,congrArg Prod.snd h0,h1,fun j hj=>h2 j hj hj⟩
theorem bzu(st:Sf.St)(hf:StFew st)(o:Own)(pr:List (List A))(cp:∀h,AT 77 [.sl 3 .no (st.pends.map Sf.Pend.cells)] h (.sl 3 o pr)):∃(v:A) (L:List Blk),(Grw 3 13 42 L (st.insts.map Sf.Inst.cells) v∧LocL L∧(st.insts=[]→v=.sl 0 .nil []))∧AC 69 [st.A] ⟨[],[]⟩ fun r h'=>r=.agg [.str st.lin,.int .i64 st.ser,v,.sl 3 o pr,.sl 7 .no (st.outs.map Sf.Outp.cells)]∧h'=⟨.cells 26 [.str st.lin,.int .i64 st.ser,.sl 13 .no (st.insts.map Sf.Inst.cells),.sl 3 .no (st.pends.map Sf.Pend.cells),.sl 7 .no (st.outs.map Sf.Outp.cells)] :: .cells 26 [.str st.lin,.int .i64 st.ser,v,.sl 3 o pr,.sl 7 .no (st.outs.map Sf.Outp.cells)] :: .cells 26 [.str st.lin,.int .i64 st.ser,v,.sl 3 o pr,.sl 7 .no (st.outs.map Sf.Outp.cells)]::L,[]⟩:=by
 obtain⟨V,LL,hV0,hL0,hgr,hst⟩:=bqy 3 st.insts hf.ins.1;refine⟨V st.insts.length,LL st.insts.length,?_,?_⟩
 ·have:=hgr st.insts.length (Zh _);rw[Yy]at this;exact⟨this.1,this.2,fun e=>by rw[e];exact hV0⟩
 have co:=av6 st.outs hf.os.1 hf.os.2;obtain⟨hin,hio⟩:=hf.ins;clear hf;obtain⟨lin,ser,ins,ps,os⟩:=st;simp only[Sf.St.A];dsimp only at cp co hin hio hst hgr⊢;refine azb mixedT cz4 (by simp[avb]) ?_;dsimp only[avb];have li:(ins.map Sf.Inst.cells).length=ins.length:=Zj _;refine aze ti ti ?_;refine bqw [12] 11 [⟨[.cells 26 [.str lin,.int .i64 ser,.sl 13 .no (ins.map Sf.Inst.cells),.sl 3 .no (ps.map Sf.Pend.cells),.sl 7 .no (os.map Sf.Outp.cells)],.cells 26 [.str [],.int .i64 0,.sl 0 .nil [],.sl 0 .nil [],.sl 0 .nil []]],[]⟩,⟨[],[]⟩,⟨[.cells 26 [.str lin,.int .i64 ser,.sl 13 .no (ins.map Sf.Inst.cells),.sl 3 .no (ps.map Sf.Pend.cells),.sl 7 .no (os.map Sf.Outp.cells)],.cells 26 [.str [],.int .i64 0,.sl 0 .nil [],.sl 0 .nil [],.sl 0 .nil []],.cells 26 [.str [],.int .i64 0,.sl 0 .nil [],.sl 0 .nil [],.sl 0 .nil []]],[]⟩,⟨[.cells 26 [.str lin,.int .i64 ser,.sl 13 .no (ins.map Sf.Inst.cells),.sl 3 .no (ps.map Sf.Pend.cells),.sl 7 .no (os.map Sf.Outp.cells)],.cells 26 [.str [],.int .i64 0,.sl 0 .nil [],.sl 0 .nil [],.sl 0 .nil []],.cells 26 [.str lin,.int .i64 ser,.sl 0 .nil [],.sl 3 o pr,.sl 7 .no (os.map Sf.Outp.cells)]],[]⟩] [[0,2],[0,2],[0,2],[0,2],[0,2],[0,2],[0,2],[0,2],[0,2],[0,2],[0,2],[0],[2]] rfl (by decide +kernel) ?_;refine AX.rung ti ?_;refine axm (vs:=[.sl 3 .no (ps.map Sf.Pend.cells)]) (by(exact ev0 ti)) ⟨cp _,cp _,trivial⟩ ?_;refine AX.rung ti ?_;refine axm (vs:=[.sl 7 .no (os.map Sf.Outp.cells)]) (by(exact ev0 ti)) ⟨co _,co _,trivial⟩ ?_;refine AX.rung ti ?_;refine aze li ti ?_
 refine azd (fun m ts hh=>∃(j:Nat),m=ins.length-j∧j≤ins.length∧hh=⟨.cells 26 [.str lin,.int .i64 ser,.sl 13 .no (ins.map Sf.Inst.cells),.sl 3 .no (ps.map Sf.Pend.cells),.sl 7 .no (os.map Sf.Outp.cells)] :: .cells 26 [.str [],.int .i64 0,.sl 0 .nil [],.sl 0 .nil [],.sl 0 .nil []] :: .cells 26 [.str lin,.int .i64 ser,V j,.sl 3 o pr,.sl 7 .no (os.map Sf.Outp.cells)]::LL j,[]⟩ ∧
  (ts 1=.ptr 0 0∧ts 2=.ptr 1 0∧ts 3=.ptr 2 0∧ts 18=.sl 13 .no (ins.map Sf.Inst.cells)∧ts 19=.int .i64 (ins.length:Nat)∧ts 20=.int .i64 (j:Nat))) ins.length ?_ ?_
 ·exact⟨0,rfl,Zq _,by rw[hV0,hL0],by(exact azo li)⟩
 rintro m ts hh ⟨j,rfl,hj,rfl,ht⟩;rcases Zr j ins.length with hlt|hge
 ·have hf:=azp Sf.Inst.cells ins j hlt (by omega);have hx:=hio _ (Zp hlt);have cx:=axa _ hx.1 hx.2;obtain⟨⟨i',n',hv'⟩,hX0⟩:=hst j hlt;have hX:=fun a b c=>hX0 [a,b,c] rfl
  clear hX0;simp only[Zd,Zg]at hX;rw[hv']at hX;have hvv:V (j+1)=.bs i' 13 n':=hv';clear hx hgr hst;obtain⟨x,hx⟩:=Ex (ins[j]);rw[hx]at hf cx hX;obtain⟨b1,b2,b3,b4,⟨jk2,jn,js,jis,jks⟩,jv,jtn,jfi,jds⟩:=x;simp only[Sf.Inst.cells]at hf cx hX;refine aze (ai ht (ai hf hX)) (ai cx ti) ?_;exact⟨_,by omega,j+1,rfl,by omega,by rw[hvv],by(exact azo (ai ht hf))⟩
 have hf:=azq Sf.Inst.cells ins j hge;obtain rfl:j=ins.length:=by omega
 have hone:∃v,V ins.length=v∧(v=.sl 0 .nil []∨∃i n,v=.bs i 13 n):=by
  refine⟨_,rfl,?_⟩;rcases(hgr ins.length (Zh _)).1 with⟨_,h1⟩|⟨k,h1,_⟩
  ·exact .inl h1
  ·exact .inr ⟨_,_,h1⟩
 obtain⟨v,hv,h1|⟨i,n,h1⟩⟩:=hone
 ·rw[h1]at hv;rw[hv];refine aze (ai ht hf) ti ?_;exact⟨_,le_refl _,rfl,rfl⟩
 ·rw[h1]at hv;rw[hv];refine aze (ai ht hf) ti ?_;exact⟨_,le_refl _,rfl,rfl⟩
end AX
namespace Sf
structure Cut(l:List Inst)(a d:List UInt8)(p:Nat):Prop where
 le:p≤l.length
 lt:∀i (h:i<l.length),i<p→AX.aq8 l[i].addr l[i].dep a d<0
 ge:∀i (h:i<l.length),p≤i→0≤AX.aq8 l[i].addr l[i].dep a d
def hasB(l:List Inst)(a d:List UInt8)(p:Nat):Bool:=match l[p]? with
 |some x=>AX.aq8 x.addr x.dep a d==0
 |none=>false
end Sf
namespace AX
def bzw:AX.AFn:=⟨11,aS [aR 3 (.box 42 (.t 0)),aR 4 (.box 70 (.t 1)),aR 5 (.mv (aI 0))] (.seq (.reg true [aL 6 2,aR 7 (.load true 13 (.t 3)),⟨some 8,.call 27 [.t 7],none,[1]⟩,aR 9 (.load true 2 (.t 4)),⟨some 10,.callv (.t 6) [.t 8,.t 9],none,[0,2,3,2]⟩,⟨some 5,.mv (.t 10),none,[4,4,0,1,2,3,4]⟩]) (.ret)),[.t 5]⟩
theorem cjd:AX.compFn Tryz.prog 153=some bzw:=by kernel_rfl
def bkz:AX.AFn:=⟨49,aS [aR 4 (.box 70 (.t 1)),aR 6 (.mv (aI 0)),aR 7 (.mv (.c (.bool false)))] (aS [aM 12 0,aR 13 (.len false (.t 12)),aM 8 13] (aS [aM 14 8,aR 9 (.mv (aI 0)),aM 10 14] (.seq (.block 0 (.loop (.seq (aS [aM 15 9,aM 16 10,aR 17 (.bin .lss (.t 15) (.t 16))] (.cond (.t 17) (.skip) (.exit 0))) (.block 1 (aS [aM 18 9,aM 19 10,aR 20 (.bin .add (.t 18) (.t 19)),aR 21 (.conv .u64 (.t 20)),aR 22 (.bin .shr (.t 21) (.c (.int .u64 1))),aR 23 (.conv .i64 (.t 22)),aM 11 23] (.seq (.reg true [aM 24 2,aM 25 0,aM 26 11,⟨some 27,.iaddr 13 (.t 25) (.t 26),none,[1,2]⟩,⟨some 28,.load true 13 (.t 27),none,[3]⟩,aR 29 (.load true 2 (.t 4)),⟨some 30,.callv (.t 24) [.t 28,.t 29],none,[0,4,5]⟩,⟨some 31,.bin .lss (.t 30) (aI 0),none,[6]⟩]) (.cond (.t 31) (.reg false [aM 32 11,aR 33 (.bin .add (.t 32) (aI 1)),aM 9 33]) (.reg false [aM 34 11,aM 10 34])))))))) (.seq (.reg true [aM 35 9,aM 36 9,aM 37 8,⟨some 38,.bin .lss (.t 36) (.t 37),none,[1,2]⟩,⟨some 39,.mv (.t 38),none,[3]⟩,⟨some 40,.mv (.t 2),some (39,true),[4]⟩,⟨some 41,.mv (.t 0),some (39,true),[4]⟩,⟨some 42,.mv (.t 9),some (39,true),[4]⟩,⟨some 43,.iaddr 13 (.t 41) (.t 42),some (39,true),[6,7,4]⟩,⟨some 44,.load true 13 (.t 43),some (39,true),[8,4]⟩,⟨some 45,.load true 2 (.t 4),some (39,true),[4]⟩,⟨some 46,.callv (.t 40) [.t 44,.t 45],some (39,true),[5,9,10,4,4]⟩,⟨some 47,.bin .eql (.t 46) (aI 0),some (39,true),[11,4]⟩,⟨some 48,.pick (.t 39) (.t 47) (.c (.bool false)),none,[4,12]⟩,⟨some 6,.mv (.t 35),none,[0,11,0]⟩,⟨some 7,.mv (.t 48),none,[13,14,0,1,2,3,4,5,6,7,8,9,10,11,12,13,14]⟩]) (.ret))))),[.t 6,.t 7]⟩
theorem dq0:AX.compFn Tryz.prog 152=some bkz:=by kernel_rfl
def axt:AX.AFn:=⟨13,aS [aR 3 (.box 70 (.t 1)),aR 4 (.mv (aI 0)),aR 5 (.mv (.c (.bool false)))] (aS [aR 6 (.alloc 177 [.nilf]),aU (.store 1 (.t 6) (.c (.fn 28 [])))] (aS [aM 7 0,aR 8 (.load true 2 (.t 3)),aR 9 (.mkfn 153 [.t 6]),aR 10 (.call 152 [.t 7,.t 8,.t 9]),aE 11 10 0,aE 12 10 1,aM 4 11,aM 5 12] (.ret))),[.t 4,.t 5]⟩
theorem bku:AX.compFn Tryz.prog 118=some axt:=by kernel_rfl
theorem ACall.lift2z{P:Program}{G:World→Prop}{f:FuncId}{x y v0:A}{b:Blk}(hc:ACall P G f [x,y,.ptr 0 0] ⟨[b],[]⟩ fun v h'=>v=v0∧h'.b[0]?=some b)(hx:x.loc 0=true)(hy:y.loc 0=true)(hv:v0.loc 0=true)(hb:b.loc 0){h:Hp}{i:Nat}(hh:h.b[i]?=some b):
  ACall P G f [x,y,.ptr i 0] h fun v h'=>v=v0∧h'=h:=by
 have key:=ACall.lift hc (fun _=>i) (fun a c ha hc _=>by simp at ha hc;omega) (by unfold A.locL A.locL A.locL A.locL;rw[(A.loc0 _ x hx).1,(A.loc0 _ y hy).1];rfl) (fun z hz=>by simp at hz;subst hz;exact(Blk.loc0 _ _ hb).1)
  (fun v h' ⟨h1,h2⟩=>⟨by rw[h1];exact(A.loc0 _ v0 hv).1,fun j z hj hz=>by
   have:j=0:=by simpa using hj
   subst this;rw[h2]at hz;injection hz with hz;subst hz
   exact(Blk.loc0 _ _ hb).1⟩) (h:=h) (fun j hj=>by
   have:j=0:=by simpa using hj
   subst this
   rw[hh];show some b=some (b.ren _);rw[(Blk.loc0 0 _ hb).2])
 have e:A.renL (fun _=>i) [x,y,.ptr 0 0]=[x,y,.ptr i 0]:=by
  unfold A.renL A.renL A.renL A.renL;rw[(A.loc0 0 x hx).2,(A.loc0 0 y hy).2];rfl
 rw[e]at key;refine key.mono ?_;rintro v h' ⟨w0,h0,⟨rfl,h2⟩,rfl,rfl⟩;refine⟨(A.loc0 0 _ hv).2 _,?_⟩;have:h0.b.take [b].length=[b]:=by
  obtain⟨_|⟨z,l⟩,t0⟩:=h0
  ·simp at h2
  ·simp at h2;subst h2;simp
 rw[this];show(⟨setAll _ h.b 0 [b],h.t⟩:Hp)=h
 unfold setAll setAll;rw[(Blk.loc0 0 _ hb).2];have hs:h.b.set i b=h.b:=by
  apply List.ext_getElem?;intro j;by_cases hj:i=j
  ·subst hj;rw[YB (Ze.1 hh).1,hh]
  ·rw[Zaf hj]
 rw[hs]
def cmpBox:Blk:=.cells 177 [.fn 28 []]
theorem bvs(LF:Leafs)(x:Sf.Inst)(a d:List UInt8){h:Hp}{k:Nat}(hk:h.b[k]?=some cmpBox):AT 153 [.agg x.cells,.agg [.str a,.str d],.ptr k 0] h (.int .i64 (aq8 x.addr x.dep a d)):=by
 have cp:=axs x;have cc:=bj5 LF x.addr x.dep a d;have hld:=axh (Sf.Inst.cells_data x);refine ACall.lift2z (b:=cmpBox) ?_ (by unfold A.loc;exact hld) (by unfold A.loc A.locL A.locL A.locL;rfl) (by unfold A.loc;rfl) (by show A.locL 0 _=true;unfold A.locL A.loc A.locL;rfl) hk;obtain⟨c,hc⟩:=Ex (aq8 x.addr x.dep a d);rw[hc]at cc⊢;clear hk hld hc;obtain⟨b1,b2,b3,b4,⟨jk2,jn,js,jis,jks⟩,jv,jtn,jfi,jds⟩:=x;simp only[Sf.Inst.cells]at cp cc⊢;refine azb mixedT cjd (by simp[bzw]) ?_;dsimp only[bzw,cmpBox];refine aze ti (ai cp (ai cc ti)) ?_;exact⟨_,le_refl _,rfl,rfl⟩
theorem bzh{i j n:Nat}(hij:i<j)(hjn:j≤n)(hn:n≤1000000):
  IntKind.i64.wrap ((i:Int)+(j:Int))=((i+j:Nat):Int)∧IntKind.u64.wrap ((i+j:Nat):Int)=((i+j:Nat):Int)∧shA .shr .u64 ((i+j:Nat):Int) 1=some (.int .u64 (((i+j)/2:Nat):Int))∧IntKind.i64.wrap (((i+j)/2:Nat):Int)=(((i+j)/2:Nat):Int)∧IntKind.i64.wrap ((((i+j)/2:Nat):Int)+1)=(((i+j)/2+1:Nat):Int):=by
 refine⟨by rw[wrap64 (by omega) (by omega)];omega,by rw[IntKind.wrap_u64];omega,?_,by rw[wrap64 (by omega) (by omega)],by rw[wrap64 (by omega) (by omega)];omega⟩;simp only[shA];rw[if_pos (by decide)];congr 2;rw[show min (Int.toNat 1) IntKind.u64.bits=1 from rfl,show((2:Int)^1)=((2:Nat):Int)from rfl,Int.fdiv_eq_ediv_of_nonneg _ (YX _)];rfl
def plBox(a d:List UInt8):Blk:=.cells 70 [.str a,.str d]
theorem dkw(LF:Leafs)(l:List Sf.Inst)(a d:List UInt8)(p:Nat)(hc:Sf.Cut l a d p)(hn:l.length≤1000000):
  AC 152 [.sl 13 .no (l.map Sf.Inst.cells),.agg [.str a,.str d],.fn 153 [.ptr 1 0]] ⟨[plBox a d,cmpBox],[]⟩ fun v h'=>v=.tup [.int .i64 (p:Nat),.bool (Sf.hasB l a d p)]∧h'=⟨[plBox a d,cmpBox,plBox a d],[]⟩:=by
 have cs:∀x:Sf.Inst,AT 153 [.agg x.cells,.agg [.str a,.str d],.ptr 1 0] ⟨[plBox a d,cmpBox,plBox a d],[]⟩ (.int .i64 (aq8 x.addr x.dep a d)):=fun x=>bvs LF x a d rfl
 clear LF;have ll:(l.map Sf.Inst.cells).length=l.length:=Zj _;obtain⟨FB,hFB⟩:=Ex cmpBox;rw[hFB]at cs⊢;refine azb mixedT dq0 (by simp[bkz]) ?_;dsimp only[bkz,plBox]at cs⊢;refine aze ll ti ?_
 refine azd (fun m ts hh=>∃i j:Nat,m=j-i∧i≤p∧p≤j∧j≤l.length∧hh=⟨[.cells 70 [.str a,.str d],FB,.cells 70 [.str a,.str d]],[]⟩ ∧
  (ts 0=.sl 13 .no (l.map Sf.Inst.cells)∧ts 2=.fn 153 [.ptr 1 0]∧ts 4=.ptr 2 0∧ts 8=.int .i64 (l.length:Nat)∧ts 9=.int .i64 (i:Nat)∧ts 10=.int .i64 (j:Nat))) l.length ?_ ?_
 ·exact⟨0,l.length,rfl,Zq _,hc.le,Zh _,rfl,by(exact azo ll)⟩
 rintro m ts hh ⟨i,j,rfl,hip,hpj,hjl,rfl,ht⟩;rcases Zr i j with hlt|hge
 ·have hf:(i:Int)<(j:Int):=by omega
  obtain⟨e1,e2,e3,e4,e5⟩:=bzh hlt hjl hn;obtain⟨k,hk⟩:=Ex ((i+j)/2);have hk1:i≤k∧k<j:=by omega
  have hkl:k<l.length:=by omega
  rw[hk]at e3 e4 e5;have hg:=azp Sf.Inst.cells l k hkl (by omega);have cx:=cs l[k];have hL:=hc.lt k hkl;have hG:=hc.ge k hkl;obtain⟨x,hx⟩:=Ex (l[k]);rw[hx]at hg cx hL hG;obtain⟨c,hcc⟩:=Ex (aq8 x.addr x.dep a d);rw[hcc]at cx hL hG;clear hcc hx;obtain⟨b1,b2,b3,b4,⟨jk2,jn,js,jis,jks⟩,jv,jtn,jfi,jds⟩:=x;simp only[Sf.Inst.cells]at hg cx;by_cases hneg:c<0
  ·refine aze (ai ht (ai hf (ai e1 (ai e2 (ai e3 (ai e4 (ai e5 (ai hg hneg)))))))) (ai cx ti) ?_;exact⟨_,by omega,k+1,j,rfl,by rcases Zr k p with h|h;exact h;have:=hG h;omega,hpj,hjl,rfl,by(exact azo (ai ht e5))⟩
  ·refine aze (ai ht (ai hf (ai e1 (ai e2 (ai e3 (ai e4 (ai e5 (ai hg hneg)))))))) (ai cx ti) ?_;exact⟨_,by omega,i,k,rfl,hip,by rcases Zr k p with h|h;exact absurd (hL h) hneg;exact h,by omega,rfl,by(exact azo ht)⟩
 ·have hf:¬(i:Int)<(j:Int):=by omega
  obtain rfl:i=p:=by omega
  rcases Zr i l.length with hlt|hge2
  ·have hf2:(i:Int)<(l.length:Int):=by omega
   have hg:=azp Sf.Inst.cells l i hlt (by omega);have cx:=cs l[i];have hB:Sf.hasB l a d i=(aq8 l[i].addr l[i].dep a d==0):=by unfold Sf.hasB;rw[Zm hlt]
   rw[hB];obtain⟨x,hx⟩:=Ex (l[i]);rw[hx]at hg cx⊢;obtain⟨c,hcc⟩:=Ex (aq8 x.addr x.dep a d);rw[hcc]at cx⊢;clear hcc hx;obtain⟨b1,b2,b3,b4,⟨jk2,jn,js,jis,jks⟩,jv,jtn,jfi,jds⟩:=x;simp only[Sf.Inst.cells]at hg cx;refine aze (ai ht (ai hf (ai hf2 hg))) (ai cx ti) ?_;exact⟨_,le_refl _,rfl,rfl⟩
  ·have hf2:¬(i:Int)<(l.length:Int):=by omega
   have hB:Sf.hasB l a d i=false:=by unfold Sf.hasB;rw[ZO hge2]
   rw[hB];refine aze (ai ht (ai hf hf2)) ti ?_;exact⟨_,le_refl _,rfl,rfl⟩
theorem ACall.lift1b{P:Program}{G:World→Prop}{f:FuncId}{W n:Nat}{y v0:A}{b:Blk}(hc:ACall P G f [.bs 0 W n,y] ⟨[b],[]⟩ fun v h'=>v=v0∧h'.b[0]?=some b)(hy:y.loc 0=true)(hv:v0.loc 0=true)(hb:b.loc 0){h:Hp}{i:Nat}(hh:h.b[i]?=some b):
  ACall P G f [.bs i W n,y] h fun v h'=>v=v0∧h'=h:=by
 have key:=ACall.lift hc (fun _=>i) (fun a c ha hc _=>by simp at ha hc;omega) (by unfold A.locL A.locL A.locL;rw[(A.loc0 _ y hy).1];rfl) (fun z hz=>by simp at hz;subst hz;exact(Blk.loc0 _ _ hb).1)
  (fun v h' ⟨h1,h2⟩=>⟨by rw[h1];exact(A.loc0 _ v0 hv).1,fun j z hj hz=>by
   have:j=0:=by simpa using hj
   subst this;rw[h2]at hz;injection hz with hz;subst hz
   exact(Blk.loc0 _ _ hb).1⟩) (h:=h) (fun j hj=>by
   have:j=0:=by simpa using hj
   subst this
   rw[hh];show some b=some (b.ren _);rw[(Blk.loc0 0 _ hb).2])
 have e:A.renL (fun _=>i) [.bs 0 W n,y]=[.bs i W n,y]:=by
  unfold A.renL A.renL A.renL;rw[(A.loc0 0 y hy).2];rfl
 rw[e]at key;refine key.mono ?_;rintro v h' ⟨w0,h0,⟨rfl,h2⟩,rfl,rfl⟩;refine⟨(A.loc0 0 _ hv).2 _,?_⟩;have:h0.b.take [b].length=[b]:=by
  obtain⟨_|⟨z,l⟩,t0⟩:=h0
  ·simp at h2
  ·simp at h2;subst h2;simp
 rw[this];show(⟨setAll _ h.b 0 [b],h.t⟩:Hp)=h
 unfold setAll setAll;rw[(Blk.loc0 0 _ hb).2];have hs:h.b.set i b=h.b:=by
  apply List.ext_getElem?;intro j;by_cases hj:i=j
  ·subst hj;rw[YB (Ze.1 hh).1,hh]
  ·rw[Zaf hj]
 rw[hs]
def rowI(l:List Sf.Inst):Blk:=.row 42 (l.map Sf.Inst.cells).flatten
theorem dqk(l:List Sf.Inst):(rowI l).loc 0:=axh (rows_data _ Sf.Inst.cells_data l)
theorem dx0(l:List Sf.Inst)(k:Nat)(hk:k<l.length):k*13+13≤(l.map Sf.Inst.cells).flatten.length∧(((l.map Sf.Inst.cells).flatten).drop (k*13)).take 13=l[k].cells:=
 ⟨by rw[flat_len Sf.Inst.cells 13 Sf.Inst.cells_len];omega,avh Sf.Inst.cells 13 Sf.Inst.cells_len l k hk⟩
theorem dke(LF:Leafs)(l:List Sf.Inst)(a d:List UInt8)(p:Nat)(hc:Sf.Cut l a d p)(hn:l.length≤1000000):
  AC 152 [.bs 0 13 l.length,.agg [.str a,.str d],.fn 153 [.ptr 2 0]] ⟨[rowI l,plBox a d,cmpBox],[]⟩ fun v h'=>v=.tup [.int .i64 (p:Nat),.bool (Sf.hasB l a d p)]∧h'=⟨[rowI l,plBox a d,cmpBox,plBox a d],[]⟩:=by
 have cs:∀x:Sf.Inst,AT 153 [.agg x.cells,.agg [.str a,.str d],.ptr 2 0] ⟨[rowI l,plBox a d,cmpBox,plBox a d],[]⟩ (.int .i64 (aq8 x.addr x.dep a d)):=fun x=>bvs LF x a d rfl
 clear LF;obtain⟨FB,hFB⟩:=Ex cmpBox;have hrow:=dx0 l;unfold rowI at cs⊢;obtain⟨F,hF⟩:=Ex ((l.map Sf.Inst.cells).flatten);rw[hF]at hrow;rw[hFB,hF]at cs⊢;refine azb mixedT dq0 (by simp[bkz]) ?_;dsimp only[bkz,plBox]at cs⊢;refine aze ti ti ?_
 refine azd (fun m ts hh=>∃i j:Nat,m=j-i∧i≤p∧p≤j∧j≤l.length∧hh=⟨[.row 42 F,.cells 70 [.str a,.str d],FB,.cells 70 [.str a,.str d]],[]⟩ ∧
  (ts 0=.bs 0 13 l.length∧ts 2=.fn 153 [.ptr 2 0]∧ts 4=.ptr 3 0∧ts 8=.int .i64 (l.length:Nat)∧ts 9=.int .i64 (i:Nat)∧ts 10=.int .i64 (j:Nat))) l.length ?_ ?_
 ·exact⟨0,l.length,rfl,Zq _,hc.le,Zh _,rfl,by(exact azo ti)⟩
 rintro m ts hh ⟨i,j,rfl,hip,hpj,hjl,rfl,ht⟩;rcases Zr i j with hlt|hge
 ·have hf:(i:Int)<(j:Int):=by omega
  obtain⟨e1,e2,e3,e4,e5⟩:=bzh hlt hjl hn;obtain⟨k,hk⟩:=Ex ((i+j)/2);have hk1:i≤k∧k<j:=by omega
  have hkl:k<l.length:=by omega
  rw[hk]at e3 e4 e5;have hki:(k:Int)<(l.length:Int):=by omega
  have hg:=hrow k hkl;have cx:=cs l[k];have hL:=hc.lt k hkl;have hG:=hc.ge k hkl;obtain⟨x,hx⟩:=Ex (l[k]);rw[hx]at hg cx hL hG;obtain⟨c,hcc⟩:=Ex (aq8 x.addr x.dep a d);rw[hcc]at cx hL hG;clear hcc hx;obtain⟨b1,b2,b3,b4,⟨jk2,jn,js,jis,jks⟩,jv,jtn,jfi,jds⟩:=x;simp only[Sf.Inst.cells]at hg cx;by_cases hneg:c<0
  ·refine aze (ai ht (ai hf (ai e1 (ai e2 (ai e3 (ai e4 (ai e5 (ai hg (ai hki hneg))))))))) (ai cx ti) ?_;exact⟨_,by omega,k+1,j,rfl,by rcases Zr k p with h|h;exact h;have:=hG h;omega,hpj,hjl,rfl,by(exact azo (ai ht e5))⟩
  ·refine aze (ai ht (ai hf (ai e1 (ai e2 (ai e3 (ai e4 (ai e5 (ai hg (ai hki hneg))))))))) (ai cx ti) ?_;exact⟨_,by omega,i,k,rfl,hip,by rcases Zr k p with h|h;exact absurd (hL h) hneg;exact h,by omega,rfl,by(exact azo ht)⟩
 ·have hf:¬(i:Int)<(j:Int):=by omega
  obtain rfl:i=p:=by omega
  rcases Zr i l.length with hlt|hge2
  ·have hf2:(i:Int)<(l.length:Int):=by omega
   have hg:=hrow i hlt;have cx:=cs l[i];have hB:Sf.hasB l a d i=(aq8 l[i].addr l[i].dep a d==0):=by unfold Sf.hasB;rw[Zm hlt]
   rw[hB];obtain⟨x,hx⟩:=Ex (l[i]);rw[hx]at hg cx⊢;obtain⟨c,hcc⟩:=Ex (aq8 x.addr x.dep a d);rw[hcc]at cx⊢;clear hcc hx;obtain⟨b1,b2,b3,b4,⟨jk2,jn,js,jis,jks⟩,jv,jtn,jfi,jds⟩:=x;simp only[Sf.Inst.cells]at hg cx;refine aze (ai ht (ai hf (ai hf2 hg))) (ai cx ti) ?_;exact⟨_,le_refl _,rfl,rfl⟩
  ·have hf2:¬(i:Int)<(l.length:Int):=by omega
   have hB:Sf.hasB l a d i=false:=by unfold Sf.hasB;rw[ZO hge2]
   rw[hB];refine aze (ai ht (ai hf hf2)) ti ?_;exact⟨_,le_refl _,rfl,rfl⟩
theorem ayd(LF:Leafs)(l:List Sf.Inst)(a d:List UInt8)(p:Nat)(hc:Sf.Cut l a d p)(hn:l.length≤1000000)(h:Hp):AT 118 [.sl 13 .no (l.map Sf.Inst.cells),.agg [.str a,.str d]] h (.tup [.int .i64 (p:Nat),.bool (Sf.hasB l a d p)]):=by
 have cb:=dkw LF l a d p hc hn;clear LF;refine pcall ?_ rfl (by simp[A.pure,A.data]) h;refine azb mixedT bku (by simp[axt]) ?_;dsimp only[axt,plBox,cmpBox]at cb⊢;refine aze ti (ai cb ti) ?_;exact Fn rfl
theorem bq3(LF:Leafs)(l:List Sf.Inst)(a d:List UInt8)(p:Nat)(hc:Sf.Cut l a d p)(hn:l.length≤1000000){h:Hp}{i:Nat}(hi:h.b[i]?=some (rowI l)):AT 118 [.bs i 13 l.length,.agg [.str a,.str d]] h (.tup [.int .i64 (p:Nat),.bool (Sf.hasB l a d p)]):=by
 have cb:=dke LF l a d p hc hn;clear LF;refine ACall.lift1b (b:=rowI l) ?_ (by unfold A.loc A.locL A.locL A.locL;rfl) (by unfold A.loc A.locL A.locL A.locL;rfl) (dqk l) hi;obtain⟨R,hR⟩:=Ex (rowI l);rw[hR]at cb⊢;refine azb mixedT bku (by simp[axt]) ?_;dsimp only[axt,plBox,cmpBox]at cb⊢;refine aze ti (ai cb ti) ?_;exact⟨_,le_refl _,rfl,rfl⟩
end AX
end
end Go.Proofs.YtnghhnahdjjpkaaGreatDoor
