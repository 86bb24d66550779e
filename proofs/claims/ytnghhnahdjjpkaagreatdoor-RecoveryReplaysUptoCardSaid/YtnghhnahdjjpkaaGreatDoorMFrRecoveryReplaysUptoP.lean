/- Part of what the proof needs. -/
import Derived.Test.YtnghhnahdjjpkaaGreatDoorMFrRecoveryReplaysUpto0
import Derived.Test.YtnghhnahdjjpkaaGreatDoorMFrRecoveryReplaysUptoM
import Derived.Test.YtnghhnahdjjpkaaGreatDoorMFrRecoveryReplaysUptoN
import Derived.Test.YtnghhnahdjjpkaaGreatDoorMFrRecoveryReplaysUptoO
import Derived.Lib.AppendZeros
set_option maxHeartbeats 4000000
set_option maxRecDepth 100000
set_option linter.all false
namespace Go.Proofs.YtnghhnahdjjpkaaGreatDoor
section
open Go.RowKit
namespace AX
section
variable {P:Program} {G:World→Prop} {C:Ctx} {h:Hp}
inductive FzV(h:Hp):A→A→Prop
 |one {x y:A} (e:Fz1 h x y):FzV h x y
 |agg {xs ys:List A} (e:FzL h xs ys):FzV h (.agg xs) (.agg ys)
theorem pcallv{f:FuncId}{args:List A}{y:A}(hc:ACall P G f args ⟨[],[]⟩ fun v h'=>FzV h' v y)(ha:args.all A.pure=true)(h:Hp):ACall P G f args h fun v h'=>v=y∧h'=h:=by
 intro C cs hI hr;have hid:Inv G C.hid ⟨[],[]⟩:=by
  refine⟨rfl,fun i b hb=>by simp at hb,⟨fun i b hb=>by simp at hb,fun i j b b' hb=>by simp at hb⟩,fun g i hg=>by simp[Ctx.hid]at hg,fun g j hs=>?_,fun t E W m ht=>by simp[Ctx.hid]at ht,fun t t' ht=>by simp[Ctx.hid]at ht,fun t=>by simp[Ctx.hid],hI.base,hI.glob⟩;exact⟨(hI.prot g j hs).1,rfl,fun t E W m ht=>by simp[Ctx.hid]at ht⟩
 refine(hc C.hid cs hid (RepL.pures (C:=C) (C':=C.hid) ⟨fun g j hs=>⟨hs,rfl⟩⟩ args cs ha hr)).mono ?_;rintro e w' ⟨C1,h1,v,cv,rfl,rfl,I1,S1,r1,hf⟩;have hblk:∀g,g<C.w.heap.size→C1.w.heap[g]?=C.w.heap[g]?:=fun g hg=>S1.frame g hg rfl fun t ht=>by simp[Ctx.hid]at ht
 have hnew:∀g i,C1.own g=some i→C.w.heap.size≤g:=fun g i hg=>by
  rcases Zr g C.w.heap.size with hlt|hge
  ·have:=S1.own g hlt;rw[hg]at this;simp[Ctx.hid]at this
  ·exact hge
 let C2:Ctx:={ C with w:=C1.w,S:=fun g j=>C1.S g j∨((C1.own g).isSome=true),own:=fun g=>if g<C.w.heap.size then C.own g else none }
 have hsz:C.w.heap.size≤C1.w.heap.size:=S1.size;have he:Ext C C2:=by
  refine⟨fun g j hs=>?_,Zh _,fun _ _=>⟨rfl,rfl,rfl⟩,fun t E W m ht=>?_⟩
  ·obtain⟨k1,k2⟩:=S1.ext.cells g j hs;exact⟨.inl k1,k2⟩
  ·obtain⟨_,_,cap,h2,_⟩:=hI.rows t E W m ht;exact⟨m,ht,.inr ⟨rfl,rfl,fun cap hc=>hc.same (hblk _ h2.lt)⟩⟩
 have hown:∀g i,C2.own g=some i↔C.own g=some i:=fun g i=>by
  show(if g<C.w.heap.size then C.own g else none)=some i↔_
  split
  ·exact Iff.rfl
  ·next hg=>exact⟨fun e=>(by cases e),fun e=>absurd (hI.ownlt g i e).2.1 hg⟩
 have hprot:∀g j,C2.S g j→C.S g j∨C.w.heap.size≤g:=fun g j hs=>by
  rcases hs with hs|hs
  ·rcases S1.prot g j hs with h2|h2|⟨t,h2,_⟩
   ·exact .inl h2
   ·exact .inr h2
   ·simp[Ctx.hid]at h2
  ·obtain⟨i,hi⟩:=Option.isSome_iff_exists.1 hs;exact .inr (hnew g i hi)
 have hSlt:∀g j,C2.S g j→g<C1.w.heap.size:=fun g j hs=>by
  rcases hs with hs|hs
  ·exact(I1.prot g j hs).1
  ·obtain⟨i,hi⟩:=Option.isSome_iff_exists.1 hs;exact(I1.ownlt g i hi).2.1
 have hsame:Same C1 C2:=⟨fun g j hs=>⟨.inl hs,rfl⟩⟩;have frz:∀(xs ys:List A) (vs:List Value),FzL h1 xs ys→RepL C1 xs vs→RepL C2 ys vs:=by
  intro xs;induction xs with
  |nil=>
   intro ys vs hf hr;cases ys with
   |nil=>exact hr
   |cons y ys=>exact hf.elim
  |cons x xs ih=>
   intro ys vs hf hr;cases ys with
   |nil=>exact hf.elim
   |cons y ys=>
    obtain⟨c,cs',rfl,k1,k2⟩:=repL_cons.1 hr;refine repL_cons.2 ⟨c,cs',rfl,?_,ih ys cs' hf.2 k2⟩;rcases hf.1 with⟨rfl,hd⟩|⟨i,W,T,rows,rfl,hb,rfl,hW,hd⟩
    ·exact Rep.same hsame _ _ hd k1
    ·obtain⟨cap,rfl,hcap,hi,_⟩:=rep_bs.1 k1;obtain⟨ds,rest,q1,q2,_⟩:=I1.box i _ hb;have hsd:(C1.own (C1.κ i)).isSome=true:=by rw[I1.ok hb rfl];rfl
     have hdd:∀(l:List A) (ds:List Value),l.all A.data=true→RepL C1 l ds→RepL C2 l ds:=fun l ds hd hr=>RepL.same hsame l ds hd hr
     refine rep_sl.2 ⟨_,cap,rfl,hcap,az2 rows ds 0 hW hd (hdd _ _ hd q2) (fun j _=> .inr hsd) (fun j u hu=>?_),trivial⟩;have q1':C2.w.heap[C1.κ i]?=some (.cells (ds++rest).toArray T (0,0)):=q1;rw[cell_of_row _ _ _ _ _ _ q1'];have hj:j<ds.length:=(Ze.1 hu).1;simp only[List.getElem?_toArray];rw[show 0+0*W+j=j by omega,ZB hj];exact hu
 refine⟨C2,h,y,cv,rfl,rfl,⟨hI.nb,fun i b hib=>?_,⟨fun i b hb hl=>(hown _ _).2 (hI.ok hb hl),hI.ownk.2⟩,fun g i hg=>?_,fun g j hs=>?_,fun t E W m ht=>?_,hI.inj,hI.toks,Zs hI.base hsz,fun w2 hw=>?_⟩,⟨he,S1.os,S1.tape,S1.output,hsz,rfl,fun g hg _ _=>hblk g hg,fun g hg=>?_,fun g j hs=>?_,fun t ht=> .inr ⟨ht,rfl⟩⟩,?_,rfl,rfl⟩
 ·have hi:i<C.nb:=by rw[←hI.nb];exact(Ze.1 hib).1
  exact(hI.box i b hib).ext he hi (fun hl=>⟨hI.ok hib hl,fun g hg=>hblk g (hI.ownlt g _ hg).2.1,fun g=>hown g _⟩) hsz
 ·obtain⟨k1,k2,k3⟩:=hI.ownlt g i ((hown g i).1 hg);exact⟨k1,ZA k2 hsz,k3⟩
 ·have hlt:=hSlt g j hs;rcases hprot g j hs with h2|h2
  ·obtain⟨k1,k2,k3⟩:=hI.prot g j h2;exact⟨hlt,by show(if g<C.w.heap.size then C.own g else none)=none;rw[if_pos k1,k2],k3⟩
  ·refine⟨hlt,by show(if g<C.w.heap.size then C.own g else none)=none;rw[if_neg (by omega)],fun t E W m ht e=>?_⟩;obtain⟨_,_,cap,k1,_⟩:=hI.rows t E W m ht;have:=k1.lt;have e':C.τ t=g:=e;omega
 ·obtain⟨k1,k2,cap,k3,k4⟩:=hI.rows t E W m ht;exact⟨by show(if C.τ t<C.w.heap.size then C.own (C.τ t)else none)=none;rw[if_pos k3.lt,k1],k2,cap,k3.same (hblk _ k3.lt),k4⟩
 ·exact hI.glob w2 fun g hg=>(hw g hg).trans (hblk g (ZA hg hI.base))
 ·show(if g<C.w.heap.size then C.own g else none)=C.own g
  rw[if_pos hg]
 ·rcases hprot g j hs with h2|h2
  ·exact .inl h2
  ·exact .inr (.inl h2)
 ·cases hf with
  |one hf=>
   have:=frz [v] [y] [cv] ⟨hf,trivial⟩ (repL_cons.2 ⟨_,_,rfl,r1,repL_nil.2 rfl⟩);obtain⟨c,cs,e,k,_⟩:=repL_cons.1 this;injection e with e;subst e;exact k
  |agg hf=>
   obtain⟨vs,rfl,hl⟩:=rep_agg.1 r1;exact rep_agg.2 ⟨vs,rfl,frz _ _ vs hf hl⟩
end
end AX
theorem cx2(b off n c:Nat)(news:List Value)(w:World)(hl:news.length=n*1)(hn:0<n)(hbig:n*16≤140737488355328)(hmax:n≤maxLen)(hc:∀j v,news[j]?=some v→w.cell? ((⟨b,off,none⟩:Addr).add j)=some v)(h1:∀u∈news,u.oneCell'=true):
  Calls Tryz.prog 120 #[.slice (some ⟨b,off,none⟩) n c] w fun e w'=>∃v',e=.returned v'∧w'.ownsRow w.heap.size 9 1 v' n news∧Below w.heap.size w w':=by
 obtain⟨i0,hi,hz0,hz1,hz2⟩:=info_parts (show(Tryz.prog.info? 9).map (fun i=>(i.zero,i.size,i.bytes))=some (some (.string ⟨#[]⟩),1,16) by kernel_rfl);have q22:∀(w:World) (a:Option Addr) (n c n' c':Nat),(binOp .eql 38 (.slice a n c) (.slice none n' c')).run Tryz.prog w=.ok (.bool a.isNone) w:=fun w a n c n' c'=>Lib.run_eql_slice_nil w _ _ a n c n' c' Tryz.underlying38
 have u22:∀w,Sem.run Tryz.prog (underlying 38) w=.ok (TypeDesc.slice 9) w:=run_underlying Tryz.underlying38;have HC:=kept hc;have H1:=kept h1;clear hc h1;go_enter Tryz.func120,Tryz.ntmps120;go_wp2_with (at_builtin;refine wpList_append_own _ rfl _ _ 38 rfl w.heap.size 9 i0 (.string ⟨#[]⟩) 1 16 Tryz.underlying38 hi hz0 hz1 hz2 rfl (by decide) _ _ _ rfl (World.ownsRow_made w #[] 0 (Zh _) (Zq _) rfl) ⟨b,off,none⟩ n c news rfl ?qc1 ?qc2 ?qc3 ?qc4 ?qc5 ?qc6 ?_)
 case qc1=>exact hl
 case qc2=>
  intro j u hj;have:=HC.out j u hj;rw[Addr.add_lit]at this⊢;exact Lib.cell?_alloc_some _ this
 case qc3=>exact H1.out
 case qc4=>omega
 case qc5=>omega
 case qc6=>simp
 intro v' w1 hown hgrow hnil;have Hb:=kept (((Below.refl _ w).alloc (Zh _) (.cells #[] 9)).grown hgrow (by simp) (by intro k hk;simp[Value.ownBlock]at hk;omega));have Ho:=kept (show w1.ownsRow w.heap.size 9 1 v' n news by simpa using hown);clear hown hgrow hnil HC H1;go_wp2
 go_ret
 exact⟨v',rfl,Ho.out,Hb.out⟩
theorem byf(a:Option Addr)(c:Nat)(w:World):
  Calls Tryz.prog 120 #[.slice a 0 c] w fun e w'=>(∃a' c',e=.returned (.slice a' 0 c'))∧Below w.heap.size w w':=by
 have q22:∀(w:World) (a:Option Addr) (n c n' c':Nat),(binOp .eql 38 (.slice a n c) (.slice none n' c')).run Tryz.prog w=.ok (.bool a.isNone) w:=fun w a n c n' c'=>Lib.run_eql_slice_nil w _ _ a n c n' c' Tryz.underlying38
 have u22:∀w,Sem.run Tryz.prog (underlying 38) w=.ok (TypeDesc.slice 9) w:=run_underlying Tryz.underlying38;cases a with
 |none=>
  go_enter Tryz.func120,Tryz.ntmps120;go_wp2
  go_ret
  exact⟨⟨_,_,rfl⟩,Below.refl _ _⟩
 |some ad=>
  obtain⟨i0,hi,hz0,hz1,hz2⟩:=info_parts (show(Tryz.prog.info? 9).map (fun i=>(i.zero,i.size,i.bytes))=some (some (.string ⟨#[]⟩),1,16) by kernel_rfl);go_enter Tryz.func120,Tryz.ntmps120;go_wp2_with (at_builtin;refine wpList_append_own _ rfl _ _ 38 rfl w.heap.size 9 i0 (.string ⟨#[]⟩) 1 16 Tryz.underlying38 hi hz0 hz1 hz2 rfl (by decide) _ _ _ rfl (World.ownsRow_made w #[] 0 (Zh _) (Zq _) rfl) ad 0 c [] rfl rfl (by intro j u hj;simp at hj) (by intro u hu;cases hu) (by unfold maxLen;omega) (by omega) (by simp) ?_);intro v' w1 hown hgrow hnil;have Hb:=kept (((Below.refl _ w).alloc (Zh _) (.cells #[] 9)).grown hgrow (by simp) (by intro k hk;simp[Value.ownBlock]at hk;omega));have Hv:∃a' c',v'=.slice a' 0 c':=by
   rcases hown.2 with⟨rfl,_⟩|⟨g,cap,cur,rfl,_⟩
   ·exact⟨_,_,rfl⟩
   ·exact⟨_,_,rfl⟩
  obtain⟨a',c',rfl⟩:=Hv;clear hown hgrow hnil;go_wp2
  go_ret
  exact⟨⟨_,_,rfl⟩,Hb.out⟩
namespace AX
theorem bxt(W0:Nat)(o:Own)(h:Hp):AT 120 [.sl W0 o []] h (.sl 1 .no []):=by
 intro C es hI ha;obtain⟨c,es',rfl,h1,h2⟩:=repL_cons.1 ha;rw[repL_nil]at h2;subst h2;obtain⟨a,cap,rfl,_,_,_⟩:=rep_sl.1 h1;refine(byf a cap C.w).mono ?_;rintro e w' ⟨⟨a',c',rfl⟩,hb⟩;obtain⟨i1,s1⟩:=az3 hI hb;exact⟨C.at w',h,.sl 1 .no [],_,rfl,rfl,i1,s1,rep_sl.2 ⟨a',c',rfl,Zq _,by unfold RepRows;trivial,trivial⟩,rfl,rfl⟩
theorem bkm(o:Own)(rows:List (List A))(h0:rows≠[])(hbig:rows.length*16≤140737488355328)(hmax:rows.length≤maxLen)(h:Hp):
  AC 120 [.sl 1 o rows] h fun v h'=>v=.bs h.b.length 1 rows.length∧h'=⟨h.b++[.row 9 rows.flatten],h.t⟩:=by
 intro C es hI ha;obtain⟨c,es',rfl,h1,h2⟩:=repL_cons.1 ha;rw[repL_nil]at h2;subst h2;have hpos:0<rows.length:=Z9.2 h0;obtain⟨g,off,cap,cs,rfl,k1,k2,k3,k4,k5⟩:=axz h1 hpos;refine(cx2 g off rows.length cap cs C.w k2 hpos hbig hmax k5 (azy k1 (az5 k3))).mono ?_;rintro e w' ⟨v',rfl,hown,hb⟩;rcases hown.2 with⟨_,hz⟩|⟨g',cap',cur,rfl,hg,hh,hcap,hcm,hcs,htake⟩
 ·omega
 ·have hcur:cur=(cs++cur.toList.drop (rows.length*1)).toArray:=by
   apply ZR.1;rw[←htake];simp
  rw[hcur]at hh;obtain⟨C',m1,m2,m3,m4,m5,m6⟩:=aq7 hI hb hg hh k1;exact⟨C',_,.bs h.b.length 1 rows.length,_,rfl,m1,m2,m3,rep_bs.2 ⟨cap',by rw[m4],hcap,m5,hcm,by rw[m6,←hcs];exact Nat.le_of_eq (congrArg Array.size hcur)⟩,rfl,rfl⟩
end AX
theorem cxh(b off n c:Nat)(news:List Value)(w:World)(hl:news.length=n*3)(hn:0<n)(hbig:n*48≤140737488355328)(hmax:n≤maxLen)(hc:∀j v,news[j]?=some v→w.cell? ((⟨b,off,none⟩:Addr).add j)=some v)(h1:∀u∈news,u.oneCell'=true):
  Calls Tryz.prog 77 #[.slice (some ⟨b,off,none⟩) n c] w fun e w'=>∃v',e=.returned v'∧w'.ownsRow w.heap.size 48 3 v' n news∧Below w.heap.size w w':=by
 obtain⟨i0,hi,hz0,hz1,hz2⟩:=info_parts (show(Tryz.prog.info? 48).map (fun i=>(i.zero,i.size,i.bytes))=some (some (.agg #[.string ⟨#[]⟩,.string ⟨#[]⟩,.string ⟨#[]⟩]),3,48) by kernel_rfl);have q22:∀(w:World) (a:Option Addr) (n c n' c':Nat),(binOp .eql 23 (.slice a n c) (.slice none n' c')).run Tryz.prog w=.ok (.bool a.isNone) w:=fun w a n c n' c'=>Lib.run_eql_slice_nil w _ _ a n c n' c' Tryz.underlying23
 have u22:∀w,Sem.run Tryz.prog (underlying 23) w=.ok (TypeDesc.slice 48) w:=run_underlying Tryz.underlying23;have HC:=kept hc;have H1:=kept h1;clear hc h1;go_enter Tryz.func77,Tryz.ntmps77;go_wp2_with (at_builtin;refine wpList_append_own _ rfl _ _ 23 rfl w.heap.size 48 i0 (.agg #[.string ⟨#[]⟩,.string ⟨#[]⟩,.string ⟨#[]⟩]) 3 48 Tryz.underlying23 hi hz0 hz1 hz2 rfl (by decide) _ _ _ rfl (World.ownsRow_made w #[] 0 (Zh _) (Zq _) rfl) ⟨b,off,none⟩ n c news rfl ?qc1 ?qc2 ?qc3 ?qc4 ?qc5 ?qc6 ?_)
 case qc1=>exact hl
 case qc2=>
  intro j u hj;have:=HC.out j u hj;rw[Addr.add_lit]at this⊢;exact Lib.cell?_alloc_some _ this
 case qc3=>exact H1.out
 case qc4=>omega
 case qc5=>omega
 case qc6=>simp
 intro v' w1 hown hgrow hnil;have Hb:=kept (((Below.refl _ w).alloc (Zh _) (.cells #[] 48)).grown hgrow (by simp) (by intro k hk;simp[Value.ownBlock]at hk;omega));have Ho:=kept (show w1.ownsRow w.heap.size 48 3 v' n news by simpa using hown);clear hown hgrow hnil HC H1;go_wp2
 go_ret
 exact⟨v',rfl,Ho.out,Hb.out⟩
theorem awi(a:Option Addr)(c:Nat)(w:World):
  Calls Tryz.prog 77 #[.slice a 0 c] w fun e w'=>(∃a',e=.returned (.slice a' 0 0))∧Below w.heap.size w w':=by
 have q22:∀(w:World) (a:Option Addr) (n c n' c':Nat),(binOp .eql 23 (.slice a n c) (.slice none n' c')).run Tryz.prog w=.ok (.bool a.isNone) w:=fun w a n c n' c'=>Lib.run_eql_slice_nil w _ _ a n c n' c' Tryz.underlying23
 have u22:∀w,Sem.run Tryz.prog (underlying 23) w=.ok (TypeDesc.slice 48) w:=run_underlying Tryz.underlying23;cases a with
 |none=>
  go_enter Tryz.func77,Tryz.ntmps77;go_wp2
  go_ret
  exact⟨⟨_,rfl⟩,Below.refl _ _⟩
 |some ad=>
  obtain⟨i0,hi,hz0,hz1,hz2⟩:=info_parts (show(Tryz.prog.info? 48).map (fun i=>(i.zero,i.size,i.bytes))=some (some (.agg #[.string ⟨#[]⟩,.string ⟨#[]⟩,.string ⟨#[]⟩]),3,48) by kernel_rfl);have hrun:∀(W:World) (ty:TypeId) (b:Nat),(Builtin.append_ #[23,23] ty #[.slice (some ⟨b,0,none⟩) 0 0,.slice (some ad) 0 c]).run Tryz.prog W=.ok (.slice (some ⟨b,0,none⟩) 0 0) W:=fun W ty b=>
   run_append_nothing W _ _ ty 48 i0 Tryz.underlying23 hi _ 0 0 (Zh _) _ (Src.ofSlice W Tryz.underlying23 ad 0 c [] (by simp) (fun j u hu=>by simp at hu) (fun u hu=>by cases hu))
  have hB:Below w.heap.size w (w.alloc (.cells #[] 48)):=(Below.refl _ w).alloc (Zh _) (.cells #[] 48);go_enter Tryz.func77,Tryz.ntmps77;go_wp2_with (at_builtin;refine Lib.wpList_append_run _ rfl _ _ _ _ rfl _ _ rfl rfl _ _ (hrun _ _ _) ?_)
  go_ret
  exact⟨⟨_,rfl⟩,hB⟩
namespace AX
theorem bjo(W0:Nat)(o:Own)(h:Hp):AT 77 [.sl W0 o []] h (.sl 3 .emp []):=by
 intro C es hI ha;obtain⟨c,es',rfl,h1,h2⟩:=repL_cons.1 ha;rw[repL_nil]at h2;subst h2;obtain⟨a,cap,rfl,_,_,_⟩:=rep_sl.1 h1;refine(awi a cap C.w).mono ?_;rintro e w' ⟨⟨a',rfl⟩,hb⟩;obtain⟨i1,s1⟩:=az3 hI hb;exact⟨C.at w',h,.sl 3 .emp [],_,rfl,rfl,i1,s1,rep_sl.2 ⟨a',0,rfl,Zq _,by unfold RepRows;trivial,rfl,rfl⟩,rfl,rfl⟩
theorem avm(W0:Nat)(o:Own)(h:Hp):AT 77 [.sl W0 o []] h (.sl 3 .no []):=by
 intro C es hI ha;obtain⟨c,es',rfl,h1,h2⟩:=repL_cons.1 ha;rw[repL_nil]at h2;subst h2;obtain⟨a,cap,rfl,_,_,_⟩:=rep_sl.1 h1;refine(awi a cap C.w).mono ?_;rintro e w' ⟨⟨a',rfl⟩,hb⟩;obtain⟨i1,s1⟩:=az3 hI hb;exact⟨C.at w',h,.sl 3 .no [],_,rfl,rfl,i1,s1,rep_sl.2 ⟨a',0,rfl,Zq _,by unfold RepRows;trivial,trivial⟩,rfl,rfl⟩
theorem akg(o:Own)(rows:List (List A))(h0:rows≠[])(hbig:rows.length*48≤140737488355328)(hmax:rows.length≤maxLen)(h:Hp):
  AC 77 [.sl 3 o rows] h fun v h'=>v=.bs h.b.length 3 rows.length∧h'=⟨h.b++[.row 48 rows.flatten],h.t⟩:=by
 intro C es hI ha;obtain⟨c,es',rfl,h1,h2⟩:=repL_cons.1 ha;rw[repL_nil]at h2;subst h2;have hpos:0<rows.length:=Z9.2 h0;obtain⟨g,off,cap,cs,rfl,k1,k2,k3,k4,k5⟩:=axz h1 hpos;refine(cxh g off rows.length cap cs C.w k2 hpos hbig hmax k5 (azy k1 (az5 k3))).mono ?_;rintro e w' ⟨v',rfl,hown,hb⟩;rcases hown.2 with⟨_,hz⟩|⟨g',cap',cur,rfl,hg,hh,hcap,hcm,hcs,htake⟩
 ·omega
 ·have hcur:cur=(cs++cur.toList.drop (rows.length*3)).toArray:=by
   apply ZR.1;rw[←htake];simp
  rw[hcur]at hh;obtain⟨C',m1,m2,m3,m4,m5,m6⟩:=aq7 hI hb hg hh k1;exact⟨C',_,.bs h.b.length 3 rows.length,_,rfl,m1,m2,m3,rep_bs.2 ⟨cap',by rw[m4],hcap,m5,hcm,by rw[m6,←hcs];exact Nat.le_of_eq (congrArg Array.size hcur)⟩,rfl,rfl⟩
end AX
namespace AX
theorem awc(ks:List (List UInt8))(hn:ks.length≤1000000000)(h:Hp):AT 120 [.sl 1 .no (strsA ks)] h (.sl 1 .no (strsA ks)):=by
 cases ks with
 |nil=>exact bxt _ _ h
 |cons k l=>
  have hl:(strsA (k::l)).length=(k::l).length:=azh _;refine pcallv (ACall.mono (bkm .no (strsA (k::l)) (by simp[strsA]) (by rw[hl];omega) (by rw[hl];unfold maxLen;omega) ⟨[],[]⟩) ?_) (by simp[A.pure,A.data]) h;rintro v h' ⟨rfl,rfl⟩;refine .one (.inr ⟨0,1,_,strsA (k::l),rfl,rfl,rfl,fun r hr=>?_,?_⟩)
  ·obtain⟨s,_,rfl⟩:=Z0.1 hr;rfl
  ·rw[ZF];intro x hx;obtain⟨r,hr,hx⟩:=List.mem_flatten.1 hx;obtain⟨s,_,rfl⟩:=Z0.1 hr;rw[Yq.1 hx];rfl
theorem cz9(ps:List Sf.Pend)(hn:ps.length≤1000000000)(h:Hp):AT 77 [.sl 3 .no (ps.map Sf.Pend.cells)] h (.sl 3 .no (ps.map Sf.Pend.cells)):=by
 cases ps with
 |nil=>exact avm _ _ h
 |cons k l=>
  have hl:((k::l).map Sf.Pend.cells).length=(k::l).length:=Zj _;refine pcallv (ACall.mono (akg .no ((k::l).map Sf.Pend.cells) (by simp) (by rw[hl];omega) (by rw[hl];unfold maxLen;omega) ⟨[],[]⟩) ?_) (by simp[A.pure,A.data]) h;rintro v h' ⟨rfl,rfl⟩;refine .one (.inr ⟨0,3,_,(k::l).map Sf.Pend.cells,rfl,rfl,rfl,fun r hr=>?_,?_⟩)
  ·obtain⟨s,_,rfl⟩:=Z0.1 hr;rfl
  ·rw[ZF];intro x hx;obtain⟨r,hr,hx⟩:=List.mem_flatten.1 hx;obtain⟨s,_,rfl⟩:=Z0.1 hr;simp only[Sf.Pend.cells,ZJ,List.not_mem_nil,or_false]at hx;rcases hx with rfl|rfl|rfl<;>rfl
end AX
end
section
open Go.RowKit
structure Jr where
 kind:Int
 base:Sf.St
 step:Int
 op:Int
 addr:List UInt8
 dep:List UInt8
 typ:List UInt8
 tok:List UInt8
 err:Int
 after:Sf.Inst
namespace Jr
def shortB(l:List (List UInt8)):Bool:=l.all fun s=>decide ((s.length:Int)≤4096)
def zeroV:V→Bool
 |.mk k n s is ks=>k==0&&n==0&&s == []&&(is.length:Int)==0&&(ks.length:Int)==0
def noneB(x:Sf.Inst):Bool:=zeroV x.attrs&&x.addr == []&&x.dep == []&&x.id == []&&x.typ == []&&x.ver==0&&!x.tainted&&!x.first&&(x.deps.length:Int)==0
def emptyB(s:Sf.St):Bool:=s.lin == []&&s.ser==0&&(s.insts.length:Int)==0&&(s.pends.length:Int)==0&&(s.outs.length:Int)==0
def instB(x:Sf.Inst):Bool:=shortB [x.addr,x.dep,x.id,x.typ]&&shortB x.deps&&decide ((x.deps.length:Int)≤512)&&Val.checkZ x.attrs==0&&decide (x.ver≥0)&&decide (x.ver≤9007199254740992)
def stepB(r:Jr):Bool:=decide (r.step≥0)&&decide (r.step<2048)&&decide (r.op≥1)&&decide (r.op≤4)&&shortB [r.addr,r.dep,r.typ]
def bareB(r:Jr):Bool:=r.step==0&&r.op==0&&r.addr == []&&r.dep == []&&r.typ == []
def makesB(op:Int):Bool:=op==1||op==2
def afterB(r:Jr):Bool:=noneB r.after||makesB r.op&&instB r.after
def badB(r:Jr):Bool:=r.kind !=1&&!emptyB r.base||r.kind !=2&&r.tok != []||r.kind !=4&&r.err !=0
def validB(r:Jr):Bool:=
 if badB r=true then false
 else if r.kind=1∨r.kind=5 then bareB r&&noneB r.after
 else if r.kind=2 then stepB r&&noneB r.after&&shortB [r.tok]&&(r.op==1||r.tok == [])
 else if r.kind=3 then stepB r&&afterB r
 else if r.kind=4 then stepB r&&afterB r&&decide (r.err≥1)&&decide (r.err≤42)
 else false
def cells(r:Jr):List AX.A:=
 [.int .i64 r.kind,.str r.base.lin,.int .i64 r.base.ser,.sl 13 .no (r.base.insts.map Sf.Inst.cells),.sl 3 .no (r.base.pends.map Sf.Pend.cells),.sl 7 .no (r.base.outs.map Sf.Outp.cells),.int .i64 r.step,.int .i64 r.op,.str r.addr,.str r.dep,.str r.typ,.str r.tok,.int .i64 r.err]++Sf.Inst.cells r.after
end Jr
namespace AX
theorem azp{α:Type}(f:α→List A)(l:List α)(i:Nat)(h:i<l.length)(hl:l.length≤4611686018427387904):
  (l.map f).length=l.length∧(i:Int)<(l.length:Int)∧(0:Int)≤(i:Int)∧(l.map f).getD i []=f l[i]∧IntKind.i64.wrap ((i:Int)+1)=((i+1:Nat):Int):=
 ⟨Zj _,by omega,by omega,by simp[List.getD,h],by rw[wrap64 (by omega) (by omega)];omega⟩
theorem azq{α:Type}(f:α→List A)(l:List α)(i:Nat)(h:l.length≤i):(l.map f).length=l.length∧¬(i:Int)<(l.length:Int):=⟨Zj _,by omega⟩
end AX
def gfind{α:Type}(n:Int):List (Int×α)→Option α
 |[]=>none
 |(k,x)::l=>if n=k then some x else gfind n l
def gput{α:Type}(n:Int)(x:α):List (Int×α)→List (Int×α)
 |[]=>[(n,x)]
 |(k,y)::l=>if n=k then(n,x)::l else(k,y)::gput n x l
def gmap{α:Type}(f:α→AX.A)(l:List (Int×α)):List (Int×AX.A):=l.map fun e=>(e.1,f e.2)
section
variable {α:Type} (f:α→AX.A) (n:Int)
theorem aqr:∀l:List (Int×α),AX.mfind n (gmap f l)=(gfind n l).map f
 |[]=>rfl
 |(k,x)::l=>by
  show AX.mfind n ((k,f x)::gmap f l)=_
  unfold AX.mfind gfind;split
  ·rfl
  ·exact aqr l
theorem avj(x:α):∀l:List (Int×α),AX.mput n (f x) (gmap f l)=gmap f (gput n x l)
 |[]=>rfl
 |(k,y)::l=>by
  show AX.mput n (f x) ((k,f y)::gmap f l)=_
  unfold AX.mput gput;split
  ·rfl
  ·rw[avj x l];rfl
theorem ay9(l:List (Int×α)):(gmap f l).length=l.length:=Zj _
theorem aja(l:List (Int×α))(c:Nat):AX.mclock n (gmap f l) c=if(gfind n l).isSome=true then c else c+1:=by
 unfold AX.mclock;rw[aqr];cases gfind n l<;>rfl
end
structure Fo where
 n:Int
 ended:Bool
 ints:List (Int×Jr)
 ress:List (Int×Bool)
 c1:Nat
 c2:Nat
namespace Fo
def next(f:Fo)(r:Jr):Bool×Fo:=
 let f1:Fo:={ f with n:=IntKind.i64.wrap (f.n+1) }
 if(f.ended||!((f.n==0)==(r.kind==1)))=true then(false,f1)
 else if r.kind=2 then(!(gfind r.step f.ints).isSome,{ f1 with ints:=gput r.step r f.ints,c1:=if(gfind r.step f.ints).isSome=true then f.c1 else f.c1+1 })
 else if r.kind=3∨r.kind=4 then
  ((match gfind r.step f.ints with
   |some i=>!((gfind r.step f.ress).getD false)&&i.op==r.op&&i.addr==r.addr&&i.typ==r.typ
   |none=>false),{ f1 with ress:=gput r.step true f.ress,c2:=if(gfind r.step f.ress).isSome=true then f.c2 else f.c2+1 })
 else if r.kind=5 then((f.ints.length:Int)==(f.ress.length:Int),{ f1 with ended:=true })
 else(true,f1)
def check:Fo→List Jr→Int
 |_,[]=>0
 |f,r::l=>if(!r.validB||(r.kind==1&&Sf.checkZ r.base !=0))=true then 1 else if(f.next r).1=true then check (f.next r).2 l else 38
end Fo
namespace Jr
def endedB(n:Int)(l:List Jr):Bool:=l.any fun r=>(r.kind==3||r.kind==4)&&r.step==n
def unfin(l:List Jr):List Jr:=l.filter fun r=>r.kind==2&&!endedB r.step l
def ends(l:List Jr):List (Int×Bool):=l.foldl (fun m r=>if(r.kind==3||r.kind==4)=true then gput r.step true m else m) []
end Jr
end
section
open Go.RowKit
namespace AX
def bxl:AX.AFn:=⟨19,aS [aR 4 (.mv (aI 0))] (.seq (aS [aM 6 0,aR 7 (.len false (.t 6)),aR 8 (.mv (aI 0))] (.block 0 (.loop (aS [aR 9 (.bin .lss (.t 8) (.t 7))] (.seq (.cond (.t 9) (.skip) (.exit 0)) (.seq (.block 1 (aS [aM 10 8,aM 5 10] (aS [aM 11 1,aM 12 0,aM 13 5,aR 14 (.iaddr 1 (.t 12) (.t 13)),aL 15 14,aR 16 (.callv (.t 11) [.t 15])] (.cond (.t 16) (aS [aM 17 5,aM 4 17] (.ret)) (.skip))))) (.reg false [aR 18 (.bin .add (.t 8) (aI 1)),aM 8 18]))))))) (aS [aR 4 (.mv (aI (-1)))] (.ret))),[.t 4]⟩
theorem dz0:AX.compFn Tryz.prog 148=some bxl:=by kernel_rfl
def ajt:AX.AFn:=⟨9,aS [aR 4 (.mv (.c (.bool false)))] (aS [aM 5 0,aM 6 1,aR 7 (.call 148 [.t 5,.t 6]),aR 8 (.bin .geq (.t 7) (aI 0)),aM 4 8] (.ret)),[.t 4]⟩
theorem bym:AX.compFn Tryz.prog 110=some ajt:=by kernel_rfl
def bxq:AX.AFn:=⟨6,aS [aR 2 (.mv (.c (.bool false)))] (aS [aM 3 0,aR 4 (.call 110 [.t 3,.c (.fn 111 [])]),aR 5 (.un .not (.t 4)),aM 2 5] (.ret)),[.t 2]⟩
theorem cy8:AX.compFn Tryz.prog 68=some bxq:=by kernel_rfl
def bzq:AX.AFn:=⟨6,aS [aR 2 (.mv (.c (.bool false)))] (aS [aM 3 0,aR 4 (.len true (.t 3)),aR 5 (.bin .gtr (.t 4) (aI 4096)),aM 2 5] (.ret)),[.t 2]⟩
theorem cjf:AX.compFn Tryz.prog 111=some bzq:=by kernel_rfl
def aj3:AX.AFn:=⟨40,aS [aR 1 (.box 42 (.t 0)),aR 2 (.mv (.c (.bool false)))] (aS [aF 3 0 1,aL 4 3,aF 5 1 1,aL 6 5,aF 7 2 1,aL 8 7,aF 9 3 1,aL 10 9,aR 11 (.mks 1 [.t 4,.t 6,.t 8,.t 10]),aR 12 (.call 68 [.t 11]),aM 13 12,aG 14 (.faddr 12 (.t 1)) 13 true,aG 15 (.load false 1 (.t 14)) 13 true,aG 16 (.call 68 [.t 15]) 13 true,aR 17 (.pick (.t 13) (.t 16) (.c (.bool false))),aM 18 17,aG 19 (.faddr 12 (.t 1)) 18 true,aG 20 (.load false 1 (.t 19)) 18 true,aG 21 (.len false (.t 20)) 18 true,aG 22 (.bin .leq (.t 21) (aI 512)) 18 true,aR 23 (.pick (.t 18) (.t 22) (.c (.bool false))),aM 24 23,aG 25 (.faddr 4 (.t 1)) 24 true,aG 26 (.load true 5 (.t 25)) 24 true,aG 27 (.call 55 [.t 26]) 24 true,aG 28 (.bin .eql (.t 27) (aI 0)) 24 true,aR 29 (.pick (.t 24) (.t 28) (.c (.bool false))),aM 30 29,aG 31 (.faddr 9 (.t 1)) 30 true,aG 32 (.load false 1 (.t 31)) 30 true,aG 33 (.bin .geq (.t 32) (aI 0)) 30 true,aR 34 (.pick (.t 30) (.t 33) (.c (.bool false))),aM 35 34,aG 36 (.faddr 9 (.t 1)) 35 true,aG 37 (.load false 1 (.t 36)) 35 true,aG 38 (.bin .leq (.t 37) (aI 9007199254740992)) 35 true,aR 39 (.pick (.t 35) (.t 38) (.c (.bool false))),aM 2 39] (.ret)),[.t 2]⟩
theorem bw7:AX.compFn Tryz.prog 65=some aj3:=by kernel_rfl
def bx2:AX.AFn:=⟨29,aS [aR 1 (.box 26 (.t 0)),aR 2 (.mv (.c (.bool false)))] (aS [aF 3 0 1,aL 4 3,aR 5 (.bin .eql (.t 4) (.c (.str []))),aM 6 5,aG 7 (.faddr 1 (.t 1)) 6 true,aG 8 (.load false 1 (.t 7)) 6 true,aG 9 (.bin .eql (.t 8) (aI 0)) 6 true,aR 10 (.pick (.t 6) (.t 9) (.c (.bool false))),aM 11 10,aG 12 (.faddr 2 (.t 1)) 11 true,aG 13 (.load false 1 (.t 12)) 11 true,aG 14 (.len false (.t 13)) 11 true,aG 15 (.bin .eql (.t 14) (aI 0)) 11 true,aR 16 (.pick (.t 11) (.t 15) (.c (.bool false))),aM 17 16,aG 18 (.faddr 3 (.t 1)) 17 true,aG 19 (.load false 1 (.t 18)) 17 true,aG 20 (.len false (.t 19)) 17 true,aG 21 (.bin .eql (.t 20) (aI 0)) 17 true,aR 22 (.pick (.t 17) (.t 21) (.c (.bool false))),aM 23 22,aG 24 (.faddr 4 (.t 1)) 23 true,aG 25 (.load false 1 (.t 24)) 23 true,aG 26 (.len false (.t 25)) 23 true,aG 27 (.bin .eql (.t 26) (aI 0)) 23 true,aR 28 (.pick (.t 23) (.t 27) (.c (.bool false))),aM 2 28] (.ret)),[.t 2]⟩
theorem cw6:AX.compFn Tryz.prog 62=some bx2:=by kernel_rfl
def bw3:AX.AFn:=⟨31,aS [aR 1 (.box 44 (.t 0)),aR 2 (.mv (.c (.bool false)))] (aS [aF 3 6 1,aL 4 3,aR 5 (.bin .geq (.t 4) (aI 0)),aM 6 5,aG 7 (.faddr 6 (.t 1)) 6 true,aG 8 (.load false 1 (.t 7)) 6 true,aG 9 (.bin .lss (.t 8) (aI 2048)) 6 true,aR 10 (.pick (.t 6) (.t 9) (.c (.bool false))),aM 11 10,aG 12 (.faddr 7 (.t 1)) 11 true,aG 13 (.load false 1 (.t 12)) 11 true,aG 14 (.bin .geq (.t 13) (aI 1)) 11 true,aR 15 (.pick (.t 11) (.t 14) (.c (.bool false))),aM 16 15,aG 17 (.faddr 7 (.t 1)) 16 true,aG 18 (.load false 1 (.t 17)) 16 true,aG 19 (.bin .leq (.t 18) (aI 4)) 16 true,aR 20 (.pick (.t 16) (.t 19) (.c (.bool false))),aM 21 20,aG 22 (.faddr 8 (.t 1)) 21 true,aG 23 (.load false 1 (.t 22)) 21 true,aG 24 (.faddr 9 (.t 1)) 21 true,aG 25 (.load false 1 (.t 24)) 21 true,aG 26 (.faddr 10 (.t 1)) 21 true,aG 27 (.load false 1 (.t 26)) 21 true,aG 28 (.mks 1 [.t 23,.t 25,.t 27]) 21 true,aG 29 (.call 68 [.t 28]) 21 true,aR 30 (.pick (.t 21) (.t 29) (.c (.bool false))),aM 2 30] (.ret)),[.t 2]⟩
theorem dji:AX.compFn Tryz.prog 67=some bw3:=by kernel_rfl
def bw8:AX.AFn:=⟨26,aS [aR 1 (.box 44 (.t 0)),aR 2 (.mv (.c (.bool false)))] (aS [aF 3 6 1,aL 4 3,aR 5 (.bin .eql (.t 4) (aI 0)),aM 6 5,aG 7 (.faddr 7 (.t 1)) 6 true,aG 8 (.load false 1 (.t 7)) 6 true,aG 9 (.bin .eql (.t 8) (aI 0)) 6 true,aR 10 (.pick (.t 6) (.t 9) (.c (.bool false))),aM 11 10,aG 12 (.faddr 8 (.t 1)) 11 true,aG 13 (.load false 1 (.t 12)) 11 true,aG 14 (.bin .eql (.t 13) (.c (.str []))) 11 true,aR 15 (.pick (.t 11) (.t 14) (.c (.bool false))),aM 16 15,aG 17 (.faddr 9 (.t 1)) 16 true,aG 18 (.load false 1 (.t 17)) 16 true,aG 19 (.bin .eql (.t 18) (.c (.str []))) 16 true,aR 20 (.pick (.t 16) (.t 19) (.c (.bool false))),aM 21 20,aG 22 (.faddr 10 (.t 1)) 21 true,aG 23 (.load false 1 (.t 22)) 21 true,aG 24 (.bin .eql (.t 23) (.c (.str []))) 21 true,aR 25 (.pick (.t 21) (.t 24) (.c (.bool false))),aM 2 25] (.ret)),[.t 2]⟩
theorem dq5:AX.compFn Tryz.prog 66=some bw8:=by kernel_rfl
def bx9:AX.AFn:=⟨9,aS [aR 2 (.mv (.c (.bool false)))] (aS [aM 3 0,aR 4 (.bin .eql (.t 3) (aI 1)),aM 5 4,aG 6 (.mv (.t 0)) 5 false,aG 7 (.bin .eql (.t 6) (aI 2)) 5 false,aR 8 (.pick (.t 5) (.c (.bool true)) (.t 7)),aM 2 8] (.ret)),[.t 2]⟩
theorem dzr:AX.compFn Tryz.prog 64=some bx9:=by kernel_rfl
def longIdx:Nat→List (List UInt8)→Int
 |_,[]=>-1
 |i,s::l=>if decide ((s.length:Int)>4096)=true then i else longIdx (i+1) l
theorem bqs:∀(l:List (List UInt8)) (i:Nat),decide (longIdx i l≥0)=!Jr.shortB l
 |[],i=>rfl
 |s::l,i=>by
  unfold longIdx Jr.shortB;rw[ZM];by_cases h:(s.length:Int)>4096
  ·rw[if_pos (by simpa using h),show decide ((s.length:Int)≤4096)=false by simpa using h];simp
  ·rw[if_neg (by simpa using h),show decide ((s.length:Int)≤4096)=true by simpa using h,ZG];exact bqs l (i+1)
theorem cjk(s:List UInt8)(h:Hp):AT 111 [.str s] h (.bool (decide ((s.length:Int)>4096))):=by
 refine pcall ?_ rfl (by simp[A.pure,A.data]) h;refine azb mixedT cjf (by simp[bzq]) ?_;dsimp only[bzq];refine azc ti ti ?_;exact Fn rfl
theorem cyj(ks:List (List UInt8))(hn:ks.length≤1000000000)(h:Hp):AT 148 [.sl 1 .no (strsA ks),.fn 111 []] h (.int .i64 (longIdx 0 ks)):=by
 refine pcall ?_ rfl (by simp[A.pure,A.data]) h;refine azb mixedT dz0 (by simp[bxl]) ?_;dsimp only[bxl];obtain⟨D,hD⟩:=Ex (longIdx 0 ks);rw[hD];have li:(strsA ks).length=ks.length:=azh ks;refine azf li ?_;refine azd (fun mm ts h=>∃(j:Nat),mm=ks.length-j∧j≤ks.length∧h=⟨[],[]⟩∧longIdx j (ks.drop j)=D∧(ts 0=.sl 1 .no (strsA ks)∧ts 1=.fn 111 []∧ts 7=.int .i64 (ks.length:Nat)∧ts 8=.int .i64 (j:Nat))) ks.length ?_ ?_
 ·exact⟨0,by omega,by omega,rfl,hD,by(exact azo li)⟩
 rintro mm ts h ⟨j,rfl,hjc,rfl,hit,ht⟩;by_cases hj:j<ks.length
 ·have hf:=azp (fun s:List UInt8=>[A.str s]) ks j hj (by omega);have hf':(strsA ks).length=ks.length∧(j:Int)<(ks.length:Int)∧(0:Int)≤(j:Int)∧(strsA ks).getD j []=[.str ks[j]]∧IntKind.i64.wrap ((j:Int)+1)=((j+1:Nat):Int):=hf;clear hf;rw[Zl hj]at hit;unfold longIdx at hit;obtain⟨x,hx⟩:=Ex (ks[j]);rw[hx]at hf' hit;have cf:=cjk x;obtain⟨K,hK⟩:=Ex (decide ((x.length:Int)>4096));rw[hK]at cf hit;refine azf (ai ht hf') ?_;refine use (cf _) ?_;cases K
  ·rw[if_neg (by simp)]at hit;refine azf (ai ht hf') ?_;exact⟨ks.length-(j+1),by omega,j+1,rfl,by omega,rfl,hit,by(exact azo (ai ht hf'))⟩
  ·rw[if_pos rfl]at hit;subst hit;refine azf (ai ht hf') ?_;exact Fn rfl
 ·have hlt:¬((j:Int)<(ks.length:Int)):=by omega
  rw[ZQ (by omega)]at hit;unfold longIdx at hit;subst hit;refine azf (ai ht (ai hlt li)) ?_;exact Fn rfl
theorem awe(ks:List (List UInt8))(hn:ks.length≤1000000000)(h:Hp):AT 68 [.sl 1 .no (strsA ks)] h (.bool (Jr.shortB ks)):=by
 have ci:=cyj ks hn;have hge:=bqs ks 0;obtain⟨D,hD⟩:=Ex (longIdx 0 ks);rw[hD]at ci hge;have cc:∀h,AT 110 [.sl 1 .no (strsA ks),.fn 111 []] h (.bool (!Jr.shortB ks)):=fun h=>by
  rw[←hge];refine pcall ?_ rfl (by simp[A.pure,A.data]) h;refine azb mixedT bym (by simp[ajt]) ?_;dsimp only[ajt];refine azc ti (ai ci ti) ?_;exact Fn rfl
 obtain⟨B,hB⟩:=Ex (Jr.shortB ks);rw[hB]at cc⊢;refine pcall ?_ rfl (by simp[A.pure,A.data]) h;refine azb mixedT cy8 (by simp[bxq]) ?_;dsimp only[bxq];refine azc ti (ai cc ti) ?_;exact⟨_,le_refl _,by cases B<;>rfl⟩
theorem dxb(x:Sf.Inst)(h:Hp):AT 63 [.agg (Sf.Inst.cells x)] h (.bool (Jr.noneB x)):=by
 obtain⟨a,d,i,t,⟨k,n,s,is,ks⟩,v,tn,fi,ds⟩:=x;have l1:=V.cellss_length is;have l2:=azh ks;have l3:=azh ds;unfold Sf.Inst.cells Jr.noneB Jr.zeroV;dsimp only;refine pcall ?_ rfl (by simp[A.pure,A.data]) h;refine fo ?_;refine azc (ai l1 (ai l2 l3)) ti ?_;exact Fn rfl
theorem cw7(s:Sf.St)(h:Hp):AT 62 [s.A] h (.bool (Jr.emptyB s)):=by
 obtain⟨lin,ser,ins,ps,os⟩:=s;have l1:(ins.map Sf.Inst.cells).length=ins.length:=Zj _;have l2:(ps.map Sf.Pend.cells).length=ps.length:=Zj _;have l3:(os.map Sf.Outp.cells).length=os.length:=Zj _;unfold Sf.St.A Jr.emptyB;dsimp only;refine pcall ?_ rfl (by simp[A.pure,A.data]) h;refine azb mixedT cw6 (by simp[bx2]) ?_;dsimp only[bx2];refine azc (ai l1 (ai l2 l3)) ti ?_;exact Fn rfl
theorem cw9(n:Int)(h:Hp):AT 64 [.int .i64 n] h (.bool (Jr.makesB n)):=by
 refine pcall ?_ rfl (by simp[A.pure,A.data]) h;refine azb mixedT dzr (by simp[bx9]) ?_;dsimp only[bx9];unfold Jr.makesB;refine azc ti ti ?_;exact Fn rfl
theorem dx9(x:Sf.Inst)(hl:x.attrs.lens)(hd:x.deps.length≤1000000000)(h:Hp):AT 65 [.agg (Sf.Inst.cells x)] h (.bool (Jr.instB x)):=by
 obtain⟨a,d,i,t,⟨k,n,s,is,ks⟩,v,tn,fi,ds⟩:=x;have l3:=azh ds;have c1:=awe [a,d,i,t] (by simp);have c2:=awe ds hd;have c3:=bjv (.mk k n s is ks) hl;simp only[V.A,V.cells]at c3;unfold Sf.Inst.cells Jr.instB;dsimp only;obtain⟨b1,h1⟩:=Ex (Jr.shortB [a,d,i,t]);obtain⟨b2,h2⟩:=Ex (Jr.shortB ds);obtain⟨Z,hZ⟩:=Ex (Val.checkZ (.mk k n s is ks));rw[h1]at c1;rw[h2]at c2;rw[hZ]at c3;rw[h1,h2,hZ];have c1':∀h,AT 68 [.sl 1 .no [[.str a],[.str d],[.str i],[.str t]]] h (.bool b1):=c1;refine pcall ?_ rfl (by simp[A.pure,A.data]) h;refine azb mixedT bw7 (by simp[aj3]) ?_;dsimp only[aj3];refine azc l3 (ai c1' (ai c2 (ai c3 ti))) ?_;exact Fn rfl
theorem dxv(r:Jr)(h:Hp):AT 66 [.agg r.cells] h (.bool r.bareB):=by
 obtain⟨kd,⟨lin,ser,ins,ps,os⟩,st,op,ad,dp,ty,tk,er,⟨a,d,i,t,⟨k,n,s,is,ks⟩,v,tn,fi,ds⟩⟩:=r;unfold Jr.bareB;simp only[Jr.cells,Sf.Inst.cells,Zd,Zg];refine pcall ?_ rfl (by simp[A.pure,A.data]) h;refine azb mixedT dq5 (by simp[bw8]) ?_;dsimp only[bw8];refine azc ti ti ?_;exact Fn rfl
theorem djq(r:Jr)(h:Hp):AT 67 [.agg r.cells] h (.bool r.stepB):=by
 obtain⟨kd,⟨lin,ser,ins,ps,os⟩,st,op,ad,dp,ty,tk,er,⟨a,d,i,t,⟨k,n,s,is,ks⟩,v,tn,fi,ds⟩⟩:=r;unfold Jr.stepB;simp only[Jr.cells,Sf.Inst.cells,Zd,Zg];have c1:=awe [ad,dp,ty] (by simp);obtain⟨b1,h1⟩:=Ex (Jr.shortB [ad,dp,ty]);rw[h1]at c1⊢;have c1':∀h,AT 68 [.sl 1 .no [[.str ad],[.str dp],[.str ty]]] h (.bool b1):=c1;refine pcall ?_ rfl (by simp[A.pure,A.data]) h;refine azb mixedT dji (by simp[bw3]) ?_;dsimp only[bw3];refine azc ti (ai c1' ti) ?_;exact Fn rfl
theorem dzg(r:Jr)(hl:r.after.attrs.lens)(hd:r.after.deps.length≤1000000000)(h:Hp):AT 31 [.agg r.cells] h (.bool r.validB):=by
 have ce:=cw7 r.base;have cn:=dxb r.after;have cm:=cw9 r.op;have ci:=dx9 r.after hl hd;have cb:=dxv r;have cs:=djq r;have ct:=awe [r.tok] (by simp);have hbad:Jr.badB r=(r.kind !=1&&!Jr.emptyB r.base||r.kind !=2&&r.tok != []||r.kind !=4&&r.err !=0):=rfl;have haft:Jr.afterB r=(Jr.noneB r.after||Jr.makesB r.op&&Jr.instB r.after):=rfl;unfold Jr.validB;obtain⟨bad,hbd⟩:=Ex (Jr.badB r);obtain⟨aft,haf⟩:=Ex (Jr.afterB r);obtain⟨e,he⟩:=Ex (Jr.emptyB r.base);obtain⟨n,hn⟩:=Ex (Jr.noneB r.after);obtain⟨m,hm⟩:=Ex (Jr.makesB r.op);obtain⟨i,hi⟩:=Ex (Jr.instB r.after);obtain⟨b,hb⟩:=Ex (r.bareB);obtain⟨s,hs⟩:=Ex (r.stepB);obtain⟨t,ht⟩:=Ex (Jr.shortB [r.tok]);rw[hbd,he]at hbad;rw[haf,hn,hm,hi]at haft;rw[he]at ce;rw[hn]at cn;rw[hm]at cm;rw[hi]at ci;rw[hb]at cb;rw[hs]at cs;rw[ht]at ct;rw[hbd,haf,hn,hb,hs,ht];clear hbd haf he hn hm hi hb hs ht hl hd;obtain⟨kd,⟨lin,ser,ins,ps,os⟩,st,op,ad,dp,ty,tk,er,⟨a1,a2,a3,a4,⟨k,nn,ss,is,ks⟩,v,tn,fi,ds⟩⟩:=r;have ct':∀h,AT 68 [.sl 1 .no [[.str tk]]] h (.bool t):=ct;simp only[Jr.cells,Sf.Inst.cells,Zd,Zg,Sf.St.A]at *;refine pcall ?_ rfl (by simp[A.pure,A.data]) h;refine fo ?_;refine azc ti (ai ce ti) ?_;(refine AX.bw0 ti ?_ ?_)
 ·intro hc;rw[hc]at hbad;subst hbad;refine azc ti ti ?_;exact Fn rfl
 intro hc;rw[hc]at hbad;subst hbad;rw[if_neg (by decide)];refine azc ti (ai cn (ai cm (ai ci ti))) ?_;by_cases q1:kd=1
 ·subst q1;rw[if_pos (.inl rfl)];refine azc ti (ai cb (ai cn ti)) ?_;exact Fn rfl
 have f1:(kd==1)=false:=by simp[q1]
 by_cases q5:kd=5
 ·subst q5;rw[if_pos (.inr rfl)];refine azc ti (ai cb (ai cn ti)) ?_;exact Fn rfl
 have f5:(kd==5)=false:=by simp[q5]
 rw[if_neg (by simp[q1,q5])];by_cases q2:kd=2
 ·subst q2;rw[if_pos rfl];refine azc ti (ai cs (ai cn (ai ct' ti))) ?_;exact Fn rfl
 have f2:(kd==2)=false:=by simp[q2]
 rw[if_neg q2];by_cases q3:kd=3
 ·subst q3;rw[if_pos rfl,haft];refine azc ti (ai cs ti) ?_;exact Fn rfl
 have f3:(kd==3)=false:=by simp[q3]
 rw[if_neg q3];by_cases q4:kd=4
 ·subst q4;rw[if_pos rfl,haft];refine azc ti (ai cs ti) ?_;exact Fn rfl
 have f4:(kd==4)=false:=by simp[q4]
 rw[if_neg q4];refine azc (ai f1 (ai f2 (ai f3 (ai f4 f5)))) ti ?_;exact Fn rfl
end AX
def BWtr(B b:Nat)(l:List UInt8)(w:World):Prop:=
 B≤b∧∃p v,(p=.pointer none∨p=.pointer (some ⟨b,0,none⟩))∧w.heap[b]?=some (.cells #[p,v] 192 (0,0))∧w.ownsRowF B 5 1 v l.length (Lib.byteCells l)∧v.ownBlock≠some b
def BWtrU(B b:Nat)(l:List UInt8)(w:World):Prop:=
 B≤b∧∃v,w.heap[b]?=some (.cells #[.pointer (some ⟨b,0,none⟩),v] 192 (0,0))∧w.ownsRowF B 5 1 v l.length (Lib.byteCells l)∧v.ownBlock≠some b
theorem cxb(b:Nat)(w:World)(h0:w.cell? ⟨b,0,none⟩=some (.pointer none))(hsh:w.shape? b=some (192,2))(hfz:w.frozen? ⟨b,0,none⟩=false):
  Calls Tryz.prog 200 #[.pointer (some ⟨b,0,none⟩)] w fun e w'=>e=.returned (.tuple #[])∧w'=w.setCell ⟨b,0,none⟩ (.pointer (some ⟨b,0,none⟩)):=by
 obtain⟨j,hj,hjs⟩:=Zx.1 (show(Tryz.prog.info? 192).map (·.size)=some 2 by kernel_rfl);have hlies:liesAt Tryz.prog Tryz.prog.depth 192 (2/Tryz.prog.cellsOf 192) 0 192 1=true:=by kernel_rfl
 go_enter Tryz.func200,Tryz.ntmps200;go_wp2;rw[Lib.run_to_unsafe w ⟨b,0,none⟩ Tryz.underlying189 Tryz.underlying237 hj (by rw[hjs];decide) hsh (by show 0<2;omega)];simp only[Result.andThen];rw[Oper.upon_value];go_wp2;rw[run_callFunc_extern Tryz.func222 (by kernel_rfl) (by kernel_rfl) (by kernel_rfl) (e:=Extern.AbiNoEscape.same) (by kernel_rfl)];rw[Lib.run_noEscape];simp only[Result.andThen];rw[Oper.upon_value];go_wp2;rw[Lib.run_from_unsafe w ⟨b,0,none⟩ Tryz.underlying237 Tryz.underlying189 hj hsh hlies];simp only[Result.andThen];rw[Oper.upon_value];go_wp2
 go_end0
 exact⟨rfl,rfl⟩
theorem aqu{w:World}{b:Nat}{p v:Value}{T:TypeId}(h:w.heap[b]?=some (.cells #[p,v] T (0,0))):w.cell? ⟨b,0,none⟩=some p∧w.cell? ⟨b,1,none⟩=some v∧(∀i,w.frozen? ⟨b,i,none⟩=false)∧w.shape? b=some (T,2)∧b<w.heap.size:=by
 refine⟨?_,?_,fun i=>?_,?_,(ZL.1 h).1⟩
 ·rw[cell_of_row _ _ _ _ _ _ h];rfl
 ·rw[cell_of_row _ _ _ _ _ _ h];rfl
 ·simp[World.frozen?,h]
 ·simp[World.shape?,h]
theorem BWtr.used{B b:Nat}{l:List UInt8}{w:World}{p v:Value}(hB:B≤b)(hb:w.heap[b]?=some (.cells #[p,v] 192 (0,0)))(hown:w.ownsRowF B 5 1 v l.length (Lib.byteCells l))(hne:v.ownBlock≠some b):
  BWtrU B b l (w.setCell ⟨b,0,none⟩ (.pointer (some ⟨b,0,none⟩))):=by
 refine⟨hB,v,?_,?_,hne⟩
 ·simp[World.setCell,Y3,hb]
 ·exact hown.kept (row:=some b) ⟨rfl,rfl,rfl,by simp[World.setCell],fun k _ hk=>Below.heap_setCell _ _ _ _ (fun e=>hk (by simp[e]))⟩ (Or.inr hne)
def BF(F:Nat→Prop)(b:Nat)(l:List UInt8)(w:World):Prop:=
 ∃p v,(p=.pointer none∨p=.pointer (some ⟨b,0,none⟩))∧w.heap[b]?=some (.cells #[p,v] 192 (0,0))∧w.ownsRowF 0 5 1 v l.length (Lib.byteCells l)∧v.ownBlock≠some b∧F b∧∀k,v.ownBlock=some k→F k
theorem dz9{F:Nat→Prop}{b:Nat}{l:List UInt8}{w:World}(h:BF F b l w):
  Calls Tryz.prog 200 #[.pointer (some ⟨b,0,none⟩)] w fun e w'=>e=.returned (.tuple #[])∧(∃v,w'.heap[b]?=some (.cells #[.pointer (some ⟨b,0,none⟩),v] 192 (0,0))∧w'.ownsRowF 0 5 1 v l.length (Lib.byteCells l)∧v.ownBlock≠some b∧F b∧∀k,v.ownBlock=some k→F k)∧Fr F w w':=by
 obtain⟨p,v,hp,hb,hown,hne,hF,hFk⟩:=h;obtain⟨c0,c1,hf,hsh,hlt⟩:=aqu hb;rcases hp with rfl|rfl
 ·refine(cxb b w c0 hsh (hf 0)).mono ?_;rintro e w' ⟨rfl,rfl⟩;obtain⟨_,v',hb',hown',hne'⟩:=BWtr.used (B:=0) (Zq _) hb hown hne;have hv:v'=v:=by
   have:=(aqu hb').2.1;have h2:(w.setCell ⟨b,0,none⟩ (.pointer (some ⟨b,0,none⟩))).heap[b]?=some (.cells #[.pointer (some ⟨b,0,none⟩),v] 192 (0,0)):=by simp[World.setCell,Y3,hb]
   have h3:=(aqu h2).2.1;rw[h3]at this;injection this with this;exact this.symm
  subst hv;exact⟨rfl,⟨v',hb',hown',hne',hF,hFk⟩,Fr.set w b 0 _ hF⟩
 ·refine(Any.Builder_copyCheck_used Tryz.lays240 Tryz.Builder_X72_240 b w c0).mono ?_;rintro e w' ⟨rfl,rfl⟩;exact⟨rfl,⟨v,hb,hown,hne,hF,hFk⟩,Fr.refl F _⟩
theorem dqn{F:Nat→Prop}{b:Nat}{l:List UInt8}{w:World}(h:BF F b l w)(s:List UInt8)(hlen:l.length+s.length≤1000000000):
  Calls Tryz.prog 165 #[.pointer (some ⟨b,0,none⟩),.string ⟨s.toArray⟩] w fun e w'=>e=.returned (.tuple #[.int .i64 s.length,.nilIface])∧BF (fun k=>F k∨w.heap.size≤k) b (l++s) w'∧Fr F w w':=by
 obtain⟨i0,hi,hz0,hz1,hz2⟩:=info_parts ckg;go_enter Tryz.func165,Tryz.ntmps165;go_wp2_with fail;(with_reducible refine(dz9 h).mono ?_);rintro e w1 ⟨rfl,⟨v,hbk,hown,hne,hF,hFk⟩,hb1⟩;obtain⟨c0,c1,hf,hsh,hlt⟩:=aqu hbk;go_wp2_with (at_builtin;refine bzm _ rfl _ _ 190 9 rfl 5 i0 Tryz.underlying190 Tryz.underlying9 hi hz0 hz1 hz2 _ _ _ rfl hown ⟨s.toArray⟩ rfl ?c3 ?c4 ?_)
 case c3=>rw[size_mk];unfold maxLen;omega
 case c4=>rw[size_mk];omega
 intro v' w2 hown' hgrow hwhere;have hb2:w2.heap[b]?=some (.cells #[.pointer (some ⟨b,0,none⟩),v] 192 (0,0)):=(hgrow.block b hlt (fun e=>hne e.symm)).trans hbk;obtain⟨d0,d1,hf2,_,hlt2⟩:=aqu hb2;have f1:=hf2 1;have hown2:w2.ownsRowF 0 5 1 v' (l++s).length (Lib.byteCells (l++s)):=by
  have e1:(⟨s.toArray⟩:ByteArray).size=s.length:=size_mk s;have e2:Lib.byteCells l++Lib.strCells ⟨s.toArray⟩=Lib.byteCells (l++s):=by unfold Lib.strCells Lib.byteCells;simp
  rw[Zb,←e2,←e1];exact hown'
 have hne2:=Lib.ownBlock_neF hown2 hb2 (show 192≠5 by decide);have hwb1:=hb1.size
 have Hfin:=kept (show BF (fun k=>F k∨w.heap.size≤k) b (l++s) (w2.setCell ⟨b,1,none⟩ v')from by
  refine⟨_,v',.inr rfl,?_,?_,hne2,.inl hF,fun k hk=>?_⟩
  ·simp[World.setCell,Y3,hb2]
  ·exact hown2.kept (row:=some b) ⟨rfl,rfl,rfl,by simp[World.setCell],fun k _ hk=>Below.heap_setCell _ _ _ _ (fun e=>hk (by simp[e]))⟩ (Or.inr hne2)
  ·rcases hwhere k hk with h1|h1
   ·exact .inl (hFk k h1)
   ·exact .inr (by omega))
 have Hfr:=kept ((hb1.trans (Fr.grown hgrow fun k hk=>hFk k hk)).trans (Fr.set w2 b 1 v' hF));obtain⟨ao,n',cap,rfl⟩:∃ao n' cap,v'=.slice ao n' cap:=by
  rcases hown'.2 with⟨hv,_⟩|⟨g,cap,cur,fz,hv,_⟩
  ·exact⟨_,_,_,hv⟩
  ·exact⟨_,_,_,hv⟩
 clear hown' hown2 hne2 hb2 hbk hown hne hgrow hb1 h hwhere;go_wp2
 go_ret2
 exact⟨by simp,Hfin.out,Hfr.out⟩
theorem cji{F:Nat→Prop}{b:Nat}{l:List UInt8}{w:World}(h:BF F b l w)(h0:l≠[]):
  Calls Tryz.prog 167 #[.pointer (some ⟨b,0,none⟩)] w fun e w'=>e=.returned (.string ⟨l.toArray⟩)∧Fr F w w':=by
 obtain⟨p,v,hp,hbk,hown,hne,hFb,hFk⟩:=h;have hl0:l.length≠0:=by simpa using h0
 obtain⟨g,cap,cur,fz,rfl,hbg,hg,hfz,hnc,hcm,hcs,htake⟩:∃g cap cur fz,v=.slice (some ⟨g,0,none⟩) l.length cap∧0≤g∧w.heap[g]?=some (.cells cur 5 fz)∧fz.2≤l.length*1∧l.length≤cap∧cap≤maxLen∧cur.size=cap*1∧cur.toList.take (l.length*1)=Lib.byteCells l:=by
  rcases hown.2 with⟨_,hz⟩|⟨g,cap,cur,fz,hv,r⟩
  ·exact absurd hz hl0
  ·exact⟨g,cap,cur,fz,hv,r⟩
 have HFg:=kept (hFk g rfl);have c1:w.drew.cell? ⟨b,1,none⟩=some (.slice (some ⟨g,0,none⟩) l.length cap):=(aqu hbk).2.1;have hSD:(Builtin.unsafeSliceData_ #[190] 227 #[.slice (some ⟨g,0,none⟩) l.length cap]).run Tryz.prog w.drew=.ok (.pointer (some ⟨g,0,none⟩)) w.drew:=
  Lib.run_unsafeSliceData_row _ _ _ _ _ _ (by omega)
 have hUS:(Builtin.unsafeString_ #[227,3] 9 #[.pointer (some ⟨g,0,none⟩),.int .i64 l.length]).run Tryz.prog w.drew=.ok (.string ⟨l.toArray⟩) (w.drew.freeze ⟨g,0,none⟩ l.length):=by
  refine Lib.run_unsafeString_row w.drew 227 3 9 5 Tryz.underlying227 Tryz.Builder_Extra_169.cellsByte g cur.size (by have hg':w.drew.heap[g]?=some (.cells cur 5 fz):=hg;simp[World.shape?,hg']) l h0 (by omega) (by unfold maxLen at hcm;omega) ?_;intro j x hx;have:=hown.cells (g:=g) rfl j (.int .u8 x.toNat) (by simp[Lib.byteCells,hx]);exact this
 have Hfr:=kept (show Fr F w (w.drew.freeze ⟨g,0,none⟩ l.length)from by
  unfold World.freeze;split
  ·exact⟨rfl,rfl,rfl,Zh _,fun _ _ _=>rfl⟩
  ·refine⟨rfl,rfl,rfl,by simp,fun k hk hn=>?_⟩;have hkg:k≠g:=fun e=>hn (by rw[e];exact HFg.out)
   simp only[Y3,if_neg hkg.symm];rfl)
 clear hown hp hne hbk hnc hcm hcs htake hfz hg hl0 h0 hFk hFb;have mixed:=Tryz.lays169.mixed;go_enter Tryz.func167,Tryz.ntmps167;go_wp2
 go_region_o
 all_goals (go_wp2;go_ret;exact⟨rfl,Hfr.out⟩)
namespace AX
def bwt(l:List UInt8):Blk:=.opq (fun F g w=>BF F g l w) (fun _=>none)
def Bt(h:Hp)(i:Nat)(l:List UInt8):Prop:=h.b[i]?=some (bwt l)∨(l=[]∧h.b[i]?=some (.cells 192 [.nilp,.sl 0 .nil []]))
theorem BF.stable{F:Nat→Prop}{b:Nat}{l:List UInt8}{w w':World}(h:BF F b l w)(hs:∀g,F g→w'.heap[g]?=w.heap[g]?):BF F b l w':=by
 obtain⟨p,v,hp,hb,hown,hne,hF,hFk⟩:=h;refine⟨p,v,hp,(hs b hF).trans hb,⟨hown.1,?_⟩,hne,hF,hFk⟩;rcases hown.2 with h1|⟨g,cap,cur,fz,rfl,h2,h3,h4⟩
 ·exact .inl h1
 ·exact .inr ⟨g,cap,cur,fz,rfl,h2,(hs g (hFk g rfl)).trans h3,h4⟩
theorem Bt.lt{h:Hp}{i:Nat}{l:List UInt8}(hw:Bt h i l):i<h.b.length:=by
 rcases hw with h1|⟨_,h1⟩
 ·exact(Ze.1 h1).1
 ·exact(Ze.1 h1).1
theorem Bt.live{h:Hp}{i:Nat}{l:List UInt8}(hw:Bt h i l):∃b0:Blk,h.b[i]?=some b0∧b0.live=true:=by
 rcases hw with h1|⟨_,h1⟩<;>exact⟨_,h1,rfl⟩
theorem Bt.bf{h:Hp}{i:Nat}{l:List UInt8}{C:Ctx}{G:World→Prop}(hw:Bt h i l)(hI:Inv G C h):BF (fun g=>C.own g=some (C.lab i)) (C.κ i) l C.w:=by
 have hi:i<C.nb:=by rw[←hI.nb];exact hw.lt
 rcases hw with h1|⟨rfl,h1⟩
 ·exact(hI.box i _ h1).1 C.w (fun _ _=>rfl) (Zh _)
 ·obtain⟨cs,k1,k2⟩:=hI.box i _ h1;obtain⟨c0,d0,rfl,e0,k2⟩:=repL_cons.1 k2;obtain⟨c1,d1,rfl,e1,k2⟩:=repL_cons.1 k2;rw[repL_nil]at k2;subst k2;rw[aq1]at e0;subst e0;obtain⟨a,cap,rfl,_,_,e3,e4,_⟩:=rep_sl.1 e1;subst e3;subst e4;exact⟨_,_,.inl rfl,k1,⟨rfl,.inl ⟨rfl,rfl⟩⟩,by simp[Value.ownBlock],hI.ok h1 rfl,fun k hk=>by simp[Value.ownBlock]at hk⟩
theorem cyw{C:Ctx}{i:Nat}{l:List UInt8}(h:BF (fun g=>C.own g=some (C.lab i)) (C.κ i) l C.w):BlkRep C i (bwt l):=by
 refine⟨fun w' hw _=>BF.stable h hw,fun o x hx=>?_⟩;cases hx
theorem awb{h:Hp}{i:Nat}{l:List UInt8}(hw:Bt h i l)(s:List UInt8)(hlen:l.length+s.length≤1000000000):
  AC 165 [.ptr i 0,.str s] h fun v h'=>v=.tup [.int .i64 s.length,.nili]∧h'=⟨h.b.set i (bwt (l++s)),h.t⟩:=by
 intro C es hI ha;obtain⟨c,es',rfl,h1,h2⟩:=repL_cons.1 ha;obtain⟨rfl,hi⟩:=rep_ptr.1 h1;obtain rfl:=av9 ajr C es' h2;refine(dqn (hw.bf hI) s hlen).mono ?_;rintro e w' ⟨rfl,m1,m2⟩;have hrep:BlkRep (C.turn w' i true) i (bwt (l++s)):=by
  refine cyw ?_;obtain⟨p,v,hp,hb,hown,hne,hF,hFk⟩:=m1;have hlt:=(aqu hb).2.2.2.2;have hcl:∀k,k<w'.heap.size→(C.own k=some (C.lab i)∨C.w.heap.size≤k)→(C.turn w' i true).own k=some (C.lab i):=fun k hk hor=>by
   show(if k<C.w.heap.size then C.own k else if true=true∧k<w'.heap.size then some (C.lab i)else none)=some (C.lab i)
   split
   ·rcases hor with h3|h3
    ·exact h3
    ·omega
   ·rw[if_pos ⟨rfl,hk⟩]
  refine⟨p,v,hp,hb,hown,hne,hcl _ hlt hF,fun k hk=>hcl k ?_ (hFk k hk)⟩;rcases hown.2 with⟨rfl,_⟩|⟨g,cap,cur,fz,rfl,_,h3,_⟩
  ·simp[Value.ownBlock]at hk
  ·simp only[Value.ownBlock,Za]at hk;subst hk;exact(ZL.1 h3).1
 obtain⟨i1,s1⟩:=axo (b':=bwt (l++s)) true hI (hw.live).choose_spec.1 (hw.live).choose_spec.2 m2.os m2.tape m2.output m2.size (fun g hg hne=>m2.block g hg hne) (fun _=>hrep);exact⟨_,_,.tup [.int .i64 s.length,.nili],_,rfl,rfl,i1,s1,rep_tup.2 ⟨_,rfl,repL_cons.2 ⟨_,_,rfl,rep_int.2 rfl,repL_cons.2 ⟨_,_,rfl,cqd.2 rfl,repL_nil.2 rfl⟩⟩⟩,rfl,rfl⟩
theorem bke{h:Hp}{i:Nat}{l:List UInt8}(hw:Bt h i l)(h0:l≠[]):AC 167 [.ptr i 0] h fun v h'=>v=.str l∧h'=⟨h.b.set i dead,h.t⟩:=by
 intro C es hI ha;obtain⟨c,es',rfl,h1,h2⟩:=repL_cons.1 ha;obtain⟨rfl,hi⟩:=rep_ptr.1 h1;rw[repL_nil]at h2;subst h2;refine(cji (hw.bf hI) h0).mono ?_;rintro e w' ⟨rfl,m2⟩;obtain⟨i1,s1⟩:=axo (b':=dead) false hI (hw.live).choose_spec.1 (hw.live).choose_spec.2 m2.os m2.tape m2.output m2.size (fun g hg hne=>m2.block g hg hne) (fun _=>⟨fun _ _ _=>trivial,fun o x hx=>by cases hx⟩);exact⟨_,_,.str l,_,rfl,rfl,i1,s1,rep_str.2 rfl,rfl,rfl⟩
def bxy:AX.AFn:=⟨39,aS [aR 1 (.box 105 (.t 0)),aR 2 (.mv (aI 0))] (.seq (aS [aF 5 0 1,aL 6 5,aR 7 (.len false (.t 6)),aR 8 (.bin .gtr (.t 7) (aI 16))] (.cond (.t 8) (aS [aR 2 (.mv (aI 4))] (.ret)) (.skip))) (.seq (aS [aF 9 0 1,aL 10 9,aR 11 (.len false (.t 10)),aR 12 (.mv (aI 0))] (.block 0 (.loop (aS [aR 13 (.bin .lss (.t 12) (.t 11))] (.seq (.cond (.t 13) (.skip) (.exit 0)) (.seq (.block 1 (aS [aR 14 (.iaddr 4 (.t 10) (.t 12)),aR 15 (.load true 4 (.t 14)),aR 4 (.alloc 135 [.str [],.int .i64 0,.int .i64 0,.str []]),aU (.store 4 (.t 4) (.t 15))] (.seq (aS [aF 16 0 4,aL 17 16,aR 18 (.call 61 [.t 17]),aR 19 (.un .not (.t 18))] (.cond (.t 19) (aS [aR 2 (.mv (aI 7))] (.ret)) (.skip))) (aS [aF 20 1 4,aR 21 (.load true 3 (.t 20)),aR 22 (.call 199 [.t 21]),aR 23 (.un .not (.t 22))] (.cond (.t 23) (aS [aR 2 (.mv (aI 1))] (.ret)) (.skip)))))) (.reg false [aR 24 (.bin .add (.t 12) (aI 1)),aM 12 24]))))))) (.seq (aS [aF 25 2 1,aL 26 25,aR 27 (.call 109 [.t 26]),aR 28 (.un .not (.t 27)),aM 29 28,aG 30 (.faddr 3 (.t 1)) 29 false,aG 31 (.load false 1 (.t 30)) 29 false,aG 32 (.call 61 [.t 31]) 29 false,aG 33 (.un .not (.t 32)) 29 false,aR 34 (.pick (.t 29) (.c (.bool true)) (.t 33))] (.cond (.t 34) (aS [aR 2 (.mv (aI 7))] (.ret)) (.skip))) (.seq (aS [aF 35 4 1,aR 36 (.load true 3 (.t 35)),aR 37 (.call 199 [.t 36]),aR 38 (.un .not (.t 37))] (.cond (.t 38) (aS [aR 2 (.mv (aI 1))] (.ret)) (.skip))) (aS [aR 2 (.mv (aI 0))] (.ret)))))),[.t 2]⟩
theorem dqp:AX.compFn Tryz.prog 164=some bxy:=by kernel_rfl
def ayz:AX.AFn:=⟨26,aS [aR 1 (.box 103 (.t 0)),aR 2 (.mv (.c (.str [])))] (.seq (.block 0 (aS [aR 4 (.load true 3 (.t 1)),aR 5 (.call 199 [.t 4]),aR 6 (.un .not (.t 5)),aM 7 6,aG 8 (.faddr 0 (.t 1)) 7 false,aG 9 (.load false 1 (.t 8)) 7 false,aG 10 (.bin .eql (.t 9) (aI 0)) 7 false,aR 11 (.pick (.t 7) (.c (.bool true)) (.t 10)),aM 3 11] (.cond (.t 3) (aS [aR 2 (.mv (.c (.str [])))] (.ret)) (aS [aF 13 0 1,aL 14 13,aR 15 (.bin .eql (.t 14) (aI 1)),aM 12 15] (.cond (.t 12) (aS [aF 16 1 1,aL 17 16,aR 18 (.call 201 [.t 17]),aR 19 (.bin .add (.c (.str [91])) (.t 18)),aR 20 (.bin .add (.t 19) (.c (.str [93]))),aM 2 20] (.ret)) (.skip)))))) (aS [aF 21 2 1,aL 22 21,aR 23 (.call 146 [.t 22]),aR 24 (.bin .add (.c (.str [91])) (.t 23)),aR 25 (.bin .add (.t 24) (.c (.str [93]))),aM 2 25] (.ret))),[.t 2]⟩
theorem cj7:AX.compFn Tryz.prog 166=some ayz:=by kernel_rfl
def awj:AX.AFn:=⟨41,aS [aR 1 (.box 105 (.t 0)),aR 2 (.mv (.c (.str [])))] (.seq (aS [aR 6 (.load true 7 (.t 1)),aR 7 (.call 164 [.t 6]),aR 8 (.bin .neq (.t 7) (aI 0))] (.cond (.t 8) (aS [aR 2 (.mv (.c (.str [])))] (.ret)) (.skip))) (aS [aR 3 (.alloc 192 [.nilp,.sl 0 .nil []])] (.seq (aS [aF 9 0 1,aL 10 9,aR 11 (.len false (.t 10)),aR 12 (.mv (aI 0))] (.block 0 (.loop (aS [aR 13 (.bin .lss (.t 12) (.t 11))] (.seq (.cond (.t 13) (.skip) (.exit 0)) (.seq (.block 1 (aS [aR 14 (.iaddr 4 (.t 10) (.t 12)),aR 15 (.load true 4 (.t 14)),aR 5 (.alloc 135 [.str [],.int .i64 0,.int .i64 0,.str []]),aU (.store 4 (.t 5) (.t 15))] (.reg true [aF 16 0 5,⟨some 17,.load false 1 (.t 16),none,[0]⟩,⟨some 18,.bin .add (.c (.str [109,111,100,117,108,101,46])) (.t 17),none,[1]⟩,aF 19 1 5,⟨some 20,.load true 3 (.t 19),none,[3]⟩,⟨some 21,.call 166 [.t 20],none,[4]⟩,⟨some 22,.bin .add (.t 18) (.t 21),none,[2,5]⟩,⟨some 23,.bin .add (.t 22) (.c (.str [46])),none,[6]⟩,⟨some 24,.call 165 [.t 3,.t 23],none,[7,5]⟩]))) (.reg false [aR 25 (.bin .add (.t 12) (aI 1)),aM 12 25]))))))) (.seq (aS [aF 26 1 1,aL 27 26] (.cond (.t 27) (.reg false [aR 28 (.call 165 [.t 3,.c (.str [100,97,116,97,46])])]) (.skip))) (.seq (.reg true [aF 29 2 1,⟨some 30,.load false 1 (.t 29),none,[0]⟩,⟨some 31,.bin .add (.t 30) (.c (.str [46])),none,[1]⟩,aF 32 3 1,⟨some 33,.load false 1 (.t 32),none,[3]⟩,⟨some 34,.bin .add (.t 31) (.t 33),none,[2,4]⟩,aF 35 4 1,⟨some 36,.load true 3 (.t 35),none,[6]⟩,⟨some 37,.call 166 [.t 36],none,[7]⟩,⟨some 38,.bin .add (.t 34) (.t 37),none,[5,8]⟩,⟨some 39,.call 165 [.t 3,.t 38],none,[9,8]⟩]) (aS [aR 40 (.call 167 [.t 3]),aM 2 40] (.ret))))))),[.t 2]⟩
theorem cvl:AX.compFn Tryz.prog 139=some awj:=by kernel_rfl
def awn:AX.AFn:=⟨17,aS [aR 2 (.mv (.c (.str []))),aR 3 (.mv (aI 0))] (aS [aM 7 0,aR 8 (.call 60 [.t 7]),aM 6 8,aE 9 6 0,aE 10 6 1,aR 4 (.alloc 105 [.sl 0 .nil [],.bool false,.str [],.str [],.int .i64 0,.int .i64 0,.str []]),aU (.store 7 (.t 4) (.t 9)),aM 5 10] (.seq (aS [aM 11 5,aR 12 (.bin .neq (.t 11) (aI 0))] (.cond (.t 12) (aS [aM 13 5,aR 2 (.mv (.c (.str []))),aM 3 13] (.ret)) (.skip))) (aS [aR 14 (.load true 7 (.t 4)),aR 15 (.call 140 [.t 14]),aR 16 (.call 139 [.t 15]),aM 2 16,aR 3 (.mv (aI 0))] (.ret)))),[.t 2,.t 3]⟩
theorem cj4:AX.compFn Tryz.prog 102=some awn:=by kernel_rfl
structure Adr.In(a:Adr.Ad):Prop where
 n:a.mods.length≤3000000
 m:∀s∈a.mods,s.name.length≤2000000∧s.key.str.length≤2000000
 t:a.type.length≤2000000
 nm:a.name.length≤2000000
 k:a.key.str.length≤2000000
theorem cyl(a:Adr.Ad)(hi:Adr.In a)(h:Hp):AT 164 [.agg a.cells] h (.int .i64 (Adr.check a)):=by
 obtain⟨mods,data,ty,nm,⟨kk,kn,ks⟩⟩:=a;obtain⟨hn,hm,ht,ha,hk⟩:=hi;dsimp only at hn hm ht ha hk;refine pcall ?_ rfl (by simp[A.pure,A.data,Adr.Ad.cells]) h;refine azb mixedT dqp (by simp[bxy]) ?_;dsimp only[bxy,Adr.Ad.cells];have lm:(mods.map Adr.Step.cells).length=mods.length:=Zj ..;obtain⟨Z,hZ⟩:=Ex (Adr.check ⟨mods,data,ty,nm,⟨kk,kn,ks⟩⟩);rw[hZ];unfold Adr.check at hZ;dsimp only at hZ;by_cases h16:(mods.length:Int)>16
 ·rw[if_pos (by omega)]at hZ;subst hZ;refine azf (ai lm h16) ?_;exact Fn rfl
 rw[if_neg (by omega)]at hZ;have ck:=fun h=>dqv ty ht h
 have ci:=fun h=>aw4 nm ha h
 have cv:=fun h=>bx6 ⟨kk,kn,ks⟩ hk h
 unfold Adr.K.A at cv;dsimp only at cv;refine azf (ai lm h16) ?_
 refine azd (fun mm ts h=>∃(j:Nat) (l:List Blk),mm=mods.length-j∧j≤mods.length∧h=⟨.cells 105 [.sl 4 .no (mods.map Adr.Step.cells),.bool data,.str ty,.str nm,.int .i64 kk,.int .i64 kn,.str ks]::l,[]⟩ ∧
  (match (mods.drop j).find? (fun s=>!(Adr.ident s.name&&Adr.keyOk s.key))with
  |some s=>if Adr.ident s.name then(1:Int)else 7
  |none=>if !Adr.kindB ty||!Adr.ident nm then 7 else if !Adr.keyOk ⟨kk,kn,ks⟩then 1 else 0)=Z ∧
  ts 1=.ptr 0 0∧ts 10=.sl 4 .no (mods.map Adr.Step.cells)∧ts 11=.int .i64 (mods.length:Nat)∧ts 12=.int .i64 (j:Nat)) mods.length ?_ ?_
 ·exact⟨0,[],by omega,by omega,rfl,hZ,by(exact ev0 ti),by(exact ev0 ti),by(exact ev0 lm),by(exact azo ti)⟩
 rintro mm ts h ⟨j,l,rfl,hjc,rfl,hit,t1,t10,t11,t12⟩;by_cases hj:j<mods.length
 ·have hlt:(j:Int)<(mods.length:Int):=by omega
  have hlt':(j:Int)<((mods.map Adr.Step.cells).length:Int):=by rw[lm];exact hlt
  have hj0:(0:Int)≤(j:Int):=by omega
  have ei:IntKind.i64.wrap ((j:Int)+1)=((j+1:Nat):Int):=by rw[wrap64 (by omega) (by omega)];omega
  have hg:=aqj Adr.Step.cells mods j hj;have hmj:=hm _ (Zp hj);rw[Zl hj,List.find?_cons]at hit;obtain⟨x,hx⟩:=Ex (mods[j]);rw[hx]at hg hmj hit;obtain⟨xn,⟨xk,xm,xs⟩⟩:=x;dsimp only[Adr.Step.cells]at hg hmj hit;have cxi:=fun h=>aw4 xn hmj.1 h
  have cxv:=fun h=>bx6 ⟨xk,xm,xs⟩ hmj.2 h
  unfold Adr.K.A at cxv;dsimp only at cxv;obtain⟨I,hI⟩:=Ex (Adr.ident xn);obtain⟨K,hK⟩:=Ex (Adr.keyOk ⟨xk,xm,xs⟩);rw[hI]at cxi hit;rw[hK]at cxv hit;refine azf (ai t1 (ai t10 (ai t11 (ai t12 (ai hlt (ai hlt' (ai hj0 hg))))))) ?_;refine use (cxi _) ?_;cases I
  ·simp only[Ye,ZU]at hit;rw[hI]at hit;simp only[Zn,if_false]at hit;subst hit;refine azf (ai t1 (ai t10 (ai t11 t12))) ?_;exact Fn rfl
  refine azf (ai t1 (ai t10 (ai t11 t12))) ?_;refine use (cxv _) ?_;cases K
  ·simp only[YY,ZU]at hit;rw[hI]at hit;simp only[if_true]at hit;subst hit;refine azf (ai t1 (ai t10 (ai t11 t12))) ?_;exact Fn rfl
  ·simp only[Yl,ZW]at hit;refine azf (ai t1 (ai t10 (ai t11 (ai t12 ei)))) ?_;exact⟨mods.length-(j+1),by omega,j+1,_,rfl,by omega,rfl,hit,by(exact ev0 t1),by(exact ev0 t10),by(exact ev0 t11),by(exact ev0 ei)⟩
 ·have hlt:¬((j:Int)<(mods.length:Int)):=by omega
  rw[ZQ (by omega)]at hit;simp only[List.find?_nil]at hit;refine azf (ai t1 (ai t10 (ai t11 (ai t12 hlt)))) ?_;refine use (ck _) ?_;cases hkb:Adr.kindB ty
  ·rw[hkb]at hit;rw[if_pos (by simp)]at hit;subst hit;refine azf (ai t1 (ai t10 (ai t11 t12))) ?_;exact Fn rfl
  rw[hkb]at hit;refine azf (ai t1 (ai t10 (ai t11 t12))) ?_;refine use (ci _) ?_;cases hib:Adr.ident nm
  ·rw[hib]at hit;rw[if_pos (by simp)]at hit;subst hit;refine azf (ai t1 (ai t10 (ai t11 t12))) ?_;exact Fn rfl
  rw[hib]at hit;rw[if_neg (by simp)]at hit;refine azf (ai t1 (ai t10 (ai t11 t12))) ?_;refine use (cv _) ?_;cases hvb:Adr.keyOk ⟨kk,kn,ks⟩
  ·rw[hvb]at hit;rw[if_pos (by simp)]at hit;subst hit;refine azf (ai t1 (ai t10 (ai t11 t12))) ?_;exact Fn rfl
  ·rw[hvb]at hit;rw[if_neg (by simp)]at hit;subst hit;refine azf (ai t1 (ai t10 (ai t11 t12))) ?_;exact Fn rfl
theorem bvp(h:Hp):AT 166 [.agg [.int .i64 0,.int .i64 0,.str []]] h (.str []):=by
 refine pcall ?_ rfl (by simp[A.pure,A.data]) h;refine azb mixedT cj7 (by simp[ayz]) ?_;dsimp only[ayz];have cv:=fun h=>bx6 Adr.K.none (by unfold Adr.K.none;simp) h
 have e1:Adr.keyOk Adr.K.none=true:=by decide
 rw[e1]at cv;unfold Adr.K.A Adr.K.none at cv;dsimp only at cv;refine azf ti ?_;refine use (cv _) ?_;refine azf ti ?_;exact Fn rfl
def Bw(acc:List UInt8)(w:Blk):Prop:=w=bwt acc∨(acc=[]∧w=.cells 192 [.nilp,.sl 0 .nil []])
theorem Bw.bt{acc:List UInt8}{w B0:Blk}{l:List Blk}{t:List (TypeId×Nat×Nat)}(hw:Bw acc w):Bt ⟨B0::w::l,t⟩ 1 acc:=by
 rcases hw with rfl|⟨rfl,rfl⟩
 ·exact .inl rfl
 ·exact .inr ⟨rfl,rfl⟩
def stepB(s:Adr.Step):List UInt8:=Adr.modW++s.name++[46]
theorem by3(mods:List Adr.Step)(data:Bool)(ty nm:List UInt8)(hk:∀s∈mods,s.key=Adr.K.none)(hc:Adr.check ⟨mods,data,ty,nm,Adr.K.none⟩=0):
  Adr.fmt ⟨mods,data,ty,nm,Adr.K.none⟩=mods.flatMap stepB++(if data then Adr.dataW else[])++(ty++[46]++nm):=by
 have hn:Adr.fmtKey Adr.K.none=[]:=by decide
 unfold Adr.fmt;rw[if_neg (by simp[hc])];dsimp only;rw[hn];have e:Adr.steps mods=mods.flatMap stepB:=by
  unfold Adr.steps;induction mods with
  |nil=>rfl
  |cons x l ih=>
   have hx:=hk x (by simp);have hcl:∀l:List Adr.Step,(∀s∈l,s.key=Adr.K.none)→(l.flatMap fun s=>Adr.modW++s.name++Adr.fmtKey s.key++[46])=l.flatMap stepB:=by
    intro l;induction l with
    |nil=>intro _;rfl
    |cons y l ih=>
     intro hl;rw[Zag,Zag,ih fun s hs=>hl s (by simp[hs]),hl y (by simp),hn];unfold stepB;simp
   exact hcl _ hk
 rw[e];simp
theorem cze{α:Type}(f:α→List UInt8)(l:List α)(j:Nat)(hj:j<l.length):(l.take (j+1)).flatMap f=(l.take j).flatMap f++f l[j]:=by
 rw[Yo hj,Zan];simp
theorem avg:∀(l:List Adr.Step),(∀s∈l,s.name.length≤2000000)→(l.flatMap stepB).length≤l.length*2000008
 |[],_=>by simp
 |x::l,h=>by
  rw[Zag,Zb,Zi,Nat.succ_mul];have h1:=avg l fun s hs=>h s (by simp[hs])
  have h2:=h x (by simp);have h3:(stepB x).length=x.name.length+8:=by unfold stepB;simp[Adr.modW]<;>omega
  omega
theorem cw1(a:Adr.Ad)(hi:Adr.In a)(hk:∀s∈a.mods,s.key=Adr.K.none)(hkk:a.key=Adr.K.none)(h:Hp):AT 139 [.agg a.cells] h (.str (Adr.fmt a)):=by
 have cc:=fun h=>cyl a hi h
 obtain⟨mods,data,ty,nm,key⟩:=a;dsimp only at hk hkk;subst hkk;have hfb:=by3 mods data ty nm hk;obtain⟨hn,hm,ht,ha,_⟩:=hi;dsimp only at hn hm ht ha;refine pcall ?_ rfl (by simp[A.pure,A.data,Adr.Ad.cells]) h;refine azb mixedT cvl (by simp[awj]) ?_;dsimp only[awj,Adr.Ad.cells,Adr.K.none]at cc⊢;have lm:(mods.map Adr.Step.cells).length=mods.length:=Zj ..;by_cases hc0:Adr.check ⟨mods,data,ty,nm,Adr.K.none⟩=0
 rotate_left
 ·have e1:(Adr.check ⟨mods,data,ty,nm,Adr.K.none⟩!=0)=true:=by simp[hc0]
  have hfz:Adr.fmt ⟨mods,data,ty,nm,Adr.K.none⟩=[]:=by unfold Adr.fmt;rw[if_pos hc0]
  unfold Adr.K.none at e1 hfz;refine azf ti ?_;refine use (cc _) ?_;refine azf e1 ?_;exact⟨_,le_refl _,by rw[hfz];rfl⟩
 have e1:(Adr.check ⟨mods,data,ty,nm,Adr.K.none⟩!=0)=false:=by simp[hc0]
 have hf:=hfb hc0;have hn16:mods.length≤16:=by
  rcases Zr 16 mods.length with h16|h16
  ·unfold Adr.check at hc0;rw[if_pos h16]at hc0;exact absurd hc0 (by decide)
  ·exact h16
 have hlenall:=avg mods fun s hs=>(hm s hs).1
 unfold Adr.K.none at e1 hf;rw[hf];refine azf ti ?_;refine use (cc _) ?_;refine azf (ai e1 lm) ?_
 refine azd (fun mm ts h=>∃(j:Nat) (w:Blk) (l:List Blk),mm=mods.length-j∧j≤mods.length∧h=⟨.cells 105 [.sl 4 .no (mods.map Adr.Step.cells),.bool data,.str ty,.str nm,.int .i64 0,.int .i64 0,.str []]::w::l,[]⟩∧Bw ((mods.take j).flatMap stepB) w ∧
  ts 1=.ptr 0 0∧ts 3=.ptr 1 0∧ts 10=.sl 4 .no (mods.map Adr.Step.cells)∧ts 11=.int .i64 (mods.length:Nat)∧ts 12=.int .i64 (j:Nat)) mods.length ?_ ?_
 ·exact⟨0,_,[],by omega,by omega,rfl,.inr ⟨rfl,rfl⟩,by(exact ev0 ti),by(exact ev0 ti),by(exact ev0 ti),by(exact ev0 lm),by(exact azo ti)⟩
 rintro mm ts h ⟨j,w,l,rfl,hjc,rfl,hw,t1,t3,t10,t11,t12⟩;have hacc:((mods.take j).flatMap stepB).length≤32000128:=by
  have h2:(mods.take j).length≤16:=by rw[Zk];omega
  exact Zs (avg (mods.take j) fun s hs=>(hm s (List.mem_of_mem_take hs)).1) (Zs (Z6 2000008 h2) (by decide))
 by_cases hj:j<mods.length
 ·have hlt:(j:Int)<(mods.length:Int):=by omega
  have hlt':(j:Int)<((mods.map Adr.Step.cells).length:Int):=by rw[lm];exact hlt
  have hj0:(0:Int)≤(j:Int):=by omega
  have ei:IntKind.i64.wrap ((j:Int)+1)=((j+1:Nat):Int):=by rw[wrap64 (by omega) (by omega)];omega
  have hg:=aqj Adr.Step.cells mods j hj;have hmj:=hm _ (Zp hj);have hkj:=hk _ (Zp hj);have hsn:=cze stepB mods j hj;obtain⟨x,hx⟩:=Ex (mods[j]);rw[hx]at hg hmj hkj hsn;obtain⟨xn,xk⟩:=x;dsimp only at hkj;subst hkj;dsimp only[Adr.Step.cells,Adr.K.none]at hg hmj;have hxl:=hmj.1;have hsl:(stepB ⟨xn,Adr.K.none⟩).length=xn.length+8:=by unfold stepB;simp[Adr.modW]<;>omega
  have hse:109::111::100::117::108::101::46::(xn++[46])=stepB ⟨xn,Adr.K.none⟩:=rfl;have l1:7+xn.length<1099511627776:=by omega
  have l2:xn.length+7<1099511627776:=by omega
  have l3:xn.length+7+1<1099511627776:=by omega
  have l4:xn.length+8<1099511627776:=by omega
  have hcw:=fun(z:Blk)=>awb (h:=⟨.cells 105 [.sl 4 .no (mods.map Adr.Step.cells),.bool data,.str ty,.str nm,.int .i64 0,.int .i64 0,.str []]::w::(l++[z]),[]⟩) (i:=1) hw.bt (stepB ⟨xn,Adr.K.none⟩) (by rw[hsl];omega)
  rw[←hsn]at hcw;have hcf:=fun h=>bvp h
  refine azf (ai t1 (ai t3 (ai t10 (ai t11 (ai t12 (ai hlt (ai hlt' (ai hj0 (ai hg (ai l1 hse)))))))))) ?_;refine use (hcf _) ?_;refine azf (ai t1 (ai t3 (ai t10 (ai t11 (ai t12 (ai l1 (ai l2 (ai l3 (ai l4 hse))))))))) ?_;refine use (hcw _) ?_;refine azf (ai t1 (ai t3 (ai t10 (ai t11 (ai t12 ei))))) ?_;exact⟨mods.length-(j+1),by omega,j+1,_,_,rfl,by omega,rfl,.inl rfl,by(exact ev0 t1),by(exact ev0 t3),by(exact ev0 t10),by(exact ev0 t11),by(exact ev0 ei)⟩
 ·have hlt:¬((j:Int)<(mods.length:Int)):=by omega
  have hje:j=mods.length:=by omega
  subst hje;rw[Yy]at hw hacc;obtain⟨P,hP⟩:=Ex (mods.flatMap stepB);rw[hP]at hw hacc⊢;have hcf:=fun h=>bvp h
  have hdw:Adr.dataW=[100,97,116,97,46]:=rfl;have l1:ty.length+1<1099511627776:=by omega
  have l2:ty.length+1+nm.length<1099511627776:=by omega
  have l3:ty.length+(nm.length+1)<1099511627776:=by omega
  have l4:ty.length+1+nm.length<1099511627776:=by omega
  cases data
  ·have hcw:=awb (h:=⟨.cells 105 [.sl 4 .no (mods.map Adr.Step.cells),.bool false,.str ty,.str nm,.int .i64 0,.int .i64 0,.str []]::w::l,[]⟩) (i:=1) hw.bt (ty++[46]++nm) (by simp;omega);have hcs:=bke (h:=⟨.cells 105 [.sl 4 .no (mods.map Adr.Step.cells),.bool false,.str ty,.str nm,.int .i64 0,.int .i64 0,.str []]::bwt (P++(ty++[46]++nm))::l,[]⟩) (i:=1) (.inl rfl) (by simp);refine azf (ai t1 (ai t3 (ai t10 (ai t11 (ai t12 (ai hlt (ai l1 (ai l2 l3)))))))) ?_;refine use (hcf _) ?_;refine azf (ai t1 (ai t3 (ai t10 (ai t11 (ai t12 (ai hlt (ai l1 (ai l2 (ai l3 l4))))))))) ?_;refine use hcw ?_;refine azf (ai t1 (ai t3 (ai t10 (ai t11 t12)))) ?_;refine use hcs ?_;refine azf (ai t1 (ai t3 (ai t10 (ai t11 t12)))) ?_;exact⟨_,le_refl _,by simp[azn]⟩
  ·have hcd:=awb (h:=⟨.cells 105 [.sl 4 .no (mods.map Adr.Step.cells),.bool true,.str ty,.str nm,.int .i64 0,.int .i64 0,.str []]::w::l,[]⟩) (i:=1) hw.bt Adr.dataW (by rw[hdw];simp;omega);have hcw:=awb (h:=⟨.cells 105 [.sl 4 .no (mods.map Adr.Step.cells),.bool true,.str ty,.str nm,.int .i64 0,.int .i64 0,.str []]::bwt (P++Adr.dataW)::l,[]⟩) (i:=1) (.inl rfl) (ty++[46]++nm) (by rw[hdw];simp;omega);have hcs:=bke (h:=⟨.cells 105 [.sl 4 .no (mods.map Adr.Step.cells),.bool true,.str ty,.str nm,.int .i64 0,.int .i64 0,.str []]::bwt (P++Adr.dataW++(ty++[46]++nm))::l,[]⟩) (i:=1) (.inl rfl) (by simp);rw[hdw]at hcd hcw hcs⊢;refine azf (ai t1 (ai t3 (ai t10 (ai t11 (ai t12 (ai hlt (ai l1 (ai l2 l3)))))))) ?_;refine use hcd ?_;refine azf (ai t1 (ai t3 (ai t10 (ai t11 (ai t12 (ai hlt (ai l1 (ai l2 l3)))))))) ?_;refine use (hcf _) ?_;refine azf (ai t1 (ai t3 (ai t10 (ai t11 (ai t12 (ai hlt (ai l1 (ai l2 (ai l3 l4))))))))) ?_;refine use hcw ?_;refine azf (ai t1 (ai t3 (ai t10 (ai t11 t12)))) ?_;refine use hcs ?_;refine azf (ai t1 (ai t3 (ai t10 (ai t11 t12)))) ?_;exact⟨_,le_refl _,by simp[azn]⟩
end AX
end
end Go.Proofs.YtnghhnahdjjpkaaGreatDoor
