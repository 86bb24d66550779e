/- Part of what the proof needs. -/
import Derived.Test.YthhpocnmfknalaaGreatDoorMFrWorkspaceCallsR
set_option maxHeartbeats 4000000
set_option maxRecDepth 100000
set_option linter.all false
namespace Go.Proofs.YthhpocnmfknalaaGreatDoor
section
open Go.RowKit
namespace AX
section
variable {P:Program} {G:World->Prop} {C:Ctx} {h:Hp}
def Fz1(h:Hp)(x y:A):Prop:=(x=y/\x.data=true)\/∃i W T rows,x=.bs i W rows.length/\h.b[i]?=some (.row T rows.flatten)/\y=.sl W .no rows/\(∀r∈rows,r.length=W)/\rows.flatten.all A.data=true
def FzL(h:Hp):List A->List A->Prop
 |[],[]=>True
 |x::l,y::m=>Fz1 h x y/\FzL h l m
 |_,_=>False
theorem FzL.data{h:Hp}:∀{l m:List A},FzL h l m->m.all A.data=true
 |[],[],_=>rfl
 |x::l,y::m,hf=>by
  rw[ZK,Zg];refine⟨?_,FzL.data hf.2⟩;rcases hf.1 with⟨rfl,hd⟩|⟨i,W,T,rows,_,_,rfl,_,_⟩
  ·exact hd
  ·rfl
 |[],_::_,hf=>hf.elim
 |_::_,[],hf=>hf.elim
inductive FzV(h:Hp):A->A->Prop
 |one {x y:A} (e:Fz1 h x y):FzV h x y
 |agg {xs ys:List A} (e:FzL h xs ys):FzV h (.agg xs) (.agg ys)
 |tup {xs ys:List A} (e:FzL h xs ys):FzV h (.tup xs) (.tup ys)
theorem pcallv{f:FuncId}{args:List A}{y:A}(hc:ACall P G f args ⟨[],[]⟩ fun v h'=>FzV h' v y)(ha:args.all A.pure=true)(h:Hp):ACall P G f args h fun v h'=>v=y/\h'=h:=by
 intro C cs hI hr;have hid:Inv G C.hid ⟨[],[]⟩:=by
  refine⟨rfl,fun i b hb=>by simp at hb,⟨fun i b hb=>by simp at hb,fun i j b b' hb=>by simp at hb⟩,fun g i hg=>by simp[Ctx.hid]at hg,fun g j hs=>?_,fun t E W m ht=>by simp[Ctx.hid]at ht,fun t t' ht=>by simp[Ctx.hid]at ht,fun t=>by simp[Ctx.hid],hI.base,hI.glob⟩;exact⟨(hI.prot g j hs).1,rfl,fun t E W m ht=>by simp[Ctx.hid]at ht⟩
 refine(hc C.hid cs hid (RepL.pures (C:=C) (C':=C.hid) ⟨fun g j hs=>⟨hs,rfl⟩⟩ args cs ha hr)).mono ?_;rintro e w' ⟨C1,h1,v,cv,rfl,rfl,I1,S1,r1,hf⟩;have hblk:∀g,g<C.w.heap.size->C1.w.heap[g]?=C.w.heap[g]?:=fun g hg=>S1.frame g hg rfl fun t ht=>by simp[Ctx.hid]at ht
 have hnew:∀g i,C1.own g=some i->C.w.heap.size<=g:=fun g i hg=>by
  rcases Z0 g C.w.heap.size with hlt|hge
  ·have:=S1.own g hlt;rw[hg]at this;simp[Ctx.hid]at this
  ·exact hge
 let C2:Ctx:={ C with w:=C1.w,S:=fun g j=>C1.S g j\/((C1.own g).isSome=true),own:=fun g=>if g<C.w.heap.size then C.own g else none }
 have hsz:C.w.heap.size<=C1.w.heap.size:=S1.size;have he:Ext C C2:=by
  refine⟨fun g j hs=>?_,Ze _,fun _ _=>⟨rfl,rfl,rfl⟩,fun t E W m ht=>?_⟩
  ·obtain⟨k1,k2⟩:=S1.ext.cells g j hs;exact⟨.inl k1,k2⟩
  ·obtain⟨_,_,cap,h2,_⟩:=hI.rows t E W m ht;exact⟨m,ht,.inr ⟨rfl,rfl,fun cap hc=>hc.same (hblk _ h2.lt)⟩⟩
 have hown:∀g i,C2.own g=some i↔C.own g=some i:=fun g i=>by
  show(if g<C.w.heap.size then C.own g else none)=some i↔_
  split
  ·exact Iff.rfl
  ·next hg=>exact⟨fun e=>(by cases e),fun e=>absurd (hI.ownlt g i e).2.1 hg⟩
 have hprot:∀g j,C2.S g j->C.S g j\/C.w.heap.size<=g:=fun g j hs=>by
  rcases hs with hs|hs
  ·rcases S1.prot g j hs with h2|h2|⟨t,h2,_⟩
   ·exact .inl h2
   ·exact .inr h2
   ·simp[Ctx.hid]at h2
  ·obtain⟨i,hi⟩:=Option.isSome_iff_exists.1 hs;exact .inr (hnew g i hi)
 have hSlt:∀g j,C2.S g j->g<C1.w.heap.size:=fun g j hs=>by
  rcases hs with hs|hs
  ·exact(I1.prot g j hs).1
  ·obtain⟨i,hi⟩:=Option.isSome_iff_exists.1 hs;exact(I1.ownlt g i hi).2.1
 have hsame:Same C1 C2:=⟨fun g j hs=>⟨.inl hs,rfl⟩⟩;have frz:∀(xs ys:List A) (vs:List Value),FzL h1 xs ys->RepL C1 xs vs->RepL C2 ys vs:=by
  intro xs;induction xs with
  |nil=>
   intro ys vs hf hr;cases ys with
   |nil=>exact hr
   |cons y ys=>exact hf.elim
  |cons x xs ih=>
   intro ys vs hf hr;cases ys with
   |nil=>exact hf.elim
   |cons y ys=>
    obtain⟨c,cs',rfl,k1,k2⟩:=repL_cons.1 hr;refine repL_cons.2 ⟨c,cs',rfl,?_,ih ys cs' hf.2 k2⟩;rcases hf.1 with⟨rfl,hd⟩|⟨i,W,T,rows,rfl,hb,rfl,hW,hd⟩
    ·exact Rep.same hsame _ _ hd k1
    ·obtain⟨cap,rfl,hcap,hi,_⟩:=rep_bs.1 k1;obtain⟨ds,rest,q1,q2,_⟩:=I1.box i _ hb;have hsd:(C1.own (C1.κ i)).isSome=true:=by rw[I1.ok hb rfl];rfl
     have hdd:∀(l:List A) (ds:List Value),l.all A.data=true->RepL C1 l ds->RepL C2 l ds:=fun l ds hd hr=>RepL.same hsame l ds hd hr
     refine rep_sl.2 ⟨_,cap,rfl,hcap,aqi rows ds 0 hW hd (hdd _ _ hd q2) (fun j _=> .inr hsd) (fun j u hu=>?_),trivial⟩;have q1':C2.w.heap[C1.κ i]?=some (.cells (ds++rest).toArray T (0,0)):=q1;rw[cell_of_row _ _ _ _ _ _ q1'];have hj:j<ds.length:=(Zb.1 hu).1;simp only[List.getElem?_toArray];rw[show 0+0*W+j=j by omega,ZF hj];exact hu
 refine⟨C2,h,y,cv,rfl,rfl,⟨hI.nb,fun i b hib=>?_,⟨fun i b hb hl=>(hown _ _).2 (hI.ok hb hl),hI.ownk.2⟩,fun g i hg=>?_,fun g j hs=>?_,fun t E W m ht=>?_,hI.inj,hI.toks,Zr hI.base hsz,fun w2 hw=>?_⟩,⟨he,S1.os,S1.tape,S1.output,hsz,rfl,fun g hg _ _=>hblk g hg,fun g hg=>?_,fun g j hs=>?_,fun t ht=> .inr ⟨ht,rfl⟩⟩,?_,rfl,rfl⟩
 ·have hi:i<C.nb:=by rw[<-hI.nb];exact(Zb.1 hib).1
  exact(hI.box i b hib).ext he hi (fun hl=>⟨hI.ok hib hl,fun g hg=>hblk g (hI.ownlt g _ hg).2.1,fun g=>hown g _⟩) hsz
 ·obtain⟨k1,k2,k3⟩:=hI.ownlt g i ((hown g i).1 hg);exact⟨k1,ZG k2 hsz,k3⟩
 ·have hlt:=hSlt g j hs;rcases hprot g j hs with h2|h2
  ·obtain⟨k1,k2,k3⟩:=hI.prot g j h2;exact⟨hlt,by show(if g<C.w.heap.size then C.own g else none)=none;rw[if_pos k1,k2],k3⟩
  ·refine⟨hlt,by show(if g<C.w.heap.size then C.own g else none)=none;rw[if_neg (by omega)],fun t E W m ht e=>?_⟩;obtain⟨_,_,cap,k1,_⟩:=hI.rows t E W m ht;have:=k1.lt;have e':C.τ t=g:=e;omega
 ·obtain⟨k1,k2,cap,k3,k4⟩:=hI.rows t E W m ht;exact⟨by show(if C.τ t<C.w.heap.size then C.own (C.τ t)else none)=none;rw[if_pos k3.lt,k1],k2,cap,k3.same (hblk _ k3.lt),k4⟩
 ·exact hI.glob w2 fun g hg=>(hw g hg).trans (hblk g (ZG hg hI.base))
 ·show(if g<C.w.heap.size then C.own g else none)=C.own g
  rw[if_pos hg]
 ·rcases hprot g j hs with h2|h2
  ·exact .inl h2
  ·exact .inr (.inl h2)
 ·cases hf with
  |one hf=>
   have:=frz [v] [y] [cv] ⟨hf,trivial⟩ (repL_cons.2 ⟨_,_,rfl,r1,azp.2 rfl⟩);obtain⟨c,cs,e,k,_⟩:=repL_cons.1 this;injection e with e;subst e;exact k
  |agg hf=>
   obtain⟨vs,rfl,hl⟩:=rep_agg.1 r1;exact rep_agg.2 ⟨vs,rfl,frz _ _ vs hf hl⟩
  |tup hf=>
   obtain⟨vs,rfl,hl⟩:=rep_tup.1 r1;exact rep_tup.2 ⟨vs,rfl,frz _ _ vs hf hl⟩
theorem pcallz{f:FuncId}{args:List A}{ys:List A}(hc:ACall P G f args ⟨[],[]⟩ fun v h'=>∃xs,v=.agg xs/\FzL h' xs ys)(ha:args.all A.pure=true)(h:Hp):ACall P G f args h fun v h'=>v=.agg ys/\h'=h:=
 pcallv (hc.mono fun v h' ⟨xs,e,hf⟩=>by rw[e];exact .agg hf) ha h
end
end AX
end
section
open Go.RowKit
theorem bvz(b off n c:Nat)(news:List Value)(w:World)(hl:news.length=n*4)(hn:0<n)(hbig:n*48<=140737488355328)(hmax:n<=maxLen)(hc:∀j v,news[j]?=some v->w.cell? ((⟨b,off,none⟩:Addr).add j)=some v)(h1:∀u∈news,u.oneCell'=true):
  Calls Tryz.prog 190 #[.slice (some ⟨b,off,none⟩) n c] w fun e w'=>∃v',e=.returned v'/\w'.ownsRow w.heap.size 209 4 v' n news/\Below w.heap.size w w':=by
 obtain⟨i0,hi,hz0,hz1,hz2⟩:=info_parts (show(Tryz.prog.info? 209).map (fun i=>(i.zero,i.size,i.bytes))=some (some (.agg #[.string ⟨#[]⟩,.int .i64 0,.int .i64 0,.string ⟨#[]⟩]),4,48) by kernel_rfl);have q22:∀(w:World) (a:Option Addr) (n c n' c':Nat),(binOp .eql 175 (.slice a n c) (.slice none n' c')).run Tryz.prog w=.ok (.bool a.isNone) w:=fun w a n c n' c'=>Lib.run_eql_slice_nil w _ _ a n c n' c' Tryz.underlying175
 have u22:∀w,Sem.run Tryz.prog (underlying 175) w=.ok (TypeDesc.slice 209) w:=run_underlying Tryz.underlying175;have HC:=kept hc;have H1:=kept h1;clear hc h1;go_enter Tryz.func190,Tryz.ntmps190;go_wp2_with (at_builtin;refine wpList_append_own _ rfl _ _ 175 rfl w.heap.size 209 i0 (.agg #[.string ⟨#[]⟩,.int .i64 0,.int .i64 0,.string ⟨#[]⟩]) 4 48 Tryz.underlying175 hi hz0 hz1 hz2 rfl (by decide) _ _ _ rfl (World.ownsRow_made w #[] 0 (Ze _) (ZB _) rfl) ⟨b,off,none⟩ n c news rfl ?qc1 ?qc2 ?qc3 ?qc4 ?qc5 ?qc6 ?_)
 case qc1=>exact hl
 case qc2=>
  intro j u hj;have:=HC.out j u hj;rw[Addr.add_lit]at this⊢;exact Lib.cell?_alloc_some _ this
 case qc3=>exact H1.out
 case qc4=>omega
 case qc5=>omega
 case qc6=>simp
 intro v' w1 hown hgrow hnil;have Hb:=kept (((Below.refl _ w).alloc (Ze _) (.cells #[] 209)).grown hgrow (by simp) (by intro k hk;simp[Value.ownBlock]at hk;omega));have Ho:=kept (show w1.ownsRow w.heap.size 209 4 v' n news by simpa using hown);clear hown hgrow hnil HC H1;go_wp2
 go_ret
 exact⟨v',rfl,Ho.out,Hb.out⟩
theorem bj8(a:Option Addr)(c:Nat)(w:World):
  Calls Tryz.prog 190 #[.slice a 0 c] w fun e w'=>(∃a' c',e=.returned (.slice a' 0 c'))/\Below w.heap.size w w':=by
 have q22:∀(w:World) (a:Option Addr) (n c n' c':Nat),(binOp .eql 175 (.slice a n c) (.slice none n' c')).run Tryz.prog w=.ok (.bool a.isNone) w:=fun w a n c n' c'=>Lib.run_eql_slice_nil w _ _ a n c n' c' Tryz.underlying175
 have u22:∀w,Sem.run Tryz.prog (underlying 175) w=.ok (TypeDesc.slice 209) w:=run_underlying Tryz.underlying175;cases a with
 |none=>
  go_enter Tryz.func190,Tryz.ntmps190;go_wp2
  go_ret
  exact⟨⟨_,_,rfl⟩,Below.refl _ _⟩
 |some ad=>
  obtain⟨i0,hi,hz0,hz1,hz2⟩:=info_parts (show(Tryz.prog.info? 209).map (fun i=>(i.zero,i.size,i.bytes))=some (some (.agg #[.string ⟨#[]⟩,.int .i64 0,.int .i64 0,.string ⟨#[]⟩]),4,48) by kernel_rfl);go_enter Tryz.func190,Tryz.ntmps190;go_wp2_with (at_builtin;refine wpList_append_own _ rfl _ _ 175 rfl w.heap.size 209 i0 (.agg #[.string ⟨#[]⟩,.int .i64 0,.int .i64 0,.string ⟨#[]⟩]) 4 48 Tryz.underlying175 hi hz0 hz1 hz2 rfl (by decide) _ _ _ rfl (World.ownsRow_made w #[] 0 (Ze _) (ZB _) rfl) ad 0 c [] rfl rfl (by intro j u hj;simp at hj) (by intro u hu;cases hu) (by unfold maxLen;omega) (by omega) (by simp) ?_);intro v' w1 hown hgrow hnil;have Hb:=kept (((Below.refl _ w).alloc (Ze _) (.cells #[] 209)).grown hgrow (by simp) (by intro k hk;simp[Value.ownBlock]at hk;omega));have Hv:∃a' c',v'=.slice a' 0 c':=by
   rcases hown.2 with⟨rfl,_⟩|⟨g,cap,cur,rfl,_⟩
   ·exact⟨_,_,rfl⟩
   ·exact⟨_,_,rfl⟩
  obtain⟨a',c',rfl⟩:=Hv;clear hown hgrow hnil;go_wp2
  go_ret
  exact⟨⟨_,_,rfl⟩,Hb.out⟩
namespace AX
theorem ayl(W0:Nat)(o:Own)(h:Hp):AT 190 [.sl W0 o []] h (.sl 4 .no []):=by
 intro C es hI ha;obtain⟨c,es',rfl,h1,h2⟩:=repL_cons.1 ha;rw[azp]at h2;subst h2;obtain⟨a,cap,rfl,_,_,_⟩:=rep_sl.1 h1;refine(bj8 a cap C.w).mono ?_;rintro e w' ⟨⟨a',c',rfl⟩,hb⟩;obtain⟨i1,s1⟩:=aq8 hI hb;exact⟨C.at w',h,.sl 4 .no [],_,rfl,rfl,i1,s1,rep_sl.2 ⟨a',c',rfl,ZB _,by unfold RepRows;trivial,trivial⟩,rfl,rfl⟩
theorem bqg(o:Own)(rows:List (List A))(h0:rows≠[])(hbig:rows.length*48<=140737488355328)(hmax:rows.length<=maxLen)(h:Hp):
  AC 190 [.sl 4 o rows] h fun v h'=>v=.bs h.b.length 4 rows.length/\h'=⟨h.b++[.row 209 rows.flatten],h.t⟩:=by
 intro C es hI ha;obtain⟨c,es',rfl,h1,h2⟩:=repL_cons.1 ha;rw[azp]at h2;subst h2;have hpos:0<rows.length:=YA.2 h0;obtain⟨g,off,cap,cs,rfl,k1,k2,k3,k4,k5⟩:=awe h1 hpos;refine(bvz g off rows.length cap cs C.w k2 hpos hbig hmax k5 (aqo k1 (aj6 k3))).mono ?_;rintro e w' ⟨v',rfl,hown,hb⟩;rcases hown.2 with⟨_,hz⟩|⟨g',cap',cur,rfl,hg,hh,hcap,hcm,hcs,htake⟩
 ·omega
 ·have hcur:cur=(cs++cur.toList.drop (rows.length*4)).toArray:=by
   apply Ya.1;rw[<-htake];simp
  rw[hcur]at hh;obtain⟨C',m1,m2,m3,m4,m5,m6⟩:=ajd hI hb hg hh k1;exact⟨C',_,.bs h.b.length 4 rows.length,_,rfl,m1,m2,m3,rep_bs.2 ⟨cap',by rw[m4],hcap,m5,hcm,by rw[m6,<-hcs];exact Nat.le_of_eq (congrArg Array.size hcur)⟩,rfl,rfl⟩
end AX
namespace AX
theorem setCells_eq:∀(xs l:List A) (off:Nat),off+xs.length<=l.length->setCells l off xs=l.take off++xs++l.drop (off+xs.length):=by
 intro xs;induction xs with
 |nil=>intro l off _;simp[setCells]
 |cons x xs ih=>
  intro l off hlt;rw[Zf]at hlt;rw[setCells,ih _ _ (by simp;omega),List.take_add_one,YE (by omega),List.take_set_of_le (Ze _),List.drop_set_of_lt (by omega)];simp[show off+1+xs.length=off+(xs.length+1) by omega]
def bareS(s:Adr.Step):Adr.Step:=⟨s.name,Adr.K.none⟩
def barL(mods:List Adr.Step)(j:Nat):List A:=(((mods.take j).map bareS).map Adr.Step.cells).flatten++((mods.drop j).map Adr.Step.cells).flatten
theorem awm(l:List Adr.Step):((l.map Adr.Step.cells).flatten).length=l.length*4:=by
 induction l with
 |nil=>rfl
 |cons x l ih=>rw[ZM,ZP,Za,ih];simp[Adr.Step.cells];omega
theorem bwd(mods:List Adr.Step)(j:Nat)(hj:j<=mods.length):(barL mods j).length=mods.length*4:=by
 unfold barL;rw[Za,awm,awm,Zh,Zk,ZC,<-YB];congr 1;omega
theorem cwn(mods:List Adr.Step)(j:Nat)(hj:j<mods.length):setCells (barL mods j) (j*4+1) [.int .i64 0,.int .i64 0,.str []]=barL mods (j+1):=by
 rw[setCells_eq _ _ _ (by rw[bwd _ _ (by omega)];simp;omega)];have hp:((((mods.take j).map bareS).map Adr.Step.cells).flatten).length=j*4:=by
  rw[awm,Zh,Zk];congr 1;omega
 have hd:mods.drop j=mods[j]::mods.drop (j+1):=Zu hj;have ht:mods.take (j+1)=mods.take j++[mods[j]]:=by rw[Z3 hj]
 unfold barL;rw[hd,ht,Z6,Z6,List.flatten_append];generalize (((mods.take j).map bareS).map Adr.Step.cells).flatten=p at hp;obtain⟨nm,⟨kd,kn,ks⟩⟩:=mods[j];simp only[ZM,ZP,Adr.Step.cells,ZE,Zq,Zf,Zo];generalize ((mods.drop (j+1)).map Adr.Step.cells).flatten=q;rw[List.take_append,Zy (by omega),List.drop_append,ZQ (by omega),hp];rw[show j*4+1-j*4=1 by omega,show j*4+1+(0+1+1+1)-j*4=4 by omega];simp[bareS,Adr.K.none,Adr.Step.cells]
theorem cjv(a:Adr.Ad)(hn:a.mods.length<=3000000)(h:Hp):AT 177 [.agg a.cells] h (.agg (Adr.bare a).cells):=by
 obtain⟨mods,data,ty,nm,⟨kk,kn,ks⟩⟩:=a;dsimp only at hn;have hbc:(Adr.bare ⟨mods,data,ty,nm,⟨kk,kn,ks⟩⟩).cells=[.sl 4 .no ((mods.map fun s=>(⟨s.name,Adr.K.none⟩:Adr.Step)).map Adr.Step.cells),.bool data,.str ty,.str nm,.int .i64 0,.int .i64 0,.str []]:=rfl;rw[hbc];refine pcallz ?_ (by simp[A.pure,A.data,Adr.Ad.cells]) h;refine fo ?_;dsimp only[Adr.Ad.cells];by_cases hm:mods=[]
 ·subst hm;have hc:=fun h=>ayl 4 .no h
  have hz:¬(0:Int)<((0:Nat):Int):=by decide
  simp only[Yn];refine aza ti ?_;refine use (hc _) ?_;refine aza ti ?_;refine ajx ?_;refine aza hz ?_;exact⟨_,le_refl _,_,rfl,⟨.inl ⟨rfl,rfl⟩,.inl ⟨rfl,rfl⟩,.inl ⟨rfl,rfl⟩,.inl ⟨rfl,rfl⟩,.inl ⟨rfl,rfl⟩,.inl ⟨rfl,rfl⟩,.inl ⟨rfl,rfl⟩,trivial⟩⟩
 ·have hrne:mods.map Adr.Step.cells≠[]:=by simpa using hm
  have lm:(mods.map Adr.Step.cells).length=mods.length:=Zh ..;have hc:=fun h=>bqg .no (mods.map Adr.Step.cells) hrne (by rw[lm];omega) (by rw[lm];unfold maxLen;omega) h
  rw[lm]at hc;refine aza ti ?_;refine use (hc _) ?_;refine aza ti ?_;have hL0:(mods.map Adr.Step.cells).flatten=barL mods 0:=by unfold barL;simp
  rw[hL0];refine azg (fun mm ts h=>∃(j:Nat) (B0:Blk),mm=mods.length-j/\j<=mods.length/\h=⟨[B0,.cells 180 [.sl 0 .nil [],.bool false,.str [],.str [],.int .i64 0,.int .i64 0,.str []],.cells 180 [.bs 3 4 mods.length,.bool data,.str ty,.str nm,.int .i64 0,.int .i64 0,.str []],.row 209 (barL mods j)],[]⟩/\ts 2=.ptr 1 0/\ts 3=.ptr 2 0/\ts 14=.int .i64 (mods.length:Nat)/\ts 15=.int .i64 (j:Nat)) mods.length ?_ ?_
  ·exact⟨0,_,by omega,by omega,rfl,by(exact ev0 ti),by(exact ev0 ti),by(exact ev0 ti),by(exact azv ti)⟩
  rintro mm ts h ⟨j,B0,rfl,hjc,rfl,t2,t3,t14,t15⟩;by_cases hj:j<mods.length
  ·have hlt:(j:Int)<(mods.length:Int):=by omega
   have hj0:(0:Int)<=(j:Int):=by omega
   have ei:IntKind.i64.wrap ((j:Int)+1)=((j+1:Nat):Int):=by rw[wrap64 (by omega) (by omega)];omega
   have hset:=cwn mods j hj;have hln:j*4+1+3<=(barL mods j).length:=by rw[bwd _ _ (by omega)];omega
   simp only[setCells]at hset;refine aza (ai t2 (ai t3 (ai t14 (ai t15 (ai hlt (ai hj0 (ai hln (ai hset ei)))))))) ?_;exact⟨mods.length-(j+1),by omega,j+1,B0,rfl,by omega,rfl,by(exact ev0 t2),by(exact ev0 t3),by(exact ev0 t14),by(exact ev0 ei)⟩
  ·have hlt:¬((j:Int)<(mods.length:Int)):=by omega
   have hje:j=mods.length:=by omega
   subst hje;refine aza (ai t2 (ai t3 (ai t14 (ai t15 hlt)))) ?_;refine⟨_,le_refl _,_,rfl,⟨.inr ⟨3,4,209,(mods.map bareS).map Adr.Step.cells,by simp,?_,rfl,?_,?_⟩,.inl ⟨rfl,rfl⟩,.inl ⟨rfl,rfl⟩,.inl ⟨rfl,rfl⟩,.inl ⟨rfl,rfl⟩,.inl ⟨rfl,rfl⟩,.inl ⟨rfl,rfl⟩,trivial⟩⟩
   ·show some (Blk.row _ _)=some _
    congr 2;unfold barL;simp
   ·intro r hr;obtain⟨s,_,rfl⟩:=ZW.1 hr;rfl
   ·rw[List.all_flatten,ZD];intro r hr;obtain⟨s,_,rfl⟩:=ZW.1 hr;rfl
end AX
def BWtr(B b:Nat)(l:List UInt8)(w:World):Prop:=
 B<=b/\∃p v,(p=.pointer none\/p=.pointer (some ⟨b,0,none⟩))/\w.heap[b]?=some (.cells #[p,v] 192 (0,0))/\w.ownsRowF B 5 1 v l.length (Lib.byteCells l)/\v.ownBlock≠some b
def BWtrU(B b:Nat)(l:List UInt8)(w:World):Prop:=
 B<=b/\∃v,w.heap[b]?=some (.cells #[.pointer (some ⟨b,0,none⟩),v] 192 (0,0))/\w.ownsRowF B 5 1 v l.length (Lib.byteCells l)/\v.ownBlock≠some b
theorem byf(b:Nat)(w:World)(h0:w.cell? ⟨b,0,none⟩=some (.pointer none))(hsh:w.shape? b=some (192,2))(hfz:w.frozen? ⟨b,0,none⟩=false):
  Calls Tryz.prog 184 #[.pointer (some ⟨b,0,none⟩)] w fun e w'=>e=.returned (.tuple #[])/\w'=w.setCell ⟨b,0,none⟩ (.pointer (some ⟨b,0,none⟩)):=by
 obtain⟨j,hj,hjs⟩:=Zv.1 (show(Tryz.prog.info? 192).map (·.size)=some 2 by kernel_rfl);have hlies:liesAt Tryz.prog Tryz.prog.depth 192 (2/Tryz.prog.cellsOf 192) 0 192 1=true:=by kernel_rfl
 go_enter Tryz.func184,Tryz.ntmps184;go_wp2;rw[Lib.run_to_unsafe w ⟨b,0,none⟩ Tryz.underlying189 Tryz.underlying254 hj (by rw[hjs];decide) hsh (by show 0<2;omega)];simp only[Result.andThen];rw[Oper.upon_value];go_wp2;rw[run_callFunc_extern Tryz.func203 (by kernel_rfl) (by kernel_rfl) (by kernel_rfl) (e:=Extern.AbiNoEscape.same) (by kernel_rfl)];rw[Lib.run_noEscape];simp only[Result.andThen];rw[Oper.upon_value];go_wp2;rw[Lib.run_from_unsafe w ⟨b,0,none⟩ Tryz.underlying254 Tryz.underlying189 hj hsh hlies];simp only[Result.andThen];rw[Oper.upon_value];go_wp2
 go_end0
 exact⟨rfl,rfl⟩
theorem aq9{w:World}{b:Nat}{p v:Value}{T:TypeId}(h:w.heap[b]?=some (.cells #[p,v] T (0,0))):w.cell? ⟨b,0,none⟩=some p/\w.cell? ⟨b,1,none⟩=some v/\(∀i,w.frozen? ⟨b,i,none⟩=false)/\w.shape? b=some (T,2)/\b<w.heap.size:=by
 refine⟨?_,?_,fun i=>?_,?_,(ZS.1 h).1⟩
 ·rw[cell_of_row _ _ _ _ _ _ h];rfl
 ·rw[cell_of_row _ _ _ _ _ _ h];rfl
 ·simp[World.frozen?,h]
 ·simp[World.shape?,h]
theorem BWtr.used{B b:Nat}{l:List UInt8}{w:World}{p v:Value}(hB:B<=b)(hb:w.heap[b]?=some (.cells #[p,v] 192 (0,0)))(hown:w.ownsRowF B 5 1 v l.length (Lib.byteCells l))(hne:v.ownBlock≠some b):
  BWtrU B b l (w.setCell ⟨b,0,none⟩ (.pointer (some ⟨b,0,none⟩))):=by
 refine⟨hB,v,?_,?_,hne⟩
 ·simp[World.setCell,Ys,hb]
 ·exact hown.kept (row:=some b) ⟨rfl,rfl,rfl,by simp[World.setCell],fun k _ hk=>Below.heap_setCell _ _ _ _ (fun e=>hk (by simp[e]))⟩ (Or.inr hne)
def BF(F:Nat->Prop)(b:Nat)(l:List UInt8)(w:World):Prop:=
 ∃p v,(p=.pointer none\/p=.pointer (some ⟨b,0,none⟩))/\w.heap[b]?=some (.cells #[p,v] 192 (0,0))/\w.ownsRowF 0 5 1 v l.length (Lib.byteCells l)/\v.ownBlock≠some b/\F b/\∀k,v.ownBlock=some k->F k
theorem cwm{F:Nat->Prop}{b:Nat}{l:List UInt8}{w:World}(h:BF F b l w):
  Calls Tryz.prog 184 #[.pointer (some ⟨b,0,none⟩)] w fun e w'=>e=.returned (.tuple #[])/\(∃v,w'.heap[b]?=some (.cells #[.pointer (some ⟨b,0,none⟩),v] 192 (0,0))/\w'.ownsRowF 0 5 1 v l.length (Lib.byteCells l)/\v.ownBlock≠some b/\F b/\∀k,v.ownBlock=some k->F k)/\Fr F w w':=by
 obtain⟨p,v,hp,hb,hown,hne,hF,hFk⟩:=h;obtain⟨c0,c1,hf,hsh,hlt⟩:=aq9 hb;rcases hp with rfl|rfl
 ·refine(byf b w c0 hsh (hf 0)).mono ?_;rintro e w' ⟨rfl,rfl⟩;obtain⟨_,v',hb',hown',hne'⟩:=BWtr.used (B:=0) (ZB _) hb hown hne;have hv:v'=v:=by
   have:=(aq9 hb').2.1;have h2:(w.setCell ⟨b,0,none⟩ (.pointer (some ⟨b,0,none⟩))).heap[b]?=some (.cells #[.pointer (some ⟨b,0,none⟩),v] 192 (0,0)):=by simp[World.setCell,Ys,hb]
   have h3:=(aq9 h2).2.1;rw[h3]at this;injection this with this;exact this.symm
  subst hv;exact⟨rfl,⟨v',hb',hown',hne',hF,hFk⟩,Fr.set w b 0 _ hF⟩
 ·refine(Any.Builder_copyCheck_used Tryz.lays240 Tryz.Builder_X72_240 b w c0).mono ?_;rintro e w' ⟨rfl,rfl⟩;exact⟨rfl,⟨v,hb,hown,hne,hF,hFk⟩,Fr.refl F _⟩
theorem cv3{F:Nat->Prop}{b:Nat}{l:List UInt8}{w:World}(h:BF F b l w)(s:List UInt8)(hlen:l.length+s.length<=1000000000):
  Calls Tryz.prog 166 #[.pointer (some ⟨b,0,none⟩),.string ⟨s.toArray⟩] w fun e w'=>e=.returned (.tuple #[.int .i64 s.length,.nilIface])/\BF (fun k=>F k\/w.heap.size<=k) b (l++s) w'/\Fr F w w':=by
 obtain⟨i0,hi,hz0,hz1,hz2⟩:=info_parts bxe;go_enter Tryz.func166,Tryz.ntmps166;go_wp2_with fail;(with_reducible refine(cwm h).mono ?_);rintro e w1 ⟨rfl,⟨v,hbk,hown,hne,hF,hFk⟩,hb1⟩;obtain⟨c0,c1,hf,hsh,hlt⟩:=aq9 hbk;go_wp2_with (at_builtin;refine ax9 _ rfl _ _ 190 9 rfl 5 i0 Tryz.underlying190 Tryz.underlying9 hi hz0 hz1 hz2 _ _ _ rfl hown ⟨s.toArray⟩ rfl ?c3 ?c4 ?_)
 case c3=>rw[size_mk];unfold maxLen;omega
 case c4=>rw[size_mk];omega
 intro v' w2 hown' hgrow hwhere;have hb2:w2.heap[b]?=some (.cells #[.pointer (some ⟨b,0,none⟩),v] 192 (0,0)):=(hgrow.block b hlt (fun e=>hne e.symm)).trans hbk;obtain⟨d0,d1,hf2,_,hlt2⟩:=aq9 hb2;have f1:=hf2 1;have hown2:w2.ownsRowF 0 5 1 v' (l++s).length (Lib.byteCells (l++s)):=by
  have e1:(⟨s.toArray⟩:ByteArray).size=s.length:=size_mk s;have e2:Lib.byteCells l++Lib.strCells ⟨s.toArray⟩=Lib.byteCells (l++s):=by unfold Lib.strCells Lib.byteCells;simp
  rw[Za,<-e2,<-e1];exact hown'
 have hne2:=Lib.ownBlock_neF hown2 hb2 (show 192≠5 by decide);have hwb1:=hb1.size
 have Hfin:=kept (show BF (fun k=>F k\/w.heap.size<=k) b (l++s) (w2.setCell ⟨b,1,none⟩ v')from by
  refine⟨_,v',.inr rfl,?_,?_,hne2,.inl hF,fun k hk=>?_⟩
  ·simp[World.setCell,Ys,hb2]
  ·exact hown2.kept (row:=some b) ⟨rfl,rfl,rfl,by simp[World.setCell],fun k _ hk=>Below.heap_setCell _ _ _ _ (fun e=>hk (by simp[e]))⟩ (Or.inr hne2)
  ·rcases hwhere k hk with h1|h1
   ·exact .inl (hFk k h1)
   ·exact .inr (by omega))
 have Hfr:=kept ((hb1.trans (Fr.grown hgrow fun k hk=>hFk k hk)).trans (Fr.set w2 b 1 v' hF));obtain⟨ao,n',cap,rfl⟩:∃ao n' cap,v'=.slice ao n' cap:=by
  rcases hown'.2 with⟨hv,_⟩|⟨g,cap,cur,fz,hv,_⟩
  ·exact⟨_,_,_,hv⟩
  ·exact⟨_,_,_,hv⟩
 clear hown' hown2 hne2 hb2 hbk hown hne hgrow hb1 h hwhere;go_wp2
 go_ret2
 exact⟨by simp,Hfin.out,Hfr.out⟩
theorem cxp{F:Nat->Prop}{b:Nat}{l:List UInt8}{w:World}(h:BF F b l w)(h0:l≠[]):
  Calls Tryz.prog 146 #[.pointer (some ⟨b,0,none⟩)] w fun e w'=>e=.returned (.string ⟨l.toArray⟩)/\Fr F w w':=by
 obtain⟨p,v,hp,hbk,hown,hne,hFb,hFk⟩:=h;have hl0:l.length≠0:=by simpa using h0
 obtain⟨g,cap,cur,fz,rfl,hbg,hg,hfz,hnc,hcm,hcs,htake⟩:∃g cap cur fz,v=.slice (some ⟨g,0,none⟩) l.length cap/\0<=g/\w.heap[g]?=some (.cells cur 5 fz)/\fz.2<=l.length*1/\l.length<=cap/\cap<=maxLen/\cur.size=cap*1/\cur.toList.take (l.length*1)=Lib.byteCells l:=by
  rcases hown.2 with⟨_,hz⟩|⟨g,cap,cur,fz,hv,r⟩
  ·exact absurd hz hl0
  ·exact⟨g,cap,cur,fz,hv,r⟩
 have HFg:=kept (hFk g rfl);have c1:w.drew.cell? ⟨b,1,none⟩=some (.slice (some ⟨g,0,none⟩) l.length cap):=(aq9 hbk).2.1;have hSD:(Builtin.unsafeSliceData_ #[190] 223 #[.slice (some ⟨g,0,none⟩) l.length cap]).run Tryz.prog w.drew=.ok (.pointer (some ⟨g,0,none⟩)) w.drew:=
  Lib.run_unsafeSliceData_row _ _ _ _ _ _ (by omega)
 have hUS:(Builtin.unsafeString_ #[223,3] 9 #[.pointer (some ⟨g,0,none⟩),.int .i64 l.length]).run Tryz.prog w.drew=.ok (.string ⟨l.toArray⟩) (w.drew.freeze ⟨g,0,none⟩ l.length):=by
  refine Lib.run_unsafeString_row w.drew 223 3 9 5 Tryz.underlying223 Tryz.Builder_Extra_169.cellsByte g cur.size (by have hg':w.drew.heap[g]?=some (.cells cur 5 fz):=hg;simp[World.shape?,hg']) l h0 (by omega) (by unfold maxLen at hcm;omega) ?_;intro j x hx;have:=hown.cells (g:=g) rfl j (.int .u8 x.toNat) (by simp[Lib.byteCells,hx]);exact this
 have Hfr:=kept (show Fr F w (w.drew.freeze ⟨g,0,none⟩ l.length)from by
  unfold World.freeze;split
  ·exact⟨rfl,rfl,rfl,Ze _,fun _ _ _=>rfl⟩
  ·refine⟨rfl,rfl,rfl,by simp,fun k hk hn=>?_⟩;have hkg:k≠g:=fun e=>hn (by rw[e];exact HFg.out)
   simp only[Ys,if_neg hkg.symm];rfl)
 clear hown hp hne hbk hnc hcm hcs htake hfz hg hl0 h0 hFk hFb;have mixed:=Tryz.lays169.mixed;go_enter Tryz.func146,Tryz.ntmps146;go_wp2
 go_region_o
 all_goals (go_wp2;go_ret;exact⟨rfl,Hfr.out⟩)
namespace AX
def bwt(l:List UInt8):Blk:=.opq (fun F g w=>BF F g l w) (fun _=>none)
def Bt(h:Hp)(i:Nat)(l:List UInt8):Prop:=h.b[i]?=some (bwt l)\/(l=[]/\h.b[i]?=some (.cells 192 [.nilp,.sl 0 .nil []]))
theorem BF.stable{F:Nat->Prop}{b:Nat}{l:List UInt8}{w w':World}(h:BF F b l w)(hs:∀g,F g->w'.heap[g]?=w.heap[g]?):BF F b l w':=by
 obtain⟨p,v,hp,hb,hown,hne,hF,hFk⟩:=h;refine⟨p,v,hp,(hs b hF).trans hb,⟨hown.1,?_⟩,hne,hF,hFk⟩;rcases hown.2 with h1|⟨g,cap,cur,fz,rfl,h2,h3,h4⟩
 ·exact .inl h1
 ·exact .inr ⟨g,cap,cur,fz,rfl,h2,(hs g (hFk g rfl)).trans h3,h4⟩
theorem Bt.lt{h:Hp}{i:Nat}{l:List UInt8}(hw:Bt h i l):i<h.b.length:=by
 rcases hw with h1|⟨_,h1⟩
 ·exact(Zb.1 h1).1
 ·exact(Zb.1 h1).1
theorem Bt.live{h:Hp}{i:Nat}{l:List UInt8}(hw:Bt h i l):∃b0:Blk,h.b[i]?=some b0/\b0.live=true:=by
 rcases hw with h1|⟨_,h1⟩<;>exact⟨_,h1,rfl⟩
theorem Bt.bf{h:Hp}{i:Nat}{l:List UInt8}{C:Ctx}{G:World->Prop}(hw:Bt h i l)(hI:Inv G C h):BF (fun g=>C.own g=some (C.lab i)) (C.κ i) l C.w:=by
 have hi:i<C.nb:=by rw[<-hI.nb];exact hw.lt
 rcases hw with h1|⟨rfl,h1⟩
 ·exact(hI.box i _ h1).1 C.w (fun _ _=>rfl) (Ze _)
 ·obtain⟨cs,k1,k2⟩:=hI.box i _ h1;obtain⟨c0,d0,rfl,e0,k2⟩:=repL_cons.1 k2;obtain⟨c1,d1,rfl,e1,k2⟩:=repL_cons.1 k2;rw[azp]at k2;subst k2;rw[az2]at e0;subst e0;obtain⟨a,cap,rfl,_,_,e3,e4,_⟩:=rep_sl.1 e1;subst e3;subst e4;exact⟨_,_,.inl rfl,k1,⟨rfl,.inl ⟨rfl,rfl⟩⟩,by simp[Value.ownBlock],hI.ok h1 rfl,fun k hk=>by simp[Value.ownBlock]at hk⟩
theorem cvx{C:Ctx}{i:Nat}{l:List UInt8}(h:BF (fun g=>C.own g=some (C.lab i)) (C.κ i) l C.w):BlkRep C i (bwt l):=by
 refine⟨fun w' hw _=>BF.stable h hw,fun o x hx=>?_⟩;cases hx
theorem akn{h:Hp}{i:Nat}{l:List UInt8}(hw:Bt h i l)(s:List UInt8)(hlen:l.length+s.length<=1000000000):
  AC 166 [.ptr i 0,.str s] h fun v h'=>v=.tup [.int .i64 s.length,.nili]/\h'=⟨h.b.set i (bwt (l++s)),h.t⟩:=by
 intro C es hI ha;obtain⟨c,es',rfl,h1,h2⟩:=repL_cons.1 ha;obtain⟨rfl,hi⟩:=rep_ptr.1 h1;obtain rfl:=aj3 axh C es' h2;refine(cv3 (hw.bf hI) s hlen).mono ?_;rintro e w' ⟨rfl,m1,m2⟩;have hrep:BlkRep (C.turn w' i true) i (bwt (l++s)):=by
  refine cvx ?_;obtain⟨p,v,hp,hb,hown,hne,hF,hFk⟩:=m1;have hlt:=(aq9 hb).2.2.2.2;have hcl:∀k,k<w'.heap.size->(C.own k=some (C.lab i)\/C.w.heap.size<=k)->(C.turn w' i true).own k=some (C.lab i):=fun k hk hor=>by
   show(if k<C.w.heap.size then C.own k else if true=true/\k<w'.heap.size then some (C.lab i)else none)=some (C.lab i)
   split
   ·rcases hor with h3|h3
    ·exact h3
    ·omega
   ·rw[if_pos ⟨rfl,hk⟩]
  refine⟨p,v,hp,hb,hown,hne,hcl _ hlt hF,fun k hk=>hcl k ?_ (hFk k hk)⟩;rcases hown.2 with⟨rfl,_⟩|⟨g,cap,cur,fz,rfl,_,h3,_⟩
  ·simp[Value.ownBlock]at hk
  ·simp only[Value.ownBlock,Zc]at hk;subst hk;exact(ZS.1 h3).1
 obtain⟨i1,s1⟩:=aqx (b':=bwt (l++s)) true hI (hw.live).choose_spec.1 (hw.live).choose_spec.2 m2.os m2.tape m2.output m2.size (fun g hg hne=>m2.block g hg hne) (fun _=>hrep);exact⟨_,_,.tup [.int .i64 s.length,.nili],_,rfl,rfl,i1,s1,rep_tup.2 ⟨_,rfl,repL_cons.2 ⟨_,_,rfl,rep_int.2 rfl,repL_cons.2 ⟨_,_,rfl,bk9.2 rfl,azp.2 rfl⟩⟩⟩,rfl,rfl⟩
theorem bxs{h:Hp}{i:Nat}{l:List UInt8}(hw:Bt h i l)(h0:l≠[]):AC 146 [.ptr i 0] h fun v h'=>v=.str l/\h'=⟨h.b.set i dead,h.t⟩:=by
 intro C es hI ha;obtain⟨c,es',rfl,h1,h2⟩:=repL_cons.1 ha;obtain⟨rfl,hi⟩:=rep_ptr.1 h1;rw[azp]at h2;subst h2;refine(cxp (hw.bf hI) h0).mono ?_;rintro e w' ⟨rfl,m2⟩;obtain⟨i1,s1⟩:=aqx (b':=dead) false hI (hw.live).choose_spec.1 (hw.live).choose_spec.2 m2.os m2.tape m2.output m2.size (fun g hg hne=>m2.block g hg hne) (fun _=>⟨fun _ _ _=>trivial,fun o x hx=>by cases hx⟩);exact⟨_,_,.str l,_,rfl,rfl,i1,s1,rep_str.2 rfl,rfl,rfl⟩
def ak2:AX.AFn:=⟨17,aS [aR 2 (.mv (.c (.str []))),aR 3 (.mv (aI 0))] (aS [aM 7 0,aR 8 (.call 136 [.t 7]),aM 6 8,aE 9 6 0,aE 10 6 1,aR 4 (.alloc 180 [.sl 0 .nil [],.bool false,.str [],.str [],.int .i64 0,.int .i64 0,.str []]),aU (.store 7 (.t 4) (.t 9)),aM 5 10] (.seq (aS [aM 11 5,aR 12 (.bin .neq (.t 11) (aI 0))] (.cond (.t 12) (aS [aM 13 5,aR 2 (.mv (.c (.str []))),aM 3 13] (.ret)) (.skip))) (aS [aR 14 (.load true 7 (.t 4)),aR 15 (.call 177 [.t 14]),aR 16 (.call 176 [.t 15]),aM 2 16,aR 3 (.mv (aI 0))] (.ret)))),[.t 2,.t 3]⟩
theorem cz1:AX.compFn Tryz.prog 156=some ak2:=by kernel_rfl
structure Adr.In(a:Adr.Ad):Prop where
 n:a.mods.length<=3000000
 m:∀s∈a.mods,s.name.length<=2000000/\s.key.str.length<=2000000
 t:a.type.length<=2000000
 nm:a.name.length<=2000000
 k:a.key.str.length<=2000000
theorem ckt(a:Adr.Ad)(hi:Adr.In a)(h:Hp):AT 188 [.agg a.cells] h (.int .i64 (Adr.check a)):=by
 obtain⟨mods,data,ty,nm,⟨kk,kn,ks⟩⟩:=a;obtain⟨hn,hm,ht,ha,hk⟩:=hi;dsimp only at hn hm ht ha hk;refine pcall ?_ rfl (by simp[A.pure,A.data,Adr.Ad.cells]) h;refine fo ?_;dsimp only[Adr.Ad.cells];have lm:(mods.map Adr.Step.cells).length=mods.length:=Zh ..;obtain⟨Z,hZ⟩:=Ex (Adr.check ⟨mods,data,ty,nm,⟨kk,kn,ks⟩⟩);rw[hZ];unfold Adr.check at hZ;dsimp only at hZ;by_cases h16:(mods.length:Int)>16
 ·rw[if_pos (by omega)]at hZ;subst hZ;refine aza (ai lm h16) ?_;exact Fn rfl
 rw[if_neg (by omega)]at hZ;have ck:=fun h=>cyf ty ht h
 have ci:=fun h=>ajy nm (Zr ha (by decide)) h
 have cv:=fun h=>bqn ⟨kk,kn,ks⟩ hk h
 unfold Adr.K.A at cv;dsimp only at cv;refine aza (ai lm h16) ?_
 refine azg (fun mm ts h=>∃(j:Nat) (l:List Blk),mm=mods.length-j/\j<=mods.length/\h=⟨.cells 180 [.sl 4 .no (mods.map Adr.Step.cells),.bool data,.str ty,.str nm,.int .i64 kk,.int .i64 kn,.str ks]::l,[]⟩ /\
  (match (mods.drop j).find? (fun s=>!(Adr.ident s.name&&Adr.keyOk s.key))with
  |some s=>if Adr.ident s.name then(1:Int)else 7
  |none=>if !Adr.kindB ty||!Adr.ident nm then 7 else if !Adr.keyOk ⟨kk,kn,ks⟩then 1 else 0)=Z /\
  ts 1=.ptr 0 0/\ts 10=.sl 4 .no (mods.map Adr.Step.cells)/\ts 11=.int .i64 (mods.length:Nat)/\ts 12=.int .i64 (j:Nat)) mods.length ?_ ?_
 ·exact⟨0,[],by omega,by omega,rfl,hZ,by(exact ev0 ti),by(exact ev0 ti),by(exact ev0 lm),by(exact azv ti)⟩
 rintro mm ts h ⟨j,l,rfl,hjc,rfl,hit,t1,t10,t11,t12⟩;by_cases hj:j<mods.length
 ·have hlt:(j:Int)<(mods.length:Int):=by omega
  have hlt':(j:Int)<((mods.map Adr.Step.cells).length:Int):=by rw[lm];exact hlt
  have hj0:(0:Int)<=(j:Int):=by omega
  have ei:IntKind.i64.wrap ((j:Int)+1)=((j+1:Nat):Int):=by rw[wrap64 (by omega) (by omega)];omega
  have hg:=az0 Adr.Step.cells mods j hj;have hmj:=hm _ (Zl hj);rw[Zu hj,List.find?_cons]at hit;obtain⟨x,hx⟩:=Ex (mods[j]);rw[hx]at hg hmj hit;obtain⟨xn,⟨xk,xm,xs⟩⟩:=x;dsimp only[Adr.Step.cells]at hg hmj hit;have cxi:=fun h=>ajy xn (Zr hmj.1 (by decide)) h
  have cxv:=fun h=>bqn ⟨xk,xm,xs⟩ hmj.2 h
  unfold Adr.K.A at cxv;dsimp only at cxv;obtain⟨I,hI⟩:=Ex (Adr.ident xn);obtain⟨K,hK⟩:=Ex (Adr.keyOk ⟨xk,xm,xs⟩);rw[hI]at cxi hit;rw[hK]at cxv hit;refine aza (ai t1 (ai t10 (ai t11 (ai t12 (ai hlt (ai hlt' (ai hj0 hg))))))) ?_;refine use (cxi _) ?_;cases I
  ·simp only[Z7,Z9]at hit;rw[hI]at hit;simp only[Zn,if_false]at hit;subst hit;refine aza (ai t1 (ai t10 (ai t11 t12))) ?_;exact Fn rfl
  refine aza (ai t1 (ai t10 (ai t11 t12))) ?_;refine use (cxv _) ?_;cases K
  ·simp only[Zad,Z9]at hit;rw[hI]at hit;simp only[if_true]at hit;subst hit;refine aza (ai t1 (ai t10 (ai t11 t12))) ?_;exact Fn rfl
  ·simp only[ZX,Yc]at hit;refine aza (ai t1 (ai t10 (ai t11 (ai t12 ei)))) ?_;exact⟨mods.length-(j+1),by omega,j+1,_,rfl,by omega,rfl,hit,by(exact ev0 t1),by(exact ev0 t10),by(exact ev0 t11),by(exact ev0 ei)⟩
 ·have hlt:¬((j:Int)<(mods.length:Int)):=by omega
  rw[YS (by omega)]at hit;simp only[List.find?_nil]at hit;refine aza (ai t1 (ai t10 (ai t11 (ai t12 hlt)))) ?_;refine use (ck _) ?_;cases hkb:Adr.kindB ty
  ·rw[hkb]at hit;rw[if_pos (by simp)]at hit;subst hit;refine aza (ai t1 (ai t10 (ai t11 t12))) ?_;exact Fn rfl
  rw[hkb]at hit;refine aza (ai t1 (ai t10 (ai t11 t12))) ?_;refine use (ci _) ?_;cases hib:Adr.ident nm
  ·rw[hib]at hit;rw[if_pos (by simp)]at hit;subst hit;refine aza (ai t1 (ai t10 (ai t11 t12))) ?_;exact Fn rfl
  rw[hib]at hit;rw[if_neg (by simp)]at hit;refine aza (ai t1 (ai t10 (ai t11 t12))) ?_;refine use (cv _) ?_;cases hvb:Adr.keyOk ⟨kk,kn,ks⟩
  ·rw[hvb]at hit;rw[if_pos (by simp)]at hit;subst hit;refine aza (ai t1 (ai t10 (ai t11 t12))) ?_;exact Fn rfl
  ·rw[hvb]at hit;rw[if_neg (by simp)]at hit;subst hit;refine aza (ai t1 (ai t10 (ai t11 t12))) ?_;exact Fn rfl
theorem bxi(h:Hp):AT 189 [.agg [.int .i64 0,.int .i64 0,.str []]] h (.str []):=by
 refine pcall ?_ rfl (by simp[A.pure,A.data]) h;refine fo ?_;have cv:=fun h=>bqn Adr.K.none (by unfold Adr.K.none;simp) h
 have e1:Adr.keyOk Adr.K.none=true:=by decide
 rw[e1]at cv;unfold Adr.K.A Adr.K.none at cv;dsimp only at cv;refine aza ti ?_;refine use (cv _) ?_;refine aza ti ?_;exact Fn rfl
def Bw(acc:List UInt8)(w:Blk):Prop:=w=bwt acc\/(acc=[]/\w=.cells 192 [.nilp,.sl 0 .nil []])
theorem Bw.bt{acc:List UInt8}{w B0:Blk}{l:List Blk}{t:List (TypeId×Nat×Nat)}(hw:Bw acc w):Bt ⟨B0::w::l,t⟩ 1 acc:=by
 rcases hw with rfl|⟨rfl,rfl⟩
 ·exact .inl rfl
 ·exact .inr ⟨rfl,rfl⟩
def stepB(s:Adr.Step):List UInt8:=Adr.modW++s.name++[46]
theorem ckp(mods:List Adr.Step)(data:Bool)(ty nm:List UInt8)(hk:∀s∈mods,s.key=Adr.K.none)(hc:Adr.check ⟨mods,data,ty,nm,Adr.K.none⟩=0):
  Adr.fmt ⟨mods,data,ty,nm,Adr.K.none⟩=mods.flatMap stepB++(if data then Adr.dataW else[])++(ty++[46]++nm):=by
 have hn:Adr.fmtKey Adr.K.none=[]:=by decide
 unfold Adr.fmt;rw[if_neg (by simp[hc])];dsimp only;rw[hn];have e:Adr.steps mods=mods.flatMap stepB:=by
  unfold Adr.steps;induction mods with
  |nil=>rfl
  |cons x l ih=>
   have hx:=hk x (by simp);have hcl:∀l:List Adr.Step,(∀s∈l,s.key=Adr.K.none)->(l.flatMap fun s=>Adr.modW++s.name++Adr.fmtKey s.key++[46])=l.flatMap stepB:=by
    intro l;induction l with
    |nil=>intro _;rfl
    |cons y l ih=>
     intro hl;rw[YP,YP,ih fun s hs=>hl s (by simp[hs]),hl y (by simp),hn];unfold stepB;simp
   exact hcl _ hk
 rw[e];simp
theorem cvo{α:Type}(f:α->List UInt8)(l:List α)(j:Nat)(hj:j<l.length):(l.take (j+1)).flatMap f=(l.take j).flatMap f++f l[j]:=by
 rw[Z3 hj,Zah];simp
theorem bz3:∀(l:List Adr.Step),(∀s∈l,s.name.length<=2000000)->(l.flatMap stepB).length<=l.length*2000008
 |[],_=>by simp
 |x::l,h=>by
  rw[YP,Za,Zf,Nat.succ_mul];have h1:=bz3 l fun s hs=>h s (by simp[hs])
  have h2:=h x (by simp);have h3:(stepB x).length=x.name.length+8:=by unfold stepB;simp[Adr.modW]<;>omega
  omega
theorem cz3(a:Adr.Ad)(hi:Adr.In a)(hk:∀s∈a.mods,s.key=Adr.K.none)(hkk:a.key=Adr.K.none)(h:Hp):AT 176 [.agg a.cells] h (.str (Adr.fmt a)):=by
 have cc:=fun h=>ckt a hi h
 obtain⟨mods,data,ty,nm,key⟩:=a;dsimp only at hk hkk;subst hkk;have hfb:=ckp mods data ty nm hk;obtain⟨hn,hm,ht,ha,_⟩:=hi;dsimp only at hn hm ht ha;refine pcall ?_ rfl (by simp[A.pure,A.data,Adr.Ad.cells]) h;refine fo ?_;dsimp only[Adr.Ad.cells,Adr.K.none]at cc⊢;have lm:(mods.map Adr.Step.cells).length=mods.length:=Zh ..;by_cases hc0:Adr.check ⟨mods,data,ty,nm,Adr.K.none⟩=0
 rotate_left
 ·have e1:(Adr.check ⟨mods,data,ty,nm,Adr.K.none⟩!=0)=true:=by simp[hc0]
  have hfz:Adr.fmt ⟨mods,data,ty,nm,Adr.K.none⟩=[]:=by unfold Adr.fmt;rw[if_pos hc0]
  unfold Adr.K.none at e1 hfz;refine aza ti ?_;refine use (cc _) ?_;refine aza e1 ?_;exact⟨_,le_refl _,by rw[hfz];rfl⟩
 have e1:(Adr.check ⟨mods,data,ty,nm,Adr.K.none⟩!=0)=false:=by simp[hc0]
 have hf:=hfb hc0;have hn16:mods.length<=16:=by
  rcases Z0 16 mods.length with h16|h16
  ·unfold Adr.check at hc0;rw[if_pos h16]at hc0;exact absurd hc0 (by decide)
  ·exact h16
 have hlenall:=bz3 mods fun s hs=>(hm s hs).1
 unfold Adr.K.none at e1 hf;rw[hf];refine aza ti ?_;refine use (cc _) ?_;refine aza (ai e1 lm) ?_
 refine azg (fun mm ts h=>∃(j:Nat) (w:Blk) (l:List Blk),mm=mods.length-j/\j<=mods.length/\h=⟨.cells 180 [.sl 4 .no (mods.map Adr.Step.cells),.bool data,.str ty,.str nm,.int .i64 0,.int .i64 0,.str []]::w::l,[]⟩/\Bw ((mods.take j).flatMap stepB) w /\
  ts 1=.ptr 0 0/\ts 3=.ptr 1 0/\ts 10=.sl 4 .no (mods.map Adr.Step.cells)/\ts 11=.int .i64 (mods.length:Nat)/\ts 12=.int .i64 (j:Nat)) mods.length ?_ ?_
 ·exact⟨0,_,[],by omega,by omega,rfl,.inr ⟨rfl,rfl⟩,by(exact ev0 ti),by(exact ev0 ti),by(exact ev0 ti),by(exact ev0 lm),by(exact azv ti)⟩
 rintro mm ts h ⟨j,w,l,rfl,hjc,rfl,hw,t1,t3,t10,t11,t12⟩;have hacc:((mods.take j).flatMap stepB).length<=32000128:=by
  have h2:(mods.take j).length<=16:=by rw[Zk];omega
  exact Zr (bz3 (mods.take j) fun s hs=>(hm s (List.mem_of_mem_take hs)).1) (Zr (Ym 2000008 h2) (by decide))
 by_cases hj:j<mods.length
 ·have hlt:(j:Int)<(mods.length:Int):=by omega
  have hlt':(j:Int)<((mods.map Adr.Step.cells).length:Int):=by rw[lm];exact hlt
  have hj0:(0:Int)<=(j:Int):=by omega
  have ei:IntKind.i64.wrap ((j:Int)+1)=((j+1:Nat):Int):=by rw[wrap64 (by omega) (by omega)];omega
  have hg:=az0 Adr.Step.cells mods j hj;have hmj:=hm _ (Zl hj);have hkj:=hk _ (Zl hj);have hsn:=cvo stepB mods j hj;obtain⟨x,hx⟩:=Ex (mods[j]);rw[hx]at hg hmj hkj hsn;obtain⟨xn,xk⟩:=x;dsimp only at hkj;subst hkj;dsimp only[Adr.Step.cells,Adr.K.none]at hg hmj;have hxl:=hmj.1;have hsl:(stepB ⟨xn,Adr.K.none⟩).length=xn.length+8:=by unfold stepB;simp[Adr.modW]<;>omega
  have hse:109::111::100::117::108::101::46::(xn++[46])=stepB ⟨xn,Adr.K.none⟩:=rfl;have l1:7+xn.length<1099511627776:=by omega
  have l2:xn.length+7<1099511627776:=by omega
  have l3:xn.length+7+1<1099511627776:=by omega
  have l4:xn.length+8<1099511627776:=by omega
  have hcw:=fun(z:Blk)=>akn (h:=⟨.cells 180 [.sl 4 .no (mods.map Adr.Step.cells),.bool data,.str ty,.str nm,.int .i64 0,.int .i64 0,.str []]::w::(l++[z]),[]⟩) (i:=1) hw.bt (stepB ⟨xn,Adr.K.none⟩) (by rw[hsl];omega)
  rw[<-hsn]at hcw;have hcf:=fun h=>bxi h
  refine aza (ai t1 (ai t3 (ai t10 (ai t11 (ai t12 (ai hlt (ai hlt' (ai hj0 (ai hg (ai l1 hse)))))))))) ?_;refine use (hcf _) ?_;refine aza (ai t1 (ai t3 (ai t10 (ai t11 (ai t12 (ai l1 (ai l2 (ai l3 (ai l4 hse))))))))) ?_;refine use (hcw _) ?_;refine aza (ai t1 (ai t3 (ai t10 (ai t11 (ai t12 ei))))) ?_;exact⟨mods.length-(j+1),by omega,j+1,_,_,rfl,by omega,rfl,.inl rfl,by(exact ev0 t1),by(exact ev0 t3),by(exact ev0 t10),by(exact ev0 t11),by(exact ev0 ei)⟩
 ·have hlt:¬((j:Int)<(mods.length:Int)):=by omega
  have hje:j=mods.length:=by omega
  subst hje;rw[Yy]at hw hacc;obtain⟨P,hP⟩:=Ex (mods.flatMap stepB);rw[hP]at hw hacc⊢;have hcf:=fun h=>bxi h
  have hdw:Adr.dataW=[100,97,116,97,46]:=rfl;have l1:ty.length+1<1099511627776:=by omega
  have l2:ty.length+1+nm.length<1099511627776:=by omega
  have l3:ty.length+(nm.length+1)<1099511627776:=by omega
  have l4:ty.length+1+nm.length<1099511627776:=by omega
  cases data
  ·have hcw:=akn (h:=⟨.cells 180 [.sl 4 .no (mods.map Adr.Step.cells),.bool false,.str ty,.str nm,.int .i64 0,.int .i64 0,.str []]::w::l,[]⟩) (i:=1) hw.bt (ty++[46]++nm) (by simp;omega);have hcs:=bxs (h:=⟨.cells 180 [.sl 4 .no (mods.map Adr.Step.cells),.bool false,.str ty,.str nm,.int .i64 0,.int .i64 0,.str []]::bwt (P++(ty++[46]++nm))::l,[]⟩) (i:=1) (.inl rfl) (by simp);refine aza (ai t1 (ai t3 (ai t10 (ai t11 (ai t12 (ai hlt (ai l1 (ai l2 l3)))))))) ?_;refine use (hcf _) ?_;refine aza (ai t1 (ai t3 (ai t10 (ai t11 (ai t12 (ai hlt (ai l1 (ai l2 (ai l3 l4))))))))) ?_;refine use hcw ?_;refine aza (ai t1 (ai t3 (ai t10 (ai t11 t12)))) ?_;refine use hcs ?_;refine aza (ai t1 (ai t3 (ai t10 (ai t11 t12)))) ?_;exact⟨_,le_refl _,by simp[azk]⟩
  ·have hcd:=akn (h:=⟨.cells 180 [.sl 4 .no (mods.map Adr.Step.cells),.bool true,.str ty,.str nm,.int .i64 0,.int .i64 0,.str []]::w::l,[]⟩) (i:=1) hw.bt Adr.dataW (by rw[hdw];simp;omega);have hcw:=akn (h:=⟨.cells 180 [.sl 4 .no (mods.map Adr.Step.cells),.bool true,.str ty,.str nm,.int .i64 0,.int .i64 0,.str []]::bwt (P++Adr.dataW)::l,[]⟩) (i:=1) (.inl rfl) (ty++[46]++nm) (by rw[hdw];simp;omega);have hcs:=bxs (h:=⟨.cells 180 [.sl 4 .no (mods.map Adr.Step.cells),.bool true,.str ty,.str nm,.int .i64 0,.int .i64 0,.str []]::bwt (P++Adr.dataW++(ty++[46]++nm))::l,[]⟩) (i:=1) (.inl rfl) (by simp);rw[hdw]at hcd hcw hcs⊢;refine aza (ai t1 (ai t3 (ai t10 (ai t11 (ai t12 (ai hlt (ai l1 (ai l2 l3)))))))) ?_;refine use hcd ?_;refine aza (ai t1 (ai t3 (ai t10 (ai t11 (ai t12 (ai hlt (ai l1 (ai l2 l3)))))))) ?_;refine use (hcf _) ?_;refine aza (ai t1 (ai t3 (ai t10 (ai t11 (ai t12 (ai hlt (ai l1 (ai l2 (ai l3 l4))))))))) ?_;refine use hcw ?_;refine aza (ai t1 (ai t3 (ai t10 (ai t11 t12)))) ?_;refine use hcs ?_;refine aza (ai t1 (ai t3 (ai t10 (ai t11 t12)))) ?_;exact⟨_,le_refl _,by simp[azk]⟩
def bq3:AX.AFn:=⟨12,aS [aR 1 (.box 51 (.t 0)),aR 2 (.mv (.c (.bool false)))] (aS [aF 3 0 1,aL 4 3,aR 5 (.bin .neq (.t 4) (aI 6)),aM 6 5,aG 7 (.faddr 3 (.t 1)) 6 true,aG 8 (.load false 1 (.t 7)) 6 true,aG 9 (.call 154 [.t 8,.c (.fn 155 [])]) 6 true,aG 10 (.un .not (.t 9)) 6 true,aR 11 (.pick (.t 6) (.t 10) (.c (.bool false))),aM 2 11] (.ret)),[.t 2]⟩
theorem cwq:AX.compFn Tryz.prog 133=some bq3:=by kernel_rfl
def awo:AX.AFn:=⟨6,aS [aR 1 (.box 51 (.t 0)),aR 2 (.mv (.c (.bool false)))] (aS [aR 3 (.load true 5 (.t 1)),aR 4 (.call 133 [.t 3]),aR 5 (.un .not (.t 4)),aM 2 5] (.ret)),[.t 2]⟩
theorem cz0:AX.compFn Tryz.prog 155=some awo:=by kernel_rfl
def aj4:AX.AFn:=⟨9,aS [aR 4 (.mv (.c (.bool false)))] (aS [aM 5 0,aM 6 1,aR 7 (.call 175 [.t 5,.t 6]),aR 8 (.bin .geq (.t 7) (aI 0)),aM 4 8] (.ret)),[.t 4]⟩
theorem bvj:AX.compFn Tryz.prog 154=some aj4:=by kernel_rfl
def bzw:AX.AFn:=⟨19,aS [aR 4 (.mv (aI 0))] (.seq (aS [aM 6 0,aR 7 (.len false (.t 6)),aR 8 (.mv (aI 0))] (.block 0 (.loop (aS [aR 9 (.bin .lss (.t 8) (.t 7))] (.seq (.cond (.t 9) (.skip) (.exit 0)) (.seq (.block 1 (aS [aM 10 8,aM 5 10] (aS [aM 11 1,aM 12 0,aM 13 5,aR 14 (.iaddr 5 (.t 12) (.t 13)),aR 15 (.load true 5 (.t 14)),aR 16 (.callv (.t 11) [.t 15])] (.cond (.t 16) (aS [aM 17 5,aM 4 17] (.ret)) (.skip))))) (.reg false [aR 18 (.bin .add (.t 8) (aI 1)),aM 8 18]))))))) (aS [aR 4 (.mv (aI (-1)))] (.ret))),[.t 4]⟩
theorem cvn:AX.compFn Tryz.prog 175=some bzw:=by kernel_rfl
def unkIdx:Nat->List V->Int
 |_,[]=>-1
 |i,v::l=>if Sf.known v=true then unkIdx (i+1) l else i
theorem bji:∀(l:List V) (i:Nat),unkIdx i l>=0↔Sf.knowns l=false
 |[],i=>by simp[unkIdx,Sf.knowns]
 |v::l,i=>by
  unfold unkIdx Sf.knowns;cases h:Sf.known v
  ·simp
  ·simp only[if_true,ZH];exact bji l (i+1)
theorem cv1(is:List V)(hn:is.length<=9223372036854775807)(hf:∀x∈is,∀h,AT 155 [x.A] h (.bool (!Sf.known x)))(h:Hp):AT 175 [.sl 5 .no (V.cellss is),.fn 155 []] h (.int .i64 (unkIdx 0 is)):=by
 refine pcall ?_ rfl (by simp[A.pure,A.data]) h;refine azf mixedT cvn (by simp[bzw]) ?_;dsimp only[bzw];obtain⟨D,hD⟩:=Ex (unkIdx 0 is);rw[hD];refine aza @V.cellss_length ?_;refine azg (fun mm ts h=>∃(j:Nat),mm=is.length-j/\j<=is.length/\h=⟨[],[]⟩/\unkIdx j (is.drop j)=D/\ts 0=.sl 5 .no (V.cellss is)/\ts 1=.fn 155 []/\ts 7=.int .i64 (is.length:Nat)/\ts 8=.int .i64 (j:Nat)) is.length ?_ ?_
 ·exact⟨0,by omega,by omega,rfl,hD,by(exact ev0 ti),by(exact ev0 ti),by(exact ev0 @V.cellss_length),by(exact azv ti)⟩
 rintro mm ts h ⟨j,rfl,hjc,rfl,hit,t0,t1,t7,t8⟩;by_cases hj:j<is.length
 ·have hlt:(j:Int)<(is.length:Int):=by omega
  have hlt':(j:Int)<((V.cellss is).length:Int):=by rw[V.cellss_length];exact hlt
  have hj0:(0:Int)<=(j:Int):=by omega
  have ei:IntKind.i64.wrap ((j:Int)+1)=((j+1:Nat):Int):=by rw[wrap64 (by omega) (by omega)];omega
  have hg:=V.cellss_get is j hj;have cf:=hf is[j] (Zl hj);rw[Zu hj]at hit;unfold unkIdx at hit;obtain⟨x,hx⟩:=Ex (is[j]);rw[hx]at hg cf hit;obtain⟨K,hK⟩:=Ex (Sf.known x);rw[hK]at cf hit;obtain⟨k,n,w,vi,vy⟩:=x;have hVA:(V.mk k n w vi vy).A=.agg [.int .i64 k,.int .i64 n,.str w,.sl 5 .no (V.cellss vi),.sl 1 .no (strsA vy)]:=by simp only[V.A,V.cells]
  rw[hVA]at cf;simp only[V.cells]at hg;refine aza (ai t0 (ai t1 (ai t7 (ai t8 (ai hlt (ai hg (ai hlt' hj0))))))) ?_;refine use (cf _) ?_;cases K
  ·rw[if_neg (by simp)]at hit;subst hit;refine aza (ai t0 (ai t1 (ai t7 t8))) ?_;exact Fn rfl
  ·rw[if_pos rfl]at hit;refine aza (ai t0 (ai t1 (ai t7 (ai t8 ei)))) ?_;exact⟨is.length-(j+1),by omega,j+1,rfl,by omega,rfl,hit,by(exact ev0 t0),by(exact ev0 t1),by(exact ev0 t7),by(exact ev0 ei)⟩
 ·have hlt:¬((j:Int)<(is.length:Int)):=by omega
  rw[YS (by omega)]at hit;unfold unkIdx at hit;subst hit;refine aza (ai t0 (ai t1 (ai t7 (ai t8 hlt)))) ?_;exact Fn rfl
theorem cy7:∀(v:V),v.lens->∀h,AT 133 [v.A] h (.bool (Sf.known v)):=by
 refine V.induct ?_;intro k n s is ks ih hl h;have hlen:is.length<=9223372036854775807:=by have h1:=hl.1;unfold maxLen at h1;omega
 have hf:∀x∈is,∀h,AT 155 [x.A] h (.bool (!Sf.known x)):=by
  intro x hx h;have ck:=ih x hx (V.lensS_mem hl.2.2.2.2 x hx);obtain⟨K,hK⟩:=Ex (Sf.known x);rw[hK]at ck⊢;obtain⟨k,n,w,vi,vy⟩:=x;have hVA:(V.mk k n w vi vy).A=.agg [.int .i64 k,.int .i64 n,.str w,.sl 5 .no (V.cellss vi),.sl 1 .no (strsA vy)]:=by simp only[V.A,V.cells]
  rw[hVA]at ck⊢;refine pcall ?_ rfl (by simp[A.pure,A.data]) h;refine azf mixedT cz0 (by simp[awo]) ?_;dsimp only[awo];refine aza ti ?_;refine use (ck _) ?_;refine aza ti ?_;exact Fn rfl
 have hc:∀h,AT 154 [.sl 5 .no (V.cellss is),.fn 155 []] h (.bool (!Sf.knowns is)):=by
  intro h;refine pcall ?_ rfl (by simp[A.pure,A.data]) h;refine azf mixedT bvj (by simp[aj4]) ?_;dsimp only[aj4];have hge:=bji is 0;have ca:=cv1 is hlen hf;obtain⟨D,hD⟩:=Ex (unkIdx 0 is);rw[hD]at hge ca;refine aza ti ?_;refine use (ca _) ?_;by_cases hd:D>=0
  ·rw[hge.1 hd];refine aza hd ?_;exact Fn rfl
  ·have hk:Sf.knowns is=true:=by cases hk:Sf.knowns is;exact absurd (hge.2 hk) hd;rfl
   rw[hk];refine aza hd ?_;exact Fn rfl
 have hVA:(V.mk k n s is ks).A=.agg [.int .i64 k,.int .i64 n,.str s,.sl 5 .no (V.cellss is),.sl 1 .no (strsA ks)]:=by simp only[V.A,V.cells]
 have hK:Sf.known (.mk k n s is ks)=(k !=6&&Sf.knowns is):=by simp[Sf.known]
 rw[hVA,hK];refine pcall ?_ rfl (by simp[A.pure,A.data]) h;refine azf mixedT cwq (by simp[bq3]) ?_;dsimp only[bq3];by_cases h6:k=6
 ·have e:(k !=6)=false:=by simp[h6]
  rw[e];refine aza e ?_;exact Fn rfl
 ·have e:(k !=6)=true:=by simp[h6]
  rw[e];refine aza e ?_;refine use (hc _) ?_;cases Sf.knowns is
  ·refine aza ti ?_;exact Fn rfl
  ·refine aza ti ?_;exact Fn rfl
end AX
end
section
open Go.RowKit
open Go.Op (bytesLess)
namespace AX
def bv8:AX.AFn:=⟨18,aS [aR 2 (.mv (aI 0))] (aS [aR 3 (.mv (aI 0))] (.seq (aS [aM 6 0,aR 7 (.len false (.t 6)),aR 8 (.mv (aI 0))] (.block 0 (.loop (aS [aR 9 (.bin .lss (.t 8) (.t 7))] (.seq (.cond (.t 9) (.skip) (.exit 0)) (.seq (.block 1 (aS [aR 10 (.iaddr 1 (.t 6) (.t 8)),aL 11 10,aM 5 11] (aS [aM 12 5,aM 13 3,aR 14 (.bin .neq (.t 12) (.t 13))] (.cond (.t 14) (aS [aM 15 5,aM 2 15] (.ret)) (.skip))))) (.reg false [aR 16 (.bin .add (.t 8) (aI 1)),aM 8 16]))))))) (aS [aM 17 3,aM 2 17] (.ret)))),[.t 2]⟩
theorem cys:AX.compFn Tryz.prog 135=some bv8:=by kernel_rfl
def av2:AX.AFn:=⟨17,aS [aR 2 (.box 139 (.t 0)),aR 3 (.box 139 (.t 1)),aR 4 (.mv (aI 0))] (.seq (.reg true [aF 5 0 2,⟨some 6,.load false 1 (.t 5),none,[0]⟩,aF 7 0 3,⟨some 8,.load false 1 (.t 7),none,[2]⟩,⟨some 9,.call 58 [.t 6,.t 8],none,[1,3]⟩,aF 10 1 2,⟨some 11,.load false 1 (.t 10),none,[5]⟩,aF 12 1 3,⟨some 13,.load false 1 (.t 12),none,[7]⟩,⟨some 14,.call 58 [.t 11,.t 13],none,[6,8,4]⟩,⟨some 15,.mks 1 [.t 9,.t 14],none,[4,9]⟩,⟨some 16,.call 135 [.t 15],none,[10,9]⟩,⟨some 4,.mv (.t 16),none,[11,11,0,1,2,3,4,5,6,7,8,9,10,11]⟩]) (.ret)),[.t 4]⟩
theorem czf:AX.compFn Tryz.prog 96=some av2:=by kernel_rfl
theorem dvi(a b:Int)(h:Hp):AT 135 [.sl 1 .no [[.int .i64 a],[.int .i64 b]]] h (.int .i64 (if a≠0 then a else b)):=by
 refine pcall ?_ rfl (by simp[A.pure,A.data]) h;refine azf mixedT cys (by simp[bv8]) ?_;dsimp only[bv8];refine aza ti ?_;have ew0:IntKind.i64.wrap ((0:Int)+1)=1:=by decide
 have ew1:IntKind.i64.wrap ((1:Int)+1)=2:=by decide
 have en1:Int.toNat 1=1:=rfl;have lt0:(0:Int)<((2:Nat):Int):=by decide
 have lt1:(1:Int)<((2:Nat):Int):=by decide
 have lt2:¬(2:Int)<((2:Nat):Int):=by decide
 have le1:(0:Int)<=1:=by decide
 refine azg (fun mm ts h=>h=⟨[],[]⟩/\ts 3=.int .i64 0/\ts 6=.sl 1 .no [[.int .i64 a],[.int .i64 b]]/\ts 7=.int .i64 ((2:Nat):Int)/\((mm=2/\ts 8=.int .i64 0)\/(mm=1/\ts 8=.int .i64 1/\a=0)\/(mm=0/\ts 8=.int .i64 2/\a=0/\b=0))) 2 ?_ ?_
 ·exact⟨rfl,by(exact ev0 ti),by(exact ev0 ti),by(exact ev0 ti),.inl ⟨rfl,by(exact ev0 ti)⟩⟩
 rintro mm ts h ⟨rfl,t3,t6,t7,⟨rfl,t8⟩|⟨rfl,t8,ha⟩|⟨rfl,t8,ha,hb⟩⟩
 ·by_cases ha:a=0
  ·have e1:(a !=0)=false:=by simp[ha]
   refine aza (ai t3 (ai t6 (ai t7 (ai t8 (ai e1 (ai ew0 lt0)))))) ?_;exact⟨1,by omega,rfl,by(exact ev0 t3),by(exact ev0 t6),by(exact ev0 t7),.inr (.inl ⟨rfl,by(exact ev0 ew0),ha⟩)⟩
  ·have e1:(a !=0)=true:=by simp[ha]
   refine aza (ai t3 (ai t6 (ai t7 (ai t8 (ai e1 lt0))))) ?_;exact⟨_,le_refl _,by rw[if_pos ha];rfl⟩
 ·by_cases hb:b=0
  ·have e1:(b !=0)=false:=by simp[hb]
   refine aza (ai t3 (ai t6 (ai t7 (ai t8 (ai e1 (ai ew1 (ai en1 (ai lt1 le1)))))))) ?_;exact⟨0,by omega,rfl,by(exact ev0 t3),by(exact ev0 t6),by(exact ev0 t7),.inr (.inr ⟨rfl,by(exact ev0 ew1),ha,hb⟩)⟩
  ·have e1:(b !=0)=true:=by simp[hb]
   refine aza (ai t3 (ai t6 (ai t7 (ai t8 (ai e1 (ai en1 (ai lt1 le1))))))) ?_;exact⟨_,le_refl _,by rw[if_neg (by simp[ha])];rfl⟩
 ·refine aza (ai t3 (ai t6 (ai t7 (ai t8 lt2)))) ?_;exact⟨_,le_refl _,by rw[if_neg (by simp[ha]),hb];rfl⟩
def djx(a b c d:List UInt8):Int:=if cmpZ a c≠0 then cmpZ a c else cmpZ b d
theorem cq1(L:Leafs)(a b c d:List UInt8)(h:Hp):AT 96 [.agg [.str a,.str b],.agg [.str c,.str d]] h (.int .i64 (djx a b c d)):=by
 refine pcall ?_ rfl (by simp[A.pure,A.data]) h;refine azf mixedT czf (by simp[av2]) ?_;dsimp only[av2];refine aza ti ?_;refine use (L.cmp a c _) ?_;refine aza ti ?_;refine use (L.cmp b d _) ?_;refine aza ti ?_;refine use (dvi (cmpZ a c) (cmpZ b d) _) ?_;refine aza ti ?_;exact Fn rfl
theorem cyq(x y:Sf.Inst):(djx x.addr x.dep y.addr y.dep>=0)↔Sf.behind x y=false:=by
 unfold djx Sf.behind cmpZ;by_cases h1:x.addr=y.addr
 ·have irr:bytesLess y.addr y.addr=false:=by
   have:=Val.less_total y.addr y.addr;cases h:bytesLess y.addr y.addr
   ·rfl
   ·rw[h]at this;simp at this
  rw[h1,irr];by_cases h2:x.dep=y.dep
  ·have irr2:bytesLess y.dep y.dep=false:=by
    have:=Val.less_total y.dep y.dep;cases h:bytesLess y.dep y.dep
    ·rfl
    ·rw[h]at this;simp at this
   simp[h2,irr2]
  ·cases h3:bytesLess x.dep y.dep<;>simp[h2]
 ·cases h3:bytesLess x.addr y.addr<;>simp[h1]
end AX
end
end Go.Proofs.YthhpocnmfknalaaGreatDoor
