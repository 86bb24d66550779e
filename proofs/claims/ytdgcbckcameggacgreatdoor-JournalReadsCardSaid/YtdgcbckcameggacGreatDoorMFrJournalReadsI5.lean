/- Part of what the proof needs. -/
import Derived.Test.YtdgcbckcameggacGreatDoorMFrJournalReadsI4
import Derived.Test.YtdgcbckcameggacGreatDoorRows
set_option maxHeartbeats 4000000
set_option maxRecDepth 100000
set_option linter.all false
namespace Go.Proofs.YtdgcbckcameggacGreatDoor
section
open Go.RowKit
namespace AX
section
variable {P:Program} {G:World→Prop} {C:Ctx} {h:Hp}
end
end AX
theorem bja(a:Option Addr)(c:Nat)(w:World):
  Calls Tryz.prog 107 #[.slice a 0 c] w fun e w'=>(∃a' c',e=.returned (.slice a' 0 c'))∧Below w.heap.size w w':=by
 have q22:∀(w:World) (a:Option Addr) (n c n' c':Nat),(binOp .eql 38 (.slice a n c) (.slice none n' c')).run Tryz.prog w=.ok (.bool a.isNone) w:=fun w a n c n' c'=>Lib.run_eql_slice_nil w _ _ a n c n' c' Tryz.underlying38
 have u22:∀w,Sem.run Tryz.prog (underlying 38) w=.ok (TypeDesc.slice 9) w:=run_underlying Tryz.underlying38;cases a with
 |none=>
  go_enter Tryz.func107,Tryz.ntmps107;go_wp2
  go_ret
  exact⟨⟨_,_,rfl⟩,Below.refl _ _⟩
 |some ad=>
  obtain⟨i0,hi,hz0,hz1,hz2⟩:=info_parts (show(Tryz.prog.info? 9).map (fun i=>(i.zero,i.size,i.bytes))=some (some (.string ⟨#[]⟩),1,16) by kernel_rfl);go_enter Tryz.func107,Tryz.ntmps107;go_wp2_with (at_builtin;refine wpList_append_own _ rfl _ _ 38 rfl w.heap.size 9 i0 (.string ⟨#[]⟩) 1 16 Tryz.underlying38 hi hz0 hz1 hz2 rfl (by decide) _ _ _ rfl (World.ownsRow_made w #[] 0 (Zf _) (Zz _) rfl) ad 0 c [] rfl rfl (by intro j u hj;simp at hj) (by intro u hu;cases hu) (by unfold maxLen;omega) (by omega) (by simp) ?_);intro v' w1 hown hgrow hnil;have Hb:=kept (((Below.refl _ w).alloc (Zf _) (.cells #[] 9)).grown hgrow (by simp) (by intro k hk;simp[Value.ownBlock]at hk;omega));have Hv:∃a' c',v'=.slice a' 0 c':=by
   rcases hown.2 with⟨rfl,_⟩|⟨g,cap,cur,rfl,_⟩
   ·exact⟨_,_,rfl⟩
   ·exact⟨_,_,rfl⟩
  obtain⟨a',c',rfl⟩:=Hv;clear hown hgrow hnil;go_wp2
  go_ret
  exact⟨⟨_,_,rfl⟩,Hb.out⟩
namespace AX
theorem bqe(W0:Nat)(o:Own)(h:Hp):AT 107 [.sl W0 o []] h (.sl 1 .no []):=by
 intro C es hI ha;obtain⟨c,es',rfl,h1,h2⟩:=repL_cons.1 ha;rw[repL_nil]at h2;subst h2;obtain⟨a,cap,rfl,_,_,_⟩:=rep_sl.1 h1;refine(bja a cap C.w).mono ?_;rintro e w' ⟨⟨a',c',rfl⟩,hb⟩;obtain⟨i1,s1⟩:=aq0 hI hb;exact⟨C.at w',h,.sl 1 .no [],_,rfl,rfl,i1,s1,rep_sl.2 ⟨a',c',rfl,Zz _,by unfold RepRows;trivial,trivial⟩,rfl,rfl⟩
end AX
theorem bjt(a:Option Addr)(c:Nat)(w:World):
  Calls Tryz.prog 70 #[.slice a 0 c] w fun e w'=>(∃a' c',e=.returned (.slice a' 0 c'))∧Below w.heap.size w w':=by
 have q22:∀(w:World) (a:Option Addr) (n c n' c':Nat),(binOp .eql 30 (.slice a n c) (.slice none n' c')).run Tryz.prog w=.ok (.bool a.isNone) w:=fun w a n c n' c'=>Lib.run_eql_slice_nil w _ _ a n c n' c' Tryz.underlying30
 have u22:∀w,Sem.run Tryz.prog (underlying 30) w=.ok (TypeDesc.slice 123) w:=run_underlying Tryz.underlying30;cases a with
 |none=>
  go_enter Tryz.func70,Tryz.ntmps70;go_wp2
  go_ret
  exact⟨⟨_,_,rfl⟩,Below.refl _ _⟩
 |some ad=>
  obtain⟨i0,hi,hz0,hz1,hz2⟩:=info_parts (show(Tryz.prog.info? 123).map (fun i=>(i.zero,i.size,i.bytes))=some (some (.agg #[.string ⟨#[]⟩,.string ⟨#[]⟩,.string ⟨#[]⟩]),3,48) by kernel_rfl);go_enter Tryz.func70,Tryz.ntmps70;go_wp2_with (at_builtin;refine wpList_append_own _ rfl _ _ 30 rfl w.heap.size 123 i0 (.agg #[.string ⟨#[]⟩,.string ⟨#[]⟩,.string ⟨#[]⟩]) 3 48 Tryz.underlying30 hi hz0 hz1 hz2 rfl (by decide) _ _ _ rfl (World.ownsRow_made w #[] 0 (Zf _) (Zz _) rfl) ad 0 c [] rfl rfl (by intro j u hj;simp at hj) (by intro u hu;cases hu) (by unfold maxLen;omega) (by omega) (by simp) ?_);intro v' w1 hown hgrow hnil;have Hb:=kept (((Below.refl _ w).alloc (Zf _) (.cells #[] 123)).grown hgrow (by simp) (by intro k hk;simp[Value.ownBlock]at hk;omega));have Hv:∃a' c',v'=.slice a' 0 c':=by
   rcases hown.2 with⟨rfl,_⟩|⟨g,cap,cur,rfl,_⟩
   ·exact⟨_,_,rfl⟩
   ·exact⟨_,_,rfl⟩
  obtain⟨a',c',rfl⟩:=Hv;clear hown hgrow hnil;go_wp2
  go_ret
  exact⟨⟨_,_,rfl⟩,Hb.out⟩
namespace AX
theorem bz3(W0:Nat)(o:Own)(h:Hp):AT 70 [.sl W0 o []] h (.sl 3 .no []):=by
 intro C es hI ha;obtain⟨c,es',rfl,h1,h2⟩:=repL_cons.1 ha;rw[repL_nil]at h2;subst h2;obtain⟨a,cap,rfl,_,_,_⟩:=rep_sl.1 h1;refine(bjt a cap C.w).mono ?_;rintro e w' ⟨⟨a',c',rfl⟩,hb⟩;obtain⟨i1,s1⟩:=aq0 hI hb;exact⟨C.at w',h,.sl 3 .no [],_,rfl,rfl,i1,s1,rep_sl.2 ⟨a',c',rfl,Zz _,by unfold RepRows;trivial,trivial⟩,rfl,rfl⟩
end AX
namespace AX
end AX
end
section
open Go.RowKit Go.ChangeShapes Go.WideShapes Go.Deep
section
variable {H:Type} {enc:TypeId×Value→H} {P:Program} {w:World} {base:Nat} {spare:Nat→Bool} {held:Bool} {K:List TypeId}
end
end
section
open Go.RowKit Go.ChangeShapes Go.WideShapes
namespace Sf
end Sf
namespace Sf
end Sf
end
section
open Go.RowKit
namespace AX
end AX
namespace Jr
end Jr
namespace Jr
end Jr
namespace AX
theorem dqc(v:V):bw6 [v.A,.agg [.int .i64 0,.int .i64 0,.str [],.sl 0 .nil [],.sl 0 .nil []]] [v.A,(V.mk 0 0 [] [] []).A]:=by
 refine⟨azx _,?_,trivial⟩;simp[le,bw6,le2,leL,le1,V.A,V.cells,V.cellss,strsA]
theorem cwc:(V.mk 0 0 [] [] []).lens:=by
 unfold V.lens;simp[V.lensS]
theorem cya(x:Sf.Inst)(hl:x.attrs.lens)(hd:x.deps.length≤1000000000)(h:Hp):AT 124 [.agg (Sf.Inst.cells x)] h (.bool (Jr.noneR x)):=by
 have ce:=fun h=>ACall.args (dqc x.attrs) (bzo x.attrs (.mk 0 0 [] [] []) hl cwc h)
 unfold Jr.noneR;obtain⟨E,hE⟩:=Ex (Val.eqB x.attrs (.mk 0 0 [] [] []));rw[hE];simp only[hE]at ce;clear hE hl;obtain⟨a,d,i,t,⟨k,n,s,is,ks⟩,v,tn,fi,ds⟩:=x;simp only[Sf.Inst.cells,V.A,V.cells]at ce hd⊢;have l3:=aze ds;refine pcall ?_ rfl (by simp[A.pure,A.data]) h;refine fo ?_;refine azc l3 (ai ce ti) ?_;exact Fn rfl
theorem bkc(s:Sf.St)(hin:Sf.StIn s)(h:Hp):AT 125 [s.A] h (.bool (Jr.emptyR s)):=by
 obtain⟨lin,ser,ins,ps,os⟩:=s;obtain⟨hl,hi,hp,ho,hni,hnp,hno⟩:=hin;dsimp only at hni hnp hno;have l1:(ins.map Sf.Inst.cells).length=ins.length:=Zj _;have l2:(ps.map Sf.Pend.cells).length=ps.length:=Zj _;have l3:(os.map Sf.Outp.cells).length=os.length:=Zj _;have w1:IntKind.i64.wrap ((ins.length:Int)+(ps.length:Int))=(ins.length:Int)+(ps.length:Int):=wrap64 (by omega) (by omega);have w2:IntKind.i64.wrap ((ins.length:Int)+(ps.length:Int)+(os.length:Int))=(ins.length:Int)+(ps.length:Int)+(os.length:Int):=wrap64 (by omega) (by omega);unfold Sf.St.A Jr.emptyR;dsimp only;refine pcall ?_ rfl (by simp[A.pure,A.data]) h;refine fo ?_;refine azc (ai l1 (ai l2 (ai l3 (ai w1 w2)))) ti ?_;exact Fn rfl
theorem bqf(ks:List (List UInt8))(hn:ks.length≤1000000000)(h:Hp):AT 160 [.sl 1 .no (strsA ks)] h (.bool (Jr.shortB ks)):=by
 refine pcall ?_ rfl (by simp[A.pure,A.data]) h;refine fo ?_;obtain⟨D,hD⟩:=Ex (Jr.shortB ks);rw[hD];have li:(strsA ks).length=ks.length:=aze ks;refine azb li ?_;refine azf (fun mm ts h=>∃(j:Nat),mm=ks.length-j∧j≤ks.length∧h=⟨[],[]⟩∧Jr.shortB (ks.drop j)=D∧(ts 0=.sl 1 .no (strsA ks)∧ts 3=.int .i64 (j:Nat))) ks.length ?_ ?_
 ·exact⟨0,by omega,by omega,rfl,hD,by(exact azq li)⟩
 rintro mm ts h ⟨j,rfl,hjc,rfl,hit,ht⟩;by_cases hj:j<ks.length
 ·have hf:=ajn (fun s:List UInt8=>[A.str s]) ks j hj (by omega);have hf':(strsA ks).length=ks.length∧(j:Int)<(ks.length:Int)∧(0:Int)≤(j:Int)∧(strsA ks).getD j []=[.str ks[j]]∧IntKind.i64.wrap ((j:Int)+1)=((j+1:Nat):Int):=hf;clear hf;rw[Zr hj]at hit;unfold Jr.shortB at hit;rw[ZC]at hit;obtain⟨x,hx⟩:=Ex (ks[j]);rw[hx]at hf' hit;by_cases hK:(x.length:Int)>4096
  ·have hK':decide ((x.length:Int)≤4096)=false:=by simpa using hK
   rw[hK',ZT]at hit;subst hit;refine azc (ai ht (ai hf' hK)) ti ?_;exact Fn rfl
  ·have hK':decide ((x.length:Int)≤4096)=true:=by simpa using hK
   rw[hK',Zx]at hit;refine azc (ai ht (ai hf' hK)) ti ?_;exact⟨ks.length-(j+1),by omega,j+1,rfl,by omega,rfl,hit,by(exact azq (ai ht hf'))⟩
 ·have hlt:¬((j:Int)<(ks.length:Int)):=by omega
  rw[Y1 (by omega)]at hit;unfold Jr.shortB at hit;subst hit;refine azc (ai ht (ai hlt li)) ti ?_;exact Fn rfl
theorem cwm(x:Sf.Inst)(hl:x.attrs.lens)(hd:x.deps.length≤1000000000)(h:Hp):AT 127 [.agg (Sf.Inst.cells x)] h (.bool (Jr.instB x)):=by
 obtain⟨a,d,i,t,⟨k,n,s,is,ks⟩,v,tn,fi,ds⟩:=x;have l3:=aze ds;have c1:=bqf [a,d,i,t] (by simp);have c2:=bqf ds hd;have c3:=ake (.mk k n s is ks) hl;simp only[V.A,V.cells]at c3;unfold Sf.Inst.cells Jr.instB;dsimp only;obtain⟨b1,h1⟩:=Ex (Jr.shortB [a,d,i,t]);obtain⟨b2,h2⟩:=Ex (Jr.shortB ds);obtain⟨Z,hZ⟩:=Ex (Val.checkZ (.mk k n s is ks));rw[h1]at c1;rw[h2]at c2;rw[hZ]at c3;rw[h1,h2,hZ];have c1':∀h,AT 160 [.sl 1 .no [[.str a],[.str d],[.str i],[.str t]]] h (.bool b1):=c1;refine pcall ?_ rfl (by simp[A.pure,A.data]) h;refine fo ?_;refine azc l3 (ai c1' (ai c2 (ai c3 ti))) ?_;exact Fn rfl
theorem cwp(r:Jr)(hin:Sf.StIn r.base)(h:Hp):AT 126 [.agg r.cells] h (.bool r.stepR):=by
 have ce:=bkc r.base hin;have c1:=bqf [r.addr,r.dep,r.typ,r.tok] (by simp);unfold Jr.stepR;obtain⟨b1,h1⟩:=Ex (Jr.shortB [r.addr,r.dep,r.typ,r.tok]);obtain⟨e,he⟩:=Ex (Jr.emptyR r.base);rw[h1]at c1⊢;rw[he]at ce⊢;clear h1 he hin;obtain⟨kd,⟨lin,ser,ins,ps,os⟩,st,op,ad,dp,ty,tk,er,⟨a,d,i,t,⟨k,n,s,is,ks⟩,v,tn,fi,ds⟩⟩:=r;simp only[Jr.cells,Sf.Inst.cells,Zo,Zk,Sf.St.A]at ce c1⊢;have c1':∀h,AT 160 [.sl 1 .no [[.str ad],[.str dp],[.str ty],[.str tk]]] h (.bool b1):=c1;refine pcall ?_ rfl (by simp[A.pure,A.data]) h;refine fo ?_;refine azc ti (ai ce (ai c1' ti)) ?_;exact Fn rfl
theorem cj6(r:Jr)(hin:JrIn r)(h:Hp):AT 86 [.agg r.cells] h (.bool r.validR):=by
 have ce:=bkc r.base hin.base;have cn:=cya r.after hin.lens hin.deps;have ci:=cwm r.after hin.lens hin.deps;have cs:=cwp r hin.base;unfold Jr.validR;obtain⟨e,he⟩:=Ex (Jr.emptyR r.base);obtain⟨n,hn⟩:=Ex (Jr.noneR r.after);obtain⟨i,hi⟩:=Ex (Jr.instB r.after);obtain⟨s,hs⟩:=Ex (r.stepR);rw[he]at ce;rw[hn]at cn;rw[hi]at ci;rw[hs]at cs;rw[he,hn,hi,hs];clear he hn hi hs hin;obtain⟨kd,⟨lin,ser,ins,ps,os⟩,st,op,ad,dp,ty,tk,er,⟨a1,a2,a3,a4,⟨k,nn,ss,is,ks⟩,v,tn,fi,ds⟩⟩:=r;simp only[Jr.cells,Sf.Inst.cells,Zo,Zk,Sf.St.A]at *;refine pcall ?_ rfl (by simp[A.pure,A.data]) h;refine fo ?_;by_cases q1:kd=1
 ·rw[if_pos q1];obtain⟨K,hK⟩:=Ex ((kd==1));have hKt:K=true:=by rw[←hK,q1];rfl
  clear q1;refine azc hK ti ?_;(refine AX.dqh ti ?_ ?_);rotate_left
  ·intro hc;rw[hc]at hKt;exact absurd hKt (by decide)
  intro hc;refine azc hK ti ?_;(refine AX.dqh ti ?_ ?_);rotate_left
  ·intro hc;rw[hc]at hKt;exact absurd hKt (by decide)
  intro hc2;refine azc hK (ai cn (ai ce ti)) ?_;exact⟨_,le_refl _,by rw[azi,hc];simp⟩
 have f1:(kd==1)=false:=by simp[q1]
 rw[if_neg q1];by_cases q5:kd=5
 ·subst q5;rw[if_pos rfl];refine azc ti (ai cn (ai ce ti)) ?_;exact⟨_,le_refl _,by rw[azi]⟩
 have f5:(kd==5)=false:=by simp[q5]
 rw[if_neg q5];by_cases q2:kd=2
 ·subst q2;rw[if_pos rfl];refine azc ti (ai cs (ai cn ti)) ?_;exact⟨_,le_refl _,by rw[azi]⟩
 have f2:(kd==2)=false:=by simp[q2]
 rw[if_neg q2];by_cases q3:kd=3
 ·subst q3;rw[if_pos rfl];refine azc ti (ai cs (ai ci (ai cn ti))) ?_;exact⟨_,le_refl _,by rw[azi]⟩
 have f3:(kd==3)=false:=by simp[q3]
 rw[if_neg q3];by_cases q4:kd=4
 ·subst q4;rw[if_pos rfl];refine azc ti (ai cs (ai ci (ai cn ti))) ?_;exact⟨_,le_refl _,by rw[azi]⟩
 have f4:(kd==4)=false:=by simp[q4]
 rw[if_neg q4];refine azc (ai f1 (ai f2 (ai f3 (ai f4 f5)))) ti ?_;exact Fn rfl
theorem az2(dst s:List UInt8)(hlen:dst.length+s.length+10≤1000000000)(h:Hp):AT 89 [.str dst,.str s] h (.str (dst++Wire.strE s)):=by
 refine pcall ?_ rfl (by simp[A.pure,A.data]) h;have hn:=num_len s.length;refine fo ?_;refine go0 ti ?_;refine gc0 ti ?_;refine(azg dst s.length (by omega) (by omega) (by omega) _).mono ?_;rintro v1 h1 ⟨rfl,rfl⟩;have hsum:dst.length+(Wire.num s.length).length+s.length<1099511627776:=by omega
 refine go0 hsum ?_;exact⟨_,le_refl _,by rw[azi,Wire.strE,Zg]⟩
theorem ajh:∀(v:V) (dst:List UInt8) (h:Hp),(∃lv b,(Val.chk v lv b).1=0)→dst.length+(Val.enc v).length+10≤1000000000→v.lens→AT 163 [.str dst,v.A] h (.str (dst++Val.enc v)):=by
 refine V.induct fun k n s is ks ih=>?_
 rintro l h ⟨lv,b,hchk⟩ hlen hlens;refine pcall ?_ rfl (by simp[V.A,V.cells,A.pure,A.data]) h;refine fo ?_;obtain⟨hil,hkl,_,hmem⟩:=V.lens_mk hlens;obtain⟨_,_,hz,hcs⟩:=Val.chk_parts hchk;obtain⟨hsh,hn2,hts,hks⟩:=Val.shaped_of hz;have hs:=Val.text_len hts;have hkk:=Val.keys_len ks none hks;unfold Val.shapedB at hsh;simp only[Zc,ZS,Zm,ZA]at hsh;obtain⟨⟨⟨⟨⟨hk0,hk6⟩,hnn⟩,_⟩,_⟩,hkn⟩:=hsh;have hE:Val.enc (.mk k n s is ks)=Wire.num k++(if k=1∨k=2 then Wire.num n else if k=3 then Wire.strE s else if k=4∨k=5 then Wire.num is.length++Val.encs (k==5) is ks else[]):=by rw[Val.enc]
 rw[hE]at hlen⊢;simp only[Za]at hlen;refine go0 (ai @V_A @azd) ?_;refine gc0 (ai @V_A @azd) ?_;refine(azg l k (by omega) (by omega) (by omega) _).mono ?_;rintro v0 h1 ⟨rfl,rfl⟩;have hlk:=num_len k;by_cases hk12:k=1∨k=2
 ·rw[if_pos hk12]at hlen⊢;have hn:-9223372036854775808≤n∧n≤9223372036854775807:=by
   rcases hk12 with rfl|rfl
   ·rcases hnn with(h|h)|h
    ·exact absurd h (by decide)
    ·omega
    ·omega
   ·have:=hn2 rfl;omega
  rcases hk12 with rfl|rfl;all_goals
   refine go0 (ai @V_A @azd) ?_;refine gc0 (ai @V_A @azd) ?_;refine(azg _ n (by rw[Za];omega) (by omega) (by omega) _).mono ?_;rintro v2 h2 ⟨rfl,rfl⟩;refine go0 (ai @V_A @azd) ?_;exact⟨_,le_refl _,by rw[azi,Zg]⟩
 rw[if_neg hk12]at hlen⊢;have e1:(k==1)=false:=by simp;omega
 have e2:(k==2)=false:=by simp;omega
 by_cases hk3:k=3
 ·rw[if_pos hk3]at hlen⊢;subst hk3;refine go0 (ai @V_A @azd) ?_;refine gc0 (ai @V_A @azd) ?_;unfold Wire.strE at hlen;rw[Za]at hlen;refine(az2 _ s (by rw[Za];omega) _).mono ?_;rintro v2 h2 ⟨rfl,rfl⟩;refine go0 (ai @V_A @azd) ?_;exact⟨_,le_refl _,by rw[azi,Zg]⟩
 rw[if_neg hk3]at hlen⊢;have e3:(k==3)=false:=by simp;omega
 by_cases hk45:k=4∨k=5
 ·rw[if_pos hk45]at hlen⊢;rw[Za]at hlen;have hkl5:(k==5)=true→ks.length=is.length:=fun e=>by
   rw[if_pos (by simpa using e)]at hkn;simpa using hkn
  have hln:=num_len is.length;have step:∀(j:Nat) (hj:j<is.length),(Val.encs (k==5) (is.take j) ks).length+(Val.keyE (k==5) (ks.drop j)).length+(Val.enc is[j]).length≤(Val.encs (k==5) is ks).length:=bx0 _ _ _;have e45:(k==4)=true∨(k==4)=false∧(k==5)=true:=by
   rcases hk45 with rfl|rfl
   ·exact .inl rfl
   ·exact .inr ⟨rfl,rfl⟩
  rcases e45 with e4|⟨e4,e5⟩;all_goals
   refine go0 (ai @V_A (ai @azd (ai e1 (ai e2 (ai e3 (ai e4 @V.cellss_length)))))) ?_
   try (refine go0 (ai @V_A (ai @azd (ai e1 (ai e2 (ai e3 (ai e4 (ai e5 @V.cellss_length))))))) ?_)
   refine gc0 (ai @V_A @azd) ?_;refine(azg _ is.length (by rw[Za];omega) (by omega) (by omega) _).mono ?_;rintro v2 h2 ⟨rfl,rfl⟩;refine go0 (ai @V_A (ai @azd @V.cellss_length)) ?_;refine azf (fun m ts hh=>hh=⟨[.cells 40 (V.mk k n s is ks).cells],[]⟩∧∃(j:Nat),m=is.length-j∧j≤is.length∧ts 0=.str (l++Wire.num k++Wire.num is.length++Val.encs (k==5) (is.take j) ks)∧ts 3=.ptr 0 0∧ts 5=.int .i64 j) is.length ?_ ?_
   ·refine⟨rfl,0,rfl,Zz _,?_⟩;simp only[aql,az5,az6,aj7,avd,az4,aq9,aq7,aq6,azi,aqa,astep,bop,uop,loadA,storeA,appA,ssliceA,eqA,eqCells,fillA,rowsA,setCells,A.cells,A.one,A.data,azy,ZC,Yt,ZY,Zx,ZR,YA,YH,YO,ZZ,Yo,ZW,Ym,ZN,ZH,ZM,ZF,Zh,Zy,Zk,Zo,ZB,Yf,Yu,Yv,ZU,Z3,Yk,YY,Za,Yl,Nat.reduceAdd,Nat.reduceSub,Nat.reduceMul,Nat.reduceLeDiff,Nat.reduceEqDiff,Nat.reduceBEq,Yb,YI,if_true,if_false,reduceIte,ite_true,ite_false,true_and,and_true,ne_eq,Yh,Ys,Zi,reduceCtorEq,and_self,YD,Yg,Zf,ZP,ZL,decide_true,decide_false,Val.encs];trivial
   ·rintro m ts hh ⟨rfl,j,rfl,hj,t0,t3,t5⟩;by_cases hlt:j<is.length
    ·have hlt2:(j:Int)<(is.length:Int):=by omega
     have hla:(j:Int)<((V.cellss is).length:Int):=by rw[V.cellss_length];omega
     have ei:IntKind.i64.wrap ((j:Int)+1)=(j:Int)+1:=wrap64 (by omega) (by omega);have ee:=V.cellss_get is j hlt;have hst:=step j hlt;have htk:=Val.encs_take (k==5) is ks j hlt;have hcall:=fun(l':List UInt8) (h:Hp) (hb:l'.length+(Val.enc is[j]).length+10≤1000000000)=>ih is[j] (Zt hlt) l' h ((Val.chks_get is _ _ hcs j hlt).elim fun b' hb'=>⟨_,b',hb'⟩) hb (hmem _ (Zt hlt))
     obtain⟨⟨k',n',s',is',ks'⟩,hv⟩:=Ex (is[j]);rw[hv]at ee hcall htk hst;rcases azk (k==5)with e5'|e5'
     ·have hkj:j<ks.length:=by rw[hkl5 e5'];exact hlt
      have hlk2:(j:Int)<((strsA ks).length:Int):=by rw[aze];omega
      have ek:=azv ks j hkj;have hke:Val.keyE (k==5) (ks.drop j)=Wire.strE ks[j]:=by rw[e5',Zr hkj];rfl
      rw[hke]at htk hst;simp only[e5']at htk hst t0 hlen;have hsl:(Wire.strE ks[j]).length=(Wire.num ks[j].length).length+ks[j].length:=by unfold Wire.strE;rw[Za]
      refine go0 (ai @azd (ai t0 (ai t3 (ai t5 (ai hla (ai hlt2 (ai ee (ai ei (ai e5' (ai hlk2 ek)))))))))) ?_;refine gc0 (ai @azd (ai t0 (ai t3 t5))) ?_;refine(az2 _ ks[j] (by simp only[Za];omega) _).mono ?_;rintro v3 h3 ⟨rfl,rfl⟩;refine go0 (ai @azd (ai t0 (ai t3 (ai t5 (ai hla ee))))) ?_;refine gc0 (ai @azd (ai t0 (ai t3 t5))) ?_;refine(hcall _ _ (by simp only[Za];omega)).mono ?_;rintro v4 h4 ⟨rfl,rfl⟩;refine go0 (ai @azd (ai t0 (ai t3 (ai t5 ei)))) ?_;refine⟨is.length-(j+1),by omega,rfl,j+1,rfl,by omega,?_⟩;simp only[aql,az5,az6,aj7,avd,az4,aq9,aq7,aq6,azi,aqa,astep,bop,uop,loadA,storeA,appA,ssliceA,eqA,eqCells,fillA,rowsA,setCells,A.cells,A.one,A.data,azy,ZC,Yt,ZY,Zx,ZR,YA,YH,YO,ZZ,Yo,ZW,Ym,ZN,ZH,ZM,ZF,Zh,Zy,Zk,Zo,ZB,Yf,Yu,Yv,ZU,Z3,Yk,YY,Za,Yl,Nat.reduceAdd,Nat.reduceSub,Nat.reduceMul,Nat.reduceLeDiff,Nat.reduceEqDiff,Nat.reduceBEq,Yb,YI,if_true,if_false,reduceIte,ite_true,ite_false,true_and,and_true,ne_eq,Yh,Ys,Zi,reduceCtorEq,and_self,YD,Yg,Zf,ZP,ZL,decide_true,decide_false,htk,e5',Zg,t3,Int.natCast_add,Int.natCast_one]
     ·have hke:Val.keyE (k==5) (ks.drop j)=[]:=by rw[e5'];rfl
      rw[hke]at htk hst;simp only[e5']at htk hst t0 hlen;refine go0 (ai @azd (ai t0 (ai t3 (ai t5 (ai hla (ai hlt2 (ai ee (ai ei e5')))))))) ?_;refine gc0 (ai @azd (ai t0 (ai t3 t5))) ?_;refine(hcall _ _ (by simp only[Za];omega)).mono ?_;rintro v4 h4 ⟨rfl,rfl⟩;refine go0 (ai @azd (ai t0 (ai t3 (ai t5 ei)))) ?_;refine⟨is.length-(j+1),by omega,rfl,j+1,rfl,by omega,?_⟩;simp only[aql,az5,az6,aj7,avd,az4,aq9,aq7,aq6,azi,aqa,astep,bop,uop,loadA,storeA,appA,ssliceA,eqA,eqCells,fillA,rowsA,setCells,A.cells,A.one,A.data,azy,ZC,Yt,ZY,Zx,ZR,YA,YH,YO,ZZ,Yo,ZW,Ym,ZN,ZH,ZM,ZF,Zh,Zy,Zk,Zo,ZB,Yf,Yu,Yv,ZU,Z3,Yk,YY,Za,Yl,Nat.reduceAdd,Nat.reduceSub,Nat.reduceMul,Nat.reduceLeDiff,Nat.reduceEqDiff,Nat.reduceBEq,Yb,YI,if_true,if_false,reduceIte,ite_true,ite_false,true_and,and_true,ne_eq,Yh,Ys,Zi,reduceCtorEq,and_self,YD,Yg,Zf,ZP,ZL,decide_true,decide_false,htk,e5',Zg,t3,Int.natCast_add,Int.natCast_one,Zk]
    ·have hlt2:¬(j:Int)<((V.cellss is).length:Int):=by rw[V.cellss_length];omega
     rw[ZD (by omega)]at t0;refine go0 (ai @azd (ai t0 (ai t3 (ai t5 hlt2)))) ?_;exact⟨_,le_refl _,by rw[azi,Zg,Zg]⟩
 ·rw[if_neg hk45]at hlen⊢;rw[ZB];have e4:(k==4)=false:=by simp;omega
  have e5:(k==5)=false:=by simp;omega
  refine go0 (ai @V_A (ai @azd (ai e1 (ai e2 (ai e3 (ai e4 e5)))))) ?_;exact Fn rfl
theorem aye(s:List UInt8)(hs:s.length≤1000000000)(h:Hp):AT 88 [.str s] h (.str (Crc.app s)):=
 azo (aqu aqt) (fun w hg=>bzv ⟨s.toArray⟩ w (by rw[size_mk];exact hs)) (fun C=>rep_str.2 rfl) h
theorem bzq(b:Bool)(h:Hp):AT 164 [.bool b] h (.int .i64 (if b=true then 1 else 0)):=by
 refine pcall ?_ rfl (by simp[A.pure,A.data]) h;refine fo ?_;cases b<;>((refine azc ti ti ?_);exact Fn rfl)
theorem ajz{α:Type}(f:α→List UInt8)(l:List α)(j:Nat):((l.take j).flatMap f).length≤(l.flatMap f).length:=by
 have h:l.flatMap f=(l.take j).flatMap f++(l.drop j).flatMap f:=by rw[←Yn,Yq]
 rw[h,Za];omega
theorem aj4{α:Type}(f:α→List UInt8)(l:List α)(j:Nat)(hj:j<l.length):(l.take (j+1)).flatMap f=(l.take j).flatMap f++f l[j]:=by
 rw[ZV hj,Yn];simp
theorem ayh(dst:List UInt8)(l:List (List UInt8))(hl:l.length≤1000000000)(hb:dst.length+(Wire.num l.length).length+(Sf.wordsE l).length+10≤1000000000)(h:Hp):AT 165 [.str dst,.sl 1 .no (strsA l)] h (.str (dst++Wire.num l.length++Sf.wordsE l)):=by
 refine pcall ?_ rfl (by simp[A.pure,A.data]) h;refine fo ?_;have cn:=azg dst (l.length:Int) (by omega) (by omega) (by omega);have ls:=aze l;obtain⟨D,hD⟩:=Ex (dst++Wire.num l.length);have hDl:D.length=dst.length+(Wire.num l.length).length:=by rw[←hD,Za]
 rw[hD]at cn⊢;refine azc ls (ai cn ti) ?_;refine azf (fun m ts hh=>hh=⟨[],[]⟩∧∃j:Nat,m=l.length-j∧j≤l.length∧(ts 0=.str (D++(l.take j).flatMap Wire.strE)∧ts 1=.sl 1 .no (strsA l)∧ts 5=.int .i64 (j:Nat))) l.length ?_ ?_
 ·refine⟨rfl,0,rfl,Zz _,?_⟩;rw[show(l.take 0).flatMap Wire.strE=[]from rfl,ZB];(exact azq ti)
 rintro m ts hh ⟨rfl,j,rfl,hj,ht⟩;rcases Z7 j l.length with hlt|hge
 ·have hf:=byi l j hlt (by omega);have h1:=ajz Wire.strE l (j+1);have h2:=aj4 Wire.strE l j hlt;rw[h2,Za]at h1;obtain⟨s,hs⟩:=Ex (l[j]);rw[hs]at hf h1 h2;have hw:(l.flatMap Wire.strE).length=(Sf.wordsE l).length:=rfl;have hse:s.length≤(Wire.strE s).length:=by unfold Wire.strE;rw[Za];omega
  obtain⟨T,hT⟩:=Ex ((l.take j).flatMap Wire.strE);rw[hT]at ht h1 h2;have ca:=az2 (D++T) s (by rw[Za];omega);rw[Zg,←h2]at ca;refine azc (ai ht hf) (ai ca ti) ?_;exact⟨_,by omega,rfl,j+1,rfl,by omega,by(exact azq (ai ht hf))⟩
 ·have hf:=ai ls (show¬(j:Int)<(l.length:Int) by omega);rw[ZD hge]at ht;refine azc (ai ht hf) ti ?_;exact Fn rfl
theorem bqp(ver:Int)(hver:ver=1∨ver=2)(dst:List UInt8)(x:Sf.Inst)(hx:Sf.InstIn x)(hc:∃lv b,(Val.chk x.attrs lv b).1=0)(hv:-9223372036854775808≤x.ver∧x.ver≤9223372036854775807)(hb:dst.length+(Sf.instE ver x).length+20≤1000000000)(h:Hp):
  AT 130 [.str dst,.agg x.cells,.int .i64 ver] h (.str (dst++Sf.instE ver x)):=by
 have hn:=hx.n;have hL:=hx.l;obtain⟨a,d,id,ty,⟨k,n,w,vi,vy⟩,v,tn,fi,ds⟩:=x;dsimp only at hc hv hn hL;have se:∀s:List UInt8,s.length≤(Wire.strE s).length:=fun s=>by unfold Wire.strE;rw[Za];omega
 have sa:=se a;have sd:=se d;have si:=se id;have st:=se ty;unfold Sf.instE at hb;simp only[Za]at hb;have hfl:(if ver=2 then Sf.flagE fi else[]).length≤(Sf.flagE fi).length:=by split<;>simp
 have n10:∀m:Int,(Wire.num m).length≤10:=fun m=>(Wire.encF_len 9 (Wire.zig m)).2
 have f10:=n10 (if tn=true then 1 else 0);have g10:=n10 (if fi=true then 1 else 0);have hft:(Sf.flagE tn).length=(Wire.num (if tn=true then 1 else 0)).length:=rfl;have c1:=az2 dst a (by omega);have c2:=az2 (dst++Wire.strE a) d (by simp only[Za];omega);have c3:=az2 (dst++Wire.strE a++Wire.strE d) id (by simp only[Za];omega);have c4:=az2 (dst++Wire.strE a++Wire.strE d++Wire.strE id) ty (by simp only[Za];omega);obtain⟨D,hD⟩:=Ex (dst++Wire.strE a++Wire.strE d++Wire.strE id++Wire.strE ty);have hDl:D.length=dst.length+(Wire.strE a).length+(Wire.strE d).length+(Wire.strE id).length+(Wire.strE ty).length:=by rw[←hD];simp only[Za]
 rw[hD]at c4;have c5:=fun h=>ajh (.mk k n w vi vy) D h hc (by omega) hL
 simp only[V.A,V.cells]at c5;obtain⟨E,hE⟩:=Ex (D++Val.enc (.mk k n w vi vy));have hEl:E.length=D.length+(Val.enc (.mk k n w vi vy)).length:=by rw[←hE,Za]
 rw[hE]at c5;have c6:=azg E v (by omega) hv.1 hv.2;have cb:=bzq tn;have cb2:=bzq fi;have c7:=azg (E++Wire.num v) (if tn=true then 1 else 0) (by simp only[Za];omega) (by split<;>decide) (by split<;>decide);obtain⟨F,hF⟩:=Ex (E++Wire.num v++Wire.num (if tn=true then 1 else 0));have hFl:F.length=E.length+(Wire.num v).length+(Wire.num (if tn=true then 1 else 0)).length:=by rw[←hF];simp only[Za]
 rw[hF]at c7;have hres:∀fl,(if ver=2 then Sf.flagE fi else[])=fl→F++fl++Wire.num ds.length++Sf.wordsE ds=dst++Sf.instE ver ⟨a,d,id,ty,.mk k n w vi vy,v,tn,fi,ds⟩:=fun fl e=>by
  rw[←hF,←hE,←hD,←e];unfold Sf.instE Sf.flagE;simp only[Zg]
 refine pcall ?_ rfl (by simp[A.pure,A.data,Sf.Inst.cells]) h;refine fo ?_;dsimp only[Sf.Inst.cells];rcases hver with rfl|rfl
 ·have e1:¬(1:Int)≥2:=by decide
  rw[if_neg (by decide)]at hres hb hfl;have cw:=ayh F ds (by omega) (by simp only[Zy]at hb;omega);have:=hres [] rfl;rw[ZB]at this;rw[this]at cw;refine azc e1 (ai c1 (ai c2 (ai c3 (ai c4 (ai c5 (ai c6 (ai cb (ai c7 (ai cw ti))))))))) ?_;exact Fn rfl
 ·have e1:(2:Int)≥2:=by decide
  rw[if_pos rfl]at hres hb hfl;have hgt:(Sf.flagE fi).length=(Wire.num (if fi=true then 1 else 0)).length:=rfl;have c8:=azg F (if fi=true then 1 else 0) (by omega) (by split<;>decide) (by split<;>decide);have cw:=ayh (F++Wire.num (if fi=true then 1 else 0)) ds (by omega) (by simp only[Za];omega);have e:=hres _ rfl;rw[show Sf.flagE fi=Wire.num (if fi=true then 1 else 0)from rfl]at e;rw[e]at cw;refine azc e1 (ai c1 (ai c2 (ai c3 (ai c4 (ai c5 (ai c6 (ai cb (ai c7 (ai cb2 (ai c8 (ai cw ti))))))))))) ?_;refine azc e1 (ai c8 (ai cw ti)) ?_;exact Fn rfl
theorem bj7{ver:Int}(hver:ver=1∨ver=2)(st:Sf.St)(hin:Sf.StIn st)(htp:Sf.TypIn st)(hlen:Sf.checkZ st=0→(Sf.stE ver st).length+20≤1000000000)(h:Hp):
  AT 162 [st.A,.int .i64 ver] h (.tup [.str (Sf.encode ver st).1,.int .i64 (Sf.encode ver st).2]):=by
 have hok:=fun hz=>Sf.stOk_of (s:=st) hz hin
 have hck:=ayk st hin htp;obtain⟨r,hr⟩:=Ex (Sf.encode ver st);rw[hr];unfold Sf.encode at hr;have hS:Sf.stE ver st=Sf.magic++Wire.num ver++Wire.strE st.lin++Wire.num st.ser++Wire.num st.insts.length++st.insts.flatMap (Sf.instE ver)++(if ver=2 then Wire.num st.pends.length++st.pends.flatMap Sf.pendE else[])++Wire.num st.outs.length++st.outs.flatMap Sf.outE:=rfl;obtain⟨Z,hZ⟩:=Ex (Sf.checkZ st);obtain⟨E,hEq⟩:=Ex (Sf.stE ver st);rw[hZ]at hr hck hok hlen;rw[hEq]at hr hlen hS;have hin':=hin.insts;obtain⟨lin,ser,ins,ps,os⟩:=st;dsimp only at hS hin';refine pcall ?_ rfl (by simp[A.pure,A.data,Sf.St.A]) h;refine fo ?_;dsimp only[Sf.St.A];dsimp only[Sf.St.A]at hck;have li:(ins.map Sf.Inst.cells).length=ins.length∧(ps.map Sf.Pend.cells).length=ps.length∧(os.map Sf.Outp.cells).length=os.length:=⟨Zj _,Zj _,Zj _⟩;by_cases hz:Z=0
 rotate_left
 ·have e1:(Z !=0)=true:=by simp[hz]
  rw[if_pos hz]at hr;subst hr;refine azc e1 (ai hck ti) ?_;exact Fn rfl
 have e1:(Z !=0)=false:=by simp[hz]
 rw[if_neg (by simp[hz])]at hr;obtain⟨oi,oo,s0,s1,l1,l2,l3⟩:=hok hz;have hl:=hlen hz;dsimp only at oi oo s0 s1 l1 l2 l3;have n10:∀m:Int,(Wire.num m).length≤10:=fun m=>(Wire.encF_len 9 (Wire.zig m)).2
 have se:∀s:List UInt8,s.length≤(Wire.strE s).length:=fun s=>by unfold Wire.strE;rw[Za];omega
 have sl:=se lin;have hsl:=congrArg List.length hS;simp only[Za]at hsl;have v0:-9223372036854775808≤ver∧ver≤9223372036854775807:=by omega
 have c1:=azg Sf.magic ver (by decide) v0.1 v0.2;have c2:=az2 (Sf.magic++Wire.num ver) lin (by rw[Za];omega);have c3:=azg (Sf.magic++Wire.num ver++Wire.strE lin) ser (by simp only[Za];omega) s0 s1;have c4:=azg (Sf.magic++Wire.num ver++Wire.strE lin++Wire.num ser) ins.length (by simp only[Za];omega) (by omega) (by omega);unfold Sf.magic at c1;obtain⟨D,hD⟩:=Ex (Sf.magic++Wire.num ver++Wire.strE lin++Wire.num ser++Wire.num ins.length);have hDl:=congrArg List.length hD;simp only[Za]at hDl;rw[hD]at c4 hS;refine azc (ai e1 li) (ai hck (ai c1 (ai c2 (ai c3 (ai c4 ti))))) ?_
 refine azf (fun m ts hh=>∃(j:Nat) (l:List Blk),m=ins.length-j∧j≤ins.length∧hh=⟨.cells 33 [.str lin,.int .i64 ser,.sl 13 .no (ins.map Sf.Inst.cells),.sl 3 .no (ps.map Sf.Pend.cells),.sl 7 .no (os.map Sf.Outp.cells)]::l,[]⟩ ∧
  (ts 1=.int .i64 ver∧ts 2=.ptr 0 0∧ts 7=.str (D++(ins.take j).flatMap (Sf.instE ver))∧ts 8=.int .i64 (j:Nat))) ins.length ?_ ?_
 ·refine⟨0,[],rfl,Zz _,rfl,?_⟩;rw[show(ins.take 0).flatMap (Sf.instE ver)=[]from rfl,ZB];(exact azq ti)
 rintro m ts hh ⟨j,l,rfl,hj,rfl,ht⟩;rcases Z7 j ins.length with hlt|hge
 ·have hf:=axp Sf.Inst.cells ins j hlt (by omega);have h1:=ajz (Sf.instE ver) ins (j+1);have h2:=aj4 (Sf.instE ver) ins j hlt;rw[h2,Za]at h1;have hix:=hin' _ (Zt hlt);have hox:=oi _ (Zt hlt);obtain⟨x,hx⟩:=Ex (ins[j]);rw[hx]at hf h1 h2 hix hox;obtain⟨T,hT⟩:=Ex ((ins.take j).flatMap (Sf.instE ver));rw[hT]at ht h1 h2;obtain⟨o1,o2,o3,o4⟩:=hox;have ca:=bqp ver hver (D++T) x hix o1 ⟨o3,o4⟩ (by rw[Za];omega);rw[Zg,←h2]at ca;obtain⟨a,d,id,ty,⟨k,n,w,vi,vy⟩,v,tn,fi,ds⟩:=x;dsimp only[Sf.Inst.cells]at hf ca;refine azc (ai ht (ai hf li)) (ai ca ti) ?_;exact⟨_,by omega,j+1,_,rfl,by omega,rfl,by(exact azq (ai ht hf))⟩
 have hf:=ax7 Sf.Inst.cells ins j hge;rw[ZD hge]at ht;obtain⟨D1,hD1⟩:=Ex (D++ins.flatMap (Sf.instE ver));have hD1l:=congrArg List.length hD1;simp only[Za]at hD1l;rw[hD1]at ht hS;refine azc (ai ht (ai hf li)) ti ?_;obtain⟨D2,hD2⟩:=Ex (D1++(if ver=2 then Wire.num ps.length++ps.flatMap Sf.pendE else[]));have hD2l:=congrArg List.length hD2;simp only[Za]at hD2l;rw[hD2]at hS;refine aj8 (fun ts' h'=>(∃l',h'=⟨.cells 33 [.str lin,.int .i64 ser,.sl 13 .no (ins.map Sf.Inst.cells),.sl 3 .no (ps.map Sf.Pend.cells),.sl 7 .no (os.map Sf.Outp.cells)]::l',[]⟩)∧(ts' 2=.ptr 0 0∧ts' 7=.str D2)) ?_ ?_
 ·rcases hver with rfl|rfl
  ·have e2:¬(1:Int)≥2:=by decide
   rw[if_neg (by decide),ZB]at hD2;subst hD2;refine azc (ai e2 ht) ti ?_;exact⟨⟨_,rfl⟩,by(exact azq ht)⟩
  have e2:(2:Int)≥2:=by decide
  rw[if_pos rfl]at hD2 hsl hD2l;simp only[Za]at hsl hD2l;have cp:=azg D1 ps.length (by omega) (by omega) (by omega);rw[←Zg]at hD2;obtain⟨P,hP⟩:=Ex (D1++Wire.num ps.length);have hPl:=congrArg List.length hP;simp only[Za]at hPl;rw[hP]at cp hD2;refine azc (ai e2 (ai ht li)) (ai cp ti) ?_
  refine azf (fun m ts hh=>∃(j:Nat) (l:List Blk),m=ps.length-j∧j≤ps.length∧hh=⟨.cells 33 [.str lin,.int .i64 ser,.sl 13 .no (ins.map Sf.Inst.cells),.sl 3 .no (ps.map Sf.Pend.cells),.sl 7 .no (os.map Sf.Outp.cells)]::l,[]⟩ ∧
   (ts 2=.ptr 0 0∧ts 7=.str (P++(ps.take j).flatMap Sf.pendE)∧ts 9=.int .i64 (j:Nat))) ps.length ?_ ?_
  ·refine⟨0,_,rfl,Zz _,rfl,?_⟩;rw[show(ps.take 0).flatMap Sf.pendE=[]from rfl,ZB];(exact azq ht)
  rintro m ts' hh ⟨j',l',rfl,hj',rfl,hu⟩;rcases Z7 j' ps.length with hlt|hge'
  ·have hf:=axp Sf.Pend.cells ps j' hlt (by omega);have h1:=ajz Sf.pendE ps (j'+1);have h2:=aj4 Sf.pendE ps j' hlt;rw[h2,Za]at h1;obtain⟨x,hx⟩:=Ex (ps[j']);rw[hx]at hf h1 h2;obtain⟨T,hT⟩:=Ex ((ps.take j').flatMap Sf.pendE);rw[hT]at hu h1 h2;obtain⟨a,ty,tok⟩:=x;dsimp only[Sf.Pend.cells]at hf;have hpe:Sf.pendE ⟨a,ty,tok⟩=Wire.strE a++Wire.strE ty++Wire.strE tok:=rfl;rw[hpe]at h1 h2;simp only[Za]at h1;have sa:=se a;have st:=se ty;have sk:=se tok;have p1:=az2 (P++T) a (by rw[Za];omega);have p2:=az2 (P++T++Wire.strE a) ty (by simp only[Za];omega);have p3:=az2 (P++T++Wire.strE a++Wire.strE ty) tok (by simp only[Za];omega);have hq:P++T++Wire.strE a++Wire.strE ty++Wire.strE tok=P++(ps.take (j'+1)).flatMap Sf.pendE:=by rw[h2];simp only[Zg]
   rw[hq]at p3;refine azc (ai hu (ai hf li)) (ai p1 (ai p2 (ai p3 ti))) ?_;exact⟨_,by omega,j'+1,_,rfl,by omega,rfl,by(exact azq (ai hu hf))⟩
  have hf:=ax7 Sf.Pend.cells ps j' hge';rw[ZD hge',hD2]at hu;refine azc (ai hu (ai hf li)) ti ?_;exact⟨⟨_,rfl⟩,by(exact azq hu)⟩
 rintro ts' hh ⟨⟨l',rfl⟩,hu⟩;have cp:=azg D2 os.length (by omega) (by omega) (by omega);obtain⟨P,hP⟩:=Ex (D2++Wire.num os.length);have hPl:=congrArg List.length hP;simp only[Za]at hPl;rw[hP]at cp hS;refine azc (ai hu li) (ai cp ti) ?_
 refine azf (fun m ts hh=>∃(j:Nat) (l:List Blk),m=os.length-j∧j≤os.length∧hh=⟨.cells 33 [.str lin,.int .i64 ser,.sl 13 .no (ins.map Sf.Inst.cells),.sl 3 .no (ps.map Sf.Pend.cells),.sl 7 .no (os.map Sf.Outp.cells)]::l,[]⟩ ∧
  (ts 2=.ptr 0 0∧ts 7=.str (P++(os.take j).flatMap Sf.outE)∧ts 11=.int .i64 (j:Nat))) os.length ?_ ?_
 ·refine⟨0,_,rfl,Zz _,rfl,?_⟩;rw[show(os.take 0).flatMap Sf.outE=[]from rfl,ZB];(exact azq hu)
 rintro m ts' hh ⟨j',l',rfl,hj',rfl,hu⟩;rcases Z7 j' os.length with hlt|hge'
 ·have hf:=axp Sf.Outp.cells os j' hlt (by omega);have h1:=ajz Sf.outE os (j'+1);have h2:=aj4 Sf.outE os j' hlt;rw[h2,Za]at h1;have hox:=oo _ (Zt hlt);obtain⟨x,hx⟩:=Ex (os[j']);rw[hx]at hf h1 h2 hox;obtain⟨T,hT⟩:=Ex ((os.take j').flatMap Sf.outE);rw[hT]at hu h1 h2;obtain⟨nm,⟨k,n,w,vi,vy⟩,sn⟩:=x;dsimp only[Sf.Outp.cells]at hf;have hpe:Sf.outE ⟨nm,.mk k n w vi vy,sn⟩=Wire.strE nm++Val.enc (.mk k n w vi vy)++Sf.flagE sn:=rfl;rw[hpe]at h1 h2;dsimp only at hox;simp only[Za]at h1;have sa:=se nm;have p1:=az2 (P++T) nm (by rw[Za];omega);obtain⟨F,hF⟩:=Ex (P++T++Wire.strE nm);have hFl:=congrArg List.length hF;simp only[Za]at hFl;rw[hF]at p1;have p2:=fun h=>ajh (.mk k n w vi vy) F h hox.1 (by omega) hox.2
  simp only[V.A,V.cells]at p2;have cb:=bzq sn;have p3:=azg (F++Val.enc (.mk k n w vi vy)) (if sn=true then 1 else 0) (by simp only[Za];omega) (by split<;>decide) (by split<;>decide);have hq:F++Val.enc (.mk k n w vi vy)++Wire.num (if sn=true then 1 else 0)=P++(os.take (j'+1)).flatMap Sf.outE:=by
   rw[h2,←hF];unfold Sf.flagE;simp only[Zg]
  rw[hq]at p3;refine azc (ai hu (ai hf li)) (ai p1 (ai p2 (ai cb (ai p3 ti)))) ?_;exact⟨_,by omega,j'+1,_,rfl,by omega,rfl,by(exact azq (ai hu hf))⟩
 have hf:=ax7 Sf.Outp.cells os j' hge';rw[ZD hge',←hS]at hu;have cc:=aye E (by omega);have hla:((Crc.app E).length:Int)=E.length+4:=by simp[Crc.app,Crc.four_length]
 by_cases hg:1048572<E.length
 ·have e3:((Crc.app E).length:Int)>1048576:=by omega
  rw[if_pos hg]at hr;subst hr;refine azc (ai hu (ai hf (ai li e3))) (ai cc ti) ?_;exact Fn rfl
 ·have e3:¬((Crc.app E).length:Int)>1048576:=by omega
  rw[if_neg hg]at hr;subst hr;refine azc (ai hu (ai hf (ai li e3))) (ai cc ti) ?_;exact Fn rfl
theorem bj8(st:Sf.St)(hin:Sf.StIn st)(htp:Sf.TypIn st)(hlen:Sf.checkZ st=0→(Sf.stE 2 st).length+20≤1000000000)(h:Hp):
  AT 129 [st.A] h (.tup [.str (Sf.encode 2 st).1,.int .i64 (Sf.encode 2 st).2]):=by
 refine pcall ?_ rfl (by simp[A.pure,A.data,Sf.St.A]) h;refine fo ?_;have he:=bj7 (.inr rfl) st hin htp hlen;unfold Sf.St.A at he⊢;refine azc ti (ai he ti) ?_;exact Fn rfl
end AX
namespace Jr
def bodyR(r:Jr):List UInt8×Int:=if r.kind=1∧(Sf.encode 2 r.base).2≠0 then([],(Sf.encode 2 r.base).2)else(r.body,0)
theorem encode_len2(ver:Int)(st:Sf.St):(Sf.encode ver st).1.length≤1048576:=by
 unfold Sf.encode;split
 ·simp
 ·split
  ·simp
  ·next h=>show(Crc.app _).length≤_;simp[Crc.app,Crc.four];omega
theorem enc_body(r:Jr)(hv:r.validB=true):enc r=if r.bodyR.2≠0 then([],r.bodyR.2)else if 1048576<(Crc.app (Wire.strE r.bodyR.1)).length then([],3)else(Crc.app (Wire.strE r.bodyR.1),0):=by
 unfold enc bodyR;rw[if_neg (by rw[hv];decide)];by_cases h:r.kind=1∧(Sf.encode 2 r.base).2≠0
 ·rw[if_pos h,if_pos h,if_pos h.2]
 ·rw[if_neg h,if_neg h];dsimp only;rw[if_neg (show¬((0:Int)≠0) by decide)]
end Jr
namespace AX
theorem byv(x:Sf.Inst)(hx:Jr.InstE x)(hl:x.attrs.lens):Sf.InstIn x:=⟨hx.a,hx.d,hx.i,hl,by have:=hx.n;omega,hx.ds⟩
theorem cyq(r:Jr)(hv:r.validB=true)(hl:JrLen r)(hin:Sf.StIn r.base)(htp:Sf.TypIn r.base)(hlen:Sf.checkZ r.base=0→(Sf.stE 2 r.base).length+20≤1000000000)(h:Hp):
  AT 87 [.agg r.cells] h (.tup [.str r.bodyR.1,.int .i64 r.bodyR.2]):=by
 have ce:=bj8 r.base hin htp hlen;obtain⟨l1,l2,l3,l4⟩:=hl;have nl:∀n:Int,(Wire.num n).length≤10:=fun n=>(Wire.encF_len 9 (Wire.zig n)).2
 have sl:∀s:List UInt8,(Wire.strE s).length≤s.length+10:=fun s=>by unfold Wire.strE;rw[Za];have:=nl s.length;omega
 have sg:∀s:List UInt8,s.length≤(Wire.strE s).length:=fun s=>by unfold Wire.strE;rw[Za];omega
 have hk:=hv;unfold Jr.validB at hk;have hbad:¬Jr.badB r=true:=fun e=>by rw[if_pos e]at hk;cases hk
 rw[if_neg hbad]at hk;have fitE:=Jr.encode_len2 2 r.base;have hse:r.stepB=true→StepE r:=fun hs=>by
  unfold Jr.stepB at hs;simp only[Zc,Zm]at hs;obtain⟨⟨⟨⟨s0,s1⟩,o0⟩,o1⟩,_⟩:=hs;exact⟨by omega,by omega,by omega,by omega⟩
 have hae:Jr.afterB r=true→Jr.InstE r.after:=fun ha=>Jr.afterB_enc (op:=r.op) (by unfold Jr.afterB at ha;exact ha)
 have ci:=fun(ha:Jr.afterB r=true) (s:List UInt8) (hs:s.length≤200000000)=>bqp 2 (.inr rfl) s r.after (byv _ (hae ha) l4) ⟨1,0,(hae ha).v⟩ ⟨(hae ha).v0,(hae ha).v1⟩ (by omega)
 have hbody:r.body=Wire.num r.kind++Jr.restE r (Sf.encode 2 r.base).1:=rfl;unfold Jr.restE at hbody;obtain⟨N,hN⟩:=Ex (Jr.bodyR r);have hN':=hN;unfold Jr.bodyR at hN';rw[hN];clear hN;obtain⟨B,hB⟩:=Ex ((Sf.encode 2 r.base).1);obtain⟨E,hE⟩:=Ex ((Sf.encode 2 r.base).2);rw[hB,hE]at ce;rw[hB]at hbody fitE;rw[hE]at hN';have hS1:∀k:Int,Wire.num k++Jr.stepE r=Wire.num k++Wire.num r.step++Wire.num r.op++Wire.strE r.addr++Wire.strE r.dep++Wire.strE r.typ:=fun k=>by simp only[Jr.stepE,Zg]
 have hSl:(Jr.stepE r).length=(Wire.num r.step).length+(Wire.num r.op).length+(Wire.strE r.addr).length+(Wire.strE r.dep).length+(Wire.strE r.typ).length:=by simp only[Jr.stepE,Za]
 have ga:=sg r.addr;have gd:=sg r.dep;have gt:=sg r.typ;obtain⟨S1,hS⟩:=Ex (Jr.stepE r);rw[hS]at hbody l1 hS1 hSl;obtain⟨I1,hI1⟩:=Ex (Sf.instE 2 r.after);rw[hI1]at ci hbody l2;obtain⟨X,hX⟩:=Ex (r.body);rw[hX]at hbody hN';clear hv hbad hX hS hI1 hB hE hae;obtain⟨kd,⟨lin,ser,ins,ps,os⟩,st,op,ad,dp,ty,tk,er,⟨a1,a2,a3,a4,⟨k,nn,ss,is,ks⟩,v,tn,fi,ds⟩⟩:=r;dsimp only at hk hbody hN' l3 hS1 hSl ga gd gt;simp only[Sf.Inst.cells,Sf.St.A]at ce ci;simp only[Jr.cells,Sf.Inst.cells,Zo,Zk];refine pcall ?_ rfl (by simp[A.pure,A.data]) h;refine fo ?_;have c0:=fun(k:Int) (h0:-9223372036854775808≤k) (h1:k≤9223372036854775807)=>azg [] k (by simp) h0 h1
 simp only[Zk]at c0;have chain:∀kk:Int,StepE ⟨kk,⟨lin,ser,ins,ps,os⟩,st,op,ad,dp,ty,tk,er,⟨a1,a2,a3,a4,⟨k,nn,ss,is,ks⟩,v,tn,fi,ds⟩⟩ →
   (∀h,AT 128 [.str (Wire.num kk),.int .i64 st] h (.str (Wire.num kk++Wire.num st))) ∧
   (∀h,AT 128 [.str (Wire.num kk++Wire.num st),.int .i64 op] h (.str (Wire.num kk++Wire.num st++Wire.num op))) ∧
   (∀h,AT 89 [.str (Wire.num kk++Wire.num st++Wire.num op),.str ad] h (.str (Wire.num kk++Wire.num st++Wire.num op++Wire.strE ad))) ∧
   (∀h,AT 89 [.str (Wire.num kk++Wire.num st++Wire.num op++Wire.strE ad),.str dp] h (.str (Wire.num kk++Wire.num st++Wire.num op++Wire.strE ad++Wire.strE dp))) ∧
   (∀h,AT 89 [.str (Wire.num kk++Wire.num st++Wire.num op++Wire.strE ad++Wire.strE dp),.str ty] h (.str (Wire.num kk++S1))):=by
  intro kk hs;have nk:=nl kk;refine⟨azg _ _ (by omega) hs.s0 hs.s1,azg _ _ (by rw[Za];omega) hs.o0 hs.o1,az2 _ _ (by simp only[Za];omega),az2 _ _ (by simp only[Za];omega),?_⟩;rw[hS1];exact az2 _ _ (by simp only[Za];omega)
 by_cases k5:kd=5
 ·subst k5;rw[if_neg (by decide),if_neg (by decide),if_neg (by decide),if_neg (by decide),ZB]at hbody;rw[if_neg (fun h1=>absurd h1.1 (by decide))]at hN';subst hN';have cn:=c0 5 (by decide) (by decide);rw[←hbody]at cn;refine azc ti (ai cn ti) ?_;exact Fn rfl
 have f5:(kd==5)=false:=by simp[k5]
 by_cases k1:kd=1
 ·subst k1;rw[if_pos rfl]at hbody;have cn:=c0 1 (by decide) (by decide);have ct:=az2 (Wire.num 1) B (by have:=nl 1;omega);rw[←hbody]at ct;by_cases hE0:E=0
  rotate_left
  ·have e1:(E !=0)=true:=by simp[hE0]
   rw[if_pos ⟨rfl,hE0⟩]at hN';subst hN';refine azc e1 (ai cn (ai ce ti)) ?_;exact Fn rfl
  ·subst hE0;rw[if_neg (fun h1=>h1.2 rfl)]at hN';subst hN';refine azc ti (ai cn (ai ce (ai ct ti))) ?_;exact Fn rfl
 have f1:(kd==1)=false:=by simp[k1]
 rw[if_neg (fun h1=>k1 h1.1)]at hN';subst hN';rw[if_neg k1]at hbody;rw[if_neg (by rintro(h|h)<;>contradiction)]at hk;by_cases k2:kd=2
 ·subst k2;rw[if_pos rfl]at hbody;rw[if_pos rfl,Zc,Zc,Zc]at hk;obtain⟨n1,n2,s1,s2,s3⟩:=chain 2 (hse hk.1.1.1);have cn:=c0 2 (by decide) (by decide);have s4:=az2 (Wire.num 2++S1) tk (by rw[Za];have:=nl 2;omega);rw[Zg,←hbody]at s4;refine azc ti (ai cn (ai n1 (ai n2 (ai s1 (ai s2 (ai s3 (ai s4 ti))))))) ?_;exact Fn rfl
 have f2:(kd==2)=false:=by simp[k2]
 rw[if_neg k2]at hbody hk;by_cases k3:kd=3
 ·subst k3;rw[if_pos rfl]at hbody hk;rw[Zc]at hk;obtain⟨n1,n2,s1,s2,s3⟩:=chain 3 (hse hk.1);have cn:=c0 3 (by decide) (by decide);have s4:=ci hk.2 (Wire.num 3++S1) (by rw[Za];have:=nl 3;omega);rw[Zg,←hbody]at s4;refine azc ti (ai cn (ai n1 (ai n2 (ai s1 (ai s2 (ai s3 (ai s4 ti))))))) ?_;exact Fn rfl
 have f3:(kd==3)=false:=by simp[k3]
 rw[if_neg k3]at hbody hk;by_cases k4:kd=4
 ·subst k4;rw[if_pos rfl]at hbody hk;rw[Zc,Zc,Zc,Zm,Zm]at hk;obtain⟨n1,n2,s1,s2,s3⟩:=chain 4 (hse hk.1.1.1);have cn:=c0 4 (by decide) (by decide);have ne:=nl er;have n4:=nl 4;have s4:=azg (Wire.num 4++S1) er (by rw[Za];omega) (by omega) (by omega);have s5:=ci hk.1.1.2 (Wire.num 4++S1++Wire.num er) (by simp only[Za];omega);have hb2:Wire.num 4++S1++Wire.num er++I1=X:=by rw[hbody];simp only[Zg]
  rw[hb2]at s5;refine azc ti (ai cn (ai n1 (ai n2 (ai s1 (ai s2 (ai s3 (ai s4 (ai s5 ti)))))))) ?_;exact Fn rfl
 rw[if_neg k4]at hk;cases hk
theorem czz(r:Jr)(hl:JrLen r)(hd:r.after.deps.length≤1000000000)(hin:Sf.StIn r.base)(htp:Sf.TypIn r.base)(hlen:Sf.checkZ r.base=0→(Sf.stE 2 r.base).length+20≤1000000000)(h:Hp):
  AT 42 [.agg r.cells] h (.tup [.str (Jr.enc r).1,.int .i64 (Jr.enc r).2]):=by
 have cv:=cj6 r ⟨hin,hl.lens,hd⟩;rw[Jr.validR_eq]at cv;have cb:=fun hv=>cyq r hv hl hin htp hlen
 have nl:∀n:Int,(Wire.num n).length≤10:=fun n=>(Wire.encF_len 9 (Wire.zig n)).2
 have hbl:r.validB=true→r.bodyR.1.length≤300000000:=fun hv=>by
  have sl:∀s:List UInt8,(Wire.strE s).length≤s.length+10:=fun s=>by unfold Wire.strE;rw[Za];have:=nl s.length;omega
  have l1:=hl.step;have l2:=hl.inst;have l3:=hl.tok;have s1:=sl r.tok;have s2:=sl (Sf.encode 2 r.base).1;have s3:=Jr.encode_len2 2 r.base;have n1:=nl r.kind;have n2:=nl r.err;unfold Jr.bodyR;split
  ·simp
  ·unfold Jr.body Jr.restE;dsimp only;rw[Za]
   repeat' split
   all_goals (try simp only[Za,Zy])
   all_goals omega
 have he:=fun hv=>Jr.enc_body r hv
 have hi:r.validB=false→Jr.enc r=([],1):=fun hv'=>by unfold Jr.enc;rw[if_pos hv']
 obtain⟨⟨R,Z⟩,hR⟩:=Ex (Jr.enc r);obtain⟨⟨Y,E⟩,hY⟩:=Ex (Jr.bodyR r);rw[hR]at he hi⊢;rw[hY]at cb he hbl;dsimp only at cb he hbl⊢;obtain⟨b,hb⟩:=Ex (r.validB);rw[hb]at cv cb he hi hbl;clear hR hY hb hl hin htp hlen hd;obtain⟨kd,⟨lin,ser,ins,ps,os⟩,st,op,ad,dp,ty,tk,er,⟨a1,a2,a3,a4,⟨k,nn,ss,is,ks⟩,v,tn,fi,ds⟩⟩:=r;simp only[Jr.cells,Sf.Inst.cells,Zo,Zk]at cv cb⊢;refine pcall ?_ rfl (by simp[A.pure,A.data]) h;refine fo ?_;cases b with
 |false=>
  have h1:=hi rfl;injection h1 with h1 h2;subst h1;subst h2;refine azc ti (ai cv ti) ?_;exact Fn rfl
 |true=>
  have cb:=cb rfl;have he:=he rfl;have hbl:=hbl rfl;by_cases hE0:E=0
  rotate_left
  ·have e1:(E !=0)=true:=by simp[hE0]
   rw[if_pos hE0]at he;injection he with h1 h2;subst h1;subst h2;refine azc e1 (ai cv (ai cb ti)) ?_;exact Fn rfl
  subst hE0;rw[if_neg (by decide)]at he;have hn:=nl (Y.length:Int);have ca:=az2 [] Y (by simp only[Zy];omega);simp only[Zk]at ca;have cc:=aye (Wire.strE Y) (by unfold Wire.strE;rw[Za];omega);obtain⟨D,hD⟩:=Ex (Crc.app (Wire.strE Y));rw[hD]at he cc;by_cases g:(D.length:Int)>1048576
  ·rw[if_pos (by omega)]at he;injection he with h1 h2;subst h1;subst h2;refine azc g (ai cv (ai cb (ai ca (ai cc ti)))) ?_;exact Fn rfl
  ·rw[if_neg (by omega)]at he;injection he with h1 h2;subst h1;subst h2;refine azc g (ai cv (ai cb (ai ca (ai cc ti)))) ?_;exact Fn rfl
theorem by0(b:List UInt8)(hl:b.length≤2000000)(h:Hp):
  AT 15 [.str b] h (firstA b):=by
 refine cxp b hl (fun x hx h=>?_) h;have ht:(Sf.strS (Sf.rd b)).2.length≤2000000:=Zl (Sf.strS_len (Sf.rd b)) hl;obtain⟨h1,h2,h3,h4,h5,h6,h7⟩:=Jr.rec_size hx ht;exact cqj x ⟨h1,h2,h3,h4⟩ h5 (avx x.base h6) h7 h
theorem bks(rs:List Jr)(n:Int):(A.tup [.sl 26 .no (rs.map Jr.cells),.int .i64 n]).pure=true:=by
 simp[A.pure,A.data]
theorem ck1(b:List UInt8)(hl:b.length≤2000000)(h:Hp):
  AT 5 [.str b] h (.tup [.sl 26 .no ((Jr.readJ b).1.map Jr.cells),.int .i64 ((Jr.readJ b).2:Nat)]):=by
 refine pcall ?_ (bks _ _) (by simp[A.pure,A.data]) h;refine fo ?_;refine azb ti ?_;refine azf (fun mm ts h=>∃(a:Nat) (rs:List Jr) (W:Nat) (o:Own) (l:List Blk) (t:List (TypeId×Nat×Nat)),mm=b.length-a∧a≤b.length∧h=⟨l,t⟩∧Jr.readJ b=(rs++(Jr.readJ (b.drop a)).1,a+(Jr.readJ (b.drop a)).2)∧rs.length≤a∧Gs 44 26 0 ⟨[],t⟩ (rs.map Jr.cells) (.sl W o (rs.map Jr.cells))∧ts 0=.str b∧ts 4=.sl W o (rs.map Jr.cells)∧ts 5=.int .i64 (a:Nat)) b.length ?_ ?_
 ·exact⟨0,[],0,.nil,[],[],by omega,by omega,rfl,by simp,by simp,.inl ⟨rfl,rfl⟩,by(exact ev0 ti),by(exact ev0 ti),by(exact azq ti)⟩
 rintro mm ts h ⟨a,rs,W,o,l,t,rfl,ha,rfl,hr,hn,gX,t0,t4,t5⟩;have cf:=by0 (b.drop a) (by rw[Zv];omega);have hs:(0:Int)≤(a:Int)∧(a:Int)≤(b.length:Int):=by omega
 cases hF:Jr.firstJ (b.drop a)with
 |none=>
  have hA:firstA (b.drop a)=.tup [.agg Jr.zeroR.cells,.int .i64 0,.bool false]:=by unfold firstA;rw[hF]
  rw[hA]at cf;rw[Jr.readJ_none hF]at hr;simp only[Jr.cells,Jr.zeroR,Jr.zeroI,Sf.zero,Sf.Inst.cells,Zo,Zk]at cf;rw[hr];refine azb (ai t0 (ai t4 (ai t5 hs))) ?_;refine use (cf _) ?_;refine azb (ai t0 (ai t4 (ai t5 hs))) ?_;exact⟨.tup [.sl 26 .no (rs.map Jr.cells),.int .i64 (a:Nat)],⟨Gs.le gX,azx _,trivial⟩,by simp⟩
 |some p=>
  obtain⟨x,n⟩:=p;have hsm:=Jr.first_some hF;have hA:firstA (b.drop a)=.tup [.agg x.cells,.int .i64 (n:Nat),.bool true]:=by unfold firstA;rw[hF]
  rw[hA]at cf;rw[Jr.readJ_cons hF,YU]at hr;have hlen:n≤b.length-a:=by have:=hsm.2.2;rw[Zv]at this;exact this
  have ei:IntKind.i64.wrap ((a:Int)+(n:Int))=((a+n:Nat):Int):=by rw[wrap64 (by omega) (by omega)];omega
  obtain⟨W',o',t',hX,gX',kX⟩:=gX.grow 376 x.cells (by rw[Zj];omega) (by decide);have em:rs.map Jr.cells++[x.cells]=(rs++[x]).map Jr.cells:=by simp
  rw[em]at gX';simp only[em]at hX;obtain⟨rs2,hrs⟩:=Ex (rs++[x]);have hr2:Jr.readJ b=(rs2++(Jr.readJ (b.drop (a+n))).1,(a+n)+(Jr.readJ (b.drop (a+n))).2):=by
   rw[hr,←hrs,Nat.add_assoc];simp
  have hn2:rs2.length≤a+n:=by rw[←hrs];simp;omega
  rw[hrs]at gX' hX;clear hrs hr em hA hF;have h4:=hsm.2.1;clear hsm;obtain⟨B,hB⟩:∃B,B=Blk.cells 44 x.cells:=⟨_,rfl⟩;obtain⟨kd,⟨lin,ser,ins,ps,os⟩,st,op,ad,dp,ty,tk,er,⟨a1,a2,a3,a4,⟨k,nn,ss,is,ks⟩,v,tn,fi,ds⟩⟩:=x;simp only[Jr.cells,Sf.Inst.cells,Zo,Zk]at cf hX hB;refine azb (ai t0 (ai t4 (ai t5 hs))) ?_;refine use (cf _) ?_;refine azb (ai t0 (ai t4 (ai t5 (ai hs (ai hX ei))))) ?_;exact⟨b.length-(a+n),by omega,a+n,rs2,W',o',l++[B],t',rfl,by omega,by rw[hB],hr2,hn2,gX',by(exact ev0 t0),by(exact ev0 ti),by(exact ev0 ei)⟩
theorem bq7:∀v:V,Val.eqB v v=true:=by
 refine V.induct fun k n s is ks ih=>?_
 rw[Val.eqB];have:Val.eqBs is is=true:=by
  have key:∀l:List V,(∀x∈l,Val.eqB x x=true)→Val.eqBs l l=true:=by
   intro l;induction l with
   |nil=>intro _;rw[Val.eqBs]
   |cons x l ihl=>
    intro hl;rw[Val.eqBs,hl x (by simp),ihl fun y hy=>hl y (by simp[hy])];rfl
  exact key is ih
 simp[this]
namespace Sf
end Sf
theorem ck9(l:List (List UInt8))(hl:l.length≤1000000000)(h:Hp):AT 91 [.sl 1 .no (strsA l),.sl 1 .no (strsA l)] h (.bool true):=by
 refine pcall ?_ rfl (by simp[A.pure,A.data]) h;refine fo ?_;have li:=aze l;refine azb li ?_;refine azf (fun m ts hh=>hh=⟨[],[]⟩∧∃i:Nat,m=l.length-i∧i≤l.length∧(ts 0=.sl 1 .no (strsA l)∧ts 1=.sl 1 .no (strsA l)∧ts 5=.int .i64 (i:Nat))) l.length ?_ ?_
 ·exact⟨rfl,0,rfl,Zz _,by(exact azq li)⟩
 rintro m ts hh ⟨rfl,i,rfl,hi,ht⟩;rcases Z7 i l.length with hlt|hge
 ·have hf:(strsA l).length=l.length∧(i:Int)<(l.length:Int)∧(0:Int)≤(i:Int)∧(strsA l).getD i []=[.str l[i]]∧IntKind.i64.wrap ((i:Int)+1)=((i+1:Nat):Int):=ajn (fun s:List UInt8=>[A.str s]) l i hlt (by omega);refine azb (ai ht hf) ?_;exact⟨_,by omega,rfl,i+1,rfl,by omega,by(exact azq (ai ht hf))⟩
 ·have hf:¬(i:Int)<(l.length:Int):=by omega
  refine azb (ai ht (ai li hf)) ?_;exact Fn rfl
theorem bq9(x:Sf.Inst)(hx:x.attrs.lens)(hd:x.deps.length≤1000000000)(h:Hp):AT 44 [.agg x.cells,.agg x.cells] h (.bool true):=by
 have c1:=bzo x.attrs x.attrs hx hx;rw[bq7]at c1;have c2:=ck9 x.deps hd;obtain⟨a1,a2,a3,a4,⟨k,nn,ss,is,ks⟩,v,tn,fi,ds⟩:=x;simp only[Sf.Inst.cells,Zo,Zk,V.A,V.cells]at *;refine pcall ?_ rfl (by simp[A.pure,A.data]) h;refine fo ?_;refine azj ti (ai c1 (ai c2 ti)) ?_;exact Fn rfl
theorem cvi(st:Sf.St)(hin:Sf.StIn st)(h:Hp):AT 43 [st.A,st.A] h (.bool true):=by
 refine pcall ?_ rfl (by simp[A.pure,A.data,Sf.St.A]) h;refine fo ?_;have hli:=hin.li;have hlp:=hin.lp;have hlo:=hin.lo;have hci:=fun x (hx:x∈st.insts)=>bq9 x (hin.insts x hx).l (hin.insts x hx).n
 have hco:=fun x (hx:x∈st.outs)=>bzo x.value x.value (hin.outs x hx).2 (hin.outs x hx).2
 obtain⟨lin,ser,ins,ps,os⟩:=st;simp only[Sf.St.A];dsimp only at hli hlp hlo hci hco;have lm1:(ins.map Sf.Inst.cells).length=ins.length:=Zj _;have lm2:(ps.map Sf.Pend.cells).length=ps.length:=Zj _;have lm3:(os.map Sf.Outp.cells).length=os.length:=Zj _;refine azc (ai lm1 (ai lm2 lm3)) ti ?_;refine azf (fun m ts hh=>hh=⟨[.cells 33 [.str lin,.int .i64 ser,.sl 13 .no (ins.map Sf.Inst.cells),.sl 3 .no (ps.map Sf.Pend.cells),.sl 7 .no (os.map Sf.Outp.cells)],.cells 33 [.str lin,.int .i64 ser,.sl 13 .no (ins.map Sf.Inst.cells),.sl 3 .no (ps.map Sf.Pend.cells),.sl 7 .no (os.map Sf.Outp.cells)]],[]⟩∧∃(i:Nat),m=ins.length-i∧i≤ins.length∧(ts 2=.ptr 0 0∧ts 3=.ptr 1 0∧ts 5=.int .i64 (i:Nat))) ins.length ?_ ?_
 ·exact⟨rfl,0,rfl,Zz _,by(exact azq (ai lm1 (ai lm2 lm3)))⟩
 rintro m ts hh ⟨rfl,i,rfl,hi,ht⟩;rcases Z7 i ins.length with hlt|hge
 ·have hf:=ajn Sf.Inst.cells ins i hlt (by omega);have cx:=hci _ (Zt hlt);obtain⟨x,hx⟩:=Ex (ins[i]);rw[hx]at hf cx;obtain⟨a1,a2,a3,a4,⟨k,nn,ss,is,ks⟩,v,tn,fi,ds⟩:=x;simp only[Sf.Inst.cells,Zo,Zk]at hf cx;refine azc (ai ht hf) (ai cx ti) ?_;exact⟨_,by omega,rfl,i+1,rfl,by omega,by(exact azq (ai ht hf))⟩
 have hf:=akl Sf.Inst.cells ins i hge;refine azc (ai ht hf) ti ?_;refine azf (fun m ts hh=>hh=⟨[.cells 33 [.str lin,.int .i64 ser,.sl 13 .no (ins.map Sf.Inst.cells),.sl 3 .no (ps.map Sf.Pend.cells),.sl 7 .no (os.map Sf.Outp.cells)],.cells 33 [.str lin,.int .i64 ser,.sl 13 .no (ins.map Sf.Inst.cells),.sl 3 .no (ps.map Sf.Pend.cells),.sl 7 .no (os.map Sf.Outp.cells)]],[]⟩∧∃(i:Nat),m=ps.length-i∧i≤ps.length∧(ts 2=.ptr 0 0∧ts 3=.ptr 1 0∧ts 6=.int .i64 (i:Nat))) ps.length ?_ ?_
 ·exact⟨rfl,0,rfl,Zz _,by(exact azq ht)⟩
 clear ht hf hi hge ts i;rintro m ts hh ⟨rfl,i,rfl,hi,ht⟩;rcases Z7 i ps.length with hlt|hge
 ·have hf:=ajn Sf.Pend.cells ps i hlt (by omega);obtain⟨x,hx⟩:=Ex (ps[i]);rw[hx]at hf;obtain⟨a1,a2,a3⟩:=x;simp only[Sf.Pend.cells]at hf;refine azc (ai ht hf) ti ?_;exact⟨_,by omega,rfl,i+1,rfl,by omega,by(exact azq (ai ht hf))⟩
 have hf:=akl Sf.Pend.cells ps i hge;refine azc (ai ht hf) ti ?_;refine azf (fun m ts hh=>∃(i:Nat) (l:List Blk),m=os.length-i∧i≤os.length∧hh=⟨.cells 33 [.str lin,.int .i64 ser,.sl 13 .no (ins.map Sf.Inst.cells),.sl 3 .no (ps.map Sf.Pend.cells),.sl 7 .no (os.map Sf.Outp.cells)] :: .cells 33 [.str lin,.int .i64 ser,.sl 13 .no (ins.map Sf.Inst.cells),.sl 3 .no (ps.map Sf.Pend.cells),.sl 7 .no (os.map Sf.Outp.cells)]::l,[]⟩∧(ts 2=.ptr 0 0∧ts 3=.ptr 1 0∧ts 7=.int .i64 (i:Nat))) os.length ?_ ?_
 ·exact⟨0,[],rfl,Zz _,rfl,by(exact azq ht)⟩
 clear ht hf hi hge ts i;rintro m ts hh ⟨i,l,rfl,hi,rfl,ht⟩;rcases Z7 i os.length with hlt|hge;rotate_left
 ·have hf:=akl Sf.Outp.cells os i hge;refine azc (ai ht hf) ti ?_;exact Fn rfl
 have hf:=ajn Sf.Outp.cells os i hlt (by omega);have cx:=hco _ (Zt hlt);rw[bq7]at cx;obtain⟨x,hx⟩:=Ex (os[i]);rw[hx]at hf cx;obtain⟨a1,⟨k,nn,ss,is,ks⟩,b1⟩:=x;simp only[Sf.Outp.cells,V.A,V.cells,Zo,Zk]at hf cx;refine azc (ai ht hf) (ai cx ti) ?_;refine cw3 10 (by decide +kernel) ?_ ?_;all_goals simp only[edgeA,swapA,akw,swN,aR,aF,aL,aM,ZW,Ym,reduceIte,Nat.reduceEqDiff,Nat.reduceAdd]
 ·refine azc (ai ht hf) (ai cx ti) ?_;exact⟨_,by omega,i+1,_,rfl,by omega,rfl,by(exact azq (ai ht hf))⟩
 ·refine azc (ai ht hf) (ai cx ti) ?_;exact⟨_,by omega,i+1,_,rfl,by omega,rfl,by(exact azq (ai ht hf))⟩
end AX
end
section
open Go.RowKit Go.ChangeShapes Go.WideShapes
namespace AX
section
variable {H:Type} {enc:TypeId×Value→H} {w:World} {base:Nat} {spare:Nat→Bool} {held:Bool} {r:Reach} {b0:Nat} {v:Value} {d:DataW H} {p:List MemPlace}
end
end AX
end
section
open Go.RowKit Go.ChangeShapes Go.WideShapes
namespace Jr
end Jr
namespace AX
section
variable {H:Type} {enc:TypeId×Value→H} {w:World} {base:Nat} {spare:Nat→Bool} {held:Bool} {r:Reach} {b0:Nat} {v:Value} {d:DataW H} {p:List MemPlace}
end
end AX
end
section
open Go.RowKit
namespace AX
end AX
end
end Go.Proofs.YtdgcbckcameggacGreatDoor
