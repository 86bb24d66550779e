/- Part of what the proof needs. -/
import Derived.Test.YtnghhnahdjjpkaaGreatDoorMFrRecoveryReplaysUpto0
import Derived.Test.YtnghhnahdjjpkaaGreatDoorMFrRecoveryReplaysUptoP
import Derived.Test.YtnghhnahdjjpkaaGreatDoorMFrRecoveryReplaysUptoR
import Derived.Test.YtnghhnahdjjpkaaGreatDoorMFrRecoveryReplaysUptoS
import Derived.Test.YtnghhnahdjjpkaaGreatDoorMFrRecoveryReplaysUptoY
import Derived.Test.YtnghhnahdjjpkaaGreatDoorMFrRecoveryReplaysUptoZ
set_option maxHeartbeats 4000000
set_option maxRecDepth 100000
set_option linter.all false
namespace Go.Proofs.YtnghhnahdjjpkaaGreatDoor
section
open Go.RowKit
namespace AX
open Rp (recOf intL Gd XOk)
def aqt:AX.AFn:=⟨12,aS [aR 2 (.box 26 (.t 0)),aR 4 (.alloc 26 [.str [],.int .i64 0,.sl 0 .nil [],.sl 0 .nil [],.sl 0 .nil []])] (aS [aR 6 (.load true 5 (.t 2)),aR 7 (.call 69 [.t 6]),aR 5 (.alloc 26 [.str [],.int .i64 0,.sl 0 .nil [],.sl 0 .nil [],.sl 0 .nil []]),aU (.store 5 (.t 5) (.t 7))] (aS [aM 8 1,aR 9 (.call 70 [.t 8]),aF 10 4 5,aU (.store 1 (.t 10) (.t 9))] (aS [aR 11 (.load true 5 (.t 5)),aU (.store 5 (.t 4) (.t 11))] (.ret)))),[.c 4 true 5]⟩
theorem ay7:AX.compFn Tryz.prog 33=some aqt:=by kernel_rfl
def avv:AX.AFn:=⟨7,aS [aR 1 (.box 26 (.t 0)),aR 2 (.alloc 26 [.str [],.int .i64 0,.sl 0 .nil [],.sl 0 .nil [],.sl 0 .nil []])] (aS [aR 3 (.load true 5 (.t 1)),aF 4 4 1,aL 5 4,aR 6 (.call 33 [.t 3,.t 5]),aU (.store 5 (.t 2) (.t 6))] (.ret)),[.c 2 true 5]⟩
theorem cqh:AX.compFn Tryz.prog 13=some avv:=by kernel_rfl
structure JrE(r:Jr):Prop where
 few:r.after.attrs.few
 deps:r.after.deps.length≤1000000000
 base:r.kind=2→r.base.insts=[]∧r.base.pends=[]∧r.base.outs=[]
theorem cv0(r:Jr)(hv:r.after.attrs.few)(hd:r.after.deps.length≤1000000000)(he:r.base.insts=[]∧r.base.pends=[]∧r.base.outs=[])(h:Hp):AT 37 [.agg r.cells] h (.agg r.cells):=by
 have co:=cvo r.after hv hd;have cp:=avm 3 .no;clear hv hd;obtain⟨kd,⟨lin,ser,ins,ps,os⟩,sp,op,ad,dp,ty,tk,er,⟨a1,a2,a3,a4,⟨k,nn,ss,is,ks⟩,v,tn,fi,ds⟩⟩:=r;dsimp only at he;obtain⟨rfl,rfl,rfl⟩:=he;simp only[Jr.cells,Sf.Inst.cells,Zd,Zg,Yj]at *;refine pcall ?_ rfl (by simp[A.pure,A.data]) h;refine fo ?_;have z0:¬(0:Int)<((0:Nat):Int):=by decide
 refine aze z0 (ai co ti) ?_;refine avu ?_;refine aze z0 ti ?_;refine avu ?_;refine aze z0 (ai cp ti) ?_;exact⟨.agg [.int .i64 kd,.str lin,.int .i64 ser,.sl 13 .no [],.sl 3 .no [],.sl 7 .no [],.int .i64 sp,.int .i64 op,.str ad,.str dp,.str ty,.str tk,.int .i64 er,.str a1,.str a2,.str a3,.str a4,.int .i64 k,.int .i64 nn,.str ss,.sl 5 .no (V.cellss is),.sl 1 .no (strsA ks),.int .i64 v,.bool tn,.bool fi,.sl 1 .no (strsA ds)],⟨aza _,aza _,aza _,⟨rfl,.inr rfl,.inl rfl⟩,aza _,⟨rfl,.inr rfl,.inl rfl⟩,aza _,aza _,aza _,aza _,aza _,aza _,aza _,aza _,aza _,aza _,aza _,aza _,aza _,aza _,aza _,aza _,aza _,aza _,aza _,aza _,trivial⟩,rfl⟩
theorem cwz(l:List Jr)(hin:∀r∈l,JrE r)(hl:l.length≤1000000)(h:Hp):AT 15 [.sl 26 .no (l.map Jr.cells)] h (.sl 26 .no ((Jr.unfin l).map Jr.cells)):=by
 refine pcall ?_ rfl (by simp[A.pure,A.data]) h;refine fo ?_;have li:(l.map Jr.cells).length=l.length:=Zj _;refine azf li ?_
 refine azd (fun m ts hh=>∃(i c:Nat) (l':List Blk) (t:List (TypeId×Nat×Nat)),m=l.length-i∧i≤l.length∧hh=⟨.map (gmap A.bool (Jr.ends (l.take i))) c::l',t⟩ ∧
  (ts 0=.sl 26 .no (l.map Jr.cells)∧ts 3=.mp 0∧ts 10=.sl 26 .no (l.map Jr.cells)∧ts 11=.int .i64 (l.length:Nat)∧ts 12=.int .i64 (i:Nat))) l.length ?_ ?_
 ·exact⟨0,0,[],[],rfl,Zq _,rfl,by(exact azo li)⟩
 rintro m ts hh ⟨i,c,l',t,rfl,hi,rfl,ht⟩;rcases Zr i l.length with hlt|hge
 ·have hf:=azp Jr.cells l i hlt (by omega);have es:l.take (i+1)=l.take i++[l[i]]:=(List.take_append_getElem hlt).symm;have e2:=ck4 (l.take i) l[i];rw[←es]at e2;obtain⟨r,hr⟩:=Ex (l[i]);rw[hr]at hf e2;have p2:=avj A.bool r.step true (Jr.ends (l.take i));have k2:=aja A.bool r.step (Jr.ends (l.take i)) c;clear hr es;obtain⟨E,hE⟩:=Ex (Jr.ends (l.take i));rw[hE]at e2 p2 k2⊢;obtain⟨kd,⟨lin,ser,ins,ps,os⟩,st,op,ad,dp,ty,tk,er,⟨a1,a2,a3,a4,⟨k,nn,ss,is,ks⟩,v,tn,fi,ds⟩⟩:=r;simp only[Jr.cells,Sf.Inst.cells,Zd,Zg]at hf;dsimp only at e2 p2 k2;refine azc (ai ht hf) ti ?_;(refine AX.bw0 ht ?_ ?_)
  ·intro hb;rw[if_pos hb]at e2;refine azc (ai ht (ai hf (ai p2 k2))) ti ?_;exact⟨_,by omega,i+1,_,_,_,rfl,by omega,by rw[e2],by(exact azo (ai ht hf))⟩
  ·intro hb;rw[if_neg (by rw[hb];decide)]at e2;refine azc (ai ht hf) ti ?_;exact⟨_,by omega,i+1,c,_,_,rfl,by omega,by rw[e2],by(exact azo (ai ht hf))⟩
 have hf:=azq Jr.cells l i hge;rw[Zy hge];have ef:=fun n=>cwd n l
 have gf:=fun n=>aqr A.bool n (Jr.ends l)
 obtain⟨E,hE⟩:=Ex (Jr.ends l);rw[hE]at⊢;simp only[hE]at ef gf;refine azf (ai ht hf) ?_
 refine azd (fun m ts hh=>∃(j:Nat) (W:Nat) (o:Own) (l':List Blk) (t:List (TypeId×Nat×Nat)),m=l.length-j∧j≤l.length∧hh=⟨.map (gmap A.bool E) c::l',t⟩∧Gs 44 26 0 ⟨[],t⟩ (((l.take j).filter fun r=>r.kind==2&&!Jr.endedB r.step l).map Jr.cells) (.sl W o (((l.take j).filter fun r=>r.kind==2&&!Jr.endedB r.step l).map Jr.cells)) ∧
  (ts 3=.mp 0∧ts 6=.sl W o (((l.take j).filter fun r=>r.kind==2&&!Jr.endedB r.step l).map Jr.cells)∧ts 28=.sl 26 .no (l.map Jr.cells)∧ts 29=.int .i64 (l.length:Nat)∧ts 30=.int .i64 (j:Nat))) l.length ?_ ?_
 ·exact⟨0,0,.nil,l',t,rfl,Zq _,rfl,.inl ⟨rfl,rfl⟩,by(exact azo (ai li ht))⟩
 clear hf ht hi hge i l' t ts;rintro m ts hh ⟨j,W,o,l',t,rfl,hj,rfl,gX,ht⟩;rcases Zr j l.length with hlt|hge;rotate_left
 ·have hf:=azq Jr.cells l j hge;rw[Zy hge]at gX ht;have lX:=Gs.le gX;refine azf (ai ht hf) ?_;exact⟨.sl 26 .no ((Jr.unfin l).map Jr.cells),lX,rfl⟩
 have hf:=azp Jr.cells l j hlt (by omega);have hrf:=hin _ (Zp hlt);have es:l.take (j+1)=l.take j++[l[j]]:=(List.take_append_getElem hlt).symm;have em:((l.take (j+1)).filter fun r=>r.kind==2&&!Jr.endedB r.step l)=((l.take j).filter fun r=>r.kind==2&&!Jr.endedB r.step l)++(if(l[j].kind==2&&!Jr.endedB l[j].step l)=true then[l[j]]else[]):=by
  rw[es,List.filter_append,List.filter_cons,List.filter_nil]
 have hlen:((l.take j).filter fun r=>r.kind==2&&!Jr.endedB r.step l).length≤j:=Zs (List.length_filter_le _ _) (by rw[Zk];omega);obtain⟨F,hF⟩:=Ex (((l.take j).filter fun r=>r.kind==2&&!Jr.endedB r.step l));rw[hF]at gX ht em hlen;obtain⟨W',o',t',hX,gX',_⟩:=gX.grow 376 (Jr.cells l[j]) (by rw[Zj];omega) (by decide);have cc:=fun e:l[j].kind=2=>cv0 l[j] hrf.few hrf.deps (hrf.base e)
 have ef1:=ef l[j].step;have gf1:=gf l[j].step;obtain⟨r,hr⟩:=Ex (l[j]);rw[hr]at hf em hX gX' cc ef1 gf1;clear hr es ef gf hrf;obtain⟨B,hB⟩:=Ex (Jr.endedB r.step l);rw[hB]at em ef1;have hG:mgetV (.bool false) false (mfind r.step (gmap A.bool E))=.bool B:=by rw[gf1,←ef1];cases gfind r.step E<;>rfl
 have hG':(mfind r.step (gmap A.bool E)).getD (.bool false)=.bool B:=hG;clear gf1 ef1 hB;have em2:F.map Jr.cells++[r.cells]=(F++[r]).map Jr.cells:=by simp
 rw[em2]at gX';simp only[em2]at hX;obtain⟨F2,hF2⟩:=Ex (F++[r]);rw[hF2]at gX' hX;have em3:(r.kind==2&&!B)=true→((l.take (j+1)).filter fun r=>r.kind==2&&!Jr.endedB r.step l)=F2:=fun hb=>by rw[em,if_pos hb,hF2]
 have em4:(r.kind==2&&!B)=false→((l.take (j+1)).filter fun r=>r.kind==2&&!Jr.endedB r.step l)=F:=fun hb=>by rw[em,if_neg (by rw[hb];decide)];simp
 clear em em2 hF2;obtain⟨kd,⟨lin,ser,ins,ps,os⟩,st,op,ad,dp,ty,tk,er,⟨a1,a2,a3,a4,⟨k,nn,ss,is,ks⟩,v,tn,fi,ds⟩⟩:=r;simp only[Jr.cells,Sf.Inst.cells,Zd,Zg]at hf hX cc;dsimp only at hG hG' em3 em4 cc;refine azc (ai ht (ai hf (ai hG hG'))) ti ?_;(refine AX.bw0 ht ?_ ?_)
 ·intro hb;have cc:=cc (eq_of_beq (Bool.and_eq_true_iff.1 hb).1);refine aze (ai ht (ai hf hX)) (ai cc ti) ?_;exact⟨_,by omega,j+1,W',o',_,t',rfl,by omega,rfl,by rw[em3 hb];exact gX',by rw[em3 hb];(exact azo (ai ht hf))⟩
 ·intro hb;refine azc (ai ht hf) ti ?_;exact⟨_,by omega,j+1,W,o,_,t,rfl,by omega,rfl,by rw[em4 hb];exact gX,by rw[em4 hb];(exact azo (ai ht hf))⟩
theorem bws{n:Nat}{st:Sf.St}(g:Gd n st)(hn:n≤50000)(h:Hp):AT 33 [st.A,.sl 7 .no (st.outs.map Sf.Outp.cells)] h (st.A):=by
 have hf:=g.stFew (by omega);have co:=av6 st.outs hf.os.1 hf.os.2;by_cases he:st.insts=[]
 ·have cl:=ayr st hf he;clear hf g;obtain⟨lin,ser,ins,ps,os⟩:=st;simp only[Sf.St.A]at *;subst he;refine pcallv ?_ (by simp[A.pure,A.data]) h;refine azb mixedT ay7 (by simp[aqt]) ?_;dsimp only[aqt];refine aze ti (ai cl (ai co ti)) ?_;exact⟨.agg [.str lin,.int .i64 ser,.sl 13 .no [],.sl 3 .no (ps.map Sf.Pend.cells),.sl 7 .no (os.map Sf.Outp.cells)],⟨aza _,aza _,⟨rfl,.inr rfl,.inl rfl⟩,aza _,aza _,trivial⟩,aqi (.inl ⟨rfl,rfl⟩)⟩
 ·have cl:∀{a b:Blk},_:=fun {a b}=>ayw st hf he ⟨[a,b],[]⟩
  clear hf g he;obtain⟨lin,ser,ins,ps,os⟩:=st;simp only[Sf.St.A]at *;simp only[Zi,ZH,Zd,Zg,Yc,Nat.reduceAdd]at cl;refine pcallv ?_ (by simp[A.pure,A.data]) h;refine azb mixedT ay7 (by simp[aqt]) ?_;dsimp only[aqt];unfold rowI at cl;obtain⟨F,hF⟩:=Ex ((ins.map Sf.Inst.cells).flatten);rw[hF]at cl;refine aze ti (ai @cl (ai co ti)) ?_;exact⟨_,le_refl _,aqi (.inr ⟨2,rfl,by unfold rowI;rw[hF];rfl⟩)⟩
theorem bqx{n:Nat}{st:Sf.St}(g:Gd n st)(hn:n≤50000)(h:Hp):AT 13 [st.A] h (st.A):=by
 have cc:=bws g hn;clear g;obtain⟨lin,ser,ins,ps,os⟩:=st;simp only[Sf.St.A]at cc⊢;refine pcall ?_ rfl (by simp[A.pure,A.data]) h;refine azb mixedT cqh (by simp[avv]) ?_;dsimp only[avv];refine aze ti (ai cc ti) ?_;exact Fn rfl
end AX
end
section
open Go.RowKit
namespace Rp
structure ROk(r:Jr):Prop where
 jin:AX.JrIn r
 aft:XOk r.after
 binst:∀x∈r.base.insts,XOk x
 bouts:∀x∈r.base.outs,x.value.few∧x.value.lens
theorem chk_base:∀(l p:List Jr),Jr.chkR p l=0→∀r∈l,(r.kind=1→Sf.checkZ r.base=0)∧r.validR=true
 |[],_,_=>fun r hr=>by cases hr
 |x::l,p,h=>fun r hr=>by
  obtain⟨_,h2,h3⟩:=chkR_cons h;rcases ZJ.1 hr with rfl|hr
  ·refine⟨h3,?_⟩;unfold Jr.chkR at h;split at h
   ·cases h
   ·next hn=>
    cases hv:r.validR with
    |true=>rfl
    |false=>exact absurd (by rw[hv];rfl) hn
  ·exact chk_base l (p++[x]) h2 r hr
theorem unfin_len(l:List Jr):(Jr.unfin l).length≤l.length:=List.length_filter_le _ _
theorem len0{α:Type}{l:List α}(h:((l.length:Int)==0)=true):l=[]:=by
 rw[ZC]at h;exact Zao.1 (by omega)
theorem chk_empty{l p:List Jr}(h:Jr.chkR p l=0){r:Jr}(hr:r∈l)(hk:r.kind=2):r.base.insts=[]∧r.base.pends=[]∧r.base.outs=[]:=by
 have hv:=(chk_base l p h r hr).2;rw[Jr.validR_eq]at hv;unfold Jr.validB at hv;split at hv
 ·cases hv
 ·next hb=>
  have he:Jr.emptyB r.base=true:=by
   cases hx:Jr.emptyB r.base with
   |true=>rfl
   |false=>exact absurd (by unfold Jr.badB;rw[hx,hk];rfl) hb
  unfold Jr.emptyB at he;simp only[Zf]at he;exact⟨len0 he.1.1.2,len0 he.1.2,len0 he.2⟩
end Rp
namespace AX
open Rp (recOf intL Gd XOk ROk)
theorem cx8(m:List (Int×Jr))(r:Jr)(n:Int):gfind n (putM m r)=if Jr.isInt n r=true then some r else gfind n m:=by
 unfold putM Jr.isInt;by_cases hk:r.kind=2
 ·rw[if_pos hk,axc,hk];by_cases hn:n=r.step
  ·subst hn;simp
  ·rw[if_neg hn,if_neg (by simp;exact fun e=>hn e.symm)]
 ·rw[if_neg hk,if_neg (by simp[hk])]
theorem czs(st:Sf.St)(r:Jr)(l:List Jr):Rp.asks st (r::l)=Rp.asks (Rp.putR st ⟨r.addr,r.typ,r.tok⟩) l:=rfl
theorem aww(s:Sf.St)(l:List Jr)(hs:Sf.StIn s)(hsi:∀x∈s.insts,XOk x)(hso:∀x∈s.outs,x.value.few∧x.value.lens)(hin:∀r∈l,ROk r)(hl:l.length≤1000)(h:Hp):
  AT 6 [s.A,.sl 26 .no (l.map Jr.cells)] h (.tup [(Rp.replayP s l).2.A,.int .i64 (Rp.replayP s l).1]):=by
 have c1:=akv s hs;unfold SCheck at c1;have c2:=dz2 l (fun r hr=>(hin r hr).jin) (by omega);rw[Jr.chk_eq l [] _ Jr.foo0 (by simp;omega)]at c2;refine pcall ?_ rfl (by simp[A.pure,A.data,Sf.St.A]) h;refine fo ?_;have lm:(l.map Jr.cells).length=l.length:=Zj _;have slin:s.A=.agg [.str s.lin,.int .i64 s.ser,.sl 13 .no (s.insts.map Sf.Inst.cells),.sl 3 .no (s.pends.map Sf.Pend.cells),.sl 7 .no (s.outs.map Sf.Outp.cells)]:=rfl;by_cases hz:Sf.checkZ s≠0
 ·have e:Rp.replayP s l=(1,Rp.zeroS):=by unfold Rp.replayP;rw[if_pos hz]
  rw[e];have hzb:(Sf.checkZ s !=0)=true:=by simp[hz]
  rw[slin]at c1⊢;refine aze hzb (ai c1 ti) ?_;exact⟨.tup [.agg [.str [],.int .i64 0,.sl 13 .no [],.sl 3 .no [],.sl 7 .no []],.int .i64 1],⟨⟨aza _,aza _,⟨rfl,.inr rfl,.inl rfl⟩,⟨rfl,.inr rfl,.inl rfl⟩,⟨rfl,.inr rfl,.inl rfl⟩,trivial⟩,azz _,trivial⟩,rfl⟩
 have hz0:Sf.checkZ s=0:=Classical.not_not.1 hz;rw[hz0]at c1;by_cases hc:Jr.chkR [] l≠0
 ·have e:Rp.replayP s l=(Jr.chkR [] l,Rp.zeroS):=by unfold Rp.replayP;rw[if_neg hz,if_pos hc]
  rw[e];have hcb:(Jr.chkR [] l !=0)=true:=by simp[hc]
  rw[slin]at c1⊢;refine aze hcb (ai c1 (ai c2 ti)) ?_;exact⟨.tup [.agg [.str [],.int .i64 0,.sl 13 .no [],.sl 3 .no [],.sl 7 .no []],.int .i64 (Jr.chkR [] l)],⟨⟨aza _,aza _,⟨rfl,.inr rfl,.inl rfl⟩,⟨rfl,.inr rfl,.inl rfl⟩,⟨rfl,.inr rfl,.inl rfl⟩,trivial⟩,azz _,trivial⟩,rfl⟩
 have hc0:Jr.chkR [] l=0:=Classical.not_not.1 hc;rw[hc0]at c2;have gs:=Rp.good_of hz0 hsi hso;by_cases hl0:l=[]
 ·subst hl0;have e:Rp.replayP s []=(0,s):=by unfold Rp.replayP;rw[if_neg hz,if_neg hc]
  rw[e];have c3:=bqx gs (by omega);have z0:(((0:Nat):Int)==0)=true:=rfl;rw[slin]at c1 c3⊢;simp only[Yj]at *;refine aze z0 (ai c1 (ai c2 (ai c3 ti))) ?_;exact Fn rfl
 obtain⟨r0,l',hrl⟩:∃r0 l',l=r0::l':=List.exists_cons_of_ne_nil hl0;have hD:Rp.replayP s l=if(Rp.runP s [] l).1=0 then(0,Rp.raise (Rp.asks (Rp.runP s [] l).2 (Rp.openP l)) r0.base.ser)else((Rp.runP s [] l).1,Rp.zeroS):=by
  unfold Rp.replayP;rw[if_neg hz,if_neg hc,hrl]
 have hpos:0<l.length:=by rw[hrl];simp
 have hzl:((l.length:Int)==0)=false:=by simp;omega
 have h0:(l.map Jr.cells).getD 0 []=r0.cells:=by rw[hrl];rfl
 have hlen:(0:Int)<(l.length:Int):=by omega
 have cu:=cwz l (fun r hr=>⟨(hin r hr).aft.few,(hin r hr).aft.deps,fun hk=>Rp.chk_empty hc0 hr hk⟩) (by omega);have hbase:=Rp.chk_base l [] hc0;obtain⟨RES,hRES⟩:=Ex (Rp.replayP s l);rw[hRES]at hD⊢;obtain⟨D,hDr⟩:=Ex (Rp.runP s [] l);rw[hDr]at hD;clear hRES hz hc hc0 hz0 hs hsi hso hrl hl0;rw[slin]at c1⊢;obtain⟨lin,ser,ins,ps,os⟩:=s;dsimp only at c1⊢;refine aze (ai lm hzl) (ai c1 (ai c2 ti)) ?_;refine azd (fun mm ts h=>∃(j:Nat) (st:Sf.St) (m:List (Int×Jr)) (c:Nat) (L:List Blk),mm=l.length-j∧j≤l.length∧Gd (512+2*j) st∧(∀n,gfind n m=intL (l.take j) n)∧((Rp.runP st (l.take j) (l.drop j)).1=D.1∧(D.1=0→Rp.runP st (l.take j) (l.drop j)=D))∧h=⟨.cells 26 [.str lin,.int .i64 ser,.sl 13 .no (ins.map Sf.Inst.cells),.sl 3 .no (ps.map Sf.Pend.cells),.sl 7 .no (os.map Sf.Outp.cells)] :: .cells 26 [.str [],.int .i64 0,.sl 0 .nil [],.sl 0 .nil [],.sl 0 .nil []]::MB m c::RPB 2 st::L,[]⟩∧(ts 1=.sl 26 .no (l.map Jr.cells)∧ts 2=.ptr 0 0∧ts 4=.ptr 1 0∧ts 7=.ptr 3 0∧ts 33=.sl 26 .no (l.map Jr.cells)∧ts 34=.int .i64 (l.length:Nat)∧ts 35=.int .i64 (j:Nat))) l.length ?_ ?_
 ·exact⟨0,_,[],0,[],by omega,by omega,gs,fun n=>rfl,⟨by rw[YL,YA,hDr],fun _=>by rw[YL,YA,hDr]⟩,rfl,by(exact azo lm)⟩
 rintro mm ts h ⟨j,st,m,c,L,rfl,hjc,g,hm,hrun,rfl,ht⟩;rcases Zr j l.length with hlt|hge
 ·have hf:=azp Jr.cells l j hlt (by omega);have hr:=hin _ (Zp hlt);have hb:=(hbase _ (Zp hlt)).1;have es:l.take (j+1)=l.take j++[l[j]]:=(List.take_append_getElem hlt).symm;have ei:=fun n=>Rp.intL_snoc (l.take j) l[j] n
  rw[←es]at ei;rw[Zl hlt]at hrun;unfold Rp.runP at hrun;rw[←es,←hm]at hrun;obtain⟨r,hr'⟩:=Ex (l[j]);rw[hr']at hf hr hb ei hrun;have cr:=fun {a b:Blk} {L:List Blk}=>cvw (m:=m) (c:=c) g (by omega) r hr.aft (h:=⟨a::b::MB m c::RPB 2 st::L,[]⟩) (i:=3) (k:=2) (by decide) rfl rfl
  have gn:Gd (512+2*(j+1)) (Rp.stepP st (gfind r.step m) r).2:=(g.stepP (gfind r.step m) r hr.aft (fun hk=>(Rp.good_of (hb hk) hr.binst hr.bouts).mono (by omega))).mono (by omega);have hm2:∀n,gfind n (putM m r)=intL (l.take (j+1)) n:=fun n=>by rw[cx8,hm,ei]
  obtain⟨⟨Z,E⟩,hE⟩:=Ex (Rp.stepP st (gfind r.step m) r);rw[hE]at cr gn hrun;obtain⟨m2,hm2'⟩:=Ex (putM m r);obtain⟨c2',hc2'⟩:=Ex (clockM m c r);rw[hm2',hc2']at cr;rw[hm2']at hm2;simp only[Yx,ZV]at cr;clear hr' es ei hE hm2' hc2' hr hb hin hbase hm g;obtain⟨kd,⟨lin,ser,ins,ps,os⟩,sp,op,ad,dp,ty,tk,er,⟨a1,a2,a3,a4,⟨k,nn,ss,is,ks⟩,v,tn,fi,ds⟩⟩:=r;simp only[Jr.cells,Sf.Inst.cells,Zd,Zg]at hf cr;dsimp only at hrun gn;by_cases hZ:Z=0
  ·subst hZ;rw[if_pos rfl]at hrun;refine aze (ai ht hf) (ai @cr ti) ?_;exact⟨_,by omega,j+1,E,m2,c2',_,rfl,by omega,gn,hm2,hrun,rfl,by(exact azo (ai ht hf))⟩
  ·rw[if_neg hZ]at hrun;have hD1:D.1=Z:=hrun.1.symm;rw[if_neg (by rw[hD1];exact hZ)]at hD;have hZb:(Z !=0)=true:=by simp[hZ]
   refine aze (ai ht (ai hf hZb)) (ai @cr ti) ?_;exact⟨.tup [.agg [.str [],.int .i64 0,.sl 13 .no [],.sl 3 .no [],.sl 7 .no []],.int .i64 Z],⟨⟨aza _,aza _,⟨rfl,.inr rfl,.inl rfl⟩,⟨rfl,.inr rfl,.inl rfl⟩,⟨rfl,.inr rfl,.inl rfl⟩,trivial⟩,azz _,trivial⟩,by rw[hD,hD1];rfl⟩
 have hf:=azq Jr.cells l j hge;obtain rfl:j=l.length:=by omega
 rw[List.drop_length]at hrun;unfold Rp.runP at hrun;have hD0:D.1=0:=hrun.1.symm;have hDst:=hrun.2 hD0;rw[if_pos hD0,←hDst]at hD;dsimp only at hD;have hlU:(Jr.unfin l).length≤l.length:=Rp.unfin_len l;unfold Rp.openP at hD;obtain⟨U,hU⟩:=Ex (Jr.unfin l);rw[hU]at cu hlU hD;have lu:(U.map Jr.cells).length=U.length:=Zj _;clear hU hD0 hDst hrun hm hDr hin hbase;refine aze (ai ht (ai hf lu)) (ai cu ti) ?_;obtain⟨D2,hD2⟩:=Ex (Rp.asks st (U.filter fun r=>r.op==1));rw[hD2]at hD;refine azd (fun mm ts h=>∃(i:Nat) (st:Sf.St) (L:List Blk),mm=U.length-i∧i≤U.length∧Gd (2600+i) st∧Rp.asks st ((U.drop i).filter fun r=>r.op==1)=D2∧h=⟨.cells 26 [.str lin,.int .i64 ser,.sl 13 .no (ins.map Sf.Inst.cells),.sl 3 .no (ps.map Sf.Pend.cells),.sl 7 .no (os.map Sf.Outp.cells)] :: .cells 26 [.str [],.int .i64 0,.sl 0 .nil [],.sl 0 .nil [],.sl 0 .nil []]::MB m c::RPB 2 st::L,[]⟩∧(ts 1=.sl 26 .no (l.map Jr.cells)∧ts 2=.ptr 0 0∧ts 4=.ptr 1 0∧ts 7=.ptr 3 0∧ts 48=.sl 26 .no (U.map Jr.cells)∧ts 49=.int .i64 (U.length:Nat)∧ts 50=.int .i64 (i:Nat))) U.length ?_ ?_
 ·exact⟨0,st,L,by omega,by omega,g.mono (by omega),hD2,rfl,by(exact azo (ai ht lu))⟩
 clear ht hf g hD2 hjc hge;rintro mm ts h ⟨i,st,L,rfl,hic,g,hask,rfl,ht⟩;rcases Zr i U.length with hlt|hge
 ·have hf:=azp Jr.cells U i hlt (by omega);rw[Zl hlt,List.filter_cons]at hask;obtain⟨r,hr'⟩:=Ex (U[i]);rw[hr']at hf hask;have cr:=fun {a b:Blk} {L:List Blk}=>ckd (m:=m) (c:=c) g (by omega) r (h:=⟨a::b::MB m c::RPB 2 st::L,[]⟩) (i:=3) (k:=2) (by decide) rfl rfl
  have gn:=g.putR ⟨r.addr,r.typ,r.tok⟩;obtain⟨E,hE⟩:=Ex (Rp.putR st ⟨r.addr,r.typ,r.tok⟩);have ask1:(r.op==1)=true→Rp.asks E ((U.drop (i+1)).filter fun r=>r.op==1)=D2:=fun e=>by
   rw[if_pos e,czs,hE]at hask;exact hask
  have ask0:(r.op==1)=false→Rp.asks st ((U.drop (i+1)).filter fun r=>r.op==1)=D2:=fun e=>by
   rw[if_neg (by rw[e];decide)]at hask;exact hask
  rw[hE]at cr gn;simp only[Yx,ZV]at cr;clear hr' hE hask;obtain⟨kd,⟨lin,ser,ins,ps,os⟩,sp,op,ad,dp,ty,tk,er,⟨a1,a2,a3,a4,⟨k,nn,ss,is,ks⟩,v,tn,fi,ds⟩⟩:=r;simp only[Jr.cells,Sf.Inst.cells,Zd,Zg]at hf cr;dsimp only at ask1 ask0;cases hop:(op==1)with
  |true=>
   refine aze (ai ht (ai hf hop)) (ai @cr ti) ?_;exact⟨_,by omega,i+1,E,_,rfl,by omega,gn,ask1 hop,rfl,by(exact azo (ai ht hf))⟩
  |false=>
   refine aze (ai ht (ai hf hop)) ti ?_;exact⟨_,by omega,i+1,st,_,rfl,by omega,g.mono (by omega),ask0 hop,rfl,by(exact azo (ai ht hf))⟩
 have hf:=azq Jr.cells U i hge;rw[ZQ (by omega)]at hask;have hask:st=D2:=hask;subst hask;have cc:=bqx g (by omega);clear g cu c1 c2 gs;obtain⟨⟨r0k,⟨rlin,rser,rins,rps,ros⟩,rsp,rop,rad,rdp,rty,rtk,rer,⟨ra1,ra2,ra3,ra4,⟨rk,rnn,rss,ris,rks⟩,rv,rtn,rfi,rds⟩⟩,hr0⟩:=Ex r0;subst hr0;simp only[Jr.cells,Sf.Inst.cells,Zd,Zg]at h0;obtain⟨Xlin,Xser,Xins,Xps,Xos⟩:=st;simp only[Sf.St.A,RPB]at *;unfold Rp.raise at hD;dsimp only at hD;refine aze (ai ht (ai hf (ai lm (ai h0 hlen)))) (ai cc ti) ?_;exact⟨_,le_refl _,by rw[hD];rfl⟩
end AX
end
section
open Go.RowKit
namespace AX
open Rp (recOf intL Gd XOk ROk)
theorem bqe(r:Jr)(l:List Jr):Rp.openR (r::l)=if(r.kind==2&&r.op==1&&!Jr.endedB r.step l)=true then r::Rp.openR l else Rp.openR l:=rfl
theorem bk7(n:Int)(r:Jr)(l:List Jr):Jr.endedB n (r::l)=((r.kind==3||r.kind==4)&&r.step==n||Jr.endedB n l):=rfl
theorem ax3:∀l:List Jr,(Rp.openR l).length≤l.length
 |[]=>Zh _
 |r::l=>by
  have:=ax3 l;rw[bqe];split<;>simp only[Zi]<;>omega
theorem cjn(l:List Jr)(hl:l.length≤1000000)(h:Hp):AT 20 [.sl 26 .no (l.map Jr.cells)] h (.sl 26 .no ((Rp.openR l).map Jr.cells)):=by
 refine pcall ?_ rfl (by simp[A.pure,A.data]) h;refine fo ?_;obtain⟨D,hD⟩:=Ex (Rp.openR l);have hDl:D.length≤l.length:=by rw[←hD];exact ax3 l
 rw[hD];have lm:(l.map Jr.cells).length=l.length:=Zj _;refine azf lm ?_;refine azd (fun mm ts h=>∃(j:Nat) (W:Nat) (o:Own) (tt:List (TypeId×Nat×Nat)) (acc:List Jr),mm=l.length-j∧j≤l.length∧Gs 44 26 0 ⟨[],tt⟩ (acc.map Jr.cells) (.sl W o (acc.map Jr.cells))∧acc++Rp.openR (l.drop j)=D∧h=⟨[],tt⟩∧(ts 0=.sl 26 .no (l.map Jr.cells)∧ts 3=.sl W o (acc.map Jr.cells)∧ts 4=.int .i64 (j:Nat))) l.length ?_ ?_
 ·exact⟨0,0,.nil,[],[],by omega,by omega,.inl ⟨rfl,rfl⟩,hD,rfl,by(exact azo lm)⟩
 rintro mm ts h ⟨j,W,o,tt,acc,rfl,hjc,gX,hacc,rfl,ht⟩;have hal:acc.length≤1000000:=by rw[←hacc,Zb]at hDl;omega
 rcases Zr j l.length with hlt|hge;rotate_left
 ·have hf:=azq Jr.cells l j hge;rw[ZQ (by omega)]at hacc;have hacc:acc++[]=D:=hacc;rw[ZN]at hacc;subst hacc;have lX:=Gs.le gX;refine azf (ai ht hf) ?_;exact⟨.sl 26 .no (acc.map Jr.cells),lX,rfl⟩
 have hf:=azp Jr.cells l j hlt (by omega);rw[Zl hlt,bqe]at hacc;obtain⟨W',o',t',hX,gX',_⟩:=gX.grow 376 (Jr.cells l[j]) (by rw[Zj];omega) (by decide);have em:acc.map Jr.cells++[Jr.cells l[j]]=(acc++[l[j]]).map Jr.cells:=by simp
 rw[em]at gX';simp only[em]at hX;obtain⟨r,hr⟩:=Ex (l[j]);rw[hr]at hf hacc hX gX';obtain⟨F,hF⟩:=Ex (acc++[r]);rw[hF]at hX gX';obtain⟨EN,hEN⟩:=Ex (Jr.endedB r.step (l.drop (j+1)));rw[hEN]at hacc;have hyes:(r.kind==2&&r.op==1&&!EN)=true→F++Rp.openR (l.drop (j+1))=D:=fun e=>by rw[if_pos e]at hacc;rw[←hF,←hacc];simp
 have hno:(r.kind==2&&r.op==1&&!EN)=false→acc++Rp.openR (l.drop (j+1))=D:=fun e=>by rw[if_neg (by rw[e];decide)]at hacc;exact hacc
 clear hr em hF hacc;obtain⟨kd,⟨lin,ser,ins,ps,os⟩,sp,op,ad,dp,ty,tk,er,⟨a1,a2,a3,a4,⟨k,nn,ss,is,ks⟩,v,tn,fi,ds⟩⟩:=r;simp only[Jr.cells,Sf.Inst.cells,Zd,Zg]at hf hX;dsimp only at hyes hno hEN;by_cases q2:kd=2
 rotate_left
 ·have g2:(kd !=2)=true:=by simp[q2]
  have g2':(kd==2)=false:=by simp[q2]
  refine aze (ai ht (ai hf g2)) ti ?_;exact⟨_,by omega,j+1,W,o,tt,acc,rfl,by omega,gX,hno (by rw[g2'];rfl),rfl,by(exact azo (ai ht hf))⟩
 by_cases q1:op=1
 rotate_left
 ·have g1:(op !=1)=true:=by simp[q1]
  have g1':(op==1)=false:=by simp[q1]
  subst q2;refine aze (ai ht (ai hf g1)) ti ?_;exact⟨_,by omega,j+1,W,o,tt,acc,rfl,by omega,gX,hno (by rw[g1'];rfl),rfl,by(exact azo (ai ht hf))⟩
 subst q1 q2;refine aze (ai ht (ai hf lm)) ti ?_;refine azd (fun mm ts h=>∃(i:Nat) (B:Bool),mm=l.length-i∧i≤l.length∧(B||Jr.endedB sp (l.drop i))=EN∧h=⟨[],tt⟩∧(ts 0=.sl 26 .no (l.map Jr.cells)∧ts 3=.sl W o (acc.map Jr.cells)∧ts 4=.int .i64 (j:Nat)∧ts 5=.bool B∧ts 6=.int .i64 (i:Nat))) (l.length-(j+1)) ?_ ?_
 ·exact⟨j+1,false,by omega,by omega,by rw[Yn];exact hEN,rfl,by(exact azo (ai ht (ai hf lm)))⟩
 clear ht hEN;rintro mm ts h ⟨i,B,rfl,hic,hB,rfl,ht⟩;rcases Zr i l.length with hlt2|hge2
 ·have hf2:=azp Jr.cells l i hlt2 (by omega);rw[Zl hlt2,bk7]at hB;obtain⟨r,hr⟩:=Ex (l[i]);rw[hr]at hf2 hB;clear hr hX gX' hyes hno;obtain⟨xkd,⟨xlin,xser,xins,xps,xos⟩,xsp,xop,xad,xdp,xty,xtk,xer,⟨xa1,xa2,xa3,xa4,⟨xk,xnn,xss,xis,xks⟩,xv,xtn,xfi,xds⟩⟩:=r;simp only[Jr.cells,Sf.Inst.cells,Zd,Zg]at hf2;dsimp only at hB;cases B with
  |true=>
   refine aze (ai ht hf2) ti ?_;exact⟨_,by omega,i+1,true,rfl,by omega,by rw[←hB];rfl,rfl,by(exact azo (ai ht hf2))⟩
  |false=>
   cases k3:(xkd==3)with
   |true=>
    rw[k3]at hB;cases ks':(xsp==sp)with
    |true=>
     rw[ks']at hB;refine aze (ai ht (ai hf (ai hf2 (ai k3 ks')))) ti ?_;exact⟨_,by omega,i+1,true,rfl,by omega,by rw[←hB];rfl,rfl,by(exact azo (ai ht hf2))⟩
    |false=>
     rw[ks']at hB;refine aze (ai ht (ai hf (ai hf2 (ai k3 ks')))) ti ?_;exact⟨_,by omega,i+1,false,rfl,by omega,by rw[←hB];rfl,rfl,by(exact azo (ai ht hf2))⟩
   |false=>
    rw[k3]at hB;cases k4:(xkd==4)with
    |false=>
     rw[k4]at hB;refine aze (ai ht (ai hf (ai hf2 (ai k3 k4)))) ti ?_;exact⟨_,by omega,i+1,false,rfl,by omega,by rw[←hB];rfl,rfl,by(exact azo (ai ht hf2))⟩
    |true=>
     rw[k4]at hB;cases ks':(xsp==sp)with
     |true=>
      rw[ks']at hB;refine aze (ai ht (ai hf (ai hf2 (ai k3 (ai k4 ks'))))) ti ?_;exact⟨_,by omega,i+1,true,rfl,by omega,by rw[←hB];rfl,rfl,by(exact azo (ai ht hf2))⟩
     |false=>
      rw[ks']at hB;refine aze (ai ht (ai hf (ai hf2 (ai k3 (ai k4 ks'))))) ti ?_;exact⟨_,by omega,i+1,false,rfl,by omega,by rw[←hB];rfl,rfl,by(exact azo (ai ht hf2))⟩
 have hf2:=azq Jr.cells l i hge2;rw[ZQ (by omega)]at hB;have hB:(B||false)=EN:=hB;rw[YO]at hB;subst hB;cases B with
 |true=>
  refine aze (ai ht (ai hf hf2)) ti ?_;exact⟨_,by omega,j+1,W,o,tt,acc,rfl,by omega,gX,hno rfl,rfl,by(exact azo (ai ht hf))⟩
 |false=>
  refine aze (ai ht (ai hf (ai hf2 hX))) ti ?_;exact⟨_,by omega,j+1,W',o',t',F,rfl,by omega,gX',hyes rfl,rfl,by(exact azo (ai ht hf))⟩
theorem cj5(s:Sf.St)(l:List Jr)(hs:Sf.StIn s)(ht:Sf.TypIn s)(hsi:∀x∈s.insts,XOk x)(hso:∀x∈s.outs,x.value.few∧x.value.lens)(hin:∀r∈l,ROk r∧Sf.TypIn r.base)(hl:l.length≤1000)(h:Hp):
  AT 7 [s.A,.sl 26 .no (l.map Jr.cells)] h (.tup [(Rp.replayR s l).2.A,.int .i64 (Rp.replayR s l).1]):=by
 have c1:=bqz s hs ht;have c2:=cyk l (fun r hr=>⟨(hin r hr).1.jin,(hin r hr).2⟩) (by omega);refine pcall ?_ rfl (by simp[A.pure,A.data,Sf.St.A]) h;refine fo ?_;have lm:(l.map Jr.cells).length=l.length:=Zj _;have slin:s.A=.agg [.str s.lin,.int .i64 s.ser,.sl 13 .no (s.insts.map Sf.Inst.cells),.sl 3 .no (s.pends.map Sf.Pend.cells),.sl 7 .no (s.outs.map Sf.Outp.cells)]:=rfl;by_cases hz:Sf.checkZ s≠0
 ·have e:Rp.replayR s l=(1,Rp.zeroS):=by unfold Rp.replayR;rw[if_pos hz]
  rw[e];have hzb:(Sf.checkZ s !=0)=true:=by simp[hz]
  rw[slin]at c1⊢;refine aze hzb (ai c1 ti) ?_;exact⟨.tup [.agg [.str [],.int .i64 0,.sl 13 .no [],.sl 3 .no [],.sl 7 .no []],.int .i64 1],⟨⟨aza _,aza _,⟨rfl,.inr rfl,.inl rfl⟩,⟨rfl,.inr rfl,.inl rfl⟩,⟨rfl,.inr rfl,.inl rfl⟩,trivial⟩,azz _,trivial⟩,rfl⟩
 have hz0:Sf.checkZ s=0:=Classical.not_not.1 hz;rw[hz0]at c1;by_cases hc:Jr.chkR [] l≠0
 ·have e:Rp.replayR s l=(Jr.chkR [] l,Rp.zeroS):=by unfold Rp.replayR;rw[if_neg hz,if_pos hc]
  rw[e];have hcb:(Jr.chkR [] l !=0)=true:=by simp[hc]
  rw[slin]at c1⊢;refine aze hcb (ai c1 (ai c2 ti)) ?_;exact⟨.tup [.agg [.str [],.int .i64 0,.sl 13 .no [],.sl 3 .no [],.sl 7 .no []],.int .i64 (Jr.chkR [] l)],⟨⟨aza _,aza _,⟨rfl,.inr rfl,.inl rfl⟩,⟨rfl,.inr rfl,.inl rfl⟩,⟨rfl,.inr rfl,.inl rfl⟩,trivial⟩,azz _,trivial⟩,rfl⟩
 have hc0:Jr.chkR [] l=0:=Classical.not_not.1 hc;rw[hc0]at c2;have gs:=Rp.good_of hz0 hsi hso;by_cases hl0:l=[]
 ·subst hl0;have e:Rp.replayR s []=(0,s):=by unfold Rp.replayR;rw[if_neg hz,if_neg hc]
  rw[e];have z0:(((0:Nat):Int)==0)=true:=rfl;rw[slin]at c1⊢;simp only[Yj]at *;refine aze z0 (ai c1 (ai c2 ti)) ?_;exact Fn rfl
 obtain⟨r0,l',hrl⟩:∃r0 l',l=r0::l':=List.exists_cons_of_ne_nil hl0;have hD:Rp.replayR s l=if r0.base.lin≠s.lin then((23:Int),Rp.zeroS)else if r0.base.ser≠s.ser then(22,Rp.zeroS)else match Rp.runR s [] l with
   |some o=>(0,Rp.raise (Rp.asks o (Rp.openR l)) s.ser)
   |none=>(38,Rp.zeroS):=by
  unfold Rp.replayR;rw[if_neg hz,if_neg hc,hrl];rfl
 have hpos:0<l.length:=by rw[hrl];simp
 have hzl:((l.length:Int)==0)=false:=by simp;omega
 have h0:(l.map Jr.cells).getD 0 []=r0.cells:=by rw[hrl];rfl
 have hlen:(0:Int)<(l.length:Int):=by omega
 have cu:=cjn l (by omega);have hbase:=Rp.chk_base l [] hc0;obtain⟨RES,hRES⟩:=Ex (Rp.replayR s l);rw[hRES]at hD⊢;obtain⟨D,hDr⟩:=Ex (Rp.runR s [] l);rw[hDr]at hD;clear hRES hz hc hc0 hz0 hs ht hsi hso hrl hl0;rw[slin]at c1⊢;have hr0x:=Ex r0;obtain⟨⟨r0k,⟨rlin,rser,rins,rps,ros⟩,rsp,rop,rad,rdp,rty,rtk,rer,⟨ra1,ra2,ra3,ra4,⟨rk,rnn,rss,ris,rks⟩,rv,rtn,rfi,rds⟩⟩,hr0⟩:=hr0x;subst hr0;simp only[Jr.cells,Sf.Inst.cells,Zd,Zg]at h0;obtain⟨lin,ser,ins,ps,os⟩:=s;dsimp only at c1 hD⊢;by_cases n1:rlin≠lin
 ·rw[if_pos n1]at hD;have g1:(rlin !=lin)=true:=by simp[n1]
  refine aze (ai lm (ai hzl (ai h0 (ai hlen g1)))) (ai c1 (ai c2 ti)) ?_;exact⟨.tup [.agg [.str [],.int .i64 0,.sl 13 .no [],.sl 3 .no [],.sl 7 .no []],.int .i64 23],⟨⟨aza _,aza _,⟨rfl,.inr rfl,.inl rfl⟩,⟨rfl,.inr rfl,.inl rfl⟩,⟨rfl,.inr rfl,.inl rfl⟩,trivial⟩,azz _,trivial⟩,by rw[hD];rfl⟩
 by_cases n2:rser≠ser
 ·rw[if_neg n1,if_pos n2]at hD;have e1:rlin=lin:=Classical.not_not.1 n1;subst e1;have g2:(rser !=ser)=true:=by simp[n2]
  refine aze (ai lm (ai hzl (ai h0 (ai hlen g2)))) (ai c1 (ai c2 ti)) ?_;exact⟨.tup [.agg [.str [],.int .i64 0,.sl 13 .no [],.sl 3 .no [],.sl 7 .no []],.int .i64 22],⟨⟨aza _,aza _,⟨rfl,.inr rfl,.inl rfl⟩,⟨rfl,.inr rfl,.inl rfl⟩,⟨rfl,.inr rfl,.inl rfl⟩,trivial⟩,azz _,trivial⟩,by rw[hD];rfl⟩
 rw[if_neg n1,if_neg n2]at hD;have e1:rlin=lin:=Classical.not_not.1 n1;have e2:rser=ser:=Classical.not_not.1 n2;subst e1 e2;clear n1 n2;refine aze (ai lm (ai hzl (ai h0 hlen))) (ai c1 (ai c2 ti)) ?_;clear h0 hlen hzl c1 c2;refine azd (fun mm ts h=>∃(j:Nat) (st:Sf.St) (L:List Blk),mm=l.length-j∧j≤l.length∧Gd (512+2*j) st∧Rp.runR st (l.take j) (l.drop j)=D∧h=⟨.cells 26 [.str rlin,.int .i64 rser,.sl 13 .no (ins.map Sf.Inst.cells),.sl 3 .no (ps.map Sf.Pend.cells),.sl 7 .no (os.map Sf.Outp.cells)] :: .cells 26 [.str [],.int .i64 0,.sl 0 .nil [],.sl 0 .nil [],.sl 0 .nil []] :: .cells 26 [.str st.lin,.int .i64 st.ser,.sl 13 .no (st.insts.map Sf.Inst.cells),.sl 3 .no (st.pends.map Sf.Pend.cells),.sl 7 .no (st.outs.map Sf.Outp.cells)]::L,[]⟩∧(ts 1=.sl 26 .no (l.map Jr.cells)∧ts 2=.ptr 0 0∧ts 4=.ptr 1 0∧ts 7=.ptr 2 0∧ts 8=.int .i64 (j:Nat))) l.length ?_ ?_
 ·exact⟨0,_,[],by omega,by omega,gs,hDr,rfl,by(exact azo lm)⟩
 rintro mm ts h ⟨j,st,L,rfl,hjc,g,hrun,rfl,ht⟩;rcases Zr j l.length with hlt|hge
 ·have hf:=azp Jr.cells l j hlt (by omega);have hr:=(hin _ (Zp hlt)).1;have hb:=(hbase _ (Zp hlt)).1;have es:l.take (j+1)=l.take j++[l[j]]:=(List.take_append_getElem hlt).symm;have cr:=cyc st (by have:=g.li;omega) (by have:=g.lp;omega) l j hlt (by omega);rw[Zl hlt]at hrun;unfold Rp.runR at hrun;rw[←es]at hrun;have gn:Gd (512+2*(j+1)) (Rp.one st (intL (l.take j) l[j].step) l[j]).1:=(g.one (intL (l.take j) l[j].step) l[j] hr.aft (fun hk=>(Rp.good_of (hb hk) hr.binst hr.bouts).mono (by omega))).mono (by omega);obtain⟨⟨E,B⟩,hE⟩:=Ex (Rp.one st (intL (l.take j) l[j].step) l[j]);rw[hE]at cr gn hrun;clear es hE hr hb hin hbase g;obtain⟨Xlin,Xser,Xins,Xps,Xos⟩:=st;obtain⟨Elin,Eser,Eins,Eps,Eos⟩:=E;simp only[Sf.St.A]at cr;dsimp only at hrun gn⊢;cases B with
  |true=>
   rw[if_pos rfl]at hrun;refine aze (ai ht hf) (ai cr ti) ?_;exact⟨_,by omega,j+1,⟨Elin,Eser,Eins,Eps,Eos⟩,_,rfl,by omega,gn,hrun,rfl,by(exact azo (ai ht hf))⟩
  |false=>
   rw[if_neg (by decide)]at hrun;rw[←hrun]at hD;dsimp only at hD;refine aze (ai ht hf) (ai cr ti) ?_;exact⟨.tup [.agg [.str [],.int .i64 0,.sl 13 .no [],.sl 3 .no [],.sl 7 .no []],.int .i64 38],⟨⟨aza _,aza _,⟨rfl,.inr rfl,.inl rfl⟩,⟨rfl,.inr rfl,.inl rfl⟩,⟨rfl,.inr rfl,.inl rfl⟩,trivial⟩,azz _,trivial⟩,by rw[hD];rfl⟩
 have hf:=azq Jr.cells l j hge;obtain rfl:j=l.length:=by omega
 rw[List.drop_length]at hrun;unfold Rp.runR at hrun;rw[←hrun]at hD;dsimp only at hD;have hlU:(Rp.openR l).length≤l.length:=ax3 l;obtain⟨U,hU⟩:=Ex (Rp.openR l);rw[hU]at cu hlU hD;have lu:(U.map Jr.cells).length=U.length:=Zj _;clear hU hrun hDr hin hbase;refine aze (ai ht (ai hf lu)) (ai cu ti) ?_;obtain⟨D2,hD2⟩:=Ex (Rp.asks st U);rw[hD2]at hD;refine azd (fun mm ts h=>∃(i:Nat) (st:Sf.St) (L:List Blk),mm=U.length-i∧i≤U.length∧Gd (2600+i) st∧Rp.asks st (U.drop i)=D2∧h=⟨.cells 26 [.str rlin,.int .i64 rser,.sl 13 .no (ins.map Sf.Inst.cells),.sl 3 .no (ps.map Sf.Pend.cells),.sl 7 .no (os.map Sf.Outp.cells)] :: .cells 26 [.str [],.int .i64 0,.sl 0 .nil [],.sl 0 .nil [],.sl 0 .nil []] :: .cells 26 [.str st.lin,.int .i64 st.ser,.sl 13 .no (st.insts.map Sf.Inst.cells),.sl 3 .no (st.pends.map Sf.Pend.cells),.sl 7 .no (st.outs.map Sf.Outp.cells)]::L,[]⟩∧(ts 2=.ptr 0 0∧ts 4=.ptr 1 0∧ts 7=.ptr 2 0∧ts 11=.sl 26 .no (U.map Jr.cells)∧ts 12=.int .i64 (i:Nat))) U.length ?_ ?_
 ·exact⟨0,st,L,by omega,by omega,g.mono (by omega),hD2,rfl,by(exact azo (ai ht lu))⟩
 clear ht hf g hD2 hjc hge;rintro mm ts h ⟨i,st,L,rfl,hic,g,hask,rfl,ht⟩;rcases Zr i U.length with hlt|hge
 ·have hf:=azp Jr.cells U i hlt (by omega);rw[Zl hlt]at hask;obtain⟨r,hr'⟩:=Ex (U[i]);rw[hr']at hf hask;rw[czs]at hask;have cp:=akf r;have cr:=bj7 st (by have:=g.lp;omega) ⟨r.addr,r.typ,r.tok⟩;have gn:=g.putR ⟨r.addr,r.typ,r.tok⟩;obtain⟨E,hE⟩:=Ex (Rp.putR st ⟨r.addr,r.typ,r.tok⟩);rw[hE]at cr gn hask;clear hr' hE g;obtain⟨kd,⟨lin,ser,ins,ps,os⟩,sp,op,ad,dp,ty,tk,er,⟨a1,a2,a3,a4,⟨k,nn,ss,is,ks⟩,v,tn,fi,ds⟩⟩:=r;simp only[Jr.cells,Sf.Inst.cells,Sf.Pend.cells,Sf.St.A,Zd,Zg]at hf cr cp;obtain⟨Xlin,Xser,Xins,Xps,Xos⟩:=st;obtain⟨Elin,Eser,Eins,Eps,Eos⟩:=E;dsimp only at cr cp⊢;refine aze (ai ht hf) ti ?_;refine use (cp _) ?_ (hm:=⟨fun e=>absurd e (by decide),fun _=>cw5 (ai ht hf)⟩);refine aze (ai ht hf) (ai cr ti) ?_;exact⟨_,by omega,i+1,⟨Elin,Eser,Eins,Eps,Eos⟩,_,rfl,by omega,gn,hask,rfl,by(exact azo (ai ht hf))⟩
 have hf:=azq Jr.cells U i hge;rw[ZQ (by omega)]at hask;have hask:st=D2:=hask;subst hask;obtain⟨Xlin,Xser,Xins,Xps,Xos⟩:=st;unfold Rp.raise at hD;dsimp only at hD⊢;refine aze (ai ht hf) ti ?_;exact⟨_,le_refl _,by rw[hD];rfl⟩
end AX
end
section
open Go.RowKit
namespace AX
open Rp (ROk XOk)
def av1:AX.AFn:=⟨5,aS [aR 1 (.box 26 (.t 0)),aR 2 (.alloc 44 [.int .i64 0,.str [],.int .i64 0,.sl 0 .nil [],.sl 0 .nil [],.sl 0 .nil [],.int .i64 0,.int .i64 0,.str [],.str [],.str [],.str [],.int .i64 0,.str [],.str [],.str [],.str [],.int .i64 0,.int .i64 0,.str [],.sl 0 .nil [],.sl 0 .nil [],.int .i64 0,.bool false,.bool false,.sl 0 .nil []])] (aS [aR 3 (.load true 5 (.t 1)),aR 4 (.build [.int .i64 0,.str [],.int .i64 0,.sl 0 .nil [],.sl 0 .nil [],.sl 0 .nil [],.int .i64 0,.int .i64 0,.str [],.str [],.str [],.str [],.int .i64 0,.str [],.str [],.str [],.str [],.int .i64 0,.int .i64 0,.str [],.sl 0 .nil [],.sl 0 .nil [],.int .i64 0,.bool false,.bool false,.sl 0 .nil []] [(0,1,aI 1),(1,5,.t 3)]),aU (.store 26 (.t 2) (.t 4))] (.ret)),[.c 2 true 26]⟩
theorem cqv:AX.compFn Tryz.prog 9=some av1:=by kernel_rfl
def ajn:AX.AFn:=⟨8,aS [aR 4 (.alloc 44 [.int .i64 0,.str [],.int .i64 0,.sl 0 .nil [],.sl 0 .nil [],.sl 0 .nil [],.int .i64 0,.int .i64 0,.str [],.str [],.str [],.str [],.int .i64 0,.str [],.str [],.str [],.str [],.int .i64 0,.int .i64 0,.str [],.sl 0 .nil [],.sl 0 .nil [],.int .i64 0,.bool false,.bool false,.sl 0 .nil []])] (aS [aM 5 0,aM 6 1,aR 7 (.build [.int .i64 0,.str [],.int .i64 0,.sl 0 .nil [],.sl 0 .nil [],.sl 0 .nil [],.int .i64 0,.int .i64 0,.str [],.str [],.str [],.str [],.int .i64 0,.str [],.str [],.str [],.str [],.int .i64 0,.int .i64 0,.str [],.sl 0 .nil [],.sl 0 .nil [],.int .i64 0,.bool false,.bool false,.sl 0 .nil []] [(0,1,aI 2),(7,1,aI 1),(8,1,.t 5),(10,1,.c (.str [110,101,116])),(11,1,.t 6)]),aU (.store 26 (.t 4) (.t 7))] (.ret)),[.c 4 true 26]⟩
theorem bw5:AX.compFn Tryz.prog 10=some ajn:=by kernel_rfl
def aw0:Sf.St:=⟨[109,97,105,110],4,[],[],[]⟩
def zeroX:Sf.Inst:=⟨[],[],[],[],.mk 0 0 [] [] [],0,false,false,[]⟩
def aw1:Jr:=⟨1,aw0,0,0,[],[],[],[],0,zeroX⟩
def aw2:Jr:=⟨2,Rp.zeroS,0,1,[110,101,116,46,97],[],[110,101,116],[109,97,105,110,47,52,47,110,101,116,46,97],0,zeroX⟩
def aw3:Sf.St:=⟨[109,97,105,110],5,[],[⟨[110,101,116,46,97],[110,101,116],[109,97,105,110,47,52,47,110,101,116,46,97]⟩],[]⟩
theorem cqe(h:Hp):AT 9 [.agg [.str [109,97,105,110],.int .i64 4,.sl 0 .nil [],.sl 0 .nil [],.sl 0 .nil []]] h (.agg aw1.cells):=by
 refine pcall ?_ rfl rfl h;refine azb mixedT cqv (by simp[av1]) ?_;dsimp only[av1];refine aze ti ti ?_;exact⟨.agg aw1.cells,⟨aza _,aza _,aza _,⟨rfl,.inr rfl,.inl rfl⟩,⟨rfl,.inr rfl,.inl rfl⟩,⟨rfl,.inr rfl,.inl rfl⟩,aza _,aza _,aza _,aza _,aza _,aza _,aza _,aza _,aza _,aza _,aza _,aza _,aza _,aza _,⟨rfl,.inr rfl,.inl rfl⟩,⟨rfl,.inr rfl,.inl rfl⟩,aza _,aza _,aza _,⟨rfl,.inr rfl,.inl rfl⟩,trivial⟩,rfl⟩
theorem byg(h:Hp):AT 10 [.str [110,101,116,46,97],.str [109,97,105,110,47,52,47,110,101,116,46,97]] h (.agg aw2.cells):=by
 refine pcall ?_ rfl rfl h;refine azb mixedT bw5 (by simp[ajn]) ?_;dsimp only[ajn];refine aze ti ti ?_;exact⟨.agg aw2.cells,⟨aza _,aza _,aza _,⟨rfl,.inr rfl,.inl rfl⟩,⟨rfl,.inr rfl,.inl rfl⟩,⟨rfl,.inr rfl,.inl rfl⟩,aza _,aza _,aza _,aza _,aza _,aza _,aza _,aza _,aza _,aza _,aza _,aza _,aza _,aza _,⟨rfl,.inr rfl,.inl rfl⟩,⟨rfl,.inr rfl,.inl rfl⟩,aza _,aza _,aza _,⟨rfl,.inr rfl,.inl rfl⟩,trivial⟩,rfl⟩
theorem czv:XOk zeroX:=⟨by unfold zeroX V.few;exact⟨Zq _,Zq _,trivial⟩,by unfold zeroX V.lens;exact⟨Zq _,Zq _,Zq _,(fun q hq=>by cases hq),trivial⟩,Zq _⟩
theorem dzd(s:Sf.St)(h1:s.insts=[])(h2:s.pends=[])(h3:s.outs=[])(h4:s.lin.length≤2000000):Sf.StIn s:=
 ⟨h4,(fun x hx=>by rw[h1]at hx;cases hx),(fun x hx=>by rw[h2]at hx;cases hx),(fun x hx=>by rw[h3]at hx;cases hx),by rw[h1];exact Zq _,by rw[h2];exact Zq _,by rw[h3];exact Zq _⟩
theorem dkt:∀r∈[aw1,aw2],ROk r:=fun r hr=>by
 rcases ZJ.1 hr with rfl|hr
 ·exact⟨⟨dzd _ rfl rfl rfl (by decide),czv.lens,Zq _⟩,czv,(fun x hx=>by cases hx),(fun x hx=>by cases hx)⟩
 ·obtain rfl:=Yq.1 hr;exact⟨⟨dzd _ rfl rfl rfl (by decide),czv.lens,Zq _⟩,czv,(fun x hx=>by cases hx),(fun x hx=>by cases hx)⟩
theorem dk0(h:Hp):AT 5 [] h (.bool true):=by
 have h0:(aw0).A=.agg [.str [109,97,105,110],.int .i64 4,.sl 13 .no [],.sl 3 .no [],.sl 7 .no []]:=rfl;have h3:(aw3).A=.agg [.str [109,97,105,110],.int .i64 5,.sl 13 .no [],.sl 3 .no [[.str [110,101,116,46,97],.str [110,101,116],.str [109,97,105,110,47,52,47,110,101,116,46,97]]],.sl 7 .no []]:=rfl;have e1:Rp.replayP aw0 [aw1,aw2]=(0,aw3):=by kernel_rfl
 have e2:Rp.replayP aw0 []=(0,aw0):=by kernel_rfl
 have c1:=aww aw0 [aw1,aw2] (dzd _ rfl rfl rfl (by decide)) (fun x hx=>by cases hx) (fun x hx=>by cases hx) dkt (by decide);have c2:=aww aw0 [] (dzd _ rfl rfl rfl (by decide)) (fun x hx=>by cases hx) (fun x hx=>by cases hx) (fun x hx=>by cases hx) (by decide);have k1:aw1.cells=[.int .i64 1,.str [109,97,105,110],.int .i64 4,.sl 13 .no [],.sl 3 .no [],.sl 7 .no [],.int .i64 0,.int .i64 0,.str [],.str [],.str [],.str [],.int .i64 0,.str [],.str [],.str [],.str [],.int .i64 0,.int .i64 0,.str [],.sl 5 .no [],.sl 1 .no [],.int .i64 0,.bool false,.bool false,.sl 1 .no []]:=rfl;have k2:aw2.cells=[.int .i64 2,.str [],.int .i64 0,.sl 13 .no [],.sl 3 .no [],.sl 7 .no [],.int .i64 0,.int .i64 1,.str [110,101,116,46,97],.str [],.str [110,101,116],.str [109,97,105,110,47,52,47,110,101,116,46,97],.int .i64 0,.str [],.str [],.str [],.str [],.int .i64 0,.int .i64 0,.str [],.sl 5 .no [],.sl 1 .no [],.int .i64 0,.bool false,.bool false,.sl 1 .no []]:=rfl;have cb:=cqe;have cc:=byg;simp only[e1,e2,h0,h3,ZE,Yj,k1,k2]at c1 c2 cb cc;have d1:∀h,AT 6 [.agg [.str [109,97,105,110],.int .i64 4,.sl 0 .nil [],.sl 0 .nil [],.sl 0 .nil []],.sl 26 (.tok 0) [[.int .i64 1,.str [109,97,105,110],.int .i64 4,.sl 13 .no [],.sl 3 .no [],.sl 7 .no [],.int .i64 0,.int .i64 0,.str [],.str [],.str [],.str [],.int .i64 0,.str [],.str [],.str [],.str [],.int .i64 0,.int .i64 0,.str [],.sl 5 .no [],.sl 1 .no [],.int .i64 0,.bool false,.bool false,.sl 1 .no []],[.int .i64 2,.str [],.int .i64 0,.sl 13 .no [],.sl 3 .no [],.sl 7 .no [],.int .i64 0,.int .i64 1,.str [110,101,116,46,97],.str [],.str [110,101,116],.str [109,97,105,110,47,52,47,110,101,116,46,97],.int .i64 0,.str [],.str [],.str [],.str [],.int .i64 0,.int .i64 0,.str [],.sl 5 .no [],.sl 1 .no [],.int .i64 0,.bool false,.bool false,.sl 1 .no []]]] h (.tup [.agg [.str [109,97,105,110],.int .i64 5,.sl 13 .no [],.sl 3 .no [[.str [110,101,116,46,97],.str [110,101,116],.str [109,97,105,110,47,52,47,110,101,116,46,97]]],.sl 7 .no []],.int .i64 0]):=fun h=>ACall.args (as':=[.agg [.str [109,97,105,110],.int .i64 4,.sl 13 .no [],.sl 3 .no [],.sl 7 .no []],.sl 26 .no [[.int .i64 1,.str [109,97,105,110],.int .i64 4,.sl 13 .no [],.sl 3 .no [],.sl 7 .no [],.int .i64 0,.int .i64 0,.str [],.str [],.str [],.str [],.int .i64 0,.str [],.str [],.str [],.str [],.int .i64 0,.int .i64 0,.str [],.sl 5 .no [],.sl 1 .no [],.int .i64 0,.bool false,.bool false,.sl 1 .no []],[.int .i64 2,.str [],.int .i64 0,.sl 13 .no [],.sl 3 .no [],.sl 7 .no [],.int .i64 0,.int .i64 1,.str [110,101,116,46,97],.str [],.str [110,101,116],.str [109,97,105,110,47,52,47,110,101,116,46,97],.int .i64 0,.str [],.str [],.str [],.str [],.int .i64 0,.int .i64 0,.str [],.sl 5 .no [],.sl 1 .no [],.int .i64 0,.bool false,.bool false,.sl 1 .no []]]]) ⟨⟨aza _,aza _,⟨rfl,.inr rfl,.inl rfl⟩,⟨rfl,.inr rfl,.inl rfl⟩,⟨rfl,.inr rfl,.inl rfl⟩,trivial⟩,⟨rfl,.inl rfl,.inl rfl⟩,trivial⟩ (c1 h)
 have d2:∀h,AT 6 [.agg [.str [109,97,105,110],.int .i64 4,.sl 0 .nil [],.sl 0 .nil [],.sl 0 .nil []],.sl 0 .nil []] h (.tup [.agg [.str [109,97,105,110],.int .i64 4,.sl 13 .no [],.sl 3 .no [],.sl 7 .no []],.int .i64 0]):=fun h=>ACall.args (as':=[.agg [.str [109,97,105,110],.int .i64 4,.sl 13 .no [],.sl 3 .no [],.sl 7 .no []],.sl 26 .no []]) ⟨⟨aza _,aza _,⟨rfl,.inr rfl,.inl rfl⟩,⟨rfl,.inr rfl,.inl rfl⟩,⟨rfl,.inr rfl,.inl rfl⟩,trivial⟩,⟨rfl,.inr rfl,.inl rfl⟩,trivial⟩ (c2 h)
 clear c1 c2 e1 e2 h0 h3 k1 k2;refine pcall ?_ rfl rfl h;refine fo ?_;refine aze ti ti ?_;refine bqw [4,10] 9 [⟨[.cells 26 [.str [109,97,105,110],.int .i64 4,.sl 0 .nil [],.sl 0 .nil [],.sl 0 .nil []]],[]⟩,⟨[.cells 26 [.str [109,97,105,110],.int .i64 4,.sl 0 .nil [],.sl 0 .nil [],.sl 0 .nil []]],[(44,26,2)]⟩,⟨[],[]⟩,⟨[.cells 26 [.str [109,97,105,110],.int .i64 4,.sl 0 .nil [],.sl 0 .nil [],.sl 0 .nil []],.cells 26 [.str [],.int .i64 0,.sl 0 .nil [],.sl 0 .nil [],.sl 0 .nil []]],[]⟩,⟨[.cells 26 [.str [109,97,105,110],.int .i64 4,.sl 0 .nil [],.sl 0 .nil [],.sl 0 .nil []],.cells 26 [.str [],.int .i64 0,.sl 0 .nil [],.sl 0 .nil [],.sl 0 .nil []]],[(44,26,2)]⟩,⟨[.cells 26 [.str [109,97,105,110],.int .i64 4,.sl 0 .nil [],.sl 0 .nil [],.sl 0 .nil []],.cells 26 [.str [109,97,105,110],.int .i64 5,.sl 13 .no [],.sl 3 .no [[.str [110,101,116,46,97],.str [110,101,116],.str [109,97,105,110,47,52,47,110,101,116,46,97]]],.sl 7 .no []]],[(44,26,2)]⟩] [[0,1,3,4],[0,3],[0,3],[0,3],[0,3],[1,4],[1,4],[1,4],[1,4,5],[0,1],[4],[5]] rfl (by decide +kernel) ?_;refine AX.rung ti ?_;refine axm (vs:=[.agg [.str [109,97,105,110],.int .i64 4,.sl 0 .nil [],.sl 0 .nil [],.sl 0 .nil []]]) (by(exact ev0 ti)) ⟨cb _,cb _,trivial⟩ ?_;refine AX.rung ti ?_;refine axm (vs:=[.str [110,101,116,46,97],.str [109,97,105,110,47,52,47,110,101,116,46,97]]) (by(exact ev0 ti)) ⟨cc _,cc _,trivial⟩ ?_;refine AX.rung ti ?_;refine axm (vs:=[.agg [.str [109,97,105,110],.int .i64 4,.sl 0 .nil [],.sl 0 .nil [],.sl 0 .nil []],.sl 26 (.tok 0) [[.int .i64 1,.str [109,97,105,110],.int .i64 4,.sl 13 .no [],.sl 3 .no [],.sl 7 .no [],.int .i64 0,.int .i64 0,.str [],.str [],.str [],.str [],.int .i64 0,.str [],.str [],.str [],.str [],.int .i64 0,.int .i64 0,.str [],.sl 5 .no [],.sl 1 .no [],.int .i64 0,.bool false,.bool false,.sl 1 .no []],[.int .i64 2,.str [],.int .i64 0,.sl 13 .no [],.sl 3 .no [],.sl 7 .no [],.int .i64 0,.int .i64 1,.str [110,101,116,46,97],.str [],.str [110,101,116],.str [109,97,105,110,47,52,47,110,101,116,46,97],.int .i64 0,.str [],.str [],.str [],.str [],.int .i64 0,.int .i64 0,.str [],.sl 5 .no [],.sl 1 .no [],.int .i64 0,.bool false,.bool false,.sl 1 .no []]]]) (by(exact ev0 ti)) ⟨d1 _,d1 _,trivial⟩ ?_;refine AX.rung ti ?_;refine aka (v:=.int .i64 0) rfl ⟨by simp[evX,put,astep,ajm],by simp[evX,put,astep,ajm],by simp[evX,put,astep,ajm],trivial⟩ ?_;refine AX.rung ti ?_;refine aka (v:=.int .i64 0) rfl ⟨by simp[evX,put,astep,ajm],trivial⟩ ?_;refine bj4 ?_;have z0:(((0:Nat):Int)==0)=true:=rfl;have z1:(((1:Nat):Int)==1)=true:=rfl;have z2:(0:Int)<((1:Nat):Int):=by decide
 refine aze (ai z0 (ai z1 z2)) (ai d2 ti) ?_;exact Fn rfl
end AX
end
section
open Go.RowKit
namespace Rp
theorem run_good:∀(l p:List Jr) (s:Sf.St) (n:Nat),512≤n→Gd n s→(∀r∈l,ROk r∧(r.kind=1→Sf.checkZ r.base=0))→Gd (n+2*l.length) (runP s p l).2
 |[],p,s,n,_,g,_=>g
 |r::l,p,s,n,hn,g,h=>by
  obtain⟨h1,h2⟩:=h r Yb;unfold runP;split
  ·exact(run_good l _ _ (n+2) (by omega) (g.stepP _ r h1.aft fun hk=>(good_of (h2 hk) h1.binst h1.bouts).mono hn) fun x hx=>h x (ZY _ hx)).mono (by rw[Zi];omega)
  ·exact g.mono (by omega)
theorem zero_good:Gd 512 zeroS:=⟨(fun x hx=>by cases hx),(fun x hx=>by cases hx),Zq _,List.Pairwise.nil,List.Pairwise.nil,Zq _,Zq _⟩
theorem replay_good{s:Sf.St}{l:List Jr}(hsi:∀x∈s.insts,XOk x)(hso:∀x∈s.outs,x.value.few∧x.value.lens)(hin:∀r∈l,ROk r)(hl:l.length≤1000):Gd 4000 (replayP s l).2:=by
 unfold replayP;split
 ·exact zero_good.mono (by decide)
 next hz=>
 have hz:Sf.checkZ s=0:=Classical.not_not.1 hz;split
 ·exact zero_good.mono (by decide)
 next hc=>
 have hc:Jr.chkR [] l=0:=Classical.not_not.1 hc;have gs:=good_of hz hsi hso;cases l with
 |nil=>exact gs.mono (by decide)
 |cons r l=>
  dsimp only;split
  ·have h1:=run_good (r::l) [] s 512 (Zh _) gs fun x hx=>⟨hin x hx,(chk_base _ [] hc x hx).1⟩
   have h2:=(h1.asks (openP (r::l))).raise r.base.ser;have h3:(openP (r::l)).length≤(r::l).length:=Zs (List.length_filter_le _ _) (Rp.unfin_len _);exact h2.mono (by omega)
  ·exact zero_good.mono (by decide)
end Rp
namespace AX
open Rp (Gd XOk ROk)
def bx8:AX.AFn:=⟨55,aS [aR 2 (.box 26 (.t 0)),aR 4 (.mv (.c (.bool false)))] (.seq (aS [aF 7 2 2,aL 8 7,aR 9 (.len false (.t 8)),aR 10 (.bin .gtr (.t 9) (aI 20)),aM 11 10,aG 12 (.faddr 3 (.t 2)) 11 false,aG 13 (.load false 1 (.t 12)) 11 false,aG 14 (.len false (.t 13)) 11 false,aG 15 (.bin .gtr (.t 14) (aI 20)) 11 false,aR 16 (.pick (.t 11) (.c (.bool true)) (.t 15)),aM 17 16,aG 18 (.faddr 4 (.t 2)) 17 false,aG 19 (.load false 1 (.t 18)) 17 false,aG 20 (.len false (.t 19)) 17 false,aG 21 (.bin .gtr (.t 20) (aI 20)) 17 false,aR 22 (.pick (.t 17) (.c (.bool true)) (.t 21)),aM 23 22,aG 24 (.mv (.t 1)) 23 false,aG 25 (.len false (.t 24)) 23 false,aG 26 (.bin .gtr (.t 25) (aI 40)) 23 false,aR 27 (.pick (.t 23) (.c (.bool true)) (.t 26))] (.cond (.t 27) (aS [aR 4 (.mv (.c (.bool false)))] (.ret)) (.skip))) (.seq (aS [aR 5 (.mv (aI 0))] (.block 0 (.loop (.seq (aS [aM 28 5,aM 29 1,aR 30 (.len false (.t 29)),aR 31 (.bin .lss (.t 28) (.t 30))] (.cond (.t 31) (.skip) (.exit 0))) (.seq (.block 1 (aS [aM 34 1,aM 35 5,aR 36 (.iaddr 26 (.t 34) (.t 35)),aF 37 1 36,aR 38 (.load true 5 (.t 37)),aR 6 (.alloc 26 [.str [],.int .i64 0,.sl 0 .nil [],.sl 0 .nil [],.sl 0 .nil []]),aU (.store 5 (.t 6) (.t 38))] (aS [aF 39 2 6,aL 40 39,aR 41 (.len false (.t 40)),aR 42 (.bin .gtr (.t 41) (aI 20)),aM 43 42,aG 44 (.faddr 3 (.t 6)) 43 false,aG 45 (.load false 1 (.t 44)) 43 false,aG 46 (.len false (.t 45)) 43 false,aG 47 (.bin .gtr (.t 46) (aI 20)) 43 false,aR 48 (.pick (.t 43) (.c (.bool true)) (.t 47)),aM 49 48,aG 50 (.faddr 4 (.t 6)) 49 false,aG 51 (.load false 1 (.t 50)) 49 false,aG 52 (.len false (.t 51)) 49 false,aG 53 (.bin .gtr (.t 52) (aI 20)) 49 false,aR 54 (.pick (.t 49) (.c (.bool true)) (.t 53))] (.cond (.t 54) (aS [aR 4 (.mv (.c (.bool false)))] (.ret)) (.skip))))) (.reg false [aM 32 5,aR 33 (.bin .add (.t 32) (aI 1)),aM 5 33])))))) (aS [aR 4 (.mv (.c (.bool true)))] (.ret)))),[.t 4]⟩
theorem dzq:AX.compFn Tryz.prog 4=some bx8:=by kernel_rfl
def aj7:AX.AFn:=⟨41,aS [aR 2 (.box 26 (.t 0)),aR 4 (.mv (.c (.bool false)))] (.seq (aS [aR 9 (.load true 5 (.t 2)),aM 10 1,aR 11 (.call 4 [.t 9,.t 10]),aR 12 (.un .not (.t 11))] (.cond (.t 12) (aS [aR 13 (.call 5 []),aM 4 13] (.ret)) (.skip))) (aS [aR 15 (.load true 5 (.t 2)),aM 16 1,aR 17 (.call 6 [.t 15,.t 16]),aM 14 17,aE 18 14 0,aE 19 14 1,aR 5 (.alloc 26 [.str [],.int .i64 0,.sl 0 .nil [],.sl 0 .nil [],.sl 0 .nil []]),aU (.store 5 (.t 5) (.t 18)),aM 6 19] (aS [aR 21 (.load true 5 (.t 2)),aM 22 1,aR 23 (.call 7 [.t 21,.t 22]),aM 20 23,aE 24 20 0,aE 25 20 1,aR 7 (.alloc 26 [.str [],.int .i64 0,.sl 0 .nil [],.sl 0 .nil [],.sl 0 .nil []]),aU (.store 5 (.t 7) (.t 24)),aM 8 25] (aS [aM 26 6,aM 27 8,aR 28 (.bin .eql (.t 26) (.t 27)),aM 29 28,aG 30 (.mv (.t 6)) 29 true,aG 31 (.bin .neq (.t 30) (aI 0)) 29 true,aG 32 (.mv (.t 31)) 29 true,aG 33 (.load true 5 (.t 5)) 32 false,aG 34 (.load true 5 (.t 7)) 32 false,aG 35 (.call 8 [.t 33,.t 34]) 32 false,aG 36 (.pick (.t 32) (.c (.bool true)) (.t 35)) 29 true,aR 37 (.pick (.t 29) (.t 36) (.c (.bool false))),aM 38 37,aG 39 (.call 5 []) 38 true,aR 40 (.pick (.t 38) (.t 39) (.c (.bool false))),aM 4 40] (.ret))))),[.t 4]⟩
theorem bk8:AX.compFn Tryz.prog 3=some aj7:=by kernel_rfl
def smallS(s:Sf.St):Bool:=!(decide ((s.insts.length:Int)>20)||decide ((s.pends.length:Int)>20)||decide ((s.outs.length:Int)>20))
def fewL(s:Sf.St)(l:List Jr):Bool:=smallS s&&(!decide ((l.length:Int)>40)&&l.all fun r=>smallS r.base)
theorem dv3(st:Sf.St)(l:List Jr)(hl:l.length≤1000000000)(h:Hp):AT 4 [st.A,.sl 26 .no (l.map Jr.cells)] h (.bool (fewL st l)):=by
 obtain⟨slin,sser,sins,sps,sos⟩:=st;unfold fewL;simp only[Sf.St.A];refine pcall ?_ rfl (by simp[A.pure,A.data]) h;refine azb mixedT dzq (by simp[bx8]) ?_;dsimp only[bx8];have lm1:(sins.map Sf.Inst.cells).length=sins.length:=Zj _;have lm2:(sps.map Sf.Pend.cells).length=sps.length:=Zj _;have lm3:(sos.map Sf.Outp.cells).length=sos.length:=Zj _;have lm4:(l.map Jr.cells).length=l.length:=Zj _;unfold smallS;dsimp only;by_cases g1:(sins.length:Int)>20
 ·refine azf (ai lm1 (ai lm2 (ai lm3 g1))) ?_;exact⟨_,le_refl _,by simp[g1,tupA]⟩
 by_cases g2:(sps.length:Int)>20
 ·refine azf (ai lm1 (ai lm2 (ai lm3 (ai g1 g2)))) ?_;exact⟨_,le_refl _,by simp[g2,tupA]⟩
 by_cases g3:(sos.length:Int)>20
 ·refine azf (ai lm1 (ai lm2 (ai lm3 (ai g1 (ai g2 g3))))) ?_;exact⟨_,le_refl _,by simp[g3,tupA]⟩
 by_cases g4:(l.length:Int)>40
 ·refine azf (ai lm1 (ai lm2 (ai lm3 (ai lm4 (ai g1 (ai g2 (ai g3 g4))))))) ?_;exact⟨_,le_refl _,by simp[g4,tupA]⟩
 have eD:(!(decide ((sins.length:Int)>20)||decide ((sps.length:Int)>20)||decide ((sos.length:Int)>20))&&(!decide ((l.length:Int)>40)&&l.all fun r=>smallS r.base))=l.all fun r=>smallS r.base:=by simp[g1,g2,g3,g4]
 have eD':=eD;unfold smallS at eD';rw[eD'];clear eD eD';obtain⟨D,hD⟩:=Ex ((l.all fun r=>!(decide ((r.base.insts.length:Int)>20)||decide ((r.base.pends.length:Int)>20)||decide ((r.base.outs.length:Int)>20))));rw[hD];refine azf (ai lm1 (ai lm2 (ai lm3 (ai lm4 (ai g1 (ai g2 (ai g3 g4))))))) ?_;refine azd (fun mm ts h=>∃(j:Nat) (L:List Blk),mm=l.length-j∧j≤l.length∧((l.drop j).all fun r=>!(decide ((r.base.insts.length:Int)>20)||decide ((r.base.pends.length:Int)>20)||decide ((r.base.outs.length:Int)>20)))=D∧h=⟨.cells 26 [.str slin,.int .i64 sser,.sl 13 .no (sins.map Sf.Inst.cells),.sl 3 .no (sps.map Sf.Pend.cells),.sl 7 .no (sos.map Sf.Outp.cells)]::L,[]⟩∧(ts 1=.sl 26 .no (l.map Jr.cells)∧ts 5=.int .i64 (j:Nat))) l.length ?_ ?_
 ·exact⟨0,[],by omega,by omega,hD,rfl,by(exact azo lm4)⟩
 clear hD g1 g2 g3 g4 lm1 lm2 lm3;rintro mm ts h ⟨j,L,rfl,hjc,hit,rfl,ht⟩;rcases Zr j l.length with hlt|hge
 ·have hf:=azp Jr.cells l j hlt (by omega);rw[Zl hlt,ZM]at hit;obtain⟨r,hr⟩:=Ex (l[j]);rw[hr]at hf hit;clear hr;obtain⟨kd,⟨lin,ser,ins,ps,os⟩,sp,op,ad,dp,ty,tk,er,⟨a1,a2,a3,a4,⟨k,nn,ss,is,ks⟩,v,tn,fi,ds⟩⟩:=r;simp only[Jr.cells,Sf.Inst.cells,Zd,Zg]at hf;dsimp only at hit;have lm1:(ins.map Sf.Inst.cells).length=ins.length:=Zj _;have lm2:(ps.map Sf.Pend.cells).length=ps.length:=Zj _;have lm3:(os.map Sf.Outp.cells).length=os.length:=Zj _;by_cases g1:(ins.length:Int)>20
  ·rw[Yh g1]at hit;refine azf (ai ht (ai hf (ai lm1 (ai lm2 (ai lm3 g1))))) ?_;exact⟨_,le_refl _,by rw[←hit];rfl⟩
  by_cases g2:(ps.length:Int)>20
  ·rw[Yh g2,Bool.or_true]at hit;refine azf (ai ht (ai hf (ai lm1 (ai lm2 (ai lm3 (ai g1 g2)))))) ?_;exact⟨_,le_refl _,by rw[←hit];rfl⟩
  by_cases g3:(os.length:Int)>20
  ·rw[Yh g3,Bool.or_true]at hit;refine azf (ai ht (ai hf (ai lm1 (ai lm2 (ai lm3 (ai g1 (ai g2 g3))))))) ?_;exact⟨_,le_refl _,by rw[←hit];rfl⟩
  rw[Ys g1,Ys g2,Ys g3]at hit;refine azf (ai ht (ai hf (ai lm1 (ai lm2 (ai lm3 (ai g1 (ai g2 g3))))))) ?_;exact⟨_,by omega,j+1,_,rfl,by omega,hit,rfl,by(exact azo (ai ht hf))⟩
 have hf:=azq Jr.cells l j hge;rw[ZQ (by omega),Y6]at hit;subst hit;refine azf (ai ht hf) ?_;exact Fn rfl
theorem cxq(aw:∀h,AT 5 [] h (.bool true))(st:Sf.St)(l:List Jr)(hs:Sf.StIn st)(ht:Sf.TypIn st)(hsi:∀x∈st.insts,XOk x)(hso:∀x∈st.outs,x.value.few∧x.value.lens)(hin:∀r∈l,ROk r∧Sf.TypIn r.base)(hl:l.length≤1000000000):
  AC 3 [st.A,.sl 26 .no (l.map Jr.cells)] ⟨[],[]⟩ fun r _=>r=.bool true:=by
 have c0:=dv3 st l hl;refine azb mixedT bk8 (by simp[aj7]) ?_;dsimp only[aj7];cases hb:fewL st l with
 |false=>
  rw[hb]at c0;obtain⟨lin,ser,ins,ps,os⟩:=st;simp only[Sf.St.A]at *;refine aze ti (ai c0 (ai aw ti)) ?_;exact Fn rfl
 |true=>
  rw[hb]at c0;have h40:l.length≤1000:=by
   unfold fewL at hb;rw[Zf,Zf]at hb;have:=hb.2.1;simp at this;omega
  have cP:=aww st l hs hsi hso (fun r hr=>(hin r hr).1) h40;have cR:=cj5 st l hs ht hsi hso hin h40;rw[Rp.replay_eq]at cR;have g:=Rp.replay_good hsi hso (fun r hr=>(hin r hr).1) h40;have cE:=cvy (Rp.replayP st l).2 ⟨by have:=g.li;omega,by have:=g.lp;omega,by have:=g.lo;omega,fun x hx=>⟨(g.ins x hx).lens,(g.ins x hx).deps⟩,fun x hx=>(g.outs x hx).2⟩;obtain⟨⟨Z,E⟩,hE⟩:=Ex (Rp.replayP st l);rw[hE]at cP cR cE;clear hE g hb hs ht hsi hso hin;obtain⟨lin,ser,ins,ps,os⟩:=st;obtain⟨Elin,Eser,Eins,Eps,Eos⟩:=E;simp only[Sf.St.A]at *;by_cases hZ:Z=0
  ·subst hZ;refine aze ti (ai c0 (ai cP (ai cR (ai cE (ai aw ti))))) ?_;exact Fn rfl
  ·have hZb:(Z !=0)=true:=by simp[hZ]
   refine aze hZb (ai c0 (ai cP (ai cR (ai aw ti)))) ?_;exact Fn rfl
theorem dvz{r:Jr}(f:JrFit r):ROk r:=
 ⟨f.few.inn,⟨f.few.vfew,f.few.inn.lens,f.few.inn.deps⟩,fun x hx=>⟨(f.few.ins.2 x hx).1,(f.few.inn.base.insts x hx).l,(f.few.ins.2 x hx).2⟩,fun x hx=>⟨f.few.os.2 x hx,(f.few.inn.base.outs x hx).2⟩⟩
theorem dk3{st:Sf.St}(hw:st.Wf)(hb:st.toD.bulk≤1048576):(∀x∈st.insts,XOk x)∧∀x∈st.outs,x.value.few∧x.value.lens:=by
 have f:=(Sf.fit_of hw (Zs hb (by decide))).sin;have hb3:=hb;unfold Sf.St.toD at hb3;simp only[D.bulk,D.bulks]at hb3;obtain⟨i1,i2⟩:=aqe Sf.Inst.toD st.insts;obtain⟨o1,o2⟩:=aqe Sf.Outp.toD st.outs;refine⟨fun x hx=>?_,fun x hx=>?_⟩
 ·have h1:x.toD.bulk≤1048576:=by have:=i2 x hx;omega
  unfold Sf.Inst.toD at h1;simp only[D.bulk,D.bulks]at h1;exact⟨V.few_of _ (by omega),(f.insts x hx).l,(f.insts x hx).n⟩
 ·have h1:x.toD.bulk≤1048576:=by have:=o2 x hx;omega
  unfold Sf.Outp.toD at h1;simp only[D.bulk,D.bulks]at h1;exact⟨V.few_of _ (by omega),(f.outs x hx).2⟩
theorem dj3{r:Jr}(hw:r.Wf)(hb:r.toD.bulk≤1048576):Sf.TypIn r.base:=by
 unfold Jr.toD at hb;simp only[D.bulk,D.bulks]at hb;exact(Sf.fit_of hw.base (by omega)).tin
theorem cq0(st:Sf.St)(k:st.Wf∧st.bulkD≤1048576)(x:Jrs)(k2:((∀a∈x.l,a.Wf)∧x.l.length≤maxLen)∧x.bulkD≤1048576):
  AC 3 [st.A,.sl 26 .no (x.l.map Jr.cells)] ⟨[],[]⟩ fun r _=>r=.bool true:=by
 have hm:=aqe Jr.toD x.l;have h3:D.bulks (x.l.map Jr.toD)≤1048576:=k2.2;have hf:=dxo x k2;have f:=Sf.fit_of k.1 (Zs k.2 (by decide));have ok:=dk3 k.1 k.2;exact cxq dk0 st x.l f.sin f.tin ok.1 ok.2 (fun r hr=>⟨dvz (hf.1 r hr),dj3 (k2.1.1 r hr) (Zs (hm.2 r hr) h3)⟩) hf.2
end AX
end
end Go.Proofs.YtnghhnahdjjpkaaGreatDoor
