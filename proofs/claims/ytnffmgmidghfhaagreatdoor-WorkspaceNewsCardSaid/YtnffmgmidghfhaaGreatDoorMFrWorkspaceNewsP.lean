/- Part of what the proof needs. -/
import Derived.Test.YtnffmgmidghfhaaGreatDoorMFrWorkspaceNewsJ
import Derived.Test.YtnffmgmidghfhaaGreatDoorMFrWorkspaceNewsO
set_option maxHeartbeats 4000000
set_option maxRecDepth 100000
set_option linter.all false
namespace Go.Proofs.YtnffmgmidghfhaaGreatDoor
section
open Go.RowKit
namespace AX
def bja:AX.AFn:=⟨9,aS [aR 4 (.mv (aI 0))] (.seq (aS [aM 5 1] (.cond (.t 5) (.reg false [aR 4 (.mv (aI 1))]) (.skip))) (.reg false [aM 6 0,aM 7 4,aR 8 (.call 122 [.t 6,.t 7])])),[]⟩
theorem ckb:AX.compFn Tryz.prog 126=some bja:=by kernel_rfl
def bxn:AX.AFn:=⟨59,aS [aR 3 (.box 89 (.t 1))] (aS [aM 6 0,aF 7 0 3,aL 8 7,aR 9 (.call 123 [.t 6,.t 8])] (aS [aM 10 0,aF 11 1 3,aL 12 11,aR 13 (.call 123 [.t 10,.t 12])] (aS [aM 14 0,aF 15 2 3,aL 16 15,aR 17 (.call 123 [.t 14,.t 16])] (aS [aM 18 0,aF 19 3 3,aL 20 19,aR 21 (.call 123 [.t 18,.t 20])] (aS [aM 22 0,aF 23 4 3,aR 24 (.load true 5 (.t 23)),aR 25 (.call 125 [.t 22,.t 24])] (aS [aM 26 0,aF 27 9 3,aL 28 27,aR 29 (.call 122 [.t 26,.t 28])] (aS [aM 30 0,aF 31 10 3,aL 32 31,aR 33 (.call 126 [.t 30,.t 32])] (.seq (aS [aM 34 0,aR 35 (.nilck (.t 34)),aF 36 2 35,aL 37 36,aR 38 (.bin .eql (.t 37) (aI 2))] (.cond (.t 38) (.reg false [aM 39 0,aF 40 11 3,aL 41 40,aR 42 (.call 126 [.t 39,.t 41])]) (.skip))) (aS [aM 43 0,aF 44 12 3,aL 45 44,aR 46 (.len false (.t 45)),aR 47 (.call 122 [.t 43,.t 46])] (aS [aF 48 12 3,aL 49 48,aR 50 (.len false (.t 49)),aR 51 (.mv (aI 0))] (.block 0 (.loop (aS [aR 52 (.bin .lss (.t 51) (.t 50))] (.seq (.cond (.t 52) (.skip) (.exit 0)) (.seq (.block 1 (aS [aR 53 (.iaddr 1 (.t 49) (.t 51)),aL 54 53,aM 5 54] (.reg false [aM 55 0,aM 56 5,aR 57 (.call 123 [.t 55,.t 56])]))) (.reg false [aR 58 (.bin .add (.t 51) (aI 1)),aM 51 58])))))))))))))))),[]⟩
theorem cwb:AX.compFn Tryz.prog 124=some bxn:=by kernel_rfl
theorem akn(ver:Int)(l:List UInt8):(wtr ver l).loc 0:=by
 intro o x h;simp only[wtr]at h;split at h
 ·injection h with h;subst h;rfl
 ·cases h
theorem liftW{f:FuncId}{args:List A}{ver:Int}{l l':List UInt8}(hl':l'≠[])(hc:AC f (.ptr 0 0::args) ⟨[wtr ver l],[]⟩ fun u h'=>u=.tup []/\WP 0 ver l' ⟨[wtr ver l],[]⟩ h')(ha:A.locL 0 args=true){h:Hp}{i:Nat}(hb:h.b[i]?=some (wtr ver l)):
  AC f (.ptr i 0::args) h fun u h'=>u=.tup []/\h'=⟨h.b.set i (wtr ver l'),h.t⟩:=by
 have h1:AC f (.ptr 0 0::args) ⟨[wtr ver l],[]⟩ fun u h'=>∃b',h'.b[0]?=some b'/\u=.tup []/\b'=wtr ver l':=hc.mono fun u h' ⟨e,hp⟩=>⟨wtr ver l',WP.bx hp hl',e,rfl⟩
 refine(ACall.lift1 h1 ha (akn ver l) ?_ hb).mono ?_
 ·rintro u b' ⟨rfl,rfl⟩;exact⟨rfl,akn ver l'⟩
 ·rintro u h' ⟨b',⟨rfl,rfl⟩,rfl⟩;exact⟨rfl,rfl⟩
theorem cvn(n:Int):Wire.num n≠[]:=by
 have:=(Wire.encF_len 9 (Wire.zig n)).1;intro e;have h:(Wire.num n).length=0:=by rw[e];rfl
 unfold Wire.num at h;omega
theorem bye{a b:List UInt8}(h:b≠[]):a++b≠[]:=by simp[h]
theorem by9(s:List UInt8):Wire.strE s≠[]:=by
 unfold Wire.strE;intro e;exact cvn _ (List.append_eq_nil_iff.1 e).1
theorem wn{h:Hp}{i:Nat}{ver:Int}{l:List UInt8}(hb:h.b[i]?=some (wtr ver l))(n:Int)(hlen:l.length+10<=1000000000)(h0:-9223372036854775808<=n)(h1:n<=9223372036854775807):
  AC 122 [.ptr i 0,.int .i64 n] h fun u h'=>u=.tup []/\h'=⟨h.b.set i (wtr ver (l++Wire.num n)),h.t⟩:=
 liftW (bye (cvn n)) (bz8 (h:=⟨[wtr ver l],[]⟩) (.inl rfl) n hlen h0 h1) rfl hb
theorem wt{h:Hp}{i:Nat}{ver:Int}{l:List UInt8}(hb:h.b[i]?=some (wtr ver l))(s:List UInt8)(hlen:l.length+s.length+10<=1000000000):
  AC 123 [.ptr i 0,.str s] h fun u h'=>u=.tup []/\h'=⟨h.b.set i (wtr ver (l++Wire.strE s)),h.t⟩:=
 liftW (bye (by9 s)) (bxu (h:=⟨[wtr ver l],[]⟩) (.inl rfl) s hlen) rfl hb
theorem wv{h:Hp}{i:Nat}{ver:Int}{l:List UInt8}(hb:h.b[i]?=some (wtr ver l))(v:V)(hz:∃lv b,(Val.chk v lv b).1=0)(hlen:l.length+(Val.enc v).length+10<=1000000000)(hv:v.lens):
  AC 125 [.ptr i 0,v.A] h fun u h'=>u=.tup []/\h'=⟨h.b.set i (wtr ver (l++Val.enc v)),h.t⟩:=
 liftW (bye (cy4 v)) (cwf v 0 ver l ⟨[wtr ver l],[]⟩ (.inl rfl) hz hlen hv) (by obtain⟨k,n,s,is,ks⟩:=v;rfl) hb
theorem wf{h:Hp}{i:Nat}{ver:Int}{l:List UInt8}(hb:h.b[i]?=some (wtr ver l))(b:Bool)(hlen:l.length+10<=1000000000):
  AC 126 [.ptr i 0,.bool b] h fun u h'=>u=.tup []/\h'=⟨h.b.set i (wtr ver (l++Sf.flagE b)),h.t⟩:=by
 refine aza mixedT ckb (by simp[bja]) ?_;dsimp only[bja];cases b
 ·refine azb ti ?_;refine use (wn hb _ hlen (by decide) (by decide)) ?_;refine azb ti ?_;exact⟨_,le_refl _,rfl,rfl⟩
 ·refine azb ti ?_;refine use (wn hb _ hlen (by decide) (by decide)) ?_;refine azb ti ?_;exact⟨_,le_refl _,rfl,rfl⟩
structure Sf.InstOk(x:Sf.Inst):Prop where
 z:∃lv b,(Val.chk x.attrs lv b).1=0
 lens:x.attrs.lens
 v0:-9223372036854775808<=x.ver
 v1:x.ver<=9223372036854775807
theorem aqd(s:List UInt8):s.length<=(Wire.strE s).length:=by unfold Wire.strE;rw[Za];omega
theorem axx(ds:List (List UInt8))(j:Nat)(hj:j<ds.length):Sf.wordsE (ds.take (j+1))=Sf.wordsE (ds.take j)++Wire.strE ds[j]:=by
 unfold Sf.wordsE;rw[ZP hj,Zaa];simp
theorem ajy(ds:List (List UInt8))(j:Nat):(Sf.wordsE (ds.take j)).length<=(Sf.wordsE ds).length:=by
 have:Sf.wordsE ds=Sf.wordsE (ds.take j)++Sf.wordsE (ds.drop j):=by unfold Sf.wordsE;rw[<-Zaa,Yi]
 rw[this,Za];omega
theorem cyl{ver:Int}(hver:ver=1\/ver=2)(x:Sf.Inst)(hx:Sf.InstOk x)(l:List UInt8)(hlen:l.length+(Sf.instE ver x).length+20<=1000000000){h:Hp}{i:Nat}(hb:h.b[i]?=some (wtr ver l)):
  AC 124 [.ptr i 0,.agg x.cells] h fun u h'=>u=.tup []/\h'=⟨h.b.set i (wtr ver (l++Sf.instE ver x)),h.t⟩:=by
 have key:AC 124 [.ptr 0 0,.agg x.cells] ⟨[wtr ver l],[]⟩ fun u h'=>∃b',h'.b[0]?=some b'/\u=.tup []/\b'=wtr ver (l++Sf.instE ver x):=by
  have hz:=hx.z;have hl:=hx.lens;have v0:=hx.v0;have v1:=hx.v1;obtain⟨a,d,id,ty,⟨k,n,s,is,ks⟩,v,tn,fi,ds⟩:=x;have hE:Sf.instE ver ⟨a,d,id,ty,.mk k n s is ks,v,tn,fi,ds⟩=Wire.strE a++Wire.strE d++Wire.strE id++Wire.strE ty++Val.enc (.mk k n s is ks)++Wire.num v++Sf.flagE tn++(if ver=2 then Sf.flagE fi else[])++Wire.num ds.length++Sf.wordsE ds:=rfl;rw[hE]at hlen⊢;have la:=aqd a;have lb:=aqd d;have lc:=aqd id;have ld:=aqd ty;have hVA:(V.mk k n s is ks).A=.agg [.int .i64 k,.int .i64 n,.str s,.sl 5 .no (V.cellss is),.sl 1 .no (strsA ks)]:=by simp only[V.A,V.cells]
  have cv:=fun(m:List UInt8) (h:Hp) (hb:h.b[0]?=some (wtr ver m)) (hm:m.length+(Val.enc (.mk k n s is ks)).length+10<=1000000000)=>wv hb (.mk k n s is ks) hz hm hl
  rw[hVA]at cv;simp only[Za]at hlen;obtain⟨F,hF⟩:=Ex ((if ver=2 then Sf.flagE fi else[]));rw[hF]at hlen⊢;have hdl:ds.length<=1000000000:=by
   have:∀l:List (List UInt8),l.length<=(Sf.wordsE l).length:=by
    intro l;induction l with
    |nil=>simp
    |cons x l ih=>
     have h1:Sf.wordsE (x::l)=Wire.strE x++Sf.wordsE l:=by simp[Sf.wordsE]
     have h2:(Wire.strE x).length≠0:=fun e=>by9 x (YG.1 e)
     rw[h1,Za,Zf];omega
   have:=this ds;omega
  refine aza mixedT cwb (by simp[bxn]) ?_;dsimp only[bxn,Sf.Inst.cells];refine azb ti ?_;refine use (wt rfl a (by omega)) ?_;refine azb ti ?_;refine use (wt rfl d (by simp only[Za];omega)) ?_;refine azb ti ?_;refine use (wt rfl id (by simp only[Za];omega)) ?_;refine azb ti ?_;refine use (wt rfl ty (by simp only[Za];omega)) ?_;refine azb ti ?_;refine use (cv _ _ rfl (by simp only[Za];omega)) ?_;refine azb ti ?_;refine use (wn rfl v (by simp only[Za];omega) v0 v1) ?_;refine azb ti ?_;refine use (wf rfl tn (by simp only[Za];omega)) ?_;have hv12:∀{G:Prop},((ver==2)=false->F=[]->G)->((ver==2)=true->F=Sf.flagE fi->G)->G:=fun p q=>by
   rcases hver with rfl|rfl
   ·rw[if_neg (by decide)]at hF;exact p rfl hF.symm
   ·rw[if_pos rfl]at hF;exact q rfl hF.symm
  refine hv12 (fun e2 eF=>?_) (fun e2 eF=>?_);all_goals subst eF
  ·refine azb (ai @cym (ai e2 @azg)) ?_;refine use (wn rfl _ (by simp only[Za];omega) (by omega) (by omega)) ?_;refine azb @azg ?_;refine azh (fun mm ts h=>∃j:Nat,mm=ds.length-j/\j<=ds.length/\h=⟨[wtr ver (l++Wire.strE a++Wire.strE d++Wire.strE id++Wire.strE ty++Val.enc (.mk k n s is ks)++Wire.num v++Sf.flagE tn++Wire.num ds.length++Sf.wordsE (ds.take j)),.cells 89 [.str a,.str d,.str id,.str ty,.int .i64 k,.int .i64 n,.str s,.sl 5 .no (V.cellss is),.sl 1 .no (strsA ks),.int .i64 v,.bool tn,.bool fi,.sl 1 .no (strsA ds)]],[]⟩/\ts 0=.ptr 0 0/\ts 49=.sl 1 .no (strsA ds)/\ts 50=.int .i64 (ds.length:Nat)/\ts 51=.int .i64 (j:Nat)) ds.length ?_ ?_
   ·exact⟨0,by omega,by omega,by simp only[Sf.wordsE,Yp,Zac,Zx],by(exact ev0 ti),by(exact ev0 ti),by(exact ev0 @azg),by(exact aqj ti)⟩
   ·rintro mm ts h ⟨j,rfl,hjc,rfl,t0,t49,t50,t51⟩;by_cases hj:j<ds.length
    ·have hlt:(j:Int)<(ds.length:Int):=by omega
     have ei:IntKind.i64.wrap ((j:Int)+1)=((j+1:Nat):Int):=by rw[wrap64 (by omega) (by omega)];omega
     have hg:=aqr ds j hj;have hlt':(j:Int)<((strsA ds).length:Int):=by rw[azg];exact hlt
     have hj0:(0:Int)<=(j:Int):=by omega
     have ht:=ajy ds (j+1);rw[axx ds j hj,Za]at ht;have hsl:=aqd ds[j];refine azb (ai t0 (ai t49 (ai t50 (ai t51 (ai hlt (ai hg (ai hlt' hj0))))))) ?_;refine use (wt rfl ds[j] (by simp only[Za];omega)) ?_;refine azb (ai t0 (ai t49 (ai t50 (ai t51 ei)))) ?_;exact⟨ds.length-(j+1),by omega,j+1,rfl,by omega,by rw[axx ds j hj];simp only[Zh],by(exact ev0 t0),by(exact ev0 t49),by(exact ev0 t50),by(exact ev0 ei)⟩
    ·have hlt:¬((j:Int)<(ds.length:Int)):=by omega
     have hjl:j=ds.length:=by omega
     subst hjl;refine azb (ai t0 (ai t49 (ai t50 (ai t51 hlt)))) ?_;exact⟨_,le_refl _,_,rfl,rfl,by simp only[Yu,Zh,ZA]⟩
  ·refine azb (ai @cym e2) ?_;refine use (wf rfl fi (by simp only[Za];omega)) ?_;refine azb @azg ?_;refine use (wn rfl _ (by simp only[Za];omega) (by omega) (by omega)) ?_;refine azb @azg ?_;refine azh (fun mm ts h=>∃j:Nat,mm=ds.length-j/\j<=ds.length/\h=⟨[wtr ver (l++Wire.strE a++Wire.strE d++Wire.strE id++Wire.strE ty++Val.enc (.mk k n s is ks)++Wire.num v++Sf.flagE tn++Sf.flagE fi++Wire.num ds.length++Sf.wordsE (ds.take j)),.cells 89 [.str a,.str d,.str id,.str ty,.int .i64 k,.int .i64 n,.str s,.sl 5 .no (V.cellss is),.sl 1 .no (strsA ks),.int .i64 v,.bool tn,.bool fi,.sl 1 .no (strsA ds)]],[]⟩/\ts 0=.ptr 0 0/\ts 49=.sl 1 .no (strsA ds)/\ts 50=.int .i64 (ds.length:Nat)/\ts 51=.int .i64 (j:Nat)) ds.length ?_ ?_
   ·exact⟨0,by omega,by omega,by simp only[Sf.wordsE,Yp,Zac,Zx],by(exact ev0 ti),by(exact ev0 ti),by(exact ev0 @azg),by(exact aqj ti)⟩
   ·rintro mm ts h ⟨j,rfl,hjc,rfl,t0,t49,t50,t51⟩;by_cases hj:j<ds.length
    ·have hlt:(j:Int)<(ds.length:Int):=by omega
     have ei:IntKind.i64.wrap ((j:Int)+1)=((j+1:Nat):Int):=by rw[wrap64 (by omega) (by omega)];omega
     have hg:=aqr ds j hj;have hlt':(j:Int)<((strsA ds).length:Int):=by rw[azg];exact hlt
     have hj0:(0:Int)<=(j:Int):=by omega
     have ht:=ajy ds (j+1);rw[axx ds j hj,Za]at ht;have hsl:=aqd ds[j];refine azb (ai t0 (ai t49 (ai t50 (ai t51 (ai hlt (ai hg (ai hlt' hj0))))))) ?_;refine use (wt rfl ds[j] (by simp only[Za];omega)) ?_;refine azb (ai t0 (ai t49 (ai t50 (ai t51 ei)))) ?_;exact⟨ds.length-(j+1),by omega,j+1,rfl,by omega,by rw[axx ds j hj];simp only[Zh],by(exact ev0 t0),by(exact ev0 t49),by(exact ev0 t50),by(exact ev0 ei)⟩
    ·have hlt:¬((j:Int)<(ds.length:Int)):=by omega
     have hjl:j=ds.length:=by omega
     subst hjl;refine azb (ai t0 (ai t49 (ai t50 (ai t51 hlt)))) ?_;exact⟨_,le_refl _,_,rfl,rfl,by simp only[Yu,Zh,ZA]⟩
 refine(ACall.lift1 key (by obtain⟨a,d,id,ty,⟨k,n,s,is,ks⟩,v,tn,fi,ds⟩:=x;rfl) (akn ver l) ?_ hb).mono ?_
 ·rintro u b' ⟨rfl,rfl⟩;exact⟨rfl,akn _ _⟩
 ·rintro u h' ⟨b',⟨rfl,rfl⟩,rfl⟩;exact⟨rfl,rfl⟩
theorem bzx{α:Type}(f:α->List UInt8)(l:List α)(j:Nat)(hj:j<l.length):(l.take (j+1)).flatMap f=(l.take j).flatMap f++f l[j]:=by
 rw[ZP hj,Zaa];simp
theorem cx4{α:Type}(f:α->List UInt8)(l:List α)(j:Nat):((l.take j).flatMap f).length<=(l.flatMap f).length:=by
 have:l.flatMap f=(l.take j).flatMap f++(l.drop j).flatMap f:=by rw[<-Zaa,Yi]
 rw[this,Za];omega
theorem azy{α:Type}(f:α->List A)(l:List α)(j:Nat)(hj:j<l.length):(l.map f).getD j []=f l[j]:=by simp[List.getD,hj]
structure Sf.StOk(s:Sf.St):Prop where
 insts:∀x∈s.insts,Sf.InstOk x
 outs:∀x∈s.outs,(∃lv b,(Val.chk x.value lv b).1=0)/\x.value.lens
 ser0:-9223372036854775808<=s.ser
 ser1:s.ser<=9223372036854775807
 li:s.insts.length<=1000000000
 lp:s.pends.length<=1000000000
 lo:s.outs.length<=1000000000
theorem cv3{ver:Int}(hver:ver=1\/ver=2)(st:Sf.St)(ok:Sf.StOk st)(hlen:(Sf.stE ver st).length+20<=1000000000):
  AC 95 [.ptr 0 0,st.A] ⟨[.cells 144 [.nilp,.sl 0 .nil [],.int .i64 ver]],[]⟩ fun u h'=>∃b',h'.b[0]?=some b'/\u=.tup []/\b'=wtr ver (Sf.stE ver st):=by
 obtain⟨lin,ser,ins,ps,os⟩:=st;have s0:-9223372036854775808<=ser:=ok.ser0;have s1:ser<=9223372036854775807:=ok.ser1;have li:ins.length<=1000000000:=ok.li;have lp:ps.length<=1000000000:=ok.lp;have lo:os.length<=1000000000:=ok.lo;have hml:magic.length=4:=rfl;have lm1:(ins.map Sf.Inst.cells).length=ins.length:=Zl _;have lm2:(ps.map Sf.Pend.cells).length=ps.length:=Zl _;have lm3:(os.map Sf.Outp.cells).length=os.length:=Zl _;obtain⟨F,hF⟩:=Ex ((if ver=2 then Wire.num ps.length++ps.flatMap Sf.pendE else[]));have hE:Sf.stE ver ⟨lin,ser,ins,ps,os⟩=magic++Wire.num ver++Wire.strE lin++Wire.num ser++Wire.num ins.length++ins.flatMap (Sf.instE ver)++F++Wire.num os.length++os.flatMap Sf.outE:=by rw[<-hF];rfl
 rw[hE]at hlen;simp only[Za,hml]at hlen;have k0:=aqd lin;have hv12:∀{G:Prop},((ver==2)=false->F=[]->G)->((ver==2)=true->F=Wire.num ps.length++ps.flatMap Sf.pendE->G)->G:=fun p q=>by
  rcases hver with rfl|rfl
  ·rw[if_neg (by decide)]at hF;exact p rfl hF.symm
  ·rw[if_pos rfl]at hF;exact q rfl hF.symm
 have hv1:1<=ver/\ver<=2:=by omega
 refine aza mixedT cqy (by simp[ayi]) ?_;dsimp only[ayi,Sf.St.A];refine azb ti ?_;refine use (bxp (.inr ⟨rfl,rfl⟩) magic (by simp only[Zp,hml];decide)) ?_;refine azb @cym ?_;refine use (wn (i:=0) (ver:=ver) (l:=magic) rfl ver (by simp only[Za,hml];omega) (by omega) (by omega)) ?_;refine azb ti ?_;refine use (wt rfl lin (by simp only[Za,hml];omega)) ?_;refine azb ti ?_;refine use (wn rfl ser (by simp only[Za,hml];omega) s0 s1) ?_;refine azb (ai lm1 (ai lm2 lm3)) ?_;refine use (wn rfl _ (by simp only[Za,hml];omega) (by omega) (by omega)) ?_;refine azb (ai lm1 (ai lm2 lm3)) ?_;refine azh (fun mm ts h=>∃(j:Nat) (l:List Blk),mm=ins.length-j/\j<=ins.length/\h=⟨wtr ver (magic++Wire.num ver++Wire.strE lin++Wire.num ser++Wire.num ins.length++(ins.take j).flatMap (Sf.instE ver)) :: .cells 58 [.str lin,.int .i64 ser,.sl 13 .no (ins.map Sf.Inst.cells),.sl 3 .no (ps.map Sf.Pend.cells),.sl 7 .no (os.map Sf.Outp.cells)]::l,[]⟩/\ts 0=.ptr 0 0/\ts 3=.ptr 1 0/\ts 34=.sl 13 .no (ins.map Sf.Inst.cells)/\ts 35=.int .i64 (ins.length:Nat)/\ts 36=.int .i64 (j:Nat)) ins.length ?_ ?_
 ·exact⟨0,[],by omega,by omega,by simp only[Yp,Zac,Zx],by(exact ev0 ti),by(exact ev0 ti),by(exact ev0 ti),by(exact ev0 (ai lm1 (ai lm2 lm3))),by(exact aqj ti)⟩
 ·rintro mm ts h ⟨j,l,rfl,hjc,rfl,t0,t3,ta,tb,tc⟩;by_cases hj:j<ins.length
  ·have hlt:(j:Int)<(ins.length:Int):=by omega
   have hlt':(j:Int)<((ins.map Sf.Inst.cells).length:Int):=by rw[Zl];exact hlt
   have hj0:(0:Int)<=(j:Int):=by omega
   have ei:IntKind.i64.wrap ((j:Int)+1)=((j+1:Nat):Int):=by rw[wrap64 (by omega) (by omega)];omega
   have hs:=bzx (Sf.instE ver) ins j hj;have ht:=cx4 (Sf.instE ver) ins (j+1);have hg:=azy Sf.Inst.cells ins j hj;have hm:=ZF hj;have hok:=ok.insts _ hm;obtain⟨x,hx⟩:=Ex (ins[j]);rw[hx]at hs hg hok;rw[hs,Za]at ht;have cw:=fun(m:List UInt8) (h:Hp) (hb:h.b[0]?=some (wtr ver m)) (hm:m.length+(Sf.instE ver x).length+20<=1000000000)=>cyl hver x hok m hm hb
   obtain⟨a,d,id,ty,⟨k,n,s,is,ks⟩,v,tn,fi,ds⟩:=x;simp only[Sf.Inst.cells]at hg cw;refine azb (ai t0 (ai t3 (ai ta (ai tb (ai tc (ai hlt (ai hg (ai hlt' hj0)))))))) ?_;refine use (cw _ _ rfl (by simp only[Za,hml];omega)) ?_;refine azb (ai t0 (ai t3 (ai ta (ai tb (ai tc ei))))) ?_;exact⟨ins.length-(j+1),by omega,j+1,l++[.cells 89 [.str a,.str d,.str id,.str ty,.int .i64 k,.int .i64 n,.str s,.sl 5 .no (V.cellss is),.sl 1 .no (strsA ks),.int .i64 v,.bool tn,.bool fi,.sl 1 .no (strsA ds)]],rfl,by omega,by rw[hs];simp only[Zh],by(exact ev0 t0),by(exact ev0 t3),by(exact ev0 ta),by(exact ev0 tb),by(exact ev0 ei)⟩
  ·have hlt:¬((j:Int)<(ins.length:Int)):=by omega
   have hjl:j=ins.length:=by omega
   subst hjl;rw[Yu];refine hv12 (fun e2 eF=>?_) (fun e2 eF=>?_);all_goals subst eF
   all_goals first|(simp only[Za]at hlen)|skip
   ·refine azb (ai t0 (ai t3 (ai ta (ai tb (ai tc (ai hlt (ai @cym (ai e2 (ai lm1 (ai lm2 lm3)))))))))) ?_;refine use (wn (i:=0) (ver:=ver) (l:=magic++Wire.num ver++Wire.strE lin++Wire.num ser++Wire.num ins.length++ins.flatMap (Sf.instE ver)) rfl _ (by simp only[Za,hml];omega) (by omega) (by omega)) ?_;refine azb (ai t0 (ai t3 (ai lm1 (ai lm2 lm3)))) ?_;refine azh (fun mm ts h=>∃(j:Nat) (l:List Blk),mm=os.length-j/\j<=os.length/\h=⟨wtr ver (magic++Wire.num ver++Wire.strE lin++Wire.num ser++Wire.num ins.length++ins.flatMap (Sf.instE ver)++Wire.num os.length++(os.take j).flatMap Sf.outE) :: .cells 58 [.str lin,.int .i64 ser,.sl 13 .no (ins.map Sf.Inst.cells),.sl 3 .no (ps.map Sf.Pend.cells),.sl 7 .no (os.map Sf.Outp.cells)]::l,[]⟩/\ts 0=.ptr 0 0/\ts 3=.ptr 1 0/\ts 80=.sl 7 .no (os.map Sf.Outp.cells)/\ts 81=.int .i64 (os.length:Nat)/\ts 82=.int .i64 (j:Nat)) os.length ?_ ?_
    ·exact⟨0,l,by omega,by omega,by simp only[Yp,Zac,Zx],by(exact ev0 t0),by(exact ev0 t3),by(exact ev0 (ai t0 t3)),by(exact ev0 (ai t0 (ai t3 (ai lm1 (ai lm2 lm3))))),by(exact aqj (ai t0 t3))⟩
    ·rintro mm ts h ⟨j,l,rfl,hjc,rfl,t0,t3,ta,tb,tc⟩;by_cases hj:j<os.length
     ·have hlt:(j:Int)<(os.length:Int):=by omega
      have hlt':(j:Int)<((os.map Sf.Outp.cells).length:Int):=by rw[Zl];exact hlt
      have hj0:(0:Int)<=(j:Int):=by omega
      have ei:IntKind.i64.wrap ((j:Int)+1)=((j+1:Nat):Int):=by rw[wrap64 (by omega) (by omega)];omega
      have hs:=bzx Sf.outE os j hj;have ht:=cx4 Sf.outE os (j+1);have hg:=azy Sf.Outp.cells os j hj;have hm:=ZF hj;have hok:=ok.outs _ hm;obtain⟨x,hx⟩:=Ex (os[j]);rw[hx]at hs hg hok;rw[hs,Za]at ht;obtain⟨m,⟨k,n,s,is,ks⟩,b⟩:=x;have hVA:(V.mk k n s is ks).A=.agg [.int .i64 k,.int .i64 n,.str s,.sl 5 .no (V.cellss is),.sl 1 .no (strsA ks)]:=by simp only[V.A,V.cells]
      have cv:=fun(m:List UInt8) (h:Hp) (hb:h.b[0]?=some (wtr ver m)) (hm:m.length+(Val.enc (.mk k n s is ks)).length+10<=1000000000)=>wv hb (.mk k n s is ks) hok.1 hm hok.2
      rw[hVA]at cv;simp only[Sf.Outp.cells]at hg;simp only[Sf.outE]at hs ht;simp only[Za]at ht;have k1:=aqd m;refine azb (ai t0 (ai t3 (ai ta (ai tb (ai tc (ai hlt (ai hg (ai hlt' hj0)))))))) ?_;refine use (wt rfl m (by simp only[Za,hml];omega)) ?_;refine azb (ai t0 (ai t3 (ai ta (ai tb tc)))) ?_;refine use (cv _ _ rfl (by simp only[Za,hml];omega)) ?_;refine azb (ai t0 (ai t3 (ai ta (ai tb tc)))) ?_;refine use (wf rfl b (by simp only[Za,hml];omega)) ?_;refine azb (ai t0 (ai t3 (ai ta (ai tb (ai tc ei))))) ?_;exact⟨os.length-(j+1),by omega,j+1,l++[.cells 42 [.str m,.int .i64 k,.int .i64 n,.str s,.sl 5 .no (V.cellss is),.sl 1 .no (strsA ks),.bool b]],rfl,by omega,by rw[hs];simp only[Zh],by(exact ev0 t0),by(exact ev0 t3),by(exact ev0 ta),by(exact ev0 tb),by(exact ev0 ei)⟩
     ·have hlt:¬((j:Int)<(os.length:Int)):=by omega
      have hjl:j=os.length:=by omega
      subst hjl;rw[Yu];refine azb (ai t0 (ai t3 (ai ta (ai tb (ai tc hlt))))) ?_;exact⟨_,le_refl _,_,rfl,rfl,by rw[hE];simp only[Zh,ZA]⟩
   ·refine azb (ai t0 (ai t3 (ai ta (ai tb (ai tc (ai hlt (ai @cym (ai e2 (ai lm1 (ai lm2 lm3)))))))))) ?_;refine use (wn (i:=0) (ver:=ver) (l:=magic++Wire.num ver++Wire.strE lin++Wire.num ser++Wire.num ins.length++ins.flatMap (Sf.instE ver)) rfl _ (by simp only[Za,hml];omega) (by omega) (by omega)) ?_;refine azb (ai t0 (ai t3 (ai lm1 (ai lm2 lm3)))) ?_;refine azh (fun mm ts h=>∃(j:Nat) (l:List Blk),mm=ps.length-j/\j<=ps.length/\h=⟨wtr ver (magic++Wire.num ver++Wire.strE lin++Wire.num ser++Wire.num ins.length++ins.flatMap (Sf.instE ver)++Wire.num ps.length++(ps.take j).flatMap Sf.pendE) :: .cells 58 [.str lin,.int .i64 ser,.sl 13 .no (ins.map Sf.Inst.cells),.sl 3 .no (ps.map Sf.Pend.cells),.sl 7 .no (os.map Sf.Outp.cells)]::l,[]⟩/\ts 0=.ptr 0 0/\ts 3=.ptr 1 0/\ts 55=.sl 3 .no (ps.map Sf.Pend.cells)/\ts 56=.int .i64 (ps.length:Nat)/\ts 57=.int .i64 (j:Nat)) ps.length ?_ ?_
    ·exact⟨0,l,by omega,by omega,by simp only[Yp,Zac,Zx],by(exact ev0 t0),by(exact ev0 t3),by(exact ev0 (ai t0 t3)),by(exact ev0 (ai t0 (ai t3 (ai lm1 (ai lm2 lm3))))),by(exact aqj (ai t0 t3))⟩
    ·rintro mm ts h ⟨j,l,rfl,hjc,rfl,t0,t3,ta,tb,tc⟩;by_cases hj:j<ps.length
     ·have hlt:(j:Int)<(ps.length:Int):=by omega
      have hlt':(j:Int)<((ps.map Sf.Pend.cells).length:Int):=by rw[Zl];exact hlt
      have hj0:(0:Int)<=(j:Int):=by omega
      have ei:IntKind.i64.wrap ((j:Int)+1)=((j+1:Nat):Int):=by rw[wrap64 (by omega) (by omega)];omega
      have hs:=bzx Sf.pendE ps j hj;have ht:=cx4 Sf.pendE ps (j+1);have hg:=azy Sf.Pend.cells ps j hj;have hm:=ZF hj;obtain⟨x,hx⟩:=Ex (ps[j]);rw[hx]at hs hg;rw[hs,Za]at ht;simp only[Sf.Pend.cells]at hg;simp only[Sf.pendE]at hs ht;simp only[Za]at ht;have k1:=aqd x.addr;have k2:=aqd x.typ;have k3:=aqd x.tok;refine azb (ai t0 (ai t3 (ai ta (ai tb (ai tc (ai hlt (ai hg (ai hlt' hj0)))))))) ?_;refine use (wt rfl x.addr (by simp only[Za,hml];omega)) ?_;refine azb (ai t0 (ai t3 (ai ta (ai tb tc)))) ?_;refine use (wt rfl x.typ (by simp only[Za,hml];omega)) ?_;refine azb (ai t0 (ai t3 (ai ta (ai tb tc)))) ?_;refine use (wt rfl x.tok (by simp only[Za,hml];omega)) ?_;refine azb (ai t0 (ai t3 (ai ta (ai tb (ai tc ei))))) ?_;exact⟨ps.length-(j+1),by omega,j+1,l++[.cells 130 [.str x.addr,.str x.typ,.str x.tok]],rfl,by omega,by rw[hs];simp only[Zh],by(exact ev0 t0),by(exact ev0 t3),by(exact ev0 ta),by(exact ev0 tb),by(exact ev0 ei)⟩
     ·have hlt:¬((j:Int)<(ps.length:Int)):=by omega
      have hjl:j=ps.length:=by omega
      subst hjl;rw[Yu];refine azb (ai t0 (ai t3 (ai ta (ai tb (ai tc (ai hlt (ai lm1 (ai lm2 lm3)))))))) ?_;refine use (wn rfl _ (by simp only[Za,hml];omega) (by omega) (by omega)) ?_;refine azb (ai t0 (ai t3 (ai lm1 (ai lm2 lm3)))) ?_;refine azh (fun mm ts h=>∃(j:Nat) (l:List Blk),mm=os.length-j/\j<=os.length/\h=⟨wtr ver (magic++Wire.num ver++Wire.strE lin++Wire.num ser++Wire.num ins.length++ins.flatMap (Sf.instE ver)++Wire.num ps.length++ps.flatMap Sf.pendE++Wire.num os.length++(os.take j).flatMap Sf.outE) :: .cells 58 [.str lin,.int .i64 ser,.sl 13 .no (ins.map Sf.Inst.cells),.sl 3 .no (ps.map Sf.Pend.cells),.sl 7 .no (os.map Sf.Outp.cells)]::l,[]⟩/\ts 0=.ptr 0 0/\ts 3=.ptr 1 0/\ts 80=.sl 7 .no (os.map Sf.Outp.cells)/\ts 81=.int .i64 (os.length:Nat)/\ts 82=.int .i64 (j:Nat)) os.length ?_ ?_
      ·exact⟨0,l,by omega,by omega,by simp only[Yp,Zac,Zx],by(exact ev0 t0),by(exact ev0 t3),by(exact ev0 (ai t0 t3)),by(exact ev0 (ai t0 (ai t3 (ai lm1 (ai lm2 lm3))))),by(exact aqj (ai t0 t3))⟩
      ·rintro mm ts h ⟨j,l,rfl,hjc,rfl,t0,t3,ta,tb,tc⟩;by_cases hj:j<os.length
       ·have hlt:(j:Int)<(os.length:Int):=by omega
        have hlt':(j:Int)<((os.map Sf.Outp.cells).length:Int):=by rw[Zl];exact hlt
        have hj0:(0:Int)<=(j:Int):=by omega
        have ei:IntKind.i64.wrap ((j:Int)+1)=((j+1:Nat):Int):=by rw[wrap64 (by omega) (by omega)];omega
        have hs:=bzx Sf.outE os j hj;have ht:=cx4 Sf.outE os (j+1);have hg:=azy Sf.Outp.cells os j hj;have hm:=ZF hj;have hok:=ok.outs _ hm;obtain⟨x,hx⟩:=Ex (os[j]);rw[hx]at hs hg hok;rw[hs,Za]at ht;obtain⟨m,⟨k,n,s,is,ks⟩,b⟩:=x;have hVA:(V.mk k n s is ks).A=.agg [.int .i64 k,.int .i64 n,.str s,.sl 5 .no (V.cellss is),.sl 1 .no (strsA ks)]:=by simp only[V.A,V.cells]
        have cv:=fun(m:List UInt8) (h:Hp) (hb:h.b[0]?=some (wtr ver m)) (hm:m.length+(Val.enc (.mk k n s is ks)).length+10<=1000000000)=>wv hb (.mk k n s is ks) hok.1 hm hok.2
        rw[hVA]at cv;simp only[Sf.Outp.cells]at hg;simp only[Sf.outE]at hs ht;simp only[Za]at ht;have k1:=aqd m;refine azb (ai t0 (ai t3 (ai ta (ai tb (ai tc (ai hlt (ai hg (ai hlt' hj0)))))))) ?_;refine use (wt rfl m (by simp only[Za,hml];omega)) ?_;refine azb (ai t0 (ai t3 (ai ta (ai tb tc)))) ?_;refine use (cv _ _ rfl (by simp only[Za,hml];omega)) ?_;refine azb (ai t0 (ai t3 (ai ta (ai tb tc)))) ?_;refine use (wf rfl b (by simp only[Za,hml];omega)) ?_;refine azb (ai t0 (ai t3 (ai ta (ai tb (ai tc ei))))) ?_;exact⟨os.length-(j+1),by omega,j+1,l++[.cells 42 [.str m,.int .i64 k,.int .i64 n,.str s,.sl 5 .no (V.cellss is),.sl 1 .no (strsA ks),.bool b]],rfl,by omega,by rw[hs];simp only[Zh],by(exact ev0 t0),by(exact ev0 t3),by(exact ev0 ta),by(exact ev0 tb),by(exact ev0 ei)⟩
       ·have hlt:¬((j:Int)<(os.length:Int)):=by omega
        have hjl:j=os.length:=by omega
        subst hjl;rw[Yu];refine azb (ai t0 (ai t3 (ai ta (ai tb (ai tc hlt))))) ?_;exact⟨_,le_refl _,_,rfl,rfl,by rw[hE];simp only[Zh,ZA]⟩
def bxs:AX.AFn:=⟨9,aS [aR 2 (.mv (.c (.bool false)))] (aS [aM 3 0,aR 4 (.bin .neq (.t 3) (.c (.str []))),aM 5 4,aG 6 (.mv (.t 0)) 5 true,aG 7 (.call 48 [.t 6]) 5 true,aR 8 (.pick (.t 5) (.t 7) (.c (.bool false))),aM 2 8] (.ret)),[.t 2]⟩
theorem cwc:AX.compFn Tryz.prog 83=some bxs:=by kernel_rfl
def bzm:AX.AFn:=⟨128,aS [aR 1 (.box 58 (.t 0)),aR 2 (.mv (aI 0))] (.seq (aS [aF 11 0 1,aL 12 11,aR 13 (.call 83 [.t 12]),aR 14 (.un .not (.t 13))] (.cond (.t 14) (aS [aR 2 (.mv (aI 1))] (.ret)) (.skip))) (.seq (aS [aF 15 1 1,aL 16 15,aR 17 (.bin .lss (.t 16) (aI 0)),aM 18 17,aG 19 (.faddr 1 (.t 1)) 18 false,aG 20 (.load false 1 (.t 19)) 18 false,aG 21 (.bin .gtr (.t 20) (aI 9007199254740992)) 18 false,aR 22 (.pick (.t 18) (.c (.bool true)) (.t 21))] (.cond (.t 22) (aS [aR 2 (.mv (aI 5))] (.ret)) (.skip))) (.seq (aS [aF 23 2 1,aL 24 23,aR 25 (.len false (.t 24)),aF 26 3 1,aL 27 26,aR 28 (.len false (.t 27)),aF 29 4 1,aL 30 29,aR 31 (.len false (.t 30)),aR 32 (.max3 (.t 25) (.t 28) (.t 31)),aR 33 (.bin .gtr (.t 32) (aI 512))] (.cond (.t 33) (aS [aR 2 (.mv (aI 14))] (.ret)) (.skip))) (.seq (aS [aF 34 2 1,aL 35 34,aR 36 (.len false (.t 35)),aR 37 (.mv (aI 0))] (.block 0 (.loop (aS [aR 38 (.bin .lss (.t 37) (.t 36))] (.seq (.cond (.t 38) (.skip) (.exit 0)) (.seq (.block 1 (aS [aM 39 37,aR 40 (.iaddr 13 (.t 35) (.t 37)),aR 41 (.load true 13 (.t 40)),aR 4 (.alloc 89 [.str [],.str [],.str [],.str [],.int .i64 0,.int .i64 0,.str [],.sl 0 .nil [],.sl 0 .nil [],.int .i64 0,.bool false,.bool false,.sl 0 .nil []]),aM 3 39,aU (.store 13 (.t 4) (.t 41))] (.seq (aS [aR 42 (.load true 13 (.t 4)),aR 43 (.call 84 [.t 42]),aM 5 43] (aS [aM 44 5,aR 45 (.bin .neq (.t 44) (aI 0))] (.cond (.t 45) (aS [aM 46 5,aM 2 46] (.ret)) (.skip)))) (.seq (.reg true [aM 47 3,⟨some 48,.bin .gtr (.t 47) (aI 0),none,[0]⟩,⟨some 49,.mv (.t 48),none,[1]⟩,⟨some 50,.faddr 2 (.t 1),some (49,true),[2]⟩,⟨some 51,.load false 1 (.t 50),some (49,true),[3,2]⟩,⟨some 52,.mv (.t 3),some (49,true),[2]⟩,⟨some 53,.bin .sub (.t 52) (aI 1),some (49,true),[5,2]⟩,⟨some 54,.iaddr 13 (.t 51) (.t 53),some (49,true),[4,6,2]⟩,⟨some 55,.load true 13 (.t 54),some (49,true),[7,2]⟩,⟨some 56,.call 85 [.t 55],some (49,true),[8,2,2]⟩,⟨some 57,.load true 13 (.t 4),some (49,true),[2]⟩,⟨some 58,.call 85 [.t 57],some (49,true),[10,9,2]⟩,⟨some 59,.call 86 [.t 56,.t 58],some (49,true),[9,11,11,2]⟩,⟨some 60,.bin .geq (.t 59) (aI 0),some (49,true),[12,2]⟩,⟨some 61,.pick (.t 49) (.t 60) (.c (.bool false)),none,[2,13]⟩]) (.cond (.t 61) (aS [aR 2 (.mv (aI 1))] (.ret)) (.skip)))))) (.reg false [aR 62 (.bin .add (.t 37) (aI 1)),aM 37 62]))))))) (.seq (aS [aF 63 3 1,aL 64 63,aR 65 (.len false (.t 64)),aR 66 (.mv (aI 0))] (.block 2 (.loop (aS [aR 67 (.bin .lss (.t 66) (.t 65))] (.seq (.cond (.t 67) (.skip) (.exit 2)) (.seq (.block 3 (aS [aM 68 66,aR 69 (.iaddr 3 (.t 64) (.t 66)),aR 70 (.load true 3 (.t 69)),aR 7 (.alloc 130 [.str [],.str [],.str []]),aM 6 68,aU (.store 3 (.t 7) (.t 70))] (.seq (.reg true [aF 71 2 7,⟨some 72,.load false 1 (.t 71),none,[0]⟩,⟨some 73,.call 83 [.t 72],none,[1]⟩,⟨some 74,.un .not (.t 73),none,[2]⟩,⟨some 75,.mv (.t 74),none,[3,2]⟩,⟨some 76,.faddr 0 (.t 7),some (75,false),[4]⟩,⟨some 77,.load false 1 (.t 76),some (75,false),[5,4]⟩,⟨some 78,.faddr 1 (.t 7),some (75,false),[4]⟩,⟨some 79,.load false 1 (.t 78),some (75,false),[7,4]⟩,⟨some 80,.call 87 [.t 77,.t 79],some (75,false),[6,8,4,4]⟩,⟨some 81,.un .not (.t 80),some (75,false),[9,4]⟩,⟨some 82,.pick (.t 75) (.c (.bool true)) (.t 81),none,[4,10]⟩,⟨some 83,.mv (.t 82),none,[11,9]⟩,⟨some 84,.mv (.t 6),some (83,false),[12]⟩,⟨some 85,.bin .gtr (.t 84) (aI 0),some (83,false),[13,12]⟩,⟨some 86,.mv (.t 85),some (83,false),[14,12,12]⟩,⟨some 87,.faddr 3 (.t 1),some (86,true),[15]⟩,⟨some 88,.load false 1 (.t 87),some (86,true),[16,15]⟩,⟨some 89,.mv (.t 6),some (86,true),[15]⟩,⟨some 90,.bin .sub (.t 89) (aI 1),some (86,true),[18,15]⟩,⟨some 91,.iaddr 3 (.t 88) (.t 90),some (86,true),[17,19,15]⟩,⟨some 92,.faddr 2 (.t 91),some (86,true),[20,15]⟩,⟨some 93,.load false 1 (.t 92),some (86,true),[21,15]⟩,⟨some 94,.faddr 2 (.t 7),some (86,true),[15]⟩,⟨some 95,.load false 1 (.t 94),some (86,true),[23,15]⟩,⟨some 96,.bin .geq (.t 93) (.t 95),some (86,true),[22,24,15]⟩,⟨some 97,.pick (.t 86) (.t 96) (.c (.bool false)),some (83,false),[15,25,12]⟩,⟨some 98,.pick (.t 83) (.c (.bool true)) (.t 97),none,[12,26]⟩]) (.cond (.t 98) (aS [aR 2 (.mv (aI 1))] (.ret)) (.skip))))) (.reg false [aR 99 (.bin .add (.t 66) (aI 1)),aM 66 99]))))))) (.seq (aS [aF 100 4 1,aL 101 100,aR 102 (.len false (.t 101)),aR 103 (.mv (aI 0))] (.block 4 (.loop (aS [aR 104 (.bin .lss (.t 103) (.t 102))] (.seq (.cond (.t 104) (.skip) (.exit 4)) (.seq (.block 5 (aS [aM 105 103,aR 106 (.iaddr 7 (.t 101) (.t 103)),aR 107 (.load true 7 (.t 106)),aR 9 (.alloc 42 [.str [],.int .i64 0,.int .i64 0,.str [],.sl 0 .nil [],.sl 0 .nil [],.bool false]),aM 8 105,aU (.store 7 (.t 9) (.t 107))] (.seq (aS [aR 108 (.load true 7 (.t 9)),aR 109 (.call 88 [.t 108]),aM 10 109] (aS [aM 110 10,aR 111 (.bin .neq (.t 110) (aI 0))] (.cond (.t 111) (aS [aM 112 10,aM 2 112] (.ret)) (.skip)))) (.seq (.reg true [aM 113 8,⟨some 114,.bin .gtr (.t 113) (aI 0),none,[0]⟩,⟨some 115,.mv (.t 114),none,[1]⟩,⟨some 116,.faddr 4 (.t 1),some (115,true),[2]⟩,⟨some 117,.load false 1 (.t 116),some (115,true),[3,2]⟩,⟨some 118,.mv (.t 8),some (115,true),[2]⟩,⟨some 119,.bin .sub (.t 118) (aI 1),some (115,true),[5,2]⟩,⟨some 120,.iaddr 7 (.t 117) (.t 119),some (115,true),[4,6,2]⟩,⟨some 121,.faddr 0 (.t 120),some (115,true),[7,2]⟩,⟨some 122,.load false 1 (.t 121),some (115,true),[8,2]⟩,⟨some 123,.faddr 0 (.t 9),some (115,true),[2]⟩,⟨some 124,.load false 1 (.t 123),some (115,true),[10,2]⟩,⟨some 125,.bin .geq (.t 122) (.t 124),some (115,true),[9,11,2]⟩,⟨some 126,.pick (.t 115) (.t 125) (.c (.bool false)),none,[2,12]⟩]) (.cond (.t 126) (aS [aR 2 (.mv (aI 1))] (.ret)) (.skip)))))) (.reg false [aR 127 (.bin .add (.t 103) (aI 1)),aM 103 127]))))))) (aS [aR 2 (.mv (aI 0))] (.ret)))))))),[.t 2]⟩
theorem cj8:AX.compFn Tryz.prog 53=some bzm:=by kernel_rfl
theorem cwu(s:List UInt8)(hs:s.length<=2000000)(h:Hp):AT 83 [.str s] h (.bool (s != []&&Str.valid s)):=by
 refine pcall ?_ rfl (by simp[A.pure,A.data]) h;refine aza mixedT cwc (by simp[bxs]) ?_;dsimp only[bxs];rcases azr (s != [])with h1|h1
 ·refine go0 h1 ?_;refine gc0 h1 ?_;refine(bx6 s hs _).mono ?_;rintro v h1' ⟨rfl,rfl⟩;refine go0 h1 ?_;exact⟨_,le_refl _,by rw[azq,h1];rfl⟩
 ·refine go0 h1 ?_;exact⟨_,le_refl _,by rw[azq,h1];rfl⟩
def ayw:AX.AFn:=⟨29,aS [aR 2 (.box 58 (.t 0)),aR 4 (.mv (.c (.str []))),aR 5 (.mv (aI 0))] (.seq (aS [aR 8 (.load true 5 (.t 2)),aR 9 (.call 53 [.t 8]),aM 6 9] (aS [aM 10 6,aR 11 (.bin .neq (.t 10) (aI 0))] (.cond (.t 11) (aS [aM 12 6,aR 4 (.mv (.c (.str []))),aM 5 12] (.ret)) (.skip)))) (aS [aM 13 1,aR 14 (.build [.nilp,.sl 0 .nil [],.int .i64 0] [(2,1,.t 13)]),aR 15 (.box 144 (.t 14)),aM 7 15] (aS [aM 16 7,aR 17 (.load true 5 (.t 2)),aR 18 (.call 95 [.t 16,.t 17])] (.seq (aS [aM 19 7,aR 20 (.nilck (.t 19)),aF 21 0 20,aR 22 (.call 96 [.t 21]),aR 23 (.bin .gtr (.t 22) (aI 1048572))] (.cond (.t 23) (aS [aR 4 (.mv (.c (.str []))),aR 5 (.mv (aI 3))] (.ret)) (.skip))) (aS [aM 24 7,aR 25 (.nilck (.t 24)),aF 26 0 25,aR 27 (.call 97 [.t 26]),aR 28 (.call 70 [.t 27]),aM 4 28,aR 5 (.mv (aI 0))] (.ret)))))),[.t 4,.t 5]⟩
theorem cqp:AX.compFn Tryz.prog 68=some ayw:=by kernel_rfl
def bzb:AX.AFn:=⟨8,aS [aR 1 (.box 58 (.t 0)),aR 2 (.mv (.c (.str []))),aR 3 (.mv (aI 0))] (aS [aR 4 (.load true 5 (.t 1)),aR 5 (.call 68 [.t 4,aI 2]),aE 6 5 0,aE 7 5 1,aM 2 6,aM 3 7] (.ret)),[.t 2,.t 3]⟩
theorem cx1:AX.compFn Tryz.prog 49=some bzb:=by kernel_rfl
def aye:AX.AFn:=⟨64,aS [aR 2 (.alloc 58 [.str [],.int .i64 0,.sl 0 .nil [],.sl 0 .nil [],.sl 0 .nil []]),aR 3 (.mv (aI 0))] (.seq (aS [aM 9 0,aR 10 (.len true (.t 9)),aR 11 (.bin .gtr (.t 10) (aI 1048576))] (.cond (.t 11) (aS [aR 12 (.build [.str [],.int .i64 0,.sl 0 .nil [],.sl 0 .nil [],.sl 0 .nil []] []),aU (.store 5 (.t 2) (.t 12)),aR 3 (.mv (aI 3))] (.ret)) (.skip))) (.seq (aS [aM 13 0,aR 14 (.call 75 [.t 13,.c (.str [80,86,83,84])]),aR 15 (.un .not (.t 14))] (.cond (.t 15) (aS [aR 16 (.build [.str [],.int .i64 0,.sl 0 .nil [],.sl 0 .nil [],.sl 0 .nil []] []),aU (.store 5 (.t 2) (.t 16)),aR 3 (.mv (aI 2))] (.ret)) (.skip))) (aS [aM 18 0,aR 19 (.call 76 [.t 18]),aM 17 19,aE 20 17 0,aE 21 17 1,aM 4 20,aM 5 21] (.seq (aS [aM 22 5,aR 23 (.bin .neq (.t 22) (aI 0))] (.cond (.t 23) (aS [aR 24 (.build [.str [],.int .i64 0,.sl 0 .nil [],.sl 0 .nil [],.sl 0 .nil []] []),aU (.store 5 (.t 2) (.t 24)),aR 3 (.mv (aI 20))] (.ret)) (.skip))) (aS [aM 26 4,aR 27 (.call 77 [.t 26]),aM 25 27,aE 28 25 0,aE 29 25 1,aM 6 28,aM 5 29] (.seq (aS [aM 30 5,aR 31 (.bin .neq (.t 30) (aI 0))] (.cond (.t 31) (aS [aR 32 (.build [.str [],.int .i64 0,.sl 0 .nil [],.sl 0 .nil [],.sl 0 .nil []] []),aM 33 5,aU (.store 5 (.t 2) (.t 32)),aM 3 33] (.ret)) (.skip))) (aS [aM 34 4,aR 35 (.ssl (.t 34) (some (aI 4)) none),aR 36 (.call 78 [.t 35]),aM 37 6,aR 38 (.build [.nilp,.int .i64 0,.bool false] [(0,1,.t 36),(1,1,.t 37)]),aR 39 (.box 121 (.t 38)),aM 7 39] (aS [aM 40 7,aR 41 (.nilck (.t 40)),aF 42 0 41,aL 43 42,aR 44 (.call 79 [.t 43])] (aS [aM 45 7,aR 46 (.call 80 [.t 45]),aR 8 (.alloc 58 [.str [],.int .i64 0,.sl 0 .nil [],.sl 0 .nil [],.sl 0 .nil []]),aU (.store 5 (.t 8) (.t 46))] (.seq (aS [aM 47 7,aR 48 (.call 81 [.t 47]),aM 49 48,aG 50 (.mv (.t 7)) 49 false,aG 51 (.nilck (.t 50)) 49 false,aG 52 (.faddr 0 (.t 51)) 49 false,aG 53 (.load false 1 (.t 52)) 49 false,aG 54 (.call 82 [.t 53]) 49 false,aG 55 (.bin .gtr (.t 54) (aI 0)) 49 false,aR 56 (.pick (.t 49) (.c (.bool true)) (.t 55)),aM 57 56,aG 58 (.load true 5 (.t 8)) 57 false,aG 59 (.call 53 [.t 58]) 57 false,aG 60 (.bin .neq (.t 59) (aI 0)) 57 false,aR 61 (.pick (.t 57) (.c (.bool true)) (.t 60))] (.cond (.t 61) (aS [aR 62 (.build [.str [],.int .i64 0,.sl 0 .nil [],.sl 0 .nil [],.sl 0 .nil []] []),aU (.store 5 (.t 2) (.t 62)),aR 3 (.mv (aI 2))] (.ret)) (.skip))) (aS [aR 63 (.load true 5 (.t 8)),aU (.store 5 (.t 2) (.t 63)),aR 3 (.mv (aI 0))] (.ret)))))))))))),[.c 2 true 5,.t 3]⟩
theorem cxz:AX.compFn Tryz.prog 52=some aye:=by kernel_rfl
theorem bkh(s:List UInt8)(hs:s.length<=1000000000)(h:Hp):AT 70 [.str s] h (.str (Crc.app s)):=
 azs (ajp aqy) (fun w hg=>awv ⟨s.toArray⟩ w (by rw[size_mk];exact hs)) (fun C=>rep_str.2 rfl) h
theorem bkd(s:List UInt8)(hs:s.length<=1000000000)(h:Hp):AT 76 [.str s] h (.tup [.str (Crc.ver s).1,.int .i64 (Crc.ver s).2]):=
 azs (ajp aqy) (fun w hg=>aw8 ⟨s.toArray⟩ w (by rw[size_mk];exact hs)) (fun C=>rep_tup.2 ⟨_,rfl,repL_cons.2 ⟨_,_,rfl,rep_str.2 rfl,repL_cons.2 ⟨_,_,rfl,rep_int.2 rfl,azm.2 rfl⟩⟩⟩) h
def stE:A:=.agg [.str [],.int .i64 0,.sl 0 .nil [],.sl 0 .nil [],.sl 0 .nil []]
end AX
namespace Sf
def zero:St:=⟨[],0,[],[],[]⟩
def encode(ver:Int)(st:St):List UInt8×Int:=
 if checkZ st≠0 then([],checkZ st)else if 1048572<(stE ver st).length then([],3)else(Crc.app (stE ver st),0)
def decode(s:List UInt8):St×Int:=
 if 1048576<s.length then(zero,3)
 else if AX.preB s=false then(zero,2)
 else if(Crc.ver s).2≠0 then(zero,20)
 else if(AX.versionS (Crc.ver s).1).2≠0 then(zero,(AX.versionS (Crc.ver s).1).2)
 else
  let r:=stateS (AX.versionS (Crc.ver s).1).1 ⟨(Wire.numR ⟨(Crc.ver s).1.drop 4,0⟩).1,false⟩
  if r.1.fails||decide (0<r.1.r.rest.length)||checkZ r.2 !=0 then(zero,2)else(r.2,0)
end Sf
namespace AX
def SCheck(st:Sf.St):Prop:=∀h,AT 53 [st.A] h (.int .i64 (Sf.checkZ st))
theorem cj9{ver:Int}(hver:ver=1\/ver=2)(st:Sf.St)(ok:Sf.StOk st)(hlen:(Sf.stE ver st).length+20<=1000000000){h:Hp}{i:Nat}(hb:h.b[i]?=some (.cells 144 [.nilp,.sl 0 .nil [],.int .i64 ver])):
  AC 95 [.ptr i 0,st.A] h fun u h'=>u=.tup []/\h'=⟨h.b.set i (wtr ver (Sf.stE ver st)),h.t⟩:=by
 refine(ACall.lift1 (cv3 hver st ok hlen) rfl (by intros;rfl) ?_ hb).mono ?_
 ·rintro u b' ⟨rfl,rfl⟩;exact⟨rfl,akn _ _⟩
 ·rintro u h' ⟨b',⟨rfl,rfl⟩,rfl⟩;exact⟨rfl,rfl⟩
theorem dzr(ver:Int)(st:Sf.St):Sf.stE ver st≠[]:=by
 unfold Sf.stE Sf.magic;simp
theorem cx2{ver:Int}(hver:ver=1\/ver=2)(st:Sf.St)(hck:SCheck st)(hok:Sf.checkZ st=0->Sf.StOk st/\(Sf.stE ver st).length+20<=1000000000)(h:Hp):
  AT 68 [st.A,.int .i64 ver] h (.tup [.str (Sf.encode ver st).1,.int .i64 (Sf.encode ver st).2]):=by
 refine pcall ?_ rfl (by simp[A.pure,A.data,Sf.St.A]) h;refine aza mixedT cqp (by simp[ayw]) ?_;dsimp only[ayw];have hw:=fun h hb hz=>cj9 hver st (hok hz).1 (hok hz).2 (h:=h) (i:=1) hb
 have hE:Sf.encode ver st=if Sf.checkZ st≠0 then([],Sf.checkZ st)else if 1048572<(Sf.stE ver st).length then([],3)else(Crc.app (Sf.stE ver st),0):=rfl
 unfold SCheck at hck;unfold Sf.St.A at hck hw⊢;by_cases hz:Sf.checkZ st=0
 ·have e1:(Sf.checkZ st !=0)=false:=by simp[hz]
  rw[if_neg (by simp[hz])]at hE;refine azb ti ?_;refine use (hck _) ?_;refine azb e1 ?_;refine use (hw _ rfl hz) ?_;refine azb ti ?_;refine use (cyy (i:=1) (ver:=ver) (l:=Sf.stE ver st) (.inl rfl)) ?_;by_cases hl:((Sf.stE ver st).length:Int)>1048572
  ·rw[if_pos (by omega)]at hE;refine azb hl ?_;exact⟨_,le_refl _,by rw[hE];rfl⟩
  ·rw[if_neg (by omega)]at hE;refine azb hl ?_;refine use (bwj (i:=1) (ver:=ver) (l:=Sf.stE ver st) (.inl rfl) (dzr _ _)) ?_;refine azb ti ?_;refine use (bkh _ (by omega) _) ?_;refine azb ti ?_;exact⟨_,le_refl _,by rw[hE];rfl⟩
 ·have e1:(Sf.checkZ st !=0)=true:=by simp[hz]
  rw[if_pos hz]at hE;refine azb ti ?_;refine use (hck _) ?_;refine azb e1 ?_;exact⟨_,le_refl _,by rw[hE];rfl⟩
theorem cqq(st:Sf.St)(hck:SCheck st)(hok:Sf.checkZ st=0->Sf.StOk st/\(Sf.stE 2 st).length+20<=1000000000)(h:Hp):
  AT 49 [st.A] h (.tup [.str (Sf.encode 2 st).1,.int .i64 (Sf.encode 2 st).2]):=by
 refine pcall ?_ rfl (by simp[A.pure,A.data,Sf.St.A]) h;refine aza mixedT cx1 (by simp[bzb]) ?_;dsimp only[bzb];have he:=fun h=>cx2 (.inr rfl) st hck hok h
 unfold Sf.St.A at he⊢;refine azb ti ?_;refine use (he _) ?_;refine azb ti ?_;exact Fn rfl
theorem liftD{P:Program}{G:World->Prop}{f:FuncId}{args:List A}{ver:Int}{s s':Sf.Rs}{v:A}(hc:ACall P G f (.ptr 0 0::args) ⟨[RB ver s.bad,rdr s.r],[]⟩ fun v' h'=>v'=v/\h'=⟨[RB ver s'.bad,rdr s'.r],[]⟩)(ha:A.locL 0 args=true)(hv:v.loc 0=true)(z:Blk)(l:List Blk)(t:List (TypeId×Nat×Nat)):
  ACall P G f (.ptr 2 0::args) ⟨z::rdr s.r::RB ver s.bad::l,t⟩ fun v' h'=>v'=v/\h'=⟨z::rdr s'.r::RB ver s'.bad::l,t⟩:=by
 have key:=ACall.lift hc (fun i=>if i=0 then 2 else i) (fun a b ha hb e=>by
   simp only[Zf,Zp]at ha hb;have h1:a=0\/a=1:=by omega
   have h2:b=0\/b=1:=by omega
   rcases h1 with rfl|rfl<;>rcases h2 with rfl|rfl<;>simp at e⊢) (by unfold A.locL;rw[(A.locL0 _ args ha).1];rfl)
  (fun x hx=>by
   rcases ZM.1 hx with rfl|hx
   ·rfl
   ·rw[ZB.1 hx];rfl)
  (fun v' h' ⟨e,h0⟩=>⟨by rw[e];exact(A.loc0 _ v hv).1,fun j x hj hx=>by
   have:j=0\/j=1:=by simp only[Zf,Zp]at hj;omega
   rw[h0]at hx;rcases this with rfl|rfl
   ·simp only[ZQ]at hx;injection hx with hx;subst hx;rfl
   ·simp only[ZQ,ZY]at hx;injection hx with hx;subst hx;rfl⟩)
  (h:=⟨z::rdr s.r::RB ver s.bad::l,t⟩) (fun j hj=>by
   have:j=0\/j=1:=by simp only[Zf,Zp]at hj;omega
   rcases this with rfl|rfl<;>rfl)
 have e:A.renL (fun i=>if i=0 then 2 else i) (.ptr 0 0::args)=.ptr 2 0::args:=by unfold A.renL;rw[(A.locL0 0 args ha).2];rfl
 rw[e]at key;refine key.mono ?_;rintro v' h' ⟨v0,h0,⟨rfl,rfl⟩,rfl,rfl⟩;exact⟨(A.loc0 0 _ hv).2 _,rfl⟩
theorem akc{s:List UInt8}(h:(versionS s).2=0):(versionS s).1=1\/(versionS s).1=2:=by
 unfold versionS at h⊢;split at h
 ·cases h
 ·rename_i h1;rw[if_neg h1];dsimp only at h⊢;split at h
  ·cases h
  ·rename_i h2;rw[if_neg h2];split at h
   ·cases h
   ·rename_i h3;rw[if_neg h3];dsimp only;omega
theorem cj2(s:List UInt8)(hlen:s.length<=1000000000)(hvl:(Crc.ver s).1.length<=s.length)(hck:∀ver r,r.rest.length<=s.length->SCheck (Sf.stateS ver ⟨r,false⟩).2)(h:Hp):
  AT 52 [.str s] h (.tup [(Sf.decode s).1.A,.int .i64 (Sf.decode s).2]):=by
 refine pcall ?_ rfl (by simp[A.pure,A.data]) h;refine aza mixedT cxz (by simp[aye]) ?_;dsimp only[aye];obtain⟨D,hD⟩:=Ex (Sf.decode s);rw[hD];unfold Sf.decode at hD;have hzA:Sf.zero.A=.agg [.str [],.int .i64 0,.sl 13 .no [],.sl 3 .no [],.sl 7 .no []]:=rfl;have hz:∀e:Int,le (.tup [.agg [.str [],.int .i64 0,.sl 0 .nil [],.sl 0 .nil [],.sl 0 .nil []],.int .i64 e]) (.tup [Sf.zero.A,.int .i64 e]):=fun e=>⟨⟨azd _,azd _,⟨rfl,.inr rfl,.inl rfl⟩,⟨rfl,.inr rfl,.inl rfl⟩,⟨rfl,.inr rfl,.inl rfl⟩,trivial⟩,rfl,trivial⟩
 by_cases hl:(s.length:Int)>1048576
 ·rw[if_pos (by omega)]at hD;refine azb hl ?_;exact⟨_,hz _,by subst hD;rfl⟩
 rw[if_neg (by omega)]at hD;refine azb hl ?_;refine use (ax2 s magic _) ?_;by_cases hp:preB s=false
 ·rw[if_pos hp]at hD;unfold preB at hp;refine azb hp ?_;exact⟨_,hz _,by subst hD;rfl⟩
 rw[if_neg hp]at hD;have hp':(decide (magic.length<=s.length)&&s.take magic.length==magic)=true:=by unfold preB at hp;simpa using hp
 refine azb hp' ?_;refine use (bkd s hlen _) ?_;obtain⟨⟨b,e⟩,hv⟩:=Ex (Crc.ver s);rw[hv]at hD hvl⊢;dsimp only at hD hvl⊢;by_cases he:e=0
 rotate_left
 ·have e1:(e !=0)=true:=by simp[he]
  rw[if_pos he]at hD;refine azb e1 ?_;exact⟨_,hz _,by subst hD;rfl⟩
 have e1:(e !=0)=false:=by simp[he]
 rw[if_neg (by simp[he])]at hD;refine azb e1 ?_;refine use (byv b (by omega) _) ?_;have h12:=@akc b;obtain⟨⟨n,e2⟩,hn⟩:=Ex (versionS b);rw[hn]at hD h12⊢;dsimp only at hD h12⊢;by_cases he2:e2=0
 rotate_left
 ·have e3:(e2 !=0)=true:=by simp[he2]
  rw[if_pos he2]at hD;refine azb e3 ?_;exact⟨_,hz _,by subst hD;rfl⟩
 have e3:(e2 !=0)=false:=by simp[he2]
 rw[if_neg (by simp[he2])]at hD;have hb4:4<=b.length:=by
  have hp4:preB b=true:=by
   rcases azr (preB b)with h1|h1
   ·first|exact h1|(exfalso;unfold versionS at hn;rw[if_pos h1]at hn;injection hn with _ hn;omega)
   ·first|exact h1|(exfalso;unfold versionS at hn;rw[if_pos h1]at hn;injection hn with _ hn;omega)
  unfold preB at hp4;have hml:magic.length=4:=rfl;simp only[Zg,ZE,hml]at hp4;exact hp4.1
 have hb5:(4:Int)<=(b.length:Int):=by omega
 refine azb (ai e3 hb5) ?_;refine use (akd (b.drop 4) _) ?_;refine azb ti ?_;refine use (axa (i:=1) (r:=⟨b.drop 4,0⟩) rfl (by rw[Zu];omega)) ?_;have hql:=Wire.numR_rest ⟨b.drop 4,0⟩;obtain⟨⟨q,qn⟩,hq⟩:=Ex (Wire.numR ⟨b.drop 4,0⟩);rw[hq]at hD hql⊢;dsimp only at hD hql⊢;rw[Zu]at hql;have cs:=liftD (cjv (h12 he2) ⟨q,false⟩ (by dsimp only;omega) [] []) rfl rfl (.cells 58 [.str [],.int .i64 0,.sl 0 .nil [],.sl 0 .nil [],.sl 0 .nil []]) [] [];have hc:=hck n q (by omega);obtain⟨⟨⟨r,bad⟩,st⟩,hs⟩:=Ex (Sf.stateS n ⟨q,false⟩);rw[hs]at cs hc hD;unfold SCheck at hc;unfold Sf.St.A at cs hc;unfold RB at cs;dsimp only at cs hc hD;have cf:=liftD (avy (ver:=n) ⟨r,bad⟩ [] []) rfl rfl (.cells 58 [.str [],.int .i64 0,.sl 0 .nil [],.sl 0 .nil [],.sl 0 .nil []]) [.cells 58 [.str st.lin,.int .i64 st.ser,.sl 13 .no (st.insts.map Sf.Inst.cells),.sl 3 .no (st.pends.map Sf.Pend.cells),.sl 7 .no (st.outs.map Sf.Outp.cells)]] [];unfold RB at cf;dsimp only at cf;refine azb ti ?_;refine use cs ?_;refine azb ti ?_;refine use cf ?_;obtain⟨F,hF⟩:=Ex ((⟨r,bad⟩:Sf.Rs).fails);rw[hF]at hD⊢;cases F;rotate_left
 ·rw[if_pos (by simp only[Y1])]at hD;refine azb ti ?_;exact⟨_,hz _,by subst hD;rfl⟩
 simp only[YA]at hD;refine azb ti ?_;refine use (dzf (i:=1) (r:=r) rfl) ?_;by_cases hL:(r.rest.length:Int)>0
 ·rw[Yr (show 0<r.rest.length by omega),if_pos (by simp only[Y1])]at hD;refine azb hL ?_;exact⟨_,hz _,by subst hD;rfl⟩
 have hL2:decide (0<r.rest.length)=false:=Yy (by omega);simp only[hL2,YA]at hD;refine azb hL ?_;refine use (hc _) ?_;by_cases hk:Sf.checkZ st=0
 ·have e4:(Sf.checkZ st !=0)=false:=by simp[hk]
  rw[if_neg (by simp[e4])]at hD;refine azb e4 ?_;exact⟨_,le_refl _,by subst hD;rfl⟩
 ·have e4:(Sf.checkZ st !=0)=true:=by simp[hk]
  rw[if_pos e4]at hD;refine azb e4 ?_;exact⟨_,hz _,by subst hD;rfl⟩
end AX
end
section
open Go.RowKit
open Go.Op (bytesLess)
namespace Adr
def Step.cells(s:Step):List AX.A:=[.str s.name,.int .i64 s.key.kind,.int .i64 s.key.num,.str s.key.str]
def Ad.cells(a:Ad):List AX.A:=[.sl 4 .no (a.mods.map Step.cells),.bool a.data,.str a.type,.str a.name,.int .i64 a.key.kind,.int .i64 a.key.num,.str a.key.str]
end Adr
namespace AX
def cmpZ(a b:List UInt8):Int:=if a==b then 0 else if bytesLess a b then -1 else 1
structure Leafs:Prop where
 parse:∀(s:List UInt8),s.length<=2000000->∀h,AT 118 [.str s] h (.tup [.agg (Adr.parse s).1.cells,.int .i64 (Adr.parse s).2])
 static:∀(s:List UInt8),s.length<=2000000->∀h,AT 134 [.str s] h (.tup [.str (Adr.static s).1,.int .i64 (Adr.static s).2])
 ident:∀(s:List UInt8),s.length<=2000000->∀h,AT 23 [.str s] h (.bool (Adr.ident s))
 num:∀(s:List UInt8),s.length<=2000000->∀h,AT 131 [.str s] h (.tup [.int .i64 (Num.parse s).1,.int .i64 (Num.parse s).2])
 cmp:∀(a b:List UInt8) h,AT 44 [.str a,.str b] h (.int .i64 (cmpZ a b))
 known:∀(v:V),v.lens->∀h,AT 115 [v.A] h (.bool (Sf.known v))
 text:∀(s:List UInt8),s.length<=2000000->∀h,AT 83 [.str s] h (.bool (Sf.text s))
def avd:AX.AFn:=⟨25,aS [aR 4 (.mv (.c (.bool false)))] (aS [aM 8 0,aR 9 (.call 118 [.t 8]),aM 7 9,aE 10 7 0,aE 11 7 1,aR 5 (.alloc 172 [.sl 0 .nil [],.bool false,.str [],.str [],.int .i64 0,.int .i64 0,.str []]),aU (.store 7 (.t 5) (.t 10)),aM 6 11] (aS [aM 12 6,aR 13 (.bin .eql (.t 12) (aI 0)),aM 14 13,aG 15 (.faddr 1 (.t 5)) 14 true,aG 16 (.load false 1 (.t 15)) 14 true,aG 17 (.un .not (.t 16)) 14 true,aR 18 (.pick (.t 14) (.t 17) (.c (.bool false))),aM 19 18,aG 20 (.faddr 2 (.t 5)) 19 true,aG 21 (.load false 1 (.t 20)) 19 true,aG 22 (.mv (.t 1)) 19 true,aG 23 (.bin .eql (.t 21) (.t 22)) 19 true,aR 24 (.pick (.t 19) (.t 23) (.c (.bool false))),aM 4 24] (.ret))),[.t 4]⟩
theorem bkt:AX.compFn Tryz.prog 87=some avd:=by kernel_rfl
def by6:AX.AFn:=⟨16,aS [aR 2 (.mv (.c (.bool false)))] (aS [aM 6 0,aR 7 (.call 131 [.t 6]),aM 5 7,aE 8 5 0,aE 9 5 1,aM 3 8,aM 4 9] (aS [aM 10 4,aR 11 (.bin .eql (.t 10) (aI 0)),aM 12 11,aG 13 (.mv (.t 3)) 12 true,aG 14 (.bin .geq (.t 13) (aI 1)) 12 true,aR 15 (.pick (.t 12) (.t 14) (.c (.bool false))),aM 2 15] (.ret))),[.t 2]⟩
theorem cyx:AX.compFn Tryz.prog 114=some by6:=by kernel_rfl
def aj7:AX.AFn:=⟨8,aS [aR 1 (.box 89 (.t 0)),aR 2 (.alloc 126 [.str [],.str []])] (aS [aF 3 0 1,aL 4 3,aF 5 1 1,aL 6 5,aR 7 (.build [.str [],.str []] [(0,1,.t 4),(1,1,.t 6)]),aU (.store 2 (.t 2) (.t 7))] (.ret)),[.c 2 true 2]⟩
theorem bv6:AX.compFn Tryz.prog 85=some aj7:=by kernel_rfl
def aj4:AX.AFn:=⟨40,aS [aR 2 (.mv (.c (.bool false)))] (.seq (aS [aM 7 0,aR 8 (.len false (.t 7)),aR 9 (.mv (aI 0))] (.block 0 (.loop (aS [aR 10 (.bin .lss (.t 9) (.t 8))] (.seq (.cond (.t 10) (.skip) (.exit 0)) (.seq (.block 1 (aS [aM 11 9,aR 12 (.iaddr 1 (.t 7) (.t 9)),aL 13 12,aM 3 11,aM 4 13] (aS [aM 15 4,aR 16 (.call 134 [.t 15]),aM 14 16,aE 17 14 0,aE 18 14 1,aM 5 17,aM 6 18] (aS [aM 19 6,aR 20 (.bin .neq (.t 19) (aI 0)),aM 21 20,aG 22 (.mv (.t 5)) 21 false,aG 23 (.mv (.t 4)) 21 false,aG 24 (.bin .neq (.t 22) (.t 23)) 21 false,aR 25 (.pick (.t 21) (.c (.bool true)) (.t 24)),aM 26 25,aG 27 (.mv (.t 3)) 26 false,aG 28 (.bin .gtr (.t 27) (aI 0)) 26 false,aG 29 (.mv (.t 28)) 26 false,aG 30 (.mv (.t 4)) 29 true,aG 31 (.mv (.t 0)) 29 true,aG 32 (.mv (.t 3)) 29 true,aG 33 (.bin .sub (.t 32) (aI 1)) 29 true,aG 34 (.iaddr 1 (.t 31) (.t 33)) 29 true,aG 35 (.load false 1 (.t 34)) 29 true,aG 36 (.bin .leq (.t 30) (.t 35)) 29 true,aG 37 (.pick (.t 29) (.t 36) (.c (.bool false))) 26 false,aR 38 (.pick (.t 26) (.c (.bool true)) (.t 37))] (.cond (.t 38) (aS [aR 2 (.mv (.c (.bool false)))] (.ret)) (.skip)))))) (.reg false [aR 39 (.bin .add (.t 9) (aI 1)),aM 9 39]))))))) (aS [aR 2 (.mv (.c (.bool true)))] (.ret))),[.t 2]⟩
theorem bkr:AX.compFn Tryz.prog 116=some aj4:=by kernel_rfl
def ak6:AX.AFn:=⟨18,aS [aR 1 (.box 42 (.t 0)),aR 2 (.mv (aI 0))] (.seq (aS [aF 4 0 1,aL 5 4,aR 6 (.call 23 [.t 5]),aR 7 (.un .not (.t 6))] (.cond (.t 7) (aS [aR 2 (.mv (aI 7))] (.ret)) (.skip))) (.seq (aS [aF 8 1 1,aR 9 (.load true 5 (.t 8)),aR 10 (.call 21 [.t 9]),aM 3 10] (aS [aM 11 3,aR 12 (.bin .neq (.t 11) (aI 0))] (.cond (.t 12) (aS [aM 13 3,aM 2 13] (.ret)) (.skip)))) (.seq (aS [aF 14 1 1,aR 15 (.load true 5 (.t 14)),aR 16 (.call 115 [.t 15]),aR 17 (.un .not (.t 16))] (.cond (.t 17) (aS [aR 2 (.mv (aI 11))] (.ret)) (.skip))) (aS [aR 2 (.mv (aI 0))] (.ret))))),[.t 2]⟩
theorem bw1:AX.compFn Tryz.prog 88=some ak6:=by kernel_rfl
def ajb:AX.AFn:=⟨53,aS [aR 1 (.box 89 (.t 0)),aR 2 (.mv (aI 0))] (.seq (aS [aF 4 0 1,aL 5 4,aF 6 3 1,aL 7 6,aR 8 (.call 87 [.t 5,.t 7]),aR 9 (.un .not (.t 8)),aM 10 9,aG 11 (.faddr 1 (.t 1)) 10 false,aG 12 (.load false 1 (.t 11)) 10 false,aG 13 (.bin .neq (.t 12) (.c (.str []))) 10 false,aG 14 (.mv (.t 13)) 10 false,aG 15 (.faddr 1 (.t 1)) 14 true,aG 16 (.load false 1 (.t 15)) 14 true,aG 17 (.call 114 [.t 16]) 14 true,aG 18 (.un .not (.t 17)) 14 true,aG 19 (.pick (.t 14) (.t 18) (.c (.bool false))) 10 false,aR 20 (.pick (.t 10) (.c (.bool true)) (.t 19)),aM 21 20,aG 22 (.faddr 2 (.t 1)) 21 false,aG 23 (.load false 1 (.t 22)) 21 false,aG 24 (.call 83 [.t 23]) 21 false,aG 25 (.un .not (.t 24)) 21 false,aR 26 (.pick (.t 21) (.c (.bool true)) (.t 25))] (.cond (.t 26) (aS [aR 2 (.mv (aI 1))] (.ret)) (.skip))) (.seq (aS [aF 27 4 1,aR 28 (.load true 5 (.t 27)),aR 29 (.call 21 [.t 28]),aM 3 29] (aS [aM 30 3,aR 31 (.bin .neq (.t 30) (aI 0))] (.cond (.t 31) (aS [aM 32 3,aM 2 32] (.ret)) (.skip)))) (.seq (aS [aF 33 4 1,aF 34 0 33,aL 35 34,aR 36 (.bin .neq (.t 35) (aI 5))] (.cond (.t 36) (aS [aR 2 (.mv (aI 6))] (.ret)) (.skip))) (.seq (aS [aF 37 4 1,aR 38 (.load true 5 (.t 37)),aR 39 (.call 115 [.t 38]),aR 40 (.un .not (.t 39))] (.cond (.t 40) (aS [aR 2 (.mv (aI 11))] (.ret)) (.skip))) (.seq (aS [aF 41 9 1,aL 42 41,aR 43 (.bin .lss (.t 42) (aI 1)),aM 44 43,aG 45 (.faddr 9 (.t 1)) 44 false,aG 46 (.load false 1 (.t 45)) 44 false,aG 47 (.bin .gtr (.t 46) (aI 9007199254740992)) 44 false,aR 48 (.pick (.t 44) (.c (.bool true)) (.t 47))] (.cond (.t 48) (aS [aR 2 (.mv (aI 5))] (.ret)) (.skip))) (.seq (aS [aF 49 12 1,aL 50 49,aR 51 (.call 116 [.t 50]),aR 52 (.un .not (.t 51))] (.cond (.t 52) (aS [aR 2 (.mv (aI 1))] (.ret)) (.skip))) (aS [aR 2 (.mv (aI 0))] (.ret)))))))),[.t 2]⟩
theorem bjb:AX.compFn Tryz.prog 84=some ajb:=by kernel_rfl
theorem bqf(L:Leafs)(s t:List UInt8)(hs:s.length<=2000000)(h:Hp):AT 87 [.str s,.str t] h (.bool (Sf.managed s t)):=by
 refine pcall ?_ rfl (by simp[A.pure,A.data]) h;refine aza mixedT bkt (by simp[avd]) ?_;dsimp only[avd];have hp:=fun h=>L.parse s hs h
 unfold Sf.managed;obtain⟨⟨⟨mods,data,ty,nm,⟨kk,kn,ks⟩⟩,e⟩,he⟩:=Ex (Adr.parse s);rw[he]at hp⊢;simp only[Adr.Ad.cells]at hp;refine azb ti ?_;refine use (hp _) ?_;dsimp only;rcases azr (e==0)with e0|e0
 ·rw[e0];(refine AX.azb e0 ?_);first
  |exact⟨_, le_refl _, rfl⟩
  | (cases data
     · (refine AX.azb AX.ti ?_)
       exact ⟨_, le_refl _, rfl⟩
     · (refine AX.azb AX.ti ?_)
       exact ⟨_, le_refl _, rfl⟩)
 ·rw[e0];(refine AX.azb e0 ?_);first
  |exact⟨_, le_refl _, rfl⟩
  | (cases data
     · (refine AX.azb AX.ti ?_)
       exact ⟨_, le_refl _, rfl⟩
     · (refine AX.azb AX.ti ?_)
       exact ⟨_, le_refl _, rfl⟩)
theorem dz9(L:Leafs)(s:List UInt8)(hs:s.length<=2000000)(h:Hp):AT 114 [.str s] h (.bool ((Num.parse s).2==0&&decide (1<=(Num.parse s).1))):=by
 refine pcall ?_ rfl (by simp[A.pure,A.data]) h;refine aza mixedT cyx (by simp[by6]) ?_;dsimp only[by6];have hp:=fun h=>L.num s hs h
 obtain⟨⟨n,e⟩,he⟩:=Ex (Num.parse s);rw[he]at hp⊢;dsimp only at hp⊢;refine azb ti ?_;refine use (hp _) ?_;rcases azr (e==0)with e0|e0
 ·rw[e0];refine azb e0 ?_;exact Fn rfl
 ·rw[e0];refine azb e0 ?_;exact Fn rfl
theorem bqj(x:Sf.Inst)(h:Hp):AT 85 [.agg x.cells] h (.agg [.str x.addr,.str x.dep]):=by
 obtain⟨a,d,id,ty,⟨k,n,w,vi,vy⟩,v,tn,fi,ds⟩:=x;refine pcall ?_ rfl (by simp[A.pure,A.data,Sf.Inst.cells]) h;refine aza mixedT bv6 (by simp[aj7]) ?_;dsimp only[aj7,Sf.Inst.cells];refine azb ti ?_;exact Fn rfl
theorem cjl(L:Leafs)(o:Sf.Outp)(hs:o.name.length<=2000000)(hl:o.value.lens)(h:Hp):AT 88 [.agg o.cells] h (.int .i64 (Sf.outZ o)):=by
 have hi:=fun h=>L.ident o.name hs h
 have hk:=fun h=>L.known o.value hl h
 have hc:=fun h=>avv o.value hl h
 obtain⟨Z,hZ⟩:=Ex (Sf.outZ o);rw[hZ];unfold Sf.outZ at hZ;obtain⟨m,⟨k,n,w,vi,vy⟩,b⟩:=o;dsimp only at hi hk hc hZ;have hVA:(V.mk k n w vi vy).A=.agg [.int .i64 k,.int .i64 n,.str w,.sl 5 .no (V.cellss vi),.sl 1 .no (strsA vy)]:=by simp only[V.A,V.cells]
 rw[hVA]at hk hc;refine pcall ?_ rfl (by simp[A.pure,A.data,Sf.Outp.cells]) h;refine aza mixedT bw1 (by simp[ak6]) ?_;dsimp only[ak6,Sf.Outp.cells];refine azb ti ?_;refine use (hi _) ?_;cases hI:Adr.ident m
 ·rw[hI,if_pos (by decide)]at hZ;refine azb ti ?_;exact⟨_,le_refl _,by rw[<-hZ];rfl⟩
 rw[hI,if_neg (by decide)]at hZ;refine azb ti ?_;refine use (hc _) ?_;by_cases hz:Val.checkZ (.mk k n w vi vy)=0
 rotate_left
 ·have e1:(Val.checkZ (.mk k n w vi vy)!=0)=true:=by simp[hz]
  rw[if_pos hz]at hZ;refine azb e1 ?_;exact⟨_,le_refl _,by rw[<-hZ];rfl⟩
 have e1:(Val.checkZ (.mk k n w vi vy)!=0)=false:=by simp[hz]
 rw[if_neg (by simp[hz])]at hZ;refine azb e1 ?_;refine use (hk _) ?_;cases hK:Sf.known (.mk k n w vi vy)
 ·rw[hK,if_pos (by decide)]at hZ;refine azb ti ?_;exact⟨_,le_refl _,by rw[<-hZ];rfl⟩
 ·rw[hK,if_neg (by decide)]at hZ;refine azb ti ?_;exact⟨_,le_refl _,by rw[<-hZ];rfl⟩
theorem bwx(L:Leafs)(ds:List (List UInt8))(hn:ds.length<=1000000000)(hs:∀s∈ds,s.length<=2000000)(h:Hp):AT 116 [.sl 1 .no (strsA ds)] h (.bool (Sf.depsB none ds)):=by
 refine pcall ?_ rfl (by simp[A.pure,A.data]) h;refine aza mixedT bkr (by simp[aj4]) ?_;dsimp only[aj4];obtain⟨D,hD⟩:=Ex (Sf.depsB none ds);rw[hD];have lm:(strsA ds).length=ds.length:=azg ds;refine azb lm ?_;refine azh (fun mm ts h=>∃(j:Nat),mm=ds.length-j/\j<=ds.length/\h=⟨[],[]⟩/\Sf.depsB (if j=0 then none else ds[j-1]?) (ds.drop j)=D/\ts 0=.sl 1 .no (strsA ds)/\ts 7=.sl 1 .no (strsA ds)/\ts 8=.int .i64 (ds.length:Nat)/\ts 9=.int .i64 (j:Nat)) ds.length ?_ ?_
 ·exact⟨0,by omega,by omega,rfl,hD,by(exact ev0 ti),by(exact ev0 ti),by(exact ev0 lm),by(exact aqj ti)⟩
 rintro mm ts h ⟨j,rfl,hjc,rfl,hit,t0,ta,tb,tc⟩;by_cases hj:j<ds.length
 ·have hlt:(j:Int)<(ds.length:Int):=by omega
  have hlt':(j:Int)<((strsA ds).length:Int):=by rw[azg];exact hlt
  have hj0:(0:Int)<=(j:Int):=by omega
  have ei:IntKind.i64.wrap ((j:Int)+1)=((j+1:Nat):Int):=by rw[wrap64 (by omega) (by omega)];omega
  have hg:=aqr ds j hj;have hst:=fun h=>L.static ds[j] (hs _ (ZF hj)) h
  rw[ZX hj]at hit;unfold Sf.depsB at hit;have hsB:Sf.staticB ds[j]=((Adr.static ds[j]).2==0&&(Adr.static ds[j]).1==ds[j]):=rfl;obtain⟨⟨w,e⟩,hw⟩:=Ex (Adr.static ds[j]);rw[hw]at hst hsB;dsimp only at hst hsB;rw[hsB]at hit;refine azb (ai t0 (ai ta (ai tb (ai tc (ai hlt (ai hg (ai hlt' hj0))))))) ?_;refine use (hst _) ?_;by_cases he:e=0
  rotate_left
  ·have e1:(e !=0)=true:=by simp[he]
   have e2:(e==0)=false:=by simp[he]
   rw[e2,Yz,Yz,Yz]at hit;subst hit;refine azb (ai t0 (ai ta (ai tb (ai tc e1)))) ?_;exact Fn rfl
  have e1:(e !=0)=false:=by simp[he]
  have e2:(e==0)=true:=by simp[he]
  rw[e2,Z5]at hit;by_cases hw2:w=ds[j]
  rotate_left
  ·have w1:(w !=ds[j])=true:=by simp[hw2]
   have w2:(w==ds[j])=false:=by simp[hw2]
   rw[w2,Yz,Yz]at hit;subst hit;refine azb (ai t0 (ai ta (ai tb (ai tc (ai e1 w1))))) ?_;exact Fn rfl
  have w1:(w !=ds[j])=false:=by simp[hw2]
  have w2:(w==ds[j])=true:=by simp[hw2]
  rw[w2,Z5]at hit;cases j with
  |zero=>
   have h0:¬((0:Nat):Int)>0:=by omega
   simp only[if_true,Val.badB,Z9,Z5]at hit;refine azb (ai t0 (ai ta (ai tb (ai tc (ai e1 (ai w1 (ai h0 ei))))))) ?_;exact⟨ds.length-1,by omega,1,rfl,by omega,rfl,by rw[<-hit];simp[hj],by(exact ev0 t0),by(exact ev0 ta),by(exact ev0 tb),by(exact ev0 ei)⟩
  |succ i=>
   have h0:((i+1:Nat):Int)>0:=by omega
   have ej:IntKind.i64.wrap (((i+1:Nat):Int)-1)=(i:Int):=by rw[wrap64 (by omega) (by omega)];omega
   have hg2:=aqr ds i (by omega);have hi':(i:Int)<((strsA ds).length:Int):=by omega
   have hi0:(0:Int)<=(i:Int):=by omega
   have hki:ds[i+1-1]?=some (ds[i]'(by omega)):=Zi (by omega);rw[if_neg (by omega),hki]at hit;simp only[Val.badB]at hit;rw[Val.less_total]at hit;rcases azr (bytesLess ds[i+1] ds[i]||ds[i+1]==ds[i])with hb|hb
   ·rw[hb]at hit;refine azb (ai t0 (ai ta (ai tb (ai tc (ai e1 (ai w1 (ai h0 (ai ej (ai hg2 (ai hi' (ai hi0 (ai hb ei)))))))))))) ?_;first
    |(subst hit;exact Fn rfl)
    |exact⟨ds.length-(i+1+1),by omega,i+1+1,rfl,by omega,rfl,by rw[<-hit];simp[hj],by(exact ev0 t0),by(exact ev0 ta),by(exact ev0 tb),by(exact ev0 ei)⟩
   ·rw[hb]at hit;refine azb (ai t0 (ai ta (ai tb (ai tc (ai e1 (ai w1 (ai h0 (ai ej (ai hg2 (ai hi' (ai hi0 (ai hb ei)))))))))))) ?_;first
    |(subst hit;exact Fn rfl)
    |exact⟨ds.length-(i+1+1),by omega,i+1+1,rfl,by omega,rfl,by rw[<-hit];simp[hj],by(exact ev0 t0),by(exact ev0 ta),by(exact ev0 tb),by(exact ev0 ei)⟩
 ·have hlt:¬((j:Int)<(ds.length:Int)):=by omega
  rw[Y5 (by omega)]at hit;unfold Sf.depsB at hit;subst hit;refine azb (ai t0 (ai ta (ai tb (ai tc hlt)))) ?_;exact Fn rfl
structure Sf.InstIn(x:Sf.Inst):Prop where
 a:x.addr.length<=2000000
 d:x.dep.length<=2000000
 i:x.id.length<=2000000
 l:x.attrs.lens
 n:x.deps.length<=1000000000
 ds:∀s∈x.deps,s.length<=2000000
theorem bkc(L:Leafs)(x:Sf.Inst)(hx:Sf.InstIn x)(h:Hp):AT 84 [.agg x.cells] h (.int .i64 (Sf.instZ x)):=by
 have cm:=fun h=>bqf L x.addr x.typ hx.a h
 have ck:=fun h=>dz9 L x.dep hx.d h
 have ct:=fun h=>L.text x.id hx.i h
 have cv:=fun h=>avv x.attrs hx.l h
 have cn:=fun h=>L.known x.attrs hx.l h
 have cs:=fun h=>bwx L x.deps hx.n hx.ds h
 obtain⟨Z,hZ⟩:=Ex (Sf.instZ x);rw[hZ];unfold Sf.instZ Sf.keyB at hZ;obtain⟨a,d,id,ty,⟨k,n,w,vi,vy⟩,v,tn,fi,ds⟩:=x;clear hx;dsimp only at cm ck ct cv cn cs hZ;have hVA:(V.mk k n w vi vy).A=.agg [.int .i64 k,.int .i64 n,.str w,.sl 5 .no (V.cellss vi),.sl 1 .no (strsA vy)]:=by simp only[V.A,V.cells]
 rw[hVA]at cv cn;obtain⟨M,hM⟩:=Ex (Sf.managed a ty);obtain⟨K,hK⟩:=Ex (((Num.parse d).2==0&&decide (1<=(Num.parse d).1)));obtain⟨T,hT⟩:=Ex (Sf.text id);obtain⟨C,hC⟩:=Ex (Val.checkZ (.mk k n w vi vy));obtain⟨N,hN⟩:=Ex (Sf.known (.mk k n w vi vy));obtain⟨S,hS⟩:=Ex (Sf.depsB none ds);have hkd:Sf.V.kind (.mk k n w vi vy)=k:=rfl;rw[hM]at cm hZ;rw[hK]at ck hZ;rw[hT]at ct hZ;rw[hC]at cv hZ;rw[hN]at cn hZ;rw[hS]at cs hZ;rw[hkd]at hZ;refine pcall ?_ rfl (by simp[A.pure,A.data,Sf.Inst.cells]) h;refine aza mixedT bjb (by simp[ajb]) ?_;dsimp only[ajb,Sf.Inst.cells];refine azb ti ?_;refine use (cm _) ?_;cases M
 ·rw[if_pos (by simp)]at hZ;subst hZ;refine azb ti ?_;exact Fn rfl
 have key:∀{G:Prop},((d != [])=false->(d == [])=true->G)->((d != [])=true->(d == [])=false->G)->G:=fun p q=>by
  by_cases e:d=[]
  ·exact p (by simp[e]) (by simp[e])
  ·exact q (by simp[e]) (by simp[e])
 have rest:True:=ti;refine key (fun d1 d2=>?_) (fun d1 d2=>?_);all_goals rw[d2]at hZ
 ·refine azb d1 ?_;refine use (ct _) ?_;cases T
  ·rw[if_pos (by simp)]at hZ;subst hZ;refine azb ti ?_;exact Fn rfl
  rw[if_neg (by simp)]at hZ;refine azb ti ?_;refine use (cv _) ?_;by_cases hz:C=0
  rotate_left
  ·have e1:(C !=0)=true:=by simp[hz]
   rw[if_pos hz]at hZ;refine azb e1 ?_;exact⟨_,le_refl _,by rw[<-hZ];rfl⟩
  have e1:(C !=0)=false:=by simp[hz]
  rw[if_neg (by simp[hz])]at hZ;by_cases hk5:k=5
  rotate_left
  ·have e2:(k !=5)=true:=by simp[hk5]
   rw[if_pos hk5]at hZ;refine azb (ai e1 e2) ?_;exact⟨_,le_refl _,by rw[<-hZ];rfl⟩
  have e2:(k !=5)=false:=by simp[hk5]
  rw[if_neg (by simp[hk5])]at hZ;refine azb (ai e1 e2) ?_;refine use (cn _) ?_;cases N
  ·rw[if_pos (by simp)]at hZ;refine azb ti ?_;exact⟨_,le_refl _,by rw[<-hZ];rfl⟩
  rw[if_neg (by simp)]at hZ;by_cases v0:v<1
  ·rw[if_pos (.inl v0)]at hZ;refine azb v0 ?_;exact⟨_,le_refl _,by rw[<-hZ];rfl⟩
  by_cases v1:v>9007199254740992
  ·rw[if_pos (.inr v1)]at hZ;refine azb (ai v0 v1) ?_;exact⟨_,le_refl _,by rw[<-hZ];rfl⟩
  rw[if_neg (by omega)]at hZ;refine azb (ai v0 v1) ?_;refine use (cs _) ?_;cases S
  ·rw[if_pos (by simp)]at hZ;refine azb ti ?_;exact⟨_,le_refl _,by rw[<-hZ];rfl⟩
  ·rw[if_neg (by simp)]at hZ;refine azb ti ?_;exact⟨_,le_refl _,by rw[<-hZ];rfl⟩
 ·refine azb d1 ?_;refine use (ck _) ?_;cases K
  ·rw[if_pos (by simp)]at hZ;subst hZ;refine azb ti ?_;exact Fn rfl
  refine azb ti ?_;refine use (ct _) ?_;cases T
  ·rw[if_pos (by simp)]at hZ;subst hZ;refine azb ti ?_;exact Fn rfl
  rw[if_neg (by simp)]at hZ;refine azb ti ?_;refine use (cv _) ?_;by_cases hz:C=0
  rotate_left
  ·have e1:(C !=0)=true:=by simp[hz]
   rw[if_pos hz]at hZ;refine azb e1 ?_;exact⟨_,le_refl _,by rw[<-hZ];rfl⟩
  have e1:(C !=0)=false:=by simp[hz]
  rw[if_neg (by simp[hz])]at hZ;by_cases hk5:k=5
  rotate_left
  ·have e2:(k !=5)=true:=by simp[hk5]
   rw[if_pos hk5]at hZ;refine azb (ai e1 e2) ?_;exact⟨_,le_refl _,by rw[<-hZ];rfl⟩
  have e2:(k !=5)=false:=by simp[hk5]
  rw[if_neg (by simp[hk5])]at hZ;refine azb (ai e1 e2) ?_;refine use (cn _) ?_;cases N
  ·rw[if_pos (by simp)]at hZ;refine azb ti ?_;exact⟨_,le_refl _,by rw[<-hZ];rfl⟩
  rw[if_neg (by simp)]at hZ;by_cases v0:v<1
  ·rw[if_pos (.inl v0)]at hZ;refine azb v0 ?_;exact⟨_,le_refl _,by rw[<-hZ];rfl⟩
  by_cases v1:v>9007199254740992
  ·rw[if_pos (.inr v1)]at hZ;refine azb (ai v0 v1) ?_;exact⟨_,le_refl _,by rw[<-hZ];rfl⟩
  rw[if_neg (by omega)]at hZ;refine azb (ai v0 v1) ?_;refine use (cs _) ?_;cases S
  ·rw[if_pos (by simp)]at hZ;refine azb ti ?_;exact⟨_,le_refl _,by rw[<-hZ];rfl⟩
  ·rw[if_neg (by simp)]at hZ;refine azb ti ?_;exact⟨_,le_refl _,by rw[<-hZ];rfl⟩
end AX
namespace Sf
theorem less_trans:∀a b c:List UInt8,bytesLess a b=true->bytesLess b c=true->bytesLess a c=true
 |a,[],_,h,_=>by cases a<;>simp[bytesLess]at h
 |_,_::_,[],_,k=>by simp[bytesLess]at k
 |[],_::_,_::_,_,_=>rfl
 |x::a,y::b,z::c,h,k=>by
  simp only[bytesLess,ZU,Zg,ZE,Z3]at *;rcases h with h|⟨rfl,h⟩
  ·rcases k with k|⟨rfl,k⟩
   ·exact .inl (UInt8.lt_trans h k)
   ·exact .inl h
  ·rcases k with k|⟨rfl,k⟩
   ·exact .inl k
   ·exact .inr ⟨rfl,less_trans a b c h k⟩
theorem cmpZ_lt(a b:List UInt8):AX.cmpZ a b<0↔bytesLess a b=true:=by
 unfold AX.cmpZ;by_cases h:a=b
 ·subst h;simp[Val.less_irrefl]
 ·cases hb:bytesLess a b<;>simp[h]
theorem cmpZ_eq(a b:List UInt8):AX.cmpZ a b=0↔a=b:=by
 unfold AX.cmpZ;by_cases h:a=b
 ·simp[h]
 ·cases hb:bytesLess a b<;>simp[h]
theorem cmpZ_tri{a b:List UInt8}(h:¬AX.cmpZ a b<0):a=b\/AX.cmpZ b a<0:=by
 rw[cmpZ_lt]at *;have:=Val.less_total a b;rw[YU.2 h]at this;rcases(ZU _ _).mp this.symm with h|h
 ·exact .inr h
 ·exact .inl (eq_of_beq h).symm
theorem cmpZ_trans{a b c:List UInt8}(h:AX.cmpZ a b<0)(k:AX.cmpZ b c<0):AX.cmpZ a c<0:=by
 rw[cmpZ_lt]at *;exact less_trans a b c h k
end Sf
namespace AX
theorem bxa{i j n:Nat}(hij:i<j)(hjn:j<=n)(hn:n<=1000000):
  IntKind.i64.wrap ((i:Int)+(j:Int))=((i+j:Nat):Int)/\IntKind.u64.wrap ((i+j:Nat):Int)=((i+j:Nat):Int)/\shA .shr .u64 ((i+j:Nat):Int) 1=some (.int .u64 (((i+j)/2:Nat):Int))/\IntKind.i64.wrap (((i+j)/2:Nat):Int)=(((i+j)/2:Nat):Int)/\IntKind.i64.wrap ((((i+j)/2:Nat):Int)+1)=(((i+j)/2+1:Nat):Int):=by
 refine⟨by rw[wrap64 (by omega) (by omega)];omega,by rw[IntKind.wrap_u64];omega,?_,by rw[wrap64 (by omega) (by omega)],by rw[wrap64 (by omega) (by omega)];omega⟩;simp only[shA];rw[if_pos (by decide)];congr 2;rw[show min (Int.toNat 1) IntKind.u64.bits=1 from rfl,show((2:Int)^1)=((2:Nat):Int)from rfl,Int.fdiv_eq_ediv_of_nonneg _ (YO _)];rfl
end AX
end
end Go.Proofs.YtnffmgmidghfhaaGreatDoor
