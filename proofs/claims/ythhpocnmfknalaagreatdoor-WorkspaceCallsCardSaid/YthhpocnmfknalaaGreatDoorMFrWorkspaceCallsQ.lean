/- Part of what the proof needs. -/
import Derived.Test.YthhpocnmfknalaaGreatDoorMFrWorkspaceCallsJ
import Derived.Test.YthhpocnmfknalaaGreatDoorMFrWorkspaceCallsP
import Derived.Lib.ParseIntB
import Derived.Test.YthhpocnmfknalaaGreatDoorShelfP
set_option maxHeartbeats 4000000
set_option maxRecDepth 100000
set_option linter.all false
namespace Go.Proofs.YthhpocnmfknalaaGreatDoor
section
open Go.RowKit
namespace AX
theorem bz7{α:Type}(f:α->List UInt8)(l:List α)(j:Nat)(hj:j<l.length):(l.take (j+1)).flatMap f=(l.take j).flatMap f++f l[j]:=by
 rw[Z3 hj,Zah];simp
theorem cvm{α:Type}(f:α->List UInt8)(l:List α)(j:Nat):((l.take j).flatMap f).length<=(l.flatMap f).length:=by
 have:l.flatMap f=(l.take j).flatMap f++(l.drop j).flatMap f:=by rw[<-Zah,Yo]
 rw[this,Za];omega
theorem az0{α:Type}(f:α->List A)(l:List α)(j:Nat)(hj:j<l.length):(l.map f).getD j []=f l[j]:=by simp[List.getD,hj]
structure Sf.StOk(s:Sf.St):Prop where
 insts:∀x∈s.insts,Sf.InstOk x
 outs:∀x∈s.outs,(∃lv b,(Val.chk x.value lv b).1=0)/\x.value.lens
 ser0:-9223372036854775808<=s.ser
 ser1:s.ser<=9223372036854775807
 li:s.insts.length<=1000000000
 lp:s.pends.length<=1000000000
 lo:s.outs.length<=1000000000
theorem dqq{ver:Int}(hver:ver=1\/ver=2)(st:Sf.St)(ok:Sf.StOk st)(hlen:(Sf.stE ver st).length+20<=1000000000):
  AC 144 [.ptr 0 0,st.A] ⟨[.cells 194 [.nilp,.sl 0 .nil [],.int .i64 ver]],[]⟩ fun u h'=>∃b',h'.b[0]?=some b'/\u=.tup []/\b'=wtr ver (Sf.stE ver st):=by
 obtain⟨lin,ser,ins,ps,os⟩:=st;have s0:-9223372036854775808<=ser:=ok.ser0;have s1:ser<=9223372036854775807:=ok.ser1;have li:ins.length<=1000000000:=ok.li;have lp:ps.length<=1000000000:=ok.lp;have lo:os.length<=1000000000:=ok.lo;have hml:magic.length=4:=rfl;have lm1:(ins.map Sf.Inst.cells).length=ins.length:=Zh _;have lm2:(ps.map Sf.Pend.cells).length=ps.length:=Zh _;have lm3:(os.map Sf.Outp.cells).length=os.length:=Zh _;obtain⟨F,hF⟩:=Ex ((if ver=2 then Wire.num ps.length++ps.flatMap Sf.pendE else[]));have hE:Sf.stE ver ⟨lin,ser,ins,ps,os⟩=magic++Wire.num ver++Wire.strE lin++Wire.num ser++Wire.num ins.length++ins.flatMap (Sf.instE ver)++F++Wire.num os.length++os.flatMap Sf.outE:=by rw[<-hF];rfl
 rw[hE]at hlen;simp only[Za,hml]at hlen;have k0:=aqs lin;have hv12:∀{G:Prop},((ver==2)=false->F=[]->G)->((ver==2)=true->F=Wire.num ps.length++ps.flatMap Sf.pendE->G)->G:=fun p q=>by
  rcases hver with rfl|rfl
  ·rw[if_neg (by decide)]at hF;exact p rfl hF.symm
  ·rw[if_pos rfl]at hF;exact q rfl hF.symm
 have hv1:1<=ver/\ver<=2:=by omega
 refine fo ?_;dsimp only[Sf.St.A];refine aza ti ?_;refine use (bvx (.inr ⟨rfl,rfl⟩) magic (by simp only[Zo,hml];decide)) ?_;refine aza @djo ?_;refine use (wn (i:=0) (ver:=ver) (l:=magic) rfl ver (by simp only[Za,hml];omega) (by omega) (by omega)) ?_;refine aza ti ?_;refine use (wt rfl lin (by simp only[Za,hml];omega)) ?_;refine aza ti ?_;refine use (wn rfl ser (by simp only[Za,hml];omega) s0 s1) ?_;refine aza (ai lm1 (ai lm2 lm3)) ?_;refine use (wn rfl _ (by simp only[Za,hml];omega) (by omega) (by omega)) ?_;refine aza (ai lm1 (ai lm2 lm3)) ?_;refine azg (fun mm ts h=>∃(j:Nat) (l:List Blk),mm=ins.length-j/\j<=ins.length/\h=⟨wtr ver (magic++Wire.num ver++Wire.strE lin++Wire.num ser++Wire.num ins.length++(ins.take j).flatMap (Sf.instE ver)) :: .cells 42 [.str lin,.int .i64 ser,.sl 13 .no (ins.map Sf.Inst.cells),.sl 3 .no (ps.map Sf.Pend.cells),.sl 7 .no (os.map Sf.Outp.cells)]::l,[]⟩/\ts 0=.ptr 0 0/\ts 3=.ptr 1 0/\ts 34=.sl 13 .no (ins.map Sf.Inst.cells)/\ts 35=.int .i64 (ins.length:Nat)/\ts 36=.int .i64 (j:Nat)) ins.length ?_ ?_
 ·exact⟨0,[],by omega,by omega,by simp only[Yt,Zae,Zz],by(exact ev0 ti),by(exact ev0 ti),by(exact ev0 ti),by(exact ev0 (ai lm1 (ai lm2 lm3))),by(exact azv ti)⟩
 ·rintro mm ts h ⟨j,l,rfl,hjc,rfl,t0,t3,ta,tb,tc⟩;by_cases hj:j<ins.length
  ·have hlt:(j:Int)<(ins.length:Int):=by omega
   have hlt':(j:Int)<((ins.map Sf.Inst.cells).length:Int):=by rw[Zh];exact hlt
   have hj0:(0:Int)<=(j:Int):=by omega
   have ei:IntKind.i64.wrap ((j:Int)+1)=((j+1:Nat):Int):=by rw[wrap64 (by omega) (by omega)];omega
   have hs:=bz7 (Sf.instE ver) ins j hj;have ht:=cvm (Sf.instE ver) ins (j+1);have hg:=az0 Sf.Inst.cells ins j hj;have hm:=Zl hj;have hok:=ok.insts _ hm;obtain⟨x,hx⟩:=Ex (ins[j]);rw[hx]at hs hg hok;rw[hs,Za]at ht;have cw:=fun(m:List UInt8) (h:Hp) (hb:h.b[0]?=some (wtr ver m)) (hm:m.length+(Sf.instE ver x).length+20<=1000000000)=>dxt hver x hok m hm hb
   obtain⟨a,d,id,ty,⟨k,n,s,is,ks⟩,v,tn,fi,ds⟩:=x;simp only[Sf.Inst.cells]at hg cw;refine aza (ai t0 (ai t3 (ai ta (ai tb (ai tc (ai hlt (ai hg (ai hlt' hj0)))))))) ?_;refine use (cw _ _ rfl (by simp only[Za,hml];omega)) ?_;refine aza (ai t0 (ai t3 (ai ta (ai tb (ai tc ei))))) ?_;exact⟨ins.length-(j+1),by omega,j+1,l++[.cells 91 [.str a,.str d,.str id,.str ty,.int .i64 k,.int .i64 n,.str s,.sl 5 .no (V.cellss is),.sl 1 .no (strsA ks),.int .i64 v,.bool tn,.bool fi,.sl 1 .no (strsA ds)]],rfl,by omega,by rw[hs];simp only[Zi],by(exact ev0 t0),by(exact ev0 t3),by(exact ev0 ta),by(exact ev0 tb),by(exact ev0 ei)⟩
  ·have hlt:¬((j:Int)<(ins.length:Int)):=by omega
   have hjl:j=ins.length:=by omega
   subst hjl;rw[Yy];refine hv12 (fun e2 eF=>?_) (fun e2 eF=>?_);all_goals subst eF
   all_goals first|(simp only[Za]at hlen)|skip
   ·refine aza (ai t0 (ai t3 (ai ta (ai tb (ai tc (ai hlt (ai @djo (ai e2 (ai lm1 (ai lm2 lm3)))))))))) ?_;refine use (wn (i:=0) (ver:=ver) (l:=magic++Wire.num ver++Wire.strE lin++Wire.num ser++Wire.num ins.length++ins.flatMap (Sf.instE ver)) rfl _ (by simp only[Za,hml];omega) (by omega) (by omega)) ?_;refine aza (ai t0 (ai t3 (ai lm1 (ai lm2 lm3)))) ?_;refine azg (fun mm ts h=>∃(j:Nat) (l:List Blk),mm=os.length-j/\j<=os.length/\h=⟨wtr ver (magic++Wire.num ver++Wire.strE lin++Wire.num ser++Wire.num ins.length++ins.flatMap (Sf.instE ver)++Wire.num os.length++(os.take j).flatMap Sf.outE) :: .cells 42 [.str lin,.int .i64 ser,.sl 13 .no (ins.map Sf.Inst.cells),.sl 3 .no (ps.map Sf.Pend.cells),.sl 7 .no (os.map Sf.Outp.cells)]::l,[]⟩/\ts 0=.ptr 0 0/\ts 3=.ptr 1 0/\ts 80=.sl 7 .no (os.map Sf.Outp.cells)/\ts 81=.int .i64 (os.length:Nat)/\ts 82=.int .i64 (j:Nat)) os.length ?_ ?_
    ·exact⟨0,l,by omega,by omega,by simp only[Yt,Zae,Zz],by(exact ev0 t0),by(exact ev0 t3),by(exact ev0 (ai t0 t3)),by(exact ev0 (ai t0 (ai t3 (ai lm1 (ai lm2 lm3))))),by(exact azv (ai t0 t3))⟩
    ·rintro mm ts h ⟨j,l,rfl,hjc,rfl,t0,t3,ta,tb,tc⟩;by_cases hj:j<os.length
     ·have hlt:(j:Int)<(os.length:Int):=by omega
      have hlt':(j:Int)<((os.map Sf.Outp.cells).length:Int):=by rw[Zh];exact hlt
      have hj0:(0:Int)<=(j:Int):=by omega
      have ei:IntKind.i64.wrap ((j:Int)+1)=((j+1:Nat):Int):=by rw[wrap64 (by omega) (by omega)];omega
      have hs:=bz7 Sf.outE os j hj;have ht:=cvm Sf.outE os (j+1);have hg:=az0 Sf.Outp.cells os j hj;have hm:=Zl hj;have hok:=ok.outs _ hm;obtain⟨x,hx⟩:=Ex (os[j]);rw[hx]at hs hg hok;rw[hs,Za]at ht;obtain⟨m,⟨k,n,s,is,ks⟩,b⟩:=x;have hVA:(V.mk k n s is ks).A=.agg [.int .i64 k,.int .i64 n,.str s,.sl 5 .no (V.cellss is),.sl 1 .no (strsA ks)]:=by simp only[V.A,V.cells]
      have cv:=fun(m:List UInt8) (h:Hp) (hb:h.b[0]?=some (wtr ver m)) (hm:m.length+(Val.enc (.mk k n s is ks)).length+10<=1000000000)=>wv hb (.mk k n s is ks) hok.1 hm hok.2
      rw[hVA]at cv;simp only[Sf.Outp.cells]at hg;simp only[Sf.outE]at hs ht;simp only[Za]at ht;have k1:=aqs m;refine aza (ai t0 (ai t3 (ai ta (ai tb (ai tc (ai hlt (ai hg (ai hlt' hj0)))))))) ?_;refine use (wt rfl m (by simp only[Za,hml];omega)) ?_;refine aza (ai t0 (ai t3 (ai ta (ai tb tc)))) ?_;refine use (cv _ _ rfl (by simp only[Za,hml];omega)) ?_;refine aza (ai t0 (ai t3 (ai ta (ai tb tc)))) ?_;refine use (wf rfl b (by simp only[Za,hml];omega)) ?_;refine aza (ai t0 (ai t3 (ai ta (ai tb (ai tc ei))))) ?_;exact⟨os.length-(j+1),by omega,j+1,l++[.cells 55 [.str m,.int .i64 k,.int .i64 n,.str s,.sl 5 .no (V.cellss is),.sl 1 .no (strsA ks),.bool b]],rfl,by omega,by rw[hs];simp only[Zi],by(exact ev0 t0),by(exact ev0 t3),by(exact ev0 ta),by(exact ev0 tb),by(exact ev0 ei)⟩
     ·have hlt:¬((j:Int)<(os.length:Int)):=by omega
      have hjl:j=os.length:=by omega
      subst hjl;rw[Yy];refine aza (ai t0 (ai t3 (ai ta (ai tb (ai tc hlt))))) ?_;exact⟨_,le_refl _,_,rfl,rfl,by rw[hE];simp only[Zi,Zq]⟩
   ·refine aza (ai t0 (ai t3 (ai ta (ai tb (ai tc (ai hlt (ai @djo (ai e2 (ai lm1 (ai lm2 lm3)))))))))) ?_;refine use (wn (i:=0) (ver:=ver) (l:=magic++Wire.num ver++Wire.strE lin++Wire.num ser++Wire.num ins.length++ins.flatMap (Sf.instE ver)) rfl _ (by simp only[Za,hml];omega) (by omega) (by omega)) ?_;refine aza (ai t0 (ai t3 (ai lm1 (ai lm2 lm3)))) ?_;refine azg (fun mm ts h=>∃(j:Nat) (l:List Blk),mm=ps.length-j/\j<=ps.length/\h=⟨wtr ver (magic++Wire.num ver++Wire.strE lin++Wire.num ser++Wire.num ins.length++ins.flatMap (Sf.instE ver)++Wire.num ps.length++(ps.take j).flatMap Sf.pendE) :: .cells 42 [.str lin,.int .i64 ser,.sl 13 .no (ins.map Sf.Inst.cells),.sl 3 .no (ps.map Sf.Pend.cells),.sl 7 .no (os.map Sf.Outp.cells)]::l,[]⟩/\ts 0=.ptr 0 0/\ts 3=.ptr 1 0/\ts 55=.sl 3 .no (ps.map Sf.Pend.cells)/\ts 56=.int .i64 (ps.length:Nat)/\ts 57=.int .i64 (j:Nat)) ps.length ?_ ?_
    ·exact⟨0,l,by omega,by omega,by simp only[Yt,Zae,Zz],by(exact ev0 t0),by(exact ev0 t3),by(exact ev0 (ai t0 t3)),by(exact ev0 (ai t0 (ai t3 (ai lm1 (ai lm2 lm3))))),by(exact azv (ai t0 t3))⟩
    ·rintro mm ts h ⟨j,l,rfl,hjc,rfl,t0,t3,ta,tb,tc⟩;by_cases hj:j<ps.length
     ·have hlt:(j:Int)<(ps.length:Int):=by omega
      have hlt':(j:Int)<((ps.map Sf.Pend.cells).length:Int):=by rw[Zh];exact hlt
      have hj0:(0:Int)<=(j:Int):=by omega
      have ei:IntKind.i64.wrap ((j:Int)+1)=((j+1:Nat):Int):=by rw[wrap64 (by omega) (by omega)];omega
      have hs:=bz7 Sf.pendE ps j hj;have ht:=cvm Sf.pendE ps (j+1);have hg:=az0 Sf.Pend.cells ps j hj;have hm:=Zl hj;obtain⟨x,hx⟩:=Ex (ps[j]);rw[hx]at hs hg;rw[hs,Za]at ht;simp only[Sf.Pend.cells]at hg;simp only[Sf.pendE]at hs ht;simp only[Za]at ht;have k1:=aqs x.addr;have k2:=aqs x.typ;have k3:=aqs x.tok;refine aza (ai t0 (ai t3 (ai ta (ai tb (ai tc (ai hlt (ai hg (ai hlt' hj0)))))))) ?_;refine use (wt rfl x.addr (by simp only[Za,hml];omega)) ?_;refine aza (ai t0 (ai t3 (ai ta (ai tb tc)))) ?_;refine use (wt rfl x.typ (by simp only[Za,hml];omega)) ?_;refine aza (ai t0 (ai t3 (ai ta (ai tb tc)))) ?_;refine use (wt rfl x.tok (by simp only[Za,hml];omega)) ?_;refine aza (ai t0 (ai t3 (ai ta (ai tb (ai tc ei))))) ?_;exact⟨ps.length-(j+1),by omega,j+1,l++[.cells 93 [.str x.addr,.str x.typ,.str x.tok]],rfl,by omega,by rw[hs];simp only[Zi],by(exact ev0 t0),by(exact ev0 t3),by(exact ev0 ta),by(exact ev0 tb),by(exact ev0 ei)⟩
     ·have hlt:¬((j:Int)<(ps.length:Int)):=by omega
      have hjl:j=ps.length:=by omega
      subst hjl;rw[Yy];refine aza (ai t0 (ai t3 (ai ta (ai tb (ai tc (ai hlt (ai lm1 (ai lm2 lm3)))))))) ?_;refine use (wn rfl _ (by simp only[Za,hml];omega) (by omega) (by omega)) ?_;refine aza (ai t0 (ai t3 (ai lm1 (ai lm2 lm3)))) ?_;refine azg (fun mm ts h=>∃(j:Nat) (l:List Blk),mm=os.length-j/\j<=os.length/\h=⟨wtr ver (magic++Wire.num ver++Wire.strE lin++Wire.num ser++Wire.num ins.length++ins.flatMap (Sf.instE ver)++Wire.num ps.length++ps.flatMap Sf.pendE++Wire.num os.length++(os.take j).flatMap Sf.outE) :: .cells 42 [.str lin,.int .i64 ser,.sl 13 .no (ins.map Sf.Inst.cells),.sl 3 .no (ps.map Sf.Pend.cells),.sl 7 .no (os.map Sf.Outp.cells)]::l,[]⟩/\ts 0=.ptr 0 0/\ts 3=.ptr 1 0/\ts 80=.sl 7 .no (os.map Sf.Outp.cells)/\ts 81=.int .i64 (os.length:Nat)/\ts 82=.int .i64 (j:Nat)) os.length ?_ ?_
      ·exact⟨0,l,by omega,by omega,by simp only[Yt,Zae,Zz],by(exact ev0 t0),by(exact ev0 t3),by(exact ev0 (ai t0 t3)),by(exact ev0 (ai t0 (ai t3 (ai lm1 (ai lm2 lm3))))),by(exact azv (ai t0 t3))⟩
      ·rintro mm ts h ⟨j,l,rfl,hjc,rfl,t0,t3,ta,tb,tc⟩;by_cases hj:j<os.length
       ·have hlt:(j:Int)<(os.length:Int):=by omega
        have hlt':(j:Int)<((os.map Sf.Outp.cells).length:Int):=by rw[Zh];exact hlt
        have hj0:(0:Int)<=(j:Int):=by omega
        have ei:IntKind.i64.wrap ((j:Int)+1)=((j+1:Nat):Int):=by rw[wrap64 (by omega) (by omega)];omega
        have hs:=bz7 Sf.outE os j hj;have ht:=cvm Sf.outE os (j+1);have hg:=az0 Sf.Outp.cells os j hj;have hm:=Zl hj;have hok:=ok.outs _ hm;obtain⟨x,hx⟩:=Ex (os[j]);rw[hx]at hs hg hok;rw[hs,Za]at ht;obtain⟨m,⟨k,n,s,is,ks⟩,b⟩:=x;have hVA:(V.mk k n s is ks).A=.agg [.int .i64 k,.int .i64 n,.str s,.sl 5 .no (V.cellss is),.sl 1 .no (strsA ks)]:=by simp only[V.A,V.cells]
        have cv:=fun(m:List UInt8) (h:Hp) (hb:h.b[0]?=some (wtr ver m)) (hm:m.length+(Val.enc (.mk k n s is ks)).length+10<=1000000000)=>wv hb (.mk k n s is ks) hok.1 hm hok.2
        rw[hVA]at cv;simp only[Sf.Outp.cells]at hg;simp only[Sf.outE]at hs ht;simp only[Za]at ht;have k1:=aqs m;refine aza (ai t0 (ai t3 (ai ta (ai tb (ai tc (ai hlt (ai hg (ai hlt' hj0)))))))) ?_;refine use (wt rfl m (by simp only[Za,hml];omega)) ?_;refine aza (ai t0 (ai t3 (ai ta (ai tb tc)))) ?_;refine use (cv _ _ rfl (by simp only[Za,hml];omega)) ?_;refine aza (ai t0 (ai t3 (ai ta (ai tb tc)))) ?_;refine use (wf rfl b (by simp only[Za,hml];omega)) ?_;refine aza (ai t0 (ai t3 (ai ta (ai tb (ai tc ei))))) ?_;exact⟨os.length-(j+1),by omega,j+1,l++[.cells 55 [.str m,.int .i64 k,.int .i64 n,.str s,.sl 5 .no (V.cellss is),.sl 1 .no (strsA ks),.bool b]],rfl,by omega,by rw[hs];simp only[Zi],by(exact ev0 t0),by(exact ev0 t3),by(exact ev0 ta),by(exact ev0 tb),by(exact ev0 ei)⟩
       ·have hlt:¬((j:Int)<(os.length:Int)):=by omega
        have hjl:j=os.length:=by omega
        subst hjl;rw[Yy];refine aza (ai t0 (ai t3 (ai ta (ai tb (ai tc hlt))))) ?_;exact⟨_,le_refl _,_,rfl,rfl,by rw[hE];simp only[Zi,Zq]⟩
def bkr:AX.AFn:=⟨9,aS [aR 2 (.mv (.c (.bool false)))] (aS [aM 3 0,aR 4 (.bin .neq (.t 3) (.c (.str []))),aM 5 4,aG 6 (.mv (.t 0)) 5 true,aG 7 (.call 79 [.t 6]) 5 true,aR 8 (.pick (.t 5) (.t 7) (.c (.bool false))),aM 2 8] (.ret)),[.t 2]⟩
theorem dzy:AX.compFn Tryz.prog 93=some bkr:=by kernel_rfl
theorem dz1(s:List UInt8)(hs:s.length<=2000000)(h:Hp):AT 93 [.str s] h (.bool (s != []&&Str.valid s)):=by
 refine pcall ?_ rfl (by simp[A.pure,A.data]) h;refine azf mixedT dzy (by simp[bkr]) ?_;dsimp only[bkr];rcases azl (s != [])with h1|h1
 ·refine go0 h1 ?_;refine gc0 h1 ?_;refine(bkf s hs _).mono ?_;rintro v h1' ⟨rfl,rfl⟩;refine go0 h1 ?_;exact⟨_,le_refl _,by rw[azk,h1];rfl⟩
 ·refine go0 h1 ?_;exact⟨_,le_refl _,by rw[azk,h1];rfl⟩
def bqi:AX.AFn:=⟨8,aS [aR 1 (.box 42 (.t 0)),aR 2 (.mv (.c (.str []))),aR 3 (.mv (aI 0))] (aS [aR 4 (.load true 5 (.t 1)),aR 5 (.call 110 [.t 4,aI 2]),aE 6 5 0,aE 7 5 1,aM 2 6,aM 3 7] (.ret)),[.t 2,.t 3]⟩
theorem ck6:AX.compFn Tryz.prog 80=some bqi:=by kernel_rfl
theorem byi(s:List UInt8)(hs:s.length<=1000000000)(h:Hp):AT 112 [.str s] h (.str (Crc.app s)):=
 azu (aj3 axh) (fun w hg=>bza ⟨s.toArray⟩ w (by rw[size_mk];exact hs)) (fun C=>rep_str.2 rfl) h
theorem czq(s:List UInt8)(hs:s.length<=1000000000)(h:Hp):AT 86 [.str s] h (.tup [.str (Crc.ver s).1,.int .i64 (Crc.ver s).2]):=
 azu (aj3 axh) (fun w hg=>bzk ⟨s.toArray⟩ w (by rw[size_mk];exact hs)) (fun C=>rep_tup.2 ⟨_,rfl,repL_cons.2 ⟨_,_,rfl,rep_str.2 rfl,repL_cons.2 ⟨_,_,rfl,rep_int.2 rfl,azp.2 rfl⟩⟩⟩) h
def stE:A:=.agg [.str [],.int .i64 0,.sl 0 .nil [],.sl 0 .nil [],.sl 0 .nil []]
end AX
namespace Sf
def zero:St:=⟨[],0,[],[],[]⟩
def encode(ver:Int)(st:St):List UInt8×Int:=
 if checkZ st≠0 then([],checkZ st)else if 1048572<(stE ver st).length then([],3)else(Crc.app (stE ver st),0)
def decode(s:List UInt8):St×Int:=
 if 1048576<s.length then(zero,3)
 else if AX.preB s=false then(zero,2)
 else if(Crc.ver s).2≠0 then(zero,20)
 else if(AX.versionS (Crc.ver s).1).2≠0 then(zero,(AX.versionS (Crc.ver s).1).2)
 else
  let r:=stateS (AX.versionS (Crc.ver s).1).1 ⟨(Wire.numR ⟨(Crc.ver s).1.drop 4,0⟩).1,false⟩
  if r.1.fails||decide (0<r.1.r.rest.length)||checkZ r.2 !=0 then(zero,2)else(r.2,0)
end Sf
namespace AX
def SCheck(st:Sf.St):Prop:=∀h,AT 64 [st.A] h (.int .i64 (Sf.checkZ st))
theorem cwl{ver:Int}(hver:ver=1\/ver=2)(st:Sf.St)(ok:Sf.StOk st)(hlen:(Sf.stE ver st).length+20<=1000000000){h:Hp}{i:Nat}(hb:h.b[i]?=some (.cells 194 [.nilp,.sl 0 .nil [],.int .i64 ver])):
  AC 144 [.ptr i 0,st.A] h fun u h'=>u=.tup []/\h'=⟨h.b.set i (wtr ver (Sf.stE ver st)),h.t⟩:=by
 refine(ACall.lift1 (dqq hver st ok hlen) rfl (by intros;rfl) ?_ hb).mono ?_
 ·rintro u b' ⟨rfl,rfl⟩;exact⟨rfl,aww _ _⟩
 ·rintro u h' ⟨b',⟨rfl,rfl⟩,rfl⟩;exact⟨rfl,rfl⟩
theorem dxi(ver:Int)(st:Sf.St):Sf.stE ver st≠[]:=by
 unfold Sf.stE Sf.magic;simp
theorem cwp{ver:Int}(hver:ver=1\/ver=2)(st:Sf.St)(hck:SCheck st)(hok:Sf.checkZ st=0->Sf.StOk st/\(Sf.stE ver st).length+20<=1000000000)(h:Hp):
  AT 110 [st.A,.int .i64 ver] h (.tup [.str (Sf.encode ver st).1,.int .i64 (Sf.encode ver st).2]):=by
 refine pcall ?_ rfl (by simp[A.pure,A.data,Sf.St.A]) h;refine fo ?_;have hw:=fun h hb hz=>cwl hver st (hok hz).1 (hok hz).2 (h:=h) (i:=1) hb
 have hE:Sf.encode ver st=if Sf.checkZ st≠0 then([],Sf.checkZ st)else if 1048572<(Sf.stE ver st).length then([],3)else(Crc.app (Sf.stE ver st),0):=rfl
 unfold SCheck at hck;unfold Sf.St.A at hck hw⊢;by_cases hz:Sf.checkZ st=0
 ·have e1:(Sf.checkZ st !=0)=false:=by simp[hz]
  rw[if_neg (by simp[hz])]at hE;refine aza ti ?_;refine use (hck _) ?_;refine aza e1 ?_;refine use (hw _ rfl hz) ?_;refine aza ti ?_;refine use (dxj (i:=1) (ver:=ver) (l:=Sf.stE ver st) (.inl rfl)) ?_;by_cases hl:((Sf.stE ver st).length:Int)>1048572
  ·rw[if_pos (by omega)]at hE;refine aza hl ?_;exact⟨_,le_refl _,by rw[hE];rfl⟩
  ·rw[if_neg (by omega)]at hE;refine aza hl ?_;refine use (cqm (i:=1) (ver:=ver) (l:=Sf.stE ver st) (.inl rfl) (dxi _ _)) ?_;refine aza ti ?_;refine use (byi _ (by omega) _) ?_;refine aza ti ?_;exact⟨_,le_refl _,by rw[hE];rfl⟩
 ·have e1:(Sf.checkZ st !=0)=true:=by simp[hz]
  rw[if_pos hz]at hE;refine aza ti ?_;refine use (hck _) ?_;refine aza e1 ?_;exact⟨_,le_refl _,by rw[hE];rfl⟩
theorem cwc(st:Sf.St)(hck:SCheck st)(hok:Sf.checkZ st=0->Sf.StOk st/\(Sf.stE 2 st).length+20<=1000000000)(h:Hp):
  AT 80 [st.A] h (.tup [.str (Sf.encode 2 st).1,.int .i64 (Sf.encode 2 st).2]):=by
 refine pcall ?_ rfl (by simp[A.pure,A.data,Sf.St.A]) h;refine azf mixedT ck6 (by simp[bqi]) ?_;dsimp only[bqi];have he:=fun h=>cwp (.inr rfl) st hck hok h
 unfold Sf.St.A at he⊢;refine aza ti ?_;refine use (he _) ?_;refine aza ti ?_;exact Fn rfl
theorem liftD{P:Program}{G:World->Prop}{f:FuncId}{args:List A}{ver:Int}{s s':Sf.Rs}{v:A}(hc:ACall P G f (.ptr 0 0::args) ⟨[RB ver s.bad,rdr s.r],[]⟩ fun v' h'=>v'=v/\h'=⟨[RB ver s'.bad,rdr s'.r],[]⟩)(ha:A.locL 0 args=true)(hv:v.loc 0=true)(z:Blk)(l:List Blk)(t:List (TypeId×Nat×Nat)):
  ACall P G f (.ptr 2 0::args) ⟨z::rdr s.r::RB ver s.bad::l,t⟩ fun v' h'=>v'=v/\h'=⟨z::rdr s'.r::RB ver s'.bad::l,t⟩:=by
 have key:=ACall.lift hc (fun i=>if i=0 then 2 else i) (fun a b ha hb e=>by
   simp only[Zf,Zo]at ha hb;have h1:a=0\/a=1:=by omega
   have h2:b=0\/b=1:=by omega
   rcases h1 with rfl|rfl<;>rcases h2 with rfl|rfl<;>simp at e⊢) (by unfold A.locL;rw[(A.locL0 _ args ha).1];rfl)
  (fun x hx=>by
   rcases ZL.1 hx with rfl|hx
   ·rfl
   ·rw[ZJ.1 hx];rfl)
  (fun v' h' ⟨e,h0⟩=>⟨by rw[e];exact(A.loc0 _ v hv).1,fun j x hj hx=>by
   have:j=0\/j=1:=by simp only[Zf,Zo]at hj;omega
   rw[h0]at hx;rcases this with rfl|rfl
   ·simp only[ZU]at hx;injection hx with hx;subst hx;rfl
   ·simp only[ZU,ZR]at hx;injection hx with hx;subst hx;rfl⟩)
  (h:=⟨z::rdr s.r::RB ver s.bad::l,t⟩) (fun j hj=>by
   have:j=0\/j=1:=by simp only[Zf,Zo]at hj;omega
   rcases this with rfl|rfl<;>rfl)
 have e:A.renL (fun i=>if i=0 then 2 else i) (.ptr 0 0::args)=.ptr 2 0::args:=by unfold A.renL;rw[(A.locL0 0 args ha).2];rfl
 rw[e]at key;refine key.mono ?_;rintro v' h' ⟨v0,h0,⟨rfl,rfl⟩,rfl,rfl⟩;exact⟨(A.loc0 0 _ hv).2 _,rfl⟩
theorem awf{s:List UInt8}(h:(versionS s).2=0):(versionS s).1=1\/(versionS s).1=2:=by
 unfold versionS at h⊢;split at h
 ·cases h
 ·rename_i h1;rw[if_neg h1];dsimp only at h⊢;split at h
  ·cases h
  ·rename_i h2;rw[if_neg h2];split at h
   ·cases h
   ·rename_i h3;rw[if_neg h3];dsimp only;omega
theorem cv8(s:List UInt8)(hlen:s.length<=1000000000)(hvl:(Crc.ver s).1.length<=s.length)(hck:∀ver r,r.rest.length<=s.length->SCheck (Sf.stateS ver ⟨r,false⟩).2)(h:Hp):
  AT 63 [.str s] h (.tup [(Sf.decode s).1.A,.int .i64 (Sf.decode s).2]):=by
 refine pcall ?_ rfl (by simp[A.pure,A.data]) h;refine fo ?_;obtain⟨D,hD⟩:=Ex (Sf.decode s);rw[hD];unfold Sf.decode at hD;have hzA:Sf.zero.A=.agg [.str [],.int .i64 0,.sl 13 .no [],.sl 3 .no [],.sl 7 .no []]:=rfl;have hz:∀e:Int,le (.tup [.agg [.str [],.int .i64 0,.sl 0 .nil [],.sl 0 .nil [],.sl 0 .nil []],.int .i64 e]) (.tup [Sf.zero.A,.int .i64 e]):=fun e=>⟨⟨aze _,aze _,⟨rfl,.inr rfl,.inl rfl⟩,⟨rfl,.inr rfl,.inl rfl⟩,⟨rfl,.inr rfl,.inl rfl⟩,trivial⟩,rfl,trivial⟩
 by_cases hl:(s.length:Int)>1048576
 ·rw[if_pos (by omega)]at hD;refine aza hl ?_;exact⟨_,hz _,by subst hD;rfl⟩
 rw[if_neg (by omega)]at hD;refine aza hl ?_;refine use (ajv s magic _) ?_;by_cases hp:preB s=false
 ·rw[if_pos hp]at hD;unfold preB at hp;refine aza hp ?_;exact⟨_,hz _,by subst hD;rfl⟩
 rw[if_neg hp]at hD;have hp':(decide (magic.length<=s.length)&&s.take magic.length==magic)=true:=by unfold preB at hp;simpa using hp
 refine aza hp' ?_;refine use (czq s hlen _) ?_;obtain⟨⟨b,e⟩,hv⟩:=Ex (Crc.ver s);rw[hv]at hD hvl⊢;dsimp only at hD hvl⊢;by_cases he:e=0
 rotate_left
 ·have e1:(e !=0)=true:=by simp[he]
  rw[if_pos he]at hD;refine aza e1 ?_;exact⟨_,hz _,by subst hD;rfl⟩
 have e1:(e !=0)=false:=by simp[he]
 rw[if_neg (by simp[he])]at hD;refine aza e1 ?_;refine use (cje b (by omega) _) ?_;have h12:=@awf b;obtain⟨⟨n,e2⟩,hn⟩:=Ex (versionS b);rw[hn]at hD h12⊢;dsimp only at hD h12⊢;by_cases he2:e2=0
 rotate_left
 ·have e3:(e2 !=0)=true:=by simp[he2]
  rw[if_pos he2]at hD;refine aza e3 ?_;exact⟨_,hz _,by subst hD;rfl⟩
 have e3:(e2 !=0)=false:=by simp[he2]
 rw[if_neg (by simp[he2])]at hD;have hb4:4<=b.length:=by
  have hp4:preB b=true:=by
   rcases azl (preB b)with h1|h1
   ·first|exact h1|(exfalso;unfold versionS at hn;rw[if_pos h1]at hn;injection hn with _ hn;omega)
   ·first|exact h1|(exfalso;unfold versionS at hn;rw[if_pos h1]at hn;injection hn with _ hn;omega)
  unfold preB at hp4;have hml:magic.length=4:=rfl;simp only[Zg,Zx,hml]at hp4;exact hp4.1
 have hb5:(4:Int)<=(b.length:Int):=by omega
 refine aza (ai e3 hb5) ?_;refine use (ak9 (b.drop 4) _) ?_;refine aza ti ?_;refine use (axr (i:=1) (r:=⟨b.drop 4,0⟩) rfl (by rw[ZC];omega)) ?_;have hql:=Wire.numR_rest ⟨b.drop 4,0⟩;obtain⟨⟨q,qn⟩,hq⟩:=Ex (Wire.numR ⟨b.drop 4,0⟩);rw[hq]at hD hql⊢;dsimp only at hD hql⊢;rw[ZC]at hql;have cs:=liftD (ckd (h12 he2) ⟨q,false⟩ (by dsimp only;omega) [] []) rfl rfl (.cells 42 [.str [],.int .i64 0,.sl 0 .nil [],.sl 0 .nil [],.sl 0 .nil []]) [] [];have hc:=hck n q (by omega);obtain⟨⟨⟨r,bad⟩,st⟩,hs⟩:=Ex (Sf.stateS n ⟨q,false⟩);rw[hs]at cs hc hD;unfold SCheck at hc;unfold Sf.St.A at cs hc;unfold RB at cs;dsimp only at cs hc hD;have cf:=liftD (akt (ver:=n) ⟨r,bad⟩ [] []) rfl rfl (.cells 42 [.str [],.int .i64 0,.sl 0 .nil [],.sl 0 .nil [],.sl 0 .nil []]) [.cells 42 [.str st.lin,.int .i64 st.ser,.sl 13 .no (st.insts.map Sf.Inst.cells),.sl 3 .no (st.pends.map Sf.Pend.cells),.sl 7 .no (st.outs.map Sf.Outp.cells)]] [];unfold RB at cf;dsimp only at cf;refine aza ti ?_;refine use cs ?_;refine aza ti ?_;refine use cf ?_;obtain⟨F,hF⟩:=Ex ((⟨r,bad⟩:Sf.Rs).fails);rw[hF]at hD⊢;cases F;rotate_left
 ·rw[if_pos (by simp only[Zaa])]at hD;refine aza ti ?_;exact⟨_,hz _,by subst hD;rfl⟩
 simp only[YF]at hD;refine aza ti ?_;refine use (djk (i:=1) (r:=r) rfl) ?_;by_cases hL:(r.rest.length:Int)>0
 ·rw[Yg (show 0<r.rest.length by omega),if_pos (by simp only[Zaa])]at hD;refine aza hL ?_;exact⟨_,hz _,by subst hD;rfl⟩
 have hL2:decide (0<r.rest.length)=false:=Yp (by omega);simp only[hL2,YF]at hD;refine aza hL ?_;refine use (hc _) ?_;by_cases hk:Sf.checkZ st=0
 ·have e4:(Sf.checkZ st !=0)=false:=by simp[hk]
  rw[if_neg (by simp[e4])]at hD;refine aza e4 ?_;exact⟨_,le_refl _,by subst hD;rfl⟩
 ·have e4:(Sf.checkZ st !=0)=true:=by simp[hk]
  rw[if_pos e4]at hD;refine aza e4 ?_;exact⟨_,hz _,by subst hD;rfl⟩
end AX
end
section
open Go.RowKit
open Go.Op (bytesLess)
namespace Adr
def Step.cells(s:Step):List AX.A:=[.str s.name,.int .i64 s.key.kind,.int .i64 s.key.num,.str s.key.str]
def Ad.cells(a:Ad):List AX.A:=[.sl 4 .no (a.mods.map Step.cells),.bool a.data,.str a.type,.str a.name,.int .i64 a.key.kind,.int .i64 a.key.num,.str a.key.str]
end Adr
namespace AX
def cmpZ(a b:List UInt8):Int:=if a==b then 0 else if bytesLess a b then -1 else 1
structure Leafs:Prop where
 parse:∀(s:List UInt8),s.length<=2000000->∀h,AT 136 [.str s] h (.tup [.agg (Adr.parse s).1.cells,.int .i64 (Adr.parse s).2])
 static:∀(s:List UInt8),s.length<=2000000->∀h,AT 156 [.str s] h (.tup [.str (Adr.static s).1,.int .i64 (Adr.static s).2])
 ident:∀(s:List UInt8),s.length<=2000000->∀h,AT 29 [.str s] h (.bool (Adr.ident s))
 num:∀(s:List UInt8),s.length<=2000000->∀h,AT 153 [.str s] h (.tup [.int .i64 (Num.parse s).1,.int .i64 (Num.parse s).2])
 cmp:∀(a b:List UInt8) h,AT 58 [.str a,.str b] h (.int .i64 (cmpZ a b))
 known:∀(v:V),v.lens->∀h,AT 133 [v.A] h (.bool (Sf.known v))
 text:∀(s:List UInt8),s.length<=2000000->∀h,AT 93 [.str s] h (.bool (Sf.text s))
def av1:AX.AFn:=⟨25,aS [aR 4 (.mv (.c (.bool false)))] (aS [aM 8 0,aR 9 (.call 136 [.t 8]),aM 7 9,aE 10 7 0,aE 11 7 1,aR 5 (.alloc 180 [.sl 0 .nil [],.bool false,.str [],.str [],.int .i64 0,.int .i64 0,.str []]),aU (.store 7 (.t 5) (.t 10)),aM 6 11] (aS [aM 12 6,aR 13 (.bin .eql (.t 12) (aI 0)),aM 14 13,aG 15 (.faddr 1 (.t 5)) 14 true,aG 16 (.load false 1 (.t 15)) 14 true,aG 17 (.un .not (.t 16)) 14 true,aR 18 (.pick (.t 14) (.t 17) (.c (.bool false))),aM 19 18,aG 20 (.faddr 2 (.t 5)) 19 true,aG 21 (.load false 1 (.t 20)) 19 true,aG 22 (.mv (.t 1)) 19 true,aG 23 (.bin .eql (.t 21) (.t 22)) 19 true,aR 24 (.pick (.t 19) (.t 23) (.c (.bool false))),aM 4 24] (.ret))),[.t 4]⟩
theorem cze:AX.compFn Tryz.prog 97=some av1:=by kernel_rfl
def cx8:AX.AFn:=⟨16,aS [aR 2 (.mv (.c (.bool false)))] (aS [aM 6 0,aR 7 (.call 153 [.t 6]),aM 5 7,aE 8 5 0,aE 9 5 1,aM 3 8,aM 4 9] (aS [aM 10 4,aR 11 (.bin .eql (.t 10) (aI 0)),aM 12 11,aG 13 (.mv (.t 3)) 12 true,aG 14 (.bin .geq (.t 13) (aI 1)) 12 true,aR 15 (.pick (.t 12) (.t 14) (.c (.bool false))),aM 2 15] (.ret))),[.t 2]⟩
theorem djf:AX.compFn Tryz.prog 132=some cx8:=by kernel_rfl
def avp:AX.AFn:=⟨8,aS [aR 1 (.box 91 (.t 0)),aR 2 (.alloc 139 [.str [],.str []])] (aS [aF 3 0 1,aL 4 3,aF 5 1 1,aL 6 5,aR 7 (.build [.str [],.str []] [(0,1,.t 4),(1,1,.t 6)]),aU (.store 2 (.t 2) (.t 7))] (.ret)),[.c 2 true 2]⟩
theorem byu:AX.compFn Tryz.prog 95=some avp:=by kernel_rfl
def awi:AX.AFn:=⟨18,aS [aR 1 (.box 55 (.t 0)),aR 2 (.mv (aI 0))] (.seq (aS [aF 4 0 1,aL 5 4,aR 6 (.call 29 [.t 5]),aR 7 (.un .not (.t 6))] (.cond (.t 7) (aS [aR 2 (.mv (aI 7))] (.ret)) (.skip))) (.seq (aS [aF 8 1 1,aR 9 (.load true 5 (.t 8)),aR 10 (.call 19 [.t 9]),aM 3 10] (aS [aM 11 3,aR 12 (.bin .neq (.t 11) (aI 0))] (.cond (.t 12) (aS [aM 13 3,aM 2 13] (.ret)) (.skip)))) (.seq (aS [aF 14 1 1,aR 15 (.load true 5 (.t 14)),aR 16 (.call 133 [.t 15]),aR 17 (.un .not (.t 16))] (.cond (.t 17) (aS [aR 2 (.mv (aI 11))] (.ret)) (.skip))) (aS [aR 2 (.mv (aI 0))] (.ret))))),[.t 2]⟩
theorem cja:AX.compFn Tryz.prog 98=some awi:=by kernel_rfl
theorem bxx(L:Leafs)(s t:List UInt8)(hs:s.length<=2000000)(h:Hp):AT 97 [.str s,.str t] h (.bool (Sf.managed s t)):=by
 refine pcall ?_ rfl (by simp[A.pure,A.data]) h;refine azf mixedT cze (by simp[av1]) ?_;dsimp only[av1];have hp:=fun h=>L.parse s hs h
 unfold Sf.managed;obtain⟨⟨⟨mods,data,ty,nm,⟨kk,kn,ks⟩⟩,e⟩,he⟩:=Ex (Adr.parse s);rw[he]at hp⊢;simp only[Adr.Ad.cells]at hp;refine aza ti ?_;refine use (hp _) ?_;dsimp only;rcases azl (e==0)with e0|e0
 ·rw[e0];(refine AX.aza e0 ?_);first
  |exact⟨_, le_refl _, rfl⟩
  | (cases data
     · (refine AX.aza AX.ti ?_)
       exact ⟨_, le_refl _, rfl⟩
     · (refine AX.aza AX.ti ?_)
       exact ⟨_, le_refl _, rfl⟩)
 ·rw[e0];(refine AX.aza e0 ?_);first
  |exact⟨_, le_refl _, rfl⟩
  | (cases data
     · (refine AX.aza AX.ti ?_)
       exact ⟨_, le_refl _, rfl⟩
     · (refine AX.aza AX.ti ?_)
       exact ⟨_, le_refl _, rfl⟩)
theorem dvb(L:Leafs)(s:List UInt8)(hs:s.length<=2000000)(h:Hp):AT 132 [.str s] h (.bool ((Num.parse s).2==0&&decide (1<=(Num.parse s).1))):=by
 refine pcall ?_ rfl (by simp[A.pure,A.data]) h;refine azf mixedT djf (by simp[cx8]) ?_;dsimp only[cx8];have hp:=fun h=>L.num s hs h
 obtain⟨⟨n,e⟩,he⟩:=Ex (Num.parse s);rw[he]at hp⊢;dsimp only at hp⊢;refine aza ti ?_;refine use (hp _) ?_;rcases azl (e==0)with e0|e0
 ·rw[e0];refine aza e0 ?_;exact Fn rfl
 ·rw[e0];refine aza e0 ?_;exact Fn rfl
theorem bxm(x:Sf.Inst)(h:Hp):AT 95 [.agg x.cells] h (.agg [.str x.addr,.str x.dep]):=by
 obtain⟨a,d,id,ty,⟨k,n,w,vi,vy⟩,v,tn,fi,ds⟩:=x;refine pcall ?_ rfl (by simp[A.pure,A.data,Sf.Inst.cells]) h;refine azf mixedT byu (by simp[avp]) ?_;dsimp only[avp,Sf.Inst.cells];refine aza ti ?_;exact Fn rfl
theorem ck0(L:Leafs)(o:Sf.Outp)(hs:o.name.length<=2000000)(hl:o.value.lens)(h:Hp):AT 98 [.agg o.cells] h (.int .i64 (Sf.outZ o)):=by
 have hi:=fun h=>L.ident o.name hs h
 have hk:=fun h=>L.known o.value hl h
 have hc:=fun h=>aku o.value hl h
 obtain⟨Z,hZ⟩:=Ex (Sf.outZ o);rw[hZ];unfold Sf.outZ at hZ;obtain⟨m,⟨k,n,w,vi,vy⟩,b⟩:=o;dsimp only at hi hk hc hZ;have hVA:(V.mk k n w vi vy).A=.agg [.int .i64 k,.int .i64 n,.str w,.sl 5 .no (V.cellss vi),.sl 1 .no (strsA vy)]:=by simp only[V.A,V.cells]
 rw[hVA]at hk hc;refine pcall ?_ rfl (by simp[A.pure,A.data,Sf.Outp.cells]) h;refine azf mixedT cja (by simp[awi]) ?_;dsimp only[awi,Sf.Outp.cells];refine aza ti ?_;refine use (hi _) ?_;cases hI:Adr.ident m
 ·rw[hI,if_pos (by decide)]at hZ;refine aza ti ?_;exact⟨_,le_refl _,by rw[<-hZ];rfl⟩
 rw[hI,if_neg (by decide)]at hZ;refine aza ti ?_;refine use (hc _) ?_;by_cases hz:Val.checkZ (.mk k n w vi vy)=0
 rotate_left
 ·have e1:(Val.checkZ (.mk k n w vi vy)!=0)=true:=by simp[hz]
  rw[if_pos hz]at hZ;refine aza e1 ?_;exact⟨_,le_refl _,by rw[<-hZ];rfl⟩
 have e1:(Val.checkZ (.mk k n w vi vy)!=0)=false:=by simp[hz]
 rw[if_neg (by simp[hz])]at hZ;refine aza e1 ?_;refine use (hk _) ?_;cases hK:Sf.known (.mk k n w vi vy)
 ·rw[hK,if_pos (by decide)]at hZ;refine aza ti ?_;exact⟨_,le_refl _,by rw[<-hZ];rfl⟩
 ·rw[hK,if_neg (by decide)]at hZ;refine aza ti ?_;exact⟨_,le_refl _,by rw[<-hZ];rfl⟩
theorem cxz(L:Leafs)(ds:List (List UInt8))(hn:ds.length<=1000000000)(hs:∀s∈ds,s.length<=2000000)(h:Hp):AT 134 [.sl 1 .no (strsA ds)] h (.bool (Sf.depsB none ds)):=by
 refine pcall ?_ rfl (by simp[A.pure,A.data]) h;refine fo ?_;obtain⟨D,hD⟩:=Ex (Sf.depsB none ds);rw[hD];have lm:(strsA ds).length=ds.length:=azd ds;refine aza lm ?_;refine azg (fun mm ts h=>∃(j:Nat),mm=ds.length-j/\j<=ds.length/\h=⟨[],[]⟩/\Sf.depsB (if j=0 then none else ds[j-1]?) (ds.drop j)=D/\ts 0=.sl 1 .no (strsA ds)/\ts 7=.sl 1 .no (strsA ds)/\ts 8=.int .i64 (ds.length:Nat)/\ts 9=.int .i64 (j:Nat)) ds.length ?_ ?_
 ·exact⟨0,by omega,by omega,rfl,hD,by(exact ev0 ti),by(exact ev0 ti),by(exact ev0 lm),by(exact azv ti)⟩
 rintro mm ts h ⟨j,rfl,hjc,rfl,hit,t0,ta,tb,tc⟩;by_cases hj:j<ds.length
 ·have hlt:(j:Int)<(ds.length:Int):=by omega
  have hlt':(j:Int)<((strsA ds).length:Int):=by rw[azd];exact hlt
  have hj0:(0:Int)<=(j:Int):=by omega
  have ei:IntKind.i64.wrap ((j:Int)+1)=((j+1:Nat):Int):=by rw[wrap64 (by omega) (by omega)];omega
  have hg:=az5 ds j hj;have hst:=fun h=>L.static ds[j] (hs _ (Zl hj)) h
  rw[Zu hj]at hit;unfold Sf.depsB at hit;have hsB:Sf.staticB ds[j]=((Adr.static ds[j]).2==0&&(Adr.static ds[j]).1==ds[j]):=rfl;obtain⟨⟨w,e⟩,hw⟩:=Ex (Adr.static ds[j]);rw[hw]at hst hsB;dsimp only at hst hsB;rw[hsB]at hit;refine aza (ai t0 (ai ta (ai tb (ai tc (ai hlt (ai hg (ai hlt' hj0))))))) ?_;refine use (hst _) ?_;by_cases he:e=0
  rotate_left
  ·have e1:(e !=0)=true:=by simp[he]
   have e2:(e==0)=false:=by simp[he]
   rw[e2,Z7,Z7,Z7]at hit;subst hit;refine aza (ai t0 (ai ta (ai tb (ai tc e1)))) ?_;exact Fn rfl
  have e1:(e !=0)=false:=by simp[he]
  have e2:(e==0)=true:=by simp[he]
  rw[e2,ZH]at hit;by_cases hw2:w=ds[j]
  rotate_left
  ·have w1:(w !=ds[j])=true:=by simp[hw2]
   have w2:(w==ds[j])=false:=by simp[hw2]
   rw[w2,Z7,Z7]at hit;subst hit;refine aza (ai t0 (ai ta (ai tb (ai tc (ai e1 w1))))) ?_;exact Fn rfl
  have w1:(w !=ds[j])=false:=by simp[hw2]
  have w2:(w==ds[j])=true:=by simp[hw2]
  rw[w2,ZH]at hit;cases j with
  |zero=>
   have h0:¬((0:Nat):Int)>0:=by omega
   simp only[if_true,Val.badB,Z9,ZH]at hit;refine aza (ai t0 (ai ta (ai tb (ai tc (ai e1 (ai w1 (ai h0 ei))))))) ?_;exact⟨ds.length-1,by omega,1,rfl,by omega,rfl,by rw[<-hit];simp[hj],by(exact ev0 t0),by(exact ev0 ta),by(exact ev0 tb),by(exact ev0 ei)⟩
  |succ i=>
   have h0:((i+1:Nat):Int)>0:=by omega
   have ej:IntKind.i64.wrap (((i+1:Nat):Int)-1)=(i:Int):=by rw[wrap64 (by omega) (by omega)];omega
   have hg2:=az5 ds i (by omega);have hi':(i:Int)<((strsA ds).length:Int):=by omega
   have hi0:(0:Int)<=(i:Int):=by omega
   have hki:ds[i+1-1]?=some (ds[i]'(by omega)):=Zj (by omega);rw[if_neg (by omega),hki]at hit;simp only[Val.badB]at hit;rw[Val.less_total]at hit;rcases azl (bytesLess ds[i+1] ds[i]||ds[i+1]==ds[i])with hb|hb
   ·rw[hb]at hit;refine aza (ai t0 (ai ta (ai tb (ai tc (ai e1 (ai w1 (ai h0 (ai ej (ai hg2 (ai hi' (ai hi0 (ai hb ei)))))))))))) ?_;first
    |(subst hit;exact Fn rfl)
    |exact⟨ds.length-(i+1+1),by omega,i+1+1,rfl,by omega,rfl,by rw[<-hit];simp[hj],by(exact ev0 t0),by(exact ev0 ta),by(exact ev0 tb),by(exact ev0 ei)⟩
   ·rw[hb]at hit;refine aza (ai t0 (ai ta (ai tb (ai tc (ai e1 (ai w1 (ai h0 (ai ej (ai hg2 (ai hi' (ai hi0 (ai hb ei)))))))))))) ?_;first
    |(subst hit;exact Fn rfl)
    |exact⟨ds.length-(i+1+1),by omega,i+1+1,rfl,by omega,rfl,by rw[<-hit];simp[hj],by(exact ev0 t0),by(exact ev0 ta),by(exact ev0 tb),by(exact ev0 ei)⟩
 ·have hlt:¬((j:Int)<(ds.length:Int)):=by omega
  rw[YS (by omega)]at hit;unfold Sf.depsB at hit;subst hit;refine aza (ai t0 (ai ta (ai tb (ai tc hlt)))) ?_;exact Fn rfl
structure Sf.InstIn(x:Sf.Inst):Prop where
 a:x.addr.length<=2000000
 d:x.dep.length<=2000000
 i:x.id.length<=2000000
 l:x.attrs.lens
 n:x.deps.length<=1000000000
 ds:∀s∈x.deps,s.length<=2000000
theorem byt(L:Leafs)(x:Sf.Inst)(hx:Sf.InstIn x)(h:Hp):AT 94 [.agg x.cells] h (.int .i64 (Sf.instZ x)):=by
 have cm:=fun h=>bxx L x.addr x.typ hx.a h
 have ck:=fun h=>dvb L x.dep hx.d h
 have ct:=fun h=>L.text x.id hx.i h
 have cv:=fun h=>aku x.attrs hx.l h
 have cn:=fun h=>L.known x.attrs hx.l h
 have cs:=fun h=>cxz L x.deps hx.n hx.ds h
 obtain⟨Z,hZ⟩:=Ex (Sf.instZ x);rw[hZ];unfold Sf.instZ Sf.keyB at hZ;obtain⟨a,d,id,ty,⟨k,n,w,vi,vy⟩,v,tn,fi,ds⟩:=x;clear hx;dsimp only at cm ck ct cv cn cs hZ;have hVA:(V.mk k n w vi vy).A=.agg [.int .i64 k,.int .i64 n,.str w,.sl 5 .no (V.cellss vi),.sl 1 .no (strsA vy)]:=by simp only[V.A,V.cells]
 rw[hVA]at cv cn;obtain⟨M,hM⟩:=Ex (Sf.managed a ty);obtain⟨K,hK⟩:=Ex (((Num.parse d).2==0&&decide (1<=(Num.parse d).1)));obtain⟨T,hT⟩:=Ex (Sf.text id);obtain⟨C,hC⟩:=Ex (Val.checkZ (.mk k n w vi vy));obtain⟨N,hN⟩:=Ex (Sf.known (.mk k n w vi vy));obtain⟨S,hS⟩:=Ex (Sf.depsB none ds);have hkd:Sf.V.kind (.mk k n w vi vy)=k:=rfl;rw[hM]at cm hZ;rw[hK]at ck hZ;rw[hT]at ct hZ;rw[hC]at cv hZ;rw[hN]at cn hZ;rw[hS]at cs hZ;rw[hkd]at hZ;refine pcall ?_ rfl (by simp[A.pure,A.data,Sf.Inst.cells]) h;refine fo ?_;dsimp only[Sf.Inst.cells];refine aza ti ?_;refine use (cm _) ?_;cases M
 ·rw[if_pos (by simp)]at hZ;subst hZ;refine aza ti ?_;exact Fn rfl
 have key:∀{G:Prop},((d != [])=false->(d == [])=true->G)->((d != [])=true->(d == [])=false->G)->G:=fun p q=>by
  by_cases e:d=[]
  ·exact p (by simp[e]) (by simp[e])
  ·exact q (by simp[e]) (by simp[e])
 have rest:True:=ti;refine key (fun d1 d2=>?_) (fun d1 d2=>?_);all_goals rw[d2]at hZ
 ·refine aza d1 ?_;refine use (ct _) ?_;cases T
  ·rw[if_pos (by simp)]at hZ;subst hZ;refine aza ti ?_;exact Fn rfl
  rw[if_neg (by simp)]at hZ;refine aza ti ?_;refine use (cv _) ?_;by_cases hz:C=0
  rotate_left
  ·have e1:(C !=0)=true:=by simp[hz]
   rw[if_pos hz]at hZ;refine aza e1 ?_;exact⟨_,le_refl _,by rw[<-hZ];rfl⟩
  have e1:(C !=0)=false:=by simp[hz]
  rw[if_neg (by simp[hz])]at hZ;by_cases hk5:k=5
  rotate_left
  ·have e2:(k !=5)=true:=by simp[hk5]
   rw[if_pos hk5]at hZ;refine aza (ai e1 e2) ?_;exact⟨_,le_refl _,by rw[<-hZ];rfl⟩
  have e2:(k !=5)=false:=by simp[hk5]
  rw[if_neg (by simp[hk5])]at hZ;refine aza (ai e1 e2) ?_;refine use (cn _) ?_;cases N
  ·rw[if_pos (by simp)]at hZ;refine aza ti ?_;exact⟨_,le_refl _,by rw[<-hZ];rfl⟩
  rw[if_neg (by simp)]at hZ;by_cases v0:v<1
  ·rw[if_pos (.inl v0)]at hZ;refine aza v0 ?_;exact⟨_,le_refl _,by rw[<-hZ];rfl⟩
  by_cases v1:v>9007199254740992
  ·rw[if_pos (.inr v1)]at hZ;refine aza (ai v0 v1) ?_;exact⟨_,le_refl _,by rw[<-hZ];rfl⟩
  rw[if_neg (by omega)]at hZ;refine aza (ai v0 v1) ?_;refine use (cs _) ?_;cases S
  ·rw[if_pos (by simp)]at hZ;refine aza ti ?_;exact⟨_,le_refl _,by rw[<-hZ];rfl⟩
  ·rw[if_neg (by simp)]at hZ;refine aza ti ?_;exact⟨_,le_refl _,by rw[<-hZ];rfl⟩
 ·refine aza d1 ?_;refine use (ck _) ?_;cases K
  ·rw[if_pos (by simp)]at hZ;subst hZ;refine aza ti ?_;exact Fn rfl
  refine aza ti ?_;refine use (ct _) ?_;cases T
  ·rw[if_pos (by simp)]at hZ;subst hZ;refine aza ti ?_;exact Fn rfl
  rw[if_neg (by simp)]at hZ;refine aza ti ?_;refine use (cv _) ?_;by_cases hz:C=0
  rotate_left
  ·have e1:(C !=0)=true:=by simp[hz]
   rw[if_pos hz]at hZ;refine aza e1 ?_;exact⟨_,le_refl _,by rw[<-hZ];rfl⟩
  have e1:(C !=0)=false:=by simp[hz]
  rw[if_neg (by simp[hz])]at hZ;by_cases hk5:k=5
  rotate_left
  ·have e2:(k !=5)=true:=by simp[hk5]
   rw[if_pos hk5]at hZ;refine aza (ai e1 e2) ?_;exact⟨_,le_refl _,by rw[<-hZ];rfl⟩
  have e2:(k !=5)=false:=by simp[hk5]
  rw[if_neg (by simp[hk5])]at hZ;refine aza (ai e1 e2) ?_;refine use (cn _) ?_;cases N
  ·rw[if_pos (by simp)]at hZ;refine aza ti ?_;exact⟨_,le_refl _,by rw[<-hZ];rfl⟩
  rw[if_neg (by simp)]at hZ;by_cases v0:v<1
  ·rw[if_pos (.inl v0)]at hZ;refine aza v0 ?_;exact⟨_,le_refl _,by rw[<-hZ];rfl⟩
  by_cases v1:v>9007199254740992
  ·rw[if_pos (.inr v1)]at hZ;refine aza (ai v0 v1) ?_;exact⟨_,le_refl _,by rw[<-hZ];rfl⟩
  rw[if_neg (by omega)]at hZ;refine aza (ai v0 v1) ?_;refine use (cs _) ?_;cases S
  ·rw[if_pos (by simp)]at hZ;refine aza ti ?_;exact⟨_,le_refl _,by rw[<-hZ];rfl⟩
  ·rw[if_neg (by simp)]at hZ;refine aza ti ?_;exact⟨_,le_refl _,by rw[<-hZ];rfl⟩
end AX
namespace Sf
theorem less_trans:∀a b c:List UInt8,bytesLess a b=true->bytesLess b c=true->bytesLess a c=true
 |a,[],_,h,_=>by cases a<;>simp[bytesLess]at h
 |_,_::_,[],_,k=>by simp[bytesLess]at k
 |[],_::_,_::_,_,_=>rfl
 |x::a,y::b,z::c,h,k=>by
  simp only[bytesLess,ZZ,Zg,Zx,ZT]at *;rcases h with h|⟨rfl,h⟩
  ·rcases k with k|⟨rfl,k⟩
   ·exact .inl (UInt8.lt_trans h k)
   ·exact .inl h
  ·rcases k with k|⟨rfl,k⟩
   ·exact .inl k
   ·exact .inr ⟨rfl,less_trans a b c h k⟩
theorem cmpZ_lt(a b:List UInt8):AX.cmpZ a b<0↔bytesLess a b=true:=by
 unfold AX.cmpZ;by_cases h:a=b
 ·subst h;simp[Val.less_irrefl]
 ·cases hb:bytesLess a b<;>simp[h]
theorem cmpZ_eq(a b:List UInt8):AX.cmpZ a b=0↔a=b:=by
 unfold AX.cmpZ;by_cases h:a=b
 ·simp[h]
 ·cases hb:bytesLess a b<;>simp[h]
theorem cmpZ_tri{a b:List UInt8}(h:¬AX.cmpZ a b<0):a=b\/AX.cmpZ b a<0:=by
 rw[cmpZ_lt]at *;have:=Val.less_total a b;rw[YR.2 h]at this;rcases(ZZ _ _).mp this.symm with h|h
 ·exact .inr h
 ·exact .inl (eq_of_beq h).symm
theorem cmpZ_trans{a b c:List UInt8}(h:AX.cmpZ a b<0)(k:AX.cmpZ b c<0):AX.cmpZ a c<0:=by
 rw[cmpZ_lt]at *;exact less_trans a b c h k
end Sf
namespace AX
theorem bjd{i j n:Nat}(hij:i<j)(hjn:j<=n)(hn:n<=1000000):
  IntKind.i64.wrap ((i:Int)+(j:Int))=((i+j:Nat):Int)/\IntKind.u64.wrap ((i+j:Nat):Int)=((i+j:Nat):Int)/\shA .shr .u64 ((i+j:Nat):Int) 1=some (.int .u64 (((i+j)/2:Nat):Int))/\IntKind.i64.wrap (((i+j)/2:Nat):Int)=(((i+j)/2:Nat):Int)/\IntKind.i64.wrap ((((i+j)/2:Nat):Int)+1)=(((i+j)/2+1:Nat):Int):=by
 refine⟨by rw[wrap64 (by omega) (by omega)];omega,by rw[IntKind.wrap_u64];omega,?_,by rw[wrap64 (by omega) (by omega)],by rw[wrap64 (by omega) (by omega)];omega⟩;simp only[shA];rw[if_pos (by decide)];congr 2;rw[show min (Int.toNat 1) IntKind.u64.bits=1 from rfl,show((2:Int)^1)=((2:Nat):Int)from rfl,Int.fdiv_eq_ediv_of_nonneg _ (YJ _)];rfl
end AX
end
section
open Go.Lib
namespace Num
def valA(n:Nat)(s:List UInt8):Nat:=s.foldl (fun n c=>10*n+(c.toNat-48)) n
theorem valA_cons(n:Nat)(c:UInt8)(s:List UInt8):valA n (c::s)=valA (10*n+(c.toNat-48)) s:=by unfold valA;rw[List.foldl_cons]
theorem val_valA(s:List UInt8):val s=valA 0 s:=rfl
theorem valA_ge:∀(s:List UInt8) (n:Nat),n*10^s.length<=valA n s
 |[],n=>by simp[valA]
 |c::s,n=>by
  rw[valA_cons,Zf,Nat.pow_succ];refine Zr ?_ (valA_ge s _);have e:n*(10^s.length*10)=(10*n)*10^s.length:=by
   rw[Nat.mul_comm (10^s.length) 10,<-Nat.mul_assoc,Nat.mul_comm n 10]
  rw[e];exact Ym _ (by omega)
theorem valA_le(s:List UInt8)(n:Nat):n<=valA n s:=by
 have h:=valA_ge s n;have h1:1<=10^s.length:=Nat.one_le_pow _ _ (by omega);exact Zr (by simpa using Nat.mul_le_mul_left n h1) h
theorem digB_iff(c:UInt8):digB c=true↔48<=c.toNat/\c.toNat<=57:=by simp[digB]
theorem uintM_digits:∀(l:List UInt8) (acc:Nat),l.all digB=true->parseUintM 18446744073709551615 acc l=if valA acc l<=18446744073709551615 then .ok (valA acc l)else if l=[]then .ok acc else .range
 |[],acc,_=>by simp[parseUintM,valA]
 |c::r,acc,h=>by
  rw[ZK,Zg,digB_iff]at h;have h1:=valA_le r (10*acc+(c.toNat-48));rw[valA_cons];unfold parseUintM;rw[if_pos h.1];split
  ·rw[if_neg (by omega),if_neg (by simp)]
  ·split
   ·rw[if_neg (by omega),if_neg (by simp)]
   ·rw[uintM_digits r _ h.2,Nat.mul_comm acc 10];by_cases hv:valA (10*acc+(c.toNat-48)) r<=18446744073709551615
    ·rw[if_pos hv,if_pos hv]
    ·rw[if_neg hv,if_neg hv,if_neg (show¬(c::r=[]) by simp)];cases r with
     |nil=>
      exfalso
      apply hv;unfold valA;rw[List.foldl_nil];omega
     |cons d q=>rw[if_neg (by simp)]
def body(s:List UInt8):List UInt8:=if s.getD 0 0==45 then s.drop 1 else s
def canonB(s:List UInt8):Bool:=digits (body s)&&!(s.getD 0 0==45&&body s == [48])
theorem digits_long{t:List UInt8}(h:digits t=true)(hl:16<t.length):9007199254740992<val t:=by
 cases t with
 |nil=>simp at hl
 |cons c r=>
  unfold digits at h;rw[Zg,ZZ,ZT,Zg,ZK,Zg,digB_iff]at h;obtain⟨⟨h1,h2⟩,h3⟩:=h;rcases h3 with h3|h3
  ·injection h3 with _ h3;subst h3;simp at hl
  ·have h4:c≠48:=by simpa using h3.2
   have h5:c.toNat≠48:=fun e=>h4 (YG.1 (by simpa using e))
   have h6:=valA_ge r (c.toNat-48);have h7:10^16<=10^r.length:=YQ (by omega) (by simp at hl;omega);have h8:1*10^r.length<=(c.toNat-48)*10^r.length:=Ym _ (by omega);have e:val (c::r)=valA (c.toNat-48) r:=by rw[val_valA,valA_cons];simp
   rw[e];have h9:(10:Nat)^16=10000000000000000:=by decide
   omega
theorem parse_form(s:List UInt8):parse s=if canonB s=false then(0,2)else if 9007199254740992<val (body s)then(0,5)else(if s.getD 0 0==45 then -(val (body s):Int)else(val (body s):Int),0):=by
 have e:parse s=if(!digits (body s)||(s.getD 0 0==45&&body s == [48]))=true then(0,2)else if 16<(body s).length then(0,5)else if 9007199254740992<val (body s)then(0,5)else(if s.getD 0 0==45 then -(val (body s):Int)else(val (body s):Int),0):=rfl
 rw[e];unfold canonB;cases hd:digits (body s)
 ·simp
 ·cases hm:(s.getD 0 0==45&&body s == [48])
  ·simp only[Yc,Zaf,Zn,if_false,Z9,Bool.and_self,Bool.true_eq_false];split
   ·next hl=>rw[if_pos (digits_long hd hl)]
   ·rfl
  ·simp
theorem parseIntB_canon(s:List UInt8)(h:canonB s=true):
  (val (body s)<=9007199254740992/\parseIntB 64 s=.ok (if s.getD 0 0==45 then -(val (body s):Int)else(val (body s):Int))) \/
  (9007199254740992<val (body s)/\(parseIntB 64 s=.range\/∃v,parseIntB 64 s=.ok v/\¬(-9007199254740992<=v/\v<=9007199254740992))):=by
 unfold canonB at h;rw[Zg]at h;obtain⟨hd,_⟩:=h;cases s with
 |nil=>simp[body,digits]at hd
 |cons c r=>
  have hne:body (c::r)≠[]:=by
   intro e;rw[e]at hd;simp[digits]at hd
  have hall:(body (c::r)).all digB=true:=by
   unfold digits at hd;rw[Zg]at hd;exact hd.1
  have hneg:((c::r).getD 0 0==45)=decide (c.toNat=45):=by
   show(c==45)=_
   rw[YO,ZT,Zx];exact⟨fun e=>by rw[e];rfl,fun e=>YG.1 (by simpa using e)⟩
  have h43:c.toNat≠43:=by
   intro e;have e2:((c::r).getD 0 0==45)=false:=by rw[hneg];simp[e]
   unfold body at hall;rw[e2]at hall;simp only[Zn,if_false,ZK,Zg,digB_iff]at hall;omega
  have hb:(if c.toNat=43\/c.toNat=45 then r else c::r)=body (c::r):=by
   unfold body;rw[hneg];by_cases e:c.toNat=45
   ·simp[e]
   ·simp[e,h43]
  have hu:parseUintB 64 (body (c::r))=if val (body (c::r))<=18446744073709551615 then .ok (val (body (c::r)))else .range:=by
   unfold parseUintB;rw[if_neg hne];have:=uintM_digits _ 0 hall;rw[if_neg hne,<-val_valA]at this;exact this
  have hp:parseIntB 64 (c::r)=match parseUintB 64 (body (c::r))with
    |NumEnd.syntax=>NumEnd.syntax
    |.range=> .range
    |.ok u=>if¬c.toNat=45/\2^(64-1)<=u then .range else if c.toNat=45/\2^(64-1)<u then .range else .ok (if c.toNat=45 then -(u:Int)else u):=by
   rw[<-hb];rfl
  rw[hp,hu,hneg];have e63:2^(64-1)=9223372036854775808:=by decide
  rw[e63];generalize val (body (c::r))=u;by_cases hm:u<=9007199254740992
  ·refine .inl ⟨hm,?_⟩;rw[if_pos (by omega)];dsimp only;rw[if_neg (by omega),if_neg (by omega)];simp
  ·refine .inr ⟨by omega,?_⟩;by_cases h64:u<=18446744073709551615
   ·rw[if_pos h64];dsimp only;split
    ·exact .inl rfl
    ·split
     ·exact .inl rfl
     ·refine .inr ⟨_,rfl,?_⟩;split<;>omega
   ·rw[if_neg h64];exact .inl rfl
end Num
end
section
open Go.RowKit
open Go.Op (bytesLess)
namespace Num
theorem digB_int(c:UInt8):digB c=(decide (48<=(c.toNat:Int))&&decide ((c.toNat:Int)<=57)):=by
 unfold digB;have e1:decide (48<=c.toNat)=decide (48<=(c.toNat:Int)):=decide_eq_decide.2 (by omega);have e2:decide (c.toNat<=57)=decide ((c.toNat:Int)<=57):=decide_eq_decide.2 (by omega);rw[e1,e2]
theorem all_fail{s:List UInt8}{j:Nat}(hj:j<s.length)(h:digB (s.getD j 0)=false):digits s=false:=by
 have:s.all digB=false:=by
  rw[List.all_eq_false];refine⟨s[j],Zl hj,?_⟩;have e:s.getD j 0=s[j]:=by simp[List.getD,hj]
  rw[e]at h;rw[h];decide
 unfold digits;rw[this];rfl
theorem all_end{s:List UInt8}(h:∀k,k<s.length->digB (s.getD k 0)=true):digits s=(s != []&&(s.getD 0 0 !=48||s.length==1)):=by
 have h1:s.all digB=true:=by
  rw[ZD];intro x hx;obtain⟨j,hj,rfl⟩:=List.getElem_of_mem hx;have:=h j hj;have e:s.getD j 0=s[j]:=by simp[List.getD,hj]
  rwa [e]at this
 unfold digits;rw[h1,ZH]
 match s with
 |[]=>rfl
 |[c]=>
  by_cases e:c=48
  ·subst e;rfl
  ·have e1:(c==48)=false:=by simp[e]
   have e2:([c] == [48])=false:=by simp[e]
   have e3:(c !=48)=true:=by simp[e]
   show([c] == [48]||([c] != []&&c !=48))=([c] != []&&(c !=48||([c].length==1)))
   rw[e2,e3];rfl
 |c::d::r=>simp
end Num
namespace AX
theorem cqt(c:UInt8)(n:UInt8):((c.toNat:Int)==(n.toNat:Int))=(c==n):=by
 rw[YO,ZT,ZT];exact⟨fun e=>YG.1 (by omega),fun e=>by rw[e]⟩
theorem czl{P:Program}{G:World->Prop}{f:FuncId}{args:List A}{vs:List Value}{w:World}{b:Bool}(hc:ACall P G f args ⟨[],[]⟩ fun v _=>v=.bool b)(hG:∀w':World,(∀g,g<w.heap.size->w'.heap[g]?=w.heap[g]?)->G w')
  (ha:RepL (Ctx.of w) args vs):Calls P f vs.toArray w fun e w'=>e=.returned (.bool b)/\Below w.heap.size w w':=by
 refine(hc (Ctx.of w) vs (inv_of hG) ha).mono ?_;rintro e w' ⟨C',h',v,cv,rfl,rfl,_,st,hr,rfl⟩;rw[aqn]at hr;subst hr;exact⟨rfl,st.os,st.tape,st.output,st.size,fun g hg=>st.frame g hg rfl fun t ht=>by simp[Ctx.of]at ht⟩
theorem cyw(s:List UInt8)(hl:s.length<=2000000)(h:Hp):AT 173 [.str s] h (.bool (Num.canonB s)):=by
 refine pcall ?_ rfl (by simp[A.pure,A.data]) h;refine fo ?_;obtain⟨R,hR⟩:=Ex (Num.canonB s);rw[hR];unfold Num.canonB Num.body at hR;by_cases hn:s=[]
 ·subst hn;have e0:¬((0:Nat):Int)>0:=by decide
  have e1:¬(0:Int)<((0:Nat):Int):=by decide
  have hR':R=false:=by rw[<-hR];rfl
  subst hR';refine aza e0 ?_;refine ajx ?_;refine aza e1 ?_;exact Fn rfl
 have hpos:(s.length:Int)>0:=by
  have:=YA.2 hn;omega
 have h0:(0:Int)<(s.length:Int):=hpos;obtain⟨c,hc⟩:=Ex (s.getD 0 0);rw[hc]at hR;have e45:((c.toNat:Int)==45)=(c==45):=cqt c 45;have hbody:∃t:List UInt8,t=(if c==45 then s.drop 1 else s):=⟨_,rfl⟩;obtain⟨t,ht⟩:=hbody;rw[<-ht]at hR;have htl:t.length<=2000000:=by
  rw[ht];split
  ·rw[ZC];omega
  ·exact hl
 have hgr:∀j:Nat,t.getD j 0=t.getD j 0:=fun _=>rfl
 have h1le:(1:Int)<=(s.length:Int):=by omega
 have z1:(0:Int)<=1:=by decide
 have n1:(1:Int).toNat=1:=rfl;have n0:(0:Int).toNat=0:=rfl;have key:∀{G:Prop},((c==45)=true->t=s.drop 1->G)->((c==45)=false->t=s->G)->G:=fun p q=>by
  cases e:c==45
  ·exact q e (by rw[ht,e];rfl)
  ·exact p e (by rw[ht,e];rfl)
 refine key (fun m1 m2=>?_) (fun m1 m2=>?_)
 ·rw[m1,ZH]at hR;have m3:s.drop 1=t:=m2.symm;have e10:((c.toNat:Int)==45)=true:=by rw[e45,m1]
  cases h48:t == [48];rotate_left
  ·rw[h48]at hR;have hR':R=false:=by rw[<-hR,Yc,Zad]
   subst hR';refine aza (ai hpos (ai h0 (ai n0 (ai hc (ai e10 (ai h1le (ai z1 (ai n1 (ai m3 h48))))))))) ?_;exact Fn rfl
  rw[h48,Z9,ZX]at hR;refine aza (ai hpos (ai h0 (ai n0 (ai hc (ai e10 (ai h1le (ai z1 (ai n1 (ai m3 h48))))))))) ?_;refine azg (fun mm ts h=>∃(j:Nat),mm=t.length-j/\j<=t.length/\h=⟨[],[]⟩/\(∀k,k<j->Num.digB (t.getD k 0)=true)/\ts 0=.str t/\ts 17=.int .i64 (t.length:Nat)/\ts 18=.int .i64 (j:Nat)) t.length ?_ ?_
  ·exact⟨0,by omega,by omega,rfl,fun k hk=>absurd hk (Nat.not_lt_zero k),by(exact ev0 m3),by(exact ev0 m3),by(exact azv ti)⟩
  rintro mm ts h ⟨j,rfl,hjc,rfl,hok,t0,t17,t18⟩;by_cases hj:j<t.length
  ·have hlt:(j:Int)<(t.length:Int):=by omega
   have hj0:(0:Int)<=(j:Int):=by omega
   have ei:IntKind.i64.wrap ((j:Int)+1)=((j+1:Nat):Int):=by rw[wrap64 (by omega) (by omega)];omega
   obtain⟨b,hb⟩:=Ex (t.getD j 0);have hdg:=Num.digB_int b;obtain⟨x,hx⟩:∃x:Int,(b.toNat:Int)=x:=⟨_,rfl⟩;rw[hx]at hdg;by_cases x1:x<48
   ·have hR':R=false:=by rw[<-hR];exact Num.all_fail hj (by rw[hb,hdg,Yp (by omega)];rfl)
    subst hR';refine aza (ai t0 (ai t17 (ai t18 (ai hlt (ai hj0 (ai hb (ai hx x1))))))) ?_;exact Fn rfl
   by_cases x2:x>57
   ·have hR':R=false:=by rw[<-hR];exact Num.all_fail hj (by rw[hb,hdg,Yg (show 48<=x by omega),Yp (by omega)];rfl)
    subst hR';refine aza (ai t0 (ai t17 (ai t18 (ai hlt (ai hj0 (ai hb (ai hx (ai x1 x2)))))))) ?_;exact Fn rfl
   ·refine aza (ai t0 (ai t17 (ai t18 (ai hlt (ai hj0 (ai hb (ai hx (ai x1 (ai x2 ei))))))))) ?_;refine⟨t.length-(j+1),by omega,j+1,rfl,by omega,rfl,fun k hk=>?_,by(exact ev0 t0),by(exact ev0 t17),by(exact ev0 ei)⟩;by_cases e:k=j
    ·rw[e,hb,hdg,Yg (show 48<=x by omega),Yg (show x<=57 by omega)];rfl
    ·exact hok k (by omega)
  ·have hlt:¬((j:Int)<(t.length:Int)):=by omega
   have hje:j=t.length:=by omega
   rw[hje]at hok;have hE:=Num.all_end hok;rw[hR]at hE;cases hnt:t != []
   ·rw[hnt,Z7]at hE;subst hE;refine aza (ai t0 (ai t17 (ai t18 (ai hlt hnt)))) ?_;exact Fn rfl
   rw[hnt,ZH]at hE;have hp2:(0:Int)<(t.length:Int):=by
    have:t≠[]:=by simpa using hnt
    have:=YA.2 this;omega
   obtain⟨b,hb⟩:=Ex (t.getD 0 0);rw[hb]at hE;have e48:((b.toNat:Int)!=48)=(b !=48):=congrArg (!·) (cqt b 48);cases hb48:b !=48
   ·rw[hb48,YF]at hE;rw[hb48]at e48;have el:((t.length:Int)==1)=(t.length==1):=by
     rw[YO,ZT,ZT];omega
    rw[<-hE]at el;refine aza (ai t0 (ai t17 (ai t18 (ai hlt (ai hnt (ai hp2 (ai n0 (ai hb (ai e48 el))))))))) ?_;exact Fn rfl
   ·rw[hb48,Zaa]at hE;subst hE;rw[hb48]at e48;refine aza (ai t0 (ai t17 (ai t18 (ai hlt (ai hnt (ai hp2 (ai n0 (ai hb e48)))))))) ?_;exact Fn rfl
 ·have e10:((c.toNat:Int)==45)=false:=by rw[e45,m1]
  rw[m1,Z7,Z9,ZX]at hR;have m3:s=t:=m2.symm;refine aza (ai hpos (ai h0 (ai n0 (ai hc e10)))) ?_;refine azg (fun mm ts h=>∃(j:Nat),mm=t.length-j/\j<=t.length/\h=⟨[],[]⟩/\(∀k,k<j->Num.digB (t.getD k 0)=true)/\ts 0=.str t/\ts 17=.int .i64 (t.length:Nat)/\ts 18=.int .i64 (j:Nat)) t.length ?_ ?_
  ·exact⟨0,by omega,by omega,rfl,fun k hk=>absurd hk (Nat.not_lt_zero k),by(exact ev0 m3),by(exact ev0 m3),by(exact azv ti)⟩
  rintro mm ts h ⟨j,rfl,hjc,rfl,hok,t0,t17,t18⟩;by_cases hj:j<t.length
  ·have hlt:(j:Int)<(t.length:Int):=by omega
   have hj0:(0:Int)<=(j:Int):=by omega
   have ei:IntKind.i64.wrap ((j:Int)+1)=((j+1:Nat):Int):=by rw[wrap64 (by omega) (by omega)];omega
   obtain⟨b,hb⟩:=Ex (t.getD j 0);have hdg:=Num.digB_int b;obtain⟨x,hx⟩:∃x:Int,(b.toNat:Int)=x:=⟨_,rfl⟩;rw[hx]at hdg;by_cases x1:x<48
   ·have hR':R=false:=by rw[<-hR];exact Num.all_fail hj (by rw[hb,hdg,Yp (by omega)];rfl)
    subst hR';refine aza (ai t0 (ai t17 (ai t18 (ai hlt (ai hj0 (ai hb (ai hx x1))))))) ?_;exact Fn rfl
   by_cases x2:x>57
   ·have hR':R=false:=by rw[<-hR];exact Num.all_fail hj (by rw[hb,hdg,Yg (show 48<=x by omega),Yp (by omega)];rfl)
    subst hR';refine aza (ai t0 (ai t17 (ai t18 (ai hlt (ai hj0 (ai hb (ai hx (ai x1 x2)))))))) ?_;exact Fn rfl
   ·refine aza (ai t0 (ai t17 (ai t18 (ai hlt (ai hj0 (ai hb (ai hx (ai x1 (ai x2 ei))))))))) ?_;refine⟨t.length-(j+1),by omega,j+1,rfl,by omega,rfl,fun k hk=>?_,by(exact ev0 t0),by(exact ev0 t17),by(exact ev0 ei)⟩;by_cases e:k=j
    ·rw[e,hb,hdg,Yg (show 48<=x by omega),Yg (show x<=57 by omega)];rfl
    ·exact hok k (by omega)
  ·have hlt:¬((j:Int)<(t.length:Int)):=by omega
   have hje:j=t.length:=by omega
   rw[hje]at hok;have hE:=Num.all_end hok;rw[hR]at hE;cases hnt:t != []
   ·rw[hnt,Z7]at hE;subst hE;refine aza (ai t0 (ai t17 (ai t18 (ai hlt hnt)))) ?_;exact Fn rfl
   rw[hnt,ZH]at hE;have hp2:(0:Int)<(t.length:Int):=by
    have:t≠[]:=by simpa using hnt
    have:=YA.2 this;omega
   obtain⟨b,hb⟩:=Ex (t.getD 0 0);rw[hb]at hE;have e48:((b.toNat:Int)!=48)=(b !=48):=congrArg (!·) (cqt b 48);cases hb48:b !=48
   ·rw[hb48,YF]at hE;rw[hb48]at e48;have el:((t.length:Int)==1)=(t.length==1):=by
     rw[YO,ZT,ZT];omega
    rw[<-hE]at el;refine aza (ai t0 (ai t17 (ai t18 (ai hlt (ai hnt (ai hp2 (ai n0 (ai hb (ai e48 el))))))))) ?_;exact Fn rfl
   ·rw[hb48,Zaa]at hE;subst hE;rw[hb48]at e48;refine aza (ai t0 (ai t17 (ai t18 (ai hlt (ai hnt (ai hp2 (ai n0 (ai hb e48)))))))) ?_;exact Fn rfl
end AX
theorem bxj(l:List UInt8)(hl:l.length<=2000000)(w:World)(g:GT w):
  Calls Tryz.prog 153 #[.string ⟨l.toArray⟩] w fun e w'=>e=.returned (.tuple #[.int .i64 (Num.parse l).1,.int .i64 (Num.parse l).2])/\Below w.heap.size w w':=by
 have hc:=AX.czl (w:=w) (vs:=[.string ⟨l.toArray⟩]) ((AX.cyw l hl ⟨[],[]⟩).mono fun v h' hv=>hv.1) (AX.cqk g) (AX.repL_cons.2 ⟨_,_,rfl,AX.rep_str.2 rfl,AX.azp.2 rfl⟩);have hf:=Num.parse_form l;obtain⟨P1,hP1⟩:=Ex (Num.parse l);rw[hP1]at hf⊢;cases hB:Num.canonB l
 ·rw[hB,if_pos rfl]at hf;subst hf;rw[hB]at hc;go_enter Tryz.func153,Tryz.ntmps153;go_wp2_with fail;refine hc.mono ?_;rintro e w1 ⟨rfl,b1⟩;have B1:=kept b1;clear b1;go_wp2;refine bodyPost_ret (v:=.tuple #[.int .i64 0,.int .i64 2]) (by simp[results,Tryz.results153,go_sem]) rfl ⟨rfl,B1.out⟩
 ·rw[hB,if_neg (by decide)]at hf;rw[hB]at hc;have hsz:(⟨l.toArray⟩:ByteArray).size<=9223372036854775806:=by rw[size_mk];omega
  have hlim:(⟨l.toArray⟩:ByteArray).size<=281474976710656:=by rw[size_mk];omega
  have hsyn:=g.esyn;obtain⟨ev,hev,hev2⟩:=g.erng;have nilne:∀(a b:Value),True:=fun _ _=>AX.ti
  rcases Num.parseIntB_canon l hB with⟨h1,h2⟩|⟨h1,h2|⟨v,h2,h3⟩⟩
  ·rw[if_neg (by omega)]at hf;obtain⟨v,hv⟩:∃v:Int,(if l.getD 0 0==45 then -(Num.val (Num.body l):Int)else(Num.val (Num.body l):Int))=v:=⟨_,rfl⟩;rw[hv]at h2 hf;have hvr:-9007199254740992<=v/\v<=9007199254740992:=by rw[<-hv];split<;>omega
   have hp:∀w':World,Calls Tryz.prog 174 #[.string ⟨l.toArray⟩,.int .i64 10,.int .i64 64] w' fun e w2=>e=.returned (.tuple #[.int .i64 v,.nilIface])/\(w2=w'\/∃t,w2=Lib.bytesWorld w' 5 t):=fun w'=>Any.strconv_ParseInt_10_at64_ok (P:=Tryz.prog) Tryz.lays174 ⟨l.toArray⟩ hsz v h2 w'
   have Hnv:=kept (fun w'=>ax1 v w');rw[Yg hvr]at Hnv;subst hf;have Hp:=kept hp;clear hp hsz hlim hsyn hev hev2 hvr hv h1 h2 hB;go_enter Tryz.func153,Tryz.ntmps153;go_wp2_with fail;refine hc.mono ?_;rintro e w1 ⟨rfl,b1⟩;have B1:=kept b1;clear b1;go_wp2_with fail;(with_reducible refine(Hp.out _).mono ?_);rintro e w2 ⟨rfl,hw⟩
   have B2:Kept (Below w.heap.size w w2):=kept (by
    rcases hw with rfl|⟨t,rfl⟩
    ·exact B1.out
    ·exact bthen B1.out (Lib.bytesWorld_below _ _ _))
   clear hw;go_wp2_with fail;(with_reducible refine(Hnv.out _).mono ?_);rintro e w3 ⟨rfl,rfl⟩
   go_wp2;refine bodyPost_ret (v:=.tuple #[.int .i64 v,.int .i64 0]) (by simp[results,Tryz.results153,go_sem]) rfl ⟨rfl,B2.out⟩
  ·rw[if_pos (by omega)]at hf;have hp:∀w':World,w'.cell? ⟨4,0,none⟩=some ev->Calls Tryz.prog 174 #[.string ⟨l.toArray⟩,.int .i64 10,.int .i64 64] w' fun e w2=>(∃a b c,e=.returned (.tuple #[.int .i64 a,.iface b c]))/\Below w'.heap.size w' w2:=fun w' hv=>(Any.strconv_ParseInt_10_at64_range (P:=Tryz.prog) Tryz.lays174 ⟨l.toArray⟩ hlim h2 ev w' hv hev2).mono fun e w2 ⟨N,q1,q2,q3,q4⟩=>⟨⟨_,_,_,q1⟩,q4⟩
   subst hf;have Hp:=kept hp;have Hev:=kept hev;clear hp hsz hlim hsyn hev hev2 h1 h2 hB;go_enter Tryz.func153,Tryz.ntmps153;go_wp2_with fail;refine hc.mono ?_;rintro e w1 ⟨rfl,b1⟩;have B1:=kept b1;have Hev1:=kept (show w1.cell? ⟨4,0,none⟩=some ev from by rw[<-Hev.out];simp only[World.cell?,b1.block _ (aqy Hev.out).2]);clear b1;go_wp2_with fail;(with_reducible refine(Hp.out _ Hev1.out).mono ?_);rintro e w2 ⟨⟨a,b,c,rfl⟩,b2⟩
   have B2:Kept (Below w.heap.size w w2):=kept (bthen B1.out b2);clear b2;go_wp2;refine bodyPost_ret (v:=.tuple #[.int .i64 0,.int .i64 5]) (by simp[results,Tryz.results153,go_sem]) rfl ⟨rfl,B2.out⟩
  ·rw[if_pos (by omega)]at hf;have hp:∀w':World,Calls Tryz.prog 174 #[.string ⟨l.toArray⟩,.int .i64 10,.int .i64 64] w' fun e w2=>e=.returned (.tuple #[.int .i64 v,.nilIface])/\(w2=w'\/∃t,w2=Lib.bytesWorld w' 5 t):=fun w'=>Any.strconv_ParseInt_10_at64_ok (P:=Tryz.prog) Tryz.lays174 ⟨l.toArray⟩ hsz v h2 w'
   have Hnv:=kept (fun w'=>ax1 v w');rw[Yp h3]at Hnv;subst hf;have Hp:=kept hp;clear hp hsz hlim hsyn hev hev2 h3 h1 h2 hB;go_enter Tryz.func153,Tryz.ntmps153;go_wp2_with fail;refine hc.mono ?_;rintro e w1 ⟨rfl,b1⟩;have B1:=kept b1;clear b1;go_wp2_with fail;(with_reducible refine(Hp.out _).mono ?_);rintro e w2 ⟨rfl,hw⟩
   have B2:Kept (Below w.heap.size w w2):=kept (by
    rcases hw with rfl|⟨t,rfl⟩
    ·exact B1.out
    ·exact bthen B1.out (Lib.bytesWorld_below _ _ _))
   clear hw;go_wp2_with fail;(with_reducible refine(Hnv.out _).mono ?_);rintro e w3 ⟨rfl,rfl⟩
   go_wp2;refine bodyPost_ret (v:=.tuple #[.int .i64 0,.int .i64 5]) (by simp[results,Tryz.results153,go_sem]) rfl ⟨rfl,B2.out⟩
theorem AX.a_numParse(s:List UInt8)(hl:s.length<=2000000)(h:AX.Hp):AX.AT 153 [.str s] h (.tup [.int .i64 (Num.parse s).1,.int .i64 (Num.parse s).2]):=
 AX.azu (AX.aj3 AX.axh) (fun w hg=>bxj s hl w hg) (fun C=>AX.rep_tup.2 ⟨_,rfl,AX.repL_cons.2 ⟨_,_,rfl,AX.rep_int.2 rfl,AX.repL_cons.2 ⟨_,_,rfl,AX.rep_int.2 rfl,AX.azp.2 rfl⟩⟩⟩) h
end
end Go.Proofs.YthhpocnmfknalaaGreatDoor
