/- Part of what the proof needs. -/
import Derived.Test.YtnffmgmidghfhaaGreatDoorMFrWorkspaceNewsS
import Derived.Laws.CopyRow
import Derived.Lib.AppendZerosOnto
import Derived.Lib.Overlaps
set_option maxHeartbeats 4000000
set_option maxRecDepth 100000
set_option linter.all false
namespace Go.Proofs.YtnffmgmidghfhaaGreatDoor
section
open Go.RowKit
namespace Sf
theorem strS_len(s:Rs):(strS s).2.length<=s.r.rest.length:=by
 unfold strS Wire.strR;dsimp only;split
 ·exact Z0 _
 ·dsimp only;rw[Zm];have:=Wire.cntR_rest s.r 1;omega
theorem words_in(N:Nat):∀(c:Nat) (s:Rs) (l:List (List UInt8)),s.r.rest.length<=N->(∀x∈l,x.length<=N)->(∀x∈(wordsS c s l).2,x.length<=N)/\(wordsS c s l).2.length=l.length+c
 |0,s,l,hs,hl=>⟨hl,rfl⟩
 |c+1,s,l,hs,hl=>by
  unfold wordsS
  obtain⟨h1,h2⟩:=words_in N c (strS s).1 (l++[(strS s).2]) (Zr (strS_le s) hs) (fun x hx=>by
   rcases Ya.1 hx with hx|hx
   ·exact hl x hx
   ·rw[ZB.1 hx];exact Zr (strS_len s) hs)
  refine⟨h1,?_⟩;rw[h2,Za,Yv];omega
theorem value_lens(s:Rs)(hs:s.r.rest.length<=100000000):(valueS s).2.lens:=AX.awb s.r hs
theorem inst_in(ver:Int)(s:Rs)(hs:s.r.rest.length<=2000000):AX.Sf.InstIn (instS ver s).2:=by
 have e1:=strS_le s;have e2:=strS_le (strS s).1;have e3:=strS_le (strS (strS s).1).1;have e4:=strS_le (strS (strS (strS s).1).1).1;have e5:=valueS_le (strS (strS (strS (strS s).1).1).1).1;have e6:=numS_le (valueS (strS (strS (strS (strS s).1).1).1).1).1;have e7:=flagS_le (numS (valueS (strS (strS (strS (strS s).1).1).1).1).1).1;have l1:=strS_len s;have l2:=strS_len (strS s).1;have l3:=strS_len (strS (strS s).1).1;have v:=value_lens (strS (strS (strS (strS s).1).1).1).1 (by omega);unfold instS;dsimp only;generalize hF:(if ver=2 then flagS (flagS (numS (valueS (strS (strS (strS (strS s).1).1).1).1).1).1).1 else((flagS (numS (valueS (strS (strS (strS (strS s).1).1).1).1).1).1).1,false))=F;have e8:F.1.r.rest.length<=2000000:=by
  rw[<-hF];split
  ·have:=flagS_le (flagS (numS (valueS (strS (strS (strS (strS s).1).1).1).1).1).1).1;omega
  ·dsimp only;omega
 have e9:=cntS_le F.1;have e10:=cntS_cnt F.1;obtain⟨w1,w2⟩:=words_in 2000000 (cntS F.1).2 (cntS F.1).1 [] (by omega) (by simp);refine⟨by dsimp only;omega,by dsimp only;omega,by dsimp only;omega,v,?_,w1⟩;show(wordsS (cntS F.1).2 (cntS F.1).1 []).2.length<=1000000000
 rw[w2,Zp];omega
theorem insts_in(ver:Int):∀(c:Nat) (s:Rs) (l:List Inst),s.r.rest.length<=2000000->(∀x∈l,AX.Sf.InstIn x)->(∀x∈(instsS ver c s l).2.1,AX.Sf.InstIn x)/\(instsS ver c s l).2.1.length<=l.length+c/\(instsS ver c s l).1.r.rest.length<=s.r.rest.length
 |0,s,l,hs,hl=>⟨hl,Ze _,Ze _⟩
 |c+1,s,l,hs,hl=>by
  unfold instsS;split
  ·exact⟨hl,by dsimp only;omega,Ze _⟩
  ·have h0:=instS_le ver s
   obtain⟨h1,h2,h3⟩:=insts_in ver c (instS ver s).1 (l++[(instS ver s).2]) (by omega) (fun x hx=>by
    rcases Ya.1 hx with hx|hx
    ·exact hl x hx
    ·rw[ZB.1 hx];exact inst_in ver s hs)
   refine⟨h1,?_,Zr h3 h0⟩;rw[Za,Yv]at h2;omega
theorem pendS_le(s:Rs):(pendS s).1.r.rest.length<=s.r.rest.length:=Zr (strS_le _) (Zr (strS_le _) (strS_le _))
theorem pends_in:∀(c:Nat) (s:Rs) (l:List Pend),s.r.rest.length<=2000000->(∀x∈l,x.addr.length<=2000000/\x.tok.length<=2000000)->(∀x∈(pendsS c s l).2,x.addr.length<=2000000/\x.tok.length<=2000000)/\(pendsS c s l).2.length=l.length+c/\(pendsS c s l).1.r.rest.length<=s.r.rest.length
 |0,s,l,hs,hl=>⟨hl,rfl,Ze _⟩
 |c+1,s,l,hs,hl=>by
  unfold pendsS;have h0:=pendS_le s;have k1:=strS_len s;have k2:=strS_len (strS (strS s).1).1;have k3:=strS_le s;have k4:=strS_le (strS s).1
  obtain⟨h1,h2,h3⟩:=pends_in c (pendS s).1 (l++[(pendS s).2]) (by omega) (fun x hx=>by
   rcases Ya.1 hx with hx|hx
   ·exact hl x hx
   ·rw[ZB.1 hx];unfold pendS;dsimp only
    exact⟨by omega,by omega⟩)
  refine⟨h1,?_,Zr h3 h0⟩;rw[h2,Za,Yv];omega
theorem outS_le(s:Rs):(outS s).1.r.rest.length<=s.r.rest.length:=Zr (flagS_le _) (Zr (valueS_le _) (strS_le _))
theorem outs_in:∀(c:Nat) (s:Rs) (l:List Outp),s.r.rest.length<=2000000->(∀x∈l,x.name.length<=2000000/\x.value.lens)->(∀x∈(outsS c s l).2.1,x.name.length<=2000000/\x.value.lens)/\(outsS c s l).2.1.length<=l.length+c
 |0,s,l,hs,hl=>⟨hl,Ze _⟩
 |c+1,s,l,hs,hl=>by
  unfold outsS;split
  ·exact⟨hl,by dsimp only;omega⟩
  ·have h0:=outS_le s;have k1:=strS_len s;have k3:=strS_le s
   obtain⟨h1,h2⟩:=outs_in c (outS s).1 (l++[(outS s).2]) (by omega) (fun x hx=>by
    rcases Ya.1 hx with hx|hx
    ·exact hl x hx
    ·rw[ZB.1 hx];unfold outS;dsimp only
     exact⟨by omega,value_lens _ (by omega)⟩)
   refine⟨h1,?_⟩;rw[Za,Yv]at h2;omega
theorem state_in(ver:Int)(s:Rs)(hs:s.r.rest.length<=2000000):AX.Sf.StIn (stateS ver s).2:=by
 have e1:=strS_le s;have e2:=numS_le (strS s).1;have e3:=cntS_le (numS (strS s).1).1;have e4:=cntS_cnt (numS (strS s).1).1;have l1:=strS_len s;obtain⟨i1,i2,i3⟩:=insts_in ver (cntS (numS (strS s).1).1).2 (cntS (numS (strS s).1).1).1 [] (by omega) (by simp);unfold stateS;dsimp only;generalize instsS ver (cntS (numS (strS s).1).1).2 (cntS (numS (strS s).1).1).1 []=I at i1 i2 i3;rw[Zp]at i2;split
 ·exact⟨by dsimp only;omega,i1,by simp,by simp,by dsimp only;omega,by simp,by simp⟩
 ·have hP:∃P:Rs×List Pend,(if ver=2 then pendsS (cntS I.1).2 (cntS I.1).1 []else(I.1,[]))=P/\P.1.r.rest.length<=2000000/\(∀x∈P.2,x.addr.length<=2000000/\x.tok.length<=2000000)/\P.2.length<=2000000:=by
   have c1:=cntS_le I.1;have c2:=cntS_cnt I.1;by_cases hv:ver=2
   ·rw[if_pos hv];obtain⟨p1,p2,p3⟩:=pends_in (cntS I.1).2 (cntS I.1).1 [] (by omega) (by simp);exact⟨_,rfl,by omega,p1,by rw[p2,Zp];omega⟩
   ·rw[if_neg hv];exact⟨_,rfl,by dsimp only;omega,by simp,by simp⟩
  obtain⟨P,hP,p1,p2,p3⟩:=hP;rw[hP];have c1:=cntS_le P.1;have c2:=cntS_cnt P.1;obtain⟨o1,o2⟩:=outs_in (cntS P.1).2 (cntS P.1).1 [] (by omega) (by simp);rw[Zp]at o2;exact⟨by dsimp only;omega,i1,p2,o1,by dsimp only;omega,by dsimp only;omega,by dsimp only;omega⟩
theorem insts_zero:∀(l:List Inst) (p:Option Inst),instsZ p l=0->∀x∈l,instZ x=0
 |[],_,_=>by simp
 |x::l,p,h=>by
  unfold instsZ at h;by_cases h1:instZ x=0
  rotate_left
  ·rw[if_pos h1]at h;exact absurd h h1
  ·rw[if_neg (by simp[h1])]at h;have h':instsZ (some x) l=0:=by
    cases p with
    |none=>simpa using h
    |some y=>
     dsimp only at h;cases hb:behind y x
     ·simp[hb]at h
     ·simpa [hb]using h
   ·intro y hy;rcases ZM.1 hy with rfl|hy
    ·exact h1
    ·exact insts_zero l _ h' y hy
theorem outs_zero:∀(l:List Outp) (p:Option (List UInt8)),outsZ p l=0->∀x∈l,outZ x=0
 |[],_,_=>by simp
 |x::l,p,h=>by
  unfold outsZ at h;split at h
  ·next h1=>exact absurd h h1
  ·next h1=>
   split at h
   ·simp at h
   ·intro y hy;rcases ZM.1 hy with rfl|hy
    ·simpa using h1
    ·exact outs_zero l _ h y hy
theorem inst_zero{x:Inst}(h:instZ x=0):Val.checkZ x.attrs=0/\1<=x.ver/\x.ver<=9007199254740992:=by
 unfold instZ at h;split at h
 ·simp at h
 ·split at h
  ·next h1=>exact absurd h h1
  ·next h1=>
   split at h
   ·simp at h
   ·split at h
    ·simp at h
    ·split at h
     ·simp at h
     ·next h2=>exact⟨by simpa using h1,by omega,by omega⟩
theorem out_zero{x:Outp}(h:outZ x=0):Val.checkZ x.value=0:=by
 unfold outZ at h;split at h
 ·simp at h
 ·split at h
  ·next h1=>exact absurd h h1
  ·next h1=>simpa using h1
theorem check_parts{s:St}(h:checkZ s=0):0<=s.ser/\s.ser<=9007199254740992/\s.insts.length<=512/\s.pends.length<=512/\s.outs.length<=512/\instsZ none s.insts=0/\pendsZ none s.pends=0/\outsZ none s.outs=0:=by
 unfold checkZ at h;split at h
 ·simp at h
 ·split at h
  ·simp at h
  ·split at h
   ·simp at h
   ·split at h
    ·next h1=>exact absurd h h1
    ·split at h
     ·next h1=>exact absurd h h1
     ·next h1 h2 h3 h4 h5=>exact⟨by omega,by omega,by omega,by omega,by omega,by simpa using h4,by simpa using h5,h⟩
theorem stOk_of{s:St}(h:checkZ s=0)(hin:AX.Sf.StIn s):AX.Sf.StOk s:=by
 obtain⟨h1,h2,h3,h4,h5,h6,h7,h8⟩:=check_parts h;refine⟨fun x hx=>?_,fun x hx=>?_,by omega,by omega,by omega,by omega,by omega⟩
 ·obtain⟨k1,k2,k3⟩:=inst_zero (insts_zero _ _ h6 x hx);exact⟨⟨1,0,k1⟩,(hin.insts x hx).l,by omega,by omega⟩
 ·exact⟨⟨1,0,out_zero (outs_zero _ _ h8 x hx)⟩,(hin.outs x hx).2⟩
theorem decode_back{b:List UInt8}{st:St}(h:decode b=(st,0)):∃ver,(ver=1\/ver=2)/\AX.versionS b=(ver,0)/\checkZ st=0/\encode ver st=(b,0)/\(stE ver st).length<=b.length/\(ver=1->st.pends=[])/\∃s:Rs,s.r.rest.length<=b.length/\st=(stateS ver s).2:=by
 unfold decode at h;by_cases h1:1048576<b.length
 ·rw[if_pos h1]at h;simp at h
 rw[if_neg h1]at h;by_cases h2:AX.preB b=false
 ·rw[if_pos h2]at h;simp at h
 rw[if_neg h2]at h;by_cases h3:(Crc.ver b).2=0
 rotate_left
 ·rw[if_pos h3]at h;simp at h
 rw[if_neg (by simp[h3])]at h;obtain⟨⟨body,e⟩,hb⟩:=Ex (Crc.ver b);rw[hb]at h h3;dsimp only at h h3;subst h3;have happ:=Seal.app_ver b body hb;by_cases h4:(AX.versionS body).2=0
 rotate_left
 ·rw[if_pos h4]at h;injection h with _ h;exact absurd h h4
 rw[if_neg (by simp[h4])]at h;have h12:=AX.akc h4;obtain⟨⟨ver,e⟩,hv⟩:=Ex (AX.versionS body);rw[hv]at h h4 h12;dsimp only at h h4 h12;subst h4;generalize hr:stateS ver ⟨(Wire.numR ⟨body.drop 4,0⟩).1,false⟩=r at h;cases hx:(r.1.fails||decide (0<r.1.r.rest.length)||checkZ r.2 !=0);rotate_left
 ·rw[hx,if_pos rfl]at h;simp at h
 rw[hx,if_neg (by decide)]at h;injection h with h5 _;rw[Yq,Yq,bne_eq_false_iff_eq,Zar]at hx;obtain⟨⟨x1,x2⟩,x3⟩:=hx;have took:=state_took (ver:=ver) (s:=⟨(Wire.numR ⟨body.drop 4,0⟩).1,false⟩) (by rw[hr];exact x1);rw[hr]at took;have hrest:r.1.r.rest=[]:=ZD (by omega);have t2:(Wire.numR ⟨body.drop 4,0⟩).1.rest=restE ver r.2:=by
  have:=took.2;rw[hrest,Zx]at this;exact this
 have hpre:AX.preB body=true/\(Wire.numR ⟨body.drop 4,0⟩).1.e=0/\(Wire.numR ⟨body.drop 4,0⟩).2=ver:=by
  unfold AX.versionS at hv;dsimp only at hv;split at hv
  ·simp at hv
  ·next q1=>
   split at hv
   ·simp at hv
   ·next q2=>
    split at hv
    ·simp at hv
    ·injection hv with hv _;exact⟨by simpa using q1,by simpa using q2,hv⟩
 obtain⟨g1,g2,g3⟩:=hpre;obtain⟨_,g4⟩:=Wire.numR_back g2;rw[g3,t2]at g4;have hmag:body.take 4=magic:=by
  unfold AX.preB at g1;rw[Zg,Z3]at g1;exact g1.2
 have hbody:body=stE ver r.2:=by
  rw[stE_rest,Zh,<-g4,<-hmag,Yi]
 subst h5;have hlen:b.length=body.length+4:=by
  rw[happ];unfold Crc.app;rw[Za,Crc.four_length]
 have hnum:∀l:List UInt8,Wire.numR ⟨Wire.num ver++l,0⟩=(⟨l,0⟩,ver):=fun l=>by
  unfold Wire.numR;rw[if_neg (by simp),Wire.grp_num ver l (by omega) (by omega)];dsimp only;rw[List.drop_left]
 refine⟨ver,h12,?_,x3,?_,by rw[<-hbody];omega,?_,_,?_,by rw[hr]⟩
 ·have hb4:b.drop 4=Wire.num ver++(restE ver r.2++Crc.four (Crc.upd 0 body)):=by
   rw[happ];unfold Crc.app;have h4:4<=body.length:=by
    have:=congrArg List.length hmag;rw[Zm]at this;simp only[magic,Zf,Zp]at this;omega
   rw[List.drop_append_of_le_length h4];rw[show body.drop 4=Wire.num ver++restE ver r.2 from g4,Zh]
  unfold AX.versionS;rw[if_neg h2];dsimp only;rw[hb4,hnum];dsimp only;rw[if_neg (by simp),if_neg (by omega)]
 ·unfold encode;rw[if_neg (by simp[x3]),<-hbody,if_neg (by omega),<-happ]
 ·intro h1v;rw[<-hr];unfold stateS;dsimp only;split
  ·rfl
  ·rw[if_neg (by omega)]
 ·have:=Wire.numR_rest ⟨body.drop 4,0⟩;dsimp only at this⊢;rw[Zu]at this;omega
end Sf
end
section
open Go.RowKit
namespace AX
theorem dqa{x y z:A}{v u r:Value}(h:∀C c,Rep C x c->c=v)(h':∀C c,Rep C y c->c=u)(h'':∀C c,Rep C z c->c=r):∀C cs,RepL C [x,y,z] cs->cs=[v,u,r]:=fun C cs hr=>by
 obtain⟨c,cs',rfl,h1,h2⟩:=repL_cons.1 hr;rw[bky h' h'' C cs' h2,h C c h1]
theorem Sf.encode_len(ver:Int)(st:Sf.St):(Sf.encode ver st).1.length<=1048576:=by
 unfold Sf.encode;split
 ·simp
 ·split
  ·simp
  ·next h=>show(Crc.app _).length<=_;simp[Crc.app,Crc.four];omega
theorem akp(k:List UInt8)(hk:k.length<=1000000000)(h:Hp):AT 31 [.str k] h (.int .i64 (Seal.check k)):=
 azs (ajp aqy) (fun w hg=>(check_any ⟨k.toArray⟩ w (by rw[size_mk];exact hk)).mono fun e w' ⟨h1,h2⟩=>⟨h1,by rw[h2];exact Below.refl _ _⟩) (fun C=>rep_int.2 rfl) h
theorem cyn(k:List UInt8)(n:Int)(p:List UInt8)(hk:k.length<=1000000000)(hn:Seal.U64 n)(hp:p.length<=1048576)(h:Hp):AT 50 [.str k,.int .u64 n,.str p] h (.tup [.str (Seal.enc k n p).1,.int .i64 (Seal.enc k n p).2]):=
 azs (dqa aqy bk7 aqy) (fun w hg=>cwi ⟨k.toArray⟩ n ⟨p.toArray⟩ w (by rw[size_mk];exact hk) hn (by rw[size_mk];exact hp)) (fun C=>rep_tup.2 ⟨_,rfl,repL_cons.2 ⟨_,_,rfl,rep_str.2 rfl,repL_cons.2 ⟨_,_,rfl,rep_int.2 rfl,azm.2 rfl⟩⟩⟩) h
theorem dzg(k p:List UInt8)(hk:k.length<=1000000000)(hp:p.length<=1048600)(h:Hp):AT 74 [.str k,.str p] h (.tup [.str (Seal.dec k p).1,.int .i64 (Seal.dec k p).2]):=
 azs (bky aqy aqy) (fun w hg=>cwp ⟨k.toArray⟩ ⟨p.toArray⟩ w (by rw[size_mk];exact hk) (by rw[size_mk];exact hp)) (fun C=>rep_tup.2 ⟨_,rfl,repL_cons.2 ⟨_,_,rfl,rep_str.2 rfl,repL_cons.2 ⟨_,_,rfl,rep_int.2 rfl,azm.2 rfl⟩⟩⟩) h
theorem bjs(n:Int):Seal.U64 (IntKind.u64.wrap n):=by
 rw[IntKind.wrap_u64];exact⟨Int.emod_nonneg _ (by decide),Int.emod_lt_of_pos _ (by decide)⟩
def czs:AX.AFn:=⟨50,aS [aR 3 (.box 58 (.t 1)),aR 4 (.mv (aI 0))] (aS [aR 9 (.load true 5 (.t 3)),aR 10 (.call 49 [.t 9]),aM 8 10,aE 11 8 0,aE 12 8 1,aM 5 11,aM 6 12] (.seq (aS [aM 13 6,aR 14 (.bin .neq (.t 13) (aI 0))] (.cond (.t 14) (aS [aM 15 6,aM 4 15] (.ret)) (.skip))) (.seq (.reg true [aM 17 0,⟨some 18,.nilck (.t 17),none,[0]⟩,⟨some 19,.faddr 0 (.t 18),none,[1]⟩,⟨some 20,.load false 1 (.t 19),none,[2]⟩,aF 21 1 3,⟨some 22,.load false 1 (.t 21),none,[4]⟩,⟨some 23,.conv .u64 (.t 22),none,[5]⟩,aM 24 5,⟨some 25,.call 50 [.t 20,.t 23,.t 24],none,[3,6,7]⟩,⟨some 16,.mv (.t 25),none,[8]⟩,⟨some 26,.extract (.t 16) 0,none,[9]⟩,⟨some 27,.extract (.t 16) 1,none,[9]⟩,⟨some 7,.mv (.t 26),none,[10,8,0,1,2,3,4,5,6,7,8,9,10]⟩,⟨some 6,.mv (.t 27),none,[11,12,0,1,2,3,4,5,6,7,8,9,10,11,12]⟩]) (.seq (aS [aM 28 6,aR 29 (.bin .neq (.t 28) (aI 0))] (.cond (.t 29) (aS [aM 30 6,aM 4 30] (.ret)) (.skip))) (.seq (.reg true [aM 31 0,⟨some 32,.nilck (.t 31),none,[0]⟩,⟨some 33,.faddr 3 (.t 32),none,[1]⟩,⟨some 34,.load false 1 (.t 33),none,[2]⟩,aF 35 1 3,⟨some 36,.load false 1 (.t 35),none,[4]⟩,aM 37 7,⟨none,.mset (.t 34) (.t 36) (.t 37),none,[3,5,6,0,1,2,3,4,5,6]⟩]) (aS [aM 38 0,aF 39 1 3,aL 40 39,aR 41 (.nilck (.t 38)),aF 42 2 41,aU (.store 1 (.t 42) (.t 40))] (.seq (.reg true [aM 43 0,⟨some 44,.nilck (.t 43),none,[0]⟩,⟨some 45,.faddr 3 (.t 44),none,[1]⟩,⟨some 46,.load false 1 (.t 45),none,[2]⟩,aF 47 1 3,⟨some 48,.load false 1 (.t 47),none,[4]⟩,⟨some 49,.bin .sub (.t 48) (aI 64),none,[5]⟩,⟨none,.mdel (.t 46) (.t 49),none,[3,6]⟩]) (aS [aR 4 (.mv (aI 0))] (.ret))))))))),[.t 4]⟩
theorem dzy:AX.compFn Tryz.prog 33=some czs:=by kernel_rfl
def ay6:AX.AFn:=⟨27,aS [aR 4 (.mv (.c (.str []))),aR 5 (.mv (aI 0))] (aS [aM 9 0,aR 10 (.nilck (.t 9)),aF 11 3 10,aL 12 11,aM 13 1,aR 14 (.mget (.str []) true (.t 12) (.t 13)),aM 8 14,aE 15 8 0,aE 16 8 1,aM 6 15,aM 7 16] (.seq (aS [aM 17 7,aR 18 (.un .not (.t 17))] (.cond (.t 18) (aS [aR 4 (.mv (.c (.str []))),aR 5 (.mv (aI 9))] (.ret)) (.skip))) (aS [aM 19 0,aR 20 (.nilck (.t 19)),aF 21 0 20,aL 22 21,aM 23 6,aR 24 (.call 74 [.t 22,.t 23]),aE 25 24 0,aE 26 24 1,aM 4 25,aM 5 26] (.ret)))),[.t 4,.t 5]⟩
theorem cjt:AX.compFn Tryz.prog 51=some ay6:=by kernel_rfl
def ckx:AX.AFn:=⟨34,aS [aR 4 (.alloc 58 [.str [],.int .i64 0,.sl 0 .nil [],.sl 0 .nil [],.sl 0 .nil []]),aR 5 (.mv (aI 0))] (.seq (aS [aM 9 0,aR 10 (.call 34 [.t 9]),aR 11 (.un .not (.t 10))] (.cond (.t 11) (aS [aR 12 (.build [.str [],.int .i64 0,.sl 0 .nil [],.sl 0 .nil [],.sl 0 .nil []] []),aU (.store 5 (.t 4) (.t 12)),aR 5 (.mv (aI 38))] (.ret)) (.skip))) (aS [aM 14 0,aM 15 1,aR 16 (.call 51 [.t 14,.t 15]),aM 13 16,aE 17 13 0,aE 18 13 1,aM 6 17,aM 7 18] (.seq (aS [aM 19 7,aR 20 (.bin .neq (.t 19) (aI 0))] (.cond (.t 20) (aS [aR 21 (.build [.str [],.int .i64 0,.sl 0 .nil [],.sl 0 .nil [],.sl 0 .nil []] []),aM 22 7,aU (.store 5 (.t 4) (.t 21)),aM 5 22] (.ret)) (.skip))) (aS [aM 24 6,aR 25 (.call 52 [.t 24]),aM 23 25,aE 26 23 0,aE 27 23 1,aR 8 (.alloc 58 [.str [],.int .i64 0,.sl 0 .nil [],.sl 0 .nil [],.sl 0 .nil []]),aU (.store 5 (.t 8) (.t 26)),aM 7 27] (.seq (aS [aM 28 7,aR 29 (.bin .eql (.t 28) (aI 0))] (.cond (.t 29) (.reg false [aR 30 (.load true 5 (.t 8)),aR 31 (.call 53 [.t 30]),aM 7 31]) (.skip))) (aS [aR 32 (.load true 5 (.t 8)),aM 33 7,aU (.store 5 (.t 4) (.t 32)),aM 5 33] (.ret))))))),[.c 4 true 5,.t 5]⟩
theorem dqh:AX.compFn Tryz.prog 35=some ckx:=by kernel_rfl
def ayh:AX.AFn:=⟨36,aS [aR 5 (.box 58 (.t 2)),aR 6 (.mv (aI 0))] (.seq (.block 0 (aS [aM 8 0,aR 9 (.call 34 [.t 8]),aR 10 (.un .not (.t 9)),aM 7 10] (.cond (.t 7) (aS [aR 6 (.mv (aI 38))] (.ret)) (aS [aM 12 0,aM 13 1,aR 14 (.call 47 [.t 12,.t 13]),aR 15 (.un .not (.t 14)),aM 11 15] (.cond (.t 11) (aS [aR 6 (.mv (aI 25))] (.ret)) (.seq (.reg true [aF 17 0 5,⟨some 18,.load false 1 (.t 17),none,[0]⟩,aM 19 0,⟨some 20,.nilck (.t 19),none,[2]⟩,⟨some 21,.faddr 1 (.t 20),none,[3]⟩,⟨some 22,.load false 1 (.t 21),none,[4]⟩,⟨some 23,.bin .neq (.t 18) (.t 22),none,[1,5]⟩,⟨some 16,.mv (.t 23),none,[6]⟩]) (.cond (.t 16) (aS [aR 6 (.mv (aI 23))] (.ret)) (.seq (.reg true [aF 25 1 5,⟨some 26,.load false 1 (.t 25),none,[0]⟩,aM 27 0,⟨some 28,.nilck (.t 27),none,[2]⟩,⟨some 29,.faddr 2 (.t 28),none,[3]⟩,⟨some 30,.load false 1 (.t 29),none,[4]⟩,⟨some 31,.bin .add (.t 30) (aI 1),none,[5]⟩,⟨some 32,.bin .neq (.t 26) (.t 31),none,[1,6]⟩,⟨some 24,.mv (.t 32),none,[7]⟩]) (.cond (.t 24) (aS [aR 6 (.mv (aI 22))] (.ret)) (.skip)))))))))) (aS [aM 33 0,aR 34 (.load true 5 (.t 5)),aR 35 (.call 33 [.t 33,.t 34]),aM 6 35] (.ret))),[.t 6]⟩
theorem cq0:AX.compFn Tryz.prog 29=some ayh:=by kernel_rfl
def bxf:AX.AFn:=⟨16,aS [aR 2 (.alloc 58 [.str [],.int .i64 0,.sl 0 .nil [],.sl 0 .nil [],.sl 0 .nil []]),aR 3 (.mv (aI 0))] (.seq (aS [aM 4 0,aR 5 (.call 34 [.t 4]),aR 6 (.un .not (.t 5))] (.cond (.t 6) (aS [aR 7 (.build [.str [],.int .i64 0,.sl 0 .nil [],.sl 0 .nil [],.sl 0 .nil []] []),aU (.store 5 (.t 2) (.t 7)),aR 3 (.mv (aI 38))] (.ret)) (.skip))) (aS [aM 8 0,aM 9 0,aR 10 (.nilck (.t 9)),aF 11 2 10,aL 12 11,aR 13 (.call 35 [.t 8,.t 12]),aE 14 13 0,aE 15 13 1,aU (.store 5 (.t 2) (.t 14)),aM 3 15] (.ret))),[.c 2 true 5,.t 3]⟩
theorem ckp:AX.compFn Tryz.prog 18=some bxf:=by kernel_rfl
section
variable (s:Sto) (l:List Blk) (t:List (TypeId×Nat×Nat))
theorem czf(st:Sf.St)(hin:Sf.StIn st)(hk:s.key.length<=1000000000)(hE:(Sf.stE 2 st).length+20<=1000000000):AC 33 [.ptr 1 0,st.A] ⟨s.M::s.B::l,t⟩ fun r h'=>r=.int .i64 (s.keep st).2/\h'=⟨(s.keep st).1.M::(s.keep st).1.B::l,t⟩:=by
 refine liftS (s':=(s.keep st).1) ?_ rfl rfl l t;refine aza mixedT dzy (by simp[czs]) ?_;dsimp only[czs];have hl:=Sf.encode_len 2 st;have he:=cqq st (axe st hin) (fun hz=>⟨Sf.stOk_of hz hin,hE⟩);obtain⟨q,hq⟩:=Ex (s.keep st);rw[hq];unfold Sto.keep at hq;obtain⟨⟨p,e⟩,hp⟩:=Ex (Sf.encode 2 st);rw[hp]at hq he hl;dsimp only at hq he hl;have hs:=fun h=>cyn s.key (IntKind.u64.wrap st.ser) p hk (bjs _) hl h
 obtain⟨⟨b,e2⟩,hb⟩:=Ex (Seal.enc s.key (IntKind.u64.wrap st.ser) p);rw[hb]at hq hs;dsimp only at hq hs;obtain⟨lin,ser,ins,ps,os⟩:=st;unfold Sf.St.A at he⊢;unfold Sto.B Sto.M;dsimp only at hq hs he⊢;refine azb ti ?_;refine use (he _) ?_;by_cases h1:e=0
 rotate_left
 ·rw[if_pos h1]at hq;subst hq;have e1:(e !=0)=true:=by simp[h1]
  refine azb e1 ?_;exact⟨_,le_refl _,rfl,rfl,rfl⟩
 rw[if_neg (by simp[h1])]at hq;have e1:(e !=0)=false:=by simp[h1]
 refine azb e1 ?_;refine use (hs _) ?_;by_cases h2:e2=0
 rotate_left
 ·rw[if_pos h2]at hq;subst hq;have e3:(e2 !=0)=true:=by simp[h2]
  refine azb e3 ?_;exact⟨_,le_refl _,rfl,rfl,rfl⟩
 rw[if_neg (by simp[h2])]at hq;have e3:(e2 !=0)=false:=by simp[h2]
 subst hq;refine azb (ai e3 (ai bj5 awm)) ?_;exact⟨_,le_refl _,rfl,rfl,rfl⟩
theorem cw5(n:Int)(hk:s.key.length<=1000000000)(hb:∀b,lfind n s.es=some b->b.length<=1048600):AT 51 [.ptr 1 0,.int .i64 n] ⟨s.M::s.B::l,t⟩ (.tup [.str (s.plain n).1,.int .i64 (s.plain n).2]):=by
 refine liftS (s':=s) ?_ rfl rfl l t;refine aza mixedT cjt (by simp[ay6]) ?_;dsimp only[ay6];obtain⟨q,hq⟩:=Ex (s.plain n);rw[hq];unfold Sto.plain at hq;have hf:=bz3 n s.es;cases hF:lfind n s.es with
 |none=>
  rw[hF]at hq hf;dsimp only at hq;subst hq;have hf':mfind n (strM s.es)=none:=hf;unfold Sto.B Sto.M;refine azb hf' ?_;exact⟨_,le_refl _,rfl,rfl,rfl⟩
 |some b=>
  rw[hF]at hq hf;dsimp only at hq;have hf':mfind n (strM s.es)=some (.str b):=hf;have ho:=fun h=>dzg s.key b hk (hb b hF) h
  rw[hq]at ho;unfold Sto.B Sto.M;refine azb hf' ?_;refine use (ho _) ?_;refine azb ti ?_;exact⟨_,le_refl _,rfl,rfl,rfl⟩
theorem dqo(n:Int)(hk:s.key.length<=1000000000)(hb:∀b,lfind n s.es=some b->b.length<=1048600):AT 35 [.ptr 1 0,.int .i64 n] ⟨s.M::s.B::l,t⟩ (.tup [(s.at' n).1.A,.int .i64 (s.at' n).2]):=by
 refine liftS (s':=s) ?_ rfl rfl l t;refine aza mixedT dqh (by simp[ckx]) ?_;dsimp only[ckx];obtain⟨q,hq⟩:=Ex (s.at' n);rw[hq];unfold Sto.at' at hq;have hm:=awu s;have hpl:=fun l t=>cw5 s l t n hk hb
 have hpz:(s.plain n).1.length<=1048600:=by
  unfold Sto.plain;split
  ·simp
  ·next b hF=>exact Zr (ckn _ _) (hb b hF)
 obtain⟨⟨b,e⟩,hp⟩:=Ex (s.plain n);rw[hp]at hq hpl hpz;dsimp only at hq hpl hpz;have hD:=fun h=>cj2 b (by omega) (ckq b) (fun ver r hr=>axe _ (Sf.state_in ver ⟨r,false⟩ (by dsimp only;omega))) h
 have hz:∀e:Int,le (.tup [.agg [.str [],.int .i64 0,.sl 0 .nil [],.sl 0 .nil [],.sl 0 .nil []],.int .i64 e]) (.tup [Sf.zero.A,.int .i64 e]):=fun e=>⟨⟨azd _,azd _,⟨rfl,.inr rfl,.inl rfl⟩,⟨rfl,.inr rfl,.inl rfl⟩,⟨rfl,.inr rfl,.inl rfl⟩,trivial⟩,rfl,trivial⟩
 unfold Sto.B Sto.M at hm hpl⊢;refine azb ti ?_;refine use (hm _ _) ?_;refine azb ti ?_;refine use (hpl _ _) ?_;by_cases h1:e=0
 rotate_left
 ·rw[if_pos h1]at hq;subst hq;have e1:(e !=0)=true:=by simp[h1]
  refine azb e1 ?_;exact⟨_,hz _,rfl,rfl,rfl⟩
 rw[if_neg (by simp[h1])]at hq;have e1:(e !=0)=false:=by simp[h1]
 have hck:(Sf.decode b).2=0->SCheck (Sf.decode b).1:=fun h0=>by
  obtain⟨ver,_,_,_,_,_,_,r,hr,hst⟩:=Sf.decode_back (b:=b) (st:=(Sf.decode b).1) (by rw[<-h0]);rw[hst];exact axe _ (Sf.state_in ver r (by omega))
 obtain⟨⟨st,e2⟩,hd⟩:=Ex (Sf.decode b);rw[hd]at hq hD hck;dsimp only at hq hD hck;obtain⟨Z,hZ⟩:=Ex (Sf.checkZ st);unfold SCheck at hck;rw[hZ]at hq hck;obtain⟨lin,ser,ins,ps,os⟩:=st;have hA:∀e,(A.tup [Sf.St.A ⟨lin,ser,ins,ps,os⟩,.int .i64 e])=A.tup [Sf.St.A ⟨lin,ser,ins,ps,os⟩,.int .i64 e]:=fun _=>rfl
 refine azb e1 ?_;refine use (hD _) ?_;unfold Sf.St.A at hck⊢;by_cases h2:e2=0
 ·rw[if_pos h2]at hq;subst hq;have e3:(e2==0)=true:=by simp[h2]
  refine azb e3 ?_;refine use (hck h2 _) ?_;refine azb ti ?_;exact⟨_,le_refl _,rfl,rfl,rfl⟩
 ·rw[if_neg h2]at hq;subst hq;have e3:(e2==0)=false:=by simp[h2]
  refine azb e3 ?_;exact⟨_,le_refl _,rfl,rfl,rfl⟩
theorem cq6(who:List UInt8)(st:Sf.St)(hin:Sf.StIn st)(hk:s.key.length<=1000000000)(hE:(Sf.stE 2 st).length+20<=1000000000):AC 29 [.ptr 1 0,.str who,st.A] ⟨s.M::s.B::l,t⟩ fun r h'=>r=.int .i64 (s.write who st).2/\h'=⟨(s.write who st).1.M::(s.write who st).1.B::l,t⟩:=by
 refine liftS (s':=(s.write who st).1) ?_ rfl rfl l t;refine aza mixedT cq0 (by simp[ayh]) ?_;dsimp only[ayh];have hkp:=fun l t=>czf s l t st hin hk hE
 obtain⟨q,hq⟩:=Ex (s.write who st);rw[hq];unfold Sto.write at hq;have hm:=awu s;have hh:=fun l t=>byf s l t who
 obtain⟨k,hkk⟩:=Ex (s.keep st);rw[hkk]at hq hkp;obtain⟨lin,ser,ins,ps,os⟩:=st;unfold Sf.St.A at hkp⊢;dsimp only at hq;rw[show s.B=.cells 75 [.str s.key,.str s.lin,.int .i64 s.latest,.mp 0,.str s.own,.int .i64 s.left]from rfl]at hm hh hkp⊢;refine azb ti ?_;refine use (hm _ _) ?_;refine azb ti ?_;refine use (hh _ _) ?_;cases hT:s.holds who
 ·rw[hT,if_pos (by decide)]at hq;subst hq;refine azb ti ?_;exact⟨_,le_refl _,rfl,rfl,rfl⟩
 rw[hT,if_neg (by decide)]at hq;by_cases h1:lin=s.lin
 rotate_left
 ·rw[if_pos h1]at hq;subst hq;have e1:(lin !=s.lin)=true:=by simp[h1]
  refine azb e1 ?_;exact⟨_,le_refl _,rfl,rfl,rfl⟩
 rw[if_neg (by simp[h1])]at hq;have e1:(lin !=s.lin)=false:=by simp[h1]
 by_cases h2:ser=IntKind.i64.wrap (s.latest+1)
 rotate_left
 ·rw[if_pos h2]at hq;subst hq;have e2:(ser !=IntKind.i64.wrap (s.latest+1))=true:=by simp[h2]
  refine azb (ai e1 e2) ?_;exact⟨_,le_refl _,rfl,rfl,rfl⟩
 rw[if_neg (by simp[h2])]at hq;subst hq;have e2:(ser !=IntKind.i64.wrap (s.latest+1))=false:=by simp[h2]
 refine azb (ai e1 e2) ?_;refine use (hkp _ _) ?_;refine azb ti ?_;exact⟨_,le_refl _,rfl,rfl,rfl⟩
theorem dzu(hk:s.key.length<=1000000000)(hb:∀b,lfind s.latest s.es=some b->b.length<=1048600):AT 18 [.ptr 1 0] ⟨s.M::s.B::l,t⟩ (.tup [(s.at' s.latest).1.A,.int .i64 (s.at' s.latest).2]):=by
 refine liftS (s':=s) ?_ rfl rfl l t;refine aza mixedT ckp (by simp[bxf]) ?_;dsimp only[bxf];have hm:=awu s;have ha:=fun l t=>dqo s l t s.latest hk hb
 obtain⟨⟨st,e⟩,hq⟩:=Ex (s.at' s.latest);rw[hq]at ha⊢;obtain⟨lin,ser,ins,ps,os⟩:=st;unfold Sf.St.A at ha⊢;dsimp only at ha⊢;unfold Sto.B at hm ha⊢;refine azb ti ?_;refine use (hm _ _) ?_;refine azb ti ?_;refine use (ha _ _) ?_;refine azb ti ?_;exact⟨_,le_refl _,rfl,rfl,rfl⟩
end
end AX
end
section
open Go.RowKit
namespace AX
def Sto.Bk(s:Sto)(k:Nat):Blk:=.cells 75 [.str s.key,.str s.lin,.int .i64 s.latest,.mp k,.str s.own,.int .i64 s.left]
structure Ent where
 name:List UInt8
 s:Sto
 p:Nat
 m:Nat
def Ent.row(e:Ent):List A:=[.str e.name,.ptr e.p 0]
def rowW(W:List Ent):List A:=(W.map Ent.row).flatten
def setC(key:List UInt8)(sp:A):Blk:=.cells 52 [.str key,.bool true,sp]
inductive SpAt(b:List Blk):A->List Ent->Prop
 |nil:SpAt b (.sl 0 .nil []) []
 |row {k:Nat} {W:List Ent} (h:b[k]?=some (.row 54 (rowW W))):SpAt b (.bs k 2 W.length) W
def SrtW(W:List Ent):Prop:=W.Pairwise fun x y=>cmpZ x.name y.name<0
structure WsAt(b:List Blk)(i:Nat)(key:List UInt8)(sp:A)(W:List Ent):Prop where
 set:b[i]?=some (setC key sp)
 sp:SpAt b sp W
 ent:∀e∈W,b[e.m]?=some e.s.M/\b[e.p]?=some (e.s.Bk e.m)
 ps:(W.map (·.p)).Nodup
 ms:(W.map (·.m)).Nodup
 srt:SrtW W
 len:W.length<=1000
theorem azc{b:List Blk}{k:Nat}{x:Blk}(h:b[k]?=some x)(L:List Blk):(b++L)[k]?=some x:=by
 rw[Zt (Zc.1 h).1];exact h
theorem SpAt.more{b:List Blk}{sp:A}{W:List Ent}(h:SpAt b sp W)(L:List Blk):SpAt (b++L) sp W:=by
 cases h with
 |nil=>exact .nil
 |row h=>exact .row (azc h L)
theorem WsAt.more{b:List Blk}{i:Nat}{key:List UInt8}{sp:A}{W:List Ent}(h:WsAt b i key sp W)(L:List Blk):WsAt (b++L) i key sp W:=
 ⟨azc h.set L,h.sp.more L,fun e he=>⟨azc (h.ent e he).1 L,azc (h.ent e he).2 L⟩,h.ps,h.ms,h.srt,h.len⟩
theorem axq(W:List Ent):(rowW W).length=W.length*2:=by
 unfold rowW;induction W with
 |nil=>rfl
 |cons e W ih=>rw[ZO,ZN,Za,ih,Zf];simp[Ent.row];omega
theorem ave:∀(W:List Ent) (k:Nat) (hk:k<W.length),k*2+2<=(rowW W).length/\((rowW W).drop (k*2)).take 2=[.str W[k].name,.ptr W[k].p 0]/\(((rowW W).drop (k*2+1)).take 1)[0]?=some (.ptr W[k].p 0)
 |e::W,0,hk=>by
  rw[axq];exact⟨by simp only[Zf];omega,rfl,rfl⟩
 |e::W,k+1,hk=>by
  obtain⟨h1,h2,h3⟩:=ave W k (by simp only[Zf]at hk;omega);have e1:rowW (e::W)=.str e.name :: .ptr e.p 0::rowW W:=rfl;refine⟨by rw[axq]at h1⊢;simp only[Zf];omega,?_,?_⟩
  ·rw[e1,show(k+1)*2=k*2+1+1 by omega,ZS,ZS];exact h2
  ·rw[e1,show(k+1)*2+1=k*2+1+1+1 by omega,ZS,ZS];exact h3
theorem bve(W:List Ent):(rowW W).all A.one=true:=by
 unfold rowW;induction W with
 |nil=>rfl
 |cons e W ih=>rw[ZO,ZN,List.all_append,ih];rfl
structure CutW(W:List Ent)(n:List UInt8)(p:Nat):Prop where
 le:p<=W.length
 lt:∀i (h:i<W.length),i<p->cmpZ W[i].name n<0
 ge:∀i (h:i<W.length),p<=i->0<=cmpZ W[i].name n
def hasW(W:List Ent)(n:List UInt8)(p:Nat):Bool:=match W[p]? with
 |some e=>cmpZ e.name n==0
 |none=>false
section
variable {h:Hp}
def ayv:AX.AFn:=⟨11,aS [aR 2 (.mv (.c (.bool false)))] (aS [aM 3 0,aR 4 (.eq 4 [] true (.t 3) (.c (.nilp))),aM 5 4,aG 6 (.mv (.t 0)) 5 true,aG 7 (.nilck (.t 6)) 5 true,aG 8 (.faddr 1 (.t 7)) 5 true,aG 9 (.load false 1 (.t 8)) 5 true,aR 10 (.pick (.t 5) (.t 9) (.c (.bool false))),aM 2 10] (.ret)),[.t 2]⟩
theorem cqz:AX.compFn Tryz.prog 17=some ayv:=by kernel_rfl
def ak4:AX.AFn:=⟨14,aS [aR 4 (.mv (aI 0)),aR 5 (.mv (.c (.bool false)))] (aS [aM 6 0,aR 7 (.nilck (.t 6)),aF 8 2 7,aL 9 8,aM 10 1,aR 11 (.call 42 [.t 9,.t 10,.c (.fn 43 [])]),aE 12 11 0,aE 13 11 1,aM 4 12,aM 5 13] (.ret)),[.t 4,.t 5]⟩
theorem by2:AX.compFn Tryz.prog 22=some ak4:=by kernel_rfl
def ayu:AX.AFn:=⟨9,aS [aR 2 (.box 54 (.t 0)),aR 4 (.mv (aI 0))] (aS [aF 5 0 2,aL 6 5,aM 7 1,aR 8 (.call 44 [.t 6,.t 7]),aM 4 8] (.ret)),[.t 4]⟩
theorem cju:AX.compFn Tryz.prog 43=some ayu:=by kernel_rfl
def bq3:AX.AFn:=⟨49,aS [aR 6 (.mv (aI 0)),aR 7 (.mv (.c (.bool false)))] (aS [aM 12 0,aR 13 (.len false (.t 12)),aM 8 13] (aS [aM 14 8,aR 9 (.mv (aI 0)),aM 10 14] (.seq (.block 0 (.loop (.seq (aS [aM 15 9,aM 16 10,aR 17 (.bin .lss (.t 15) (.t 16))] (.cond (.t 17) (.skip) (.exit 0))) (.block 1 (aS [aM 18 9,aM 19 10,aR 20 (.bin .add (.t 18) (.t 19)),aR 21 (.conv .u64 (.t 20)),aR 22 (.bin .shr (.t 21) (.c (.int .u64 1))),aR 23 (.conv .i64 (.t 22)),aM 11 23] (aS [aM 24 2,aM 25 0,aM 26 11,aR 27 (.iaddr 2 (.t 25) (.t 26)),aR 28 (.load true 2 (.t 27)),aM 29 1,aR 30 (.callv (.t 24) [.t 28,.t 29]),aR 31 (.bin .lss (.t 30) (aI 0))] (.cond (.t 31) (.reg false [aM 32 11,aR 33 (.bin .add (.t 32) (aI 1)),aM 9 33]) (.reg false [aM 34 11,aM 10 34])))))))) (aS [aM 35 9,aM 36 9,aM 37 8,aR 38 (.bin .lss (.t 36) (.t 37)),aM 39 38,aG 40 (.mv (.t 2)) 39 true,aG 41 (.mv (.t 0)) 39 true,aG 42 (.mv (.t 9)) 39 true,aG 43 (.iaddr 2 (.t 41) (.t 42)) 39 true,aG 44 (.load true 2 (.t 43)) 39 true,aG 45 (.mv (.t 1)) 39 true,aG 46 (.callv (.t 40) [.t 44,.t 45]) 39 true,aG 47 (.bin .eql (.t 46) (aI 0)) 39 true,aR 48 (.pick (.t 39) (.t 47) (.c (.bool false))),aM 6 35,aM 7 48] (.ret))))),[.t 6,.t 7]⟩
theorem cvx:AX.compFn Tryz.prog 42=some bq3:=by kernel_rfl
theorem aq9{i:Nat}{key:List UInt8}{sp:A}(hb:h.b[i]?=some (setC key sp)):AT 17 [.ptr i 0] h (.bool true):=by
 unfold setC at hb;refine aza mixedT cqz (by simp[ayv]) ?_;dsimp only[ayv];refine azo hb ti ?_;exact⟨_,le_refl _,rfl,rfl⟩
theorem cxe(a n:List UInt8)(q:Nat):AC 43 [.agg [.str a,.ptr q 0],.str n] h fun v h'=>v=.int .i64 (cmpZ a n)/\h'=⟨h.b++[.cells 54 [.str a,.ptr q 0]],h.t⟩:=by
 have c:=cyv a n;refine aza mixedT cju (by simp[ayu]) ?_;dsimp only[ayu];refine azo ti (ai c ti) ?_;exact⟨_,le_refl _,rfl,rfl⟩
theorem dz3{k:Nat}{W:List Ent}(hk:h.b[k]?=some (.row 54 (rowW W)))(n:List UInt8)(p:Nat)(hc:CutW W n p)(hn:W.length<=1000000):
  AC 42 [.bs k 2 W.length,.str n,.fn 43 []] h fun v h'=>v=.tup [.int .i64 (p:Nat),.bool (hasW W n p)]/\∃L,h'=⟨h.b++L,h.t⟩:=by
 have cs:=fun(a:List UInt8) (q:Nat) (L:List Blk)=>cxe (h:=⟨h.b++L,h.t⟩) a n q
 have hrow:=ave W;have hkL:=fun L=>azc hk L
 obtain⟨F,hF⟩:=Ex (rowW W);rw[hF]at hrow hkL;clear hk hF;obtain⟨b,t⟩:=h;dsimp only at cs hkL⊢;refine aza mixedT cvx (by simp[bq3]) ?_;dsimp only[bq3];refine azo ti ti ?_
 refine azh (fun m ts hh=>∃(i j:Nat) (L:List Blk),m=j-i/\i<=p/\p<=j/\j<=W.length/\hh=⟨b++L,t⟩ /\
  (ts 0=.bs k 2 W.length/\ts 1=.str n/\ts 2=.fn 43 []/\ts 8=.int .i64 (W.length:Nat)/\ts 9=.int .i64 (i:Nat)/\ts 10=.int .i64 (j:Nat))) W.length ?_ ?_
 ·exact⟨0,W.length,[],rfl,Z0 _,hc.le,Ze _,by rw[Zx],by(exact aqj ti)⟩
 rintro m ts hh ⟨i,j,L,rfl,hip,hpj,hjl,rfl,ht⟩;rcases YF i j with hlt|hge
 ·have hf:(i:Int)<(j:Int):=by omega
  obtain⟨e1,e2,e3,e4,e5⟩:=bxa hlt hjl hn;obtain⟨q,hq⟩:=Ex ((i+j)/2);have hk1:i<=q/\q<j:=by omega
  have hkl:q<W.length:=by omega
  rw[hq]at e3 e4 e5;have hki:(q:Int)<(W.length:Int):=by omega
  obtain⟨g1,g2,_⟩:=hrow q hkl;have hL:=hc.lt q hkl;have hG:=hc.ge q hkl;obtain⟨x,hx⟩:=Ex (W[q]);rw[hx]at g2 hL hG;have cx:=cs x.name x.p L;obtain⟨c,hcc⟩:=Ex (cmpZ x.name n);rw[hcc]at cx hL hG;have hk2:=hkL L;clear hcc hx cs hrow hkL;by_cases hneg:c<0
  ·refine azo (ai ht (ai hf (ai e1 (ai e2 (ai e3 (ai e4 (ai e5 (ai g1 (ai g2 (ai hk2 (ai hki hneg))))))))))) (ai cx ti) ?_;exact⟨_,by omega,q+1,j,_,rfl,by rcases YF q p with h|h;exact h;have:=hG h;omega,hpj,hjl,by rw[Zh],by(exact aqj (ai ht e5))⟩
  ·refine azo (ai ht (ai hf (ai e1 (ai e2 (ai e3 (ai e4 (ai e5 (ai g1 (ai g2 (ai hk2 (ai hki hneg))))))))))) (ai cx ti) ?_;exact⟨_,by omega,i,q,_,rfl,hip,by rcases YF q p with h|h;exact absurd (hL h) hneg;exact h,by omega,by rw[Zh],by(exact aqj ht)⟩
 ·have hf:¬(i:Int)<(j:Int):=by omega
  obtain rfl:i=p:=by omega
  have hk2:=hkL L;rcases YF i W.length with hlt|hge2
  ·have hf2:(i:Int)<(W.length:Int):=by omega
   obtain⟨g1,g2,_⟩:=hrow i hlt;have hB:hasW W n i=(cmpZ W[i].name n==0):=by unfold hasW;rw[Zi hlt]
   rw[hB];obtain⟨x,hx⟩:=Ex (W[i]);rw[hx]at g2⊢;have cx:=cs x.name x.p L;obtain⟨c,hcc⟩:=Ex (cmpZ x.name n);rw[hcc]at cx⊢;clear hcc hx cs hrow hkL;refine azo (ai ht (ai hf (ai hf2 (ai g1 (ai g2 hk2))))) (ai cx ti) ?_;exact⟨_,le_refl _,rfl,_,by rw[Zh]⟩
  ·have hf2:¬(i:Int)<(W.length:Int):=by omega
   have hB:hasW W n i=false:=by unfold hasW;rw[Z6 hge2]
   rw[hB];refine azo (ai ht (ai hf hf2)) ti ?_;exact⟨_,le_refl _,rfl,_,rfl⟩
theorem cvy(n:List UInt8):AT 42 [.sl 0 .nil [],.str n,.fn 43 []] h (.tup [.int .i64 (0:Nat),.bool false]):=by
 have e0:¬(0:Int)<((0:Nat):Int):=by decide
 refine aza mixedT cvx (by simp[bq3]) ?_;dsimp only[bq3];refine azo ti ti ?_;refine ax3 ?_;refine azo e0 ti ?_;exact⟨_,le_refl _,rfl,rfl⟩
theorem aya{i:Nat}{key:List UInt8}{sp:A}{W:List Ent}(w:WsAt h.b i key sp W)(n:List UInt8)(p:Nat)(hc:CutW W n p):
  AC 22 [.ptr i 0,.str n] h fun v h'=>v=.tup [.int .i64 (p:Nat),.bool (hasW W n p)]/\∃L,h'=⟨h.b++L,h.t⟩:=by
 have hb:=w.set;unfold setC at hb;have hl:=w.len;cases w.sp with
 |nil=>
  have c:=cvy (h:=h) n;obtain rfl:p=0:=Nat.le_zero.1 hc.le;refine aza mixedT by2 (by simp[ak4]) ?_;dsimp only[ak4];refine azo hb (ai c ti) ?_;exact⟨_,le_refl _,rfl,[],by rw[Zx]⟩
 |row hk=>
  have c:=dz3 hk n p hc (by omega);refine aza mixedT by2 (by simp[ak4]) ?_;dsimp only[ak4];refine go0 hb ?_;refine gc0 hb ?_;refine c.mono ?_;rintro v h' ⟨rfl,L,rfl⟩;refine go0 ti ?_;exact⟨_,le_refl _,rfl,L,rfl⟩
end
end AX
end
section
open Go.RowKit
namespace AX
theorem Sto.at_any{P:Program}{G:World->Prop}{f:FuncId}{args:List A}{s s':Sto}{v:A}(hc:∀l t,ACall P G f (.ptr 1 0::args) ⟨s.M::s.B::l,t⟩ fun v' h'=>v'=v/\h'=⟨s'.M::s'.B::l,t⟩)(ha:A.locL 0 args=true)(hv:v.loc 0=true)
  {h:Hp} {i k:Nat} (hik:i≠k) (hk:h.b[k]?=some s.M) (hi:h.b[i]?=some (s.Bk k)):
  ACall P G f (.ptr i 0::args) h fun v' h'=>v'=v/\h'=⟨(h.b.set k s'.M).set i (s'.Bk k),h.t⟩:=by
 have m0:∀s:Sto,s.M.loc 0:=fun s=>by
  show((strM s.es).all fun e=>e.2.loc 0)=true
  rw[ZC];intro e he;obtain⟨x,hx,rfl⟩:=Yb.1 he;rfl
 have ml:=fun s=>Blk.loc0 2 _ (m0 s)
 have key:=ACall.lift ((hc [] []).mono fun v' h' ⟨e1,e2⟩=>(⟨e1,by rw[e2];rfl,by rw[e2];rfl⟩:v'=v/\h'.b[0]?=some s'.M/\h'.b[1]?=some s'.B)) (fun j=>if j=0 then k else i) (fun a b ha hb e=>by
   simp only[Zf,Zp]at ha hb;have h1:a=0\/a=1:=by omega
   have h2:b=0\/b=1:=by omega
   rcases h1 with rfl|rfl<;>rcases h2 with rfl|rfl<;>simp at e⊢
   ·exact hik e.symm
   ·exact hik e) (by unfold A.locL;rw[(A.locL0 _ args ha).1];rfl)
  (fun x hx=>by
   rcases ZM.1 hx with rfl|hx
   ·exact(ml s).1
   ·rw[ZB.1 hx];rfl)
  (fun v' h' ⟨e,h0,h1⟩=>⟨by rw[e];exact(A.loc0 _ v hv).1,fun j x hj hx=>by
   have:j=0\/j=1:=by simp only[Zf,Zp]at hj;omega
   rcases this with rfl|rfl
   ·rw[h0]at hx;injection hx with hx;subst hx;exact(ml s').1
   ·rw[h1]at hx;injection hx with hx;subst hx;rfl⟩)
  (h:=h) (fun j hj=>by
   have:j=0\/j=1:=by simp only[Zf,Zp]at hj;omega
   rcases this with rfl|rfl
   ·show h.b[k]?=some (s.M.ren _);rw[(ml s).2];exact hk
   ·exact hi)
 have e0:A.renL (fun j=>if j=0 then k else i) (.ptr 1 0::args)=.ptr i 0::args:=by unfold A.renL;rw[(A.locL0 2 args ha).2];rfl
 rw[e0]at key;refine key.mono ?_;rintro v' h' ⟨v0,h0,⟨rfl,k0,k1⟩,rfl,rfl⟩;refine⟨(A.loc0 2 _ hv).2 _,?_⟩;have et:h0.b.take 2=[s'.M,s'.B]:=by
  rcases hb:h0.b with _|⟨x,_|⟨y,l⟩⟩
  ·rw[hb]at k0;cases k0
  ·rw[hb]at k1;cases k1
  ·rw[hb]at k0 k1;injection k0 with k0;injection k1 with k1;subst k0;subst k1;rfl
 show(⟨setAll _ h.b 0 (h0.b.take 2),h.t⟩:Hp)=_
 rw[et];show(⟨(h.b.set k (s'.M.ren _)).set i (s'.B.ren _),h.t⟩:Hp)=_
 rw[(ml s').2];rfl
namespace Sto
def lo(s:Sto):Int:=if 0>s.latest-63 then 0 else s.latest-63
end Sto
def ajl:AX.AFn:=⟨30,aS [aR 4 (.mv (.c (.nilp))),aR 5 (.mv (aI 0))] (.seq (aS [aM 9 0,aR 10 (.call 31 [.t 9]),aM 6 10] (aS [aM 11 6,aR 12 (.bin .neq (.t 11) (aI 0))] (.cond (.t 12) (aS [aM 13 6,aR 4 (.mv (.c (.nilp))),aM 5 13] (.ret)) (.skip)))) (.seq (aS [aM 14 1,aR 15 (.call 32 [.t 14]),aR 16 (.un .not (.t 15))] (.cond (.t 16) (aS [aR 4 (.mv (.c (.nilp))),aR 5 (.mv (aI 1))] (.ret)) (.skip))) (aS [aM 17 0,aM 18 1,aR 19 (.mkmap),aR 20 (.build [.str [],.str [],.int .i64 0,.nilm,.str [],.int .i64 0] [(0,1,.t 17),(1,1,.t 18),(3,1,.t 19)]),aR 21 (.box 75 (.t 20)),aM 7 21] (.seq (aS [aM 22 7,aM 23 1,aR 24 (.build [.str [],.int .i64 0,.sl 0 .nil [],.sl 0 .nil [],.sl 0 .nil []] [(0,1,.t 23)]),aR 25 (.call 33 [.t 22,.t 24]),aM 8 25] (aS [aM 26 8,aR 27 (.bin .neq (.t 26) (aI 0))] (.cond (.t 27) (aS [aM 28 8,aR 4 (.mv (.c (.nilp))),aM 5 28] (.ret)) (.skip)))) (aS [aM 29 7,aM 4 29,aR 5 (.mv (aI 0))] (.ret)))))),[.t 4,.t 5]⟩
theorem bvq:AX.compFn Tryz.prog 16=some ajl:=by kernel_rfl
def Sto.new(key lin:List UInt8):Sto:=⟨key,lin,0,[],0,[],0⟩
theorem byu(lin:List UInt8)(hl:lin.length<=900000):Sf.StIn ⟨lin,0,[],[],[]⟩:=⟨by dsimp only;omega,by simp,by simp,by simp,by simp,by simp,by simp⟩
theorem dqi(key lin:List UInt8)(hk:key.length<=1000000000)(hl:lin.length<=900000)(hE:(Sf.stE 2 ⟨lin,0,[],[],[]⟩).length+20<=1000000000)(hc:Seal.check key=0)(ht:Sto.txt lin=true)(hz:((Sto.new key lin).keep ⟨lin,0,[],[],[]⟩).2=0):
  AC 16 [.str key,.str lin] ⟨[],[]⟩ fun r h'=>r=.tup [.ptr 1 0,.int .i64 0]/\h'=⟨[((Sto.new key lin).keep ⟨lin,0,[],[],[]⟩).1.M,((Sto.new key lin).keep ⟨lin,0,[],[],[]⟩).1.B],[]⟩:=by
 refine aza mixedT bvq (by simp[ajl]) ?_;dsimp only[ajl];have hkp:=czf (Sto.new key lin) [] [] ⟨lin,0,[],[],[]⟩ (byu lin hl) hk hE;obtain⟨⟨s2,e⟩,hq⟩:=Ex ((Sto.new key lin).keep ⟨lin,0,[],[],[]⟩);rw[hq]at hkp hz⊢;dsimp only at hkp hz⊢;subst hz;have hkp':AC 33 [.ptr 1 0,.agg [.str lin,.int .i64 0,.sl 0 .nil [],.sl 0 .nil [],.sl 0 .nil []]] ⟨[(Sto.new key lin).M,(Sto.new key lin).B],[]⟩ (fun r h'=>r=.int .i64 0/\h'=⟨[s2.M,s2.B],[]⟩):=by
  refine ACall.args ?_ hkp;exact⟨rfl,⟨azd _,azd _,⟨rfl,.inr rfl,.inl rfl⟩,⟨rfl,.inr rfl,.inl rfl⟩,⟨rfl,.inr rfl,.inl rfl⟩,trivial⟩,trivial⟩
 have hM:(Sto.new key lin).M=.map [] 0:=rfl;have hB:(Sto.new key lin).B=.cells 75 [.str key,.str lin,.int .i64 0,.mp 0,.str [],.int .i64 0]:=rfl;rw[hM,hB]at hkp';have hc':=fun h=>akp key hk h
 rw[hc]at hc';have ht':=fun h=>bzn lin (by omega) h
 rw[ht]at ht';refine azb ti ?_;refine use (hc' _) ?_;refine azb ti ?_;refine use (ht' _) ?_;refine azb ti ?_;refine use hkp' ?_;refine azb ti ?_;exact⟨_,le_refl _,rfl,rfl⟩
namespace Sto
def newK(key lin:List UInt8):Sto×Int:=(Sto.new key lin).keep ⟨lin,0,[],[],[]⟩
def newE(key lin:List UInt8):Int:=if Seal.check key≠0 then Seal.check key else if txt lin=false then 1 else(newK key lin).2
def newH(key lin:List UInt8):List Blk:=if Seal.check key≠0 then[]else if txt lin=false then[]else[(newK key lin).1.M,(newK key lin).1.B]
end Sto
theorem cvg(key lin:List UInt8)(hk:key.length<=1000000000)(hl:lin.length<=900000)(hE:(Sf.stE 2 ⟨lin,0,[],[],[]⟩).length+20<=1000000000):
  AC 16 [.str key,.str lin] ⟨[],[]⟩ fun r h'=>r=.tup [if Sto.newE key lin=0 then .ptr 1 0 else .nilp,.int .i64 (Sto.newE key lin)]/\h'=⟨Sto.newH key lin,[]⟩:=by
 have hc':=fun h=>akp key hk h
 have ht':=fun h=>bzn lin (by omega) h
 have hE':Sto.newE key lin=if Seal.check key≠0 then Seal.check key else if Sto.txt lin=false then 1 else((Sto.new key lin).keep ⟨lin,0,[],[],[]⟩).2:=rfl
 have hH':Sto.newH key lin=if Seal.check key≠0 then[]else if Sto.txt lin=false then[]else[((Sto.new key lin).keep ⟨lin,0,[],[],[]⟩).1.M,((Sto.new key lin).keep ⟨lin,0,[],[],[]⟩).1.B]:=rfl
 by_cases z1:Seal.check key=0
 rotate_left
 ·rw[if_pos z1]at hE' hH';rw[hE',hH',if_neg z1];obtain⟨Z,hZ⟩:=Ex (Seal.check key);rw[hZ]at hc' z1⊢;have e1:(Z !=0)=true:=by simp[z1]
  refine aza mixedT bvq (by simp[ajl]) ?_;dsimp only[ajl];refine azb ti ?_;refine use (hc' _) ?_;refine azb e1 ?_;exact⟨_,le_refl _,rfl,rfl⟩
 rw[if_neg (by simp[z1])]at hE' hH';rw[z1]at hc';by_cases z2:Sto.txt lin=false
 ·rw[if_pos z2]at hE' hH';rw[hE',hH',if_neg (by decide)];rw[z2]at ht';refine aza mixedT bvq (by simp[ajl]) ?_;dsimp only[ajl];refine azb ti ?_;refine use (hc' _) ?_;refine azb ti ?_;refine use (ht' _) ?_;refine azb ti ?_;exact⟨_,le_refl _,rfl,rfl⟩
 rw[if_neg z2]at hE' hH';rw[hE',hH'];have z2':Sto.txt lin=true:=by cases h:Sto.txt lin<;>simp_all
 by_cases z3:((Sto.new key lin).keep ⟨lin,0,[],[],[]⟩).2=0
 ·rw[if_pos z3,z3];exact dqi key lin hk hl hE z1 z2' z3
 rw[if_neg z3];rw[z2']at ht';refine aza mixedT bvq (by simp[ajl]) ?_;dsimp only[ajl];have hkp:=czf (Sto.new key lin) [] [] ⟨lin,0,[],[],[]⟩ (byu lin hl) hk hE;obtain⟨⟨s2,e⟩,hq⟩:=Ex ((Sto.new key lin).keep ⟨lin,0,[],[],[]⟩);rw[hq]at hkp z3⊢;dsimp only at hkp z3⊢;have e1:(e !=0)=true:=by simp[z3]
 have hkp':AC 33 [.ptr 1 0,.agg [.str lin,.int .i64 0,.sl 0 .nil [],.sl 0 .nil [],.sl 0 .nil []]] ⟨[(Sto.new key lin).M,(Sto.new key lin).B],[]⟩ (fun r h'=>r=.int .i64 e/\h'=⟨[s2.M,s2.B],[]⟩):=by
  refine ACall.args ?_ hkp;exact⟨rfl,⟨azd _,azd _,⟨rfl,.inr rfl,.inl rfl⟩,⟨rfl,.inr rfl,.inl rfl⟩,⟨rfl,.inr rfl,.inl rfl⟩,trivial⟩,trivial⟩
 have hM:(Sto.new key lin).M=.map [] 0:=rfl;have hB:(Sto.new key lin).B=.cells 75 [.str key,.str lin,.int .i64 0,.mp 0,.str [],.int .i64 0]:=rfl;rw[hM,hB]at hkp';refine azb ti ?_;refine use (hc' _) ?_;refine azb ti ?_;refine use (ht' _) ?_;refine azb ti ?_;refine use hkp' ?_;refine azb e1 ?_;exact⟨_,le_refl _,rfl,rfl⟩
end AX
end
section
open Go.RowKit
namespace AX
section
variable {P:Program} {G:World->Prop}
end
theorem ACall.fresh{P:Program}{G:World->Prop}{f:FuncId}{args:List A}{Q:A->Hp->Prop}(hc:ACall P G f args ⟨[],[]⟩ Q)(hq:∀v h',Q v h'->v.loc h'.b.length=true/\∀b∈h'.b,b.loc h'.b.length\/b=.gone)(ha:args.all A.pure=true)(h:Hp):
  ACall P G f args h fun v h'=>∃v0 h0,Q v0 h0/\v=v0.ren (fun i=>h.b.length+i)/\h'=⟨h.b++h0.b.map (Blk.ren fun i=>h.b.length+i),h.t⟩:=by
 intro C cs hI hr;have hid:Inv G C.hid ⟨[],[]⟩:=by
  refine⟨rfl,fun i b hb=>by simp at hb,⟨fun i b hb=>by simp at hb,fun i j b b' hb=>by simp at hb⟩,fun g i hg=>by simp[Ctx.hid]at hg,fun g j hs=>?_,fun t E W m ht=>by simp[Ctx.hid]at ht,fun t t' ht=>by simp[Ctx.hid]at ht,fun t=>by simp[Ctx.hid],hI.base,hI.glob⟩;exact⟨(hI.prot g j hs).1,rfl,fun t E W m ht=>by simp[Ctx.hid]at ht⟩
 refine(hc C.hid cs hid (RepL.pures (C:=C) (C':=C.hid) ⟨fun g j hs=>⟨hs,rfl⟩⟩ args cs ha hr)).mono ?_;rintro e w' ⟨C1,h1,v,cv,rfl,rfl,I1,S1,r1,q1⟩;obtain⟨qv,qb⟩:=hq v h1 q1;rw[I1.nb]at qv qb;have hblk:∀g,g<C.w.heap.size->C1.w.heap[g]?=C.w.heap[g]?:=fun g hg=>S1.frame g hg rfl fun t ht=>by simp[Ctx.hid]at ht
 have hno:∀g,g<C.w.heap.size->C1.own g=none:=fun g hg=>S1.own g hg
 have hsz:C.w.heap.size<=C1.w.heap.size:=S1.size;have hprot:∀g j,C1.S g j->C.S g j\/C.w.heap.size<=g:=fun g j hs=>by
  rcases S1.prot g j hs with h2|h2|⟨t,h2,_⟩
  ·exact .inl h2
  ·exact .inr h2
  ·simp[Ctx.hid]at h2
 let C2:Ctx:={ C with w:=C1.w,S:=C1.S,κ:=fun i=>if i<C.nb then C.κ i else C1.κ (i-C.nb),nb:=C.nb+C1.nb,own:=fun g=>if g<C.w.heap.size then C.own g else(C1.own g).map (·+C.nb),kap:=fun i=>if i<C.nb then C.kap i else C1.kap (i-C.nb),lab:=fun i=>if i<C.nb then C.lab i else C1.lab (i-C.nb)+C.nb }
 have k2:∀i,C2.κ (C.nb+i)=C1.κ i/\C2.kap (C.nb+i)=C1.kap i/\C2.lab (C.nb+i)=C1.lab i+C.nb:=fun i=>by
  have h0:¬C.nb+i<C.nb:=by omega
  have h3:C.nb+i-C.nb=i:=by omega
  refine⟨?_,?_,?_⟩
  ·show(if C.nb+i<C.nb then _ else C1.κ (C.nb+i-C.nb))=_
   rw[if_neg h0,h3]
  ·show(if C.nb+i<C.nb then _ else C1.kap (C.nb+i-C.nb))=_
   rw[if_neg h0,h3]
  ·show(if C.nb+i<C.nb then _ else C1.lab (C.nb+i-C.nb)+C.nb)=_
   rw[if_neg h0,h3]
 have k1:∀i,i<C.nb->C2.κ i=C.κ i/\C2.kap i=C.kap i/\C2.lab i=C.lab i:=fun i hi=>⟨if_pos hi,if_pos hi,if_pos hi⟩
 have o1:∀g,g<C.w.heap.size->C2.own g=C.own g:=fun g hg=>if_pos hg
 have o2:∀g l,C2.own g=some (l+C.nb)↔C1.own g=some l:=fun g l=>by
  by_cases hg:g<C.w.heap.size
  ·rw[o1 g hg,hno g hg];exact⟨fun e=>by have:=(hI.ownlt g _ e).1;omega,fun e=>by cases e⟩
  ·show(if g<C.w.heap.size then C.own g else(C1.own g).map (·+C.nb))=_↔_
   rw[if_neg hg];cases C1.own g with
   |none=>simp
   |some l'=>simp
 have o3:∀g l,l<C.nb->(C2.own g=some l↔C.own g=some l):=fun g l hl=>by
  by_cases hg:g<C.w.heap.size
  ·rw[o1 g hg]
  ·show(if g<C.w.heap.size then C.own g else(C1.own g).map (·+C.nb))=_↔_
   rw[if_neg hg];constructor
   ·intro e;cases e2:C1.own g with
    |none=>rw[e2]at e;cases e
    |some l'=>rw[e2]at e;simp at e;omega
   ·intro e;exact absurd (hI.ownlt g l e).2.1 hg
 have hE:Ext C C2:=by
  refine⟨fun g j hs=>S1.ext.cells g j hs,Nat.le_add_right _ _,k1,fun t E W m ht=>?_⟩;obtain⟨h0,_,cap,h2,_⟩:=hI.rows t E W m ht;exact⟨m,ht,.inr ⟨rfl,rfl,fun cap hc=>hc.same (hblk _ h2.lt)⟩⟩
 have hlen:=hI.nb
 have rN:Ren C1 C2 (fun i=>h.b.length+i) C1.nb:=⟨fun g j hs=>⟨hs,rfl⟩,fun j hj=>by
  rw[hlen]
  exact⟨Nat.add_lt_add_left hj _,(k2 j).1,(k2 j).2.1⟩⟩
 have hsp:∀(i:Nat) (b:Blk),(h.b++h1.b.map (Blk.ren fun i=>h.b.length+i))[i]?=some b->(i<C.nb/\h.b[i]?=some b)\/∃j b1,i=C.nb+j/\j<C1.nb/\h1.b[j]?=some b1/\b=b1.ren fun i=>h.b.length+i:=fun i b hib=>by
  rw[YK]at hib;split at hib
  ·next hi=>exact .inl ⟨by rw[<-hlen];exact hi,hib⟩
  ·next hi=>
   rw[List.getElem?_map,Zq]at hib;obtain⟨b1,hb1,rfl⟩:=hib;exact .inr ⟨i-h.b.length,b1,by omega,by rw[<-I1.nb];exact(Zc.1 hb1).1,hb1,rfl⟩
 have hlive:∀(b1:Blk) (σ:Nat->Nat),(b1.ren σ).live=b1.live:=fun b1 σ=>by cases b1<;>rfl
 refine⟨C2,⟨h.b++h1.b.map (Blk.ren fun i=>h.b.length+i),h.t⟩,v.ren fun i=>h.b.length+i,cv,rfl,rfl,⟨?_,fun i b hib=>?_,⟨fun i b hib hl=>?_,fun i j b b' hib hjb hl hl' e=>?_⟩,fun g l hg=>?_,fun g j hs=>?_,fun t E W m ht=>?_,hI.inj,hI.toks,Zr hI.base hsz,fun w2 hw=>?_⟩,⟨hE,S1.os,S1.tape,S1.output,hsz,rfl,fun g hg _ _=>hblk g hg,o1,fun g j hs=>?_,fun t ht=> .inr ⟨ht,rfl⟩⟩,Rep.ren rN v cv qv r1,v,h1,q1,rfl,rfl⟩
 ·rw[Za,Zl,hlen,I1.nb]
 ·rcases hsp i b hib with⟨hi,hb⟩|⟨j,b1,rfl,hj,hb1,rfl⟩
  ·exact(hI.box i b hb).ext hE hi (fun hl=>⟨hI.ok hb hl,fun g hg=>hblk g (hI.ownlt g _ hg).2.1,fun g=>o3 g _ (hI.lablt hb hl)⟩) hsz
  ·have hB:=I1.box j b1 hb1;rcases qb b1 (List.mem_of_getElem? hb1)with hl|rfl
   ·cases b1 with
    |cells T l=>
     obtain⟨cs,m1,m2⟩:=hB;exact⟨cs,by rw[(k2 j).1];exact m1,RepL.ren rN l cs hl m2⟩
    |opq R vis=>
     have e:(fun g=>C2.own g=some (C2.lab (C.nb+j)))=fun g=>C1.own g=some (C1.lab j):=by rw[(k2 j).2.2];exact funext fun g=>propext (o2 g _)
     refine⟨fun w' hw hs=>?_,fun o x hx=>?_⟩
     ·rw[e,(k2 j).1];exact hB.1 w' (fun g hg=>hw g (by rw[(k2 j).2.2];exact(o2 g _).2 hg)) hs
     ·obtain⟨u,m1,m2⟩:=hB.2 o x hx;exact⟨u,by rw[(k2 j).1];exact m1,Rep.same (C:=C1) (C':=C2) ⟨fun g j hs=>⟨hs,rfl⟩⟩ x u (hl o x hx) m2⟩
    |row T l=>
     obtain⟨cs,rest,m1,m2,m3⟩:=hB;exact⟨cs,rest,by rw[(k2 j).1];exact m1,RepL.ren rN l cs hl m2,by rw[(k2 j).2.1];exact m3⟩
    |map l c=>
     obtain⟨es,m1,m2,m3⟩:=hB;exact⟨es,by rw[(k2 j).1];exact m1,RepEs.ren rN hl m2,m3⟩
    |gone=>trivial
   ·trivial
 ·rcases hsp i b hib with⟨hi,hb⟩|⟨j,b1,rfl,hj,hb1,rfl⟩
  ·rw[(k1 i hi).1,(k1 i hi).2.2];exact(o3 _ _ (hI.lablt hb hl)).2 (hI.ok hb hl)
  ·rw[(k2 j).1,(k2 j).2.2];exact(o2 _ _).2 (I1.ok hb1 (by rw[<-hlive b1];exact hl))
 ·rcases hsp i b hib with⟨hi,hb⟩|⟨m,b1,rfl,hm,hb1,rfl⟩
  ·rw[(k1 i hi).2.2]at e;have l1:=hI.lablt hb hl;rcases hsp j b' hjb with⟨hj,hb'⟩|⟨n,b2,rfl,hn,hb2,rfl⟩
   ·rw[(k1 j hj).2.2]at e;exact hI.ownk.2 i j b b' hb hb' hl hl' e
   ·rw[(k2 n).2.2]at e;omega
  ·rw[(k2 m).2.2]at e;rcases hsp j b' hjb with⟨hj,hb'⟩|⟨n,b2,rfl,hn,hb2,rfl⟩
   ·rw[(k1 j hj).2.2]at e;have l1:=hI.lablt hb' hl';omega
   ·rw[(k2 n).2.2]at e;rw[I1.ownk.2 m n b1 b2 hb1 hb2 (by rw[<-hlive b1];exact hl) (by rw[<-hlive b2];exact hl') (by omega)]
 ·by_cases hg':g<C.w.heap.size
  ·rw[o1 g hg']at hg;obtain⟨m1,m2,m3⟩:=hI.ownlt g l hg;exact⟨Zw m1 (Nat.le_add_right _ _),Zw m2 hsz,m3⟩
  ·have hg2:(if g<C.w.heap.size then C.own g else(C1.own g).map (·+C.nb))=some l:=hg;rw[if_neg hg']at hg2;cases e:C1.own g with
   |none=>rw[e]at hg2;cases hg2
   |some l'=>
    rw[e]at hg2;simp at hg2;obtain⟨m1,m2,m3⟩:=I1.ownlt g l' e;exact⟨by show l<C.nb+C1.nb;omega,m2,by rw[S1.base]at m3;exact m3⟩
 ·have hlt:=(I1.prot g j hs).1;have hn1:=(I1.prot g j hs).2.1;rcases hprot g j hs with h2|h2
  ·obtain⟨m1,m2,m3⟩:=hI.prot g j h2;exact⟨hlt,by rw[o1 g m1];exact m2,m3⟩
  ·refine⟨hlt,by show(if g<C.w.heap.size then C.own g else(C1.own g).map (·+C.nb))=none;rw[if_neg (by omega),hn1];rfl,fun t E W m ht e=>?_⟩;obtain⟨_,_,cap,m1,_⟩:=hI.rows t E W m ht;have:=m1.lt;have e':C.τ t=g:=e;omega
 ·obtain⟨m1,m2,cap,m3,m4⟩:=hI.rows t E W m ht;exact⟨(o1 _ m3.lt).trans m1,m2,cap,m3.same (hblk _ m3.lt),m4⟩
 ·exact hI.glob w2 fun g hg=>(hw g hg).trans (hblk g (Zw hg hI.base))
 ·rcases hprot g j hs with h2|h2
  ·exact .inl h2
  ·exact .inr (.inl h2)
end AX
end
section
open Go.RowKit
section
variable {P:Program}
theorem aqi(w:World)(dT sT ty elem:TypeId)(it:TypeInfo)(g o dLen dCap:Nat)(a:Addr)(sLen sCap:Nat)(cur:Array Value)(t:TypeId)(cs:List Value)
  (hu:P.underlying dT=some (.slice elem)) (hs:P.info? elem=some it) (hg:w.heap[g]?=some (.cells cur t (0,0))) (hn:cs.length=Nat.min sLen dLen*it.size)
  (hsrc:∀j v,cs[j]?=some v->w.cell? (a.add j)=some v) (hfit:o+cs.length<=cur.size) (h1:∀v∈cs,v.oneCell'=true):
  (Builtin.copy_ #[dT,sT] ty #[.slice (some ⟨g,o,none⟩) dLen dCap,.slice (some a) sLen sCap]).run P w =
   .ok (goInt (Nat.min sLen dLen)) (w.setRow g (cur.toList.take o++cs++cur.toList.drop (o+cs.length)).toArray):=by
 have hl:=run_loadCells_list (P:=P) w a cs hsrc;have hst:=run_storeCells_at P g o t cs 0 cur w hg (by simpa using hfit) h1;simp only[Yl]at hst;simp[Builtin.copy_,run_underlying hu,Builtin.lenOf,Builtin.firstCells,sizeOf,typeInfo,hs,<-hn,hl,hst]
theorem bvu(w:World){o:Oper}{a:Act}{K:Act->World->Prop}{Q:Exit->Act->World->Prop}(d s:Operand)(t t':TypeId)
  (ho:o.op=.call { callee:=.builtin .copy,args:=#[d,s],argTypes:=#[t,t'] }) (v u:Value) (hd:a.eval d=v) (hs:a.eval s=u) {v':Value} {w':World}
  (hr:(Builtin.copy_ #[t,t'] o.type #[v,u]).run P w=.ok v' w') (h:K (a.put o.dst v') w'):o.wp P a w K Q:=by
 unfold Oper.wp execOp;simp only[ho,resolve,invoke,builtin,Sem.run_bind,Sem.run_pure,Result.andThen_ok,List.map_toArray,ZO,Yg,hd,hs,hr];exact h
theorem axc(w:World){ops:Array Oper}{rest:List Oper}{o:Oper}{a:Act}{Q:Exit->Act->World->Prop}(hgd:o.guard=none)(d s:Operand)(t t':TypeId)
  (ho:o.op=.call { callee:=.builtin .copy,args:=#[d,s],argTypes:=#[t,t'] }) (v u:Value) (hd:a.eval d=v) (hs:a.eval s=u) {v':Value} {w':World}
  (hr:(Builtin.copy_ #[t,t'] o.type #[v,u]).run P w=.ok v' w') (h:wpList P ops Q rest (a.put o.dst v') w'):wpList P ops Q (o::rest) a w:=
 wpList_plain hgd fun _ hK=>bvu w d s t t' ho v u hd hs hr (hK _ _ h)
theorem bqz{ops:Array Oper}{o:Oper}{a:Act}{w:World}{K:Act->World->Prop}{Q:Exit->Act->World->Prop}{E:Prop}
  (hg:o.guard=none) (s x:Operand) (t t':TypeId) (hop:o.op=Op.call { callee:=Callee.builtin Builtin.append,args:=#[s,x],argTypes:=#[t,t'] })
  (v u:Value) (hs:a.eval s=v) (hx:a.eval x=u) {v':Value} {w':World} (hr:(Builtin.append_ #[t,t'] o.type #[v,u]).run P w=.ok v' w') (hK:K (a.put o.dst v') w'):
  if Region.wanted o (yielded ops a.tmps)=true then Oper.wp P o a w K Q else E:=by
 have hw:Region.wanted o (yielded ops a.tmps)=true:=by simp[Region.wanted,hg]
 rw[if_pos hw];unfold Oper.wp execOp;simp only[hop,resolve,invoke,builtin,Sem.run_bind,Sem.run_pure,Result.andThen_ok,List.map_toArray,ZO,Yg,hs,hx,hr];exact hK
theorem aww{ops:Array Oper}{o:Oper}{a:Act}{w:World}{K:Act->World->Prop}{Q:Exit->Act->World->Prop}{E:Prop}
  (hg:o.guard=none) (d x:Operand) (dT sT:TypeId) (hop:o.op=Op.call { callee:=Callee.builtin Builtin.copy,args:=#[d,x],argTypes:=#[dT,sT] })
  (v u:Value) (hd:a.eval d=v) (hx:a.eval x=u) {v':Value} {w':World} (hr:(Builtin.copy_ #[dT,sT] o.type #[v,u]).run P w=.ok v' w') (hK:K (a.put o.dst v') w'):
  if Region.wanted o (yielded ops a.tmps)=true then Oper.wp P o a w K Q else E:=by
 have hw:Region.wanted o (yielded ops a.tmps)=true:=by simp[Region.wanted,hg]
 rw[if_pos hw];exact bvu w d x dT sT hop v u hd hx hr hK
theorem bqe{B g:Nat}{w0 w:World}(hb:Below B w0 w)(hBg:B<=g)(cs:Array Value):Below B w0 (w.setRow g cs):=
 hb.trans ⟨rfl,rfl,rfl,by simp[World.setRow],fun k hk=>setRow_other w g k cs (by omega)⟩
theorem awd(w:World)(t e ty:TypeId)(z:Value)(g o n c k:Nat)(cur:Array Value)(T:TypeId)(ht:P.underlying t=some (.slice e))(hv:∀w,(zeroValue e).run P w=.ok z w)(hk:z.cells.size=k)(h1:∀v∈z.cells.toList,v.oneCell'=true)
  (hg:w.heap[g]?=some (.cells cur T (0,0))) (hfit:o+n*k<=cur.size) (hn:0<n):
  (Builtin.clear_ #[t] ty #[.slice (some ⟨g,o,none⟩) n c]).run P w=.ok (.tuple #[]) (w.setRow g (cur.toList.take o++(Builtin.zeroCells z.cells n).toList++cur.toList.drop (o+(Builtin.zeroCells z.cells n).toList.length)).toArray):=by
 have hz1:∀v∈(Builtin.zeroCells z.cells n).toList,v.oneCell'=true:=by
  intro v hv;simp only[Builtin.zeroCells,Array.toList_map,Yb]at hv;obtain⟨i,hi,rfl⟩:=hv
  have hlt:i%z.cells.size<z.cells.size:=Nat.mod_lt _ (by
   rcases Nat.eq_zero_or_pos z.cells.size with h0|h0
   ·rw[h0]at hi;simp at hi
   ·exact h0)
  rw[getElem!_pos z.cells _ hlt];exact h1 _ (by simp)
 have hzl:(Builtin.zeroCells z.cells n).toList.length=n*k:=by rw[ZG,size_zeroCells,hk]
 have hst:=run_storeCells_at P g o T (Builtin.zeroCells z.cells n).toList 0 cur w hg (by rw[hzl];simpa using hfit) hz1;simp only[Yl]at hst;obtain⟨m,rfl⟩:∃m,n=m+1:=⟨n-1,by omega⟩;simp[Builtin.clear_,run_underlying ht,hv,hst]
theorem ay8(w:World)(tS tR e:TypeId)(ht:P.underlying tS=some (.slice e))(size:Nat)(hz:∀w,(Go.sizeOf e).run P w=.ok size w)
  (a b:Addr) (la ca lb cb:Nat) (hne:a.block≠b.block) {curA curB:Array Value} {tA tB:TypeId} {fr:Nat×Nat} (ha:w.heap[a.block]?=some (.cells curA tA fr)) (hA:curA.size≠0) (hb:w.heap[b.block]?=some (.cells curB tB (0,0))):
  (Extern.SlicesOverlaps.overlaps #[tS,tS] #[tR] #[.slice (some a) la ca,.slice (some b) lb cb]).run P w=.ok (.bool false) w:=by
 have hnb:(a.block !=b.block)=true:=by simpa using hne
 have hnb':(a.block==b.block)=false:=by simpa using hne
 have hsa:w.shape? a.block=some (tA,curA.size):=by simp[World.shape?,ha]
 have hsb:w.shape? b.block=some (tB,curB.size):=by simp[World.shape?,hb]
 have hfb:∀o s,w.frozen? ⟨b.block,o,s⟩=false:=fun o s=>by simp[World.frozen?,hb]
 have hfb':w.frozen? b=false:=hfb b.off b.spot
 change Sem.run P (α:=Value) (do
  let some t := (#[tS, tS] : Array TypeId)[0]? | stuck "slices.overlaps: no parameter types"
  let .slice elem ← underlying t | stuck "slices.overlaps: slice type expected"
  let size <-sizeOf elem
  match (some a:Option Addr),(some b:Option Addr)with
  |some a,some b=>
   if la=0\/lb=0\/size=0 then pure (Value.bool false)
   else if a.block !=b.block&&(<-frozen a)&&(<-frozen b)then unsupported .addressObserved
   else do
    if a.block !=b.block then do
     noView a;noView b
     if ← mayBeOne a b then return Value.bool ((← choose (.extern "sameAddr.stringBytes" 2)) == 1)
    pure (Value.bool (a.block==b.block&&a.off<b.off+lb*size&&b.off<a.off+la*size))
  |_,_=>pure (Value.bool false)) w=_
 by_cases h0:la=0\/lb=0\/size=0
 ·simp[run_underlying ht,hz,h0]
 ·obtain⟨kA,hkA⟩:∃kA,curA.size=kA+1:=⟨curA.size-1,by omega⟩;rw[hkA]at hsa;cases hfa:w.frozen? a<;>cases hfe:w.frozen? { block:=a.block,off:=kA+1 }<;>
   simp[run_underlying ht,hz,h0,hnb,hnb',frozen,noView,viewAt,mayBeOne,stringish,shape,Sem.run,hsa,hsb,hfa,hfe,hfb,hfb']
end
end
section
open Go.RowKit
namespace AX
section
variable {P:Program} {G:World->Prop} {C:Ctx} {h:Hp}
theorem bvh{i W n' cap:Nat}{T:TypeId}{l l':List A}{w':World}{cs rest:List Value}(hI:Inv G C h)(hb:h.b[i]?=some (.row T l))(hh:w'.heap[C.κ i]?=some (.cells (cs++rest).toArray T (0,0)))(hlen:(cs++rest).length=C.kap i)
  (hg:C.w.grownBy w' (some (C.κ i))) (hl:RepL C l' cs) (hcap:n'<=cap) (hcm:cap<=maxLen) (hk:cap*W<=C.kap i):
  ∃C':Ctx,C'.w=w'/\Inv G C' ⟨h.b.set i .gone++[.row T l'],h.t⟩/\Step C C'/\Rep C' (.bs h.b.length W n') (.slice (some ⟨C.κ i,0,none⟩) n' cap):=by
 have hown:=hI.ok hb rfl;obtain⟨i1,s1⟩:=aqe (w':=w') (b':=.row T l') false hI hb rfl hg.os hg.tape hg.output hg.size (fun g' h1 hne=>hg.block g' h1 fun e=>hne (by injection e with e;rw[e];exact hown))
  (fun hS=>⟨cs,rest,hh,RepL.ext hS.ext _ _ hl,hlen⟩)
 have hb2:(⟨h.b.set i (.row T l'),h.t⟩:Hp).b[i]?=some (.row T l'):=by
  show(h.b.set i _)[i]?=_
  rw[Yw (Zc.1 hb).1]
 obtain⟨C2,n1,n2,n3,n4,n5,n6⟩:=bjx i1 hb2;have hll:(⟨h.b.set i (.row T l'),h.t⟩:Hp).b.length=h.b.length:=Zv;rw[hll]at n4 n5 n6;have hss:(h.b.set i (.row T l')).set i .gone=h.b.set i .gone:=List.set_set ..;simp only[hss]at n2;exact⟨C2,n1,n2,s1.trans n3,rep_bs.2 ⟨cap,by rw[n4];rfl,hcap,n6,hcm,by rw[n5];exact hk⟩⟩
theorem bvt{i W n' cap:Nat}{T:TypeId}{l':List A}{b0:Blk}{w':World}{cs rest:List Value}(hI:Inv G C h)(hb:h.b[i]?=some b0)(hh:w'.heap[C.w.heap.size]?=some (.cells (cs++rest).toArray T (0,0)))(hlen:(cs++rest).length=cap*W)
  (hg:Below C.w.heap.size C.w w') (hl:RepL C l' cs) (hcap:n'<=cap) (hcm:cap<=maxLen):
  ∃C':Ctx,C'.w=w'/\Inv G C' ⟨h.b.set i .gone++[.row T l'],h.t⟩/\Step C C'/\Rep C' (.bs h.b.length W n') (.slice (some ⟨C.w.heap.size,0,none⟩) n' cap):=by
 obtain⟨C',m1,m2,m3,m4,m5,m6⟩:=axh hI hg (Ze _) hh hl;have hi:i<h.b.length:=(Zc.1 hb).1;have m2':=bj0 (i:=i) (b:=b0) m2 (by show(h.b++_)[i]?=_;rw[Zt hi];exact hb);rw[show(⟨h.b++[Blk.row T l'],h.t⟩:Hp).b.set i .gone=h.b.set i .gone++[.row T l']from List.set_append_left _ _ hi]at m2';exact⟨C',m1,m2',m3,rep_bs.2 ⟨cap,by rw[m4],hcap,m5,hcm,by rw[m6,hlen];exact Ze _⟩⟩
theorem ck7{W n' cap:Nat}{T:TypeId}{l':List A}{w':World}{cs rest:List Value}(hI:Inv G C h)(hh:w'.heap[C.w.heap.size]?=some (.cells (cs++rest).toArray T (0,0)))(hlen:(cs++rest).length=cap*W)
  (hg:Below C.w.heap.size C.w w') (hl:RepL C l' cs) (hcap:n'<=cap) (hcm:cap<=maxLen):
  ∃C':Ctx,C'.w=w'/\Inv G C' ⟨h.b++[.row T l'],h.t⟩/\Step C C'/\Rep C' (.bs h.b.length W n') (.slice (some ⟨C.w.heap.size,0,none⟩) n' cap):=by
 obtain⟨C',m1,m2,m3,m4,m5,m6⟩:=axh hI hg (Ze _) hh hl;exact⟨C',m1,m2,m3,rep_bs.2 ⟨cap,by rw[m4],hcap,m5,hcm,by rw[m6,hlen];exact Ze _⟩⟩
theorem bko{w:World}{g o:Nat}{v:Value}(hc:w.cell? ⟨g,o,none⟩=some v):∃c T fr,w.heap[g]?=some (.cells c T fr)/\c.size≠0:=by
 unfold World.cell? at hc;split at hc
 ·next c T fr hh=>
  refine⟨c,T,fr,hh,?_⟩;simp only[Y6,Zo,if_false]at hc;have:=(ZJ.1 hc).1;omega
 ·cases hc
theorem bk2{E:TypeId}{W i g off cap:Nat}{v:A}{l2:List A}{b:Blk}(hI:Inv G C h)(hW:0<W)(hr:Rep C v (.slice (some ⟨g,off,none⟩) 1 cap))(hs:rowC h E W v=some (1,l2))(hb:h.b[i]?=some b)(hl:b.live=true)(hne:∀n,v≠.bs i W n):g≠C.κ i:=by
 intro e;have hown:=hI.ok hb hl;rw[<-e]at hown;cases v with
 |sl W' o ys=>
  simp only[rowC]at hs;split at hs
  ·next e2=>
   subst e2;simp only[Zb,Zn]at hs;obtain⟨h1,rfl⟩:=hs;obtain⟨a,cap',e1,_,hrows,_⟩:=rep_sl.1 hr;injection e1 with e1 _ _;obtain⟨g',off',e3,hlen,hat⟩:=aqp hrows 0 (by omega);rw[<-e1]at e3;injection e3 with e3;injection e3 with e3 e4;subst e3;cases hy:ys[0]with
   |nil=>rw[hy]at hlen;simp at hlen;omega
   |cons x r=>
    rw[hy,RepAt]at hat;have:=(hI.prot _ _ hat.1.1).2.1;rw[hown]at this;cases this
  ·cases hs
 |bs j W' m=>
  obtain⟨cap',e1,_,hj,_⟩:=rep_bs.1 hr;simp only[rowC]at hs;split at hs
  ·next e2=>
   subst e2;split at hs
   ·next E' l hb'=>
    injection e1 with e1 _ _;injection e1 with e1;injection e1 with e1 _;have h2:=hI.ok hb' rfl;rw[<-e1,hown]at h2;injection h2 with h2;by_cases hij:i=j
    ·subst hij;exact hne _ rfl
    ·exact hI.labne hb hb' hl rfl hij h2
   ·cases hs
  ·cases hs
 |_=>simp[rowC]at hs
end
end AX
end
end Go.Proofs.YtnffmgmidghfhaaGreatDoor
