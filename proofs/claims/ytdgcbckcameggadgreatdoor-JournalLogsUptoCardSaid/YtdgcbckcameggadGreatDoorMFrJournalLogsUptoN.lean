/- Part of what the proof needs. -/
import Derived.Test.YtdgcbckcameggadGreatDoorMFrJournalLogsUpto0
import Derived.Test.YtdgcbckcameggadGreatDoorMFrJournalLogsUptoD
import Derived.Test.YtdgcbckcameggadGreatDoorMFrJournalLogsUptoG
import Derived.Test.YtdgcbckcameggadGreatDoorMFrJournalLogsUptoJ
import Derived.Test.YtdgcbckcameggadGreatDoorMFrJournalLogsUptoK
import Derived.Test.YtdgcbckcameggadGreatDoorMFrJournalLogsUptoL
import Derived.Test.YtdgcbckcameggadGreatDoorMFrJournalLogsUptoM
set_option maxHeartbeats 4000000
set_option linter.unusedSimpArgs false
set_option linter.unusedVariables false
set_option linter.unnecessarySimpa false
namespace Go.Proofs.YtdgcbckcameggadGreatDoor
open Go.RowKit
namespace Sf
theorem strS_len(s:Rs):(strS s).2.length≤s.r.rest.length:=by
 unfold strS Wire.strR;dsimp only;split
 ·exact Zy _
 ·dsimp only;rw[ZT];have:=Wire.cntR_rest s.r 1;omega
theorem words_in(N:Nat):∀(c:Nat) (s:Rs) (l:List (List UInt8)),s.r.rest.length≤N→(∀ x∈l,x.length≤N)→(∀ x∈(wordsS c s l).2,x.length≤N)∧(wordsS c s l).2.length=l.length+c
 |0,s,l,hs,hl=>⟨hl,rfl⟩
 |c+1,s,l,hs,hl=>by
  unfold wordsS
  obtain⟨h1,h2⟩:=words_in N c (strS s).1 (l++[(strS s).2]) (Zn (strS_le s) hs) (fun x hx=>by
   rcases YQ.1 hx with hx|hx
   ·exact hl x hx
   ·rw[YR.1 hx];exact Zn (strS_len s) hs)
  refine⟨h1,?_⟩;rw[h2,Za,Y3];omega
theorem value_lens(s:Rs)(hs:s.r.rest.length≤100000000):(valueS s).2.lens:=AX.ajo s.r hs
theorem inst_in(ver:Int)(s:Rs)(hs:s.r.rest.length≤2000000):AX.Sf.InstIn (instS ver s).2:=by
 have e1:=strS_le s;have e2:=strS_le (strS s).1;have e3:=strS_le (strS (strS s).1).1;have e4:=strS_le (strS (strS (strS s).1).1).1;have e5:=valueS_le (strS (strS (strS (strS s).1).1).1).1;have e6:=numS_le (valueS (strS (strS (strS (strS s).1).1).1).1).1;have e7:=flagS_le (numS (valueS (strS (strS (strS (strS s).1).1).1).1).1).1;have l1:=strS_len s;have l2:=strS_len (strS s).1;have l3:=strS_len (strS (strS s).1).1;have v:=value_lens (strS (strS (strS (strS s).1).1).1).1 (by omega);unfold instS;dsimp only;generalize hF:(if ver=2 then flagS (flagS (numS (valueS (strS (strS (strS (strS s).1).1).1).1).1).1).1 else((flagS (numS (valueS (strS (strS (strS (strS s).1).1).1).1).1).1).1,false))=F;have e8:F.1.r.rest.length≤2000000:=by
  rw[←hF];split
  ·have:=flagS_le (flagS (numS (valueS (strS (strS (strS (strS s).1).1).1).1).1).1).1;omega
  ·dsimp only;omega
 have e9:=cntS_le F.1;have e10:=cntS_cnt F.1;obtain⟨w1,w2⟩:=words_in 2000000 (cntS F.1).2 (cntS F.1).1 [] (by omega) (by simp);refine⟨by dsimp only;omega,by dsimp only;omega,by dsimp only;omega,v,?_,w1⟩;show(wordsS (cntS F.1).2 (cntS F.1).1 []).2.length≤1000000000
 rw[w2,ZA];omega
theorem insts_in(ver:Int):∀(c:Nat) (s:Rs) (l:List Inst),s.r.rest.length≤2000000→(∀ x∈l,AX.Sf.InstIn x)→(∀ x∈(instsS ver c s l).2.1,AX.Sf.InstIn x)∧(instsS ver c s l).2.1.length≤l.length+c∧(instsS ver c s l).1.r.rest.length≤s.r.rest.length
 |0,s,l,hs,hl=>⟨hl,Zf _,Zf _⟩
 |c+1,s,l,hs,hl=>by
  unfold instsS;split
  ·exact⟨hl,by dsimp only;omega,Zf _⟩
  ·have h0:=instS_le ver s
   obtain⟨h1,h2,h3⟩:=insts_in ver c (instS ver s).1 (l++[(instS ver s).2]) (by omega) (fun x hx=>by
    rcases YQ.1 hx with hx|hx
    ·exact hl x hx
    ·rw[YR.1 hx];exact inst_in ver s hs)
   refine⟨h1,?_,Zn h3 h0⟩;rw[Za,Y3]at h2;omega
theorem pendS_le(s:Rs):(pendS s).1.r.rest.length≤s.r.rest.length:=Zn (strS_le _) (Zn (strS_le _) (strS_le _))
theorem pends_in:∀(c:Nat) (s:Rs) (l:List Pend),s.r.rest.length≤2000000→(∀ x∈l,x.addr.length≤2000000∧x.tok.length≤2000000)→(∀ x∈(pendsS c s l).2,x.addr.length≤2000000∧x.tok.length≤2000000)∧(pendsS c s l).2.length=l.length+c∧(pendsS c s l).1.r.rest.length≤s.r.rest.length
 |0,s,l,hs,hl=>⟨hl,rfl,Zf _⟩
 |c+1,s,l,hs,hl=>by
  unfold pendsS;have h0:=pendS_le s;have k1:=strS_len s;have k2:=strS_len (strS (strS s).1).1;have k3:=strS_le s;have k4:=strS_le (strS s).1
  obtain⟨h1,h2,h3⟩:=pends_in c (pendS s).1 (l++[(pendS s).2]) (by omega) (fun x hx=>by
   rcases YQ.1 hx with hx|hx
   ·exact hl x hx
   ·rw[YR.1 hx];unfold pendS;dsimp only
    exact⟨by omega,by omega⟩)
  refine⟨h1,?_,Zn h3 h0⟩;rw[h2,Za,Y3];omega
theorem outS_le(s:Rs):(outS s).1.r.rest.length≤s.r.rest.length:=Zn (flagS_le _) (Zn (valueS_le _) (strS_le _))
theorem outs_in:∀(c:Nat) (s:Rs) (l:List Outp),s.r.rest.length≤2000000→(∀ x∈l,x.name.length≤2000000∧x.value.lens)→(∀ x∈(outsS c s l).2.1,x.name.length≤2000000∧x.value.lens)∧(outsS c s l).2.1.length≤l.length+c
 |0,s,l,hs,hl=>⟨hl,Zf _⟩
 |c+1,s,l,hs,hl=>by
  unfold outsS;split
  ·exact⟨hl,by dsimp only;omega⟩
  ·have h0:=outS_le s;have k1:=strS_len s;have k3:=strS_le s
   obtain⟨h1,h2⟩:=outs_in c (outS s).1 (l++[(outS s).2]) (by omega) (fun x hx=>by
    rcases YQ.1 hx with hx|hx
    ·exact hl x hx
    ·rw[YR.1 hx];unfold outS;dsimp only
     exact⟨by omega,value_lens _ (by omega)⟩)
   refine⟨h1,?_⟩;rw[Za,Y3]at h2;omega
theorem state_in(ver:Int)(s:Rs)(hs:s.r.rest.length≤2000000):AX.Sf.StIn (stateS ver s).2:=by
 have e1:=strS_le s;have e2:=numS_le (strS s).1;have e3:=cntS_le (numS (strS s).1).1;have e4:=cntS_cnt (numS (strS s).1).1;have l1:=strS_len s;obtain⟨i1,i2,i3⟩:=insts_in ver (cntS (numS (strS s).1).1).2 (cntS (numS (strS s).1).1).1 [] (by omega) (by simp);unfold stateS;dsimp only;generalize instsS ver (cntS (numS (strS s).1).1).2 (cntS (numS (strS s).1).1).1 []=I at i1 i2 i3;rw[ZA]at i2;split
 ·exact⟨by dsimp only;omega,i1,by simp,by simp,by dsimp only;omega,by simp,by simp⟩
 ·have hP:∃ P:Rs×List Pend,(if ver=2 then pendsS (cntS I.1).2 (cntS I.1).1 []else(I.1,[]))=P∧P.1.r.rest.length≤2000000∧(∀ x∈P.2,x.addr.length≤2000000∧x.tok.length≤2000000)∧P.2.length≤2000000:=by
   have c1:=cntS_le I.1;have c2:=cntS_cnt I.1;by_cases hv:ver=2
   ·rw[if_pos hv];obtain⟨p1,p2,p3⟩:=pends_in (cntS I.1).2 (cntS I.1).1 [] (by omega) (by simp);exact⟨_,rfl,by omega,p1,by rw[p2,ZA];omega⟩
   ·rw[if_neg hv];exact⟨_,rfl,by dsimp only;omega,by simp,by simp⟩
  obtain⟨P,hP,p1,p2,p3⟩:=hP;rw[hP];have c1:=cntS_le P.1;have c2:=cntS_cnt P.1;obtain⟨o1,o2⟩:=outs_in (cntS P.1).2 (cntS P.1).1 [] (by omega) (by simp);rw[ZA]at o2;exact⟨by dsimp only;omega,i1,p2,o1,by dsimp only;omega,by dsimp only;omega,by dsimp only;omega⟩
theorem insts_zero:∀(l:List Inst) (p:Option Inst),instsZ p l=0→∀ x∈l,instZ x=0
 |[],_,_=>by simp
 |x::l,p,h=>by
  unfold instsZ at h;by_cases h1:instZ x=0
  rotate_left
  ·rw[if_pos h1]at h;exact absurd h h1
  ·rw[if_neg (by simp[h1])]at h;have h':instsZ (some x) l=0:=by
    cases p with
    |none=>simpa using h
    |some y =>
     dsimp only at h;cases hb:behind y x
     ·simp[hb]at h
     ·simpa [hb]using h
   ·intro y hy;rcases Z7.1 hy with rfl|hy
    ·exact h1
    ·exact insts_zero l _ h' y hy
theorem outs_zero:∀(l:List Outp) (p:Option (List UInt8)),outsZ p l=0→∀ x∈l,outZ x=0
 |[],_,_=>by simp
 |x::l,p,h=>by
  unfold outsZ at h;split at h
  ·next h1=>exact absurd h h1
  ·next h1 =>
   split at h
   ·simp at h
   ·intro y hy;rcases Z7.1 hy with rfl|hy
    ·simpa using h1
    ·exact outs_zero l _ h y hy
theorem inst_zero{x:Inst}(h:instZ x=0):Val.checkZ x.attrs=0∧1≤x.ver∧x.ver≤9007199254740992:=by
 unfold instZ at h;split at h
 ·simp at h
 ·split at h
  ·next h1=>exact absurd h h1
  ·next h1 =>
   split at h
   ·simp at h
   ·split at h
    ·simp at h
    ·split at h
     ·simp at h
     ·next h2=>exact⟨by simpa using h1,by omega,by omega⟩
theorem out_zero{x:Outp}(h:outZ x=0):Val.checkZ x.value=0:=by
 unfold outZ at h;split at h
 ·simp at h
 ·split at h
  ·next h1=>exact absurd h h1
  ·next h1=>simpa using h1
theorem check_parts{s:St}(h:checkZ s=0):0≤s.ser∧s.ser≤9007199254740992∧s.insts.length≤512∧s.pends.length≤512∧s.outs.length≤512∧instsZ none s.insts=0∧pendsZ none s.pends=0∧outsZ none s.outs=0:=by
 unfold checkZ at h;split at h
 ·simp at h
 ·split at h
  ·simp at h
  ·split at h
   ·simp at h
   ·split at h
    ·next h1=>exact absurd h h1
    ·split at h
     ·next h1=>exact absurd h h1
     ·next h1 h2 h3 h4 h5=>exact⟨by omega,by omega,by omega,by omega,by omega,by simpa using h4,by simpa using h5,h⟩
theorem stOk_of{s:St}(h:checkZ s=0)(hin:AX.Sf.StIn s):AX.Sf.StOk s:=by
 obtain⟨h1,h2,h3,h4,h5,h6,h7,h8⟩:=check_parts h;refine⟨fun x hx=>?_,fun x hx=>?_,by omega,by omega,by omega,by omega,by omega⟩
 ·obtain⟨k1,k2,k3⟩:=inst_zero (insts_zero _ _ h6 x hx);exact⟨⟨1,0,k1⟩,(hin.insts x hx).l,by omega,by omega⟩
 ·exact⟨⟨1,0,out_zero (outs_zero _ _ h8 x hx)⟩,(hin.outs x hx).2⟩
theorem insts_two:∀ l:List Inst,(l.flatMap (instE 2)).length≤(l.flatMap (instE 1)).length+10*l.length
 |[]=>by simp
 |x::l=>by
  have ih:=insts_two l;have h1:(instE 2 x).length≤(instE 1 x).length+10:=by
   have:=AX.num_len (if x.first then 1 else 0);unfold instE;rw[if_pos (rfl:(2:Int)=2),if_neg (show¬((1:Int)=2) by decide)];unfold flagE;simp only[Za,ZA];omega
  rw[YI,YI,Za,Za,Zh];omega
theorem stE_two(s:St)(hp:s.pends=[]):(stE 2 s).length≤(stE 1 s).length+10*s.insts.length+20:=by
 have h1:=insts_two s.insts;have h2:=AX.num_len 2;have h3:=AX.num_len (s.pends.length:Nat);unfold stE;rw[if_pos rfl,if_neg (by decide)];rw[hp]at h3 ⊢;simp only[Za,ZA,Zai]at h3 ⊢;omega
theorem decode_back{b:List UInt8}{st:St}(h:decode b=(st,0)):∃ ver,(ver=1∨ver=2)∧AX.versionS b=(ver,0)∧checkZ st=0∧encode ver st=(b,0)∧(stE ver st).length≤b.length∧(ver=1→st.pends=[])∧∃ s:Rs,s.r.rest.length≤b.length∧st=(stateS ver s).2:=by
 unfold decode at h;by_cases h1:1048576<b.length
 ·rw[if_pos h1]at h;simp at h
 rw[if_neg h1]at h;by_cases h2:AX.preB b=false
 ·rw[if_pos h2]at h;simp at h
 rw[if_neg h2]at h;by_cases h3:(Crc.ver b).2=0
 rotate_left
 ·rw[if_pos h3]at h;simp at h
 rw[if_neg (by simp[h3])]at h;obtain⟨⟨body,e⟩,hb⟩:=Ex (Crc.ver b);rw[hb]at h h3;dsimp only at h h3;subst h3;have happ:=Seal.app_ver b body hb;by_cases h4:(AX.versionS body).2=0
 rotate_left
 ·rw[if_pos h4]at h;injection h with _ h;exact absurd h h4
 rw[if_neg (by simp[h4])]at h;have h12:=AX.awj h4;obtain⟨⟨ver,e⟩,hv⟩:=Ex (AX.versionS body);rw[hv]at h h4 h12;dsimp only at h h4 h12;subst h4;generalize hr:stateS ver ⟨(Wire.numR ⟨body.drop 4,0⟩).1,false⟩=r at h;cases hx:(r.1.fails||decide (0<r.1.r.rest.length)||checkZ r.2 !=0);rotate_left
 ·rw[hx,if_pos rfl]at h;simp at h
 rw[hx,if_neg (by decide)]at h;injection h with h5 _;rw[YC,YC,bne_eq_false_iff_eq,YW]at hx;obtain⟨⟨x1,x2⟩,x3⟩:=hx;have took:=state_took (ver:=ver) (s:=⟨(Wire.numR ⟨body.drop 4,0⟩).1,false⟩) (by rw[hr];exact x1);rw[hr]at took;have hrest:r.1.r.rest=[]:=ZD (by omega);have t2:(Wire.numR ⟨body.drop 4,0⟩).1.rest=restE ver r.2:=by
  have:=took.2;rw[hrest,Zr]at this;exact this
 have hpre:AX.preB body=true∧(Wire.numR ⟨body.drop 4,0⟩).1.e=0∧(Wire.numR ⟨body.drop 4,0⟩).2=ver:=by
  unfold AX.versionS at hv;dsimp only at hv;split at hv
  ·simp at hv
  ·next q1 =>
   split at hv
   ·simp at hv
   ·next q2 =>
    split at hv
    ·simp at hv
    ·injection hv with hv _;exact⟨by simpa using q1,by simpa using q2,hv⟩
 obtain⟨g1,g2,g3⟩:=hpre;obtain⟨_,g4⟩:=Wire.numR_back g2;rw[g3,t2]at g4;have hmag:body.take 4=magic:=by
  unfold AX.preB at g1;rw[Zc,ZC]at g1;exact g1.2
 have hbody:body=stE ver r.2:=by
  rw[stE_rest,Zg,←g4,←hmag,Yj]
 subst h5;have hlen:b.length=body.length+4:=by
  rw[happ];unfold Crc.app;rw[Za,Crc.four_length]
 have hnum:∀ l:List UInt8,Wire.numR ⟨Wire.num ver++l,0⟩=(⟨l,0⟩,ver):=fun l=>by
  unfold Wire.numR;rw[if_neg (by simp),Wire.grp_num ver l (by omega) (by omega)];dsimp only;rw[List.drop_left]
 refine⟨ver,h12,?_,x3,?_,by rw[←hbody];omega,?_,_,?_,by rw[hr]⟩
 ·have hb4:b.drop 4=Wire.num ver++(restE ver r.2++Crc.four (Crc.upd 0 body)):=by
   rw[happ];unfold Crc.app;have h4:4≤body.length:=by
    have:=congrArg List.length hmag;rw[ZT]at this;simp only[magic,Zh,ZA]at this;omega
   rw[List.drop_append_of_le_length h4];rw[show body.drop 4=Wire.num ver++restE ver r.2 from g4,Zg]
  unfold AX.versionS;rw[if_neg h2];dsimp only;rw[hb4,hnum];dsimp only;rw[if_neg (by simp),if_neg (by omega)]
 ·unfold encode;rw[if_neg (by simp[x3]),←hbody,if_neg (by omega),←happ]
 ·intro h1v;rw[←hr];unfold stateS;dsimp only;split
  ·rfl
  ·rw[if_neg (by omega)]
 ·have:=Wire.numR_rest ⟨body.drop 4,0⟩;dsimp only at this ⊢;rw[ZB]at this;omega
end Sf
end Go.Proofs.YtdgcbckcameggadGreatDoor

namespace Go.Proofs.YtdgcbckcameggadGreatDoor
namespace Sf
def rd(l:List UInt8):Rs:=⟨⟨l,0⟩,false⟩
theorem rd_ok(l:List UInt8):(rd l).fails=false:=rfl
theorem num_enc(n:Int)(l:List UInt8)(h0:-9223372036854775808≤n)(h1:n≤9223372036854775807):numS (rd (Wire.num n++l))=(rd l,n):=by
 unfold numS rd;rw[Val.numR_enc n l h0 h1]
theorem str_enc(s l:List UInt8)(h:s.length≤9223372036854775807):strS (rd (Wire.strE s++l))=(rd l,s):=by
 unfold strS rd;rw[Val.strR_enc s l h]
theorem cnt_enc(n:Nat)(l:List UInt8)(h:n≤l.length)(h1:n≤9223372036854775807):cntS (rd (Wire.num n++l))=(rd l,n):=by
 unfold cntS rd;rw[Val.cntR_enc n l h h1]
theorem flag_enc(b:Bool)(l:List UInt8):flagS (rd (flagE b++l))=(rd l,b):=by
 unfold flagS rd flagE;cases b
 ·rw[if_neg (by decide),Val.numR_enc 0 l (by decide) (by decide)];rfl
 ·rw[if_pos rfl,Val.numR_enc 1 l (by decide) (by decide)];rfl
theorem value_enc(v:V)(l:List UInt8)(h:Val.checkZ v=0):valueS (rd (Val.enc v++l))=(rd l,v):=by
 unfold valueS rd;rw[Val.value_back v l h];rfl
theorem words_enc:∀(ws acc:List (List UInt8)) (l:List UInt8),(∀ w∈ws,w.length≤2000000)→wordsS ws.length (rd (wordsE ws++l)) acc=(rd l,acc++ws)
 |[],acc,l,h=>by simp[wordsS,wordsE]
 |w::ws,acc,l,h=>by
  have e:wordsE (w::ws)++l=Wire.strE w++(wordsE ws++l):=by simp[wordsE,Zg]
  show wordsS ws.length (strS (rd (wordsE (w::ws)++l))).1 (acc++[(strS (rd (wordsE (w::ws)++l))).2])=_
  rw[e,str_enc _ _ (by have:=h w Yg;omega)];rw[words_enc ws _ l fun x hx=>h x (Z5 _ hx)];simp
theorem strE_pos(s:List UInt8):1≤(Wire.strE s).length:=by
 have:=Val.num_len s.length;unfold Wire.strE;rw[Za];omega
theorem flat_len{α:Type}(f:α→List UInt8)(hf:∀ x,1≤(f x).length):∀ l:List α,l.length≤(l.flatMap f).length
 |[]=>by simp
 |x::l=>by
  have:=hf x;have:=flat_len f hf l;rw[YI,Za,Zh];omega
def oldI(ver:Int)(x:Inst):Inst:=if ver=2 then x else { x with first:=false }
theorem inst_enc(ver:Int)(x:Inst)(l:List UInt8)(hx:AX.Sf.InstIn x)(ht:x.typ.length≤2000000)(hz:instZ x=0):instS ver (rd (instE ver x++l))=(rd l,oldI ver x):=by
 obtain⟨h1,h2,h3⟩:=inst_zero hz;obtain⟨ad,dep,id,typ,at',v,ta,fi,ds⟩:=x;have ha:=hx.a;have hd:=hx.d;have hi:=hx.i;have hn:=hx.n;have hs:=hx.ds;dsimp only at h1 h2 h3 ha hd hi hn hs ht;have e:instE ver ⟨ad,dep,id,typ,at',v,ta,fi,ds⟩++l=Wire.strE ad++(Wire.strE dep++(Wire.strE id++(Wire.strE typ++(Val.enc at'++(Wire.num v++(flagE ta++((if ver=2 then flagE fi else[])++(Wire.num ds.length++(wordsE ds++l))))))))):=by
  unfold instE;simp only[Zg]
 have hc:ds.length≤(wordsE ds++l).length:=by
  have:=flat_len Wire.strE strE_pos ds;unfold wordsE;rw[Za];omega
 rw[e];unfold instS;dsimp only;rw[str_enc ad _ (by omega)];dsimp only;rw[str_enc dep _ (by omega)];dsimp only;rw[str_enc id _ (by omega)];dsimp only;rw[str_enc typ _ (by omega)];dsimp only;rw[value_enc at' _ h1];dsimp only;rw[num_enc v _ (by omega) (by omega)];dsimp only;rw[flag_enc ta];dsimp only;by_cases hv:ver=2
 ·subst hv;simp only[if_true];rw[flag_enc fi];dsimp only;rw[cnt_enc _ _ hc (by omega)];dsimp only;rw[words_enc ds [] l hs];simp[oldI]
 ·simp only[if_neg hv,Zi];rw[cnt_enc _ _ hc (by omega)];dsimp only;rw[words_enc ds [] l hs];simp[oldI,hv]
theorem pend_enc(p:Pend)(l:List UInt8)(ha:p.addr.length≤2000000)(ht:p.typ.length≤2000000)(hk:p.tok.length≤2000000):pendS (rd (pendE p++l))=(rd l,p):=by
 obtain⟨a,t,k⟩:=p;dsimp only at ha ht hk;have e:pendE ⟨a,t,k⟩++l=Wire.strE a++(Wire.strE t++(Wire.strE k++l)):=by unfold pendE;simp only[Zg]
 rw[e];unfold pendS;dsimp only;rw[str_enc a _ (by omega)];dsimp only;rw[str_enc t _ (by omega)];dsimp only;rw[str_enc k _ (by omega)]
theorem out_enc(o:Outp)(l:List UInt8)(hn:o.name.length≤2000000)(hz:outZ o=0):outS (rd (outE o++l))=(rd l,o):=by
 have h1:=out_zero hz;obtain⟨n,v,b⟩:=o;dsimp only at hn h1;have e:outE ⟨n,v,b⟩++l=Wire.strE n++(Val.enc v++(flagE b++l)):=by unfold outE;simp only[Zg]
 rw[e];unfold outS;dsimp only;rw[str_enc n _ (by omega)];dsimp only;rw[value_enc v _ h1];dsimp only;rw[flag_enc b]
theorem insts_enc(ver:Int):∀(xs acc:List Inst) (l:List UInt8),(∀ x∈xs,AX.Sf.InstIn x∧x.typ.length≤2000000∧instZ x=0)→instsS ver xs.length (rd (xs.flatMap (instE ver)++l)) acc=(rd l,acc++xs.map (oldI ver),true)
 |[],acc,l,h=>by simp[instsS]
 |x::xs,acc,l,h=>by
  obtain⟨h1,h2,h3⟩:=h x Yg;rw[Zh,YI,Zg];unfold instsS;rw[if_neg (by rw[rd_ok];decide),inst_enc ver x _ h1 h2 h3];dsimp only;rw[insts_enc ver xs _ l fun y hy=>h y (Z5 _ hy)];simp
theorem pends_enc:∀(xs acc:List Pend) (l:List UInt8),(∀ x∈xs,x.addr.length≤2000000∧x.typ.length≤2000000∧x.tok.length≤2000000)→pendsS xs.length (rd (xs.flatMap pendE++l)) acc=(rd l,acc++xs)
 |[],acc,l,h=>by simp[pendsS]
 |x::xs,acc,l,h=>by
  obtain⟨h1,h2,h3⟩:=h x Yg;rw[Zh,YI,Zg];unfold pendsS;rw[pend_enc x _ h1 h2 h3];dsimp only;rw[pends_enc xs _ l fun y hy=>h y (Z5 _ hy)];simp
theorem outs_enc:∀(xs acc:List Outp) (l:List UInt8),(∀ x∈xs,x.name.length≤2000000∧outZ x=0)→outsS xs.length (rd (xs.flatMap outE++l)) acc=(rd l,acc++xs,true)
 |[],acc,l,h=>by simp[outsS]
 |x::xs,acc,l,h=>by
  obtain⟨h1,h2⟩:=h x Yg;rw[Zh,YI,Zg];unfold outsS;rw[if_neg (by rw[rd_ok];decide),out_enc x _ h1 h2];dsimp only;rw[outs_enc xs _ l fun y hy=>h y (Z5 _ hy)];simp
theorem instE_pos(ver:Int)(x:Inst):1≤(instE ver x).length:=by
 have:=strE_pos x.addr;unfold instE;simp only[Za];omega
theorem pendE_pos(x:Pend):1≤(pendE x).length:=by
 have:=strE_pos x.addr;unfold pendE;simp only[Za];omega
theorem outE_pos(x:Outp):1≤(outE x).length:=by
 have:=strE_pos x.name;unfold outE;simp only[Za];omega
structure TypIn(s:St):Prop where
 insts:∀ x∈s.insts,x.typ.length≤2000000
 pends:∀ x∈s.pends,x.typ.length≤2000000
def oldS(ver:Int)(s:St):St:=if ver=2 then s else { s with insts:=s.insts.map (oldI ver),pends:=[] }
theorem oldI_two:oldI 2=id:=by funext x;simp[oldI]
theorem state_enc(ver:Int)(s:St)(l:List UInt8)(hz:checkZ s=0)(hin:AX.Sf.StIn s)(ht:TypIn s):stateS ver (rd (restE ver s++l))=(rd l,oldS ver s):=by
 obtain⟨h1,h2,h3,h4,h5,h6,h7,h8⟩:=check_parts hz;obtain⟨lin,ser,ins,ps,os⟩:=s;have hl:=hin.lin;have hi:=hin.insts;have hp:=hin.pends;have ho:=hin.outs;have ti:=ht.insts;have tp:=ht.pends;dsimp only at h1 h2 h3 h4 h5 h6 h7 h8 hl hi hp ho ti tp;have e:restE ver ⟨lin,ser,ins,ps,os⟩++l=Wire.strE lin++(Wire.num ser++(Wire.num ins.length++(ins.flatMap (instE ver)++((if ver=2 then Wire.num ps.length++ps.flatMap pendE else[])++(Wire.num os.length++(os.flatMap outE++l)))))):=by
  unfold restE;simp only[Zg]
 have li:=flat_len (instE ver) (instE_pos ver) ins;have lp:=flat_len pendE pendE_pos ps;have lo:=flat_len outE outE_pos os;rw[e];unfold stateS;dsimp only;rw[str_enc lin _ (by omega)];dsimp only;rw[num_enc ser _ (by omega) (by omega)];dsimp only;rw[cnt_enc ins.length _ (by rw[Za];omega) (by omega)];dsimp only;rw[insts_enc ver ins [] _ fun x hx=>⟨hi x hx,ti x hx,insts_zero _ _ h6 x hx⟩];dsimp only;rw[if_neg (by decide)];by_cases hv:ver=2
 ·subst hv;simp only[if_true,Zg];rw[cnt_enc ps.length _ (by rw[Za];omega) (by omega)];dsimp only;rw[pends_enc ps [] _ fun x hx=>⟨(hp x hx).1,tp x hx,(hp x hx).2⟩];dsimp only;rw[cnt_enc os.length _ (by rw[Za];omega) (by omega)];dsimp only;rw[outs_enc os [] l fun x hx=>⟨(ho x hx).1,outs_zero _ _ h8 x hx⟩];simp[oldS,oldI_two]
 ·simp only[if_neg hv,Zi];rw[cnt_enc os.length _ (by rw[Za];omega) (by omega)];dsimp only;have:=outs_enc os [] l fun x hx=>⟨(ho x hx).1,outs_zero _ _ h8 x hx⟩
  rw[this];simp[oldS,hv]
theorem instsZ_old(ver:Int):∀(l:List Inst) (p:Option Inst),instsZ (p.map (oldI ver)) (l.map (oldI ver))=instsZ p l
 |[],p=>by cases p<;>rfl
 |x::l,p=>by
  have hx:instZ (oldI ver x)=instZ x:=by unfold oldI;split<;>rfl
  have hb:∀ y,behind (oldI ver y) (oldI ver x)=behind y x:=fun y=>by unfold oldI;split<;>rfl
  have ih:=instsZ_old ver l (some x);rw[ZH];unfold instsZ;rw[hx,show instsZ (some (oldI ver x)) (l.map (oldI ver))=instsZ (some x) l from ih];cases p with
  |none=>rfl
  |some y=>simp only[ZO,hb]
theorem check_old(ver:Int)(s:St)(hz:checkZ s=0):checkZ (oldS ver s)=0:=by
 unfold oldS;split
 ·exact hz
 ·obtain⟨lin,ser,ins,ps,os⟩:=s;obtain⟨h1,h2,h3,h4,h5,h6,h7,h8⟩:=check_parts hz;have ht:text lin=true:=by
   cases h:text lin with
   |true=>rfl
   |false=>unfold checkZ at hz;simp[h]at hz
  dsimp only at h1 h2 h3 h4 h5 h6 h7 h8;have e:=instsZ_old ver ins none;rw[h6]at e;have e':instsZ none (ins.map (oldI ver))=0:=e;unfold checkZ;simp only[ht,e',h8,pendsZ,Zj,ZA];rw[if_neg (by decide),if_neg (by omega),if_neg (by omega)];simp
theorem decode_enc(ver:Int)(hv:ver=1∨ver=2)(s:St)(hz:checkZ s=0)(hin:AX.Sf.StIn s)(ht:TypIn s)(hl:(stE ver s).length≤1048572):encode ver s=(Crc.app (stE ver s),0)∧decode (Crc.app (stE ver s))=(oldS ver s,0):=by
 refine⟨by unfold encode;rw[if_neg (by simp[hz]),if_neg (by omega)],?_⟩;have happ:Crc.app (stE ver s)=stE ver s++(Crc.app (stE ver s)).drop (stE ver s).length:=by
  unfold Crc.app;simp
 have hlen:(Crc.app (stE ver s)).length=(stE ver s).length+4:=by
  unfold Crc.app;simp[Crc.four_length]
 have hm:∀ t:List UInt8,AX.preB (stE ver s++t)=true:=fun t=>by
  rw[stE_rest];unfold AX.preB;simp[magic,AX.magic]
 have hvb:AX.versionS (stE ver s)=(ver,0):=by
  have h0:AX.preB (stE ver s)=true:=by have:=hm [];rwa [Zr]at this
  unfold AX.versionS;rw[h0,if_neg (by decide),stE_rest];have hd:(magic++Wire.num ver++restE ver s).drop 4=Wire.num ver++restE ver s:=by simp[magic]
  rw[hd,Val.numR_enc ver _ (by omega) (by omega)];dsimp only;rw[if_neg (by simp),if_neg (by omega)]
 have hdr:(Wire.numR ⟨(stE ver s).drop 4,0⟩).1=⟨restE ver s,0⟩:=by
  rw[stE_rest];have hd:(magic++Wire.num ver++restE ver s).drop 4=Wire.num ver++restE ver s:=by simp[magic]
  rw[hd,Val.numR_enc ver _ (by omega) (by omega)]
 have hst:=state_enc ver s [] hz hin ht;rw[Zr]at hst;unfold decode;rw[if_neg (by omega),if_neg (by rw[happ,hm];decide),ver_app];dsimp only;rw[if_neg (by simp),hvb];dsimp only;rw[if_neg (by simp),hdr];rw[show(⟨⟨restE ver s,0⟩,false⟩:Rs)=rd (restE ver s)from rfl,hst];dsimp only;rw[if_neg (by simp[rd,Rs.fails,check_old ver s hz])]
end Sf
namespace Jr
open Sf (Rs rd numS strS flagS cntS)
def stepE(r:Jr):List UInt8:=Wire.num r.step++Wire.num r.op++Wire.strE r.addr++Wire.strE r.dep++Wire.strE r.typ
def restE(r:Jr)(b:List UInt8):List UInt8:=
 if r.kind=1 then Wire.strE b else if r.kind=2 then stepE r++Wire.strE r.tok else if r.kind=3 then stepE r++Sf.instE 2 r.after else if r.kind=4 then stepE r++Wire.num r.err++Sf.instE 2 r.after else[]
def body(r:Jr):List UInt8:=Wire.num r.kind++restE r (Sf.encode 2 r.base).1
def enc(r:Jr):List UInt8×Int:=
 if r.validB=false then([],1)
 else if r.kind=1∧(Sf.encode 2 r.base).2≠0 then([],(Sf.encode 2 r.base).2)
 else if 1048576<(Crc.app (Wire.strE r.body)).length then([],3)else(Crc.app (Wire.strE r.body),0)
def zeroI:Sf.Inst:=⟨[],[],[],[],.mk 0 0 [] [] [],0,false,false,[]⟩
def zeroR:Jr:=⟨0,Sf.zero,0,0,[],[],[],[],0,zeroI⟩
def wordsJ:Nat→Rs→List (List UInt8)→Rs×List (List UInt8)
 |0,s,l=>(s,l)
 |c+1,s,l=>if s.fails=true then(s,l)else wordsJ c (strS s).1 (l++[(strS s).2])
def instJ(s:Rs):Rs×Sf.Inst:=
 let a:=strS s
 let b:=strS a.1
 let c:=strS b.1
 let d:=strS c.1
 if d.1.fails=true then(d.1,zeroI)
 else
  let v:=Val.readValue d.1.r
  if v.2.1≠0 then(⟨v.1,true⟩,zeroI)
  else
   let n:=numS ⟨v.1,d.1.bad⟩
   let t:=flagS n.1
   let f:=flagS t.1
   let k:=cntS f.1
   let w:=wordsJ k.2 k.1 []
   (w.1,⟨a.2,b.2,c.2,d.2,v.2.2,n.2,t.2,f.2,w.2⟩)
def stepJ(s:Rs)(x:Jr):Rs×Jr:=
 let a:=numS s
 let b:=numS a.1
 let c:=strS b.1
 let d:=strS c.1
 let e:=strS d.1
 (e.1,{ x with step:=a.2,op:=b.2,addr:=c.2,dep:=d.2,typ:=e.2 })
def partJ(s:Rs)(x:Jr):Rs×Jr:=
 if x.kind=1 then
  let t:=strS s
  let d:=Sf.decode t.2
  (⟨t.1.r,d.2 !=0⟩,{ x with base:=d.1 })
 else if x.kind=2 then
  let p:=stepJ s x
  let t:=strS p.1
  (t.1,{ p.2 with tok:=t.2 })
 else if x.kind=3 then
  let p:=stepJ s x
  let i:=instJ p.1
  (i.1,{ p.2 with after:=i.2 })
 else if x.kind=4 then
  let p:=stepJ s x
  let e:=numS p.1
  let i:=instJ e.1
  (i.1,{ p.2 with err:=e.2,after:=i.2 })
 else(s,x)
def recJ(l:List UInt8):Jr×Bool:=
 let k:=numS (rd l)
 let q:=partJ k.1 { zeroR with kind:=k.2 }
 (q.2,!q.1.fails&&q.1.r.rest.length==0)
theorem words_encJ:∀(ws acc:List (List UInt8)) (l:List UInt8),(∀ w∈ws,w.length≤2000000)→wordsJ ws.length (rd (Sf.wordsE ws++l)) acc=(rd l,acc++ws)
 |[],acc,l,h=>by simp[wordsJ,Sf.wordsE]
 |w::ws,acc,l,h=>by
  have e:Sf.wordsE (w::ws)++l=Wire.strE w++(Sf.wordsE ws++l):=by simp[Sf.wordsE,Zg]
  show(if(rd (Sf.wordsE (w::ws)++l)).fails=true then _ else wordsJ ws.length (strS (rd (Sf.wordsE (w::ws)++l))).1 (acc++[(strS (rd (Sf.wordsE (w::ws)++l))).2]))=_
  rw[Sf.rd_ok,if_neg (by decide),e,Sf.str_enc _ _ (by have:=h w Yg;omega)];rw[words_encJ ws _ l fun x hx=>h x (Z5 _ hx)];simp
structure InstE(x:Sf.Inst):Prop where
 a:x.addr.length≤2000000
 d:x.dep.length≤2000000
 i:x.id.length≤2000000
 t:x.typ.length≤2000000
 v:Val.checkZ x.attrs=0
 v0:-9223372036854775808≤x.ver
 v1:x.ver≤9223372036854775807
 n:x.deps.length≤2000000
 ds:∀ s∈x.deps,s.length≤2000000
theorem inst_encJ(x:Sf.Inst)(l:List UInt8)(h:InstE x):instJ (rd (Sf.instE 2 x++l))=(rd l,x):=by
 obtain⟨ad,dep,id,typ,at',v,ta,fi,ds⟩:=x;have ha:=h.a;have hd:=h.d;have hi:=h.i;have ht:=h.t;have hv:=h.v;have h0:=h.v0;have h1:=h.v1;have hn:=h.n;have hs:=h.ds;dsimp only at ha hd hi ht hv h0 h1 hn hs;have e:Sf.instE 2 ⟨ad,dep,id,typ,at',v,ta,fi,ds⟩++l=Wire.strE ad++(Wire.strE dep++(Wire.strE id++(Wire.strE typ++(Val.enc at'++(Wire.num v++(Sf.flagE ta++(Sf.flagE fi++(Wire.num ds.length++(Sf.wordsE ds++l))))))))):=by
  unfold Sf.instE;simp only[if_true,Zg]
 have hc:ds.length≤(Sf.wordsE ds++l).length:=by
  have:=Sf.flat_len Wire.strE Sf.strE_pos ds;unfold Sf.wordsE;rw[Za];omega
 have hb:=Val.value_back at' (Wire.num v++(Sf.flagE ta++(Sf.flagE fi++(Wire.num ds.length++(Sf.wordsE ds++l))))) hv;unfold instJ;rw[e,Sf.str_enc _ _ (by omega)];dsimp only;rw[Sf.str_enc _ _ (by omega)];dsimp only;rw[Sf.str_enc _ _ (by omega)];dsimp only;rw[Sf.str_enc _ _ (by omega)];dsimp only;rw[Sf.rd_ok,if_neg (by decide)];obtain⟨X,hX⟩:=Ex (Wire.num v++(Sf.flagE ta++(Sf.flagE fi++(Wire.num ds.length++(Sf.wordsE ds++l)))));rw[hX]at hb ⊢;have hb':Val.readValue (rd (Val.enc at'++X)).r=(⟨X,0⟩,0,at'):=hb;rw[hb'];dsimp only;rw[if_neg (by decide)];have e2:(⟨⟨X,0⟩,(rd (Val.enc at'++X)).bad⟩:Rs)=rd X:=rfl;rw[e2,←hX];rw[Sf.num_enc _ _ h0 h1];dsimp only;rw[Sf.flag_enc];dsimp only;rw[Sf.flag_enc];dsimp only;rw[Sf.cnt_enc _ _ hc (by omega)];dsimp only;rw[words_encJ ds [] l hs];rfl
theorem zeroV_eq{v:V}(h:zeroV v=true):v=.mk 0 0 [] [] []:=by
 obtain⟨k,n,s,is,ks⟩:=v;unfold zeroV at h;simp only[Zc,ZC,Int.natCast_eq_zero,Y5]at h;obtain⟨⟨⟨⟨rfl,rfl⟩,rfl⟩,rfl⟩,rfl⟩:=h;rfl
theorem noneB_eq{x:Sf.Inst}(h:noneB x=true):x=zeroI:=by
 obtain⟨ad,dep,id,typ,at',v,ta,fi,ds⟩:=x;unfold noneB at h;simp only[Zc,ZC,Yv,Int.natCast_eq_zero,Y5]at h;obtain⟨⟨⟨⟨⟨⟨⟨⟨h1,rfl⟩,rfl⟩,rfl⟩,rfl⟩,rfl⟩,rfl⟩,rfl⟩,rfl⟩:=h;rw[zeroV_eq h1];rfl
theorem emptyB_eq{s:Sf.St}(h:emptyB s=true):s=Sf.zero:=by
 obtain⟨a,b,c,d,e⟩:=s;unfold emptyB at h;simp only[Zc,ZC,Int.natCast_eq_zero,Y5]at h;obtain⟨⟨⟨⟨rfl,rfl⟩,rfl⟩,rfl⟩,rfl⟩:=h;rfl
theorem zeroI_enc:InstE zeroI:=⟨by decide,by decide,by decide,by decide,by decide +kernel,by decide,by decide,by decide,by simp[zeroI]⟩
theorem shortB_mem{l:List (List UInt8)}(h:shortB l=true):∀ s∈l,s.length≤4096:=fun s hs=>by
 have:=ZF.1 h s hs;simp only[Zq]at this;omega
theorem instB_enc{x:Sf.Inst}(h:instB x=true):InstE x:=by
 unfold instB at h;simp only[Zc,Zq,ZC]at h;obtain⟨⟨⟨⟨⟨h1,h2⟩,h3⟩,h4⟩,h5⟩,h6⟩:=h;have m:=shortB_mem h1;exact⟨by have:=m x.addr (by simp);omega,by have:=m x.dep (by simp);omega,by have:=m x.id (by simp);omega,by have:=m x.typ (by simp);omega,h4,by omega,by omega,by omega,fun s hs=>by have:=shortB_mem h2 s hs;omega⟩
theorem stepJ_enc(s:Int)(op:Int)(ad dp ty l:List UInt8)(x:Jr)(h0:0≤s)(h1:s≤9007199254740992)(h2:0≤op)(h3:op≤9007199254740992)(ha:ad.length≤2000000)(hd:dp.length≤2000000)(ht:ty.length≤2000000) :
  stepJ (rd (Wire.num s++(Wire.num op++(Wire.strE ad++(Wire.strE dp++(Wire.strE ty++l)))))) x=(rd l,{ x with step:=s,op:=op,addr:=ad,dep:=dp,typ:=ty }):=by
 unfold stepJ;rw[Sf.num_enc _ _ (by omega) (by omega)];dsimp only;rw[Sf.num_enc _ _ (by omega) (by omega)];dsimp only;rw[Sf.str_enc _ _ (by omega)];dsimp only;rw[Sf.str_enc _ _ (by omega)];dsimp only;rw[Sf.str_enc _ _ (by omega)]
theorem recJ_of{l l2:List UInt8}{k:Int}{x:Jr}(h0:0≤k)(h1:k≤5)(hl:l=Wire.num k++l2)(hp:partJ (rd l2) { zeroR with kind:=k }=(rd [],x)):recJ l=(x,true):=by
 subst hl;unfold recJ;rw[Sf.num_enc _ _ (by omega) (by omega)];dsimp only;rw[hp];rfl
theorem afterB_enc{op:Int}{x:Sf.Inst}(h:(noneB x||makesB op&&instB x)=true):InstE x:=by
 rw[ZS,Zc]at h;rcases h with h|h
 ·rw[noneB_eq h];exact zeroI_enc
 ·exact instB_enc h.2
theorem rec_enc(r:Jr)(hv:r.validB=true)(hb:r.kind=1→Sf.decode (Sf.encode 2 r.base).1=(r.base,0)∧(Sf.encode 2 r.base).1.length≤1048576):recJ r.body=(r,true):=by
 obtain⟨kd,base,st,op,ad,dp,ty,tk,er,af⟩:=r;unfold validB at hv;dsimp only at hv hb;by_cases hbad:badB ⟨kd,base,st,op,ad,dp,ty,tk,er,af⟩=true
 ·rw[if_pos hbad]at hv;cases hv
 rw[if_neg hbad]at hv;unfold badB at hbad;dsimp only at hbad;simp only[ZS,Zc,Zab,ne_eq,Yv,not_or,not_and,Decidable.not_not,Bool.not_eq_false]at hbad;obtain⟨⟨g1,g2⟩,g3⟩:=hbad;unfold body restE;dsimp only;by_cases k1:kd=1
 ·subst k1;rw[if_pos (.inl rfl)]at hv;unfold bareB at hv;simp only[Zc,ZC]at hv;obtain⟨⟨⟨⟨⟨rfl,rfl⟩,rfl⟩,rfl⟩,rfl⟩,hn⟩:=hv;obtain rfl:=noneB_eq hn;obtain rfl:=g2 (by decide);obtain rfl:=g3 (by decide);obtain⟨hd,hl⟩:=hb rfl;obtain⟨B,hB⟩:=Ex ((Sf.encode 2 base).1);rw[hB]at hd hl ⊢;refine recJ_of (by decide) (by decide) rfl ?_;rw[if_pos rfl];unfold partJ;dsimp only;rw[if_pos rfl];have e:=Sf.str_enc B [] (by omega);rw[Zr]at e;rw[e];dsimp only;rw[hd];rfl
 rw[if_neg k1];by_cases k5:kd=5
 ·subst k5;rw[if_pos (.inr rfl)]at hv;unfold bareB at hv;simp only[Zc,ZC]at hv;obtain⟨⟨⟨⟨⟨rfl,rfl⟩,rfl⟩,rfl⟩,rfl⟩,hn⟩:=hv;obtain rfl:=noneB_eq hn;obtain rfl:=g2 (by decide);obtain rfl:=g3 (by decide);obtain rfl:=emptyB_eq (g1 (by decide));exact recJ_of (by decide) (by decide) rfl rfl
 rw[if_neg (by rintro(h|h)<;>contradiction)]at hv;obtain rfl:=emptyB_eq (g1 k1);by_cases k2:kd=2
 ·subst k2;rw[if_pos rfl]at hv ⊢;unfold stepB at hv;simp only[Zc,Zq]at hv;obtain⟨⟨⟨⟨⟨⟨⟨s0,s1⟩,o0⟩,o1⟩,hs⟩,hn⟩,ht⟩,_⟩:=hv;obtain rfl:=noneB_eq hn;obtain rfl:=g3 (by decide);have m:=shortB_mem hs;have m2:=shortB_mem ht;have ma:=m ad (by simp);have md:=m dp (by simp);have mt:=m ty (by simp);have mk:=m2 tk (by simp);refine recJ_of (by decide) (by decide) rfl ?_;unfold partJ stepE;dsimp only;rw[if_neg (by decide),if_pos rfl];have e:=Sf.str_enc tk [] (by omega);rw[Zr]at e;simp only[Zg];rw[stepJ_enc st op ad dp ty _ _ (by omega) (by omega) (by omega) (by omega) (by omega) (by omega) (by omega)];dsimp only;rw[e];rfl
 rw[if_neg k2]at hv ⊢;obtain rfl:=g2 k2;by_cases k3:kd=3
 ·subst k3;rw[if_pos rfl]at hv ⊢;unfold stepB afterB at hv;dsimp only at hv;rw[Zc]at hv;have ha:=afterB_enc hv.2;have hv1:=hv.1;simp only[Zc,Zq]at hv1;obtain⟨⟨⟨⟨s0,s1⟩,o0⟩,o1⟩,hs⟩:=hv1;obtain rfl:=g3 (by decide);have m:=shortB_mem hs;have ma:=m ad (by simp);have md:=m dp (by simp);have mt:=m ty (by simp);refine recJ_of (by decide) (by decide) rfl ?_;unfold partJ stepE;dsimp only;rw[if_neg (by decide),if_neg (by decide),if_pos rfl];have e:=inst_encJ af [] ha;rw[Zr]at e;simp only[Zg];rw[stepJ_enc st op ad dp ty _ _ (by omega) (by omega) (by omega) (by omega) (by omega) (by omega) (by omega)];dsimp only;rw[e];rfl
 rw[if_neg k3]at hv ⊢;by_cases k4:kd=4
 ·subst k4;rw[if_pos rfl]at hv ⊢;unfold stepB afterB at hv;dsimp only at hv;rw[Zc,Zc,Zc]at hv;have ha:=afterB_enc hv.1.1.2;have hv1:=hv.1.1.1;have e0:=hv.1.2;have e1:=hv.2;simp only[Zc,Zq]at hv1 e0 e1;obtain⟨⟨⟨⟨s0,s1⟩,o0⟩,o1⟩,hs⟩:=hv1;have m:=shortB_mem hs;have ma:=m ad (by simp);have md:=m dp (by simp);have mt:=m ty (by simp);refine recJ_of (by decide) (by decide) rfl ?_;unfold partJ stepE;dsimp only;rw[if_neg (by decide),if_neg (by decide),if_neg (by decide),if_pos rfl];have e:=inst_encJ af [] ha;rw[Zr]at e;simp only[Zg];rw[stepJ_enc st op ad dp ty _ _ (by omega) (by omega) (by omega) (by omega) (by omega) (by omega) (by omega)];dsimp only;rw[Sf.num_enc _ _ (by omega) (by omega)];dsimp only;rw[e];rfl
 rw[if_neg k4]at hv;cases hv
end Jr
end Go.Proofs.YtdgcbckcameggadGreatDoor

namespace Go.Proofs.YtdgcbckcameggadGreatDoor
open Go.RowKit
namespace AX
def JB(k:Nat)(bad:Bool):Blk:=.cells 156 [.ptr k 0,.bool bad]
theorem liftQ{f:FuncId}{args:List A}{s s':Sf.Rs}{v:A}(hc:AC f (.ptr 0 0::args) ⟨[JB 1 s.bad,rdr s.r],[]⟩ fun v' h'=>v'=v∧h'.b[0]?=some (JB 1 s'.bad)∧h'.b[1]?=some (rdr s'.r))(ha:A.locL 0 args=true)(hv:v.loc 0=true)
  {h:Hp} {i k:Nat} (hik:i≠k) (hi:h.b[i]?=some (JB k s.bad)) (hk:h.b[k]?=some (rdr s.r)) :
  AC f (.ptr i 0::args) h fun v' h'=>v'=v∧h'=⟨(h.b.set i (JB k s'.bad)).set k (rdr s'.r),h.t⟩:=by
 have key:=ACall.lift hc (fun j=>if j=0 then i else k) (fun a b ha hb e=>by
   simp only[Zh,ZA]at ha hb;have h1:a=0∨a=1:=by omega
   have h2:b=0∨b=1:=by omega
   rcases h1 with rfl|rfl<;>rcases h2 with rfl|rfl<;>simp at e ⊢
   ·exact hik e
   ·exact hik e.symm) (by unfold A.locL;rw[(A.locL0 _ args ha).1];rfl)
  (fun x hx=>by
   rcases Z7.1 hx with rfl|hx
   ·rfl
   ·rw[YR.1 hx];rfl)
  (fun v' h' ⟨e,h0,h1⟩=>⟨by rw[e];exact(A.loc0 _ v hv).1,fun j x hj hx=>by
   have:j=0∨j=1:=by simp only[Zh,ZA]at hj;omega
   rcases this with rfl|rfl
   ·rw[h0]at hx;injection hx with hx;subst hx;rfl
   ·rw[h1]at hx;injection hx with hx;subst hx;rfl⟩)
  (h:=h) (fun j hj=>by
   have:j=0∨j=1:=by simp only[Zh,ZA]at hj;omega
   rcases this with rfl|rfl
   ·exact hi
   ·exact hk)
 have e:A.renL (fun j=>if j=0 then i else k) (.ptr 0 0::args)=.ptr i 0::args:=by unfold A.renL;rw[(A.locL0 0 args ha).2];rfl
 rw[e]at key;refine key.mono ?_;rintro v' h' ⟨v0,⟨b0,t0⟩,⟨rfl,h0,h1⟩,rfl,rfl⟩;refine⟨(A.loc0 0 _ hv).2 _,?_⟩
 match b0,h0,h1 with
 |x::y::b,h0,h1 =>
  simp only[ZN,ZG,Zb]at h0 h1;subst h0;subst h1;rfl
theorem bv8(s:Sf.Rs)(hl:s.r.rest.length≤100000000){h:Hp}{i k:Nat}(hik:i≠k)(hi:h.b[i]?=some (JB k s.bad))(hk:h.b[k]?=some (rdr s.r)) :
  AC 134 [.ptr i 0] h fun v h'=>v=.bool (Sf.flagS s).2∧h'=⟨(h.b.set i (JB k (Sf.flagS s).1.bad)).set k (rdr (Sf.flagS s).1.r),h.t⟩:=by
 refine liftQ ?_ rfl rfl hik hi hk;refine fo ?_;unfold JB;refine azb ti ?_;refine use (aqa (i:=1) (r:=s.r) rfl hl) ?_;obtain⟨q,hq⟩:=Ex (Wire.numR s.r);have hF:Sf.flagS s=(⟨q.1,s.bad||(q.2 !=0&&q.2 !=1)⟩,q.2==1):=by unfold Sf.flagS;rw[hq]
 rw[hq,hF];rcases azl s.bad with e0|e0
 ·rw[e0];refine azb ti ?_;exact⟨_,le_refl _,rfl,rfl,rfl⟩
 ·rw[e0];rcases azl (q.2 !=0)with e1|e1
  ·refine azb e1 ?_;exact⟨_,le_refl _,rfl,by rw[e1];rfl,rfl⟩
  ·refine azb e1 ?_;exact⟨_,le_refl _,rfl,by rw[e1];rfl,rfl⟩
theorem aq4(s:Sf.Rs){h:Hp}{i k:Nat}(hik:i≠k)(hi:h.b[i]?=some (JB k s.bad))(hk:h.b[k]?=some (rdr s.r)) :
  AT 102 [.ptr i 0] h (.bool s.fails):=by
 have key:AC 102 [.ptr i 0] h fun v h'=>v=.bool s.fails∧h'=⟨(h.b.set i (JB k s.bad)).set k (rdr s.r),h.t⟩:=by
  refine liftQ (s':=s) ?_ rfl rfl hik hi hk;refine fo ?_;unfold JB;unfold Sf.Rs.fails;rcases azl s.bad with e0|e0
  ·rw[e0];refine azb ti ?_;exact⟨_,le_refl _,rfl,rfl,rfl⟩
  ·rw[e0];refine azb ti ?_;refine use (bqj (i:=1) (r:=s.r) rfl) ?_;refine azb ti ?_;exact⟨_,le_refl _,rfl,rfl,rfl⟩
 refine key.mono ?_;rintro v h' ⟨rfl,rfl⟩;refine⟨rfl,?_⟩;obtain⟨hb,ht⟩:=h;dsimp only at hi hk ⊢;congr 1;have hil:=(Zd.1 hi);have hkl:=(Zd.1 hk);obtain⟨h1,h2⟩:=hil;obtain⟨h3,h4⟩:=hkl;rw[show hb.set i (JB k s.bad)=hb by rw[←h2];exact List.set_getElem_self h1];rw[←h4];exact List.set_getElem_self h3
theorem aju:Sf.Inst.cells Jr.zeroI=[.str [],.str [],.str [],.str [],.int .i64 0,.int .i64 0,.str [],.sl 5 .no [],.sl 1 .no [],.int .i64 0,.bool false,.bool false,.sl 1 .no []]:=by
 unfold Jr.zeroI Sf.Inst.cells;simp[V.cellss,strsA]
theorem bvr:le (.agg [.str [],.str [],.str [],.str [],.int .i64 0,.int .i64 0,.str [],.sl 0 .nil [],.sl 0 .nil [],.int .i64 0,.bool false,.bool false,.sl 0 .nil []]) (.agg (Sf.Inst.cells Jr.zeroI)):=by
 rw[aju];exact⟨aza _,aza _,aza _,aza _,aza _,aza _,aza _,⟨rfl,.inr rfl,.inl rfl⟩,⟨rfl,.inr rfl,.inl rfl⟩,aza _,aza _,aza _,⟨rfl,.inr rfl,.inl rfl⟩,trivial⟩
theorem bkb(s:Sf.Rs)(hl:s.r.rest.length≤100000000){h:Hp}{i k:Nat}(hik:i≠k)(hi:h.b[i]?=some (JB k s.bad))(hk:h.b[k]?=some (rdr s.r)) :
  AC 101 [.ptr i 0] h fun v h'=>v=.agg (Sf.Inst.cells (Jr.instJ s).2)∧h'=⟨(h.b.set i (JB k (Jr.instJ s).1.bad)).set k (rdr (Jr.instJ s).1.r),h.t⟩:=by
 refine liftQ ?_ rfl ?_ hik hi hk;rotate_left
 ·obtain⟨a,d,i,ty,⟨k,n,w,is,ks⟩,v,tn,fi,ds⟩:=(Jr.instJ s).2;rfl
 obtain⟨r,bad⟩:=s;dsimp only at hl;obtain⟨⟨r1,x1⟩,h1⟩:=Ex (Wire.strR r);have l1:=Wire.strR_rest r;rw[h1]at l1;obtain⟨⟨r2,x2⟩,h2⟩:=Ex (Wire.strR r1);have l2:=Wire.strR_rest r1;rw[h2]at l2;obtain⟨⟨r3,x3⟩,h3⟩:=Ex (Wire.strR r2);have l3:=Wire.strR_rest r2;rw[h3]at l3;obtain⟨⟨r4,x4⟩,h4⟩:=Ex (Wire.strR r3);have l4:=Wire.strR_rest r3;rw[h4]at l4;dsimp only at l1 l2 l3 l4;have str:∀(r r':Wire.St) (x:List UInt8) (h:Hp),Wire.strR r=(r',x)→h.b[1]?=some (rdr r)→r.rest.length≤100000000→AC 63 [.ptr 1 0] h fun v h'=>v=.str x∧h'=⟨h.b.set 1 (rdr r'),h.t⟩:=fun r r' x h e hb hl=>by
  have:=aqj hb hl;rw[e]at this;exact this
 have hJ:Jr.instJ ⟨r,bad⟩=if(⟨r4,bad⟩:Sf.Rs).fails=true then(⟨r4,bad⟩,Jr.zeroI)else if(Val.readValue r4).2.1≠0 then(⟨(Val.readValue r4).1,true⟩,Jr.zeroI)else
   ((Jr.wordsJ (Wire.cntR (Sf.flagS (Sf.flagS ⟨(Wire.numR (Val.readValue r4).1).1,bad⟩).1).1.r 1).2 ⟨(Wire.cntR (Sf.flagS (Sf.flagS ⟨(Wire.numR (Val.readValue r4).1).1,bad⟩).1).1.r 1).1,(Sf.flagS (Sf.flagS ⟨(Wire.numR (Val.readValue r4).1).1,bad⟩).1).1.bad⟩ []).1,
    ⟨x1,x2,x3,x4,(Val.readValue r4).2.2,(Wire.numR (Val.readValue r4).1).2,(Sf.flagS ⟨(Wire.numR (Val.readValue r4).1).1,bad⟩).2,(Sf.flagS (Sf.flagS ⟨(Wire.numR (Val.readValue r4).1).1,bad⟩).1).2,(Jr.wordsJ (Wire.cntR (Sf.flagS (Sf.flagS ⟨(Wire.numR (Val.readValue r4).1).1,bad⟩).1).1.r 1).2 ⟨(Wire.cntR (Sf.flagS (Sf.flagS ⟨(Wire.numR (Val.readValue r4).1).1,bad⟩).1).1.r 1).1,(Sf.flagS (Sf.flagS ⟨(Wire.numR (Val.readValue r4).1).1,bad⟩).1).1.bad⟩ []).2⟩):=by
  unfold Jr.instJ Sf.strS Sf.numS Sf.cntS;simp only[h1,h2,h3,h4]
 refine fo ?_;unfold JB;refine azb ti ?_;refine use (str r r1 x1 _ h1 rfl (by omega)) ?_;refine azb ti ?_;refine use (str r1 r2 x2 _ h2 rfl (by omega)) ?_;refine azb ti ?_;refine use (str r2 r3 x3 _ h3 rfl (by omega)) ?_;refine azb ti ?_;refine use (str r3 r4 x4 _ h4 rfl (by omega)) ?_;refine azb ti ?_;refine use (aq4 ⟨r4,bad⟩ (i:=0) (k:=1) (by decide) rfl rfl) ?_;cases hfl:(⟨r4,bad⟩:Sf.Rs).fails with
 |true =>
  rw[hJ,if_pos hfl];refine azb ti ?_;exact⟨_,bvr,rfl,rfl,rfl⟩
 |false =>
  rw[hJ,if_neg (by rw[hfl];decide)];clear hJ hfl h1 h2 h3 h4;have l5:=Val.readValue_le r4;have c5:=fun(h:Hp) hb=>avu (i:=1) (r:=r4) (h:=h) hb (by omega)
  obtain⟨⟨r5,e5,xv⟩,h5⟩:=Ex (Val.readValue r4);rw[h5]at l5 c5;rw[h5];dsimp only at l5 c5 ⊢;obtain⟨vk,vn,vs,vi,vy⟩:=xv;have hVA:(V.mk vk vn vs vi vy).A=.agg [.int .i64 vk,.int .i64 vn,.str vs,.sl 5 .no (V.cellss vi),.sl 1 .no (strsA vy)]:=by simp only[V.A,V.cells]
  rw[hVA]at c5;refine azb ti ?_;refine use (c5 _ rfl) ?_;by_cases he:e5=0
  rotate_left
  ·have e1:(e5 !=0)=true:=by simp[he]
   rw[if_pos he];refine azb e1 ?_;exact⟨_,bvr,rfl,rfl,rfl⟩
  ·have e1:(e5 !=0)=false:=by simp[he]
   rw[if_neg (by simp[he])];subst he;refine azb e1 ?_;have l6:=Wire.numR_rest r5;refine use (aqa (i:=1) (r:=r5) rfl (by omega)) ?_;obtain⟨⟨r6,x6⟩,h6⟩:=Ex (Wire.numR r5);rw[h6]at l6 ⊢;dsimp only at l6 ⊢;refine azb ti ?_;have l7:=Sf.flagS_le ⟨r6,bad⟩;have c7:=fun(h:Hp) h0 h1=>bv8 ⟨r6,bad⟩ (by dsimp only;omega) (h:=h) (i:=0) (k:=1) (by decide) h0 h1
   obtain⟨⟨⟨r7,b7⟩,x7⟩,h7⟩:=Ex (Sf.flagS ⟨r6,bad⟩);rw[h7]at l7 c7 ⊢;dsimp only at l7 c7 ⊢;unfold JB at c7;refine use (c7 _ rfl rfl) ?_;refine azb ti ?_;have l8:=Sf.flagS_le ⟨r7,b7⟩;have c8:=fun(h:Hp) h0 h1=>bv8 ⟨r7,b7⟩ (by dsimp only;omega) (h:=h) (i:=0) (k:=1) (by decide) h0 h1
   obtain⟨⟨⟨r8,b8⟩,x8⟩,h8⟩:=Ex (Sf.flagS ⟨r7,b7⟩);rw[h8]at l8 c8 ⊢;dsimp only at l8 c8 ⊢;unfold JB at c8;refine use (c8 _ rfl rfl) ?_;refine azb ti ?_;refine use (akw (i:=1) (r:=r8) rfl (by omega)) ?_;have lc:=Wire.cntR_rest r8 1;have lk:=Wire.cntR_cnt r8;obtain⟨⟨rc,c⟩,hc⟩:=Ex (Wire.cntR r8 1);rw[hc]at lc lk ⊢;dsimp only at lc lk ⊢;obtain⟨⟨⟨rr,bw⟩,dw⟩,hw⟩:=Ex (Jr.wordsJ c ⟨rc,b8⟩ []);rw[hw];dsimp only;refine azb ti ?_
   refine azf (fun mm ts h=>∃(j:Nat) (p:Wire.St) (ds:List (List UInt8)) (W:Nat) (o:Own) (t:List (TypeId×Nat×Nat)),mm=c-j∧j≤c ∧
    h=⟨[.cells 156 [.ptr 1 0,.bool b8],rdr p,.cells 43 [.str [],.str [],.str [],.str [],.int .i64 0,.int .i64 0,.str [],.sl 0 .nil [],.sl 0 .nil [],.int .i64 0,.bool false,.bool false,.sl 0 .nil []],.cells 43 [.str x1,.str x2,.str x3,.str x4,.int .i64 vk,.int .i64 vn,.str vs,.sl 5 .no (V.cellss vi),.sl 1 .no (strsA vy),.int .i64 x6,.bool x7,.bool x8,.sl W o (strsA ds)],.cells 41 [.int .i64 vk,.int .i64 vn,.str vs,.sl 5 .no (V.cellss vi),.sl 1 .no (strsA vy)]],t⟩ ∧
    Jr.wordsJ (c-j) ⟨p,b8⟩ ds=(⟨rr,bw⟩,dw)∧ds.length=j∧p.rest.length≤rc.rest.length∧Gs 9 1 0 ⟨[],t⟩ (strsA ds) (.sl W o (strsA ds)) ∧
    (ts 0=.ptr 0 0∧ts 2=.ptr 2 0∧ts 3=.ptr 3 0∧ts 65=.int .i64 (c:Nat)∧ts 66=.int .i64 (j:Nat))) c ?_ ?_
   ·exact⟨0,rc,[],0,.nil,[],by omega,by omega,rfl,hw,rfl,Zf _,.inl ⟨rfl,rfl⟩,by(exact azq ti)⟩
   clear c5 c7 c8 h5 h6 h7 h8 hc hw;rintro mm ts h ⟨j,p,ds,W,o,t,rfl,hjc,rfl,hit,hdl,hpl,gX,ht⟩;have done:∀(ds':List (List UInt8)) (W:Nat) (o:Own),Gs 9 1 0 ⟨[],t⟩ (strsA ds') (.sl W o (strsA ds'))→le (.agg [.str x1,.str x2,.str x3,.str x4,.int .i64 vk,.int .i64 vn,.str vs,.sl 5 .no (V.cellss vi),.sl 1 .no (strsA vy),.int .i64 x6,.bool x7,.bool x8,.sl W o (strsA ds')]) (.agg [.str x1,.str x2,.str x3,.str x4,.int .i64 vk,.int .i64 vn,.str vs,.sl 5 .no (V.cellss vi),.sl 1 .no (strsA vy),.int .i64 x6,.bool x7,.bool x8,.sl 1 .no (strsA ds')]):=
    fun ds' W o g=>⟨aza _,aza _,aza _,aza _,aza _,aza _,aza _,aza _,aza _,aza _,aza _,aza _,Gs.le g,trivial⟩
   by_cases hj:j<c
   rotate_left
   ·have hlt:¬((j:Int)<(c:Int)):=by omega
    rw[show c-j=0 by omega,Jr.wordsJ]at hit;injection hit with hit hit2;injection hit with hit hit3;subst hit;subst hit2;subst hit3;refine azb (ai ht hlt) ?_;exact⟨_,done _ _ _ gX,rfl,rfl,rfl⟩
   have hlt:(j:Int)<(c:Int):=by omega
   have ei:IntKind.i64.wrap ((j:Int)+1)=((j+1:Nat):Int):=by rw[wrap64 (by omega) (by omega)];omega
   rw[show c-j=(c-(j+1))+1 by omega,Jr.wordsJ]at hit;have cf:=fun(h:Hp) h0 h1=>aq4 ⟨p,b8⟩ (h:=h) (i:=0) (k:=1) (by decide) h0 h1
   obtain⟨F,hF⟩:=Ex ((⟨p,b8⟩:Sf.Rs).fails);rw[hF]at cf hit;unfold JB at cf;refine azb (ai ht hlt) ?_;refine use (cf _ rfl rfl) ?_;cases F with
   |true =>
    rw[if_pos rfl]at hit;injection hit with hit hit2;injection hit with hit hit3;subst hit;subst hit2;subst hit3;refine azb ht ?_;exact⟨_,done _ _ _ gX,rfl,rfl,rfl⟩
   |false =>
    rw[if_neg (by decide)]at hit;have lp:=Wire.strR_rest p;have cp:=fun h hb=>str p (Wire.strR p).1 (Wire.strR p).2 h rfl hb (by omega)
    unfold Sf.strS at hit;obtain⟨⟨p2,s2⟩,hp2⟩:=Ex (Wire.strR p);simp only[hp2]at hit;rw[hp2]at lp cp;dsimp only at lp cp;obtain⟨W',o',t',hX,gX',_⟩:=gX.grow 16 [.str s2] (by rw[aze];omega) (by decide);rw[←aq3]at gX';simp only[←aq3]at hX;refine azb ht ?_;refine use (cp _ rfl) ?_;refine azb (ai ht (ai hX ei)) ?_;exact⟨c-(j+1),by omega,j+1,p2,ds++[s2],W',o',t',rfl,by omega,rfl,hit,by simp[hdl],by omega,gX',by(exact azq (ai ht ei))⟩
theorem ak6(s:Sf.Rs)(c0 c1 c2 c3 c4 c5 c6 c7 c8 c9 c10 c11 c12 c13 c14 c15 c16 c17 c18 c19 c20 c21 c22 c23 c24 c25:A)(hl:s.r.rest.length≤100000000)(Z:Blk)(l:List Blk)(t:List (TypeId×Nat×Nat)) :
  AC 100 [.ptr 2 0,.ptr 3 0] ⟨Z::rdr s.r::JB 1 s.bad :: .cells 45 [c0,c1,c2,c3,c4,c5,c6,c7,c8,c9,c10,c11,c12,c13,c14,c15,c16,c17,c18,c19,c20,c21,c22,c23,c24,c25]::l,t⟩ fun v h'=>v=.tup []∧h'=⟨Z::rdr (Jr.stepJ s Jr.zeroR).1.r::JB 1 (Jr.stepJ s Jr.zeroR).1.bad :: .cells 45 [c0,c1,c2,c3,c4,c5,.int .i64 (Jr.stepJ s Jr.zeroR).2.step,.int .i64 (Jr.stepJ s Jr.zeroR).2.op,.str (Jr.stepJ s Jr.zeroR).2.addr,.str (Jr.stepJ s Jr.zeroR).2.dep,.str (Jr.stepJ s Jr.zeroR).2.typ,c11,c12,c13,c14,c15,c16,c17,c18,c19,c20,c21,c22,c23,c24,c25]::l,t⟩:=by
 obtain⟨r,bad⟩:=s;dsimp only at hl ⊢;obtain⟨⟨r1,x1⟩,h1⟩:=Ex (Wire.numR r);have l1:=Wire.numR_rest r;rw[h1]at l1;obtain⟨⟨r2,x2⟩,h2⟩:=Ex (Wire.numR r1);have l2:=Wire.numR_rest r1;rw[h2]at l2;obtain⟨⟨r3,x3⟩,h3⟩:=Ex (Wire.strR r2);have l3:=Wire.strR_rest r2;rw[h3]at l3;obtain⟨⟨r4,x4⟩,h4⟩:=Ex (Wire.strR r3);have l4:=Wire.strR_rest r3;rw[h4]at l4;obtain⟨⟨r5,x5⟩,h5⟩:=Ex (Wire.strR r4);have l5:=Wire.strR_rest r4;rw[h5]at l5;dsimp only at l1 l2 l3 l4 l5;have hS:Jr.stepJ ⟨r,bad⟩ Jr.zeroR=(⟨r5,bad⟩,{ Jr.zeroR with step:=x1,op:=x2,addr:=x3,dep:=x4,typ:=x5 }):=by
  unfold Jr.stepJ Sf.numS Sf.strS;simp only[h1,h2,h3,h4,h5]
 rw[hS];have str:∀(r r':Wire.St) (x:List UInt8) (h:Hp),Wire.strR r=(r',x)→h.b[1]?=some (rdr r)→r.rest.length≤100000000→AC 63 [.ptr 1 0] h fun v h'=>v=.str x∧h'=⟨h.b.set 1 (rdr r'),h.t⟩:=fun r r' x h e hb hl=>by
  have:=aqj hb hl;rw[e]at this;exact this
 have num:∀(r r':Wire.St) (x:Int) (h:Hp),Wire.numR r=(r',x)→h.b[1]?=some (rdr r)→r.rest.length≤100000000→AC 98 [.ptr 1 0] h fun v h'=>v=.int .i64 x∧h'=⟨h.b.set 1 (rdr r'),h.t⟩:=fun r r' x h e hb hl=>by
  have:=aqa (i:=1) hb hl;rw[e]at this;exact this
 unfold JB;refine fo ?_;refine azb ti ?_;refine use (num r r1 x1 _ h1 rfl (by omega)) ?_;refine azb ti ?_;refine use (num r1 r2 x2 _ h2 rfl (by omega)) ?_;refine azb ti ?_;refine use (str r2 r3 x3 _ h3 rfl (by omega)) ?_;refine azb ti ?_;refine use (str r3 r4 x4 _ h4 rfl (by omega)) ?_;refine azb ti ?_;refine use (str r4 r5 x5 _ h5 rfl (by omega)) ?_;refine azb ti ?_;exact⟨_,le_refl _,rfl,rfl⟩
theorem avk(s:Sf.Rs)(x:Jr):Jr.stepJ s x=((Jr.stepJ s Jr.zeroR).1,{ x with step:=(Jr.stepJ s Jr.zeroR).2.step,op:=(Jr.stepJ s Jr.zeroR).2.op,addr:=(Jr.stepJ s Jr.zeroR).2.addr,dep:=(Jr.stepJ s Jr.zeroR).2.dep,typ:=(Jr.stepJ s Jr.zeroR).2.typ }):=rfl
theorem avp(s:Sf.Rs)(x:Jr):(Jr.stepJ s x).1.r.rest.length≤s.r.rest.length:=Zn (Sf.strS_le _) (Zn (Sf.strS_le _) (Zn (Sf.strS_le _) (Zn (Sf.numS_le _) (Sf.numS_le _))))
theorem axh{xs ys:List A}{b:Bool}(h:leL xs ys):le (.tup [.agg xs,.bool b]) (.tup [.agg ys,.bool b]):=⟨h,aqu _,trivial⟩
theorem cyx(kd st op:Int)(ad dp ty tk:List UInt8):leL [.int .i64 kd,.str [],.int .i64 0,.sl 0 .nil [],.sl 0 .nil [],.sl 0 .nil [],.int .i64 st,.int .i64 op,.str ad,.str dp,.str ty,.str tk,.int .i64 0,.str [],.str [],.str [],.str [],.int .i64 0,.int .i64 0,.str [],.sl 0 .nil [],.sl 0 .nil [],.int .i64 0,.bool false,.bool false,.sl 0 .nil []] (Jr.cells ⟨kd,Sf.zero,st,op,ad,dp,ty,tk,0,Jr.zeroI⟩):=by
 unfold Jr.cells;rw[aju];exact⟨aza _,aza _,aza _,⟨rfl,.inr rfl,.inl rfl⟩,⟨rfl,.inr rfl,.inl rfl⟩,⟨rfl,.inr rfl,.inl rfl⟩,aza _,aza _,aza _,aza _,aza _,aza _,aza _,aza _,aza _,aza _,aza _,aza _,aza _,aza _,⟨rfl,.inr rfl,.inl rfl⟩,⟨rfl,.inr rfl,.inl rfl⟩,aza _,aza _,aza _,⟨rfl,.inr rfl,.inl rfl⟩,trivial⟩
theorem dz7(kd st op er:Int)(ad dp ty:List UInt8)(af:Sf.Inst):leL ([.int .i64 kd,.str [],.int .i64 0,.sl 0 .nil [],.sl 0 .nil [],.sl 0 .nil [],.int .i64 st,.int .i64 op,.str ad,.str dp,.str ty,.str [],.int .i64 er]++Sf.Inst.cells af) (Jr.cells ⟨kd,Sf.zero,st,op,ad,dp,ty,[],er,af⟩):=
 ⟨aza _,aza _,aza _,⟨rfl,.inr rfl,.inl rfl⟩,⟨rfl,.inr rfl,.inl rfl⟩,⟨rfl,.inr rfl,.inl rfl⟩,aza _,aza _,aza _,aza _,aza _,aza _,aza _,bz7 _⟩
theorem dqt(b:Sf.St):leL [.int .i64 1,.str b.lin,.int .i64 b.ser,.sl 13 .no (b.insts.map Sf.Inst.cells),.sl 3 .no (b.pends.map Sf.Pend.cells),.sl 7 .no (b.outs.map Sf.Outp.cells),.int .i64 0,.int .i64 0,.str [],.str [],.str [],.str [],.int .i64 0,.str [],.str [],.str [],.str [],.int .i64 0,.int .i64 0,.str [],.sl 0 .nil [],.sl 0 .nil [],.int .i64 0,.bool false,.bool false,.sl 0 .nil []] (Jr.cells ⟨1,b,0,0,[],[],[],[],0,Jr.zeroI⟩):=by
 unfold Jr.cells;rw[aju];exact⟨aza _,aza _,aza _,aza _,aza _,aza _,aza _,aza _,aza _,aza _,aza _,aza _,aza _,aza _,aza _,aza _,aza _,aza _,aza _,aza _,⟨rfl,.inr rfl,.inl rfl⟩,⟨rfl,.inr rfl,.inl rfl⟩,aza _,aza _,aza _,⟨rfl,.inr rfl,.inl rfl⟩,trivial⟩
theorem cwp(l:List UInt8):(Crc.ver l).1.length≤l.length:=by
 unfold Crc.ver;split
 ·simp
 ·split
  ·simp only[ZT];omega
  ·simp
theorem ck9(r:Jr)(b:Bool):(A.tup [.agg r.cells,.bool b]).pure=true:=by
 obtain⟨kd,⟨lin,ser,ins,ps,os⟩,st,op,ad,dp,ty,tk,er,⟨a1,a2,a3,a4,⟨k,nn,ss,is,ks⟩,v,tn,fi,ds⟩⟩:=r;simp[A.pure,A.data,Jr.cells,Sf.Inst.cells]
theorem cqz(l:List UInt8)(hl:l.length≤2000000)(h:Hp):AT 66 [.str l] h (.tup [.agg (Jr.recJ l).1.cells,.bool (Jr.recJ l).2]):=by
 refine pcall ?_ (ck9 _ _) (by simp[A.pure,A.data]) h;refine fo ?_;refine azx ti (ai (axq l) ti) ?_;have l1:=Wire.numR_rest ⟨l,0⟩;refine use (aqa (i:=1) (r:=⟨l,0⟩) rfl (by dsimp only;omega)) ?_;obtain⟨⟨r1,kd⟩,h1⟩:=Ex (Wire.numR ⟨l,0⟩);have hR:Jr.recJ l=((Jr.partJ ⟨r1,false⟩ { Jr.zeroR with kind:=kd }).2,!(Jr.partJ ⟨r1,false⟩ { Jr.zeroR with kind:=kd }).1.fails&&(Jr.partJ ⟨r1,false⟩ { Jr.zeroR with kind:=kd }).1.r.rest.length==0):=by
  unfold Jr.recJ Sf.numS Sf.rd;simp only[h1]
 rw[h1]at l1 ⊢;dsimp only at l1 ⊢;have natb:∀ n:Nat,(!false&&n==0)=((n:Int)==0):=fun n=>by cases n<;>simp;omega
 unfold Jr.partJ at hR;dsimp only at hR;by_cases k1:kd=1
 ·subst k1;rw[if_pos rfl]at hR;have l3:=Wire.strR_rest r1;have lB:=Sf.strS_len ⟨r1,false⟩;unfold Sf.strS at hR lB;have ct:=fun(h:Hp) hb=>aqj (i:=1) (r:=r1) (h:=h) hb (by omega)
  obtain⟨⟨r2,B⟩,h3⟩:=Ex (Wire.strR r1);dsimp only at hR lB;rw[h3]at hR ct l3 lB;dsimp only at hR ct l3 lB;have cd:=fun h=>cjc B (by omega) (cwp B) (fun ver r hr=>ax5 _ (Sf.state_in ver ⟨r,false⟩ (by dsimp only;omega))) h
  obtain⟨⟨⟨lin,ser,ins,ps,os⟩,e⟩,h4⟩:=Ex (Sf.decode B);rw[h4]at hR cd;dsimp only[Sf.St.A]at hR cd;refine azb ti ?_;refine use (ct _ rfl) ?_;refine azx ti (ai cd ti) ?_;have cf:=fun(h:Hp) h0 h1=>aq4 ⟨r2,e !=0⟩ (h:=h) (i:=2) (k:=1) (by decide) h0 h1
  obtain⟨F,hF⟩:=Ex ((⟨r2,e !=0⟩:Sf.Rs).fails);rw[hF]at cf hR;rw[hR];unfold JB at cf;refine azb ti ?_;refine use (cf _ rfl rfl) ?_;cases F with
  |true =>
   refine azb ti ?_;exact⟨_,axh (dqt ⟨lin,ser,ins,ps,os⟩),rfl⟩
  |false =>
   refine azb ti ?_;refine use (awm (i:=1) (r:=(⟨r2,e !=0⟩:Sf.Rs).r) rfl) ?_;refine azb ti ?_;exact⟨_,axh (dqt ⟨lin,ser,ins,ps,os⟩),by rw[natb];rfl⟩
 rw[if_neg k1]at hR;have f1:(kd==1)=false:=by simp[k1]
 by_cases k2:kd=2
 ·subst k2;rw[if_pos rfl]at hR;have cs:=fun(c0 c1 c2 c3 c4 c5 c6 c7 c8 c9 c10 c11 c12 c13 c14 c15 c16 c17 c18 c19 c20 c21 c22 c23 c24 c25:A) (Z:Blk)=>ak6 ⟨r1,false⟩ c0 c1 c2 c3 c4 c5 c6 c7 c8 c9 c10 c11 c12 c13 c14 c15 c16 c17 c18 c19 c20 c21 c22 c23 c24 c25 (by dsimp only;omega) Z [] []
  have l2:=avp ⟨r1,false⟩ Jr.zeroR;rw[avk]at hR;obtain⟨⟨⟨r2,b2⟩,y⟩,hy⟩:=Ex (Jr.stepJ ⟨r1,false⟩ Jr.zeroR);rw[hy]at cs hR l2;dsimp only at cs hR l2;unfold JB at cs;have l3:=Wire.strR_rest r2;unfold Sf.strS at hR;have ct:=fun(h:Hp) hb=>aqj (i:=1) (r:=r2) (h:=h) hb (by omega)
  obtain⟨⟨r3,tk⟩,h3⟩:=Ex (Wire.strR r2);dsimp only at hR;rw[h3]at hR ct l3;dsimp only at hR ct l3;refine azb ti ?_;refine use (cs _ _ _ _ _ _ _ _ _ _ _ _ _ _ _ _ _ _ _ _ _ _ _ _ _ _ _) ?_;refine azb ti ?_;refine use (ct _ rfl) ?_;refine azb ti ?_;have cf:=fun(h:Hp) h0 h1=>aq4 ⟨r3,b2⟩ (h:=h) (i:=2) (k:=1) (by decide) h0 h1
  obtain⟨F,hF⟩:=Ex ((⟨r3,b2⟩:Sf.Rs).fails);rw[hF]at cf hR;rw[hR];unfold JB at cf;refine azb ti ?_;refine use (cf _ rfl rfl) ?_;cases F with
  |true =>
   refine azb ti ?_;exact⟨_,axh (cyx 2 y.step y.op y.addr y.dep y.typ tk),rfl⟩
  |false =>
   refine azb ti ?_;refine use (awm (i:=1) (r:=(⟨r3,b2⟩:Sf.Rs).r) rfl) ?_;refine azb ti ?_;exact⟨_,axh (cyx 2 y.step y.op y.addr y.dep y.typ tk),by rw[natb];rfl⟩
 rw[if_neg k2]at hR;have f2:(kd==2)=false:=by simp[k2]
 by_cases k3:kd=3
 ·subst k3;rw[if_pos rfl]at hR;have cs:=fun(c0 c1 c2 c3 c4 c5 c6 c7 c8 c9 c10 c11 c12 c13 c14 c15 c16 c17 c18 c19 c20 c21 c22 c23 c24 c25:A) (Z:Blk)=>ak6 ⟨r1,false⟩ c0 c1 c2 c3 c4 c5 c6 c7 c8 c9 c10 c11 c12 c13 c14 c15 c16 c17 c18 c19 c20 c21 c22 c23 c24 c25 (by dsimp only;omega) Z [] []
  have l2:=avp ⟨r1,false⟩ Jr.zeroR;rw[avk]at hR;obtain⟨⟨⟨r2,b2⟩,y⟩,hy⟩:=Ex (Jr.stepJ ⟨r1,false⟩ Jr.zeroR);rw[hy]at cs hR l2;dsimp only at cs hR l2;unfold JB at cs;have ci:=fun(h:Hp) h0 h1=>bkb ⟨r2,b2⟩ (by dsimp only;omega) (h:=h) (i:=2) (k:=1) (by decide) h0 h1
  obtain⟨⟨⟨r3,b3⟩,af⟩,h3⟩:=Ex (Jr.instJ ⟨r2,b2⟩);rw[h3]at hR ci;dsimp only at hR ci;obtain⟨a1,a2,a3,a4,⟨k,nn,ss,is,ks⟩,v,tn,fi,ds⟩:=af;unfold JB at ci;simp only[Sf.Inst.cells]at ci;refine azb ti ?_;refine use (cs _ _ _ _ _ _ _ _ _ _ _ _ _ _ _ _ _ _ _ _ _ _ _ _ _ _ _) ?_;refine azb ti ?_;refine use (ci _ rfl rfl) ?_;refine azb ti ?_;have cf:=fun(h:Hp) h0 h1=>aq4 ⟨r3,b3⟩ (h:=h) (i:=2) (k:=1) (by decide) h0 h1
  obtain⟨F,hF⟩:=Ex ((⟨r3,b3⟩:Sf.Rs).fails);rw[hF]at cf hR;rw[hR];unfold JB at cf;refine azb ti ?_;refine use (cf _ rfl rfl) ?_;cases F with
  |true =>
   refine azb ti ?_;exact⟨_,axh (dz7 3 y.step y.op 0 y.addr y.dep y.typ ⟨a1,a2,a3,a4,.mk k nn ss is ks,v,tn,fi,ds⟩),rfl⟩
  |false =>
   refine azb ti ?_;refine use (awm (i:=1) (r:=(⟨r3,b3⟩:Sf.Rs).r) rfl) ?_;refine azb ti ?_;exact⟨_,axh (dz7 3 y.step y.op 0 y.addr y.dep y.typ ⟨a1,a2,a3,a4,.mk k nn ss is ks,v,tn,fi,ds⟩),by rw[natb];rfl⟩
 rw[if_neg k3]at hR;have f3:(kd==3)=false:=by simp[k3]
 by_cases k4:kd=4
 ·subst k4;rw[if_pos rfl]at hR;have cs:=fun(c0 c1 c2 c3 c4 c5 c6 c7 c8 c9 c10 c11 c12 c13 c14 c15 c16 c17 c18 c19 c20 c21 c22 c23 c24 c25:A) (Z:Blk)=>ak6 ⟨r1,false⟩ c0 c1 c2 c3 c4 c5 c6 c7 c8 c9 c10 c11 c12 c13 c14 c15 c16 c17 c18 c19 c20 c21 c22 c23 c24 c25 (by dsimp only;omega) Z [] []
  have l2:=avp ⟨r1,false⟩ Jr.zeroR;rw[avk]at hR;obtain⟨⟨⟨r2,b2⟩,y⟩,hy⟩:=Ex (Jr.stepJ ⟨r1,false⟩ Jr.zeroR);rw[hy]at cs hR l2;dsimp only at cs hR l2;unfold JB at cs;unfold Sf.numS at hR;have l3:=Wire.numR_rest r2;have cn:=fun(h:Hp) hb=>aqa (i:=1) (r:=r2) (h:=h) hb (by omega)
  obtain⟨⟨r3,er⟩,h3⟩:=Ex (Wire.numR r2);dsimp only at hR;rw[h3]at hR cn l3;dsimp only at hR cn l3;have ci:=fun(h:Hp) h0 h1=>bkb ⟨r3,b2⟩ (by dsimp only;omega) (h:=h) (i:=2) (k:=1) (by decide) h0 h1
  obtain⟨⟨⟨r4,b4⟩,af⟩,h4⟩:=Ex (Jr.instJ ⟨r3,b2⟩);rw[h4]at hR ci;dsimp only at hR ci;obtain⟨a1,a2,a3,a4,⟨k,nn,ss,is,ks⟩,v,tn,fi,ds⟩:=af;unfold JB at ci;simp only[Sf.Inst.cells]at ci;refine azb ti ?_;refine use (cs _ _ _ _ _ _ _ _ _ _ _ _ _ _ _ _ _ _ _ _ _ _ _ _ _ _ _) ?_;refine azb ti ?_;refine use (cn _ rfl) ?_;refine azb ti ?_;refine use (ci _ rfl rfl) ?_;refine azb ti ?_;have cf:=fun(h:Hp) h0 h1=>aq4 ⟨r4,b4⟩ (h:=h) (i:=2) (k:=1) (by decide) h0 h1
  obtain⟨F,hF⟩:=Ex ((⟨r4,b4⟩:Sf.Rs).fails);rw[hF]at cf hR;rw[hR];unfold JB at cf;refine azb ti ?_;refine use (cf _ rfl rfl) ?_;cases F with
  |true =>
   refine azb ti ?_;exact⟨_,axh (dz7 4 y.step y.op er y.addr y.dep y.typ ⟨a1,a2,a3,a4,.mk k nn ss is ks,v,tn,fi,ds⟩),rfl⟩
  |false =>
   refine azb ti ?_;refine use (awm (i:=1) (r:=(⟨r4,b4⟩:Sf.Rs).r) rfl) ?_;refine azb ti ?_;exact⟨_,axh (dz7 4 y.step y.op er y.addr y.dep y.typ ⟨a1,a2,a3,a4,.mk k nn ss is ks,v,tn,fi,ds⟩),by rw[natb];rfl⟩
 rw[if_neg k4]at hR;have f4:(kd==4)=false:=by simp[k4]
 refine azb (ai f1 (ai f2 (ai f3 f4))) ?_;have cf:=fun(h:Hp) h0 h1=>aq4 ⟨r1,false⟩ (h:=h) (i:=2) (k:=1) (by decide) h0 h1
 obtain⟨F,hF⟩:=Ex ((⟨r1,false⟩:Sf.Rs).fails);rw[hF]at cf hR;rw[hR];unfold JB at cf;refine azb ti ?_;refine use (cf _ rfl rfl) ?_;cases F with
 |true =>
  refine azb ti ?_;exact⟨_,axh (cyx kd 0 0 [] [] [] []),rfl⟩
 |false =>
  refine azb ti ?_;refine use (awm (i:=1) (r:=(⟨r1,false⟩:Sf.Rs).r) rfl) ?_;refine azb ti ?_;exact⟨_,axh (cyx kd 0 0 [] [] [] []),by rw[natb];rfl⟩
end AX
end Go.Proofs.YtdgcbckcameggadGreatDoor

namespace Go.Proofs.YtdgcbckcameggadGreatDoor
namespace Jr
open Sf (Rs rd numS strS flagS cntS)
def firstJ(b:List UInt8):Option (Jr×Nat):=
 if b=[]then none
 else
  let s:=strS (rd b)
  let n:=b.length-s.1.r.rest.length+4
  if s.1.r.e≠0∨b.length<n∨1048576<n then none
  else
   let x:=recJ s.2
   if x.2=false then none
   else if(enc x.1).2≠0∨(enc x.1).1≠b.take n then none else some (x.1,n)
def BaseOk(r:Jr):Prop:=r.kind=1→Sf.decode (Sf.encode 2 r.base).1=(r.base,0)∧(Sf.encode 2 r.base).1.length≤1048576
theorem enc_ok{r:Jr}(h:(enc r).2=0):r.validB=true∧(enc r).1=Crc.app (Wire.strE r.body)∧(Crc.app (Wire.strE r.body)).length≤1048576:=by
 unfold enc at h ⊢;by_cases h1:r.validB=false
 ·rw[if_pos h1]at h;cases h
 rw[if_neg h1]at h ⊢;by_cases h2:r.kind=1∧(Sf.encode 2 r.base).2≠0
 ·rw[if_pos h2]at h;exact absurd h h2.2
 rw[if_neg h2]at h ⊢;by_cases h3:1048576<(Crc.app (Wire.strE r.body)).length
 ·rw[if_pos h3]at h;cases h
 rw[if_neg h3];exact⟨by simpa using h1,rfl,by omega⟩
theorem first_enc(r:Jr)(rest:List UInt8)(h:(enc r).2=0)(hb:BaseOk r):firstJ ((enc r).1++rest)=some (r,(enc r).1.length):=by
 obtain⟨hv,he,hl⟩:=enc_ok h;have hr:=rec_enc r hv hb;have happ:Crc.app (Wire.strE r.body)=Wire.strE r.body++Crc.four (Crc.upd 0 (Wire.strE r.body)):=rfl;have h4:(Crc.four (Crc.upd 0 (Wire.strE r.body))).length=4:=Crc.four_length _;obtain⟨F,hF⟩:=Ex (Crc.four (Crc.upd 0 (Wire.strE r.body)));rw[hF]at happ h4;have hbl:r.body.length≤(Wire.strE r.body).length:=by unfold Wire.strE;rw[Za];omega
 have hlen:(Wire.strE r.body++F).length≤1048576:=by rw[←happ];exact hl
 rw[Za,h4]at hlen;have hs:strS (rd ((enc r).1++rest))=(rd (F++rest),r.body):=by
  rw[he,happ,Zg];exact Sf.str_enc _ _ (by omega)
 have hL:(enc r).1.length=(Wire.strE r.body).length+4:=by rw[he,happ,Za,h4]
 have hne:(enc r).1++rest≠[]:=by
  intro e;have:=congrArg List.length e;rw[Za,hL]at this;simp at this
 unfold firstJ;rw[if_neg hne];dsimp only;rw[hs];have hn:((enc r).1++rest).length-(rd (F++rest)).r.rest.length+4=(enc r).1.length:=by
  show((enc r).1++rest).length-(F++rest).length+4=_
  rw[Za,Za,h4,hL];omega
 rw[hn,if_neg (by
  rintro(e|e|e)
  ·exact e rfl
  ·rw[Za]at e;omega
  ·omega)]
 rw[hr];dsimp only
 rw[if_neg (by decide),if_neg (by
  rintro(e|e)
  ·exact e h
  ·exact e (by rw[List.take_left]))]
theorem first_some{b:List UInt8}{x:Jr}{n:Nat}(h:firstJ b=some (x,n)):enc x=(b.take n,0)∧4≤n∧n≤b.length:=by
 unfold firstJ at h;split at h
 ·cases h
 dsimp only at h;split at h
 ·cases h
 next h1 =>
 split at h
 ·cases h
 split at h
 ·cases h
 next h2 =>
 injection h with h;injection h with e1 e2;subst e1;rw[not_or,Decidable.not_not,Decidable.not_not]at h2;rw[not_or,not_or]at h1;subst e2;refine⟨?_,by omega,by omega⟩;rw[←h2.2,←h2.1]
def readF:Nat→List UInt8→List Jr×Nat
 |0,_=>([],0)
 |k+1,b=>match firstJ b with
  |none=>([],0)
  |some (x,n)=>(x::(readF k (b.drop n)).1,n+(readF k (b.drop n)).2)
def readJ(b:List UInt8):List Jr×Nat:=readF b.length b
theorem readF_le:∀(k m:Nat) (b:List UInt8),b.length≤k→b.length≤m→readF k b=readF m b
 |0,0,b,_,_=>rfl
 |0,m+1,b,hk,_=>by
  have:b=[]:=Y5.1 (by omega);subst this;rfl
 |k+1,0,b,_,hm=>by
  have:b=[]:=Y5.1 (by omega);subst this;rfl
 |k+1,m+1,b,hk,hm=>by
  unfold readF;cases h:firstJ b with
  |none=>rfl
  |some p =>
   obtain⟨x,n⟩:=p;have:=first_some h;dsimp only;rw[readF_le k m (b.drop n) (by rw[ZB];omega) (by rw[ZB];omega)]
theorem readJ_cons{b:List UInt8}{x:Jr}{n:Nat}(h:firstJ b=some (x,n)):readJ b=(x::(readJ (b.drop n)).1,n+(readJ (b.drop n)).2):=by
 have hn:=first_some h;unfold readJ;obtain⟨k,hk⟩:∃ k,b.length=k+1:=⟨b.length-1,by omega⟩;rw[hk]
 conv=>lhs;unfold readF
 rw[h];dsimp only;rw[readF_le k (b.drop n).length (b.drop n) (by rw[ZB];omega) (Zf _)]
theorem readJ_none{b:List UInt8}(h:firstJ b=none):readJ b=([],0):=by
 unfold readJ;cases hb:b.length with
 |zero=>rfl
 |succ k=>unfold readF;rw[h]
def encs(l:List Jr):List UInt8:=l.flatMap fun r=>(enc r).1
theorem read_encs:∀(l:List Jr) (rest:List UInt8),(∀ r∈l,(enc r).2=0∧BaseOk r)→readJ (encs l++rest)=(l++(readJ rest).1,(encs l).length+(readJ rest).2)
 |[],rest,_=>by simp[encs]
 |r::l,rest,h=>by
  have hr:=h r Yg;have e:encs (r::l)++rest=(enc r).1++(encs l++rest):=by simp[encs,Zg]
  rw[e,readJ_cons (first_enc r _ hr.1 hr.2),List.drop_left,read_encs l rest fun x hx=>h x (Z5 _ hx)];simp[encs,Nat.add_assoc]
end Jr
end Go.Proofs.YtdgcbckcameggadGreatDoor

namespace Go.Proofs.YtdgcbckcameggadGreatDoor
namespace Jr
open Sf (Rs rd numS strS flagS cntS Took)
theorem words_tookJ:∀(c:Nat) (s:Rs) (l:List (List UInt8)),(wordsJ c s l).1.fails=false→∃ l',(wordsJ c s l).2=l++l'∧l'.length=c∧Took s (wordsJ c s l).1 (Sf.wordsE l')
 |0,s,l,h=>⟨[],by simp[wordsJ],rfl,h,by simp[wordsJ,Sf.wordsE]⟩
 |c+1,s,l,h=>by
  unfold wordsJ at h ⊢;by_cases hf:s.fails=true
  ·rw[if_pos hf]at h;rw[hf]at h;cases h
  rw[if_neg hf]at h ⊢;obtain⟨l',h1,h2,h3⟩:=words_tookJ c (strS s).1 _ h;refine⟨(strS s).2::l',by rw[h1];simp,by simp[h2],?_⟩;have:=(Sf.str_took h3.1).trans h3;simpa [Sf.wordsE]using this
theorem step_took{s:Rs}{x:Jr}(h:(stepJ s x).1.fails=false):Took s (stepJ s x).1 (stepE (stepJ s x).2):=by
 unfold stepJ at h ⊢;dsimp only at h ⊢;have h5:=Sf.str_took h;have h4:=Sf.str_took h5.1;have h3:=Sf.str_took h4.1;have h2:=Sf.num_took h3.1;have h1:=Sf.num_took h2.1;have:=(((h1.trans h2).trans h3).trans h4).trans h5;exact this
theorem inst_tookJ{s:Rs}(h:(instJ s).1.fails=false):Took s (instJ s).1 (Sf.instE 2 (instJ s).2):=by
 unfold instJ at h ⊢;obtain⟨a,ha⟩:=Ex (strS s);have ta:a.1.fails=false→Took s a.1 (Wire.strE a.2):=by rw[←ha];exact Sf.str_took
 rw[ha]at h ⊢;obtain⟨b,hb⟩:=Ex (strS a.1);have tb:b.1.fails=false→Took a.1 b.1 (Wire.strE b.2):=by rw[←hb];exact Sf.str_took
 dsimp only at h ⊢;rw[hb]at h ⊢;obtain⟨c,hc⟩:=Ex (strS b.1);have tc:c.1.fails=false→Took b.1 c.1 (Wire.strE c.2):=by rw[←hc];exact Sf.str_took
 rw[hc]at h ⊢;obtain⟨d,hd⟩:=Ex (strS c.1);have td:d.1.fails=false→Took c.1 d.1 (Wire.strE d.2):=by rw[←hd];exact Sf.str_took
 rw[hd]at h ⊢;clear ha hb hc hd;cases hdf:d.1.fails with
 |true=>first|(rw[hdf,if_pos rfl,hdf]at h;cases h)|(rw[if_pos rfl,hdf]at h;cases h)
 |false =>
 rw[hdf,if_neg (by decide)]at h;rw[if_neg (by decide)];have tv:=fun e=>Val.readValue_back (r:=d.1.r) e
 obtain⟨v,hv⟩:=Ex (Val.readValue d.1.r);rw[hv]at h tv ⊢;clear hv;by_cases e:v.2.1≠0
 ·rw[if_pos e]at h;simp[Sf.Rs.fails]at h
 rw[if_neg e]at h ⊢;have e0:v.2.1=0:=by simpa using e
 have tv':Took d.1 ⟨v.1,d.1.bad⟩ (Val.enc v.2.2):=⟨hdf,(tv e0).2.2⟩;obtain⟨n,hn⟩:=Ex (numS ⟨v.1,d.1.bad⟩);have tn:n.1.fails=false→Took ⟨v.1,d.1.bad⟩ n.1 (Wire.num n.2):=by rw[←hn];exact Sf.num_took
 rw[hn]at h ⊢;obtain⟨t,ht⟩:=Ex (flagS n.1);have tt:t.1.fails=false→Took n.1 t.1 (Sf.flagE t.2):=by rw[←ht];exact Sf.flag_took
 rw[ht]at h ⊢;obtain⟨f,hf⟩:=Ex (flagS t.1);have tf:f.1.fails=false→Took t.1 f.1 (Sf.flagE f.2):=by rw[←hf];exact Sf.flag_took
 rw[hf]at h ⊢;obtain⟨k,hk⟩:=Ex (cntS f.1);have tk:k.1.fails=false→Took f.1 k.1 (Wire.num (k.2:Nat)):=by rw[←hk];exact Sf.cnt_took
 rw[hk]at h ⊢;clear hn ht hf hk tv e;have hw:=words_tookJ k.2 k.1 [] h;obtain⟨w,hw'⟩:=Ex (wordsJ k.2 k.1 []);rw[hw']at hw h ⊢;obtain⟨ws,w1,w2,w3⟩:=hw;have hk1:=tk w3.1;have hf1:=tf hk1.1;have ht1:=tt hf1.1;have hn1:=tn ht1.1;have hd1:=td hdf;have hc1:=tc hd1.1;have hb1:=tb hc1.1;have ha1:=ta hb1.1;have all:=((((((((ha1.trans hb1).trans hc1).trans hd1).trans tv').trans hn1).trans ht1).trans hf1).trans hk1).trans w3;rw[Zi]at w1;unfold Sf.instE;dsimp only;rw[if_pos rfl,w1,w2];exact all
theorem rec_took{l:List UInt8}{x:Jr}(h:recJ l=(x,true)) :
  (x.kind=1∧x.after=zeroI∧x.tok=[]∧x.step=0∧x.op=0∧x.addr=[]∧x.dep=[]∧x.typ=[]∧∃ B,l=Wire.num 1++Wire.strE B∧Sf.decode B=(x.base,0)) ∨
  (x.kind=2∧x.base=Sf.zero∧x.after=zeroI∧l=Wire.num 2++(stepE x++Wire.strE x.tok)) ∨
  (x.kind=3∧x.base=Sf.zero∧x.tok=[]∧l=Wire.num 3++(stepE x++Sf.instE 2 x.after)) ∨
  (x.kind=4∧x.base=Sf.zero∧x.tok=[]∧l=Wire.num 4++(stepE x++(Wire.num x.err++Sf.instE 2 x.after))) ∨
  x={ zeroR with kind:=x.kind }:=by
 unfold recJ at h;dsimp only at h;injection h with h1 h2;rw[Zc,Yv,ZC,Y5]at h2;obtain⟨hf,hr⟩:=h2;obtain⟨kd,hkd⟩:=Ex ((numS (rd l)).2);rw[hkd]at h1 hf hr;unfold partJ at h1 hf hr;dsimp only at h1 hf hr;by_cases k1:kd=1
 ·subst k1;rw[if_pos rfl]at h1 hf hr;dsimp only at h1 hf hr;have hf':=(Sf.fails_iff _).1 hf;have hs:(strS (numS (rd l)).1).1.fails=false:=by
   rw[Sf.fails_iff];refine⟨?_,hf'.2⟩;rfl
  have t:=Sf.str_took hs;have n:=Sf.num_took t.1;have all:=(n.trans t).2;have hr':(strS (numS (rd l)).1).1.r.rest=[]:=hr;rw[hr',hkd,Zr]at all;left
  subst h1;refine⟨rfl,rfl,rfl,rfl,rfl,rfl,rfl,rfl,(strS (numS (rd l)).1).2,all,?_⟩;have hz:(Sf.decode (strS (numS (rd l)).1).2).2=0:=by
   have:=hf'.1;simpa using this
  exact Prod.ext rfl hz
 rw[if_neg k1]at h1 hf hr;by_cases k2:kd=2
 ·subst k2;rw[if_pos rfl]at h1 hf hr;dsimp only at h1 hf hr;have t:=Sf.str_took hf;have p:=step_took t.1;have n:=Sf.num_took p.1;have all:=((n.trans p).trans t).2;rw[hr,hkd,Zr,Zg]at all;right;left
  subst h1;exact⟨rfl,rfl,rfl,all⟩
 rw[if_neg k2]at h1 hf hr;by_cases k3:kd=3
 ·subst k3;rw[if_pos rfl]at h1 hf hr;dsimp only at h1 hf hr;have t:=inst_tookJ hf;have p:=step_took t.1;have n:=Sf.num_took p.1;have all:=((n.trans p).trans t).2;rw[hr,hkd,Zr,Zg]at all;right;right;left
  subst h1;exact⟨rfl,rfl,rfl,all⟩
 rw[if_neg k3]at h1 hf hr;by_cases k4:kd=4
 ·subst k4;rw[if_pos rfl]at h1 hf hr;dsimp only at h1 hf hr;have t:=inst_tookJ hf;have e:=Sf.num_took t.1;have p:=step_took e.1;have n:=Sf.num_took p.1;have all:=(((n.trans p).trans e).trans t).2;rw[hr,hkd,Zr,Zg,Zg]at all;right;right;right;left
  subst h1;exact⟨rfl,rfl,rfl,all⟩
 rw[if_neg k4]at h1;right;right;right;right
 subst h1;rfl
end Jr
end Go.Proofs.YtdgcbckcameggadGreatDoor

namespace Go.Proofs.YtdgcbckcameggadGreatDoor
open Go.RowKit
namespace AX
def firstA(b:List UInt8):A:=
 match Jr.firstJ b with
 |some (x,n) => .tup [.agg x.cells,.int .i64 (n:Nat),.bool true]
 |none => .tup [.agg Jr.zeroR.cells,.int .i64 0,.bool false]
theorem ajz{xs ys:List A}{n:Int}{b:Bool}(h:leL xs ys):le (.tup [.agg xs,.int .i64 n,.bool b]) (.tup [.agg ys,.int .i64 n,.bool b]):=⟨h,aqu _,aqu _,trivial⟩
theorem bjl(b:List UInt8):(firstA b).pure=true:=by
 have key:∀(r:Jr) (n:Int) (c:Bool),(A.tup [.agg r.cells,.int .i64 n,.bool c]).pure=true:=fun r n c=>by
  obtain⟨kd,⟨lin,ser,ins,ps,os⟩,st,op,ad,dp,ty,tk,er,⟨a1,a2,a3,a4,⟨k,nn,ss,is,ks⟩,v,tn,fi,ds⟩⟩:=r;simp[A.pure,A.data,Jr.cells,Sf.Inst.cells]
 unfold firstA;split<;>exact key _ _ _
theorem cjo(b:List UInt8)(hl:b.length≤2000000)(cE:∀ x,Jr.recJ (Sf.strS (Sf.rd b)).2=(x,true)→∀ h,AT 13 [.agg x.cells] h (.tup [.str (Jr.enc x).1,.int .i64 (Jr.enc x).2]))(h:Hp) :
  AT 33 [.str b] h (firstA b):=by
 refine pcall ?_ (bjl b) (by simp[A.pure,A.data]) h;refine fo ?_;have hz:=cyx 0 0 0 [] [] [] [];have none_:Jr.firstJ b=none→firstA b=.tup [.agg Jr.zeroR.cells,.int .i64 0,.bool false]:=fun e=>by unfold firstA;rw[e]
 by_cases hb:b=[]
 ·subst hb;rw[none_ rfl];refine azx ti ti ?_;exact⟨_,ajz hz,rfl⟩
 have e0:(b == [])=false:=by simp[hb]
 have l1:=Wire.strR_rest ⟨b,0⟩;have lt:=Sf.strS_len (Sf.rd b);have hF:Jr.firstJ b=(let s:=Sf.strS (Sf.rd b);let n:=b.length-s.1.r.rest.length+4;if s.1.r.e≠0∨b.length<n∨1048576<n then none else let x:=Jr.recJ s.2;if x.2=false then none else if(Jr.enc x.1).2≠0∨(Jr.enc x.1).1≠b.take n then none else some (x.1,n)):=by
  conv=>lhs;unfold Jr.firstJ
  rw[if_neg hb]
 obtain⟨⟨r1,t⟩,h1⟩:=Ex (Wire.strR ⟨b,0⟩);have hS:Sf.strS (Sf.rd b)=(⟨r1,false⟩,t):=by unfold Sf.strS Sf.rd;rw[h1]
 rw[hS]at hF lt cE;have cs:=aqj (i:=1) (r:=⟨b,0⟩) (h:=⟨[.cells 45 [.int .i64 0,.str [],.int .i64 0,.sl 0 .nil [],.sl 0 .nil [],.sl 0 .nil [],.int .i64 0,.int .i64 0,.str [],.str [],.str [],.str [],.int .i64 0,.str [],.str [],.str [],.str [],.int .i64 0,.int .i64 0,.str [],.sl 0 .nil [],.sl 0 .nil [],.int .i64 0,.bool false,.bool false,.sl 0 .nil []],rdr ⟨b,0⟩],[]⟩) rfl (by dsimp only;omega);rw[h1]at cs l1;dsimp only at hF lt cE cs l1;have lt':t.length≤b.length:=lt;have cr:=cqz t (by omega);obtain⟨n,hn⟩:=Ex (b.length-r1.rest.length+4);rw[hn]at hF;have w1:IntKind.i64.wrap ((b.length:Int)-(r1.rest.length:Int))=(b.length:Int)-(r1.rest.length:Int):=wrap64 (by omega) (by omega);have w2:IntKind.i64.wrap ((b.length:Int)-(r1.rest.length:Int)+4)=(n:Int):=by rw[wrap64 (by omega) (by omega)];omega
 refine azx e0 (ai (axq b) ti) ?_;refine use cs ?_;refine azb ti ?_;refine use (awm (i:=1) (r:=r1) rfl) ?_;refine azb (ai w1 w2) ?_;refine use (bqj (i:=1) (r:=r1) rfl) ?_;by_cases g1:r1.e≠0
 ·have q1:(r1.e !=0)=true:=by simp[g1]
  rw[none_ (by rw[hF,if_pos (.inl g1)])];refine azb q1 ?_;exact⟨_,ajz hz,rfl⟩
 have q1:(r1.e !=0)=false:=by simpa using g1
 by_cases g2:b.length<n
 ·have q2:(n:Int)>(b.length:Int):=by omega
  rw[none_ (by rw[hF,if_pos (.inr (.inl g2))])];refine azb (ai q1 q2) ?_;exact⟨_,ajz hz,rfl⟩
 have q2:¬(n:Int)>(b.length:Int):=by omega
 by_cases g3:1048576<n
 ·have q3:(n:Int)>1048576:=by omega
  rw[none_ (by rw[hF,if_pos (.inr (.inr g3))])];refine azb (ai q1 (ai q2 q3)) ?_;exact⟨_,ajz hz,rfl⟩
 have q3:¬(n:Int)>1048576:=by omega
 rw[if_neg (by rintro(e|e|e);exact g1 e;exact g2 e;exact g3 e)]at hF;obtain⟨⟨x,ok⟩,hx⟩:=Ex (Jr.recJ t);rw[hx]at hF cE cr;dsimp only at hF cE cr;cases ok with
 |false =>
  rw[if_pos rfl]at hF;rw[none_ hF];obtain⟨kd,⟨lin,ser,ins,ps,os⟩,st,op,ad,dp,ty,tk,er,⟨a1,a2,a3,a4,⟨k,nn,ss,is,ks⟩,v,tn,fi,ds⟩⟩:=x;simp only[Jr.cells,Sf.Inst.cells,Zl,Zi]at cr;refine azx (ai q1 (ai q2 q3)) (ai cr ti) ?_;exact⟨_,ajz hz,rfl⟩
 |true =>
  rw[if_neg (by decide)]at hF;have ce:=cE x rfl;obtain⟨⟨R,E⟩,hE⟩:=Ex (Jr.enc x);rw[hE]at hF ce;dsimp only at hF ce;have hsome:¬(E≠0∨R≠b.take n)→firstA b=.tup [.agg x.cells,.int .i64 (n:Nat),.bool true]:=fun e=>by unfold firstA;rw[hF,if_neg e]
  have hnone:(E≠0∨R≠b.take n)→firstA b=.tup [.agg Jr.zeroR.cells,.int .i64 0,.bool false]:=fun e=>none_ (by rw[hF,if_pos e])
  clear hF cE hE hx;obtain⟨kd,⟨lin,ser,ins,ps,os⟩,st,op,ad,dp,ty,tk,er,⟨a1,a2,a3,a4,⟨k,nn,ss,is,ks⟩,v,tn,fi,ds⟩⟩:=x;simp only[Jr.cells,Sf.Inst.cells,Zl,Zi]at cr ce hsome;by_cases g4:E≠0
  ·have q4:(E !=0)=true:=by simp[g4]
   rw[hnone (.inl g4)];refine azx (ai q1 (ai q2 (ai q3 q4))) (ai cr (ai ce ti)) ?_;exact⟨_,ajz hz,rfl⟩
  have q4:(E !=0)=false:=by simpa using g4
  have hsl:(0:Int)≤(n:Int)∧(n:Int)≤(b.length:Int):=by omega
  by_cases g5:R≠b.take n
  ·have q5:(R !=b.take n)=true:=by simp[g5]
   rw[hnone (.inr g5)];refine azx (ai q1 (ai q2 (ai q3 (ai q4 (ai q5 hsl))))) (ai cr (ai ce ti)) ?_;exact⟨_,ajz hz,rfl⟩
  have q5:(R !=b.take n)=false:=by simpa using g5
  rw[hsome (by rintro(e|e);exact g4 e;exact g5 e)];refine azx (ai q1 (ai q2 (ai q3 (ai q4 (ai q5 hsl))))) (ai cr (ai ce ti)) ?_;exact⟨_,le_refl _,rfl⟩
end AX
namespace Jr
def appE(l:List UInt8)(r:Jr):List UInt8×Int:=
 if(enc r).2≠0 then(l,(enc r).2)else if 1048576<l.length+(enc r).1.length then(l,3)else(l++(enc r).1,0)
end Jr
namespace AX
def lgB(l:List UInt8):Blk:=if l=[]then .cells 62 [.nilp,.sl 0 .nil []]else lwt l
theorem cqn(l:List UInt8):(lgB l).loc 0:=by
 unfold lgB;split
 ·rfl
 ·intro o x h;cases h
theorem ckf{h:Hp}{i:Nat}{l:List UInt8}(hb:h.b[i]?=some (lgB l)):Lt h i l:=by
 unfold lgB at hb;split at hb
 ·next e=>exact .inr ⟨e,hb⟩
 ·exact .inl hb
theorem cwo{r:Jr}(h:(Jr.enc r).2=0):(Jr.enc r).1≠[]:=by
 rw[(Jr.enc_ok h).2.1];intro e;have:=congrArg List.length e;simp[Crc.app,Crc.four_length]at this
theorem bwh{h:Hp}{i:Nat}{l:List UInt8}(hbx:h.b[i]?=some (lgB l))(hl:l.length≤1048576)(r:Jr)(he:(Jr.enc r).1.length≤1048576)(cE:∀ h,AT 13 [.agg r.cells] h (.tup [.str (Jr.enc r).1,.int .i64 (Jr.enc r).2])) :
  AC 8 [.ptr i 0,.agg r.cells] h fun v h'=>v=.int .i64 (Jr.appE l r).2∧h'.b[i]?=some (lgB (Jr.appE l r).1)∧h.b.length≤h'.b.length∧(∀ j x,j≠i→h.b[j]?=some x→h'.b[j]?=some x)∧h'.t=h.t:=by
 have hw:=ckf hbx;have hR:=cwo (r:=r);have hi:=hw.lt;have lt2:∀ m:List Blk,Lt ⟨h.b++m,h.t⟩ i l:=fun m=>by
  rcases hw with h1|⟨h0,h1⟩
  ·exact .inl (azk h1)
  ·exact .inr ⟨h0,azk h1⟩
 refine fo ?_;obtain⟨⟨R,E⟩,hE⟩:=Ex (Jr.enc r);have hA:Jr.appE l r=if E≠0 then(l,E)else if 1048576<l.length+R.length then(l,3)else(l++R,0):=by unfold Jr.appE;rw[hE]
 rw[hA];rw[hE]at cE he hR;dsimp only at cE he hR;clear hA hE;obtain⟨kd,⟨lin,ser,ins,ps,os⟩,st,op,ad,dp,ty,tk,er,⟨a1,a2,a3,a4,⟨k,nn,ss,is,ks⟩,v,tn,fi,ds⟩⟩:=r;simp only[Jr.cells,Sf.Inst.cells,Zl,Zi]at cE ⊢;have fin:∀ m:List Blk,h.b.length≤(h.b++m).length∧(∀ j x,j≠i→h.b[j]?=some x→(h.b++m)[j]?=some x):=fun m=>⟨by simp,fun j x _ hx=>azk hx⟩
 refine azb ti ?_;refine use (cE _) ?_;by_cases e:E≠0
 ·have q:(E !=0)=true:=by simp[e]
  rw[if_pos e];refine azb q ?_;exact⟨_,le_refl _,rfl,azk hbx,(fin _).1,(fin _).2,rfl⟩
 have q:(E !=0)=false:=by simpa using e
 rw[if_neg e];refine azb q ?_;refine use (ckm (lt2 _)) ?_;have w1:IntKind.i64.wrap ((l.length:Int)+(R.length:Int))=(l.length:Int)+(R.length:Int):=wrap64 (by omega) (by omega);by_cases g:1048576<l.length+R.length
 ·have g':(1048576:Int)<(l.length:Int)+(R.length:Int):=by omega
  rw[if_pos g];refine azb (ai w1 g') ?_;exact⟨_,le_refl _,rfl,azk hbx,(fin _).1,(fin _).2,rfl⟩
 have g':¬((1048576:Int)<(l.length:Int)+(R.length:Int)):=by omega
 rw[if_neg g];refine azb (ai w1 g') ?_;refine use (bvm (lt2 _) R (by omega)) ?_;refine azb ti ?_
 have e4:lgB (l++R)=lwt (l++R):=if_neg (by
  intro e'
  exact hR (by simpa using e) (List.append_eq_nil_iff.1 e').2)
 rw[e4];refine⟨_,le_refl _,rfl,by rw[Y9 (by simp;omega)],by simp,fun j x hj hx=>?_,rfl⟩;rw[Zas (fun e=>hj e.symm)];exact azk hx
theorem ACall.lift1x{P:Program}{G:World→Prop}{f:FuncId}{x x':A}{args:List A}{b:Blk}{i:Nat}{Q0:A→Blk→Prop}(hx:x.loc 1=true)(hx':x.ren (fun _=>i)=x')(hc:ACall P G f (x::args) ⟨[b],[]⟩ fun v h'=>∃ b',h'.b[0]?=some b'∧Q0 v b')
  (ha:A.locL 0 args=true) (hb:b.loc 0) (hq:∀ v b',Q0 v b'→v.loc 0=true∧b'.loc 0) {h:Hp} (hh:h.b[i]?=some b) :
  ACall P G f (x'::args) h fun v h'=>∃ b',Q0 v b'∧h'=⟨h.b.set i b',h.t⟩:=by
 have key:=ACall.lift hc (fun _=>i) (fun a b ha hb _=>by simp at ha hb;omega) (by unfold A.locL;rw[(A.locL0 _ args ha).1];simp only[Y3,hx,Bool.and_self]) (fun x hx=>by simp at hx;subst hx;exact(Blk.loc0 _ _ hb).1)
  (fun v h' ⟨b',h1,h2⟩=>⟨(A.loc0 _ v (hq v b' h2).1).1,fun j x hj hx=>by
   have:j=0:=by simpa using hj
   subst this;rw[h1]at hx;injection hx with hx;subst hx
   exact(Blk.loc0 _ _ (hq v b' h2).2).1⟩) (h:=h) (fun j hj=>by
   have:j=0:=by simpa using hj
   subst this
   rw[hh];show some b=some (b.ren _);rw[(Blk.loc0 0 _ hb).2])
 have e:A.renL (fun _=>i) (x::args)=x'::args:=by unfold A.renL;rw[(A.locL0 0 args ha).2,hx']
 rw[e]at key;refine key.mono ?_;rintro v h' ⟨v0,h0,⟨b',h1,h2⟩,rfl,rfl⟩;obtain⟨k1,k2⟩:=hq v0 b' h2;refine⟨b',by rw[(A.loc0 0 v0 k1).2];exact h2,?_⟩;have:h0.b.take [b].length=[b']:=by
  obtain⟨_|⟨x,l⟩,t0⟩:=h0
  ·simp at h1
  ·simp at h1;subst h1;simp
 rw[this];show(⟨setAll _ h.b 0 [b'],h.t⟩:Hp)=_
 unfold setAll setAll;rw[(Blk.loc0 0 _ k2).2]
def jwB(s:List UInt8):Blk:=.cells 73 [.str s]
theorem czh(s:List UInt8):(jwB s).loc 0:=rfl
section
variable {f:FuncId} {x x':A} {args:List A} {s s':List UInt8} {h:Hp} {i:Nat}
theorem liftJ(hx:x.loc 1=true)(hx':x.ren (fun _=>i)=x')(hc:AC f (x::args) ⟨[jwB s],[]⟩ fun v h'=>v=.tup []∧h'.b[0]?=some (jwB s'))(ha:A.locL 0 args=true)(hb:h.b[i]?=some (jwB s)) :
  AC f (x'::args) h fun v h'=>v=.tup []∧h'=⟨h.b.set i (jwB s'),h.t⟩:=by
 refine(ACall.lift1x (Q0:=fun v b'=>v=.tup []∧b'=jwB s') hx hx' (hc.mono fun v h' ⟨e,hp⟩=>⟨_,hp,e,rfl⟩) ha (czh s) ?_ hb).mono ?_
 ·rintro v b' ⟨rfl,rfl⟩;exact⟨rfl,czh s'⟩
 ·rintro v h' ⟨b',⟨rfl,rfl⟩,rfl⟩;exact⟨rfl,rfl⟩
end
theorem ajy(s:List UInt8)(n:Int)(hs:s.length≤1000000000)(h0:-9223372036854775808≤n)(h1:n≤9223372036854775807){h:Hp}{i:Nat}(hb:h.b[i]?=some (jwB s)) :
  AC 26 [.ptr i 0,.int .i64 n] h fun v h'=>v=.tup []∧h'=⟨h.b.set i (jwB (s++Wire.num n)),h.t⟩:=by
 refine liftJ (x:=.ptr 0 0) rfl rfl ?_ rfl hb;have c:=aqn s n hs h0 h1;refine fo ?_;unfold jwB;refine azx ti (ai c ti) ?_;exact⟨_,le_refl _,rfl,rfl⟩
theorem ckg(dst s:List UInt8)(hlen:dst.length+s.length+10≤1000000000)(h:Hp):AT 32 [.str dst,.str s] h (.str (dst++Wire.strE s)):=by
 refine pcall ?_ rfl (by simp[A.pure,A.data]) h;have c:=aqn dst s.length (by omega) (by omega) (by omega);refine fo ?_;have hn:(Wire.num s.length).length≤10:=(Wire.encF_len 9 (Wire.zig s.length)).2;have hsum:dst.length+(Wire.num s.length).length+s.length<1099511627776:=by omega
 refine azx hsum (ai c ti) ?_;exact⟨_,le_refl _,by rw[azj,Wire.strE,Zg]⟩
theorem bvk(s t:List UInt8)(hs:s.length+t.length+10≤1000000000){h:Hp}{i:Nat}(hb:h.b[i]?=some (jwB s)) :
  AC 28 [.ptr i 0,.str t] h fun v h'=>v=.tup []∧h'=⟨h.b.set i (jwB (s++Wire.strE t)),h.t⟩:=by
 refine liftJ (x:=.ptr 0 0) rfl rfl ?_ rfl hb;have c:=ckg s t hs;refine fo ?_;unfold jwB;refine azx ti (ai c ti) ?_;exact⟨_,le_refl _,rfl,rfl⟩
def flagN(b:Bool):Int:=if b=true then 1 else 0
theorem cvm(s:List UInt8)(b:Bool)(hs:s.length≤1000000000){h:Hp}{i:Nat}(hb:h.b[i]?=some (jwB s)) :
  AC 59 [.ptr i 0,.bool b] h fun v h'=>v=.tup []∧h'=⟨h.b.set i (jwB (s++Wire.num (flagN b))),h.t⟩:=by
 refine liftJ (x:=.ptr 0 0) rfl rfl ?_ rfl hb;have c1:=ajy s 1 hs (by omega) (by omega) (h:=⟨[jwB s],[]⟩) (i:=0) rfl;have c0:=ajy s 0 hs (by omega) (by omega) (h:=⟨[jwB s],[]⟩) (i:=0) rfl;refine fo ?_;cases b
 ·refine azb ti ?_;refine use c0 ?_;refine azb ti ?_;exact⟨_,le_refl _,rfl,rfl⟩
 ·refine azb ti ?_;refine use c1 ?_;refine azb ti ?_;exact⟨_,le_refl _,rfl,rfl⟩
theorem bz4(s:List UInt8)(l:List (List UInt8))(hs:s.length+(l.flatMap Wire.strE).length+10≤1000000000)(hn:l.length≤1000000000){h:Hp}{i:Nat}(hb:h.b[i]?=some (jwB s)) :
  AC 56 [.fn (28+1000000) [.ptr i 0],.sl 1 .no (l.map fun x=>[A.str x])] h fun v h'=>v=.tup []∧h'=⟨h.b.set i (jwB (s++l.flatMap Wire.strE)),h.t⟩:=by
 refine liftJ (x:=.fn (28+1000000) [.ptr 0 0]) rfl rfl ?_ rfl hb;have li:(l.map fun x=>[A.str x]).length=l.length:=Zj _;refine fo ?_;refine azb li ?_;refine azf (fun m ts hh=>∃ j:Nat,m=l.length-j∧j≤l.length∧hh=⟨[jwB (s++(l.take j).flatMap Wire.strE)],[]⟩∧(ts 0=.fn (28+1000000) [.ptr 0 0]∧ts 6=.sl 1 .no (l.map fun x=>[A.str x])∧ts 7=.int .i64 (l.length:Nat)∧ts 8=.int .i64 (j:Nat))) l.length ?_ ?_
 ·exact⟨0,rfl,Zy _,by simp,by(exact azq li)⟩
 rintro m ts hh ⟨j,rfl,hj,rfl,ht⟩;rcases Z4 j l.length with hlt|hge
 ·have hf:(l.map fun x=>[A.str x]).length=l.length∧(j:Int)<(l.length:Int)∧(0:Int)≤(j:Int)∧(l.map fun x=>[A.str x]).getD j []=(fun x=>[A.str x]) l[j]∧IntKind.i64.wrap ((j:Int)+1)=((j+1:Nat):Int):=
   ⟨li,by omega,by omega,by simp[List.getD,hlt],by rw[wrap64 (by omega) (by omega)];omega⟩
  have e:l.take (j+1)=l.take j++[l[j]]:=(List.take_append_getElem hlt).symm;have e2:(l.take (j+1)).flatMap Wire.strE=(l.take j).flatMap Wire.strE++(Wire.strE) l[j]:=by rw[e,Yp];simp
  have hle:((l.take (j+1)).flatMap Wire.strE).length≤(l.flatMap Wire.strE).length:=by
   conv=>rhs;rw[←Yj (j+1) l]
   rw[Yp,Za];omega
  have hm:=Zp hlt;have hx:l[j].length≤(Wire.strE l[j]).length:=by unfold Wire.strE;rw[Za];omega
  have c:=bvk (s++(l.take j).flatMap Wire.strE) l[j] (by rw[Za];rw[e2,Za]at hle;omega) (h:=⟨[jwB (s++(l.take j).flatMap Wire.strE)],[]⟩) (i:=0) rfl;have e3:s++(l.take j).flatMap Wire.strE++(Wire.strE) l[j]=s++(l.take (j+1)).flatMap Wire.strE:=by rw[Zg,←e2]
  replace e3:_:=congrArg jwB e3
  rw[e3]at c;obtain⟨x,hx'⟩:=Ex (l[j]);rw[hx']at hf c;dsimp only at hf;refine azb (ai ht hf) ?_;refine use c ?_;refine azb (ai ht hf) ?_;exact⟨_,by omega,j+1,rfl,by omega,rfl,by(exact azq (ai ht hf))⟩
 ·have hf:¬(j:Int)<(l.length:Int):=by omega
  rw[ZJ hge];refine azb (ai ht hf) ?_;exact⟨_,le_refl _,rfl,rfl⟩
theorem cxm(s:List UInt8)(l:List Int)(hb0:∀ x∈l,-9223372036854775808≤x∧x≤9223372036854775807)(hs:s.length+(l.flatMap Wire.num).length+10≤1000000000)(hn:l.length≤1000000000){h:Hp}{i:Nat}(hb:h.b[i]?=some (jwB s)) :
  AC 55 [.fn (26+1000000) [.ptr i 0],.sl 1 .no (l.map fun x=>[A.int .i64 x])] h fun v h'=>v=.tup []∧h'=⟨h.b.set i (jwB (s++l.flatMap Wire.num)),h.t⟩:=by
 refine liftJ (x:=.fn (26+1000000) [.ptr 0 0]) rfl rfl ?_ rfl hb;have li:(l.map fun x=>[A.int .i64 x]).length=l.length:=Zj _;refine fo ?_;refine azb li ?_;refine azf (fun m ts hh=>∃ j:Nat,m=l.length-j∧j≤l.length∧hh=⟨[jwB (s++(l.take j).flatMap Wire.num)],[]⟩∧(ts 0=.fn (26+1000000) [.ptr 0 0]∧ts 6=.sl 1 .no (l.map fun x=>[A.int .i64 x])∧ts 7=.int .i64 (l.length:Nat)∧ts 8=.int .i64 (j:Nat))) l.length ?_ ?_
 ·exact⟨0,rfl,Zy _,by simp,by(exact azq li)⟩
 rintro m ts hh ⟨j,rfl,hj,rfl,ht⟩;rcases Z4 j l.length with hlt|hge
 ·have hf:(l.map fun x=>[A.int .i64 x]).length=l.length∧(j:Int)<(l.length:Int)∧(0:Int)≤(j:Int)∧(l.map fun x=>[A.int .i64 x]).getD j []=(fun x=>[A.int .i64 x]) l[j]∧IntKind.i64.wrap ((j:Int)+1)=((j+1:Nat):Int):=
   ⟨li,by omega,by omega,by simp[List.getD,hlt],by rw[wrap64 (by omega) (by omega)];omega⟩
  have e:l.take (j+1)=l.take j++[l[j]]:=(List.take_append_getElem hlt).symm;have e2:(l.take (j+1)).flatMap Wire.num=(l.take j).flatMap Wire.num++(Wire.num) l[j]:=by rw[e,Yp];simp
  have hle:((l.take (j+1)).flatMap Wire.num).length≤(l.flatMap Wire.num).length:=by
   conv=>rhs;rw[←Yj (j+1) l]
   rw[Yp,Za];omega
  have hm:=Zp hlt
  skip
  have c:=ajy (s++(l.take j).flatMap Wire.num) l[j] (by rw[Za];rw[e2,Za]at hle;omega) (hb0 _ hm).1 (hb0 _ hm).2 (h:=⟨[jwB (s++(l.take j).flatMap Wire.num)],[]⟩) (i:=0) rfl;have e3:s++(l.take j).flatMap Wire.num++(Wire.num) l[j]=s++(l.take (j+1)).flatMap Wire.num:=by rw[Zg,←e2]
  replace e3:_:=congrArg jwB e3
  rw[e3]at c;obtain⟨x,hx'⟩:=Ex (l[j]);rw[hx']at hf c;dsimp only at hf;refine azb (ai ht hf) ?_;refine use c ?_;refine azb (ai ht hf) ?_;exact⟨_,by omega,j+1,rfl,by omega,rfl,by(exact azq (ai ht hf))⟩
 ·have hf:¬(j:Int)<(l.length:Int):=by omega
  rw[ZJ hge];refine azb (ai ht hf) ?_;exact⟨_,le_refl _,rfl,rfl⟩
theorem cj1(s:List UInt8)(l:List Bool)(hs:s.length+(l.flatMap (fun b=>Wire.num (flagN b))).length+10≤1000000000)(hn:l.length≤1000000000){h:Hp}{i:Nat}(hb:h.b[i]?=some (jwB s)) :
  AC 58 [.fn (59+1000000) [.ptr i 0],.sl 1 .no (l.map fun x=>[A.bool x])] h fun v h'=>v=.tup []∧h'=⟨h.b.set i (jwB (s++l.flatMap (fun b=>Wire.num (flagN b)))),h.t⟩:=by
 refine liftJ (x:=.fn (59+1000000) [.ptr 0 0]) rfl rfl ?_ rfl hb;have li:(l.map fun x=>[A.bool x]).length=l.length:=Zj _;refine fo ?_;refine azb li ?_;refine azf (fun m ts hh=>∃ j:Nat,m=l.length-j∧j≤l.length∧hh=⟨[jwB (s++(l.take j).flatMap (fun b=>Wire.num (flagN b)))],[]⟩∧(ts 0=.fn (59+1000000) [.ptr 0 0]∧ts 6=.sl 1 .no (l.map fun x=>[A.bool x])∧ts 7=.int .i64 (l.length:Nat)∧ts 8=.int .i64 (j:Nat))) l.length ?_ ?_
 ·exact⟨0,rfl,Zy _,by simp,by(exact azq li)⟩
 rintro m ts hh ⟨j,rfl,hj,rfl,ht⟩;rcases Z4 j l.length with hlt|hge
 ·have hf:(l.map fun x=>[A.bool x]).length=l.length∧(j:Int)<(l.length:Int)∧(0:Int)≤(j:Int)∧(l.map fun x=>[A.bool x]).getD j []=(fun x=>[A.bool x]) l[j]∧IntKind.i64.wrap ((j:Int)+1)=((j+1:Nat):Int):=
   ⟨li,by omega,by omega,by simp[List.getD,hlt],by rw[wrap64 (by omega) (by omega)];omega⟩
  have e:l.take (j+1)=l.take j++[l[j]]:=(List.take_append_getElem hlt).symm;have e2:(l.take (j+1)).flatMap (fun b=>Wire.num (flagN b))=(l.take j).flatMap (fun b=>Wire.num (flagN b))++((fun b=>Wire.num (flagN b))) l[j]:=by rw[e,Yp];simp
  have hle:((l.take (j+1)).flatMap (fun b=>Wire.num (flagN b))).length≤(l.flatMap (fun b=>Wire.num (flagN b))).length:=by
   conv=>rhs;rw[←Yj (j+1) l]
   rw[Yp,Za];omega
  have hm:=Zp hlt
  skip
  have c:=cvm (s++(l.take j).flatMap fun b=>Wire.num (flagN b)) l[j] (by rw[Za];rw[e2,Za]at hle;omega) (h:=⟨[jwB (s++(l.take j).flatMap (fun b=>Wire.num (flagN b)))],[]⟩) (i:=0) rfl;have e3:s++(l.take j).flatMap (fun b=>Wire.num (flagN b))++((fun b=>Wire.num (flagN b))) l[j]=s++(l.take (j+1)).flatMap (fun b=>Wire.num (flagN b)):=by rw[Zg,←e2]
  replace e3:_:=congrArg jwB e3
  rw[e3]at c;obtain⟨x,hx'⟩:=Ex (l[j]);rw[hx']at hf c;dsimp only at hf;refine azb (ai ht hf) ?_;refine use c ?_;refine azb (ai ht hf) ?_;exact⟨_,by omega,j+1,rfl,by omega,rfl,by(exact azq (ai ht hf))⟩
 ·have hf:¬(j:Int)<(l.length:Int):=by omega
  rw[ZJ hge];refine azb (ai ht hf) ?_;exact⟨_,le_refl _,rfl,rfl⟩
end AX
end Go.Proofs.YtdgcbckcameggadGreatDoor

namespace Go.Proofs.YtdgcbckcameggadGreatDoor
open Go.RowKit
namespace AX
def longIdx:Nat→List (List UInt8)→Int
 |_,[]=>-1
 |i,s::l=>if decide ((s.length:Int)>4096)=true then i else longIdx (i+1) l
theorem ayt:∀(l:List (List UInt8)) (i:Nat),decide (longIdx i l≥0)=!Jr.shortB l
 |[],i=>rfl
 |s::l,i=>by
  unfold longIdx Jr.shortB;rw[ZE];by_cases h:(s.length:Int)>4096
  ·rw[if_pos (by simpa using h),show decide ((s.length:Int)≤4096)=false by simpa using h];simp
  ·rw[if_neg (by simpa using h),show decide ((s.length:Int)≤4096)=true by simpa using h,Zx];exact ayt l (i+1)
theorem byr(s:List UInt8)(h:Hp):AT 90 [.str s] h (.bool (decide ((s.length:Int)>4096))):=by
 refine pcall ?_ rfl (by simp[A.pure,A.data]) h;refine fo ?_;refine azd ti ti ?_;exact⟨_,le_refl _,rfl⟩
theorem cxo(ks:List (List UInt8))(hn:ks.length≤1000000000)(h:Hp):AT 122 [.sl 1 .no (strsA ks),.fn 90 []] h (.int .i64 (longIdx 0 ks)):=by
 refine pcall ?_ rfl (by simp[A.pure,A.data]) h;refine fo ?_;obtain⟨D,hD⟩:=Ex (longIdx 0 ks);rw[hD];have li:(strsA ks).length=ks.length:=aze ks;refine azb li ?_;refine azf (fun mm ts h=>∃(j:Nat),mm=ks.length-j∧j≤ks.length∧h=⟨[],[]⟩∧longIdx j (ks.drop j)=D∧(ts 0=.sl 1 .no (strsA ks)∧ts 1=.fn 90 []∧ts 7=.int .i64 (ks.length:Nat)∧ts 8=.int .i64 (j:Nat))) ks.length ?_ ?_
 ·exact⟨0,by omega,by omega,rfl,hD,by(exact azq li)⟩
 rintro mm ts h ⟨j,rfl,hjc,rfl,hit,ht⟩;by_cases hj:j<ks.length
 ·have hf:=axg (fun s:List UInt8=>[A.str s]) ks j hj (by omega);have hf':(strsA ks).length=ks.length∧(j:Int)<(ks.length:Int)∧(0:Int)≤(j:Int)∧(strsA ks).getD j []=[.str ks[j]]∧IntKind.i64.wrap ((j:Int)+1)=((j+1:Nat):Int):=hf;clear hf;rw[Zo hj]at hit;unfold longIdx at hit;obtain⟨x,hx⟩:=Ex (ks[j]);rw[hx]at hf' hit;have cf:=byr x;obtain⟨K,hK⟩:=Ex (decide ((x.length:Int)>4096));rw[hK]at cf hit;refine azb (ai ht hf') ?_;refine use (cf _) ?_;cases K
  ·rw[if_neg (by simp)]at hit;refine azb (ai ht hf') ?_;exact⟨ks.length-(j+1),by omega,j+1,rfl,by omega,rfl,hit,by(exact azq (ai ht hf'))⟩
  ·rw[if_pos rfl]at hit;subst hit;refine azb (ai ht hf') ?_;exact⟨_,le_refl _,rfl⟩
 ·have hlt:¬((j:Int)<(ks.length:Int)):=by omega
  rw[Y1 (by omega)]at hit;unfold longIdx at hit;subst hit;refine azb (ai ht (ai hlt li)) ?_;exact⟨_,le_refl _,rfl⟩
theorem akd(ks:List (List UInt8))(hn:ks.length≤1000000000)(h:Hp):AT 52 [.sl 1 .no (strsA ks)] h (.bool (Jr.shortB ks)):=by
 have ci:=cxo ks hn;have hge:=ayt ks 0;obtain⟨D,hD⟩:=Ex (longIdx 0 ks);rw[hD]at ci hge;have cc:∀ h,AT 89 [.sl 1 .no (strsA ks),.fn 90 []] h (.bool (!Jr.shortB ks)):=fun h=>by
  rw[←hge];refine pcall ?_ rfl (by simp[A.pure,A.data]) h;refine fo ?_;refine azd ti (ai ci ti) ?_;exact⟨_,le_refl _,rfl⟩
 obtain⟨B,hB⟩:=Ex (Jr.shortB ks);rw[hB]at cc ⊢;refine pcall ?_ rfl (by simp[A.pure,A.data]) h;refine fo ?_;refine azd ti (ai cc ti) ?_;exact⟨_,le_refl _,by cases B<;>rfl⟩
theorem cw0(x:Sf.Inst)(h:Hp):AT 47 [.agg (Sf.Inst.cells x)] h (.bool (Jr.noneB x)):=by
 obtain⟨a,d,i,t,⟨k,n,s,is,ks⟩,v,tn,fi,ds⟩:=x;have l1:=V.cellss_length is;have l2:=aze ks;have l3:=aze ds;unfold Sf.Inst.cells Jr.noneB Jr.zeroV;dsimp only;refine pcall ?_ rfl (by simp[A.pure,A.data]) h;refine fo ?_;refine azd (ai l1 (ai l2 l3)) ti ?_;exact⟨_,le_refl _,rfl⟩
theorem cv1(s:Sf.St)(h:Hp):AT 46 [s.A] h (.bool (Jr.emptyB s)):=by
 obtain⟨lin,ser,ins,ps,os⟩:=s;have l1:(ins.map Sf.Inst.cells).length=ins.length:=Zj _;have l2:(ps.map Sf.Pend.cells).length=ps.length:=Zj _;have l3:(os.map Sf.Outp.cells).length=os.length:=Zj _;unfold Sf.St.A Jr.emptyB;dsimp only;refine pcall ?_ rfl (by simp[A.pure,A.data]) h;refine fo ?_;refine azd (ai l1 (ai l2 l3)) ti ?_;exact⟨_,le_refl _,rfl⟩
theorem cjs(n:Int)(h:Hp):AT 48 [.int .i64 n] h (.bool (Jr.makesB n)):=by
 refine pcall ?_ rfl (by simp[A.pure,A.data]) h;refine fo ?_;unfold Jr.makesB;refine azd ti ti ?_;exact⟨_,le_refl _,rfl⟩
theorem ck2(x:Sf.Inst)(hl:x.attrs.lens)(hd:x.deps.length≤1000000000)(h:Hp):AT 49 [.agg (Sf.Inst.cells x)] h (.bool (Jr.instB x)):=by
 obtain⟨a,d,i,t,⟨k,n,s,is,ks⟩,v,tn,fi,ds⟩:=x;have l3:=aze ds;have c1:=akd [a,d,i,t] (by simp);have c2:=akd ds hd;have c3:=akk (.mk k n s is ks) hl;simp only[V.A,V.cells]at c3;unfold Sf.Inst.cells Jr.instB;dsimp only;obtain⟨b1,h1⟩:=Ex (Jr.shortB [a,d,i,t]);obtain⟨b2,h2⟩:=Ex (Jr.shortB ds);obtain⟨Z,hZ⟩:=Ex (Val.checkZ (.mk k n s is ks));rw[h1]at c1;rw[h2]at c2;rw[hZ]at c3;rw[h1,h2,hZ];have c1':∀ h,AT 52 [.sl 1 .no [[.str a],[.str d],[.str i],[.str t]]] h (.bool b1):=c1;refine pcall ?_ rfl (by simp[A.pure,A.data]) h;refine fo ?_;refine azd l3 (ai c1' (ai c2 (ai c3 ti))) ?_;exact⟨_,le_refl _,rfl⟩
theorem cw4(r:Jr)(h:Hp):AT 50 [.agg r.cells] h (.bool r.bareB):=by
 obtain⟨kd,⟨lin,ser,ins,ps,os⟩,st,op,ad,dp,ty,tk,er,⟨a,d,i,t,⟨k,n,s,is,ks⟩,v,tn,fi,ds⟩⟩:=r;unfold Jr.bareB;simp only[Jr.cells,Sf.Inst.cells,Zl,Zi];refine pcall ?_ rfl (by simp[A.pure,A.data]) h;refine fo ?_;refine azd ti ti ?_;exact⟨_,le_refl _,rfl⟩
theorem ck3(r:Jr)(h:Hp):AT 51 [.agg r.cells] h (.bool r.stepB):=by
 obtain⟨kd,⟨lin,ser,ins,ps,os⟩,st,op,ad,dp,ty,tk,er,⟨a,d,i,t,⟨k,n,s,is,ks⟩,v,tn,fi,ds⟩⟩:=r;unfold Jr.stepB;simp only[Jr.cells,Sf.Inst.cells,Zl,Zi];have c1:=akd [ad,dp,ty] (by simp);obtain⟨b1,h1⟩:=Ex (Jr.shortB [ad,dp,ty]);rw[h1]at c1 ⊢;have c1':∀ h,AT 52 [.sl 1 .no [[.str ad],[.str dp],[.str ty]]] h (.bool b1):=c1;refine pcall ?_ rfl (by simp[A.pure,A.data]) h;refine fo ?_;refine azd ti (ai c1' ti) ?_;exact⟨_,le_refl _,rfl⟩
theorem cj9(r:Jr)(hl:r.after.attrs.lens)(hd:r.after.deps.length≤1000000000)(h:Hp):AT 25 [.agg r.cells] h (.bool r.validB):=by
 have ce:=cv1 r.base;have cn:=cw0 r.after;have cm:=cjs r.op;have ci:=ck2 r.after hl hd;have cb:=cw4 r;have cs:=ck3 r;have ct:=akd [r.tok] (by simp);have hbad:Jr.badB r=(r.kind !=1&&!Jr.emptyB r.base||r.kind !=2&&r.tok != []||r.kind !=4&&r.err !=0):=rfl;have haft:Jr.afterB r=(Jr.noneB r.after||Jr.makesB r.op&&Jr.instB r.after):=rfl;unfold Jr.validB;obtain⟨bad,hbd⟩:=Ex (Jr.badB r);obtain⟨aft,haf⟩:=Ex (Jr.afterB r);obtain⟨e,he⟩:=Ex (Jr.emptyB r.base);obtain⟨n,hn⟩:=Ex (Jr.noneB r.after);obtain⟨m,hm⟩:=Ex (Jr.makesB r.op);obtain⟨i,hi⟩:=Ex (Jr.instB r.after);obtain⟨b,hb⟩:=Ex (r.bareB);obtain⟨s,hs⟩:=Ex (r.stepB);obtain⟨t,ht⟩:=Ex (Jr.shortB [r.tok]);rw[hbd,he]at hbad;rw[haf,hn,hm,hi]at haft;rw[he]at ce;rw[hn]at cn;rw[hm]at cm;rw[hi]at ci;rw[hb]at cb;rw[hs]at cs;rw[ht]at ct;rw[hbd,haf,hn,hb,hs,ht];clear hbd haf he hn hm hi hb hs ht hl hd;obtain⟨kd,⟨lin,ser,ins,ps,os⟩,st,op,ad,dp,ty,tk,er,⟨a1,a2,a3,a4,⟨k,nn,ss,is,ks⟩,v,tn,fi,ds⟩⟩:=r;have ct':∀ h,AT 52 [.sl 1 .no [[.str tk]]] h (.bool t):=ct;simp only[Jr.cells,Sf.Inst.cells,Zl,Zi,Sf.St.A]at *;refine pcall ?_ rfl (by simp[A.pure,A.data]) h;refine fo ?_;refine azd ti (ai ce ti) ?_;(refine AX.dqk ti ?_ ?_)
 ·intro hc;rw[hc]at hbad;subst hbad;refine azd ti ti ?_;exact⟨_,le_refl _,rfl⟩
 intro hc;rw[hc]at hbad;subst hbad;rw[if_neg (by decide)];refine azd ti (ai cn (ai cm (ai ci ti))) ?_;by_cases q1:kd=1
 ·subst q1;rw[if_pos (.inl rfl)];refine azd ti (ai cb (ai cn ti)) ?_;exact⟨_,le_refl _,rfl⟩
 have f1:(kd==1)=false:=by simp[q1]
 by_cases q5:kd=5
 ·subst q5;rw[if_pos (.inr rfl)];refine azd ti (ai cb (ai cn ti)) ?_;exact⟨_,le_refl _,rfl⟩
 have f5:(kd==5)=false:=by simp[q5]
 rw[if_neg (by simp[q1,q5])];by_cases q2:kd=2
 ·subst q2;rw[if_pos rfl];refine azd ti (ai cs (ai cn (ai ct' ti))) ?_;exact⟨_,le_refl _,rfl⟩
 have f2:(kd==2)=false:=by simp[q2]
 rw[if_neg q2];by_cases q3:kd=3
 ·subst q3;rw[if_pos rfl,haft];refine azd ti (ai cs ti) ?_;exact⟨_,le_refl _,rfl⟩
 have f3:(kd==3)=false:=by simp[q3]
 rw[if_neg q3];by_cases q4:kd=4
 ·subst q4;rw[if_pos rfl,haft];refine azd ti (ai cs ti) ?_;exact⟨_,le_refl _,rfl⟩
 have f4:(kd==4)=false:=by simp[q4]
 rw[if_neg q4];refine azd (ai f1 (ai f2 (ai f3 (ai f4 f5)))) ti ?_;exact⟨_,le_refl _,rfl⟩
structure JrIn(r:Jr):Prop where
 base:Sf.StIn r.base
 lens:r.after.attrs.lens
 deps:r.after.deps.length≤1000000000
end AX
end Go.Proofs.YtdgcbckcameggadGreatDoor
