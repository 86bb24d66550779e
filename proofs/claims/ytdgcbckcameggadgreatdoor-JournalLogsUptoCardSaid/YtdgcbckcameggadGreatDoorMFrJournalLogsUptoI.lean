/- Part of what the proof needs. -/
import Derived.Test.YtdgcbckcameggadGreatDoorMFrJournalLogsUpto0
import Derived.Test.YtdgcbckcameggadGreatDoorMFrJournalLogsUptoF
import Derived.Test.YtdgcbckcameggadGreatDoorMFrJournalLogsUptoH
import Derived.BigRegion
set_option maxHeartbeats 4000000
set_option linter.unusedSimpArgs false
set_option linter.unusedVariables false
set_option linter.unnecessarySimpa false
namespace Go.Proofs.YtdgcbckcameggadGreatDoor
namespace Str
open Go.Lib
theorem dec_of(l:List UInt8):decodeL l=decodeN l.length (l.getD 0 0).toNat (l.getD 1 0).toNat (l.getD 2 0).toNat (l.getD 3 0).toNat:=by
 have hg:∀ i,((⟨l.toArray⟩:ByteArray).get! i)=l.getD i 0:=fun i=>by
  simp[ByteArray.get!,ZY];rfl
 unfold decodeL;rw[decode_at];simp only[hg];rfl
theorem enc_dec(c:Nat)(h:Utf8.valid c=true):(decodeL (enc c)).2=(enc c).length∧¬Bad (decodeL (enc c)):=by
 have hv:(c:Int)<55296∨(57344≤(c:Int)∧(c:Int)≤1114111):=by
  unfold Utf8.valid at h;simp at h;omega
 rw[dec_of];unfold enc encodeRune;by_cases h1:c≤127
 ·rw[encodeRuneZ_one (by omega) (by omega)];simp[decodeN,Bad];rw[if_pos (by omega)];simp;omega
 by_cases h2:c≤2047
 ·rw[encodeRuneZ_two (by omega) (by omega)];have e0:(UInt8.ofNat (192+(c:Int)/64).toNat).toNat=192+c/64:=by
   rw[Z8];omega
  have e1:(UInt8.ofNat (128+(c:Int)%64).toNat).toNat=128+c%64:=by
   rw[Z8];omega
  simp only[ZH,Yn,Zh,ZA,ZQ,ZK,List.getD_nil,Nat.toUInt8_eq,e0,e1];unfold decodeN;rw[if_neg (by omega),if_pos (by omega),if_pos (by omega)];simp[Bad]
 by_cases h3:c≤65535
 ·rw[encodeRuneZ_three (by omega)];have e0:(UInt8.ofNat (224+(c:Int)/4096).toNat).toNat=224+c/4096:=by
   rw[Z8];omega
  have e1:(UInt8.ofNat (128+(c:Int)/64%64).toNat).toNat=128+c/64%64:=by
   rw[Z8];omega
  have e2:(UInt8.ofNat (128+(c:Int)%64).toNat).toNat=128+c%64:=by
   rw[Z8];omega
  simp only[ZH,Yn,Zh,ZA,ZQ,ZK,List.getD_nil,Nat.toUInt8_eq,e0,e1,e2];unfold decodeN;rw[if_neg (by omega),if_neg (by omega),if_pos (by omega),if_pos (by omega)];simp[Bad]
 ·rw[encodeRuneZ_four (by omega) (by omega)];have e0:(UInt8.ofNat (240+(c:Int)/262144).toNat).toNat=240+c/262144:=by
   rw[Z8];omega
  have e1:(UInt8.ofNat (128+(c:Int)/4096%64).toNat).toNat=128+c/4096%64:=by
   rw[Z8];omega
  have e2:(UInt8.ofNat (128+(c:Int)/64%64).toNat).toNat=128+c/64%64:=by
   rw[Z8];omega
  have e3:(UInt8.ofNat (128+(c:Int)%64).toNat).toNat=128+c%64:=by
   rw[Z8];omega
  simp only[ZH,Yn,Zh,ZA,ZQ,ZK,List.getD_nil,Nat.toUInt8_eq,e0,e1,e2,e3];unfold decodeN;rw[if_neg (by omega),if_neg (by omega),if_neg (by omega),if_pos (by omega),if_pos (by omega)];simp[Bad]
theorem enc_valid(c:Nat)(h:Utf8.valid c=true):validD (enc c)=true:=by
 have hl:=enc_length c;have hd:=enc_dec c h;rw[valid_step _ (by intro e;rw[e]at hl;simp at hl),if_neg hd.2,hd.1,List.drop_length];rfl
theorem escp_valid(l:List UInt8)(h:(escp l).2.2=0):Utf8.valid (escp l).1=true:=by
 unfold escp at h ⊢;have hp:∀ u,(point u).2.2=0→Utf8.valid (point u).1=true:=by
  intro u hu;unfold point at hu ⊢;split at hu
  ·simp at hu
  ·split at hu
   ·simp at hu
   ·next h1 h2 =>
    rw[if_neg h1,if_neg h2];simp only[not_or]at h2;simpa using h2.2.2.2
 cases l with
 |nil=>simp at h
 |cons b t =>
  dsimp only at h ⊢;split
  ·decide
  ·split
   ·decide
   ·split
    ·decide
    ·split
     ·next h34=>rcases h34 with rfl|rfl<;>decide
     ·split
      ·next h1 h2 h3 h4 h5 =>
       rw[if_neg h1,if_neg h2,if_neg h3,if_neg h4,if_pos h5]at h;cases t with
       |nil=>simp at h
       |cons c u =>
        dsimp only at h ⊢;split
        ·next hc=>rw[if_pos hc]at h;exact hp u h
        ·next hc=>rw[if_neg hc]at h;simp at h
      ·next h1 h2 h3 h4 h5=>rw[if_neg h1,if_neg h2,if_neg h3,if_neg h4,if_neg h5]at h;simp at h
theorem one_valid(l:List UInt8)(hl:l≠[])(h:(one l).2.2=0):validD (one l).1=true:=by
 unfold one at h ⊢;split
 ·next h1 =>
  rw[if_pos h1]at h;split
  ·next h2=>rfl
  ·next h2 =>
   have h2':(escp (l.drop 1)).2.2=0:=by simpa using h2
   exact enc_valid _ (escp_valid _ h2')
 ·next h1 =>
  rw[if_neg h1]at h;split
  ·rfl
  ·next h2 =>
   have hg:¬Bad (decodeL l):=fun hb=>h2 (.inl hb)
   show validD (l.take (decodeL l).2)=true
   rw[valid_step _ (take_ne l hl),dec_good l hl hg,if_neg hg,List.drop_take];simp[validD_nil]
theorem unq_valid:∀(f:Nat) (l acc:List UInt8) (i:Nat),validD acc=true→(unq f l acc i).2.2=0→valid (unq f l acc i).1=true
 |0,l,acc,i,ha,h=>by simp[unq]at h
 |f+1,l,acc,i,ha,h=>by
  rw[unq]at h ⊢;split
  ·next h1=>rw[if_pos h1]at h;simp at h
  ·next h1 =>
   rw[if_neg h1]at h;split
   ·next h2 =>
    rw[if_pos h2]at h;split
    ·next h3=>rw[if_pos h3]at h;simp at h
    ·next h3=>unfold valid;rw[ha];simp;omega
   ·next h2 =>
    rw[if_neg h2]at h;split
    ·next h3=>rw[if_pos h3]at h;exact absurd h h3
    ·next h3 =>
     rw[if_neg h3]at h;refine unq_valid f _ _ _ ?_ h;rw[valid_append _ acc _ (Zf _) ha];exact one_valid l h1 (by simpa using h3)
theorem unquote_valid(l:List UInt8)(h:(unquote l).2.2=0):valid (unquote l).1=true:=by
 unfold unquote at h ⊢;split
 ·next h1=>rw[if_pos h1]at h;simp at h
 ·next h1 =>
  rw[if_neg h1]at h;split
  ·next h2=>rw[if_pos h2]at h;simp at h
  ·next h2=>rw[if_neg h2]at h;exact unq_valid _ _ _ _ rfl h
end Str
namespace Adr
theorem wordB_stop{c:UInt8}(h:wordB c=true):stopB c=false:=by
 unfold wordB letter Num.digB at h;unfold stopB;simp only[ZS,Zc,Zq,ZC]at h;simp only[YC,Zu,ne_eq];constructor
 ·rintro rfl;revert h;decide
 ·rintro rfl;revert h;decide
theorem take_all:∀(p q:UInt8→Bool) (s:List UInt8),(∀ c,p c=true→q c=true)→(s.takeWhile q).all p=true→s.takeWhile p=s.takeWhile q∧s.dropWhile p=s.dropWhile q
 |p,q,[],_,_=>⟨rfl,rfl⟩
 |p,q,c::s,hpq,h=>by
  by_cases hq:q c=true
  ·rw[Yy hq,ZE,Zc]at h;have ih:=take_all p q s hpq h.2;rw[Yy h.1,Yy hq,YS h.1,YS hq,ih.1,ih.2];exact⟨rfl,rfl⟩
  ·have hp:¬p c=true:=fun hp=>hq (hpq c hp)
   rw[YX hp,YX hq,Y7 hp,Y7 hq];exact⟨rfl,rfl⟩
theorem take_odd:∀(s:List UInt8),(s.takeWhile (fun c=>!stopB c)).all wordB=false→∃ c t,s.dropWhile wordB=c::t∧stopB c=false
 |[],h=>by simp at h
 |c::s,h=>by
  by_cases hs:stopB c=true
  ·rw[YX (by simp[hs])]at h;simp at h
  ·have hs':stopB c=false:=by simpa using hs
   rw[Yy (by simp[hs'])]at h;by_cases hw:wordB c=true
   ·rw[ZE,hw,Zx]at h;rw[YS hw];exact take_odd s h
   ·rw[Y7 hw];exact⟨c,s,rfl,hs'⟩
theorem ident_all{s:List UInt8}(h:ident s=true):s.all wordB=true:=by
 unfold ident at h;simp only[Zc]at h;exact h.2
theorem word_cases(s:List UInt8) :
  (ident (s.takeWhile (fun c=>!stopB c))=true∧s.takeWhile wordB=s.takeWhile (fun c=>!stopB c)∧s.dropWhile wordB=s.dropWhile (fun c=>!stopB c)) ∨
  (ident (s.takeWhile (fun c=>!stopB c))=false∧(ident (s.takeWhile wordB)=false∨∃ c t,s.dropWhile wordB=c::t∧stopB c=false)):=by
 have hpq:∀ c,wordB c=true→(!stopB c)=true:=fun c hc=>by rw[wordB_stop hc];rfl
 by_cases h:ident (s.takeWhile (fun c=>!stopB c))=true
 ·exact .inl ⟨h,take_all _ _ s hpq (ident_all h)⟩
 ·refine .inr ⟨by simpa using h,?_⟩;by_cases ha:(s.takeWhile (fun c=>!stopB c)).all wordB=true
  ·refine .inl ?_;rw[(take_all _ _ s hpq ha).1];simpa using h
  ·exact .inr (take_odd s (by simpa using ha))
theorem begins_one(s:List UInt8)(c:UInt8)(hc:c≠0):begins s [c]=(s.getD 0 0==c):=by
 cases s with
 |nil=>simp[begins,Ne.symm hc]
 |cons a t =>
  show(c==a&&true)=(a==c)
  rw[Z0];exact Yf.2 ⟨fun h=>by rw[ZC]at h ⊢;exact h.symm,fun h=>by rw[ZC]at h ⊢;exact h.symm⟩
theorem drop_begins{s:List UInt8}{c:UInt8}(hc:c≠0)(h:s.getD 0 0=c):∃ t,s=c::t:=by
 cases s with
 |nil=>exact absurd h (by simpa using Ne.symm hc)
 |cons a t=>exact⟨t,by simpa using h⟩
theorem getD_dropn(s:List UInt8)(n i:Nat):(s.drop n).getD i 0=s.getD (n+i) 0:=by
 simp[ZY,List.getElem?_drop]
theorem skip_one(t:List UInt8)(b:Bool):skipP [93] ⟨t,b⟩=if t.getD 0 0=93 then⟨t.drop 1,b⟩else⟨t,true⟩:=by
 unfold skipP;rw[begins_one _ _ (by decide)];by_cases h:t.getD 0 0=93
 ·rw[if_pos h,if_pos (by rw[h];rfl)];rfl
 ·rw[if_neg h,if_neg (by simpa using h)]
theorem digB_ne{c:UInt8}(h:Num.digB c=true):c≠93:=by
 rintro rfl;revert h;decide
theorem parse_digits{s:List UInt8}(h:(Num.parse s).2=0):(s.all Num.digB=true∧0≤(Num.parse s).1)∨(s.getD 0 0=45∧(Num.parse s).1<0):=by
 unfold Num.parse at h ⊢;dsimp only at h ⊢;by_cases hm:(s.getD 0 0==45)=true
 ·rw[hm]at h ⊢;simp only[if_true]at h ⊢;split at h
  ·simp at h
  ·next h1 =>
   rw[if_neg h1];split at h
   ·simp at h
   ·next h2 =>
    rw[if_neg h2];split at h
    ·simp at h
    ·next h3 =>
     rw[if_neg h3];refine .inr ⟨by simpa using hm,?_⟩;show -(Num.val (s.drop 1):Int)<0
     have hpos:Num.val (s.drop 1)≠0:=by
      intro h0;simp only[ZS,Zc,Yv,not_or,Zx]at h1;obtain⟨ha,hb⟩:=h1;have hd:Num.digits (s.drop 1)=true:=by simpa using ha
      unfold Num.digits at hd;simp only[Zc,ZS]at hd;obtain⟨hd1,hd2⟩:=hd;rcases hd2 with hd2|⟨hd2,hd3⟩
      ·exact hb hd2
      ·cases ht:s.drop 1 with
       |nil=>rw[ht]at hd2;simp at hd2
       |cons c u =>
        rw[ht]at hd1 hd3 h0;simp only[ZE,Zc]at hd1;have hc:49≤c.toNat:=by
         have h48:=hd1.1;unfold Num.digB at h48;simp only[Zc,Zq]at h48;have:c≠48:=by simpa using hd3
         have:c.toNat≠48:=fun e=>this (Z9.1 e)
         omega
        have hge:∀(l:List UInt8) (n:Nat),n≤l.foldl (fun n c=>10*n+(c.toNat-48)) n:=by
         intro l;induction l with
         |nil=>intro n;exact Zf _
         |cons x l ih=>intro n;exact Zn (Zn (Nat.le_mul_of_pos_left n (by decide)) (Nat.le_add_right _ _)) (ih (10*n+(x.toNat-48)))
        have:=hge u (10*0+(c.toNat-48));unfold Num.val at h0;simp only[List.foldl_cons]at h0;omega
     omega
 ·have hm':(s.getD 0 0==45)=false:=by simpa using hm
  rw[hm']at h ⊢;simp only[Zk,if_false,Yb,Y8]at h ⊢;split at h
  ·simp at h
  ·next h1 =>
   rw[if_neg h1];split at h
   ·simp at h
   ·next h2 =>
    rw[if_neg h2];split at h
    ·simp at h
    ·next h3 =>
     rw[if_neg h3];refine .inl ⟨?_,?_⟩
     ·have:Num.digits s=true:=by simpa using h1
      unfold Num.digits at this;simp only[Zc]at this;exact this.1
     ·show(0:Int)≤(Num.val s:Int)
      omega
theorem takeW_all{p:UInt8→Bool}:∀(s:List UInt8),(s.takeWhile p).all p=true
 |[]=>rfl
 |c::s=>by
  by_cases h:p c=true
  ·rw[Yy h,ZE,h,takeW_all s];rfl
  ·rw[YX h];rfl
theorem takeW_take{p:UInt8→Bool}:∀(s:List UInt8),s.take (s.takeWhile p).length=s.takeWhile p
 |[]=>rfl
 |c::s=>by
  by_cases h:p c=true
  ·rw[Yy h,Zh,Z6,takeW_take s]
  ·rw[YX h];rfl
theorem takeW_next{p:UInt8→Bool}:∀(s:List UInt8),s.getD (s.takeWhile p).length 0=(s.dropWhile p).getD 0 0
 |[]=>rfl
 |c::s=>by
  by_cases h:p c=true
  ·rw[Yy h,YS h,Zh,ZK,takeW_next s]
  ·rw[YX h,Y7 h];rfl
theorem dropW_head{p:UInt8→Bool}:∀(s:List UInt8),(s.dropWhile p)=[]∨p ((s.dropWhile p).getD 0 0)=false
 |[] => .inl rfl
 |c::s=>by
  by_cases h:p c=true
  ·rw[YS h];exact dropW_head s
  ·rw[Y7 h];exact .inr (by simpa using h)
theorem key_eq(s:List UInt8):match key s with
  |some (k,rest)=>keyP ⟨s,false⟩=(k,⟨rest,false⟩)
  |none=>(keyP ⟨s,false⟩).2.bad=true:=by
 have hk:keyP ⟨s,false⟩=if begins s [91]=false then(K.none,⟨s,false⟩)else
   if begins (s.drop 1) [34]then
    (if(Str.unquote (s.drop 1)).2.2≠0∨Str.quote (Str.unquote (s.drop 1)).1≠(s.drop 1).take (Str.unquote (s.drop 1)).2.1 then(K.none,⟨s.drop 1,true⟩)
    else(⟨2,0,(Str.unquote (s.drop 1)).1⟩,skipP [93] ⟨(s.drop 1).drop (Str.unquote (s.drop 1)).2.1,false⟩))
   else(⟨1,(Num.parse ((s.drop 1).take (if(s.drop 1).all (· != 93)then 0 else((s.drop 1).takeWhile (· != 93)).length))).1,[]⟩,
    skipP [93] ⟨(s.drop 1).drop (if(s.drop 1).all (· != 93)then 0 else((s.drop 1).takeWhile (· != 93)).length),(Num.parse ((s.drop 1).take (if(s.drop 1).all (· != 93)then 0 else((s.drop 1).takeWhile (· != 93)).length))).2 !=0||decide ((Num.parse ((s.drop 1).take (if(s.drop 1).all (· != 93)then 0 else((s.drop 1).takeWhile (· != 93)).length))).1<0)⟩):=by
  unfold keyP;simp only[Zk,if_false]
 rw[hk,begins_one s 91 (by decide)];unfold key;by_cases h91:s.getD 0 0=91
 rotate_left
 ·rw[if_pos h91,if_pos (by simpa using h91)]
 obtain⟨t,rfl⟩:=drop_begins (by decide) h91;rw[if_neg (show¬(91::t).getD 0 0≠91 by simp),if_neg (show¬((91::t).getD 0 0==91)=false by simp)];simp only[ZU,Yx];rw[begins_one t 34 (by decide)];by_cases h34:t.getD 0 0=34
 ·have h1:1<(91::t).length∧(91::t).getD 1 0=34:=by
   refine⟨?_,by simpa using h34⟩;obtain⟨u,rfl⟩:=drop_begins (by decide) h34;simp
  rw[if_pos h1,if_pos (show(t.getD 0 0==34)=true by rw[h34];rfl)];obtain⟨x,n,e,hu⟩:∃ x n e,Str.unquote t=(x,n,e):=⟨_,_,_,rfl⟩;have hv:=Str.unquote_valid t;rw[hu]at hv ⊢;dsimp only at hv ⊢;by_cases he:e=0
  rotate_left
  ·rw[if_pos (.inl he),if_pos (.inl he)]
  have hko:keyOk ⟨2,0,x⟩=true:=by
   unfold keyOk;simp;exact hv he
  have htk:((91::t).take (n+1)).drop 1=t.take n:=by simp
  rw[htk];by_cases hq:Str.quote x=t.take n
  rotate_left
  ·rw[if_pos (.inr (.inr (.inr (.inl (Ne.symm hq))))),if_pos (.inr hq)]
  rw[if_neg (show¬(e≠0∨Str.quote x≠t.take n)from fun h=>h.elim (fun h=>h he) (fun h=>h hq))];rw[skip_one,getD_dropn];by_cases h93:t.getD n 0=93
  ·have hn:n<t.length:=by
    refine Classical.byContradiction fun hn=>?_
    rw[ZY,YJ (by omega)]at h93;exact absurd h93 (by decide)
   rw[if_pos (show t.getD (n+0) 0=93 from h93),if_neg]
   ·simp[YV]
   ·simp only[Zh,ZK,h93,hq,hko,he,not_or];refine⟨by simp,by omega,by simp,by simp,by simp⟩
  ·rw[if_neg (show¬t.getD (n+0) 0=93 from h93),if_pos];exact .inr (.inr (.inl (by simpa using h93)))
 ·have h1:¬(1<(91::t).length∧(91::t).getD 1 0=34):=fun h=>h34 (by simpa using h.2)
  rw[if_neg h1,if_neg (show¬(t.getD 0 0==34)=true from fun h=>h34 (by simpa using h))];dsimp only;obtain⟨d,hd⟩:∃ d,d=t.takeWhile Num.digB:=⟨_,rfl⟩;rw[←hd];have hdall:d.all Num.digB=true:=by rw[hd];exact takeW_all t
  have hnx:t.getD d.length 0=(t.dropWhile Num.digB).getD 0 0:=by rw[hd];exact takeW_next t
  have hdt:t=d++t.dropWhile Num.digB:=by rw[hd];exact(List.takeWhile_append_dropWhile).symm
  by_cases hno:t.all (· != 93)=true
  ·rw[if_pos hno];have hp0:Num.parse []=(0,2):=by decide
   have hn93:(91::t).getD (d.length+1) 0≠93:=by
    intro h;rw[ZK]at h;have hl:d.length<t.length:=by
     refine Classical.byContradiction fun hn=>?_
     rw[ZY,YJ (by omega)]at h;exact absurd h (by decide)
    have:=ZF.1 hno t[d.length] (Zp hl);rw[ZY,Zm hl]at h;simp at h this;exact this h
   rw[if_pos (.inr (.inr hn93))];simp only[Yl,Yx,hp0];rw[skip_one];split<;>simp
  ·rw[if_neg hno];obtain⟨p,hp⟩:∃ p,p=t.takeWhile (· != 93):=⟨_,rfl⟩;rw[←hp];have hpt:t.take p.length=p:=by rw[hp];exact takeW_take t
   have hpn:t.getD p.length 0=93:=by
    rw[hp,takeW_next];rcases dropW_head (p:=(· != 93)) t with h|h
    ·exfalso
     apply hno;have:=List.takeWhile_append_dropWhile (p:=(· != 93)) (l:=t);rw[h,Zr]at this;rw[←this];exact takeW_all t
    ·simpa using h
   rw[hpt,skip_one,getD_dropn,if_pos (show t.getD (p.length+0) 0=93 from hpn)];have hpl:p.length<t.length:=by
    refine Classical.byContradiction fun hn=>?_
    rw[ZY,YJ (by omega)]at hpn;exact absurd hpn (by decide)
   by_cases hok:(Num.parse p).2=0∧0≤(Num.parse p).1
   ·have hall:p.all Num.digB=true:=by
     rcases parse_digits hok.1 with h|h
     ·exact h.1
     ·omega
    have hpd:p=d:=by
     rw[hp,hd];exact(take_all Num.digB (· != 93) t (fun c hc=>by simpa using digB_ne hc) (by rw[←hp];exact hall)).1.symm
    subst hpd;rw[if_neg (by simp only[hok.1,ZK,hpn,Zh,not_or];exact⟨by simp,by omega,by simp⟩)];simp only[hok.1];rw[show decide ((Num.parse p).1<0)=false by simp;omega];simp[YV]
   ·have hbad:((Num.parse p).2 !=0||decide ((Num.parse p).1<0))=true:=by
     simp only[ZS,Zab,Zq];by_cases h0:(Num.parse p).2=0
     ·exact .inr (by
       by_cases h2:0≤(Num.parse p).1
       ·exact absurd ⟨h0,h2⟩ hok
       ·omega)
     ·exact .inl h0
    have hnone:(Num.parse d).2≠0∨(91::t).length≤d.length+1∨(91::t).getD (d.length+1) 0≠93:=by
     refine Classical.byContradiction fun h=>?_
     simp only[not_or,Decidable.not_not,ZK,Zh]at h;obtain⟨h1,h2,h3⟩:=h;have hpd:p=d:=by
      rw[hp]
      conv=>lhs;rw[hdt]
      rw[hnx]at h3;cases hr:t.dropWhile Num.digB with
      |nil=>rw[hr]at h3;exact absurd h3 (by decide)
      |cons c u =>
       rw[hr]at h3;have hc:c=93:=by simpa using h3
       subst hc
       rw[List.takeWhile_append_of_pos (fun a ha=>by
        have:=ZF.1 hdall a ha
        simpa using digB_ne this)]
       simp
     subst hpd;rcases parse_digits h1 with h|h
     ·exact hok ⟨h1,h.2⟩
     ·have h0:=h.1;cases p with
      |nil=>exact absurd h0 (by decide)
      |cons c u =>
       simp only[ZE,Zc]at hdall;have hc:c=45:=by simpa using h0
       subst hc;exact absurd hdall.1 (by decide)
    rw[if_pos hnone,hbad]
theorem word_bad(r:Rd)(h:r.bad=true):(wordP r).2.bad=true:=by unfold wordP;simp[h]
theorem skip_bad(p:List UInt8)(r:Rd)(h:r.bad=true):(skipP p r).bad=true:=by unfold skipP;split<;>simp[h]
theorem has_bad(p:List UInt8)(r:Rd)(h:r.bad=true):(hasP p r).2.bad=true:=by unfold hasP;split<;>simp[h]
theorem key_bad(r:Rd)(h:r.bad=true):(keyP r).2.bad=true:=by unfold keyP;rw[if_pos h];exact h
def finP(l:List Step)(r:Rd):Ad×Int:=
 let d:=hasP dataW r
 let t:=wordP d.2
 let n:=wordP (skipP [46] t.2)
 let k:=keyP n.2
 if k.2.bad=true∨k.2.rest≠[]∨kindB t.1=false then(Ad.zero,2)
 else if 16<l.length then(Ad.zero,4)
 else(⟨l,d.1,t.1,n.1,k.1⟩,0)
theorem parseP_fin(s:List UInt8):parseP s=finP (modsP (s.length+1) ⟨s,false⟩ []).1 (modsP (s.length+1) ⟨s,false⟩ []).2:=rfl
theorem fin_bad(l:List Step)(r:Rd)(h:r.bad=true):finP l r=(Ad.zero,2):=by
 unfold finP;dsimp only;rw[if_pos (.inl (key_bad _ (word_bad _ (skip_bad _ _ (word_bad _ (has_bad _ _ h))))))]
theorem key_other{c:UInt8}{t:List UInt8}(h:stopB c=false):key (c::t)=some (K.none,c::t):=by
 unfold key;rw[if_pos];unfold stopB at h;simp only[YC,Zu]at h;simpa using h.2
theorem fin_last(l:List Step)(s:List UInt8):finP l ⟨s,false⟩=match last s with
  |none=>(Ad.zero,2)
  |some p=>if 16<l.length then(Ad.zero,4)else({ p with mods:=l },0):=by
 unfold finP last;dsimp only;have hd:hasP dataW ⟨s,false⟩=(begins s dataW,⟨if begins s dataW then s.drop 5 else s,false⟩):=by
  unfold hasP;by_cases h:begins s dataW=true
  ·rw[if_pos h,if_pos h,h];rfl
  ·rw[if_neg h,if_neg h];simp at h;rw[h]
 rw[hd];dsimp only;obtain⟨t,ht⟩:∃ t,t=if begins s dataW then s.drop 5 else s:=⟨_,rfl⟩
 rw[←ht];have hw:∀ u,wordP ⟨u,false⟩=(u.takeWhile (fun c=>!stopB c),⟨u.dropWhile (fun c=>!stopB c),!ident (u.takeWhile (fun c=>!stopB c))⟩):=fun u=>by
  unfold wordP;simp
 have hsk:∀ u b,skipP [46] ⟨u,b⟩=if u.getD 0 0=46 then⟨u.drop 1,b⟩else⟨u,true⟩:=fun u b=>by
  unfold skipP;rw[begins_one _ _ (by decide)];by_cases h:u.getD 0 0=46
  ·rw[if_pos h,if_pos (by rw[h];rfl)];rfl
  ·rw[if_neg h,if_neg (by simpa using h)]
 rw[hw t];dsimp only;rcases word_cases t with⟨h1,h2,h3⟩|⟨h1,h2⟩
 ·rw[h1,h2,h3,hsk];obtain⟨r,hr⟩:∃ r,r=t.dropWhile (fun c=>!stopB c):=⟨_,rfl⟩;obtain⟨a,ha⟩:∃ a,a=t.takeWhile (fun c=>!stopB c):=⟨_,rfl⟩;rw[←hr,←ha];by_cases h46:r.getD 0 0=46
  rotate_left
  ·rw[if_neg h46,if_pos (.inl (key_bad _ (word_bad _ rfl))),if_pos (.inr h46)]
  rw[if_pos h46];simp only[ZR];rw[hw];dsimp only;by_cases hk:kindB a=true
  rotate_left
  ·rw[if_pos (.inr (.inr (by simpa using hk))),if_pos (.inl (by simpa using hk))]
  rw[if_neg (show¬(kindB a=false∨r.getD 0 0≠46)from fun h=>h.elim (fun h=>by rw[hk]at h;cases h) (fun h=>h h46))];rcases word_cases (r.drop 1)with⟨k1,k2,k3⟩|⟨k1,k2⟩
  ·rw[k1,k2,k3];have hke:=key_eq ((r.drop 1).dropWhile (fun c=>!stopB c));simp only[ZR];revert hke;split
   ·next k rest hkk =>
    intro hke;rw[hkk,hke];dsimp only;by_cases hre:rest=[]
    ·rw[if_neg (show¬(false=true∨rest≠[]∨kindB a=false) by simp[hre,hk]),if_pos (show ident (List.takeWhile (fun c=>!stopB c) (List.drop 1 r))=true∧rest=[]from⟨k1,hre⟩)]
    ·rw[if_pos (.inr (.inl hre)),if_neg (fun h=>hre h.2)]
   ·next hkk =>
    intro hke;rw[hkk,if_pos (.inl hke)]
  ·rw[k1];rw[if_pos (.inl (key_bad _ rfl))];rcases k2 with k2|⟨c,u,k2,k3⟩
   ·cases hkk:key ((r.drop 1).dropWhile wordB)with
    |none=>rfl
    |some q =>
     obtain⟨k,rest⟩:=q;dsimp only;rw[if_neg (fun h=>by rw[k2]at h;exact absurd h.1 (by simp))]
   ·rw[k2,key_other k3];dsimp only;rw[if_neg (fun h=>by simp at h)]
 ·rw[h1];rw[if_pos (.inl (key_bad _ (word_bad _ (skip_bad _ _ rfl))))];rcases h2 with h2|⟨c,u,h2,h3⟩
  ·rw[if_pos (.inl (by unfold kindB;rw[h2];simp))]
  ·rw[h2,if_pos];refine .inr ?_;unfold stopB at h3;simp only[YC,Zu]at h3;simpa using h3.1
theorem step_eq(s:List UInt8):match step s with
  |some (x,rest)=>stepP ⟨s.drop 7,false⟩=(x,⟨rest,false⟩)∨((stepP ⟨s.drop 7,false⟩).2.bad=true∧rest≠[]∧rest.getD 0 0≠46)
  |none=>(stepP ⟨s.drop 7,false⟩).2.bad=true:=by
 unfold step stepP;dsimp only;obtain⟨t,ht⟩:∃ t,t=s.drop 7:=⟨_,rfl⟩;rw[←ht];have hw:wordP ⟨t,false⟩=(t.takeWhile (fun c=>!stopB c),⟨t.dropWhile (fun c=>!stopB c),!ident (t.takeWhile (fun c=>!stopB c))⟩):=by
  unfold wordP;simp
 rw[hw];dsimp only;rcases word_cases t with⟨h1,h2,h3⟩|⟨h1,h2⟩
 ·rw[h1,h2,h3];have hke:=key_eq (t.dropWhile (fun c=>!stopB c));simp only[ZR];revert hke;split
  ·next k rest hkk =>
   intro hke;rw[hkk,hke];dsimp only;rw[if_pos h1];exact .inl rfl
  ·next hkk =>
   intro hke;rw[hkk];exact hke
 ·rw[h1];have hb:(keyP ⟨t.dropWhile (fun c=>!stopB c),!false⟩).2.bad=true:=key_bad _ rfl;rcases h2 with h2|⟨c,u,h2,h3⟩
  ·rw[h2];split
   ·next x rest hx =>
    split at hx
    ·cases hx
    ·simp at hx
   ·exact hb
  ·rw[h2,key_other h3];dsimp only;split
   ·next x rest hx =>
    split at hx
    ·injection hx with hx;injection hx with hx1 hx2;subst hx2;refine .inr ⟨hb,by simp,?_⟩;unfold stopB at h3;simp only[YC,Zu]at h3;simpa using h3.1
    ·cases hx
   ·exact hb
theorem key_rest(s:List UInt8)(k:K)(rest:List UInt8)(h:key s=some (k,rest)):rest.length≤s.length:=by
 unfold key at h;split at h
 ·injection h with h;injection h with h1 h2;subst h2;exact Zf _
 ·split at h
  ·dsimp only at h;split at h
   ·cases h
   ·injection h with h;injection h with h1 h2;subst h2;simp
  ·dsimp only at h;split at h
   ·cases h
   ·injection h with h;injection h with h1 h2;subst h2;simp
theorem step_rest(s:List UInt8)(x:Step)(rest:List UInt8)(h:step s=some (x,rest)):rest.length≤s.length:=by
 unfold step at h;split at h
 ·cases h
 ·next k r hk =>
  split at h
  ·injection h with h;injection h with h1 h2;subst h2;have:=key_rest _ _ _ hk;have h2:((s.drop 7).dropWhile wordB).length≤(s.drop 7).length:=(List.dropWhile_suffix _).length_le;simp at h2;omega
  ·cases h
theorem begins_len{s p:List UInt8}(h:begins s p=true):p.length≤s.length:=(Zak.1 h).length_le
theorem place_eq:∀(f:Nat) (s:List UInt8) (l:List Step),s.length<f →
  finP (modsP f ⟨s,false⟩ l).1 (modsP f ⟨s,false⟩ l).2=match place f s with
   |some (p,true)=>if 16<(l++p.mods).length then(Ad.zero,4)else({ p with mods:=l++p.mods },0)
   |_=>(Ad.zero,2)
 |0,s,l,h=>absurd h (Nat.not_lt_zero _)
 |f+1,s,l,h=>by
  rw[modsP,place];by_cases hb:begins s modW=true
  ·rw[if_pos ⟨rfl,hb⟩,if_pos hb];have hh:(hasP modW ⟨s,false⟩).2=⟨s.drop 7,false⟩:=by unfold hasP;rw[if_pos hb];rfl
   dsimp only;rw[hh];have hse:=step_eq s;have hl7:=begins_len hb;have hbad:∀ r:Rd,r.bad=true→∀ l',modsP f r l'=(l',r):=by
    intro r hr l';cases f with
    |zero=>rfl
    |succ f=>rw[modsP,if_neg (fun h=>by rw[hr]at h;exact absurd h.1 (by simp))]
   split at hse
   ·next x rest hst =>
    rw[hst];dsimp only;have hsr:=step_rest s x rest hst;rcases hse with hse|⟨hse,h1,h2⟩
    ·rw[hse];dsimp only;by_cases hr0:rest=[]
     ·rw[if_pos hr0,hr0];have:skipP [46] ⟨[],false⟩=⟨[],true⟩:=rfl;rw[this,hbad _ rfl];exact fin_bad _ _ rfl
     ·rw[if_neg hr0];by_cases h46:rest.getD 0 0=46
      ·rw[if_neg (fun h=>h h46)];obtain⟨u,rfl⟩:=drop_begins (by decide) h46;have:skipP [46] ⟨46::u,false⟩=⟨u,false⟩:=by
        unfold skipP;rw[begins_one _ _ (by decide)];rfl
       rw[this];have ih:=place_eq f u (l++[x]) (by simp at hsr;omega);rw[ih];simp only[ZU,Yx];split
       ·next p hp =>
        rw[hp];simp
       ·next hp =>
        cases hpl:place f u with
        |none=>rfl
        |some q =>
         obtain⟨p,w⟩:=q;cases w with
         |true=>exact absurd hpl (hp p)
         |false=>rfl
      ·rw[if_pos h46];have:(skipP [46] ⟨rest,false⟩).bad=true:=by
        unfold skipP;rw[begins_one _ _ (by decide),if_neg (by simpa using h46)]
       rw[hbad _ this];exact fin_bad _ _ this
    ·rw[if_neg h1,if_pos h2];have:=skip_bad [46] _ hse;rw[hbad _ this];exact fin_bad _ _ this
   ·next hst =>
    rw[hst];have:=skip_bad [46] _ hse;rw[hbad _ this];exact fin_bad _ _ this
  ·rw[if_neg (fun h=>hb h.2),if_neg hb,fin_last];cases hl:last s with
   |none=>rfl
   |some p =>
    have:p.mods=[]:=by
     unfold last at hl;dsimp only at hl;generalize (if begins s dataW=true then s.drop 5 else s)=t at hl;split at hl
     ·cases hl
     ·split at hl
      ·cases hl
      ·split at hl
       ·injection hl with hl;subst hl;rfl
       ·cases hl
    simp[this]
theorem parse_eq(s:List UInt8):parseP s=parse s:=by
 rw[parseP_fin,place_eq _ _ _ (Nat.lt_succ_self _)];unfold parse;split
 ·next p hp=>rw[hp];simp
 ·next hp =>
  first
  |rfl
  | (split
     · next p hp' => exact absurd hp' (hp p)
     · rfl)
end Adr
end Go.Proofs.YtdgcbckcameggadGreatDoor

namespace Go.Proofs.YtdgcbckcameggadGreatDoor
open Go.RowKit
structure Glob(w:World):Prop where
 tabs:Lib.Utf8Tabs 0 1 w
 tz:w.cell? ⟨7,15,none⟩=some (.int .u8 4)
theorem cell_lt{w:World}{a:Addr}{v:Value}(h:w.cell? a=some v):a.block<w.heap.size:=by
 rcases Z4 a.block w.heap.size with h'|h'
 ·exact h'
 ·simp[World.cell?,Array.getElem?_eq_none h']at h
theorem cell_below{w w':World}{a:Addr}{v:Value}(h:w.cell? a=some v)(b:Below w.heap.size w w'):w'.cell? a=some v:=(b.cell (cell_lt h)).trans h
theorem Glob.below{w w':World}(h:Glob w)(b:Below w.heap.size w w'):Glob w':=
 ⟨Utf8Tabs_below h.tabs b,cell_below h.tz b⟩
theorem axz{P:Program}(w:World){a b:ByteArray}{l m r:List UInt8}(ha:a.data.toList=l)(hb:b.data.toList=m)(hr:l++m=r)(h:r.length<1099511627776) :
  (Op.stringOp .add a b).run P w=.ok (.string ⟨r.toArray⟩) w:=by
 subst hr;exact axy w ha hb (by rw[Za]at h;exact h)
theorem bxb(s:ByteArray)(k:Nat)(h:k<s.size):s.data.toList.take (k+1)=s.data.toList.take k++[s[k]]:=by
 rw[ZW (by simpa using h)];rfl
theorem drop_cons(s:ByteArray)(k:Nat)(h:k<s.size):s.data.toList.drop k=s[k]::s.data.toList.drop (k+1):=by
 rw[Zo (by simpa using h)];rfl
theorem bjb(s:ByteArray)(k:Nat)(h:k<s.size):s.extract k (k+1)=⟨#[s[k]]⟩:=by
 have:(s.extract k (k+1)).data.toList=[s[k]]:=by
  simp only[ByteArray.data_extract,Array.toList_extract,List.extract_eq_take_drop];rw[drop_cons s k h];simp
 exact bkr this
theorem azp(b:UInt8)(n:Nat)(hn:n<256)(h:b≠UInt8.ofNat n):((b.toNat:Int)==(n:Int))=false:=by
 have:=b.toNat_lt;refine Zu.2 fun hh=>h ?_
 rw[←Z9,Z8];omega
theorem dqv(w:World)(hc:w.cell? ⟨7,15,none⟩=some (.int .u8 4)):Calls Tryz.prog 252 #[.int .u64 16] w fun e w'=>e=.returned (.int .i64 4)∧Below w.heap.size w w':=by
  have e1:IntKind.u64.wrap (bits BinOp.and IntKind.u64 16 (IntKind.u64.wrap (-16))*285870213051353865)/288230376151711744=15:=by decide
  go_enter Tryz.func252,Tryz.ntmps252;go_wp2
  go_ret
  exact⟨rfl,Below.refl _ _⟩
theorem dqj(w:World)(g:Glob w):Calls Tryz.prog 243 #[.int .u64 16] w fun e w'=>e=.returned (.int .i64 4)∧Below w.heap.size w w':=by
 have hc:=g.tz;clear g;go_enter Tryz.func243,Tryz.ntmps243;go_wp2_with fail;refine(dqv _ hc).mono ?_;rintro e w1 ⟨rfl,b1⟩;go_wp2
 go_ret
 exact⟨rfl,b1⟩
theorem cwe(w:World):Calls Tryz.prog 242 #[.int .i64 16] w fun e w'=>e=.returned (.bool true)∧w=w':=by
 have e1:(bits BinOp.and IntKind.i64 16 15)=0:=by decide
 go_enter Tryz.func242,Tryz.ntmps242;go_wp2
 go_ret
 exact⟨rfl,rfl⟩
theorem BytesAt.conv_from{P:Program}{w:World}{g:Nat}{e0:TypeId}{l:List UInt8}(h:BytesAt w g e0 l)(src dst e:TypeId)(k n cap:Nat)(hn:k+n=l.length)(hs:P.underlying src=some (.slice e))(he:P.underlying e=some (.int .u8))(hd:P.underlying dst=some .string) :
  (convert src dst (.slice (some ⟨g,k,none⟩) n cap)).run P w=.ok (.string ⟨(l.drop k).toArray⟩) w:=by
 obtain rfl:(l.drop k).length=n:=by rw[ZB];omega
 exact run_convert_bytes_back w src dst e ⟨g,k,none⟩ cap (l.drop k) hs he hd (fun j hj=>by
  rw[axe,List.getElem_drop];exact h.cell (k+j) (by rw[ZB]at hj;omega))
theorem cx2(w:World):BytesAt (w.alloc (.cells Tryz.zeroCells274 274)) w.heap.size 274 (List.replicate 65 0):=
 ⟨Tryz.zeroCells274,0,0,heap_alloc_new w _,by rfl,.inr rfl⟩
set_option maxRecDepth 100000 in
theorem cy8:∀ x:Fin 256,bits .and .u64 ((x.val:Nat):Int) 15=((x.val%16:Nat):Int):=by decide
theorem dzf:∀ d:Fin 16,(#[48,49,50,51,52,53,54,55,56,57,97,98,99,100,101,102,103,104,105,106,107,108,109,110,111,112,113,114,115,116,117,118,119,120,121,122]:Array UInt8)[d.val]'(Nat.lt_trans d.isLt (by decide))=Str.hd d.val:=by decide
theorem cyg (d:Nat) (h:d < 16) (h':d < (⟨#[48,49,50,51,52,53,54,55,56,57,97,98,99,100,101,102,103,104,105,106,107,108,109,110,111,112,113,114,115,116,117,118,119,120,121,122]⟩:ByteArray).size):(⟨#[48,49,50,51,52,53,54,55,56,57,97,98,99,100,101,102,103,104,105,106,107,108,109,110,111,112,113,114,115,116,117,118,119,120,121,122]⟩:ByteArray)[d]'h'=Str.hd d:=dzf ⟨d,h⟩
theorem cxs(u:Nat)(w:World)(g:Glob w)(hu:u<256) :
  Calls Tryz.prog 232 #[.slice none 0 0,.int .u64 u,.int .i64 16,.bool false,.bool false] w fun e w'=>e=.returned (.tuple #[.slice none 0 0,.string ⟨(Str.hexL u).toArray⟩])∧Below w.heap.size w w':=by
 have G:=kept g;clear g;have Z:=kept (cx2 w);have B0:=kept (ball w (.cells Tryz.zeroCells274 274));go_enter Tryz.func232,Tryz.ntmps232;go_wp2_with fail;refine(cwe _).mono ?_;rintro e w1 ⟨rfl,rfl⟩;generalize w.alloc (.cells Tryz.zeroCells274 274)=w1 at Z B0;go_wp2_with fail;refine(dqj _ (G.out.below B0.out)).mono ?_;rintro e w2 ⟨rfl,b2⟩;have B2:=kept (bthen B0.out b2);have Z2:=kept (Z.out.below b2 Z.out.lt);clear Z B0 b2;go_wp2
 go_loopw [1,13] (fun uv iv wr=>Below w.heap.size w wr∧((uv=.int .u64 u∧iv=.int .i64 65∧BytesAt wr w.heap.size 274 (List.replicate 65 0))∨(16≤u∧uv=.int .u64 ((u/16:Nat):Int)∧iv=.int .i64 64∧BytesAt wr w.heap.size 274 ((List.replicate 65 0).set 64 (Str.hd (u%16)))))) (fun uv _ _=>(intOf uv).toNat)
 case atStart=>exact⟨B2.out,.inl ⟨rfl,rfl,Z2.out⟩⟩
 case round =>
  clear Z2 B2;obtain⟨hbel,⟨rfl,rfl,hz⟩|⟨h16,rfl,rfl,hz⟩⟩:=hrel
  ·have Hl:=kept hbel;have Hz:=kept hz;clear hbel hz;by_cases h16:16≤u
   ·have h16':(16:Int)≤u:=by omega
    have hc:wr.cell? ⟨w.heap.size,64,none⟩=_:=Hz.out.cell 64 (by decide);have hf:wr.frozen? ⟨w.heap.size,64,none⟩=_:=Hz.out.free 64 (by decide);have Hs:=kept (Hz.out.set 64 (Str.hd (u%16)));have ha:bits .and .u64 (u:Int) 15=((u%16:Nat):Int):=cy8 ⟨u,hu⟩;have hr:0≤(u:Int)%16∧(u:Int)%16<36:=by omega
    go_wp2;rw[cyg _ (by omega)];refine⟨⟨Hl.out.setCell (Zf _) _,.inr ⟨h16,rfl,rfl,Hs.out⟩⟩,?_⟩;simp only[intOf];omega
   ·have h16':¬(16:Int)≤u:=by omega
    have hc:wr.cell? ⟨w.heap.size,64,none⟩=_:=Hz.out.cell 64 (by decide);have hf:wr.frozen? ⟨w.heap.size,64,none⟩=_:=Hz.out.free 64 (by decide);have hs:=Hz.out.set 64 (Str.hd u);have hcv:=hs.conv_from (P:=Tryz.prog) 58 9 5 64 1 1 (by simp) Tryz.underlying58 Tryz.underlying5 Tryz.underlying9;have hdg:∀ h',(⟨#[48,49,50,51,52,53,54,55,56,57,97,98,99,100,101,102,103,104,105,106,107,108,109,110,111,112,113,114,115,116,117,118,119,120,121,122]⟩:ByteArray)[u]'h'=Str.hd u:=cyg u (by omega);have hr:0≤(u:Int)∧(u:Int) < 36:=by omega
    clear hs;go_wp2;refine bodyPost_ret (v:=.tuple #[.slice none 0 0,.string ⟨#[Str.hd u]⟩]) (by simp[results,Tryz.results232,go_sem]) rfl ⟨?_,Hl.out.setCell (Zf _) _⟩;unfold Str.hexL;rw[if_pos (by omega)]
  ·have Hl:=kept hbel;have Hz:=kept hz;clear hbel hz;obtain⟨v,hv⟩:=Ex (u/16);have Hv:=kept hv;have h16':¬(16:Int)≤v:=by omega
   have hr:0≤(v:Int)∧(v:Int)<36:=by omega
   rw [hv];have hdg:∀ h',(⟨#[48,49,50,51,52,53,54,55,56,57,97,98,99,100,101,102,103,104,105,106,107,108,109,110,111,112,113,114,115,116,117,118,119,120,121,122]⟩:ByteArray)[v]'h'=Str.hd v:=cyg v (by omega);clear hv;have hc:wr.cell? ⟨w.heap.size,63,none⟩=_:=Hz.out.cell 63 (by rw [Ym]; decide);have hf:wr.frozen? ⟨w.heap.size,63,none⟩=_:=Hz.out.free 63 (by rw [Ym]; decide);have hs:=Hz.out.set 63 (Str.hd v);have hcv:=hs.conv_from (P:=Tryz.prog) 58 9 5 63 2 2 (by simp) Tryz.underlying58 Tryz.underlying5 Tryz.underlying9;clear hs;go_wp2;refine bodyPost_ret (v:=.tuple #[.slice none 0 0,.string ⟨#[Str.hd v,Str.hd (u % 16)]⟩]) (by simp [results,Tryz.results232,go_sem]) rfl ⟨?_,Hl.out.setCell (Zf _) _⟩;unfold Str.hexL; rw [if_neg (by omega),Hv.out]
theorem bwm(u:Nat)(w:World)(g:Glob w)(hu:u<256) :
  Calls Tryz.prog 216 #[.int .i64 u,.int .i64 16] w fun e w'=>e=.returned (.string ⟨(Str.hexL u).toArray⟩)∧Below w.heap.size w w':=by
 have hb:=cxs u w g hu;have h0:¬(u:Int)<0:=by omega
 clear g;go_enter Tryz.func216,Tryz.ntmps216;go_wp2_with fail;refine hb.mono ?_;rintro e w1 ⟨rfl,b1⟩;go_wp2
 go_ret
 exact⟨rfl,b1⟩
theorem bwx(u:Nat)(w:World)(g:Glob w)(hu:u<256) :
  Calls Tryz.prog 191 #[.int .i64 u,.int .i64 16] w fun e w'=>e=.returned (.string ⟨(Str.hexL u).toArray⟩)∧Below w.heap.size w w':=by
 have hb:=bwm u w g hu;clear g;go_enter Tryz.func191,Tryz.ntmps191;go_wp2_with fail;refine hb.mono ?_;rintro e w1 ⟨rfl,b1⟩;go_wp2
 go_ret
 exact⟨rfl,b1⟩
set_option maxRecDepth 100000 in
theorem by1:∀ b:Fin 256,Lib.indexByte [48,49,50,51,52,53,54,55,56,57,97,98,99,100,101,102] (UInt8.ofNat b.val)=Str.hexv (UInt8.ofNat b.val):=by decide
theorem bqs(b:UInt8)(w:World) :
  Calls Tryz.prog 170 #[.string ⟨#[48,49,50,51,52,53,54,55,56,57,97,98,99,100,101,102]⟩,.int .u8 b.toNat] w fun e w'=>e=.returned (.int .i64 (Str.hexv b))∧w'=w:=by
 refine(Tryz.strings_IndexByte _ _ w).mono fun e w' h=>?_
 have:=by1 ⟨b.toNat,b.toNat_lt⟩;simp only[UInt8.ofNat_toNat]at this;rw[←this];simpa using h
theorem aya(c:Nat):Lib.validRune (c:Int)=Utf8.valid (c:Int):=by
 unfold Lib.validRune Utf8.valid;rw[Yf];simp only[Zq,ZS,Zc];omega
theorem bxo(l:List UInt8)(h:Str.hexN 6 l=l.length):Str.point l=(0,0,40):=by unfold Str.point;rw[if_pos h]
theorem aqq(l:List UInt8)(k:Nat)(h:Str.hexN 6 l=k)(hk:k<l.length)(hb:l.getD k 0≠125∨k=0∨(1<k∧l.getD 0 0=48)∨Utf8.valid (Str.hexC k l)=false):Str.point l=(0,0,2):=by
 subst h;unfold Str.point;rw[if_neg (by omega),if_pos hb]
theorem bvz(l:List UInt8)(k:Nat)(h:Str.hexN 6 l=k)(hk:k<l.length)(hb:¬(l.getD k 0≠125∨k=0∨(1<k∧l.getD 0 0=48)∨Utf8.valid (Str.hexC k l)=false)):Str.point l=(Str.hexC k l,k+1,0):=by
 subst h;unfold Str.point;rw[if_neg (by omega),if_neg hb]
theorem bx7(l:List UInt8)(k:Nat)(h:Str.hexN 6 l=k)(hk:k<l.length)(h1:l.getD k 0=125)(h2:k≠0)(h3:¬(1<k∧l.getD 0 0=48))(h4:Utf8.valid (Str.hexC k l)=true):Str.point l=(Str.hexC k l,k+1,0):=by
 refine bvz l k h hk ?_;rw[h1,h4];rintro(h|h|h|h)
 ·exact h rfl
 ·exact h2 h
 ·exact h3 h
 ·simp at h
theorem ak8(s:ByteArray)(w:World) :
  Calls Tryz.prog 214 #[.string s] w fun e w'=>e=.returned (.tuple #[.int .i32 (Str.point s.data.toList).1,.int .i64 (Str.point s.data.toList).2.1,.int .i64 (Str.point s.data.toList).2.2])∧Below w.heap.size w w':=by
 go_enter Tryz.func214,Tryz.ntmps214;go_wp2
 go_loopw [5,6] (fun nv iv wr=>Below w.heap.size w wr∧∃ k:Nat,k≤6∧k≤s.size∧iv=.int .i64 k∧nv=.int .i32 (Str.hexC k s.data.toList)∧∀ j,j<k→Str.isHex (s.data.toList.getD j 0)=true) (fun _ iv _=>6-(intOf iv).toNat)
 case atStart=>exact⟨Below.refl _ _,0,by omega,by omega,rfl,rfl,by omega⟩
 case round =>
  obtain⟨hbel,k,h6,hk,rfl,rfl,hall⟩:=hrel;have Hl:=kept hbel;have Ha:=kept hall;clear hbel hall;by_cases hend:k=s.size
  ·subst hend;have Hp:=kept (bxo _ (Str.hexN_end 6 s.size s.data.toList Ha.out (by simp) h6 (.inr (.inl (by simp)))));go_wp2;refine bodyPost_ret (v:=.tuple #[.int .i32 0,.int .i64 0,.int .i64 40]) (by simp[results,Tryz.results214,go_sem]) rfl ⟨by rw[Hp.out];rfl,Hl.out⟩
  ·have hlt:k<s.size:=by omega
   have Hb:=kept (show k=6∨Str.isHex (s.data.toList.getD k 0)=false→Str.hexN 6 s.data.toList=k from fun h=>Str.hexN_end 6 k _ Ha.out (by simpa using hk) h6 (h.imp_right .inr));have hgk:s.data.toList.getD k 0=s[k]:=by simp[hlt];rfl
   have hnn:0≤Str.hexC k s.data.toList:=by omega
   have Hc:=kept (Str.hexC_lt k s.data.toList (by simp;omega));by_cases hk6:k=6
   ·have Hn:=kept (Hb.out (.inl hk6));have hk6':¬(k:Int)<6:=by omega
    have hkpos:1<k:=by omega
    clear hk6;obtain⟨u,hu⟩:∃ u:Int,(s[k].toNat:Int)=u:=⟨_,rfl⟩;by_cases h125:s[k]=125
    ·have hu1:(u==125)=true:=by rw[←hu,h125];rfl
     have hu2:(u !=125)=false:=by rw[←hu,h125];rfl
     have hu3:u=125:=by rw[←hu,h125];rfl
     clear hu3;have H125:=kept h125;clear h125;by_cases hk0:k=0
     ·exfalso;omega
     ·have hkz1:((k:Int)==0)=false:=by simpa using hk0
      have hkz2:¬(k:Int)=0:=by omega
      have hlt0:0<s.size:=by omega
      obtain⟨z,hz⟩:∃ z:Int,(s[0].toNat:Int)=z:=⟨_,rfl⟩;have hg0:s.data.toList.getD 0 0=s[0]:=by simp[hlt0];rfl
      by_cases h48:1<k∧s[0]=48
      ·have Hp:=kept (aqq _ k Hn.out (by simpa using hlt) (.inr (.inr (.inl ⟨h48.1,by rw[hg0];exact h48.2⟩))));have hk1:1<(k:Int):=by omega
       have hz1:(z==48)=true:=by rw[←hz,h48.2];rfl
       clear hg0 h48;go_wp2;refine bodyPost_ret (v:=.tuple #[.int .i32 0,.int .i64 0,.int .i64 2]) (by simp[results,Tryz.results214,go_sem]) rfl ⟨by rw[Hp.out];rfl,Hl.out⟩
      ·have hv0:=aya (Str.hexC k s.data.toList);rcases azl (Utf8.valid (Str.hexC k s.data.toList:Int))with hv|hv
       ·have Hp:=kept (bx7 _ k Hn.out (by simpa using hlt) (by rw[hgk];exact H125.out) hk0 (by rw[hg0];exact h48) hv);have Hv0:=kept (hv0.trans hv);clear hv hv0 hg0;have Hr:=kept (fun W=>(Tryz.utf8_ValidRune (Str.hexC k s.data.toList:Int) W));by_cases hk1:1<k
        ·have hk2:1<(k:Int):=by omega
         have hz1:(z==48)=false:=by rw[←hz];exact azp s[0] 48 (by decide) (fun h=>h48 ⟨hk1,h⟩)
         clear h48;go_wp2_with fail;refine(Hr.out _).mono ?_;rintro e w2 ⟨rfl,rfl⟩;rw[Hv0.out];go_wp2;refine bodyPost_ret (v:=.tuple #[.int .i32 (Str.hexC k s.data.toList:Nat),.int .i64 (k+1:Nat),.int .i64 0]) (by simp[results,Tryz.results214,go_sem]) rfl ⟨by rw[Hp.out],Hl.out⟩
        ·exfalso;omega
       ·have Hp:=kept (aqq _ k Hn.out (by simpa using hlt) (.inr (.inr (.inr hv))));have Hv0:=kept (hv0.trans hv);clear hv hv0 hg0;have Hr:=kept (fun W=>(Tryz.utf8_ValidRune (Str.hexC k s.data.toList:Int) W));by_cases hk1:1<k
        ·have hk2:1<(k:Int):=by omega
         have hz1:(z==48)=false:=by rw[←hz];exact azp s[0] 48 (by decide) (fun h=>h48 ⟨hk1,h⟩)
         clear h48;go_wp2_with fail;refine(Hr.out _).mono ?_;rintro e w2 ⟨rfl,rfl⟩;rw[Hv0.out];go_wp2;refine bodyPost_ret (v:=.tuple #[.int .i32 0,.int .i64 0,.int .i64 2]) (by simp[results,Tryz.results214,go_sem]) rfl ⟨by rw[Hp.out];rfl,Hl.out⟩
        ·exfalso;omega
    ·have Hp:=kept (aqq _ k Hn.out (by simpa using hlt) (.inl (by rw[hgk];exact h125)));have hu1:(u==125)=false:=by rw[←hu];exact azp s[k] 125 (by decide) h125
     have hu2:(u !=125)=true:=by simpa using hu1
     have hu3:¬u=125:=by simpa using hu1
     go_wp2;refine bodyPost_ret (v:=.tuple #[.int .i32 0,.int .i64 0,.int .i64 2]) (by simp[results,Tryz.results214,go_sem]) rfl ⟨by rw[Hp.out];rfl,Hl.out⟩
   ·have hk6':(k:Int)<6:=by omega
    by_cases hx:Str.isHex s[k]=true
    ·have Hx:=kept hx;have hhx:=Str.hexv_le s[k];have hge:¬Str.hexv s[k]<0:=by simpa [Str.isHex]using hx
     have Hs:=kept (Str.hexC_succ k s.data.toList (by simpa using hlt))
     have Hd:=kept (show Str.hexC k s.data.toList<1048576 by
      have:=Hc.out;have:16^k≤16^5:=YL (by decide) (by omega)
      omega)
     clear hx;go_wp2_with fail;refine(bqs s[k] _).mono ?_;rintro e w1 ⟨rfl,rfl⟩;go_wp2;refine⟨⟨Hl.out,k+1,by omega,by omega,by go_num,?_,?_⟩,by simp only[intOf];omega⟩
     ·have e:=Hs.out;have e1:s.data.toList[k]'(by simpa using hlt)=s[k]:=rfl;rw[e1]at e;have hd:=Hd.out;generalize Str.hexC k s.data.toList=C at *;generalize Str.hexv s[k]=D at *;rw[e];congr 1;unfold wrap32;omega
     ·intro j hj;by_cases hjk:j=k
      ·subst hjk;rw[hgk];exact Hx.out
      ·exact Ha.out j (by omega)
    ·have Hn:=kept (Hb.out (.inr (by rw[hgk];simpa using hx)));have hlz:Str.hexv s[k]<0:=by simpa [Str.isHex]using hx
     clear hx;obtain⟨u,hu⟩:∃ u:Int,(s[k].toNat:Int)=u:=⟨_,rfl⟩;have Hdig:Kept (∀ W:World,Calls Tryz.prog 170 #[.string ⟨#[48,49,50,51,52,53,54,55,56,57,97,98,99,100,101,102]⟩,.int .u8 u] W fun e w'=>e=.returned (.int .i64 (Str.hexv s[k]))∧w'=W):=by
      refine kept fun W=>?_
      have h:=bqs s[k] W
      rwa [hu]at h
     by_cases h125:s[k]=125
     ·have hu1:(u==125)=true:=by rw[←hu,h125];rfl
      have hu2:(u !=125)=false:=by rw[←hu,h125];rfl
      have hu3:u=125:=by rw[←hu,h125];rfl
      clear hu3;have H125:=kept h125;clear h125;by_cases hk0:k=0
      ·have Hp:=kept (aqq _ k Hn.out (by simpa using hlt) (.inr (.inl hk0)));subst hk0;go_wp2_with fail;refine(Hdig.out _).mono ?_;rintro e w1 ⟨rfl,rfl⟩;go_wp2;refine bodyPost_ret (v:=.tuple #[.int .i32 0,.int .i64 0,.int .i64 2]) (by simp[results,Tryz.results214,go_sem]) rfl ⟨by rw[Hp.out];rfl,Hl.out⟩
      ·have hkz1:((k:Int)==0)=false:=by simpa using hk0
       have hkz2:¬(k:Int)=0:=by omega
       have hlt0:0<s.size:=by omega
       obtain⟨z,hz⟩:∃ z:Int,(s[0].toNat:Int)=z:=⟨_,rfl⟩;have hg0:s.data.toList.getD 0 0=s[0]:=by simp[hlt0];rfl
       by_cases h48:1<k∧s[0]=48
       ·have Hp:=kept (aqq _ k Hn.out (by simpa using hlt) (.inr (.inr (.inl ⟨h48.1,by rw[hg0];exact h48.2⟩))));have hk1:1<(k:Int):=by omega
        have hz1:(z==48)=true:=by rw[←hz,h48.2];rfl
        clear hg0 h48;go_wp2_with fail;refine(Hdig.out _).mono ?_;rintro e w1 ⟨rfl,rfl⟩;go_wp2;refine bodyPost_ret (v:=.tuple #[.int .i32 0,.int .i64 0,.int .i64 2]) (by simp[results,Tryz.results214,go_sem]) rfl ⟨by rw[Hp.out];rfl,Hl.out⟩
       ·have hv0:=aya (Str.hexC k s.data.toList);rcases azl (Utf8.valid (Str.hexC k s.data.toList:Int))with hv|hv
        ·have Hp:=kept (bx7 _ k Hn.out (by simpa using hlt) (by rw[hgk];exact H125.out) hk0 (by rw[hg0];exact h48) hv);have Hv0:=kept (hv0.trans hv);clear hv hv0 hg0;have Hr:=kept (fun W=>(Tryz.utf8_ValidRune (Str.hexC k s.data.toList:Int) W));by_cases hk1:1<k
         ·have hk2:1<(k:Int):=by omega
          have hz1:(z==48)=false:=by rw[←hz];exact azp s[0] 48 (by decide) (fun h=>h48 ⟨hk1,h⟩)
          clear h48;go_wp2_with fail;refine(Hdig.out _).mono ?_;rintro e w1 ⟨rfl,rfl⟩;go_wp2_with fail;refine(Hr.out _).mono ?_;rintro e w2 ⟨rfl,rfl⟩;rw[Hv0.out];go_wp2;refine bodyPost_ret (v:=.tuple #[.int .i32 (Str.hexC k s.data.toList:Nat),.int .i64 (k+1:Nat),.int .i64 0]) (by simp[results,Tryz.results214,go_sem]) rfl ⟨by rw[Hp.out],Hl.out⟩
         ·have hk2:¬1<(k:Int):=by omega
          clear h48;go_wp2_with fail;refine(Hdig.out _).mono ?_;rintro e w1 ⟨rfl,rfl⟩;go_wp2_with fail;refine(Hr.out _).mono ?_;rintro e w2 ⟨rfl,rfl⟩;rw[Hv0.out];go_wp2;refine bodyPost_ret (v:=.tuple #[.int .i32 (Str.hexC k s.data.toList:Nat),.int .i64 (k+1:Nat),.int .i64 0]) (by simp[results,Tryz.results214,go_sem]) rfl ⟨by rw[Hp.out],Hl.out⟩
        ·have Hp:=kept (aqq _ k Hn.out (by simpa using hlt) (.inr (.inr (.inr hv))));have Hv0:=kept (hv0.trans hv);clear hv hv0 hg0;have Hr:=kept (fun W=>(Tryz.utf8_ValidRune (Str.hexC k s.data.toList:Int) W));by_cases hk1:1<k
         ·have hk2:1<(k:Int):=by omega
          have hz1:(z==48)=false:=by rw[←hz];exact azp s[0] 48 (by decide) (fun h=>h48 ⟨hk1,h⟩)
          clear h48;go_wp2_with fail;refine(Hdig.out _).mono ?_;rintro e w1 ⟨rfl,rfl⟩;go_wp2_with fail;refine(Hr.out _).mono ?_;rintro e w2 ⟨rfl,rfl⟩;rw[Hv0.out];go_wp2;refine bodyPost_ret (v:=.tuple #[.int .i32 0,.int .i64 0,.int .i64 2]) (by simp[results,Tryz.results214,go_sem]) rfl ⟨by rw[Hp.out];rfl,Hl.out⟩
         ·have hk2:¬1<(k:Int):=by omega
          clear h48;go_wp2_with fail;refine(Hdig.out _).mono ?_;rintro e w1 ⟨rfl,rfl⟩;go_wp2_with fail;refine(Hr.out _).mono ?_;rintro e w2 ⟨rfl,rfl⟩;rw[Hv0.out];go_wp2;refine bodyPost_ret (v:=.tuple #[.int .i32 0,.int .i64 0,.int .i64 2]) (by simp[results,Tryz.results214,go_sem]) rfl ⟨by rw[Hp.out];rfl,Hl.out⟩
     ·have Hp:=kept (aqq _ k Hn.out (by simpa using hlt) (.inl (by rw[hgk];exact h125)));have hu1:(u==125)=false:=by rw[←hu];exact azp s[k] 125 (by decide) h125
      have hu2:(u !=125)=true:=by simpa using hu1
      have hu3:¬u=125:=by simpa using hu1
      go_wp2_with fail;refine(Hdig.out _).mono ?_;rintro e w1 ⟨rfl,rfl⟩;go_wp2;refine bodyPost_ret (v:=.tuple #[.int .i32 0,.int .i64 0,.int .i64 2]) (by simp[results,Tryz.results214,go_sem]) rfl ⟨by rw[Hp.out];rfl,Hl.out⟩
theorem aql(b:UInt8)(l:List UInt8):Str.escp (b::l)=if b=110 then(10,1,0)else if b=114 then(13,1,0)else if b=116 then(9,1,0)else if b=34∨b=92 then(b.toNat,1,0)
  else if b=117 then(match l with
   |[]=>(0,0,40)
   |c::u=>if c=123 then((Str.point u).1,(Str.point u).2.1+2,(Str.point u).2.2)else(0,0,2))
  else(0,0,2):=rfl
theorem extract_drop(s:ByteArray)(k:Nat):(s.extract k s.size).data.toList=s.data.toList.drop k:=by
 simp[ZJ]
theorem bv9(l:List UInt8):(Str.point l).2.1≤7:=by
 have:=Str.hexN_le 6 l;unfold Str.point
 repeat' split
 all_goals simp only
 all_goals omega
theorem bju(s:ByteArray)(w:World) :
  Calls Tryz.prog 188 #[.string s] w fun e w'=>e=.returned (.tuple #[.int .i32 (Str.escp s.data.toList).1,.int .i64 (Str.escp s.data.toList).2.1,.int .i64 (Str.escp s.data.toList).2.2])∧Below w.heap.size w w':=by
 by_cases h0:s.size=0
 ·have hs:s=⟨#[]⟩:=by
   apply ByteArray.ext;exact Array.eq_empty_of_size_eq_zero h0
  subst hs;go_enter Tryz.func188,Tryz.ntmps188;go_wp2;refine bodyPost_ret (v:=.tuple #[.int .i32 0,.int .i64 0,.int .i64 40]) (by simp[results,Tryz.results188,go_sem]) rfl ⟨rfl,Below.refl _ _⟩
 ·have hlt:0<s.size:=by omega
  have hd:s.data.toList=s[0]::s.data.toList.drop 1:=by have:=drop_cons s 0 hlt;simpa using this
  have hie:s.toList.isEmpty=false:=by rw[ByteArray.toList_eq,hd];rfl
  go_enter Tryz.func188,Tryz.ntmps188;clear h0;by_cases h110:s[0]=110
  ·have Hp:=kept (show Str.escp s.data.toList=(10,1,0) by rw[hd,aql,if_pos h110]);have hu:(s[0].toNat:Int)=110:=by rw[h110];rfl
   clear hd h110;go_wp2;refine bodyPost_ret (v:=.tuple #[.int .i32 10,.int .i64 1,.int .i64 0]) (by simp[results,Tryz.results188,go_sem]) rfl ⟨by rw[Hp.out];rfl,Below.refl _ _⟩
  have g110:=azp s[0] 110 (by decide) h110;by_cases h114:s[0]=114
  ·have Hp:=kept (show Str.escp s.data.toList=(13,1,0) by rw[hd,aql,if_neg h110,if_pos h114]);have hu:(s[0].toNat:Int)=114:=by rw[h114];rfl
   clear hd h110 h114;go_wp2;refine bodyPost_ret (v:=.tuple #[.int .i32 13,.int .i64 1,.int .i64 0]) (by simp[results,Tryz.results188,go_sem]) rfl ⟨by rw[Hp.out];rfl,Below.refl _ _⟩
  have g114:=azp s[0] 114 (by decide) h114;by_cases h116:s[0]=116
  ·have Hp:=kept (show Str.escp s.data.toList=(9,1,0) by rw[hd,aql,if_neg h110,if_neg h114,if_pos h116]);have hu:(s[0].toNat:Int)=116:=by rw[h116];rfl
   clear hd h110 h114 h116;go_wp2;refine bodyPost_ret (v:=.tuple #[.int .i32 9,.int .i64 1,.int .i64 0]) (by simp[results,Tryz.results188,go_sem]) rfl ⟨by rw[Hp.out];rfl,Below.refl _ _⟩
  have g116:=azp s[0] 116 (by decide) h116;by_cases h34:s[0]=34
  ·have Hp:=kept (show Str.escp s.data.toList=(34,1,0) by rw[hd,aql,if_neg h110,if_neg h114,if_neg h116,if_pos (.inl h34),h34];rfl);have hu:(s[0].toNat:Int)=34:=by rw[h34];rfl
   clear hd h110 h114 h116 h34;go_wp2;refine bodyPost_ret (v:=.tuple #[.int .i32 34,.int .i64 1,.int .i64 0]) (by simp[results,Tryz.results188,go_sem]) rfl ⟨by rw[Hp.out];rfl,Below.refl _ _⟩
  have g34:=azp s[0] 34 (by decide) h34;by_cases h92:s[0]=92
  ·have Hp:=kept (show Str.escp s.data.toList=(92,1,0) by rw[hd,aql,if_neg h110,if_neg h114,if_neg h116,if_pos (.inr h92),h92];rfl);have hu:(s[0].toNat:Int)=92:=by rw[h92];rfl
   clear hd h110 h114 h116 h34 h92;go_wp2;refine bodyPost_ret (v:=.tuple #[.int .i32 92,.int .i64 1,.int .i64 0]) (by simp[results,Tryz.results188,go_sem]) rfl ⟨by rw[Hp.out];rfl,Below.refl _ _⟩
  have g92:=azp s[0] 92 (by decide) h92;by_cases h117:s[0]=117
  ·have He:=kept (show Str.escp s.data.toList=_ by rw[hd,aql,if_neg h110,if_neg h114,if_neg h116,if_neg (fun h=>h.elim h34 h92),if_pos h117]);have hu:(s[0].toNat:Int)=117:=by rw[h117];rfl
   clear hd h117 h110 g110 h114 g114 h116 g116 h34 g34 h92 g92;by_cases h1:s.size=1
   ·have Hp:=kept (show Str.escp s.data.toList=(0,0,40) by rw[He.out,Zw (by simp;omega)]);have h1':(s.size:Int)=1:=by omega
    go_wp2;refine bodyPost_ret (v:=.tuple #[.int .i32 0,.int .i64 0,.int .i64 40]) (by simp[results,Tryz.results188,go_sem]) rfl ⟨by rw[Hp.out];rfl,Below.refl _ _⟩
   ·have hlt1:1<s.size:=by omega
    have hlt1':(1:Int)<s.size:=by omega
    have hd1:s.data.toList.drop 1=s[1]::s.data.toList.drop 2:=drop_cons s 1 hlt1;have h1a:((s.size:Int)==1)=false:=by simp;omega
    by_cases h123:s[1]=123
    ·have Hp:=kept (show Str.escp s.data.toList=((Str.point (s.data.toList.drop 2)).1,(Str.point (s.data.toList.drop 2)).2.1+2,(Str.point (s.data.toList.drop 2)).2.2) by rw[He.out,hd1];exact if_pos h123);have hv:(s[1].toNat:Int)=123:=by rw[h123];rfl
     have hsl:(2:Int)≤s.size:=by omega
     have hx:=ak8 (s.extract 2 s.size);rw[extract_drop]at hx;have Hx:=kept hx;have hle:=bv9 (s.data.toList.drop 2);clear hd1 h123 hx h1;generalize Str.point (s.data.toList.drop 2)=q at *;obtain⟨q1,q2,q3⟩:=q;simp only at hle;go_wp2_with fail;refine(Hx.out _).mono ?_;rintro e w1 ⟨rfl,b1⟩;have B1:=kept b1;clear b1;go_wp2;refine bodyPost_ret (v:=.tuple #[.int .i32 q1,.int .i64 (q2+2:Nat),.int .i64 q3]) (by simp[results,Tryz.results188,go_sem]) rfl ⟨by rw[Hp.out],B1.out⟩
    ·have Hp:=kept (show Str.escp s.data.toList=(0,0,2) by rw[He.out,hd1];exact if_neg h123);have hv1:=azp s[1] 123 (by decide) h123;have hv2:((s[1].toNat:Int)!=123)=true:=by simpa using hv1
     clear hd1 h123 h1;go_wp2;refine bodyPost_ret (v:=.tuple #[.int .i32 0,.int .i64 0,.int .i64 2]) (by simp[results,Tryz.results188,go_sem]) rfl ⟨by rw[Hp.out];rfl,Below.refl _ _⟩
  ·have Hp:=kept (show Str.escp s.data.toList=(0,0,2) by rw[hd,aql,if_neg h110,if_neg h114,if_neg h116,if_neg (fun h=>h.elim h34 h92),if_neg h117]);have g117:=azp s[0] 117 (by decide) h117;clear hd h117 h110 h114 h116 h34 h92;go_wp2;refine bodyPost_ret (v:=.tuple #[.int .i32 0,.int .i64 0,.int .i64 2]) (by simp[results,Tryz.results188,go_sem]) rfl ⟨by rw[Hp.out];rfl,Below.refl _ _⟩
structure Bld(W:World)(l:List UInt8)(w:World):Prop where
 out:Lib.IsBuilderF 60 5 W.heap.size W.heap.size (Lib.byteCells l) w
theorem ayb{T e:TypeId}{B b:Nat}{p:Value}{bs:List Value}{W W':World}(h:Lib.BuilderAtF T e B b p bs W)(hb:Below W.heap.size W W'):Lib.BuilderAtF T e B b p bs W':=by
 have hlt:=h.lt;obtain⟨hB,v,hv,hown,hne⟩:=h;exact⟨hB,v,(hb.block b hlt).trans hv,hown.kept (row:=none) ⟨hb.os,hb.tape,hb.output,hb.size,fun k hk _=>hb.block k hk⟩ (Classical.em _),hne⟩
namespace Bld
variable {W w:World} {l:List UInt8}
theorem fresh(W:World):Bld W [] (W.alloc (.cells #[.pointer none,.slice none 0 0] 60)):=⟨Lib.IsBuilderF.of (Lib.fresh_isBuilder _ _ W)⟩
theorem below{w':World}(h:Bld W l w)(b:Below w.heap.size w w'):Bld W l w':=⟨h.out.elim (fun x => .inl (ayb x b)) (fun x => .inr (ayb x b))⟩
theorem size(h:Bld W l w):W.heap.size<w.heap.size:=h.out.elim (fun x=>x.lt) (fun x=>x.lt)
theorem byte(h:Bld W l w)(hl:l.length≤1000000000)(c:UInt8) :
  Calls Tryz.prog 190 #[.pointer (some ⟨W.heap.size,0,none⟩),.int .u8 c.toNat] w fun e w'=>e=.returned .nilIface∧Bld W (l++[c]) w'∧Below W.heap.size w w':=by
 have hs:=h.size;refine(Tryz.Builder_WriteByte_k _ _ _ c.toNat w h.out (by rw[Lib.byteCells_length];omega) (by omega)).mono fun e w' hh=>⟨hh.1,⟨.inr ?_⟩,hh.2.2.1⟩
 have:=hh.2.1;simpa [Lib.byteCells]using this
theorem str(h:Bld W l w)(hl:l.length≤1000000000)(s:ByteArray)(hs2:s.size≤1000000000) :
  Calls Tryz.prog 20 #[.pointer (some ⟨W.heap.size,0,none⟩),.string s] w fun e w'=>e=.returned (.tuple #[.int .i64 s.size,.nilIface])∧Bld W (l++s.data.toList) w'∧Below W.heap.size w w':=by
 have hs:=h.size;refine(Tryz.Builder_WriteString_k _ _ _ s w h.out (by rw[Lib.byteCells_length];omega) (by omega)).mono fun e w' hh=>⟨hh.1,⟨.inr ?_⟩,hh.2.2.1⟩
 have:=hh.2.1;simpa [Lib.byteCells,Lib.strCells]using this
theorem rune(h:Bld W l w)(hl:l.length≤1000000000)(c:Nat)(hc:c<2147483648) :
  Calls Tryz.prog 189 #[.pointer (some ⟨W.heap.size,0,none⟩),.int .i32 c] w fun e w'=>(∃ n:Int,e=.returned (.tuple #[.int .i64 n,.nilIface]))∧Bld W (l++Str.enc c) w'∧Below W.heap.size w w':=by
 have hs:=h.size;refine(Tryz.Builder_WriteRune_k _ _ _ c (by omega) (by omega) w h.out (by rw[Lib.byteCells_length];omega) (by omega)).mono fun e w' hh=>⟨⟨_,hh.1⟩,⟨.inr ?_⟩,hh.2.2.1⟩
 have:=hh.2.1;rw[←Lib.byteCells_encodeRune]at this;simpa [Lib.byteCells,Str.enc]using this
theorem len(h:Bld W l w) :
  Calls Tryz.prog 19 #[.pointer (some ⟨W.heap.size,0,none⟩)] w fun e w'=>e=.returned (.int .i64 l.length)∧w'=w:=by
 refine(Tryz.Builder_Len_f _ _ _ w h.out).mono fun e w' hh=>?_
 rw[Lib.byteCells_length]at hh;exact hh
theorem string(h:Bld W l w) :
  Calls Tryz.prog 21 #[.pointer (some ⟨W.heap.size,0,none⟩)] w fun e w'=>e=.returned (.string ⟨l.toArray⟩)∧Below W.heap.size w w':=by
 have hs:=h.size;exact(Tryz.Builder_String_any_k _ _ _ w h.out (by omega)).mono fun e w' hh=>⟨hh.1,hh.2.2.1⟩
end Bld
end Go.Proofs.YtdgcbckcameggadGreatDoor

namespace Go.Proofs.YtdgcbckcameggadGreatDoor
open Go.RowKit
open Go.Lib in
theorem Str.decodeGo_drop(s:ByteArray)(k:Nat)(h:k<s.size):decodeGo (s.extract k s.size)=decodeL (s.data.toList.drop k):=by
 unfold decodeGo;rw[if_neg (by simp;omega),←Str.decL (s.extract k s.size) 0];congr 1;simp[ZJ]
theorem bjf(s:ByteArray)(w:World)(hs:s.size≤2000000)(g:Glob w) :
  Calls Tryz.prog 168 #[.string s] w fun e w'=>e=.returned (.tuple #[.string ⟨(Str.unquote s.data.toList).1.toArray⟩,.int .i64 (Str.unquote s.data.toList).2.1,.int .i64 (Str.unquote s.data.toList).2.2])∧Below w.heap.size w w':=by
 obtain⟨U,hU⟩:=Ex (Str.unquote s.data.toList);obtain⟨U1,U2,U3⟩:=U;rw[hU];show Calls Tryz.prog 168 #[.string s] w fun e w'=>e=.returned (.tuple #[.string ⟨U1.toArray⟩,.int .i64 U2,.int .i64 U3])∧Below w.heap.size w w'
 have G:=kept g;clear g;by_cases h0:s.size=0
 ·have hs:s=⟨#[]⟩:=by
   apply ByteArray.ext;exact Array.eq_empty_of_size_eq_zero h0
  subst hs;obtain⟨rfl,h⟩:=Ye (show(([],0,40):List UInt8×Nat×Int)=(U1,U2,U3)from hU);obtain⟨rfl,rfl⟩:=Ye h;go_enter Tryz.func168,Tryz.ntmps168;go_wp2;refine bodyPost_ret (v:=.tuple #[.string ⟨#[]⟩,.int .i64 0,.int .i64 40]) (by simp[results,Tryz.results168,go_sem]) rfl ⟨rfl,Below.refl _ _⟩
 ·have hlt:0<s.size:=by omega
  have hd:s.data.toList=s[0]::s.data.toList.drop 1:=by have:=drop_cons s 0 hlt;simpa using this
  have hie:s.toList.isEmpty=false:=by rw[ByteArray.toList_eq,hd];rfl
  have hne:s.data.toList≠[]:=by rw[hd];simp
  have hg0:s.data.toList.getD 0 0=s[0]:=by rw[hd];rfl
  unfold Str.unquote at hU;rw[if_neg hne,hg0]at hU;clear h0 hd hne hg0;by_cases h34:s[0]=34
  ·rw[if_neg (by simpa using h34)]at hU;have HU:=kept hU;have hu:(s[0].toNat:Int)=34:=by rw[h34];rfl
   clear hU h34;go_enter Tryz.func168,Tryz.ntmps168;go_wp2
   go_loopw [6] (fun av wr=>Below w.heap.size w wr∧∃(k f:Nat) (acc:List UInt8),1≤k∧k≤s.size∧av=.int .i64 k∧s.size-k<f∧acc.length≤4*k∧Bld w acc wr∧Str.unq f (s.data.toList.drop k) acc k=(U1,U2,U3)) (fun av _=>s.size-(intOf av).toNat)
   case atStart=>exact⟨ball w _,1,s.data.toList.length,[],by omega,by omega,rfl,by simp;omega,by simp,Bld.fresh w,HU.out⟩
   case round =>
    obtain⟨hbel,k,f,acc,hk1,hk,rfl,hf,hacc,hb,hun⟩:=hrel;have Hl:=kept hbel;have Hb:=kept hb;have Hacc:=kept (show acc.length≤1000000000 by omega);clear hbel hb;obtain⟨f,rfl⟩:∃ f',f=f'+1:=⟨f-1,by omega⟩;by_cases hend:k=s.size
    ·subst hend;rw[Zw (by simp),Str.unq_nil]at hun;obtain⟨rfl,h⟩:=Ye hun;obtain⟨rfl,rfl⟩:=Ye h;clear hacc hf;go_wp2;refine bodyPost_ret (v:=.tuple #[.string ⟨#[]⟩,.int .i64 0,.int .i64 40]) (by simp[results,Tryz.results168,go_sem]) rfl ⟨rfl,Hl.out⟩
    ·have hkl:k<s.size:=by omega
     have hne:s.data.toList.drop k≠[]:=by rw[drop_cons s k hkl];simp
     have hgk:(s.data.toList.drop k).getD 0 0=s[k]:=by rw[drop_cons s k hkl];rfl
     by_cases h34k:s[k]=34
     ·rw[Str.unq_quote _ _ _ _ hne (by rw[hgk];exact h34k)]at hun;have hv:(s[k].toNat:Int)=34:=by rw[h34k];rfl
      clear hne hgk h34k hf;have hke:((k:Int)==s.size)=false:=by simp;omega
      by_cases hbig:4096<acc.length
      ·rw[if_pos hbig]at hun;obtain⟨rfl,h⟩:=Ye hun;obtain⟨rfl,rfl⟩:=Ye h;have hbig':(4096:Int)<acc.length:=by omega
       clear hbig hacc hend;go_wp2_with fail;refine(Hb.out.len).mono ?_;rintro e w1 ⟨rfl,rfl⟩;go_wp2;refine bodyPost_ret (v:=.tuple #[.string ⟨#[]⟩,.int .i64 0,.int .i64 3]) (by simp[results,Tryz.results168,go_sem]) rfl ⟨rfl,Hl.out⟩
      ·rw[if_neg hbig]at hun;obtain⟨rfl,h⟩:=Ye hun;obtain⟨rfl,rfl⟩:=Ye h;have hbig':¬(4096:Int)<acc.length:=by omega
       clear hbig hacc hend;go_wp2_with fail;refine(Hb.out.len).mono ?_;rintro e w1 ⟨rfl,rfl⟩;go_wp2_with fail;refine(Hb.out.string).mono ?_;rintro e w2 ⟨rfl,b2⟩;have B2:=kept b2;clear b2;go_wp2;refine bodyPost_ret (v:=.tuple #[.string ⟨acc.toArray⟩,.int .i64 (k+1:Nat),.int .i64 0]) (by simp[results,Tryz.results168,go_sem]) rfl ⟨rfl,Hl.out.trans B2.out⟩
     ·obtain⟨⟨c,n⟩,hd⟩:=Ex (Lib.decodeL (s.data.toList.drop k));have hwd:=Str.dec_width s k hkl;have hcl:=Str.dec_lt (s.data.toList.drop k);rw[←Str.decL,hd]at hwd;rw[hd]at hcl;have hw1:1≤n:=hwd.1;have hw2':k+n≤s.size:=hwd.2;have hw2:(k:Int)+n≤s.size:=by omega
      have Hcl:=kept (show c<2147483648 by have:c≤1114111:=hcl;omega);have Hd:=kept hd;have Hdec:Kept (∀ W:World,Glob W→Calls Tryz.prog 187 #[.string (s.extract k s.size)] W fun e W'=>e=.returned (.tuple #[.int .i32 c,.int .i64 n])∧Below W.heap.size W W'):=by
       refine kept fun W gW=>?_
       have h:=Tryz.utf8_DecodeRuneInString (s.extract k s.size) W gW.tabs;rw[Str.decodeGo_drop s k hkl,hd]at h;exact h
      have hvk1:=azp s[k] 34 (by decide) h34k;have hvk2:((s[k].toNat:Int)!=34)=true:=by simpa using hvk1
      rw[←hgk]at h34k;clear hd hwd hcl hend;rw[hgk]at h34k;by_cases hc92:c=92
      ·have h92:(s.data.toList.drop k).getD 0 0=92:=by
        have hcs:=Str.dec_cases (s.data.toList.drop k);rw[Hd.out,hc92]at hcs;rcases hcs with⟨_,h4⟩|⟨_,h4⟩
        ·rw[←Z9];exact(congrArg Prod.fst h4).symm
        ·simp only at h4;omega
       obtain⟨⟨x,m,e0⟩,he⟩:=Ex (Str.escp (s.data.toList.drop (k+1)));have H1:=kept (Str.one_esc (s.data.toList.drop k) h92 x m e0 (by rw[YV];exact he));have Hx:Kept (∀ W:World,Calls Tryz.prog 188 #[.string (s.extract (k+1) s.size)] W fun e W'=>e=.returned (.tuple #[.int .i32 x,.int .i64 m,.int .i64 e0])∧Below W.heap.size W W'):=by
        refine kept fun W=>?_
        have h:=bju (s.extract (k+1) s.size) W;rw[extract_drop,he]at h;exact h
       have hxl:=Str.escp_lt (s.data.toList.drop (k+1));have hml:=Str.escp_len (s.data.toList.drop (k+1));rw[he]at hxl hml;have Hxl:=kept (show x<2147483648 by have:x<16777216:=hxl;omega);have hk1s:(k:Int)+1≤s.size:=by omega
       subst hc92;clear he hxl h92;by_cases he0:e0=0
       ·subst he0;have hml2:=hml rfl;have hm1:1≤m:=hml2.1;have hm2:m+k+1≤s.size:=by have:=hml2.2;simp at this;omega
        clear hml hml2;rw[if_neg (by simp)]at H1;rw[Str.unq_step _ _ _ _ _ _ hne (by rw[hgk];exact h34k) H1.out,YV]at hun;have Hun:=kept hun;have Hac:=kept hacc;clear hne hgk h34k hun hacc;go_wp2_with fail;refine(Hdec.out _ (G.out.below Hl.out)).mono ?_;rintro e w1 ⟨rfl,b1⟩;have B1:=kept (bthen Hl.out b1);have Hb1:=kept (Hb.out.below b1);clear b1;go_wp2_with fail;refine(Hx.out _).mono ?_;rintro e w2 ⟨rfl,b2⟩;have B2:=kept (bthen B1.out b2);have Hb2:=kept (Hb1.out.below b2);clear b2;go_wp2_with fail;refine(Hb2.out.rune Hacc.out x Hxl.out).mono ?_;rintro e w3 ⟨⟨q,rfl⟩,hb3,b3⟩;have B3:=kept (Below.trans B2.out b3);have Hb3:=kept hb3;clear b3 hb3;go_wp2
        go_roundw
        case rel =>
         refine⟨B3.out,k+(m+1),f,acc++Str.enc x,by omega,by omega,by go_num,by omega,?_,Hb3.out,Hun.out⟩;have h1:=(Str.enc_length x).2;have h2:=Hac.out;rw[Za];omega
        case measure=>simp[intOf];omega
       ·rw[if_pos he0]at H1;rw[Str.unq_err _ _ _ _ _ _ _ hne (by rw[hgk];exact h34k) H1.out he0]at hun;obtain⟨rfl,h⟩:=Ye hun;obtain⟨rfl,rfl⟩:=Ye h;have he1:(e0==0)=false:=by simpa using he0
        have he2:(e0 !=0)=true:=by simpa using he0
        clear hne hgk h34k hf hacc hml hw1 hw2 hw2';go_wp2_with fail;refine(Hdec.out _ (G.out.below Hl.out)).mono ?_;rintro e w1 ⟨rfl,b1⟩;have B1:=kept (bthen Hl.out b1);have Hb1:=kept (Hb.out.below b1);clear b1;go_wp2_with fail;refine(Hx.out _).mono ?_;rintro e w2 ⟨rfl,b2⟩;have B2:=kept (bthen B1.out b2);clear b2;go_wp2;refine bodyPost_ret (v:=.tuple #[.string ⟨#[]⟩,.int .i64 0,.int .i64 e0]) (by simp[results,Tryz.results168,go_sem]) rfl ⟨rfl,B2.out⟩
      ·have g1:((c:Int)==92)=false:=by simp;omega
       have g2:¬(c:Int)=92:=by omega
       by_cases h655:c=65533
       ·subst h655;by_cases hn1:n=1
        ·subst hn1;have H1:=kept (Str.one_bad (s.data.toList.drop k) _ _ Hd.out hc92 (.inl ⟨rfl,rfl⟩));rw[Str.unq_err _ _ _ _ _ _ _ hne (by rw[hgk];exact h34k) H1.out (by decide)]at hun;obtain⟨rfl,h⟩:=Ye hun;obtain⟨rfl,rfl⟩:=Ye h;clear hne hgk h34k hf hacc;go_wp2_with fail;refine(Hdec.out _ (G.out.below Hl.out)).mono ?_;rintro e w1 ⟨rfl,b1⟩;have B1:=kept (bthen Hl.out b1);have Hb1:=kept (Hb.out.below b1);clear b1;go_wp2;refine bodyPost_ret (v:=.tuple #[.string ⟨#[]⟩,.int .i64 0,.int .i64 2]) (by simp[results,Tryz.results168,go_sem]) rfl ⟨rfl,B1.out⟩
        ·have hn2:((n:Int)==1)=false:=by simp;omega
         have H1:=kept (Str.one_ok (s.data.toList.drop k) hne _ _ Hd.out hc92 (by omega));rw[Str.unq_step _ _ _ _ _ _ hne (by rw[hgk];exact h34k) H1.out,YV]at hun;have Hun:=kept hun;have Hac:=kept hacc;clear hne hgk h34k hun hacc;go_wp2_with fail;refine(Hdec.out _ (G.out.below Hl.out)).mono ?_;rintro e w1 ⟨rfl,b1⟩;have B1:=kept (bthen Hl.out b1);have Hb1:=kept (Hb.out.below b1);clear b1;go_wp2_with fail;refine(Hb1.out.rune Hacc.out _ Hcl.out).mono ?_;rintro e w2 ⟨⟨q,rfl⟩,hb2,b2⟩;have B2:=kept (Below.trans B1.out b2);have Hb2:=kept hb2;clear b2 hb2;go_wp2
         go_roundw
         case rel =>
          refine⟨B2.out,k+n,f,acc++Str.enc _,by omega,hw2',by go_num,by omega,?_,Hb2.out,Hun.out⟩;have h1:=(Str.enc_length 65533).2;have h2:=Hac.out;rw[Za];omega
         case measure=>simp[intOf];omega
       ·have h655a:((c:Int)==65533)=false:=by simp;omega
        by_cases h32:c<32
        ·have h32':(c:Int)<32:=by omega
         have H1:=kept (Str.one_bad (s.data.toList.drop k) _ _ Hd.out hc92 (.inr (.inl h32)));rw[Str.unq_err _ _ _ _ _ _ _ hne (by rw[hgk];exact h34k) H1.out (by decide)]at hun;obtain⟨rfl,h⟩:=Ye hun;obtain⟨rfl,rfl⟩:=Ye h;clear hne hgk h34k hf hacc;go_wp2_with fail;refine(Hdec.out _ (G.out.below Hl.out)).mono ?_;rintro e w1 ⟨rfl,b1⟩;have B1:=kept (bthen Hl.out b1);have Hb1:=kept (Hb.out.below b1);clear b1;go_wp2;refine bodyPost_ret (v:=.tuple #[.string ⟨#[]⟩,.int .i64 0,.int .i64 2]) (by simp[results,Tryz.results168,go_sem]) rfl ⟨rfl,B1.out⟩
        ·have h32':¬(c:Int)<32:=by omega
         by_cases h127:c=127
         ·subst h127;have H1:=kept (Str.one_bad (s.data.toList.drop k) _ _ Hd.out hc92 (.inr (.inr rfl)));rw[Str.unq_err _ _ _ _ _ _ _ hne (by rw[hgk];exact h34k) H1.out (by decide)]at hun;obtain⟨rfl,h⟩:=Ye hun;obtain⟨rfl,rfl⟩:=Ye h;clear hne hgk h34k hf hacc;go_wp2_with fail;refine(Hdec.out _ (G.out.below Hl.out)).mono ?_;rintro e w1 ⟨rfl,b1⟩;have B1:=kept (bthen Hl.out b1);have Hb1:=kept (Hb.out.below b1);clear b1;go_wp2;refine bodyPost_ret (v:=.tuple #[.string ⟨#[]⟩,.int .i64 0,.int .i64 2]) (by simp[results,Tryz.results168,go_sem]) rfl ⟨rfl,B1.out⟩
         ·have h127a:((c:Int)==127)=false:=by simp;omega
          have H1:=kept (Str.one_ok (s.data.toList.drop k) hne _ _ Hd.out hc92 (by omega));rw[Str.unq_step _ _ _ _ _ _ hne (by rw[hgk];exact h34k) H1.out,YV]at hun;have Hun:=kept hun;have Hac:=kept hacc;clear hne hgk h34k hun hacc;go_wp2_with fail;refine(Hdec.out _ (G.out.below Hl.out)).mono ?_;rintro e w1 ⟨rfl,b1⟩;have B1:=kept (bthen Hl.out b1);have Hb1:=kept (Hb.out.below b1);clear b1;go_wp2_with fail;refine(Hb1.out.rune Hacc.out _ Hcl.out).mono ?_;rintro e w2 ⟨⟨q,rfl⟩,hb2,b2⟩;have B2:=kept (Below.trans B1.out b2);have Hb2:=kept hb2;clear b2 hb2;go_wp2
          go_roundw
          case rel =>
           refine⟨B2.out,k+n,f,acc++Str.enc _,by omega,hw2',by go_num,by omega,?_,Hb2.out,Hun.out⟩;have h1:=(Str.enc_length c).2;have h2:=Hac.out;rw[Za];omega
          case measure=>simp[intOf];omega
  ·rw[if_pos h34]at hU;obtain⟨rfl,h⟩:=Ye hU;obtain⟨rfl,rfl⟩:=Ye h;have g34:=azp s[0] 34 (by decide) h34;have g34':((s[0].toNat:Int)!=34)=true:=by simpa using g34
   clear h34 hU;go_enter Tryz.func168,Tryz.ntmps168;go_wp2;refine bodyPost_ret (v:=.tuple #[.string ⟨#[]⟩,.int .i64 0,.int .i64 2]) (by simp[results,Tryz.results168,go_sem]) rfl ⟨rfl,Below.refl _ _⟩
theorem cvj(s:ByteArray)(k:Nat)(h:k<s.size):(s.data.toList.take (k+1)).flatMap Str.esc=(s.data.toList.take k).flatMap Str.esc++Str.esc s[k]:=by
 rw[bxb s k h,Yp];simp
theorem cxb(s:ByteArray)(w:World)(hs:s.size≤2000000)(g:Glob w) :
  Calls Tryz.prog 169 #[.string s] w fun e w'=>e=.returned (.string ⟨(Str.quote s.data.toList).toArray⟩)∧Below w.heap.size w w':=by
 have G:=kept g;clear g;have Hb0:=kept (Bld.fresh w);have B0:=kept (ball w (.cells #[.pointer none,.slice none 0 0] 60));go_enter Tryz.func169,Tryz.ntmps169;go_wp2_with fail;refine(Hb0.out.byte (by simp) 34).mono ?_;rintro e w2 ⟨rfl,hb2,b2⟩;have B2:=kept (Below.trans B0.out b2);have Hb2:=kept hb2;clear B0 Hb0 b2 hb2;go_wp2
 go_loopw [9] (fun iv wr=>Below w.heap.size w wr∧∃ k:Nat,k≤s.size∧iv=.int .i64 k∧Bld w (34::(s.data.toList.take k).flatMap Str.esc) wr) (fun iv _=>s.size-(intOf iv).toNat)
 case atStart=>exact⟨B2.out,0,by omega,rfl,Hb2.out⟩
 case round =>
  clear B2 Hb2;obtain⟨hbel,k,hk,rfl,hb⟩:=hrel;have Hl:=kept hbel;have Hb:=kept hb
  have Hlen:=kept (show(34::(s.data.toList.take k).flatMap Str.esc).length≤900000000 by
   have h1:=(Str.flatMap_esc_length (s.data.toList.take k)).2;have h2:(s.data.toList.take k).length≤k:=by simp;omega
   rw[Zh];omega)
  clear hbel hb;by_cases hlt:k<s.size
  ·have hlt':(k:Int)<s.size:=by omega
   have Het:=kept (cvj s k hlt);by_cases h10:s[k]=10
   ·have He:=kept (show Str.esc s[k]=[92,110] by rw[h10];rfl);have hu:(s[k].toNat:Int)=10:=by rw[h10];rfl
    clear h10;go_wp2_with fail;refine(Hb.out.str (Zn Hlen.out (by decide)) _ (by decide)).mono ?_;rintro e w2 ⟨rfl,hb2,b2⟩;have B2:=kept (Below.trans Hl.out b2);have Hb2:=kept hb2;clear b2 hb2;go_wp2
    go_roundw
    case rel=>exact⟨B2.out,k+1,by omega,by go_num,by rw[Het.out,←Zl,He.out];exact Hb2.out⟩
    case measure=>simp[intOf];omega
   have g10:((s[k].toNat:Int)==10)=false:=azp s[k] 10 (by decide) h10;by_cases h13:s[k]=13
   ·have He:=kept (show Str.esc s[k]=[92,114] by rw[h13];rfl);have hu:(s[k].toNat:Int)=13:=by rw[h13];rfl
    clear h10 h13;go_wp2_with fail;refine(Hb.out.str (Zn Hlen.out (by decide)) _ (by decide)).mono ?_;rintro e w2 ⟨rfl,hb2,b2⟩;have B2:=kept (Below.trans Hl.out b2);have Hb2:=kept hb2;clear b2 hb2;go_wp2
    go_roundw
    case rel=>exact⟨B2.out,k+1,by omega,by go_num,by rw[Het.out,←Zl,He.out];exact Hb2.out⟩
    case measure=>simp[intOf];omega
   have g13:((s[k].toNat:Int)==13)=false:=azp s[k] 13 (by decide) h13;by_cases h9:s[k]=9
   ·have He:=kept (show Str.esc s[k]=[92,116] by rw[h9];rfl);have hu:(s[k].toNat:Int)=9:=by rw[h9];rfl
    clear h10 h13 h9;go_wp2_with fail;refine(Hb.out.str (Zn Hlen.out (by decide)) _ (by decide)).mono ?_;rintro e w2 ⟨rfl,hb2,b2⟩;have B2:=kept (Below.trans Hl.out b2);have Hb2:=kept hb2;clear b2 hb2;go_wp2
    go_roundw
    case rel=>exact⟨B2.out,k+1,by omega,by go_num,by rw[Het.out,←Zl,He.out];exact Hb2.out⟩
    case measure=>simp[intOf];omega
   have g9:((s[k].toNat:Int)==9)=false:=azp s[k] 9 (by decide) h9;by_cases h34:s[k]=34
   ·have He:=kept (show Str.esc s[k]=[92]++[34] by rw[h34];rfl);have hu:(s[k].toNat:Int)=34:=by rw[h34];rfl
    clear h10 h13 h9 h34;go_wp2_with fail;refine(Hb.out.byte (Zn Hlen.out (by decide)) 92).mono ?_;rintro e w2 ⟨rfl,hb2,b2⟩;have B2:=kept (Below.trans Hl.out b2);have Hb2:=kept hb2;clear b2 hb2;have Hlen2:=kept (show((34::(s.data.toList.take k).flatMap Str.esc)++[92]).length≤1000000000 by have:=Hlen.out;rw[Za,Y3];omega);go_wp2_with fail;refine(Hb2.out.byte Hlen2.out 34).mono ?_;rintro e w3 ⟨rfl,hb3,b3⟩;have B3:=kept (Below.trans B2.out b3);have Hb3:=kept hb3;clear b3 hb3;go_wp2
    go_roundw
    case rel=>exact⟨B3.out,k+1,by omega,by go_num,by rw[Het.out,←Zl,He.out,←Zg];exact Hb3.out⟩
    case measure=>simp[intOf];omega
   have g34:((s[k].toNat:Int)==34)=false:=azp s[k] 34 (by decide) h34;by_cases h92:s[k]=92
   ·have He:=kept (show Str.esc s[k]=[92]++[92] by rw[h92];rfl);have hu:(s[k].toNat:Int)=92:=by rw[h92];rfl
    clear h10 h13 h9 h34 h92;go_wp2_with fail;refine(Hb.out.byte (Zn Hlen.out (by decide)) 92).mono ?_;rintro e w2 ⟨rfl,hb2,b2⟩;have B2:=kept (Below.trans Hl.out b2);have Hb2:=kept hb2;clear b2 hb2;have Hlen2:=kept (show((34::(s.data.toList.take k).flatMap Str.esc)++[92]).length≤1000000000 by have:=Hlen.out;rw[Za,Y3];omega);go_wp2_with fail;refine(Hb2.out.byte Hlen2.out 92).mono ?_;rintro e w3 ⟨rfl,hb3,b3⟩;have B3:=kept (Below.trans B2.out b3);have Hb3:=kept hb3;clear b3 hb3;go_wp2
    go_roundw
    case rel=>exact⟨B3.out,k+1,by omega,by go_num,by rw[Het.out,←Zl,He.out,←Zg];exact Hb3.out⟩
    case measure=>simp[intOf];omega
   have g92:((s[k].toNat:Int)==92)=false:=azp s[k] 92 (by decide) h92;have hor:((s[k].toNat:Int)==34||(s[k].toNat:Int)==92)=false:=by rw[g34,g92];rfl
   have hb256:=s[k].toNat_lt;by_cases hctl:s[k]<32∨s[k]=127
   ·have He:=kept (show Str.esc s[k]=92::117::123::(Str.hexL s[k].toNat++[125]) by unfold Str.esc;rw[if_neg h10,if_neg h13,if_neg h9,if_neg h34,if_neg h92,if_pos hctl];rfl);have Hf:=kept (fun W gW=>bwx s[k].toNat W gW hb256);have hx:=(Str.hexL_length s[k].toNat).2;have hcat1:=fun W=>axz (P:=Tryz.prog) W (a:=⟨#[92,117,123]⟩) (b:=⟨(Str.hexL s[k].toNat).toArray⟩) (l:=[92,117,123]) (m:=Str.hexL s[k].toNat) (r:=92::117::123::Str.hexL s[k].toNat) rfl rfl rfl (by simp;omega)
    have hcat2:=fun W=>axz (P:=Tryz.prog) W (a:=⟨(92::117::123::Str.hexL s[k].toNat).toArray⟩) (b:=⟨#[125]⟩) (l:=92::117::123::Str.hexL s[k].toNat) (m:=[125]) (r:=92::117::123::(Str.hexL s[k].toNat++[125])) rfl rfl rfl (by simp;omega)
    have Hsz:Kept ((⟨(92::117::123::(Str.hexL s[k].toNat++[125])).toArray⟩:ByteArray).size≤1000000000):=kept (by rw[size_mk];simp;omega);have hcnd:((s[k].toNat:Int)<32)∨(¬(s[k].toNat:Int)<32∧(s[k].toNat:Int)=127):=by
     rcases hctl with h|h
     ·rw[YD]at h;have h':s[k].toNat<32:=h;exact .inl (by omega)
     ·right;rw[h];exact⟨by decide,rfl⟩
    clear hctl hx h10 h13 h9 h34 h92;rcases hcnd with h32|⟨h32,h127⟩
    ·have hz:=h32;clear hz;go_wp2_with fail;refine(Hf.out _ (G.out.below Hl.out)).mono ?_;rintro e w2 ⟨rfl,b2⟩;have B2:=kept (bthen Hl.out b2);have Hb2:=kept (Hb.out.below b2);clear b2;go_wp2_with fail;refine(Hb2.out.str (Zn Hlen.out (by decide)) _ Hsz.out).mono ?_;rintro e w3 ⟨rfl,hb3,b3⟩;have B3:=kept (Below.trans B2.out b3);have Hb3:=kept hb3;clear b3 hb3;go_wp2
     go_roundw
     case rel=>exact⟨B3.out,k+1,by omega,by go_num,by rw[Het.out,←Zl,He.out];exact Hb3.out⟩
     case measure=>simp[intOf];omega
    ·have hn:s[k].toNat=127:=by omega
     rw[hn]at Hf hcat1 hcat2 Hsz He;clear hor hn g10 g13 g9 g34 g92;go_wp2_with fail;refine(Hf.out _ (G.out.below Hl.out)).mono ?_;rintro e w2 ⟨rfl,b2⟩;have B2:=kept (bthen Hl.out b2);have Hb2:=kept (Hb.out.below b2);clear b2;go_wp2_with fail;refine(Hb2.out.str (Zn Hlen.out (by decide)) _ Hsz.out).mono ?_;rintro e w3 ⟨rfl,hb3,b3⟩;have B3:=kept (Below.trans B2.out b3);have Hb3:=kept hb3;clear b3 hb3;go_wp2
     go_roundw
     case rel=>exact⟨B3.out,k+1,by omega,by go_num,by rw[Het.out,←Zl,He.out];exact Hb3.out⟩
     case measure=>simp[intOf];omega
   ·have He:=kept (show Str.esc s[k]=[s[k]] by unfold Str.esc;rw[if_neg h10,if_neg h13,if_neg h9,if_neg h34,if_neg h92,if_neg hctl]);have g127:((s[k].toNat:Int)==127)=false:=azp s[k] 127 (by decide) (fun h=>hctl (.inr h));have g32:¬(s[k].toNat:Int)<32:=by
     intro h;apply hctl;left;rw[YD];show s[k].toNat<32;omega
    have Hbb:=kept (Hb.out.byte (Zn Hlen.out (by decide)) s[k]);clear hctl h10 h13 h9 h34 h92;go_wp2_with fail;refine Hbb.out.mono ?_;rintro e w2 ⟨rfl,hb2,b2⟩;have B2:=kept (Below.trans Hl.out b2);have Hb2:=kept hb2;clear b2 hb2;go_wp2
    go_roundw
    case rel=>exact⟨B2.out,k+1,by omega,by go_num,by rw[Het.out,←Zl,He.out];exact Hb2.out⟩
    case measure=>simp[intOf];omega
  ·obtain rfl:k=s.size:=by omega
   rw[ZJ (by simp)]at Hb Hlen;go_wp2_with fail;refine(Hb.out.byte (Zn Hlen.out (by decide)) 34).mono ?_;rintro e w2 ⟨rfl,hb2,b2⟩;have B2:=kept (Below.trans Hl.out b2);have Hb2:=kept hb2;clear b2 hb2;go_wp2_with fail;refine(Hb2.out.string).mono ?_;rintro e w3 ⟨rfl,b3⟩;have B3:=kept (Below.trans B2.out b3);clear b3;go_wp2
   go_ret
   exact⟨rfl,B3.out⟩
end Go.Proofs.YtdgcbckcameggadGreatDoor
