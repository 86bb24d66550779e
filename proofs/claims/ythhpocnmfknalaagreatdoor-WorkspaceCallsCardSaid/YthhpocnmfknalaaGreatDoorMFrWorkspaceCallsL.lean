/- Part of what the proof needs. -/
import Derived.Test.YthhpocnmfknalaaGreatDoorMFrWorkspaceCallsK
import Derived.Lib.MapLaws
set_option maxHeartbeats 4000000
set_option maxRecDepth 100000
set_option linter.all false
namespace Go.Proofs.YthhpocnmfknalaaGreatDoor
section
open Go.RowKit
theorem cw0(s:List UInt8)(w:World)(g:Lib.Utf8Tabs 1 2 w):
  Calls Tryz.prog 72 #[.string ⟨s.toArray⟩] w fun e w'=>e=.returned (.int .i64 (Val.textZ s))/\Below w.heap.size w w':=by
 by_cases h:4096<s.length
 ·have h':(4096:Int)<s.length:=by omega
  have HR:=kept (show(3:Int)=Val.textZ s by unfold Val.textZ;rw[if_pos h]);clear h g;go_enter Tryz.func72,Tryz.ntmps72;go_wp2
  go_ret
  exact⟨axj HR.out,Below.refl _ _⟩
 ·have h':¬(4096:Int)<s.length:=by omega
  have Hv:=kept (bju ⟨s.toArray⟩ w (by rw[size_mk];omega) g);rw[show(⟨s.toArray⟩:ByteArray).data.toList=s from rfl]at Hv;have HR:=kept (show(if Str.valid s then(0:Int)else 1)=Val.textZ s by unfold Val.textZ;rw[if_neg h]);clear h g;rcases azl (Str.valid s)with hv|hv;all_goals
   rw[hv]at Hv HR;clear hv;go_enter Tryz.func72,Tryz.ntmps72;go_wp2_with fail;(with_reducible refine(Hv.out).mono ?_);rintro e w1 ⟨rfl,b1⟩
   have B1:=kept b1;clear b1;go_wp2
   go_ret
   exact⟨axj HR.out,B1.out⟩
theorem bkj(s:List UInt8)(w:World):
  Calls Tryz.prog 142 #[.string ⟨s.toArray⟩] w fun e w'=>e=.returned (.int .i64 (Val.textZ s))/\Below w.heap.size w w':=by
 by_cases h:4096<s.length
 ·have h':(4096:Int)<s.length:=by omega
  have HR:=kept (show(3:Int)=Val.textZ s by unfold Val.textZ;rw[if_pos h]);clear h;go_enter Tryz.func142,Tryz.ntmps142;go_wp2
  go_ret
  exact⟨axj HR.out,Below.refl _ _⟩
 ·have h':¬(4096:Int)<s.length:=by omega
  have Hv:=kept (bxf ⟨s.toArray⟩ w (by rw[size_mk];omega));rw[show(⟨s.toArray⟩:ByteArray).data.toList=s from rfl]at Hv;have HR:=kept (show(if Str.valid s then(0:Int)else 1)=Val.textZ s by unfold Val.textZ;rw[if_neg h]);clear h;rcases azl (Str.valid s)with hv|hv;all_goals
   rw[hv]at Hv HR;clear hv;go_enter Tryz.func142,Tryz.ntmps142;go_wp2_with fail;(with_reducible refine(Hv.out).mono ?_);rintro e w1 ⟨rfl,b1⟩
   have B1:=kept b1;clear b1;go_wp2
   go_ret
   exact⟨axj HR.out,B1.out⟩
theorem byb(k n:Int)(s:List UInt8)(a b:Option Addr)(ni ca nk cb:Nat)(w:World):
  Calls Tryz.prog 70 #[.agg #[.int .i64 k,.int .i64 n,.string ⟨s.toArray⟩,.slice a ni ca,.slice b nk cb]] w fun e w'=>e=.returned (.bool (Val.shapedB k n s ni nk))/\Below w.heap.size w w':=by
 obtain⟨R,hR⟩:=Ex (Val.shapedB k n s ni nk);rw[hR];have HR:=kept hR;clear hR;go_enter Tryz.func70,Tryz.ntmps70;go_wp2;all_goals go_ret
 all_goals refine⟨az8 ?_,ball w _⟩
 all_goals rw[<-HR.out]
 all_goals unfold Val.shapedB
 all_goals (try simp only[ZT,Zs,Y2,ne_eq,ZZ,Yv,Zg,Zal,Zx,Y5,bne_eq_false_iff_eq]at *)
 all_goals (rw[YO];simp only[Zg,ZZ,Zx,ZT,Y2,ne_eq,Zn,false_iff,true_iff,iff_true,iff_false])
 all_goals rw[show((if k=5 then nk==ni else nk==0)=true)=((k=5/\nk=ni)\/(¬k=5/\nk=0))from by by_cases h:k=5<;>simp[h]]
 all_goals (by_cases hs:s=[]<;>simp only[hs,or_true,or_false,true_and,and_true,Yw,YH,false_and,and_false]at*<;>first|omega|contradiction|(exfalso;simp_all;done))
theorem bzu(k n:Int)(s:List UInt8)(a b:Option Addr)(ni ca nk cb:Nat)(w:World):
  Calls Tryz.prog 140 #[.agg #[.int .i64 k,.int .i64 n,.string ⟨s.toArray⟩,.slice a ni ca,.slice b nk cb]] w fun e w'=>e=.returned (.bool (Val.shapedB k n s ni nk))/\Below w.heap.size w w':=by
 obtain⟨R,hR⟩:=Ex (Val.shapedB k n s ni nk);rw[hR];have HR:=kept hR;clear hR;go_enter Tryz.func140,Tryz.ntmps140;go_wp2;all_goals go_ret
 all_goals refine⟨az8 ?_,ball w _⟩
 all_goals rw[<-HR.out]
 all_goals unfold Val.shapedB
 all_goals (try simp only[ZT,Zs,Y2,ne_eq,ZZ,Yv,Zg,Zal,Zx,Y5,bne_eq_false_iff_eq]at *)
 all_goals (rw[YO];simp only[Zg,ZZ,Zx,ZT,Y2,ne_eq,Zn,false_iff,true_iff,iff_true,iff_false])
 all_goals rw[show((if k=5 then nk==ni else nk==0)=true)=((k=5/\nk=ni)\/(¬k=5/\nk=0))from by by_cases h:k=5<;>simp[h]]
 all_goals (by_cases hs:s=[]<;>simp only[hs,or_true,or_false,true_and,and_true,Yw,YH,false_and,and_false]at*<;>first|omega|contradiction|(exfalso;simp_all;done))
theorem ax1(n:Int)(w:World):
  Calls Tryz.prog 71 #[.int .i64 n] w fun e w'=>e=.returned (.bool (decide (-9007199254740992<=n/\n<=9007199254740992)))/\w'=w:=by
 go_enter Tryz.func71,Tryz.ntmps71;go_wp2;all_goals go_ret
 all_goals refine⟨az8 ?_,rfl⟩
 all_goals (rw[YO];simp only[Zg,Zx,Zn,false_iff,true_iff,iff_true,iff_false]at *;try omega)
theorem awq(n:Int)(w:World):
  Calls Tryz.prog 141 #[.int .i64 n] w fun e w'=>e=.returned (.bool (decide (-9007199254740992<=n/\n<=9007199254740992)))/\w'=w:=by
 go_enter Tryz.func141,Tryz.ntmps141;go_wp2;all_goals go_ret
 all_goals refine⟨az8 ?_,rfl⟩
 all_goals (rw[YO];simp only[Zg,Zx,Zn,false_iff,true_iff,iff_true,iff_false]at *;try omega)
end
section
namespace Str
open Go.Lib
def hexv(b:UInt8):Int:=if 48<=b.toNat/\b.toNat<=57 then b.toNat-48 else if 97<=b.toNat/\b.toNat<=102 then b.toNat-87 else -1
def isHex(b:UInt8):Bool:=decide (0<=hexv b)
def hexN:Nat->List UInt8->Nat
 |0,_=>0
 |_,[]=>0
 |m+1,b::l=>if isHex b then hexN m l+1 else 0
def hexC(n:Nat)(l:List UInt8):Nat:=(l.take n).foldl (fun c b=>16*c+(hexv b).toNat) 0
def point(l:List UInt8):Nat×Nat×Int:=
 if hexN 6 l=l.length then(0,0,40)
 else if l.getD (hexN 6 l) 0≠125\/hexN 6 l=0\/(1<hexN 6 l/\l.getD 0 0=48)\/Utf8.valid (hexC (hexN 6 l) l)=false then(0,0,2)
 else(hexC (hexN 6 l) l,hexN 6 l+1,0)
def escp(l:List UInt8):Nat×Nat×Int:=
 match l with
 |[]=>(0,0,40)
 |b::t=>
  if b=110 then(10,1,0)else if b=114 then(13,1,0)else if b=116 then(9,1,0)else if b=34\/b=92 then(b.toNat,1,0)
  else if b=117 then(match t with
   |[]=>(0,0,40)
   |c::u=>if c=123 then((point u).1,(point u).2.1+2,(point u).2.2)else(0,0,2))
  else(0,0,2)
def enc(c:Nat):List UInt8:=encodeRune c
def one(l:List UInt8):List UInt8×Nat×Int:=
 if l.getD 0 0=92 then
  (if(escp (l.drop 1)).2.2≠0 then([],0,(escp (l.drop 1)).2.2)else(enc (escp (l.drop 1)).1,(escp (l.drop 1)).2.1+1,0))
 else if Bad (decodeL l)\/l.getD 0 0<32\/l.getD 0 0=127 then([],0,2)
 else(l.take (decodeL l).2,(decodeL l).2,0)
def unq:Nat->List UInt8->List UInt8->Nat->List UInt8×Nat×Int
 |0,_,_,_=>([],0,40)
 |f+1,l,acc,i=>
  if l=[]then([],0,40)
  else if l.getD 0 0=34 then(if 4096<acc.length then([],0,3)else(acc,i+1,0))
  else if(one l).2.2≠0 then([],0,(one l).2.2)
  else unq f (l.drop (one l).2.1) (acc++(one l).1) (i+(one l).2.1)
def unquote(l:List UInt8):List UInt8×Nat×Int:=
 if l=[]then([],0,40)else if l.getD 0 0≠34 then([],0,2)else unq l.length (l.drop 1) [] 1
theorem hexN_le:∀(m:Nat) (l:List UInt8),hexN m l<=m/\hexN m l<=l.length
 |0,_=>by simp[hexN]
 |m+1,[]=>by simp[hexN]
 |m+1,b::l=>by
  have:=hexN_le m l;unfold hexN;split<;>simp<;>omega
theorem hexN_end:∀(m k:Nat) (l:List UInt8),(∀j,j<k->isHex (l.getD j 0)=true)->k<=l.length->k<=m->(k=m\/k=l.length\/isHex (l.getD k 0)=false)->hexN m l=k
 |0,k,l,_,_,h3,_=>by simp[hexN];omega
 |m+1,k,[],_,h2,_,_=>by simp[hexN]at *;omega
 |m+1,0,b::l,_,_,_,h4=>by
  have:isHex b=false:=by
   rcases h4 with h|h|h
   ·omega
   ·simp at h
   ·simpa using h
  simp[hexN,this]
 |m+1,k+1,b::l,h1,h2,h3,h4=>by
  have hb:isHex b=true:=by simpa using h1 0 (by omega)
  have ih:=hexN_end m k l (fun j hj=>by simpa using h1 (j+1) (by omega)) (by simpa using h2) (by omega) (by
   rcases h4 with h|h|h
   ·exact .inl (by omega)
   ·exact .inr (.inl (by simpa using h))
   ·exact .inr (.inr (by simpa using h)))
  simp[hexN,hb,ih]
theorem hexv_le(b:UInt8):hexv b<=15:=by
 unfold hexv;split
 ·omega
 ·split<;>omega
theorem hexC_succ(n:Nat)(l:List UInt8)(h:n<l.length):hexC (n+1) l=16*hexC n l+(hexv l[n]).toNat:=by
 unfold hexC;rw[Z3 h,List.foldl_append];rfl
theorem hexC_lt:∀(n:Nat) (l:List UInt8),n<=l.length->hexC n l<16^n
 |0,l,_=>by simp[hexC]
 |n+1,l,h=>by
  have ih:=hexC_lt n l (by omega);have:=hexv_le l[n];rw[hexC_succ n l (by omega),Nat.pow_succ];omega
theorem enc_length(c:Nat):1<=(enc c).length/\(enc c).length<=4:=by
 have:=encodeRuneZ_length c;simpa [enc,encodeRune]using this
theorem unq_step(f:Nat)(l acc:List UInt8)(i:Nat)(b:List UInt8)(n:Nat)(h1:l≠[])(h2:l.getD 0 0≠34)(h3:one l=(b,n,(0:Int))):unq (f+1) l acc i=unq f (l.drop n) (acc++b) (i+n):=by
 rw[unq,if_neg h1,if_neg h2,h3,if_neg (by simp)]
theorem unq_err(f:Nat)(l acc:List UInt8)(i:Nat)(b:List UInt8)(n:Nat)(e:Int)(h1:l≠[])(h2:l.getD 0 0≠34)(h3:one l=(b,n,e))(he:e≠0):unq (f+1) l acc i=([],0,e):=by
 rw[unq,if_neg h1,if_neg h2,h3,if_pos (by simpa using he)]
end Str
end
section
namespace Str
open Go.Lib
theorem dec_cases(l:List UInt8):((l.getD 0 0).toNat<128/\decodeL l=((l.getD 0 0).toNat,1))\/(128<=(l.getD 0 0).toNat/\128<=(decodeL l).1):=by
 rw[decodeL_N];generalize (l.getD 0 0).toNat=b0;generalize (l.getD 1 0).toNat=b1;generalize (l.getD 2 0).toNat=b2;generalize (l.getD 3 0).toNat=b3;rcases decodeN_shape l.length b0 b1 b2 b3 with⟨c,e⟩|⟨c1,c2,c3,cv,e⟩|⟨c1,c2,c3,c4,cv,cs,e⟩|⟨c1,c2,c3,c4,c5,cv,cw,e⟩|e
 ·exact .inl ⟨c,e⟩
 ·right;rw[e];simp only;omega
 ·right;rw[e];simp only;omega
 ·right;rw[e];simp only;omega
 ·by_cases hb:b0<128
  ·left
   refine⟨hb,?_⟩;unfold decodeN;rw[if_pos hb]
  ·right;rw[e];simp only;omega
theorem dec_lt(l:List UInt8):(decodeL l).1<=1114111:=by
 have hb:(l.getD 0 0).toNat<256:=UInt8.toNat_lt _;rw[decodeL_N];have:=decodeN_valid l.length (l.getD 0 0).toNat (l.getD 1 0).toNat (l.getD 2 0).toNat (l.getD 3 0).toNat hb;omega
theorem point_lt(l:List UInt8):(point l).1<16777216:=by
 have h1:=hexN_le 6 l;have h2:=hexC_lt (hexN 6 l) l h1.2;have h3:16^hexN 6 l<=16^6:=YQ (by decide) h1.1;unfold point
 repeat' split
 all_goals simp only
 all_goals omega
theorem point_len(l:List UInt8):(point l).2.1<=l.length:=by
 have h1:=hexN_le 6 l;unfold point;split;next hh=>simp only;omega
 next hh=>
  split
  ·simp
  ·simp only;omega
theorem escp_lt(l:List UInt8):(escp l).1<16777216:=by
 unfold escp;split
 ·simp
 ·next b t=>
  have:=b.toNat_lt
  repeat' split
  all_goals first
   |exact point_lt _
   |(simp only;omega)
theorem escp_len(l:List UInt8)(h:(escp l).2.2=0):1<=(escp l).2.1/\(escp l).2.1<=l.length:=by
 unfold escp at h⊢;split
 ·simp at h
 ·next b t=>
  simp only at h;split
  ·simp
  split
  ·simp
  split
  ·simp
  split
  ·simp
  next h1 h2 h3 h4=>
  rw[if_neg h1,if_neg h2,if_neg h3,if_neg h4]at h;split;next h5=>
   rw[if_pos h5]at h;split
   ·simp at h
   ·next c u=>
    simp only at h;split;next h6=>
     rw[if_pos h6]at h;have:=point_len u;simp only[Zf];omega
    next h6=>rw[if_neg h6]at h;simp at h
  next h5=>rw[if_neg h5]at h;simp at h
theorem one_esc(l:List UInt8)(h:l.getD 0 0=92)(c n:Nat)(e:Int)(he:escp (l.drop 1)=(c,n,e)):one l=if e≠0 then([],0,e)else(enc c,n+1,0):=by
 unfold one;rw[if_pos h,he]
theorem one_bad(l:List UInt8)(c n:Nat)(hd:decodeL l=(c,n))(h1:c≠92)(h2:(c=65533/\n=1)\/c<32\/c=127):one l=([],0,2):=by
 have hc:=dec_cases l;rw[hd]at hc;have h0:l.getD 0 0≠92:=by
  intro h;rw[h]at hc;rcases hc with⟨_,h4⟩|⟨h4,_⟩
  ·exact h1 (congrArg Prod.fst h4)
  ·exact absurd h4 (by decide)
 unfold one;rw[if_neg h0,if_pos ?_];rw[hd];rcases h2 with h2|h2|h2
 ·exact .inl h2
 ·rcases hc with⟨_,h4⟩|⟨_,h4⟩
  ·right;left
   rw[Y4];have:=congrArg Prod.fst h4;simp only at this;show _<32;omega
  ·simp only at h4;omega
 ·rcases hc with⟨_,h4⟩|⟨_,h4⟩
  ·right;right
   rw[<-YG];have:=congrArg Prod.fst h4;simp only at this;show _=127;omega
  ·simp only at h4;omega
theorem one_ok(l:List UInt8)(hl:l≠[])(c n:Nat)(hd:decodeL l=(c,n))(h1:c≠92)(h2:¬((c=65533/\n=1)\/c<32\/c=127)):one l=(enc c,n,0):=by
 have hc:=dec_cases l;have hen:=encode_decode l hl (by rw[hd];exact fun h=>h2 (.inl h));rw[hd]at hc hen;have hv:∀v:UInt8,v.toNat<128->c≠v.toNat->l.getD 0 0≠v:=by
  intro v hv hne h;rw[h]at hc;rcases hc with⟨_,h4⟩|⟨h4,_⟩
  ·exact hne (congrArg Prod.fst h4)
  ·omega
 unfold one;rw[if_neg (hv 92 (by decide) h1),if_neg ?_,hd]
 ·show(l.take n,n,(0:Int))=(enc c,n,0)
  rw[enc,<-hen]
 ·rintro(h|h|h)
  ·rw[hd]at h;exact h2 (.inl h)
  ·rw[Y4]at h;have h':(l.getD 0 0).toNat<32:=h;rcases hc with⟨_,h4⟩|⟨h4,_⟩
   ·have:=congrArg Prod.fst h4;simp only at this;exact h2 (.inr (.inl (by omega)))
   ·omega
  ·exact hv 127 (by decide) (fun hh=>h2 (.inr (.inr hh))) h
theorem unq_nil(f:Nat)(acc:List UInt8)(i:Nat):unq (f+1) [] acc i=([],0,40):=by rw[unq,if_pos rfl]
theorem unq_quote(f:Nat)(l acc:List UInt8)(i:Nat)(h1:l≠[])(h:l.getD 0 0=34):unq (f+1) l acc i=if 4096<acc.length then([],0,3)else(acc,i+1,0):=by
 rw[unq,if_neg h1,if_pos h]
end Str
end
section
namespace Str
open Go.Lib
theorem getD_app(a b:List UInt8)(i:Nat)(h:i<a.length):(a++b).getD i 0=a.getD i 0:=by
 simp[List.getD,ZF h]
theorem dec_append(a b:List UInt8)(h:a≠[])(hg:¬Bad (decodeL a)):decodeL (a++b)=decodeL a:=by
 have h0:0<a.length:=YA.2 h;have e0:=getD_app a b 0 h0;have hl:(a++b).length=a.length+b.length:=Za;rw[decodeL_N]at hg;rw[decodeL_N,decodeL_N,e0,hl];rcases decodeN_shape a.length (a.getD 0 0).toNat (a.getD 1 0).toNat (a.getD 2 0).toNat (a.getD 3 0).toNat with⟨c,e⟩|⟨c1,c2,c3,cv,e⟩|⟨c1,c2,c3,c4,cv,cs,e⟩|⟨c1,c2,c3,c4,c5,cv,cw,e⟩|e
 ·rw[e];unfold decodeN;rw[if_pos c]
 ·rw[e,getD_app a b 1 c2];generalize (a.getD 0 0).toNat=b0 at *;generalize (a.getD 1 0).toNat=b1 at *;unfold decodeN
  repeat' split
  all_goals first
   |rfl
   |(exfalso;omega)
 ·rw[e,getD_app a b 1 (by omega),getD_app a b 2 c2];generalize (a.getD 0 0).toNat=b0 at *;generalize (a.getD 1 0).toNat=b1 at *;generalize (a.getD 2 0).toNat=b2 at *;unfold decodeN
  repeat' split
  all_goals first
   |rfl
   |(exfalso;omega)
 ·rw[e,getD_app a b 1 (by omega),getD_app a b 2 (by omega),getD_app a b 3 c2];generalize (a.getD 0 0).toNat=b0 at *;generalize (a.getD 1 0).toNat=b1 at *;generalize (a.getD 2 0).toNat=b2 at *;generalize (a.getD 3 0).toNat=b3 at *;unfold decodeN
  repeat' split
  all_goals first
   |rfl
   |(exfalso;omega)
 ·exact absurd (by rw[e];exact⟨rfl,rfl⟩) hg
theorem valid_step(l:List UInt8)(h:l≠[]):validD l=if Bad (decodeL l)then false else validD (l.drop (decodeL l).2):=by
 rw[validD_step _ h];rfl
theorem valid_append:∀(n:Nat) (a b:List UInt8),a.length<=n->validD a=true->validD (a++b)=validD b
 |_,[],_,_,_=>rfl
 |0,_::_,_,hn,_=>by simp at hn
 |n+1,x::a,b,hn,hv=>by
  have hne:x::a≠[]:=by simp
  have hw:=decodeL_le (x::a) hne;rw[valid_step _ hne]at hv;by_cases hb:Bad (decodeL (x::a))
  ·rw[if_pos hb]at hv;simp at hv
  ·rw[if_neg hb]at hv;have hd:=dec_append (x::a) b hne hb;have hne2:(x::a)++b≠[]:=by simp
   rw[valid_step _ hne2,hd,if_neg hb,List.drop_append_of_le_length hw];refine valid_append n _ b ?_ hv;have h1:1<=(decodeL (x::a)).2:=by
    have:=dec_width ⟨(x::a).toArray⟩ 0 (show 0<(x::a).toArray.size by simp);rw[<-decL]at this;exact this.1
   rw[ZC];omega
def rc:Nat->List UInt8->Nat
 |0,_=>0
 |f+1,l=>if l=[]then 0 else 1+rc f (l.drop (decodeL l).2)
theorem dec_pos(l:List UInt8)(h:l≠[]):1<=(decodeL l).2:=by
 have:=dec_width ⟨l.toArray⟩ 0 (show 0<l.toArray.size by simpa using YA.2 h);rw[<-decL]at this;exact this.1
end Str
end
section
namespace Str
open Go.Lib
theorem getD_take(l:List UInt8)(n i:Nat)(h:i<n):(l.take n).getD i 0=l.getD i 0:=by
 simp[List.getD,h]
theorem dec_good(l:List UInt8)(h:l≠[])(hg:¬Bad (decodeL l)):decodeL (l.take (decodeL l).2)=decodeL l:=by
 have h0:0<l.length:=YA.2 h;have ht:=Zk (i:=(decodeL l).2) (l:=l);rw[Nat.min_eq_left (decodeL_le l h)]at ht;rw[decodeL_N (l.take _),ht];rw[decodeL_N]at hg⊢;rcases decodeN_shape l.length (l.getD 0 0).toNat (l.getD 1 0).toNat (l.getD 2 0).toNat (l.getD 3 0).toNat with⟨c,e⟩|⟨c1,c2,c3,cv,e⟩|⟨c1,c2,c3,c4,cv,cs,e⟩|⟨c1,c2,c3,c4,c5,cv,cw,e⟩|e
 ·rw[e];simp only;rw[getD_take l 1 0 (by omega)];unfold decodeN;rw[if_pos c]
 ·rw[e];simp only;rw[getD_take l 2 0 (by omega),getD_take l 2 1 (by omega)];generalize (l.getD 0 0).toNat=b0 at *;generalize (l.getD 1 0).toNat=b1 at *;unfold decodeN
  repeat' split
  all_goals first
   |rfl
   |(exfalso;omega)
 ·rw[e];simp only;rw[getD_take l 3 0 (by omega),getD_take l 3 1 (by omega),getD_take l 3 2 (by omega)];generalize (l.getD 0 0).toNat=b0 at *;generalize (l.getD 1 0).toNat=b1 at *;generalize (l.getD 2 0).toNat=b2 at *;unfold decodeN
  repeat' split
  all_goals first
   |rfl
   |(exfalso;omega)
 ·rw[e];simp only;rw[getD_take l 4 0 (by omega),getD_take l 4 1 (by omega),getD_take l 4 2 (by omega),getD_take l 4 3 (by omega)];generalize (l.getD 0 0).toNat=b0 at *;generalize (l.getD 1 0).toNat=b1 at *;generalize (l.getD 2 0).toNat=b2 at *;generalize (l.getD 3 0).toNat=b3 at *;unfold decodeN
  repeat' split
  all_goals first
   |rfl
   |(exfalso;omega)
 ·exact absurd (by rw[e];exact⟨rfl,rfl⟩) hg
theorem take_ne(l:List UInt8)(h:l≠[]):l.take (decodeL l).2≠[]:=by
 have h1:=dec_pos l h;have h2:=YA.2 h;intro he;have:=congrArg List.length he;simp at this;rcases this with h3|h3
 ·omega
 ·exact h h3
end Str
end
section
namespace Num
def digB(c:UInt8):Bool:=decide (48<=c.toNat)&&decide (c.toNat<=57)
def digits(s:List UInt8):Bool:=s.all digB&&(s == [48]||(s != []&&s.getD 0 0 !=48))
def val(s:List UInt8):Nat:=s.foldl (fun n c=>10*n+(c.toNat-48)) 0
def parse(s:List UInt8):Int×Int:=
 let minus:Bool:=s.getD 0 0==45
 let t:=if minus then s.drop 1 else s
 if !digits t||(minus&&t == [48])then(0,2)
 else if 16<t.length then(0,5)
 else if 9007199254740992<val t then(0,5)
 else((if minus then-(val t:Int)else val t),0)
def fmtN:Nat->Nat->List UInt8
 |0,_=>[]
 |f+1,n=>if n<10 then[UInt8.ofNat (48+n)]else fmtN f (n/10)++[UInt8.ofNat (48+n%10)]
def fmt(n:Nat):List UInt8:=fmtN 20 n
end Num
namespace Adr
structure K where
 kind:Int
 num:Int
 str:List UInt8
deriving DecidableEq
def K.none:K:=⟨0,0,[]⟩
structure Step where
 name:List UInt8
 key:K
deriving DecidableEq
structure Ad where
 mods:List Step
 data:Bool
 type:List UInt8
 name:List UInt8
 key:K
deriving DecidableEq
def Ad.zero:Ad:=⟨[],false,[],[],K.none⟩
def letter(c:UInt8):Bool:=(decide (97<=c.toNat)&&decide (c.toNat<=122))||(decide (65<=c.toNat)&&decide (c.toNat<=90))||c==95
def wordB(c:UInt8):Bool:=letter c||Num.digB c
def ident(s:List UInt8):Bool:=s != []&&decide (s.length<=64)&&letter (s.getD 0 0)&&s.all wordB
def reservedL:List (List UInt8):=[[109,111,100,117,108,101],[100,97,116,97],[118,97,114],[108,111,99,97,108],[111,117,116,112,117,116],[101,97,99,104],[99,111,117,110,116],[114,101,109,111,116,101],[112,97,116,104],[115,101,108,102],[99,104,97,110,103,101]]
def reserved(s:List UInt8):Bool:=reservedL.contains s
def kindB(s:List UInt8):Bool:=!reserved s&&ident s
def keyOk(k:K):Bool:=
 if k.kind=1 then decide (0<=k.num)&&decide (k.num<=9007199254740992)&&k.str == []
 else if k.kind=2 then k.num==0&&Str.valid k.str
 else k==K.none
def check(a:Ad):Int:=
 if 16<a.mods.length then 4
 else match a.mods.find? (fun s=>!(ident s.name&&keyOk s.key))with
  |some s=>if ident s.name then 1 else 7
  |none=>if !kindB a.type||!ident a.name then 7 else if !keyOk a.key then 1 else 0
def fmtKey(k:K):List UInt8:=
 if !keyOk k||k.kind==0 then[]else if k.kind=1 then 91::(Num.fmt k.num.toNat++[93])else 91::(Str.quote k.str++[93])
def modW:List UInt8:=[109,111,100,117,108,101,46]
def dataW:List UInt8:=[100,97,116,97,46]
def steps(l:List Step):List UInt8:=l.flatMap fun s=>modW++s.name++fmtKey s.key++[46]
def fmt(a:Ad):List UInt8:=
 if check a≠0 then[]else steps a.mods++(if a.data then dataW else[])++a.type++[46]++a.name++fmtKey a.key
def key(s : List UInt8): Option (K × List UInt8) :=
 if s.getD 0 0 ≠ 91 then some (K.none, s)
 else if 1<s.length /\ s.getD 1 0 = 34 then
  (let u := Str.unquote (s.drop 1)
   let k : K := ⟨2, 0, u.1⟩
   if u.2.2 ≠ 0 \/ s.length <= u.2.1 + 1 \/ s.getD (u.2.1 + 1) 0 ≠ 93 \/ (s.take (u.2.1 + 1)).drop 1 ≠ Str.quote u.1 \/ keyOk k = false then Option.none
   else some (k, s.drop (u.2.1 + 2)))
 else
  (let d := (s.drop 1).takeWhile Num.digB
   let x := Num.parse d
   if x.2 ≠ 0 \/ s.length <= d.length + 1 \/ s.getD (d.length + 1) 0 ≠ 93 then Option.none
   else some (⟨1, x.1, []⟩, s.drop (d.length + 2)))
def begins(s p:List UInt8):Bool:=p.isPrefixOf s
def step(s:List UInt8):Option (Step×List UInt8):=
 match key ((s.drop 7).dropWhile wordB)with
 |Option.none=>Option.none
 |some (k,rest)=>if ident ((s.drop 7).takeWhile wordB)then some (⟨(s.drop 7).takeWhile wordB,k⟩,rest)else Option.none
def last(s:List UInt8):Option Ad:=
 let t:=if begins s dataW then s.drop 5 else s
 let typ:=t.takeWhile wordB
 let r:=t.dropWhile wordB
 if kindB typ=false\/r.getD 0 0≠46 then Option.none
 else
  let n:=(r.drop 1).takeWhile wordB
  match key ((r.drop 1).dropWhile wordB)with
  |Option.none=>Option.none
  |some (k,rest)=>if ident n=true/\rest=[]then some ⟨[],begins s dataW,typ,n,k⟩else Option.none
def place:Nat->List UInt8->Option (Ad×Bool)
 |0,_=>Option.none
 |f+1,s=>
  if begins s modW then
   match step s with
   |Option.none=>Option.none
   |some (x,rest)=>
    if rest=[]then some ({ Ad.zero with mods:=[x] },false)
    else if rest.getD 0 0≠46 then Option.none
    else match place f (rest.drop 1)with
     |Option.none=>Option.none
     |some (p,w)=>some ({ p with mods:=x::p.mods },w)
  else match last s with
   |Option.none=>Option.none
   |some p=>some (p,true)
def parse(s:List UInt8):Ad×Int:=
 match place (s.length+1) s with
 |some (p,true)=>if 16<p.mods.length then(Ad.zero,4)else(p,0)
 |_=>(Ad.zero,2)
def bare(a:Ad):Ad:={ a with mods:=a.mods.map (fun s=>⟨s.name,K.none⟩),key:=K.none }
def static(s:List UInt8):List UInt8×Int:=if(parse s).2≠0 then([],(parse s).2)else(fmt (bare (parse s).1),0)
structure Rd where
 rest:List UInt8
 bad:Bool
def stopB(c:UInt8):Bool:=c==46||c==91
def wordP(r:Rd):List UInt8×Rd:=
 let s:=r.rest.takeWhile (fun c=>!stopB c)
 (s,⟨r.rest.dropWhile (fun c=>!stopB c),r.bad||!ident s⟩)
def skipP(p:List UInt8)(r:Rd):Rd:=if begins r.rest p then⟨r.rest.drop p.length,r.bad⟩else⟨r.rest,true⟩
def hasP(p:List UInt8)(r:Rd):Bool×Rd:=if begins r.rest p then(true,⟨r.rest.drop p.length,r.bad⟩)else(false,r)
def keyP(r:Rd):K×Rd:=
 if r.bad then(K.none,r)
 else if begins r.rest [91]=false then(K.none,r)
 else
  let t:=r.rest.drop 1
  if begins t [34]then
   let u:=Str.unquote t
   if u.2.2≠0\/Str.quote u.1≠t.take u.2.1 then(K.none,⟨t,true⟩)
   else(⟨2,0,u.1⟩,skipP [93] ⟨t.drop u.2.1,false⟩)
  else
   let n:=if t.all (· != 93)then 0 else(t.takeWhile (· != 93)).length
   let x:=Num.parse (t.take n)
   (⟨1,x.1,[]⟩,skipP [93] ⟨t.drop n,x.2 !=0||decide (x.1<0)⟩)
def stepP(r:Rd):Step×Rd:=
 let w:=wordP r
 let k:=keyP w.2
 (⟨w.1,k.1⟩,k.2)
def modsP:Nat->Rd->List Step->List Step×Rd
 |0,r,l=>(l,r)
 |f+1,r,l=>if r.bad=false/\begins r.rest modW=true then
   (let x := stepP (hasP modW r).2
    modsP f (skipP [46] x.2) (l ++ [x.1]))
  else(l,r)
def parseP(s:List UInt8):Ad×Int:=
 let m:=modsP (s.length+1) ⟨s,false⟩ []
 let d:=hasP dataW m.2
 let t:=wordP d.2
 let n:=wordP (skipP [46] t.2)
 let k:=keyP n.2
 if k.2.bad=true\/k.2.rest≠[]\/kindB t.1=false then(Ad.zero,2)
 else if 16<m.1.length then(Ad.zero,4)
 else(⟨m.1,d.1,t.1,n.1,k.1⟩,0)
end Adr
end
section
open Go.Op (bytesLess)
namespace Sf
structure Inst where
 addr:List UInt8
 dep:List UInt8
 id:List UInt8
 typ:List UInt8
 attrs:V
 ver:Int
 tainted:Bool
 first:Bool
 deps:List (List UInt8)
structure Pend where
 addr:List UInt8
 typ:List UInt8
 tok:List UInt8
structure Outp where
 name:List UInt8
 value:V
 sens:Bool
structure St where
 lin:List UInt8
 ser:Int
 insts:List Inst
 pends:List Pend
 outs:List Outp
def text(s:List UInt8):Bool:=s != []&&Str.valid s
def managed(s typ:List UInt8):Bool:=(Adr.parse s).2==0&&!(Adr.parse s).1.data&&(Adr.parse s).1.type==typ
def keyB(s:List UInt8):Bool:=s == []||((Num.parse s).2==0&&decide (1<=(Num.parse s).1))
def staticB(s:List UInt8):Bool:=(Adr.static s).2==0&&(Adr.static s).1==s
def depsB:Option (List UInt8)->List (List UInt8)->Bool
 |_,[]=>true
 |p,s::l=>staticB s&&!Val.badB p s&&depsB (some s) l
mutual
def known:V->Bool
 |.mk k _ _ is _=>k !=6&&knowns is
def knowns:List V->Bool
 |[]=>true
 |v::l=>known v&&knowns l
end
def V.kind:V->Int
 |.mk k _ _ _ _=>k
def instZ(x:Inst):Int:=
 if !managed x.addr x.typ||!keyB x.dep||!text x.id then 1
 else if Val.checkZ x.attrs≠0 then Val.checkZ x.attrs
 else if V.kind x.attrs≠5 then 6
 else if !known x.attrs then 11
 else if x.ver<1\/9007199254740992<x.ver then 5
 else if !depsB none x.deps then 1 else 0
def behind(x y:Inst):Bool:=bytesLess x.addr y.addr||(x.addr==y.addr&&bytesLess x.dep y.dep)
def instsZ:Option Inst->List Inst->Int
 |_,[]=>0
 |p,x::l=>if instZ x≠0 then instZ x else if(match p with|some y=>!behind y x|none=>false)then 1 else instsZ (some x) l
def pendB(p:Pend):Bool:=text p.tok&&managed p.addr p.typ
def pendsZ:Option (List UInt8)->List Pend->Int
 |_,[]=>0
 |p,x::l=>if !pendB x||Val.badB p x.tok then 1 else pendsZ (some x.tok) l
def outZ(o:Outp):Int:=
 if !Adr.ident o.name then 7 else if Val.checkZ o.value≠0 then Val.checkZ o.value else if !known o.value then 11 else 0
def outsZ:Option (List UInt8)->List Outp->Int
 |_,[]=>0
 |p,x::l=>if outZ x≠0 then outZ x else if Val.badB p x.name then 1 else outsZ (some x.name) l
def checkZ(s:St):Int:=
 if !text s.lin then 1
 else if s.ser<0\/9007199254740992<s.ser then 5
 else if 512<s.insts.length\/512<s.pends.length\/512<s.outs.length then 14
 else if instsZ none s.insts≠0 then instsZ none s.insts
 else if pendsZ none s.pends≠0 then pendsZ none s.pends
 else outsZ none s.outs
def flagE(b:Bool):List UInt8:=Wire.num (if b then 1 else 0)
def wordsE(l:List (List UInt8)):List UInt8:=l.flatMap Wire.strE
def instE(ver:Int)(x:Inst):List UInt8:=
 Wire.strE x.addr++Wire.strE x.dep++Wire.strE x.id++Wire.strE x.typ++Val.enc x.attrs++Wire.num x.ver++flagE x.tainted++(if ver=2 then flagE x.first else[])++Wire.num x.deps.length++wordsE x.deps
def pendE(p:Pend):List UInt8:=Wire.strE p.addr++Wire.strE p.typ++Wire.strE p.tok
def outE(o:Outp):List UInt8:=Wire.strE o.name++Val.enc o.value++flagE o.sens
def magic:List UInt8:=[80,86,83,84]
def stE(ver:Int)(s:St):List UInt8:=
 magic++Wire.num ver++Wire.strE s.lin++Wire.num s.ser++Wire.num s.insts.length++s.insts.flatMap (instE ver)++(if ver=2 then Wire.num s.pends.length++s.pends.flatMap pendE else[])++Wire.num s.outs.length++s.outs.flatMap outE
end Sf
end
section
namespace Str
open Go.Lib
theorem dec_of(l:List UInt8):decodeL l=decodeN l.length (l.getD 0 0).toNat (l.getD 1 0).toNat (l.getD 2 0).toNat (l.getD 3 0).toNat:=by
 have hg:∀i,((⟨l.toArray⟩:ByteArray).get! i)=l.getD i 0:=fun i=>by
  simp[ByteArray.get!,Yf];rfl
 unfold decodeL;rw[decode_at];simp only[hg];rfl
theorem enc_dec(c:Nat)(h:Utf8.valid c=true):(decodeL (enc c)).2=(enc c).length/\¬Bad (decodeL (enc c)):=by
 have hv:(c:Int)<55296\/(57344<=(c:Int)/\(c:Int)<=1114111):=by
  unfold Utf8.valid at h;simp at h;omega
 rw[dec_of];unfold enc encodeRune;by_cases h1:c<=127
 ·rw[encodeRuneZ_one (by omega) (by omega)];simp[decodeN,Bad];rw[if_pos (by omega)];simp;omega
 by_cases h2:c<=2047
 ·rw[encodeRuneZ_two (by omega) (by omega)];have e0:(UInt8.ofNat (192+(c:Int)/64).toNat).toNat=192+c/64:=by
   rw[Yl];omega
  have e1:(UInt8.ofNat (128+(c:Int)%64).toNat).toNat=128+c%64:=by
   rw[Yl];omega
  simp only[ZM,Yn,Zf,Zo,Ye,Z5,List.getD_nil,Nat.toUInt8_eq,e0,e1];unfold decodeN;rw[if_neg (by omega),if_pos (by omega),if_pos (by omega)];simp[Bad]
 by_cases h3:c<=65535
 ·rw[encodeRuneZ_three (by omega)];have e0:(UInt8.ofNat (224+(c:Int)/4096).toNat).toNat=224+c/4096:=by
   rw[Yl];omega
  have e1:(UInt8.ofNat (128+(c:Int)/64%64).toNat).toNat=128+c/64%64:=by
   rw[Yl];omega
  have e2:(UInt8.ofNat (128+(c:Int)%64).toNat).toNat=128+c%64:=by
   rw[Yl];omega
  simp only[ZM,Yn,Zf,Zo,Ye,Z5,List.getD_nil,Nat.toUInt8_eq,e0,e1,e2];unfold decodeN;rw[if_neg (by omega),if_neg (by omega),if_pos (by omega),if_pos (by omega)];simp[Bad]
 ·rw[encodeRuneZ_four (by omega) (by omega)];have e0:(UInt8.ofNat (240+(c:Int)/262144).toNat).toNat=240+c/262144:=by
   rw[Yl];omega
  have e1:(UInt8.ofNat (128+(c:Int)/4096%64).toNat).toNat=128+c/4096%64:=by
   rw[Yl];omega
  have e2:(UInt8.ofNat (128+(c:Int)/64%64).toNat).toNat=128+c/64%64:=by
   rw[Yl];omega
  have e3:(UInt8.ofNat (128+(c:Int)%64).toNat).toNat=128+c%64:=by
   rw[Yl];omega
  simp only[ZM,Yn,Zf,Zo,Ye,Z5,List.getD_nil,Nat.toUInt8_eq,e0,e1,e2,e3];unfold decodeN;rw[if_neg (by omega),if_neg (by omega),if_neg (by omega),if_pos (by omega),if_pos (by omega)];simp[Bad]
theorem enc_valid(c:Nat)(h:Utf8.valid c=true):validD (enc c)=true:=by
 have hl:=enc_length c;have hd:=enc_dec c h;rw[valid_step _ (by intro e;rw[e]at hl;simp at hl),if_neg hd.2,hd.1,List.drop_length];rfl
theorem escp_valid(l:List UInt8)(h:(escp l).2.2=0):Utf8.valid (escp l).1=true:=by
 unfold escp at h⊢;have hp:∀u,(point u).2.2=0->Utf8.valid (point u).1=true:=by
  intro u hu;unfold point at hu⊢;split at hu
  ·simp at hu
  ·split at hu
   ·simp at hu
   ·next h1 h2=>
    rw[if_neg h1,if_neg h2];simp only[not_or]at h2;simpa using h2.2.2.2
 cases l with
 |nil=>simp at h
 |cons b t=>
  dsimp only at h⊢;split
  ·decide
  ·split
   ·decide
   ·split
    ·decide
    ·split
     ·next h34=>rcases h34 with rfl|rfl<;>decide
     ·split
      ·next h1 h2 h3 h4 h5=>
       rw[if_neg h1,if_neg h2,if_neg h3,if_neg h4,if_pos h5]at h;cases t with
       |nil=>simp at h
       |cons c u=>
        dsimp only at h⊢;split
        ·next hc=>rw[if_pos hc]at h;exact hp u h
        ·next hc=>rw[if_neg hc]at h;simp at h
      ·next h1 h2 h3 h4 h5=>rw[if_neg h1,if_neg h2,if_neg h3,if_neg h4,if_neg h5]at h;simp at h
theorem one_valid(l:List UInt8)(hl:l≠[])(h:(one l).2.2=0):validD (one l).1=true:=by
 unfold one at h⊢;split
 ·next h1=>
  rw[if_pos h1]at h;split
  ·next h2=>rfl
  ·next h2=>
   have h2':(escp (l.drop 1)).2.2=0:=by simpa using h2
   exact enc_valid _ (escp_valid _ h2')
 ·next h1=>
  rw[if_neg h1]at h;split
  ·rfl
  ·next h2=>
   have hg:¬Bad (decodeL l):=fun hb=>h2 (.inl hb)
   show validD (l.take (decodeL l).2)=true
   rw[valid_step _ (take_ne l hl),dec_good l hl hg,if_neg hg,List.drop_take];simp[validD_nil]
theorem unq_valid:∀(f:Nat) (l acc:List UInt8) (i:Nat),validD acc=true->(unq f l acc i).2.2=0->valid (unq f l acc i).1=true
 |0,l,acc,i,ha,h=>by simp[unq]at h
 |f+1,l,acc,i,ha,h=>by
  rw[unq]at h⊢;split
  ·next h1=>rw[if_pos h1]at h;simp at h
  ·next h1=>
   rw[if_neg h1]at h;split
   ·next h2=>
    rw[if_pos h2]at h;split
    ·next h3=>rw[if_pos h3]at h;simp at h
    ·next h3=>unfold valid;rw[ha];simp;omega
   ·next h2=>
    rw[if_neg h2]at h;split
    ·next h3=>rw[if_pos h3]at h;exact absurd h h3
    ·next h3=>
     rw[if_neg h3]at h;refine unq_valid f _ _ _ ?_ h;rw[valid_append _ acc _ (Ze _) ha];exact one_valid l h1 (by simpa using h3)
theorem unquote_valid(l:List UInt8)(h:(unquote l).2.2=0):valid (unquote l).1=true:=by
 unfold unquote at h⊢;split
 ·next h1=>rw[if_pos h1]at h;simp at h
 ·next h1=>
  rw[if_neg h1]at h;split
  ·next h2=>rw[if_pos h2]at h;simp at h
  ·next h2=>rw[if_neg h2]at h;exact unq_valid _ _ _ _ rfl h
end Str
namespace Adr
theorem wordB_stop{c:UInt8}(h:wordB c=true):stopB c=false:=by
 unfold wordB letter Num.digB at h;unfold stopB;simp only[ZZ,Zg,Zx,ZT]at h;simp only[Yv,Zs,ne_eq];constructor
 ·rintro rfl;revert h;decide
 ·rintro rfl;revert h;decide
theorem take_all:∀(p q:UInt8->Bool) (s:List UInt8),(∀c,p c=true->q c=true)->(s.takeWhile q).all p=true->s.takeWhile p=s.takeWhile q/\s.dropWhile p=s.dropWhile q
 |p,q,[],_,_=>⟨rfl,rfl⟩
 |p,q,c::s,hpq,h=>by
  by_cases hq:q c=true
  ·rw[YC hq,ZK,Zg]at h;have ih:=take_all p q s hpq h.2;rw[YC h.1,YC hq,YX h.1,YX hq,ih.1,ih.2];exact⟨rfl,rfl⟩
  ·have hp:¬p c=true:=fun hp=>hq (hpq c hp)
   rw[YY hp,YY hq,Y8 hp,Y8 hq];exact⟨rfl,rfl⟩
theorem take_odd:∀(s:List UInt8),(s.takeWhile (fun c=>!stopB c)).all wordB=false->∃c t,s.dropWhile wordB=c::t/\stopB c=false
 |[],h=>by simp at h
 |c::s,h=>by
  by_cases hs:stopB c=true
  ·rw[YY (by simp[hs])]at h;simp at h
  ·have hs':stopB c=false:=by simpa using hs
   rw[YC (by simp[hs'])]at h;by_cases hw:wordB c=true
   ·rw[ZK,hw,ZH]at h;rw[YX hw];exact take_odd s h
   ·rw[Y8 hw];exact⟨c,s,rfl,hs'⟩
theorem ident_all{s:List UInt8}(h:ident s=true):s.all wordB=true:=by
 unfold ident at h;simp only[Zg]at h;exact h.2
theorem word_cases(s:List UInt8):
  (ident (s.takeWhile (fun c=>!stopB c))=true/\s.takeWhile wordB=s.takeWhile (fun c=>!stopB c)/\s.dropWhile wordB=s.dropWhile (fun c=>!stopB c)) \/
  (ident (s.takeWhile (fun c=>!stopB c))=false/\(ident (s.takeWhile wordB)=false\/∃c t,s.dropWhile wordB=c::t/\stopB c=false)):=by
 have hpq:∀c,wordB c=true->(!stopB c)=true:=fun c hc=>by rw[wordB_stop hc];rfl
 by_cases h:ident (s.takeWhile (fun c=>!stopB c))=true
 ·exact .inl ⟨h,take_all _ _ s hpq (ident_all h)⟩
 ·refine .inr ⟨by simpa using h,?_⟩;by_cases ha:(s.takeWhile (fun c=>!stopB c)).all wordB=true
  ·refine .inl ?_;rw[(take_all _ _ s hpq ha).1];simpa using h
  ·exact .inr (take_odd s (by simpa using ha))
theorem begins_one(s:List UInt8)(c:UInt8)(hc:c≠0):begins s [c]=(s.getD 0 0==c):=by
 cases s with
 |nil=>simp[begins,Ne.symm hc]
 |cons a t=>
  show(c==a&&true)=(a==c)
  rw[ZX];exact YO.2 ⟨fun h=>by rw[ZT]at h⊢;exact h.symm,fun h=>by rw[ZT]at h⊢;exact h.symm⟩
theorem drop_begins{s:List UInt8}{c:UInt8}(hc:c≠0)(h:s.getD 0 0=c):∃t,s=c::t:=by
 cases s with
 |nil=>exact absurd h (by simpa using Ne.symm hc)
 |cons a t=>exact⟨t,by simpa using h⟩
theorem getD_dropn(s:List UInt8)(n i:Nat):(s.drop n).getD i 0=s.getD (n+i) 0:=by
 simp[Yf,List.getElem?_drop]
theorem skip_one(t:List UInt8)(b:Bool):skipP [93] ⟨t,b⟩=if t.getD 0 0=93 then⟨t.drop 1,b⟩else⟨t,true⟩:=by
 unfold skipP;rw[begins_one _ _ (by decide)];by_cases h:t.getD 0 0=93
 ·rw[if_pos h,if_pos (by rw[h];rfl)];rfl
 ·rw[if_neg h,if_neg (by simpa using h)]
theorem digB_ne{c:UInt8}(h:Num.digB c=true):c≠93:=by
 rintro rfl;revert h;decide
theorem parse_digits{s:List UInt8}(h:(Num.parse s).2=0):(s.all Num.digB=true/\0<=(Num.parse s).1)\/(s.getD 0 0=45/\(Num.parse s).1<0):=by
 unfold Num.parse at h⊢;dsimp only at h⊢;by_cases hm:(s.getD 0 0==45)=true
 ·rw[hm]at h⊢;simp only[if_true]at h⊢;split at h
  ·simp at h
  ·next h1=>
   rw[if_neg h1];split at h
   ·simp at h
   ·next h2=>
    rw[if_neg h2];split at h
    ·simp at h
    ·next h3=>
     rw[if_neg h3];refine .inr ⟨by simpa using hm,?_⟩;show -(Num.val (s.drop 1):Int)<0
     have hpos:Num.val (s.drop 1)≠0:=by
      intro h0;simp only[ZZ,Zg,YI,not_or,ZH]at h1;obtain⟨ha,hb⟩:=h1;have hd:Num.digits (s.drop 1)=true:=by simpa using ha
      unfold Num.digits at hd;simp only[Zg,ZZ]at hd;obtain⟨hd1,hd2⟩:=hd;rcases hd2 with hd2|⟨hd2,hd3⟩
      ·exact hb hd2
      ·cases ht:s.drop 1 with
       |nil=>rw[ht]at hd2;simp at hd2
       |cons c u=>
        rw[ht]at hd1 hd3 h0;simp only[ZK,Zg]at hd1;have hc:49<=c.toNat:=by
         have h48:=hd1.1;unfold Num.digB at h48;simp only[Zg,Zx]at h48;have:c≠48:=by simpa using hd3
         have:c.toNat≠48:=fun e=>this (YG.1 e)
         omega
        have hge:∀(l:List UInt8) (n:Nat),n<=l.foldl (fun n c=>10*n+(c.toNat-48)) n:=by
         intro l;induction l with
         |nil=>intro n;exact Ze _
         |cons x l ih=>intro n;exact Zr (Zr (Nat.le_mul_of_pos_left n (by decide)) (Nat.le_add_right _ _)) (ih (10*n+(x.toNat-48)))
        have:=hge u (10*0+(c.toNat-48));unfold Num.val at h0;simp only[List.foldl_cons]at h0;omega
     omega
 ·have hm':(s.getD 0 0==45)=false:=by simpa using hm
  rw[hm']at h⊢;simp only[Zn,if_false,Z7,Zaf]at h⊢;split at h
  ·simp at h
  ·next h1=>
   rw[if_neg h1];split at h
   ·simp at h
   ·next h2=>
    rw[if_neg h2];split at h
    ·simp at h
    ·next h3=>
     rw[if_neg h3];refine .inl ⟨?_,?_⟩
     ·have:Num.digits s=true:=by simpa using h1
      unfold Num.digits at this;simp only[Zg]at this;exact this.1
     ·show(0:Int)<=(Num.val s:Int)
      omega
theorem takeW_all{p:UInt8->Bool}:∀(s:List UInt8),(s.takeWhile p).all p=true
 |[]=>rfl
 |c::s=>by
  by_cases h:p c=true
  ·rw[YC h,ZK,h,takeW_all s];rfl
  ·rw[YY h];rfl
theorem takeW_take{p:UInt8->Bool}:∀(s:List UInt8),s.take (s.takeWhile p).length=s.takeWhile p
 |[]=>rfl
 |c::s=>by
  by_cases h:p c=true
  ·rw[YC h,Zf,Yd,takeW_take s]
  ·rw[YY h];rfl
theorem takeW_next{p:UInt8->Bool}:∀(s:List UInt8),s.getD (s.takeWhile p).length 0=(s.dropWhile p).getD 0 0
 |[]=>rfl
 |c::s=>by
  by_cases h:p c=true
  ·rw[YC h,YX h,Zf,Z5,takeW_next s]
  ·rw[YY h,Y8 h];rfl
theorem dropW_head{p:UInt8->Bool}:∀(s:List UInt8),(s.dropWhile p)=[]\/p ((s.dropWhile p).getD 0 0)=false
 |[]=> .inl rfl
 |c::s=>by
  by_cases h:p c=true
  ·rw[YX h];exact dropW_head s
  ·rw[Y8 h];exact .inr (by simpa using h)
theorem key_eq(s:List UInt8):match key s with
  |some (k,rest)=>keyP ⟨s,false⟩=(k,⟨rest,false⟩)
  |none=>(keyP ⟨s,false⟩).2.bad=true:=by
 have hk:keyP ⟨s,false⟩=if begins s [91]=false then(K.none,⟨s,false⟩)else
   if begins (s.drop 1) [34]then
    (if(Str.unquote (s.drop 1)).2.2≠0\/Str.quote (Str.unquote (s.drop 1)).1≠(s.drop 1).take (Str.unquote (s.drop 1)).2.1 then(K.none,⟨s.drop 1,true⟩)
    else(⟨2,0,(Str.unquote (s.drop 1)).1⟩,skipP [93] ⟨(s.drop 1).drop (Str.unquote (s.drop 1)).2.1,false⟩))
   else(⟨1,(Num.parse ((s.drop 1).take (if(s.drop 1).all (· != 93)then 0 else((s.drop 1).takeWhile (· != 93)).length))).1,[]⟩,
    skipP [93] ⟨(s.drop 1).drop (if(s.drop 1).all (· != 93)then 0 else((s.drop 1).takeWhile (· != 93)).length),(Num.parse ((s.drop 1).take (if(s.drop 1).all (· != 93)then 0 else((s.drop 1).takeWhile (· != 93)).length))).2 !=0||decide ((Num.parse ((s.drop 1).take (if(s.drop 1).all (· != 93)then 0 else((s.drop 1).takeWhile (· != 93)).length))).1<0)⟩):=by
  unfold keyP;simp only[Zn,if_false]
 rw[hk,begins_one s 91 (by decide)];unfold key;by_cases h91:s.getD 0 0=91
 rotate_left
 ·rw[if_pos h91,if_pos (by simpa using h91)]
 obtain⟨t,rfl⟩:=drop_begins (by decide) h91;rw[if_neg (show¬(91::t).getD 0 0≠91 by simp),if_neg (show¬((91::t).getD 0 0==91)=false by simp)];simp only[Z4,YW];rw[begins_one t 34 (by decide)];by_cases h34:t.getD 0 0=34
 ·have h1:1<(91::t).length/\(91::t).getD 1 0=34:=by
   refine⟨?_,by simpa using h34⟩;obtain⟨u,rfl⟩:=drop_begins (by decide) h34;simp
  rw[if_pos h1,if_pos (show(t.getD 0 0==34)=true by rw[h34];rfl)];obtain⟨x,n,e,hu⟩:∃x n e,Str.unquote t=(x,n,e):=⟨_,_,_,rfl⟩;have hv:=Str.unquote_valid t;rw[hu]at hv⊢;dsimp only at hv⊢;by_cases he:e=0
  rotate_left
  ·rw[if_pos (.inl he),if_pos (.inl he)]
  have hko:keyOk ⟨2,0,x⟩=true:=by
   unfold keyOk;simp;exact hv he
  have htk:((91::t).take (n+1)).drop 1=t.take n:=by simp
  rw[htk];by_cases hq:Str.quote x=t.take n
  rotate_left
  ·rw[if_pos (.inr (.inr (.inr (.inl (Ne.symm hq))))),if_pos (.inr hq)]
  rw[if_neg (show¬(e≠0\/Str.quote x≠t.take n)from fun h=>h.elim (fun h=>h he) (fun h=>h hq))];rw[skip_one,getD_dropn];by_cases h93:t.getD n 0=93
  ·have hn:n<t.length:=by
    refine Classical.byContradiction fun hn=>?_
    rw[Yf,Yh (by omega)]at h93;exact absurd h93 (by decide)
   rw[if_pos (show t.getD (n+0) 0=93 from h93),if_neg]
   ·simp[Y6]
   ·simp only[Zf,Z5,h93,hq,hko,he,not_or];refine⟨by simp,by omega,by simp,by simp,by simp⟩
  ·rw[if_neg (show¬t.getD (n+0) 0=93 from h93),if_pos];exact .inr (.inr (.inl (by simpa using h93)))
 ·have h1:¬(1<(91::t).length/\(91::t).getD 1 0=34):=fun h=>h34 (by simpa using h.2)
  rw[if_neg h1,if_neg (show¬(t.getD 0 0==34)=true from fun h=>h34 (by simpa using h))];dsimp only;obtain⟨d,hd⟩:∃d,d=t.takeWhile Num.digB:=⟨_,rfl⟩;rw[<-hd];have hdall:d.all Num.digB=true:=by rw[hd];exact takeW_all t
  have hnx:t.getD d.length 0=(t.dropWhile Num.digB).getD 0 0:=by rw[hd];exact takeW_next t
  have hdt:t=d++t.dropWhile Num.digB:=by rw[hd];exact(List.takeWhile_append_dropWhile).symm
  by_cases hno:t.all (· != 93)=true
  ·rw[if_pos hno];have hp0:Num.parse []=(0,2):=by decide
   have hn93:(91::t).getD (d.length+1) 0≠93:=by
    intro h;rw[Z5]at h;have hl:d.length<t.length:=by
     refine Classical.byContradiction fun hn=>?_
     rw[Yf,Yh (by omega)]at h;exact absurd h (by decide)
    have:=ZD.1 hno t[d.length] (Zl hl);rw[Yf,Zj hl]at h;simp at h this;exact this h
   rw[if_pos (.inr (.inr hn93))];simp only[Yt,YW,hp0];rw[skip_one];split<;>simp
  ·rw[if_neg hno];obtain⟨p,hp⟩:∃p,p=t.takeWhile (· != 93):=⟨_,rfl⟩;rw[<-hp];have hpt:t.take p.length=p:=by rw[hp];exact takeW_take t
   have hpn:t.getD p.length 0=93:=by
    rw[hp,takeW_next];rcases dropW_head (p:=(· != 93)) t with h|h
    ·exfalso
     apply hno;have:=List.takeWhile_append_dropWhile (p:=(· != 93)) (l:=t);rw[h,Zz]at this;rw[<-this];exact takeW_all t
    ·simpa using h
   rw[hpt,skip_one,getD_dropn,if_pos (show t.getD (p.length+0) 0=93 from hpn)];have hpl:p.length<t.length:=by
    refine Classical.byContradiction fun hn=>?_
    rw[Yf,Yh (by omega)]at hpn;exact absurd hpn (by decide)
   by_cases hok:(Num.parse p).2=0/\0<=(Num.parse p).1
   ·have hall:p.all Num.digB=true:=by
     rcases parse_digits hok.1 with h|h
     ·exact h.1
     ·omega
    have hpd:p=d:=by
     rw[hp,hd];exact(take_all Num.digB (· != 93) t (fun c hc=>by simpa using digB_ne hc) (by rw[<-hp];exact hall)).1.symm
    subst hpd;rw[if_neg (by simp only[hok.1,Z5,hpn,Zf,not_or];exact⟨by simp,by omega,by simp⟩)];simp only[hok.1];rw[show decide ((Num.parse p).1<0)=false by simp;omega];simp[Y6]
   ·have hbad:((Num.parse p).2 !=0||decide ((Num.parse p).1<0))=true:=by
     simp only[ZZ,Y2,Zx];by_cases h0:(Num.parse p).2=0
     ·exact .inr (by
       by_cases h2:0<=(Num.parse p).1
       ·exact absurd ⟨h0,h2⟩ hok
       ·omega)
     ·exact .inl h0
    have hnone:(Num.parse d).2≠0\/(91::t).length<=d.length+1\/(91::t).getD (d.length+1) 0≠93:=by
     refine Classical.byContradiction fun h=>?_
     simp only[not_or,Decidable.not_not,Z5,Zf]at h;obtain⟨h1,h2,h3⟩:=h;have hpd:p=d:=by
      rw[hp]
      conv=>lhs;rw[hdt]
      rw[hnx]at h3;cases hr:t.dropWhile Num.digB with
      |nil=>rw[hr]at h3;exact absurd h3 (by decide)
      |cons c u=>
       rw[hr]at h3;have hc:c=93:=by simpa using h3
       subst hc
       rw[List.takeWhile_append_of_pos (fun a ha=>by
        have:=ZD.1 hdall a ha
        simpa using digB_ne this)]
       simp
     subst hpd;rcases parse_digits h1 with h|h
     ·exact hok ⟨h1,h.2⟩
     ·have h0:=h.1;cases p with
      |nil=>exact absurd h0 (by decide)
      |cons c u=>
       simp only[ZK,Zg]at hdall;have hc:c=45:=by simpa using h0
       subst hc;exact absurd hdall.1 (by decide)
    rw[if_pos hnone,hbad]
theorem word_bad(r:Rd)(h:r.bad=true):(wordP r).2.bad=true:=by unfold wordP;simp[h]
theorem skip_bad(p:List UInt8)(r:Rd)(h:r.bad=true):(skipP p r).bad=true:=by unfold skipP;split<;>simp[h]
theorem has_bad(p:List UInt8)(r:Rd)(h:r.bad=true):(hasP p r).2.bad=true:=by unfold hasP;split<;>simp[h]
theorem key_bad(r:Rd)(h:r.bad=true):(keyP r).2.bad=true:=by unfold keyP;rw[if_pos h];exact h
def finP(l:List Step)(r:Rd):Ad×Int:=
 let d:=hasP dataW r
 let t:=wordP d.2
 let n:=wordP (skipP [46] t.2)
 let k:=keyP n.2
 if k.2.bad=true\/k.2.rest≠[]\/kindB t.1=false then(Ad.zero,2)
 else if 16<l.length then(Ad.zero,4)
 else(⟨l,d.1,t.1,n.1,k.1⟩,0)
theorem parseP_fin(s:List UInt8):parseP s=finP (modsP (s.length+1) ⟨s,false⟩ []).1 (modsP (s.length+1) ⟨s,false⟩ []).2:=rfl
theorem fin_bad(l:List Step)(r:Rd)(h:r.bad=true):finP l r=(Ad.zero,2):=by
 unfold finP;dsimp only;rw[if_pos (.inl (key_bad _ (word_bad _ (skip_bad _ _ (word_bad _ (has_bad _ _ h))))))]
theorem key_other{c:UInt8}{t:List UInt8}(h:stopB c=false):key (c::t)=some (K.none,c::t):=by
 unfold key;rw[if_pos];unfold stopB at h;simp only[Yv,Zs]at h;simpa using h.2
theorem fin_last(l:List Step)(s:List UInt8):finP l ⟨s,false⟩=match last s with
  |none=>(Ad.zero,2)
  |some p=>if 16<l.length then(Ad.zero,4)else({ p with mods:=l },0):=by
 unfold finP last;dsimp only;have hd:hasP dataW ⟨s,false⟩=(begins s dataW,⟨if begins s dataW then s.drop 5 else s,false⟩):=by
  unfold hasP;by_cases h:begins s dataW=true
  ·rw[if_pos h,if_pos h,h];rfl
  ·rw[if_neg h,if_neg h];simp at h;rw[h]
 rw[hd];dsimp only;obtain⟨t,ht⟩:∃t,t=if begins s dataW then s.drop 5 else s:=⟨_,rfl⟩
 rw[<-ht];have hw:∀u,wordP ⟨u,false⟩=(u.takeWhile (fun c=>!stopB c),⟨u.dropWhile (fun c=>!stopB c),!ident (u.takeWhile (fun c=>!stopB c))⟩):=fun u=>by
  unfold wordP;simp
 have hsk:∀u b,skipP [46] ⟨u,b⟩=if u.getD 0 0=46 then⟨u.drop 1,b⟩else⟨u,true⟩:=fun u b=>by
  unfold skipP;rw[begins_one _ _ (by decide)];by_cases h:u.getD 0 0=46
  ·rw[if_pos h,if_pos (by rw[h];rfl)];rfl
  ·rw[if_neg h,if_neg (by simpa using h)]
 rw[hw t];dsimp only;rcases word_cases t with⟨h1,h2,h3⟩|⟨h1,h2⟩
 ·rw[h1,h2,h3,hsk];obtain⟨r,hr⟩:∃r,r=t.dropWhile (fun c=>!stopB c):=⟨_,rfl⟩;obtain⟨a,ha⟩:∃a,a=t.takeWhile (fun c=>!stopB c):=⟨_,rfl⟩;rw[<-hr,<-ha];by_cases h46:r.getD 0 0=46
  rotate_left
  ·rw[if_neg h46,if_pos (.inl (key_bad _ (word_bad _ rfl))),if_pos (.inr h46)]
  rw[if_pos h46];simp only[Yc];rw[hw];dsimp only;by_cases hk:kindB a=true
  rotate_left
  ·rw[if_pos (.inr (.inr (by simpa using hk))),if_pos (.inl (by simpa using hk))]
  rw[if_neg (show¬(kindB a=false\/r.getD 0 0≠46)from fun h=>h.elim (fun h=>by rw[hk]at h;cases h) (fun h=>h h46))];rcases word_cases (r.drop 1)with⟨k1,k2,k3⟩|⟨k1,k2⟩
  ·rw[k1,k2,k3];have hke:=key_eq ((r.drop 1).dropWhile (fun c=>!stopB c));simp only[Yc];revert hke;split
   ·next k rest hkk=>
    intro hke;rw[hkk,hke];dsimp only;by_cases hre:rest=[]
    ·rw[if_neg (show¬(false=true\/rest≠[]\/kindB a=false) by simp[hre,hk]),if_pos (show ident (List.takeWhile (fun c=>!stopB c) (List.drop 1 r))=true/\rest=[]from⟨k1,hre⟩)]
    ·rw[if_pos (.inr (.inl hre)),if_neg (fun h=>hre h.2)]
   ·next hkk=>
    intro hke;rw[hkk,if_pos (.inl hke)]
  ·rw[k1];rw[if_pos (.inl (key_bad _ rfl))];rcases k2 with k2|⟨c,u,k2,k3⟩
   ·cases hkk:key ((r.drop 1).dropWhile wordB)with
    |none=>rfl
    |some q=>
     obtain⟨k,rest⟩:=q;dsimp only;rw[if_neg (fun h=>by rw[k2]at h;exact absurd h.1 (by simp))]
   ·rw[k2,key_other k3];dsimp only;rw[if_neg (fun h=>by simp at h)]
 ·rw[h1];rw[if_pos (.inl (key_bad _ (word_bad _ (skip_bad _ _ rfl))))];rcases h2 with h2|⟨c,u,h2,h3⟩
  ·rw[if_pos (.inl (by unfold kindB;rw[h2];simp))]
  ·rw[h2,if_pos];refine .inr ?_;unfold stopB at h3;simp only[Yv,Zs]at h3;simpa using h3.1
theorem step_eq(s:List UInt8):match step s with
  |some (x,rest)=>stepP ⟨s.drop 7,false⟩=(x,⟨rest,false⟩)\/((stepP ⟨s.drop 7,false⟩).2.bad=true/\rest≠[]/\rest.getD 0 0≠46)
  |none=>(stepP ⟨s.drop 7,false⟩).2.bad=true:=by
 unfold step stepP;dsimp only;obtain⟨t,ht⟩:∃t,t=s.drop 7:=⟨_,rfl⟩;rw[<-ht];have hw:wordP ⟨t,false⟩=(t.takeWhile (fun c=>!stopB c),⟨t.dropWhile (fun c=>!stopB c),!ident (t.takeWhile (fun c=>!stopB c))⟩):=by
  unfold wordP;simp
 rw[hw];dsimp only;rcases word_cases t with⟨h1,h2,h3⟩|⟨h1,h2⟩
 ·rw[h1,h2,h3];have hke:=key_eq (t.dropWhile (fun c=>!stopB c));simp only[Yc];revert hke;split
  ·next k rest hkk=>
   intro hke;rw[hkk,hke];dsimp only;rw[if_pos h1];exact .inl rfl
  ·next hkk=>
   intro hke;rw[hkk];exact hke
 ·rw[h1];have hb:(keyP ⟨t.dropWhile (fun c=>!stopB c),!false⟩).2.bad=true:=key_bad _ rfl;rcases h2 with h2|⟨c,u,h2,h3⟩
  ·rw[h2];split
   ·next x rest hx=>
    split at hx
    ·cases hx
    ·simp at hx
   ·exact hb
  ·rw[h2,key_other h3];dsimp only;split
   ·next x rest hx=>
    split at hx
    ·injection hx with hx;injection hx with hx1 hx2;subst hx2;refine .inr ⟨hb,by simp,?_⟩;unfold stopB at h3;simp only[Yv,Zs]at h3;simpa using h3.1
    ·cases hx
   ·exact hb
theorem key_rest(s:List UInt8)(k:K)(rest:List UInt8)(h:key s=some (k,rest)):rest.length<=s.length:=by
 unfold key at h;split at h
 ·injection h with h;injection h with h1 h2;subst h2;exact Ze _
 ·split at h
  ·dsimp only at h;split at h
   ·cases h
   ·injection h with h;injection h with h1 h2;subst h2;simp
  ·dsimp only at h;split at h
   ·cases h
   ·injection h with h;injection h with h1 h2;subst h2;simp
theorem step_rest(s:List UInt8)(x:Step)(rest:List UInt8)(h:step s=some (x,rest)):rest.length<=s.length:=by
 unfold step at h;split at h
 ·cases h
 ·next k r hk=>
  split at h
  ·injection h with h;injection h with h1 h2;subst h2;have:=key_rest _ _ _ hk;have h2:((s.drop 7).dropWhile wordB).length<=(s.drop 7).length:=(List.dropWhile_suffix _).length_le;simp at h2;omega
  ·cases h
theorem begins_len{s p:List UInt8}(h:begins s p=true):p.length<=s.length:=(Zao.1 h).length_le
theorem place_eq:∀(f:Nat) (s:List UInt8) (l:List Step),s.length<f ->
  finP (modsP f ⟨s,false⟩ l).1 (modsP f ⟨s,false⟩ l).2=match place f s with
   |some (p,true)=>if 16<(l++p.mods).length then(Ad.zero,4)else({ p with mods:=l++p.mods },0)
   |_=>(Ad.zero,2)
 |0,s,l,h=>absurd h (Nat.not_lt_zero _)
 |f+1,s,l,h=>by
  rw[modsP,place];by_cases hb:begins s modW=true
  ·rw[if_pos ⟨rfl,hb⟩,if_pos hb];have hh:(hasP modW ⟨s,false⟩).2=⟨s.drop 7,false⟩:=by unfold hasP;rw[if_pos hb];rfl
   dsimp only;rw[hh];have hse:=step_eq s;have hl7:=begins_len hb;have hbad:∀r:Rd,r.bad=true->∀l',modsP f r l'=(l',r):=by
    intro r hr l';cases f with
    |zero=>rfl
    |succ f=>rw[modsP,if_neg (fun h=>by rw[hr]at h;exact absurd h.1 (by simp))]
   split at hse
   ·next x rest hst=>
    rw[hst];dsimp only;have hsr:=step_rest s x rest hst;rcases hse with hse|⟨hse,h1,h2⟩
    ·rw[hse];dsimp only;by_cases hr0:rest=[]
     ·rw[if_pos hr0,hr0];have:skipP [46] ⟨[],false⟩=⟨[],true⟩:=rfl;rw[this,hbad _ rfl];exact fin_bad _ _ rfl
     ·rw[if_neg hr0];by_cases h46:rest.getD 0 0=46
      ·rw[if_neg (fun h=>h h46)];obtain⟨u,rfl⟩:=drop_begins (by decide) h46;have:skipP [46] ⟨46::u,false⟩=⟨u,false⟩:=by
        unfold skipP;rw[begins_one _ _ (by decide)];rfl
       rw[this];have ih:=place_eq f u (l++[x]) (by simp at hsr;omega);rw[ih];simp only[Z4,YW];split
       ·next p hp=>
        rw[hp];simp
       ·next hp=>
        cases hpl:place f u with
        |none=>rfl
        |some q=>
         obtain⟨p,w⟩:=q;cases w with
         |true=>exact absurd hpl (hp p)
         |false=>rfl
      ·rw[if_pos h46];have:(skipP [46] ⟨rest,false⟩).bad=true:=by
        unfold skipP;rw[begins_one _ _ (by decide),if_neg (by simpa using h46)]
       rw[hbad _ this];exact fin_bad _ _ this
    ·rw[if_neg h1,if_pos h2];have:=skip_bad [46] _ hse;rw[hbad _ this];exact fin_bad _ _ this
   ·next hst=>
    rw[hst];have:=skip_bad [46] _ hse;rw[hbad _ this];exact fin_bad _ _ this
  ·rw[if_neg (fun h=>hb h.2),if_neg hb,fin_last];cases hl:last s with
   |none=>rfl
   |some p=>
    have:p.mods=[]:=by
     unfold last at hl;dsimp only at hl;generalize (if begins s dataW=true then s.drop 5 else s)=t at hl;split at hl
     ·cases hl
     ·split at hl
      ·cases hl
      ·split at hl
       ·injection hl with hl;subst hl;rfl
       ·cases hl
    simp[this]
theorem parse_eq(s:List UInt8):parseP s=parse s:=by
 rw[parseP_fin,place_eq _ _ _ (Nat.lt_succ_self _)];unfold parse;split
 ·next p hp=>rw[hp];simp
 ·next hp=>
  first
  |rfl
  | (split
     · next p hp' => exact absurd hp' (hp p)
     · rfl)
end Adr
end
section
open Go.RowKit
structure Glob(w:World):Prop where
 tabs:Lib.Utf8Tabs 1 2 w
 tz:w.cell? ⟨7,15,none⟩=some (.int .u8 4)
theorem cell_lt{w:World}{a:Addr}{v:Value}(h:w.cell? a=some v):a.block<w.heap.size:=by
 rcases Z0 a.block w.heap.size with h'|h'
 ·exact h'
 ·simp[World.cell?,Array.getElem?_eq_none h']at h
theorem cell_below{w w':World}{a:Addr}{v:Value}(h:w.cell? a=some v)(b:Below w.heap.size w w'):w'.cell? a=some v:=(b.cell (cell_lt h)).trans h
theorem Glob.below{w w':World}(h:Glob w)(b:Below w.heap.size w w'):Glob w':=
 ⟨Utf8Tabs_below h.tabs b,cell_below h.tz b⟩
theorem bwz{P:Program}(w:World){a b:ByteArray}{l m r:List UInt8}(ha:a.data.toList=l)(hb:b.data.toList=m)(hr:l++m=r)(h:r.length<1099511627776):
  (Op.stringOp .add a b).run P w=.ok (.string ⟨r.toArray⟩) w:=by
 subst hr;exact avq w ha hb (by rw[Za]at h;exact h)
theorem cqs(s:ByteArray)(k:Nat)(h:k<s.size):s.data.toList.take (k+1)=s.data.toList.take k++[s[k]]:=by
 rw[Z3 (by simpa using h)];rfl
theorem drop_cons(s:ByteArray)(k:Nat)(h:k<s.size):s.data.toList.drop k=s[k]::s.data.toList.drop (k+1):=by
 rw[Zu (by simpa using h)];rfl
theorem azy(b:UInt8)(n:Nat)(hn:n<256)(h:b≠UInt8.ofNat n):((b.toNat:Int)==(n:Int))=false:=by
 have:=b.toNat_lt;refine Zs.2 fun hh=>h ?_
 rw[<-YG,Yl];omega
theorem dvm(w:World)(hc:w.cell? ⟨7,15,none⟩=some (.int .u8 4)):Calls Tryz.prog 236 #[.int .u64 16] w fun e w'=>e=.returned (.int .i64 4)/\Below w.heap.size w w':=by
  have e1:IntKind.u64.wrap (bits BinOp.and IntKind.u64 16 (IntKind.u64.wrap (-16))*285870213051353865)/288230376151711744=15:=by decide
  go_enter Tryz.func236,Tryz.ntmps236;go_wp2
  go_ret
  exact⟨rfl,Below.refl _ _⟩
theorem dj0(w:World)(g:Glob w):Calls Tryz.prog 234 #[.int .u64 16] w fun e w'=>e=.returned (.int .i64 4)/\Below w.heap.size w w':=by
 have hc:=g.tz;clear g;go_enter Tryz.func234,Tryz.ntmps234;go_wp2_with fail;refine(dvm _ hc).mono ?_;rintro e w1 ⟨rfl,b1⟩;go_wp2
 go_ret
 exact⟨rfl,b1⟩
theorem dz5(w:World):Calls Tryz.prog 233 #[.int .i64 16] w fun e w'=>e=.returned (.bool true)/\w=w':=by
 have e1:(bits BinOp.and IntKind.i64 16 15)=0:=by decide
 go_enter Tryz.func233,Tryz.ntmps233;go_wp2
 go_ret
 exact⟨rfl,rfl⟩
theorem BytesAt.conv_from{P:Program}{w:World}{g:Nat}{e0:TypeId}{l:List UInt8}(h:BytesAt w g e0 l)(src dst e:TypeId)(k n cap:Nat)(hn:k+n=l.length)(hs:P.underlying src=some (.slice e))(he:P.underlying e=some (.int .u8))(hd:P.underlying dst=some .string):
  (convert src dst (.slice (some ⟨g,k,none⟩) n cap)).run P w=.ok (.string ⟨(l.drop k).toArray⟩) w:=by
 obtain rfl:(l.drop k).length=n:=by rw[ZC];omega
 exact run_convert_bytes_back w src dst e ⟨g,k,none⟩ cap (l.drop k) hs he hd (fun j hj=>by
  rw[aq1,List.getElem_drop];exact h.cell (k+j) (by rw[ZC]at hj;omega))
theorem ckr(w:World):BytesAt (w.alloc (.cells Tryz.zeroCells280 280)) w.heap.size 280 (List.replicate 65 0):=
 ⟨Tryz.zeroCells280,0,0,heap_alloc_new w _,by rfl,.inr rfl⟩
theorem dx6:∀x:Fin 256,bits .and .u64 ((x.val:Nat):Int) 15=((x.val%16:Nat):Int):=by decide
theorem djr:∀d:Fin 16,(#[48,49,50,51,52,53,54,55,56,57,97,98,99,100,101,102,103,104,105,106,107,108,109,110,111,112,113,114,115,116,117,118,119,120,121,122]:Array UInt8)[d.val]'(Nat.lt_trans d.isLt (by decide))=Str.hd d.val:=by decide
theorem dqf (d:Nat) (h:d < 16) (h':d < (⟨#[48,49,50,51,52,53,54,55,56,57,97,98,99,100,101,102,103,104,105,106,107,108,109,110,111,112,113,114,115,116,117,118,119,120,121,122]⟩:ByteArray).size):(⟨#[48,49,50,51,52,53,54,55,56,57,97,98,99,100,101,102,103,104,105,106,107,108,109,110,111,112,113,114,115,116,117,118,119,120,121,122]⟩:ByteArray)[d]'h'=Str.hd d:=djr ⟨d,h⟩
theorem cwo(u:Nat)(w:World)(g:Glob w)(hu:u<256):
  Calls Tryz.prog 228 #[.slice none 0 0,.int .u64 u,.int .i64 16,.bool false,.bool false] w fun e w'=>e=.returned (.tuple #[.slice none 0 0,.string ⟨(Str.hexL u).toArray⟩])/\Below w.heap.size w w':=by
 have G:=kept g;clear g;have Z:=kept (ckr w);have B0:=kept (ball w (.cells Tryz.zeroCells280 280));go_enter Tryz.func228,Tryz.ntmps228;go_wp2_with fail;refine(dz5 _).mono ?_;rintro e w1 ⟨rfl,rfl⟩;generalize w.alloc (.cells Tryz.zeroCells280 280)=w1 at Z B0;go_wp2_with fail;refine(dj0 _ (G.out.below B0.out)).mono ?_;rintro e w2 ⟨rfl,b2⟩;have B2:=kept (bthen B0.out b2);have Z2:=kept (Z.out.below b2 Z.out.lt);clear Z B0 b2;go_wp2
 go_loopw [1,13] (fun uv iv wr=>Below w.heap.size w wr/\((uv=.int .u64 u/\iv=.int .i64 65/\BytesAt wr w.heap.size 280 (List.replicate 65 0))\/(16<=u/\uv=.int .u64 ((u/16:Nat):Int)/\iv=.int .i64 64/\BytesAt wr w.heap.size 280 ((List.replicate 65 0).set 64 (Str.hd (u%16)))))) (fun uv _ _=>(intOf uv).toNat)
 case atStart=>exact⟨B2.out,.inl ⟨rfl,rfl,Z2.out⟩⟩
 case round=>
  clear Z2 B2;obtain⟨hbel,⟨rfl,rfl,hz⟩|⟨h16,rfl,rfl,hz⟩⟩:=hrel
  ·have Hl:=kept hbel;have Hz:=kept hz;clear hbel hz;by_cases h16:16<=u
   ·have h16':(16:Int)<=u:=by omega
    have hc:wr.cell? ⟨w.heap.size,64,none⟩=_:=Hz.out.cell 64 (by decide);have hf:wr.frozen? ⟨w.heap.size,64,none⟩=_:=Hz.out.free 64 (by decide);have Hs:=kept (Hz.out.set 64 (Str.hd (u%16)));have ha:bits .and .u64 (u:Int) 15=((u%16:Nat):Int):=dx6 ⟨u,hu⟩;have hr:0<=(u:Int)%16/\(u:Int)%16<36:=by omega
    go_wp2;rw[dqf _ (by omega)];refine⟨⟨Hl.out.setCell (Ze _) _,.inr ⟨h16,rfl,rfl,Hs.out⟩⟩,?_⟩;simp only[intOf];omega
   ·have h16':¬(16:Int)<=u:=by omega
    have hc:wr.cell? ⟨w.heap.size,64,none⟩=_:=Hz.out.cell 64 (by decide);have hf:wr.frozen? ⟨w.heap.size,64,none⟩=_:=Hz.out.free 64 (by decide);have hs:=Hz.out.set 64 (Str.hd u);have hcv:=hs.conv_from (P:=Tryz.prog) 190 9 5 64 1 1 (by simp) Tryz.underlying190 Tryz.underlying5 Tryz.underlying9;have hdg:∀ h',(⟨#[48,49,50,51,52,53,54,55,56,57,97,98,99,100,101,102,103,104,105,106,107,108,109,110,111,112,113,114,115,116,117,118,119,120,121,122]⟩:ByteArray)[u]'h'=Str.hd u:=dqf u (by omega);have hr:0<=(u:Int)/\(u:Int) < 36:=by omega
    clear hs;go_wp2;refine bodyPost_ret (v:=.tuple #[.slice none 0 0,.string ⟨#[Str.hd u]⟩]) (by simp[results,Tryz.results228,go_sem]) rfl ⟨?_,Hl.out.setCell (Ze _) _⟩;unfold Str.hexL;rw[if_pos (by omega)]
  ·have Hl:=kept hbel;have Hz:=kept hz;clear hbel hz;obtain⟨v,hv⟩:=Ex (u/16);have Hv:=kept hv;have h16':¬(16:Int)<=v:=by omega
   have hr:0<=(v:Int)/\(v:Int)<36:=by omega
   rw [hv];have hdg:∀ h',(⟨#[48,49,50,51,52,53,54,55,56,57,97,98,99,100,101,102,103,104,105,106,107,108,109,110,111,112,113,114,115,116,117,118,119,120,121,122]⟩:ByteArray)[v]'h'=Str.hd v:=dqf v (by omega);clear hv;have hc:wr.cell? ⟨w.heap.size,63,none⟩=_:=Hz.out.cell 63 (by rw [ZA]; decide);have hf:wr.frozen? ⟨w.heap.size,63,none⟩=_:=Hz.out.free 63 (by rw [ZA]; decide);have hs:=Hz.out.set 63 (Str.hd v);have hcv:=hs.conv_from (P:=Tryz.prog) 190 9 5 63 2 2 (by simp) Tryz.underlying190 Tryz.underlying5 Tryz.underlying9;clear hs;go_wp2;refine bodyPost_ret (v:=.tuple #[.slice none 0 0,.string ⟨#[Str.hd v,Str.hd (u % 16)]⟩]) (by simp [results,Tryz.results228,go_sem]) rfl ⟨?_,Hl.out.setCell (Ze _) _⟩;unfold Str.hexL; rw [if_neg (by omega),Hv.out]
theorem czs(u:Nat)(w:World)(g:Glob w)(hu:u<256):
  Calls Tryz.prog 217 #[.int .i64 u,.int .i64 16] w fun e w'=>e=.returned (.string ⟨(Str.hexL u).toArray⟩)/\Below w.heap.size w w':=by
 have hb:=cwo u w g hu;have h0:¬(u:Int)<0:=by omega
 clear g;go_enter Tryz.func217,Tryz.ntmps217;go_wp2_with fail;refine hb.mono ?_;rintro e w1 ⟨rfl,b1⟩;go_wp2
 go_ret
 exact⟨rfl,b1⟩
theorem bym(u:Nat)(w:World)(g:Glob w)(hu:u<256):
  Calls Tryz.prog 200 #[.int .i64 u,.int .i64 16] w fun e w'=>e=.returned (.string ⟨(Str.hexL u).toArray⟩)/\Below w.heap.size w w':=by
 have hb:=czs u w g hu;clear g;go_enter Tryz.func200,Tryz.ntmps200;go_wp2_with fail;refine hb.mono ?_;rintro e w1 ⟨rfl,b1⟩;go_wp2
 go_ret
 exact⟨rfl,b1⟩
end
end Go.Proofs.YthhpocnmfknalaaGreatDoor
