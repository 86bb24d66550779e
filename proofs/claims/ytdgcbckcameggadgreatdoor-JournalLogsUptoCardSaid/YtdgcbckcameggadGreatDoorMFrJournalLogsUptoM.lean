/- Part of what the proof needs. -/
import Derived.Test.YtdgcbckcameggadGreatDoorMFrJournalLogsUpto0
import Derived.Test.YtdgcbckcameggadGreatDoorMFrJournalLogsUptoD
import Derived.Test.YtdgcbckcameggadGreatDoorMFrJournalLogsUptoE
import Derived.Test.YtdgcbckcameggadGreatDoorMFrJournalLogsUptoI
import Derived.Test.YtdgcbckcameggadGreatDoorMFrJournalLogsUptoJ
import Derived.Test.YtdgcbckcameggadGreatDoorMFrJournalLogsUptoK
import Derived.Test.YtdgcbckcameggadGreatDoorMFrJournalLogsUptoL
import Derived.Shelf.Slices.Clone
set_option maxHeartbeats 4000000
set_option linter.unusedSimpArgs false
set_option linter.unusedVariables false
set_option linter.unnecessarySimpa false
namespace Go.Proofs.YtdgcbckcameggadGreatDoor
open Go.RowKit
open Go.Op (bytesLess)
namespace Adr
theorem indexAny_word:∀ s:List UInt8,(Lib.indexAny s [46,91]=-1∧s.takeWhile (fun c=>!stopB c)=s∧s.dropWhile (fun c=>!stopB c)=[]) ∨
  ∃ n:Nat,Lib.indexAny s [46,91]=n∧n≤s.length∧s.takeWhile (fun c=>!stopB c)=s.take n∧s.dropWhile (fun c=>!stopB c)=s.drop n
 |[] => .inl ⟨rfl,rfl,rfl⟩
 |c::s=>by
  have hc:([46,91]:List UInt8).contains c=stopB c:=by
   unfold stopB;simp;rfl
  unfold Lib.indexAny;rw[hc];cases h:stopB c
  ·rcases indexAny_word s with⟨h1,h2,h3⟩|⟨n,h1,h2,h3,h4⟩
   ·refine .inl ⟨by rw[h1];rfl,?_,?_⟩
    ·rw[Yy (by simp[h]),h2]
    ·rw[YS (by simp[h]),h3]
   ·refine .inr ⟨n+1,?_,by simpa using h2,?_,?_⟩
    ·rw[h1];have e:((n:Int) == -1)=false:=by simp<;>omega
     simp only[Zk,if_false,e];omega
    ·rw[Yy (by simp[h]),h3,Z6]
    ·rw[YS (by simp[h]),h4,ZU]
  ·refine .inr ⟨0,rfl,Zy _,?_,?_⟩
   ·rw[YX (by simp[h])];rfl
   ·rw[Y7 (by simp[h])];rfl
theorem indexByte_key:∀ s:List UInt8,(s.all (· != 93)=true∧Lib.indexByte s 93=-1)∨(s.all (· != 93)=false∧Lib.indexByte s 93=((s.takeWhile (· != 93)).length:Nat)∧(s.takeWhile (· != 93)).length≤s.length)
 |[] => .inl ⟨rfl,rfl⟩
 |c::s=>by
  unfold Lib.indexByte;by_cases h:c=93
  ·subst h;refine .inr ⟨by simp,?_,Nat.le_of_lt_succ (by simp)⟩;simp
  ·have hb:(c==93)=false:=by simp[h]
   have hn:(c !=93)=true:=by simp[h]
   rcases indexByte_key s with⟨h1,h2⟩|⟨h1,h2,h3⟩
   ·refine .inl ⟨by rw[ZE,hn,h1];rfl,?_⟩;simp[hb,h,h2]
   ·refine .inr ⟨by rw[ZE,h1,Y6],?_,?_⟩
    ·simp only[List.takeWhile_cons,hn,if_true,Zh,hb,Zk,if_false,h2];have e:(((s.takeWhile (· != 93)).length:Nat):Int) == -1↔False:=by simp<;>omega
     rw[if_neg (by rw[e];exact id)];omega
    ·simp only[List.takeWhile_cons,hn,if_true,Zh];omega
theorem cmp_bytes:∀ a b:List UInt8,Lib.compareBytes a b=AX.cmpZ a b
 |[],[]=>rfl
 |[],_::_=>rfl
 |_::_,[]=>rfl
 |a::a1,b::b1=>by
  have ih:=cmp_bytes a1 b1;unfold AX.cmpZ at ih ⊢;unfold Lib.compareBytes bytesLess;by_cases h1:a<b
  ·have hne:a≠b:=by intro e;subst e;exact absurd h1 (by simp)
   simp[h1,hne]
  ·by_cases h2:b<a
   ·have hne:a≠b:=by intro e;subst e;exact absurd h2 (by simp)
    simp[h1,h2,hne]
   ·have he:a=b:=by
     have h3:¬a.toNat<b.toNat:=h1;have h4:¬b.toNat<a.toNat:=h2;exact Z9.1 (by omega)
    subst he;rw[if_neg h1,if_neg h2,ih];simp
end Adr
namespace AX
theorem dql(a b:List UInt8)(h:Hp):AT 108 [.str a,.str b] h (.int .i64 (cmpZ a b)):=by
 rw[←Adr.cmp_bytes];exact azs (byj aq8 aq8) (fun w hg=>(Tryz.strings_Compare ⟨a.toArray⟩ ⟨b.toArray⟩ w).mono fun e w' ⟨h1,h2⟩=>⟨h1,by rw[h2];exact Below.refl _ _⟩) (fun C=>rep_int.2 rfl) h
theorem bya(s:List UInt8)(hs:s.length≤2000000)(h:Hp):AT 167 [.str s,.str [46,91]] h (.int .i64 (Lib.indexAny s [46,91])):=
 azs (byj aq8 aq8) (fun w hg=>bxv ⟨s.toArray⟩ (by rw[size_mk];omega) w) (fun C=>rep_int.2 rfl) h
theorem bjk(s:List UInt8)(h:Hp):AT 170 [.str s,.int .u8 93] h (.int .i64 (Lib.indexByte s 93)):=
 azs (byj aq8 bk5) (fun w hg=>(Tryz.strings_IndexByte ⟨s.toArray⟩ 93 w).mono fun e w' ⟨h1,h2⟩=>⟨h1,by rw[h2];exact Below.refl _ _⟩) (fun C=>rep_int.2 rfl) h
theorem ckl(s:List UInt8)(hs:s.length≤2000000)(h:Hp):AT 147 [.str s] h (.bool (Adr.kindB s)):=by
 refine pcall ?_ rfl (by simp[A.pure,A.data]) h;refine fo ?_;have hi:=fun h=>ak3 s hs h
 have hk:Adr.kindB s=(!Adr.reserved s&&Adr.ident s):=rfl;have hr:∀ {G:Prop} (w:List UInt8),((s==w)=true→G)→((s==w)=false→G)→G:=fun w p q=>by
  cases e:s==w
  ·exact q e
  ·exact p e
 have res:∀ w,(s==w)=true→w∈Adr.reservedL→Adr.kindB s=false:=fun w e hw=>by
  rw[ZC]at e;subst e;rw[hk];unfold Adr.reserved;rw[Zal.2 hw];rfl
 refine hr [109,111,100,117,108,101] (fun e1=>?_) fun e1=>?_
 ·refine azb e1 ?_;exact⟨_,le_refl _,by rw[res _ e1 (by decide)];rfl⟩
 refine hr [100,97,116,97] (fun e2=>?_) fun e2=>?_
 ·refine azb (ai e1 e2) ?_;exact⟨_,le_refl _,by rw[res _ e2 (by decide)];rfl⟩
 refine hr [118,97,114] (fun e3=>?_) fun e3=>?_
 ·refine azb (ai e1 (ai e2 e3)) ?_;exact⟨_,le_refl _,by rw[res _ e3 (by decide)];rfl⟩
 refine hr [108,111,99,97,108] (fun e4=>?_) fun e4=>?_
 ·refine azb (ai e1 (ai e2 (ai e3 e4))) ?_;exact⟨_,le_refl _,by rw[res _ e4 (by decide)];rfl⟩
 refine hr [101,97,99,104] (fun e5=>?_) fun e5=>?_
 ·refine azb (ai e1 (ai e2 (ai e3 (ai e4 e5)))) ?_;exact⟨_,le_refl _,by rw[res _ e5 (by decide)];rfl⟩
 refine hr [99,111,117,110,116] (fun e6=>?_) fun e6=>?_
 ·refine azb (ai e1 (ai e2 (ai e3 (ai e4 (ai e5 e6))))) ?_;exact⟨_,le_refl _,by rw[res _ e6 (by decide)];rfl⟩
 refine hr [114,101,109,111,116,101] (fun e7=>?_) fun e7=>?_
 ·refine azb (ai e1 (ai e2 (ai e3 (ai e4 (ai e5 (ai e6 e7)))))) ?_;exact⟨_,le_refl _,by rw[res _ e7 (by decide)];rfl⟩
 refine hr [111,117,116,112,117,116] (fun e8=>?_) fun e8=>?_
 ·refine azb (ai e1 (ai e2 (ai e3 (ai e4 (ai e5 (ai e6 (ai e7 e8))))))) ?_;exact⟨_,le_refl _,by rw[res _ e8 (by decide)];rfl⟩
 refine hr [112,97,116,104] (fun e9=>?_) fun e9=>?_
 ·refine azb (ai e1 (ai e2 (ai e3 (ai e4 (ai e5 (ai e6 (ai e7 (ai e8 e9)))))))) ?_;exact⟨_,le_refl _,by rw[res _ e9 (by decide)];rfl⟩
 refine hr [115,101,108,102] (fun e10=>?_) fun e10=>?_
 ·refine azb (ai e1 (ai e2 (ai e3 (ai e4 (ai e5 (ai e6 (ai e7 (ai e8 (ai e9 e10))))))))) ?_;exact⟨_,le_refl _,by rw[res _ e10 (by decide)];rfl⟩
 refine hr [99,104,97,110,103,101] (fun e11=>?_) fun e11=>?_
 ·refine azb (ai e1 (ai e2 (ai e3 (ai e4 (ai e5 (ai e6 (ai e7 (ai e8 (ai e9 (ai e10 e11)))))))))) ?_;exact⟨_,le_refl _,by rw[res _ e11 (by decide)];rfl⟩
 have hres:Adr.reserved s=false:=by
  have h1:=Zu.1 e1;have h2:=Zu.1 e2;have h3:=Zu.1 e3;have h4:=Zu.1 e4;have h5:=Zu.1 e5;have h6:=Zu.1 e6;have h7:=Zu.1 e7;have h8:=Zu.1 e8;have h9:=Zu.1 e9;have h10:=Zu.1 e10;have h11:=Zu.1 e11;unfold Adr.reserved;rw[Y4];intro hc;rw[Zal]at hc;unfold Adr.reservedL at hc;simp only[Z7,List.not_mem_nil,or_false]at hc;rcases hc with e|e|e|e|e|e|e|e|e|e|e<;>simp_all
 rw[hk,hres];refine azb (ai e1 (ai e2 (ai e3 (ai e4 (ai e5 (ai e6 (ai e7 (ai e8 (ai e9 (ai e10 e11)))))))))) ?_;refine use (hi _) ?_;refine azb ti ?_;exact⟨_,le_refl _,by simp[azj]⟩
theorem czd(r:Adr.Rd)(hl:r.rest.length≤2000000){h:Hp}{i:Nat}(hb:h.b[i]?=some (adB r)) :
  AC 145 [.ptr i 0] h fun v h'=>v=.str (Adr.wordP r).1∧h'=⟨h.b.set i (adB (Adr.wordP r).2),h.t⟩:=by
 have key:AC 145 [.ptr 0 0] ⟨[adB r],[]⟩ fun v h'=>∃ b',h'.b[0]?=some b'∧v=.str (Adr.wordP r).1∧b'=adB (Adr.wordP r).2:=by
  obtain⟨rest,bad⟩:=r;dsimp only at hl;refine fo ?_;unfold adB;have hW:Adr.wordP ⟨rest,bad⟩=(rest.takeWhile (fun c=>!Adr.stopB c),⟨rest.dropWhile (fun c=>!Adr.stopB c),bad||!Adr.ident (rest.takeWhile (fun c=>!Adr.stopB c))⟩):=rfl;rw[hW];have hi:=fun(s:List UInt8) (hs:s.length≤2000000) h=>ak3 s hs h
  refine azb ti ?_;refine use (bya rest hl _) ?_;rcases Adr.indexAny_word rest with⟨h1,h2,h3⟩|⟨n,h1,h2,h3,h4⟩
  ·rw[h1,h2,h3];have lm:(-1:Int)<0:=by decide
   have l0:(0:Int)≤(rest.length:Int):=by omega
   have td:rest.drop rest.length=[]:=List.drop_length;cases bad
   ·refine azb (ai lm (ai l0 td)) ?_;refine use (hi rest hl _) ?_;refine azb ti ?_;exact⟨_,le_refl _,_,rfl,rfl,rfl⟩
   ·refine azb (ai lm (ai l0 td)) ?_;exact⟨_,le_refl _,_,rfl,rfl,rfl⟩
  ·rw[h1,h3,h4];have lm:¬(n:Int)<0:=by omega
   have l0:(0:Int)≤(n:Int):=by omega
   have l1:(n:Int)≤(rest.length:Int):=by omega
   have ht:(rest.take n).length≤2000000:=by rw[ZT];omega
   cases bad
   ·refine azb (ai lm (ai l0 l1)) ?_;refine use (hi _ ht _) ?_;refine azb ti ?_;exact⟨_,le_refl _,_,rfl,rfl,rfl⟩
   ·refine azb (ai lm (ai l0 l1)) ?_;exact⟨_,le_refl _,_,rfl,rfl,rfl⟩
 refine(ACall.lift1 key rfl (axi r) ?_ hb).mono ?_
 ·rintro v b' ⟨rfl,rfl⟩;exact⟨rfl,axi _⟩
 ·rintro v h' ⟨b',⟨rfl,rfl⟩,rfl⟩;exact⟨rfl,rfl⟩
def Adr.K.A(k:Adr.K):A:=.agg [.int .i64 k.kind,.int .i64 k.num,.str k.str]
theorem ay5(k:Adr.K)(hs:k.str.length≤2000000)(h:Hp):AT 208 [Adr.K.A k] h (.bool (Adr.keyOk k)):=by
 obtain⟨kd,nm,st⟩:=k;dsimp only at hs;unfold Adr.K.A;refine pcall ?_ rfl (by simp[A.pure,A.data]) h;refine fo ?_;have hv:=fun h=>bjm st hs h
 have hK:Adr.keyOk ⟨kd,nm,st⟩=if kd=1 then decide (0≤nm)&&decide (nm≤9007199254740992)&&st == []else if kd=2 then nm==0&&Str.valid st else(⟨kd,nm,st⟩:Adr.K)==Adr.K.none:=rfl
 rw[hK];by_cases k0:kd=0
 ·subst k0;have e0:((0:Int)==0)=true:=by decide
  rw[if_neg (by decide),if_neg (by decide)];have hn:((⟨0,nm,st⟩:Adr.K)==Adr.K.none)=(nm==0&&st == []):=by
   rw[Yf,ZC,Zc,ZC,ZC];unfold Adr.K.none;simp
  refine azb e0 ?_;exact⟨_,le_refl _,by rw[hn];simp[azj]⟩
 have e0:(kd==0)=false:=by simp[k0]
 by_cases k1:kd=1
 ·subst k1;have e1:((1:Int)==1)=true:=by decide
  have e10:((1:Int)==0)=false:=by decide
  rw[if_pos rfl];by_cases n0:0≤nm
  ·have g0:nm≥0:=n0;by_cases n1:nm≤9007199254740992
   ·refine azb (ai e10 (ai e1 (ai g0 n1))) ?_;exact⟨_,le_refl _,by rw[Yr n0,Yr n1];rfl⟩
   ·refine azb (ai e10 (ai e1 (ai g0 n1))) ?_;exact⟨_,le_refl _,by rw[YH n1,Y6];rfl⟩
  ·have g0:¬nm≥0:=n0;refine azb (ai e10 (ai e1 g0)) ?_;exact⟨_,le_refl _,by rw[YH n0];rfl⟩
 have e1:(kd==1)=false:=by simp[k1]
 rw[if_neg k1];by_cases k2:kd=2
 ·subst k2;have e20:((2:Int)==0)=false:=by decide
  have e21:((2:Int)==1)=false:=by decide
  have e2:((2:Int)==2)=true:=by decide
  rw[if_pos rfl];cases hn:nm==0
  ·refine azb (ai e20 (ai e21 (ai e2 hn))) ?_;exact⟨_,le_refl _,rfl⟩
  ·refine azb (ai e20 (ai e21 (ai e2 hn))) ?_;refine use (hv _) ?_;refine azb (ai e20 (ai e21 (ai e2 hn))) ?_;exact⟨_,le_refl _,rfl⟩
 have e2:(kd==2)=false:=by simp[k2]
 rw[if_neg k2];have hn:((⟨kd,nm,st⟩:Adr.K)==Adr.K.none)=false:=by
  rw[Zu];unfold Adr.K.none;intro e;injection e with e _ _;exact k0 e
 rw[hn];refine azb (ai e0 (ai e1 e2)) ?_;exact⟨_,le_refl _,rfl⟩
end AX
end Go.Proofs.YtdgcbckcameggadGreatDoor

namespace Go.Proofs.YtdgcbckcameggadGreatDoor
open Go.RowKit
namespace Str
theorem one_width(l:List UInt8)(hl:l≠[])(h:(one l).2.2=0):(one l).2.1≤l.length:=by
 have hp:=YK.2 hl;by_cases h92:l.getD 0 0=92
 ·obtain⟨⟨c,n,e⟩,he⟩:=Ex (escp (l.drop 1));have h1:=one_esc l h92 c n e he;rw[h1]at h ⊢;by_cases h0:e=0
  ·rw[if_neg (by simp[h0])];have:=escp_len (l.drop 1) (by rw[he];exact h0);rw[he,ZB]at this;dsimp only at this ⊢;omega
  ·rw[if_pos h0]at h;exact absurd h h0
 ·obtain⟨⟨c,n⟩,hd⟩:=Ex (Lib.decodeL l);have hc:c≠92:=by
   rcases dec_cases l with⟨q1,q2⟩|⟨q1,q2⟩
   ·rw[hd]at q2;injection q2 with q2 q3;intro e;apply h92;rw[←Z9];have:(l.getD 0 0).toNat=92:=by omega
    simpa using this
   ·rw[hd]at q2;dsimp only at q2;omega
  by_cases hbad:(c=65533∧n=1)∨c<32∨c=127
  ·rw[one_bad l c n hd hc hbad]at h;simp at h
  ·rw[one_ok l hl c n hd hc hbad];have:=Lib.decodeL_le l hl;rw[hd]at this;exact this
theorem unq_width:∀(f:Nat) (l acc:List UInt8) (i N:Nat),i+l.length=N→(unq f l acc i).2.2=0→(unq f l acc i).2.1≤N
 |0,l,acc,i,N,hN,h=>by
  unfold unq at h ⊢;simp at h ⊢
 |f+1,l,acc,i,N,hN,h=>by
  unfold unq at h ⊢;split
  ·next h1=>rw[if_pos h1]at h;simp at h
  ·next h1 =>
   rw[if_neg h1]at h;have hp:=YK.2 h1;split
   ·next h2 =>
    rw[if_pos h2]at h;split
    ·exact Zy _
    ·dsimp only;omega
   ·next h2 =>
    rw[if_neg h2]at h;split
    ·exact Zy _
    ·next h3 =>
     rw[if_neg h3]at h;have:=one_width l h1 (by simpa using h3);exact unq_width f _ _ _ N (by rw[ZB];omega) h
theorem unquote_width(l:List UInt8)(h:(unquote l).2.2=0):(unquote l).2.1≤l.length:=by
 unfold unquote at h ⊢;split
 ·exact Zy _
 ·next h1 =>
  rw[if_neg h1]at h;split
  ·exact Zy _
  ·next h2 =>
   rw[if_neg h2]at h;have hp:=YK.2 h1;exact unq_width _ _ _ _ l.length (by rw[ZB];omega) h
end Str
namespace AX
theorem cq4{w:World}(g:GT w):Glob w:=⟨g.tabs,g.tz⟩
theorem byh(s:List UInt8)(hs:s.length≤2000000)(h:Hp):AT 168 [.str s] h (.tup [.str (Str.unquote s).1,.int .i64 (Str.unquote s).2.1,.int .i64 (Str.unquote s).2.2]):=
 azs (axv aq8) (fun w hg=>bjf ⟨s.toArray⟩ w (by rw[size_mk];exact hs) (cq4 hg)) (fun C=>rep_tup.2 ⟨_,rfl,repL_cons.2 ⟨_,_,rfl,rep_str.2 rfl,repL_cons.2 ⟨_,_,rfl,rep_int.2 rfl,repL_cons.2 ⟨_,_,rfl,rep_int.2 rfl,repL_nil.2 rfl⟩⟩⟩⟩) h
theorem cwm(s:List UInt8)(hs:s.length≤2000000)(h:Hp):AT 169 [.str s] h (.str (Str.quote s)):=
 azs (axv aq8) (fun w hg=>cxb ⟨s.toArray⟩ w (by rw[size_mk];exact hs) (cq4 hg)) (fun C=>rep_str.2 rfl) h
theorem bk8(s p:List UInt8):(decide (p.length≤s.length)&&s.take p.length==p)=Adr.begins s p:=by
 unfold Adr.begins;rw[Yf,Zak,List.prefix_iff_eq_take,Zc,Zq,ZC];constructor
 ·rintro⟨h1,h2⟩;exact h2.symm
 ·intro h2;exact⟨by have:=congrArg List.length h2;rw[ZT]at this;omega,h2.symm⟩
theorem dzm(r:Adr.Rd)(hl:r.rest.length≤2000000){h:Hp}{i:Nat}(hb:h.b[i]?=some (adB r)) :
  AC 146 [.ptr i 0] h fun v h'=>v=Adr.K.A (Adr.keyP r).1∧h'=⟨h.b.set i (adB (Adr.keyP r).2),h.t⟩:=by
 have key:AC 146 [.ptr 0 0] ⟨[adB r],[]⟩ fun v h'=>∃ b',h'.b[0]?=some b'∧v=Adr.K.A (Adr.keyP r).1∧b'=adB (Adr.keyP r).2:=by
  refine fo ?_;have hh:=fun h hb=>cj3 [91] r (h:=h) (i:=0) hb
  obtain⟨Z,hZ⟩:=Ex (Adr.keyP r);rw[hZ];unfold Adr.keyP at hZ;unfold Adr.hasP at hh;unfold adB at hh ⊢;obtain⟨rest,bad⟩:=r;dsimp only at hl hh hZ;cases bad;rotate_left
  ·rw[if_pos rfl]at hZ;subst hZ;refine azb ti ?_;exact⟨_,le_refl _,_,rfl,rfl,rfl⟩
  rw[if_neg (by decide)]at hZ;refine azb ti ?_;refine use (hh _ rfl) ?_;cases hB:Adr.begins rest [91]
  ·rw[hB,if_pos rfl]at hZ;subst hZ;refine azb ti ?_;exact⟨_,le_refl _,_,rfl,rfl,rfl⟩
  rw[hB,if_neg (by decide)]at hZ;obtain⟨t,ht⟩:=Ex (rest.drop 1);have ht1:rest.drop [91].length=t:=ht;have htl:t.length≤2000000:=by rw[←ht,ZB];omega
  rw[ht]at hZ;have hp:=fun h=>ajv t [34] h
  rw[bk8]at hp;have hu:=fun h=>byh t htl h
  have hsk:=fun(q:Adr.Rd) h hb=>czy [93] q (h:=h) (i:=0) hb
  unfold adB at hsk;refine azb (ai ht1 ht) ?_;refine use (hp _) ?_;cases hQ:Adr.begins t [34]
  ·rw[hQ,if_neg (by decide)]at hZ;refine azb ti ?_;refine use (bjk t _) ?_;have hk:=Adr.indexByte_key t;obtain⟨n,hn,hnle,hix⟩:∃ n:Nat,(if t.all (· != 93)then 0 else(t.takeWhile (· != 93)).length)=n∧n≤t.length∧(Lib.indexByte t 93=(n:Int)∨(Lib.indexByte t 93=-1∧n=0)):=by
    rcases hk with⟨k1,k2⟩|⟨k1,k2,k3⟩
    ·exact⟨0,by rw[if_pos k1],Zy _,.inr ⟨k2,rfl⟩⟩
    ·exact⟨_,by rw[k1,if_neg (by decide)],k3,.inl k2⟩
   rw[hn]at hZ;have hmax:(if(0:Int)>Lib.indexByte t 93 then 0 else Lib.indexByte t 93)=(n:Int):=by
    rcases hix with e|⟨e,e2⟩
    ·rw[e,if_neg (by omega)]
    ·rw[e,e2];rfl
   have htk:(t.take n).length≤2000000:=by rw[ZT];omega
   have hnp:=fun h=>a_numParse (t.take n) htk h
   have l0:(0:Int)≤(n:Int):=by omega
   have l1:(n:Int)≤(t.length:Int):=by omega
   obtain⟨⟨x,e⟩,hx⟩:=Ex (Num.parse (t.take n));rw[hx]at hnp hZ;dsimp only at hnp hZ;refine azb (ai hmax (ai l0 l1)) ?_;refine use (hnp _) ?_;have hbad:=Ex ((e !=0||decide (x<0)));obtain⟨b,hb⟩:=hbad;rw[hb]at hZ;subst hZ;by_cases he:e=0
   ·have e1:(e !=0)=false:=by simp[he]
    rw[e1,Ys]at hb;refine azb (ai e1 (ai hb (ai l0 l1))) ?_;refine use (hsk ⟨t.drop n,b⟩ _ rfl) ?_;refine azb ti ?_;exact⟨_,le_refl _,_,rfl,rfl,rfl⟩
   ·have e1:(e !=0)=true:=by simp[he]
    rw[e1,YT]at hb;subst hb;refine azb (ai e1 (ai l0 l1)) ?_;refine use (hsk ⟨t.drop n,true⟩ _ rfl) ?_;refine azb ti ?_;exact⟨_,le_refl _,_,rfl,rfl,rfl⟩
  ·rw[hQ,if_pos rfl]at hZ;refine azb ti ?_;refine use (hu _) ?_;have hw:=Str.unquote_width t;have hv:=Str.unquote_valid t;obtain⟨⟨us,un,ue⟩,hue⟩:=Ex (Str.unquote t);rw[hue]at hZ hw hv ⊢;dsimp only at hZ hw hv ⊢;by_cases he:ue=0
   rotate_left
   ·have e1:(ue !=0)=true:=by simp[he]
    rw[if_pos (.inl he)]at hZ;subst hZ;refine azb e1 ?_;exact⟨_,le_refl _,_,rfl,rfl,rfl⟩
   have e1:(ue !=0)=false:=by simp[he]
   have hul:us.length≤2000000:=by
    have:=hv he;unfold Str.valid at this;rw[Zc,Zq]at this;omega
   have l1:(un:Int)≤(t.length:Int):=by have:=hw he;omega
   have l0:(0:Int)≤(un:Int):=by omega
   refine azb (ai e1 (ai l0 l1)) ?_;refine use (cwm us hul _) ?_;cases hne:Str.quote us !=t.take un
   ·rw[if_neg (by rintro(h|h);exact h he;rw[bne_eq_false_iff_eq]at hne;exact h hne)]at hZ;subst hZ;refine azb (ai e1 (ai hne (ai l0 l1))) ?_;refine use (hsk ⟨t.drop un,false⟩ _ rfl) ?_;refine azb ti ?_;exact⟨_,le_refl _,_,rfl,rfl,rfl⟩
   ·rw[if_pos (.inr (Zab.1 hne))]at hZ;subst hZ;refine azb (ai e1 (ai hne (ai l0 l1))) ?_;exact⟨_,le_refl _,_,rfl,rfl,rfl⟩
 refine(ACall.lift1 key rfl (axi r) ?_ hb).mono ?_
 ·rintro v b' ⟨rfl,rfl⟩;exact⟨rfl,axi _⟩
 ·rintro v h' ⟨b',⟨rfl,rfl⟩,rfl⟩;exact⟨rfl,rfl⟩
end AX
namespace Adr
theorem has_len(p:List UInt8)(r:Rd):(hasP p r).2.rest.length≤r.rest.length:=by
 unfold hasP;split
 ·rw[ZB];omega
 ·exact Zf _
theorem has_less(p:List UInt8)(r:Rd)(h:begins r.rest p=true):(hasP p r).2.rest.length+p.length=r.rest.length:=by
 have:=begins_len h;unfold hasP;rw[if_pos h];dsimp only;rw[ZB];omega
theorem takeW_len{p:UInt8→Bool}(s:List UInt8):(s.takeWhile p).length≤s.length:=List.Sublist.length_le (List.takeWhile_sublist p)
theorem dropW_len{p:UInt8→Bool}(s:List UInt8):(s.dropWhile p).length≤s.length:=List.Sublist.length_le (List.dropWhile_sublist p)
theorem word_len(r:Rd):(wordP r).2.rest.length≤r.rest.length∧(wordP r).1.length≤r.rest.length:=⟨dropW_len _,takeW_len _⟩
theorem skip_len(p:List UInt8)(r:Rd):(skipP p r).rest.length≤r.rest.length:=by
 unfold skipP;split
 ·dsimp only;rw[ZB];omega
 ·exact Zf _
theorem key_len(r:Rd):(keyP r).2.rest.length≤r.rest.length:=by
 unfold keyP;split
 ·exact Zf _
 ·split
  ·exact Zf _
  ·dsimp only;split
   ·split
    ·dsimp only;rw[ZB];omega
    ·refine Zn (skip_len _ _) ?_;dsimp only;rw[ZB,ZB];omega
   ·refine Zn (skip_len _ _) ?_;dsimp only;rw[ZB,ZB];omega
theorem step_len(r:Rd):(stepP r).2.rest.length≤r.rest.length:=Zn (key_len _) (word_len r).1
end Adr
namespace AX
theorem dzl(r:Adr.Rd)(hl:r.rest.length≤2000000){h:Hp}{i:Nat}(hb:h.b[i]?=some (adB r)) :
  AC 143 [.ptr i 0] h fun v h'=>v=.agg (Adr.stepP r).1.cells∧h'=⟨h.b.set i (adB (Adr.stepP r).2),h.t⟩:=by
 have key:AC 143 [.ptr 0 0] ⟨[adB r],[]⟩ fun v h'=>∃ b',h'.b[0]?=some b'∧v=.agg (Adr.stepP r).1.cells∧b'=adB (Adr.stepP r).2:=by
  refine fo ?_;have hw:=fun h hb=>czd r hl (h:=h) (i:=0) hb
  have hk:=fun h hb=>dzm (Adr.wordP r).2 (Zn (Adr.word_len r).1 hl) (h:=h) (i:=0) hb
  have hS:Adr.stepP r=(⟨(Adr.wordP r).1,(Adr.keyP (Adr.wordP r).2).1⟩,(Adr.keyP (Adr.wordP r).2).2):=rfl;rw[hS];obtain⟨⟨w,r1⟩,h1⟩:=Ex (Adr.wordP r);rw[h1]at hw hk ⊢;dsimp only at hw hk ⊢;obtain⟨⟨⟨kd,kn,ks⟩,r2⟩,h2⟩:=Ex (Adr.keyP r1);rw[h2]at hk ⊢;dsimp only[Adr.K.A]at hk ⊢;unfold adB at hw hk ⊢;refine azb ti ?_;refine use (hw _ rfl) ?_;refine azb ti ?_;refine use (hk _ rfl) ?_;refine azb ti ?_;exact⟨_,le_refl _,_,rfl,rfl,rfl⟩
 refine(ACall.lift1 key rfl (axi r) ?_ hb).mono ?_
 ·rintro v b' ⟨rfl,rfl⟩;exact⟨rfl,axi _⟩
 ·rintro v h' ⟨b',⟨rfl,rfl⟩,rfl⟩;exact⟨rfl,rfl⟩
theorem cqu(s:List UInt8)(hs:s.length≤2000000)(h:Hp):AT 109 [.str s] h (.tup [.agg (Adr.parse s).1.cells,.int .i64 (Adr.parse s).2]):=by
 rw[←Adr.parse_eq];refine pcall ?_ rfl (by simp[A.pure,A.data]) h;refine fo ?_;obtain⟨⟨M,RM⟩,hM⟩:=Ex (Adr.modsP (s.length+1) ⟨s,false⟩ []);obtain⟨F,hF⟩:=Ex (Adr.parseP s);rw[hF];unfold Adr.parseP at hF;rw[hM]at hF;dsimp only at hF;refine azb ti ?_
 refine azf (fun mm ts h=>∃(r:Adr.Rd) (l:List Adr.Step) (W:Nat) (o:Own) (t:List (TypeId×Nat×Nat)),r.rest.length<mm∧mm+l.length=s.length+1∧Adr.modsP mm r l=(M,RM) ∧
  h=⟨[.cells 171 [.sl 0 .nil [],.bool false,.str [],.str [],.int .i64 0,.int .i64 0,.str []],.cells 196 [.str r.rest,.bool r.bad],.cells 171 [.sl W o (l.map Adr.Step.cells),.bool false,.str [],.str [],.int .i64 0,.int .i64 0,.str []]],t⟩ ∧
  Gs 198 4 0 ⟨[],t⟩ (l.map Adr.Step.cells) (.sl W o (l.map Adr.Step.cells))∧ts 2=.ptr 0 0∧ts 3=.int .i64 0∧ts 4=.ptr 1 0∧ts 5=.ptr 2 0) (s.length+1) ?_ ?_
 ·exact⟨⟨s,false⟩,[],0,.nil,[],by dsimp only;omega,by simp,hM,rfl,.inl ⟨rfl,rfl⟩,by(exact ev0 ti),by(exact ev0 ti),by(exact ev0 ti),by(exact ev0 ti)⟩
 rintro mm ts h ⟨r,l,W,o,t,hrm,hml,hmod,rfl,gX,t2,t3,t4,t5⟩;cases mm with
 |zero=>omega
 |succ f =>
 unfold Adr.modsP at hmod;by_cases hgo:r.bad=false∧Adr.begins r.rest Adr.modW=true
 ·rw[if_pos hgo]at hmod;have hmw:Adr.modW=[109,111,100,117,108,101,46]:=rfl;have cH:=fun h hb=>cj3 Adr.modW r (h:=h) (i:=1) hb
  have l1:=Adr.has_less Adr.modW r hgo.2;have hh1:(Adr.hasP Adr.modW r).1=true:=by unfold Adr.hasP;rw[if_pos hgo.2]
  rw[hh1]at cH;have l7:Adr.modW.length=7:=rfl;have hr0:r.bad=false:=hgo.1;obtain⟨r1,hr1⟩:=Ex ((Adr.hasP Adr.modW r).2);rw[hr1]at cH l1 hmod;have cS:=fun h hb=>dzl r1 (by omega) (h:=h) (i:=1) hb
  have l2:=Adr.step_len r1;obtain⟨⟨⟨nm,⟨kd,kn,ks⟩⟩,r2⟩,hr2⟩:=Ex (Adr.stepP r1);rw[hr2]at cS l2 hmod;dsimp only[Adr.Step.cells]at cS l2 hmod;have cK:=fun h hb=>czy [46] r2 (h:=h) (i:=1) hb
  have l3:=Adr.skip_len [46] r2;obtain⟨r3,hr3⟩:=Ex (Adr.skipP [46] r2);rw[hr3]at cK l3 hmod;unfold adB at cH cS cK;rw[hmw]at cH;rw[hr0]at cH;obtain⟨W',o',t',hX,gX',_⟩:=gX.grow 48 [.str nm,.int .i64 kd,.int .i64 kn,.str ks] (by rw[Zj];omega) (by decide);have hcat:l.map Adr.Step.cells++[[.str nm,.int .i64 kd,.int .i64 kn,.str ks]]=(l++[(⟨nm,⟨kd,kn,ks⟩⟩:Adr.Step)]).map Adr.Step.cells:=by rw[Zan];rfl
  rw[hcat]at gX';simp only[hcat]at hX;rw[hr0];refine azb (ai t2 (ai t3 (ai t4 t5))) ?_;refine use (cH _ rfl) ?_;refine azb (ai t2 (ai t3 (ai t4 t5))) ?_;refine use (cS _ rfl) ?_;refine azb (ai t2 (ai t3 (ai t4 (ai t5 hX)))) ?_;refine use (cK _ rfl) ?_;refine azb (ai t2 (ai t3 (ai t4 t5))) ?_;exact⟨f,by omega,r3,l++[(⟨nm,⟨kd,kn,ks⟩⟩:Adr.Step)],W',o',t',by omega,by simp;omega,hmod,rfl,gX',by(exact ev0 t2),by(exact ev0 t3),by(exact ev0 t4),by(exact ev0 t5)⟩
 ·rw[if_neg hgo]at hmod;injection hmod with hm1 hm2;subst hm1;subst hm2;have cD:=fun h hb=>cj3 Adr.dataW r (h:=h) (i:=1) hb
  have l1:=Adr.has_len Adr.dataW r;obtain⟨⟨dt,r1⟩,hr1⟩:=Ex (Adr.hasP Adr.dataW r);rw[hr1]at cD l1 hF;dsimp only at cD l1 hF;have cT:=fun h hb=>czd r1 (by omega) (h:=h) (i:=1) hb
  have l2:=Adr.word_len r1;obtain⟨⟨ty,r2⟩,hr2⟩:=Ex (Adr.wordP r1);rw[hr2]at cT l2 hF;dsimp only at cT l2 hF;have cK:=fun h hb=>czy [46] r2 (h:=h) (i:=1) hb
  have l3:=Adr.skip_len [46] r2;obtain⟨r3,hr3⟩:=Ex (Adr.skipP [46] r2);rw[hr3]at cK l3 hF;have cN:=fun h hb=>czd r3 (by omega) (h:=h) (i:=1) hb
  have l4:=Adr.word_len r3;obtain⟨⟨na,r4⟩,hr4⟩:=Ex (Adr.wordP r3);rw[hr4]at cN l4 hF;dsimp only at cN l4 hF;have cY:=fun h hb=>dzm r4 (by omega) (h:=h) (i:=1) hb
  have l5:=Adr.key_len r4;obtain⟨⟨⟨kd,kn,ks⟩,⟨re,ba⟩⟩,hr5⟩:=Ex (Adr.keyP r4);rw[hr5]at cY l5 hF;dsimp only[Adr.K.A]at cY l5 hF;have ck:=fun h=>ckl ty (by omega) h
  unfold adB at cD cT cK cN cY;have hdw:Adr.dataW=[100,97,116,97,46]:=rfl;rw[hdw]at cD;have start:∀ {G:Prop},(r.bad=true→G)→(r.bad=false→Adr.begins r.rest Adr.modW=false→G)→G:=fun p q=>by
   cases hb:r.bad
   ·refine q hb ?_;cases hB:Adr.begins r.rest Adr.modW
    ·rfl
    ·exact absurd ⟨hb,hB⟩ hgo
   ·exact p hb
  have lx:=Gs.le gX;refine start (fun hb=>?_) (fun hb hB=>?_)
  ·rw[hb]at cD ⊢;refine azb (ai t2 (ai t3 (ai t4 t5))) ?_;refine use (cD _ rfl) ?_;refine azb (ai t2 (ai t3 (ai t4 t5))) ?_;refine use (cT _ rfl) ?_;refine azb (ai t2 (ai t3 (ai t4 t5))) ?_;refine use (cK _ rfl) ?_;refine azb (ai t2 (ai t3 (ai t4 t5))) ?_;refine use (cN _ rfl) ?_;refine azb (ai t2 (ai t3 (ai t4 t5))) ?_;refine use (cY _ rfl) ?_;have zle:leL [.sl 0 .nil [],.bool false,.str [],.str [],.int .i64 0,.int .i64 0,.str []] Adr.Ad.zero.cells:=⟨⟨rfl,.inr rfl,.inl rfl⟩,rfl,rfl,rfl,rfl,rfl,rfl,trivial⟩;cases ba;rotate_left
   ·rw[if_pos (.inl rfl)]at hF;subst hF;refine azb (ai t2 (ai t3 (ai t4 t5))) ?_;exact⟨.tup [.agg Adr.Ad.zero.cells,.int .i64 2],⟨zle,rfl,trivial⟩,rfl⟩
   cases hre:re != [];rotate_left
   ·rw[if_pos (.inr (.inl (Zab.1 hre)))]at hF;subst hF;refine azb (ai t2 (ai t3 (ai t4 (ai t5 hre)))) ?_;exact⟨.tup [.agg Adr.Ad.zero.cells,.int .i64 2],⟨zle,rfl,trivial⟩,rfl⟩
   refine azb (ai t2 (ai t3 (ai t4 (ai t5 hre)))) ?_;refine use (ck _) ?_;cases hkb:Adr.kindB ty
   ·rw[if_pos (.inr (.inr hkb))]at hF;subst hF;refine azb (ai t2 (ai t3 (ai t4 t5))) ?_;exact⟨.tup [.agg Adr.Ad.zero.cells,.int .i64 2],⟨zle,rfl,trivial⟩,rfl⟩
   rw[if_neg (by rintro(h|h|h);cases h;rw[bne_eq_false_iff_eq]at hre;exact h hre;rw[hkb]at h;cases h)]at hF;have lm:(l.map Adr.Step.cells).length=l.length:=Zj ..;by_cases hlen:(l.length:Int)>16
   ·rw[if_pos (by omega)]at hF;subst hF;refine azb (ai t2 (ai t3 (ai t4 (ai t5 (ai lm hlen))))) ?_;exact⟨.tup [.agg Adr.Ad.zero.cells,.int .i64 4],⟨zle,rfl,trivial⟩,rfl⟩
   ·rw[if_neg (by omega)]at hF;subst hF;refine azb (ai t2 (ai t3 (ai t4 (ai t5 (ai lm hlen))))) ?_;exact⟨.tup [.agg (Adr.Ad.cells ⟨l,dt,ty,na,⟨kd,kn,ks⟩⟩),.int .i64 0],⟨⟨lx,rfl,rfl,rfl,rfl,rfl,rfl,trivial⟩,rfl,trivial⟩,rfl⟩
  ·rw[hb]at cD ⊢;have cH:=fun h hb=>cj3 Adr.modW r (h:=h) (i:=1) hb
   have hh1:Adr.hasP Adr.modW r=(false,r):=by unfold Adr.hasP;rw[hB,if_neg (by decide)]
   have hmw:Adr.modW=[109,111,100,117,108,101,46]:=rfl;rw[hh1,hmw]at cH;unfold adB at cH;rw[hb]at cH;refine azb (ai t2 (ai t3 (ai t4 t5))) ?_;refine use (cH _ rfl) ?_;refine azb (ai t2 (ai t3 (ai t4 t5))) ?_;refine use (cD _ rfl) ?_;refine azb (ai t2 (ai t3 (ai t4 t5))) ?_;refine use (cT _ rfl) ?_;refine azb (ai t2 (ai t3 (ai t4 t5))) ?_;refine use (cK _ rfl) ?_;refine azb (ai t2 (ai t3 (ai t4 t5))) ?_;refine use (cN _ rfl) ?_;refine azb (ai t2 (ai t3 (ai t4 t5))) ?_;refine use (cY _ rfl) ?_;have zle:leL [.sl 0 .nil [],.bool false,.str [],.str [],.int .i64 0,.int .i64 0,.str []] Adr.Ad.zero.cells:=⟨⟨rfl,.inr rfl,.inl rfl⟩,rfl,rfl,rfl,rfl,rfl,rfl,trivial⟩;cases ba;rotate_left
   ·rw[if_pos (.inl rfl)]at hF;subst hF;refine azb (ai t2 (ai t3 (ai t4 t5))) ?_;exact⟨.tup [.agg Adr.Ad.zero.cells,.int .i64 2],⟨zle,rfl,trivial⟩,rfl⟩
   cases hre:re != [];rotate_left
   ·rw[if_pos (.inr (.inl (Zab.1 hre)))]at hF;subst hF;refine azb (ai t2 (ai t3 (ai t4 (ai t5 hre)))) ?_;exact⟨.tup [.agg Adr.Ad.zero.cells,.int .i64 2],⟨zle,rfl,trivial⟩,rfl⟩
   refine azb (ai t2 (ai t3 (ai t4 (ai t5 hre)))) ?_;refine use (ck _) ?_;cases hkb:Adr.kindB ty
   ·rw[if_pos (.inr (.inr hkb))]at hF;subst hF;refine azb (ai t2 (ai t3 (ai t4 t5))) ?_;exact⟨.tup [.agg Adr.Ad.zero.cells,.int .i64 2],⟨zle,rfl,trivial⟩,rfl⟩
   rw[if_neg (by rintro(h|h|h);cases h;rw[bne_eq_false_iff_eq]at hre;exact h hre;rw[hkb]at h;cases h)]at hF;have lm:(l.map Adr.Step.cells).length=l.length:=Zj ..;by_cases hlen:(l.length:Int)>16
   ·rw[if_pos (by omega)]at hF;subst hF;refine azb (ai t2 (ai t3 (ai t4 (ai t5 (ai lm hlen))))) ?_;exact⟨.tup [.agg Adr.Ad.zero.cells,.int .i64 4],⟨zle,rfl,trivial⟩,rfl⟩
   ·rw[if_neg (by omega)]at hF;subst hF;refine azb (ai t2 (ai t3 (ai t4 (ai t5 (ai lm hlen))))) ?_;exact⟨.tup [.agg (Adr.Ad.cells ⟨l,dt,ty,na,⟨kd,kn,ks⟩⟩),.int .i64 0],⟨⟨lx,rfl,rfl,rfl,rfl,rfl,rfl,trivial⟩,rfl,trivial⟩,rfl⟩
section
variable {P:Program} {G:World→Prop} {C:Ctx} {h:Hp}
def Fz1(h:Hp)(x y:A):Prop:=(x=y∧x.data=true)∨∃ i W T rows,x=.bs i W rows.length∧h.b[i]?=some (.row T rows.flatten)∧y=.sl W .no rows∧(∀ r∈rows,r.length=W)∧rows.flatten.all A.data=true
def FzL(h:Hp):List A→List A→Prop
 |[],[]=>True
 |x::l,y::m=>Fz1 h x y∧FzL h l m
 |_,_=>False
theorem FzL.data{h:Hp}:∀ {l m:List A},FzL h l m→m.all A.data=true
 |[],[],_=>rfl
 |x::l,y::m,hf=>by
  rw[ZE,Zc];refine⟨?_,FzL.data hf.2⟩;rcases hf.1 with⟨rfl,hd⟩|⟨i,W,T,rows,_,_,rfl,_,_⟩
  ·exact hd
  ·rfl
 |[],_::_,hf=>hf.elim
 |_::_,[],hf=>hf.elim
theorem pcallz{f:FuncId}{args:List A}{ys:List A}(hc:ACall P G f args ⟨[],[]⟩ fun v h'=>∃ xs,v=.agg xs∧FzL h' xs ys)(ha:args.all A.pure=true)(h:Hp):ACall P G f args h fun v h'=>v=.agg ys∧h'=h:=by
 intro C cs hI hr;have hid:Inv G C.hid ⟨[],[]⟩:=by
  refine⟨rfl,fun i b hb=>by simp at hb,fun i hi=>by simp[Ctx.hid]at hi,fun g i hg=>by simp[Ctx.hid]at hg,fun g j hs=>?_,fun t E W m ht=>by simp[Ctx.hid]at ht,fun t t' ht=>by simp[Ctx.hid]at ht,fun t=>by simp[Ctx.hid],hI.base,hI.glob⟩;exact⟨(hI.prot g j hs).1,rfl,fun t E W m ht=>by simp[Ctx.hid]at ht⟩
 refine(hc C.hid cs hid (RepL.pures (C:=C) (C':=C.hid) ⟨fun g j hs=>⟨hs,rfl⟩⟩ args cs ha hr)).mono ?_;rintro e w' ⟨C1,h1,v,cv,rfl,rfl,I1,S1,r1,xs,rfl,hf⟩;have hblk:∀ g,g<C.w.heap.size→C1.w.heap[g]?=C.w.heap[g]?:=fun g hg=>S1.frame g hg rfl fun t ht=>by simp[Ctx.hid]at ht
 have hnew:∀ g i,C1.own g=some i→C.w.heap.size≤g:=fun g i hg=>by
  rcases Z4 g C.w.heap.size with hlt|hge
  ·have:=S1.own g hlt;rw[hg]at this;simp[Ctx.hid]at this
  ·exact hge
 let C2:Ctx:={ C with w:=C1.w,S:=fun g j=>C1.S g j∨((C1.own g).isSome=true),own:=fun g=>if g<C.w.heap.size then C.own g else none }
 have hsz:C.w.heap.size≤C1.w.heap.size:=S1.size;have he:Ext C C2:=by
  refine⟨fun g j hs=>?_,Zf _,fun _ _=>rfl,fun t E W m ht=>?_⟩
  ·obtain⟨k1,k2⟩:=S1.ext.cells g j hs;exact⟨.inl k1,k2⟩
  ·obtain⟨_,_,cap,h2,_⟩:=hI.rows t E W m ht;exact⟨m,ht,.inr ⟨rfl,rfl,fun cap hc=>hc.same (hblk _ h2.lt)⟩⟩
 have hown:∀ g i,C2.own g=some i↔C.own g=some i:=fun g i=>by
  show(if g<C.w.heap.size then C.own g else none)=some i↔_
  split
  ·exact Iff.rfl
  ·next hg=>exact⟨fun e=>(by cases e),fun e=>absurd (hI.ownlt g i e).2.1 hg⟩
 have hprot:∀ g j,C2.S g j→C.S g j∨C.w.heap.size≤g:=fun g j hs=>by
  rcases hs with hs|hs
  ·rcases S1.prot g j hs with h2|h2|⟨t,h2,_⟩
   ·exact .inl h2
   ·exact .inr h2
   ·simp[Ctx.hid]at h2
  ·obtain⟨i,hi⟩:=Option.isSome_iff_exists.1 hs;exact .inr (hnew g i hi)
 have hSlt:∀ g j,C2.S g j→g<C1.w.heap.size:=fun g j hs=>by
  rcases hs with hs|hs
  ·exact(I1.prot g j hs).1
  ·obtain⟨i,hi⟩:=Option.isSome_iff_exists.1 hs;exact(I1.ownlt g i hi).2.1
 have hsame:Same C1 C2:=⟨fun g j hs=>⟨.inl hs,rfl⟩⟩;have frz:∀(xs ys:List A) (vs:List Value),FzL h1 xs ys→RepL C1 xs vs→RepL C2 ys vs:=by
  intro xs;induction xs with
  |nil =>
   intro ys vs hf hr;cases ys with
   |nil=>exact hr
   |cons y ys=>exact hf.elim
  |cons x xs ih =>
   intro ys vs hf hr;cases ys with
   |nil=>exact hf.elim
   |cons y ys =>
    obtain⟨c,cs',rfl,k1,k2⟩:=repL_cons.1 hr;refine repL_cons.2 ⟨c,cs',rfl,?_,ih ys cs' hf.2 k2⟩;rcases hf.1 with⟨rfl,hd⟩|⟨i,W,T,rows,rfl,hb,rfl,hW,hd⟩
    ·exact Rep.same hsame _ _ hd k1
    ·obtain⟨cap,rfl,hcap,hi⟩:=rep_bs.1 k1;obtain⟨ds,rest,q1,q2⟩:=I1.box i _ hb;have hsd:(C1.own (C1.κ i)).isSome=true:=by rw[I1.ownk i hi];rfl
     have hdd:∀(l:List A) (ds:List Value),l.all A.data=true→RepL C1 l ds→RepL C2 l ds:=fun l ds hd hr=>RepL.same hsame l ds hd hr
     refine rep_sl.2 ⟨_,cap,rfl,hcap,aqm rows ds 0 hW hd (hdd _ _ hd q2) (fun j _ => .inr hsd) (fun j u hu=>?_),trivial⟩;have q1':C2.w.heap[C1.κ i]?=some (.cells (ds++rest).toArray T (0,0)):=q1;rw[cell_of_row _ _ _ _ _ _ q1'];have hj:j<ds.length:=(Zd.1 hu).1;simp only[List.getElem?_toArray];rw[show 0+0*W+j=j by omega,ZV hj];exact hu
 refine⟨C2,h,.agg ys,cv,rfl,rfl,⟨hI.nb,fun i b hib=>?_,fun i hi=>(hown _ _).2 (hI.ownk i hi),fun g i hg=>?_,fun g j hs=>?_,fun t E W m ht=>?_,hI.inj,hI.toks,Zn hI.base hsz,fun w2 hw=>?_⟩,⟨he,S1.os,S1.tape,S1.output,hsz,rfl,fun g hg _ _=>hblk g hg,fun g hg=>?_,fun g j hs=>?_,fun t ht => .inr ⟨ht,rfl⟩⟩,?_,rfl,rfl⟩
 ·have hi:i<C.nb:=by rw[←hI.nb];exact(Zd.1 hib).1
  exact(hI.box i b hib).ext he hi (hI.ownk i hi) (fun g j hg=>(hI.ownlt g j hg).2.1) (fun g hg=>hblk g (hI.ownlt g i hg).2.1) (fun g=>hown g i) hsz
 ·obtain⟨k1,k2,k3⟩:=hI.ownlt g i ((hown g i).1 hg);exact⟨k1,ZL k2 hsz,k3⟩
 ·have hlt:=hSlt g j hs;rcases hprot g j hs with h2|h2
  ·obtain⟨k1,k2,k3⟩:=hI.prot g j h2;exact⟨hlt,by show(if g<C.w.heap.size then C.own g else none)=none;rw[if_pos k1,k2],k3⟩
  ·refine⟨hlt,by show(if g<C.w.heap.size then C.own g else none)=none;rw[if_neg (by omega)],fun t E W m ht e=>?_⟩;obtain⟨_,_,cap,k1,_⟩:=hI.rows t E W m ht;have:=k1.lt;have e':C.τ t=g:=e;omega
 ·obtain⟨k1,k2,cap,k3,k4⟩:=hI.rows t E W m ht;exact⟨by show(if C.τ t<C.w.heap.size then C.own (C.τ t)else none)=none;rw[if_pos k3.lt,k1],k2,cap,k3.same (hblk _ k3.lt),k4⟩
 ·exact hI.glob w2 fun g hg=>(hw g hg).trans (hblk g (ZL hg hI.base))
 ·show(if g<C.w.heap.size then C.own g else none)=C.own g
  rw[if_pos hg]
 ·rcases hprot g j hs with h2|h2
  ·exact .inl h2
  ·exact .inr (.inl h2)
 ·obtain⟨vs,rfl,hl⟩:=rep_agg.1 r1;exact rep_agg.2 ⟨vs,rfl,frz xs ys vs hf hl⟩
end
end AX
end Go.Proofs.YtdgcbckcameggadGreatDoor

namespace Go.Proofs.YtdgcbckcameggadGreatDoor
open Go.RowKit
set_option maxRecDepth 100000 in
theorem bj9(b off n c:Nat)(news:List Value)(w:World)(hl:news.length=n*4)(hn:0<n)(hbig:n*48≤140737488355328)(hmax:n≤maxLen)(hc:∀ j v,news[j]?=some v→w.cell? ((⟨b,off,none⟩:Addr).add j)=some v)(h1:∀ u∈news,u.oneCell'=true) :
  Calls Tryz.prog 181 #[.slice (some ⟨b,off,none⟩) n c] w fun e w'=>∃ v',e=.returned v'∧w'.ownsRow w.heap.size 198 4 v' n news∧Below w.heap.size w w':=by
 obtain⟨i0,hi,hz0,hz1,hz2⟩:=info_parts (show(Tryz.prog.info? 198).map (fun i=>(i.zero,i.size,i.bytes))=some (some (.agg #[.string ⟨#[]⟩,.int .i64 0,.int .i64 0,.string ⟨#[]⟩]),4,48) by kernel_rfl);have q22:∀(w:World) (a:Option Addr) (n c n' c':Nat),(binOp .eql 166 (.slice a n c) (.slice none n' c')).run Tryz.prog w=.ok (.bool a.isNone) w:=fun w a n c n' c'=>Lib.run_eql_slice_nil w _ _ a n c n' c' Tryz.underlying166
 have u22:∀ w,Sem.run Tryz.prog (underlying 166) w=.ok (TypeDesc.slice 198) w:=run_underlying Tryz.underlying166;have HC:=kept hc;have H1:=kept h1;clear hc h1;go_enter Tryz.func181,Tryz.ntmps181;go_wp2_with (at_builtin;refine wpList_append_own _ rfl _ _ 166 rfl w.heap.size 198 i0 (.agg #[.string ⟨#[]⟩,.int .i64 0,.int .i64 0,.string ⟨#[]⟩]) 4 48 Tryz.underlying166 hi hz0 hz1 hz2 rfl (by decide) _ _ _ rfl (World.ownsRow_made w #[] 0 (Zf _) (Zy _) rfl) ⟨b,off,none⟩ n c news rfl ?qc1 ?qc2 ?qc3 ?qc4 ?qc5 ?qc6 ?_)
 case qc1=>exact hl
 case qc2 =>
  intro j u hj;have:=HC.out j u hj;rw[Addr.add_lit]at this ⊢;exact Lib.cell?_alloc_some _ this
 case qc3=>exact H1.out
 case qc4=>omega
 case qc5=>omega
 case qc6=>simp
 intro v' w1 hown hgrow hnil;have Hb:=kept (((Below.refl _ w).alloc (Zf _) (.cells #[] 198)).grown hgrow (by simp) (by intro k hk;simp[Value.ownBlock]at hk;omega));have Ho:=kept (show w1.ownsRow w.heap.size 198 4 v' n news by simpa using hown);clear hown hgrow hnil HC H1;go_wp2
 go_ret
 exact⟨v',rfl,Ho.out,Hb.out⟩
theorem bx2(a:Option Addr)(c:Nat)(w:World) :
  Calls Tryz.prog 181 #[.slice a 0 c] w fun e w'=>(∃ a' c',e=.returned (.slice a' 0 c'))∧Below w.heap.size w w':=by
 have q22:∀(w:World) (a:Option Addr) (n c n' c':Nat),(binOp .eql 166 (.slice a n c) (.slice none n' c')).run Tryz.prog w=.ok (.bool a.isNone) w:=fun w a n c n' c'=>Lib.run_eql_slice_nil w _ _ a n c n' c' Tryz.underlying166
 have u22:∀ w,Sem.run Tryz.prog (underlying 166) w=.ok (TypeDesc.slice 198) w:=run_underlying Tryz.underlying166;cases a with
 |none =>
  go_enter Tryz.func181,Tryz.ntmps181;go_wp2
  go_ret
  exact⟨⟨_,_,rfl⟩,Below.refl _ _⟩
 |some ad =>
  obtain⟨i0,hi,hz0,hz1,hz2⟩:=info_parts (show(Tryz.prog.info? 198).map (fun i=>(i.zero,i.size,i.bytes))=some (some (.agg #[.string ⟨#[]⟩,.int .i64 0,.int .i64 0,.string ⟨#[]⟩]),4,48) by kernel_rfl);go_enter Tryz.func181,Tryz.ntmps181;go_wp2_with (at_builtin;refine wpList_append_own _ rfl _ _ 166 rfl w.heap.size 198 i0 (.agg #[.string ⟨#[]⟩,.int .i64 0,.int .i64 0,.string ⟨#[]⟩]) 4 48 Tryz.underlying166 hi hz0 hz1 hz2 rfl (by decide) _ _ _ rfl (World.ownsRow_made w #[] 0 (Zf _) (Zy _) rfl) ad 0 c [] rfl rfl (by intro j u hj;simp at hj) (by intro u hu;cases hu) (by unfold maxLen;omega) (by omega) (by simp) ?_);intro v' w1 hown hgrow hnil;have Hb:=kept (((Below.refl _ w).alloc (Zf _) (.cells #[] 198)).grown hgrow (by simp) (by intro k hk;simp[Value.ownBlock]at hk;omega));have Hv:∃ a' c',v'=.slice a' 0 c':=by
   rcases hown.2 with⟨rfl,_⟩|⟨g,cap,cur,rfl,_⟩
   ·exact⟨_,_,rfl⟩
   ·exact⟨_,_,rfl⟩
  obtain⟨a',c',rfl⟩:=Hv;clear hown hgrow hnil;go_wp2
  go_ret
  exact⟨⟨_,_,rfl⟩,Hb.out⟩
namespace AX
theorem awy(W0:Nat)(o:Own)(h:Hp):AT 181 [.sl W0 o []] h (.sl 4 .no []):=by
 intro C es hI ha;obtain⟨c,es',rfl,h1,h2⟩:=repL_cons.1 ha;rw[repL_nil]at h2;subst h2;obtain⟨a,cap,rfl,_,_,_⟩:=rep_sl.1 h1;refine(bx2 a cap C.w).mono ?_;rintro e w' ⟨⟨a',c',rfl⟩,hb⟩;obtain⟨i1,s1⟩:=aq7 hI hb;exact⟨C.at w',h,.sl 4 .no [],_,rfl,rfl,i1,s1,rep_sl.2 ⟨a',c',rfl,Zy _,by unfold RepRows;trivial,trivial⟩,rfl,rfl⟩
theorem bzd(o:Own)(rows:List (List A))(h0:rows≠[])(hbig:rows.length*48≤140737488355328)(hmax:rows.length≤maxLen)(h:Hp) :
  AC 181 [.sl 4 o rows] h fun v h'=>v=.bs h.b.length 4 rows.length∧h'=⟨h.b++[.row 198 rows.flatten],h.t⟩:=by
 intro C es hI ha;obtain⟨c,es',rfl,h1,h2⟩:=repL_cons.1 ha;rw[repL_nil]at h2;subst h2;have hpos:0<rows.length:=YK.2 h0;obtain⟨g,off,cap,cs,rfl,k1,k2,k3,k4,k5⟩:=bvd h1 hpos;refine(bj9 g off rows.length cap cs C.w k2 hpos hbig hmax k5 (avc k1 (ay1 k3))).mono ?_;rintro e w' ⟨v',rfl,hown,hb⟩;rcases hown.2 with⟨_,hz⟩|⟨g',cap',cur,rfl,hg,hh,hcap,_,hcs,htake⟩
 ·omega
 ·have hcur:cur=(cs++cur.toList.drop (rows.length*4)).toArray:=by
   apply Yz.1;rw[←htake];simp
  rw[hcur]at hh;obtain⟨C',m1,m2,m3,m4,m5⟩:=byy hI hb hg hh k1;exact⟨C',_,.bs h.b.length 4 rows.length,_,rfl,m1,m2,m3,rep_bs.2 ⟨cap',by rw[m4],hcap,m5⟩,rfl,rfl⟩
end AX
namespace AX
theorem setCells_eq:∀(xs l:List A) (off:Nat),off+xs.length≤l.length→setCells l off xs=l.take off++xs++l.drop (off+xs.length):=by
 intro xs;induction xs with
 |nil=>intro l off _;simp[setCells]
 |cons x xs ih =>
  intro l off hlt;rw[Zh]at hlt;rw[setCells,ih _ _ (by simp;omega),List.take_add_one,Y9 (by omega),List.take_set_of_le (Zf _),List.drop_set_of_lt (by omega)];simp[show off+1+xs.length=off+(xs.length+1) by omega]
def bareS(s:Adr.Step):Adr.Step:=⟨s.name,Adr.K.none⟩
def barL(mods:List Adr.Step)(j:Nat):List A:=(((mods.take j).map bareS).map Adr.Step.cells).flatten++((mods.drop j).map Adr.Step.cells).flatten
theorem ak2(l:List Adr.Step):((l.map Adr.Step.cells).flatten).length=l.length*4:=by
 induction l with
 |nil=>rfl
 |cons x l ih=>rw[ZH,YP,Za,ih];simp[Adr.Step.cells];omega
theorem bkn(mods:List Adr.Step)(j:Nat)(hj:j≤mods.length):(barL mods j).length=mods.length*4:=by
 unfold barL;rw[Za,ak2,ak2,Zj,ZT,ZB,←YU];congr 1;omega
theorem cjt(mods:List Adr.Step)(j:Nat)(hj:j<mods.length):setCells (barL mods j) (j*4+1) [.int .i64 0,.int .i64 0,.str []]=barL mods (j+1):=by
 rw[setCells_eq _ _ _ (by rw[bkn _ _ (by omega)];simp;omega)];have hp:((((mods.take j).map bareS).map Adr.Step.cells).flatten).length=j*4:=by
  rw[ak2,Zj,ZT];congr 1;omega
 have hd:mods.drop j=mods[j]::mods.drop (j+1):=Zo hj;have ht:mods.take (j+1)=mods.take j++[mods[j]]:=by rw[ZW hj]
 unfold barL;rw[hd,ht,Zan,Zan,List.flatten_append];generalize (((mods.take j).map bareS).map Adr.Step.cells).flatten=p at hp;obtain⟨nm,⟨kd,kn,ks⟩⟩:=mods[j];simp only[ZH,YP,Adr.Step.cells,Zl,Zi,Zh,ZA];generalize ((mods.drop (j+1)).map Adr.Step.cells).flatten=q;rw[List.take_append,ZJ (by omega),List.drop_append,Zw (by omega),hp];rw[show j*4+1-j*4=1 by omega,show j*4+1+(0+1+1+1)-j*4=4 by omega];simp[bareS,Adr.K.none,Adr.Step.cells]
theorem czf(a:Adr.Ad)(hn:a.mods.length≤3000000)(h:Hp):AT 164 [.agg a.cells] h (.agg (Adr.bare a).cells):=by
 obtain⟨mods,data,ty,nm,⟨kk,kn,ks⟩⟩:=a;dsimp only at hn;have hbc:(Adr.bare ⟨mods,data,ty,nm,⟨kk,kn,ks⟩⟩).cells=[.sl 4 .no ((mods.map fun s=>(⟨s.name,Adr.K.none⟩:Adr.Step)).map Adr.Step.cells),.bool data,.str ty,.str nm,.int .i64 0,.int .i64 0,.str []]:=rfl;rw[hbc];refine pcallz ?_ (by simp[A.pure,A.data,Adr.Ad.cells]) h;refine fo ?_;dsimp only[Adr.Ad.cells];by_cases hm:mods=[]
 ·subst hm;have hc:=fun h=>awy 4 .no h
  have hz:¬(0:Int)<((0:Nat):Int):=by decide
  simp only[Yn];refine azb ti ?_;refine use (hc _) ?_;refine azb ti ?_;refine cqd ?_;refine azb hz ?_;exact⟨_,le_refl _,_,rfl,⟨.inl ⟨rfl,rfl⟩,.inl ⟨rfl,rfl⟩,.inl ⟨rfl,rfl⟩,.inl ⟨rfl,rfl⟩,.inl ⟨rfl,rfl⟩,.inl ⟨rfl,rfl⟩,.inl ⟨rfl,rfl⟩,trivial⟩⟩
 ·have hrne:mods.map Adr.Step.cells≠[]:=by simpa using hm
  have lm:(mods.map Adr.Step.cells).length=mods.length:=Zj ..;have hc:=fun h=>bzd .no (mods.map Adr.Step.cells) hrne (by rw[lm];omega) (by rw[lm];unfold maxLen;omega) h
  rw[lm]at hc;refine azb ti ?_;refine use (hc _) ?_;refine azb ti ?_;have hL0:(mods.map Adr.Step.cells).flatten=barL mods 0:=by unfold barL;simp
  rw[hL0];refine azf (fun mm ts h=>∃(j:Nat) (B0:Blk),mm=mods.length-j∧j≤mods.length∧h=⟨[B0,.cells 171 [.sl 0 .nil [],.bool false,.str [],.str [],.int .i64 0,.int .i64 0,.str []],.cells 171 [.bs 3 4 mods.length,.bool data,.str ty,.str nm,.int .i64 0,.int .i64 0,.str []],.row 198 (barL mods j)],[]⟩∧ts 2=.ptr 1 0∧ts 3=.ptr 2 0∧ts 14=.int .i64 (mods.length:Nat)∧ts 15=.int .i64 (j:Nat)) mods.length ?_ ?_
  ·exact⟨0,_,by omega,by omega,rfl,by(exact ev0 ti),by(exact ev0 ti),by(exact ev0 ti),by(exact azq ti)⟩
  rintro mm ts h ⟨j,B0,rfl,hjc,rfl,t2,t3,t14,t15⟩;by_cases hj:j<mods.length
  ·have hlt:(j:Int)<(mods.length:Int):=by omega
   have hj0:(0:Int)≤(j:Int):=by omega
   have ei:IntKind.i64.wrap ((j:Int)+1)=((j+1:Nat):Int):=by rw[wrap64 (by omega) (by omega)];omega
   have hset:=cjt mods j hj;have hln:j*4+1+3≤(barL mods j).length:=by rw[bkn _ _ (by omega)];omega
   simp only[setCells]at hset;refine azb (ai t2 (ai t3 (ai t14 (ai t15 (ai hlt (ai hj0 (ai hln (ai hset ei)))))))) ?_;exact⟨mods.length-(j+1),by omega,j+1,B0,rfl,by omega,rfl,by(exact ev0 t2),by(exact ev0 t3),by(exact ev0 t14),by(exact ev0 ei)⟩
  ·have hlt:¬((j:Int)<(mods.length:Int)):=by omega
   have hje:j=mods.length:=by omega
   subst hje;refine azb (ai t2 (ai t3 (ai t14 (ai t15 hlt)))) ?_;refine⟨_,le_refl _,_,rfl,⟨.inr ⟨3,4,198,(mods.map bareS).map Adr.Step.cells,by simp,?_,rfl,?_,?_⟩,.inl ⟨rfl,rfl⟩,.inl ⟨rfl,rfl⟩,.inl ⟨rfl,rfl⟩,.inl ⟨rfl,rfl⟩,.inl ⟨rfl,rfl⟩,.inl ⟨rfl,rfl⟩,trivial⟩⟩
   ·show some (Blk.row _ _)=some _
    congr 2;unfold barL;simp
   ·intro r hr;obtain⟨s,_,rfl⟩:=Zaa.1 hr;rfl
   ·rw[List.all_flatten,ZF];intro r hr;obtain⟨s,_,rfl⟩:=Zaa.1 hr;rfl
structure Adr.In(a:Adr.Ad):Prop where
 n:a.mods.length≤3000000
 m:∀ s∈a.mods,s.name.length≤2000000∧s.key.str.length≤2000000
 t:a.type.length≤2000000
 nm:a.name.length≤2000000
 k:a.key.str.length≤2000000
theorem cx8(a:Adr.Ad)(hi:Adr.In a)(h:Hp):AT 179 [.agg a.cells] h (.int .i64 (Adr.check a)):=by
 obtain⟨mods,data,ty,nm,⟨kk,kn,ks⟩⟩:=a;obtain⟨hn,hm,ht,ha,hk⟩:=hi;dsimp only at hn hm ht ha hk;refine pcall ?_ rfl (by simp[A.pure,A.data,Adr.Ad.cells]) h;refine fo ?_;dsimp only[Adr.Ad.cells];have lm:(mods.map Adr.Step.cells).length=mods.length:=Zj ..;obtain⟨Z,hZ⟩:=Ex (Adr.check ⟨mods,data,ty,nm,⟨kk,kn,ks⟩⟩);rw[hZ];unfold Adr.check at hZ;dsimp only at hZ;by_cases h16:(mods.length:Int)>16
 ·rw[if_pos (by omega)]at hZ;subst hZ;refine azb (ai lm h16) ?_;exact⟨_,le_refl _,rfl⟩
 rw[if_neg (by omega)]at hZ;have ck:=fun h=>ckl ty ht h
 have ci:=fun h=>ak3 nm ha h
 have cv:=fun h=>ay5 ⟨kk,kn,ks⟩ hk h
 unfold Adr.K.A at cv;dsimp only at cv;refine azb (ai lm h16) ?_
 refine azf (fun mm ts h=>∃(j:Nat) (l:List Blk),mm=mods.length-j∧j≤mods.length∧h=⟨.cells 171 [.sl 4 .no (mods.map Adr.Step.cells),.bool data,.str ty,.str nm,.int .i64 kk,.int .i64 kn,.str ks]::l,[]⟩ ∧
  (match (mods.drop j).find? (fun s=>!(Adr.ident s.name&&Adr.keyOk s.key))with
  |some s=>if Adr.ident s.name then(1:Int)else 7
  |none=>if !Adr.kindB ty||!Adr.ident nm then 7 else if !Adr.keyOk ⟨kk,kn,ks⟩then 1 else 0)=Z ∧
  ts 1=.ptr 0 0∧ts 10=.sl 4 .no (mods.map Adr.Step.cells)∧ts 11=.int .i64 (mods.length:Nat)∧ts 12=.int .i64 (j:Nat)) mods.length ?_ ?_
 ·exact⟨0,[],by omega,by omega,rfl,hZ,by(exact ev0 ti),by(exact ev0 ti),by(exact ev0 lm),by(exact azq ti)⟩
 rintro mm ts h ⟨j,l,rfl,hjc,rfl,hit,t1,t10,t11,t12⟩;by_cases hj:j<mods.length
 ·have hlt:(j:Int)<(mods.length:Int):=by omega
  have hlt':(j:Int)<((mods.map Adr.Step.cells).length:Int):=by rw[lm];exact hlt
  have hj0:(0:Int)≤(j:Int):=by omega
  have ei:IntKind.i64.wrap ((j:Int)+1)=((j+1:Nat):Int):=by rw[wrap64 (by omega) (by omega)];omega
  have hg:=az0 Adr.Step.cells mods j hj;have hmj:=hm _ (Zp hj);rw[Zo hj,List.find?_cons]at hit;obtain⟨x,hx⟩:=Ex (mods[j]);rw[hx]at hg hmj hit;obtain⟨xn,⟨xk,xm,xs⟩⟩:=x;dsimp only[Adr.Step.cells]at hg hmj hit;have cxi:=fun h=>ak3 xn hmj.1 h
  have cxv:=fun h=>ay5 ⟨xk,xm,xs⟩ hmj.2 h
  unfold Adr.K.A at cxv;dsimp only at cxv;obtain⟨I,hI⟩:=Ex (Adr.ident xn);obtain⟨K,hK⟩:=Ex (Adr.keyOk ⟨xk,xm,xs⟩);rw[hI]at cxi hit;rw[hK]at cxv hit;refine azb (ai t1 (ai t10 (ai t11 (ai t12 (ai hlt (ai hlt' (ai hj0 hg))))))) ?_;refine use (cxi _) ?_;cases I
  ·simp only[Yb,ZM]at hit;rw[hI]at hit;simp only[Zk,if_false]at hit;subst hit;refine azb (ai t1 (ai t10 (ai t11 t12))) ?_;exact⟨_,le_refl _,rfl⟩
  refine azb (ai t1 (ai t10 (ai t11 t12))) ?_;refine use (cxv _) ?_;cases K
  ·simp only[Y6,ZM]at hit;rw[hI]at hit;simp only[if_true]at hit;subst hit;refine azb (ai t1 (ai t10 (ai t11 t12))) ?_;exact⟨_,le_refl _,rfl⟩
  ·simp only[Z0,ZR]at hit;refine azb (ai t1 (ai t10 (ai t11 (ai t12 ei)))) ?_;exact⟨mods.length-(j+1),by omega,j+1,_,rfl,by omega,rfl,hit,by(exact ev0 t1),by(exact ev0 t10),by(exact ev0 t11),by(exact ev0 ei)⟩
 ·have hlt:¬((j:Int)<(mods.length:Int)):=by omega
  rw[Y1 (by omega)]at hit;simp only[List.find?_nil]at hit;refine azb (ai t1 (ai t10 (ai t11 (ai t12 hlt)))) ?_;refine use (ck _) ?_;cases hkb:Adr.kindB ty
  ·rw[hkb]at hit;rw[if_pos (by simp)]at hit;subst hit;refine azb (ai t1 (ai t10 (ai t11 t12))) ?_;exact⟨_,le_refl _,rfl⟩
  rw[hkb]at hit;refine azb (ai t1 (ai t10 (ai t11 t12))) ?_;refine use (ci _) ?_;cases hib:Adr.ident nm
  ·rw[hib]at hit;rw[if_pos (by simp)]at hit;subst hit;refine azb (ai t1 (ai t10 (ai t11 t12))) ?_;exact⟨_,le_refl _,rfl⟩
  rw[hib]at hit;rw[if_neg (by simp)]at hit;refine azb (ai t1 (ai t10 (ai t11 t12))) ?_;refine use (cv _) ?_;cases hvb:Adr.keyOk ⟨kk,kn,ks⟩
  ·rw[hvb]at hit;rw[if_pos (by simp)]at hit;subst hit;refine azb (ai t1 (ai t10 (ai t11 t12))) ?_;exact⟨_,le_refl _,rfl⟩
  ·rw[hvb]at hit;rw[if_neg (by simp)]at hit;subst hit;refine azb (ai t1 (ai t10 (ai t11 t12))) ?_;exact⟨_,le_refl _,rfl⟩
theorem bq3(h:Hp):AT 180 [.agg [.int .i64 0,.int .i64 0,.str []]] h (.str []):=by
 refine pcall ?_ rfl (by simp[A.pure,A.data]) h;refine fo ?_;have cv:=fun h=>ay5 Adr.K.none (by unfold Adr.K.none;simp) h
 have e1:Adr.keyOk Adr.K.none=true:=by decide
 rw[e1]at cv;unfold Adr.K.A Adr.K.none at cv;dsimp only at cv;refine azb ti ?_;refine use (cv _) ?_;refine azb ti ?_;exact⟨_,le_refl _,rfl⟩
def Bw(acc:List UInt8)(w:Blk):Prop:=w=bwt acc∨(acc=[]∧w=.cells 60 [.nilp,.sl 0 .nil []])
theorem Bw.bt{acc:List UInt8}{w B0:Blk}{l:List Blk}{t:List (TypeId×Nat×Nat)}(hw:Bw acc w):Bt ⟨B0::w::l,t⟩ 1 acc:=by
 rcases hw with rfl|⟨rfl,rfl⟩
 ·exact .inl rfl
 ·exact .inr ⟨rfl,rfl⟩
def stepB(s:Adr.Step):List UInt8:=Adr.modW++s.name++[46]
theorem bv7(mods:List Adr.Step)(data:Bool)(ty nm:List UInt8)(hk:∀ s∈mods,s.key=Adr.K.none)(hc:Adr.check ⟨mods,data,ty,nm,Adr.K.none⟩=0) :
  Adr.fmt ⟨mods,data,ty,nm,Adr.K.none⟩=mods.flatMap stepB++(if data then Adr.dataW else[])++(ty++[46]++nm):=by
 have hn:Adr.fmtKey Adr.K.none=[]:=by decide
 unfold Adr.fmt;rw[if_neg (by simp[hc])];dsimp only;rw[hn];have e:Adr.steps mods=mods.flatMap stepB:=by
  unfold Adr.steps;induction mods with
  |nil=>rfl
  |cons x l ih =>
   have hx:=hk x (by simp);have hcl:∀ l:List Adr.Step,(∀ s∈l,s.key=Adr.K.none)→(l.flatMap fun s=>Adr.modW++s.name++Adr.fmtKey s.key++[46])=l.flatMap stepB:=by
    intro l;induction l with
    |nil=>intro _;rfl
    |cons y l ih =>
     intro hl;rw[YI,YI,ih fun s hs=>hl s (by simp[hs]),hl y (by simp),hn];unfold stepB;simp
   exact hcl _ hk
 rw[e];simp
theorem bvw{α:Type}(f:α→List UInt8)(l:List α)(j:Nat)(hj:j<l.length):(l.take (j+1)).flatMap f=(l.take j).flatMap f++f l[j]:=by
 rw[ZW hj,Yp];simp
theorem aj6:∀(l:List Adr.Step),(∀ s∈l,s.name.length≤2000000)→(l.flatMap stepB).length≤l.length*2000008
 |[],_=>by simp
 |x::l,h=>by
  rw[YI,Za,Zh,Nat.succ_mul];have h1:=aj6 l fun s hs=>h s (by simp[hs])
  have h2:=h x (by simp);have h3:(stepB x).length=x.name.length+8:=by unfold stepB;simp[Adr.modW]<;>omega
  omega
theorem cz1(a:Adr.Ad)(hi:Adr.In a)(hk:∀ s∈a.mods,s.key=Adr.K.none)(hkk:a.key=Adr.K.none)(h:Hp):AT 163 [.agg a.cells] h (.str (Adr.fmt a)):=by
 have cc:=fun h=>cx8 a hi h
 obtain⟨mods,data,ty,nm,key⟩:=a;dsimp only at hk hkk;subst hkk;have hfb:=bv7 mods data ty nm hk;obtain⟨hn,hm,ht,ha,_⟩:=hi;dsimp only at hn hm ht ha;refine pcall ?_ rfl (by simp[A.pure,A.data,Adr.Ad.cells]) h;refine fo ?_;dsimp only[Adr.Ad.cells,Adr.K.none]at cc ⊢;have lm:(mods.map Adr.Step.cells).length=mods.length:=Zj ..;by_cases hc0:Adr.check ⟨mods,data,ty,nm,Adr.K.none⟩=0
 rotate_left
 ·have e1:(Adr.check ⟨mods,data,ty,nm,Adr.K.none⟩!=0)=true:=by simp[hc0]
  have hfz:Adr.fmt ⟨mods,data,ty,nm,Adr.K.none⟩=[]:=by unfold Adr.fmt;rw[if_pos hc0]
  unfold Adr.K.none at e1 hfz;refine azb ti ?_;refine use (cc _) ?_;refine azb e1 ?_;exact⟨_,le_refl _,by rw[hfz];rfl⟩
 have e1:(Adr.check ⟨mods,data,ty,nm,Adr.K.none⟩!=0)=false:=by simp[hc0]
 have hf:=hfb hc0;have hn16:mods.length≤16:=by
  rcases Z4 16 mods.length with h16|h16
  ·unfold Adr.check at hc0;rw[if_pos h16]at hc0;exact absurd hc0 (by decide)
  ·exact h16
 have hlenall:=aj6 mods fun s hs=>(hm s hs).1
 unfold Adr.K.none at e1 hf;rw[hf];refine azb ti ?_;refine use (cc _) ?_;refine azb (ai e1 lm) ?_
 refine azf (fun mm ts h=>∃(j:Nat) (w:Blk) (l:List Blk),mm=mods.length-j∧j≤mods.length∧h=⟨.cells 171 [.sl 4 .no (mods.map Adr.Step.cells),.bool data,.str ty,.str nm,.int .i64 0,.int .i64 0,.str []]::w::l,[]⟩∧Bw ((mods.take j).flatMap stepB) w ∧
  ts 1=.ptr 0 0∧ts 3=.ptr 1 0∧ts 10=.sl 4 .no (mods.map Adr.Step.cells)∧ts 11=.int .i64 (mods.length:Nat)∧ts 12=.int .i64 (j:Nat)) mods.length ?_ ?_
 ·exact⟨0,_,[],by omega,by omega,rfl,.inr ⟨rfl,rfl⟩,by(exact ev0 ti),by(exact ev0 ti),by(exact ev0 ti),by(exact ev0 lm),by(exact azq ti)⟩
 rintro mm ts h ⟨j,w,l,rfl,hjc,rfl,hw,t1,t3,t10,t11,t12⟩;have hacc:((mods.take j).flatMap stepB).length≤32000128:=by
  have h2:(mods.take j).length≤16:=by rw[ZT];omega
  exact Zn (aj6 (mods.take j) fun s hs=>(hm s (List.mem_of_mem_take hs)).1) (Zn (YZ 2000008 h2) (by decide))
 by_cases hj:j<mods.length
 ·have hlt:(j:Int)<(mods.length:Int):=by omega
  have hlt':(j:Int)<((mods.map Adr.Step.cells).length:Int):=by rw[lm];exact hlt
  have hj0:(0:Int)≤(j:Int):=by omega
  have ei:IntKind.i64.wrap ((j:Int)+1)=((j+1:Nat):Int):=by rw[wrap64 (by omega) (by omega)];omega
  have hg:=az0 Adr.Step.cells mods j hj;have hmj:=hm _ (Zp hj);have hkj:=hk _ (Zp hj);have hsn:=bvw stepB mods j hj;obtain⟨x,hx⟩:=Ex (mods[j]);rw[hx]at hg hmj hkj hsn;obtain⟨xn,xk⟩:=x;dsimp only at hkj;subst hkj;dsimp only[Adr.Step.cells,Adr.K.none]at hg hmj;have hxl:=hmj.1;have hsl:(stepB ⟨xn,Adr.K.none⟩).length=xn.length+8:=by unfold stepB;simp[Adr.modW]<;>omega
  have hse:109::111::100::117::108::101::46::(xn++[46])=stepB ⟨xn,Adr.K.none⟩:=rfl;have l1:7+xn.length<1099511627776:=by omega
  have l2:xn.length+7<1099511627776:=by omega
  have l3:xn.length+7+1<1099511627776:=by omega
  have l4:xn.length+8<1099511627776:=by omega
  have hcw:=fun(z:Blk)=>akc (h:=⟨.cells 171 [.sl 4 .no (mods.map Adr.Step.cells),.bool data,.str ty,.str nm,.int .i64 0,.int .i64 0,.str []]::w::(l++[z]),[]⟩) (i:=1) hw.bt (stepB ⟨xn,Adr.K.none⟩) (by rw[hsl];omega)
  rw[←hsn]at hcw;have hcf:=fun h=>bq3 h
  refine azb (ai t1 (ai t3 (ai t10 (ai t11 (ai t12 (ai hlt (ai hlt' (ai hj0 (ai hg (ai l1 hse)))))))))) ?_;refine use (hcf _) ?_;refine azb (ai t1 (ai t3 (ai t10 (ai t11 (ai t12 (ai l1 (ai l2 (ai l3 (ai l4 hse))))))))) ?_;refine use (hcw _) ?_;refine azb (ai t1 (ai t3 (ai t10 (ai t11 (ai t12 ei))))) ?_;exact⟨mods.length-(j+1),by omega,j+1,_,_,rfl,by omega,rfl,.inl rfl,by(exact ev0 t1),by(exact ev0 t3),by(exact ev0 t10),by(exact ev0 t11),by(exact ev0 ei)⟩
 ·have hlt:¬((j:Int)<(mods.length:Int)):=by omega
  have hje:j=mods.length:=by omega
  subst hje;rw[Yk]at hw hacc;obtain⟨P,hP⟩:=Ex (mods.flatMap stepB);rw[hP]at hw hacc ⊢;have hcf:=fun h=>bq3 h
  have hdw:Adr.dataW=[100,97,116,97,46]:=rfl;have l1:ty.length+1<1099511627776:=by omega
  have l2:ty.length+1+nm.length<1099511627776:=by omega
  have l3:ty.length+(nm.length+1)<1099511627776:=by omega
  have l4:ty.length+1+nm.length<1099511627776:=by omega
  cases data
  ·have hcw:=akc (h:=⟨.cells 171 [.sl 4 .no (mods.map Adr.Step.cells),.bool false,.str ty,.str nm,.int .i64 0,.int .i64 0,.str []]::w::l,[]⟩) (i:=1) hw.bt (ty++[46]++nm) (by simp;omega);have hcs:=bxs (h:=⟨.cells 171 [.sl 4 .no (mods.map Adr.Step.cells),.bool false,.str ty,.str nm,.int .i64 0,.int .i64 0,.str []]::bwt (P++(ty++[46]++nm))::l,[]⟩) (i:=1) (.inl rfl) (by simp);refine azb (ai t1 (ai t3 (ai t10 (ai t11 (ai t12 (ai hlt (ai l1 (ai l2 l3)))))))) ?_;refine use (hcf _) ?_;refine azb (ai t1 (ai t3 (ai t10 (ai t11 (ai t12 (ai hlt (ai l1 (ai l2 (ai l3 l4))))))))) ?_;refine use hcw ?_;refine azb (ai t1 (ai t3 (ai t10 (ai t11 t12)))) ?_;refine use hcs ?_;refine azb (ai t1 (ai t3 (ai t10 (ai t11 t12)))) ?_;exact⟨_,le_refl _,by simp[azj]⟩
  ·have hcd:=akc (h:=⟨.cells 171 [.sl 4 .no (mods.map Adr.Step.cells),.bool true,.str ty,.str nm,.int .i64 0,.int .i64 0,.str []]::w::l,[]⟩) (i:=1) hw.bt Adr.dataW (by rw[hdw];simp;omega);have hcw:=akc (h:=⟨.cells 171 [.sl 4 .no (mods.map Adr.Step.cells),.bool true,.str ty,.str nm,.int .i64 0,.int .i64 0,.str []]::bwt (P++Adr.dataW)::l,[]⟩) (i:=1) (.inl rfl) (ty++[46]++nm) (by rw[hdw];simp;omega);have hcs:=bxs (h:=⟨.cells 171 [.sl 4 .no (mods.map Adr.Step.cells),.bool true,.str ty,.str nm,.int .i64 0,.int .i64 0,.str []]::bwt (P++Adr.dataW++(ty++[46]++nm))::l,[]⟩) (i:=1) (.inl rfl) (by simp);rw[hdw]at hcd hcw hcs ⊢;refine azb (ai t1 (ai t3 (ai t10 (ai t11 (ai t12 (ai hlt (ai l1 (ai l2 l3)))))))) ?_;refine use hcd ?_;refine azb (ai t1 (ai t3 (ai t10 (ai t11 (ai t12 (ai hlt (ai l1 (ai l2 l3)))))))) ?_;refine use (hcf _) ?_;refine azb (ai t1 (ai t3 (ai t10 (ai t11 (ai t12 (ai hlt (ai l1 (ai l2 (ai l3 l4))))))))) ?_;refine use hcw ?_;refine azb (ai t1 (ai t3 (ai t10 (ai t11 t12)))) ?_;refine use hcs ?_;refine azb (ai t1 (ai t3 (ai t10 (ai t11 t12)))) ?_;exact⟨_,le_refl _,by simp[azj]⟩
def unkIdx:Nat→List V→Int
 |_,[]=>-1
 |i,v::l=>if Sf.known v=true then unkIdx (i+1) l else i
theorem bqr:∀(l:List V) (i:Nat),unkIdx i l≥0↔Sf.knowns l=false
 |[],i=>by simp[unkIdx,Sf.knowns]
 |v::l,i=>by
  unfold unkIdx Sf.knowns;cases h:Sf.known v
  ·simp
  ·simp only[if_true,Zx];exact bqr l (i+1)
theorem cjk(is:List V)(hn:is.length≤9223372036854775807)(hf:∀ x∈is,∀ h,AT 139 [x.A] h (.bool (!Sf.known x)))(h:Hp):AT 162 [.sl 5 .no (V.cellss is),.fn 139 []] h (.int .i64 (unkIdx 0 is)):=by
 refine pcall ?_ rfl (by simp[A.pure,A.data]) h;refine fo ?_;obtain⟨D,hD⟩:=Ex (unkIdx 0 is);rw[hD];refine azb @V.cellss_length ?_;refine azf (fun mm ts h=>∃(j:Nat),mm=is.length-j∧j≤is.length∧h=⟨[],[]⟩∧unkIdx j (is.drop j)=D∧ts 0=.sl 5 .no (V.cellss is)∧ts 1=.fn 139 []∧ts 7=.int .i64 (is.length:Nat)∧ts 8=.int .i64 (j:Nat)) is.length ?_ ?_
 ·exact⟨0,by omega,by omega,rfl,hD,by(exact ev0 ti),by(exact ev0 ti),by(exact ev0 @V.cellss_length),by(exact azq ti)⟩
 rintro mm ts h ⟨j,rfl,hjc,rfl,hit,t0,t1,t7,t8⟩;by_cases hj:j<is.length
 ·have hlt:(j:Int)<(is.length:Int):=by omega
  have hlt':(j:Int)<((V.cellss is).length:Int):=by rw[V.cellss_length];exact hlt
  have hj0:(0:Int)≤(j:Int):=by omega
  have ei:IntKind.i64.wrap ((j:Int)+1)=((j+1:Nat):Int):=by rw[wrap64 (by omega) (by omega)];omega
  have hg:=V.cellss_get is j hj;have cf:=hf is[j] (Zp hj);rw[Zo hj]at hit;unfold unkIdx at hit;obtain⟨x,hx⟩:=Ex (is[j]);rw[hx]at hg cf hit;obtain⟨K,hK⟩:=Ex (Sf.known x);rw[hK]at cf hit;obtain⟨k,n,w,vi,vy⟩:=x;have hVA:(V.mk k n w vi vy).A=.agg [.int .i64 k,.int .i64 n,.str w,.sl 5 .no (V.cellss vi),.sl 1 .no (strsA vy)]:=by simp only[V.A,V.cells]
  rw[hVA]at cf;simp only[V.cells]at hg;refine azb (ai t0 (ai t1 (ai t7 (ai t8 (ai hlt (ai hg (ai hlt' hj0))))))) ?_;refine use (cf _) ?_;cases K
  ·rw[if_neg (by simp)]at hit;subst hit;refine azb (ai t0 (ai t1 (ai t7 t8))) ?_;exact⟨_,le_refl _,rfl⟩
  ·rw[if_pos rfl]at hit;refine azb (ai t0 (ai t1 (ai t7 (ai t8 ei)))) ?_;exact⟨is.length-(j+1),by omega,j+1,rfl,by omega,rfl,hit,by(exact ev0 t0),by(exact ev0 t1),by(exact ev0 t7),by(exact ev0 ei)⟩
 ·have hlt:¬((j:Int)<(is.length:Int)):=by omega
  rw[Y1 (by omega)]at hit;unfold unkIdx at hit;subst hit;refine azb (ai t0 (ai t1 (ai t7 (ai t8 hlt)))) ?_;exact⟨_,le_refl _,rfl⟩
theorem cyi:∀(v:V),v.lens→∀ h,AT 105 [v.A] h (.bool (Sf.known v)):=by
 refine V.induct ?_;intro k n s is ks ih hl h;have hlen:is.length≤9223372036854775807:=by have h1:=hl.1;unfold maxLen at h1;omega
 have hf:∀ x∈is,∀ h,AT 139 [x.A] h (.bool (!Sf.known x)):=by
  intro x hx h;have ck:=ih x hx (V.lensS_mem hl.2.2.2.2 x hx);obtain⟨K,hK⟩:=Ex (Sf.known x);rw[hK]at ck ⊢;obtain⟨k,n,w,vi,vy⟩:=x;have hVA:(V.mk k n w vi vy).A=.agg [.int .i64 k,.int .i64 n,.str w,.sl 5 .no (V.cellss vi),.sl 1 .no (strsA vy)]:=by simp only[V.A,V.cells]
  rw[hVA]at ck ⊢;refine pcall ?_ rfl (by simp[A.pure,A.data]) h;refine fo ?_;refine azb ti ?_;refine use (ck _) ?_;refine azb ti ?_;exact⟨_,le_refl _,rfl⟩
 have hc:∀ h,AT 138 [.sl 5 .no (V.cellss is),.fn 139 []] h (.bool (!Sf.knowns is)):=by
  intro h;refine pcall ?_ rfl (by simp[A.pure,A.data]) h;refine fo ?_;have hge:=bqr is 0;have ca:=cjk is hlen hf;obtain⟨D,hD⟩:=Ex (unkIdx 0 is);rw[hD]at hge ca;refine azb ti ?_;refine use (ca _) ?_;by_cases hd:D≥0
  ·rw[hge.1 hd];refine azb hd ?_;exact⟨_,le_refl _,rfl⟩
  ·have hk:Sf.knowns is=true:=by cases hk:Sf.knowns is;exact absurd (hge.2 hk) hd;rfl
   rw[hk];refine azb hd ?_;exact⟨_,le_refl _,rfl⟩
 have hVA:(V.mk k n s is ks).A=.agg [.int .i64 k,.int .i64 n,.str s,.sl 5 .no (V.cellss is),.sl 1 .no (strsA ks)]:=by simp only[V.A,V.cells]
 have hK:Sf.known (.mk k n s is ks)=(k !=6&&Sf.knowns is):=by simp[Sf.known]
 rw[hVA,hK];refine pcall ?_ rfl (by simp[A.pure,A.data]) h;refine fo ?_;by_cases h6:k=6
 ·have e:(k !=6)=false:=by simp[h6]
  rw[e];refine azb e ?_;exact⟨_,le_refl _,rfl⟩
 ·have e:(k !=6)=true:=by simp[h6]
  rw[e];refine azb e ?_;refine use (hc _) ?_;cases Sf.knowns is
  ·refine azb ti ?_;exact⟨_,le_refl _,rfl⟩
  ·refine azb ti ?_;exact⟨_,le_refl _,rfl⟩
end AX
end Go.Proofs.YtdgcbckcameggadGreatDoor

namespace Go.Proofs.YtdgcbckcameggadGreatDoor
open Go.RowKit
open Go.Op (bytesLess)
namespace AX
theorem dqx(a b:Int)(h:Hp):AT 107 [.sl 1 .no [[.int .i64 a],[.int .i64 b]]] h (.int .i64 (if a≠0 then a else b)):=by
 refine pcall ?_ rfl (by simp[A.pure,A.data]) h;refine fo ?_;refine azb ti ?_;have ew0:IntKind.i64.wrap ((0:Int)+1)=1:=by decide
 have ew1:IntKind.i64.wrap ((1:Int)+1)=2:=by decide
 have en1:Int.toNat 1=1:=rfl;have lt0:(0:Int)<((2:Nat):Int):=by decide
 have lt1:(1:Int)<((2:Nat):Int):=by decide
 have lt2:¬(2:Int)<((2:Nat):Int):=by decide
 have le1:(0:Int)≤1:=by decide
 refine azf (fun mm ts h=>h=⟨[],[]⟩∧ts 3=.int .i64 0∧ts 6=.sl 1 .no [[.int .i64 a],[.int .i64 b]]∧ts 7=.int .i64 ((2:Nat):Int)∧((mm=2∧ts 8=.int .i64 0)∨(mm=1∧ts 8=.int .i64 1∧a=0)∨(mm=0∧ts 8=.int .i64 2∧a=0∧b=0))) 2 ?_ ?_
 ·exact⟨rfl,by(exact ev0 ti),by(exact ev0 ti),by(exact ev0 ti),.inl ⟨rfl,by(exact ev0 ti)⟩⟩
 rintro mm ts h ⟨rfl,t3,t6,t7,⟨rfl,t8⟩|⟨rfl,t8,ha⟩|⟨rfl,t8,ha,hb⟩⟩
 ·by_cases ha:a=0
  ·have e1:(a !=0)=false:=by simp[ha]
   refine azb (ai t3 (ai t6 (ai t7 (ai t8 (ai e1 (ai ew0 lt0)))))) ?_;exact⟨1,by omega,rfl,by(exact ev0 t3),by(exact ev0 t6),by(exact ev0 t7),.inr (.inl ⟨rfl,by(exact ev0 ew0),ha⟩)⟩
  ·have e1:(a !=0)=true:=by simp[ha]
   refine azb (ai t3 (ai t6 (ai t7 (ai t8 (ai e1 lt0))))) ?_;exact⟨_,le_refl _,by rw[if_pos ha];rfl⟩
 ·by_cases hb:b=0
  ·have e1:(b !=0)=false:=by simp[hb]
   refine azb (ai t3 (ai t6 (ai t7 (ai t8 (ai e1 (ai ew1 (ai en1 (ai lt1 le1)))))))) ?_;exact⟨0,by omega,rfl,by(exact ev0 t3),by(exact ev0 t6),by(exact ev0 t7),.inr (.inr ⟨rfl,by(exact ev0 ew1),ha,hb⟩)⟩
  ·have e1:(b !=0)=true:=by simp[hb]
   refine azb (ai t3 (ai t6 (ai t7 (ai t8 (ai e1 (ai en1 (ai lt1 le1))))))) ?_;exact⟨_,le_refl _,by rw[if_neg (by simp[ha])];rfl⟩
 ·refine azb (ai t3 (ai t6 (ai t7 (ai t8 lt2)))) ?_;exact⟨_,le_refl _,by rw[if_neg (by simp[ha]),hb];rfl⟩
def dz5(a b c d:List UInt8):Int:=if cmpZ a c≠0 then cmpZ a c else cmpZ b d
theorem czz(L:Leafs)(a b c d:List UInt8)(h:Hp):AT 70 [.agg [.str a,.str b],.agg [.str c,.str d]] h (.int .i64 (dz5 a b c d)):=by
 refine pcall ?_ rfl (by simp[A.pure,A.data]) h;refine fo ?_;refine azb ti ?_;refine use (L.cmp a c _) ?_;refine azb ti ?_;refine use (L.cmp b d _) ?_;refine azb ti ?_;refine use (dqx (cmpZ a c) (cmpZ b d) _) ?_;refine azb ti ?_;exact⟨_,le_refl _,rfl⟩
theorem cwl(x y:Sf.Inst):(dz5 x.addr x.dep y.addr y.dep≥0)↔Sf.behind x y=false:=by
 unfold dz5 Sf.behind cmpZ;by_cases h1:x.addr=y.addr
 ·have irr:bytesLess y.addr y.addr=false:=by
   have:=Val.less_total y.addr y.addr;cases h:bytesLess y.addr y.addr
   ·rfl
   ·rw[h]at this;simp at this
  rw[h1,irr];by_cases h2:x.dep=y.dep
  ·have irr2:bytesLess y.dep y.dep=false:=by
    have:=Val.less_total y.dep y.dep;cases h:bytesLess y.dep y.dep
    ·rfl
    ·rw[h]at this;simp at this
   simp[h2,irr2]
  ·cases h3:bytesLess x.dep y.dep<;>simp[h2]
 ·cases h3:bytesLess x.addr y.addr<;>simp[h1]
structure Sf.StIn(s:Sf.St):Prop where
 lin:s.lin.length≤2000000
 insts:∀ x∈s.insts,Sf.InstIn x
 pends:∀ x∈s.pends,x.addr.length≤2000000∧x.tok.length≤2000000
 outs:∀ x∈s.outs,x.name.length≤2000000∧x.value.lens
 li:s.insts.length≤1000000000
 lp:s.pends.length≤1000000000
 lo:s.outs.length≤1000000000
theorem cxt(L:Leafs)(st:Sf.St)(ok:Sf.StIn st):SCheck st:=by
 intro h;obtain⟨lin,ser,ins,ps,os⟩:=st;have ct:=fun h=>L.text lin ok.lin h
 have li:ins.length≤1000000000:=ok.li;have lp:ps.length≤1000000000:=ok.lp;have lo:os.length≤1000000000:=ok.lo;have lm1:(ins.map Sf.Inst.cells).length=ins.length:=Zj _;have lm2:(ps.map Sf.Pend.cells).length=ps.length:=Zj _;have lm3:(os.map Sf.Outp.cells).length=os.length:=Zj _;obtain⟨Z,hZ⟩:=Ex (Sf.checkZ ⟨lin,ser,ins,ps,os⟩);rw[hZ];unfold Sf.checkZ at hZ;dsimp only at hZ;refine pcall ?_ rfl (by simp[A.pure,A.data,Sf.St.A]) h;refine fo ?_;dsimp only[Sf.St.A];refine azb ti ?_;refine use (ct _) ?_;cases hT:Sf.text lin
 ·rw[hT,if_pos (by decide)]at hZ;subst hZ;refine azb ti ?_;exact⟨_,le_refl _,rfl⟩
 rw[hT,if_neg (by decide)]at hZ;by_cases s0:ser<0
 ·rw[if_pos (.inl s0)]at hZ;subst hZ;refine azb s0 ?_;exact⟨_,le_refl _,rfl⟩
 by_cases s1:ser>9007199254740992
 ·rw[if_pos (.inr s1)]at hZ;subst hZ;refine azb (ai s0 s1) ?_;exact⟨_,le_refl _,rfl⟩
 rw[if_neg (by omega)]at hZ;obtain⟨mx,hmx⟩:∃ mx:Int,(if(os.length:Int)>(if(ps.length:Int)>(ins.length:Int)then(ps.length:Int)else(ins.length:Int))then(os.length:Int)else(if(ps.length:Int)>(ins.length:Int)then(ps.length:Int)else(ins.length:Int)))=mx:=⟨_,rfl⟩;have hm5:mx>512↔(512<ins.length∨512<ps.length∨512<os.length):=by
  rw[←hmx];split<;>split<;>omega
 by_cases hm:mx>512
 ·rw[if_pos (hm5.1 hm)]at hZ;subst hZ;refine azb (ai s0 (ai s1 (ai lm1 (ai lm2 (ai lm3 (ai hmx hm)))))) ?_;exact⟨_,le_refl _,rfl⟩
 rw[if_neg (fun e=>hm (hm5.2 e))]at hZ;obtain⟨I,hI⟩:=Ex (Sf.instsZ none ins);obtain⟨P,hP⟩:=Ex (Sf.pendsZ none ps);obtain⟨O,hO⟩:=Ex (Sf.outsZ none os);have fi1:∀ z,z≠0→z=I→Z=z:=fun z h e=>by rw[hI,←e,if_pos h]at hZ;exact hZ.symm
 have fi2:I=0→(if P≠0 then P else O)=Z:=fun e=>by rw[hI,hP,hO,e,if_neg (by simp)]at hZ;exact hZ
 refine azb (ai s0 (ai s1 (ai lm1 (ai lm2 (ai lm3 (ai hmx hm)))))) ?_;refine azf (fun mm ts h=>∃(j:Nat) (l:List Blk),mm=ins.length-j∧j≤ins.length∧h=⟨.cells 35 [.str lin,.int .i64 ser,.sl 13 .no (ins.map Sf.Inst.cells),.sl 3 .no (ps.map Sf.Pend.cells),.sl 7 .no (os.map Sf.Outp.cells)]::l,[]⟩∧Sf.instsZ (if j=0 then none else ins[j-1]?) (ins.drop j)=I∧ts 1=.ptr 0 0∧ts 35=.sl 13 .no (ins.map Sf.Inst.cells)∧ts 36=.int .i64 (ins.length:Nat)∧ts 37=.int .i64 (j:Nat)) ins.length ?_ ?_
 ·exact⟨0,[],by omega,by omega,rfl,hI,by(exact ev0 ti),by(exact ev0 ti),by(exact ev0 (ai lm1 (ai lm2 lm3))),by(exact azq ti)⟩
 rintro mm ts h ⟨j,l,rfl,hjc,rfl,hit,t1,ta,tb,tc⟩;by_cases hj:j<ins.length
 ·have hlt:(j:Int)<(ins.length:Int):=by omega
  have hlt':(j:Int)<((ins.map Sf.Inst.cells).length:Int):=by rw[Zj];exact hlt
  have hj0:(0:Int)≤(j:Int):=by omega
  have ei:IntKind.i64.wrap ((j:Int)+1)=((j+1:Nat):Int):=by rw[wrap64 (by omega) (by omega)];omega
  have hg:=az0 Sf.Inst.cells ins j hj;have hm:=Zp hj;rw[Zo hj]at hit;obtain⟨x,hx⟩:=Ex (ins[j]);rw[hx]at hit hg hm;have ci:=fun h=>bwl L x (ok.insts x hm) h
  have cp:=fun h=>bqp x h
  have hxj:ins[j]?=some x:=by rw[Zm hj,hx]
  have hx2:=Ex x;unfold Sf.instsZ at hit;obtain⟨Z1,hZ1⟩:=Ex (Sf.instZ x);rw[hZ1]at ci hit;have cge:=fun y=>cwl y x
  have cc:=fun(y:Sf.Inst) h=>czz L y.addr y.dep x.addr x.dep h
  have nx:Sf.instsZ (some x) (ins.drop (j+1))=I→Sf.instsZ (if j+1=0 then none else ins[j+1-1]?) (ins.drop (j+1))=I:=fun e=>by rw[if_neg (by omega),Nat.add_sub_cancel,hxj];exact e
  clear hx2 hm hZ1;have cells:∃ a d id ty k n s is ks v tn fi ds,x=⟨a,d,id,ty,.mk k n s is ks,v,tn,fi,ds⟩:=by obtain⟨a,d,id,ty,⟨k,n,s,is,ks⟩,v,tn,fi,ds⟩:=x;exact⟨_,_,_,_,_,_,_,_,_,_,_,_,_,rfl⟩
  obtain⟨a,d,id,ty,k,n,s,is,ks,v,tn,fi,ds,hxe⟩:=cells;have hxc:x.cells=[.str a,.str d,.str id,.str ty,.int .i64 k,.int .i64 n,.str s,.sl 5 .no (V.cellss is),.sl 1 .no (strsA ks),.int .i64 v,.bool tn,.bool fi,.sl 1 .no (strsA ds)]:=by rw[hxe];rfl
  rw[hxc]at ci cp hg;refine azb (ai t1 (ai ta (ai tb (ai tc (ai hlt (ai hg (ai hlt' hj0))))))) ?_;refine use (ci _) ?_;by_cases hz:Z1=0
  rotate_left
  ·have e1:(Z1 !=0)=true:=by simp[hz]
   rw[if_pos hz]at hit;have hZf:=fi1 Z1 hz hit;refine azb (ai t1 (ai ta (ai tb (ai tc e1)))) ?_;exact⟨_,le_refl _,by rw[hZf];rfl⟩
  have e1:(Z1 !=0)=false:=by simp[hz]
  rw[if_neg (by simp[hz])]at hit;cases j with
  |zero =>
   have h0:¬((0:Nat):Int)>0:=by omega
   simp only[if_true,Zk,if_false]at hit;refine azb (ai t1 (ai ta (ai tb (ai tc (ai e1 (ai h0 ei)))))) ?_;exact⟨ins.length-(0+1),by omega,0+1,l++[.cells 43 [.str a,.str d,.str id,.str ty,.int .i64 k,.int .i64 n,.str s,.sl 5 .no (V.cellss is),.sl 1 .no (strsA ks),.int .i64 v,.bool tn,.bool fi,.sl 1 .no (strsA ds)]],rfl,by omega,rfl,nx hit,by(exact ev0 t1),by(exact ev0 ta),by(exact ev0 tb),by(exact ev0 ei)⟩
  |succ i =>
   have h0:((i+1:Nat):Int)>0:=by omega
   have ej:IntKind.i64.wrap (((i+1:Nat):Int)-1)=(i:Int):=by rw[wrap64 (by omega) (by omega)];omega
   have hg2:=az0 Sf.Inst.cells ins i (by omega);have hi':(i:Int)<((ins.map Sf.Inst.cells).length:Int):=by rw[Zj];omega
   have hi0:(0:Int)≤(i:Int):=by omega
   have hki:ins[i+1-1]?=some (ins[i]'(by omega)):=Zm (by omega);rw[show(if i+1=0 then none else ins[i+1-1]?)=(some (ins[i]'(by omega)))from by rw[if_neg (by omega),hki]]at hit;obtain⟨y,hy⟩:=Ex (ins[i]'(by omega));rw[hy]at hit hg2;dsimp only at hit;have cpy:=fun h=>bqp y h
   have hyc:∃ b1 b2 b3 b4 b5 b6 b7 b8 b9 c1 c2 c3 c4,y.cells=[.str b1,.str b2,.str b3,.str b4,.int .i64 b5,.int .i64 b6,.str b7,.sl 5 .no (V.cellss b8),.sl 1 .no (strsA b9),.int .i64 c1,.bool c2,.bool c3,.sl 1 .no (strsA c4)]:=by obtain⟨a,d,id,ty,⟨k,n,s,is,ks⟩,v,tn,fi,ds⟩:=y;exact⟨_,_,_,_,_,_,_,_,_,_,_,_,_,rfl⟩
   obtain⟨b1,b2,b3,b4,b5,b6,b7,b8,b9,c1,c2,c3,c4,hyc⟩:=hyc;rw[hyc]at hg2 cpy;have cg:=cge y;have cy:=cc y;obtain⟨c,hc⟩:=Ex (dz5 y.addr y.dep x.addr x.dep);rw[hc]at cg cy;refine azb (ai t1 (ai ta (ai tb (ai tc (ai e1 (ai h0 (ai ej (ai hg2 (ai hi' hi0))))))))) ?_;refine use (cpy _) ?_;refine azb (ai t1 (ai ta (ai tb tc))) ?_;refine use (cp _) ?_;refine azb (ai t1 (ai ta (ai tb tc))) ?_;refine use (cy _) ?_;by_cases hcz:c≥0
   ·simp only[cg.1 hcz,ZM,if_true]at hit;have hZf:=fi1 1 (by decide) hit;refine azb (ai t1 (ai ta (ai tb (ai tc hcz)))) ?_;exact⟨_,le_refl _,by rw[hZf];rfl⟩
   ·have hb:Sf.behind y x=true:=by cases hb:Sf.behind y x;exact absurd (cg.2 hb) hcz;rfl
    simp only[hb,ZR,Zk,if_false]at hit;refine azb (ai t1 (ai ta (ai tb (ai tc (ai hcz ei))))) ?_;exact⟨ins.length-((i+1)+1),by omega,(i+1)+1,l++[.cells 43 [.str a,.str d,.str id,.str ty,.int .i64 k,.int .i64 n,.str s,.sl 5 .no (V.cellss is),.sl 1 .no (strsA ks),.int .i64 v,.bool tn,.bool fi,.sl 1 .no (strsA ds)]],rfl,by omega,rfl,nx hit,by(exact ev0 t1),by(exact ev0 ta),by(exact ev0 tb),by(exact ev0 ei)⟩
 have hlt:¬((j:Int)<(ins.length:Int)):=by omega
 rw[Y1 (by omega)]at hit;unfold Sf.instsZ at hit;have fi2:=fi2 hit.symm;refine azb (ai t1 (ai ta (ai tb (ai tc (ai hlt (ai lm1 (ai lm2 lm3))))))) ?_;clear hit hlt hjc ta tb tc fi1;have fj1:∀ z,z≠0→z=P→Z=z:=fun z h e=>by rw[←e,if_pos h]at fi2;exact fi2.symm
 have fj2:P=0→Z=O:=fun e=>by rw[e,if_neg (by simp)]at fi2;exact fi2.symm
 obtain⟨l0,hl0⟩:∃ l0:List Blk,l=l0:=⟨_,rfl⟩;refine azf (fun mm ts h=>∃(j:Nat) (l:List Blk),mm=ps.length-j∧j≤ps.length∧h=⟨.cells 35 [.str lin,.int .i64 ser,.sl 13 .no (ins.map Sf.Inst.cells),.sl 3 .no (ps.map Sf.Pend.cells),.sl 7 .no (os.map Sf.Outp.cells)]::l,[]⟩∧Sf.pendsZ (if j=0 then none else ps[j-1]?.map Sf.Pend.tok) (ps.drop j)=P∧ts 1=.ptr 0 0∧ts 64=.sl 3 .no (ps.map Sf.Pend.cells)∧ts 65=.int .i64 (ps.length:Nat)∧ts 66=.int .i64 (j:Nat)) ps.length ?_ ?_
 ·exact⟨0,l,by omega,by omega,rfl,hP,by(exact ev0 t1),by(exact ev0 t1),by(exact ev0 (ai t1 (ai lm1 (ai lm2 lm3)))),by(exact azq t1)⟩
 rintro mm ts h ⟨j,l,rfl,hjc,rfl,hit,t1,ta,tb,tc⟩;by_cases hj:j<ps.length
 ·have hlt:(j:Int)<(ps.length:Int):=by omega
  have hlt':(j:Int)<((ps.map Sf.Pend.cells).length:Int):=by rw[Zj];exact hlt
  have hj0:(0:Int)≤(j:Int):=by omega
  have ei:IntKind.i64.wrap ((j:Int)+1)=((j+1:Nat):Int):=by rw[wrap64 (by omega) (by omega)];omega
  have hg:=az0 Sf.Pend.cells ps j hj;have hm:=Zp hj;rw[Zo hj]at hit;obtain⟨x,hx⟩:=Ex (ps[j]);rw[hx]at hit hg hm;have hin:=ok.pends x hm;have ct:=fun h=>L.text x.tok hin.2 h
  have cm:=fun h=>bxg L x.addr x.typ hin.1 h
  have hxj:ps[j]?=some x:=by rw[Zm hj,hx]
  unfold Sf.pendsZ Sf.pendB at hit;have nx:Sf.pendsZ (some x.tok) (ps.drop (j+1))=P→Sf.pendsZ (if j+1=0 then none else ps[j+1-1]?.map Sf.Pend.tok) (ps.drop (j+1))=P:=fun e=>by rw[if_neg (by omega),Nat.add_sub_cancel,hxj];exact e
  simp only[Sf.Pend.cells]at hg;obtain⟨T,hT⟩:=Ex (Sf.text x.tok);rw[hT]at ct hit;obtain⟨M,hM⟩:=Ex (Sf.managed x.addr x.typ);rw[hM]at cm hit;refine azb (ai t1 (ai ta (ai tb (ai tc (ai hlt (ai hg (ai hlt' hj0))))))) ?_;refine use (ct _) ?_;cases T
  ·rw[if_pos (by simp)]at hit;have hZf:=fj1 1 (by decide) hit;refine azb (ai t1 (ai ta (ai tb tc))) ?_;exact⟨_,le_refl _,by rw[hZf];rfl⟩
  refine azb (ai t1 (ai ta (ai tb tc))) ?_;refine use (cm _) ?_;cases M
  ·rw[if_pos (by simp)]at hit;have hZf:=fj1 1 (by decide) hit;refine azb (ai t1 (ai ta (ai tb tc))) ?_;exact⟨_,le_refl _,by rw[hZf];rfl⟩
  cases j with
  |zero =>
   have h0:¬((0:Nat):Int)>0:=by omega
   rw[if_neg (by simp[Val.badB])]at hit;refine azb (ai t1 (ai ta (ai tb (ai tc (ai h0 ei))))) ?_;exact⟨ps.length-(0+1),by omega,0+1,l++[.cells 123 [.str x.addr,.str x.typ,.str x.tok]],rfl,by omega,rfl,nx hit,by(exact ev0 t1),by(exact ev0 ta),by(exact ev0 tb),by(exact ev0 ei)⟩
  |succ i =>
   have h0:((i+1:Nat):Int)>0:=by omega
   have ej:IntKind.i64.wrap (((i+1:Nat):Int)-1)=(i:Int):=by rw[wrap64 (by omega) (by omega)];omega
   have hg2:=az0 Sf.Pend.cells ps i (by omega);have hi':(i:Int)<((ps.map Sf.Pend.cells).length:Int):=by rw[Zj];omega
   have hi0:(0:Int)≤(i:Int):=by omega
   have hki:ps[i+1-1]?=some (ps[i]'(by omega)):=Zm (by omega);rw[show(if i+1=0 then none else ps[i+1-1]?.map Sf.Pend.tok)=(some (ps[i]'(by omega))).map Sf.Pend.tok from by rw[if_neg (by omega),hki]]at hit;obtain⟨y,hy⟩:=Ex (ps[i]'(by omega));rw[hy]at hit hg2;simp only[Sf.Pend.cells]at hg2;simp only[ZO,Val.badB]at hit;cases hb:bytesLess y.tok x.tok
   ·simp only[hb,Zx,Z0,ZR,ZM,Ys,YT,if_true]at hit;have hZf:=fj1 1 (by decide) hit;refine azb (ai t1 (ai ta (ai tb (ai tc (ai h0 (ai ej (ai hg2 (ai hi' (ai hi0 hb))))))))) ?_;exact⟨_,le_refl _,by rw[hZf];rfl⟩
   ·simp only[hb,Zx,Z0,ZR,ZM,Ys,Y8,Zk,if_false]at hit;refine azb (ai t1 (ai ta (ai tb (ai tc (ai h0 (ai ej (ai hg2 (ai hi' (ai hi0 (ai hb ei)))))))))) ?_;exact⟨ps.length-((i+1)+1),by omega,(i+1)+1,l++[.cells 123 [.str x.addr,.str x.typ,.str x.tok]],rfl,by omega,rfl,nx hit,by(exact ev0 t1),by(exact ev0 ta),by(exact ev0 tb),by(exact ev0 ei)⟩
 have hlt:¬((j:Int)<(ps.length:Int)):=by omega
 rw[Y1 (by omega)]at hit;unfold Sf.pendsZ at hit;have fj2:=fj2 hit.symm;refine azb (ai t1 (ai ta (ai tb (ai tc (ai hlt (ai lm1 (ai lm2 lm3))))))) ?_;clear hit hlt hjc ta tb tc fj1 hl0 l0;refine azf (fun mm ts h=>∃(j:Nat) (l:List Blk),mm=os.length-j∧j≤os.length∧h=⟨.cells 35 [.str lin,.int .i64 ser,.sl 13 .no (ins.map Sf.Inst.cells),.sl 3 .no (ps.map Sf.Pend.cells),.sl 7 .no (os.map Sf.Outp.cells)]::l,[]⟩∧Sf.outsZ (if j=0 then none else os[j-1]?.map Sf.Outp.name) (os.drop j)=O∧ts 1=.ptr 0 0∧ts 101=.sl 7 .no (os.map Sf.Outp.cells)∧ts 102=.int .i64 (os.length:Nat)∧ts 103=.int .i64 (j:Nat)) os.length ?_ ?_
 ·exact⟨0,l,by omega,by omega,rfl,hO,by(exact ev0 t1),by(exact ev0 t1),by(exact ev0 (ai t1 (ai lm1 (ai lm2 lm3)))),by(exact azq t1)⟩
 rintro mm ts h ⟨j,l,rfl,hjc,rfl,hit,t1,ta,tb,tc⟩;by_cases hj:j<os.length
 ·have hlt:(j:Int)<(os.length:Int):=by omega
  have hlt':(j:Int)<((os.map Sf.Outp.cells).length:Int):=by rw[Zj];exact hlt
  have hj0:(0:Int)≤(j:Int):=by omega
  have ei:IntKind.i64.wrap ((j:Int)+1)=((j+1:Nat):Int):=by rw[wrap64 (by omega) (by omega)];omega
  have hg:=az0 Sf.Outp.cells os j hj;have hm:=Zp hj;rw[Zo hj]at hit;obtain⟨x,hx⟩:=Ex (os[j]);rw[hx]at hit hg hm;have hin:=ok.outs x hm;have ci:=fun h=>cx0 L x hin.1 hin.2 h
  have hxj:os[j]?=some x:=by rw[Zm hj,hx]
  unfold Sf.outsZ at hit;have nx:Sf.outsZ (some x.name) (os.drop (j+1))=O→Sf.outsZ (if j+1=0 then none else os[j+1-1]?.map Sf.Outp.name) (os.drop (j+1))=O:=fun e=>by rw[if_neg (by omega),Nat.add_sub_cancel,hxj];exact e
  obtain⟨Z1,hZ1⟩:=Ex (Sf.outZ x);rw[hZ1]at ci hit;clear hZ1;obtain⟨m,⟨k,n,s,is,ks⟩,b⟩:=x;simp only[Sf.Outp.cells]at hg ci;dsimp only at hit nx;refine azb (ai t1 (ai ta (ai tb (ai tc (ai hlt (ai hg (ai hlt' hj0))))))) ?_;refine use (ci _) ?_;by_cases hz:Z1=0
  rotate_left
  ·have e1:(Z1 !=0)=true:=by simp[hz]
   rw[if_pos hz]at hit;refine azb (ai t1 (ai ta (ai tb (ai tc e1)))) ?_;exact⟨_,le_refl _,by rw[fj2,←hit];rfl⟩
  have e1:(Z1 !=0)=false:=by simp[hz]
  rw[if_neg (by simp[hz])]at hit;cases j with
  |zero =>
   have h0:¬((0:Nat):Int)>0:=by omega
   rw[if_neg (by simp[Val.badB])]at hit;refine azb (ai t1 (ai ta (ai tb (ai tc (ai e1 (ai h0 ei)))))) ?_;exact⟨os.length-(0+1),by omega,0+1,l++[.cells 94 [.str m,.int .i64 k,.int .i64 n,.str s,.sl 5 .no (V.cellss is),.sl 1 .no (strsA ks),.bool b]],rfl,by omega,rfl,nx hit,by(exact ev0 t1),by(exact ev0 ta),by(exact ev0 tb),by(exact ev0 ei)⟩
  |succ i =>
   have h0:((i+1:Nat):Int)>0:=by omega
   have ej:IntKind.i64.wrap (((i+1:Nat):Int)-1)=(i:Int):=by rw[wrap64 (by omega) (by omega)];omega
   have hg2:=az0 Sf.Outp.cells os i (by omega);have hi':(i:Int)<((os.map Sf.Outp.cells).length:Int):=by rw[Zj];omega
   have hi0:(0:Int)≤(i:Int):=by omega
   have hki:os[i+1-1]?=some (os[i]'(by omega)):=Zm (by omega);rw[show(if i+1=0 then none else os[i+1-1]?.map Sf.Outp.name)=(some (os[i]'(by omega))).map Sf.Outp.name from by rw[if_neg (by omega),hki]]at hit;obtain⟨y,hy⟩:=Ex (os[i]'(by omega));rw[hy]at hit hg2;obtain⟨m2,⟨k2,n2,s2,is2,ks2⟩,b2⟩:=y;simp only[Sf.Outp.cells]at hg2;simp only[ZO,Val.badB]at hit;cases hb:bytesLess m2 m
   ·simp only[hb,Zx,Z0,ZR,ZM,Ys,YT,if_true]at hit;refine azb (ai t1 (ai ta (ai tb (ai tc (ai e1 (ai h0 (ai ej (ai hg2 (ai hi' (ai hi0 hb)))))))))) ?_;exact⟨_,le_refl _,by rw[fj2,←hit];rfl⟩
   ·simp only[hb,Zx,Z0,ZR,ZM,Ys,Y8,Zk,if_false]at hit;refine azb (ai t1 (ai ta (ai tb (ai tc (ai e1 (ai h0 (ai ej (ai hg2 (ai hi' (ai hi0 (ai hb ei))))))))))) ?_;exact⟨os.length-((i+1)+1),by omega,(i+1)+1,l++[.cells 94 [.str m,.int .i64 k,.int .i64 n,.str s,.sl 5 .no (V.cellss is),.sl 1 .no (strsA ks),.bool b]],rfl,by omega,rfl,nx hit,by(exact ev0 t1),by(exact ev0 ta),by(exact ev0 tb),by(exact ev0 ei)⟩
 have hlt:¬((j:Int)<(os.length:Int)):=by omega
 rw[Y1 (by omega)]at hit;unfold Sf.outsZ at hit;refine azb (ai t1 (ai ta (ai tb (ai tc (ai hlt (ai lm1 (ai lm2 lm3))))))) ?_;exact⟨_,le_refl _,by rw[fj2,←hit];rfl⟩
end AX
end Go.Proofs.YtdgcbckcameggadGreatDoor

namespace Go.Proofs.YtdgcbckcameggadGreatDoor
open Go.RowKit
namespace Adr
theorem mods_names(N:Nat):∀(f:Nat) (r:Rd) (l:List Step),r.rest.length≤N→(∀ x∈l,x.name.length≤N)→(∀ x∈(modsP f r l).1,x.name.length≤N)∧(modsP f r l).2.rest.length≤N∧(modsP f r l).1.length≤l.length+f
 |0,r,l,hr,hl=>⟨hl,hr,Zf _⟩
 |f+1,r,l,hr,hl=>by
  unfold modsP;split
  ·next hc =>
   have h1:=has_len modW r;have h2:=step_len (hasP modW r).2;have h3:=skip_len [46] (stepP (hasP modW r).2).2;have hn:(stepP (hasP modW r).2).1.name.length≤N:=Zn (word_len (hasP modW r).2).2 (by omega)
   obtain⟨q1,q2,q3⟩:=mods_names N f (skipP [46] (stepP (hasP modW r).2).2) (l++[(stepP (hasP modW r).2).1]) (by omega) (fun x hx=>by
    rcases YQ.1 hx with hx|hx
    ·exact hl x hx
    ·rw[YR.1 hx];exact hn)
   exact⟨q1,q2,Zn q3 (by simp only[Za,Y3];omega)⟩
  ·exact⟨hl,hr,by dsimp only;omega⟩
theorem parse_names(s:List UInt8)(h:(parse s).2=0):(∀ x∈(parse s).1.mods,x.name.length≤s.length)∧(parse s).1.mods.length≤s.length+1∧(parse s).1.type.length≤s.length∧(parse s).1.name.length≤s.length:=by
 rw[←parse_eq]at h ⊢;obtain⟨q1,q2,q3⟩:=mods_names s.length (s.length+1) ⟨s,false⟩ [] (Zf _) (by simp);unfold parseP at h ⊢;dsimp only at h ⊢;have l1:=has_len dataW (modsP (s.length+1) ⟨s,false⟩ []).2;have l2:=word_len (hasP dataW (modsP (s.length+1) ⟨s,false⟩ []).2).2;have l3:=skip_len [46] (wordP (hasP dataW (modsP (s.length+1) ⟨s,false⟩ []).2).2).2;have l4:=word_len (skipP [46] (wordP (hasP dataW (modsP (s.length+1) ⟨s,false⟩ []).2).2).2);split at h
 ·simp at h
 ·next h1 =>
  rw[if_neg h1];split at h
  ·simp at h
  ·next h2 =>
   rw[if_neg h2];dsimp only;exact⟨q1,by simpa using q3,by omega,by omega⟩
end Adr
namespace AX
theorem cx5(s:List UInt8)(hs:s.length≤2000000)(h:Hp):AT 140 [.str s] h (.tup [.str (Adr.static s).1,.int .i64 (Adr.static s).2]):=by
 refine pcall ?_ rfl (by simp[A.pure,A.data]) h;refine fo ?_;have cp:=fun h=>cqu s hs h
 have hS:Adr.static s=if(Adr.parse s).2≠0 then([],(Adr.parse s).2)else(Adr.fmt (Adr.bare (Adr.parse s).1),0):=rfl
 have hnm:=Adr.parse_names s;obtain⟨⟨a,e⟩,hp⟩:=Ex (Adr.parse s);rw[hp]at cp hS hnm;dsimp only at cp hS hnm;rw[hS];by_cases he:e=0
 rotate_left
 ·have e1:(e !=0)=true:=by simp[he]
  rw[if_pos he];obtain⟨mods,data,ty,nm,⟨kk,kn,ks⟩⟩:=a;dsimp only[Adr.Ad.cells]at cp;refine azb ti ?_;refine use (cp _) ?_;refine azb e1 ?_;exact⟨_,le_refl _,rfl⟩
 have e1:(e !=0)=false:=by simp[he]
 rw[if_neg (by simp[he])];obtain⟨n1,n2,n3,n4⟩:=hnm he;have cs:=fun h=>czf a (by omega) h
 have cf:=fun h=>cz1 (Adr.bare a) ⟨by unfold Adr.bare;dsimp only;rw[Zj];omega,fun x hx=>by
   unfold Adr.bare at hx;obtain⟨y,hy,rfl⟩:=Zaa.1 hx;have:=n1 y hy
   exact⟨Zn this hs,by simp[Adr.K.none]⟩,by unfold Adr.bare;dsimp only;omega,by unfold Adr.bare;dsimp only;omega,by unfold Adr.bare Adr.K.none;simp⟩
  (fun x hx=>by
   unfold Adr.bare at hx;obtain⟨y,hy,rfl⟩:=Zaa.1 hx
   rfl) rfl h
 have hbc:(Adr.bare a).cells=[.sl 4 .no ((a.mods.map fun s=>(⟨s.name,Adr.K.none⟩:Adr.Step)).map Adr.Step.cells),.bool a.data,.str a.type,.str a.name,.int .i64 0,.int .i64 0,.str []]:=rfl;rw[hbc]at cs cf;obtain⟨F,hF⟩:=Ex (Adr.fmt (Adr.bare a));rw[hF]at cf ⊢;clear hS n1 n2 n3 n4 hnm hp hbc;obtain⟨mods,data,ty,nm,⟨kk,kn,ks⟩⟩:=a;dsimp only[Adr.Ad.cells]at cp cs cf;refine azb ti ?_;refine use (cp _) ?_;refine azb e1 ?_;refine use (cs _) ?_;refine azb ti ?_;refine use (cf _) ?_;refine azb ti ?_;exact⟨_,le_refl _,rfl⟩
theorem leafs:Leafs where
 parse:=cqu
 static:=cx5
 ident:=ak3
 num:=a_numParse
 cmp:=dql
 known:=fun v hl h=>cyi v hl h
 text:=fun s hs h=>(ck8 s hs h).mono fun v h' hv=>hv
theorem ax5(st:Sf.St)(ok:Sf.StIn st):SCheck st:=cxt leafs st ok
end AX
end Go.Proofs.YtdgcbckcameggadGreatDoor

namespace Go.Proofs.YtdgcbckcameggadGreatDoor
namespace Wire
theorem zig_zag(u:Nat):zig (zag u)=u:=by
 unfold zig zag;by_cases h:u%2=1
 ·rw[if_pos h,if_pos (by omega)];omega
 ·rw[if_neg h,if_neg (by omega)];omega
theorem grpF_back:∀(f i acc:Nat) (l:List UInt8) (n:Int) (long:Nat),i+f=9→grpF (f+1) i acc l=.ok n long→∃ u,(0<i→u≠0)∧n=zag (acc+u*2^(7*i))∧i<long∧l=encF f u++l.drop (long-i)
 |f,i,acc,[],n,long,hi,h=>by simp[grpF]at h
 |0,i,acc,c::r,n,long,hi,h=>by
  simp only[grpF]at h;have hc:=c.toNat_lt;split at h
  ·cases h
  ·next h1 =>
   split at h
   ·cases h
   ·next h2 =>
    split at h
    ·cases h
    ·next h3 =>
     injection h with e1 e2;refine⟨c.toNat,fun hp e=>h3 ⟨hp,Z9.1 (by simpa using e)⟩,?_,by omega,?_⟩
     ·rw[←e1,YM (by omega)]
     ·rw[show long-i=1 by omega];simp[encF]
 |f+1,i,acc,c::r,n,long,hi,h=>by
  have hc:=c.toNat_lt
  have e0:grpF (f+1+1) i acc (c::r)=(if i=9∧1<c.toNat then .err 5
    else if 128≤c.toNat then grpF (f+1) (i+1) (acc+c.toNat%128*2^(7*i)) r
    else if 0<i∧c=0 then .err 1
    else .ok (zag (acc+c.toNat%128*2^(7*i))) (i+1)):=rfl
  rw[e0,if_neg (by omega)]at h;by_cases h2:128≤c.toNat
  ·rw[if_pos h2]at h;obtain⟨u,hu0,hn,hlt,hr⟩:=grpF_back f (i+1) _ r n long (by omega) h;have hu:=hu0 (by omega);have hp:(2:Nat)^(7*(i+1))=128*2^(7*i):=by rw[show 7*(i+1)=7+7*i by omega,Nat.pow_add]
   refine⟨c.toNat%128+128*u,fun _=>by omega,?_,by omega,?_⟩
   ·rw[hn,hp,YU,←Nat.mul_assoc,Nat.mul_comm u 128,Nat.add_assoc]
   ·unfold encF;rw[if_neg (by omega),show(c.toNat%128+128*u)%128=c.toNat%128 by omega,show(c.toNat%128+128*u)/128=u by omega,show c.toNat%128+128=c.toNat by omega,show long-i=(long-(i+1))+1 by omega,ZU];rw[Zl,←hr];simp
  ·rw[if_neg h2]at h;split at h
   ·cases h
   ·next h3 =>
    injection h with e1 e2;refine⟨c.toNat,fun hp e=>h3 ⟨hp,Z9.1 (by simpa using e)⟩,?_,by omega,?_⟩
    ·rw[←e1,YM (by omega)]
    ·unfold encF;rw[if_pos (by omega),show long-i=1 by omega];simp
theorem grp_back{l:List UInt8}{n:Int}{long:Nat}(h:grp l=.ok n long):l=num n++l.drop long:=by
 obtain⟨u,_,hn,_,hl⟩:=grpF_back 9 0 0 l n long rfl h;unfold num;rw[hn];simp only[Yt,Nat.mul_zero,Nat.pow_zero,Nat.mul_one,zig_zag];exact hl
theorem grpF_err0:∀(f i u:Nat) (l:List UInt8),grpF f i u l≠.err 0
 |0,i,u,l,h=>by simp[grpF]at h
 |f+1,i,u,[],h=>by simp[grpF]at h
 |f+1,i,u,c::r,h=>by
  simp only[grpF]at h;split at h
  ·cases h
  ·split at h
   ·exact grpF_err0 f _ _ r h
   ·split at h<;>cases h
theorem numR_back{r:St}(h:(numR r).1.e=0):r.e=0∧r.rest=num (numR r).2++(numR r).1.rest:=by
 unfold numR at h ⊢;by_cases he:r.e=0
 ·refine⟨he,?_⟩;rw[if_neg (by simp[he])]at h ⊢;cases hg:grp r.rest with
  |err e =>
   exfalso
   rw[hg]at h;have h':e=0:=h;subst h';unfold grp at hg;exact grpF_err0 _ _ _ _ hg
  |ok n long=>exact grp_back hg
 ·rw[if_pos he]at h;exact absurd h he
theorem cntR_back{r:St}(h:(cntR r 1).1.e=0):r.e=0∧r.rest=num ((cntR r 1).2:Nat)++(cntR r 1).1.rest:=by
 unfold cntR at h ⊢;by_cases he:r.e=0
 ·refine⟨he,?_⟩;rw[if_neg (by simp[he])]at h ⊢;cases hg:grp r.rest with
  |err e =>
   exfalso
   rw[hg]at h;have h':e=0:=h;subst h';exact grpF_err0 _ _ _ _ hg
  |ok n long =>
   rw[hg]at h;dsimp only at h ⊢;split at h
   ·simp at h
   ·next h1 =>
    rw[if_neg h1];split at h
    ·simp at h
    ·next h2 =>
     rw[if_neg h2];have:=grp_back hg;dsimp only;rw[show((n.toNat:Nat):Int)=n by omega];exact this
 ·rw[if_pos he]at h;exact absurd h he
theorem cntR_fit{r:St}(h:(cntR r 1).1.e=0):(cntR r 1).2≤(cntR r 1).1.rest.length:=by
 unfold cntR at h ⊢;by_cases he:r.e=0
 ·rw[if_neg (by simp[he])]at h ⊢;cases hg:grp r.rest with
  |err e =>
   rw[hg]at h;have h':e=0:=h;subst h';exact absurd hg (grpF_err0 _ _ _ _)
  |ok n long =>
   rw[hg]at h;dsimp only at h ⊢;split at h
   ·simp at h
   ·next h1 =>
    rw[if_neg h1];split at h
    ·simp at h
    ·next h2 =>
     rw[if_neg h2];rw[Nat.div_one]at h2;dsimp only;rw[ZB];omega
 ·rw[if_pos he]at h;exact absurd h he
theorem strR_back{r:St}(h:(strR r).1.e=0):r.e=0∧r.rest=strE (strR r).2++(strR r).1.rest:=by
 unfold strR at h ⊢;dsimp only at h ⊢;split at h
 ·next h1=>exact absurd h h1
 ·next h1 =>
  rw[if_neg h1];have h2:(cntR r 1).1.e=0:=by simpa using h1
  obtain⟨q1,q2⟩:=cntR_back h2;have q3:=cntR_fit h2;refine⟨q1,?_⟩;dsimp only;unfold strE;rw[ZT,Nat.min_eq_left q3,Zg,Yj];exact q2
end Wire
namespace Val
def Good(one:Wire.St→Res):Prop:=∀ r,(one r).2.1=0→r.e=0∧(one r).1.e=0∧r.rest=enc (one r).2.2++(one r).1.rest
theorem encs_cons(m:Bool)(v:V)(l:List V)(ks:List (List UInt8)):encs m (v::l) ks=keyE m ks++(enc v++encs m l ks.tail):=by rw[encs]
theorem encs_false:∀(is:List V) (k1 k2:List (List UInt8)),encs false is k1=encs false is k2
 |[],_,_=>by rw[encs,encs]
 |v::l,k1,k2=>by rw[encs_cons,encs_cons,encs_false l k1.tail k2.tail];simp[keyE]
theorem itemsW_back{one:Wire.St→Res}(hg:Good one)(m:Bool):∀(c:Nat) (r:Wire.St) (is:List V) (ks:List (List UInt8)),(itemsW one m c r is ks).2.1=0 →
  r.e=0∧(itemsW one m c r is ks).1.e=0∧∃ is' ks',(itemsW one m c r is ks).2.2=(is++is',ks++ks')∧is'.length=c∧r.rest=encs m is' ks'++(itemsW one m c r is ks).1.rest
 |0,r,is,ks,h=>by
  unfold itemsW at h ⊢;exact⟨h,h,[],[],by simp,rfl,by rw[encs];rfl⟩
 |c+1,r,is,ks,h=>by
  have step:∀(q:Wire.St×List UInt8) (k2:List (List UInt8)),(if(one q.1).2.1≠0 then((one q.1).1,(one q.1).2.1,is,ks)else itemsW one m c (one q.1).1 (is++[(one q.1).2.2]) k2).2.1=0 →
    ∃(is':List V) (ks':List (List UInt8)),q.1.e=0∧(if(one q.1).2.1≠0 then((one q.1).1,(one q.1).2.1,is,ks)else itemsW one m c (one q.1).1 (is++[(one q.1).2.2]) k2).1.e=0 ∧
     (if(one q.1).2.1≠0 then((one q.1).1,(one q.1).2.1,is,ks)else itemsW one m c (one q.1).1 (is++[(one q.1).2.2]) k2).2.2=(is++(one q.1).2.2::is',k2++ks')∧is'.length=c ∧
     q.1.rest=enc (one q.1).2.2++(encs m is' ks'++(if(one q.1).2.1≠0 then((one q.1).1,(one q.1).2.1,is,ks)else itemsW one m c (one q.1).1 (is++[(one q.1).2.2]) k2).1.rest):=fun q k2 h=>by
   by_cases h1:(one q.1).2.1=0
   rotate_left
   ·rw[if_pos h1]at h;exact absurd h h1
   rw[if_neg (by simp[h1])]at h ⊢;obtain⟨q1,q2,q3⟩:=hg _ h1;obtain⟨p1,p2,is',ks',p3,p4,p5⟩:=itemsW_back hg m c _ _ _ h;exact⟨is',ks',q1,p2,by rw[p3];simp,p4,by rw[←p5];exact q3⟩
  cases m with
  |false =>
   have e:itemsW one false (c+1) r is ks=(if(one r).2.1≠0 then((one r).1,(one r).2.1,is,ks)else itemsW one false c (one r).1 (is++[(one r).2.2]) ks):=by rw[itemsW];rfl
   rw[e]at h ⊢;obtain⟨is',ks',s1,s2,s3,s4,s5⟩:=step (r,[]) ks h;refine⟨s1,s2,_::is',ks',s3,by simp[s4],?_⟩;rw[encs_cons,encs_false is' ks'.tail ks'];simp only[keyE,Zi,Zg];exact s5
  |true =>
   have e:itemsW one true (c+1) r is ks=(if(one (Wire.strR r).1).2.1≠0 then((one (Wire.strR r).1).1,(one (Wire.strR r).1).2.1,is,ks)else itemsW one true c (one (Wire.strR r).1).1 (is++[(one (Wire.strR r).1).2.2]) (ks++[(Wire.strR r).2])):=by rw[itemsW];rfl
   rw[e]at h ⊢;obtain⟨is',ks',s1,s2,s3,s4,s5⟩:=step (Wire.strR r) (ks++[(Wire.strR r).2]) h;obtain⟨t1,t2⟩:=Wire.strR_back s1;refine⟨t1,s2,(one (Wire.strR r).1).2.2::is',(Wire.strR r).2::ks',by rw[s3];simp,by simp[s4],?_⟩;rw[encs_cons,t2,s5];simp only[keyE,Zap,Zg]
theorem readW_back{one:Wire.St→Res}(hg:Good one):Good (readW one):=by
 intro r h;unfold readW at h ⊢;by_cases he:r.e=0
 rotate_left
 ·rw[if_pos he]at h;exact absurd h he
 rw[if_neg (by simp[he])]at h ⊢;dsimp only at h ⊢;by_cases hq:(Wire.numR r).1.e=0
 rotate_left
 ·rw[if_pos hq]at h;exact absurd h hq
 rw[if_neg (by simp[hq])]at h ⊢;obtain⟨_,hr⟩:=Wire.numR_back hq;obtain⟨⟨q,k⟩,hk⟩:=Ex (Wire.numR r);rw[hk]at h hq hr ⊢;dsimp only at h hq hr ⊢;split at h
 ·simp at h
 ·next h1 =>
  rw[if_neg h1];split at h
  ·next h2 =>
   rw[if_pos h2];obtain⟨n1,n2⟩:=Wire.numR_back h;refine⟨he,h,?_⟩;unfold enc;rw[if_pos h2,Zg,←n2];exact hr
  ·next h2 =>
   rw[if_neg h2];split at h
   ·next h3 =>
    rw[if_pos h3];obtain⟨n1,n2⟩:=Wire.strR_back h;refine⟨he,h,?_⟩;unfold enc;rw[if_neg h2,if_pos h3,Zg,←n2];exact hr
   ·next h3 =>
    rw[if_neg h3];split at h
    ·next h4 =>
     rw[if_pos h4];obtain⟨p1,p2,is',ks',p3,p4,p5⟩:=itemsW_back hg (k==5) _ _ _ _ h;refine⟨he,p2,?_⟩;rw[Zi,Zi]at p3;dsimp only;rw[p3];dsimp only;unfold enc;rw[if_neg h2,if_neg h3,if_pos h4,Zg,Zg,←p5,p4,hr];obtain⟨_,c2⟩:=Wire.cntR_back p1;rw[←c2]
    ·next h4 =>
     rw[if_neg h4];refine⟨he,hq,?_⟩;unfold enc;rw[if_neg h2,if_neg h3,if_neg h4,Zr];exact hr
theorem read_back:∀ f,Good (read f)
 |0=>fun r h=>by
  exfalso
  unfold read at h;dsimp only at h;split at h
  ·next h1=>exact h1 h
  ·simp at h
 |f+1=>by
  have:read (f+1)=readW (read f):=by funext r;rw[read]
  rw[this];exact readW_back (read_back f)
theorem readValue_back{r:Wire.St}(h:(readValue r).2.1=0):r.e=0∧(readValue r).1.e=0∧r.rest=enc (readValue r).2.2++(readValue r).1.rest:=by
 unfold readValue at h ⊢;dsimp only at h ⊢;split at h
 ·next h1=>exact absurd h h1
 ·next h1 =>
  rw[if_neg h1];split at h
  ·next h2=>exact absurd h h2
  ·next h2 =>
   rw[if_neg h2];exact read_back 32 r h
end Val
namespace Sf
theorem fails_iff(s:Rs):s.fails=false↔s.bad=false∧s.r.e=0:=by
 unfold Rs.fails;rw[YC,bne_eq_false_iff_eq]
def Took(s s':Rs)(l:List UInt8):Prop:=s.fails=false∧s.r.rest=l++s'.r.rest
theorem Took.trans{a b c:Rs}{l m:List UInt8}(h:Took a b l)(k:Took b c m):Took a c (l++m):=⟨h.1,by rw[h.2,k.2,Zg]⟩
theorem num_took{s:Rs}(h:(numS s).1.fails=false):Took s (numS s).1 (Wire.num (numS s).2):=by
 obtain⟨h1,h2⟩:=(fails_iff _).1 h;obtain⟨q1,q2⟩:=Wire.numR_back h2;exact⟨(fails_iff _).2 ⟨h1,q1⟩,q2⟩
theorem str_took{s:Rs}(h:(strS s).1.fails=false):Took s (strS s).1 (Wire.strE (strS s).2):=by
 obtain⟨h1,h2⟩:=(fails_iff _).1 h;obtain⟨q1,q2⟩:=Wire.strR_back h2;exact⟨(fails_iff _).2 ⟨h1,q1⟩,q2⟩
theorem cnt_took{s:Rs}(h:(cntS s).1.fails=false):Took s (cntS s).1 (Wire.num ((cntS s).2:Nat)):=by
 obtain⟨h1,h2⟩:=(fails_iff _).1 h;obtain⟨q1,q2⟩:=Wire.cntR_back h2;exact⟨(fails_iff _).2 ⟨h1,q1⟩,q2⟩
theorem flag_took{s:Rs}(h:(flagS s).1.fails=false):Took s (flagS s).1 (flagE (flagS s).2):=by
 obtain⟨h1,h2⟩:=(fails_iff _).1 h;obtain⟨q1,q2⟩:=Wire.numR_back h2;have h1':(s.bad||((Wire.numR s.r).2 !=0&&(Wire.numR s.r).2 !=1))=false:=h1;rw[YC]at h1';refine⟨(fails_iff _).2 ⟨h1'.1,q1⟩,?_⟩;have e:flagE (flagS s).2=Wire.num (Wire.numR s.r).2:=by
  show Wire.num (if((Wire.numR s.r).2==1)=true then 1 else 0)=_
  have h3:=h1'.2;rw[Zam,bne_eq_false_iff_eq,bne_eq_false_iff_eq]at h3;rcases h3 with h3|h3<;>rw[h3]<;>rfl
 rw[e];exact q2
theorem value_took{s:Rs}(h:(valueS s).1.fails=false):Took s (valueS s).1 (Val.enc (valueS s).2):=by
 obtain⟨h1,h2⟩:=(fails_iff _).1 h;have h1':(s.bad||(Val.readValue s.r).2.1 !=0)=false:=h1;rw[YC,bne_eq_false_iff_eq]at h1';obtain⟨q1,q2,q3⟩:=Val.readValue_back h1'.2;exact⟨(fails_iff _).2 ⟨h1'.1,q1⟩,q3⟩
theorem words_took:∀(c:Nat) (s:Rs) (l:List (List UInt8)),(wordsS c s l).1.fails=false→∃ l',(wordsS c s l).2=l++l'∧l'.length=c∧Took s (wordsS c s l).1 (wordsE l')
 |0,s,l,h=>⟨[],by simp[wordsS],rfl,h,rfl⟩
 |c+1,s,l,h=>by
  unfold wordsS at h ⊢;obtain⟨l',h1,h2,h3⟩:=words_took c _ _ h;exact⟨(strS s).2::l',by rw[h1];simp,by simp[h2],(str_took h3.1).trans h3⟩
theorem inst_took{ver:Int}{s:Rs}(h:(instS ver s).1.fails=false):Took s (instS ver s).1 (instE ver (instS ver s).2):=by
 unfold instS at h ⊢;dsimp only at h ⊢;obtain⟨ws,w1,w2,w3⟩:=words_took _ _ _ h;have k:=cnt_took w3.1;have f:Took (flagS (numS (valueS (strS (strS (strS (strS s).1).1).1).1).1).1).1 (if ver=2 then flagS (flagS (numS (valueS (strS (strS (strS (strS s).1).1).1).1).1).1).1 else((flagS (numS (valueS (strS (strS (strS (strS s).1).1).1).1).1).1).1,false)).1 (if ver=2 then flagE (if ver=2 then flagS (flagS (numS (valueS (strS (strS (strS (strS s).1).1).1).1).1).1).1 else((flagS (numS (valueS (strS (strS (strS (strS s).1).1).1).1).1).1).1,false)).2 else[]):=by
  have:=k.1;by_cases hv:ver=2
  ·simp only[if_pos hv]at this ⊢;exact flag_took this
  ·simp only[if_neg hv]at this ⊢;exact⟨this,rfl⟩
 have t:=flag_took f.1;have n:=num_took t.1;have v:=value_took n.1;have d:=str_took v.1;have c:=str_took d.1;have b:=str_took c.1;have a:=str_took b.1;have all:=((((((((a.trans b).trans c).trans d).trans v).trans n).trans t).trans f).trans k).trans w3;unfold instE;dsimp only;rw[Zi]at w1;rw[w1,w2];exact all
theorem pend_took{s:Rs}(h:(pendS s).1.fails=false):Took s (pendS s).1 (pendE (pendS s).2):=by
 unfold pendS at h ⊢;dsimp only at h ⊢;have c:=str_took h;have b:=str_took c.1;have a:=str_took b.1;exact(a.trans b).trans c
theorem out_took{s:Rs}(h:(outS s).1.fails=false):Took s (outS s).1 (outE (outS s).2):=by
 unfold outS at h ⊢;dsimp only at h ⊢;have c:=flag_took h;have b:=value_took c.1;have a:=str_took b.1;exact(a.trans b).trans c
theorem insts_took{ver:Int}:∀(c:Nat) (s:Rs) (l:List Inst),(instsS ver c s l).1.fails=false→∃ l',(instsS ver c s l).2=(l++l',true)∧l'.length=c∧Took s (instsS ver c s l).1 (l'.flatMap (instE ver))
 |0,s,l,h=>⟨[],by simp[instsS],rfl,h,rfl⟩
 |c+1,s,l,h=>by
  unfold instsS at h ⊢;by_cases hf:s.fails=true
  ·rw[if_pos hf]at h;rw[hf]at h;cases h
  ·rw[if_neg hf]at h ⊢;obtain⟨l',h1,h2,h3⟩:=insts_took c _ _ h;exact⟨(instS ver s).2::l',by rw[h1];simp,by simp[h2],by rw[YI];exact(inst_took h3.1).trans h3⟩
theorem pends_took:∀(c:Nat) (s:Rs) (l:List Pend),(pendsS c s l).1.fails=false→∃ l',(pendsS c s l).2=l++l'∧l'.length=c∧Took s (pendsS c s l).1 (l'.flatMap pendE)
 |0,s,l,h=>⟨[],by simp[pendsS],rfl,h,rfl⟩
 |c+1,s,l,h=>by
  unfold pendsS at h ⊢;obtain⟨l',h1,h2,h3⟩:=pends_took c _ _ h;exact⟨(pendS s).2::l',by rw[h1];simp,by simp[h2],by rw[YI];exact(pend_took h3.1).trans h3⟩
theorem outs_took:∀(c:Nat) (s:Rs) (l:List Outp),(outsS c s l).1.fails=false→∃ l',(outsS c s l).2=(l++l',true)∧l'.length=c∧Took s (outsS c s l).1 (l'.flatMap outE)
 |0,s,l,h=>⟨[],by simp[outsS],rfl,h,rfl⟩
 |c+1,s,l,h=>by
  unfold outsS at h ⊢;by_cases hf:s.fails=true
  ·rw[if_pos hf]at h;rw[hf]at h;cases h
  ·rw[if_neg hf]at h ⊢;obtain⟨l',h1,h2,h3⟩:=outs_took c _ _ h;exact⟨(outS s).2::l',by rw[h1];simp,by simp[h2],by rw[YI];exact(out_took h3.1).trans h3⟩
def restE(ver:Int)(s:St):List UInt8:=
 Wire.strE s.lin++Wire.num s.ser++Wire.num s.insts.length++s.insts.flatMap (instE ver)++(if ver=2 then Wire.num s.pends.length++s.pends.flatMap pendE else[])++Wire.num s.outs.length++s.outs.flatMap outE
theorem stE_rest(ver:Int)(s:St):stE ver s=magic++Wire.num ver++restE ver s:=by
 unfold stE restE;simp only[Zg]
theorem state_took{ver:Int}{s:Rs}(h:(stateS ver s).1.fails=false):Took s (stateS ver s).1 (restE ver (stateS ver s).2):=by
 unfold stateS at h ⊢;dsimp only at h ⊢;obtain⟨A,hA⟩:=Ex (strS s);obtain⟨N,hN⟩:=Ex (numS A.1);obtain⟨CI,hCI⟩:=Ex (cntS N.1);obtain⟨I,hI⟩:=Ex (instsS ver CI.2 CI.1 []);rw[hA,hN,hCI,hI]at h ⊢;have front:I.1.fails=false→I.2.2=true∧Took s I.1 (Wire.strE A.2++Wire.num N.2++Wire.num I.2.1.length++I.2.1.flatMap (instE ver)):=fun hi=>by
  obtain⟨is,i1,i2,i3⟩:=insts_took CI.2 CI.1 [] (by rw[hI];exact hi);rw[hI,Zi]at i1;rw[hI]at i3;have c:=cnt_took (s:=N.1) (by rw[hCI];exact i3.1);have n:=num_took (s:=A.1) (by rw[hN];exact c.1);have a:=str_took (s:=s) (by rw[hA];exact n.1);rw[hCI]at c;rw[hN]at n;rw[hA]at a;rw[i1];refine⟨rfl,?_⟩;dsimp only;rw[i2];exact((a.trans n).trans c).trans i3
 cases hb:I.2.2
 ·rw[hb,if_pos rfl]at h;have:=(front h).1;rw[hb]at this;cases this
 ·rw[hb,if_neg (by decide)]at h;rw[if_neg (by decide)];dsimp only at h ⊢;obtain⟨P,hP⟩:=Ex ((if ver=2 then pendsS (cntS I.1).2 (cntS I.1).1 []else(I.1,[])));rw[hP]at h ⊢;obtain⟨os,o1,o2,o3⟩:=outs_took _ _ _ h;rw[Zi]at o1;have c:=cnt_took (s:=P.1) o3.1;have mid:Took I.1 P.1 (if ver=2 then Wire.num P.2.length++P.2.flatMap pendE else[]):=by
   by_cases hv:ver=2
   ·rw[if_pos hv]at hP ⊢;obtain⟨ps,p1,p2,p3⟩:=pends_took (cntS I.1).2 (cntS I.1).1 [] (by rw[hP];exact c.1);rw[hP,Zi]at p1;rw[hP]at p3;rw[p1,p2];exact(cnt_took p3.1).trans p3
   ·rw[if_neg hv]at hP ⊢;subst hP;exact⟨c.1,rfl⟩
  obtain⟨_,fr⟩:=front mid.1;have all:=((fr.trans mid).trans c).trans o3;unfold restE;dsimp only;rw[o1];dsimp only;rw[o2];exact all
end Sf
end Go.Proofs.YtdgcbckcameggadGreatDoor
