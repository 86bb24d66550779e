/- Part of what the proof needs. -/
import Derived.Test.YthhpocnmfknalaaGreatDoorMFrWorkspaceCallsL
set_option maxHeartbeats 4000000
set_option maxRecDepth 100000
set_option linter.all false
namespace Go.Proofs.YthhpocnmfknalaaGreatDoor
section
open Go.RowKit
theorem cqq:∀b:Fin 256,Lib.indexByte [48,49,50,51,52,53,54,55,56,57,97,98,99,100,101,102] (UInt8.ofNat b.val)=Str.hexv (UInt8.ofNat b.val):=by decide
theorem bjc(b:UInt8)(w:World):
  Calls Tryz.prog 182 #[.string ⟨#[48,49,50,51,52,53,54,55,56,57,97,98,99,100,101,102]⟩,.int .u8 b.toNat] w fun e w'=>e=.returned (.int .i64 (Str.hexv b))/\w'=w:=by
 refine(Tryz.strings_IndexByte _ _ w).mono fun e w' h=>?_
 have:=cqq ⟨b.toNat,b.toNat_lt⟩;simp only[UInt8.ofNat_toNat]at this;rw[<-this];simpa using h
theorem bzq(c:Nat):Lib.validRune (c:Int)=Utf8.valid (c:Int):=by
 unfold Lib.validRune Utf8.valid;rw[YO];simp only[Zx,ZZ,Zg];omega
theorem cxy(l:List UInt8)(h:Str.hexN 6 l=l.length):Str.point l=(0,0,40):=by unfold Str.point;rw[if_pos h]
theorem aq5(l:List UInt8)(k:Nat)(h:Str.hexN 6 l=k)(hk:k<l.length)(hb:l.getD k 0≠125\/k=0\/(1<k/\l.getD 0 0=48)\/Utf8.valid (Str.hexC k l)=false):Str.point l=(0,0,2):=by
 subst h;unfold Str.point;rw[if_neg (by omega),if_pos hb]
theorem ckj(l:List UInt8)(k:Nat)(h:Str.hexN 6 l=k)(hk:k<l.length)(hb:¬(l.getD k 0≠125\/k=0\/(1<k/\l.getD 0 0=48)\/Utf8.valid (Str.hexC k l)=false)):Str.point l=(Str.hexC k l,k+1,0):=by
 subst h;unfold Str.point;rw[if_neg (by omega),if_neg hb]
theorem bjn(l:List UInt8)(k:Nat)(h:Str.hexN 6 l=k)(hk:k<l.length)(h1:l.getD k 0=125)(h2:k≠0)(h3:¬(1<k/\l.getD 0 0=48))(h4:Utf8.valid (Str.hexC k l)=true):Str.point l=(Str.hexC k l,k+1,0):=by
 refine ckj l k h hk ?_;rw[h1,h4];rintro(h|h|h|h)
 ·exact h rfl
 ·exact h2 h
 ·exact h3 h
 ·simp at h
theorem aya(s:ByteArray)(w:World):
  Calls Tryz.prog 215 #[.string s] w fun e w'=>e=.returned (.tuple #[.int .i32 (Str.point s.data.toList).1,.int .i64 (Str.point s.data.toList).2.1,.int .i64 (Str.point s.data.toList).2.2])/\Below w.heap.size w w':=by
 go_enter Tryz.func215,Tryz.ntmps215;go_wp2
 go_loopw [5,6] (fun nv iv wr=>Below w.heap.size w wr/\∃k:Nat,k<=6/\k<=s.size/\iv=.int .i64 k/\nv=.int .i32 (Str.hexC k s.data.toList)/\∀j,j<k->Str.isHex (s.data.toList.getD j 0)=true) (fun _ iv _=>6-(intOf iv).toNat)
 case atStart=>exact⟨Below.refl _ _,0,by omega,by omega,rfl,rfl,by omega⟩
 case round=>
  obtain⟨hbel,k,h6,hk,rfl,rfl,hall⟩:=hrel;have Hl:=kept hbel;have Ha:=kept hall;clear hbel hall;by_cases hend:k=s.size
  ·subst hend;have Hp:=kept (cxy _ (Str.hexN_end 6 s.size s.data.toList Ha.out (by simp) h6 (.inr (.inl (by simp)))));go_wp2;refine bodyPost_ret (v:=.tuple #[.int .i32 0,.int .i64 0,.int .i64 40]) (by simp[results,Tryz.results215,go_sem]) rfl ⟨by rw[Hp.out];rfl,Hl.out⟩
  ·have hlt:k<s.size:=by omega
   have Hb:=kept (show k=6\/Str.isHex (s.data.toList.getD k 0)=false->Str.hexN 6 s.data.toList=k from fun h=>Str.hexN_end 6 k _ Ha.out (by simpa using hk) h6 (h.imp_right .inr));have hgk:s.data.toList.getD k 0=s[k]:=by simp[hlt];rfl
   have hnn:0<=Str.hexC k s.data.toList:=by omega
   have Hc:=kept (Str.hexC_lt k s.data.toList (by simp;omega));by_cases hk6:k=6
   ·have Hn:=kept (Hb.out (.inl hk6));have hk6':¬(k:Int)<6:=by omega
    have hkpos:1<k:=by omega
    clear hk6;obtain⟨u,hu⟩:∃u:Int,(s[k].toNat:Int)=u:=⟨_,rfl⟩;by_cases h125:s[k]=125
    ·have hu1:(u==125)=true:=by rw[<-hu,h125];rfl
     have hu2:(u !=125)=false:=by rw[<-hu,h125];rfl
     have hu3:u=125:=by rw[<-hu,h125];rfl
     clear hu3;have H125:=kept h125;clear h125;by_cases hk0:k=0
     ·exfalso;omega
     ·have hkz1:((k:Int)==0)=false:=by simpa using hk0
      have hkz2:¬(k:Int)=0:=by omega
      have hlt0:0<s.size:=by omega
      obtain⟨z,hz⟩:∃z:Int,(s[0].toNat:Int)=z:=⟨_,rfl⟩;have hg0:s.data.toList.getD 0 0=s[0]:=by simp[hlt0];rfl
      by_cases h48:1<k/\s[0]=48
      ·have Hp:=kept (aq5 _ k Hn.out (by simpa using hlt) (.inr (.inr (.inl ⟨h48.1,by rw[hg0];exact h48.2⟩))));have hk1:1<(k:Int):=by omega
       have hz1:(z==48)=true:=by rw[<-hz,h48.2];rfl
       clear hg0 h48;go_wp2;refine bodyPost_ret (v:=.tuple #[.int .i32 0,.int .i64 0,.int .i64 2]) (by simp[results,Tryz.results215,go_sem]) rfl ⟨by rw[Hp.out];rfl,Hl.out⟩
      ·have hv0:=bzq (Str.hexC k s.data.toList);rcases azl (Utf8.valid (Str.hexC k s.data.toList:Int))with hv|hv
       ·have Hp:=kept (bjn _ k Hn.out (by simpa using hlt) (by rw[hgk];exact H125.out) hk0 (by rw[hg0];exact h48) hv);have Hv0:=kept (hv0.trans hv);clear hv hv0 hg0;have Hr:=kept (fun W=>(Tryz.utf8_ValidRune (Str.hexC k s.data.toList:Int) W));by_cases hk1:1<k
        ·have hk2:1<(k:Int):=by omega
         have hz1:(z==48)=false:=by rw[<-hz];exact azy s[0] 48 (by decide) (fun h=>h48 ⟨hk1,h⟩)
         clear h48;go_wp2_with fail;refine(Hr.out _).mono ?_;rintro e w2 ⟨rfl,rfl⟩;rw[Hv0.out];go_wp2;refine bodyPost_ret (v:=.tuple #[.int .i32 (Str.hexC k s.data.toList:Nat),.int .i64 (k+1:Nat),.int .i64 0]) (by simp[results,Tryz.results215,go_sem]) rfl ⟨by rw[Hp.out],Hl.out⟩
        ·exfalso;omega
       ·have Hp:=kept (aq5 _ k Hn.out (by simpa using hlt) (.inr (.inr (.inr hv))));have Hv0:=kept (hv0.trans hv);clear hv hv0 hg0;have Hr:=kept (fun W=>(Tryz.utf8_ValidRune (Str.hexC k s.data.toList:Int) W));by_cases hk1:1<k
        ·have hk2:1<(k:Int):=by omega
         have hz1:(z==48)=false:=by rw[<-hz];exact azy s[0] 48 (by decide) (fun h=>h48 ⟨hk1,h⟩)
         clear h48;go_wp2_with fail;refine(Hr.out _).mono ?_;rintro e w2 ⟨rfl,rfl⟩;rw[Hv0.out];go_wp2;refine bodyPost_ret (v:=.tuple #[.int .i32 0,.int .i64 0,.int .i64 2]) (by simp[results,Tryz.results215,go_sem]) rfl ⟨by rw[Hp.out];rfl,Hl.out⟩
        ·exfalso;omega
    ·have Hp:=kept (aq5 _ k Hn.out (by simpa using hlt) (.inl (by rw[hgk];exact h125)));have hu1:(u==125)=false:=by rw[<-hu];exact azy s[k] 125 (by decide) h125
     have hu2:(u !=125)=true:=by simpa using hu1
     have hu3:¬u=125:=by simpa using hu1
     go_wp2;refine bodyPost_ret (v:=.tuple #[.int .i32 0,.int .i64 0,.int .i64 2]) (by simp[results,Tryz.results215,go_sem]) rfl ⟨by rw[Hp.out];rfl,Hl.out⟩
   ·have hk6':(k:Int)<6:=by omega
    by_cases hx:Str.isHex s[k]=true
    ·have Hx:=kept hx;have hhx:=Str.hexv_le s[k];have hge:¬Str.hexv s[k]<0:=by simpa [Str.isHex]using hx
     have Hs:=kept (Str.hexC_succ k s.data.toList (by simpa using hlt))
     have Hd:=kept (show Str.hexC k s.data.toList<1048576 by
      have:=Hc.out;have:16^k<=16^5:=YQ (by decide) (by omega)
      omega)
     clear hx;go_wp2_with fail;refine(bjc s[k] _).mono ?_;rintro e w1 ⟨rfl,rfl⟩;go_wp2;refine⟨⟨Hl.out,k+1,by omega,by omega,by go_num,?_,?_⟩,by simp only[intOf];omega⟩
     ·have e:=Hs.out;have e1:s.data.toList[k]'(by simpa using hlt)=s[k]:=rfl;rw[e1]at e;have hd:=Hd.out;generalize Str.hexC k s.data.toList=C at *;generalize Str.hexv s[k]=D at *;rw[e];congr 1;unfold wrap32;omega
     ·intro j hj;by_cases hjk:j=k
      ·subst hjk;rw[hgk];exact Hx.out
      ·exact Ha.out j (by omega)
    ·have Hn:=kept (Hb.out (.inr (by rw[hgk];simpa using hx)));have hlz:Str.hexv s[k]<0:=by simpa [Str.isHex]using hx
     clear hx;obtain⟨u,hu⟩:∃u:Int,(s[k].toNat:Int)=u:=⟨_,rfl⟩;have Hdig:Kept (∀W:World,Calls Tryz.prog 182 #[.string ⟨#[48,49,50,51,52,53,54,55,56,57,97,98,99,100,101,102]⟩,.int .u8 u] W fun e w'=>e=.returned (.int .i64 (Str.hexv s[k]))/\w'=W):=by
      refine kept fun W=>?_
      have h:=bjc s[k] W
      rwa [hu]at h
     by_cases h125:s[k]=125
     ·have hu1:(u==125)=true:=by rw[<-hu,h125];rfl
      have hu2:(u !=125)=false:=by rw[<-hu,h125];rfl
      have hu3:u=125:=by rw[<-hu,h125];rfl
      clear hu3;have H125:=kept h125;clear h125;by_cases hk0:k=0
      ·have Hp:=kept (aq5 _ k Hn.out (by simpa using hlt) (.inr (.inl hk0)));subst hk0;go_wp2_with fail;refine(Hdig.out _).mono ?_;rintro e w1 ⟨rfl,rfl⟩;go_wp2;refine bodyPost_ret (v:=.tuple #[.int .i32 0,.int .i64 0,.int .i64 2]) (by simp[results,Tryz.results215,go_sem]) rfl ⟨by rw[Hp.out];rfl,Hl.out⟩
      ·have hkz1:((k:Int)==0)=false:=by simpa using hk0
       have hkz2:¬(k:Int)=0:=by omega
       have hlt0:0<s.size:=by omega
       obtain⟨z,hz⟩:∃z:Int,(s[0].toNat:Int)=z:=⟨_,rfl⟩;have hg0:s.data.toList.getD 0 0=s[0]:=by simp[hlt0];rfl
       by_cases h48:1<k/\s[0]=48
       ·have Hp:=kept (aq5 _ k Hn.out (by simpa using hlt) (.inr (.inr (.inl ⟨h48.1,by rw[hg0];exact h48.2⟩))));have hk1:1<(k:Int):=by omega
        have hz1:(z==48)=true:=by rw[<-hz,h48.2];rfl
        clear hg0 h48;go_wp2_with fail;refine(Hdig.out _).mono ?_;rintro e w1 ⟨rfl,rfl⟩;go_wp2;refine bodyPost_ret (v:=.tuple #[.int .i32 0,.int .i64 0,.int .i64 2]) (by simp[results,Tryz.results215,go_sem]) rfl ⟨by rw[Hp.out];rfl,Hl.out⟩
       ·have hv0:=bzq (Str.hexC k s.data.toList);rcases azl (Utf8.valid (Str.hexC k s.data.toList:Int))with hv|hv
        ·have Hp:=kept (bjn _ k Hn.out (by simpa using hlt) (by rw[hgk];exact H125.out) hk0 (by rw[hg0];exact h48) hv);have Hv0:=kept (hv0.trans hv);clear hv hv0 hg0;have Hr:=kept (fun W=>(Tryz.utf8_ValidRune (Str.hexC k s.data.toList:Int) W));by_cases hk1:1<k
         ·have hk2:1<(k:Int):=by omega
          have hz1:(z==48)=false:=by rw[<-hz];exact azy s[0] 48 (by decide) (fun h=>h48 ⟨hk1,h⟩)
          clear h48;go_wp2_with fail;refine(Hdig.out _).mono ?_;rintro e w1 ⟨rfl,rfl⟩;go_wp2_with fail;refine(Hr.out _).mono ?_;rintro e w2 ⟨rfl,rfl⟩;rw[Hv0.out];go_wp2;refine bodyPost_ret (v:=.tuple #[.int .i32 (Str.hexC k s.data.toList:Nat),.int .i64 (k+1:Nat),.int .i64 0]) (by simp[results,Tryz.results215,go_sem]) rfl ⟨by rw[Hp.out],Hl.out⟩
         ·have hk2:¬1<(k:Int):=by omega
          clear h48;go_wp2_with fail;refine(Hdig.out _).mono ?_;rintro e w1 ⟨rfl,rfl⟩;go_wp2_with fail;refine(Hr.out _).mono ?_;rintro e w2 ⟨rfl,rfl⟩;rw[Hv0.out];go_wp2;refine bodyPost_ret (v:=.tuple #[.int .i32 (Str.hexC k s.data.toList:Nat),.int .i64 (k+1:Nat),.int .i64 0]) (by simp[results,Tryz.results215,go_sem]) rfl ⟨by rw[Hp.out],Hl.out⟩
        ·have Hp:=kept (aq5 _ k Hn.out (by simpa using hlt) (.inr (.inr (.inr hv))));have Hv0:=kept (hv0.trans hv);clear hv hv0 hg0;have Hr:=kept (fun W=>(Tryz.utf8_ValidRune (Str.hexC k s.data.toList:Int) W));by_cases hk1:1<k
         ·have hk2:1<(k:Int):=by omega
          have hz1:(z==48)=false:=by rw[<-hz];exact azy s[0] 48 (by decide) (fun h=>h48 ⟨hk1,h⟩)
          clear h48;go_wp2_with fail;refine(Hdig.out _).mono ?_;rintro e w1 ⟨rfl,rfl⟩;go_wp2_with fail;refine(Hr.out _).mono ?_;rintro e w2 ⟨rfl,rfl⟩;rw[Hv0.out];go_wp2;refine bodyPost_ret (v:=.tuple #[.int .i32 0,.int .i64 0,.int .i64 2]) (by simp[results,Tryz.results215,go_sem]) rfl ⟨by rw[Hp.out];rfl,Hl.out⟩
         ·have hk2:¬1<(k:Int):=by omega
          clear h48;go_wp2_with fail;refine(Hdig.out _).mono ?_;rintro e w1 ⟨rfl,rfl⟩;go_wp2_with fail;refine(Hr.out _).mono ?_;rintro e w2 ⟨rfl,rfl⟩;rw[Hv0.out];go_wp2;refine bodyPost_ret (v:=.tuple #[.int .i32 0,.int .i64 0,.int .i64 2]) (by simp[results,Tryz.results215,go_sem]) rfl ⟨by rw[Hp.out];rfl,Hl.out⟩
     ·have Hp:=kept (aq5 _ k Hn.out (by simpa using hlt) (.inl (by rw[hgk];exact h125)));have hu1:(u==125)=false:=by rw[<-hu];exact azy s[k] 125 (by decide) h125
      have hu2:(u !=125)=true:=by simpa using hu1
      have hu3:¬u=125:=by simpa using hu1
      go_wp2_with fail;refine(Hdig.out _).mono ?_;rintro e w1 ⟨rfl,rfl⟩;go_wp2;refine bodyPost_ret (v:=.tuple #[.int .i32 0,.int .i64 0,.int .i64 2]) (by simp[results,Tryz.results215,go_sem]) rfl ⟨by rw[Hp.out];rfl,Hl.out⟩
theorem axa(b:UInt8)(l:List UInt8):Str.escp (b::l)=if b=110 then(10,1,0)else if b=114 then(13,1,0)else if b=116 then(9,1,0)else if b=34\/b=92 then(b.toNat,1,0)
  else if b=117 then(match l with
   |[]=>(0,0,40)
   |c::u=>if c=123 then((Str.point u).1,(Str.point u).2.1+2,(Str.point u).2.2)else(0,0,2))
  else(0,0,2):=rfl
theorem extract_drop(s:ByteArray)(k:Nat):(s.extract k s.size).data.toList=s.data.toList.drop k:=by
 simp[Zy]
theorem ckk(l:List UInt8):(Str.point l).2.1<=7:=by
 have:=Str.hexN_le 6 l;unfold Str.point
 repeat' split
 all_goals simp only
 all_goals omega
theorem bvi(s:ByteArray)(w:World):
  Calls Tryz.prog 197 #[.string s] w fun e w'=>e=.returned (.tuple #[.int .i32 (Str.escp s.data.toList).1,.int .i64 (Str.escp s.data.toList).2.1,.int .i64 (Str.escp s.data.toList).2.2])/\Below w.heap.size w w':=by
 by_cases h0:s.size=0
 ·have hs:s=⟨#[]⟩:=by
   apply ByteArray.ext;exact Array.eq_empty_of_size_eq_zero h0
  subst hs;go_enter Tryz.func197,Tryz.ntmps197;go_wp2;refine bodyPost_ret (v:=.tuple #[.int .i32 0,.int .i64 0,.int .i64 40]) (by simp[results,Tryz.results197,go_sem]) rfl ⟨rfl,Below.refl _ _⟩
 ·have hlt:0<s.size:=by omega
  have hd:s.data.toList=s[0]::s.data.toList.drop 1:=by have:=drop_cons s 0 hlt;simpa using this
  have hie:s.toList.isEmpty=false:=by rw[ByteArray.toList_eq,hd];rfl
  go_enter Tryz.func197,Tryz.ntmps197;clear h0;by_cases h110:s[0]=110
  ·have Hp:=kept (show Str.escp s.data.toList=(10,1,0) by rw[hd,axa,if_pos h110]);have hu:(s[0].toNat:Int)=110:=by rw[h110];rfl
   clear hd h110;go_wp2;refine bodyPost_ret (v:=.tuple #[.int .i32 10,.int .i64 1,.int .i64 0]) (by simp[results,Tryz.results197,go_sem]) rfl ⟨by rw[Hp.out];rfl,Below.refl _ _⟩
  have g110:=azy s[0] 110 (by decide) h110;by_cases h114:s[0]=114
  ·have Hp:=kept (show Str.escp s.data.toList=(13,1,0) by rw[hd,axa,if_neg h110,if_pos h114]);have hu:(s[0].toNat:Int)=114:=by rw[h114];rfl
   clear hd h110 h114;go_wp2;refine bodyPost_ret (v:=.tuple #[.int .i32 13,.int .i64 1,.int .i64 0]) (by simp[results,Tryz.results197,go_sem]) rfl ⟨by rw[Hp.out];rfl,Below.refl _ _⟩
  have g114:=azy s[0] 114 (by decide) h114;by_cases h116:s[0]=116
  ·have Hp:=kept (show Str.escp s.data.toList=(9,1,0) by rw[hd,axa,if_neg h110,if_neg h114,if_pos h116]);have hu:(s[0].toNat:Int)=116:=by rw[h116];rfl
   clear hd h110 h114 h116;go_wp2;refine bodyPost_ret (v:=.tuple #[.int .i32 9,.int .i64 1,.int .i64 0]) (by simp[results,Tryz.results197,go_sem]) rfl ⟨by rw[Hp.out];rfl,Below.refl _ _⟩
  have g116:=azy s[0] 116 (by decide) h116;by_cases h34:s[0]=34
  ·have Hp:=kept (show Str.escp s.data.toList=(34,1,0) by rw[hd,axa,if_neg h110,if_neg h114,if_neg h116,if_pos (.inl h34),h34];rfl);have hu:(s[0].toNat:Int)=34:=by rw[h34];rfl
   clear hd h110 h114 h116 h34;go_wp2;refine bodyPost_ret (v:=.tuple #[.int .i32 34,.int .i64 1,.int .i64 0]) (by simp[results,Tryz.results197,go_sem]) rfl ⟨by rw[Hp.out];rfl,Below.refl _ _⟩
  have g34:=azy s[0] 34 (by decide) h34;by_cases h92:s[0]=92
  ·have Hp:=kept (show Str.escp s.data.toList=(92,1,0) by rw[hd,axa,if_neg h110,if_neg h114,if_neg h116,if_pos (.inr h92),h92];rfl);have hu:(s[0].toNat:Int)=92:=by rw[h92];rfl
   clear hd h110 h114 h116 h34 h92;go_wp2;refine bodyPost_ret (v:=.tuple #[.int .i32 92,.int .i64 1,.int .i64 0]) (by simp[results,Tryz.results197,go_sem]) rfl ⟨by rw[Hp.out];rfl,Below.refl _ _⟩
  have g92:=azy s[0] 92 (by decide) h92;by_cases h117:s[0]=117
  ·have He:=kept (show Str.escp s.data.toList=_ by rw[hd,axa,if_neg h110,if_neg h114,if_neg h116,if_neg (fun h=>h.elim h34 h92),if_pos h117]);have hu:(s[0].toNat:Int)=117:=by rw[h117];rfl
   clear hd h117 h110 g110 h114 g114 h116 g116 h34 g34 h92 g92;by_cases h1:s.size=1
   ·have Hp:=kept (show Str.escp s.data.toList=(0,0,40) by rw[He.out,ZQ (by simp;omega)]);have h1':(s.size:Int)=1:=by omega
    go_wp2;refine bodyPost_ret (v:=.tuple #[.int .i32 0,.int .i64 0,.int .i64 40]) (by simp[results,Tryz.results197,go_sem]) rfl ⟨by rw[Hp.out];rfl,Below.refl _ _⟩
   ·have hlt1:1<s.size:=by omega
    have hlt1':(1:Int)<s.size:=by omega
    have hd1:s.data.toList.drop 1=s[1]::s.data.toList.drop 2:=drop_cons s 1 hlt1;have h1a:((s.size:Int)==1)=false:=by simp;omega
    by_cases h123:s[1]=123
    ·have Hp:=kept (show Str.escp s.data.toList=((Str.point (s.data.toList.drop 2)).1,(Str.point (s.data.toList.drop 2)).2.1+2,(Str.point (s.data.toList.drop 2)).2.2) by rw[He.out,hd1];exact if_pos h123);have hv:(s[1].toNat:Int)=123:=by rw[h123];rfl
     have hsl:(2:Int)<=s.size:=by omega
     have hx:=aya (s.extract 2 s.size);rw[extract_drop]at hx;have Hx:=kept hx;have hle:=ckk (s.data.toList.drop 2);clear hd1 h123 hx h1;generalize Str.point (s.data.toList.drop 2)=q at *;obtain⟨q1,q2,q3⟩:=q;simp only at hle;go_wp2_with fail;refine(Hx.out _).mono ?_;rintro e w1 ⟨rfl,b1⟩;have B1:=kept b1;clear b1;go_wp2;refine bodyPost_ret (v:=.tuple #[.int .i32 q1,.int .i64 (q2+2:Nat),.int .i64 q3]) (by simp[results,Tryz.results197,go_sem]) rfl ⟨by rw[Hp.out],B1.out⟩
    ·have Hp:=kept (show Str.escp s.data.toList=(0,0,2) by rw[He.out,hd1];exact if_neg h123);have hv1:=azy s[1] 123 (by decide) h123;have hv2:((s[1].toNat:Int)!=123)=true:=by simpa using hv1
     clear hd1 h123 h1;go_wp2;refine bodyPost_ret (v:=.tuple #[.int .i32 0,.int .i64 0,.int .i64 2]) (by simp[results,Tryz.results197,go_sem]) rfl ⟨by rw[Hp.out];rfl,Below.refl _ _⟩
  ·have Hp:=kept (show Str.escp s.data.toList=(0,0,2) by rw[hd,axa,if_neg h110,if_neg h114,if_neg h116,if_neg (fun h=>h.elim h34 h92),if_neg h117]);have g117:=azy s[0] 117 (by decide) h117;clear hd h117 h110 h114 h116 h34 h92;go_wp2;refine bodyPost_ret (v:=.tuple #[.int .i32 0,.int .i64 0,.int .i64 2]) (by simp[results,Tryz.results197,go_sem]) rfl ⟨by rw[Hp.out];rfl,Below.refl _ _⟩
end
section
open Go.RowKit
structure Bld(W:World)(l:List UInt8)(w:World):Prop where
 out:Lib.IsBuilderF 192 5 W.heap.size W.heap.size (Lib.byteCells l) w
theorem ay8{T e:TypeId}{B b:Nat}{p:Value}{bs:List Value}{W W':World}(h:Lib.BuilderAtF T e B b p bs W)(hb:Below W.heap.size W W'):Lib.BuilderAtF T e B b p bs W':=by
 have hlt:=h.lt;obtain⟨hB,v,hv,hown,hne⟩:=h;exact⟨hB,v,(hb.block b hlt).trans hv,hown.kept (row:=none) ⟨hb.os,hb.tape,hb.output,hb.size,fun k hk _=>hb.block k hk⟩ (Classical.em _),hne⟩
namespace Bld
variable {W w:World} {l:List UInt8}
theorem fresh(W:World):Bld W [] (W.alloc (.cells #[.pointer none,.slice none 0 0] 192)):=⟨Lib.IsBuilderF.of (Lib.fresh_isBuilder _ _ W)⟩
theorem below{w':World}(h:Bld W l w)(b:Below w.heap.size w w'):Bld W l w':=⟨h.out.elim (fun x=> .inl (ay8 x b)) (fun x=> .inr (ay8 x b))⟩
theorem size(h:Bld W l w):W.heap.size<w.heap.size:=h.out.elim (fun x=>x.lt) (fun x=>x.lt)
theorem byte(h:Bld W l w)(hl:l.length<=1000000000)(c:UInt8):
  Calls Tryz.prog 199 #[.pointer (some ⟨W.heap.size,0,none⟩),.int .u8 c.toNat] w fun e w'=>e=.returned .nilIface/\Bld W (l++[c]) w'/\Below W.heap.size w w':=by
 have hs:=h.size;refine(Tryz.Builder_WriteByte_k _ _ _ c.toNat w h.out (by rw[Lib.byteCells_length];omega) (by omega)).mono fun e w' hh=>⟨hh.1,⟨.inr ?_⟩,hh.2.2.1⟩
 have:=hh.2.1;simpa [Lib.byteCells]using this
theorem str(h:Bld W l w)(hl:l.length<=1000000000)(s:ByteArray)(hs2:s.size<=1000000000):
  Calls Tryz.prog 166 #[.pointer (some ⟨W.heap.size,0,none⟩),.string s] w fun e w'=>e=.returned (.tuple #[.int .i64 s.size,.nilIface])/\Bld W (l++s.data.toList) w'/\Below W.heap.size w w':=by
 have hs:=h.size;refine(Tryz.Builder_WriteString_k _ _ _ s w h.out (by rw[Lib.byteCells_length];omega) (by omega)).mono fun e w' hh=>⟨hh.1,⟨.inr ?_⟩,hh.2.2.1⟩
 have:=hh.2.1;simpa [Lib.byteCells,Lib.strCells]using this
theorem rune(h:Bld W l w)(hl:l.length<=1000000000)(c:Nat)(hc:c<2147483648):
  Calls Tryz.prog 198 #[.pointer (some ⟨W.heap.size,0,none⟩),.int .i32 c] w fun e w'=>(∃n:Int,e=.returned (.tuple #[.int .i64 n,.nilIface]))/\Bld W (l++Str.enc c) w'/\Below W.heap.size w w':=by
 have hs:=h.size;refine(Tryz.Builder_WriteRune_k _ _ _ c (by omega) (by omega) w h.out (by rw[Lib.byteCells_length];omega) (by omega)).mono fun e w' hh=>⟨⟨_,hh.1⟩,⟨.inr ?_⟩,hh.2.2.1⟩
 have:=hh.2.1;rw[<-Lib.byteCells_encodeRune]at this;simpa [Lib.byteCells,Str.enc]using this
theorem len(h:Bld W l w):
  Calls Tryz.prog 145 #[.pointer (some ⟨W.heap.size,0,none⟩)] w fun e w'=>e=.returned (.int .i64 l.length)/\w'=w:=by
 refine(Tryz.Builder_Len_f _ _ _ w h.out).mono fun e w' hh=>?_
 rw[Lib.byteCells_length]at hh;exact hh
theorem string(h:Bld W l w):
  Calls Tryz.prog 146 #[.pointer (some ⟨W.heap.size,0,none⟩)] w fun e w'=>e=.returned (.string ⟨l.toArray⟩)/\Below W.heap.size w w':=by
 have hs:=h.size;exact(Tryz.Builder_String_any_k _ _ _ w h.out (by omega)).mono fun e w' hh=>⟨hh.1,hh.2.2.1⟩
end Bld
end
section
open Go.RowKit
open Go.Lib in
theorem Str.decodeGo_drop(s:ByteArray)(k:Nat)(h:k<s.size):decodeGo (s.extract k s.size)=decodeL (s.data.toList.drop k):=by
 unfold decodeGo;rw[if_neg (by simp;omega),<-Str.decL (s.extract k s.size) 0];congr 1;simp[Zy]
theorem bv6(s:ByteArray)(w:World)(hs:s.size<=2000000)(g:Glob w):
  Calls Tryz.prog 180 #[.string s] w fun e w'=>e=.returned (.tuple #[.string ⟨(Str.unquote s.data.toList).1.toArray⟩,.int .i64 (Str.unquote s.data.toList).2.1,.int .i64 (Str.unquote s.data.toList).2.2])/\Below w.heap.size w w':=by
 obtain⟨U,hU⟩:=Ex (Str.unquote s.data.toList);obtain⟨U1,U2,U3⟩:=U;rw[hU];show Calls Tryz.prog 180 #[.string s] w fun e w'=>e=.returned (.tuple #[.string ⟨U1.toArray⟩,.int .i64 U2,.int .i64 U3])/\Below w.heap.size w w'
 have G:=kept g;clear g;by_cases h0:s.size=0
 ·have hs:s=⟨#[]⟩:=by
   apply ByteArray.ext;exact Array.eq_empty_of_size_eq_zero h0
  subst hs;obtain⟨rfl,h⟩:=Y0 (show(([],0,40):List UInt8×Nat×Int)=(U1,U2,U3)from hU);obtain⟨rfl,rfl⟩:=Y0 h;go_enter Tryz.func180,Tryz.ntmps180;go_wp2;refine bodyPost_ret (v:=.tuple #[.string ⟨#[]⟩,.int .i64 0,.int .i64 40]) (by simp[results,Tryz.results180,go_sem]) rfl ⟨rfl,Below.refl _ _⟩
 ·have hlt:0<s.size:=by omega
  have hd:s.data.toList=s[0]::s.data.toList.drop 1:=by have:=drop_cons s 0 hlt;simpa using this
  have hie:s.toList.isEmpty=false:=by rw[ByteArray.toList_eq,hd];rfl
  have hne:s.data.toList≠[]:=by rw[hd];simp
  have hg0:s.data.toList.getD 0 0=s[0]:=by rw[hd];rfl
  unfold Str.unquote at hU;rw[if_neg hne,hg0]at hU;clear h0 hd hne hg0;by_cases h34:s[0]=34
  ·rw[if_neg (by simpa using h34)]at hU;have HU:=kept hU;have hu:(s[0].toNat:Int)=34:=by rw[h34];rfl
   clear hU h34;go_enter Tryz.func180,Tryz.ntmps180;go_wp2
   go_loopw [6] (fun av wr=>Below w.heap.size w wr/\∃(k f:Nat) (acc:List UInt8),1<=k/\k<=s.size/\av=.int .i64 k/\s.size-k<f/\acc.length<=4*k/\Bld w acc wr/\Str.unq f (s.data.toList.drop k) acc k=(U1,U2,U3)) (fun av _=>s.size-(intOf av).toNat)
   case atStart=>exact⟨ball w _,1,s.data.toList.length,[],by omega,by omega,rfl,by simp;omega,by simp,Bld.fresh w,HU.out⟩
   case round=>
    obtain⟨hbel,k,f,acc,hk1,hk,rfl,hf,hacc,hb,hun⟩:=hrel;have Hl:=kept hbel;have Hb:=kept hb;have Hacc:=kept (show acc.length<=1000000000 by omega);clear hbel hb;obtain⟨f,rfl⟩:∃f',f=f'+1:=⟨f-1,by omega⟩;by_cases hend:k=s.size
    ·subst hend;rw[ZQ (by simp),Str.unq_nil]at hun;obtain⟨rfl,h⟩:=Y0 hun;obtain⟨rfl,rfl⟩:=Y0 h;clear hacc hf;go_wp2;refine bodyPost_ret (v:=.tuple #[.string ⟨#[]⟩,.int .i64 0,.int .i64 40]) (by simp[results,Tryz.results180,go_sem]) rfl ⟨rfl,Hl.out⟩
    ·have hkl:k<s.size:=by omega
     have hne:s.data.toList.drop k≠[]:=by rw[drop_cons s k hkl];simp
     have hgk:(s.data.toList.drop k).getD 0 0=s[k]:=by rw[drop_cons s k hkl];rfl
     by_cases h34k:s[k]=34
     ·rw[Str.unq_quote _ _ _ _ hne (by rw[hgk];exact h34k)]at hun;have hv:(s[k].toNat:Int)=34:=by rw[h34k];rfl
      clear hne hgk h34k hf;have hke:((k:Int)==s.size)=false:=by simp;omega
      by_cases hbig:4096<acc.length
      ·rw[if_pos hbig]at hun;obtain⟨rfl,h⟩:=Y0 hun;obtain⟨rfl,rfl⟩:=Y0 h;have hbig':(4096:Int)<acc.length:=by omega
       clear hbig hacc hend;go_wp2_with fail;refine(Hb.out.len).mono ?_;rintro e w1 ⟨rfl,rfl⟩;go_wp2;refine bodyPost_ret (v:=.tuple #[.string ⟨#[]⟩,.int .i64 0,.int .i64 3]) (by simp[results,Tryz.results180,go_sem]) rfl ⟨rfl,Hl.out⟩
      ·rw[if_neg hbig]at hun;obtain⟨rfl,h⟩:=Y0 hun;obtain⟨rfl,rfl⟩:=Y0 h;have hbig':¬(4096:Int)<acc.length:=by omega
       clear hbig hacc hend;go_wp2_with fail;refine(Hb.out.len).mono ?_;rintro e w1 ⟨rfl,rfl⟩;go_wp2_with fail;refine(Hb.out.string).mono ?_;rintro e w2 ⟨rfl,b2⟩;have B2:=kept b2;clear b2;go_wp2;refine bodyPost_ret (v:=.tuple #[.string ⟨acc.toArray⟩,.int .i64 (k+1:Nat),.int .i64 0]) (by simp[results,Tryz.results180,go_sem]) rfl ⟨rfl,Hl.out.trans B2.out⟩
     ·obtain⟨⟨c,n⟩,hd⟩:=Ex (Lib.decodeL (s.data.toList.drop k));have hwd:=Str.dec_width s k hkl;have hcl:=Str.dec_lt (s.data.toList.drop k);rw[<-Str.decL,hd]at hwd;rw[hd]at hcl;have hw1:1<=n:=hwd.1;have hw2':k+n<=s.size:=hwd.2;have hw2:(k:Int)+n<=s.size:=by omega
      have Hcl:=kept (show c<2147483648 by have:c<=1114111:=hcl;omega);have Hd:=kept hd;have Hdec:Kept (∀W:World,Glob W->Calls Tryz.prog 196 #[.string (s.extract k s.size)] W fun e W'=>e=.returned (.tuple #[.int .i32 c,.int .i64 n])/\Below W.heap.size W W'):=by
       refine kept fun W gW=>?_
       have h:=Tryz.utf8_DecodeRuneInString (s.extract k s.size) W gW.tabs;rw[Str.decodeGo_drop s k hkl,hd]at h;exact h
      have hvk1:=azy s[k] 34 (by decide) h34k;have hvk2:((s[k].toNat:Int)!=34)=true:=by simpa using hvk1
      rw[<-hgk]at h34k;clear hd hwd hcl hend;rw[hgk]at h34k;by_cases hc92:c=92
      ·have h92:(s.data.toList.drop k).getD 0 0=92:=by
        have hcs:=Str.dec_cases (s.data.toList.drop k);rw[Hd.out,hc92]at hcs;rcases hcs with⟨_,h4⟩|⟨_,h4⟩
        ·rw[<-YG];exact(congrArg Prod.fst h4).symm
        ·simp only at h4;omega
       obtain⟨⟨x,m,e0⟩,he⟩:=Ex (Str.escp (s.data.toList.drop (k+1)));have H1:=kept (Str.one_esc (s.data.toList.drop k) h92 x m e0 (by rw[Y6];exact he));have Hx:Kept (∀W:World,Calls Tryz.prog 197 #[.string (s.extract (k+1) s.size)] W fun e W'=>e=.returned (.tuple #[.int .i32 x,.int .i64 m,.int .i64 e0])/\Below W.heap.size W W'):=by
        refine kept fun W=>?_
        have h:=bvi (s.extract (k+1) s.size) W;rw[extract_drop,he]at h;exact h
       have hxl:=Str.escp_lt (s.data.toList.drop (k+1));have hml:=Str.escp_len (s.data.toList.drop (k+1));rw[he]at hxl hml;have Hxl:=kept (show x<2147483648 by have:x<16777216:=hxl;omega);have hk1s:(k:Int)+1<=s.size:=by omega
       subst hc92;clear he hxl h92;by_cases he0:e0=0
       ·subst he0;have hml2:=hml rfl;have hm1:1<=m:=hml2.1;have hm2:m+k+1<=s.size:=by have:=hml2.2;simp at this;omega
        clear hml hml2;rw[if_neg (by simp)]at H1;rw[Str.unq_step _ _ _ _ _ _ hne (by rw[hgk];exact h34k) H1.out,Y6]at hun;have Hun:=kept hun;have Hac:=kept hacc;clear hne hgk h34k hun hacc;go_wp2_with fail;refine(Hdec.out _ (G.out.below Hl.out)).mono ?_;rintro e w1 ⟨rfl,b1⟩;have B1:=kept (bthen Hl.out b1);have Hb1:=kept (Hb.out.below b1);clear b1;go_wp2_with fail;refine(Hx.out _).mono ?_;rintro e w2 ⟨rfl,b2⟩;have B2:=kept (bthen B1.out b2);have Hb2:=kept (Hb1.out.below b2);clear b2;go_wp2_with fail;refine(Hb2.out.rune Hacc.out x Hxl.out).mono ?_;rintro e w3 ⟨⟨q,rfl⟩,hb3,b3⟩;have B3:=kept (Below.trans B2.out b3);have Hb3:=kept hb3;clear b3 hb3;go_wp2
        go_roundw
        case rel=>
         refine⟨B3.out,k+(m+1),f,acc++Str.enc x,by omega,by omega,by go_num,by omega,?_,Hb3.out,Hun.out⟩;have h1:=(Str.enc_length x).2;have h2:=Hac.out;rw[Za];omega
        case measure=>simp[intOf];omega
       ·rw[if_pos he0]at H1;rw[Str.unq_err _ _ _ _ _ _ _ hne (by rw[hgk];exact h34k) H1.out he0]at hun;obtain⟨rfl,h⟩:=Y0 hun;obtain⟨rfl,rfl⟩:=Y0 h;have he1:(e0==0)=false:=by simpa using he0
        have he2:(e0 !=0)=true:=by simpa using he0
        clear hne hgk h34k hf hacc hml hw1 hw2 hw2';go_wp2_with fail;refine(Hdec.out _ (G.out.below Hl.out)).mono ?_;rintro e w1 ⟨rfl,b1⟩;have B1:=kept (bthen Hl.out b1);have Hb1:=kept (Hb.out.below b1);clear b1;go_wp2_with fail;refine(Hx.out _).mono ?_;rintro e w2 ⟨rfl,b2⟩;have B2:=kept (bthen B1.out b2);clear b2;go_wp2;refine bodyPost_ret (v:=.tuple #[.string ⟨#[]⟩,.int .i64 0,.int .i64 e0]) (by simp[results,Tryz.results180,go_sem]) rfl ⟨rfl,B2.out⟩
      ·have g1:((c:Int)==92)=false:=by simp;omega
       have g2:¬(c:Int)=92:=by omega
       by_cases h655:c=65533
       ·subst h655;by_cases hn1:n=1
        ·subst hn1;have H1:=kept (Str.one_bad (s.data.toList.drop k) _ _ Hd.out hc92 (.inl ⟨rfl,rfl⟩));rw[Str.unq_err _ _ _ _ _ _ _ hne (by rw[hgk];exact h34k) H1.out (by decide)]at hun;obtain⟨rfl,h⟩:=Y0 hun;obtain⟨rfl,rfl⟩:=Y0 h;clear hne hgk h34k hf hacc;go_wp2_with fail;refine(Hdec.out _ (G.out.below Hl.out)).mono ?_;rintro e w1 ⟨rfl,b1⟩;have B1:=kept (bthen Hl.out b1);have Hb1:=kept (Hb.out.below b1);clear b1;go_wp2;refine bodyPost_ret (v:=.tuple #[.string ⟨#[]⟩,.int .i64 0,.int .i64 2]) (by simp[results,Tryz.results180,go_sem]) rfl ⟨rfl,B1.out⟩
        ·have hn2:((n:Int)==1)=false:=by simp;omega
         have H1:=kept (Str.one_ok (s.data.toList.drop k) hne _ _ Hd.out hc92 (by omega));rw[Str.unq_step _ _ _ _ _ _ hne (by rw[hgk];exact h34k) H1.out,Y6]at hun;have Hun:=kept hun;have Hac:=kept hacc;clear hne hgk h34k hun hacc;go_wp2_with fail;refine(Hdec.out _ (G.out.below Hl.out)).mono ?_;rintro e w1 ⟨rfl,b1⟩;have B1:=kept (bthen Hl.out b1);have Hb1:=kept (Hb.out.below b1);clear b1;go_wp2_with fail;refine(Hb1.out.rune Hacc.out _ Hcl.out).mono ?_;rintro e w2 ⟨⟨q,rfl⟩,hb2,b2⟩;have B2:=kept (Below.trans B1.out b2);have Hb2:=kept hb2;clear b2 hb2;go_wp2
         go_roundw
         case rel=>
          refine⟨B2.out,k+n,f,acc++Str.enc _,by omega,hw2',by go_num,by omega,?_,Hb2.out,Hun.out⟩;have h1:=(Str.enc_length 65533).2;have h2:=Hac.out;rw[Za];omega
         case measure=>simp[intOf];omega
       ·have h655a:((c:Int)==65533)=false:=by simp;omega
        by_cases h32:c<32
        ·have h32':(c:Int)<32:=by omega
         have H1:=kept (Str.one_bad (s.data.toList.drop k) _ _ Hd.out hc92 (.inr (.inl h32)));rw[Str.unq_err _ _ _ _ _ _ _ hne (by rw[hgk];exact h34k) H1.out (by decide)]at hun;obtain⟨rfl,h⟩:=Y0 hun;obtain⟨rfl,rfl⟩:=Y0 h;clear hne hgk h34k hf hacc;go_wp2_with fail;refine(Hdec.out _ (G.out.below Hl.out)).mono ?_;rintro e w1 ⟨rfl,b1⟩;have B1:=kept (bthen Hl.out b1);have Hb1:=kept (Hb.out.below b1);clear b1;go_wp2;refine bodyPost_ret (v:=.tuple #[.string ⟨#[]⟩,.int .i64 0,.int .i64 2]) (by simp[results,Tryz.results180,go_sem]) rfl ⟨rfl,B1.out⟩
        ·have h32':¬(c:Int)<32:=by omega
         by_cases h127:c=127
         ·subst h127;have H1:=kept (Str.one_bad (s.data.toList.drop k) _ _ Hd.out hc92 (.inr (.inr rfl)));rw[Str.unq_err _ _ _ _ _ _ _ hne (by rw[hgk];exact h34k) H1.out (by decide)]at hun;obtain⟨rfl,h⟩:=Y0 hun;obtain⟨rfl,rfl⟩:=Y0 h;clear hne hgk h34k hf hacc;go_wp2_with fail;refine(Hdec.out _ (G.out.below Hl.out)).mono ?_;rintro e w1 ⟨rfl,b1⟩;have B1:=kept (bthen Hl.out b1);have Hb1:=kept (Hb.out.below b1);clear b1;go_wp2;refine bodyPost_ret (v:=.tuple #[.string ⟨#[]⟩,.int .i64 0,.int .i64 2]) (by simp[results,Tryz.results180,go_sem]) rfl ⟨rfl,B1.out⟩
         ·have h127a:((c:Int)==127)=false:=by simp;omega
          have H1:=kept (Str.one_ok (s.data.toList.drop k) hne _ _ Hd.out hc92 (by omega));rw[Str.unq_step _ _ _ _ _ _ hne (by rw[hgk];exact h34k) H1.out,Y6]at hun;have Hun:=kept hun;have Hac:=kept hacc;clear hne hgk h34k hun hacc;go_wp2_with fail;refine(Hdec.out _ (G.out.below Hl.out)).mono ?_;rintro e w1 ⟨rfl,b1⟩;have B1:=kept (bthen Hl.out b1);have Hb1:=kept (Hb.out.below b1);clear b1;go_wp2_with fail;refine(Hb1.out.rune Hacc.out _ Hcl.out).mono ?_;rintro e w2 ⟨⟨q,rfl⟩,hb2,b2⟩;have B2:=kept (Below.trans B1.out b2);have Hb2:=kept hb2;clear b2 hb2;go_wp2
          go_roundw
          case rel=>
           refine⟨B2.out,k+n,f,acc++Str.enc _,by omega,hw2',by go_num,by omega,?_,Hb2.out,Hun.out⟩;have h1:=(Str.enc_length c).2;have h2:=Hac.out;rw[Za];omega
          case measure=>simp[intOf];omega
  ·rw[if_pos h34]at hU;obtain⟨rfl,h⟩:=Y0 hU;obtain⟨rfl,rfl⟩:=Y0 h;have g34:=azy s[0] 34 (by decide) h34;have g34':((s[0].toNat:Int)!=34)=true:=by simpa using g34
   clear h34 hU;go_enter Tryz.func180,Tryz.ntmps180;go_wp2;refine bodyPost_ret (v:=.tuple #[.string ⟨#[]⟩,.int .i64 0,.int .i64 2]) (by simp[results,Tryz.results180,go_sem]) rfl ⟨rfl,Below.refl _ _⟩
theorem cwk(s:ByteArray)(k:Nat)(h:k<s.size):(s.data.toList.take (k+1)).flatMap Str.esc=(s.data.toList.take k).flatMap Str.esc++Str.esc s[k]:=by
 rw[cqs s k h,Zah];simp
theorem cjt(s:ByteArray)(w:World)(hs:s.size<=2000000)(g:Glob w):
  Calls Tryz.prog 181 #[.string s] w fun e w'=>e=.returned (.string ⟨(Str.quote s.data.toList).toArray⟩)/\Below w.heap.size w w':=by
 have G:=kept g;clear g;have Hb0:=kept (Bld.fresh w);have B0:=kept (ball w (.cells #[.pointer none,.slice none 0 0] 192));go_enter Tryz.func181,Tryz.ntmps181;go_wp2_with fail;refine(Hb0.out.byte (by simp) 34).mono ?_;rintro e w2 ⟨rfl,hb2,b2⟩;have B2:=kept (Below.trans B0.out b2);have Hb2:=kept hb2;clear B0 Hb0 b2 hb2;go_wp2
 go_loopw [9] (fun iv wr=>Below w.heap.size w wr/\∃k:Nat,k<=s.size/\iv=.int .i64 k/\Bld w (34::(s.data.toList.take k).flatMap Str.esc) wr) (fun iv _=>s.size-(intOf iv).toNat)
 case atStart=>exact⟨B2.out,0,by omega,rfl,Hb2.out⟩
 case round=>
  clear B2 Hb2;obtain⟨hbel,k,hk,rfl,hb⟩:=hrel;have Hl:=kept hbel;have Hb:=kept hb
  have Hlen:=kept (show(34::(s.data.toList.take k).flatMap Str.esc).length<=900000000 by
   have h1:=(Str.flatMap_esc_length (s.data.toList.take k)).2;have h2:(s.data.toList.take k).length<=k:=by simp;omega
   rw[Zf];omega)
  clear hbel hb;by_cases hlt:k<s.size
  ·have hlt':(k:Int)<s.size:=by omega
   have Het:=kept (cwk s k hlt);by_cases h10:s[k]=10
   ·have He:=kept (show Str.esc s[k]=[92,110] by rw[h10];rfl);have hu:(s[k].toNat:Int)=10:=by rw[h10];rfl
    clear h10;go_wp2_with fail;refine(Hb.out.str (Zr Hlen.out (by decide)) _ (by decide)).mono ?_;rintro e w2 ⟨rfl,hb2,b2⟩;have B2:=kept (Below.trans Hl.out b2);have Hb2:=kept hb2;clear b2 hb2;go_wp2
    go_roundw
    case rel=>exact⟨B2.out,k+1,by omega,by go_num,by rw[Het.out,<-ZE,He.out];exact Hb2.out⟩
    case measure=>simp[intOf];omega
   have g10:((s[k].toNat:Int)==10)=false:=azy s[k] 10 (by decide) h10;by_cases h13:s[k]=13
   ·have He:=kept (show Str.esc s[k]=[92,114] by rw[h13];rfl);have hu:(s[k].toNat:Int)=13:=by rw[h13];rfl
    clear h10 h13;go_wp2_with fail;refine(Hb.out.str (Zr Hlen.out (by decide)) _ (by decide)).mono ?_;rintro e w2 ⟨rfl,hb2,b2⟩;have B2:=kept (Below.trans Hl.out b2);have Hb2:=kept hb2;clear b2 hb2;go_wp2
    go_roundw
    case rel=>exact⟨B2.out,k+1,by omega,by go_num,by rw[Het.out,<-ZE,He.out];exact Hb2.out⟩
    case measure=>simp[intOf];omega
   have g13:((s[k].toNat:Int)==13)=false:=azy s[k] 13 (by decide) h13;by_cases h9:s[k]=9
   ·have He:=kept (show Str.esc s[k]=[92,116] by rw[h9];rfl);have hu:(s[k].toNat:Int)=9:=by rw[h9];rfl
    clear h10 h13 h9;go_wp2_with fail;refine(Hb.out.str (Zr Hlen.out (by decide)) _ (by decide)).mono ?_;rintro e w2 ⟨rfl,hb2,b2⟩;have B2:=kept (Below.trans Hl.out b2);have Hb2:=kept hb2;clear b2 hb2;go_wp2
    go_roundw
    case rel=>exact⟨B2.out,k+1,by omega,by go_num,by rw[Het.out,<-ZE,He.out];exact Hb2.out⟩
    case measure=>simp[intOf];omega
   have g9:((s[k].toNat:Int)==9)=false:=azy s[k] 9 (by decide) h9;by_cases h34:s[k]=34
   ·have He:=kept (show Str.esc s[k]=[92]++[34] by rw[h34];rfl);have hu:(s[k].toNat:Int)=34:=by rw[h34];rfl
    clear h10 h13 h9 h34;go_wp2_with fail;refine(Hb.out.byte (Zr Hlen.out (by decide)) 92).mono ?_;rintro e w2 ⟨rfl,hb2,b2⟩;have B2:=kept (Below.trans Hl.out b2);have Hb2:=kept hb2;clear b2 hb2;have Hlen2:=kept (show((34::(s.data.toList.take k).flatMap Str.esc)++[92]).length<=1000000000 by have:=Hlen.out;rw[Za,Yi];omega);go_wp2_with fail;refine(Hb2.out.byte Hlen2.out 34).mono ?_;rintro e w3 ⟨rfl,hb3,b3⟩;have B3:=kept (Below.trans B2.out b3);have Hb3:=kept hb3;clear b3 hb3;go_wp2
    go_roundw
    case rel=>exact⟨B3.out,k+1,by omega,by go_num,by rw[Het.out,<-ZE,He.out,<-Zi];exact Hb3.out⟩
    case measure=>simp[intOf];omega
   have g34:((s[k].toNat:Int)==34)=false:=azy s[k] 34 (by decide) h34;by_cases h92:s[k]=92
   ·have He:=kept (show Str.esc s[k]=[92]++[92] by rw[h92];rfl);have hu:(s[k].toNat:Int)=92:=by rw[h92];rfl
    clear h10 h13 h9 h34 h92;go_wp2_with fail;refine(Hb.out.byte (Zr Hlen.out (by decide)) 92).mono ?_;rintro e w2 ⟨rfl,hb2,b2⟩;have B2:=kept (Below.trans Hl.out b2);have Hb2:=kept hb2;clear b2 hb2;have Hlen2:=kept (show((34::(s.data.toList.take k).flatMap Str.esc)++[92]).length<=1000000000 by have:=Hlen.out;rw[Za,Yi];omega);go_wp2_with fail;refine(Hb2.out.byte Hlen2.out 92).mono ?_;rintro e w3 ⟨rfl,hb3,b3⟩;have B3:=kept (Below.trans B2.out b3);have Hb3:=kept hb3;clear b3 hb3;go_wp2
    go_roundw
    case rel=>exact⟨B3.out,k+1,by omega,by go_num,by rw[Het.out,<-ZE,He.out,<-Zi];exact Hb3.out⟩
    case measure=>simp[intOf];omega
   have g92:((s[k].toNat:Int)==92)=false:=azy s[k] 92 (by decide) h92;have hor:((s[k].toNat:Int)==34||(s[k].toNat:Int)==92)=false:=by rw[g34,g92];rfl
   have hb256:=s[k].toNat_lt;by_cases hctl:s[k]<32\/s[k]=127
   ·have He:=kept (show Str.esc s[k]=92::117::123::(Str.hexL s[k].toNat++[125]) by unfold Str.esc;rw[if_neg h10,if_neg h13,if_neg h9,if_neg h34,if_neg h92,if_pos hctl];rfl);have Hf:=kept (fun W gW=>bym s[k].toNat W gW hb256);have hx:=(Str.hexL_length s[k].toNat).2;have hcat1:=fun W=>bwz (P:=Tryz.prog) W (a:=⟨#[92,117,123]⟩) (b:=⟨(Str.hexL s[k].toNat).toArray⟩) (l:=[92,117,123]) (m:=Str.hexL s[k].toNat) (r:=92::117::123::Str.hexL s[k].toNat) rfl rfl rfl (by simp;omega)
    have hcat2:=fun W=>bwz (P:=Tryz.prog) W (a:=⟨(92::117::123::Str.hexL s[k].toNat).toArray⟩) (b:=⟨#[125]⟩) (l:=92::117::123::Str.hexL s[k].toNat) (m:=[125]) (r:=92::117::123::(Str.hexL s[k].toNat++[125])) rfl rfl rfl (by simp;omega)
    have Hsz:Kept ((⟨(92::117::123::(Str.hexL s[k].toNat++[125])).toArray⟩:ByteArray).size<=1000000000):=kept (by rw[size_mk];simp;omega);have hcnd:((s[k].toNat:Int)<32)\/(¬(s[k].toNat:Int)<32/\(s[k].toNat:Int)=127):=by
     rcases hctl with h|h
     ·rw[Y4]at h;have h':s[k].toNat<32:=h;exact .inl (by omega)
     ·right;rw[h];exact⟨by decide,rfl⟩
    clear hctl hx h10 h13 h9 h34 h92;rcases hcnd with h32|⟨h32,h127⟩
    ·have hz:=h32;clear hz;go_wp2_with fail;refine(Hf.out _ (G.out.below Hl.out)).mono ?_;rintro e w2 ⟨rfl,b2⟩;have B2:=kept (bthen Hl.out b2);have Hb2:=kept (Hb.out.below b2);clear b2;go_wp2_with fail;refine(Hb2.out.str (Zr Hlen.out (by decide)) _ Hsz.out).mono ?_;rintro e w3 ⟨rfl,hb3,b3⟩;have B3:=kept (Below.trans B2.out b3);have Hb3:=kept hb3;clear b3 hb3;go_wp2
     go_roundw
     case rel=>exact⟨B3.out,k+1,by omega,by go_num,by rw[Het.out,<-ZE,He.out];exact Hb3.out⟩
     case measure=>simp[intOf];omega
    ·have hn:s[k].toNat=127:=by omega
     rw[hn]at Hf hcat1 hcat2 Hsz He;clear hor hn g10 g13 g9 g34 g92;go_wp2_with fail;refine(Hf.out _ (G.out.below Hl.out)).mono ?_;rintro e w2 ⟨rfl,b2⟩;have B2:=kept (bthen Hl.out b2);have Hb2:=kept (Hb.out.below b2);clear b2;go_wp2_with fail;refine(Hb2.out.str (Zr Hlen.out (by decide)) _ Hsz.out).mono ?_;rintro e w3 ⟨rfl,hb3,b3⟩;have B3:=kept (Below.trans B2.out b3);have Hb3:=kept hb3;clear b3 hb3;go_wp2
     go_roundw
     case rel=>exact⟨B3.out,k+1,by omega,by go_num,by rw[Het.out,<-ZE,He.out];exact Hb3.out⟩
     case measure=>simp[intOf];omega
   ·have He:=kept (show Str.esc s[k]=[s[k]] by unfold Str.esc;rw[if_neg h10,if_neg h13,if_neg h9,if_neg h34,if_neg h92,if_neg hctl]);have g127:((s[k].toNat:Int)==127)=false:=azy s[k] 127 (by decide) (fun h=>hctl (.inr h));have g32:¬(s[k].toNat:Int)<32:=by
     intro h;apply hctl;left;rw[Y4];show s[k].toNat<32;omega
    have Hbb:=kept (Hb.out.byte (Zr Hlen.out (by decide)) s[k]);clear hctl h10 h13 h9 h34 h92;go_wp2_with fail;refine Hbb.out.mono ?_;rintro e w2 ⟨rfl,hb2,b2⟩;have B2:=kept (Below.trans Hl.out b2);have Hb2:=kept hb2;clear b2 hb2;go_wp2
    go_roundw
    case rel=>exact⟨B2.out,k+1,by omega,by go_num,by rw[Het.out,<-ZE,He.out];exact Hb2.out⟩
    case measure=>simp[intOf];omega
  ·obtain rfl:k=s.size:=by omega
   rw[Zy (by simp)]at Hb Hlen;go_wp2_with fail;refine(Hb.out.byte (Zr Hlen.out (by decide)) 34).mono ?_;rintro e w2 ⟨rfl,hb2,b2⟩;have B2:=kept (Below.trans Hl.out b2);have Hb2:=kept hb2;clear b2 hb2;go_wp2_with fail;refine(Hb2.out.string).mono ?_;rintro e w3 ⟨rfl,b3⟩;have B3:=kept (Below.trans B2.out b3);clear b3;go_wp2
   go_ret
   exact⟨rfl,B3.out⟩
end
end Go.Proofs.YthhpocnmfknalaaGreatDoor
