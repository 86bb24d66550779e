/- Part of what the proof needs. -/
import Derived.Test.YtdgcbckcameggaaGreatDoorMFrStatefileReadsK
import Derived.Test.YtdgcbckcameggaaGreatDoorMFrStatefileReadsP
import Derived.Test.YtdgcbckcameggaaGreatDoorMFrStatefileReadsQ
import Derived.Test.YtdgcbckcameggaaGreatDoorMFrStatefileReadsR
set_option maxHeartbeats 4000000
set_option linter.unusedSimpArgs false
set_option linter.unusedVariables false
set_option linter.unnecessarySimpa false
namespace Go.Proofs.YtdgcbckcameggaaGreatDoor
open Go.RowKit
def Str.at' (i:Nat) (r:List UInt8×Nat×Int):List UInt8×Nat×Int:=if r.2.2=0 then (r.1,i+r.2.1,0) else ([],0,r.2.2)
def Str.esc1 (l:List UInt8):List UInt8×Nat×Int:=if (Str.escp l).2.2=0 then (Str.enc (Str.escp l).1,(Str.escp l).2.1+1,0) else ([],0,(Str.escp l).2.2)
def TripleEnd (r:List UInt8×Nat×Int):Ending:=.returned (.tuple #[.string ⟨r.1.toArray⟩,.int .i64 r.2.1,.int .i64 r.2.2])
theorem Str.esc1_of {l:List UInt8} {c n:Nat} {e:Int} (h:Str.escp l=(c,n,e)):Str.esc1 l=if e=0 then (Str.enc c,n+1,0) else ([],0,e):=by unfold Str.esc1; rw [h]
theorem Str.at_ok (i n:Nat) (l:List UInt8):Str.at' i (l,n,0)=(l,i+n,0):=rfl
theorem Str.at_err (i:Nat) (e:Int) (h:e≠0):Str.at' i ([],0,e)=([],0,e):=if_neg h
theorem Str.point_valid (l:List UInt8) (c n:Nat) (h:Str.point l=(c,n,0)):Utf8.valid c=true:=by
 unfold Str.point at h
 split at h
 ·simp at h
 ·split at h
  ·simp at h
  ·next hh =>
   obtain ⟨h1,h2⟩:=Prod.mk.inj h
   subst h1
   simp only [not_or] at hh
   simpa using hh.2.2.2
theorem refEscaped_any (s:ByteArray) (i:Nat) (w:World) (hs:s.size≤2000000) (hi:i < s.size) :
  Calls Tryz.prog 211 #[.string s,.int .i64 i] w fun e w'=>e=TripleEnd (Str.at' i (Str.esc1 (s.data.toList.drop (i+1))))∧Below w.heap.size w w':=by
 by_cases h0:s.size≤i+1
 ·have Hp:=kept (show Str.at' i (Str.esc1 (s.data.toList.drop (i+1)))=([],0,40) by rw [List.drop_of_length_le (by simp; omega)]; rfl)
  have h0':(s.size:Int)≤i+1:=by omega
  go_enter Tryz.func211,Tryz.ntmps211
  go_wp2
  refine bodyPost_ret (v:=.tuple #[.string ⟨#[]⟩,.int .i64 0,.int .i64 40]) (by simp [results,Tryz.results211,go_sem]) rfl ⟨by rw [Hp.out]; rfl,Below.refl _ _⟩
 ·have hlt:i+1 < s.size:=by omega
  have hlt':(i:Int)+1 < s.size:=by omega
  have hd:s.data.toList.drop (i+1)=s[i+1]::s.data.toList.drop (i+2):=drop_cons s (i+1) hlt
  have hex:s.extract (i+1) (i+2)=⟨#[s[i+1]]⟩:=extract_one s (i+1) hlt
  go_enter Tryz.func211,Tryz.ntmps211
  clear h0
  by_cases h110:s[i+1]=110
  ·have Hp:=kept (show Str.at' i (Str.esc1 (s.data.toList.drop (i+1)))=([10],i+2,0) by rw [hd,h110]; rfl)
   have hu:(s[i+1].toNat:Int)=110:=by rw [h110]; rfl
   clear hd h110 hex
   go_wp2
   refine bodyPost_ret (v:=.tuple #[.string ⟨#[10]⟩,.int .i64 (i+2:Nat),.int .i64 0]) (by simp [results,Tryz.results211,go_sem]) rfl ⟨by rw [Hp.out]; rfl,Below.refl _ _⟩
  have g110:=byte_ne s[i+1] 110 (by decide) h110
  by_cases h114:s[i+1]=114
  ·have Hp:=kept (show Str.at' i (Str.esc1 (s.data.toList.drop (i+1)))=([13],i+2,0) by rw [hd,h114]; rfl)
   have hu:(s[i+1].toNat:Int)=114:=by rw [h114]; rfl
   clear hd h110 h114 hex
   go_wp2
   refine bodyPost_ret (v:=.tuple #[.string ⟨#[13]⟩,.int .i64 (i+2:Nat),.int .i64 0]) (by simp [results,Tryz.results211,go_sem]) rfl ⟨by rw [Hp.out]; rfl,Below.refl _ _⟩
  have g114:=byte_ne s[i+1] 114 (by decide) h114
  by_cases h116:s[i+1]=116
  ·have Hp:=kept (show Str.at' i (Str.esc1 (s.data.toList.drop (i+1)))=([9],i+2,0) by rw [hd,h116]; rfl)
   have hu:(s[i+1].toNat:Int)=116:=by rw [h116]; rfl
   clear hd h110 h114 h116 hex
   go_wp2
   refine bodyPost_ret (v:=.tuple #[.string ⟨#[9]⟩,.int .i64 (i+2:Nat),.int .i64 0]) (by simp [results,Tryz.results211,go_sem]) rfl ⟨by rw [Hp.out]; rfl,Below.refl _ _⟩
  have g116:=byte_ne s[i+1] 116 (by decide) h116
  by_cases h34:s[i+1]=34
  ·have Hp:=kept (show Str.at' i (Str.esc1 (s.data.toList.drop (i+1)))=([34],i+2,0) by rw [hd,h34]; rfl)
   have hu:(s[i+1].toNat:Int)=34:=by rw [h34]; rfl
   rw [h34] at hex
   clear hd h110 h114 h116 h34
   go_wp2
   refine bodyPost_ret (v:=.tuple #[.string ⟨#[34]⟩,.int .i64 (i+2:Nat),.int .i64 0]) (by simp [hex,results,Tryz.results211,go_sem]) rfl ⟨by rw [Hp.out]; rfl,Below.refl _ _⟩
  have g34:=byte_ne s[i+1] 34 (by decide) h34
  by_cases h92:s[i+1]=92
  ·have Hp:=kept (show Str.at' i (Str.esc1 (s.data.toList.drop (i+1)))=([92],i+2,0) by rw [hd,h92]; rfl)
   have hu:(s[i+1].toNat:Int)=92:=by rw [h92]; rfl
   rw [h92] at hex
   clear hd h110 h114 h116 h34 h92
   go_wp2
   refine bodyPost_ret (v:=.tuple #[.string ⟨#[92]⟩,.int .i64 (i+2:Nat),.int .i64 0]) (by simp [hex,results,Tryz.results211,go_sem]) rfl ⟨by rw [Hp.out]; rfl,Below.refl _ _⟩
  have g92:=byte_ne s[i+1] 92 (by decide) h92
  by_cases h117:s[i+1]=117
  ·have He:=kept (show Str.escp (s.data.toList.drop (i+1))=_ by rw [hd,escp_cons,if_neg h110,if_neg h114,if_neg h116,if_neg (fun h=>h.elim h34 h92),if_pos h117])
   have hu:(s[i+1].toNat:Int)=117:=by rw [h117]; rfl
   clear hd h117 h110 g110 h114 g114 h116 g116 h34 g34 h92 g92 hex
   by_cases h1:s.size≤i+2
   ·have Hp:=kept (show Str.at' i (Str.esc1 (s.data.toList.drop (i+1)))=([],0,40) by
     rw [Str.esc1_of (show Str.escp (s.data.toList.drop (i+1))=(0,0,40) by rw [He.out,List.drop_of_length_le (by simp; omega)])]; rfl)
    have h1':(s.size:Int)≤i+2:=by omega
    go_wp2
    refine bodyPost_ret (v:=.tuple #[.string ⟨#[]⟩,.int .i64 0,.int .i64 40]) (by simp [results,Tryz.results211,go_sem]) rfl ⟨by rw [Hp.out]; rfl,Below.refl _ _⟩
   ·have hlt1:i+2 < s.size:=by omega
    have hlt1':(i:Int)+2 < s.size:=by omega
    have hd1:s.data.toList.drop (i+2)=s[i+2]::s.data.toList.drop (i+3):=drop_cons s (i+2) hlt1
    by_cases h123:s[i+2]=123
    ·obtain ⟨⟨q1,q2,q3⟩,hq⟩:∃ q,Str.point (s.data.toList.drop (i+3))=q:=⟨_,rfl⟩
     have he:Str.escp (s.data.toList.drop (i+1))=(q1,q2+2,q3):=by rw [He.out,hd1]; simp only; rw [if_pos h123,hq]
     have hv:(s[i+2].toNat:Int)=123:=by rw [h123]; rfl
     have Hx:=kept (fun W=>refPoint_any s (i+3) q1 q2 q3 W hs (by omega) hq)
     rw [show ((i+3:Nat):Int)=(i:Int)+3 by omega] at Hx
     have hle:=point_le (s.data.toList.drop (i+3))
     rw [hq] at hle
     have h1:=Str.esc1_of he
     by_cases hq3:q3=0
     ·subst hq3
      have Hval:=kept (Str.point_valid _ _ _ hq)
      have Hp:=kept (show Str.at' i (Str.esc1 (s.data.toList.drop (i+1)))=(Str.enc q1,i+3+q2,0) by rw [h1,if_pos rfl,Str.at_ok]; congr 2; omega)
      have Hen:=kept (fun W=>refEncode_any q1 W Hval.out)
      rw [if_pos rfl] at Hx
      clear hd1 h123 h1 hq hle he
      go_wp2_with fail
      (with_reducible refine (Hx.out _).mono ?_); rintro e w1 ⟨rfl,rfl⟩
      go_wp2_with fail
      (with_reducible refine (Hen.out _).mono ?_); rintro e w2 ⟨rfl,b2⟩
      have B2:=kept b2; clear b2
      go_wp2
      refine bodyPost_ret (v:=.tuple #[.string ⟨(Str.enc q1).toArray⟩,.int .i64 (i+3+q2:Nat),.int .i64 0]) (by simp [results,Tryz.results211,go_sem]) rfl ⟨by rw [Hp.out]; rfl,B2.out⟩
     ·have Hp:=kept (show Str.at' i (Str.esc1 (s.data.toList.drop (i+1)))=([],0,q3) by rw [h1,if_neg hq3,Str.at_err _ _ hq3])
      rw [if_neg hq3] at Hx
      have he1:(q3 == 0)=false:=by simpa using hq3
      have he2:(q3 != 0)=true:=by simpa using hq3
      clear hd1 h123 h1 hq hle he
      go_wp2_with fail
      (with_reducible refine (Hx.out _).mono ?_); rintro e w1 ⟨rfl,rfl⟩
      go_wp2
      refine bodyPost_ret (v:=.tuple #[.string ⟨#[]⟩,.int .i64 0,.int .i64 q3]) (by simp [results,Tryz.results211,go_sem]) rfl ⟨by rw [Hp.out]; rfl,Below.refl _ _⟩
    ·have Hp:=kept (show Str.at' i (Str.esc1 (s.data.toList.drop (i+1)))=([],0,2) by
      rw [Str.esc1_of (show Str.escp (s.data.toList.drop (i+1))=(0,0,2) by rw [He.out,hd1]; exact if_neg h123)]; rfl)
     have hv1:=byte_ne s[i+2] 123 (by decide) h123
     have hv2:((s[i+2].toNat:Int) != 123)=true:=by simpa using hv1
     clear hd1 h123 h1
     go_wp2
     refine bodyPost_ret (v:=.tuple #[.string ⟨#[]⟩,.int .i64 0,.int .i64 2]) (by simp [results,Tryz.results211,go_sem]) rfl ⟨by rw [Hp.out]; rfl,Below.refl _ _⟩
  ·have Hp:=kept (show Str.at' i (Str.esc1 (s.data.toList.drop (i+1)))=([],0,2) by
    rw [Str.esc1_of (show Str.escp (s.data.toList.drop (i+1))=(0,0,2) by rw [hd,escp_cons,if_neg h110,if_neg h114,if_neg h116,if_neg (fun h=>h.elim h34 h92),if_neg h117])]; rfl)
   have g117:=byte_ne s[i+1] 117 (by decide) h117
   clear hd h117 h110 h114 h116 h34 h92 hex
   go_wp2
   refine bodyPost_ret (v:=.tuple #[.string ⟨#[]⟩,.int .i64 0,.int .i64 2]) (by simp [results,Tryz.results211,go_sem]) rfl ⟨by rw [Hp.out]; rfl,Below.refl _ _⟩
theorem Str.one_of_esc (l:List UInt8) (h:l.getD 0 0=92):Str.one l=Str.esc1 (l.drop 1):=by
 unfold Str.one Str.esc1
 rw [if_pos h]
 by_cases hh:(Str.escp (l.drop 1)).2.2=0
 ·rw [if_neg (by simpa using hh),if_pos hh]
 ·rw [if_pos (by simpa using hh),if_neg hh]
theorem refOne_any (s:ByteArray) (i:Nat) (w:World) (hs:s.size≤2000000) (hi:i < s.size) :
  Calls Tryz.prog 206 #[.string s,.int .i64 i] w fun e w'=>e=TripleEnd (Str.at' i (Str.one (s.data.toList.drop i)))∧Below w.heap.size w w':=by
 have hg:(s.data.toList.drop i).getD 0 0=s[i]:=by rw [drop_cons s i hi]; rfl
 by_cases h92:s[i]=92
 ·have h1:=Str.one_of_esc (s.data.toList.drop i) (by rw [hg,h92])
  rw [List.drop_drop] at h1
  rw [h1]
  obtain ⟨q,hq⟩:∃ q,Str.at' i (Str.esc1 (s.data.toList.drop (i+1)))=q:=⟨_,rfl⟩
  have Hx:=kept (fun W=>refEscaped_any s i W hs hi)
  rw [hq] at Hx ⊢
  obtain ⟨q1,q2,q3⟩:=q
  have hu:(s[i].toNat:Int)=92:=by rw [h92]; rfl
  clear h1 hq hg h92
  go_enter Tryz.func206,Tryz.ntmps206
  go_wp2_with fail
  (with_reducible refine (Hx.out _).mono ?_); rintro e w1 ⟨rfl,b1⟩
  have B1:=kept b1; clear b1
  unfold TripleEnd
  go_wp2
  refine bodyPost_ret (v:=.tuple #[.string ⟨q1.toArray⟩,.int .i64 q2,.int .i64 q3]) (by simp [results,Tryz.results206,go_sem]) rfl ⟨rfl,B1.out⟩
 ·have g92:=byte_ne s[i] 92 (by decide) h92
  have hne:(s.data.toList.drop i)≠[]:=by rw [drop_cons s i hi]; simp
  have hwd:=Str.dec_width s i hi
  rcases Str.refDec_cases s i hi with ⟨hb,he⟩ | ⟨hb,he⟩
  ·have Hp:=kept (show Str.at' i (Str.one (s.data.toList.drop i))=([],0,2) by
    unfold Str.one
    rw [if_neg (by rw [hg]; exact h92),if_pos (.inl (by rw [Str.decL]; exact hb))]; rfl)
   have He:=kept he
   clear hb he hg h92 hne hwd
   go_enter Tryz.func206,Tryz.ntmps206
   go_wp2_with fail
   (with_reducible refine (decode_at' _ _ 0 0 _ (by omega) He.out).mono ?_); rintro e w1 ⟨rfl,b1⟩
   have B1:=kept b1; clear b1
   go_wp2
   refine bodyPost_ret (v:=.tuple #[.string ⟨#[]⟩,.int .i64 0,.int .i64 2]) (by simp [results,Tryz.results206,go_sem]) rfl ⟨by rw [Hp.out]; rfl,B1.out⟩
  ·obtain ⟨⟨c,n⟩,hd⟩:∃ d,Utf8.decode s i=d:=⟨_,rfl⟩
   rw [hd] at he hb hwd
   have He:=kept he
   have hw1:1≤n:=hwd.1
   have hw2:i+n≤s.size:=hwd.2
   have hw2':(i:Int)+n≤s.size:=by omega
   have hnz1:((n:Int) == 0)=false:=by simp; omega
   have hnz2:¬ (n:Int)=0:=by omega
   obtain ⟨u,hu⟩:∃ u:Int,(s[i].toNat:Int)=u:=⟨_,rfl⟩
   have hone:∀ hh:¬ (u < 32∨u=127),Str.at' i (Str.one (s.data.toList.drop i))=((s.data.toList.drop i).take n,i+n,0):=by
    intro hh
    unfold Str.one
    rw [if_neg (by rw [hg]; exact h92),if_neg ?_,Str.decL,hd]
    ·rfl
    ·rw [Str.decL,hd,hg]
     rintro (h | h | h)
     ·exact hb h
     ·rw [UInt8.lt_iff_toNat_lt] at h
      have:s[i].toNat < 32:=h
      omega
     ·rw [h] at hu; exact hh (.inr hu.symm)
   have hbad:(u < 32∨u=127)→Str.at' i (Str.one (s.data.toList.drop i))=([],0,2):=by
    intro hh
    unfold Str.one
    rw [if_neg (by rw [hg]; exact h92),if_pos ?_]
    ·rfl
    ·rw [hg]
     right
     rcases hh with h | h
     ·left; rw [UInt8.lt_iff_toNat_lt]; show s[i].toNat < 32; omega
     ·right; rw [←UInt8.toNat_inj]; show s[i].toNat=127; omega
   have hxt:s.extract i (i+n)=⟨((s.data.toList.drop i).take n).toArray⟩:=by
    refine str_of ?_
    simp only [ByteArray.data_extract,Array.toList_extract,List.extract_eq_take_drop]
    congr 1; omega
   have Hone:=kept hone; have Hbad:=kept hbad
   clear hb he hg h92 hne hwd hone hbad hd hw2
   rw [hu] at g92
   by_cases h32:u < 32
   ·have Hp:=kept (Hbad.out (.inl h32))
    clear hxt
    go_enter Tryz.func206,Tryz.ntmps206
    go_wp2_with fail
    (with_reducible refine (decode_at' _ _ c n _ (by omega) He.out).mono ?_); rintro e w1 ⟨rfl,b1⟩
    have B1:=kept b1; clear b1
    go_wp2
    refine bodyPost_ret (v:=.tuple #[.string ⟨#[]⟩,.int .i64 0,.int .i64 2]) (by simp [results,Tryz.results206,go_sem]) rfl ⟨by rw [Hp.out]; rfl,B1.out⟩
   ·by_cases h127:u=127
    ·have Hp:=kept (Hbad.out (.inr h127))
     have h127a:(u == 127)=true:=by simpa using h127
     clear hxt h127
     go_enter Tryz.func206,Tryz.ntmps206
     go_wp2_with fail
     (with_reducible refine (decode_at' _ _ c n _ (by omega) He.out).mono ?_); rintro e w1 ⟨rfl,b1⟩
     have B1:=kept b1; clear b1
     go_wp2
     refine bodyPost_ret (v:=.tuple #[.string ⟨#[]⟩,.int .i64 0,.int .i64 2]) (by simp [results,Tryz.results206,go_sem]) rfl ⟨by rw [Hp.out]; rfl,B1.out⟩
    ·have Hp:=kept (Hone.out (by omega))
     have h127a:(u == 127)=false:=by simpa using h127
     generalize (s.data.toList.drop i).take n=t at *
     go_enter Tryz.func206,Tryz.ntmps206
     go_wp2_with fail
     (with_reducible refine (decode_at' _ _ c n _ (by omega) He.out).mono ?_); rintro e w1 ⟨rfl,b1⟩
     have B1:=kept b1; clear b1
     go_wp2
     refine bodyPost_ret (v:=.tuple #[.string ⟨t.toArray⟩,.int .i64 (i+n:Nat),.int .i64 0]) (by simp [hxt,results,Tryz.results206,go_sem]) rfl ⟨by rw [Hp.out]; rfl,B1.out⟩
theorem Str.one_len (s:ByteArray) (k:Nat) (hk:k < s.size) (b:List UInt8) (n:Nat) (h:Str.one (s.data.toList.drop k)=(b,n,(0:Int))):1≤n∧k+n≤s.size∧b.length≤4:=by
 have hlen:(s.data.toList.drop k).length=s.size - k:=by simp
 unfold Str.one at h
 split at h
 ·split at h
  ·next hh =>
   exfalso
   have:=congrArg (fun r=>r.2.2) h
   simp only at this
   exact hh this
  ·next hh =>
   have hl:=Str.escp_len ((s.data.toList.drop k).drop 1) (by simpa using hh)
   obtain ⟨rfl,h2⟩:=Prod.mk.inj h
   obtain ⟨rfl,_⟩:=Prod.mk.inj h2
   have:=(Str.enc_length (Str.escp ((s.data.toList.drop k).drop 1)).1).2
   rw [List.length_drop,hlen] at hl
   exact ⟨by omega,by omega,this⟩
 ·split at h
  ·simp at h
  ·next hh =>
   have hwd:=Str.dec_width s k hk
   rw [←Str.decL] at hwd
   have hd4:(Lib.decodeL (s.data.toList.drop k)).2≤4:=by
    rw [Lib.decodeL_N]
    rcases Lib.decodeN_shape (s.data.toList.drop k).length ((s.data.toList.drop k).getD 0 0).toNat ((s.data.toList.drop k).getD 1 0).toNat ((s.data.toList.drop k).getD 2 0).toNat ((s.data.toList.drop k).getD 3 0).toNat with ⟨c,e⟩ | ⟨c1,c2,c3,cv,e⟩ | ⟨c1,c2,c3,c4,cv,cs,e⟩ | ⟨c1,c2,c3,c4,c5,cv,cw,e⟩ | e
    all_goals rw [e]; simp
   obtain ⟨rfl,h2⟩:=Prod.mk.inj h
   obtain ⟨rfl,_⟩:=Prod.mk.inj h2
   refine ⟨hwd.1,hwd.2,?_⟩
   rw [List.length_take]; omega
theorem triple_ok (l:List UInt8) (n:Nat) (e:Int):TripleEnd (l,n,e) = .returned (.tuple #[.string ⟨l.toArray⟩,.int .i64 n,.int .i64 e]):=rfl
theorem refUnquote_any (s:ByteArray) (w:World) (hs:s.size≤2000000) :
  Calls Tryz.prog 194 #[.string s] w fun e w'=>e=TripleEnd (Str.unquote s.data.toList)∧Below w.heap.size w w':=by
 obtain ⟨U,hU⟩:∃ U,Str.unquote s.data.toList=U:=⟨_,rfl⟩
 rw [hU]
 by_cases h0:s.size=0
 ·have hs:s=⟨#[]⟩:=by
   apply ByteArray.ext; exact Array.eq_empty_of_size_eq_zero h0
  subst hs
  have HU:=kept (show (([],0,40):List UInt8×Nat×Int)=U from hU)
  clear hU
  go_enter Tryz.func194,Tryz.ntmps194
  go_wp2
  refine bodyPost_ret (v:=.tuple #[.string ⟨#[]⟩,.int .i64 0,.int .i64 40]) (by simp [results,Tryz.results194,go_sem]) rfl ⟨by rw [←HU.out]; rfl,Below.refl _ _⟩
 ·have hlt:0 < s.size:=by omega
  have hd:s.data.toList=s[0]::s.data.toList.drop 1:=by have:=drop_cons s 0 hlt; simpa using this
  have hne:s.data.toList≠[]:=by rw [hd]; simp
  have hg0:s.data.toList.getD 0 0=s[0]:=by rw [hd]; rfl
  have h00:((s.size:Int) == 0)=false:=by rw [beq_eq_false_iff_ne]; omega
  unfold Str.unquote at hU
  rw [if_neg hne,hg0] at hU
  clear h0 hd hne hg0
  by_cases h34:s[0]=34
  ·rw [if_neg (by simpa using h34)] at hU
   have HU:=kept hU
   have hu:(s[0].toNat:Int)=34:=by rw [h34]; rfl
   clear hU h34
   go_enter Tryz.func194,Tryz.ntmps194
   go_wp2
   go_loopw [5,6] (fun ov av wr=>Below w.heap.size w wr∧∃ (k f:Nat) (acc:List UInt8),1≤k∧k≤s.size∧av = .int .i64 k∧ov = .string ⟨acc.toArray⟩∧s.size - k < f∧acc.length≤4*k∧Str.unq f (s.data.toList.drop k) acc k=U) (fun _ av _=>s.size - (intOf av).toNat)
   case atStart=>exact ⟨Below.refl _ _,1,s.data.toList.length,[],by omega,by omega,rfl,rfl,by simp; omega,by simp,HU.out⟩
   case round =>
    obtain ⟨hbel,k,f,acc,hk1,hk,rfl,rfl,hf,hacc,hun⟩:=hrel
    have Hl:=kept hbel
    clear hbel
    obtain ⟨f,rfl⟩:∃ f',f=f'+1:=⟨f - 1,by omega⟩
    by_cases hend:k=s.size
    ·subst hend
     rw [List.drop_of_length_le (by simp),Str.unq_nil] at hun
     subst hun
     clear hacc hf
     go_wp2
     refine bodyPost_ret (v:=.tuple #[.string ⟨#[]⟩,.int .i64 0,.int .i64 40]) (by simp [results,Tryz.results194,go_sem]) rfl ⟨rfl,Hl.out⟩
    ·have hkl:k < s.size:=by omega
     have hkl':(k:Int) < s.size:=by omega
     have hne:s.data.toList.drop k≠[]:=by rw [drop_cons s k hkl]; simp
     have hgk:(s.data.toList.drop k).getD 0 0=s[k]:=by rw [drop_cons s k hkl]; rfl
     by_cases h34k:s[k]=34
     ·rw [Str.unq_quote _ _ _ _ hne (by rw [hgk]; exact h34k)] at hun
      have hv:(s[k].toNat:Int)=34:=by rw [h34k]; rfl
      have hsz:=size_mk acc
      clear hne hgk h34k hf
      by_cases hbig:4096 < acc.length
      ·rw [if_pos hbig] at hun
       subst hun
       have hbig':(4096:Int) < acc.length:=by omega
       clear hbig hacc hend
       go_wp2
       refine bodyPost_ret (v:=.tuple #[.string ⟨#[]⟩,.int .i64 0,.int .i64 3]) (by simp [results,Tryz.results194,go_sem]) rfl ⟨rfl,Hl.out⟩
      ·rw [if_neg hbig] at hun
       subst hun
       have hbig':¬ (4096:Int) < acc.length:=by omega
       clear hbig hacc hend
       go_wp2
       refine bodyPost_ret (v:=.tuple #[.string ⟨acc.toArray⟩,.int .i64 (k+1:Nat),.int .i64 0]) (by simp [results,Tryz.results194,go_sem]) rfl ⟨rfl,Hl.out⟩
     ·have hvk1:=byte_ne s[k] 34 (by decide) h34k
      rw [←hgk] at h34k
      obtain ⟨⟨b,n,e0⟩,ho⟩:∃ r,Str.one (s.data.toList.drop k)=r:=⟨_,rfl⟩
      have Hx:=kept (fun W=>refOne_any s k W hs hkl)
      by_cases he0:e0=0
      ·subst he0
       have hln:=Str.one_len s k hkl b n ho
       rw [Str.unq_step _ _ _ _ _ _ hne h34k ho,List.drop_drop] at hun
       rw [ho,Str.at_ok,triple_ok] at Hx
       have Hun:=kept hun
       obtain ⟨r,hr⟩:∃ r,acc++b=r:=⟨_,rfl⟩
       have hcat:=fun W=>run_cat3 (P:=Tryz.prog) W (a:=⟨acc.toArray⟩) (b:=⟨b.toArray⟩) (l:=acc) (m:=b) rfl rfl hr (by rw [←hr,List.length_append]; omega)
       have Hr:=kept hr
       have hln1:1≤n:=hln.1
       have hln2:k+n≤s.size:=hln.2.1
       have Hln3:=kept (show r.length≤4*(k+n) by rw [←hr,List.length_append]; omega)
       clear hne hgk h34k hun ho hr hln hacc
       go_wp2_with fail
       refine (Hx.out _).mono ?_; rintro e w1 ⟨rfl,b1⟩
       have B1:=kept (bthen Hl.out b1); clear b1
       go_wp2
       go_roundw
       case rel=>exact ⟨B1.out,k+n,f,r,by omega,by omega,by go_num,rfl,by omega,Hln3.out,by rw [←Hr.out]; exact Hun.out⟩
       case measure=>simp [intOf]; omega
      ·rw [Str.unq_err _ _ _ _ _ _ _ hne h34k ho he0] at hun
       subst hun
       have hob:b=[]∧n=0:=by
        have h:=ho
        unfold Str.one at h
        split at h
        ·split at h
         ·obtain ⟨rfl,h2⟩:=Prod.mk.inj h
          obtain ⟨rfl,_⟩:=Prod.mk.inj h2
          exact ⟨rfl,rfl⟩
         ·exact absurd (Prod.mk.inj (Prod.mk.inj h).2).2.symm he0
        ·split at h
         ·obtain ⟨rfl,h2⟩:=Prod.mk.inj h
          obtain ⟨rfl,_⟩:=Prod.mk.inj h2
          exact ⟨rfl,rfl⟩
         ·exact absurd (Prod.mk.inj (Prod.mk.inj h).2).2.symm he0
       obtain ⟨rfl,rfl⟩:=hob
       rw [ho,Str.at_err _ _ he0,triple_ok] at Hx
       have he1:(e0 == 0)=false:=by simpa using he0
       have he2:(e0 != 0)=true:=by simpa using he0
       clear hne hgk h34k hf hacc ho
       go_wp2_with fail
       refine (Hx.out _).mono ?_; rintro e w1 ⟨rfl,b1⟩
       have B1:=kept (bthen Hl.out b1); clear b1
       go_wp2
       refine bodyPost_ret (v:=.tuple #[.string ⟨#[]⟩,.int .i64 0,.int .i64 e0]) (by simp [results,Tryz.results194,go_sem]) rfl ⟨rfl,B1.out⟩
  ·rw [if_pos h34] at hU
   have HU:=kept hU
   have g34:=byte_ne s[0] 34 (by decide) h34
   have g34':((s[0].toNat:Int) != 34)=true:=by simpa using g34
   clear h34 hU
   go_enter Tryz.func194,Tryz.ntmps194
   go_wp2
   refine bodyPost_ret (v:=.tuple #[.string ⟨#[]⟩,.int .i64 0,.int .i64 2]) (by simp [results,Tryz.results194,go_sem]) rfl ⟨by rw [←HU.out]; rfl,Below.refl _ _⟩
namespace AX
def c_r6Key:AX.AFn:=⟨33,aS [aR 1 (.box 131 (.t 0)),aR 2 (.mv (.c (.bool false)))] (.seq (aS [aF 3 0 1,aL 4 3,aR 5 (.bin .eql (.t 4) (aI 1))] (.cond (.t 5) (aS [aF 6 1 1,aL 7 6,aR 8 (.bin .geq (.t 7) (aI 0)),aM 9 8,aG 10 (.faddr 1 (.t 1)) 9 true,aG 11 (.load false 1 (.t 10)) 9 true,aG 12 (.bin .leq (.t 11) (aI 9007199254740992)) 9 true,aR 13 (.pick (.t 9) (.t 12) (.c (.bool false))),aM 14 13,aG 15 (.faddr 2 (.t 1)) 14 true,aG 16 (.load false 1 (.t 15)) 14 true,aG 17 (.bin .eql (.t 16) (.c (.str []))) 14 true,aR 18 (.pick (.t 14) (.t 17) (.c (.bool false))),aM 2 18] (.ret)) (.skip))) (.seq (aS [aF 19 0 1,aL 20 19,aR 21 (.bin .eql (.t 20) (aI 2))] (.cond (.t 21) (aS [aF 22 1 1,aL 23 22,aR 24 (.bin .eql (.t 23) (aI 0)),aM 25 24,aG 26 (.faddr 2 (.t 1)) 25 true,aG 27 (.load false 1 (.t 26)) 25 true,aG 28 (.call 107 [.t 27]) 25 true,aR 29 (.pick (.t 25) (.t 28) (.c (.bool false))),aM 2 29] (.ret)) (.skip))) (aS [aR 30 (.load true 3 (.t 1)),aR 31 (.build [.int .i64 0,.int .i64 0,.str []] []),aR 32 (.eq 2 [0,0,1] false (.t 30) (.t 31)),aM 2 32] (.ret)))),[.t 2]⟩
theorem h_r6Key:AX.compFn Tryz.prog 196=some c_r6Key:=by kernel_rfl
def c_r6fmtkey:AX.AFn:=⟨24,aS [aR 1 (.box 131 (.t 0)),aR 2 (.mv (.c (.str [])))] (.seq (aS [aR 3 (.load true 3 (.t 1)),aR 4 (.call 196 [.t 3]),aR 5 (.un .not (.t 4)),aM 6 5,aG 7 (.faddr 0 (.t 1)) 6 false,aG 8 (.load false 1 (.t 7)) 6 false,aG 9 (.bin .eql (.t 8) (aI 0)) 6 false,aR 10 (.pick (.t 6) (.c (.bool true)) (.t 9))] (.cond (.t 10) (aS [aR 2 (.mv (.c (.str [])))] (.ret)) (.skip))) (.seq (aS [aF 11 0 1,aL 12 11,aR 13 (.bin .eql (.t 12) (aI 1))] (.cond (.t 13) (aS [aF 14 1 1,aL 15 14,aR 16 (.call 208 [.t 15]),aR 17 (.bin .add (.c (.str [91])) (.t 16)),aR 18 (.bin .add (.t 17) (.c (.str [93]))),aM 2 18] (.ret)) (.skip))) (aS [aF 19 2 1,aL 20 19,aR 21 (.call 195 [.t 20]),aR 22 (.bin .add (.c (.str [91])) (.t 21)),aR 23 (.bin .add (.t 22) (.c (.str [93]))),aM 2 23] (.ret)))),[.t 2]⟩
theorem h_r6fmtkey:AX.compFn Tryz.prog 199=some c_r6fmtkey:=by kernel_rfl
def c_r6step:AX.AFn:=⟨30,aS [aR 2 (.alloc 158 [.str [],.int .i64 0,.int .i64 0,.str []]),aR 3 (.mv (.c (.str []))),aR 4 (.mv (.c (.bool false)))] (aS [aM 10 0,aR 11 (.ssl (.t 10) (some (aI 7)) none),aR 12 (.call 179 [.t 11]),aM 9 12,aE 13 9 0,aE 14 9 1,aM 5 13,aM 6 14] (aS [aM 16 6,aR 17 (.call 181 [.t 16]),aM 15 17,aE 18 15 0,aE 19 15 1,aE 20 15 2,aR 7 (.alloc 131 [.int .i64 0,.int .i64 0,.str []]),aU (.store 3 (.t 7) (.t 18)),aM 6 19,aM 8 20] (.seq (.reg true [aM 21 5,aR 22 (.load true 3 (.t 7)),⟨some 23,.build [.str [],.int .i64 0,.int .i64 0,.str []] [(0,1,.t 21),(1,3,.t 22)],none,[0,1]⟩,aM 24 6,aM 25 8,⟨some 26,.mv (.t 25),none,[4]⟩,⟨some 27,.mv (.t 5),some (26,true),[5]⟩,⟨some 28,.call 135 [.t 27],some (26,true),[6,5,5]⟩,⟨some 29,.pick (.t 26) (.t 28) (.c (.bool false)),none,[5,7]⟩,⟨none,.store 4 (.t 2) (.t 23),none,[2,7,0,1,2]⟩,⟨some 3,.mv (.t 24),none,[3,9,0,1,2,3,9]⟩,⟨some 4,.mv (.t 29),none,[8,10,0,1,2,3,4,5,6,7,8,9,10]⟩]) (.ret)))),[.c 2 true 4,.t 3,.t 4]⟩
theorem h_r6step:AX.compFn Tryz.prog 178=some c_r6step:=by kernel_rfl
theorem a_r2unquote (s:List UInt8) (hs:s.length≤2000000) (h:Hp):ACall Tryz.prog GT 194 [.str s] h fun r h'=>r = .tup [.str (Str.unquote s).1,.int .i64 (Str.unquote s).2.1,.int .i64 (Str.unquote s).2.2]∧h'=h:=
 acall_imp (args1 r_str) (fun w hg=>refUnquote_any ⟨s.toArray⟩ w (by rw [size_mk]; exact hs)) (fun C=>rep_tup.2 ⟨_,rfl,repL_cons.2 ⟨_,_,rfl,rep_str.2 rfl,repL_cons.2 ⟨_,_,rfl,rep_int.2 rfl,repL_cons.2 ⟨_,_,rfl,rep_int.2 rfl,repL_nil.2 rfl⟩⟩⟩⟩) h
theorem a_r2quote (s:List UInt8) (hs:s.length≤2000000) (h:Hp):ACall Tryz.prog GT 195 [.str s] h fun r h'=>r = .str (Str.quote s)∧h'=h:=
 acall_imp (args1 r_str) (fun w hg=>refQuote_any ⟨s.toArray⟩ w (by rw [size_mk]; exact hs)) (fun C=>rep_str.2 rfl) h
theorem key_eqB (k:Adr.K):(k == Adr.K.none)=((k.kind == 0)&&((k.num == 0)&&(k.str == []))):=by
 obtain ⟨a,b,c⟩:=k
 unfold Adr.K.none
 rw [Bool.eq_iff_iff,beq_iff_eq,Bool.and_eq_true,Bool.and_eq_true,beq_iff_eq,beq_iff_eq,beq_iff_eq]
 simp
theorem a_r6Key (k:Adr.K) (hk:k.str.length≤2000000) (h:Hp):ACall Tryz.prog GT 196 [.agg [.int .i64 k.kind,.int .i64 k.num,.str k.str]] h fun r h'=>r = .bool (Adr.keyOk k)∧h'=h:=by
 have hv:=a_refValid k.str hk
 refine pcall ?_ rfl (by simp [A.pure,A.data]) h
 refine acall_of mixedT h_r6Key (by simp [c_r6Key]) ?_
 dsimp only [c_r6Key]
 unfold Adr.keyOk
 rw [key_eqB]
 obtain ⟨kd,num,str⟩:=k
 dsimp only at hv ⊢
 by_cases h1:kd=1
 ·subst h1
  refine runx0 ti ti ?_
  refine ⟨_,le_refl _,?_⟩
  rw [tupA_1,if_pos rfl]
 have e1:(kd == 1)=false:=by simp [h1]
 rw [if_neg h1]
 by_cases h2:kd=2
 ·subst h2
  refine runx0 ti (ai hv ti) ?_
  exact ⟨_,le_refl _,rfl⟩
 have e2:(kd == 2)=false:=by simp [h2]
 rw [if_neg h2]
 have eq:eqCells [0,0,1] [.int .i64 kd,.int .i64 num,.str str] [.int .i64 0,.int .i64 0,.str []]=some ((kd == 0)&&((num == 0)&&(str == []))):=by simp [eqCells]
 refine runx0 (ai e1 (ai e2 eq)) ti ?_
 exact ⟨_,le_refl _,rfl⟩
theorem a_r6fmtkey0 (h:Hp):ACall Tryz.prog GT 199 [.agg [.int .i64 0,.int .i64 0,.str []]] h fun r h'=>r = .str []∧h'=h:=by
 refine pcall ?_ rfl (by simp [A.pure,A.data]) h
 refine acall_of mixedT h_r6fmtkey (by simp [c_r6fmtkey]) ?_
 dsimp only [c_r6fmtkey]
 have ck:=a_r6Key Adr.K.none (by decide)
 rw [show Adr.keyOk Adr.K.none=true by decide] at ck
 dsimp only [Adr.K.none] at ck
 refine runx0 ti (ai ck ti) ?_
 exact ⟨_,le_refl _,rfl⟩
def keyR (s:List UInt8):Adr.K×List UInt8×Bool:=match Adr.key s with
 | none=>(Adr.K.none,[],false)
 | some (k,r)=>(k,r,true)
def keyT (r:Adr.K×List UInt8×Bool):A:=.tup [.agg [.int .i64 r.1.kind,.int .i64 r.1.num,.str r.1.str],.str r.2.1,.bool r.2.2]
theorem dig_yes (c:UInt8):(decide ((c.toNat:Int)≥48)&&decide ((c.toNat:Int)≤57))=Num.digB c:=by
 unfold Num.digB
 have e1:decide ((c.toNat:Int)≥48)=decide (48≤c.toNat):=by rw [decide_eq_decide]; omega
 have e2:decide ((c.toNat:Int)≤57)=decide (c.toNat≤57):=by rw [decide_eq_decide]; omega
 rw [e1,e2]
theorem byte_eqI (c:UInt8) (n:Nat) (hn:n < 256):((c.toNat:Int) == (n:Int))=(c == UInt8.ofNat n):=by
 rw [Bool.eq_iff_iff,beq_iff_eq,beq_iff_eq,←UInt8.toNat_inj,UInt8.toNat_ofNat']
 omega
theorem byte_neI (c:UInt8) (n:Nat) (hn:n < 256):((c.toNat:Int) != (n:Int))=(c != UInt8.ofNat n):=by
 show (!((c.toNat:Int) == (n:Int)))=!(c == UInt8.ofNat n)
 rw [byte_eqI c n hn]
theorem a_r6key (s:List UInt8) (hl:s.length≤2000000) (h:Hp):ACall Tryz.prog GT 181 [.str s] h fun r h'=>r=keyT (keyR s)∧h'=h:=by
 obtain ⟨q,hq⟩:∃ q,keyR s=q:=⟨_,rfl⟩
 rw [hq]
 unfold keyR at hq
 refine pcall ?_ (by unfold keyT; rfl) (by simp [A.pure,A.data]) h
 refine fo ?_
 by_cases h1:s.getD 0 0=91
 rotate_left
 ·have hk:Adr.key s=some (Adr.K.none,s):=by unfold Adr.key; rw [if_pos h1]
  rw [hk] at hq
  subst hq
  cases s with
  | nil =>
   refine runx0 ti ti ?_
   exact ⟨_,le_refl _,rfl⟩
  | cons c t =>
   have e0:((c::t) == ([]:List UInt8))=false∧(0:Int) < ((t.length+1:Nat):Int)∧((c.toNat:Int) != 91)=true:=⟨rfl,by omega,by
    have:=byte_neI c 91 (by decide)
    rw [List.getD_cons_zero] at h1
    rw [show ((91:Nat):Int)=91 from rfl] at this
    rw [this]; simpa using h1⟩
   refine runx0 e0 ti ?_
   exact ⟨_,le_refl _,rfl⟩
 cases s with
 | nil=>simp at h1
 | cons c t =>
 rw [List.getD_cons_zero] at h1
 subst h1
 have hl' : t.length + 1 ≤ 2000000 := hl
 have e0 : (((91 : UInt8) :: t) == ([] : List UInt8)) = false ∧ (0 : Int) < ((t.length + 1 : Nat) : Int) ∧ (((91 : UInt8).toNat : Int) != 91) = false ∧ (0 : Int) ≤ 1 ∧ (1 : Int) ≤ ((t.length + 1 : Nat) : Int) ∧ Int.toNat 1 = 1 := ⟨rfl, by omega, rfl, by omega, by omega, rfl⟩
 have hk0 : Adr.key (91 :: t) = if 1 < (91 :: t).length ∧ (91 :: t).getD 1 0 = 34 then
  (let u := Str.unquote ((91 :: t).drop 1)
   let k : Adr.K := ⟨2, 0, u.1⟩
   if u.2.2 ≠ 0 ∨ (91 :: t).length ≤ u.2.1 + 1 ∨ (91 :: t).getD (u.2.1 + 1) 0 ≠ 93 ∨ ((91 :: t).take (u.2.1 + 1)).drop 1 ≠ Str.quote u.1 ∨ Adr.keyOk k = false then Option.none
   else some (k, (91 :: t).drop (u.2.1 + 2)))
 else
  (let d := ((91 :: t).drop 1).takeWhile Num.digB
   let x := Num.parse d
   if x.2 ≠ 0 ∨ (91 :: t).length ≤ d.length + 1 ∨ (91 :: t).getD (d.length + 1) 0 ≠ 93 then Option.none
   else some (⟨1, x.1, []⟩, (91 :: t).drop (d.length + 2))) := by unfold Adr.key; rw [if_neg (by simp)]
 simp only [List.drop_succ_cons,List.drop_zero,List.getD_cons_succ,List.take_succ_cons,List.length_cons] at hk0
 by_cases h2:0 < t.length∧t.getD 0 0=34
 ·rw [if_pos ⟨by omega,h2.2⟩] at hk0
  obtain ⟨h3,h4⟩:=h2
  have e1:((t.length+1:Nat):Int) > 1∧(1:Int) < ((t.length+1:Nat):Int)∧(((91:UInt8)::t).getD 1 0)=34∧(((34:UInt8).toNat:Int) == 34)=true:=⟨by omega,by omega,by rw [List.getD_cons_succ]; exact h4,rfl⟩
  have cu:=a_r2unquote t (by omega)
  have hwd:=Str.unquote_width t
  have huv:=Str.unquote_valid t
  obtain ⟨⟨x,n,e⟩,hu⟩:∃ u,Str.unquote t=u:=⟨_,rfl⟩
  rw [hu] at cu hk0 hwd huv
  dsimp only at cu hk0 hwd huv
  by_cases g1:e=0
  rotate_left
  ·have f1:(e != 0)=true:=by simp [g1]
   rw [if_pos (.inl g1)] at hk0
   rw [hk0] at hq
   subst hq
   refine runx0 (ai e0 (ai e1 f1)) (ai cu ti) ?_
   exact ⟨_,le_refl _,rfl⟩
  subst g1
  have hn:=hwd rfl
  have hxl:x.length≤2000000:=by
   have:=huv rfl
   unfold Str.valid at this
   rw [Bool.and_eq_true,decide_eq_true_eq] at this
   omega
  have cq:=a_r2quote x hxl
  have ck:=a_r6Key ⟨2,0,x⟩ hxl
  have w1:IntKind.i64.wrap ((n:Int)+1)=((n+1:Nat):Int)∧IntKind.i64.wrap ((n:Int)+2)=((n+2:Nat):Int):=⟨i80 (by omega),by rw [wrap64 (by omega) (by omega)]; omega⟩
  by_cases g2:t.length+1≤n+1
  ·have f2:((n+1:Nat):Int)≥((t.length+1:Nat):Int):=by omega
   rw [if_pos (.inr (.inl g2))] at hk0
   rw [hk0] at hq
   subst hq
   refine runx0 (ai e0 (ai e1 (ai w1 f2))) (ai cu ti) ?_
   exact ⟨_,le_refl _,rfl⟩
  have f2:¬ ((n+1:Nat):Int)≥((t.length+1:Nat):Int)∧((n+1:Nat):Int) < ((t.length+1:Nat):Int)∧(0:Int)≤((n+1:Nat):Int)∧(1:Int)≤((n+1:Nat):Int)∧((n+1:Nat):Int)≤((t.length+1:Nat):Int):=⟨by omega,by omega,by omega,by omega,by omega⟩
  obtain ⟨c,hc⟩:∃ c,t.getD n 0=c:=⟨_,rfl⟩
  have hcn:=byte_neI c 93 (by decide)
  rw [show ((93:Nat):Int)=93 from rfl,show UInt8.ofNat 93=93 from rfl] at hcn
  rw [hc] at hk0
  by_cases g3:c=93
  rotate_left
  ·have f3:(c != 93)=true:=by simp [g3]
   rw [if_pos (.inr (.inr (.inl g3)))] at hk0
   rw [hk0] at hq
   subst hq
   refine runx0 (ai e0 (ai e1 (ai w1 (ai f2 (ai hc (ai hcn f3)))))) (ai cu ti) ?_
   exact ⟨_,le_refl _,rfl⟩
  have f3:(c != 93)=false:=by simp [g3]
  by_cases g4:t.take n=Str.quote x
  rotate_left
  ·have f4:(t.take n != Str.quote x)=true:=by simp [g4]
   rw [if_pos (.inr (.inr (.inr (.inl g4))))] at hk0
   rw [hk0] at hq
   subst hq
   refine runx0 (ai e0 (ai e1 (ai w1 (ai f2 (ai hc (ai hcn (ai f3 f4))))))) (ai cu (ai cq ti)) ?_
   exact ⟨_,le_refl _,rfl⟩
  have f4:(t.take n != Str.quote x)=false:=by simp [g4]
  dsimp only at ck
  cases g5:Adr.keyOk ⟨2,0,x⟩ with
  | false =>
   rw [g5] at ck
   rw [if_pos (.inr (.inr (.inr (.inr g5))))] at hk0
   rw [hk0] at hq
   subst hq
   refine runx0 (ai e0 (ai e1 (ai w1 (ai f2 (ai hc (ai hcn (ai f3 f4))))))) (ai cu (ai cq (ai ck ti))) ?_
   exact ⟨_,le_refl _,rfl⟩
  | true =>
   rw [g5] at ck
   rw [if_neg (by rintro (h | h | h | h | h); exact h rfl; exact g2 h; exact h g3; exact h g4; rw [g5] at h; cases h)] at hk0
   rw [hk0] at hq
   subst hq
   have f6:(0:Int)≤((n+2:Nat):Int)∧((n+2:Nat):Int)≤((t.length+1:Nat):Int):=⟨by omega,by omega⟩
   refine runx0 (ai e0 (ai e1 (ai w1 (ai f2 (ai hc (ai hcn (ai f3 (ai f4 f6)))))))) (ai cu (ai cq (ai ck ti))) ?_
   exact ⟨_,le_refl _,rfl⟩
 rw [if_neg (fun h=>h2 ⟨by omega,h.2⟩)] at hk0
 have e1:(decide (((t.length+1:Nat):Int) > 1)&&((t.getD 0 0).toNat:Int) == 34)=false:=by
  have hb:=byte_eqI (t.getD 0 0) 34 (by decide)
  rw [show ((34:Nat):Int)=34 from rfl,show UInt8.ofNat 34=34 from rfl] at hb
  rw [hb]
  by_cases h3:0 < t.length
  ·have:(t.getD 0 0 == 34)=false:=by simpa using fun h=>h2 ⟨h3,h⟩
   rw [this,Bool.and_false]
  ·have:decide (((t.length+1:Nat):Int) > 1)=false:=by rw [decide_eq_false_iff_not]; omega
   rw [this,Bool.false_and]
 refine runx0 (ai e0 e1) ti ?_
 refine awp_loop (fun m ts hh=>hh=⟨[.cells 131 [.int .i64 0,.int .i64 0,.str []]],[]⟩∧∃ j:Nat,m=t.length - j∧j≤t.length∧(t.take j).all Num.digB=true∧(ts 0 = .str (91::t)∧ts 2 = .ptr 0 0∧ts 9 = .int .i64 ((j+1:Nat):Int))) t.length ?_ ?_
 ·exact ⟨rfl,0,rfl,Nat.zero_le _,rfl,by (exact inv0 ti)⟩
 rintro m ts hh ⟨rfl,j,rfl,hj,hall,ht⟩
 have hs:(0:Int)≤((j+1:Nat):Int)∧(1:Int)≤((j+1:Nat):Int)∧((j+1:Nat):Int)≤((t.length+1:Nat):Int)∧IntKind.i64.wrap (((j+1:Nat):Int)+1)=((j+1+1:Nat):Int):=⟨by omega,by omega,by omega,i80 (by omega)⟩
 have fin:(j=t.length∨Num.digB (t.getD j 0)=false)→t.takeWhile Num.digB=t.take j∧(t.takeWhile Num.digB).length=j:=fun hc=>by
  obtain ⟨k1,_⟩:=take_stop t j hj hall hc
  rw [k1,List.length_take]
  exact ⟨rfl,by omega⟩
 have hpl:(t.take j).length≤2000000:=by rw [List.length_take]; omega
 have cp:=a_r1parse (t.take j) hpl
 rcases Nat.lt_or_ge j t.length with hlt | hge
 ·have hf:((j+1:Nat):Int) < ((t.length+1:Nat):Int):=by omega
  obtain ⟨c,hc⟩:∃ c,t.getD j 0=c:=⟨_,rfl⟩
  have hcc:t[j]=c:=by rw [←hc]; simp [List.getD,hlt]
  have hw:=dig_yes c
  cases hB:Num.digB c with
  | true =>
   rw [hB,Bool.and_eq_true] at hw
   have hw':=hw
   refine runx0 (ai ht (ai hs (ai hf (ai hc hw)))) ti ?_
   refine ⟨_,?_,rfl,j+1,rfl,by omega,?_,by (exact inv0 (ai ht (ai hs hf)))⟩
   ·omega
   ·rw [List.take_succ_eq_append_getElem hlt,List.all_append,hall,hcc]
    simp [hB]
  | false =>
   rw [hB] at hw
   obtain ⟨k1,k2⟩:=fin (.inr (by rw [hc]; exact hB))
   rw [k2,k1] at hk0
   have hcn:=byte_neI c 93 (by decide)
   rw [show ((93:Nat):Int)=93 from rfl,show UInt8.ofNat 93=93 from rfl] at hcn
   obtain ⟨⟨x,e⟩,hx⟩:∃ x,Num.parse (t.take j)=x:=⟨_,rfl⟩
   rw [hx] at hk0 cp
   dsimp only at hk0 cp
   rw [hc] at hk0
   have hge:¬ ((j+1:Nat):Int)≥((t.length+1:Nat):Int):=by omega
   by_cases g1:e=0
   rotate_left
   ·have f1:(e != 0)=true:=by simp [g1]
    rw [if_pos (.inl g1)] at hk0
    rw [hk0] at hq
    subst hq
    refine runx0 (ai ht (ai hs (ai hf (ai hc (ai hw f1))))) (ai cp ti) ?_
    exact ⟨_,le_refl _,rfl⟩
   have f1:(e != 0)=false:=by simp [g1]
   by_cases g2:c=93
   rotate_left
   ·have f2:(c != 93)=true:=by simp [g2]
    rw [if_pos (.inr (.inr g2))] at hk0
    rw [hk0] at hq
    subst hq
    refine runx0 (ai ht (ai hs (ai hf (ai hc (ai hw (ai hge (ai hcn (ai f1 f2)))))))) (ai cp ti) ?_
    exact ⟨_,le_refl _,rfl⟩
   have f2:(c != 93)=false:=by simp [g2]
   rw [if_neg (by rintro (h | h | h); exact h g1; omega; exact h g2)] at hk0
   rw [hk0] at hq
   subst hq
   have f3:(0:Int)≤((j+1+1:Nat):Int)∧((j+1+1:Nat):Int)≤((t.length+1:Nat):Int):=⟨by omega,by omega⟩
   refine runx0 (ai ht (ai hs (ai hf (ai hc (ai hw (ai hge (ai hcn (ai f1 (ai f2 f3))))))))) (ai cp ti) ?_
   exact ⟨_,le_refl _,rfl⟩
 ·have hf:¬ ((j+1:Nat):Int) < ((t.length+1:Nat):Int):=by omega
  obtain ⟨k1,k2⟩:=fin (.inl (by omega))
  rw [k2,k1] at hk0
  obtain ⟨⟨x,e⟩,hx⟩:∃ x,Num.parse (t.take j)=x:=⟨_,rfl⟩
  rw [hx] at hk0 cp
  dsimp only at hk0 cp
  rw [if_pos (.inr (.inl (by omega)))] at hk0
  rw [hk0] at hq
  subst hq
  have hge:((j+1:Nat):Int)≥((t.length+1:Nat):Int):=by omega
  by_cases g1:e=0
  ·have f1:(e != 0)=false:=by simp [g1]
   refine runx0 (ai ht (ai hs (ai hf (ai hge f1)))) (ai cp ti) ?_
   exact ⟨_,le_refl _,rfl⟩
  ·have f1:(e != 0)=true:=by simp [g1]
   refine runx0 (ai ht (ai hs (ai hf f1))) (ai cp ti) ?_
   exact ⟨_,le_refl _,rfl⟩
def stepR (s:List UInt8):Adr.Step×List UInt8×Bool:=
 (⟨(s.drop 7).takeWhile Adr.wordB,(keyR ((s.drop 7).dropWhile Adr.wordB)).1⟩,(keyR ((s.drop 7).dropWhile Adr.wordB)).2.1,(keyR ((s.drop 7).dropWhile Adr.wordB)).2.2&&Adr.ident ((s.drop 7).takeWhile Adr.wordB))
theorem a_r6step (s:List UInt8) (hl:s.length≤2000000) (h7:7≤s.length) (h:Hp):ACall Tryz.prog GT 178 [.str s] h fun r h'=>r = .tup [.agg (stepR s).1.cells,.str (stepR s).2.1,.bool (stepR s).2.2]∧h'=h:=by
 have cw:=a_r6word (s.drop 7) (by rw [List.length_drop]; omega)
 have w1:((s.drop 7).takeWhile Adr.wordB).length≤2000000:=Nat.le_trans (List.takeWhile_prefix _).length_le (by rw [List.length_drop]; omega)
 have w2:((s.drop 7).dropWhile Adr.wordB).length≤2000000:=Nat.le_trans (List.dropWhile_suffix _).length_le (by rw [List.length_drop]; omega)
 have ck:=a_r6key _ w2
 have ci:=a_r6ident _ w1
 unfold stepR
 refine pcall ?_ rfl (by simp [A.pure,A.data]) h
 obtain ⟨W,hW⟩:∃ W,(s.drop 7).takeWhile Adr.wordB=W:=⟨_,rfl⟩
 obtain ⟨R,hR⟩:∃ R,(s.drop 7).dropWhile Adr.wordB=R:=⟨_,rfl⟩
 rw [hW] at cw ci ⊢
 rw [hR] at cw ck ⊢
 obtain ⟨⟨⟨a,b,d⟩,r,ok⟩,hk⟩:∃ k,keyR R=k:=⟨_,rfl⟩
 rw [hk] at ck ⊢
 unfold keyT at ck
 dsimp only at ck ⊢
 dsimp only [Adr.Step.cells]
 refine acall_of mixedT h_r6step (by simp [c_r6step]) ?_
 dsimp only [c_r6step]
 have hs:(0:Int)≤7∧(7:Int)≤(s.length:Int)∧Int.toNat 7=7:=⟨by decide,by omega,rfl⟩
 have tk:s.take s.length=s:=List.take_length
 refine runx0 hs (ai cw (ai ck (ai ci ti))) ?_
 exact ⟨_,le_refl _,rfl⟩
def preP (acc:List Adr.Step) (r:Option (Adr.Ad×Bool)):Option (Adr.Ad×Bool):=r.map fun p=>({ p.1 with mods:=acc++p.1.mods },p.2)
def placeT:Option (Adr.Ad×Bool)→A
 | none => .tup [.agg [.sl 0 .nil [],.bool false,.str [],.str [],.int .i64 0,.int .i64 0,.str [],.bool false],.bool false]
 | some (p,w) => .tup [.agg [.sl 4 .no (p.mods.map Adr.Step.cells),.bool p.data,.str p.type,.str p.name,.int .i64 p.key.kind,.int .i64 p.key.num,.str p.key.str,.bool w],.bool true]
theorem placeT_pure (r:Option (Adr.Ad×Bool)):(placeT r).pure=true:=by
 cases r with
 | none=>rfl
 | some p=>rfl
theorem step_R (s:List UInt8):Adr.step s=if (stepR s).2.2=true then some ((stepR s).1,(stepR s).2.1) else none:=by
 unfold Adr.step stepR keyR
 cases Adr.key ((s.drop 7).dropWhile Adr.wordB) with
 | none=>simp
 | some p =>
  obtain ⟨k,r⟩:=p
  simp only [Bool.true_and]
def c_r6parse:AX.AFn:=⟨27,aS [aR 2 (.alloc 133 [.sl 0 .nil [],.bool false,.str [],.str [],.int .i64 0,.int .i64 0,.str []]),aR 3 (.mv (aI 0))] (aS [aM 7 0,aR 8 (.call 155 [.t 7]),aM 6 8,aE 9 6 0,aE 10 6 1,aR 4 (.alloc 206 [.sl 0 .nil [],.bool false,.str [],.str [],.int .i64 0,.int .i64 0,.str [],.bool false]),aU (.store 8 (.t 4) (.t 9)),aM 5 10] (.seq (aS [aM 11 5,aR 12 (.un .not (.t 11)),aM 13 12,aG 14 (.faddr 7 (.t 4)) 13 false,aG 15 (.load false 1 (.t 14)) 13 false,aG 16 (.un .not (.t 15)) 13 false,aR 17 (.pick (.t 13) (.c (.bool true)) (.t 16))] (.cond (.t 17) (aS [aR 18 (.build [.sl 0 .nil [],.bool false,.str [],.str [],.int .i64 0,.int .i64 0,.str []] []),aU (.store 7 (.t 2) (.t 18)),aR 3 (.mv (aI 2))] (.ret)) (.skip))) (.seq (aS [aF 19 0 4,aF 20 0 19,aL 21 20,aR 22 (.len false (.t 21)),aR 23 (.bin .gtr (.t 22) (aI 16))] (.cond (.t 23) (aS [aR 24 (.build [.sl 0 .nil [],.bool false,.str [],.str [],.int .i64 0,.int .i64 0,.str []] []),aU (.store 7 (.t 2) (.t 24)),aR 3 (.mv (aI 4))] (.ret)) (.skip))) (aS [aF 25 0 4,aR 26 (.load true 7 (.t 25)),aU (.store 7 (.t 2) (.t 26)),aR 3 (.mv (aI 0))] (.ret))))),[.c 2 true 7,.t 3]⟩
theorem h_r6parse:AX.compFn Tryz.prog 132=some c_r6parse:=by kernel_rfl
theorem preP_some (acc:List Adr.Step) (p:Adr.Ad) (w:Bool):preP acc (some (p,w))=some ({ p with mods:=acc++p.mods },w):=rfl
set_option maxHeartbeats 8000000 in
theorem a_r6place (s0:List UInt8) (hl:s0.length≤2000000) (h:Hp):ACall Tryz.prog GT 155 [.str s0] h fun r h'=>r=placeT (Adr.place (s0.length+1) s0)∧h'=h:=by
 refine pcall ?_ (placeT_pure _) (by simp [A.pure,A.data]) h
 obtain ⟨q,hq⟩:∃ q,Adr.place (s0.length+1) s0=q:=⟨_,rfl⟩
 rw [hq]
 refine fo ?_
 refine runx0 ti ti ?_
 refine awp_loop (fun m ts hh=>∃ (s:List UInt8) (acc:List Adr.Step) (f:Nat) (W:Nat) (o:Own) (l:List Blk) (t:List (TypeId×Nat×Nat)),m=s.length∧s.length < f∧acc.length+s.length≤s0.length∧q=preP acc (Adr.place f s) ∧
  hh=⟨.cells 206 [.sl 0 .nil [],.bool false,.str [],.str [],.int .i64 0,.int .i64 0,.str [],.bool false] :: .cells 206 [.sl W o (acc.map Adr.Step.cells),.bool false,.str [],.str [],.int .i64 0,.int .i64 0,.str [],.bool false]::l,t⟩ ∧
  Gs 158 4 0 ⟨[],t⟩ (acc.map Adr.Step.cells) (.sl W o (acc.map Adr.Step.cells))∧(ts 0 = .str s∧ts 2 = .ptr 0 0∧ts 4 = .ptr 1 0)) s0.length ?_ ?_
 ·exact ⟨s0,[],s0.length+1,0,.nil,[],[],rfl,Nat.lt_succ_self _,by simp,by rw [←hq]; unfold preP; cases Adr.place (s0.length+1) s0 <;> rfl,rfl,.inl ⟨rfl,rfl⟩,by (exact inv0 ti)⟩
 rintro m ts hh ⟨s,acc,f,W,o,l,t,rfl,hf,hal,hp,rfl,gX,ht⟩
 obtain ⟨f,rfl⟩:∃ g,f=g+1:=⟨f - 1,by omega⟩
 unfold Adr.place at hp
 have cb:=a_r6begins s Adr.modW (by omega) (by decide)
 cases hB:Adr.begins s Adr.modW with
 | true =>
  rw [hB] at cb
  rw [hB,if_pos rfl,step_R] at hp
  have h7:7≤s.length:=Adr.begins_len hB
  have cs:=a_r6step s (by omega) h7
  have hsr:=Adr.step_rest s
  rw [step_R] at hsr
  dsimp only [Adr.modW] at cb
  obtain ⟨⟨⟨xn,kk,kn,ks⟩,rest,ok⟩,hR⟩:∃ r,stepR s=r:=⟨_,rfl⟩
  rw [hR] at cs hp hsr
  dsimp only [Adr.Step.cells] at cs hp hsr
  cases ok with
  | false =>
   rw [if_neg (by decide)] at hp
   have hq0:q=none:=hp
   subst hq0
   refine runx0 ht (ai cb (ai cs ti)) ?_
   exact ⟨_,le_refl _,rfl⟩
  | true =>
  rw [if_pos rfl] at hp hsr
  have hrl:=hsr _ _ rfl
  dsimp only at hp
  have hrow:(acc++[(⟨xn,⟨kk,kn,ks⟩⟩:Adr.Step)]).map Adr.Step.cells=acc.map Adr.Step.cells++[[.str xn,.int .i64 kk,.int .i64 kn,.str ks]]:=by rw [List.map_append]; rfl
  obtain ⟨W',o',t',hX,gX',_⟩:=gX.grow 48 [.str xn,.int .i64 kk,.int .i64 kn,.str ks] (by rw [List.length_map]; omega) (by decide)
  rw [←hrow] at gX'
  simp only [←hrow] at hX
  by_cases hr0:rest=[]
  ·subst hr0
   rw [if_pos rfl] at hp
   rw [preP_some] at hp
   subst hp
   refine runx0 (ai ht hX) (ai cb (ai cs ti)) ?_
   refine ⟨placeT _,?_,rfl⟩
   exact ⟨⟨gX'.le,rfl,rfl,rfl,rfl,rfl,rfl,rfl,trivial⟩,rfl,trivial⟩
  rw [if_neg hr0] at hp
  have hr0':(rest == ([]:List UInt8))=false:=by simpa using hr0
  have hpos:0 < rest.length:=List.length_pos_iff.2 hr0
  have hr1:(0:Int) < (rest.length:Int)∧(0:Int)≤1∧(1:Int)≤(rest.length:Int)∧Int.toNat 1=1∧rest.take rest.length=rest:=⟨by omega,by omega,by omega,rfl,List.take_length⟩
  obtain ⟨c,hc⟩:∃ c,rest.getD 0 0=c:=⟨_,rfl⟩
  have hcn:=byte_neI c 46 (by decide)
  rw [show ((46:Nat):Int)=46 from rfl,show UInt8.ofNat 46=46 from rfl] at hcn
  rw [hc] at hp
  by_cases hd:c=46
  rotate_left
  ·have e1:(c != 46)=true:=by simp [hd]
   rw [if_pos hd] at hp
   have hq0:q=none:=hp
   subst hq0
   refine runx0 (ai ht (ai hX (ai hr0' (ai hr1 (ai hc (ai hcn e1)))))) (ai cb (ai cs ti)) ?_
   exact ⟨_,le_refl _,rfl⟩
  have e1:(c != 46)=false:=by simp [hd]
  rw [if_neg (by simp [hd])] at hp
  refine runx0 (ai ht (ai hX (ai hr0' (ai hr1 (ai hc (ai hcn e1)))))) (ai cb (ai cs ti)) ?_
  refine ⟨(rest.drop 1).length,by rw [List.length_drop]; omega,rest.drop 1,acc++[⟨xn,⟨kk,kn,ks⟩⟩],f,W',o',_,t',rfl,by rw [List.length_drop]; omega,by rw [List.length_append,List.length_drop]; simp; omega,?_,rfl,gX',by (exact inv0 (ai ht hr1))⟩
  rw [hp]
  unfold preP
  cases Adr.place f (rest.drop 1) with
  | none=>rfl
  | some p=>simp
 | false =>
  rw [hB] at cb
  rw [hB,if_neg (by decide)] at hp
  dsimp only [Adr.modW] at cb
  have cd:=a_r6begins s Adr.dataW (by omega) (by decide)
  obtain ⟨dt,hdt⟩:∃ b,Adr.begins s Adr.dataW=b:=⟨_,rfl⟩
  have hdl:dt=true→5≤s.length:=fun e=>Adr.begins_len (s:=s) (p:=Adr.dataW) (by rw [hdt]; exact e)
  unfold Adr.last at hp
  dsimp only at hp
  rw [hdt] at cd hp
  dsimp only [Adr.dataW] at cd
  obtain ⟨tt,htt⟩:∃ tt,(if dt=true then s.drop 5 else s)=tt:=⟨_,rfl⟩
  rw [htt] at hp
  have htl:tt.length≤2000000:=by
   rw [←htt]
   split
   ·rw [List.length_drop]; omega
   ·omega
  refine runx0 ht (ai cb (ai cd ti)) ?_
  refine awp_join (fun ts' h'=>h'=⟨.cells 206 [.sl 0 .nil [],.bool false,.str [],.str [],.int .i64 0,.int .i64 0,.str [],.bool false] :: .cells 206 [.sl W o (acc.map Adr.Step.cells),.bool dt,.str [],.str [],.int .i64 0,.int .i64 0,.str [],.bool false]::l,t⟩∧(ts' 0 = .str tt∧ts' 2 = .ptr 0 0∧ts' 4 = .ptr 1 0)) ?_ ?_
  ·cases dt with
   | false =>
    rw [if_neg (by decide)] at htt
    subst htt
    refine runx0 ht ti ?_
    exact ⟨rfl,by (exact inv0 ht)⟩
   | true =>
    rw [if_pos rfl] at htt
    have h5:=hdl rfl
    have h5':(0:Int)≤5∧(5:Int)≤(s.length:Int)∧Int.toNat 5=5∧s.take s.length=s:=⟨by decide,by omega,rfl,List.take_length⟩
    refine runx0 (ai ht h5') ti ?_
    exact ⟨rfl,by (exact inv0 (ai ht (ai htt h5')))⟩
  rintro ts hh ⟨rfl,hu⟩
  have cw:=a_r6word tt htl
  have w1:(tt.takeWhile Adr.wordB).length≤2000000:=Nat.le_trans (List.takeWhile_prefix _).length_le htl
  have w2:(tt.dropWhile Adr.wordB).length≤2000000:=Nat.le_trans (List.dropWhile_suffix _).length_le htl
  have ci:=a_r6ident _ w1
  have cr:=a_r6res (tt.takeWhile Adr.wordB)
  obtain ⟨typ,htyp⟩:∃ w,tt.takeWhile Adr.wordB=w:=⟨_,rfl⟩
  obtain ⟨r,hr⟩:∃ w,tt.dropWhile Adr.wordB=w:=⟨_,rfl⟩
  rw [htyp] at cw ci cr hp
  rw [hr] at cw hp w2
  have hkb:Adr.kindB typ=(!Adr.reserved typ&&Adr.ident typ):=rfl
  have bad:(Adr.kindB typ=false∨r.getD 0 0≠46)→q=none:=fun hb=>by rw [hp,if_pos hb]; rfl
  cases hI:Adr.ident typ with
  | false =>
   rw [hI] at ci
   have hq0:=bad (.inl (by rw [hkb,hI]; simp))
   subst hq0
   refine runx0 hu (ai cw (ai ci ti)) ?_
   exact ⟨_,le_refl _,rfl⟩
  | true =>
  rw [hI] at ci
  cases hRs:Adr.reserved typ with
  | true =>
   rw [hRs] at cr
   have hq0:=bad (.inl (by rw [hkb,hRs]; rfl))
   subst hq0
   refine runx0 hu (ai cw (ai ci (ai cr ti))) ?_
   exact ⟨_,le_refl _,rfl⟩
  | false =>
  rw [hRs] at cr
  cases r with
  | nil =>
   have hq0:=bad (.inr (by simp))
   subst hq0
   refine runx0 hu (ai cw (ai ci (ai cr ti))) ?_
   exact ⟨_,le_refl _,rfl⟩
  | cons c r' =>
  have hr1:((c::r') == ([]:List UInt8))=false∧(0:Int) < ((r'.length+1:Nat):Int)∧(0:Int)≤1∧(1:Int)≤((r'.length+1:Nat):Int)∧Int.toNat 1=1∧r'.take r'.length=r':=⟨rfl,by omega,by omega,by omega,rfl,List.take_length⟩
  have hcn:=byte_neI c 46 (by decide)
  rw [show ((46:Nat):Int)=46 from rfl,show UInt8.ofNat 46=46 from rfl] at hcn
  by_cases hd:c=46
  rotate_left
  ·have e1:(c != 46)=true:=by simp [hd]
   have hq0:=bad (.inr (by simpa using hd))
   subst hq0
   refine runx0 (ai hu (ai hr1 (ai hcn e1))) (ai cw (ai ci (ai cr ti))) ?_
   exact ⟨_,le_refl _,rfl⟩
  have e1:(c != 46)=false:=by simp [hd]
  rw [if_neg (by rw [hkb,hRs,hI]; simpa using hd),List.drop_succ_cons,List.drop_zero] at hp
  have hr'l:r'.length≤2000000:=by simp only [List.length_cons] at w2; omega
  have cw2:=a_r6word r' hr'l
  have w3:(r'.takeWhile Adr.wordB).length≤2000000:=Nat.le_trans (List.takeWhile_prefix _).length_le hr'l
  have w4:(r'.dropWhile Adr.wordB).length≤2000000:=Nat.le_trans (List.dropWhile_suffix _).length_le hr'l
  have ci2:=a_r6ident _ w3
  have ck:=a_r6key _ w4
  obtain ⟨nm,hnm⟩:∃ w,r'.takeWhile Adr.wordB=w:=⟨_,rfl⟩
  obtain ⟨r2,hr2⟩:∃ w,r'.dropWhile Adr.wordB=w:=⟨_,rfl⟩
  rw [hnm] at cw2 ci2 hp
  rw [hr2] at cw2 ck hp
  have hkR:Adr.key r2=if (keyR r2).2.2=true then some ((keyR r2).1,(keyR r2).2.1) else none:=by
   unfold keyR
   cases Adr.key r2 with
   | none=>simp
   | some p=>simp
  rw [hkR] at hp
  obtain ⟨⟨⟨ka,kb,kc⟩,rst,ok⟩,hK⟩:∃ k,keyR r2=k:=⟨_,rfl⟩
  rw [hK] at ck hp
  unfold keyT at ck
  dsimp only at ck hp
  cases hI2:Adr.ident nm with
  | false =>
   rw [hI2] at ci2
   have hq0:q=none:=by
    rw [hp]
    cases ok with
    | false=>rfl
    | true =>
     rw [if_pos rfl]
     dsimp only
     rw [if_neg (by rw [hI2]; simp)]
     rfl
   subst hq0
   refine runx0 (ai hu (ai hr1 (ai hcn e1))) (ai cw (ai ci (ai cr (ai cw2 (ai ck (ai ci2 ti)))))) ?_
   exact ⟨_,le_refl _,rfl⟩
  | true =>
  rw [hI2] at ci2
  cases ok with
  | false =>
   have hq0:q=none:=hp
   subst hq0
   refine runx0 (ai hu (ai hr1 (ai hcn e1))) (ai cw (ai ci (ai cr (ai cw2 (ai ck (ai ci2 ti)))))) ?_
   exact ⟨_,le_refl _,rfl⟩
  | true =>
  rw [if_pos rfl] at hp
  dsimp only at hp
  by_cases hrst:rst=[]
  rotate_left
  ·have e2:(rst != ([]:List UInt8))=true:=by simpa using hrst
   rw [if_neg (fun h=>hrst h.2)] at hp
   have hq0:q=none:=hp
   subst hq0
   refine runx0 (ai hu (ai hr1 (ai hcn (ai e1 e2)))) (ai cw (ai ci (ai cr (ai cw2 (ai ck (ai ci2 ti)))))) ?_
   exact ⟨_,le_refl _,rfl⟩
  subst hrst
  rw [if_pos ⟨hI2,rfl⟩] at hp
  dsimp only at hp
  rw [preP_some] at hp
  dsimp only at hp
  rw [List.append_nil] at hp
  subst hp
  refine runx0 (ai hu (ai hr1 (ai hcn e1))) (ai cw (ai ci (ai cr (ai cw2 (ai ck (ai ci2 ti)))))) ?_
  refine ⟨placeT _,?_,rfl⟩
  exact ⟨⟨gX.le,rfl,rfl,rfl,rfl,rfl,rfl,rfl,trivial⟩,rfl,trivial⟩
theorem a_r6parse (s:List UInt8) (hl:s.length≤2000000) (h:Hp):ACall Tryz.prog GT 132 [.str s] h fun r h'=>r = .tup [.agg (Adr.parse s).1.cells,.int .i64 (Adr.parse s).2]∧h'=h:=by
 have cp:=a_r6place s hl
 refine pcall ?_ (by simp [A.pure,A.data,Adr.Ad.cells]) (by simp [A.pure,A.data]) h
 unfold Adr.parse
 refine acall_of mixedT h_r6parse (by simp [c_r6parse]) ?_
 dsimp only [c_r6parse]
 cases hP:Adr.place (s.length+1) s with
 | none =>
  rw [hP] at cp
  dsimp only [placeT] at cp
  refine runx0 ti (ai cp ti) ?_
  exact ⟨.tup [.agg (Adr.Ad.cells Adr.Ad.zero),.int .i64 2],⟨⟨⟨rfl,.inr rfl,.inl rfl⟩,rfl,rfl,rfl,rfl,rfl,rfl,trivial⟩,rfl,trivial⟩,rfl⟩
 | some p =>
  rw [hP] at cp
  obtain ⟨⟨mods,data,ty,nm,ka,kb,kc⟩,w⟩:=p
  dsimp only [placeT] at cp
  have lm:(mods.map Adr.Step.cells).length=mods.length:=List.length_map _
  cases w with
  | false =>
   refine runx0 ti (ai cp ti) ?_
   exact ⟨.tup [.agg (Adr.Ad.cells Adr.Ad.zero),.int .i64 2],⟨⟨⟨rfl,.inr rfl,.inl rfl⟩,rfl,rfl,rfl,rfl,rfl,rfl,trivial⟩,rfl,trivial⟩,rfl⟩
  | true =>
   dsimp only
   by_cases h16:16 < mods.length
   ·have e1:(mods.length:Int) > 16:=by omega
    rw [if_pos h16]
    refine runx0 (ai lm e1) (ai cp ti) ?_
    exact ⟨.tup [.agg (Adr.Ad.cells Adr.Ad.zero),.int .i64 4],⟨⟨⟨rfl,.inr rfl,.inl rfl⟩,rfl,rfl,rfl,rfl,rfl,rfl,trivial⟩,rfl,trivial⟩,rfl⟩
   ·have e1:¬ (mods.length:Int) > 16:=by omega
    rw [if_neg h16]
    refine runx0 (ai lm e1) (ai cp ti) ?_
    exact ⟨_,le_refl _,rfl⟩
def c_r6check:AX.AFn:=⟨50,aS [aR 1 (.box 133 (.t 0)),aR 2 (.mv (aI 0))] (.seq (aS [aF 4 0 1,aL 5 4,aR 6 (.len false (.t 5)),aR 7 (.bin .gtr (.t 6) (aI 16))] (.cond (.t 7) (aS [aR 2 (.mv (aI 4))] (.ret)) (.skip))) (.seq (aS [aR 3 (.mv (aI 0))] (.block 0 (.loop (.seq (aS [aM 8 3,aF 9 0 1,aL 10 9,aR 11 (.len false (.t 10)),aR 12 (.bin .lss (.t 8) (.t 11))] (.cond (.t 12) (.skip) (.exit 0))) (.seq (.block 1 (.seq (aS [aF 15 0 1,aL 16 15,aM 17 3,aR 18 (.iaddr 4 (.t 16) (.t 17)),aF 19 0 18,aL 20 19,aR 21 (.call 135 [.t 20]),aR 22 (.un .not (.t 21))] (.cond (.t 22) (aS [aR 2 (.mv (aI 7))] (.ret)) (.skip))) (aS [aF 23 0 1,aL 24 23,aM 25 3,aR 26 (.iaddr 4 (.t 24) (.t 25)),aF 27 1 26,aR 28 (.load true 3 (.t 27)),aR 29 (.call 196 [.t 28]),aR 30 (.un .not (.t 29))] (.cond (.t 30) (aS [aR 2 (.mv (aI 1))] (.ret)) (.skip))))) (.reg false [aM 13 3,aR 14 (.bin .add (.t 13) (aI 1)),aM 3 14])))))) (.seq (aS [aF 31 2 1,aL 32 31,aR 33 (.call 135 [.t 32]),aR 34 (.un .not (.t 33)),aM 35 34,aG 36 (.faddr 2 (.t 1)) 35 false,aG 37 (.load false 1 (.t 36)) 35 false,aG 38 (.call 180 [.t 37]) 35 false,aR 39 (.pick (.t 35) (.c (.bool true)) (.t 38)),aM 40 39,aG 41 (.faddr 3 (.t 1)) 40 false,aG 42 (.load false 1 (.t 41)) 40 false,aG 43 (.call 135 [.t 42]) 40 false,aG 44 (.un .not (.t 43)) 40 false,aR 45 (.pick (.t 40) (.c (.bool true)) (.t 44))] (.cond (.t 45) (aS [aR 2 (.mv (aI 7))] (.ret)) (.skip))) (.seq (aS [aF 46 4 1,aR 47 (.load true 3 (.t 46)),aR 48 (.call 196 [.t 47]),aR 49 (.un .not (.t 48))] (.cond (.t 49) (aS [aR 2 (.mv (aI 1))] (.ret)) (.skip))) (aS [aR 2 (.mv (aI 0))] (.ret)))))),[.t 2]⟩
theorem h_r6check:AX.compFn Tryz.prog 197=some c_r6check:=by kernel_rfl
def c_r6bare:AX.AFn:=⟨32,aS [aR 1 (.box 133 (.t 0)),aR 2 (.alloc 133 [.sl 0 .nil [],.bool false,.str [],.str [],.int .i64 0,.int .i64 0,.str []])] (aS [aF 5 1 1,aL 6 5,aF 7 2 1,aL 8 7,aF 9 3 1,aL 10 9,aR 11 (.build [.sl 0 .nil [],.bool false,.str [],.str [],.int .i64 0,.int .i64 0,.str []] [(1,1,.t 6),(2,1,.t 8),(3,1,.t 10)]),aR 3 (.alloc 133 [.sl 0 .nil [],.bool false,.str [],.str [],.int .i64 0,.int .i64 0,.str []]),aU (.store 7 (.t 3) (.t 11))] (.seq (aS [aR 4 (.mv (aI 0))] (.block 0 (.loop (.seq (aS [aM 12 4,aF 13 0 1,aL 14 13,aR 15 (.len false (.t 14)),aR 16 (.bin .lss (.t 12) (.t 15))] (.cond (.t 16) (.skip) (.exit 0))) (.seq (.block 1 (.reg true [aF 19 0 3,⟨some 20,.load false 1 (.t 19),none,[0]⟩,aF 21 0 1,⟨some 22,.load false 1 (.t 21),none,[2]⟩,aM 23 4,⟨some 24,.iaddr 4 (.t 22) (.t 23),none,[3,4]⟩,⟨some 25,.faddr 0 (.t 24),none,[5]⟩,⟨some 26,.load false 1 (.t 25),none,[6]⟩,⟨some 27,.build [.str [],.int .i64 0,.int .i64 0,.str []] [(0,1,.t 26)],none,[7]⟩,⟨some 28,.mks 4 [.t 27],none,[8]⟩,⟨some 29,.app 158 4 48 (.t 20) (.t 28),none,[1,9]⟩,⟨some 30,.faddr 0 (.t 3),none,[0,1,2,3,4,5,6,7,8,9,10]⟩,⟨none,.store 1 (.t 30) (.t 29),none,[11,10,10,0,1,2,3,4,5,6,7,8,9,10]⟩])) (.reg false [aM 17 4,aR 18 (.bin .add (.t 17) (aI 1)),aM 4 18])))))) (aS [aR 31 (.load true 7 (.t 3)),aU (.store 7 (.t 2) (.t 31))] (.ret)))),[.c 2 true 7]⟩
theorem h_r6bare:AX.compFn Tryz.prog 183=some c_r6bare:=by kernel_rfl
def c_r6steps:AX.AFn:=⟨28,aS [aR 2 (.mv (.c (.str [])))] (aS [aR 3 (.mv (.c (.str [])))] (.seq (aS [aR 4 (.mv (aI 0))] (.block 0 (.loop (.seq (aS [aM 5 4,aM 6 0,aR 7 (.len false (.t 6)),aR 8 (.bin .lss (.t 5) (.t 7))] (.cond (.t 8) (.skip) (.exit 0))) (.seq (.block 1 (.reg true [aM 11 3,⟨some 12,.bin .add (.t 11) (.c (.str [109,111,100,117,108,101,46])),none,[0]⟩,aM 13 0,aM 14 4,⟨some 15,.iaddr 4 (.t 13) (.t 14),none,[2,3]⟩,⟨some 16,.faddr 0 (.t 15),none,[4]⟩,⟨some 17,.load false 1 (.t 16),none,[5]⟩,⟨some 18,.bin .add (.t 12) (.t 17),none,[1,6]⟩,aM 19 0,aM 20 4,⟨some 21,.iaddr 4 (.t 19) (.t 20),none,[8,9]⟩,⟨some 22,.faddr 1 (.t 21),none,[10]⟩,⟨some 23,.load true 3 (.t 22),none,[11]⟩,⟨some 24,.call 199 [.t 23],none,[12]⟩,⟨some 25,.bin .add (.t 18) (.t 24),none,[7,13]⟩,⟨some 26,.bin .add (.t 25) (.c (.str [46])),none,[14]⟩,⟨some 3,.mv (.t 26),none,[15,13,0,1,2,3,4,5,6,7,8,9,10,11,12,13,14,15]⟩])) (.reg false [aM 9 4,aR 10 (.bin .add (.t 9) (aI 1)),aM 4 10])))))) (aS [aM 27 3,aM 2 27] (.ret)))),[.t 2]⟩
theorem h_r6steps:AX.compFn Tryz.prog 198=some c_r6steps:=by kernel_rfl
def c_r6format:AX.AFn:=⟨26,aS [aR 1 (.box 133 (.t 0)),aR 2 (.mv (.c (.str [])))] (.seq (aS [aR 4 (.load true 7 (.t 1)),aR 5 (.call 197 [.t 4]),aR 6 (.bin .neq (.t 5) (aI 0))] (.cond (.t 6) (aS [aR 2 (.mv (.c (.str [])))] (.ret)) (.skip))) (aS [aF 7 0 1,aL 8 7,aR 9 (.call 198 [.t 8]),aM 3 9] (.seq (aS [aF 10 1 1,aL 11 10] (.cond (.t 11) (.reg false [aM 12 3,aR 13 (.bin .add (.t 12) (.c (.str [100,97,116,97,46]))),aM 3 13]) (.skip))) (.seq (.reg true [aM 14 3,aF 15 2 1,⟨some 16,.load false 1 (.t 15),none,[1]⟩,⟨some 17,.bin .add (.t 14) (.t 16),none,[0,2]⟩,⟨some 18,.bin .add (.t 17) (.c (.str [46])),none,[3]⟩,aF 19 3 1,⟨some 20,.load false 1 (.t 19),none,[5]⟩,⟨some 21,.bin .add (.t 18) (.t 20),none,[4,6]⟩,aF 22 4 1,⟨some 23,.load true 3 (.t 22),none,[8]⟩,⟨some 24,.call 199 [.t 23],none,[9]⟩,⟨some 25,.bin .add (.t 21) (.t 24),none,[7,10]⟩,⟨some 2,.mv (.t 25),none,[11,10,0,1,2,3,4,5,6,7,8,9,10,11]⟩]) (.ret))))),[.t 2]⟩
theorem h_r6format:AX.compFn Tryz.prog 182=some c_r6format:=by kernel_rfl
def c_r6static:AX.AFn:=⟨17,aS [aR 2 (.mv (.c (.str []))),aR 3 (.mv (aI 0))] (aS [aM 7 0,aR 8 (.call 132 [.t 7]),aM 6 8,aE 9 6 0,aE 10 6 1,aR 4 (.alloc 133 [.sl 0 .nil [],.bool false,.str [],.str [],.int .i64 0,.int .i64 0,.str []]),aU (.store 7 (.t 4) (.t 9)),aM 5 10] (.seq (aS [aM 11 5,aR 12 (.bin .neq (.t 11) (aI 0))] (.cond (.t 12) (aS [aM 13 5,aR 2 (.mv (.c (.str []))),aM 3 13] (.ret)) (.skip))) (aS [aR 14 (.load true 7 (.t 4)),aR 15 (.call 183 [.t 14]),aR 16 (.call 182 [.t 15]),aM 2 16,aR 3 (.mv (aI 0))] (.ret)))),[.t 2,.t 3]⟩
theorem h_r6static:AX.compFn Tryz.prog 158=some c_r6static:=by kernel_rfl
theorem row_at6 {α:Type} (f:α→List A) (l:List α) (i:Nat) (h:i < l.length) (hl:l.length≤4611686018427387904) :
  (l.map f).length=l.length∧(i:Int) < (l.length:Int)∧(0:Int)≤(i:Int)∧(l.map f).getD i []=f l[i]∧IntKind.i64.wrap ((i:Int)+1)=((i+1:Nat):Int):=
 ⟨List.length_map _,by omega,by omega,map_getD f l i h,by rw [wrap64 (by omega) (by omega)]; omega⟩
theorem a_r6check (a:Adr.Ad) (hi:Adr.In a) (h:Hp):ACall Tryz.prog GT 197 [.agg a.cells] h fun r h'=>r = .int .i64 (Adr.check a)∧h'=h:=by
 obtain ⟨mods,data,ty,nm,⟨ka,kb,kc⟩⟩:=a
 obtain ⟨hn,hm,ht,ha,hk⟩:=hi
 dsimp only at hn hm ht ha hk
 obtain ⟨q,hq⟩:∃ q,Adr.check ⟨mods,data,ty,nm,⟨ka,kb,kc⟩⟩=q:=⟨_,rfl⟩
 rw [hq]
 unfold Adr.check at hq
 dsimp only at hq
 refine pcall ?_ rfl (by simp [A.pure,A.data,Adr.Ad.cells]) h
 refine acall_of mixedT h_r6check (by simp [c_r6check]) ?_
 dsimp only [c_r6check,Adr.Ad.cells]
 have lm:(mods.map Adr.Step.cells).length=mods.length:=List.length_map _
 by_cases h16:16 < mods.length
 ·have e1:(mods.length:Int) > 16:=by omega
  rw [if_pos h16] at hq
  subst hq
  refine runx0 (ai lm e1) ti ?_
  exact ⟨_,le_refl _,rfl⟩
 have e1:¬ (mods.length:Int) > 16:=by omega
 rw [if_neg h16] at hq
 refine runx0 (ai lm e1) ti ?_
 refine awp_loop (fun m ts hh=>hh=⟨[.cells 133 [.sl 4 .no (mods.map Adr.Step.cells),.bool data,.str ty,.str nm,.int .i64 ka,.int .i64 kb,.str kc]],[]⟩∧∃ j:Nat,m=mods.length - j∧j≤mods.length∧(mods.drop j).find? (fun s=>!(Adr.ident s.name&&Adr.keyOk s.key))=mods.find? (fun s=>!(Adr.ident s.name&&Adr.keyOk s.key))∧(ts 1 = .ptr 0 0∧ts 3 = .int .i64 (j:Nat))) mods.length ?_ ?_
 ·exact ⟨rfl,0,rfl,Nat.zero_le _,rfl,by (exact inv0 ti)⟩
 rintro m ts hh ⟨rfl,j,rfl,hj,hfd,hu⟩
 rcases Nat.lt_or_ge j mods.length with hlt | hge
 ·have hf:=row_at6 Adr.Step.cells mods j hlt (by omega)
  have hmj:=hm _ (List.getElem_mem hlt)
  rw [List.drop_eq_getElem_cons hlt,List.find?_cons] at hfd
  obtain ⟨x,hx⟩:∃ x,mods[j]=x:=⟨_,rfl⟩
  rw [hx] at hf hmj hfd
  obtain ⟨xn,⟨ja,jb,jc⟩⟩:=x
  dsimp only [Adr.Step.cells] at hf hmj hfd
  have ci:=a_r6ident xn hmj.1
  have ck:=a_r6Key ⟨ja,jb,jc⟩ hmj.2
  dsimp only at ck
  cases hI:Adr.ident xn with
  | false =>
   rw [hI] at ci hfd
   simp only [Bool.false_and,Bool.not_false] at hfd
   rw [←hfd] at hq
   dsimp only at hq
   rw [if_neg (by rw [hI]; decide)] at hq
   subst hq
   refine runx0 (ai hu hf) (ai ci ti) ?_
   exact ⟨_,le_refl _,rfl⟩
  | true =>
  rw [hI] at ci hfd
  cases hK:Adr.keyOk ⟨ja,jb,jc⟩ with
  | false =>
   rw [hK] at ck hfd
   simp only [Bool.and_false,Bool.not_false] at hfd
   rw [←hfd] at hq
   dsimp only at hq
   rw [if_pos hI] at hq
   subst hq
   refine runx0 (ai hu hf) (ai ci (ai ck ti)) ?_
   exact ⟨_,le_refl _,rfl⟩
  | true =>
   rw [hK] at ck hfd
   simp only [Bool.and_true,Bool.not_true] at hfd
   refine runx0 (ai hu hf) (ai ci (ai ck ti)) ?_
   exact ⟨_,by omega,rfl,j+1,rfl,by omega,hfd,by (exact inv0 (ai hu hf))⟩
 ·have hf:=ai lm (show ¬ (j:Int) < (mods.length:Int) by omega)
  rw [List.drop_of_length_le hge] at hfd
  rw [←hfd] at hq
  simp only [List.find?_nil] at hq
  have ci:=a_r6ident ty ht
  have cr:=a_r6res ty
  have ci2:=a_r6ident nm ha
  have ck:=a_r6Key ⟨ka,kb,kc⟩ hk
  dsimp only at ck
  have hkb:Adr.kindB ty=(!Adr.reserved ty&&Adr.ident ty):=rfl
  rw [hkb] at hq
  cases hI:Adr.ident ty with
  | false =>
   rw [hI] at ci hq
   simp only [Bool.and_false,Bool.not_false,Bool.true_or,if_true] at hq
   subst hq
   refine runx0 (ai hu hf) (ai ci ti) ?_
   exact ⟨_,le_refl _,rfl⟩
  | true =>
  rw [hI] at ci hq
  cases hR:Adr.reserved ty with
  | true =>
   rw [hR] at cr hq
   simp only [Bool.not_true,Bool.false_and,Bool.not_false,Bool.true_or,if_true] at hq
   subst hq
   refine runx0 (ai hu hf) (ai ci (ai cr ti)) ?_
   exact ⟨_,le_refl _,rfl⟩
  | false =>
  rw [hR] at cr hq
  cases hN:Adr.ident nm with
  | false =>
   rw [hN] at ci2 hq
   simp only [Bool.not_false,Bool.true_and,Bool.not_true,Bool.false_or,if_true] at hq
   subst hq
   refine runx0 (ai hu hf) (ai ci (ai cr (ai ci2 ti))) ?_
   exact ⟨_,le_refl _,rfl⟩
  | true =>
  rw [hN] at ci2 hq
  simp only [Bool.not_false,Bool.true_and,Bool.not_true,Bool.false_or,Bool.false_eq_true,if_false] at hq
  cases hK:Adr.keyOk ⟨ka,kb,kc⟩ with
  | false =>
   rw [hK] at ck hq
   simp only [Bool.not_false,if_true] at hq
   subst hq
   refine runx0 (ai hu hf) (ai ci (ai cr (ai ci2 (ai ck ti)))) ?_
   exact ⟨_,le_refl _,rfl⟩
  | true =>
   rw [hK] at ck hq
   simp only [Bool.not_true,Bool.false_eq_true,if_false] at hq
   subst hq
   refine runx0 (ai hu hf) (ai ci (ai cr (ai ci2 (ai ck ti)))) ?_
   exact ⟨_,le_refl _,rfl⟩
theorem a_r6bare (a:Adr.Ad) (hn:a.mods.length≤3000000) (h:Hp):ACall Tryz.prog GT 183 [.agg a.cells] h fun r h'=>r = .agg (Adr.bare a).cells∧h'=h:=by
 obtain ⟨mods,data,ty,nm,⟨ka,kb,kc⟩⟩:=a
 dsimp only at hn
 refine pcall ?_ (by simp [A.pure,A.data,Adr.Ad.cells]) (by simp [A.pure,A.data,Adr.Ad.cells]) h
 refine acall_of mixedT h_r6bare (by simp [c_r6bare]) ?_
 dsimp only [c_r6bare,Adr.Ad.cells,Adr.bare,Adr.K.none]
 have lm:(mods.map Adr.Step.cells).length=mods.length:=List.length_map _
 refine runx0 lm ti ?_
 refine awp_loop (fun m ts hh=>∃ (j W:Nat) (o:Own) (t:List (TypeId×Nat×Nat)),m=mods.length - j∧j≤mods.length ∧
  hh=⟨[.cells 133 [.sl 4 .no (mods.map Adr.Step.cells),.bool data,.str ty,.str nm,.int .i64 ka,.int .i64 kb,.str kc],.cells 133 [.sl 0 .nil [],.bool false,.str [],.str [],.int .i64 0,.int .i64 0,.str []],.cells 133 [.sl W o (((mods.take j).map fun s=>(⟨s.name,Adr.K.none⟩:Adr.Step)).map Adr.Step.cells),.bool data,.str ty,.str nm,.int .i64 0,.int .i64 0,.str []]],t⟩ ∧
  Gs 158 4 0 ⟨[],t⟩ (((mods.take j).map fun s=>(⟨s.name,Adr.K.none⟩:Adr.Step)).map Adr.Step.cells) (.sl W o (((mods.take j).map fun s=>(⟨s.name,Adr.K.none⟩:Adr.Step)).map Adr.Step.cells))∧(ts 1 = .ptr 0 0∧ts 2 = .ptr 1 0∧ts 3 = .ptr 2 0∧ts 4 = .int .i64 (j:Nat))) mods.length ?_ ?_
 ·exact ⟨0,0,.nil,[],rfl,Nat.zero_le _,rfl,.inl ⟨rfl,rfl⟩,by (exact inv0 ti)⟩
 rintro m ts hh ⟨j,W,o,t,rfl,hj,rfl,gX,hu⟩
 rcases Nat.lt_or_ge j mods.length with hlt | hge
 ·have hf:=row_at6 Adr.Step.cells mods j hlt (by omega)
  have htk:=List.take_succ_eq_append_getElem hlt
  obtain ⟨x,hx⟩:∃ x,mods[j]=x:=⟨_,rfl⟩
  rw [hx] at hf htk
  obtain ⟨xn,⟨ja,jb,jc⟩⟩:=x
  dsimp only [Adr.Step.cells] at hf
  have hrow:((mods.take (j+1)).map fun s=>(⟨s.name,Adr.K.none⟩:Adr.Step)).map Adr.Step.cells=((mods.take j).map fun s=>(⟨s.name,Adr.K.none⟩:Adr.Step)).map Adr.Step.cells++[[.str xn,.int .i64 0,.int .i64 0,.str []]]:=by
   rw [htk,List.map_append,List.map_append]; rfl
  have hrl:(((mods.take j).map fun s=>(⟨s.name,Adr.K.none⟩:Adr.Step)).map Adr.Step.cells).length+1≤1000000000:=by
   rw [List.length_map,List.length_map,List.length_take]; omega
  obtain ⟨W',o',t',hX,gX',_⟩:=gX.grow 48 [.str xn,.int .i64 0,.int .i64 0,.str []] hrl (by decide)
  rw [←hrow] at gX'
  simp only [←hrow] at hX
  refine runx0 (ai hu (ai hf hX)) ti ?_
  exact ⟨_,by omega,j+1,W',o',t',rfl,by omega,rfl,gX',by (exact inv0 (ai hu hf))⟩
 ·have hf:=ai lm (show ¬ (j:Int) < (mods.length:Int) by omega)
  rw [List.take_of_length_le hge] at gX ⊢
  refine runx0 (ai hu hf) ti ?_
  exact ⟨.agg [.sl 4 .no ((mods.map fun s=>(⟨s.name,Adr.K.none⟩:Adr.Step)).map Adr.Step.cells),.bool data,.str ty,.str nm,.int .i64 0,.int .i64 0,.str []],⟨gX.le,rfl,rfl,rfl,rfl,rfl,rfl,trivial⟩,rfl⟩
theorem a_r6steps (mods:List Adr.Step) (hn:mods.length≤16) (hm:∀ s∈mods,s.name.length≤2000000) (hk:∀ s∈mods,s.key=Adr.K.none) (h:Hp):ACall Tryz.prog GT 198 [.sl 4 .no (mods.map Adr.Step.cells)] h fun r h'=>r = .str (mods.flatMap stepB)∧h'=h:=by
 refine pcall ?_ rfl (by simp [A.pure,A.data]) h
 refine acall_of mixedT h_r6steps (by simp [c_r6steps]) ?_
 dsimp only [c_r6steps]
 have cf:=a_r6fmtkey0
 refine runx0 ti ti ?_
 refine awp_loop (fun m ts hh=>hh=⟨[],[]⟩∧∃ j:Nat,m=mods.length - j∧j≤mods.length∧(ts 0 = .sl 4 .no (mods.map Adr.Step.cells)∧ts 3 = .str ((mods.take j).flatMap stepB)∧ts 4 = .int .i64 (j:Nat))) mods.length ?_ ?_
 ·exact ⟨rfl,0,rfl,Nat.zero_le _,by (exact inv0 ti)⟩
 rintro m ts hh ⟨rfl,j,rfl,hj,hu⟩
 rcases Nat.lt_or_ge j mods.length with hlt | hge
 ·have hf:=row_at6 Adr.Step.cells mods j hlt (by omega)
  have hmj:=hm _ (List.getElem_mem hlt)
  have hkj:=hk _ (List.getElem_mem hlt)
  have hsn:=fm_snoc' stepB mods j hlt
  have hacc:((mods.take j).flatMap stepB).length≤32000128:=by
   have h2:(mods.take j).length≤16:=by rw [List.length_take]; omega
   exact Nat.le_trans (fm_len16 (mods.take j) fun s hs=>hm s (List.mem_of_mem_take hs)) (Nat.le_trans (Nat.mul_le_mul_right 2000008 h2) (by decide))
  obtain ⟨x,hx⟩:∃ x,mods[j]=x:=⟨_,rfl⟩
  rw [hx] at hf hmj hkj hsn
  obtain ⟨xn,xk⟩:=x
  dsimp only at hkj hmj
  subst hkj
  dsimp only [Adr.Step.cells,Adr.K.none] at hf
  obtain ⟨P,hP⟩:∃ P,(mods.take j).flatMap stepB=P:=⟨_,rfl⟩
  rw [hP] at hu hsn hacc
  have l1:P.length+7 < 1099511627776∧P.length+7+xn.length < 1099511627776∧P.length+7+xn.length+1 < 1099511627776∧P.length+(7+xn.length) < 1099511627776∧P.length+(7+xn.length)+1 < 1099511627776∧P.length+(xn.length+7) < 1099511627776∧P.length+(xn.length+7)+1 < 1099511627776∧P.length+7+xn.length+0 < 1099511627776:=⟨by omega,by omega,by omega,by omega,by omega,by omega,by omega,by omega⟩
  refine runx0 (ai hu (ai hf l1)) (ai cf ti) ?_
  refine ⟨_,by omega,rfl,j+1,rfl,by omega,?_⟩
  have e:P++[109,111,100,117,108,101,46]++xn++[46]=(mods.take (j+1)).flatMap stepB:=by
   rw [hsn]
   unfold stepB
   simp [Adr.modW]
  (exact inv0 (ai hu (ai hf e)))
 ·have hf:=ai (show (mods.map Adr.Step.cells).length=mods.length from List.length_map _) (show ¬ (j:Int) < (mods.length:Int) by omega)
  rw [List.take_of_length_le hge] at hu
  refine runx0 (ai hu hf) ti ?_
  exact ⟨_,le_refl _,rfl⟩
theorem a_r6format0 (a:Adr.Ad) (hi:Adr.In a) (hk:∀ s∈a.mods,s.key=Adr.K.none) (hkk:a.key=Adr.K.none) (h:Hp):ACall Tryz.prog GT 182 [.agg a.cells] h fun r h'=>r = .str (Adr.fmt a)∧h'=h:=by
 have cc:=fun h=>a_r6check a hi h
 obtain ⟨mods,data,ty,nm,key⟩:=a
 dsimp only at hk hkk
 subst hkk
 have hfb:=fmt_bare mods data ty nm hk
 obtain ⟨hn,hm,ht,ha,_⟩:=hi
 dsimp only at hn hm ht ha
 refine pcall ?_ rfl (by simp [A.pure,A.data,Adr.Ad.cells]) h
 refine acall_of mixedT h_r6format (by simp [c_r6format]) ?_
 dsimp only [c_r6format,Adr.Ad.cells,Adr.K.none] at cc ⊢
 by_cases hc0:Adr.check ⟨mods,data,ty,nm,Adr.K.none⟩=0
 rotate_left
 ·have e1:(Adr.check ⟨mods,data,ty,nm,Adr.K.none⟩ != 0)=true:=by simp [hc0]
  have hfz:Adr.fmt ⟨mods,data,ty,nm,Adr.K.none⟩=[]:=by unfold Adr.fmt; rw [if_pos hc0]
  unfold Adr.K.none at e1 hfz
  refine runx0 e1 (ai cc ti) ?_
  exact ⟨_,le_refl _,by rw [hfz]; rfl⟩
 have e1:(Adr.check ⟨mods,data,ty,nm,Adr.K.none⟩ != 0)=false:=by simp [hc0]
 have hf:=hfb hc0
 have hn16:mods.length≤16:=by
  rcases Nat.lt_or_ge 16 mods.length with h16 | h16
  ·unfold Adr.check at hc0
   rw [if_pos h16] at hc0
   exact absurd hc0 (by decide)
  ·exact h16
 have hlenall:=fm_len16 mods fun s hs=>(hm s hs).1
 have cs:=a_r6steps mods hn16 (fun s hs=>(hm s hs).1) hk
 have cf:=a_r6fmtkey0
 unfold Adr.K.none at e1 hf
 rw [hf]
 obtain ⟨P,hP⟩:∃ P,mods.flatMap stepB=P:=⟨_,rfl⟩
 rw [hP] at cs hlenall ⊢
 have hPl:P.length≤32000128:=Nat.le_trans hlenall (Nat.le_trans (Nat.mul_le_mul_right 2000008 hn16) (by decide))
 cases data with
 | false =>
  have l1:P.length+ty.length < 1099511627776∧P.length+ty.length+1 < 1099511627776∧P.length+ty.length+1+nm.length < 1099511627776∧P.length+(ty.length+1) < 1099511627776∧P.length+(ty.length+1)+nm.length < 1099511627776∧P.length+(ty.length+(1+nm.length)) < 1099511627776:=⟨by omega,by omega,by omega,by omega,by omega,by omega⟩
  refine runx0 (ai e1 l1) (ai cc (ai cs (ai cf ti))) ?_
  exact ⟨_,le_refl _,by simp [tupA_1]⟩
 | true =>
  have l1:P.length+5 < 1099511627776∧P.length+5+ty.length < 1099511627776∧P.length+5+ty.length+1 < 1099511627776∧P.length+5+ty.length+1+nm.length < 1099511627776:=⟨by omega,by omega,by omega,by omega⟩
  refine runx0 (ai e1 l1) (ai cc (ai cs (ai cf ti))) ?_
  exact ⟨_,le_refl _,by simp [tupA_1,Adr.dataW]⟩
theorem a_r6static (s:List UInt8) (hl:s.length≤2000000) (hin:Adr.In (Adr.bare (Adr.parse s).1)) (h:Hp):ACall Tryz.prog GT 158 [.str s] h fun r h'=>r = .tup [.str (Adr.static s).1,.int .i64 (Adr.static s).2]∧h'=h:=by
 have cp:=a_r6parse s hl
 have cb:=a_r6bare (Adr.parse s).1 (by have:=hin.n; simpa [Adr.bare] using this)
 have cf:=a_r6format0 (Adr.bare (Adr.parse s).1) hin (fun x hx=>by
  simp only [Adr.bare,List.mem_map] at hx
  obtain ⟨y,_,rfl⟩:=hx
  rfl) rfl
 refine pcall ?_ rfl (by simp [A.pure,A.data]) h
 refine acall_of mixedT h_r6static (by simp [c_r6static]) ?_
 dsimp only [c_r6static]
 unfold Adr.static
 obtain ⟨⟨⟨mods,data,ty,nm,⟨ka,kb,kc⟩⟩,e⟩,hP⟩:∃ p,Adr.parse s=p:=⟨_,rfl⟩
 rw [hP] at cp cb cf ⊢
 dsimp only [Adr.Ad.cells] at cp cb cf ⊢
 obtain ⟨F,hF⟩:∃ F,Adr.fmt (Adr.bare ⟨mods,data,ty,nm,⟨ka,kb,kc⟩⟩)=F:=⟨_,rfl⟩
 rw [hF] at cf ⊢
 dsimp only [Adr.bare,Adr.K.none] at cb cf
 by_cases he:e=0
 ·subst he
  refine runx0 ti (ai cp (ai cb (ai cf ti))) ?_
  exact ⟨_,le_refl _,rfl⟩
 ·have e1:(e != 0)=true:=by simp [he]
  rw [if_pos he]
  refine runx0 e1 (ai cp ti) ?_
  exact ⟨_,le_refl _,rfl⟩
end AX
end Go.Proofs.YtdgcbckcameggaaGreatDoor
