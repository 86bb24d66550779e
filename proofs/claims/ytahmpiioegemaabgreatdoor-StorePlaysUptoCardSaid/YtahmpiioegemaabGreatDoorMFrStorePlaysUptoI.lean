/- Part of what the proof needs. -/
import Derived.Test.YtahmpiioegemaabGreatDoorMFrStorePlaysUptoH
set_option maxHeartbeats 4000000
set_option linter.unusedSimpArgs false
set_option linter.unusedVariables false
set_option linter.unnecessarySimpa false
namespace Go.Proofs.YtahmpiioegemaabGreatDoor
open Go.RowKit
theorem form_facts (l:List UInt8):Seal.U64 (Seal.form l).1∧(Seal.form l).2.2.1.length≤l.length - 24:=by
 have hl:=ver_len4 l
 unfold Seal.form
 split
 ·exact ⟨⟨by simp,by simp⟩,by simp⟩
 ·split
  ·exact ⟨⟨by simp,by simp⟩,by simp⟩
  ·split
   ·exact ⟨⟨by simp,by simp⟩,by simp⟩
   ·refine ⟨⟨by simp only; omega,?_⟩,by simp; omega⟩
    have:=Seal.number_lt ((Crc.ver l).1.drop 4)
    simp only; omega
theorem dec_len4 (k l:List UInt8):(Seal.dec k l).1.length≤l.length - 24:=by
 have h:=(form_facts l).2
 unfold Seal.dec
 split
 ·simp
 ·split
  ·simp
  ·split
   ·simp
   ·simp only [Seal.comb_length]; exact h
theorem divided_at (s:ByteArray) (n m k:Int) (h:List UInt8) (w:World) (hs:s.size≤1048600) (hf:Seal.form s.data.toList=(n,m,h,k)) :
  Calls Tryz.prog 84 #[.string s] w fun e w'=>e = .returned (.tuple #[.int .u64 n,.int .u64 m,.string ⟨h.toArray⟩,.int .i64 k])∧Below w.heap.size w w':=by
 have:=divided_any s w hs
 rw [hf] at this; exact this
theorem nonce_any (s:ByteArray) (w:World) (hs:s.size≤1048600) :
  Calls Tryz.prog 51 #[.string s] w fun e w'=>e = .returned (.tuple #[.int .u64 (Seal.nonce s.data.toList).1,.int .i64 (Seal.nonce s.data.toList).2])∧Below w.heap.size w w':=by
 generalize hf:Seal.form s.data.toList=r
 obtain ⟨n,m,h,k⟩:=r
 have Hf:=kept hf
 have Hn:=kept (show Seal.nonce s.data.toList=(n,k) by rw [Seal.nonce,hf])
 clear hf
 go_enter Tryz.func51,Tryz.ntmps51
 go_wp2_with fail
 refine (divided_at _ _ _ _ _ _ hs Hf.out).mono ?_; rintro e w1 ⟨rfl,b1⟩
 go_wp2
 go_ret2
 exact ⟨by rw [Hn.out]; rfl,b1⟩
theorem dec_any (s t:ByteArray) (w:World) (hs:s.size≤1000000000) (ht:t.size≤1048600) :
  Calls Tryz.prog 50 #[.string s,.string t] w fun e w'=>e = .returned (.tuple #[.string ⟨(Seal.dec s.data.toList t.data.toList).1.toArray⟩,.int .i64 (Seal.dec s.data.toList t.data.toList).2])∧Below w.heap.size w w':=by
 by_cases hc:Seal.check s.data.toList=0
 ·generalize hf:Seal.form t.data.toList=r
  obtain ⟨n,m,h,k⟩:=r
  have Hf:=kept hf
  have Hc:=kept hc
  have hu:=form_facts t.data.toList
  rw [hf,len_data] at hu
  have Hu:=kept hu.1
  have Hh:=kept (show (⟨h.toArray⟩:ByteArray).size≤1048576 by rw [size_mk]; have:=hu.2; dsimp only at this; omega)
  by_cases hk:k=0
  ·subst hk
   generalize hx:Seal.seed s.data.toList n=x
   have Hx:=kept hx
   have Hcl:=kept (show (⟨(Seal.comb x 0 h).toArray⟩:ByteArray).size≤1000000000 by rw [size_mk,Seal.comb_length,←size_mk h]; have:=Hh.out; omega)
   by_cases htag:Seal.tag x (Seal.comb x 0 h)=m
   ·have Hd:=kept (show Seal.dec s.data.toList t.data.toList=(Seal.comb x 0 h,0) by
     rw [Seal.dec,if_neg (by simpa using hc),hf,if_neg (by simp),hx,if_neg (by simpa using htag)])
    have Ht:=kept htag
    clear hc hf hu hx htag
    go_enter Tryz.func50,Tryz.ntmps50
    go_wp2_with fail
    refine (check_any _ _ hs).mono ?_; rintro e w1 ⟨rfl,rfl⟩
    rw [Hc.out]
    go_wp2_with fail
    refine (divided_at _ _ _ _ _ _ ht Hf.out).mono ?_; rintro e w1 ⟨rfl,b1⟩
    go_wp2_with fail
    refine (seed_any _ _ _ hs).mono ?_; rintro e w2 ⟨rfl,rfl⟩
    rw [Hx.out]
    go_wp2_with fail
    refine (combined_any _ _ _ (by have:=Hh.out; omega)).mono ?_; rintro e w3 ⟨rfl,b3⟩
    go_wp2_with fail
    refine (tag_any _ _ _ Hcl.out).mono ?_; rintro e w4 ⟨rfl,rfl⟩
    rw [Ht.out]
    go_wp2
    go_ret2
    exact ⟨by rw [Hd.out]; rfl,bthen b1 b3⟩
   ·have Hd:=kept (show Seal.dec s.data.toList t.data.toList=([],26) by
     rw [Seal.dec,if_neg (by simpa using hc),hf,if_neg (by simp),hx,if_pos htag])
    have hne:(Seal.tag x (Seal.comb x 0 h) == m)=false:=beq_eq_false_iff_ne.2 htag
    generalize hq:Seal.tag x (Seal.comb x 0 h)=q at *
    have Hq:=kept hq
    clear hc hf hu hx htag hq
    go_enter Tryz.func50,Tryz.ntmps50
    go_wp2_with fail
    refine (check_any _ _ hs).mono ?_; rintro e w1 ⟨rfl,rfl⟩
    rw [Hc.out]
    go_wp2_with fail
    refine (divided_at _ _ _ _ _ _ ht Hf.out).mono ?_; rintro e w1 ⟨rfl,b1⟩
    go_wp2_with fail
    refine (seed_any _ _ _ hs).mono ?_; rintro e w2 ⟨rfl,rfl⟩
    rw [Hx.out]
    go_wp2_with fail
    refine (combined_any _ _ _ (by have:=Hh.out; omega)).mono ?_; rintro e w3 ⟨rfl,b3⟩
    go_wp2_with fail
    refine (tag_any _ _ _ Hcl.out).mono ?_; rintro e w4 ⟨rfl,rfl⟩
    rw [Hq.out]
    go_wp2
    go_ret2
    exact ⟨by rw [Hd.out]; rfl,bthen b1 b3⟩
  ·have Hd:=kept (show Seal.dec s.data.toList t.data.toList=([],k) by
    rw [Seal.dec,if_neg (by simpa using hc),hf,if_pos hk])
   have hk':(k == 0)=false:=beq_eq_false_iff_ne.2 hk
   clear hc hf hu hk
   go_enter Tryz.func50,Tryz.ntmps50
   go_wp2_with fail
   refine (check_any _ _ hs).mono ?_; rintro e w1 ⟨rfl,rfl⟩
   rw [Hc.out]
   go_wp2_with fail
   refine (divided_at _ _ _ _ _ _ ht Hf.out).mono ?_; rintro e w1 ⟨rfl,b1⟩
   go_wp2
   go_ret2
   exact ⟨by rw [Hd.out]; rfl,b1⟩
 ·have He:=kept (show Seal.dec s.data.toList t.data.toList=([],Seal.check s.data.toList) by rw [Seal.dec,if_pos hc])
  have hc':(Seal.check s.data.toList == 0)=false:=beq_eq_false_iff_ne.2 hc
  generalize hq:Seal.check s.data.toList=q at *
  have Hq:=kept hq
  clear hc hq
  go_enter Tryz.func50,Tryz.ntmps50
  go_wp2_with fail
  refine (check_any _ _ hs).mono ?_; rintro e w1 ⟨rfl,rfl⟩
  rw [Hq.out]
  go_wp2
  go_ret2
  exact ⟨by rw [He.out]; rfl,Below.refl _ _⟩
theorem rekey_any (a b t:ByteArray) (w:World) (ha:a.size≤1000000000) (hb:b.size≤1000000000) (ht:t.size≤1048600) :
  Calls Tryz.prog 38 #[.string a,.string b,.string t] w fun e w'=>e = .returned (.tuple #[.string ⟨(Seal.rekey a.data.toList b.data.toList t.data.toList).1.toArray⟩,.int .i64 (Seal.rekey a.data.toList b.data.toList t.data.toList).2])∧Below w.heap.size w w':=by
 generalize hd:Seal.dec a.data.toList t.data.toList=r
 obtain ⟨p,k⟩:=r
 have Hd:=kept hd
 have Hp:=kept (show (⟨p.toArray⟩:ByteArray).size≤1048576 by
  have:=dec_len4 a.data.toList t.data.toList
  rw [hd,len_data] at this; rw [size_mk]; dsimp only at this; omega)
 by_cases hk:k=0
 ·subst hk
  have Hn:=kept (form_facts t.data.toList).1
  have Hr:=kept (show Seal.rekey a.data.toList b.data.toList t.data.toList=Seal.enc b.data.toList (Seal.nonce t.data.toList).1 p by rw [Seal.rekey,hd,if_neg (by simp)])
  clear hd
  go_enter Tryz.func38,Tryz.ntmps38
  go_wp2_with fail
  refine (dec_any _ _ _ ha ht).mono ?_; rintro e w1 ⟨rfl,b1⟩
  rw [Hd.out]
  go_wp2_with fail
  refine (nonce_any _ _ ht).mono ?_; rintro e w2 ⟨rfl,b2⟩
  go_wp2_with fail
  refine (enc_any _ _ _ _ hb Hn.out Hp.out).mono ?_; rintro e w3 ⟨rfl,b3⟩
  go_wp2
  go_ret2
  exact ⟨by rw [Hr.out]; rfl,bthen (bthen b1 b2) b3⟩
 ·have Hr:=kept (show Seal.rekey a.data.toList b.data.toList t.data.toList=([],k) by rw [Seal.rekey,hd,if_pos hk])
  have hk':(k == 0)=false:=beq_eq_false_iff_ne.2 hk
  clear hd hk
  go_enter Tryz.func38,Tryz.ntmps38
  go_wp2_with fail
  refine (dec_any _ _ _ ha ht).mono ?_; rintro e w1 ⟨rfl,b1⟩
  rw [Hd.out]
  go_wp2
  go_ret2
  exact ⟨by rw [Hr.out]; rfl,b1⟩
theorem form_at (s:ByteArray) (n m k:Int) (h:List UInt8) (w:World) (hs:s.size≤1048600) (hf:Seal.form s.data.toList=(n,m,h,k)) :
  Calls Tryz.prog 85 #[.string s] w fun e w'=>e = .returned (.tuple #[.int .u64 n,.int .u64 m,.string ⟨h.toArray⟩,.int .i64 k])∧Below w.heap.size w w':=by
 have:=form_any s w hs
 rw [hf] at this; exact this
theorem refNonce_any (s:ByteArray) (w:World) (hs:s.size≤1048600) :
  Calls Tryz.prog 53 #[.string s] w fun e w'=>e = .returned (.tuple #[.int .u64 (Seal.nonce s.data.toList).1,.int .i64 (Seal.nonce s.data.toList).2])∧Below w.heap.size w w':=by
 generalize hf:Seal.form s.data.toList=r
 obtain ⟨n,m,h,k⟩:=r
 have Hf:=kept hf
 have Hn:=kept (show Seal.nonce s.data.toList=(n,k) by rw [Seal.nonce,hf])
 clear hf
 go_enter Tryz.func53,Tryz.ntmps53
 go_wp2_with fail
 refine (form_at _ _ _ _ _ _ hs Hf.out).mono ?_; rintro e w1 ⟨rfl,b1⟩
 go_wp2
 go_ret2
 exact ⟨by rw [Hn.out]; rfl,b1⟩
theorem refDec_any (s t:ByteArray) (w:World) (hs:s.size≤1000000000) (ht:t.size≤1048600) :
  Calls Tryz.prog 52 #[.string s,.string t] w fun e w'=>e = .returned (.tuple #[.string ⟨(Seal.dec s.data.toList t.data.toList).1.toArray⟩,.int .i64 (Seal.dec s.data.toList t.data.toList).2])∧Below w.heap.size w w':=by
 by_cases hc:Seal.check s.data.toList=0
 ·generalize hf:Seal.form t.data.toList=r
  obtain ⟨n,m,h,k⟩:=r
  have Hf:=kept hf
  have Hc:=kept hc
  have hu:=form_facts t.data.toList
  rw [hf,len_data] at hu
  have Hu:=kept hu.1
  have Hh:=kept (show (⟨h.toArray⟩:ByteArray).size≤1048576 by rw [size_mk]; have:=hu.2; dsimp only at this; omega)
  by_cases hk:k=0
  ·subst hk
   generalize hx:Seal.seed s.data.toList n=x
   have Hx:=kept hx
   have Hcl:=kept (show (⟨(Seal.comb x 0 h).toArray⟩:ByteArray).size≤1000000000 by rw [size_mk,Seal.comb_length,←size_mk h]; have:=Hh.out; omega)
   by_cases htag:Seal.tag x (Seal.comb x 0 h)=m
   ·have Hd:=kept (show Seal.dec s.data.toList t.data.toList=(Seal.comb x 0 h,0) by
     rw [Seal.dec,if_neg (by simpa using hc),hf,if_neg (by simp),hx,if_neg (by simpa using htag)])
    have Ht:=kept htag
    clear hc hf hu hx htag
    go_enter Tryz.func52,Tryz.ntmps52
    go_wp2_with fail
    refine (refCheck_any _ _ hs).mono ?_; rintro e w1 ⟨rfl,rfl⟩
    rw [Hc.out]
    go_wp2_with fail
    refine (form_at _ _ _ _ _ _ ht Hf.out).mono ?_; rintro e w1 ⟨rfl,b1⟩
    go_wp2_with fail
    refine (refSeed_any _ _ _ hs).mono ?_; rintro e w2 ⟨rfl,rfl⟩
    rw [Hx.out]
    go_wp2_with fail
    refine (stream_any _ _ _ (by have:=Hh.out; omega)).mono ?_; rintro e w3 ⟨rfl,b3⟩
    go_wp2_with fail
    refine (refTag_any _ _ _ Hcl.out).mono ?_; rintro e w4 ⟨rfl,rfl⟩
    rw [Ht.out]
    go_wp2
    go_ret2
    exact ⟨by rw [Hd.out]; rfl,bthen b1 b3⟩
   ·have Hd:=kept (show Seal.dec s.data.toList t.data.toList=([],26) by
     rw [Seal.dec,if_neg (by simpa using hc),hf,if_neg (by simp),hx,if_pos htag])
    have hne:(Seal.tag x (Seal.comb x 0 h) == m)=false:=beq_eq_false_iff_ne.2 htag
    generalize hq:Seal.tag x (Seal.comb x 0 h)=q at *
    have Hq:=kept hq
    clear hc hf hu hx htag hq
    go_enter Tryz.func52,Tryz.ntmps52
    go_wp2_with fail
    refine (refCheck_any _ _ hs).mono ?_; rintro e w1 ⟨rfl,rfl⟩
    rw [Hc.out]
    go_wp2_with fail
    refine (form_at _ _ _ _ _ _ ht Hf.out).mono ?_; rintro e w1 ⟨rfl,b1⟩
    go_wp2_with fail
    refine (refSeed_any _ _ _ hs).mono ?_; rintro e w2 ⟨rfl,rfl⟩
    rw [Hx.out]
    go_wp2_with fail
    refine (stream_any _ _ _ (by have:=Hh.out; omega)).mono ?_; rintro e w3 ⟨rfl,b3⟩
    go_wp2_with fail
    refine (refTag_any _ _ _ Hcl.out).mono ?_; rintro e w4 ⟨rfl,rfl⟩
    rw [Hq.out]
    go_wp2
    go_ret2
    exact ⟨by rw [Hd.out]; rfl,bthen b1 b3⟩
  ·have Hd:=kept (show Seal.dec s.data.toList t.data.toList=([],k) by
    rw [Seal.dec,if_neg (by simpa using hc),hf,if_pos hk])
   have hk':(k == 0)=false:=beq_eq_false_iff_ne.2 hk
   clear hc hf hu hk
   go_enter Tryz.func52,Tryz.ntmps52
   go_wp2_with fail
   refine (refCheck_any _ _ hs).mono ?_; rintro e w1 ⟨rfl,rfl⟩
   rw [Hc.out]
   go_wp2_with fail
   refine (form_at _ _ _ _ _ _ ht Hf.out).mono ?_; rintro e w1 ⟨rfl,b1⟩
   go_wp2
   go_ret2
   exact ⟨by rw [Hd.out]; rfl,b1⟩
 ·have He:=kept (show Seal.dec s.data.toList t.data.toList=([],Seal.check s.data.toList) by rw [Seal.dec,if_pos hc])
  have hc':(Seal.check s.data.toList == 0)=false:=beq_eq_false_iff_ne.2 hc
  generalize hq:Seal.check s.data.toList=q at *
  have Hq:=kept hq
  clear hc hq
  go_enter Tryz.func52,Tryz.ntmps52
  go_wp2_with fail
  refine (refCheck_any _ _ hs).mono ?_; rintro e w1 ⟨rfl,rfl⟩
  rw [Hq.out]
  go_wp2
  go_ret2
  exact ⟨by rw [He.out]; rfl,Below.refl _ _⟩
theorem refRekey_any (a b t:ByteArray) (w:World) (ha:a.size≤1000000000) (hb:b.size≤1000000000) (ht:t.size≤1048600) :
  Calls Tryz.prog 39 #[.string a,.string b,.string t] w fun e w'=>e = .returned (.tuple #[.string ⟨(Seal.rekey a.data.toList b.data.toList t.data.toList).1.toArray⟩,.int .i64 (Seal.rekey a.data.toList b.data.toList t.data.toList).2])∧Below w.heap.size w w':=by
 generalize hd:Seal.dec a.data.toList t.data.toList=r
 obtain ⟨p,k⟩:=r
 have Hd:=kept hd
 have Hp:=kept (show (⟨p.toArray⟩:ByteArray).size≤1048576 by
  have:=dec_len4 a.data.toList t.data.toList
  rw [hd,len_data] at this; rw [size_mk]; dsimp only at this; omega)
 by_cases hk:k=0
 ·subst hk
  have Hn:=kept (form_facts t.data.toList).1
  have Hr:=kept (show Seal.rekey a.data.toList b.data.toList t.data.toList=Seal.enc b.data.toList (Seal.nonce t.data.toList).1 p by rw [Seal.rekey,hd,if_neg (by simp)])
  clear hd
  go_enter Tryz.func39,Tryz.ntmps39
  go_wp2_with fail
  refine (refDec_any _ _ _ ha ht).mono ?_; rintro e w1 ⟨rfl,b1⟩
  rw [Hd.out]
  go_wp2_with fail
  refine (refNonce_any _ _ ht).mono ?_; rintro e w2 ⟨rfl,b2⟩
  go_wp2_with fail
  refine (refEnc_any _ _ _ _ hb Hn.out Hp.out).mono ?_; rintro e w3 ⟨rfl,b3⟩
  go_wp2
  go_ret2
  exact ⟨by rw [Hr.out]; rfl,bthen (bthen b1 b2) b3⟩
 ·have Hr:=kept (show Seal.rekey a.data.toList b.data.toList t.data.toList=([],k) by rw [Seal.rekey,hd,if_pos hk])
  have hk':(k == 0)=false:=beq_eq_false_iff_ne.2 hk
  clear hd hk
  go_enter Tryz.func39,Tryz.ntmps39
  go_wp2_with fail
  refine (refDec_any _ _ _ ha ht).mono ?_; rintro e w1 ⟨rfl,b1⟩
  rw [Hd.out]
  go_wp2
  go_ret2
  exact ⟨by rw [Hr.out]; rfl,b1⟩
end Go.Proofs.YtahmpiioegemaabGreatDoor
