/- Part of what the proof needs. -/
import Derived.Test.YteklhoajalgehaaGreatDoorMFrRecoveryNothingUptoC
import Derived.LoopN
import Derived.Tactics
import Derived.Orders
set_option maxHeartbeats 4000000
set_option linter.unusedSimpArgs false
set_option linter.unusedVariables false
set_option linter.unnecessarySimpa false
namespace Go.Proofs.YteklhoajalgehaaGreatDoor
open Go.RowKit
namespace AX
section
variable {P : Program} {G : World → Prop} {C : Ctx} {a : Act} {o : Oper} {h : Hp} {ts : Nat → A} {n : Nat}
theorem arr_of {α : Type} {xs : Array α} {l : List α} (h : xs.toList = l) : xs = l.toArray:=Array.toList_inj.1 (by simp [h])
theorem step_ok {ao : AOp} {v : A} {h' : Hp} (hI : Inv G C h) (hT : RepT C ts n a) (hc : compOp P n o = some ao) (hs : astep (evX ts) h ao = some (v,h')) : OpOk P G C a o v h':=by
 unfold compOp at hc
 split at hc
 ·next x hop =>
  simp only [Option.bind_eq_some_iff,Option.some.injEq] at hc
  obtain ⟨y,h1,rfl⟩:=hc
  simp only [astep,Option.some.injEq,Prod.mk.injEq] at hs
  obtain ⟨rfl,rfl⟩:=hs
  exact ok_mv hI (.inl hop) (rep_opd hT h1)
 ·next x hop =>
  simp only [Option.bind_eq_some_iff,Option.some.injEq] at hc
  obtain ⟨y,h1,rfl⟩:=hc
  simp only [astep,Option.some.injEq,Prod.mk.injEq] at hs
  obtain ⟨rfl,rfl⟩:=hs
  exact ok_mv hI (.inr hop) (rep_opd hT h1)
 ·next c x y hop =>
  simp only [Option.bind_eq_some_iff,Option.some.injEq] at hc
  obtain ⟨c',h1,x',h2,y',h3,rfl⟩:=hc
  simp only [astep] at hs
  split at hs
  ·next b hb =>
   simp only [Option.some.injEq,Prod.mk.injEq] at hs
   obtain ⟨rfl,rfl⟩:=hs
   exact ok_pick hI hop (by rw [← hb]; exact rep_opd hT h1) (rep_opd hT h2) (rep_opd hT h3)
  ·cases hs
 ·next T hop =>
  simp only [Option.bind_eq_some_iff,Option.some.injEq] at hc
  obtain ⟨i,h1,z,h2,l,h3,rfl⟩:=hc
  simp only [astep,Option.some.injEq,Prod.mk.injEq] at hs
  obtain ⟨rfl,rfl⟩:=hs
  exact ok_alloc hI hop h1 h2 h3
 ·next T x hop =>
  simp only [Option.bind_eq_some_iff,Option.some.injEq] at hc
  obtain ⟨y,h1,rfl⟩:=hc
  simp only [astep,Option.some.injEq,Prod.mk.injEq] at hs
  obtain ⟨rfl,rfl⟩:=hs
  exact ok_box hI hop (rep_opd hT h1)
 ·next t parts hop =>
  split at hc
  ·next fs ht =>
   split at hc
   ·next hall =>
    simp only [Option.bind_eq_some_iff,Option.some.injEq] at hc
    obtain ⟨i,h1,z,h2,l,h3,ps,h4,rfl⟩:=hc
    simp only [astep,Option.map_eq_some_iff,Prod.mk.injEq] at hs
    obtain ⟨r,h5,rfl,rfl⟩:=hs
    exact ok_build hI hT hop ht hall h1 h2 h3 h4 h5
   ·cases hc
  ·cases hc
 ·next t len parts hop =>
  split at hc
  ·next E ht =>
   simp only [Option.bind_eq_some_iff,Option.ite_none_right_eq_some,Option.some.injEq] at hc
   obtain ⟨i,h1,z,h2,⟨h3,h4,h5,h6,h7⟩,ps,h8,hc⟩:=hc
   split at hc
   ·injection hc with hc; subst hc
    simp only [astep,Option.map_eq_some_iff,Prod.mk.injEq] at hs
    obtain ⟨r,h9,rfl,rfl⟩:=hs
    exact ok_mkr hI hT hop ht h1 h2 h3 h4 h5 h6 h7 h8 h9
   ·injection hc with hc; subst hc
    simp only [astep,Option.map_eq_some_iff,Prod.mk.injEq] at hs
    obtain ⟨r,h9,rfl,rfl⟩:=hs
    exact ok_mks hI hT hop ht h1 h2 h3 h4 h5 h6 h7 h8 h9
  ·cases hc
 ·next t p hop =>
  simp only [Option.bind_eq_some_iff,Option.ite_none_right_eq_some,Option.some.injEq] at hc
  obtain ⟨d,h1,i,h2,y,h3,h4,rfl⟩:=hc
  simp only [astep,Option.map_eq_some_iff,Prod.mk.injEq] at hs
  obtain ⟨r,h5,rfl,rfl⟩:=hs
  exact ok_load hI hop h1 h2 h4 (rep_opd hT h3) h5
 ·next t p x hop =>
  simp only [Option.bind_eq_some_iff,Option.some.injEq] at hc
  obtain ⟨i,h1,y,h2,z,h3,rfl⟩:=hc
  simp only [astep,Option.map_eq_some_iff,Prod.mk.injEq] at hs
  obtain ⟨r,h5,rfl,rfl⟩:=hs
  exact ok_store hI hop h1 (rep_opd hT h2) (rep_opd hT h3) h5
 ·next x hop =>
  simp only [Option.bind_eq_some_iff,Option.some.injEq] at hc
  obtain ⟨y,h1,rfl⟩:=hc
  simp only [astep] at hs
  have hx:=rep_opd hT h1
  split at hs
  ·next i p e =>
   simp only [Option.some.injEq,Prod.mk.injEq] at hs
   obtain ⟨rfl,rfl⟩:=hs
   rw [e] at hx
   exact ok_nilck hI hop hx (.inl ⟨_,_,rfl⟩)
  ·next l e =>
   simp only [Option.some.injEq,Prod.mk.injEq] at hs
   obtain ⟨rfl,rfl⟩:=hs
   rw [e] at hx
   exact ok_nilck hI hop hx (.inr ⟨_,rfl⟩)
  ·cases hs
 ·next op t x y yt hop =>
  split at hc
  ·simp only [Option.bind_eq_some_iff,Option.some.injEq] at hc
   obtain ⟨x',h1,y',h2,rfl⟩:=hc
   simp only [astep,Option.map_eq_some_iff,Prod.mk.injEq] at hs
   obtain ⟨r,h5,rfl,rfl⟩:=hs
   exact ok_bin hI hop (rep_opd hT h1) (rep_opd hT h2) h5
  ·simp only [Option.bind_eq_some_iff,Option.some.injEq] at hc
   obtain ⟨x',h1,y',h2,rfl⟩:=hc
   simp only [astep,Option.map_eq_some_iff,Prod.mk.injEq] at hs
   obtain ⟨r,h5,rfl,rfl⟩:=hs
   exact ok_bin hI hop (rep_opd hT h1) (rep_opd hT h2) h5
  ·next ht =>
   split at hc
   ·next hq =>
    simp only [Option.bind_eq_some_iff,Option.some.injEq] at hc
    obtain ⟨x',h1,y',h2,rfl⟩:=hc
    simp only [astep,Option.map_eq_some_iff,Prod.mk.injEq] at hs
    obtain ⟨r,h5,rfl,rfl⟩:=hs
    exact ok_eq hI hop hq (rep_opd hT h1) (rep_opd hT h2) (.inl ⟨rfl,ht⟩) h5
   ·cases hc
  ·next e ht =>
   split at hc
   ·next hq =>
    simp only [Option.bind_eq_some_iff,Option.some.injEq] at hc
    obtain ⟨x',h1,y',h2,rfl⟩:=hc
    simp only [astep,Option.map_eq_some_iff,Prod.mk.injEq] at hs
    obtain ⟨r,h5,rfl,rfl⟩:=hs
    exact ok_eq hI hop hq (rep_opd hT h1) (rep_opd hT h2) (.inr (.inl ⟨rfl,e,ht⟩)) h5
   ·cases hc
  ·next q e ht =>
   split at hc
   ·next hq =>
    simp only [Option.bind_eq_some_iff,Option.some.injEq] at hc
    obtain ⟨x',h1,y',h2,rfl⟩:=hc
    simp only [astep,Option.map_eq_some_iff,Prod.mk.injEq] at hs
    obtain ⟨r,h5,rfl,rfl⟩:=hs
    exact ok_eq hI hop hq (rep_opd hT h1) (rep_opd hT h2) (.inr (.inr (.inl ⟨rfl,q,e,ht⟩))) h5
   ·cases hc
  ·next fs ht =>
   split at hc
   ·next hq =>
    simp only [Option.bind_eq_some_iff,Option.some.injEq] at hc
    obtain ⟨ks,h0,x',h1,y',h2,rfl⟩:=hc
    simp only [astep,Option.map_eq_some_iff,Prod.mk.injEq] at hs
    obtain ⟨r,h5,rfl,rfl⟩:=hs
    exact ok_eq hI hop hq.1 (rep_opd hT h1) (rep_opd hT h2) (.inr (.inr (.inr ⟨rfl,fs,ht,hq.2.1,hq.2.2,h0⟩))) h5
   ·cases hc
  ·cases hc
 ·next op t x hop =>
  simp only [Option.bind_eq_some_iff,Option.some.injEq] at hc
  obtain ⟨y,h1,rfl⟩:=hc
  simp only [astep,Option.map_eq_some_iff,Prod.mk.injEq] at hs
  obtain ⟨r,h5,rfl,rfl⟩:=hs
  exact ok_un hI hop (rep_opd hT h1) h5
 ·next src dst x hop =>
  split at hc
  ·next k0 k hsrc hdst =>
   simp only [Option.bind_eq_some_iff,Option.some.injEq] at hc
   obtain ⟨y,h1,rfl⟩:=hc
   have hx:=rep_opd hT h1
   simp only [astep] at hs
   split at hs
   ·next j m e =>
    simp only [Option.some.injEq,Prod.mk.injEq] at hs
    obtain ⟨rfl,rfl⟩:=hs
    rw [e] at hx
    exact ok_conv hI hop hsrc hdst hx
   ·cases hs
  ·cases hc
 ·next f first caps hop =>
  split at hc
  ·next hf =>
   simp only [Option.bind_eq_some_iff,Option.some.injEq] at hc
   obtain ⟨l,h1,rfl⟩:=hc
   simp only [astep,Option.some.injEq,Prod.mk.injEq] at hs
   obtain ⟨rfl,rfl⟩:=hs
   exact ok_mkfn hI hop (arr_of (by simpa using hf)) (rep_opds hT h1)
  ·cases hc
 ·next t x lo hi mx hop =>
  split at hc
  ·next ht =>
   simp only [Option.bind_eq_some_iff,Option.some.injEq] at hc
   obtain ⟨y,h1,l,h2,k,h3,rfl⟩:=hc
   simp only [astep,Option.map_eq_some_iff,Prod.mk.injEq] at hs
   obtain ⟨r,h5,rfl,rfl⟩:=hs
   exact ok_ssl hI hT hop ht (rep_opd hT h1) h2 h3 h5
  ·next e ht =>
   simp only [Option.bind_eq_some_iff,Option.some.injEq] at hc
   obtain ⟨ie,h0,y,h1,l,h2,k,h3,rfl⟩:=hc
   simp only [astep,Option.map_eq_some_iff,Prod.mk.injEq] at hs
   obtain ⟨r,h5,rfl,rfl⟩:=hs
   exact ok_slsl hI hT hop ht h0 (rep_opd hT h1) h2 h3 h5
  ·cases hc
 ·next s x j hop =>
  split at hc
  ·next fs hsx =>
   simp only [Option.bind_eq_some_iff,Option.some.injEq,Option.ite_none_right_eq_some] at hc
   obtain ⟨f,h1,i,h2,h3,y,h4,rfl⟩:=hc
   have hx:=rep_opd hT h4
   simp only [astep] at hs
   split at hs
   ·next b p e =>
    simp only [Option.some.injEq,Prod.mk.injEq] at hs
    obtain ⟨rfl,rfl⟩:=hs
    exact ok_faddr hI hop hsx h1 h2 h3 hx (.inl ⟨b,p,e,rfl⟩)
   ·next l e =>
    simp only [Option.ite_none_right_eq_some,Option.some.injEq,Prod.mk.injEq] at hs
    obtain ⟨_,rfl,rfl⟩:=hs
    exact ok_faddr hI hop hsx h1 h2 h3 hx (.inr ⟨l,e,rfl⟩)
   ·cases hs
  ·cases hc
 ·next t x i hop =>
  split at hc
  ·next e ht =>
   simp only [Option.bind_eq_some_iff,Option.some.injEq] at hc
   obtain ⟨ie,h1,y,h2,z,h3,rfl⟩:=hc
   have hx:=rep_opd hT h2
   have hi:=rep_opd hT h3
   simp only [astep] at hs
   split at hs
   ·next W' ow rows k m e1 e2 =>
    simp only [Option.ite_none_right_eq_some,Option.some.injEq,Prod.mk.injEq] at hs
    obtain ⟨⟨h4,h5,rfl⟩,rfl,rfl⟩:=hs
    rw [e1] at hx; rw [e2] at hi
    exact ok_iaddr hI hop ht h1 hx hi h4 h5
   ·next b W' m' k m e1 e2 =>
    simp only [Option.ite_none_right_eq_some,Option.some.injEq,Prod.mk.injEq] at hs
    obtain ⟨⟨h4,h5,rfl⟩,rfl,rfl⟩:=hs
    rw [e1] at hx; rw [e2] at hi
    exact ok_iaddrB hI hop ht h1 hx hi h4 h5
   ·cases hs
  ·cases hc
 ·next t x i hop =>
  split at hc
  ·next ht =>
   simp only [Option.bind_eq_some_iff,Option.some.injEq] at hc
   obtain ⟨y,h2,z,h3,rfl⟩:=hc
   have hx:=rep_opd hT h2
   have hi:=rep_opd hT h3
   simp only [astep] at hs
   split at hs
   ·next l k m e1 e2 =>
    simp only [Option.ite_none_right_eq_some,Option.some.injEq,Prod.mk.injEq] at hs
    obtain ⟨⟨h4,h5⟩,rfl,rfl⟩:=hs
    rw [e1] at hx; rw [e2] at hi
    exact ok_sidx hI hop ht hx hi h4 h5
   ·cases hs
  ·cases hc
 ·next x i hop =>
  simp only [Option.bind_eq_some_iff,Option.some.injEq] at hc
  obtain ⟨y,h1,rfl⟩:=hc
  have hx:=rep_opd hT h1
  simp only [astep] at hs
  split at hs
  ·next l e =>
   simp only [Option.map_eq_some_iff,Prod.mk.injEq] at hs
   obtain ⟨r,h5,rfl,rfl⟩:=hs
   rw [e] at hx
   exact ok_extract hI hop hx h5
  ·cases hs
 ·next t hop =>
  split at hc
  ·next hm =>
   simp only [Option.some.injEq] at hc; subst hc
   simp only [astep,Option.some.injEq,Prod.mk.injEq] at hs
   obtain ⟨rfl,rfl⟩:=hs
   exact ok_mkmap hI hop
  ·cases hc
 ·next t m k ok hop =>
  split at hc
  ·next hm =>
   simp only [Option.bind_eq_some_iff,Option.some.injEq] at hc
   obtain ⟨z,h0,x',h1,y',h2,rfl⟩:=hc
   simp only [astep,Option.map_eq_some_iff,Prod.mk.injEq] at hs
   obtain ⟨r,h5,rfl,rfl⟩:=hs
   exact ok_mget hI hop hm h0 (rep_opd hT h1) (rep_opd hT h2) h5
  ·cases hc
 ·next t m k x hop =>
  split at hc
  ·next hm =>
   simp only [Option.bind_eq_some_iff,Option.some.injEq] at hc
   obtain ⟨x',h1,y',h2,z',h3,rfl⟩:=hc
   simp only [astep,Option.map_eq_some_iff,Prod.mk.injEq] at hs
   obtain ⟨r,h5,rfl,rfl⟩:=hs
   exact ok_mset hI hop hm (rep_opd hT h1) (rep_opd hT h2) (rep_opd hT h3) h5
  ·cases hc
 ·next c hop =>
  unfold compCall at hc
  split at hc
  ·simp only [Option.bind_eq_some_iff,Option.some.injEq,Option.ite_none_right_eq_some] at hc
   obtain ⟨_,l,h1,rfl⟩:=hc
   simp [astep] at hs
  ·simp only [Option.bind_eq_some_iff,Option.some.injEq,Option.ite_none_right_eq_some] at hc
   obtain ⟨_,l,h1,rfl⟩:=hc
   simp [astep] at hs
  ·next hcal =>
   split at hc
   ·next x T ha hTy =>
    split at hc
    ·next ht =>
     simp only [Option.bind_eq_some_iff,Option.some.injEq] at hc
     obtain ⟨y,h1,rfl⟩:=hc
     have hx:=rep_opd hT h1
     simp only [astep] at hs
     split at hs
     ·next l _ e =>
      simp only [Option.some.injEq,Prod.mk.injEq] at hs
      obtain ⟨rfl,rfl⟩:=hs
      exact ok_len hI hop hcal (arr_of ha) (arr_of hTy) hx (.inl ⟨ht,l,e,rfl⟩)
     ·next hf _ => cases hf
     ·next hf _ => cases hf
     ·cases hs
    ·next e' ht =>
     simp only [Option.bind_eq_some_iff,Option.some.injEq] at hc
     obtain ⟨y,h1,rfl⟩:=hc
     have hx:=rep_opd hT h1
     simp only [astep] at hs
     split at hs
     ·next hf _ => cases hf
     ·next W ow rows _ e =>
      simp only [Option.some.injEq,Prod.mk.injEq] at hs
      obtain ⟨rfl,rfl⟩:=hs
      exact ok_len hI hop hcal (arr_of ha) (arr_of hTy) hx (.inr (.inl ⟨e',ht,W,ow,rows,e,rfl⟩))
     ·next b W m _ e =>
      simp only [Option.some.injEq,Prod.mk.injEq] at hs
      obtain ⟨rfl,rfl⟩:=hs
      exact ok_len hI hop hcal (arr_of ha) (arr_of hTy) hx (.inr (.inr ⟨e',ht,b,W,e⟩))
     ·cases hs
    ·next q e' ht =>
     simp only [Option.bind_eq_some_iff,Option.some.injEq] at hc
     obtain ⟨y,h1,rfl⟩:=hc
     simp only [astep,Option.map_eq_some_iff,Prod.mk.injEq] at hs
     obtain ⟨r,h5,rfl,rfl⟩:=hs
     exact ok_mlen (t:=T) hI hop hcal (arr_of ha) (arr_of hTy) ht (rep_opd hT h1) h5
    ·cases hc
   ·cases hc
  ·next hcal =>
   split at hc
   ·next x y T T' ha hTy =>
    split at hc
    ·next hTT =>
     subst hTT
     split at hc
     ·next E ht =>
      simp only [Option.bind_eq_some_iff,Option.some.injEq,Option.ite_none_right_eq_some] at hc
      obtain ⟨i,h1,z,h2,⟨h3,h4⟩,x',h5,y',h6,rfl⟩:=hc
      simp only [astep] at hs
      exact ok_app hI hop hcal (arr_of ha) (arr_of hTy) ht h1 h2 h3 h4 (rep_opd hT h5) (rep_opd hT h6) hs
     ·cases hc
    ·cases hc
   ·cases hc
  ·next hcal =>
   split at hc
   ·next x y T Ts ha hTy =>
    split at hc
    ·next hm =>
     simp only [Option.bind_eq_some_iff,Option.some.injEq] at hc
     obtain ⟨x',h1,y',h2,rfl⟩:=hc
     simp only [astep,Option.map_eq_some_iff,Prod.mk.injEq] at hs
     obtain ⟨r,h5,rfl,rfl⟩:=hs
     exact ok_mdel hI hop hcal (arr_of ha) hTy hm (rep_opd hT h1) (rep_opd hT h2) h5
    ·cases hc
   ·cases hc
  ·next hcal =>
   split at hc
   ·next x T Ts ha hTy =>
    split at hc
    ·next hm =>
     simp only [Option.bind_eq_some_iff,Option.some.injEq] at hc
     obtain ⟨x',h1,rfl⟩:=hc
     simp only [astep,Option.map_eq_some_iff,Prod.mk.injEq] at hs
     obtain ⟨r,h5,rfl,rfl⟩:=hs
     exact ok_mclr hI hop hcal (arr_of ha) hTy hm (rep_opd hT h1) h5
    ·cases hc
   ·cases hc
  ·next hcal =>
   split at hc
   ·next x y z ha =>
    simp only [Option.bind_eq_some_iff,Option.some.injEq] at hc
    obtain ⟨x',h1,y',h2,z',h3,rfl⟩:=hc
    have hx:=rep_opd hT h1
    have hy:=rep_opd hT h2
    have hz:=rep_opd hT h3
    simp only [astep] at hs
    split at hs
    ·next k a' _ b' _ c' e1 e2 e3 =>
     simp only [Option.some.injEq,Prod.mk.injEq] at hs
     obtain ⟨rfl,rfl⟩:=hs
     rw [e1] at hx; rw [e2] at hy; rw [e3] at hz
     exact ok_max3 hI hop hcal (arr_of ha) hx hy hz
    ·cases hs
   ·next x y ha =>
    simp only [Option.bind_eq_some_iff,Option.some.injEq] at hc
    obtain ⟨x',h1,y',h2,rfl⟩:=hc
    have hx:=rep_opd hT h1
    have hy:=rep_opd hT h2
    simp only [astep] at hs
    split at hs
    ·next k a' _ b' e1 e2 =>
     simp only [Option.some.injEq,Prod.mk.injEq] at hs
     obtain ⟨rfl,rfl⟩:=hs
     rw [e1] at hx; rw [e2] at hy
     exact ok_mm (mx:=true) hI hop hcal (arr_of ha) hx hy
    ·cases hs
   ·cases hc
  ·next hcal =>
   split at hc
   ·next x y ha =>
    simp only [Option.bind_eq_some_iff,Option.some.injEq] at hc
    obtain ⟨x',h1,y',h2,rfl⟩:=hc
    have hx:=rep_opd hT h1
    have hy:=rep_opd hT h2
    simp only [astep] at hs
    split at hs
    ·next k a' _ b' e1 e2 =>
     simp only [Option.some.injEq,Prod.mk.injEq] at hs
     obtain ⟨rfl,rfl⟩:=hs
     rw [e1] at hx; rw [e2] at hy
     exact ok_mm (mx:=false) hI hop hcal (arr_of ha) hx hy
    ·cases hs
   ·cases hc
  ·cases hc
 ·cases hc
end
end AX
end Go.Proofs.YteklhoajalgehaaGreatDoor

namespace Go.Proofs.YteklhoajalgehaaGreatDoor
open Go.RowKit
namespace AX
inductive AExit where
 | normal
 | exit (id : Nat)
 | ret
abbrev Ts:=Nat → A
def put (ts : Ts) (d : Option Nat) (v : A) : Ts:=
 match d with
 | some d => fun i => if i = d then v else ts i
 | none => ts
def condP : A → Prop → Prop → Prop
 | .bool t,p,q => (t = true → p) ∧ (t = false → q)
 | _,_,_ => False
def guardP (ts : Ts) : Option (Nat × Bool) → Prop → Prop → Prop
 | none,p,_ => p
 | some (t,b),p,q =>
  match ts t with
  | .bool c => (c = b → p) ∧ (c = !b → q)
  | .tup [] => q
  | _ => False
def optP : Option (A × Hp) → (A → Hp → Prop) → Prop
 | some (v,h),K => K v h
 | none,_ => False
def aopP (P : Program) (G : World → Prop) (ev : Opd → A) (h : Hp) (K : A → Hp → Prop) : AOp → Prop
 | .call f args => ACall P G f (args.map ev) h K
 | .callv x args => ∃ f caps,ev x = .fn f caps ∧ callOk P f = true ∧ ACall P G f (args.map ev ++ caps) h K
 | op => optP (astep ev h op) K
def aops (P : Program) (G : World → Prop) : List AOper → (Ts → Hp → Prop) → Ts → Hp → Prop
 | [],K,ts,h => K ts h
 | o :: os,K,ts,h => guardP ts o.guard (aopP P G (evX ts) h (fun v h' => aops P G os K (put ts o.dst v) h') o.op) (aops P G os K (put ts o.dst (.tup [])) h)
section
variable {P : Program} {G : World → Prop} {C : Ctx} {a : Act} {o : Oper} {h : Hp} {ts : Ts} {n : Nat}
theorem RepT.ext {C' : Ctx} (hT : RepT C ts n a) (he : Ext C C') : RepT C' ts n a:=⟨hT.size,fun i hi => Rep.ext he _ _ (hT.rep i hi)⟩
theorem RepT.put {dst : Option Tmp} {v : A} {cv : Value} (hT : RepT C ts n a) (hd : compDst n dst = true) (hv : Rep C v cv) : RepT C (put ts dst v) n (a.put dst cv):=by
 cases dst with
 | none => exact hT
 | some d =>
  have hd' : d < n:=by simpa [compDst] using hd
  refine ⟨by simp [Act.put,hT.size],fun i hi => ?_⟩
  show Rep C (if i = d then v else ts i) ((a.tmps.setIfInBounds d cv).getD i undef)
  by_cases e : i = d
  ·subst e
   rw [if_pos rfl]
   simpa [hT.size,hd'] using hv
  ·rw [if_neg e]
   have:=hT.rep i hi
   rw [Array.getD_eq_getD_getElem?] at this ⊢
   rwa [Array.getElem?_setIfInBounds_ne (fun h => e h.symm)]
theorem put_defers {dst : Option Tmp} {v : Value} : (a.put dst v).defers = a.defers:=by cases dst <;> rfl
theorem run_callOk {f : FuncId} (w : World) (args : Array Value) (hf : callOk P f = true) : (callFunc f args).run P w = .ok (.enter f args) w:=by
 unfold callOk at hf
 split at hf
 ·next fn hfn =>
  rw [Bool.and_eq_true] at hf
  obtain ⟨h1,h2⟩:=hf
  unfold callFunc
  have h3 : (fn.name == "runtime.NumGoroutine") = false := by simpa using h1
  have h4 : fn.body.isNone = false:=by cases hb : fn.body <;> simp_all
  simp only [Sem.run_bind,run_program,Result.andThen_ok,hfn,h3,h4,Bool.false_eq_true,if_false,Sem.run_pure]
 ·cases hf
def AOp.isCall : AOp → Bool
 | .call .. => true
 | .callv .. => true
 | _ => false
theorem comp_call {r : AOp} (hc : compOp P n o = some r) (hr : r.isCall = true) : ∃ c,o.op = .call c ∧ compCall P n c o.type = some r:=by
 unfold compOp at hc
 split at hc
 case h_23 c hop => exact ⟨c,hop,hc⟩
 all_goals
  exfalso
  cases r <;> simp only [AOp.isCall,Bool.false_eq_true] at hr
  all_goals
   revert hc
   repeat' split
   all_goals simp [Option.bind_eq_some_iff]
theorem aop_wp {ao : AOp} {K : A → Hp → Prop} {next : Act → World → Prop} {Q : Exit → Act → World → Prop} (hI : Inv G C h) (hT : RepT C ts n a) (hc : compOp P n o = some ao) (hk : aopP P G (evX ts) h K ao)
  (hn : ∀ (C' : Ctx) (h' : Hp) (v : A) (cv : Value),Inv G C' h' → Step C C' → Rep C' v cv → K v h' → next (a.put o.dst cv) C'.w) : o.wp P a C.w next Q:=by
 have plain : optP (astep (evX ts) h ao) K → o.wp P a C.w next Q:=fun hk => by
  cases hs : astep (evX ts) h ao with
  | none => rw [hs] at hk; exact hk.elim
  | some r =>
   obtain ⟨v,h'⟩:=r
   rw [hs] at hk
   obtain ⟨C',cv,hr,h1,h2,h3⟩:=step_ok hI hT hc hs
   unfold Oper.wp
   rcases hr with hr | ⟨hr,rfl⟩
   ·rw [hr]; exact hn C' h' v cv h1 h2 h3 hk
   ·rw [hr]; exact hn C' h' v undef h1 h2 h3 hk
 have called : ∀ (f : FuncId) (as : List A) (cs : List Value),RepL C as cs → ACall P G f as h K → (execOp a.eval o).run P C.w = .ok (.enter f cs.toArray) C.w → o.wp P a C.w next Q:=fun f as cs hl hcall hr => by
  unfold Oper.wp
  rw [hr,Oper.upon_enter]
  refine (hcall C cs hI hl).mono ?_
  rintro e w' ⟨C',h',v,cv,rfl,rfl,h1,h2,h3,h4⟩
  exact hn C' h' v cv h1 h2 h3 h4
 cases ao with
 | call f args =>
  obtain ⟨c,hop,hcc⟩:=comp_call hc rfl
  unfold compCall at hcc
  split at hcc
  ·next g hcal =>
   simp only [Option.ite_none_right_eq_some,Option.bind_eq_some_iff,Option.some.injEq,AOp.call.injEq] at hcc
   obtain ⟨hok,l,h1,rfl,rfl⟩:=hcc
   refine called g _ _ (rep_opds hT h1) hk ?_
   unfold execOp
   have e : c.args.map a.eval = (c.args.toList.map a.eval).toArray:=Array.toList_inj.1 (by simp)
   simp only [hop,resolve,hcal,Deferred.ofValue,Act.eval,Sem.run_bind,Sem.run_pure,Result.andThen_ok,invoke,Array.append_empty,Array.empty_append,e]
   exact run_callOk C.w _ hok
  ·simp only [Option.ite_none_right_eq_some,Option.bind_eq_some_iff,Option.some.injEq,reduceCtorEq,and_false,exists_false] at hcc
  ·exfalso
   revert hcc
   repeat' split
   all_goals simp [Option.bind_eq_some_iff]
  ·exfalso
   revert hcc
   repeat' split
   all_goals simp [Option.bind_eq_some_iff]
  ·exfalso
   revert hcc
   repeat' split
   all_goals simp [Option.bind_eq_some_iff]
  ·exfalso
   revert hcc
   repeat' split
   all_goals simp [Option.bind_eq_some_iff]
  ·exfalso
   revert hcc
   repeat' split
   all_goals simp [Option.bind_eq_some_iff]
  ·exfalso
   revert hcc
   repeat' split
   all_goals simp [Option.bind_eq_some_iff]
  ·cases hcc
 | callv x args =>
  obtain ⟨f,caps,hx,hok,hk⟩:=hk
  obtain ⟨c,hop,hcc⟩:=comp_call hc rfl
  unfold compCall at hcc
  split at hcc
  ·simp only [Option.ite_none_right_eq_some,Option.bind_eq_some_iff,Option.some.injEq,reduceCtorEq,and_false,exists_false] at hcc
  ·next t hcal =>
   simp only [Option.ite_none_right_eq_some,Option.bind_eq_some_iff,Option.some.injEq,AOp.callv.injEq] at hcc
   obtain ⟨hlt,l,h1,rfl,rfl⟩:=hcc
   have hf : Rep C (.fn f caps) (a.eval (.tmp t)):=by
    rw [← hx]; exact hT.rep t hlt
   obtain ⟨cs,hev,hcs⟩:=rep_fn.1 hf
   refine called f _ _ (repL_append (rep_opds hT h1) hcs) hk ?_
   unfold execOp
   have e : c.args.map a.eval = (c.args.toList.map a.eval).toArray:=Array.toList_inj.1 (by simp)
   have e2 : (c.args.toList.map a.eval).toArray ++ cs.toArray = (c.args.toList.map a.eval ++ cs).toArray:=Array.toList_inj.1 (by simp)
   simp only [hop,resolve,hcal,Sem.run_bind,e]
   rw [hev]
   simp only [Deferred.ofValue,Sem.run_pure,Result.andThen_ok,invoke,Array.empty_append,e2]
   exact run_callOk C.w _ hok
  ·exfalso
   revert hcc
   repeat' split
   all_goals simp [Option.bind_eq_some_iff]
  ·exfalso
   revert hcc
   repeat' split
   all_goals simp [Option.bind_eq_some_iff]
  ·exfalso
   revert hcc
   repeat' split
   all_goals simp [Option.bind_eq_some_iff]
  ·exfalso
   revert hcc
   repeat' split
   all_goals simp [Option.bind_eq_some_iff]
  ·exfalso
   revert hcc
   repeat' split
   all_goals simp [Option.bind_eq_some_iff]
  ·exfalso
   revert hcc
   repeat' split
   all_goals simp [Option.bind_eq_some_iff]
  ·cases hcc
 | _ => exact plain hk
theorem mks_of {W E : Nat} {ps : List Opd} {t len : Nat} {parts : Array (Nat × Operand)} (h0 : compOp P n o = some (.mks W ps)) (hop : o.op = .buildSlice t len parts) (ht : P.underlying t = some (.slice E)) :
  ∃ it z,P.info? E = some it ∧ it.zero = some z ∧ z.cells.size = it.size ∧ 0 < it.size ∧ parts.toList.length = len ∧ 0 < len ∧ len * it.size ≤ 1000 ∧ compRow n 0 parts.toList = some ps ∧ W = it.size:=by
 unfold compOp at h0
 rw [hop] at h0
 simp only [ht,Option.bind_eq_some_iff,Option.ite_none_right_eq_some] at h0
 obtain ⟨i,h1,z,h2,⟨h3,h4,h5,h6,h7⟩,ps',h8,h9⟩:=h0
 split at h9
 ·cases h9
 ·injection h9 with h9
  injection h9 with e1 e2
  subst e1; subst e2
  exact ⟨i,z,h1,h2,h3,h4,h5,h6,h7,h8,rfl⟩
theorem aop_wp' {os : List Oper} {ao : AOp} {K : A → Hp → Prop} {next : Act → World → Prop} {Q : Exit → Act → World → Prop} (hI : Inv G C h) (hT : RepT C ts n a) (hc : compOp' P n os o = some ao) (hk : aopP P G (evX ts) h K ao)
  (hn : ∀ (C' : Ctx) (h' : Hp) (v : A) (cv : Value),Inv G C' h' → Step C C' → Rep C' v cv → K v h' → next (a.put o.dst cv) C'.w) : o.wp P a C.w next Q:=by
 unfold compOp' at hc
 split at hc
 ·next hlit =>
  rw [Option.map_eq_some_iff] at hc
  obtain ⟨ao0,h0,rfl⟩:=hc
  unfold litA at hk
  split at hk
  ·next W ps =>
   split at hk
   ·next t len parts hop =>
    split at hk
    ·next E ht =>
     obtain ⟨it,z,h1,h2,h3,h4,h5,h6,h7,h8,rfl⟩:=mks_of h0 hop ht
     simp only [aopP,astep] at hk
     cases hr : rowsA (evX ts) it.size ps with
     | none => rw [hr] at hk; exact hk.elim
     | some rows =>
      rw [hr] at hk
      obtain ⟨C',cv,hr',k1,k2,k3⟩:=ok_mkl (G:=G) hI hT hop ht h1 h2 h3 h4 h5 h6 h7 h8 hr
      unfold Oper.wp
      rcases hr' with hr' | ⟨hr',rfl⟩
      ·rw [hr']; exact hn C' _ _ cv k1 k2 k3 hk
      ·rw [hr']; exact hn C' _ _ undef k1 k2 k3 hk
    ·exact aop_wp hI hT h0 hk hn
   ·exact aop_wp hI hT h0 hk hn
  ·exact aop_wp hI hT h0 hk hn
 ·exact aop_wp hI hT hc hk hn
end
end AX
end Go.Proofs.YteklhoajalgehaaGreatDoor

namespace Go.Proofs.YteklhoajalgehaaGreatDoor
open Go.RowKit
namespace AX
section
variable {P : Program} {G : World → Prop}
theorem guardP_mono {ts : Ts} {g : Option (Nat × Bool)} {p p' q q' : Prop} (hp : p → p') (hq : q → q') (h : guardP ts g p q) : guardP ts g p' q':=by
 unfold guardP at *
 split at h
 ·exact hp h
 ·split at h
  ·exact ⟨fun e => hp (h.1 e),fun e => hq (h.2 e)⟩
  ·exact hq h
  ·exact h.elim
theorem optP_mono {r : Option (A × Hp)} {K K' : A → Hp → Prop} (hk : ∀ v h,K v h → K' v h) (h : optP r K) : optP r K':=by
 cases r with
 | none => exact h
 | some r => exact hk _ _ h
theorem aopP_mono {ev : Opd → A} {h : Hp} {K K' : A → Hp → Prop} (hk : ∀ v h,K v h → K' v h) {o : AOp} (hp : aopP P G ev h K o) : aopP P G ev h K' o:=by
 cases o with
 | call f args => exact ACall.mono hp hk
 | callv x args =>
  obtain ⟨f,caps,h1,h2,h3⟩:=hp
  exact ⟨f,caps,h1,h2,ACall.mono h3 hk⟩
 | _ => simp only [aopP] at hp ⊢; exact optP_mono hk hp
end
def TD (ops : List AOper) (vals : Nat → A) (ts : Ts) (D : Nat → Bool) : Ts:=fun x =>
 match ops.findIdx? (fun o => o.dst == some x) with
 | some j => if D j = true then vals j else ts x
 | none => ts x
def Closed (ops : List AOper) (D : Nat → Bool) : Prop:=∀ j o,ops[j]? = some o → D j = true → ∀ k ∈ o.after,D k = true
def adraw (P : Program) (G : World → Prop) (ops : List AOper) (K : Ts → Hp → Prop) (ts : Ts) (h : Hp) : Prop:=
 ∃ I : (Nat → Bool) → Ts → Hp → Prop,I (fun _ => false) ts h ∧
  (∀ D i o ts h,I D ts h → ops[i]? = some o → D i = false → Closed ops D → (∀ j ∈ o.after,D j = true) →
   guardP ts o.guard (aopP P G (evX ts) h (fun v h' => I (fun j => j == i || D j) (put ts o.dst v) h') o.op) (I (fun j => j == i || D j) (put ts o.dst (.tup [])) h)) ∧
  ∀ ts h,I (fun j => decide (j < ops.length)) ts h → K ts h
def edgesB : Nat → List AOper → Bool
 | _,[] => true
 | i,o :: os => o.after.all (fun j => decide (j < i)) && (match o.dst with | none => true | some d => os.all fun o' => o'.dst != some d) && edgesB (i + 1) os
inductive AExit.Is : AExit → Exit → Prop
 | normal : AExit.Is .normal .normal
 | exit (id : Nat) : AExit.Is (.exit id) (.exit id)
 | ret : AExit.Is .ret .ret
def thenA (next : Ts → Hp → Prop) (Q : AExit → Ts → Hp → Prop) : AExit → Ts → Hp → Prop
 | .normal => next
 | e => Q e
def blkA (id : Nat) (Q : AExit → Ts → Hp → Prop) : AExit → Ts → Hp → Prop
 | .exit id' => fun ts h => if id' = id then Q .normal ts h else Q (.exit id') ts h
 | e => Q e
def aloop (body : (AExit → Ts → Hp → Prop) → Ts → Hp → Prop) (Q : AExit → Ts → Hp → Prop) : Nat → Ts → Hp → Prop
 | 0 => fun _ _ => False
 | k + 1 => body (thenA (aloop body Q k) Q)
def Post (G : World → Prop) (C0 : Ctx) (n : Nat) (Q : AExit → Ts → Hp → Prop) (e : Exit) (a : Act) (w : World) : Prop:=
 ∃ (C : Ctx) (ts : Ts) (h : Hp) (ae : AExit),ae.Is e ∧ C.w = w ∧ Inv G C h ∧ Step C0 C ∧ RepT C ts n a ∧ a.defers = [] ∧ Q ae ts h
def awp (P : Program) (G : World → Prop) : ACode → (AExit → Ts → Hp → Prop) → Ts → Hp → Prop
 | .skip,Q => Q .normal
 | .reg false ops,Q => aops P G ops (Q .normal)
 | .reg true ops,Q => fun ts h => edgesB 0 ops = true ∧ adraw P G ops (Q .normal) ts h
 | .seq x y,Q => awp P G x (thenA (awp P G y Q) Q)
 | .cond c x y,Q => fun ts h => condP (evX ts c) (awp P G x Q ts h) (awp P G y Q ts h)
 | .block id c,Q => awp P G c (blkA id Q)
 | .loop c,Q => fun ts h => ∃ k,aloop (awp P G c) Q k ts h
 | .exit id,Q => Q (.exit id)
 | .ret,Q => Q .ret
 | .prim n c,Q => fun ts h => ∀ (C : Ctx) (a : Act),Inv G C h → RepT C ts n a → a.defers = [] → c.wp P (Post G C n Q) a C.w
section
variable {P : Program} {G : World → Prop} {n : Nat} {C0 : Ctx}
theorem guard_cases {C : Ctx} {ts : Ts} {a : Act} {o : Oper} {ops : Array Oper} {g : Option (Nat × Bool)} {p q : Prop} (hT : RepT C ts n a) (hg : compGuard n ops o.guard = some g) (hp : guardP ts g p q) :
  (Region.wanted o (yielded ops a.tmps) = true ∧ p) ∨ (Region.wanted o (yielded ops a.tmps) = false ∧ q):=by
 cases hog : o.guard with
 | none =>
  rw [hog] at hg
  simp only [compGuard,Option.some.injEq] at hg
  subst hg
  exact .inl ⟨by simp [Region.wanted,hog],hp⟩
 | some jb =>
  obtain ⟨j,b⟩:=jb
  rw [hog] at hg
  simp only [compGuard,Option.bind_eq_some_iff,Option.ite_none_right_eq_some,Option.some.injEq] at hg
  obtain ⟨t,⟨oj,h1,h2⟩,h3,rfl⟩:=hg
  have hr:=hT.rep t h3
  have hlt : t < a.tmps.size:=by rw [hT.size]; exact h3
  have hy : yielded ops a.tmps j = match a.tmps.getD t undef with | .bool b => some b | _ => none:=by
   unfold yielded
   rw [h1,Option.bind_some,h2,Option.bind_some]
   rw [Array.getElem?_eq_getElem hlt]
   rw [show a.tmps.getD t undef = a.tmps[t] by rw [Array.getD_eq_getD_getElem?,Array.getElem?_eq_getElem hlt]; rfl]
   cases a.tmps[t] <;> rfl
  simp only [guardP] at hp
  unfold Region.wanted
  rw [hog]
  simp only [hy]
  split at hp
  ·next c e =>
   rw [e,rep_bool] at hr
   rw [hr]
   by_cases hcb : c = b
   ·exact .inl ⟨by simp [hcb],hp.1 hcb⟩
   ·exact .inr ⟨by simp [hcb],hp.2 (by cases c <;> cases b <;> simp_all)⟩
  ·next e =>
   rw [e] at hr
   obtain ⟨cs,h4,h5⟩:=rep_tup.1 hr
   rw [repL_nil] at h5; subst h5
   rw [h4]
   exact .inr ⟨by simp,hp⟩
  ·exact hp.elim
theorem rep_undef {C : Ctx} : Rep C (.tup []) undef:=rep_tup.2 ⟨[],rfl,repL_nil.2 rfl⟩
theorem aops_sound {ops : Array Oper} {draw : Bool} {K : Ts → Hp → Prop} {Q : Exit → Act → World → Prop} (hK : ∀ (C : Ctx) (ts : Ts) (h : Hp) (a : Act),Inv G C h → Step C0 C → RepT C ts n a → a.defers = [] → K ts h → Q .normal a C.w) :
  ∀ (os : List Oper) (l : List AOper),compOpers P n draw ops os = some l → ∀ (C : Ctx) (ts : Ts) (h : Hp) (a : Act),Inv G C h → Step C0 C → RepT C ts n a → a.defers = [] → aops P G l K ts h → wpList P ops Q os a C.w
 | [],l,hc,C,ts,h,a,hI,hS,hT,hd,hk => by
  simp only [compOpers,Option.some.injEq] at hc; subst hc
  exact hK C ts h a hI hS hT hd hk
 | o :: os,l,hc,C,ts,h,a,hI,hS,hT,hd,hk => by
  simp only [compOpers,Option.ite_none_right_eq_some,Option.bind_eq_some_iff,Option.some.injEq] at hc
  obtain ⟨hdst,ao,h1,g,h2,l',h3,rfl⟩:=hc
  simp only [aops] at hk
  have ih:=aops_sound hK os l' h3
  unfold wpList
  rcases guard_cases hT h2 hk with ⟨hw,hk⟩ | ⟨hw,hk⟩
  ·rw [if_pos hw]
   refine .inl (aop_wp' hI hT h1 hk fun C' h' v cv k1 k2 k3 k4 => ?_)
   exact ih C' _ h' _ k1 (hS.trans k2) ((hT.ext k2.ext).put hdst k3) (by rw [put_defers]; exact hd) k4
  ·rw [if_neg (by simp [hw])]
   exact ih C _ h _ hI hS (hT.put hdst rep_undef) (by rw [put_defers]; exact hd) hk
theorem edgesB_after : ∀ {ops : List AOper} {k : Nat},edgesB k ops = true → ∀ i o,ops[i]? = some o → ∀ j ∈ o.after,j < k + i
 | [],k,h,i,o,hi => by simp at hi
 | x :: ops,k,h,0,o,hi => by
  simp only [edgesB,Bool.and_eq_true,List.all_eq_true,decide_eq_true_eq] at h
  simp at hi; subst hi
  intro j hj
  simpa using h.1.1 j hj
 | x :: ops,k,h,i + 1,o,hi => by
  simp only [edgesB,Bool.and_eq_true] at h
  intro j hj
  have:=edgesB_after h.2 i o (by simpa using hi) j hj
  omega
theorem edgesB_dst : ∀ {ops : List AOper} {k : Nat},edgesB k ops = true → ∀ (i : Nat) (o : AOper) (d : Nat),ops[i]? = some o → o.dst = some d → ops.findIdx? (fun o => o.dst == some d) = some i
 | [],k,h,i,o,d,hi,hd => by simp at hi
 | x :: ops,k,h,0,o,d,hi,hd => by
  simp at hi; subst hi
  simp [List.findIdx?_cons,hd]
 | x :: ops,k,h,i + 1,o,d,hi,hd => by
  simp only [edgesB,Bool.and_eq_true] at h
  have hi' : ops[i]? = some o:=by simpa using hi
  have:=edgesB_dst h.2 i o d hi' hd
  rw [List.findIdx?_cons]
  have hx : (x.dst == some d) = false:=by
   cases hxd : x.dst with
   | none => rfl
   | some e =>
    have h2:=h.1.2
    rw [hxd] at h2
    simp only [List.all_eq_true,bne_iff_ne,ne_eq] at h2
    have:=h2 o (List.mem_of_getElem? hi')
    rw [hd] at this
    simp only [Option.some.injEq] at this
    simp only [beq_eq_false_iff_ne,ne_eq,Option.some.injEq]
    exact fun e' => this e'.symm
  rw [hx,this]
  simp
theorem compOpers_get {draw : Bool} {ops : Array Oper} : ∀ {os : List Oper} {l : List AOper},compOpers P n draw ops os = some l → l.length = os.length ∧ ∀ (i : Nat) (o : Oper),os[i]? = some o → ∃ ao g,l[i]? = some ⟨o.dst,ao,g,if draw then afterOf o else []⟩ ∧ compDst n o.dst = true ∧ compOp' P n ops.toList o = some ao ∧ compGuard n ops o.guard = some g
 | [],l,hc => by
  simp only [compOpers,Option.some.injEq] at hc; subst hc
  exact ⟨rfl,fun i o hi => by simp at hi⟩
 | x :: os,l,hc => by
  simp only [compOpers,Option.ite_none_right_eq_some,Option.bind_eq_some_iff,Option.some.injEq] at hc
  obtain ⟨hdst,ao,h1,g,h2,l',h3,rfl⟩:=hc
  obtain ⟨ih1,ih2⟩:=compOpers_get h3
  refine ⟨by simp [ih1],fun i o hi => ?_⟩
  cases i with
  | zero =>
   simp at hi; subst hi
   exact ⟨ao,g,rfl,hdst,h1,h2⟩
  | succ i => exact ih2 i o (by simpa using hi)
theorem afterOf_mem {o : Oper} {j : Nat} : j ∈ afterOf o ↔ ∃ e ∈ o.after,Region.binds .any e = true ∧ e.on = j:=by
 unfold afterOf
 rw [List.mem_filterMap]
 constructor
 ·rintro ⟨e,h1,h2⟩
  split at h2
  ·next hb => injection h2 with h2; exact ⟨e,by simpa using h1,hb,h2⟩
  ·cases h2
 ·rintro ⟨e,h1,h2,h3⟩
  exact ⟨e,by simpa using h1,by rw [if_pos h2,h3]⟩
theorem put_TD {l : List AOper} (he : edgesB 0 l = true) {vals : Nat → A} {ts : Ts} {D : Nat → Bool} {i : Nat} {o : AOper} (k1 : l[i]? = some o) :
  put (TD l vals ts D) o.dst (vals i) = TD l vals ts (fun j => j == i || D j):=by
  funext x
  cases hd' : o.dst with
  | none =>
   show TD l vals ts _ x = _
   unfold TD
   cases hf : l.findIdx? (fun o => o.dst == some x) with
   | none => rfl
   | some j =>
    have hji : j ≠ i:=fun e => by
     subst e
     obtain ⟨hj,hj2,_⟩:=List.findIdx?_eq_some_iff_getElem.1 hf
     rw [List.getElem?_eq_getElem hj] at k1
     injection k1 with k1
     rw [k1,hd'] at hj2
     simp at hj2
    simp [hji]
  | some d =>
   show (if x = d then vals i else TD l vals ts _ x) = _
   have hfd:=edgesB_dst he i _ d k1 hd'
   by_cases e : x = d
   ·subst e
    rw [if_pos rfl]
    unfold TD
    rw [hfd]
    simp
   ·rw [if_neg e]
    unfold TD
    cases hf : l.findIdx? (fun o => o.dst == some x) with
    | none => rfl
    | some j =>
     have hji : j ≠ i:=fun e' => by
      subst e'
      obtain ⟨hj,hj2,_⟩:=List.findIdx?_eq_some_iff_getElem.1 hf
      rw [List.getElem?_eq_getElem hj] at k1
      injection k1 with k1
      rw [k1,hd'] at hj2
      simp at hj2
      exact e hj2.symm
     simp [hji]
theorem adraw_of {P : Program} {G : World → Prop} {ops : List AOper} {K : Ts → Hp → Prop} {ts : Ts} {h : Hp} (he : edgesB 0 ops = true) (vals : Nat → A) (HD : (Nat → Bool) → Hp) (h0 : HD (fun _ => false) = h)
  (hop : ∀ D i o,ops[i]? = some o → D i = false → Closed ops D → (∀ j ∈ o.after,D j = true) →
   guardP (TD ops vals ts D) o.guard (aopP P G (evX (TD ops vals ts D)) (HD D) (fun v h' => v = vals i ∧ h' = HD (fun j => j == i || D j)) o.op) (vals i = .tup [] ∧ HD (fun j => j == i || D j) = HD D))
  (hfin : K (TD ops vals ts fun j => decide (j < ops.length)) (HD fun j => decide (j < ops.length))) : adraw P G ops K ts h:=by
 refine ⟨fun D ts' h' => ts' = TD ops vals ts D ∧ h' = HD D,⟨?_,h0.symm⟩,?_,?_⟩
 ·funext x
  unfold TD
  split <;> simp
 ·rintro D i o ts' h' ⟨rfl,rfl⟩ k1 hDi hcl haf
  refine guardP_mono (fun hq => aopP_mono (fun v h' hv => ?_) hq) (fun hq => ?_) (hop D i o k1 hDi hcl haf)
  ·obtain ⟨rfl,rfl⟩:=hv
   exact ⟨put_TD he k1,rfl⟩
  ·refine ⟨?_,hq.2.symm⟩
   rw [← put_TD he k1,hq.1]
 ·rintro ts' h' ⟨rfl,rfl⟩
  exact hfin
theorem adraw_sound {ops : Array Oper} {l : List AOper} {K : Ts → Hp → Prop} {Q : Exit → Act → World → Prop} (hK : ∀ (C : Ctx) (ts : Ts) (h : Hp) (a : Act),Inv G C h → Step C0 C → RepT C ts n a → a.defers = [] → K ts h → Q .normal a C.w)
  (hc : compOpers P n true ops ops.toList = some l) (he : edgesB 0 l = true) (I : (Nat → Bool) → Ts → Hp → Prop)
  (hop : ∀ D i o ts h,I D ts h → l[i]? = some o → D i = false → Closed l D → (∀ j ∈ o.after,D j = true) →
   guardP ts o.guard (aopP P G (evX ts) h (fun v h' => I (fun j => j == i || D j) (put ts o.dst v) h') o.op) (I (fun j => j == i || D j) (put ts o.dst (.tup [])) h))
  (hfin : ∀ ts h,I (fun j => decide (j < l.length)) ts h → K ts h) :
  ∀ (fuel : Nat) (listed : Array Bool) (C : Ctx) (a : Act) (ts : Ts) (h : Hp),listed.size = ops.size → Closed l (fun j => listed.getD j false) → (listed.toList.filter (· == false)).length ≤ fuel →
   I (fun j => listed.getD j false) ts h → Inv G C h → Step C0 C → RepT C ts n a → a.defers = [] → wpAny P .any ops Q fuel listed a C.w:=by
 obtain ⟨hlen,hget⟩:=compOpers_get hc
 have hlen' : l.length = ops.size:=by rw [hlen]; simp
 have hdone : ∀ (listed : Array Bool) (C : Ctx) (a : Act) (ts : Ts) (h : Hp),listed.size = ops.size → I (fun j => listed.getD j false) ts h → Inv G C h → Step C0 C → RepT C ts n a → a.defers = [] → Region.ready .any ops listed = [] → Q .normal a C.w:=by
  intro listed C a ts h hsz hi0 hI hS hT hd hr
  have hall : ∀ j,j < ops.size → listed.getD j false = true:=by
   intro j
   induction j using Nat.strongRecOn with
   | _ j ih =>
    intro hj
    cases hlj : listed.getD j false with
    | true => rfl
    | false =>
     exfalso
     have hoj : ops[j]? = some ops[j]:=Array.getElem?_eq_getElem hj
     obtain ⟨ao,g,h1,h2,h3,h4⟩:=hget j ops[j] (by simpa using hoj)
     have : j ∈ Region.ready .any ops listed:=by
      refine mem_ready.2 ⟨?_,ops[j],hoj,fun e hem hb => ?_⟩
      ·rw [Array.getD_eq_getD_getElem?] at hlj ⊢
       rw [Array.getElem?_eq_getElem (by omega)] at hlj ⊢
       exact hlj
      ·have hlt:=edgesB_after he j _ h1 e.on (by simp only [if_true]; exact afterOf_mem.2 ⟨e,hem,hb,rfl⟩)
       exact ih e.on (by omega) (by omega)
     rw [hr] at this
     simp at this
  have hD : (fun j => listed.getD j false) = fun j => decide (j < l.length):=by
   funext j
   by_cases hj : j < ops.size
   ·rw [hall j hj]; simp [hlen',hj]
   ·rw [Array.getD_eq_getD_getElem?,Array.getElem?_eq_none (by omega)]; simp [hlen',hj]
  rw [hD] at hi0
  exact hK C _ _ a hI hS hT hd (hfin _ _ hi0)
 intro fuel
 induction fuel with
 | zero =>
  intro listed C a ts h hsz hcl hf hi0 hI hS hT hd
  have hnil : Region.ready .any ops listed = []:=by
   cases hr : Region.ready .any ops listed with
   | nil => rfl
   | cons i rs =>
    exfalso
    obtain ⟨h1,o,h2,_⟩:=mem_ready.1 (by rw [hr]; simp : i ∈ Region.ready .any ops listed)
    have hi : i < listed.size:=by rw [hsz]; exact (Array.getElem?_eq_some_iff.1 h2).1
    have : listed[i] = false:=by
     rw [Array.getD_eq_getD_getElem?,Array.getElem?_eq_getElem hi] at h1
     exact h1
    have hm : listed[i] ∈ listed.toList.filter (· == false):=List.mem_filter.2 ⟨by simp,by rw [this]; rfl⟩
    have:=List.length_pos_of_mem hm
    omega
  exact ⟨hnil,hdone listed C a ts h hsz hi0 hI hS hT hd hnil⟩
 | succ fuel ih =>
  intro listed C a ts h hsz hcl hf hi0 hI hS hT hd
  refine ⟨fun hr => hdone listed C a ts h hsz hi0 hI hS hT hd hr,fun i hi => ?_⟩
  obtain ⟨h1,o,h2,h3⟩:=mem_ready.1 hi
  have hilt : i < ops.size:=(Array.getElem?_eq_some_iff.1 h2).1
  have hil : i < listed.size:=by omega
  have hif : listed[i] = false:=by
   rw [Array.getD_eq_getD_getElem?,Array.getElem?_eq_getElem hil] at h1
   exact h1
  have hDi : listed.getD i false = false:=by rw [Array.getD_eq_getD_getElem?,Array.getElem?_eq_getElem hil]; exact hif
  obtain ⟨ao,g,k1,k2,k3,k4⟩:=hget i o (by simpa using h2)
  have hset : (fun j => (listed.setIfInBounds i true).getD j false) = fun j => j == i || listed.getD j false:=by
   funext j
   by_cases e : j = i
   ·subst e; simp [hil]
   ·rw [getD_set_ne false (fun h => e h.symm)]; simp [e]
  have hcl' : Closed l (fun j => (listed.setIfInBounds i true).getD j false):=by
   rw [hset]
   intro j oj hj hDj k hk
   simp only [Bool.or_eq_true,beq_iff_eq] at hDj ⊢
   rcases hDj with rfl | hDj
   ·rw [k1] at hj; injection hj with hj; subst hj
    simp only [if_true] at hk
    obtain ⟨e,he1,he2,rfl⟩:=afterOf_mem.1 hk
    exact .inr (h3 e he1 he2)
   ·exact .inr (hcl j oj hj hDj k hk)
  have hf' : ((listed.setIfInBounds i true).toList.filter (· == false)).length ≤ fuel:=by
   rw [Array.toList_setIfInBounds]
   have hsplit : listed.toList = listed.toList.take i ++ false :: listed.toList.drop (i + 1):=by
    have : listed.toList[i]'(by simpa using hil) = false:=by simpa using hif
    conv => lhs; rw [← List.take_append_drop i listed.toList,List.drop_eq_getElem_cons (by simpa using hil),this]
   have h4 : (listed.toList.filter (· == false)).length = ((listed.toList.take i).filter (· == false)).length + (((listed.toList.drop (i + 1)).filter (· == false)).length + 1):=by
    conv => lhs; rw [hsplit]
    simp [List.filter_append]
   rw [List.set_eq_take_append_cons_drop,if_pos (by simpa using hil)]
   simp only [List.filter_append,List.length_append]
   rw [List.filter_cons_of_neg (by simp)]
   omega
  have hgd:=hop (fun j => listed.getD j false) i _ ts h hi0 k1 hDi hcl (fun j hj => by
   simp only [if_true] at hj
   obtain ⟨e,he1,he2,rfl⟩:=afterOf_mem.1 hj
   exact h3 e he1 he2)
  unfold wpOp
  rw [h2]
  simp only
  rcases guard_cases hT k4 hgd with ⟨hw,hk⟩ | ⟨hw,hk⟩
  ·rw [if_pos hw]
   refine .inl (aop_wp' hI hT k3 hk fun C' h' v cv q1 q2 q3 q4 => ?_)
   refine ih _ C' _ (put ts o.dst v) h' (by simpa using hsz) hcl' hf' (by rw [hset]; exact q4) q1 (hS.trans q2) ?_ (by rw [put_defers]; exact hd)
   exact (hT.ext q2.ext).put k2 q3
  ·rw [if_neg (by simp [hw])]
   refine ih _ C _ (put ts o.dst (.tup [])) h (by simpa using hsz) hcl' hf' (by rw [hset]; exact hk) hI hS ?_ (by rw [put_defers]; exact hd)
   exact hT.put k2 rep_undef
theorem awp_sound (hm : P.follows .mixedOrders = true) : ∀ (c : Code) (ac : ACode),comp P n c = some ac → ∀ (Q : AExit → Ts → Hp → Prop) (ts : Ts) (h : Hp),awp P G ac Q ts h → ∀ (C : Ctx) (a : Act),Inv G C h → Step C0 C → RepT C ts n a → a.defers = [] → c.wp P (Post G C0 n Q) a C.w:=by
 intro c
 induction c with
 | skip =>
  intro ac hc Q ts h hw C a hI hS hT hd
  simp only [comp,Option.some.injEq] at hc; subst hc
  exact wp_skip ⟨C,ts,h,.normal,.normal,rfl,hI,hS,hT,hd,hw⟩
 | region id ops draw =>
  intro ac hc Q ts h hw C a hI hS hT hd
  simp only [comp] at hc
  split at hc
  rotate_left
  ·injection hc with hc; subst hc
   refine wp_mono (hw C a hI hT hd) ?_
   rintro e a' w ⟨C1,ts1,hp1,ae,hae,rfl,i1,s1,t1,d1,q1⟩
   exact ⟨C1,ts1,hp1,ae,hae,rfl,i1,hS.trans s1,t1,d1,q1⟩
  next l h1 =>
  injection hc with hc; subst hc
  have hK : ∀ (C : Ctx) (ts : Ts) (h : Hp) (a : Act),Inv G C h → Step C0 C → RepT C ts n a → a.defers = [] → Q .normal ts h → Post G C0 n Q .normal a C.w:=fun C ts h a hI hS hT hd hq => ⟨C,ts,h,.normal,.normal,rfl,hI,hS,hT,hd,hq⟩
  cases draw with
  | false => exact wp_region_list (aops_sound hK ops.toList l h1 C ts h a hI hS hT hd hw)
  | true =>
   obtain ⟨he,I,h0,hop,hfin⟩:=hw
   refine wp_region_any hm ?_
   have hlen:=(compOpers_get h1).1
   have hD : (fun j => (Array.replicate ops.size false).getD j false) = fun _ => false:=by
    funext j
    rw [Array.getD_eq_getD_getElem?]
    by_cases hj : j < ops.size
    ·simp [hj]
    ·simp [hj]
   have hb : Below C.w.heap.size C.w C.w.drew:=bdrew C.w
   obtain ⟨i1,s1⟩:=inv_below hI hb
   refine adraw_sound hK h1 he I hop hfin ops.size (Array.replicate ops.size false) (C.at C.w.drew) a ts h (by simp) ?_ (by simp [List.filter_replicate]) (by rw [hD]; exact h0) i1 (hS.trans s1) (hT.ext s1.ext) hd
   rw [hD]; intro j o _ hj; cases hj
 | seq x y ihx ihy =>
  intro ac hc Q ts h hw C a hI hS hT hd
  simp only [comp,Option.bind_eq_some_iff,Option.some.injEq] at hc
  obtain ⟨ax,h1,ay,h2,rfl⟩:=hc
  refine wp_seq (wp_mono (ihx ax h1 _ ts h hw C a hI hS hT hd) ?_)
  rintro e a' w ⟨C1,ts1,hp1,ae,hae,rfl,i1,s1,t1,d1,q1⟩
  cases hae with
  | normal => exact ihy ay h2 Q ts1 hp1 q1 C1 a' i1 s1 t1 d1
  | exit id => exact ⟨C1,ts1,hp1,.exit id,.exit id,rfl,i1,s1,t1,d1,q1⟩
  | ret => exact ⟨C1,ts1,hp1,.ret,.ret,rfl,i1,s1,t1,d1,q1⟩
 | cond b x y ihx ihy =>
  intro ac hc Q ts h hw C a hI hS hT hd
  simp only [comp,Option.bind_eq_some_iff,Option.some.injEq] at hc
  obtain ⟨ab,h0,ax,h1,ay,h2,rfl⟩:=hc
  simp only [awp] at hw
  have hr:=rep_opd hT h0
  cases hb : evX ts ab with
  | bool t =>
   rw [hb] at hw hr
   rw [rep_bool] at hr
   refine wp_cond_split hr (fun ht => ?_) (fun ht => ?_)
   ·exact ihx ax h1 Q ts h (hw.1 ht) C a hI hS hT hd
   ·exact ihy ay h2 Q ts h (hw.2 ht) C a hI hS hT hd
  | _ => rw [hb] at hw; exact hw.elim
 | block id x ihx =>
  intro ac hc Q ts h hw C a hI hS hT hd
  simp only [comp,Option.bind_eq_some_iff,Option.some.injEq] at hc
  obtain ⟨ax,h1,rfl⟩:=hc
  refine wp_block (wp_mono (ihx ax h1 _ ts h hw C a hI hS hT hd) ?_)
  rintro e a' w ⟨C1,ts1,hp1,ae,hae,rfl,i1,s1,t1,d1,q1⟩
  cases hae with
  | normal => exact ⟨C1,ts1,hp1,.normal,.normal,rfl,i1,s1,t1,d1,q1⟩
  | exit id' =>
   simp only [blkA] at q1
   show if id' = id then _ else _
   split at q1
   ·next e => rw [if_pos e]; exact ⟨C1,ts1,hp1,.normal,.normal,rfl,i1,s1,t1,d1,q1⟩
   ·next e => rw [if_neg e]; exact ⟨C1,ts1,hp1,.exit id',.exit id',rfl,i1,s1,t1,d1,q1⟩
  | ret => exact ⟨C1,ts1,hp1,.ret,.ret,rfl,i1,s1,t1,d1,q1⟩
 | loop x ihx =>
  intro ac hc Q ts h hw C a hI hS hT hd
  simp only [comp,Option.bind_eq_some_iff,Option.some.injEq] at hc
  obtain ⟨ax,h1,rfl⟩:=hc
  obtain ⟨k,hk⟩:=hw
  refine wp_loop_rounds k ?_
  revert ts h C a
  induction k with
  | zero => intro ts h C a hI hS hT hd hk; exact hk.elim
  | succ k ih =>
   intro ts h C a hI hS hT hd hk
   refine wp_mono (ihx ax h1 _ ts h hk C a hI hS hT hd) ?_
   rintro e a' w ⟨C1,ts1,hp1,ae,hae,rfl,i1,s1,t1,d1,q1⟩
   cases hae with
   | normal => exact ih ts1 hp1 C1 a' i1 s1 t1 d1 q1
   | exit id => exact ⟨C1,ts1,hp1,.exit id,.exit id,rfl,i1,s1,t1,d1,q1⟩
   | ret => exact ⟨C1,ts1,hp1,.ret,.ret,rfl,i1,s1,t1,d1,q1⟩
 | exit id =>
  intro ac hc Q ts h hw C a hI hS hT hd
  simp only [comp,Option.some.injEq] at hc; subst hc
  exact wp_exit ⟨C,ts,h,.exit id,.exit id,rfl,hI,hS,hT,hd,hw⟩
 | ret =>
  intro ac hc Q ts h hw C a hI hS hT hd
  simp only [comp,Option.some.injEq] at hc; subst hc
  exact wp_ret ⟨C,ts,h,.ret,.ret,rfl,hI,hS,hT,hd,hw⟩
 | _ =>
  intro ac hc Q ts h hw
  simp only [comp,Option.some.injEq] at hc
  subst hc
  exact hw.elim
end
end AX
end Go.Proofs.YteklhoajalgehaaGreatDoor

namespace Go.Proofs.YteklhoajalgehaaGreatDoor
open Go.RowKit
namespace AX
def le1 : A → A → Prop
 | .sl W o rows,.sl W' o' rows' => rows = rows' ∧ (W = W' ∨ rows' = []) ∧ (o' = .no ∨ o' = o ∧ W = W')
 | x,y => x = y
def leL : List A → List A → Prop
 | [],[] => True
 | x :: l,y :: m => le1 x y ∧ leL l m
 | _,_ => False
def le2 : A → A → Prop
 | .agg l,.agg m => leL l m
 | x,y => le1 x y
def leL2 : List A → List A → Prop
 | [],[] => True
 | x :: l,y :: m => le2 x y ∧ leL2 l m
 | _,_ => False
def le : A → A → Prop
 | .tup l,.tup m => leL2 l m
 | x,y => le2 x y
section
variable {C : Ctx}
theorem rep_le1 {x y : A} {v : Value} (h : le1 x y) (hr : Rep C x v) : Rep C y v:=by
 unfold le1 at h
 split at h
 ·next W o rows W' o' rows' =>
  obtain ⟨rfl,h1,h2⟩:=h
  obtain ⟨a,cap,e,h3,h4,h5⟩:=rep_sl.1 hr
  refine rep_sl.2 ⟨a,cap,e,h3,?_,?_⟩
  ·rcases h1 with rfl | rfl
   ·exact h4
   ·unfold RepRows; trivial
  ·rcases h2 with rfl | ⟨rfl,rfl⟩
   ·trivial
   ·exact h5
 ·subst h; exact hr
theorem repL_le : ∀ {l m : List A} {cs : List Value},leL l m → RepL C l cs → RepL C m cs
 | [],[],cs,_,hr => hr
 | x :: l,y :: m,cs,h,hr => by
  obtain ⟨c,cs',rfl,h1,h2⟩:=repL_cons.1 hr
  exact repL_cons.2 ⟨c,cs',rfl,rep_le1 h.1 h1,repL_le h.2 h2⟩
 | [],y :: m,cs,h,hr => h.elim
 | x :: l,[],cs,h,hr => h.elim
theorem rep_le2 {x y : A} {v : Value} (h : le2 x y) (hr : Rep C x v) : Rep C y v:=by
 unfold le2 at h
 split at h
 ·obtain ⟨cs,e,h1⟩:=rep_agg.1 hr
  exact rep_agg.2 ⟨cs,e,repL_le h h1⟩
 ·exact rep_le1 h hr
theorem repL_le2 : ∀ {l m : List A} {cs : List Value},leL2 l m → RepL C l cs → RepL C m cs
 | [],[],cs,_,hr => hr
 | x :: l,y :: m,cs,h,hr => by
  obtain ⟨c,cs',rfl,h1,h2⟩:=repL_cons.1 hr
  exact repL_cons.2 ⟨c,cs',rfl,rep_le2 h.1 h1,repL_le2 h.2 h2⟩
 | [],y :: m,cs,h,hr => h.elim
 | x :: l,[],cs,h,hr => h.elim
theorem rep_le {x y : A} {v : Value} (h : le x y) (hr : Rep C x v) : Rep C y v:=by
 unfold le at h
 split at h
 ·obtain ⟨cs,e,h1⟩:=rep_tup.1 hr
  exact rep_tup.2 ⟨cs,e,repL_le2 h h1⟩
 ·exact rep_le2 h hr
theorem le1_refl (x : A) : le1 x x:=by
 unfold le1
 split
 ·exact ⟨rfl,.inl rfl,.inr ⟨rfl,rfl⟩⟩
 ·rfl
theorem leL_refl : ∀ l : List A,leL l l
 | [] => trivial
 | x :: l => ⟨le1_refl x,leL_refl l⟩
theorem le2_refl (x : A) : le2 x x:=by
 unfold le2
 split
 ·exact leL_refl _
 ·exact le1_refl x
theorem leL2_refl : ∀ l : List A,leL2 l l
 | [] => trivial
 | x :: l => ⟨le2_refl x,leL2_refl l⟩
theorem le_refl (x : A) : le x x:=by
 unfold le
 split
 ·exact leL2_refl _
 ·exact le2_refl x
end
theorem ACall.args {P : Program} {G : World → Prop} {f : FuncId} {as as' : List A} {h : Hp} {K : A → Hp → Prop} (hle : leL2 as as') (hc : ACall P G f as' h K) : ACall P G f as h K:=
 fun C cs hI hr => hc C cs hI (repL_le2 hle hr)
inductive ARes where
 | t (n : Nat)
 | c (n : Nat) (agg : Bool) (size : Nat)
def compRes (P : Program) (n : Nat) : List ResultVar → Option (List ARes)
 | [] => some []
 | .tmp t :: rs => if t < n then (compRes P n rs).bind fun l => some (.t t :: l) else none
 | .cell t T :: rs => if t < n then (P.underlying T).bind fun d => (P.info? T).bind fun i => if isAggB d = true ∨ i.size = 1 then (compRes P n rs).bind fun l => some (.c t (isAggB d) i.size :: l) else none else none
def resA (ts : Ts) (h : Hp) : List ARes → Option (List A)
 | [] => some []
 | .t t :: rs => (resA ts h rs).bind fun l => some (ts t :: l)
 | .c t g n :: rs => (loadA h g n (ts t)).bind fun v => (resA ts h rs).bind fun l => some (v :: l)
def tupA : List A → A
 | [v] => v
 | l => .tup l
def finO (r : Option (List A)) (Q : A → Hp → Prop) (h : Hp) : Prop:=
 match r with
 | some l => ∃ v,le (tupA l) v ∧ Q v h
 | none => False
def finP (rs : List ARes) (Q : A → Hp → Prop) (ts : Ts) (h : Hp) : Prop:=finO (resA ts h rs) Q h
def finQ (rs : List ARes) (Q : A → Hp → Prop) : AExit → Ts → Hp → Prop
 | .normal => finP rs Q
 | .ret => finP rs Q
 | .exit _ => fun _ _ => False
structure AFn where
 n : Nat
 code : ACode
 res : List ARes
def compFn (P : Program) (f : FuncId) : Option AFn:=
 match P.funcs[f]? with
 | some fn => (fn.body).bind fun c => (comp P fn.ntmps c).bind fun ac => (compRes P fn.ntmps fn.results.toList).bind fun rs => some ⟨fn.ntmps,ac,rs⟩
 | none => none
def initTs (args : List A) : Ts:=fun i => args.getD i (.tup [])
section
variable {P : Program} {G : World → Prop} {n : Nat}
def resOf (tmps : Array Value) : ResultVar → Sem Value
 | .tmp t => pure (tmps.getD t undef)
 | .cell b t => do loadVar t (← asAddr (tmps.getD b undef))
theorem results_eq (g : Func) (tmps : Array Value) : results g tmps = (g.results.mapM (resOf tmps) >>= fun vs => pure (if h : vs.size = 1 then vs[0] else .tuple vs)):=by
 unfold results
 congr 1
theorem rep_res {C : Ctx} {h : Hp} {ts : Ts} {a : Act} (hI : Inv G C h) (hT : RepT C ts n a) : ∀ (rs : List ResultVar) (rl : List ARes) (l : List A),compRes P n rs = some rl → resA ts h rl = some l →
  ∃ vs : List Value,(rs.mapM (resOf a.tmps)).run P C.w = Result.ok vs C.w ∧ RepL C l vs
 | [],rl,l,hc,hr => by
  simp only [compRes,Option.some.injEq] at hc; subst hc
  simp only [resA,Option.some.injEq] at hr; subst hr
  exact ⟨[],by simp,repL_nil.2 rfl⟩
 | .tmp t :: rs,rl,l,hc,hr => by
  simp only [compRes,Option.ite_none_right_eq_some,Option.bind_eq_some_iff,Option.some.injEq] at hc
  obtain ⟨hlt,rl',h1,rfl⟩:=hc
  simp only [resA,Option.bind_eq_some_iff,Option.some.injEq] at hr
  obtain ⟨l',h2,rfl⟩:=hr
  obtain ⟨vs,k1,k2⟩:=rep_res hI hT rs rl' l' h1 h2
  exact ⟨_ :: vs,by simp [List.mapM_cons,k1,resOf],repL_cons.2 ⟨_,vs,rfl,hT.rep t hlt,k2⟩⟩
 | .cell t T :: rs,rl,l,hc,hr => by
  simp only [compRes,Option.ite_none_right_eq_some,Option.bind_eq_some_iff,Option.some.injEq] at hc
  obtain ⟨hlt,d,hd,i,hi,h1,rl',h2,rfl⟩:=hc
  simp only [resA,Option.bind_eq_some_iff,Option.some.injEq] at hr
  obtain ⟨v,h3,l',h4,rfl⟩:=hr
  obtain ⟨vs,k1,k2⟩:=rep_res hI hT rs rl' l' h2 h4
  obtain ⟨ad,cv,e,hrun,hv⟩:=load_run hI hd hi h1 (hT.rep t hlt) h3
  rw [e] at hrun
  have hrun' : (loadVar T ad).run P C.w = .ok cv C.w:=by
   unfold Instr.loadAt at hrun
   simpa [Instr.sureAddr] using hrun
  refine ⟨cv :: vs,?_,repL_cons.2 ⟨cv,vs,rfl,hv,k2⟩⟩
  simp [List.mapM_cons,resOf,e,asAddr,hrun',k1]
theorem acall_of (hm : P.follows .mixedOrders = true) {f : FuncId} {fn : AFn} {args : List A} {h : Hp} {Q : A → Hp → Prop} (hf : compFn P f = some fn) (hl : args.length ≤ fn.n) (hw : awp P G fn.code (finQ fn.res Q) (initTs args) h) : ACall P G f args h Q:=by
 unfold compFn at hf
 split at hf
 ·next g hg =>
  simp only [Option.bind_eq_some_iff,Option.some.injEq] at hf
  obtain ⟨c,hb,ac,hc,rs,hr,rfl⟩:=hf
  intro C cs hI hargs
  have hcl:=repL_length hargs
  refine calls_of_wp hg hb ?_
  have hT : RepT C (initTs args) g.ntmps { tmps:=cs.toArray ++ Array.replicate (g.ntmps - cs.toArray.size) undef,defers:=[] }:=by
   simp only at hl
   refine ⟨by simp; omega,fun i hi => ?_⟩
   unfold initTs
   rw [Array.getD_eq_getD_getElem?]
   by_cases hlt : i < cs.length
   ·have hx : args[i]? = some args[i]:=List.getElem?_eq_getElem (by omega)
    obtain ⟨v,k1,k2⟩:=repL_get hargs i _ hx
    rw [Array.getElem?_append_left (by simpa using hlt)]
    simp only [List.getElem?_toArray,k1,Option.getD_some]
    simpa [List.getD,hx] using k2
   ·rw [Array.getElem?_append_right (by simp; omega)]
    rw [List.getD_eq_getElem?_getD,List.getElem?_eq_none (by omega)]
    rw [Array.getElem?_replicate]
    split
    ·exact rep_undef
    ·exact rep_undef
  have key:=awp_sound (C0:=C) hm c ac hc _ _ _ hw C _ hI (Step.refl C) hT rfl
  refine wp_mono key ?_
  rintro e a' w ⟨C1,ts1,h1,ae,hae,rfl,i1,s1,t1,d1,q1⟩
  have fin : finP rs Q ts1 h1 → a'.defers = [] ∧ ∃ v,(results g a'.tmps).run P C1.w = .ok v C1.w ∧ ∃ (C' : Ctx) (h' : Hp) (u : A) (cv : Value),Ending.returned v = .returned cv ∧ C'.w = C1.w ∧ Inv G C' h' ∧ Step C C' ∧ Rep C' u cv ∧ Q u h':=by
   intro hq
   unfold finP finO at hq
   split at hq
   ·next l hl' =>
    obtain ⟨u,hu,hQ⟩:=hq
    obtain ⟨vs,k1,k2⟩:=rep_res i1 t1 g.results.toList rs l hr hl'
    have hvl:=repL_length k2
    refine ⟨d1,_,?_,C1,h1,u,if hh : vs.toArray.size = 1 then vs.toArray[0] else .tuple vs.toArray,rfl,rfl,i1,s1,rep_le hu ?_,hQ⟩
    ·have hmap : (g.results.mapM (resOf a'.tmps)).run P C1.w = .ok vs.toArray C1.w:=by
      rw [← Array.toArray_toList (xs:=g.results),List.mapM_toArray]
      simp [k1]
     rw [results_eq,Sem.run_bind,hmap]
     rfl
    ·split
     ·next h1' =>
      have : vs.length = 1:=by simpa using h1'
      match l,vs,k2,hvl,this with
      | [x],[v],k2,_,_ =>
       obtain ⟨c,cs',e,r1,_⟩:=repL_cons.1 k2
       injection e with e1 e2; subst e1
       exact r1
     ·next h1' =>
      have hne : l.length ≠ 1:=by rw [← hvl]; simpa using h1'
      have : tupA l = .tup l:=by
       unfold tupA
       split
       ·simp at hne
       ·rfl
      rw [this]
      exact rep_tup.2 ⟨vs,rfl,k2⟩
   ·exact hq.elim
  cases hae with
  | normal => exact fin q1
  | ret => exact fin q1
  | exit id => exact q1.elim
 ·cases hf
end
end AX
end Go.Proofs.YteklhoajalgehaaGreatDoor

namespace Go.Proofs.YteklhoajalgehaaGreatDoor
open Go.RowKit
namespace AX
section
variable {P : Program} {G : World → Prop}
theorem aops_mono {K K' : Ts → Hp → Prop} (hk : ∀ ts h,K ts h → K' ts h) : ∀ (l : List AOper) (ts : Ts) (h : Hp),aops P G l K ts h → aops P G l K' ts h
 | [],ts,h,hp => hk _ _ hp
 | o :: l,ts,h,hp => guardP_mono (aopP_mono fun v h' => aops_mono hk l _ h') (aops_mono hk l _ h) hp
theorem adraw_mono {K K' : Ts → Hp → Prop} (hk : ∀ ts h,K ts h → K' ts h) {l : List AOper} {ts : Ts} {h : Hp} (hp : adraw P G l K ts h) : adraw P G l K' ts h:=by
 obtain ⟨I,h1,h2,h3⟩:=hp
 exact ⟨I,h1,h2,fun ts h hi => hk _ _ (h3 ts h hi)⟩
theorem thenA_mono {K K' : Ts → Hp → Prop} {Q Q' : AExit → Ts → Hp → Prop} (hk : ∀ ts h,K ts h → K' ts h) (hq : ∀ e ts h,Q e ts h → Q' e ts h) : ∀ e ts h,thenA K Q e ts h → thenA K' Q' e ts h:=by
 intro e ts h hp
 cases e with
 | normal => exact hk _ _ hp
 | exit id => exact hq _ _ _ hp
 | ret => exact hq _ _ _ hp
theorem awp_mono : ∀ (c : ACode) (Q Q' : AExit → Ts → Hp → Prop),(∀ e ts h,Q e ts h → Q' e ts h) → ∀ ts h,awp P G c Q ts h → awp P G c Q' ts h:=by
 intro c
 induction c with
 | skip => intro Q Q' hq ts h hp; exact hq _ _ _ hp
 | reg d l =>
  intro Q Q' hq ts h hp
  cases d with
  | false => exact aops_mono (hq .normal) l ts h hp
  | true => exact ⟨hp.1,adraw_mono (hq .normal) hp.2⟩
 | seq x y ihx ihy => intro Q Q' hq ts h hp; exact ihx _ _ (thenA_mono (ihy _ _ hq) hq) ts h hp
 | cond b x y ihx ihy =>
  intro Q Q' hq ts h hp
  simp only [awp] at hp ⊢
  generalize evX ts b = v at *
  cases v with
  | bool t => exact ⟨fun e => ihx _ _ hq _ _ (hp.1 e),fun e => ihy _ _ hq _ _ (hp.2 e)⟩
  | _ => exact hp.elim
 | block id x ih =>
  intro Q Q' hq ts h hp
  refine ih _ _ (fun e ts h hp => ?_) ts h hp
  cases e with
  | normal => exact hq _ _ _ hp
  | exit id' =>
   simp only [blkA] at hp ⊢
   split at hp
   ·next e => rw [if_pos e]; exact hq _ _ _ hp
   ·next e => rw [if_neg e]; exact hq _ _ _ hp
  | ret => exact hq _ _ _ hp
 | loop x ih =>
  intro Q Q' hq ts h hp
  obtain ⟨k,hk⟩:=hp
  refine ⟨k,?_⟩
  revert ts h
  induction k with
  | zero => intro ts h hk; exact hk
  | succ k ihk => intro ts h hk; exact ih _ _ (thenA_mono (fun ts h => ihk ts h) hq) ts h hk
 | exit id => intro Q Q' hq ts h hp; exact hq _ _ _ hp
 | ret => intro Q Q' hq ts h hp; exact hq _ _ _ hp
 | prim n c =>
  intro Q Q' hq ts h hp C a hI hT hd
  refine wp_mono (hp C a hI hT hd) ?_
  rintro e a' w ⟨C1,ts1,hp1,ae,hae,rfl,i1,s1,t1,d1,q1⟩
  exact ⟨C1,ts1,hp1,ae,hae,rfl,i1,s1,t1,d1,hq _ _ _ q1⟩
theorem aloop_succ (c : ACode) (Q : AExit → Ts → Hp → Prop) : ∀ (k : Nat) (ts : Ts) (h : Hp),aloop (awp P G c) Q k ts h → aloop (awp P G c) Q (k + 1) ts h
 | 0,ts,h,hp => hp.elim
 | k + 1,ts,h,hp => awp_mono c _ _ (thenA_mono (fun ts h => aloop_succ c Q k ts h) fun _ _ _ h => h) ts h hp
theorem aloop_le (c : ACode) (Q : AExit → Ts → Hp → Prop) {k m : Nat} (hkm : k ≤ m) (ts : Ts) (h : Hp) (hp : aloop (awp P G c) Q k ts h) : aloop (awp P G c) Q m ts h:=by
 induction hkm with
 | refl => exact hp
 | step _ ih => exact aloop_succ c Q _ ts h ih
theorem awp_loop {c : ACode} {Q : AExit → Ts → Hp → Prop} {ts : Ts} {h : Hp} (I : Nat → Ts → Hp → Prop) (m : Nat) (h0 : I m ts h) (hr : ∀ m ts h,I m ts h → awp P G c (thenA (fun ts' h' => ∃ m',m' < m ∧ I m' ts' h') Q) ts h) : awp P G (.loop c) Q ts h:=by
 refine ⟨m + 1,?_⟩
 revert ts h
 induction m using Nat.strongRecOn with
 | _ m ih =>
  intro ts h h0
  refine awp_mono c _ _ (thenA_mono (fun ts' h' hp => ?_) fun _ _ _ h => h) ts h (hr m ts h h0)
  obtain ⟨m',h1,h2⟩:=hp
  exact aloop_le c Q h1 ts' h' (ih m' h1 h2)
def opnds : AOp → List Opd
 | .mv x => [x]
 | .pick c a b => [c,a,b]
 | .alloc .. => []
 | .box _ x => [x]
 | .build _ ps => ps.map fun p => p.2.2
 | .mks _ ps => ps
 | .mkr _ _ ps => ps
 | .mkl _ _ ps => ps
 | .slsl _ x lo hi => x :: (lo.toList ++ hi.toList)
 | .load _ _ p => [p]
 | .store _ p x => [p,x]
 | .nilck x => [x]
 | .faddr _ x => [x]
 | .iaddr _ x i => [x,i]
 | .sidx x i => [x,i]
 | .ssl x lo hi => x :: (lo.toList ++ hi.toList)
 | .len _ x => [x]
 | .app _ _ _ x y => [x,y]
 | .bin _ x y => [x,y]
 | .eq _ _ _ x y => [x,y]
 | .un _ x => [x]
 | .conv _ x => [x]
 | .extract x _ => [x]
 | .max3 x y z => [x,y,z]
 | .mkfn _ caps => caps
 | .mkmap => []
 | .mget _ _ m k => [m,k]
 | .mset m k x => [m,k,x]
 | .mdel m k => [m,k]
 | .mclr m => [m]
 | .mlen m => [m]
 | .mm _ x y => [x,y]
 | .call _ args => args
 | .callv x args => x :: args
theorem fillA_congr {ev ev' : Opd → A} : ∀ (ps : List (Nat × Nat × Opd)) (z : List A),(∀ p ∈ ps,ev p.2.2 = ev' p.2.2) → fillA ev z ps = fillA ev' z ps
 | [],z,h => rfl
 | (o,n,x) :: ps,z,h => by
  have h1:=h (o,n,x) (by simp)
  simp only at h1
  simp only [fillA,h1]
  split
  ·exact fillA_congr ps _ fun p hp => h p (by simp [hp])
  ·rfl
theorem rowsA_congr {ev ev' : Opd → A} (W : Nat) : ∀ (ps : List Opd),(∀ p ∈ ps,ev p = ev' p) → rowsA ev W ps = rowsA ev' W ps
 | [],h => rfl
 | x :: ps,h => by
  have h1:=h x (by simp)
  simp only [rowsA,h1]
  rw [rowsA_congr W ps fun p hp => h p (by simp [hp])]
theorem rowsR_congr {ev ev' : Opd → A} (W : Nat) : ∀ (ps : List Opd),(∀ p ∈ ps,ev p = ev' p) → rowsR ev W ps = rowsR ev' W ps
 | [],h => rfl
 | x :: ps,h => by
  have h1:=h x (by simp)
  simp only [rowsR,h1]
  rw [rowsR_congr W ps fun p hp => h p (by simp [hp])]
theorem astep_congr {ev ev' : Opd → A} {h : Hp} {o : AOp} (he : ∀ x ∈ opnds o,ev x = ev' x) : astep ev h o = astep ev' h o:=by
 cases o with
 | build z ps =>
  simp only [astep]
  rw [fillA_congr ps z fun p hp => he _ (List.mem_map.2 ⟨p,hp,rfl⟩)]
 | mks W ps =>
  simp only [astep]
  rw [rowsA_congr W ps he]
 | mkr E W ps =>
  simp only [astep]
  rw [rowsR_congr W ps he]
 | mkl E W ps =>
  simp only [astep]
  rw [rowsA_congr W ps he]
 | slsl W x lo hi =>
  have h1:=he x (by simp [opnds])
  have h2 : lo.map ev = lo.map ev':=by
   cases lo with
   | none => rfl
   | some l => simp only [Option.map_some]; rw [he l (by simp [opnds])]
  have h3 : hi.map ev = hi.map ev':=by
   cases hi with
   | none => rfl
   | some l => simp only [Option.map_some]; rw [he l (by simp [opnds])]
  simp only [astep,h1,h2,h3]
 | mkfn f caps =>
  simp only [opnds] at he
  simp only [astep]
  rw [List.map_congr_left he]
 | ssl x lo hi =>
  have h1:=he x (by simp [opnds])
  have h2 : lo.map ev = lo.map ev':=by
   cases lo with
   | none => rfl
   | some l => simp only [Option.map_some]; rw [he l (by simp [opnds])]
  have h3 : hi.map ev = hi.map ev':=by
   cases hi with
   | none => rfl
   | some l => simp only [Option.map_some]; rw [he l (by simp [opnds])]
  simp only [astep,h1,h2,h3]
 | alloc => rfl
 | mkmap => rfl
 | call => rfl
 | callv => rfl
 | _ =>
  simp only [opnds,List.mem_cons,List.not_mem_nil,or_false,forall_eq_or_imp,forall_eq] at he
  simp only [astep,he]
theorem aopP_congr {ev ev' : Opd → A} {h : Hp} {K : A → Hp → Prop} {o : AOp} (he : ∀ x ∈ opnds o,ev x = ev' x) (hp : aopP P G ev h K o) : aopP P G ev' h K o:=by
 cases o with
 | call f args =>
  simp only [opnds] at he
  show ACall P G f (args.map ev') h K
  rw [← List.map_congr_left he]
  exact hp
 | callv x args =>
  obtain ⟨f,caps,h1,h2,h3⟩:=hp
  refine ⟨f,caps,by rw [← he x (by simp [opnds])]; exact h1,h2,?_⟩
  rw [← List.map_congr_left fun y hy => he y (by simp [opnds,hy])]
  exact h3
 | _ =>
  have hs:=astep_congr (h:=h) he
  simp only [aopP] at hp ⊢
  rw [← hs]; exact hp
def aopQ (P : Program) (G : World → Prop) (ev : Opd → A) (h : Hp) (K : A → Prop) : AOp → Prop
 | .call f args => ∃ v,ACall P G f (args.map ev) h (fun v' h' => v' = v ∧ h' = h) ∧ K v
 | .callv x args => ∃ v f caps,ev x = .fn f caps ∧ callOk P f = true ∧ ACall P G f (args.map ev ++ caps) h (fun v' h' => v' = v ∧ h' = h) ∧ K v
 | op => optP (astep ev h op) fun v h' => h' = h ∧ K v
def aquiet (P : Program) (G : World → Prop) (h : Hp) : List AOper → (Ts → Prop) → Ts → Prop
 | [],K,ts => K ts
 | o :: os,K,ts => guardP ts o.guard (aopQ P G (evX ts) h (fun v => aquiet P G h os K (put ts o.dst v)) o.op) (aquiet P G h os K (put ts o.dst (.tup [])))
theorem aopQ_val {ev : Opd → A} {h : Hp} {K : A → Prop} {o : AOp} (hp : aopQ P G ev h K o) : ∃ v,aopP P G ev h (fun v' h' => v' = v ∧ h' = h) o ∧ K v:=by
 cases o with
 | call f args =>
  obtain ⟨v,h1,h2⟩:=hp
  exact ⟨v,h1,h2⟩
 | callv x args =>
  obtain ⟨v,f,caps,h0,h1,h2,h3⟩:=hp
  exact ⟨v,⟨f,caps,h0,h1,h2⟩,h3⟩
 | _ =>
  simp only [aopQ] at hp
  simp only [aopP]
  generalize astep ev h _ = r at hp ⊢
  cases r with
  | none => exact hp.elim
  | some r =>
   obtain ⟨v,h'⟩:=r
   exact ⟨v,⟨rfl,hp.1⟩,hp.2⟩
def seesT (o : AOper) : List Nat:=((opnds o.op).filterMap fun x => match x with | .t n => some n | .c _ => none) ++ (match o.guard with | some (t,_) => [t] | none => [])
def seesB (ops : List AOper) : Bool:=
 ops.zipIdx.all fun (o,i) => (seesT o).all fun x => ops.zipIdx.all fun (o',j) => o'.dst != some x || i == j || o.after.contains j || o'.after.contains i
def pre : Ts → List AOper → (Nat → A) → Nat → Ts
 | ts,_,_,0 => ts
 | ts,[],_,_ + 1 => ts
 | ts,o :: os,vs,i + 1 => pre (put ts o.dst (vs 0)) os (fun k => vs (k + 1)) i
theorem aquiet_trace {h : Hp} {K : Ts → Prop} : ∀ (os : List AOper) (ts : Ts),aquiet P G h os K ts →
  ∃ vs : Nat → A,(∀ (i : Nat) (o : AOper),os[i]? = some o → guardP (pre ts os vs i) o.guard (aopP P G (evX (pre ts os vs i)) h (fun v' h' => v' = vs i ∧ h' = h) o.op) (vs i = .tup [])) ∧ K (pre ts os vs os.length)
 | [],ts,hp => ⟨fun _ => .tup [],fun i o hi => by simp at hi,hp⟩
 | o :: os,ts,hp => by
  have key : ∃ v,guardP ts o.guard (aopP P G (evX ts) h (fun v' h' => v' = v ∧ h' = h) o.op) (v = .tup []) ∧ aquiet P G h os K (put ts o.dst v):=by
   simp only [aquiet] at hp
   cases hg : o.guard with
   | none =>
    rw [hg] at hp
    obtain ⟨v,h1,h2⟩:=aopQ_val hp
    exact ⟨v,h1,h2⟩
   | some tb =>
    obtain ⟨t,b⟩:=tb
    rw [hg] at hp
    simp only [guardP] at hp ⊢
    split at hp
    ·next c e =>
     by_cases hcb : c = b
     ·obtain ⟨v,h1,h2⟩:=aopQ_val (hp.1 hcb)
      refine ⟨v,⟨fun _ => h1,fun hc => ?_⟩,h2⟩
      rw [hcb] at hc; cases b <;> cases hc
     ·have hcb' : c = !b:=by cases c <;> cases b <;> simp_all
      exact ⟨.tup [],⟨fun hc => absurd hc hcb,fun _ => rfl⟩,hp.2 hcb'⟩
    ·next e => exact ⟨.tup [],rfl,hp⟩
    ·exact hp.elim
  obtain ⟨v,h1,h2⟩:=key
  obtain ⟨vs,h3,h4⟩:=aquiet_trace os _ h2
  refine ⟨fun i => match i with | 0 => v | i + 1 => vs i,fun i o' hi => ?_,h4⟩
  cases i with
  | zero => simp at hi; subst hi; exact h1
  | succ i => exact h3 i o' (by simpa using hi)
theorem findIdx_none {os : List AOper} {d : Nat} (h : (os.all fun o' => o'.dst != some d) = true) : os.findIdx? (fun o => o.dst == some d) = none:=by
 rw [List.findIdx?_eq_none_iff]
 intro o ho
 have:=List.all_eq_true.1 h o ho
 simpa using this
theorem pre_eq : ∀ (os : List AOper) (k : Nat) (ts : Ts) (vs : Nat → A) (i : Nat),edgesB k os = true → i ≤ os.length → ∀ x,pre ts os vs i x = TD os vs ts (fun j => decide (j < i)) x
 | [],k,ts,vs,0,he,hi,x => rfl
 | [],k,ts,vs,i + 1,he,hi,x => by simp at hi
 | o :: os,k,ts,vs,0,he,hi,x => by
  unfold TD pre
  split <;> simp
 | o :: os,k,ts,vs,i + 1,he,hi,x => by
  simp only [edgesB,Bool.and_eq_true] at he
  rw [pre,pre_eq os (k + 1) _ _ i he.2 (by simpa using hi) x]
  unfold TD
  rw [List.findIdx?_cons]
  cases hd : o.dst with
  | none =>
   have e : ((none : Option Nat) == some x) = false:=rfl
   rw [e]
   simp only [Bool.false_eq_true,if_false]
   cases hf : os.findIdx? (fun o => o.dst == some x) with
   | none => simp [put]
   | some j => simp [put]
  | some d =>
   by_cases hdx : d = x
   ·subst hdx
    have h2:=he.1.2
    rw [hd] at h2
    rw [findIdx_none h2]
    simp [put]
   ·have e : ((some d : Option Nat) == some x) = false:=by simp [hdx]
    rw [e]
    simp only [Bool.false_eq_true,if_false]
    cases hf : os.findIdx? (fun o => o.dst == some x) with
    | none => simp [put,Ne.symm hdx]
    | some j => simp [put,Ne.symm hdx]
theorem seesB_spec {ops : List AOper} (hs : seesB ops = true) : ∀ (i : Nat) (o : AOper),ops[i]? = some o → ∀ x ∈ seesT o,∀ (j : Nat) (o' : AOper),ops[j]? = some o' → o'.dst = some x → i = j ∨ j ∈ o.after ∨ i ∈ o'.after:=by
 intro i o hi x hx j o' hj hd
 unfold seesB at hs
 have h1:=List.all_eq_true.1 hs (o,i) (List.mk_mem_zipIdx_iff_getElem?.2 hi)
 have h2:=List.all_eq_true.1 h1 x hx
 have h3:=List.all_eq_true.1 h2 (o',j) (List.mk_mem_zipIdx_iff_getElem?.2 hj)
 simp only [Bool.or_eq_true,bne_iff_ne,ne_eq,beq_iff_eq,List.contains_iff_mem] at h3
 rcases h3 with ((h3 | h3) | h3) | h3
 ·exact absurd hd h3
 ·exact .inl h3
 ·exact .inr (.inl h3)
 ·exact .inr (.inr h3)
theorem TD_sees {ops : List AOper} (he : edgesB 0 ops = true) (hs : seesB ops = true) {D : Nat → Bool} {i : Nat} {o : AOper} (hi : ops[i]? = some o) (hDi : D i = false) (hcl : Closed ops D) (haf : ∀ j ∈ o.after,D j = true) (vs : Nat → A) (ts : Ts) :
  ∀ x ∈ seesT o,TD ops vs ts D x = TD ops vs ts (fun j => decide (j < i)) x:=by
 intro x hx
 unfold TD
 cases hf : ops.findIdx? (fun o => o.dst == some x) with
 | none => rfl
 | some j =>
  obtain ⟨hj,hj2,_⟩:=List.findIdx?_eq_some_iff_getElem.1 hf
  have hoj : ops[j]? = some ops[j]:=List.getElem?_eq_getElem hj
  have hdx : ops[j].dst = some x:=by simpa using hj2
  rcases seesB_spec hs i o hi x hx j _ hoj hdx with rfl | h1 | h1
  ·simp [hDi]
  ·have h2:=edgesB_after he i o hi j h1
   have h3 : j < i:=by omega
   simp [haf j h1,h3]
  ·have h2:=edgesB_after he j _ hoj i h1
   have h3 : ¬ j < i:=by omega
   have h4 : D j = false:=by
    cases hDj : D j with
    | false => rfl
    | true => rw [hcl j _ hoj hDj i h1] at hDi; cases hDi
   simp [h4,h3]
theorem evX_sees {o : AOper} {ts ts' : Ts} (h : ∀ x ∈ seesT o,ts x = ts' x) : ∀ y ∈ opnds o.op,evX ts y = evX ts' y:=by
 intro y hy
 cases y with
 | c a => rfl
 | t n =>
  refine h n (List.mem_append_left _ (List.mem_filterMap.2 ⟨.t n,hy,rfl⟩))
theorem guardP_sees {o : AOper} {ts ts' : Ts} {p q : Prop} (h : ∀ x ∈ seesT o,ts x = ts' x) (hp : guardP ts o.guard p q) : guardP ts' o.guard p q:=by
 cases hg : o.guard with
 | none => rw [hg] at hp; exact hp
 | some tb =>
  obtain ⟨t,b⟩:=tb
  rw [hg] at hp
  simp only [guardP] at hp ⊢
  rw [← h t (List.mem_append_right _ (by rw [hg]; simp))]
  exact hp
theorem adraw_quiet {ops : List AOper} {K : Ts → Hp → Prop} {ts : Ts} {h : Hp} (he : edgesB 0 ops = true) (hs : seesB ops = true) (hp : aquiet P G h ops (fun ts => K ts h) ts) : adraw P G ops K ts h:=by
 obtain ⟨vs,h1,h2⟩:=aquiet_trace ops ts hp
 refine adraw_of he vs (fun _ => h) rfl (fun D i o hi hDi hcl haf => ?_) ?_
 ·have hsee:=TD_sees he hs hi hDi hcl haf vs ts
  have hlt : i < ops.length:=(List.getElem?_eq_some_iff.1 hi).1
  have hpre : pre ts ops vs i = TD ops vs ts (fun j => decide (j < i)):=funext fun x => pre_eq ops 0 ts vs i he (by omega) x
  have h3:=h1 i o hi
  rw [hpre] at h3
  refine guardP_sees (fun x hx => (hsee x hx).symm) (guardP_mono (fun hq => ?_) (fun hq => ⟨hq,rfl⟩) h3)
  exact aopP_congr (evX_sees fun x hx => (hsee x hx).symm) hq
 ·have hpre : pre ts ops vs ops.length = TD ops vs ts (fun j => decide (j < ops.length)):=funext fun x => pre_eq ops 0 ts vs _ he (Nat.le_refl _) x
  rw [← hpre]
  exact h2
end
end AX
end Go.Proofs.YteklhoajalgehaaGreatDoor

namespace Go.Proofs.YteklhoajalgehaaGreatDoor
open Go.RowKit
namespace AX
section
variable {P : Program} {G : World → Prop}
theorem put_app (ts : Ts) (d : Nat) (v : A) (i : Nat) : put ts (some d) v i = if i = d then v else ts i:=rfl
theorem put_none (ts : Ts) (v : A) : put ts none v = ts:=rfl
theorem init_app (args : List A) (i : Nat) : initTs args i = args.getD i (.tup []):=rfl
theorem optP_some (v : A) (h : Hp) (K : A → Hp → Prop) : optP (some (v,h)) K = K v h:=rfl
theorem awp_quiet {ops : List AOper} {Q : AExit → Ts → Hp → Prop} {ts : Ts} {h : Hp} (hb : (edgesB 0 ops && seesB ops) = true) (hq : aquiet P G h ops (fun ts => Q .normal ts h) ts) : awp P G (.reg true ops) Q ts h:=by
 rw [Bool.and_eq_true] at hb
 exact ⟨hb.1,adraw_quiet hb.1 hb.2 hq⟩
theorem evX_t (ts : Ts) (n : Nat) : evX ts (.t n) = ts n:=rfl
theorem evX_c (ts : Ts) (a : A) : evX ts (.c a) = a:=rfl
theorem resA_nil (ts : Ts) (h : Hp) : resA ts h [] = some []:=rfl
theorem resA_t (ts : Ts) (h : Hp) (t : Nat) (rs : List ARes) : resA ts h (.t t :: rs) = (resA ts h rs).bind fun l => some (ts t :: l):=rfl
theorem resA_c (ts : Ts) (h : Hp) (t : Nat) (g : Bool) (n : Nat) (rs : List ARes) : resA ts h (.c t g n :: rs) = (loadA h g n (ts t)).bind fun v => (resA ts h rs).bind fun l => some (v :: l):=rfl
theorem tupA_1 (v : A) : tupA [v] = v:=rfl
theorem tupA_2 (u v : A) (l : List A) : tupA (u :: v :: l) = .tup (u :: v :: l):=rfl
theorem tupA_0 : tupA [] = .tup []:=rfl
end
end AX
end Go.Proofs.YteklhoajalgehaaGreatDoor
