/- Part of what the proof needs. -/
import Derived.Test.YtdgcbckcameggaaGreatDoorMFrStatefileReadsF
import Derived.Test.YtdgcbckcameggaaGreatDoorProg
import Derived.KernelRfl
set_option maxHeartbeats 4000000
set_option linter.unusedSimpArgs false
set_option linter.unusedVariables false
set_option linter.unnecessarySimpa false
namespace Go.Proofs.YtdgcbckcameggaaGreatDoor
open Go.RowKit
namespace Wire
theorem cnt_num (l l':List UInt8) (e' n:Int) (h:numR ⟨l,0⟩=(⟨l',e'⟩,n)) :
  (e'≠0→cntR ⟨l,0⟩ 1=(⟨l,e'⟩,0))∧(e'=0→n < 0→cntR ⟨l,0⟩ 1=(⟨l,1⟩,0))∧(e'=0→¬ n < 0→(l'.length:Int) < n→cntR ⟨l,0⟩ 1=(⟨l,40⟩,0))∧(e'=0→¬ n < 0→¬ (l'.length:Int) < n→cntR ⟨l,0⟩ 1=(⟨l',0⟩,n.toNat)):=by
 unfold numR at h
 rw [if_neg (by simp)] at h
 unfold cntR
 rw [if_neg (by simp)]
 simp only at h ⊢
 cases hG:grp l with
 | err e =>
  rw [hG] at h
  simp only [Prod.mk.injEq,St.mk.injEq] at h
  obtain ⟨⟨rfl,rfl⟩,rfl⟩:=h
  have:=grp_err l e hG
  exact ⟨fun _=>rfl,fun h=>absurd h this,fun h=>absurd h this,fun h=>absurd h this⟩
 | ok m long =>
  rw [hG] at h
  simp only [Prod.mk.injEq,St.mk.injEq] at h
  obtain ⟨⟨rfl,rfl⟩,rfl⟩:=h
  simp only [List.length_drop,Nat.div_one]
  refine ⟨fun h=>absurd rfl h,fun _ h=>by rw [if_pos h],fun _ h1 h2=>by rw [if_neg h1,if_pos h2],fun _ h1 h2=>by rw [if_neg h1,if_neg h2]⟩
theorem numR_le (l l':List UInt8) (e' n:Int) (h:numR ⟨l,0⟩=(⟨l',e'⟩,n)):l'.length≤l.length:=by
 unfold numR at h
 rw [if_neg (by simp)] at h
 simp only at h
 cases hG:grp l with
 | err e=>rw [hG] at h; simp only [Prod.mk.injEq,St.mk.injEq] at h; obtain ⟨⟨rfl,_⟩,_⟩:=h; omega
 | ok m long=>rw [hG] at h; simp only [Prod.mk.injEq,St.mk.injEq] at h; obtain ⟨⟨rfl,_⟩,_⟩:=h; simp
end Wire
set_option maxRecDepth 100000 in
theorem refCount_any (r:Wire.St) (w:World) (hl:r.rest.length≤100000000) :
  Calls Tryz.prog 54 #[.agg #[.string ⟨r.rest.toArray⟩,.int .i64 r.e],.int .i64 1] w fun e w'=>e = .returned (.tuple #[rdV (Wire.cntR r 1).1,.int .i64 ((Wire.cntR r 1).2:Nat)])∧Below w.heap.size w w':=by
 have B0:=kept (ball w (.cells #[.string ⟨r.rest.toArray⟩,.int .i64 r.e] 54))
 by_cases he:r.e=0
 ·obtain ⟨l,e0⟩:=r
  simp only at he hl B0
  subst he
  have Hn:=kept (fun w=>refNumber_any ⟨l,0⟩ w hl)
  have Hf:=kept (fun e w=>refFail_any ⟨l,0⟩ e w)
  obtain ⟨⟨⟨l',e'⟩,n⟩,hq⟩:∃ q,Wire.numR ⟨l,0⟩=q:=⟨_,rfl⟩
  obtain ⟨c1,c2,c3,c4⟩:=Wire.cnt_num l l' e' n hq
  have Hlen:=kept (show l'.length≤l.length from Wire.numR_le l l' e' n hq)
  rw [hq] at Hn
  simp only [rdV] at Hn Hf
  clear hq
  by_cases he':e'=0
  ·subst he'
   by_cases hn:n < 0
   ·have HN:=kept (c2 rfl hn)
    clear c1 c2 c3 c4
    go_enter Tryz.func54,Tryz.ntmps54
    go_wp2_with fail
    (with_reducible refine (Hn.out _).mono ?_); rintro e w1 ⟨rfl,b1⟩
    have hw1:w.heap.size+2≤w1.heap.size:=by have:=b1.size; simpa using this
    have D0:=kept ((((Duo'.fresh w 54 (.string ⟨l.toArray⟩) (.int .i64 0)).below (ball _ (.cells #[.string ⟨#[]⟩,.int .i64 0] 54))).below b1).below (ball w1 (.cells #[.string ⟨l'.toArray⟩,.int .i64 0] 54)))
    have D1:=kept (show Duo' (w1.alloc (.cells #[.string ⟨l'.toArray⟩,.int .i64 0] 54)) (w.heap.size+1) 54 (.string ⟨#[]⟩) (.int .i64 0) by
     have h:=((Duo'.fresh (w.alloc (.cells #[.string ⟨l.toArray⟩,.int .i64 0] 54)) 54 (.string ⟨#[]⟩) (.int .i64 0)).below b1).below (ball w1 (.cells #[.string ⟨l'.toArray⟩,.int .i64 0] 54))
     simpa using h)
    have Dn:=kept (Duo'.fresh w1 54 (.string ⟨l'.toArray⟩) (.int .i64 0))
    have B2:=kept ((((ball w (.cells #[.string ⟨l.toArray⟩,.int .i64 0] 54)).alloc (by simp) (.cells #[.string ⟨#[]⟩,.int .i64 0] 54)).trans (b1.mono (by simp; omega))).alloc (by omega) (.cells #[.string ⟨l'.toArray⟩,.int .i64 0] 54))
    obtain ⟨x0,x1,x2,x3⟩:=D0.out.facts
    obtain ⟨p0,p1,p2,p3⟩:=D1.out.facts
    obtain ⟨n0,n1,n2,n3⟩:=Dn.out.facts
    clear b1
    go_wp2_with fail
    (with_reducible refine (Hf.out 1 _).mono ?_); rintro e w5 ⟨rfl,b5⟩
    have E1:=kept (D1.out.below b5)
    obtain ⟨z0,z1,z2,z3⟩:=E1.out.facts
    obtain ⟨v0,v1,_,_⟩:=(Duo'.set w5 _ _ _ _ (.string ⟨l.toArray⟩) (.int .i64 1) E1.out).facts
    have B5:=kept (bset2 (B2.out.trans (b5.mono (by simp; omega))) (show w.heap.size≤w.heap.size+1 by omega) (.string ⟨l.toArray⟩) (.int .i64 1))
    clear b5 x0 x1 x2 x3 p0 p1 p2 p3 n0 n1 n2 n3
    go_wp2
    rw [HN.out]
    exact bodyPost_ret (v:=.tuple #[rdV ⟨l,1⟩,.int .i64 0]) (by simp [results,Tryz.results54,go_sem,rdV,v0,v1]) rfl ⟨rfl,B5.out⟩
   ·obtain ⟨c,rfl⟩:∃ c:Nat,n=c:=⟨n.toNat,by omega⟩
    have hll:wrap64 (l'.length:Int)=(l'.length:Int):=by
     have:=Hlen.out
     unfold wrap64; omega
    by_cases hb:(l'.length:Int) < (c:Int)
    ·have HN:=kept (c3 rfl hn hb)
     clear c1 c2 c3 c4
     go_enter Tryz.func54,Tryz.ntmps54
     go_wp2_with fail
     (with_reducible refine (Hn.out _).mono ?_); rintro e w1 ⟨rfl,b1⟩
     have hw1:w.heap.size+2≤w1.heap.size:=by have:=b1.size; simpa using this
     have D0:=kept ((((Duo'.fresh w 54 (.string ⟨l.toArray⟩) (.int .i64 0)).below (ball _ (.cells #[.string ⟨#[]⟩,.int .i64 0] 54))).below b1).below (ball w1 (.cells #[.string ⟨l'.toArray⟩,.int .i64 0] 54)))
     have D1:=kept (show Duo' (w1.alloc (.cells #[.string ⟨l'.toArray⟩,.int .i64 0] 54)) (w.heap.size+1) 54 (.string ⟨#[]⟩) (.int .i64 0) by
      have h:=((Duo'.fresh (w.alloc (.cells #[.string ⟨l.toArray⟩,.int .i64 0] 54)) 54 (.string ⟨#[]⟩) (.int .i64 0)).below b1).below (ball w1 (.cells #[.string ⟨l'.toArray⟩,.int .i64 0] 54))
      simpa using h)
     have Dn:=kept (Duo'.fresh w1 54 (.string ⟨l'.toArray⟩) (.int .i64 0))
     have B2:=kept ((((ball w (.cells #[.string ⟨l.toArray⟩,.int .i64 0] 54)).alloc (by simp) (.cells #[.string ⟨#[]⟩,.int .i64 0] 54)).trans (b1.mono (by simp; omega))).alloc (by omega) (.cells #[.string ⟨l'.toArray⟩,.int .i64 0] 54))
     obtain ⟨x0,x1,x2,x3⟩:=D0.out.facts
     obtain ⟨p0,p1,p2,p3⟩:=D1.out.facts
     obtain ⟨n0,n1,n2,n3⟩:=Dn.out.facts
     clear b1
     go_wp2_with fail
     (with_reducible refine (Hf.out 40 _).mono ?_); rintro e w5 ⟨rfl,b5⟩
     have E1:=kept (D1.out.below b5)
     obtain ⟨z0,z1,z2,z3⟩:=E1.out.facts
     obtain ⟨v0,v1,_,_⟩:=(Duo'.set w5 _ _ _ _ (.string ⟨l.toArray⟩) (.int .i64 40) E1.out).facts
     have B5:=kept (bset2 (B2.out.trans (b5.mono (by simp; omega))) (show w.heap.size≤w.heap.size+1 by omega) (.string ⟨l.toArray⟩) (.int .i64 40))
     clear b5 x0 x1 x2 x3 p0 p1 p2 p3 n0 n1 n2 n3
     go_wp2
     rw [HN.out]
     exact bodyPost_ret (v:=.tuple #[rdV ⟨l,40⟩,.int .i64 0]) (by simp [results,Tryz.results54,go_sem,rdV,v0,v1]) rfl ⟨rfl,B5.out⟩
    ·have HN:=kept (c4 rfl hn hb)
     clear c1 c2 c3 c4
     go_enter Tryz.func54,Tryz.ntmps54
     go_wp2_with fail
     (with_reducible refine (Hn.out _).mono ?_); rintro e w1 ⟨rfl,b1⟩
     have hw1:w.heap.size+2≤w1.heap.size:=by have:=b1.size; simpa using this
     have D0:=kept ((((Duo'.fresh w 54 (.string ⟨l.toArray⟩) (.int .i64 0)).below (ball _ (.cells #[.string ⟨#[]⟩,.int .i64 0] 54))).below b1).below (ball w1 (.cells #[.string ⟨l'.toArray⟩,.int .i64 0] 54)))
     have D1:=kept (show Duo' (w1.alloc (.cells #[.string ⟨l'.toArray⟩,.int .i64 0] 54)) (w.heap.size+1) 54 (.string ⟨#[]⟩) (.int .i64 0) by
      have h:=((Duo'.fresh (w.alloc (.cells #[.string ⟨l.toArray⟩,.int .i64 0] 54)) 54 (.string ⟨#[]⟩) (.int .i64 0)).below b1).below (ball w1 (.cells #[.string ⟨l'.toArray⟩,.int .i64 0] 54))
      simpa using h)
     have Dn:=kept (Duo'.fresh w1 54 (.string ⟨l'.toArray⟩) (.int .i64 0))
     have B2:=kept ((((ball w (.cells #[.string ⟨l.toArray⟩,.int .i64 0] 54)).alloc (by simp) (.cells #[.string ⟨#[]⟩,.int .i64 0] 54)).trans (b1.mono (by simp; omega))).alloc (by omega) (.cells #[.string ⟨l'.toArray⟩,.int .i64 0] 54))
     obtain ⟨x0,x1,x2,x3⟩:=D0.out.facts
     obtain ⟨p0,p1,p2,p3⟩:=D1.out.facts
     obtain ⟨n0,n1,n2,n3⟩:=Dn.out.facts
     clear b1
     obtain ⟨v0,v1,_,_⟩:=(Duo'.set _ _ _ _ _ (.string ⟨l'.toArray⟩) (.int .i64 0) D1.out).facts
     have B5:=kept (bset2 B2.out (show w.heap.size≤w.heap.size+1 by omega) (.string ⟨l'.toArray⟩) (.int .i64 0))
     go_wp2
     rw [HN.out]
     exact bodyPost_ret (v:=.tuple #[rdV ⟨l',0⟩,.int .i64 c]) (by simp [results,Tryz.results54,go_sem,rdV,v0,v1]) rfl ⟨by simp,B5.out⟩
  ·have HN:=kept (c1 he')
   have hne:(e' != 0)=true:=by simpa using he'
   clear c1 c2 c3 c4 he'
   go_enter Tryz.func54,Tryz.ntmps54
   go_wp2_with fail
   (with_reducible refine (Hn.out _).mono ?_); rintro e w1 ⟨rfl,b1⟩
   have hw1:w.heap.size+2≤w1.heap.size:=by have:=b1.size; simpa using this
   have D0:=kept ((((Duo'.fresh w 54 (.string ⟨l.toArray⟩) (.int .i64 0)).below (ball _ (.cells #[.string ⟨#[]⟩,.int .i64 0] 54))).below b1).below (ball w1 (.cells #[.string ⟨l'.toArray⟩,.int .i64 e'] 54)))
   have D1:=kept (show Duo' (w1.alloc (.cells #[.string ⟨l'.toArray⟩,.int .i64 e'] 54)) (w.heap.size+1) 54 (.string ⟨#[]⟩) (.int .i64 0) by
    have h:=((Duo'.fresh (w.alloc (.cells #[.string ⟨l.toArray⟩,.int .i64 0] 54)) 54 (.string ⟨#[]⟩) (.int .i64 0)).below b1).below (ball w1 (.cells #[.string ⟨l'.toArray⟩,.int .i64 e'] 54))
    simpa using h)
   have Dn:=kept (Duo'.fresh w1 54 (.string ⟨l'.toArray⟩) (.int .i64 e'))
   have B2:=kept ((((ball w (.cells #[.string ⟨l.toArray⟩,.int .i64 0] 54)).alloc (by simp) (.cells #[.string ⟨#[]⟩,.int .i64 0] 54)).trans (b1.mono (by simp; omega))).alloc (by omega) (.cells #[.string ⟨l'.toArray⟩,.int .i64 e'] 54))
   obtain ⟨x0,x1,x2,x3⟩:=D0.out.facts
   obtain ⟨p0,p1,p2,p3⟩:=D1.out.facts
   obtain ⟨n0,n1,n2,n3⟩:=Dn.out.facts
   clear b1
   go_wp2_with fail
   (with_reducible refine (Hf.out e' _).mono ?_); rintro e w5 ⟨rfl,b5⟩
   have E1:=kept (D1.out.below b5)
   obtain ⟨z0,z1,z2,z3⟩:=E1.out.facts
   obtain ⟨v0,v1,_,_⟩:=(Duo'.set w5 _ _ _ _ (.string ⟨l.toArray⟩) (.int .i64 e') E1.out).facts
   have B5:=kept (bset2 (B2.out.trans (b5.mono (by simp; omega))) (show w.heap.size≤w.heap.size+1 by omega) (.string ⟨l.toArray⟩) (.int .i64 e'))
   clear b5 x0 x1 x2 x3 p0 p1 p2 p3 n0 n1 n2 n3
   go_wp2
   rw [HN.out]
   exact bodyPost_ret (v:=.tuple #[rdV ⟨l,e'⟩,.int .i64 0]) (by simp [results,Tryz.results54,go_sem,rdV,v0,v1]) rfl ⟨rfl,B5.out⟩
 ·have HN:=kept (show Wire.cntR r 1=(r,0) by unfold Wire.cntR; rw [if_pos he])
  have he':(r.e != 0)=true:=by simpa using he
  clear he
  go_enter Tryz.func54,Tryz.ntmps54
  go_wp2
  rw [HN.out]
  exact bodyPost_ret (v:=.tuple #[rdV r,.int .i64 0]) (by simp [results,Tryz.results54,go_sem,rdV]) rfl ⟨rfl,B0.out.alloc (by simp) _⟩
namespace Wire
theorem cntR_le (r:St) (l':List UInt8) (c:Nat) (h:cntR r 1=(⟨l',0⟩,c)):c≤l'.length:=by
 unfold cntR at h
 by_cases he:r.e=0
 ·rw [if_neg (by simpa using he)] at h
  cases hG:grp r.rest with
  | err e =>
   rw [hG] at h
   simp only [Prod.mk.injEq,St.mk.injEq] at h
   exact absurd h.1.2 (grp_err _ e hG)
  | ok m long =>
   rw [hG] at h
   simp only at h
   split at h
   ·simp only [Prod.mk.injEq,St.mk.injEq] at h; omega
   ·split at h
    ·simp only [Prod.mk.injEq,St.mk.injEq] at h; omega
    ·next h1 h2 =>
     simp only [Prod.mk.injEq,St.mk.injEq] at h
     obtain ⟨⟨rfl,_⟩,rfl⟩:=h
     rw [Nat.div_one] at h2
     rw [List.length_drop]; omega
 ·rw [if_pos he] at h
  simp only [Prod.mk.injEq] at h
  rw [h.1] at he
  exact absurd rfl he
end Wire
set_option maxRecDepth 100000 in
theorem refString_any (r:Wire.St) (w:World) (hl:r.rest.length≤100000000) :
  Calls Tryz.prog 53 #[.agg #[.string ⟨r.rest.toArray⟩,.int .i64 r.e]] w fun e w'=>e = .returned (.tuple #[rdV (Wire.strR r).1,.string ⟨(Wire.strR r).2.toArray⟩])∧Below w.heap.size w w':=by
 have Hn:=kept (fun w=>refCount_any r w hl)
 obtain ⟨⟨⟨l',e'⟩,c⟩,hq⟩:∃ q,Wire.cntR r 1=q:=⟨_,rfl⟩
 rw [hq] at Hn
 simp only [rdV] at Hn
 by_cases he':e'=0
 ·subst he'
  have hc:=Wire.cntR_le r l' c hq
  have HN:=kept (show Wire.strR r=(⟨l'.drop c,0⟩,l'.take c) by unfold Wire.strR; rw [hq]; rfl)
  have hc':(c:Int)≤l'.length:=by omega
  have hex:(⟨l'.toArray⟩:ByteArray).extract c l'.length=⟨(l'.drop c).toArray⟩:=by
   apply ByteArray.ext; apply Array.toList_inj.1; simp; exact List.take_of_length_le (by simp)
  have hex2:(⟨l'.toArray⟩:ByteArray).extract 0 c=⟨(l'.take c).toArray⟩:=by apply ByteArray.ext; simp
  clear hq hc
  go_enter Tryz.func53,Tryz.ntmps53
  go_wp2_with fail
  (with_reducible refine (Hn.out _).mono ?_); rintro e w1 ⟨rfl,b1⟩
  have hw1:w.heap.size+2≤w1.heap.size:=by have:=b1.size; simpa using this
  have D0:=kept ((((Duo'.fresh w 54 (.string ⟨r.rest.toArray⟩) (.int .i64 r.e)).below (ball _ (.cells #[.string ⟨#[]⟩,.int .i64 0] 54))).below b1).below (ball w1 (.cells #[.string ⟨l'.toArray⟩,.int .i64 0] 54)))
  have D1:=kept (show Duo' (w1.alloc (.cells #[.string ⟨l'.toArray⟩,.int .i64 0] 54)) (w.heap.size+1) 54 (.string ⟨#[]⟩) (.int .i64 0) by
   have h:=((Duo'.fresh (w.alloc (.cells #[.string ⟨r.rest.toArray⟩,.int .i64 r.e] 54)) 54 (.string ⟨#[]⟩) (.int .i64 0)).below b1).below (ball w1 (.cells #[.string ⟨l'.toArray⟩,.int .i64 0] 54))
   simpa using h)
  have Dn:=kept (Duo'.fresh w1 54 (.string ⟨l'.toArray⟩) (.int .i64 0))
  have B2:=kept ((((ball w (.cells #[.string ⟨r.rest.toArray⟩,.int .i64 r.e] 54)).alloc (by simp) (.cells #[.string ⟨#[]⟩,.int .i64 0] 54)).trans (b1.mono (by simp; omega))).alloc (by omega) (.cells #[.string ⟨l'.toArray⟩,.int .i64 0] 54))
  obtain ⟨x0,x1,x2,x3⟩:=D0.out.facts
  obtain ⟨p0,p1,p2,p3⟩:=D1.out.facts
  obtain ⟨n0,n1,n2,n3⟩:=Dn.out.facts
  clear b1
  have h0c:(0:Int)≤(c:Int):=by omega
  go_wp2
  obtain ⟨W,hW⟩:∃ W,W=w1.alloc (.cells #[.string ⟨l'.toArray⟩,.int .i64 0] 54):=⟨_,rfl⟩
  have hx1:w1.heap.size < W.heap.size:=by rw [hW]; simp
  rw [←hW]
  clear x0 x1 x2 x3 p0 p1 p2 p3 n0 n1 n2 n3
  rw [←hW] at D1 Dn B2
  clear hW
  obtain ⟨n0,n1,n2,n3⟩:=Dn.out.facts
  obtain ⟨p0,p1,p2,p3⟩:=D1.out.facts
  have B5:=kept (bset2 (show Below w.heap.size w W.drew from B2.out.drew) (show w.heap.size≤w.heap.size+1 by omega) (.string ⟨(l'.drop c).toArray⟩) (.int .i64 0))
  have hne1:w.heap.size+1≠w1.heap.size:=by omega
  obtain ⟨v0,v1,_,_⟩:=(Duo'.set _ _ _ _ _ (.string ⟨(l'.drop c).toArray⟩) (.int .i64 0) D1.out).facts
  have B6:=kept (bset2 B2.out (show w.heap.size≤w.heap.size+1 by omega) (.string ⟨(l'.drop c).toArray⟩) (.int .i64 0)).drew
  go_region
  all_goals go_wp2
  all_goals rw [HN.out]
  all_goals exact bodyPost_ret (v:=.tuple #[rdV ⟨l'.drop c,0⟩,.string ⟨(l'.take c).toArray⟩]) (by simp [results,Tryz.results53,go_sem,rdV,v0,v1]) rfl ⟨rfl,by first | exact B6.out | exact B5.out⟩
 ·have HN:=kept (show Wire.strR r=(⟨l',e'⟩,[]) by unfold Wire.strR; rw [hq]; simp only; rw [if_pos he'])
  have hne:(e' != 0)=true:=by simpa using he'
  clear hq he'
  go_enter Tryz.func53,Tryz.ntmps53
  go_wp2_with fail
  (with_reducible refine (Hn.out _).mono ?_); rintro e w1 ⟨rfl,b1⟩
  have hw1:w.heap.size+2≤w1.heap.size:=by have:=b1.size; simpa using this
  have D0:=kept ((((Duo'.fresh w 54 (.string ⟨r.rest.toArray⟩) (.int .i64 r.e)).below (ball _ (.cells #[.string ⟨#[]⟩,.int .i64 0] 54))).below b1).below (ball w1 (.cells #[.string ⟨l'.toArray⟩,.int .i64 e'] 54)))
  have D1:=kept (show Duo' (w1.alloc (.cells #[.string ⟨l'.toArray⟩,.int .i64 e'] 54)) (w.heap.size+1) 54 (.string ⟨#[]⟩) (.int .i64 0) by
   have h:=((Duo'.fresh (w.alloc (.cells #[.string ⟨r.rest.toArray⟩,.int .i64 r.e] 54)) 54 (.string ⟨#[]⟩) (.int .i64 0)).below b1).below (ball w1 (.cells #[.string ⟨l'.toArray⟩,.int .i64 e'] 54))
   simpa using h)
  have Dn:=kept (Duo'.fresh w1 54 (.string ⟨l'.toArray⟩) (.int .i64 e'))
  have B2:=kept ((((ball w (.cells #[.string ⟨r.rest.toArray⟩,.int .i64 r.e] 54)).alloc (by simp) (.cells #[.string ⟨#[]⟩,.int .i64 0] 54)).trans (b1.mono (by simp; omega))).alloc (by omega) (.cells #[.string ⟨l'.toArray⟩,.int .i64 e'] 54))
  obtain ⟨x0,x1,x2,x3⟩:=D0.out.facts
  obtain ⟨p0,p1,p2,p3⟩:=D1.out.facts
  obtain ⟨n0,n1,n2,n3⟩:=Dn.out.facts
  clear b1
  obtain ⟨v0,v1,_,_⟩:=(Duo'.set _ _ _ _ _ (.string ⟨l'.toArray⟩) (.int .i64 e') D1.out).facts
  have B5:=kept (bset2 B2.out (show w.heap.size≤w.heap.size+1 by omega) (.string ⟨l'.toArray⟩) (.int .i64 e'))
  go_wp2
  rw [HN.out]
  exact bodyPost_ret (v:=.tuple #[rdV ⟨l',e'⟩,.string ⟨#[]⟩]) (by simp [results,Tryz.results53,go_sem,rdV,v0,v1]) rfl ⟨rfl,B5.out⟩
theorem refLeft_any (r:Wire.St) (w:World) :
  Calls Tryz.prog 57 #[.agg #[.string ⟨r.rest.toArray⟩,.int .i64 r.e]] w fun e w'=>e = .returned (.int .i64 r.rest.length)∧Below w.heap.size w w':=by
 go_enter Tryz.func57,Tryz.ntmps57
 go_wp2
 go_ret
 exact ⟨rfl,ball w _⟩
end Go.Proofs.YtdgcbckcameggaaGreatDoor

namespace Go.Proofs.YtdgcbckcameggaaGreatDoor
namespace Val
open Wire
theorem num_len (n:Int):1≤(num n).length:=(encF_len 9 _).1
mutual
def eqB:V→V→Bool
 | .mk k n s is ks,.mk k' n' s' is' ks'=>k == k'&&n == n'&&s == s'&&ks == ks'&&eqBs is is'
def eqBs:List V→List V→Bool
 | [],[]=>true
 | v::l,v'::l'=>eqB v v'&&eqBs l l'
 | _,_=>false
end
end Val
end Go.Proofs.YtdgcbckcameggaaGreatDoor

namespace Go.Proofs.YtdgcbckcameggaaGreatDoor
namespace Val
set_option maxRecDepth 100000
end Val
end Go.Proofs.YtdgcbckcameggaaGreatDoor

namespace Go.Proofs.YtdgcbckcameggaaGreatDoor
open Go.RowKit Go.ChangeShapes Go.WideShapes
mutual
theorem D.induct {P:D→Prop} (hi:∀ k n,P (.int k n)) (hs:∀ l,P (.str l)) (hb:∀ b,P (.bool b)) (ha:∀ l,(∀ d∈l,P d)→P (.agg l)) (hsl:∀ W l,(∀ d∈l,P d)→P (.sl W l)):∀ d:D,P d
 | .int k n=>hi k n
 | .str l=>hs l
 | .bool b=>hb b
 | .agg l=>ha l (D.inducts hi hs hb ha hsl l)
 | .sl W l=>hsl W l (D.inducts hi hs hb ha hsl l)
theorem D.inducts {P:D→Prop} (hi:∀ k n,P (.int k n)) (hs:∀ l,P (.str l)) (hb:∀ b,P (.bool b)) (ha:∀ l,(∀ d∈l,P d)→P (.agg l)) (hsl:∀ W l,(∀ d∈l,P d)→P (.sl W l)):∀ l:List D,∀ d∈l,P d
 | []=>by simp
 | d::l=>List.forall_mem_cons.2 ⟨D.induct hi hs hb ha hsl d,D.inducts hi hs hb ha hsl l⟩
end
section
variable {P:Program}
end
end Go.Proofs.YtdgcbckcameggaaGreatDoor
