/- Part of what the proof needs. -/
import Derived.Test.YtahmpiioegemaabGreatDoorMFrStorePlaysUptoD
import Derived.Test.YtahmpiioegemaabGreatDoorMFrStorePlaysUptoI
import Derived.Test.YtahmpiioegemaabGreatDoorMFrStorePlaysUptoO
import Derived.Test.YtahmpiioegemaabGreatDoorMFrStorePlaysUptoP
import Derived.Test.YtahmpiioegemaabGreatDoorMFrStorePlaysUptoR
import Derived.Test.YtahmpiioegemaabGreatDoorMFrStorePlaysUptoS
import Derived.Maps.RangeRun
set_option maxHeartbeats 4000000
set_option linter.unusedSimpArgs false
set_option linter.unusedVariables false
set_option linter.unnecessarySimpa false
namespace Go.Proofs.YtahmpiioegemaabGreatDoor
open Go.RowKit
namespace AX
def c_sttext:AX.AFn:=⟨9,aS [aR 2 (.mv (.c (.bool false)))] (aS [aM 3 0,aR 4 (.bin .neq (.t 3) (.c (.str []))),aM 5 4,aG 6 (.mv (.t 0)) 5 true,aG 7 (.call 44 [.t 6]) 5 true,aR 8 (.pick (.t 5) (.t 7) (.c (.bool false))),aM 2 8] (.ret)),[.t 2]⟩
theorem h_sttext:AX.compFn Tryz.prog 30=some c_sttext:=by kernel_rfl
def c_made:AX.AFn:=⟨12,aS [aR 2 (.mv (.c (.bool false)))] (aS [aM 3 0,aR 4 (.eq 1 [] true (.t 3) (.c (.nilp))),aM 5 4,aG 6 (.mv (.t 0)) 5 true,aG 7 (.nilck (.t 6)) 5 true,aG 8 (.faddr 3 (.t 7)) 5 true,aG 9 (.load false 1 (.t 8)) 5 true,aG 10 (.eq 3 [] true (.t 9) (.c (.nilm))) 5 true,aR 11 (.pick (.t 5) (.t 10) (.c (.bool false))),aM 2 11] (.ret)),[.t 2]⟩
theorem h_made:AX.compFn Tryz.prog 35=some c_made:=by kernel_rfl
def c_holds:AX.AFn:=⟨18,aS [aR 4 (.mv (.c (.bool false)))] (aS [aM 5 0,aR 6 (.nilck (.t 5)),aF 7 4 6,aL 8 7,aR 9 (.bin .neq (.t 8) (.c (.str []))),aM 10 9,aG 11 (.mv (.t 0)) 10 true,aG 12 (.nilck (.t 11)) 10 true,aG 13 (.faddr 4 (.t 12)) 10 true,aG 14 (.load false 1 (.t 13)) 10 true,aG 15 (.mv (.t 1)) 10 true,aG 16 (.bin .eql (.t 14) (.t 15)) 10 true,aR 17 (.pick (.t 10) (.t 16) (.c (.bool false))),aM 4 17] (.ret)),[.t 4]⟩
theorem h_holds:AX.compFn Tryz.prog 36=some c_holds:=by kernel_rfl
def c_slock:AX.AFn:=⟨42,aS [aR 6 (.mv (aI 0))] (.seq (aS [aM 7 0,aR 8 (.call 35 [.t 7]),aR 9 (.un .not (.t 8))] (.cond (.t 9) (aS [aR 6 (.mv (aI 38))] (.ret)) (.skip))) (.seq (aS [aM 10 1,aR 11 (.call 30 [.t 10]),aR 12 (.un .not (.t 11)),aM 13 12,aG 14 (.mv (.t 2)) 13 false,aG 15 (.bin .lss (.t 14) (aI 1)) 13 false,aR 16 (.pick (.t 13) (.c (.bool true)) (.t 15)),aM 17 16,aG 18 (.mv (.t 2)) 17 false,aG 19 (.bin .gtr (.t 18) (aI 1099511627776)) 17 false,aR 20 (.pick (.t 17) (.c (.bool true)) (.t 19))] (.cond (.t 20) (aS [aR 6 (.mv (aI 1))] (.ret)) (.skip))) (.seq (aS [aM 21 0,aR 22 (.nilck (.t 21)),aF 23 4 22,aL 24 23,aR 25 (.bin .neq (.t 24) (.c (.str []))),aM 26 25,aG 27 (.mv (.t 0)) 26 true,aG 28 (.nilck (.t 27)) 26 true,aG 29 (.faddr 4 (.t 28)) 26 true,aG 30 (.load false 1 (.t 29)) 26 true,aG 31 (.mv (.t 1)) 26 true,aG 32 (.bin .neq (.t 30) (.t 31)) 26 true,aR 33 (.pick (.t 26) (.t 32) (.c (.bool false)))] (.cond (.t 33) (aS [aR 6 (.mv (aI 24))] (.ret)) (.skip))) (aS [aM 34 0,aM 35 0,aM 36 1,aM 37 2,aR 38 (.nilck (.t 34)),aF 39 4 38,aU (.store 1 (.t 39) (.t 36)),aR 40 (.nilck (.t 35)),aF 41 5 40,aU (.store 1 (.t 41) (.t 37))] (aS [aR 6 (.mv (aI 0))] (.ret)))))),[.t 6]⟩
theorem h_slock:AX.compFn Tryz.prog 8=some c_slock:=by kernel_rfl
def c_sunlock:AX.AFn:=⟨18,aS [aR 4 (.mv (aI 0))] (.seq (aS [aM 5 0,aR 6 (.call 35 [.t 5]),aR 7 (.un .not (.t 6))] (.cond (.t 7) (aS [aR 4 (.mv (aI 38))] (.ret)) (.skip))) (.seq (aS [aM 8 0,aM 9 1,aR 10 (.call 36 [.t 8,.t 9]),aR 11 (.un .not (.t 10))] (.cond (.t 11) (aS [aR 4 (.mv (aI 25))] (.ret)) (.skip))) (aS [aM 12 0,aM 13 0,aR 14 (.nilck (.t 12)),aF 15 4 14,aU (.store 1 (.t 15) (.c (.str []))),aR 16 (.nilck (.t 13)),aF 17 5 16,aU (.store 1 (.t 17) (aI 0))] (aS [aR 4 (.mv (aI 0))] (.ret))))),[.t 4]⟩
theorem h_sunlock:AX.compFn Tryz.prog 10=some c_sunlock:=by kernel_rfl
def c_holder:AX.AFn:=⟨15,aS [aR 2 (.mv (.c (.str []))),aR 3 (.mv (aI 0))] (.seq (aS [aM 4 0,aR 5 (.call 35 [.t 4]),aR 6 (.un .not (.t 5))] (.cond (.t 6) (aS [aR 2 (.mv (.c (.str []))),aR 3 (.mv (aI 0))] (.ret)) (.skip))) (.seq (.reg true [aM 7 0,⟨some 8,.nilck (.t 7),none,[0]⟩,⟨some 9,.faddr 4 (.t 8),none,[1]⟩,⟨some 10,.load false 1 (.t 9),none,[2]⟩,aM 11 0,⟨some 12,.nilck (.t 11),none,[4]⟩,⟨some 13,.faddr 5 (.t 12),none,[5]⟩,⟨some 14,.load false 1 (.t 13),none,[6]⟩,⟨some 2,.mv (.t 10),none,[3,0,1,2,3]⟩,⟨some 3,.mv (.t 14),none,[7,8,0,1,2,3,4,5,6,7,8]⟩]) (.ret))),[.t 2,.t 3]⟩
theorem h_holder:AX.compFn Tryz.prog 26=some c_holder:=by kernel_rfl
def c_sbreak:AX.AFn:=⟨14,aS [aR 2 (.mv (.c (.bool false)))] (aS [aM 3 0,aR 4 (.call 35 [.t 3]),aM 5 4,aG 6 (.mv (.t 0)) 5 true,aG 7 (.mv (.t 0)) 5 true,aG 8 (.nilck (.t 7)) 5 true,aG 9 (.faddr 4 (.t 8)) 5 true,aG 10 (.load false 1 (.t 9)) 5 true,aG 11 (.call 10 [.t 6,.t 10]) 5 true,aG 12 (.bin .eql (.t 11) (aI 0)) 5 true,aR 13 (.pick (.t 5) (.t 12) (.c (.bool false))),aM 2 13] (.ret)),[.t 2]⟩
theorem h_sbreak:AX.compFn Tryz.prog 13=some c_sbreak:=by kernel_rfl
theorem a_sttext (s:List UInt8) (hs:s.length≤2000000) (h:Hp):ACall Tryz.prog GT 30 [.str s] h fun r h'=>r = .bool (Sto.txt s)∧h'=h:=by
 refine pcall ?_ rfl (by simp [A.pure,A.data]) h
 refine acall_of mixedT h_sttext (by simp [c_sttext]) ?_
 dsimp only [c_sttext]
 unfold Sto.txt
 rcases bool_or (s != []) with h1 | h1
 ·refine go0 h1 ?_
  refine gc0 h1 ?_
  refine (a_valid s hs _).mono ?_
  rintro v h1' ⟨rfl,rfl⟩
  refine go0 h1 ?_
  exact ⟨_,le_refl _,by rw [tupA_1,h1]; rfl⟩
 ·refine go0 h1 ?_
  exact ⟨_,le_refl _,by rw [tupA_1,h1]; rfl⟩
section
variable (s:Sto) (l:List Blk) (t:List (TypeId×Nat×Nat))
theorem a_made:ACall Tryz.prog GT 35 [.ptr 1 0] ⟨s.M::s.B::l,t⟩ fun r h'=>r = .bool true∧h'=⟨s.M::s.B::l,t⟩:=by
 refine liftS (s':=s) ?_ rfl rfl l t
 refine acall_of mixedT h_made (by simp [c_made]) ?_
 dsimp only [c_made]
 unfold Sto.B
 refine run0 ti ?_
 exact ⟨_,le_refl _,rfl,rfl,rfl⟩
theorem a_holds (who:List UInt8):ACall Tryz.prog GT 36 [.ptr 1 0,.str who] ⟨s.M::s.B::l,t⟩ fun r h'=>r = .bool (s.holds who)∧h'=⟨s.M::s.B::l,t⟩:=by
 refine liftS (s':=s) ?_ rfl rfl l t
 refine acall_of mixedT h_holds (by simp [c_holds]) ?_
 dsimp only [c_holds]
 unfold Sto.B Sto.holds
 rcases bool_or (s.own != []) with h1 | h1
 ·refine run0 h1 ?_
  exact ⟨_,le_refl _,by rw [h1]; rfl,rfl,rfl⟩
 ·refine run0 h1 ?_
  exact ⟨_,le_refl _,by rw [h1]; rfl,rfl,rfl⟩
theorem a_holder:ACall Tryz.prog GT 26 [.ptr 1 0] ⟨s.M::s.B::l,t⟩ fun r h'=>r = .tup [.str s.own,.int .i64 s.left]∧h'=⟨s.M::s.B::l,t⟩:=by
 refine liftS (s':=s) ?_ rfl rfl l t
 refine acall_of mixedT h_holder (by simp [c_holder]) ?_
 dsimp only [c_holder]
 have hm:=a_made s
 unfold Sto.B at hm ⊢
 refine run0 ti ?_
 refine use (hm _ _) ?_
 refine run0 ti ?_
 exact ⟨_,le_refl _,rfl,rfl,rfl⟩
theorem a_lock (who:List UInt8) (hw:who.length≤2000000) (n:Int):ACall Tryz.prog GT 8 [.ptr 1 0,.str who,.int .i64 n] ⟨s.M::s.B::l,t⟩ fun r h'=>r = .int .i64 (s.lock who n).2∧h'=⟨(s.lock who n).1.M::(s.lock who n).1.B::l,t⟩:=by
 refine liftS (s':=(s.lock who n).1) ?_ rfl rfl l t
 refine acall_of mixedT h_slock (by simp [c_slock]) ?_
 dsimp only [c_slock]
 obtain ⟨q,hq⟩:∃ q,s.lock who n=q:=⟨_,rfl⟩
 rw [hq]
 unfold Sto.lock at hq
 have hm:=a_made s
 unfold Sto.B at hm ⊢
 refine run0 ti ?_
 refine use (hm _ _) ?_
 refine run0 ti ?_
 refine use (a_sttext who hw _) ?_
 cases hT:Sto.txt who
 ·rw [hT,if_pos (by simp)] at hq
  subst hq
  refine run0 ti ?_
  exact ⟨_,le_refl _,rfl,rfl,rfl⟩
 by_cases h1:n < 1
 ·rw [hT,if_pos (by simp; omega)] at hq
  subst hq
  refine run0 h1 ?_
  exact ⟨_,le_refl _,rfl,rfl,rfl⟩
 by_cases h2:n > 1099511627776
 ·rw [hT,if_pos (by simp; omega)] at hq
  subst hq
  refine run0 (ai h1 h2) ?_
  exact ⟨_,le_refl _,rfl,rfl,rfl⟩
 rw [hT,if_neg (by simp; omega)] at hq
 rcases bool_or (s.own != []) with h3 | h3
 ·rcases bool_or (s.own != who) with h4 | h4
  ·rw [h3,h4,if_pos (by decide)] at hq
   subst hq
   refine run0 (ai h1 (ai h2 (ai h3 h4))) ?_
   exact ⟨_,le_refl _,rfl,rfl,rfl⟩
  ·rw [h3,h4,if_neg (by decide)] at hq
   subst hq
   refine run0 (ai h1 (ai h2 (ai h3 h4))) ?_
   exact ⟨_,le_refl _,rfl,rfl,rfl⟩
 ·rw [h3,if_neg (by simp)] at hq
  subst hq
  refine run0 (ai h1 (ai h2 h3)) ?_
  exact ⟨_,le_refl _,rfl,rfl,rfl⟩
theorem a_unlock (who:List UInt8):ACall Tryz.prog GT 10 [.ptr 1 0,.str who] ⟨s.M::s.B::l,t⟩ fun r h'=>r = .int .i64 (s.unlock who).2∧h'=⟨(s.unlock who).1.M::(s.unlock who).1.B::l,t⟩:=by
 refine liftS (s':=(s.unlock who).1) ?_ rfl rfl l t
 refine acall_of mixedT h_sunlock (by simp [c_sunlock]) ?_
 dsimp only [c_sunlock]
 obtain ⟨q,hq⟩:∃ q,s.unlock who=q:=⟨_,rfl⟩
 rw [hq]
 unfold Sto.unlock at hq
 have hm:=a_made s
 have hh:=fun l t=>a_holds s l t who
 unfold Sto.B at hm hh ⊢
 refine run0 ti ?_
 refine use (hm _ _) ?_
 refine run0 ti ?_
 refine use (hh _ _) ?_
 cases hT:s.holds who
 ·rw [hT,if_pos (by simp)] at hq
  subst hq
  refine run0 ti ?_
  exact ⟨_,le_refl _,rfl,rfl,rfl⟩
 ·rw [hT,if_neg (by decide)] at hq
  subst hq
  refine run0 ti ?_
  exact ⟨_,le_refl _,rfl,rfl,rfl⟩
theorem a_tick (n:Int) (hl:0≤s.left) (hl2:s.left≤1099511627776):ACall Tryz.prog GT 14 [.ptr 1 0,.int .i64 n] ⟨s.M::s.B::l,t⟩ fun r h'=>r = .tup []∧h'=⟨(s.tick n).M::(s.tick n).B::l,t⟩:=by
 refine liftS (s':=s.tick n) ?_ rfl rfl l t
 refine fo ?_
 obtain ⟨q,hq⟩:∃ q,s.tick n=q:=⟨_,rfl⟩
 rw [hq]
 unfold Sto.tick at hq
 have hm:=a_made s
 unfold Sto.B at hm ⊢
 refine run0 ti ?_
 refine use (hm _ _) ?_
 by_cases h1:n≤0
 ·rw [if_pos (.inl h1)] at hq
  subst hq
  refine run0 h1 ?_
  exact ⟨_,le_refl _,rfl,rfl,rfl⟩
 by_cases h2:s.own=[]
 ·rw [if_pos (.inr h2)] at hq
  subst hq
  have h3:(s.own == [])=true:=by simp [h2]
  refine run0 (ai h1 h3) ?_
  exact ⟨_,le_refl _,rfl,rfl,rfl⟩
 have h3:(s.own == [])=false:=by simpa using h2
 rw [if_neg (by rintro (h | h) <;> contradiction)] at hq
 obtain ⟨m,hm2⟩:∃ m,s.left - (if s.left < n then s.left else n)=m:=⟨_,rfl⟩
 rw [hm2] at hq
 have hm3:0≤m∧m≤1099511627776:=by rw [←hm2]; split <;> omega
 have hw:IntKind.i64.wrap m=m:=wrap64 (by omega) (by omega)
 by_cases h4:m=0
 ·rw [if_pos h4] at hq
  subst hq
  have h5:(m == 0)=true:=by simp [h4]
  refine run0 (ai h1 (ai h3 (ai hm2 (ai hw h5)))) ?_
  exact ⟨_,le_refl _,rfl,rfl,by rw [h4]; rfl⟩
 ·rw [if_neg h4] at hq
  subst hq
  have h5:(m == 0)=false:=by simp [h4]
  refine run0 (ai h1 (ai h3 (ai hm2 (ai hw h5)))) ?_
  exact ⟨_,le_refl _,rfl,rfl,rfl⟩
end
end AX
end Go.Proofs.YtahmpiioegemaabGreatDoor

namespace Go.Proofs.YtahmpiioegemaabGreatDoor
open Go.RowKit
namespace AX
theorem args3 {x y z:A} {v u r:Value} (h:∀ C c,Rep C x c→c=v) (h':∀ C c,Rep C y c→c=u) (h'':∀ C c,Rep C z c→c=r):∀ C cs,RepL C [x,y,z] cs→cs=[v,u,r]:=fun C cs hr=>by
 obtain ⟨c,cs',rfl,h1,h2⟩:=repL_cons.1 hr
 rw [args2 h' h'' C cs' h2,h C c h1]
theorem Sf.encode_len (ver:Int) (st:Sf.St):(Sf.encode ver st).1.length≤1048576:=by
 unfold Sf.encode
 split
 ·simp
 ·split
  ·simp
  ·next h=>show (Crc.app _).length≤_; simp [Crc.app,Crc.four]; omega
theorem a_sealCheck (k:List UInt8) (hk:k.length≤1000000000) (h:Hp):ACall Tryz.prog GT 29 [.str k] h fun r h'=>r = .int .i64 (Seal.check k)∧h'=h:=
 acall_imp (args1 r_str) (fun w hg=>(check_any ⟨k.toArray⟩ w (by rw [size_mk]; exact hk)).mono fun e w' ⟨h1,h2⟩=>⟨h1,by rw [h2]; exact Below.refl _ _⟩) (fun C=>rep_int.2 rfl) h
theorem a_seal (k:List UInt8) (n:Int) (p:List UInt8) (hk:k.length≤1000000000) (hn:Seal.U64 n) (hp:p.length≤1048576) (h:Hp):ACall Tryz.prog GT 46 [.str k,.int .u64 n,.str p] h fun r h'=>r = .tup [.str (Seal.enc k n p).1,.int .i64 (Seal.enc k n p).2]∧h'=h:=
 acall_imp (args3 r_str r_int r_str) (fun w hg=>enc_any ⟨k.toArray⟩ n ⟨p.toArray⟩ w (by rw [size_mk]; exact hk) hn (by rw [size_mk]; exact hp)) (fun C=>rep_tup.2 ⟨_,rfl,repL_cons.2 ⟨_,_,rfl,rep_str.2 rfl,repL_cons.2 ⟨_,_,rfl,rep_int.2 rfl,repL_nil.2 rfl⟩⟩⟩) h
theorem a_open (k p:List UInt8) (hk:k.length≤1000000000) (hp:p.length≤1048600) (h:Hp):ACall Tryz.prog GT 50 [.str k,.str p] h fun r h'=>r = .tup [.str (Seal.dec k p).1,.int .i64 (Seal.dec k p).2]∧h'=h:=
 acall_imp (args2 r_str r_str) (fun w hg=>dec_any ⟨k.toArray⟩ ⟨p.toArray⟩ w (by rw [size_mk]; exact hk) (by rw [size_mk]; exact hp)) (fun C=>rep_tup.2 ⟨_,rfl,repL_cons.2 ⟨_,_,rfl,rep_str.2 rfl,repL_cons.2 ⟨_,_,rfl,rep_int.2 rfl,repL_nil.2 rfl⟩⟩⟩) h
theorem u64_wrap (n:Int):Seal.U64 (IntKind.u64.wrap n):=by
 rw [IntKind.wrap_u64]
 exact ⟨Int.emod_nonneg _ (by decide),Int.emod_lt_of_pos _ (by decide)⟩
def c_splain:AX.AFn:=⟨27,aS [aR 4 (.mv (.c (.str []))),aR 5 (.mv (aI 0))] (aS [aM 9 0,aR 10 (.nilck (.t 9)),aF 11 3 10,aL 12 11,aM 13 1,aR 14 (.mget (.str []) true (.t 12) (.t 13)),aM 8 14,aE 15 8 0,aE 16 8 1,aM 6 15,aM 7 16] (.seq (aS [aM 17 7,aR 18 (.un .not (.t 17))] (.cond (.t 18) (aS [aR 4 (.mv (.c (.str []))),aR 5 (.mv (aI 9))] (.ret)) (.skip))) (aS [aM 19 0,aR 20 (.nilck (.t 19)),aF 21 0 20,aL 22 21,aM 23 6,aR 24 (.call 50 [.t 22,.t 23]),aE 25 24 0,aE 26 24 1,aM 4 25,aM 5 26] (.ret)))),[.t 4,.t 5]⟩
theorem h_splain:AX.compFn Tryz.prog 40=some c_splain:=by kernel_rfl
def c_sat:AX.AFn:=⟨34,aS [aR 4 (.alloc 39 [.str [],.int .i64 0,.sl 0 .nil [],.sl 0 .nil [],.sl 0 .nil []]),aR 5 (.mv (aI 0))] (.seq (aS [aM 9 0,aR 10 (.call 35 [.t 9]),aR 11 (.un .not (.t 10))] (.cond (.t 11) (aS [aR 12 (.build [.str [],.int .i64 0,.sl 0 .nil [],.sl 0 .nil [],.sl 0 .nil []] []),aU (.store 5 (.t 4) (.t 12)),aR 5 (.mv (aI 38))] (.ret)) (.skip))) (aS [aM 14 0,aM 15 1,aR 16 (.call 40 [.t 14,.t 15]),aM 13 16,aE 17 13 0,aE 18 13 1,aM 6 17,aM 7 18] (.seq (aS [aM 19 7,aR 20 (.bin .neq (.t 19) (aI 0))] (.cond (.t 20) (aS [aR 21 (.build [.str [],.int .i64 0,.sl 0 .nil [],.sl 0 .nil [],.sl 0 .nil []] []),aM 22 7,aU (.store 5 (.t 4) (.t 21)),aM 5 22] (.ret)) (.skip))) (aS [aM 24 6,aR 25 (.call 41 [.t 24]),aM 23 25,aE 26 23 0,aE 27 23 1,aR 8 (.alloc 39 [.str [],.int .i64 0,.sl 0 .nil [],.sl 0 .nil [],.sl 0 .nil []]),aU (.store 5 (.t 8) (.t 26)),aM 7 27] (.seq (aS [aM 28 7,aR 29 (.bin .eql (.t 28) (aI 0))] (.cond (.t 29) (.reg false [aR 30 (.load true 5 (.t 8)),aR 31 (.call 42 [.t 30]),aM 7 31]) (.skip))) (aS [aR 32 (.load true 5 (.t 8)),aM 33 7,aU (.store 5 (.t 4) (.t 32)),aM 5 33] (.ret))))))),[.c 4 true 5,.t 5]⟩
theorem h_sat:AX.compFn Tryz.prog 23=some c_sat:=by kernel_rfl
def c_swrite:AX.AFn:=⟨36,aS [aR 5 (.box 39 (.t 2)),aR 6 (.mv (aI 0))] (.seq (.block 0 (aS [aM 8 0,aR 9 (.call 35 [.t 8]),aR 10 (.un .not (.t 9)),aM 7 10] (.cond (.t 7) (aS [aR 6 (.mv (aI 38))] (.ret)) (aS [aM 12 0,aM 13 1,aR 14 (.call 36 [.t 12,.t 13]),aR 15 (.un .not (.t 14)),aM 11 15] (.cond (.t 11) (aS [aR 6 (.mv (aI 25))] (.ret)) (.seq (.reg true [aF 17 0 5,⟨some 18,.load false 1 (.t 17),none,[0]⟩,aM 19 0,⟨some 20,.nilck (.t 19),none,[2]⟩,⟨some 21,.faddr 1 (.t 20),none,[3]⟩,⟨some 22,.load false 1 (.t 21),none,[4]⟩,⟨some 23,.bin .neq (.t 18) (.t 22),none,[1,5]⟩,⟨some 16,.mv (.t 23),none,[6]⟩]) (.cond (.t 16) (aS [aR 6 (.mv (aI 23))] (.ret)) (.seq (.reg true [aF 25 1 5,⟨some 26,.load false 1 (.t 25),none,[0]⟩,aM 27 0,⟨some 28,.nilck (.t 27),none,[2]⟩,⟨some 29,.faddr 2 (.t 28),none,[3]⟩,⟨some 30,.load false 1 (.t 29),none,[4]⟩,⟨some 31,.bin .add (.t 30) (aI 1),none,[5]⟩,⟨some 32,.bin .neq (.t 26) (.t 31),none,[1,6]⟩,⟨some 24,.mv (.t 32),none,[7]⟩]) (.cond (.t 24) (aS [aR 6 (.mv (aI 22))] (.ret)) (.skip)))))))))) (aS [aM 33 0,aR 34 (.load true 5 (.t 5)),aR 35 (.call 31 [.t 33,.t 34]),aM 6 35] (.ret))),[.t 6]⟩
theorem h_swrite:AX.compFn Tryz.prog 18=some c_swrite:=by kernel_rfl
def c_sraw:AX.AFn:=⟨23,aS [aR 4 (.mv (.c (.str []))),aR 5 (.mv (aI 0))] (.seq (aS [aM 8 0,aR 9 (.call 35 [.t 8]),aR 10 (.un .not (.t 9))] (.cond (.t 10) (aS [aR 4 (.mv (.c (.str []))),aR 5 (.mv (aI 38))] (.ret)) (.skip))) (aS [aM 12 0,aR 13 (.nilck (.t 12)),aF 14 3 13,aL 15 14,aM 16 1,aR 17 (.mget (.str []) true (.t 15) (.t 16)),aM 11 17,aE 18 11 0,aE 19 11 1,aM 6 18,aM 7 19] (.seq (aS [aM 20 7,aR 21 (.un .not (.t 20))] (.cond (.t 21) (aS [aR 4 (.mv (.c (.str []))),aR 5 (.mv (aI 9))] (.ret)) (.skip))) (aS [aM 22 6,aM 4 22,aR 5 (.mv (aI 0))] (.ret))))),[.t 4,.t 5]⟩
theorem h_sraw:AX.compFn Tryz.prog 24=some c_sraw:=by kernel_rfl
section
variable (s:Sto) (l:List Blk) (t:List (TypeId×Nat×Nat))
theorem a_keep (st:Sf.St) (hin:Sf.StIn st) (hk:s.key.length≤1000000000) (hE:(Sf.stE 2 st).length+20≤1000000000):ACall Tryz.prog GT 31 [.ptr 1 0,st.A] ⟨s.M::s.B::l,t⟩ fun r h'=>r = .int .i64 (s.keep st).2∧h'=⟨(s.keep st).1.M::(s.keep st).1.B::l,t⟩:=by
 refine liftS (s':=(s.keep st).1) ?_ rfl rfl l t
 refine fo ?_
 have hl:=Sf.encode_len 2 st
 have he:=a_Encode st (a_stateCheck st hin) (fun hz=>⟨Sf.stOk_of hz hin,hE⟩)
 obtain ⟨q,hq⟩:∃ q,s.keep st=q:=⟨_,rfl⟩
 rw [hq]
 unfold Sto.keep at hq
 obtain ⟨⟨p,e⟩,hp⟩:∃ q,Sf.encode 2 st=q:=⟨_,rfl⟩
 rw [hp] at hq he hl
 dsimp only at hq he hl
 have hs:=fun h=>a_seal s.key (IntKind.u64.wrap st.ser) p hk (u64_wrap _) hl h
 obtain ⟨⟨b,e2⟩,hb⟩:∃ q,Seal.enc s.key (IntKind.u64.wrap st.ser) p=q:=⟨_,rfl⟩
 rw [hb] at hq hs
 dsimp only at hq hs
 obtain ⟨lin,ser,ins,ps,os⟩:=st
 unfold Sf.St.A at he ⊢
 unfold Sto.B Sto.M
 dsimp only at hq hs he ⊢
 refine run0 ti ?_
 refine use (he _) ?_
 by_cases h1:e=0
 rotate_left
 ·rw [if_pos h1] at hq
  subst hq
  have e1:(e != 0)=true:=by simp [h1]
  refine run0 e1 ?_
  exact ⟨_,le_refl _,rfl,rfl,rfl⟩
 rw [if_neg (by simp [h1])] at hq
 have e1:(e != 0)=false:=by simp [h1]
 refine run0 e1 ?_
 refine use (hs _) ?_
 by_cases h2:e2=0
 rotate_left
 ·rw [if_pos h2] at hq
  subst hq
  have e3:(e2 != 0)=true:=by simp [h2]
  refine run0 e3 ?_
  exact ⟨_,le_refl _,rfl,rfl,rfl⟩
 rw [if_neg (by simp [h2])] at hq
 have e3:(e2 != 0)=false:=by simp [h2]
 subst hq
 refine run0 (ai e3 (ai mput_str merase_str)) ?_
 exact ⟨_,le_refl _,rfl,rfl,rfl⟩
theorem a_plain (n:Int) (hk:s.key.length≤1000000000) (hb:∀ b,lfind n s.es=some b→b.length≤1048600):ACall Tryz.prog GT 40 [.ptr 1 0,.int .i64 n] ⟨s.M::s.B::l,t⟩ fun r h'=>r = .tup [.str (s.plain n).1,.int .i64 (s.plain n).2]∧h'=⟨s.M::s.B::l,t⟩:=by
 refine liftS (s':=s) ?_ rfl rfl l t
 refine acall_of mixedT h_splain (by simp [c_splain]) ?_
 dsimp only [c_splain]
 obtain ⟨q,hq⟩:∃ q,s.plain n=q:=⟨_,rfl⟩
 rw [hq]
 unfold Sto.plain at hq
 have hf:=mfind_str n s.es
 cases hF:lfind n s.es with
 | none =>
  rw [hF] at hq hf
  dsimp only at hq
  subst hq
  have hf':mfind n (strM s.es)=none:=hf
  unfold Sto.B Sto.M
  refine run0 hf' ?_
  exact ⟨_,le_refl _,rfl,rfl,rfl⟩
 | some b =>
  rw [hF] at hq hf
  dsimp only at hq
  have hf':mfind n (strM s.es)=some (.str b):=hf
  have ho:=fun h=>a_open s.key b hk (hb b hF) h
  rw [hq] at ho
  unfold Sto.B Sto.M
  refine run0 hf' ?_
  refine use (ho _) ?_
  refine run0 ti ?_
  exact ⟨_,le_refl _,rfl,rfl,rfl⟩
theorem a_raw (n:Int):ACall Tryz.prog GT 24 [.ptr 1 0,.int .i64 n] ⟨s.M::s.B::l,t⟩ fun r h'=>r=(match lfind n s.es with | none => .tup [.str [],.int .i64 9] | some b => .tup [.str b,.int .i64 0])∧h'=⟨s.M::s.B::l,t⟩:=by
 refine liftS (s':=s) ?_ rfl ?_ l t
 rotate_left
 ·split <;> rfl
 refine acall_of mixedT h_sraw (by simp [c_sraw]) ?_
 dsimp only [c_sraw]
 have hf:=mfind_str n s.es
 have hm:=a_made s
 cases hF:lfind n s.es with
 | none =>
  rw [hF] at hf
  have hf':mfind n (strM s.es)=none:=hf
  unfold Sto.B Sto.M at hm ⊢
  refine run0 ti ?_
  refine use (hm _ _) ?_
  refine run0 hf' ?_
  exact ⟨_,le_refl _,rfl,rfl,rfl⟩
 | some b =>
  rw [hF] at hf
  have hf':mfind n (strM s.es)=some (.str b):=hf
  unfold Sto.B Sto.M at hm ⊢
  refine run0 ti ?_
  refine use (hm _ _) ?_
  refine run0 hf' ?_
  exact ⟨_,le_refl _,rfl,rfl,rfl⟩
theorem a_swrite (who:List UInt8) (st:Sf.St) (hin:Sf.StIn st) (hk:s.key.length≤1000000000) (hE:(Sf.stE 2 st).length+20≤1000000000):ACall Tryz.prog GT 18 [.ptr 1 0,.str who,st.A] ⟨s.M::s.B::l,t⟩ fun r h'=>r = .int .i64 (s.write who st).2∧h'=⟨(s.write who st).1.M::(s.write who st).1.B::l,t⟩:=by
 refine liftS (s':=(s.write who st).1) ?_ rfl rfl l t
 refine acall_of mixedT h_swrite (by simp [c_swrite]) ?_
 dsimp only [c_swrite]
 have hkp:=fun l t=>a_keep s l t st hin hk hE
 obtain ⟨q,hq⟩:∃ q,s.write who st=q:=⟨_,rfl⟩
 rw [hq]
 unfold Sto.write at hq
 have hm:=a_made s
 have hh:=fun l t=>a_holds s l t who
 obtain ⟨k,hkk⟩:∃ k,s.keep st=k:=⟨_,rfl⟩
 rw [hkk] at hq hkp
 obtain ⟨lin,ser,ins,ps,os⟩:=st
 unfold Sf.St.A at hkp ⊢
 dsimp only at hq
 rw [show s.B = .cells 70 [.str s.key,.str s.lin,.int .i64 s.latest,.mp 0,.str s.own,.int .i64 s.left] from rfl] at hm hh hkp ⊢
 refine run0 ti ?_
 refine use (hm _ _) ?_
 refine run0 ti ?_
 refine use (hh _ _) ?_
 cases hT:s.holds who
 ·rw [hT,if_pos (by decide)] at hq
  subst hq
  refine run0 ti ?_
  exact ⟨_,le_refl _,rfl,rfl,rfl⟩
 rw [hT,if_neg (by decide)] at hq
 by_cases h1:lin=s.lin
 rotate_left
 ·rw [if_pos h1] at hq
  subst hq
  have e1:(lin != s.lin)=true:=by simp [h1]
  refine run0 e1 ?_
  exact ⟨_,le_refl _,rfl,rfl,rfl⟩
 rw [if_neg (by simp [h1])] at hq
 have e1:(lin != s.lin)=false:=by simp [h1]
 by_cases h2:ser=IntKind.i64.wrap (s.latest+1)
 rotate_left
 ·rw [if_pos h2] at hq
  subst hq
  have e2:(ser != IntKind.i64.wrap (s.latest+1))=true:=by simp [h2]
  refine run0 (ai e1 e2) ?_
  exact ⟨_,le_refl _,rfl,rfl,rfl⟩
 rw [if_neg (by simp [h2])] at hq
 subst hq
 have e2:(ser != IntKind.i64.wrap (s.latest+1))=false:=by simp [h2]
 refine run0 (ai e1 e2) ?_
 refine use (hkp _ _) ?_
 refine run0 ti ?_
 exact ⟨_,le_refl _,rfl,rfl,rfl⟩
end
end AX
end Go.Proofs.YtahmpiioegemaabGreatDoor

namespace Go.Proofs.YtahmpiioegemaabGreatDoor
open Go.RowKit
namespace AX
namespace Sto
def lo (s:Sto):Int:=if 0 > s.latest - 63 then 0 else s.latest - 63
def upTo (lo:Int) (k:Nat):List Int:=(List.range k).map fun i:Nat=>lo+(i:Int)
def serials (s:Sto):List Int:=upTo s.lo (s.latest+1 - s.lo).toNat
end Sto
def rowsI (l:List Int):List (List A):=l.map fun n=>[.int .i64 n]
theorem upTo_succ (lo:Int) (k:Nat):rowsI (Sto.upTo lo (k+1))=rowsI (Sto.upTo lo k)++[[.int .i64 (lo+(k:Int))]]:=by
 unfold rowsI Sto.upTo
 rw [List.range_succ,List.map_append,List.map_append]
 rfl
theorem rowsI_len (lo:Int) (k:Nat):(rowsI (Sto.upTo lo k)).length=k:=by simp [rowsI,Sto.upTo]
def c_serials:AX.AFn:=⟨28,aS [aR 2 (.mv (.c (.sl 0 .nil [])))] (.seq (aS [aM 5 0,aR 6 (.call 35 [.t 5]),aR 7 (.un .not (.t 6))] (.cond (.t 7) (aS [aR 2 (.mv (.c (.sl 0 .nil [])))] (.ret)) (.skip))) (aS [aR 3 (.mv (.c (.sl 0 .nil [])))] (.seq (aS [aM 8 0,aR 9 (.nilck (.t 8)),aF 10 2 9,aL 11 10,aR 12 (.bin .sub (.t 11) (aI 64)),aR 13 (.bin .add (.t 12) (aI 1)),aR 14 (.mm true (.t 13) (aI 0)),aM 4 14] (.block 0 (.loop (.seq (aS [aM 15 4,aM 16 0,aR 17 (.nilck (.t 16)),aF 18 2 17,aL 19 18,aR 20 (.bin .leq (.t 15) (.t 19))] (.cond (.t 20) (.skip) (.exit 0))) (.seq (.block 1 (.reg false [aM 23 3,aM 24 4,aR 25 (.mks 1 [.t 24]),aR 26 (.app 3 1 8 (.t 23) (.t 25)),aM 3 26])) (.reg false [aM 21 4,aR 22 (.bin .add (.t 21) (aI 1)),aM 4 22])))))) (aS [aM 27 3,aM 2 27] (.ret))))),[.t 2]⟩
theorem h_serials:AX.compFn Tryz.prog 28=some c_serials:=by kernel_rfl
def c_snew:AX.AFn:=⟨30,aS [aR 4 (.mv (.c (.nilp))),aR 5 (.mv (aI 0))] (.seq (aS [aM 9 0,aR 10 (.call 29 [.t 9]),aM 6 10] (aS [aM 11 6,aR 12 (.bin .neq (.t 11) (aI 0))] (.cond (.t 12) (aS [aM 13 6,aR 4 (.mv (.c (.nilp))),aM 5 13] (.ret)) (.skip)))) (.seq (aS [aM 14 1,aR 15 (.call 30 [.t 14]),aR 16 (.un .not (.t 15))] (.cond (.t 16) (aS [aR 4 (.mv (.c (.nilp))),aR 5 (.mv (aI 1))] (.ret)) (.skip))) (aS [aM 17 0,aM 18 1,aR 19 (.mkmap),aR 20 (.build [.str [],.str [],.int .i64 0,.nilm,.str [],.int .i64 0] [(0,1,.t 17),(1,1,.t 18),(3,1,.t 19)]),aR 21 (.box 70 (.t 20)),aM 7 21] (.seq (aS [aM 22 7,aM 23 1,aR 24 (.build [.str [],.int .i64 0,.sl 0 .nil [],.sl 0 .nil [],.sl 0 .nil []] [(0,1,.t 23)]),aR 25 (.call 31 [.t 22,.t 24]),aM 8 25] (aS [aM 26 8,aR 27 (.bin .neq (.t 26) (aI 0))] (.cond (.t 27) (aS [aM 28 8,aR 4 (.mv (.c (.nilp))),aM 5 28] (.ret)) (.skip)))) (aS [aM 29 7,aM 4 29,aR 5 (.mv (aI 0))] (.ret)))))),[.t 4,.t 5]⟩
theorem h_snew:AX.compFn Tryz.prog 6=some c_snew:=by kernel_rfl
theorem a_serials (s:Sto) (l:List Blk) (t:List (TypeId×Nat×Nat)) (h0:0≤s.latest) (h1:s.latest≤9007199254740992):ACall Tryz.prog GT 28 [.ptr 1 0] ⟨s.M::s.B::l,t⟩ fun r h'=>r = .sl 1 .no (rowsI s.serials)∧h'=⟨s.M::s.B::l,t⟩:=by
 refine liftS (s':=s) ?_ rfl rfl l t
 refine acall_of mixedT h_serials (by simp [c_serials]) ?_
 dsimp only [c_serials]
 have hm:=a_made s
 unfold Sto.B at hm ⊢
 have w1:IntKind.i64.wrap (s.latest - 64)=s.latest - 64:=wrap64 (by omega) (by omega)
 have w2:IntKind.i64.wrap (s.latest - 64+1)=s.latest - 63:=by rw [wrap64 (by omega) (by omega)]; omega
 obtain ⟨lo,hlo⟩:∃ lo,s.lo=lo:=⟨_,rfl⟩
 have w3:(if 0 > s.latest - 63 then 0 else s.latest - 63)=lo:=hlo
 have b1:0≤lo∧lo≤s.latest:=by rw [←w3]; split <;> omega
 have b2:s.latest≤lo+63:=by rw [←w3]; split <;> omega
 refine run0 ti ?_
 refine use (hm _ _) ?_
 refine run0 (ai w1 (ai w2 w3)) ?_
 have upTo0:rowsI (Sto.upTo lo 0)=[]:=rfl
 have upTo1:lo+((0:Nat):Int)=lo:=by simp
 refine awp_loop (fun mm ts h=>∃ (k:Nat) (W:Nat) (o:Own) (t:List (TypeId×Nat×Nat)),mm+k=(s.latest+1 - lo).toNat ∧
  h=⟨[s.M,.cells 70 [.str s.key,.str s.lin,.int .i64 s.latest,.mp 0,.str s.own,.int .i64 s.left]],t⟩ ∧
  Gs 3 1 0 ⟨[],t⟩ (rowsI (Sto.upTo lo k)) (.sl W o (rowsI (Sto.upTo lo k)))∧ts 0 = .ptr 1 0∧ts 3 = .sl W o (rowsI (Sto.upTo lo k))∧ts 4 = .int .i64 (lo+(k:Int))) (s.latest+1 - lo).toNat ?_ ?_
 ·exact ⟨0,0,.nil,[],by omega,rfl,.inl ⟨rfl,rfl⟩,by (exact ev0 ti),by (exact ev0 upTo0),by (exact ev0 upTo1)⟩
 rintro mm ts h ⟨k,W,o,t,hk,rfl,gX,t0,t3,t4⟩
 cases mm with
 | zero =>
  have e1:¬ (lo+(k:Int)≤s.latest):=by omega
  refine run0 (ai t0 (ai t3 (ai t4 e1))) ?_
  refine ⟨_,?_,rfl,rfl,rfl⟩
  have hk':k=(s.latest+1 - lo).toNat:=by omega
  rw [show s.serials=Sto.upTo lo k by unfold Sto.serials; rw [hlo,hk']]
  rw [tupA_1]
  rcases gX with ⟨hr,hx⟩ | ⟨j,_,hx,_⟩
  ·exfalso
   have:=rowsI_len lo k
   rw [hr] at this
   simp at this
   omega
  ·injection hx with hx1 hx2 hx3
   subst hx1
   exact ⟨rfl,.inl rfl,.inl rfl⟩
 | succ f =>
  have e1:lo+(k:Int)≤s.latest:=by omega
  obtain ⟨W',o',t',hX,gX',_⟩:=gX.grow 8 [.int .i64 (lo+(k:Int))] (by rw [rowsI_len]; omega) (by decide)
  rw [←upTo_succ] at gX'
  simp only [←upTo_succ] at hX
  have w4:IntKind.i64.wrap (lo+(k:Int)+1)=lo+((k+1:Nat):Int):=by rw [wrap64 (by omega) (by omega)]; omega
  refine run0 (ai t0 (ai t3 (ai t4 (ai e1 (ai hX w4))))) ?_
  exact ⟨f,by omega,k+1,W',o',t',by omega,rfl,gX',by (exact ev0 t0),by (exact ev0 t3),by (exact ev0 t4)⟩
def Sto.new (key lin:List UInt8):Sto:=⟨key,lin,0,[],0,[],0⟩
theorem new_len (lin:List UInt8) (hl:lin.length≤900000):Sf.StIn ⟨lin,0,[],[],[]⟩:=⟨by dsimp only; omega,by simp,by simp,by simp,by simp,by simp,by simp⟩
theorem a_new (key lin:List UInt8) (hk:key.length≤1000000000) (hl:lin.length≤900000) (hE:(Sf.stE 2 ⟨lin,0,[],[],[]⟩).length+20≤1000000000) (hc:Seal.check key=0) (ht:Sto.txt lin=true) (hz:((Sto.new key lin).keep ⟨lin,0,[],[],[]⟩).2=0) :
  ACall Tryz.prog GT 6 [.str key,.str lin] ⟨[],[]⟩ fun r h'=>r = .tup [.ptr 1 0,.int .i64 0]∧h'=⟨[((Sto.new key lin).keep ⟨lin,0,[],[],[]⟩).1.M,((Sto.new key lin).keep ⟨lin,0,[],[],[]⟩).1.B],[]⟩:=by
 refine acall_of mixedT h_snew (by simp [c_snew]) ?_
 dsimp only [c_snew]
 have hkp:=a_keep (Sto.new key lin) [] [] ⟨lin,0,[],[],[]⟩ (new_len lin hl) hk hE
 obtain ⟨⟨s2,e⟩,hq⟩:∃ q,(Sto.new key lin).keep ⟨lin,0,[],[],[]⟩=q:=⟨_,rfl⟩
 rw [hq] at hkp hz ⊢
 dsimp only at hkp hz ⊢
 subst hz
 have hkp':ACall Tryz.prog GT 31 [.ptr 1 0,.agg [.str lin,.int .i64 0,.sl 0 .nil [],.sl 0 .nil [],.sl 0 .nil []]] ⟨[(Sto.new key lin).M,(Sto.new key lin).B],[]⟩ (fun r h'=>r = .int .i64 0∧h'=⟨[s2.M,s2.B],[]⟩):=by
  refine ACall.args ?_ hkp
  exact ⟨rfl,⟨le1_refl _,le1_refl _,⟨rfl,.inr rfl,.inl rfl⟩,⟨rfl,.inr rfl,.inl rfl⟩,⟨rfl,.inr rfl,.inl rfl⟩,trivial⟩,trivial⟩
 have hM:(Sto.new key lin).M = .map [] 0:=rfl
 have hB:(Sto.new key lin).B = .cells 70 [.str key,.str lin,.int .i64 0,.mp 0,.str [],.int .i64 0]:=rfl
 rw [hM,hB] at hkp'
 have hc':=fun h=>a_sealCheck key hk h
 rw [hc] at hc'
 have ht':=fun h=>a_sttext lin (by omega) h
 rw [ht] at ht'
 refine run0 ti ?_
 refine use (hc' _) ?_
 refine run0 ti ?_
 refine use (ht' _) ?_
 refine run0 ti ?_
 refine use hkp' ?_
 refine run0 ti ?_
 exact ⟨_,le_refl _,rfl,rfl⟩
end AX
end Go.Proofs.YtahmpiioegemaabGreatDoor

namespace Go.Proofs.YtahmpiioegemaabGreatDoor
open Go.RowKit
open Go.ChangeMaps (setBlock)
namespace AX
def pin (k:Nat) (o:Obj):Blk:=.opq (fun _ k' w=>k'=k∧w.heap[k]?=some o) (fun _=>none)
section
variable {P:Program} {G:World→Prop} {C0:Ctx} {n:Nat}
theorem pin_get {C:Ctx} {h:Hp} {i k:Nat} {o:Obj} (hI:Inv G C h) (hb:h.b[i]?=some (pin k o)):C.κ i=k∧C.w.heap[k]?=some o:=by
 have:=(hI.box i _ hb).1 C.w (fun _ _=>rfl) (Nat.le_refl _)
 exact this
theorem pin_rep {C:Ctx} {i k:Nat} {o:Obj} (hown:C.own (C.κ i)=some i) (h1:C.κ i=k) (h2:C.w.heap[k]?=some o):BlkRep C i (pin k o):=
 ⟨fun w' hw hs=>⟨h1,by have:=hw _ hown; rw [h1] at this; rw [this]; exact h2⟩,fun o x hx=>by cases hx⟩
structure Pst (G:World→Prop) (C0:Ctx) (n:Nat) (ts:Ts) (h:Hp) (a:Act) (w:World):Prop where
 out:∃ C:Ctx,C.w=w∧Inv G C h∧Step C0 C∧RepT C ts n a∧a.defers=[]
theorem pst_of {C:Ctx} {ts:Ts} {h:Hp} {a:Act} (hI:Inv G C h) (hT:RepT C ts n a) (hd:a.defers=[]):Pst G C n ts h a C.w:=⟨C,rfl,hI,Step.refl C,hT,hd⟩
theorem Pst.post {ts:Ts} {h:Hp} {a:Act} {w:World} {Q:AExit→Ts→Hp→Prop} (k:Pst G C0 n ts h a w) (hq:Q .normal ts h):Post G C0 n Q .normal a w:=by
 obtain ⟨C,h1,h2,h3,h4,h5⟩:=k.out
 exact ⟨C,ts,h,.normal,.normal,h1,h2,h3,h4,h5,hq⟩
def Es:List (Int×List UInt8)→List MapEntry→Prop
 | [],es=>es=[]
 | (k,x)::l,es=>∃ e es',es=e::es'∧e.key = .int .i64 k∧e.val = .string ⟨x.toArray⟩∧Es l es'
theorem es_of {C:Ctx}:∀ {l:List (Int×List UInt8)} {es:List MapEntry},RepEs C (l.map fun e=>(e.1,A.str e.2)) es→Es l es
 | [],es,h=>h
 | (k,x)::l,es,h=>by
  obtain ⟨e,es',h1,h2,h3,h4⟩:=h
  exact ⟨e,es',h1,h2,rep_str.1 h3,es_of h4⟩
theorem es_mem:∀ {l:List (Int×List UInt8)} {es:List MapEntry},Es l es→∀ e∈es,∃ k x,(k,x)∈l∧e.key = .int .i64 k∧e.val = .string ⟨x.toArray⟩
 | [],es,h,e,he=>by have:es=[]:=h; subst this; cases he
 | (k,x)::l,es,h,e,he=>by
  obtain ⟨e0,es',rfl,h2,h3,h4⟩:=h
  rcases List.mem_cons.1 he with rfl | he
  ·exact ⟨k,x,by simp,h2,h3⟩
  ·obtain ⟨k',x',m1,m2⟩:=es_mem h4 e he
   exact ⟨k',x',List.mem_cons_of_mem _ m1,m2⟩
theorem es_mem':∀ {l:List (Int×List UInt8)} {es:List MapEntry},Es l es→∀ k x,(k,x)∈l→∃ e∈es,e.key = .int .i64 k∧e.val = .string ⟨x.toArray⟩
 | [],es,h,k,x,he=>by cases he
 | (k0,x0)::l,es,h,k,x,he=>by
  obtain ⟨e0,es',rfl,h2,h3,h4⟩:=h
  rcases List.mem_cons.1 he with he | he
  ·injection he with e1 e2; subst e1; subst e2
   exact ⟨e0,by simp,h2,h3⟩
  ·obtain ⟨e,m1,m2⟩:=es_mem' h4 k x he
   exact ⟨e,List.mem_cons_of_mem _ m1,m2⟩
theorem pl_nil {ops:Array Oper} {Q:Exit→Act→World→Prop} {ts:Ts} {h:Hp} {a:Act} {w:World} (k:Q .normal a w):wpList P ops Q [] a w:=by
 unfold wpList; exact k
theorem pl_op {ops:Array Oper} {os:List Oper} {o:Oper} {ao:AOp} {Q:Exit→Act→World→Prop} {ts:Ts} {h h':Hp} {a:Act} {w:World} {v:A} (k:Pst G C0 n ts h a w) (hg:o.guard=none) (hd:compDst n o.dst=true) (hc:compOp P n o=some ao) (hcall:ao.isCall=false)
  (hs:astep (evX ts) h ao=some (v,h')) (hk:∀ a' w',Pst G C0 n (put ts o.dst v) h' a' w'→wpList P ops Q os a' w'):wpList P ops Q (o::os) a w:=by
 obtain ⟨C,rfl,hI,hS,hT,hdf⟩:=k.out
 unfold wpList
 rw [if_pos (by simp [Region.wanted,hg])]
 have hp:aopP P G (evX ts) h (fun v' h2=>v'=v∧h2=h') ao:=by
  cases ao with
  | call=>simp [AOp.isCall] at hcall
  | callv=>simp [AOp.isCall] at hcall
  | _=>simp only [aopP]; rw [hs]; exact ⟨rfl,rfl⟩
 refine .inl (aop_wp hI hT hc hp fun C' h2 v' cv k1 k2 k3 k4=>?_)
 obtain ⟨rfl,rfl⟩:=k4
 exact hk _ _ ⟨C',rfl,k1,hS.trans k2,(hT.ext k2.ext).put hd k3,by rw [put_defers]; exact hdf⟩
def regId:Code→Nat
 | .region id _ _=>id
 | _=>0
def regOps:Code→Array Oper
 | .region _ ops _=>ops
 | _=>#[]
def opAt (c:Code) (i:Nat):Oper:=(regOps c).toList.getD i default
theorem wp_prim {c:Code} {id:Nat} {ops:Array Oper} {l:List Oper} {Q:Exit→Act→World→Prop} {a:Act} {w:World} (hc:c = .region id ops false) (hl:ops.toList=l) (k:wpList P ops Q l a w):c.wp P Q a w:=by
 subst hc
 exact wp_region_list (by rw [hl]; exact k)
theorem pl_range {ops:Array Oper} {os:List Oper} {o:Oper} {T q e:TypeId} {x:Operand} {xo:Opd} {m c:Nat} {l:List (Int×List UInt8)} {Q:Exit→Act→World→Prop} {ts:Ts} {h:Hp} {a:Act} {w:World} (k:Pst G C0 n ts h a w) (hg:o.guard=none) (hd:compDst n o.dst=true)
  (hop:o.op = .range T x) (hu:P.underlying T=some (.map q e)) (hx:compX n x=some xo) (hv:evX ts xo = .mp m) (hb:h.b[m]?=some (.map (l.map fun e=>(e.1,A.str e.2)) c))
  (hk:∀ (g r:Nat) (es:Array MapEntry) a' w',Es l es.toList→BornOk es.toList c→Pst G C0 n (put ts o.dst (.ptr h.b.length 0)) ⟨h.b.set m (pin g (.map es c))++[pin r (.mapIter (some g) c #[] c)],h.t⟩ a' w'→wpList P ops Q os a' w'):wpList P ops Q (o::os) a w:=by
 obtain ⟨C,rfl,hI,hS,hT,hdf⟩:=k.out
 have hrep:=rep_opd hT hx
 rw [hv] at hrep
 obtain ⟨hev,hm⟩:=rep_mp.1 hrep
 obtain ⟨es,k1,k2,k3⟩:=hI.box m _ hb
 obtain ⟨i1,s1⟩:=box_turn (w':=C.w) (i:=m) (b':=pin (C.κ m) (.map es c)) false hI hm rfl rfl rfl (Nat.le_refl _) (fun _ _ _=>rfl) (fun hS=>pin_rep (by
  rw [show (C.turn C.w m false).κ m=C.κ m from rfl]
  show (if C.κ m < C.w.heap.size then C.own (C.κ m) else _)=some m
  rw [if_pos (hI.ownlt _ _ (hI.ownk m hm)).2.1]
  exact hI.ownk m hm) rfl k1)
 have hrun:=run_range_map (P:=P) C.w T q e (C.κ m) es c hu k1
 obtain ⟨C',h1,h2,h3,h4,h5⟩:=alloc_blk (C:=C.turn C.w m false) (w:=C.w) (ob:=.mapIter (some (C.κ m)) c #[] c) (b0:=pin C.w.heap.size (.mapIter (some (C.κ m)) c #[] c)) (.inl rfl) i1 (fun C' i hE hκ ho hh=>pin_rep ho hκ (by rw [hκ] at hh; exact hh))
 unfold wpList
 rw [if_pos (by simp [Region.wanted,hg])]
 refine .inl ?_
 unfold Oper.wp
 have he:(execOp a.eval o).run P C.w = .ok (.value (.pointer (some ⟨C.w.heap.size,0,none⟩))) (C.w.alloc (.mapIter (some (C.κ m)) c #[] c)):=by
  unfold execOp
  simp only [hop,hev,Sem.run_bind,hrun,Result.andThen_ok]
  rfl
 rw [he,Oper.upon_value,←show C'.w=C.w.alloc _ from h1]
 refine hk (C.κ m) C.w.heap.size es _ _ (es_of k2) k3 ⟨C',rfl,by simpa using h2,hS.trans (s1.trans h3),((hT.ext s1.ext).ext h3.ext).put hd (rep_ptr.2 ⟨?_,by simpa using h5⟩),by rw [put_defers]; exact hdf⟩
 rw [List.length_set] at h4
 rw [h4]; rfl
theorem pl_next {ops:Array Oper} {os:List Oper} {o:Oper} {x:Operand} {xo:Opd} {i m g r c:Nat} {es:Array MapEntry} {seen:Array Nat} {l:List (Int×List UInt8)} {Q:Exit→Act→World→Prop} {ts:Ts} {h:Hp} {a:Act} {w:World} (k:Pst G C0 n ts h a w) (hg:o.guard=none) (hd:compDst n o.dst=true)
  (hop:o.op = .next x false) (hx:compX n x=some xo) (hv:evX ts xo = .ptr i 0) (hb:h.b[m]?=some (pin g (.map es c))) (hi:h.b[i]?=some (pin r (.mapIter (some g) c seen c))) (hes:Es l es.toList) (hbo:BornOk es.toList c)
  (h0:(leftOf es seen).size=0→∀ a' w',Pst G C0 n (put ts o.dst (.tup [.bool false])) h a' w'→wpList P ops Q os a' w')
  (h1:∀ e∈(leftOf es seen).toList,∀ kk xx,(kk,xx)∈l→e.key = .int .i64 kk→e.val = .string ⟨xx.toArray⟩→∀ a' w',Pst G C0 n (put ts o.dst (.tup [.bool true,.int .i64 kk,.str xx])) ⟨h.b.set i (pin r (.mapIter (some g) c (seen.push e.born) c)),h.t⟩ a' w'→wpList P ops Q os a' w'):wpList P ops Q (o::os) a w:=by
 obtain ⟨C,rfl,hI,hS,hT,hdf⟩:=k.out
 have hrep:=rep_opd hT hx
 rw [hv] at hrep
 obtain ⟨hev,hib⟩:=rep_ptr.1 hrep
 obtain ⟨q1,q2⟩:=pin_get hI hb
 obtain ⟨q3,q4⟩:=pin_get hI hi
 rw [q3] at hev
 unfold wpList
 rw [if_pos (by simp [Region.wanted,hg])]
 refine .inl ?_
 unfold Oper.wp
 rcases run_next_at (P:=P) C.w o.type r g c c seen es c q4 q2 (fun x hx=>hbo.2 x hx) (Nat.le_refl _) with ⟨e0,hr⟩ | ⟨e,he,w1,hw1,hr⟩
 ·have he:(execOp a.eval o).run P C.w = .ok (.value (.tuple #[.bool false])) C.w:=by
   unfold execOp
   simp only [hop,hev,Sem.run_bind,hr,Result.andThen_ok]
   rfl
  rw [he,Oper.upon_value]
  exact h0 e0 _ _ ⟨C,rfl,hI,hS,hT.put hd (rep_tup.2 ⟨_,rfl,repL_cons.2 ⟨_,_,rfl,rep_bool.2 rfl,repL_nil.2 rfl⟩⟩),by rw [put_defers]; exact hdf⟩
 ·obtain ⟨kk,xx,m1,m2,m3⟩:=es_mem hes e (mem_left he).1
  have hex:(execOp a.eval o).run P C.w = .ok (.value (.tuple #[.bool true,e.key,e.val])) (setBlock w1 r (.mapIter (some g) c (seen.push e.born) c)):=by
   unfold execOp
   simp only [hop,hev,Sem.run_bind,hr,Result.andThen_ok]
   rfl
  rw [hex,Oper.upon_value]
  have hwh:w1.heap=C.w.heap∧w1.os=C.w.os∧w1.tape=C.w.tape∧w1.output=C.w.output:=by rcases hw1 with rfl | rfl <;> exact ⟨rfl,rfl,rfl,rfl⟩
  have hrl:r < C.w.heap.size:=(Array.getElem?_eq_some_iff.1 q4).1
  have hown:C.own r=some i:=by rw [←q3]; exact hI.ownk i hib
  obtain ⟨i1,s1⟩:=box_turn (w':=setBlock w1 r (.mapIter (some g) c (seen.push e.born) c)) (i:=i) (b':=pin r (.mapIter (some g) c (seen.push e.born) c)) false hI hib hwh.2.1 hwh.2.2.1 hwh.2.2.2
   (by show C.w.heap.size≤(w1.heap.setIfInBounds r _).size; rw [hwh.1]; simp)
   (fun gg hgg ho=>by
    have hne:r≠gg:=fun e=>ho (by rw [←e]; exact hown)
    show (w1.heap.setIfInBounds r _)[gg]?=_
    rw [Array.getElem?_setIfInBounds_ne hne,hwh.1])
   (fun hS=>pin_rep (by
    rw [show (C.turn _ i false).κ i=C.κ i from rfl]
    show (if C.κ i < C.w.heap.size then C.own (C.κ i) else _)=some i
    rw [q3,if_pos hrl]; exact hown) q3 (by
    show (w1.heap.setIfInBounds r _)[r]?=_
    rw [Array.getElem?_setIfInBounds_self_of_lt (by rw [hwh.1]; exact hrl)]))
  refine h1 e he kk xx m1 m2 m3 _ _ ⟨_,rfl,i1,hS.trans s1,(hT.ext s1.ext).put hd (rep_tup.2 ⟨_,rfl,repL_cons.2 ⟨_,_,rfl,rep_bool.2 rfl,repL_cons.2 ⟨_,_,rfl,rep_int.2 m2,repL_cons.2 ⟨_,_,rfl,rep_str.2 m3,repL_nil.2 rfl⟩⟩⟩⟩),by rw [put_defers]; exact hdf⟩
theorem pl_entry {ops:Array Oper} {os:List Oper} {o:Oper} {x:Operand} {xo:Opd} {i m g r c:Nat} {es:Array MapEntry} {seen:Array Nat} {e:MapEntry} {kk:Int} {xx:List UInt8} {Q:Exit→Act→World→Prop} {ts:Ts} {h:Hp} {a:Act} {w:World} (k:Pst G C0 n ts h a w) (hg:o.guard=none) (hd:compDst n o.dst=true)
  (hop:o.op = .entry x) (hx:compX n x=some xo) (hv:evX ts xo = .ptr i 0) (hb:h.b[m]?=some (pin g (.map es c))) (hi:h.b[i]?=some (pin r (.mapIter (some g) c (seen.push e.born) c))) (hbo:BornOk es.toList c) (he:e∈es.toList) (m2:e.key = .int .i64 kk) (m3:e.val = .string ⟨xx.toArray⟩)
  (h1:∀ a' w',Pst G C0 n (put ts o.dst (.tup [.int .i64 kk,.str xx])) h a' w'→wpList P ops Q os a' w'):wpList P ops Q (o::os) a w:=by
 obtain ⟨C,rfl,hI,hS,hT,hdf⟩:=k.out
 have hrep:=rep_opd hT hx
 rw [hv] at hrep
 obtain ⟨hev,hib⟩:=rep_ptr.1 hrep
 obtain ⟨q1,q2⟩:=pin_get hI hb
 obtain ⟨q3,q4⟩:=pin_get hI hi
 rw [q3] at hev
 have hr:=run_entry_at (P:=P) C.w r g c seen es c e q4 q2 he hbo.1
 unfold wpList
 rw [if_pos (by simp [Region.wanted,hg])]
 refine .inl ?_
 unfold Oper.wp
 have hex:(execOp a.eval o).run P C.w = .ok (.value (.tuple #[e.key,e.val])) C.w:=by
  unfold execOp
  simp only [hop,hev,Sem.run_bind,hr,Result.andThen_ok]
  rfl
 rw [hex,Oper.upon_value]
 exact h1 _ _ ⟨C,rfl,hI,hS,hT.put hd (rep_tup.2 ⟨_,rfl,repL_cons.2 ⟨_,_,rfl,rep_int.2 m2,repL_cons.2 ⟨_,_,rfl,rep_str.2 m3,repL_nil.2 rfl⟩⟩⟩),by rw [put_defers]; exact hdf⟩
theorem q_range {ops:Array Oper} {o0 o1:Oper} {x d0 d1 m c:Nat} {T q e:TypeId} {l:List (Int×List UInt8)} {Q:AExit→Ts→Hp→Prop} {C:Ctx} {ts:Ts} {h:Hp} {a:Act} {w:World} (k:Pst G C n ts h a w)
  (e0:o0.dst=some d0∧o0.guard=none∧compOp P n o0=some (.mv (.t x))) (e1:o1.dst=some d1∧o1.guard=none∧o1.op = .range T (.tmp d0)) (hd:d0 < n∧d1 < n) (hu:P.underlying T=some (.map q e))
  (tx:ts x = .mp m) (hb:h.b[m]?=some (.map (l.map fun e=>(e.1,A.str e.2)) c))
  (hk:∀ (g r:Nat) (es:Array MapEntry),Es l es.toList→BornOk es.toList c→Q .normal (put (put ts (some d0) (.mp m)) (some d1) (.ptr h.b.length 0)) ⟨h.b.set m (pin g (.map es c))++[pin r (.mapIter (some g) c #[] c)],h.t⟩) :
  wpList P ops (Post G C n Q) [o0,o1] a w:=by
 obtain ⟨a1,a2,a3⟩:=e0
 obtain ⟨b1,b2,b3⟩:=e1
 refine pl_op (ao:=.mv (.t x)) (v:=.mp m) (h':=h) k a2 (by rw [a1]; simpa [compDst] using hd.1) a3 rfl (by show some (ts x,h)=_; rw [tx]) fun a' w' k1=>?_
 rw [a1] at k1
 refine pl_range (T:=T) (q:=q) (e:=e) (x:=.tmp d0) (xo:=.t d0) (m:=m) (c:=c) (l:=l) k1 b2 (by rw [b1]; simpa [compDst] using hd.2) b3 hu (by simp [compX,hd.1]) (by show (if d0=d0 then A.mp m else ts d0)=_; rw [if_pos rfl]) hb fun g r es a2 w2 e1 e2 k2=>?_
 rw [b1] at k2
 exact pl_nil (ts:=ts) (h:=h) (k2.post (hk g r es e1 e2))
theorem q_next {ops:Array Oper} {o0 o1:Oper} {it d0 d1 i m g r c:Nat} {es:Array MapEntry} {seen:Array Nat} {l:List (Int×List UInt8)} {Q:AExit→Ts→Hp→Prop} {C:Ctx} {ts:Ts} {h:Hp} {a:Act} {w:World} (k:Pst G C n ts h a w)
  (e0:o0.dst=some d0∧o0.guard=none∧o0.op = .next (.tmp it) false) (e1:o1.dst=some d1∧o1.guard=none∧compOp P n o1=some (.extract (.t d0) 0)) (hd:it < n∧d0 < n∧d1 < n)
  (tx:ts it = .ptr i 0) (hb:h.b[m]?=some (pin g (.map es c))) (hi:h.b[i]?=some (pin r (.mapIter (some g) c seen c))) (hes:Es l es.toList) (hbo:BornOk es.toList c)
  (h0:(leftOf es seen).size=0→Q .normal (put (put ts (some d0) (.tup [.bool false])) (some d1) (.bool false)) h)
  (h1:∀ e∈(leftOf es seen).toList,∀ kk xx,(kk,xx)∈l→e.key = .int .i64 kk→e.val = .string ⟨xx.toArray⟩→Q .normal (put (put ts (some d0) (.tup [.bool true,.int .i64 kk,.str xx])) (some d1) (.bool true)) ⟨h.b.set i (pin r (.mapIter (some g) c (seen.push e.born) c)),h.t⟩) :
  wpList P ops (Post G C n Q) [o0,o1] a w:=by
 obtain ⟨a1,a2,a3⟩:=e0
 obtain ⟨b1,b2,b3⟩:=e1
 have ex:∀ v,put ts (some d0) v d0=v:=fun v=>by show (if d0=d0 then v else ts d0)=_; rw [if_pos rfl]
 refine pl_next (x:=.tmp it) (xo:=.t it) (i:=i) (m:=m) (g:=g) (r:=r) (c:=c) (es:=es) (seen:=seen) (l:=l) k a2 (by rw [a1]; simpa [compDst] using hd.2.1) a3 (by simp [compX,hd.1]) tx hb hi hes hbo (fun e0 a' w' k1=>?_) (fun e he kk xx m1 m2 m3 a' w' k1=>?_)
 ·rw [a1] at k1
  refine pl_op (ao:=.extract (.t d0) 0) (v:=.bool false) (h':=h) k1 b2 (by rw [b1]; simpa [compDst] using hd.2.2) b3 rfl (by simp only [astep,evX,ex]; rfl) fun a2 w2 k2=>?_
  rw [b1] at k2
  exact pl_nil (ts:=ts) (h:=h) (k2.post (h0 e0))
 ·rw [a1] at k1
  refine pl_op (ao:=.extract (.t d0) 0) (v:=.bool true) k1 b2 (by rw [b1]; simpa [compDst] using hd.2.2) b3 rfl (by simp only [astep,evX,ex]; rfl) fun a2 w2 k2=>?_
  rw [b1] at k2
  exact pl_nil (ts:=ts) (h:=h) (k2.post (h1 e he kk xx m1 m2 m3))
theorem q_entry {ops:Array Oper} {o0 o1 o2 o3 o4:Oper} {it d0 d1 d2 d3 d4 i m g r c:Nat} {es:Array MapEntry} {seen:Array Nat} {e:MapEntry} {kk:Int} {xx:List UInt8} {Q:AExit→Ts→Hp→Prop} {C:Ctx} {ts:Ts} {h:Hp} {a:Act} {w:World} (k:Pst G C n ts h a w)
  (e0:o0.dst=some d0∧o0.guard=none∧o0.op = .entry (.tmp it)) (e1:o1.dst=some d1∧o1.guard=none∧compOp P n o1=some (.extract (.t d0) 0)) (e2:o2.dst=some d2∧o2.guard=none∧compOp P n o2=some (.extract (.t d0) 1))
  (e3:o3.dst=some d3∧o3.guard=none∧compOp P n o3=some (.mv (.t d1))) (e4:o4.dst=some d4∧o4.guard=none∧compOp P n o4=some (.mv (.t d2))) (hd:it < n∧d0 < n∧d1 < n∧d2 < n∧d3 < n∧d4 < n) (hne:d1≠d0∧d2≠d1∧d3≠d2)
  (tx:ts it = .ptr i 0) (hb:h.b[m]?=some (pin g (.map es c))) (hi:h.b[i]?=some (pin r (.mapIter (some g) c (seen.push e.born) c))) (hbo:BornOk es.toList c) (he:e∈es.toList) (m2:e.key = .int .i64 kk) (m3:e.val = .string ⟨xx.toArray⟩)
  (h1:Q .normal (put (put (put (put (put ts (some d0) (.tup [.int .i64 kk,.str xx])) (some d1) (.int .i64 kk)) (some d2) (.str xx)) (some d3) (.int .i64 kk)) (some d4) (.str xx)) h) :
  wpList P ops (Post G C n Q) [o0,o1,o2,o3,o4] a w:=by
 obtain ⟨a1,a2,a3⟩:=e0
 obtain ⟨b1,b2,b3⟩:=e1
 obtain ⟨c1,c2,c3⟩:=e2
 obtain ⟨f1,f2,f3⟩:=e3
 obtain ⟨g1,g2,g3⟩:=e4
 have ex:∀ (ts:Ts) d v,put ts (some d) v d=v:=fun ts d v=>by show (if d=d then v else ts d)=_; rw [if_pos rfl]
 have en:∀ (ts:Ts) (d d':Nat) v,d'≠d→put ts (some d) v d'=ts d':=fun ts d d' v hh=>by show (if d'=d then v else ts d')=_; rw [if_neg hh]
 refine pl_entry (x:=.tmp it) (xo:=.t it) (i:=i) (m:=m) (g:=g) (r:=r) (c:=c) (es:=es) (seen:=seen) k a2 (by rw [a1]; simpa [compDst] using hd.2.1) a3 (by simp [compX,hd.1]) tx hb hi hbo he m2 m3 fun a1' w1 k1=>?_
 rw [a1] at k1
 refine pl_op (ao:=.extract (.t d0) 0) (v:=.int .i64 kk) (h':=h) k1 b2 (by rw [b1]; simpa [compDst] using hd.2.2.1) b3 rfl (by simp only [astep,evX,ex]; rfl) fun a2' w2 k2=>?_
 rw [b1] at k2
 refine pl_op (ao:=.extract (.t d0) 1) (v:=.str xx) (h':=h) k2 c2 (by rw [c1]; simpa [compDst] using hd.2.2.2.1) c3 rfl (by simp only [astep,evX,ex,en _ _ _ _ hne.1.symm]; rfl) fun a3' w3 k3=>?_
 rw [c1] at k3
 refine pl_op (ao:=.mv (.t d1)) (v:=.int .i64 kk) (h':=h) k3 f2 (by rw [f1]; simpa [compDst] using hd.2.2.2.2.1) f3 rfl (by simp only [astep,evX,ex,en _ _ _ _ hne.2.1.symm]) fun a4' w4 k4=>?_
 rw [f1] at k4
 refine pl_op (ao:=.mv (.t d2)) (v:=.str xx) (h':=h) k4 g2 (by rw [g1]; simpa [compDst] using hd.2.2.2.2.2) g3 rfl (by simp only [astep,evX,ex,en _ _ _ _ hne.2.2.symm]) fun a5' w5 k5=>?_
 rw [g1] at k5
 exact pl_nil (ts:=ts) (h:=h) (k5.post h1)
theorem pr_range {cd:Code} {x d0 d1 m c:Nat} {T q e:TypeId} {l:List (Int×List UInt8)} {Q:AExit→Ts→Hp→Prop} {ts:Ts} {h:Hp} (hc:cd = .region (regId cd) (regOps cd) false) (hl:(regOps cd).toList=[opAt cd 0,opAt cd 1])
  (e0:(opAt cd 0).dst=some d0∧(opAt cd 0).guard=none∧compOp P n (opAt cd 0)=some (.mv (.t x))) (e1:(opAt cd 1).dst=some d1∧(opAt cd 1).guard=none∧(opAt cd 1).op = .range T (.tmp d0)) (hd:d0 < n∧d1 < n) (hu:P.underlying T=some (.map q e))
  (tx:ts x = .mp m) (hb:h.b[m]?=some (.map (l.map fun e=>(e.1,A.str e.2)) c))
  (hk:∀ (g r:Nat) (es:Array MapEntry),Es l es.toList→BornOk es.toList c→Q .normal (put (put ts (some d0) (.mp m)) (some d1) (.ptr h.b.length 0)) ⟨h.b.set m (pin g (.map es c))++[pin r (.mapIter (some g) c #[] c)],h.t⟩) :
  awp P G (.prim n cd) Q ts h:=go_prim fun C a hI hT hdd=>wp_prim hc hl (q_range (pst_of hI hT hdd) e0 e1 hd hu tx hb hk)
theorem pr_next {cd:Code} {it d0 d1 i m g r c:Nat} {es:Array MapEntry} {seen:Array Nat} {l:List (Int×List UInt8)} {Q:AExit→Ts→Hp→Prop} {ts:Ts} {h:Hp} (hc:cd = .region (regId cd) (regOps cd) false) (hl:(regOps cd).toList=[opAt cd 0,opAt cd 1])
  (e0:(opAt cd 0).dst=some d0∧(opAt cd 0).guard=none∧(opAt cd 0).op = .next (.tmp it) false) (e1:(opAt cd 1).dst=some d1∧(opAt cd 1).guard=none∧compOp P n (opAt cd 1)=some (.extract (.t d0) 0)) (hd:it < n∧d0 < n∧d1 < n)
  (tx:ts it = .ptr i 0) (hb:h.b[m]?=some (pin g (.map es c))) (hi:h.b[i]?=some (pin r (.mapIter (some g) c seen c))) (hes:Es l es.toList) (hbo:BornOk es.toList c)
  (h0:(leftOf es seen).size=0→Q .normal (put (put ts (some d0) (.tup [.bool false])) (some d1) (.bool false)) h)
  (h1:∀ e∈(leftOf es seen).toList,∀ kk xx,(kk,xx)∈l→e.key = .int .i64 kk→e.val = .string ⟨xx.toArray⟩→Q .normal (put (put ts (some d0) (.tup [.bool true,.int .i64 kk,.str xx])) (some d1) (.bool true)) ⟨h.b.set i (pin r (.mapIter (some g) c (seen.push e.born) c)),h.t⟩) :
  awp P G (.prim n cd) Q ts h:=go_prim fun C a hI hT hdd=>wp_prim hc hl (q_next (pst_of hI hT hdd) e0 e1 hd tx hb hi hes hbo h0 h1)
theorem pr_entry {cd:Code} {it d0 d1 d2 d3 d4 i m g r c:Nat} {es:Array MapEntry} {seen:Array Nat} {e:MapEntry} {kk:Int} {xx:List UInt8} {Q:AExit→Ts→Hp→Prop} {ts:Ts} {h:Hp} (hc:cd = .region (regId cd) (regOps cd) false) (hl:(regOps cd).toList=[opAt cd 0,opAt cd 1,opAt cd 2,opAt cd 3,opAt cd 4])
  (e0:(opAt cd 0).dst=some d0∧(opAt cd 0).guard=none∧(opAt cd 0).op = .entry (.tmp it)) (e1:(opAt cd 1).dst=some d1∧(opAt cd 1).guard=none∧compOp P n (opAt cd 1)=some (.extract (.t d0) 0)) (e2:(opAt cd 2).dst=some d2∧(opAt cd 2).guard=none∧compOp P n (opAt cd 2)=some (.extract (.t d0) 1))
  (e3:(opAt cd 3).dst=some d3∧(opAt cd 3).guard=none∧compOp P n (opAt cd 3)=some (.mv (.t d1))) (e4:(opAt cd 4).dst=some d4∧(opAt cd 4).guard=none∧compOp P n (opAt cd 4)=some (.mv (.t d2))) (hd:it < n∧d0 < n∧d1 < n∧d2 < n∧d3 < n∧d4 < n) (hne:d1≠d0∧d2≠d1∧d3≠d2)
  (tx:ts it = .ptr i 0) (hb:h.b[m]?=some (pin g (.map es c))) (hi:h.b[i]?=some (pin r (.mapIter (some g) c (seen.push e.born) c))) (hbo:BornOk es.toList c) (he:e∈es.toList) (m2:e.key = .int .i64 kk) (m3:e.val = .string ⟨xx.toArray⟩)
  (h1:Q .normal (put (put (put (put (put ts (some d0) (.tup [.int .i64 kk,.str xx])) (some d1) (.int .i64 kk)) (some d2) (.str xx)) (some d3) (.int .i64 kk)) (some d4) (.str xx)) h) :
  awp P G (.prim n cd) Q ts h:=go_prim fun C a hI hT hdd=>wp_prim hc hl (q_entry (pst_of hI hT hdd) e0 e1 e2 e3 e4 hd hne tx hb hi hbo he m2 m3 h1)
end
end AX
end Go.Proofs.YtahmpiioegemaabGreatDoor

namespace Go.Proofs.YtahmpiioegemaabGreatDoor
open Go.RowKit
namespace AX
theorem lfind_put (n:Int) (x:List UInt8):∀ es,lfind n (lput n x es)=some x
 | []=>by simp [lput,lfind]
 | (k,y)::l=>by
  unfold lput
  split
  ·simp [lfind]
  ·next h=>simp only [lfind,if_neg h]; exact lfind_put n x l
theorem lfind_put_ne (m n:Int) (x:List UInt8) (h:m≠n):∀ es,lfind m (lput n x es)=lfind m es
 | []=>by simp [lput,lfind,h]
 | (k,y)::l=>by
  unfold lput
  split
  ·next e=>subst e; simp only [lfind,if_neg h]
  ·unfold lfind
   split
   ·rfl
   ·exact lfind_put_ne m n x h l
theorem lfind_mem (n:Int) (x:List UInt8):∀ es,lfind n es=some x→(n,x)∈es
 | [],h=>by simp [lfind] at h
 | (k,y)::l,h=>by
  unfold lfind at h
  split at h
  ·next e=>subst e; injection h with h; subst h; simp
  ·exact List.mem_cons_of_mem _ (lfind_mem n x l h)
theorem mem_put {m n:Int} {x y:List UInt8}:∀ {es},(m,y)∈lput n x es→(m=n∧y=x)∨(m,y)∈es
 | [],h=>by simp [lput] at h; exact .inl h
 | (k,z)::l,h=>by
  unfold lput at h
  split at h
  ·rcases List.mem_cons.1 h with h | h
   ·injection h with h1 h2; exact .inl ⟨h1,h2⟩
   ·exact .inr (List.mem_cons_of_mem _ h)
  ·rcases List.mem_cons.1 h with h | h
   ·exact .inr (by rw [h]; simp)
   ·rcases mem_put h with h | h
    ·exact .inl h
    ·exact .inr (List.mem_cons_of_mem _ h)
theorem put_mem_self (n:Int) (x:List UInt8):∀ es,(n,x)∈lput n x es
 | []=>by simp [lput]
 | (k,z)::l=>by
  unfold lput
  split
  ·simp
  ·exact List.mem_cons_of_mem _ (put_mem_self n x l)
theorem put_mem_ne {m n:Int} {x y:List UInt8} (h:m≠n):∀ {es},(m,y)∈es→(m,y)∈lput n x es
 | [],hm=>by cases hm
 | (k,z)::l,hm=>by
  unfold lput
  split
  ·next e =>
   rcases List.mem_cons.1 hm with h' | h'
   ·injection h' with h1 h2; exact absurd (h1.trans e.symm) h
   ·exact List.mem_cons_of_mem _ h'
  ·rcases List.mem_cons.1 hm with h' | h'
   ·rw [h']; simp
   ·exact List.mem_cons_of_mem _ (put_mem_ne h h')
theorem liftS2 {P:Program} {G:World→Prop} {f:FuncId} {args:List A} {s:Sto} {R:A→Sto→Prop} (hc:ACall P G f (.ptr 1 0::args) ⟨[s.M,s.B],[]⟩ fun v' h'=>∃ s',R v' s'∧v'.loc 0=true∧h'.b[0]?=some s'.M∧h'.b[1]?=some s'.B) (ha:A.locL 0 args=true) (l:List Blk) (t:List (TypeId×Nat×Nat)) :
  ACall P G f (.ptr 1 0::args) ⟨s.M::s.B::l,t⟩ fun v' h'=>∃ s',R v' s'∧h'=⟨s'.M::s'.B::l,t⟩:=by
 have key:=ACall.lift hc (fun i=>i) (fun a b _ _ e=>e) (by unfold A.locL; rw [(A.locL0 _ args ha).1]; rfl)
  (fun x hx=>by
   rcases List.mem_cons.1 hx with rfl | hx
   ·exact s.M_loc.1
   ·rw [List.mem_singleton.1 hx]; rfl)
  (fun v' h' ⟨s',_,e,h0,h1⟩=>⟨(A.loc0 _ v' e).1,fun j x hj hx=>by
   have:j=0∨j=1:=by simp only [List.length_cons,List.length_nil] at hj; omega
   rcases this with rfl | rfl
   ·rw [h0] at hx; injection hx with hx; subst hx; exact s'.M_loc.1
   ·rw [h1] at hx; injection hx with hx; subst hx; rfl⟩)
  (h:=⟨s.M::s.B::l,t⟩) (fun j hj=>by
   have:j=0∨j=1:=by simp only [List.length_cons,List.length_nil] at hj; omega
   rcases this with rfl | rfl
   ·show some s.M=some (s.M.ren fun i=>i); rw [s.M_loc.2]
   ·rfl)
 have e:A.renL (fun i=>i) (.ptr 1 0::args) = .ptr 1 0::args:=by unfold A.renL; rw [(A.locL0 0 args ha).2]; rfl
 rw [e] at key
 refine key.mono ?_
 rintro v' h' ⟨v0,⟨b0,t0⟩,⟨s',hR,hv,h0,h1⟩,rfl,rfl⟩
 refine ⟨s',by rw [(A.loc0 0 _ hv).2]; exact hR,?_⟩
 match b0,h0,h1 with
 | x::y::b,h0,h1 =>
  simp only [List.getElem?_cons_zero,List.getElem?_cons_succ,Option.some.injEq] at h0 h1
  subst h0; subst h1
  simp only [List.length_cons,List.length_nil,List.take_succ_cons,List.take_zero,setAll,s'.M_loc.2]
  rfl
def Sto.anew (s:Sto) (key:List UInt8) (n:Int):List UInt8:=(Seal.rekey s.key key ((lfind n s.es).getD [])).1
structure Sto.Rekeyed (s:Sto) (q:List UInt8) (s':Sto):Prop where
 key:s'.key=q
 lin:s'.lin=s.lin
 latest:s'.latest=s.latest
 own:s'.own=s.own
 left:s'.left=s.left
 good:∀ n∈s.serials,(Seal.rekey s.key q ((lfind n s.es).getD [])).2=0
 es:∀ n,n∈s.serials→lfind n s'.es=some (s.anew q n)
 only:∀ n x,(n,x)∈s'.es→n∈s.serials∧x=s.anew q n
theorem a_srekey (k q p:List UInt8) (hk:k.length≤1000000000) (hq:q.length≤1000000000) (hp:p.length≤1048600) (h:Hp):ACall Tryz.prog GT 38 [.str k,.str q,.str p] h fun r h'=>r = .tup [.str (Seal.rekey k q p).1,.int .i64 (Seal.rekey k q p).2]∧h'=h:=
 acall_imp (args3 r_str r_str r_str) (fun w hg=>rekey_any ⟨k.toArray⟩ ⟨q.toArray⟩ ⟨p.toArray⟩ w (by rw [size_mk]; exact hk) (by rw [size_mk]; exact hq) (by rw [size_mk]; exact hp)) (fun C=>rep_tup.2 ⟨_,rfl,repL_cons.2 ⟨_,_,rfl,rep_str.2 rfl,repL_cons.2 ⟨_,_,rfl,rep_int.2 rfl,repL_nil.2 rfl⟩⟩⟩) h
noncomputable def c_srekey:AX.AFn:=⟨78,aS [aR 6 (.mv (aI 0))] (.seq (aS [aM 15 0,aR 16 (.call 35 [.t 15]),aR 17 (.un .not (.t 16))] (.cond (.t 17) (aS [aR 6 (.mv (aI 38))] (.ret)) (.skip))) (.seq (aS [aM 18 0,aM 19 1,aR 20 (.call 36 [.t 18,.t 19]),aR 21 (.un .not (.t 20))] (.cond (.t 21) (aS [aR 6 (.mv (aI 25))] (.ret)) (.skip))) (.seq (aS [aM 22 2,aR 23 (.call 29 [.t 22]),aM 7 23] (aS [aM 24 7,aR 25 (.bin .neq (.t 24) (aI 0))] (.cond (.t 25) (aS [aM 26 7,aM 6 26] (.ret)) (.skip)))) (aS [aR 27 (.mkmap),aM 8 27] (.seq (aS [aM 28 0,aR 29 (.call 28 [.t 28]),aR 30 (.len false (.t 29)),aR 31 (.mv (aI 0))] (.block 0 (.loop (aS [aR 32 (.bin .lss (.t 31) (.t 30))] (.seq (.cond (.t 32) (.skip) (.exit 0)) (.seq (.block 1 (aS [aR 33 (.iaddr 1 (.t 29) (.t 31)),aL 34 33,aM 10 34] (.seq (.reg true [aM 36 0,⟨some 37,.nilck (.t 36),none,[0]⟩,⟨some 38,.faddr 0 (.t 37),none,[1]⟩,⟨some 39,.load false 1 (.t 38),none,[2]⟩,aM 40 2,aM 41 0,⟨some 42,.nilck (.t 41),none,[5]⟩,⟨some 43,.faddr 3 (.t 42),none,[6]⟩,⟨some 44,.load false 1 (.t 43),none,[7]⟩,aM 45 10,⟨some 46,.mget (.str []) false (.t 44) (.t 45),none,[8,9]⟩,⟨some 47,.call 38 [.t 39,.t 40,.t 46],none,[3,4,10]⟩,⟨some 35,.mv (.t 47),none,[11]⟩,⟨some 48,.extract (.t 35) 0,none,[12]⟩,⟨some 49,.extract (.t 35) 1,none,[12]⟩,⟨some 11,.mv (.t 48),none,[13,11,0,1,2,3,4,5,6,7,8,9,10,11,12,13]⟩,⟨some 12,.mv (.t 49),none,[14,15,0,1,2,3,4,5,6,7,8,9,10,11,12,13,14,15]⟩]) (.seq (aS [aM 50 12,aR 51 (.bin .neq (.t 50) (aI 0))] (.cond (.t 51) (aS [aM 52 12,aM 6 52] (.ret)) (.skip))) (.reg false [aM 53 8,aM 54 10,aM 55 11,aU (.mset (.t 53) (.t 54) (.t 55))]))))) (.reg false [aR 56 (.bin .add (.t 31) (aI 1)),aM 31 56]))))))) (aS [aM 57 0,aR 58 (.nilck (.t 57)),aF 59 3 58,aL 60 59,aU (.mclr (.t 60))] (.seq (.seq (.prim 78 (AX.rg Tryz.prog 20 0)) (.block 2 (.loop (.seq (.prim 78 (AX.rg Tryz.prog 20 1)) (.seq (.cond (.t 64) (.skip) (.exit 2)) (.block 3 (.seq (.prim 78 (AX.rg Tryz.prog 20 2)) (.reg false [aM 68 0,aR 69 (.nilck (.t 68)),aF 70 3 69,aL 71 70,aM 72 13,aM 73 14,aU (.mset (.t 71) (.t 72) (.t 73))])))))))) (aS [aM 74 0,aM 75 2,aR 76 (.nilck (.t 74)),aF 77 0 76,aU (.store 1 (.t 77) (.t 75))] (aS [aR 6 (.mv (aI 0))] (.ret)))))))))),[.t 6]⟩
theorem h_srekey:AX.compFn Tryz.prog 20=some c_srekey:=by kernel_rfl
theorem rk0:AX.rg Tryz.prog 20 0 = .region (regId (AX.rg Tryz.prog 20 0)) (regOps (AX.rg Tryz.prog 20 0)) false:=by kernel_rfl
theorem rk1:AX.rg Tryz.prog 20 1 = .region (regId (AX.rg Tryz.prog 20 1)) (regOps (AX.rg Tryz.prog 20 1)) false:=by kernel_rfl
theorem rk2:AX.rg Tryz.prog 20 2 = .region (regId (AX.rg Tryz.prog 20 2)) (regOps (AX.rg Tryz.prog 20 2)) false:=by kernel_rfl
theorem rl0:(regOps (AX.rg Tryz.prog 20 0)).toList=[opAt (AX.rg Tryz.prog 20 0) 0,opAt (AX.rg Tryz.prog 20 0) 1]:=by kernel_rfl
theorem rl1:(regOps (AX.rg Tryz.prog 20 1)).toList=[opAt (AX.rg Tryz.prog 20 1) 0,opAt (AX.rg Tryz.prog 20 1) 1]:=by kernel_rfl
theorem rl2:(regOps (AX.rg Tryz.prog 20 2)).toList=[opAt (AX.rg Tryz.prog 20 2) 0,opAt (AX.rg Tryz.prog 20 2) 1,opAt (AX.rg Tryz.prog 20 2) 2,opAt (AX.rg Tryz.prog 20 2) 3,opAt (AX.rg Tryz.prog 20 2) 4]:=by kernel_rfl
theorem rf00:(opAt (AX.rg Tryz.prog 20 0) 0).dst=some 61∧(opAt (AX.rg Tryz.prog 20 0) 0).guard=none∧compOp Tryz.prog 78 (opAt (AX.rg Tryz.prog 20 0) 0)=some (.mv (.t 8)):=⟨by kernel_rfl,by kernel_rfl,by kernel_rfl⟩
theorem rf01:(opAt (AX.rg Tryz.prog 20 0) 1).dst=some 62∧(opAt (AX.rg Tryz.prog 20 0) 1).guard=none∧(opAt (AX.rg Tryz.prog 20 0) 1).op = .range 68 (.tmp 61):=⟨by kernel_rfl,by kernel_rfl,by kernel_rfl⟩
theorem rf10:(opAt (AX.rg Tryz.prog 20 1) 0).dst=some 63∧(opAt (AX.rg Tryz.prog 20 1) 0).guard=none∧(opAt (AX.rg Tryz.prog 20 1) 0).op = .next (.tmp 62) false:=⟨by kernel_rfl,by kernel_rfl,by kernel_rfl⟩
theorem rf11:(opAt (AX.rg Tryz.prog 20 1) 1).dst=some 64∧(opAt (AX.rg Tryz.prog 20 1) 1).guard=none∧compOp Tryz.prog 78 (opAt (AX.rg Tryz.prog 20 1) 1)=some (.extract (.t 63) 0):=⟨by kernel_rfl,by kernel_rfl,by kernel_rfl⟩
theorem rf20:(opAt (AX.rg Tryz.prog 20 2) 0).dst=some 65∧(opAt (AX.rg Tryz.prog 20 2) 0).guard=none∧(opAt (AX.rg Tryz.prog 20 2) 0).op = .entry (.tmp 62):=⟨by kernel_rfl,by kernel_rfl,by kernel_rfl⟩
theorem rf21:(opAt (AX.rg Tryz.prog 20 2) 1).dst=some 66∧(opAt (AX.rg Tryz.prog 20 2) 1).guard=none∧compOp Tryz.prog 78 (opAt (AX.rg Tryz.prog 20 2) 1)=some (.extract (.t 65) 0):=⟨by kernel_rfl,by kernel_rfl,by kernel_rfl⟩
theorem rf22:(opAt (AX.rg Tryz.prog 20 2) 2).dst=some 67∧(opAt (AX.rg Tryz.prog 20 2) 2).guard=none∧compOp Tryz.prog 78 (opAt (AX.rg Tryz.prog 20 2) 2)=some (.extract (.t 65) 1):=⟨by kernel_rfl,by kernel_rfl,by kernel_rfl⟩
theorem rf23:(opAt (AX.rg Tryz.prog 20 2) 3).dst=some 13∧(opAt (AX.rg Tryz.prog 20 2) 3).guard=none∧compOp Tryz.prog 78 (opAt (AX.rg Tryz.prog 20 2) 3)=some (.mv (.t 66)):=⟨by kernel_rfl,by kernel_rfl,by kernel_rfl⟩
theorem rf24:(opAt (AX.rg Tryz.prog 20 2) 4).dst=some 14∧(opAt (AX.rg Tryz.prog 20 2) 4).guard=none∧compOp Tryz.prog 78 (opAt (AX.rg Tryz.prog 20 2) 4)=some (.mv (.t 67)):=⟨by kernel_rfl,by kernel_rfl,by kernel_rfl⟩
theorem rfU:Tryz.prog.underlying 68=some (.map 3 9):=by kernel_rfl
theorem p_range {m c:Nat} {l:List (Int×List UInt8)} {Q:AExit→Ts→Hp→Prop} {ts:Ts} {h:Hp} (t8:ts 8 = .mp m) (hb:h.b[m]?=some (.map (strM l) c))
  (hk:∀ (g r:Nat) (es:Array MapEntry),Es l es.toList→BornOk es.toList c→Q .normal (put (put ts (some 61) (.mp m)) (some 62) (.ptr h.b.length 0)) ⟨h.b.set m (pin g (.map es c))++[pin r (.mapIter (some g) c #[] c)],h.t⟩) :
  awp Tryz.prog GT (.prim 78 (AX.rg Tryz.prog 20 0)) Q ts h:=
 pr_range rk0 rl0 rf00 rf01 (by decide) rfU t8 hb hk
theorem p_next {i m g r c:Nat} {es:Array MapEntry} {seen:Array Nat} {l:List (Int×List UInt8)} {Q:AExit→Ts→Hp→Prop} {ts:Ts} {h:Hp} (t62:ts 62 = .ptr i 0) (hb:h.b[m]?=some (pin g (.map es c))) (hi:h.b[i]?=some (pin r (.mapIter (some g) c seen c))) (hes:Es l es.toList) (hbo:BornOk es.toList c)
  (h0:(leftOf es seen).size=0→Q .normal (put (put ts (some 63) (.tup [.bool false])) (some 64) (.bool false)) h)
  (h1:∀ e∈(leftOf es seen).toList,∀ kk xx,(kk,xx)∈l→e.key = .int .i64 kk→e.val = .string ⟨xx.toArray⟩→Q .normal (put (put ts (some 63) (.tup [.bool true,.int .i64 kk,.str xx])) (some 64) (.bool true)) ⟨h.b.set i (pin r (.mapIter (some g) c (seen.push e.born) c)),h.t⟩) :
  awp Tryz.prog GT (.prim 78 (AX.rg Tryz.prog 20 1)) Q ts h:=
 pr_next rk1 rl1 rf10 rf11 (by decide) t62 hb hi hes hbo h0 h1
theorem p_entry {i m g r c:Nat} {es:Array MapEntry} {seen:Array Nat} {e:MapEntry} {kk:Int} {xx:List UInt8} {Q:AExit→Ts→Hp→Prop} {ts:Ts} {h:Hp} (t62:ts 62 = .ptr i 0) (hb:h.b[m]?=some (pin g (.map es c))) (hi:h.b[i]?=some (pin r (.mapIter (some g) c (seen.push e.born) c))) (hbo:BornOk es.toList c) (he:e∈es.toList) (m2:e.key = .int .i64 kk) (m3:e.val = .string ⟨xx.toArray⟩)
  (h1:Q .normal (put (put (put (put (put ts (some 65) (.tup [.int .i64 kk,.str xx])) (some 66) (.int .i64 kk)) (some 67) (.str xx)) (some 13) (.int .i64 kk)) (some 14) (.str xx)) h) :
  awp Tryz.prog GT (.prim 78 (AX.rg Tryz.prog 20 2)) Q ts h:=
 pr_entry rk2 rl2 rf20 rf21 rf22 rf23 rf24 (by decide) (by decide) t62 hb hi hbo he m2 m3 h1
theorem rowsI_get (l:List Int) (j:Nat) (hj:j < l.length):(rowsI l).getD j []=[.int .i64 l[j]]:=by simp [rowsI,List.getD,hj]
theorem rowsI_length (l:List Int):(rowsI l).length=l.length:=by simp [rowsI]
theorem rekeyed_of {s:Sto} {q:List UInt8} {es1 es2:List (Int×List UInt8)} {c2:Nat} {es0:Array MapEntry} {seen:Array Nat} (hes:Es es1 es0.toList) (h0:(leftOf es0 seen).size=0)
  (i1:∀ n x,(n,x)∈es1→n∈s.serials∧x=s.anew q n) (i2:∀ n∈s.serials,(n,s.anew q n)∈es1∧(Seal.rekey s.key q ((lfind n s.es).getD [])).2=0) (i3:∀ n x,(n,x)∈es2→(n,x)∈es1)
  (i4:∀ e∈es0.toList,seen.contains e.born=true→∀ n x,e.key = .int .i64 n→e.val = .string ⟨x.toArray⟩→lfind n es2=some x):s.Rekeyed q ⟨q,s.lin,s.latest,es2,c2,s.own,s.left⟩:=by
 refine ⟨rfl,rfl,rfl,rfl,rfl,fun n hn=>(i2 n hn).2,fun n hn=>?_,fun n x hx=>i1 n x (i3 n x hx)⟩
 obtain ⟨e,he,k1,k2⟩:=es_mem' hes n _ (i2 n hn).1
 refine i4 e he ?_ n _ k1 k2
 cases hc:seen.contains e.born with
 | true=>rfl
 | false =>
  exfalso
  have:e∈leftOf es0 seen:=by
   unfold leftOf
   rw [Array.mem_filter]
   exact ⟨Array.mem_toList_iff.1 he,by rw [hc]; rfl⟩
  have:=Array.size_pos_of_mem this
  omega
def Sto.Wrong (s:Sto) (who q:List UInt8) (e:Int):Prop:=
 (s.holds who=false∧e=25)∨(s.holds who=true∧Seal.check q=e)∨(Seal.check q=0∧∃ n∈s.serials,(Seal.rekey s.key q ((lfind n s.es).getD [])).2≠0)
theorem a_rekey0 (s:Sto) (who q:List UInt8) (hk:s.key.length≤1000000000) (hq:q.length≤1000000000) (h0:0≤s.latest) (h1:s.latest≤9007199254740992) (hb:∀ n b,lfind n s.es=some b→b.length≤1048600) :
  ACall Tryz.prog GT 20 [.ptr 1 0,.str who,.str q] ⟨[s.M,s.B],[]⟩ fun v' h'=>∃ s',(∃ e:Int,v' = .int .i64 e∧((e≠0∧s'=s∧s.Wrong who q e)∨(e=0∧s.holds who=true∧Seal.check q=0∧s.Rekeyed q s')))∧v'.loc 0=true∧h'.b[0]?=some s'.M∧h'.b[1]?=some s'.B:=by
 refine acall_of mixedT h_srekey (by simp [c_srekey]) ?_
 dsimp only [c_srekey]
 have hm:=a_made s
 have hh:=fun l t=>a_holds s l t who
 have hS:=fun l t=>a_serials s l t h0 h1
 have hck:=a_sealCheck q hq
 obtain ⟨Z,hZ⟩:∃ Z,Seal.check q=Z:=⟨_,rfl⟩
 rw [hZ] at hck
 have hR:=fun n h=>a_srekey s.key q ((lfind n s.es).getD []) hk hq (by
  cases hF:lfind n s.es with
  | none=>simp
  | some b=>exact hb n b hF) h
 have hM0:s.M = .map (strM s.es) s.c:=rfl
 have hB0:s.B = .cells 70 [.str s.key,.str s.lin,.int .i64 s.latest,.mp 0,.str s.own,.int .i64 s.left]:=rfl
 rw [hB0] at hm hh hS ⊢
 refine run0 ti ?_
 refine use (hm _ _) ?_
 refine run0 ti ?_
 refine use (hh _ _) ?_
 cases hT:s.holds who
 ·refine run0 ti ?_
  exact ⟨_,le_refl _,s,⟨25,rfl,.inl ⟨by decide,rfl,.inl ⟨hT,rfl⟩⟩⟩,rfl,rfl,rfl⟩
 refine run0 ti ?_
 refine use (hck _) ?_
 by_cases z0:Z=0
 rotate_left
 ·have e1:(Z != 0)=true:=by simp [z0]
  refine run0 e1 ?_
  exact ⟨_,le_refl _,s,⟨Z,rfl,.inl ⟨z0,rfl,.inr (.inl ⟨hT,hZ⟩)⟩⟩,rfl,rfl,rfl⟩
 subst z0
 have e1:((0:Int) != 0)=false:=by decide
 refine run0 e1 ?_
 refine use (hS _ _) ?_
 obtain ⟨N,hN⟩:∃ N,s.serials.length=N:=⟨_,rfl⟩
 have lr:(rowsI s.serials).length=N:=by rw [rowsI_length,hN]
 have hNb:N≤100000000000000000:=by
  rw [←hN]
  unfold Sto.serials Sto.upTo Sto.lo
  simp only [List.length_map,List.length_range]
  split <;> omega
 refine run0 lr ?_
 refine awp_loop (fun mm ts h=>∃ (j:Nat) (es1:List (Int×List UInt8)) (c1:Nat),mm+j=N∧h=⟨[s.M,.cells 70 [.str s.key,.str s.lin,.int .i64 s.latest,.mp 0,.str s.own,.int .i64 s.left],.map (strM es1) c1],[]⟩ ∧
  (∀ n x,(n,x)∈es1→n∈s.serials∧x=s.anew q n)∧(∀ n∈s.serials.take j,(n,s.anew q n)∈es1∧(Seal.rekey s.key q ((lfind n s.es).getD [])).2=0) ∧
  ts 0 = .ptr 1 0∧ts 2 = .str q∧ts 8 = .mp 2∧ts 29 = .sl 1 .no (rowsI s.serials)∧ts 30 = .int .i64 (N:Nat)∧ts 31 = .int .i64 (j:Nat)) N ?_ ?_
 ·exact ⟨0,[],0,by omega,rfl,by simp,by simp,by (exact ev0 ti),by (exact ev0 ti),by (exact ev0 ti),by (exact ev0 ti),by (exact ev0 lr),by (exact inv0 ti)⟩
 rintro mm ts h ⟨j,es1,c1,hj,rfl,i1,i2,t0,t2,t8,t29,t30,t31⟩
 by_cases hlt:j < N
 ·have hlt2:(j:Int) < (N:Int):=by omega
  have hla:(j:Int) < ((rowsI s.serials).length:Int):=by rw [lr]; omega
  have hj0:(0:Int)≤(j:Int):=by omega
  have ei:IntKind.i64.wrap ((j:Int)+1)=((j+1:Nat):Int):=by rw [wrap64 (by omega) (by omega)]; omega
  have hg:=rowsI_get s.serials j (by omega)
  have hmem:s.serials[j]'(by omega)∈s.serials:=List.getElem_mem _
  have htk:s.serials.take (j+1)=s.serials.take j++[s.serials[j]'(by omega)]:=List.take_succ_eq_append_getElem (by omega)
  obtain ⟨n,hn⟩:∃ n,s.serials[j]'(by omega)=n:=⟨_,rfl⟩
  rw [hn] at hg hmem htk
  obtain ⟨r,hr⟩:∃ r,mfind n (strM s.es)=r:=⟨_,rfl⟩
  have hr2:r.getD (.str []) = .str ((lfind n s.es).getD []):=by
   rw [←hr,mfind_str]
   cases lfind n s.es <;> rfl
  have hRn:=hR n
  obtain ⟨⟨x,e⟩,hx⟩:∃ p,Seal.rekey s.key q ((lfind n s.es).getD [])=p:=⟨_,rfl⟩
  rw [hx] at hRn
  dsimp only at hRn
  have hax:s.anew q n=x:=by unfold Sto.anew; rw [hx]
  obtain ⟨b,hbb⟩:∃ b,(lfind n s.es).getD []=b:=⟨_,rfl⟩
  rw [hbb] at hr2 hRn
  refine run0 (ai t0 (ai t2 (ai t8 (ai t29 (ai t30 (ai t31 (ai hlt2 (ai hla (ai hj0 (ai hg (ai hM0 (ai hr hr2)))))))))))) ?_
  refine use (hRn _) ?_
  by_cases e0:e=0
  rotate_left
  ·have e2:(e != 0)=true:=by simp [e0]
   refine run0 (ai t0 (ai t2 (ai t8 (ai t29 (ai t30 (ai t31 e2)))))) ?_
   exact ⟨_,le_refl _,s,⟨e,rfl,.inl ⟨e0,rfl,.inr (.inr ⟨hZ,n,hmem,by rw [hx]; exact e0⟩)⟩⟩,rfl,rfl,rfl⟩
  subst e0
  refine run0 (ai t0 (ai t2 (ai t8 (ai t29 (ai t30 (ai t31 (ai e1 (ai mput_str ei)))))))) ?_
  refine ⟨mm - 1,by omega,j+1,lput n x es1,_,by omega,rfl,fun n' x' hm=>?_,fun n' hn'=>?_,by (exact ev0 t0),by (exact ev0 t2),by (exact ev0 t8),by (exact ev0 t29),by (exact ev0 t30),by (exact ev0 ei)⟩
  ·rcases mem_put hm with ⟨rfl,rfl⟩ | hm
   ·exact ⟨hmem,hax.symm⟩
   ·exact i1 n' x' hm
  ·rw [htk] at hn'
   rcases List.mem_append.1 hn' with hn' | hn'
   ·obtain ⟨k1,k2⟩:=i2 n' hn'
    by_cases hne:n'=n
    ·subst hne; rw [hax]; exact ⟨put_mem_self _ _ _,k2⟩
    ·exact ⟨put_mem_ne hne k1,k2⟩
   ·obtain rfl:=List.mem_singleton.1 hn'
    rw [hax]; exact ⟨put_mem_self _ _ _,by rw [hx]⟩
 ·have hlt2:¬ (j:Int) < (N:Int):=by omega
  rw [List.take_of_length_le (by omega)] at i2
  refine run0 (ai t0 (ai t2 (ai t8 (ai t29 (ai t30 (ai t31 (ai hlt2 hM0))))))) ?_
  refine p_range (m:=2) (c:=c1) (l:=es1) (by (exact ev0 t8)) rfl ?_
  intro g r es0 hes hbo
  refine go_tn ?_
  refine run0 (ai t0 (ai t2 t8)) ?_
  refine awp_loop (fun mm ts h=>∃ (seen:Array Nat) (es2:List (Int×List UInt8)) (c2:Nat),mm=(leftOf es0 seen).size∧h=⟨[.map (strM es2) c2,.cells 70 [.str s.key,.str s.lin,.int .i64 s.latest,.mp 0,.str s.own,.int .i64 s.left],pin g (.map es0 c1),pin r (.mapIter (some g) c1 seen c1)],[]⟩ ∧
   (∀ n x,(n,x)∈es2→(n,x)∈es1)∧(∀ e∈es0.toList,seen.contains e.born=true→∀ n x,e.key = .int .i64 n→e.val = .string ⟨x.toArray⟩→lfind n es2=some x) ∧
   ts 0 = .ptr 1 0∧ts 2 = .str q∧ts 62 = .ptr 3 0) (leftOf es0 #[]).size ?_ ?_
  ·exact ⟨#[],[],s.c,rfl,rfl,by simp,fun e _ hc=>by simp at hc,by (exact ev0 t0),by (exact ev0 t2),by (exact ev0 ti)⟩
  rintro mm ts h ⟨seen,es2,c2,rfl,rfl,i3,i4,t0,t2,t62⟩
  refine run0 (ai t0 (ai t2 t62)) ?_
  refine p_next (i:=3) (m:=2) (g:=g) (r:=r) (c:=c1) (es:=es0) (seen:=seen) (l:=es1) t62 rfl rfl hes hbo (fun l0=>?_) (fun e he kk xx m1 m2 m3=>?_)
  ·refine go_tn ?_
   refine run0 (ai t0 (ai t2 t62)) ?_
   exact ⟨_,le_refl _,⟨q,s.lin,s.latest,es2,c2,s.own,s.left⟩,⟨0,rfl,.inr ⟨rfl,rfl,hZ,rekeyed_of hes l0 i1 i2 i3 i4⟩⟩,rfl,rfl,rfl⟩
  ·refine go_tn ?_
   refine run0 (ai t0 (ai t2 t62)) ?_
   refine p_entry (i:=3) (m:=2) (g:=g) (r:=r) (c:=c1) (es:=es0) (seen:=seen) (e:=e) (kk:=kk) (xx:=xx) (by (exact ev0 t62)) rfl rfl hbo (mem_left he).1 m2 m3 ?_
   refine go_tn ?_
   refine run0 (ai t0 (ai t2 (ai t62 mput_str))) ?_
   refine ⟨(leftOf es0 (seen.push e.born)).size,left_shrinks es0 seen e he,seen.push e.born,lput kk xx es2,_,rfl,rfl,fun n' x' hm=>?_,fun e' he' hc n' x' q1 q2=>?_,by (exact ev0 t0),by (exact ev0 t2),by (exact ev0 t62)⟩
   ·rcases mem_put hm with ⟨rfl,rfl⟩ | hm
    ·exact m1
    ·exact i3 n' x' hm
   ·by_cases hne:n'=kk
    ·subst hne
     obtain ⟨k,x,q3,q4,q5⟩:=es_mem hes e' he'
     rw [q1] at q4; rw [q2] at q5
     injection q4 with _ q4
     subst q4
     have hx1:x'=x:=by
      injection q5 with q5
      have:=congrArg (fun b:ByteArray=>b.data.toList) q5
      simpa using this
     subst hx1
     rw [(i1 _ _ q3).2,(i1 _ _ m1).2]
     exact lfind_put _ _ _
    ·rw [lfind_put_ne _ _ _ hne]
     rw [contains_push,Bool.or_eq_true] at hc
     rcases hc with hc | hc
     ·exact i4 e' he' hc n' x' q1 q2
     ·exfalso
      have hbe:e'.born=e.born:=by simpa using hc
      have:e'=e:=by
       have h1:=find_born e' es0.toList hbo.1 he'
       have h2:=find_born e es0.toList hbo.1 (mem_left he).1
       rw [hbe,h2] at h1
       injection h1 with h1; exact h1.symm
      rw [this,m2] at q1
      injection q1 with _ q1
      exact hne q1.symm
theorem a_rekey (s:Sto) (l:List Blk) (t:List (TypeId×Nat×Nat)) (who q:List UInt8) (hk:s.key.length≤1000000000) (hq:q.length≤1000000000) (h0:0≤s.latest) (h1:s.latest≤9007199254740992) (hb:∀ n b,lfind n s.es=some b→b.length≤1048600) :
  ACall Tryz.prog GT 20 [.ptr 1 0,.str who,.str q] ⟨s.M::s.B::l,t⟩ fun v' h'=>∃ s',(∃ e:Int,v' = .int .i64 e∧((e≠0∧s'=s∧s.Wrong who q e)∨(e=0∧s.holds who=true∧Seal.check q=0∧s.Rekeyed q s')))∧h'=⟨s'.M::s'.B::l,t⟩:=
 liftS2 (R:=fun v' s'=>∃ e:Int,v' = .int .i64 e∧((e≠0∧s'=s∧s.Wrong who q e)∨(e=0∧s.holds who=true∧Seal.check q=0∧s.Rekeyed q s'))) ((a_rekey0 s who q hk hq h0 h1 hb).mono fun v' h' ⟨s',a,b,c,d⟩=>⟨s',a,b,c,d⟩) rfl l t
end AX
end Go.Proofs.YtahmpiioegemaabGreatDoor
