/- Part of what the proof needs. -/
import Derived.Test.YtahmpiioegemaabGreatDoorMFrStorePlaysUptoF
import Derived.Test.YtahmpiioegemaabGreatDoorMFrStorePlaysUptoH
import Derived.Test.YtahmpiioegemaabGreatDoorMFrStorePlaysUptoM
import Derived.Test.YtahmpiioegemaabGreatDoorMFrStorePlaysUptoN
import Derived.Test.YtahmpiioegemaabGreatDoorMFrStorePlaysUptoP
import Derived.Test.YtahmpiioegemaabGreatDoorMFrStorePlaysUptoR
import Derived.Test.YtahmpiioegemaabGreatDoorMFrStorePlaysUptoS
import Derived.Test.YtahmpiioegemaabGreatDoorMFrStorePlaysUptoT
import Derived.Test.YtahmpiioegemaabGreatDoorRows
set_option maxHeartbeats 4000000
set_option linter.unusedSimpArgs false
set_option linter.unusedVariables false
set_option linter.unnecessarySimpa false
namespace Go.Proofs.YtahmpiioegemaabGreatDoor
open Go.RowKit
namespace AX
structure Rst where
 key:List UInt8
 lin:List UInt8
 nums:List Int
 blobs:List (List UInt8)
 own:List UInt8
 left:Int
def Rst.A (r:Rst):A:=.agg [.str r.key,.str r.lin,.sl 1 .no (rowsI r.nums),.sl 1 .no (strsA r.blobs),.str r.own,.int .i64 r.left]
namespace Rst
def holds (r:Rst) (who:List UInt8):Bool:=who != []&&r.own == who
def lock (r:Rst) (who:List UInt8) (n:Int):Rst×Int:=
 if ((!Sf.text who||decide (n < 1))||decide (n > 1099511627776))=true then (r,1)
 else if (r.own != []&&r.own != who)=true then (r,24) else ({ r with own:=who,left:=n },0)
def unlock (r:Rst) (who:List UInt8):Rst×Int:=if r.holds who=false then (r,25) else ({ r with own:=[],left:=0 },0)
def brk (r:Rst):Rst:={ r with own:=[],left:=0 }
def tick (r:Rst) (n:Int):Rst:=
 if (decide (n≤0)||r.own == [])=true then r else if n≥r.left then { r with own:=[],left:=0 } else { r with left:=IntKind.i64.wrap (r.left - n) }
def put (r:Rst) (st:Sf.St):Rst×Int:=
 if (Sf.encode 2 st).2≠0 then (r,(Sf.encode 2 st).2)
 else if (Seal.enc r.key (IntKind.u64.wrap st.ser) (Sf.encode 2 st).1).2≠0 then (r,(Seal.enc r.key (IntKind.u64.wrap st.ser) (Sf.encode 2 st).1).2)
 else ({ r with nums:=r.nums++[st.ser],blobs:=r.blobs++[(Seal.enc r.key (IntKind.u64.wrap st.ser) (Sf.encode 2 st).1).1] },0)
def write (r:Rst) (L:Int) (who:List UInt8) (st:Sf.St):Rst×Int:=
 if r.holds who=false then (r,25) else if st.lin≠r.lin then (r,23) else if st.ser≠IntKind.i64.wrap (L+1) then (r,22) else r.put st
end Rst
def c_r34lock:AX.AFn:=⟨35,aS [aR 3 (.box 32 (.t 0)),aR 6 (.alloc 32 [.str [],.str [],.sl 0 .nil [],.sl 0 .nil [],.str [],.int .i64 0]),aR 7 (.mv (aI 0))] (.seq (aS [aM 8 1,aR 9 (.call 33 [.t 8]),aR 10 (.un .not (.t 9)),aM 11 10,aG 12 (.mv (.t 2)) 11 false,aG 13 (.bin .lss (.t 12) (aI 1)) 11 false,aR 14 (.pick (.t 11) (.c (.bool true)) (.t 13)),aM 15 14,aG 16 (.mv (.t 2)) 15 false,aG 17 (.bin .gtr (.t 16) (aI 1099511627776)) 15 false,aR 18 (.pick (.t 15) (.c (.bool true)) (.t 17))] (.cond (.t 18) (aS [aR 19 (.load true 6 (.t 3)),aU (.store 6 (.t 6) (.t 19)),aR 7 (.mv (aI 1))] (.ret)) (.skip))) (.seq (aS [aF 20 4 3,aL 21 20,aR 22 (.bin .neq (.t 21) (.c (.str []))),aM 23 22,aG 24 (.faddr 4 (.t 3)) 23 true,aG 25 (.load false 1 (.t 24)) 23 true,aG 26 (.mv (.t 1)) 23 true,aG 27 (.bin .neq (.t 25) (.t 26)) 23 true,aR 28 (.pick (.t 23) (.t 27) (.c (.bool false)))] (.cond (.t 28) (aS [aR 29 (.load true 6 (.t 3)),aU (.store 6 (.t 6) (.t 29)),aR 7 (.mv (aI 24))] (.ret)) (.skip))) (aS [aM 30 1,aF 31 4 3,aU (.store 1 (.t 31) (.t 30))] (aS [aM 32 2,aF 33 5 3,aU (.store 1 (.t 33) (.t 32))] (aS [aR 34 (.load true 6 (.t 3)),aU (.store 6 (.t 6) (.t 34)),aR 7 (.mv (aI 0))] (.ret)))))),[.c 6 true 6,.t 7]⟩
theorem h_r34lock:AX.compFn Tryz.prog 9=some c_r34lock:=by kernel_rfl
def c_r34holds:AX.AFn:=⟨13,aS [aR 2 (.box 32 (.t 0)),aR 4 (.mv (.c (.bool false)))] (aS [aM 5 1,aR 6 (.bin .neq (.t 5) (.c (.str []))),aM 7 6,aG 8 (.faddr 4 (.t 2)) 7 true,aG 9 (.load false 1 (.t 8)) 7 true,aG 10 (.mv (.t 1)) 7 true,aG 11 (.bin .eql (.t 9) (.t 10)) 7 true,aR 12 (.pick (.t 7) (.t 11) (.c (.bool false))),aM 4 12] (.ret)),[.t 4]⟩
theorem h_r34holds:AX.compFn Tryz.prog 37=some c_r34holds:=by kernel_rfl
def c_r34unlock:AX.AFn:=⟨14,aS [aR 2 (.box 32 (.t 0)),aR 4 (.alloc 32 [.str [],.str [],.sl 0 .nil [],.sl 0 .nil [],.str [],.int .i64 0]),aR 5 (.mv (aI 0))] (.seq (aS [aR 6 (.load true 6 (.t 2)),aM 7 1,aR 8 (.call 37 [.t 6,.t 7]),aR 9 (.un .not (.t 8))] (.cond (.t 9) (aS [aR 10 (.load true 6 (.t 2)),aU (.store 6 (.t 4) (.t 10)),aR 5 (.mv (aI 25))] (.ret)) (.skip))) (aS [aF 11 4 2,aU (.store 1 (.t 11) (.c (.str [])))] (aS [aF 12 5 2,aU (.store 1 (.t 12) (aI 0))] (aS [aR 13 (.load true 6 (.t 2)),aU (.store 6 (.t 4) (.t 13)),aR 5 (.mv (aI 0))] (.ret))))),[.c 4 true 6,.t 5]⟩
theorem h_r34unlock:AX.compFn Tryz.prog 11=some c_r34unlock:=by kernel_rfl
def c_r34break:AX.AFn:=⟨12,aS [aR 1 (.box 32 (.t 0)),aR 2 (.alloc 32 [.str [],.str [],.sl 0 .nil [],.sl 0 .nil [],.str [],.int .i64 0]),aR 3 (.mv (.c (.bool false)))] (aS [aF 5 4 1,aL 6 5,aR 7 (.bin .neq (.t 6) (.c (.str []))),aM 4 7] (aS [aF 8 4 1,aU (.store 1 (.t 8) (.c (.str [])))] (aS [aF 9 5 1,aU (.store 1 (.t 9) (aI 0))] (aS [aR 10 (.load true 6 (.t 1)),aM 11 4,aU (.store 6 (.t 2) (.t 10)),aM 3 11] (.ret))))),[.c 2 true 6,.t 3]⟩
theorem h_r34break:AX.compFn Tryz.prog 12=some c_r34break:=by kernel_rfl
def c_r34tick:AX.AFn:=⟨26,aS [aR 2 (.box 32 (.t 0)),aR 4 (.alloc 32 [.str [],.str [],.sl 0 .nil [],.sl 0 .nil [],.str [],.int .i64 0])] (.seq (aS [aM 5 1,aR 6 (.bin .leq (.t 5) (aI 0)),aM 7 6,aG 8 (.faddr 4 (.t 2)) 7 false,aG 9 (.load false 1 (.t 8)) 7 false,aG 10 (.bin .eql (.t 9) (.c (.str []))) 7 false,aR 11 (.pick (.t 7) (.c (.bool true)) (.t 10))] (.cond (.t 11) (aS [aR 12 (.load true 6 (.t 2)),aU (.store 6 (.t 4) (.t 12))] (.ret)) (.skip))) (.seq (aS [aM 13 1,aF 14 5 2,aL 15 14,aR 16 (.bin .geq (.t 13) (.t 15))] (.cond (.t 16) (aS [aF 17 4 2,aU (.store 1 (.t 17) (.c (.str [])))] (aS [aF 18 5 2,aU (.store 1 (.t 18) (aI 0))] (aS [aR 19 (.load true 6 (.t 2)),aU (.store 6 (.t 4) (.t 19))] (.ret)))) (.skip))) (aS [aF 20 5 2,aL 21 20,aM 22 1,aR 23 (.bin .sub (.t 21) (.t 22)),aF 24 5 2,aU (.store 1 (.t 24) (.t 23))] (aS [aR 25 (.load true 6 (.t 2)),aU (.store 6 (.t 4) (.t 25))] (.ret))))),[.c 4 true 6]⟩
theorem h_r34tick:AX.compFn Tryz.prog 15=some c_r34tick:=by kernel_rfl
def c_r34latest:AX.AFn:=⟨11,aS [aR 1 (.box 32 (.t 0)),aR 2 (.mv (aI 0))] (aS [aF 3 2 1,aL 4 3,aF 5 2 1,aL 6 5,aR 7 (.len false (.t 6)),aR 8 (.bin .sub (.t 7) (aI 1)),aR 9 (.iaddr 1 (.t 4) (.t 8)),aL 10 9,aM 2 10] (.ret)),[.t 2]⟩
theorem h_r34latest:AX.compFn Tryz.prog 17=some c_r34latest:=by kernel_rfl
def c_r34write:AX.AFn:=⟨31,aS [aR 3 (.box 32 (.t 0)),aR 5 (.box 39 (.t 2)),aR 6 (.alloc 32 [.str [],.str [],.sl 0 .nil [],.sl 0 .nil [],.str [],.int .i64 0]),aR 7 (.mv (aI 0))] (.seq (aS [aR 8 (.load true 6 (.t 3)),aM 9 1,aR 10 (.call 37 [.t 8,.t 9]),aR 11 (.un .not (.t 10))] (.cond (.t 11) (aS [aR 12 (.load true 6 (.t 3)),aU (.store 6 (.t 6) (.t 12)),aR 7 (.mv (aI 25))] (.ret)) (.skip))) (.seq (aS [aF 13 0 5,aL 14 13,aF 15 1 3,aL 16 15,aR 17 (.bin .neq (.t 14) (.t 16))] (.cond (.t 17) (aS [aR 18 (.load true 6 (.t 3)),aU (.store 6 (.t 6) (.t 18)),aR 7 (.mv (aI 23))] (.ret)) (.skip))) (.seq (.seq (.reg true [aF 19 1 5,⟨some 20,.load false 1 (.t 19),none,[0]⟩,aR 21 (.load true 6 (.t 3)),⟨some 22,.call 17 [.t 21],none,[2]⟩,⟨some 23,.bin .add (.t 22) (aI 1),none,[3]⟩,⟨some 24,.bin .neq (.t 20) (.t 23),none,[1,4]⟩]) (.cond (.t 24) (aS [aR 25 (.load true 6 (.t 3)),aU (.store 6 (.t 6) (.t 25)),aR 7 (.mv (aI 22))] (.ret)) (.skip))) (aS [aR 26 (.load true 6 (.t 3)),aR 27 (.load true 5 (.t 5)),aR 28 (.call 34 [.t 26,.t 27]),aE 29 28 0,aE 30 28 1,aU (.store 6 (.t 6) (.t 29)),aM 7 30] (.ret))))),[.c 6 true 6,.t 7]⟩
theorem h_r34write:AX.compFn Tryz.prog 19=some c_r34write:=by kernel_rfl
def c_r34new:AX.AFn:=⟨25,aS [aR 4 (.alloc 32 [.str [],.str [],.sl 0 .nil [],.sl 0 .nil [],.str [],.int .i64 0]),aR 5 (.mv (aI 0))] (.seq (aS [aM 7 0,aR 8 (.call 32 [.t 7]),aM 6 8] (aS [aM 9 6,aR 10 (.bin .neq (.t 9) (aI 0))] (.cond (.t 10) (aS [aR 11 (.build [.str [],.str [],.sl 0 .nil [],.sl 0 .nil [],.str [],.int .i64 0] []),aM 12 6,aU (.store 6 (.t 4) (.t 11)),aM 5 12] (.ret)) (.skip)))) (.seq (aS [aM 13 1,aR 14 (.call 33 [.t 13]),aR 15 (.un .not (.t 14))] (.cond (.t 15) (aS [aR 16 (.build [.str [],.str [],.sl 0 .nil [],.sl 0 .nil [],.str [],.int .i64 0] []),aU (.store 6 (.t 4) (.t 16)),aR 5 (.mv (aI 1))] (.ret)) (.skip))) (aS [aM 17 0,aM 18 1,aR 19 (.build [.str [],.str [],.sl 0 .nil [],.sl 0 .nil [],.str [],.int .i64 0] [(0,1,.t 17),(1,1,.t 18)]),aM 20 1,aR 21 (.build [.str [],.int .i64 0,.sl 0 .nil [],.sl 0 .nil [],.sl 0 .nil []] [(0,1,.t 20)]),aR 22 (.call 34 [.t 19,.t 21]),aE 23 22 0,aE 24 22 1,aU (.store 6 (.t 4) (.t 23)),aM 5 24] (.ret)))),[.c 4 true 6,.t 5]⟩
theorem h_r34new:AX.compFn Tryz.prog 7=some c_r34new:=by kernel_rfl
theorem a_r33check (k:List UInt8) (hk:k.length≤1000000000) (h:Hp):ACall Tryz.prog GT 32 [.str k] h fun r h'=>r = .int .i64 (Seal.check k)∧h'=h:=
 acall_imp (args1 r_str) (fun w hg=>(refCheck_any ⟨k.toArray⟩ w (by rw [size_mk]; exact hk)).mono fun e w' ⟨h1,h2⟩=>⟨h1,by rw [h2]; exact Below.refl _ _⟩) (fun C=>rep_int.2 rfl) h
theorem a_r33seal (k:List UInt8) (n:Int) (p:List UInt8) (hk:k.length≤1000000000) (hn:Seal.U64 n) (hp:p.length≤1048576) (h:Hp):ACall Tryz.prog GT 49 [.str k,.int .u64 n,.str p] h fun r h'=>r = .tup [.str (Seal.enc k n p).1,.int .i64 (Seal.enc k n p).2]∧h'=h:=
 acall_imp (args3 r_str r_int r_str) (fun w hg=>refEnc_any ⟨k.toArray⟩ n ⟨p.toArray⟩ w (by rw [size_mk]; exact hk) hn (by rw [size_mk]; exact hp)) (fun C=>rep_tup.2 ⟨_,rfl,repL_cons.2 ⟨_,_,rfl,rep_str.2 rfl,repL_cons.2 ⟨_,_,rfl,rep_int.2 rfl,repL_nil.2 rfl⟩⟩⟩) h
theorem a_r33rekey (k q p:List UInt8) (hk:k.length≤1000000000) (hq:q.length≤1000000000) (hp:p.length≤1048600) (h:Hp):ACall Tryz.prog GT 39 [.str k,.str q,.str p] h fun r h'=>r = .tup [.str (Seal.rekey k q p).1,.int .i64 (Seal.rekey k q p).2]∧h'=h:=
 acall_imp (args3 r_str r_str r_str) (fun w hg=>refRekey_any ⟨k.toArray⟩ ⟨q.toArray⟩ ⟨p.toArray⟩ w (by rw [size_mk]; exact hk) (by rw [size_mk]; exact hq) (by rw [size_mk]; exact hp)) (fun C=>rep_tup.2 ⟨_,rfl,repL_cons.2 ⟨_,_,rfl,rep_str.2 rfl,repL_cons.2 ⟨_,_,rfl,rep_int.2 rfl,repL_nil.2 rfl⟩⟩⟩) h
theorem a_r34holds (r:Rst) (who:List UInt8) (h:Hp):ACall Tryz.prog GT 37 [r.A,.str who] h fun v h'=>v = .bool (r.holds who)∧h'=h:=by
 obtain ⟨key,lin,nums,blobs,own,left⟩:=r
 unfold Rst.holds
 refine pcall ?_ rfl (by simp [A.pure,A.data,Rst.A]) h
 refine acall_of mixedT h_r34holds (by simp [c_r34holds]) ?_
 dsimp only [c_r34holds,Rst.A]
 refine runx0 ti ti ?_
 exact ⟨_,le_refl _,rfl⟩
theorem a_r34lock (r:Rst) (who:List UInt8) (hw:who.length≤2000000) (n:Int) (h:Hp):ACall Tryz.prog GT 9 [r.A,.str who,.int .i64 n] h fun v h'=>v = .tup [(r.lock who n).1.A,.int .i64 (r.lock who n).2]∧h'=h:=by
 obtain ⟨key,lin,nums,blobs,own,left⟩:=r
 have ct:=a_r31text who hw
 unfold Rst.lock
 obtain ⟨T,hT⟩:∃ T,Sf.text who=T:=⟨_,rfl⟩
 rw [hT] at ct ⊢
 refine pcall ?_ rfl (by simp [A.pure,A.data,Rst.A]) h
 refine acall_of mixedT h_r34lock (by simp [c_r34lock]) ?_
 dsimp only [c_r34lock,Rst.A]
 cases T
 ·refine runx0 ti (ai ct ti) ?_
  exact ⟨_,le_refl _,rfl⟩
 rw [Bool.not_true,Bool.false_or]
 cases e1:(decide (n < 1)||decide (n > 1099511627776)) with
 | true =>
  refine runx0 e1 (ai ct ti) ?_
  exact ⟨_,le_refl _,rfl⟩
 | false =>
  cases e2:(own != []&&own != who) with
  | true =>
   refine runx0 (ai e1 e2) (ai ct ti) ?_
   exact ⟨_,le_refl _,rfl⟩
  | false =>
   refine runx0 (ai e1 e2) (ai ct ti) ?_
   exact ⟨_,le_refl _,rfl⟩
theorem a_r34unlock (r:Rst) (who:List UInt8) (h:Hp):ACall Tryz.prog GT 11 [r.A,.str who] h fun v h'=>v = .tup [(r.unlock who).1.A,.int .i64 (r.unlock who).2]∧h'=h:=by
 have ch:=a_r34holds r who
 unfold Rst.unlock
 obtain ⟨b,hb⟩:∃ b,r.holds who=b:=⟨_,rfl⟩
 rw [hb] at ch ⊢
 obtain ⟨key,lin,nums,blobs,own,left⟩:=r
 dsimp only [Rst.A] at ch
 refine pcall ?_ rfl (by simp [A.pure,A.data,Rst.A]) h
 refine acall_of mixedT h_r34unlock (by simp [c_r34unlock]) ?_
 dsimp only [c_r34unlock,Rst.A]
 cases b <;> ((refine runx0 ti (ai ch ti) ?_); exact ⟨_,le_refl _,rfl⟩)
theorem a_r34break (r:Rst) (h:Hp):ACall Tryz.prog GT 12 [r.A] h fun v h'=>v = .tup [r.brk.A,.bool (r.own != [])]∧h'=h:=by
 obtain ⟨key,lin,nums,blobs,own,left⟩:=r
 refine pcall ?_ rfl (by simp [A.pure,A.data,Rst.A]) h
 refine acall_of mixedT h_r34break (by simp [c_r34break]) ?_
 dsimp only [c_r34break,Rst.A]
 refine runx0 ti ti ?_
 exact ⟨_,le_refl _,rfl⟩
theorem a_r34tick (r:Rst) (n:Int) (h:Hp):ACall Tryz.prog GT 15 [r.A,.int .i64 n] h fun v h'=>v=(r.tick n).A∧h'=h:=by
 obtain ⟨key,lin,nums,blobs,own,left⟩:=r
 unfold Rst.tick
 refine pcall ?_ rfl (by simp [A.pure,A.data,Rst.A]) h
 refine acall_of mixedT h_r34tick (by simp [c_r34tick]) ?_
 dsimp only [c_r34tick,Rst.A]
 cases e1:(decide (n≤0)||own == []) with
 | true =>
  refine runx0 e1 ti ?_
  exact ⟨_,le_refl _,rfl⟩
 | false =>
  by_cases e2:n≥left
  ·refine runx0 (ai e1 e2) ti ?_
   exact ⟨_,le_refl _,by rw [if_neg (by simp),if_pos e2]; rfl⟩
  ·refine runx0 (ai e1 e2) ti ?_
   exact ⟨_,le_refl _,by rw [if_neg (by simp),if_neg e2]; rfl⟩
theorem a_r34latest (r:Rst) (L:Int) (l:List Int) (hn:r.nums=l++[L]) (hl:l.length≤1000000000) (h:Hp):ACall Tryz.prog GT 17 [r.A] h fun v h'=>v = .int .i64 L∧h'=h:=by
 obtain ⟨key,lin,nums,blobs,own,left⟩:=r
 dsimp only at hn
 subst hn
 refine pcall ?_ rfl (by simp [A.pure,A.data,Rst.A]) h
 refine acall_of mixedT h_r34latest (by simp [c_r34latest]) ?_
 dsimp only [c_r34latest,Rst.A]
 have lr:(rowsI (l++[L])).length=l.length+1:=by simp [rowsI]
 have g0:IntKind.i64.wrap (((l.length+1:Nat):Int) - 1)=(l.length:Int):=by rw [wrap64 (by omega) (by omega)]; omega
 have g1:(l.length:Int) < ((l.length+1:Nat):Int):=by omega
 have g2:(0:Int)≤(l.length:Int):=by omega
 have g3:(rowsI (l++[L])).getD l.length []=[.int .i64 L]:=by rw [rowsI_get _ _ (by simp)]; simp
 refine runx0 (ai lr (ai g0 (ai g1 (ai g2 g3)))) ti ?_
 exact ⟨_,le_refl _,rfl⟩
namespace Sto
theorem enc_len1 (k:List UInt8) (n:Int) (p:List UInt8):(Seal.enc k n p).1.length≤1048600:=by
 unfold Seal.enc
 split
 ·simp
 ·split
  ·simp
  ·show (Crc.app _).length≤_
   have hz:∀ m,(Seal.eight m).length=8:=Seal.eight_length
   unfold Crc.app Seal.body
   simp only [List.length_append,Crc.four_length,hz,Seal.comb_length,List.length_cons,List.length_nil]
   omega
theorem lfind_erase (m n:Int) (h:m≠n):∀ es,lfind m (lerase n es)=lfind m es
 | []=>rfl
 | (k,y)::l=>by
  unfold lerase
  split
  ·next e=>subst e; simp only [lfind,if_neg h]
  ·unfold lfind
   split
   ·rfl
   ·exact lfind_erase m n h l
end Sto
namespace Sf
def smallV (v:V) (nd:Nat):Bool:=decide (0≤Val.left v nd 40)&&decide (IntKind.i64.wrap (Val.keysN v)≤2*(nd:Int))
def smallI (parts:Int) (nd:Nat) (x:Sf.Inst):Bool:=smallV x.attrs nd&&!decide ((x.deps.length:Int) > parts)
def smallP (parts:Int) (nd:Nat) (s:Sf.St):Bool:=
 !(decide ((s.insts.length:Int) > parts)||decide ((s.pends.length:Int) > parts)||decide ((s.outs.length:Int) > parts))&&(s.insts.all (smallI parts nd)&&s.outs.all fun o=>smallV o.value nd)
end Sf
theorem all_drop {α:Type} (p:α→Bool) (l:List α) (i:Nat) (h:i < l.length):(l.drop i).all p=(p l[i]&&(l.drop (i+1)).all p):=by
 rw [List.drop_eq_getElem_cons h,List.all_cons]
theorem a_r31Small (st:Sf.St) (hin:Sf.StIn st) (parts:Int) (nd:Nat) (hp:0≤parts) (hp2:parts≤1000000) (hn:nd≤1000000) (h:Hp):ACall Tryz.prog GT 25 [st.A,.int .i64 parts,.int .i64 (nd:Int)] h fun r h'=>r = .bool (Sf.smallP parts nd st)∧h'=h:=by
 refine pcall ?_ rfl (by simp [A.pure,A.data,Sf.St.A]) h
 refine fo ?_
 have hli:=hin.li
 have hlo:=hin.lo
 have hci:=fun x (hx:x∈st.insts)=>a_rSmall x.attrs nd hn (hin.insts x hx).l
 have hdi:=fun x (hx:x∈st.insts)=>(hin.insts x hx).n
 have hco:=fun x (hx:x∈st.outs)=>a_rSmall x.value nd hn (hin.outs x hx).2
 obtain ⟨lin,ser,ins,ps,os⟩:=st
 simp only [Sf.St.A]
 dsimp only at hli hlo hci hdi hco
 have lm1:(ins.map Sf.Inst.cells).length=ins.length:=List.length_map _
 have lm2:(ps.map Sf.Pend.cells).length=ps.length:=List.length_map _
 have lm3:(os.map Sf.Outp.cells).length=os.length:=List.length_map _
 obtain ⟨q,hq⟩:∃ q,Sf.smallP parts nd ⟨lin,ser,ins,ps,os⟩=q:=⟨_,rfl⟩
 rw [hq]
 unfold Sf.smallP at hq
 dsimp only at hq
 by_cases g1:(ins.length:Int) > parts
 ·have:false=q:=by rw [←hq]; simp [g1]
  subst this
  refine run0 (ai lm1 (ai lm2 (ai lm3 g1))) ?_
  exact ⟨_,le_refl _,rfl⟩
 by_cases g2:(ps.length:Int) > parts
 ·have:false=q:=by rw [←hq]; simp [g2]
  subst this
  refine run0 (ai lm1 (ai lm2 (ai lm3 (ai g1 g2)))) ?_
  exact ⟨_,le_refl _,rfl⟩
 by_cases g3:(os.length:Int) > parts
 ·have:false=q:=by rw [←hq]; simp [g3]
  subst this
  refine run0 (ai lm1 (ai lm2 (ai lm3 (ai g1 (ai g2 g3))))) ?_
  exact ⟨_,le_refl _,rfl⟩
 have hq':(ins.all (Sf.smallI parts nd)&&os.all fun o=>Sf.smallV o.value nd)=q:=by rw [←hq]; simp [g1,g2,g3]
 refine run0 (ai lm1 (ai lm2 (ai lm3 (ai g1 (ai g2 g3))))) ?_
 refine awp_loop (fun m ts hh=>hh=⟨[.cells 39 [.str lin,.int .i64 ser,.sl 13 .no (ins.map Sf.Inst.cells),.sl 3 .no (ps.map Sf.Pend.cells),.sl 7 .no (os.map Sf.Outp.cells)]],[]⟩∧∃ (i:Nat),m=ins.length - i∧i≤ins.length∧(ins.drop i).all (Sf.smallI parts nd)=ins.all (Sf.smallI parts nd)∧ts 1 = .int .i64 parts∧ts 2 = .int .i64 (nd:Int)∧ts 3 = .ptr 0 0∧ts 7 = .int .i64 (i:Nat)) ins.length ?_ ?_
 ·exact ⟨rfl,0,rfl,Nat.zero_le _,rfl,by (exact ev0 ti),by (exact ev0 ti),by (exact ev0 ti),by (exact inv0 ti)⟩
 ·rintro m ts hh ⟨rfl,i,rfl,hi,heq,t1,t2,t3,t7⟩
  by_cases hlt:i < ins.length
  ·have hlt2:(i:Int) < (ins.length:Int):=by omega
   have hla:(i:Int) < ((ins.map Sf.Inst.cells).length:Int):=by rw [lm1]; omega
   have hj0:(0:Int)≤(i:Int):=by omega
   have ei:IntKind.i64.wrap ((i:Int)+1)=((i+1:Nat):Int):=by rw [wrap64 (by omega) (by omega)]; omega
   have hg:=map_getD Sf.Inst.cells ins i hlt
   have hc:=hci _ (List.getElem_mem hlt)
   rw [all_drop _ _ _ hlt] at heq
   obtain ⟨x,hxx⟩:∃ x,ins[i]=x:=⟨_,rfl⟩
   rw [hxx] at hg hc heq
   obtain ⟨a,d,id,ty,⟨k,n,w,vi,vy⟩,v,tn,fi,ds⟩:=x
   simp only [Sf.Inst.cells] at hg
   obtain ⟨b,hb⟩:∃ b,Sf.smallV (.mk k n w vi vy) nd=b:=⟨_,rfl⟩
   have hb':(decide (0≤Val.left (.mk k n w vi vy) nd 40)&&decide (IntKind.i64.wrap (Val.keysN (.mk k n w vi vy))≤2*(nd:Int)))=b:=hb
   dsimp only at hc
   rw [hb'] at hc
   have hsx:Sf.smallI parts nd ⟨a,d,id,ty,⟨k,n,w,vi,vy⟩,v,tn,fi,ds⟩=(Sf.smallV (.mk k n w vi vy) nd&&!decide ((ds.length:Int) > parts)):=rfl
   rw [hsx,hb] at heq
   have ld:(strsA ds).length=ds.length:=strsA_length ds
   simp only [V.A,V.cells] at hc
   refine run0 (ai t1 (ai t2 (ai t3 (ai t7 (ai lm1 (ai hlt2 (ai hla (ai hj0 hg)))))))) ?_
   refine use (hc _) ?_
   cases b
   ·refine run0 (ai t1 (ai t2 (ai t3 t7))) ?_
    exact ⟨_,le_refl _,by rw [tupA_1,←hq',show ins.all (Sf.smallI parts nd)=false from heq.symm]; rfl⟩
   ·by_cases gd:(ds.length:Int) > parts
    ·refine run0 (ai t1 (ai t2 (ai t3 (ai t7 (ai lm1 (ai hlt2 (ai hla (ai hj0 (ai hg (ai ld gd)))))))))) ?_
     exact ⟨_,le_refl _,by rw [tupA_1,←hq',show ins.all (Sf.smallI parts nd)=false from heq.symm.trans (by simp [gd])]; rfl⟩
    ·have hn:(true&&!decide ((ds.length:Int) > parts))=true:=by simp [gd]
     rw [hn,Bool.true_and] at heq
     refine run0 (ai t1 (ai t2 (ai t3 (ai t7 (ai lm1 (ai hlt2 (ai hla (ai hj0 (ai hg (ai ld (ai gd ei))))))))))) ?_
     exact ⟨ins.length - (i+1),by omega,rfl,i+1,rfl,by omega,heq,by (exact ev0 t1),by (exact ev0 t2),by (exact ev0 t3),by (exact ev0 ei)⟩
  ·have hlt2:¬ (i:Int) < (ins.length:Int):=by omega
   rw [List.drop_of_length_le (by omega),List.all_nil] at heq
   rw [←heq,Bool.true_and] at hq'
   refine run0 (ai t1 (ai t2 (ai t3 (ai t7 (ai lm1 hlt2))))) ?_
   refine awp_loop (fun m ts hh=>hh=⟨[.cells 39 [.str lin,.int .i64 ser,.sl 13 .no (ins.map Sf.Inst.cells),.sl 3 .no (ps.map Sf.Pend.cells),.sl 7 .no (os.map Sf.Outp.cells)]],[]⟩∧∃ (i:Nat),m=os.length - i∧i≤os.length∧((os.drop i).all fun o=>Sf.smallV o.value nd)=(os.all fun o=>Sf.smallV o.value nd)∧ts 2 = .int .i64 (nd:Int)∧ts 3 = .ptr 0 0∧ts 8 = .int .i64 (i:Nat)) os.length ?_ ?_
   ·exact ⟨rfl,0,rfl,Nat.zero_le _,rfl,by (exact ev0 t2),by (exact ev0 t3),by (exact inv0 ti)⟩
   ·rintro m ts hh ⟨rfl,i,rfl,hi,heq,t2,t3,t8⟩
    by_cases hlt:i < os.length
    ·have hlt2:(i:Int) < (os.length:Int):=by omega
     have hla:(i:Int) < ((os.map Sf.Outp.cells).length:Int):=by rw [lm3]; omega
     have hj0:(0:Int)≤(i:Int):=by omega
     have ei:IntKind.i64.wrap ((i:Int)+1)=((i+1:Nat):Int):=by rw [wrap64 (by omega) (by omega)]; omega
     have hg:=map_getD Sf.Outp.cells os i hlt
     have hc:=hco _ (List.getElem_mem hlt)
     rw [all_drop _ _ _ hlt] at heq
     obtain ⟨x,hxx⟩:∃ x,os[i]=x:=⟨_,rfl⟩
     rw [hxx] at hg hc heq
     obtain ⟨a,⟨k,n,w,vi,vy⟩,sn⟩:=x
     simp only [Sf.Outp.cells] at hg
     obtain ⟨b,hb⟩:∃ b,Sf.smallV (.mk k n w vi vy) nd=b:=⟨_,rfl⟩
     have hb':(decide (0≤Val.left (.mk k n w vi vy) nd 40)&&decide (IntKind.i64.wrap (Val.keysN (.mk k n w vi vy))≤2*(nd:Int)))=b:=hb
     dsimp only at hc heq
     rw [hb'] at hc
     rw [hb] at heq
     simp only [V.A,V.cells] at hc
     refine run0 (ai t2 (ai t3 (ai t8 (ai lm3 (ai hlt2 (ai hla (ai hj0 hg))))))) ?_
     refine use (hc _) ?_
     cases b
     ·refine run0 (ai t2 (ai t3 t8)) ?_
      exact ⟨_,le_refl _,by rw [tupA_1,←hq',←heq]; rfl⟩
     ·rw [Bool.true_and] at heq
      refine run0 (ai t2 (ai t3 (ai t8 ei))) ?_
      exact ⟨os.length - (i+1),by omega,rfl,i+1,rfl,by omega,heq,by (exact ev0 t2),by (exact ev0 t3),by (exact ev0 ei)⟩
    ·have hlt2:¬ (i:Int) < (os.length:Int):=by omega
     rw [List.drop_of_length_le (by omega),List.all_nil] at heq
     refine run0 (ai t2 (ai t3 (ai t8 (ai lm3 hlt2)))) ?_
     exact ⟨_,le_refl _,by rw [tupA_1,←hq',←heq]⟩
namespace Sto
def stX (n:Int):Sf.St:=⟨[120],n,[],[],[]⟩
def w0:Sto:=(Sto.new [107] [120]).keep (stX 0) |>.1
def w1:Sto:=(w0.lock [97] 5).1
def w2:Sto:=(w1.write [97] (stX 1)).1
def w3:Sto:=w2.tick 2
end Sto
namespace Sto
def newK (key lin:List UInt8):Sto×Int:=(Sto.new key lin).keep ⟨lin,0,[],[],[]⟩
def newE (key lin:List UInt8):Int:=if Seal.check key≠0 then Seal.check key else if txt lin=false then 1 else (newK key lin).2
def newH (key lin:List UInt8):List Blk:=if Seal.check key≠0 then [] else if txt lin=false then [] else [(newK key lin).1.M,(newK key lin).1.B]
def brk (s:Sto):Sto:=if s.own=[] then s else { s with own:=[],left:=0 }
end Sto
theorem a_newE (key lin:List UInt8) (hk:key.length≤1000000000) (hl:lin.length≤900000) (hE:(Sf.stE 2 ⟨lin,0,[],[],[]⟩).length+20≤1000000000) :
  ACall Tryz.prog GT 6 [.str key,.str lin] ⟨[],[]⟩ fun r h'=>r = .tup [if Sto.newE key lin=0 then .ptr 1 0 else .nilp,.int .i64 (Sto.newE key lin)]∧h'=⟨Sto.newH key lin,[]⟩:=by
 have hc':=fun h=>a_sealCheck key hk h
 have ht':=fun h=>a_sttext lin (by omega) h
 have hE':Sto.newE key lin=if Seal.check key≠0 then Seal.check key else if Sto.txt lin=false then 1 else ((Sto.new key lin).keep ⟨lin,0,[],[],[]⟩).2:=rfl
 have hH':Sto.newH key lin=if Seal.check key≠0 then [] else if Sto.txt lin=false then [] else [((Sto.new key lin).keep ⟨lin,0,[],[],[]⟩).1.M,((Sto.new key lin).keep ⟨lin,0,[],[],[]⟩).1.B]:=rfl
 by_cases z1:Seal.check key=0
 rotate_left
 ·rw [if_pos z1] at hE' hH'
  rw [hE',hH',if_neg z1]
  obtain ⟨Z,hZ⟩:∃ Z,Seal.check key=Z:=⟨_,rfl⟩
  rw [hZ] at hc' z1 ⊢
  have e1:(Z != 0)=true:=by simp [z1]
  refine acall_of mixedT h_snew (by simp [c_snew]) ?_
  dsimp only [c_snew]
  refine run0 ti ?_
  refine use (hc' _) ?_
  refine run0 e1 ?_
  exact ⟨_,le_refl _,rfl,rfl⟩
 rw [if_neg (by simp [z1])] at hE' hH'
 rw [z1] at hc'
 by_cases z2:Sto.txt lin=false
 ·rw [if_pos z2] at hE' hH'
  rw [hE',hH',if_neg (by decide)]
  rw [z2] at ht'
  refine acall_of mixedT h_snew (by simp [c_snew]) ?_
  dsimp only [c_snew]
  refine run0 ti ?_
  refine use (hc' _) ?_
  refine run0 ti ?_
  refine use (ht' _) ?_
  refine run0 ti ?_
  exact ⟨_,le_refl _,rfl,rfl⟩
 rw [if_neg z2] at hE' hH'
 rw [hE',hH']
 have z2':Sto.txt lin=true:=by cases h:Sto.txt lin <;> simp_all
 by_cases z3:((Sto.new key lin).keep ⟨lin,0,[],[],[]⟩).2=0
 ·rw [if_pos z3,z3]
  exact a_new key lin hk hl hE z1 z2' z3
 rw [if_neg z3]
 rw [z2'] at ht'
 refine acall_of mixedT h_snew (by simp [c_snew]) ?_
 dsimp only [c_snew]
 have hkp:=a_keep (Sto.new key lin) [] [] ⟨lin,0,[],[],[]⟩ (new_len lin hl) hk hE
 obtain ⟨⟨s2,e⟩,hq⟩:∃ q,(Sto.new key lin).keep ⟨lin,0,[],[],[]⟩=q:=⟨_,rfl⟩
 rw [hq] at hkp z3 ⊢
 dsimp only at hkp z3 ⊢
 have e1:(e != 0)=true:=by simp [z3]
 have hkp':ACall Tryz.prog GT 31 [.ptr 1 0,.agg [.str lin,.int .i64 0,.sl 0 .nil [],.sl 0 .nil [],.sl 0 .nil []]] ⟨[(Sto.new key lin).M,(Sto.new key lin).B],[]⟩ (fun r h'=>r = .int .i64 e∧h'=⟨[s2.M,s2.B],[]⟩):=by
  refine ACall.args ?_ hkp
  exact ⟨rfl,⟨le1_refl _,le1_refl _,⟨rfl,.inr rfl,.inl rfl⟩,⟨rfl,.inr rfl,.inl rfl⟩,⟨rfl,.inr rfl,.inl rfl⟩,trivial⟩,trivial⟩
 have hM:(Sto.new key lin).M = .map [] 0:=rfl
 have hB:(Sto.new key lin).B = .cells 70 [.str key,.str lin,.int .i64 0,.mp 0,.str [],.int .i64 0]:=rfl
 rw [hM,hB] at hkp'
 refine run0 ti ?_
 refine use (hc' _) ?_
 refine run0 ti ?_
 refine use (ht' _) ?_
 refine run0 ti ?_
 refine use hkp' ?_
 refine run0 e1 ?_
 exact ⟨_,le_refl _,rfl,rfl⟩
theorem a_break (s:Sto) (l:List Blk) (t:List (TypeId×Nat×Nat)):ACall Tryz.prog GT 13 [.ptr 1 0] ⟨s.M::s.B::l,t⟩ fun r h'=>r = .bool (s.own != [])∧h'=⟨s.brk.M::s.brk.B::l,t⟩:=by
 refine liftS (s':=s.brk) ?_ rfl rfl l t
 have hm:=a_made s
 have hu:=a_unlock s (who:=s.own)
 obtain ⟨key,lin,lat,es,c,own,left⟩:=s
 unfold Sto.unlock Sto.holds at hu
 unfold Sto.brk
 dsimp only at hu ⊢
 refine acall_of mixedT h_sbreak (by simp [c_sbreak]) ?_
 dsimp only [c_sbreak]
 by_cases ho:own=[]
 ·subst ho
  rw [if_pos (by decide)] at hu
  rw [if_pos rfl]
  unfold Sto.B Sto.M at hm hu ⊢
  dsimp only at hm hu ⊢
  refine run0 ti ?_
  refine use (hm _ _) ?_
  refine run0 ti ?_
  refine use (hu _ _) ?_
  refine run0 ti ?_
  exact ⟨_,le_refl _,rfl,rfl,rfl⟩
 ·have e1:(own != [])=true:=by simp [ho]
  rw [if_neg (by rw [e1]; simp)] at hu
  rw [if_neg ho,e1]
  unfold Sto.B Sto.M at hm hu ⊢
  dsimp only at hm hu ⊢
  refine run0 ti ?_
  refine use (hm _ _) ?_
  refine run0 ti ?_
  refine use (hu _ _) ?_
  refine run0 ti ?_
  exact ⟨_,le_refl _,rfl,rfl,rfl⟩
theorem row_at {α:Type} (f:α→List A) (l:List α) (i:Nat) (h:i < l.length) (hl:l.length≤4611686018427387904) :
  (l.map f).length=l.length∧(i:Int) < (l.length:Int)∧(0:Int)≤(i:Int)∧(l.map f).getD i []=f l[i]∧IntKind.i64.wrap ((i:Int)+1)=((i+1:Nat):Int):=
 ⟨List.length_map _,by omega,by omega,map_getD f l i h,by rw [wrap64 (by omega) (by omega)]; omega⟩
theorem row_end {α:Type} (f:α→List A) (l:List α) (i:Nat) (h:l.length≤i):(l.map f).length=l.length∧¬ (i:Int) < (l.length:Int):=⟨List.length_map _,by omega⟩
structure Act where
 kind:Int
 who:List UInt8
 n:Int
 st:Sf.St
 next:Bool
 key:List UInt8
def Act.cells (a:Act):List A:=[.int .i64 a.kind,.str a.who,.int .i64 a.n,.str a.st.lin,.int .i64 a.st.ser,.sl 13 .no (a.st.insts.map Sf.Inst.cells),.sl 3 .no (a.st.pends.map Sf.Pend.cells),.sl 7 .no (a.st.outs.map Sf.Outp.cells),.bool a.next,.str a.key]
def Act.ok (a:Act):Bool:=Sf.smallP 8 60 a.st&&(decide (a.who.length≤100)&&decide (a.key.length≤100))
def fewB (l:List Act):Bool:=(l.take 30).all Act.ok&&decide (l.length≤30)
def Act.to (a:Act) (lin:List UInt8) (ser:Int):Sf.St:=if a.next then { a.st with lin:=lin,ser:=ser } else a.st
def c_next34:AX.AFn:=⟨17,aS [aR 3 (.box 41 (.t 0)),aR 6 (.alloc 39 [.str [],.int .i64 0,.sl 0 .nil [],.sl 0 .nil [],.sl 0 .nil []])] (aS [aF 8 3 3,aR 9 (.load true 5 (.t 8)),aR 7 (.alloc 39 [.str [],.int .i64 0,.sl 0 .nil [],.sl 0 .nil [],.sl 0 .nil []]),aU (.store 5 (.t 7) (.t 9))] (.seq (aS [aF 10 8 3,aL 11 10] (.cond (.t 11) (aS [aM 12 1,aF 13 0 7,aU (.store 1 (.t 13) (.t 12))] (.reg false [aM 14 2,aF 15 1 7,aU (.store 1 (.t 15) (.t 14))])) (.skip))) (aS [aR 16 (.load true 5 (.t 7)),aU (.store 5 (.t 6) (.t 16))] (.ret)))),[.c 6 true 5]⟩
theorem h_next34:AX.compFn Tryz.prog 16=some c_next34:=by kernel_rfl
theorem a_few34 (l:List Act) (hin:∀ a∈l,Sf.StIn a.st) (hl:l.length≤1000000000) (h:Hp):ACall Tryz.prog GT 4 [.sl 10 .no (l.map Act.cells)] h fun r h'=>r = .bool (fewB l)∧h'=h:=by
 refine pcall ?_ rfl (by simp [A.pure,A.data]) h
 refine fo ?_
 obtain ⟨q,hq⟩:∃ q,fewB l=q:=⟨_,rfl⟩
 rw [hq]
 unfold fewB at hq
 have e30:decide ((l.length:Int)≤30)=decide (l.length≤30):=by rw [decide_eq_decide]; omega
 have lt30:(l.take 30).length=min 30 l.length:=List.length_take
 refine run0 ti ?_
 refine awp_loop (fun m ts hh=>hh=⟨[],[]⟩∧∃ i:Nat,m=l.length - i∧i≤l.length∧i≤30∧((l.take 30).drop i).all Act.ok=(l.take 30).all Act.ok∧(ts 0 = .sl 10 .no (l.map Act.cells)∧ts 3 = .int .i64 (i:Nat))) l.length ?_ ?_
 ·exact ⟨rfl,0,rfl,Nat.zero_le _,by omega,rfl,by (exact inv0 ti)⟩
 rintro m ts hh ⟨rfl,i,rfl,hi,h30,heq,ht⟩
 have fin:l.length≤i∨30≤i→(l.take 30).all Act.ok=true:=fun hc=>by
  rw [←heq,List.drop_of_length_le (by omega)]; rfl
 rcases Nat.lt_or_ge i l.length with hlt | hge
 rotate_left
 ·have hf:=row_end Act.cells l i hge
  rw [fin (.inl hge),Bool.true_and] at hq
  refine run0 (ai ht hf) ?_
  exact ⟨_,le_refl _,by rw [tupA_1,←hq,e30]⟩
 have hf:=row_at Act.cells l i hlt (by omega)
 rcases Nat.lt_or_ge i 30 with h3 | h3
 rotate_left
 ·have g3:¬ (i:Int) < 30:=by omega
  rw [fin (.inr h3),Bool.true_and] at hq
  refine run0 (ai ht (ai hf g3)) ?_
  exact ⟨_,le_refl _,by rw [tupA_1,←hq,e30]⟩
 have g3:(i:Int) < 30:=by omega
 have hlt':i < (l.take 30).length:=by omega
 rw [all_drop _ _ _ hlt',List.getElem_take] at heq
 have hc:=a_r31Small l[i].st (hin _ (List.getElem_mem hlt)) 8 60 (by decide) (by decide) (by decide)
 obtain ⟨a,ha⟩:∃ a,l[i]=a:=⟨_,rfl⟩
 rw [ha] at hf heq hc
 obtain ⟨k,who,n,⟨lin,ser,ins,ps,os⟩,nx,key⟩:=a
 simp only [Act.cells] at hf
 simp only [Act.ok] at heq
 simp only [Sf.St.A] at hc
 obtain ⟨b,hb⟩:∃ b,Sf.smallP 8 60 ⟨lin,ser,ins,ps,os⟩=b:=⟨_,rfl⟩
 rw [hb] at heq hc
 have no:(l.take 30).all Act.ok=false→q=false:=fun e=>by rw [←hq,e]; rfl
 refine run0 (ai ht (ai hf g3)) ?_
 refine use (hc _) ?_
 cases b with
 | false =>
  rw [no (by rw [←heq]; rfl)]
  refine run0 (ai ht (ai hf g3)) ?_
  exact ⟨_,le_refl _,rfl⟩
 | true =>
 rcases Nat.lt_or_ge 100 who.length with w1 | w1
 ·have w1':(who.length:Int) > 100:=by omega
  rw [no (by rw [←heq]; simp; omega)]
  refine run0 (ai ht (ai hf (ai g3 w1'))) ?_
  exact ⟨_,le_refl _,rfl⟩
 have w1':¬ (who.length:Int) > 100:=by omega
 rcases Nat.lt_or_ge 100 key.length with w2 | w2
 ·have w2':(key.length:Int) > 100:=by omega
  rw [no (by rw [←heq]; simp; omega)]
  refine run0 (ai ht (ai hf (ai g3 (ai w1' w2')))) ?_
  exact ⟨_,le_refl _,rfl⟩
 have w2':¬ (key.length:Int) > 100:=by omega
 refine run0 (ai ht (ai hf (ai g3 (ai w1' w2')))) ?_
 exact ⟨l.length - (i+1),by omega,rfl,i+1,rfl,by omega,by omega,by rw [←heq]; simp [w1,w2],by (exact inv0 (ai ht hf))⟩
theorem a_next34 (a:Act) (lin:List UInt8) (ser:Int) (h:Hp):ACall Tryz.prog GT 16 [.agg a.cells,.str lin,.int .i64 ser] h fun r h'=>r=(a.to lin ser).A∧h'=h:=by
 obtain ⟨k,who,n,⟨l0,s0,ins,ps,os⟩,nx,key⟩:=a
 unfold Act.to
 dsimp only [Act.cells]
 refine pcall ?_ (by cases nx <;> rfl) (by simp [A.pure,A.data]) h
 refine acall_of mixedT h_next34 (by simp [c_next34]) ?_
 dsimp only [c_next34]
 cases nx
 ·refine run0 ti ?_
  exact ⟨_,le_refl _,rfl⟩
 ·refine run0 ti ?_
  exact ⟨_,le_refl _,rfl⟩
theorem int_at (l:List Int) (j:Nat) (hj:j < l.length):(rowsI l).length=l.length∧(j:Int) < (l.length:Int)∧(rowsI l).getD j []=[.int .i64 l[j]]:=⟨by simp [rowsI],by omega,rowsI_get l j hj⟩
theorem rowsI_snoc (l:List Int) (n:Int):rowsI (l++[n])=rowsI l++[[.int .i64 n]]:=by simp [rowsI]
theorem strsA_snoc (l:List (List UInt8)) (s:List UInt8):strsA (l++[s])=strsA l++[[.str s]]:=by simp [strsA]
theorem le_store (key lin own:List UInt8) (left e:Int) {X Y:A} {nums:List Int} {blobs:List (List UInt8)} (hX:le1 X (.sl 1 .no (rowsI nums))) (hY:le1 Y (.sl 1 .no (strsA blobs))) :
  le (.tup [.agg [.str key,.str lin,X,Y,.str own,.int .i64 left],.int .i64 e]) (.tup [(⟨key,lin,nums,blobs,own,left⟩:Rst).A,.int .i64 e]):=
 ⟨⟨le1_refl _,le1_refl _,hX,hY,le1_refl _,le1_refl _,trivial⟩,le2_refl _,trivial⟩
theorem a_r34put (r:Rst) (st:Sf.St) (hin:Sf.StIn st) (htp:Sf.TypIn st) (hk:r.key.length≤1000000000) (hn:r.nums.length < 60) (hbn:r.blobs.length=r.nums.length) (hlen:(Sf.stE 2 st).length+20≤1000000000) (h:Hp) :
  ACall Tryz.prog GT 34 [r.A,st.A] h fun v h'=>v = .tup [(r.put st).1.A,.int .i64 (r.put st).2]∧h'=h:=by
 have cE:=a_r32Encode st hin htp (fun _=>hlen)
 have hel:=Sf.encode_len 2 st
 obtain ⟨q,hq⟩:∃ q,r.put st=q:=⟨_,rfl⟩
 rw [hq]
 unfold Rst.put at hq
 obtain ⟨⟨E,e⟩,hE⟩:∃ p,Sf.encode 2 st=p:=⟨_,rfl⟩
 rw [hE] at cE hq hel
 have cS:=a_r33seal r.key (IntKind.u64.wrap st.ser) E hk (u64_wrap _) hel
 dsimp only at cE hq cS
 obtain ⟨⟨B,b⟩,hB⟩:∃ p,Seal.enc r.key (IntKind.u64.wrap st.ser) E=p:=⟨_,rfl⟩
 rw [hB] at cS hq
 dsimp only at hq cS
 obtain ⟨key,lin,nums,blobs,own,left⟩:=r
 obtain ⟨sl,ser,ins,ps,os⟩:=st
 dsimp only at hbn hn cS hq
 dsimp only [Sf.St.A] at cE
 refine pcall ?_ rfl (by simp [A.pure,A.data,Rst.A,Sf.St.A]) h
 refine fo ?_
 dsimp only [Rst.A,Sf.St.A]
 by_cases h1:e=0
 rotate_left
 ·have e1:(e != 0)=true:=by simp [h1]
  rw [if_pos h1] at hq
  subst hq
  refine runx0 e1 (ai cE ti) ?_
  exact ⟨_,le_refl _,rfl⟩
 have e1:(e != 0)=false:=by simp [h1]
 rw [if_neg (by simp [h1])] at hq
 by_cases h2:b=0
 rotate_left
 ·have e2:(b != 0)=true:=by simp [h2]
  rw [if_pos h2] at hq
  subst hq
  refine runx0 (ai e1 e2) (ai cE (ai cS ti)) ?_
  exact ⟨_,le_refl _,rfl⟩
 have e2:(b != 0)=false:=by simp [h2]
 rw [if_neg (by simp [h2])] at hq
 subst hq
 have li:(rowsI nums).length=nums.length∧(strsA blobs).length=nums.length:=⟨by simp [rowsI],by rw [strsA_length,hbn]⟩
 refine runx0 (ai e1 e2) (ai cE (ai cS ti)) ?_
 refine awp_loop (fun m ts hh=>∃ (j:Nat) (W1 W2:Nat) (o1 o2:Own) (t:List (TypeId×Nat×Nat)),m=nums.length - j∧j≤nums.length ∧
  hh=⟨[.cells 32 [.str key,.str lin,.sl 1 .no (rowsI nums),.sl 1 .no (strsA blobs),.str own,.int .i64 left],.cells 39 [.str sl,.int .i64 ser,.sl 13 .no (ins.map Sf.Inst.cells),.sl 3 .no (ps.map Sf.Pend.cells),.sl 7 .no (os.map Sf.Outp.cells)],.cells 32 [.str [],.str [],.sl 0 .nil [],.sl 0 .nil [],.str [],.int .i64 0]],t⟩ ∧
  Gs 3 1 0 ⟨[],t⟩ (rowsI (nums.take j)) (.sl W1 o1 (rowsI (nums.take j)))∧Gs 9 1 0 ⟨[],t⟩ (strsA (blobs.take j)) (.sl W2 o2 (strsA (blobs.take j))) ∧
  (ts 2 = .ptr 0 0∧ts 3 = .ptr 1 0∧ts 4 = .ptr 2 0∧ts 8 = .str B∧ts 10 = .sl W1 o1 (rowsI (nums.take j))∧ts 11 = .sl W2 o2 (strsA (blobs.take j))∧ts 12 = .int .i64 (j:Nat))) nums.length ?_ ?_
 ·exact ⟨0,0,0,.nil,.nil,[],rfl,Nat.zero_le _,rfl,.inl ⟨rfl,rfl⟩,.inl ⟨rfl,rfl⟩,by rw [List.take_zero,List.take_zero]; (exact inv0 ti)⟩
 rintro m ts hh ⟨j,W1,W2,o1,o2,t,rfl,hj,rfl,gX,gY,ht⟩
 rcases Nat.lt_or_ge j nums.length with hlt | hge
 ·have hlb:j < blobs.length:=by omega
  have hf:=int_at nums j hlt
  have hg:=strs_at blobs j hlb (by omega)
  have e5:(decide ((j:Int) > 0)||decide ((nums.length:Int) < 64))=true:=by simp; omega
  obtain ⟨V1,p1,t1,hX,gX1,k1⟩:=gX.grow 8 [.int .i64 nums[j]] (by simp [rowsI]; omega) (by decide)
  have gY1:=k1 _ _ _ _ (by decide) gY
  obtain ⟨V2,p2,t2,hY,gY2,k2⟩:=gY1.grow 16 [.str blobs[j]] (by rw [strsA_length,List.length_take]; omega) (by decide)
  have gX2:=k2 _ _ _ _ (by decide) gX1
  have r1:rowsI (nums.take j)++[[.int .i64 nums[j]]]=rowsI (nums.take (j+1)):=by rw [List.take_succ_eq_append_getElem hlt,rowsI_snoc]
  have r2:strsA (blobs.take j)++[[.str blobs[j]]]=strsA (blobs.take (j+1)):=by rw [List.take_succ_eq_append_getElem hlb,strsA_snoc]
  rw [r1] at gX2
  rw [r2] at gY2
  simp only [r1] at hX
  simp only [r2] at hY
  rw [hbn] at hg
  refine runx0 (ai ht (ai hf (ai hg (ai e5 (ai hX hY))))) ti ?_
  exact ⟨_,by omega,j+1,V1,V2,p1,p2,_,rfl,by omega,rfl,gX2,gY2,by (exact inv0 (ai ht hg))⟩
 obtain rfl:j=nums.length:=by omega
 have hc:¬ ((nums.length:Nat):Int) < (nums.length:Int):=by omega
 rw [List.take_length] at gX ht
 rw [←hbn,List.take_length] at gY
 rw [show blobs.take nums.length=blobs by rw [←hbn,List.take_length]] at ht
 obtain ⟨V1,p1,t1,hX,gX1,k1⟩:=gX.grow 8 [.int .i64 ser] (by simp [rowsI]; omega) (by decide)
 have gY1:=k1 _ _ _ _ (by decide) gY
 obtain ⟨V2,p2,t2,hY,gY2,k2⟩:=gY1.grow 16 [.str B] (by rw [strsA_length]; omega) (by decide)
 have gX2:=k2 _ _ _ _ (by decide) gX1
 rw [←rowsI_snoc] at gX2
 rw [←strsA_snoc] at gY2
 simp only [←rowsI_snoc] at hX
 simp only [←strsA_snoc] at hY
 refine runx0 (ai ht (ai li (ai hc (ai hX hY)))) ti ?_
 exact ⟨_,le_store key lin own left 0 (Gs.le gX2) (Gs.le gY2),rfl⟩
def Rst.new (key lin:List UInt8):Rst×Int:=
 if Seal.check key≠0 then (⟨[],[],[],[],[],0⟩,Seal.check key) else if Sf.text lin=false then (⟨[],[],[],[],[],0⟩,1) else (⟨key,lin,[],[],[],0⟩:Rst).put ⟨lin,0,[],[],[]⟩
theorem a_r34new (key lin:List UInt8) (hk:key.length≤1000000000) (hl:lin.length≤900000) (hE:(Sf.stE 2 ⟨lin,0,[],[],[]⟩).length+20≤1000000000) (h:Hp) :
  ACall Tryz.prog GT 7 [.str key,.str lin] h fun v h'=>v = .tup [(Rst.new key lin).1.A,.int .i64 (Rst.new key lin).2]∧h'=h:=by
 have c1:=a_r33check key hk
 have c2:=a_r31text lin (by omega)
 have htp:Sf.TypIn ⟨lin,0,[],[],[]⟩:=⟨by simp,by simp⟩
 have c3:∀ h,ACall Tryz.prog GT 34 [.agg [.str key,.str lin,.sl 0 .nil [],.sl 0 .nil [],.str [],.int .i64 0],.agg [.str lin,.int .i64 0,.sl 0 .nil [],.sl 0 .nil [],.sl 0 .nil []]] h _:=fun h=>ACall.args (as':=[(⟨key,lin,[],[],[],0⟩:Rst).A,(⟨lin,0,[],[],[]⟩:Sf.St).A]) ⟨⟨le1_refl _,le1_refl _,⟨rfl,.inr rfl,.inl rfl⟩,⟨rfl,.inr rfl,.inl rfl⟩,le1_refl _,le1_refl _,trivial⟩,⟨le1_refl _,le1_refl _,⟨rfl,.inr rfl,.inl rfl⟩,⟨rfl,.inr rfl,.inl rfl⟩,⟨rfl,.inr rfl,.inl rfl⟩,trivial⟩,trivial⟩ (a_r34put ⟨key,lin,[],[],[],0⟩ ⟨lin,0,[],[],[]⟩ (new_len lin hl) htp hk (by simp) rfl hE h)
 unfold Rst.new
 obtain ⟨Z,hZ⟩:∃ Z,Seal.check key=Z:=⟨_,rfl⟩
 obtain ⟨T,hT⟩:∃ T,Sf.text lin=T:=⟨_,rfl⟩
 obtain ⟨⟨r,e⟩,hP⟩:∃ p,(⟨key,lin,[],[],[],0⟩:Rst).put ⟨lin,0,[],[],[]⟩=p:=⟨_,rfl⟩
 rw [hP] at c3 ⊢
 rw [hZ] at c1 ⊢
 rw [hT] at c2 ⊢
 refine pcall ?_ rfl (by simp [A.pure,A.data]) h
 refine acall_of mixedT h_r34new (by simp [c_r34new]) ?_
 dsimp only [c_r34new]
 by_cases h1:Z=0
 rotate_left
 ·have e1:(Z != 0)=true:=by simp [h1]
  rw [if_pos h1]
  refine runx0 e1 (ai c1 ti) ?_
  exact ⟨_,le_store [] [] [] 0 Z ⟨rfl,.inr rfl,.inl rfl⟩ ⟨rfl,.inr rfl,.inl rfl⟩,rfl⟩
 have e1:(Z != 0)=false:=by simp [h1]
 rw [if_neg (by simp [h1])]
 cases T
 ·refine runx0 e1 (ai c1 (ai c2 ti)) ?_
  exact ⟨_,le_store [] [] [] 0 1 ⟨rfl,.inr rfl,.inl rfl⟩ ⟨rfl,.inr rfl,.inl rfl⟩,rfl⟩
 obtain ⟨k',l',n',b',o',f'⟩:=r
 dsimp only [Rst.A] at c3
 refine runx0 e1 (ai c1 (ai c2 (ai c3 ti))) ?_
 exact ⟨_,le_refl _,rfl⟩
theorem a_r34write (r:Rst) (L:Int) (l:List Int) (hnl:r.nums=l++[L]) (who:List UInt8) (st:Sf.St) (hin:Sf.StIn st) (htp:Sf.TypIn st) (hk:r.key.length≤1000000000) (hn:r.nums.length < 60) (hbn:r.blobs.length=r.nums.length) (hlen:(Sf.stE 2 st).length+20≤1000000000) (h:Hp) :
  ACall Tryz.prog GT 19 [r.A,.str who,st.A] h fun v h'=>v = .tup [(r.write L who st).1.A,.int .i64 (r.write L who st).2]∧h'=h:=by
 have c1:=a_r34holds r who
 have c2:=a_r34latest r L l hnl (by rw [hnl,List.length_append] at hn; omega)
 have c3:=a_r34put r st hin htp hk hn hbn hlen
 unfold Rst.write
 obtain ⟨T,hT⟩:∃ T,r.holds who=T:=⟨_,rfl⟩
 obtain ⟨⟨r',e⟩,hP⟩:∃ p,r.put st=p:=⟨_,rfl⟩
 rw [hP] at c3 ⊢
 rw [hT] at c1 ⊢
 obtain ⟨key,lin,nums,blobs,own,left⟩:=r
 obtain ⟨sl,ser,ins,ps,os⟩:=st
 obtain ⟨k',l',n',b',o',f'⟩:=r'
 dsimp only [Rst.A,Sf.St.A] at c1 c2 c3
 refine pcall ?_ rfl (by simp [A.pure,A.data,Rst.A,Sf.St.A]) h
 refine acall_of mixedT h_r34write (by simp [c_r34write]) ?_
 dsimp only [c_r34write,Rst.A,Sf.St.A]
 cases T
 ·refine runx0 ti (ai c1 ti) ?_
  exact ⟨_,le_refl _,rfl⟩
 rw [if_neg (by simp)]
 by_cases h1:sl=lin
 rotate_left
 ·have e1:(sl != lin)=true:=by simp [h1]
  rw [if_pos h1]
  refine runx0 e1 (ai c1 ti) ?_
  exact ⟨_,le_refl _,rfl⟩
 have e1:(sl != lin)=false:=by simp [h1]
 rw [if_neg (by simp [h1])]
 by_cases h2:ser=IntKind.i64.wrap (L+1)
 rotate_left
 ·have e2:(ser != IntKind.i64.wrap (L+1))=true:=by simp [h2]
  rw [if_pos h2]
  refine runx0 (ai e1 e2) (ai c1 (ai c2 ti)) ?_
  exact ⟨_,le_refl _,rfl⟩
 have e2:(ser != IntKind.i64.wrap (L+1))=false:=by simp [h2]
 rw [if_neg (by simp [h2])]
 refine runx0 (ai e1 e2) (ai c1 (ai c2 (ai c3 ti))) ?_
 exact ⟨_,le_refl _,rfl⟩
def Rst.rekey (r:Rst) (who q:List UInt8):Rst×Int:=
 if r.holds who=false then (r,25) else if Seal.check q≠0 then (r,Seal.check q) else ({ r with key:=q,blobs:=r.blobs.map fun b=>(Seal.rekey r.key q b).1 },0)
theorem a_r34rekey (r:Rst) (who q:List UInt8) (hk:r.key.length≤1000000000) (hq:q.length≤1000000000) (hbl:r.blobs.length≤60) (hb:∀ b∈r.blobs,b.length≤1048600) (hg:Seal.check q=0→∀ b∈r.blobs,(Seal.rekey r.key q b).2=0) (h:Hp) :
  ACall Tryz.prog GT 21 [r.A,.str who,.str q] h fun v h'=>v = .tup [(r.rekey who q).1.A,.int .i64 (r.rekey who q).2]∧h'=h:=by
 have c1:=a_r34holds r who
 have c2:=a_r33check q hq
 unfold Rst.rekey
 obtain ⟨T,hT⟩:∃ T,r.holds who=T:=⟨_,rfl⟩
 obtain ⟨Z,hZ⟩:∃ Z,Seal.check q=Z:=⟨_,rfl⟩
 rw [hZ] at c2 hg ⊢
 rw [hT] at c1 ⊢
 obtain ⟨key,lin,nums,blobs,own,left⟩:=r
 dsimp only [Rst.A] at c1 hk hbl hb hg
 refine pcall ?_ rfl (by simp [A.pure,A.data,Rst.A]) h
 refine fo ?_
 dsimp only [Rst.A]
 cases T
 ·refine runx0 ti (ai c1 ti) ?_
  exact ⟨_,le_refl _,rfl⟩
 rw [if_neg (by simp)]
 by_cases h1:Z=0
 rotate_left
 ·have e1:(Z != 0)=true:=by simp [h1]
  rw [if_pos h1]
  refine runx0 e1 (ai c1 (ai c2 ti)) ?_
  exact ⟨_,le_refl _,rfl⟩
 have e1:(Z != 0)=false:=by simp [h1]
 rw [if_neg (by simp [h1])]
 have hg:=hg h1
 have li:=strsA_length blobs
 refine runx0 e1 (ai c1 (ai c2 ti)) ?_
 refine awp_loop (fun m ts hh=>∃ (j:Nat) (W1:Nat) (o1:Own) (t:List (TypeId×Nat×Nat)),m=blobs.length - j∧j≤blobs.length ∧
  hh=⟨[.cells 32 [.str key,.str lin,.sl 1 .no (rowsI nums),.sl 1 .no (strsA blobs),.str own,.int .i64 left],.cells 32 [.str [],.str [],.sl 0 .nil [],.sl 0 .nil [],.str [],.int .i64 0]],t⟩ ∧
  Gs 9 1 0 ⟨[],t⟩ (strsA ((blobs.take j).map fun b=>(Seal.rekey key q b).1)) (.sl W1 o1 (strsA ((blobs.take j).map fun b=>(Seal.rekey key q b).1))) ∧
  (ts 2 = .str q∧ts 3 = .ptr 0 0∧ts 6 = .ptr 1 0∧ts 9 = .sl W1 o1 (strsA ((blobs.take j).map fun b=>(Seal.rekey key q b).1))∧ts 10 = .int .i64 (j:Nat))) blobs.length ?_ ?_
 ·exact ⟨0,0,.nil,[],rfl,Nat.zero_le _,rfl,.inl ⟨rfl,rfl⟩,by rw [List.take_zero]; (exact inv0 ti)⟩
 rintro m ts hh ⟨j,W1,o1,t,rfl,hj,rfl,gX,ht⟩
 rcases Nat.lt_or_ge j blobs.length with hlt | hge
 ·have hf:=strs_at blobs j hlt (by omega)
  have hz:=hg _ (List.getElem_mem hlt)
  have hbz:=hb _ (List.getElem_mem hlt)
  have r1:(blobs.take (j+1)).map (fun b=>(Seal.rekey key q b).1)=(blobs.take j).map (fun b=>(Seal.rekey key q b).1)++[(Seal.rekey key q blobs[j]).1]:=by rw [List.take_succ_eq_append_getElem hlt,List.map_append]; rfl
  obtain ⟨b,hbj⟩:∃ b,blobs[j]=b:=⟨_,rfl⟩
  rw [hbj] at hf hz hbz r1
  have c3:=a_r33rekey key q b hk hq hbz
  obtain ⟨⟨x,e⟩,hx⟩:∃ p,Seal.rekey key q b=p:=⟨_,rfl⟩
  rw [hx] at c3 hz r1
  dsimp only at c3 hz r1
  subst hz
  obtain ⟨M,hM⟩:∃ M,(blobs.take j).map (fun b=>(Seal.rekey key q b).1)=M:=⟨_,rfl⟩
  have hMl:M.length≤60:=by rw [←hM,List.length_map,List.length_take]; omega
  rw [hM] at gX ht r1
  obtain ⟨V1,p1,t1,hX,gX1,k1⟩:=gX.grow 16 [.str x] (by rw [strsA_length]; omega) (by decide)
  rw [←strsA_snoc,←r1] at gX1
  simp only [←strsA_snoc,←r1] at hX
  refine runx0 (ai ht (ai hf hX)) (ai c3 ti) ?_
  exact ⟨_,by omega,j+1,V1,p1,_,rfl,by omega,rfl,gX1,by (exact inv0 (ai ht hf))⟩
 obtain rfl:j=blobs.length:=by omega
 have hc:¬ ((blobs.length:Nat):Int) < (blobs.length:Int):=by omega
 rw [List.take_length] at gX ht
 refine runx0 (ai ht (ai li hc)) ti ?_
 exact ⟨_,le_store q lin own left 0 (le1_refl _) (Gs.le gX),rfl⟩
end AX
end Go.Proofs.YtahmpiioegemaabGreatDoor

namespace Go.Proofs.YtahmpiioegemaabGreatDoor
open Go.RowKit Go.ChangeShapes Go.WideShapes Go.Deep
mutual
def D.bulk:D→Nat
 | .int ..=>1
 | .str l=>l.length+1
 | .bool _=>1
 | .agg l=>D.bulks l+1
 | .sl _ l=>D.bulks l+1
def D.bulks:List D→Nat
 | []=>0
 | d::l=>d.bulk+D.bulks l
end
theorem bulks_le {H:Type}:∀ (l:List D) (xs:List (DataW H)),l.length=xs.length→(∀ i (hi:i < l.length) (hj:i < xs.length),l[i].bulk≤Rows.uptoBulk xs[i])→D.bulks l≤Rows.uptoBulkAll xs
 | [],[],_,_=>by rw [D.bulks]; exact Nat.zero_le _
 | [],_::_,h,_=>by simp at h
 | _::_,[],h,_=>by simp at h
 | d::l,x::xs,h,hb=>by
  rw [D.bulks,Rows.uptoBulkAll]
  exact Nat.add_le_add (hb 0 (by simp) (by simp)) (bulks_le l xs (by simpa using h) fun i hi hj=>hb (i+1) (Nat.succ_lt_succ hi) (Nat.succ_lt_succ hj))
section
variable {H:Type} {enc:TypeId×Value→H} {P:Program} {w:World} {base:Nat} {spare:Nat→Bool} {held:Bool} {K:List TypeId}
theorem trod_fieldsB {n:Nat} (ih:∀ t,t∈K→∀ cs x,DataW.trod enc P w base spare held n t cs=some x→∃ d,Rd w (Old w) d cs∧Conf P d t∧d.bulk≤Rows.uptoBulk x.1) (cs:List Value) :
  ∀ (fs:List Field) (o tot:Nat) (ys:List (DataW H×List MemPlace)),(∀ f∈fs,f.type∈K)→flat P fs o=some tot→cs.length=tot→ys.length=fs.length →
   (∀ (i:Nat) (f:Field),fs[i]?=some f→DataW.trod enc P w base spare held n f.type ((cs.drop f.offset).take (P.cellsOf f.type))=ys[i]?) →
   ∃ l,RdAgg w (Old w) l (cs.drop o)∧ConfL P l (fs.map (·.type))∧D.bulks l≤Rows.uptoBulkAll (ys.map (·.1))
 | [],o,tot,ys,hK,hf,hc,hy,hg=>by
  simp only [flat,Option.some.injEq] at hf
  exact ⟨[],by unfold RdAgg; exact List.drop_of_length_le (by omega),by unfold ConfL; rfl,by unfold D.bulks; exact Nat.zero_le _⟩
 | f::fs,o,tot,ys,hK,hf,hc,hy,hg=>by
  simp only [flat] at hf
  split at hf
  ·next hfo =>
   match ys,hy with
   | y::ys,hy =>
    have h0:=hg 0 f rfl
    obtain ⟨d,hd,hcf,hdb⟩:=ih f.type (hK f (by simp)) _ _ h0
    obtain ⟨l,hl,hcl2,hlb⟩:=trod_fieldsB ih cs fs (o+P.cellsOf f.type) tot ys (fun g hg=>hK g (by simp [hg])) hf hc (by simpa using hy) (fun i g hi=>by simpa using hg (i+1) g (by simpa using hi))
    refine ⟨d::l,?_,?_,?_⟩
    ·unfold RdAgg
     refine ⟨_,cs.drop (o+P.cellsOf f.type),?_,by rw [hfo] at hd; exact hd,hl⟩
     rw [←List.drop_drop,List.take_append_drop]
    ·unfold ConfL
     exact ⟨f.type,fs.map (·.type),rfl,hcf,hcl2⟩
    ·rw [List.map_cons,Rows.uptoBulkAll,D.bulks]
     exact Nat.add_le_add hdb hlb
  ·cases hf
theorem trod_rdB (hP:plainAll P K=true):∀ (n:Nat) (t:TypeId),t∈K→∀ cs x,DataW.trod enc P w base spare held n t cs=some x→∃ d,Rd w (Old w) d cs∧Conf P d t∧d.bulk≤Rows.uptoBulk x.1
 | 0,t,hK,cs,x,h=>by simp [DataW.trod] at h
 | n+1,t,hK,cs,x,h=>by
  have hk:plainB P K t=true:=by
   unfold plainAll at hP
   rw [List.all_eq_true] at hP
   exact hP t hK
  unfold plainB at hk
  split at hk
  ·next k hu =>
   obtain ⟨m,rfl,rfl,hw⟩:=DataW.trod_int hu h
   exact ⟨.int k m,by unfold Rd; rfl,by unfold Conf; exact ⟨hu,hw⟩,by unfold D.bulk Rows.uptoBulk; exact Nat.le_refl _⟩
  ·next hu =>
   obtain ⟨s,rfl,rfl,hs⟩:=DataW.trod_string hu h
   exact ⟨.str s.data.toList,by unfold Rd; simp,by unfold Conf; exact ⟨hu,by simpa using hs⟩,by unfold D.bulk Rows.uptoBulk; exact Nat.le_refl _⟩
  ·next hu =>
   obtain ⟨b,rfl,rfl⟩:=DataW.trod_bool hu h
   exact ⟨.bool b,by unfold Rd; rfl,by unfold Conf; exact hu,by unfold D.bulk Rows.uptoBulk; exact Nat.le_refl _⟩
  ·next fs hu =>
   rw [Bool.and_eq_true,List.all_eq_true,beq_iff_eq] at hk
   obtain ⟨xs,n',hn,rfl,hcl,hxl,hg⟩:=DataW.trod_struct hu h
   obtain rfl:n'=n:=by omega
   obtain ⟨l,hl,hcf,hlb⟩:=trod_fieldsB (fun t hK cs x h=>trod_rdB hP n' t hK cs x h) cs fs.toList 0 _ xs (fun f hf=>by simpa using hk.1 f hf) hk.2 hcl (by simpa using hxl) (fun i f hi=>hg i f (by simpa using hi))
   exact ⟨.agg l,by unfold Rd; exact hl,by unfold Conf; exact ⟨fs,hu,hcf⟩,by rw [D.bulk,Rows.uptoBulk]; exact Nat.succ_le_succ hlb⟩
  ·next e hu =>
   rw [Bool.and_eq_true,decide_eq_true_eq] at hk
   have heK:e∈K:=by simpa using hk.1
   have hpos:=hk.2
   rcases DataW.trod_slice hu h with ⟨rfl,rfl⟩ | ⟨a,len,cap,elems,rest,n',hn,rfl,rfl,hb,hlc,hcm,hel,hi,_⟩
   ·exact ⟨.sl (P.cellsOf e) [],by unfold Rd; exact ⟨none,0,rfl,Nat.le_refl _,by unfold RdRow; trivial⟩,by unfold Conf; exact ⟨e,hu,rfl,by unfold ConfA; trivial,by simp⟩,by simp [D.bulk,D.bulks,Rows.uptoBulk]⟩
   ·obtain rfl:n'=n:=by omega
    have hex:∀ i,i < len→∃ d:D,∃ c,c.length=P.cellsOf e∧(∀ j,j < P.cellsOf e→w.cell? ((a.add (i*P.cellsOf e)).add j)=c[j]?)∧Rd w (Old w) d c∧Conf P d e∧∀ y,elems[i]?=some y→d.bulk≤Rows.uptoBulk y.1:=by
     intro i hil
     have h1:=hi i hil
     have h2:elems[i]?=some (elems[i]'(by omega)):=List.getElem?_eq_getElem (by omega)
     rw [h2] at h1
     obtain ⟨c,hc,ht⟩:=Option.bind_eq_some_iff.1 h1
     obtain ⟨d,hd,hcf,hdb⟩:=trod_rdB hP n' e heK c _ ht
     obtain ⟨_,hcl,hat⟩:=World.cells?_some hc
     exact ⟨d,c,hcl,hat,hd,hcf,fun y hy=>by rw [h2] at hy; injection hy with hy; subst hy; exact hdb⟩
    haveI:Inhabited D:=⟨.bool true⟩
    obtain ⟨f,hf⟩:=choose_lt hex
    refine ⟨.sl (P.cellsOf e) ((List.range len).map f),?_,?_,?_⟩
    ·unfold Rd
     refine ⟨some a,cap,by simp,by simpa using hlc,RdRow.of _ _ _ fun k hk=>?_⟩
     have hkl:k < len:=by simpa using hk
     obtain ⟨c,hcl,hat,hrd,_⟩:=hf k hkl
     obtain ⟨c0,hcl0,hat0,_,_⟩:=hf 0 (by omega)
     obtain ⟨g,off,sp⟩:=a
     have h0:=hat0 0 hpos
     rw [List.getElem?_eq_getElem (by omega)] at h0
     have hs:sp=none:=by
      have:=(cell_there h0).1
      simpa [Addr.add] using this
     subst hs
     have h1:=hat 0 hpos
     rw [List.getElem?_eq_getElem (by omega)] at h1
     have hlt:=(cell_there h1).2
     rw [add_off,add_off] at hlt
     refine ⟨g,off,c,rfl,hlt,hcl,fun j hj=>?_,by simpa using hrd⟩
     have:=hat j hj
     rw [add_off,add_off] at this
     rw [Nat.zero_add]
     exact this
    ·unfold Conf
     exact ⟨e,hu,rfl,confA_of P e _ fun k hk=>by simpa using (hf k (by simpa using hk)).choose_spec.2.2.2.1,by simp; omega⟩
    ·rw [D.bulk,Rows.uptoBulk]
     have:=bulks_le ((List.range len).map f) (elems.map (·.1)) (by simp; omega) (fun i hi hj=>by
      obtain ⟨c,_,_,_,_,h9⟩:=hf i (by simpa using hi)
      simpa using h9 (elems[i]'(by simpa using hj)) (List.getElem?_eq_getElem _))
     omega
  ·cases hk
end
end Go.Proofs.YtahmpiioegemaabGreatDoor

namespace Go.Proofs.YtahmpiioegemaabGreatDoor
open Go.RowKit Go.ChangeShapes Go.WideShapes
theorem list_of_ {α:Type} {f:α→D} {Q:α→Prop}:∀ l:List D,(∀ d∈l,∃ x,d=f x∧Q x)→∃ xs:List α,l=xs.map f∧∀ x∈xs,Q x
 | [],h=>⟨[],rfl,by simp⟩
 | d::l,h=>by
  obtain ⟨x,rfl,hx⟩:=h d (by simp)
  obtain ⟨xs,rfl,hxs⟩:=list_of_ l fun d hd=>h d (by simp [hd])
  exact ⟨x::xs,rfl,List.forall_mem_cons.2 ⟨hx,hxs⟩⟩
namespace Sf
def Inst.toD (x:Inst):D:=.agg [.str x.addr,.str x.dep,.str x.id,.str x.typ,x.attrs.toD,.int .i64 x.ver,.bool x.tainted,.bool x.first,.sl 1 (x.deps.map .str)]
def Pend.toD (p:Pend):D:=.agg [.str p.addr,.str p.typ,.str p.tok]
def Outp.toD (o:Outp):D:=.agg [.str o.name,o.value.toD,.bool o.sens]
def St.toD (s:St):D:=.agg [.str s.lin,.int .i64 s.ser,.sl 13 (s.insts.map Inst.toD),.sl 3 (s.pends.map Pend.toD),.sl 7 (s.outs.map Outp.toD)]
structure St.Wf (s:St):Prop where
 insts:∀ x∈s.insts,x.attrs.Wf
 outs:∀ x∈s.outs,x.value.Wf
 ser:(Lit.int .i64 s.ser).wf=true
theorem Inst.cells_toD (x:Inst):x.toD.cells=x.cells:=by
 obtain ⟨a,d,i,t,⟨k,n,s,is,ks⟩,v,tn,fi,ds⟩:=x
 unfold Inst.toD Inst.cells
 simp only [D.cells,D.cellsL,V.cells_toD,V.cells,strs_rows,List.cons_append,List.nil_append,List.append_nil]
theorem Pend.cells_toD (x:Pend):x.toD.cells=x.cells:=by
 unfold Pend.toD Pend.cells
 simp only [D.cells,D.cellsL,List.cons_append,List.nil_append,List.append_nil]
theorem Outp.cells_toD (x:Outp):x.toD.cells=x.cells:=by
 obtain ⟨m,⟨k,n,s,is,ks⟩,b⟩:=x
 unfold Outp.toD Outp.cells
 simp only [D.cells,D.cellsL,V.cells_toD,V.cells,strs_rows,List.cons_append,List.nil_append,List.append_nil]
theorem rows_map {α:Type} (f:α→D) (g:α→List AX.A) (h:∀ x,(f x).cells=g x):∀ l:List α,D.rows (l.map f)=l.map g
 | []=>by simp [D.rows]
 | x::l=>by simp only [List.map_cons,D.rows,h,rows_map f g h l]
theorem St.cells_toD (s:St):AX.A.agg s.toD.cells=s.A:=by
 unfold St.toD St.A
 simp only [D.cells,D.cellsL,rows_map _ _ Inst.cells_toD,rows_map _ _ Pend.cells_toD,rows_map _ _ Outp.cells_toD,List.cons_append,List.nil_append,List.append_nil]
set_option maxRecDepth 100000 in
theorem conf_inst {d:D} (h:Conf Tryz.prog d 83):∃ x:Inst,d=x.toD∧x.attrs.Wf:=by
 obtain ⟨l',rfl,h2⟩:=conf_struct Tryz.underlying83 h
 obtain ⟨d0,l1,rfl,c0,h2⟩:=confL_cons h2
 obtain ⟨d1,l2,rfl,c1,h2⟩:=confL_cons h2
 obtain ⟨d2,l3,rfl,c2,h2⟩:=confL_cons h2
 obtain ⟨d3,l4,rfl,c3,h2⟩:=confL_cons h2
 obtain ⟨d4,l5,rfl,c4,h2⟩:=confL_cons h2
 obtain ⟨d5,l6,rfl,c5,h2⟩:=confL_cons h2
 obtain ⟨d6,l7,rfl,c6,h2⟩:=confL_cons h2
 obtain ⟨d7,l8,rfl,c7,h2⟩:=confL_cons h2
 obtain ⟨d8,l9,rfl,c8,h2⟩:=confL_cons h2
 obtain rfl:=confL_nil h2
 obtain ⟨a,rfl,_⟩:=conf_str Tryz.underlying9 c0
 obtain ⟨b,rfl,_⟩:=conf_str Tryz.underlying9 c1
 obtain ⟨c,rfl,_⟩:=conf_str Tryz.underlying9 c2
 obtain ⟨e,rfl,_⟩:=conf_str Tryz.underlying9 c3
 obtain ⟨v,rfl,hv⟩:=conf_val c4
 obtain ⟨n,rfl,_⟩:=conf_int (k:=.i64) Tryz.underlying3 c5
 obtain ⟨t,rfl⟩:=conf_bool Tryz.underlying4 c6
 obtain ⟨f,rfl⟩:=conf_bool Tryz.underlying4 c7
 obtain ⟨l4,rfl,c9,_⟩:=conf_slice Tryz.underlying30 c8
 obtain ⟨ks,rfl,_⟩:=conf_strs Tryz.underlying9 l4 c9
 have hw:Tryz.prog.cellsOf 9=1:=by kernel_rfl
 rw [hw]
 exact ⟨⟨a,b,c,e,v,n,t,f,ks⟩,rfl,hv⟩
set_option maxRecDepth 100000 in
theorem conf_pend {d:D} (h:Conf Tryz.prog d 109):∃ x:Pend,d=x.toD∧True:=by
 obtain ⟨l',rfl,h2⟩:=conf_struct Tryz.underlying109 h
 obtain ⟨d0,l1,rfl,c0,h2⟩:=confL_cons h2
 obtain ⟨d1,l2,rfl,c1,h2⟩:=confL_cons h2
 obtain ⟨d2,l3,rfl,c2,h2⟩:=confL_cons h2
 obtain rfl:=confL_nil h2
 obtain ⟨a,rfl,_⟩:=conf_str Tryz.underlying9 c0
 obtain ⟨b,rfl,_⟩:=conf_str Tryz.underlying9 c1
 obtain ⟨c,rfl,_⟩:=conf_str Tryz.underlying9 c2
 exact ⟨⟨a,b,c⟩,rfl,trivial⟩
set_option maxRecDepth 100000 in
theorem conf_outp {d:D} (h:Conf Tryz.prog d 85):∃ x:Outp,d=x.toD∧x.value.Wf:=by
 obtain ⟨l',rfl,h2⟩:=conf_struct Tryz.underlying85 h
 obtain ⟨d0,l1,rfl,c0,h2⟩:=confL_cons h2
 obtain ⟨d1,l2,rfl,c1,h2⟩:=confL_cons h2
 obtain ⟨d2,l3,rfl,c2,h2⟩:=confL_cons h2
 obtain rfl:=confL_nil h2
 obtain ⟨a,rfl,_⟩:=conf_str Tryz.underlying9 c0
 obtain ⟨v,rfl,hv⟩:=conf_val c1
 obtain ⟨t,rfl⟩:=conf_bool Tryz.underlying4 c2
 exact ⟨⟨a,v,t⟩,rfl,hv⟩
set_option maxRecDepth 100000 in
theorem conf_st {d:D} (h:Conf Tryz.prog d 39):∃ x:St,d=x.toD∧x.Wf:=by
 obtain ⟨l',rfl,h2⟩:=conf_struct Tryz.underlying39 h
 obtain ⟨d0,l1,rfl,c0,h2⟩:=confL_cons h2
 obtain ⟨d1,l2,rfl,c1,h2⟩:=confL_cons h2
 obtain ⟨d2,l3,rfl,c2,h2⟩:=confL_cons h2
 obtain ⟨d3,l4,rfl,c3,h2⟩:=confL_cons h2
 obtain ⟨d4,l5,rfl,c4,h2⟩:=confL_cons h2
 obtain rfl:=confL_nil h2
 obtain ⟨a,rfl,_⟩:=conf_str Tryz.underlying9 c0
 obtain ⟨n,rfl,hn⟩:=conf_int (k:=.i64) Tryz.underlying3 c1
 obtain ⟨l2,rfl,k2,_⟩:=conf_slice Tryz.underlying35 c2
 obtain ⟨l3,rfl,k3,_⟩:=conf_slice Tryz.underlying36 c3
 obtain ⟨l4,rfl,k4,_⟩:=conf_slice Tryz.underlying37 c4
 obtain ⟨xs,rfl,hx⟩:=list_of_ l2 fun d hd=>conf_inst (confA_mem k2 d hd)
 obtain ⟨ps,rfl,_⟩:=list_of_ l3 fun d hd=>conf_pend (confA_mem k3 d hd)
 obtain ⟨os,rfl,ho⟩:=list_of_ l4 fun d hd=>conf_outp (confA_mem k4 d hd)
 have hw1:Tryz.prog.cellsOf 83=13:=by kernel_rfl
 have hw2:Tryz.prog.cellsOf 109=3:=by kernel_rfl
 have hw3:Tryz.prog.cellsOf 85=7:=by kernel_rfl
 rw [hw1,hw2,hw3]
 exact ⟨⟨a,n,xs,ps,os⟩,rfl,hx,ho,hn⟩
end Sf
theorem strs_bulk:∀ ks:List (List UInt8),ks.length≤D.bulks (ks.map .str)∧∀ s∈ks,s.length+1≤D.bulks (ks.map .str)
 | []=>by simp
 | k::ks=>by
  obtain ⟨h1,h2⟩:=strs_bulk ks
  rw [List.map_cons,D.bulks,D.bulk]
  refine ⟨by simp only [List.length_cons]; omega,fun s hs=>?_⟩
  rcases List.mem_cons.1 hs with rfl | hs
  ·omega
  ·have:=h2 s hs; omega
theorem num10 (n:Int):(Wire.num n).length≤10:=(Wire.encF_len 9 (Wire.zig n)).2
theorem strE10 (s:List UInt8):(Wire.strE s).length≤10+s.length:=by
 unfold Wire.strE
 rw [List.length_append]
 have:=num10 (s.length:Int)
 omega
theorem bulk_pos (d:D):1≤d.bulk:=by cases d <;> rw [D.bulk] <;> omega
mutual
theorem enc_bulk:∀ v:V,(Val.enc v).length≤30*v.toD.bulk
 | .mk k n s is ks=>by
  have h1:=encs_bulk (k == 5) is ks
  have n1:=num10 k
  have n2:=num10 n
  have n3:=strE10 s
  have n4:=num10 (is.length:Int)
  rw [Val.enc,V.toD,D.bulk,D.bulks,D.bulks,D.bulks,D.bulks,D.bulks,D.bulks,D.bulk,D.bulk,D.bulk,D.bulk,D.bulk,List.length_append]
  split
  ·omega
  ·split
   ·omega
   ·split
    ·rw [List.length_append]; omega
    ·simp only [List.length_nil]; omega
theorem encs_bulk:∀ (m:Bool) (l:List V) (ks:List (List UInt8)),(Val.encs m l ks).length≤30*(D.bulks (V.toDs l)+D.bulks (ks.map .str))
 | m,[],ks=>by rw [Val.encs]; simp
 | m,v::l,ks=>by
  have h1:=enc_bulk v
  have hp:=bulk_pos v.toD
  rw [Val.encs,V.toDs,D.bulks,List.length_append,List.length_append]
  cases ks with
  | nil =>
   have h2:=encs_bulk m l ([]:List (List UInt8)).tail
   have:(Val.keyE m []).length=0:=by cases m <;> rfl
   simp only [List.tail_nil] at h2 ⊢
   omega
  | cons k ks =>
   have h2:=encs_bulk m l (k::ks).tail
   have h3:(Val.keyE m (k::ks)).length≤10+k.length:=by
    cases m
    ·simp [Val.keyE]
    ·exact strE10 k
   rw [List.tail_cons] at h2
   rw [List.map_cons,D.bulks,D.bulk,List.tail_cons]
   omega
end
theorem flat_bulk {α:Type} (f:α→List UInt8) (g:α→D) (h:∀ x,(f x).length≤30*(g x).bulk):∀ l:List α,(l.flatMap f).length≤30*D.bulks (l.map g)
 | []=>by simp
 | x::l=>by
  have:=h x
  have:=flat_bulk f g h l
  rw [List.flatMap_cons,List.map_cons,D.bulks,List.length_append]
  omega
theorem map_bulk {α:Type} (g:α→D):∀ l:List α,l.length≤D.bulks (l.map g)∧∀ x∈l,(g x).bulk≤D.bulks (l.map g)
 | []=>by simp
 | x::l=>by
  obtain ⟨h1,h2⟩:=map_bulk g l
  have:=bulk_pos (g x)
  rw [List.map_cons,D.bulks]
  refine ⟨by simp only [List.length_cons]; omega,fun y hy=>?_⟩
  rcases List.mem_cons.1 hy with rfl | hy
  ·omega
  ·have:=h2 y hy; omega
namespace Sf
theorem flag10 (b:Bool):(flagE b).length≤10:=num10 _
theorem instE_bulk (ver:Int) (x:Inst):(instE ver x).length≤30*x.toD.bulk:=by
 have a1:=strE10 x.addr
 have a2:=strE10 x.dep
 have a3:=strE10 x.id
 have a4:=strE10 x.typ
 have a5:=enc_bulk x.attrs
 have a6:=num10 x.ver
 have a7:=flag10 x.tainted
 have a8:(if ver=2 then flagE x.first else []).length≤10:=by
  split
  ·exact flag10 _
  ·simp
 have a9:=num10 (x.deps.length:Int)
 have a10:=flat_bulk Wire.strE D.str (fun s=>by rw [D.bulk]; have:=strE10 s; omega) x.deps
 unfold instE wordsE Inst.toD
 simp only [List.length_append,D.bulk,D.bulks]
 omega
theorem pendE_bulk (x:Pend):(pendE x).length≤30*x.toD.bulk:=by
 have a1:=strE10 x.addr
 have a2:=strE10 x.typ
 have a3:=strE10 x.tok
 unfold pendE Pend.toD
 simp only [List.length_append,D.bulk,D.bulks]
 omega
theorem outE_bulk (x:Outp):(outE x).length≤30*x.toD.bulk:=by
 have a1:=strE10 x.name
 have a2:=enc_bulk x.value
 have a3:=flag10 x.sens
 unfold outE Outp.toD
 simp only [List.length_append,D.bulk,D.bulks]
 omega
theorem stE_bulk (ver:Int) (s:St):(stE ver s).length≤30*s.toD.bulk:=by
 have a0:magic.length=4:=rfl
 have a1:=num10 ver
 have a2:=strE10 s.lin
 have a3:=num10 s.ser
 have a4:=num10 (s.insts.length:Int)
 have a5:=flat_bulk (instE ver) Inst.toD (instE_bulk ver) s.insts
 have a6:(if ver=2 then Wire.num s.pends.length++s.pends.flatMap pendE else []).length≤10+30*D.bulks (s.pends.map Pend.toD):=by
  have b1:=num10 (s.pends.length:Int)
  have b2:=flat_bulk pendE Pend.toD pendE_bulk s.pends
  split
  ·rw [List.length_append]; omega
  ·simp
 have a7:=num10 (s.outs.length:Int)
 have a8:=flat_bulk outE Outp.toD outE_bulk s.outs
 unfold stE St.toD
 simp only [List.length_append,D.bulk,D.bulks]
 omega
structure Fit (s:St):Prop where
 sin:AX.Sf.StIn s
 tin:TypIn s
 len:∀ ver,(stE ver s).length+20≤1000000000
theorem inst_fit {x:Inst} (hw:x.attrs.Wf) (hb:x.toD.bulk≤1500000):AX.Sf.InstIn x∧x.typ.length≤2000000:=by
 unfold Inst.toD at hb
 simp only [D.bulk,D.bulks] at hb
 obtain ⟨h1,h2⟩:=strs_bulk x.deps
 exact ⟨⟨by omega,by omega,by omega,V.Wf.lens _ hw,by omega,fun s hs=>by have:=h2 s hs; omega⟩,by omega⟩
theorem fit_of {s:St} (hw:s.Wf) (hb:s.toD.bulk≤1500000):Fit s:=by
 have hE:=fun ver=>stE_bulk ver s
 have hb':=hb
 unfold St.toD at hb'
 simp only [D.bulk,D.bulks] at hb'
 obtain ⟨i1,i2⟩:=map_bulk Inst.toD s.insts
 obtain ⟨p1,p2⟩:=map_bulk Pend.toD s.pends
 obtain ⟨o1,o2⟩:=map_bulk Outp.toD s.outs
 have hi:∀ x∈s.insts,AX.Sf.InstIn x∧x.typ.length≤2000000:=fun x hx=>inst_fit (hw.insts x hx) (by have:=i2 x hx; omega)
 have hp:∀ x∈s.pends,x.addr.length≤2000000∧x.typ.length≤2000000∧x.tok.length≤2000000:=fun x hx=>by
  have:x.toD.bulk≤1500000:=by have:=p2 x hx; omega
  unfold Pend.toD at this
  simp only [D.bulk,D.bulks] at this
  refine ⟨?_,?_,?_⟩ <;> omega
 have ho:∀ x∈s.outs,x.name.length≤2000000∧x.value.lens:=fun x hx=>by
  have:x.toD.bulk≤1500000:=by have:=o2 x hx; omega
  unfold Outp.toD at this
  simp only [D.bulk,D.bulks] at this
  exact ⟨by omega,V.Wf.lens _ (hw.outs x hx)⟩
 refine ⟨⟨by omega,fun x hx=>(hi x hx).1,fun x hx=>⟨(hp x hx).1,(hp x hx).2.2⟩,ho,by omega,by omega,by omega⟩,⟨fun x hx=>(hi x hx).2,fun x hx=>(hp x hx).2.1⟩,fun ver=>?_⟩
 have:=hE ver
 omega
end Sf
end Go.Proofs.YtahmpiioegemaabGreatDoor

namespace Go.Proofs.YtahmpiioegemaabGreatDoor
open Go.RowKit
namespace AX
open Sto
structure LeftOk (s:Sto):Prop where
 lo:0≤s.left
 hi:s.left≤1099511627776
theorem LeftOk.lock {s:Sto} (h:LeftOk s) (who:List UInt8) (n:Int):LeftOk (s.lock who n).1∧(s.lock who n).1.lin=s.lin∧((s.lock who n).2≠0∨s.own=[]∨s.own=who):=by
 unfold Sto.lock
 split
 ·exact ⟨h,rfl,.inl (by show (1:Int)≠0; decide)⟩
 ·next h1 =>
  split
  ·exact ⟨h,rfl,.inl (by show (24:Int)≠0; decide)⟩
  ·next h2 =>
   rw [Bool.not_eq_false,Bool.and_eq_true,Bool.and_eq_true,decide_eq_true_eq,decide_eq_true_eq] at h1
   refine ⟨⟨by show 0≤n; omega,by show n≤_; omega⟩,rfl,.inr ?_⟩
   by_cases e:s.own=[]
   ·exact .inl e
   ·right
    by_cases e2:s.own=who
    ·exact e2
    ·exact absurd (by simp [e,e2]) h2
theorem LeftOk.unlock {s:Sto} (h:LeftOk s) (who:List UInt8):LeftOk (s.unlock who).1∧(s.unlock who).1.lin=s.lin:=by
 unfold Sto.unlock
 split
 ·exact ⟨h,rfl⟩
 ·exact ⟨⟨Int.le_refl _,by show (0:Int)≤_; decide⟩,rfl⟩
theorem LeftOk.brk {s:Sto} (h:LeftOk s):LeftOk s.brk∧s.brk.lin=s.lin:=by
 unfold Sto.brk
 split
 ·exact ⟨h,rfl⟩
 ·exact ⟨⟨Int.le_refl _,by show (0:Int)≤_; decide⟩,rfl⟩
theorem LeftOk.tick {s:Sto} (h:LeftOk s) (n:Int):LeftOk (s.tick n)∧(s.tick n).lin=s.lin:=by
 have:=h.lo
 have:=h.hi
 have hd:¬ (n≤0∨s.own=[])→0≤(if s.left < n then s.left else n)∧(if s.left < n then s.left else n)≤s.left:=fun hn=>by
  split <;> omega
 unfold Sto.tick
 generalize (if s.left < n then s.left else n)=d at hd ⊢
 split
 ·exact ⟨h,rfl⟩
 ·next hn =>
  have:=hd hn
  split
  ·exact ⟨⟨Int.le_refl _,by show (0:Int)≤_; decide⟩,rfl⟩
  ·exact ⟨⟨by show 0≤s.left - d; omega,by show s.left - d≤_; omega⟩,rfl⟩
theorem to_fit (a:Act) (lin:List UInt8) (ser:Int) (hw:a.st.Wf) (hb:a.st.toD.bulk≤1048576) (hl:lin.length≤100) (hs:-9223372036854775808≤ser∧ser≤9223372036854775807):Sf.Fit (a.to lin ser):=by
 unfold Act.to
 split
 ·refine Sf.fit_of ⟨hw.insts,hw.outs,?_⟩ ?_
  ·show (Lit.int .i64 ser).wf=true
   unfold Lit.wf
   rw [Bool.and_eq_true,decide_eq_true_eq,decide_eq_true_eq]
   exact hs
  ·show (Sf.St.toD { a.st with lin:=lin,ser:=ser }).bulk≤_
   unfold Sf.St.toD at hb ⊢
   simp only [D.bulk,D.bulks] at hb ⊢
   omega
 ·exact Sf.fit_of hw (Nat.le_trans hb (by decide))
def w0 (lin:List UInt8):Sf.St:=⟨lin,0,[],[],[]⟩
theorem newE_ok {key lin:List UInt8} (h:newE key lin=0):Seal.check key=0∧(newK key lin).2=0∧newH key lin=[(newK key lin).1.M,(newK key lin).1.B]:=by
 unfold newE at h
 unfold newH
 by_cases h1:Seal.check key≠0
 ·rw [if_pos h1] at h; exact absurd h h1
 ·rw [if_neg h1] at h ⊢
  by_cases h2:txt lin=false
  ·rw [if_pos h2] at h; cases h
  ·rw [if_neg h2] at h ⊢
   exact ⟨by simpa using h1,h,rfl⟩
end AX
end Go.Proofs.YtahmpiioegemaabGreatDoor

namespace Go.Proofs.YtahmpiioegemaabGreatDoor
open Go.RowKit
namespace AX
namespace Sto
structure Vw (s:Sto) (n:Nat):Prop where
 lat:s.latest+1=(n:Int)
 pos:1≤n
 key:Seal.check s.key=0
 has:∀ j,j < n→∃ b p,lfind (j:Int) s.es=some b∧Seal.dec s.key b=(p,0)∧p.length≤1048576
 only:∀ n b,(n,b)∈s.es→b.length≤1048600
variable {s s':Sto} {n:Nat}
theorem Vw.keyLen (v:Vw s n):s.key.length≤1000000000:=by
 have:=v.key
 unfold Seal.check at this
 split at this
 ·cases this
 ·split at this
  ·cases this
  ·omega
theorem Vw.same (v:Vw s n) (h1:s'.latest=s.latest) (h2:s'.key=s.key) (h3:s'.es=s.es):Vw s' n:=
 ⟨by rw [h1]; exact v.lat,v.pos,by rw [h2]; exact v.key,by rw [h2,h3]; exact v.has,by rw [h3]; exact v.only⟩
theorem Vw.lock (v:Vw s n) (who:List UInt8) (k:Int):Vw (s.lock who k).1 n:=by
 unfold Sto.lock
 split
 ·exact v
 ·split
  ·exact v
  ·exact v.same rfl rfl rfl
theorem Vw.unlock (v:Vw s n) (who:List UInt8):Vw (s.unlock who).1 n:=by
 unfold Sto.unlock
 split
 ·exact v
 ·exact v.same rfl rfl rfl
theorem Vw.tick (v:Vw s n) (k:Int):Vw (s.tick k) n:=by
 unfold Sto.tick
 split
 ·exact v
 ·repeat' split
  all_goals exact v.same rfl rfl rfl
theorem Vw.brk (v:Vw s n):Vw s.brk n:=by
 unfold Sto.brk
 split
 ·exact v
 ·exact v.same rfl rfl rfl
theorem mem_lerase {n m:Int} {b:List UInt8}:∀ {es:List (Int×List UInt8)},(n,b)∈lerase m es→(n,b)∈es
 | [],h=>h
 | x::l,h=>by
  unfold lerase at h
  split at h
  ·exact List.mem_cons_of_mem _ h
  ·rcases List.mem_cons.1 h with h | h
   ·rw [h]; exact List.mem_cons_self
   ·exact List.mem_cons_of_mem _ (mem_lerase h)
theorem keep_vw (st:Sf.St) (hk:Seal.check s.key=0) (hser:st.ser=(n:Int)) (hn:n < 60) (has:∀ j,j < n→∃ b p,lfind (j:Int) s.es=some b∧Seal.dec s.key b=(p,0)∧p.length≤1048576)
  (only:∀ n b,(n,b)∈s.es→b.length≤1048600) (he:(s.keep st).2=0):Vw (s.keep st).1 (n+1):=by
 have hp:(Sf.encode 2 st).1.length≤1048576:=Sf.encode_len 2 st
 unfold Sto.keep at he ⊢
 by_cases h1:(Sf.encode 2 st).2=0
 rotate_left
 ·rw [if_pos h1] at he; exact absurd he h1
 rw [if_neg (by rw [h1]; simp)] at he ⊢
 by_cases h2:(Seal.enc s.key (IntKind.u64.wrap st.ser) (Sf.encode 2 st).1).2=0
 rotate_left
 ·rw [if_pos h2] at he; exact absurd he h2
 rw [if_neg (by rw [h2]; simp)]
 have e3:=Seal.enc_ok s.key (IntKind.u64.wrap st.ser) (Sf.encode 2 st).1 hk hp
 have e4:=Seal.dec_enc s.key (IntKind.u64.wrap st.ser) (Sf.encode 2 st).1 hk (u64_wrap _) hp
 have hw:IntKind.i64.wrap (st.ser - 64)=st.ser - 64:=by rw [hser]; exact wrap64 (by omega) (by omega)
 refine ⟨?_,by omega,hk,fun j hj=>?_,fun m b hm=>?_⟩
 ·show st.ser+1=_
  rw [hser]; omega
 ·rw [hw]
  show ∃ b p,lfind (j:Int) (lerase (st.ser - 64) (lput st.ser _ s.es))=some b∧Seal.dec s.key b=(p,0)∧_
  rw [lfind_erase _ _ (by omega)]
  by_cases hjn:j < n
  ·rw [lfind_put_ne _ _ _ (by omega)]
   exact has j hjn
  ·obtain rfl:j=n:=by omega
   rw [hser,lfind_put]
   exact ⟨_,(Sf.encode 2 st).1,rfl,by rw [←hser,e3]; exact e4,hp⟩
 ·rcases mem_put (mem_lerase hm) with ⟨rfl,rfl⟩ | h
  ·exact enc_len1 _ _ _
  ·exact only m b h
theorem Vw.find (v:Vw s n) (m:Int) (b:List UInt8) (h:lfind m s.es=some b):b.length≤1048600:=v.only m b (lfind_mem m b _ h)
theorem Vw.write (v:Vw s n) (hn:n < 60) (who:List UInt8) (st:Sf.St) :
  ((s.write who st).2≠0∧(s.write who st).1=s)∨((s.write who st).2=0∧Vw (s.write who st).1 (n+1)∧(s.write who st).1.lin=s.lin∧(s.write who st).1.left=s.left):=by
 unfold Sto.write
 by_cases h1:s.holds who=false
 ·rw [if_pos h1]; exact .inl ⟨(by decide:(25:Int)≠0),rfl⟩
 rw [if_neg h1]
 by_cases h2:st.lin≠s.lin
 ·rw [if_pos h2]; exact .inl ⟨(by decide:(23:Int)≠0),rfl⟩
 rw [if_neg h2]
 by_cases h3:st.ser≠IntKind.i64.wrap (s.latest+1)
 ·rw [if_pos h3]; exact .inl ⟨(by decide:(22:Int)≠0),rfl⟩
 rw [if_neg h3]
 have h4:st.ser=(n:Int):=by
  have:=Decidable.not_not.1 h3
  rw [this,v.lat]; exact wrap64 (by omega) (by omega)
 by_cases h5:(s.keep st).2=0
 ·refine .inr ⟨h5,keep_vw st v.key h4 hn v.has v.only h5,?_⟩
  unfold Sto.keep at h5 ⊢
  split at h5
  ·next h=>exact absurd h5 h
  ·next h =>
   rw [if_neg h]
   split at h5
   ·next h'=>exact absurd h5 h'
   ·next h'=>rw [if_neg h']; exact ⟨rfl,rfl⟩
 ·refine .inl ⟨h5,?_⟩
  unfold Sto.keep at h5 ⊢
  split
  ·rfl
  ·split
   ·rfl
   ·next h h'=>rw [if_neg h,if_neg h'] at h5; exact absurd rfl h5
theorem Vw.serials (v:Vw s n) (hn:n < 60):s.serials=(List.range n).map fun i:Nat=>(i:Int):=by
 have h:=v.lat
 have hlo:s.lo=0:=by unfold Sto.lo; rw [if_pos (by omega)]
 unfold Sto.serials Sto.upTo
 rw [hlo,show (s.latest+1 - 0).toNat=n by omega]
 simp
theorem Vw.rekey {q:List UInt8} (v:Vw s n) (hn:n < 60) (hq:Seal.check q=0) (r:s.Rekeyed q s'):Vw s' n:=by
 have hs:=v.serials hn
 refine ⟨by rw [r.latest]; exact v.lat,v.pos,by rw [r.key]; exact hq,fun j h=>?_,fun m b hm=>?_⟩
 ·obtain ⟨b,p,h1,h2,h3⟩:=v.has j h
  have hmem:(j:Int)∈s.serials:=by rw [hs]; exact List.mem_map.2 ⟨j,List.mem_range.2 h,rfl⟩
  have hg:=r.good j hmem
  have he:=r.es j hmem
  rw [h1] at hg
  simp only [Option.getD_some] at hg
  obtain ⟨p',k1,k2⟩:=Seal.rekey_ok s.key q b (Seal.rekey s.key q b).1 (Prod.ext rfl hg)
  rw [h2] at k1
  injection k1 with k1 _
  subst k1
  refine ⟨_,p,he,?_,h3⟩
  unfold Sto.anew
  rw [r.key,h1]
  exact k2
 ·obtain ⟨_,rfl⟩:=r.only m b hm
  unfold Sto.anew Seal.rekey
  split
  ·simp
  ·exact enc_len1 _ _ _
end Sto
theorem a_at_none (s:Sto) (l:List Blk) (t:List (TypeId×Nat×Nat)) (n:Int) (hk:s.key.length≤1000000000) (hf:lfind n s.es=none):ACall Tryz.prog GT 23 [.ptr 1 0,.int .i64 n] ⟨s.M::s.B::l,t⟩ fun r h'=>r = .tup [.agg [.str [],.int .i64 0,.sl 13 .no [],.sl 3 .no [],.sl 7 .no []],.int .i64 9]∧h'=⟨s.M::s.B::l,t⟩:=by
 refine liftS (s':=s) ?_ rfl rfl l t
 refine acall_of mixedT h_sat (by simp [c_sat]) ?_
 dsimp only [c_sat]
 have hm:=a_made s
 have hpl:=fun l t=>a_plain s l t n hk (fun b hb=>by rw [hf] at hb; cases hb)
 have hp:s.plain n=([],9):=by unfold Sto.plain; rw [hf]
 rw [hp] at hpl
 dsimp only at hpl
 have hz:le (.tup [.agg [.str [],.int .i64 0,.sl 0 .nil [],.sl 0 .nil [],.sl 0 .nil []],.int .i64 9]) (.tup [.agg [.str [],.int .i64 0,.sl 13 .no [],.sl 3 .no [],.sl 7 .no []],.int .i64 9]):=⟨⟨le1_refl _,le1_refl _,⟨rfl,.inr rfl,.inl rfl⟩,⟨rfl,.inr rfl,.inl rfl⟩,⟨rfl,.inr rfl,.inl rfl⟩,trivial⟩,le2_refl _,trivial⟩
 unfold Sto.B Sto.M at hm hpl ⊢
 refine run0 ti ?_
 refine use (hm _ _) ?_
 refine run0 ti ?_
 refine use (hpl _ _) ?_
 refine run0 ti ?_
 exact ⟨_,hz,rfl,rfl,rfl⟩
end AX
end Go.Proofs.YtahmpiioegemaabGreatDoor
