/- Part of what the proof needs. -/
import Derived.Test.YtnjkemakcejceaaGreatDoorMFrStoreVersionsUptoL
set_option linter.unusedSimpArgs false
set_option linter.unusedVariables false
set_option linter.unnecessarySimpa false
namespace Go.Proofs.YtnjkemakcejceaaGreatDoor
open Go.RowKit
set_option maxHeartbeats 4000000
namespace Sf
def Inst.cells : Inst → List AX.A
 | ⟨a,d,i,t,.mk k n s is ks,v,tn,fi,ds⟩ => [.str a,.str d,.str i,.str t,.int .i64 k,.int .i64 n,.str s,.sl 5 .no (V.cellss is),.sl 1 .no (strsA ks),.int .i64 v,.bool tn,.bool fi,.sl 1 .no (strsA ds)]
def Pend.cells (p : Pend) : List AX.A:=[.str p.addr,.str p.typ,.str p.tok]
def Outp.cells : Outp → List AX.A
 | ⟨m,.mk k n s is ks,b⟩ => [.str m,.int .i64 k,.int .i64 n,.str s,.sl 5 .no (V.cellss is),.sl 1 .no (strsA ks),.bool b]
def St.A (s : St) : AX.A:=.agg [.str s.lin,.int .i64 s.ser,.sl 13 .no (s.insts.map Inst.cells),.sl 3 .no (s.pends.map Pend.cells),.sl 7 .no (s.outs.map Outp.cells)]
end Sf
namespace Val
theorem readValue_le (r : Wire.St) : (readValue r).1.rest.length ≤ r.rest.length:=by
 have:=read_le 32 r
 unfold readValue
 dsimp only
 split
 ·exact this
 ·split <;> exact this
end Val
namespace Sf
theorem strS_le (s : Rs) : (strS s).1.r.rest.length ≤ s.r.rest.length:=Wire.strR_rest _
theorem numS_le (s : Rs) : (numS s).1.r.rest.length ≤ s.r.rest.length:=Wire.numR_rest _
theorem cntS_le (s : Rs) : (cntS s).1.r.rest.length ≤ s.r.rest.length:=Wire.cntR_rest _ _
theorem cntS_cnt (s : Rs) : (cntS s).2 ≤ s.r.rest.length:=Wire.cntR_cnt _
theorem flagS_le (s : Rs) : (flagS s).1.r.rest.length ≤ s.r.rest.length:=Wire.numR_rest _
theorem valueS_le (s : Rs) : (valueS s).1.r.rest.length ≤ s.r.rest.length:=Val.readValue_le _
theorem wordsS_le : ∀ (c : Nat) (s : Rs) (l : List (List UInt8)),(wordsS c s l).1.r.rest.length ≤ s.r.rest.length
 | 0,s,l => Nat.le_refl _
 | c + 1,s,l => Nat.le_trans (wordsS_le c _ _) (strS_le s)
end Sf
namespace AX
def RB (ver : Int) (bad : Bool) : Blk:=.cells 109 [.ptr 1 0,.int .i64 ver,.bool bad]
theorem liftR {P : Program} {G : World → Prop} {f : FuncId} {args : List A} {ver : Int} {s s' : Sf.Rs} {v : A} (hc : ACall P G f (.ptr 0 0 :: args) ⟨[RB ver s.bad,rdr s.r],[]⟩ fun v' h' => v' = v ∧ h'.b[0]? = some (RB ver s'.bad) ∧ h'.b[1]? = some (rdr s'.r)) (ha : A.locL 0 args = true) (hv : v.loc 0 = true) (l : List Blk) (t : List (TypeId × Nat × Nat)) :
  ACall P G f (.ptr 0 0 :: args) ⟨RB ver s.bad :: rdr s.r :: l,t⟩ fun v' h' => v' = v ∧ h' = ⟨RB ver s'.bad :: rdr s'.r :: l,t⟩:=by
 have key:=ACall.lift hc (fun i => i) (fun a b _ _ e => e) (by unfold A.locL; rw [(A.locL0 _ args ha).1]; rfl)
  (fun x hx => by
   rcases List.mem_cons.1 hx with rfl | hx
   ·rfl
   ·rw [List.mem_singleton.1 hx]; rfl)
  (fun v' h' ⟨e,h0,h1⟩ => ⟨by rw [e]; exact (A.loc0 _ v hv).1,fun j x hj hx => by
   have : j = 0 ∨ j = 1:=by simp only [List.length_cons,List.length_nil] at hj; omega
   rcases this with rfl | rfl
   ·rw [h0] at hx; injection hx with hx; subst hx; rfl
   ·rw [h1] at hx; injection hx with hx; subst hx; rfl⟩)
  (h:=⟨RB ver s.bad :: rdr s.r :: l,t⟩) (fun j hj => by
   have : j = 0 ∨ j = 1:=by simp only [List.length_cons,List.length_nil] at hj; omega
   rcases this with rfl | rfl <;> rfl)
 have e : A.renL (fun i => i) (.ptr 0 0 :: args) = .ptr 0 0 :: args:=by unfold A.renL; rw [(A.locL0 0 args ha).2]; rfl
 rw [e] at key
 refine key.mono ?_
 rintro v' h' ⟨v0,⟨b0,t0⟩,⟨rfl,h0,h1⟩,rfl,rfl⟩
 refine ⟨(A.loc0 0 _ hv).2 _,?_⟩
 match b0,h0,h1 with
 | x :: y :: b,h0,h1 =>
  simp only [List.getElem?_cons_zero,List.getElem?_cons_succ,Option.some.injEq] at h0 h1
  subst h0; subst h1
  rfl
def c_rflag : AX.AFn:=⟨26,.seq (.reg false [aR 2 (.mv (.c (.bool false)))]) (.seq (.reg false [aM 4 0,aR 5 (.nilck (.t 4)),aR 6 (.faddr 0 (.t 5)),aR 7 (.load false 1 (.t 6)),aR 8 (.call 51 [.t 7]),aM 3 8]) (.seq (.reg false [aM 9 0,aM 10 0,aR 11 (.nilck (.t 10)),aR 12 (.faddr 2 (.t 11)),aR 13 (.load false 1 (.t 12)),aM 14 13,aG 15 (.mv (.t 3)) 14 false,aG 16 (.bin .neq (.t 15) (aI 0)) 14 false,aG 17 (.mv (.t 16)) 14 false,aG 18 (.mv (.t 3)) 17 true,aG 19 (.bin .neq (.t 18) (aI 1)) 17 true,aG 20 (.pick (.t 17) (.t 19) (.c (.bool false))) 14 false,aR 21 (.pick (.t 14) (.c (.bool true)) (.t 20)),aR 22 (.nilck (.t 9)),aR 23 (.faddr 2 (.t 22)),aU (.store 1 (.t 23) (.t 21))]) (.seq (.reg false [aM 24 3,aR 25 (.bin .eql (.t 24) (aI 1)),aM 2 25]) (.ret)))),[.t 2]⟩
theorem h_rflag : AX.compFn Tryz.prog 100 = some c_rflag:=by kernel_rfl
def c_rvalue : AX.AFn:=⟨25,.seq (.reg false [aR 2 (.alloc 40 [.int .i64 0,.int .i64 0,.str [],.sl 0 .nil [],.sl 0 .nil []])]) (.seq (.reg false [aM 6 0,aR 7 (.nilck (.t 6)),aR 8 (.faddr 0 (.t 7)),aR 9 (.load false 1 (.t 8)),aR 10 (.call 134 [.t 9]),aM 5 10,aR 11 (.extract (.t 5) 0),aR 12 (.extract (.t 5) 1),aR 3 (.alloc 40 [.int .i64 0,.int .i64 0,.str [],.sl 0 .nil [],.sl 0 .nil []]),aU (.store 5 (.t 3) (.t 11)),aM 4 12]) (.seq (.reg false [aM 13 0,aM 14 0,aR 15 (.nilck (.t 14)),aR 16 (.faddr 2 (.t 15)),aR 17 (.load false 1 (.t 16)),aM 18 17,aG 19 (.mv (.t 4)) 18 false,aG 20 (.bin .neq (.t 19) (aI 0)) 18 false,aR 21 (.pick (.t 18) (.c (.bool true)) (.t 20)),aR 22 (.nilck (.t 13)),aR 23 (.faddr 2 (.t 22)),aU (.store 1 (.t 23) (.t 21))]) (.seq (.reg false [aR 24 (.load true 5 (.t 3)),aU (.store 5 (.t 2) (.t 24))]) (.ret)))),[.c 2 true 5]⟩
theorem h_rvalue : AX.compFn Tryz.prog 99 = some c_rvalue:=by kernel_rfl
def c_rfails : AX.AFn:=⟨15,.seq (.reg false [aR 2 (.mv (.c (.bool false)))]) (.seq (.reg false [aM 3 0,aR 4 (.nilck (.t 3)),aR 5 (.faddr 2 (.t 4)),aR 6 (.load false 1 (.t 5)),aM 7 6,aG 8 (.mv (.t 0)) 7 false,aG 9 (.nilck (.t 8)) 7 false,aG 10 (.faddr 0 (.t 9)) 7 false,aG 11 (.load false 1 (.t 10)) 7 false,aG 12 (.call 83 [.t 11]) 7 false,aG 13 (.bin .neq (.t 12) (aI 0)) 7 false,aR 14 (.pick (.t 7) (.c (.bool true)) (.t 13)),aM 2 14]) (.ret)),[.t 2]⟩
theorem h_rfails : AX.compFn Tryz.prog 53 = some c_rfails:=by kernel_rfl
def c_rinst : AX.AFn:=⟨64,.seq (.reg false [aR 2 (.alloc 42 [.str [],.str [],.str [],.str [],.int .i64 0,.int .i64 0,.str [],.sl 0 .nil [],.sl 0 .nil [],.int .i64 0,.bool false,.bool false,.sl 0 .nil []])]) (.seq (.reg true [aM 4 0,⟨some 5,.nilck (.t 4),none,[0]⟩,⟨some 6,.faddr 0 (.t 5),none,[1]⟩,⟨some 7,.load false 1 (.t 6),none,[2]⟩,⟨some 8,.call 96 [.t 7],none,[3]⟩,aM 9 0,⟨some 10,.nilck (.t 9),none,[5]⟩,⟨some 11,.faddr 0 (.t 10),none,[6]⟩,⟨some 12,.load false 1 (.t 11),none,[7]⟩,⟨some 13,.call 96 [.t 12],none,[8,4]⟩,aM 14 0,⟨some 15,.nilck (.t 14),none,[10]⟩,⟨some 16,.faddr 0 (.t 15),none,[11]⟩,⟨some 17,.load false 1 (.t 16),none,[12]⟩,⟨some 18,.call 96 [.t 17],none,[13,9]⟩,aM 19 0,⟨some 20,.nilck (.t 19),none,[15]⟩,⟨some 21,.faddr 0 (.t 20),none,[16]⟩,⟨some 22,.load false 1 (.t 21),none,[17]⟩,⟨some 23,.call 96 [.t 22],none,[18,14]⟩,⟨some 24,.build [.str [],.str [],.str [],.str [],.int .i64 0,.int .i64 0,.str [],.sl 0 .nil [],.sl 0 .nil [],.int .i64 0,.bool false,.bool false,.sl 0 .nil []] [(0,1,.t 8),(1,1,.t 13),(2,1,.t 18),(3,1,.t 23)],none,[4,9,14,19]⟩,aR 3 (.alloc 42 [.str [],.str [],.str [],.str [],.int .i64 0,.int .i64 0,.str [],.sl 0 .nil [],.sl 0 .nil [],.int .i64 0,.bool false,.bool false,.sl 0 .nil []]),⟨none,.store 13 (.t 3) (.t 24),none,[21,20,19,0,1,2,3,4,5,6,7,8,9,10,11,12,13,14,15,16,17,18,19,20,21]⟩]) (.seq (.reg false [aM 25 0,aR 26 (.call 99 [.t 25]),aR 27 (.faddr 4 (.t 3)),aU (.store 5 (.t 27) (.t 26))]) (.seq (.reg false [aM 28 0,aR 29 (.nilck (.t 28)),aR 30 (.faddr 0 (.t 29)),aR 31 (.load false 1 (.t 30)),aR 32 (.call 51 [.t 31]),aR 33 (.faddr 9 (.t 3)),aU (.store 1 (.t 33) (.t 32))]) (.seq (.reg false [aM 34 0,aR 35 (.call 100 [.t 34]),aR 36 (.faddr 10 (.t 3)),aU (.store 1 (.t 36) (.t 35))]) (.seq (.seq (.reg false [aM 37 0,aR 38 (.nilck (.t 37)),aR 39 (.faddr 1 (.t 38)),aR 40 (.load false 1 (.t 39)),aR 41 (.bin .eql (.t 40) (aI 2))]) (.cond (.t 41) (.reg false [aM 42 0,aR 43 (.call 100 [.t 42]),aR 44 (.faddr 11 (.t 3)),aU (.store 1 (.t 44) (.t 43))]) (.skip))) (.seq (.seq (.reg false [aM 45 0,aR 46 (.nilck (.t 45)),aR 47 (.faddr 0 (.t 46)),aR 48 (.load false 1 (.t 47)),aR 49 (.call 97 [.t 48,aI 1]),aR 50 (.mv (aI 0))]) (.block 0 (.loop (.seq (.reg false [aR 51 (.bin .lss (.t 50) (.t 49))]) (.seq (.cond (.t 51) (.skip) (.exit 0)) (.seq (.block 1 (.reg true [aR 52 (.faddr 12 (.t 3)),⟨some 53,.load false 1 (.t 52),none,[0]⟩,aM 54 0,⟨some 55,.nilck (.t 54),none,[2]⟩,⟨some 56,.faddr 0 (.t 55),none,[3]⟩,⟨some 57,.load false 1 (.t 56),none,[4]⟩,⟨some 58,.call 96 [.t 57],none,[5]⟩,⟨some 59,.mks 1 [.t 58],none,[6]⟩,⟨some 60,.app 9 1 16 (.t 53) (.t 59),none,[1,7,6]⟩,⟨some 61,.faddr 12 (.t 3),none,[0,1,2,3,4,5,6,7,8]⟩,⟨none,.store 1 (.t 61) (.t 60),none,[9,8,8,0,1,2,3,4,5,6,7,8]⟩])) (.reg false [aR 62 (.bin .add (.t 50) (aI 1)),aM 50 62]))))))) (.seq (.reg false [aR 63 (.load true 13 (.t 3)),aU (.store 13 (.t 2) (.t 63))]) (.ret)))))))),[.c 2 true 13]⟩
theorem h_rinst : AX.compFn Tryz.prog 98 = some c_rinst:=by kernel_rfl
theorem a_rflag {ver : Int} (s : Sf.Rs) (hl : s.r.rest.length ≤ 100000000) (l : List Blk) (t : List (TypeId × Nat × Nat)) :
  ACall Tryz.prog GT 100 [.ptr 0 0] ⟨RB ver s.bad :: rdr s.r :: l,t⟩ fun v h' => v = .bool (Sf.flagS s).2 ∧ h' = ⟨RB ver (Sf.flagS s).1.bad :: rdr (Sf.flagS s).1.r :: l,t⟩:=by
 refine liftR ?_ rfl rfl l t
 refine acall_of mixedT h_rflag (by simp [c_rflag]) ?_
 dsimp only [c_rflag]
 unfold RB
 refine run0 ti ?_
 refine use (a_number (i:=1) (r:=s.r) rfl hl) ?_
 obtain ⟨q,hq⟩ : ∃ q,Wire.numR s.r = q:=⟨_,rfl⟩
 have hF : Sf.flagS s = (⟨q.1,s.bad || (q.2 != 0 && q.2 != 1)⟩,q.2 == 1):=by unfold Sf.flagS; rw [hq]
 rw [hq,hF]
 rcases bool_or s.bad with e0 | e0
 ·rw [e0]
  refine run0 ti ?_
  exact ⟨_,le_refl _,rfl,rfl,rfl⟩
 ·rw [e0]
  rcases bool_or (q.2 != 0) with e1 | e1
  ·refine run0 e1 ?_
   exact ⟨_,le_refl _,rfl,by rw [e1]; rfl,rfl⟩
  ·refine run0 e1 ?_
   exact ⟨_,le_refl _,rfl,by rw [e1]; rfl,rfl⟩
theorem a_rfails {ver : Int} (s : Sf.Rs) (l : List Blk) (t : List (TypeId × Nat × Nat)) :
  ACall Tryz.prog GT 53 [.ptr 0 0] ⟨RB ver s.bad :: rdr s.r :: l,t⟩ fun v h' => v = .bool s.fails ∧ h' = ⟨RB ver s.bad :: rdr s.r :: l,t⟩:=by
 refine acall_of mixedT h_rfails (by simp [c_rfails]) ?_
 dsimp only [c_rfails]
 unfold RB
 unfold Sf.Rs.fails
 rcases bool_or s.bad with e0 | e0
 ·rw [e0]
  refine run0 ti ?_
  exact ⟨_,le_refl _,rfl,rfl⟩
 ·rw [e0]
  refine run0 ti ?_
  refine use (a_err (i:=1) (r:=s.r) rfl) ?_
  refine run0 ti ?_
  exact ⟨_,le_refl _,rfl,rfl⟩
theorem a_rvalue {ver : Int} (s : Sf.Rs) (hl : s.r.rest.length ≤ 100000000) (l : List Blk) (t : List (TypeId × Nat × Nat)) :
  ACall Tryz.prog GT 99 [.ptr 0 0] ⟨RB ver s.bad :: rdr s.r :: l,t⟩ fun v h' => v = (Sf.valueS s).2.A ∧ h' = ⟨RB ver (Sf.valueS s).1.bad :: rdr (Sf.valueS s).1.r :: l,t⟩:=by
 obtain ⟨⟨x1,x2,x3⟩,hx⟩ : ∃ x,Val.readValue s.r = x:=⟨_,rfl⟩
 have hF : Sf.valueS s = (⟨x1,s.bad || x2 != 0⟩,x3):=by unfold Sf.valueS; rw [hx]
 have hrd:=a_readValue1 (i:=1) (r:=s.r) (h:=⟨[RB ver s.bad,rdr s.r,.cells 40 [.int .i64 0,.int .i64 0,.str [],.sl 0 .nil [],.sl 0 .nil []]],[]⟩) rfl hl
 rw [hx] at hrd
 rw [hF]
 obtain ⟨k,n,w,is,ks⟩:=x3
 have hVA : (V.mk k n w is ks).A = .agg [.int .i64 k,.int .i64 n,.str w,.sl 5 .no (V.cellss is),.sl 1 .no (strsA ks)]:=by simp only [V.A,V.cells]
 dsimp only at hrd ⊢
 rw [hVA] at hrd ⊢
 unfold RB at hrd
 refine liftR (s':=⟨x1,s.bad || x2 != 0⟩) ?_ rfl rfl l t
 refine acall_of mixedT h_rvalue (by simp [c_rvalue]) ?_
 dsimp only [c_rvalue]
 unfold RB
 refine run0 ti ?_
 refine use hrd ?_
 rcases bool_or s.bad with e0 | e0
 ·rw [e0]
  refine run0 ti ?_
  exact ⟨_,le_refl _,rfl,rfl,rfl⟩
 ·rw [e0]
  refine run0 ti ?_
  exact ⟨_,le_refl _,rfl,rfl,rfl⟩
def ZI : Blk:=.cells 42 [.str [],.str [],.str [],.str [],.int .i64 0,.int .i64 0,.str [],.sl 0 .nil [],.sl 0 .nil [],.int .i64 0,.bool false,.bool false,.sl 0 .nil []]
def IB (a b c d : List UInt8) (v : List A) (n : Int) (tn fi : Bool) (x : A) : Blk:=.cells 42 ([.str a,.str b,.str c,.str d] ++ v ++ [.int .i64 n,.bool tn,.bool fi,x])
theorem a_rinst {ver : Int} (hver : ver = 1 ∨ ver = 2) (s : Sf.Rs) (hl : s.r.rest.length ≤ 100000000) (l : List Blk) (t : List (TypeId × Nat × Nat)) :
  ACall Tryz.prog GT 98 [.ptr 0 0] ⟨RB ver s.bad :: rdr s.r :: l,t⟩ fun v h' => v = .agg (Sf.instS ver s).2.cells ∧ h' = ⟨RB ver (Sf.instS ver s).1.bad :: rdr (Sf.instS ver s).1.r :: l,t⟩:=by
 refine liftR (s':=(Sf.instS ver s).1) (v:=.agg (Sf.instS ver s).2.cells) ?_ rfl ?_ l t
 rotate_left
 ·obtain ⟨a,d,i,ty,⟨k,n,w,is,ks⟩,v,tn,fi,ds⟩:=(Sf.instS ver s).2
  rfl
 refine acall_of mixedT h_rinst (by simp [c_rinst]) ?_
 dsimp only [c_rinst]
 unfold RB
 obtain ⟨⟨r1,x1⟩,h1⟩ : ∃ q,Wire.strR s.r = q:=⟨_,rfl⟩
 have l1:=Wire.strR_rest s.r
 rw [h1] at l1
 obtain ⟨⟨r2,x2⟩,h2⟩ : ∃ q,Wire.strR r1 = q:=⟨_,rfl⟩
 have l2:=Wire.strR_rest r1
 rw [h2] at l2
 obtain ⟨⟨r3,x3⟩,h3⟩ : ∃ q,Wire.strR r2 = q:=⟨_,rfl⟩
 have l3:=Wire.strR_rest r2
 rw [h3] at l3
 obtain ⟨⟨r4,x4⟩,h4⟩ : ∃ q,Wire.strR r3 = q:=⟨_,rfl⟩
 have l4:=Wire.strR_rest r3
 rw [h4] at l4
 dsimp only at l1 l2 l3 l4
 have str : ∀ (r r' : Wire.St) (x : List UInt8) (h : Hp),Wire.strR r = (r',x) → h.b[1]? = some (rdr r) → r.rest.length ≤ 100000000 → ACall Tryz.prog GT 96 [.ptr 1 0] h fun v h' => v = .str x ∧ h' = ⟨h.b.set 1 (rdr r'),h.t⟩:=fun r r' x h e hb hl => by
  have:=a_rstring hb hl
  rw [e] at this; exact this
 refine run0 ti ?_
 refine go_gen [4,9,14,19,22] 21 [⟨[.cells 109 [.ptr 1 0,.int .i64 ver,.bool s.bad],rdr s.r,.cells 42 [.str [],.str [],.str [],.str [],.int .i64 0,.int .i64 0,.str [],.sl 0 .nil [],.sl 0 .nil [],.int .i64 0,.bool false,.bool false,.sl 0 .nil []]],[]⟩,⟨[.cells 109 [.ptr 1 0,.int .i64 ver,.bool s.bad],rdr r1,.cells 42 [.str [],.str [],.str [],.str [],.int .i64 0,.int .i64 0,.str [],.sl 0 .nil [],.sl 0 .nil [],.int .i64 0,.bool false,.bool false,.sl 0 .nil []]],[]⟩,⟨[.cells 109 [.ptr 1 0,.int .i64 ver,.bool s.bad],rdr r2,.cells 42 [.str [],.str [],.str [],.str [],.int .i64 0,.int .i64 0,.str [],.sl 0 .nil [],.sl 0 .nil [],.int .i64 0,.bool false,.bool false,.sl 0 .nil []]],[]⟩,⟨[.cells 109 [.ptr 1 0,.int .i64 ver,.bool s.bad],rdr r3,.cells 42 [.str [],.str [],.str [],.str [],.int .i64 0,.int .i64 0,.str [],.sl 0 .nil [],.sl 0 .nil [],.int .i64 0,.bool false,.bool false,.sl 0 .nil []]],[]⟩,⟨[.cells 109 [.ptr 1 0,.int .i64 ver,.bool s.bad],rdr r4,.cells 42 [.str [],.str [],.str [],.str [],.int .i64 0,.int .i64 0,.str [],.sl 0 .nil [],.sl 0 .nil [],.int .i64 0,.bool false,.bool false,.sl 0 .nil []]],[]⟩,⟨[],[]⟩,⟨[.cells 109 [.ptr 1 0,.int .i64 ver,.bool s.bad],rdr s.r,.cells 42 [.str [],.str [],.str [],.str [],.int .i64 0,.int .i64 0,.str [],.sl 0 .nil [],.sl 0 .nil [],.int .i64 0,.bool false,.bool false,.sl 0 .nil []],.cells 42 [.str [],.str [],.str [],.str [],.int .i64 0,.int .i64 0,.str [],.sl 0 .nil [],.sl 0 .nil [],.int .i64 0,.bool false,.bool false,.sl 0 .nil []]],[]⟩,⟨[.cells 109 [.ptr 1 0,.int .i64 ver,.bool s.bad],rdr r1,.cells 42 [.str [],.str [],.str [],.str [],.int .i64 0,.int .i64 0,.str [],.sl 0 .nil [],.sl 0 .nil [],.int .i64 0,.bool false,.bool false,.sl 0 .nil []],.cells 42 [.str [],.str [],.str [],.str [],.int .i64 0,.int .i64 0,.str [],.sl 0 .nil [],.sl 0 .nil [],.int .i64 0,.bool false,.bool false,.sl 0 .nil []]],[]⟩,⟨[.cells 109 [.ptr 1 0,.int .i64 ver,.bool s.bad],rdr r2,.cells 42 [.str [],.str [],.str [],.str [],.int .i64 0,.int .i64 0,.str [],.sl 0 .nil [],.sl 0 .nil [],.int .i64 0,.bool false,.bool false,.sl 0 .nil []],.cells 42 [.str [],.str [],.str [],.str [],.int .i64 0,.int .i64 0,.str [],.sl 0 .nil [],.sl 0 .nil [],.int .i64 0,.bool false,.bool false,.sl 0 .nil []]],[]⟩,⟨[.cells 109 [.ptr 1 0,.int .i64 ver,.bool s.bad],rdr r3,.cells 42 [.str [],.str [],.str [],.str [],.int .i64 0,.int .i64 0,.str [],.sl 0 .nil [],.sl 0 .nil [],.int .i64 0,.bool false,.bool false,.sl 0 .nil []],.cells 42 [.str [],.str [],.str [],.str [],.int .i64 0,.int .i64 0,.str [],.sl 0 .nil [],.sl 0 .nil [],.int .i64 0,.bool false,.bool false,.sl 0 .nil []]],[]⟩,⟨[.cells 109 [.ptr 1 0,.int .i64 ver,.bool s.bad],rdr r4,.cells 42 [.str [],.str [],.str [],.str [],.int .i64 0,.int .i64 0,.str [],.sl 0 .nil [],.sl 0 .nil [],.int .i64 0,.bool false,.bool false,.sl 0 .nil []],.cells 42 [.str [],.str [],.str [],.str [],.int .i64 0,.int .i64 0,.str [],.sl 0 .nil [],.sl 0 .nil [],.int .i64 0,.bool false,.bool false,.sl 0 .nil []]],[]⟩,⟨[.cells 109 [.ptr 1 0,.int .i64 ver,.bool s.bad],rdr r4,.cells 42 [.str [],.str [],.str [],.str [],.int .i64 0,.int .i64 0,.str [],.sl 0 .nil [],.sl 0 .nil [],.int .i64 0,.bool false,.bool false,.sl 0 .nil []],.cells 42 [.str x1,.str x2,.str x3,.str x4,.int .i64 0,.int .i64 0,.str [],.sl 0 .nil [],.sl 0 .nil [],.int .i64 0,.bool false,.bool false,.sl 0 .nil []]],[]⟩] [[0,6],[0,6],[0,6],[0,6],[0,6],[0,1,6,7],[0,1,6,7],[0,1,6,7],[0,1,6,7],[1,7],[0,1,2,6,7,8],[0,1,2,6,7,8],[0,1,2,6,7,8],[0,1,2,6,7,8],[2,8],[0,1,2,3,6,7,8,9],[0,1,2,3,6,7,8,9],[0,1,2,3,6,7,8,9],[0,1,2,3,6,7,8,9],[3,9],[4,10],[0,1,2,3,4],[10]] rfl (by decide +kernel) ?_
 refine AX.rung ti ?_
 refine gn_call (vs:=[.ptr 1 0]) (by (exact ev0 ti)) ⟨str s.r r1 x1 _ h1 rfl (by omega),str s.r r1 x1 _ h1 rfl (by omega),trivial⟩ ?_
 refine AX.rung ti ?_
 refine gn_call (vs:=[.ptr 1 0]) (by (exact ev0 ti)) ⟨str r1 r2 x2 _ h2 rfl (by omega),str r1 r2 x2 _ h2 rfl (by omega),trivial⟩ ?_
 refine AX.rung ti ?_
 refine gn_call (vs:=[.ptr 1 0]) (by (exact ev0 ti)) ⟨str r2 r3 x3 _ h3 rfl (by omega),str r2 r3 x3 _ h3 rfl (by omega),trivial⟩ ?_
 refine AX.rung ti ?_
 refine gn_call (vs:=[.ptr 1 0]) (by (exact ev0 ti)) ⟨str r3 r4 x4 _ h4 rfl (by omega),str r3 r4 x4 _ h4 rfl (by omega),trivial⟩ ?_
 refine AX.rung ti ?_
 obtain ⟨⟨⟨r5,b5⟩,xv⟩,h5⟩ : ∃ q,Sf.valueS ⟨r4,s.bad⟩ = q:=⟨_,rfl⟩
 have c5:=a_rvalue (ver:=ver) ⟨r4,s.bad⟩ (by dsimp only; omega) [ZI,IB x1 x2 x3 x4 [.int .i64 0,.int .i64 0,.str [],.sl 0 .nil [],.sl 0 .nil []] 0 false false (.sl 0 .nil [])] []
 have l5:=Sf.valueS_le ⟨r4,s.bad⟩
 rw [h5] at c5 l5
 obtain ⟨vk,vn,vs,vi,vy⟩:=xv
 have hVA : (V.mk vk vn vs vi vy).A = .agg [.int .i64 vk,.int .i64 vn,.str vs,.sl 5 .no (V.cellss vi),.sl 1 .no (strsA vy)]:=by simp only [V.A,V.cells]
 dsimp only at c5 l5
 rw [hVA] at c5
 unfold RB ZI IB at c5
 refine run0 ti ?_
 refine use c5 ?_
 refine run0 ti ?_
 refine use (a_number (i:=1) (r:=r5) rfl (by omega)) ?_
 have l6:=Wire.numR_rest r5
 obtain ⟨⟨r6,x6⟩,h6⟩ : ∃ q,Wire.numR r5 = q:=⟨_,rfl⟩
 rw [h6] at l6 ⊢
 dsimp only at l6 ⊢
 obtain ⟨⟨⟨r7,b7⟩,x7⟩,h7⟩ : ∃ q,Sf.flagS ⟨r6,b5⟩ = q:=⟨_,rfl⟩
 have l7:=Sf.flagS_le ⟨r6,b5⟩
 have c7:=a_rflag (ver:=ver) ⟨r6,b5⟩ (by dsimp only; omega) [ZI,IB x1 x2 x3 x4 [.int .i64 vk,.int .i64 vn,.str vs,.sl 5 .no (V.cellss vi),.sl 1 .no (strsA vy)] x6 false false (.sl 0 .nil [])] []
 rw [h7] at c7 l7
 dsimp only at c7 l7
 unfold RB ZI IB at c7
 simp only [List.cons_append,List.nil_append] at c7
 refine run0 ti ?_
 refine use c7 ?_
 have fin : ∀ (r8 : Wire.St) (b8 x8 : Bool) (c0 : Wire.St × Nat) (rr : Wire.St) (bw : Bool) (ds : List (List UInt8)),(if ver = 2 then Sf.flagS ⟨r7,b7⟩ else (⟨r7,b7⟩,false)) = (⟨r8,b8⟩,x8) → Wire.cntR r8 1 = c0 → Sf.wordsS c0.2 ⟨c0.1,b8⟩ [] = (⟨rr,bw⟩,ds) → Sf.instS ver s = (⟨rr,bw⟩,⟨x1,x2,x3,x4,.mk vk vn vs vi vy,x6,x7,x8,ds⟩):=by
  intro r8 b8 x8 c0 rr bw ds h8 hc hw
  unfold Sf.instS Sf.strS Sf.numS Sf.cntS
  simp only [h1,h2,h3,h4,h5,h6,h7,h8,hc,hw]
 have branch : ∃ (r8 : Wire.St) (b8 x8 : Bool),(if ver = 2 then Sf.flagS ⟨r7,b7⟩ else (⟨r7,b7⟩,false)) = (⟨r8,b8⟩,x8) ∧ r8.rest.length ≤ r7.rest.length:=by
  by_cases hv : ver = 2
  ·rw [if_pos hv]; exact ⟨(Sf.flagS ⟨r7,b7⟩).1.r,(Sf.flagS ⟨r7,b7⟩).1.bad,(Sf.flagS ⟨r7,b7⟩).2,rfl,Sf.flagS_le _⟩
  ·rw [if_neg hv]; exact ⟨r7,b7,false,rfl,Nat.le_refl _⟩
 obtain ⟨r8,b8,x8,h8,l8⟩:=branch
 have hfin:=fin r8 b8 x8
 have c8:=a_rflag (ver:=ver) ⟨r7,b7⟩ (by dsimp only; omega) [ZI,IB x1 x2 x3 x4 [.int .i64 vk,.int .i64 vn,.str vs,.sl 5 .no (V.cellss vi),.sl 1 .no (strsA vy)] x6 x7 false (.sl 0 .nil [])] []
 unfold RB ZI IB at c8
 simp only [List.cons_append,List.nil_append] at c8
 have hv12 : ∀ {G : Prop},(((ver == 2) = false) → r8 = r7 → b8 = b7 → x8 = false → G) → ((ver == 2) = true → Sf.flagS ⟨r7,b7⟩ = (⟨r8,b8⟩,x8) → G) → G:=fun a b => by
  rcases hver with rfl | rfl
  ·rw [if_neg (by decide)] at h8
   injection h8 with h8 h9
   injection h8 with h8 h10
   exact a rfl h8.symm h10.symm h9.symm
  ·rw [if_pos rfl] at h8
   exact b rfl h8
 have hval:=h8
 refine hv12 (fun e2 er eb ex => ?_) (fun e2 hf => ?_)
 ·refine run0 e2 ?_
  subst er; subst eb; subst ex
  refine use (a_count (i:=1) (r:=r8) rfl (by omega)) ?_
  have lc:=Wire.cntR_rest r8 1
  have lk:=Wire.cntR_cnt r8
  obtain ⟨⟨rc,c⟩,hc⟩ : ∃ q,Wire.cntR r8 1 = q:=⟨_,rfl⟩
  rw [hc] at lc lk ⊢
  dsimp only at lc lk ⊢
  obtain ⟨⟨⟨rr,bw⟩,dw⟩,hw⟩ : ∃ q,Sf.wordsS c ⟨rc,b8⟩ [] = q:=⟨_,rfl⟩
  refine run0 ti ?_
  refine awp_loop (fun mm ts h => ∃ (j : Nat) (p : Wire.St) (ds : List (List UInt8)) (W : Nat) (o : Own) (t : List (TypeId × Nat × Nat)),mm = c - j ∧ j ≤ c ∧
   h = ⟨[.cells 109 [.ptr 1 0,.int .i64 ver,.bool b8],rdr p,.cells 42 [.str [],.str [],.str [],.str [],.int .i64 0,.int .i64 0,.str [],.sl 0 .nil [],.sl 0 .nil [],.int .i64 0,.bool false,.bool false,.sl 0 .nil []],.cells 42 [.str x1,.str x2,.str x3,.str x4,.int .i64 vk,.int .i64 vn,.str vs,.sl 5 .no (V.cellss vi),.sl 1 .no (strsA vy),.int .i64 x6,.bool x7,.bool false,.sl W o (strsA ds)]],t⟩ ∧
   Sf.wordsS (c - j) ⟨p,b8⟩ ds = (⟨rr,bw⟩,dw) ∧ ds.length = j ∧ p.rest.length ≤ rc.rest.length ∧ Gs 9 1 0 ⟨[],t⟩ (strsA ds) (.sl W o (strsA ds)) ∧
   ts 0 = .ptr 0 0 ∧ ts 2 = .ptr 2 0 ∧ ts 3 = .ptr 3 0 ∧ ts 49 = .int .i64 (c : Nat) ∧ ts 50 = .int .i64 (j : Nat)) c ?_ ?_
  ·exact ⟨0,rc,[],0,.nil,[],by omega,by omega,rfl,hw,rfl,Nat.le_refl _,.inl ⟨rfl,rfl⟩,by (exact ev0 ti),by (exact ev0 ti),by (exact ev0 ti),by (exact ev0 ti),by (exact inv0 ti)⟩
  ·rintro mm ts h ⟨j,p,ds,W,o,t,rfl,hjc,rfl,hit,hdl,hpl,gX,t0,t2,t3,t49,t50⟩
   by_cases hj : j < c
   ·have hlt : (j : Int) < (c : Int):=by omega
    have ei : IntKind.i64.wrap ((j : Int) + 1) = ((j + 1 : Nat) : Int):=by rw [wrap64 (by omega) (by omega)]; omega
    have lp:=Wire.strR_rest p
    have cp:=fun h hb => str p (Wire.strR p).1 (Wire.strR p).2 h rfl hb (by omega)
    obtain ⟨⟨p2,s2⟩,hp2⟩ : ∃ q,Wire.strR p = q:=⟨_,rfl⟩
    have hstep : Sf.wordsS (c - (j + 1)) ⟨p2,b8⟩ (ds ++ [s2]) = (⟨rr,bw⟩,dw):=by
     rw [show c - j = (c - (j + 1)) + 1 by omega,Sf.wordsS] at hit
     unfold Sf.strS at hit
     simp only [hp2] at hit
     exact hit
    rw [hp2] at lp cp
    dsimp only at lp cp
    obtain ⟨W',o',t',hX,gX',_⟩:=gX.grow 16 [.str s2] (by rw [strsA_length]; omega) (by decide)
    rw [← strsA_app] at gX'
    simp only [← strsA_app] at hX
    refine run0 (ai t0 (ai t2 (ai t3 (ai t49 (ai t50 hlt))))) ?_
    refine use (cp _ rfl) ?_
    refine run0 (ai t0 (ai t2 (ai t3 (ai t49 (ai t50 (ai hX ei)))))) ?_
    exact ⟨c - (j + 1),by omega,j + 1,p2,ds ++ [s2],W',o',t',rfl,by omega,rfl,hstep,by simp [hdl],by omega,gX',by (exact ev0 t0),by (exact ev0 t2),by (exact ev0 t3),by (exact ev0 t49),by (exact ev0 ei)⟩
   ·have hlt : ¬ ((j : Int) < (c : Int)):=by omega
    rw [show c - j = 0 by omega,Sf.wordsS] at hit
    injection hit with hit hit2
    injection hit with hit hit3
    subst hit; subst hit2; subst hit3
    refine run0 (ai t0 (ai t2 (ai t3 (ai t49 (ai t50 hlt))))) ?_
    rw [hfin _ _ _ _ hval hc hw]
    exact ⟨.agg [.str x1,.str x2,.str x3,.str x4,.int .i64 vk,.int .i64 vn,.str vs,.sl 5 .no (V.cellss vi),.sl 1 .no (strsA vy),.int .i64 x6,.bool x7,.bool false,.sl 1 .no (strsA ds)],⟨le1_refl _,le1_refl _,le1_refl _,le1_refl _,le1_refl _,le1_refl _,le1_refl _,le1_refl _,le1_refl _,le1_refl _,le1_refl _,le1_refl _,Gs.le gX,trivial⟩,rfl,rfl,rfl⟩
 ·refine run0 e2 ?_
  rw [hf] at c8
  dsimp only at c8
  refine use c8 ?_
  refine run0 ti ?_
  refine use (a_count (i:=1) (r:=r8) rfl (by omega)) ?_
  have lc:=Wire.cntR_rest r8 1
  have lk:=Wire.cntR_cnt r8
  obtain ⟨⟨rc,c⟩,hc⟩ : ∃ q,Wire.cntR r8 1 = q:=⟨_,rfl⟩
  rw [hc] at lc lk ⊢
  dsimp only at lc lk ⊢
  obtain ⟨⟨⟨rr,bw⟩,dw⟩,hw⟩ : ∃ q,Sf.wordsS c ⟨rc,b8⟩ [] = q:=⟨_,rfl⟩
  refine run0 ti ?_
  refine awp_loop (fun mm ts h => ∃ (j : Nat) (p : Wire.St) (ds : List (List UInt8)) (W : Nat) (o : Own) (t : List (TypeId × Nat × Nat)),mm = c - j ∧ j ≤ c ∧
   h = ⟨[.cells 109 [.ptr 1 0,.int .i64 ver,.bool b8],rdr p,.cells 42 [.str [],.str [],.str [],.str [],.int .i64 0,.int .i64 0,.str [],.sl 0 .nil [],.sl 0 .nil [],.int .i64 0,.bool false,.bool false,.sl 0 .nil []],.cells 42 [.str x1,.str x2,.str x3,.str x4,.int .i64 vk,.int .i64 vn,.str vs,.sl 5 .no (V.cellss vi),.sl 1 .no (strsA vy),.int .i64 x6,.bool x7,.bool x8,.sl W o (strsA ds)]],t⟩ ∧
   Sf.wordsS (c - j) ⟨p,b8⟩ ds = (⟨rr,bw⟩,dw) ∧ ds.length = j ∧ p.rest.length ≤ rc.rest.length ∧ Gs 9 1 0 ⟨[],t⟩ (strsA ds) (.sl W o (strsA ds)) ∧
   ts 0 = .ptr 0 0 ∧ ts 2 = .ptr 2 0 ∧ ts 3 = .ptr 3 0 ∧ ts 49 = .int .i64 (c : Nat) ∧ ts 50 = .int .i64 (j : Nat)) c ?_ ?_
  ·exact ⟨0,rc,[],0,.nil,[],by omega,by omega,rfl,hw,rfl,Nat.le_refl _,.inl ⟨rfl,rfl⟩,by (exact ev0 ti),by (exact ev0 ti),by (exact ev0 ti),by (exact ev0 ti),by (exact inv0 ti)⟩
  ·rintro mm ts h ⟨j,p,ds,W,o,t,rfl,hjc,rfl,hit,hdl,hpl,gX,t0,t2,t3,t49,t50⟩
   by_cases hj : j < c
   ·have hlt : (j : Int) < (c : Int):=by omega
    have ei : IntKind.i64.wrap ((j : Int) + 1) = ((j + 1 : Nat) : Int):=by rw [wrap64 (by omega) (by omega)]; omega
    have lp:=Wire.strR_rest p
    have cp:=fun h hb => str p (Wire.strR p).1 (Wire.strR p).2 h rfl hb (by omega)
    obtain ⟨⟨p2,s2⟩,hp2⟩ : ∃ q,Wire.strR p = q:=⟨_,rfl⟩
    have hstep : Sf.wordsS (c - (j + 1)) ⟨p2,b8⟩ (ds ++ [s2]) = (⟨rr,bw⟩,dw):=by
     rw [show c - j = (c - (j + 1)) + 1 by omega,Sf.wordsS] at hit
     unfold Sf.strS at hit
     simp only [hp2] at hit
     exact hit
    rw [hp2] at lp cp
    dsimp only at lp cp
    obtain ⟨W',o',t',hX,gX',_⟩:=gX.grow 16 [.str s2] (by rw [strsA_length]; omega) (by decide)
    rw [← strsA_app] at gX'
    simp only [← strsA_app] at hX
    refine run0 (ai t0 (ai t2 (ai t3 (ai t49 (ai t50 hlt))))) ?_
    refine use (cp _ rfl) ?_
    refine run0 (ai t0 (ai t2 (ai t3 (ai t49 (ai t50 (ai hX ei)))))) ?_
    exact ⟨c - (j + 1),by omega,j + 1,p2,ds ++ [s2],W',o',t',rfl,by omega,rfl,hstep,by simp [hdl],by omega,gX',by (exact ev0 t0),by (exact ev0 t2),by (exact ev0 t3),by (exact ev0 t49),by (exact ev0 ei)⟩
   ·have hlt : ¬ ((j : Int) < (c : Int)):=by omega
    rw [show c - j = 0 by omega,Sf.wordsS] at hit
    injection hit with hit hit2
    injection hit with hit hit3
    subst hit; subst hit2; subst hit3
    refine run0 (ai t0 (ai t2 (ai t3 (ai t49 (ai t50 hlt))))) ?_
    rw [hfin _ _ _ _ hval hc hw]
    exact ⟨.agg [.str x1,.str x2,.str x3,.str x4,.int .i64 vk,.int .i64 vn,.str vs,.sl 5 .no (V.cellss vi),.sl 1 .no (strsA vy),.int .i64 x6,.bool x7,.bool x8,.sl 1 .no (strsA ds)],⟨le1_refl _,le1_refl _,le1_refl _,le1_refl _,le1_refl _,le1_refl _,le1_refl _,le1_refl _,le1_refl _,le1_refl _,le1_refl _,le1_refl _,Gs.le gX,trivial⟩,rfl,rfl,rfl⟩
end AX
end Go.Proofs.YtnjkemakcejceaaGreatDoor

namespace Go.Proofs.YtnjkemakcejceaaGreatDoor
open Go.RowKit
set_option maxHeartbeats 4000000
namespace Sf
theorem instS_le (ver : Int) (s : Rs) : (instS ver s).1.r.rest.length ≤ s.r.rest.length:=by
 unfold instS
 dsimp only
 refine Nat.le_trans (wordsS_le _ _ _) (Nat.le_trans (cntS_le _) ?_)
 have k : (flagS (numS (valueS (strS (strS (strS (strS s).1).1).1).1).1).1).1.r.rest.length ≤ s.r.rest.length:=
  Nat.le_trans (flagS_le _) (Nat.le_trans (numS_le _) (Nat.le_trans (valueS_le _) (Nat.le_trans (strS_le _) (Nat.le_trans (strS_le _) (Nat.le_trans (strS_le _) (strS_le _))))))
 split
 ·exact Nat.le_trans (flagS_le _) k
 ·exact k
end Sf
namespace AX
def c_rstate : AX.AFn:=⟨98,.seq (.reg false [aR 2 (.alloc 26 [.str [],.int .i64 0,.sl 0 .nil [],.sl 0 .nil [],.sl 0 .nil []])]) (.seq (.reg true [aM 5 0,⟨some 6,.nilck (.t 5),none,[0]⟩,⟨some 7,.faddr 0 (.t 6),none,[1]⟩,⟨some 8,.load false 1 (.t 7),none,[2]⟩,⟨some 9,.call 96 [.t 8],none,[3]⟩,aM 10 0,⟨some 11,.nilck (.t 10),none,[5]⟩,⟨some 12,.faddr 0 (.t 11),none,[6]⟩,⟨some 13,.load false 1 (.t 12),none,[7]⟩,⟨some 14,.call 51 [.t 13],none,[8,4]⟩,⟨some 15,.build [.str [],.int .i64 0,.sl 0 .nil [],.sl 0 .nil [],.sl 0 .nil []] [(0,1,.t 9),(1,1,.t 14)],none,[4,9]⟩,aR 3 (.alloc 26 [.str [],.int .i64 0,.sl 0 .nil [],.sl 0 .nil [],.sl 0 .nil []]),⟨none,.store 5 (.t 3) (.t 15),none,[11,10,9,0,1,2,3,4,5,6,7,8,9,10,11]⟩]) (.seq (.seq (.reg false [aM 16 0,aR 17 (.nilck (.t 16)),aR 18 (.faddr 0 (.t 17)),aR 19 (.load false 1 (.t 18)),aR 20 (.call 97 [.t 19,aI 1]),aR 21 (.mv (aI 0))]) (.block 0 (.loop (.seq (.reg false [aR 22 (.bin .lss (.t 21) (.t 20))]) (.seq (.cond (.t 22) (.skip) (.exit 0)) (.seq (.block 1 (.seq (.seq (.reg false [aM 23 0,aR 24 (.call 53 [.t 23])]) (.cond (.t 24) (.seq (.reg false [aR 25 (.load true 5 (.t 3)),aU (.store 5 (.t 2) (.t 25))]) (.ret)) (.skip))) (.reg true [aR 26 (.faddr 2 (.t 3)),⟨some 27,.load false 1 (.t 26),none,[0]⟩,aM 28 0,⟨some 29,.call 98 [.t 28],none,[2]⟩,⟨some 30,.mks 13 [.t 29],none,[3]⟩,⟨some 31,.app 42 13 184 (.t 27) (.t 30),none,[1,4,3]⟩,⟨some 32,.faddr 2 (.t 3),none,[0,1,2,3,4,5]⟩,⟨none,.store 1 (.t 32) (.t 31),none,[6,5,5,0,1,2,3,4,5]⟩]))) (.reg false [aR 33 (.bin .add (.t 21) (aI 1)),aM 21 33]))))))) (.seq (.seq (.reg false [aM 34 0,aR 35 (.nilck (.t 34)),aR 36 (.faddr 1 (.t 35)),aR 37 (.load false 1 (.t 36)),aR 38 (.bin .eql (.t 37) (aI 2))]) (.cond (.t 38) (.seq (.reg false [aM 39 0,aR 40 (.nilck (.t 39)),aR 41 (.faddr 0 (.t 40)),aR 42 (.load false 1 (.t 41)),aR 43 (.call 97 [.t 42,aI 1]),aR 44 (.mv (aI 0))]) (.block 2 (.loop (.seq (.reg false [aR 45 (.bin .lss (.t 44) (.t 43))]) (.seq (.cond (.t 45) (.skip) (.exit 2)) (.seq (.block 3 (.reg true [aR 46 (.faddr 3 (.t 3)),⟨some 47,.load false 1 (.t 46),none,[0]⟩,aM 48 0,⟨some 49,.nilck (.t 48),none,[2]⟩,⟨some 50,.faddr 0 (.t 49),none,[3]⟩,⟨some 51,.load false 1 (.t 50),none,[4]⟩,⟨some 52,.call 96 [.t 51],none,[5]⟩,aM 53 0,⟨some 54,.nilck (.t 53),none,[7]⟩,⟨some 55,.faddr 0 (.t 54),none,[8]⟩,⟨some 56,.load false 1 (.t 55),none,[9]⟩,⟨some 57,.call 96 [.t 56],none,[10,6]⟩,aM 58 0,⟨some 59,.nilck (.t 58),none,[12]⟩,⟨some 60,.faddr 0 (.t 59),none,[13]⟩,⟨some 61,.load false 1 (.t 60),none,[14]⟩,⟨some 62,.call 96 [.t 61],none,[15,11]⟩,⟨some 63,.build [.str [],.str [],.str []] [(0,1,.t 52),(1,1,.t 57),(2,1,.t 62)],none,[6,11,16]⟩,⟨some 64,.mks 3 [.t 63],none,[17]⟩,⟨some 65,.app 95 3 48 (.t 47) (.t 64),none,[1,18,16]⟩,⟨some 66,.faddr 3 (.t 3),none,[0,1,2,3,4,5,6,7,8,9,10,11,12,13,14,15,16,17,18,19]⟩,⟨none,.store 1 (.t 66) (.t 65),none,[20,19,19,0,1,2,3,4,5,6,7,8,9,10,11,12,13,14,15,16,17,18,19]⟩])) (.reg false [aR 67 (.bin .add (.t 44) (aI 1)),aM 44 67]))))))) (.skip))) (.seq (.seq (.reg false [aM 68 0,aR 69 (.nilck (.t 68)),aR 70 (.faddr 0 (.t 69)),aR 71 (.load false 1 (.t 70)),aR 72 (.call 97 [.t 71,aI 1]),aR 73 (.mv (aI 0))]) (.block 4 (.loop (.seq (.reg false [aR 74 (.bin .lss (.t 73) (.t 72))]) (.seq (.cond (.t 74) (.skip) (.exit 4)) (.seq (.block 5 (.seq (.seq (.reg false [aM 75 0,aR 76 (.call 53 [.t 75])]) (.cond (.t 76) (.seq (.reg false [aR 77 (.load true 5 (.t 3)),aU (.store 5 (.t 2) (.t 77))]) (.ret)) (.skip))) (.seq (.reg false [aM 78 0,aR 79 (.nilck (.t 78)),aR 80 (.faddr 0 (.t 79)),aR 81 (.load false 1 (.t 80)),aR 82 (.call 96 [.t 81]),aR 83 (.build [.str [],.int .i64 0,.int .i64 0,.str [],.sl 0 .nil [],.sl 0 .nil [],.bool false] [(0,1,.t 82)]),aR 4 (.alloc 98 [.str [],.int .i64 0,.int .i64 0,.str [],.sl 0 .nil [],.sl 0 .nil [],.bool false]),aU (.store 7 (.t 4) (.t 83))]) (.seq (.reg false [aM 84 0,aR 85 (.call 99 [.t 84]),aR 86 (.faddr 1 (.t 4)),aU (.store 5 (.t 86) (.t 85))]) (.seq (.reg false [aM 87 0,aR 88 (.call 100 [.t 87]),aR 89 (.faddr 6 (.t 4)),aU (.store 1 (.t 89) (.t 88))]) (.reg false [aR 90 (.faddr 4 (.t 3)),aR 91 (.load false 1 (.t 90)),aR 92 (.load true 7 (.t 4)),aR 93 (.mks 7 [.t 92]),aR 94 (.app 98 7 104 (.t 91) (.t 93)),aR 95 (.faddr 4 (.t 3)),aU (.store 1 (.t 95) (.t 94))])))))) (.reg false [aR 96 (.bin .add (.t 73) (aI 1)),aM 73 96]))))))) (.seq (.reg false [aR 97 (.load true 5 (.t 3)),aU (.store 5 (.t 2) (.t 97))]) (.ret)))))),[.c 2 true 5]⟩
theorem h_rstate : AX.compFn Tryz.prog 52 = some c_rstate:=by kernel_rfl
theorem a_rstate {ver : Int} (hver : ver = 1 ∨ ver = 2) (s : Sf.Rs) (hl : s.r.rest.length ≤ 100000000) (l : List Blk) (t : List (TypeId × Nat × Nat)) :
  ACall Tryz.prog GT 52 [.ptr 0 0] ⟨RB ver s.bad :: rdr s.r :: l,t⟩ fun v h' => v = (Sf.stateS ver s).2.A ∧ h' = ⟨RB ver (Sf.stateS ver s).1.bad :: rdr (Sf.stateS ver s).1.r :: l,t⟩:=by
 refine liftR (s':=(Sf.stateS ver s).1) (v:=(Sf.stateS ver s).2.A) ?_ rfl rfl l t
 refine acall_of mixedT h_rstate (by simp [c_rstate]) ?_
 dsimp only [c_rstate]
 unfold RB
 obtain ⟨⟨r1,x1⟩,h1⟩ : ∃ q,Wire.strR s.r = q:=⟨_,rfl⟩
 have l1:=Wire.strR_rest s.r
 rw [h1] at l1
 obtain ⟨⟨r2,x2⟩,h2⟩ : ∃ q,Wire.numR r1 = q:=⟨_,rfl⟩
 have l2:=Wire.numR_rest r1
 rw [h2] at l2
 obtain ⟨⟨rc,c⟩,hc⟩ : ∃ q,Wire.cntR r2 1 = q:=⟨_,rfl⟩
 have lc:=Wire.cntR_rest r2 1
 have lk:=Wire.cntR_cnt r2
 rw [hc] at lc lk
 dsimp only at l1 l2 lc lk
 have str : ∀ (r r' : Wire.St) (x : List UInt8) (h : Hp),Wire.strR r = (r',x) → h.b[1]? = some (rdr r) → r.rest.length ≤ 100000000 → ACall Tryz.prog GT 96 [.ptr 1 0] h fun v h' => v = .str x ∧ h' = ⟨h.b.set 1 (rdr r'),h.t⟩:=fun r r' x h e hb hl => by
  have:=a_rstring hb hl
  rw [e] at this; exact this
 have num : ∀ (r r' : Wire.St) (x : Int) (h : Hp),Wire.numR r = (r',x) → h.b[1]? = some (rdr r) → r.rest.length ≤ 100000000 → ACall Tryz.prog GT 51 [.ptr 1 0] h fun v h' => v = .int .i64 x ∧ h' = ⟨h.b.set 1 (rdr r'),h.t⟩:=fun r r' x h e hb hl => by
  have:=a_number hb hl
  rw [e] at this; exact this
 have cnt : ∀ (r r' : Wire.St) (x : Nat) (h : Hp),Wire.cntR r 1 = (r',x) → h.b[1]? = some (rdr r) → r.rest.length ≤ 100000000 → ACall Tryz.prog GT 97 [.ptr 1 0,.int .i64 1] h fun v h' => v = .int .i64 (x : Nat) ∧ h' = ⟨h.b.set 1 (rdr r'),h.t⟩:=fun r r' x h e hb hl => by
  have:=a_count hb hl
  rw [e] at this; exact this
 obtain ⟨res,hres⟩ : ∃ q,Sf.instsS ver c ⟨rc,s.bad⟩ [] = q:=⟨_,rfl⟩
 have hS : Sf.stateS ver s = (if res.2.2 = false then (res.1,⟨x1,x2,res.2.1,[],[]⟩) else
   let p:=if ver = 2 then Sf.pendsS (Sf.cntS res.1).2 (Sf.cntS res.1).1 [] else (res.1,[])
   let co:=Sf.cntS p.1
   let o:=Sf.outsS co.2 co.1 []
   (o.1,⟨x1,x2,res.2.1,p.2,o.2.1⟩)):=by
  rw [← hres]
  unfold Sf.stateS Sf.strS Sf.numS
  simp only [h1,h2]
  rw [show Sf.cntS ⟨r2,s.bad⟩ = (⟨rc,s.bad⟩,c) by unfold Sf.cntS; simp only [hc]]
 have fin1 : ∀ {p : Sf.Rs} {is : List Sf.Inst},(p,is,false) = res → Sf.stateS ver s = (p,⟨x1,x2,is,[],[]⟩):=fun e => by rw [hS,← e]; rfl
 have fin2 : ∀ {p : Sf.Rs} {is : List Sf.Inst},(p,is,true) = res → ∀ (q : Sf.Rs) (ps : List Sf.Pend) (rc3 : Wire.St) (c3 : Nat) {r3 : Sf.Rs × List Sf.Outp × Bool},(if ver = 2 then Sf.pendsS (Sf.cntS p).2 (Sf.cntS p).1 [] else (p,[])) = (q,ps) → Wire.cntR q.r 1 = (rc3,c3) → Sf.outsS c3 ⟨rc3,q.bad⟩ [] = r3 → Sf.stateS ver s = (r3.1,⟨x1,x2,is,ps,r3.2.1⟩):=by
  intro p is e q ps rc3 c3 r3 h h3 hr
  rw [hS,← e]
  dsimp only
  rw [if_neg (by decide),h]
  dsimp only
  rw [show Sf.cntS q = (⟨rc3,q.bad⟩,c3) by unfold Sf.cntS; rw [h3]]
  dsimp only
  rw [hr]
 have hv12 : ∀ {G : Prop},((ver == 2) = false → G) → ((ver == 2) = true → G) → G:=fun p q => by
  rcases bool_or (ver == 2) with e | e
  ·first | exact q e | exact p e
  ·first | exact p e | exact q e
 refine run0 ti ?_
 refine go_gen [4,9,12] 11 [⟨[.cells 109 [.ptr 1 0,.int .i64 ver,.bool s.bad],rdr s.r,.cells 26 [.str [],.int .i64 0,.sl 0 .nil [],.sl 0 .nil [],.sl 0 .nil []]],[]⟩,⟨[.cells 109 [.ptr 1 0,.int .i64 ver,.bool s.bad],rdr r1,.cells 26 [.str [],.int .i64 0,.sl 0 .nil [],.sl 0 .nil [],.sl 0 .nil []]],[]⟩,⟨[.cells 109 [.ptr 1 0,.int .i64 ver,.bool s.bad],rdr r2,.cells 26 [.str [],.int .i64 0,.sl 0 .nil [],.sl 0 .nil [],.sl 0 .nil []]],[]⟩,⟨[],[]⟩,⟨[.cells 109 [.ptr 1 0,.int .i64 ver,.bool s.bad],rdr s.r,.cells 26 [.str [],.int .i64 0,.sl 0 .nil [],.sl 0 .nil [],.sl 0 .nil []],.cells 26 [.str [],.int .i64 0,.sl 0 .nil [],.sl 0 .nil [],.sl 0 .nil []]],[]⟩,⟨[.cells 109 [.ptr 1 0,.int .i64 ver,.bool s.bad],rdr r1,.cells 26 [.str [],.int .i64 0,.sl 0 .nil [],.sl 0 .nil [],.sl 0 .nil []],.cells 26 [.str [],.int .i64 0,.sl 0 .nil [],.sl 0 .nil [],.sl 0 .nil []]],[]⟩,⟨[.cells 109 [.ptr 1 0,.int .i64 ver,.bool s.bad],rdr r2,.cells 26 [.str [],.int .i64 0,.sl 0 .nil [],.sl 0 .nil [],.sl 0 .nil []],.cells 26 [.str [],.int .i64 0,.sl 0 .nil [],.sl 0 .nil [],.sl 0 .nil []]],[]⟩,⟨[.cells 109 [.ptr 1 0,.int .i64 ver,.bool s.bad],rdr r2,.cells 26 [.str [],.int .i64 0,.sl 0 .nil [],.sl 0 .nil [],.sl 0 .nil []],.cells 26 [.str x1,.int .i64 x2,.sl 0 .nil [],.sl 0 .nil [],.sl 0 .nil []]],[]⟩] [[0,4],[0,4],[0,4],[0,4],[0,4],[0,1,4,5],[0,1,4,5],[0,1,4,5],[0,1,4,5],[1,5],[2,6],[0,1,2],[6]] rfl (by decide +kernel) ?_
 refine AX.rung ti ?_
 refine gn_call (vs:=[.ptr 1 0]) (by (exact ev0 ti)) ⟨str s.r r1 x1 _ h1 rfl (by omega),str s.r r1 x1 _ h1 rfl (by omega),trivial⟩ ?_
 refine AX.rung ti ?_
 refine gn_call (vs:=[.ptr 1 0]) (by (exact ev0 ti)) ⟨num r1 r2 x2 _ h2 rfl (by omega),num r1 r2 x2 _ h2 rfl (by omega),trivial⟩ ?_
 refine AX.rung ti ?_
 refine run0 ti ?_
 refine use (cnt r2 rc c _ hc rfl (by omega)) ?_
 refine run0 ti ?_
 refine awp_loop (fun mm ts h => ∃ (j : Nat) (p : Sf.Rs) (is : List Sf.Inst) (W : Nat) (o : Own) (t : List (TypeId × Nat × Nat)),mm = c - j ∧ j ≤ c ∧ h = ⟨[.cells 109 [.ptr 1 0,.int .i64 ver,.bool p.bad],rdr p.r,.cells 26 [.str [],.int .i64 0,.sl 0 .nil [],.sl 0 .nil [],.sl 0 .nil []],.cells 26 [.str x1,.int .i64 x2,(.sl W o (is.map Sf.Inst.cells)),.sl 0 .nil [],.sl 0 .nil []]],t⟩ ∧ Sf.instsS ver (c - j) p is = res ∧ is.length = j ∧ p.r.rest.length ≤ 100000000 ∧ Gs 42 13 0 ⟨[],t⟩ (is.map Sf.Inst.cells) (.sl W o (is.map Sf.Inst.cells)) ∧ ts 0 = .ptr 0 0 ∧ ts 2 = .ptr 2 0 ∧ ts 3 = .ptr 3 0 ∧ ts 20 = .int .i64 (c : Nat) ∧ ts 21 = .int .i64 (j : Nat)) c ?_ ?_
 ·exact ⟨0,⟨rc,s.bad⟩,[],0,.nil,[],by omega,by omega,rfl,hres,rfl,(by dsimp only; omega),.inl ⟨rfl,rfl⟩,by (exact ev0 ti),by (exact ev0 ti),by (exact ev0 ti),by (exact ev0 ti),by (exact inv0 ti)⟩
 rintro mm ts h ⟨j,p,is,W,o,t,rfl,hjc,rfl,hit,hdl,hpl,gX,t0,t2,t3,ta,tb⟩
 by_cases hj : j < c
 ·have cf:=a_rfails (ver:=ver) p [.cells 26 [.str [],.int .i64 0,.sl 0 .nil [],.sl 0 .nil [],.sl 0 .nil []],.cells 26 [.str x1,.int .i64 x2,(.sl W o (is.map Sf.Inst.cells)),.sl 0 .nil [],.sl 0 .nil []]] t
  unfold RB at cf
  have hlt : (j : Int) < (c : Int):=by omega
  have ei : IntKind.i64.wrap ((j : Int) + 1) = ((j + 1 : Nat) : Int):=by rw [wrap64 (by omega) (by omega)]; omega
  rw [show c - j = (c - (j + 1)) + 1 by omega] at hit
  unfold Sf.instsS at hit
  refine run0 (ai t0 (ai t2 (ai t3 (ai ta (ai tb hlt))))) ?_
  refine use cf ?_
  rcases bool_or p.fails with e | e
  ·rw [e,if_pos rfl] at hit
   rw [e]
   refine run0 (ai t0 (ai t2 (ai t3 (ai ta tb)))) ?_
   subst hit
   have hfin:=fin1 rfl
   exact ⟨.agg [.str x1,.int .i64 x2,.sl 13 .no (is.map Sf.Inst.cells),.sl 3 .no (([] : List Sf.Pend).map Sf.Pend.cells),.sl 7 .no (([] : List Sf.Outp).map Sf.Outp.cells)],⟨le1_refl _,le1_refl _,Gs.le gX,⟨rfl,.inr rfl,.inl rfl⟩,⟨rfl,.inr rfl,.inl rfl⟩,trivial⟩,by rw [hfin]; rfl,by rw [hfin]; rfl,by rw [hfin]; rfl⟩
  rw [e,if_neg (by decide)] at hit
  rw [e]
  have ci:=a_rinst hver p hpl [.cells 26 [.str [],.int .i64 0,.sl 0 .nil [],.sl 0 .nil [],.sl 0 .nil []],.cells 26 [.str x1,.int .i64 x2,(.sl W o (is.map Sf.Inst.cells)),.sl 0 .nil [],.sl 0 .nil []]] t
  have li:=Sf.instS_le ver p
  obtain ⟨⟨p2,x⟩,hx⟩ : ∃ q,Sf.instS ver p = q:=⟨_,rfl⟩
  rw [hx] at ci hit li
  dsimp only at ci hit li
  unfold RB at ci
  obtain ⟨W',o',t',hX,gX',_⟩:=gX.grow 184 x.cells (by rw [List.length_map]; omega) (by decide)
  have em : is.map Sf.Inst.cells ++ [x.cells] = (is ++ [x]).map Sf.Inst.cells:=by simp
  rw [em] at gX'
  simp only [em] at hX
  have hil : (is ++ [x]).length = j + 1:=by simp [hdl]
  obtain ⟨is2,hi2⟩ : ∃ l,is ++ [x] = l:=⟨_,rfl⟩
  rw [hi2] at hX gX' hit hil
  clear em hi2 hx
  obtain ⟨a,d,id,ty,⟨k,n,w,vi,vy⟩,v,tn,fi,ds⟩:=x
  simp only [Sf.Inst.cells] at ci hX
  refine run0 (ai t0 (ai t2 (ai t3 (ai ta tb)))) ?_
  refine use ci ?_
  refine run0 (ai t0 (ai t2 (ai t3 (ai ta (ai tb (ai hX ei)))))) ?_
  exact ⟨c - (j + 1),by omega,j + 1,p2,is2,W',o',t',rfl,by omega,rfl,hit,hil,by omega,gX',by (exact ev0 t0),by (exact ev0 t2),by (exact ev0 t3),by (exact ev0 ta),by (exact ev0 ei)⟩
 have hlt : ¬ ((j : Int) < (c : Int)):=by omega
 rw [show c - j = 0 by omega] at hit
 unfold Sf.instsS at hit
 subst hit
 have cb : ∀ q : Wire.St,(Wire.cntR q 1).2 ≤ q.rest.length:=fun q => Wire.cntR_cnt q
 refine hv12 (fun e2 => ?_) (fun e2 => ?_)
 ·have gY : Gs 95 3 0 ⟨[],t⟩ (([] : List Sf.Pend).map Sf.Pend.cells) (.sl 0 .nil (([] : List Sf.Pend).map Sf.Pend.cells)):=.inl ⟨rfl,rfl⟩
  refine run0 (ai t0 (ai t2 (ai t3 (ai ta (ai tb (ai hlt e2)))))) ?_
  obtain ⟨q,hq⟩ : ∃ q,p = q:=⟨_,rfl⟩
  obtain ⟨ps,hps⟩ : ∃ ps : List Sf.Pend,[] = ps:=⟨_,rfl⟩
  have fin2:=fin2 rfl
  have hv0 : ver ≠ 2:=by simpa using e2
  subst hq
  obtain ⟨q,hq⟩ : ∃ q,p = q:=⟨_,rfl⟩
  rw [hq] at hpl ⊢
  obtain ⟨⟨rc3,c3⟩,hc3⟩ : ∃ x,Wire.cntR q.r 1 = x:=⟨_,rfl⟩
  have lc3:=Wire.cntR_rest q.r 1
  have lk3:=Wire.cntR_cnt q.r
  rw [hc3] at lc3 lk3
  dsimp only at lc3 lk3
  obtain ⟨res3,hres3⟩ : ∃ x,Sf.outsS c3 ⟨rc3,q.bad⟩ [] = x:=⟨_,rfl⟩
  have fin3 : ∀ {r3 : Sf.Rs × List Sf.Outp × Bool},r3 = res3 → Sf.stateS ver s = (r3.1,⟨x1,x2,is,ps,r3.2.1⟩):=fun e => by rw [e]; exact fin2 q ps rc3 c3 (by rw [if_neg hv0,hq,hps]) hc3 hres3
  obtain ⟨W2,o2,hW2⟩ : ∃ (W2 : Nat) (o2 : Own),W2 = 0 ∧ o2 = .nil:=⟨_,_,rfl,rfl⟩
  have hY0 : (A.sl 0 .nil [] : A) = .sl W2 o2 (ps.map Sf.Pend.cells):=by rw [hW2.1,hW2.2,← hps]; rfl
  rw [hps] at gY
  have gY : Gs 95 3 0 ⟨[],t⟩ (ps.map Sf.Pend.cells) (.sl W2 o2 (ps.map Sf.Pend.cells)):=by rw [hW2.1,hW2.2]; exact gY
  refine use (cnt q.r rc3 c3 _ hc3 rfl (by omega)) ?_
  refine run0 (ai t0 (ai t2 t3)) ?_
  refine awp_loop (fun mm ts h => ∃ (j : Nat) (p : Sf.Rs) (os : List Sf.Outp) (W3 : Nat) (o3 : Own) (l : List Blk) (t : List (TypeId × Nat × Nat)),mm = c3 - j ∧ j ≤ c3 ∧ h = ⟨.cells 109 [.ptr 1 0,.int .i64 ver,.bool p.bad] :: rdr p.r :: .cells 26 [.str [],.int .i64 0,.sl 0 .nil [],.sl 0 .nil [],.sl 0 .nil []] :: .cells 26 [.str x1,.int .i64 x2,(.sl W o (is.map Sf.Inst.cells)),(.sl W2 o2 (ps.map Sf.Pend.cells)),(.sl W3 o3 (os.map Sf.Outp.cells))] :: l,t⟩ ∧ Sf.outsS (c3 - j) p os = res3 ∧ os.length = j ∧ p.r.rest.length ≤ 100000000 ∧ Gs 42 13 0 ⟨[],t⟩ (is.map Sf.Inst.cells) (.sl W o (is.map Sf.Inst.cells)) ∧ Gs 95 3 0 ⟨[],t⟩ (ps.map Sf.Pend.cells) (.sl W2 o2 (ps.map Sf.Pend.cells)) ∧ Gs 98 7 0 ⟨[],t⟩ (os.map Sf.Outp.cells) (.sl W3 o3 (os.map Sf.Outp.cells)) ∧ ts 0 = .ptr 0 0 ∧ ts 2 = .ptr 2 0 ∧ ts 3 = .ptr 3 0 ∧ ts 72 = .int .i64 (c3 : Nat) ∧ ts 73 = .int .i64 (j : Nat)) c3 ?_ ?_
  ·exact ⟨0,⟨rc3,q.bad⟩,[],0,.nil,[],t,by omega,by omega,(by rw [← hY0]; rfl),hres3,rfl,(by dsimp only; omega),gX,gY,.inl ⟨rfl,rfl⟩,by (exact ev0 t0),by (exact ev0 t2),by (exact ev0 t3),by (exact ev0 ti),by (exact inv0 ti)⟩
  rintro mm ts h ⟨j,p,os,W3,o3,l,t,rfl,hjc,rfl,hit,hdl,hpl,gX,gY,gZ,t0,t2,t3,ta,tb⟩
  by_cases hj : j < c3
  ·have cf:=a_rfails (ver:=ver) p (.cells 26 [.str [],.int .i64 0,.sl 0 .nil [],.sl 0 .nil [],.sl 0 .nil []] :: .cells 26 [.str x1,.int .i64 x2,(.sl W o (is.map Sf.Inst.cells)),(.sl W2 o2 (ps.map Sf.Pend.cells)),(.sl W3 o3 (os.map Sf.Outp.cells))] :: l) t
   unfold RB at cf
   have hlt : (j : Int) < (c3 : Int):=by omega
   have ei : IntKind.i64.wrap ((j : Int) + 1) = ((j + 1 : Nat) : Int):=by rw [wrap64 (by omega) (by omega)]; omega
   rw [show c3 - j = (c3 - (j + 1)) + 1 by omega] at hit
   unfold Sf.outsS at hit
   refine run0 (ai t0 (ai t2 (ai t3 (ai ta (ai tb hlt))))) ?_
   refine use cf ?_
   rcases bool_or p.fails with e | e
   ·rw [e,if_pos rfl] at hit
    rw [e]
    refine run0 (ai t0 (ai t2 (ai t3 (ai ta tb)))) ?_
    subst hit
    have hfin:=fin3 rfl
    exact ⟨.agg [.str x1,.int .i64 x2,.sl 13 .no (is.map Sf.Inst.cells),.sl 3 .no (ps.map Sf.Pend.cells),.sl 7 .no (os.map Sf.Outp.cells)],⟨le1_refl _,le1_refl _,Gs.le gX,Gs.le gY,Gs.le gZ,trivial⟩,by rw [hfin]; rfl,by rw [hfin]; rfl,by rw [hfin]; rfl⟩
   rw [e,if_neg (by decide)] at hit
   rw [e]
   refine run0 (ai t0 (ai t2 (ai t3 (ai ta tb)))) ?_
   obtain ⟨⟨q1,y1⟩,g1⟩ : ∃ q,Wire.strR p.r = q:=⟨_,rfl⟩
   have m1:=Wire.strR_rest p.r
   rw [g1] at m1
   dsimp only at m1
   refine use (str p.r q1 y1 _ g1 rfl hpl) ?_
   refine run0 (ai t0 (ai t2 (ai t3 (ai ta tb)))) ?_
   have cv:=a_rvalue (ver:=ver) ⟨q1,p.bad⟩ (by dsimp only; omega) (.cells 26 [.str [],.int .i64 0,.sl 0 .nil [],.sl 0 .nil [],.sl 0 .nil []] :: .cells 26 [.str x1,.int .i64 x2,(.sl W o (is.map Sf.Inst.cells)),(.sl W2 o2 (ps.map Sf.Pend.cells)),(.sl W3 o3 (os.map Sf.Outp.cells))] :: (l ++ [.cells 98 [.str y1,.int .i64 0,.int .i64 0,.str [],.sl 0 .nil [],.sl 0 .nil [],.bool false]])) t
   have m2:=Sf.valueS_le ⟨q1,p.bad⟩
   obtain ⟨⟨⟨q2,b2⟩,y2⟩,g2⟩ : ∃ q,Sf.valueS ⟨q1,p.bad⟩ = q:=⟨_,rfl⟩
   rw [g2] at cv m2
   dsimp only at cv m2
   obtain ⟨⟨⟨q3,b3⟩,y3⟩,g3⟩ : ∃ q,Sf.flagS ⟨q2,b2⟩ = q:=⟨_,rfl⟩
   have m3:=Sf.flagS_le ⟨q2,b2⟩
   rw [g3] at m3
   dsimp only at m3
   have ho : Sf.outS p = (⟨q3,b3⟩,⟨y1,y2,y3⟩):=by unfold Sf.outS Sf.strS; simp only [g1,g2,g3]
   rw [ho] at hit
   dsimp only at hit
   obtain ⟨x,hxe⟩ : ∃ x : Sf.Outp,x = ⟨y1,y2,y3⟩:=⟨_,rfl⟩
   rw [← hxe] at hit
   obtain ⟨W',o',t',hX,gZ',kZ⟩:=gZ.grow 104 x.cells (by rw [List.length_map]; omega) (by decide)
   have gX':=kZ _ _ _ _ (by decide) gX
   have gY':=kZ _ _ _ _ (by decide) gY
   have em : os.map Sf.Outp.cells ++ [x.cells] = (os ++ [x]).map Sf.Outp.cells:=by simp
   rw [em] at gZ'
   simp only [em] at hX
   have hil : (os ++ [x]).length = j + 1:=by simp [hdl]
   obtain ⟨os2,hi2⟩ : ∃ l,os ++ [x] = l:=⟨_,rfl⟩
   rw [hi2] at hX gZ' hit hil
   clear em hi2
   subst hxe
   obtain ⟨k,n,w,vi,vy⟩:=y2
   have hVA : (V.mk k n w vi vy).A = .agg [.int .i64 k,.int .i64 n,.str w,.sl 5 .no (V.cellss vi),.sl 1 .no (strsA vy)]:=by simp only [V.A,V.cells]
   rw [hVA] at cv
   unfold RB at cv
   simp only [Sf.Outp.cells] at hX
   refine use cv ?_
   refine run0 (ai t0 (ai t2 (ai t3 (ai ta tb)))) ?_
   have cg:=a_rflag (ver:=ver) ⟨q2,b2⟩ (by dsimp only; omega) (.cells 26 [.str [],.int .i64 0,.sl 0 .nil [],.sl 0 .nil [],.sl 0 .nil []] :: .cells 26 [.str x1,.int .i64 x2,(.sl W o (is.map Sf.Inst.cells)),(.sl W2 o2 (ps.map Sf.Pend.cells)),(.sl W3 o3 (os.map Sf.Outp.cells))] :: (l ++ [.cells 98 [.str y1,.int .i64 k,.int .i64 n,.str w,.sl 5 .no (V.cellss vi),.sl 1 .no (strsA vy),.bool false]])) t
   rw [g3] at cg
   dsimp only at cg
   unfold RB at cg
   refine use cg ?_
   refine run0 (ai t0 (ai t2 (ai t3 (ai ta (ai tb (ai hX ei)))))) ?_
   exact ⟨c3 - (j + 1),by omega,j + 1,⟨q3,b3⟩,os2,W',o',l ++ [.cells 98 [.str y1,.int .i64 k,.int .i64 n,.str w,.sl 5 .no (V.cellss vi),.sl 1 .no (strsA vy),.bool y3]],t',rfl,by omega,rfl,hit,hil,(by dsimp only; omega),gX',gY',gZ',by (exact ev0 t0),by (exact ev0 t2),by (exact ev0 t3),by (exact ev0 ta),by (exact ev0 ei)⟩
  have hlt : ¬ ((j : Int) < (c3 : Int)):=by omega
  rw [show c3 - j = 0 by omega] at hit
  unfold Sf.outsS at hit
  subst hit
  refine run0 (ai t0 (ai t2 (ai t3 (ai ta (ai tb hlt))))) ?_
  have hfin:=fin3 rfl
  exact ⟨.agg [.str x1,.int .i64 x2,.sl 13 .no (is.map Sf.Inst.cells),.sl 3 .no (ps.map Sf.Pend.cells),.sl 7 .no (os.map Sf.Outp.cells)],⟨le1_refl _,le1_refl _,Gs.le gX,Gs.le gY,Gs.le gZ,trivial⟩,by rw [hfin]; rfl,by rw [hfin]; rfl,by rw [hfin]; rfl⟩
 ·obtain ⟨⟨rc2,c2⟩,hc2⟩ : ∃ x,Wire.cntR p.r 1 = x:=⟨_,rfl⟩
  have lc2:=Wire.cntR_rest p.r 1
  have lk2:=Wire.cntR_cnt p.r
  rw [hc2] at lc2 lk2
  dsimp only at lc2 lk2
  obtain ⟨res2,hres2⟩ : ∃ x,Sf.pendsS c2 ⟨rc2,p.bad⟩ [] = x:=⟨_,rfl⟩
  have hv2 : ver = 2:=by simpa using e2
  have fin2:=fin2 rfl
  have hp2 : (if ver = 2 then Sf.pendsS (Sf.cntS p).2 (Sf.cntS p).1 [] else (p,[])) = res2:=by rw [if_pos hv2]; unfold Sf.cntS; rw [hc2]; exact hres2
  rw [hp2] at fin2
  refine run0 (ai t0 (ai t2 (ai t3 (ai ta (ai tb (ai hlt e2)))))) ?_
  refine use (cnt p.r rc2 c2 _ hc2 rfl (by omega)) ?_
  refine run0 (ai t0 (ai t2 t3)) ?_
  refine awp_loop (fun mm ts h => ∃ (j : Nat) (p : Sf.Rs) (ps : List Sf.Pend) (W2 : Nat) (o2 : Own) (t : List (TypeId × Nat × Nat)),mm = c2 - j ∧ j ≤ c2 ∧ h = ⟨[.cells 109 [.ptr 1 0,.int .i64 ver,.bool p.bad],rdr p.r,.cells 26 [.str [],.int .i64 0,.sl 0 .nil [],.sl 0 .nil [],.sl 0 .nil []],.cells 26 [.str x1,.int .i64 x2,(.sl W o (is.map Sf.Inst.cells)),(.sl W2 o2 (ps.map Sf.Pend.cells)),.sl 0 .nil []]],t⟩ ∧ Sf.pendsS (c2 - j) p ps = res2 ∧ ps.length = j ∧ p.r.rest.length ≤ 100000000 ∧ Gs 42 13 0 ⟨[],t⟩ (is.map Sf.Inst.cells) (.sl W o (is.map Sf.Inst.cells)) ∧ Gs 95 3 0 ⟨[],t⟩ (ps.map Sf.Pend.cells) (.sl W2 o2 (ps.map Sf.Pend.cells)) ∧ ts 0 = .ptr 0 0 ∧ ts 2 = .ptr 2 0 ∧ ts 3 = .ptr 3 0 ∧ ts 43 = .int .i64 (c2 : Nat) ∧ ts 44 = .int .i64 (j : Nat)) c2 ?_ ?_
  ·exact ⟨0,⟨rc2,p.bad⟩,[],0,.nil,t,by omega,by omega,rfl,hres2,rfl,(by dsimp only; omega),gX,.inl ⟨rfl,rfl⟩,by (exact ev0 t0),by (exact ev0 t2),by (exact ev0 t3),by (exact ev0 ti),by (exact inv0 ti)⟩
  rintro mm ts h ⟨j,q,ps,W2,o2,t,rfl,hjc,rfl,hit,hdl,hpl,gX,gY,t0,t2,t3,ta,tb⟩
  by_cases hj : j < c2
  ·have hq:=hpl
   have hlt : (j : Int) < (c2 : Int):=by omega
   have ei : IntKind.i64.wrap ((j : Int) + 1) = ((j + 1 : Nat) : Int):=by rw [wrap64 (by omega) (by omega)]; omega
   rw [show c2 - j = (c2 - (j + 1)) + 1 by omega] at hit
   unfold Sf.pendsS at hit
   obtain ⟨⟨q1,y1⟩,g1⟩ : ∃ x,Wire.strR q.r = x:=⟨_,rfl⟩
   have m1:=Wire.strR_rest q.r
   rw [g1] at m1
   dsimp only at m1
   obtain ⟨⟨q2,y2⟩,g2⟩ : ∃ x,Wire.strR q1 = x:=⟨_,rfl⟩
   have m2:=Wire.strR_rest q1
   rw [g2] at m2
   dsimp only at m2
   obtain ⟨⟨q3,y3⟩,g3⟩ : ∃ x,Wire.strR q2 = x:=⟨_,rfl⟩
   have m3:=Wire.strR_rest q2
   rw [g3] at m3
   dsimp only at m3
   have ho : Sf.pendS q = (⟨q3,q.bad⟩,⟨y1,y2,y3⟩):=by unfold Sf.pendS Sf.strS; simp only [g1,g2,g3]
   rw [ho] at hit
   dsimp only at hit
   obtain ⟨x,hxe⟩ : ∃ x : Sf.Pend,x = ⟨y1,y2,y3⟩:=⟨_,rfl⟩
   rw [← hxe] at hit
   obtain ⟨W',o',t',hX,gY',kY⟩:=gY.grow 48 x.cells (by rw [List.length_map]; omega) (by decide)
   have gX':=kY _ _ _ _ (by decide) gX
   have em : ps.map Sf.Pend.cells ++ [x.cells] = (ps ++ [x]).map Sf.Pend.cells:=by simp
   rw [em] at gY'
   simp only [em] at hX
   have hil : (ps ++ [x]).length = j + 1:=by simp [hdl]
   obtain ⟨ps2,hi2⟩ : ∃ l,ps ++ [x] = l:=⟨_,rfl⟩
   rw [hi2] at hX gY' hit hil
   clear em hi2
   subst hxe
   simp only [Sf.Pend.cells] at hX
   refine run0 (ai t0 (ai t2 (ai t3 (ai ta (ai tb hlt))))) ?_
   refine use (str q.r q1 y1 _ g1 rfl hpl) ?_
   refine run0 (ai t0 (ai t2 (ai t3 (ai ta tb)))) ?_
   refine use (str q1 q2 y2 _ g2 rfl (by omega)) ?_
   refine run0 (ai t0 (ai t2 (ai t3 (ai ta tb)))) ?_
   refine use (str q2 q3 y3 _ g3 rfl (by omega)) ?_
   refine run0 (ai t0 (ai t2 (ai t3 (ai ta (ai tb (ai hX ei)))))) ?_
   exact ⟨c2 - (j + 1),by omega,j + 1,⟨q3,q.bad⟩,ps2,W',o',t',rfl,by omega,rfl,hit,hil,(by dsimp only; omega),gX',gY',by (exact ev0 t0),by (exact ev0 t2),by (exact ev0 t3),by (exact ev0 ta),by (exact ev0 ei)⟩
  have hlt : ¬ ((j : Int) < (c2 : Int)):=by omega
  rw [show c2 - j = 0 by omega] at hit
  unfold Sf.pendsS at hit
  subst hit
  obtain ⟨⟨rc3,c3⟩,hc3⟩ : ∃ x,Wire.cntR q.r 1 = x:=⟨_,rfl⟩
  have lc3:=Wire.cntR_rest q.r 1
  have lk3:=Wire.cntR_cnt q.r
  rw [hc3] at lc3 lk3
  dsimp only at lc3 lk3
  obtain ⟨res3,hres3⟩ : ∃ x,Sf.outsS c3 ⟨rc3,q.bad⟩ [] = x:=⟨_,rfl⟩
  have fin3 : ∀ {r3 : Sf.Rs × List Sf.Outp × Bool},r3 = res3 → Sf.stateS ver s = (r3.1,⟨x1,x2,is,ps,r3.2.1⟩):=fun e => by rw [e]; exact fin2 q ps rc3 c3 rfl hc3 hres3
  refine run0 (ai t0 (ai t2 (ai t3 (ai ta (ai tb hlt))))) ?_
  refine use (cnt q.r rc3 c3 _ hc3 rfl (by omega)) ?_
  refine run0 (ai t0 (ai t2 t3)) ?_
  refine awp_loop (fun mm ts h => ∃ (j : Nat) (p : Sf.Rs) (os : List Sf.Outp) (W3 : Nat) (o3 : Own) (l : List Blk) (t : List (TypeId × Nat × Nat)),mm = c3 - j ∧ j ≤ c3 ∧ h = ⟨.cells 109 [.ptr 1 0,.int .i64 ver,.bool p.bad] :: rdr p.r :: .cells 26 [.str [],.int .i64 0,.sl 0 .nil [],.sl 0 .nil [],.sl 0 .nil []] :: .cells 26 [.str x1,.int .i64 x2,(.sl W o (is.map Sf.Inst.cells)),(.sl W2 o2 (ps.map Sf.Pend.cells)),(.sl W3 o3 (os.map Sf.Outp.cells))] :: l,t⟩ ∧ Sf.outsS (c3 - j) p os = res3 ∧ os.length = j ∧ p.r.rest.length ≤ 100000000 ∧ Gs 42 13 0 ⟨[],t⟩ (is.map Sf.Inst.cells) (.sl W o (is.map Sf.Inst.cells)) ∧ Gs 95 3 0 ⟨[],t⟩ (ps.map Sf.Pend.cells) (.sl W2 o2 (ps.map Sf.Pend.cells)) ∧ Gs 98 7 0 ⟨[],t⟩ (os.map Sf.Outp.cells) (.sl W3 o3 (os.map Sf.Outp.cells)) ∧ ts 0 = .ptr 0 0 ∧ ts 2 = .ptr 2 0 ∧ ts 3 = .ptr 3 0 ∧ ts 72 = .int .i64 (c3 : Nat) ∧ ts 73 = .int .i64 (j : Nat)) c3 ?_ ?_
  ·exact ⟨0,⟨rc3,q.bad⟩,[],0,.nil,[],t,by omega,by omega,rfl,hres3,rfl,(by dsimp only; omega),gX,gY,.inl ⟨rfl,rfl⟩,by (exact ev0 t0),by (exact ev0 t2),by (exact ev0 t3),by (exact ev0 ti),by (exact inv0 ti)⟩
  rintro mm ts h ⟨j,p,os,W3,o3,l,t,rfl,hjc,rfl,hit,hdl,hpl,gX,gY,gZ,t0,t2,t3,ta,tb⟩
  by_cases hj : j < c3
  ·have cf:=a_rfails (ver:=ver) p (.cells 26 [.str [],.int .i64 0,.sl 0 .nil [],.sl 0 .nil [],.sl 0 .nil []] :: .cells 26 [.str x1,.int .i64 x2,(.sl W o (is.map Sf.Inst.cells)),(.sl W2 o2 (ps.map Sf.Pend.cells)),(.sl W3 o3 (os.map Sf.Outp.cells))] :: l) t
   unfold RB at cf
   have hlt : (j : Int) < (c3 : Int):=by omega
   have ei : IntKind.i64.wrap ((j : Int) + 1) = ((j + 1 : Nat) : Int):=by rw [wrap64 (by omega) (by omega)]; omega
   rw [show c3 - j = (c3 - (j + 1)) + 1 by omega] at hit
   unfold Sf.outsS at hit
   refine run0 (ai t0 (ai t2 (ai t3 (ai ta (ai tb hlt))))) ?_
   refine use cf ?_
   rcases bool_or p.fails with e | e
   ·rw [e,if_pos rfl] at hit
    rw [e]
    refine run0 (ai t0 (ai t2 (ai t3 (ai ta tb)))) ?_
    subst hit
    have hfin:=fin3 rfl
    exact ⟨.agg [.str x1,.int .i64 x2,.sl 13 .no (is.map Sf.Inst.cells),.sl 3 .no (ps.map Sf.Pend.cells),.sl 7 .no (os.map Sf.Outp.cells)],⟨le1_refl _,le1_refl _,Gs.le gX,Gs.le gY,Gs.le gZ,trivial⟩,by rw [hfin]; rfl,by rw [hfin]; rfl,by rw [hfin]; rfl⟩
   rw [e,if_neg (by decide)] at hit
   rw [e]
   refine run0 (ai t0 (ai t2 (ai t3 (ai ta tb)))) ?_
   obtain ⟨⟨q1,y1⟩,g1⟩ : ∃ q,Wire.strR p.r = q:=⟨_,rfl⟩
   have m1:=Wire.strR_rest p.r
   rw [g1] at m1
   dsimp only at m1
   refine use (str p.r q1 y1 _ g1 rfl hpl) ?_
   refine run0 (ai t0 (ai t2 (ai t3 (ai ta tb)))) ?_
   have cv:=a_rvalue (ver:=ver) ⟨q1,p.bad⟩ (by dsimp only; omega) (.cells 26 [.str [],.int .i64 0,.sl 0 .nil [],.sl 0 .nil [],.sl 0 .nil []] :: .cells 26 [.str x1,.int .i64 x2,(.sl W o (is.map Sf.Inst.cells)),(.sl W2 o2 (ps.map Sf.Pend.cells)),(.sl W3 o3 (os.map Sf.Outp.cells))] :: (l ++ [.cells 98 [.str y1,.int .i64 0,.int .i64 0,.str [],.sl 0 .nil [],.sl 0 .nil [],.bool false]])) t
   have m2:=Sf.valueS_le ⟨q1,p.bad⟩
   obtain ⟨⟨⟨q2,b2⟩,y2⟩,g2⟩ : ∃ q,Sf.valueS ⟨q1,p.bad⟩ = q:=⟨_,rfl⟩
   rw [g2] at cv m2
   dsimp only at cv m2
   obtain ⟨⟨⟨q3,b3⟩,y3⟩,g3⟩ : ∃ q,Sf.flagS ⟨q2,b2⟩ = q:=⟨_,rfl⟩
   have m3:=Sf.flagS_le ⟨q2,b2⟩
   rw [g3] at m3
   dsimp only at m3
   have ho : Sf.outS p = (⟨q3,b3⟩,⟨y1,y2,y3⟩):=by unfold Sf.outS Sf.strS; simp only [g1,g2,g3]
   rw [ho] at hit
   dsimp only at hit
   obtain ⟨x,hxe⟩ : ∃ x : Sf.Outp,x = ⟨y1,y2,y3⟩:=⟨_,rfl⟩
   rw [← hxe] at hit
   obtain ⟨W',o',t',hX,gZ',kZ⟩:=gZ.grow 104 x.cells (by rw [List.length_map]; omega) (by decide)
   have gX':=kZ _ _ _ _ (by decide) gX
   have gY':=kZ _ _ _ _ (by decide) gY
   have em : os.map Sf.Outp.cells ++ [x.cells] = (os ++ [x]).map Sf.Outp.cells:=by simp
   rw [em] at gZ'
   simp only [em] at hX
   have hil : (os ++ [x]).length = j + 1:=by simp [hdl]
   obtain ⟨os2,hi2⟩ : ∃ l,os ++ [x] = l:=⟨_,rfl⟩
   rw [hi2] at hX gZ' hit hil
   clear em hi2
   subst hxe
   obtain ⟨k,n,w,vi,vy⟩:=y2
   have hVA : (V.mk k n w vi vy).A = .agg [.int .i64 k,.int .i64 n,.str w,.sl 5 .no (V.cellss vi),.sl 1 .no (strsA vy)]:=by simp only [V.A,V.cells]
   rw [hVA] at cv
   unfold RB at cv
   simp only [Sf.Outp.cells] at hX
   refine use cv ?_
   refine run0 (ai t0 (ai t2 (ai t3 (ai ta tb)))) ?_
   have cg:=a_rflag (ver:=ver) ⟨q2,b2⟩ (by dsimp only; omega) (.cells 26 [.str [],.int .i64 0,.sl 0 .nil [],.sl 0 .nil [],.sl 0 .nil []] :: .cells 26 [.str x1,.int .i64 x2,(.sl W o (is.map Sf.Inst.cells)),(.sl W2 o2 (ps.map Sf.Pend.cells)),(.sl W3 o3 (os.map Sf.Outp.cells))] :: (l ++ [.cells 98 [.str y1,.int .i64 k,.int .i64 n,.str w,.sl 5 .no (V.cellss vi),.sl 1 .no (strsA vy),.bool false]])) t
   rw [g3] at cg
   dsimp only at cg
   unfold RB at cg
   refine use cg ?_
   refine run0 (ai t0 (ai t2 (ai t3 (ai ta (ai tb (ai hX ei)))))) ?_
   exact ⟨c3 - (j + 1),by omega,j + 1,⟨q3,b3⟩,os2,W',o',l ++ [.cells 98 [.str y1,.int .i64 k,.int .i64 n,.str w,.sl 5 .no (V.cellss vi),.sl 1 .no (strsA vy),.bool y3]],t',rfl,by omega,rfl,hit,hil,(by dsimp only; omega),gX',gY',gZ',by (exact ev0 t0),by (exact ev0 t2),by (exact ev0 t3),by (exact ev0 ta),by (exact ev0 ei)⟩
  have hlt : ¬ ((j : Int) < (c3 : Int)):=by omega
  rw [show c3 - j = 0 by omega] at hit
  unfold Sf.outsS at hit
  subst hit
  refine run0 (ai t0 (ai t2 (ai t3 (ai ta (ai tb hlt))))) ?_
  have hfin:=fin3 rfl
  exact ⟨.agg [.str x1,.int .i64 x2,.sl 13 .no (is.map Sf.Inst.cells),.sl 3 .no (ps.map Sf.Pend.cells),.sl 7 .no (os.map Sf.Outp.cells)],⟨le1_refl _,le1_refl _,Gs.le gX,Gs.le gY,Gs.le gZ,trivial⟩,by rw [hfin]; rfl,by rw [hfin]; rfl,by rw [hfin]; rfl⟩
end AX
end Go.Proofs.YtnjkemakcejceaaGreatDoor

namespace Go.Proofs.YtnjkemakcejceaaGreatDoor
open Go.RowKit
set_option maxHeartbeats 4000000
namespace AX
def c_hasPrefix : AX.AFn:=⟨8,.seq (.reg false [aR 4 (.mv (.c (.bool false)))]) (.seq (.reg false [aM 5 0,aM 6 1,aR 7 (.call 89 [.t 5,.t 6]),aM 4 7]) (.ret)),[.t 4]⟩
theorem h_hasPrefix : AX.compFn Tryz.prog 48 = some c_hasPrefix:=by kernel_rfl
def c_liteHasPrefix : AX.AFn:=⟨18,.seq (.reg false [aR 4 (.mv (.c (.bool false)))]) (.seq (.reg false [aM 5 0,aR 6 (.len true (.t 5)),aM 7 1,aR 8 (.len true (.t 7)),aR 9 (.bin .geq (.t 6) (.t 8)),aM 10 9,aG 11 (.mv (.t 0)) 10 true,aG 12 (.mv (.t 1)) 10 true,aG 13 (.len true (.t 12)) 10 true,aG 14 (.ssl (.t 11) none (some (.t 13))) 10 true,aG 15 (.mv (.t 1)) 10 true,aG 16 (.bin .eql (.t 14) (.t 15)) 10 true,aR 17 (.pick (.t 10) (.t 16) (.c (.bool false))),aM 4 17]) (.ret)),[.t 4]⟩
theorem h_liteHasPrefix : AX.compFn Tryz.prog 89 = some c_liteHasPrefix:=by kernel_rfl
def c_version : AX.AFn:=⟨24,.seq (.reg false [aR 2 (.mv (aI 0)),aR 3 (.mv (aI 0))]) (.seq (.seq (.reg false [aM 6 0,aR 7 (.call 48 [.t 6,.c (.str [80,86,83,84])]),aR 8 (.un .not (.t 7))]) (.cond (.t 8) (.seq (.reg false [aR 2 (.mv (aI 0)),aR 3 (.mv (aI 2))]) (.ret)) (.skip))) (.seq (.reg false [aM 9 0,aR 10 (.ssl (.t 9) (some (aI 4)) none),aR 11 (.call 50 [.t 10]),aM 4 11]) (.seq (.reg false [aM 12 4,aR 13 (.call 51 [.t 12]),aM 5 13]) (.seq (.seq (.reg false [aM 14 4,aR 15 (.call 83 [.t 14]),aR 16 (.bin .neq (.t 15) (aI 0))]) (.cond (.t 16) (.seq (.reg false [aR 2 (.mv (aI 0)),aR 3 (.mv (aI 2))]) (.ret)) (.skip))) (.seq (.seq (.reg false [aM 17 5,aR 18 (.bin .neq (.t 17) (aI 1)),aM 19 18,aG 20 (.mv (.t 5)) 19 true,aG 21 (.bin .neq (.t 20) (aI 2)) 19 true,aR 22 (.pick (.t 19) (.t 21) (.c (.bool false)))]) (.cond (.t 22) (.seq (.reg false [aR 2 (.mv (aI 0)),aR 3 (.mv (aI 21))]) (.ret)) (.skip))) (.seq (.reg false [aM 23 5,aM 2 23,aR 3 (.mv (aI 0))]) (.ret))))))),[.t 2,.t 3]⟩
theorem h_version : AX.compFn Tryz.prog 45 = some c_version:=by kernel_rfl
theorem a_liteHasPrefix (s p : List UInt8) (h : Hp) : ACall Tryz.prog GT 89 [.str s,.str p] h fun r h' => r = .bool (decide (p.length ≤ s.length) && s.take p.length == p) ∧ h' = h:=by
 refine pcall ?_ rfl (by simp [A.pure,A.data]) h
 refine acall_of mixedT h_liteHasPrefix (by simp [c_liteHasPrefix]) ?_
 dsimp only [c_liteHasPrefix]
 by_cases hl : p.length ≤ s.length
 ·have h1 : (s.length : Int) ≥ (p.length : Int):=by omega
  have h2 : (p.length : Int) ≤ (s.length : Int):=by omega
  refine go0 (ai h1 h2) ?_
  exact ⟨_,le_refl _,by rw [tupA_1,decide_eq_true hl]; rfl⟩
 ·have h1 : ¬ (s.length : Int) ≥ (p.length : Int):=by omega
  refine go0 h1 ?_
  exact ⟨_,le_refl _,by rw [tupA_1,decide_eq_false hl]; rfl⟩
theorem a_hasPrefix (s p : List UInt8) (h : Hp) : ACall Tryz.prog GT 48 [.str s,.str p] h fun r h' => r = .bool (decide (p.length ≤ s.length) && s.take p.length == p) ∧ h' = h:=by
 refine pcall ?_ rfl (by simp [A.pure,A.data]) h
 refine acall_of mixedT h_hasPrefix (by simp [c_hasPrefix]) ?_
 dsimp only [c_hasPrefix]
 refine go0 ti ?_
 refine gc0 ti ?_
 refine (a_liteHasPrefix s p _).mono ?_
 rintro v h1 ⟨rfl,rfl⟩
 refine go0 ti ?_
 exact ⟨_,le_refl _,rfl⟩
def magic : List UInt8:=[80,86,83,84]
def preB (s : List UInt8) : Bool:=decide (magic.length ≤ s.length) && s.take magic.length == magic
def versionS (s : List UInt8) : Int × Int:=
 if preB s = false then (0,2) else
 let r:=Wire.numR ⟨s.drop 4,0⟩
 if r.1.e ≠ 0 then (0,2) else if r.2 ≠ 1 ∧ r.2 ≠ 2 then (0,21) else (r.2,0)
theorem a_version (s : List UInt8) (hs : s.length ≤ 100000000) (h : Hp) : ACall Tryz.prog GT 45 [.str s] h fun r h' => r = .tup [.int .i64 (versionS s).1,.int .i64 (versionS s).2] ∧ h' = h:=by
 refine pcall ?_ rfl (by simp [A.pure,A.data]) h
 refine acall_of mixedT h_version (by simp [c_version]) ?_
 dsimp only [c_version]
 refine go0 ti ?_
 refine gc0 ti ?_
 refine (a_hasPrefix s magic _).mono ?_
 rintro v h1 ⟨rfl,rfl⟩
 have hV : versionS s = if preB s = false then (0,2) else if (Wire.numR ⟨s.drop 4,0⟩).1.e ≠ 0 then (0,2) else if (Wire.numR ⟨s.drop 4,0⟩).2 ≠ 1 ∧ (Wire.numR ⟨s.drop 4,0⟩).2 ≠ 2 then (0,21) else ((Wire.numR ⟨s.drop 4,0⟩).2,0):=rfl
 rcases bool_or (preB s) with hp | hp
 rotate_left
 ·rw [if_pos hp] at hV
  unfold preB at hp
  rw [hp,hV]
  refine go0 ti ?_
  exact ⟨_,le_refl _,rfl⟩
 ·rw [if_neg (by simp [hp])] at hV
  have hl4 : (4 : Int) ≤ (s.length : Int):=by
   unfold preB at hp
   simp only [Bool.and_eq_true,decide_eq_true_eq] at hp
   have:=hp.1
   simp only [magic,List.length_cons,List.length_nil] at this
   omega
  unfold preB at hp
  rw [hp]
  have h04 : (0 : Int) ≤ 4:=by decide
  have h4 : (4 : Int).toNat = 4:=rfl
  refine go0 (ai hl4 (ai h04 h4)) ?_
  refine gc0 ti ?_
  refine (a_newReader (s.drop 4) _).mono ?_
  rintro v h1 ⟨rfl,rfl⟩
  refine go0 ti ?_
  refine gc0 ti ?_
  refine (a_number (i:=0) (r:=⟨s.drop 4,0⟩) rfl (by simp; omega)).mono ?_
  rintro v h1 ⟨rfl,rfl⟩
  refine go0 ti ?_
  refine gc0 ti ?_
  refine (a_err (i:=0) (r:=(Wire.numR ⟨s.drop 4,0⟩).1) rfl).mono ?_
  rintro v h1 ⟨rfl,rfl⟩
  obtain ⟨q,hq⟩ : ∃ q,Wire.numR ⟨s.drop 4,0⟩ = q:=⟨_,rfl⟩
  rw [hq] at hV ⊢
  by_cases he : q.1.e = 0
  rotate_left
  ·have e1 : (q.1.e != 0) = true:=by simp [he]
   rw [if_pos he] at hV
   rw [hV]
   refine go0 e1 ?_
   exact ⟨_,le_refl _,rfl⟩
  ·have e1 : (q.1.e != 0) = false:=by simp [he]
   rw [if_neg (by simp [he])] at hV
   by_cases h1 : q.2 = 1
   ·have e2 : (q.2 != 1) = false:=by simp [h1]
    rw [if_neg (by simp [h1])] at hV
    rw [hV]
    refine go0 (ai e1 e2) ?_
    exact ⟨_,le_refl _,rfl⟩
   ·have e2 : (q.2 != 1) = true:=by simp [h1]
    by_cases h2 : q.2 = 2
    ·have e3 : (q.2 != 2) = false:=by simp [h2]
     rw [if_neg (by simp [h2])] at hV
     rw [hV]
     refine go0 (ai e1 (ai e2 e3)) ?_
     exact ⟨_,le_refl _,rfl⟩
    ·have e3 : (q.2 != 2) = true:=by simp [h2]
     rw [if_pos ⟨h1,h2⟩] at hV
     rw [hV]
     refine go0 (ai e1 (ai e2 e3)) ?_
     exact ⟨_,le_refl _,rfl⟩
end AX
end Go.Proofs.YtnjkemakcejceaaGreatDoor

namespace Go.Proofs.YtnjkemakcejceaaGreatDoor
open Go.RowKit
set_option maxHeartbeats 4000000
namespace AX
def c_wstate : AX.AFn:=⟨99,.seq (.reg false [aR 3 (.box 26 (.t 1))]) (.seq (.reg false [aM 10 0,aR 11 (.nilck (.t 10)),aR 12 (.faddr 0 (.t 11)),aR 13 (.call 129 [.t 12,.c (.str [80,86,83,84])])]) (.seq (.reg false [aM 14 0,aM 15 0,aR 16 (.nilck (.t 15)),aR 17 (.faddr 2 (.t 16)),aR 18 (.load false 1 (.t 17)),aR 19 (.call 127 [.t 14,.t 18])]) (.seq (.reg false [aM 20 0,aR 21 (.faddr 0 (.t 3)),aR 22 (.load false 1 (.t 21)),aR 23 (.call 128 [.t 20,.t 22])]) (.seq (.reg false [aM 24 0,aR 25 (.faddr 1 (.t 3)),aR 26 (.load false 1 (.t 25)),aR 27 (.call 127 [.t 24,.t 26])]) (.seq (.reg false [aM 28 0,aR 29 (.faddr 2 (.t 3)),aR 30 (.load false 1 (.t 29)),aR 31 (.len false (.t 30)),aR 32 (.call 127 [.t 28,.t 31])]) (.seq (.seq (.reg false [aR 33 (.faddr 2 (.t 3)),aR 34 (.load false 1 (.t 33)),aR 35 (.len false (.t 34)),aR 36 (.mv (aI 0))]) (.block 0 (.loop (.seq (.reg false [aR 37 (.bin .lss (.t 36) (.t 35))]) (.seq (.cond (.t 37) (.skip) (.exit 0)) (.seq (.block 1 (.seq (.reg false [aR 38 (.iaddr 13 (.t 34) (.t 36)),aR 39 (.load true 13 (.t 38)),aR 5 (.alloc 42 [.str [],.str [],.str [],.str [],.int .i64 0,.int .i64 0,.str [],.sl 0 .nil [],.sl 0 .nil [],.int .i64 0,.bool false,.bool false,.sl 0 .nil []]),aU (.store 13 (.t 5) (.t 39))]) (.reg false [aM 40 0,aR 41 (.load true 13 (.t 5)),aR 42 (.call 130 [.t 40,.t 41])]))) (.reg false [aR 43 (.bin .add (.t 36) (aI 1)),aM 36 43]))))))) (.seq (.seq (.reg false [aM 44 0,aR 45 (.nilck (.t 44)),aR 46 (.faddr 2 (.t 45)),aR 47 (.load false 1 (.t 46)),aR 48 (.bin .eql (.t 47) (aI 2))]) (.cond (.t 48) (.seq (.reg false [aM 49 0,aR 50 (.faddr 3 (.t 3)),aR 51 (.load false 1 (.t 50)),aR 52 (.len false (.t 51)),aR 53 (.call 127 [.t 49,.t 52])]) (.seq (.reg false [aR 54 (.faddr 3 (.t 3)),aR 55 (.load false 1 (.t 54)),aR 56 (.len false (.t 55)),aR 57 (.mv (aI 0))]) (.block 2 (.loop (.seq (.reg false [aR 58 (.bin .lss (.t 57) (.t 56))]) (.seq (.cond (.t 58) (.skip) (.exit 2)) (.seq (.block 3 (.seq (.reg false [aR 59 (.iaddr 3 (.t 55) (.t 57)),aR 60 (.load true 3 (.t 59)),aR 7 (.alloc 95 [.str [],.str [],.str []]),aU (.store 3 (.t 7) (.t 60))]) (.seq (.reg false [aM 61 0,aR 62 (.faddr 0 (.t 7)),aR 63 (.load false 1 (.t 62)),aR 64 (.call 128 [.t 61,.t 63])]) (.seq (.reg false [aM 65 0,aR 66 (.faddr 1 (.t 7)),aR 67 (.load false 1 (.t 66)),aR 68 (.call 128 [.t 65,.t 67])]) (.reg false [aM 69 0,aR 70 (.faddr 2 (.t 7)),aR 71 (.load false 1 (.t 70)),aR 72 (.call 128 [.t 69,.t 71])]))))) (.reg false [aR 73 (.bin .add (.t 57) (aI 1)),aM 57 73])))))))) (.skip))) (.seq (.reg false [aM 74 0,aR 75 (.faddr 4 (.t 3)),aR 76 (.load false 1 (.t 75)),aR 77 (.len false (.t 76)),aR 78 (.call 127 [.t 74,.t 77])]) (.seq (.reg false [aR 79 (.faddr 4 (.t 3)),aR 80 (.load false 1 (.t 79)),aR 81 (.len false (.t 80)),aR 82 (.mv (aI 0))]) (.block 4 (.loop (.seq (.reg false [aR 83 (.bin .lss (.t 82) (.t 81))]) (.seq (.cond (.t 83) (.skip) (.exit 4)) (.seq (.block 5 (.seq (.reg false [aR 84 (.iaddr 7 (.t 80) (.t 82)),aR 85 (.load true 7 (.t 84)),aR 9 (.alloc 98 [.str [],.int .i64 0,.int .i64 0,.str [],.sl 0 .nil [],.sl 0 .nil [],.bool false]),aU (.store 7 (.t 9) (.t 85))]) (.seq (.reg false [aM 86 0,aR 87 (.faddr 0 (.t 9)),aR 88 (.load false 1 (.t 87)),aR 89 (.call 128 [.t 86,.t 88])]) (.seq (.reg false [aM 90 0,aR 91 (.faddr 1 (.t 9)),aR 92 (.load true 5 (.t 91)),aR 93 (.call 84 [.t 90,.t 92])]) (.reg false [aM 94 0,aR 95 (.faddr 6 (.t 9)),aR 96 (.load false 1 (.t 95)),aR 97 (.call 131 [.t 94,.t 96])]))))) (.reg false [aR 98 (.bin .add (.t 82) (aI 1)),aM 82 98]))))))))))))))),[]⟩
theorem h_wstate : AX.compFn Tryz.prog 86 = some c_wstate:=by kernel_rfl
theorem go_once {P : Program} {G : World → Prop} {c : ACode} {Q : AExit → Ts → Hp → Prop} {ts : Ts} {h : Hp} (k : awp P G c (thenA (fun _ _ => False) Q) ts h) : awp P G (.loop c) Q ts h:=⟨1,k⟩
theorem WP.bx {i : Nat} {ver : Int} {l : List UInt8} {h h' : Hp} (hp : WP i ver l h h') (h0 : l ≠ []) : h'.b[i]? = some (wtr ver l):=by
 rcases hp.1 with h1 | ⟨h1,_⟩
 ·exact h1
 ·exact absurd h1 h0
end AX
end Go.Proofs.YtnjkemakcejceaaGreatDoor

namespace Go.Proofs.YtnjkemakcejceaaGreatDoor
open Go.RowKit
set_option maxHeartbeats 4000000
namespace AX
def c_wflag : AX.AFn:=⟨9,.seq (.reg false [aR 4 (.mv (aI 0))]) (.seq (.seq (.reg false [aM 5 1]) (.cond (.t 5) (.reg false [aR 4 (.mv (aI 1))]) (.skip))) (.reg false [aM 6 0,aM 7 4,aR 8 (.call 127 [.t 6,.t 7])])),[]⟩
theorem h_wflag : AX.compFn Tryz.prog 131 = some c_wflag:=by kernel_rfl
def c_winst : AX.AFn:=⟨59,.seq (.reg false [aR 3 (.box 42 (.t 1))]) (.seq (.reg false [aM 6 0,aR 7 (.faddr 0 (.t 3)),aR 8 (.load false 1 (.t 7)),aR 9 (.call 128 [.t 6,.t 8])]) (.seq (.reg false [aM 10 0,aR 11 (.faddr 1 (.t 3)),aR 12 (.load false 1 (.t 11)),aR 13 (.call 128 [.t 10,.t 12])]) (.seq (.reg false [aM 14 0,aR 15 (.faddr 2 (.t 3)),aR 16 (.load false 1 (.t 15)),aR 17 (.call 128 [.t 14,.t 16])]) (.seq (.reg false [aM 18 0,aR 19 (.faddr 3 (.t 3)),aR 20 (.load false 1 (.t 19)),aR 21 (.call 128 [.t 18,.t 20])]) (.seq (.reg false [aM 22 0,aR 23 (.faddr 4 (.t 3)),aR 24 (.load true 5 (.t 23)),aR 25 (.call 84 [.t 22,.t 24])]) (.seq (.reg false [aM 26 0,aR 27 (.faddr 9 (.t 3)),aR 28 (.load false 1 (.t 27)),aR 29 (.call 127 [.t 26,.t 28])]) (.seq (.reg false [aM 30 0,aR 31 (.faddr 10 (.t 3)),aR 32 (.load false 1 (.t 31)),aR 33 (.call 131 [.t 30,.t 32])]) (.seq (.seq (.reg false [aM 34 0,aR 35 (.nilck (.t 34)),aR 36 (.faddr 2 (.t 35)),aR 37 (.load false 1 (.t 36)),aR 38 (.bin .eql (.t 37) (aI 2))]) (.cond (.t 38) (.reg false [aM 39 0,aR 40 (.faddr 11 (.t 3)),aR 41 (.load false 1 (.t 40)),aR 42 (.call 131 [.t 39,.t 41])]) (.skip))) (.seq (.reg false [aM 43 0,aR 44 (.faddr 12 (.t 3)),aR 45 (.load false 1 (.t 44)),aR 46 (.len false (.t 45)),aR 47 (.call 127 [.t 43,.t 46])]) (.seq (.reg false [aR 48 (.faddr 12 (.t 3)),aR 49 (.load false 1 (.t 48)),aR 50 (.len false (.t 49)),aR 51 (.mv (aI 0))]) (.block 0 (.loop (.seq (.reg false [aR 52 (.bin .lss (.t 51) (.t 50))]) (.seq (.cond (.t 52) (.skip) (.exit 0)) (.seq (.block 1 (.seq (.reg false [aR 53 (.iaddr 1 (.t 49) (.t 51)),aR 54 (.load false 1 (.t 53)),aM 5 54]) (.reg false [aM 55 0,aM 56 5,aR 57 (.call 128 [.t 55,.t 56])]))) (.reg false [aR 58 (.bin .add (.t 51) (aI 1)),aM 51 58])))))))))))))))),[]⟩
theorem h_winst : AX.compFn Tryz.prog 130 = some c_winst:=by kernel_rfl
theorem wtr_loc (ver : Int) (l : List UInt8) : (wtr ver l).loc 0:=by
 intro o x h
 simp only [wtr] at h
 split at h
 ·injection h with h; subst h; rfl
 ·cases h
theorem liftW {f : FuncId} {args : List A} {ver : Int} {l l' : List UInt8} (hl' : l' ≠ []) (hc : ACall Tryz.prog GT f (.ptr 0 0 :: args) ⟨[wtr ver l],[]⟩ fun u h' => u = .tup [] ∧ WP 0 ver l' ⟨[wtr ver l],[]⟩ h') (ha : A.locL 0 args = true) {h : Hp} {i : Nat} (hb : h.b[i]? = some (wtr ver l)) :
  ACall Tryz.prog GT f (.ptr i 0 :: args) h fun u h' => u = .tup [] ∧ h' = ⟨h.b.set i (wtr ver l'),h.t⟩:=by
 have h1 : ACall Tryz.prog GT f (.ptr 0 0 :: args) ⟨[wtr ver l],[]⟩ fun u h' => ∃ b',h'.b[0]? = some b' ∧ u = .tup [] ∧ b' = wtr ver l':=hc.mono fun u h' ⟨e,hp⟩ => ⟨wtr ver l',WP.bx hp hl',e,rfl⟩
 refine (ACall.lift1 h1 ha (wtr_loc ver l) ?_ hb).mono ?_
 ·rintro u b' ⟨rfl,rfl⟩
  exact ⟨rfl,wtr_loc ver l'⟩
 ·rintro u h' ⟨b',⟨rfl,rfl⟩,rfl⟩
  exact ⟨rfl,rfl⟩
theorem num_ne (n : Int) : Wire.num n ≠ []:=by
 have:=(Wire.encF_len 9 (Wire.zig n)).1
 intro e
 have h : (Wire.num n).length = 0:=by rw [e]; rfl
 unfold Wire.num at h
 omega
theorem app_ne {a b : List UInt8} (h : b ≠ []) : a ++ b ≠ []:=by simp [h]
theorem strE_ne (s : List UInt8) : Wire.strE s ≠ []:=by
 unfold Wire.strE
 intro e
 exact num_ne _ (List.append_eq_nil_iff.1 e).1
theorem wn {h : Hp} {i : Nat} {ver : Int} {l : List UInt8} (hb : h.b[i]? = some (wtr ver l)) (n : Int) (hlen : l.length + 10 ≤ 1000000000) (h0 : -9223372036854775808 ≤ n) (h1 : n ≤ 9223372036854775807) :
  ACall Tryz.prog GT 127 [.ptr i 0,.int .i64 n] h fun u h' => u = .tup [] ∧ h' = ⟨h.b.set i (wtr ver (l ++ Wire.num n)),h.t⟩:=
 liftW (app_ne (num_ne n)) (a_wnum (h:=⟨[wtr ver l],[]⟩) (.inl rfl) n hlen h0 h1) rfl hb
theorem wt {h : Hp} {i : Nat} {ver : Int} {l : List UInt8} (hb : h.b[i]? = some (wtr ver l)) (s : List UInt8) (hlen : l.length + s.length + 10 ≤ 1000000000) :
  ACall Tryz.prog GT 128 [.ptr i 0,.str s] h fun u h' => u = .tup [] ∧ h' = ⟨h.b.set i (wtr ver (l ++ Wire.strE s)),h.t⟩:=
 liftW (app_ne (strE_ne s)) (a_wtext (h:=⟨[wtr ver l],[]⟩) (.inl rfl) s hlen) rfl hb
theorem wv {h : Hp} {i : Nat} {ver : Int} {l : List UInt8} (hb : h.b[i]? = some (wtr ver l)) (v : V) (hz : ∃ lv b,(Val.chk v lv b).1 = 0) (hlen : l.length + (Val.enc v).length + 10 ≤ 1000000000) (hv : v.lens) :
  ACall Tryz.prog GT 84 [.ptr i 0,v.A] h fun u h' => u = .tup [] ∧ h' = ⟨h.b.set i (wtr ver (l ++ Val.enc v)),h.t⟩:=
 liftW (app_ne (enc_ne v)) (t_value v 0 ver l ⟨[wtr ver l],[]⟩ (.inl rfl) hz hlen hv) (by obtain ⟨k,n,s,is,ks⟩:=v; rfl) hb
theorem wf {h : Hp} {i : Nat} {ver : Int} {l : List UInt8} (hb : h.b[i]? = some (wtr ver l)) (b : Bool) (hlen : l.length + 10 ≤ 1000000000) :
  ACall Tryz.prog GT 131 [.ptr i 0,.bool b] h fun u h' => u = .tup [] ∧ h' = ⟨h.b.set i (wtr ver (l ++ Sf.flagE b)),h.t⟩:=by
 refine acall_of mixedT h_wflag (by simp [c_wflag]) ?_
 dsimp only [c_wflag]
 cases b
 ·refine run0 ti ?_
  refine use (wn hb _ hlen (by decide) (by decide)) ?_
  refine run0 ti ?_
  exact ⟨_,le_refl _,rfl,rfl⟩
 ·refine run0 ti ?_
  refine use (wn hb _ hlen (by decide) (by decide)) ?_
  refine run0 ti ?_
  exact ⟨_,le_refl _,rfl,rfl⟩
structure Sf.InstOk (x : Sf.Inst) : Prop where
 z : ∃ lv b,(Val.chk x.attrs lv b).1 = 0
 lens : x.attrs.lens
 v0 : -9223372036854775808 ≤ x.ver
 v1 : x.ver ≤ 9223372036854775807
theorem strE_le (s : List UInt8) : s.length ≤ (Wire.strE s).length:=by unfold Wire.strE; rw [List.length_append]; omega
theorem words_snoc (ds : List (List UInt8)) (j : Nat) (hj : j < ds.length) : Sf.wordsE (ds.take (j + 1)) = Sf.wordsE (ds.take j) ++ Wire.strE ds[j]:=by
 unfold Sf.wordsE
 rw [List.take_succ_eq_append_getElem hj,List.flatMap_append]; simp
theorem words_take_le (ds : List (List UInt8)) (j : Nat) : (Sf.wordsE (ds.take j)).length ≤ (Sf.wordsE ds).length:=by
 have : Sf.wordsE ds = Sf.wordsE (ds.take j) ++ Sf.wordsE (ds.drop j):=by unfold Sf.wordsE; rw [← List.flatMap_append,List.take_append_drop]
 rw [this,List.length_append]; omega
theorem w_inst {ver : Int} (hver : ver = 1 ∨ ver = 2) (x : Sf.Inst) (hx : Sf.InstOk x) (l : List UInt8) (hlen : l.length + (Sf.instE ver x).length + 20 ≤ 1000000000) {h : Hp} {i : Nat} (hb : h.b[i]? = some (wtr ver l)) :
  ACall Tryz.prog GT 130 [.ptr i 0,.agg x.cells] h fun u h' => u = .tup [] ∧ h' = ⟨h.b.set i (wtr ver (l ++ Sf.instE ver x)),h.t⟩:=by
 have key : ACall Tryz.prog GT 130 [.ptr 0 0,.agg x.cells] ⟨[wtr ver l],[]⟩ fun u h' => ∃ b',h'.b[0]? = some b' ∧ u = .tup [] ∧ b' = wtr ver (l ++ Sf.instE ver x):=by
  have hz:=hx.z
  have hl:=hx.lens
  have v0:=hx.v0
  have v1:=hx.v1
  obtain ⟨a,d,id,ty,⟨k,n,s,is,ks⟩,v,tn,fi,ds⟩:=x
  have hE : Sf.instE ver ⟨a,d,id,ty,.mk k n s is ks,v,tn,fi,ds⟩ = Wire.strE a ++ Wire.strE d ++ Wire.strE id ++ Wire.strE ty ++ Val.enc (.mk k n s is ks) ++ Wire.num v ++ Sf.flagE tn ++ (if ver = 2 then Sf.flagE fi else []) ++ Wire.num ds.length ++ Sf.wordsE ds:=rfl
  rw [hE] at hlen ⊢
  have la:=strE_le a
  have lb:=strE_le d
  have lc:=strE_le id
  have ld:=strE_le ty
  have hVA : (V.mk k n s is ks).A = .agg [.int .i64 k,.int .i64 n,.str s,.sl 5 .no (V.cellss is),.sl 1 .no (strsA ks)]:=by simp only [V.A,V.cells]
  have cv:=fun (m : List UInt8) (h : Hp) (hb : h.b[0]? = some (wtr ver m)) (hm : m.length + (Val.enc (.mk k n s is ks)).length + 10 ≤ 1000000000) => wv hb (.mk k n s is ks) hz hm hl
  rw [hVA] at cv
  simp only [List.length_append] at hlen
  obtain ⟨F,hF⟩ : ∃ F,(if ver = 2 then Sf.flagE fi else []) = F:=⟨_,rfl⟩
  rw [hF] at hlen ⊢
  have hdl : ds.length ≤ 1000000000:=by
   have : ∀ l : List (List UInt8),l.length ≤ (Sf.wordsE l).length:=by
    intro l
    induction l with
    | nil => simp
    | cons x l ih =>
     have h1 : Sf.wordsE (x :: l) = Wire.strE x ++ Sf.wordsE l:=by simp [Sf.wordsE]
     have h2 : (Wire.strE x).length ≠ 0:=fun e => strE_ne x (List.length_eq_zero_iff.1 e)
     rw [h1,List.length_append,List.length_cons]; omega
   have:=this ds; omega
  refine acall_of mixedT h_winst (by simp [c_winst]) ?_
  dsimp only [c_winst,Sf.Inst.cells]
  refine run0 ti ?_
  refine use (wt rfl a (by omega)) ?_
  refine run0 ti ?_
  refine use (wt rfl d (by simp only [List.length_append]; omega)) ?_
  refine run0 ti ?_
  refine use (wt rfl id (by simp only [List.length_append]; omega)) ?_
  refine run0 ti ?_
  refine use (wt rfl ty (by simp only [List.length_append]; omega)) ?_
  refine run0 ti ?_
  refine use (cv _ _ rfl (by simp only [List.length_append]; omega)) ?_
  refine run0 ti ?_
  refine use (wn rfl v (by simp only [List.length_append]; omega) v0 v1) ?_
  refine run0 ti ?_
  refine use (wf rfl tn (by simp only [List.length_append]; omega)) ?_
  have hv12 : ∀ {G : Prop},((ver == 2) = false → F = [] → G) → ((ver == 2) = true → F = Sf.flagE fi → G) → G:=fun p q => by
   rcases hver with rfl | rfl
   ·rw [if_neg (by decide)] at hF; exact p rfl hF.symm
   ·rw [if_pos rfl] at hF; exact q rfl hF.symm
  refine hv12 (fun e2 eF => ?_) (fun e2 eF => ?_)
  all_goals subst eF
  ·refine run0 (ai @wtr_ (ai e2 @strsA_length)) ?_
   refine use (wn rfl _ (by simp only [List.length_append]; omega) (by omega) (by omega)) ?_
   refine run0 @strsA_length ?_
   refine awp_loop (fun mm ts h => ∃ j : Nat,mm = ds.length - j ∧ j ≤ ds.length ∧ h = ⟨[wtr ver (l ++ Wire.strE a ++ Wire.strE d ++ Wire.strE id ++ Wire.strE ty ++ Val.enc (.mk k n s is ks) ++ Wire.num v ++ Sf.flagE tn ++ Wire.num ds.length ++ Sf.wordsE (ds.take j)),.cells 42 [.str a,.str d,.str id,.str ty,.int .i64 k,.int .i64 n,.str s,.sl 5 .no (V.cellss is),.sl 1 .no (strsA ks),.int .i64 v,.bool tn,.bool fi,.sl 1 .no (strsA ds)]],[]⟩ ∧ ts 0 = .ptr 0 0 ∧ ts 49 = .sl 1 .no (strsA ds) ∧ ts 50 = .int .i64 (ds.length : Nat) ∧ ts 51 = .int .i64 (j : Nat)) ds.length ?_ ?_
   ·exact ⟨0,by omega,by omega,by simp only [Sf.wordsE,List.take_zero,List.flatMap_nil,List.append_nil],by (exact ev0 ti),by (exact ev0 ti),by (exact ev0 @strsA_length),by (exact inv0 ti)⟩
   ·rintro mm ts h ⟨j,rfl,hjc,rfl,t0,t49,t50,t51⟩
    by_cases hj : j < ds.length
    ·have hlt : (j : Int) < (ds.length : Int):=by omega
     have ei : IntKind.i64.wrap ((j : Int) + 1) = ((j + 1 : Nat) : Int):=by rw [wrap64 (by omega) (by omega)]; omega
     have hg:=strsA_get ds j hj
     have hlt' : (j : Int) < ((strsA ds).length : Int):=by rw [strsA_length]; exact hlt
     have hj0 : (0 : Int) ≤ (j : Int):=by omega
     have ht:=words_take_le ds (j + 1)
     rw [words_snoc ds j hj,List.length_append] at ht
     have hsl:=strE_le ds[j]
     refine run0 (ai t0 (ai t49 (ai t50 (ai t51 (ai hlt (ai hg (ai hlt' hj0))))))) ?_
     refine use (wt rfl ds[j] (by simp only [List.length_append]; omega)) ?_
     refine run0 (ai t0 (ai t49 (ai t50 (ai t51 ei)))) ?_
     exact ⟨ds.length - (j + 1),by omega,j + 1,rfl,by omega,by rw [words_snoc ds j hj]; simp only [List.append_assoc],by (exact ev0 t0),by (exact ev0 t49),by (exact ev0 t50),by (exact ev0 ei)⟩
    ·have hlt : ¬ ((j : Int) < (ds.length : Int)):=by omega
     have hjl : j = ds.length:=by omega
     subst hjl
     refine run0 (ai t0 (ai t49 (ai t50 (ai t51 hlt)))) ?_
     exact ⟨_,le_refl _,_,rfl,rfl,by simp only [List.take_length,List.append_assoc,List.nil_append]⟩
  ·refine run0 (ai @wtr_ e2) ?_
   refine use (wf rfl fi (by simp only [List.length_append]; omega)) ?_
   refine run0 @strsA_length ?_
   refine use (wn rfl _ (by simp only [List.length_append]; omega) (by omega) (by omega)) ?_
   refine run0 @strsA_length ?_
   refine awp_loop (fun mm ts h => ∃ j : Nat,mm = ds.length - j ∧ j ≤ ds.length ∧ h = ⟨[wtr ver (l ++ Wire.strE a ++ Wire.strE d ++ Wire.strE id ++ Wire.strE ty ++ Val.enc (.mk k n s is ks) ++ Wire.num v ++ Sf.flagE tn ++ Sf.flagE fi ++ Wire.num ds.length ++ Sf.wordsE (ds.take j)),.cells 42 [.str a,.str d,.str id,.str ty,.int .i64 k,.int .i64 n,.str s,.sl 5 .no (V.cellss is),.sl 1 .no (strsA ks),.int .i64 v,.bool tn,.bool fi,.sl 1 .no (strsA ds)]],[]⟩ ∧ ts 0 = .ptr 0 0 ∧ ts 49 = .sl 1 .no (strsA ds) ∧ ts 50 = .int .i64 (ds.length : Nat) ∧ ts 51 = .int .i64 (j : Nat)) ds.length ?_ ?_
   ·exact ⟨0,by omega,by omega,by simp only [Sf.wordsE,List.take_zero,List.flatMap_nil,List.append_nil],by (exact ev0 ti),by (exact ev0 ti),by (exact ev0 @strsA_length),by (exact inv0 ti)⟩
   ·rintro mm ts h ⟨j,rfl,hjc,rfl,t0,t49,t50,t51⟩
    by_cases hj : j < ds.length
    ·have hlt : (j : Int) < (ds.length : Int):=by omega
     have ei : IntKind.i64.wrap ((j : Int) + 1) = ((j + 1 : Nat) : Int):=by rw [wrap64 (by omega) (by omega)]; omega
     have hg:=strsA_get ds j hj
     have hlt' : (j : Int) < ((strsA ds).length : Int):=by rw [strsA_length]; exact hlt
     have hj0 : (0 : Int) ≤ (j : Int):=by omega
     have ht:=words_take_le ds (j + 1)
     rw [words_snoc ds j hj,List.length_append] at ht
     have hsl:=strE_le ds[j]
     refine run0 (ai t0 (ai t49 (ai t50 (ai t51 (ai hlt (ai hg (ai hlt' hj0))))))) ?_
     refine use (wt rfl ds[j] (by simp only [List.length_append]; omega)) ?_
     refine run0 (ai t0 (ai t49 (ai t50 (ai t51 ei)))) ?_
     exact ⟨ds.length - (j + 1),by omega,j + 1,rfl,by omega,by rw [words_snoc ds j hj]; simp only [List.append_assoc],by (exact ev0 t0),by (exact ev0 t49),by (exact ev0 t50),by (exact ev0 ei)⟩
    ·have hlt : ¬ ((j : Int) < (ds.length : Int)):=by omega
     have hjl : j = ds.length:=by omega
     subst hjl
     refine run0 (ai t0 (ai t49 (ai t50 (ai t51 hlt)))) ?_
     exact ⟨_,le_refl _,_,rfl,rfl,by simp only [List.take_length,List.append_assoc,List.nil_append]⟩
 refine (ACall.lift1 key (by obtain ⟨a,d,id,ty,⟨k,n,s,is,ks⟩,v,tn,fi,ds⟩:=x; rfl) (wtr_loc ver l) ?_ hb).mono ?_
 ·rintro u b' ⟨rfl,rfl⟩
  exact ⟨rfl,wtr_loc _ _⟩
 ·rintro u h' ⟨b',⟨rfl,rfl⟩,rfl⟩
  exact ⟨rfl,rfl⟩
end AX
end Go.Proofs.YtnjkemakcejceaaGreatDoor
