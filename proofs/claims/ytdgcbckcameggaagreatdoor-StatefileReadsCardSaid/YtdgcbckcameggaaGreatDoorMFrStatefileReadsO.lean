/- Part of what the proof needs. -/
import Derived.Test.YtdgcbckcameggaaGreatDoorMFrStatefileReadsF
import Derived.Test.YtdgcbckcameggaaGreatDoorMFrStatefileReadsI
import Derived.Test.YtdgcbckcameggaaGreatDoorMFrStatefileReadsN
set_option maxHeartbeats 4000000
set_option linter.unusedSimpArgs false
set_option linter.unusedVariables false
set_option linter.unnecessarySimpa false
namespace Go.Proofs.YtdgcbckcameggaaGreatDoor
open Go.RowKit
namespace Sf
def Inst.cells:Inst→List AX.A
 | ⟨a,d,i,t,.mk k n s is ks,v,tn,fi,ds⟩=>[.str a,.str d,.str i,.str t,.int .i64 k,.int .i64 n,.str s,.sl 5 .no (V.cellss is),.sl 1 .no (strsA ks),.int .i64 v,.bool tn,.bool fi,.sl 1 .no (strsA ds)]
def Pend.cells (p:Pend):List AX.A:=[.str p.addr,.str p.typ,.str p.tok]
def Outp.cells:Outp→List AX.A
 | ⟨m,.mk k n s is ks,b⟩=>[.str m,.int .i64 k,.int .i64 n,.str s,.sl 5 .no (V.cellss is),.sl 1 .no (strsA ks),.bool b]
def St.A (s:St):AX.A:=.agg [.str s.lin,.int .i64 s.ser,.sl 13 .no (s.insts.map Inst.cells),.sl 3 .no (s.pends.map Pend.cells),.sl 7 .no (s.outs.map Outp.cells)]
end Sf
namespace Val
theorem readValue_le (r:Wire.St):(readValue r).1.rest.length≤r.rest.length:=by
 have:=read_le 32 r
 unfold readValue
 dsimp only
 split
 ·exact this
 ·split <;> exact this
end Val
namespace Sf
theorem strS_le (s:Rs):(strS s).1.r.rest.length≤s.r.rest.length:=Wire.strR_rest _
theorem numS_le (s:Rs):(numS s).1.r.rest.length≤s.r.rest.length:=Wire.numR_rest _
theorem cntS_le (s:Rs):(cntS s).1.r.rest.length≤s.r.rest.length:=Wire.cntR_rest _ _
theorem cntS_cnt (s:Rs):(cntS s).2≤s.r.rest.length:=Wire.cntR_cnt _
theorem flagS_le (s:Rs):(flagS s).1.r.rest.length≤s.r.rest.length:=Wire.numR_rest _
theorem valueS_le (s:Rs):(valueS s).1.r.rest.length≤s.r.rest.length:=Val.readValue_le _
theorem wordsS_le:∀ (c:Nat) (s:Rs) (l:List (List UInt8)),(wordsS c s l).1.r.rest.length≤s.r.rest.length
 | 0,s,l=>Nat.le_refl _
 | c+1,s,l=>Nat.le_trans (wordsS_le c _ _) (strS_le s)
end Sf
namespace AX
def RB (ver:Int) (bad:Bool):Blk:=.cells 49 [.ptr 1 0,.int .i64 ver,.bool bad]
theorem liftR {P:Program} {G:World→Prop} {f:FuncId} {args:List A} {ver:Int} {s s':Sf.Rs} {v:A} (hc:ACall P G f (.ptr 0 0::args) ⟨[RB ver s.bad,rdr s.r],[]⟩ fun v' h'=>v'=v∧h'.b[0]?=some (RB ver s'.bad)∧h'.b[1]?=some (rdr s'.r)) (ha:A.locL 0 args=true) (hv:v.loc 0=true) (l:List Blk) (t:List (TypeId×Nat×Nat)) :
  ACall P G f (.ptr 0 0::args) ⟨RB ver s.bad::rdr s.r::l,t⟩ fun v' h'=>v'=v∧h'=⟨RB ver s'.bad::rdr s'.r::l,t⟩:=by
 have key:=ACall.lift hc (fun i=>i) (fun a b _ _ e=>e) (by unfold A.locL; rw [(A.locL0 _ args ha).1]; rfl)
  (fun x hx=>by
   rcases List.mem_cons.1 hx with rfl | hx
   ·rfl
   ·rw [List.mem_singleton.1 hx]; rfl)
  (fun v' h' ⟨e,h0,h1⟩=>⟨by rw [e]; exact (A.loc0 _ v hv).1,fun j x hj hx=>by
   have:j=0∨j=1:=by simp only [List.length_cons,List.length_nil] at hj; omega
   rcases this with rfl | rfl
   ·rw [h0] at hx; injection hx with hx; subst hx; rfl
   ·rw [h1] at hx; injection hx with hx; subst hx; rfl⟩)
  (h:=⟨RB ver s.bad::rdr s.r::l,t⟩) (fun j hj=>by
   have:j=0∨j=1:=by simp only [List.length_cons,List.length_nil] at hj; omega
   rcases this with rfl | rfl <;> rfl)
 have e:A.renL (fun i=>i) (.ptr 0 0::args) = .ptr 0 0::args:=by unfold A.renL; rw [(A.locL0 0 args ha).2]; rfl
 rw [e] at key
 refine key.mono ?_
 rintro v' h' ⟨v0,⟨b0,t0⟩,⟨rfl,h0,h1⟩,rfl,rfl⟩
 refine ⟨(A.loc0 0 _ hv).2 _,?_⟩
 match b0,h0,h1 with
 | x::y::b,h0,h1 =>
  simp only [List.getElem?_cons_zero,List.getElem?_cons_succ,Option.some.injEq] at h0 h1
  subst h0; subst h1
  rfl
def c_rflag:AX.AFn:=⟨26,aS [aR 2 (.mv (.c (.bool false)))] (aS [aM 4 0,aR 5 (.nilck (.t 4)),aF 6 0 5,aL 7 6,aR 8 (.call 16 [.t 7]),aM 3 8] (aS [aM 9 0,aM 10 0,aR 11 (.nilck (.t 10)),aF 12 2 11,aL 13 12,aM 14 13,aG 15 (.mv (.t 3)) 14 false,aG 16 (.bin .neq (.t 15) (aI 0)) 14 false,aG 17 (.mv (.t 16)) 14 false,aG 18 (.mv (.t 3)) 17 true,aG 19 (.bin .neq (.t 18) (aI 1)) 17 true,aG 20 (.pick (.t 17) (.t 19) (.c (.bool false))) 14 false,aR 21 (.pick (.t 14) (.c (.bool true)) (.t 20)),aR 22 (.nilck (.t 9)),aF 23 2 22,aU (.store 1 (.t 23) (.t 21))] (aS [aM 24 3,aR 25 (.bin .eql (.t 24) (aI 1)),aM 2 25] (.ret)))),[.t 2]⟩
theorem h_rflag:AX.compFn Tryz.prog 42=some c_rflag:=by kernel_rfl
def c_rvalue:AX.AFn:=⟨25,aS [aR 2 (.alloc 42 [.int .i64 0,.int .i64 0,.str [],.sl 0 .nil [],.sl 0 .nil []])] (aS [aM 6 0,aR 7 (.nilck (.t 6)),aF 8 0 7,aL 9 8,aR 10 (.call 67 [.t 9]),aM 5 10,aE 11 5 0,aE 12 5 1,aR 3 (.alloc 42 [.int .i64 0,.int .i64 0,.str [],.sl 0 .nil [],.sl 0 .nil []]),aU (.store 5 (.t 3) (.t 11)),aM 4 12] (aS [aM 13 0,aM 14 0,aR 15 (.nilck (.t 14)),aF 16 2 15,aL 17 16,aM 18 17,aG 19 (.mv (.t 4)) 18 false,aG 20 (.bin .neq (.t 19) (aI 0)) 18 false,aR 21 (.pick (.t 18) (.c (.bool true)) (.t 20)),aR 22 (.nilck (.t 13)),aF 23 2 22,aU (.store 1 (.t 23) (.t 21))] (aS [aR 24 (.load true 5 (.t 3)),aU (.store 5 (.t 2) (.t 24))] (.ret)))),[.c 2 true 5]⟩
theorem h_rvalue:AX.compFn Tryz.prog 41=some c_rvalue:=by kernel_rfl
def c_rfails:AX.AFn:=⟨15,aS [aR 2 (.mv (.c (.bool false)))] (aS [aM 3 0,aR 4 (.nilck (.t 3)),aF 5 2 4,aL 6 5,aM 7 6,aG 8 (.mv (.t 0)) 7 false,aG 9 (.nilck (.t 8)) 7 false,aG 10 (.faddr 0 (.t 9)) 7 false,aG 11 (.load false 1 (.t 10)) 7 false,aG 12 (.call 25 [.t 11]) 7 false,aG 13 (.bin .neq (.t 12) (aI 0)) 7 false,aR 14 (.pick (.t 7) (.c (.bool true)) (.t 13)),aM 2 14] (.ret)),[.t 2]⟩
theorem h_rfails:AX.compFn Tryz.prog 18=some c_rfails:=by kernel_rfl
theorem a_rflag {ver:Int} (s:Sf.Rs) (hl:s.r.rest.length≤100000000) (l:List Blk) (t:List (TypeId×Nat×Nat)) :
  ACall Tryz.prog GT 42 [.ptr 0 0] ⟨RB ver s.bad::rdr s.r::l,t⟩ fun v h'=>v = .bool (Sf.flagS s).2∧h'=⟨RB ver (Sf.flagS s).1.bad::rdr (Sf.flagS s).1.r::l,t⟩:=by
 refine liftR ?_ rfl rfl l t
 refine acall_of mixedT h_rflag (by simp [c_rflag]) ?_
 dsimp only [c_rflag]
 unfold RB
 refine run0 ti ?_
 refine use (a_number (i:=1) (r:=s.r) rfl hl) ?_
 obtain ⟨q,hq⟩:∃ q,Wire.numR s.r=q:=⟨_,rfl⟩
 have hF:Sf.flagS s=(⟨q.1,s.bad||(q.2 != 0&&q.2 != 1)⟩,q.2 == 1):=by unfold Sf.flagS; rw [hq]
 rw [hq,hF]
 rcases bool_or s.bad with e0 | e0
 ·rw [e0]
  refine run0 ti ?_
  exact ⟨_,le_refl _,rfl,rfl,rfl⟩
 ·rw [e0]
  rcases bool_or (q.2 != 0) with e1 | e1
  ·refine run0 e1 ?_
   exact ⟨_,le_refl _,rfl,by rw [e1]; rfl,rfl⟩
  ·refine run0 e1 ?_
   exact ⟨_,le_refl _,rfl,by rw [e1]; rfl,rfl⟩
theorem a_rfails {ver:Int} (s:Sf.Rs) (l:List Blk) (t:List (TypeId×Nat×Nat)) :
  ACall Tryz.prog GT 18 [.ptr 0 0] ⟨RB ver s.bad::rdr s.r::l,t⟩ fun v h'=>v = .bool s.fails∧h'=⟨RB ver s.bad::rdr s.r::l,t⟩:=by
 refine acall_of mixedT h_rfails (by simp [c_rfails]) ?_
 dsimp only [c_rfails]
 unfold RB
 unfold Sf.Rs.fails
 rcases bool_or s.bad with e0 | e0
 ·rw [e0]
  refine run0 ti ?_
  exact ⟨_,le_refl _,rfl,rfl⟩
 ·rw [e0]
  refine run0 ti ?_
  refine use (a_err (i:=1) (r:=s.r) rfl) ?_
  refine run0 ti ?_
  exact ⟨_,le_refl _,rfl,rfl⟩
theorem a_rvalue {ver:Int} (s:Sf.Rs) (hl:s.r.rest.length≤100000000) (l:List Blk) (t:List (TypeId×Nat×Nat)) :
  ACall Tryz.prog GT 41 [.ptr 0 0] ⟨RB ver s.bad::rdr s.r::l,t⟩ fun v h'=>v=(Sf.valueS s).2.A∧h'=⟨RB ver (Sf.valueS s).1.bad::rdr (Sf.valueS s).1.r::l,t⟩:=by
 obtain ⟨⟨x1,x2,x3⟩,hx⟩:∃ x,Val.readValue s.r=x:=⟨_,rfl⟩
 have hF:Sf.valueS s=(⟨x1,s.bad||x2 != 0⟩,x3):=by unfold Sf.valueS; rw [hx]
 have hrd:=a_readValue1 (i:=1) (r:=s.r) (h:=⟨[RB ver s.bad,rdr s.r,.cells 42 [.int .i64 0,.int .i64 0,.str [],.sl 0 .nil [],.sl 0 .nil []]],[]⟩) rfl hl
 rw [hx] at hrd
 rw [hF]
 obtain ⟨k,n,w,is,ks⟩:=x3
 have hVA:(V.mk k n w is ks).A = .agg [.int .i64 k,.int .i64 n,.str w,.sl 5 .no (V.cellss is),.sl 1 .no (strsA ks)]:=by simp only [V.A,V.cells]
 dsimp only at hrd ⊢
 rw [hVA] at hrd ⊢
 unfold RB at hrd
 refine liftR (s':=⟨x1,s.bad||x2 != 0⟩) ?_ rfl rfl l t
 refine acall_of mixedT h_rvalue (by simp [c_rvalue]) ?_
 dsimp only [c_rvalue]
 unfold RB
 refine run0 ti ?_
 refine use hrd ?_
 rcases bool_or s.bad with e0 | e0
 ·rw [e0]
  refine run0 ti ?_
  exact ⟨_,le_refl _,rfl,rfl,rfl⟩
 ·rw [e0]
  refine run0 ti ?_
  exact ⟨_,le_refl _,rfl,rfl,rfl⟩
def ZI:Blk:=.cells 63 [.str [],.str [],.str [],.str [],.int .i64 0,.int .i64 0,.str [],.sl 0 .nil [],.sl 0 .nil [],.int .i64 0,.bool false,.bool false,.sl 0 .nil []]
def IB (a b c d:List UInt8) (v:List A) (n:Int) (tn fi:Bool) (x:A):Blk:=.cells 63 ([.str a,.str b,.str c,.str d]++v++[.int .i64 n,.bool tn,.bool fi,x])
theorem a_rinst {ver:Int} (hver:ver=1∨ver=2) (s:Sf.Rs) (hl:s.r.rest.length≤100000000) (l:List Blk) (t:List (TypeId×Nat×Nat)) :
  ACall Tryz.prog GT 40 [.ptr 0 0] ⟨RB ver s.bad::rdr s.r::l,t⟩ fun v h'=>v = .agg (Sf.instS ver s).2.cells∧h'=⟨RB ver (Sf.instS ver s).1.bad::rdr (Sf.instS ver s).1.r::l,t⟩:=by
 refine liftR (s':=(Sf.instS ver s).1) (v:=.agg (Sf.instS ver s).2.cells) ?_ rfl ?_ l t
 rotate_left
 ·obtain ⟨a,d,i,ty,⟨k,n,w,is,ks⟩,v,tn,fi,ds⟩:=(Sf.instS ver s).2
  rfl
 refine fo ?_
 unfold RB
 obtain ⟨⟨r1,x1⟩,h1⟩:∃ q,Wire.strR s.r=q:=⟨_,rfl⟩
 have l1:=Wire.strR_rest s.r
 rw [h1] at l1
 obtain ⟨⟨r2,x2⟩,h2⟩:∃ q,Wire.strR r1=q:=⟨_,rfl⟩
 have l2:=Wire.strR_rest r1
 rw [h2] at l2
 obtain ⟨⟨r3,x3⟩,h3⟩:∃ q,Wire.strR r2=q:=⟨_,rfl⟩
 have l3:=Wire.strR_rest r2
 rw [h3] at l3
 obtain ⟨⟨r4,x4⟩,h4⟩:∃ q,Wire.strR r3=q:=⟨_,rfl⟩
 have l4:=Wire.strR_rest r3
 rw [h4] at l4
 dsimp only at l1 l2 l3 l4
 have str:∀ (r r':Wire.St) (x:List UInt8) (h:Hp),Wire.strR r=(r',x)→h.b[1]?=some (rdr r)→r.rest.length≤100000000→ACall Tryz.prog GT 38 [.ptr 1 0] h fun v h'=>v = .str x∧h'=⟨h.b.set 1 (rdr r'),h.t⟩:=fun r r' x h e hb hl=>by
  have:=a_rstring hb hl
  rw [e] at this; exact this
 refine run0 ti ?_
 refine go_gen [4,9,14,19,22] 21 [⟨[.cells 49 [.ptr 1 0,.int .i64 ver,.bool s.bad],rdr s.r,.cells 63 [.str [],.str [],.str [],.str [],.int .i64 0,.int .i64 0,.str [],.sl 0 .nil [],.sl 0 .nil [],.int .i64 0,.bool false,.bool false,.sl 0 .nil []]],[]⟩,⟨[.cells 49 [.ptr 1 0,.int .i64 ver,.bool s.bad],rdr r1,.cells 63 [.str [],.str [],.str [],.str [],.int .i64 0,.int .i64 0,.str [],.sl 0 .nil [],.sl 0 .nil [],.int .i64 0,.bool false,.bool false,.sl 0 .nil []]],[]⟩,⟨[.cells 49 [.ptr 1 0,.int .i64 ver,.bool s.bad],rdr r2,.cells 63 [.str [],.str [],.str [],.str [],.int .i64 0,.int .i64 0,.str [],.sl 0 .nil [],.sl 0 .nil [],.int .i64 0,.bool false,.bool false,.sl 0 .nil []]],[]⟩,⟨[.cells 49 [.ptr 1 0,.int .i64 ver,.bool s.bad],rdr r3,.cells 63 [.str [],.str [],.str [],.str [],.int .i64 0,.int .i64 0,.str [],.sl 0 .nil [],.sl 0 .nil [],.int .i64 0,.bool false,.bool false,.sl 0 .nil []]],[]⟩,⟨[.cells 49 [.ptr 1 0,.int .i64 ver,.bool s.bad],rdr r4,.cells 63 [.str [],.str [],.str [],.str [],.int .i64 0,.int .i64 0,.str [],.sl 0 .nil [],.sl 0 .nil [],.int .i64 0,.bool false,.bool false,.sl 0 .nil []]],[]⟩,⟨[],[]⟩,⟨[.cells 49 [.ptr 1 0,.int .i64 ver,.bool s.bad],rdr s.r,.cells 63 [.str [],.str [],.str [],.str [],.int .i64 0,.int .i64 0,.str [],.sl 0 .nil [],.sl 0 .nil [],.int .i64 0,.bool false,.bool false,.sl 0 .nil []],.cells 63 [.str [],.str [],.str [],.str [],.int .i64 0,.int .i64 0,.str [],.sl 0 .nil [],.sl 0 .nil [],.int .i64 0,.bool false,.bool false,.sl 0 .nil []]],[]⟩,⟨[.cells 49 [.ptr 1 0,.int .i64 ver,.bool s.bad],rdr r1,.cells 63 [.str [],.str [],.str [],.str [],.int .i64 0,.int .i64 0,.str [],.sl 0 .nil [],.sl 0 .nil [],.int .i64 0,.bool false,.bool false,.sl 0 .nil []],.cells 63 [.str [],.str [],.str [],.str [],.int .i64 0,.int .i64 0,.str [],.sl 0 .nil [],.sl 0 .nil [],.int .i64 0,.bool false,.bool false,.sl 0 .nil []]],[]⟩,⟨[.cells 49 [.ptr 1 0,.int .i64 ver,.bool s.bad],rdr r2,.cells 63 [.str [],.str [],.str [],.str [],.int .i64 0,.int .i64 0,.str [],.sl 0 .nil [],.sl 0 .nil [],.int .i64 0,.bool false,.bool false,.sl 0 .nil []],.cells 63 [.str [],.str [],.str [],.str [],.int .i64 0,.int .i64 0,.str [],.sl 0 .nil [],.sl 0 .nil [],.int .i64 0,.bool false,.bool false,.sl 0 .nil []]],[]⟩,⟨[.cells 49 [.ptr 1 0,.int .i64 ver,.bool s.bad],rdr r3,.cells 63 [.str [],.str [],.str [],.str [],.int .i64 0,.int .i64 0,.str [],.sl 0 .nil [],.sl 0 .nil [],.int .i64 0,.bool false,.bool false,.sl 0 .nil []],.cells 63 [.str [],.str [],.str [],.str [],.int .i64 0,.int .i64 0,.str [],.sl 0 .nil [],.sl 0 .nil [],.int .i64 0,.bool false,.bool false,.sl 0 .nil []]],[]⟩,⟨[.cells 49 [.ptr 1 0,.int .i64 ver,.bool s.bad],rdr r4,.cells 63 [.str [],.str [],.str [],.str [],.int .i64 0,.int .i64 0,.str [],.sl 0 .nil [],.sl 0 .nil [],.int .i64 0,.bool false,.bool false,.sl 0 .nil []],.cells 63 [.str [],.str [],.str [],.str [],.int .i64 0,.int .i64 0,.str [],.sl 0 .nil [],.sl 0 .nil [],.int .i64 0,.bool false,.bool false,.sl 0 .nil []]],[]⟩,⟨[.cells 49 [.ptr 1 0,.int .i64 ver,.bool s.bad],rdr r4,.cells 63 [.str [],.str [],.str [],.str [],.int .i64 0,.int .i64 0,.str [],.sl 0 .nil [],.sl 0 .nil [],.int .i64 0,.bool false,.bool false,.sl 0 .nil []],.cells 63 [.str x1,.str x2,.str x3,.str x4,.int .i64 0,.int .i64 0,.str [],.sl 0 .nil [],.sl 0 .nil [],.int .i64 0,.bool false,.bool false,.sl 0 .nil []]],[]⟩] [[0,6],[0,6],[0,6],[0,6],[0,6],[0,1,6,7],[0,1,6,7],[0,1,6,7],[0,1,6,7],[1,7],[0,1,2,6,7,8],[0,1,2,6,7,8],[0,1,2,6,7,8],[0,1,2,6,7,8],[2,8],[0,1,2,3,6,7,8,9],[0,1,2,3,6,7,8,9],[0,1,2,3,6,7,8,9],[0,1,2,3,6,7,8,9],[3,9],[4,10],[0,1,2,3,4],[10]] rfl (by decide +kernel) ?_
 refine AX.rung ti ?_
 refine gn_call (vs:=[.ptr 1 0]) (by (exact ev0 ti)) ⟨str s.r r1 x1 _ h1 rfl (by omega),str s.r r1 x1 _ h1 rfl (by omega),trivial⟩ ?_
 refine AX.rung ti ?_
 refine gn_call (vs:=[.ptr 1 0]) (by (exact ev0 ti)) ⟨str r1 r2 x2 _ h2 rfl (by omega),str r1 r2 x2 _ h2 rfl (by omega),trivial⟩ ?_
 refine AX.rung ti ?_
 refine gn_call (vs:=[.ptr 1 0]) (by (exact ev0 ti)) ⟨str r2 r3 x3 _ h3 rfl (by omega),str r2 r3 x3 _ h3 rfl (by omega),trivial⟩ ?_
 refine AX.rung ti ?_
 refine gn_call (vs:=[.ptr 1 0]) (by (exact ev0 ti)) ⟨str r3 r4 x4 _ h4 rfl (by omega),str r3 r4 x4 _ h4 rfl (by omega),trivial⟩ ?_
 refine AX.rung ti ?_
 obtain ⟨⟨⟨r5,b5⟩,xv⟩,h5⟩:∃ q,Sf.valueS ⟨r4,s.bad⟩=q:=⟨_,rfl⟩
 have c5:=a_rvalue (ver:=ver) ⟨r4,s.bad⟩ (by dsimp only; omega) [ZI,IB x1 x2 x3 x4 [.int .i64 0,.int .i64 0,.str [],.sl 0 .nil [],.sl 0 .nil []] 0 false false (.sl 0 .nil [])] []
 have l5:=Sf.valueS_le ⟨r4,s.bad⟩
 rw [h5] at c5 l5
 obtain ⟨vk,vn,vs,vi,vy⟩:=xv
 have hVA:(V.mk vk vn vs vi vy).A = .agg [.int .i64 vk,.int .i64 vn,.str vs,.sl 5 .no (V.cellss vi),.sl 1 .no (strsA vy)]:=by simp only [V.A,V.cells]
 dsimp only at c5 l5
 rw [hVA] at c5
 unfold RB ZI IB at c5
 refine run0 ti ?_
 refine use c5 ?_
 refine run0 ti ?_
 refine use (a_number (i:=1) (r:=r5) rfl (by omega)) ?_
 have l6:=Wire.numR_rest r5
 obtain ⟨⟨r6,x6⟩,h6⟩:∃ q,Wire.numR r5=q:=⟨_,rfl⟩
 rw [h6] at l6 ⊢
 dsimp only at l6 ⊢
 obtain ⟨⟨⟨r7,b7⟩,x7⟩,h7⟩:∃ q,Sf.flagS ⟨r6,b5⟩=q:=⟨_,rfl⟩
 have l7:=Sf.flagS_le ⟨r6,b5⟩
 have c7:=a_rflag (ver:=ver) ⟨r6,b5⟩ (by dsimp only; omega) [ZI,IB x1 x2 x3 x4 [.int .i64 vk,.int .i64 vn,.str vs,.sl 5 .no (V.cellss vi),.sl 1 .no (strsA vy)] x6 false false (.sl 0 .nil [])] []
 rw [h7] at c7 l7
 dsimp only at c7 l7
 unfold RB ZI IB at c7
 simp only [List.cons_append,List.nil_append] at c7
 refine run0 ti ?_
 refine use c7 ?_
 have fin:∀ (r8:Wire.St) (b8 x8:Bool) (c0:Wire.St×Nat) (rr:Wire.St) (bw:Bool) (ds:List (List UInt8)),(if ver=2 then Sf.flagS ⟨r7,b7⟩ else (⟨r7,b7⟩,false))=(⟨r8,b8⟩,x8)→Wire.cntR r8 1=c0→Sf.wordsS c0.2 ⟨c0.1,b8⟩ []=(⟨rr,bw⟩,ds)→Sf.instS ver s=(⟨rr,bw⟩,⟨x1,x2,x3,x4,.mk vk vn vs vi vy,x6,x7,x8,ds⟩):=by
  intro r8 b8 x8 c0 rr bw ds h8 hc hw
  unfold Sf.instS Sf.strS Sf.numS Sf.cntS
  simp only [h1,h2,h3,h4,h5,h6,h7,h8,hc,hw]
 have branch:∃ (r8:Wire.St) (b8 x8:Bool),(if ver=2 then Sf.flagS ⟨r7,b7⟩ else (⟨r7,b7⟩,false))=(⟨r8,b8⟩,x8)∧r8.rest.length≤r7.rest.length:=by
  by_cases hv:ver=2
  ·rw [if_pos hv]; exact ⟨(Sf.flagS ⟨r7,b7⟩).1.r,(Sf.flagS ⟨r7,b7⟩).1.bad,(Sf.flagS ⟨r7,b7⟩).2,rfl,Sf.flagS_le _⟩
  ·rw [if_neg hv]; exact ⟨r7,b7,false,rfl,Nat.le_refl _⟩
 obtain ⟨r8,b8,x8,h8,l8⟩:=branch
 have hfin:=fin r8 b8 x8
 have c8:=a_rflag (ver:=ver) ⟨r7,b7⟩ (by dsimp only; omega) [ZI,IB x1 x2 x3 x4 [.int .i64 vk,.int .i64 vn,.str vs,.sl 5 .no (V.cellss vi),.sl 1 .no (strsA vy)] x6 x7 false (.sl 0 .nil [])] []
 unfold RB ZI IB at c8
 simp only [List.cons_append,List.nil_append] at c8
 have hv12:∀ {G:Prop},(((ver == 2)=false)→r8=r7→b8=b7→x8=false→G)→((ver == 2)=true→Sf.flagS ⟨r7,b7⟩=(⟨r8,b8⟩,x8)→G)→G:=fun a b=>by
  rcases hver with rfl | rfl
  ·rw [if_neg (by decide)] at h8
   injection h8 with h8 h9
   injection h8 with h8 h10
   exact a rfl h8.symm h10.symm h9.symm
  ·rw [if_pos rfl] at h8
   exact b rfl h8
 have hval:=h8
 refine hv12 (fun e2 er eb ex=>?_) (fun e2 hf=>?_)
 ·refine run0 e2 ?_
  subst er; subst eb; subst ex
  refine use (a_count (i:=1) (r:=r8) rfl (by omega)) ?_
  have lc:=Wire.cntR_rest r8 1
  have lk:=Wire.cntR_cnt r8
  obtain ⟨⟨rc,c⟩,hc⟩:∃ q,Wire.cntR r8 1=q:=⟨_,rfl⟩
  rw [hc] at lc lk ⊢
  dsimp only at lc lk ⊢
  obtain ⟨⟨⟨rr,bw⟩,dw⟩,hw⟩:∃ q,Sf.wordsS c ⟨rc,b8⟩ []=q:=⟨_,rfl⟩
  refine run0 ti ?_
  refine awp_loop (fun mm ts h=>∃ (j:Nat) (p:Wire.St) (ds:List (List UInt8)) (W:Nat) (o:Own) (t:List (TypeId×Nat×Nat)),mm=c - j∧j≤c ∧
   h=⟨[.cells 49 [.ptr 1 0,.int .i64 ver,.bool b8],rdr p,.cells 63 [.str [],.str [],.str [],.str [],.int .i64 0,.int .i64 0,.str [],.sl 0 .nil [],.sl 0 .nil [],.int .i64 0,.bool false,.bool false,.sl 0 .nil []],.cells 63 [.str x1,.str x2,.str x3,.str x4,.int .i64 vk,.int .i64 vn,.str vs,.sl 5 .no (V.cellss vi),.sl 1 .no (strsA vy),.int .i64 x6,.bool x7,.bool false,.sl W o (strsA ds)]],t⟩ ∧
   Sf.wordsS (c - j) ⟨p,b8⟩ ds=(⟨rr,bw⟩,dw)∧ds.length=j∧p.rest.length≤rc.rest.length∧Gs 9 1 0 ⟨[],t⟩ (strsA ds) (.sl W o (strsA ds)) ∧
   ts 0 = .ptr 0 0∧ts 2 = .ptr 2 0∧ts 3 = .ptr 3 0∧ts 49 = .int .i64 (c:Nat)∧ts 50 = .int .i64 (j:Nat)) c ?_ ?_
  ·exact ⟨0,rc,[],0,.nil,[],by omega,by omega,rfl,hw,rfl,Nat.le_refl _,.inl ⟨rfl,rfl⟩,by (exact ev0 ti),by (exact ev0 ti),by (exact ev0 ti),by (exact ev0 ti),by (exact inv0 ti)⟩
  ·rintro mm ts h ⟨j,p,ds,W,o,t,rfl,hjc,rfl,hit,hdl,hpl,gX,t0,t2,t3,t49,t50⟩
   by_cases hj:j < c
   ·have hlt:(j:Int) < (c:Int):=by omega
    have ei:IntKind.i64.wrap ((j:Int)+1)=((j+1:Nat):Int):=by rw [wrap64 (by omega) (by omega)]; omega
    have lp:=Wire.strR_rest p
    have cp:=fun h hb=>str p (Wire.strR p).1 (Wire.strR p).2 h rfl hb (by omega)
    obtain ⟨⟨p2,s2⟩,hp2⟩:∃ q,Wire.strR p=q:=⟨_,rfl⟩
    have hstep:Sf.wordsS (c - (j+1)) ⟨p2,b8⟩ (ds++[s2])=(⟨rr,bw⟩,dw):=by
     rw [show c - j=(c - (j+1))+1 by omega,Sf.wordsS] at hit
     unfold Sf.strS at hit
     simp only [hp2] at hit
     exact hit
    rw [hp2] at lp cp
    dsimp only at lp cp
    obtain ⟨W',o',t',hX,gX',_⟩:=gX.grow 16 [.str s2] (by rw [strsA_length]; omega) (by decide)
    rw [←strsA_app] at gX'
    simp only [←strsA_app] at hX
    refine run0 (ai t0 (ai t2 (ai t3 (ai t49 (ai t50 hlt))))) ?_
    refine use (cp _ rfl) ?_
    refine run0 (ai t0 (ai t2 (ai t3 (ai t49 (ai t50 (ai hX ei)))))) ?_
    exact ⟨c - (j+1),by omega,j+1,p2,ds++[s2],W',o',t',rfl,by omega,rfl,hstep,by simp [hdl],by omega,gX',by (exact ev0 t0),by (exact ev0 t2),by (exact ev0 t3),by (exact ev0 t49),by (exact ev0 ei)⟩
   ·have hlt:¬ ((j:Int) < (c:Int)):=by omega
    rw [show c - j=0 by omega,Sf.wordsS] at hit
    injection hit with hit hit2
    injection hit with hit hit3
    subst hit; subst hit2; subst hit3
    refine run0 (ai t0 (ai t2 (ai t3 (ai t49 (ai t50 hlt))))) ?_
    rw [hfin _ _ _ _ hval hc hw]
    exact ⟨.agg [.str x1,.str x2,.str x3,.str x4,.int .i64 vk,.int .i64 vn,.str vs,.sl 5 .no (V.cellss vi),.sl 1 .no (strsA vy),.int .i64 x6,.bool x7,.bool false,.sl 1 .no (strsA ds)],⟨le1_refl _,le1_refl _,le1_refl _,le1_refl _,le1_refl _,le1_refl _,le1_refl _,le1_refl _,le1_refl _,le1_refl _,le1_refl _,le1_refl _,Gs.le gX,trivial⟩,rfl,rfl,rfl⟩
 ·refine run0 e2 ?_
  rw [hf] at c8
  dsimp only at c8
  refine use c8 ?_
  refine run0 ti ?_
  refine use (a_count (i:=1) (r:=r8) rfl (by omega)) ?_
  have lc:=Wire.cntR_rest r8 1
  have lk:=Wire.cntR_cnt r8
  obtain ⟨⟨rc,c⟩,hc⟩:∃ q,Wire.cntR r8 1=q:=⟨_,rfl⟩
  rw [hc] at lc lk ⊢
  dsimp only at lc lk ⊢
  obtain ⟨⟨⟨rr,bw⟩,dw⟩,hw⟩:∃ q,Sf.wordsS c ⟨rc,b8⟩ []=q:=⟨_,rfl⟩
  refine run0 ti ?_
  refine awp_loop (fun mm ts h=>∃ (j:Nat) (p:Wire.St) (ds:List (List UInt8)) (W:Nat) (o:Own) (t:List (TypeId×Nat×Nat)),mm=c - j∧j≤c ∧
   h=⟨[.cells 49 [.ptr 1 0,.int .i64 ver,.bool b8],rdr p,.cells 63 [.str [],.str [],.str [],.str [],.int .i64 0,.int .i64 0,.str [],.sl 0 .nil [],.sl 0 .nil [],.int .i64 0,.bool false,.bool false,.sl 0 .nil []],.cells 63 [.str x1,.str x2,.str x3,.str x4,.int .i64 vk,.int .i64 vn,.str vs,.sl 5 .no (V.cellss vi),.sl 1 .no (strsA vy),.int .i64 x6,.bool x7,.bool x8,.sl W o (strsA ds)]],t⟩ ∧
   Sf.wordsS (c - j) ⟨p,b8⟩ ds=(⟨rr,bw⟩,dw)∧ds.length=j∧p.rest.length≤rc.rest.length∧Gs 9 1 0 ⟨[],t⟩ (strsA ds) (.sl W o (strsA ds)) ∧
   ts 0 = .ptr 0 0∧ts 2 = .ptr 2 0∧ts 3 = .ptr 3 0∧ts 49 = .int .i64 (c:Nat)∧ts 50 = .int .i64 (j:Nat)) c ?_ ?_
  ·exact ⟨0,rc,[],0,.nil,[],by omega,by omega,rfl,hw,rfl,Nat.le_refl _,.inl ⟨rfl,rfl⟩,by (exact ev0 ti),by (exact ev0 ti),by (exact ev0 ti),by (exact ev0 ti),by (exact inv0 ti)⟩
  ·rintro mm ts h ⟨j,p,ds,W,o,t,rfl,hjc,rfl,hit,hdl,hpl,gX,t0,t2,t3,t49,t50⟩
   by_cases hj:j < c
   ·have hlt:(j:Int) < (c:Int):=by omega
    have ei:IntKind.i64.wrap ((j:Int)+1)=((j+1:Nat):Int):=by rw [wrap64 (by omega) (by omega)]; omega
    have lp:=Wire.strR_rest p
    have cp:=fun h hb=>str p (Wire.strR p).1 (Wire.strR p).2 h rfl hb (by omega)
    obtain ⟨⟨p2,s2⟩,hp2⟩:∃ q,Wire.strR p=q:=⟨_,rfl⟩
    have hstep:Sf.wordsS (c - (j+1)) ⟨p2,b8⟩ (ds++[s2])=(⟨rr,bw⟩,dw):=by
     rw [show c - j=(c - (j+1))+1 by omega,Sf.wordsS] at hit
     unfold Sf.strS at hit
     simp only [hp2] at hit
     exact hit
    rw [hp2] at lp cp
    dsimp only at lp cp
    obtain ⟨W',o',t',hX,gX',_⟩:=gX.grow 16 [.str s2] (by rw [strsA_length]; omega) (by decide)
    rw [←strsA_app] at gX'
    simp only [←strsA_app] at hX
    refine run0 (ai t0 (ai t2 (ai t3 (ai t49 (ai t50 hlt))))) ?_
    refine use (cp _ rfl) ?_
    refine run0 (ai t0 (ai t2 (ai t3 (ai t49 (ai t50 (ai hX ei)))))) ?_
    exact ⟨c - (j+1),by omega,j+1,p2,ds++[s2],W',o',t',rfl,by omega,rfl,hstep,by simp [hdl],by omega,gX',by (exact ev0 t0),by (exact ev0 t2),by (exact ev0 t3),by (exact ev0 t49),by (exact ev0 ei)⟩
   ·have hlt:¬ ((j:Int) < (c:Int)):=by omega
    rw [show c - j=0 by omega,Sf.wordsS] at hit
    injection hit with hit hit2
    injection hit with hit hit3
    subst hit; subst hit2; subst hit3
    refine run0 (ai t0 (ai t2 (ai t3 (ai t49 (ai t50 hlt))))) ?_
    rw [hfin _ _ _ _ hval hc hw]
    exact ⟨.agg [.str x1,.str x2,.str x3,.str x4,.int .i64 vk,.int .i64 vn,.str vs,.sl 5 .no (V.cellss vi),.sl 1 .no (strsA vy),.int .i64 x6,.bool x7,.bool x8,.sl 1 .no (strsA ds)],⟨le1_refl _,le1_refl _,le1_refl _,le1_refl _,le1_refl _,le1_refl _,le1_refl _,le1_refl _,le1_refl _,le1_refl _,le1_refl _,le1_refl _,Gs.le gX,trivial⟩,rfl,rfl,rfl⟩
end AX
namespace Sf
theorem instS_le (ver:Int) (s:Rs):(instS ver s).1.r.rest.length≤s.r.rest.length:=by
 unfold instS
 dsimp only
 refine Nat.le_trans (wordsS_le _ _ _) (Nat.le_trans (cntS_le _) ?_)
 have k:(flagS (numS (valueS (strS (strS (strS (strS s).1).1).1).1).1).1).1.r.rest.length≤s.r.rest.length:=
  Nat.le_trans (flagS_le _) (Nat.le_trans (numS_le _) (Nat.le_trans (valueS_le _) (Nat.le_trans (strS_le _) (Nat.le_trans (strS_le _) (Nat.le_trans (strS_le _) (strS_le _))))))
 split
 ·exact Nat.le_trans (flagS_le _) k
 ·exact k
end Sf
namespace AX
theorem a_rstate {ver:Int} (hver:ver=1∨ver=2) (s:Sf.Rs) (hl:s.r.rest.length≤100000000) (l:List Blk) (t:List (TypeId×Nat×Nat)) :
  ACall Tryz.prog GT 17 [.ptr 0 0] ⟨RB ver s.bad::rdr s.r::l,t⟩ fun v h'=>v=(Sf.stateS ver s).2.A∧h'=⟨RB ver (Sf.stateS ver s).1.bad::rdr (Sf.stateS ver s).1.r::l,t⟩:=by
 refine liftR (s':=(Sf.stateS ver s).1) (v:=(Sf.stateS ver s).2.A) ?_ rfl rfl l t
 refine fo ?_
 unfold RB
 obtain ⟨⟨r1,x1⟩,h1⟩:∃ q,Wire.strR s.r=q:=⟨_,rfl⟩
 have l1:=Wire.strR_rest s.r
 rw [h1] at l1
 obtain ⟨⟨r2,x2⟩,h2⟩:∃ q,Wire.numR r1=q:=⟨_,rfl⟩
 have l2:=Wire.numR_rest r1
 rw [h2] at l2
 obtain ⟨⟨rc,c⟩,hc⟩:∃ q,Wire.cntR r2 1=q:=⟨_,rfl⟩
 have lc:=Wire.cntR_rest r2 1
 have lk:=Wire.cntR_cnt r2
 rw [hc] at lc lk
 dsimp only at l1 l2 lc lk
 have str:∀ (r r':Wire.St) (x:List UInt8) (h:Hp),Wire.strR r=(r',x)→h.b[1]?=some (rdr r)→r.rest.length≤100000000→ACall Tryz.prog GT 38 [.ptr 1 0] h fun v h'=>v = .str x∧h'=⟨h.b.set 1 (rdr r'),h.t⟩:=fun r r' x h e hb hl=>by
  have:=a_rstring hb hl
  rw [e] at this; exact this
 have num:∀ (r r':Wire.St) (x:Int) (h:Hp),Wire.numR r=(r',x)→h.b[1]?=some (rdr r)→r.rest.length≤100000000→ACall Tryz.prog GT 16 [.ptr 1 0] h fun v h'=>v = .int .i64 x∧h'=⟨h.b.set 1 (rdr r'),h.t⟩:=fun r r' x h e hb hl=>by
  have:=a_number hb hl
  rw [e] at this; exact this
 have cnt:∀ (r r':Wire.St) (x:Nat) (h:Hp),Wire.cntR r 1=(r',x)→h.b[1]?=some (rdr r)→r.rest.length≤100000000→ACall Tryz.prog GT 39 [.ptr 1 0,.int .i64 1] h fun v h'=>v = .int .i64 (x:Nat)∧h'=⟨h.b.set 1 (rdr r'),h.t⟩:=fun r r' x h e hb hl=>by
  have:=a_count hb hl
  rw [e] at this; exact this
 obtain ⟨res,hres⟩:∃ q,Sf.instsS ver c ⟨rc,s.bad⟩ []=q:=⟨_,rfl⟩
 have hS:Sf.stateS ver s=(if res.2.2=false then (res.1,⟨x1,x2,res.2.1,[],[]⟩) else
   let p:=if ver=2 then Sf.pendsS (Sf.cntS res.1).2 (Sf.cntS res.1).1 [] else (res.1,[])
   let co:=Sf.cntS p.1
   let o:=Sf.outsS co.2 co.1 []
   (o.1,⟨x1,x2,res.2.1,p.2,o.2.1⟩)):=by
  rw [←hres]
  unfold Sf.stateS Sf.strS Sf.numS
  simp only [h1,h2]
  rw [show Sf.cntS ⟨r2,s.bad⟩=(⟨rc,s.bad⟩,c) by unfold Sf.cntS; simp only [hc]]
 have fin1:∀ {p:Sf.Rs} {is:List Sf.Inst},(p,is,false)=res→Sf.stateS ver s=(p,⟨x1,x2,is,[],[]⟩):=fun e=>by rw [hS,←e]; rfl
 have fin2:∀ {p:Sf.Rs} {is:List Sf.Inst},(p,is,true)=res→∀ (q:Sf.Rs) (ps:List Sf.Pend) (rc3:Wire.St) (c3:Nat) {r3:Sf.Rs×List Sf.Outp×Bool},(if ver=2 then Sf.pendsS (Sf.cntS p).2 (Sf.cntS p).1 [] else (p,[]))=(q,ps)→Wire.cntR q.r 1=(rc3,c3)→Sf.outsS c3 ⟨rc3,q.bad⟩ []=r3→Sf.stateS ver s=(r3.1,⟨x1,x2,is,ps,r3.2.1⟩):=by
  intro p is e q ps rc3 c3 r3 h h3 hr
  rw [hS,←e]
  dsimp only
  rw [if_neg (by decide),h]
  dsimp only
  rw [show Sf.cntS q=(⟨rc3,q.bad⟩,c3) by unfold Sf.cntS; rw [h3]]
  dsimp only
  rw [hr]
 have hv12:∀ {G:Prop},((ver == 2)=false→G)→((ver == 2)=true→G)→G:=fun p q=>by
  rcases bool_or (ver == 2) with e | e
  ·first | exact q e | exact p e
  ·first | exact p e | exact q e
 refine run0 ti ?_
 refine go_gen [4,9,12] 11 [⟨[.cells 49 [.ptr 1 0,.int .i64 ver,.bool s.bad],rdr s.r,.cells 27 [.str [],.int .i64 0,.sl 0 .nil [],.sl 0 .nil [],.sl 0 .nil []]],[]⟩,⟨[.cells 49 [.ptr 1 0,.int .i64 ver,.bool s.bad],rdr r1,.cells 27 [.str [],.int .i64 0,.sl 0 .nil [],.sl 0 .nil [],.sl 0 .nil []]],[]⟩,⟨[.cells 49 [.ptr 1 0,.int .i64 ver,.bool s.bad],rdr r2,.cells 27 [.str [],.int .i64 0,.sl 0 .nil [],.sl 0 .nil [],.sl 0 .nil []]],[]⟩,⟨[],[]⟩,⟨[.cells 49 [.ptr 1 0,.int .i64 ver,.bool s.bad],rdr s.r,.cells 27 [.str [],.int .i64 0,.sl 0 .nil [],.sl 0 .nil [],.sl 0 .nil []],.cells 27 [.str [],.int .i64 0,.sl 0 .nil [],.sl 0 .nil [],.sl 0 .nil []]],[]⟩,⟨[.cells 49 [.ptr 1 0,.int .i64 ver,.bool s.bad],rdr r1,.cells 27 [.str [],.int .i64 0,.sl 0 .nil [],.sl 0 .nil [],.sl 0 .nil []],.cells 27 [.str [],.int .i64 0,.sl 0 .nil [],.sl 0 .nil [],.sl 0 .nil []]],[]⟩,⟨[.cells 49 [.ptr 1 0,.int .i64 ver,.bool s.bad],rdr r2,.cells 27 [.str [],.int .i64 0,.sl 0 .nil [],.sl 0 .nil [],.sl 0 .nil []],.cells 27 [.str [],.int .i64 0,.sl 0 .nil [],.sl 0 .nil [],.sl 0 .nil []]],[]⟩,⟨[.cells 49 [.ptr 1 0,.int .i64 ver,.bool s.bad],rdr r2,.cells 27 [.str [],.int .i64 0,.sl 0 .nil [],.sl 0 .nil [],.sl 0 .nil []],.cells 27 [.str x1,.int .i64 x2,.sl 0 .nil [],.sl 0 .nil [],.sl 0 .nil []]],[]⟩] [[0,4],[0,4],[0,4],[0,4],[0,4],[0,1,4,5],[0,1,4,5],[0,1,4,5],[0,1,4,5],[1,5],[2,6],[0,1,2],[6]] rfl (by decide +kernel) ?_
 refine AX.rung ti ?_
 refine gn_call (vs:=[.ptr 1 0]) (by (exact ev0 ti)) ⟨str s.r r1 x1 _ h1 rfl (by omega),str s.r r1 x1 _ h1 rfl (by omega),trivial⟩ ?_
 refine AX.rung ti ?_
 refine gn_call (vs:=[.ptr 1 0]) (by (exact ev0 ti)) ⟨num r1 r2 x2 _ h2 rfl (by omega),num r1 r2 x2 _ h2 rfl (by omega),trivial⟩ ?_
 refine AX.rung ti ?_
 refine run0 ti ?_
 refine use (cnt r2 rc c _ hc rfl (by omega)) ?_
 refine run0 ti ?_
 refine awp_loop (fun mm ts h=>∃ (j:Nat) (p:Sf.Rs) (is:List Sf.Inst) (W:Nat) (o:Own) (t:List (TypeId×Nat×Nat)),mm=c - j∧j≤c∧h=⟨[.cells 49 [.ptr 1 0,.int .i64 ver,.bool p.bad],rdr p.r,.cells 27 [.str [],.int .i64 0,.sl 0 .nil [],.sl 0 .nil [],.sl 0 .nil []],.cells 27 [.str x1,.int .i64 x2,(.sl W o (is.map Sf.Inst.cells)),.sl 0 .nil [],.sl 0 .nil []]],t⟩∧Sf.instsS ver (c - j) p is=res∧is.length=j∧p.r.rest.length≤100000000∧Gs 63 13 0 ⟨[],t⟩ (is.map Sf.Inst.cells) (.sl W o (is.map Sf.Inst.cells))∧ts 0 = .ptr 0 0∧ts 2 = .ptr 2 0∧ts 3 = .ptr 3 0∧ts 20 = .int .i64 (c:Nat)∧ts 21 = .int .i64 (j:Nat)) c ?_ ?_
 ·exact ⟨0,⟨rc,s.bad⟩,[],0,.nil,[],by omega,by omega,rfl,hres,rfl,(by dsimp only; omega),.inl ⟨rfl,rfl⟩,by (exact ev0 ti),by (exact ev0 ti),by (exact ev0 ti),by (exact ev0 ti),by (exact inv0 ti)⟩
 rintro mm ts h ⟨j,p,is,W,o,t,rfl,hjc,rfl,hit,hdl,hpl,gX,t0,t2,t3,ta,tb⟩
 by_cases hj:j < c
 ·have cf:=a_rfails (ver:=ver) p [.cells 27 [.str [],.int .i64 0,.sl 0 .nil [],.sl 0 .nil [],.sl 0 .nil []],.cells 27 [.str x1,.int .i64 x2,(.sl W o (is.map Sf.Inst.cells)),.sl 0 .nil [],.sl 0 .nil []]] t
  unfold RB at cf
  have hlt:(j:Int) < (c:Int):=by omega
  have ei:IntKind.i64.wrap ((j:Int)+1)=((j+1:Nat):Int):=by rw [wrap64 (by omega) (by omega)]; omega
  rw [show c - j=(c - (j+1))+1 by omega] at hit
  unfold Sf.instsS at hit
  refine run0 (ai t0 (ai t2 (ai t3 (ai ta (ai tb hlt))))) ?_
  refine use cf ?_
  rcases bool_or p.fails with e | e
  ·rw [e,if_pos rfl] at hit
   rw [e]
   refine run0 (ai t0 (ai t2 (ai t3 (ai ta tb)))) ?_
   subst hit
   have hfin:=fin1 rfl
   exact ⟨.agg [.str x1,.int .i64 x2,.sl 13 .no (is.map Sf.Inst.cells),.sl 3 .no (([]:List Sf.Pend).map Sf.Pend.cells),.sl 7 .no (([]:List Sf.Outp).map Sf.Outp.cells)],⟨le1_refl _,le1_refl _,Gs.le gX,⟨rfl,.inr rfl,.inl rfl⟩,⟨rfl,.inr rfl,.inl rfl⟩,trivial⟩,by rw [hfin]; rfl,by rw [hfin]; rfl,by rw [hfin]; rfl⟩
  rw [e,if_neg (by decide)] at hit
  rw [e]
  have ci:=a_rinst hver p hpl [.cells 27 [.str [],.int .i64 0,.sl 0 .nil [],.sl 0 .nil [],.sl 0 .nil []],.cells 27 [.str x1,.int .i64 x2,(.sl W o (is.map Sf.Inst.cells)),.sl 0 .nil [],.sl 0 .nil []]] t
  have li:=Sf.instS_le ver p
  obtain ⟨⟨p2,x⟩,hx⟩:∃ q,Sf.instS ver p=q:=⟨_,rfl⟩
  rw [hx] at ci hit li
  dsimp only at ci hit li
  unfold RB at ci
  obtain ⟨W',o',t',hX,gX',_⟩:=gX.grow 184 x.cells (by rw [List.length_map]; omega) (by decide)
  have em:is.map Sf.Inst.cells++[x.cells]=(is++[x]).map Sf.Inst.cells:=by simp
  rw [em] at gX'
  simp only [em] at hX
  have hil:(is++[x]).length=j+1:=by simp [hdl]
  obtain ⟨is2,hi2⟩:∃ l,is++[x]=l:=⟨_,rfl⟩
  rw [hi2] at hX gX' hit hil
  clear em hi2 hx
  obtain ⟨a,d,id,ty,⟨k,n,w,vi,vy⟩,v,tn,fi,ds⟩:=x
  simp only [Sf.Inst.cells] at ci hX
  refine run0 (ai t0 (ai t2 (ai t3 (ai ta tb)))) ?_
  refine use ci ?_
  refine run0 (ai t0 (ai t2 (ai t3 (ai ta (ai tb (ai hX ei)))))) ?_
  exact ⟨c - (j+1),by omega,j+1,p2,is2,W',o',t',rfl,by omega,rfl,hit,hil,by omega,gX',by (exact ev0 t0),by (exact ev0 t2),by (exact ev0 t3),by (exact ev0 ta),by (exact ev0 ei)⟩
 have hlt:¬ ((j:Int) < (c:Int)):=by omega
 rw [show c - j=0 by omega] at hit
 unfold Sf.instsS at hit
 subst hit
 have cb:∀ q:Wire.St,(Wire.cntR q 1).2≤q.rest.length:=fun q=>Wire.cntR_cnt q
 refine hv12 (fun e2=>?_) (fun e2=>?_)
 ·have gY:Gs 65 3 0 ⟨[],t⟩ (([]:List Sf.Pend).map Sf.Pend.cells) (.sl 0 .nil (([]:List Sf.Pend).map Sf.Pend.cells)):=.inl ⟨rfl,rfl⟩
  refine run0 (ai t0 (ai t2 (ai t3 (ai ta (ai tb (ai hlt e2)))))) ?_
  obtain ⟨q,hq⟩:∃ q,p=q:=⟨_,rfl⟩
  obtain ⟨ps,hps⟩:∃ ps:List Sf.Pend,[]=ps:=⟨_,rfl⟩
  have fin2:=fin2 rfl
  have hv0:ver≠2:=by simpa using e2
  subst hq
  obtain ⟨q,hq⟩:∃ q,p=q:=⟨_,rfl⟩
  rw [hq] at hpl ⊢
  obtain ⟨⟨rc3,c3⟩,hc3⟩:∃ x,Wire.cntR q.r 1=x:=⟨_,rfl⟩
  have lc3:=Wire.cntR_rest q.r 1
  have lk3:=Wire.cntR_cnt q.r
  rw [hc3] at lc3 lk3
  dsimp only at lc3 lk3
  obtain ⟨res3,hres3⟩:∃ x,Sf.outsS c3 ⟨rc3,q.bad⟩ []=x:=⟨_,rfl⟩
  have fin3:∀ {r3:Sf.Rs×List Sf.Outp×Bool},r3=res3→Sf.stateS ver s=(r3.1,⟨x1,x2,is,ps,r3.2.1⟩):=fun e=>by rw [e]; exact fin2 q ps rc3 c3 (by rw [if_neg hv0,hq,hps]) hc3 hres3
  obtain ⟨W2,o2,hW2⟩:∃ (W2:Nat) (o2:Own),W2=0∧o2 = .nil:=⟨_,_,rfl,rfl⟩
  have hY0:(A.sl 0 .nil []:A) = .sl W2 o2 (ps.map Sf.Pend.cells):=by rw [hW2.1,hW2.2,←hps]; rfl
  rw [hps] at gY
  have gY:Gs 65 3 0 ⟨[],t⟩ (ps.map Sf.Pend.cells) (.sl W2 o2 (ps.map Sf.Pend.cells)):=by rw [hW2.1,hW2.2]; exact gY
  refine use (cnt q.r rc3 c3 _ hc3 rfl (by omega)) ?_
  refine run0 (ai t0 (ai t2 t3)) ?_
  refine awp_loop (fun mm ts h=>∃ (j:Nat) (p:Sf.Rs) (os:List Sf.Outp) (W3:Nat) (o3:Own) (l:List Blk) (t:List (TypeId×Nat×Nat)),mm=c3 - j∧j≤c3∧h=⟨.cells 49 [.ptr 1 0,.int .i64 ver,.bool p.bad]::rdr p.r :: .cells 27 [.str [],.int .i64 0,.sl 0 .nil [],.sl 0 .nil [],.sl 0 .nil []] :: .cells 27 [.str x1,.int .i64 x2,(.sl W o (is.map Sf.Inst.cells)),(.sl W2 o2 (ps.map Sf.Pend.cells)),(.sl W3 o3 (os.map Sf.Outp.cells))]::l,t⟩∧Sf.outsS (c3 - j) p os=res3∧os.length=j∧p.r.rest.length≤100000000∧Gs 63 13 0 ⟨[],t⟩ (is.map Sf.Inst.cells) (.sl W o (is.map Sf.Inst.cells))∧Gs 65 3 0 ⟨[],t⟩ (ps.map Sf.Pend.cells) (.sl W2 o2 (ps.map Sf.Pend.cells))∧Gs 67 7 0 ⟨[],t⟩ (os.map Sf.Outp.cells) (.sl W3 o3 (os.map Sf.Outp.cells))∧ts 0 = .ptr 0 0∧ts 2 = .ptr 2 0∧ts 3 = .ptr 3 0∧ts 72 = .int .i64 (c3:Nat)∧ts 73 = .int .i64 (j:Nat)) c3 ?_ ?_
  ·exact ⟨0,⟨rc3,q.bad⟩,[],0,.nil,[],t,by omega,by omega,(by rw [←hY0]; rfl),hres3,rfl,(by dsimp only; omega),gX,gY,.inl ⟨rfl,rfl⟩,by (exact ev0 t0),by (exact ev0 t2),by (exact ev0 t3),by (exact ev0 ti),by (exact inv0 ti)⟩
  rintro mm ts h ⟨j,p,os,W3,o3,l,t,rfl,hjc,rfl,hit,hdl,hpl,gX,gY,gZ,t0,t2,t3,ta,tb⟩
  by_cases hj:j < c3
  ·have cf:=a_rfails (ver:=ver) p (.cells 27 [.str [],.int .i64 0,.sl 0 .nil [],.sl 0 .nil [],.sl 0 .nil []] :: .cells 27 [.str x1,.int .i64 x2,(.sl W o (is.map Sf.Inst.cells)),(.sl W2 o2 (ps.map Sf.Pend.cells)),(.sl W3 o3 (os.map Sf.Outp.cells))]::l) t
   unfold RB at cf
   have hlt:(j:Int) < (c3:Int):=by omega
   have ei:IntKind.i64.wrap ((j:Int)+1)=((j+1:Nat):Int):=by rw [wrap64 (by omega) (by omega)]; omega
   rw [show c3 - j=(c3 - (j+1))+1 by omega] at hit
   unfold Sf.outsS at hit
   refine run0 (ai t0 (ai t2 (ai t3 (ai ta (ai tb hlt))))) ?_
   refine use cf ?_
   rcases bool_or p.fails with e | e
   ·rw [e,if_pos rfl] at hit
    rw [e]
    refine run0 (ai t0 (ai t2 (ai t3 (ai ta tb)))) ?_
    subst hit
    have hfin:=fin3 rfl
    exact ⟨.agg [.str x1,.int .i64 x2,.sl 13 .no (is.map Sf.Inst.cells),.sl 3 .no (ps.map Sf.Pend.cells),.sl 7 .no (os.map Sf.Outp.cells)],⟨le1_refl _,le1_refl _,Gs.le gX,Gs.le gY,Gs.le gZ,trivial⟩,by rw [hfin]; rfl,by rw [hfin]; rfl,by rw [hfin]; rfl⟩
   rw [e,if_neg (by decide)] at hit
   rw [e]
   refine run0 (ai t0 (ai t2 (ai t3 (ai ta tb)))) ?_
   obtain ⟨⟨q1,y1⟩,g1⟩:∃ q,Wire.strR p.r=q:=⟨_,rfl⟩
   have m1:=Wire.strR_rest p.r
   rw [g1] at m1
   dsimp only at m1
   refine use (str p.r q1 y1 _ g1 rfl hpl) ?_
   refine run0 (ai t0 (ai t2 (ai t3 (ai ta tb)))) ?_
   have cv:=a_rvalue (ver:=ver) ⟨q1,p.bad⟩ (by dsimp only; omega) (.cells 27 [.str [],.int .i64 0,.sl 0 .nil [],.sl 0 .nil [],.sl 0 .nil []] :: .cells 27 [.str x1,.int .i64 x2,(.sl W o (is.map Sf.Inst.cells)),(.sl W2 o2 (ps.map Sf.Pend.cells)),(.sl W3 o3 (os.map Sf.Outp.cells))]::(l++[.cells 67 [.str y1,.int .i64 0,.int .i64 0,.str [],.sl 0 .nil [],.sl 0 .nil [],.bool false]])) t
   have m2:=Sf.valueS_le ⟨q1,p.bad⟩
   obtain ⟨⟨⟨q2,b2⟩,y2⟩,g2⟩:∃ q,Sf.valueS ⟨q1,p.bad⟩=q:=⟨_,rfl⟩
   rw [g2] at cv m2
   dsimp only at cv m2
   obtain ⟨⟨⟨q3,b3⟩,y3⟩,g3⟩:∃ q,Sf.flagS ⟨q2,b2⟩=q:=⟨_,rfl⟩
   have m3:=Sf.flagS_le ⟨q2,b2⟩
   rw [g3] at m3
   dsimp only at m3
   have ho:Sf.outS p=(⟨q3,b3⟩,⟨y1,y2,y3⟩):=by unfold Sf.outS Sf.strS; simp only [g1,g2,g3]
   rw [ho] at hit
   dsimp only at hit
   obtain ⟨x,hxe⟩:∃ x:Sf.Outp,x=⟨y1,y2,y3⟩:=⟨_,rfl⟩
   rw [←hxe] at hit
   obtain ⟨W',o',t',hX,gZ',kZ⟩:=gZ.grow 104 x.cells (by rw [List.length_map]; omega) (by decide)
   have gX':=kZ _ _ _ _ (by decide) gX
   have gY':=kZ _ _ _ _ (by decide) gY
   have em:os.map Sf.Outp.cells++[x.cells]=(os++[x]).map Sf.Outp.cells:=by simp
   rw [em] at gZ'
   simp only [em] at hX
   have hil:(os++[x]).length=j+1:=by simp [hdl]
   obtain ⟨os2,hi2⟩:∃ l,os++[x]=l:=⟨_,rfl⟩
   rw [hi2] at hX gZ' hit hil
   clear em hi2
   subst hxe
   obtain ⟨k,n,w,vi,vy⟩:=y2
   have hVA:(V.mk k n w vi vy).A = .agg [.int .i64 k,.int .i64 n,.str w,.sl 5 .no (V.cellss vi),.sl 1 .no (strsA vy)]:=by simp only [V.A,V.cells]
   rw [hVA] at cv
   unfold RB at cv
   simp only [Sf.Outp.cells] at hX
   refine use cv ?_
   refine run0 (ai t0 (ai t2 (ai t3 (ai ta tb)))) ?_
   have cg:=a_rflag (ver:=ver) ⟨q2,b2⟩ (by dsimp only; omega) (.cells 27 [.str [],.int .i64 0,.sl 0 .nil [],.sl 0 .nil [],.sl 0 .nil []] :: .cells 27 [.str x1,.int .i64 x2,(.sl W o (is.map Sf.Inst.cells)),(.sl W2 o2 (ps.map Sf.Pend.cells)),(.sl W3 o3 (os.map Sf.Outp.cells))]::(l++[.cells 67 [.str y1,.int .i64 k,.int .i64 n,.str w,.sl 5 .no (V.cellss vi),.sl 1 .no (strsA vy),.bool false]])) t
   rw [g3] at cg
   dsimp only at cg
   unfold RB at cg
   refine use cg ?_
   refine run0 (ai t0 (ai t2 (ai t3 (ai ta (ai tb (ai hX ei)))))) ?_
   exact ⟨c3 - (j+1),by omega,j+1,⟨q3,b3⟩,os2,W',o',l++[.cells 67 [.str y1,.int .i64 k,.int .i64 n,.str w,.sl 5 .no (V.cellss vi),.sl 1 .no (strsA vy),.bool y3]],t',rfl,by omega,rfl,hit,hil,(by dsimp only; omega),gX',gY',gZ',by (exact ev0 t0),by (exact ev0 t2),by (exact ev0 t3),by (exact ev0 ta),by (exact ev0 ei)⟩
  have hlt:¬ ((j:Int) < (c3:Int)):=by omega
  rw [show c3 - j=0 by omega] at hit
  unfold Sf.outsS at hit
  subst hit
  refine run0 (ai t0 (ai t2 (ai t3 (ai ta (ai tb hlt))))) ?_
  have hfin:=fin3 rfl
  exact ⟨.agg [.str x1,.int .i64 x2,.sl 13 .no (is.map Sf.Inst.cells),.sl 3 .no (ps.map Sf.Pend.cells),.sl 7 .no (os.map Sf.Outp.cells)],⟨le1_refl _,le1_refl _,Gs.le gX,Gs.le gY,Gs.le gZ,trivial⟩,by rw [hfin]; rfl,by rw [hfin]; rfl,by rw [hfin]; rfl⟩
 ·obtain ⟨⟨rc2,c2⟩,hc2⟩:∃ x,Wire.cntR p.r 1=x:=⟨_,rfl⟩
  have lc2:=Wire.cntR_rest p.r 1
  have lk2:=Wire.cntR_cnt p.r
  rw [hc2] at lc2 lk2
  dsimp only at lc2 lk2
  obtain ⟨res2,hres2⟩:∃ x,Sf.pendsS c2 ⟨rc2,p.bad⟩ []=x:=⟨_,rfl⟩
  have hv2:ver=2:=by simpa using e2
  have fin2:=fin2 rfl
  have hp2:(if ver=2 then Sf.pendsS (Sf.cntS p).2 (Sf.cntS p).1 [] else (p,[]))=res2:=by rw [if_pos hv2]; unfold Sf.cntS; rw [hc2]; exact hres2
  rw [hp2] at fin2
  refine run0 (ai t0 (ai t2 (ai t3 (ai ta (ai tb (ai hlt e2)))))) ?_
  refine use (cnt p.r rc2 c2 _ hc2 rfl (by omega)) ?_
  refine run0 (ai t0 (ai t2 t3)) ?_
  refine awp_loop (fun mm ts h=>∃ (j:Nat) (p:Sf.Rs) (ps:List Sf.Pend) (W2:Nat) (o2:Own) (t:List (TypeId×Nat×Nat)),mm=c2 - j∧j≤c2∧h=⟨[.cells 49 [.ptr 1 0,.int .i64 ver,.bool p.bad],rdr p.r,.cells 27 [.str [],.int .i64 0,.sl 0 .nil [],.sl 0 .nil [],.sl 0 .nil []],.cells 27 [.str x1,.int .i64 x2,(.sl W o (is.map Sf.Inst.cells)),(.sl W2 o2 (ps.map Sf.Pend.cells)),.sl 0 .nil []]],t⟩∧Sf.pendsS (c2 - j) p ps=res2∧ps.length=j∧p.r.rest.length≤100000000∧Gs 63 13 0 ⟨[],t⟩ (is.map Sf.Inst.cells) (.sl W o (is.map Sf.Inst.cells))∧Gs 65 3 0 ⟨[],t⟩ (ps.map Sf.Pend.cells) (.sl W2 o2 (ps.map Sf.Pend.cells))∧ts 0 = .ptr 0 0∧ts 2 = .ptr 2 0∧ts 3 = .ptr 3 0∧ts 43 = .int .i64 (c2:Nat)∧ts 44 = .int .i64 (j:Nat)) c2 ?_ ?_
  ·exact ⟨0,⟨rc2,p.bad⟩,[],0,.nil,t,by omega,by omega,rfl,hres2,rfl,(by dsimp only; omega),gX,.inl ⟨rfl,rfl⟩,by (exact ev0 t0),by (exact ev0 t2),by (exact ev0 t3),by (exact ev0 ti),by (exact inv0 ti)⟩
  rintro mm ts h ⟨j,q,ps,W2,o2,t,rfl,hjc,rfl,hit,hdl,hpl,gX,gY,t0,t2,t3,ta,tb⟩
  by_cases hj:j < c2
  ·have hq:=hpl
   have hlt:(j:Int) < (c2:Int):=by omega
   have ei:IntKind.i64.wrap ((j:Int)+1)=((j+1:Nat):Int):=by rw [wrap64 (by omega) (by omega)]; omega
   rw [show c2 - j=(c2 - (j+1))+1 by omega] at hit
   unfold Sf.pendsS at hit
   obtain ⟨⟨q1,y1⟩,g1⟩:∃ x,Wire.strR q.r=x:=⟨_,rfl⟩
   have m1:=Wire.strR_rest q.r
   rw [g1] at m1
   dsimp only at m1
   obtain ⟨⟨q2,y2⟩,g2⟩:∃ x,Wire.strR q1=x:=⟨_,rfl⟩
   have m2:=Wire.strR_rest q1
   rw [g2] at m2
   dsimp only at m2
   obtain ⟨⟨q3,y3⟩,g3⟩:∃ x,Wire.strR q2=x:=⟨_,rfl⟩
   have m3:=Wire.strR_rest q2
   rw [g3] at m3
   dsimp only at m3
   have ho:Sf.pendS q=(⟨q3,q.bad⟩,⟨y1,y2,y3⟩):=by unfold Sf.pendS Sf.strS; simp only [g1,g2,g3]
   rw [ho] at hit
   dsimp only at hit
   obtain ⟨x,hxe⟩:∃ x:Sf.Pend,x=⟨y1,y2,y3⟩:=⟨_,rfl⟩
   rw [←hxe] at hit
   obtain ⟨W',o',t',hX,gY',kY⟩:=gY.grow 48 x.cells (by rw [List.length_map]; omega) (by decide)
   have gX':=kY _ _ _ _ (by decide) gX
   have em:ps.map Sf.Pend.cells++[x.cells]=(ps++[x]).map Sf.Pend.cells:=by simp
   rw [em] at gY'
   simp only [em] at hX
   have hil:(ps++[x]).length=j+1:=by simp [hdl]
   obtain ⟨ps2,hi2⟩:∃ l,ps++[x]=l:=⟨_,rfl⟩
   rw [hi2] at hX gY' hit hil
   clear em hi2
   subst hxe
   simp only [Sf.Pend.cells] at hX
   refine run0 (ai t0 (ai t2 (ai t3 (ai ta (ai tb hlt))))) ?_
   refine use (str q.r q1 y1 _ g1 rfl hpl) ?_
   refine run0 (ai t0 (ai t2 (ai t3 (ai ta tb)))) ?_
   refine use (str q1 q2 y2 _ g2 rfl (by omega)) ?_
   refine run0 (ai t0 (ai t2 (ai t3 (ai ta tb)))) ?_
   refine use (str q2 q3 y3 _ g3 rfl (by omega)) ?_
   refine run0 (ai t0 (ai t2 (ai t3 (ai ta (ai tb (ai hX ei)))))) ?_
   exact ⟨c2 - (j+1),by omega,j+1,⟨q3,q.bad⟩,ps2,W',o',t',rfl,by omega,rfl,hit,hil,(by dsimp only; omega),gX',gY',by (exact ev0 t0),by (exact ev0 t2),by (exact ev0 t3),by (exact ev0 ta),by (exact ev0 ei)⟩
  have hlt:¬ ((j:Int) < (c2:Int)):=by omega
  rw [show c2 - j=0 by omega] at hit
  unfold Sf.pendsS at hit
  subst hit
  obtain ⟨⟨rc3,c3⟩,hc3⟩:∃ x,Wire.cntR q.r 1=x:=⟨_,rfl⟩
  have lc3:=Wire.cntR_rest q.r 1
  have lk3:=Wire.cntR_cnt q.r
  rw [hc3] at lc3 lk3
  dsimp only at lc3 lk3
  obtain ⟨res3,hres3⟩:∃ x,Sf.outsS c3 ⟨rc3,q.bad⟩ []=x:=⟨_,rfl⟩
  have fin3:∀ {r3:Sf.Rs×List Sf.Outp×Bool},r3=res3→Sf.stateS ver s=(r3.1,⟨x1,x2,is,ps,r3.2.1⟩):=fun e=>by rw [e]; exact fin2 q ps rc3 c3 rfl hc3 hres3
  refine run0 (ai t0 (ai t2 (ai t3 (ai ta (ai tb hlt))))) ?_
  refine use (cnt q.r rc3 c3 _ hc3 rfl (by omega)) ?_
  refine run0 (ai t0 (ai t2 t3)) ?_
  refine awp_loop (fun mm ts h=>∃ (j:Nat) (p:Sf.Rs) (os:List Sf.Outp) (W3:Nat) (o3:Own) (l:List Blk) (t:List (TypeId×Nat×Nat)),mm=c3 - j∧j≤c3∧h=⟨.cells 49 [.ptr 1 0,.int .i64 ver,.bool p.bad]::rdr p.r :: .cells 27 [.str [],.int .i64 0,.sl 0 .nil [],.sl 0 .nil [],.sl 0 .nil []] :: .cells 27 [.str x1,.int .i64 x2,(.sl W o (is.map Sf.Inst.cells)),(.sl W2 o2 (ps.map Sf.Pend.cells)),(.sl W3 o3 (os.map Sf.Outp.cells))]::l,t⟩∧Sf.outsS (c3 - j) p os=res3∧os.length=j∧p.r.rest.length≤100000000∧Gs 63 13 0 ⟨[],t⟩ (is.map Sf.Inst.cells) (.sl W o (is.map Sf.Inst.cells))∧Gs 65 3 0 ⟨[],t⟩ (ps.map Sf.Pend.cells) (.sl W2 o2 (ps.map Sf.Pend.cells))∧Gs 67 7 0 ⟨[],t⟩ (os.map Sf.Outp.cells) (.sl W3 o3 (os.map Sf.Outp.cells))∧ts 0 = .ptr 0 0∧ts 2 = .ptr 2 0∧ts 3 = .ptr 3 0∧ts 72 = .int .i64 (c3:Nat)∧ts 73 = .int .i64 (j:Nat)) c3 ?_ ?_
  ·exact ⟨0,⟨rc3,q.bad⟩,[],0,.nil,[],t,by omega,by omega,rfl,hres3,rfl,(by dsimp only; omega),gX,gY,.inl ⟨rfl,rfl⟩,by (exact ev0 t0),by (exact ev0 t2),by (exact ev0 t3),by (exact ev0 ti),by (exact inv0 ti)⟩
  rintro mm ts h ⟨j,p,os,W3,o3,l,t,rfl,hjc,rfl,hit,hdl,hpl,gX,gY,gZ,t0,t2,t3,ta,tb⟩
  by_cases hj:j < c3
  ·have cf:=a_rfails (ver:=ver) p (.cells 27 [.str [],.int .i64 0,.sl 0 .nil [],.sl 0 .nil [],.sl 0 .nil []] :: .cells 27 [.str x1,.int .i64 x2,(.sl W o (is.map Sf.Inst.cells)),(.sl W2 o2 (ps.map Sf.Pend.cells)),(.sl W3 o3 (os.map Sf.Outp.cells))]::l) t
   unfold RB at cf
   have hlt:(j:Int) < (c3:Int):=by omega
   have ei:IntKind.i64.wrap ((j:Int)+1)=((j+1:Nat):Int):=by rw [wrap64 (by omega) (by omega)]; omega
   rw [show c3 - j=(c3 - (j+1))+1 by omega] at hit
   unfold Sf.outsS at hit
   refine run0 (ai t0 (ai t2 (ai t3 (ai ta (ai tb hlt))))) ?_
   refine use cf ?_
   rcases bool_or p.fails with e | e
   ·rw [e,if_pos rfl] at hit
    rw [e]
    refine run0 (ai t0 (ai t2 (ai t3 (ai ta tb)))) ?_
    subst hit
    have hfin:=fin3 rfl
    exact ⟨.agg [.str x1,.int .i64 x2,.sl 13 .no (is.map Sf.Inst.cells),.sl 3 .no (ps.map Sf.Pend.cells),.sl 7 .no (os.map Sf.Outp.cells)],⟨le1_refl _,le1_refl _,Gs.le gX,Gs.le gY,Gs.le gZ,trivial⟩,by rw [hfin]; rfl,by rw [hfin]; rfl,by rw [hfin]; rfl⟩
   rw [e,if_neg (by decide)] at hit
   rw [e]
   refine run0 (ai t0 (ai t2 (ai t3 (ai ta tb)))) ?_
   obtain ⟨⟨q1,y1⟩,g1⟩:∃ q,Wire.strR p.r=q:=⟨_,rfl⟩
   have m1:=Wire.strR_rest p.r
   rw [g1] at m1
   dsimp only at m1
   refine use (str p.r q1 y1 _ g1 rfl hpl) ?_
   refine run0 (ai t0 (ai t2 (ai t3 (ai ta tb)))) ?_
   have cv:=a_rvalue (ver:=ver) ⟨q1,p.bad⟩ (by dsimp only; omega) (.cells 27 [.str [],.int .i64 0,.sl 0 .nil [],.sl 0 .nil [],.sl 0 .nil []] :: .cells 27 [.str x1,.int .i64 x2,(.sl W o (is.map Sf.Inst.cells)),(.sl W2 o2 (ps.map Sf.Pend.cells)),(.sl W3 o3 (os.map Sf.Outp.cells))]::(l++[.cells 67 [.str y1,.int .i64 0,.int .i64 0,.str [],.sl 0 .nil [],.sl 0 .nil [],.bool false]])) t
   have m2:=Sf.valueS_le ⟨q1,p.bad⟩
   obtain ⟨⟨⟨q2,b2⟩,y2⟩,g2⟩:∃ q,Sf.valueS ⟨q1,p.bad⟩=q:=⟨_,rfl⟩
   rw [g2] at cv m2
   dsimp only at cv m2
   obtain ⟨⟨⟨q3,b3⟩,y3⟩,g3⟩:∃ q,Sf.flagS ⟨q2,b2⟩=q:=⟨_,rfl⟩
   have m3:=Sf.flagS_le ⟨q2,b2⟩
   rw [g3] at m3
   dsimp only at m3
   have ho:Sf.outS p=(⟨q3,b3⟩,⟨y1,y2,y3⟩):=by unfold Sf.outS Sf.strS; simp only [g1,g2,g3]
   rw [ho] at hit
   dsimp only at hit
   obtain ⟨x,hxe⟩:∃ x:Sf.Outp,x=⟨y1,y2,y3⟩:=⟨_,rfl⟩
   rw [←hxe] at hit
   obtain ⟨W',o',t',hX,gZ',kZ⟩:=gZ.grow 104 x.cells (by rw [List.length_map]; omega) (by decide)
   have gX':=kZ _ _ _ _ (by decide) gX
   have gY':=kZ _ _ _ _ (by decide) gY
   have em:os.map Sf.Outp.cells++[x.cells]=(os++[x]).map Sf.Outp.cells:=by simp
   rw [em] at gZ'
   simp only [em] at hX
   have hil:(os++[x]).length=j+1:=by simp [hdl]
   obtain ⟨os2,hi2⟩:∃ l,os++[x]=l:=⟨_,rfl⟩
   rw [hi2] at hX gZ' hit hil
   clear em hi2
   subst hxe
   obtain ⟨k,n,w,vi,vy⟩:=y2
   have hVA:(V.mk k n w vi vy).A = .agg [.int .i64 k,.int .i64 n,.str w,.sl 5 .no (V.cellss vi),.sl 1 .no (strsA vy)]:=by simp only [V.A,V.cells]
   rw [hVA] at cv
   unfold RB at cv
   simp only [Sf.Outp.cells] at hX
   refine use cv ?_
   refine run0 (ai t0 (ai t2 (ai t3 (ai ta tb)))) ?_
   have cg:=a_rflag (ver:=ver) ⟨q2,b2⟩ (by dsimp only; omega) (.cells 27 [.str [],.int .i64 0,.sl 0 .nil [],.sl 0 .nil [],.sl 0 .nil []] :: .cells 27 [.str x1,.int .i64 x2,(.sl W o (is.map Sf.Inst.cells)),(.sl W2 o2 (ps.map Sf.Pend.cells)),(.sl W3 o3 (os.map Sf.Outp.cells))]::(l++[.cells 67 [.str y1,.int .i64 k,.int .i64 n,.str w,.sl 5 .no (V.cellss vi),.sl 1 .no (strsA vy),.bool false]])) t
   rw [g3] at cg
   dsimp only at cg
   unfold RB at cg
   refine use cg ?_
   refine run0 (ai t0 (ai t2 (ai t3 (ai ta (ai tb (ai hX ei)))))) ?_
   exact ⟨c3 - (j+1),by omega,j+1,⟨q3,b3⟩,os2,W',o',l++[.cells 67 [.str y1,.int .i64 k,.int .i64 n,.str w,.sl 5 .no (V.cellss vi),.sl 1 .no (strsA vy),.bool y3]],t',rfl,by omega,rfl,hit,hil,(by dsimp only; omega),gX',gY',gZ',by (exact ev0 t0),by (exact ev0 t2),by (exact ev0 t3),by (exact ev0 ta),by (exact ev0 ei)⟩
  have hlt:¬ ((j:Int) < (c3:Int)):=by omega
  rw [show c3 - j=0 by omega] at hit
  unfold Sf.outsS at hit
  subst hit
  refine run0 (ai t0 (ai t2 (ai t3 (ai ta (ai tb hlt))))) ?_
  have hfin:=fin3 rfl
  exact ⟨.agg [.str x1,.int .i64 x2,.sl 13 .no (is.map Sf.Inst.cells),.sl 3 .no (ps.map Sf.Pend.cells),.sl 7 .no (os.map Sf.Outp.cells)],⟨le1_refl _,le1_refl _,Gs.le gX,Gs.le gY,Gs.le gZ,trivial⟩,by rw [hfin]; rfl,by rw [hfin]; rfl,by rw [hfin]; rfl⟩
def c_wflag:AX.AFn:=⟨9,aS [aR 4 (.mv (aI 0))] (.seq (aS [aM 5 1] (.cond (.t 5) (.reg false [aR 4 (.mv (aI 1))]) (.skip))) (.reg false [aM 6 0,aM 7 4,aR 8 (.call 63 [.t 6,.t 7])])),[]⟩
theorem h_wflag:AX.compFn Tryz.prog 87=some c_wflag:=by kernel_rfl
theorem wtr_loc (ver:Int) (l:List UInt8):(wtr ver l).loc 0:=by
 intro o x h
 simp only [wtr] at h
 split at h
 ·injection h with h; subst h; rfl
 ·cases h
theorem liftW {f:FuncId} {args:List A} {ver:Int} {l l':List UInt8} (hl':l'≠[]) (hc:ACall Tryz.prog GT f (.ptr 0 0::args) ⟨[wtr ver l],[]⟩ fun u h'=>u = .tup []∧WP 0 ver l' ⟨[wtr ver l],[]⟩ h') (ha:A.locL 0 args=true) {h:Hp} {i:Nat} (hb:h.b[i]?=some (wtr ver l)) :
  ACall Tryz.prog GT f (.ptr i 0::args) h fun u h'=>u = .tup []∧h'=⟨h.b.set i (wtr ver l'),h.t⟩:=by
 have h1:ACall Tryz.prog GT f (.ptr 0 0::args) ⟨[wtr ver l],[]⟩ fun u h'=>∃ b',h'.b[0]?=some b'∧u = .tup []∧b'=wtr ver l':=hc.mono fun u h' ⟨e,hp⟩=>⟨wtr ver l',WP.bx hp hl',e,rfl⟩
 refine (ACall.lift1 h1 ha (wtr_loc ver l) ?_ hb).mono ?_
 ·rintro u b' ⟨rfl,rfl⟩
  exact ⟨rfl,wtr_loc ver l'⟩
 ·rintro u h' ⟨b',⟨rfl,rfl⟩,rfl⟩
  exact ⟨rfl,rfl⟩
theorem num_ne (n:Int):Wire.num n≠[]:=by
 have:=(Wire.encF_len 9 (Wire.zig n)).1
 intro e
 have h:(Wire.num n).length=0:=by rw [e]; rfl
 unfold Wire.num at h
 omega
theorem app_ne {a b:List UInt8} (h:b≠[]):a++b≠[]:=by simp [h]
theorem wn {h:Hp} {i:Nat} {ver:Int} {l:List UInt8} (hb:h.b[i]?=some (wtr ver l)) (n:Int) (hlen:l.length+10≤1000000000) (h0:-9223372036854775808≤n) (h1:n≤9223372036854775807) :
  ACall Tryz.prog GT 63 [.ptr i 0,.int .i64 n] h fun u h'=>u = .tup []∧h'=⟨h.b.set i (wtr ver (l++Wire.num n)),h.t⟩:=
 liftW (app_ne (num_ne n)) (a_wnum (h:=⟨[wtr ver l],[]⟩) (.inl rfl) n hlen h0 h1) rfl hb
theorem wf {h:Hp} {i:Nat} {ver:Int} {l:List UInt8} (hb:h.b[i]?=some (wtr ver l)) (b:Bool) (hlen:l.length+10≤1000000000) :
  ACall Tryz.prog GT 87 [.ptr i 0,.bool b] h fun u h'=>u = .tup []∧h'=⟨h.b.set i (wtr ver (l++Sf.flagE b)),h.t⟩:=by
 refine acall_of mixedT h_wflag (by simp [c_wflag]) ?_
 dsimp only [c_wflag]
 cases b
 ·refine run0 ti ?_
  refine use (wn hb _ hlen (by decide) (by decide)) ?_
  refine run0 ti ?_
  exact ⟨_,le_refl _,rfl,rfl⟩
 ·refine run0 ti ?_
  refine use (wn hb _ hlen (by decide) (by decide)) ?_
  refine run0 ti ?_
  exact ⟨_,le_refl _,rfl,rfl⟩
theorem map_getD {α:Type} (f:α→List A) (l:List α) (j:Nat) (hj:j < l.length):(l.map f).getD j []=f l[j]:=by simp [List.getD,hj]
end AX
namespace Sf
def zero:St:=⟨[],0,[],[],[]⟩
def encode (ver:Int) (st:St):List UInt8×Int:=
 if checkZ st≠0 then ([],checkZ st) else if 1048572 < (stE ver st).length then ([],3) else (Crc.app (stE ver st),0)
def decode (s:List UInt8):St×Int:=
 if 1048576 < s.length then (zero,3)
 else if AX.preB s=false then (zero,2)
 else if (Crc.ver s).2≠0 then (zero,20)
 else if (AX.versionS (Crc.ver s).1).2≠0 then (zero,(AX.versionS (Crc.ver s).1).2)
 else
  let r:=stateS (AX.versionS (Crc.ver s).1).1 ⟨(Wire.numR ⟨(Crc.ver s).1.drop 4,0⟩).1,false⟩
  if r.1.fails||decide (0 < r.1.r.rest.length)||checkZ r.2 != 0 then (zero,2) else (r.2,0)
end Sf
namespace AX
def SCheck (st:Sf.St):Prop:=∀ h,ACall Tryz.prog GT 20 [st.A] h fun r h'=>r = .int .i64 (Sf.checkZ st)∧h'=h
theorem liftD {P:Program} {G:World→Prop} {f:FuncId} {args:List A} {ver:Int} {s s':Sf.Rs} {v:A} (hc:ACall P G f (.ptr 0 0::args) ⟨[RB ver s.bad,rdr s.r],[]⟩ fun v' h'=>v'=v∧h'=⟨[RB ver s'.bad,rdr s'.r],[]⟩) (ha:A.locL 0 args=true) (hv:v.loc 0=true) (z:Blk) (l:List Blk) (t:List (TypeId×Nat×Nat)) :
  ACall P G f (.ptr 2 0::args) ⟨z::rdr s.r::RB ver s.bad::l,t⟩ fun v' h'=>v'=v∧h'=⟨z::rdr s'.r::RB ver s'.bad::l,t⟩:=by
 have key:=ACall.lift hc (fun i=>if i=0 then 2 else i) (fun a b ha hb e=>by
   simp only [List.length_cons,List.length_nil] at ha hb
   have h1:a=0∨a=1:=by omega
   have h2:b=0∨b=1:=by omega
   rcases h1 with rfl | rfl <;> rcases h2 with rfl | rfl <;> simp at e ⊢) (by unfold A.locL; rw [(A.locL0 _ args ha).1]; rfl)
  (fun x hx=>by
   rcases List.mem_cons.1 hx with rfl | hx
   ·rfl
   ·rw [List.mem_singleton.1 hx]; rfl)
  (fun v' h' ⟨e,h0⟩=>⟨by rw [e]; exact (A.loc0 _ v hv).1,fun j x hj hx=>by
   have:j=0∨j=1:=by simp only [List.length_cons,List.length_nil] at hj; omega
   rw [h0] at hx
   rcases this with rfl | rfl
   ·simp only [List.getElem?_cons_zero] at hx; injection hx with hx; subst hx; rfl
   ·simp only [List.getElem?_cons_zero,List.getElem?_cons_succ] at hx; injection hx with hx; subst hx; rfl⟩)
  (h:=⟨z::rdr s.r::RB ver s.bad::l,t⟩) (fun j hj=>by
   have:j=0∨j=1:=by simp only [List.length_cons,List.length_nil] at hj; omega
   rcases this with rfl | rfl <;> rfl)
 have e:A.renL (fun i=>if i=0 then 2 else i) (.ptr 0 0::args) = .ptr 2 0::args:=by unfold A.renL; rw [(A.locL0 0 args ha).2]; rfl
 rw [e] at key
 refine key.mono ?_
 rintro v' h' ⟨v0,h0,⟨rfl,rfl⟩,rfl,rfl⟩
 exact ⟨(A.loc0 0 _ hv).2 _,rfl⟩
theorem versionS_12 {s:List UInt8} (h:(versionS s).2=0):(versionS s).1=1∨(versionS s).1=2:=by
 unfold versionS at h ⊢
 split at h
 ·cases h
 ·rename_i h1
  rw [if_neg h1]
  dsimp only at h ⊢
  split at h
  ·cases h
  ·rename_i h2
   rw [if_neg h2]
   split at h
   ·cases h
   ·rename_i h3
    rw [if_neg h3]
    dsimp only
    omega
theorem a_Decode (s:List UInt8) (hlen:s.length≤1000000000) (hvl:(Crc.ver s).1.length≤s.length) (hck:∀ ver r,r.rest.length≤s.length→SCheck (Sf.stateS ver ⟨r,false⟩).2) (h:Hp) :
  ACall Tryz.prog GT 5 [.str s] h fun r h'=>r = .tup [(Sf.decode s).1.A,.int .i64 (Sf.decode s).2]∧h'=h:=by
 refine pcall ?_ rfl (by simp [A.pure,A.data]) h
 refine fo ?_
 obtain ⟨D,hD⟩:∃ D,Sf.decode s=D:=⟨_,rfl⟩
 rw [hD]
 unfold Sf.decode at hD
 have hzA:Sf.zero.A = .agg [.str [],.int .i64 0,.sl 13 .no [],.sl 3 .no [],.sl 7 .no []]:=rfl
 have hz:∀ e:Int,le (.tup [.agg [.str [],.int .i64 0,.sl 0 .nil [],.sl 0 .nil [],.sl 0 .nil []],.int .i64 e]) (.tup [Sf.zero.A,.int .i64 e]):=fun e=>⟨⟨le1_refl _,le1_refl _,⟨rfl,.inr rfl,.inl rfl⟩,⟨rfl,.inr rfl,.inl rfl⟩,⟨rfl,.inr rfl,.inl rfl⟩,trivial⟩,rfl,trivial⟩
 by_cases hl:(s.length:Int) > 1048576
 ·rw [if_pos (by omega)] at hD
  refine run0 hl ?_
  exact ⟨_,hz _,by subst hD; rfl⟩
 rw [if_neg (by omega)] at hD
 refine run0 hl ?_
 refine use (a_hasPrefix s magic _) ?_
 by_cases hp:preB s=false
 ·rw [if_pos hp] at hD
  unfold preB at hp
  refine run0 hp ?_
  exact ⟨_,hz _,by subst hD; rfl⟩
 rw [if_neg hp] at hD
 have hp':(decide (magic.length≤s.length)&&s.take magic.length == magic)=true:=by unfold preB at hp; simpa using hp
 refine run0 hp' ?_
 refine use (a_csVerify s hlen _) ?_
 obtain ⟨⟨b,e⟩,hv⟩:∃ q,Crc.ver s=q:=⟨_,rfl⟩
 rw [hv] at hD hvl ⊢
 dsimp only at hD hvl ⊢
 by_cases he:e=0
 rotate_left
 ·have e1:(e != 0)=true:=by simp [he]
  rw [if_pos he] at hD
  refine run0 e1 ?_
  exact ⟨_,hz _,by subst hD; rfl⟩
 have e1:(e != 0)=false:=by simp [he]
 rw [if_neg (by simp [he])] at hD
 refine run0 e1 ?_
 refine use (a_version b (by omega) _) ?_
 have h12:=@versionS_12 b
 obtain ⟨⟨n,e2⟩,hn⟩:∃ q,versionS b=q:=⟨_,rfl⟩
 rw [hn] at hD h12 ⊢
 dsimp only at hD h12 ⊢
 by_cases he2:e2=0
 rotate_left
 ·have e3:(e2 != 0)=true:=by simp [he2]
  rw [if_pos he2] at hD
  refine run0 e3 ?_
  exact ⟨_,hz _,by subst hD; rfl⟩
 have e3:(e2 != 0)=false:=by simp [he2]
 rw [if_neg (by simp [he2])] at hD
 have hb4:4≤b.length:=by
  have hp4:preB b=true:=by
   rcases bool_or (preB b) with h1 | h1
   ·first | exact h1 | (exfalso; unfold versionS at hn; rw [if_pos h1] at hn; injection hn with _ hn; omega)
   ·first | exact h1 | (exfalso; unfold versionS at hn; rw [if_pos h1] at hn; injection hn with _ hn; omega)
  unfold preB at hp4
  have hml:magic.length=4:=rfl
  simp only [Bool.and_eq_true,decide_eq_true_eq,hml] at hp4
  exact hp4.1
 have hb5:(4:Int)≤(b.length:Int):=by omega
 refine run0 (ai e3 hb5) ?_
 refine use (a_newReader (b.drop 4) _) ?_
 refine run0 ti ?_
 refine use (a_number (i:=1) (r:=⟨b.drop 4,0⟩) rfl (by rw [List.length_drop]; omega)) ?_
 have hql:=Wire.numR_rest ⟨b.drop 4,0⟩
 obtain ⟨⟨q,qn⟩,hq⟩:∃ x,Wire.numR ⟨b.drop 4,0⟩=x:=⟨_,rfl⟩
 rw [hq] at hD hql ⊢
 dsimp only at hD hql ⊢
 rw [List.length_drop] at hql
 have cs:=liftD (a_rstate (h12 he2) ⟨q,false⟩ (by dsimp only; omega) [] []) rfl rfl (.cells 27 [.str [],.int .i64 0,.sl 0 .nil [],.sl 0 .nil [],.sl 0 .nil []]) [] []
 have hc:=hck n q (by omega)
 obtain ⟨⟨⟨r,bad⟩,st⟩,hs⟩:∃ x,Sf.stateS n ⟨q,false⟩=x:=⟨_,rfl⟩
 rw [hs] at cs hc hD
 unfold SCheck at hc
 unfold Sf.St.A at cs hc
 unfold RB at cs
 dsimp only at cs hc hD
 have cf:=liftD (a_rfails (ver:=n) ⟨r,bad⟩ [] []) rfl rfl (.cells 27 [.str [],.int .i64 0,.sl 0 .nil [],.sl 0 .nil [],.sl 0 .nil []]) [.cells 27 [.str st.lin,.int .i64 st.ser,.sl 13 .no (st.insts.map Sf.Inst.cells),.sl 3 .no (st.pends.map Sf.Pend.cells),.sl 7 .no (st.outs.map Sf.Outp.cells)]] []
 unfold RB at cf
 dsimp only at cf
 refine run0 ti ?_
 refine use cs ?_
 refine run0 ti ?_
 refine use cf ?_
 obtain ⟨F,hF⟩:∃ F,(⟨r,bad⟩:Sf.Rs).fails=F:=⟨_,rfl⟩
 rw [hF] at hD ⊢
 cases F
 rotate_left
 ·rw [if_pos (by simp only [Bool.true_or])] at hD
  refine run0 ti ?_
  exact ⟨_,hz _,by subst hD; rfl⟩
 simp only [Bool.false_or] at hD
 refine run0 ti ?_
 refine use (a_left (i:=1) (r:=r) rfl) ?_
 by_cases hL:(r.rest.length:Int) > 0
 ·rw [decide_eq_true (show 0 < r.rest.length by omega),if_pos (by simp only [Bool.true_or])] at hD
  refine run0 hL ?_
  exact ⟨_,hz _,by subst hD; rfl⟩
 have hL2:decide (0 < r.rest.length)=false:=decide_eq_false (by omega)
 simp only [hL2,Bool.false_or] at hD
 refine run0 hL ?_
 refine use (hc _) ?_
 by_cases hk:Sf.checkZ st=0
 ·have e4:(Sf.checkZ st != 0)=false:=by simp [hk]
  rw [if_neg (by simp [e4])] at hD
  refine run0 e4 ?_
  exact ⟨_,le_refl _,by subst hD; rfl⟩
 ·have e4:(Sf.checkZ st != 0)=true:=by simp [hk]
  rw [if_pos e4] at hD
  refine run0 e4 ?_
  exact ⟨_,hz _,by subst hD; rfl⟩
end AX
end Go.Proofs.YtdgcbckcameggaaGreatDoor

namespace Go.Proofs.YtdgcbckcameggaaGreatDoor
namespace Wire
end Wire
namespace Val
end Val
namespace Sf
theorem fails_iff (s:Rs):s.fails=false↔s.bad=false∧s.r.e=0:=by
 unfold Rs.fails
 rw [Bool.or_eq_false_iff,bne_eq_false_iff_eq]
end Sf
namespace Wire
theorem numR_bad {r:St} (h:r.e≠0):numR r=(r,0):=by unfold numR; rw [if_pos h]
theorem cntR_bad {r:St} (h:r.e≠0):cntR r 1=(r,0):=by unfold cntR; rw [if_pos h]
theorem strR_bad {r:St} (h:r.e≠0):strR r=(r,[]):=by unfold strR; rw [cntR_bad h]; dsimp only; rw [if_pos h]
end Wire
theorem Val.readValue_bad {r:Wire.St} (h:r.e≠0):Val.readValue r=(r,r.e,Val.zeroV):=by
 have e:Val.read 32 r=(r,r.e,Val.zeroV):=by
  show Val.readW (Val.read 31) r=_
  unfold Val.readW
  rw [if_pos h]
 unfold Val.readValue
 rw [e]
 dsimp only
 rw [if_pos h]
namespace Sf
open Wire (numR strR cntR numR_bad strR_bad cntR_bad)
def flagQ (r:Wire.St):Wire.St×Bool×Bool:=((numR r).1,(numR r).2 == 1,(numR r).1.e == 0&&((numR r).2 == 0||(numR r).2 == 1))
def wordsQ:Nat→Wire.St→List (List UInt8)→Wire.St×List (List UInt8)
 | 0,r,l=>(r,l)
 | c+1,r,l=>if r.e≠0 then (r,l) else wordsQ c (strR r).1 (l++[(strR r).2])
def zeroIn:Inst:=⟨[],[],[],[],.mk 0 0 [] [] [],0,false,false,[]⟩
def depsQ (r:Wire.St) (x:Inst):Wire.St×Inst×Bool:=
 let k:=cntR r 1
 let w:=wordsQ k.2 k.1 []
 (w.1,{ x with deps:=w.2 },w.1.e == 0)
def instQ (ver:Int) (r:Wire.St):Wire.St×Inst×Bool:=
 let a:=strR r
 let b:=strR a.1
 let c:=strR b.1
 let d:=strR c.1
 let v:=Val.readValue d.1
 if v.2.1≠0 then (v.1,zeroIn,false)
 else
  let n:=numR v.1
  let t:=flagQ n.1
  let f:=if ver≥2∧t.2.2=true then flagQ t.1 else (t.1,false,t.2.2)
  if f.2.2=false then (f.1,zeroIn,false) else depsQ f.1 ⟨a.2,b.2,c.2,d.2,v.2.2,n.2,t.2.1,f.2.1,[]⟩
def instsQ (ver:Int):Nat→Wire.St→List Inst→Option (Wire.St×List Inst)
 | 0,r,l=>some (r,l)
 | c+1,r,l=>if (instQ ver r).2.2=false then none else instsQ ver c (instQ ver r).1 (l++[(instQ ver r).2.1])
def pendQ (r:Wire.St):Wire.St×Pend:=
 let a:=strR r
 let b:=strR a.1
 let c:=strR b.1
 (c.1,⟨a.2,b.2,c.2⟩)
def pendsQ:Nat→Wire.St→List Pend→Wire.St×List Pend
 | 0,r,l=>(r,l)
 | c+1,r,l=>if r.e≠0 then (r,l) else pendsQ c (pendQ r).1 (l++[(pendQ r).2])
def outsQ:Nat→Wire.St→List Outp→Wire.St×List Outp×Bool
 | 0,r,l=>(r,l,r.e == 0)
 | c+1,r,l =>
  if r.e≠0 then (r,l,false)
  else
   let a:=strR r
   let v:=Val.readValue a.1
   if v.2.1≠0 then (v.1,[],false)
   else
    let f:=flagQ v.1
    if f.2.2=false then (f.1,[],false) else outsQ c f.1 (l++[⟨a.2,v.2.2,f.2.1⟩])
def stateQ (ver:Int) (r:Wire.St):St×Bool:=
 let a:=strR r
 let n:=numR a.1
 let k:=cntR n.1 1
 match instsQ ver k.2 k.1 [] with
 | none=>(zero,false)
 | some (r1,is) =>
  let p:=if ver≥2 then pendsQ (cntR r1 1).2 (cntR r1 1).1 [] else (r1,[])
  let co:=cntR p.1 1
  let o:=outsQ co.2 co.1 []
  (⟨a.2,n.2,is,p.2,o.2.1⟩,o.2.2&&o.1.rest.length == 0&&checkZ ⟨a.2,n.2,is,p.2,o.2.1⟩ == 0)
section
variable {s:Rs}
theorem fails_or:s.fails=true↔s.bad=true∨s.r.e≠0:=by
 unfold Rs.fails
 rw [Bool.or_eq_true,bne_iff_ne]
theorem numS_f (h:s.fails=true):(numS s).1.fails=true:=by
 rw [fails_or] at h ⊢
 rcases h with h | h
 ·exact .inl h
 ·refine .inr ?_
  unfold numS
  rw [numR_bad h]; exact h
theorem strS_f (h:s.fails=true):(strS s).1.fails=true:=by
 rw [fails_or] at h ⊢
 rcases h with h | h
 ·exact .inl h
 ·refine .inr ?_
  unfold strS
  rw [strR_bad h]; exact h
theorem cntS_f (h:s.fails=true):(cntS s).1.fails=true:=by
 rw [fails_or] at h ⊢
 rcases h with h | h
 ·exact .inl h
 ·refine .inr ?_
  unfold cntS
  rw [cntR_bad h]; exact h
theorem flagS_f (h:s.fails=true):(flagS s).1.fails=true:=by
 rw [fails_or] at h ⊢
 rcases h with h | h
 ·refine .inl ?_
  unfold flagS
  dsimp only
  rw [h]; rfl
 ·refine .inr ?_
  unfold flagS
  rw [numR_bad h]; exact h
theorem instsS_f {ver:Int}:∀ (c:Nat) (s:Rs) (l:List Inst),s.fails=true→(instsS ver c s l).1.fails=true
 | 0,s,l,h=>h
 | c+1,s,l,h=>by unfold instsS; rw [if_pos h]; exact h
theorem pendsS_f:∀ (c:Nat) (s:Rs) (l:List Pend),s.fails=true→(pendsS c s l).1.fails=true
 | 0,s,l,h=>h
 | c+1,s,l,h=>by unfold pendsS; exact pendsS_f c _ _ (strS_f (strS_f (strS_f h)))
theorem outsS_f:∀ (c:Nat) (s:Rs) (l:List Outp),s.fails=true→(outsS c s l).1.fails=true
 | 0,s,l,h=>h
 | c+1,s,l,h=>by unfold outsS; rw [if_pos h]; exact h
theorem wordsS_f:∀ (c:Nat) (s:Rs) (l:List (List UInt8)),s.fails=true→(wordsS c s l).1.fails=true
 | 0,s,l,h=>h
 | c+1,s,l,h=>wordsS_f c _ _ (strS_f h)
end
theorem bad_f (r:Wire.St) (h:r.e≠0):(⟨r,false⟩:Rs).fails=true:=fails_or.2 (.inr h)
theorem good_f (r:Wire.St) (h:r.e=0):(⟨r,false⟩:Rs).fails=false:=(fails_iff _).2 ⟨rfl,h⟩
theorem words_agree:∀ (c:Nat) (r:Wire.St) (l:List (List UInt8)),((wordsQ c r l).1.e=0→wordsS c ⟨r,false⟩ l=(⟨(wordsQ c r l).1,false⟩,(wordsQ c r l).2))∧((wordsQ c r l).1.e≠0→(wordsS c ⟨r,false⟩ l).1.fails=true)
 | 0,r,l=>⟨fun _=>rfl,fun h=>bad_f r h⟩
 | c+1,r,l=>by
  unfold wordsQ
  by_cases h:r.e≠0
  ·rw [if_pos h]
   exact ⟨fun h'=>absurd h' h,fun _=>wordsS_f _ _ _ (bad_f r h)⟩
  ·rw [if_neg h]
   exact words_agree c (strR r).1 _
theorem flag_agree (r:Wire.St):((flagQ r).2.2=true→flagS ⟨r,false⟩=(⟨(flagQ r).1,false⟩,(flagQ r).2.1))∧((flagQ r).2.2=false→(flagS ⟨r,false⟩).1.fails=true):=by
 unfold flagQ flagS
 dsimp only
 obtain ⟨⟨r1,n⟩,h1⟩:∃ q,numR r=q:=⟨_,rfl⟩
 rw [h1]
 dsimp only
 refine ⟨fun h=>?_,fun h=>?_⟩
 ·simp only [Bool.and_eq_true,Bool.or_eq_true,beq_iff_eq] at h
  rcases h.2 with e | e <;> subst e <;> rfl
 ·rw [fails_or]
  by_cases e:r1.e=0
  ·refine .inl ?_
   have e':(r1.e == 0)=true:=by simp [e]
   rw [e',Bool.true_and,Bool.or_eq_false_iff] at h
   simp [bne,h.1,h.2]
  ·exact .inr e
theorem inst_agree (ver:Int) (hv:ver=1∨ver=2) (r:Wire.St):((instQ ver r).2.2=true→instS ver ⟨r,false⟩=(⟨(instQ ver r).1,false⟩,(instQ ver r).2.1))∧((instQ ver r).2.2=false→(instS ver ⟨r,false⟩).1.fails=true):=by
 unfold instQ instS
 obtain ⟨⟨r1,x1⟩,h1⟩:∃ q,strR r=q:=⟨_,rfl⟩
 obtain ⟨⟨r2,x2⟩,h2⟩:∃ q,strR r1=q:=⟨_,rfl⟩
 obtain ⟨⟨r3,x3⟩,h3⟩:∃ q,strR r2=q:=⟨_,rfl⟩
 obtain ⟨⟨r4,x4⟩,h4⟩:∃ q,strR r3=q:=⟨_,rfl⟩
 have s1:strS ⟨r,false⟩=(⟨r1,false⟩,x1):=by unfold strS; rw [h1]
 have s2:strS ⟨r1,false⟩=(⟨r2,false⟩,x2):=by unfold strS; rw [h2]
 have s3:strS ⟨r2,false⟩=(⟨r3,false⟩,x3):=by unfold strS; rw [h3]
 have s4:strS ⟨r3,false⟩=(⟨r4,false⟩,x4):=by unfold strS; rw [h4]
 simp only [h1,h2,h3,h4,s1,s2,s3,s4]
 clear h1 h2 h3 h4 s1 s2 s3 s4
 obtain ⟨⟨r5,e5,v5⟩,h5⟩:∃ q,Val.readValue r4=q:=⟨_,rfl⟩
 have s5:valueS ⟨r4,false⟩=(⟨r5,e5 != 0⟩,v5):=by unfold valueS; rw [h5]; rfl
 simp only [h5,s5]
 clear h5 s5
 by_cases he:e5=0
 rotate_left
 ·rw [if_pos he]
  refine ⟨fun h=>(by cases h),fun _=>?_⟩
  have f0:(⟨r5,e5 != 0⟩:Rs).fails=true:=fails_or.2 (.inl (by simp [he]))
  have f1:=flagS_f (numS_f f0)
  refine wordsS_f _ _ _ (cntS_f ?_)
  split
  ·exact flagS_f f1
  ·exact f1
 subst he
 rw [if_neg (by decide)]
 have eb:((0:Int) != 0)=false:=rfl
 rw [eb]
 obtain ⟨⟨r6,x6⟩,h6⟩:∃ q,numR r5=q:=⟨_,rfl⟩
 have s6:numS ⟨r5,false⟩=(⟨r6,false⟩,x6):=by unfold numS; rw [h6]
 simp only [h6,s6]
 clear h6 s6
 have h7:=flag_agree r6
 obtain ⟨⟨r7,x7,o7⟩,hq7⟩:∃ q,flagQ r6=q:=⟨_,rfl⟩
 rw [hq7] at h7 ⊢
 dsimp only at h7 ⊢
 cases o7 with
 | false =>
  rw [show (if ver≥2∧false=true then flagQ r7 else (r7,false,false))=(r7,false,false) from if_neg (by rintro ⟨_,h⟩; cases h)]
  dsimp only
  rw [if_pos rfl]
  refine ⟨fun h=>(by cases h),fun _=>?_⟩
  have f1:=h7.2 rfl
  refine wordsS_f _ _ _ (cntS_f ?_)
  split
  ·exact flagS_f f1
  ·exact f1
 | true =>
  rw [h7.1 rfl]
  dsimp only
  have tail:∀ (r8:Wire.St) (x:Inst),((depsQ r8 x).2.2=true→((wordsS (cntS ⟨r8,false⟩).2 (cntS ⟨r8,false⟩).1 []).1,({ x with deps:=(wordsS (cntS ⟨r8,false⟩).2 (cntS ⟨r8,false⟩).1 []).2 }:Inst))=(⟨(depsQ r8 x).1,false⟩,(depsQ r8 x).2.1))∧((depsQ r8 x).2.2=false→(wordsS (cntS ⟨r8,false⟩).2 (cntS ⟨r8,false⟩).1 []).1.fails=true):=by
   intro r8 x
   unfold depsQ cntS
   dsimp only
   obtain ⟨a1,a2⟩:=words_agree (cntR r8 1).2 (cntR r8 1).1 []
   refine ⟨fun h=>?_,fun h=>a2 (by simpa using h)⟩
   rw [a1 (by simpa using h)]
  rcases hv with rfl | rfl
  ·rw [show (if (1:Int)≥2∧true=true then flagQ r7 else (r7,false,true))=(r7,false,true) from if_neg (by rintro ⟨h,_⟩; exact absurd h (by decide)),if_neg (show ¬ (1:Int)=2 by decide)]
   dsimp only
   rw [if_neg (by decide)]
   exact tail r7 _
  ·rw [show (if (2:Int)≥2∧true=true then flagQ r7 else (r7,false,true))=flagQ r7 from if_pos ⟨by decide,rfl⟩,if_pos rfl]
   have h8:=flag_agree r7
   obtain ⟨⟨r8,x8,o8⟩,hq8⟩:∃ q,flagQ r7=q:=⟨_,rfl⟩
   rw [hq8] at h8 ⊢
   dsimp only at h8 ⊢
   cases o8 with
   | false =>
    rw [if_pos rfl]
    exact ⟨fun h=>(by cases h),fun _=>wordsS_f _ _ _ (cntS_f (h8.2 rfl))⟩
   | true =>
    rw [if_neg (by decide),h8.1 rfl]
    exact tail r8 _
theorem instQ_bad {ver:Int} {r:Wire.St} (h:r.e≠0):(instQ ver r).2.2=false:=by
 unfold instQ
 simp only [strR_bad h,Val.readValue_bad h]
 rw [if_pos h]
theorem insts_agree (ver:Int) (hv:ver=1∨ver=2):∀ (c:Nat) (r:Wire.St) (l:List Inst),(∀ r' l',instsQ ver c r l=some (r',l')→instsS ver c ⟨r,false⟩ l=(⟨r',false⟩,l',true))∧(instsQ ver c r l=none→(instsS ver c ⟨r,false⟩ l).1.fails=true)
 | 0,r,l=>⟨fun r' l' h=>by
   unfold instsQ at h
   injection h with h; injection h with h1 h2
   subst h1; subst h2; rfl,fun h=>by unfold instsQ at h; cases h⟩
 | c+1,r,l=>by
  unfold instsQ instsS
  by_cases he:r.e≠0
  ·rw [if_pos (instQ_bad he),if_pos (bad_f r he)]
   exact ⟨fun _ _ h=>(by cases h),fun _=>bad_f r he⟩
  ·rw [if_neg (show ¬ (⟨r,false⟩:Rs).fails=true by rw [good_f r (by simpa using he)]; decide)]
   obtain ⟨i1,i2⟩:=inst_agree ver hv r
   cases hq:(instQ ver r).2.2 with
   | false =>
    rw [if_pos rfl]
    exact ⟨fun _ _ h=>(by cases h),fun _=>instsS_f _ _ _ (i2 hq)⟩
   | true =>
    rw [if_neg (by decide),i1 hq]
    exact insts_agree ver hv c _ _
theorem pends_agree:∀ (c:Nat) (r:Wire.St) (l:List Pend),((pendsQ c r l).1.e=0→pendsS c ⟨r,false⟩ l=(⟨(pendsQ c r l).1,false⟩,(pendsQ c r l).2))∧((pendsQ c r l).1.e≠0→(pendsS c ⟨r,false⟩ l).1.fails=true)
 | 0,r,l=>⟨fun _=>rfl,fun h=>bad_f r h⟩
 | c+1,r,l=>by
  unfold pendsQ
  by_cases h:r.e≠0
  ·rw [if_pos h]
   exact ⟨fun h'=>absurd h' h,fun _=>pendsS_f _ _ _ (bad_f r h)⟩
  ·rw [if_neg h]
   exact pends_agree c (pendQ r).1 _
theorem outs_agree:∀ (c:Nat) (r:Wire.St) (l:List Outp),((outsQ c r l).2.2=true→outsS c ⟨r,false⟩ l=(⟨(outsQ c r l).1,false⟩,(outsQ c r l).2.1,true))∧((outsQ c r l).2.2=false→(outsS c ⟨r,false⟩ l).1.fails=true)
 | 0,r,l=>⟨fun _=>rfl,fun h=>bad_f r (by
   have h:(r.e == 0)=false:=h
   simpa using h)⟩
 | c+1,r,l=>by
  unfold outsQ outsS
  by_cases h:r.e≠0
  ·rw [if_pos h,if_pos (bad_f r h)]
   exact ⟨fun h'=>(by cases h'),fun _=>bad_f r h⟩
  rw [if_neg h,if_neg (show ¬ (⟨r,false⟩:Rs).fails=true by rw [good_f r (by simpa using h)]; decide)]
  unfold outS
  obtain ⟨⟨r1,x1⟩,h1⟩:∃ q,strR r=q:=⟨_,rfl⟩
  have s1:strS ⟨r,false⟩=(⟨r1,false⟩,x1):=by unfold strS; rw [h1]
  obtain ⟨⟨r5,e5,v5⟩,h5⟩:∃ q,Val.readValue r1=q:=⟨_,rfl⟩
  have s5:valueS ⟨r1,false⟩=(⟨r5,e5 != 0⟩,v5):=by unfold valueS; rw [h5]; rfl
  simp only [h1,s1,h5,s5]
  by_cases he:e5=0
  rotate_left
  ·rw [if_pos he]
   exact ⟨fun h'=>(by cases h'),fun _=>outsS_f _ _ _ (flagS_f (fails_or.2 (.inl (by simp [he]))))⟩
  subst he
  rw [if_neg (by decide)]
  have eb:((0:Int) != 0)=false:=rfl
  rw [eb]
  obtain ⟨f1,f2⟩:=flag_agree r5
  cases hq:(flagQ r5).2.2 with
  | false =>
   rw [if_pos rfl]
   exact ⟨fun h'=>(by cases h'),fun _=>outsS_f _ _ _ (f2 hq)⟩
  | true =>
   rw [if_neg (by decide),f1 hq]
   exact outs_agree c _ _
theorem state_agree (ver:Int) (hv:ver=1∨ver=2) (r:Wire.St):((stateQ ver r).2=true→((stateS ver ⟨r,false⟩).1.fails||decide (0 < (stateS ver ⟨r,false⟩).1.r.rest.length)||checkZ (stateS ver ⟨r,false⟩).2 != 0)=false∧(stateS ver ⟨r,false⟩).2=(stateQ ver r).1) ∧
  ((stateQ ver r).2=false→((stateS ver ⟨r,false⟩).1.fails||decide (0 < (stateS ver ⟨r,false⟩).1.r.rest.length)||checkZ (stateS ver ⟨r,false⟩).2 != 0)=true):=by
 unfold stateQ stateS
 obtain ⟨⟨r1,x1⟩,h1⟩:∃ q,strR r=q:=⟨_,rfl⟩
 have s1:strS ⟨r,false⟩=(⟨r1,false⟩,x1):=by unfold strS; rw [h1]
 obtain ⟨⟨r2,x2⟩,h2⟩:∃ q,numR r1=q:=⟨_,rfl⟩
 have s2:numS ⟨r1,false⟩=(⟨r2,false⟩,x2):=by unfold numS; rw [h2]
 obtain ⟨⟨r3,c3⟩,h3⟩:∃ q,cntR r2 1=q:=⟨_,rfl⟩
 have s3:cntS ⟨r2,false⟩=(⟨r3,false⟩,c3):=by unfold cntS; rw [h3]
 simp only [h1,s1,h2,s2,h3,s3]
 clear h1 h2 h3 s1 s2 s3
 obtain ⟨i1,i2⟩:=insts_agree ver hv c3 r3 []
 cases hi:instsQ ver c3 r3 [] with
 | none =>
  have f:=i2 hi
  dsimp only
  refine ⟨fun h=>(by cases h),fun _=>?_⟩
  obtain ⟨I,hI⟩:∃ I,instsS ver c3 ⟨r3,false⟩ []=I:=⟨_,rfl⟩
  rw [hI] at f ⊢
  have key:∀ (q:Rs×St),q.1.fails=true→(q.1.fails||decide (0 < q.1.r.rest.length)||checkZ q.2 != 0)=true:=fun q h=>by rw [h]; rfl
  refine key _ ?_
  split
  ·exact f
  ·refine outsS_f _ _ _ (cntS_f ?_)
   split
   ·exact pendsS_f _ _ _ (cntS_f f)
   ·exact f
 | some p =>
  obtain ⟨r4,is⟩:=p
  rw [i1 _ _ hi]
  dsimp only
  rw [if_neg (show ¬ (true=false) by decide)]
  have hge:(ver≥2)↔ver=2:=by omega
  have main:∀ (r5:Wire.St) (ps:List Pend),((outsQ (cntR r5 1).2 (cntR r5 1).1 []).2.2&&(outsQ (cntR r5 1).2 (cntR r5 1).1 []).1.rest.length == 0&&checkZ ⟨x1,x2,is,ps,(outsQ (cntR r5 1).2 (cntR r5 1).1 []).2.1⟩ == 0)=true →
    ((outsS (cntS ⟨r5,false⟩).2 (cntS ⟨r5,false⟩).1 []).1.fails||decide (0 < (outsS (cntS ⟨r5,false⟩).2 (cntS ⟨r5,false⟩).1 []).1.r.rest.length)||checkZ ⟨x1,x2,is,ps,(outsS (cntS ⟨r5,false⟩).2 (cntS ⟨r5,false⟩).1 []).2.1⟩ != 0)=false∧(⟨x1,x2,is,ps,(outsS (cntS ⟨r5,false⟩).2 (cntS ⟨r5,false⟩).1 []).2.1⟩:St)=⟨x1,x2,is,ps,(outsQ (cntR r5 1).2 (cntR r5 1).1 []).2.1⟩:=by
   intro r5 ps h
   have sc:cntS ⟨r5,false⟩=(⟨(cntR r5 1).1,false⟩,(cntR r5 1).2):=rfl
   rw [sc]
   dsimp only
   rw [Bool.and_eq_true,Bool.and_eq_true,beq_iff_eq,beq_iff_eq] at h
   obtain ⟨⟨h1,h2⟩,h3⟩:=h
   rw [(outs_agree _ _ _).1 h1]
   dsimp only
   have e0:(outsQ (cntR r5 1).2 (cntR r5 1).1 []).1.e=0:=by
    have:∀ (c:Nat) (r:Wire.St) (l:List Outp),(outsQ c r l).2.2=true→(outsQ c r l).1.e=0:=fun c=>by
     induction c with
     | zero=>intro r l h; have h:(r.e == 0)=true:=h; show r.e=0; simpa using h
     | succ c ih =>
      intro r l h
      unfold outsQ at h ⊢
      split at h
      ·cases h
      next n1 =>
      rw [if_neg n1]
      dsimp only at h ⊢
      split at h
      ·cases h
      next n2 =>
      rw [if_neg n2]
      split at h
      ·cases h
      next n3 =>
      rw [if_neg n3]
      exact ih _ _ h
    exact this _ _ _ h1
   rw [good_f _ e0,h2,h3]
   exact ⟨rfl,rfl⟩
  have main2:∀ (r5:Wire.St) (ps:List Pend),((outsQ (cntR r5 1).2 (cntR r5 1).1 []).2.2&&(outsQ (cntR r5 1).2 (cntR r5 1).1 []).1.rest.length == 0&&checkZ ⟨x1,x2,is,ps,(outsQ (cntR r5 1).2 (cntR r5 1).1 []).2.1⟩ == 0)=false →
    ((outsS (cntS ⟨r5,false⟩).2 (cntS ⟨r5,false⟩).1 []).1.fails||decide (0 < (outsS (cntS ⟨r5,false⟩).2 (cntS ⟨r5,false⟩).1 []).1.r.rest.length)||checkZ ⟨x1,x2,is,ps,(outsS (cntS ⟨r5,false⟩).2 (cntS ⟨r5,false⟩).1 []).2.1⟩ != 0)=true:=by
   intro r5 ps h
   have sc:cntS ⟨r5,false⟩=(⟨(cntR r5 1).1,false⟩,(cntR r5 1).2):=rfl
   rw [sc]
   dsimp only
   obtain ⟨o1,o2⟩:=outs_agree (cntR r5 1).2 (cntR r5 1).1 []
   cases ho:(outsQ (cntR r5 1).2 (cntR r5 1).1 []).2.2 with
   | false=>rw [o2 ho]; rfl
   | true =>
    rw [o1 ho]
    dsimp only
    rw [ho,Bool.true_and,Bool.and_eq_false_iff] at h
    rcases h with h | h
    ·have:0 < (outsQ (cntR r5 1).2 (cntR r5 1).1 []).1.rest.length:=by
      have:(outsQ (cntR r5 1).2 (cntR r5 1).1 []).1.rest.length≠0:=by simpa using h
      omega
     rw [decide_eq_true this]; simp
    ·have:(checkZ ⟨x1,x2,is,ps,(outsQ (cntR r5 1).2 (cntR r5 1).1 []).2.1⟩ != 0)=true:=by
      rw [bne,h]; rfl
     rw [this]; simp
  by_cases h2:ver=2
  ·rw [if_pos (hge.2 h2),if_pos h2]
   have sc:cntS ⟨r4,false⟩=(⟨(cntR r4 1).1,false⟩,(cntR r4 1).2):=rfl
   rw [sc]
   dsimp only
   obtain ⟨p1,p2⟩:=pends_agree (cntR r4 1).2 (cntR r4 1).1 []
   by_cases he:(pendsQ (cntR r4 1).2 (cntR r4 1).1 []).1.e=0
   ·rw [p1 he]
    dsimp only
    exact ⟨main _ _,main2 _ _⟩
   ·have f:=p2 he
    have hno:(outsQ (cntR (pendsQ (cntR r4 1).2 (cntR r4 1).1 []).1 1).2 (cntR (pendsQ (cntR r4 1).2 (cntR r4 1).1 []).1 1).1 []).2.2=false:=by
     rw [cntR_bad he]
     show (_ == _)=false
     simpa using he
    rw [hno,Bool.false_and,Bool.false_and]
    refine ⟨fun h=>(by cases h),fun _=>?_⟩
    rw [outsS_f _ _ _ (cntS_f f)]; rfl
  ·rw [if_neg (fun h=>h2 (hge.1 h)),if_neg h2]
   dsimp only
   exact ⟨main _ _,main2 _ _⟩
def decodeQ (s:List UInt8):St×Int:=
 if 1048576 < s.length then (zero,3)
 else if AX.preB s=false then (zero,2)
 else if (Crc.ver s).2≠0 then (zero,20)
 else if (AX.versionS (Crc.ver s).1).2≠0 then (zero,(AX.versionS (Crc.ver s).1).2)
 else if (stateQ (AX.versionS (Crc.ver s).1).1 (numR ⟨(Crc.ver s).1.drop 4,0⟩).1).2=false then (zero,2) else ((stateQ (AX.versionS (Crc.ver s).1).1 (numR ⟨(Crc.ver s).1.drop 4,0⟩).1).1,0)
theorem version_one (s:List UInt8) (h:(AX.versionS s).2=0):(AX.versionS s).1=1∨(AX.versionS s).1=2:=by
 unfold AX.versionS at h ⊢
 split at h
 ·exact absurd h (by decide)
 next h1 =>
 rw [if_neg h1]
 dsimp only at h ⊢
 split at h
 ·exact absurd h (by decide)
 next h2 =>
 rw [if_neg h2]
 split at h
 ·exact absurd h (by decide)
 next h3 =>
 rw [if_neg h3]
 dsimp only
 omega
theorem decode_agree (s:List UInt8):decodeQ s=decode s:=by
 unfold decodeQ decode
 split
 ·rfl
 split
 ·rfl
 split
 ·rfl
 split
 ·rfl
 next h =>
 obtain ⟨a1,a2⟩:=state_agree _ (version_one _ (by simpa using h)) (numR ⟨(Crc.ver s).1.drop 4,0⟩).1
 cases hq:(stateQ (AX.versionS (Crc.ver s).1).1 (numR ⟨(Crc.ver s).1.drop 4,0⟩).1).2 with
 | false =>
  rw [if_pos rfl]
  dsimp only
  rw [if_pos (a2 hq)]
 | true =>
  rw [if_neg (by decide)]
  obtain ⟨b1,b2⟩:=a1 hq
  dsimp only
  rw [if_neg (by rw [b1]; decide),b2]
end Sf
end Go.Proofs.YtdgcbckcameggaaGreatDoor

namespace Go.Proofs.YtdgcbckcameggaaGreatDoor
open Go.RowKit
namespace AX
section
variable {l l':List UInt8} {e e':Int}
theorem a_q4num {n:Int} (hr:Wire.numR ⟨l,e⟩=(⟨l',e'⟩,n)) (hl:l.length≤100000000) (h:Hp):ACall Tryz.prog GT 22 [.agg [.str l,.int .i64 e]] h fun v h'=>v = .tup [.agg [.str l',.int .i64 e'],.int .i64 n]∧h'=h:=by
 have:=a_refNumber ⟨l,e⟩ hl h
 rw [hr] at this; exact this
theorem a_q4cnt {n:Nat} (hr:Wire.cntR ⟨l,e⟩ 1=(⟨l',e'⟩,n)) (hl:l.length≤100000000) (h:Hp):ACall Tryz.prog GT 54 [.agg [.str l,.int .i64 e],.int .i64 1] h fun v h'=>v = .tup [.agg [.str l',.int .i64 e'],.int .i64 (n:Nat)]∧h'=h:=by
 have:=a_refCount ⟨l,e⟩ hl h
 rw [hr] at this; exact this
theorem a_q4str {s:List UInt8} (hr:Wire.strR ⟨l,e⟩=(⟨l',e'⟩,s)) (hl:l.length≤100000000) (h:Hp):ACall Tryz.prog GT 53 [.agg [.str l,.int .i64 e]] h fun v h'=>v = .tup [.agg [.str l',.int .i64 e'],.str s]∧h'=h:=by
 have:=a_refString ⟨l,e⟩ hl h
 rw [hr] at this; exact this
theorem a_q4left (h:Hp):ACall Tryz.prog GT 57 [.agg [.str l,.int .i64 e]] h fun v h'=>v = .int .i64 l.length∧h'=h:=a_refLeft ⟨l,e⟩ h
theorem a_q3ver (hl:l.length≤1000000000) (h:Hp):ACall Tryz.prog GT 21 [.str l] h fun v h'=>v = .tup [.str (Crc.ver l).1,.int .i64 (Crc.ver l).2]∧h'=h:=
 acall_imp (args1 r_str) (fun w hg=>refVerify_any ⟨l.toArray⟩ w (by rw [size_mk]; exact hl)) (fun C=>rep_tup.2 ⟨_,rfl,repL_cons.2 ⟨_,_,rfl,rep_str.2 rfl,repL_cons.2 ⟨_,_,rfl,rep_int.2 rfl,repL_nil.2 rfl⟩⟩⟩) h
def c_q32flag:AX.AFn:=⟨26,aS [aR 1 (.box 54 (.t 0)),aR 2 (.alloc 54 [.str [],.int .i64 0]),aR 3 (.mv (.c (.bool false))),aR 4 (.mv (.c (.bool false)))] (aS [aR 8 (.load true 2 (.t 1)),aR 9 (.call 22 [.t 8]),aM 7 9,aE 10 7 0,aE 11 7 1,aR 5 (.alloc 54 [.str [],.int .i64 0]),aU (.store 2 (.t 5) (.t 10)),aM 6 11] (aS [aR 12 (.load true 2 (.t 5)),aM 13 6,aR 14 (.bin .eql (.t 13) (aI 1)),aF 15 1 5,aL 16 15,aR 17 (.bin .eql (.t 16) (aI 0)),aM 18 17,aG 19 (.mv (.t 6)) 18 true,aG 20 (.bin .eql (.t 19) (aI 0)) 18 true,aG 21 (.mv (.t 20)) 18 true,aG 22 (.mv (.t 6)) 21 false,aG 23 (.bin .eql (.t 22) (aI 1)) 21 false,aG 24 (.pick (.t 21) (.c (.bool true)) (.t 23)) 18 true,aR 25 (.pick (.t 18) (.t 24) (.c (.bool false))),aU (.store 2 (.t 2) (.t 12)),aM 3 14,aM 4 25] (.ret))),[.c 2 true 2,.t 3,.t 4]⟩
theorem h_q32flag:AX.compFn Tryz.prog 79=some c_q32flag:=by kernel_rfl
theorem a_q32flag {b ok:Bool} (hr:Sf.flagQ ⟨l,e⟩=(⟨l',e'⟩,b,ok)) (hl:l.length≤100000000) (h:Hp):ACall Tryz.prog GT 79 [.agg [.str l,.int .i64 e]] h fun v h'=>v = .tup [.agg [.str l',.int .i64 e'],.bool b,.bool ok]∧h'=h:=by
 unfold Sf.flagQ at hr
 obtain ⟨⟨⟨l1,e1⟩,n⟩,hn⟩:∃ q,Wire.numR ⟨l,e⟩=q:=⟨_,rfl⟩
 have c:=a_q4num hn hl
 rw [hn] at hr
 injection hr with h1 hr; injection hr with h2 h3
 injection h1 with h0 h1
 subst h0; subst h1; subst h2; subst h3
 refine pcall ?_ rfl (by simp [A.pure,A.data]) h
 refine acall_of mixedT h_q32flag (by simp [c_q32flag]) ?_
 dsimp only [c_q32flag]
 refine runx0 ti (ai c ti) ?_
 exact ⟨_,le_refl _,rfl⟩
end
end AX
end Go.Proofs.YtdgcbckcameggaaGreatDoor
