/- Part of what the proof needs. -/
import Derived.Test.YtahmpiioegemaaaGreatDoorMFrJournalRecordsUptoE
import Derived.Test.YtahmpiioegemaaaGreatDoorMFrJournalRecordsUptoF
import Derived.Test.YtahmpiioegemaaaGreatDoorMFrJournalRecordsUptoH
import Derived.Test.YtahmpiioegemaaaGreatDoorMFrJournalRecordsUptoL
import Derived.Test.YtahmpiioegemaaaGreatDoorMFrJournalRecordsUptoM
import Derived.Test.YtahmpiioegemaaaGreatDoorMFrJournalRecordsUptoO
import Derived.Test.YtahmpiioegemaaaGreatDoorMFrJournalRecordsUptoP
set_option maxHeartbeats 4000000
set_option linter.unusedSimpArgs false
set_option linter.unusedVariables false
set_option linter.unnecessarySimpa false
namespace Go.Proofs.YtahmpiioegemaaaGreatDoor
open Go.RowKit
open Go.Op (bytesLess)
namespace AX
structure Sf.StIn (s:Sf.St):Prop where
 lin:s.lin.length≤2000000
 insts:∀ x∈s.insts,Sf.InstIn x
 pends:∀ x∈s.pends,x.addr.length≤2000000∧x.tok.length≤2000000
 outs:∀ x∈s.outs,x.name.length≤2000000∧x.value.lens
 li:s.insts.length≤1000000000
 lp:s.pends.length≤1000000000
 lo:s.outs.length≤1000000000
theorem a_scheck (L:Leafs) (st:Sf.St) (ok:Sf.StIn st):SCheck st:=by
 intro h
 obtain ⟨lin,ser,ins,ps,os⟩:=st
 have ct:=fun h=>L.text lin ok.lin h
 have li:ins.length≤1000000000:=ok.li
 have lp:ps.length≤1000000000:=ok.lp
 have lo:os.length≤1000000000:=ok.lo
 have lm1:(ins.map Sf.Inst.cells).length=ins.length:=List.length_map _
 have lm2:(ps.map Sf.Pend.cells).length=ps.length:=List.length_map _
 have lm3:(os.map Sf.Outp.cells).length=os.length:=List.length_map _
 obtain ⟨Z,hZ⟩:∃ Z,Sf.checkZ ⟨lin,ser,ins,ps,os⟩=Z:=⟨_,rfl⟩
 rw [hZ]
 unfold Sf.checkZ at hZ
 dsimp only at hZ
 refine pcall ?_ rfl (by simp [A.pure,A.data,Sf.St.A]) h
 refine fo ?_
 dsimp only [Sf.St.A]
 refine run0 ti ?_
 refine use (ct _) ?_
 cases hT:Sf.text lin
 ·rw [hT,if_pos (by decide)] at hZ
  subst hZ
  refine run0 ti ?_
  exact ⟨_,le_refl _,rfl⟩
 rw [hT,if_neg (by decide)] at hZ
 by_cases s0:ser < 0
 ·rw [if_pos (.inl s0)] at hZ
  subst hZ
  refine run0 s0 ?_
  exact ⟨_,le_refl _,rfl⟩
 by_cases s1:ser > 9007199254740992
 ·rw [if_pos (.inr s1)] at hZ
  subst hZ
  refine run0 (ai s0 s1) ?_
  exact ⟨_,le_refl _,rfl⟩
 rw [if_neg (by omega)] at hZ
 obtain ⟨mx,hmx⟩:∃ mx:Int,(if (os.length:Int) > (if (ps.length:Int) > (ins.length:Int) then (ps.length:Int) else (ins.length:Int)) then (os.length:Int) else (if (ps.length:Int) > (ins.length:Int) then (ps.length:Int) else (ins.length:Int)))=mx:=⟨_,rfl⟩
 have hm5:mx > 512↔(512 < ins.length∨512 < ps.length∨512 < os.length):=by
  rw [←hmx]; split <;> split <;> omega
 by_cases hm:mx > 512
 ·rw [if_pos (hm5.1 hm)] at hZ
  subst hZ
  refine run0 (ai s0 (ai s1 (ai lm1 (ai lm2 (ai lm3 (ai hmx hm)))))) ?_
  exact ⟨_,le_refl _,rfl⟩
 rw [if_neg (fun e=>hm (hm5.2 e))] at hZ
 obtain ⟨I,hI⟩:∃ I,Sf.instsZ none ins=I:=⟨_,rfl⟩
 obtain ⟨P,hP⟩:∃ P,Sf.pendsZ none ps=P:=⟨_,rfl⟩
 obtain ⟨O,hO⟩:∃ O,Sf.outsZ none os=O:=⟨_,rfl⟩
 have fi1:∀ z,z≠0→z=I→Z=z:=fun z h e=>by rw [hI,←e,if_pos h] at hZ; exact hZ.symm
 have fi2:I=0→(if P≠0 then P else O)=Z:=fun e=>by rw [hI,hP,hO,e,if_neg (by simp)] at hZ; exact hZ
 refine run0 (ai s0 (ai s1 (ai lm1 (ai lm2 (ai lm3 (ai hmx hm)))))) ?_
 refine awp_loop (fun mm ts h=>∃ (j:Nat) (l:List Blk),mm=ins.length - j∧j≤ins.length∧h=⟨.cells 27 [.str lin,.int .i64 ser,.sl 13 .no (ins.map Sf.Inst.cells),.sl 3 .no (ps.map Sf.Pend.cells),.sl 7 .no (os.map Sf.Outp.cells)]::l,[]⟩∧Sf.instsZ (if j=0 then none else ins[j - 1]?) (ins.drop j)=I∧ts 1 = .ptr 0 0∧ts 35 = .sl 13 .no (ins.map Sf.Inst.cells)∧ts 36 = .int .i64 (ins.length:Nat)∧ts 37 = .int .i64 (j:Nat)) ins.length ?_ ?_
 ·exact ⟨0,[],by omega,by omega,rfl,hI,by (exact ev0 ti),by (exact ev0 ti),by (exact ev0 (ai lm1 (ai lm2 lm3))),by (exact inv0 ti)⟩
 rintro mm ts h ⟨j,l,rfl,hjc,rfl,hit,t1,ta,tb,tc⟩
 by_cases hj:j < ins.length
 ·have hlt:(j:Int) < (ins.length:Int):=by omega
  have hlt':(j:Int) < ((ins.map Sf.Inst.cells).length:Int):=by rw [List.length_map]; exact hlt
  have hj0:(0:Int)≤(j:Int):=by omega
  have ei:IntKind.i64.wrap ((j:Int)+1)=((j+1:Nat):Int):=by rw [wrap64 (by omega) (by omega)]; omega
  have hg:=map_getD Sf.Inst.cells ins j hj
  have hm:=List.getElem_mem hj
  rw [List.drop_eq_getElem_cons hj] at hit
  obtain ⟨x,hx⟩:∃ x,ins[j]=x:=⟨_,rfl⟩
  rw [hx] at hit hg hm
  have ci:=fun h=>a_instance L x (ok.insts x hm) h
  have cp:=fun h=>a_placeOf x h
  have hxj:ins[j]?=some x:=by rw [List.getElem?_eq_getElem hj,hx]
  have hx2:∃ x2,x=x2:=⟨_,rfl⟩
  unfold Sf.instsZ at hit
  obtain ⟨Z1,hZ1⟩:∃ z,Sf.instZ x=z:=⟨_,rfl⟩
  rw [hZ1] at ci hit
  have cge:=fun y=>cmp2_ge y x
  have cc:=fun (y:Sf.Inst) h=>a_compare L y.addr y.dep x.addr x.dep h
  have nx:Sf.instsZ (some x) (ins.drop (j+1))=I→Sf.instsZ (if j+1=0 then none else ins[j+1 - 1]?) (ins.drop (j+1))=I:=fun e=>by rw [if_neg (by omega),Nat.add_sub_cancel,hxj]; exact e
  clear hx2 hm hZ1
  have cells:∃ a d id ty k n s is ks v tn fi ds,x=⟨a,d,id,ty,.mk k n s is ks,v,tn,fi,ds⟩:=by obtain ⟨a,d,id,ty,⟨k,n,s,is,ks⟩,v,tn,fi,ds⟩:=x; exact ⟨_,_,_,_,_,_,_,_,_,_,_,_,_,rfl⟩
  obtain ⟨a,d,id,ty,k,n,s,is,ks,v,tn,fi,ds,hxe⟩:=cells
  have hxc:x.cells=[.str a,.str d,.str id,.str ty,.int .i64 k,.int .i64 n,.str s,.sl 5 .no (V.cellss is),.sl 1 .no (strsA ks),.int .i64 v,.bool tn,.bool fi,.sl 1 .no (strsA ds)]:=by rw [hxe]; rfl
  rw [hxc] at ci cp hg
  refine run0 (ai t1 (ai ta (ai tb (ai tc (ai hlt (ai hg (ai hlt' hj0))))))) ?_
  refine use (ci _) ?_
  by_cases hz:Z1=0
  rotate_left
  ·have e1:(Z1 != 0)=true:=by simp [hz]
   rw [if_pos hz] at hit
   have hZf:=fi1 Z1 hz hit
   refine run0 (ai t1 (ai ta (ai tb (ai tc e1)))) ?_
   exact ⟨_,le_refl _,by rw [hZf]; rfl⟩
  have e1:(Z1 != 0)=false:=by simp [hz]
  rw [if_neg (by simp [hz])] at hit
  cases j with
  | zero =>
   have h0:¬ ((0:Nat):Int) > 0:=by omega
   simp only [if_true,Bool.false_eq_true,if_false] at hit
   refine run0 (ai t1 (ai ta (ai tb (ai tc (ai e1 (ai h0 ei)))))) ?_
   exact ⟨ins.length - (0+1),by omega,0+1,l++[.cells 36 [.str a,.str d,.str id,.str ty,.int .i64 k,.int .i64 n,.str s,.sl 5 .no (V.cellss is),.sl 1 .no (strsA ks),.int .i64 v,.bool tn,.bool fi,.sl 1 .no (strsA ds)]],rfl,by omega,rfl,nx hit,by (exact ev0 t1),by (exact ev0 ta),by (exact ev0 tb),by (exact ev0 ei)⟩
  | succ i =>
   have h0:((i+1:Nat):Int) > 0:=by omega
   have ej:IntKind.i64.wrap (((i+1:Nat):Int) - 1)=(i:Int):=by rw [wrap64 (by omega) (by omega)]; omega
   have hg2:=map_getD Sf.Inst.cells ins i (by omega)
   have hi':(i:Int) < ((ins.map Sf.Inst.cells).length:Int):=by rw [List.length_map]; omega
   have hi0:(0:Int)≤(i:Int):=by omega
   have hki:ins[i+1 - 1]?=some (ins[i]'(by omega)):=List.getElem?_eq_getElem (by omega)
   rw [show (if i+1=0 then none else ins[i+1 - 1]?)=(some (ins[i]'(by omega))) from by rw [if_neg (by omega),hki]] at hit
   obtain ⟨y,hy⟩:∃ y,ins[i]'(by omega)=y:=⟨_,rfl⟩
   rw [hy] at hit hg2
   dsimp only at hit
   have cpy:=fun h=>a_placeOf y h
   have hyc:∃ b1 b2 b3 b4 b5 b6 b7 b8 b9 c1 c2 c3 c4,y.cells=[.str b1,.str b2,.str b3,.str b4,.int .i64 b5,.int .i64 b6,.str b7,.sl 5 .no (V.cellss b8),.sl 1 .no (strsA b9),.int .i64 c1,.bool c2,.bool c3,.sl 1 .no (strsA c4)]:=by obtain ⟨a,d,id,ty,⟨k,n,s,is,ks⟩,v,tn,fi,ds⟩:=y; exact ⟨_,_,_,_,_,_,_,_,_,_,_,_,_,rfl⟩
   obtain ⟨b1,b2,b3,b4,b5,b6,b7,b8,b9,c1,c2,c3,c4,hyc⟩:=hyc
   rw [hyc] at hg2 cpy
   have cg:=cge y
   have cy:=cc y
   obtain ⟨c,hc⟩:∃ c,cmp2 y.addr y.dep x.addr x.dep=c:=⟨_,rfl⟩
   rw [hc] at cg cy
   refine run0 (ai t1 (ai ta (ai tb (ai tc (ai e1 (ai h0 (ai ej (ai hg2 (ai hi' hi0))))))))) ?_
   refine use (cpy _) ?_
   refine run0 (ai t1 (ai ta (ai tb tc))) ?_
   refine use (cp _) ?_
   refine run0 (ai t1 (ai ta (ai tb tc))) ?_
   refine use (cy _) ?_
   by_cases hcz:c≥0
   ·simp only [cg.1 hcz,Bool.not_false,if_true] at hit
    have hZf:=fi1 1 (by decide) hit
    refine run0 (ai t1 (ai ta (ai tb (ai tc hcz)))) ?_
    exact ⟨_,le_refl _,by rw [hZf]; rfl⟩
   ·have hb:Sf.behind y x=true:=by cases hb:Sf.behind y x; exact absurd (cg.2 hb) hcz; rfl
    simp only [hb,Bool.not_true,Bool.false_eq_true,if_false] at hit
    refine run0 (ai t1 (ai ta (ai tb (ai tc (ai hcz ei))))) ?_
    exact ⟨ins.length - ((i+1)+1),by omega,(i+1)+1,l++[.cells 36 [.str a,.str d,.str id,.str ty,.int .i64 k,.int .i64 n,.str s,.sl 5 .no (V.cellss is),.sl 1 .no (strsA ks),.int .i64 v,.bool tn,.bool fi,.sl 1 .no (strsA ds)]],rfl,by omega,rfl,nx hit,by (exact ev0 t1),by (exact ev0 ta),by (exact ev0 tb),by (exact ev0 ei)⟩
 have hlt:¬ ((j:Int) < (ins.length:Int)):=by omega
 rw [List.drop_eq_nil_of_le (by omega)] at hit
 unfold Sf.instsZ at hit
 have fi2:=fi2 hit.symm
 refine run0 (ai t1 (ai ta (ai tb (ai tc (ai hlt (ai lm1 (ai lm2 lm3))))))) ?_
 clear hit hlt hjc ta tb tc fi1
 have fj1:∀ z,z≠0→z=P→Z=z:=fun z h e=>by rw [←e,if_pos h] at fi2; exact fi2.symm
 have fj2:P=0→Z=O:=fun e=>by rw [e,if_neg (by simp)] at fi2; exact fi2.symm
 obtain ⟨l0,hl0⟩:∃ l0:List Blk,l=l0:=⟨_,rfl⟩
 refine awp_loop (fun mm ts h=>∃ (j:Nat) (l:List Blk),mm=ps.length - j∧j≤ps.length∧h=⟨.cells 27 [.str lin,.int .i64 ser,.sl 13 .no (ins.map Sf.Inst.cells),.sl 3 .no (ps.map Sf.Pend.cells),.sl 7 .no (os.map Sf.Outp.cells)]::l,[]⟩∧Sf.pendsZ (if j=0 then none else ps[j - 1]?.map Sf.Pend.tok) (ps.drop j)=P∧ts 1 = .ptr 0 0∧ts 64 = .sl 3 .no (ps.map Sf.Pend.cells)∧ts 65 = .int .i64 (ps.length:Nat)∧ts 66 = .int .i64 (j:Nat)) ps.length ?_ ?_
 ·exact ⟨0,l,by omega,by omega,rfl,hP,by (exact ev0 t1),by (exact ev0 t1),by (exact ev0 (ai t1 (ai lm1 (ai lm2 lm3)))),by (exact inv0 t1)⟩
 rintro mm ts h ⟨j,l,rfl,hjc,rfl,hit,t1,ta,tb,tc⟩
 by_cases hj:j < ps.length
 ·have hlt:(j:Int) < (ps.length:Int):=by omega
  have hlt':(j:Int) < ((ps.map Sf.Pend.cells).length:Int):=by rw [List.length_map]; exact hlt
  have hj0:(0:Int)≤(j:Int):=by omega
  have ei:IntKind.i64.wrap ((j:Int)+1)=((j+1:Nat):Int):=by rw [wrap64 (by omega) (by omega)]; omega
  have hg:=map_getD Sf.Pend.cells ps j hj
  have hm:=List.getElem_mem hj
  rw [List.drop_eq_getElem_cons hj] at hit
  obtain ⟨x,hx⟩:∃ x,ps[j]=x:=⟨_,rfl⟩
  rw [hx] at hit hg hm
  have hin:=ok.pends x hm
  have ct:=fun h=>L.text x.tok hin.2 h
  have cm:=fun h=>a_managed L x.addr x.typ hin.1 h
  have hxj:ps[j]?=some x:=by rw [List.getElem?_eq_getElem hj,hx]
  unfold Sf.pendsZ Sf.pendB at hit
  have nx:Sf.pendsZ (some x.tok) (ps.drop (j+1))=P→Sf.pendsZ (if j+1=0 then none else ps[j+1 - 1]?.map Sf.Pend.tok) (ps.drop (j+1))=P:=fun e=>by rw [if_neg (by omega),Nat.add_sub_cancel,hxj]; exact e
  simp only [Sf.Pend.cells] at hg
  obtain ⟨T,hT⟩:∃ T,Sf.text x.tok=T:=⟨_,rfl⟩
  rw [hT] at ct hit
  obtain ⟨M,hM⟩:∃ M,Sf.managed x.addr x.typ=M:=⟨_,rfl⟩
  rw [hM] at cm hit
  refine run0 (ai t1 (ai ta (ai tb (ai tc (ai hlt (ai hg (ai hlt' hj0))))))) ?_
  refine use (ct _) ?_
  cases T
  ·rw [if_pos (by simp)] at hit
   have hZf:=fj1 1 (by decide) hit
   refine run0 (ai t1 (ai ta (ai tb tc))) ?_
   exact ⟨_,le_refl _,by rw [hZf]; rfl⟩
  refine run0 (ai t1 (ai ta (ai tb tc))) ?_
  refine use (cm _) ?_
  cases M
  ·rw [if_pos (by simp)] at hit
   have hZf:=fj1 1 (by decide) hit
   refine run0 (ai t1 (ai ta (ai tb tc))) ?_
   exact ⟨_,le_refl _,by rw [hZf]; rfl⟩
  cases j with
  | zero =>
   have h0:¬ ((0:Nat):Int) > 0:=by omega
   rw [if_neg (by simp [Val.badB])] at hit
   refine run0 (ai t1 (ai ta (ai tb (ai tc (ai h0 ei))))) ?_
   exact ⟨ps.length - (0+1),by omega,0+1,l++[.cells 140 [.str x.addr,.str x.typ,.str x.tok]],rfl,by omega,rfl,nx hit,by (exact ev0 t1),by (exact ev0 ta),by (exact ev0 tb),by (exact ev0 ei)⟩
  | succ i =>
   have h0:((i+1:Nat):Int) > 0:=by omega
   have ej:IntKind.i64.wrap (((i+1:Nat):Int) - 1)=(i:Int):=by rw [wrap64 (by omega) (by omega)]; omega
   have hg2:=map_getD Sf.Pend.cells ps i (by omega)
   have hi':(i:Int) < ((ps.map Sf.Pend.cells).length:Int):=by rw [List.length_map]; omega
   have hi0:(0:Int)≤(i:Int):=by omega
   have hki:ps[i+1 - 1]?=some (ps[i]'(by omega)):=List.getElem?_eq_getElem (by omega)
   rw [show (if i+1=0 then none else ps[i+1 - 1]?.map Sf.Pend.tok)=(some (ps[i]'(by omega))).map Sf.Pend.tok from by rw [if_neg (by omega),hki]] at hit
   obtain ⟨y,hy⟩:∃ y,ps[i]'(by omega)=y:=⟨_,rfl⟩
   rw [hy] at hit hg2
   simp only [Sf.Pend.cells] at hg2
   simp only [Option.map_some,Val.badB] at hit
   cases hb:bytesLess y.tok x.tok
   ·simp only [hb,Bool.true_and,Bool.and_true,Bool.not_true,Bool.not_false,Bool.false_or,Bool.true_or,if_true] at hit
    have hZf:=fj1 1 (by decide) hit
    refine run0 (ai t1 (ai ta (ai tb (ai tc (ai h0 (ai ej (ai hg2 (ai hi' (ai hi0 hb))))))))) ?_
    exact ⟨_,le_refl _,by rw [hZf]; rfl⟩
   ·simp only [hb,Bool.true_and,Bool.and_true,Bool.not_true,Bool.not_false,Bool.false_or,Bool.or_false,Bool.false_eq_true,if_false] at hit
    refine run0 (ai t1 (ai ta (ai tb (ai tc (ai h0 (ai ej (ai hg2 (ai hi' (ai hi0 (ai hb ei)))))))))) ?_
    exact ⟨ps.length - ((i+1)+1),by omega,(i+1)+1,l++[.cells 140 [.str x.addr,.str x.typ,.str x.tok]],rfl,by omega,rfl,nx hit,by (exact ev0 t1),by (exact ev0 ta),by (exact ev0 tb),by (exact ev0 ei)⟩
 have hlt:¬ ((j:Int) < (ps.length:Int)):=by omega
 rw [List.drop_eq_nil_of_le (by omega)] at hit
 unfold Sf.pendsZ at hit
 have fj2:=fj2 hit.symm
 refine run0 (ai t1 (ai ta (ai tb (ai tc (ai hlt (ai lm1 (ai lm2 lm3))))))) ?_
 clear hit hlt hjc ta tb tc fj1 hl0 l0
 refine awp_loop (fun mm ts h=>∃ (j:Nat) (l:List Blk),mm=os.length - j∧j≤os.length∧h=⟨.cells 27 [.str lin,.int .i64 ser,.sl 13 .no (ins.map Sf.Inst.cells),.sl 3 .no (ps.map Sf.Pend.cells),.sl 7 .no (os.map Sf.Outp.cells)]::l,[]⟩∧Sf.outsZ (if j=0 then none else os[j - 1]?.map Sf.Outp.name) (os.drop j)=O∧ts 1 = .ptr 0 0∧ts 101 = .sl 7 .no (os.map Sf.Outp.cells)∧ts 102 = .int .i64 (os.length:Nat)∧ts 103 = .int .i64 (j:Nat)) os.length ?_ ?_
 ·exact ⟨0,l,by omega,by omega,rfl,hO,by (exact ev0 t1),by (exact ev0 t1),by (exact ev0 (ai t1 (ai lm1 (ai lm2 lm3)))),by (exact inv0 t1)⟩
 rintro mm ts h ⟨j,l,rfl,hjc,rfl,hit,t1,ta,tb,tc⟩
 by_cases hj:j < os.length
 ·have hlt:(j:Int) < (os.length:Int):=by omega
  have hlt':(j:Int) < ((os.map Sf.Outp.cells).length:Int):=by rw [List.length_map]; exact hlt
  have hj0:(0:Int)≤(j:Int):=by omega
  have ei:IntKind.i64.wrap ((j:Int)+1)=((j+1:Nat):Int):=by rw [wrap64 (by omega) (by omega)]; omega
  have hg:=map_getD Sf.Outp.cells os j hj
  have hm:=List.getElem_mem hj
  rw [List.drop_eq_getElem_cons hj] at hit
  obtain ⟨x,hx⟩:∃ x,os[j]=x:=⟨_,rfl⟩
  rw [hx] at hit hg hm
  have hin:=ok.outs x hm
  have ci:=fun h=>a_output L x hin.1 hin.2 h
  have hxj:os[j]?=some x:=by rw [List.getElem?_eq_getElem hj,hx]
  unfold Sf.outsZ at hit
  have nx:Sf.outsZ (some x.name) (os.drop (j+1))=O→Sf.outsZ (if j+1=0 then none else os[j+1 - 1]?.map Sf.Outp.name) (os.drop (j+1))=O:=fun e=>by rw [if_neg (by omega),Nat.add_sub_cancel,hxj]; exact e
  obtain ⟨Z1,hZ1⟩:∃ z,Sf.outZ x=z:=⟨_,rfl⟩
  rw [hZ1] at ci hit
  clear hZ1
  obtain ⟨m,⟨k,n,s,is,ks⟩,b⟩:=x
  simp only [Sf.Outp.cells] at hg ci
  dsimp only at hit nx
  refine run0 (ai t1 (ai ta (ai tb (ai tc (ai hlt (ai hg (ai hlt' hj0))))))) ?_
  refine use (ci _) ?_
  by_cases hz:Z1=0
  rotate_left
  ·have e1:(Z1 != 0)=true:=by simp [hz]
   rw [if_pos hz] at hit
   refine run0 (ai t1 (ai ta (ai tb (ai tc e1)))) ?_
   exact ⟨_,le_refl _,by rw [fj2,←hit]; rfl⟩
  have e1:(Z1 != 0)=false:=by simp [hz]
  rw [if_neg (by simp [hz])] at hit
  cases j with
  | zero =>
   have h0:¬ ((0:Nat):Int) > 0:=by omega
   rw [if_neg (by simp [Val.badB])] at hit
   refine run0 (ai t1 (ai ta (ai tb (ai tc (ai e1 (ai h0 ei)))))) ?_
   exact ⟨os.length - (0+1),by omega,0+1,l++[.cells 95 [.str m,.int .i64 k,.int .i64 n,.str s,.sl 5 .no (V.cellss is),.sl 1 .no (strsA ks),.bool b]],rfl,by omega,rfl,nx hit,by (exact ev0 t1),by (exact ev0 ta),by (exact ev0 tb),by (exact ev0 ei)⟩
  | succ i =>
   have h0:((i+1:Nat):Int) > 0:=by omega
   have ej:IntKind.i64.wrap (((i+1:Nat):Int) - 1)=(i:Int):=by rw [wrap64 (by omega) (by omega)]; omega
   have hg2:=map_getD Sf.Outp.cells os i (by omega)
   have hi':(i:Int) < ((os.map Sf.Outp.cells).length:Int):=by rw [List.length_map]; omega
   have hi0:(0:Int)≤(i:Int):=by omega
   have hki:os[i+1 - 1]?=some (os[i]'(by omega)):=List.getElem?_eq_getElem (by omega)
   rw [show (if i+1=0 then none else os[i+1 - 1]?.map Sf.Outp.name)=(some (os[i]'(by omega))).map Sf.Outp.name from by rw [if_neg (by omega),hki]] at hit
   obtain ⟨y,hy⟩:∃ y,os[i]'(by omega)=y:=⟨_,rfl⟩
   rw [hy] at hit hg2
   obtain ⟨m2,⟨k2,n2,s2,is2,ks2⟩,b2⟩:=y
   simp only [Sf.Outp.cells] at hg2
   simp only [Option.map_some,Val.badB] at hit
   cases hb:bytesLess m2 m
   ·simp only [hb,Bool.true_and,Bool.and_true,Bool.not_true,Bool.not_false,Bool.false_or,Bool.true_or,if_true] at hit
    refine run0 (ai t1 (ai ta (ai tb (ai tc (ai e1 (ai h0 (ai ej (ai hg2 (ai hi' (ai hi0 hb)))))))))) ?_
    exact ⟨_,le_refl _,by rw [fj2,←hit]; rfl⟩
   ·simp only [hb,Bool.true_and,Bool.and_true,Bool.not_true,Bool.not_false,Bool.false_or,Bool.or_false,Bool.false_eq_true,if_false] at hit
    refine run0 (ai t1 (ai ta (ai tb (ai tc (ai e1 (ai h0 (ai ej (ai hg2 (ai hi' (ai hi0 (ai hb ei))))))))))) ?_
    exact ⟨os.length - ((i+1)+1),by omega,(i+1)+1,l++[.cells 95 [.str m,.int .i64 k,.int .i64 n,.str s,.sl 5 .no (V.cellss is),.sl 1 .no (strsA ks),.bool b]],rfl,by omega,rfl,nx hit,by (exact ev0 t1),by (exact ev0 ta),by (exact ev0 tb),by (exact ev0 ei)⟩
 have hlt:¬ ((j:Int) < (os.length:Int)):=by omega
 rw [List.drop_eq_nil_of_le (by omega)] at hit
 unfold Sf.outsZ at hit
 refine run0 (ai t1 (ai ta (ai tb (ai tc (ai hlt (ai lm1 (ai lm2 lm3))))))) ?_
 exact ⟨_,le_refl _,by rw [fj2,←hit]; rfl⟩
end AX
end Go.Proofs.YtahmpiioegemaaaGreatDoor

namespace Go.Proofs.YtahmpiioegemaaaGreatDoor
open Go.RowKit
namespace Adr
theorem mods_names (N:Nat):∀ (f:Nat) (r:Rd) (l:List Step),r.rest.length≤N→(∀ x∈l,x.name.length≤N)→(∀ x∈(modsP f r l).1,x.name.length≤N)∧(modsP f r l).2.rest.length≤N∧(modsP f r l).1.length≤l.length+f
 | 0,r,l,hr,hl=>⟨hl,hr,Nat.le_refl _⟩
 | f+1,r,l,hr,hl=>by
  unfold modsP
  split
  ·next hc =>
   have h1:=has_len modW r
   have h2:=step_len (hasP modW r).2
   have h3:=skip_len [46] (stepP (hasP modW r).2).2
   have hn:(stepP (hasP modW r).2).1.name.length≤N:=Nat.le_trans (word_len (hasP modW r).2).2 (by omega)
   obtain ⟨q1,q2,q3⟩:=mods_names N f (skipP [46] (stepP (hasP modW r).2).2) (l++[(stepP (hasP modW r).2).1]) (by omega) (fun x hx=>by
    rcases List.mem_append.1 hx with hx | hx
    ·exact hl x hx
    ·rw [List.mem_singleton.1 hx]; exact hn)
   exact ⟨q1,q2,Nat.le_trans q3 (by simp only [List.length_append,List.length_singleton]; omega)⟩
  ·exact ⟨hl,hr,by dsimp only; omega⟩
theorem parse_names (s:List UInt8) (h:(parse s).2=0):(∀ x∈(parse s).1.mods,x.name.length≤s.length)∧(parse s).1.mods.length≤s.length+1∧(parse s).1.type.length≤s.length∧(parse s).1.name.length≤s.length:=by
 rw [←parse_eq] at h ⊢
 obtain ⟨q1,q2,q3⟩:=mods_names s.length (s.length+1) ⟨s,false⟩ [] (Nat.le_refl _) (by simp)
 unfold parseP at h ⊢
 dsimp only at h ⊢
 have l1:=has_len dataW (modsP (s.length+1) ⟨s,false⟩ []).2
 have l2:=word_len (hasP dataW (modsP (s.length+1) ⟨s,false⟩ []).2).2
 have l3:=skip_len [46] (wordP (hasP dataW (modsP (s.length+1) ⟨s,false⟩ []).2).2).2
 have l4:=word_len (skipP [46] (wordP (hasP dataW (modsP (s.length+1) ⟨s,false⟩ []).2).2).2)
 split at h
 ·simp at h
 ·next h1 =>
  rw [if_neg h1]
  split at h
  ·simp at h
  ·next h2 =>
   rw [if_neg h2]
   dsimp only
   exact ⟨q1,by simpa using q3,by omega,by omega⟩
end Adr
namespace AX
theorem a_static (s:List UInt8) (hs:s.length≤2000000) (h:Hp):ACall Tryz.prog GT 165 [.str s] h fun r h'=>r = .tup [.str (Adr.static s).1,.int .i64 (Adr.static s).2]∧h'=h:=by
 refine pcall ?_ rfl (by simp [A.pure,A.data]) h
 refine acall_of mixedT h_aStatic (by simp [c_aStatic]) ?_
 dsimp only [c_aStatic]
 have cp:=fun h=>a_parse s hs h
 have hS:Adr.static s=if (Adr.parse s).2≠0 then ([],(Adr.parse s).2) else (Adr.fmt (Adr.bare (Adr.parse s).1),0):=rfl
 have hnm:=Adr.parse_names s
 obtain ⟨⟨a,e⟩,hp⟩:∃ q,Adr.parse s=q:=⟨_,rfl⟩
 rw [hp] at cp hS hnm
 dsimp only at cp hS hnm
 rw [hS]
 by_cases he:e=0
 rotate_left
 ·have e1:(e != 0)=true:=by simp [he]
  rw [if_pos he]
  obtain ⟨mods,data,ty,nm,⟨kk,kn,ks⟩⟩:=a
  dsimp only [Adr.Ad.cells] at cp
  refine run0 ti ?_
  refine use (cp _) ?_
  refine run0 e1 ?_
  exact ⟨_,le_refl _,rfl⟩
 have e1:(e != 0)=false:=by simp [he]
 rw [if_neg (by simp [he])]
 obtain ⟨n1,n2,n3,n4⟩:=hnm he
 have cs:=fun h=>a_static0 a (by omega) h
 have cf:=fun h=>a_format0 (Adr.bare a) ⟨by unfold Adr.bare; dsimp only; rw [List.length_map]; omega,fun x hx=>by
   unfold Adr.bare at hx
   obtain ⟨y,hy,rfl⟩:=List.mem_map.1 hx
   have:=n1 y hy
   exact ⟨Nat.le_trans this hs,by simp [Adr.K.none]⟩,by unfold Adr.bare; dsimp only; omega,by unfold Adr.bare; dsimp only; omega,by unfold Adr.bare Adr.K.none; simp⟩
  (fun x hx=>by
   unfold Adr.bare at hx
   obtain ⟨y,hy,rfl⟩:=List.mem_map.1 hx
   rfl) rfl h
 have hbc:(Adr.bare a).cells=[.sl 4 .no ((a.mods.map fun s=>(⟨s.name,Adr.K.none⟩:Adr.Step)).map Adr.Step.cells),.bool a.data,.str a.type,.str a.name,.int .i64 0,.int .i64 0,.str []]:=rfl
 rw [hbc] at cs cf
 obtain ⟨F,hF⟩:∃ F,Adr.fmt (Adr.bare a)=F:=⟨_,rfl⟩
 rw [hF] at cf ⊢
 clear hS n1 n2 n3 n4 hnm hp hbc
 obtain ⟨mods,data,ty,nm,⟨kk,kn,ks⟩⟩:=a
 dsimp only [Adr.Ad.cells] at cp cs cf
 refine run0 ti ?_
 refine use (cp _) ?_
 refine run0 e1 ?_
 refine use (cs _) ?_
 refine run0 ti ?_
 refine use (cf _) ?_
 refine run0 ti ?_
 exact ⟨_,le_refl _,rfl⟩
theorem leafs:Leafs where
 parse:=a_parse
 static:=a_static
 ident:=a_ident
 num:=a_numParse
 cmp:=a_cmp
 known:=fun v hl h=>a_known v hl h
 text:=fun s hs h=>(a_stext s hs h).mono fun v h' hv=>hv
theorem a_stateCheck (st:Sf.St) (ok:Sf.StIn st):SCheck st:=a_scheck leafs st ok
end AX
end Go.Proofs.YtahmpiioegemaaaGreatDoor

namespace Go.Proofs.YtahmpiioegemaaaGreatDoor
namespace Wire
end Wire
namespace Val
end Val
namespace Sf
def Took (s s':Rs) (l:List UInt8):Prop:=s.fails=false∧s.r.rest=l++s'.r.rest
theorem Took.trans {a b c:Rs} {l m:List UInt8} (h:Took a b l) (k:Took b c m):Took a c (l++m):=⟨h.1,by rw [h.2,k.2,List.append_assoc]⟩
def restE (ver:Int) (s:St):List UInt8:=
 Wire.strE s.lin++Wire.num s.ser++Wire.num s.insts.length++s.insts.flatMap (instE ver)++(if ver=2 then Wire.num s.pends.length++s.pends.flatMap pendE else [])++Wire.num s.outs.length++s.outs.flatMap outE
end Sf
end Go.Proofs.YtahmpiioegemaaaGreatDoor

namespace Go.Proofs.YtahmpiioegemaaaGreatDoor
open Go.RowKit
namespace Sf
theorem insts_zero:∀ (l:List Inst) (p:Option Inst),instsZ p l=0→∀ x∈l,instZ x=0
 | [],_,_=>by simp
 | x::l,p,h=>by
  unfold instsZ at h
  by_cases h1:instZ x=0
  rotate_left
  ·rw [if_pos h1] at h; exact absurd h h1
  ·rw [if_neg (by simp [h1])] at h
   have h':instsZ (some x) l=0:=by
    cases p with
    | none=>simpa using h
    | some y =>
     dsimp only at h
     cases hb:behind y x
     ·simp [hb] at h
     ·simpa [hb] using h
   ·intro y hy
    rcases List.mem_cons.1 hy with rfl | hy
    ·exact h1
    ·exact insts_zero l _ h' y hy
theorem outs_zero:∀ (l:List Outp) (p:Option (List UInt8)),outsZ p l=0→∀ x∈l,outZ x=0
 | [],_,_=>by simp
 | x::l,p,h=>by
  unfold outsZ at h
  split at h
  ·next h1=>exact absurd h h1
  ·next h1 =>
   split at h
   ·simp at h
   ·intro y hy
    rcases List.mem_cons.1 hy with rfl | hy
    ·simpa using h1
    ·exact outs_zero l _ h y hy
theorem inst_zero {x:Inst} (h:instZ x=0):Val.checkZ x.attrs=0∧1≤x.ver∧x.ver≤9007199254740992:=by
 unfold instZ at h
 split at h
 ·simp at h
 ·split at h
  ·next h1=>exact absurd h h1
  ·next h1 =>
   split at h
   ·simp at h
   ·split at h
    ·simp at h
    ·split at h
     ·simp at h
     ·next h2=>exact ⟨by simpa using h1,by omega,by omega⟩
theorem out_zero {x:Outp} (h:outZ x=0):Val.checkZ x.value=0:=by
 unfold outZ at h
 split at h
 ·simp at h
 ·split at h
  ·next h1=>exact absurd h h1
  ·next h1=>simpa using h1
theorem check_parts {s:St} (h:checkZ s=0):0≤s.ser∧s.ser≤9007199254740992∧s.insts.length≤512∧s.pends.length≤512∧s.outs.length≤512∧instsZ none s.insts=0∧pendsZ none s.pends=0∧outsZ none s.outs=0:=by
 unfold checkZ at h
 split at h
 ·simp at h
 ·split at h
  ·simp at h
  ·split at h
   ·simp at h
   ·split at h
    ·next h1=>exact absurd h h1
    ·split at h
     ·next h1=>exact absurd h h1
     ·next h1 h2 h3 h4 h5=>exact ⟨by omega,by omega,by omega,by omega,by omega,by simpa using h4,by simpa using h5,h⟩
theorem stOk_of {s:St} (h:checkZ s=0) (hin:AX.Sf.StIn s):AX.Sf.StOk s:=by
 obtain ⟨h1,h2,h3,h4,h5,h6,h7,h8⟩:=check_parts h
 refine ⟨fun x hx=>?_,fun x hx=>?_,by omega,by omega,by omega,by omega,by omega⟩
 ·obtain ⟨k1,k2,k3⟩:=inst_zero (insts_zero _ _ h6 x hx)
  exact ⟨⟨1,0,k1⟩,(hin.insts x hx).l,by omega,by omega⟩
 ·exact ⟨⟨1,0,out_zero (outs_zero _ _ h8 x hx)⟩,(hin.outs x hx).2⟩
end Sf
end Go.Proofs.YtahmpiioegemaaaGreatDoor

namespace Go.Proofs.YtahmpiioegemaaaGreatDoor
namespace Sf
def rd (l:List UInt8):Rs:=⟨⟨l,0⟩,false⟩
structure TypIn (s:St):Prop where
 insts:∀ x∈s.insts,x.typ.length≤2000000
 pends:∀ x∈s.pends,x.typ.length≤2000000
end Sf
namespace Jr
open Sf (Rs rd numS strS flagS cntS)
def stepE (r:Jr):List UInt8:=Wire.num r.step++Wire.num r.op++Wire.strE r.addr++Wire.strE r.dep++Wire.strE r.typ
def restE (r:Jr) (b:List UInt8):List UInt8:=
 if r.kind=1 then Wire.strE b else if r.kind=2 then stepE r++Wire.strE r.tok else if r.kind=3 then stepE r++Sf.instE 2 r.after else if r.kind=4 then stepE r++Wire.num r.err++Sf.instE 2 r.after else []
def body (r:Jr):List UInt8:=Wire.num r.kind++restE r (Sf.encode 2 r.base).1
def enc (r:Jr):List UInt8×Int:=
 if r.validB=false then ([],1)
 else if r.kind=1∧(Sf.encode 2 r.base).2≠0 then ([],(Sf.encode 2 r.base).2)
 else if 1048576 < (Crc.app (Wire.strE r.body)).length then ([],3) else (Crc.app (Wire.strE r.body),0)
def zeroI:Sf.Inst:=⟨[],[],[],[],.mk 0 0 [] [] [],0,false,false,[]⟩
structure InstE (x:Sf.Inst):Prop where
 a:x.addr.length≤2000000
 d:x.dep.length≤2000000
 i:x.id.length≤2000000
 t:x.typ.length≤2000000
 v:Val.checkZ x.attrs=0
 v0:-9223372036854775808≤x.ver
 v1:x.ver≤9223372036854775807
 n:x.deps.length≤2000000
 ds:∀ s∈x.deps,s.length≤2000000
theorem zeroV_eq {v:V} (h:zeroV v=true):v = .mk 0 0 [] [] []:=by
 obtain ⟨k,n,s,is,ks⟩:=v
 unfold zeroV at h
 simp only [Bool.and_eq_true,beq_iff_eq,Int.natCast_eq_zero,List.length_eq_zero_iff] at h
 obtain ⟨⟨⟨⟨rfl,rfl⟩,rfl⟩,rfl⟩,rfl⟩:=h
 rfl
theorem noneB_eq {x:Sf.Inst} (h:noneB x=true):x=zeroI:=by
 obtain ⟨ad,dep,id,typ,at',v,ta,fi,ds⟩:=x
 unfold noneB at h
 simp only [Bool.and_eq_true,beq_iff_eq,Bool.not_eq_true',Int.natCast_eq_zero,List.length_eq_zero_iff] at h
 obtain ⟨⟨⟨⟨⟨⟨⟨⟨h1,rfl⟩,rfl⟩,rfl⟩,rfl⟩,rfl⟩,rfl⟩,rfl⟩,rfl⟩:=h
 rw [zeroV_eq h1]; rfl
theorem zeroI_enc:InstE zeroI:=⟨by decide,by decide,by decide,by decide,by decide +kernel,by decide,by decide,by decide,by simp [zeroI]⟩
theorem shortB_mem {l:List (List UInt8)} (h:shortB l=true):∀ s∈l,s.length≤4096:=fun s hs=>by
 have:=List.all_eq_true.1 h s hs
 simp only [decide_eq_true_eq] at this
 omega
theorem instB_enc {x:Sf.Inst} (h:instB x=true):InstE x:=by
 unfold instB at h
 simp only [Bool.and_eq_true,decide_eq_true_eq,beq_iff_eq] at h
 obtain ⟨⟨⟨⟨⟨h1,h2⟩,h3⟩,h4⟩,h5⟩,h6⟩:=h
 have m:=shortB_mem h1
 exact ⟨by have:=m x.addr (by simp); omega,by have:=m x.dep (by simp); omega,by have:=m x.id (by simp); omega,by have:=m x.typ (by simp); omega,h4,by omega,by omega,by omega,fun s hs=>by have:=shortB_mem h2 s hs; omega⟩
theorem afterB_enc {op:Int} {x:Sf.Inst} (h:(noneB x||makesB op&&instB x)=true):InstE x:=by
 rw [Bool.or_eq_true,Bool.and_eq_true] at h
 rcases h with h | h
 ·rw [noneB_eq h]; exact zeroI_enc
 ·exact instB_enc h.2
end Jr
end Go.Proofs.YtahmpiioegemaaaGreatDoor

namespace Go.Proofs.YtahmpiioegemaaaGreatDoor
open Go.RowKit
namespace AX
end AX
end Go.Proofs.YtahmpiioegemaaaGreatDoor

namespace Go.Proofs.YtahmpiioegemaaaGreatDoor
namespace Jr
open Sf (Rs rd numS strS flagS cntS)
theorem enc_ok {r:Jr} (h:(enc r).2=0):r.validB=true∧(enc r).1=Crc.app (Wire.strE r.body)∧(Crc.app (Wire.strE r.body)).length≤1048576:=by
 unfold enc at h ⊢
 by_cases h1:r.validB=false
 ·rw [if_pos h1] at h; cases h
 rw [if_neg h1] at h ⊢
 by_cases h2:r.kind=1∧(Sf.encode 2 r.base).2≠0
 ·rw [if_pos h2] at h; exact absurd h h2.2
 rw [if_neg h2] at h ⊢
 by_cases h3:1048576 < (Crc.app (Wire.strE r.body)).length
 ·rw [if_pos h3] at h; cases h
 rw [if_neg h3]
 exact ⟨by simpa using h1,rfl,by omega⟩
def encs (l:List Jr):List UInt8:=l.flatMap fun r=>(enc r).1
end Jr
end Go.Proofs.YtahmpiioegemaaaGreatDoor

namespace Go.Proofs.YtahmpiioegemaaaGreatDoor
namespace Jr
open Sf (Rs rd numS strS flagS cntS Took)
end Jr
end Go.Proofs.YtahmpiioegemaaaGreatDoor

namespace Go.Proofs.YtahmpiioegemaaaGreatDoor
open Go.RowKit
namespace AX
end AX
namespace Jr
end Jr
namespace AX
theorem ACall.lift1x {P:Program} {G:World→Prop} {f:FuncId} {x x':A} {args:List A} {b:Blk} {i:Nat} {Q0:A→Blk→Prop} (hx:x.loc 1=true) (hx':x.ren (fun _=>i)=x') (hc:ACall P G f (x::args) ⟨[b],[]⟩ fun v h'=>∃ b',h'.b[0]?=some b'∧Q0 v b')
  (ha:A.locL 0 args=true) (hb:b.loc 0) (hq:∀ v b',Q0 v b'→v.loc 0=true∧b'.loc 0) {h:Hp} (hh:h.b[i]?=some b) :
  ACall P G f (x'::args) h fun v h'=>∃ b',Q0 v b'∧h'=⟨h.b.set i b',h.t⟩:=by
 have key:=ACall.lift hc (fun _=>i) (fun a b ha hb _=>by simp at ha hb; omega) (by unfold A.locL; rw [(A.locL0 _ args ha).1]; simp only [List.length_singleton,hx,Bool.and_self]) (fun x hx=>by simp at hx; subst hx; exact (Blk.loc0 _ _ hb).1)
  (fun v h' ⟨b',h1,h2⟩=>⟨(A.loc0 _ v (hq v b' h2).1).1,fun j x hj hx=>by
   have:j=0:=by simpa using hj
   subst this
   rw [h1] at hx; injection hx with hx; subst hx
   exact (Blk.loc0 _ _ (hq v b' h2).2).1⟩) (h:=h) (fun j hj=>by
   have:j=0:=by simpa using hj
   subst this
   rw [hh]; show some b=some (b.ren _); rw [(Blk.loc0 0 _ hb).2])
 have e:A.renL (fun _=>i) (x::args)=x'::args:=by unfold A.renL; rw [(A.locL0 0 args ha).2,hx']
 rw [e] at key
 refine key.mono ?_
 rintro v h' ⟨v0,h0,⟨b',h1,h2⟩,rfl,rfl⟩
 obtain ⟨k1,k2⟩:=hq v0 b' h2
 refine ⟨b',by rw [(A.loc0 0 v0 k1).2]; exact h2,?_⟩
 have:h0.b.take [b].length=[b']:=by
  obtain ⟨_ | ⟨x,l⟩,t0⟩:=h0
  ·simp at h1
  ·simp at h1; subst h1; simp
 rw [this]
 show (⟨setAll _ h.b 0 [b'],h.t⟩:Hp)=_
 unfold setAll setAll
 rw [(Blk.loc0 0 _ k2).2]
def jwB (s:List UInt8):Blk:=.cells 71 [.str s]
theorem jwB_loc (s:List UInt8):(jwB s).loc 0:=rfl
section
variable {f:FuncId} {x x':A} {args:List A} {s s':List UInt8} {h:Hp} {i:Nat}
theorem liftJ (hx:x.loc 1=true) (hx':x.ren (fun _=>i)=x') (hc:ACall Tryz.prog GT f (x::args) ⟨[jwB s],[]⟩ fun v h'=>v = .tup []∧h'.b[0]?=some (jwB s')) (ha:A.locL 0 args=true) (hb:h.b[i]?=some (jwB s)) :
  ACall Tryz.prog GT f (x'::args) h fun v h'=>v = .tup []∧h'=⟨h.b.set i (jwB s'),h.t⟩:=by
 refine (ACall.lift1x (Q0:=fun v b'=>v = .tup []∧b'=jwB s') hx hx' (hc.mono fun v h' ⟨e,hp⟩=>⟨_,hp,e,rfl⟩) ha (jwB_loc s) ?_ hb).mono ?_
 ·rintro v b' ⟨rfl,rfl⟩
  exact ⟨rfl,jwB_loc s'⟩
 ·rintro v h' ⟨b',⟨rfl,rfl⟩,rfl⟩
  exact ⟨rfl,rfl⟩
end
def c_wappS:AX.AFn:=⟨11,aS [aR 4 (.mv (.c (.str [])))] (aS [aM 5 0,aM 6 1,aR 7 (.len true (.t 6)),aR 8 (.call 57 [.t 5,.t 7]),aM 9 1,aR 10 (.bin .add (.t 8) (.t 9)),aM 4 10] (.ret)),[.t 4]⟩
theorem h_wappS:AX.compFn Tryz.prog 34=some c_wappS:=by kernel_rfl
def c_jwnum:AX.AFn:=⟨13,.reg false [aM 4 0,aM 5 0,aR 6 (.nilck (.t 5)),aF 7 0 6,aL 8 7,aM 9 1,aR 10 (.call 57 [.t 8,.t 9]),aR 11 (.nilck (.t 4)),aF 12 0 11,aU (.store 1 (.t 12) (.t 10))],[]⟩
theorem h_jwnum:AX.compFn Tryz.prog 28=some c_jwnum:=by kernel_rfl
def c_jwtext:AX.AFn:=⟨13,.reg false [aM 4 0,aM 5 0,aR 6 (.nilck (.t 5)),aF 7 0 6,aL 8 7,aM 9 1,aR 10 (.call 34 [.t 8,.t 9]),aR 11 (.nilck (.t 4)),aF 12 0 11,aU (.store 1 (.t 12) (.t 10))],[]⟩
theorem h_jwtext:AX.compFn Tryz.prog 30=some c_jwtext:=by kernel_rfl
def c_jwflag:AX.AFn:=⟨9,aS [aR 4 (.mv (aI 0))] (.seq (aS [aM 5 1] (.cond (.t 5) (.reg false [aR 4 (.mv (aI 1))]) (.skip))) (.reg false [aM 6 0,aM 7 4,aR 8 (.call 28 [.t 6,.t 7])])),[]⟩
theorem h_jwflag:AX.compFn Tryz.prog 63=some c_jwflag:=by kernel_rfl
def c_jeachi:AX.AFn:=⟨16,aS [aM 6 1,aR 7 (.len false (.t 6)),aR 8 (.mv (aI 0))] (.block 0 (.loop (aS [aR 9 (.bin .lss (.t 8) (.t 7))] (.seq (.cond (.t 9) (.skip) (.exit 0)) (.seq (.block 1 (aS [aR 10 (.iaddr 1 (.t 6) (.t 8)),aL 11 10,aM 5 11] (.reg false [aM 12 0,aM 13 5,aR 14 (.callv (.t 12) [.t 13])]))) (.reg false [aR 15 (.bin .add (.t 8) (aI 1)),aM 8 15])))))),[]⟩
theorem h_jeachi:AX.compFn Tryz.prog 59=some c_jeachi:=by kernel_rfl
def c_jeachs:AX.AFn:=⟨16,aS [aM 6 1,aR 7 (.len false (.t 6)),aR 8 (.mv (aI 0))] (.block 0 (.loop (aS [aR 9 (.bin .lss (.t 8) (.t 7))] (.seq (.cond (.t 9) (.skip) (.exit 0)) (.seq (.block 1 (aS [aR 10 (.iaddr 1 (.t 6) (.t 8)),aL 11 10,aM 5 11] (.reg false [aM 12 0,aM 13 5,aR 14 (.callv (.t 12) [.t 13])]))) (.reg false [aR 15 (.bin .add (.t 8) (aI 1)),aM 8 15])))))),[]⟩
theorem h_jeachs:AX.compFn Tryz.prog 60=some c_jeachs:=by kernel_rfl
def c_jeachb:AX.AFn:=⟨16,aS [aM 6 1,aR 7 (.len false (.t 6)),aR 8 (.mv (aI 0))] (.block 0 (.loop (aS [aR 9 (.bin .lss (.t 8) (.t 7))] (.seq (.cond (.t 9) (.skip) (.exit 0)) (.seq (.block 1 (aS [aR 10 (.iaddr 1 (.t 6) (.t 8)),aL 11 10,aM 5 11] (.reg false [aM 12 0,aM 13 5,aR 14 (.callv (.t 12) [.t 13])]))) (.reg false [aR 15 (.bin .add (.t 8) (aI 1)),aM 8 15])))))),[]⟩
theorem h_jeachb:AX.compFn Tryz.prog 62=some c_jeachb:=by kernel_rfl
theorem a_jwnum (s:List UInt8) (n:Int) (hs:s.length≤1000000000) (h0:-9223372036854775808≤n) (h1:n≤9223372036854775807) {h:Hp} {i:Nat} (hb:h.b[i]?=some (jwB s)) :
  ACall Tryz.prog GT 28 [.ptr i 0,.int .i64 n] h fun v h'=>v = .tup []∧h'=⟨h.b.set i (jwB (s++Wire.num n)),h.t⟩:=by
 refine liftJ (x:=.ptr 0 0) rfl rfl ?_ rfl hb
 have c:=a_appendNumber s n hs h0 h1
 refine acall_of mixedT h_jwnum (by simp [c_jwnum]) ?_
 dsimp only [c_jwnum]
 unfold jwB
 refine runc0 ti (ai c ti) ?_
 exact ⟨_,le_refl _,rfl,rfl⟩
theorem a_appS (dst s:List UInt8) (hlen:dst.length+s.length+10≤1000000000) (h:Hp):ACall Tryz.prog GT 34 [.str dst,.str s] h fun r h'=>r = .str (dst++Wire.strE s)∧h'=h:=by
 refine pcall ?_ rfl (by simp [A.pure,A.data]) h
 have c:=a_appendNumber dst s.length (by omega) (by omega) (by omega)
 refine acall_of mixedT h_wappS (by simp [c_wappS]) ?_
 dsimp only [c_wappS]
 have hn:(Wire.num s.length).length≤10:=(Wire.encF_len 9 (Wire.zig s.length)).2
 have hsum:dst.length+(Wire.num s.length).length+s.length < 1099511627776:=by omega
 refine runc0 hsum (ai c ti) ?_
 exact ⟨_,le_refl _,by rw [tupA_1,Wire.strE,List.append_assoc]⟩
theorem a_jwtext (s t:List UInt8) (hs:s.length+t.length+10≤1000000000) {h:Hp} {i:Nat} (hb:h.b[i]?=some (jwB s)) :
  ACall Tryz.prog GT 30 [.ptr i 0,.str t] h fun v h'=>v = .tup []∧h'=⟨h.b.set i (jwB (s++Wire.strE t)),h.t⟩:=by
 refine liftJ (x:=.ptr 0 0) rfl rfl ?_ rfl hb
 have c:=a_appS s t hs
 refine acall_of mixedT h_jwtext (by simp [c_jwtext]) ?_
 dsimp only [c_jwtext]
 unfold jwB
 refine runc0 ti (ai c ti) ?_
 exact ⟨_,le_refl _,rfl,rfl⟩
def flagN (b:Bool):Int:=if b=true then 1 else 0
theorem a_jwflag (s:List UInt8) (b:Bool) (hs:s.length≤1000000000) {h:Hp} {i:Nat} (hb:h.b[i]?=some (jwB s)) :
  ACall Tryz.prog GT 63 [.ptr i 0,.bool b] h fun v h'=>v = .tup []∧h'=⟨h.b.set i (jwB (s++Wire.num (flagN b))),h.t⟩:=by
 refine liftJ (x:=.ptr 0 0) rfl rfl ?_ rfl hb
 have c1:=a_jwnum s 1 hs (by omega) (by omega) (h:=⟨[jwB s],[]⟩) (i:=0) rfl
 have c0:=a_jwnum s 0 hs (by omega) (by omega) (h:=⟨[jwB s],[]⟩) (i:=0) rfl
 refine acall_of mixedT h_jwflag (by simp [c_jwflag]) ?_
 dsimp only [c_jwflag]
 cases b
 ·refine run0 ti ?_
  refine use c0 ?_
  refine run0 ti ?_
  exact ⟨_,le_refl _,rfl,rfl⟩
 ·refine run0 ti ?_
  refine use c1 ?_
  refine run0 ti ?_
  exact ⟨_,le_refl _,rfl,rfl⟩
theorem a_jeachs (s:List UInt8) (l:List (List UInt8)) (hs:s.length+(l.flatMap Wire.strE).length+10≤1000000000) (hn:l.length≤1000000000) {h:Hp} {i:Nat} (hb:h.b[i]?=some (jwB s)) :
  ACall Tryz.prog GT 60 [.fn (30+1000000) [.ptr i 0],.sl 1 .no (l.map fun x=>[A.str x])] h fun v h'=>v = .tup []∧h'=⟨h.b.set i (jwB (s++l.flatMap Wire.strE)),h.t⟩:=by
 refine liftJ (x:=.fn (30+1000000) [.ptr 0 0]) rfl rfl ?_ rfl hb
 have li:(l.map fun x=>[A.str x]).length=l.length:=List.length_map _
 refine acall_of mixedT h_jeachs (by simp [c_jeachs]) ?_
 dsimp only [c_jeachs]
 refine run0 li ?_
 refine awp_loop (fun m ts hh=>∃ j:Nat,m=l.length - j∧j≤l.length∧hh=⟨[jwB (s++(l.take j).flatMap Wire.strE)],[]⟩∧(ts 0 = .fn (30+1000000) [.ptr 0 0]∧ts 6 = .sl 1 .no (l.map fun x=>[A.str x])∧ts 7 = .int .i64 (l.length:Nat)∧ts 8 = .int .i64 (j:Nat))) l.length ?_ ?_
 ·exact ⟨0,rfl,Nat.zero_le _,by simp,by (exact inv0 li)⟩
 rintro m ts hh ⟨j,rfl,hj,rfl,ht⟩
 rcases Nat.lt_or_ge j l.length with hlt | hge
 ·have hf:(l.map fun x=>[A.str x]).length=l.length∧(j:Int) < (l.length:Int)∧(0:Int)≤(j:Int)∧(l.map fun x=>[A.str x]).getD j []=(fun x=>[A.str x]) l[j]∧IntKind.i64.wrap ((j:Int)+1)=((j+1:Nat):Int):=
   ⟨li,by omega,by omega,by simp [List.getD,hlt],by rw [wrap64 (by omega) (by omega)]; omega⟩
  have e:l.take (j+1)=l.take j++[l[j]]:=(List.take_append_getElem hlt).symm
  have e2:(l.take (j+1)).flatMap Wire.strE=(l.take j).flatMap Wire.strE++(Wire.strE) l[j]:=by rw [e,List.flatMap_append]; simp
  have hle:((l.take (j+1)).flatMap Wire.strE).length≤(l.flatMap Wire.strE).length:=by
   conv=>rhs; rw [←List.take_append_drop (j+1) l]
   rw [List.flatMap_append,List.length_append]
   omega
  have hm:=List.getElem_mem hlt
  have hx:l[j].length≤(Wire.strE l[j]).length:=by unfold Wire.strE; rw [List.length_append]; omega
  have c:=a_jwtext (s++(l.take j).flatMap Wire.strE) l[j] (by rw [List.length_append]; rw [e2,List.length_append] at hle; omega) (h:=⟨[jwB (s++(l.take j).flatMap Wire.strE)],[]⟩) (i:=0) rfl
  have e3:s++(l.take j).flatMap Wire.strE++(Wire.strE) l[j]=s++(l.take (j+1)).flatMap Wire.strE:=by rw [List.append_assoc,←e2]
  replace e3:_:=congrArg jwB e3
  rw [e3] at c
  obtain ⟨x,hx'⟩:∃ x,l[j]=x:=⟨_,rfl⟩
  rw [hx'] at hf c
  dsimp only at hf
  refine run0 (ai ht hf) ?_
  refine use c ?_
  refine run0 (ai ht hf) ?_
  exact ⟨_,by omega,j+1,rfl,by omega,rfl,by (exact inv0 (ai ht hf))⟩
 ·have hf:¬ (j:Int) < (l.length:Int):=by omega
  rw [List.take_of_length_le hge]
  refine run0 (ai ht hf) ?_
  exact ⟨_,le_refl _,rfl,rfl⟩
theorem a_jeachi (s:List UInt8) (l:List Int) (hb0:∀ x∈l,-9223372036854775808≤x∧x≤9223372036854775807) (hs:s.length+(l.flatMap Wire.num).length+10≤1000000000) (hn:l.length≤1000000000) {h:Hp} {i:Nat} (hb:h.b[i]?=some (jwB s)) :
  ACall Tryz.prog GT 59 [.fn (28+1000000) [.ptr i 0],.sl 1 .no (l.map fun x=>[A.int .i64 x])] h fun v h'=>v = .tup []∧h'=⟨h.b.set i (jwB (s++l.flatMap Wire.num)),h.t⟩:=by
 refine liftJ (x:=.fn (28+1000000) [.ptr 0 0]) rfl rfl ?_ rfl hb
 have li:(l.map fun x=>[A.int .i64 x]).length=l.length:=List.length_map _
 refine acall_of mixedT h_jeachi (by simp [c_jeachi]) ?_
 dsimp only [c_jeachi]
 refine run0 li ?_
 refine awp_loop (fun m ts hh=>∃ j:Nat,m=l.length - j∧j≤l.length∧hh=⟨[jwB (s++(l.take j).flatMap Wire.num)],[]⟩∧(ts 0 = .fn (28+1000000) [.ptr 0 0]∧ts 6 = .sl 1 .no (l.map fun x=>[A.int .i64 x])∧ts 7 = .int .i64 (l.length:Nat)∧ts 8 = .int .i64 (j:Nat))) l.length ?_ ?_
 ·exact ⟨0,rfl,Nat.zero_le _,by simp,by (exact inv0 li)⟩
 rintro m ts hh ⟨j,rfl,hj,rfl,ht⟩
 rcases Nat.lt_or_ge j l.length with hlt | hge
 ·have hf:(l.map fun x=>[A.int .i64 x]).length=l.length∧(j:Int) < (l.length:Int)∧(0:Int)≤(j:Int)∧(l.map fun x=>[A.int .i64 x]).getD j []=(fun x=>[A.int .i64 x]) l[j]∧IntKind.i64.wrap ((j:Int)+1)=((j+1:Nat):Int):=
   ⟨li,by omega,by omega,by simp [List.getD,hlt],by rw [wrap64 (by omega) (by omega)]; omega⟩
  have e:l.take (j+1)=l.take j++[l[j]]:=(List.take_append_getElem hlt).symm
  have e2:(l.take (j+1)).flatMap Wire.num=(l.take j).flatMap Wire.num++(Wire.num) l[j]:=by rw [e,List.flatMap_append]; simp
  have hle:((l.take (j+1)).flatMap Wire.num).length≤(l.flatMap Wire.num).length:=by
   conv=>rhs; rw [←List.take_append_drop (j+1) l]
   rw [List.flatMap_append,List.length_append]
   omega
  have hm:=List.getElem_mem hlt
  skip
  have c:=a_jwnum (s++(l.take j).flatMap Wire.num) l[j] (by rw [List.length_append]; rw [e2,List.length_append] at hle; omega) (hb0 _ hm).1 (hb0 _ hm).2 (h:=⟨[jwB (s++(l.take j).flatMap Wire.num)],[]⟩) (i:=0) rfl
  have e3:s++(l.take j).flatMap Wire.num++(Wire.num) l[j]=s++(l.take (j+1)).flatMap Wire.num:=by rw [List.append_assoc,←e2]
  replace e3:_:=congrArg jwB e3
  rw [e3] at c
  obtain ⟨x,hx'⟩:∃ x,l[j]=x:=⟨_,rfl⟩
  rw [hx'] at hf c
  dsimp only at hf
  refine run0 (ai ht hf) ?_
  refine use c ?_
  refine run0 (ai ht hf) ?_
  exact ⟨_,by omega,j+1,rfl,by omega,rfl,by (exact inv0 (ai ht hf))⟩
 ·have hf:¬ (j:Int) < (l.length:Int):=by omega
  rw [List.take_of_length_le hge]
  refine run0 (ai ht hf) ?_
  exact ⟨_,le_refl _,rfl,rfl⟩
theorem a_jeachb (s:List UInt8) (l:List Bool) (hs:s.length+(l.flatMap (fun b=>Wire.num (flagN b))).length+10≤1000000000) (hn:l.length≤1000000000) {h:Hp} {i:Nat} (hb:h.b[i]?=some (jwB s)) :
  ACall Tryz.prog GT 62 [.fn (63+1000000) [.ptr i 0],.sl 1 .no (l.map fun x=>[A.bool x])] h fun v h'=>v = .tup []∧h'=⟨h.b.set i (jwB (s++l.flatMap (fun b=>Wire.num (flagN b)))),h.t⟩:=by
 refine liftJ (x:=.fn (63+1000000) [.ptr 0 0]) rfl rfl ?_ rfl hb
 have li:(l.map fun x=>[A.bool x]).length=l.length:=List.length_map _
 refine acall_of mixedT h_jeachb (by simp [c_jeachb]) ?_
 dsimp only [c_jeachb]
 refine run0 li ?_
 refine awp_loop (fun m ts hh=>∃ j:Nat,m=l.length - j∧j≤l.length∧hh=⟨[jwB (s++(l.take j).flatMap (fun b=>Wire.num (flagN b)))],[]⟩∧(ts 0 = .fn (63+1000000) [.ptr 0 0]∧ts 6 = .sl 1 .no (l.map fun x=>[A.bool x])∧ts 7 = .int .i64 (l.length:Nat)∧ts 8 = .int .i64 (j:Nat))) l.length ?_ ?_
 ·exact ⟨0,rfl,Nat.zero_le _,by simp,by (exact inv0 li)⟩
 rintro m ts hh ⟨j,rfl,hj,rfl,ht⟩
 rcases Nat.lt_or_ge j l.length with hlt | hge
 ·have hf:(l.map fun x=>[A.bool x]).length=l.length∧(j:Int) < (l.length:Int)∧(0:Int)≤(j:Int)∧(l.map fun x=>[A.bool x]).getD j []=(fun x=>[A.bool x]) l[j]∧IntKind.i64.wrap ((j:Int)+1)=((j+1:Nat):Int):=
   ⟨li,by omega,by omega,by simp [List.getD,hlt],by rw [wrap64 (by omega) (by omega)]; omega⟩
  have e:l.take (j+1)=l.take j++[l[j]]:=(List.take_append_getElem hlt).symm
  have e2:(l.take (j+1)).flatMap (fun b=>Wire.num (flagN b))=(l.take j).flatMap (fun b=>Wire.num (flagN b))++((fun b=>Wire.num (flagN b))) l[j]:=by rw [e,List.flatMap_append]; simp
  have hle:((l.take (j+1)).flatMap (fun b=>Wire.num (flagN b))).length≤(l.flatMap (fun b=>Wire.num (flagN b))).length:=by
   conv=>rhs; rw [←List.take_append_drop (j+1) l]
   rw [List.flatMap_append,List.length_append]
   omega
  have hm:=List.getElem_mem hlt
  skip
  have c:=a_jwflag (s++(l.take j).flatMap fun b=>Wire.num (flagN b)) l[j] (by rw [List.length_append]; rw [e2,List.length_append] at hle; omega) (h:=⟨[jwB (s++(l.take j).flatMap (fun b=>Wire.num (flagN b)))],[]⟩) (i:=0) rfl
  have e3:s++(l.take j).flatMap (fun b=>Wire.num (flagN b))++((fun b=>Wire.num (flagN b))) l[j]=s++(l.take (j+1)).flatMap (fun b=>Wire.num (flagN b)):=by rw [List.append_assoc,←e2]
  replace e3:_:=congrArg jwB e3
  rw [e3] at c
  obtain ⟨x,hx'⟩:∃ x,l[j]=x:=⟨_,rfl⟩
  rw [hx'] at hf c
  dsimp only at hf
  refine run0 (ai ht hf) ?_
  refine use c ?_
  refine run0 (ai ht hf) ?_
  exact ⟨_,by omega,j+1,rfl,by omega,rfl,by (exact inv0 (ai ht hf))⟩
 ·have hf:¬ (j:Int) < (l.length:Int):=by omega
  rw [List.take_of_length_le hge]
  refine run0 (ai ht hf) ?_
  exact ⟨_,le_refl _,rfl,rfl⟩
end AX
end Go.Proofs.YtahmpiioegemaaaGreatDoor

namespace Go.Proofs.YtahmpiioegemaaaGreatDoor
open Go.RowKit
namespace AX
def c_indexs:AX.AFn:=⟨19,aS [aR 4 (.mv (aI 0))] (.seq (aS [aM 6 0,aR 7 (.len false (.t 6)),aR 8 (.mv (aI 0))] (.block 0 (.loop (aS [aR 9 (.bin .lss (.t 8) (.t 7))] (.seq (.cond (.t 9) (.skip) (.exit 0)) (.seq (.block 1 (aS [aM 10 8,aM 5 10] (aS [aM 11 1,aM 12 0,aM 13 5,aR 14 (.iaddr 1 (.t 12) (.t 13)),aL 15 14,aR 16 (.callv (.t 11) [.t 15])] (.cond (.t 16) (aS [aM 17 5,aM 4 17] (.ret)) (.skip))))) (.reg false [aR 18 (.bin .add (.t 8) (aI 1)),aM 8 18]))))))) (aS [aR 4 (.mv (aI (-1)))] (.ret))),[.t 4]⟩
theorem h_indexs:AX.compFn Tryz.prog 138=some c_indexs:=by kernel_rfl
def c_containss:AX.AFn:=⟨9,aS [aR 4 (.mv (.c (.bool false)))] (aS [aM 5 0,aM 6 1,aR 7 (.call 138 [.t 5,.t 6]),aR 8 (.bin .geq (.t 7) (aI 0)),aM 4 8] (.ret)),[.t 4]⟩
theorem h_containss:AX.compFn Tryz.prog 98=some c_containss:=by kernel_rfl
def c_jshort:AX.AFn:=⟨6,aS [aR 2 (.mv (.c (.bool false)))] (aS [aM 3 0,aR 4 (.call 98 [.t 3,.c (.fn 99 [])]),aR 5 (.un .not (.t 4)),aM 2 5] (.ret)),[.t 2]⟩
theorem h_jshort:AX.compFn Tryz.prog 56=some c_jshort:=by kernel_rfl
def c_jshort1:AX.AFn:=⟨6,aS [aR 2 (.mv (.c (.bool false)))] (aS [aM 3 0,aR 4 (.len true (.t 3)),aR 5 (.bin .gtr (.t 4) (aI 4096)),aM 2 5] (.ret)),[.t 2]⟩
theorem h_jshort1:AX.compFn Tryz.prog 99=some c_jshort1:=by kernel_rfl
def c_jinstance:AX.AFn:=⟨40,aS [aR 1 (.box 36 (.t 0)),aR 2 (.mv (.c (.bool false)))] (aS [aF 3 0 1,aL 4 3,aF 5 1 1,aL 6 5,aF 7 2 1,aL 8 7,aF 9 3 1,aL 10 9,aR 11 (.mks 1 [.t 4,.t 6,.t 8,.t 10]),aR 12 (.call 56 [.t 11]),aM 13 12,aG 14 (.faddr 12 (.t 1)) 13 true,aG 15 (.load false 1 (.t 14)) 13 true,aG 16 (.call 56 [.t 15]) 13 true,aR 17 (.pick (.t 13) (.t 16) (.c (.bool false))),aM 18 17,aG 19 (.faddr 12 (.t 1)) 18 true,aG 20 (.load false 1 (.t 19)) 18 true,aG 21 (.len false (.t 20)) 18 true,aG 22 (.bin .leq (.t 21) (aI 512)) 18 true,aR 23 (.pick (.t 18) (.t 22) (.c (.bool false))),aM 24 23,aG 25 (.faddr 4 (.t 1)) 24 true,aG 26 (.load true 5 (.t 25)) 24 true,aG 27 (.call 97 [.t 26]) 24 true,aG 28 (.bin .eql (.t 27) (aI 0)) 24 true,aR 29 (.pick (.t 24) (.t 28) (.c (.bool false))),aM 30 29,aG 31 (.faddr 9 (.t 1)) 30 true,aG 32 (.load false 1 (.t 31)) 30 true,aG 33 (.bin .geq (.t 32) (aI 0)) 30 true,aR 34 (.pick (.t 30) (.t 33) (.c (.bool false))),aM 35 34,aG 36 (.faddr 9 (.t 1)) 35 true,aG 37 (.load false 1 (.t 36)) 35 true,aG 38 (.bin .leq (.t 37) (aI 9007199254740992)) 35 true,aR 39 (.pick (.t 35) (.t 38) (.c (.bool false))),aM 2 39] (.ret)),[.t 2]⟩
theorem h_jinstance:AX.compFn Tryz.prog 53=some c_jinstance:=by kernel_rfl
def c_jnone:AX.AFn:=⟨74,aS [aR 1 (.box 36 (.t 0)),aR 2 (.mv (.c (.bool false)))] (aS [aF 5 4 1,aR 6 (.load true 5 (.t 5)),aR 3 (.alloc 34 [.int .i64 0,.int .i64 0,.str [],.sl 0 .nil [],.sl 0 .nil []]),aU (.store 5 (.t 3) (.t 6))] (aS [aF 7 0 3,aL 8 7,aR 9 (.bin .eql (.t 8) (aI 0)),aM 10 9,aG 11 (.faddr 1 (.t 3)) 10 true,aG 12 (.load false 1 (.t 11)) 10 true,aG 13 (.bin .eql (.t 12) (aI 0)) 10 true,aR 14 (.pick (.t 10) (.t 13) (.c (.bool false))),aM 15 14,aG 16 (.faddr 2 (.t 3)) 15 true,aG 17 (.load false 1 (.t 16)) 15 true,aG 18 (.bin .eql (.t 17) (.c (.str []))) 15 true,aR 19 (.pick (.t 15) (.t 18) (.c (.bool false))),aM 20 19,aG 21 (.faddr 3 (.t 3)) 20 true,aG 22 (.load false 1 (.t 21)) 20 true,aG 23 (.len false (.t 22)) 20 true,aG 24 (.bin .eql (.t 23) (aI 0)) 20 true,aR 25 (.pick (.t 20) (.t 24) (.c (.bool false))),aM 26 25,aG 27 (.faddr 4 (.t 3)) 26 true,aG 28 (.load false 1 (.t 27)) 26 true,aG 29 (.len false (.t 28)) 26 true,aG 30 (.bin .eql (.t 29) (aI 0)) 26 true,aR 31 (.pick (.t 26) (.t 30) (.c (.bool false))),aM 4 31] (aS [aM 32 4,aM 33 32,aG 34 (.faddr 0 (.t 1)) 33 true,aG 35 (.load false 1 (.t 34)) 33 true,aG 36 (.bin .eql (.t 35) (.c (.str []))) 33 true,aR 37 (.pick (.t 33) (.t 36) (.c (.bool false))),aM 38 37,aG 39 (.faddr 1 (.t 1)) 38 true,aG 40 (.load false 1 (.t 39)) 38 true,aG 41 (.bin .eql (.t 40) (.c (.str []))) 38 true,aR 42 (.pick (.t 38) (.t 41) (.c (.bool false))),aM 43 42,aG 44 (.faddr 2 (.t 1)) 43 true,aG 45 (.load false 1 (.t 44)) 43 true,aG 46 (.bin .eql (.t 45) (.c (.str []))) 43 true,aR 47 (.pick (.t 43) (.t 46) (.c (.bool false))),aM 48 47,aG 49 (.faddr 3 (.t 1)) 48 true,aG 50 (.load false 1 (.t 49)) 48 true,aG 51 (.bin .eql (.t 50) (.c (.str []))) 48 true,aR 52 (.pick (.t 48) (.t 51) (.c (.bool false))),aM 53 52,aG 54 (.faddr 9 (.t 1)) 53 true,aG 55 (.load false 1 (.t 54)) 53 true,aG 56 (.bin .eql (.t 55) (aI 0)) 53 true,aR 57 (.pick (.t 53) (.t 56) (.c (.bool false))),aM 58 57,aG 59 (.faddr 10 (.t 1)) 58 true,aG 60 (.load false 1 (.t 59)) 58 true,aG 61 (.un .not (.t 60)) 58 true,aR 62 (.pick (.t 58) (.t 61) (.c (.bool false))),aM 63 62,aG 64 (.faddr 11 (.t 1)) 63 true,aG 65 (.load false 1 (.t 64)) 63 true,aG 66 (.un .not (.t 65)) 63 true,aR 67 (.pick (.t 63) (.t 66) (.c (.bool false))),aM 68 67,aG 69 (.faddr 12 (.t 1)) 68 true,aG 70 (.load false 1 (.t 69)) 68 true,aG 71 (.len false (.t 70)) 68 true,aG 72 (.bin .eql (.t 71) (aI 0)) 68 true,aR 73 (.pick (.t 68) (.t 72) (.c (.bool false))),aM 2 73] (.ret)))),[.t 2]⟩
theorem h_jnone:AX.compFn Tryz.prog 51=some c_jnone:=by kernel_rfl
def c_jempty:AX.AFn:=⟨29,aS [aR 1 (.box 27 (.t 0)),aR 2 (.mv (.c (.bool false)))] (aS [aF 3 0 1,aL 4 3,aR 5 (.bin .eql (.t 4) (.c (.str []))),aM 6 5,aG 7 (.faddr 1 (.t 1)) 6 true,aG 8 (.load false 1 (.t 7)) 6 true,aG 9 (.bin .eql (.t 8) (aI 0)) 6 true,aR 10 (.pick (.t 6) (.t 9) (.c (.bool false))),aM 11 10,aG 12 (.faddr 2 (.t 1)) 11 true,aG 13 (.load false 1 (.t 12)) 11 true,aG 14 (.len false (.t 13)) 11 true,aG 15 (.bin .eql (.t 14) (aI 0)) 11 true,aR 16 (.pick (.t 11) (.t 15) (.c (.bool false))),aM 17 16,aG 18 (.faddr 3 (.t 1)) 17 true,aG 19 (.load false 1 (.t 18)) 17 true,aG 20 (.len false (.t 19)) 17 true,aG 21 (.bin .eql (.t 20) (aI 0)) 17 true,aR 22 (.pick (.t 17) (.t 21) (.c (.bool false))),aM 23 22,aG 24 (.faddr 4 (.t 1)) 23 true,aG 25 (.load false 1 (.t 24)) 23 true,aG 26 (.len false (.t 25)) 23 true,aG 27 (.bin .eql (.t 26) (aI 0)) 23 true,aR 28 (.pick (.t 23) (.t 27) (.c (.bool false))),aM 2 28] (.ret)),[.t 2]⟩
theorem h_jempty:AX.compFn Tryz.prog 50=some c_jempty:=by kernel_rfl
def c_jstep:AX.AFn:=⟨31,aS [aR 1 (.box 38 (.t 0)),aR 2 (.mv (.c (.bool false)))] (aS [aF 3 6 1,aL 4 3,aR 5 (.bin .geq (.t 4) (aI 0)),aM 6 5,aG 7 (.faddr 6 (.t 1)) 6 true,aG 8 (.load false 1 (.t 7)) 6 true,aG 9 (.bin .lss (.t 8) (aI 2048)) 6 true,aR 10 (.pick (.t 6) (.t 9) (.c (.bool false))),aM 11 10,aG 12 (.faddr 7 (.t 1)) 11 true,aG 13 (.load false 1 (.t 12)) 11 true,aG 14 (.bin .geq (.t 13) (aI 1)) 11 true,aR 15 (.pick (.t 11) (.t 14) (.c (.bool false))),aM 16 15,aG 17 (.faddr 7 (.t 1)) 16 true,aG 18 (.load false 1 (.t 17)) 16 true,aG 19 (.bin .leq (.t 18) (aI 4)) 16 true,aR 20 (.pick (.t 16) (.t 19) (.c (.bool false))),aM 21 20,aG 22 (.faddr 8 (.t 1)) 21 true,aG 23 (.load false 1 (.t 22)) 21 true,aG 24 (.faddr 9 (.t 1)) 21 true,aG 25 (.load false 1 (.t 24)) 21 true,aG 26 (.faddr 10 (.t 1)) 21 true,aG 27 (.load false 1 (.t 26)) 21 true,aG 28 (.mks 1 [.t 23,.t 25,.t 27]) 21 true,aG 29 (.call 56 [.t 28]) 21 true,aR 30 (.pick (.t 21) (.t 29) (.c (.bool false))),aM 2 30] (.ret)),[.t 2]⟩
theorem h_jstep:AX.compFn Tryz.prog 55=some c_jstep:=by kernel_rfl
def c_jbare:AX.AFn:=⟨26,aS [aR 1 (.box 38 (.t 0)),aR 2 (.mv (.c (.bool false)))] (aS [aF 3 6 1,aL 4 3,aR 5 (.bin .eql (.t 4) (aI 0)),aM 6 5,aG 7 (.faddr 7 (.t 1)) 6 true,aG 8 (.load false 1 (.t 7)) 6 true,aG 9 (.bin .eql (.t 8) (aI 0)) 6 true,aR 10 (.pick (.t 6) (.t 9) (.c (.bool false))),aM 11 10,aG 12 (.faddr 8 (.t 1)) 11 true,aG 13 (.load false 1 (.t 12)) 11 true,aG 14 (.bin .eql (.t 13) (.c (.str []))) 11 true,aR 15 (.pick (.t 11) (.t 14) (.c (.bool false))),aM 16 15,aG 17 (.faddr 9 (.t 1)) 16 true,aG 18 (.load false 1 (.t 17)) 16 true,aG 19 (.bin .eql (.t 18) (.c (.str []))) 16 true,aR 20 (.pick (.t 16) (.t 19) (.c (.bool false))),aM 21 20,aG 22 (.faddr 10 (.t 1)) 21 true,aG 23 (.load false 1 (.t 22)) 21 true,aG 24 (.bin .eql (.t 23) (.c (.str []))) 21 true,aR 25 (.pick (.t 21) (.t 24) (.c (.bool false))),aM 2 25] (.ret)),[.t 2]⟩
theorem h_jbare:AX.compFn Tryz.prog 54=some c_jbare:=by kernel_rfl
def c_jmakes:AX.AFn:=⟨9,aS [aR 2 (.mv (.c (.bool false)))] (aS [aM 3 0,aR 4 (.bin .eql (.t 3) (aI 1)),aM 5 4,aG 6 (.mv (.t 0)) 5 false,aG 7 (.bin .eql (.t 6) (aI 2)) 5 false,aR 8 (.pick (.t 5) (.c (.bool true)) (.t 7)),aM 2 8] (.ret)),[.t 2]⟩
theorem h_jmakes:AX.compFn Tryz.prog 52=some c_jmakes:=by kernel_rfl
def longIdx:Nat→List (List UInt8)→Int
 | _,[]=>-1
 | i,s::l=>if decide ((s.length:Int) > 4096)=true then i else longIdx (i+1) l
theorem longIdx_ge:∀ (l:List (List UInt8)) (i:Nat),decide (longIdx i l≥0)=!Jr.shortB l
 | [],i=>rfl
 | s::l,i=>by
  unfold longIdx Jr.shortB
  rw [List.all_cons]
  by_cases h:(s.length:Int) > 4096
  ·rw [if_pos (by simpa using h),show decide ((s.length:Int)≤4096)=false by simpa using h]
   simp
  ·rw [if_neg (by simpa using h),show decide ((s.length:Int)≤4096)=true by simpa using h,Bool.true_and]
   exact longIdx_ge l (i+1)
theorem a_jshort1 (s:List UInt8) (h:Hp):ACall Tryz.prog GT 99 [.str s] h fun r h'=>r = .bool (decide ((s.length:Int) > 4096))∧h'=h:=by
 refine pcall ?_ rfl (by simp [A.pure,A.data]) h
 refine acall_of mixedT h_jshort1 (by simp [c_jshort1]) ?_
 dsimp only [c_jshort1]
 refine runx0 ti ti ?_
 exact ⟨_,le_refl _,rfl⟩
theorem a_indexs (ks:List (List UInt8)) (hn:ks.length≤1000000000) (h:Hp):ACall Tryz.prog GT 138 [.sl 1 .no (strsA ks),.fn 99 []] h fun r h'=>r = .int .i64 (longIdx 0 ks)∧h'=h:=by
 refine pcall ?_ rfl (by simp [A.pure,A.data]) h
 refine acall_of mixedT h_indexs (by simp [c_indexs]) ?_
 dsimp only [c_indexs]
 obtain ⟨D,hD⟩:∃ D,longIdx 0 ks=D:=⟨_,rfl⟩
 rw [hD]
 have li:(strsA ks).length=ks.length:=strsA_length ks
 refine run0 li ?_
 refine awp_loop (fun mm ts h=>∃ (j:Nat),mm=ks.length - j∧j≤ks.length∧h=⟨[],[]⟩∧longIdx j (ks.drop j)=D∧(ts 0 = .sl 1 .no (strsA ks)∧ts 1 = .fn 99 []∧ts 7 = .int .i64 (ks.length:Nat)∧ts 8 = .int .i64 (j:Nat))) ks.length ?_ ?_
 ·exact ⟨0,by omega,by omega,rfl,hD,by (exact inv0 li)⟩
 rintro mm ts h ⟨j,rfl,hjc,rfl,hit,ht⟩
 by_cases hj:j < ks.length
 ·have hf:=rowj_at (fun s:List UInt8=>[A.str s]) ks j hj (by omega)
  have hf':(strsA ks).length=ks.length∧(j:Int) < (ks.length:Int)∧(0:Int)≤(j:Int)∧(strsA ks).getD j []=[.str ks[j]]∧IntKind.i64.wrap ((j:Int)+1)=((j+1:Nat):Int):=hf
  clear hf
  rw [List.drop_eq_getElem_cons hj] at hit
  unfold longIdx at hit
  obtain ⟨x,hx⟩:∃ x,ks[j]=x:=⟨_,rfl⟩
  rw [hx] at hf' hit
  have cf:=a_jshort1 x
  obtain ⟨K,hK⟩:∃ K,decide ((x.length:Int) > 4096)=K:=⟨_,rfl⟩
  rw [hK] at cf hit
  refine run0 (ai ht hf') ?_
  refine use (cf _) ?_
  cases K
  ·rw [if_neg (by simp)] at hit
   refine run0 (ai ht hf') ?_
   exact ⟨ks.length - (j+1),by omega,j+1,rfl,by omega,rfl,hit,by (exact inv0 (ai ht hf'))⟩
  ·rw [if_pos rfl] at hit
   subst hit
   refine run0 (ai ht hf') ?_
   exact ⟨_,le_refl _,rfl⟩
 ·have hlt:¬ ((j:Int) < (ks.length:Int)):=by omega
  rw [List.drop_eq_nil_of_le (by omega)] at hit
  unfold longIdx at hit
  subst hit
  refine run0 (ai ht (ai hlt li)) ?_
  exact ⟨_,le_refl _,rfl⟩
theorem a_jshort (ks:List (List UInt8)) (hn:ks.length≤1000000000) (h:Hp):ACall Tryz.prog GT 56 [.sl 1 .no (strsA ks)] h fun r h'=>r = .bool (Jr.shortB ks)∧h'=h:=by
 have ci:=a_indexs ks hn
 have hge:=longIdx_ge ks 0
 obtain ⟨D,hD⟩:∃ D,longIdx 0 ks=D:=⟨_,rfl⟩
 rw [hD] at ci hge
 have cc:∀ h,ACall Tryz.prog GT 98 [.sl 1 .no (strsA ks),.fn 99 []] h fun r h'=>r = .bool (!Jr.shortB ks)∧h'=h:=fun h=>by
  rw [←hge]
  refine pcall ?_ rfl (by simp [A.pure,A.data]) h
  refine acall_of mixedT h_containss (by simp [c_containss]) ?_
  dsimp only [c_containss]
  refine runx0 ti (ai ci ti) ?_
  exact ⟨_,le_refl _,rfl⟩
 obtain ⟨B,hB⟩:∃ B,Jr.shortB ks=B:=⟨_,rfl⟩
 rw [hB] at cc ⊢
 refine pcall ?_ rfl (by simp [A.pure,A.data]) h
 refine acall_of mixedT h_jshort (by simp [c_jshort]) ?_
 dsimp only [c_jshort]
 refine runx0 ti (ai cc ti) ?_
 exact ⟨_,le_refl _,by cases B <;> rfl⟩
theorem a_jnone (x:Sf.Inst) (h:Hp):ACall Tryz.prog GT 51 [.agg (Sf.Inst.cells x)] h fun r h'=>r = .bool (Jr.noneB x)∧h'=h:=by
 obtain ⟨a,d,i,t,⟨k,n,s,is,ks⟩,v,tn,fi,ds⟩:=x
 have l1:=V.cellss_length is
 have l2:=strsA_length ks
 have l3:=strsA_length ds
 unfold Sf.Inst.cells Jr.noneB Jr.zeroV
 dsimp only
 refine pcall ?_ rfl (by simp [A.pure,A.data]) h
 refine acall_of mixedT h_jnone (by simp [c_jnone]) ?_
 dsimp only [c_jnone]
 refine runx0 (ai l1 (ai l2 l3)) ti ?_
 exact ⟨_,le_refl _,rfl⟩
theorem a_jempty (s:Sf.St) (h:Hp):ACall Tryz.prog GT 50 [s.A] h fun r h'=>r = .bool (Jr.emptyB s)∧h'=h:=by
 obtain ⟨lin,ser,ins,ps,os⟩:=s
 have l1:(ins.map Sf.Inst.cells).length=ins.length:=List.length_map _
 have l2:(ps.map Sf.Pend.cells).length=ps.length:=List.length_map _
 have l3:(os.map Sf.Outp.cells).length=os.length:=List.length_map _
 unfold Sf.St.A Jr.emptyB
 dsimp only
 refine pcall ?_ rfl (by simp [A.pure,A.data]) h
 refine acall_of mixedT h_jempty (by simp [c_jempty]) ?_
 dsimp only [c_jempty]
 refine runx0 (ai l1 (ai l2 l3)) ti ?_
 exact ⟨_,le_refl _,rfl⟩
theorem a_jmakes (n:Int) (h:Hp):ACall Tryz.prog GT 52 [.int .i64 n] h fun r h'=>r = .bool (Jr.makesB n)∧h'=h:=by
 refine pcall ?_ rfl (by simp [A.pure,A.data]) h
 refine acall_of mixedT h_jmakes (by simp [c_jmakes]) ?_
 dsimp only [c_jmakes]
 unfold Jr.makesB
 refine runx0 ti ti ?_
 exact ⟨_,le_refl _,rfl⟩
theorem a_jinst (x:Sf.Inst) (hl:x.attrs.lens) (hd:x.deps.length≤1000000000) (h:Hp):ACall Tryz.prog GT 53 [.agg (Sf.Inst.cells x)] h fun r h'=>r = .bool (Jr.instB x)∧h'=h:=by
 obtain ⟨a,d,i,t,⟨k,n,s,is,ks⟩,v,tn,fi,ds⟩:=x
 have l3:=strsA_length ds
 have c1:=a_jshort [a,d,i,t] (by simp)
 have c2:=a_jshort ds hd
 have c3:=a_vCheck (.mk k n s is ks) hl
 simp only [V.A,V.cells] at c3
 unfold Sf.Inst.cells Jr.instB
 dsimp only
 obtain ⟨b1,h1⟩:∃ b,Jr.shortB [a,d,i,t]=b:=⟨_,rfl⟩
 obtain ⟨b2,h2⟩:∃ b,Jr.shortB ds=b:=⟨_,rfl⟩
 obtain ⟨Z,hZ⟩:∃ b,Val.checkZ (.mk k n s is ks)=b:=⟨_,rfl⟩
 rw [h1] at c1
 rw [h2] at c2
 rw [hZ] at c3
 rw [h1,h2,hZ]
 have c1':∀ h,ACall Tryz.prog GT 56 [.sl 1 .no [[.str a],[.str d],[.str i],[.str t]]] h fun r h'=>r = .bool b1∧h'=h:=c1
 refine pcall ?_ rfl (by simp [A.pure,A.data]) h
 refine acall_of mixedT h_jinstance (by simp [c_jinstance]) ?_
 dsimp only [c_jinstance]
 refine runx0 l3 (ai c1' (ai c2 (ai c3 ti))) ?_
 exact ⟨_,le_refl _,rfl⟩
theorem a_jbare (r:Jr) (h:Hp):ACall Tryz.prog GT 54 [.agg r.cells] h fun v h'=>v = .bool r.bareB∧h'=h:=by
 obtain ⟨kd,⟨lin,ser,ins,ps,os⟩,st,op,ad,dp,ty,tk,er,⟨a,d,i,t,⟨k,n,s,is,ks⟩,v,tn,fi,ds⟩⟩:=r
 unfold Jr.bareB
 simp only [Jr.cells,Sf.Inst.cells,List.cons_append,List.nil_append]
 refine pcall ?_ rfl (by simp [A.pure,A.data]) h
 refine acall_of mixedT h_jbare (by simp [c_jbare]) ?_
 dsimp only [c_jbare]
 refine runx0 ti ti ?_
 exact ⟨_,le_refl _,rfl⟩
theorem a_jstep (r:Jr) (h:Hp):ACall Tryz.prog GT 55 [.agg r.cells] h fun v h'=>v = .bool r.stepB∧h'=h:=by
 obtain ⟨kd,⟨lin,ser,ins,ps,os⟩,st,op,ad,dp,ty,tk,er,⟨a,d,i,t,⟨k,n,s,is,ks⟩,v,tn,fi,ds⟩⟩:=r
 unfold Jr.stepB
 simp only [Jr.cells,Sf.Inst.cells,List.cons_append,List.nil_append]
 have c1:=a_jshort [ad,dp,ty] (by simp)
 obtain ⟨b1,h1⟩:∃ b,Jr.shortB [ad,dp,ty]=b:=⟨_,rfl⟩
 rw [h1] at c1 ⊢
 have c1':∀ h,ACall Tryz.prog GT 56 [.sl 1 .no [[.str ad],[.str dp],[.str ty]]] h fun r h'=>r = .bool b1∧h'=h:=c1
 refine pcall ?_ rfl (by simp [A.pure,A.data]) h
 refine acall_of mixedT h_jstep (by simp [c_jstep]) ?_
 dsimp only [c_jstep]
 refine runx0 ti (ai c1' ti) ?_
 exact ⟨_,le_refl _,rfl⟩
theorem a_jvalid (r:Jr) (hl:r.after.attrs.lens) (hd:r.after.deps.length≤1000000000) (h:Hp):ACall Tryz.prog GT 27 [.agg r.cells] h fun v h'=>v = .bool r.validB∧h'=h:=by
 have ce:=a_jempty r.base
 have cn:=a_jnone r.after
 have cm:=a_jmakes r.op
 have ci:=a_jinst r.after hl hd
 have cb:=a_jbare r
 have cs:=a_jstep r
 have ct:=a_jshort [r.tok] (by simp)
 have hbad:Jr.badB r=(r.kind != 1&&!Jr.emptyB r.base||r.kind != 2&&r.tok != []||r.kind != 4&&r.err != 0):=rfl
 have haft:Jr.afterB r=(Jr.noneB r.after||Jr.makesB r.op&&Jr.instB r.after):=rfl
 unfold Jr.validB
 obtain ⟨bad,hbd⟩:∃ b,Jr.badB r=b:=⟨_,rfl⟩
 obtain ⟨aft,haf⟩:∃ b,Jr.afterB r=b:=⟨_,rfl⟩
 obtain ⟨e,he⟩:∃ b,Jr.emptyB r.base=b:=⟨_,rfl⟩
 obtain ⟨n,hn⟩:∃ b,Jr.noneB r.after=b:=⟨_,rfl⟩
 obtain ⟨m,hm⟩:∃ b,Jr.makesB r.op=b:=⟨_,rfl⟩
 obtain ⟨i,hi⟩:∃ b,Jr.instB r.after=b:=⟨_,rfl⟩
 obtain ⟨b,hb⟩:∃ b,r.bareB=b:=⟨_,rfl⟩
 obtain ⟨s,hs⟩:∃ b,r.stepB=b:=⟨_,rfl⟩
 obtain ⟨t,ht⟩:∃ b,Jr.shortB [r.tok]=b:=⟨_,rfl⟩
 rw [hbd,he] at hbad
 rw [haf,hn,hm,hi] at haft
 rw [he] at ce; rw [hn] at cn; rw [hm] at cm; rw [hi] at ci; rw [hb] at cb; rw [hs] at cs; rw [ht] at ct
 rw [hbd,haf,hn,hb,hs,ht]
 clear hbd haf he hn hm hi hb hs ht hl hd
 obtain ⟨kd,⟨lin,ser,ins,ps,os⟩,st,op,ad,dp,ty,tk,er,⟨a1,a2,a3,a4,⟨k,nn,ss,is,ks⟩,v,tn,fi,ds⟩⟩:=r
 have ct':∀ h,ACall Tryz.prog GT 56 [.sl 1 .no [[.str tk]]] h fun r h'=>r = .bool t∧h'=h:=ct
 simp only [Jr.cells,Sf.Inst.cells,List.cons_append,List.nil_append,Sf.St.A] at *
 refine pcall ?_ rfl (by simp [A.pure,A.data]) h
 refine fo ?_
 refine runx0 ti (ai ce ti) ?_
 (refine AX.alt0 ti ?_ ?_)
 ·intro hc
  rw [hc] at hbad
  subst hbad
  refine runx0 ti ti ?_
  exact ⟨_,le_refl _,rfl⟩
 intro hc
 rw [hc] at hbad
 subst hbad
 rw [if_neg (by decide)]
 refine runx0 ti (ai cn (ai cm (ai ci ti))) ?_
 by_cases q1:kd=1
 ·subst q1
  rw [if_pos (.inl rfl)]
  refine runx0 ti (ai cb (ai cn ti)) ?_
  exact ⟨_,le_refl _,rfl⟩
 have f1:(kd == 1)=false:=by simp [q1]
 by_cases q5:kd=5
 ·subst q5
  rw [if_pos (.inr rfl)]
  refine runx0 ti (ai cb (ai cn ti)) ?_
  exact ⟨_,le_refl _,rfl⟩
 have f5:(kd == 5)=false:=by simp [q5]
 rw [if_neg (by simp [q1,q5])]
 by_cases q2:kd=2
 ·subst q2
  rw [if_pos rfl]
  refine runx0 ti (ai cs (ai cn (ai ct' ti))) ?_
  exact ⟨_,le_refl _,rfl⟩
 have f2:(kd == 2)=false:=by simp [q2]
 rw [if_neg q2]
 by_cases q3:kd=3
 ·subst q3
  rw [if_pos rfl,haft]
  refine runx0 ti (ai cs ti) ?_
  exact ⟨_,le_refl _,rfl⟩
 have f3:(kd == 3)=false:=by simp [q3]
 rw [if_neg q3]
 by_cases q4:kd=4
 ·subst q4
  rw [if_pos rfl,haft]
  refine runx0 ti (ai cs ti) ?_
  exact ⟨_,le_refl _,rfl⟩
 have f4:(kd == 4)=false:=by simp [q4]
 rw [if_neg q4]
 refine runx0 (ai f1 (ai f2 (ai f3 (ai f4 f5)))) ti ?_
 exact ⟨_,le_refl _,rfl⟩
structure JrIn (r:Jr):Prop where
 base:Sf.StIn r.base
 lens:r.after.attrs.lens
 deps:r.after.deps.length≤1000000000
end AX
end Go.Proofs.YtahmpiioegemaaaGreatDoor
