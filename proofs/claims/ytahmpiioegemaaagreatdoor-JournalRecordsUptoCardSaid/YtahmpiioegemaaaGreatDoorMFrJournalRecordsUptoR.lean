/- Part of what the proof needs. -/
import Derived.Test.YtahmpiioegemaaaGreatDoorMFrJournalRecordsUptoF
import Derived.Test.YtahmpiioegemaaaGreatDoorMFrJournalRecordsUptoL
import Derived.Test.YtahmpiioegemaaaGreatDoorMFrJournalRecordsUptoM
import Derived.Test.YtahmpiioegemaaaGreatDoorMFrJournalRecordsUptoN
import Derived.Test.YtahmpiioegemaaaGreatDoorMFrJournalRecordsUptoO
import Derived.Test.YtahmpiioegemaaaGreatDoorMFrJournalRecordsUptoP
import Derived.Test.YtahmpiioegemaaaGreatDoorMFrJournalRecordsUptoQ
import Derived.Test.YtahmpiioegemaaaGreatDoorRows
set_option maxHeartbeats 4000000
set_option linter.unusedSimpArgs false
set_option linter.unusedVariables false
set_option linter.unnecessarySimpa false
namespace Go.Proofs.YtahmpiioegemaaaGreatDoor
open Go.RowKit
namespace AX
def c_jwstep:AX.AFn:=⟨22,aS [aR 3 (.box 38 (.t 1))] (aS [aM 4 0,aR 5 (.mkfn (28+1000000) [.t 4]),aF 6 6 3,aL 7 6,aF 8 7 3,aL 9 8,aR 10 (.mks 1 [.t 7,.t 9]),aR 11 (.call 59 [.t 5,.t 10])] (.reg false [aM 12 0,aR 13 (.mkfn (30+1000000) [.t 12]),aF 14 8 3,aL 15 14,aF 16 9 3,aL 17 16,aF 18 10 3,aL 19 18,aR 20 (.mks 1 [.t 15,.t 17,.t 19]),aR 21 (.call 60 [.t 13,.t 20])])),[]⟩
theorem h_jwstep:AX.compFn Tryz.prog 31=some c_jwstep:=by kernel_rfl
def c_jwinst:AX.AFn:=⟨48,aS [aR 3 (.box 36 (.t 1))] (aS [aM 4 0,aR 5 (.mkfn (30+1000000) [.t 4]),aF 6 0 3,aL 7 6,aF 8 1 3,aL 9 8,aF 10 2 3,aL 11 10,aF 12 3 3,aL 13 12,aR 14 (.mks 1 [.t 7,.t 9,.t 11,.t 13]),aR 15 (.call 60 [.t 5,.t 14])] (.seq (.reg true [aM 16 0,aM 17 0,⟨some 18,.nilck (.t 17),none,[1]⟩,⟨some 19,.faddr 0 (.t 18),none,[2]⟩,⟨some 20,.load false 1 (.t 19),none,[3]⟩,aF 21 4 3,⟨some 22,.load true 5 (.t 21),none,[5]⟩,⟨some 23,.call 61 [.t 20,.t 22],none,[4,6]⟩,⟨some 24,.nilck (.t 16),none,[0,0,1,2,3,4,5,6,7]⟩,⟨some 25,.faddr 0 (.t 24),none,[8,0,1,2,3,4,5,6,7]⟩,⟨none,.store 1 (.t 25) (.t 23),none,[9,7,7,0,1,2,3,4,5,6,7]⟩]) (aS [aM 26 0,aF 27 9 3,aL 28 27,aR 29 (.call 28 [.t 26,.t 28])] (aS [aM 30 0,aR 31 (.mkfn (63+1000000) [.t 30]),aF 32 10 3,aL 33 32,aF 34 11 3,aL 35 34,aR 36 (.mks 1 [.t 33,.t 35]),aR 37 (.call 62 [.t 31,.t 36])] (aS [aM 38 0,aF 39 12 3,aL 40 39,aR 41 (.len false (.t 40)),aR 42 (.call 28 [.t 38,.t 41])] (.reg false [aM 43 0,aR 44 (.mkfn (30+1000000) [.t 43]),aF 45 12 3,aL 46 45,aR 47 (.call 60 [.t 44,.t 46])])))))),[]⟩
theorem h_jwinst:AX.compFn Tryz.prog 32=some c_jwinst:=by kernel_rfl
def c_jencode:AX.AFn:=⟨74,aS [aR 1 (.box 38 (.t 0)),aR 2 (.mv (.c (.str []))),aR 3 (.mv (aI 0))] (.seq (aS [aR 8 (.load true 26 (.t 1)),aR 9 (.call 27 [.t 8]),aR 10 (.un .not (.t 9))] (.cond (.t 10) (aS [aR 2 (.mv (.c (.str []))),aR 3 (.mv (aI 1))] (.ret)) (.skip))) (aS [aR 11 (.build [.str []] []),aR 12 (.box 71 (.t 11)),aM 4 12] (aS [aM 13 4,aF 14 0 1,aL 15 14,aR 16 (.call 28 [.t 13,.t 15])] (.seq (aS [aF 17 0 1,aL 18 17] (.block 0 (aS [aR 20 (.bin .eql (.t 18) (aI 1)),aM 19 20] (.cond (.t 19) (aS [aF 22 1 1,aR 23 (.load true 5 (.t 22)),aR 24 (.call 29 [.t 23]),aM 21 24,aE 25 21 0,aE 26 21 1,aM 5 25,aM 6 26] (.seq (aS [aM 27 6,aR 28 (.bin .neq (.t 27) (aI 0))] (.cond (.t 28) (aS [aM 29 6,aR 2 (.mv (.c (.str []))),aM 3 29] (.ret)) (.skip))) (.reg false [aM 30 4,aM 31 5,aR 32 (.call 30 [.t 30,.t 31])]))) (aS [aR 34 (.bin .eql (.t 18) (aI 2)),aM 33 34] (.cond (.t 33) (aS [aM 35 4,aR 36 (.load true 26 (.t 1)),aR 37 (.call 31 [.t 35,.t 36])] (.reg false [aM 38 4,aF 39 11 1,aL 40 39,aR 41 (.call 30 [.t 38,.t 40])])) (aS [aR 43 (.bin .eql (.t 18) (aI 3)),aM 42 43] (.cond (.t 42) (aS [aM 44 4,aR 45 (.load true 26 (.t 1)),aR 46 (.call 31 [.t 44,.t 45])] (.reg false [aM 47 4,aF 48 13 1,aR 49 (.load true 13 (.t 48)),aR 50 (.call 32 [.t 47,.t 49])])) (aS [aR 52 (.bin .eql (.t 18) (aI 4)),aM 51 52] (.cond (.t 51) (aS [aM 53 4,aR 54 (.load true 26 (.t 1)),aR 55 (.call 31 [.t 53,.t 54])] (aS [aM 56 4,aF 57 12 1,aL 58 57,aR 59 (.call 28 [.t 56,.t 58])] (.reg false [aM 60 4,aF 61 13 1,aR 62 (.load true 13 (.t 61)),aR 63 (.call 32 [.t 60,.t 62])]))) (.skip))))))))))) (aS [aM 64 4,aR 65 (.nilck (.t 64)),aF 66 0 65,aL 67 66,aR 68 (.call 34 [.c (.str []),.t 67]),aR 69 (.call 33 [.t 68]),aM 7 69] (.seq (aS [aM 70 7,aR 71 (.len true (.t 70)),aR 72 (.bin .gtr (.t 71) (aI 1048576))] (.cond (.t 72) (aS [aR 2 (.mv (.c (.str []))),aR 3 (.mv (aI 3))] (.ret)) (.skip))) (aS [aM 73 7,aM 2 73,aR 3 (.mv (aI 0))] (.ret)))))))),[.t 2,.t 3]⟩
theorem h_jencode:AX.compFn Tryz.prog 10=some c_jencode:=by kernel_rfl
structure StepE (r:Jr):Prop where
 s0:-9223372036854775808≤r.step
 s1:r.step≤9223372036854775807
 o0:-9223372036854775808≤r.op
 o1:r.op≤9223372036854775807
theorem jr_loc (r:Jr):A.locL 0 [.agg r.cells]=true:=by
 obtain ⟨kd,⟨lin,ser,ins,ps,os⟩,st,op,ad,dp,ty,tk,er,⟨a1,a2,a3,a4,⟨k,nn,ss,is,ks⟩,v,tn,fi,ds⟩⟩:=r
 simp [A.locL,A.loc,Jr.cells,Sf.Inst.cells]
theorem a_jwstep (s:List UInt8) (r:Jr) (hr:StepE r) (hs:s.length+(Jr.stepE r).length+30≤1000000000) {h:Hp} {i:Nat} (hb:h.b[i]?=some (jwB s)) :
  ACall Tryz.prog GT 31 [.ptr i 0,.agg r.cells] h fun v h'=>v = .tup []∧h'=⟨h.b.set i (jwB (s++Jr.stepE r)),h.t⟩:=by
 refine liftJ (x:=.ptr 0 0) rfl rfl ?_ (jr_loc r) hb
 have e1:[r.step,r.op].flatMap Wire.num=Wire.num r.step++Wire.num r.op:=by simp
 have e2:[r.addr,r.dep,r.typ].flatMap Wire.strE=Wire.strE r.addr++Wire.strE r.dep++Wire.strE r.typ:=by simp
 have e3:s++Jr.stepE r=s++(Wire.num r.step++Wire.num r.op)++(Wire.strE r.addr++Wire.strE r.dep++Wire.strE r.typ):=by simp [Jr.stepE,List.append_assoc]
 have hlen:(Jr.stepE r).length=(Wire.num r.step++Wire.num r.op).length+(Wire.strE r.addr++Wire.strE r.dep++Wire.strE r.typ).length:=by simp only [Jr.stepE,List.length_append]; omega
 have c1:=fun B=>a_jeachi s [r.step,r.op] (by simp only [List.mem_cons,List.not_mem_nil,or_false,forall_eq_or_imp,forall_eq]; exact ⟨⟨hr.s0,hr.s1⟩,hr.o0,hr.o1⟩) (by rw [e1]; omega) (by simp) (h:=⟨[jwB s,B],[]⟩) (i:=0) rfl
 have c2:=fun B=>a_jeachs (s++(Wire.num r.step++Wire.num r.op)) [r.addr,r.dep,r.typ] (by rw [e2,List.length_append]; omega) (by simp) (h:=⟨[jwB (s++(Wire.num r.step++Wire.num r.op)),B],[]⟩) (i:=0) rfl
 rw [e1] at c1
 rw [e2] at c2
 rw [e3]
 obtain ⟨X,hX⟩:∃ X,s++(Wire.num r.step++Wire.num r.op)=X:=⟨_,rfl⟩
 rw [hX] at c1 c2 ⊢
 obtain ⟨Y,hY⟩:∃ Y,X++(Wire.strE r.addr++Wire.strE r.dep++Wire.strE r.typ)=Y:=⟨_,rfl⟩
 rw [hY] at c2 ⊢
 clear hr hs e1 e2 e3 hlen hX hY
 obtain ⟨kd,⟨lin,ser,ins,ps,os⟩,st,op,ad,dp,ty,tk,er,⟨a1,a2,a3,a4,⟨k,nn,ss,is,ks⟩,v,tn,fi,ds⟩⟩:=r
 simp only [Jr.cells,Sf.Inst.cells,List.cons_append,List.nil_append,List.map_cons,List.map_nil,List.set_cons_zero] at c1 c2 ⊢
 refine acall_of mixedT h_jwstep (by simp [c_jwstep]) ?_
 dsimp only [c_jwstep]
 refine run0 ti ?_
 refine use (c1 _) ?_
 refine run0 ti ?_
 refine use (c2 _) ?_
 refine run0 ti ?_
 exact ⟨_,le_refl _,rfl,rfl⟩
theorem a_jwinst (s:List UInt8) (x:Sf.Inst) (hx:Jr.InstE x) (hlen:s.length+(Sf.instE 2 x).length+50≤1000000000) (hvl:x.attrs.lens) {h:Hp} {i:Nat} (hb:h.b[i]?=some (jwB s)) :
  ACall Tryz.prog GT 32 [.ptr i 0,.agg (Sf.Inst.cells x)] h fun v h'=>v = .tup []∧h'=⟨h.b.set i (jwB (s++Sf.instE 2 x)),h.t⟩:=by
 refine liftJ (x:=.ptr 0 0) rfl rfl ?_ (by obtain ⟨a1,a2,a3,a4,⟨k,nn,ss,is,ks⟩,v,tn,fi,ds⟩:=x; simp [A.locL,A.loc,Sf.Inst.cells]) hb
 have hz:∃ lv b,(Val.chk x.attrs lv b).1=0:=⟨1,0,hx.v⟩
 have e1:[x.addr,x.dep,x.id,x.typ].flatMap Wire.strE=Wire.strE x.addr++Wire.strE x.dep++Wire.strE x.id++Wire.strE x.typ:=by simp
 have e2:[x.tainted,x.first].flatMap (fun b=>Wire.num (flagN b))=Sf.flagE x.tainted++Sf.flagE x.first:=by simp [Sf.flagE,flagN]
 have e3:s++Sf.instE 2 x=s++(Wire.strE x.addr++Wire.strE x.dep++Wire.strE x.id++Wire.strE x.typ)++Val.enc x.attrs++Wire.num x.ver++(Sf.flagE x.tainted++Sf.flagE x.first)++Wire.num x.deps.length++x.deps.flatMap Wire.strE:=by simp [Sf.instE,Sf.wordsE,List.append_assoc]
 have hL:(Sf.instE 2 x).length=(Wire.strE x.addr++Wire.strE x.dep++Wire.strE x.id++Wire.strE x.typ).length+(Val.enc x.attrs).length+(Wire.num x.ver).length+(Sf.flagE x.tainted++Sf.flagE x.first).length+(Wire.num x.deps.length).length+(x.deps.flatMap Wire.strE).length:=by simp only [Sf.instE,Sf.wordsE,List.length_append,if_true]; omega
 have hn:=hx.n
 obtain ⟨P1,hP1⟩:∃ P,Wire.strE x.addr++Wire.strE x.dep++Wire.strE x.id++Wire.strE x.typ=P:=⟨_,rfl⟩
 obtain ⟨P2,hP2⟩:∃ P,Sf.flagE x.tainted++Sf.flagE x.first=P:=⟨_,rfl⟩
 rw [hP1] at e1 e3 hL
 rw [hP2] at e2 e3 hL
 have c1:=fun B=>a_jeachs s [x.addr,x.dep,x.id,x.typ] (by rw [e1]; omega) (by simp) (h:=⟨[jwB s,B],[]⟩) (i:=0) rfl
 rw [e1] at c1
 obtain ⟨S1,hS1⟩:∃ S,s++P1=S:=⟨_,rfl⟩
 have l1:S1.length=s.length+P1.length:=by rw [←hS1,List.length_append]
 rw [hS1] at c1 e3
 have c2:=fun h=>a_AppendValue S1 (by omega) x.attrs hz (by omega) hvl h
 obtain ⟨S2,hS2⟩:∃ S,S1++Val.enc x.attrs=S:=⟨_,rfl⟩
 have l2:S2.length=S1.length+(Val.enc x.attrs).length:=by rw [←hS2,List.length_append]
 rw [hS2] at c2 e3
 have c3:=fun B=>a_jwnum S2 x.ver (by omega) hx.v0 hx.v1 (h:=⟨[jwB S2,B],[]⟩) (i:=0) rfl
 obtain ⟨S3,hS3⟩:∃ S,S2++Wire.num x.ver=S:=⟨_,rfl⟩
 have l3:S3.length=S2.length+(Wire.num x.ver).length:=by rw [←hS3,List.length_append]
 rw [hS3] at c3 e3
 have c4:=fun B=>a_jeachb S3 [x.tainted,x.first] (by rw [e2]; omega) (by simp) (h:=⟨[jwB S3,B],[]⟩) (i:=0) rfl
 rw [e2] at c4
 obtain ⟨S4,hS4⟩:∃ S,S3++P2=S:=⟨_,rfl⟩
 have l4:S4.length=S3.length+P2.length:=by rw [←hS4,List.length_append]
 rw [hS4] at c4 e3
 have c5:=fun B=>a_jwnum S4 x.deps.length (by omega) (by omega) (by omega) (h:=⟨[jwB S4,B],[]⟩) (i:=0) rfl
 obtain ⟨S5,hS5⟩:∃ S,S4++Wire.num x.deps.length=S:=⟨_,rfl⟩
 have l5:S5.length=S4.length+(Wire.num x.deps.length).length:=by rw [←hS5,List.length_append]
 rw [hS5] at c5 e3
 have c6:=fun B=>a_jeachs S5 x.deps (by omega) (by omega) (h:=⟨[jwB S5,B],[]⟩) (i:=0) rfl
 obtain ⟨S6,hS6⟩:∃ S,S5++x.deps.flatMap Wire.strE=S:=⟨_,rfl⟩
 rw [hS6] at c6 e3
 rw [e3]
 have li:=strsA_length x.deps
 clear hx hlen hvl hz hb e1 e2 e3 hL hn hP1 hP2 hS1 hS2 hS3 hS4 hS5 hS6 l1 l2 l3 l4 l5
 obtain ⟨a1,a2,a3,a4,⟨k,nn,ss,is,ks⟩,v,tn,fi,ds⟩:=x
 have hD:(ds.map fun x=>[A.str x])=strsA ds:=rfl
 dsimp only at c1 c2 c3 c4 c5 c6 li
 rw [hD] at c6
 simp only [Sf.Inst.cells,V.A,V.cells,List.map_cons,List.map_nil,List.set_cons_zero,jwB] at c1 c2 c3 c4 c5 c6 ⊢
 refine acall_of mixedT h_jwinst (by simp [c_jwinst]) ?_
 dsimp only [c_jwinst]
 refine run0 ti ?_
 refine use (c1 _) ?_
 refine runc0 ti (ai c2 ti) ?_
 refine use (c3 _) ?_
 refine run0 ti ?_
 refine use (c4 _) ?_
 refine run0 li ?_
 refine use (c5 _) ?_
 refine run0 ti ?_
 refine use (c6 _) ?_
 refine run0 ti ?_
 exact ⟨_,le_refl _,rfl,rfl⟩
structure JrLen (r:Jr):Prop where
 step:(Jr.stepE r).length≤100000000
 inst:(Sf.instE 2 r.after).length≤100000000
 tok:r.tok.length≤2000000
 lens:r.after.attrs.lens
theorem a_jencode (r:Jr) (hl:JrLen r) (hd:r.after.deps.length≤1000000000) (hck:SCheck r.base) (hok:Sf.checkZ r.base=0→Sf.StOk r.base∧(Sf.stE 2 r.base).length+20≤1000000000) (h:Hp) :
  ACall Tryz.prog GT 10 [.agg r.cells] h fun v h'=>v = .tup [.str (Jr.enc r).1,.int .i64 (Jr.enc r).2]∧h'=h:=by
 have cv:=a_jvalid r hl.lens hd
 have ce:=a_Encode r.base hck hok
 obtain ⟨l1,l2,l3,l4⟩:=hl
 have hfin:∀ b:List UInt8,b.length≤300000000→(∀ h,ACall Tryz.prog GT 34 [.str [],.str b] h fun v h'=>v = .str (Wire.strE b)∧h'=h)∧(∀ h,ACall Tryz.prog GT 33 [.str (Wire.strE b)] h fun v h'=>v = .str (Crc.app (Wire.strE b))∧h'=h):=by
  intro b hb
  have hn:(Wire.num b.length).length≤10:=(Wire.encF_len 9 (Wire.zig b.length)).2
  have hs:(Wire.strE b).length≤300000010:=by unfold Wire.strE; rw [List.length_append]; omega
  refine ⟨fun h=>?_,fun h=>a_csAppend _ (by omega) h⟩
  have:=a_appS [] b (by simp only [List.length_nil]; omega) h
  rw [List.nil_append] at this
  exact this
 have nl:∀ n:Int,(Wire.num n).length≤10:=fun n=>(Wire.encF_len 9 (Wire.zig n)).2
 have sl:∀ s:List UInt8,(Wire.strE s).length≤s.length+10:=fun s=>by unfold Wire.strE; rw [List.length_append]; have:=nl s.length; omega
 by_cases hv:r.validB=true
 rotate_left
 ·have hv':r.validB=false:=by simpa using hv
  have he:Jr.enc r=([],1):=by unfold Jr.enc; rw [if_pos hv']
  rw [hv'] at cv
  rw [he]
  obtain ⟨kd,⟨lin,ser,ins,ps,os⟩,st,op,ad,dp,ty,tk,er,⟨a1,a2,a3,a4,⟨k,nn,ss,is,ks⟩,v,tn,fi,ds⟩⟩:=r
  simp only [Jr.cells,Sf.Inst.cells,List.cons_append,List.nil_append] at cv ⊢
  refine pcall ?_ rfl (by simp [A.pure,A.data]) h
  refine acall_of mixedT h_jencode (by simp [c_jencode]) ?_
  dsimp only [c_jencode]
  refine runc0 ti (ai cv ti) ?_
  exact ⟨_,le_refl _,rfl⟩
 rw [hv] at cv
 have henc:¬(r.kind=1∧(Sf.encode 2 r.base).2≠0)→Jr.enc r=if 1048576 < (Crc.app (Wire.strE r.body)).length then ([],3) else (Crc.app (Wire.strE r.body),0):=fun hne=>by unfold Jr.enc; rw [if_neg (by rw [hv]; decide),if_neg hne]
 have hk:=hv
 unfold Jr.validB at hk
 have hbad:¬ Jr.badB r=true:=fun e=>by rw [if_pos e] at hk; cases hk
 rw [if_neg hbad] at hk
 have fitE:(Sf.encode 2 r.base).2=0→(Sf.encode 2 r.base).1.length≤1048576:=by
  intro e
  unfold Sf.encode at e ⊢
  split
  ·simp
  split
  ·simp
  ·next h2=>simp only [Crc.app,List.length_append,Crc.four_length]; omega
 have hse:r.stepB=true→StepE r:=fun hs=>by
  unfold Jr.stepB at hs
  simp only [Bool.and_eq_true,decide_eq_true_eq] at hs
  obtain ⟨⟨⟨⟨s0,s1⟩,o0⟩,o1⟩,_⟩:=hs
  exact ⟨by omega,by omega,by omega,by omega⟩
 have hae:Jr.afterB r=true→Jr.InstE r.after:=fun ha=>Jr.afterB_enc (op:=r.op) (by unfold Jr.afterB at ha; exact ha)
 have cs:=fun (hs:r.stepB=true) (s:List UInt8) (hl:s.length≤100) B=>a_jwstep s r (hse hs) (by omega) (h:=⟨[B,jwB s],[]⟩) (i:=1) rfl
 have ci:=fun (ha:Jr.afterB r=true) (s:List UInt8) (hl:s.length≤200000000) B=>a_jwinst s r.after (hae ha) (by omega) l4 (h:=⟨[B,jwB s],[]⟩) (i:=1) rfl
 have hbody:r.body=Wire.num r.kind++Jr.restE r (Sf.encode 2 r.base).1:=rfl
 unfold Jr.restE at hbody
 obtain ⟨B,hB⟩:∃ B,(Sf.encode 2 r.base).1=B:=⟨_,rfl⟩
 obtain ⟨E,hE⟩:∃ E,(Sf.encode 2 r.base).2=E:=⟨_,rfl⟩
 rw [hB,hE] at ce
 rw [hB] at hbody
 rw [hE] at henc
 rw [hB,hE] at fitE
 obtain ⟨S1,hS1⟩:∃ S,Jr.stepE r=S:=⟨_,rfl⟩
 rw [hS1] at cs hbody l1
 obtain ⟨I1,hI1⟩:∃ S,Sf.instE 2 r.after=S:=⟨_,rfl⟩
 rw [hI1] at ci hbody l2
 obtain ⟨X,hX⟩:∃ X,r.body=X:=⟨_,rfl⟩
 rw [hX] at henc hbody
 have henc1:r.kind=1∧E≠0→Jr.enc r=([],E):=fun h1=>by unfold Jr.enc; rw [if_neg (by rw [hv]; decide),hE,if_pos h1]
 obtain ⟨N,hN⟩:∃ N,Jr.enc r=N:=⟨_,rfl⟩
 rw [hN] at henc henc1 ⊢
 have n0:=fun (B:Blk) (k:Int) (h0:-9223372036854775808≤k) (h1:k≤9223372036854775807)=>a_jwnum [] k (by simp) h0 h1 (h:=⟨[B,jwB []],[]⟩) (i:=1) rfl
 have nE:=fun (B:Blk) (s:List UInt8) (hs:s.length≤200000000) (k:Int) (h0:-9223372036854775808≤k) (h1:k≤9223372036854775807)=>a_jwnum s k (by omega) h0 h1 (h:=⟨[B,jwB s],[]⟩) (i:=1) rfl
 have nT:=fun (B:Blk) (s t:List UInt8) (hs:s.length≤200000000) (ht:t.length≤2000000)=>a_jwtext s t (by omega) (h:=⟨[B,jwB s],[]⟩) (i:=1) rfl
 clear hv hbad hX hN hS1 hI1 hB hE hck hok hd hse hae
 obtain ⟨kd,⟨lin,ser,ins,ps,os⟩,st,op,ad,dp,ty,tk,er,⟨a1,a2,a3,a4,⟨k,nn,ss,is,ks⟩,v,tn,fi,ds⟩⟩:=r
 dsimp only at hk hbody henc henc1 l3
 simp only [Jr.cells,Sf.Inst.cells,List.cons_append,List.nil_append,Sf.St.A,jwB,List.set_cons_succ,List.set_cons_zero] at cv ce cs ci n0 nE nT ⊢
 refine pcall ?_ rfl (by simp [A.pure,A.data]) h
 refine acall_of mixedT h_jencode (by simp [c_jencode]) ?_
 dsimp only [c_jencode]
 obtain ⟨kl,hkl⟩:∃ n,(Wire.num kd).length=n:=⟨_,rfl⟩
 have hkl2:kl≤10:=hkl ▸ nl kd
 by_cases k1:kd=1
 ·subst k1
  rw [if_pos rfl] at hbody
  by_cases hE0:E=0
  rotate_left
  ·have e1:(E != 0)=true:=by simp [hE0]
   rw [henc1 ⟨rfl,hE0⟩]
   refine runc0 ti (ai cv ti) ?_
   refine use (n0 _ 1 (by decide) (by decide)) ?_
   refine runc0 e1 (ai ce ti) ?_
   exact ⟨_,le_refl _,rfl⟩
  subst hE0
  have hBl:=fitE rfl
  have he:=henc (fun h1=>h1.2 rfl)
  obtain ⟨ca,cc⟩:=hfin X (by rw [hbody,List.length_append]; have:=sl B; omega)
  have ct:=fun Bx=>nT Bx (Wire.num 1) B (by omega) (by omega)
  rw [←hbody] at ct
  obtain ⟨Z,hZ⟩:∃ Z,Crc.app (Wire.strE X)=Z:=⟨_,rfl⟩
  rw [hZ] at cc he
  refine runc0 ti (ai cv ti) ?_
  refine use (n0 _ 1 (by decide) (by decide)) ?_
  refine runc0 ti (ai ce ti) ?_
  refine use (ct _) ?_
  by_cases g:(Z.length:Int) > 1048576
  ·rw [he,if_pos (by omega)]
   refine runc0 g (ai ca (ai cc ti)) ?_
   exact ⟨_,le_refl _,rfl⟩
  ·rw [he,if_neg (by omega)]
   refine runc0 g (ai ca (ai cc ti)) ?_
   exact ⟨_,le_refl _,rfl⟩
 have he:=henc (fun h1=>k1 h1.1)
 rw [if_neg k1] at hbody
 have f1:(kd == 1)=false:=by simp [k1]
 by_cases k2:kd=2
 ·subst k2
  rw [if_pos rfl] at hbody
  rw [if_neg (by rintro (h | h) <;> contradiction),if_pos rfl,Bool.and_eq_true,Bool.and_eq_true,Bool.and_eq_true] at hk
  have hs:=hk.1.1.1
  obtain ⟨ca,cc⟩:=hfin X (by rw [hbody,List.length_append,List.length_append]; have:=sl tk; omega)
  have c1:=fun Bx=>cs hs (Wire.num 2) (by omega) Bx
  have c2:=fun Bx=>nT Bx (Wire.num 2++S1) tk (by rw [List.length_append]; omega) (by omega)
  rw [List.append_assoc,←hbody] at c2
  obtain ⟨Z,hZ⟩:∃ Z,Crc.app (Wire.strE X)=Z:=⟨_,rfl⟩
  rw [hZ] at cc he
  refine runc0 ti (ai cv ti) ?_
  refine use (n0 _ 2 (by decide) (by decide)) ?_
  refine runc0 ti (ai cv ti) ?_
  refine use (c1 _) ?_
  refine runc0 ti (ai cv ti) ?_
  refine use (c2 _) ?_
  by_cases g:(Z.length:Int) > 1048576
  ·rw [he,if_pos (by omega)]
   refine runc0 g (ai ca (ai cc ti)) ?_
   exact ⟨_,le_refl _,rfl⟩
  ·rw [he,if_neg (by omega)]
   refine runc0 g (ai ca (ai cc ti)) ?_
   exact ⟨_,le_refl _,rfl⟩
 rw [if_neg k2] at hbody
 have f2:(kd == 2)=false:=by simp [k2]
 by_cases k3:kd=3
 ·subst k3
  rw [if_pos rfl] at hbody
  rw [if_neg (by rintro (h | h) <;> contradiction),if_neg k2,if_pos rfl,Bool.and_eq_true] at hk
  obtain ⟨ca,cc⟩:=hfin X (by rw [hbody,List.length_append,List.length_append]; omega)
  have c1:=fun Bx=>cs hk.1 (Wire.num 3) (by omega) Bx
  have c2:=fun Bx=>ci hk.2 (Wire.num 3++S1) (by rw [List.length_append]; omega) Bx
  rw [List.append_assoc,←hbody] at c2
  obtain ⟨Z,hZ⟩:∃ Z,Crc.app (Wire.strE X)=Z:=⟨_,rfl⟩
  rw [hZ] at cc he
  refine runc0 ti (ai cv ti) ?_
  refine use (n0 _ 3 (by decide) (by decide)) ?_
  refine runc0 ti (ai cv ti) ?_
  refine use (c1 _) ?_
  refine runc0 ti (ai cv ti) ?_
  refine use (c2 _) ?_
  by_cases g:(Z.length:Int) > 1048576
  ·rw [he,if_pos (by omega)]
   refine runc0 g (ai ca (ai cc ti)) ?_
   exact ⟨_,le_refl _,rfl⟩
  ·rw [he,if_neg (by omega)]
   refine runc0 g (ai ca (ai cc ti)) ?_
   exact ⟨_,le_refl _,rfl⟩
 rw [if_neg k3] at hbody
 have f3:(kd == 3)=false:=by simp [k3]
 by_cases k4:kd=4
 ·subst k4
  rw [if_pos rfl] at hbody
  rw [if_neg (by rintro (h | h) <;> contradiction),if_neg k2,if_neg k3,if_pos rfl,Bool.and_eq_true,Bool.and_eq_true,Bool.and_eq_true,decide_eq_true_eq,decide_eq_true_eq] at hk
  have ne:=nl er
  obtain ⟨ca,cc⟩:=hfin X (by rw [hbody,List.length_append,List.length_append,List.length_append]; omega)
  have c1:=fun Bx=>cs hk.1.1.1 (Wire.num 4) (by omega) Bx
  have c2:=fun Bx=>nE Bx (Wire.num 4++S1) (by rw [List.length_append]; omega) er (by omega) (by omega)
  have c3:=fun Bx=>ci hk.1.1.2 (Wire.num 4++S1++Wire.num er) (by rw [List.length_append,List.length_append]; omega) Bx
  have hb2:Wire.num 4++S1++Wire.num er++I1=X:=by rw [hbody]; simp only [List.append_assoc]
  rw [hb2] at c3
  obtain ⟨Z,hZ⟩:∃ Z,Crc.app (Wire.strE X)=Z:=⟨_,rfl⟩
  rw [hZ] at cc he
  refine runc0 ti (ai cv ti) ?_
  refine use (n0 _ 4 (by decide) (by decide)) ?_
  refine runc0 ti (ai cv ti) ?_
  refine use (c1 _) ?_
  refine runc0 ti (ai cv ti) ?_
  refine use (c2 _) ?_
  refine runc0 ti (ai cv ti) ?_
  refine use (c3 _) ?_
  by_cases g:(Z.length:Int) > 1048576
  ·rw [he,if_pos (by omega)]
   refine runc0 g (ai ca (ai cc ti)) ?_
   exact ⟨_,le_refl _,rfl⟩
  ·rw [he,if_neg (by omega)]
   refine runc0 g (ai ca (ai cc ti)) ?_
   exact ⟨_,le_refl _,rfl⟩
 rw [if_neg k4,List.append_nil] at hbody
 have f4:(kd == 4)=false:=by simp [k4]
 have k5:kd=5:=by
  by_cases k5:kd=5
  ·exact k5
  ·rw [if_neg (by rintro (h | h) <;> contradiction),if_neg k2,if_neg k3,if_neg k4] at hk
   cases hk
 subst k5
 obtain ⟨ca,cc⟩:=hfin X (by rw [hbody]; omega)
 have n5:=fun Bx=>n0 Bx 5 (by decide) (by decide)
 rw [←hbody] at n5
 obtain ⟨Z,hZ⟩:∃ Z,Crc.app (Wire.strE X)=Z:=⟨_,rfl⟩
 rw [hZ] at cc he
 refine runc0 ti (ai cv ti) ?_
 refine use (n5 _) ?_
 by_cases g:(Z.length:Int) > 1048576
 ·rw [he,if_pos (by omega)]
  refine runc0 g (ai ca (ai cc ti)) ?_
  exact ⟨_,le_refl _,rfl⟩
 ·rw [he,if_neg (by omega)]
  refine runc0 g (ai ca (ai cc ti)) ?_
  exact ⟨_,le_refl _,rfl⟩
theorem t_rEqual:∀ (v v':V),v.lens→v'.lens→∀ h,ACall Tryz.prog GT 103 [v.A,v'.A] h fun r h'=>r = .bool (Val.eqB v v')∧h'=h:=by
 refine V.induct fun k n s is ks ih=>?_
 rintro ⟨k',n',s',is',ks'⟩ hlen hlen' h
 refine pcall ?_ rfl (by simp [V.A,V.cells,A.pure,A.data]) h
 refine fo ?_
 obtain ⟨hil,hkl,_,hmem⟩:=V.lens_mk hlen
 obtain ⟨hil',hkl',_,hmem'⟩:=V.lens_mk hlen'
 have hE:Val.eqB (.mk k n s is ks) (.mk k' n' s' is' ks')=(k == k'&&n == n'&&s == s'&&ks == ks'&&Val.eqBs is is'):=by rw [Val.eqB]
 have hno:∀ b,b=false→Val.eqB (.mk k n s is ks) (.mk k' n' s' is' ks')=b→True:=fun _ _ _=>trivial
 by_cases h1:k=k'
 rotate_left
 ·have e1:(k != k')=true:=by simp [h1]
  refine go0 (ai @V_A (ai @V_cells e1)) ?_
  exact ⟨_,le_refl _,by rw [tupA_1,hE,beq_eq_false_iff_ne.2 h1]; rfl⟩
 have e1:(k != k')=false:=by simp [h1]
 by_cases h2:n=n'
 rotate_left
 ·have e2:(n != n')=true:=by simp [h2]
  refine go0 (ai @V_A (ai @V_cells (ai e1 e2))) ?_
  exact ⟨_,le_refl _,by rw [tupA_1,hE,beq_eq_false_iff_ne.2 h2]; simp⟩
 have e2:(n != n')=false:=by simp [h2]
 by_cases h3:s=s'
 rotate_left
 ·have e3:(s != s')=true:=by simp [h3]
  refine go0 (ai @V_A (ai @V_cells (ai e1 (ai e2 e3)))) ?_
  exact ⟨_,le_refl _,by rw [tupA_1,hE,beq_eq_false_iff_ne.2 h3]; simp⟩
 have e3:(s != s')=false:=by simp [h3]
 by_cases h4:is.length=is'.length
 rotate_left
 ·have e4:((is.length:Int) != (is'.length:Int))=true:=by simp; omega
  have hb:Val.eqBs is is'=false:=by rw [Bool.eq_false_iff]; exact fun e=>h4 (eqBs_len e)
  refine go0 (ai @V_A (ai @V_cells (ai e1 (ai e2 (ai e3 (ai @V.cellss_length e4)))))) ?_
  exact ⟨_,le_refl _,by rw [tupA_1,hE,hb]; simp⟩
 have e4:((is.length:Int) != (is'.length:Int))=false:=by simp [h4]
 by_cases h5:ks.length=ks'.length
 rotate_left
 ·have e5:((ks.length:Int) != (ks'.length:Int))=true:=by simp; omega
  have hb:(ks == ks')=false:=by rw [beq_eq_false_iff_ne]; rintro rfl; exact h5 rfl
  refine go0 (ai @V_A (ai @V_cells (ai e1 (ai e2 (ai e3 (ai @V.cellss_length (ai e4 (ai @strsA_length e5)))))))) ?_
  exact ⟨_,le_refl _,by rw [tupA_1,hE,hb]; simp⟩
 have e5:((ks.length:Int) != (ks'.length:Int))=false:=by simp [h5]
 have hE2:Val.eqB (.mk k n s is ks) (.mk k' n' s' is' ks')=(ks == ks'&&Val.eqBs is is'):=by rw [hE]; simp [h1,h2,h3]
 refine go0 (ai @V_A (ai @V_cells (ai e1 (ai e2 (ai e3 (ai @V.cellss_length (ai e4 (ai @strsA_length e5)))))))) ?_
 refine awp_loop (fun m ts hh=>hh=⟨[.cells 34 [.int .i64 k,.int .i64 n,.str s,.sl 5 .no (V.cellss is),.sl 1 .no (strsA ks)],.cells 34 [.int .i64 k',.int .i64 n',.str s',.sl 5 .no (V.cellss is'),.sl 1 .no (strsA ks')]],[]⟩∧∃ (i:Nat),m=ks.length - i∧i≤ks.length∧(ks.drop i == ks'.drop i)=(ks == ks')∧ts 2 = .ptr 0 0∧ts 3 = .ptr 1 0∧ts 5 = .int .i64 i) ks.length ?_ ?_
 ·refine ⟨rfl,0,rfl,Nat.zero_le _,rfl,?_⟩
  (exact inv0 @strsA_length)
 ·rintro m ts hh ⟨rfl,i,rfl,hi,heq,t2,t3,t5⟩
  by_cases hlt:i < ks.length
  ·have hla:(i:Int) < ((strsA ks).length:Int):=by rw [strsA_length]; omega
   have hlb:(i:Int) < ((strsA ks').length:Int):=by rw [strsA_length]; omega
   have ei:IntKind.i64.wrap ((i:Int)+1)=(i:Int)+1:=wrap64 (by omega) (by omega)
   have ea:=strsA_get ks i hlt
   have eb:=strsA_get ks' i (by omega)
   rw [List.drop_eq_getElem_cons hlt,List.drop_eq_getElem_cons (by omega:i < ks'.length)] at heq
   refine go0 (ai t2 (ai t3 (ai t5 hla))) ?_
   refine awp_quiet (by decide) ?_
   by_cases hc:ks[i]=ks'[i]
   ·have hc':(ks[i] != ks'[i])=false:=by simp [hc]
    refine go0 (ai t2 (ai t3 (ai t5 (ai hla (ai hlb (ai ea (ai eb (ai hc' ei)))))))) ?_
    refine ⟨ks.length - (i+1),by omega,rfl,i+1,rfl,by omega,?_,?_⟩
    ·rw [←heq,List.cons_beq_cons,hc,beq_self_eq_true,Bool.true_and]
    ·(exact inv0 (ai t2 (ai t3 (ai t5 ei))))
   ·have hc':(ks[i] != ks'[i])=true:=by simp [hc]
    refine go0 (ai t2 (ai t3 (ai t5 (ai hla (ai hlb (ai ea (ai eb (ai hc' ei)))))))) ?_
    exact ⟨_,le_refl _,by rw [tupA_1,hE2,←heq,List.cons_beq_cons,beq_eq_false_iff_ne.2 hc]; simp⟩
  ·have hla:¬ (i:Int) < ((strsA ks).length:Int):=by rw [strsA_length]; omega
   rw [List.drop_of_length_le (by omega),List.drop_of_length_le (by omega)] at heq
   have hE3:Val.eqB (.mk k n s is ks) (.mk k' n' s' is' ks')=Val.eqBs is is':=by rw [hE2,←heq]; simp
   refine go0 (ai t2 (ai t3 (ai t5 hla))) ?_
   refine awp_loop (fun m ts hh=>hh=⟨[.cells 34 [.int .i64 k,.int .i64 n,.str s,.sl 5 .no (V.cellss is),.sl 1 .no (strsA ks)],.cells 34 [.int .i64 k',.int .i64 n',.str s',.sl 5 .no (V.cellss is'),.sl 1 .no (strsA ks')]],[]⟩∧∃ (i:Nat),m=is.length - i∧i≤is.length∧Val.eqBs (is.drop i) (is'.drop i)=Val.eqBs is is'∧ts 2 = .ptr 0 0∧ts 3 = .ptr 1 0∧ts 6 = .int .i64 i) is.length ?_ ?_
   ·refine ⟨rfl,0,rfl,Nat.zero_le _,rfl,?_⟩
    (exact inv0 (ai @strsA_length (ai t2 t3)))
   ·clear heq
    rintro m ts hh ⟨rfl,i,rfl,hi,heq,t2,t3,t6⟩
    by_cases hlt:i < is.length
    ·have hla:(i:Int) < ((V.cellss is).length:Int):=by rw [V.cellss_length]; omega
     have hlb:(i:Int) < ((V.cellss is').length:Int):=by rw [V.cellss_length]; omega
     have ei:IntKind.i64.wrap ((i:Int)+1)=(i:Int)+1:=wrap64 (by omega) (by omega)
     have ea:=V.cellss_get is i hlt
     have eb:=V.cellss_get is' i (by omega)
     have hcall:=fun (h:Hp)=>ih is[i] (List.getElem_mem hlt) (is'[i]'(by omega)) (hmem _ (List.getElem_mem hlt)) (hmem' _ (List.getElem_mem (by omega))) h
     rw [List.drop_eq_getElem_cons hlt,List.drop_eq_getElem_cons (by omega:i < is'.length),Val.eqBs] at heq
     obtain ⟨⟨k1,n1,s1,is1,ks1⟩,hv⟩:∃ x,is[i]=x:=⟨_,rfl⟩
     obtain ⟨⟨k2,n2,s2,is2,ks2⟩,hv2⟩:∃ x,is'[i]'(by omega)=x:=⟨_,rfl⟩
     rw [hv] at ea hcall heq
     rw [hv2] at eb hcall heq
     simp only [V.A,V.cells] at hcall
     refine go0 (ai @V_cells (ai t2 (ai t3 (ai t6 hla)))) ?_
     refine awp_quiet (by decide) ?_
     refine go0 (ai @V_cells (ai t2 (ai t3 (ai t6 (ai hla (ai hlb (ai ea eb))))))) ?_
     refine gq_call (by simp only [put_app,put_none,init_app,evX_t,evX_c,resA_nil,resA_t,resA_c,tupA_0,tupA_1,tupA_2,astep,bop,uop,loadA,storeA,appA,ssliceA,eqA,eqCells,fillA,rowsA,setCells,A.cells,A.one,A.data,optP_some,List.all_cons,List.all_nil,Bool.and_true,Bool.true_and,Option.map_some,Option.map_none,Option.bind_some,Option.bind_none,Option.getD_some,Option.getD_none,List.map_cons,List.map_nil,List.getD_cons_zero,List.getD_cons_succ,List.getElem?_cons_zero,List.getElem?_cons_succ,List.length_cons,List.length_nil,List.nil_append,List.cons_append,List.append_nil,List.set_cons_zero,List.set_cons_succ,List.drop_zero,List.drop_succ_cons,List.take_succ_cons,List.take_zero,List.take_nil,List.length_append,List.length_set,Nat.reduceAdd,Nat.reduceSub,Nat.reduceMul,Nat.reduceLeDiff,Nat.reduceEqDiff,Nat.reduceBEq,Int.toNat_natCast,Int.natCast_nonneg,if_true,if_false,reduceIte,ite_true,ite_false,true_and,and_true,ne_eq,not_true_eq_false,not_false_eq_true,Bool.false_eq_true,reduceCtorEq,and_self,Nat.zero_add,Nat.add_zero,Nat.le_refl,Bool.not_true,Bool.not_false,decide_true,decide_false,t2,t3,t6] <;> with_reducible rfl) (hcall _) ?_
     rcases bool_or (Val.eqB (.mk k1 n1 s1 is1 ks1) (.mk k2 n2 s2 is2 ks2)) with hz | hz
     ·rw [hz] at heq ⊢
      refine go0 (ai t2 (ai t3 (ai t6 ei))) ?_
      refine ⟨is.length - (i+1),by omega,rfl,i+1,rfl,by omega,by simpa using heq,?_⟩
      (exact inv0 (ai t2 (ai t3 (ai t6 ei))))
     ·rw [hz] at heq ⊢
      refine go0 (ai t2 (ai t3 (ai t6 ei))) ?_
      exact ⟨_,le_refl _,by rw [tupA_1,hE3,←heq]; rfl⟩
    ·have hla:¬ (i:Int) < ((V.cellss is).length:Int):=by rw [V.cellss_length]; omega
     rw [List.drop_of_length_le (by omega),List.drop_of_length_le (by omega)] at heq
     refine go0 (ai t2 (ai t3 (ai t6 hla))) ?_
     exact ⟨_,le_refl _,by rw [tupA_1,hE3,←heq]; rfl⟩
end AX
namespace Jr
def noneR (x:Sf.Inst):Bool:=x.addr == []&&x.dep == []&&x.id == []&&x.typ == []&&Val.eqB x.attrs (.mk 0 0 [] [] [])&&x.ver == 0&&!x.tainted&&!x.first&&(x.deps.length:Int) == 0
def emptyR (s:Sf.St):Bool:=s.lin == []&&s.ser == 0&&((s.insts.length:Int)+s.pends.length+s.outs.length) == 0
def stepR (r:Jr):Bool:=emptyR r.base&&decide (r.step≥0)&&decide (r.step < 2048)&&decide (r.op≥1)&&decide (r.op≤4)&&shortB [r.addr,r.dep,r.typ,r.tok]
def validR (r:Jr):Bool:=
 if r.kind=1 then r.step == 0&&r.op == 0&&r.addr == []&&r.dep == []&&r.typ == []&&r.tok == []&&r.err == 0&&noneR r.after
 else if r.kind=5 then r.step == 0&&r.op == 0&&r.addr == []&&r.dep == []&&r.typ == []&&r.tok == []&&r.err == 0&&noneR r.after&&emptyR r.base
 else if r.kind=2 then stepR r&&r.err == 0&&noneR r.after&&(r.op == 1||r.tok == [])
 else if r.kind=3 then stepR r&&r.err == 0&&r.tok == []&&instB r.after&&(r.op == 1||r.op == 2||noneR r.after)
 else if r.kind=4 then stepR r&&decide (r.err > 0)&&decide (r.err≤42)&&r.tok == []&&instB r.after&&(r.op == 1||r.op == 2||noneR r.after)
 else false
theorem noneR_eq (x:Sf.Inst):noneR x=noneB x:=by
 obtain ⟨a,d,i,t,⟨k,n,s,is,ks⟩,v,tn,fi,ds⟩:=x
 unfold noneR noneB zeroV
 simp only [Val.eqB]
 have h1:(ks == [])=((ks.length:Int) == 0):=by cases ks <;> simp <;> omega
 have h2:Val.eqBs is []=((is.length:Int) == 0):=by
  cases is with
  | nil=>simp [Val.eqBs]
  | cons v l =>
   simp only [Val.eqBs,List.length_cons]
   symm
   simp
   omega
 rw [h1,h2]
 cases (k == 0) <;> cases (n == 0) <;> cases (s == []) <;> cases ((is.length:Int) == 0) <;> cases ((ks.length:Int) == 0) <;> simp
theorem emptyR_eq (s:Sf.St):emptyR s=emptyB s:=by
 unfold emptyR emptyB
 have h:(((s.insts.length:Int)+s.pends.length+s.outs.length) == 0)=(((s.insts.length:Int) == 0)&&((s.pends.length:Int) == 0)&&((s.outs.length:Int) == 0)):=by
  rw [Bool.eq_iff_iff]
  simp only [beq_iff_eq,Bool.and_eq_true]
  omega
 rw [h]
 simp only [Bool.and_assoc]
theorem none_inst {x:Sf.Inst} (h:noneB x=true):instB x=true:=by
 obtain ⟨a,d,i,t,⟨k,n,s,is,ks⟩,v,tn,fi,ds⟩:=x
 unfold noneB zeroV at h
 simp only [Bool.and_eq_true,beq_iff_eq] at h
 obtain ⟨⟨⟨⟨⟨⟨⟨⟨⟨⟨⟨⟨hk,hn⟩,hs⟩,hi⟩,hks⟩,ha⟩,hd⟩,hid⟩,ht⟩,hv⟩,_⟩,_⟩,hde⟩:=h
 have e1:is=[]:=List.eq_nil_of_length_eq_zero (by omega)
 have e2:ks=[]:=List.eq_nil_of_length_eq_zero (by omega)
 have e3:ds=[]:=List.eq_nil_of_length_eq_zero (by omega)
 subst hk hn hs ha hd hid ht hv e1 e2 e3
 cases tn <;> cases fi <;> decide +kernel
theorem validR_eq (r:Jr):validR r=validB r:=by
 unfold validR validB stepR stepB afterB bareB makesB
 rw [noneR_eq,emptyR_eq]
 have hs4:shortB [r.addr,r.dep,r.typ,r.tok]=(shortB [r.addr,r.dep,r.typ]&&shortB [r.tok]):=by
  simp only [shortB,List.all_cons,List.all_nil,Bool.and_true,Bool.and_assoc]
 have ht:(r.tok == [])=true→shortB [r.tok]=true:=fun h=>by
  rw [beq_iff_eq] at h; rw [h]; rfl
 have hni:=@none_inst r.after
 have he:decide (r.err > 0)=decide (r.err≥1):=by rw [decide_eq_decide]; omega
 rw [hs4,he]
 have hb:badB r=(!(r.kind == 1)&&!emptyB r.base||!(r.kind == 2)&&!(r.tok == [])||!(r.kind == 4)&&!(r.err == 0)):=rfl
 generalize badB r=B at *
 clear hs4 he
 obtain ⟨kd,base,st,op,ad,dp,ty,tk,er,af⟩:=r
 dsimp only at *
 generalize shortB [tk]=T at *
 generalize shortB [ad,dp,ty]=S at *
 generalize noneB af=N at *
 generalize instB af=I at *
 generalize emptyB base=E at *
 generalize (tk == [])=K at *
 generalize (er == 0)=R at *
 generalize decide (er≥1)=R1 at *
 generalize decide (er≤42)=R2 at *
 generalize (st == 0)=P0 at *
 generalize (op == 0)=P1 at *
 generalize (op == 1)=O1 at *
 generalize (op == 2)=O2 at *
 generalize decide (st≥0)=P2 at *
 generalize decide (st < 2048)=P3 at *
 generalize decide (op≥1)=P4 at *
 generalize decide (op≤4)=P5 at *
 generalize (ad == [])=Q1 at *
 generalize (dp == [])=Q2 at *
 generalize (ty == [])=Q3 at *
 by_cases k1:kd=1
 ·subst k1
  simp at hb
  subst hb
  clear hni ht
  cases K <;> cases R <;> simp
 by_cases k5:kd=5
 ·subst k5
  simp at hb
  subst hb
  clear hni ht
  cases E <;> cases K <;> cases R <;> simp
 by_cases k2:kd=2
 ·subst k2
  simp at hb
  subst hb
  clear hni
  cases K
  ·clear ht; cases E <;> cases R <;> cases T <;> cases S <;> cases N <;> simp
  ·have:=ht rfl; subst this; cases E <;> cases R <;> cases S <;> cases N <;> simp
 have hT:K=true→T=true:=ht
 by_cases k3:kd=3
 ·subst k3
  simp at hb
  subst hb
  cases K
  ·clear ht; simp
  ·have:=ht rfl; subst this; clear ht hT; cases E <;> cases R <;> cases S <;> simp <;> (cases N <;> cases I <;> cases O1 <;> cases O2 <;> simp at hni ⊢)
 by_cases k4:kd=4
 ·subst k4
  simp at hb
  subst hb
  cases K
  ·clear ht; simp
  ·have:=ht rfl; subst this; clear ht hT; cases E <;> cases R1 <;> cases R2 <;> cases S <;> simp <;> (cases N <;> cases I <;> cases O1 <;> cases O2 <;> simp at hni ⊢)
 simp [k1,k2,k3,k4,k5]
end Jr
namespace AX
section
variable {P:Program} {G:World→Prop} {C:Ctx} {h:Hp}
end
end AX
theorem clone_strs0 (a:Option Addr) (c:Nat) (w:World) :
  Calls Tryz.prog 135 #[.slice a 0 c] w fun e w'=>(∃ a' c',e = .returned (.slice a' 0 c'))∧Below w.heap.size w w':=by
 have q22:∀ (w:World) (a:Option Addr) (n c n' c':Nat),(binOp .eql 32 (.slice a n c) (.slice none n' c')).run Tryz.prog w = .ok (.bool a.isNone) w:=fun w a n c n' c'=>Lib.run_eql_slice_nil w _ _ a n c n' c' Tryz.underlying32
 have u22:∀ w,Sem.run Tryz.prog (underlying 32) w = .ok (TypeDesc.slice 9) w:=run_underlying Tryz.underlying32
 cases a with
 | none =>
  go_enter Tryz.func135,Tryz.ntmps135
  go_wp2
  go_ret
  exact ⟨⟨_,_,rfl⟩,Below.refl _ _⟩
 | some ad =>
  obtain ⟨i0,hi,hz0,hz1,hz2⟩:=info_parts (show (Tryz.prog.info? 9).map (fun i=>(i.zero,i.size,i.bytes))=some (some (.string ⟨#[]⟩),1,16) by kernel_rfl)
  go_enter Tryz.func135,Tryz.ntmps135
  go_wp2_with (at_builtin; refine wpList_append_own _ rfl _ _ 32 rfl w.heap.size 9 i0 (.string ⟨#[]⟩) 1 16 Tryz.underlying32 hi hz0 hz1 hz2 rfl (by decide) _ _ _ rfl (World.ownsRow_made w #[] 0 (Nat.le_refl _) (Nat.zero_le _) rfl) ad 0 c [] rfl rfl (by intro j u hj; simp at hj) (by intro u hu; cases hu) (by unfold maxLen; omega) (by omega) (by simp) ?_)
  intro v' w1 hown hgrow hnil
  have Hb:=kept (((Below.refl _ w).alloc (Nat.le_refl _) (.cells #[] 9)).grown hgrow (by simp) (by intro k hk; simp [Value.ownBlock] at hk; omega))
  have Hv:∃ a' c',v' = .slice a' 0 c':=by
   rcases hown.2 with ⟨rfl,_⟩ | ⟨g,cap,cur,rfl,_⟩
   ·exact ⟨_,_,rfl⟩
   ·exact ⟨_,_,rfl⟩
  obtain ⟨a',c',rfl⟩:=Hv
  clear hown hgrow hnil
  go_wp2
  go_ret
  exact ⟨⟨_,_,rfl⟩,Hb.out⟩
namespace AX
theorem a_clone_strs0 (W0:Nat) (o:Own) (h:Hp):ACall Tryz.prog GT 135 [.sl W0 o []] h fun v h'=>v = .sl 1 .no []∧h'=h:=by
 intro C es hI ha
 obtain ⟨c,es',rfl,h1,h2⟩:=repL_cons.1 ha
 rw [repL_nil] at h2; subst h2
 obtain ⟨a,cap,rfl,_,_,_⟩:=rep_sl.1 h1
 refine (clone_strs0 a cap C.w).mono ?_
 rintro e w' ⟨⟨a',c',rfl⟩,hb⟩
 obtain ⟨i1,s1⟩:=inv_below hI hb
 exact ⟨C.at w',h,.sl 1 .no [],_,rfl,rfl,i1,s1,rep_sl.2 ⟨a',c',rfl,Nat.zero_le _,by unfold RepRows; trivial,trivial⟩,rfl,rfl⟩
end AX
theorem clone_pend0 (a:Option Addr) (c:Nat) (w:World) :
  Calls Tryz.prog 96 #[.slice a 0 c] w fun e w'=>(∃ a' c',e = .returned (.slice a' 0 c'))∧Below w.heap.size w w':=by
 have q22:∀ (w:World) (a:Option Addr) (n c n' c':Nat),(binOp .eql 24 (.slice a n c) (.slice none n' c')).run Tryz.prog w = .ok (.bool a.isNone) w:=fun w a n c n' c'=>Lib.run_eql_slice_nil w _ _ a n c n' c' Tryz.underlying24
 have u22:∀ w,Sem.run Tryz.prog (underlying 24) w = .ok (TypeDesc.slice 140) w:=run_underlying Tryz.underlying24
 cases a with
 | none =>
  go_enter Tryz.func96,Tryz.ntmps96
  go_wp2
  go_ret
  exact ⟨⟨_,_,rfl⟩,Below.refl _ _⟩
 | some ad =>
  obtain ⟨i0,hi,hz0,hz1,hz2⟩:=info_parts (show (Tryz.prog.info? 140).map (fun i=>(i.zero,i.size,i.bytes))=some (some (.agg #[.string ⟨#[]⟩,.string ⟨#[]⟩,.string ⟨#[]⟩]),3,48) by kernel_rfl)
  go_enter Tryz.func96,Tryz.ntmps96
  go_wp2_with (at_builtin; refine wpList_append_own _ rfl _ _ 24 rfl w.heap.size 140 i0 (.agg #[.string ⟨#[]⟩,.string ⟨#[]⟩,.string ⟨#[]⟩]) 3 48 Tryz.underlying24 hi hz0 hz1 hz2 rfl (by decide) _ _ _ rfl (World.ownsRow_made w #[] 0 (Nat.le_refl _) (Nat.zero_le _) rfl) ad 0 c [] rfl rfl (by intro j u hj; simp at hj) (by intro u hu; cases hu) (by unfold maxLen; omega) (by omega) (by simp) ?_)
  intro v' w1 hown hgrow hnil
  have Hb:=kept (((Below.refl _ w).alloc (Nat.le_refl _) (.cells #[] 140)).grown hgrow (by simp) (by intro k hk; simp [Value.ownBlock] at hk; omega))
  have Hv:∃ a' c',v' = .slice a' 0 c':=by
   rcases hown.2 with ⟨rfl,_⟩ | ⟨g,cap,cur,rfl,_⟩
   ·exact ⟨_,_,rfl⟩
   ·exact ⟨_,_,rfl⟩
  obtain ⟨a',c',rfl⟩:=Hv
  clear hown hgrow hnil
  go_wp2
  go_ret
  exact ⟨⟨_,_,rfl⟩,Hb.out⟩
namespace AX
theorem a_clone_pend0 (W0:Nat) (o:Own) (h:Hp):ACall Tryz.prog GT 96 [.sl W0 o []] h fun v h'=>v = .sl 3 .no []∧h'=h:=by
 intro C es hI ha
 obtain ⟨c,es',rfl,h1,h2⟩:=repL_cons.1 ha
 rw [repL_nil] at h2; subst h2
 obtain ⟨a,cap,rfl,_,_,_⟩:=rep_sl.1 h1
 refine (clone_pend0 a cap C.w).mono ?_
 rintro e w' ⟨⟨a',c',rfl⟩,hb⟩
 obtain ⟨i1,s1⟩:=inv_below hI hb
 exact ⟨C.at w',h,.sl 3 .no [],_,rfl,rfl,i1,s1,rep_sl.2 ⟨a',c',rfl,Nat.zero_le _,by unfold RepRows; trivial,trivial⟩,rfl,rfl⟩
end AX
namespace AX
end AX
end Go.Proofs.YtahmpiioegemaaaGreatDoor

namespace Go.Proofs.YtahmpiioegemaaaGreatDoor
open Go.RowKit Go.ChangeShapes Go.WideShapes Go.Deep
mutual
def D.bulk:D→Nat
 | .int ..=>1
 | .str l=>l.length+1
 | .bool _=>1
 | .agg l=>D.bulks l+1
 | .sl _ l=>D.bulks l+1
def D.bulks:List D→Nat
 | []=>0
 | d::l=>d.bulk+D.bulks l
end
theorem bulks_le {H:Type}:∀ (l:List D) (xs:List (DataW H)),l.length=xs.length→(∀ i (hi:i < l.length) (hj:i < xs.length),l[i].bulk≤Rows.uptoBulk xs[i])→D.bulks l≤Rows.uptoBulkAll xs
 | [],[],_,_=>by rw [D.bulks]; exact Nat.zero_le _
 | [],_::_,h,_=>by simp at h
 | _::_,[],h,_=>by simp at h
 | d::l,x::xs,h,hb=>by
  rw [D.bulks,Rows.uptoBulkAll]
  exact Nat.add_le_add (hb 0 (by simp) (by simp)) (bulks_le l xs (by simpa using h) fun i hi hj=>hb (i+1) (Nat.succ_lt_succ hi) (Nat.succ_lt_succ hj))
section
variable {H:Type} {enc:TypeId×Value→H} {P:Program} {w:World} {base:Nat} {spare:Nat→Bool} {held:Bool} {K:List TypeId}
theorem trod_fieldsB {n:Nat} (ih:∀ t,t∈K→∀ cs x,DataW.trod enc P w base spare held n t cs=some x→∃ d,Rd w (Old w) d cs∧Conf P d t∧d.bulk≤Rows.uptoBulk x.1) (cs:List Value) :
  ∀ (fs:List Field) (o tot:Nat) (ys:List (DataW H×List MemPlace)),(∀ f∈fs,f.type∈K)→flat P fs o=some tot→cs.length=tot→ys.length=fs.length →
   (∀ (i:Nat) (f:Field),fs[i]?=some f→DataW.trod enc P w base spare held n f.type ((cs.drop f.offset).take (P.cellsOf f.type))=ys[i]?) →
   ∃ l,RdAgg w (Old w) l (cs.drop o)∧ConfL P l (fs.map (·.type))∧D.bulks l≤Rows.uptoBulkAll (ys.map (·.1))
 | [],o,tot,ys,hK,hf,hc,hy,hg=>by
  simp only [flat,Option.some.injEq] at hf
  exact ⟨[],by unfold RdAgg; exact List.drop_of_length_le (by omega),by unfold ConfL; rfl,by unfold D.bulks; exact Nat.zero_le _⟩
 | f::fs,o,tot,ys,hK,hf,hc,hy,hg=>by
  simp only [flat] at hf
  split at hf
  ·next hfo =>
   match ys,hy with
   | y::ys,hy =>
    have h0:=hg 0 f rfl
    obtain ⟨d,hd,hcf,hdb⟩:=ih f.type (hK f (by simp)) _ _ h0
    obtain ⟨l,hl,hcl2,hlb⟩:=trod_fieldsB ih cs fs (o+P.cellsOf f.type) tot ys (fun g hg=>hK g (by simp [hg])) hf hc (by simpa using hy) (fun i g hi=>by simpa using hg (i+1) g (by simpa using hi))
    refine ⟨d::l,?_,?_,?_⟩
    ·unfold RdAgg
     refine ⟨_,cs.drop (o+P.cellsOf f.type),?_,by rw [hfo] at hd; exact hd,hl⟩
     rw [←List.drop_drop,List.take_append_drop]
    ·unfold ConfL
     exact ⟨f.type,fs.map (·.type),rfl,hcf,hcl2⟩
    ·rw [List.map_cons,Rows.uptoBulkAll,D.bulks]
     exact Nat.add_le_add hdb hlb
  ·cases hf
theorem trod_rdB (hP:plainAll P K=true):∀ (n:Nat) (t:TypeId),t∈K→∀ cs x,DataW.trod enc P w base spare held n t cs=some x→∃ d,Rd w (Old w) d cs∧Conf P d t∧d.bulk≤Rows.uptoBulk x.1
 | 0,t,hK,cs,x,h=>by simp [DataW.trod] at h
 | n+1,t,hK,cs,x,h=>by
  have hk:plainB P K t=true:=by
   unfold plainAll at hP
   rw [List.all_eq_true] at hP
   exact hP t hK
  unfold plainB at hk
  split at hk
  ·next k hu =>
   obtain ⟨m,rfl,rfl,hw⟩:=DataW.trod_int hu h
   exact ⟨.int k m,by unfold Rd; rfl,by unfold Conf; exact ⟨hu,hw⟩,by unfold D.bulk Rows.uptoBulk; exact Nat.le_refl _⟩
  ·next hu =>
   obtain ⟨s,rfl,rfl,hs⟩:=DataW.trod_string hu h
   exact ⟨.str s.data.toList,by unfold Rd; simp,by unfold Conf; exact ⟨hu,by simpa using hs⟩,by unfold D.bulk Rows.uptoBulk; exact Nat.le_refl _⟩
  ·next hu =>
   obtain ⟨b,rfl,rfl⟩:=DataW.trod_bool hu h
   exact ⟨.bool b,by unfold Rd; rfl,by unfold Conf; exact hu,by unfold D.bulk Rows.uptoBulk; exact Nat.le_refl _⟩
  ·next fs hu =>
   rw [Bool.and_eq_true,List.all_eq_true,beq_iff_eq] at hk
   obtain ⟨xs,n',hn,rfl,hcl,hxl,hg⟩:=DataW.trod_struct hu h
   obtain rfl:n'=n:=by omega
   obtain ⟨l,hl,hcf,hlb⟩:=trod_fieldsB (fun t hK cs x h=>trod_rdB hP n' t hK cs x h) cs fs.toList 0 _ xs (fun f hf=>by simpa using hk.1 f hf) hk.2 hcl (by simpa using hxl) (fun i f hi=>hg i f (by simpa using hi))
   exact ⟨.agg l,by unfold Rd; exact hl,by unfold Conf; exact ⟨fs,hu,hcf⟩,by rw [D.bulk,Rows.uptoBulk]; exact Nat.succ_le_succ hlb⟩
  ·next e hu =>
   rw [Bool.and_eq_true,decide_eq_true_eq] at hk
   have heK:e∈K:=by simpa using hk.1
   have hpos:=hk.2
   rcases DataW.trod_slice hu h with ⟨rfl,rfl⟩ | ⟨a,len,cap,elems,rest,n',hn,rfl,rfl,hb,hlc,hcm,hel,hi,_⟩
   ·exact ⟨.sl (P.cellsOf e) [],by unfold Rd; exact ⟨none,0,rfl,Nat.le_refl _,by unfold RdRow; trivial⟩,by unfold Conf; exact ⟨e,hu,rfl,by unfold ConfA; trivial,by simp⟩,by simp [D.bulk,D.bulks,Rows.uptoBulk]⟩
   ·obtain rfl:n'=n:=by omega
    have hex:∀ i,i < len→∃ d:D,∃ c,c.length=P.cellsOf e∧(∀ j,j < P.cellsOf e→w.cell? ((a.add (i*P.cellsOf e)).add j)=c[j]?)∧Rd w (Old w) d c∧Conf P d e∧∀ y,elems[i]?=some y→d.bulk≤Rows.uptoBulk y.1:=by
     intro i hil
     have h1:=hi i hil
     have h2:elems[i]?=some (elems[i]'(by omega)):=List.getElem?_eq_getElem (by omega)
     rw [h2] at h1
     obtain ⟨c,hc,ht⟩:=Option.bind_eq_some_iff.1 h1
     obtain ⟨d,hd,hcf,hdb⟩:=trod_rdB hP n' e heK c _ ht
     obtain ⟨_,hcl,hat⟩:=World.cells?_some hc
     exact ⟨d,c,hcl,hat,hd,hcf,fun y hy=>by rw [h2] at hy; injection hy with hy; subst hy; exact hdb⟩
    haveI:Inhabited D:=⟨.bool true⟩
    obtain ⟨f,hf⟩:=choose_lt hex
    refine ⟨.sl (P.cellsOf e) ((List.range len).map f),?_,?_,?_⟩
    ·unfold Rd
     refine ⟨some a,cap,by simp,by simpa using hlc,RdRow.of _ _ _ fun k hk=>?_⟩
     have hkl:k < len:=by simpa using hk
     obtain ⟨c,hcl,hat,hrd,_⟩:=hf k hkl
     obtain ⟨c0,hcl0,hat0,_,_⟩:=hf 0 (by omega)
     obtain ⟨g,off,sp⟩:=a
     have h0:=hat0 0 hpos
     rw [List.getElem?_eq_getElem (by omega)] at h0
     have hs:sp=none:=by
      have:=(cell_there h0).1
      simpa [Addr.add] using this
     subst hs
     have h1:=hat 0 hpos
     rw [List.getElem?_eq_getElem (by omega)] at h1
     have hlt:=(cell_there h1).2
     rw [add_off,add_off] at hlt
     refine ⟨g,off,c,rfl,hlt,hcl,fun j hj=>?_,by simpa using hrd⟩
     have:=hat j hj
     rw [add_off,add_off] at this
     rw [Nat.zero_add]
     exact this
    ·unfold Conf
     exact ⟨e,hu,rfl,confA_of P e _ fun k hk=>by simpa using (hf k (by simpa using hk)).choose_spec.2.2.2.1,by simp; omega⟩
    ·rw [D.bulk,Rows.uptoBulk]
     have:=bulks_le ((List.range len).map f) (elems.map (·.1)) (by simp; omega) (fun i hi hj=>by
      obtain ⟨c,_,_,_,_,h9⟩:=hf i (by simpa using hi)
      simpa using h9 (elems[i]'(by simpa using hj)) (List.getElem?_eq_getElem _))
     omega
  ·cases hk
end
end Go.Proofs.YtahmpiioegemaaaGreatDoor

namespace Go.Proofs.YtahmpiioegemaaaGreatDoor
open Go.RowKit Go.ChangeShapes Go.WideShapes
theorem list_of_ {α:Type} {f:α→D} {Q:α→Prop}:∀ l:List D,(∀ d∈l,∃ x,d=f x∧Q x)→∃ xs:List α,l=xs.map f∧∀ x∈xs,Q x
 | [],h=>⟨[],rfl,by simp⟩
 | d::l,h=>by
  obtain ⟨x,rfl,hx⟩:=h d (by simp)
  obtain ⟨xs,rfl,hxs⟩:=list_of_ l fun d hd=>h d (by simp [hd])
  exact ⟨x::xs,rfl,List.forall_mem_cons.2 ⟨hx,hxs⟩⟩
namespace Sf
def Inst.toD (x:Inst):D:=.agg [.str x.addr,.str x.dep,.str x.id,.str x.typ,x.attrs.toD,.int .i64 x.ver,.bool x.tainted,.bool x.first,.sl 1 (x.deps.map .str)]
def Pend.toD (p:Pend):D:=.agg [.str p.addr,.str p.typ,.str p.tok]
def Outp.toD (o:Outp):D:=.agg [.str o.name,o.value.toD,.bool o.sens]
def St.toD (s:St):D:=.agg [.str s.lin,.int .i64 s.ser,.sl 13 (s.insts.map Inst.toD),.sl 3 (s.pends.map Pend.toD),.sl 7 (s.outs.map Outp.toD)]
structure St.Wf (s:St):Prop where
 insts:∀ x∈s.insts,x.attrs.Wf
 outs:∀ x∈s.outs,x.value.Wf
 ser:(Lit.int .i64 s.ser).wf=true
theorem Inst.cells_toD (x:Inst):x.toD.cells=x.cells:=by
 obtain ⟨a,d,i,t,⟨k,n,s,is,ks⟩,v,tn,fi,ds⟩:=x
 unfold Inst.toD Inst.cells
 simp only [D.cells,D.cellsL,V.cells_toD,V.cells,strs_rows,List.cons_append,List.nil_append,List.append_nil]
theorem Pend.cells_toD (x:Pend):x.toD.cells=x.cells:=by
 unfold Pend.toD Pend.cells
 simp only [D.cells,D.cellsL,List.cons_append,List.nil_append,List.append_nil]
theorem Outp.cells_toD (x:Outp):x.toD.cells=x.cells:=by
 obtain ⟨m,⟨k,n,s,is,ks⟩,b⟩:=x
 unfold Outp.toD Outp.cells
 simp only [D.cells,D.cellsL,V.cells_toD,V.cells,strs_rows,List.cons_append,List.nil_append,List.append_nil]
theorem rows_map {α:Type} (f:α→D) (g:α→List AX.A) (h:∀ x,(f x).cells=g x):∀ l:List α,D.rows (l.map f)=l.map g
 | []=>by simp [D.rows]
 | x::l=>by simp only [List.map_cons,D.rows,h,rows_map f g h l]
theorem St.cells_toD (s:St):AX.A.agg s.toD.cells=s.A:=by
 unfold St.toD St.A
 simp only [D.cells,D.cellsL,rows_map _ _ Inst.cells_toD,rows_map _ _ Pend.cells_toD,rows_map _ _ Outp.cells_toD,List.cons_append,List.nil_append,List.append_nil]
set_option maxRecDepth 100000 in
theorem conf_inst {d:D} (h:Conf Tryz.prog d 36):∃ x:Inst,d=x.toD∧x.attrs.Wf:=by
 obtain ⟨l',rfl,h2⟩:=conf_struct Tryz.underlying36 h
 obtain ⟨d0,l1,rfl,c0,h2⟩:=confL_cons h2
 obtain ⟨d1,l2,rfl,c1,h2⟩:=confL_cons h2
 obtain ⟨d2,l3,rfl,c2,h2⟩:=confL_cons h2
 obtain ⟨d3,l4,rfl,c3,h2⟩:=confL_cons h2
 obtain ⟨d4,l5,rfl,c4,h2⟩:=confL_cons h2
 obtain ⟨d5,l6,rfl,c5,h2⟩:=confL_cons h2
 obtain ⟨d6,l7,rfl,c6,h2⟩:=confL_cons h2
 obtain ⟨d7,l8,rfl,c7,h2⟩:=confL_cons h2
 obtain ⟨d8,l9,rfl,c8,h2⟩:=confL_cons h2
 obtain rfl:=confL_nil h2
 obtain ⟨a,rfl,_⟩:=conf_str Tryz.underlying9 c0
 obtain ⟨b,rfl,_⟩:=conf_str Tryz.underlying9 c1
 obtain ⟨c,rfl,_⟩:=conf_str Tryz.underlying9 c2
 obtain ⟨e,rfl,_⟩:=conf_str Tryz.underlying9 c3
 obtain ⟨v,rfl,hv⟩:=conf_val c4
 obtain ⟨n,rfl,_⟩:=conf_int (k:=.i64) Tryz.underlying3 c5
 obtain ⟨t,rfl⟩:=conf_bool Tryz.underlying4 c6
 obtain ⟨f,rfl⟩:=conf_bool Tryz.underlying4 c7
 obtain ⟨l4,rfl,c9,_⟩:=conf_slice Tryz.underlying32 c8
 obtain ⟨ks,rfl,_⟩:=conf_strs Tryz.underlying9 l4 c9
 have hw:Tryz.prog.cellsOf 9=1:=by kernel_rfl
 rw [hw]
 exact ⟨⟨a,b,c,e,v,n,t,f,ks⟩,rfl,hv⟩
set_option maxRecDepth 100000 in
theorem conf_pend {d:D} (h:Conf Tryz.prog d 140):∃ x:Pend,d=x.toD∧True:=by
 obtain ⟨l',rfl,h2⟩:=conf_struct Tryz.underlying140 h
 obtain ⟨d0,l1,rfl,c0,h2⟩:=confL_cons h2
 obtain ⟨d1,l2,rfl,c1,h2⟩:=confL_cons h2
 obtain ⟨d2,l3,rfl,c2,h2⟩:=confL_cons h2
 obtain rfl:=confL_nil h2
 obtain ⟨a,rfl,_⟩:=conf_str Tryz.underlying9 c0
 obtain ⟨b,rfl,_⟩:=conf_str Tryz.underlying9 c1
 obtain ⟨c,rfl,_⟩:=conf_str Tryz.underlying9 c2
 exact ⟨⟨a,b,c⟩,rfl,trivial⟩
set_option maxRecDepth 100000 in
theorem conf_outp {d:D} (h:Conf Tryz.prog d 95):∃ x:Outp,d=x.toD∧x.value.Wf:=by
 obtain ⟨l',rfl,h2⟩:=conf_struct Tryz.underlying95 h
 obtain ⟨d0,l1,rfl,c0,h2⟩:=confL_cons h2
 obtain ⟨d1,l2,rfl,c1,h2⟩:=confL_cons h2
 obtain ⟨d2,l3,rfl,c2,h2⟩:=confL_cons h2
 obtain rfl:=confL_nil h2
 obtain ⟨a,rfl,_⟩:=conf_str Tryz.underlying9 c0
 obtain ⟨v,rfl,hv⟩:=conf_val c1
 obtain ⟨t,rfl⟩:=conf_bool Tryz.underlying4 c2
 exact ⟨⟨a,v,t⟩,rfl,hv⟩
set_option maxRecDepth 100000 in
theorem conf_st {d:D} (h:Conf Tryz.prog d 27):∃ x:St,d=x.toD∧x.Wf:=by
 obtain ⟨l',rfl,h2⟩:=conf_struct Tryz.underlying27 h
 obtain ⟨d0,l1,rfl,c0,h2⟩:=confL_cons h2
 obtain ⟨d1,l2,rfl,c1,h2⟩:=confL_cons h2
 obtain ⟨d2,l3,rfl,c2,h2⟩:=confL_cons h2
 obtain ⟨d3,l4,rfl,c3,h2⟩:=confL_cons h2
 obtain ⟨d4,l5,rfl,c4,h2⟩:=confL_cons h2
 obtain rfl:=confL_nil h2
 obtain ⟨a,rfl,_⟩:=conf_str Tryz.underlying9 c0
 obtain ⟨n,rfl,hn⟩:=conf_int (k:=.i64) Tryz.underlying3 c1
 obtain ⟨l2,rfl,k2,_⟩:=conf_slice Tryz.underlying23 c2
 obtain ⟨l3,rfl,k3,_⟩:=conf_slice Tryz.underlying24 c3
 obtain ⟨l4,rfl,k4,_⟩:=conf_slice Tryz.underlying25 c4
 obtain ⟨xs,rfl,hx⟩:=list_of_ l2 fun d hd=>conf_inst (confA_mem k2 d hd)
 obtain ⟨ps,rfl,_⟩:=list_of_ l3 fun d hd=>conf_pend (confA_mem k3 d hd)
 obtain ⟨os,rfl,ho⟩:=list_of_ l4 fun d hd=>conf_outp (confA_mem k4 d hd)
 have hw1:Tryz.prog.cellsOf 36=13:=by kernel_rfl
 have hw2:Tryz.prog.cellsOf 140=3:=by kernel_rfl
 have hw3:Tryz.prog.cellsOf 95=7:=by kernel_rfl
 rw [hw1,hw2,hw3]
 exact ⟨⟨a,n,xs,ps,os⟩,rfl,hx,ho,hn⟩
end Sf
theorem strs_bulk:∀ ks:List (List UInt8),ks.length≤D.bulks (ks.map .str)∧∀ s∈ks,s.length+1≤D.bulks (ks.map .str)
 | []=>by simp
 | k::ks=>by
  obtain ⟨h1,h2⟩:=strs_bulk ks
  rw [List.map_cons,D.bulks,D.bulk]
  refine ⟨by simp only [List.length_cons]; omega,fun s hs=>?_⟩
  rcases List.mem_cons.1 hs with rfl | hs
  ·omega
  ·have:=h2 s hs; omega
theorem num10 (n:Int):(Wire.num n).length≤10:=(Wire.encF_len 9 (Wire.zig n)).2
theorem strE10 (s:List UInt8):(Wire.strE s).length≤10+s.length:=by
 unfold Wire.strE
 rw [List.length_append]
 have:=num10 (s.length:Int)
 omega
theorem bulk_pos (d:D):1≤d.bulk:=by cases d <;> rw [D.bulk] <;> omega
mutual
theorem enc_bulk:∀ v:V,(Val.enc v).length≤30*v.toD.bulk
 | .mk k n s is ks=>by
  have h1:=encs_bulk (k == 5) is ks
  have n1:=num10 k
  have n2:=num10 n
  have n3:=strE10 s
  have n4:=num10 (is.length:Int)
  rw [Val.enc,V.toD,D.bulk,D.bulks,D.bulks,D.bulks,D.bulks,D.bulks,D.bulks,D.bulk,D.bulk,D.bulk,D.bulk,D.bulk,List.length_append]
  split
  ·omega
  ·split
   ·omega
   ·split
    ·rw [List.length_append]; omega
    ·simp only [List.length_nil]; omega
theorem encs_bulk:∀ (m:Bool) (l:List V) (ks:List (List UInt8)),(Val.encs m l ks).length≤30*(D.bulks (V.toDs l)+D.bulks (ks.map .str))
 | m,[],ks=>by rw [Val.encs]; simp
 | m,v::l,ks=>by
  have h1:=enc_bulk v
  have hp:=bulk_pos v.toD
  rw [Val.encs,V.toDs,D.bulks,List.length_append,List.length_append]
  cases ks with
  | nil =>
   have h2:=encs_bulk m l ([]:List (List UInt8)).tail
   have:(Val.keyE m []).length=0:=by cases m <;> rfl
   simp only [List.tail_nil] at h2 ⊢
   omega
  | cons k ks =>
   have h2:=encs_bulk m l (k::ks).tail
   have h3:(Val.keyE m (k::ks)).length≤10+k.length:=by
    cases m
    ·simp [Val.keyE]
    ·exact strE10 k
   rw [List.tail_cons] at h2
   rw [List.map_cons,D.bulks,D.bulk,List.tail_cons]
   omega
end
theorem flat_bulk {α:Type} (f:α→List UInt8) (g:α→D) (h:∀ x,(f x).length≤30*(g x).bulk):∀ l:List α,(l.flatMap f).length≤30*D.bulks (l.map g)
 | []=>by simp
 | x::l=>by
  have:=h x
  have:=flat_bulk f g h l
  rw [List.flatMap_cons,List.map_cons,D.bulks,List.length_append]
  omega
theorem map_bulk {α:Type} (g:α→D):∀ l:List α,l.length≤D.bulks (l.map g)∧∀ x∈l,(g x).bulk≤D.bulks (l.map g)
 | []=>by simp
 | x::l=>by
  obtain ⟨h1,h2⟩:=map_bulk g l
  have:=bulk_pos (g x)
  rw [List.map_cons,D.bulks]
  refine ⟨by simp only [List.length_cons]; omega,fun y hy=>?_⟩
  rcases List.mem_cons.1 hy with rfl | hy
  ·omega
  ·have:=h2 y hy; omega
namespace Sf
theorem flag10 (b:Bool):(flagE b).length≤10:=num10 _
theorem instE_bulk (ver:Int) (x:Inst):(instE ver x).length≤30*x.toD.bulk:=by
 have a1:=strE10 x.addr
 have a2:=strE10 x.dep
 have a3:=strE10 x.id
 have a4:=strE10 x.typ
 have a5:=enc_bulk x.attrs
 have a6:=num10 x.ver
 have a7:=flag10 x.tainted
 have a8:(if ver=2 then flagE x.first else []).length≤10:=by
  split
  ·exact flag10 _
  ·simp
 have a9:=num10 (x.deps.length:Int)
 have a10:=flat_bulk Wire.strE D.str (fun s=>by rw [D.bulk]; have:=strE10 s; omega) x.deps
 unfold instE wordsE Inst.toD
 simp only [List.length_append,D.bulk,D.bulks]
 omega
theorem pendE_bulk (x:Pend):(pendE x).length≤30*x.toD.bulk:=by
 have a1:=strE10 x.addr
 have a2:=strE10 x.typ
 have a3:=strE10 x.tok
 unfold pendE Pend.toD
 simp only [List.length_append,D.bulk,D.bulks]
 omega
theorem outE_bulk (x:Outp):(outE x).length≤30*x.toD.bulk:=by
 have a1:=strE10 x.name
 have a2:=enc_bulk x.value
 have a3:=flag10 x.sens
 unfold outE Outp.toD
 simp only [List.length_append,D.bulk,D.bulks]
 omega
theorem stE_bulk (ver:Int) (s:St):(stE ver s).length≤30*s.toD.bulk:=by
 have a0:magic.length=4:=rfl
 have a1:=num10 ver
 have a2:=strE10 s.lin
 have a3:=num10 s.ser
 have a4:=num10 (s.insts.length:Int)
 have a5:=flat_bulk (instE ver) Inst.toD (instE_bulk ver) s.insts
 have a6:(if ver=2 then Wire.num s.pends.length++s.pends.flatMap pendE else []).length≤10+30*D.bulks (s.pends.map Pend.toD):=by
  have b1:=num10 (s.pends.length:Int)
  have b2:=flat_bulk pendE Pend.toD pendE_bulk s.pends
  split
  ·rw [List.length_append]; omega
  ·simp
 have a7:=num10 (s.outs.length:Int)
 have a8:=flat_bulk outE Outp.toD outE_bulk s.outs
 unfold stE St.toD
 simp only [List.length_append,D.bulk,D.bulks]
 omega
structure Fit (s:St):Prop where
 sin:AX.Sf.StIn s
 tin:TypIn s
 len:∀ ver,(stE ver s).length+20≤1000000000
theorem inst_fit {x:Inst} (hw:x.attrs.Wf) (hb:x.toD.bulk≤1500000):AX.Sf.InstIn x∧x.typ.length≤2000000:=by
 unfold Inst.toD at hb
 simp only [D.bulk,D.bulks] at hb
 obtain ⟨h1,h2⟩:=strs_bulk x.deps
 exact ⟨⟨by omega,by omega,by omega,V.Wf.lens _ hw,by omega,fun s hs=>by have:=h2 s hs; omega⟩,by omega⟩
theorem fit_of {s:St} (hw:s.Wf) (hb:s.toD.bulk≤1500000):Fit s:=by
 have hE:=fun ver=>stE_bulk ver s
 have hb':=hb
 unfold St.toD at hb'
 simp only [D.bulk,D.bulks] at hb'
 obtain ⟨i1,i2⟩:=map_bulk Inst.toD s.insts
 obtain ⟨p1,p2⟩:=map_bulk Pend.toD s.pends
 obtain ⟨o1,o2⟩:=map_bulk Outp.toD s.outs
 have hi:∀ x∈s.insts,AX.Sf.InstIn x∧x.typ.length≤2000000:=fun x hx=>inst_fit (hw.insts x hx) (by have:=i2 x hx; omega)
 have hp:∀ x∈s.pends,x.addr.length≤2000000∧x.typ.length≤2000000∧x.tok.length≤2000000:=fun x hx=>by
  have:x.toD.bulk≤1500000:=by have:=p2 x hx; omega
  unfold Pend.toD at this
  simp only [D.bulk,D.bulks] at this
  refine ⟨?_,?_,?_⟩ <;> omega
 have ho:∀ x∈s.outs,x.name.length≤2000000∧x.value.lens:=fun x hx=>by
  have:x.toD.bulk≤1500000:=by have:=o2 x hx; omega
  unfold Outp.toD at this
  simp only [D.bulk,D.bulks] at this
  exact ⟨by omega,V.Wf.lens _ (hw.outs x hx)⟩
 refine ⟨⟨by omega,fun x hx=>(hi x hx).1,fun x hx=>⟨(hp x hx).1,(hp x hx).2.2⟩,ho,by omega,by omega,by omega⟩,⟨fun x hx=>(hi x hx).2,fun x hx=>(hp x hx).2.1⟩,fun ver=>?_⟩
 have:=hE ver
 omega
end Sf
end Go.Proofs.YtahmpiioegemaaaGreatDoor

namespace Go.Proofs.YtahmpiioegemaaaGreatDoor
open Go.RowKit
mutual
def V.few:V→Prop
 | .mk k n s is ks=>is.length≤2000000∧ks.length≤2000000∧V.fews is
def V.fews:List V→Prop
 | []=>True
 | v::l=>v.few∧V.fews l
end
theorem toDs_bulk:∀ l:List V,l.length≤D.bulks (V.toDs l)
 | []=>Nat.zero_le _
 | v::l=>by
  have:=toDs_bulk l
  have h1:1≤v.toD.bulk:=by cases h:v.toD <;> rw [D.bulk] <;> omega
  rw [V.toDs,D.bulks,List.length_cons]; omega
mutual
theorem V.few_of:∀ v:V,v.toD.bulk≤1500000→v.few
 | .mk k n s is ks,h=>by
  rw [V.toD,D.bulk,D.bulks,D.bulks,D.bulks,D.bulks,D.bulks,D.bulks,D.bulk,D.bulk,D.bulk,D.bulk,D.bulk] at h
  have h1:=toDs_bulk is
  have h2:=(strs_bulk ks).1
  unfold V.few
  exact ⟨by omega,by omega,V.fews_of is (by omega)⟩
theorem V.fews_of:∀ l:List V,D.bulks (V.toDs l)≤1500000→V.fews l
 | [],_=>by unfold V.fews; trivial
 | v::l,h=>by
  rw [V.toDs,D.bulks] at h
  unfold V.fews
  exact ⟨V.few_of v (by omega),V.fews_of l (by omega)⟩
end
namespace AX
structure JrFew (r:Jr):Prop where
 inn:JrIn r
 vfew:r.after.attrs.few
 ins:r.base.insts.length≤2000000∧∀ x∈r.base.insts,x.attrs.few∧x.deps.length≤1000000000
 ps:r.base.pends.length≤2000000
 os:r.base.outs.length≤2000000∧∀ x∈r.base.outs,x.value.few
end AX
namespace Jr
end Jr
namespace Jr
end Jr
namespace AX
def c_r6letter:AX.AFn:=⟨21,aS [aR 2 (.mv (.c (.bool false)))] (aS [aM 3 0,aR 4 (.bin .geq (.t 3) (.c (.int .u8 97))),aM 5 4,aG 6 (.mv (.t 0)) 5 true,aG 7 (.bin .leq (.t 6) (.c (.int .u8 122))) 5 true,aR 8 (.pick (.t 5) (.t 7) (.c (.bool false))),aM 9 8,aG 10 (.mv (.t 0)) 9 false,aG 11 (.bin .geq (.t 10) (.c (.int .u8 65))) 9 false,aG 12 (.mv (.t 11)) 9 false,aG 13 (.mv (.t 0)) 12 true,aG 14 (.bin .leq (.t 13) (.c (.int .u8 90))) 12 true,aG 15 (.pick (.t 12) (.t 14) (.c (.bool false))) 9 false,aR 16 (.pick (.t 9) (.c (.bool true)) (.t 15)),aM 17 16,aG 18 (.mv (.t 0)) 17 false,aG 19 (.bin .eql (.t 18) (.c (.int .u8 95))) 17 false,aR 20 (.pick (.t 17) (.c (.bool true)) (.t 19)),aM 2 20] (.ret)),[.t 2]⟩
theorem h_r6letter:AX.compFn Tryz.prog 251=some c_r6letter:=by kernel_rfl
def c_r6ident:AX.AFn:=⟨40,aS [aR 2 (.mv (.c (.bool false)))] (.seq (aS [aM 4 0,aR 5 (.bin .eql (.t 4) (.c (.str []))),aM 6 5,aG 7 (.mv (.t 0)) 6 false,aG 8 (.len true (.t 7)) 6 false,aG 9 (.bin .gtr (.t 8) (aI 64)) 6 false,aR 10 (.pick (.t 6) (.c (.bool true)) (.t 9)),aM 11 10,aG 12 (.mv (.t 0)) 11 false,aG 13 (.sidx (.t 12) (aI 0)) 11 false,aG 14 (.call 251 [.t 13]) 11 false,aG 15 (.un .not (.t 14)) 11 false,aR 16 (.pick (.t 11) (.c (.bool true)) (.t 15))] (.cond (.t 16) (aS [aR 2 (.mv (.c (.bool false)))] (.ret)) (.skip))) (.seq (aS [aR 3 (.mv (aI 0))] (.block 0 (.loop (.seq (aS [aM 17 3,aM 18 0,aR 19 (.len true (.t 18)),aR 20 (.bin .lss (.t 17) (.t 19))] (.cond (.t 20) (.skip) (.exit 0))) (.seq (.block 1 (aS [aM 23 0,aM 24 3,aR 25 (.sidx (.t 23) (.t 24)),aR 26 (.call 251 [.t 25]),aR 27 (.un .not (.t 26)),aM 28 27,aG 29 (.mv (.t 0)) 28 true,aG 30 (.mv (.t 3)) 28 true,aG 31 (.sidx (.t 29) (.t 30)) 28 true,aG 32 (.bin .lss (.t 31) (.c (.int .u8 48))) 28 true,aG 33 (.mv (.t 32)) 28 true,aG 34 (.mv (.t 0)) 33 false,aG 35 (.mv (.t 3)) 33 false,aG 36 (.sidx (.t 34) (.t 35)) 33 false,aG 37 (.bin .gtr (.t 36) (.c (.int .u8 57))) 33 false,aG 38 (.pick (.t 33) (.c (.bool true)) (.t 37)) 28 true,aR 39 (.pick (.t 28) (.t 38) (.c (.bool false)))] (.cond (.t 39) (aS [aR 2 (.mv (.c (.bool false)))] (.ret)) (.skip)))) (.reg false [aM 21 3,aR 22 (.bin .add (.t 21) (aI 1)),aM 3 22])))))) (aS [aR 2 (.mv (.c (.bool true)))] (.ret)))),[.t 2]⟩
theorem h_r6ident:AX.compFn Tryz.prog 231=some c_r6ident:=by kernel_rfl
def c_r6res:AX.AFn:=⟨18,aS [aR 2 (.mv (.c (.bool false)))] (aS [aR 5 (.mks 1 [.c (.str [109,111,100,117,108,101]),.c (.str [100,97,116,97]),.c (.str [118,97,114]),.c (.str [108,111,99,97,108]),.c (.str [111,117,116,112,117,116]),.c (.str [101,97,99,104]),.c (.str [99,111,117,110,116]),.c (.str [114,101,109,111,116,101]),.c (.str [112,97,116,104]),.c (.str [115,101,108,102]),.c (.str [99,104,97,110,103,101])]),aM 3 5] (.seq (aS [aR 4 (.mv (aI 0))] (.block 0 (.loop (.seq (aS [aM 6 4,aM 7 3,aR 8 (.len false (.t 7)),aR 9 (.bin .lss (.t 6) (.t 8))] (.cond (.t 9) (.skip) (.exit 0))) (.seq (.block 1 (aS [aM 12 3,aM 13 4,aR 14 (.iaddr 1 (.t 12) (.t 13)),aL 15 14,aM 16 0,aR 17 (.bin .eql (.t 15) (.t 16))] (.cond (.t 17) (aS [aR 2 (.mv (.c (.bool true)))] (.ret)) (.skip)))) (.reg false [aM 10 4,aR 11 (.bin .add (.t 10) (aI 1)),aM 4 11])))))) (aS [aR 2 (.mv (.c (.bool false)))] (.ret)))),[.t 2]⟩
theorem h_r6res:AX.compFn Tryz.prog 265=some c_r6res:=by kernel_rfl
def c_r6begins:AX.AFn:=⟨18,aS [aR 4 (.mv (.c (.bool false)))] (aS [aM 5 0,aR 6 (.len true (.t 5)),aM 7 1,aR 8 (.len true (.t 7)),aR 9 (.bin .geq (.t 6) (.t 8)),aM 10 9,aG 11 (.mv (.t 0)) 10 true,aG 12 (.mv (.t 1)) 10 true,aG 13 (.len true (.t 12)) 10 true,aG 14 (.ssl (.t 11) none (some (.t 13))) 10 true,aG 15 (.mv (.t 1)) 10 true,aG 16 (.bin .eql (.t 14) (.t 15)) 10 true,aR 17 (.pick (.t 10) (.t 16) (.c (.bool false))),aM 4 17] (.ret)),[.t 4]⟩
theorem h_r6begins:AX.compFn Tryz.prog 262=some c_r6begins:=by kernel_rfl
def c_r6word:AX.AFn:=⟨35,aS [aR 2 (.mv (.c (.str []))),aR 3 (.mv (.c (.str [])))] (aS [aR 4 (.mv (aI 0))] (.seq (.block 0 (.loop (.seq (aS [aM 5 4,aM 6 0,aR 7 (.len true (.t 6)),aR 8 (.bin .lss (.t 5) (.t 7)),aM 9 8,aG 10 (.mv (.t 0)) 9 true,aG 11 (.mv (.t 4)) 9 true,aG 12 (.sidx (.t 10) (.t 11)) 9 true,aG 13 (.call 251 [.t 12]) 9 true,aG 14 (.mv (.t 13)) 9 true,aG 15 (.mv (.t 0)) 14 false,aG 16 (.mv (.t 4)) 14 false,aG 17 (.sidx (.t 15) (.t 16)) 14 false,aG 18 (.bin .geq (.t 17) (.c (.int .u8 48))) 14 false,aG 19 (.mv (.t 18)) 14 false,aG 20 (.mv (.t 0)) 19 true,aG 21 (.mv (.t 4)) 19 true,aG 22 (.sidx (.t 20) (.t 21)) 19 true,aG 23 (.bin .leq (.t 22) (.c (.int .u8 57))) 19 true,aG 24 (.pick (.t 19) (.t 23) (.c (.bool false))) 14 false,aG 25 (.pick (.t 14) (.c (.bool true)) (.t 24)) 9 true,aR 26 (.pick (.t 9) (.t 25) (.c (.bool false)))] (.cond (.t 26) (.skip) (.exit 0))) (.block 1 (.reg false [aM 27 4,aR 28 (.bin .add (.t 27) (aI 1)),aM 4 28]))))) (.seq (.reg true [aM 29 0,aM 30 4,⟨some 31,.ssl (.t 29) none (some (.t 30)),none,[0,1]⟩,aM 32 0,aM 33 4,⟨some 34,.ssl (.t 32) (some (.t 33)) none,none,[3,4]⟩,⟨some 2,.mv (.t 31),none,[2,0,1,2]⟩,⟨some 3,.mv (.t 34),none,[5,6,0,1,2,3,4,5,6]⟩]) (.ret)))),[.t 2,.t 3]⟩
theorem h_r6word:AX.compFn Tryz.prog 264=some c_r6word:=by kernel_rfl
theorem a_r6letter (c:UInt8) (h:Hp):ACall Tryz.prog GT 251 [.int .u8 (c.toNat:Int)] h fun r h'=>r = .bool (Adr.letter c)∧h'=h:=by
 refine pcall ?_ rfl (by simp [A.pure,A.data]) h
 refine acall_of mixedT h_r6letter (by simp [c_r6letter]) ?_
 dsimp only [c_r6letter]
 refine runx0 ti ti ?_
 refine ⟨_,le_refl _,?_⟩
 rw [tupA_1]
 congr 1
 unfold Adr.letter
 have e1:decide ((c.toNat:Int)≥97)=decide (97≤c.toNat):=by rw [decide_eq_decide]; omega
 have e2:decide ((c.toNat:Int)≤122)=decide (c.toNat≤122):=by rw [decide_eq_decide]; omega
 have e3:decide ((c.toNat:Int)≥65)=decide (65≤c.toNat):=by rw [decide_eq_decide]; omega
 have e4:decide ((c.toNat:Int)≤90)=decide (c.toNat≤90):=by rw [decide_eq_decide]; omega
 have e5:((c.toNat:Int) == 95)=(c == 95):=by
  rw [Bool.eq_iff_iff,beq_iff_eq,beq_iff_eq,←UInt8.toNat_inj]
  show _↔c.toNat=95
  omega
 rw [e1,e2,e3,e4,e5]
theorem i80 {n:Nat} (h:n≤2000000):IntKind.i64.wrap ((n:Int)+1)=((n+1:Nat):Int):=by rw [wrap64 (by omega) (by omega)]; omega
theorem word_no (c:UInt8):(!Adr.letter c&&(decide ((c.toNat:Int) < 48)||decide ((c.toNat:Int) > 57)))=!Adr.wordB c:=by
 unfold Adr.wordB Num.digB
 have e1:decide ((c.toNat:Int) < 48)=!decide (48≤c.toNat):=by rw [←decide_not,decide_eq_decide]; omega
 have e2:decide ((c.toNat:Int) > 57)=!decide (c.toNat≤57):=by rw [←decide_not,decide_eq_decide]; omega
 rw [e1,e2,Bool.not_or,Bool.not_and]
theorem word_yes (c:UInt8):(Adr.letter c||(decide ((c.toNat:Int)≥48)&&decide ((c.toNat:Int)≤57)))=Adr.wordB c:=by
 unfold Adr.wordB Num.digB
 have e1:decide ((c.toNat:Int)≥48)=decide (48≤c.toNat):=by rw [decide_eq_decide]; omega
 have e2:decide ((c.toNat:Int)≤57)=decide (c.toNat≤57):=by rw [decide_eq_decide]; omega
 rw [e1,e2]
theorem a_r6ident (s:List UInt8) (hl:s.length≤2000000) (h:Hp):ACall Tryz.prog GT 231 [.str s] h fun r h'=>r = .bool (Adr.ident s)∧h'=h:=by
 refine pcall ?_ rfl (by simp [A.pure,A.data]) h
 refine acall_of mixedT h_r6ident (by simp [c_r6ident]) ?_
 dsimp only [c_r6ident]
 obtain ⟨q,hq⟩:∃ q,Adr.ident s=q:=⟨_,rfl⟩
 rw [hq]
 unfold Adr.ident at hq
 cases s with
 | nil =>
  refine runx0 ti ti ?_
  exact ⟨_,le_refl _,by rw [←hq]; rfl⟩
 | cons c0 t =>
 have e0:((c0::t) == ([]:List UInt8))=false:=rfl
 have e0':((c0::t) != ([]:List UInt8))=true:=rfl
 have h0:(0:Int) < ((t.length+1:Nat):Int):=by omega
 have hc:=a_r6letter
 rw [e0',Bool.true_and] at hq
 by_cases h64:(t.length+1:Nat)≤64
 rotate_left
 ·have e1:((t.length+1:Nat):Int) > 64:=by omega
  have:false=q:=by rw [←hq]; simp; omega
  subst this
  refine runx0 (ai e0 e1) ti ?_
  exact ⟨_,le_refl _,rfl⟩
 have e1:¬ ((t.length+1:Nat):Int) > 64:=by omega
 rw [show decide ((c0::t).length≤64)=true from decide_eq_true h64,Bool.true_and,List.getD_cons_zero] at hq
 cases hL:Adr.letter c0 with
 | false =>
  rw [hL] at hq
  have:false=q:=hq
  subst this
  have hc0:=hc c0
  rw [hL] at hc0
  refine runx0 (ai e0 (ai e1 h0)) (ai hc0 ti) ?_
  exact ⟨_,le_refl _,rfl⟩
 | true =>
 rw [hL,Bool.true_and] at hq
 have hc0:=hc c0
 rw [hL] at hc0
 refine runx0 (ai e0 (ai e1 h0)) (ai hc0 ti) ?_
 obtain ⟨s,hs⟩:∃ s,c0::t=s:=⟨_,rfl⟩
 have hsl:t.length+1=s.length:=by rw [←hs]; rfl
 rw [hs] at hq ⊢
 refine awp_loop (fun m ts hh=>hh=⟨[],[]⟩∧∃ j:Nat,m=s.length - j∧j≤s.length∧(s.drop j).all Adr.wordB=s.all Adr.wordB∧(ts 0 = .str s∧ts 3 = .int .i64 (j:Nat))) s.length ?_ ?_
 ·exact ⟨rfl,0,rfl,Nat.zero_le _,rfl,by (exact inv0 hs)⟩
 rintro m ts hh ⟨rfl,j,rfl,hj,heq,ht⟩
 rcases Nat.lt_or_ge j s.length with hlt | hge
 ·have hf:(j:Int) < (s.length:Int)∧(0:Int)≤(j:Int)∧IntKind.i64.wrap ((j:Int)+1)=((j+1:Nat):Int):=⟨by omega,by omega,i80 (by omega)⟩
  rw [List.drop_eq_getElem_cons hlt,List.all_cons] at heq
  have hg:s.getD j 0=s[j]:=by simp [List.getD,hlt]
  obtain ⟨c,hcc⟩:∃ c,s[j]=c:=⟨_,rfl⟩
  rw [hcc] at heq hg
  have hw:=word_no c
  cases hB:Adr.wordB c with
  | false =>
   rw [hB] at heq hw
   have:false=q:=by rw [←hq,←heq]; rfl
   subst this
   refine runx0 (ai ht (ai hf (ai hg hw))) (ai (hc c) ti) ?_
   exact ⟨_,le_refl _,rfl⟩
  | true =>
   rw [hB] at heq hw
   refine runx0 (ai ht (ai hf (ai hg hw))) (ai (hc c) ti) ?_
   exact ⟨_,by omega,rfl,j+1,rfl,by omega,heq,by (exact inv0 (ai ht hf))⟩
 ·have hf:¬ (j:Int) < (s.length:Int):=by omega
  rw [List.drop_of_length_le hge,List.all_nil] at heq
  refine runx0 (ai ht hf) ti ?_
  exact ⟨_,le_refl _,by rw [←hq,←heq]; rfl⟩
theorem a_r6begins (s p:List UInt8) (hl:s.length≤2000000) (hp:p.length≤2000000) (h:Hp):ACall Tryz.prog GT 262 [.str s,.str p] h fun r h'=>r = .bool (Adr.begins s p)∧h'=h:=by
 refine pcall ?_ rfl (by simp [A.pure,A.data]) h
 refine acall_of mixedT h_r6begins (by simp [c_r6begins]) ?_
 dsimp only [c_r6begins]
 have hb:Adr.begins s p=(decide (p.length≤s.length)&&(s.take p.length == p)):=by
  unfold Adr.begins
  rw [Bool.eq_iff_iff,List.isPrefixOf_iff_prefix,Bool.and_eq_true,decide_eq_true_eq,beq_iff_eq,List.prefix_iff_eq_take]
  exact ⟨fun e=>⟨by have:=congrArg List.length e; rw [List.length_take] at this; omega,e.symm⟩,fun e=>e.2.symm⟩
 rw [hb]
 by_cases hc:p.length≤s.length
 ·have e1:(s.length:Int)≥(p.length:Int):=by omega
  have e2:(0:Int)≤(p.length:Int)∧(p.length:Int)≤(s.length:Int):=⟨by omega,by omega⟩
  rw [decide_eq_true hc,Bool.true_and]
  refine runx0 (ai e1 e2) ti ?_
  exact ⟨_,le_refl _,rfl⟩
 ·have e1:¬ (s.length:Int)≥(p.length:Int):=by omega
  rw [decide_eq_false hc,Bool.false_and]
  refine runx0 e1 ti ?_
  exact ⟨_,le_refl _,rfl⟩
theorem take_stop {p:UInt8→Bool}:∀ (s:List UInt8) (j:Nat),j≤s.length→(s.take j).all p=true→(j=s.length∨p (s.getD j 0)=false)→s.takeWhile p=s.take j∧s.dropWhile p=s.drop j
 | [],0,_,_,_=>⟨rfl,rfl⟩
 | c::s,0,_,_,h=>by
  rcases h with h | h
  ·simp at h
  ·simp only [List.getD_cons_zero] at h
   exact ⟨by simp [h],by simp [h]⟩
 | c::s,j+1,hj,ha,h=>by
  rw [List.take_succ_cons,List.all_cons,Bool.and_eq_true] at ha
  have:=take_stop s j (by simpa using hj) ha.2 (by simpa using h)
  rw [List.takeWhile_cons_of_pos ha.1,List.dropWhile_cons_of_pos ha.1,this.1,this.2]
  exact ⟨rfl,rfl⟩
theorem a_r6word (s:List UInt8) (hl:s.length≤2000000) (h:Hp):ACall Tryz.prog GT 264 [.str s] h fun r h'=>r = .tup [.str (s.takeWhile Adr.wordB),.str (s.dropWhile Adr.wordB)]∧h'=h:=by
 refine pcall ?_ rfl (by simp [A.pure,A.data]) h
 refine acall_of mixedT h_r6word (by simp [c_r6word]) ?_
 dsimp only [c_r6word]
 have hc:=a_r6letter
 refine runx0 ti ti ?_
 refine awp_loop (fun m ts hh=>hh=⟨[],[]⟩∧∃ j:Nat,m=s.length - j∧j≤s.length∧(s.take j).all Adr.wordB=true∧(ts 0 = .str s∧ts 4 = .int .i64 (j:Nat))) s.length ?_ ?_
 ·exact ⟨rfl,0,rfl,Nat.zero_le _,rfl,by (exact inv0 ti)⟩
 rintro m ts hh ⟨rfl,j,rfl,hj,hall,ht⟩
 have hs:(0:Int)≤(j:Int)∧(j:Int)≤(s.length:Int):=⟨by omega,by omega⟩
 rcases Nat.lt_or_ge j s.length with hlt | hge
 ·have hf:(j:Int) < (s.length:Int)∧IntKind.i64.wrap ((j:Int)+1)=((j+1:Nat):Int):=⟨by omega,i80 (by omega)⟩
  have hg:s.getD j 0=s[j]:=by simp [List.getD,hlt]
  obtain ⟨c,hcc⟩:∃ c,s[j]=c:=⟨_,rfl⟩
  rw [hcc] at hg
  have hw:=word_yes c
  cases hB:Adr.wordB c with
  | false =>
   rw [hB] at hw
   obtain ⟨k1,k2⟩:=take_stop s j hj hall (.inr (by rw [hg]; exact hB))
   rw [k1,k2]
   refine runx0 (ai ht (ai hf (ai hs (ai hg hw)))) (ai (hc c) ti) ?_
   exact ⟨_,le_refl _,rfl⟩
  | true =>
   rw [hB] at hw
   refine runx0 (ai ht (ai hf (ai hs (ai hg hw)))) (ai (hc c) ti) ?_
   refine ⟨_,?_,rfl,j+1,rfl,by omega,?_,by (exact inv0 (ai ht hf))⟩
   ·omega
   ·rw [List.take_succ_eq_append_getElem hlt,List.all_append,hall,hcc]
    simp [hB]
 ·have hf:¬ (j:Int) < (s.length:Int):=by omega
  obtain ⟨k1,k2⟩:=take_stop s j hj hall (.inl (by omega))
  rw [k1,k2]
  refine runx0 (ai ht (ai hf hs)) ti ?_
  exact ⟨_,le_refl _,rfl⟩
theorem a_r6res (s:List UInt8) (h:Hp):ACall Tryz.prog GT 265 [.str s] h fun r h'=>r = .bool (Adr.reserved s)∧h'=h:=by
 refine pcall ?_ rfl (by simp [A.pure,A.data]) h
 refine acall_of mixedT h_r6res (by simp [c_r6res]) ?_
 dsimp only [c_r6res]
 obtain ⟨L,hL⟩:∃ L,Adr.reservedL=L:=⟨_,rfl⟩
 have hr:Adr.reserved s=L.contains s:=by unfold Adr.reserved; rw [hL]
 have h11:L.length=11:=by rw [←hL]; rfl
 rw [hr]
 refine runx0 ti ti ?_
 refine awp_loop (fun m ts hh=>hh=⟨[],[]⟩∧∃ j:Nat,m=L.length - j∧j≤L.length∧(L.drop j).contains s=L.contains s∧(ts 0 = .str s∧ts 3 = .sl 1 .no (strsA L)∧ts 4 = .int .i64 (j:Nat))) L.length ?_ ?_
 ·exact ⟨rfl,0,rfl,Nat.zero_le _,rfl,rfl,by rw [←hL]; rfl,rfl⟩
 rintro m ts hh ⟨rfl,j,rfl,hj,heq,ht⟩
 rcases Nat.lt_or_ge j L.length with hlt | hge
 ·have hf:(strsA L).length=L.length∧(j:Int) < (L.length:Int)∧(0:Int)≤(j:Int)∧IntKind.i64.wrap ((j:Int)+1)=((j+1:Nat):Int)∧(strsA L).getD j []=[.str L[j]]:=⟨strsA_length L,by omega,by omega,i80 (by omega),strsA_get L j hlt⟩
  rw [List.drop_eq_getElem_cons hlt,List.contains_cons] at heq
  obtain ⟨w,hw⟩:∃ w,L[j]=w:=⟨_,rfl⟩
  rw [hw] at heq hf
  by_cases e:w=s
  ·subst e
   rw [show (w == w)=true from beq_self_eq_true _,Bool.true_or] at heq
   refine runx0 (ai ht hf) ti ?_
   exact ⟨_,le_refl _,by rw [←heq]; rfl⟩
  ·have e1:(w == s)=false:=by simp [e]
   have e2:(s == w)=false:=by simpa using fun h=>e h.symm
   rw [e2,Bool.false_or] at heq
   refine runx0 (ai ht (ai hf e1)) ti ?_
   exact ⟨_,by omega,rfl,j+1,rfl,by omega,heq,by (exact inv0 (ai ht hf))⟩
 ·have hf:(strsA L).length=L.length∧¬ (j:Int) < (L.length:Int):=⟨strsA_length L,by omega⟩
  rw [List.drop_of_length_le hge] at heq
  refine runx0 (ai ht hf) ti ?_
  exact ⟨_,le_refl _,by rw [←heq]; rfl⟩
end AX
end Go.Proofs.YtahmpiioegemaaaGreatDoor
