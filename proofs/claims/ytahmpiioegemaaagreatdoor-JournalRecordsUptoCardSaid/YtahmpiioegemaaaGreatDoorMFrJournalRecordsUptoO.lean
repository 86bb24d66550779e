/- Part of what the proof needs. -/
import Derived.Test.YtahmpiioegemaaaGreatDoorMFrJournalRecordsUptoH
import Derived.Test.YtahmpiioegemaaaGreatDoorMFrJournalRecordsUptoK
import Derived.Test.YtahmpiioegemaaaGreatDoorMFrJournalRecordsUptoL
import Derived.Test.YtahmpiioegemaaaGreatDoorMFrJournalRecordsUptoM
import Derived.Test.YtahmpiioegemaaaGreatDoorMFrJournalRecordsUptoN
set_option maxHeartbeats 4000000
set_option linter.unusedSimpArgs false
set_option linter.unusedVariables false
set_option linter.unnecessarySimpa false
namespace Go.Proofs.YtahmpiioegemaaaGreatDoor
open Go.RowKit
namespace AX
theorem fm_snoc {α:Type} (f:α→List UInt8) (l:List α) (j:Nat) (hj:j < l.length):(l.take (j+1)).flatMap f=(l.take j).flatMap f++f l[j]:=by
 rw [List.take_succ_eq_append_getElem hj,List.flatMap_append]; simp
theorem fm_le {α:Type} (f:α→List UInt8) (l:List α) (j:Nat):((l.take j).flatMap f).length≤(l.flatMap f).length:=by
 have:l.flatMap f=(l.take j).flatMap f++(l.drop j).flatMap f:=by rw [←List.flatMap_append,List.take_append_drop]
 rw [this,List.length_append]; omega
theorem map_getD {α:Type} (f:α→List A) (l:List α) (j:Nat) (hj:j < l.length):(l.map f).getD j []=f l[j]:=by simp [List.getD,hj]
structure Sf.StOk (s:Sf.St):Prop where
 insts:∀ x∈s.insts,Sf.InstOk x
 outs:∀ x∈s.outs,(∃ lv b,(Val.chk x.value lv b).1=0)∧x.value.lens
 ser0:-9223372036854775808≤s.ser
 ser1:s.ser≤9223372036854775807
 li:s.insts.length≤1000000000
 lp:s.pends.length≤1000000000
 lo:s.outs.length≤1000000000
theorem w_state {ver:Int} (hver:ver=1∨ver=2) (st:Sf.St) (ok:Sf.StOk st) (hlen:(Sf.stE ver st).length+20≤1000000000) :
  ACall Tryz.prog GT 100 [.ptr 0 0,st.A] ⟨[.cells 151 [.nilp,.sl 0 .nil [],.int .i64 ver]],[]⟩ fun u h'=>∃ b',h'.b[0]?=some b'∧u = .tup []∧b'=wtr ver (Sf.stE ver st):=by
 obtain ⟨lin,ser,ins,ps,os⟩:=st
 have s0:-9223372036854775808≤ser:=ok.ser0
 have s1:ser≤9223372036854775807:=ok.ser1
 have li:ins.length≤1000000000:=ok.li
 have lp:ps.length≤1000000000:=ok.lp
 have lo:os.length≤1000000000:=ok.lo
 have hml:magic.length=4:=rfl
 have lm1:(ins.map Sf.Inst.cells).length=ins.length:=List.length_map _
 have lm2:(ps.map Sf.Pend.cells).length=ps.length:=List.length_map _
 have lm3:(os.map Sf.Outp.cells).length=os.length:=List.length_map _
 obtain ⟨F,hF⟩:∃ F,(if ver=2 then Wire.num ps.length++ps.flatMap Sf.pendE else [])=F:=⟨_,rfl⟩
 have hE:Sf.stE ver ⟨lin,ser,ins,ps,os⟩=magic++Wire.num ver++Wire.strE lin++Wire.num ser++Wire.num ins.length++ins.flatMap (Sf.instE ver)++F++Wire.num os.length++os.flatMap Sf.outE:=by rw [←hF]; rfl
 rw [hE] at hlen
 simp only [List.length_append,hml] at hlen
 have k0:=strE_le lin
 have hv12:∀ {G:Prop},((ver == 2)=false→F=[]→G)→((ver == 2)=true→F=Wire.num ps.length++ps.flatMap Sf.pendE→G)→G:=fun p q=>by
  rcases hver with rfl | rfl
  ·rw [if_neg (by decide)] at hF; exact p rfl hF.symm
  ·rw [if_pos rfl] at hF; exact q rfl hF.symm
 have hv1:1≤ver∧ver≤2:=by omega
 refine acall_of mixedT h_wstate (by simp [c_wstate]) ?_
 dsimp only [c_wstate,Sf.St.A]
 refine run0 ti ?_
 refine use (a_write (.inr ⟨rfl,rfl⟩) magic (by simp only [List.length_nil,hml]; decide)) ?_
 refine run0 @wtr_ ?_
 refine use (wn (i:=0) (ver:=ver) (l:=magic) rfl ver (by simp only [List.length_append,hml]; omega) (by omega) (by omega)) ?_
 refine run0 ti ?_
 refine use (wt rfl lin (by simp only [List.length_append,hml]; omega)) ?_
 refine run0 ti ?_
 refine use (wn rfl ser (by simp only [List.length_append,hml]; omega) s0 s1) ?_
 refine run0 (ai lm1 (ai lm2 lm3)) ?_
 refine use (wn rfl _ (by simp only [List.length_append,hml]; omega) (by omega) (by omega)) ?_
 refine run0 (ai lm1 (ai lm2 lm3)) ?_
 refine awp_loop (fun mm ts h=>∃ (j:Nat) (l:List Blk),mm=ins.length - j∧j≤ins.length∧h=⟨wtr ver (magic++Wire.num ver++Wire.strE lin++Wire.num ser++Wire.num ins.length++(ins.take j).flatMap (Sf.instE ver)) :: .cells 27 [.str lin,.int .i64 ser,.sl 13 .no (ins.map Sf.Inst.cells),.sl 3 .no (ps.map Sf.Pend.cells),.sl 7 .no (os.map Sf.Outp.cells)]::l,[]⟩∧ts 0 = .ptr 0 0∧ts 3 = .ptr 1 0∧ts 34 = .sl 13 .no (ins.map Sf.Inst.cells)∧ts 35 = .int .i64 (ins.length:Nat)∧ts 36 = .int .i64 (j:Nat)) ins.length ?_ ?_
 ·exact ⟨0,[],by omega,by omega,by simp only [List.take_zero,List.flatMap_nil,List.append_nil],by (exact ev0 ti),by (exact ev0 ti),by (exact ev0 ti),by (exact ev0 (ai lm1 (ai lm2 lm3))),by (exact inv0 ti)⟩
 ·rintro mm ts h ⟨j,l,rfl,hjc,rfl,t0,t3,ta,tb,tc⟩
  by_cases hj:j < ins.length
  ·have hlt:(j:Int) < (ins.length:Int):=by omega
   have hlt':(j:Int) < ((ins.map Sf.Inst.cells).length:Int):=by rw [List.length_map]; exact hlt
   have hj0:(0:Int)≤(j:Int):=by omega
   have ei:IntKind.i64.wrap ((j:Int)+1)=((j+1:Nat):Int):=by rw [wrap64 (by omega) (by omega)]; omega
   have hs:=fm_snoc (Sf.instE ver) ins j hj
   have ht:=fm_le (Sf.instE ver) ins (j+1)
   have hg:=map_getD Sf.Inst.cells ins j hj
   have hm:=List.getElem_mem hj
   have hok:=ok.insts _ hm
   obtain ⟨x,hx⟩:∃ x,ins[j]=x:=⟨_,rfl⟩
   rw [hx] at hs hg hok
   rw [hs,List.length_append] at ht
   have cw:=fun (m:List UInt8) (h:Hp) (hb:h.b[0]?=some (wtr ver m)) (hm:m.length+(Sf.instE ver x).length+20≤1000000000)=>w_inst hver x hok m hm hb
   obtain ⟨a,d,id,ty,⟨k,n,s,is,ks⟩,v,tn,fi,ds⟩:=x
   simp only [Sf.Inst.cells] at hg cw
   refine run0 (ai t0 (ai t3 (ai ta (ai tb (ai tc (ai hlt (ai hg (ai hlt' hj0)))))))) ?_
   refine use (cw _ _ rfl (by simp only [List.length_append,hml]; omega)) ?_
   refine run0 (ai t0 (ai t3 (ai ta (ai tb (ai tc ei))))) ?_
   exact ⟨ins.length - (j+1),by omega,j+1,l++[.cells 36 [.str a,.str d,.str id,.str ty,.int .i64 k,.int .i64 n,.str s,.sl 5 .no (V.cellss is),.sl 1 .no (strsA ks),.int .i64 v,.bool tn,.bool fi,.sl 1 .no (strsA ds)]],rfl,by omega,by rw [hs]; simp only [List.append_assoc],by (exact ev0 t0),by (exact ev0 t3),by (exact ev0 ta),by (exact ev0 tb),by (exact ev0 ei)⟩
  ·have hlt:¬ ((j:Int) < (ins.length:Int)):=by omega
   have hjl:j=ins.length:=by omega
   subst hjl
   rw [List.take_length]
   refine hv12 (fun e2 eF=>?_) (fun e2 eF=>?_)
   all_goals subst eF
   all_goals first | (simp only [List.length_append] at hlen) | skip
   ·refine run0 (ai t0 (ai t3 (ai ta (ai tb (ai tc (ai hlt (ai @wtr_ (ai e2 (ai lm1 (ai lm2 lm3)))))))))) ?_
    refine use (wn (i:=0) (ver:=ver) (l:=magic++Wire.num ver++Wire.strE lin++Wire.num ser++Wire.num ins.length++ins.flatMap (Sf.instE ver)) rfl _ (by simp only [List.length_append,hml]; omega) (by omega) (by omega)) ?_
    refine run0 (ai t0 (ai t3 (ai lm1 (ai lm2 lm3)))) ?_
    refine awp_loop (fun mm ts h=>∃ (j:Nat) (l:List Blk),mm=os.length - j∧j≤os.length∧h=⟨wtr ver (magic++Wire.num ver++Wire.strE lin++Wire.num ser++Wire.num ins.length++ins.flatMap (Sf.instE ver)++Wire.num os.length++(os.take j).flatMap Sf.outE) :: .cells 27 [.str lin,.int .i64 ser,.sl 13 .no (ins.map Sf.Inst.cells),.sl 3 .no (ps.map Sf.Pend.cells),.sl 7 .no (os.map Sf.Outp.cells)]::l,[]⟩∧ts 0 = .ptr 0 0∧ts 3 = .ptr 1 0∧ts 80 = .sl 7 .no (os.map Sf.Outp.cells)∧ts 81 = .int .i64 (os.length:Nat)∧ts 82 = .int .i64 (j:Nat)) os.length ?_ ?_
    ·exact ⟨0,l,by omega,by omega,by simp only [List.take_zero,List.flatMap_nil,List.append_nil],by (exact ev0 t0),by (exact ev0 t3),by (exact ev0 (ai t0 t3)),by (exact ev0 (ai t0 (ai t3 (ai lm1 (ai lm2 lm3))))),by (exact inv0 (ai t0 t3))⟩
    ·rintro mm ts h ⟨j,l,rfl,hjc,rfl,t0,t3,ta,tb,tc⟩
     by_cases hj:j < os.length
     ·have hlt:(j:Int) < (os.length:Int):=by omega
      have hlt':(j:Int) < ((os.map Sf.Outp.cells).length:Int):=by rw [List.length_map]; exact hlt
      have hj0:(0:Int)≤(j:Int):=by omega
      have ei:IntKind.i64.wrap ((j:Int)+1)=((j+1:Nat):Int):=by rw [wrap64 (by omega) (by omega)]; omega
      have hs:=fm_snoc Sf.outE os j hj
      have ht:=fm_le Sf.outE os (j+1)
      have hg:=map_getD Sf.Outp.cells os j hj
      have hm:=List.getElem_mem hj
      have hok:=ok.outs _ hm
      obtain ⟨x,hx⟩:∃ x,os[j]=x:=⟨_,rfl⟩
      rw [hx] at hs hg hok
      rw [hs,List.length_append] at ht
      obtain ⟨m,⟨k,n,s,is,ks⟩,b⟩:=x
      have hVA:(V.mk k n s is ks).A = .agg [.int .i64 k,.int .i64 n,.str s,.sl 5 .no (V.cellss is),.sl 1 .no (strsA ks)]:=by simp only [V.A,V.cells]
      have cv:=fun (m:List UInt8) (h:Hp) (hb:h.b[0]?=some (wtr ver m)) (hm:m.length+(Val.enc (.mk k n s is ks)).length+10≤1000000000)=>wv hb (.mk k n s is ks) hok.1 hm hok.2
      rw [hVA] at cv
      simp only [Sf.Outp.cells] at hg
      simp only [Sf.outE] at hs ht
      simp only [List.length_append] at ht
      have k1:=strE_le m
      refine run0 (ai t0 (ai t3 (ai ta (ai tb (ai tc (ai hlt (ai hg (ai hlt' hj0)))))))) ?_
      refine use (wt rfl m (by simp only [List.length_append,hml]; omega)) ?_
      refine run0 (ai t0 (ai t3 (ai ta (ai tb tc)))) ?_
      refine use (cv _ _ rfl (by simp only [List.length_append,hml]; omega)) ?_
      refine run0 (ai t0 (ai t3 (ai ta (ai tb tc)))) ?_
      refine use (wf rfl b (by simp only [List.length_append,hml]; omega)) ?_
      refine run0 (ai t0 (ai t3 (ai ta (ai tb (ai tc ei))))) ?_
      exact ⟨os.length - (j+1),by omega,j+1,l++[.cells 95 [.str m,.int .i64 k,.int .i64 n,.str s,.sl 5 .no (V.cellss is),.sl 1 .no (strsA ks),.bool b]],rfl,by omega,by rw [hs]; simp only [List.append_assoc],by (exact ev0 t0),by (exact ev0 t3),by (exact ev0 ta),by (exact ev0 tb),by (exact ev0 ei)⟩
     ·have hlt:¬ ((j:Int) < (os.length:Int)):=by omega
      have hjl:j=os.length:=by omega
      subst hjl
      rw [List.take_length]
      refine run0 (ai t0 (ai t3 (ai ta (ai tb (ai tc hlt))))) ?_
      exact ⟨_,le_refl _,_,rfl,rfl,by rw [hE]; simp only [List.append_assoc,List.nil_append]⟩
   ·refine run0 (ai t0 (ai t3 (ai ta (ai tb (ai tc (ai hlt (ai @wtr_ (ai e2 (ai lm1 (ai lm2 lm3)))))))))) ?_
    refine use (wn (i:=0) (ver:=ver) (l:=magic++Wire.num ver++Wire.strE lin++Wire.num ser++Wire.num ins.length++ins.flatMap (Sf.instE ver)) rfl _ (by simp only [List.length_append,hml]; omega) (by omega) (by omega)) ?_
    refine run0 (ai t0 (ai t3 (ai lm1 (ai lm2 lm3)))) ?_
    refine awp_loop (fun mm ts h=>∃ (j:Nat) (l:List Blk),mm=ps.length - j∧j≤ps.length∧h=⟨wtr ver (magic++Wire.num ver++Wire.strE lin++Wire.num ser++Wire.num ins.length++ins.flatMap (Sf.instE ver)++Wire.num ps.length++(ps.take j).flatMap Sf.pendE) :: .cells 27 [.str lin,.int .i64 ser,.sl 13 .no (ins.map Sf.Inst.cells),.sl 3 .no (ps.map Sf.Pend.cells),.sl 7 .no (os.map Sf.Outp.cells)]::l,[]⟩∧ts 0 = .ptr 0 0∧ts 3 = .ptr 1 0∧ts 55 = .sl 3 .no (ps.map Sf.Pend.cells)∧ts 56 = .int .i64 (ps.length:Nat)∧ts 57 = .int .i64 (j:Nat)) ps.length ?_ ?_
    ·exact ⟨0,l,by omega,by omega,by simp only [List.take_zero,List.flatMap_nil,List.append_nil],by (exact ev0 t0),by (exact ev0 t3),by (exact ev0 (ai t0 t3)),by (exact ev0 (ai t0 (ai t3 (ai lm1 (ai lm2 lm3))))),by (exact inv0 (ai t0 t3))⟩
    ·rintro mm ts h ⟨j,l,rfl,hjc,rfl,t0,t3,ta,tb,tc⟩
     by_cases hj:j < ps.length
     ·have hlt:(j:Int) < (ps.length:Int):=by omega
      have hlt':(j:Int) < ((ps.map Sf.Pend.cells).length:Int):=by rw [List.length_map]; exact hlt
      have hj0:(0:Int)≤(j:Int):=by omega
      have ei:IntKind.i64.wrap ((j:Int)+1)=((j+1:Nat):Int):=by rw [wrap64 (by omega) (by omega)]; omega
      have hs:=fm_snoc Sf.pendE ps j hj
      have ht:=fm_le Sf.pendE ps (j+1)
      have hg:=map_getD Sf.Pend.cells ps j hj
      have hm:=List.getElem_mem hj
      obtain ⟨x,hx⟩:∃ x,ps[j]=x:=⟨_,rfl⟩
      rw [hx] at hs hg
      rw [hs,List.length_append] at ht
      simp only [Sf.Pend.cells] at hg
      simp only [Sf.pendE] at hs ht
      simp only [List.length_append] at ht
      have k1:=strE_le x.addr
      have k2:=strE_le x.typ
      have k3:=strE_le x.tok
      refine run0 (ai t0 (ai t3 (ai ta (ai tb (ai tc (ai hlt (ai hg (ai hlt' hj0)))))))) ?_
      refine use (wt rfl x.addr (by simp only [List.length_append,hml]; omega)) ?_
      refine run0 (ai t0 (ai t3 (ai ta (ai tb tc)))) ?_
      refine use (wt rfl x.typ (by simp only [List.length_append,hml]; omega)) ?_
      refine run0 (ai t0 (ai t3 (ai ta (ai tb tc)))) ?_
      refine use (wt rfl x.tok (by simp only [List.length_append,hml]; omega)) ?_
      refine run0 (ai t0 (ai t3 (ai ta (ai tb (ai tc ei))))) ?_
      exact ⟨ps.length - (j+1),by omega,j+1,l++[.cells 140 [.str x.addr,.str x.typ,.str x.tok]],rfl,by omega,by rw [hs]; simp only [List.append_assoc],by (exact ev0 t0),by (exact ev0 t3),by (exact ev0 ta),by (exact ev0 tb),by (exact ev0 ei)⟩
     ·have hlt:¬ ((j:Int) < (ps.length:Int)):=by omega
      have hjl:j=ps.length:=by omega
      subst hjl
      rw [List.take_length]
      refine run0 (ai t0 (ai t3 (ai ta (ai tb (ai tc (ai hlt (ai lm1 (ai lm2 lm3)))))))) ?_
      refine use (wn rfl _ (by simp only [List.length_append,hml]; omega) (by omega) (by omega)) ?_
      refine run0 (ai t0 (ai t3 (ai lm1 (ai lm2 lm3)))) ?_
      refine awp_loop (fun mm ts h=>∃ (j:Nat) (l:List Blk),mm=os.length - j∧j≤os.length∧h=⟨wtr ver (magic++Wire.num ver++Wire.strE lin++Wire.num ser++Wire.num ins.length++ins.flatMap (Sf.instE ver)++Wire.num ps.length++ps.flatMap Sf.pendE++Wire.num os.length++(os.take j).flatMap Sf.outE) :: .cells 27 [.str lin,.int .i64 ser,.sl 13 .no (ins.map Sf.Inst.cells),.sl 3 .no (ps.map Sf.Pend.cells),.sl 7 .no (os.map Sf.Outp.cells)]::l,[]⟩∧ts 0 = .ptr 0 0∧ts 3 = .ptr 1 0∧ts 80 = .sl 7 .no (os.map Sf.Outp.cells)∧ts 81 = .int .i64 (os.length:Nat)∧ts 82 = .int .i64 (j:Nat)) os.length ?_ ?_
      ·exact ⟨0,l,by omega,by omega,by simp only [List.take_zero,List.flatMap_nil,List.append_nil],by (exact ev0 t0),by (exact ev0 t3),by (exact ev0 (ai t0 t3)),by (exact ev0 (ai t0 (ai t3 (ai lm1 (ai lm2 lm3))))),by (exact inv0 (ai t0 t3))⟩
      ·rintro mm ts h ⟨j,l,rfl,hjc,rfl,t0,t3,ta,tb,tc⟩
       by_cases hj:j < os.length
       ·have hlt:(j:Int) < (os.length:Int):=by omega
        have hlt':(j:Int) < ((os.map Sf.Outp.cells).length:Int):=by rw [List.length_map]; exact hlt
        have hj0:(0:Int)≤(j:Int):=by omega
        have ei:IntKind.i64.wrap ((j:Int)+1)=((j+1:Nat):Int):=by rw [wrap64 (by omega) (by omega)]; omega
        have hs:=fm_snoc Sf.outE os j hj
        have ht:=fm_le Sf.outE os (j+1)
        have hg:=map_getD Sf.Outp.cells os j hj
        have hm:=List.getElem_mem hj
        have hok:=ok.outs _ hm
        obtain ⟨x,hx⟩:∃ x,os[j]=x:=⟨_,rfl⟩
        rw [hx] at hs hg hok
        rw [hs,List.length_append] at ht
        obtain ⟨m,⟨k,n,s,is,ks⟩,b⟩:=x
        have hVA:(V.mk k n s is ks).A = .agg [.int .i64 k,.int .i64 n,.str s,.sl 5 .no (V.cellss is),.sl 1 .no (strsA ks)]:=by simp only [V.A,V.cells]
        have cv:=fun (m:List UInt8) (h:Hp) (hb:h.b[0]?=some (wtr ver m)) (hm:m.length+(Val.enc (.mk k n s is ks)).length+10≤1000000000)=>wv hb (.mk k n s is ks) hok.1 hm hok.2
        rw [hVA] at cv
        simp only [Sf.Outp.cells] at hg
        simp only [Sf.outE] at hs ht
        simp only [List.length_append] at ht
        have k1:=strE_le m
        refine run0 (ai t0 (ai t3 (ai ta (ai tb (ai tc (ai hlt (ai hg (ai hlt' hj0)))))))) ?_
        refine use (wt rfl m (by simp only [List.length_append,hml]; omega)) ?_
        refine run0 (ai t0 (ai t3 (ai ta (ai tb tc)))) ?_
        refine use (cv _ _ rfl (by simp only [List.length_append,hml]; omega)) ?_
        refine run0 (ai t0 (ai t3 (ai ta (ai tb tc)))) ?_
        refine use (wf rfl b (by simp only [List.length_append,hml]; omega)) ?_
        refine run0 (ai t0 (ai t3 (ai ta (ai tb (ai tc ei))))) ?_
        exact ⟨os.length - (j+1),by omega,j+1,l++[.cells 95 [.str m,.int .i64 k,.int .i64 n,.str s,.sl 5 .no (V.cellss is),.sl 1 .no (strsA ks),.bool b]],rfl,by omega,by rw [hs]; simp only [List.append_assoc],by (exact ev0 t0),by (exact ev0 t3),by (exact ev0 ta),by (exact ev0 tb),by (exact ev0 ei)⟩
       ·have hlt:¬ ((j:Int) < (os.length:Int)):=by omega
        have hjl:j=os.length:=by omega
        subst hjl
        rw [List.take_length]
        refine run0 (ai t0 (ai t3 (ai ta (ai tb (ai tc hlt))))) ?_
        exact ⟨_,le_refl _,_,rfl,rfl,by rw [hE]; simp only [List.append_assoc,List.nil_append]⟩
def c_stext:AX.AFn:=⟨9,aS [aR 2 (.mv (.c (.bool false)))] (aS [aM 3 0,aR 4 (.bin .neq (.t 3) (.c (.str []))),aM 5 4,aG 6 (.mv (.t 0)) 5 true,aG 7 (.call 127 [.t 6]) 5 true,aR 8 (.pick (.t 5) (.t 7) (.c (.bool false))),aM 2 8] (.ret)),[.t 2]⟩
theorem h_stext:AX.compFn Tryz.prog 88=some c_stext:=by kernel_rfl
theorem a_stext (s:List UInt8) (hs:s.length≤2000000) (h:Hp):ACall Tryz.prog GT 88 [.str s] h fun r h'=>r = .bool (s != []&&Str.valid s)∧h'=h:=by
 refine pcall ?_ rfl (by simp [A.pure,A.data]) h
 refine acall_of mixedT h_stext (by simp [c_stext]) ?_
 dsimp only [c_stext]
 rcases bool_or (s != []) with h1 | h1
 ·refine go0 h1 ?_
  refine gc0 h1 ?_
  refine (a_valid s hs _).mono ?_
  rintro v h1' ⟨rfl,rfl⟩
  refine go0 h1 ?_
  exact ⟨_,le_refl _,by rw [tupA_1,h1]; rfl⟩
 ·refine go0 h1 ?_
  exact ⟨_,le_refl _,by rw [tupA_1,h1]; rfl⟩
def c_encode:AX.AFn:=⟨29,aS [aR 2 (.box 27 (.t 0)),aR 4 (.mv (.c (.str []))),aR 5 (.mv (aI 0))] (.seq (aS [aR 8 (.load true 5 (.t 2)),aR 9 (.call 47 [.t 8]),aM 6 9] (aS [aM 10 6,aR 11 (.bin .neq (.t 10) (aI 0))] (.cond (.t 11) (aS [aM 12 6,aR 4 (.mv (.c (.str []))),aM 5 12] (.ret)) (.skip)))) (aS [aM 13 1,aR 14 (.build [.nilp,.sl 0 .nil [],.int .i64 0] [(2,1,.t 13)]),aR 15 (.box 151 (.t 14)),aM 7 15] (aS [aM 16 7,aR 17 (.load true 5 (.t 2)),aR 18 (.call 100 [.t 16,.t 17])] (.seq (aS [aM 19 7,aR 20 (.nilck (.t 19)),aF 21 0 20,aR 22 (.call 42 [.t 21]),aR 23 (.bin .gtr (.t 22) (aI 1048572))] (.cond (.t 23) (aS [aR 4 (.mv (.c (.str []))),aR 5 (.mv (aI 3))] (.ret)) (.skip))) (aS [aM 24 7,aR 25 (.nilck (.t 24)),aF 26 0 25,aR 27 (.call 44 [.t 26]),aR 28 (.call 33 [.t 27]),aM 4 28,aR 5 (.mv (aI 0))] (.ret)))))),[.t 4,.t 5]⟩
theorem h_encode:AX.compFn Tryz.prog 58=some c_encode:=by kernel_rfl
def c_Encode:AX.AFn:=⟨8,aS [aR 1 (.box 27 (.t 0)),aR 2 (.mv (.c (.str []))),aR 3 (.mv (aI 0))] (aS [aR 4 (.load true 5 (.t 1)),aR 5 (.call 58 [.t 4,aI 2]),aE 6 5 0,aE 7 5 1,aM 2 6,aM 3 7] (.ret)),[.t 2,.t 3]⟩
theorem h_Encode:AX.compFn Tryz.prog 29=some c_Encode:=by kernel_rfl
theorem a_csAppend (s:List UInt8) (hs:s.length≤1000000000) (h:Hp):ACall Tryz.prog GT 33 [.str s] h fun v h'=>v = .str (Crc.app s)∧h'=h:=
 acall_imp (args1 r_str) (fun w hg=>append_any ⟨s.toArray⟩ w (by rw [size_mk]; exact hs)) (fun C=>rep_str.2 rfl) h
theorem a_csVerify (s:List UInt8) (hs:s.length≤1000000000) (h:Hp):ACall Tryz.prog GT 148 [.str s] h fun v h'=>v = .tup [.str (Crc.ver s).1,.int .i64 (Crc.ver s).2]∧h'=h:=
 acall_imp (args1 r_str) (fun w hg=>verify_any ⟨s.toArray⟩ w (by rw [size_mk]; exact hs)) (fun C=>rep_tup.2 ⟨_,rfl,repL_cons.2 ⟨_,_,rfl,rep_str.2 rfl,repL_cons.2 ⟨_,_,rfl,rep_int.2 rfl,repL_nil.2 rfl⟩⟩⟩) h
def stE:A:=.agg [.str [],.int .i64 0,.sl 0 .nil [],.sl 0 .nil [],.sl 0 .nil []]
end AX
namespace Sf
def zero:St:=⟨[],0,[],[],[]⟩
def encode (ver:Int) (st:St):List UInt8×Int:=
 if checkZ st≠0 then ([],checkZ st) else if 1048572 < (stE ver st).length then ([],3) else (Crc.app (stE ver st),0)
def decode (s:List UInt8):St×Int:=
 if 1048576 < s.length then (zero,3)
 else if AX.preB s=false then (zero,2)
 else if (Crc.ver s).2≠0 then (zero,20)
 else if (AX.versionS (Crc.ver s).1).2≠0 then (zero,(AX.versionS (Crc.ver s).1).2)
 else
  let r:=stateS (AX.versionS (Crc.ver s).1).1 ⟨(Wire.numR ⟨(Crc.ver s).1.drop 4,0⟩).1,false⟩
  if r.1.fails||decide (0 < r.1.r.rest.length)||checkZ r.2 != 0 then (zero,2) else (r.2,0)
end Sf
namespace AX
def SCheck (st:Sf.St):Prop:=∀ h,ACall Tryz.prog GT 47 [st.A] h fun r h'=>r = .int .i64 (Sf.checkZ st)∧h'=h
theorem w_statei {ver:Int} (hver:ver=1∨ver=2) (st:Sf.St) (ok:Sf.StOk st) (hlen:(Sf.stE ver st).length+20≤1000000000) {h:Hp} {i:Nat} (hb:h.b[i]?=some (.cells 151 [.nilp,.sl 0 .nil [],.int .i64 ver])) :
  ACall Tryz.prog GT 100 [.ptr i 0,st.A] h fun u h'=>u = .tup []∧h'=⟨h.b.set i (wtr ver (Sf.stE ver st)),h.t⟩:=by
 refine (ACall.lift1 (w_state hver st ok hlen) rfl (by intros; rfl) ?_ hb).mono ?_
 ·rintro u b' ⟨rfl,rfl⟩
  exact ⟨rfl,wtr_loc _ _⟩
 ·rintro u h' ⟨b',⟨rfl,rfl⟩,rfl⟩
  exact ⟨rfl,rfl⟩
theorem stE_ne (ver:Int) (st:Sf.St):Sf.stE ver st≠[]:=by
 unfold Sf.stE Sf.magic
 simp
theorem a_encode {ver:Int} (hver:ver=1∨ver=2) (st:Sf.St) (hck:SCheck st) (hok:Sf.checkZ st=0→Sf.StOk st∧(Sf.stE ver st).length+20≤1000000000) (h:Hp) :
  ACall Tryz.prog GT 58 [st.A,.int .i64 ver] h fun r h'=>r = .tup [.str (Sf.encode ver st).1,.int .i64 (Sf.encode ver st).2]∧h'=h:=by
 refine pcall ?_ rfl (by simp [A.pure,A.data,Sf.St.A]) h
 refine acall_of mixedT h_encode (by simp [c_encode]) ?_
 dsimp only [c_encode]
 have hw:=fun h hb hz=>w_statei hver st (hok hz).1 (hok hz).2 (h:=h) (i:=1) hb
 have hE:Sf.encode ver st=if Sf.checkZ st≠0 then ([],Sf.checkZ st) else if 1048572 < (Sf.stE ver st).length then ([],3) else (Crc.app (Sf.stE ver st),0):=rfl
 unfold SCheck at hck
 unfold Sf.St.A at hck hw ⊢
 by_cases hz:Sf.checkZ st=0
 ·have e1:(Sf.checkZ st != 0)=false:=by simp [hz]
  rw [if_neg (by simp [hz])] at hE
  refine run0 ti ?_
  refine use (hck _) ?_
  refine run0 e1 ?_
  refine use (hw _ rfl hz) ?_
  refine run0 ti ?_
  refine use (a_wlen (i:=1) (ver:=ver) (l:=Sf.stE ver st) (.inl rfl)) ?_
  by_cases hl:((Sf.stE ver st).length:Int) > 1048572
  ·rw [if_pos (by omega)] at hE
   refine run0 hl ?_
   exact ⟨_,le_refl _,by rw [hE]; rfl⟩
  ·rw [if_neg (by omega)] at hE
   refine run0 hl ?_
   refine use (a_wstring (i:=1) (ver:=ver) (l:=Sf.stE ver st) (.inl rfl) (stE_ne _ _)) ?_
   refine run0 ti ?_
   refine use (a_csAppend _ (by omega) _) ?_
   refine run0 ti ?_
   exact ⟨_,le_refl _,by rw [hE]; rfl⟩
 ·have e1:(Sf.checkZ st != 0)=true:=by simp [hz]
  rw [if_pos hz] at hE
  refine run0 ti ?_
  refine use (hck _) ?_
  refine run0 e1 ?_
  exact ⟨_,le_refl _,by rw [hE]; rfl⟩
theorem a_Encode (st:Sf.St) (hck:SCheck st) (hok:Sf.checkZ st=0→Sf.StOk st∧(Sf.stE 2 st).length+20≤1000000000) (h:Hp) :
  ACall Tryz.prog GT 29 [st.A] h fun r h'=>r = .tup [.str (Sf.encode 2 st).1,.int .i64 (Sf.encode 2 st).2]∧h'=h:=by
 refine pcall ?_ rfl (by simp [A.pure,A.data,Sf.St.A]) h
 refine acall_of mixedT h_Encode (by simp [c_Encode]) ?_
 dsimp only [c_Encode]
 have he:=fun h=>a_encode (.inr rfl) st hck hok h
 unfold Sf.St.A at he ⊢
 refine run0 ti ?_
 refine use (he _) ?_
 refine run0 ti ?_
 exact ⟨_,le_refl _,rfl⟩
end AX
end Go.Proofs.YtahmpiioegemaaaGreatDoor

namespace Go.Proofs.YtahmpiioegemaaaGreatDoor
open Go.RowKit
open Go.Op (bytesLess)
namespace Adr
def Step.cells (s:Step):List AX.A:=[.str s.name,.int .i64 s.key.kind,.int .i64 s.key.num,.str s.key.str]
def Ad.cells (a:Ad):List AX.A:=[.sl 4 .no (a.mods.map Step.cells),.bool a.data,.str a.type,.str a.name,.int .i64 a.key.kind,.int .i64 a.key.num,.str a.key.str]
end Adr
namespace AX
def cmpZ (a b:List UInt8):Int:=if a == b then 0 else if bytesLess a b then -1 else 1
structure Leafs:Prop where
 parse:∀ (s:List UInt8),s.length≤2000000→∀ h,ACall Tryz.prog GT 133 [.str s] h fun r h'=>r = .tup [.agg (Adr.parse s).1.cells,.int .i64 (Adr.parse s).2]∧h'=h
 static:∀ (s:List UInt8),s.length≤2000000→∀ h,ACall Tryz.prog GT 165 [.str s] h fun r h'=>r = .tup [.str (Adr.static s).1,.int .i64 (Adr.static s).2]∧h'=h
 ident:∀ (s:List UInt8),s.length≤2000000→∀ h,ACall Tryz.prog GT 134 [.str s] h fun r h'=>r = .bool (Adr.ident s)∧h'=h
 num:∀ (s:List UInt8),s.length≤2000000→∀ h,ACall Tryz.prog GT 162 [.str s] h fun r h'=>r = .tup [.int .i64 (Num.parse s).1,.int .i64 (Num.parse s).2]∧h'=h
 cmp:∀ (a b:List UInt8) h,ACall Tryz.prog GT 132 [.str a,.str b] h fun r h'=>r = .int .i64 (cmpZ a b)∧h'=h
 known:∀ (v:V),v.lens→∀ h,ACall Tryz.prog GT 129 [v.A] h fun r h'=>r = .bool (Sf.known v)∧h'=h
 text:∀ (s:List UInt8),s.length≤2000000→∀ h,ACall Tryz.prog GT 88 [.str s] h fun r h'=>r = .bool (Sf.text s)∧h'=h
def c_smanaged:AX.AFn:=⟨25,aS [aR 4 (.mv (.c (.bool false)))] (aS [aM 8 0,aR 9 (.call 133 [.t 8]),aM 7 9,aE 10 7 0,aE 11 7 1,aR 5 (.alloc 193 [.sl 0 .nil [],.bool false,.str [],.str [],.int .i64 0,.int .i64 0,.str []]),aU (.store 7 (.t 5) (.t 10)),aM 6 11] (aS [aM 12 6,aR 13 (.bin .eql (.t 12) (aI 0)),aM 14 13,aG 15 (.faddr 1 (.t 5)) 14 true,aG 16 (.load false 1 (.t 15)) 14 true,aG 17 (.un .not (.t 16)) 14 true,aR 18 (.pick (.t 14) (.t 17) (.c (.bool false))),aM 19 18,aG 20 (.faddr 2 (.t 5)) 19 true,aG 21 (.load false 1 (.t 20)) 19 true,aG 22 (.mv (.t 1)) 19 true,aG 23 (.bin .eql (.t 21) (.t 22)) 19 true,aR 24 (.pick (.t 19) (.t 23) (.c (.bool false))),aM 4 24] (.ret))),[.t 4]⟩
theorem h_smanaged:AX.compFn Tryz.prog 92=some c_smanaged:=by kernel_rfl
def c_skey:AX.AFn:=⟨16,aS [aR 2 (.mv (.c (.bool false)))] (aS [aM 6 0,aR 7 (.call 162 [.t 6]),aM 5 7,aE 8 5 0,aE 9 5 1,aM 3 8,aM 4 9] (aS [aM 10 4,aR 11 (.bin .eql (.t 10) (aI 0)),aM 12 11,aG 13 (.mv (.t 3)) 12 true,aG 14 (.bin .geq (.t 13) (aI 1)) 12 true,aR 15 (.pick (.t 12) (.t 14) (.c (.bool false))),aM 2 15] (.ret))),[.t 2]⟩
theorem h_skey:AX.compFn Tryz.prog 128=some c_skey:=by kernel_rfl
def c_splaceOf:AX.AFn:=⟨8,aS [aR 1 (.box 36 (.t 0)),aR 2 (.alloc 136 [.str [],.str []])] (aS [aF 3 0 1,aL 4 3,aF 5 1 1,aL 6 5,aR 7 (.build [.str [],.str []] [(0,1,.t 4),(1,1,.t 6)]),aU (.store 2 (.t 2) (.t 7))] (.ret)),[.c 2 true 2]⟩
theorem h_splaceOf:AX.compFn Tryz.prog 90=some c_splaceOf:=by kernel_rfl
def c_sstatics:AX.AFn:=⟨40,aS [aR 2 (.mv (.c (.bool false)))] (.seq (aS [aM 7 0,aR 8 (.len false (.t 7)),aR 9 (.mv (aI 0))] (.block 0 (.loop (aS [aR 10 (.bin .lss (.t 9) (.t 8))] (.seq (.cond (.t 10) (.skip) (.exit 0)) (.seq (.block 1 (aS [aM 11 9,aR 12 (.iaddr 1 (.t 7) (.t 9)),aL 13 12,aM 3 11,aM 4 13] (aS [aM 15 4,aR 16 (.call 165 [.t 15]),aM 14 16,aE 17 14 0,aE 18 14 1,aM 5 17,aM 6 18] (aS [aM 19 6,aR 20 (.bin .neq (.t 19) (aI 0)),aM 21 20,aG 22 (.mv (.t 5)) 21 false,aG 23 (.mv (.t 4)) 21 false,aG 24 (.bin .neq (.t 22) (.t 23)) 21 false,aR 25 (.pick (.t 21) (.c (.bool true)) (.t 24)),aM 26 25,aG 27 (.mv (.t 3)) 26 false,aG 28 (.bin .gtr (.t 27) (aI 0)) 26 false,aG 29 (.mv (.t 28)) 26 false,aG 30 (.mv (.t 4)) 29 true,aG 31 (.mv (.t 0)) 29 true,aG 32 (.mv (.t 3)) 29 true,aG 33 (.bin .sub (.t 32) (aI 1)) 29 true,aG 34 (.iaddr 1 (.t 31) (.t 33)) 29 true,aG 35 (.load false 1 (.t 34)) 29 true,aG 36 (.bin .leq (.t 30) (.t 35)) 29 true,aG 37 (.pick (.t 29) (.t 36) (.c (.bool false))) 26 false,aR 38 (.pick (.t 26) (.c (.bool true)) (.t 37))] (.cond (.t 38) (aS [aR 2 (.mv (.c (.bool false)))] (.ret)) (.skip)))))) (.reg false [aR 39 (.bin .add (.t 9) (aI 1)),aM 9 39]))))))) (aS [aR 2 (.mv (.c (.bool true)))] (.ret))),[.t 2]⟩
theorem h_sstatics:AX.compFn Tryz.prog 130=some c_sstatics:=by kernel_rfl
def c_soutput:AX.AFn:=⟨18,aS [aR 1 (.box 95 (.t 0)),aR 2 (.mv (aI 0))] (.seq (aS [aF 4 0 1,aL 5 4,aR 6 (.call 134 [.t 5]),aR 7 (.un .not (.t 6))] (.cond (.t 7) (aS [aR 2 (.mv (aI 7))] (.ret)) (.skip))) (.seq (aS [aF 8 1 1,aR 9 (.load true 5 (.t 8)),aR 10 (.call 97 [.t 9]),aM 3 10] (aS [aM 11 3,aR 12 (.bin .neq (.t 11) (aI 0))] (.cond (.t 12) (aS [aM 13 3,aM 2 13] (.ret)) (.skip)))) (.seq (aS [aF 14 1 1,aR 15 (.load true 5 (.t 14)),aR 16 (.call 129 [.t 15]),aR 17 (.un .not (.t 16))] (.cond (.t 17) (aS [aR 2 (.mv (aI 11))] (.ret)) (.skip))) (aS [aR 2 (.mv (aI 0))] (.ret))))),[.t 2]⟩
theorem h_soutput:AX.compFn Tryz.prog 93=some c_soutput:=by kernel_rfl
def c_sinstance:AX.AFn:=⟨53,aS [aR 1 (.box 36 (.t 0)),aR 2 (.mv (aI 0))] (.seq (aS [aF 4 0 1,aL 5 4,aF 6 3 1,aL 7 6,aR 8 (.call 92 [.t 5,.t 7]),aR 9 (.un .not (.t 8)),aM 10 9,aG 11 (.faddr 1 (.t 1)) 10 false,aG 12 (.load false 1 (.t 11)) 10 false,aG 13 (.bin .neq (.t 12) (.c (.str []))) 10 false,aG 14 (.mv (.t 13)) 10 false,aG 15 (.faddr 1 (.t 1)) 14 true,aG 16 (.load false 1 (.t 15)) 14 true,aG 17 (.call 128 [.t 16]) 14 true,aG 18 (.un .not (.t 17)) 14 true,aG 19 (.pick (.t 14) (.t 18) (.c (.bool false))) 10 false,aR 20 (.pick (.t 10) (.c (.bool true)) (.t 19)),aM 21 20,aG 22 (.faddr 2 (.t 1)) 21 false,aG 23 (.load false 1 (.t 22)) 21 false,aG 24 (.call 88 [.t 23]) 21 false,aG 25 (.un .not (.t 24)) 21 false,aR 26 (.pick (.t 21) (.c (.bool true)) (.t 25))] (.cond (.t 26) (aS [aR 2 (.mv (aI 1))] (.ret)) (.skip))) (.seq (aS [aF 27 4 1,aR 28 (.load true 5 (.t 27)),aR 29 (.call 97 [.t 28]),aM 3 29] (aS [aM 30 3,aR 31 (.bin .neq (.t 30) (aI 0))] (.cond (.t 31) (aS [aM 32 3,aM 2 32] (.ret)) (.skip)))) (.seq (aS [aF 33 4 1,aF 34 0 33,aL 35 34,aR 36 (.bin .neq (.t 35) (aI 5))] (.cond (.t 36) (aS [aR 2 (.mv (aI 6))] (.ret)) (.skip))) (.seq (aS [aF 37 4 1,aR 38 (.load true 5 (.t 37)),aR 39 (.call 129 [.t 38]),aR 40 (.un .not (.t 39))] (.cond (.t 40) (aS [aR 2 (.mv (aI 11))] (.ret)) (.skip))) (.seq (aS [aF 41 9 1,aL 42 41,aR 43 (.bin .lss (.t 42) (aI 1)),aM 44 43,aG 45 (.faddr 9 (.t 1)) 44 false,aG 46 (.load false 1 (.t 45)) 44 false,aG 47 (.bin .gtr (.t 46) (aI 9007199254740992)) 44 false,aR 48 (.pick (.t 44) (.c (.bool true)) (.t 47))] (.cond (.t 48) (aS [aR 2 (.mv (aI 5))] (.ret)) (.skip))) (.seq (aS [aF 49 12 1,aL 50 49,aR 51 (.call 130 [.t 50]),aR 52 (.un .not (.t 51))] (.cond (.t 52) (aS [aR 2 (.mv (aI 1))] (.ret)) (.skip))) (aS [aR 2 (.mv (aI 0))] (.ret)))))))),[.t 2]⟩
theorem h_sinstance:AX.compFn Tryz.prog 89=some c_sinstance:=by kernel_rfl
theorem a_managed (L:Leafs) (s t:List UInt8) (hs:s.length≤2000000) (h:Hp):ACall Tryz.prog GT 92 [.str s,.str t] h fun r h'=>r = .bool (Sf.managed s t)∧h'=h:=by
 refine pcall ?_ rfl (by simp [A.pure,A.data]) h
 refine acall_of mixedT h_smanaged (by simp [c_smanaged]) ?_
 dsimp only [c_smanaged]
 have hp:=fun h=>L.parse s hs h
 unfold Sf.managed
 obtain ⟨⟨⟨mods,data,ty,nm,⟨kk,kn,ks⟩⟩,e⟩,he⟩:∃ x,Adr.parse s=x:=⟨_,rfl⟩
 rw [he] at hp ⊢
 simp only [Adr.Ad.cells] at hp
 refine run0 ti ?_
 refine use (hp _) ?_
 dsimp only
 rcases bool_or (e == 0) with e0 | e0
 ·rw [e0]
  (refine AX.run0 e0 ?_)
  first
  | exact ⟨_, le_refl _, rfl⟩
  | (cases data
     · (refine AX.run0 AX.ti ?_)
       exact ⟨_, le_refl _, rfl⟩
     · (refine AX.run0 AX.ti ?_)
       exact ⟨_, le_refl _, rfl⟩)
 ·rw [e0]
  (refine AX.run0 e0 ?_)
  first
  | exact ⟨_, le_refl _, rfl⟩
  | (cases data
     · (refine AX.run0 AX.ti ?_)
       exact ⟨_, le_refl _, rfl⟩
     · (refine AX.run0 AX.ti ?_)
       exact ⟨_, le_refl _, rfl⟩)
theorem a_key (L:Leafs) (s:List UInt8) (hs:s.length≤2000000) (h:Hp):ACall Tryz.prog GT 128 [.str s] h fun r h'=>r = .bool ((Num.parse s).2 == 0&&decide (1≤(Num.parse s).1))∧h'=h:=by
 refine pcall ?_ rfl (by simp [A.pure,A.data]) h
 refine acall_of mixedT h_skey (by simp [c_skey]) ?_
 dsimp only [c_skey]
 have hp:=fun h=>L.num s hs h
 obtain ⟨⟨n,e⟩,he⟩:∃ x,Num.parse s=x:=⟨_,rfl⟩
 rw [he] at hp ⊢
 dsimp only at hp ⊢
 refine run0 ti ?_
 refine use (hp _) ?_
 rcases bool_or (e == 0) with e0 | e0
 ·rw [e0]
  refine run0 e0 ?_
  exact ⟨_,le_refl _,rfl⟩
 ·rw [e0]
  refine run0 e0 ?_
  exact ⟨_,le_refl _,rfl⟩
theorem a_placeOf (x:Sf.Inst) (h:Hp):ACall Tryz.prog GT 90 [.agg x.cells] h fun r h'=>r = .agg [.str x.addr,.str x.dep]∧h'=h:=by
 obtain ⟨a,d,id,ty,⟨k,n,w,vi,vy⟩,v,tn,fi,ds⟩:=x
 refine pcall ?_ rfl (by simp [A.pure,A.data,Sf.Inst.cells]) h
 refine acall_of mixedT h_splaceOf (by simp [c_splaceOf]) ?_
 dsimp only [c_splaceOf,Sf.Inst.cells]
 refine run0 ti ?_
 exact ⟨_,le_refl _,rfl⟩
theorem a_output (L:Leafs) (o:Sf.Outp) (hs:o.name.length≤2000000) (hl:o.value.lens) (h:Hp):ACall Tryz.prog GT 93 [.agg o.cells] h fun r h'=>r = .int .i64 (Sf.outZ o)∧h'=h:=by
 have hi:=fun h=>L.ident o.name hs h
 have hk:=fun h=>L.known o.value hl h
 have hc:=fun h=>a_vCheck o.value hl h
 obtain ⟨Z,hZ⟩:∃ Z,Sf.outZ o=Z:=⟨_,rfl⟩
 rw [hZ]
 unfold Sf.outZ at hZ
 obtain ⟨m,⟨k,n,w,vi,vy⟩,b⟩:=o
 dsimp only at hi hk hc hZ
 have hVA:(V.mk k n w vi vy).A = .agg [.int .i64 k,.int .i64 n,.str w,.sl 5 .no (V.cellss vi),.sl 1 .no (strsA vy)]:=by simp only [V.A,V.cells]
 rw [hVA] at hk hc
 refine pcall ?_ rfl (by simp [A.pure,A.data,Sf.Outp.cells]) h
 refine acall_of mixedT h_soutput (by simp [c_soutput]) ?_
 dsimp only [c_soutput,Sf.Outp.cells]
 refine run0 ti ?_
 refine use (hi _) ?_
 cases hI:Adr.ident m
 ·rw [hI,if_pos (by decide)] at hZ
  refine run0 ti ?_
  exact ⟨_,le_refl _,by rw [←hZ]; rfl⟩
 rw [hI,if_neg (by decide)] at hZ
 refine run0 ti ?_
 refine use (hc _) ?_
 by_cases hz:Val.checkZ (.mk k n w vi vy)=0
 rotate_left
 ·have e1:(Val.checkZ (.mk k n w vi vy) != 0)=true:=by simp [hz]
  rw [if_pos hz] at hZ
  refine run0 e1 ?_
  exact ⟨_,le_refl _,by rw [←hZ]; rfl⟩
 have e1:(Val.checkZ (.mk k n w vi vy) != 0)=false:=by simp [hz]
 rw [if_neg (by simp [hz])] at hZ
 refine run0 e1 ?_
 refine use (hk _) ?_
 cases hK:Sf.known (.mk k n w vi vy)
 ·rw [hK,if_pos (by decide)] at hZ
  refine run0 ti ?_
  exact ⟨_,le_refl _,by rw [←hZ]; rfl⟩
 ·rw [hK,if_neg (by decide)] at hZ
  refine run0 ti ?_
  exact ⟨_,le_refl _,by rw [←hZ]; rfl⟩
theorem a_statics (L:Leafs) (ds:List (List UInt8)) (hn:ds.length≤1000000000) (hs:∀ s∈ds,s.length≤2000000) (h:Hp):ACall Tryz.prog GT 130 [.sl 1 .no (strsA ds)] h fun r h'=>r = .bool (Sf.depsB none ds)∧h'=h:=by
 refine pcall ?_ rfl (by simp [A.pure,A.data]) h
 refine acall_of mixedT h_sstatics (by simp [c_sstatics]) ?_
 dsimp only [c_sstatics]
 obtain ⟨D,hD⟩:∃ D,Sf.depsB none ds=D:=⟨_,rfl⟩
 rw [hD]
 have lm:(strsA ds).length=ds.length:=strsA_length ds
 refine run0 lm ?_
 refine awp_loop (fun mm ts h=>∃ (j:Nat),mm=ds.length - j∧j≤ds.length∧h=⟨[],[]⟩∧Sf.depsB (if j=0 then none else ds[j - 1]?) (ds.drop j)=D∧ts 0 = .sl 1 .no (strsA ds)∧ts 7 = .sl 1 .no (strsA ds)∧ts 8 = .int .i64 (ds.length:Nat)∧ts 9 = .int .i64 (j:Nat)) ds.length ?_ ?_
 ·exact ⟨0,by omega,by omega,rfl,hD,by (exact ev0 ti),by (exact ev0 ti),by (exact ev0 lm),by (exact inv0 ti)⟩
 rintro mm ts h ⟨j,rfl,hjc,rfl,hit,t0,ta,tb,tc⟩
 by_cases hj:j < ds.length
 ·have hlt:(j:Int) < (ds.length:Int):=by omega
  have hlt':(j:Int) < ((strsA ds).length:Int):=by rw [strsA_length]; exact hlt
  have hj0:(0:Int)≤(j:Int):=by omega
  have ei:IntKind.i64.wrap ((j:Int)+1)=((j+1:Nat):Int):=by rw [wrap64 (by omega) (by omega)]; omega
  have hg:=strsA_get ds j hj
  have hst:=fun h=>L.static ds[j] (hs _ (List.getElem_mem hj)) h
  rw [List.drop_eq_getElem_cons hj] at hit
  unfold Sf.depsB at hit
  have hsB:Sf.staticB ds[j]=((Adr.static ds[j]).2 == 0&&(Adr.static ds[j]).1 == ds[j]):=rfl
  obtain ⟨⟨w,e⟩,hw⟩:∃ q,Adr.static ds[j]=q:=⟨_,rfl⟩
  rw [hw] at hst hsB
  dsimp only at hst hsB
  rw [hsB] at hit
  refine run0 (ai t0 (ai ta (ai tb (ai tc (ai hlt (ai hg (ai hlt' hj0))))))) ?_
  refine use (hst _) ?_
  by_cases he:e=0
  rotate_left
  ·have e1:(e != 0)=true:=by simp [he]
   have e2:(e == 0)=false:=by simp [he]
   rw [e2,Bool.false_and,Bool.false_and,Bool.false_and] at hit
   subst hit
   refine run0 (ai t0 (ai ta (ai tb (ai tc e1)))) ?_
   exact ⟨_,le_refl _,rfl⟩
  have e1:(e != 0)=false:=by simp [he]
  have e2:(e == 0)=true:=by simp [he]
  rw [e2,Bool.true_and] at hit
  by_cases hw2:w=ds[j]
  rotate_left
  ·have w1:(w != ds[j])=true:=by simp [hw2]
   have w2:(w == ds[j])=false:=by simp [hw2]
   rw [w2,Bool.false_and,Bool.false_and] at hit
   subst hit
   refine run0 (ai t0 (ai ta (ai tb (ai tc (ai e1 w1))))) ?_
   exact ⟨_,le_refl _,rfl⟩
  have w1:(w != ds[j])=false:=by simp [hw2]
  have w2:(w == ds[j])=true:=by simp [hw2]
  rw [w2,Bool.true_and] at hit
  cases j with
  | zero =>
   have h0:¬ ((0:Nat):Int) > 0:=by omega
   simp only [if_true,Val.badB,Bool.not_false,Bool.true_and] at hit
   refine run0 (ai t0 (ai ta (ai tb (ai tc (ai e1 (ai w1 (ai h0 ei))))))) ?_
   exact ⟨ds.length - 1,by omega,1,rfl,by omega,rfl,by rw [←hit]; simp [hj],by (exact ev0 t0),by (exact ev0 ta),by (exact ev0 tb),by (exact ev0 ei)⟩
  | succ i =>
   have h0:((i+1:Nat):Int) > 0:=by omega
   have ej:IntKind.i64.wrap (((i+1:Nat):Int) - 1)=(i:Int):=by rw [wrap64 (by omega) (by omega)]; omega
   have hg2:=strsA_get ds i (by omega)
   have hi':(i:Int) < ((strsA ds).length:Int):=by omega
   have hi0:(0:Int)≤(i:Int):=by omega
   have hki:ds[i+1 - 1]?=some (ds[i]'(by omega)):=List.getElem?_eq_getElem (by omega)
   rw [if_neg (by omega),hki] at hit
   simp only [Val.badB] at hit
   rw [Val.less_total] at hit
   rcases bool_or (bytesLess ds[i+1] ds[i]||ds[i+1] == ds[i]) with hb | hb
   ·rw [hb] at hit
    refine run0 (ai t0 (ai ta (ai tb (ai tc (ai e1 (ai w1 (ai h0 (ai ej (ai hg2 (ai hi' (ai hi0 (ai hb ei)))))))))))) ?_
    first
    | (subst hit; exact ⟨_,le_refl _,rfl⟩)
    | exact ⟨ds.length - (i+1+1),by omega,i+1+1,rfl,by omega,rfl,by rw [←hit]; simp [hj],by (exact ev0 t0),by (exact ev0 ta),by (exact ev0 tb),by (exact ev0 ei)⟩
   ·rw [hb] at hit
    refine run0 (ai t0 (ai ta (ai tb (ai tc (ai e1 (ai w1 (ai h0 (ai ej (ai hg2 (ai hi' (ai hi0 (ai hb ei)))))))))))) ?_
    first
    | (subst hit; exact ⟨_,le_refl _,rfl⟩)
    | exact ⟨ds.length - (i+1+1),by omega,i+1+1,rfl,by omega,rfl,by rw [←hit]; simp [hj],by (exact ev0 t0),by (exact ev0 ta),by (exact ev0 tb),by (exact ev0 ei)⟩
 ·have hlt:¬ ((j:Int) < (ds.length:Int)):=by omega
  rw [List.drop_eq_nil_of_le (by omega)] at hit
  unfold Sf.depsB at hit
  subst hit
  refine run0 (ai t0 (ai ta (ai tb (ai tc hlt)))) ?_
  exact ⟨_,le_refl _,rfl⟩
structure Sf.InstIn (x:Sf.Inst):Prop where
 a:x.addr.length≤2000000
 d:x.dep.length≤2000000
 i:x.id.length≤2000000
 l:x.attrs.lens
 n:x.deps.length≤1000000000
 ds:∀ s∈x.deps,s.length≤2000000
theorem a_instance (L:Leafs) (x:Sf.Inst) (hx:Sf.InstIn x) (h:Hp):ACall Tryz.prog GT 89 [.agg x.cells] h fun r h'=>r = .int .i64 (Sf.instZ x)∧h'=h:=by
 have cm:=fun h=>a_managed L x.addr x.typ hx.a h
 have ck:=fun h=>a_key L x.dep hx.d h
 have ct:=fun h=>L.text x.id hx.i h
 have cv:=fun h=>a_vCheck x.attrs hx.l h
 have cn:=fun h=>L.known x.attrs hx.l h
 have cs:=fun h=>a_statics L x.deps hx.n hx.ds h
 obtain ⟨Z,hZ⟩:∃ Z,Sf.instZ x=Z:=⟨_,rfl⟩
 rw [hZ]
 unfold Sf.instZ Sf.keyB at hZ
 obtain ⟨a,d,id,ty,⟨k,n,w,vi,vy⟩,v,tn,fi,ds⟩:=x
 clear hx
 dsimp only at cm ck ct cv cn cs hZ
 have hVA:(V.mk k n w vi vy).A = .agg [.int .i64 k,.int .i64 n,.str w,.sl 5 .no (V.cellss vi),.sl 1 .no (strsA vy)]:=by simp only [V.A,V.cells]
 rw [hVA] at cv cn
 obtain ⟨M,hM⟩:∃ M,Sf.managed a ty=M:=⟨_,rfl⟩
 obtain ⟨K,hK⟩:∃ K,((Num.parse d).2 == 0&&decide (1≤(Num.parse d).1))=K:=⟨_,rfl⟩
 obtain ⟨T,hT⟩:∃ T,Sf.text id=T:=⟨_,rfl⟩
 obtain ⟨C,hC⟩:∃ C,Val.checkZ (.mk k n w vi vy)=C:=⟨_,rfl⟩
 obtain ⟨N,hN⟩:∃ N,Sf.known (.mk k n w vi vy)=N:=⟨_,rfl⟩
 obtain ⟨S,hS⟩:∃ S,Sf.depsB none ds=S:=⟨_,rfl⟩
 have hkd:Sf.V.kind (.mk k n w vi vy)=k:=rfl
 rw [hM] at cm hZ
 rw [hK] at ck hZ
 rw [hT] at ct hZ
 rw [hC] at cv hZ
 rw [hN] at cn hZ
 rw [hS] at cs hZ
 rw [hkd] at hZ
 refine pcall ?_ rfl (by simp [A.pure,A.data,Sf.Inst.cells]) h
 refine acall_of mixedT h_sinstance (by simp [c_sinstance]) ?_
 dsimp only [c_sinstance,Sf.Inst.cells]
 refine run0 ti ?_
 refine use (cm _) ?_
 cases M
 ·rw [if_pos (by simp)] at hZ
  subst hZ
  refine run0 ti ?_
  exact ⟨_,le_refl _,rfl⟩
 have key:∀ {G:Prop},((d != [])=false→(d == [])=true→G)→((d != [])=true→(d == [])=false→G)→G:=fun p q=>by
  by_cases e:d=[]
  ·exact p (by simp [e]) (by simp [e])
  ·exact q (by simp [e]) (by simp [e])
 have rest:True:=ti
 refine key (fun d1 d2=>?_) (fun d1 d2=>?_)
 all_goals rw [d2] at hZ
 ·refine run0 d1 ?_
  refine use (ct _) ?_
  cases T
  ·rw [if_pos (by simp)] at hZ
   subst hZ
   refine run0 ti ?_
   exact ⟨_,le_refl _,rfl⟩
  rw [if_neg (by simp)] at hZ
  refine run0 ti ?_
  refine use (cv _) ?_
  by_cases hz:C=0
  rotate_left
  ·have e1:(C != 0)=true:=by simp [hz]
   rw [if_pos hz] at hZ
   refine run0 e1 ?_
   exact ⟨_,le_refl _,by rw [←hZ]; rfl⟩
  have e1:(C != 0)=false:=by simp [hz]
  rw [if_neg (by simp [hz])] at hZ
  by_cases hk5:k=5
  rotate_left
  ·have e2:(k != 5)=true:=by simp [hk5]
   rw [if_pos hk5] at hZ
   refine run0 (ai e1 e2) ?_
   exact ⟨_,le_refl _,by rw [←hZ]; rfl⟩
  have e2:(k != 5)=false:=by simp [hk5]
  rw [if_neg (by simp [hk5])] at hZ
  refine run0 (ai e1 e2) ?_
  refine use (cn _) ?_
  cases N
  ·rw [if_pos (by simp)] at hZ
   refine run0 ti ?_
   exact ⟨_,le_refl _,by rw [←hZ]; rfl⟩
  rw [if_neg (by simp)] at hZ
  by_cases v0:v < 1
  ·rw [if_pos (.inl v0)] at hZ
   refine run0 v0 ?_
   exact ⟨_,le_refl _,by rw [←hZ]; rfl⟩
  by_cases v1:v > 9007199254740992
  ·rw [if_pos (.inr v1)] at hZ
   refine run0 (ai v0 v1) ?_
   exact ⟨_,le_refl _,by rw [←hZ]; rfl⟩
  rw [if_neg (by omega)] at hZ
  refine run0 (ai v0 v1) ?_
  refine use (cs _) ?_
  cases S
  ·rw [if_pos (by simp)] at hZ
   refine run0 ti ?_
   exact ⟨_,le_refl _,by rw [←hZ]; rfl⟩
  ·rw [if_neg (by simp)] at hZ
   refine run0 ti ?_
   exact ⟨_,le_refl _,by rw [←hZ]; rfl⟩
 ·refine run0 d1 ?_
  refine use (ck _) ?_
  cases K
  ·rw [if_pos (by simp)] at hZ
   subst hZ
   refine run0 ti ?_
   exact ⟨_,le_refl _,rfl⟩
  refine run0 ti ?_
  refine use (ct _) ?_
  cases T
  ·rw [if_pos (by simp)] at hZ
   subst hZ
   refine run0 ti ?_
   exact ⟨_,le_refl _,rfl⟩
  rw [if_neg (by simp)] at hZ
  refine run0 ti ?_
  refine use (cv _) ?_
  by_cases hz:C=0
  rotate_left
  ·have e1:(C != 0)=true:=by simp [hz]
   rw [if_pos hz] at hZ
   refine run0 e1 ?_
   exact ⟨_,le_refl _,by rw [←hZ]; rfl⟩
  have e1:(C != 0)=false:=by simp [hz]
  rw [if_neg (by simp [hz])] at hZ
  by_cases hk5:k=5
  rotate_left
  ·have e2:(k != 5)=true:=by simp [hk5]
   rw [if_pos hk5] at hZ
   refine run0 (ai e1 e2) ?_
   exact ⟨_,le_refl _,by rw [←hZ]; rfl⟩
  have e2:(k != 5)=false:=by simp [hk5]
  rw [if_neg (by simp [hk5])] at hZ
  refine run0 (ai e1 e2) ?_
  refine use (cn _) ?_
  cases N
  ·rw [if_pos (by simp)] at hZ
   refine run0 ti ?_
   exact ⟨_,le_refl _,by rw [←hZ]; rfl⟩
  rw [if_neg (by simp)] at hZ
  by_cases v0:v < 1
  ·rw [if_pos (.inl v0)] at hZ
   refine run0 v0 ?_
   exact ⟨_,le_refl _,by rw [←hZ]; rfl⟩
  by_cases v1:v > 9007199254740992
  ·rw [if_pos (.inr v1)] at hZ
   refine run0 (ai v0 v1) ?_
   exact ⟨_,le_refl _,by rw [←hZ]; rfl⟩
  rw [if_neg (by omega)] at hZ
  refine run0 (ai v0 v1) ?_
  refine use (cs _) ?_
  cases S
  ·rw [if_pos (by simp)] at hZ
   refine run0 ti ?_
   exact ⟨_,le_refl _,by rw [←hZ]; rfl⟩
  ·rw [if_neg (by simp)] at hZ
   refine run0 ti ?_
   exact ⟨_,le_refl _,by rw [←hZ]; rfl⟩
end AX
namespace Adr
theorem indexAny_word:∀ s:List UInt8,(Lib.indexAny s [46,91]=-1∧s.takeWhile (fun c=>!stopB c)=s∧s.dropWhile (fun c=>!stopB c)=[]) ∨
  ∃ n:Nat,Lib.indexAny s [46,91]=n∧n≤s.length∧s.takeWhile (fun c=>!stopB c)=s.take n∧s.dropWhile (fun c=>!stopB c)=s.drop n
 | [] => .inl ⟨rfl,rfl,rfl⟩
 | c::s=>by
  have hc:([46,91]:List UInt8).contains c=stopB c:=by
   unfold stopB
   simp
   rfl
  unfold Lib.indexAny
  rw [hc]
  cases h:stopB c
  ·rcases indexAny_word s with ⟨h1,h2,h3⟩ | ⟨n,h1,h2,h3,h4⟩
   ·refine .inl ⟨by rw [h1]; rfl,?_,?_⟩
    ·rw [List.takeWhile_cons_of_pos (by simp [h]),h2]
    ·rw [List.dropWhile_cons_of_pos (by simp [h]),h3]
   ·refine .inr ⟨n+1,?_,by simpa using h2,?_,?_⟩
    ·rw [h1]
     have e:((n:Int) == -1)=false:=by simp <;> omega
     simp only [Bool.false_eq_true,if_false,e]
     omega
    ·rw [List.takeWhile_cons_of_pos (by simp [h]),h3,List.take_succ_cons]
    ·rw [List.dropWhile_cons_of_pos (by simp [h]),h4,List.drop_succ_cons]
  ·refine .inr ⟨0,rfl,Nat.zero_le _,?_,?_⟩
   ·rw [List.takeWhile_cons_of_neg (by simp [h])]; rfl
   ·rw [List.dropWhile_cons_of_neg (by simp [h])]; rfl
theorem indexByte_key:∀ s:List UInt8,(s.all (· != 93)=true∧Lib.indexByte s 93=-1)∨(s.all (· != 93)=false∧Lib.indexByte s 93=((s.takeWhile (· != 93)).length:Nat)∧(s.takeWhile (· != 93)).length≤s.length)
 | [] => .inl ⟨rfl,rfl⟩
 | c::s=>by
  unfold Lib.indexByte
  by_cases h:c=93
  ·subst h
   refine .inr ⟨by simp,?_,Nat.le_of_lt_succ (by simp)⟩
   simp
  ·have hb:(c == 93)=false:=by simp [h]
   have hn:(c != 93)=true:=by simp [h]
   rcases indexByte_key s with ⟨h1,h2⟩ | ⟨h1,h2,h3⟩
   ·refine .inl ⟨by rw [List.all_cons,hn,h1]; rfl,?_⟩
    simp [hb,h,h2]
   ·refine .inr ⟨by rw [List.all_cons,h1,Bool.and_false],?_,?_⟩
    ·simp only [List.takeWhile_cons,hn,if_true,List.length_cons,hb,Bool.false_eq_true,if_false,h2]
     have e:(((s.takeWhile (· != 93)).length:Nat):Int) == -1↔False:=by simp <;> omega
     rw [if_neg (by rw [e]; exact id)]
     omega
    ·simp only [List.takeWhile_cons,hn,if_true,List.length_cons]
     omega
theorem cmp_bytes:∀ a b:List UInt8,Lib.compareBytes a b=AX.cmpZ a b
 | [],[]=>rfl
 | [],_::_=>rfl
 | _::_,[]=>rfl
 | a::a1,b::b1=>by
  have ih:=cmp_bytes a1 b1
  unfold AX.cmpZ at ih ⊢
  unfold Lib.compareBytes bytesLess
  by_cases h1:a < b
  ·have hne:a≠b:=by intro e; subst e; exact absurd h1 (by simp)
   simp [h1,hne]
  ·by_cases h2:b < a
   ·have hne:a≠b:=by intro e; subst e; exact absurd h2 (by simp)
    simp [h1,h2,hne]
   ·have he:a=b:=by
     have h3:¬ a.toNat < b.toNat:=h1
     have h4:¬ b.toNat < a.toNat:=h2
     exact UInt8.toNat_inj.1 (by omega)
    subst he
    rw [if_neg h1,if_neg h2,ih]
    simp
end Adr
namespace AX
def c_akind:AX.AFn:=⟨18,aS [aR 2 (.mv (.c (.bool false)))] (.seq (aS [aM 3 0] (.block 0 (.seq (aS [aR 5 (.bin .eql (.t 3) (.c (.str [109,111,100,117,108,101]))),aM 4 5] (.cond (.t 4) (.skip) (aS [aR 6 (.bin .eql (.t 3) (.c (.str [100,97,116,97]))),aM 4 6] (.cond (.t 4) (.skip) (aS [aR 7 (.bin .eql (.t 3) (.c (.str [118,97,114]))),aM 4 7] (.cond (.t 4) (.skip) (aS [aR 8 (.bin .eql (.t 3) (.c (.str [108,111,99,97,108]))),aM 4 8] (.cond (.t 4) (.skip) (aS [aR 9 (.bin .eql (.t 3) (.c (.str [101,97,99,104]))),aM 4 9] (.cond (.t 4) (.skip) (aS [aR 10 (.bin .eql (.t 3) (.c (.str [99,111,117,110,116]))),aM 4 10] (.cond (.t 4) (.skip) (aS [aR 11 (.bin .eql (.t 3) (.c (.str [114,101,109,111,116,101]))),aM 4 11] (.cond (.t 4) (.skip) (aS [aR 12 (.bin .eql (.t 3) (.c (.str [111,117,116,112,117,116]))),aM 4 12] (.cond (.t 4) (.skip) (aS [aR 13 (.bin .eql (.t 3) (.c (.str [112,97,116,104]))),aM 4 13] (.cond (.t 4) (.skip) (aS [aR 14 (.bin .eql (.t 3) (.c (.str [115,101,108,102]))),aM 4 14] (.cond (.t 4) (.skip) (.reg false [aR 15 (.bin .eql (.t 3) (.c (.str [99,104,97,110,103,101]))),aM 4 15]))))))))))))))))))))) (.cond (.t 4) (aS [aR 2 (.mv (.c (.bool false)))] (.ret)) (.skip))))) (aS [aM 16 0,aR 17 (.call 134 [.t 16]),aM 2 17] (.ret))),[.t 2]⟩
theorem h_akind:AX.compFn Tryz.prog 172=some c_akind:=by kernel_rfl
def c_aword:AX.AFn:=⟨45,aS [aR 2 (.mv (.c (.str [])))] (aS [aM 5 0,aR 6 (.nilck (.t 5)),aF 7 0 6,aL 8 7,aR 9 (.call 197 [.t 8,.c (.str [46,91])]),aM 3 9] (.seq (aS [aM 10 3,aR 11 (.bin .lss (.t 10) (aI 0))] (.cond (.t 11) (.reg false [aM 12 0,aR 13 (.nilck (.t 12)),aF 14 0 13,aL 15 14,aR 16 (.len true (.t 15)),aM 3 16]) (.skip))) (aS [aM 17 0,aR 18 (.nilck (.t 17)),aF 19 0 18,aL 20 19,aM 21 3,aR 22 (.ssl (.t 20) none (some (.t 21))),aM 4 22] (aS [aM 23 0,aM 24 0,aR 25 (.nilck (.t 24)),aF 26 0 25,aL 27 26,aM 28 3,aR 29 (.ssl (.t 27) (some (.t 28)) none),aR 30 (.nilck (.t 23)),aF 31 0 30,aU (.store 1 (.t 31) (.t 29))] (aS [aM 32 0,aM 33 0,aR 34 (.nilck (.t 33)),aF 35 1 34,aL 36 35,aM 37 36,aG 38 (.mv (.t 4)) 37 false,aG 39 (.call 134 [.t 38]) 37 false,aG 40 (.un .not (.t 39)) 37 false,aR 41 (.pick (.t 37) (.c (.bool true)) (.t 40)),aR 42 (.nilck (.t 32)),aF 43 1 42,aU (.store 1 (.t 43) (.t 41))] (aS [aM 44 4,aM 2 44] (.ret))))))),[.t 2]⟩
theorem h_aword:AX.compFn Tryz.prog 170=some c_aword:=by kernel_rfl
def c_avalid:AX.AFn:=⟨35,aS [aR 1 (.box 191 (.t 0)),aR 2 (.mv (.c (.bool false)))] (.seq (aS [aF 3 0 1,aL 4 3] (.block 0 (aS [aR 6 (.bin .eql (.t 4) (aI 0)),aM 5 6] (.cond (.t 5) (aS [aR 7 (.load true 3 (.t 1)),aR 8 (.build [.int .i64 0,.int .i64 0,.str []] []),aR 9 (.eq 2 [0,0,1] false (.t 7) (.t 8)),aM 2 9] (.ret)) (aS [aR 11 (.bin .eql (.t 4) (aI 1)),aM 10 11] (.cond (.t 10) (aS [aF 12 1 1,aL 13 12,aR 14 (.bin .geq (.t 13) (aI 0)),aM 15 14,aG 16 (.faddr 1 (.t 1)) 15 true,aG 17 (.load false 1 (.t 16)) 15 true,aG 18 (.bin .leq (.t 17) (aI 9007199254740992)) 15 true,aR 19 (.pick (.t 15) (.t 18) (.c (.bool false))),aM 20 19,aG 21 (.faddr 2 (.t 1)) 20 true,aG 22 (.load false 1 (.t 21)) 20 true,aG 23 (.bin .eql (.t 22) (.c (.str []))) 20 true,aR 24 (.pick (.t 20) (.t 23) (.c (.bool false))),aM 2 24] (.ret)) (aS [aR 26 (.bin .eql (.t 4) (aI 2)),aM 25 26] (.cond (.t 25) (aS [aF 27 1 1,aL 28 27,aR 29 (.bin .eql (.t 28) (aI 0)),aM 30 29,aG 31 (.faddr 2 (.t 1)) 30 true,aG 32 (.load false 1 (.t 31)) 30 true,aG 33 (.call 127 [.t 32]) 30 true,aR 34 (.pick (.t 30) (.t 33) (.c (.bool false))),aM 2 34] (.ret)) (.skip))))))))) (aS [aR 2 (.mv (.c (.bool false)))] (.ret))),[.t 2]⟩
theorem h_avalid:AX.compFn Tryz.prog 237=some c_avalid:=by kernel_rfl
theorem a_cmp (a b:List UInt8) (h:Hp):ACall Tryz.prog GT 132 [.str a,.str b] h fun r h'=>r = .int .i64 (cmpZ a b)∧h'=h:=by
 rw [←Adr.cmp_bytes]
 exact acall_imp (args2 r_str r_str) (fun w hg=>(Tryz.strings_Compare ⟨a.toArray⟩ ⟨b.toArray⟩ w).mono fun e w' ⟨h1,h2⟩=>⟨h1,by rw [h2]; exact Below.refl _ _⟩) (fun C=>rep_int.2 rfl) h
theorem a_indexAny (s:List UInt8) (hs:s.length≤2000000) (h:Hp):ACall Tryz.prog GT 197 [.str s,.str [46,91]] h fun r h'=>r = .int .i64 (Lib.indexAny s [46,91])∧h'=h:=
 acall_imp (args2 r_str r_str) (fun w hg=>indexAny_any ⟨s.toArray⟩ (by rw [size_mk]; omega) w) (fun C=>rep_int.2 rfl) h
theorem a_indexByte (s:List UInt8) (h:Hp):ACall Tryz.prog GT 200 [.str s,.int .u8 93] h fun r h'=>r = .int .i64 (Lib.indexByte s 93)∧h'=h:=
 acall_imp (args2 r_str r_int) (fun w hg=>(Tryz.strings_IndexByte ⟨s.toArray⟩ 93 w).mono fun e w' ⟨h1,h2⟩=>⟨h1,by rw [h2]; exact Below.refl _ _⟩) (fun C=>rep_int.2 rfl) h
theorem a_kind (s:List UInt8) (hs:s.length≤2000000) (h:Hp):ACall Tryz.prog GT 172 [.str s] h fun r h'=>r = .bool (Adr.kindB s)∧h'=h:=by
 refine pcall ?_ rfl (by simp [A.pure,A.data]) h
 refine acall_of mixedT h_akind (by simp [c_akind]) ?_
 dsimp only [c_akind]
 have hi:=fun h=>a_ident s hs h
 have hk:Adr.kindB s=(!Adr.reserved s&&Adr.ident s):=rfl
 have hr:∀ {G:Prop} (w:List UInt8),((s == w)=true→G)→((s == w)=false→G)→G:=fun w p q=>by
  cases e:s == w
  ·exact q e
  ·exact p e
 have res:∀ w,(s == w)=true→w∈Adr.reservedL→Adr.kindB s=false:=fun w e hw=>by
  rw [beq_iff_eq] at e; subst e
  rw [hk]
  unfold Adr.reserved
  rw [List.contains_iff_mem.2 hw]; rfl
 refine hr [109,111,100,117,108,101] (fun e1=>?_) fun e1=>?_
 ·refine run0 e1 ?_
  exact ⟨_,le_refl _,by rw [res _ e1 (by decide)]; rfl⟩
 refine hr [100,97,116,97] (fun e2=>?_) fun e2=>?_
 ·refine run0 (ai e1 e2) ?_
  exact ⟨_,le_refl _,by rw [res _ e2 (by decide)]; rfl⟩
 refine hr [118,97,114] (fun e3=>?_) fun e3=>?_
 ·refine run0 (ai e1 (ai e2 e3)) ?_
  exact ⟨_,le_refl _,by rw [res _ e3 (by decide)]; rfl⟩
 refine hr [108,111,99,97,108] (fun e4=>?_) fun e4=>?_
 ·refine run0 (ai e1 (ai e2 (ai e3 e4))) ?_
  exact ⟨_,le_refl _,by rw [res _ e4 (by decide)]; rfl⟩
 refine hr [101,97,99,104] (fun e5=>?_) fun e5=>?_
 ·refine run0 (ai e1 (ai e2 (ai e3 (ai e4 e5)))) ?_
  exact ⟨_,le_refl _,by rw [res _ e5 (by decide)]; rfl⟩
 refine hr [99,111,117,110,116] (fun e6=>?_) fun e6=>?_
 ·refine run0 (ai e1 (ai e2 (ai e3 (ai e4 (ai e5 e6))))) ?_
  exact ⟨_,le_refl _,by rw [res _ e6 (by decide)]; rfl⟩
 refine hr [114,101,109,111,116,101] (fun e7=>?_) fun e7=>?_
 ·refine run0 (ai e1 (ai e2 (ai e3 (ai e4 (ai e5 (ai e6 e7)))))) ?_
  exact ⟨_,le_refl _,by rw [res _ e7 (by decide)]; rfl⟩
 refine hr [111,117,116,112,117,116] (fun e8=>?_) fun e8=>?_
 ·refine run0 (ai e1 (ai e2 (ai e3 (ai e4 (ai e5 (ai e6 (ai e7 e8))))))) ?_
  exact ⟨_,le_refl _,by rw [res _ e8 (by decide)]; rfl⟩
 refine hr [112,97,116,104] (fun e9=>?_) fun e9=>?_
 ·refine run0 (ai e1 (ai e2 (ai e3 (ai e4 (ai e5 (ai e6 (ai e7 (ai e8 e9)))))))) ?_
  exact ⟨_,le_refl _,by rw [res _ e9 (by decide)]; rfl⟩
 refine hr [115,101,108,102] (fun e10=>?_) fun e10=>?_
 ·refine run0 (ai e1 (ai e2 (ai e3 (ai e4 (ai e5 (ai e6 (ai e7 (ai e8 (ai e9 e10))))))))) ?_
  exact ⟨_,le_refl _,by rw [res _ e10 (by decide)]; rfl⟩
 refine hr [99,104,97,110,103,101] (fun e11=>?_) fun e11=>?_
 ·refine run0 (ai e1 (ai e2 (ai e3 (ai e4 (ai e5 (ai e6 (ai e7 (ai e8 (ai e9 (ai e10 e11)))))))))) ?_
  exact ⟨_,le_refl _,by rw [res _ e11 (by decide)]; rfl⟩
 have hres:Adr.reserved s=false:=by
  have h1:=beq_eq_false_iff_ne.1 e1; have h2:=beq_eq_false_iff_ne.1 e2; have h3:=beq_eq_false_iff_ne.1 e3; have h4:=beq_eq_false_iff_ne.1 e4
  have h5:=beq_eq_false_iff_ne.1 e5; have h6:=beq_eq_false_iff_ne.1 e6; have h7:=beq_eq_false_iff_ne.1 e7; have h8:=beq_eq_false_iff_ne.1 e8
  have h9:=beq_eq_false_iff_ne.1 e9; have h10:=beq_eq_false_iff_ne.1 e10; have h11:=beq_eq_false_iff_ne.1 e11
  unfold Adr.reserved
  rw [Bool.eq_false_iff]
  intro hc
  rw [List.contains_iff_mem] at hc
  unfold Adr.reservedL at hc
  simp only [List.mem_cons,List.not_mem_nil,or_false] at hc
  rcases hc with e | e | e | e | e | e | e | e | e | e | e <;> simp_all
 rw [hk,hres]
 refine run0 (ai e1 (ai e2 (ai e3 (ai e4 (ai e5 (ai e6 (ai e7 (ai e8 (ai e9 (ai e10 e11)))))))))) ?_
 refine use (hi _) ?_
 refine run0 ti ?_
 exact ⟨_,le_refl _,by simp [tupA_1]⟩
theorem w_word (r:Adr.Rd) (hl:r.rest.length≤2000000) {h:Hp} {i:Nat} (hb:h.b[i]?=some (adB r)) :
  ACall Tryz.prog GT 170 [.ptr i 0] h fun v h'=>v = .str (Adr.wordP r).1∧h'=⟨h.b.set i (adB (Adr.wordP r).2),h.t⟩:=by
 have key:ACall Tryz.prog GT 170 [.ptr 0 0] ⟨[adB r],[]⟩ fun v h'=>∃ b',h'.b[0]?=some b'∧v = .str (Adr.wordP r).1∧b'=adB (Adr.wordP r).2:=by
  obtain ⟨rest,bad⟩:=r
  dsimp only at hl
  refine acall_of mixedT h_aword (by simp [c_aword]) ?_
  dsimp only [c_aword]
  unfold adB
  have hW:Adr.wordP ⟨rest,bad⟩=(rest.takeWhile (fun c=>!Adr.stopB c),⟨rest.dropWhile (fun c=>!Adr.stopB c),bad||!Adr.ident (rest.takeWhile (fun c=>!Adr.stopB c))⟩):=rfl
  rw [hW]
  have hi:=fun (s:List UInt8) (hs:s.length≤2000000) h=>a_ident s hs h
  refine run0 ti ?_
  refine use (a_indexAny rest hl _) ?_
  rcases Adr.indexAny_word rest with ⟨h1,h2,h3⟩ | ⟨n,h1,h2,h3,h4⟩
  ·rw [h1,h2,h3]
   have lm:(-1:Int) < 0:=by decide
   have l0:(0:Int)≤(rest.length:Int):=by omega
   have td:rest.drop rest.length=[]:=List.drop_length
   cases bad
   ·refine run0 (ai lm (ai l0 td)) ?_
    refine use (hi rest hl _) ?_
    refine run0 ti ?_
    exact ⟨_,le_refl _,_,rfl,rfl,rfl⟩
   ·refine run0 (ai lm (ai l0 td)) ?_
    exact ⟨_,le_refl _,_,rfl,rfl,rfl⟩
  ·rw [h1,h3,h4]
   have lm:¬ (n:Int) < 0:=by omega
   have l0:(0:Int)≤(n:Int):=by omega
   have l1:(n:Int)≤(rest.length:Int):=by omega
   have ht:(rest.take n).length≤2000000:=by rw [List.length_take]; omega
   cases bad
   ·refine run0 (ai lm (ai l0 l1)) ?_
    refine use (hi _ ht _) ?_
    refine run0 ti ?_
    exact ⟨_,le_refl _,_,rfl,rfl,rfl⟩
   ·refine run0 (ai lm (ai l0 l1)) ?_
    exact ⟨_,le_refl _,_,rfl,rfl,rfl⟩
 refine (ACall.lift1 key rfl (adB_loc r) ?_ hb).mono ?_
 ·rintro v b' ⟨rfl,rfl⟩; exact ⟨rfl,adB_loc _⟩
 ·rintro v h' ⟨b',⟨rfl,rfl⟩,rfl⟩; exact ⟨rfl,rfl⟩
def Adr.K.A (k:Adr.K):A:=.agg [.int .i64 k.kind,.int .i64 k.num,.str k.str]
theorem a_avalid (k:Adr.K) (hs:k.str.length≤2000000) (h:Hp):ACall Tryz.prog GT 237 [Adr.K.A k] h fun r h'=>r = .bool (Adr.keyOk k)∧h'=h:=by
 obtain ⟨kd,nm,st⟩:=k
 dsimp only at hs
 unfold Adr.K.A
 refine pcall ?_ rfl (by simp [A.pure,A.data]) h
 refine acall_of mixedT h_avalid (by simp [c_avalid]) ?_
 dsimp only [c_avalid]
 have hv:=fun h=>a_valid st hs h
 have hK:Adr.keyOk ⟨kd,nm,st⟩=if kd=1 then decide (0≤nm)&&decide (nm≤9007199254740992)&&st == [] else if kd=2 then nm == 0&&Str.valid st else (⟨kd,nm,st⟩:Adr.K) == Adr.K.none:=rfl
 rw [hK]
 by_cases k0:kd=0
 ·subst k0
  have e0:((0:Int) == 0)=true:=by decide
  rw [if_neg (by decide),if_neg (by decide)]
  have hn:((⟨0,nm,st⟩:Adr.K) == Adr.K.none)=(nm == 0&&st == []):=by
   rw [Bool.eq_iff_iff,beq_iff_eq,Bool.and_eq_true,beq_iff_eq,beq_iff_eq]
   unfold Adr.K.none
   simp
  refine run0 e0 ?_
  exact ⟨_,le_refl _,by rw [hn]; simp [tupA_1]⟩
 have e0:(kd == 0)=false:=by simp [k0]
 by_cases k1:kd=1
 ·subst k1
  have e1:((1:Int) == 1)=true:=by decide
  have e10:((1:Int) == 0)=false:=by decide
  rw [if_pos rfl]
  by_cases n0:0≤nm
  ·have g0:nm≥0:=n0
   by_cases n1:nm≤9007199254740992
   ·refine run0 (ai e10 (ai e1 (ai g0 n1))) ?_
    exact ⟨_,le_refl _,by rw [decide_eq_true n0,decide_eq_true n1]; rfl⟩
   ·refine run0 (ai e10 (ai e1 (ai g0 n1))) ?_
    exact ⟨_,le_refl _,by rw [decide_eq_false n1,Bool.and_false]; rfl⟩
  ·have g0:¬ nm≥0:=n0
   refine run0 (ai e10 (ai e1 g0)) ?_
   exact ⟨_,le_refl _,by rw [decide_eq_false n0]; rfl⟩
 have e1:(kd == 1)=false:=by simp [k1]
 rw [if_neg k1]
 by_cases k2:kd=2
 ·subst k2
  have e20:((2:Int) == 0)=false:=by decide
  have e21:((2:Int) == 1)=false:=by decide
  have e2:((2:Int) == 2)=true:=by decide
  rw [if_pos rfl]
  cases hn:nm == 0
  ·refine run0 (ai e20 (ai e21 (ai e2 hn))) ?_
   exact ⟨_,le_refl _,rfl⟩
  ·refine run0 (ai e20 (ai e21 (ai e2 hn))) ?_
   refine use (hv _) ?_
   refine run0 (ai e20 (ai e21 (ai e2 hn))) ?_
   exact ⟨_,le_refl _,rfl⟩
 have e2:(kd == 2)=false:=by simp [k2]
 rw [if_neg k2]
 have hn:((⟨kd,nm,st⟩:Adr.K) == Adr.K.none)=false:=by
  rw [beq_eq_false_iff_ne]
  unfold Adr.K.none
  intro e; injection e with e _ _; exact k0 e
 rw [hn]
 refine run0 (ai e0 (ai e1 e2)) ?_
 exact ⟨_,le_refl _,rfl⟩
end AX
end Go.Proofs.YtahmpiioegemaaaGreatDoor

namespace Go.Proofs.YtahmpiioegemaaaGreatDoor
open Go.RowKit
namespace Str
theorem one_width (l:List UInt8) (hl:l≠[]) (h:(one l).2.2=0):(one l).2.1≤l.length:=by
 have hp:=List.length_pos_iff.2 hl
 by_cases h92:l.getD 0 0=92
 ·obtain ⟨⟨c,n,e⟩,he⟩:∃ x,escp (l.drop 1)=x:=⟨_,rfl⟩
  have h1:=one_esc l h92 c n e he
  rw [h1] at h ⊢
  by_cases h0:e=0
  ·rw [if_neg (by simp [h0])]
   have:=escp_len (l.drop 1) (by rw [he]; exact h0)
   rw [he,List.length_drop] at this
   dsimp only at this ⊢
   omega
  ·rw [if_pos h0] at h
   exact absurd h h0
 ·obtain ⟨⟨c,n⟩,hd⟩:∃ x,Lib.decodeL l=x:=⟨_,rfl⟩
  have hc:c≠92:=by
   rcases dec_cases l with ⟨q1,q2⟩ | ⟨q1,q2⟩
   ·rw [hd] at q2
    injection q2 with q2 q3
    intro e
    apply h92
    rw [←UInt8.toNat_inj]
    have:(l.getD 0 0).toNat=92:=by omega
    simpa using this
   ·rw [hd] at q2
    dsimp only at q2
    omega
  by_cases hbad:(c=65533∧n=1)∨c < 32∨c=127
  ·rw [one_bad l c n hd hc hbad] at h
   simp at h
  ·rw [one_ok l hl c n hd hc hbad]
   have:=Lib.decodeL_le l hl
   rw [hd] at this
   exact this
theorem unq_width:∀ (f:Nat) (l acc:List UInt8) (i N:Nat),i+l.length=N→(unq f l acc i).2.2=0→(unq f l acc i).2.1≤N
 | 0,l,acc,i,N,hN,h=>by
  unfold unq at h ⊢
  simp at h ⊢
 | f+1,l,acc,i,N,hN,h=>by
  unfold unq at h ⊢
  split
  ·next h1=>rw [if_pos h1] at h; simp at h
  ·next h1 =>
   rw [if_neg h1] at h
   have hp:=List.length_pos_iff.2 h1
   split
   ·next h2 =>
    rw [if_pos h2] at h
    split
    ·exact Nat.zero_le _
    ·dsimp only; omega
   ·next h2 =>
    rw [if_neg h2] at h
    split
    ·exact Nat.zero_le _
    ·next h3 =>
     rw [if_neg h3] at h
     have:=one_width l h1 (by simpa using h3)
     exact unq_width f _ _ _ N (by rw [List.length_drop]; omega) h
theorem unquote_width (l:List UInt8) (h:(unquote l).2.2=0):(unquote l).2.1≤l.length:=by
 unfold unquote at h ⊢
 split
 ·exact Nat.zero_le _
 ·next h1 =>
  rw [if_neg h1] at h
  split
  ·exact Nat.zero_le _
  ·next h2 =>
   rw [if_neg h2] at h
   have hp:=List.length_pos_iff.2 h1
   exact unq_width _ _ _ _ l.length (by rw [List.length_drop]; omega) h
end Str
namespace AX
def c_rstep:AX.AFn:=⟨11,aS [aR 2 (.alloc 227 [.str [],.int .i64 0,.int .i64 0,.str []])] (aS [aM 4 0,aR 5 (.call 170 [.t 4]),aR 6 (.build [.str [],.int .i64 0,.int .i64 0,.str []] [(0,1,.t 5)]),aR 3 (.alloc 227 [.str [],.int .i64 0,.int .i64 0,.str []]),aU (.store 4 (.t 3) (.t 6))] (aS [aM 7 0,aR 8 (.call 171 [.t 7]),aF 9 1 3,aU (.store 3 (.t 9) (.t 8))] (aS [aR 10 (.load true 4 (.t 3)),aU (.store 4 (.t 2) (.t 10))] (.ret)))),[.c 2 true 4]⟩
theorem h_rstep:AX.compFn Tryz.prog 168=some c_rstep:=by kernel_rfl
theorem glob_of {w:World} (g:GT w):Glob w:=⟨g.tabs,g.tz⟩
theorem a_unquote (s:List UInt8) (hs:s.length≤2000000) (h:Hp):ACall Tryz.prog GT 198 [.str s] h fun r h'=>r = .tup [.str (Str.unquote s).1,.int .i64 (Str.unquote s).2.1,.int .i64 (Str.unquote s).2.2]∧h'=h:=
 acall_imp (args1 r_str) (fun w hg=>unquote_any ⟨s.toArray⟩ w (by rw [size_mk]; exact hs) (glob_of hg)) (fun C=>rep_tup.2 ⟨_,rfl,repL_cons.2 ⟨_,_,rfl,rep_str.2 rfl,repL_cons.2 ⟨_,_,rfl,rep_int.2 rfl,repL_cons.2 ⟨_,_,rfl,rep_int.2 rfl,repL_nil.2 rfl⟩⟩⟩⟩) h
theorem a_quote (s:List UInt8) (hs:s.length≤2000000) (h:Hp):ACall Tryz.prog GT 199 [.str s] h fun r h'=>r = .str (Str.quote s)∧h'=h:=
 acall_imp (args1 r_str) (fun w hg=>quote_any ⟨s.toArray⟩ w (by rw [size_mk]; exact hs) (glob_of hg)) (fun C=>rep_str.2 rfl) h
theorem pre_begins (s p:List UInt8):(decide (p.length≤s.length)&&s.take p.length == p)=Adr.begins s p:=by
 unfold Adr.begins
 rw [Bool.eq_iff_iff,List.isPrefixOf_iff_prefix,List.prefix_iff_eq_take,Bool.and_eq_true,decide_eq_true_eq,beq_iff_eq]
 constructor
 ·rintro ⟨h1,h2⟩; exact h2.symm
 ·intro h2
  exact ⟨by have:=congrArg List.length h2; rw [List.length_take] at this; omega,h2.symm⟩
theorem w_key (r:Adr.Rd) (hl:r.rest.length≤2000000) {h:Hp} {i:Nat} (hb:h.b[i]?=some (adB r)) :
  ACall Tryz.prog GT 171 [.ptr i 0] h fun v h'=>v=Adr.K.A (Adr.keyP r).1∧h'=⟨h.b.set i (adB (Adr.keyP r).2),h.t⟩:=by
 have key:ACall Tryz.prog GT 171 [.ptr 0 0] ⟨[adB r],[]⟩ fun v h'=>∃ b',h'.b[0]?=some b'∧v=Adr.K.A (Adr.keyP r).1∧b'=adB (Adr.keyP r).2:=by
  refine fo ?_
  have hh:=fun h hb=>w_has [91] r (h:=h) (i:=0) hb
  obtain ⟨Z,hZ⟩:∃ Z,Adr.keyP r=Z:=⟨_,rfl⟩
  rw [hZ]
  unfold Adr.keyP at hZ
  unfold Adr.hasP at hh
  unfold adB at hh ⊢
  obtain ⟨rest,bad⟩:=r
  dsimp only at hl hh hZ
  cases bad
  rotate_left
  ·rw [if_pos rfl] at hZ
   subst hZ
   refine run0 ti ?_
   exact ⟨_,le_refl _,_,rfl,rfl,rfl⟩
  rw [if_neg (by decide)] at hZ
  refine run0 ti ?_
  refine use (hh _ rfl) ?_
  cases hB:Adr.begins rest [91]
  ·rw [hB,if_pos rfl] at hZ
   subst hZ
   refine run0 ti ?_
   exact ⟨_,le_refl _,_,rfl,rfl,rfl⟩
  rw [hB,if_neg (by decide)] at hZ
  obtain ⟨t,ht⟩:∃ t,rest.drop 1=t:=⟨_,rfl⟩
  have ht1:rest.drop [91].length=t:=ht
  have htl:t.length≤2000000:=by rw [←ht,List.length_drop]; omega
  rw [ht] at hZ
  have hp:=fun h=>a_hasPrefix t [34] h
  rw [pre_begins] at hp
  have hu:=fun h=>a_unquote t htl h
  have hsk:=fun (q:Adr.Rd) h hb=>w_skip [93] q (h:=h) (i:=0) hb
  unfold adB at hsk
  refine run0 (ai ht1 ht) ?_
  refine use (hp _) ?_
  cases hQ:Adr.begins t [34]
  ·rw [hQ,if_neg (by decide)] at hZ
   refine run0 ti ?_
   refine use (a_indexByte t _) ?_
   have hk:=Adr.indexByte_key t
   obtain ⟨n,hn,hnle,hix⟩:∃ n:Nat,(if t.all (· != 93) then 0 else (t.takeWhile (· != 93)).length)=n∧n≤t.length∧(Lib.indexByte t 93=(n:Int)∨(Lib.indexByte t 93=-1∧n=0)):=by
    rcases hk with ⟨k1,k2⟩ | ⟨k1,k2,k3⟩
    ·exact ⟨0,by rw [if_pos k1],Nat.zero_le _,.inr ⟨k2,rfl⟩⟩
    ·exact ⟨_,by rw [k1,if_neg (by decide)],k3,.inl k2⟩
   rw [hn] at hZ
   have hmax:(if (0:Int) > Lib.indexByte t 93 then 0 else Lib.indexByte t 93)=(n:Int):=by
    rcases hix with e | ⟨e,e2⟩
    ·rw [e,if_neg (by omega)]
    ·rw [e,e2]; rfl
   have htk:(t.take n).length≤2000000:=by rw [List.length_take]; omega
   have hnp:=fun h=>a_numParse (t.take n) htk h
   have l0:(0:Int)≤(n:Int):=by omega
   have l1:(n:Int)≤(t.length:Int):=by omega
   obtain ⟨⟨x,e⟩,hx⟩:∃ q,Num.parse (t.take n)=q:=⟨_,rfl⟩
   rw [hx] at hnp hZ
   dsimp only at hnp hZ
   refine run0 (ai hmax (ai l0 l1)) ?_
   refine use (hnp _) ?_
   have hbad:∃ b,(e != 0||decide (x < 0))=b:=⟨_,rfl⟩
   obtain ⟨b,hb⟩:=hbad
   rw [hb] at hZ
   subst hZ
   by_cases he:e=0
   ·have e1:(e != 0)=false:=by simp [he]
    rw [e1,Bool.false_or] at hb
    refine run0 (ai e1 (ai hb (ai l0 l1))) ?_
    refine use (hsk ⟨t.drop n,b⟩ _ rfl) ?_
    refine run0 ti ?_
    exact ⟨_,le_refl _,_,rfl,rfl,rfl⟩
   ·have e1:(e != 0)=true:=by simp [he]
    rw [e1,Bool.true_or] at hb
    subst hb
    refine run0 (ai e1 (ai l0 l1)) ?_
    refine use (hsk ⟨t.drop n,true⟩ _ rfl) ?_
    refine run0 ti ?_
    exact ⟨_,le_refl _,_,rfl,rfl,rfl⟩
  ·rw [hQ,if_pos rfl] at hZ
   refine run0 ti ?_
   refine use (hu _) ?_
   have hw:=Str.unquote_width t
   have hv:=Str.unquote_valid t
   obtain ⟨⟨us,un,ue⟩,hue⟩:∃ q,Str.unquote t=q:=⟨_,rfl⟩
   rw [hue] at hZ hw hv ⊢
   dsimp only at hZ hw hv ⊢
   by_cases he:ue=0
   rotate_left
   ·have e1:(ue != 0)=true:=by simp [he]
    rw [if_pos (.inl he)] at hZ
    subst hZ
    refine run0 e1 ?_
    exact ⟨_,le_refl _,_,rfl,rfl,rfl⟩
   have e1:(ue != 0)=false:=by simp [he]
   have hul:us.length≤2000000:=by
    have:=hv he
    unfold Str.valid at this
    rw [Bool.and_eq_true,decide_eq_true_eq] at this
    omega
   have l1:(un:Int)≤(t.length:Int):=by have:=hw he; omega
   have l0:(0:Int)≤(un:Int):=by omega
   refine run0 (ai e1 (ai l0 l1)) ?_
   refine use (a_quote us hul _) ?_
   cases hne:Str.quote us != t.take un
   ·rw [if_neg (by rintro (h | h); exact h he; rw [bne_eq_false_iff_eq] at hne; exact h hne)] at hZ
    subst hZ
    refine run0 (ai e1 (ai hne (ai l0 l1))) ?_
    refine use (hsk ⟨t.drop un,false⟩ _ rfl) ?_
    refine run0 ti ?_
    exact ⟨_,le_refl _,_,rfl,rfl,rfl⟩
   ·rw [if_pos (.inr (bne_iff_ne.1 hne))] at hZ
    subst hZ
    refine run0 (ai e1 (ai hne (ai l0 l1))) ?_
    exact ⟨_,le_refl _,_,rfl,rfl,rfl⟩
 refine (ACall.lift1 key rfl (adB_loc r) ?_ hb).mono ?_
 ·rintro v b' ⟨rfl,rfl⟩; exact ⟨rfl,adB_loc _⟩
 ·rintro v h' ⟨b',⟨rfl,rfl⟩,rfl⟩; exact ⟨rfl,rfl⟩
end AX
end Go.Proofs.YtahmpiioegemaaaGreatDoor
