/- Part of what the proof needs. -/
import Derived.Test.YtnjkemakcejceaaGreatDoorMFrStoreVersionsUptoA
import Derived.Test.YtnjkemakcejceaaGreatDoorMFrStoreVersionsUptoG
import Derived.Test.YtnjkemakcejceaaGreatDoorMFrStoreVersionsUptoH
import Derived.Test.YtnjkemakcejceaaGreatDoorMFrStoreVersionsUptoI
import Derived.Test.YtnjkemakcejceaaGreatDoorMFrStoreVersionsUptoK
import Derived.Test.YtnjkemakcejceaaGreatDoorMFrStoreVersionsUptoM
import Derived.Lib.ParseIntB
import Derived.Test.YtnjkemakcejceaaGreatDoorShelfP
import Derived.Laws.RangeAny
import Derived.Laws.Runes
import Derived.Lib.OthersKept
import Derived.Deep.LoopGhost
import Derived.BigRegion
import Derived.Below
import Derived.BigQuiet
import Derived.Deep.QuietTactic
import Derived.WalkMore
import Derived.IntWalk
set_option linter.unusedSimpArgs false
set_option linter.unusedVariables false
set_option linter.unnecessarySimpa false
namespace Go.Proofs.YtnjkemakcejceaaGreatDoor
open Go.RowKit
set_option maxHeartbeats 4000000
namespace AX
theorem fm_snoc {α : Type} (f : α → List UInt8) (l : List α) (j : Nat) (hj : j < l.length) : (l.take (j + 1)).flatMap f = (l.take j).flatMap f ++ f l[j]:=by
 rw [List.take_succ_eq_append_getElem hj,List.flatMap_append]; simp
theorem fm_le {α : Type} (f : α → List UInt8) (l : List α) (j : Nat) : ((l.take j).flatMap f).length ≤ (l.flatMap f).length:=by
 have : l.flatMap f = (l.take j).flatMap f ++ (l.drop j).flatMap f:=by rw [← List.flatMap_append,List.take_append_drop]
 rw [this,List.length_append]; omega
theorem map_getD {α : Type} (f : α → List A) (l : List α) (j : Nat) (hj : j < l.length) : (l.map f).getD j [] = f l[j]:=by simp [List.getD,hj]
structure Sf.StOk (s : Sf.St) : Prop where
 insts : ∀ x ∈ s.insts,Sf.InstOk x
 outs : ∀ x ∈ s.outs,(∃ lv b,(Val.chk x.value lv b).1 = 0) ∧ x.value.lens
 ser0 : -9223372036854775808 ≤ s.ser
 ser1 : s.ser ≤ 9223372036854775807
 li : s.insts.length ≤ 1000000000
 lp : s.pends.length ≤ 1000000000
 lo : s.outs.length ≤ 1000000000
theorem w_state {ver : Int} (hver : ver = 1 ∨ ver = 2) (st : Sf.St) (ok : Sf.StOk st) (hlen : (Sf.stE ver st).length + 20 ≤ 1000000000) :
  ACall Tryz.prog GT 86 [.ptr 0 0,st.A] ⟨[.cells 142 [.nilp,.sl 0 .nil [],.int .i64 ver]],[]⟩ fun u h' => ∃ b',h'.b[0]? = some b' ∧ u = .tup [] ∧ b' = wtr ver (Sf.stE ver st):=by
 obtain ⟨lin,ser,ins,ps,os⟩:=st
 have s0 : -9223372036854775808 ≤ ser:=ok.ser0
 have s1 : ser ≤ 9223372036854775807:=ok.ser1
 have li : ins.length ≤ 1000000000:=ok.li
 have lp : ps.length ≤ 1000000000:=ok.lp
 have lo : os.length ≤ 1000000000:=ok.lo
 have hml : magic.length = 4:=rfl
 have lm1 : (ins.map Sf.Inst.cells).length = ins.length:=List.length_map _
 have lm2 : (ps.map Sf.Pend.cells).length = ps.length:=List.length_map _
 have lm3 : (os.map Sf.Outp.cells).length = os.length:=List.length_map _
 obtain ⟨F,hF⟩ : ∃ F,(if ver = 2 then Wire.num ps.length ++ ps.flatMap Sf.pendE else []) = F:=⟨_,rfl⟩
 have hE : Sf.stE ver ⟨lin,ser,ins,ps,os⟩ = magic ++ Wire.num ver ++ Wire.strE lin ++ Wire.num ser ++ Wire.num ins.length ++ ins.flatMap (Sf.instE ver) ++ F ++ Wire.num os.length ++ os.flatMap Sf.outE:=by rw [← hF]; rfl
 rw [hE] at hlen
 simp only [List.length_append,hml] at hlen
 have k0:=strE_le lin
 have hv12 : ∀ {G : Prop},((ver == 2) = false → F = [] → G) → ((ver == 2) = true → F = Wire.num ps.length ++ ps.flatMap Sf.pendE → G) → G:=fun p q => by
  rcases hver with rfl | rfl
  ·rw [if_neg (by decide)] at hF; exact p rfl hF.symm
  ·rw [if_pos rfl] at hF; exact q rfl hF.symm
 have hv1 : 1 ≤ ver ∧ ver ≤ 2:=by omega
 refine acall_of mixedT h_wstate (by simp [c_wstate]) ?_
 dsimp only [c_wstate,Sf.St.A]
 refine run0 ti ?_
 refine use (a_write (.inr ⟨rfl,rfl⟩) magic (by simp only [List.length_nil,hml]; decide)) ?_
 refine run0 @wtr_ ?_
 refine use (wn (i:=0) (ver:=ver) (l:=magic) rfl ver (by simp only [List.length_append,hml]; omega) (by omega) (by omega)) ?_
 refine run0 ti ?_
 refine use (wt rfl lin (by simp only [List.length_append,hml]; omega)) ?_
 refine run0 ti ?_
 refine use (wn rfl ser (by simp only [List.length_append,hml]; omega) s0 s1) ?_
 refine run0 (ai lm1 (ai lm2 lm3)) ?_
 refine use (wn rfl _ (by simp only [List.length_append,hml]; omega) (by omega) (by omega)) ?_
 refine run0 (ai lm1 (ai lm2 lm3)) ?_
 refine awp_loop (fun mm ts h => ∃ (j : Nat) (l : List Blk),mm = ins.length - j ∧ j ≤ ins.length ∧ h = ⟨wtr ver (magic ++ Wire.num ver ++ Wire.strE lin ++ Wire.num ser ++ Wire.num ins.length ++ (ins.take j).flatMap (Sf.instE ver)) :: .cells 26 [.str lin,.int .i64 ser,.sl 13 .no (ins.map Sf.Inst.cells),.sl 3 .no (ps.map Sf.Pend.cells),.sl 7 .no (os.map Sf.Outp.cells)] :: l,[]⟩ ∧ ts 0 = .ptr 0 0 ∧ ts 3 = .ptr 1 0 ∧ ts 34 = .sl 13 .no (ins.map Sf.Inst.cells) ∧ ts 35 = .int .i64 (ins.length : Nat) ∧ ts 36 = .int .i64 (j : Nat)) ins.length ?_ ?_
 ·exact ⟨0,[],by omega,by omega,by simp only [List.take_zero,List.flatMap_nil,List.append_nil],by (exact ev0 ti),by (exact ev0 ti),by (exact ev0 ti),by (exact ev0 (ai lm1 (ai lm2 lm3))),by (exact inv0 ti)⟩
 ·rintro mm ts h ⟨j,l,rfl,hjc,rfl,t0,t3,ta,tb,tc⟩
  by_cases hj : j < ins.length
  ·have hlt : (j : Int) < (ins.length : Int):=by omega
   have hlt' : (j : Int) < ((ins.map Sf.Inst.cells).length : Int):=by rw [List.length_map]; exact hlt
   have hj0 : (0 : Int) ≤ (j : Int):=by omega
   have ei : IntKind.i64.wrap ((j : Int) + 1) = ((j + 1 : Nat) : Int):=by rw [wrap64 (by omega) (by omega)]; omega
   have hs:=fm_snoc (Sf.instE ver) ins j hj
   have ht:=fm_le (Sf.instE ver) ins (j + 1)
   have hg:=map_getD Sf.Inst.cells ins j hj
   have hm:=List.getElem_mem hj
   have hok:=ok.insts _ hm
   obtain ⟨x,hx⟩ : ∃ x,ins[j] = x:=⟨_,rfl⟩
   rw [hx] at hs hg hok
   rw [hs,List.length_append] at ht
   have cw:=fun (m : List UInt8) (h : Hp) (hb : h.b[0]? = some (wtr ver m)) (hm : m.length + (Sf.instE ver x).length + 20 ≤ 1000000000) => w_inst hver x hok m hm hb
   obtain ⟨a,d,id,ty,⟨k,n,s,is,ks⟩,v,tn,fi,ds⟩:=x
   simp only [Sf.Inst.cells] at hg cw
   refine run0 (ai t0 (ai t3 (ai ta (ai tb (ai tc (ai hlt (ai hg (ai hlt' hj0)))))))) ?_
   refine use (cw _ _ rfl (by simp only [List.length_append,hml]; omega)) ?_
   refine run0 (ai t0 (ai t3 (ai ta (ai tb (ai tc ei))))) ?_
   exact ⟨ins.length - (j + 1),by omega,j + 1,l ++ [.cells 42 [.str a,.str d,.str id,.str ty,.int .i64 k,.int .i64 n,.str s,.sl 5 .no (V.cellss is),.sl 1 .no (strsA ks),.int .i64 v,.bool tn,.bool fi,.sl 1 .no (strsA ds)]],rfl,by omega,by rw [hs]; simp only [List.append_assoc],by (exact ev0 t0),by (exact ev0 t3),by (exact ev0 ta),by (exact ev0 tb),by (exact ev0 ei)⟩
  ·have hlt : ¬ ((j : Int) < (ins.length : Int)):=by omega
   have hjl : j = ins.length:=by omega
   subst hjl
   rw [List.take_length]
   refine hv12 (fun e2 eF => ?_) (fun e2 eF => ?_)
   all_goals subst eF
   all_goals first | (simp only [List.length_append] at hlen) | skip
   ·refine run0 (ai t0 (ai t3 (ai ta (ai tb (ai tc (ai hlt (ai @wtr_ (ai e2 (ai lm1 (ai lm2 lm3)))))))))) ?_
    refine use (wn (i:=0) (ver:=ver) (l:=magic ++ Wire.num ver ++ Wire.strE lin ++ Wire.num ser ++ Wire.num ins.length ++ ins.flatMap (Sf.instE ver)) rfl _ (by simp only [List.length_append,hml]; omega) (by omega) (by omega)) ?_
    refine run0 (ai t0 (ai t3 (ai lm1 (ai lm2 lm3)))) ?_
    refine awp_loop (fun mm ts h => ∃ (j : Nat) (l : List Blk),mm = os.length - j ∧ j ≤ os.length ∧ h = ⟨wtr ver (magic ++ Wire.num ver ++ Wire.strE lin ++ Wire.num ser ++ Wire.num ins.length ++ ins.flatMap (Sf.instE ver) ++ Wire.num os.length ++ (os.take j).flatMap Sf.outE) :: .cells 26 [.str lin,.int .i64 ser,.sl 13 .no (ins.map Sf.Inst.cells),.sl 3 .no (ps.map Sf.Pend.cells),.sl 7 .no (os.map Sf.Outp.cells)] :: l,[]⟩ ∧ ts 0 = .ptr 0 0 ∧ ts 3 = .ptr 1 0 ∧ ts 80 = .sl 7 .no (os.map Sf.Outp.cells) ∧ ts 81 = .int .i64 (os.length : Nat) ∧ ts 82 = .int .i64 (j : Nat)) os.length ?_ ?_
    ·exact ⟨0,l,by omega,by omega,by simp only [List.take_zero,List.flatMap_nil,List.append_nil],by (exact ev0 t0),by (exact ev0 t3),by (exact ev0 (ai t0 t3)),by (exact ev0 (ai t0 (ai t3 (ai lm1 (ai lm2 lm3))))),by (exact inv0 (ai t0 t3))⟩
    ·rintro mm ts h ⟨j,l,rfl,hjc,rfl,t0,t3,ta,tb,tc⟩
     by_cases hj : j < os.length
     ·have hlt : (j : Int) < (os.length : Int):=by omega
      have hlt' : (j : Int) < ((os.map Sf.Outp.cells).length : Int):=by rw [List.length_map]; exact hlt
      have hj0 : (0 : Int) ≤ (j : Int):=by omega
      have ei : IntKind.i64.wrap ((j : Int) + 1) = ((j + 1 : Nat) : Int):=by rw [wrap64 (by omega) (by omega)]; omega
      have hs:=fm_snoc Sf.outE os j hj
      have ht:=fm_le Sf.outE os (j + 1)
      have hg:=map_getD Sf.Outp.cells os j hj
      have hm:=List.getElem_mem hj
      have hok:=ok.outs _ hm
      obtain ⟨x,hx⟩ : ∃ x,os[j] = x:=⟨_,rfl⟩
      rw [hx] at hs hg hok
      rw [hs,List.length_append] at ht
      obtain ⟨m,⟨k,n,s,is,ks⟩,b⟩:=x
      have hVA : (V.mk k n s is ks).A = .agg [.int .i64 k,.int .i64 n,.str s,.sl 5 .no (V.cellss is),.sl 1 .no (strsA ks)]:=by simp only [V.A,V.cells]
      have cv:=fun (m : List UInt8) (h : Hp) (hb : h.b[0]? = some (wtr ver m)) (hm : m.length + (Val.enc (.mk k n s is ks)).length + 10 ≤ 1000000000) => wv hb (.mk k n s is ks) hok.1 hm hok.2
      rw [hVA] at cv
      simp only [Sf.Outp.cells] at hg
      simp only [Sf.outE] at hs ht
      simp only [List.length_append] at ht
      have k1:=strE_le m
      refine run0 (ai t0 (ai t3 (ai ta (ai tb (ai tc (ai hlt (ai hg (ai hlt' hj0)))))))) ?_
      refine use (wt rfl m (by simp only [List.length_append,hml]; omega)) ?_
      refine run0 (ai t0 (ai t3 (ai ta (ai tb tc)))) ?_
      refine use (cv _ _ rfl (by simp only [List.length_append,hml]; omega)) ?_
      refine run0 (ai t0 (ai t3 (ai ta (ai tb tc)))) ?_
      refine use (wf rfl b (by simp only [List.length_append,hml]; omega)) ?_
      refine run0 (ai t0 (ai t3 (ai ta (ai tb (ai tc ei))))) ?_
      exact ⟨os.length - (j + 1),by omega,j + 1,l ++ [.cells 98 [.str m,.int .i64 k,.int .i64 n,.str s,.sl 5 .no (V.cellss is),.sl 1 .no (strsA ks),.bool b]],rfl,by omega,by rw [hs]; simp only [List.append_assoc],by (exact ev0 t0),by (exact ev0 t3),by (exact ev0 ta),by (exact ev0 tb),by (exact ev0 ei)⟩
     ·have hlt : ¬ ((j : Int) < (os.length : Int)):=by omega
      have hjl : j = os.length:=by omega
      subst hjl
      rw [List.take_length]
      refine run0 (ai t0 (ai t3 (ai ta (ai tb (ai tc hlt))))) ?_
      exact ⟨_,le_refl _,_,rfl,rfl,by rw [hE]; simp only [List.append_assoc,List.nil_append]⟩
   ·refine run0 (ai t0 (ai t3 (ai ta (ai tb (ai tc (ai hlt (ai @wtr_ (ai e2 (ai lm1 (ai lm2 lm3)))))))))) ?_
    refine use (wn (i:=0) (ver:=ver) (l:=magic ++ Wire.num ver ++ Wire.strE lin ++ Wire.num ser ++ Wire.num ins.length ++ ins.flatMap (Sf.instE ver)) rfl _ (by simp only [List.length_append,hml]; omega) (by omega) (by omega)) ?_
    refine run0 (ai t0 (ai t3 (ai lm1 (ai lm2 lm3)))) ?_
    refine awp_loop (fun mm ts h => ∃ (j : Nat) (l : List Blk),mm = ps.length - j ∧ j ≤ ps.length ∧ h = ⟨wtr ver (magic ++ Wire.num ver ++ Wire.strE lin ++ Wire.num ser ++ Wire.num ins.length ++ ins.flatMap (Sf.instE ver) ++ Wire.num ps.length ++ (ps.take j).flatMap Sf.pendE) :: .cells 26 [.str lin,.int .i64 ser,.sl 13 .no (ins.map Sf.Inst.cells),.sl 3 .no (ps.map Sf.Pend.cells),.sl 7 .no (os.map Sf.Outp.cells)] :: l,[]⟩ ∧ ts 0 = .ptr 0 0 ∧ ts 3 = .ptr 1 0 ∧ ts 55 = .sl 3 .no (ps.map Sf.Pend.cells) ∧ ts 56 = .int .i64 (ps.length : Nat) ∧ ts 57 = .int .i64 (j : Nat)) ps.length ?_ ?_
    ·exact ⟨0,l,by omega,by omega,by simp only [List.take_zero,List.flatMap_nil,List.append_nil],by (exact ev0 t0),by (exact ev0 t3),by (exact ev0 (ai t0 t3)),by (exact ev0 (ai t0 (ai t3 (ai lm1 (ai lm2 lm3))))),by (exact inv0 (ai t0 t3))⟩
    ·rintro mm ts h ⟨j,l,rfl,hjc,rfl,t0,t3,ta,tb,tc⟩
     by_cases hj : j < ps.length
     ·have hlt : (j : Int) < (ps.length : Int):=by omega
      have hlt' : (j : Int) < ((ps.map Sf.Pend.cells).length : Int):=by rw [List.length_map]; exact hlt
      have hj0 : (0 : Int) ≤ (j : Int):=by omega
      have ei : IntKind.i64.wrap ((j : Int) + 1) = ((j + 1 : Nat) : Int):=by rw [wrap64 (by omega) (by omega)]; omega
      have hs:=fm_snoc Sf.pendE ps j hj
      have ht:=fm_le Sf.pendE ps (j + 1)
      have hg:=map_getD Sf.Pend.cells ps j hj
      have hm:=List.getElem_mem hj
      obtain ⟨x,hx⟩ : ∃ x,ps[j] = x:=⟨_,rfl⟩
      rw [hx] at hs hg
      rw [hs,List.length_append] at ht
      simp only [Sf.Pend.cells] at hg
      simp only [Sf.pendE] at hs ht
      simp only [List.length_append] at ht
      have k1:=strE_le x.addr
      have k2:=strE_le x.typ
      have k3:=strE_le x.tok
      refine run0 (ai t0 (ai t3 (ai ta (ai tb (ai tc (ai hlt (ai hg (ai hlt' hj0)))))))) ?_
      refine use (wt rfl x.addr (by simp only [List.length_append,hml]; omega)) ?_
      refine run0 (ai t0 (ai t3 (ai ta (ai tb tc)))) ?_
      refine use (wt rfl x.typ (by simp only [List.length_append,hml]; omega)) ?_
      refine run0 (ai t0 (ai t3 (ai ta (ai tb tc)))) ?_
      refine use (wt rfl x.tok (by simp only [List.length_append,hml]; omega)) ?_
      refine run0 (ai t0 (ai t3 (ai ta (ai tb (ai tc ei))))) ?_
      exact ⟨ps.length - (j + 1),by omega,j + 1,l ++ [.cells 95 [.str x.addr,.str x.typ,.str x.tok]],rfl,by omega,by rw [hs]; simp only [List.append_assoc],by (exact ev0 t0),by (exact ev0 t3),by (exact ev0 ta),by (exact ev0 tb),by (exact ev0 ei)⟩
     ·have hlt : ¬ ((j : Int) < (ps.length : Int)):=by omega
      have hjl : j = ps.length:=by omega
      subst hjl
      rw [List.take_length]
      refine run0 (ai t0 (ai t3 (ai ta (ai tb (ai tc (ai hlt (ai lm1 (ai lm2 lm3)))))))) ?_
      refine use (wn rfl _ (by simp only [List.length_append,hml]; omega) (by omega) (by omega)) ?_
      refine run0 (ai t0 (ai t3 (ai lm1 (ai lm2 lm3)))) ?_
      refine awp_loop (fun mm ts h => ∃ (j : Nat) (l : List Blk),mm = os.length - j ∧ j ≤ os.length ∧ h = ⟨wtr ver (magic ++ Wire.num ver ++ Wire.strE lin ++ Wire.num ser ++ Wire.num ins.length ++ ins.flatMap (Sf.instE ver) ++ Wire.num ps.length ++ ps.flatMap Sf.pendE ++ Wire.num os.length ++ (os.take j).flatMap Sf.outE) :: .cells 26 [.str lin,.int .i64 ser,.sl 13 .no (ins.map Sf.Inst.cells),.sl 3 .no (ps.map Sf.Pend.cells),.sl 7 .no (os.map Sf.Outp.cells)] :: l,[]⟩ ∧ ts 0 = .ptr 0 0 ∧ ts 3 = .ptr 1 0 ∧ ts 80 = .sl 7 .no (os.map Sf.Outp.cells) ∧ ts 81 = .int .i64 (os.length : Nat) ∧ ts 82 = .int .i64 (j : Nat)) os.length ?_ ?_
      ·exact ⟨0,l,by omega,by omega,by simp only [List.take_zero,List.flatMap_nil,List.append_nil],by (exact ev0 t0),by (exact ev0 t3),by (exact ev0 (ai t0 t3)),by (exact ev0 (ai t0 (ai t3 (ai lm1 (ai lm2 lm3))))),by (exact inv0 (ai t0 t3))⟩
      ·rintro mm ts h ⟨j,l,rfl,hjc,rfl,t0,t3,ta,tb,tc⟩
       by_cases hj : j < os.length
       ·have hlt : (j : Int) < (os.length : Int):=by omega
        have hlt' : (j : Int) < ((os.map Sf.Outp.cells).length : Int):=by rw [List.length_map]; exact hlt
        have hj0 : (0 : Int) ≤ (j : Int):=by omega
        have ei : IntKind.i64.wrap ((j : Int) + 1) = ((j + 1 : Nat) : Int):=by rw [wrap64 (by omega) (by omega)]; omega
        have hs:=fm_snoc Sf.outE os j hj
        have ht:=fm_le Sf.outE os (j + 1)
        have hg:=map_getD Sf.Outp.cells os j hj
        have hm:=List.getElem_mem hj
        have hok:=ok.outs _ hm
        obtain ⟨x,hx⟩ : ∃ x,os[j] = x:=⟨_,rfl⟩
        rw [hx] at hs hg hok
        rw [hs,List.length_append] at ht
        obtain ⟨m,⟨k,n,s,is,ks⟩,b⟩:=x
        have hVA : (V.mk k n s is ks).A = .agg [.int .i64 k,.int .i64 n,.str s,.sl 5 .no (V.cellss is),.sl 1 .no (strsA ks)]:=by simp only [V.A,V.cells]
        have cv:=fun (m : List UInt8) (h : Hp) (hb : h.b[0]? = some (wtr ver m)) (hm : m.length + (Val.enc (.mk k n s is ks)).length + 10 ≤ 1000000000) => wv hb (.mk k n s is ks) hok.1 hm hok.2
        rw [hVA] at cv
        simp only [Sf.Outp.cells] at hg
        simp only [Sf.outE] at hs ht
        simp only [List.length_append] at ht
        have k1:=strE_le m
        refine run0 (ai t0 (ai t3 (ai ta (ai tb (ai tc (ai hlt (ai hg (ai hlt' hj0)))))))) ?_
        refine use (wt rfl m (by simp only [List.length_append,hml]; omega)) ?_
        refine run0 (ai t0 (ai t3 (ai ta (ai tb tc)))) ?_
        refine use (cv _ _ rfl (by simp only [List.length_append,hml]; omega)) ?_
        refine run0 (ai t0 (ai t3 (ai ta (ai tb tc)))) ?_
        refine use (wf rfl b (by simp only [List.length_append,hml]; omega)) ?_
        refine run0 (ai t0 (ai t3 (ai ta (ai tb (ai tc ei))))) ?_
        exact ⟨os.length - (j + 1),by omega,j + 1,l ++ [.cells 98 [.str m,.int .i64 k,.int .i64 n,.str s,.sl 5 .no (V.cellss is),.sl 1 .no (strsA ks),.bool b]],rfl,by omega,by rw [hs]; simp only [List.append_assoc],by (exact ev0 t0),by (exact ev0 t3),by (exact ev0 ta),by (exact ev0 tb),by (exact ev0 ei)⟩
       ·have hlt : ¬ ((j : Int) < (os.length : Int)):=by omega
        have hjl : j = os.length:=by omega
        subst hjl
        rw [List.take_length]
        refine run0 (ai t0 (ai t3 (ai ta (ai tb (ai tc hlt))))) ?_
        exact ⟨_,le_refl _,_,rfl,rfl,by rw [hE]; simp only [List.append_assoc,List.nil_append]⟩
end AX
end Go.Proofs.YtnjkemakcejceaaGreatDoor

namespace Go.Proofs.YtnjkemakcejceaaGreatDoor
open Go.RowKit
set_option maxHeartbeats 4000000
namespace AX
def c_stext : AX.AFn:=⟨9,.seq (.reg false [aR 2 (.mv (.c (.bool false)))]) (.seq (.reg false [aM 3 0,aR 4 (.bin .neq (.t 3) (.c (.str []))),aM 5 4,aG 6 (.mv (.t 0)) 5 true,aG 7 (.call 74 [.t 6]) 5 true,aR 8 (.pick (.t 5) (.t 7) (.c (.bool false))),aM 2 8]) (.ret)),[.t 2]⟩
theorem h_stext : AX.compFn Tryz.prog 39 = some c_stext:=by kernel_rfl
def c_scheck : AX.AFn:=⟨128,.seq (.reg false [aR 1 (.box 26 (.t 0)),aR 2 (.mv (aI 0))]) (.seq (.seq (.reg false [aR 11 (.faddr 0 (.t 1)),aR 12 (.load false 1 (.t 11)),aR 13 (.call 39 [.t 12]),aR 14 (.un .not (.t 13))]) (.cond (.t 14) (.seq (.reg false [aR 2 (.mv (aI 1))]) (.ret)) (.skip))) (.seq (.seq (.reg false [aR 15 (.faddr 1 (.t 1)),aR 16 (.load false 1 (.t 15)),aR 17 (.bin .lss (.t 16) (aI 0)),aM 18 17,aG 19 (.faddr 1 (.t 1)) 18 false,aG 20 (.load false 1 (.t 19)) 18 false,aG 21 (.bin .gtr (.t 20) (aI 9007199254740992)) 18 false,aR 22 (.pick (.t 18) (.c (.bool true)) (.t 21))]) (.cond (.t 22) (.seq (.reg false [aR 2 (.mv (aI 5))]) (.ret)) (.skip))) (.seq (.seq (.reg false [aR 23 (.faddr 2 (.t 1)),aR 24 (.load false 1 (.t 23)),aR 25 (.len false (.t 24)),aR 26 (.faddr 3 (.t 1)),aR 27 (.load false 1 (.t 26)),aR 28 (.len false (.t 27)),aR 29 (.faddr 4 (.t 1)),aR 30 (.load false 1 (.t 29)),aR 31 (.len false (.t 30)),aR 32 (.max3 (.t 25) (.t 28) (.t 31)),aR 33 (.bin .gtr (.t 32) (aI 512))]) (.cond (.t 33) (.seq (.reg false [aR 2 (.mv (aI 14))]) (.ret)) (.skip))) (.seq (.seq (.reg false [aR 34 (.faddr 2 (.t 1)),aR 35 (.load false 1 (.t 34)),aR 36 (.len false (.t 35)),aR 37 (.mv (aI 0))]) (.block 0 (.loop (.seq (.reg false [aR 38 (.bin .lss (.t 37) (.t 36))]) (.seq (.cond (.t 38) (.skip) (.exit 0)) (.seq (.block 1 (.seq (.reg false [aM 39 37,aR 40 (.iaddr 13 (.t 35) (.t 37)),aR 41 (.load true 13 (.t 40)),aR 4 (.alloc 42 [.str [],.str [],.str [],.str [],.int .i64 0,.int .i64 0,.str [],.sl 0 .nil [],.sl 0 .nil [],.int .i64 0,.bool false,.bool false,.sl 0 .nil []]),aM 3 39,aU (.store 13 (.t 4) (.t 41))]) (.seq (.seq (.reg false [aR 42 (.load true 13 (.t 4)),aR 43 (.call 40 [.t 42]),aM 5 43]) (.seq (.reg false [aM 44 5,aR 45 (.bin .neq (.t 44) (aI 0))]) (.cond (.t 45) (.seq (.reg false [aM 46 5,aM 2 46]) (.ret)) (.skip)))) (.seq (.reg true [aM 47 3,⟨some 48,.bin .gtr (.t 47) (aI 0),none,[0]⟩,⟨some 49,.mv (.t 48),none,[1]⟩,⟨some 50,.faddr 2 (.t 1),some (49,true),[2]⟩,⟨some 51,.load false 1 (.t 50),some (49,true),[3,2]⟩,⟨some 52,.mv (.t 3),some (49,true),[2]⟩,⟨some 53,.bin .sub (.t 52) (aI 1),some (49,true),[5,2]⟩,⟨some 54,.iaddr 13 (.t 51) (.t 53),some (49,true),[4,6,2]⟩,⟨some 55,.load true 13 (.t 54),some (49,true),[7,2]⟩,⟨some 56,.call 41 [.t 55],some (49,true),[8,2,2]⟩,⟨some 57,.load true 13 (.t 4),some (49,true),[2]⟩,⟨some 58,.call 41 [.t 57],some (49,true),[10,9,2]⟩,⟨some 59,.call 42 [.t 56,.t 58],some (49,true),[9,11,11,2]⟩,⟨some 60,.bin .geq (.t 59) (aI 0),some (49,true),[12,2]⟩,⟨some 61,.pick (.t 49) (.t 60) (.c (.bool false)),none,[2,13]⟩]) (.cond (.t 61) (.seq (.reg false [aR 2 (.mv (aI 1))]) (.ret)) (.skip)))))) (.reg false [aR 62 (.bin .add (.t 37) (aI 1)),aM 37 62]))))))) (.seq (.seq (.reg false [aR 63 (.faddr 3 (.t 1)),aR 64 (.load false 1 (.t 63)),aR 65 (.len false (.t 64)),aR 66 (.mv (aI 0))]) (.block 2 (.loop (.seq (.reg false [aR 67 (.bin .lss (.t 66) (.t 65))]) (.seq (.cond (.t 67) (.skip) (.exit 2)) (.seq (.block 3 (.seq (.reg false [aM 68 66,aR 69 (.iaddr 3 (.t 64) (.t 66)),aR 70 (.load true 3 (.t 69)),aR 7 (.alloc 95 [.str [],.str [],.str []]),aM 6 68,aU (.store 3 (.t 7) (.t 70))]) (.seq (.reg true [aR 71 (.faddr 2 (.t 7)),⟨some 72,.load false 1 (.t 71),none,[0]⟩,⟨some 73,.call 39 [.t 72],none,[1]⟩,⟨some 74,.un .not (.t 73),none,[2]⟩,⟨some 75,.mv (.t 74),none,[3,2]⟩,⟨some 76,.faddr 0 (.t 7),some (75,false),[4]⟩,⟨some 77,.load false 1 (.t 76),some (75,false),[5,4]⟩,⟨some 78,.faddr 1 (.t 7),some (75,false),[4]⟩,⟨some 79,.load false 1 (.t 78),some (75,false),[7,4]⟩,⟨some 80,.call 43 [.t 77,.t 79],some (75,false),[6,8,4,4]⟩,⟨some 81,.un .not (.t 80),some (75,false),[9,4]⟩,⟨some 82,.pick (.t 75) (.c (.bool true)) (.t 81),none,[4,10]⟩,⟨some 83,.mv (.t 82),none,[11,9]⟩,⟨some 84,.mv (.t 6),some (83,false),[12]⟩,⟨some 85,.bin .gtr (.t 84) (aI 0),some (83,false),[13,12]⟩,⟨some 86,.mv (.t 85),some (83,false),[14,12,12]⟩,⟨some 87,.faddr 3 (.t 1),some (86,true),[15]⟩,⟨some 88,.load false 1 (.t 87),some (86,true),[16,15]⟩,⟨some 89,.mv (.t 6),some (86,true),[15]⟩,⟨some 90,.bin .sub (.t 89) (aI 1),some (86,true),[18,15]⟩,⟨some 91,.iaddr 3 (.t 88) (.t 90),some (86,true),[17,19,15]⟩,⟨some 92,.faddr 2 (.t 91),some (86,true),[20,15]⟩,⟨some 93,.load false 1 (.t 92),some (86,true),[21,15]⟩,⟨some 94,.faddr 2 (.t 7),some (86,true),[15]⟩,⟨some 95,.load false 1 (.t 94),some (86,true),[23,15]⟩,⟨some 96,.bin .geq (.t 93) (.t 95),some (86,true),[22,24,15]⟩,⟨some 97,.pick (.t 86) (.t 96) (.c (.bool false)),some (83,false),[15,25,12]⟩,⟨some 98,.pick (.t 83) (.c (.bool true)) (.t 97),none,[12,26]⟩]) (.cond (.t 98) (.seq (.reg false [aR 2 (.mv (aI 1))]) (.ret)) (.skip))))) (.reg false [aR 99 (.bin .add (.t 66) (aI 1)),aM 66 99]))))))) (.seq (.seq (.reg false [aR 100 (.faddr 4 (.t 1)),aR 101 (.load false 1 (.t 100)),aR 102 (.len false (.t 101)),aR 103 (.mv (aI 0))]) (.block 4 (.loop (.seq (.reg false [aR 104 (.bin .lss (.t 103) (.t 102))]) (.seq (.cond (.t 104) (.skip) (.exit 4)) (.seq (.block 5 (.seq (.reg false [aM 105 103,aR 106 (.iaddr 7 (.t 101) (.t 103)),aR 107 (.load true 7 (.t 106)),aR 9 (.alloc 98 [.str [],.int .i64 0,.int .i64 0,.str [],.sl 0 .nil [],.sl 0 .nil [],.bool false]),aM 8 105,aU (.store 7 (.t 9) (.t 107))]) (.seq (.seq (.reg false [aR 108 (.load true 7 (.t 9)),aR 109 (.call 44 [.t 108]),aM 10 109]) (.seq (.reg false [aM 110 10,aR 111 (.bin .neq (.t 110) (aI 0))]) (.cond (.t 111) (.seq (.reg false [aM 112 10,aM 2 112]) (.ret)) (.skip)))) (.seq (.reg true [aM 113 8,⟨some 114,.bin .gtr (.t 113) (aI 0),none,[0]⟩,⟨some 115,.mv (.t 114),none,[1]⟩,⟨some 116,.faddr 4 (.t 1),some (115,true),[2]⟩,⟨some 117,.load false 1 (.t 116),some (115,true),[3,2]⟩,⟨some 118,.mv (.t 8),some (115,true),[2]⟩,⟨some 119,.bin .sub (.t 118) (aI 1),some (115,true),[5,2]⟩,⟨some 120,.iaddr 7 (.t 117) (.t 119),some (115,true),[4,6,2]⟩,⟨some 121,.faddr 0 (.t 120),some (115,true),[7,2]⟩,⟨some 122,.load false 1 (.t 121),some (115,true),[8,2]⟩,⟨some 123,.faddr 0 (.t 9),some (115,true),[2]⟩,⟨some 124,.load false 1 (.t 123),some (115,true),[10,2]⟩,⟨some 125,.bin .geq (.t 122) (.t 124),some (115,true),[9,11,2]⟩,⟨some 126,.pick (.t 115) (.t 125) (.c (.bool false)),none,[2,12]⟩]) (.cond (.t 126) (.seq (.reg false [aR 2 (.mv (aI 1))]) (.ret)) (.skip)))))) (.reg false [aR 127 (.bin .add (.t 103) (aI 1)),aM 103 127]))))))) (.seq (.reg false [aR 2 (.mv (aI 0))]) (.ret)))))))),[.t 2]⟩
theorem h_scheck : AX.compFn Tryz.prog 8 = some c_scheck:=by kernel_rfl
theorem a_stext (s : List UInt8) (hs : s.length ≤ 2000000) (h : Hp) : ACall Tryz.prog GT 39 [.str s] h fun r h' => r = .bool (s != [] && Str.valid s) ∧ h' = h:=by
 refine pcall ?_ rfl (by simp [A.pure,A.data]) h
 refine acall_of mixedT h_stext (by simp [c_stext]) ?_
 dsimp only [c_stext]
 rcases bool_or (s != []) with h1 | h1
 ·refine go0 h1 ?_
  refine gc0 h1 ?_
  refine (a_valid s hs _).mono ?_
  rintro v h1' ⟨rfl,rfl⟩
  refine go0 h1 ?_
  exact ⟨_,le_refl _,by rw [tupA_1,h1]; rfl⟩
 ·refine go0 h1 ?_
  exact ⟨_,le_refl _,by rw [tupA_1,h1]; rfl⟩
end AX
end Go.Proofs.YtnjkemakcejceaaGreatDoor

namespace Go.Proofs.YtnjkemakcejceaaGreatDoor
open Go.RowKit
set_option maxHeartbeats 4000000
namespace AX
def c_encode : AX.AFn:=⟨29,.seq (.reg false [aR 2 (.box 26 (.t 0)),aR 4 (.mv (.c (.str []))),aR 5 (.mv (aI 0))]) (.seq (.seq (.reg false [aR 8 (.load true 5 (.t 2)),aR 9 (.call 8 [.t 8]),aM 6 9]) (.seq (.reg false [aM 10 6,aR 11 (.bin .neq (.t 10) (aI 0))]) (.cond (.t 11) (.seq (.reg false [aM 12 6,aR 4 (.mv (.c (.str []))),aM 5 12]) (.ret)) (.skip)))) (.seq (.reg false [aM 13 1,aR 14 (.build [.nilp,.sl 0 .nil [],.int .i64 0] [(2,1,.t 13)]),aR 15 (.box 142 (.t 14)),aM 7 15]) (.seq (.reg false [aM 16 7,aR 17 (.load true 5 (.t 2)),aR 18 (.call 86 [.t 16,.t 17])]) (.seq (.seq (.reg false [aM 19 7,aR 20 (.nilck (.t 19)),aR 21 (.faddr 0 (.t 20)),aR 22 (.call 87 [.t 21]),aR 23 (.bin .gtr (.t 22) (aI 1048572))]) (.cond (.t 23) (.seq (.reg false [aR 4 (.mv (.c (.str []))),aR 5 (.mv (aI 3))]) (.ret)) (.skip))) (.seq (.reg false [aM 24 7,aR 25 (.nilck (.t 24)),aR 26 (.faddr 0 (.t 25)),aR 27 (.call 85 [.t 26]),aR 28 (.call 88 [.t 27]),aM 4 28,aR 5 (.mv (aI 0))]) (.ret)))))),[.t 4,.t 5]⟩
theorem h_encode : AX.compFn Tryz.prog 47 = some c_encode:=by kernel_rfl
def c_Encode : AX.AFn:=⟨8,.seq (.reg false [aR 1 (.box 26 (.t 0)),aR 2 (.mv (.c (.str []))),aR 3 (.mv (aI 0))]) (.seq (.reg false [aR 4 (.load true 5 (.t 1)),aR 5 (.call 47 [.t 4,aI 2]),aR 6 (.extract (.t 5) 0),aR 7 (.extract (.t 5) 1),aM 2 6,aM 3 7]) (.ret)),[.t 2,.t 3]⟩
theorem h_Encode : AX.compFn Tryz.prog 10 = some c_Encode:=by kernel_rfl
def c_Decode : AX.AFn:=⟨64,.seq (.reg false [aR 2 (.alloc 26 [.str [],.int .i64 0,.sl 0 .nil [],.sl 0 .nil [],.sl 0 .nil []]),aR 3 (.mv (aI 0))]) (.seq (.seq (.reg false [aM 9 0,aR 10 (.len true (.t 9)),aR 11 (.bin .gtr (.t 10) (aI 1048576))]) (.cond (.t 11) (.seq (.reg false [aR 12 (.build [.str [],.int .i64 0,.sl 0 .nil [],.sl 0 .nil [],.sl 0 .nil []] []),aU (.store 5 (.t 2) (.t 12)),aR 3 (.mv (aI 3))]) (.ret)) (.skip))) (.seq (.seq (.reg false [aM 13 0,aR 14 (.call 48 [.t 13,.c (.str [80,86,83,84])]),aR 15 (.un .not (.t 14))]) (.cond (.t 15) (.seq (.reg false [aR 16 (.build [.str [],.int .i64 0,.sl 0 .nil [],.sl 0 .nil [],.sl 0 .nil []] []),aU (.store 5 (.t 2) (.t 16)),aR 3 (.mv (aI 2))]) (.ret)) (.skip))) (.seq (.reg false [aM 18 0,aR 19 (.call 49 [.t 18]),aM 17 19,aR 20 (.extract (.t 17) 0),aR 21 (.extract (.t 17) 1),aM 4 20,aM 5 21]) (.seq (.seq (.reg false [aM 22 5,aR 23 (.bin .neq (.t 22) (aI 0))]) (.cond (.t 23) (.seq (.reg false [aR 24 (.build [.str [],.int .i64 0,.sl 0 .nil [],.sl 0 .nil [],.sl 0 .nil []] []),aU (.store 5 (.t 2) (.t 24)),aR 3 (.mv (aI 20))]) (.ret)) (.skip))) (.seq (.reg false [aM 26 4,aR 27 (.call 45 [.t 26]),aM 25 27,aR 28 (.extract (.t 25) 0),aR 29 (.extract (.t 25) 1),aM 6 28,aM 5 29]) (.seq (.seq (.reg false [aM 30 5,aR 31 (.bin .neq (.t 30) (aI 0))]) (.cond (.t 31) (.seq (.reg false [aR 32 (.build [.str [],.int .i64 0,.sl 0 .nil [],.sl 0 .nil [],.sl 0 .nil []] []),aM 33 5,aU (.store 5 (.t 2) (.t 32)),aM 3 33]) (.ret)) (.skip))) (.seq (.reg false [aM 34 4,aR 35 (.ssl (.t 34) (some (aI 4)) none),aR 36 (.call 50 [.t 35]),aM 37 6,aR 38 (.build [.nilp,.int .i64 0,.bool false] [(0,1,.t 36),(1,1,.t 37)]),aR 39 (.box 109 (.t 38)),aM 7 39]) (.seq (.reg false [aM 40 7,aR 41 (.nilck (.t 40)),aR 42 (.faddr 0 (.t 41)),aR 43 (.load false 1 (.t 42)),aR 44 (.call 51 [.t 43])]) (.seq (.reg false [aM 45 7,aR 46 (.call 52 [.t 45]),aR 8 (.alloc 26 [.str [],.int .i64 0,.sl 0 .nil [],.sl 0 .nil [],.sl 0 .nil []]),aU (.store 5 (.t 8) (.t 46))]) (.seq (.seq (.reg false [aM 47 7,aR 48 (.call 53 [.t 47]),aM 49 48,aG 50 (.mv (.t 7)) 49 false,aG 51 (.nilck (.t 50)) 49 false,aG 52 (.faddr 0 (.t 51)) 49 false,aG 53 (.load false 1 (.t 52)) 49 false,aG 54 (.call 54 [.t 53]) 49 false,aG 55 (.bin .gtr (.t 54) (aI 0)) 49 false,aR 56 (.pick (.t 49) (.c (.bool true)) (.t 55)),aM 57 56,aG 58 (.load true 5 (.t 8)) 57 false,aG 59 (.call 8 [.t 58]) 57 false,aG 60 (.bin .neq (.t 59) (aI 0)) 57 false,aR 61 (.pick (.t 57) (.c (.bool true)) (.t 60))]) (.cond (.t 61) (.seq (.reg false [aR 62 (.build [.str [],.int .i64 0,.sl 0 .nil [],.sl 0 .nil [],.sl 0 .nil []] []),aU (.store 5 (.t 2) (.t 62)),aR 3 (.mv (aI 2))]) (.ret)) (.skip))) (.seq (.reg false [aR 63 (.load true 5 (.t 8)),aU (.store 5 (.t 2) (.t 63)),aR 3 (.mv (aI 0))]) (.ret)))))))))))),[.c 2 true 5,.t 3]⟩
theorem h_Decode : AX.compFn Tryz.prog 12 = some c_Decode:=by kernel_rfl
theorem a_csAppend (s : List UInt8) (hs : s.length ≤ 1000000000) (h : Hp) : ACall Tryz.prog GT 88 [.str s] h fun v h' => v = .str (Crc.app s) ∧ h' = h:=
 acall_imp (args1 r_str) (fun w hg => append_any ⟨s.toArray⟩ w (by rw [size_mk]; exact hs)) (fun C => rep_str.2 rfl) h
theorem a_csVerify (s : List UInt8) (hs : s.length ≤ 1000000000) (h : Hp) : ACall Tryz.prog GT 49 [.str s] h fun v h' => v = .tup [.str (Crc.ver s).1,.int .i64 (Crc.ver s).2] ∧ h' = h:=
 acall_imp (args1 r_str) (fun w hg => verify_any ⟨s.toArray⟩ w (by rw [size_mk]; exact hs)) (fun C => rep_tup.2 ⟨_,rfl,repL_cons.2 ⟨_,_,rfl,rep_str.2 rfl,repL_cons.2 ⟨_,_,rfl,rep_int.2 rfl,repL_nil.2 rfl⟩⟩⟩) h
def stE : A:=.agg [.str [],.int .i64 0,.sl 0 .nil [],.sl 0 .nil [],.sl 0 .nil []]
end AX
end Go.Proofs.YtnjkemakcejceaaGreatDoor

namespace Go.Proofs.YtnjkemakcejceaaGreatDoor
open Go.RowKit
set_option maxHeartbeats 4000000
namespace Sf
def zero : St:=⟨[],0,[],[],[]⟩
def encode (ver : Int) (st : St) : List UInt8 × Int:=
 if checkZ st ≠ 0 then ([],checkZ st) else if 1048572 < (stE ver st).length then ([],3) else (Crc.app (stE ver st),0)
def decode (s : List UInt8) : St × Int:=
 if 1048576 < s.length then (zero,3)
 else if AX.preB s = false then (zero,2)
 else if (Crc.ver s).2 ≠ 0 then (zero,20)
 else if (AX.versionS (Crc.ver s).1).2 ≠ 0 then (zero,(AX.versionS (Crc.ver s).1).2)
 else
  let r:=stateS (AX.versionS (Crc.ver s).1).1 ⟨(Wire.numR ⟨(Crc.ver s).1.drop 4,0⟩).1,false⟩
  if r.1.fails || decide (0 < r.1.r.rest.length) || checkZ r.2 != 0 then (zero,2) else (r.2,0)
end Sf
namespace AX
def SCheck (st : Sf.St) : Prop:=∀ h,ACall Tryz.prog GT 8 [st.A] h fun r h' => r = .int .i64 (Sf.checkZ st) ∧ h' = h
theorem w_statei {ver : Int} (hver : ver = 1 ∨ ver = 2) (st : Sf.St) (ok : Sf.StOk st) (hlen : (Sf.stE ver st).length + 20 ≤ 1000000000) {h : Hp} {i : Nat} (hb : h.b[i]? = some (.cells 142 [.nilp,.sl 0 .nil [],.int .i64 ver])) :
  ACall Tryz.prog GT 86 [.ptr i 0,st.A] h fun u h' => u = .tup [] ∧ h' = ⟨h.b.set i (wtr ver (Sf.stE ver st)),h.t⟩:=by
 refine (ACall.lift1 (w_state hver st ok hlen) rfl (by intros; rfl) ?_ hb).mono ?_
 ·rintro u b' ⟨rfl,rfl⟩
  exact ⟨rfl,wtr_loc _ _⟩
 ·rintro u h' ⟨b',⟨rfl,rfl⟩,rfl⟩
  exact ⟨rfl,rfl⟩
theorem stE_ne (ver : Int) (st : Sf.St) : Sf.stE ver st ≠ []:=by
 unfold Sf.stE Sf.magic
 simp
theorem a_encode {ver : Int} (hver : ver = 1 ∨ ver = 2) (st : Sf.St) (hck : SCheck st) (hok : Sf.checkZ st = 0 → Sf.StOk st ∧ (Sf.stE ver st).length + 20 ≤ 1000000000) (h : Hp) :
  ACall Tryz.prog GT 47 [st.A,.int .i64 ver] h fun r h' => r = .tup [.str (Sf.encode ver st).1,.int .i64 (Sf.encode ver st).2] ∧ h' = h:=by
 refine pcall ?_ rfl (by simp [A.pure,A.data,Sf.St.A]) h
 refine acall_of mixedT h_encode (by simp [c_encode]) ?_
 dsimp only [c_encode]
 have hw:=fun h hb hz => w_statei hver st (hok hz).1 (hok hz).2 (h:=h) (i:=1) hb
 have hE : Sf.encode ver st = if Sf.checkZ st ≠ 0 then ([],Sf.checkZ st) else if 1048572 < (Sf.stE ver st).length then ([],3) else (Crc.app (Sf.stE ver st),0):=rfl
 unfold SCheck at hck
 unfold Sf.St.A at hck hw ⊢
 by_cases hz : Sf.checkZ st = 0
 ·have e1 : (Sf.checkZ st != 0) = false:=by simp [hz]
  rw [if_neg (by simp [hz])] at hE
  refine run0 ti ?_
  refine use (hck _) ?_
  refine run0 e1 ?_
  refine use (hw _ rfl hz) ?_
  refine run0 ti ?_
  refine use (a_wlen (i:=1) (ver:=ver) (l:=Sf.stE ver st) (.inl rfl)) ?_
  by_cases hl : ((Sf.stE ver st).length : Int) > 1048572
  ·rw [if_pos (by omega)] at hE
   refine run0 hl ?_
   exact ⟨_,le_refl _,by rw [hE]; rfl⟩
  ·rw [if_neg (by omega)] at hE
   refine run0 hl ?_
   refine use (a_wstring (i:=1) (ver:=ver) (l:=Sf.stE ver st) (.inl rfl) (stE_ne _ _)) ?_
   refine run0 ti ?_
   refine use (a_csAppend _ (by omega) _) ?_
   refine run0 ti ?_
   exact ⟨_,le_refl _,by rw [hE]; rfl⟩
 ·have e1 : (Sf.checkZ st != 0) = true:=by simp [hz]
  rw [if_pos hz] at hE
  refine run0 ti ?_
  refine use (hck _) ?_
  refine run0 e1 ?_
  exact ⟨_,le_refl _,by rw [hE]; rfl⟩
theorem a_Encode (st : Sf.St) (hck : SCheck st) (hok : Sf.checkZ st = 0 → Sf.StOk st ∧ (Sf.stE 2 st).length + 20 ≤ 1000000000) (h : Hp) :
  ACall Tryz.prog GT 10 [st.A] h fun r h' => r = .tup [.str (Sf.encode 2 st).1,.int .i64 (Sf.encode 2 st).2] ∧ h' = h:=by
 refine pcall ?_ rfl (by simp [A.pure,A.data,Sf.St.A]) h
 refine acall_of mixedT h_Encode (by simp [c_Encode]) ?_
 dsimp only [c_Encode]
 have he:=fun h => a_encode (.inr rfl) st hck hok h
 unfold Sf.St.A at he ⊢
 refine run0 ti ?_
 refine use (he _) ?_
 refine run0 ti ?_
 exact ⟨_,le_refl _,rfl⟩
theorem liftD {P : Program} {G : World → Prop} {f : FuncId} {args : List A} {ver : Int} {s s' : Sf.Rs} {v : A} (hc : ACall P G f (.ptr 0 0 :: args) ⟨[RB ver s.bad,rdr s.r],[]⟩ fun v' h' => v' = v ∧ h' = ⟨[RB ver s'.bad,rdr s'.r],[]⟩) (ha : A.locL 0 args = true) (hv : v.loc 0 = true) (z : Blk) (l : List Blk) (t : List (TypeId × Nat × Nat)) :
  ACall P G f (.ptr 2 0 :: args) ⟨z :: rdr s.r :: RB ver s.bad :: l,t⟩ fun v' h' => v' = v ∧ h' = ⟨z :: rdr s'.r :: RB ver s'.bad :: l,t⟩:=by
 have key:=ACall.lift hc (fun i => if i = 0 then 2 else i) (fun a b ha hb e => by
   simp only [List.length_cons,List.length_nil] at ha hb
   have h1 : a = 0 ∨ a = 1:=by omega
   have h2 : b = 0 ∨ b = 1:=by omega
   rcases h1 with rfl | rfl <;> rcases h2 with rfl | rfl <;> simp at e ⊢) (by unfold A.locL; rw [(A.locL0 _ args ha).1]; rfl)
  (fun x hx => by
   rcases List.mem_cons.1 hx with rfl | hx
   ·rfl
   ·rw [List.mem_singleton.1 hx]; rfl)
  (fun v' h' ⟨e,h0⟩ => ⟨by rw [e]; exact (A.loc0 _ v hv).1,fun j x hj hx => by
   have : j = 0 ∨ j = 1:=by simp only [List.length_cons,List.length_nil] at hj; omega
   rw [h0] at hx
   rcases this with rfl | rfl
   ·simp only [List.getElem?_cons_zero] at hx; injection hx with hx; subst hx; rfl
   ·simp only [List.getElem?_cons_zero,List.getElem?_cons_succ] at hx; injection hx with hx; subst hx; rfl⟩)
  (h:=⟨z :: rdr s.r :: RB ver s.bad :: l,t⟩) (fun j hj => by
   have : j = 0 ∨ j = 1:=by simp only [List.length_cons,List.length_nil] at hj; omega
   rcases this with rfl | rfl <;> rfl)
 have e : A.renL (fun i => if i = 0 then 2 else i) (.ptr 0 0 :: args) = .ptr 2 0 :: args:=by unfold A.renL; rw [(A.locL0 0 args ha).2]; rfl
 rw [e] at key
 refine key.mono ?_
 rintro v' h' ⟨v0,h0,⟨rfl,rfl⟩,rfl,rfl⟩
 exact ⟨(A.loc0 0 _ hv).2 _,rfl⟩
theorem versionS_12 {s : List UInt8} (h : (versionS s).2 = 0) : (versionS s).1 = 1 ∨ (versionS s).1 = 2:=by
 unfold versionS at h ⊢
 split at h
 ·cases h
 ·rename_i h1
  rw [if_neg h1]
  dsimp only at h ⊢
  split at h
  ·cases h
  ·rename_i h2
   rw [if_neg h2]
   split at h
   ·cases h
   ·rename_i h3
    rw [if_neg h3]
    dsimp only
    omega
theorem a_Decode (s : List UInt8) (hlen : s.length ≤ 1000000000) (hvl : (Crc.ver s).1.length ≤ s.length) (hck : ∀ ver r,r.rest.length ≤ s.length → SCheck (Sf.stateS ver ⟨r,false⟩).2) (h : Hp) :
  ACall Tryz.prog GT 12 [.str s] h fun r h' => r = .tup [(Sf.decode s).1.A,.int .i64 (Sf.decode s).2] ∧ h' = h:=by
 refine pcall ?_ rfl (by simp [A.pure,A.data]) h
 refine acall_of mixedT h_Decode (by simp [c_Decode]) ?_
 dsimp only [c_Decode]
 obtain ⟨D,hD⟩ : ∃ D,Sf.decode s = D:=⟨_,rfl⟩
 rw [hD]
 unfold Sf.decode at hD
 have hzA : Sf.zero.A = .agg [.str [],.int .i64 0,.sl 13 .no [],.sl 3 .no [],.sl 7 .no []]:=rfl
 have hz : ∀ e : Int,le (.tup [.agg [.str [],.int .i64 0,.sl 0 .nil [],.sl 0 .nil [],.sl 0 .nil []],.int .i64 e]) (.tup [Sf.zero.A,.int .i64 e]):=fun e => ⟨⟨le1_refl _,le1_refl _,⟨rfl,.inr rfl,.inl rfl⟩,⟨rfl,.inr rfl,.inl rfl⟩,⟨rfl,.inr rfl,.inl rfl⟩,trivial⟩,rfl,trivial⟩
 by_cases hl : (s.length : Int) > 1048576
 ·rw [if_pos (by omega)] at hD
  refine run0 hl ?_
  exact ⟨_,hz _,by subst hD; rfl⟩
 rw [if_neg (by omega)] at hD
 refine run0 hl ?_
 refine use (a_hasPrefix s magic _) ?_
 by_cases hp : preB s = false
 ·rw [if_pos hp] at hD
  unfold preB at hp
  refine run0 hp ?_
  exact ⟨_,hz _,by subst hD; rfl⟩
 rw [if_neg hp] at hD
 have hp' : (decide (magic.length ≤ s.length) && s.take magic.length == magic) = true:=by unfold preB at hp; simpa using hp
 refine run0 hp' ?_
 refine use (a_csVerify s hlen _) ?_
 obtain ⟨⟨b,e⟩,hv⟩ : ∃ q,Crc.ver s = q:=⟨_,rfl⟩
 rw [hv] at hD hvl ⊢
 dsimp only at hD hvl ⊢
 by_cases he : e = 0
 rotate_left
 ·have e1 : (e != 0) = true:=by simp [he]
  rw [if_pos he] at hD
  refine run0 e1 ?_
  exact ⟨_,hz _,by subst hD; rfl⟩
 have e1 : (e != 0) = false:=by simp [he]
 rw [if_neg (by simp [he])] at hD
 refine run0 e1 ?_
 refine use (a_version b (by omega) _) ?_
 have h12:=@versionS_12 b
 obtain ⟨⟨n,e2⟩,hn⟩ : ∃ q,versionS b = q:=⟨_,rfl⟩
 rw [hn] at hD h12 ⊢
 dsimp only at hD h12 ⊢
 by_cases he2 : e2 = 0
 rotate_left
 ·have e3 : (e2 != 0) = true:=by simp [he2]
  rw [if_pos he2] at hD
  refine run0 e3 ?_
  exact ⟨_,hz _,by subst hD; rfl⟩
 have e3 : (e2 != 0) = false:=by simp [he2]
 rw [if_neg (by simp [he2])] at hD
 have hb4 : 4 ≤ b.length:=by
  have hp4 : preB b = true:=by
   rcases bool_or (preB b) with h1 | h1
   ·first | exact h1 | (exfalso; unfold versionS at hn; rw [if_pos h1] at hn; injection hn with _ hn; omega)
   ·first | exact h1 | (exfalso; unfold versionS at hn; rw [if_pos h1] at hn; injection hn with _ hn; omega)
  unfold preB at hp4
  have hml : magic.length = 4:=rfl
  simp only [Bool.and_eq_true,decide_eq_true_eq,hml] at hp4
  exact hp4.1
 have hb5 : (4 : Int) ≤ (b.length : Int):=by omega
 refine run0 (ai e3 hb5) ?_
 refine use (a_newReader (b.drop 4) _) ?_
 refine run0 ti ?_
 refine use (a_number (i:=1) (r:=⟨b.drop 4,0⟩) rfl (by rw [List.length_drop]; omega)) ?_
 have hql:=Wire.numR_rest ⟨b.drop 4,0⟩
 obtain ⟨⟨q,qn⟩,hq⟩ : ∃ x,Wire.numR ⟨b.drop 4,0⟩ = x:=⟨_,rfl⟩
 rw [hq] at hD hql ⊢
 dsimp only at hD hql ⊢
 rw [List.length_drop] at hql
 have cs:=liftD (a_rstate (h12 he2) ⟨q,false⟩ (by dsimp only; omega) [] []) rfl rfl (.cells 26 [.str [],.int .i64 0,.sl 0 .nil [],.sl 0 .nil [],.sl 0 .nil []]) [] []
 have hc:=hck n q (by omega)
 obtain ⟨⟨⟨r,bad⟩,st⟩,hs⟩ : ∃ x,Sf.stateS n ⟨q,false⟩ = x:=⟨_,rfl⟩
 rw [hs] at cs hc hD
 unfold SCheck at hc
 unfold Sf.St.A at cs hc
 unfold RB at cs
 dsimp only at cs hc hD
 have cf:=liftD (a_rfails (ver:=n) ⟨r,bad⟩ [] []) rfl rfl (.cells 26 [.str [],.int .i64 0,.sl 0 .nil [],.sl 0 .nil [],.sl 0 .nil []]) [.cells 26 [.str st.lin,.int .i64 st.ser,.sl 13 .no (st.insts.map Sf.Inst.cells),.sl 3 .no (st.pends.map Sf.Pend.cells),.sl 7 .no (st.outs.map Sf.Outp.cells)]] []
 unfold RB at cf
 dsimp only at cf
 refine run0 ti ?_
 refine use cs ?_
 refine run0 ti ?_
 refine use cf ?_
 obtain ⟨F,hF⟩ : ∃ F,(⟨r,bad⟩ : Sf.Rs).fails = F:=⟨_,rfl⟩
 rw [hF] at hD ⊢
 cases F
 rotate_left
 ·rw [if_pos (by simp only [Bool.true_or])] at hD
  refine run0 ti ?_
  exact ⟨_,hz _,by subst hD; rfl⟩
 simp only [Bool.false_or] at hD
 refine run0 ti ?_
 refine use (a_left (i:=1) (r:=r) rfl) ?_
 by_cases hL : (r.rest.length : Int) > 0
 ·rw [decide_eq_true (show 0 < r.rest.length by omega),if_pos (by simp only [Bool.true_or])] at hD
  refine run0 hL ?_
  exact ⟨_,hz _,by subst hD; rfl⟩
 have hL2 : decide (0 < r.rest.length) = false:=decide_eq_false (by omega)
 simp only [hL2,Bool.false_or] at hD
 refine run0 hL ?_
 refine use (hc _) ?_
 by_cases hk : Sf.checkZ st = 0
 ·have e4 : (Sf.checkZ st != 0) = false:=by simp [hk]
  rw [if_neg (by simp [e4])] at hD
  refine run0 e4 ?_
  exact ⟨_,le_refl _,by subst hD; rfl⟩
 ·have e4 : (Sf.checkZ st != 0) = true:=by simp [hk]
  rw [if_pos e4] at hD
  refine run0 e4 ?_
  exact ⟨_,hz _,by subst hD; rfl⟩
end AX
end Go.Proofs.YtnjkemakcejceaaGreatDoor

namespace Go.Proofs.YtnjkemakcejceaaGreatDoor
open Go.RowKit
namespace AX
structure Sto where
 key : List UInt8
 lin : List UInt8
 latest : Int
 es : List (Int × List UInt8)
 c : Nat
 own : List UInt8
 left : Int
def strM (es : List (Int × List UInt8)) : List (Int × A):=es.map fun e => (e.1,.str e.2)
def lfind (n : Int) : List (Int × List UInt8) → Option (List UInt8)
 | [] => none
 | (k,x) :: l => if n = k then some x else lfind n l
def lput (n : Int) (x : List UInt8) : List (Int × List UInt8) → List (Int × List UInt8)
 | [] => [(n,x)]
 | (k,y) :: l => if n = k then (n,x) :: l else (k,y) :: lput n x l
def lerase (n : Int) : List (Int × List UInt8) → List (Int × List UInt8)
 | [] => []
 | (k,y) :: l => if n = k then l else (k,y) :: lerase n l
theorem mfind_str (n : Int) : ∀ es,mfind n (strM es) = (lfind n es).map A.str
 | [] => rfl
 | (k,x) :: l => by
  show (if n = k then some (A.str x) else mfind n (strM l)) = _
  unfold lfind
  split
  ·rfl
  ·exact mfind_str n l
theorem mput_str (n : Int) (x : List UInt8) : ∀ es,mput n (.str x) (strM es) = strM (lput n x es)
 | [] => rfl
 | (k,y) :: l => by
  show (if n = k then (n,A.str x) :: strM l else (k,.str y) :: mput n (.str x) (strM l)) = _
  unfold lput
  split
  ·rfl
  ·rw [mput_str n x l]; rfl
theorem merase_str (n : Int) : ∀ es,merase n (strM es) = strM (lerase n es)
 | [] => rfl
 | (k,y) :: l => by
  show (if n = k then strM l else (k,.str y) :: merase n (strM l)) = _
  unfold lerase
  split
  ·rfl
  ·rw [merase_str n l]; rfl
def Sto.M (s : Sto) : Blk:=.map (strM s.es) s.c
def Sto.B (s : Sto) : Blk:=.cells 79 [.str s.key,.str s.lin,.int .i64 s.latest,.mp 0,.str s.own,.int .i64 s.left]
theorem Sto.M_loc (s : Sto) : s.M.loc 2 ∧ s.M.ren (fun i => i) = s.M:=by
 have h : s.M.loc 0:=by
  show ((strM s.es).all fun e => e.2.loc 0) = true
  rw [List.all_eq_true]
  intro e he
  obtain ⟨x,hx,rfl⟩:=List.mem_map.1 he
  rfl
 exact ⟨(Blk.loc0 2 _ h).1,(Blk.loc0 0 _ h).2 _⟩
theorem liftS {P : Program} {G : World → Prop} {f : FuncId} {args : List A} {s s' : Sto} {v : A} (hc : ACall P G f (.ptr 1 0 :: args) ⟨[s.M,s.B],[]⟩ fun v' h' => v' = v ∧ h'.b[0]? = some s'.M ∧ h'.b[1]? = some s'.B) (ha : A.locL 0 args = true) (hv : v.loc 0 = true) (l : List Blk) (t : List (TypeId × Nat × Nat)) :
  ACall P G f (.ptr 1 0 :: args) ⟨s.M :: s.B :: l,t⟩ fun v' h' => v' = v ∧ h' = ⟨s'.M :: s'.B :: l,t⟩:=by
 have key:=ACall.lift hc (fun i => i) (fun a b _ _ e => e) (by unfold A.locL; rw [(A.locL0 _ args ha).1]; rfl)
  (fun x hx => by
   rcases List.mem_cons.1 hx with rfl | hx
   ·exact s.M_loc.1
   ·rw [List.mem_singleton.1 hx]; rfl)
  (fun v' h' ⟨e,h0,h1⟩ => ⟨by rw [e]; exact (A.loc0 _ v hv).1,fun j x hj hx => by
   have : j = 0 ∨ j = 1:=by simp only [List.length_cons,List.length_nil] at hj; omega
   rcases this with rfl | rfl
   ·rw [h0] at hx; injection hx with hx; subst hx; exact s'.M_loc.1
   ·rw [h1] at hx; injection hx with hx; subst hx; rfl⟩)
  (h:=⟨s.M :: s.B :: l,t⟩) (fun j hj => by
   have : j = 0 ∨ j = 1:=by simp only [List.length_cons,List.length_nil] at hj; omega
   rcases this with rfl | rfl
   ·show some s.M = some (s.M.ren fun i => i); rw [s.M_loc.2]
   ·rfl)
 have e : A.renL (fun i => i) (.ptr 1 0 :: args) = .ptr 1 0 :: args:=by unfold A.renL; rw [(A.locL0 0 args ha).2]; rfl
 rw [e] at key
 refine key.mono ?_
 rintro v' h' ⟨v0,⟨b0,t0⟩,⟨rfl,h0,h1⟩,rfl,rfl⟩
 refine ⟨(A.loc0 0 _ hv).2 _,?_⟩
 match b0,h0,h1 with
 | x :: y :: b,h0,h1 =>
  simp only [List.getElem?_cons_zero,List.getElem?_cons_succ,Option.some.injEq] at h0 h1
  subst h0; subst h1
  simp only [List.length_cons,List.length_nil,List.take_succ_cons,List.take_zero,setAll,s'.M_loc.2]
  rfl
namespace Sto
def txt (s : List UInt8) : Bool:=s != [] && Str.valid s
def lock (s : Sto) (who : List UInt8) (n : Int) : Sto × Int:=
 if (txt who && decide (1 ≤ n) && decide (n ≤ 1099511627776)) = false then (s,1)
 else if (s.own != [] && s.own != who) = true then (s,24)
 else ({ s with own:=who,left:=n },0)
def holds (s : Sto) (who : List UInt8) : Bool:=s.own != [] && s.own == who
def unlock (s : Sto) (who : List UInt8) : Sto × Int:=if s.holds who = false then (s,25) else ({ s with own:=[],left:=0 },0)
def tick (s : Sto) (n : Int) : Sto:=
 if n ≤ 0 ∨ s.own = [] then s
 else if s.left - (if s.left < n then s.left else n) = 0 then { s with own:=[],left:=0 } else { s with left:=s.left - (if s.left < n then s.left else n) }
def keep (s : Sto) (st : Sf.St) : Sto × Int:=
 if (Sf.encode 2 st).2 ≠ 0 then (s,(Sf.encode 2 st).2)
 else if (Seal.enc s.key (IntKind.u64.wrap st.ser) (Sf.encode 2 st).1).2 ≠ 0 then (s,(Seal.enc s.key (IntKind.u64.wrap st.ser) (Sf.encode 2 st).1).2)
 else ({ s with latest:=st.ser,es:=lerase (IntKind.i64.wrap (st.ser - 64)) (lput st.ser (Seal.enc s.key (IntKind.u64.wrap st.ser) (Sf.encode 2 st).1).1 s.es),c:=mclock st.ser (strM s.es) s.c },0)
def write (s : Sto) (who : List UInt8) (st : Sf.St) : Sto × Int:=
 if s.holds who = false then (s,25) else if st.lin ≠ s.lin then (s,23) else if st.ser ≠ IntKind.i64.wrap (s.latest + 1) then (s,22) else s.keep st
def plain (s : Sto) (n : Int) : List UInt8 × Int:=match lfind n s.es with
 | none => ([],9)
 | some b => Seal.dec s.key b
def at' (s : Sto) (n : Int) : Sf.St × Int:=
 if (s.plain n).2 ≠ 0 then (Sf.zero,(s.plain n).2)
 else
  let d:=Sf.decode (s.plain n).1
  if d.2 = 0 then (d.1,Sf.checkZ d.1) else d
end Sto
end AX
end Go.Proofs.YtnjkemakcejceaaGreatDoor



namespace Go.Proofs.YtnjkemakcejceaaGreatDoor
open Go.RowKit
set_option maxHeartbeats 4000000
namespace AX
def c_sttext : AX.AFn:=⟨9,.seq (.reg false [aR 2 (.mv (.c (.bool false)))]) (.seq (.reg false [aM 3 0,aR 4 (.bin .neq (.t 3) (.c (.str []))),aM 5 4,aG 6 (.mv (.t 0)) 5 true,aG 7 (.call 74 [.t 6]) 5 true,aR 8 (.pick (.t 5) (.t 7) (.c (.bool false))),aM 2 8]) (.ret)),[.t 2]⟩
theorem h_sttext : AX.compFn Tryz.prog 62 = some c_sttext:=by kernel_rfl
def c_made : AX.AFn:=⟨12,.seq (.reg false [aR 2 (.mv (.c (.bool false)))]) (.seq (.reg false [aM 3 0,aR 4 (.eq 1 [] true (.t 3) (.c (.nilp))),aM 5 4,aG 6 (.mv (.t 0)) 5 true,aG 7 (.nilck (.t 6)) 5 true,aG 8 (.faddr 3 (.t 7)) 5 true,aG 9 (.load false 1 (.t 8)) 5 true,aG 10 (.eq 3 [] true (.t 9) (.c (.nilm))) 5 true,aR 11 (.pick (.t 5) (.t 10) (.c (.bool false))),aM 2 11]) (.ret)),[.t 2]⟩
theorem h_made : AX.compFn Tryz.prog 67 = some c_made:=by kernel_rfl
def c_holds : AX.AFn:=⟨18,.seq (.reg false [aR 4 (.mv (.c (.bool false)))]) (.seq (.reg false [aM 5 0,aR 6 (.nilck (.t 5)),aR 7 (.faddr 4 (.t 6)),aR 8 (.load false 1 (.t 7)),aR 9 (.bin .neq (.t 8) (.c (.str []))),aM 10 9,aG 11 (.mv (.t 0)) 10 true,aG 12 (.nilck (.t 11)) 10 true,aG 13 (.faddr 4 (.t 12)) 10 true,aG 14 (.load false 1 (.t 13)) 10 true,aG 15 (.mv (.t 1)) 10 true,aG 16 (.bin .eql (.t 14) (.t 15)) 10 true,aR 17 (.pick (.t 10) (.t 16) (.c (.bool false))),aM 4 17]) (.ret)),[.t 4]⟩
theorem h_holds : AX.compFn Tryz.prog 68 = some c_holds:=by kernel_rfl
def c_slock : AX.AFn:=⟨42,.seq (.reg false [aR 6 (.mv (aI 0))]) (.seq (.seq (.reg false [aM 7 0,aR 8 (.call 67 [.t 7]),aR 9 (.un .not (.t 8))]) (.cond (.t 9) (.seq (.reg false [aR 6 (.mv (aI 38))]) (.ret)) (.skip))) (.seq (.seq (.reg false [aM 10 1,aR 11 (.call 62 [.t 10]),aR 12 (.un .not (.t 11)),aM 13 12,aG 14 (.mv (.t 2)) 13 false,aG 15 (.bin .lss (.t 14) (aI 1)) 13 false,aR 16 (.pick (.t 13) (.c (.bool true)) (.t 15)),aM 17 16,aG 18 (.mv (.t 2)) 17 false,aG 19 (.bin .gtr (.t 18) (aI 1099511627776)) 17 false,aR 20 (.pick (.t 17) (.c (.bool true)) (.t 19))]) (.cond (.t 20) (.seq (.reg false [aR 6 (.mv (aI 1))]) (.ret)) (.skip))) (.seq (.seq (.reg false [aM 21 0,aR 22 (.nilck (.t 21)),aR 23 (.faddr 4 (.t 22)),aR 24 (.load false 1 (.t 23)),aR 25 (.bin .neq (.t 24) (.c (.str []))),aM 26 25,aG 27 (.mv (.t 0)) 26 true,aG 28 (.nilck (.t 27)) 26 true,aG 29 (.faddr 4 (.t 28)) 26 true,aG 30 (.load false 1 (.t 29)) 26 true,aG 31 (.mv (.t 1)) 26 true,aG 32 (.bin .neq (.t 30) (.t 31)) 26 true,aR 33 (.pick (.t 26) (.t 32) (.c (.bool false)))]) (.cond (.t 33) (.seq (.reg false [aR 6 (.mv (aI 24))]) (.ret)) (.skip))) (.seq (.reg false [aM 34 0,aM 35 0,aM 36 1,aM 37 2,aR 38 (.nilck (.t 34)),aR 39 (.faddr 4 (.t 38)),aU (.store 1 (.t 39) (.t 36)),aR 40 (.nilck (.t 35)),aR 41 (.faddr 5 (.t 40)),aU (.store 1 (.t 41) (.t 37))]) (.seq (.reg false [aR 6 (.mv (aI 0))]) (.ret)))))),[.t 6]⟩
theorem h_slock : AX.compFn Tryz.prog 18 = some c_slock:=by kernel_rfl
def c_sunlock : AX.AFn:=⟨18,.seq (.reg false [aR 4 (.mv (aI 0))]) (.seq (.seq (.reg false [aM 5 0,aR 6 (.call 67 [.t 5]),aR 7 (.un .not (.t 6))]) (.cond (.t 7) (.seq (.reg false [aR 4 (.mv (aI 38))]) (.ret)) (.skip))) (.seq (.seq (.reg false [aM 8 0,aM 9 1,aR 10 (.call 68 [.t 8,.t 9]),aR 11 (.un .not (.t 10))]) (.cond (.t 11) (.seq (.reg false [aR 4 (.mv (aI 25))]) (.ret)) (.skip))) (.seq (.reg false [aM 12 0,aM 13 0,aR 14 (.nilck (.t 12)),aR 15 (.faddr 4 (.t 14)),aU (.store 1 (.t 15) (.c (.str []))),aR 16 (.nilck (.t 13)),aR 17 (.faddr 5 (.t 16)),aU (.store 1 (.t 17) (aI 0))]) (.seq (.reg false [aR 4 (.mv (aI 0))]) (.ret))))),[.t 4]⟩
theorem h_sunlock : AX.compFn Tryz.prog 20 = some c_sunlock:=by kernel_rfl
def c_holder : AX.AFn:=⟨15,.seq (.reg false [aR 2 (.mv (.c (.str []))),aR 3 (.mv (aI 0))]) (.seq (.seq (.reg false [aM 4 0,aR 5 (.call 67 [.t 4]),aR 6 (.un .not (.t 5))]) (.cond (.t 6) (.seq (.reg false [aR 2 (.mv (.c (.str []))),aR 3 (.mv (aI 0))]) (.ret)) (.skip))) (.seq (.reg true [aM 7 0,⟨some 8,.nilck (.t 7),none,[0]⟩,⟨some 9,.faddr 4 (.t 8),none,[1]⟩,⟨some 10,.load false 1 (.t 9),none,[2]⟩,aM 11 0,⟨some 12,.nilck (.t 11),none,[4]⟩,⟨some 13,.faddr 5 (.t 12),none,[5]⟩,⟨some 14,.load false 1 (.t 13),none,[6]⟩,⟨some 2,.mv (.t 10),none,[3,0,1,2,3]⟩,⟨some 3,.mv (.t 14),none,[7,8,0,1,2,3,4,5,6,7,8]⟩]) (.ret))),[.t 2,.t 3]⟩
theorem h_holder : AX.compFn Tryz.prog 35 = some c_holder:=by kernel_rfl
def c_sbreak : AX.AFn:=⟨14,.seq (.reg false [aR 2 (.mv (.c (.bool false)))]) (.seq (.reg false [aM 3 0,aR 4 (.call 67 [.t 3]),aM 5 4,aG 6 (.mv (.t 0)) 5 true,aG 7 (.mv (.t 0)) 5 true,aG 8 (.nilck (.t 7)) 5 true,aG 9 (.faddr 4 (.t 8)) 5 true,aG 10 (.load false 1 (.t 9)) 5 true,aG 11 (.call 20 [.t 6,.t 10]) 5 true,aG 12 (.bin .eql (.t 11) (aI 0)) 5 true,aR 13 (.pick (.t 5) (.t 12) (.c (.bool false))),aM 2 13]) (.ret)),[.t 2]⟩
theorem h_sbreak : AX.compFn Tryz.prog 23 = some c_sbreak:=by kernel_rfl
def c_stick : AX.AFn:=⟨39,.seq (.seq (.reg false [aM 4 0,aR 5 (.call 67 [.t 4]),aR 6 (.un .not (.t 5)),aM 7 6,aG 8 (.mv (.t 1)) 7 false,aG 9 (.bin .leq (.t 8) (aI 0)) 7 false,aR 10 (.pick (.t 7) (.c (.bool true)) (.t 9)),aM 11 10,aG 12 (.mv (.t 0)) 11 false,aG 13 (.nilck (.t 12)) 11 false,aG 14 (.faddr 4 (.t 13)) 11 false,aG 15 (.load false 1 (.t 14)) 11 false,aG 16 (.bin .eql (.t 15) (.c (.str []))) 11 false,aR 17 (.pick (.t 11) (.c (.bool true)) (.t 16))]) (.cond (.t 17) (.ret) (.skip))) (.seq (.reg true [aM 18 0,⟨some 19,.nilck (.t 18),none,[0]⟩,⟨some 20,.faddr 5 (.t 19),none,[1]⟩,⟨some 21,.load false 1 (.t 20),none,[2]⟩,aM 22 1,aM 23 0,⟨some 24,.nilck (.t 23),none,[5]⟩,⟨some 25,.faddr 5 (.t 24),none,[6]⟩,⟨some 26,.load false 1 (.t 25),none,[7]⟩,⟨some 27,.mm false (.t 22) (.t 26),none,[4,8]⟩,⟨some 28,.bin .sub (.t 21) (.t 27),none,[3,9]⟩,⟨some 29,.nilck (.t 18),none,[0,0,1,2,3,4,5,6,7,8,9,10]⟩,⟨some 30,.faddr 5 (.t 29),none,[11,0,1,2,3,4,5,6,7,8,9,10]⟩,⟨none,.store 1 (.t 30) (.t 28),none,[12,10,0,1,2,3,4,5,6,7,8,9,10]⟩]) (.seq (.reg false [aM 31 0,aR 32 (.nilck (.t 31)),aR 33 (.faddr 5 (.t 32)),aR 34 (.load false 1 (.t 33)),aR 35 (.bin .eql (.t 34) (aI 0))]) (.cond (.t 35) (.reg false [aM 36 0,aR 37 (.nilck (.t 36)),aR 38 (.faddr 4 (.t 37)),aU (.store 1 (.t 38) (.c (.str [])))]) (.skip)))),[]⟩
theorem h_stick : AX.compFn Tryz.prog 24 = some c_stick:=by kernel_rfl
theorem a_sttext (s : List UInt8) (hs : s.length ≤ 2000000) (h : Hp) : ACall Tryz.prog GT 62 [.str s] h fun r h' => r = .bool (Sto.txt s) ∧ h' = h:=by
 refine pcall ?_ rfl (by simp [A.pure,A.data]) h
 refine acall_of mixedT h_sttext (by simp [c_sttext]) ?_
 dsimp only [c_sttext]
 unfold Sto.txt
 rcases bool_or (s != []) with h1 | h1
 ·refine go0 h1 ?_
  refine gc0 h1 ?_
  refine (a_valid s hs _).mono ?_
  rintro v h1' ⟨rfl,rfl⟩
  refine go0 h1 ?_
  exact ⟨_,le_refl _,by rw [tupA_1,h1]; rfl⟩
 ·refine go0 h1 ?_
  exact ⟨_,le_refl _,by rw [tupA_1,h1]; rfl⟩
section
variable (s : Sto) (l : List Blk) (t : List (TypeId × Nat × Nat))
theorem a_made : ACall Tryz.prog GT 67 [.ptr 1 0] ⟨s.M :: s.B :: l,t⟩ fun r h' => r = .bool true ∧ h' = ⟨s.M :: s.B :: l,t⟩:=by
 refine liftS (s':=s) ?_ rfl rfl l t
 refine acall_of mixedT h_made (by simp [c_made]) ?_
 dsimp only [c_made]
 unfold Sto.B
 refine run0 ti ?_
 exact ⟨_,le_refl _,rfl,rfl,rfl⟩
theorem a_holds (who : List UInt8) : ACall Tryz.prog GT 68 [.ptr 1 0,.str who] ⟨s.M :: s.B :: l,t⟩ fun r h' => r = .bool (s.holds who) ∧ h' = ⟨s.M :: s.B :: l,t⟩:=by
 refine liftS (s':=s) ?_ rfl rfl l t
 refine acall_of mixedT h_holds (by simp [c_holds]) ?_
 dsimp only [c_holds]
 unfold Sto.B Sto.holds
 rcases bool_or (s.own != []) with h1 | h1
 ·refine run0 h1 ?_
  exact ⟨_,le_refl _,by rw [h1]; rfl,rfl,rfl⟩
 ·refine run0 h1 ?_
  exact ⟨_,le_refl _,by rw [h1]; rfl,rfl,rfl⟩
theorem a_holder : ACall Tryz.prog GT 35 [.ptr 1 0] ⟨s.M :: s.B :: l,t⟩ fun r h' => r = .tup [.str s.own,.int .i64 s.left] ∧ h' = ⟨s.M :: s.B :: l,t⟩:=by
 refine liftS (s':=s) ?_ rfl rfl l t
 refine acall_of mixedT h_holder (by simp [c_holder]) ?_
 dsimp only [c_holder]
 have hm:=a_made s
 unfold Sto.B at hm ⊢
 refine run0 ti ?_
 refine use (hm _ _) ?_
 refine run0 ti ?_
 exact ⟨_,le_refl _,rfl,rfl,rfl⟩
theorem a_lock (who : List UInt8) (hw : who.length ≤ 2000000) (n : Int) : ACall Tryz.prog GT 18 [.ptr 1 0,.str who,.int .i64 n] ⟨s.M :: s.B :: l,t⟩ fun r h' => r = .int .i64 (s.lock who n).2 ∧ h' = ⟨(s.lock who n).1.M :: (s.lock who n).1.B :: l,t⟩:=by
 refine liftS (s':=(s.lock who n).1) ?_ rfl rfl l t
 refine acall_of mixedT h_slock (by simp [c_slock]) ?_
 dsimp only [c_slock]
 obtain ⟨q,hq⟩ : ∃ q,s.lock who n = q:=⟨_,rfl⟩
 rw [hq]
 unfold Sto.lock at hq
 have hm:=a_made s
 unfold Sto.B at hm ⊢
 refine run0 ti ?_
 refine use (hm _ _) ?_
 refine run0 ti ?_
 refine use (a_sttext who hw _) ?_
 cases hT : Sto.txt who
 ·rw [hT,if_pos (by simp)] at hq
  subst hq
  refine run0 ti ?_
  exact ⟨_,le_refl _,rfl,rfl,rfl⟩
 by_cases h1 : n < 1
 ·rw [hT,if_pos (by simp; omega)] at hq
  subst hq
  refine run0 h1 ?_
  exact ⟨_,le_refl _,rfl,rfl,rfl⟩
 by_cases h2 : n > 1099511627776
 ·rw [hT,if_pos (by simp; omega)] at hq
  subst hq
  refine run0 (ai h1 h2) ?_
  exact ⟨_,le_refl _,rfl,rfl,rfl⟩
 rw [hT,if_neg (by simp; omega)] at hq
 rcases bool_or (s.own != []) with h3 | h3
 ·rcases bool_or (s.own != who) with h4 | h4
  ·rw [h3,h4,if_pos (by decide)] at hq
   subst hq
   refine run0 (ai h1 (ai h2 (ai h3 h4))) ?_
   exact ⟨_,le_refl _,rfl,rfl,rfl⟩
  ·rw [h3,h4,if_neg (by decide)] at hq
   subst hq
   refine run0 (ai h1 (ai h2 (ai h3 h4))) ?_
   exact ⟨_,le_refl _,rfl,rfl,rfl⟩
 ·rw [h3,if_neg (by simp)] at hq
  subst hq
  refine run0 (ai h1 (ai h2 h3)) ?_
  exact ⟨_,le_refl _,rfl,rfl,rfl⟩
theorem a_unlock (who : List UInt8) : ACall Tryz.prog GT 20 [.ptr 1 0,.str who] ⟨s.M :: s.B :: l,t⟩ fun r h' => r = .int .i64 (s.unlock who).2 ∧ h' = ⟨(s.unlock who).1.M :: (s.unlock who).1.B :: l,t⟩:=by
 refine liftS (s':=(s.unlock who).1) ?_ rfl rfl l t
 refine acall_of mixedT h_sunlock (by simp [c_sunlock]) ?_
 dsimp only [c_sunlock]
 obtain ⟨q,hq⟩ : ∃ q,s.unlock who = q:=⟨_,rfl⟩
 rw [hq]
 unfold Sto.unlock at hq
 have hm:=a_made s
 have hh:=fun l t => a_holds s l t who
 unfold Sto.B at hm hh ⊢
 refine run0 ti ?_
 refine use (hm _ _) ?_
 refine run0 ti ?_
 refine use (hh _ _) ?_
 cases hT : s.holds who
 ·rw [hT,if_pos (by simp)] at hq
  subst hq
  refine run0 ti ?_
  exact ⟨_,le_refl _,rfl,rfl,rfl⟩
 ·rw [hT,if_neg (by decide)] at hq
  subst hq
  refine run0 ti ?_
  exact ⟨_,le_refl _,rfl,rfl,rfl⟩
theorem a_tick (n : Int) (hl : 0 ≤ s.left) (hl2 : s.left ≤ 1099511627776) : ACall Tryz.prog GT 24 [.ptr 1 0,.int .i64 n] ⟨s.M :: s.B :: l,t⟩ fun r h' => r = .tup [] ∧ h' = ⟨(s.tick n).M :: (s.tick n).B :: l,t⟩:=by
 refine liftS (s':=s.tick n) ?_ rfl rfl l t
 refine acall_of mixedT h_stick (by simp [c_stick]) ?_
 dsimp only [c_stick]
 obtain ⟨q,hq⟩ : ∃ q,s.tick n = q:=⟨_,rfl⟩
 rw [hq]
 unfold Sto.tick at hq
 have hm:=a_made s
 unfold Sto.B at hm ⊢
 refine run0 ti ?_
 refine use (hm _ _) ?_
 by_cases h1 : n ≤ 0
 ·rw [if_pos (.inl h1)] at hq
  subst hq
  refine run0 h1 ?_
  exact ⟨_,le_refl _,rfl,rfl,rfl⟩
 by_cases h2 : s.own = []
 ·rw [if_pos (.inr h2)] at hq
  subst hq
  have h3 : (s.own == []) = true:=by simp [h2]
  refine run0 (ai h1 h3) ?_
  exact ⟨_,le_refl _,rfl,rfl,rfl⟩
 have h3 : (s.own == []) = false:=by simpa using h2
 rw [if_neg (by rintro (h | h) <;> contradiction)] at hq
 obtain ⟨m,hm2⟩ : ∃ m,s.left - (if s.left < n then s.left else n) = m:=⟨_,rfl⟩
 rw [hm2] at hq
 have hm3 : 0 ≤ m ∧ m ≤ 1099511627776:=by rw [← hm2]; split <;> omega
 have hw : IntKind.i64.wrap m = m:=wrap64 (by omega) (by omega)
 by_cases h4 : m = 0
 ·rw [if_pos h4] at hq
  subst hq
  have h5 : (m == 0) = true:=by simp [h4]
  refine run0 (ai h1 (ai h3 (ai hm2 (ai hw h5)))) ?_
  exact ⟨_,le_refl _,rfl,rfl,by rw [h4]; rfl⟩
 ·rw [if_neg h4] at hq
  subst hq
  have h5 : (m == 0) = false:=by simp [h4]
  refine run0 (ai h1 (ai h3 (ai hm2 (ai hw h5)))) ?_
  exact ⟨_,le_refl _,rfl,rfl,rfl⟩
end
end AX
end Go.Proofs.YtnjkemakcejceaaGreatDoor

namespace Go.Proofs.YtnjkemakcejceaaGreatDoor
open Go.Lib
namespace Num
def valA (n : Nat) (s : List UInt8) : Nat:=s.foldl (fun n c => 10 * n + (c.toNat - 48)) n
theorem valA_cons (n : Nat) (c : UInt8) (s : List UInt8) : valA n (c :: s) = valA (10 * n + (c.toNat - 48)) s:=by unfold valA; rw [List.foldl_cons]
theorem val_valA (s : List UInt8) : val s = valA 0 s:=rfl
theorem valA_ge : ∀ (s : List UInt8) (n : Nat),n * 10 ^ s.length ≤ valA n s
 | [],n => by simp [valA]
 | c :: s,n => by
  rw [valA_cons,List.length_cons,Nat.pow_succ]
  refine Nat.le_trans ?_ (valA_ge s _)
  have e : n * (10 ^ s.length * 10) = (10 * n) * 10 ^ s.length:=by
   rw [Nat.mul_comm (10 ^ s.length) 10,← Nat.mul_assoc,Nat.mul_comm n 10]
  rw [e]
  exact Nat.mul_le_mul_right _ (by omega)
theorem valA_le (s : List UInt8) (n : Nat) : n ≤ valA n s:=by
 have h:=valA_ge s n
 have h1 : 1 ≤ 10 ^ s.length:=Nat.one_le_pow _ _ (by omega)
 exact Nat.le_trans (by simpa using Nat.mul_le_mul_left n h1) h
theorem digB_iff (c : UInt8) : digB c = true ↔ 48 ≤ c.toNat ∧ c.toNat ≤ 57:=by simp [digB]
theorem uintM_digits : ∀ (l : List UInt8) (acc : Nat),l.all digB = true → parseUintM 18446744073709551615 acc l = if valA acc l ≤ 18446744073709551615 then .ok (valA acc l) else if l = [] then .ok acc else .range
 | [],acc,_ => by simp [parseUintM,valA]
 | c :: r,acc,h => by
  rw [List.all_cons,Bool.and_eq_true,digB_iff] at h
  have h1:=valA_le r (10 * acc + (c.toNat - 48))
  rw [valA_cons]
  unfold parseUintM
  rw [if_pos h.1]
  split
  ·rw [if_neg (by omega),if_neg (by simp)]
  ·split
   ·rw [if_neg (by omega),if_neg (by simp)]
   ·rw [uintM_digits r _ h.2,Nat.mul_comm acc 10]
    by_cases hv : valA (10 * acc + (c.toNat - 48)) r ≤ 18446744073709551615
    ·rw [if_pos hv,if_pos hv]
    ·rw [if_neg hv,if_neg hv,if_neg (show ¬ (c :: r = []) by simp)]
     cases r with
     | nil =>
      exfalso
      apply hv
      unfold valA
      rw [List.foldl_nil]
      omega
     | cons d q => rw [if_neg (by simp)]
def body (s : List UInt8) : List UInt8:=if s.getD 0 0 == 45 then s.drop 1 else s
def canonB (s : List UInt8) : Bool:=digits (body s) && !(s.getD 0 0 == 45 && body s == [48])
theorem digits_long {t : List UInt8} (h : digits t = true) (hl : 16 < t.length) : 9007199254740992 < val t:=by
 cases t with
 | nil => simp at hl
 | cons c r =>
  unfold digits at h
  rw [Bool.and_eq_true,Bool.or_eq_true,beq_iff_eq,Bool.and_eq_true,List.all_cons,Bool.and_eq_true,digB_iff] at h
  obtain ⟨⟨h1,h2⟩,h3⟩:=h
  rcases h3 with h3 | h3
  ·injection h3 with _ h3; subst h3; simp at hl
  ·have h4 : c ≠ 48:=by simpa using h3.2
   have h5 : c.toNat ≠ 48:=fun e => h4 (UInt8.toNat_inj.1 (by simpa using e))
   have h6:=valA_ge r (c.toNat - 48)
   have h7 : 10 ^ 16 ≤ 10 ^ r.length:=Nat.pow_le_pow_right (by omega) (by simp at hl; omega)
   have h8 : 1 * 10 ^ r.length ≤ (c.toNat - 48) * 10 ^ r.length:=Nat.mul_le_mul_right _ (by omega)
   have e : val (c :: r) = valA (c.toNat - 48) r:=by rw [val_valA,valA_cons]; simp
   rw [e]
   have h9 : (10 : Nat) ^ 16 = 10000000000000000:=by decide
   omega
theorem parse_form (s : List UInt8) : parse s = if canonB s = false then (0,2) else if 9007199254740992 < val (body s) then (0,5) else (if s.getD 0 0 == 45 then -(val (body s) : Int) else (val (body s) : Int),0):=by
 have e : parse s = if (!digits (body s) || (s.getD 0 0 == 45 && body s == [48])) = true then (0,2) else if 16 < (body s).length then (0,5) else if 9007199254740992 < val (body s) then (0,5) else (if s.getD 0 0 == 45 then -(val (body s) : Int) else (val (body s) : Int),0):=rfl
 rw [e]
 unfold canonB
 cases hd : digits (body s)
 ·simp
 ·cases hm : (s.getD 0 0 == 45 && body s == [48])
  ·simp only [Bool.not_true,Bool.or_false,Bool.false_eq_true,if_false,Bool.not_false,Bool.and_self,Bool.true_eq_false]
   split
   ·next hl => rw [if_pos (digits_long hd hl)]
   ·rfl
  ·simp
theorem parseIntB_canon (s : List UInt8) (h : canonB s = true) :
  (val (body s) ≤ 9007199254740992 ∧ parseIntB 64 s = .ok (if s.getD 0 0 == 45 then -(val (body s) : Int) else (val (body s) : Int))) ∨
  (9007199254740992 < val (body s) ∧ (parseIntB 64 s = .range ∨ ∃ v,parseIntB 64 s = .ok v ∧ ¬ (-9007199254740992 ≤ v ∧ v ≤ 9007199254740992))):=by
 unfold canonB at h
 rw [Bool.and_eq_true] at h
 obtain ⟨hd,_⟩:=h
 cases s with
 | nil => simp [body,digits] at hd
 | cons c r =>
  have hne : body (c :: r) ≠ []:=by
   intro e
   rw [e] at hd
   simp [digits] at hd
  have hall : (body (c :: r)).all digB = true:=by
   unfold digits at hd
   rw [Bool.and_eq_true] at hd
   exact hd.1
  have hneg : ((c :: r).getD 0 0 == 45) = decide (c.toNat = 45):=by
   show (c == 45) = _
   rw [Bool.eq_iff_iff,beq_iff_eq,decide_eq_true_eq]
   exact ⟨fun e => by rw [e]; rfl,fun e => UInt8.toNat_inj.1 (by simpa using e)⟩
  have h43 : c.toNat ≠ 43:=by
   intro e
   have e2 : ((c :: r).getD 0 0 == 45) = false:=by rw [hneg]; simp [e]
   unfold body at hall
   rw [e2] at hall
   simp only [Bool.false_eq_true,if_false,List.all_cons,Bool.and_eq_true,digB_iff] at hall
   omega
  have hb : (if c.toNat = 43 ∨ c.toNat = 45 then r else c :: r) = body (c :: r):=by
   unfold body
   rw [hneg]
   by_cases e : c.toNat = 45
   ·simp [e]
   ·simp [e,h43]
  have hu : parseUintB 64 (body (c :: r)) = if val (body (c :: r)) ≤ 18446744073709551615 then .ok (val (body (c :: r))) else .range:=by
   unfold parseUintB
   rw [if_neg hne]
   have:=uintM_digits _ 0 hall
   rw [if_neg hne,← val_valA] at this
   exact this
  have hp : parseIntB 64 (c :: r) = match parseUintB 64 (body (c :: r)) with
    | .syntax => .syntax
    | .range => .range
    | .ok u => if ¬ c.toNat = 45 ∧ 2 ^ (64 - 1) ≤ u then .range else if c.toNat = 45 ∧ 2 ^ (64 - 1) < u then .range else .ok (if c.toNat = 45 then -(u : Int) else u):=by
   rw [← hb]; rfl
  rw [hp,hu,hneg]
  have e63 : 2 ^ (64 - 1) = 9223372036854775808:=by decide
  rw [e63]
  generalize val (body (c :: r)) = u
  by_cases hm : u ≤ 9007199254740992
  ·refine .inl ⟨hm,?_⟩
   rw [if_pos (by omega)]
   dsimp only
   rw [if_neg (by omega),if_neg (by omega)]
   simp
  ·refine .inr ⟨by omega,?_⟩
   by_cases h64 : u ≤ 18446744073709551615
   ·rw [if_pos h64]
    dsimp only
    split
    ·exact .inl rfl
    ·split
     ·exact .inl rfl
     ·refine .inr ⟨_,rfl,?_⟩
      split <;> omega
   ·rw [if_neg h64]
    exact .inl rfl
end Num
end Go.Proofs.YtnjkemakcejceaaGreatDoor

namespace Go.Proofs.YtnjkemakcejceaaGreatDoor
open Go.RowKit
open Go.Op (bytesLess)
set_option maxHeartbeats 4000000
namespace Num
theorem digB_int (c : UInt8) : digB c = (decide (48 ≤ (c.toNat : Int)) && decide ((c.toNat : Int) ≤ 57)):=by
 unfold digB
 have e1 : decide (48 ≤ c.toNat) = decide (48 ≤ (c.toNat : Int)):=decide_eq_decide.2 (by omega)
 have e2 : decide (c.toNat ≤ 57) = decide ((c.toNat : Int) ≤ 57):=decide_eq_decide.2 (by omega)
 rw [e1,e2]
theorem all_fail {s : List UInt8} {j : Nat} (hj : j < s.length) (h : digB (s.getD j 0) = false) : digits s = false:=by
 have : s.all digB = false:=by
  rw [List.all_eq_false]
  refine ⟨s[j],List.getElem_mem hj,?_⟩
  have e : s.getD j 0 = s[j]:=by simp [List.getD,hj]
  rw [e] at h; rw [h]; decide
 unfold digits
 rw [this]; rfl
theorem all_end {s : List UInt8} (h : ∀ k,k < s.length → digB (s.getD k 0) = true) : digits s = (s != [] && (s.getD 0 0 != 48 || s.length == 1)):=by
 have h1 : s.all digB = true:=by
  rw [List.all_eq_true]
  intro x hx
  obtain ⟨j,hj,rfl⟩:=List.getElem_of_mem hx
  have:=h j hj
  have e : s.getD j 0 = s[j]:=by simp [List.getD,hj]
  rwa [e] at this
 unfold digits
 rw [h1,Bool.true_and]
 match s with
 | [] => rfl
 | [c] =>
  by_cases e : c = 48
  ·subst e; rfl
  ·have e1 : (c == 48) = false:=by simp [e]
   have e2 : ([c] == [48]) = false:=by simp [e]
   have e3 : (c != 48) = true:=by simp [e]
   show ([c] == [48] || ([c] != [] && c != 48)) = ([c] != [] && (c != 48 || ([c].length == 1)))
   rw [e2,e3]; rfl
 | c :: d :: r => simp
end Num
namespace AX
def c_canon : AX.AFn:=⟨44,.seq (.reg false [aR 2 (.mv (.c (.bool false)))]) (.seq (.seq (.reg false [aM 4 0,aR 5 (.len true (.t 4)),aR 6 (.bin .gtr (.t 5) (aI 0)),aM 7 6,aG 8 (.mv (.t 0)) 7 true,aG 9 (.sidx (.t 8) (aI 0)) 7 true,aG 10 (.bin .eql (.t 9) (.c (.int .u8 45))) 7 true,aR 11 (.pick (.t 7) (.t 10) (.c (.bool false)))]) (.cond (.t 11) (.seq (.reg false [aM 12 0,aR 13 (.ssl (.t 12) (some (aI 1)) none),aM 0 13]) (.seq (.reg false [aM 14 0,aR 15 (.bin .eql (.t 14) (.c (.str [48])))]) (.cond (.t 15) (.seq (.reg false [aR 2 (.mv (.c (.bool false)))]) (.ret)) (.skip)))) (.skip))) (.seq (.seq (.reg false [aM 16 0,aR 17 (.len true (.t 16)),aR 18 (.mv (aI 0))]) (.block 0 (.loop (.seq (.reg false [aR 19 (.bin .lss (.t 18) (.t 17))]) (.seq (.cond (.t 19) (.skip) (.exit 0)) (.seq (.block 1 (.seq (.reg false [aM 20 18,aM 3 20]) (.seq (.reg false [aM 21 0,aM 22 3,aR 23 (.sidx (.t 21) (.t 22)),aR 24 (.bin .lss (.t 23) (.c (.int .u8 48))),aM 25 24,aG 26 (.mv (.t 0)) 25 false,aG 27 (.mv (.t 3)) 25 false,aG 28 (.sidx (.t 26) (.t 27)) 25 false,aG 29 (.bin .gtr (.t 28) (.c (.int .u8 57))) 25 false,aR 30 (.pick (.t 25) (.c (.bool true)) (.t 29))]) (.cond (.t 30) (.seq (.reg false [aR 2 (.mv (.c (.bool false)))]) (.ret)) (.skip))))) (.reg false [aR 31 (.bin .add (.t 18) (aI 1)),aM 18 31]))))))) (.seq (.reg false [aM 32 0,aR 33 (.bin .neq (.t 32) (.c (.str []))),aM 34 33,aG 35 (.mv (.t 0)) 34 true,aG 36 (.sidx (.t 35) (aI 0)) 34 true,aG 37 (.bin .neq (.t 36) (.c (.int .u8 48))) 34 true,aG 38 (.mv (.t 37)) 34 true,aG 39 (.mv (.t 0)) 38 false,aG 40 (.len true (.t 39)) 38 false,aG 41 (.bin .eql (.t 40) (aI 1)) 38 false,aG 42 (.pick (.t 38) (.c (.bool true)) (.t 41)) 34 true,aR 43 (.pick (.t 34) (.t 42) (.c (.bool false))),aM 2 43]) (.ret)))),[.t 2]⟩
theorem h_canon : AX.compFn Tryz.prog 149 = some c_canon:=by kernel_rfl
theorem u8_beq (c : UInt8) (n : UInt8) : ((c.toNat : Int) == (n.toNat : Int)) = (c == n):=by
 rw [Bool.eq_iff_iff,beq_iff_eq,beq_iff_eq]
 exact ⟨fun e => UInt8.toNat_inj.1 (by omega),fun e => by rw [e]⟩
theorem calls_bool {P : Program} {G : World → Prop} {f : FuncId} {args : List A} {vs : List Value} {w : World} {b : Bool} (hc : ACall P G f args ⟨[],[]⟩ fun v _ => v = .bool b) (hG : ∀ w' : World,(∀ g,g < w.heap.size → w'.heap[g]? = w.heap[g]?) → G w')
  (ha : RepL (Ctx.of w) args vs) : Calls P f vs.toArray w fun e w' => e = .returned (.bool b) ∧ Below w.heap.size w w':=by
 refine (hc (Ctx.of w) vs (inv_of hG) ha).mono ?_
 rintro e w' ⟨C',h',v,cv,rfl,rfl,_,st,hr,rfl⟩
 rw [rep_bool] at hr; subst hr
 exact ⟨rfl,st.os,st.tape,st.output,st.size,fun g hg => st.frame g hg rfl fun t ht => by simp [Ctx.of] at ht⟩
theorem a_canon (s : List UInt8) (hl : s.length ≤ 2000000) (h : Hp) : ACall Tryz.prog GT 149 [.str s] h fun r h' => r = .bool (Num.canonB s) ∧ h' = h:=by
 refine pcall ?_ rfl (by simp [A.pure,A.data]) h
 refine acall_of mixedT h_canon (by simp [c_canon]) ?_
 dsimp only [c_canon]
 obtain ⟨R,hR⟩ : ∃ R,Num.canonB s = R:=⟨_,rfl⟩
 rw [hR]
 unfold Num.canonB Num.body at hR
 by_cases hn : s = []
 ·subst hn
  have e0 : ¬ ((0 : Nat) : Int) > 0:=by decide
  have e1 : ¬ (0 : Int) < ((0 : Nat) : Int):=by decide
  have hR' : R = false:=by rw [← hR]; rfl
  subst hR'
  refine run0 e0 ?_
  refine go_once ?_
  refine run0 e1 ?_
  exact ⟨_,le_refl _,rfl⟩
 have hpos : (s.length : Int) > 0:=by
  have:=List.length_pos_iff.2 hn; omega
 have h0 : (0 : Int) < (s.length : Int):=hpos
 obtain ⟨c,hc⟩ : ∃ c,s.getD 0 0 = c:=⟨_,rfl⟩
 rw [hc] at hR
 have e45 : ((c.toNat : Int) == 45) = (c == 45):=u8_beq c 45
 have hbody : ∃ t : List UInt8,t = (if c == 45 then s.drop 1 else s):=⟨_,rfl⟩
 obtain ⟨t,ht⟩:=hbody
 rw [← ht] at hR
 have htl : t.length ≤ 2000000:=by
  rw [ht]; split
  ·rw [List.length_drop]; omega
  ·exact hl
 have hgr : ∀ j : Nat,t.getD j 0 = t.getD j 0:=fun _ => rfl
 have h1le : (1 : Int) ≤ (s.length : Int):=by omega
 have z1 : (0 : Int) ≤ 1:=by decide
 have n1 : (1 : Int).toNat = 1:=rfl
 have n0 : (0 : Int).toNat = 0:=rfl
 have key : ∀ {G : Prop},((c == 45) = true → t = s.drop 1 → G) → ((c == 45) = false → t = s → G) → G:=fun p q => by
  cases e : c == 45
  ·exact q e (by rw [ht,e]; rfl)
  ·exact p e (by rw [ht,e]; rfl)
 refine key (fun m1 m2 => ?_) (fun m1 m2 => ?_)
 ·rw [m1,Bool.true_and] at hR
  have m3 : s.drop 1 = t:=m2.symm
  have e10 : ((c.toNat : Int) == 45) = true:=by rw [e45,m1]
  cases h48 : t == [48]
  rotate_left
  ·rw [h48] at hR
   have hR' : R = false:=by rw [← hR,Bool.not_true,Bool.and_false]
   subst hR'
   refine run0 (ai hpos (ai h0 (ai n0 (ai hc (ai e10 (ai h1le (ai z1 (ai n1 (ai m3 h48))))))))) ?_
   exact ⟨_,le_refl _,rfl⟩
  rw [h48,Bool.not_false,Bool.and_true] at hR
  refine run0 (ai hpos (ai h0 (ai n0 (ai hc (ai e10 (ai h1le (ai z1 (ai n1 (ai m3 h48))))))))) ?_
  refine awp_loop (fun mm ts h => ∃ (j : Nat),mm = t.length - j ∧ j ≤ t.length ∧ h = ⟨[],[]⟩ ∧ (∀ k,k < j → Num.digB (t.getD k 0) = true) ∧ ts 0 = .str t ∧ ts 17 = .int .i64 (t.length : Nat) ∧ ts 18 = .int .i64 (j : Nat)) t.length ?_ ?_
  ·exact ⟨0,by omega,by omega,rfl,fun k hk => absurd hk (Nat.not_lt_zero k),by (exact ev0 m3),by (exact ev0 m3),by (exact inv0 ti)⟩
  rintro mm ts h ⟨j,rfl,hjc,rfl,hok,t0,t17,t18⟩
  by_cases hj : j < t.length
  ·have hlt : (j : Int) < (t.length : Int):=by omega
   have hj0 : (0 : Int) ≤ (j : Int):=by omega
   have ei : IntKind.i64.wrap ((j : Int) + 1) = ((j + 1 : Nat) : Int):=by rw [wrap64 (by omega) (by omega)]; omega
   obtain ⟨b,hb⟩ : ∃ b,t.getD j 0 = b:=⟨_,rfl⟩
   have hdg:=Num.digB_int b
   obtain ⟨x,hx⟩ : ∃ x : Int,(b.toNat : Int) = x:=⟨_,rfl⟩
   rw [hx] at hdg
   by_cases x1 : x < 48
   ·have hR' : R = false:=by rw [← hR]; exact Num.all_fail hj (by rw [hb,hdg,decide_eq_false (by omega)]; rfl)
    subst hR'
    refine run0 (ai t0 (ai t17 (ai t18 (ai hlt (ai hj0 (ai hb (ai hx x1))))))) ?_
    exact ⟨_,le_refl _,rfl⟩
   by_cases x2 : x > 57
   ·have hR' : R = false:=by rw [← hR]; exact Num.all_fail hj (by rw [hb,hdg,decide_eq_true (show 48 ≤ x by omega),decide_eq_false (by omega)]; rfl)
    subst hR'
    refine run0 (ai t0 (ai t17 (ai t18 (ai hlt (ai hj0 (ai hb (ai hx (ai x1 x2)))))))) ?_
    exact ⟨_,le_refl _,rfl⟩
   ·refine run0 (ai t0 (ai t17 (ai t18 (ai hlt (ai hj0 (ai hb (ai hx (ai x1 (ai x2 ei))))))))) ?_
    refine ⟨t.length - (j + 1),by omega,j + 1,rfl,by omega,rfl,fun k hk => ?_,by (exact ev0 t0),by (exact ev0 t17),by (exact ev0 ei)⟩
    by_cases e : k = j
    ·rw [e,hb,hdg,decide_eq_true (show 48 ≤ x by omega),decide_eq_true (show x ≤ 57 by omega)]; rfl
    ·exact hok k (by omega)
  ·have hlt : ¬ ((j : Int) < (t.length : Int)):=by omega
   have hje : j = t.length:=by omega
   rw [hje] at hok
   have hE:=Num.all_end hok
   rw [hR] at hE
   cases hnt : t != []
   ·rw [hnt,Bool.false_and] at hE
    subst hE
    refine run0 (ai t0 (ai t17 (ai t18 (ai hlt hnt)))) ?_
    exact ⟨_,le_refl _,rfl⟩
   rw [hnt,Bool.true_and] at hE
   have hp2 : (0 : Int) < (t.length : Int):=by
    have : t ≠ []:=by simpa using hnt
    have:=List.length_pos_iff.2 this; omega
   obtain ⟨b,hb⟩ : ∃ b,t.getD 0 0 = b:=⟨_,rfl⟩
   rw [hb] at hE
   have e48 : ((b.toNat : Int) != 48) = (b != 48):=congrArg (!·) (u8_beq b 48)
   cases hb48 : b != 48
   ·rw [hb48,Bool.false_or] at hE
    rw [hb48] at e48
    have el : ((t.length : Int) == 1) = (t.length == 1):=by
     rw [Bool.eq_iff_iff,beq_iff_eq,beq_iff_eq]; omega
    rw [← hE] at el
    refine run0 (ai t0 (ai t17 (ai t18 (ai hlt (ai hnt (ai hp2 (ai n0 (ai hb (ai e48 el))))))))) ?_
    exact ⟨_,le_refl _,rfl⟩
   ·rw [hb48,Bool.true_or] at hE
    subst hE
    rw [hb48] at e48
    refine run0 (ai t0 (ai t17 (ai t18 (ai hlt (ai hnt (ai hp2 (ai n0 (ai hb e48)))))))) ?_
    exact ⟨_,le_refl _,rfl⟩
 ·have e10 : ((c.toNat : Int) == 45) = false:=by rw [e45,m1]
  rw [m1,Bool.false_and,Bool.not_false,Bool.and_true] at hR
  have m3 : s = t:=m2.symm
  refine run0 (ai hpos (ai h0 (ai n0 (ai hc e10)))) ?_
  refine awp_loop (fun mm ts h => ∃ (j : Nat),mm = t.length - j ∧ j ≤ t.length ∧ h = ⟨[],[]⟩ ∧ (∀ k,k < j → Num.digB (t.getD k 0) = true) ∧ ts 0 = .str t ∧ ts 17 = .int .i64 (t.length : Nat) ∧ ts 18 = .int .i64 (j : Nat)) t.length ?_ ?_
  ·exact ⟨0,by omega,by omega,rfl,fun k hk => absurd hk (Nat.not_lt_zero k),by (exact ev0 m3),by (exact ev0 m3),by (exact inv0 ti)⟩
  rintro mm ts h ⟨j,rfl,hjc,rfl,hok,t0,t17,t18⟩
  by_cases hj : j < t.length
  ·have hlt : (j : Int) < (t.length : Int):=by omega
   have hj0 : (0 : Int) ≤ (j : Int):=by omega
   have ei : IntKind.i64.wrap ((j : Int) + 1) = ((j + 1 : Nat) : Int):=by rw [wrap64 (by omega) (by omega)]; omega
   obtain ⟨b,hb⟩ : ∃ b,t.getD j 0 = b:=⟨_,rfl⟩
   have hdg:=Num.digB_int b
   obtain ⟨x,hx⟩ : ∃ x : Int,(b.toNat : Int) = x:=⟨_,rfl⟩
   rw [hx] at hdg
   by_cases x1 : x < 48
   ·have hR' : R = false:=by rw [← hR]; exact Num.all_fail hj (by rw [hb,hdg,decide_eq_false (by omega)]; rfl)
    subst hR'
    refine run0 (ai t0 (ai t17 (ai t18 (ai hlt (ai hj0 (ai hb (ai hx x1))))))) ?_
    exact ⟨_,le_refl _,rfl⟩
   by_cases x2 : x > 57
   ·have hR' : R = false:=by rw [← hR]; exact Num.all_fail hj (by rw [hb,hdg,decide_eq_true (show 48 ≤ x by omega),decide_eq_false (by omega)]; rfl)
    subst hR'
    refine run0 (ai t0 (ai t17 (ai t18 (ai hlt (ai hj0 (ai hb (ai hx (ai x1 x2)))))))) ?_
    exact ⟨_,le_refl _,rfl⟩
   ·refine run0 (ai t0 (ai t17 (ai t18 (ai hlt (ai hj0 (ai hb (ai hx (ai x1 (ai x2 ei))))))))) ?_
    refine ⟨t.length - (j + 1),by omega,j + 1,rfl,by omega,rfl,fun k hk => ?_,by (exact ev0 t0),by (exact ev0 t17),by (exact ev0 ei)⟩
    by_cases e : k = j
    ·rw [e,hb,hdg,decide_eq_true (show 48 ≤ x by omega),decide_eq_true (show x ≤ 57 by omega)]; rfl
    ·exact hok k (by omega)
  ·have hlt : ¬ ((j : Int) < (t.length : Int)):=by omega
   have hje : j = t.length:=by omega
   rw [hje] at hok
   have hE:=Num.all_end hok
   rw [hR] at hE
   cases hnt : t != []
   ·rw [hnt,Bool.false_and] at hE
    subst hE
    refine run0 (ai t0 (ai t17 (ai t18 (ai hlt hnt)))) ?_
    exact ⟨_,le_refl _,rfl⟩
   rw [hnt,Bool.true_and] at hE
   have hp2 : (0 : Int) < (t.length : Int):=by
    have : t ≠ []:=by simpa using hnt
    have:=List.length_pos_iff.2 this; omega
   obtain ⟨b,hb⟩ : ∃ b,t.getD 0 0 = b:=⟨_,rfl⟩
   rw [hb] at hE
   have e48 : ((b.toNat : Int) != 48) = (b != 48):=congrArg (!·) (u8_beq b 48)
   cases hb48 : b != 48
   ·rw [hb48,Bool.false_or] at hE
    rw [hb48] at e48
    have el : ((t.length : Int) == 1) = (t.length == 1):=by
     rw [Bool.eq_iff_iff,beq_iff_eq,beq_iff_eq]; omega
    rw [← hE] at el
    refine run0 (ai t0 (ai t17 (ai t18 (ai hlt (ai hnt (ai hp2 (ai n0 (ai hb (ai e48 el))))))))) ?_
    exact ⟨_,le_refl _,rfl⟩
   ·rw [hb48,Bool.true_or] at hE
    subst hE
    rw [hb48] at e48
    refine run0 (ai t0 (ai t17 (ai t18 (ai hlt (ai hnt (ai hp2 (ai n0 (ai hb e48)))))))) ?_
    exact ⟨_,le_refl _,rfl⟩
end AX
theorem numParse_any (l : List UInt8) (hl : l.length ≤ 2000000) (w : World) (g : GT w) :
  Calls Tryz.prog 114 #[.string ⟨l.toArray⟩] w fun e w' => e = .returned (.tuple #[.int .i64 (Num.parse l).1,.int .i64 (Num.parse l).2]) ∧ Below w.heap.size w w':=by
 have hc:=AX.calls_bool (w:=w) (vs:=[.string ⟨l.toArray⟩]) ((AX.a_canon l hl ⟨[],[]⟩).mono fun v h' hv => hv.1) (AX.gt_keep g) (AX.repL_cons.2 ⟨_,_,rfl,AX.rep_str.2 rfl,AX.repL_nil.2 rfl⟩)
 have hf:=Num.parse_form l
 obtain ⟨P1,hP1⟩ : ∃ p,Num.parse l = p:=⟨_,rfl⟩
 rw [hP1] at hf ⊢
 cases hB : Num.canonB l
 ·rw [hB,if_pos rfl] at hf
  subst hf
  rw [hB] at hc
  go_enter Tryz.func114,Tryz.ntmps114
  go_wp2_with fail
  refine hc.mono ?_; rintro e w1 ⟨rfl,b1⟩
  have B1:=kept b1; clear b1
  go_wp2
  refine bodyPost_ret (v:=.tuple #[.int .i64 0,.int .i64 2]) (by simp [results,Tryz.results114,go_sem]) rfl ⟨rfl,B1.out⟩
 ·rw [hB,if_neg (by decide)] at hf
  rw [hB] at hc
  have hsz : (⟨l.toArray⟩ : ByteArray).size ≤ 9223372036854775806:=by rw [size_mk]; omega
  have hlim : (⟨l.toArray⟩ : ByteArray).size ≤ 281474976710656:=by rw [size_mk]; omega
  have hsyn:=g.esyn
  obtain ⟨ev,hev,hev2⟩:=g.erng
  have nilne : ∀ (a b : Value),True:=fun _ _ => AX.ti
  rcases Num.parseIntB_canon l hB with ⟨h1,h2⟩ | ⟨h1,h2 | ⟨v,h2,h3⟩⟩
  ·rw [if_neg (by omega)] at hf
   obtain ⟨v,hv⟩ : ∃ v : Int,(if l.getD 0 0 == 45 then -(Num.val (Num.body l) : Int) else (Num.val (Num.body l) : Int)) = v:=⟨_,rfl⟩
   rw [hv] at h2 hf
   have hvr : -9007199254740992 ≤ v ∧ v ≤ 9007199254740992:=by rw [← hv]; split <;> omega
   have hp : ∀ w' : World,Calls Tryz.prog 150 #[.string ⟨l.toArray⟩,.int .i64 10,.int .i64 64] w' fun e w2 => e = .returned (.tuple #[.int .i64 v,.nilIface]) ∧ (w2 = w' ∨ ∃ t,w2 = Lib.bytesWorld w' 5 t):=fun w' => Any.strconv_ParseInt_10_at64_ok (P:=Tryz.prog) Tryz.lays174 ⟨l.toArray⟩ hsz v h2 w'
   have Hnv:=kept (fun w' => numValid_any v w')
   rw [decide_eq_true hvr] at Hnv
   subst hf
   have Hp:=kept hp
   clear hp hsz hlim hsyn hev hev2 hvr hv h1 h2 hB
   go_enter Tryz.func114,Tryz.ntmps114
   go_wp2_with fail
   refine hc.mono ?_; rintro e w1 ⟨rfl,b1⟩
   have B1:=kept b1; clear b1
   go_wp2_with fail
   (with_reducible refine (Hp.out _).mono ?_); rintro e w2 ⟨rfl,hw⟩
   have B2 : Kept (Below w.heap.size w w2):=kept (by
    rcases hw with rfl | ⟨t,rfl⟩
    ·exact B1.out
    ·exact bthen B1.out (Lib.bytesWorld_below _ _ _))
   clear hw
   go_wp2_with fail
   (with_reducible refine (Hnv.out _).mono ?_); rintro e w3 ⟨rfl,rfl⟩
   go_wp2
   refine bodyPost_ret (v:=.tuple #[.int .i64 v,.int .i64 0]) (by simp [results,Tryz.results114,go_sem]) rfl ⟨rfl,B2.out⟩
  ·rw [if_pos (by omega)] at hf
   have hp : ∀ w' : World,w'.cell? ⟨4,0,none⟩ = some ev → Calls Tryz.prog 150 #[.string ⟨l.toArray⟩,.int .i64 10,.int .i64 64] w' fun e w2 => (∃ a b c,e = .returned (.tuple #[.int .i64 a,.iface b c])) ∧ Below w'.heap.size w' w2:=fun w' hv => (Any.strconv_ParseInt_10_at64_range (P:=Tryz.prog) Tryz.lays174 ⟨l.toArray⟩ hlim h2 ev w' hv hev2).mono fun e w2 ⟨N,q1,q2,q3,q4⟩ => ⟨⟨_,_,_,q1⟩,q4⟩
   subst hf
   have Hp:=kept hp
   have Hev:=kept hev
   clear hp hsz hlim hsyn hev hev2 h1 h2 hB
   go_enter Tryz.func114,Tryz.ntmps114
   go_wp2_with fail
   refine hc.mono ?_; rintro e w1 ⟨rfl,b1⟩
   have B1:=kept b1
   have Hev1:=kept (show w1.cell? ⟨4,0,none⟩ = some ev from by rw [← Hev.out]; simp only [World.cell?,b1.block _ (cell_there Hev.out).2])
   clear b1
   go_wp2_with fail
   (with_reducible refine (Hp.out _ Hev1.out).mono ?_); rintro e w2 ⟨⟨a,b,c,rfl⟩,b2⟩
   have B2 : Kept (Below w.heap.size w w2):=kept (bthen B1.out b2)
   clear b2
   go_wp2
   refine bodyPost_ret (v:=.tuple #[.int .i64 0,.int .i64 5]) (by simp [results,Tryz.results114,go_sem]) rfl ⟨rfl,B2.out⟩
  ·rw [if_pos (by omega)] at hf
   have hp : ∀ w' : World,Calls Tryz.prog 150 #[.string ⟨l.toArray⟩,.int .i64 10,.int .i64 64] w' fun e w2 => e = .returned (.tuple #[.int .i64 v,.nilIface]) ∧ (w2 = w' ∨ ∃ t,w2 = Lib.bytesWorld w' 5 t):=fun w' => Any.strconv_ParseInt_10_at64_ok (P:=Tryz.prog) Tryz.lays174 ⟨l.toArray⟩ hsz v h2 w'
   have Hnv:=kept (fun w' => numValid_any v w')
   rw [decide_eq_false h3] at Hnv
   subst hf
   have Hp:=kept hp
   clear hp hsz hlim hsyn hev hev2 h3 h1 h2 hB
   go_enter Tryz.func114,Tryz.ntmps114
   go_wp2_with fail
   refine hc.mono ?_; rintro e w1 ⟨rfl,b1⟩
   have B1:=kept b1; clear b1
   go_wp2_with fail
   (with_reducible refine (Hp.out _).mono ?_); rintro e w2 ⟨rfl,hw⟩
   have B2 : Kept (Below w.heap.size w w2):=kept (by
    rcases hw with rfl | ⟨t,rfl⟩
    ·exact B1.out
    ·exact bthen B1.out (Lib.bytesWorld_below _ _ _))
   clear hw
   go_wp2_with fail
   (with_reducible refine (Hnv.out _).mono ?_); rintro e w3 ⟨rfl,rfl⟩
   go_wp2
   refine bodyPost_ret (v:=.tuple #[.int .i64 0,.int .i64 5]) (by simp [results,Tryz.results114,go_sem]) rfl ⟨rfl,B2.out⟩
theorem AX.a_numParse (s : List UInt8) (hl : s.length ≤ 2000000) (h : AX.Hp) : AX.ACall Tryz.prog GT 114 [.str s] h fun r h' => r = .tup [.int .i64 (Num.parse s).1,.int .i64 (Num.parse s).2] ∧ h' = h:=
 AX.acall_imp (AX.args1 AX.r_str) (fun w hg => numParse_any s hl w hg) (fun C => AX.rep_tup.2 ⟨_,rfl,AX.repL_cons.2 ⟨_,_,rfl,AX.rep_int.2 rfl,AX.repL_cons.2 ⟨_,_,rfl,AX.rep_int.2 rfl,AX.repL_nil.2 rfl⟩⟩⟩) h
end Go.Proofs.YtnjkemakcejceaaGreatDoor

namespace Go.Proofs.YtnjkemakcejceaaGreatDoor
open Go.RowKit Go.Lib
def stops : ByteArray:=⟨#[46,91]⟩
theorem below_iter (w : World) (s : ByteArray) (p : Nat) : Below w.heap.size w (w.iter s p):=by
 refine ⟨rfl,rfl,rfl,?_,fun g hg => ?_⟩
 ·show w.heap.size ≤ (w.heap.push (Obj.stringIter s p)).size
  simp
 ·show (w.heap.push (Obj.stringIter s p))[g]? = _
  rw [Array.getElem?_push,if_neg (by omega)]
set_option maxHeartbeats 2000000 in
set_option maxRecDepth 100000 in
theorem indexRune_err (w : World) : Calls Tryz.prog 187 #[.string stops,.int .i32 65533] w fun e w' => e = .returned (.int .i64 (-1)) ∧ Below w.heap.size w w':=by
 go_enter Tryz.func187,Tryz.ntmps187
 have hsz : stops.size = 2:=rfl
 go_wp2_with fail
 go_loopg [5,6] 2 (fun g _ _ wx => ∃ i : Nat,i + g = 2 ∧ wx = w.iter stops i)
 case atStart => exact ⟨0,by omega,rfl⟩
 case round =>
  obtain ⟨i,hig,rfl⟩:=hrel
  cases gk with
  | zero =>
   obtain rfl : i = 2:=by omega
   have hnx:=fun ty => run_next_end (P:=Tryz.prog) w stops 2 ty (by decide)
   go_wp2
   go_ret
   exact ⟨rfl,below_iter w stops 2⟩
  | succ g =>
   have hi : i = 0 ∨ i = 1:=by omega
   rcases hi with rfl | rfl
   ·have hnx:=fun ty => run_next_ascii (P:=Tryz.prog) w stops 0 ty (by decide) (by decide)
    have e0 : ((stops[0]'(by decide)).toNat : Int) = 46:=rfl
    rw [e0] at hnx
    go_wp2
    go_roundg g
    case measure => omega
    case rel => exact ⟨1,by omega,rfl⟩
   ·have hnx:=fun ty => run_next_ascii (P:=Tryz.prog) w stops 1 ty (by decide) (by decide)
    have e0 : ((stops[1]'(by decide)).toNat : Int) = 91:=rfl
    rw [e0] at hnx
    go_wp2
    go_roundg g
    case measure => omega
    case rel => exact ⟨2,by omega,rfl⟩
set_option maxHeartbeats 2000000 in
set_option maxRecDepth 100000 in
theorem indexRune_hi (r : Int) (h0 : 128 ≤ r) (h1 : r ≤ 2147483647) (hr : r ≠ 65533) (w : World) : Calls Tryz.prog 187 #[.string stops,.int .i32 r] w fun e w' => e = .returned (.int .i64 (-1)) ∧ Below w.heap.size w w':=by
 go_enter Tryz.func187,Tryz.ntmps187
 have hsz : stops.size = 2:=rfl
 have c1 : decide (0 ≤ r) = true:=decide_eq_true (by omega)
 have c2 : decide (r < 128) = false:=decide_eq_false (by omega)
 have c3 : (r == 65533) = false:=beq_eq_false_iff_ne.2 hr
 have Hv:=kept (fun w => Tryz.utf8_ValidRune r w)
 cases hv : Lib.validRune r
 ·go_wp2_with fail
  (with_reducible refine (Hv.out _).mono ?_); rintro e w1 ⟨rfl,rfl⟩
  rw [hv]
  go_wp2
  go_ret
  exact ⟨rfl,Below.refl _ _⟩
 ·have hval : Utf8.valid r = true:=by rw [Go.validRune_eq]; unfold Lib.validRune at hv; unfold Go.validRune; exact hv
  obtain ⟨f1,f2,f3⟩:=encode_facts r hval h0
  go_wp2_with fail
  (with_reducible refine (Hv.out _).mono ?_); rintro e w1 ⟨rfl,rfl⟩
  rw [hv]
  have e1 : IntKind.i64.wrap (((Utf8.encode r).size : Int) - 1) = (((Utf8.encode r).size - 1 : Nat) : Int):=by rw [show ((Utf8.encode r).size : Int) - 1 = (((Utf8.encode r).size - 1 : Nat) : Int) by omega]; exact Go.IntWalk.i64_in _ ⟨by omega,by omega⟩
  have hcv:=fun (w : World) => run_convert_int_string (P:=Tryz.prog) w 21 9 .i32 r rfl rfl
  go_wp2_with fail
  apply wp_scope_straight
  go_wp2
  go_loopg [9,10,11,12] 1 (fun g v9 v10 v11 v12 wx => wx = w1 ∧ v9 = .int .i64 (((Utf8.encode r).size - 1 : Nat) : Int))
  case atStart => exact ⟨rfl,rfl⟩
  case round =>
   obtain ⟨rfl,rfl⟩:=hrel
   by_cases h2 : (Utf8.encode r).size = 2
   ·have e2 : (Utf8.encode r).size - 1 = 1:=by omega
    obtain ⟨x,hx⟩ : ∃ x : UInt8,(Utf8.encode r)[1]'(by omega) = x:=⟨_,rfl⟩
    have hx1 : 128 ≤ x.toNat:=by
     have:=f3 (by omega)
     simp only [e2] at this
     rw [hx] at this; exact this
    have hi1 : (1 : Nat) < (Utf8.encode r).size:=by omega
    have hs1 : (stops[1]'(by decide)).toNat = 91:=rfl
    have hne : ((91 : Int) != (x.toNat : Int)) = true:=by simp; omega
    have e3 : (((Utf8.encode r).size - 1 : Nat) : Int) = 1:=by omega
    have hi2 : (1 : Int) < ((Utf8.encode r).size : Int):=by omega
    rw [e3]
    go_wp2
    apply wp_scope_straight
    go_wp2_with fail
    go_region
    have hw2 : IntKind.i64.wrap ((1 : Int) + 1) = 2:=rfl
    have hib0 : Lib.indexByte [] x = -1:=rfl
    go_wp2_with fail
    go_region_with ((with_reducible refine (Tryz.strings_IndexByte _ _ _).mono ?_); rintro e2 w2 ⟨rfl,rfl⟩)
    all_goals
     go_wp2
     rw [Exit.noGoto_ret]
     go_wp2
     rw [Exit.noGoto_ret]
     go_wp2
     go_ret
     first | exact ⟨rfl,below_drewN (Below.refl _ _) 2⟩ | exact ⟨rfl,below_drewN _ 2⟩
   ·have hlt : ¬ ((((Utf8.encode r).size - 1 : Nat) : Int) < (stops.size : Int)):=by omega
    go_wp2
    go_ret
    exact ⟨rfl,Below.refl _ _⟩
theorem decode_conts (s : ByteArray) (i j : Nat) (h1 : 1 ≤ j) (hj : j < (Utf8.decode s i).2) : i + j < s.size ∧ 128 ≤ (s.get! (i + j)).toNat:=by
 unfold Utf8.decode at hj
 dsimp only at hj
 split at hj
 ·simp only at hj; omega
 ·split at hj
  ·next h =>
   simp only [Bool.and_eq_true,decide_eq_true_eq,beq_iff_eq] at h
   split at hj
   ·simp only at hj
    obtain rfl : j = 1:=by omega
    omega
   ·simp only at hj; omega
  ·split at hj
   ·next h =>
    simp only [Bool.and_eq_true,decide_eq_true_eq,beq_iff_eq] at h
    split at hj
    ·simp only at hj
     have : j = 1 ∨ j = 2:=by omega
     rcases this with rfl | rfl <;> omega
    ·simp only at hj; omega
   ·split at hj
    ·next h =>
     simp only [Bool.and_eq_true,decide_eq_true_eq,beq_iff_eq] at h
     split at hj
     ·simp only at hj
      have : j = 1 ∨ j = 2 ∨ j = 3:=by omega
      rcases this with rfl | rfl | rfl <;> omega
     ·simp only at hj; omega
    ·simp only at hj; omega
theorem indexRune_any (r : Int) (h0 : 128 ≤ r) (h1 : r ≤ 2147483647) (w : World) : Calls Tryz.prog 187 #[.string stops,.int .i32 r] w fun e w' => e = .returned (.int .i64 (-1)) ∧ Below w.heap.size w w':=by
 by_cases h : r = 65533
 ·subst h; exact indexRune_err w
 ·exact indexRune_hi r h0 h1 h w
theorem noAny_skip {s : ByteArray} {i : Nat} (hi : i < s.size) (hx : 128 ≤ (s[i]'hi).toNat) (h : Lib.NoAny s.data.toList stops.data.toList i) : Lib.NoAny s.data.toList stops.data.toList (i + (Utf8.decode s i).2) ∧ i + (Utf8.decode s i).2 ≤ s.size ∧ 1 ≤ (Utf8.decode s i).2:=by
 have hd:=(decode_high s i hi hx).2
 refine ⟨fun j b hj hb => ?_,?_,hd⟩
 ·by_cases hji : j < i
  ·exact h j b hji hb
  ·have hjs : j < s.size:=by
    have:=(List.getElem?_eq_some_iff.1 hb).1
    simpa using this
   have hb' : b = s[j]'hjs:=by
    have:=Lib.data_getElem? s j hjs
    rw [this] at hb; exact (Option.some.inj hb).symm
   have h128 : 128 ≤ b.toNat:=by
    by_cases hji2 : j = i
    ·subst hji2; rw [hb']; exact hx
    ·have:=(decode_conts s i (j - i) (by omega) (by omega)).2
     rw [show i + (j - i) = j by omega] at this
     rw [hb']
     have e : s.get! j = s[j]'hjs:=get_at s j hjs
     rw [e] at this; exact this
   have hne : b ≠ 46 ∧ b ≠ 91:=by
    constructor
    ·rintro rfl; exact absurd h128 (by decide)
    ·rintro rfl; exact absurd h128 (by decide)
   show [(46 : UInt8),91].contains b = false
   simp [hne.1,hne.2]
 ·by_cases h1 : (Utf8.decode s i).2 = 1
  ·omega
  ·have:=(decode_conts s i ((Utf8.decode s i).2 - 1) (by omega) (by omega)).1
   omega
set_option maxHeartbeats 2000000 in
set_option maxRecDepth 100000 in
theorem indexAny_short (s : ByteArray) (w : World) (h8 : s.size ≤ 8) : Calls Tryz.prog 159 #[.string s,.string stops] w fun e w' => e = .returned (.int .i64 (Lib.indexAny s.data.toList stops.data.toList)) ∧ Below w.heap.size w w':=by
 have hss : stops.size = 2:=rfl
 have hemp : stops.toList.isEmpty = false:=by rw [Lib.toList_data]; rfl
 have hn1 : ((stops.size : Int) == 1) = false:=rfl
 have h8z : decide ((8 : Int) < (s.size : Int)) = false:=decide_eq_false (by omega)
 go_enter Tryz.func159,Tryz.ntmps159
 go_wp2_with fail
 (with_reducible refine (Tryz.strings_shouldUseASCIISet _ _).mono ?_); rintro e w1 ⟨rfl,rfl⟩
 rw [h8z]
 go_wp2_with fail
 go_loopg [9,10] s.size (fun g _ _ wx => ∃ i : Nat,s.size ≤ i + g ∧ i ≤ s.size ∧ wx.heap[w1.heap.size]? = some (.stringIter s i) ∧ Below w1.heap.size w1 wx ∧ Lib.NoAny s.data.toList stops.data.toList i)
 case atStart => exact ⟨0,by omega,by omega,World.iter_heap _ _ _,below_iter _ _ _,Lib.NoAny.zero _ _⟩
 case round =>
  obtain ⟨i,hig,his,hit,hbel,hno⟩:=hrel
  by_cases hi : i < s.size
  ·cases gk with
   | zero => omega
   | succ g =>
    obtain ⟨x,hx⟩ : ∃ x : UInt8,s[i]'hi = x:=⟨_,rfl⟩
    have hxl : s.data.toList[i]? = some x:=by rw [← hx]; exact Lib.data_getElem? s i hi
    by_cases ha : x.toNat < 128
    ·have hnx:=fun ty => run_next_ascii_at (P:=Tryz.prog) wr w1.heap.size s i ty hit hi (by rw [hx]; exact ha)
     rw [hx] at hnx
     have Hit:=kept (iterAt_heap wr w1.heap.size s i (i + 1) hit)
     have Hbel:=kept (below_iterAt hbel (Nat.le_refl _) s (i + 1))
     have Hno:=kept hno
     have Hxl:=kept hxl
     have hcon:=Lib.contains_iff_indexByte stops.data.toList x
     have hback : ((x.toNat : Int)).toNat.toUInt8 = x:=by simp
     have Hx:=kept hx
     clear hit hbel hno hxl hx
     cases hin : stops.data.toList.contains x
     ·rw [hin] at hcon
      have hlt : ¬ ((0 : Int) ≤ Lib.indexByte stops.data.toList x):=of_decide_eq_false hcon.symm
      clear hcon
      go_wp2_with fail
      (with_reducible refine (Tryz.strings_IndexRune_ascii _ _ _ (by omega) (by omega)).mono ?_); rintro e w2 ⟨rfl,rfl⟩
      rw [hback]
      go_wp2
      go_roundg g
      case measure => omega
      case rel => exact ⟨i + 1,by omega,by omega,Hit.out,Hbel.out,Hno.out.succ Hxl.out hin⟩
     ·rw [hin] at hcon
      have hge : (0 : Int) ≤ Lib.indexByte stops.data.toList x:=of_decide_eq_true hcon.symm
      clear hcon
      go_wp2_with fail
      (with_reducible refine (Tryz.strings_IndexRune_ascii _ _ _ (by omega) (by omega)).mono ?_); rintro e w2 ⟨rfl,rfl⟩
      rw [hback]
      go_wp2
      go_ret
      exact ⟨by rw [Lib.indexAny_hit Hno.out Hxl.out hin]; rfl,Hbel.out⟩
    ·have hx128 : 128 ≤ (s[i]'hi).toNat:=by rw [hx]; omega
     obtain ⟨k1,k2,k3⟩:=noAny_skip hi hx128 hno
     have d1:=(decode_high s i hi hx128).1
     have d2:=decode_le s i
     have hnx:=fun ty => run_next_any_at (P:=Tryz.prog) wr w1.heap.size s i ty hit hi
     obtain ⟨⟨c,d⟩,hcd⟩ : ∃ p,Utf8.decode s i = p:=⟨_,rfl⟩
     rw [hcd] at k1 k2 k3 d1 d2 hnx
     dsimp only at k1 k2 k3 d1 d2 hnx
     have Hit:=kept (iterAt_heap wr w1.heap.size s i (i + d) hit)
     have Hbel:=kept (below_iterAt hbel (Nat.le_refl _) s (i + d))
     have K1:=kept k1
     clear hit hbel hno hxl hx hx128 hcd k1
     go_wp2_with fail
     (with_reducible refine (indexRune_any _ (by omega) (by omega) _).mono ?_); rintro e w2 ⟨rfl,b2⟩
     have hit2 : w2.heap[w1.heap.size]? = some (.stringIter s (i + d)):=by rw [b2.block _ (Array.getElem?_eq_some_iff.1 Hit.out).1]; exact Hit.out
     have Hit2:=kept hit2
     have Hbel2:=kept (Hbel.out.trans (b2.mono (by have:=Hbel.out.size; exact this)))
     clear hit2 b2
     go_wp2
     go_roundg g
     case measure => omega
     case rel => exact ⟨i + d,by omega,by omega,Hit2.out,Hbel2.out,K1.out⟩
  ·obtain rfl : i = s.size:=by omega
   have hnx:=fun ty => run_next_end_at (P:=Tryz.prog) wr w1.heap.size s s.size ty hit (by omega)
   have Hno:=kept hno
   have Hbel:=kept hbel
   clear hno hbel
   go_wp2
   go_ret
   exact ⟨by rw [Lib.indexAny_none (by rw [← Lib.size_eq]; exact Hno.out)]; rfl,Hbel.out⟩
set_option maxHeartbeats 8000000 in
set_option maxRecDepth 1000000 in
theorem indexAny_long (s : ByteArray) (h8 : 8 < s.size) (hs : s.size ≤ 9223372036854775807) (w : World) : Calls Tryz.prog 159 #[.string s,.string stops] w fun e w' => e = .returned (.int .i64 (Lib.indexAny s.data.toList stops.data.toList)) ∧ Below w.heap.size w w':=by
 have hz:=zero_of_info (P:=Tryz.prog) (t:=228) (n:=256) (v:=.agg (Array.replicate 256 (.bool false))) (by kernel_rfl)
 obtain ⟨cells,hcells⟩ : ∃ c,Lib.setCells stops.data.toList = c:=⟨_,rfl⟩
 have hasc : ∀ (j : Nat) b,stops.data.toList[j]? = some b → b.toNat < 128:=by
  intro j b hb
  match j,hb with
  | 0,hb => cases hb; decide
  | 1,hb => cases hb; decide
  | j + 2,hb => simp [stops] at hb
 have Hset:=kept (Tryz.strings_makeASCIISet hz.1 stops w (by decide) hasc)
 obtain ⟨W,hW⟩ : ∃ W,(w.alloc (.cells cells 228)).alloc (.cells cells 228) = W:=⟨_,rfl⟩
 have hbel : Below w.heap.size w W:=by
  rw [← hW]
  exact ((Below.refl _ _).alloc (Nat.le_refl _) _).alloc (((Below.refl w.heap.size w).alloc (Nat.le_refl _) (.cells cells 228)).size) _
 have hcell : ∀ x : UInt8,W.cell? ⟨w.heap.size + 1,x.toNat,none⟩ = some (.bool (stops.data.toList.contains x)):=fun x => by
  rw [← hW,World.cell?_alloc_at _ _ _ _ (by simp),← hcells,Lib.setCells_at]
 have hst : (storeCells ⟨w.heap.size + 1,0,none⟩ cells.toList 0).run Tryz.prog ((w.alloc (.cells cells 228)).alloc (.cells (Array.replicate 256 (.bool false)) 228)) = .ok () W:=by
  have:=run_storeCells_new (P:=Tryz.prog) (w.alloc (.cells cells 228)) 228 (Array.replicate 256 (.bool false)) cells (by rw [← hcells,Lib.setCells_size]; exact hz.2) (by rw [← hcells,Lib.setCells_size,Array.size_replicate]) (by rw [← hcells]; exact Lib.setCells_one _)
  rw [hW] at this
  simpa using this
 have hemp : stops.toList.isEmpty = false:=by rw [Lib.toList_data]; rfl
 have hn1 : ((stops.size : Int) == 1) = false:=rfl
 have h8z : decide ((8 : Int) < (s.size : Int)) = true:=decide_eq_true (by omega)
 have HC:=kept hcell
 have HB:=kept hbel
 clear hcell hbel
 rw [hcells] at Hset
 go_enter Tryz.func159,Tryz.ntmps159
 go_wp2_with fail
 (with_reducible refine (Tryz.strings_shouldUseASCIISet _ _).mono ?_); rintro e w1 ⟨rfl,rfl⟩
 rw [h8z]
 go_wp2_with fail
 (with_reducible refine Hset.out.mono ?_); rintro e w1 ⟨rfl,rfl⟩
 have hcsz : cells.size = 256:=by rw [← hcells]; exact Lib.setCells_size _
 have e0 : Tryz.zeroCells228 = Array.replicate 256 (.bool false):=by kernel_rfl
 go_wp2
 go_loopg [8] s.size (fun g s8 wx => ∃ i : Nat,i + g = s.size ∧ s8 = .int .i64 i ∧ wx = W ∧ Lib.NoAny s.data.toList stops.data.toList i)
 case atStart => exact ⟨0,by omega,rfl,rfl,Lib.NoAny.zero _ _⟩
 case round =>
  obtain ⟨i,hig,rfl,rfl,hno⟩:=hrel
  have HN:=kept hno
  clear hno
  cases gk with
  | zero =>
   obtain rfl : i = s.size:=by omega
   have hiz : ¬ ((s.size : Int) < (s.size : Int)):=by omega
   go_wp2
   go_ret
   exact ⟨by rw [Lib.indexAny_none (by rw [← Lib.size_eq]; exact HN.out)]; rfl,HB.out⟩
  | succ g =>
   have hi : i < s.size:=by omega
   have hiz : (i : Int) < (s.size : Int):=by omega
   have hw : IntKind.i64.wrap ((i : Int) + 1) = (i : Int) + 1:=Go.IntWalk.i64_in _ ⟨by omega,by omega⟩
   obtain ⟨x,hx⟩ : ∃ x : UInt8,s[i]'hi = x:=⟨_,rfl⟩
   have hxl : s.data.toList[i]? = some x:=by rw [← hx]; exact Lib.data_getElem? s i hi
   have Hxl:=kept hxl
   clear hxl
   have hcx:=HC.out x
   cases hin : stops.data.toList.contains x <;> rw [hin] at hcx
   ·go_wp2_with fail
    (with_reducible refine (Tryz.asciiSet_contains _ x _ _ hcx).mono ?_); rintro e w2 ⟨rfl,rfl⟩
    go_wp2
    go_roundg g
    case measure => omega
    case rel => exact ⟨i + 1,by omega,by first | rfl | simp,rfl,HN.out.succ Hxl.out hin⟩
   ·go_wp2_with fail
    (with_reducible refine (Tryz.asciiSet_contains _ x _ _ hcx).mono ?_); rintro e w2 ⟨rfl,rfl⟩
    go_wp2
    go_ret
    exact ⟨by rw [Lib.indexAny_hit HN.out Hxl.out hin]; rfl,HB.out⟩
theorem indexAny_any (s : ByteArray) (hs : s.size ≤ 9223372036854775807) (w : World) : Calls Tryz.prog 159 #[.string s,.string stops] w fun e w' => e = .returned (.int .i64 (Lib.indexAny s.data.toList stops.data.toList)) ∧ Below w.heap.size w w':=by
 by_cases h8 : s.size ≤ 8
 ·exact indexAny_short s w h8
 ·exact indexAny_long s (by omega) hs w
end Go.Proofs.YtnjkemakcejceaaGreatDoor
