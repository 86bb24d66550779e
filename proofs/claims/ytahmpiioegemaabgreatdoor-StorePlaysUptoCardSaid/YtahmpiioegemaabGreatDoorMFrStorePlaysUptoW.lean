/- Part of what the proof needs. -/
import Derived.Test.YtahmpiioegemaabGreatDoorMFrStorePlaysUptoM
import Derived.Test.YtahmpiioegemaabGreatDoorMFrStorePlaysUptoU
import Derived.Test.YtahmpiioegemaabGreatDoorMFrStorePlaysUptoV
set_option maxHeartbeats 4000000
set_option linter.unusedSimpArgs false
set_option linter.unusedVariables false
set_option linter.unnecessarySimpa false
namespace Go.Proofs.YtahmpiioegemaabGreatDoor
open Go.RowKit
namespace AX
open Sto
structure VP (l:List Act) (lin:List UInt8) (i:Nat) (s:Sto) (r:Rst) (nw:Nat):Prop where
 le:i≤l.length
 vs:Vw s (nw+1)
 wl:nw≤i
 slin:s.lin=lin
 left:LeftOk s
 sim:Sim s r (nw+1)
theorem find_none {s:Sto} {r:Rst} {N:Nat} (v:Sim s r N) (n:Int) (h:¬ (0≤n∧n < (N:Int))):lfind n s.es=none:=by
 cases hf:lfind n s.es with
 | none=>rfl
 | some b=>exact absurd (v.only n b (lfind_mem n b _ hf)) h
theorem newH_two (key lin:List UInt8):newH key lin=[]∨newH key lin=[(newK key lin).1.M,(newK key lin).1.B]:=by
 unfold newH
 split
 ·exact .inl rfl
 ·split
  ·exact .inl rfl
  ·exact .inr rfl
abbrev nextOps:List AOper:=[aR 125 (.load true 10 (.t 12)),aM 126 1,aR 127 (.load true 6 (.t 9)),⟨some 128,.call 17 [.t 127],none,[2]⟩,⟨some 129,.bin .add (.t 128) (aI 1),none,[3]⟩,
 ⟨some 130,.call 16 [.t 125,.t 126,.t 129],none,[0,1,4,3]⟩,aR 16 (.alloc 39 [.str [],.int .i64 0,.sl 0 .nil [],.sl 0 .nil [],.sl 0 .nil []]),⟨none,.store 5 (.t 16) (.t 130),none,[6,5,5,0,1,2,3,4,5,6]⟩]
theorem w_next34 {ts:Ts} {s:Sto} {b1 b2 b5:List UInt8} {b3:List Int} {b4:List (List UInt8)} {b6:Int} {l':List Blk} {t:List (TypeId×Nat×Nat)} {Q:AExit→Ts→Hp→Prop} {k0 n:Int} {who sl q lin:List UInt8} {ser N M:Int} {x1 x2 x3:A} {nx:Bool} {y0:List UInt8} {y1:Int} {y2 y3 y4:A}
  (h1:ts 1 = .str lin) (h9:ts 9 = .ptr 2 0) (h12:ts 12 = .ptr (l'.length+1+1+1) 0)
  (cL:∀ h,ACall Tryz.prog GT 17 [.agg [.str b1,.str b2,.sl 1 .no (rowsI b3),.sl 1 .no (strsA b4),.str b5,.int .i64 b6]] h fun v h'=>v = .int .i64 N∧h'=h)
  (hN:IntKind.i64.wrap (N+1)=M)
  (hx:A.one x1=true∧A.one x2=true∧A.one x3=true) (hy:A.one y2=true∧A.one y3=true∧A.one y4=true)
  (cN:∀ h,ACall Tryz.prog GT 16 [.agg [.int .i64 k0,.str who,.int .i64 n,.str sl,.int .i64 ser,x1,x2,x3,.bool nx,.str q],.str lin,.int .i64 M] h fun v h'=>v = .agg [.str y0,.int .i64 y1,y2,y3,y4]∧h'=h)
  (hQ:∀ ts',(∀ j,j < 100→j≠16→ts' j=ts j)→ts' 16 = .ptr (l'.length+1+1+1+1) 0→Q .normal ts' ⟨s.M::s.B :: .cells 32 [.str b1,.str b2,.sl 1 .no (rowsI b3),.sl 1 .no (strsA b4),.str b5,.int .i64 b6]::(l'++[.cells 41 [.int .i64 k0,.str who,.int .i64 n,.str sl,.int .i64 ser,x1,x2,x3,.bool nx,.str q]]++[.cells 39 [.str y0,.int .i64 y1,y2,y3,y4]]),t⟩) :
  awp Tryz.prog GT (.reg true nextOps) Q ts ⟨s.M::s.B :: .cells 32 [.str b1,.str b2,.sl 1 .no (rowsI b3),.sl 1 .no (strsA b4),.str b5,.int .i64 b6]::(l'++[.cells 41 [.int .i64 k0,.str who,.int .i64 n,.str sl,.int .i64 ser,x1,x2,x3,.bool nx,.str q]]),t⟩:=by
 refine awp_chain [6,7] [_,⟨s.M::s.B :: .cells 32 [.str b1,.str b2,.sl 1 .no (rowsI b3),.sl 1 .no (strsA b4),.str b5,.int .i64 b6]::(l'++[.cells 41 [.int .i64 k0,.str who,.int .i64 n,.str sl,.int .i64 ser,x1,x2,x3,.bool nx,.str q]]++[.cells 39 [.str [],.int .i64 0,.sl 0 .nil [],.sl 0 .nil [],.sl 0 .nil []]]),t⟩,⟨s.M::s.B :: .cells 32 [.str b1,.str b2,.sl 1 .no (rowsI b3),.sl 1 .no (strsA b4),.str b5,.int .i64 b6]::(l'++[.cells 41 [.int .i64 k0,.str who,.int .i64 n,.str sl,.int .i64 ser,x1,x2,x3,.bool nx,.str q]]++[.cells 39 [.str y0,.int .i64 y1,y2,y3,y4]]),t⟩] [[0,1],[0,1],[0,1],[0,1],[0,1],[0,1],[0],[1]] rfl (by decide +kernel) ?_
 refine gc_op (v:=.agg [.int .i64 k0,.str who,.int .i64 n,.str sl,.int .i64 ser,x1,x2,x3,.bool nx,.str q]) rfl ⟨?_,?_,trivial⟩ ?_
 ·simp [evX,put,astep,loadA,h12]
 ·simp [evX,put,astep,loadA,h12]
 refine gc_op (v:=.str lin) rfl ⟨?_,?_,trivial⟩ ?_
 ·simp [evX,put,astep,h1]
 ·simp [evX,put,astep,h1]
 refine gc_op (v:=.agg [.str b1,.str b2,.sl 1 .no (rowsI b3),.sl 1 .no (strsA b4),.str b5,.int .i64 b6]) rfl ⟨?_,?_,trivial⟩ ?_
 ·simp [evX,put,astep,loadA,h9]
 ·simp [evX,put,astep,loadA,h9]
 refine gc_call (vs:=[.agg [.str b1,.str b2,.sl 1 .no (rowsI b3),.sl 1 .no (strsA b4),.str b5,.int .i64 b6]]) (v:=.int .i64 N) (by simp [evX,put]) ⟨cL _,cL _,trivial⟩ ?_
 refine gc_op (v:=.int .i64 M) rfl ⟨?_,?_,trivial⟩ ?_
 ·simp [evX,put,astep,bop,hN]
 ·simp [evX,put,astep,bop,hN]
 refine gc_call (vs:=[.agg [.int .i64 k0,.str who,.int .i64 n,.str sl,.int .i64 ser,x1,x2,x3,.bool nx,.str q],.str lin,.int .i64 M]) (v:=.agg [.str y0,.int .i64 y1,y2,y3,y4]) (by simp [evX,put]) ⟨cN _,cN _,trivial⟩ ?_
 refine gc_op (v:=.ptr (l'.length+1+1+1+1) 0) rfl ⟨?_,trivial⟩ ?_
 ·simp [evX,put,astep,A.one]
 refine gc_op (v:=.tup []) rfl ⟨?_,trivial⟩ ?_
 ·have e1:A.one (.str y0)=true:=rfl
  have e2:A.one (.int .i64 y1)=true:=rfl
  simp [evX,put,astep,storeA,setCells,A.cells,e1,e2,hy]
 refine gc_nil (hQ _ (fun j hj hne=>?_) ?_)
 ·simp [put,hne,show ¬ j=125 by omega,show ¬ j=126 by omega,show ¬ j=127 by omega,show ¬ j=128 by omega,show ¬ j=129 by omega,show ¬ j=130 by omega]
 ·simp [put]
theorem w_plays (key lin:List UInt8) (l:List Act) (hw:∀ a∈l,a.st.Wf∧a.st.toD.bulk≤1048576) (hl:l.length≤1000000000) :
  ACall Tryz.prog GT 3 [.str key,.str lin,.sl 10 .no (l.map Act.cells)] ⟨[],[]⟩ fun r _=>r = .bool true:=by
 have hfit:∀ a∈l,Sf.Fit a.st:=fun a ha=>Sf.fit_of (hw a ha).1 (Nat.le_trans (hw a ha).2 (by decide))
 have hfew:=a_few34 l (fun a ha=>(hfit a ha).sin) hl
 have aw:=aw34
 refine fo ?_
 by_cases k1:(key.length:Int) > 100
 ·refine runc0 k1 (ai aw ti) ?_
  exact ⟨_,le_refl _,rfl⟩
 by_cases k2:(lin.length:Int) > 100
 ·refine runc0 (ai k1 k2) (ai aw ti) ?_
  exact ⟨_,le_refl _,rfl⟩
 obtain ⟨fw,hfw⟩:∃ b,fewB l=b:=⟨_,rfl⟩
 rw [hfw] at hfew
 cases fw
 ·refine runc0 (ai k1 k2) (ai hfew (ai aw ti)) ?_
  exact ⟨_,le_refl _,rfl⟩
 unfold fewB at hfw
 rw [Bool.and_eq_true,decide_eq_true_eq] at hfw
 obtain ⟨hall,hl30⟩:=hfw
 have hkl:∀ a∈l,a.who.length≤100∧a.key.length≤100:=fun a ha=>by
  have:=List.all_eq_true.1 hall a (by rw [List.take_of_length_le hl30]; exact ha)
  unfold Act.ok at this
  simp only [Bool.and_eq_true,decide_eq_true_eq] at this
  exact this.2
 have hw0:Sf.Fit (w0 lin):=to_fit ⟨0,[],0,w0 lin,true,[]⟩ lin 0 ⟨by simp [w0],by simp [w0],by rfl⟩ (by unfold w0 Sf.St.toD; simp only [List.map_nil,D.bulk,D.bulks]; omega) (by omega) ⟨by decide,by decide⟩
 have hnew:=a_newE key lin (by omega) (by omega) (hw0.len 2)
 have href:=a_r34new key lin (by omega) (by omega) (hw0.len 2)
 obtain ⟨n1,n2⟩:=Sim.new key lin
 rw [n1] at href
 by_cases e0:newE key lin=0
 rotate_left
 ·rw [if_neg e0] at hnew
  obtain ⟨Z,hZ⟩:∃ Z,newE key lin=Z:=⟨_,rfl⟩
  rw [hZ] at hnew e0 href
  obtain ⟨r,hr⟩:∃ r,(Rst.new key lin).1=r:=⟨_,rfl⟩
  rw [hr] at href
  obtain ⟨a1,a2,a3,a4,a5,a6⟩:=r
  dsimp only [Rst.A] at href
  have e1:(Z != 0)=true:=by simp [e0]
  have e2:(Z == 0)=false:=by simp [e0]
  have e3:(Z != Z)=false:=by simp
  rcases newH_two key lin with hH | hH
  ·rw [hH] at hnew
   refine runc0 (ai k1 (ai k2 (ai e1 (ai e2 e3)))) (ai hfew (ai hnew (ai href (ai aw ti)))) ?_
   exact ⟨_,le_refl _,rfl⟩
  ·rw [hH] at hnew
   refine runc0 (ai k1 (ai k2 (ai e1 (ai e2 e3)))) (ai hfew (ai hnew (ai href (ai aw ti)))) ?_
   exact ⟨_,le_refl _,rfl⟩
 rw [if_pos e0,e0] at hnew
 rw [e0] at href
 have hsim:=n2 e0
 obtain ⟨hck,hkz,hnH⟩:=newE_ok e0
 have hv0:Vw (newK key lin).1 (0+1):=keep_vw (s:=Sto.new key lin) (n:=0) (w0 lin) hck rfl (by decide) (fun j h=>absurd h (by omega)) (fun n b h=>by cases h) hkz
 have hs0:(newK key lin).1.lin=lin∧(newK key lin).1.left=0:=by
  unfold newK Sto.keep
  split
  ·exact ⟨rfl,rfl⟩
  ·split <;> exact ⟨rfl,rfl⟩
 rw [hnH] at hnew
 obtain ⟨s0,hs⟩:∃ s0,(newK key lin).1=s0:=⟨_,rfl⟩
 rw [hs] at hv0 hs0 hnew hsim
 obtain ⟨r0,hr⟩:∃ r,(Rst.new key lin).1=r:=⟨_,rfl⟩
 rw [hr] at href hsim
 obtain ⟨a1,a2,a3,a4,a5,a6⟩:=r0
 dsimp only [Rst.A] at href
 refine runc0 (ai k1 k2) (ai hfew (ai hnew (ai href ti))) ?_
 refine awp_loop (fun m ts h=>∃ (i:Nat) (s:Sto) (r:Rst) (nw:Nat) (l':List Blk) (t:List (TypeId×Nat×Nat)),m=l.length - i∧h=⟨s.M::s.B::RBk r::l',t⟩∧VP l lin i s r nw ∧
  (ts 1 = .str lin∧ts 2 = .sl 10 .no (l.map Act.cells)∧ts 7 = .ptr 1 0∧ts 9 = .ptr 2 0∧ts 11 = .int .i64 (i:Nat))) l.length ?_ ?_
 ·exact ⟨0,s0,_,0,[],[],rfl,rfl,⟨Nat.zero_le _,hv0,Nat.zero_le _,hs0.1,⟨by rw [hs0.2]; decide,by rw [hs0.2]; decide⟩,hsim⟩,by (exact inv0 ti)⟩
 rintro m ts h ⟨i,s,r,nw,l',t,rfl,rfl,v,ht⟩
 have hwl:nw+1 < 60:=by have:=v.wl; have:=v.le; omega
 have hlat:s.latest=((nw:Nat):Int):=by have:=v.vs.lat; omega
 rcases Nat.lt_or_ge i l.length with hlt | hge
 ·have hf:=row_at Act.cells l i hlt (by omega)
  have hwi:=hw _ (List.getElem_mem hlt)
  have hki:=hkl _ (List.getElem_mem hlt)
  obtain ⟨a,ha⟩:∃ a,l[i]=a:=⟨_,rfl⟩
  rw [ha] at hf hwi hki
  have hto:=to_fit a lin (nw+1:Nat) hwi.1 hwi.2 (by omega) (by have:=v.wl; omega)
  have cN:=a_next34 a lin (nw+1:Nat)
  have cA:=fun (s':Sto) (r':Rst) (nw':Nat) (v':VP l lin (i+1) s' r' nw')=>a_agrees34 s' r' (nw'+1) v'.sim (by have:=v'.wl; have:=v'.le; omega) (by have:=v'.vs.lat; simpa using this) (by omega)
  obtain ⟨kd,who,n,st,nx,q⟩:=a
  simp only [Act.cells] at hf cN
  obtain ⟨kw,kq⟩:=hki
  dsimp only at kw kq
  have z0:((0:Int) != 0)=false:=by decide
  by_cases q0:kd=0
  ·subst q0
   have c:=fun l t=>a_lock s l t who (by omega) n
   have hV:=v.vs.lock who n
   obtain ⟨hL,hlin,-⟩:=v.left.lock who n
   have cr:=a_r34lock r who (by omega) n
   obtain ⟨hS,hS2⟩:=v.sim.lock who n
   obtain ⟨⟨s',e⟩,hse⟩:∃ r,s.lock who n=r:=⟨_,rfl⟩
   obtain ⟨⟨r',e'⟩,hre⟩:∃ p,r.lock who n=p:=⟨_,rfl⟩
   rw [hse] at c hV hL hlin hS hS2
   rw [hre] at cr hS hS2
   dsimp only at c hV hL hlin hS hS2 cr
   subst hS
   have v':VP l lin (i+1) s' r' nw:=⟨hlt,hV,Nat.le_succ_of_le v.wl,hlin.trans v.slin,hL,hS2⟩
   have ca:=cA s' r' nw v'
   have ee:(e' != e')=false:=by simp
   obtain ⟨b1,b2,b3,b4,b5,b6⟩:=r
   obtain ⟨d1,d2,d3,d4,d5,d6⟩:=r'
   dsimp only [Rst.A] at cr ca
   unfold RBk
   dsimp only
   refine runc0 (ai ht (ai hf ee)) (ai c (ai cr (ai ca ti))) ?_
   exact ⟨_,by omega,i+1,s',_,nw,_,_,rfl,rfl,v',by (exact inv0 (ai ht hf))⟩
  by_cases q1:kd=1
  ·subst q1
   have c:=fun l t=>a_unlock s l t who
   have hV:=v.vs.unlock who
   obtain ⟨hL,hlin⟩:=v.left.unlock who
   have cr:=a_r34unlock r who
   obtain ⟨hS,hS2⟩:=v.sim.unlock who
   obtain ⟨⟨s',e⟩,hse⟩:∃ r,s.unlock who=r:=⟨_,rfl⟩
   obtain ⟨⟨r',e'⟩,hre⟩:∃ p,r.unlock who=p:=⟨_,rfl⟩
   rw [hse] at c hV hL hlin hS hS2
   rw [hre] at cr hS hS2
   dsimp only at c hV hL hlin hS hS2 cr
   subst hS
   have v':VP l lin (i+1) s' r' nw:=⟨hlt,hV,Nat.le_succ_of_le v.wl,hlin.trans v.slin,hL,hS2⟩
   have ca:=cA s' r' nw v'
   have ee:(e' != e')=false:=by simp
   obtain ⟨b1,b2,b3,b4,b5,b6⟩:=r
   obtain ⟨d1,d2,d3,d4,d5,d6⟩:=r'
   dsimp only [Rst.A] at cr ca
   unfold RBk
   dsimp only
   refine runc0 (ai ht (ai hf ee)) (ai c (ai cr (ai ca ti))) ?_
   exact ⟨_,by omega,i+1,s',_,nw,_,_,rfl,rfl,v',by (exact inv0 (ai ht hf))⟩
  by_cases q2:kd=2
  ·subst q2
   have c:=fun l t=>a_break s l t
   have hV:=v.vs.brk
   obtain ⟨hL,hlin⟩:=v.left.brk
   have cr:=a_r34break r
   have hS2:=v.sim.brk
   rw [v.sim.own] at cr
   obtain ⟨r',hre⟩:∃ p,r.brk=p:=⟨_,rfl⟩
   rw [hre] at cr hS2
   have v':VP l lin (i+1) s.brk r' nw:=⟨hlt,hV,Nat.le_succ_of_le v.wl,hlin.trans v.slin,hL,hS2⟩
   have ca:=cA s.brk r' nw v'
   obtain ⟨B,hB⟩:∃ B,(s.own != [])=B:=⟨_,rfl⟩
   rw [hB] at c cr
   have ee:(B != B)=false:=by simp
   have ee2:(B == B)=true:=by simp
   obtain ⟨b1,b2,b3,b4,b5,b6⟩:=r
   obtain ⟨d1,d2,d3,d4,d5,d6⟩:=r'
   dsimp only [Rst.A] at cr ca
   unfold RBk
   dsimp only
   refine runc0 (ai ht (ai hf (ai ee (ai ee2 z0)))) (ai c (ai cr (ai ca ti))) ?_
   exact ⟨_,by omega,i+1,s.brk,_,nw,_,_,rfl,rfl,v',by (exact inv0 (ai ht hf))⟩
  by_cases q3:kd=3
  ·subst q3
   have c:=fun l t=>a_tick s l t n v.left.lo v.left.hi
   have hV:=v.vs.tick n
   obtain ⟨hL,hlin⟩:=v.left.tick n
   have cr:=a_r34tick r n
   have hS2:=v.sim.tick v.left n
   obtain ⟨r',hre⟩:∃ p,r.tick n=p:=⟨_,rfl⟩
   rw [hre] at cr hS2
   have v':VP l lin (i+1) (s.tick n) r' nw:=⟨hlt,hV,Nat.le_succ_of_le v.wl,hlin.trans v.slin,hL,hS2⟩
   have ca:=cA (s.tick n) r' nw v'
   obtain ⟨b1,b2,b3,b4,b5,b6⟩:=r
   obtain ⟨d1,d2,d3,d4,d5,d6⟩:=r'
   dsimp only [Rst.A] at cr ca
   unfold RBk
   dsimp only
   refine runc0 (ai ht (ai hf z0)) (ai c (ai cr (ai ca ti))) ?_
   exact ⟨_,by omega,i+1,s.tick n,_,nw,_,_,rfl,rfl,v',by (exact inv0 (ai ht hf))⟩
  have hnum:r.nums=((List.range nw).map fun i:Nat=>(i:Int))++[((nw:Nat):Int)]:=by rw [v.sim.nums,List.range_succ,List.map_append]; rfl
  have hw1:IntKind.i64.wrap (((nw:Nat):Int)+1)=((nw+1:Nat):Int):=by rw [wrap64 (by omega) (by have:=v.wl; omega)]; omega
  have hkR:r.key.length≤1000000000:=by rw [v.sim.key]; exact v.vs.keyLen
  by_cases q4:kd=4
  ·subst q4
   obtain ⟨st',hst⟩:∃ st',Act.to ⟨4,who,n,st,nx,q⟩ lin (nw+1:Nat)=st':=⟨_,rfl⟩
   rw [hst] at cN hto
   have c:=fun l t=>a_swrite s l t who st' hto.sin v.vs.keyLen (hto.len 2)
   have cL:=a_r34latest r ((nw:Nat):Int) _ hnum (by simp; omega)
   have cr:=a_r34write r ((nw:Nat):Int) _ hnum who st' hto.sin hto.tin hkR (by rw [v.sim.nums]; simp; omega) (by rw [v.sim.bl,v.sim.nums]; simp) (hto.len 2)
   have hW:=v.vs.write hwl who st'
   obtain ⟨hS,hS1,hS2⟩:=v.sim.write (by rw [hlat]; omega) (by omega) who st'
   rw [hlat] at hS hS1 hS2
   obtain ⟨⟨s',e⟩,hse⟩:∃ r,s.write who st'=r:=⟨_,rfl⟩
   obtain ⟨⟨r',e'⟩,hre⟩:∃ p,r.write ((nw:Nat):Int) who st'=p:=⟨_,rfl⟩
   rw [hse] at c hW hS hS1 hS2
   rw [hre] at cr hS hS1 hS2
   dsimp only at c hW hS hS1 hS2 cr
   subst hS
   have hV':∃ nw',VP l lin (i+1) s' r' nw':=by
    rcases hW with ⟨e0,rfl⟩ | ⟨rfl,hV,hlin,hleft⟩
    ·obtain rfl:=hS2 e0
     exact ⟨nw,hlt,v.vs,Nat.le_succ_of_le v.wl,v.slin,v.left,v.sim⟩
    ·exact ⟨nw+1,hlt,hV,Nat.succ_le_succ v.wl,hlin.trans v.slin,⟨by rw [hleft]; exact v.left.lo,by rw [hleft]; exact v.left.hi⟩,hS1 rfl⟩
   obtain ⟨nw',v'⟩:=hV'
   have ca:=cA s' r' nw' v'
   have ee:(e' != e')=false:=by simp
   have hA:st'.A = .agg [.str st'.lin,.int .i64 st'.ser,.sl 13 .no (st'.insts.map Sf.Inst.cells),.sl 3 .no (st'.pends.map Sf.Pend.cells),.sl 7 .no (st'.outs.map Sf.Outp.cells)]:=rfl
   rw [hA] at cN c cr
   obtain ⟨b1,b2,b3,b4,b5,b6⟩:=r
   obtain ⟨d1,d2,d3,d4,d5,d6⟩:=r'
   dsimp only [Rst.A] at cr ca cL
   unfold RBk
   dsimp only
   refine runc0 (ai ht hf) ti ?_
   refine w_next34 (by (exact ev0 ht)) (by (exact ev0 ht)) (by (exact ev0 ht)) cL hw1 ⟨rfl,rfl,rfl⟩ ⟨rfl,rfl,rfl⟩ cN (fun ts' k1 k16=>?_)
   have hu:ts' 1 = .str lin∧ts' 2 = .sl 10 .no (l.map Act.cells)∧ts' 7 = .ptr 1 0∧ts' 9 = .ptr 2 0∧ts' 11 = .int .i64 (i:Nat)∧ts' 12 = .ptr (l'.length+1+1+1) 0∧ts' 16 = .ptr (l'.length+1+1+1+1) 0:=
    ⟨by rw [k1 1 (by decide) (by decide)]; (exact ev0 ht),by rw [k1 2 (by decide) (by decide)]; (exact ev0 ht),by rw [k1 7 (by decide) (by decide)]; (exact ev0 ht),by rw [k1 9 (by decide) (by decide)]; (exact ev0 ht),by rw [k1 11 (by decide) (by decide)]; (exact ev0 ht),by rw [k1 12 (by decide) (by decide)]; (exact ev0 ht),k16⟩
   clear k1 k16
   refine runc0 (ai hu (ai hf ee)) (ai c (ai cr (ai ca ti))) ?_
   exact ⟨_,by omega,i+1,s',_,nw',_,_,rfl,rfl,v',by (exact inv0 (ai hu hf))⟩
  have n0:(kd == 0)=false:=by simp [q0]
  have n1:(kd == 1)=false:=by simp [q1]
  have n2:(kd == 2)=false:=by simp [q2]
  have n3:(kd == 3)=false:=by simp [q3]
  have n4:(kd == 4)=false:=by simp [q4]
  by_cases q5:kd=5
  ·have hbl:∀ b∈r.blobs,b.length≤1048600:=fun b hb=>by
    obtain ⟨j,hj,rfl⟩:=List.getElem_of_mem hb
    exact v.vs.find _ _ (v.sim.has j hj)
   have hgood:=fun hq=>v.sim.good v.vs q hq
   have hserr:s.serials=(List.range (nw+1)).map fun i:Nat=>(i:Int):=v.vs.serials hwl
   have cr:=a_r34rekey r who q hkR (by omega) (by rw [v.sim.bl]; omega) hbl hgood
   have hhold:=v.sim.holds who
   unfold Rst.rekey at cr
   rw [hhold] at cr
   have hWr:∀ e,s.Wrong who q e→(if s.holds who=false then (r,(25:Int)) else if Seal.check q≠0 then (r,Seal.check q) else ({ r with key:=q,blobs:=r.blobs.map fun b=>(Seal.rekey r.key q b).1 },0))=(r,e)∨e=0:=by
    rintro e (⟨h1,rfl⟩ | ⟨h1,rfl⟩ | ⟨h1,n',hn',h2⟩)
    ·rw [if_pos h1]; exact .inl rfl
    ·by_cases hz:Seal.check q=0
     ·exact .inr hz
     ·rw [if_neg (by rw [h1]; simp),if_pos hz]; exact .inl rfl
    ·exfalso
     rw [hserr] at hn'
     obtain ⟨j,hj,rfl⟩:=List.mem_map.1 hn'
     have hjb:j < r.blobs.length:=by rw [v.sim.bl]; exact List.mem_range.1 hj
     rw [v.sim.has j hjb] at h2
     have:=hgood h1 _ (List.getElem_mem hjb)
     rw [v.sim.key] at this
     exact h2 this
   obtain ⟨b1,b2,b3,b4,b5,b6⟩:=r
   dsimp only at hWr
   unfold RBk
   dsimp only
   refine runc0 (ai ht (ai hf (ai n0 (ai n1 (ai n2 (ai n3 n4)))))) ti ?_
   (refine AX.alt0 ht ?_ ?_)
   rotate_left
   ·intro e; exact absurd e (by simp [q5])
   intro _
   refine go0 (ai ht hf) ?_
   refine gc0 ht ?_
   refine (a_rekey s _ _ who q v.vs.keyLen (by omega) (by have:=v.vs.lat; have:=v.vs.pos; omega) (by have:=v.vs.lat; have:=hwl; omega) v.vs.find).mono ?_
   rintro r' h' ⟨s',⟨e,rfl,hcase⟩,rfl⟩
   have ee:(e != e)=false:=by simp
   rcases hcase with ⟨e0,rfl,hwr⟩ | ⟨rfl,hh,hq,hR⟩
   ·rcases hWr e hwr with hcr | hcr
    rotate_left
    ·exact absurd hcr e0
    rw [hcr] at cr
    have v':VP l lin (i+1) s' _ nw:=⟨hlt,v.vs,Nat.le_succ_of_le v.wl,v.slin,v.left,v.sim⟩
    have ca:=cA s' _ nw v'
    dsimp only [Rst.A] at cr ca
    refine go0 (ai ht hf) ?_
    refine gc0 ht ?_
    refine (cr _).mono ?_
    rintro r2 h2 ⟨rfl,rfl⟩
    refine go0 (ai ht (ai hf ee)) ?_
    refine gc0 ht ?_
    refine (ca _ _).mono ?_
    rintro r3 h3 ⟨rfl,rfl⟩
    refine go0 (ai ht hf) ?_
    exact ⟨_,by omega,i+1,s',_,nw,_,_,rfl,rfl,v',by (exact inv0 (ai ht hf))⟩
   ·rw [if_neg (by rw [hh]; simp),if_neg (by rw [hq]; simp)] at cr
    have v':VP l lin (i+1) s' _ nw:=⟨hlt,v.vs.rekey hwl hq hR,Nat.le_succ_of_le v.wl,hR.lin.trans v.slin,⟨by rw [hR.left]; exact v.left.lo,by rw [hR.left]; exact v.left.hi⟩,v.sim.rekey hserr hR⟩
    have ca:=cA s' _ nw v'
    dsimp only [Rst.A] at cr ca
    refine go0 (ai ht hf) ?_
    refine gc0 ht ?_
    refine (cr _).mono ?_
    rintro r2 h2 ⟨rfl,rfl⟩
    refine go0 (ai ht (ai hf ee)) ?_
    refine gc0 ht ?_
    refine (ca _ _).mono ?_
    rintro r3 h3 ⟨rfl,rfl⟩
    refine go0 (ai ht hf) ?_
    exact ⟨_,by omega,i+1,s',_,nw,_,_,rfl,rfl,v',by (exact inv0 (ai ht hf))⟩
  ·have n5:(kd == 5)=false:=by simp [q5]
   have v':VP l lin (i+1) s r nw:=⟨hlt,v.vs,Nat.le_succ_of_le v.wl,v.slin,v.left,v.sim⟩
   have ca:=cA s r nw v'
   obtain ⟨b1,b2,b3,b4,b5,b6⟩:=r
   dsimp only [Rst.A] at ca
   unfold RBk
   dsimp only
   refine runc0 (ai ht (ai hf (ai n0 (ai n1 (ai n2 (ai n3 (ai n4 (ai n5 z0)))))))) (ai ca ti) ?_
   exact ⟨_,by omega,i+1,s,_,nw,_,_,rfl,rfl,v',by (exact inv0 (ai ht hf))⟩
 have hf:=row_end Act.cells l i hge
 have hi:i=l.length:=by have:=v.le; omega
 have f1:lfind (-1) s.es=none:=find_none v.sim _ (by omega)
 have cAt:=fun l t=>a_at_none s l t (-1) v.vs.keyLen f1
 have cR:=fun l' t=>a_raw s l' t ((l.length+1:Nat):Int)
 rw [find_none v.sim ((l.length+1:Nat):Int) (by have:=v.wl; omega)] at cR
 have hw1:IntKind.i64.wrap ((l.length:Int)+1)=((l.length+1:Nat):Int):=by rw [wrap64 (by omega) (by omega)]; omega
 dsimp only at cR
 refine runc0 (ai ht (ai hf hw1)) (ai cAt (ai cR (ai aw ti))) ?_
 exact ⟨_,le_refl _,rfl⟩
end AX
end Go.Proofs.YtahmpiioegemaabGreatDoor

namespace Go.Proofs.YtahmpiioegemaabGreatDoor
open Go.RowKit Go.ChangeShapes Go.WideShapes
namespace AX
theorem str_bulk {H:Type} {l:List UInt8} (h:Rows.uptoBulk (DataW.lit (H:=H) (.string l))≤1048576):l.length≤1048576:=by
 unfold Rows.uptoBulk at h
 simp at h
 omega
section
variable {H:Type} {enc:TypeId×Value→H} {w:World} {base:Nat} {spare:Nat→Bool} {held:Bool} {r:Reach} {b0:Nat} {v:Value} {d:DataW H} {p:List MemPlace}
set_option maxRecDepth 100000 in
theorem arg_sliceB {K:List TypeId} {t e:TypeId} (hK:plainAll Tryz.prog K=true) (ht:t∈K) (hu:Tryz.prog.underlying t=some (.slice e)) (hval:Value.okWide Tryz.prog w r b0 t v) (h:DataW.Trod enc Tryz.prog w base spare held t v d p) :
  ∃ x:List D,ConfA Tryz.prog x e∧x.length≤maxLen∧D.bulks x≤Rows.uptoBulk d∧Rep (Ctx.of w) (.sl (Tryz.prog.cellsOf e) .no (D.rows x)) v:=by
 obtain ⟨a,len,cap,rfl⟩:=okWide_slice hu hval
 obtain ⟨fuel,hf⟩:=h
 obtain ⟨x,h1,h2,h3⟩:=trod_rdB hK fuel t ht _ _ hf
 obtain ⟨l,rfl,h4,h5⟩:=conf_slice hu h2
 refine ⟨l,h4,h5,?_,?_⟩
 ·rw [D.bulk] at h3
  exact Nat.le_trans (by omega) h3
 ·have:=rd_of h1
  rw [D.cells] at this
  obtain ⟨c,cs',e1,e2,e3⟩:=repL_cons.1 this
  rw [repL_nil] at e3
  subst e3
  injection e1 with e1
  rw [e1]
  exact e2
end
end AX
end Go.Proofs.YtahmpiioegemaabGreatDoor

namespace Go.Proofs.YtahmpiioegemaabGreatDoor
open Go.RowKit Go.ChangeShapes Go.WideShapes
namespace AX
def Act.toD (a:Act):D:=.agg [.int .i64 a.kind,.str a.who,.int .i64 a.n,a.st.toD,.bool a.next,.str a.key]
theorem Act.cells_toD (a:Act):a.toD.cells=a.cells:=by
 obtain ⟨k,who,n,st,nx,q⟩:=a
 have h:=Sf.St.cells_toD st
 unfold Sf.St.A at h
 injection h with h
 unfold Act.toD Act.cells
 simp only [D.cells,D.cellsL,h,List.cons_append,List.nil_append,List.append_nil]
set_option maxRecDepth 100000 in
theorem conf_act {d:D} (h:Conf Tryz.prog d 41):∃ x:Act,d=x.toD∧x.st.Wf:=by
 obtain ⟨l',rfl,h2⟩:=conf_struct Tryz.underlying41 h
 obtain ⟨d0,l1,rfl,c0,h2⟩:=confL_cons h2
 obtain ⟨d1,l2,rfl,c1,h2⟩:=confL_cons h2
 obtain ⟨d2,l3,rfl,c2,h2⟩:=confL_cons h2
 obtain ⟨d3,l4,rfl,c3,h2⟩:=confL_cons h2
 obtain ⟨d4,l5,rfl,c4,h2⟩:=confL_cons h2
 obtain ⟨d5,l6,rfl,c5,h2⟩:=confL_cons h2
 obtain rfl:=confL_nil h2
 obtain ⟨k,rfl,_⟩:=conf_int (k:=.i64) Tryz.underlying3 c0
 obtain ⟨who,rfl,_⟩:=conf_str Tryz.underlying9 c1
 obtain ⟨n,rfl,_⟩:=conf_int (k:=.i64) Tryz.underlying3 c2
 obtain ⟨st,rfl,hs⟩:=Sf.conf_st c3
 obtain ⟨nx,rfl⟩:=conf_bool Tryz.underlying4 c4
 obtain ⟨q,rfl,_⟩:=conf_str Tryz.underlying9 c5
 exact ⟨⟨k,who,n,st,nx,q⟩,rfl,hs⟩
structure Acts where
 l:List Act
def Acts.bulkD (x:Acts):Nat:=D.bulks (x.l.map Act.toD)
def kActs:List TypeId:=[22,41,39,83,109,85,35,36,37,81,78,3,9,4,79,30]
theorem kActs_plain:plainAll Tryz.prog kActs=true:=by kernel_rfl
section
variable {H:Type} {enc:TypeId×Value→H} {w:World} {base:Nat} {spare:Nat→Bool} {held:Bool} {r:Reach} {b0:Nat} {v:Value} {d:DataW H} {p:List MemPlace}
set_option maxRecDepth 100000 in
theorem arg_conf_acts (hval:Value.okWide Tryz.prog w r b0 22 v) (h:DataW.Trod enc Tryz.prog w base spare held 22 v d p) :
  ∃ (x:Acts) (_:((∀ a∈x.l,a.st.Wf)∧x.l.length≤maxLen)∧x.bulkD≤Rows.uptoBulk d),Rep (Ctx.of w) (.sl 10 .no (x.l.map Act.cells)) v:=by
 obtain ⟨l,h1,h2,h3,h4⟩:=arg_sliceB kActs_plain (by decide) Tryz.underlying22 hval h
 obtain ⟨xs,rfl,hx⟩:=list_of_ l fun d hd=>conf_act (confA_mem h1 d hd)
 rw [Sf.rows_map Act.toD Act.cells Act.cells_toD] at h4
 have hw:Tryz.prog.cellsOf 41=10:=by kernel_rfl
 rw [hw] at h4
 exact ⟨⟨xs⟩,⟨⟨hx,by simpa using h2⟩,h3⟩,h4⟩
end
end AX
end Go.Proofs.YtahmpiioegemaabGreatDoor

namespace Go.Proofs.YtahmpiioegemaabGreatDoor
open Go.RowKit
namespace AX
theorem w_playsX (key:List UInt8) (kk:key.length≤1048576) (lin:List UInt8) (kl:lin.length≤1048576) (x:Acts) (k:((∀ a∈x.l,a.st.Wf)∧x.l.length≤maxLen)∧x.bulkD≤1048576) :
  ACall Tryz.prog GT 3 [.str key,.str lin,.sl 10 .no (x.l.map Act.cells)] ⟨[],[]⟩ fun r _=>r = .bool true:=by
 refine w_plays key lin x.l (fun a ha=>⟨k.1.1 a ha,?_⟩) ?_
 ·have h1:=(map_bulk Act.toD x.l).2 a ha
  have h2:a.st.toD.bulk≤a.toD.bulk:=by
   unfold Act.toD
   simp only [D.bulk,D.bulks]
   omega
  have h3:D.bulks (x.l.map Act.toD)≤1048576:=k.2
  omega
 ·have h1:=(map_bulk Act.toD x.l).1
  have h3:D.bulks (x.l.map Act.toD)≤1048576:=k.2
  omega
end AX
end Go.Proofs.YtahmpiioegemaabGreatDoor
