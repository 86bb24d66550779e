/- Part of what the proof needs. -/
import Derived.Test.YtahmpiioegemaaaGreatDoorMFrJournalPrefixUptoJ
import Derived.Test.YtahmpiioegemaaaGreatDoorMFrJournalPrefixUptoM
import Derived.Test.YtahmpiioegemaaaGreatDoorMFrJournalPrefixUptoO
import Derived.Test.YtahmpiioegemaaaGreatDoorMFrJournalPrefixUptoP
set_option maxHeartbeats 4000000
set_option linter.unusedSimpArgs false
set_option linter.unusedVariables false
set_option linter.unnecessarySimpa false
namespace Go.Proofs.YtahmpiioegemaaaGreatDoor
open Go.RowKit
namespace Sf
theorem instS_le (ver:Int) (s:Rs):(instS ver s).1.r.rest.length≤s.r.rest.length:=by
 unfold instS
 dsimp only
 refine Nat.le_trans (wordsS_le _ _ _) (Nat.le_trans (cntS_le _) ?_)
 have k:(flagS (numS (valueS (strS (strS (strS (strS s).1).1).1).1).1).1).1.r.rest.length≤s.r.rest.length:=
  Nat.le_trans (flagS_le _) (Nat.le_trans (numS_le _) (Nat.le_trans (valueS_le _) (Nat.le_trans (strS_le _) (Nat.le_trans (strS_le _) (Nat.le_trans (strS_le _) (strS_le _))))))
 split
 ·exact Nat.le_trans (flagS_le _) k
 ·exact k
end Sf
namespace AX
theorem a_rstate {ver:Int} (hver:ver=1∨ver=2) (s:Sf.Rs) (hl:s.r.rest.length≤100000000) (l:List Blk) (t:List (TypeId×Nat×Nat)) :
  ACall Tryz.prog GT 150 [.ptr 0 0] ⟨RB ver s.bad::rdr s.r::l,t⟩ fun v h'=>v=(Sf.stateS ver s).2.A∧h'=⟨RB ver (Sf.stateS ver s).1.bad::rdr (Sf.stateS ver s).1.r::l,t⟩:=by
 refine liftR (s':=(Sf.stateS ver s).1) (v:=(Sf.stateS ver s).2.A) ?_ rfl rfl l t
 refine fo ?_
 unfold RB
 obtain ⟨⟨r1,x1⟩,h1⟩:∃ q,Wire.strR s.r=q:=⟨_,rfl⟩
 have l1:=Wire.strR_rest s.r
 rw [h1] at l1
 obtain ⟨⟨r2,x2⟩,h2⟩:∃ q,Wire.numR r1=q:=⟨_,rfl⟩
 have l2:=Wire.numR_rest r1
 rw [h2] at l2
 obtain ⟨⟨rc,c⟩,hc⟩:∃ q,Wire.cntR r2 1=q:=⟨_,rfl⟩
 have lc:=Wire.cntR_rest r2 1
 have lk:=Wire.cntR_cnt r2
 rw [hc] at lc lk
 dsimp only at l1 l2 lc lk
 have str:∀ (r r':Wire.St) (x:List UInt8) (h:Hp),Wire.strR r=(r',x)→h.b[1]?=some (rdr r)→r.rest.length≤100000000→ACall Tryz.prog GT 76 [.ptr 1 0] h fun v h'=>v = .str x∧h'=⟨h.b.set 1 (rdr r'),h.t⟩:=fun r r' x h e hb hl=>by
  have:=a_rstring hb hl
  rw [e] at this; exact this
 have num:∀ (r r':Wire.St) (x:Int) (h:Hp),Wire.numR r=(r',x)→h.b[1]?=some (rdr r)→r.rest.length≤100000000→ACall Tryz.prog GT 116 [.ptr 1 0] h fun v h'=>v = .int .i64 x∧h'=⟨h.b.set 1 (rdr r'),h.t⟩:=fun r r' x h e hb hl=>by
  have:=a_number hb hl
  rw [e] at this; exact this
 have cnt:∀ (r r':Wire.St) (x:Nat) (h:Hp),Wire.cntR r 1=(r',x)→h.b[1]?=some (rdr r)→r.rest.length≤100000000→ACall Tryz.prog GT 154 [.ptr 1 0,.int .i64 1] h fun v h'=>v = .int .i64 (x:Nat)∧h'=⟨h.b.set 1 (rdr r'),h.t⟩:=fun r r' x h e hb hl=>by
  have:=a_count hb hl
  rw [e] at this; exact this
 obtain ⟨res,hres⟩:∃ q,Sf.instsS ver c ⟨rc,s.bad⟩ []=q:=⟨_,rfl⟩
 have hS:Sf.stateS ver s=(if res.2.2=false then (res.1,⟨x1,x2,res.2.1,[],[]⟩) else
   let p:=if ver=2 then Sf.pendsS (Sf.cntS res.1).2 (Sf.cntS res.1).1 [] else (res.1,[])
   let co:=Sf.cntS p.1
   let o:=Sf.outsS co.2 co.1 []
   (o.1,⟨x1,x2,res.2.1,p.2,o.2.1⟩)):=by
  rw [←hres]
  unfold Sf.stateS Sf.strS Sf.numS
  simp only [h1,h2]
  rw [show Sf.cntS ⟨r2,s.bad⟩=(⟨rc,s.bad⟩,c) by unfold Sf.cntS; simp only [hc]]
 have fin1:∀ {p:Sf.Rs} {is:List Sf.Inst},(p,is,false)=res→Sf.stateS ver s=(p,⟨x1,x2,is,[],[]⟩):=fun e=>by rw [hS,←e]; rfl
 have fin2:∀ {p:Sf.Rs} {is:List Sf.Inst},(p,is,true)=res→∀ (q:Sf.Rs) (ps:List Sf.Pend) (rc3:Wire.St) (c3:Nat) {r3:Sf.Rs×List Sf.Outp×Bool},(if ver=2 then Sf.pendsS (Sf.cntS p).2 (Sf.cntS p).1 [] else (p,[]))=(q,ps)→Wire.cntR q.r 1=(rc3,c3)→Sf.outsS c3 ⟨rc3,q.bad⟩ []=r3→Sf.stateS ver s=(r3.1,⟨x1,x2,is,ps,r3.2.1⟩):=by
  intro p is e q ps rc3 c3 r3 h h3 hr
  rw [hS,←e]
  dsimp only
  rw [if_neg (by decide),h]
  dsimp only
  rw [show Sf.cntS q=(⟨rc3,q.bad⟩,c3) by unfold Sf.cntS; rw [h3]]
  dsimp only
  rw [hr]
 have hv12:∀ {G:Prop},((ver == 2)=false→G)→((ver == 2)=true→G)→G:=fun p q=>by
  rcases bool_or (ver == 2) with e | e
  ·first | exact q e | exact p e
  ·first | exact p e | exact q e
 refine run0 ti ?_
 refine go_gen [4,9,12] 11 [⟨[.cells 209 [.ptr 1 0,.int .i64 ver,.bool s.bad],rdr s.r,.cells 27 [.str [],.int .i64 0,.sl 0 .nil [],.sl 0 .nil [],.sl 0 .nil []]],[]⟩,⟨[.cells 209 [.ptr 1 0,.int .i64 ver,.bool s.bad],rdr r1,.cells 27 [.str [],.int .i64 0,.sl 0 .nil [],.sl 0 .nil [],.sl 0 .nil []]],[]⟩,⟨[.cells 209 [.ptr 1 0,.int .i64 ver,.bool s.bad],rdr r2,.cells 27 [.str [],.int .i64 0,.sl 0 .nil [],.sl 0 .nil [],.sl 0 .nil []]],[]⟩,⟨[],[]⟩,⟨[.cells 209 [.ptr 1 0,.int .i64 ver,.bool s.bad],rdr s.r,.cells 27 [.str [],.int .i64 0,.sl 0 .nil [],.sl 0 .nil [],.sl 0 .nil []],.cells 27 [.str [],.int .i64 0,.sl 0 .nil [],.sl 0 .nil [],.sl 0 .nil []]],[]⟩,⟨[.cells 209 [.ptr 1 0,.int .i64 ver,.bool s.bad],rdr r1,.cells 27 [.str [],.int .i64 0,.sl 0 .nil [],.sl 0 .nil [],.sl 0 .nil []],.cells 27 [.str [],.int .i64 0,.sl 0 .nil [],.sl 0 .nil [],.sl 0 .nil []]],[]⟩,⟨[.cells 209 [.ptr 1 0,.int .i64 ver,.bool s.bad],rdr r2,.cells 27 [.str [],.int .i64 0,.sl 0 .nil [],.sl 0 .nil [],.sl 0 .nil []],.cells 27 [.str [],.int .i64 0,.sl 0 .nil [],.sl 0 .nil [],.sl 0 .nil []]],[]⟩,⟨[.cells 209 [.ptr 1 0,.int .i64 ver,.bool s.bad],rdr r2,.cells 27 [.str [],.int .i64 0,.sl 0 .nil [],.sl 0 .nil [],.sl 0 .nil []],.cells 27 [.str x1,.int .i64 x2,.sl 0 .nil [],.sl 0 .nil [],.sl 0 .nil []]],[]⟩] [[0,4],[0,4],[0,4],[0,4],[0,4],[0,1,4,5],[0,1,4,5],[0,1,4,5],[0,1,4,5],[1,5],[2,6],[0,1,2],[6]] rfl (by decide +kernel) ?_
 refine AX.rung ti ?_
 refine gn_call (vs:=[.ptr 1 0]) (by (exact ev0 ti)) ⟨str s.r r1 x1 _ h1 rfl (by omega),str s.r r1 x1 _ h1 rfl (by omega),trivial⟩ ?_
 refine AX.rung ti ?_
 refine gn_call (vs:=[.ptr 1 0]) (by (exact ev0 ti)) ⟨num r1 r2 x2 _ h2 rfl (by omega),num r1 r2 x2 _ h2 rfl (by omega),trivial⟩ ?_
 refine AX.rung ti ?_
 refine run0 ti ?_
 refine use (cnt r2 rc c _ hc rfl (by omega)) ?_
 refine run0 ti ?_
 refine awp_loop (fun mm ts h=>∃ (j:Nat) (p:Sf.Rs) (is:List Sf.Inst) (W:Nat) (o:Own) (t:List (TypeId×Nat×Nat)),mm=c - j∧j≤c∧h=⟨[.cells 209 [.ptr 1 0,.int .i64 ver,.bool p.bad],rdr p.r,.cells 27 [.str [],.int .i64 0,.sl 0 .nil [],.sl 0 .nil [],.sl 0 .nil []],.cells 27 [.str x1,.int .i64 x2,(.sl W o (is.map Sf.Inst.cells)),.sl 0 .nil [],.sl 0 .nil []]],t⟩∧Sf.instsS ver (c - j) p is=res∧is.length=j∧p.r.rest.length≤100000000∧Gs 36 13 0 ⟨[],t⟩ (is.map Sf.Inst.cells) (.sl W o (is.map Sf.Inst.cells))∧ts 0 = .ptr 0 0∧ts 2 = .ptr 2 0∧ts 3 = .ptr 3 0∧ts 20 = .int .i64 (c:Nat)∧ts 21 = .int .i64 (j:Nat)) c ?_ ?_
 ·exact ⟨0,⟨rc,s.bad⟩,[],0,.nil,[],by omega,by omega,rfl,hres,rfl,(by dsimp only; omega),.inl ⟨rfl,rfl⟩,by (exact ev0 ti),by (exact ev0 ti),by (exact ev0 ti),by (exact ev0 ti),by (exact inv0 ti)⟩
 rintro mm ts h ⟨j,p,is,W,o,t,rfl,hjc,rfl,hit,hdl,hpl,gX,t0,t2,t3,ta,tb⟩
 by_cases hj:j < c
 ·have cf:=a_rfails (ver:=ver) p [.cells 27 [.str [],.int .i64 0,.sl 0 .nil [],.sl 0 .nil [],.sl 0 .nil []],.cells 27 [.str x1,.int .i64 x2,(.sl W o (is.map Sf.Inst.cells)),.sl 0 .nil [],.sl 0 .nil []]] t
  unfold RB at cf
  have hlt:(j:Int) < (c:Int):=by omega
  have ei:IntKind.i64.wrap ((j:Int)+1)=((j+1:Nat):Int):=by rw [wrap64 (by omega) (by omega)]; omega
  rw [show c - j=(c - (j+1))+1 by omega] at hit
  unfold Sf.instsS at hit
  refine run0 (ai t0 (ai t2 (ai t3 (ai ta (ai tb hlt))))) ?_
  refine use cf ?_
  rcases bool_or p.fails with e | e
  ·rw [e,if_pos rfl] at hit
   rw [e]
   refine run0 (ai t0 (ai t2 (ai t3 (ai ta tb)))) ?_
   subst hit
   have hfin:=fin1 rfl
   exact ⟨.agg [.str x1,.int .i64 x2,.sl 13 .no (is.map Sf.Inst.cells),.sl 3 .no (([]:List Sf.Pend).map Sf.Pend.cells),.sl 7 .no (([]:List Sf.Outp).map Sf.Outp.cells)],⟨le1_refl _,le1_refl _,Gs.le gX,⟨rfl,.inr rfl,.inl rfl⟩,⟨rfl,.inr rfl,.inl rfl⟩,trivial⟩,by rw [hfin]; rfl,by rw [hfin]; rfl,by rw [hfin]; rfl⟩
  rw [e,if_neg (by decide)] at hit
  rw [e]
  have ci:=a_rinst hver p hpl [.cells 27 [.str [],.int .i64 0,.sl 0 .nil [],.sl 0 .nil [],.sl 0 .nil []],.cells 27 [.str x1,.int .i64 x2,(.sl W o (is.map Sf.Inst.cells)),.sl 0 .nil [],.sl 0 .nil []]] t
  have li:=Sf.instS_le ver p
  obtain ⟨⟨p2,x⟩,hx⟩:∃ q,Sf.instS ver p=q:=⟨_,rfl⟩
  rw [hx] at ci hit li
  dsimp only at ci hit li
  unfold RB at ci
  obtain ⟨W',o',t',hX,gX',_⟩:=gX.grow 184 x.cells (by rw [List.length_map]; omega) (by decide)
  have em:is.map Sf.Inst.cells++[x.cells]=(is++[x]).map Sf.Inst.cells:=by simp
  rw [em] at gX'
  simp only [em] at hX
  have hil:(is++[x]).length=j+1:=by simp [hdl]
  obtain ⟨is2,hi2⟩:∃ l,is++[x]=l:=⟨_,rfl⟩
  rw [hi2] at hX gX' hit hil
  clear em hi2 hx
  obtain ⟨a,d,id,ty,⟨k,n,w,vi,vy⟩,v,tn,fi,ds⟩:=x
  simp only [Sf.Inst.cells] at ci hX
  refine run0 (ai t0 (ai t2 (ai t3 (ai ta tb)))) ?_
  refine use ci ?_
  refine run0 (ai t0 (ai t2 (ai t3 (ai ta (ai tb (ai hX ei)))))) ?_
  exact ⟨c - (j+1),by omega,j+1,p2,is2,W',o',t',rfl,by omega,rfl,hit,hil,by omega,gX',by (exact ev0 t0),by (exact ev0 t2),by (exact ev0 t3),by (exact ev0 ta),by (exact ev0 ei)⟩
 have hlt:¬ ((j:Int) < (c:Int)):=by omega
 rw [show c - j=0 by omega] at hit
 unfold Sf.instsS at hit
 subst hit
 have cb:∀ q:Wire.St,(Wire.cntR q 1).2≤q.rest.length:=fun q=>Wire.cntR_cnt q
 refine hv12 (fun e2=>?_) (fun e2=>?_)
 ·have gY:Gs 140 3 0 ⟨[],t⟩ (([]:List Sf.Pend).map Sf.Pend.cells) (.sl 0 .nil (([]:List Sf.Pend).map Sf.Pend.cells)):=.inl ⟨rfl,rfl⟩
  refine run0 (ai t0 (ai t2 (ai t3 (ai ta (ai tb (ai hlt e2)))))) ?_
  obtain ⟨q,hq⟩:∃ q,p=q:=⟨_,rfl⟩
  obtain ⟨ps,hps⟩:∃ ps:List Sf.Pend,[]=ps:=⟨_,rfl⟩
  have fin2:=fin2 rfl
  have hv0:ver≠2:=by simpa using e2
  subst hq
  obtain ⟨q,hq⟩:∃ q,p=q:=⟨_,rfl⟩
  rw [hq] at hpl ⊢
  obtain ⟨⟨rc3,c3⟩,hc3⟩:∃ x,Wire.cntR q.r 1=x:=⟨_,rfl⟩
  have lc3:=Wire.cntR_rest q.r 1
  have lk3:=Wire.cntR_cnt q.r
  rw [hc3] at lc3 lk3
  dsimp only at lc3 lk3
  obtain ⟨res3,hres3⟩:∃ x,Sf.outsS c3 ⟨rc3,q.bad⟩ []=x:=⟨_,rfl⟩
  have fin3:∀ {r3:Sf.Rs×List Sf.Outp×Bool},r3=res3→Sf.stateS ver s=(r3.1,⟨x1,x2,is,ps,r3.2.1⟩):=fun e=>by rw [e]; exact fin2 q ps rc3 c3 (by rw [if_neg hv0,hq,hps]) hc3 hres3
  obtain ⟨W2,o2,hW2⟩:∃ (W2:Nat) (o2:Own),W2=0∧o2 = .nil:=⟨_,_,rfl,rfl⟩
  have hY0:(A.sl 0 .nil []:A) = .sl W2 o2 (ps.map Sf.Pend.cells):=by rw [hW2.1,hW2.2,←hps]; rfl
  rw [hps] at gY
  have gY:Gs 140 3 0 ⟨[],t⟩ (ps.map Sf.Pend.cells) (.sl W2 o2 (ps.map Sf.Pend.cells)):=by rw [hW2.1,hW2.2]; exact gY
  refine use (cnt q.r rc3 c3 _ hc3 rfl (by omega)) ?_
  refine run0 (ai t0 (ai t2 t3)) ?_
  refine awp_loop (fun mm ts h=>∃ (j:Nat) (p:Sf.Rs) (os:List Sf.Outp) (W3:Nat) (o3:Own) (l:List Blk) (t:List (TypeId×Nat×Nat)),mm=c3 - j∧j≤c3∧h=⟨.cells 209 [.ptr 1 0,.int .i64 ver,.bool p.bad]::rdr p.r :: .cells 27 [.str [],.int .i64 0,.sl 0 .nil [],.sl 0 .nil [],.sl 0 .nil []] :: .cells 27 [.str x1,.int .i64 x2,(.sl W o (is.map Sf.Inst.cells)),(.sl W2 o2 (ps.map Sf.Pend.cells)),(.sl W3 o3 (os.map Sf.Outp.cells))]::l,t⟩∧Sf.outsS (c3 - j) p os=res3∧os.length=j∧p.r.rest.length≤100000000∧Gs 36 13 0 ⟨[],t⟩ (is.map Sf.Inst.cells) (.sl W o (is.map Sf.Inst.cells))∧Gs 140 3 0 ⟨[],t⟩ (ps.map Sf.Pend.cells) (.sl W2 o2 (ps.map Sf.Pend.cells))∧Gs 95 7 0 ⟨[],t⟩ (os.map Sf.Outp.cells) (.sl W3 o3 (os.map Sf.Outp.cells))∧ts 0 = .ptr 0 0∧ts 2 = .ptr 2 0∧ts 3 = .ptr 3 0∧ts 72 = .int .i64 (c3:Nat)∧ts 73 = .int .i64 (j:Nat)) c3 ?_ ?_
  ·exact ⟨0,⟨rc3,q.bad⟩,[],0,.nil,[],t,by omega,by omega,(by rw [←hY0]; rfl),hres3,rfl,(by dsimp only; omega),gX,gY,.inl ⟨rfl,rfl⟩,by (exact ev0 t0),by (exact ev0 t2),by (exact ev0 t3),by (exact ev0 ti),by (exact inv0 ti)⟩
  rintro mm ts h ⟨j,p,os,W3,o3,l,t,rfl,hjc,rfl,hit,hdl,hpl,gX,gY,gZ,t0,t2,t3,ta,tb⟩
  by_cases hj:j < c3
  ·have cf:=a_rfails (ver:=ver) p (.cells 27 [.str [],.int .i64 0,.sl 0 .nil [],.sl 0 .nil [],.sl 0 .nil []] :: .cells 27 [.str x1,.int .i64 x2,(.sl W o (is.map Sf.Inst.cells)),(.sl W2 o2 (ps.map Sf.Pend.cells)),(.sl W3 o3 (os.map Sf.Outp.cells))]::l) t
   unfold RB at cf
   have hlt:(j:Int) < (c3:Int):=by omega
   have ei:IntKind.i64.wrap ((j:Int)+1)=((j+1:Nat):Int):=by rw [wrap64 (by omega) (by omega)]; omega
   rw [show c3 - j=(c3 - (j+1))+1 by omega] at hit
   unfold Sf.outsS at hit
   refine run0 (ai t0 (ai t2 (ai t3 (ai ta (ai tb hlt))))) ?_
   refine use cf ?_
   rcases bool_or p.fails with e | e
   ·rw [e,if_pos rfl] at hit
    rw [e]
    refine run0 (ai t0 (ai t2 (ai t3 (ai ta tb)))) ?_
    subst hit
    have hfin:=fin3 rfl
    exact ⟨.agg [.str x1,.int .i64 x2,.sl 13 .no (is.map Sf.Inst.cells),.sl 3 .no (ps.map Sf.Pend.cells),.sl 7 .no (os.map Sf.Outp.cells)],⟨le1_refl _,le1_refl _,Gs.le gX,Gs.le gY,Gs.le gZ,trivial⟩,by rw [hfin]; rfl,by rw [hfin]; rfl,by rw [hfin]; rfl⟩
   rw [e,if_neg (by decide)] at hit
   rw [e]
   refine run0 (ai t0 (ai t2 (ai t3 (ai ta tb)))) ?_
   obtain ⟨⟨q1,y1⟩,g1⟩:∃ q,Wire.strR p.r=q:=⟨_,rfl⟩
   have m1:=Wire.strR_rest p.r
   rw [g1] at m1
   dsimp only at m1
   refine use (str p.r q1 y1 _ g1 rfl hpl) ?_
   refine run0 (ai t0 (ai t2 (ai t3 (ai ta tb)))) ?_
   have cv:=a_rvalue (ver:=ver) ⟨q1,p.bad⟩ (by dsimp only; omega) (.cells 27 [.str [],.int .i64 0,.sl 0 .nil [],.sl 0 .nil [],.sl 0 .nil []] :: .cells 27 [.str x1,.int .i64 x2,(.sl W o (is.map Sf.Inst.cells)),(.sl W2 o2 (ps.map Sf.Pend.cells)),(.sl W3 o3 (os.map Sf.Outp.cells))]::(l++[.cells 95 [.str y1,.int .i64 0,.int .i64 0,.str [],.sl 0 .nil [],.sl 0 .nil [],.bool false]])) t
   have m2:=Sf.valueS_le ⟨q1,p.bad⟩
   obtain ⟨⟨⟨q2,b2⟩,y2⟩,g2⟩:∃ q,Sf.valueS ⟨q1,p.bad⟩=q:=⟨_,rfl⟩
   rw [g2] at cv m2
   dsimp only at cv m2
   obtain ⟨⟨⟨q3,b3⟩,y3⟩,g3⟩:∃ q,Sf.flagS ⟨q2,b2⟩=q:=⟨_,rfl⟩
   have m3:=Sf.flagS_le ⟨q2,b2⟩
   rw [g3] at m3
   dsimp only at m3
   have ho:Sf.outS p=(⟨q3,b3⟩,⟨y1,y2,y3⟩):=by unfold Sf.outS Sf.strS; simp only [g1,g2,g3]
   rw [ho] at hit
   dsimp only at hit
   obtain ⟨x,hxe⟩:∃ x:Sf.Outp,x=⟨y1,y2,y3⟩:=⟨_,rfl⟩
   rw [←hxe] at hit
   obtain ⟨W',o',t',hX,gZ',kZ⟩:=gZ.grow 104 x.cells (by rw [List.length_map]; omega) (by decide)
   have gX':=kZ _ _ _ _ (by decide) gX
   have gY':=kZ _ _ _ _ (by decide) gY
   have em:os.map Sf.Outp.cells++[x.cells]=(os++[x]).map Sf.Outp.cells:=by simp
   rw [em] at gZ'
   simp only [em] at hX
   have hil:(os++[x]).length=j+1:=by simp [hdl]
   obtain ⟨os2,hi2⟩:∃ l,os++[x]=l:=⟨_,rfl⟩
   rw [hi2] at hX gZ' hit hil
   clear em hi2
   subst hxe
   obtain ⟨k,n,w,vi,vy⟩:=y2
   have hVA:(V.mk k n w vi vy).A = .agg [.int .i64 k,.int .i64 n,.str w,.sl 5 .no (V.cellss vi),.sl 1 .no (strsA vy)]:=by simp only [V.A,V.cells]
   rw [hVA] at cv
   unfold RB at cv
   simp only [Sf.Outp.cells] at hX
   refine use cv ?_
   refine run0 (ai t0 (ai t2 (ai t3 (ai ta tb)))) ?_
   have cg:=a_rflag (ver:=ver) ⟨q2,b2⟩ (by dsimp only; omega) (.cells 27 [.str [],.int .i64 0,.sl 0 .nil [],.sl 0 .nil [],.sl 0 .nil []] :: .cells 27 [.str x1,.int .i64 x2,(.sl W o (is.map Sf.Inst.cells)),(.sl W2 o2 (ps.map Sf.Pend.cells)),(.sl W3 o3 (os.map Sf.Outp.cells))]::(l++[.cells 95 [.str y1,.int .i64 k,.int .i64 n,.str w,.sl 5 .no (V.cellss vi),.sl 1 .no (strsA vy),.bool false]])) t
   rw [g3] at cg
   dsimp only at cg
   unfold RB at cg
   refine use cg ?_
   refine run0 (ai t0 (ai t2 (ai t3 (ai ta (ai tb (ai hX ei)))))) ?_
   exact ⟨c3 - (j+1),by omega,j+1,⟨q3,b3⟩,os2,W',o',l++[.cells 95 [.str y1,.int .i64 k,.int .i64 n,.str w,.sl 5 .no (V.cellss vi),.sl 1 .no (strsA vy),.bool y3]],t',rfl,by omega,rfl,hit,hil,(by dsimp only; omega),gX',gY',gZ',by (exact ev0 t0),by (exact ev0 t2),by (exact ev0 t3),by (exact ev0 ta),by (exact ev0 ei)⟩
  have hlt:¬ ((j:Int) < (c3:Int)):=by omega
  rw [show c3 - j=0 by omega] at hit
  unfold Sf.outsS at hit
  subst hit
  refine run0 (ai t0 (ai t2 (ai t3 (ai ta (ai tb hlt))))) ?_
  have hfin:=fin3 rfl
  exact ⟨.agg [.str x1,.int .i64 x2,.sl 13 .no (is.map Sf.Inst.cells),.sl 3 .no (ps.map Sf.Pend.cells),.sl 7 .no (os.map Sf.Outp.cells)],⟨le1_refl _,le1_refl _,Gs.le gX,Gs.le gY,Gs.le gZ,trivial⟩,by rw [hfin]; rfl,by rw [hfin]; rfl,by rw [hfin]; rfl⟩
 ·obtain ⟨⟨rc2,c2⟩,hc2⟩:∃ x,Wire.cntR p.r 1=x:=⟨_,rfl⟩
  have lc2:=Wire.cntR_rest p.r 1
  have lk2:=Wire.cntR_cnt p.r
  rw [hc2] at lc2 lk2
  dsimp only at lc2 lk2
  obtain ⟨res2,hres2⟩:∃ x,Sf.pendsS c2 ⟨rc2,p.bad⟩ []=x:=⟨_,rfl⟩
  have hv2:ver=2:=by simpa using e2
  have fin2:=fin2 rfl
  have hp2:(if ver=2 then Sf.pendsS (Sf.cntS p).2 (Sf.cntS p).1 [] else (p,[]))=res2:=by rw [if_pos hv2]; unfold Sf.cntS; rw [hc2]; exact hres2
  rw [hp2] at fin2
  refine run0 (ai t0 (ai t2 (ai t3 (ai ta (ai tb (ai hlt e2)))))) ?_
  refine use (cnt p.r rc2 c2 _ hc2 rfl (by omega)) ?_
  refine run0 (ai t0 (ai t2 t3)) ?_
  refine awp_loop (fun mm ts h=>∃ (j:Nat) (p:Sf.Rs) (ps:List Sf.Pend) (W2:Nat) (o2:Own) (t:List (TypeId×Nat×Nat)),mm=c2 - j∧j≤c2∧h=⟨[.cells 209 [.ptr 1 0,.int .i64 ver,.bool p.bad],rdr p.r,.cells 27 [.str [],.int .i64 0,.sl 0 .nil [],.sl 0 .nil [],.sl 0 .nil []],.cells 27 [.str x1,.int .i64 x2,(.sl W o (is.map Sf.Inst.cells)),(.sl W2 o2 (ps.map Sf.Pend.cells)),.sl 0 .nil []]],t⟩∧Sf.pendsS (c2 - j) p ps=res2∧ps.length=j∧p.r.rest.length≤100000000∧Gs 36 13 0 ⟨[],t⟩ (is.map Sf.Inst.cells) (.sl W o (is.map Sf.Inst.cells))∧Gs 140 3 0 ⟨[],t⟩ (ps.map Sf.Pend.cells) (.sl W2 o2 (ps.map Sf.Pend.cells))∧ts 0 = .ptr 0 0∧ts 2 = .ptr 2 0∧ts 3 = .ptr 3 0∧ts 43 = .int .i64 (c2:Nat)∧ts 44 = .int .i64 (j:Nat)) c2 ?_ ?_
  ·exact ⟨0,⟨rc2,p.bad⟩,[],0,.nil,t,by omega,by omega,rfl,hres2,rfl,(by dsimp only; omega),gX,.inl ⟨rfl,rfl⟩,by (exact ev0 t0),by (exact ev0 t2),by (exact ev0 t3),by (exact ev0 ti),by (exact inv0 ti)⟩
  rintro mm ts h ⟨j,q,ps,W2,o2,t,rfl,hjc,rfl,hit,hdl,hpl,gX,gY,t0,t2,t3,ta,tb⟩
  by_cases hj:j < c2
  ·have hq:=hpl
   have hlt:(j:Int) < (c2:Int):=by omega
   have ei:IntKind.i64.wrap ((j:Int)+1)=((j+1:Nat):Int):=by rw [wrap64 (by omega) (by omega)]; omega
   rw [show c2 - j=(c2 - (j+1))+1 by omega] at hit
   unfold Sf.pendsS at hit
   obtain ⟨⟨q1,y1⟩,g1⟩:∃ x,Wire.strR q.r=x:=⟨_,rfl⟩
   have m1:=Wire.strR_rest q.r
   rw [g1] at m1
   dsimp only at m1
   obtain ⟨⟨q2,y2⟩,g2⟩:∃ x,Wire.strR q1=x:=⟨_,rfl⟩
   have m2:=Wire.strR_rest q1
   rw [g2] at m2
   dsimp only at m2
   obtain ⟨⟨q3,y3⟩,g3⟩:∃ x,Wire.strR q2=x:=⟨_,rfl⟩
   have m3:=Wire.strR_rest q2
   rw [g3] at m3
   dsimp only at m3
   have ho:Sf.pendS q=(⟨q3,q.bad⟩,⟨y1,y2,y3⟩):=by unfold Sf.pendS Sf.strS; simp only [g1,g2,g3]
   rw [ho] at hit
   dsimp only at hit
   obtain ⟨x,hxe⟩:∃ x:Sf.Pend,x=⟨y1,y2,y3⟩:=⟨_,rfl⟩
   rw [←hxe] at hit
   obtain ⟨W',o',t',hX,gY',kY⟩:=gY.grow 48 x.cells (by rw [List.length_map]; omega) (by decide)
   have gX':=kY _ _ _ _ (by decide) gX
   have em:ps.map Sf.Pend.cells++[x.cells]=(ps++[x]).map Sf.Pend.cells:=by simp
   rw [em] at gY'
   simp only [em] at hX
   have hil:(ps++[x]).length=j+1:=by simp [hdl]
   obtain ⟨ps2,hi2⟩:∃ l,ps++[x]=l:=⟨_,rfl⟩
   rw [hi2] at hX gY' hit hil
   clear em hi2
   subst hxe
   simp only [Sf.Pend.cells] at hX
   refine run0 (ai t0 (ai t2 (ai t3 (ai ta (ai tb hlt))))) ?_
   refine use (str q.r q1 y1 _ g1 rfl hpl) ?_
   refine run0 (ai t0 (ai t2 (ai t3 (ai ta tb)))) ?_
   refine use (str q1 q2 y2 _ g2 rfl (by omega)) ?_
   refine run0 (ai t0 (ai t2 (ai t3 (ai ta tb)))) ?_
   refine use (str q2 q3 y3 _ g3 rfl (by omega)) ?_
   refine run0 (ai t0 (ai t2 (ai t3 (ai ta (ai tb (ai hX ei)))))) ?_
   exact ⟨c2 - (j+1),by omega,j+1,⟨q3,q.bad⟩,ps2,W',o',t',rfl,by omega,rfl,hit,hil,(by dsimp only; omega),gX',gY',by (exact ev0 t0),by (exact ev0 t2),by (exact ev0 t3),by (exact ev0 ta),by (exact ev0 ei)⟩
  have hlt:¬ ((j:Int) < (c2:Int)):=by omega
  rw [show c2 - j=0 by omega] at hit
  unfold Sf.pendsS at hit
  subst hit
  obtain ⟨⟨rc3,c3⟩,hc3⟩:∃ x,Wire.cntR q.r 1=x:=⟨_,rfl⟩
  have lc3:=Wire.cntR_rest q.r 1
  have lk3:=Wire.cntR_cnt q.r
  rw [hc3] at lc3 lk3
  dsimp only at lc3 lk3
  obtain ⟨res3,hres3⟩:∃ x,Sf.outsS c3 ⟨rc3,q.bad⟩ []=x:=⟨_,rfl⟩
  have fin3:∀ {r3:Sf.Rs×List Sf.Outp×Bool},r3=res3→Sf.stateS ver s=(r3.1,⟨x1,x2,is,ps,r3.2.1⟩):=fun e=>by rw [e]; exact fin2 q ps rc3 c3 rfl hc3 hres3
  refine run0 (ai t0 (ai t2 (ai t3 (ai ta (ai tb hlt))))) ?_
  refine use (cnt q.r rc3 c3 _ hc3 rfl (by omega)) ?_
  refine run0 (ai t0 (ai t2 t3)) ?_
  refine awp_loop (fun mm ts h=>∃ (j:Nat) (p:Sf.Rs) (os:List Sf.Outp) (W3:Nat) (o3:Own) (l:List Blk) (t:List (TypeId×Nat×Nat)),mm=c3 - j∧j≤c3∧h=⟨.cells 209 [.ptr 1 0,.int .i64 ver,.bool p.bad]::rdr p.r :: .cells 27 [.str [],.int .i64 0,.sl 0 .nil [],.sl 0 .nil [],.sl 0 .nil []] :: .cells 27 [.str x1,.int .i64 x2,(.sl W o (is.map Sf.Inst.cells)),(.sl W2 o2 (ps.map Sf.Pend.cells)),(.sl W3 o3 (os.map Sf.Outp.cells))]::l,t⟩∧Sf.outsS (c3 - j) p os=res3∧os.length=j∧p.r.rest.length≤100000000∧Gs 36 13 0 ⟨[],t⟩ (is.map Sf.Inst.cells) (.sl W o (is.map Sf.Inst.cells))∧Gs 140 3 0 ⟨[],t⟩ (ps.map Sf.Pend.cells) (.sl W2 o2 (ps.map Sf.Pend.cells))∧Gs 95 7 0 ⟨[],t⟩ (os.map Sf.Outp.cells) (.sl W3 o3 (os.map Sf.Outp.cells))∧ts 0 = .ptr 0 0∧ts 2 = .ptr 2 0∧ts 3 = .ptr 3 0∧ts 72 = .int .i64 (c3:Nat)∧ts 73 = .int .i64 (j:Nat)) c3 ?_ ?_
  ·exact ⟨0,⟨rc3,q.bad⟩,[],0,.nil,[],t,by omega,by omega,rfl,hres3,rfl,(by dsimp only; omega),gX,gY,.inl ⟨rfl,rfl⟩,by (exact ev0 t0),by (exact ev0 t2),by (exact ev0 t3),by (exact ev0 ti),by (exact inv0 ti)⟩
  rintro mm ts h ⟨j,p,os,W3,o3,l,t,rfl,hjc,rfl,hit,hdl,hpl,gX,gY,gZ,t0,t2,t3,ta,tb⟩
  by_cases hj:j < c3
  ·have cf:=a_rfails (ver:=ver) p (.cells 27 [.str [],.int .i64 0,.sl 0 .nil [],.sl 0 .nil [],.sl 0 .nil []] :: .cells 27 [.str x1,.int .i64 x2,(.sl W o (is.map Sf.Inst.cells)),(.sl W2 o2 (ps.map Sf.Pend.cells)),(.sl W3 o3 (os.map Sf.Outp.cells))]::l) t
   unfold RB at cf
   have hlt:(j:Int) < (c3:Int):=by omega
   have ei:IntKind.i64.wrap ((j:Int)+1)=((j+1:Nat):Int):=by rw [wrap64 (by omega) (by omega)]; omega
   rw [show c3 - j=(c3 - (j+1))+1 by omega] at hit
   unfold Sf.outsS at hit
   refine run0 (ai t0 (ai t2 (ai t3 (ai ta (ai tb hlt))))) ?_
   refine use cf ?_
   rcases bool_or p.fails with e | e
   ·rw [e,if_pos rfl] at hit
    rw [e]
    refine run0 (ai t0 (ai t2 (ai t3 (ai ta tb)))) ?_
    subst hit
    have hfin:=fin3 rfl
    exact ⟨.agg [.str x1,.int .i64 x2,.sl 13 .no (is.map Sf.Inst.cells),.sl 3 .no (ps.map Sf.Pend.cells),.sl 7 .no (os.map Sf.Outp.cells)],⟨le1_refl _,le1_refl _,Gs.le gX,Gs.le gY,Gs.le gZ,trivial⟩,by rw [hfin]; rfl,by rw [hfin]; rfl,by rw [hfin]; rfl⟩
   rw [e,if_neg (by decide)] at hit
   rw [e]
   refine run0 (ai t0 (ai t2 (ai t3 (ai ta tb)))) ?_
   obtain ⟨⟨q1,y1⟩,g1⟩:∃ q,Wire.strR p.r=q:=⟨_,rfl⟩
   have m1:=Wire.strR_rest p.r
   rw [g1] at m1
   dsimp only at m1
   refine use (str p.r q1 y1 _ g1 rfl hpl) ?_
   refine run0 (ai t0 (ai t2 (ai t3 (ai ta tb)))) ?_
   have cv:=a_rvalue (ver:=ver) ⟨q1,p.bad⟩ (by dsimp only; omega) (.cells 27 [.str [],.int .i64 0,.sl 0 .nil [],.sl 0 .nil [],.sl 0 .nil []] :: .cells 27 [.str x1,.int .i64 x2,(.sl W o (is.map Sf.Inst.cells)),(.sl W2 o2 (ps.map Sf.Pend.cells)),(.sl W3 o3 (os.map Sf.Outp.cells))]::(l++[.cells 95 [.str y1,.int .i64 0,.int .i64 0,.str [],.sl 0 .nil [],.sl 0 .nil [],.bool false]])) t
   have m2:=Sf.valueS_le ⟨q1,p.bad⟩
   obtain ⟨⟨⟨q2,b2⟩,y2⟩,g2⟩:∃ q,Sf.valueS ⟨q1,p.bad⟩=q:=⟨_,rfl⟩
   rw [g2] at cv m2
   dsimp only at cv m2
   obtain ⟨⟨⟨q3,b3⟩,y3⟩,g3⟩:∃ q,Sf.flagS ⟨q2,b2⟩=q:=⟨_,rfl⟩
   have m3:=Sf.flagS_le ⟨q2,b2⟩
   rw [g3] at m3
   dsimp only at m3
   have ho:Sf.outS p=(⟨q3,b3⟩,⟨y1,y2,y3⟩):=by unfold Sf.outS Sf.strS; simp only [g1,g2,g3]
   rw [ho] at hit
   dsimp only at hit
   obtain ⟨x,hxe⟩:∃ x:Sf.Outp,x=⟨y1,y2,y3⟩:=⟨_,rfl⟩
   rw [←hxe] at hit
   obtain ⟨W',o',t',hX,gZ',kZ⟩:=gZ.grow 104 x.cells (by rw [List.length_map]; omega) (by decide)
   have gX':=kZ _ _ _ _ (by decide) gX
   have gY':=kZ _ _ _ _ (by decide) gY
   have em:os.map Sf.Outp.cells++[x.cells]=(os++[x]).map Sf.Outp.cells:=by simp
   rw [em] at gZ'
   simp only [em] at hX
   have hil:(os++[x]).length=j+1:=by simp [hdl]
   obtain ⟨os2,hi2⟩:∃ l,os++[x]=l:=⟨_,rfl⟩
   rw [hi2] at hX gZ' hit hil
   clear em hi2
   subst hxe
   obtain ⟨k,n,w,vi,vy⟩:=y2
   have hVA:(V.mk k n w vi vy).A = .agg [.int .i64 k,.int .i64 n,.str w,.sl 5 .no (V.cellss vi),.sl 1 .no (strsA vy)]:=by simp only [V.A,V.cells]
   rw [hVA] at cv
   unfold RB at cv
   simp only [Sf.Outp.cells] at hX
   refine use cv ?_
   refine run0 (ai t0 (ai t2 (ai t3 (ai ta tb)))) ?_
   have cg:=a_rflag (ver:=ver) ⟨q2,b2⟩ (by dsimp only; omega) (.cells 27 [.str [],.int .i64 0,.sl 0 .nil [],.sl 0 .nil [],.sl 0 .nil []] :: .cells 27 [.str x1,.int .i64 x2,(.sl W o (is.map Sf.Inst.cells)),(.sl W2 o2 (ps.map Sf.Pend.cells)),(.sl W3 o3 (os.map Sf.Outp.cells))]::(l++[.cells 95 [.str y1,.int .i64 k,.int .i64 n,.str w,.sl 5 .no (V.cellss vi),.sl 1 .no (strsA vy),.bool false]])) t
   rw [g3] at cg
   dsimp only at cg
   unfold RB at cg
   refine use cg ?_
   refine run0 (ai t0 (ai t2 (ai t3 (ai ta (ai tb (ai hX ei)))))) ?_
   exact ⟨c3 - (j+1),by omega,j+1,⟨q3,b3⟩,os2,W',o',l++[.cells 95 [.str y1,.int .i64 k,.int .i64 n,.str w,.sl 5 .no (V.cellss vi),.sl 1 .no (strsA vy),.bool y3]],t',rfl,by omega,rfl,hit,hil,(by dsimp only; omega),gX',gY',gZ',by (exact ev0 t0),by (exact ev0 t2),by (exact ev0 t3),by (exact ev0 ta),by (exact ev0 ei)⟩
  have hlt:¬ ((j:Int) < (c3:Int)):=by omega
  rw [show c3 - j=0 by omega] at hit
  unfold Sf.outsS at hit
  subst hit
  refine run0 (ai t0 (ai t2 (ai t3 (ai ta (ai tb hlt))))) ?_
  have hfin:=fin3 rfl
  exact ⟨.agg [.str x1,.int .i64 x2,.sl 13 .no (is.map Sf.Inst.cells),.sl 3 .no (ps.map Sf.Pend.cells),.sl 7 .no (os.map Sf.Outp.cells)],⟨le1_refl _,le1_refl _,Gs.le gX,Gs.le gY,Gs.le gZ,trivial⟩,by rw [hfin]; rfl,by rw [hfin]; rfl,by rw [hfin]; rfl⟩
def c_wflag:AX.AFn:=⟨9,aS [aR 4 (.mv (aI 0))] (.seq (aS [aM 5 1] (.cond (.t 5) (.reg false [aR 4 (.mv (aI 1))]) (.skip))) (.reg false [aM 6 0,aM 7 4,aR 8 (.call 139 [.t 6,.t 7])])),[]⟩
theorem h_wflag:AX.compFn Tryz.prog 142=some c_wflag:=by kernel_rfl
def c_winst:AX.AFn:=⟨59,aS [aR 3 (.box 36 (.t 1))] (aS [aM 6 0,aF 7 0 3,aL 8 7,aR 9 (.call 140 [.t 6,.t 8])] (aS [aM 10 0,aF 11 1 3,aL 12 11,aR 13 (.call 140 [.t 10,.t 12])] (aS [aM 14 0,aF 15 2 3,aL 16 15,aR 17 (.call 140 [.t 14,.t 16])] (aS [aM 18 0,aF 19 3 3,aL 20 19,aR 21 (.call 140 [.t 18,.t 20])] (aS [aM 22 0,aF 23 4 3,aR 24 (.load true 5 (.t 23)),aR 25 (.call 101 [.t 22,.t 24])] (aS [aM 26 0,aF 27 9 3,aL 28 27,aR 29 (.call 139 [.t 26,.t 28])] (aS [aM 30 0,aF 31 10 3,aL 32 31,aR 33 (.call 142 [.t 30,.t 32])] (.seq (aS [aM 34 0,aR 35 (.nilck (.t 34)),aF 36 2 35,aL 37 36,aR 38 (.bin .eql (.t 37) (aI 2))] (.cond (.t 38) (.reg false [aM 39 0,aF 40 11 3,aL 41 40,aR 42 (.call 142 [.t 39,.t 41])]) (.skip))) (aS [aM 43 0,aF 44 12 3,aL 45 44,aR 46 (.len false (.t 45)),aR 47 (.call 139 [.t 43,.t 46])] (aS [aF 48 12 3,aL 49 48,aR 50 (.len false (.t 49)),aR 51 (.mv (aI 0))] (.block 0 (.loop (aS [aR 52 (.bin .lss (.t 51) (.t 50))] (.seq (.cond (.t 52) (.skip) (.exit 0)) (.seq (.block 1 (aS [aR 53 (.iaddr 1 (.t 49) (.t 51)),aL 54 53,aM 5 54] (.reg false [aM 55 0,aM 56 5,aR 57 (.call 140 [.t 55,.t 56])]))) (.reg false [aR 58 (.bin .add (.t 51) (aI 1)),aM 51 58])))))))))))))))),[]⟩
theorem h_winst:AX.compFn Tryz.prog 141=some c_winst:=by kernel_rfl
theorem wtr_loc (ver:Int) (l:List UInt8):(wtr ver l).loc 0:=by
 intro o x h
 simp only [wtr] at h
 split at h
 ·injection h with h; subst h; rfl
 ·cases h
theorem liftW {f:FuncId} {args:List A} {ver:Int} {l l':List UInt8} (hl':l'≠[]) (hc:ACall Tryz.prog GT f (.ptr 0 0::args) ⟨[wtr ver l],[]⟩ fun u h'=>u = .tup []∧WP 0 ver l' ⟨[wtr ver l],[]⟩ h') (ha:A.locL 0 args=true) {h:Hp} {i:Nat} (hb:h.b[i]?=some (wtr ver l)) :
  ACall Tryz.prog GT f (.ptr i 0::args) h fun u h'=>u = .tup []∧h'=⟨h.b.set i (wtr ver l'),h.t⟩:=by
 have h1:ACall Tryz.prog GT f (.ptr 0 0::args) ⟨[wtr ver l],[]⟩ fun u h'=>∃ b',h'.b[0]?=some b'∧u = .tup []∧b'=wtr ver l':=hc.mono fun u h' ⟨e,hp⟩=>⟨wtr ver l',WP.bx hp hl',e,rfl⟩
 refine (ACall.lift1 h1 ha (wtr_loc ver l) ?_ hb).mono ?_
 ·rintro u b' ⟨rfl,rfl⟩
  exact ⟨rfl,wtr_loc ver l'⟩
 ·rintro u h' ⟨b',⟨rfl,rfl⟩,rfl⟩
  exact ⟨rfl,rfl⟩
theorem num_ne (n:Int):Wire.num n≠[]:=by
 have:=(Wire.encF_len 9 (Wire.zig n)).1
 intro e
 have h:(Wire.num n).length=0:=by rw [e]; rfl
 unfold Wire.num at h
 omega
theorem app_ne {a b:List UInt8} (h:b≠[]):a++b≠[]:=by simp [h]
theorem strE_ne (s:List UInt8):Wire.strE s≠[]:=by
 unfold Wire.strE
 intro e
 exact num_ne _ (List.append_eq_nil_iff.1 e).1
theorem wn {h:Hp} {i:Nat} {ver:Int} {l:List UInt8} (hb:h.b[i]?=some (wtr ver l)) (n:Int) (hlen:l.length+10≤1000000000) (h0:-9223372036854775808≤n) (h1:n≤9223372036854775807) :
  ACall Tryz.prog GT 139 [.ptr i 0,.int .i64 n] h fun u h'=>u = .tup []∧h'=⟨h.b.set i (wtr ver (l++Wire.num n)),h.t⟩:=
 liftW (app_ne (num_ne n)) (a_wnum (h:=⟨[wtr ver l],[]⟩) (.inl rfl) n hlen h0 h1) rfl hb
theorem wt {h:Hp} {i:Nat} {ver:Int} {l:List UInt8} (hb:h.b[i]?=some (wtr ver l)) (s:List UInt8) (hlen:l.length+s.length+10≤1000000000) :
  ACall Tryz.prog GT 140 [.ptr i 0,.str s] h fun u h'=>u = .tup []∧h'=⟨h.b.set i (wtr ver (l++Wire.strE s)),h.t⟩:=
 liftW (app_ne (strE_ne s)) (a_wtext (h:=⟨[wtr ver l],[]⟩) (.inl rfl) s hlen) rfl hb
theorem wv {h:Hp} {i:Nat} {ver:Int} {l:List UInt8} (hb:h.b[i]?=some (wtr ver l)) (v:V) (hz:∃ lv b,(Val.chk v lv b).1=0) (hlen:l.length+(Val.enc v).length+10≤1000000000) (hv:v.lens) :
  ACall Tryz.prog GT 101 [.ptr i 0,v.A] h fun u h'=>u = .tup []∧h'=⟨h.b.set i (wtr ver (l++Val.enc v)),h.t⟩:=
 liftW (app_ne (enc_ne v)) (t_value v 0 ver l ⟨[wtr ver l],[]⟩ (.inl rfl) hz hlen hv) (by obtain ⟨k,n,s,is,ks⟩:=v; rfl) hb
theorem wf {h:Hp} {i:Nat} {ver:Int} {l:List UInt8} (hb:h.b[i]?=some (wtr ver l)) (b:Bool) (hlen:l.length+10≤1000000000) :
  ACall Tryz.prog GT 142 [.ptr i 0,.bool b] h fun u h'=>u = .tup []∧h'=⟨h.b.set i (wtr ver (l++Sf.flagE b)),h.t⟩:=by
 refine acall_of mixedT h_wflag (by simp [c_wflag]) ?_
 dsimp only [c_wflag]
 cases b
 ·refine run0 ti ?_
  refine use (wn hb _ hlen (by decide) (by decide)) ?_
  refine run0 ti ?_
  exact ⟨_,le_refl _,rfl,rfl⟩
 ·refine run0 ti ?_
  refine use (wn hb _ hlen (by decide) (by decide)) ?_
  refine run0 ti ?_
  exact ⟨_,le_refl _,rfl,rfl⟩
structure Sf.InstOk (x:Sf.Inst):Prop where
 z:∃ lv b,(Val.chk x.attrs lv b).1=0
 lens:x.attrs.lens
 v0:-9223372036854775808≤x.ver
 v1:x.ver≤9223372036854775807
theorem strE_le (s:List UInt8):s.length≤(Wire.strE s).length:=by unfold Wire.strE; rw [List.length_append]; omega
theorem words_snoc (ds:List (List UInt8)) (j:Nat) (hj:j < ds.length):Sf.wordsE (ds.take (j+1))=Sf.wordsE (ds.take j)++Wire.strE ds[j]:=by
 unfold Sf.wordsE
 rw [List.take_succ_eq_append_getElem hj,List.flatMap_append]; simp
theorem words_take_le (ds:List (List UInt8)) (j:Nat):(Sf.wordsE (ds.take j)).length≤(Sf.wordsE ds).length:=by
 have:Sf.wordsE ds=Sf.wordsE (ds.take j)++Sf.wordsE (ds.drop j):=by unfold Sf.wordsE; rw [←List.flatMap_append,List.take_append_drop]
 rw [this,List.length_append]; omega
theorem w_inst {ver:Int} (hver:ver=1∨ver=2) (x:Sf.Inst) (hx:Sf.InstOk x) (l:List UInt8) (hlen:l.length+(Sf.instE ver x).length+20≤1000000000) {h:Hp} {i:Nat} (hb:h.b[i]?=some (wtr ver l)) :
  ACall Tryz.prog GT 141 [.ptr i 0,.agg x.cells] h fun u h'=>u = .tup []∧h'=⟨h.b.set i (wtr ver (l++Sf.instE ver x)),h.t⟩:=by
 have key:ACall Tryz.prog GT 141 [.ptr 0 0,.agg x.cells] ⟨[wtr ver l],[]⟩ fun u h'=>∃ b',h'.b[0]?=some b'∧u = .tup []∧b'=wtr ver (l++Sf.instE ver x):=by
  have hz:=hx.z
  have hl:=hx.lens
  have v0:=hx.v0
  have v1:=hx.v1
  obtain ⟨a,d,id,ty,⟨k,n,s,is,ks⟩,v,tn,fi,ds⟩:=x
  have hE:Sf.instE ver ⟨a,d,id,ty,.mk k n s is ks,v,tn,fi,ds⟩=Wire.strE a++Wire.strE d++Wire.strE id++Wire.strE ty++Val.enc (.mk k n s is ks)++Wire.num v++Sf.flagE tn++(if ver=2 then Sf.flagE fi else [])++Wire.num ds.length++Sf.wordsE ds:=rfl
  rw [hE] at hlen ⊢
  have la:=strE_le a
  have lb:=strE_le d
  have lc:=strE_le id
  have ld:=strE_le ty
  have hVA:(V.mk k n s is ks).A = .agg [.int .i64 k,.int .i64 n,.str s,.sl 5 .no (V.cellss is),.sl 1 .no (strsA ks)]:=by simp only [V.A,V.cells]
  have cv:=fun (m:List UInt8) (h:Hp) (hb:h.b[0]?=some (wtr ver m)) (hm:m.length+(Val.enc (.mk k n s is ks)).length+10≤1000000000)=>wv hb (.mk k n s is ks) hz hm hl
  rw [hVA] at cv
  simp only [List.length_append] at hlen
  obtain ⟨F,hF⟩:∃ F,(if ver=2 then Sf.flagE fi else [])=F:=⟨_,rfl⟩
  rw [hF] at hlen ⊢
  have hdl:ds.length≤1000000000:=by
   have:∀ l:List (List UInt8),l.length≤(Sf.wordsE l).length:=by
    intro l
    induction l with
    | nil=>simp
    | cons x l ih =>
     have h1:Sf.wordsE (x::l)=Wire.strE x++Sf.wordsE l:=by simp [Sf.wordsE]
     have h2:(Wire.strE x).length≠0:=fun e=>strE_ne x (List.length_eq_zero_iff.1 e)
     rw [h1,List.length_append,List.length_cons]; omega
   have:=this ds; omega
  refine acall_of mixedT h_winst (by simp [c_winst]) ?_
  dsimp only [c_winst,Sf.Inst.cells]
  refine run0 ti ?_
  refine use (wt rfl a (by omega)) ?_
  refine run0 ti ?_
  refine use (wt rfl d (by simp only [List.length_append]; omega)) ?_
  refine run0 ti ?_
  refine use (wt rfl id (by simp only [List.length_append]; omega)) ?_
  refine run0 ti ?_
  refine use (wt rfl ty (by simp only [List.length_append]; omega)) ?_
  refine run0 ti ?_
  refine use (cv _ _ rfl (by simp only [List.length_append]; omega)) ?_
  refine run0 ti ?_
  refine use (wn rfl v (by simp only [List.length_append]; omega) v0 v1) ?_
  refine run0 ti ?_
  refine use (wf rfl tn (by simp only [List.length_append]; omega)) ?_
  have hv12:∀ {G:Prop},((ver == 2)=false→F=[]→G)→((ver == 2)=true→F=Sf.flagE fi→G)→G:=fun p q=>by
   rcases hver with rfl | rfl
   ·rw [if_neg (by decide)] at hF; exact p rfl hF.symm
   ·rw [if_pos rfl] at hF; exact q rfl hF.symm
  refine hv12 (fun e2 eF=>?_) (fun e2 eF=>?_)
  all_goals subst eF
  ·refine run0 (ai @wtr_ (ai e2 @strsA_length)) ?_
   refine use (wn rfl _ (by simp only [List.length_append]; omega) (by omega) (by omega)) ?_
   refine run0 @strsA_length ?_
   refine awp_loop (fun mm ts h=>∃ j:Nat,mm=ds.length - j∧j≤ds.length∧h=⟨[wtr ver (l++Wire.strE a++Wire.strE d++Wire.strE id++Wire.strE ty++Val.enc (.mk k n s is ks)++Wire.num v++Sf.flagE tn++Wire.num ds.length++Sf.wordsE (ds.take j)),.cells 36 [.str a,.str d,.str id,.str ty,.int .i64 k,.int .i64 n,.str s,.sl 5 .no (V.cellss is),.sl 1 .no (strsA ks),.int .i64 v,.bool tn,.bool fi,.sl 1 .no (strsA ds)]],[]⟩∧ts 0 = .ptr 0 0∧ts 49 = .sl 1 .no (strsA ds)∧ts 50 = .int .i64 (ds.length:Nat)∧ts 51 = .int .i64 (j:Nat)) ds.length ?_ ?_
   ·exact ⟨0,by omega,by omega,by simp only [Sf.wordsE,List.take_zero,List.flatMap_nil,List.append_nil],by (exact ev0 ti),by (exact ev0 ti),by (exact ev0 @strsA_length),by (exact inv0 ti)⟩
   ·rintro mm ts h ⟨j,rfl,hjc,rfl,t0,t49,t50,t51⟩
    by_cases hj:j < ds.length
    ·have hlt:(j:Int) < (ds.length:Int):=by omega
     have ei:IntKind.i64.wrap ((j:Int)+1)=((j+1:Nat):Int):=by rw [wrap64 (by omega) (by omega)]; omega
     have hg:=strsA_get ds j hj
     have hlt':(j:Int) < ((strsA ds).length:Int):=by rw [strsA_length]; exact hlt
     have hj0:(0:Int)≤(j:Int):=by omega
     have ht:=words_take_le ds (j+1)
     rw [words_snoc ds j hj,List.length_append] at ht
     have hsl:=strE_le ds[j]
     refine run0 (ai t0 (ai t49 (ai t50 (ai t51 (ai hlt (ai hg (ai hlt' hj0))))))) ?_
     refine use (wt rfl ds[j] (by simp only [List.length_append]; omega)) ?_
     refine run0 (ai t0 (ai t49 (ai t50 (ai t51 ei)))) ?_
     exact ⟨ds.length - (j+1),by omega,j+1,rfl,by omega,by rw [words_snoc ds j hj]; simp only [List.append_assoc],by (exact ev0 t0),by (exact ev0 t49),by (exact ev0 t50),by (exact ev0 ei)⟩
    ·have hlt:¬ ((j:Int) < (ds.length:Int)):=by omega
     have hjl:j=ds.length:=by omega
     subst hjl
     refine run0 (ai t0 (ai t49 (ai t50 (ai t51 hlt)))) ?_
     exact ⟨_,le_refl _,_,rfl,rfl,by simp only [List.take_length,List.append_assoc,List.nil_append]⟩
  ·refine run0 (ai @wtr_ e2) ?_
   refine use (wf rfl fi (by simp only [List.length_append]; omega)) ?_
   refine run0 @strsA_length ?_
   refine use (wn rfl _ (by simp only [List.length_append]; omega) (by omega) (by omega)) ?_
   refine run0 @strsA_length ?_
   refine awp_loop (fun mm ts h=>∃ j:Nat,mm=ds.length - j∧j≤ds.length∧h=⟨[wtr ver (l++Wire.strE a++Wire.strE d++Wire.strE id++Wire.strE ty++Val.enc (.mk k n s is ks)++Wire.num v++Sf.flagE tn++Sf.flagE fi++Wire.num ds.length++Sf.wordsE (ds.take j)),.cells 36 [.str a,.str d,.str id,.str ty,.int .i64 k,.int .i64 n,.str s,.sl 5 .no (V.cellss is),.sl 1 .no (strsA ks),.int .i64 v,.bool tn,.bool fi,.sl 1 .no (strsA ds)]],[]⟩∧ts 0 = .ptr 0 0∧ts 49 = .sl 1 .no (strsA ds)∧ts 50 = .int .i64 (ds.length:Nat)∧ts 51 = .int .i64 (j:Nat)) ds.length ?_ ?_
   ·exact ⟨0,by omega,by omega,by simp only [Sf.wordsE,List.take_zero,List.flatMap_nil,List.append_nil],by (exact ev0 ti),by (exact ev0 ti),by (exact ev0 @strsA_length),by (exact inv0 ti)⟩
   ·rintro mm ts h ⟨j,rfl,hjc,rfl,t0,t49,t50,t51⟩
    by_cases hj:j < ds.length
    ·have hlt:(j:Int) < (ds.length:Int):=by omega
     have ei:IntKind.i64.wrap ((j:Int)+1)=((j+1:Nat):Int):=by rw [wrap64 (by omega) (by omega)]; omega
     have hg:=strsA_get ds j hj
     have hlt':(j:Int) < ((strsA ds).length:Int):=by rw [strsA_length]; exact hlt
     have hj0:(0:Int)≤(j:Int):=by omega
     have ht:=words_take_le ds (j+1)
     rw [words_snoc ds j hj,List.length_append] at ht
     have hsl:=strE_le ds[j]
     refine run0 (ai t0 (ai t49 (ai t50 (ai t51 (ai hlt (ai hg (ai hlt' hj0))))))) ?_
     refine use (wt rfl ds[j] (by simp only [List.length_append]; omega)) ?_
     refine run0 (ai t0 (ai t49 (ai t50 (ai t51 ei)))) ?_
     exact ⟨ds.length - (j+1),by omega,j+1,rfl,by omega,by rw [words_snoc ds j hj]; simp only [List.append_assoc],by (exact ev0 t0),by (exact ev0 t49),by (exact ev0 t50),by (exact ev0 ei)⟩
    ·have hlt:¬ ((j:Int) < (ds.length:Int)):=by omega
     have hjl:j=ds.length:=by omega
     subst hjl
     refine run0 (ai t0 (ai t49 (ai t50 (ai t51 hlt)))) ?_
     exact ⟨_,le_refl _,_,rfl,rfl,by simp only [List.take_length,List.append_assoc,List.nil_append]⟩
 refine (ACall.lift1 key (by obtain ⟨a,d,id,ty,⟨k,n,s,is,ks⟩,v,tn,fi,ds⟩:=x; rfl) (wtr_loc ver l) ?_ hb).mono ?_
 ·rintro u b' ⟨rfl,rfl⟩
  exact ⟨rfl,wtr_loc _ _⟩
 ·rintro u h' ⟨b',⟨rfl,rfl⟩,rfl⟩
  exact ⟨rfl,rfl⟩
theorem fm_snoc {α:Type} (f:α→List UInt8) (l:List α) (j:Nat) (hj:j < l.length):(l.take (j+1)).flatMap f=(l.take j).flatMap f++f l[j]:=by
 rw [List.take_succ_eq_append_getElem hj,List.flatMap_append]; simp
theorem fm_le {α:Type} (f:α→List UInt8) (l:List α) (j:Nat):((l.take j).flatMap f).length≤(l.flatMap f).length:=by
 have:l.flatMap f=(l.take j).flatMap f++(l.drop j).flatMap f:=by rw [←List.flatMap_append,List.take_append_drop]
 rw [this,List.length_append]; omega
theorem map_getD {α:Type} (f:α→List A) (l:List α) (j:Nat) (hj:j < l.length):(l.map f).getD j []=f l[j]:=by simp [List.getD,hj]
structure Sf.StOk (s:Sf.St):Prop where
 insts:∀ x∈s.insts,Sf.InstOk x
 outs:∀ x∈s.outs,(∃ lv b,(Val.chk x.value lv b).1=0)∧x.value.lens
 ser0:-9223372036854775808≤s.ser
 ser1:s.ser≤9223372036854775807
 li:s.insts.length≤1000000000
 lp:s.pends.length≤1000000000
 lo:s.outs.length≤1000000000
theorem w_state {ver:Int} (hver:ver=1∨ver=2) (st:Sf.St) (ok:Sf.StOk st) (hlen:(Sf.stE ver st).length+20≤1000000000) :
  ACall Tryz.prog GT 100 [.ptr 0 0,st.A] ⟨[.cells 151 [.nilp,.sl 0 .nil [],.int .i64 ver]],[]⟩ fun u h'=>∃ b',h'.b[0]?=some b'∧u = .tup []∧b'=wtr ver (Sf.stE ver st):=by
 obtain ⟨lin,ser,ins,ps,os⟩:=st
 have s0:-9223372036854775808≤ser:=ok.ser0
 have s1:ser≤9223372036854775807:=ok.ser1
 have li:ins.length≤1000000000:=ok.li
 have lp:ps.length≤1000000000:=ok.lp
 have lo:os.length≤1000000000:=ok.lo
 have hml:magic.length=4:=rfl
 have lm1:(ins.map Sf.Inst.cells).length=ins.length:=List.length_map _
 have lm2:(ps.map Sf.Pend.cells).length=ps.length:=List.length_map _
 have lm3:(os.map Sf.Outp.cells).length=os.length:=List.length_map _
 obtain ⟨F,hF⟩:∃ F,(if ver=2 then Wire.num ps.length++ps.flatMap Sf.pendE else [])=F:=⟨_,rfl⟩
 have hE:Sf.stE ver ⟨lin,ser,ins,ps,os⟩=magic++Wire.num ver++Wire.strE lin++Wire.num ser++Wire.num ins.length++ins.flatMap (Sf.instE ver)++F++Wire.num os.length++os.flatMap Sf.outE:=by rw [←hF]; rfl
 rw [hE] at hlen
 simp only [List.length_append,hml] at hlen
 have k0:=strE_le lin
 have hv12:∀ {G:Prop},((ver == 2)=false→F=[]→G)→((ver == 2)=true→F=Wire.num ps.length++ps.flatMap Sf.pendE→G)→G:=fun p q=>by
  rcases hver with rfl | rfl
  ·rw [if_neg (by decide)] at hF; exact p rfl hF.symm
  ·rw [if_pos rfl] at hF; exact q rfl hF.symm
 have hv1:1≤ver∧ver≤2:=by omega
 refine acall_of mixedT h_wstate (by simp [c_wstate]) ?_
 dsimp only [c_wstate,Sf.St.A]
 refine run0 ti ?_
 refine use (a_write (.inr ⟨rfl,rfl⟩) magic (by simp only [List.length_nil,hml]; decide)) ?_
 refine run0 @wtr_ ?_
 refine use (wn (i:=0) (ver:=ver) (l:=magic) rfl ver (by simp only [List.length_append,hml]; omega) (by omega) (by omega)) ?_
 refine run0 ti ?_
 refine use (wt rfl lin (by simp only [List.length_append,hml]; omega)) ?_
 refine run0 ti ?_
 refine use (wn rfl ser (by simp only [List.length_append,hml]; omega) s0 s1) ?_
 refine run0 (ai lm1 (ai lm2 lm3)) ?_
 refine use (wn rfl _ (by simp only [List.length_append,hml]; omega) (by omega) (by omega)) ?_
 refine run0 (ai lm1 (ai lm2 lm3)) ?_
 refine awp_loop (fun mm ts h=>∃ (j:Nat) (l:List Blk),mm=ins.length - j∧j≤ins.length∧h=⟨wtr ver (magic++Wire.num ver++Wire.strE lin++Wire.num ser++Wire.num ins.length++(ins.take j).flatMap (Sf.instE ver)) :: .cells 27 [.str lin,.int .i64 ser,.sl 13 .no (ins.map Sf.Inst.cells),.sl 3 .no (ps.map Sf.Pend.cells),.sl 7 .no (os.map Sf.Outp.cells)]::l,[]⟩∧ts 0 = .ptr 0 0∧ts 3 = .ptr 1 0∧ts 34 = .sl 13 .no (ins.map Sf.Inst.cells)∧ts 35 = .int .i64 (ins.length:Nat)∧ts 36 = .int .i64 (j:Nat)) ins.length ?_ ?_
 ·exact ⟨0,[],by omega,by omega,by simp only [List.take_zero,List.flatMap_nil,List.append_nil],by (exact ev0 ti),by (exact ev0 ti),by (exact ev0 ti),by (exact ev0 (ai lm1 (ai lm2 lm3))),by (exact inv0 ti)⟩
 ·rintro mm ts h ⟨j,l,rfl,hjc,rfl,t0,t3,ta,tb,tc⟩
  by_cases hj:j < ins.length
  ·have hlt:(j:Int) < (ins.length:Int):=by omega
   have hlt':(j:Int) < ((ins.map Sf.Inst.cells).length:Int):=by rw [List.length_map]; exact hlt
   have hj0:(0:Int)≤(j:Int):=by omega
   have ei:IntKind.i64.wrap ((j:Int)+1)=((j+1:Nat):Int):=by rw [wrap64 (by omega) (by omega)]; omega
   have hs:=fm_snoc (Sf.instE ver) ins j hj
   have ht:=fm_le (Sf.instE ver) ins (j+1)
   have hg:=map_getD Sf.Inst.cells ins j hj
   have hm:=List.getElem_mem hj
   have hok:=ok.insts _ hm
   obtain ⟨x,hx⟩:∃ x,ins[j]=x:=⟨_,rfl⟩
   rw [hx] at hs hg hok
   rw [hs,List.length_append] at ht
   have cw:=fun (m:List UInt8) (h:Hp) (hb:h.b[0]?=some (wtr ver m)) (hm:m.length+(Sf.instE ver x).length+20≤1000000000)=>w_inst hver x hok m hm hb
   obtain ⟨a,d,id,ty,⟨k,n,s,is,ks⟩,v,tn,fi,ds⟩:=x
   simp only [Sf.Inst.cells] at hg cw
   refine run0 (ai t0 (ai t3 (ai ta (ai tb (ai tc (ai hlt (ai hg (ai hlt' hj0)))))))) ?_
   refine use (cw _ _ rfl (by simp only [List.length_append,hml]; omega)) ?_
   refine run0 (ai t0 (ai t3 (ai ta (ai tb (ai tc ei))))) ?_
   exact ⟨ins.length - (j+1),by omega,j+1,l++[.cells 36 [.str a,.str d,.str id,.str ty,.int .i64 k,.int .i64 n,.str s,.sl 5 .no (V.cellss is),.sl 1 .no (strsA ks),.int .i64 v,.bool tn,.bool fi,.sl 1 .no (strsA ds)]],rfl,by omega,by rw [hs]; simp only [List.append_assoc],by (exact ev0 t0),by (exact ev0 t3),by (exact ev0 ta),by (exact ev0 tb),by (exact ev0 ei)⟩
  ·have hlt:¬ ((j:Int) < (ins.length:Int)):=by omega
   have hjl:j=ins.length:=by omega
   subst hjl
   rw [List.take_length]
   refine hv12 (fun e2 eF=>?_) (fun e2 eF=>?_)
   all_goals subst eF
   all_goals first | (simp only [List.length_append] at hlen) | skip
   ·refine run0 (ai t0 (ai t3 (ai ta (ai tb (ai tc (ai hlt (ai @wtr_ (ai e2 (ai lm1 (ai lm2 lm3)))))))))) ?_
    refine use (wn (i:=0) (ver:=ver) (l:=magic++Wire.num ver++Wire.strE lin++Wire.num ser++Wire.num ins.length++ins.flatMap (Sf.instE ver)) rfl _ (by simp only [List.length_append,hml]; omega) (by omega) (by omega)) ?_
    refine run0 (ai t0 (ai t3 (ai lm1 (ai lm2 lm3)))) ?_
    refine awp_loop (fun mm ts h=>∃ (j:Nat) (l:List Blk),mm=os.length - j∧j≤os.length∧h=⟨wtr ver (magic++Wire.num ver++Wire.strE lin++Wire.num ser++Wire.num ins.length++ins.flatMap (Sf.instE ver)++Wire.num os.length++(os.take j).flatMap Sf.outE) :: .cells 27 [.str lin,.int .i64 ser,.sl 13 .no (ins.map Sf.Inst.cells),.sl 3 .no (ps.map Sf.Pend.cells),.sl 7 .no (os.map Sf.Outp.cells)]::l,[]⟩∧ts 0 = .ptr 0 0∧ts 3 = .ptr 1 0∧ts 80 = .sl 7 .no (os.map Sf.Outp.cells)∧ts 81 = .int .i64 (os.length:Nat)∧ts 82 = .int .i64 (j:Nat)) os.length ?_ ?_
    ·exact ⟨0,l,by omega,by omega,by simp only [List.take_zero,List.flatMap_nil,List.append_nil],by (exact ev0 t0),by (exact ev0 t3),by (exact ev0 (ai t0 t3)),by (exact ev0 (ai t0 (ai t3 (ai lm1 (ai lm2 lm3))))),by (exact inv0 (ai t0 t3))⟩
    ·rintro mm ts h ⟨j,l,rfl,hjc,rfl,t0,t3,ta,tb,tc⟩
     by_cases hj:j < os.length
     ·have hlt:(j:Int) < (os.length:Int):=by omega
      have hlt':(j:Int) < ((os.map Sf.Outp.cells).length:Int):=by rw [List.length_map]; exact hlt
      have hj0:(0:Int)≤(j:Int):=by omega
      have ei:IntKind.i64.wrap ((j:Int)+1)=((j+1:Nat):Int):=by rw [wrap64 (by omega) (by omega)]; omega
      have hs:=fm_snoc Sf.outE os j hj
      have ht:=fm_le Sf.outE os (j+1)
      have hg:=map_getD Sf.Outp.cells os j hj
      have hm:=List.getElem_mem hj
      have hok:=ok.outs _ hm
      obtain ⟨x,hx⟩:∃ x,os[j]=x:=⟨_,rfl⟩
      rw [hx] at hs hg hok
      rw [hs,List.length_append] at ht
      obtain ⟨m,⟨k,n,s,is,ks⟩,b⟩:=x
      have hVA:(V.mk k n s is ks).A = .agg [.int .i64 k,.int .i64 n,.str s,.sl 5 .no (V.cellss is),.sl 1 .no (strsA ks)]:=by simp only [V.A,V.cells]
      have cv:=fun (m:List UInt8) (h:Hp) (hb:h.b[0]?=some (wtr ver m)) (hm:m.length+(Val.enc (.mk k n s is ks)).length+10≤1000000000)=>wv hb (.mk k n s is ks) hok.1 hm hok.2
      rw [hVA] at cv
      simp only [Sf.Outp.cells] at hg
      simp only [Sf.outE] at hs ht
      simp only [List.length_append] at ht
      have k1:=strE_le m
      refine run0 (ai t0 (ai t3 (ai ta (ai tb (ai tc (ai hlt (ai hg (ai hlt' hj0)))))))) ?_
      refine use (wt rfl m (by simp only [List.length_append,hml]; omega)) ?_
      refine run0 (ai t0 (ai t3 (ai ta (ai tb tc)))) ?_
      refine use (cv _ _ rfl (by simp only [List.length_append,hml]; omega)) ?_
      refine run0 (ai t0 (ai t3 (ai ta (ai tb tc)))) ?_
      refine use (wf rfl b (by simp only [List.length_append,hml]; omega)) ?_
      refine run0 (ai t0 (ai t3 (ai ta (ai tb (ai tc ei))))) ?_
      exact ⟨os.length - (j+1),by omega,j+1,l++[.cells 95 [.str m,.int .i64 k,.int .i64 n,.str s,.sl 5 .no (V.cellss is),.sl 1 .no (strsA ks),.bool b]],rfl,by omega,by rw [hs]; simp only [List.append_assoc],by (exact ev0 t0),by (exact ev0 t3),by (exact ev0 ta),by (exact ev0 tb),by (exact ev0 ei)⟩
     ·have hlt:¬ ((j:Int) < (os.length:Int)):=by omega
      have hjl:j=os.length:=by omega
      subst hjl
      rw [List.take_length]
      refine run0 (ai t0 (ai t3 (ai ta (ai tb (ai tc hlt))))) ?_
      exact ⟨_,le_refl _,_,rfl,rfl,by rw [hE]; simp only [List.append_assoc,List.nil_append]⟩
   ·refine run0 (ai t0 (ai t3 (ai ta (ai tb (ai tc (ai hlt (ai @wtr_ (ai e2 (ai lm1 (ai lm2 lm3)))))))))) ?_
    refine use (wn (i:=0) (ver:=ver) (l:=magic++Wire.num ver++Wire.strE lin++Wire.num ser++Wire.num ins.length++ins.flatMap (Sf.instE ver)) rfl _ (by simp only [List.length_append,hml]; omega) (by omega) (by omega)) ?_
    refine run0 (ai t0 (ai t3 (ai lm1 (ai lm2 lm3)))) ?_
    refine awp_loop (fun mm ts h=>∃ (j:Nat) (l:List Blk),mm=ps.length - j∧j≤ps.length∧h=⟨wtr ver (magic++Wire.num ver++Wire.strE lin++Wire.num ser++Wire.num ins.length++ins.flatMap (Sf.instE ver)++Wire.num ps.length++(ps.take j).flatMap Sf.pendE) :: .cells 27 [.str lin,.int .i64 ser,.sl 13 .no (ins.map Sf.Inst.cells),.sl 3 .no (ps.map Sf.Pend.cells),.sl 7 .no (os.map Sf.Outp.cells)]::l,[]⟩∧ts 0 = .ptr 0 0∧ts 3 = .ptr 1 0∧ts 55 = .sl 3 .no (ps.map Sf.Pend.cells)∧ts 56 = .int .i64 (ps.length:Nat)∧ts 57 = .int .i64 (j:Nat)) ps.length ?_ ?_
    ·exact ⟨0,l,by omega,by omega,by simp only [List.take_zero,List.flatMap_nil,List.append_nil],by (exact ev0 t0),by (exact ev0 t3),by (exact ev0 (ai t0 t3)),by (exact ev0 (ai t0 (ai t3 (ai lm1 (ai lm2 lm3))))),by (exact inv0 (ai t0 t3))⟩
    ·rintro mm ts h ⟨j,l,rfl,hjc,rfl,t0,t3,ta,tb,tc⟩
     by_cases hj:j < ps.length
     ·have hlt:(j:Int) < (ps.length:Int):=by omega
      have hlt':(j:Int) < ((ps.map Sf.Pend.cells).length:Int):=by rw [List.length_map]; exact hlt
      have hj0:(0:Int)≤(j:Int):=by omega
      have ei:IntKind.i64.wrap ((j:Int)+1)=((j+1:Nat):Int):=by rw [wrap64 (by omega) (by omega)]; omega
      have hs:=fm_snoc Sf.pendE ps j hj
      have ht:=fm_le Sf.pendE ps (j+1)
      have hg:=map_getD Sf.Pend.cells ps j hj
      have hm:=List.getElem_mem hj
      obtain ⟨x,hx⟩:∃ x,ps[j]=x:=⟨_,rfl⟩
      rw [hx] at hs hg
      rw [hs,List.length_append] at ht
      simp only [Sf.Pend.cells] at hg
      simp only [Sf.pendE] at hs ht
      simp only [List.length_append] at ht
      have k1:=strE_le x.addr
      have k2:=strE_le x.typ
      have k3:=strE_le x.tok
      refine run0 (ai t0 (ai t3 (ai ta (ai tb (ai tc (ai hlt (ai hg (ai hlt' hj0)))))))) ?_
      refine use (wt rfl x.addr (by simp only [List.length_append,hml]; omega)) ?_
      refine run0 (ai t0 (ai t3 (ai ta (ai tb tc)))) ?_
      refine use (wt rfl x.typ (by simp only [List.length_append,hml]; omega)) ?_
      refine run0 (ai t0 (ai t3 (ai ta (ai tb tc)))) ?_
      refine use (wt rfl x.tok (by simp only [List.length_append,hml]; omega)) ?_
      refine run0 (ai t0 (ai t3 (ai ta (ai tb (ai tc ei))))) ?_
      exact ⟨ps.length - (j+1),by omega,j+1,l++[.cells 140 [.str x.addr,.str x.typ,.str x.tok]],rfl,by omega,by rw [hs]; simp only [List.append_assoc],by (exact ev0 t0),by (exact ev0 t3),by (exact ev0 ta),by (exact ev0 tb),by (exact ev0 ei)⟩
     ·have hlt:¬ ((j:Int) < (ps.length:Int)):=by omega
      have hjl:j=ps.length:=by omega
      subst hjl
      rw [List.take_length]
      refine run0 (ai t0 (ai t3 (ai ta (ai tb (ai tc (ai hlt (ai lm1 (ai lm2 lm3)))))))) ?_
      refine use (wn rfl _ (by simp only [List.length_append,hml]; omega) (by omega) (by omega)) ?_
      refine run0 (ai t0 (ai t3 (ai lm1 (ai lm2 lm3)))) ?_
      refine awp_loop (fun mm ts h=>∃ (j:Nat) (l:List Blk),mm=os.length - j∧j≤os.length∧h=⟨wtr ver (magic++Wire.num ver++Wire.strE lin++Wire.num ser++Wire.num ins.length++ins.flatMap (Sf.instE ver)++Wire.num ps.length++ps.flatMap Sf.pendE++Wire.num os.length++(os.take j).flatMap Sf.outE) :: .cells 27 [.str lin,.int .i64 ser,.sl 13 .no (ins.map Sf.Inst.cells),.sl 3 .no (ps.map Sf.Pend.cells),.sl 7 .no (os.map Sf.Outp.cells)]::l,[]⟩∧ts 0 = .ptr 0 0∧ts 3 = .ptr 1 0∧ts 80 = .sl 7 .no (os.map Sf.Outp.cells)∧ts 81 = .int .i64 (os.length:Nat)∧ts 82 = .int .i64 (j:Nat)) os.length ?_ ?_
      ·exact ⟨0,l,by omega,by omega,by simp only [List.take_zero,List.flatMap_nil,List.append_nil],by (exact ev0 t0),by (exact ev0 t3),by (exact ev0 (ai t0 t3)),by (exact ev0 (ai t0 (ai t3 (ai lm1 (ai lm2 lm3))))),by (exact inv0 (ai t0 t3))⟩
      ·rintro mm ts h ⟨j,l,rfl,hjc,rfl,t0,t3,ta,tb,tc⟩
       by_cases hj:j < os.length
       ·have hlt:(j:Int) < (os.length:Int):=by omega
        have hlt':(j:Int) < ((os.map Sf.Outp.cells).length:Int):=by rw [List.length_map]; exact hlt
        have hj0:(0:Int)≤(j:Int):=by omega
        have ei:IntKind.i64.wrap ((j:Int)+1)=((j+1:Nat):Int):=by rw [wrap64 (by omega) (by omega)]; omega
        have hs:=fm_snoc Sf.outE os j hj
        have ht:=fm_le Sf.outE os (j+1)
        have hg:=map_getD Sf.Outp.cells os j hj
        have hm:=List.getElem_mem hj
        have hok:=ok.outs _ hm
        obtain ⟨x,hx⟩:∃ x,os[j]=x:=⟨_,rfl⟩
        rw [hx] at hs hg hok
        rw [hs,List.length_append] at ht
        obtain ⟨m,⟨k,n,s,is,ks⟩,b⟩:=x
        have hVA:(V.mk k n s is ks).A = .agg [.int .i64 k,.int .i64 n,.str s,.sl 5 .no (V.cellss is),.sl 1 .no (strsA ks)]:=by simp only [V.A,V.cells]
        have cv:=fun (m:List UInt8) (h:Hp) (hb:h.b[0]?=some (wtr ver m)) (hm:m.length+(Val.enc (.mk k n s is ks)).length+10≤1000000000)=>wv hb (.mk k n s is ks) hok.1 hm hok.2
        rw [hVA] at cv
        simp only [Sf.Outp.cells] at hg
        simp only [Sf.outE] at hs ht
        simp only [List.length_append] at ht
        have k1:=strE_le m
        refine run0 (ai t0 (ai t3 (ai ta (ai tb (ai tc (ai hlt (ai hg (ai hlt' hj0)))))))) ?_
        refine use (wt rfl m (by simp only [List.length_append,hml]; omega)) ?_
        refine run0 (ai t0 (ai t3 (ai ta (ai tb tc)))) ?_
        refine use (cv _ _ rfl (by simp only [List.length_append,hml]; omega)) ?_
        refine run0 (ai t0 (ai t3 (ai ta (ai tb tc)))) ?_
        refine use (wf rfl b (by simp only [List.length_append,hml]; omega)) ?_
        refine run0 (ai t0 (ai t3 (ai ta (ai tb (ai tc ei))))) ?_
        exact ⟨os.length - (j+1),by omega,j+1,l++[.cells 95 [.str m,.int .i64 k,.int .i64 n,.str s,.sl 5 .no (V.cellss is),.sl 1 .no (strsA ks),.bool b]],rfl,by omega,by rw [hs]; simp only [List.append_assoc],by (exact ev0 t0),by (exact ev0 t3),by (exact ev0 ta),by (exact ev0 tb),by (exact ev0 ei)⟩
       ·have hlt:¬ ((j:Int) < (os.length:Int)):=by omega
        have hjl:j=os.length:=by omega
        subst hjl
        rw [List.take_length]
        refine run0 (ai t0 (ai t3 (ai ta (ai tb (ai tc hlt))))) ?_
        exact ⟨_,le_refl _,_,rfl,rfl,by rw [hE]; simp only [List.append_assoc,List.nil_append]⟩
def c_stext:AX.AFn:=⟨9,aS [aR 2 (.mv (.c (.bool false)))] (aS [aM 3 0,aR 4 (.bin .neq (.t 3) (.c (.str []))),aM 5 4,aG 6 (.mv (.t 0)) 5 true,aG 7 (.call 127 [.t 6]) 5 true,aR 8 (.pick (.t 5) (.t 7) (.c (.bool false))),aM 2 8] (.ret)),[.t 2]⟩
theorem h_stext:AX.compFn Tryz.prog 88=some c_stext:=by kernel_rfl
theorem a_stext (s:List UInt8) (hs:s.length≤2000000) (h:Hp):ACall Tryz.prog GT 88 [.str s] h fun r h'=>r = .bool (s != []&&Str.valid s)∧h'=h:=by
 refine pcall ?_ rfl (by simp [A.pure,A.data]) h
 refine acall_of mixedT h_stext (by simp [c_stext]) ?_
 dsimp only [c_stext]
 rcases bool_or (s != []) with h1 | h1
 ·refine go0 h1 ?_
  refine gc0 h1 ?_
  refine (a_valid s hs _).mono ?_
  rintro v h1' ⟨rfl,rfl⟩
  refine go0 h1 ?_
  exact ⟨_,le_refl _,by rw [tupA_1,h1]; rfl⟩
 ·refine go0 h1 ?_
  exact ⟨_,le_refl _,by rw [tupA_1,h1]; rfl⟩
def c_encode:AX.AFn:=⟨29,aS [aR 2 (.box 27 (.t 0)),aR 4 (.mv (.c (.str []))),aR 5 (.mv (aI 0))] (.seq (aS [aR 8 (.load true 5 (.t 2)),aR 9 (.call 47 [.t 8]),aM 6 9] (aS [aM 10 6,aR 11 (.bin .neq (.t 10) (aI 0))] (.cond (.t 11) (aS [aM 12 6,aR 4 (.mv (.c (.str []))),aM 5 12] (.ret)) (.skip)))) (aS [aM 13 1,aR 14 (.build [.nilp,.sl 0 .nil [],.int .i64 0] [(2,1,.t 13)]),aR 15 (.box 151 (.t 14)),aM 7 15] (aS [aM 16 7,aR 17 (.load true 5 (.t 2)),aR 18 (.call 100 [.t 16,.t 17])] (.seq (aS [aM 19 7,aR 20 (.nilck (.t 19)),aF 21 0 20,aR 22 (.call 42 [.t 21]),aR 23 (.bin .gtr (.t 22) (aI 1048572))] (.cond (.t 23) (aS [aR 4 (.mv (.c (.str []))),aR 5 (.mv (aI 3))] (.ret)) (.skip))) (aS [aM 24 7,aR 25 (.nilck (.t 24)),aF 26 0 25,aR 27 (.call 44 [.t 26]),aR 28 (.call 33 [.t 27]),aM 4 28,aR 5 (.mv (aI 0))] (.ret)))))),[.t 4,.t 5]⟩
theorem h_encode:AX.compFn Tryz.prog 58=some c_encode:=by kernel_rfl
def c_Encode:AX.AFn:=⟨8,aS [aR 1 (.box 27 (.t 0)),aR 2 (.mv (.c (.str []))),aR 3 (.mv (aI 0))] (aS [aR 4 (.load true 5 (.t 1)),aR 5 (.call 58 [.t 4,aI 2]),aE 6 5 0,aE 7 5 1,aM 2 6,aM 3 7] (.ret)),[.t 2,.t 3]⟩
theorem h_Encode:AX.compFn Tryz.prog 29=some c_Encode:=by kernel_rfl
def c_Decode:AX.AFn:=⟨64,aS [aR 2 (.alloc 27 [.str [],.int .i64 0,.sl 0 .nil [],.sl 0 .nil [],.sl 0 .nil []]),aR 3 (.mv (aI 0))] (.seq (aS [aM 9 0,aR 10 (.len true (.t 9)),aR 11 (.bin .gtr (.t 10) (aI 1048576))] (.cond (.t 11) (aS [aR 12 (.build [.str [],.int .i64 0,.sl 0 .nil [],.sl 0 .nil [],.sl 0 .nil []] []),aU (.store 5 (.t 2) (.t 12)),aR 3 (.mv (aI 3))] (.ret)) (.skip))) (.seq (aS [aM 13 0,aR 14 (.call 147 [.t 13,.c (.str [80,86,83,84])]),aR 15 (.un .not (.t 14))] (.cond (.t 15) (aS [aR 16 (.build [.str [],.int .i64 0,.sl 0 .nil [],.sl 0 .nil [],.sl 0 .nil []] []),aU (.store 5 (.t 2) (.t 16)),aR 3 (.mv (aI 2))] (.ret)) (.skip))) (aS [aM 18 0,aR 19 (.call 148 [.t 18]),aM 17 19,aE 20 17 0,aE 21 17 1,aM 4 20,aM 5 21] (.seq (aS [aM 22 5,aR 23 (.bin .neq (.t 22) (aI 0))] (.cond (.t 23) (aS [aR 24 (.build [.str [],.int .i64 0,.sl 0 .nil [],.sl 0 .nil [],.sl 0 .nil []] []),aU (.store 5 (.t 2) (.t 24)),aR 3 (.mv (aI 20))] (.ret)) (.skip))) (aS [aM 26 4,aR 27 (.call 149 [.t 26]),aM 25 27,aE 28 25 0,aE 29 25 1,aM 6 28,aM 5 29] (.seq (aS [aM 30 5,aR 31 (.bin .neq (.t 30) (aI 0))] (.cond (.t 31) (aS [aR 32 (.build [.str [],.int .i64 0,.sl 0 .nil [],.sl 0 .nil [],.sl 0 .nil []] []),aM 33 5,aU (.store 5 (.t 2) (.t 32)),aM 3 33] (.ret)) (.skip))) (aS [aM 34 4,aR 35 (.ssl (.t 34) (some (aI 4)) none),aR 36 (.call 75 [.t 35]),aM 37 6,aR 38 (.build [.nilp,.int .i64 0,.bool false] [(0,1,.t 36),(1,1,.t 37)]),aR 39 (.box 209 (.t 38)),aM 7 39] (aS [aM 40 7,aR 41 (.nilck (.t 40)),aF 42 0 41,aL 43 42,aR 44 (.call 116 [.t 43])] (aS [aM 45 7,aR 46 (.call 150 [.t 45]),aR 8 (.alloc 27 [.str [],.int .i64 0,.sl 0 .nil [],.sl 0 .nil [],.sl 0 .nil []]),aU (.store 5 (.t 8) (.t 46))] (.seq (aS [aM 47 7,aR 48 (.call 151 [.t 47]),aM 49 48,aG 50 (.mv (.t 7)) 49 false,aG 51 (.nilck (.t 50)) 49 false,aG 52 (.faddr 0 (.t 51)) 49 false,aG 53 (.load false 1 (.t 52)) 49 false,aG 54 (.call 77 [.t 53]) 49 false,aG 55 (.bin .gtr (.t 54) (aI 0)) 49 false,aR 56 (.pick (.t 49) (.c (.bool true)) (.t 55)),aM 57 56,aG 58 (.load true 5 (.t 8)) 57 false,aG 59 (.call 47 [.t 58]) 57 false,aG 60 (.bin .neq (.t 59) (aI 0)) 57 false,aR 61 (.pick (.t 57) (.c (.bool true)) (.t 60))] (.cond (.t 61) (aS [aR 62 (.build [.str [],.int .i64 0,.sl 0 .nil [],.sl 0 .nil [],.sl 0 .nil []] []),aU (.store 5 (.t 2) (.t 62)),aR 3 (.mv (aI 2))] (.ret)) (.skip))) (aS [aR 63 (.load true 5 (.t 8)),aU (.store 5 (.t 2) (.t 63)),aR 3 (.mv (aI 0))] (.ret)))))))))))),[.c 2 true 5,.t 3]⟩
theorem h_Decode:AX.compFn Tryz.prog 117=some c_Decode:=by kernel_rfl
theorem a_csAppend (s:List UInt8) (hs:s.length≤1000000000) (h:Hp):ACall Tryz.prog GT 33 [.str s] h fun v h'=>v = .str (Crc.app s)∧h'=h:=
 acall_imp (args1 r_str) (fun w hg=>append_any ⟨s.toArray⟩ w (by rw [size_mk]; exact hs)) (fun C=>rep_str.2 rfl) h
theorem a_csVerify (s:List UInt8) (hs:s.length≤1000000000) (h:Hp):ACall Tryz.prog GT 148 [.str s] h fun v h'=>v = .tup [.str (Crc.ver s).1,.int .i64 (Crc.ver s).2]∧h'=h:=
 acall_imp (args1 r_str) (fun w hg=>verify_any ⟨s.toArray⟩ w (by rw [size_mk]; exact hs)) (fun C=>rep_tup.2 ⟨_,rfl,repL_cons.2 ⟨_,_,rfl,rep_str.2 rfl,repL_cons.2 ⟨_,_,rfl,rep_int.2 rfl,repL_nil.2 rfl⟩⟩⟩) h
def stE:A:=.agg [.str [],.int .i64 0,.sl 0 .nil [],.sl 0 .nil [],.sl 0 .nil []]
end AX
namespace Sf
def zero:St:=⟨[],0,[],[],[]⟩
def encode (ver:Int) (st:St):List UInt8×Int:=
 if checkZ st≠0 then ([],checkZ st) else if 1048572 < (stE ver st).length then ([],3) else (Crc.app (stE ver st),0)
def decode (s:List UInt8):St×Int:=
 if 1048576 < s.length then (zero,3)
 else if AX.preB s=false then (zero,2)
 else if (Crc.ver s).2≠0 then (zero,20)
 else if (AX.versionS (Crc.ver s).1).2≠0 then (zero,(AX.versionS (Crc.ver s).1).2)
 else
  let r:=stateS (AX.versionS (Crc.ver s).1).1 ⟨(Wire.numR ⟨(Crc.ver s).1.drop 4,0⟩).1,false⟩
  if r.1.fails||decide (0 < r.1.r.rest.length)||checkZ r.2 != 0 then (zero,2) else (r.2,0)
end Sf
namespace AX
def SCheck (st:Sf.St):Prop:=∀ h,ACall Tryz.prog GT 47 [st.A] h fun r h'=>r = .int .i64 (Sf.checkZ st)∧h'=h
theorem w_statei {ver:Int} (hver:ver=1∨ver=2) (st:Sf.St) (ok:Sf.StOk st) (hlen:(Sf.stE ver st).length+20≤1000000000) {h:Hp} {i:Nat} (hb:h.b[i]?=some (.cells 151 [.nilp,.sl 0 .nil [],.int .i64 ver])) :
  ACall Tryz.prog GT 100 [.ptr i 0,st.A] h fun u h'=>u = .tup []∧h'=⟨h.b.set i (wtr ver (Sf.stE ver st)),h.t⟩:=by
 refine (ACall.lift1 (w_state hver st ok hlen) rfl (by intros; rfl) ?_ hb).mono ?_
 ·rintro u b' ⟨rfl,rfl⟩
  exact ⟨rfl,wtr_loc _ _⟩
 ·rintro u h' ⟨b',⟨rfl,rfl⟩,rfl⟩
  exact ⟨rfl,rfl⟩
theorem stE_ne (ver:Int) (st:Sf.St):Sf.stE ver st≠[]:=by
 unfold Sf.stE Sf.magic
 simp
theorem a_encode {ver:Int} (hver:ver=1∨ver=2) (st:Sf.St) (hck:SCheck st) (hok:Sf.checkZ st=0→Sf.StOk st∧(Sf.stE ver st).length+20≤1000000000) (h:Hp) :
  ACall Tryz.prog GT 58 [st.A,.int .i64 ver] h fun r h'=>r = .tup [.str (Sf.encode ver st).1,.int .i64 (Sf.encode ver st).2]∧h'=h:=by
 refine pcall ?_ rfl (by simp [A.pure,A.data,Sf.St.A]) h
 refine acall_of mixedT h_encode (by simp [c_encode]) ?_
 dsimp only [c_encode]
 have hw:=fun h hb hz=>w_statei hver st (hok hz).1 (hok hz).2 (h:=h) (i:=1) hb
 have hE:Sf.encode ver st=if Sf.checkZ st≠0 then ([],Sf.checkZ st) else if 1048572 < (Sf.stE ver st).length then ([],3) else (Crc.app (Sf.stE ver st),0):=rfl
 unfold SCheck at hck
 unfold Sf.St.A at hck hw ⊢
 by_cases hz:Sf.checkZ st=0
 ·have e1:(Sf.checkZ st != 0)=false:=by simp [hz]
  rw [if_neg (by simp [hz])] at hE
  refine run0 ti ?_
  refine use (hck _) ?_
  refine run0 e1 ?_
  refine use (hw _ rfl hz) ?_
  refine run0 ti ?_
  refine use (a_wlen (i:=1) (ver:=ver) (l:=Sf.stE ver st) (.inl rfl)) ?_
  by_cases hl:((Sf.stE ver st).length:Int) > 1048572
  ·rw [if_pos (by omega)] at hE
   refine run0 hl ?_
   exact ⟨_,le_refl _,by rw [hE]; rfl⟩
  ·rw [if_neg (by omega)] at hE
   refine run0 hl ?_
   refine use (a_wstring (i:=1) (ver:=ver) (l:=Sf.stE ver st) (.inl rfl) (stE_ne _ _)) ?_
   refine run0 ti ?_
   refine use (a_csAppend _ (by omega) _) ?_
   refine run0 ti ?_
   exact ⟨_,le_refl _,by rw [hE]; rfl⟩
 ·have e1:(Sf.checkZ st != 0)=true:=by simp [hz]
  rw [if_pos hz] at hE
  refine run0 ti ?_
  refine use (hck _) ?_
  refine run0 e1 ?_
  exact ⟨_,le_refl _,by rw [hE]; rfl⟩
theorem a_Encode (st:Sf.St) (hck:SCheck st) (hok:Sf.checkZ st=0→Sf.StOk st∧(Sf.stE 2 st).length+20≤1000000000) (h:Hp) :
  ACall Tryz.prog GT 29 [st.A] h fun r h'=>r = .tup [.str (Sf.encode 2 st).1,.int .i64 (Sf.encode 2 st).2]∧h'=h:=by
 refine pcall ?_ rfl (by simp [A.pure,A.data,Sf.St.A]) h
 refine acall_of mixedT h_Encode (by simp [c_Encode]) ?_
 dsimp only [c_Encode]
 have he:=fun h=>a_encode (.inr rfl) st hck hok h
 unfold Sf.St.A at he ⊢
 refine run0 ti ?_
 refine use (he _) ?_
 refine run0 ti ?_
 exact ⟨_,le_refl _,rfl⟩
theorem liftD {P:Program} {G:World→Prop} {f:FuncId} {args:List A} {ver:Int} {s s':Sf.Rs} {v:A} (hc:ACall P G f (.ptr 0 0::args) ⟨[RB ver s.bad,rdr s.r],[]⟩ fun v' h'=>v'=v∧h'=⟨[RB ver s'.bad,rdr s'.r],[]⟩) (ha:A.locL 0 args=true) (hv:v.loc 0=true) (z:Blk) (l:List Blk) (t:List (TypeId×Nat×Nat)) :
  ACall P G f (.ptr 2 0::args) ⟨z::rdr s.r::RB ver s.bad::l,t⟩ fun v' h'=>v'=v∧h'=⟨z::rdr s'.r::RB ver s'.bad::l,t⟩:=by
 have key:=ACall.lift hc (fun i=>if i=0 then 2 else i) (fun a b ha hb e=>by
   simp only [List.length_cons,List.length_nil] at ha hb
   have h1:a=0∨a=1:=by omega
   have h2:b=0∨b=1:=by omega
   rcases h1 with rfl | rfl <;> rcases h2 with rfl | rfl <;> simp at e ⊢) (by unfold A.locL; rw [(A.locL0 _ args ha).1]; rfl)
  (fun x hx=>by
   rcases List.mem_cons.1 hx with rfl | hx
   ·rfl
   ·rw [List.mem_singleton.1 hx]; rfl)
  (fun v' h' ⟨e,h0⟩=>⟨by rw [e]; exact (A.loc0 _ v hv).1,fun j x hj hx=>by
   have:j=0∨j=1:=by simp only [List.length_cons,List.length_nil] at hj; omega
   rw [h0] at hx
   rcases this with rfl | rfl
   ·simp only [List.getElem?_cons_zero] at hx; injection hx with hx; subst hx; rfl
   ·simp only [List.getElem?_cons_zero,List.getElem?_cons_succ] at hx; injection hx with hx; subst hx; rfl⟩)
  (h:=⟨z::rdr s.r::RB ver s.bad::l,t⟩) (fun j hj=>by
   have:j=0∨j=1:=by simp only [List.length_cons,List.length_nil] at hj; omega
   rcases this with rfl | rfl <;> rfl)
 have e:A.renL (fun i=>if i=0 then 2 else i) (.ptr 0 0::args) = .ptr 2 0::args:=by unfold A.renL; rw [(A.locL0 0 args ha).2]; rfl
 rw [e] at key
 refine key.mono ?_
 rintro v' h' ⟨v0,h0,⟨rfl,rfl⟩,rfl,rfl⟩
 exact ⟨(A.loc0 0 _ hv).2 _,rfl⟩
theorem versionS_12 {s:List UInt8} (h:(versionS s).2=0):(versionS s).1=1∨(versionS s).1=2:=by
 unfold versionS at h ⊢
 split at h
 ·cases h
 ·rename_i h1
  rw [if_neg h1]
  dsimp only at h ⊢
  split at h
  ·cases h
  ·rename_i h2
   rw [if_neg h2]
   split at h
   ·cases h
   ·rename_i h3
    rw [if_neg h3]
    dsimp only
    omega
theorem a_Decode (s:List UInt8) (hlen:s.length≤1000000000) (hvl:(Crc.ver s).1.length≤s.length) (hck:∀ ver r,r.rest.length≤s.length→SCheck (Sf.stateS ver ⟨r,false⟩).2) (h:Hp) :
  ACall Tryz.prog GT 117 [.str s] h fun r h'=>r = .tup [(Sf.decode s).1.A,.int .i64 (Sf.decode s).2]∧h'=h:=by
 refine pcall ?_ rfl (by simp [A.pure,A.data]) h
 refine acall_of mixedT h_Decode (by simp [c_Decode]) ?_
 dsimp only [c_Decode]
 obtain ⟨D,hD⟩:∃ D,Sf.decode s=D:=⟨_,rfl⟩
 rw [hD]
 unfold Sf.decode at hD
 have hzA:Sf.zero.A = .agg [.str [],.int .i64 0,.sl 13 .no [],.sl 3 .no [],.sl 7 .no []]:=rfl
 have hz:∀ e:Int,le (.tup [.agg [.str [],.int .i64 0,.sl 0 .nil [],.sl 0 .nil [],.sl 0 .nil []],.int .i64 e]) (.tup [Sf.zero.A,.int .i64 e]):=fun e=>⟨⟨le1_refl _,le1_refl _,⟨rfl,.inr rfl,.inl rfl⟩,⟨rfl,.inr rfl,.inl rfl⟩,⟨rfl,.inr rfl,.inl rfl⟩,trivial⟩,rfl,trivial⟩
 by_cases hl:(s.length:Int) > 1048576
 ·rw [if_pos (by omega)] at hD
  refine run0 hl ?_
  exact ⟨_,hz _,by subst hD; rfl⟩
 rw [if_neg (by omega)] at hD
 refine run0 hl ?_
 refine use (a_hasPrefix s magic _) ?_
 by_cases hp:preB s=false
 ·rw [if_pos hp] at hD
  unfold preB at hp
  refine run0 hp ?_
  exact ⟨_,hz _,by subst hD; rfl⟩
 rw [if_neg hp] at hD
 have hp':(decide (magic.length≤s.length)&&s.take magic.length == magic)=true:=by unfold preB at hp; simpa using hp
 refine run0 hp' ?_
 refine use (a_csVerify s hlen _) ?_
 obtain ⟨⟨b,e⟩,hv⟩:∃ q,Crc.ver s=q:=⟨_,rfl⟩
 rw [hv] at hD hvl ⊢
 dsimp only at hD hvl ⊢
 by_cases he:e=0
 rotate_left
 ·have e1:(e != 0)=true:=by simp [he]
  rw [if_pos he] at hD
  refine run0 e1 ?_
  exact ⟨_,hz _,by subst hD; rfl⟩
 have e1:(e != 0)=false:=by simp [he]
 rw [if_neg (by simp [he])] at hD
 refine run0 e1 ?_
 refine use (a_version b (by omega) _) ?_
 have h12:=@versionS_12 b
 obtain ⟨⟨n,e2⟩,hn⟩:∃ q,versionS b=q:=⟨_,rfl⟩
 rw [hn] at hD h12 ⊢
 dsimp only at hD h12 ⊢
 by_cases he2:e2=0
 rotate_left
 ·have e3:(e2 != 0)=true:=by simp [he2]
  rw [if_pos he2] at hD
  refine run0 e3 ?_
  exact ⟨_,hz _,by subst hD; rfl⟩
 have e3:(e2 != 0)=false:=by simp [he2]
 rw [if_neg (by simp [he2])] at hD
 have hb4:4≤b.length:=by
  have hp4:preB b=true:=by
   rcases bool_or (preB b) with h1 | h1
   ·first | exact h1 | (exfalso; unfold versionS at hn; rw [if_pos h1] at hn; injection hn with _ hn; omega)
   ·first | exact h1 | (exfalso; unfold versionS at hn; rw [if_pos h1] at hn; injection hn with _ hn; omega)
  unfold preB at hp4
  have hml:magic.length=4:=rfl
  simp only [Bool.and_eq_true,decide_eq_true_eq,hml] at hp4
  exact hp4.1
 have hb5:(4:Int)≤(b.length:Int):=by omega
 refine run0 (ai e3 hb5) ?_
 refine use (a_newReader (b.drop 4) _) ?_
 refine run0 ti ?_
 refine use (a_number (i:=1) (r:=⟨b.drop 4,0⟩) rfl (by rw [List.length_drop]; omega)) ?_
 have hql:=Wire.numR_rest ⟨b.drop 4,0⟩
 obtain ⟨⟨q,qn⟩,hq⟩:∃ x,Wire.numR ⟨b.drop 4,0⟩=x:=⟨_,rfl⟩
 rw [hq] at hD hql ⊢
 dsimp only at hD hql ⊢
 rw [List.length_drop] at hql
 have cs:=liftD (a_rstate (h12 he2) ⟨q,false⟩ (by dsimp only; omega) [] []) rfl rfl (.cells 27 [.str [],.int .i64 0,.sl 0 .nil [],.sl 0 .nil [],.sl 0 .nil []]) [] []
 have hc:=hck n q (by omega)
 obtain ⟨⟨⟨r,bad⟩,st⟩,hs⟩:∃ x,Sf.stateS n ⟨q,false⟩=x:=⟨_,rfl⟩
 rw [hs] at cs hc hD
 unfold SCheck at hc
 unfold Sf.St.A at cs hc
 unfold RB at cs
 dsimp only at cs hc hD
 have cf:=liftD (a_rfails (ver:=n) ⟨r,bad⟩ [] []) rfl rfl (.cells 27 [.str [],.int .i64 0,.sl 0 .nil [],.sl 0 .nil [],.sl 0 .nil []]) [.cells 27 [.str st.lin,.int .i64 st.ser,.sl 13 .no (st.insts.map Sf.Inst.cells),.sl 3 .no (st.pends.map Sf.Pend.cells),.sl 7 .no (st.outs.map Sf.Outp.cells)]] []
 unfold RB at cf
 dsimp only at cf
 refine run0 ti ?_
 refine use cs ?_
 refine run0 ti ?_
 refine use cf ?_
 obtain ⟨F,hF⟩:∃ F,(⟨r,bad⟩:Sf.Rs).fails=F:=⟨_,rfl⟩
 rw [hF] at hD ⊢
 cases F
 rotate_left
 ·rw [if_pos (by simp only [Bool.true_or])] at hD
  refine run0 ti ?_
  exact ⟨_,hz _,by subst hD; rfl⟩
 simp only [Bool.false_or] at hD
 refine run0 ti ?_
 refine use (a_left (i:=1) (r:=r) rfl) ?_
 by_cases hL:(r.rest.length:Int) > 0
 ·rw [decide_eq_true (show 0 < r.rest.length by omega),if_pos (by simp only [Bool.true_or])] at hD
  refine run0 hL ?_
  exact ⟨_,hz _,by subst hD; rfl⟩
 have hL2:decide (0 < r.rest.length)=false:=decide_eq_false (by omega)
 simp only [hL2,Bool.false_or] at hD
 refine run0 hL ?_
 refine use (hc _) ?_
 by_cases hk:Sf.checkZ st=0
 ·have e4:(Sf.checkZ st != 0)=false:=by simp [hk]
  rw [if_neg (by simp [e4])] at hD
  refine run0 e4 ?_
  exact ⟨_,le_refl _,by subst hD; rfl⟩
 ·have e4:(Sf.checkZ st != 0)=true:=by simp [hk]
  rw [if_pos e4] at hD
  refine run0 e4 ?_
  exact ⟨_,hz _,by subst hD; rfl⟩
end AX
end Go.Proofs.YtahmpiioegemaaaGreatDoor
