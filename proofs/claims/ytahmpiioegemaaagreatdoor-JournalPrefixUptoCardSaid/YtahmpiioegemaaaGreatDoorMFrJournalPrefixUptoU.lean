/- Part of what the proof needs. -/
import Derived.Test.YtahmpiioegemaaaGreatDoorMFrJournalPrefixUptoF
import Derived.Test.YtahmpiioegemaaaGreatDoorMFrJournalPrefixUptoM
import Derived.Test.YtahmpiioegemaaaGreatDoorMFrJournalPrefixUptoN
import Derived.Test.YtahmpiioegemaaaGreatDoorMFrJournalPrefixUptoO
import Derived.Test.YtahmpiioegemaaaGreatDoorMFrJournalPrefixUptoP
import Derived.Test.YtahmpiioegemaaaGreatDoorMFrJournalPrefixUptoQ
import Derived.Test.YtahmpiioegemaaaGreatDoorMFrJournalPrefixUptoR
import Derived.Test.YtahmpiioegemaaaGreatDoorMFrJournalPrefixUptoS
import Derived.Test.YtahmpiioegemaaaGreatDoorMFrJournalPrefixUptoT
set_option maxHeartbeats 4000000
set_option linter.unusedSimpArgs false
set_option linter.unusedVariables false
set_option linter.unnecessarySimpa false
namespace Go.Proofs.YtahmpiioegemaaaGreatDoor
open Go.RowKit
namespace AX
def firstA (b:List UInt8):A:=
 match Jr.firstJ b with
 | some (x,n) => .tup [.agg x.cells,.int .i64 (n:Nat),.bool true]
 | none => .tup [.agg Jr.zeroR.cells,.int .i64 0,.bool false]
theorem le3_tup {xs ys:List A} {n:Int} {b:Bool} (h:leL xs ys):le (.tup [.agg xs,.int .i64 n,.bool b]) (.tup [.agg ys,.int .i64 n,.bool b]):=⟨h,le2_refl _,le2_refl _,trivial⟩
theorem firstA_pure (b:List UInt8):(firstA b).pure=true:=by
 have key:∀ (r:Jr) (n:Int) (c:Bool),(A.tup [.agg r.cells,.int .i64 n,.bool c]).pure=true:=fun r n c=>by
  obtain ⟨kd,⟨lin,ser,ins,ps,os⟩,st,op,ad,dp,ty,tk,er,⟨a1,a2,a3,a4,⟨k,nn,ss,is,ks⟩,v,tn,fi,ds⟩⟩:=r
  simp [A.pure,A.data,Jr.cells,Sf.Inst.cells]
 unfold firstA
 split <;> exact key _ _ _
theorem a_jfirst (b:List UInt8) (hl:b.length≤2000000) (cE:∀ x,Jr.recJ (Sf.strS (Sf.rd b)).2=(x,true)→∀ h,ACall Tryz.prog GT 10 [.agg x.cells] h fun v h'=>v = .tup [.str (Jr.enc x).1,.int .i64 (Jr.enc x).2]∧h'=h) (h:Hp) :
  ACall Tryz.prog GT 39 [.str b] h fun v h'=>v=firstA b∧h'=h:=by
 refine pcall ?_ (firstA_pure b) (by simp [A.pure,A.data]) h
 refine fo ?_
 have hz:=le_z 0 0 0 [] [] [] []
 have none_:Jr.firstJ b=none→firstA b = .tup [.agg Jr.zeroR.cells,.int .i64 0,.bool false]:=fun e=>by unfold firstA; rw [e]
 by_cases hb:b=[]
 ·subst hb
  rw [none_ rfl]
  refine runc0 ti ti ?_
  exact ⟨_,le3_tup hz,rfl⟩
 have e0:(b == [])=false:=by simp [hb]
 have l1:=Wire.strR_rest ⟨b,0⟩
 have lt:=Sf.strS_len (Sf.rd b)
 have hF:Jr.firstJ b=(let s:=Sf.strS (Sf.rd b); let n:=b.length - s.1.r.rest.length+4; if s.1.r.e≠0∨b.length < n∨1048576 < n then none else let x:=Jr.recJ s.2; if x.2=false then none else if (Jr.enc x.1).2≠0∨(Jr.enc x.1).1≠b.take n then none else some (x.1,n)):=by
  conv=>lhs; unfold Jr.firstJ
  rw [if_neg hb]
 obtain ⟨⟨r1,t⟩,h1⟩:∃ q,Wire.strR ⟨b,0⟩=q:=⟨_,rfl⟩
 have hS:Sf.strS (Sf.rd b)=(⟨r1,false⟩,t):=by unfold Sf.strS Sf.rd; rw [h1]
 rw [hS] at hF lt cE
 have cs:=a_rstring (i:=1) (r:=⟨b,0⟩) (h:=⟨[.cells 38 [.int .i64 0,.str [],.int .i64 0,.sl 0 .nil [],.sl 0 .nil [],.sl 0 .nil [],.int .i64 0,.int .i64 0,.str [],.str [],.str [],.str [],.int .i64 0,.str [],.str [],.str [],.str [],.int .i64 0,.int .i64 0,.str [],.sl 0 .nil [],.sl 0 .nil [],.int .i64 0,.bool false,.bool false,.sl 0 .nil []],rdr ⟨b,0⟩],[]⟩) rfl (by dsimp only; omega)
 rw [h1] at cs l1
 dsimp only at hF lt cE cs l1
 have lt':t.length≤b.length:=lt
 have cr:=a_jrecord t (by omega)
 obtain ⟨n,hn⟩:∃ n,b.length - r1.rest.length+4=n:=⟨_,rfl⟩
 rw [hn] at hF
 have w1:IntKind.i64.wrap ((b.length:Int) - (r1.rest.length:Int))=(b.length:Int) - (r1.rest.length:Int):=wrap64 (by omega) (by omega)
 have w2:IntKind.i64.wrap ((b.length:Int) - (r1.rest.length:Int)+4)=(n:Int):=by rw [wrap64 (by omega) (by omega)]; omega
 refine runc0 e0 (ai (a_newReader b) ti) ?_
 refine use cs ?_
 refine run0 ti ?_
 refine use (a_left (i:=1) (r:=r1) rfl) ?_
 refine run0 (ai w1 w2) ?_
 refine use (a_err (i:=1) (r:=r1) rfl) ?_
 by_cases g1:r1.e≠0
 ·have q1:(r1.e != 0)=true:=by simp [g1]
  rw [none_ (by rw [hF,if_pos (.inl g1)])]
  refine run0 q1 ?_
  exact ⟨_,le3_tup hz,rfl⟩
 have q1:(r1.e != 0)=false:=by simpa using g1
 by_cases g2:b.length < n
 ·have q2:(n:Int) > (b.length:Int):=by omega
  rw [none_ (by rw [hF,if_pos (.inr (.inl g2))])]
  refine run0 (ai q1 q2) ?_
  exact ⟨_,le3_tup hz,rfl⟩
 have q2:¬ (n:Int) > (b.length:Int):=by omega
 by_cases g3:1048576 < n
 ·have q3:(n:Int) > 1048576:=by omega
  rw [none_ (by rw [hF,if_pos (.inr (.inr g3))])]
  refine run0 (ai q1 (ai q2 q3)) ?_
  exact ⟨_,le3_tup hz,rfl⟩
 have q3:¬ (n:Int) > 1048576:=by omega
 rw [if_neg (by rintro (e | e | e); exact g1 e; exact g2 e; exact g3 e)] at hF
 obtain ⟨⟨x,ok⟩,hx⟩:∃ q,Jr.recJ t=q:=⟨_,rfl⟩
 rw [hx] at hF cE cr
 dsimp only at hF cE cr
 cases ok with
 | false =>
  rw [if_pos rfl] at hF
  rw [none_ hF]
  obtain ⟨kd,⟨lin,ser,ins,ps,os⟩,st,op,ad,dp,ty,tk,er,⟨a1,a2,a3,a4,⟨k,nn,ss,is,ks⟩,v,tn,fi,ds⟩⟩:=x
  simp only [Jr.cells,Sf.Inst.cells,List.cons_append,List.nil_append] at cr
  refine runc0 (ai q1 (ai q2 q3)) (ai cr ti) ?_
  exact ⟨_,le3_tup hz,rfl⟩
 | true =>
  rw [if_neg (by decide)] at hF
  have ce:=cE x rfl
  obtain ⟨⟨R,E⟩,hE⟩:∃ q,Jr.enc x=q:=⟨_,rfl⟩
  rw [hE] at hF ce
  dsimp only at hF ce
  have hsome:¬(E≠0∨R≠b.take n)→firstA b = .tup [.agg x.cells,.int .i64 (n:Nat),.bool true]:=fun e=>by unfold firstA; rw [hF,if_neg e]
  have hnone:(E≠0∨R≠b.take n)→firstA b = .tup [.agg Jr.zeroR.cells,.int .i64 0,.bool false]:=fun e=>none_ (by rw [hF,if_pos e])
  clear hF cE hE hx
  obtain ⟨kd,⟨lin,ser,ins,ps,os⟩,st,op,ad,dp,ty,tk,er,⟨a1,a2,a3,a4,⟨k,nn,ss,is,ks⟩,v,tn,fi,ds⟩⟩:=x
  simp only [Jr.cells,Sf.Inst.cells,List.cons_append,List.nil_append] at cr ce hsome
  by_cases g4:E≠0
  ·have q4:(E != 0)=true:=by simp [g4]
   rw [hnone (.inl g4)]
   refine runc0 (ai q1 (ai q2 (ai q3 q4))) (ai cr (ai ce ti)) ?_
   exact ⟨_,le3_tup hz,rfl⟩
  have q4:(E != 0)=false:=by simpa using g4
  have hsl:(0:Int)≤(n:Int)∧(n:Int)≤(b.length:Int):=by omega
  by_cases g5:R≠b.take n
  ·have q5:(R != b.take n)=true:=by simp [g5]
   rw [hnone (.inr g5)]
   refine runc0 (ai q1 (ai q2 (ai q3 (ai q4 (ai q5 hsl))))) (ai cr (ai ce ti)) ?_
   exact ⟨_,le3_tup hz,rfl⟩
  have q5:(R != b.take n)=false:=by simpa using g5
  rw [hsome (by rintro (e | e); exact g4 e; exact g5 e)]
  refine runc0 (ai q1 (ai q2 (ai q3 (ai q4 (ai q5 hsl))))) (ai cr (ai ce ti)) ?_
  exact ⟨_,le_refl _,rfl⟩
end AX
namespace Jr
def appE (l:List UInt8) (r:Jr):List UInt8×Int:=
 if (enc r).2≠0 then (l,(enc r).2) else if 1048576 < l.length+(enc r).1.length then (l,3) else (l++(enc r).1,0)
end Jr
namespace AX
def c_jlappend:AX.AFn:=⟨30,aS [aR 3 (.box 38 (.t 1)),aR 4 (.mv (aI 0))] (.seq (aS [aM 7 0,aR 8 (.eq 1 [] false (.t 7) (.c (.nilp)))] (.cond (.t 8) (aS [aR 4 (.mv (aI 38))] (.ret)) (.skip))) (aS [aR 10 (.load true 26 (.t 3)),aR 11 (.call 10 [.t 10]),aM 9 11,aE 12 9 0,aE 13 9 1,aM 5 12,aM 6 13] (.seq (aS [aM 14 6,aR 15 (.bin .neq (.t 14) (aI 0))] (.cond (.t 15) (aS [aM 16 6,aM 4 16] (.ret)) (.skip))) (.seq (aS [aM 17 0,aR 18 (.nilck (.t 17)),aF 19 0 18,aR 20 (.call 42 [.t 19]),aM 21 5,aR 22 (.len true (.t 21)),aR 23 (.bin .add (.t 20) (.t 22)),aR 24 (.bin .gtr (.t 23) (aI 1048576))] (.cond (.t 24) (aS [aR 4 (.mv (aI 3))] (.ret)) (.skip))) (aS [aM 25 0,aR 26 (.nilck (.t 25)),aF 27 0 26,aM 28 5,aR 29 (.call 43 [.t 27,.t 28])] (aS [aR 4 (.mv (aI 0))] (.ret))))))),[.t 4]⟩
theorem h_jlappend:AX.compFn Tryz.prog 18=some c_jlappend:=by kernel_rfl
def lgB (l:List UInt8):Blk:=if l=[] then .cells 88 [.nilp,.sl 0 .nil []] else lwt l
theorem lgB_loc (l:List UInt8):(lgB l).loc 0:=by
 unfold lgB
 split
 ·rfl
 ·intro o x h
  cases h
theorem lgB_lt {h:Hp} {i:Nat} {l:List UInt8} (hb:h.b[i]?=some (lgB l)):Lt h i l:=by
 unfold lgB at hb
 split at hb
 ·next e=>exact .inr ⟨e,hb⟩
 ·exact .inl hb
theorem jenc_ne {r:Jr} (h:(Jr.enc r).2=0):(Jr.enc r).1≠[]:=by
 rw [(Jr.enc_ok h).2.1]
 intro e
 have:=congrArg List.length e
 simp [Crc.app,Crc.four_length] at this
theorem a_jlappend {h:Hp} {i:Nat} {l:List UInt8} (hbx:h.b[i]?=some (lgB l)) (hl:l.length≤1048576) (r:Jr) (he:(Jr.enc r).1.length≤1048576) (cE:∀ h,ACall Tryz.prog GT 10 [.agg r.cells] h fun v h'=>v = .tup [.str (Jr.enc r).1,.int .i64 (Jr.enc r).2]∧h'=h) :
  ACall Tryz.prog GT 18 [.ptr i 0,.agg r.cells] h fun v h'=>v = .int .i64 (Jr.appE l r).2∧h'.b[i]?=some (lgB (Jr.appE l r).1)∧h.b.length≤h'.b.length∧(∀ j x,j≠i→h.b[j]?=some x→h'.b[j]?=some x)∧h'.t=h.t:=by
 have hw:=lgB_lt hbx
 have hR:=jenc_ne (r:=r)
 have hi:=hw.lt
 have lt2:∀ m:List Blk,Lt ⟨h.b++m,h.t⟩ i l:=fun m=>by
  rcases hw with h1 | ⟨h0,h1⟩
  ·exact .inl (get_app7 h1)
  ·exact .inr ⟨h0,get_app7 h1⟩
 refine acall_of mixedT h_jlappend (by simp [c_jlappend]) ?_
 dsimp only [c_jlappend]
 obtain ⟨⟨R,E⟩,hE⟩:∃ q,Jr.enc r=q:=⟨_,rfl⟩
 have hA:Jr.appE l r=if E≠0 then (l,E) else if 1048576 < l.length+R.length then (l,3) else (l++R,0):=by unfold Jr.appE; rw [hE]
 rw [hA]
 rw [hE] at cE he hR
 dsimp only at cE he hR
 clear hA hE
 obtain ⟨kd,⟨lin,ser,ins,ps,os⟩,st,op,ad,dp,ty,tk,er,⟨a1,a2,a3,a4,⟨k,nn,ss,is,ks⟩,v,tn,fi,ds⟩⟩:=r
 simp only [Jr.cells,Sf.Inst.cells,List.cons_append,List.nil_append] at cE ⊢
 have fin:∀ m:List Blk,h.b.length≤(h.b++m).length∧(∀ j x,j≠i→h.b[j]?=some x→(h.b++m)[j]?=some x):=fun m=>⟨by simp,fun j x _ hx=>get_app7 hx⟩
 refine run0 ti ?_
 refine use (cE _) ?_
 by_cases e:E≠0
 ·have q:(E != 0)=true:=by simp [e]
  rw [if_pos e]
  refine run0 q ?_
  exact ⟨_,le_refl _,rfl,get_app7 hbx,(fin _).1,(fin _).2,rfl⟩
 have q:(E != 0)=false:=by simpa using e
 rw [if_neg e]
 refine run0 q ?_
 refine use (a_llen (lt2 _)) ?_
 have w1:IntKind.i64.wrap ((l.length:Int)+(R.length:Int))=(l.length:Int)+(R.length:Int):=wrap64 (by omega) (by omega)
 by_cases g:1048576 < l.length+R.length
 ·have g':(1048576:Int) < (l.length:Int)+(R.length:Int):=by omega
  rw [if_pos g]
  refine run0 (ai w1 g') ?_
  exact ⟨_,le_refl _,rfl,get_app7 hbx,(fin _).1,(fin _).2,rfl⟩
 have g':¬ ((1048576:Int) < (l.length:Int)+(R.length:Int)):=by omega
 rw [if_neg g]
 refine run0 (ai w1 g') ?_
 refine use (a_lwrite (lt2 _) R (by omega)) ?_
 refine run0 ti ?_
 have e4:lgB (l++R)=lwt (l++R):=if_neg (by
  intro e'
  exact hR (by simpa using e) (List.append_eq_nil_iff.1 e').2)
 rw [e4]
 refine ⟨_,le_refl _,rfl,by rw [List.getElem?_set_self (by simp; omega)],by simp,fun j x hj hx=>?_,rfl⟩
 rw [List.getElem?_set_ne (fun e=>hj e.symm)]
 exact get_app7 hx
theorem ACall.lift1x {P:Program} {G:World→Prop} {f:FuncId} {x x':A} {args:List A} {b:Blk} {i:Nat} {Q0:A→Blk→Prop} (hx:x.loc 1=true) (hx':x.ren (fun _=>i)=x') (hc:ACall P G f (x::args) ⟨[b],[]⟩ fun v h'=>∃ b',h'.b[0]?=some b'∧Q0 v b')
  (ha:A.locL 0 args=true) (hb:b.loc 0) (hq:∀ v b',Q0 v b'→v.loc 0=true∧b'.loc 0) {h:Hp} (hh:h.b[i]?=some b) :
  ACall P G f (x'::args) h fun v h'=>∃ b',Q0 v b'∧h'=⟨h.b.set i b',h.t⟩:=by
 have key:=ACall.lift hc (fun _=>i) (fun a b ha hb _=>by simp at ha hb; omega) (by unfold A.locL; rw [(A.locL0 _ args ha).1]; simp only [List.length_singleton,hx,Bool.and_self]) (fun x hx=>by simp at hx; subst hx; exact (Blk.loc0 _ _ hb).1)
  (fun v h' ⟨b',h1,h2⟩=>⟨(A.loc0 _ v (hq v b' h2).1).1,fun j x hj hx=>by
   have:j=0:=by simpa using hj
   subst this
   rw [h1] at hx; injection hx with hx; subst hx
   exact (Blk.loc0 _ _ (hq v b' h2).2).1⟩) (h:=h) (fun j hj=>by
   have:j=0:=by simpa using hj
   subst this
   rw [hh]; show some b=some (b.ren _); rw [(Blk.loc0 0 _ hb).2])
 have e:A.renL (fun _=>i) (x::args)=x'::args:=by unfold A.renL; rw [(A.locL0 0 args ha).2,hx']
 rw [e] at key
 refine key.mono ?_
 rintro v h' ⟨v0,h0,⟨b',h1,h2⟩,rfl,rfl⟩
 obtain ⟨k1,k2⟩:=hq v0 b' h2
 refine ⟨b',by rw [(A.loc0 0 v0 k1).2]; exact h2,?_⟩
 have:h0.b.take [b].length=[b']:=by
  obtain ⟨_ | ⟨x,l⟩,t0⟩:=h0
  ·simp at h1
  ·simp at h1; subst h1; simp
 rw [this]
 show (⟨setAll _ h.b 0 [b'],h.t⟩:Hp)=_
 unfold setAll setAll
 rw [(Blk.loc0 0 _ k2).2]
def jwB (s:List UInt8):Blk:=.cells 71 [.str s]
theorem jwB_loc (s:List UInt8):(jwB s).loc 0:=rfl
section
variable {f:FuncId} {x x':A} {args:List A} {s s':List UInt8} {h:Hp} {i:Nat}
theorem liftJ (hx:x.loc 1=true) (hx':x.ren (fun _=>i)=x') (hc:ACall Tryz.prog GT f (x::args) ⟨[jwB s],[]⟩ fun v h'=>v = .tup []∧h'.b[0]?=some (jwB s')) (ha:A.locL 0 args=true) (hb:h.b[i]?=some (jwB s)) :
  ACall Tryz.prog GT f (x'::args) h fun v h'=>v = .tup []∧h'=⟨h.b.set i (jwB s'),h.t⟩:=by
 refine (ACall.lift1x (Q0:=fun v b'=>v = .tup []∧b'=jwB s') hx hx' (hc.mono fun v h' ⟨e,hp⟩=>⟨_,hp,e,rfl⟩) ha (jwB_loc s) ?_ hb).mono ?_
 ·rintro v b' ⟨rfl,rfl⟩
  exact ⟨rfl,jwB_loc s'⟩
 ·rintro v h' ⟨b',⟨rfl,rfl⟩,rfl⟩
  exact ⟨rfl,rfl⟩
end
def c_wappS:AX.AFn:=⟨11,aS [aR 4 (.mv (.c (.str [])))] (aS [aM 5 0,aM 6 1,aR 7 (.len true (.t 6)),aR 8 (.call 57 [.t 5,.t 7]),aM 9 1,aR 10 (.bin .add (.t 8) (.t 9)),aM 4 10] (.ret)),[.t 4]⟩
theorem h_wappS:AX.compFn Tryz.prog 34=some c_wappS:=by kernel_rfl
def c_jwnum:AX.AFn:=⟨13,.reg false [aM 4 0,aM 5 0,aR 6 (.nilck (.t 5)),aF 7 0 6,aL 8 7,aM 9 1,aR 10 (.call 57 [.t 8,.t 9]),aR 11 (.nilck (.t 4)),aF 12 0 11,aU (.store 1 (.t 12) (.t 10))],[]⟩
theorem h_jwnum:AX.compFn Tryz.prog 28=some c_jwnum:=by kernel_rfl
def c_jwtext:AX.AFn:=⟨13,.reg false [aM 4 0,aM 5 0,aR 6 (.nilck (.t 5)),aF 7 0 6,aL 8 7,aM 9 1,aR 10 (.call 34 [.t 8,.t 9]),aR 11 (.nilck (.t 4)),aF 12 0 11,aU (.store 1 (.t 12) (.t 10))],[]⟩
theorem h_jwtext:AX.compFn Tryz.prog 30=some c_jwtext:=by kernel_rfl
def c_jwflag:AX.AFn:=⟨9,aS [aR 4 (.mv (aI 0))] (.seq (aS [aM 5 1] (.cond (.t 5) (.reg false [aR 4 (.mv (aI 1))]) (.skip))) (.reg false [aM 6 0,aM 7 4,aR 8 (.call 28 [.t 6,.t 7])])),[]⟩
theorem h_jwflag:AX.compFn Tryz.prog 63=some c_jwflag:=by kernel_rfl
def c_jeachi:AX.AFn:=⟨16,aS [aM 6 1,aR 7 (.len false (.t 6)),aR 8 (.mv (aI 0))] (.block 0 (.loop (aS [aR 9 (.bin .lss (.t 8) (.t 7))] (.seq (.cond (.t 9) (.skip) (.exit 0)) (.seq (.block 1 (aS [aR 10 (.iaddr 1 (.t 6) (.t 8)),aL 11 10,aM 5 11] (.reg false [aM 12 0,aM 13 5,aR 14 (.callv (.t 12) [.t 13])]))) (.reg false [aR 15 (.bin .add (.t 8) (aI 1)),aM 8 15])))))),[]⟩
theorem h_jeachi:AX.compFn Tryz.prog 59=some c_jeachi:=by kernel_rfl
def c_jeachs:AX.AFn:=⟨16,aS [aM 6 1,aR 7 (.len false (.t 6)),aR 8 (.mv (aI 0))] (.block 0 (.loop (aS [aR 9 (.bin .lss (.t 8) (.t 7))] (.seq (.cond (.t 9) (.skip) (.exit 0)) (.seq (.block 1 (aS [aR 10 (.iaddr 1 (.t 6) (.t 8)),aL 11 10,aM 5 11] (.reg false [aM 12 0,aM 13 5,aR 14 (.callv (.t 12) [.t 13])]))) (.reg false [aR 15 (.bin .add (.t 8) (aI 1)),aM 8 15])))))),[]⟩
theorem h_jeachs:AX.compFn Tryz.prog 60=some c_jeachs:=by kernel_rfl
def c_jeachb:AX.AFn:=⟨16,aS [aM 6 1,aR 7 (.len false (.t 6)),aR 8 (.mv (aI 0))] (.block 0 (.loop (aS [aR 9 (.bin .lss (.t 8) (.t 7))] (.seq (.cond (.t 9) (.skip) (.exit 0)) (.seq (.block 1 (aS [aR 10 (.iaddr 1 (.t 6) (.t 8)),aL 11 10,aM 5 11] (.reg false [aM 12 0,aM 13 5,aR 14 (.callv (.t 12) [.t 13])]))) (.reg false [aR 15 (.bin .add (.t 8) (aI 1)),aM 8 15])))))),[]⟩
theorem h_jeachb:AX.compFn Tryz.prog 62=some c_jeachb:=by kernel_rfl
theorem a_jwnum (s:List UInt8) (n:Int) (hs:s.length≤1000000000) (h0:-9223372036854775808≤n) (h1:n≤9223372036854775807) {h:Hp} {i:Nat} (hb:h.b[i]?=some (jwB s)) :
  ACall Tryz.prog GT 28 [.ptr i 0,.int .i64 n] h fun v h'=>v = .tup []∧h'=⟨h.b.set i (jwB (s++Wire.num n)),h.t⟩:=by
 refine liftJ (x:=.ptr 0 0) rfl rfl ?_ rfl hb
 have c:=a_appendNumber s n hs h0 h1
 refine acall_of mixedT h_jwnum (by simp [c_jwnum]) ?_
 dsimp only [c_jwnum]
 unfold jwB
 refine runc0 ti (ai c ti) ?_
 exact ⟨_,le_refl _,rfl,rfl⟩
theorem a_appS (dst s:List UInt8) (hlen:dst.length+s.length+10≤1000000000) (h:Hp):ACall Tryz.prog GT 34 [.str dst,.str s] h fun r h'=>r = .str (dst++Wire.strE s)∧h'=h:=by
 refine pcall ?_ rfl (by simp [A.pure,A.data]) h
 have c:=a_appendNumber dst s.length (by omega) (by omega) (by omega)
 refine acall_of mixedT h_wappS (by simp [c_wappS]) ?_
 dsimp only [c_wappS]
 have hn:(Wire.num s.length).length≤10:=(Wire.encF_len 9 (Wire.zig s.length)).2
 have hsum:dst.length+(Wire.num s.length).length+s.length < 1099511627776:=by omega
 refine runc0 hsum (ai c ti) ?_
 exact ⟨_,le_refl _,by rw [tupA_1,Wire.strE,List.append_assoc]⟩
theorem a_jwtext (s t:List UInt8) (hs:s.length+t.length+10≤1000000000) {h:Hp} {i:Nat} (hb:h.b[i]?=some (jwB s)) :
  ACall Tryz.prog GT 30 [.ptr i 0,.str t] h fun v h'=>v = .tup []∧h'=⟨h.b.set i (jwB (s++Wire.strE t)),h.t⟩:=by
 refine liftJ (x:=.ptr 0 0) rfl rfl ?_ rfl hb
 have c:=a_appS s t hs
 refine acall_of mixedT h_jwtext (by simp [c_jwtext]) ?_
 dsimp only [c_jwtext]
 unfold jwB
 refine runc0 ti (ai c ti) ?_
 exact ⟨_,le_refl _,rfl,rfl⟩
def flagN (b:Bool):Int:=if b=true then 1 else 0
theorem a_jwflag (s:List UInt8) (b:Bool) (hs:s.length≤1000000000) {h:Hp} {i:Nat} (hb:h.b[i]?=some (jwB s)) :
  ACall Tryz.prog GT 63 [.ptr i 0,.bool b] h fun v h'=>v = .tup []∧h'=⟨h.b.set i (jwB (s++Wire.num (flagN b))),h.t⟩:=by
 refine liftJ (x:=.ptr 0 0) rfl rfl ?_ rfl hb
 have c1:=a_jwnum s 1 hs (by omega) (by omega) (h:=⟨[jwB s],[]⟩) (i:=0) rfl
 have c0:=a_jwnum s 0 hs (by omega) (by omega) (h:=⟨[jwB s],[]⟩) (i:=0) rfl
 refine acall_of mixedT h_jwflag (by simp [c_jwflag]) ?_
 dsimp only [c_jwflag]
 cases b
 ·refine run0 ti ?_
  refine use c0 ?_
  refine run0 ti ?_
  exact ⟨_,le_refl _,rfl,rfl⟩
 ·refine run0 ti ?_
  refine use c1 ?_
  refine run0 ti ?_
  exact ⟨_,le_refl _,rfl,rfl⟩
theorem a_jeachs (s:List UInt8) (l:List (List UInt8)) (hs:s.length+(l.flatMap Wire.strE).length+10≤1000000000) (hn:l.length≤1000000000) {h:Hp} {i:Nat} (hb:h.b[i]?=some (jwB s)) :
  ACall Tryz.prog GT 60 [.fn (30+1000000) [.ptr i 0],.sl 1 .no (l.map fun x=>[A.str x])] h fun v h'=>v = .tup []∧h'=⟨h.b.set i (jwB (s++l.flatMap Wire.strE)),h.t⟩:=by
 refine liftJ (x:=.fn (30+1000000) [.ptr 0 0]) rfl rfl ?_ rfl hb
 have li:(l.map fun x=>[A.str x]).length=l.length:=List.length_map _
 refine acall_of mixedT h_jeachs (by simp [c_jeachs]) ?_
 dsimp only [c_jeachs]
 refine run0 li ?_
 refine awp_loop (fun m ts hh=>∃ j:Nat,m=l.length - j∧j≤l.length∧hh=⟨[jwB (s++(l.take j).flatMap Wire.strE)],[]⟩∧(ts 0 = .fn (30+1000000) [.ptr 0 0]∧ts 6 = .sl 1 .no (l.map fun x=>[A.str x])∧ts 7 = .int .i64 (l.length:Nat)∧ts 8 = .int .i64 (j:Nat))) l.length ?_ ?_
 ·exact ⟨0,rfl,Nat.zero_le _,by simp,by (exact inv0 li)⟩
 rintro m ts hh ⟨j,rfl,hj,rfl,ht⟩
 rcases Nat.lt_or_ge j l.length with hlt | hge
 ·have hf:(l.map fun x=>[A.str x]).length=l.length∧(j:Int) < (l.length:Int)∧(0:Int)≤(j:Int)∧(l.map fun x=>[A.str x]).getD j []=(fun x=>[A.str x]) l[j]∧IntKind.i64.wrap ((j:Int)+1)=((j+1:Nat):Int):=
   ⟨li,by omega,by omega,by simp [List.getD,hlt],by rw [wrap64 (by omega) (by omega)]; omega⟩
  have e:l.take (j+1)=l.take j++[l[j]]:=(List.take_append_getElem hlt).symm
  have e2:(l.take (j+1)).flatMap Wire.strE=(l.take j).flatMap Wire.strE++(Wire.strE) l[j]:=by rw [e,List.flatMap_append]; simp
  have hle:((l.take (j+1)).flatMap Wire.strE).length≤(l.flatMap Wire.strE).length:=by
   conv=>rhs; rw [←List.take_append_drop (j+1) l]
   rw [List.flatMap_append,List.length_append]
   omega
  have hm:=List.getElem_mem hlt
  have hx:l[j].length≤(Wire.strE l[j]).length:=by unfold Wire.strE; rw [List.length_append]; omega
  have c:=a_jwtext (s++(l.take j).flatMap Wire.strE) l[j] (by rw [List.length_append]; rw [e2,List.length_append] at hle; omega) (h:=⟨[jwB (s++(l.take j).flatMap Wire.strE)],[]⟩) (i:=0) rfl
  have e3:s++(l.take j).flatMap Wire.strE++(Wire.strE) l[j]=s++(l.take (j+1)).flatMap Wire.strE:=by rw [List.append_assoc,←e2]
  replace e3:_:=congrArg jwB e3
  rw [e3] at c
  obtain ⟨x,hx'⟩:∃ x,l[j]=x:=⟨_,rfl⟩
  rw [hx'] at hf c
  dsimp only at hf
  refine run0 (ai ht hf) ?_
  refine use c ?_
  refine run0 (ai ht hf) ?_
  exact ⟨_,by omega,j+1,rfl,by omega,rfl,by (exact inv0 (ai ht hf))⟩
 ·have hf:¬ (j:Int) < (l.length:Int):=by omega
  rw [List.take_of_length_le hge]
  refine run0 (ai ht hf) ?_
  exact ⟨_,le_refl _,rfl,rfl⟩
theorem a_jeachi (s:List UInt8) (l:List Int) (hb0:∀ x∈l,-9223372036854775808≤x∧x≤9223372036854775807) (hs:s.length+(l.flatMap Wire.num).length+10≤1000000000) (hn:l.length≤1000000000) {h:Hp} {i:Nat} (hb:h.b[i]?=some (jwB s)) :
  ACall Tryz.prog GT 59 [.fn (28+1000000) [.ptr i 0],.sl 1 .no (l.map fun x=>[A.int .i64 x])] h fun v h'=>v = .tup []∧h'=⟨h.b.set i (jwB (s++l.flatMap Wire.num)),h.t⟩:=by
 refine liftJ (x:=.fn (28+1000000) [.ptr 0 0]) rfl rfl ?_ rfl hb
 have li:(l.map fun x=>[A.int .i64 x]).length=l.length:=List.length_map _
 refine acall_of mixedT h_jeachi (by simp [c_jeachi]) ?_
 dsimp only [c_jeachi]
 refine run0 li ?_
 refine awp_loop (fun m ts hh=>∃ j:Nat,m=l.length - j∧j≤l.length∧hh=⟨[jwB (s++(l.take j).flatMap Wire.num)],[]⟩∧(ts 0 = .fn (28+1000000) [.ptr 0 0]∧ts 6 = .sl 1 .no (l.map fun x=>[A.int .i64 x])∧ts 7 = .int .i64 (l.length:Nat)∧ts 8 = .int .i64 (j:Nat))) l.length ?_ ?_
 ·exact ⟨0,rfl,Nat.zero_le _,by simp,by (exact inv0 li)⟩
 rintro m ts hh ⟨j,rfl,hj,rfl,ht⟩
 rcases Nat.lt_or_ge j l.length with hlt | hge
 ·have hf:(l.map fun x=>[A.int .i64 x]).length=l.length∧(j:Int) < (l.length:Int)∧(0:Int)≤(j:Int)∧(l.map fun x=>[A.int .i64 x]).getD j []=(fun x=>[A.int .i64 x]) l[j]∧IntKind.i64.wrap ((j:Int)+1)=((j+1:Nat):Int):=
   ⟨li,by omega,by omega,by simp [List.getD,hlt],by rw [wrap64 (by omega) (by omega)]; omega⟩
  have e:l.take (j+1)=l.take j++[l[j]]:=(List.take_append_getElem hlt).symm
  have e2:(l.take (j+1)).flatMap Wire.num=(l.take j).flatMap Wire.num++(Wire.num) l[j]:=by rw [e,List.flatMap_append]; simp
  have hle:((l.take (j+1)).flatMap Wire.num).length≤(l.flatMap Wire.num).length:=by
   conv=>rhs; rw [←List.take_append_drop (j+1) l]
   rw [List.flatMap_append,List.length_append]
   omega
  have hm:=List.getElem_mem hlt
  skip
  have c:=a_jwnum (s++(l.take j).flatMap Wire.num) l[j] (by rw [List.length_append]; rw [e2,List.length_append] at hle; omega) (hb0 _ hm).1 (hb0 _ hm).2 (h:=⟨[jwB (s++(l.take j).flatMap Wire.num)],[]⟩) (i:=0) rfl
  have e3:s++(l.take j).flatMap Wire.num++(Wire.num) l[j]=s++(l.take (j+1)).flatMap Wire.num:=by rw [List.append_assoc,←e2]
  replace e3:_:=congrArg jwB e3
  rw [e3] at c
  obtain ⟨x,hx'⟩:∃ x,l[j]=x:=⟨_,rfl⟩
  rw [hx'] at hf c
  dsimp only at hf
  refine run0 (ai ht hf) ?_
  refine use c ?_
  refine run0 (ai ht hf) ?_
  exact ⟨_,by omega,j+1,rfl,by omega,rfl,by (exact inv0 (ai ht hf))⟩
 ·have hf:¬ (j:Int) < (l.length:Int):=by omega
  rw [List.take_of_length_le hge]
  refine run0 (ai ht hf) ?_
  exact ⟨_,le_refl _,rfl,rfl⟩
theorem a_jeachb (s:List UInt8) (l:List Bool) (hs:s.length+(l.flatMap (fun b=>Wire.num (flagN b))).length+10≤1000000000) (hn:l.length≤1000000000) {h:Hp} {i:Nat} (hb:h.b[i]?=some (jwB s)) :
  ACall Tryz.prog GT 62 [.fn (63+1000000) [.ptr i 0],.sl 1 .no (l.map fun x=>[A.bool x])] h fun v h'=>v = .tup []∧h'=⟨h.b.set i (jwB (s++l.flatMap (fun b=>Wire.num (flagN b)))),h.t⟩:=by
 refine liftJ (x:=.fn (63+1000000) [.ptr 0 0]) rfl rfl ?_ rfl hb
 have li:(l.map fun x=>[A.bool x]).length=l.length:=List.length_map _
 refine acall_of mixedT h_jeachb (by simp [c_jeachb]) ?_
 dsimp only [c_jeachb]
 refine run0 li ?_
 refine awp_loop (fun m ts hh=>∃ j:Nat,m=l.length - j∧j≤l.length∧hh=⟨[jwB (s++(l.take j).flatMap (fun b=>Wire.num (flagN b)))],[]⟩∧(ts 0 = .fn (63+1000000) [.ptr 0 0]∧ts 6 = .sl 1 .no (l.map fun x=>[A.bool x])∧ts 7 = .int .i64 (l.length:Nat)∧ts 8 = .int .i64 (j:Nat))) l.length ?_ ?_
 ·exact ⟨0,rfl,Nat.zero_le _,by simp,by (exact inv0 li)⟩
 rintro m ts hh ⟨j,rfl,hj,rfl,ht⟩
 rcases Nat.lt_or_ge j l.length with hlt | hge
 ·have hf:(l.map fun x=>[A.bool x]).length=l.length∧(j:Int) < (l.length:Int)∧(0:Int)≤(j:Int)∧(l.map fun x=>[A.bool x]).getD j []=(fun x=>[A.bool x]) l[j]∧IntKind.i64.wrap ((j:Int)+1)=((j+1:Nat):Int):=
   ⟨li,by omega,by omega,by simp [List.getD,hlt],by rw [wrap64 (by omega) (by omega)]; omega⟩
  have e:l.take (j+1)=l.take j++[l[j]]:=(List.take_append_getElem hlt).symm
  have e2:(l.take (j+1)).flatMap (fun b=>Wire.num (flagN b))=(l.take j).flatMap (fun b=>Wire.num (flagN b))++((fun b=>Wire.num (flagN b))) l[j]:=by rw [e,List.flatMap_append]; simp
  have hle:((l.take (j+1)).flatMap (fun b=>Wire.num (flagN b))).length≤(l.flatMap (fun b=>Wire.num (flagN b))).length:=by
   conv=>rhs; rw [←List.take_append_drop (j+1) l]
   rw [List.flatMap_append,List.length_append]
   omega
  have hm:=List.getElem_mem hlt
  skip
  have c:=a_jwflag (s++(l.take j).flatMap fun b=>Wire.num (flagN b)) l[j] (by rw [List.length_append]; rw [e2,List.length_append] at hle; omega) (h:=⟨[jwB (s++(l.take j).flatMap (fun b=>Wire.num (flagN b)))],[]⟩) (i:=0) rfl
  have e3:s++(l.take j).flatMap (fun b=>Wire.num (flagN b))++((fun b=>Wire.num (flagN b))) l[j]=s++(l.take (j+1)).flatMap (fun b=>Wire.num (flagN b)):=by rw [List.append_assoc,←e2]
  replace e3:_:=congrArg jwB e3
  rw [e3] at c
  obtain ⟨x,hx'⟩:∃ x,l[j]=x:=⟨_,rfl⟩
  rw [hx'] at hf c
  dsimp only at hf
  refine run0 (ai ht hf) ?_
  refine use c ?_
  refine run0 (ai ht hf) ?_
  exact ⟨_,by omega,j+1,rfl,by omega,rfl,by (exact inv0 (ai ht hf))⟩
 ·have hf:¬ (j:Int) < (l.length:Int):=by omega
  rw [List.take_of_length_le hge]
  refine run0 (ai ht hf) ?_
  exact ⟨_,le_refl _,rfl,rfl⟩
end AX
end Go.Proofs.YtahmpiioegemaaaGreatDoor

namespace Go.Proofs.YtahmpiioegemaaaGreatDoor
open Go.RowKit
namespace AX
def c_indexs:AX.AFn:=⟨19,aS [aR 4 (.mv (aI 0))] (.seq (aS [aM 6 0,aR 7 (.len false (.t 6)),aR 8 (.mv (aI 0))] (.block 0 (.loop (aS [aR 9 (.bin .lss (.t 8) (.t 7))] (.seq (.cond (.t 9) (.skip) (.exit 0)) (.seq (.block 1 (aS [aM 10 8,aM 5 10] (aS [aM 11 1,aM 12 0,aM 13 5,aR 14 (.iaddr 1 (.t 12) (.t 13)),aL 15 14,aR 16 (.callv (.t 11) [.t 15])] (.cond (.t 16) (aS [aM 17 5,aM 4 17] (.ret)) (.skip))))) (.reg false [aR 18 (.bin .add (.t 8) (aI 1)),aM 8 18]))))))) (aS [aR 4 (.mv (aI (-1)))] (.ret))),[.t 4]⟩
theorem h_indexs:AX.compFn Tryz.prog 138=some c_indexs:=by kernel_rfl
def c_containss:AX.AFn:=⟨9,aS [aR 4 (.mv (.c (.bool false)))] (aS [aM 5 0,aM 6 1,aR 7 (.call 138 [.t 5,.t 6]),aR 8 (.bin .geq (.t 7) (aI 0)),aM 4 8] (.ret)),[.t 4]⟩
theorem h_containss:AX.compFn Tryz.prog 98=some c_containss:=by kernel_rfl
def c_jshort:AX.AFn:=⟨6,aS [aR 2 (.mv (.c (.bool false)))] (aS [aM 3 0,aR 4 (.call 98 [.t 3,.c (.fn 99 [])]),aR 5 (.un .not (.t 4)),aM 2 5] (.ret)),[.t 2]⟩
theorem h_jshort:AX.compFn Tryz.prog 56=some c_jshort:=by kernel_rfl
def c_jshort1:AX.AFn:=⟨6,aS [aR 2 (.mv (.c (.bool false)))] (aS [aM 3 0,aR 4 (.len true (.t 3)),aR 5 (.bin .gtr (.t 4) (aI 4096)),aM 2 5] (.ret)),[.t 2]⟩
theorem h_jshort1:AX.compFn Tryz.prog 99=some c_jshort1:=by kernel_rfl
def c_jinstance:AX.AFn:=⟨40,aS [aR 1 (.box 36 (.t 0)),aR 2 (.mv (.c (.bool false)))] (aS [aF 3 0 1,aL 4 3,aF 5 1 1,aL 6 5,aF 7 2 1,aL 8 7,aF 9 3 1,aL 10 9,aR 11 (.mks 1 [.t 4,.t 6,.t 8,.t 10]),aR 12 (.call 56 [.t 11]),aM 13 12,aG 14 (.faddr 12 (.t 1)) 13 true,aG 15 (.load false 1 (.t 14)) 13 true,aG 16 (.call 56 [.t 15]) 13 true,aR 17 (.pick (.t 13) (.t 16) (.c (.bool false))),aM 18 17,aG 19 (.faddr 12 (.t 1)) 18 true,aG 20 (.load false 1 (.t 19)) 18 true,aG 21 (.len false (.t 20)) 18 true,aG 22 (.bin .leq (.t 21) (aI 512)) 18 true,aR 23 (.pick (.t 18) (.t 22) (.c (.bool false))),aM 24 23,aG 25 (.faddr 4 (.t 1)) 24 true,aG 26 (.load true 5 (.t 25)) 24 true,aG 27 (.call 97 [.t 26]) 24 true,aG 28 (.bin .eql (.t 27) (aI 0)) 24 true,aR 29 (.pick (.t 24) (.t 28) (.c (.bool false))),aM 30 29,aG 31 (.faddr 9 (.t 1)) 30 true,aG 32 (.load false 1 (.t 31)) 30 true,aG 33 (.bin .geq (.t 32) (aI 0)) 30 true,aR 34 (.pick (.t 30) (.t 33) (.c (.bool false))),aM 35 34,aG 36 (.faddr 9 (.t 1)) 35 true,aG 37 (.load false 1 (.t 36)) 35 true,aG 38 (.bin .leq (.t 37) (aI 9007199254740992)) 35 true,aR 39 (.pick (.t 35) (.t 38) (.c (.bool false))),aM 2 39] (.ret)),[.t 2]⟩
theorem h_jinstance:AX.compFn Tryz.prog 53=some c_jinstance:=by kernel_rfl
def c_jnone:AX.AFn:=⟨74,aS [aR 1 (.box 36 (.t 0)),aR 2 (.mv (.c (.bool false)))] (aS [aF 5 4 1,aR 6 (.load true 5 (.t 5)),aR 3 (.alloc 34 [.int .i64 0,.int .i64 0,.str [],.sl 0 .nil [],.sl 0 .nil []]),aU (.store 5 (.t 3) (.t 6))] (aS [aF 7 0 3,aL 8 7,aR 9 (.bin .eql (.t 8) (aI 0)),aM 10 9,aG 11 (.faddr 1 (.t 3)) 10 true,aG 12 (.load false 1 (.t 11)) 10 true,aG 13 (.bin .eql (.t 12) (aI 0)) 10 true,aR 14 (.pick (.t 10) (.t 13) (.c (.bool false))),aM 15 14,aG 16 (.faddr 2 (.t 3)) 15 true,aG 17 (.load false 1 (.t 16)) 15 true,aG 18 (.bin .eql (.t 17) (.c (.str []))) 15 true,aR 19 (.pick (.t 15) (.t 18) (.c (.bool false))),aM 20 19,aG 21 (.faddr 3 (.t 3)) 20 true,aG 22 (.load false 1 (.t 21)) 20 true,aG 23 (.len false (.t 22)) 20 true,aG 24 (.bin .eql (.t 23) (aI 0)) 20 true,aR 25 (.pick (.t 20) (.t 24) (.c (.bool false))),aM 26 25,aG 27 (.faddr 4 (.t 3)) 26 true,aG 28 (.load false 1 (.t 27)) 26 true,aG 29 (.len false (.t 28)) 26 true,aG 30 (.bin .eql (.t 29) (aI 0)) 26 true,aR 31 (.pick (.t 26) (.t 30) (.c (.bool false))),aM 4 31] (aS [aM 32 4,aM 33 32,aG 34 (.faddr 0 (.t 1)) 33 true,aG 35 (.load false 1 (.t 34)) 33 true,aG 36 (.bin .eql (.t 35) (.c (.str []))) 33 true,aR 37 (.pick (.t 33) (.t 36) (.c (.bool false))),aM 38 37,aG 39 (.faddr 1 (.t 1)) 38 true,aG 40 (.load false 1 (.t 39)) 38 true,aG 41 (.bin .eql (.t 40) (.c (.str []))) 38 true,aR 42 (.pick (.t 38) (.t 41) (.c (.bool false))),aM 43 42,aG 44 (.faddr 2 (.t 1)) 43 true,aG 45 (.load false 1 (.t 44)) 43 true,aG 46 (.bin .eql (.t 45) (.c (.str []))) 43 true,aR 47 (.pick (.t 43) (.t 46) (.c (.bool false))),aM 48 47,aG 49 (.faddr 3 (.t 1)) 48 true,aG 50 (.load false 1 (.t 49)) 48 true,aG 51 (.bin .eql (.t 50) (.c (.str []))) 48 true,aR 52 (.pick (.t 48) (.t 51) (.c (.bool false))),aM 53 52,aG 54 (.faddr 9 (.t 1)) 53 true,aG 55 (.load false 1 (.t 54)) 53 true,aG 56 (.bin .eql (.t 55) (aI 0)) 53 true,aR 57 (.pick (.t 53) (.t 56) (.c (.bool false))),aM 58 57,aG 59 (.faddr 10 (.t 1)) 58 true,aG 60 (.load false 1 (.t 59)) 58 true,aG 61 (.un .not (.t 60)) 58 true,aR 62 (.pick (.t 58) (.t 61) (.c (.bool false))),aM 63 62,aG 64 (.faddr 11 (.t 1)) 63 true,aG 65 (.load false 1 (.t 64)) 63 true,aG 66 (.un .not (.t 65)) 63 true,aR 67 (.pick (.t 63) (.t 66) (.c (.bool false))),aM 68 67,aG 69 (.faddr 12 (.t 1)) 68 true,aG 70 (.load false 1 (.t 69)) 68 true,aG 71 (.len false (.t 70)) 68 true,aG 72 (.bin .eql (.t 71) (aI 0)) 68 true,aR 73 (.pick (.t 68) (.t 72) (.c (.bool false))),aM 2 73] (.ret)))),[.t 2]⟩
theorem h_jnone:AX.compFn Tryz.prog 51=some c_jnone:=by kernel_rfl
def c_jempty:AX.AFn:=⟨29,aS [aR 1 (.box 27 (.t 0)),aR 2 (.mv (.c (.bool false)))] (aS [aF 3 0 1,aL 4 3,aR 5 (.bin .eql (.t 4) (.c (.str []))),aM 6 5,aG 7 (.faddr 1 (.t 1)) 6 true,aG 8 (.load false 1 (.t 7)) 6 true,aG 9 (.bin .eql (.t 8) (aI 0)) 6 true,aR 10 (.pick (.t 6) (.t 9) (.c (.bool false))),aM 11 10,aG 12 (.faddr 2 (.t 1)) 11 true,aG 13 (.load false 1 (.t 12)) 11 true,aG 14 (.len false (.t 13)) 11 true,aG 15 (.bin .eql (.t 14) (aI 0)) 11 true,aR 16 (.pick (.t 11) (.t 15) (.c (.bool false))),aM 17 16,aG 18 (.faddr 3 (.t 1)) 17 true,aG 19 (.load false 1 (.t 18)) 17 true,aG 20 (.len false (.t 19)) 17 true,aG 21 (.bin .eql (.t 20) (aI 0)) 17 true,aR 22 (.pick (.t 17) (.t 21) (.c (.bool false))),aM 23 22,aG 24 (.faddr 4 (.t 1)) 23 true,aG 25 (.load false 1 (.t 24)) 23 true,aG 26 (.len false (.t 25)) 23 true,aG 27 (.bin .eql (.t 26) (aI 0)) 23 true,aR 28 (.pick (.t 23) (.t 27) (.c (.bool false))),aM 2 28] (.ret)),[.t 2]⟩
theorem h_jempty:AX.compFn Tryz.prog 50=some c_jempty:=by kernel_rfl
def c_jstep:AX.AFn:=⟨31,aS [aR 1 (.box 38 (.t 0)),aR 2 (.mv (.c (.bool false)))] (aS [aF 3 6 1,aL 4 3,aR 5 (.bin .geq (.t 4) (aI 0)),aM 6 5,aG 7 (.faddr 6 (.t 1)) 6 true,aG 8 (.load false 1 (.t 7)) 6 true,aG 9 (.bin .lss (.t 8) (aI 2048)) 6 true,aR 10 (.pick (.t 6) (.t 9) (.c (.bool false))),aM 11 10,aG 12 (.faddr 7 (.t 1)) 11 true,aG 13 (.load false 1 (.t 12)) 11 true,aG 14 (.bin .geq (.t 13) (aI 1)) 11 true,aR 15 (.pick (.t 11) (.t 14) (.c (.bool false))),aM 16 15,aG 17 (.faddr 7 (.t 1)) 16 true,aG 18 (.load false 1 (.t 17)) 16 true,aG 19 (.bin .leq (.t 18) (aI 4)) 16 true,aR 20 (.pick (.t 16) (.t 19) (.c (.bool false))),aM 21 20,aG 22 (.faddr 8 (.t 1)) 21 true,aG 23 (.load false 1 (.t 22)) 21 true,aG 24 (.faddr 9 (.t 1)) 21 true,aG 25 (.load false 1 (.t 24)) 21 true,aG 26 (.faddr 10 (.t 1)) 21 true,aG 27 (.load false 1 (.t 26)) 21 true,aG 28 (.mks 1 [.t 23,.t 25,.t 27]) 21 true,aG 29 (.call 56 [.t 28]) 21 true,aR 30 (.pick (.t 21) (.t 29) (.c (.bool false))),aM 2 30] (.ret)),[.t 2]⟩
theorem h_jstep:AX.compFn Tryz.prog 55=some c_jstep:=by kernel_rfl
def c_jbare:AX.AFn:=⟨26,aS [aR 1 (.box 38 (.t 0)),aR 2 (.mv (.c (.bool false)))] (aS [aF 3 6 1,aL 4 3,aR 5 (.bin .eql (.t 4) (aI 0)),aM 6 5,aG 7 (.faddr 7 (.t 1)) 6 true,aG 8 (.load false 1 (.t 7)) 6 true,aG 9 (.bin .eql (.t 8) (aI 0)) 6 true,aR 10 (.pick (.t 6) (.t 9) (.c (.bool false))),aM 11 10,aG 12 (.faddr 8 (.t 1)) 11 true,aG 13 (.load false 1 (.t 12)) 11 true,aG 14 (.bin .eql (.t 13) (.c (.str []))) 11 true,aR 15 (.pick (.t 11) (.t 14) (.c (.bool false))),aM 16 15,aG 17 (.faddr 9 (.t 1)) 16 true,aG 18 (.load false 1 (.t 17)) 16 true,aG 19 (.bin .eql (.t 18) (.c (.str []))) 16 true,aR 20 (.pick (.t 16) (.t 19) (.c (.bool false))),aM 21 20,aG 22 (.faddr 10 (.t 1)) 21 true,aG 23 (.load false 1 (.t 22)) 21 true,aG 24 (.bin .eql (.t 23) (.c (.str []))) 21 true,aR 25 (.pick (.t 21) (.t 24) (.c (.bool false))),aM 2 25] (.ret)),[.t 2]⟩
theorem h_jbare:AX.compFn Tryz.prog 54=some c_jbare:=by kernel_rfl
def c_jmakes:AX.AFn:=⟨9,aS [aR 2 (.mv (.c (.bool false)))] (aS [aM 3 0,aR 4 (.bin .eql (.t 3) (aI 1)),aM 5 4,aG 6 (.mv (.t 0)) 5 false,aG 7 (.bin .eql (.t 6) (aI 2)) 5 false,aR 8 (.pick (.t 5) (.c (.bool true)) (.t 7)),aM 2 8] (.ret)),[.t 2]⟩
theorem h_jmakes:AX.compFn Tryz.prog 52=some c_jmakes:=by kernel_rfl
def longIdx:Nat→List (List UInt8)→Int
 | _,[]=>-1
 | i,s::l=>if decide ((s.length:Int) > 4096)=true then i else longIdx (i+1) l
theorem longIdx_ge:∀ (l:List (List UInt8)) (i:Nat),decide (longIdx i l≥0)=!Jr.shortB l
 | [],i=>rfl
 | s::l,i=>by
  unfold longIdx Jr.shortB
  rw [List.all_cons]
  by_cases h:(s.length:Int) > 4096
  ·rw [if_pos (by simpa using h),show decide ((s.length:Int)≤4096)=false by simpa using h]
   simp
  ·rw [if_neg (by simpa using h),show decide ((s.length:Int)≤4096)=true by simpa using h,Bool.true_and]
   exact longIdx_ge l (i+1)
theorem a_jshort1 (s:List UInt8) (h:Hp):ACall Tryz.prog GT 99 [.str s] h fun r h'=>r = .bool (decide ((s.length:Int) > 4096))∧h'=h:=by
 refine pcall ?_ rfl (by simp [A.pure,A.data]) h
 refine acall_of mixedT h_jshort1 (by simp [c_jshort1]) ?_
 dsimp only [c_jshort1]
 refine runx0 ti ti ?_
 exact ⟨_,le_refl _,rfl⟩
theorem a_indexs (ks:List (List UInt8)) (hn:ks.length≤1000000000) (h:Hp):ACall Tryz.prog GT 138 [.sl 1 .no (strsA ks),.fn 99 []] h fun r h'=>r = .int .i64 (longIdx 0 ks)∧h'=h:=by
 refine pcall ?_ rfl (by simp [A.pure,A.data]) h
 refine acall_of mixedT h_indexs (by simp [c_indexs]) ?_
 dsimp only [c_indexs]
 obtain ⟨D,hD⟩:∃ D,longIdx 0 ks=D:=⟨_,rfl⟩
 rw [hD]
 have li:(strsA ks).length=ks.length:=strsA_length ks
 refine run0 li ?_
 refine awp_loop (fun mm ts h=>∃ (j:Nat),mm=ks.length - j∧j≤ks.length∧h=⟨[],[]⟩∧longIdx j (ks.drop j)=D∧(ts 0 = .sl 1 .no (strsA ks)∧ts 1 = .fn 99 []∧ts 7 = .int .i64 (ks.length:Nat)∧ts 8 = .int .i64 (j:Nat))) ks.length ?_ ?_
 ·exact ⟨0,by omega,by omega,rfl,hD,by (exact inv0 li)⟩
 rintro mm ts h ⟨j,rfl,hjc,rfl,hit,ht⟩
 by_cases hj:j < ks.length
 ·have hf:=rowj_at (fun s:List UInt8=>[A.str s]) ks j hj (by omega)
  have hf':(strsA ks).length=ks.length∧(j:Int) < (ks.length:Int)∧(0:Int)≤(j:Int)∧(strsA ks).getD j []=[.str ks[j]]∧IntKind.i64.wrap ((j:Int)+1)=((j+1:Nat):Int):=hf
  clear hf
  rw [List.drop_eq_getElem_cons hj] at hit
  unfold longIdx at hit
  obtain ⟨x,hx⟩:∃ x,ks[j]=x:=⟨_,rfl⟩
  rw [hx] at hf' hit
  have cf:=a_jshort1 x
  obtain ⟨K,hK⟩:∃ K,decide ((x.length:Int) > 4096)=K:=⟨_,rfl⟩
  rw [hK] at cf hit
  refine run0 (ai ht hf') ?_
  refine use (cf _) ?_
  cases K
  ·rw [if_neg (by simp)] at hit
   refine run0 (ai ht hf') ?_
   exact ⟨ks.length - (j+1),by omega,j+1,rfl,by omega,rfl,hit,by (exact inv0 (ai ht hf'))⟩
  ·rw [if_pos rfl] at hit
   subst hit
   refine run0 (ai ht hf') ?_
   exact ⟨_,le_refl _,rfl⟩
 ·have hlt:¬ ((j:Int) < (ks.length:Int)):=by omega
  rw [List.drop_eq_nil_of_le (by omega)] at hit
  unfold longIdx at hit
  subst hit
  refine run0 (ai ht (ai hlt li)) ?_
  exact ⟨_,le_refl _,rfl⟩
theorem a_jshort (ks:List (List UInt8)) (hn:ks.length≤1000000000) (h:Hp):ACall Tryz.prog GT 56 [.sl 1 .no (strsA ks)] h fun r h'=>r = .bool (Jr.shortB ks)∧h'=h:=by
 have ci:=a_indexs ks hn
 have hge:=longIdx_ge ks 0
 obtain ⟨D,hD⟩:∃ D,longIdx 0 ks=D:=⟨_,rfl⟩
 rw [hD] at ci hge
 have cc:∀ h,ACall Tryz.prog GT 98 [.sl 1 .no (strsA ks),.fn 99 []] h fun r h'=>r = .bool (!Jr.shortB ks)∧h'=h:=fun h=>by
  rw [←hge]
  refine pcall ?_ rfl (by simp [A.pure,A.data]) h
  refine acall_of mixedT h_containss (by simp [c_containss]) ?_
  dsimp only [c_containss]
  refine runx0 ti (ai ci ti) ?_
  exact ⟨_,le_refl _,rfl⟩
 obtain ⟨B,hB⟩:∃ B,Jr.shortB ks=B:=⟨_,rfl⟩
 rw [hB] at cc ⊢
 refine pcall ?_ rfl (by simp [A.pure,A.data]) h
 refine acall_of mixedT h_jshort (by simp [c_jshort]) ?_
 dsimp only [c_jshort]
 refine runx0 ti (ai cc ti) ?_
 exact ⟨_,le_refl _,by cases B <;> rfl⟩
theorem a_jnone (x:Sf.Inst) (h:Hp):ACall Tryz.prog GT 51 [.agg (Sf.Inst.cells x)] h fun r h'=>r = .bool (Jr.noneB x)∧h'=h:=by
 obtain ⟨a,d,i,t,⟨k,n,s,is,ks⟩,v,tn,fi,ds⟩:=x
 have l1:=V.cellss_length is
 have l2:=strsA_length ks
 have l3:=strsA_length ds
 unfold Sf.Inst.cells Jr.noneB Jr.zeroV
 dsimp only
 refine pcall ?_ rfl (by simp [A.pure,A.data]) h
 refine acall_of mixedT h_jnone (by simp [c_jnone]) ?_
 dsimp only [c_jnone]
 refine runx0 (ai l1 (ai l2 l3)) ti ?_
 exact ⟨_,le_refl _,rfl⟩
theorem a_jempty (s:Sf.St) (h:Hp):ACall Tryz.prog GT 50 [s.A] h fun r h'=>r = .bool (Jr.emptyB s)∧h'=h:=by
 obtain ⟨lin,ser,ins,ps,os⟩:=s
 have l1:(ins.map Sf.Inst.cells).length=ins.length:=List.length_map _
 have l2:(ps.map Sf.Pend.cells).length=ps.length:=List.length_map _
 have l3:(os.map Sf.Outp.cells).length=os.length:=List.length_map _
 unfold Sf.St.A Jr.emptyB
 dsimp only
 refine pcall ?_ rfl (by simp [A.pure,A.data]) h
 refine acall_of mixedT h_jempty (by simp [c_jempty]) ?_
 dsimp only [c_jempty]
 refine runx0 (ai l1 (ai l2 l3)) ti ?_
 exact ⟨_,le_refl _,rfl⟩
theorem a_jmakes (n:Int) (h:Hp):ACall Tryz.prog GT 52 [.int .i64 n] h fun r h'=>r = .bool (Jr.makesB n)∧h'=h:=by
 refine pcall ?_ rfl (by simp [A.pure,A.data]) h
 refine acall_of mixedT h_jmakes (by simp [c_jmakes]) ?_
 dsimp only [c_jmakes]
 unfold Jr.makesB
 refine runx0 ti ti ?_
 exact ⟨_,le_refl _,rfl⟩
theorem a_jinst (x:Sf.Inst) (hl:x.attrs.lens) (hd:x.deps.length≤1000000000) (h:Hp):ACall Tryz.prog GT 53 [.agg (Sf.Inst.cells x)] h fun r h'=>r = .bool (Jr.instB x)∧h'=h:=by
 obtain ⟨a,d,i,t,⟨k,n,s,is,ks⟩,v,tn,fi,ds⟩:=x
 have l3:=strsA_length ds
 have c1:=a_jshort [a,d,i,t] (by simp)
 have c2:=a_jshort ds hd
 have c3:=a_vCheck (.mk k n s is ks) hl
 simp only [V.A,V.cells] at c3
 unfold Sf.Inst.cells Jr.instB
 dsimp only
 obtain ⟨b1,h1⟩:∃ b,Jr.shortB [a,d,i,t]=b:=⟨_,rfl⟩
 obtain ⟨b2,h2⟩:∃ b,Jr.shortB ds=b:=⟨_,rfl⟩
 obtain ⟨Z,hZ⟩:∃ b,Val.checkZ (.mk k n s is ks)=b:=⟨_,rfl⟩
 rw [h1] at c1
 rw [h2] at c2
 rw [hZ] at c3
 rw [h1,h2,hZ]
 have c1':∀ h,ACall Tryz.prog GT 56 [.sl 1 .no [[.str a],[.str d],[.str i],[.str t]]] h fun r h'=>r = .bool b1∧h'=h:=c1
 refine pcall ?_ rfl (by simp [A.pure,A.data]) h
 refine acall_of mixedT h_jinstance (by simp [c_jinstance]) ?_
 dsimp only [c_jinstance]
 refine runx0 l3 (ai c1' (ai c2 (ai c3 ti))) ?_
 exact ⟨_,le_refl _,rfl⟩
theorem a_jbare (r:Jr) (h:Hp):ACall Tryz.prog GT 54 [.agg r.cells] h fun v h'=>v = .bool r.bareB∧h'=h:=by
 obtain ⟨kd,⟨lin,ser,ins,ps,os⟩,st,op,ad,dp,ty,tk,er,⟨a,d,i,t,⟨k,n,s,is,ks⟩,v,tn,fi,ds⟩⟩:=r
 unfold Jr.bareB
 simp only [Jr.cells,Sf.Inst.cells,List.cons_append,List.nil_append]
 refine pcall ?_ rfl (by simp [A.pure,A.data]) h
 refine acall_of mixedT h_jbare (by simp [c_jbare]) ?_
 dsimp only [c_jbare]
 refine runx0 ti ti ?_
 exact ⟨_,le_refl _,rfl⟩
theorem a_jstep (r:Jr) (h:Hp):ACall Tryz.prog GT 55 [.agg r.cells] h fun v h'=>v = .bool r.stepB∧h'=h:=by
 obtain ⟨kd,⟨lin,ser,ins,ps,os⟩,st,op,ad,dp,ty,tk,er,⟨a,d,i,t,⟨k,n,s,is,ks⟩,v,tn,fi,ds⟩⟩:=r
 unfold Jr.stepB
 simp only [Jr.cells,Sf.Inst.cells,List.cons_append,List.nil_append]
 have c1:=a_jshort [ad,dp,ty] (by simp)
 obtain ⟨b1,h1⟩:∃ b,Jr.shortB [ad,dp,ty]=b:=⟨_,rfl⟩
 rw [h1] at c1 ⊢
 have c1':∀ h,ACall Tryz.prog GT 56 [.sl 1 .no [[.str ad],[.str dp],[.str ty]]] h fun r h'=>r = .bool b1∧h'=h:=c1
 refine pcall ?_ rfl (by simp [A.pure,A.data]) h
 refine acall_of mixedT h_jstep (by simp [c_jstep]) ?_
 dsimp only [c_jstep]
 refine runx0 ti (ai c1' ti) ?_
 exact ⟨_,le_refl _,rfl⟩
theorem a_jvalid (r:Jr) (hl:r.after.attrs.lens) (hd:r.after.deps.length≤1000000000) (h:Hp):ACall Tryz.prog GT 27 [.agg r.cells] h fun v h'=>v = .bool r.validB∧h'=h:=by
 have ce:=a_jempty r.base
 have cn:=a_jnone r.after
 have cm:=a_jmakes r.op
 have ci:=a_jinst r.after hl hd
 have cb:=a_jbare r
 have cs:=a_jstep r
 have ct:=a_jshort [r.tok] (by simp)
 have hbad:Jr.badB r=(r.kind != 1&&!Jr.emptyB r.base||r.kind != 2&&r.tok != []||r.kind != 4&&r.err != 0):=rfl
 have haft:Jr.afterB r=(Jr.noneB r.after||Jr.makesB r.op&&Jr.instB r.after):=rfl
 unfold Jr.validB
 obtain ⟨bad,hbd⟩:∃ b,Jr.badB r=b:=⟨_,rfl⟩
 obtain ⟨aft,haf⟩:∃ b,Jr.afterB r=b:=⟨_,rfl⟩
 obtain ⟨e,he⟩:∃ b,Jr.emptyB r.base=b:=⟨_,rfl⟩
 obtain ⟨n,hn⟩:∃ b,Jr.noneB r.after=b:=⟨_,rfl⟩
 obtain ⟨m,hm⟩:∃ b,Jr.makesB r.op=b:=⟨_,rfl⟩
 obtain ⟨i,hi⟩:∃ b,Jr.instB r.after=b:=⟨_,rfl⟩
 obtain ⟨b,hb⟩:∃ b,r.bareB=b:=⟨_,rfl⟩
 obtain ⟨s,hs⟩:∃ b,r.stepB=b:=⟨_,rfl⟩
 obtain ⟨t,ht⟩:∃ b,Jr.shortB [r.tok]=b:=⟨_,rfl⟩
 rw [hbd,he] at hbad
 rw [haf,hn,hm,hi] at haft
 rw [he] at ce; rw [hn] at cn; rw [hm] at cm; rw [hi] at ci; rw [hb] at cb; rw [hs] at cs; rw [ht] at ct
 rw [hbd,haf,hn,hb,hs,ht]
 clear hbd haf he hn hm hi hb hs ht hl hd
 obtain ⟨kd,⟨lin,ser,ins,ps,os⟩,st,op,ad,dp,ty,tk,er,⟨a1,a2,a3,a4,⟨k,nn,ss,is,ks⟩,v,tn,fi,ds⟩⟩:=r
 have ct':∀ h,ACall Tryz.prog GT 56 [.sl 1 .no [[.str tk]]] h fun r h'=>r = .bool t∧h'=h:=ct
 simp only [Jr.cells,Sf.Inst.cells,List.cons_append,List.nil_append,Sf.St.A] at *
 refine pcall ?_ rfl (by simp [A.pure,A.data]) h
 refine fo ?_
 refine runx0 ti (ai ce ti) ?_
 (refine AX.alt0 ti ?_ ?_)
 ·intro hc
  rw [hc] at hbad
  subst hbad
  refine runx0 ti ti ?_
  exact ⟨_,le_refl _,rfl⟩
 intro hc
 rw [hc] at hbad
 subst hbad
 rw [if_neg (by decide)]
 refine runx0 ti (ai cn (ai cm (ai ci ti))) ?_
 by_cases q1:kd=1
 ·subst q1
  rw [if_pos (.inl rfl)]
  refine runx0 ti (ai cb (ai cn ti)) ?_
  exact ⟨_,le_refl _,rfl⟩
 have f1:(kd == 1)=false:=by simp [q1]
 by_cases q5:kd=5
 ·subst q5
  rw [if_pos (.inr rfl)]
  refine runx0 ti (ai cb (ai cn ti)) ?_
  exact ⟨_,le_refl _,rfl⟩
 have f5:(kd == 5)=false:=by simp [q5]
 rw [if_neg (by simp [q1,q5])]
 by_cases q2:kd=2
 ·subst q2
  rw [if_pos rfl]
  refine runx0 ti (ai cs (ai cn (ai ct' ti))) ?_
  exact ⟨_,le_refl _,rfl⟩
 have f2:(kd == 2)=false:=by simp [q2]
 rw [if_neg q2]
 by_cases q3:kd=3
 ·subst q3
  rw [if_pos rfl,haft]
  refine runx0 ti (ai cs ti) ?_
  exact ⟨_,le_refl _,rfl⟩
 have f3:(kd == 3)=false:=by simp [q3]
 rw [if_neg q3]
 by_cases q4:kd=4
 ·subst q4
  rw [if_pos rfl,haft]
  refine runx0 ti (ai cs ti) ?_
  exact ⟨_,le_refl _,rfl⟩
 have f4:(kd == 4)=false:=by simp [q4]
 rw [if_neg q4]
 refine runx0 (ai f1 (ai f2 (ai f3 (ai f4 f5)))) ti ?_
 exact ⟨_,le_refl _,rfl⟩
structure JrIn (r:Jr):Prop where
 base:Sf.StIn r.base
 lens:r.after.attrs.lens
 deps:r.after.deps.length≤1000000000
def c_jwstep:AX.AFn:=⟨22,aS [aR 3 (.box 38 (.t 1))] (aS [aM 4 0,aR 5 (.mkfn (28+1000000) [.t 4]),aF 6 6 3,aL 7 6,aF 8 7 3,aL 9 8,aR 10 (.mks 1 [.t 7,.t 9]),aR 11 (.call 59 [.t 5,.t 10])] (.reg false [aM 12 0,aR 13 (.mkfn (30+1000000) [.t 12]),aF 14 8 3,aL 15 14,aF 16 9 3,aL 17 16,aF 18 10 3,aL 19 18,aR 20 (.mks 1 [.t 15,.t 17,.t 19]),aR 21 (.call 60 [.t 13,.t 20])])),[]⟩
theorem h_jwstep:AX.compFn Tryz.prog 31=some c_jwstep:=by kernel_rfl
def c_jwinst:AX.AFn:=⟨48,aS [aR 3 (.box 36 (.t 1))] (aS [aM 4 0,aR 5 (.mkfn (30+1000000) [.t 4]),aF 6 0 3,aL 7 6,aF 8 1 3,aL 9 8,aF 10 2 3,aL 11 10,aF 12 3 3,aL 13 12,aR 14 (.mks 1 [.t 7,.t 9,.t 11,.t 13]),aR 15 (.call 60 [.t 5,.t 14])] (.seq (.reg true [aM 16 0,aM 17 0,⟨some 18,.nilck (.t 17),none,[1]⟩,⟨some 19,.faddr 0 (.t 18),none,[2]⟩,⟨some 20,.load false 1 (.t 19),none,[3]⟩,aF 21 4 3,⟨some 22,.load true 5 (.t 21),none,[5]⟩,⟨some 23,.call 61 [.t 20,.t 22],none,[4,6]⟩,⟨some 24,.nilck (.t 16),none,[0,0,1,2,3,4,5,6,7]⟩,⟨some 25,.faddr 0 (.t 24),none,[8,0,1,2,3,4,5,6,7]⟩,⟨none,.store 1 (.t 25) (.t 23),none,[9,7,7,0,1,2,3,4,5,6,7]⟩]) (aS [aM 26 0,aF 27 9 3,aL 28 27,aR 29 (.call 28 [.t 26,.t 28])] (aS [aM 30 0,aR 31 (.mkfn (63+1000000) [.t 30]),aF 32 10 3,aL 33 32,aF 34 11 3,aL 35 34,aR 36 (.mks 1 [.t 33,.t 35]),aR 37 (.call 62 [.t 31,.t 36])] (aS [aM 38 0,aF 39 12 3,aL 40 39,aR 41 (.len false (.t 40)),aR 42 (.call 28 [.t 38,.t 41])] (.reg false [aM 43 0,aR 44 (.mkfn (30+1000000) [.t 43]),aF 45 12 3,aL 46 45,aR 47 (.call 60 [.t 44,.t 46])])))))),[]⟩
theorem h_jwinst:AX.compFn Tryz.prog 32=some c_jwinst:=by kernel_rfl
def c_jencode:AX.AFn:=⟨74,aS [aR 1 (.box 38 (.t 0)),aR 2 (.mv (.c (.str []))),aR 3 (.mv (aI 0))] (.seq (aS [aR 8 (.load true 26 (.t 1)),aR 9 (.call 27 [.t 8]),aR 10 (.un .not (.t 9))] (.cond (.t 10) (aS [aR 2 (.mv (.c (.str []))),aR 3 (.mv (aI 1))] (.ret)) (.skip))) (aS [aR 11 (.build [.str []] []),aR 12 (.box 71 (.t 11)),aM 4 12] (aS [aM 13 4,aF 14 0 1,aL 15 14,aR 16 (.call 28 [.t 13,.t 15])] (.seq (aS [aF 17 0 1,aL 18 17] (.block 0 (aS [aR 20 (.bin .eql (.t 18) (aI 1)),aM 19 20] (.cond (.t 19) (aS [aF 22 1 1,aR 23 (.load true 5 (.t 22)),aR 24 (.call 29 [.t 23]),aM 21 24,aE 25 21 0,aE 26 21 1,aM 5 25,aM 6 26] (.seq (aS [aM 27 6,aR 28 (.bin .neq (.t 27) (aI 0))] (.cond (.t 28) (aS [aM 29 6,aR 2 (.mv (.c (.str []))),aM 3 29] (.ret)) (.skip))) (.reg false [aM 30 4,aM 31 5,aR 32 (.call 30 [.t 30,.t 31])]))) (aS [aR 34 (.bin .eql (.t 18) (aI 2)),aM 33 34] (.cond (.t 33) (aS [aM 35 4,aR 36 (.load true 26 (.t 1)),aR 37 (.call 31 [.t 35,.t 36])] (.reg false [aM 38 4,aF 39 11 1,aL 40 39,aR 41 (.call 30 [.t 38,.t 40])])) (aS [aR 43 (.bin .eql (.t 18) (aI 3)),aM 42 43] (.cond (.t 42) (aS [aM 44 4,aR 45 (.load true 26 (.t 1)),aR 46 (.call 31 [.t 44,.t 45])] (.reg false [aM 47 4,aF 48 13 1,aR 49 (.load true 13 (.t 48)),aR 50 (.call 32 [.t 47,.t 49])])) (aS [aR 52 (.bin .eql (.t 18) (aI 4)),aM 51 52] (.cond (.t 51) (aS [aM 53 4,aR 54 (.load true 26 (.t 1)),aR 55 (.call 31 [.t 53,.t 54])] (aS [aM 56 4,aF 57 12 1,aL 58 57,aR 59 (.call 28 [.t 56,.t 58])] (.reg false [aM 60 4,aF 61 13 1,aR 62 (.load true 13 (.t 61)),aR 63 (.call 32 [.t 60,.t 62])]))) (.skip))))))))))) (aS [aM 64 4,aR 65 (.nilck (.t 64)),aF 66 0 65,aL 67 66,aR 68 (.call 34 [.c (.str []),.t 67]),aR 69 (.call 33 [.t 68]),aM 7 69] (.seq (aS [aM 70 7,aR 71 (.len true (.t 70)),aR 72 (.bin .gtr (.t 71) (aI 1048576))] (.cond (.t 72) (aS [aR 2 (.mv (.c (.str []))),aR 3 (.mv (aI 3))] (.ret)) (.skip))) (aS [aM 73 7,aM 2 73,aR 3 (.mv (aI 0))] (.ret)))))))),[.t 2,.t 3]⟩
theorem h_jencode:AX.compFn Tryz.prog 10=some c_jencode:=by kernel_rfl
structure StepE (r:Jr):Prop where
 s0:-9223372036854775808≤r.step
 s1:r.step≤9223372036854775807
 o0:-9223372036854775808≤r.op
 o1:r.op≤9223372036854775807
theorem jr_loc (r:Jr):A.locL 0 [.agg r.cells]=true:=by
 obtain ⟨kd,⟨lin,ser,ins,ps,os⟩,st,op,ad,dp,ty,tk,er,⟨a1,a2,a3,a4,⟨k,nn,ss,is,ks⟩,v,tn,fi,ds⟩⟩:=r
 simp [A.locL,A.loc,Jr.cells,Sf.Inst.cells]
theorem a_jwstep (s:List UInt8) (r:Jr) (hr:StepE r) (hs:s.length+(Jr.stepE r).length+30≤1000000000) {h:Hp} {i:Nat} (hb:h.b[i]?=some (jwB s)) :
  ACall Tryz.prog GT 31 [.ptr i 0,.agg r.cells] h fun v h'=>v = .tup []∧h'=⟨h.b.set i (jwB (s++Jr.stepE r)),h.t⟩:=by
 refine liftJ (x:=.ptr 0 0) rfl rfl ?_ (jr_loc r) hb
 have e1:[r.step,r.op].flatMap Wire.num=Wire.num r.step++Wire.num r.op:=by simp
 have e2:[r.addr,r.dep,r.typ].flatMap Wire.strE=Wire.strE r.addr++Wire.strE r.dep++Wire.strE r.typ:=by simp
 have e3:s++Jr.stepE r=s++(Wire.num r.step++Wire.num r.op)++(Wire.strE r.addr++Wire.strE r.dep++Wire.strE r.typ):=by simp [Jr.stepE,List.append_assoc]
 have hlen:(Jr.stepE r).length=(Wire.num r.step++Wire.num r.op).length+(Wire.strE r.addr++Wire.strE r.dep++Wire.strE r.typ).length:=by simp only [Jr.stepE,List.length_append]; omega
 have c1:=fun B=>a_jeachi s [r.step,r.op] (by simp only [List.mem_cons,List.not_mem_nil,or_false,forall_eq_or_imp,forall_eq]; exact ⟨⟨hr.s0,hr.s1⟩,hr.o0,hr.o1⟩) (by rw [e1]; omega) (by simp) (h:=⟨[jwB s,B],[]⟩) (i:=0) rfl
 have c2:=fun B=>a_jeachs (s++(Wire.num r.step++Wire.num r.op)) [r.addr,r.dep,r.typ] (by rw [e2,List.length_append]; omega) (by simp) (h:=⟨[jwB (s++(Wire.num r.step++Wire.num r.op)),B],[]⟩) (i:=0) rfl
 rw [e1] at c1
 rw [e2] at c2
 rw [e3]
 obtain ⟨X,hX⟩:∃ X,s++(Wire.num r.step++Wire.num r.op)=X:=⟨_,rfl⟩
 rw [hX] at c1 c2 ⊢
 obtain ⟨Y,hY⟩:∃ Y,X++(Wire.strE r.addr++Wire.strE r.dep++Wire.strE r.typ)=Y:=⟨_,rfl⟩
 rw [hY] at c2 ⊢
 clear hr hs e1 e2 e3 hlen hX hY
 obtain ⟨kd,⟨lin,ser,ins,ps,os⟩,st,op,ad,dp,ty,tk,er,⟨a1,a2,a3,a4,⟨k,nn,ss,is,ks⟩,v,tn,fi,ds⟩⟩:=r
 simp only [Jr.cells,Sf.Inst.cells,List.cons_append,List.nil_append,List.map_cons,List.map_nil,List.set_cons_zero] at c1 c2 ⊢
 refine acall_of mixedT h_jwstep (by simp [c_jwstep]) ?_
 dsimp only [c_jwstep]
 refine run0 ti ?_
 refine use (c1 _) ?_
 refine run0 ti ?_
 refine use (c2 _) ?_
 refine run0 ti ?_
 exact ⟨_,le_refl _,rfl,rfl⟩
theorem a_jwinst (s:List UInt8) (x:Sf.Inst) (hx:Jr.InstE x) (hlen:s.length+(Sf.instE 2 x).length+50≤1000000000) (hvl:x.attrs.lens) {h:Hp} {i:Nat} (hb:h.b[i]?=some (jwB s)) :
  ACall Tryz.prog GT 32 [.ptr i 0,.agg (Sf.Inst.cells x)] h fun v h'=>v = .tup []∧h'=⟨h.b.set i (jwB (s++Sf.instE 2 x)),h.t⟩:=by
 refine liftJ (x:=.ptr 0 0) rfl rfl ?_ (by obtain ⟨a1,a2,a3,a4,⟨k,nn,ss,is,ks⟩,v,tn,fi,ds⟩:=x; simp [A.locL,A.loc,Sf.Inst.cells]) hb
 have hz:∃ lv b,(Val.chk x.attrs lv b).1=0:=⟨1,0,hx.v⟩
 have e1:[x.addr,x.dep,x.id,x.typ].flatMap Wire.strE=Wire.strE x.addr++Wire.strE x.dep++Wire.strE x.id++Wire.strE x.typ:=by simp
 have e2:[x.tainted,x.first].flatMap (fun b=>Wire.num (flagN b))=Sf.flagE x.tainted++Sf.flagE x.first:=by simp [Sf.flagE,flagN]
 have e3:s++Sf.instE 2 x=s++(Wire.strE x.addr++Wire.strE x.dep++Wire.strE x.id++Wire.strE x.typ)++Val.enc x.attrs++Wire.num x.ver++(Sf.flagE x.tainted++Sf.flagE x.first)++Wire.num x.deps.length++x.deps.flatMap Wire.strE:=by simp [Sf.instE,Sf.wordsE,List.append_assoc]
 have hL:(Sf.instE 2 x).length=(Wire.strE x.addr++Wire.strE x.dep++Wire.strE x.id++Wire.strE x.typ).length+(Val.enc x.attrs).length+(Wire.num x.ver).length+(Sf.flagE x.tainted++Sf.flagE x.first).length+(Wire.num x.deps.length).length+(x.deps.flatMap Wire.strE).length:=by simp only [Sf.instE,Sf.wordsE,List.length_append,if_true]; omega
 have hn:=hx.n
 obtain ⟨P1,hP1⟩:∃ P,Wire.strE x.addr++Wire.strE x.dep++Wire.strE x.id++Wire.strE x.typ=P:=⟨_,rfl⟩
 obtain ⟨P2,hP2⟩:∃ P,Sf.flagE x.tainted++Sf.flagE x.first=P:=⟨_,rfl⟩
 rw [hP1] at e1 e3 hL
 rw [hP2] at e2 e3 hL
 have c1:=fun B=>a_jeachs s [x.addr,x.dep,x.id,x.typ] (by rw [e1]; omega) (by simp) (h:=⟨[jwB s,B],[]⟩) (i:=0) rfl
 rw [e1] at c1
 obtain ⟨S1,hS1⟩:∃ S,s++P1=S:=⟨_,rfl⟩
 have l1:S1.length=s.length+P1.length:=by rw [←hS1,List.length_append]
 rw [hS1] at c1 e3
 have c2:=fun h=>a_AppendValue S1 (by omega) x.attrs hz (by omega) hvl h
 obtain ⟨S2,hS2⟩:∃ S,S1++Val.enc x.attrs=S:=⟨_,rfl⟩
 have l2:S2.length=S1.length+(Val.enc x.attrs).length:=by rw [←hS2,List.length_append]
 rw [hS2] at c2 e3
 have c3:=fun B=>a_jwnum S2 x.ver (by omega) hx.v0 hx.v1 (h:=⟨[jwB S2,B],[]⟩) (i:=0) rfl
 obtain ⟨S3,hS3⟩:∃ S,S2++Wire.num x.ver=S:=⟨_,rfl⟩
 have l3:S3.length=S2.length+(Wire.num x.ver).length:=by rw [←hS3,List.length_append]
 rw [hS3] at c3 e3
 have c4:=fun B=>a_jeachb S3 [x.tainted,x.first] (by rw [e2]; omega) (by simp) (h:=⟨[jwB S3,B],[]⟩) (i:=0) rfl
 rw [e2] at c4
 obtain ⟨S4,hS4⟩:∃ S,S3++P2=S:=⟨_,rfl⟩
 have l4:S4.length=S3.length+P2.length:=by rw [←hS4,List.length_append]
 rw [hS4] at c4 e3
 have c5:=fun B=>a_jwnum S4 x.deps.length (by omega) (by omega) (by omega) (h:=⟨[jwB S4,B],[]⟩) (i:=0) rfl
 obtain ⟨S5,hS5⟩:∃ S,S4++Wire.num x.deps.length=S:=⟨_,rfl⟩
 have l5:S5.length=S4.length+(Wire.num x.deps.length).length:=by rw [←hS5,List.length_append]
 rw [hS5] at c5 e3
 have c6:=fun B=>a_jeachs S5 x.deps (by omega) (by omega) (h:=⟨[jwB S5,B],[]⟩) (i:=0) rfl
 obtain ⟨S6,hS6⟩:∃ S,S5++x.deps.flatMap Wire.strE=S:=⟨_,rfl⟩
 rw [hS6] at c6 e3
 rw [e3]
 have li:=strsA_length x.deps
 clear hx hlen hvl hz hb e1 e2 e3 hL hn hP1 hP2 hS1 hS2 hS3 hS4 hS5 hS6 l1 l2 l3 l4 l5
 obtain ⟨a1,a2,a3,a4,⟨k,nn,ss,is,ks⟩,v,tn,fi,ds⟩:=x
 have hD:(ds.map fun x=>[A.str x])=strsA ds:=rfl
 dsimp only at c1 c2 c3 c4 c5 c6 li
 rw [hD] at c6
 simp only [Sf.Inst.cells,V.A,V.cells,List.map_cons,List.map_nil,List.set_cons_zero,jwB] at c1 c2 c3 c4 c5 c6 ⊢
 refine acall_of mixedT h_jwinst (by simp [c_jwinst]) ?_
 dsimp only [c_jwinst]
 refine run0 ti ?_
 refine use (c1 _) ?_
 refine runc0 ti (ai c2 ti) ?_
 refine use (c3 _) ?_
 refine run0 ti ?_
 refine use (c4 _) ?_
 refine run0 li ?_
 refine use (c5 _) ?_
 refine run0 ti ?_
 refine use (c6 _) ?_
 refine run0 ti ?_
 exact ⟨_,le_refl _,rfl,rfl⟩
structure JrLen (r:Jr):Prop where
 step:(Jr.stepE r).length≤100000000
 inst:(Sf.instE 2 r.after).length≤100000000
 tok:r.tok.length≤2000000
 lens:r.after.attrs.lens
theorem a_jencode (r:Jr) (hl:JrLen r) (hd:r.after.deps.length≤1000000000) (hck:SCheck r.base) (hok:Sf.checkZ r.base=0→Sf.StOk r.base∧(Sf.stE 2 r.base).length+20≤1000000000) (h:Hp) :
  ACall Tryz.prog GT 10 [.agg r.cells] h fun v h'=>v = .tup [.str (Jr.enc r).1,.int .i64 (Jr.enc r).2]∧h'=h:=by
 have cv:=a_jvalid r hl.lens hd
 have ce:=a_Encode r.base hck hok
 obtain ⟨l1,l2,l3,l4⟩:=hl
 have hfin:∀ b:List UInt8,b.length≤300000000→(∀ h,ACall Tryz.prog GT 34 [.str [],.str b] h fun v h'=>v = .str (Wire.strE b)∧h'=h)∧(∀ h,ACall Tryz.prog GT 33 [.str (Wire.strE b)] h fun v h'=>v = .str (Crc.app (Wire.strE b))∧h'=h):=by
  intro b hb
  have hn:(Wire.num b.length).length≤10:=(Wire.encF_len 9 (Wire.zig b.length)).2
  have hs:(Wire.strE b).length≤300000010:=by unfold Wire.strE; rw [List.length_append]; omega
  refine ⟨fun h=>?_,fun h=>a_csAppend _ (by omega) h⟩
  have:=a_appS [] b (by simp only [List.length_nil]; omega) h
  rw [List.nil_append] at this
  exact this
 have nl:∀ n:Int,(Wire.num n).length≤10:=fun n=>(Wire.encF_len 9 (Wire.zig n)).2
 have sl:∀ s:List UInt8,(Wire.strE s).length≤s.length+10:=fun s=>by unfold Wire.strE; rw [List.length_append]; have:=nl s.length; omega
 by_cases hv:r.validB=true
 rotate_left
 ·have hv':r.validB=false:=by simpa using hv
  have he:Jr.enc r=([],1):=by unfold Jr.enc; rw [if_pos hv']
  rw [hv'] at cv
  rw [he]
  obtain ⟨kd,⟨lin,ser,ins,ps,os⟩,st,op,ad,dp,ty,tk,er,⟨a1,a2,a3,a4,⟨k,nn,ss,is,ks⟩,v,tn,fi,ds⟩⟩:=r
  simp only [Jr.cells,Sf.Inst.cells,List.cons_append,List.nil_append] at cv ⊢
  refine pcall ?_ rfl (by simp [A.pure,A.data]) h
  refine acall_of mixedT h_jencode (by simp [c_jencode]) ?_
  dsimp only [c_jencode]
  refine runc0 ti (ai cv ti) ?_
  exact ⟨_,le_refl _,rfl⟩
 rw [hv] at cv
 have henc:¬(r.kind=1∧(Sf.encode 2 r.base).2≠0)→Jr.enc r=if 1048576 < (Crc.app (Wire.strE r.body)).length then ([],3) else (Crc.app (Wire.strE r.body),0):=fun hne=>by unfold Jr.enc; rw [if_neg (by rw [hv]; decide),if_neg hne]
 have hk:=hv
 unfold Jr.validB at hk
 have hbad:¬ Jr.badB r=true:=fun e=>by rw [if_pos e] at hk; cases hk
 rw [if_neg hbad] at hk
 have fitE:(Sf.encode 2 r.base).2=0→(Sf.encode 2 r.base).1.length≤1048576:=by
  intro e
  unfold Sf.encode at e ⊢
  split
  ·simp
  split
  ·simp
  ·next h2=>simp only [Crc.app,List.length_append,Crc.four_length]; omega
 have hse:r.stepB=true→StepE r:=fun hs=>by
  unfold Jr.stepB at hs
  simp only [Bool.and_eq_true,decide_eq_true_eq] at hs
  obtain ⟨⟨⟨⟨s0,s1⟩,o0⟩,o1⟩,_⟩:=hs
  exact ⟨by omega,by omega,by omega,by omega⟩
 have hae:Jr.afterB r=true→Jr.InstE r.after:=fun ha=>Jr.afterB_enc (op:=r.op) (by unfold Jr.afterB at ha; exact ha)
 have cs:=fun (hs:r.stepB=true) (s:List UInt8) (hl:s.length≤100) B=>a_jwstep s r (hse hs) (by omega) (h:=⟨[B,jwB s],[]⟩) (i:=1) rfl
 have ci:=fun (ha:Jr.afterB r=true) (s:List UInt8) (hl:s.length≤200000000) B=>a_jwinst s r.after (hae ha) (by omega) l4 (h:=⟨[B,jwB s],[]⟩) (i:=1) rfl
 have hbody:r.body=Wire.num r.kind++Jr.restE r (Sf.encode 2 r.base).1:=rfl
 unfold Jr.restE at hbody
 obtain ⟨B,hB⟩:∃ B,(Sf.encode 2 r.base).1=B:=⟨_,rfl⟩
 obtain ⟨E,hE⟩:∃ E,(Sf.encode 2 r.base).2=E:=⟨_,rfl⟩
 rw [hB,hE] at ce
 rw [hB] at hbody
 rw [hE] at henc
 rw [hB,hE] at fitE
 obtain ⟨S1,hS1⟩:∃ S,Jr.stepE r=S:=⟨_,rfl⟩
 rw [hS1] at cs hbody l1
 obtain ⟨I1,hI1⟩:∃ S,Sf.instE 2 r.after=S:=⟨_,rfl⟩
 rw [hI1] at ci hbody l2
 obtain ⟨X,hX⟩:∃ X,r.body=X:=⟨_,rfl⟩
 rw [hX] at henc hbody
 have henc1:r.kind=1∧E≠0→Jr.enc r=([],E):=fun h1=>by unfold Jr.enc; rw [if_neg (by rw [hv]; decide),hE,if_pos h1]
 obtain ⟨N,hN⟩:∃ N,Jr.enc r=N:=⟨_,rfl⟩
 rw [hN] at henc henc1 ⊢
 have n0:=fun (B:Blk) (k:Int) (h0:-9223372036854775808≤k) (h1:k≤9223372036854775807)=>a_jwnum [] k (by simp) h0 h1 (h:=⟨[B,jwB []],[]⟩) (i:=1) rfl
 have nE:=fun (B:Blk) (s:List UInt8) (hs:s.length≤200000000) (k:Int) (h0:-9223372036854775808≤k) (h1:k≤9223372036854775807)=>a_jwnum s k (by omega) h0 h1 (h:=⟨[B,jwB s],[]⟩) (i:=1) rfl
 have nT:=fun (B:Blk) (s t:List UInt8) (hs:s.length≤200000000) (ht:t.length≤2000000)=>a_jwtext s t (by omega) (h:=⟨[B,jwB s],[]⟩) (i:=1) rfl
 clear hv hbad hX hN hS1 hI1 hB hE hck hok hd hse hae
 obtain ⟨kd,⟨lin,ser,ins,ps,os⟩,st,op,ad,dp,ty,tk,er,⟨a1,a2,a3,a4,⟨k,nn,ss,is,ks⟩,v,tn,fi,ds⟩⟩:=r
 dsimp only at hk hbody henc henc1 l3
 simp only [Jr.cells,Sf.Inst.cells,List.cons_append,List.nil_append,Sf.St.A,jwB,List.set_cons_succ,List.set_cons_zero] at cv ce cs ci n0 nE nT ⊢
 refine pcall ?_ rfl (by simp [A.pure,A.data]) h
 refine acall_of mixedT h_jencode (by simp [c_jencode]) ?_
 dsimp only [c_jencode]
 obtain ⟨kl,hkl⟩:∃ n,(Wire.num kd).length=n:=⟨_,rfl⟩
 have hkl2:kl≤10:=hkl ▸ nl kd
 by_cases k1:kd=1
 ·subst k1
  rw [if_pos rfl] at hbody
  by_cases hE0:E=0
  rotate_left
  ·have e1:(E != 0)=true:=by simp [hE0]
   rw [henc1 ⟨rfl,hE0⟩]
   refine runc0 ti (ai cv ti) ?_
   refine use (n0 _ 1 (by decide) (by decide)) ?_
   refine runc0 e1 (ai ce ti) ?_
   exact ⟨_,le_refl _,rfl⟩
  subst hE0
  have hBl:=fitE rfl
  have he:=henc (fun h1=>h1.2 rfl)
  obtain ⟨ca,cc⟩:=hfin X (by rw [hbody,List.length_append]; have:=sl B; omega)
  have ct:=fun Bx=>nT Bx (Wire.num 1) B (by omega) (by omega)
  rw [←hbody] at ct
  obtain ⟨Z,hZ⟩:∃ Z,Crc.app (Wire.strE X)=Z:=⟨_,rfl⟩
  rw [hZ] at cc he
  refine runc0 ti (ai cv ti) ?_
  refine use (n0 _ 1 (by decide) (by decide)) ?_
  refine runc0 ti (ai ce ti) ?_
  refine use (ct _) ?_
  by_cases g:(Z.length:Int) > 1048576
  ·rw [he,if_pos (by omega)]
   refine runc0 g (ai ca (ai cc ti)) ?_
   exact ⟨_,le_refl _,rfl⟩
  ·rw [he,if_neg (by omega)]
   refine runc0 g (ai ca (ai cc ti)) ?_
   exact ⟨_,le_refl _,rfl⟩
 have he:=henc (fun h1=>k1 h1.1)
 rw [if_neg k1] at hbody
 have f1:(kd == 1)=false:=by simp [k1]
 by_cases k2:kd=2
 ·subst k2
  rw [if_pos rfl] at hbody
  rw [if_neg (by rintro (h | h) <;> contradiction),if_pos rfl,Bool.and_eq_true,Bool.and_eq_true,Bool.and_eq_true] at hk
  have hs:=hk.1.1.1
  obtain ⟨ca,cc⟩:=hfin X (by rw [hbody,List.length_append,List.length_append]; have:=sl tk; omega)
  have c1:=fun Bx=>cs hs (Wire.num 2) (by omega) Bx
  have c2:=fun Bx=>nT Bx (Wire.num 2++S1) tk (by rw [List.length_append]; omega) (by omega)
  rw [List.append_assoc,←hbody] at c2
  obtain ⟨Z,hZ⟩:∃ Z,Crc.app (Wire.strE X)=Z:=⟨_,rfl⟩
  rw [hZ] at cc he
  refine runc0 ti (ai cv ti) ?_
  refine use (n0 _ 2 (by decide) (by decide)) ?_
  refine runc0 ti (ai cv ti) ?_
  refine use (c1 _) ?_
  refine runc0 ti (ai cv ti) ?_
  refine use (c2 _) ?_
  by_cases g:(Z.length:Int) > 1048576
  ·rw [he,if_pos (by omega)]
   refine runc0 g (ai ca (ai cc ti)) ?_
   exact ⟨_,le_refl _,rfl⟩
  ·rw [he,if_neg (by omega)]
   refine runc0 g (ai ca (ai cc ti)) ?_
   exact ⟨_,le_refl _,rfl⟩
 rw [if_neg k2] at hbody
 have f2:(kd == 2)=false:=by simp [k2]
 by_cases k3:kd=3
 ·subst k3
  rw [if_pos rfl] at hbody
  rw [if_neg (by rintro (h | h) <;> contradiction),if_neg k2,if_pos rfl,Bool.and_eq_true] at hk
  obtain ⟨ca,cc⟩:=hfin X (by rw [hbody,List.length_append,List.length_append]; omega)
  have c1:=fun Bx=>cs hk.1 (Wire.num 3) (by omega) Bx
  have c2:=fun Bx=>ci hk.2 (Wire.num 3++S1) (by rw [List.length_append]; omega) Bx
  rw [List.append_assoc,←hbody] at c2
  obtain ⟨Z,hZ⟩:∃ Z,Crc.app (Wire.strE X)=Z:=⟨_,rfl⟩
  rw [hZ] at cc he
  refine runc0 ti (ai cv ti) ?_
  refine use (n0 _ 3 (by decide) (by decide)) ?_
  refine runc0 ti (ai cv ti) ?_
  refine use (c1 _) ?_
  refine runc0 ti (ai cv ti) ?_
  refine use (c2 _) ?_
  by_cases g:(Z.length:Int) > 1048576
  ·rw [he,if_pos (by omega)]
   refine runc0 g (ai ca (ai cc ti)) ?_
   exact ⟨_,le_refl _,rfl⟩
  ·rw [he,if_neg (by omega)]
   refine runc0 g (ai ca (ai cc ti)) ?_
   exact ⟨_,le_refl _,rfl⟩
 rw [if_neg k3] at hbody
 have f3:(kd == 3)=false:=by simp [k3]
 by_cases k4:kd=4
 ·subst k4
  rw [if_pos rfl] at hbody
  rw [if_neg (by rintro (h | h) <;> contradiction),if_neg k2,if_neg k3,if_pos rfl,Bool.and_eq_true,Bool.and_eq_true,Bool.and_eq_true,decide_eq_true_eq,decide_eq_true_eq] at hk
  have ne:=nl er
  obtain ⟨ca,cc⟩:=hfin X (by rw [hbody,List.length_append,List.length_append,List.length_append]; omega)
  have c1:=fun Bx=>cs hk.1.1.1 (Wire.num 4) (by omega) Bx
  have c2:=fun Bx=>nE Bx (Wire.num 4++S1) (by rw [List.length_append]; omega) er (by omega) (by omega)
  have c3:=fun Bx=>ci hk.1.1.2 (Wire.num 4++S1++Wire.num er) (by rw [List.length_append,List.length_append]; omega) Bx
  have hb2:Wire.num 4++S1++Wire.num er++I1=X:=by rw [hbody]; simp only [List.append_assoc]
  rw [hb2] at c3
  obtain ⟨Z,hZ⟩:∃ Z,Crc.app (Wire.strE X)=Z:=⟨_,rfl⟩
  rw [hZ] at cc he
  refine runc0 ti (ai cv ti) ?_
  refine use (n0 _ 4 (by decide) (by decide)) ?_
  refine runc0 ti (ai cv ti) ?_
  refine use (c1 _) ?_
  refine runc0 ti (ai cv ti) ?_
  refine use (c2 _) ?_
  refine runc0 ti (ai cv ti) ?_
  refine use (c3 _) ?_
  by_cases g:(Z.length:Int) > 1048576
  ·rw [he,if_pos (by omega)]
   refine runc0 g (ai ca (ai cc ti)) ?_
   exact ⟨_,le_refl _,rfl⟩
  ·rw [he,if_neg (by omega)]
   refine runc0 g (ai ca (ai cc ti)) ?_
   exact ⟨_,le_refl _,rfl⟩
 rw [if_neg k4,List.append_nil] at hbody
 have f4:(kd == 4)=false:=by simp [k4]
 have k5:kd=5:=by
  by_cases k5:kd=5
  ·exact k5
  ·rw [if_neg (by rintro (h | h) <;> contradiction),if_neg k2,if_neg k3,if_neg k4] at hk
   cases hk
 subst k5
 obtain ⟨ca,cc⟩:=hfin X (by rw [hbody]; omega)
 have n5:=fun Bx=>n0 Bx 5 (by decide) (by decide)
 rw [←hbody] at n5
 obtain ⟨Z,hZ⟩:∃ Z,Crc.app (Wire.strE X)=Z:=⟨_,rfl⟩
 rw [hZ] at cc he
 refine runc0 ti (ai cv ti) ?_
 refine use (n5 _) ?_
 by_cases g:(Z.length:Int) > 1048576
 ·rw [he,if_pos (by omega)]
  refine runc0 g (ai ca (ai cc ti)) ?_
  exact ⟨_,le_refl _,rfl⟩
 ·rw [he,if_neg (by omega)]
  refine runc0 g (ai ca (ai cc ti)) ?_
  exact ⟨_,le_refl _,rfl⟩
theorem t_rEqual:∀ (v v':V),v.lens→v'.lens→∀ h,ACall Tryz.prog GT 103 [v.A,v'.A] h fun r h'=>r = .bool (Val.eqB v v')∧h'=h:=by
 refine V.induct fun k n s is ks ih=>?_
 rintro ⟨k',n',s',is',ks'⟩ hlen hlen' h
 refine pcall ?_ rfl (by simp [V.A,V.cells,A.pure,A.data]) h
 refine fo ?_
 obtain ⟨hil,hkl,_,hmem⟩:=V.lens_mk hlen
 obtain ⟨hil',hkl',_,hmem'⟩:=V.lens_mk hlen'
 have hE:Val.eqB (.mk k n s is ks) (.mk k' n' s' is' ks')=(k == k'&&n == n'&&s == s'&&ks == ks'&&Val.eqBs is is'):=by rw [Val.eqB]
 have hno:∀ b,b=false→Val.eqB (.mk k n s is ks) (.mk k' n' s' is' ks')=b→True:=fun _ _ _=>trivial
 by_cases h1:k=k'
 rotate_left
 ·have e1:(k != k')=true:=by simp [h1]
  refine go0 (ai @V_A (ai @V_cells e1)) ?_
  exact ⟨_,le_refl _,by rw [tupA_1,hE,beq_eq_false_iff_ne.2 h1]; rfl⟩
 have e1:(k != k')=false:=by simp [h1]
 by_cases h2:n=n'
 rotate_left
 ·have e2:(n != n')=true:=by simp [h2]
  refine go0 (ai @V_A (ai @V_cells (ai e1 e2))) ?_
  exact ⟨_,le_refl _,by rw [tupA_1,hE,beq_eq_false_iff_ne.2 h2]; simp⟩
 have e2:(n != n')=false:=by simp [h2]
 by_cases h3:s=s'
 rotate_left
 ·have e3:(s != s')=true:=by simp [h3]
  refine go0 (ai @V_A (ai @V_cells (ai e1 (ai e2 e3)))) ?_
  exact ⟨_,le_refl _,by rw [tupA_1,hE,beq_eq_false_iff_ne.2 h3]; simp⟩
 have e3:(s != s')=false:=by simp [h3]
 by_cases h4:is.length=is'.length
 rotate_left
 ·have e4:((is.length:Int) != (is'.length:Int))=true:=by simp; omega
  have hb:Val.eqBs is is'=false:=by rw [Bool.eq_false_iff]; exact fun e=>h4 (eqBs_len e)
  refine go0 (ai @V_A (ai @V_cells (ai e1 (ai e2 (ai e3 (ai @V.cellss_length e4)))))) ?_
  exact ⟨_,le_refl _,by rw [tupA_1,hE,hb]; simp⟩
 have e4:((is.length:Int) != (is'.length:Int))=false:=by simp [h4]
 by_cases h5:ks.length=ks'.length
 rotate_left
 ·have e5:((ks.length:Int) != (ks'.length:Int))=true:=by simp; omega
  have hb:(ks == ks')=false:=by rw [beq_eq_false_iff_ne]; rintro rfl; exact h5 rfl
  refine go0 (ai @V_A (ai @V_cells (ai e1 (ai e2 (ai e3 (ai @V.cellss_length (ai e4 (ai @strsA_length e5)))))))) ?_
  exact ⟨_,le_refl _,by rw [tupA_1,hE,hb]; simp⟩
 have e5:((ks.length:Int) != (ks'.length:Int))=false:=by simp [h5]
 have hE2:Val.eqB (.mk k n s is ks) (.mk k' n' s' is' ks')=(ks == ks'&&Val.eqBs is is'):=by rw [hE]; simp [h1,h2,h3]
 refine go0 (ai @V_A (ai @V_cells (ai e1 (ai e2 (ai e3 (ai @V.cellss_length (ai e4 (ai @strsA_length e5)))))))) ?_
 refine awp_loop (fun m ts hh=>hh=⟨[.cells 34 [.int .i64 k,.int .i64 n,.str s,.sl 5 .no (V.cellss is),.sl 1 .no (strsA ks)],.cells 34 [.int .i64 k',.int .i64 n',.str s',.sl 5 .no (V.cellss is'),.sl 1 .no (strsA ks')]],[]⟩∧∃ (i:Nat),m=ks.length - i∧i≤ks.length∧(ks.drop i == ks'.drop i)=(ks == ks')∧ts 2 = .ptr 0 0∧ts 3 = .ptr 1 0∧ts 5 = .int .i64 i) ks.length ?_ ?_
 ·refine ⟨rfl,0,rfl,Nat.zero_le _,rfl,?_⟩
  (exact inv0 @strsA_length)
 ·rintro m ts hh ⟨rfl,i,rfl,hi,heq,t2,t3,t5⟩
  by_cases hlt:i < ks.length
  ·have hla:(i:Int) < ((strsA ks).length:Int):=by rw [strsA_length]; omega
   have hlb:(i:Int) < ((strsA ks').length:Int):=by rw [strsA_length]; omega
   have ei:IntKind.i64.wrap ((i:Int)+1)=(i:Int)+1:=wrap64 (by omega) (by omega)
   have ea:=strsA_get ks i hlt
   have eb:=strsA_get ks' i (by omega)
   rw [List.drop_eq_getElem_cons hlt,List.drop_eq_getElem_cons (by omega:i < ks'.length)] at heq
   refine go0 (ai t2 (ai t3 (ai t5 hla))) ?_
   refine awp_quiet (by decide) ?_
   by_cases hc:ks[i]=ks'[i]
   ·have hc':(ks[i] != ks'[i])=false:=by simp [hc]
    refine go0 (ai t2 (ai t3 (ai t5 (ai hla (ai hlb (ai ea (ai eb (ai hc' ei)))))))) ?_
    refine ⟨ks.length - (i+1),by omega,rfl,i+1,rfl,by omega,?_,?_⟩
    ·rw [←heq,List.cons_beq_cons,hc,beq_self_eq_true,Bool.true_and]
    ·(exact inv0 (ai t2 (ai t3 (ai t5 ei))))
   ·have hc':(ks[i] != ks'[i])=true:=by simp [hc]
    refine go0 (ai t2 (ai t3 (ai t5 (ai hla (ai hlb (ai ea (ai eb (ai hc' ei)))))))) ?_
    exact ⟨_,le_refl _,by rw [tupA_1,hE2,←heq,List.cons_beq_cons,beq_eq_false_iff_ne.2 hc]; simp⟩
  ·have hla:¬ (i:Int) < ((strsA ks).length:Int):=by rw [strsA_length]; omega
   rw [List.drop_of_length_le (by omega),List.drop_of_length_le (by omega)] at heq
   have hE3:Val.eqB (.mk k n s is ks) (.mk k' n' s' is' ks')=Val.eqBs is is':=by rw [hE2,←heq]; simp
   refine go0 (ai t2 (ai t3 (ai t5 hla))) ?_
   refine awp_loop (fun m ts hh=>hh=⟨[.cells 34 [.int .i64 k,.int .i64 n,.str s,.sl 5 .no (V.cellss is),.sl 1 .no (strsA ks)],.cells 34 [.int .i64 k',.int .i64 n',.str s',.sl 5 .no (V.cellss is'),.sl 1 .no (strsA ks')]],[]⟩∧∃ (i:Nat),m=is.length - i∧i≤is.length∧Val.eqBs (is.drop i) (is'.drop i)=Val.eqBs is is'∧ts 2 = .ptr 0 0∧ts 3 = .ptr 1 0∧ts 6 = .int .i64 i) is.length ?_ ?_
   ·refine ⟨rfl,0,rfl,Nat.zero_le _,rfl,?_⟩
    (exact inv0 (ai @strsA_length (ai t2 t3)))
   ·clear heq
    rintro m ts hh ⟨rfl,i,rfl,hi,heq,t2,t3,t6⟩
    by_cases hlt:i < is.length
    ·have hla:(i:Int) < ((V.cellss is).length:Int):=by rw [V.cellss_length]; omega
     have hlb:(i:Int) < ((V.cellss is').length:Int):=by rw [V.cellss_length]; omega
     have ei:IntKind.i64.wrap ((i:Int)+1)=(i:Int)+1:=wrap64 (by omega) (by omega)
     have ea:=V.cellss_get is i hlt
     have eb:=V.cellss_get is' i (by omega)
     have hcall:=fun (h:Hp)=>ih is[i] (List.getElem_mem hlt) (is'[i]'(by omega)) (hmem _ (List.getElem_mem hlt)) (hmem' _ (List.getElem_mem (by omega))) h
     rw [List.drop_eq_getElem_cons hlt,List.drop_eq_getElem_cons (by omega:i < is'.length),Val.eqBs] at heq
     obtain ⟨⟨k1,n1,s1,is1,ks1⟩,hv⟩:∃ x,is[i]=x:=⟨_,rfl⟩
     obtain ⟨⟨k2,n2,s2,is2,ks2⟩,hv2⟩:∃ x,is'[i]'(by omega)=x:=⟨_,rfl⟩
     rw [hv] at ea hcall heq
     rw [hv2] at eb hcall heq
     simp only [V.A,V.cells] at hcall
     refine go0 (ai @V_cells (ai t2 (ai t3 (ai t6 hla)))) ?_
     refine awp_quiet (by decide) ?_
     refine go0 (ai @V_cells (ai t2 (ai t3 (ai t6 (ai hla (ai hlb (ai ea eb))))))) ?_
     refine gq_call (by simp only [put_app,put_none,init_app,evX_t,evX_c,resA_nil,resA_t,resA_c,tupA_0,tupA_1,tupA_2,astep,bop,uop,loadA,storeA,appA,ssliceA,eqA,eqCells,fillA,rowsA,setCells,A.cells,A.one,A.data,optP_some,List.all_cons,List.all_nil,Bool.and_true,Bool.true_and,Option.map_some,Option.map_none,Option.bind_some,Option.bind_none,Option.getD_some,Option.getD_none,List.map_cons,List.map_nil,List.getD_cons_zero,List.getD_cons_succ,List.getElem?_cons_zero,List.getElem?_cons_succ,List.length_cons,List.length_nil,List.nil_append,List.cons_append,List.append_nil,List.set_cons_zero,List.set_cons_succ,List.drop_zero,List.drop_succ_cons,List.take_succ_cons,List.take_zero,List.take_nil,List.length_append,List.length_set,Nat.reduceAdd,Nat.reduceSub,Nat.reduceMul,Nat.reduceLeDiff,Nat.reduceEqDiff,Nat.reduceBEq,Int.toNat_natCast,Int.natCast_nonneg,if_true,if_false,reduceIte,ite_true,ite_false,true_and,and_true,ne_eq,not_true_eq_false,not_false_eq_true,Bool.false_eq_true,reduceCtorEq,and_self,Nat.zero_add,Nat.add_zero,Nat.le_refl,Bool.not_true,Bool.not_false,decide_true,decide_false,t2,t3,t6] <;> with_reducible rfl) (hcall _) ?_
     rcases bool_or (Val.eqB (.mk k1 n1 s1 is1 ks1) (.mk k2 n2 s2 is2 ks2)) with hz | hz
     ·rw [hz] at heq ⊢
      refine go0 (ai t2 (ai t3 (ai t6 ei))) ?_
      refine ⟨is.length - (i+1),by omega,rfl,i+1,rfl,by omega,by simpa using heq,?_⟩
      (exact inv0 (ai t2 (ai t3 (ai t6 ei))))
     ·rw [hz] at heq ⊢
      refine go0 (ai t2 (ai t3 (ai t6 ei))) ?_
      exact ⟨_,le_refl _,by rw [tupA_1,hE3,←heq]; rfl⟩
    ·have hla:¬ (i:Int) < ((V.cellss is).length:Int):=by rw [V.cellss_length]; omega
     rw [List.drop_of_length_le (by omega),List.drop_of_length_le (by omega)] at heq
     refine go0 (ai t2 (ai t3 (ai t6 hla))) ?_
     exact ⟨_,le_refl _,by rw [tupA_1,hE3,←heq]; rfl⟩
end AX
namespace Jr
end Jr
namespace AX
section
variable {P:Program} {G:World→Prop} {C:Ctx} {h:Hp}
end
end AX
theorem clone_strs0 (a:Option Addr) (c:Nat) (w:World) :
  Calls Tryz.prog 135 #[.slice a 0 c] w fun e w'=>(∃ a' c',e = .returned (.slice a' 0 c'))∧Below w.heap.size w w':=by
 have q22:∀ (w:World) (a:Option Addr) (n c n' c':Nat),(binOp .eql 32 (.slice a n c) (.slice none n' c')).run Tryz.prog w = .ok (.bool a.isNone) w:=fun w a n c n' c'=>Lib.run_eql_slice_nil w _ _ a n c n' c' Tryz.underlying32
 have u22:∀ w,Sem.run Tryz.prog (underlying 32) w = .ok (TypeDesc.slice 9) w:=run_underlying Tryz.underlying32
 cases a with
 | none =>
  go_enter Tryz.func135,Tryz.ntmps135
  go_wp2
  go_ret
  exact ⟨⟨_,_,rfl⟩,Below.refl _ _⟩
 | some ad =>
  obtain ⟨i0,hi,hz0,hz1,hz2⟩:=info_parts (show (Tryz.prog.info? 9).map (fun i=>(i.zero,i.size,i.bytes))=some (some (.string ⟨#[]⟩),1,16) by kernel_rfl)
  go_enter Tryz.func135,Tryz.ntmps135
  go_wp2_with (at_builtin; refine wpList_append_own _ rfl _ _ 32 rfl w.heap.size 9 i0 (.string ⟨#[]⟩) 1 16 Tryz.underlying32 hi hz0 hz1 hz2 rfl (by decide) _ _ _ rfl (World.ownsRow_made w #[] 0 (Nat.le_refl _) (Nat.zero_le _) rfl) ad 0 c [] rfl rfl (by intro j u hj; simp at hj) (by intro u hu; cases hu) (by unfold maxLen; omega) (by omega) (by simp) ?_)
  intro v' w1 hown hgrow hnil
  have Hb:=kept (((Below.refl _ w).alloc (Nat.le_refl _) (.cells #[] 9)).grown hgrow (by simp) (by intro k hk; simp [Value.ownBlock] at hk; omega))
  have Hv:∃ a' c',v' = .slice a' 0 c':=by
   rcases hown.2 with ⟨rfl,_⟩ | ⟨g,cap,cur,rfl,_⟩
   ·exact ⟨_,_,rfl⟩
   ·exact ⟨_,_,rfl⟩
  obtain ⟨a',c',rfl⟩:=Hv
  clear hown hgrow hnil
  go_wp2
  go_ret
  exact ⟨⟨_,_,rfl⟩,Hb.out⟩
namespace AX
theorem a_clone_strs0 (W0:Nat) (o:Own) (h:Hp):ACall Tryz.prog GT 135 [.sl W0 o []] h fun v h'=>v = .sl 1 .no []∧h'=h:=by
 intro C es hI ha
 obtain ⟨c,es',rfl,h1,h2⟩:=repL_cons.1 ha
 rw [repL_nil] at h2; subst h2
 obtain ⟨a,cap,rfl,_,_,_⟩:=rep_sl.1 h1
 refine (clone_strs0 a cap C.w).mono ?_
 rintro e w' ⟨⟨a',c',rfl⟩,hb⟩
 obtain ⟨i1,s1⟩:=inv_below hI hb
 exact ⟨C.at w',h,.sl 1 .no [],_,rfl,rfl,i1,s1,rep_sl.2 ⟨a',c',rfl,Nat.zero_le _,by unfold RepRows; trivial,trivial⟩,rfl,rfl⟩
end AX
theorem clone_pend0 (a:Option Addr) (c:Nat) (w:World) :
  Calls Tryz.prog 96 #[.slice a 0 c] w fun e w'=>(∃ a' c',e = .returned (.slice a' 0 c'))∧Below w.heap.size w w':=by
 have q22:∀ (w:World) (a:Option Addr) (n c n' c':Nat),(binOp .eql 24 (.slice a n c) (.slice none n' c')).run Tryz.prog w = .ok (.bool a.isNone) w:=fun w a n c n' c'=>Lib.run_eql_slice_nil w _ _ a n c n' c' Tryz.underlying24
 have u22:∀ w,Sem.run Tryz.prog (underlying 24) w = .ok (TypeDesc.slice 140) w:=run_underlying Tryz.underlying24
 cases a with
 | none =>
  go_enter Tryz.func96,Tryz.ntmps96
  go_wp2
  go_ret
  exact ⟨⟨_,_,rfl⟩,Below.refl _ _⟩
 | some ad =>
  obtain ⟨i0,hi,hz0,hz1,hz2⟩:=info_parts (show (Tryz.prog.info? 140).map (fun i=>(i.zero,i.size,i.bytes))=some (some (.agg #[.string ⟨#[]⟩,.string ⟨#[]⟩,.string ⟨#[]⟩]),3,48) by kernel_rfl)
  go_enter Tryz.func96,Tryz.ntmps96
  go_wp2_with (at_builtin; refine wpList_append_own _ rfl _ _ 24 rfl w.heap.size 140 i0 (.agg #[.string ⟨#[]⟩,.string ⟨#[]⟩,.string ⟨#[]⟩]) 3 48 Tryz.underlying24 hi hz0 hz1 hz2 rfl (by decide) _ _ _ rfl (World.ownsRow_made w #[] 0 (Nat.le_refl _) (Nat.zero_le _) rfl) ad 0 c [] rfl rfl (by intro j u hj; simp at hj) (by intro u hu; cases hu) (by unfold maxLen; omega) (by omega) (by simp) ?_)
  intro v' w1 hown hgrow hnil
  have Hb:=kept (((Below.refl _ w).alloc (Nat.le_refl _) (.cells #[] 140)).grown hgrow (by simp) (by intro k hk; simp [Value.ownBlock] at hk; omega))
  have Hv:∃ a' c',v' = .slice a' 0 c':=by
   rcases hown.2 with ⟨rfl,_⟩ | ⟨g,cap,cur,rfl,_⟩
   ·exact ⟨_,_,rfl⟩
   ·exact ⟨_,_,rfl⟩
  obtain ⟨a',c',rfl⟩:=Hv
  clear hown hgrow hnil
  go_wp2
  go_ret
  exact ⟨⟨_,_,rfl⟩,Hb.out⟩
namespace AX
theorem a_clone_pend0 (W0:Nat) (o:Own) (h:Hp):ACall Tryz.prog GT 96 [.sl W0 o []] h fun v h'=>v = .sl 3 .no []∧h'=h:=by
 intro C es hI ha
 obtain ⟨c,es',rfl,h1,h2⟩:=repL_cons.1 ha
 rw [repL_nil] at h2; subst h2
 obtain ⟨a,cap,rfl,_,_,_⟩:=rep_sl.1 h1
 refine (clone_pend0 a cap C.w).mono ?_
 rintro e w' ⟨⟨a',c',rfl⟩,hb⟩
 obtain ⟨i1,s1⟩:=inv_below hI hb
 exact ⟨C.at w',h,.sl 3 .no [],_,rfl,rfl,i1,s1,rep_sl.2 ⟨a',c',rfl,Nat.zero_le _,by unfold RepRows; trivial,trivial⟩,rfl,rfl⟩
end AX
namespace AX
end AX
end Go.Proofs.YtahmpiioegemaaaGreatDoor
