/- Part of what the proof needs. -/
import Derived.Test.YtahmpiioegemaaaGreatDoorMFrJournalPrefixUptoW
set_option maxHeartbeats 4000000
set_option linter.unusedSimpArgs false
set_option linter.unusedVariables false
set_option linter.unnecessarySimpa false
namespace Go.Proofs.YtahmpiioegemaaaGreatDoor
open Go.RowKit
namespace AX
def c_logged35:AX.AFn:=⟨32,aS [aR 2 (.mv (.c (.nilp))),aR 3 (.mv (.c (.sl 0 .nil []))),aR 4 (.mv (.c (.bool false)))] (aS [aR 8 (.call 16 []),aM 5 8] (.seq (aS [aM 9 5,aR 10 (.eq 1 [] false (.t 9) (.c (.nilp)))] (.cond (.t 10) (aS [aR 2 (.mv (.c (.nilp))),aR 3 (.mv (.c (.sl 0 .nil []))),aR 4 (.mv (.c (.bool false)))] (.ret)) (.skip))) (aS [aR 6 (.mv (.c (.sl 0 .nil [])))] (.seq (aS [aR 7 (.mv (aI 0))] (.block 0 (.loop (.seq (aS [aM 11 7,aM 12 0,aR 13 (.len false (.t 12)),aR 14 (.bin .lss (.t 11) (.t 13))] (.cond (.t 14) (.skip) (.exit 0))) (.seq (.block 1 (aS [aM 17 5,aM 18 0,aM 19 7,aR 20 (.iaddr 26 (.t 18) (.t 19)),aR 21 (.load true 26 (.t 20)),aR 22 (.call 18 [.t 17,.t 21]),aR 23 (.bin .eql (.t 22) (aI 0))] (.cond (.t 23) (.reg false [aM 24 6,aM 25 5,aR 26 (.call 19 [.t 25]),aR 27 (.len true (.t 26)),aR 28 (.mks 1 [.t 27]),aR 29 (.app 3 1 8 (.t 24) (.t 28)),aM 6 29]) (.skip)))) (.reg false [aM 15 7,aR 16 (.bin .add (.t 15) (aI 1)),aM 7 16])))))) (aS [aM 30 5,aM 31 6,aM 2 30,aM 3 31,aR 4 (.mv (.c (.bool true)))] (.ret)))))),[.t 2,.t 3,.t 4]⟩
theorem h_logged35:AX.compFn Tryz.prog 21=some c_logged35:=by kernel_rfl
def c_prefix35:AX.AFn:=⟨103,aS [aR 4 (.mv (.c (.bool false)))] (.seq (aS [aM 17 0,aR 18 (.call 15 [.t 17]),aR 19 (.un .not (.t 18))] (.cond (.t 19) (aS [aR 20 (.call 9 []),aM 4 20] (.ret)) (.skip))) (aS [aM 22 0,aR 23 (.call 21 [.t 22]),aM 21 23,aE 24 21 0,aE 25 21 1,aE 26 21 2,aM 5 24,aM 6 25,aM 7 26] (.seq (aS [aM 27 7,aR 28 (.un .not (.t 27))] (.cond (.t 28) (aS [aR 4 (.mv (.c (.bool false)))] (.ret)) (.skip))) (aS [aM 29 5,aR 30 (.call 19 [.t 29]),aM 8 30] (aS [aM 31 1,aR 32 (.conv .i64 (.t 31)),aM 33 8,aR 34 (.len true (.t 33)),aR 35 (.bin .add (.t 34) (aI 1)),aR 36 (.bin .rem (.t 32) (.t 35)),aM 9 36] (aS [aR 10 (.mv (aI 0)),aR 11 (.mv (aI 0))] (.seq (aS [aR 12 (.mv (aI 0))] (.block 0 (.loop (.seq (aS [aM 37 12,aM 38 6,aR 39 (.len false (.t 38)),aR 40 (.bin .lss (.t 37) (.t 39))] (.cond (.t 40) (.skip) (.exit 0))) (.seq (.block 1 (aS [aM 43 6,aM 44 12,aR 45 (.iaddr 1 (.t 43) (.t 44)),aL 46 45,aM 47 9,aR 48 (.bin .leq (.t 46) (.t 47))] (.cond (.t 48) (.reg true [aM 49 12,⟨some 50,.bin .add (.t 49) (aI 1),none,[0]⟩,aM 51 6,aM 52 12,⟨some 53,.iaddr 1 (.t 51) (.t 52),none,[2,3]⟩,⟨some 54,.load false 1 (.t 53),none,[4]⟩,⟨some 10,.mv (.t 50),none,[1,0,1]⟩,⟨some 11,.mv (.t 54),none,[5,6,0,1,2,3,4,5,6]⟩]) (.skip)))) (.reg false [aM 41 12,aR 42 (.bin .add (.t 41) (aI 1)),aM 12 42])))))) (aS [aM 56 8,aR 57 (.call 12 [.t 56]),aM 55 57,aE 58 55 0,aE 59 55 1,aM 13 58,aM 14 59] (aS [aM 61 8,aM 62 9,aR 63 (.ssl (.t 61) none (some (.t 62))),aR 64 (.call 12 [.t 63]),aM 60 64,aE 65 60 0,aE 66 60 1,aM 15 65,aM 16 66] (.seq (aS [aM 67 14,aM 68 8,aR 69 (.len true (.t 68)),aR 70 (.bin .neq (.t 67) (.t 69)),aM 71 70,aG 72 (.mv (.t 13)) 71 false,aG 73 (.len false (.t 72)) 71 false,aG 74 (.mv (.t 6)) 71 false,aG 75 (.len false (.t 74)) 71 false,aG 76 (.bin .neq (.t 73) (.t 75)) 71 false,aR 77 (.pick (.t 71) (.c (.bool true)) (.t 76)),aM 78 77,aG 79 (.mv (.t 16)) 78 false,aG 80 (.mv (.t 11)) 78 false,aG 81 (.bin .neq (.t 79) (.t 80)) 78 false,aR 82 (.pick (.t 78) (.c (.bool true)) (.t 81)),aM 83 82,aG 84 (.mv (.t 15)) 83 false,aG 85 (.len false (.t 84)) 83 false,aG 86 (.mv (.t 10)) 83 false,aG 87 (.bin .neq (.t 85) (.t 86)) 83 false,aR 88 (.pick (.t 83) (.c (.bool true)) (.t 87))] (.cond (.t 88) (aS [aR 4 (.mv (.c (.bool false)))] (.ret)) (.skip))) (aS [aM 89 13,aM 90 5,aR 91 (.call 20 [.t 90]),aR 92 (.call 14 [.t 89,.t 91]),aM 93 92,aG 94 (.mv (.t 15)) 93 true,aG 95 (.mv (.t 13)) 93 true,aG 96 (.mv (.t 10)) 93 true,aG 97 (.slsl 26 (.t 95) none (some (.t 96))) 93 true,aG 98 (.call 14 [.t 94,.t 97]) 93 true,aR 99 (.pick (.t 93) (.t 98) (.c (.bool false))),aM 100 99,aG 101 (.call 9 []) 100 true,aR 102 (.pick (.t 100) (.t 101) (.c (.bool false))),aM 4 102] (.ret)))))))))))),[.t 4]⟩
theorem h_prefix35:AX.compFn Tryz.prog 6=some c_prefix35:=by kernel_rfl
def rowsN (l:List Nat):List (List A):=l.map fun n=>[A.int .i64 (n:Nat)]
theorem rowsN_len (l:List Nat):(rowsN l).length=l.length:=List.length_map _
theorem a_logged (l:List Jr) (ok:∀ a∈l,JrOk a) (hl:l.length≤1000000) :
  ACall Tryz.prog GT 21 [.sl 26 .no (l.map Jr.cells)] ⟨[],[]⟩ fun v h'=>v = .tup [.ptr 0 0,.sl 1 .no (rowsN (Jr.offs (Jr.logF l [] []).2)),.bool true]∧∃ t,h'=⟨[lgB (Jr.logF l [] []).1],t⟩:=by
 refine acall_of mixedT h_logged35 (by simp [c_logged35]) ?_
 dsimp only [c_logged35]
 have li:(l.map Jr.cells).length=l.length:=List.length_map _
 refine run0 ti ?_
 refine use (a_jlnew _) ?_
 refine run0 ti ?_
 refine awp_loop (fun m ts hh=>∃ (i:Nat) (ks:List Jr) (W:Nat) (o:Own) (t:List (TypeId×Nat×Nat)),m=l.length - i∧i≤l.length∧hh=⟨[lgB (Jr.encs ks)],t⟩∧Jr.logF (l.drop i) (Jr.encs ks) ks=Jr.logF l [] []∧(Jr.encs ks).length≤1048576∧ks.length≤i∧Gs 3 1 0 ⟨[],t⟩ (rowsN (Jr.offs ks)) (.sl W o (rowsN (Jr.offs ks))) ∧
  (ts 0 = .sl 26 .no (l.map Jr.cells)∧ts 5 = .ptr 0 0∧ts 6 = .sl W o (rowsN (Jr.offs ks))∧ts 7 = .int .i64 (i:Nat))) l.length ?_ ?_
 ·exact ⟨0,[],0,.nil,[],by omega,by omega,rfl,rfl,by simp [Jr.encs],by simp,.inl ⟨rfl,rfl⟩,by (exact inv0 ti)⟩
 rintro m ts hh ⟨i,ks,W,o,t,rfl,hi,rfl,hF,hbl,hkl,gX,ht⟩
 rcases Nat.lt_or_ge i l.length with hlt | hge
 ·have hf:=rowj_at Jr.cells l i hlt (by omega)
  have okr:=ok _ (List.getElem_mem hlt)
  rw [List.drop_eq_getElem_cons hlt,Jr.logF_cons] at hF
  obtain ⟨r,hr⟩:∃ r,l[i]=r:=⟨_,rfl⟩
  rw [hr] at hf okr hF
  have cA:=fun l' t=>a_jlapp hbl r (enc_size r) okr.encP (h:=⟨lgB (Jr.encs ks)::l',t⟩) (i:=0) rfl
  simp only [List.set_cons_zero] at cA
  have hz:=fun h=>Jr.appE_zero (b:=Jr.encs ks) (r:=r) h
  have hn:=fun h=>Jr.appE_not (b:=Jr.encs ks) (r:=r) h
  have hsn:=Jr.encs_snoc ks r
  have hes:=Jr.offs_snoc ks r
  have hel:=Jr.offs_len ks
  obtain ⟨⟨b',e⟩,hE⟩:∃ q,Jr.appE (Jr.encs ks) r=q:=⟨_,rfl⟩
  rw [hE] at cA hF hz hn
  dsimp only at cA hF hz hn
  by_cases e0:e=0
  ·subst e0
   obtain ⟨_,h2,h3⟩:=hz rfl
   rw [←hsn] at h2
   subst h2
   rw [if_pos rfl] at hF
   have cB:=fun l' t=>a_jlb (l:=Jr.encs (ks++[r])) (h:=⟨lgB (Jr.encs (ks++[r]))::l',t⟩) (i:=0) rfl
   have hbl':(Jr.encs (ks++[r])).length≤1048576:=by rw [hsn,List.length_append]; exact h3
   obtain ⟨W',o',t',hX,gX',kX⟩:=gX.grow 8 [.int .i64 ((Jr.encs (ks++[r])).length:Nat)] (by rw [rowsN_len,hel]; omega) (by decide)
   have em:rowsN (Jr.offs ks)++[[A.int .i64 ((Jr.encs (ks++[r])).length:Nat)]]=rowsN (Jr.offs (ks++[r])):=by rw [hes]; simp [rowsN]
   rw [em] at gX'
   simp only [em] at hX
   have hkl2:(ks++[r]).length≤i+1:=by simp; omega
   obtain ⟨ks2,hks⟩:∃ q,ks++[r]=q:=⟨_,rfl⟩
   rw [hks] at gX' hF cA cB hkl2 hbl' hX
   clear hks em hz hn okr hr hsn hes hE
   obtain ⟨kd,⟨lin,ser,ins,ps,os⟩,st,op,ad,dp,ty,tk,er,⟨a1,a2,a3,a4,⟨k,nn,ss,is,ks'⟩,v,tn,fi,ds⟩⟩:=r
   simp only [Jr.cells,Sf.Inst.cells,List.cons_append,List.nil_append] at hf cA
   refine runc0 (ai ht (ai hf hX)) (ai cA (ai cB ti)) ?_
   exact ⟨_,by omega,i+1,ks2,W',o',t',rfl,by omega,rfl,hF,hbl',hkl2,gX',by (exact inv0 (ai ht (ai hf hX)))⟩
  ·have e1:(e == 0)=false:=by simp [e0]
   rw [if_neg e0,hn e0] at hF
   rw [hn e0] at cA
   clear hz hn okr hr hsn hes hE
   obtain ⟨kd,⟨lin,ser,ins,ps,os⟩,st,op,ad,dp,ty,tk,er,⟨a1,a2,a3,a4,⟨k,nn,ss,is,ks'⟩,v,tn,fi,ds⟩⟩:=r
   simp only [Jr.cells,Sf.Inst.cells,List.cons_append,List.nil_append] at hf cA
   refine runc0 (ai ht (ai hf e1)) (ai cA ti) ?_
   exact ⟨_,by omega,i+1,ks,W,o,t,rfl,by omega,rfl,hF,hbl,by omega,gX,by (exact inv0 (ai ht hf))⟩
 have hf:=rowj_end Jr.cells l i hge
 rw [List.drop_of_length_le hge] at hF
 have hF:(Jr.encs ks,ks)=Jr.logF l [] []:=hF
 rw [←hF]
 refine run0 (ai ht hf) ?_
 exact ⟨.tup [.ptr 0 0,.sl 1 .no (rowsN (Jr.offs ks)),.bool true],⟨le2_refl _,Gs.le gX,le2_refl _,trivial⟩,rfl,_,rfl⟩
theorem rowsN_at (l:List Nat) (i:Nat) (h:i < l.length) (hl:l.length≤4611686018427387904):(rowsN l).length=l.length∧(i:Int) < (l.length:Int)∧(0:Int)≤(i:Int)∧(rowsN l).getD i []=[.int .i64 (l[i]:Nat)]∧IntKind.i64.wrap ((i:Int)+1)=((i+1:Nat):Int):=
 rowj_at (fun n:Nat=>[A.int .i64 (n:Nat)]) l i h hl
theorem w_prefix (l:List Jr) (ok:∀ a∈l,JrOk a) (hl:l.length≤1000000000) (n:Int) (n0:0≤n) (n1:n≤65535) :
  ACall Tryz.prog GT 6 [.sl 26 .no (l.map Jr.cells),.int .u16 n] ⟨[],[]⟩ fun r _=>r = .bool true:=by
 have cf:=a_jfew l (fun a ha=>(ok a ha).fit) (by omega)
 have aw:=aw35
 obtain ⟨b,hb⟩:∃ b,fewJ l=b:=⟨_,rfl⟩
 rw [hb] at cf
 refine acall_of mixedT h_prefix35 (by simp [c_prefix35]) ?_
 dsimp only [c_prefix35]
 cases b
 ·refine runc0 ti (ai cf (ai aw ti)) ?_
  exact ⟨_,le_refl _,rfl⟩
 have hl40:l.length≤40:=by
  unfold fewJ at hb
  rw [Bool.and_eq_true,decide_eq_true_eq] at hb
  exact hb.2
 have hbk:∀ r∈l,(Jr.enc r).2=0→Jr.BaseOk r:=fun r hr h=>(ok r hr).baseOk h
 obtain ⟨hle,hlb,hlk⟩:=Jr.logF_encs l [] [] rfl (by simp) (by simp) hbk
 have hrd:=Jr.log_read l hbk
 have hmem:=Jr.logF_mem l [] []
 have hlg:=a_logged l ok (by omega)
 obtain ⟨⟨B,ks⟩,hF⟩:∃ q,Jr.logF l [] []=q:=⟨_,rfl⟩
 rw [hF] at hle hlb hlk hrd hmem hlg
 dsimp only at hle hlb hlk hrd hmem hlg
 clear hF
 have hkl:ks.length≤1048576:=by
  have:ks.length≤(Jr.encs ks).length:=by
   have:∀ q:List Jr,(∀ r∈q,(Jr.enc r).2=0)→q.length≤(Jr.encs q).length:=fun q=>by
    induction q with
    | nil=>intro _; exact Nat.zero_le _
    | cons r q ih =>
     intro h
     have:=ih fun x hx=>h x (List.mem_cons_of_mem _ hx)
     have h1:=(Jr.enc_parts (h r List.mem_cons_self)).2
     rw [Jr.encs_cons,List.length_append,List.length_cons]
     omega
   exact this ks fun r hr=>(hlk r hr).1
  rw [←hle] at this; omega
 obtain ⟨k,hk⟩:∃ k:Nat,k=n.toNat % (B.length+1):=⟨_,rfl⟩
 have hkB:k≤B.length:=by have:=Nat.mod_lt n.toNat (show B.length+1 > 0 by omega); omega
 have w0:IntKind.i64.wrap n=n:=wrap64 (by omega) (by omega)
 have w1:IntKind.i64.wrap ((B.length:Int)+1)=(B.length:Int)+1:=wrap64 (by omega) (by omega)
 have w2:n.tmod ((B.length:Int)+1)=(k:Int):=by
  rw [Int.tmod_eq_emod_of_nonneg n0,hk]
  obtain ⟨m,rfl⟩:=Int.eq_ofNat_of_zero_le n0
  simp
 have w3:¬ ((B.length:Int)+1)=0:=by omega
 have hel:=Jr.offs_len ks
 have hrt:=Jr.read_take ks k hlk
 have hin:=Jr.inside_iff ks k
 have hil:=Jr.inside_le ks k
 obtain ⟨I,hI⟩:∃ I,Jr.inside ks k=I:=⟨_,rfl⟩
 rw [hI] at hrt hin hil
 rw [←hle] at hrt
 have lks:(ks.map Jr.cells).length=ks.length:=List.length_map _
 have lends:(rowsN (Jr.offs ks)).length=ks.length:=by rw [rowsN_len,hel]
 have hkI:(k:Int)≤(B.length:Int)∧(0:Int)≤(k:Int):=by omega
 have hends:=fun (i:Nat) (h:i < ks.length)=>rowsN_at (Jr.offs ks) i (by rw [hel]; exact h) (by rw [hel]; omega)
 have hendv:=fun (i:Nat) (h:i < ks.length)=>Jr.offs_at ks i h
 refine go0 ti ?_
 refine gc0 ti ?_
 refine (cf _).mono ?_
 rintro v h ⟨rfl,rfl⟩
 refine go0 ti ?_
 refine gc0 ti ?_
 refine hlg.mono ?_
 rintro v h ⟨rfl,t,rfl⟩
 refine go0 ti ?_
 refine gc0 ti ?_
 refine (a_jlb (l:=B) rfl).mono ?_
 rintro v h ⟨rfl,rfl⟩
 refine go0 (ai w0 (ai w1 (ai w2 w3))) ?_
 refine run0 (ai w0 (ai w1 (ai w2 w3))) ?_
 refine awp_loop (fun m ts hh=>∃ (i:Nat),m=ks.length - i∧i≤ks.length∧hh=⟨[lgB B],t⟩∧(ts 5 = .ptr 0 0∧ts 6 = .sl 1 .no (rowsN (Jr.offs ks))∧ts 8 = .str B∧ts 9 = .int .i64 (k:Nat)∧ts 10 = .int .i64 ((min i I:Nat):Int)∧ts 11 = .int .i64 ((Jr.encs (ks.take (min i I))).length:Nat)∧ts 12 = .int .i64 (i:Nat))) ks.length ?_ ?_
 ·refine ⟨0,by omega,by omega,rfl,?_⟩
  rw [show min 0 I=0 by omega]
  (exact inv0 (ai w0 (ai w1 (ai w2 w3))))
 rintro m ts hh ⟨i,rfl,hi,rfl,ht⟩
 rcases Nat.lt_or_ge i ks.length with hlt | hge
 ·have hf:=hends i hlt
  rw [hendv i hlt,hel] at hf
  have hiff:=hin (i+1) (by omega)
  obtain ⟨E,hE⟩:∃ E,(Jr.encs (ks.take (i+1))).length=E:=⟨_,rfl⟩
  rw [hE] at hf hiff
  by_cases hE2:E≤k
  ·have hle2:(E:Int)≤(k:Int):=by omega
   have hi1:=hiff.1 hE2
   refine run0 (ai ht (ai hf (ai lends hle2))) ?_
   refine ⟨_,by omega,i+1,rfl,by omega,rfl,?_⟩
   rw [show min (i+1) I=i+1 by omega,hE]
   (exact inv0 (ai ht (ai hf lends)))
  ·have hle2:¬ (E:Int)≤(k:Int):=by omega
   have hi1:¬ i+1≤I:=fun h=>hE2 (hiff.2 h)
   rw [show min i I=I by omega] at ht
   refine run0 (ai ht (ai hf (ai lends hle2))) ?_
   refine ⟨_,by omega,i+1,rfl,by omega,rfl,?_⟩
   rw [show min (i+1) I=I by omega]
   (exact inv0 (ai ht (ai hf lends)))
 have hf:¬ (i:Int) < (ks.length:Int):=by omega
 rw [show min i I=I by omega] at ht
 have cR1:=a_jread B (by omega)
 have cR2:=a_jread (B.take k) (by rw [List.length_take]; omega)
 have cRec:=fun l' t=>a_jlr (l:=B) (h:=⟨lgB B::l',t⟩) (i:=0) rfl (by omega)
 rw [hrd] at cR1 cRec
 rw [hrt] at cR2
 dsimp only at cR1 cR2 cRec
 have hok:∀ r∈ks,JrFit r:=fun r hr=>(ok r ((hmem r hr).resolve_left (by simp))).fit
 have cL1:=a_lall ks hok (by omega)
 have cL2:=a_lall (ks.take I) (fun r hr=>hok r (List.mem_of_mem_take hr)) (by rw [List.length_take]; omega)
 have lI:((ks.take I).map Jr.cells).length=I:=by rw [List.length_map,List.length_take]; omega
 have hII:(I:Int)≤(ks.length:Int)∧(0:Int)≤(I:Int):=by omega
 have hS:sslA 26 none (some (.int .i64 (I:Int))) (.sl 26 .no (ks.map Jr.cells))=some (.sl 26 .no ((ks.take I).map Jr.cells)):=by
  unfold sslA
  dsimp only [Option.getD]
  rw [lks,if_pos ⟨by omega,hII.2,hII.1,.inl rfl⟩]
  simp [List.map_take]
 obtain ⟨V,hV⟩:∃ V,(Jr.encs (ks.take I)).length=V:=⟨_,rfl⟩
 rw [hV] at ht cR2
 refine runc0 (ai ht (ai hf (ai lends (ai lks (ai lI (ai hkI hS)))))) (ai cR1 (ai cR2 (ai cRec (ai cL1 (ai cL2 (ai aw ti)))))) ?_
 exact ⟨_,le_refl _,rfl⟩
theorem w_prefixX (x:Jrs) (k:((∀ a∈x.l,a.Wf)∧x.l.length≤maxLen)∧x.bulkD≤1048576) (n:Int) (kn:(Lit.int .u16 n).wf=true) :
  ACall Tryz.prog GT 6 [.sl 26 .no (x.l.map Jr.cells),.int .u16 n] ⟨[],[]⟩ fun r _=>r = .bool true:=by
 have hm:=map_bulk Jr.toD x.l
 have h3:D.bulks (x.l.map Jr.toD)≤1048576:=k.2
 have k2:=wf_u16 kn
 exact w_prefix x.l (fun a ha=>jr_ok (k.1.1 a ha) (Nat.le_trans (hm.2 a ha) h3)) (jrs_fit x k).2 n k2.1 (by omega)
end AX
end Go.Proofs.YtahmpiioegemaaaGreatDoor
