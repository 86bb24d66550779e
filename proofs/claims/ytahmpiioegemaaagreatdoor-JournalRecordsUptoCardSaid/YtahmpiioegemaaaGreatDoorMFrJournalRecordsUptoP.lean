/- Part of what the proof needs. -/
import Derived.Test.YtahmpiioegemaaaGreatDoorMFrJournalRecordsUptoE
import Derived.Test.YtahmpiioegemaaaGreatDoorMFrJournalRecordsUptoL
import Derived.Test.YtahmpiioegemaaaGreatDoorMFrJournalRecordsUptoM
import Derived.Test.YtahmpiioegemaaaGreatDoorMFrJournalRecordsUptoO
import Derived.Shelf.Slices.Clone
set_option maxHeartbeats 4000000
set_option linter.unusedSimpArgs false
set_option linter.unusedVariables false
set_option linter.unnecessarySimpa false
namespace Go.Proofs.YtahmpiioegemaaaGreatDoor
open Go.RowKit
namespace Adr
theorem has_len (p:List UInt8) (r:Rd):(hasP p r).2.rest.length≤r.rest.length:=by
 unfold hasP; split
 ·rw [List.length_drop]; omega
 ·exact Nat.le_refl _
theorem has_less (p:List UInt8) (r:Rd) (h:begins r.rest p=true):(hasP p r).2.rest.length+p.length=r.rest.length:=by
 have:=begins_len h
 unfold hasP; rw [if_pos h]; dsimp only; rw [List.length_drop]; omega
theorem takeW_len {p:UInt8→Bool} (s:List UInt8):(s.takeWhile p).length≤s.length:=List.Sublist.length_le (List.takeWhile_sublist p)
theorem dropW_len {p:UInt8→Bool} (s:List UInt8):(s.dropWhile p).length≤s.length:=List.Sublist.length_le (List.dropWhile_sublist p)
theorem word_len (r:Rd):(wordP r).2.rest.length≤r.rest.length∧(wordP r).1.length≤r.rest.length:=⟨dropW_len _,takeW_len _⟩
theorem skip_len (p:List UInt8) (r:Rd):(skipP p r).rest.length≤r.rest.length:=by
 unfold skipP; split
 ·dsimp only; rw [List.length_drop]; omega
 ·exact Nat.le_refl _
theorem key_len (r:Rd):(keyP r).2.rest.length≤r.rest.length:=by
 unfold keyP
 split
 ·exact Nat.le_refl _
 ·split
  ·exact Nat.le_refl _
  ·dsimp only
   split
   ·split
    ·dsimp only; rw [List.length_drop]; omega
    ·refine Nat.le_trans (skip_len _ _) ?_
     dsimp only; rw [List.length_drop,List.length_drop]; omega
   ·refine Nat.le_trans (skip_len _ _) ?_
    dsimp only; rw [List.length_drop,List.length_drop]; omega
theorem step_len (r:Rd):(stepP r).2.rest.length≤r.rest.length:=Nat.le_trans (key_len _) (word_len r).1
end Adr
namespace AX
def c_aparse:AX.AFn:=⟨65,aS [aR 2 (.alloc 193 [.sl 0 .nil [],.bool false,.str [],.str [],.int .i64 0,.int .i64 0,.str []]),aR 3 (.mv (aI 0))] (aS [aM 6 0,aR 7 (.build [.str [],.bool false] [(0,1,.t 6)]),aR 8 (.box 225 (.t 7)),aM 4 8] (aS [aR 5 (.alloc 193 [.sl 0 .nil [],.bool false,.str [],.str [],.int .i64 0,.int .i64 0,.str []])] (.seq (.block 0 (.loop (.seq (aS [aM 9 4,aR 10 (.nilck (.t 9)),aF 11 1 10,aL 12 11,aR 13 (.un .not (.t 12)),aM 14 13,aG 15 (.mv (.t 4)) 14 true,aG 16 (.call 167 [.t 15,.c (.str [109,111,100,117,108,101,46])]) 14 true,aR 17 (.pick (.t 14) (.t 16) (.c (.bool false)))] (.cond (.t 17) (.skip) (.exit 0))) (.block 1 (.seq (.reg true [aF 18 0 5,⟨some 19,.load false 1 (.t 18),none,[0]⟩,aM 20 4,⟨some 21,.call 168 [.t 20],none,[2]⟩,⟨some 22,.mks 4 [.t 21],none,[3]⟩,⟨some 23,.app 227 4 48 (.t 19) (.t 22),none,[1,4,3]⟩,⟨some 24,.faddr 0 (.t 5),none,[0,1,2,3,4,5]⟩,⟨none,.store 1 (.t 24) (.t 23),none,[6,5,5,0,1,2,3,4,5]⟩]) (.reg false [aM 25 4,aR 26 (.call 169 [.t 25,.c (.str [46])])])))))) (aS [aM 27 4,aR 28 (.call 167 [.t 27,.c (.str [100,97,116,97,46])]),aF 29 1 5,aU (.store 1 (.t 29) (.t 28))] (aS [aM 30 4,aR 31 (.call 170 [.t 30]),aF 32 2 5,aU (.store 1 (.t 32) (.t 31))] (aS [aM 33 4,aR 34 (.call 169 [.t 33,.c (.str [46])])] (aS [aM 35 4,aR 36 (.call 170 [.t 35]),aF 37 3 5,aU (.store 1 (.t 37) (.t 36))] (aS [aM 38 4,aR 39 (.call 171 [.t 38]),aF 40 4 5,aU (.store 3 (.t 40) (.t 39))] (.seq (aS [aM 41 4,aR 42 (.nilck (.t 41)),aF 43 1 42,aL 44 43,aM 45 44,aG 46 (.mv (.t 4)) 45 false,aG 47 (.nilck (.t 46)) 45 false,aG 48 (.faddr 0 (.t 47)) 45 false,aG 49 (.load false 1 (.t 48)) 45 false,aG 50 (.bin .neq (.t 49) (.c (.str []))) 45 false,aR 51 (.pick (.t 45) (.c (.bool true)) (.t 50)),aM 52 51,aG 53 (.faddr 2 (.t 5)) 52 false,aG 54 (.load false 1 (.t 53)) 52 false,aG 55 (.call 172 [.t 54]) 52 false,aG 56 (.un .not (.t 55)) 52 false,aR 57 (.pick (.t 52) (.c (.bool true)) (.t 56))] (.cond (.t 57) (aS [aR 58 (.build [.sl 0 .nil [],.bool false,.str [],.str [],.int .i64 0,.int .i64 0,.str []] []),aU (.store 7 (.t 2) (.t 58)),aR 3 (.mv (aI 2))] (.ret)) (.skip))) (.seq (aS [aF 59 0 5,aL 60 59,aR 61 (.len false (.t 60)),aR 62 (.bin .gtr (.t 61) (aI 16))] (.cond (.t 62) (aS [aR 63 (.build [.sl 0 .nil [],.bool false,.str [],.str [],.int .i64 0,.int .i64 0,.str []] []),aU (.store 7 (.t 2) (.t 63)),aR 3 (.mv (aI 4))] (.ret)) (.skip))) (aS [aR 64 (.load true 7 (.t 5)),aU (.store 7 (.t 2) (.t 64)),aR 3 (.mv (aI 0))] (.ret)))))))))))),[.c 2 true 7,.t 3]⟩
theorem h_aparse:AX.compFn Tryz.prog 133=some c_aparse:=by kernel_rfl
theorem w_step (r:Adr.Rd) (hl:r.rest.length≤2000000) {h:Hp} {i:Nat} (hb:h.b[i]?=some (adB r)) :
  ACall Tryz.prog GT 168 [.ptr i 0] h fun v h'=>v = .agg (Adr.stepP r).1.cells∧h'=⟨h.b.set i (adB (Adr.stepP r).2),h.t⟩:=by
 have key:ACall Tryz.prog GT 168 [.ptr 0 0] ⟨[adB r],[]⟩ fun v h'=>∃ b',h'.b[0]?=some b'∧v = .agg (Adr.stepP r).1.cells∧b'=adB (Adr.stepP r).2:=by
  refine acall_of mixedT h_rstep (by simp [c_rstep]) ?_
  dsimp only [c_rstep]
  have hw:=fun h hb=>w_word r hl (h:=h) (i:=0) hb
  have hk:=fun h hb=>w_key (Adr.wordP r).2 (Nat.le_trans (Adr.word_len r).1 hl) (h:=h) (i:=0) hb
  have hS:Adr.stepP r=(⟨(Adr.wordP r).1,(Adr.keyP (Adr.wordP r).2).1⟩,(Adr.keyP (Adr.wordP r).2).2):=rfl
  rw [hS]
  obtain ⟨⟨w,r1⟩,h1⟩:∃ q,Adr.wordP r=q:=⟨_,rfl⟩
  rw [h1] at hw hk ⊢
  dsimp only at hw hk ⊢
  obtain ⟨⟨⟨kd,kn,ks⟩,r2⟩,h2⟩:∃ q,Adr.keyP r1=q:=⟨_,rfl⟩
  rw [h2] at hk ⊢
  dsimp only [Adr.K.A] at hk ⊢
  unfold adB at hw hk ⊢
  refine run0 ti ?_
  refine use (hw _ rfl) ?_
  refine run0 ti ?_
  refine use (hk _ rfl) ?_
  refine run0 ti ?_
  exact ⟨_,le_refl _,_,rfl,rfl,rfl⟩
 refine (ACall.lift1 key rfl (adB_loc r) ?_ hb).mono ?_
 ·rintro v b' ⟨rfl,rfl⟩; exact ⟨rfl,adB_loc _⟩
 ·rintro v h' ⟨b',⟨rfl,rfl⟩,rfl⟩; exact ⟨rfl,rfl⟩
theorem a_parse (s:List UInt8) (hs:s.length≤2000000) (h:Hp):ACall Tryz.prog GT 133 [.str s] h fun r h'=>r = .tup [.agg (Adr.parse s).1.cells,.int .i64 (Adr.parse s).2]∧h'=h:=by
 rw [←Adr.parse_eq]
 refine pcall ?_ rfl (by simp [A.pure,A.data]) h
 refine acall_of mixedT h_aparse (by simp [c_aparse]) ?_
 dsimp only [c_aparse]
 obtain ⟨⟨M,RM⟩,hM⟩:∃ q,Adr.modsP (s.length+1) ⟨s,false⟩ []=q:=⟨_,rfl⟩
 obtain ⟨F,hF⟩:∃ F,Adr.parseP s=F:=⟨_,rfl⟩
 rw [hF]
 unfold Adr.parseP at hF
 rw [hM] at hF
 dsimp only at hF
 refine run0 ti ?_
 refine awp_loop (fun mm ts h=>∃ (r:Adr.Rd) (l:List Adr.Step) (W:Nat) (o:Own) (t:List (TypeId×Nat×Nat)),r.rest.length < mm∧mm+l.length=s.length+1∧Adr.modsP mm r l=(M,RM) ∧
  h=⟨[.cells 193 [.sl 0 .nil [],.bool false,.str [],.str [],.int .i64 0,.int .i64 0,.str []],.cells 225 [.str r.rest,.bool r.bad],.cells 193 [.sl W o (l.map Adr.Step.cells),.bool false,.str [],.str [],.int .i64 0,.int .i64 0,.str []]],t⟩ ∧
  Gs 227 4 0 ⟨[],t⟩ (l.map Adr.Step.cells) (.sl W o (l.map Adr.Step.cells))∧ts 2 = .ptr 0 0∧ts 3 = .int .i64 0∧ts 4 = .ptr 1 0∧ts 5 = .ptr 2 0) (s.length+1) ?_ ?_
 ·exact ⟨⟨s,false⟩,[],0,.nil,[],by dsimp only; omega,by simp,hM,rfl,.inl ⟨rfl,rfl⟩,by (exact ev0 ti),by (exact ev0 ti),by (exact ev0 ti),by (exact ev0 ti)⟩
 rintro mm ts h ⟨r,l,W,o,t,hrm,hml,hmod,rfl,gX,t2,t3,t4,t5⟩
 cases mm with
 | zero=>omega
 | succ f =>
 unfold Adr.modsP at hmod
 by_cases hgo:r.bad=false∧Adr.begins r.rest Adr.modW=true
 ·rw [if_pos hgo] at hmod
  have hmw:Adr.modW=[109,111,100,117,108,101,46]:=rfl
  have cH:=fun h hb=>w_has Adr.modW r (h:=h) (i:=1) hb
  have l1:=Adr.has_less Adr.modW r hgo.2
  have hh1:(Adr.hasP Adr.modW r).1=true:=by unfold Adr.hasP; rw [if_pos hgo.2]
  rw [hh1] at cH
  have l7:Adr.modW.length=7:=rfl
  have hr0:r.bad=false:=hgo.1
  obtain ⟨r1,hr1⟩:∃ q,(Adr.hasP Adr.modW r).2=q:=⟨_,rfl⟩
  rw [hr1] at cH l1 hmod
  have cS:=fun h hb=>w_step r1 (by omega) (h:=h) (i:=1) hb
  have l2:=Adr.step_len r1
  obtain ⟨⟨⟨nm,⟨kd,kn,ks⟩⟩,r2⟩,hr2⟩:∃ q,Adr.stepP r1=q:=⟨_,rfl⟩
  rw [hr2] at cS l2 hmod
  dsimp only [Adr.Step.cells] at cS l2 hmod
  have cK:=fun h hb=>w_skip [46] r2 (h:=h) (i:=1) hb
  have l3:=Adr.skip_len [46] r2
  obtain ⟨r3,hr3⟩:∃ q,Adr.skipP [46] r2=q:=⟨_,rfl⟩
  rw [hr3] at cK l3 hmod
  unfold adB at cH cS cK
  rw [hmw] at cH
  rw [hr0] at cH
  obtain ⟨W',o',t',hX,gX',_⟩:=gX.grow 48 [.str nm,.int .i64 kd,.int .i64 kn,.str ks] (by rw [List.length_map]; omega) (by decide)
  have hcat:l.map Adr.Step.cells++[[.str nm,.int .i64 kd,.int .i64 kn,.str ks]]=(l++[(⟨nm,⟨kd,kn,ks⟩⟩:Adr.Step)]).map Adr.Step.cells:=by rw [List.map_append]; rfl
  rw [hcat] at gX'
  simp only [hcat] at hX
  rw [hr0]
  refine run0 (ai t2 (ai t3 (ai t4 t5))) ?_
  refine use (cH _ rfl) ?_
  refine run0 (ai t2 (ai t3 (ai t4 t5))) ?_
  refine use (cS _ rfl) ?_
  refine run0 (ai t2 (ai t3 (ai t4 (ai t5 hX)))) ?_
  refine use (cK _ rfl) ?_
  refine run0 (ai t2 (ai t3 (ai t4 t5))) ?_
  exact ⟨f,by omega,r3,l++[(⟨nm,⟨kd,kn,ks⟩⟩:Adr.Step)],W',o',t',by omega,by simp; omega,hmod,rfl,gX',by (exact ev0 t2),by (exact ev0 t3),by (exact ev0 t4),by (exact ev0 t5)⟩
 ·rw [if_neg hgo] at hmod
  injection hmod with hm1 hm2
  subst hm1; subst hm2
  have cD:=fun h hb=>w_has Adr.dataW r (h:=h) (i:=1) hb
  have l1:=Adr.has_len Adr.dataW r
  obtain ⟨⟨dt,r1⟩,hr1⟩:∃ q,Adr.hasP Adr.dataW r=q:=⟨_,rfl⟩
  rw [hr1] at cD l1 hF
  dsimp only at cD l1 hF
  have cT:=fun h hb=>w_word r1 (by omega) (h:=h) (i:=1) hb
  have l2:=Adr.word_len r1
  obtain ⟨⟨ty,r2⟩,hr2⟩:∃ q,Adr.wordP r1=q:=⟨_,rfl⟩
  rw [hr2] at cT l2 hF
  dsimp only at cT l2 hF
  have cK:=fun h hb=>w_skip [46] r2 (h:=h) (i:=1) hb
  have l3:=Adr.skip_len [46] r2
  obtain ⟨r3,hr3⟩:∃ q,Adr.skipP [46] r2=q:=⟨_,rfl⟩
  rw [hr3] at cK l3 hF
  have cN:=fun h hb=>w_word r3 (by omega) (h:=h) (i:=1) hb
  have l4:=Adr.word_len r3
  obtain ⟨⟨na,r4⟩,hr4⟩:∃ q,Adr.wordP r3=q:=⟨_,rfl⟩
  rw [hr4] at cN l4 hF
  dsimp only at cN l4 hF
  have cY:=fun h hb=>w_key r4 (by omega) (h:=h) (i:=1) hb
  have l5:=Adr.key_len r4
  obtain ⟨⟨⟨kd,kn,ks⟩,⟨re,ba⟩⟩,hr5⟩:∃ q,Adr.keyP r4=q:=⟨_,rfl⟩
  rw [hr5] at cY l5 hF
  dsimp only [Adr.K.A] at cY l5 hF
  have ck:=fun h=>a_kind ty (by omega) h
  unfold adB at cD cT cK cN cY
  have hdw:Adr.dataW=[100,97,116,97,46]:=rfl
  rw [hdw] at cD
  have start:∀ {G:Prop},(r.bad=true→G)→(r.bad=false→Adr.begins r.rest Adr.modW=false→G)→G:=fun p q=>by
   cases hb:r.bad
   ·refine q hb ?_
    cases hB:Adr.begins r.rest Adr.modW
    ·rfl
    ·exact absurd ⟨hb,hB⟩ hgo
   ·exact p hb
  have lx:=Gs.le gX
  refine start (fun hb=>?_) (fun hb hB=>?_)
  ·rw [hb] at cD ⊢
   refine run0 (ai t2 (ai t3 (ai t4 t5))) ?_
   refine use (cD _ rfl) ?_
   refine run0 (ai t2 (ai t3 (ai t4 t5))) ?_
   refine use (cT _ rfl) ?_
   refine run0 (ai t2 (ai t3 (ai t4 t5))) ?_
   refine use (cK _ rfl) ?_
   refine run0 (ai t2 (ai t3 (ai t4 t5))) ?_
   refine use (cN _ rfl) ?_
   refine run0 (ai t2 (ai t3 (ai t4 t5))) ?_
   refine use (cY _ rfl) ?_
   have zle:leL [.sl 0 .nil [],.bool false,.str [],.str [],.int .i64 0,.int .i64 0,.str []] Adr.Ad.zero.cells:=⟨⟨rfl,.inr rfl,.inl rfl⟩,rfl,rfl,rfl,rfl,rfl,rfl,trivial⟩
   cases ba
   rotate_left
   ·rw [if_pos (.inl rfl)] at hF
    subst hF
    refine run0 (ai t2 (ai t3 (ai t4 t5))) ?_
    exact ⟨.tup [.agg Adr.Ad.zero.cells,.int .i64 2],⟨zle,rfl,trivial⟩,rfl⟩
   cases hre:re != []
   rotate_left
   ·rw [if_pos (.inr (.inl (bne_iff_ne.1 hre)))] at hF
    subst hF
    refine run0 (ai t2 (ai t3 (ai t4 (ai t5 hre)))) ?_
    exact ⟨.tup [.agg Adr.Ad.zero.cells,.int .i64 2],⟨zle,rfl,trivial⟩,rfl⟩
   refine run0 (ai t2 (ai t3 (ai t4 (ai t5 hre)))) ?_
   refine use (ck _) ?_
   cases hkb:Adr.kindB ty
   ·rw [if_pos (.inr (.inr hkb))] at hF
    subst hF
    refine run0 (ai t2 (ai t3 (ai t4 t5))) ?_
    exact ⟨.tup [.agg Adr.Ad.zero.cells,.int .i64 2],⟨zle,rfl,trivial⟩,rfl⟩
   rw [if_neg (by rintro (h | h | h); cases h; rw [bne_eq_false_iff_eq] at hre; exact h hre; rw [hkb] at h; cases h)] at hF
   have lm:(l.map Adr.Step.cells).length=l.length:=List.length_map ..
   by_cases hlen:(l.length:Int) > 16
   ·rw [if_pos (by omega)] at hF
    subst hF
    refine run0 (ai t2 (ai t3 (ai t4 (ai t5 (ai lm hlen))))) ?_
    exact ⟨.tup [.agg Adr.Ad.zero.cells,.int .i64 4],⟨zle,rfl,trivial⟩,rfl⟩
   ·rw [if_neg (by omega)] at hF
    subst hF
    refine run0 (ai t2 (ai t3 (ai t4 (ai t5 (ai lm hlen))))) ?_
    exact ⟨.tup [.agg (Adr.Ad.cells ⟨l,dt,ty,na,⟨kd,kn,ks⟩⟩),.int .i64 0],⟨⟨lx,rfl,rfl,rfl,rfl,rfl,rfl,trivial⟩,rfl,trivial⟩,rfl⟩
  ·rw [hb] at cD ⊢
   have cH:=fun h hb=>w_has Adr.modW r (h:=h) (i:=1) hb
   have hh1:Adr.hasP Adr.modW r=(false,r):=by unfold Adr.hasP; rw [hB,if_neg (by decide)]
   have hmw:Adr.modW=[109,111,100,117,108,101,46]:=rfl
   rw [hh1,hmw] at cH
   unfold adB at cH
   rw [hb] at cH
   refine run0 (ai t2 (ai t3 (ai t4 t5))) ?_
   refine use (cH _ rfl) ?_
   refine run0 (ai t2 (ai t3 (ai t4 t5))) ?_
   refine use (cD _ rfl) ?_
   refine run0 (ai t2 (ai t3 (ai t4 t5))) ?_
   refine use (cT _ rfl) ?_
   refine run0 (ai t2 (ai t3 (ai t4 t5))) ?_
   refine use (cK _ rfl) ?_
   refine run0 (ai t2 (ai t3 (ai t4 t5))) ?_
   refine use (cN _ rfl) ?_
   refine run0 (ai t2 (ai t3 (ai t4 t5))) ?_
   refine use (cY _ rfl) ?_
   have zle:leL [.sl 0 .nil [],.bool false,.str [],.str [],.int .i64 0,.int .i64 0,.str []] Adr.Ad.zero.cells:=⟨⟨rfl,.inr rfl,.inl rfl⟩,rfl,rfl,rfl,rfl,rfl,rfl,trivial⟩
   cases ba
   rotate_left
   ·rw [if_pos (.inl rfl)] at hF
    subst hF
    refine run0 (ai t2 (ai t3 (ai t4 t5))) ?_
    exact ⟨.tup [.agg Adr.Ad.zero.cells,.int .i64 2],⟨zle,rfl,trivial⟩,rfl⟩
   cases hre:re != []
   rotate_left
   ·rw [if_pos (.inr (.inl (bne_iff_ne.1 hre)))] at hF
    subst hF
    refine run0 (ai t2 (ai t3 (ai t4 (ai t5 hre)))) ?_
    exact ⟨.tup [.agg Adr.Ad.zero.cells,.int .i64 2],⟨zle,rfl,trivial⟩,rfl⟩
   refine run0 (ai t2 (ai t3 (ai t4 (ai t5 hre)))) ?_
   refine use (ck _) ?_
   cases hkb:Adr.kindB ty
   ·rw [if_pos (.inr (.inr hkb))] at hF
    subst hF
    refine run0 (ai t2 (ai t3 (ai t4 t5))) ?_
    exact ⟨.tup [.agg Adr.Ad.zero.cells,.int .i64 2],⟨zle,rfl,trivial⟩,rfl⟩
   rw [if_neg (by rintro (h | h | h); cases h; rw [bne_eq_false_iff_eq] at hre; exact h hre; rw [hkb] at h; cases h)] at hF
   have lm:(l.map Adr.Step.cells).length=l.length:=List.length_map ..
   by_cases hlen:(l.length:Int) > 16
   ·rw [if_pos (by omega)] at hF
    subst hF
    refine run0 (ai t2 (ai t3 (ai t4 (ai t5 (ai lm hlen))))) ?_
    exact ⟨.tup [.agg Adr.Ad.zero.cells,.int .i64 4],⟨zle,rfl,trivial⟩,rfl⟩
   ·rw [if_neg (by omega)] at hF
    subst hF
    refine run0 (ai t2 (ai t3 (ai t4 (ai t5 (ai lm hlen))))) ?_
    exact ⟨.tup [.agg (Adr.Ad.cells ⟨l,dt,ty,na,⟨kd,kn,ks⟩⟩),.int .i64 0],⟨⟨lx,rfl,rfl,rfl,rfl,rfl,rfl,trivial⟩,rfl,trivial⟩,rfl⟩
section
variable {P:Program} {G:World→Prop} {C:Ctx} {h:Hp}
def Fz1 (h:Hp) (x y:A):Prop:=(x=y∧x.data=true)∨∃ i W T rows,x = .bs i W rows.length∧h.b[i]?=some (.row T rows.flatten)∧y = .sl W .no rows∧(∀ r∈rows,r.length=W)∧rows.flatten.all A.data=true
def FzL (h:Hp):List A→List A→Prop
 | [],[]=>True
 | x::l,y::m=>Fz1 h x y∧FzL h l m
 | _,_=>False
theorem FzL.data {h:Hp}:∀ {l m:List A},FzL h l m→m.all A.data=true
 | [],[],_=>rfl
 | x::l,y::m,hf=>by
  rw [List.all_cons,Bool.and_eq_true]
  refine ⟨?_,FzL.data hf.2⟩
  rcases hf.1 with ⟨rfl,hd⟩ | ⟨i,W,T,rows,_,_,rfl,_,_⟩
  ·exact hd
  ·rfl
 | [],_::_,hf=>hf.elim
 | _::_,[],hf=>hf.elim
theorem pcallz {f:FuncId} {args:List A} {ys:List A} (hc:ACall P G f args ⟨[],[]⟩ fun v h'=>∃ xs,v = .agg xs∧FzL h' xs ys) (ha:args.all A.pure=true) (h:Hp):ACall P G f args h fun v h'=>v = .agg ys∧h'=h:=by
 intro C cs hI hr
 have hid:Inv G C.hid ⟨[],[]⟩:=by
  refine ⟨rfl,fun i b hb=>by simp at hb,fun i hi=>by simp [Ctx.hid] at hi,fun g i hg=>by simp [Ctx.hid] at hg,fun g j hs=>?_,fun t E W m ht=>by simp [Ctx.hid] at ht,fun t t' ht=>by simp [Ctx.hid] at ht,fun t=>by simp [Ctx.hid],hI.base,hI.glob⟩
  exact ⟨(hI.prot g j hs).1,rfl,fun t E W m ht=>by simp [Ctx.hid] at ht⟩
 refine (hc C.hid cs hid (RepL.pures (C:=C) (C':=C.hid) ⟨fun g j hs=>⟨hs,rfl⟩⟩ args cs ha hr)).mono ?_
 rintro e w' ⟨C1,h1,v,cv,rfl,rfl,I1,S1,r1,xs,rfl,hf⟩
 have hblk:∀ g,g < C.w.heap.size→C1.w.heap[g]?=C.w.heap[g]?:=fun g hg=>S1.frame g hg rfl fun t ht=>by simp [Ctx.hid] at ht
 have hnew:∀ g i,C1.own g=some i→C.w.heap.size≤g:=fun g i hg=>by
  rcases Nat.lt_or_ge g C.w.heap.size with hlt | hge
  ·have:=S1.own g hlt
   rw [hg] at this
   simp [Ctx.hid] at this
  ·exact hge
 let C2:Ctx:={ C with w:=C1.w,S:=fun g j=>C1.S g j∨((C1.own g).isSome=true),own:=fun g=>if g < C.w.heap.size then C.own g else none }
 have hsz:C.w.heap.size≤C1.w.heap.size:=S1.size
 have he:Ext C C2:=by
  refine ⟨fun g j hs=>?_,Nat.le_refl _,fun _ _=>rfl,fun t E W m ht=>?_⟩
  ·obtain ⟨k1,k2⟩:=S1.ext.cells g j hs
   exact ⟨.inl k1,k2⟩
  ·obtain ⟨_,_,cap,h2,_⟩:=hI.rows t E W m ht
   exact ⟨m,ht,.inr ⟨rfl,rfl,fun cap hc=>hc.same (hblk _ h2.lt)⟩⟩
 have hown:∀ g i,C2.own g=some i↔C.own g=some i:=fun g i=>by
  show (if g < C.w.heap.size then C.own g else none)=some i↔_
  split
  ·exact Iff.rfl
  ·next hg=>exact ⟨fun e=>(by cases e),fun e=>absurd (hI.ownlt g i e).2.1 hg⟩
 have hprot:∀ g j,C2.S g j→C.S g j∨C.w.heap.size≤g:=fun g j hs=>by
  rcases hs with hs | hs
  ·rcases S1.prot g j hs with h2 | h2 | ⟨t,h2,_⟩
   ·exact .inl h2
   ·exact .inr h2
   ·simp [Ctx.hid] at h2
  ·obtain ⟨i,hi⟩:=Option.isSome_iff_exists.1 hs
   exact .inr (hnew g i hi)
 have hSlt:∀ g j,C2.S g j→g < C1.w.heap.size:=fun g j hs=>by
  rcases hs with hs | hs
  ·exact (I1.prot g j hs).1
  ·obtain ⟨i,hi⟩:=Option.isSome_iff_exists.1 hs
   exact (I1.ownlt g i hi).2.1
 have hsame:Same C1 C2:=⟨fun g j hs=>⟨.inl hs,rfl⟩⟩
 have frz:∀ (xs ys:List A) (vs:List Value),FzL h1 xs ys→RepL C1 xs vs→RepL C2 ys vs:=by
  intro xs
  induction xs with
  | nil =>
   intro ys vs hf hr
   cases ys with
   | nil=>exact hr
   | cons y ys=>exact hf.elim
  | cons x xs ih =>
   intro ys vs hf hr
   cases ys with
   | nil=>exact hf.elim
   | cons y ys =>
    obtain ⟨c,cs',rfl,k1,k2⟩:=repL_cons.1 hr
    refine repL_cons.2 ⟨c,cs',rfl,?_,ih ys cs' hf.2 k2⟩
    rcases hf.1 with ⟨rfl,hd⟩ | ⟨i,W,T,rows,rfl,hb,rfl,hW,hd⟩
    ·exact Rep.same hsame _ _ hd k1
    ·obtain ⟨cap,rfl,hcap,hi⟩:=rep_bs.1 k1
     obtain ⟨ds,rest,q1,q2⟩:=I1.box i _ hb
     have hsd:(C1.own (C1.κ i)).isSome=true:=by rw [I1.ownk i hi]; rfl
     have hdd:∀ (l:List A) (ds:List Value),l.all A.data=true→RepL C1 l ds→RepL C2 l ds:=fun l ds hd hr=>RepL.same hsame l ds hd hr
     refine rep_sl.2 ⟨_,cap,rfl,hcap,repRows_of rows ds 0 hW hd (hdd _ _ hd q2) (fun j _ => .inr hsd) (fun j u hu=>?_),trivial⟩
     have q1':C2.w.heap[C1.κ i]?=some (.cells (ds++rest).toArray T (0,0)):=q1
     rw [cell_of_row _ _ _ _ _ _ q1']
     have hj:j < ds.length:=(List.getElem?_eq_some_iff.1 hu).1
     simp only [List.getElem?_toArray]
     rw [show 0+0*W+j=j by omega,List.getElem?_append_left hj]
     exact hu
 refine ⟨C2,h,.agg ys,cv,rfl,rfl,⟨hI.nb,fun i b hib=>?_,fun i hi=>(hown _ _).2 (hI.ownk i hi),fun g i hg=>?_,fun g j hs=>?_,fun t E W m ht=>?_,hI.inj,hI.toks,Nat.le_trans hI.base hsz,fun w2 hw=>?_⟩,⟨he,S1.os,S1.tape,S1.output,hsz,rfl,fun g hg _ _=>hblk g hg,fun g hg=>?_,fun g j hs=>?_,fun t ht => .inr ⟨ht,rfl⟩⟩,?_,rfl,rfl⟩
 ·have hi:i < C.nb:=by rw [←hI.nb]; exact (List.getElem?_eq_some_iff.1 hib).1
  exact (hI.box i b hib).ext he hi (hI.ownk i hi) (fun g j hg=>(hI.ownlt g j hg).2.1) (fun g hg=>hblk g (hI.ownlt g i hg).2.1) (fun g=>hown g i) hsz
 ·obtain ⟨k1,k2,k3⟩:=hI.ownlt g i ((hown g i).1 hg)
  exact ⟨k1,Nat.lt_of_lt_of_le k2 hsz,k3⟩
 ·have hlt:=hSlt g j hs
  rcases hprot g j hs with h2 | h2
  ·obtain ⟨k1,k2,k3⟩:=hI.prot g j h2
   exact ⟨hlt,by show (if g < C.w.heap.size then C.own g else none)=none; rw [if_pos k1,k2],k3⟩
  ·refine ⟨hlt,by show (if g < C.w.heap.size then C.own g else none)=none; rw [if_neg (by omega)],fun t E W m ht e=>?_⟩
   obtain ⟨_,_,cap,k1,_⟩:=hI.rows t E W m ht
   have:=k1.lt
   have e':C.τ t=g:=e
   omega
 ·obtain ⟨k1,k2,cap,k3,k4⟩:=hI.rows t E W m ht
  exact ⟨by show (if C.τ t < C.w.heap.size then C.own (C.τ t) else none)=none; rw [if_pos k3.lt,k1],k2,cap,k3.same (hblk _ k3.lt),k4⟩
 ·exact hI.glob w2 fun g hg=>(hw g hg).trans (hblk g (Nat.lt_of_lt_of_le hg hI.base))
 ·show (if g < C.w.heap.size then C.own g else none)=C.own g
  rw [if_pos hg]
 ·rcases hprot g j hs with h2 | h2
  ·exact .inl h2
  ·exact .inr (.inl h2)
 ·obtain ⟨vs,rfl,hl⟩:=rep_agg.1 r1
  exact rep_agg.2 ⟨vs,rfl,frz xs ys vs hf hl⟩
end
end AX
end Go.Proofs.YtahmpiioegemaaaGreatDoor

namespace Go.Proofs.YtahmpiioegemaaaGreatDoor
open Go.RowKit
set_option maxRecDepth 100000 in
theorem clone_steps (b off n c:Nat) (news:List Value) (w:World) (hl:news.length=n*4) (hn:0 < n) (hbig:n*48≤140737488355328) (hmax:n≤maxLen) (hc:∀ j v,news[j]?=some v→w.cell? ((⟨b,off,none⟩:Addr).add j)=some v) (h1:∀ u∈news,u.oneCell'=true) :
  Calls Tryz.prog 215 #[.slice (some ⟨b,off,none⟩) n c] w fun e w'=>∃ v',e = .returned v'∧w'.ownsRow w.heap.size 227 4 v' n news∧Below w.heap.size w w':=by
 obtain ⟨i0,hi,hz0,hz1,hz2⟩:=info_parts (show (Tryz.prog.info? 227).map (fun i=>(i.zero,i.size,i.bytes))=some (some (.agg #[.string ⟨#[]⟩,.int .i64 0,.int .i64 0,.string ⟨#[]⟩]),4,48) by kernel_rfl)
 have q22:∀ (w:World) (a:Option Addr) (n c n' c':Nat),(binOp .eql 188 (.slice a n c) (.slice none n' c')).run Tryz.prog w = .ok (.bool a.isNone) w:=fun w a n c n' c'=>Lib.run_eql_slice_nil w _ _ a n c n' c' Tryz.underlying188
 have u22:∀ w,Sem.run Tryz.prog (underlying 188) w = .ok (TypeDesc.slice 227) w:=run_underlying Tryz.underlying188
 have HC:=kept hc
 have H1:=kept h1
 clear hc h1
 go_enter Tryz.func215,Tryz.ntmps215
 go_wp2_with (at_builtin; refine wpList_append_own _ rfl _ _ 188 rfl w.heap.size 227 i0 (.agg #[.string ⟨#[]⟩,.int .i64 0,.int .i64 0,.string ⟨#[]⟩]) 4 48 Tryz.underlying188 hi hz0 hz1 hz2 rfl (by decide) _ _ _ rfl (World.ownsRow_made w #[] 0 (Nat.le_refl _) (Nat.zero_le _) rfl) ⟨b,off,none⟩ n c news rfl ?qc1 ?qc2 ?qc3 ?qc4 ?qc5 ?qc6 ?_)
 case qc1=>exact hl
 case qc2 =>
  intro j u hj
  have:=HC.out j u hj
  rw [Addr.add_lit] at this ⊢
  exact Lib.cell?_alloc_some _ this
 case qc3=>exact H1.out
 case qc4=>omega
 case qc5=>omega
 case qc6=>simp
 intro v' w1 hown hgrow hnil
 have Hb:=kept (((Below.refl _ w).alloc (Nat.le_refl _) (.cells #[] 227)).grown hgrow (by simp) (by intro k hk; simp [Value.ownBlock] at hk; omega))
 have Ho:=kept (show w1.ownsRow w.heap.size 227 4 v' n news by simpa using hown)
 clear hown hgrow hnil HC H1
 go_wp2
 go_ret
 exact ⟨v',rfl,Ho.out,Hb.out⟩
theorem clone_steps0 (a:Option Addr) (c:Nat) (w:World) :
  Calls Tryz.prog 215 #[.slice a 0 c] w fun e w'=>(∃ a' c',e = .returned (.slice a' 0 c'))∧Below w.heap.size w w':=by
 have q22:∀ (w:World) (a:Option Addr) (n c n' c':Nat),(binOp .eql 188 (.slice a n c) (.slice none n' c')).run Tryz.prog w = .ok (.bool a.isNone) w:=fun w a n c n' c'=>Lib.run_eql_slice_nil w _ _ a n c n' c' Tryz.underlying188
 have u22:∀ w,Sem.run Tryz.prog (underlying 188) w = .ok (TypeDesc.slice 227) w:=run_underlying Tryz.underlying188
 cases a with
 | none =>
  go_enter Tryz.func215,Tryz.ntmps215
  go_wp2
  go_ret
  exact ⟨⟨_,_,rfl⟩,Below.refl _ _⟩
 | some ad =>
  obtain ⟨i0,hi,hz0,hz1,hz2⟩:=info_parts (show (Tryz.prog.info? 227).map (fun i=>(i.zero,i.size,i.bytes))=some (some (.agg #[.string ⟨#[]⟩,.int .i64 0,.int .i64 0,.string ⟨#[]⟩]),4,48) by kernel_rfl)
  go_enter Tryz.func215,Tryz.ntmps215
  go_wp2_with (at_builtin; refine wpList_append_own _ rfl _ _ 188 rfl w.heap.size 227 i0 (.agg #[.string ⟨#[]⟩,.int .i64 0,.int .i64 0,.string ⟨#[]⟩]) 4 48 Tryz.underlying188 hi hz0 hz1 hz2 rfl (by decide) _ _ _ rfl (World.ownsRow_made w #[] 0 (Nat.le_refl _) (Nat.zero_le _) rfl) ad 0 c [] rfl rfl (by intro j u hj; simp at hj) (by intro u hu; cases hu) (by unfold maxLen; omega) (by omega) (by simp) ?_)
  intro v' w1 hown hgrow hnil
  have Hb:=kept (((Below.refl _ w).alloc (Nat.le_refl _) (.cells #[] 227)).grown hgrow (by simp) (by intro k hk; simp [Value.ownBlock] at hk; omega))
  have Hv:∃ a' c',v' = .slice a' 0 c':=by
   rcases hown.2 with ⟨rfl,_⟩ | ⟨g,cap,cur,rfl,_⟩
   ·exact ⟨_,_,rfl⟩
   ·exact ⟨_,_,rfl⟩
  obtain ⟨a',c',rfl⟩:=Hv
  clear hown hgrow hnil
  go_wp2
  go_ret
  exact ⟨⟨_,_,rfl⟩,Hb.out⟩
namespace AX
theorem a_clone_steps0 (W0:Nat) (o:Own) (h:Hp):ACall Tryz.prog GT 215 [.sl W0 o []] h fun v h'=>v = .sl 4 .no []∧h'=h:=by
 intro C es hI ha
 obtain ⟨c,es',rfl,h1,h2⟩:=repL_cons.1 ha
 rw [repL_nil] at h2; subst h2
 obtain ⟨a,cap,rfl,_,_,_⟩:=rep_sl.1 h1
 refine (clone_steps0 a cap C.w).mono ?_
 rintro e w' ⟨⟨a',c',rfl⟩,hb⟩
 obtain ⟨i1,s1⟩:=inv_below hI hb
 exact ⟨C.at w',h,.sl 4 .no [],_,rfl,rfl,i1,s1,rep_sl.2 ⟨a',c',rfl,Nat.zero_le _,by unfold RepRows; trivial,trivial⟩,rfl,rfl⟩
theorem a_clone_steps (o:Own) (rows:List (List A)) (h0:rows≠[]) (hbig:rows.length*48≤140737488355328) (hmax:rows.length≤maxLen) (h:Hp) :
  ACall Tryz.prog GT 215 [.sl 4 o rows] h fun v h'=>v = .bs h.b.length 4 rows.length∧h'=⟨h.b++[.row 227 rows.flatten],h.t⟩:=by
 intro C es hI ha
 obtain ⟨c,es',rfl,h1,h2⟩:=repL_cons.1 ha
 rw [repL_nil] at h2; subst h2
 have hpos:0 < rows.length:=List.length_pos_iff.2 h0
 obtain ⟨g,off,cap,cs,rfl,k1,k2,k3,k4,k5⟩:=sl_open h1 hpos
 refine (clone_steps g off rows.length cap cs C.w k2 hpos hbig hmax k5 (repL_one k1 (data_one k3))).mono ?_
 rintro e w' ⟨v',rfl,hown,hb⟩
 rcases hown.2 with ⟨_,hz⟩ | ⟨g',cap',cur,rfl,hg,hh,hcap,_,hcs,htake⟩
 ·omega
 ·have hcur:cur=(cs++cur.toList.drop (rows.length*4)).toArray:=by
   apply Array.toList_inj.1
   rw [←htake]
   simp
  rw [hcur] at hh
  obtain ⟨C',m1,m2,m3,m4,m5⟩:=new_row hI hb hg hh k1
  exact ⟨C',_,.bs h.b.length 4 rows.length,_,rfl,m1,m2,m3,rep_bs.2 ⟨cap',by rw [m4],hcap,m5⟩,rfl,rfl⟩
end AX
namespace AX
theorem setCells_eq:∀ (xs l:List A) (off:Nat),off+xs.length≤l.length→setCells l off xs=l.take off++xs++l.drop (off+xs.length):=by
 intro xs
 induction xs with
 | nil=>intro l off _; simp [setCells]
 | cons x xs ih =>
  intro l off hlt
  rw [List.length_cons] at hlt
  rw [setCells,ih _ _ (by simp; omega),List.take_add_one,List.getElem?_set_self (by omega),List.take_set_of_le (Nat.le_refl _),List.drop_set_of_lt (by omega)]
  simp [show off+1+xs.length=off+(xs.length+1) by omega]
def bareS (s:Adr.Step):Adr.Step:=⟨s.name,Adr.K.none⟩
def barL (mods:List Adr.Step) (j:Nat):List A:=(((mods.take j).map bareS).map Adr.Step.cells).flatten++((mods.drop j).map Adr.Step.cells).flatten
theorem cells_len (l:List Adr.Step):((l.map Adr.Step.cells).flatten).length=l.length*4:=by
 induction l with
 | nil=>rfl
 | cons x l ih=>rw [List.map_cons,List.flatten_cons,List.length_append,ih]; simp [Adr.Step.cells]; omega
theorem barL_len (mods:List Adr.Step) (j:Nat) (hj:j≤mods.length):(barL mods j).length=mods.length*4:=by
 unfold barL
 rw [List.length_append,cells_len,cells_len,List.length_map,List.length_take,List.length_drop,←Nat.add_mul]
 congr 1; omega
theorem barL_set (mods:List Adr.Step) (j:Nat) (hj:j < mods.length):setCells (barL mods j) (j*4+1) [.int .i64 0,.int .i64 0,.str []]=barL mods (j+1):=by
 rw [setCells_eq _ _ _ (by rw [barL_len _ _ (by omega)]; simp; omega)]
 have hp:((((mods.take j).map bareS).map Adr.Step.cells).flatten).length=j*4:=by
  rw [cells_len,List.length_map,List.length_take]; congr 1; omega
 have hd:mods.drop j=mods[j]::mods.drop (j+1):=List.drop_eq_getElem_cons hj
 have ht:mods.take (j+1)=mods.take j++[mods[j]]:=by rw [List.take_succ_eq_append_getElem hj]
 unfold barL
 rw [hd,ht,List.map_append,List.map_append,List.flatten_append]
 generalize (((mods.take j).map bareS).map Adr.Step.cells).flatten=p at hp
 obtain ⟨nm,⟨kd,kn,ks⟩⟩:=mods[j]
 simp only [List.map_cons,List.flatten_cons,Adr.Step.cells,List.cons_append,List.nil_append,List.length_cons,List.length_nil]
 generalize ((mods.drop (j+1)).map Adr.Step.cells).flatten=q
 rw [List.take_append,List.take_of_length_le (by omega),List.drop_append,List.drop_of_length_le (by omega),hp]
 rw [show j*4+1 - j*4=1 by omega,show j*4+1+(0+1+1+1) - j*4=4 by omega]
 simp [bareS,Adr.K.none,Adr.Step.cells]
def c_astatic:AX.AFn:=⟨26,aS [aR 1 (.box 193 (.t 0)),aR 2 (.alloc 193 [.sl 0 .nil [],.bool false,.str [],.str [],.int .i64 0,.int .i64 0,.str []])] (aS [aR 5 (.load true 7 (.t 1)),aR 3 (.alloc 193 [.sl 0 .nil [],.bool false,.str [],.str [],.int .i64 0,.int .i64 0,.str []]),aU (.store 7 (.t 3) (.t 5))] (aS [aR 6 (.build [.int .i64 0,.int .i64 0,.str []] []),aF 7 4 3,aU (.store 3 (.t 7) (.t 6))] (aS [aF 8 0 1,aL 9 8,aR 10 (.call 215 [.t 9]),aF 11 0 3,aU (.store 1 (.t 11) (.t 10))] (.seq (aS [aF 12 0 3,aL 13 12,aR 14 (.len false (.t 13)),aR 15 (.mv (aI 0))] (.block 0 (.loop (aS [aR 16 (.bin .lss (.t 15) (.t 14))] (.seq (.cond (.t 16) (.skip) (.exit 0)) (.seq (.block 1 (aS [aM 17 15,aM 4 17] (.reg false [aF 18 0 3,aL 19 18,aM 20 4,aR 21 (.build [.int .i64 0,.int .i64 0,.str []] []),aR 22 (.iaddr 4 (.t 19) (.t 20)),aF 23 1 22,aU (.store 3 (.t 23) (.t 21))]))) (.reg false [aR 24 (.bin .add (.t 15) (aI 1)),aM 15 24]))))))) (aS [aR 25 (.load true 7 (.t 3)),aU (.store 7 (.t 2) (.t 25))] (.ret)))))),[.c 2 true 7]⟩
theorem h_astatic:AX.compFn Tryz.prog 194=some c_astatic:=by kernel_rfl
theorem a_static0 (a:Adr.Ad) (hn:a.mods.length≤3000000) (h:Hp):ACall Tryz.prog GT 194 [.agg a.cells] h fun v h'=>v = .agg (Adr.bare a).cells∧h'=h:=by
 obtain ⟨mods,data,ty,nm,⟨kk,kn,ks⟩⟩:=a
 dsimp only at hn
 have hbc:(Adr.bare ⟨mods,data,ty,nm,⟨kk,kn,ks⟩⟩).cells=[.sl 4 .no ((mods.map fun s=>(⟨s.name,Adr.K.none⟩:Adr.Step)).map Adr.Step.cells),.bool data,.str ty,.str nm,.int .i64 0,.int .i64 0,.str []]:=rfl
 rw [hbc]
 refine pcallz ?_ (by simp [A.pure,A.data,Adr.Ad.cells]) h
 refine acall_of mixedT h_astatic (by simp [c_astatic]) ?_
 dsimp only [c_astatic,Adr.Ad.cells]
 by_cases hm:mods=[]
 ·subst hm
  have hc:=fun h=>a_clone_steps0 4 .no h
  have hz:¬ (0:Int) < ((0:Nat):Int):=by decide
  simp only [List.map_nil]
  refine run0 ti ?_
  refine use (hc _) ?_
  refine run0 ti ?_
  refine go_once ?_
  refine run0 hz ?_
  exact ⟨_,le_refl _,_,rfl,⟨.inl ⟨rfl,rfl⟩,.inl ⟨rfl,rfl⟩,.inl ⟨rfl,rfl⟩,.inl ⟨rfl,rfl⟩,.inl ⟨rfl,rfl⟩,.inl ⟨rfl,rfl⟩,.inl ⟨rfl,rfl⟩,trivial⟩⟩
 ·have hrne:mods.map Adr.Step.cells≠[]:=by simpa using hm
  have lm:(mods.map Adr.Step.cells).length=mods.length:=List.length_map ..
  have hc:=fun h=>a_clone_steps .no (mods.map Adr.Step.cells) hrne (by rw [lm]; omega) (by rw [lm]; unfold maxLen; omega) h
  rw [lm] at hc
  refine run0 ti ?_
  refine use (hc _) ?_
  refine run0 ti ?_
  have hL0:(mods.map Adr.Step.cells).flatten=barL mods 0:=by unfold barL; simp
  rw [hL0]
  refine awp_loop (fun mm ts h=>∃ (j:Nat) (B0:Blk),mm=mods.length - j∧j≤mods.length∧h=⟨[B0,.cells 193 [.sl 0 .nil [],.bool false,.str [],.str [],.int .i64 0,.int .i64 0,.str []],.cells 193 [.bs 3 4 mods.length,.bool data,.str ty,.str nm,.int .i64 0,.int .i64 0,.str []],.row 227 (barL mods j)],[]⟩∧ts 2 = .ptr 1 0∧ts 3 = .ptr 2 0∧ts 14 = .int .i64 (mods.length:Nat)∧ts 15 = .int .i64 (j:Nat)) mods.length ?_ ?_
  ·exact ⟨0,_,by omega,by omega,rfl,by (exact ev0 ti),by (exact ev0 ti),by (exact ev0 ti),by (exact inv0 ti)⟩
  rintro mm ts h ⟨j,B0,rfl,hjc,rfl,t2,t3,t14,t15⟩
  by_cases hj:j < mods.length
  ·have hlt:(j:Int) < (mods.length:Int):=by omega
   have hj0:(0:Int)≤(j:Int):=by omega
   have ei:IntKind.i64.wrap ((j:Int)+1)=((j+1:Nat):Int):=by rw [wrap64 (by omega) (by omega)]; omega
   have hset:=barL_set mods j hj
   have hln:j*4+1+3≤(barL mods j).length:=by rw [barL_len _ _ (by omega)]; omega
   simp only [setCells] at hset
   refine run0 (ai t2 (ai t3 (ai t14 (ai t15 (ai hlt (ai hj0 (ai hln (ai hset ei)))))))) ?_
   exact ⟨mods.length - (j+1),by omega,j+1,B0,rfl,by omega,rfl,by (exact ev0 t2),by (exact ev0 t3),by (exact ev0 t14),by (exact ev0 ei)⟩
  ·have hlt:¬ ((j:Int) < (mods.length:Int)):=by omega
   have hje:j=mods.length:=by omega
   subst hje
   refine run0 (ai t2 (ai t3 (ai t14 (ai t15 hlt)))) ?_
   refine ⟨_,le_refl _,_,rfl,⟨.inr ⟨3,4,227,(mods.map bareS).map Adr.Step.cells,by simp,?_,rfl,?_,?_⟩,.inl ⟨rfl,rfl⟩,.inl ⟨rfl,rfl⟩,.inl ⟨rfl,rfl⟩,.inl ⟨rfl,rfl⟩,.inl ⟨rfl,rfl⟩,.inl ⟨rfl,rfl⟩,trivial⟩⟩
   ·show some (Blk.row _ _)=some _
    congr 2
    unfold barL
    simp
   ·intro r hr
    obtain ⟨s,_,rfl⟩:=List.mem_map.1 hr
    rfl
   ·rw [List.all_flatten,List.all_eq_true]
    intro r hr
    obtain ⟨s,_,rfl⟩:=List.mem_map.1 hr
    rfl
def c_acheck:AX.AFn:=⟨39,aS [aR 1 (.box 193 (.t 0)),aR 2 (.mv (aI 0))] (.seq (aS [aF 5 0 1,aL 6 5,aR 7 (.len false (.t 6)),aR 8 (.bin .gtr (.t 7) (aI 16))] (.cond (.t 8) (aS [aR 2 (.mv (aI 4))] (.ret)) (.skip))) (.seq (aS [aF 9 0 1,aL 10 9,aR 11 (.len false (.t 10)),aR 12 (.mv (aI 0))] (.block 0 (.loop (aS [aR 13 (.bin .lss (.t 12) (.t 11))] (.seq (.cond (.t 13) (.skip) (.exit 0)) (.seq (.block 1 (aS [aR 14 (.iaddr 4 (.t 10) (.t 12)),aR 15 (.load true 4 (.t 14)),aR 4 (.alloc 227 [.str [],.int .i64 0,.int .i64 0,.str []]),aU (.store 4 (.t 4) (.t 15))] (.seq (aS [aF 16 0 4,aL 17 16,aR 18 (.call 134 [.t 17]),aR 19 (.un .not (.t 18))] (.cond (.t 19) (aS [aR 2 (.mv (aI 7))] (.ret)) (.skip))) (aS [aF 20 1 4,aR 21 (.load true 3 (.t 20)),aR 22 (.call 237 [.t 21]),aR 23 (.un .not (.t 22))] (.cond (.t 23) (aS [aR 2 (.mv (aI 1))] (.ret)) (.skip)))))) (.reg false [aR 24 (.bin .add (.t 12) (aI 1)),aM 12 24]))))))) (.seq (aS [aF 25 2 1,aL 26 25,aR 27 (.call 172 [.t 26]),aR 28 (.un .not (.t 27)),aM 29 28,aG 30 (.faddr 3 (.t 1)) 29 false,aG 31 (.load false 1 (.t 30)) 29 false,aG 32 (.call 134 [.t 31]) 29 false,aG 33 (.un .not (.t 32)) 29 false,aR 34 (.pick (.t 29) (.c (.bool true)) (.t 33))] (.cond (.t 34) (aS [aR 2 (.mv (aI 7))] (.ret)) (.skip))) (.seq (aS [aF 35 4 1,aR 36 (.load true 3 (.t 35)),aR 37 (.call 237 [.t 36]),aR 38 (.un .not (.t 37))] (.cond (.t 38) (aS [aR 2 (.mv (aI 1))] (.ret)) (.skip))) (aS [aR 2 (.mv (aI 0))] (.ret)))))),[.t 2]⟩
theorem h_acheck:AX.compFn Tryz.prog 213=some c_acheck:=by kernel_rfl
def c_afmtkey:AX.AFn:=⟨26,aS [aR 1 (.box 191 (.t 0)),aR 2 (.mv (.c (.str [])))] (.seq (.block 0 (aS [aR 4 (.load true 3 (.t 1)),aR 5 (.call 237 [.t 4]),aR 6 (.un .not (.t 5)),aM 7 6,aG 8 (.faddr 0 (.t 1)) 7 false,aG 9 (.load false 1 (.t 8)) 7 false,aG 10 (.bin .eql (.t 9) (aI 0)) 7 false,aR 11 (.pick (.t 7) (.c (.bool true)) (.t 10)),aM 3 11] (.cond (.t 3) (aS [aR 2 (.mv (.c (.str [])))] (.ret)) (aS [aF 13 0 1,aL 14 13,aR 15 (.bin .eql (.t 14) (aI 1)),aM 12 15] (.cond (.t 12) (aS [aF 16 1 1,aL 17 16,aR 18 (.call 238 [.t 17]),aR 19 (.bin .add (.c (.str [91])) (.t 18)),aR 20 (.bin .add (.t 19) (.c (.str [93]))),aM 2 20] (.ret)) (.skip)))))) (aS [aF 21 2 1,aL 22 21,aR 23 (.call 199 [.t 22]),aR 24 (.bin .add (.c (.str [91])) (.t 23)),aR 25 (.bin .add (.t 24) (.c (.str [93]))),aM 2 25] (.ret))),[.t 2]⟩
theorem h_afmtkey:AX.compFn Tryz.prog 214=some c_afmtkey:=by kernel_rfl
def c_aformat:AX.AFn:=⟨41,aS [aR 1 (.box 193 (.t 0)),aR 2 (.mv (.c (.str [])))] (.seq (aS [aR 6 (.load true 7 (.t 1)),aR 7 (.call 213 [.t 6]),aR 8 (.bin .neq (.t 7) (aI 0))] (.cond (.t 8) (aS [aR 2 (.mv (.c (.str [])))] (.ret)) (.skip))) (aS [aR 3 (.alloc 86 [.nilp,.sl 0 .nil []])] (.seq (aS [aF 9 0 1,aL 10 9,aR 11 (.len false (.t 10)),aR 12 (.mv (aI 0))] (.block 0 (.loop (aS [aR 13 (.bin .lss (.t 12) (.t 11))] (.seq (.cond (.t 13) (.skip) (.exit 0)) (.seq (.block 1 (aS [aR 14 (.iaddr 4 (.t 10) (.t 12)),aR 15 (.load true 4 (.t 14)),aR 5 (.alloc 227 [.str [],.int .i64 0,.int .i64 0,.str []]),aU (.store 4 (.t 5) (.t 15))] (.reg true [aF 16 0 5,⟨some 17,.load false 1 (.t 16),none,[0]⟩,⟨some 18,.bin .add (.c (.str [109,111,100,117,108,101,46])) (.t 17),none,[1]⟩,aF 19 1 5,⟨some 20,.load true 3 (.t 19),none,[3]⟩,⟨some 21,.call 214 [.t 20],none,[4]⟩,⟨some 22,.bin .add (.t 18) (.t 21),none,[2,5]⟩,⟨some 23,.bin .add (.t 22) (.c (.str [46])),none,[6]⟩,⟨some 24,.call 43 [.t 3,.t 23],none,[7,5]⟩]))) (.reg false [aR 25 (.bin .add (.t 12) (aI 1)),aM 12 25]))))))) (.seq (aS [aF 26 1 1,aL 27 26] (.cond (.t 27) (.reg false [aR 28 (.call 43 [.t 3,.c (.str [100,97,116,97,46])])]) (.skip))) (.seq (.reg true [aF 29 2 1,⟨some 30,.load false 1 (.t 29),none,[0]⟩,⟨some 31,.bin .add (.t 30) (.c (.str [46])),none,[1]⟩,aF 32 3 1,⟨some 33,.load false 1 (.t 32),none,[3]⟩,⟨some 34,.bin .add (.t 31) (.t 33),none,[2,4]⟩,aF 35 4 1,⟨some 36,.load true 3 (.t 35),none,[6]⟩,⟨some 37,.call 214 [.t 36],none,[7]⟩,⟨some 38,.bin .add (.t 34) (.t 37),none,[5,8]⟩,⟨some 39,.call 43 [.t 3,.t 38],none,[9,8]⟩]) (aS [aR 40 (.call 44 [.t 3]),aM 2 40] (.ret))))))),[.t 2]⟩
theorem h_aformat:AX.compFn Tryz.prog 193=some c_aformat:=by kernel_rfl
def c_aStatic:AX.AFn:=⟨17,aS [aR 2 (.mv (.c (.str []))),aR 3 (.mv (aI 0))] (aS [aM 7 0,aR 8 (.call 133 [.t 7]),aM 6 8,aE 9 6 0,aE 10 6 1,aR 4 (.alloc 193 [.sl 0 .nil [],.bool false,.str [],.str [],.int .i64 0,.int .i64 0,.str []]),aU (.store 7 (.t 4) (.t 9)),aM 5 10] (.seq (aS [aM 11 5,aR 12 (.bin .neq (.t 11) (aI 0))] (.cond (.t 12) (aS [aM 13 5,aR 2 (.mv (.c (.str []))),aM 3 13] (.ret)) (.skip))) (aS [aR 14 (.load true 7 (.t 4)),aR 15 (.call 194 [.t 14]),aR 16 (.call 193 [.t 15]),aM 2 16,aR 3 (.mv (aI 0))] (.ret)))),[.t 2,.t 3]⟩
theorem h_aStatic:AX.compFn Tryz.prog 165=some c_aStatic:=by kernel_rfl
structure Adr.In (a:Adr.Ad):Prop where
 n:a.mods.length≤3000000
 m:∀ s∈a.mods,s.name.length≤2000000∧s.key.str.length≤2000000
 t:a.type.length≤2000000
 nm:a.name.length≤2000000
 k:a.key.str.length≤2000000
theorem a_acheck (a:Adr.Ad) (hi:Adr.In a) (h:Hp):ACall Tryz.prog GT 213 [.agg a.cells] h fun r h'=>r = .int .i64 (Adr.check a)∧h'=h:=by
 obtain ⟨mods,data,ty,nm,⟨kk,kn,ks⟩⟩:=a
 obtain ⟨hn,hm,ht,ha,hk⟩:=hi
 dsimp only at hn hm ht ha hk
 refine pcall ?_ rfl (by simp [A.pure,A.data,Adr.Ad.cells]) h
 refine acall_of mixedT h_acheck (by simp [c_acheck]) ?_
 dsimp only [c_acheck,Adr.Ad.cells]
 have lm:(mods.map Adr.Step.cells).length=mods.length:=List.length_map ..
 obtain ⟨Z,hZ⟩:∃ Z,Adr.check ⟨mods,data,ty,nm,⟨kk,kn,ks⟩⟩=Z:=⟨_,rfl⟩
 rw [hZ]
 unfold Adr.check at hZ
 dsimp only at hZ
 by_cases h16:(mods.length:Int) > 16
 ·rw [if_pos (by omega)] at hZ
  subst hZ
  refine run0 (ai lm h16) ?_
  exact ⟨_,le_refl _,rfl⟩
 rw [if_neg (by omega)] at hZ
 have ck:=fun h=>a_kind ty ht h
 have ci:=fun h=>a_ident nm ha h
 have cv:=fun h=>a_avalid ⟨kk,kn,ks⟩ hk h
 unfold Adr.K.A at cv
 dsimp only at cv
 refine run0 (ai lm h16) ?_
 refine awp_loop (fun mm ts h=>∃ (j:Nat) (l:List Blk),mm=mods.length - j∧j≤mods.length∧h=⟨.cells 193 [.sl 4 .no (mods.map Adr.Step.cells),.bool data,.str ty,.str nm,.int .i64 kk,.int .i64 kn,.str ks]::l,[]⟩ ∧
  (match (mods.drop j).find? (fun s=>!(Adr.ident s.name&&Adr.keyOk s.key)) with
  | some s=>if Adr.ident s.name then (1:Int) else 7
  | none=>if !Adr.kindB ty||!Adr.ident nm then 7 else if !Adr.keyOk ⟨kk,kn,ks⟩ then 1 else 0)=Z ∧
  ts 1 = .ptr 0 0∧ts 10 = .sl 4 .no (mods.map Adr.Step.cells)∧ts 11 = .int .i64 (mods.length:Nat)∧ts 12 = .int .i64 (j:Nat)) mods.length ?_ ?_
 ·exact ⟨0,[],by omega,by omega,rfl,hZ,by (exact ev0 ti),by (exact ev0 ti),by (exact ev0 lm),by (exact inv0 ti)⟩
 rintro mm ts h ⟨j,l,rfl,hjc,rfl,hit,t1,t10,t11,t12⟩
 by_cases hj:j < mods.length
 ·have hlt:(j:Int) < (mods.length:Int):=by omega
  have hlt':(j:Int) < ((mods.map Adr.Step.cells).length:Int):=by rw [lm]; exact hlt
  have hj0:(0:Int)≤(j:Int):=by omega
  have ei:IntKind.i64.wrap ((j:Int)+1)=((j+1:Nat):Int):=by rw [wrap64 (by omega) (by omega)]; omega
  have hg:=map_getD Adr.Step.cells mods j hj
  have hmj:=hm _ (List.getElem_mem hj)
  rw [List.drop_eq_getElem_cons hj,List.find?_cons] at hit
  obtain ⟨x,hx⟩:∃ x,mods[j]=x:=⟨_,rfl⟩
  rw [hx] at hg hmj hit
  obtain ⟨xn,⟨xk,xm,xs⟩⟩:=x
  dsimp only [Adr.Step.cells] at hg hmj hit
  have cxi:=fun h=>a_ident xn hmj.1 h
  have cxv:=fun h=>a_avalid ⟨xk,xm,xs⟩ hmj.2 h
  unfold Adr.K.A at cxv
  dsimp only at cxv
  obtain ⟨I,hI⟩:∃ I,Adr.ident xn=I:=⟨_,rfl⟩
  obtain ⟨K,hK⟩:∃ K,Adr.keyOk ⟨xk,xm,xs⟩=K:=⟨_,rfl⟩
  rw [hI] at cxi hit
  rw [hK] at cxv hit
  refine run0 (ai t1 (ai t10 (ai t11 (ai t12 (ai hlt (ai hlt' (ai hj0 hg))))))) ?_
  refine use (cxi _) ?_
  cases I
  ·simp only [Bool.false_and,Bool.not_false] at hit
   rw [hI] at hit
   simp only [Bool.false_eq_true,if_false] at hit
   subst hit
   refine run0 (ai t1 (ai t10 (ai t11 t12))) ?_
   exact ⟨_,le_refl _,rfl⟩
  refine run0 (ai t1 (ai t10 (ai t11 t12))) ?_
  refine use (cxv _) ?_
  cases K
  ·simp only [Bool.and_false,Bool.not_false] at hit
   rw [hI] at hit
   simp only [if_true] at hit
   subst hit
   refine run0 (ai t1 (ai t10 (ai t11 t12))) ?_
   exact ⟨_,le_refl _,rfl⟩
  ·simp only [Bool.and_true,Bool.not_true] at hit
   refine run0 (ai t1 (ai t10 (ai t11 (ai t12 ei)))) ?_
   exact ⟨mods.length - (j+1),by omega,j+1,_,rfl,by omega,rfl,hit,by (exact ev0 t1),by (exact ev0 t10),by (exact ev0 t11),by (exact ev0 ei)⟩
 ·have hlt:¬ ((j:Int) < (mods.length:Int)):=by omega
  rw [List.drop_eq_nil_of_le (by omega)] at hit
  simp only [List.find?_nil] at hit
  refine run0 (ai t1 (ai t10 (ai t11 (ai t12 hlt)))) ?_
  refine use (ck _) ?_
  cases hkb:Adr.kindB ty
  ·rw [hkb] at hit
   rw [if_pos (by simp)] at hit
   subst hit
   refine run0 (ai t1 (ai t10 (ai t11 t12))) ?_
   exact ⟨_,le_refl _,rfl⟩
  rw [hkb] at hit
  refine run0 (ai t1 (ai t10 (ai t11 t12))) ?_
  refine use (ci _) ?_
  cases hib:Adr.ident nm
  ·rw [hib] at hit
   rw [if_pos (by simp)] at hit
   subst hit
   refine run0 (ai t1 (ai t10 (ai t11 t12))) ?_
   exact ⟨_,le_refl _,rfl⟩
  rw [hib] at hit
  rw [if_neg (by simp)] at hit
  refine run0 (ai t1 (ai t10 (ai t11 t12))) ?_
  refine use (cv _) ?_
  cases hvb:Adr.keyOk ⟨kk,kn,ks⟩
  ·rw [hvb] at hit
   rw [if_pos (by simp)] at hit
   subst hit
   refine run0 (ai t1 (ai t10 (ai t11 t12))) ?_
   exact ⟨_,le_refl _,rfl⟩
  ·rw [hvb] at hit
   rw [if_neg (by simp)] at hit
   subst hit
   refine run0 (ai t1 (ai t10 (ai t11 t12))) ?_
   exact ⟨_,le_refl _,rfl⟩
theorem a_fmtkey0 (h:Hp):ACall Tryz.prog GT 214 [.agg [.int .i64 0,.int .i64 0,.str []]] h fun r h'=>r = .str []∧h'=h:=by
 refine pcall ?_ rfl (by simp [A.pure,A.data]) h
 refine acall_of mixedT h_afmtkey (by simp [c_afmtkey]) ?_
 dsimp only [c_afmtkey]
 have cv:=fun h=>a_avalid Adr.K.none (by unfold Adr.K.none; simp) h
 have e1:Adr.keyOk Adr.K.none=true:=by decide
 rw [e1] at cv
 unfold Adr.K.A Adr.K.none at cv
 dsimp only at cv
 refine run0 ti ?_
 refine use (cv _) ?_
 refine run0 ti ?_
 exact ⟨_,le_refl _,rfl⟩
def Bw (acc:List UInt8) (w:Blk):Prop:=w=bwt acc∨(acc=[]∧w = .cells 86 [.nilp,.sl 0 .nil []])
theorem Bw.bt {acc:List UInt8} {w B0:Blk} {l:List Blk} {t:List (TypeId×Nat×Nat)} (hw:Bw acc w):Bt ⟨B0::w::l,t⟩ 1 acc:=by
 rcases hw with rfl | ⟨rfl,rfl⟩
 ·exact .inl rfl
 ·exact .inr ⟨rfl,rfl⟩
def stepB (s:Adr.Step):List UInt8:=Adr.modW++s.name++[46]
theorem fmt_bare (mods:List Adr.Step) (data:Bool) (ty nm:List UInt8) (hk:∀ s∈mods,s.key=Adr.K.none) (hc:Adr.check ⟨mods,data,ty,nm,Adr.K.none⟩=0) :
  Adr.fmt ⟨mods,data,ty,nm,Adr.K.none⟩=mods.flatMap stepB++(if data then Adr.dataW else [])++(ty++[46]++nm):=by
 have hn:Adr.fmtKey Adr.K.none=[]:=by decide
 unfold Adr.fmt
 rw [if_neg (by simp [hc])]
 dsimp only
 rw [hn]
 have e:Adr.steps mods=mods.flatMap stepB:=by
  unfold Adr.steps
  induction mods with
  | nil=>rfl
  | cons x l ih =>
   have hx:=hk x (by simp)
   have hcl:∀ l:List Adr.Step,(∀ s∈l,s.key=Adr.K.none)→(l.flatMap fun s=>Adr.modW++s.name++Adr.fmtKey s.key++[46])=l.flatMap stepB:=by
    intro l
    induction l with
    | nil=>intro _; rfl
    | cons y l ih =>
     intro hl
     rw [List.flatMap_cons,List.flatMap_cons,ih fun s hs=>hl s (by simp [hs]),hl y (by simp),hn]
     unfold stepB
     simp
   exact hcl _ hk
 rw [e]
 simp
theorem fm_snoc' {α:Type} (f:α→List UInt8) (l:List α) (j:Nat) (hj:j < l.length):(l.take (j+1)).flatMap f=(l.take j).flatMap f++f l[j]:=by
 rw [List.take_succ_eq_append_getElem hj,List.flatMap_append]; simp
theorem fm_len16:∀ (l:List Adr.Step),(∀ s∈l,s.name.length≤2000000)→(l.flatMap stepB).length≤l.length*2000008
 | [],_=>by simp
 | x::l,h=>by
  rw [List.flatMap_cons,List.length_append,List.length_cons,Nat.succ_mul]
  have h1:=fm_len16 l fun s hs=>h s (by simp [hs])
  have h2:=h x (by simp)
  have h3:(stepB x).length=x.name.length+8:=by unfold stepB; simp [Adr.modW] <;> omega
  omega
theorem a_format0 (a:Adr.Ad) (hi:Adr.In a) (hk:∀ s∈a.mods,s.key=Adr.K.none) (hkk:a.key=Adr.K.none) (h:Hp):ACall Tryz.prog GT 193 [.agg a.cells] h fun r h'=>r = .str (Adr.fmt a)∧h'=h:=by
 have cc:=fun h=>a_acheck a hi h
 obtain ⟨mods,data,ty,nm,key⟩:=a
 dsimp only at hk hkk
 subst hkk
 have hfb:=fmt_bare mods data ty nm hk
 obtain ⟨hn,hm,ht,ha,_⟩:=hi
 dsimp only at hn hm ht ha
 refine pcall ?_ rfl (by simp [A.pure,A.data,Adr.Ad.cells]) h
 refine acall_of mixedT h_aformat (by simp [c_aformat]) ?_
 dsimp only [c_aformat,Adr.Ad.cells,Adr.K.none] at cc ⊢
 have lm:(mods.map Adr.Step.cells).length=mods.length:=List.length_map ..
 by_cases hc0:Adr.check ⟨mods,data,ty,nm,Adr.K.none⟩=0
 rotate_left
 ·have e1:(Adr.check ⟨mods,data,ty,nm,Adr.K.none⟩ != 0)=true:=by simp [hc0]
  have hfz:Adr.fmt ⟨mods,data,ty,nm,Adr.K.none⟩=[]:=by unfold Adr.fmt; rw [if_pos hc0]
  unfold Adr.K.none at e1 hfz
  refine run0 ti ?_
  refine use (cc _) ?_
  refine run0 e1 ?_
  exact ⟨_,le_refl _,by rw [hfz]; rfl⟩
 have e1:(Adr.check ⟨mods,data,ty,nm,Adr.K.none⟩ != 0)=false:=by simp [hc0]
 have hf:=hfb hc0
 have hn16:mods.length≤16:=by
  rcases Nat.lt_or_ge 16 mods.length with h16 | h16
  ·unfold Adr.check at hc0
   rw [if_pos h16] at hc0
   exact absurd hc0 (by decide)
  ·exact h16
 have hlenall:=fm_len16 mods fun s hs=>(hm s hs).1
 unfold Adr.K.none at e1 hf
 rw [hf]
 refine run0 ti ?_
 refine use (cc _) ?_
 refine run0 (ai e1 lm) ?_
 refine awp_loop (fun mm ts h=>∃ (j:Nat) (w:Blk) (l:List Blk),mm=mods.length - j∧j≤mods.length∧h=⟨.cells 193 [.sl 4 .no (mods.map Adr.Step.cells),.bool data,.str ty,.str nm,.int .i64 0,.int .i64 0,.str []]::w::l,[]⟩∧Bw ((mods.take j).flatMap stepB) w ∧
  ts 1 = .ptr 0 0∧ts 3 = .ptr 1 0∧ts 10 = .sl 4 .no (mods.map Adr.Step.cells)∧ts 11 = .int .i64 (mods.length:Nat)∧ts 12 = .int .i64 (j:Nat)) mods.length ?_ ?_
 ·exact ⟨0,_,[],by omega,by omega,rfl,.inr ⟨rfl,rfl⟩,by (exact ev0 ti),by (exact ev0 ti),by (exact ev0 ti),by (exact ev0 lm),by (exact inv0 ti)⟩
 rintro mm ts h ⟨j,w,l,rfl,hjc,rfl,hw,t1,t3,t10,t11,t12⟩
 have hacc:((mods.take j).flatMap stepB).length≤32000128:=by
  have h2:(mods.take j).length≤16:=by rw [List.length_take]; omega
  exact Nat.le_trans (fm_len16 (mods.take j) fun s hs=>(hm s (List.mem_of_mem_take hs)).1) (Nat.le_trans (Nat.mul_le_mul_right 2000008 h2) (by decide))
 by_cases hj:j < mods.length
 ·have hlt:(j:Int) < (mods.length:Int):=by omega
  have hlt':(j:Int) < ((mods.map Adr.Step.cells).length:Int):=by rw [lm]; exact hlt
  have hj0:(0:Int)≤(j:Int):=by omega
  have ei:IntKind.i64.wrap ((j:Int)+1)=((j+1:Nat):Int):=by rw [wrap64 (by omega) (by omega)]; omega
  have hg:=map_getD Adr.Step.cells mods j hj
  have hmj:=hm _ (List.getElem_mem hj)
  have hkj:=hk _ (List.getElem_mem hj)
  have hsn:=fm_snoc' stepB mods j hj
  obtain ⟨x,hx⟩:∃ x,mods[j]=x:=⟨_,rfl⟩
  rw [hx] at hg hmj hkj hsn
  obtain ⟨xn,xk⟩:=x
  dsimp only at hkj
  subst hkj
  dsimp only [Adr.Step.cells,Adr.K.none] at hg hmj
  have hxl:=hmj.1
  have hsl:(stepB ⟨xn,Adr.K.none⟩).length=xn.length+8:=by unfold stepB; simp [Adr.modW] <;> omega
  have hse:109::111::100::117::108::101::46::(xn++[46])=stepB ⟨xn,Adr.K.none⟩:=rfl
  have l1:7+xn.length < 1099511627776:=by omega
  have l2:xn.length+7 < 1099511627776:=by omega
  have l3:xn.length+7+1 < 1099511627776:=by omega
  have l4:xn.length+8 < 1099511627776:=by omega
  have hcw:=fun (z:Blk)=>a_bwrite (h:=⟨.cells 193 [.sl 4 .no (mods.map Adr.Step.cells),.bool data,.str ty,.str nm,.int .i64 0,.int .i64 0,.str []]::w::(l++[z]),[]⟩) (i:=1) hw.bt (stepB ⟨xn,Adr.K.none⟩) (by rw [hsl]; omega)
  rw [←hsn] at hcw
  have hcf:=fun h=>a_fmtkey0 h
  refine run0 (ai t1 (ai t3 (ai t10 (ai t11 (ai t12 (ai hlt (ai hlt' (ai hj0 (ai hg (ai l1 hse)))))))))) ?_
  refine use (hcf _) ?_
  refine run0 (ai t1 (ai t3 (ai t10 (ai t11 (ai t12 (ai l1 (ai l2 (ai l3 (ai l4 hse))))))))) ?_
  refine use (hcw _) ?_
  refine run0 (ai t1 (ai t3 (ai t10 (ai t11 (ai t12 ei))))) ?_
  exact ⟨mods.length - (j+1),by omega,j+1,_,_,rfl,by omega,rfl,.inl rfl,by (exact ev0 t1),by (exact ev0 t3),by (exact ev0 t10),by (exact ev0 t11),by (exact ev0 ei)⟩
 ·have hlt:¬ ((j:Int) < (mods.length:Int)):=by omega
  have hje:j=mods.length:=by omega
  subst hje
  rw [List.take_length] at hw hacc
  obtain ⟨P,hP⟩:∃ P,mods.flatMap stepB=P:=⟨_,rfl⟩
  rw [hP] at hw hacc ⊢
  have hcf:=fun h=>a_fmtkey0 h
  have hdw:Adr.dataW=[100,97,116,97,46]:=rfl
  have l1:ty.length+1 < 1099511627776:=by omega
  have l2:ty.length+1+nm.length < 1099511627776:=by omega
  have l3:ty.length+(nm.length+1) < 1099511627776:=by omega
  have l4:ty.length+1+nm.length < 1099511627776:=by omega
  cases data
  ·have hcw:=a_bwrite (h:=⟨.cells 193 [.sl 4 .no (mods.map Adr.Step.cells),.bool false,.str ty,.str nm,.int .i64 0,.int .i64 0,.str []]::w::l,[]⟩) (i:=1) hw.bt (ty++[46]++nm) (by simp; omega)
   have hcs:=a_bstring (h:=⟨.cells 193 [.sl 4 .no (mods.map Adr.Step.cells),.bool false,.str ty,.str nm,.int .i64 0,.int .i64 0,.str []]::bwt (P++(ty++[46]++nm))::l,[]⟩) (i:=1) (.inl rfl) (by simp)
   refine run0 (ai t1 (ai t3 (ai t10 (ai t11 (ai t12 (ai hlt (ai l1 (ai l2 l3)))))))) ?_
   refine use (hcf _) ?_
   refine run0 (ai t1 (ai t3 (ai t10 (ai t11 (ai t12 (ai hlt (ai l1 (ai l2 (ai l3 l4))))))))) ?_
   refine use hcw ?_
   refine run0 (ai t1 (ai t3 (ai t10 (ai t11 t12)))) ?_
   refine use hcs ?_
   refine run0 (ai t1 (ai t3 (ai t10 (ai t11 t12)))) ?_
   exact ⟨_,le_refl _,by simp [tupA_1]⟩
  ·have hcd:=a_bwrite (h:=⟨.cells 193 [.sl 4 .no (mods.map Adr.Step.cells),.bool true,.str ty,.str nm,.int .i64 0,.int .i64 0,.str []]::w::l,[]⟩) (i:=1) hw.bt Adr.dataW (by rw [hdw]; simp; omega)
   have hcw:=a_bwrite (h:=⟨.cells 193 [.sl 4 .no (mods.map Adr.Step.cells),.bool true,.str ty,.str nm,.int .i64 0,.int .i64 0,.str []]::bwt (P++Adr.dataW)::l,[]⟩) (i:=1) (.inl rfl) (ty++[46]++nm) (by rw [hdw]; simp; omega)
   have hcs:=a_bstring (h:=⟨.cells 193 [.sl 4 .no (mods.map Adr.Step.cells),.bool true,.str ty,.str nm,.int .i64 0,.int .i64 0,.str []]::bwt (P++Adr.dataW++(ty++[46]++nm))::l,[]⟩) (i:=1) (.inl rfl) (by simp)
   rw [hdw] at hcd hcw hcs ⊢
   refine run0 (ai t1 (ai t3 (ai t10 (ai t11 (ai t12 (ai hlt (ai l1 (ai l2 l3)))))))) ?_
   refine use hcd ?_
   refine run0 (ai t1 (ai t3 (ai t10 (ai t11 (ai t12 (ai hlt (ai l1 (ai l2 l3)))))))) ?_
   refine use (hcf _) ?_
   refine run0 (ai t1 (ai t3 (ai t10 (ai t11 (ai t12 (ai hlt (ai l1 (ai l2 (ai l3 l4))))))))) ?_
   refine use hcw ?_
   refine run0 (ai t1 (ai t3 (ai t10 (ai t11 t12)))) ?_
   refine use hcs ?_
   refine run0 (ai t1 (ai t3 (ai t10 (ai t11 t12)))) ?_
   exact ⟨_,le_refl _,by simp [tupA_1]⟩
def c_vknown:AX.AFn:=⟨12,aS [aR 1 (.box 34 (.t 0)),aR 2 (.mv (.c (.bool false)))] (aS [aF 3 0 1,aL 4 3,aR 5 (.bin .neq (.t 4) (aI 6)),aM 6 5,aG 7 (.faddr 3 (.t 1)) 6 true,aG 8 (.load false 1 (.t 7)) 6 true,aG 9 (.call 163 [.t 8,.c (.fn 164 [])]) 6 true,aG 10 (.un .not (.t 9)) 6 true,aR 11 (.pick (.t 6) (.t 10) (.c (.bool false))),aM 2 11] (.ret)),[.t 2]⟩
theorem h_vknown:AX.compFn Tryz.prog 129=some c_vknown:=by kernel_rfl
def c_vknown1:AX.AFn:=⟨6,aS [aR 1 (.box 34 (.t 0)),aR 2 (.mv (.c (.bool false)))] (aS [aR 3 (.load true 5 (.t 1)),aR 4 (.call 129 [.t 3]),aR 5 (.un .not (.t 4)),aM 2 5] (.ret)),[.t 2]⟩
theorem h_vknown1:AX.compFn Tryz.prog 164=some c_vknown1:=by kernel_rfl
def c_containsv:AX.AFn:=⟨9,aS [aR 4 (.mv (.c (.bool false)))] (aS [aM 5 0,aM 6 1,aR 7 (.call 192 [.t 5,.t 6]),aR 8 (.bin .geq (.t 7) (aI 0)),aM 4 8] (.ret)),[.t 4]⟩
theorem h_containsv:AX.compFn Tryz.prog 163=some c_containsv:=by kernel_rfl
def c_indexv:AX.AFn:=⟨19,aS [aR 4 (.mv (aI 0))] (.seq (aS [aM 6 0,aR 7 (.len false (.t 6)),aR 8 (.mv (aI 0))] (.block 0 (.loop (aS [aR 9 (.bin .lss (.t 8) (.t 7))] (.seq (.cond (.t 9) (.skip) (.exit 0)) (.seq (.block 1 (aS [aM 10 8,aM 5 10] (aS [aM 11 1,aM 12 0,aM 13 5,aR 14 (.iaddr 5 (.t 12) (.t 13)),aR 15 (.load true 5 (.t 14)),aR 16 (.callv (.t 11) [.t 15])] (.cond (.t 16) (aS [aM 17 5,aM 4 17] (.ret)) (.skip))))) (.reg false [aR 18 (.bin .add (.t 8) (aI 1)),aM 8 18]))))))) (aS [aR 4 (.mv (aI (-1)))] (.ret))),[.t 4]⟩
theorem h_indexv:AX.compFn Tryz.prog 192=some c_indexv:=by kernel_rfl
def unkIdx:Nat→List V→Int
 | _,[]=>-1
 | i,v::l=>if Sf.known v=true then unkIdx (i+1) l else i
theorem unkIdx_ge:∀ (l:List V) (i:Nat),unkIdx i l≥0↔Sf.knowns l=false
 | [],i=>by simp [unkIdx,Sf.knowns]
 | v::l,i=>by
  unfold unkIdx Sf.knowns
  cases h:Sf.known v
  ·simp
  ·simp only [if_true,Bool.true_and]; exact unkIdx_ge l (i+1)
theorem a_indexv (is:List V) (hn:is.length≤9223372036854775807) (hf:∀ x∈is,∀ h,ACall Tryz.prog GT 164 [x.A] h fun r h'=>r = .bool (!Sf.known x)∧h'=h) (h:Hp):ACall Tryz.prog GT 192 [.sl 5 .no (V.cellss is),.fn 164 []] h fun r h'=>r = .int .i64 (unkIdx 0 is)∧h'=h:=by
 refine pcall ?_ rfl (by simp [A.pure,A.data]) h
 refine acall_of mixedT h_indexv (by simp [c_indexv]) ?_
 dsimp only [c_indexv]
 obtain ⟨D,hD⟩:∃ D,unkIdx 0 is=D:=⟨_,rfl⟩
 rw [hD]
 refine run0 @V.cellss_length ?_
 refine awp_loop (fun mm ts h=>∃ (j:Nat),mm=is.length - j∧j≤is.length∧h=⟨[],[]⟩∧unkIdx j (is.drop j)=D∧ts 0 = .sl 5 .no (V.cellss is)∧ts 1 = .fn 164 []∧ts 7 = .int .i64 (is.length:Nat)∧ts 8 = .int .i64 (j:Nat)) is.length ?_ ?_
 ·exact ⟨0,by omega,by omega,rfl,hD,by (exact ev0 ti),by (exact ev0 ti),by (exact ev0 @V.cellss_length),by (exact inv0 ti)⟩
 rintro mm ts h ⟨j,rfl,hjc,rfl,hit,t0,t1,t7,t8⟩
 by_cases hj:j < is.length
 ·have hlt:(j:Int) < (is.length:Int):=by omega
  have hlt':(j:Int) < ((V.cellss is).length:Int):=by rw [V.cellss_length]; exact hlt
  have hj0:(0:Int)≤(j:Int):=by omega
  have ei:IntKind.i64.wrap ((j:Int)+1)=((j+1:Nat):Int):=by rw [wrap64 (by omega) (by omega)]; omega
  have hg:=V.cellss_get is j hj
  have cf:=hf is[j] (List.getElem_mem hj)
  rw [List.drop_eq_getElem_cons hj] at hit
  unfold unkIdx at hit
  obtain ⟨x,hx⟩:∃ x,is[j]=x:=⟨_,rfl⟩
  rw [hx] at hg cf hit
  obtain ⟨K,hK⟩:∃ K,Sf.known x=K:=⟨_,rfl⟩
  rw [hK] at cf hit
  obtain ⟨k,n,w,vi,vy⟩:=x
  have hVA:(V.mk k n w vi vy).A = .agg [.int .i64 k,.int .i64 n,.str w,.sl 5 .no (V.cellss vi),.sl 1 .no (strsA vy)]:=by simp only [V.A,V.cells]
  rw [hVA] at cf
  simp only [V.cells] at hg
  refine run0 (ai t0 (ai t1 (ai t7 (ai t8 (ai hlt (ai hg (ai hlt' hj0))))))) ?_
  refine use (cf _) ?_
  cases K
  ·rw [if_neg (by simp)] at hit
   subst hit
   refine run0 (ai t0 (ai t1 (ai t7 t8))) ?_
   exact ⟨_,le_refl _,rfl⟩
  ·rw [if_pos rfl] at hit
   refine run0 (ai t0 (ai t1 (ai t7 (ai t8 ei)))) ?_
   exact ⟨is.length - (j+1),by omega,j+1,rfl,by omega,rfl,hit,by (exact ev0 t0),by (exact ev0 t1),by (exact ev0 t7),by (exact ev0 ei)⟩
 ·have hlt:¬ ((j:Int) < (is.length:Int)):=by omega
  rw [List.drop_eq_nil_of_le (by omega)] at hit
  unfold unkIdx at hit
  subst hit
  refine run0 (ai t0 (ai t1 (ai t7 (ai t8 hlt)))) ?_
  exact ⟨_,le_refl _,rfl⟩
theorem a_known:∀ (v:V),v.lens→∀ h,ACall Tryz.prog GT 129 [v.A] h fun r h'=>r = .bool (Sf.known v)∧h'=h:=by
 refine V.induct ?_
 intro k n s is ks ih hl h
 have hlen:is.length≤9223372036854775807:=by have h1:=hl.1; unfold maxLen at h1; omega
 have hf:∀ x∈is,∀ h,ACall Tryz.prog GT 164 [x.A] h fun r h'=>r = .bool (!Sf.known x)∧h'=h:=by
  intro x hx h
  have ck:=ih x hx (V.lensS_mem hl.2.2.2.2 x hx)
  obtain ⟨K,hK⟩:∃ K,Sf.known x=K:=⟨_,rfl⟩
  rw [hK] at ck ⊢
  obtain ⟨k,n,w,vi,vy⟩:=x
  have hVA:(V.mk k n w vi vy).A = .agg [.int .i64 k,.int .i64 n,.str w,.sl 5 .no (V.cellss vi),.sl 1 .no (strsA vy)]:=by simp only [V.A,V.cells]
  rw [hVA] at ck ⊢
  refine pcall ?_ rfl (by simp [A.pure,A.data]) h
  refine acall_of mixedT h_vknown1 (by simp [c_vknown1]) ?_
  dsimp only [c_vknown1]
  refine run0 ti ?_
  refine use (ck _) ?_
  refine run0 ti ?_
  exact ⟨_,le_refl _,rfl⟩
 have hc:∀ h,ACall Tryz.prog GT 163 [.sl 5 .no (V.cellss is),.fn 164 []] h fun r h'=>r = .bool (!Sf.knowns is)∧h'=h:=by
  intro h
  refine pcall ?_ rfl (by simp [A.pure,A.data]) h
  refine acall_of mixedT h_containsv (by simp [c_containsv]) ?_
  dsimp only [c_containsv]
  have hge:=unkIdx_ge is 0
  have ca:=a_indexv is hlen hf
  obtain ⟨D,hD⟩:∃ D,unkIdx 0 is=D:=⟨_,rfl⟩
  rw [hD] at hge ca
  refine run0 ti ?_
  refine use (ca _) ?_
  by_cases hd:D≥0
  ·rw [hge.1 hd]
   refine run0 hd ?_
   exact ⟨_,le_refl _,rfl⟩
  ·have hk:Sf.knowns is=true:=by cases hk:Sf.knowns is; exact absurd (hge.2 hk) hd; rfl
   rw [hk]
   refine run0 hd ?_
   exact ⟨_,le_refl _,rfl⟩
 have hVA:(V.mk k n s is ks).A = .agg [.int .i64 k,.int .i64 n,.str s,.sl 5 .no (V.cellss is),.sl 1 .no (strsA ks)]:=by simp only [V.A,V.cells]
 have hK:Sf.known (.mk k n s is ks)=(k != 6&&Sf.knowns is):=by simp [Sf.known]
 rw [hVA,hK]
 refine pcall ?_ rfl (by simp [A.pure,A.data]) h
 refine acall_of mixedT h_vknown (by simp [c_vknown]) ?_
 dsimp only [c_vknown]
 by_cases h6:k=6
 ·have e:(k != 6)=false:=by simp [h6]
  rw [e]
  refine run0 e ?_
  exact ⟨_,le_refl _,rfl⟩
 ·have e:(k != 6)=true:=by simp [h6]
  rw [e]
  refine run0 e ?_
  refine use (hc _) ?_
  cases Sf.knowns is
  ·refine run0 ti ?_
   exact ⟨_,le_refl _,rfl⟩
  ·refine run0 ti ?_
   exact ⟨_,le_refl _,rfl⟩
end AX
end Go.Proofs.YtahmpiioegemaaaGreatDoor

namespace Go.Proofs.YtahmpiioegemaaaGreatDoor
open Go.RowKit
open Go.Op (bytesLess)
namespace AX
def c_cmpor:AX.AFn:=⟨18,aS [aR 2 (.mv (aI 0))] (aS [aR 3 (.mv (aI 0))] (.seq (aS [aM 6 0,aR 7 (.len false (.t 6)),aR 8 (.mv (aI 0))] (.block 0 (.loop (aS [aR 9 (.bin .lss (.t 8) (.t 7))] (.seq (.cond (.t 9) (.skip) (.exit 0)) (.seq (.block 1 (aS [aR 10 (.iaddr 1 (.t 6) (.t 8)),aL 11 10,aM 5 11] (aS [aM 12 5,aM 13 3,aR 14 (.bin .neq (.t 12) (.t 13))] (.cond (.t 14) (aS [aM 15 5,aM 2 15] (.ret)) (.skip))))) (.reg false [aR 16 (.bin .add (.t 8) (aI 1)),aM 8 16]))))))) (aS [aM 17 3,aM 2 17] (.ret)))),[.t 2]⟩
theorem h_cmpor:AX.compFn Tryz.prog 131=some c_cmpor:=by kernel_rfl
def c_pcompare:AX.AFn:=⟨17,aS [aR 2 (.box 136 (.t 0)),aR 3 (.box 136 (.t 1)),aR 4 (.mv (aI 0))] (.seq (.reg true [aF 5 0 2,⟨some 6,.load false 1 (.t 5),none,[0]⟩,aF 7 0 3,⟨some 8,.load false 1 (.t 7),none,[2]⟩,⟨some 9,.call 132 [.t 6,.t 8],none,[1,3]⟩,aF 10 1 2,⟨some 11,.load false 1 (.t 10),none,[5]⟩,aF 12 1 3,⟨some 13,.load false 1 (.t 12),none,[7]⟩,⟨some 14,.call 132 [.t 11,.t 13],none,[6,8,4]⟩,⟨some 15,.mks 1 [.t 9,.t 14],none,[4,9]⟩,⟨some 16,.call 131 [.t 15],none,[10,9]⟩,⟨some 4,.mv (.t 16),none,[11,11,0,1,2,3,4,5,6,7,8,9,10,11]⟩]) (.ret)),[.t 4]⟩
theorem h_pcompare:AX.compFn Tryz.prog 91=some c_pcompare:=by kernel_rfl
theorem a_or (a b:Int) (h:Hp):ACall Tryz.prog GT 131 [.sl 1 .no [[.int .i64 a],[.int .i64 b]]] h fun r h'=>r = .int .i64 (if a≠0 then a else b)∧h'=h:=by
 refine pcall ?_ rfl (by simp [A.pure,A.data]) h
 refine acall_of mixedT h_cmpor (by simp [c_cmpor]) ?_
 dsimp only [c_cmpor]
 refine run0 ti ?_
 have ew0:IntKind.i64.wrap ((0:Int)+1)=1:=by decide
 have ew1:IntKind.i64.wrap ((1:Int)+1)=2:=by decide
 have en1:Int.toNat 1=1:=rfl
 have lt0:(0:Int) < ((2:Nat):Int):=by decide
 have lt1:(1:Int) < ((2:Nat):Int):=by decide
 have lt2:¬ (2:Int) < ((2:Nat):Int):=by decide
 have le1:(0:Int)≤1:=by decide
 refine awp_loop (fun mm ts h=>h=⟨[],[]⟩∧ts 3 = .int .i64 0∧ts 6 = .sl 1 .no [[.int .i64 a],[.int .i64 b]]∧ts 7 = .int .i64 ((2:Nat):Int)∧((mm=2∧ts 8 = .int .i64 0)∨(mm=1∧ts 8 = .int .i64 1∧a=0)∨(mm=0∧ts 8 = .int .i64 2∧a=0∧b=0))) 2 ?_ ?_
 ·exact ⟨rfl,by (exact ev0 ti),by (exact ev0 ti),by (exact ev0 ti),.inl ⟨rfl,by (exact ev0 ti)⟩⟩
 rintro mm ts h ⟨rfl,t3,t6,t7,⟨rfl,t8⟩ | ⟨rfl,t8,ha⟩ | ⟨rfl,t8,ha,hb⟩⟩
 ·by_cases ha:a=0
  ·have e1:(a != 0)=false:=by simp [ha]
   refine run0 (ai t3 (ai t6 (ai t7 (ai t8 (ai e1 (ai ew0 lt0)))))) ?_
   exact ⟨1,by omega,rfl,by (exact ev0 t3),by (exact ev0 t6),by (exact ev0 t7),.inr (.inl ⟨rfl,by (exact ev0 ew0),ha⟩)⟩
  ·have e1:(a != 0)=true:=by simp [ha]
   refine run0 (ai t3 (ai t6 (ai t7 (ai t8 (ai e1 lt0))))) ?_
   exact ⟨_,le_refl _,by rw [if_pos ha]; rfl⟩
 ·by_cases hb:b=0
  ·have e1:(b != 0)=false:=by simp [hb]
   refine run0 (ai t3 (ai t6 (ai t7 (ai t8 (ai e1 (ai ew1 (ai en1 (ai lt1 le1)))))))) ?_
   exact ⟨0,by omega,rfl,by (exact ev0 t3),by (exact ev0 t6),by (exact ev0 t7),.inr (.inr ⟨rfl,by (exact ev0 ew1),ha,hb⟩)⟩
  ·have e1:(b != 0)=true:=by simp [hb]
   refine run0 (ai t3 (ai t6 (ai t7 (ai t8 (ai e1 (ai en1 (ai lt1 le1))))))) ?_
   exact ⟨_,le_refl _,by rw [if_neg (by simp [ha])]; rfl⟩
 ·refine run0 (ai t3 (ai t6 (ai t7 (ai t8 lt2)))) ?_
  exact ⟨_,le_refl _,by rw [if_neg (by simp [ha]),hb]; rfl⟩
def cmp2 (a b c d:List UInt8):Int:=if cmpZ a c≠0 then cmpZ a c else cmpZ b d
theorem a_compare (L:Leafs) (a b c d:List UInt8) (h:Hp):ACall Tryz.prog GT 91 [.agg [.str a,.str b],.agg [.str c,.str d]] h fun r h'=>r = .int .i64 (cmp2 a b c d)∧h'=h:=by
 refine pcall ?_ rfl (by simp [A.pure,A.data]) h
 refine acall_of mixedT h_pcompare (by simp [c_pcompare]) ?_
 dsimp only [c_pcompare]
 refine run0 ti ?_
 refine use (L.cmp a c _) ?_
 refine run0 ti ?_
 refine use (L.cmp b d _) ?_
 refine run0 ti ?_
 refine use (a_or (cmpZ a c) (cmpZ b d) _) ?_
 refine run0 ti ?_
 exact ⟨_,le_refl _,rfl⟩
theorem cmp2_ge (x y:Sf.Inst):(cmp2 x.addr x.dep y.addr y.dep≥0)↔Sf.behind x y=false:=by
 unfold cmp2 Sf.behind cmpZ
 by_cases h1:x.addr=y.addr
 ·have irr:bytesLess y.addr y.addr=false:=by
   have:=Val.less_total y.addr y.addr
   cases h:bytesLess y.addr y.addr
   ·rfl
   ·rw [h] at this; simp at this
  rw [h1,irr]
  by_cases h2:x.dep=y.dep
  ·have irr2:bytesLess y.dep y.dep=false:=by
    have:=Val.less_total y.dep y.dep
    cases h:bytesLess y.dep y.dep
    ·rfl
    ·rw [h] at this; simp at this
   simp [h2,irr2]
  ·cases h3:bytesLess x.dep y.dep <;> simp [h2]
 ·cases h3:bytesLess x.addr y.addr <;> simp [h1]
end AX
end Go.Proofs.YtahmpiioegemaaaGreatDoor
