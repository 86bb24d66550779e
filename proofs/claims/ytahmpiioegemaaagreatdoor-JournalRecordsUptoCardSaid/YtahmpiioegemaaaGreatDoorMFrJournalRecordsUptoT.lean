/- Part of what the proof needs. -/
import Derived.Test.YtahmpiioegemaaaGreatDoorMFrJournalRecordsUptoM
import Derived.Test.YtahmpiioegemaaaGreatDoorMFrJournalRecordsUptoP
import Derived.Test.YtahmpiioegemaaaGreatDoorMFrJournalRecordsUptoQ
import Derived.Test.YtahmpiioegemaaaGreatDoorMFrJournalRecordsUptoS
set_option maxHeartbeats 4000000
set_option linter.unusedSimpArgs false
set_option linter.unusedVariables false
set_option linter.unnecessarySimpa false
namespace Go.Proofs.YtahmpiioegemaaaGreatDoor
open Go.RowKit
namespace AX
def preP (acc:List Adr.Step) (r:Option (Adr.Ad×Bool)):Option (Adr.Ad×Bool):=r.map fun p=>({ p.1 with mods:=acc++p.1.mods },p.2)
def placeT:Option (Adr.Ad×Bool)→A
 | none => .tup [.agg [.sl 0 .nil [],.bool false,.str [],.str [],.int .i64 0,.int .i64 0,.str [],.bool false],.bool false]
 | some (p,w) => .tup [.agg [.sl 4 .no (p.mods.map Adr.Step.cells),.bool p.data,.str p.type,.str p.name,.int .i64 p.key.kind,.int .i64 p.key.num,.str p.key.str,.bool w],.bool true]
theorem placeT_pure (r:Option (Adr.Ad×Bool)):(placeT r).pure=true:=by
 cases r with
 | none=>rfl
 | some p=>rfl
theorem step_R (s:List UInt8):Adr.step s=if (stepR s).2.2=true then some ((stepR s).1,(stepR s).2.1) else none:=by
 unfold Adr.step stepR keyR
 cases Adr.key ((s.drop 7).dropWhile Adr.wordB) with
 | none=>simp
 | some p =>
  obtain ⟨k,r⟩:=p
  simp only [Bool.true_and]
def c_r6parse:AX.AFn:=⟨27,aS [aR 2 (.alloc 193 [.sl 0 .nil [],.bool false,.str [],.str [],.int .i64 0,.int .i64 0,.str []]),aR 3 (.mv (aI 0))] (aS [aM 7 0,aR 8 (.call 248 [.t 7]),aM 6 8,aE 9 6 0,aE 10 6 1,aR 4 (.alloc 287 [.sl 0 .nil [],.bool false,.str [],.str [],.int .i64 0,.int .i64 0,.str [],.bool false]),aU (.store 8 (.t 4) (.t 9)),aM 5 10] (.seq (aS [aM 11 5,aR 12 (.un .not (.t 11)),aM 13 12,aG 14 (.faddr 7 (.t 4)) 13 false,aG 15 (.load false 1 (.t 14)) 13 false,aG 16 (.un .not (.t 15)) 13 false,aR 17 (.pick (.t 13) (.c (.bool true)) (.t 16))] (.cond (.t 17) (aS [aR 18 (.build [.sl 0 .nil [],.bool false,.str [],.str [],.int .i64 0,.int .i64 0,.str []] []),aU (.store 7 (.t 2) (.t 18)),aR 3 (.mv (aI 2))] (.ret)) (.skip))) (.seq (aS [aF 19 0 4,aF 20 0 19,aL 21 20,aR 22 (.len false (.t 21)),aR 23 (.bin .gtr (.t 22) (aI 16))] (.cond (.t 23) (aS [aR 24 (.build [.sl 0 .nil [],.bool false,.str [],.str [],.int .i64 0,.int .i64 0,.str []] []),aU (.store 7 (.t 2) (.t 24)),aR 3 (.mv (aI 4))] (.ret)) (.skip))) (aS [aF 25 0 4,aR 26 (.load true 7 (.t 25)),aU (.store 7 (.t 2) (.t 26)),aR 3 (.mv (aI 0))] (.ret))))),[.c 2 true 7,.t 3]⟩
theorem h_r6parse:AX.compFn Tryz.prog 228=some c_r6parse:=by kernel_rfl
theorem preP_some (acc:List Adr.Step) (p:Adr.Ad) (w:Bool):preP acc (some (p,w))=some ({ p with mods:=acc++p.mods },w):=rfl
set_option maxHeartbeats 8000000 in
theorem a_r6place (s0:List UInt8) (hl:s0.length≤2000000) (h:Hp):ACall Tryz.prog GT 248 [.str s0] h fun r h'=>r=placeT (Adr.place (s0.length+1) s0)∧h'=h:=by
 refine pcall ?_ (placeT_pure _) (by simp [A.pure,A.data]) h
 obtain ⟨q,hq⟩:∃ q,Adr.place (s0.length+1) s0=q:=⟨_,rfl⟩
 rw [hq]
 refine fo ?_
 refine runx0 ti ti ?_
 refine awp_loop (fun m ts hh=>∃ (s:List UInt8) (acc:List Adr.Step) (f:Nat) (W:Nat) (o:Own) (l:List Blk) (t:List (TypeId×Nat×Nat)),m=s.length∧s.length < f∧acc.length+s.length≤s0.length∧q=preP acc (Adr.place f s) ∧
  hh=⟨.cells 287 [.sl 0 .nil [],.bool false,.str [],.str [],.int .i64 0,.int .i64 0,.str [],.bool false] :: .cells 287 [.sl W o (acc.map Adr.Step.cells),.bool false,.str [],.str [],.int .i64 0,.int .i64 0,.str [],.bool false]::l,t⟩ ∧
  Gs 227 4 0 ⟨[],t⟩ (acc.map Adr.Step.cells) (.sl W o (acc.map Adr.Step.cells))∧(ts 0 = .str s∧ts 2 = .ptr 0 0∧ts 4 = .ptr 1 0)) s0.length ?_ ?_
 ·exact ⟨s0,[],s0.length+1,0,.nil,[],[],rfl,Nat.lt_succ_self _,by simp,by rw [←hq]; unfold preP; cases Adr.place (s0.length+1) s0 <;> rfl,rfl,.inl ⟨rfl,rfl⟩,by (exact inv0 ti)⟩
 rintro m ts hh ⟨s,acc,f,W,o,l,t,rfl,hf,hal,hp,rfl,gX,ht⟩
 obtain ⟨f,rfl⟩:∃ g,f=g+1:=⟨f - 1,by omega⟩
 unfold Adr.place at hp
 have cb:=a_r6begins s Adr.modW (by omega) (by decide)
 cases hB:Adr.begins s Adr.modW with
 | true =>
  rw [hB] at cb
  rw [hB,if_pos rfl,step_R] at hp
  have h7:7≤s.length:=Adr.begins_len hB
  have cs:=a_r6step s (by omega) h7
  have hsr:=Adr.step_rest s
  rw [step_R] at hsr
  dsimp only [Adr.modW] at cb
  obtain ⟨⟨⟨xn,kk,kn,ks⟩,rest,ok⟩,hR⟩:∃ r,stepR s=r:=⟨_,rfl⟩
  rw [hR] at cs hp hsr
  dsimp only [Adr.Step.cells] at cs hp hsr
  cases ok with
  | false =>
   rw [if_neg (by decide)] at hp
   have hq0:q=none:=hp
   subst hq0
   refine runx0 ht (ai cb (ai cs ti)) ?_
   exact ⟨_,le_refl _,rfl⟩
  | true =>
  rw [if_pos rfl] at hp hsr
  have hrl:=hsr _ _ rfl
  dsimp only at hp
  have hrow:(acc++[(⟨xn,⟨kk,kn,ks⟩⟩:Adr.Step)]).map Adr.Step.cells=acc.map Adr.Step.cells++[[.str xn,.int .i64 kk,.int .i64 kn,.str ks]]:=by rw [List.map_append]; rfl
  obtain ⟨W',o',t',hX,gX',_⟩:=gX.grow 48 [.str xn,.int .i64 kk,.int .i64 kn,.str ks] (by rw [List.length_map]; omega) (by decide)
  rw [←hrow] at gX'
  simp only [←hrow] at hX
  by_cases hr0:rest=[]
  ·subst hr0
   rw [if_pos rfl] at hp
   rw [preP_some] at hp
   subst hp
   refine runx0 (ai ht hX) (ai cb (ai cs ti)) ?_
   refine ⟨placeT _,?_,rfl⟩
   exact ⟨⟨gX'.le,rfl,rfl,rfl,rfl,rfl,rfl,rfl,trivial⟩,rfl,trivial⟩
  rw [if_neg hr0] at hp
  have hr0':(rest == ([]:List UInt8))=false:=by simpa using hr0
  have hpos:0 < rest.length:=List.length_pos_iff.2 hr0
  have hr1:(0:Int) < (rest.length:Int)∧(0:Int)≤1∧(1:Int)≤(rest.length:Int)∧Int.toNat 1=1∧rest.take rest.length=rest:=⟨by omega,by omega,by omega,rfl,List.take_length⟩
  obtain ⟨c,hc⟩:∃ c,rest.getD 0 0=c:=⟨_,rfl⟩
  have hcn:=byte_neI c 46 (by decide)
  rw [show ((46:Nat):Int)=46 from rfl,show UInt8.ofNat 46=46 from rfl] at hcn
  rw [hc] at hp
  by_cases hd:c=46
  rotate_left
  ·have e1:(c != 46)=true:=by simp [hd]
   rw [if_pos hd] at hp
   have hq0:q=none:=hp
   subst hq0
   refine runx0 (ai ht (ai hX (ai hr0' (ai hr1 (ai hc (ai hcn e1)))))) (ai cb (ai cs ti)) ?_
   exact ⟨_,le_refl _,rfl⟩
  have e1:(c != 46)=false:=by simp [hd]
  rw [if_neg (by simp [hd])] at hp
  refine runx0 (ai ht (ai hX (ai hr0' (ai hr1 (ai hc (ai hcn e1)))))) (ai cb (ai cs ti)) ?_
  refine ⟨(rest.drop 1).length,by rw [List.length_drop]; omega,rest.drop 1,acc++[⟨xn,⟨kk,kn,ks⟩⟩],f,W',o',_,t',rfl,by rw [List.length_drop]; omega,by rw [List.length_append,List.length_drop]; simp; omega,?_,rfl,gX',by (exact inv0 (ai ht hr1))⟩
  rw [hp]
  unfold preP
  cases Adr.place f (rest.drop 1) with
  | none=>rfl
  | some p=>simp
 | false =>
  rw [hB] at cb
  rw [hB,if_neg (by decide)] at hp
  dsimp only [Adr.modW] at cb
  have cd:=a_r6begins s Adr.dataW (by omega) (by decide)
  obtain ⟨dt,hdt⟩:∃ b,Adr.begins s Adr.dataW=b:=⟨_,rfl⟩
  have hdl:dt=true→5≤s.length:=fun e=>Adr.begins_len (s:=s) (p:=Adr.dataW) (by rw [hdt]; exact e)
  unfold Adr.last at hp
  dsimp only at hp
  rw [hdt] at cd hp
  dsimp only [Adr.dataW] at cd
  obtain ⟨tt,htt⟩:∃ tt,(if dt=true then s.drop 5 else s)=tt:=⟨_,rfl⟩
  rw [htt] at hp
  have htl:tt.length≤2000000:=by
   rw [←htt]
   split
   ·rw [List.length_drop]; omega
   ·omega
  refine runx0 ht (ai cb (ai cd ti)) ?_
  refine awp_join (fun ts' h'=>h'=⟨.cells 287 [.sl 0 .nil [],.bool false,.str [],.str [],.int .i64 0,.int .i64 0,.str [],.bool false] :: .cells 287 [.sl W o (acc.map Adr.Step.cells),.bool dt,.str [],.str [],.int .i64 0,.int .i64 0,.str [],.bool false]::l,t⟩∧(ts' 0 = .str tt∧ts' 2 = .ptr 0 0∧ts' 4 = .ptr 1 0)) ?_ ?_
  ·cases dt with
   | false =>
    rw [if_neg (by decide)] at htt
    subst htt
    refine runx0 ht ti ?_
    exact ⟨rfl,by (exact inv0 ht)⟩
   | true =>
    rw [if_pos rfl] at htt
    have h5:=hdl rfl
    have h5':(0:Int)≤5∧(5:Int)≤(s.length:Int)∧Int.toNat 5=5∧s.take s.length=s:=⟨by decide,by omega,rfl,List.take_length⟩
    refine runx0 (ai ht h5') ti ?_
    exact ⟨rfl,by (exact inv0 (ai ht (ai htt h5')))⟩
  rintro ts hh ⟨rfl,hu⟩
  have cw:=a_r6word tt htl
  have w1:(tt.takeWhile Adr.wordB).length≤2000000:=Nat.le_trans (List.takeWhile_prefix _).length_le htl
  have w2:(tt.dropWhile Adr.wordB).length≤2000000:=Nat.le_trans (List.dropWhile_suffix _).length_le htl
  have ci:=a_r6ident _ w1
  have cr:=a_r6res (tt.takeWhile Adr.wordB)
  obtain ⟨typ,htyp⟩:∃ w,tt.takeWhile Adr.wordB=w:=⟨_,rfl⟩
  obtain ⟨r,hr⟩:∃ w,tt.dropWhile Adr.wordB=w:=⟨_,rfl⟩
  rw [htyp] at cw ci cr hp
  rw [hr] at cw hp w2
  have hkb:Adr.kindB typ=(!Adr.reserved typ&&Adr.ident typ):=rfl
  have bad:(Adr.kindB typ=false∨r.getD 0 0≠46)→q=none:=fun hb=>by rw [hp,if_pos hb]; rfl
  cases hI:Adr.ident typ with
  | false =>
   rw [hI] at ci
   have hq0:=bad (.inl (by rw [hkb,hI]; simp))
   subst hq0
   refine runx0 hu (ai cw (ai ci ti)) ?_
   exact ⟨_,le_refl _,rfl⟩
  | true =>
  rw [hI] at ci
  cases hRs:Adr.reserved typ with
  | true =>
   rw [hRs] at cr
   have hq0:=bad (.inl (by rw [hkb,hRs]; rfl))
   subst hq0
   refine runx0 hu (ai cw (ai ci (ai cr ti))) ?_
   exact ⟨_,le_refl _,rfl⟩
  | false =>
  rw [hRs] at cr
  cases r with
  | nil =>
   have hq0:=bad (.inr (by simp))
   subst hq0
   refine runx0 hu (ai cw (ai ci (ai cr ti))) ?_
   exact ⟨_,le_refl _,rfl⟩
  | cons c r' =>
  have hr1:((c::r') == ([]:List UInt8))=false∧(0:Int) < ((r'.length+1:Nat):Int)∧(0:Int)≤1∧(1:Int)≤((r'.length+1:Nat):Int)∧Int.toNat 1=1∧r'.take r'.length=r':=⟨rfl,by omega,by omega,by omega,rfl,List.take_length⟩
  have hcn:=byte_neI c 46 (by decide)
  rw [show ((46:Nat):Int)=46 from rfl,show UInt8.ofNat 46=46 from rfl] at hcn
  by_cases hd:c=46
  rotate_left
  ·have e1:(c != 46)=true:=by simp [hd]
   have hq0:=bad (.inr (by simpa using hd))
   subst hq0
   refine runx0 (ai hu (ai hr1 (ai hcn e1))) (ai cw (ai ci (ai cr ti))) ?_
   exact ⟨_,le_refl _,rfl⟩
  have e1:(c != 46)=false:=by simp [hd]
  rw [if_neg (by rw [hkb,hRs,hI]; simpa using hd),List.drop_succ_cons,List.drop_zero] at hp
  have hr'l:r'.length≤2000000:=by simp only [List.length_cons] at w2; omega
  have cw2:=a_r6word r' hr'l
  have w3:(r'.takeWhile Adr.wordB).length≤2000000:=Nat.le_trans (List.takeWhile_prefix _).length_le hr'l
  have w4:(r'.dropWhile Adr.wordB).length≤2000000:=Nat.le_trans (List.dropWhile_suffix _).length_le hr'l
  have ci2:=a_r6ident _ w3
  have ck:=a_r6key _ w4
  obtain ⟨nm,hnm⟩:∃ w,r'.takeWhile Adr.wordB=w:=⟨_,rfl⟩
  obtain ⟨r2,hr2⟩:∃ w,r'.dropWhile Adr.wordB=w:=⟨_,rfl⟩
  rw [hnm] at cw2 ci2 hp
  rw [hr2] at cw2 ck hp
  have hkR:Adr.key r2=if (keyR r2).2.2=true then some ((keyR r2).1,(keyR r2).2.1) else none:=by
   unfold keyR
   cases Adr.key r2 with
   | none=>simp
   | some p=>simp
  rw [hkR] at hp
  obtain ⟨⟨⟨ka,kb,kc⟩,rst,ok⟩,hK⟩:∃ k,keyR r2=k:=⟨_,rfl⟩
  rw [hK] at ck hp
  unfold keyT at ck
  dsimp only at ck hp
  cases hI2:Adr.ident nm with
  | false =>
   rw [hI2] at ci2
   have hq0:q=none:=by
    rw [hp]
    cases ok with
    | false=>rfl
    | true =>
     rw [if_pos rfl]
     dsimp only
     rw [if_neg (by rw [hI2]; simp)]
     rfl
   subst hq0
   refine runx0 (ai hu (ai hr1 (ai hcn e1))) (ai cw (ai ci (ai cr (ai cw2 (ai ck (ai ci2 ti)))))) ?_
   exact ⟨_,le_refl _,rfl⟩
  | true =>
  rw [hI2] at ci2
  cases ok with
  | false =>
   have hq0:q=none:=hp
   subst hq0
   refine runx0 (ai hu (ai hr1 (ai hcn e1))) (ai cw (ai ci (ai cr (ai cw2 (ai ck (ai ci2 ti)))))) ?_
   exact ⟨_,le_refl _,rfl⟩
  | true =>
  rw [if_pos rfl] at hp
  dsimp only at hp
  by_cases hrst:rst=[]
  rotate_left
  ·have e2:(rst != ([]:List UInt8))=true:=by simpa using hrst
   rw [if_neg (fun h=>hrst h.2)] at hp
   have hq0:q=none:=hp
   subst hq0
   refine runx0 (ai hu (ai hr1 (ai hcn (ai e1 e2)))) (ai cw (ai ci (ai cr (ai cw2 (ai ck (ai ci2 ti)))))) ?_
   exact ⟨_,le_refl _,rfl⟩
  subst hrst
  rw [if_pos ⟨hI2,rfl⟩] at hp
  dsimp only at hp
  rw [preP_some] at hp
  dsimp only at hp
  rw [List.append_nil] at hp
  subst hp
  refine runx0 (ai hu (ai hr1 (ai hcn e1))) (ai cw (ai ci (ai cr (ai cw2 (ai ck (ai ci2 ti)))))) ?_
  refine ⟨placeT _,?_,rfl⟩
  exact ⟨⟨gX.le,rfl,rfl,rfl,rfl,rfl,rfl,rfl,trivial⟩,rfl,trivial⟩
theorem a_r6parse (s:List UInt8) (hl:s.length≤2000000) (h:Hp):ACall Tryz.prog GT 228 [.str s] h fun r h'=>r = .tup [.agg (Adr.parse s).1.cells,.int .i64 (Adr.parse s).2]∧h'=h:=by
 have cp:=a_r6place s hl
 refine pcall ?_ (by simp [A.pure,A.data,Adr.Ad.cells]) (by simp [A.pure,A.data]) h
 unfold Adr.parse
 refine acall_of mixedT h_r6parse (by simp [c_r6parse]) ?_
 dsimp only [c_r6parse]
 cases hP:Adr.place (s.length+1) s with
 | none =>
  rw [hP] at cp
  dsimp only [placeT] at cp
  refine runx0 ti (ai cp ti) ?_
  exact ⟨.tup [.agg (Adr.Ad.cells Adr.Ad.zero),.int .i64 2],⟨⟨⟨rfl,.inr rfl,.inl rfl⟩,rfl,rfl,rfl,rfl,rfl,rfl,trivial⟩,rfl,trivial⟩,rfl⟩
 | some p =>
  rw [hP] at cp
  obtain ⟨⟨mods,data,ty,nm,ka,kb,kc⟩,w⟩:=p
  dsimp only [placeT] at cp
  have lm:(mods.map Adr.Step.cells).length=mods.length:=List.length_map _
  cases w with
  | false =>
   refine runx0 ti (ai cp ti) ?_
   exact ⟨.tup [.agg (Adr.Ad.cells Adr.Ad.zero),.int .i64 2],⟨⟨⟨rfl,.inr rfl,.inl rfl⟩,rfl,rfl,rfl,rfl,rfl,rfl,trivial⟩,rfl,trivial⟩,rfl⟩
  | true =>
   dsimp only
   by_cases h16:16 < mods.length
   ·have e1:(mods.length:Int) > 16:=by omega
    rw [if_pos h16]
    refine runx0 (ai lm e1) (ai cp ti) ?_
    exact ⟨.tup [.agg (Adr.Ad.cells Adr.Ad.zero),.int .i64 4],⟨⟨⟨rfl,.inr rfl,.inl rfl⟩,rfl,rfl,rfl,rfl,rfl,rfl,trivial⟩,rfl,trivial⟩,rfl⟩
   ·have e1:¬ (mods.length:Int) > 16:=by omega
    rw [if_neg h16]
    refine runx0 (ai lm e1) (ai cp ti) ?_
    exact ⟨_,le_refl _,rfl⟩
def c_r6check:AX.AFn:=⟨50,aS [aR 1 (.box 193 (.t 0)),aR 2 (.mv (aI 0))] (.seq (aS [aF 4 0 1,aL 5 4,aR 6 (.len false (.t 5)),aR 7 (.bin .gtr (.t 6) (aI 16))] (.cond (.t 7) (aS [aR 2 (.mv (aI 4))] (.ret)) (.skip))) (.seq (aS [aR 3 (.mv (aI 0))] (.block 0 (.loop (.seq (aS [aM 8 3,aF 9 0 1,aL 10 9,aR 11 (.len false (.t 10)),aR 12 (.bin .lss (.t 8) (.t 11))] (.cond (.t 12) (.skip) (.exit 0))) (.seq (.block 1 (.seq (aS [aF 15 0 1,aL 16 15,aM 17 3,aR 18 (.iaddr 4 (.t 16) (.t 17)),aF 19 0 18,aL 20 19,aR 21 (.call 231 [.t 20]),aR 22 (.un .not (.t 21))] (.cond (.t 22) (aS [aR 2 (.mv (aI 7))] (.ret)) (.skip))) (aS [aF 23 0 1,aL 24 23,aM 25 3,aR 26 (.iaddr 4 (.t 24) (.t 25)),aF 27 1 26,aR 28 (.load true 3 (.t 27)),aR 29 (.call 277 [.t 28]),aR 30 (.un .not (.t 29))] (.cond (.t 30) (aS [aR 2 (.mv (aI 1))] (.ret)) (.skip))))) (.reg false [aM 13 3,aR 14 (.bin .add (.t 13) (aI 1)),aM 3 14])))))) (.seq (aS [aF 31 2 1,aL 32 31,aR 33 (.call 231 [.t 32]),aR 34 (.un .not (.t 33)),aM 35 34,aG 36 (.faddr 2 (.t 1)) 35 false,aG 37 (.load false 1 (.t 36)) 35 false,aG 38 (.call 265 [.t 37]) 35 false,aR 39 (.pick (.t 35) (.c (.bool true)) (.t 38)),aM 40 39,aG 41 (.faddr 3 (.t 1)) 40 false,aG 42 (.load false 1 (.t 41)) 40 false,aG 43 (.call 231 [.t 42]) 40 false,aG 44 (.un .not (.t 43)) 40 false,aR 45 (.pick (.t 40) (.c (.bool true)) (.t 44))] (.cond (.t 45) (aS [aR 2 (.mv (aI 7))] (.ret)) (.skip))) (.seq (aS [aF 46 4 1,aR 47 (.load true 3 (.t 46)),aR 48 (.call 277 [.t 47]),aR 49 (.un .not (.t 48))] (.cond (.t 49) (aS [aR 2 (.mv (aI 1))] (.ret)) (.skip))) (aS [aR 2 (.mv (aI 0))] (.ret)))))),[.t 2]⟩
theorem h_r6check:AX.compFn Tryz.prog 278=some c_r6check:=by kernel_rfl
def c_r6bare:AX.AFn:=⟨32,aS [aR 1 (.box 193 (.t 0)),aR 2 (.alloc 193 [.sl 0 .nil [],.bool false,.str [],.str [],.int .i64 0,.int .i64 0,.str []])] (aS [aF 5 1 1,aL 6 5,aF 7 2 1,aL 8 7,aF 9 3 1,aL 10 9,aR 11 (.build [.sl 0 .nil [],.bool false,.str [],.str [],.int .i64 0,.int .i64 0,.str []] [(1,1,.t 6),(2,1,.t 8),(3,1,.t 10)]),aR 3 (.alloc 193 [.sl 0 .nil [],.bool false,.str [],.str [],.int .i64 0,.int .i64 0,.str []]),aU (.store 7 (.t 3) (.t 11))] (.seq (aS [aR 4 (.mv (aI 0))] (.block 0 (.loop (.seq (aS [aM 12 4,aF 13 0 1,aL 14 13,aR 15 (.len false (.t 14)),aR 16 (.bin .lss (.t 12) (.t 15))] (.cond (.t 16) (.skip) (.exit 0))) (.seq (.block 1 (.reg true [aF 19 0 3,⟨some 20,.load false 1 (.t 19),none,[0]⟩,aF 21 0 1,⟨some 22,.load false 1 (.t 21),none,[2]⟩,aM 23 4,⟨some 24,.iaddr 4 (.t 22) (.t 23),none,[3,4]⟩,⟨some 25,.faddr 0 (.t 24),none,[5]⟩,⟨some 26,.load false 1 (.t 25),none,[6]⟩,⟨some 27,.build [.str [],.int .i64 0,.int .i64 0,.str []] [(0,1,.t 26)],none,[7]⟩,⟨some 28,.mks 4 [.t 27],none,[8]⟩,⟨some 29,.app 227 4 48 (.t 20) (.t 28),none,[1,9]⟩,⟨some 30,.faddr 0 (.t 3),none,[0,1,2,3,4,5,6,7,8,9,10]⟩,⟨none,.store 1 (.t 30) (.t 29),none,[11,10,10,0,1,2,3,4,5,6,7,8,9,10]⟩])) (.reg false [aM 17 4,aR 18 (.bin .add (.t 17) (aI 1)),aM 4 18])))))) (aS [aR 31 (.load true 7 (.t 3)),aU (.store 7 (.t 2) (.t 31))] (.ret)))),[.c 2 true 7]⟩
theorem h_r6bare:AX.compFn Tryz.prog 268=some c_r6bare:=by kernel_rfl
def c_r6steps:AX.AFn:=⟨28,aS [aR 2 (.mv (.c (.str [])))] (aS [aR 3 (.mv (.c (.str [])))] (.seq (aS [aR 4 (.mv (aI 0))] (.block 0 (.loop (.seq (aS [aM 5 4,aM 6 0,aR 7 (.len false (.t 6)),aR 8 (.bin .lss (.t 5) (.t 7))] (.cond (.t 8) (.skip) (.exit 0))) (.seq (.block 1 (.reg true [aM 11 3,⟨some 12,.bin .add (.t 11) (.c (.str [109,111,100,117,108,101,46])),none,[0]⟩,aM 13 0,aM 14 4,⟨some 15,.iaddr 4 (.t 13) (.t 14),none,[2,3]⟩,⟨some 16,.faddr 0 (.t 15),none,[4]⟩,⟨some 17,.load false 1 (.t 16),none,[5]⟩,⟨some 18,.bin .add (.t 12) (.t 17),none,[1,6]⟩,aM 19 0,aM 20 4,⟨some 21,.iaddr 4 (.t 19) (.t 20),none,[8,9]⟩,⟨some 22,.faddr 1 (.t 21),none,[10]⟩,⟨some 23,.load true 3 (.t 22),none,[11]⟩,⟨some 24,.call 280 [.t 23],none,[12]⟩,⟨some 25,.bin .add (.t 18) (.t 24),none,[7,13]⟩,⟨some 26,.bin .add (.t 25) (.c (.str [46])),none,[14]⟩,⟨some 3,.mv (.t 26),none,[15,13,0,1,2,3,4,5,6,7,8,9,10,11,12,13,14,15]⟩])) (.reg false [aM 9 4,aR 10 (.bin .add (.t 9) (aI 1)),aM 4 10])))))) (aS [aM 27 3,aM 2 27] (.ret)))),[.t 2]⟩
theorem h_r6steps:AX.compFn Tryz.prog 279=some c_r6steps:=by kernel_rfl
def c_r6format:AX.AFn:=⟨26,aS [aR 1 (.box 193 (.t 0)),aR 2 (.mv (.c (.str [])))] (.seq (aS [aR 4 (.load true 7 (.t 1)),aR 5 (.call 278 [.t 4]),aR 6 (.bin .neq (.t 5) (aI 0))] (.cond (.t 6) (aS [aR 2 (.mv (.c (.str [])))] (.ret)) (.skip))) (aS [aF 7 0 1,aL 8 7,aR 9 (.call 279 [.t 8]),aM 3 9] (.seq (aS [aF 10 1 1,aL 11 10] (.cond (.t 11) (.reg false [aM 12 3,aR 13 (.bin .add (.t 12) (.c (.str [100,97,116,97,46]))),aM 3 13]) (.skip))) (.seq (.reg true [aM 14 3,aF 15 2 1,⟨some 16,.load false 1 (.t 15),none,[1]⟩,⟨some 17,.bin .add (.t 14) (.t 16),none,[0,2]⟩,⟨some 18,.bin .add (.t 17) (.c (.str [46])),none,[3]⟩,aF 19 3 1,⟨some 20,.load false 1 (.t 19),none,[5]⟩,⟨some 21,.bin .add (.t 18) (.t 20),none,[4,6]⟩,aF 22 4 1,⟨some 23,.load true 3 (.t 22),none,[8]⟩,⟨some 24,.call 280 [.t 23],none,[9]⟩,⟨some 25,.bin .add (.t 21) (.t 24),none,[7,10]⟩,⟨some 2,.mv (.t 25),none,[11,10,0,1,2,3,4,5,6,7,8,9,10,11]⟩]) (.ret))))),[.t 2]⟩
theorem h_r6format:AX.compFn Tryz.prog 267=some c_r6format:=by kernel_rfl
def c_r6static:AX.AFn:=⟨17,aS [aR 2 (.mv (.c (.str []))),aR 3 (.mv (aI 0))] (aS [aM 7 0,aR 8 (.call 228 [.t 7]),aM 6 8,aE 9 6 0,aE 10 6 1,aR 4 (.alloc 193 [.sl 0 .nil [],.bool false,.str [],.str [],.int .i64 0,.int .i64 0,.str []]),aU (.store 7 (.t 4) (.t 9)),aM 5 10] (.seq (aS [aM 11 5,aR 12 (.bin .neq (.t 11) (aI 0))] (.cond (.t 12) (aS [aM 13 5,aR 2 (.mv (.c (.str []))),aM 3 13] (.ret)) (.skip))) (aS [aR 14 (.load true 7 (.t 4)),aR 15 (.call 268 [.t 14]),aR 16 (.call 267 [.t 15]),aM 2 16,aR 3 (.mv (aI 0))] (.ret)))),[.t 2,.t 3]⟩
theorem h_r6static:AX.compFn Tryz.prog 250=some c_r6static:=by kernel_rfl
theorem row_at6 {α:Type} (f:α→List A) (l:List α) (i:Nat) (h:i < l.length) (hl:l.length≤4611686018427387904) :
  (l.map f).length=l.length∧(i:Int) < (l.length:Int)∧(0:Int)≤(i:Int)∧(l.map f).getD i []=f l[i]∧IntKind.i64.wrap ((i:Int)+1)=((i+1:Nat):Int):=
 ⟨List.length_map _,by omega,by omega,map_getD f l i h,by rw [wrap64 (by omega) (by omega)]; omega⟩
theorem a_r6check (a:Adr.Ad) (hi:Adr.In a) (h:Hp):ACall Tryz.prog GT 278 [.agg a.cells] h fun r h'=>r = .int .i64 (Adr.check a)∧h'=h:=by
 obtain ⟨mods,data,ty,nm,⟨ka,kb,kc⟩⟩:=a
 obtain ⟨hn,hm,ht,ha,hk⟩:=hi
 dsimp only at hn hm ht ha hk
 obtain ⟨q,hq⟩:∃ q,Adr.check ⟨mods,data,ty,nm,⟨ka,kb,kc⟩⟩=q:=⟨_,rfl⟩
 rw [hq]
 unfold Adr.check at hq
 dsimp only at hq
 refine pcall ?_ rfl (by simp [A.pure,A.data,Adr.Ad.cells]) h
 refine acall_of mixedT h_r6check (by simp [c_r6check]) ?_
 dsimp only [c_r6check,Adr.Ad.cells]
 have lm:(mods.map Adr.Step.cells).length=mods.length:=List.length_map _
 by_cases h16:16 < mods.length
 ·have e1:(mods.length:Int) > 16:=by omega
  rw [if_pos h16] at hq
  subst hq
  refine runx0 (ai lm e1) ti ?_
  exact ⟨_,le_refl _,rfl⟩
 have e1:¬ (mods.length:Int) > 16:=by omega
 rw [if_neg h16] at hq
 refine runx0 (ai lm e1) ti ?_
 refine awp_loop (fun m ts hh=>hh=⟨[.cells 193 [.sl 4 .no (mods.map Adr.Step.cells),.bool data,.str ty,.str nm,.int .i64 ka,.int .i64 kb,.str kc]],[]⟩∧∃ j:Nat,m=mods.length - j∧j≤mods.length∧(mods.drop j).find? (fun s=>!(Adr.ident s.name&&Adr.keyOk s.key))=mods.find? (fun s=>!(Adr.ident s.name&&Adr.keyOk s.key))∧(ts 1 = .ptr 0 0∧ts 3 = .int .i64 (j:Nat))) mods.length ?_ ?_
 ·exact ⟨rfl,0,rfl,Nat.zero_le _,rfl,by (exact inv0 ti)⟩
 rintro m ts hh ⟨rfl,j,rfl,hj,hfd,hu⟩
 rcases Nat.lt_or_ge j mods.length with hlt | hge
 ·have hf:=row_at6 Adr.Step.cells mods j hlt (by omega)
  have hmj:=hm _ (List.getElem_mem hlt)
  rw [List.drop_eq_getElem_cons hlt,List.find?_cons] at hfd
  obtain ⟨x,hx⟩:∃ x,mods[j]=x:=⟨_,rfl⟩
  rw [hx] at hf hmj hfd
  obtain ⟨xn,⟨ja,jb,jc⟩⟩:=x
  dsimp only [Adr.Step.cells] at hf hmj hfd
  have ci:=a_r6ident xn hmj.1
  have ck:=a_r6Key ⟨ja,jb,jc⟩ hmj.2
  dsimp only at ck
  cases hI:Adr.ident xn with
  | false =>
   rw [hI] at ci hfd
   simp only [Bool.false_and,Bool.not_false] at hfd
   rw [←hfd] at hq
   dsimp only at hq
   rw [if_neg (by rw [hI]; decide)] at hq
   subst hq
   refine runx0 (ai hu hf) (ai ci ti) ?_
   exact ⟨_,le_refl _,rfl⟩
  | true =>
  rw [hI] at ci hfd
  cases hK:Adr.keyOk ⟨ja,jb,jc⟩ with
  | false =>
   rw [hK] at ck hfd
   simp only [Bool.and_false,Bool.not_false] at hfd
   rw [←hfd] at hq
   dsimp only at hq
   rw [if_pos hI] at hq
   subst hq
   refine runx0 (ai hu hf) (ai ci (ai ck ti)) ?_
   exact ⟨_,le_refl _,rfl⟩
  | true =>
   rw [hK] at ck hfd
   simp only [Bool.and_true,Bool.not_true] at hfd
   refine runx0 (ai hu hf) (ai ci (ai ck ti)) ?_
   exact ⟨_,by omega,rfl,j+1,rfl,by omega,hfd,by (exact inv0 (ai hu hf))⟩
 ·have hf:=ai lm (show ¬ (j:Int) < (mods.length:Int) by omega)
  rw [List.drop_of_length_le hge] at hfd
  rw [←hfd] at hq
  simp only [List.find?_nil] at hq
  have ci:=a_r6ident ty ht
  have cr:=a_r6res ty
  have ci2:=a_r6ident nm ha
  have ck:=a_r6Key ⟨ka,kb,kc⟩ hk
  dsimp only at ck
  have hkb:Adr.kindB ty=(!Adr.reserved ty&&Adr.ident ty):=rfl
  rw [hkb] at hq
  cases hI:Adr.ident ty with
  | false =>
   rw [hI] at ci hq
   simp only [Bool.and_false,Bool.not_false,Bool.true_or,if_true] at hq
   subst hq
   refine runx0 (ai hu hf) (ai ci ti) ?_
   exact ⟨_,le_refl _,rfl⟩
  | true =>
  rw [hI] at ci hq
  cases hR:Adr.reserved ty with
  | true =>
   rw [hR] at cr hq
   simp only [Bool.not_true,Bool.false_and,Bool.not_false,Bool.true_or,if_true] at hq
   subst hq
   refine runx0 (ai hu hf) (ai ci (ai cr ti)) ?_
   exact ⟨_,le_refl _,rfl⟩
  | false =>
  rw [hR] at cr hq
  cases hN:Adr.ident nm with
  | false =>
   rw [hN] at ci2 hq
   simp only [Bool.not_false,Bool.true_and,Bool.not_true,Bool.false_or,if_true] at hq
   subst hq
   refine runx0 (ai hu hf) (ai ci (ai cr (ai ci2 ti))) ?_
   exact ⟨_,le_refl _,rfl⟩
  | true =>
  rw [hN] at ci2 hq
  simp only [Bool.not_false,Bool.true_and,Bool.not_true,Bool.false_or,Bool.false_eq_true,if_false] at hq
  cases hK:Adr.keyOk ⟨ka,kb,kc⟩ with
  | false =>
   rw [hK] at ck hq
   simp only [Bool.not_false,if_true] at hq
   subst hq
   refine runx0 (ai hu hf) (ai ci (ai cr (ai ci2 (ai ck ti)))) ?_
   exact ⟨_,le_refl _,rfl⟩
  | true =>
   rw [hK] at ck hq
   simp only [Bool.not_true,Bool.false_eq_true,if_false] at hq
   subst hq
   refine runx0 (ai hu hf) (ai ci (ai cr (ai ci2 (ai ck ti)))) ?_
   exact ⟨_,le_refl _,rfl⟩
theorem a_r6bare (a:Adr.Ad) (hn:a.mods.length≤3000000) (h:Hp):ACall Tryz.prog GT 268 [.agg a.cells] h fun r h'=>r = .agg (Adr.bare a).cells∧h'=h:=by
 obtain ⟨mods,data,ty,nm,⟨ka,kb,kc⟩⟩:=a
 dsimp only at hn
 refine pcall ?_ (by simp [A.pure,A.data,Adr.Ad.cells]) (by simp [A.pure,A.data,Adr.Ad.cells]) h
 refine acall_of mixedT h_r6bare (by simp [c_r6bare]) ?_
 dsimp only [c_r6bare,Adr.Ad.cells,Adr.bare,Adr.K.none]
 have lm:(mods.map Adr.Step.cells).length=mods.length:=List.length_map _
 refine runx0 lm ti ?_
 refine awp_loop (fun m ts hh=>∃ (j W:Nat) (o:Own) (t:List (TypeId×Nat×Nat)),m=mods.length - j∧j≤mods.length ∧
  hh=⟨[.cells 193 [.sl 4 .no (mods.map Adr.Step.cells),.bool data,.str ty,.str nm,.int .i64 ka,.int .i64 kb,.str kc],.cells 193 [.sl 0 .nil [],.bool false,.str [],.str [],.int .i64 0,.int .i64 0,.str []],.cells 193 [.sl W o (((mods.take j).map fun s=>(⟨s.name,Adr.K.none⟩:Adr.Step)).map Adr.Step.cells),.bool data,.str ty,.str nm,.int .i64 0,.int .i64 0,.str []]],t⟩ ∧
  Gs 227 4 0 ⟨[],t⟩ (((mods.take j).map fun s=>(⟨s.name,Adr.K.none⟩:Adr.Step)).map Adr.Step.cells) (.sl W o (((mods.take j).map fun s=>(⟨s.name,Adr.K.none⟩:Adr.Step)).map Adr.Step.cells))∧(ts 1 = .ptr 0 0∧ts 2 = .ptr 1 0∧ts 3 = .ptr 2 0∧ts 4 = .int .i64 (j:Nat))) mods.length ?_ ?_
 ·exact ⟨0,0,.nil,[],rfl,Nat.zero_le _,rfl,.inl ⟨rfl,rfl⟩,by (exact inv0 ti)⟩
 rintro m ts hh ⟨j,W,o,t,rfl,hj,rfl,gX,hu⟩
 rcases Nat.lt_or_ge j mods.length with hlt | hge
 ·have hf:=row_at6 Adr.Step.cells mods j hlt (by omega)
  have htk:=List.take_succ_eq_append_getElem hlt
  obtain ⟨x,hx⟩:∃ x,mods[j]=x:=⟨_,rfl⟩
  rw [hx] at hf htk
  obtain ⟨xn,⟨ja,jb,jc⟩⟩:=x
  dsimp only [Adr.Step.cells] at hf
  have hrow:((mods.take (j+1)).map fun s=>(⟨s.name,Adr.K.none⟩:Adr.Step)).map Adr.Step.cells=((mods.take j).map fun s=>(⟨s.name,Adr.K.none⟩:Adr.Step)).map Adr.Step.cells++[[.str xn,.int .i64 0,.int .i64 0,.str []]]:=by
   rw [htk,List.map_append,List.map_append]; rfl
  have hrl:(((mods.take j).map fun s=>(⟨s.name,Adr.K.none⟩:Adr.Step)).map Adr.Step.cells).length+1≤1000000000:=by
   rw [List.length_map,List.length_map,List.length_take]; omega
  obtain ⟨W',o',t',hX,gX',_⟩:=gX.grow 48 [.str xn,.int .i64 0,.int .i64 0,.str []] hrl (by decide)
  rw [←hrow] at gX'
  simp only [←hrow] at hX
  refine runx0 (ai hu (ai hf hX)) ti ?_
  exact ⟨_,by omega,j+1,W',o',t',rfl,by omega,rfl,gX',by (exact inv0 (ai hu hf))⟩
 ·have hf:=ai lm (show ¬ (j:Int) < (mods.length:Int) by omega)
  rw [List.take_of_length_le hge] at gX ⊢
  refine runx0 (ai hu hf) ti ?_
  exact ⟨.agg [.sl 4 .no ((mods.map fun s=>(⟨s.name,Adr.K.none⟩:Adr.Step)).map Adr.Step.cells),.bool data,.str ty,.str nm,.int .i64 0,.int .i64 0,.str []],⟨gX.le,rfl,rfl,rfl,rfl,rfl,rfl,trivial⟩,rfl⟩
theorem a_r6steps (mods:List Adr.Step) (hn:mods.length≤16) (hm:∀ s∈mods,s.name.length≤2000000) (hk:∀ s∈mods,s.key=Adr.K.none) (h:Hp):ACall Tryz.prog GT 279 [.sl 4 .no (mods.map Adr.Step.cells)] h fun r h'=>r = .str (mods.flatMap stepB)∧h'=h:=by
 refine pcall ?_ rfl (by simp [A.pure,A.data]) h
 refine acall_of mixedT h_r6steps (by simp [c_r6steps]) ?_
 dsimp only [c_r6steps]
 have cf:=a_r6fmtkey0
 refine runx0 ti ti ?_
 refine awp_loop (fun m ts hh=>hh=⟨[],[]⟩∧∃ j:Nat,m=mods.length - j∧j≤mods.length∧(ts 0 = .sl 4 .no (mods.map Adr.Step.cells)∧ts 3 = .str ((mods.take j).flatMap stepB)∧ts 4 = .int .i64 (j:Nat))) mods.length ?_ ?_
 ·exact ⟨rfl,0,rfl,Nat.zero_le _,by (exact inv0 ti)⟩
 rintro m ts hh ⟨rfl,j,rfl,hj,hu⟩
 rcases Nat.lt_or_ge j mods.length with hlt | hge
 ·have hf:=row_at6 Adr.Step.cells mods j hlt (by omega)
  have hmj:=hm _ (List.getElem_mem hlt)
  have hkj:=hk _ (List.getElem_mem hlt)
  have hsn:=fm_snoc' stepB mods j hlt
  have hacc:((mods.take j).flatMap stepB).length≤32000128:=by
   have h2:(mods.take j).length≤16:=by rw [List.length_take]; omega
   exact Nat.le_trans (fm_len16 (mods.take j) fun s hs=>hm s (List.mem_of_mem_take hs)) (Nat.le_trans (Nat.mul_le_mul_right 2000008 h2) (by decide))
  obtain ⟨x,hx⟩:∃ x,mods[j]=x:=⟨_,rfl⟩
  rw [hx] at hf hmj hkj hsn
  obtain ⟨xn,xk⟩:=x
  dsimp only at hkj hmj
  subst hkj
  dsimp only [Adr.Step.cells,Adr.K.none] at hf
  obtain ⟨P,hP⟩:∃ P,(mods.take j).flatMap stepB=P:=⟨_,rfl⟩
  rw [hP] at hu hsn hacc
  have l1:P.length+7 < 1099511627776∧P.length+7+xn.length < 1099511627776∧P.length+7+xn.length+1 < 1099511627776∧P.length+(7+xn.length) < 1099511627776∧P.length+(7+xn.length)+1 < 1099511627776∧P.length+(xn.length+7) < 1099511627776∧P.length+(xn.length+7)+1 < 1099511627776∧P.length+7+xn.length+0 < 1099511627776:=⟨by omega,by omega,by omega,by omega,by omega,by omega,by omega,by omega⟩
  refine runx0 (ai hu (ai hf l1)) (ai cf ti) ?_
  refine ⟨_,by omega,rfl,j+1,rfl,by omega,?_⟩
  have e:P++[109,111,100,117,108,101,46]++xn++[46]=(mods.take (j+1)).flatMap stepB:=by
   rw [hsn]
   unfold stepB
   simp [Adr.modW]
  (exact inv0 (ai hu (ai hf e)))
 ·have hf:=ai (show (mods.map Adr.Step.cells).length=mods.length from List.length_map _) (show ¬ (j:Int) < (mods.length:Int) by omega)
  rw [List.take_of_length_le hge] at hu
  refine runx0 (ai hu hf) ti ?_
  exact ⟨_,le_refl _,rfl⟩
theorem a_r6format0 (a:Adr.Ad) (hi:Adr.In a) (hk:∀ s∈a.mods,s.key=Adr.K.none) (hkk:a.key=Adr.K.none) (h:Hp):ACall Tryz.prog GT 267 [.agg a.cells] h fun r h'=>r = .str (Adr.fmt a)∧h'=h:=by
 have cc:=fun h=>a_r6check a hi h
 obtain ⟨mods,data,ty,nm,key⟩:=a
 dsimp only at hk hkk
 subst hkk
 have hfb:=fmt_bare mods data ty nm hk
 obtain ⟨hn,hm,ht,ha,_⟩:=hi
 dsimp only at hn hm ht ha
 refine pcall ?_ rfl (by simp [A.pure,A.data,Adr.Ad.cells]) h
 refine acall_of mixedT h_r6format (by simp [c_r6format]) ?_
 dsimp only [c_r6format,Adr.Ad.cells,Adr.K.none] at cc ⊢
 by_cases hc0:Adr.check ⟨mods,data,ty,nm,Adr.K.none⟩=0
 rotate_left
 ·have e1:(Adr.check ⟨mods,data,ty,nm,Adr.K.none⟩ != 0)=true:=by simp [hc0]
  have hfz:Adr.fmt ⟨mods,data,ty,nm,Adr.K.none⟩=[]:=by unfold Adr.fmt; rw [if_pos hc0]
  unfold Adr.K.none at e1 hfz
  refine runx0 e1 (ai cc ti) ?_
  exact ⟨_,le_refl _,by rw [hfz]; rfl⟩
 have e1:(Adr.check ⟨mods,data,ty,nm,Adr.K.none⟩ != 0)=false:=by simp [hc0]
 have hf:=hfb hc0
 have hn16:mods.length≤16:=by
  rcases Nat.lt_or_ge 16 mods.length with h16 | h16
  ·unfold Adr.check at hc0
   rw [if_pos h16] at hc0
   exact absurd hc0 (by decide)
  ·exact h16
 have hlenall:=fm_len16 mods fun s hs=>(hm s hs).1
 have cs:=a_r6steps mods hn16 (fun s hs=>(hm s hs).1) hk
 have cf:=a_r6fmtkey0
 unfold Adr.K.none at e1 hf
 rw [hf]
 obtain ⟨P,hP⟩:∃ P,mods.flatMap stepB=P:=⟨_,rfl⟩
 rw [hP] at cs hlenall ⊢
 have hPl:P.length≤32000128:=Nat.le_trans hlenall (Nat.le_trans (Nat.mul_le_mul_right 2000008 hn16) (by decide))
 cases data with
 | false =>
  have l1:P.length+ty.length < 1099511627776∧P.length+ty.length+1 < 1099511627776∧P.length+ty.length+1+nm.length < 1099511627776∧P.length+(ty.length+1) < 1099511627776∧P.length+(ty.length+1)+nm.length < 1099511627776∧P.length+(ty.length+(1+nm.length)) < 1099511627776:=⟨by omega,by omega,by omega,by omega,by omega,by omega⟩
  refine runx0 (ai e1 l1) (ai cc (ai cs (ai cf ti))) ?_
  exact ⟨_,le_refl _,by simp [tupA_1]⟩
 | true =>
  have l1:P.length+5 < 1099511627776∧P.length+5+ty.length < 1099511627776∧P.length+5+ty.length+1 < 1099511627776∧P.length+5+ty.length+1+nm.length < 1099511627776:=⟨by omega,by omega,by omega,by omega⟩
  refine runx0 (ai e1 l1) (ai cc (ai cs (ai cf ti))) ?_
  exact ⟨_,le_refl _,by simp [tupA_1,Adr.dataW]⟩
theorem a_r6static (s:List UInt8) (hl:s.length≤2000000) (hin:Adr.In (Adr.bare (Adr.parse s).1)) (h:Hp):ACall Tryz.prog GT 250 [.str s] h fun r h'=>r = .tup [.str (Adr.static s).1,.int .i64 (Adr.static s).2]∧h'=h:=by
 have cp:=a_r6parse s hl
 have cb:=a_r6bare (Adr.parse s).1 (by have:=hin.n; simpa [Adr.bare] using this)
 have cf:=a_r6format0 (Adr.bare (Adr.parse s).1) hin (fun x hx=>by
  simp only [Adr.bare,List.mem_map] at hx
  obtain ⟨y,_,rfl⟩:=hx
  rfl) rfl
 refine pcall ?_ rfl (by simp [A.pure,A.data]) h
 refine acall_of mixedT h_r6static (by simp [c_r6static]) ?_
 dsimp only [c_r6static]
 unfold Adr.static
 obtain ⟨⟨⟨mods,data,ty,nm,⟨ka,kb,kc⟩⟩,e⟩,hP⟩:∃ p,Adr.parse s=p:=⟨_,rfl⟩
 rw [hP] at cp cb cf ⊢
 dsimp only [Adr.Ad.cells] at cp cb cf ⊢
 obtain ⟨F,hF⟩:∃ F,Adr.fmt (Adr.bare ⟨mods,data,ty,nm,⟨ka,kb,kc⟩⟩)=F:=⟨_,rfl⟩
 rw [hF] at cf ⊢
 dsimp only [Adr.bare,Adr.K.none] at cb cf
 by_cases he:e=0
 ·subst he
  refine runx0 ti (ai cp (ai cb (ai cf ti))) ?_
  exact ⟨_,le_refl _,rfl⟩
 ·have e1:(e != 0)=true:=by simp [he]
  rw [if_pos he]
  refine runx0 e1 (ai cp ti) ?_
  exact ⟨_,le_refl _,rfl⟩
end AX
end Go.Proofs.YtahmpiioegemaaaGreatDoor

namespace Go.Proofs.YtahmpiioegemaaaGreatDoor
open Go.RowKit
open Go.Op (bytesLess)
namespace AX
def c_r7known:AX.AFn:=⟨21,aS [aR 1 (.box 34 (.t 0)),aR 2 (.mv (.c (.bool false)))] (.seq (aS [aF 4 0 1,aL 5 4,aR 6 (.bin .eql (.t 5) (aI 6))] (.cond (.t 6) (aS [aR 2 (.mv (.c (.bool false)))] (.ret)) (.skip))) (.seq (aS [aR 3 (.mv (aI 0))] (.block 0 (.loop (.seq (aS [aM 7 3,aF 8 3 1,aL 9 8,aR 10 (.len false (.t 9)),aR 11 (.bin .lss (.t 7) (.t 10))] (.cond (.t 11) (.skip) (.exit 0))) (.seq (.block 1 (aS [aF 14 3 1,aL 15 14,aM 16 3,aR 17 (.iaddr 5 (.t 15) (.t 16)),aR 18 (.load true 5 (.t 17)),aR 19 (.call 207 [.t 18]),aR 20 (.un .not (.t 19))] (.cond (.t 20) (aS [aR 2 (.mv (.c (.bool false)))] (.ret)) (.skip)))) (.reg false [aM 12 3,aR 13 (.bin .add (.t 12) (aI 1)),aM 3 13])))))) (aS [aR 2 (.mv (.c (.bool true)))] (.ret)))),[.t 2]⟩
theorem h_r7known:AX.compFn Tryz.prog 207=some c_r7known:=by kernel_rfl
def c_r7bytes:AX.AFn:=⟨11,aS [aR 4 (.mv (aI 0))] (.seq (aS [aM 5 0,aM 6 1,aR 7 (.bin .lss (.t 5) (.t 6))] (.cond (.t 7) (aS [aR 4 (.mv (aI (-1)))] (.ret)) (.skip))) (.seq (aS [aM 8 0,aM 9 1,aR 10 (.bin .gtr (.t 8) (.t 9))] (.cond (.t 10) (aS [aR 4 (.mv (aI 1))] (.ret)) (.skip))) (aS [aR 4 (.mv (aI 0))] (.ret)))),[.t 4]⟩
theorem h_r7bytes:AX.compFn Tryz.prog 209=some c_r7bytes:=by kernel_rfl
def c_r31text:AX.AFn:=⟨9,aS [aR 2 (.mv (.c (.bool false)))] (aS [aM 3 0,aR 4 (.bin .neq (.t 3) (.c (.str []))),aM 5 4,aG 6 (.mv (.t 0)) 5 true,aG 7 (.call 204 [.t 6]) 5 true,aR 8 (.pick (.t 5) (.t 7) (.c (.bool false))),aM 2 8] (.ret)),[.t 2]⟩
theorem h_r31text:AX.compFn Tryz.prog 177=some c_r31text:=by kernel_rfl
def c_r31managed:AX.AFn:=⟨20,aS [aR 2 (.mv (.c (.str []))),aR 3 (.mv (.c (.bool false)))] (aS [aM 7 0,aR 8 (.call 228 [.t 7]),aM 6 8,aE 9 6 0,aE 10 6 1,aR 4 (.alloc 193 [.sl 0 .nil [],.bool false,.str [],.str [],.int .i64 0,.int .i64 0,.str []]),aU (.store 7 (.t 4) (.t 9)),aM 5 10] (.seq (.reg true [aF 11 2 4,⟨some 12,.load false 1 (.t 11),none,[0]⟩,aM 13 5,⟨some 14,.bin .eql (.t 13) (aI 0),none,[2]⟩,⟨some 15,.mv (.t 14),none,[3]⟩,⟨some 16,.faddr 1 (.t 4),some (15,true),[4]⟩,⟨some 17,.load false 1 (.t 16),some (15,true),[5,4]⟩,⟨some 18,.un .not (.t 17),some (15,true),[6,4]⟩,⟨some 19,.pick (.t 15) (.t 18) (.c (.bool false)),none,[4,7]⟩,⟨some 2,.mv (.t 12),none,[1,4,0,1]⟩,⟨some 3,.mv (.t 19),none,[8,9,0,1,2,3,4,5,6,7,8,9]⟩]) (.ret))),[.t 2,.t 3]⟩
theorem h_r31managed:AX.compFn Tryz.prog 205=some c_r31managed:=by kernel_rfl
def c_r31static:AX.AFn:=⟨17,aS [aR 2 (.mv (.c (.bool false)))] (aS [aM 6 0,aR 7 (.call 250 [.t 6]),aM 5 7,aE 8 5 0,aE 9 5 1,aM 3 8,aM 4 9] (aS [aM 10 4,aR 11 (.bin .eql (.t 10) (aI 0)),aM 12 11,aG 13 (.mv (.t 3)) 12 true,aG 14 (.mv (.t 0)) 12 true,aG 15 (.bin .eql (.t 13) (.t 14)) 12 true,aR 16 (.pick (.t 12) (.t 15) (.c (.bool false))),aM 2 16] (.ret))),[.t 2]⟩
theorem h_r31static:AX.compFn Tryz.prog 230=some c_r31static:=by kernel_rfl
def c_r31deps:AX.AFn:=⟨32,aS [aR 2 (.mv (.c (.bool false)))] (.seq (aS [aR 3 (.mv (aI 0))] (.block 0 (.loop (.seq (aS [aM 4 3,aM 5 0,aR 6 (.len false (.t 5)),aR 7 (.bin .lss (.t 4) (.t 6))] (.cond (.t 7) (.skip) (.exit 0))) (.seq (.block 1 (.seq (.reg true [aM 10 0,aM 11 3,⟨some 12,.iaddr 1 (.t 10) (.t 11),none,[0,1]⟩,⟨some 13,.load false 1 (.t 12),none,[2]⟩,⟨some 14,.call 230 [.t 13],none,[3]⟩,⟨some 15,.un .not (.t 14),none,[4]⟩,⟨some 16,.mv (.t 15),none,[5,4]⟩,⟨some 17,.mv (.t 3),some (16,false),[6]⟩,⟨some 18,.bin .gtr (.t 17) (aI 0),some (16,false),[7,6]⟩,⟨some 19,.mv (.t 18),some (16,false),[8,6,6]⟩,⟨some 20,.mv (.t 0),some (19,true),[9]⟩,⟨some 21,.mv (.t 3),some (19,true),[9]⟩,⟨some 22,.bin .sub (.t 21) (aI 1),some (19,true),[11,9]⟩,⟨some 23,.iaddr 1 (.t 20) (.t 22),some (19,true),[10,12,9]⟩,⟨some 24,.load false 1 (.t 23),some (19,true),[13,9]⟩,⟨some 25,.mv (.t 0),some (19,true),[9]⟩,⟨some 26,.mv (.t 3),some (19,true),[9]⟩,⟨some 27,.iaddr 1 (.t 25) (.t 26),some (19,true),[15,16,9]⟩,⟨some 28,.load false 1 (.t 27),some (19,true),[17,9]⟩,⟨some 29,.bin .geq (.t 24) (.t 28),some (19,true),[14,18,9]⟩,⟨some 30,.pick (.t 19) (.t 29) (.c (.bool false)),some (16,false),[9,19,6]⟩,⟨some 31,.pick (.t 16) (.c (.bool true)) (.t 30),none,[6,20]⟩]) (.cond (.t 31) (aS [aR 2 (.mv (.c (.bool false)))] (.ret)) (.skip)))) (.reg false [aM 8 3,aR 9 (.bin .add (.t 8) (aI 1)),aM 3 9])))))) (aS [aR 2 (.mv (.c (.bool true)))] (.ret))),[.t 2]⟩
theorem h_r31deps:AX.compFn Tryz.prog 208=some c_r31deps:=by kernel_rfl
def c_r31key:AX.AFn:=⟨20,aS [aR 2 (.mv (.c (.bool false)))] (aS [aM 6 0,aR 7 (.call 229 [.t 6]),aM 5 7,aE 8 5 0,aE 9 5 1,aM 3 8,aM 4 9] (aS [aM 10 0,aR 11 (.bin .eql (.t 10) (.c (.str []))),aM 12 11,aG 13 (.mv (.t 4)) 12 false,aG 14 (.bin .eql (.t 13) (aI 0)) 12 false,aG 15 (.mv (.t 14)) 12 false,aG 16 (.mv (.t 3)) 15 true,aG 17 (.bin .geq (.t 16) (aI 1)) 15 true,aG 18 (.pick (.t 15) (.t 17) (.c (.bool false))) 12 false,aR 19 (.pick (.t 12) (.c (.bool true)) (.t 18)),aM 2 19] (.ret))),[.t 2]⟩
theorem h_r31key:AX.compFn Tryz.prog 206=some c_r31key:=by kernel_rfl
def c_r31inst:AX.AFn:=⟨58,aS [aR 1 (.box 36 (.t 0)),aR 2 (.mv (aI 0))] (aS [aF 7 0 1,aL 8 7,aR 9 (.call 205 [.t 8]),aM 6 9,aE 10 6 0,aE 11 6 1,aM 3 10,aM 4 11] (.seq (aS [aM 12 4,aR 13 (.un .not (.t 12)),aM 14 13,aG 15 (.faddr 1 (.t 1)) 14 false,aG 16 (.load false 1 (.t 15)) 14 false,aG 17 (.call 206 [.t 16]) 14 false,aG 18 (.un .not (.t 17)) 14 false,aR 19 (.pick (.t 14) (.c (.bool true)) (.t 18)),aM 20 19,aG 21 (.faddr 2 (.t 1)) 20 false,aG 22 (.load false 1 (.t 21)) 20 false,aG 23 (.call 177 [.t 22]) 20 false,aG 24 (.un .not (.t 23)) 20 false,aR 25 (.pick (.t 20) (.c (.bool true)) (.t 24)),aM 26 25,aG 27 (.faddr 3 (.t 1)) 26 false,aG 28 (.load false 1 (.t 27)) 26 false,aG 29 (.mv (.t 3)) 26 false,aG 30 (.bin .neq (.t 28) (.t 29)) 26 false,aR 31 (.pick (.t 26) (.c (.bool true)) (.t 30))] (.cond (.t 31) (aS [aR 2 (.mv (aI 1))] (.ret)) (.skip))) (.seq (aS [aF 32 4 1,aR 33 (.load true 5 (.t 32)),aR 34 (.call 105 [.t 33]),aM 5 34] (aS [aM 35 5,aR 36 (.bin .neq (.t 35) (aI 0))] (.cond (.t 36) (aS [aM 37 5,aM 2 37] (.ret)) (.skip)))) (.seq (aS [aF 38 4 1,aF 39 0 38,aL 40 39,aR 41 (.bin .neq (.t 40) (aI 5))] (.cond (.t 41) (aS [aR 2 (.mv (aI 6))] (.ret)) (.skip))) (.seq (aS [aF 42 4 1,aR 43 (.load true 5 (.t 42)),aR 44 (.call 207 [.t 43]),aR 45 (.un .not (.t 44))] (.cond (.t 45) (aS [aR 2 (.mv (aI 11))] (.ret)) (.skip))) (.seq (aS [aF 46 9 1,aL 47 46,aR 48 (.bin .lss (.t 47) (aI 1)),aM 49 48,aG 50 (.faddr 9 (.t 1)) 49 false,aG 51 (.load false 1 (.t 50)) 49 false,aG 52 (.bin .gtr (.t 51) (aI 9007199254740992)) 49 false,aR 53 (.pick (.t 49) (.c (.bool true)) (.t 52))] (.cond (.t 53) (aS [aR 2 (.mv (aI 5))] (.ret)) (.skip))) (.seq (aS [aF 54 12 1,aL 55 54,aR 56 (.call 208 [.t 55]),aR 57 (.un .not (.t 56))] (.cond (.t 57) (aS [aR 2 (.mv (aI 1))] (.ret)) (.skip))) (aS [aR 2 (.mv (aI 0))] (.ret))))))))),[.t 2]⟩
theorem h_r31inst:AX.compFn Tryz.prog 178=some c_r31inst:=by kernel_rfl
def c_r31pend:AX.AFn:=⟨25,aS [aR 1 (.box 140 (.t 0)),aR 2 (.mv (aI 0))] (aS [aF 6 0 1,aL 7 6,aR 8 (.call 205 [.t 7]),aM 5 8,aE 9 5 0,aE 10 5 1,aM 3 9,aM 4 10] (.seq (aS [aF 11 2 1,aL 12 11,aR 13 (.call 177 [.t 12]),aR 14 (.un .not (.t 13)),aM 15 14,aG 16 (.mv (.t 4)) 15 false,aG 17 (.un .not (.t 16)) 15 false,aR 18 (.pick (.t 15) (.c (.bool true)) (.t 17)),aM 19 18,aG 20 (.faddr 1 (.t 1)) 19 false,aG 21 (.load false 1 (.t 20)) 19 false,aG 22 (.mv (.t 3)) 19 false,aG 23 (.bin .neq (.t 21) (.t 22)) 19 false,aR 24 (.pick (.t 19) (.c (.bool true)) (.t 23))] (.cond (.t 24) (aS [aR 2 (.mv (aI 1))] (.ret)) (.skip))) (aS [aR 2 (.mv (aI 0))] (.ret)))),[.t 2]⟩
theorem h_r31pend:AX.compFn Tryz.prog 180=some c_r31pend:=by kernel_rfl
def c_r31outp:AX.AFn:=⟨18,aS [aR 1 (.box 95 (.t 0)),aR 2 (.mv (aI 0))] (.seq (aS [aF 4 0 1,aL 5 4,aR 6 (.call 231 [.t 5]),aR 7 (.un .not (.t 6))] (.cond (.t 7) (aS [aR 2 (.mv (aI 7))] (.ret)) (.skip))) (.seq (aS [aF 8 1 1,aR 9 (.load true 5 (.t 8)),aR 10 (.call 105 [.t 9]),aM 3 10] (aS [aM 11 3,aR 12 (.bin .neq (.t 11) (aI 0))] (.cond (.t 12) (aS [aM 13 3,aM 2 13] (.ret)) (.skip)))) (.seq (aS [aF 14 1 1,aR 15 (.load true 5 (.t 14)),aR 16 (.call 207 [.t 15]),aR 17 (.un .not (.t 16))] (.cond (.t 17) (aS [aR 2 (.mv (aI 11))] (.ret)) (.skip))) (aS [aR 2 (.mv (aI 0))] (.ret))))),[.t 2]⟩
theorem h_r31outp:AX.compFn Tryz.prog 210=some c_r31outp:=by kernel_rfl
def c_r31before:AX.AFn:=⟨19,aS [aR 5 (.box 36 (.t 2)),aR 6 (.mv (aI 0))] (.seq (aS [aM 7 0,aF 8 0 5,aL 9 8,aR 10 (.bin .neq (.t 7) (.t 9))] (.cond (.t 10) (aS [aM 11 0,aF 12 0 5,aL 13 12,aR 14 (.call 209 [.t 11,.t 13]),aM 6 14] (.ret)) (.skip))) (aS [aM 15 1,aF 16 1 5,aL 17 16,aR 18 (.call 209 [.t 15,.t 17]),aM 6 18] (.ret))),[.t 6]⟩
theorem h_r31before:AX.compFn Tryz.prog 179=some c_r31before:=by kernel_rfl
theorem a_r7known:∀ (v:V),v.lens→∀ h,ACall Tryz.prog GT 207 [v.A] h fun r h'=>r = .bool (Sf.known v)∧h'=h:=by
 refine V.induct fun k n s is ks ih=>?_
 intro hlen h
 unfold V.lens at hlen
 have hall:=hlen.2.2.2.2
 have hisl:is.length≤9223372036854775807:=by have:=hlen.1; simp only [maxLen] at this; omega
 simp only [V.A,V.cells]
 refine pcall ?_ rfl (by simp [A.pure,A.data]) h
 refine acall_of mixedT h_r7known (by simp [c_r7known]) ?_
 dsimp only [c_r7known]
 obtain ⟨q,hq⟩:∃ q,Sf.known (.mk k n s is ks)=q:=⟨_,rfl⟩
 rw [hq]
 unfold Sf.known at hq
 by_cases h6:k=6
 ·have e1:(k == 6)=true:=by simp [h6]
  have:false=q:=by rw [←hq]; simp [h6]
  subst this
  refine runx0 e1 ti ?_
  exact ⟨_,le_refl _,rfl⟩
 have e1:(k == 6)=false:=by simp [h6]
 have hq':Sf.knowns is=q:=by rw [←hq]; simp [h6]
 refine runx0 e1 ti ?_
 refine awp_loop (fun m ts hh=>hh=⟨[.cells 34 [.int .i64 k,.int .i64 n,.str s,.sl 5 .no (V.cellss is),.sl 1 .no (strsA ks)]],[]⟩∧∃ j:Nat,m=is.length - j∧j≤is.length∧Sf.knowns (is.drop j)=q∧(ts 1 = .ptr 0 0∧ts 3 = .int .i64 (j:Nat))) is.length ?_ ?_
 ·exact ⟨rfl,0,rfl,Nat.zero_le _,hq',by (exact inv0 ti)⟩
 rintro m ts hh ⟨rfl,j,rfl,hj,hkn,ht⟩
 rcases Nat.lt_or_ge j is.length with hlt | hge
 ·have hf:(V.cellss is).length=is.length∧(j:Int) < (is.length:Int)∧(0:Int)≤(j:Int)∧(V.cellss is).getD j []=is[j].cells∧IntKind.i64.wrap ((j:Int)+1)=((j+1:Nat):Int):=
   ⟨V.cellss_length is,by omega,by omega,V.cellss_get is j hlt,by rw [wrap64 (by omega) (by omega)]; omega⟩
  have hc:=ih is[j] (List.getElem_mem hlt) (V.lensS_mem hall _ (List.getElem_mem hlt))
  rw [List.drop_eq_getElem_cons hlt] at hkn
  unfold Sf.knowns at hkn
  obtain ⟨x,hx⟩:∃ x,is[j]=x:=⟨_,rfl⟩
  rw [hx] at hf hc hkn
  obtain ⟨k1,n1,w1,vi,vy⟩:=x
  simp only [V.A,V.cells] at hf hc
  cases hK:Sf.known (.mk k1 n1 w1 vi vy) with
  | false =>
   rw [hK] at hc hkn
   have:false=q:=hkn
   subst this
   refine runx0 (ai ht hf) (ai hc ti) ?_
   exact ⟨_,le_refl _,rfl⟩
  | true =>
   rw [hK,Bool.true_and] at hkn
   rw [hK] at hc
   refine runx0 (ai ht hf) (ai hc ti) ?_
   exact ⟨_,by omega,rfl,j+1,rfl,by omega,hkn,by (exact inv0 (ai ht hf))⟩
 ·have hf:=ai (V.cellss_length is) (show ¬ (j:Int) < (is.length:Int) by omega)
  rw [List.drop_of_length_le hge] at hkn
  unfold Sf.knowns at hkn
  subst hkn
  refine runx0 (ai ht hf) ti ?_
  exact ⟨_,le_refl _,rfl⟩
def cmpB (a b:List UInt8):Int:=if bytesLess a b=true then -1 else if a=b then 0 else 1
theorem a_r7bytes (a b:List UInt8) (h:Hp):ACall Tryz.prog GT 209 [.str a,.str b] h fun r h'=>r = .int .i64 (cmpB a b)∧h'=h:=by
 refine pcall ?_ rfl (by simp [A.pure,A.data]) h
 refine acall_of mixedT h_r7bytes (by simp [c_r7bytes]) ?_
 dsimp only [c_r7bytes]
 unfold cmpB
 cases hl:bytesLess a b with
 | true =>
  refine runx0 hl ti ?_
  exact ⟨_,le_refl _,rfl⟩
 | false =>
  by_cases he:a=b
  ·have e1:(a == b)=true:=by simp [he]
   refine runx0 (ai hl e1) ti ?_
   exact ⟨_,le_refl _,by rw [if_neg (by decide),if_pos he]; rfl⟩
  ·have e1:(a == b)=false:=by simp [he]
   refine runx0 (ai hl e1) ti ?_
   exact ⟨_,le_refl _,by rw [if_neg (by decide),if_neg he]; rfl⟩
theorem a_r31text (s:List UInt8) (hs:s.length≤2000000) (h:Hp):ACall Tryz.prog GT 177 [.str s] h fun r h'=>r = .bool (Sf.text s)∧h'=h:=by
 have hv:=a_refValid s hs
 refine pcall ?_ rfl (by simp [A.pure,A.data]) h
 refine acall_of mixedT h_r31text (by simp [c_r31text]) ?_
 dsimp only [c_r31text]
 refine runx0 ti (ai hv ti) ?_
 exact ⟨_,le_refl _,rfl⟩
def isM (s:List UInt8):Bool:=(Adr.parse s).2 == 0&&!(Adr.parse s).1.data
theorem a_r31managed (s:List UInt8) (hs:s.length≤2000000) (h:Hp):ACall Tryz.prog GT 205 [.str s] h fun r h'=>r = .tup [.str (Adr.parse s).1.type,.bool (isM s)]∧h'=h:=by
 have hp:=a_r6parse s hs
 unfold isM
 obtain ⟨⟨⟨mods,data,ty,nm,⟨ka,kb,kc⟩⟩,e⟩,hP⟩:∃ p,Adr.parse s=p:=⟨_,rfl⟩
 rw [hP] at hp ⊢
 dsimp only [Adr.Ad.cells] at hp ⊢
 refine pcall ?_ rfl (by simp [A.pure,A.data]) h
 refine acall_of mixedT h_r31managed (by simp [c_r31managed]) ?_
 dsimp only [c_r31managed]
 refine runx0 ti (ai hp ti) ?_
 exact ⟨_,le_refl _,rfl⟩
theorem parse_in (s:List UInt8) (hs:s.length≤2000000):Adr.In (Adr.bare (Adr.parse s).1):=by
 by_cases h0:(Adr.parse s).2=0
 ·obtain ⟨n1,n2,n3,n4⟩:=Adr.parse_names s h0
  refine ⟨by simp [Adr.bare]; omega,fun x hx=>?_,by show (Adr.parse s).1.type.length≤_; omega,by show (Adr.parse s).1.name.length≤_; omega,by show ([]:List UInt8).length≤_; decide⟩
  simp only [Adr.bare,List.mem_map] at hx
  obtain ⟨y,hy,rfl⟩:=hx
  exact ⟨by have:=n1 y hy; dsimp only; omega,by show ([]:List UInt8).length≤_; decide⟩
 ·have hz:(Adr.parse s).1=Adr.Ad.zero:=by
   unfold Adr.parse at h0 ⊢
   split at h0
   ·split at h0
    ·next h1=>rw [if_pos h1]
    ·exact absurd rfl h0
   ·rfl
  rw [hz]
  exact ⟨by decide,by simp [Adr.bare,Adr.Ad.zero],by decide,by decide,by decide⟩
theorem a_r31static (s:List UInt8) (hs:s.length≤2000000) (h:Hp):ACall Tryz.prog GT 230 [.str s] h fun r h'=>r = .bool (Sf.staticB s)∧h'=h:=by
 have hp:=a_r6static s hs (parse_in s hs)
 unfold Sf.staticB
 refine pcall ?_ rfl (by simp [A.pure,A.data]) h
 refine acall_of mixedT h_r31static (by simp [c_r31static]) ?_
 dsimp only [c_r31static]
 refine runx0 ti (ai hp ti) ?_
 exact ⟨_,le_refl _,rfl⟩
theorem a_r31key (s:List UInt8) (hs:s.length≤2000000) (h:Hp):ACall Tryz.prog GT 206 [.str s] h fun r h'=>r = .bool (Sf.keyB s)∧h'=h:=by
 have hp:=a_r1parse s hs
 unfold Sf.keyB
 refine pcall ?_ rfl (by simp [A.pure,A.data]) h
 refine acall_of mixedT h_r31key (by simp [c_r31key]) ?_
 dsimp only [c_r31key]
 refine runx0 ti (ai hp ti) ?_
 exact ⟨_,le_refl _,rfl⟩
def prevS (l:List (List UInt8)):Nat→Option (List UInt8)
 | 0=>none
 | j+1=>l[j]?
theorem strs_at (l:List (List UInt8)) (j:Nat) (h:j < l.length) (hl:l.length≤4611686018427387904) :
  (strsA l).length=l.length∧(j:Int) < (l.length:Int)∧(0:Int)≤(j:Int)∧(strsA l).getD j []=[.str l[j]]∧IntKind.i64.wrap ((j:Int)+1)=((j+1:Nat):Int):=
 ⟨strsA_length l,by omega,by omega,strsA_get l j h,by rw [wrap64 (by omega) (by omega)]; omega⟩
theorem a_r31deps (l:List (List UInt8)) (hn:l.length≤1000000000) (hl:∀ s∈l,s.length≤2000000) (h:Hp):ACall Tryz.prog GT 208 [.sl 1 .no (strsA l)] h fun r h'=>r = .bool (Sf.depsB none l)∧h'=h:=by
 refine pcall ?_ rfl (by simp [A.pure,A.data]) h
 refine acall_of mixedT h_r31deps (by simp [c_r31deps]) ?_
 dsimp only [c_r31deps]
 obtain ⟨q,hq⟩:∃ q,Sf.depsB none l=q:=⟨_,rfl⟩
 rw [hq]
 refine runx0 ti ti ?_
 refine awp_loop (fun m ts hh=>hh=⟨[],[]⟩∧∃ j:Nat,m=l.length - j∧j≤l.length∧Sf.depsB (prevS l j) (l.drop j)=q∧(ts 0 = .sl 1 .no (strsA l)∧ts 3 = .int .i64 (j:Nat))) l.length ?_ ?_
 ·exact ⟨rfl,0,rfl,Nat.zero_le _,hq,by (exact inv0 ti)⟩
 rintro m ts hh ⟨rfl,j,rfl,hj,hd,ht⟩
 rcases Nat.lt_or_ge j l.length with hlt | hge
 ·have hf:=strs_at l j hlt (by omega)
  have hs:=hl _ (List.getElem_mem hlt)
  rw [List.drop_eq_getElem_cons hlt] at hd
  unfold Sf.depsB at hd
  have hnx:prevS l (j+1)=some l[j]:=List.getElem?_eq_getElem hlt
  obtain ⟨s,hs'⟩:∃ s,l[j]=s:=⟨_,rfl⟩
  rw [hs'] at hf hs hd hnx
  have cs:=a_r31static s hs
  cases hS:Sf.staticB s with
  | false =>
   rw [hS] at cs hd
   have:false=q:=hd
   subst this
   refine runx0 (ai ht hf) (ai cs ti) ?_
   exact ⟨_,le_refl _,rfl⟩
  | true =>
  rw [hS,Bool.true_and] at hd
  rw [hS] at cs
  cases j with
  | zero =>
   have:Sf.depsB (some s) (l.drop 1)=q:=hd
   have z0:¬ ((0:Nat):Int) > 0:=by decide
   refine runx0 (ai ht (ai hf z0)) (ai cs ti) ?_
   exact ⟨l.length - 1,by omega,rfl,1,rfl,by omega,by rw [hnx]; exact this,by (exact inv0 (ai ht hf))⟩
  | succ i =>
   have hi:i < l.length:=by omega
   have hpv:prevS l (i+1)=some l[i]:=List.getElem?_eq_getElem hi
   rw [hpv] at hd
   have g1:((i+1:Nat):Int) > 0∧IntKind.i64.wrap (((i+1:Nat):Int) - 1)=(i:Int)∧(i:Int) < (l.length:Int)∧(0:Int)≤(i:Int)∧(strsA l).getD i []=[.str l[i]]:=⟨by omega,by rw [wrap64 (by omega) (by omega)]; omega,by omega,by omega,strsA_get l i hi⟩
   obtain ⟨p,hp⟩:∃ p,l[i]=p:=⟨_,rfl⟩
   rw [hp] at hd g1
   have hb:Val.badB (some p) s=!bytesLess p s:=rfl
   rw [hb,Bool.not_not] at hd
   cases hB:bytesLess p s with
   | false =>
    rw [hB] at hd
    have:false=q:=hd
    subst this
    refine runx0 (ai ht (ai hf (ai g1 hB))) (ai cs ti) ?_
    exact ⟨_,le_refl _,rfl⟩
   | true =>
    rw [hB,Bool.true_and] at hd
    refine runx0 (ai ht (ai hf (ai g1 hB))) (ai cs ti) ?_
    exact ⟨_,by omega,rfl,i+1+1,rfl,by omega,by rw [hnx]; exact hd,by (exact inv0 (ai ht hf))⟩
 ·have hf:=ai (strsA_length l) (show ¬ (j:Int) < (l.length:Int) by omega)
  rw [List.drop_of_length_le hge] at hd
  unfold Sf.depsB at hd
  subst hd
  refine runx0 (ai ht hf) ti ?_
  exact ⟨_,le_refl _,rfl⟩
theorem managed_M (s t:List UInt8):Sf.managed s t=(isM s&&(Adr.parse s).1.type == t):=rfl
theorem ne_flip (a b:List UInt8):(a != b)=!(b == a):=by
 show (!(a == b))=!(b == a)
 congr 1
 rw [Bool.eq_iff_iff,beq_iff_eq,beq_iff_eq]
 exact eq_comm
theorem a_r31inst (x:Sf.Inst) (hx:Sf.InstIn x) (ht:x.typ.length≤2000000) (h:Hp):ACall Tryz.prog GT 178 [.agg x.cells] h fun r h'=>r = .int .i64 (Sf.instZ x)∧h'=h:=by
 have cm:=a_r31managed x.addr hx.a
 have ck:=a_r31key x.dep hx.d
 have ct:=a_r31text x.id hx.i
 have cc:=a_rCheck x.attrs hx.l
 have cn:=a_r7known x.attrs hx.l
 have cd:=a_r31deps x.deps (by have:=hx.n; omega) hx.ds
 obtain ⟨q,hq⟩:∃ q,Sf.instZ x=q:=⟨_,rfl⟩
 rw [hq]
 unfold Sf.instZ at hq
 rw [managed_M] at hq
 obtain ⟨a,d,id,ty,⟨k,n,w,vi,vy⟩,v,tn,fi,ds⟩:=x
 dsimp only at cm ck ct cd hq
 simp only [V.A,V.cells] at cc cn
 refine pcall ?_ rfl (by simp [A.pure,A.data,Sf.Inst.cells]) h
 refine acall_of mixedT h_r31inst (by simp [c_r31inst]) ?_
 dsimp only [c_r31inst,Sf.Inst.cells]
 obtain ⟨T,hT⟩:∃ T,(Adr.parse a).1.type=T:=⟨_,rfl⟩
 rw [hT] at cm hq
 cases hM:isM a with
 | false =>
  rw [hM] at cm hq
  rw [if_pos (by simp)] at hq
  subst hq
  refine runx0 ti (ai cm ti) ?_
  exact ⟨_,le_refl _,rfl⟩
 | true =>
 rw [hM,Bool.true_and] at hq
 rw [hM] at cm
 cases hK:Sf.keyB d with
 | false =>
  rw [hK] at ck hq
  rw [if_pos (by simp)] at hq
  subst hq
  refine runx0 ti (ai cm (ai ck ti)) ?_
  exact ⟨_,le_refl _,rfl⟩
 | true =>
 rw [hK] at ck hq
 cases hX:Sf.text id with
 | false =>
  rw [hX] at ct hq
  rw [if_pos (by simp)] at hq
  subst hq
  refine runx0 ti (ai cm (ai ck (ai ct ti))) ?_
  exact ⟨_,le_refl _,rfl⟩
 | true =>
 rw [hX] at ct hq
 simp only [Bool.not_true,Bool.or_false] at hq
 have hTy:(ty != T)=!(T == ty):=ne_flip ty T
 cases hE:(T == ty) with
 | false =>
  rw [hE] at hTy hq
  rw [if_pos (by decide)] at hq
  subst hq
  refine runx0 hTy (ai cm (ai ck (ai ct ti))) ?_
  exact ⟨_,le_refl _,rfl⟩
 | true =>
 rw [hE] at hTy hq
 rw [if_neg (by decide)] at hq
 have hTy':(ty != T)=false:=hTy
 by_cases hZ:Val.checkZ (.mk k n w vi vy)=0
 rotate_left
 ·obtain ⟨Z,hZZ⟩:∃ Z,Val.checkZ (.mk k n w vi vy)=Z:=⟨_,rfl⟩
  rw [hZZ] at cc hZ hq
  have e1:(Z != 0)=true:=by simp [hZ]
  rw [if_pos hZ] at hq
  subst hq
  refine runx0 (ai hTy' e1) (ai cm (ai ck (ai ct (ai cc ti)))) ?_
  exact ⟨_,le_refl _,rfl⟩
 rw [hZ] at cc
 rw [if_neg (by simp [hZ])] at hq
 have hkd:Sf.V.kind (.mk k n w vi vy)=k:=rfl
 rw [hkd] at hq
 by_cases h5:k=5
 rotate_left
 ·have e1:(k != 5)=true:=by simp [h5]
  rw [if_pos h5] at hq
  subst hq
  refine runx0 (ai hTy' e1) (ai cm (ai ck (ai ct (ai cc ti)))) ?_
  exact ⟨_,le_refl _,rfl⟩
 have e1:(k != 5)=false:=by simp [h5]
 rw [if_neg (by simp [h5])] at hq
 cases hN:Sf.known (.mk k n w vi vy) with
 | false =>
  rw [hN] at cn hq
  rw [if_pos (by decide)] at hq
  subst hq
  refine runx0 (ai hTy' e1) (ai cm (ai ck (ai ct (ai cc (ai cn ti))))) ?_
  exact ⟨_,le_refl _,rfl⟩
 | true =>
 rw [hN] at cn hq
 rw [if_neg (by decide)] at hq
 by_cases hv:v < 1∨9007199254740992 < v
 ·have e2:(decide (v < 1)||decide (v > 9007199254740992))=true:=by simpa using hv
  rw [if_pos hv] at hq
  subst hq
  refine runx0 (ai hTy' (ai e1 e2)) (ai cm (ai ck (ai ct (ai cc (ai cn ti))))) ?_
  exact ⟨_,le_refl _,rfl⟩
 have e2:(decide (v < 1)||decide (v > 9007199254740992))=false:=by simp; omega
 rw [if_neg hv] at hq
 cases hD:Sf.depsB none ds with
 | false =>
  rw [hD] at cd hq
  have:q=1:=by rw [←hq]; rfl
  subst this
  refine runx0 (ai hTy' (ai e1 e2)) (ai cm (ai ck (ai ct (ai cc (ai cn (ai cd ti)))))) ?_
  exact ⟨_,le_refl _,rfl⟩
 | true =>
  rw [hD] at cd hq
  have:q=0:=by rw [←hq]; rfl
  subst this
  refine runx0 (ai hTy' (ai e1 e2)) (ai cm (ai ck (ai ct (ai cc (ai cn (ai cd ti)))))) ?_
  exact ⟨_,le_refl _,rfl⟩
theorem a_r31pend (p:Sf.Pend) (ha:p.addr.length≤2000000) (hk:p.tok.length≤2000000) (h:Hp):ACall Tryz.prog GT 180 [.agg p.cells] h fun r h'=>r = .int .i64 (if Sf.pendB p=true then 0 else 1)∧h'=h:=by
 have cm:=a_r31managed p.addr ha
 have ct:=a_r31text p.tok hk
 unfold Sf.pendB
 rw [managed_M]
 obtain ⟨a,ty,tok⟩:=p
 dsimp only at cm ct ⊢
 refine pcall ?_ rfl (by simp [A.pure,A.data,Sf.Pend.cells]) h
 refine acall_of mixedT h_r31pend (by simp [c_r31pend]) ?_
 dsimp only [c_r31pend,Sf.Pend.cells]
 obtain ⟨T,hT⟩:∃ T,(Adr.parse a).1.type=T:=⟨_,rfl⟩
 rw [hT] at cm ⊢
 have hTy:(ty != T)=!(T == ty):=ne_flip ty T
 obtain ⟨b,hb⟩:∃ b,(T == ty)=b:=⟨_,rfl⟩
 rw [hb] at hTy ⊢
 obtain ⟨c,hc⟩:∃ c,Sf.text tok=c:=⟨_,rfl⟩
 obtain ⟨e,he⟩:∃ e,isM a=e:=⟨_,rfl⟩
 rw [hc] at ct ⊢
 rw [he] at cm ⊢
 cases c <;> cases e <;> cases b <;> ((refine runx0 hTy (ai cm (ai ct ti)) ?_); exact ⟨_,le_refl _,rfl⟩)
theorem a_r31outp (o:Sf.Outp) (hn:o.name.length≤2000000) (hl:o.value.lens) (h:Hp):ACall Tryz.prog GT 210 [.agg o.cells] h fun r h'=>r = .int .i64 (Sf.outZ o)∧h'=h:=by
 have ci:=a_r6ident o.name hn
 have cc:=a_rCheck o.value hl
 have cn:=a_r7known o.value hl
 obtain ⟨q,hq⟩:∃ q,Sf.outZ o=q:=⟨_,rfl⟩
 rw [hq]
 unfold Sf.outZ at hq
 obtain ⟨nm,⟨k,n,w,vi,vy⟩,sn⟩:=o
 dsimp only at ci hq
 simp only [V.A,V.cells] at cc cn
 refine pcall ?_ rfl (by simp [A.pure,A.data,Sf.Outp.cells]) h
 refine acall_of mixedT h_r31outp (by simp [c_r31outp]) ?_
 dsimp only [c_r31outp,Sf.Outp.cells]
 cases hI:Adr.ident nm with
 | false =>
  rw [hI] at ci hq
  rw [if_pos (by decide)] at hq
  subst hq
  refine runx0 ti (ai ci ti) ?_
  exact ⟨_,le_refl _,rfl⟩
 | true =>
 rw [hI] at ci hq
 rw [if_neg (by decide)] at hq
 by_cases hZ:Val.checkZ (.mk k n w vi vy)=0
 rotate_left
 ·obtain ⟨Z,hZZ⟩:∃ Z,Val.checkZ (.mk k n w vi vy)=Z:=⟨_,rfl⟩
  rw [hZZ] at cc hZ hq
  have e1:(Z != 0)=true:=by simp [hZ]
  rw [if_pos hZ] at hq
  subst hq
  refine runx0 e1 (ai ci (ai cc ti)) ?_
  exact ⟨_,le_refl _,rfl⟩
 rw [hZ] at cc
 rw [if_neg (by simp [hZ])] at hq
 cases hN:Sf.known (.mk k n w vi vy) with
 | false =>
  rw [hN] at cn hq
  rw [if_pos (by decide)] at hq
  subst hq
  refine runx0 ti (ai ci (ai cc (ai cn ti))) ?_
  exact ⟨_,le_refl _,rfl⟩
 | true =>
  rw [hN] at cn hq
  rw [if_neg (by decide)] at hq
  subst hq
  refine runx0 ti (ai ci (ai cc (ai cn ti))) ?_
  exact ⟨_,le_refl _,rfl⟩
def beforeZ (a d:List UInt8) (y:Sf.Inst):Int:=if a=y.addr then cmpB d y.dep else cmpB a y.addr
theorem a_r31before (a d:List UInt8) (y:Sf.Inst) (h:Hp):ACall Tryz.prog GT 179 [.str a,.str d,.agg y.cells] h fun r h'=>r = .int .i64 (beforeZ a d y)∧h'=h:=by
 have c1:=a_r7bytes a y.addr
 have c2:=a_r7bytes d y.dep
 unfold beforeZ
 obtain ⟨a',d',id,ty,⟨k,n,w,vi,vy⟩,v,tn,fi,ds⟩:=y
 dsimp only at c1 c2 ⊢
 refine pcall ?_ rfl (by simp [A.pure,A.data,Sf.Inst.cells]) h
 refine acall_of mixedT h_r31before (by simp [c_r31before]) ?_
 dsimp only [c_r31before,Sf.Inst.cells]
 by_cases he:a=a'
 ·have e1:(a != a')=false:=by simp [he]
  rw [if_pos he]
  refine runx0 e1 (ai c2 ti) ?_
  exact ⟨_,le_refl _,rfl⟩
 ·have e1:(a != a')=true:=by simp [he]
  rw [if_neg he]
  refine runx0 e1 (ai c1 ti) ?_
  exact ⟨_,le_refl _,rfl⟩
theorem cmp_pos (a b:List UInt8):decide (cmpB a b≤0)=!bytesLess b a:=by
 have h1:=Val.less_total a b
 unfold cmpB
 cases hl:bytesLess a b with
 | true =>
  rw [if_pos rfl]
  have h2:=Val.less_total b a
  rw [hl] at h2
  rw [h2]
  rfl
 | false =>
  rw [if_neg (by decide)]
  by_cases he:a=b
  ·subst he
   rw [if_pos rfl,Val.less_irrefl]
   rfl
  ·rw [if_neg he]
   rw [hl] at h1
   have:(b == a)=false:=by simpa using fun h=>he h.symm
   rw [this,Bool.or_false] at h1
   rw [←h1]
   rfl
theorem before_behind (x y:Sf.Inst):decide (beforeZ x.addr x.dep y≤0)=!Sf.behind y x:=by
 unfold beforeZ Sf.behind
 by_cases he:x.addr=y.addr
 ·rw [if_pos he,cmp_pos,he,Val.less_irrefl]
  simp
 ·rw [if_neg he,cmp_pos]
  have:(y.addr == x.addr)=false:=by simpa using fun h=>he h.symm
  rw [this,Bool.false_and,Bool.or_false]
def c_r31outs:AX.AFn:=⟨35,aS [aR 2 (.mv (aI 0))] (.seq (aS [aR 3 (.mv (aI 0))] (.block 0 (.loop (.seq (aS [aM 5 3,aM 6 0,aR 7 (.len false (.t 6)),aR 8 (.bin .lss (.t 5) (.t 7))] (.cond (.t 8) (.skip) (.exit 0))) (.seq (.block 1 (.seq (aS [aM 11 0,aM 12 3,aR 13 (.iaddr 7 (.t 11) (.t 12)),aR 14 (.load true 7 (.t 13)),aR 15 (.call 210 [.t 14]),aM 4 15] (aS [aM 16 4,aR 17 (.bin .neq (.t 16) (aI 0))] (.cond (.t 17) (aS [aM 18 4,aM 2 18] (.ret)) (.skip)))) (.seq (.reg true [aM 19 3,⟨some 20,.bin .gtr (.t 19) (aI 0),none,[0]⟩,⟨some 21,.mv (.t 20),none,[1]⟩,⟨some 22,.mv (.t 0),some (21,true),[2]⟩,⟨some 23,.mv (.t 3),some (21,true),[2]⟩,⟨some 24,.bin .sub (.t 23) (aI 1),some (21,true),[4,2]⟩,⟨some 25,.iaddr 7 (.t 22) (.t 24),some (21,true),[3,5,2]⟩,⟨some 26,.faddr 0 (.t 25),some (21,true),[6,2]⟩,⟨some 27,.load false 1 (.t 26),some (21,true),[7,2]⟩,⟨some 28,.mv (.t 0),some (21,true),[2]⟩,⟨some 29,.mv (.t 3),some (21,true),[2]⟩,⟨some 30,.iaddr 7 (.t 28) (.t 29),some (21,true),[9,10,2]⟩,⟨some 31,.faddr 0 (.t 30),some (21,true),[11,2]⟩,⟨some 32,.load false 1 (.t 31),some (21,true),[12,2]⟩,⟨some 33,.bin .geq (.t 27) (.t 32),some (21,true),[8,13,2]⟩,⟨some 34,.pick (.t 21) (.t 33) (.c (.bool false)),none,[2,14]⟩]) (.cond (.t 34) (aS [aR 2 (.mv (aI 1))] (.ret)) (.skip))))) (.reg false [aM 9 3,aR 10 (.bin .add (.t 9) (aI 1)),aM 3 10])))))) (aS [aR 2 (.mv (aI 0))] (.ret))),[.t 2]⟩
theorem h_r31outs:AX.compFn Tryz.prog 181=some c_r31outs:=by kernel_rfl
theorem row_end6 {α:Type} (f:α→List A) (l:List α) (i:Nat) (h:l.length≤i):(l.map f).length=l.length∧¬ (i:Int) < (l.length:Int):=⟨List.length_map _,by omega⟩
def prevG {α:Type} (l:List α):Nat→Option α
 | 0=>none
 | j+1=>l[j]?
theorem prevG_succ {α:Type} (l:List α) (j:Nat) (h:j < l.length):prevG l (j+1)=some l[j]:=List.getElem?_eq_getElem h
theorem row_before {α:Type} (f:α→List A) (l:List α) (i:Nat) (h:i+1 < l.length) (hl:l.length≤4611686018427387904) :
  ((i+1:Nat):Int) > 0∧IntKind.i64.wrap (((i+1:Nat):Int) - 1)=(i:Int)∧(i:Int) < (l.length:Int)∧(0:Int)≤(i:Int)∧(l.map f).getD i []=f (l[i]'(by omega)):=
 ⟨by omega,by rw [wrap64 (by omega) (by omega)]; omega,by omega,by omega,map_getD f l i (by omega)⟩
theorem a_r31outs (l:List Sf.Outp) (hn:l.length≤1000000000) (ho:∀ o∈l,o.name.length≤2000000∧o.value.lens) (h:Hp):ACall Tryz.prog GT 181 [.sl 7 .no (l.map Sf.Outp.cells)] h fun r h'=>r = .int .i64 (Sf.outsZ none l)∧h'=h:=by
 refine pcall ?_ rfl (by simp [A.pure,A.data]) h
 refine acall_of mixedT h_r31outs (by simp [c_r31outs]) ?_
 dsimp only [c_r31outs]
 obtain ⟨q,hq⟩:∃ q,Sf.outsZ none l=q:=⟨_,rfl⟩
 rw [hq]
 refine runx0 ti ti ?_
 refine awp_loop (fun m ts hh=>hh=⟨[],[]⟩∧∃ j:Nat,m=l.length - j∧j≤l.length∧Sf.outsZ ((prevG l j).map Sf.Outp.name) (l.drop j)=q∧(ts 0 = .sl 7 .no (l.map Sf.Outp.cells)∧ts 3 = .int .i64 (j:Nat))) l.length ?_ ?_
 ·exact ⟨rfl,0,rfl,Nat.zero_le _,hq,by (exact inv0 ti)⟩
 rintro m ts hh ⟨rfl,j,rfl,hj,hd,ht⟩
 rcases Nat.lt_or_ge j l.length with hlt | hge
 ·have hf:=row_at6 Sf.Outp.cells l j hlt (by omega)
  have hox:=ho _ (List.getElem_mem hlt)
  rw [List.drop_eq_getElem_cons hlt] at hd
  unfold Sf.outsZ at hd
  have hnx:=prevG_succ l j hlt
  obtain ⟨x,hx⟩:∃ x,l[j]=x:=⟨_,rfl⟩
  rw [hx] at hf hox hd hnx
  have co:=a_r31outp x hox.1 hox.2
  obtain ⟨Z,hZ⟩:∃ Z,Sf.outZ x=Z:=⟨_,rfl⟩
  rw [hZ] at co hd
  have hxn:(some x).map Sf.Outp.name=some x.name:=rfl
  obtain ⟨nm,⟨k,n,w,vi,vy⟩,sn⟩:=x
  dsimp only [Sf.Outp.cells] at hf co hd hxn
  by_cases hz:Z=0
  rotate_left
  ·have e1:(Z != 0)=true:=by simp [hz]
   rw [if_pos hz] at hd
   subst hd
   refine runx0 (ai ht (ai hf e1)) (ai co ti) ?_
   exact ⟨_,le_refl _,rfl⟩
  have e1:(Z != 0)=false:=by simp [hz]
  rw [if_neg (by simp [hz])] at hd
  cases j with
  | zero =>
   have z0:¬ ((0:Nat):Int) > 0:=by decide
   have hd':Sf.outsZ (some nm) (l.drop 1)=q:=hd
   refine runx0 (ai ht (ai hf (ai e1 z0))) (ai co ti) ?_
   exact ⟨l.length - 1,by omega,rfl,1,rfl,by omega,by rw [hnx]; exact hd',by (exact inv0 (ai ht hf))⟩
  | succ i =>
   have hb:=row_before Sf.Outp.cells l i hlt (by omega)
   rw [prevG_succ l i (by omega)] at hd
   obtain ⟨y,hy⟩:∃ y,l[i]=y:=⟨_,rfl⟩
   rw [hy] at hb hd
   obtain ⟨nm2,⟨k2,n2,w2,vi2,vy2⟩,sn2⟩:=y
   dsimp only [Sf.Outp.cells,Option.map_some] at hb hd
   replace hd:(if (!bytesLess nm2 nm)=true then (1:Int) else Sf.outsZ (some nm) (l.drop (i+1+1)))=q:=hd
   cases hB:bytesLess nm2 nm with
   | false =>
    rw [hB,if_pos (by decide)] at hd
    subst hd
    refine runx0 (ai ht (ai hf (ai e1 (ai hb hB)))) (ai co ti) ?_
    exact ⟨_,le_refl _,rfl⟩
   | true =>
    rw [hB,if_neg (by decide)] at hd
    refine runx0 (ai ht (ai hf (ai e1 (ai hb hB)))) (ai co ti) ?_
    exact ⟨_,by omega,rfl,i+1+1,rfl,by omega,by rw [hnx]; exact hd,by (exact inv0 (ai ht hf))⟩
 ·have hf:=row_end6 Sf.Outp.cells l j hge
  rw [List.drop_of_length_le hge] at hd
  unfold Sf.outsZ at hd
  subst hd
  refine runx0 (ai ht hf) ti ?_
  exact ⟨_,le_refl _,rfl⟩
theorem a_r31check (st:Sf.St) (hin:Sf.StIn st) (htp:Sf.TypIn st) (h:Hp):ACall Tryz.prog GT 144 [st.A] h fun r h'=>r = .int .i64 (Sf.checkZ st)∧h'=h:=by
 obtain ⟨lin,ser,ins,ps,os⟩:=st
 obtain ⟨hl,hi,hp,ho,hni,hnp,hno⟩:=hin
 dsimp only at hl hi hp ho hni hnp hno
 have hti:=htp.insts
 have htp':=htp.pends
 dsimp only at hti htp'
 have ct:=a_r31text lin (by omega)
 have co:=a_r31outs os hno ho
 obtain ⟨q,hq⟩:∃ q,Sf.checkZ ⟨lin,ser,ins,ps,os⟩=q:=⟨_,rfl⟩
 rw [hq]
 unfold Sf.checkZ at hq
 dsimp only at hq
 obtain ⟨N,hN⟩:∃ N,Sf.instsZ none ins=N:=⟨_,rfl⟩
 obtain ⟨P,hP⟩:∃ P,Sf.pendsZ none ps=P:=⟨_,rfl⟩
 rw [hN,hP] at hq
 refine pcall ?_ rfl (by simp [A.pure,A.data,Sf.St.A]) h
 refine fo ?_
 dsimp only [Sf.St.A]
 have li:(ins.map Sf.Inst.cells).length=ins.length∧(ps.map Sf.Pend.cells).length=ps.length∧(os.map Sf.Outp.cells).length=os.length:=⟨List.length_map _,List.length_map _,List.length_map _⟩
 cases hT:Sf.text lin with
 | false =>
  rw [hT] at ct hq
  rw [if_pos (by decide)] at hq
  subst hq
  refine runx0 ti (ai ct ti) ?_
  exact ⟨_,le_refl _,rfl⟩
 | true =>
 rw [hT] at ct hq
 rw [if_neg (by decide)] at hq
 by_cases hs:ser < 0∨9007199254740992 < ser
 ·have e1:(decide (ser < 0)||decide (ser > 9007199254740992))=true:=by simpa using hs
  rw [if_pos hs] at hq
  subst hq
  refine runx0 e1 (ai ct ti) ?_
  exact ⟨_,le_refl _,rfl⟩
 have e1:(decide (ser < 0)||decide (ser > 9007199254740992))=false:=by simp; omega
 rw [if_neg hs] at hq
 by_cases hm:512 < ins.length∨512 < ps.length∨512 < os.length
 ·have e2:(decide ((ins.length:Int) > 512)||decide ((ps.length:Int) > 512)||decide ((os.length:Int) > 512))=true:=by simp; omega
  rw [if_pos hm] at hq
  subst hq
  refine runx0 (ai e1 (ai li e2)) (ai ct ti) ?_
  exact ⟨_,le_refl _,rfl⟩
 have e2:(decide ((ins.length:Int) > 512)||decide ((ps.length:Int) > 512)||decide ((os.length:Int) > 512))=false:=by simp; omega
 rw [if_neg hm] at hq
 refine runx0 (ai e1 (ai li e2)) (ai ct ti) ?_
 refine awp_loop (fun m ts hh=>∃ (j:Nat) (l:List Blk),m=ins.length - j∧j≤ins.length∧hh=⟨.cells 27 [.str lin,.int .i64 ser,.sl 13 .no (ins.map Sf.Inst.cells),.sl 3 .no (ps.map Sf.Pend.cells),.sl 7 .no (os.map Sf.Outp.cells)]::l,[]⟩ ∧
  Sf.instsZ (prevG ins j) (ins.drop j)=N∧(ts 1 = .ptr 0 0∧ts 3 = .int .i64 (j:Nat))) ins.length ?_ ?_
 ·exact ⟨0,[],rfl,Nat.zero_le _,rfl,hN,by (exact inv0 ti)⟩
 rintro m ts hh ⟨j,l,rfl,hj,rfl,hd,ht⟩
 rcases Nat.lt_or_ge j ins.length with hlt | hge
 ·have hf:=row_at6 Sf.Inst.cells ins j hlt (by omega)
  have hix:=hi _ (List.getElem_mem hlt)
  have htx:=hti _ (List.getElem_mem hlt)
  rw [List.drop_eq_getElem_cons hlt] at hd
  unfold Sf.instsZ at hd
  have hnx:=prevG_succ ins j hlt
  obtain ⟨x,hx⟩:∃ x,ins[j]=x:=⟨_,rfl⟩
  rw [hx] at hf hix htx hd hnx
  have ci:=a_r31inst x hix htx
  have cb:=fun y=>a_r31before x.addr x.dep y
  have hbf:=before_behind x
  obtain ⟨Z,hZ⟩:∃ Z,Sf.instZ x=Z:=⟨_,rfl⟩
  rw [hZ] at ci hd
  obtain ⟨x',hx'⟩:∃ x',x'=x:=⟨_,rfl⟩
  rw [←hx'] at hd hnx hbf
  obtain ⟨a,d,id,ty,⟨k,n,w,vi,vy⟩,v,tn,fi,ds⟩:=x
  have hxa:x'.addr=a∧x'.dep=d:=by rw [hx']; exact ⟨rfl,rfl⟩
  rw [hxa.1,hxa.2] at hbf
  dsimp only [Sf.Inst.cells] at hf ci cb
  by_cases hz:Z=0
  rotate_left
  ·have e3:(Z != 0)=true:=by simp [hz]
   rw [if_pos hz] at hd
   have:q=Z:=by rw [←hq,←hd,if_pos hz]
   subst this
   refine runx0 (ai ht (ai hf (ai li e3))) (ai ci ti) ?_
   exact ⟨_,le_refl _,rfl⟩
  have e3:(Z != 0)=false:=by simp [hz]
  rw [if_neg (by simp [hz])] at hd
  cases j with
  | zero =>
   have z0:¬ ((0:Nat):Int) > 0:=by decide
   have hd':Sf.instsZ (some x') (ins.drop 1)=N:=hd
   refine runx0 (ai ht (ai hf (ai li (ai e3 z0)))) (ai ci ti) ?_
   exact ⟨ins.length - 1,by omega,1,_,rfl,by omega,rfl,by rw [hnx]; exact hd',by (exact inv0 (ai ht hf))⟩
  | succ i =>
   have hb:=row_before Sf.Inst.cells ins i hlt (by omega)
   rw [prevG_succ ins i (by omega)] at hd
   obtain ⟨y,hy⟩:∃ y,ins[i]=y:=⟨_,rfl⟩
   rw [hy] at hb hd
   have cby:=cb y
   have hbfy:=hbf y
   replace hd:(if (!Sf.behind y x')=true then (1:Int) else Sf.instsZ (some x') (ins.drop (i+1+1)))=N:=hd
   obtain ⟨B,hBB⟩:∃ B,beforeZ a d y=B:=⟨_,rfl⟩
   rw [hBB] at cby hbfy
   obtain ⟨bh,hbh⟩:∃ b,Sf.behind y x'=b:=⟨_,rfl⟩
   rw [hbh] at hd hbfy
   obtain ⟨a2,d2,id2,ty2,⟨k2,n2,w2,vi2,vy2⟩,v2,tn2,fi2,ds2⟩:=y
   dsimp only [Sf.Inst.cells] at hb cby
   cases bh with
   | false =>
    rw [if_pos (by decide)] at hd
    have hb0:B≤0:=by simpa using hbfy
    have:q=1:=by rw [←hq,←hd]; rfl
    subst this
    refine runx0 (ai ht (ai hf (ai li (ai e3 (ai hb hb0))))) (ai ci (ai cby ti)) ?_
    exact ⟨_,le_refl _,rfl⟩
   | true =>
    rw [if_neg (by decide)] at hd
    have hb0:¬ B≤0:=by simpa using hbfy
    refine runx0 (ai ht (ai hf (ai li (ai e3 (ai hb hb0))))) (ai ci (ai cby ti)) ?_
    exact ⟨_,by omega,i+1+1,_,rfl,by omega,rfl,by rw [hnx]; exact hd,by (exact inv0 (ai ht hf))⟩
 have hf:=row_end6 Sf.Inst.cells ins j hge
 rw [List.drop_of_length_le hge] at hd
 unfold Sf.instsZ at hd
 rw [←hd,if_neg (by simp)] at hq
 refine runx0 (ai ht (ai hf li)) ti ?_
 refine awp_loop (fun m ts hh=>∃ (j:Nat),m=ps.length - j∧j≤ps.length∧hh=⟨.cells 27 [.str lin,.int .i64 ser,.sl 13 .no (ins.map Sf.Inst.cells),.sl 3 .no (ps.map Sf.Pend.cells),.sl 7 .no (os.map Sf.Outp.cells)]::l,[]⟩ ∧
  Sf.pendsZ ((prevG ps j).map Sf.Pend.tok) (ps.drop j)=P∧(ts 1 = .ptr 0 0∧ts 6 = .int .i64 (j:Nat))) ps.length ?_ ?_
 ·exact ⟨0,rfl,Nat.zero_le _,rfl,hP,by (exact inv0 ht)⟩
 rintro m ts' hh ⟨j',rfl,hj',rfl,hd',hu⟩
 rcases Nat.lt_or_ge j' ps.length with hlt | hge'
 ·have hf:=row_at6 Sf.Pend.cells ps j' hlt (by omega)
  have hpx:=hp _ (List.getElem_mem hlt)
  rw [List.drop_eq_getElem_cons hlt] at hd'
  unfold Sf.pendsZ at hd'
  have hnx:=prevG_succ ps j' hlt
  obtain ⟨x,hx⟩:∃ x,ps[j']=x:=⟨_,rfl⟩
  rw [hx] at hf hpx hd' hnx
  have cp:=a_r31pend x hpx.1 hpx.2
  obtain ⟨b,hb⟩:∃ b,Sf.pendB x=b:=⟨_,rfl⟩
  rw [hb] at cp hd'
  obtain ⟨a,ty,tok⟩:=x
  dsimp only [Sf.Pend.cells] at hf cp hd'
  cases b with
  | false =>
   rw [if_neg (by decide)] at cp
   rw [Bool.not_false,Bool.true_or,if_pos rfl] at hd'
   have:q=1:=by rw [←hq,←hd']; rfl
   subst this
   refine runx0 (ai hu (ai hf li)) (ai cp ti) ?_
   exact ⟨_,le_refl _,rfl⟩
  | true =>
  rw [if_pos rfl] at cp
  rw [Bool.not_true,Bool.false_or] at hd'
  cases j' with
  | zero =>
   have z0:¬ ((0:Nat):Int) > 0:=by decide
   have hd2:Sf.pendsZ (some tok) (ps.drop 1)=P:=hd'
   refine runx0 (ai hu (ai hf (ai li z0))) (ai cp ti) ?_
   exact ⟨ps.length - 1,by omega,1,rfl,by omega,rfl,by rw [hnx]; exact hd2,by (exact inv0 (ai hu hf))⟩
  | succ i =>
   have hbr:=row_before Sf.Pend.cells ps i hlt (by omega)
   rw [prevG_succ ps i (by omega)] at hd'
   obtain ⟨y,hy⟩:∃ y,ps[i]=y:=⟨_,rfl⟩
   rw [hy] at hbr hd'
   obtain ⟨a2,ty2,tok2⟩:=y
   dsimp only [Sf.Pend.cells,Option.map_some] at hbr hd'
   replace hd':(if (!bytesLess tok2 tok)=true then (1:Int) else Sf.pendsZ (some tok) (ps.drop (i+1+1)))=P:=hd'
   cases hB:bytesLess tok2 tok with
   | false =>
    rw [hB,if_pos (by decide)] at hd'
    have:q=1:=by rw [←hq,←hd']; rfl
    subst this
    refine runx0 (ai hu (ai hf (ai li (ai hbr hB)))) (ai cp ti) ?_
    exact ⟨_,le_refl _,rfl⟩
   | true =>
    rw [hB,if_neg (by decide)] at hd'
    refine runx0 (ai hu (ai hf (ai li (ai hbr hB)))) (ai cp ti) ?_
    exact ⟨_,by omega,i+1+1,rfl,by omega,rfl,by rw [hnx]; exact hd',by (exact inv0 (ai hu hf))⟩
 ·have hf':=row_end6 Sf.Pend.cells ps j' hge'
  rw [List.drop_of_length_le hge'] at hd'
  unfold Sf.pendsZ at hd'
  rw [←hd',if_neg (by simp)] at hq
  rw [hq] at co
  refine runx0 (ai hu (ai hf' li)) (ai co ti) ?_
  exact ⟨_,le_refl _,rfl⟩
end AX
end Go.Proofs.YtahmpiioegemaaaGreatDoor
