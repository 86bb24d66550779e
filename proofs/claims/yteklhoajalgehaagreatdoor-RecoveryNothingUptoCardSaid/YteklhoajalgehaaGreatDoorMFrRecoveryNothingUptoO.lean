/- Part of what the proof needs. -/
import Derived.Test.YteklhoajalgehaaGreatDoorMFrRecoveryNothingUptoI
import Derived.Test.YteklhoajalgehaaGreatDoorMFrRecoveryNothingUptoL
import Derived.Test.YteklhoajalgehaaGreatDoorMFrRecoveryNothingUptoM
import Derived.Test.YteklhoajalgehaaGreatDoorMFrRecoveryNothingUptoN
set_option maxHeartbeats 4000000
set_option linter.unusedSimpArgs false
set_option linter.unusedVariables false
set_option linter.unnecessarySimpa false
namespace Go.Proofs.YteklhoajalgehaaGreatDoor
open Go.RowKit
namespace AX
def c_wflag : AX.AFn:=⟨9,aS [aR 4 (.mv (aI 0))] (.seq (aS [aM 5 1] (.cond (.t 5) (.reg false [aR 4 (.mv (aI 1))]) (.skip))) (.reg false [aM 6 0,aM 7 4,aR 8 (.call 266 [.t 6,.t 7])])),[]⟩
theorem h_wflag : AX.compFn Tryz.prog 269 = some c_wflag:=by kernel_rfl
theorem wtr_loc (ver : Int) (l : List UInt8) : (wtr ver l).loc 0:=by
 intro o x h
 simp only [wtr] at h
 split at h
 ·injection h with h; subst h; rfl
 ·cases h
theorem liftW {f : FuncId} {args : List A} {ver : Int} {l l' : List UInt8} (hl' : l' ≠ []) (hc : ACall Tryz.prog GT f (.ptr 0 0 :: args) ⟨[wtr ver l],[]⟩ fun u h' => u = .tup [] ∧ WP 0 ver l' ⟨[wtr ver l],[]⟩ h') (ha : A.locL 0 args = true) {h : Hp} {i : Nat} (hb : h.b[i]? = some (wtr ver l)) :
  ACall Tryz.prog GT f (.ptr i 0 :: args) h fun u h' => u = .tup [] ∧ h' = ⟨h.b.set i (wtr ver l'),h.t⟩:=by
 have h1 : ACall Tryz.prog GT f (.ptr 0 0 :: args) ⟨[wtr ver l],[]⟩ fun u h' => ∃ b',h'.b[0]? = some b' ∧ u = .tup [] ∧ b' = wtr ver l':=hc.mono fun u h' ⟨e,hp⟩ => ⟨wtr ver l',WP.bx hp hl',e,rfl⟩
 refine (ACall.lift1 h1 ha (wtr_loc ver l) ?_ hb).mono ?_
 ·rintro u b' ⟨rfl,rfl⟩
  exact ⟨rfl,wtr_loc ver l'⟩
 ·rintro u h' ⟨b',⟨rfl,rfl⟩,rfl⟩
  exact ⟨rfl,rfl⟩
theorem num_ne (n : Int) : Wire.num n ≠ []:=by
 have:=(Wire.encF_len 9 (Wire.zig n)).1
 intro e
 have h : (Wire.num n).length = 0:=by rw [e]; rfl
 unfold Wire.num at h
 omega
theorem app_ne {a b : List UInt8} (h : b ≠ []) : a ++ b ≠ []:=by simp [h]
theorem wn {h : Hp} {i : Nat} {ver : Int} {l : List UInt8} (hb : h.b[i]? = some (wtr ver l)) (n : Int) (hlen : l.length + 10 ≤ 1000000000) (h0 : -9223372036854775808 ≤ n) (h1 : n ≤ 9223372036854775807) :
  ACall Tryz.prog GT 266 [.ptr i 0,.int .i64 n] h fun u h' => u = .tup [] ∧ h' = ⟨h.b.set i (wtr ver (l ++ Wire.num n)),h.t⟩:=
 liftW (app_ne (num_ne n)) (a_wnum (h:=⟨[wtr ver l],[]⟩) (.inl rfl) n hlen h0 h1) rfl hb
theorem wf {h : Hp} {i : Nat} {ver : Int} {l : List UInt8} (hb : h.b[i]? = some (wtr ver l)) (b : Bool) (hlen : l.length + 10 ≤ 1000000000) :
  ACall Tryz.prog GT 269 [.ptr i 0,.bool b] h fun u h' => u = .tup [] ∧ h' = ⟨h.b.set i (wtr ver (l ++ Sf.flagE b)),h.t⟩:=by
 refine acall_of mixedT h_wflag (by simp [c_wflag]) ?_
 dsimp only [c_wflag]
 cases b
 ·refine run0 ti ?_
  refine use (wn hb _ hlen (by decide) (by decide)) ?_
  refine run0 ti ?_
  exact ⟨_,le_refl _,rfl,rfl⟩
 ·refine run0 ti ?_
  refine use (wn hb _ hlen (by decide) (by decide)) ?_
  refine run0 ti ?_
  exact ⟨_,le_refl _,rfl,rfl⟩
theorem map_getD {α : Type} (f : α → List A) (l : List α) (j : Nat) (hj : j < l.length) : (l.map f).getD j [] = f l[j]:=by simp [List.getD,hj]
def c_stext : AX.AFn:=⟨9,aS [aR 2 (.mv (.c (.bool false)))] (aS [aM 3 0,aR 4 (.bin .neq (.t 3) (.c (.str []))),aM 5 4,aG 6 (.mv (.t 0)) 5 true,aG 7 (.call 85 [.t 6]) 5 true,aR 8 (.pick (.t 5) (.t 7) (.c (.bool false))),aM 2 8] (.ret)),[.t 2]⟩
theorem h_stext : AX.compFn Tryz.prog 103 = some c_stext:=by kernel_rfl
def c_scheck : AX.AFn:=⟨128,aS [aR 1 (.box 39 (.t 0)),aR 2 (.mv (aI 0))] (.seq (aS [aF 11 0 1,aL 12 11,aR 13 (.call 103 [.t 12]),aR 14 (.un .not (.t 13))] (.cond (.t 14) (aS [aR 2 (.mv (aI 1))] (.ret)) (.skip))) (.seq (aS [aF 15 1 1,aL 16 15,aR 17 (.bin .lss (.t 16) (aI 0)),aM 18 17,aG 19 (.faddr 1 (.t 1)) 18 false,aG 20 (.load false 1 (.t 19)) 18 false,aG 21 (.bin .gtr (.t 20) (aI 9007199254740992)) 18 false,aR 22 (.pick (.t 18) (.c (.bool true)) (.t 21))] (.cond (.t 22) (aS [aR 2 (.mv (aI 5))] (.ret)) (.skip))) (.seq (aS [aF 23 2 1,aL 24 23,aR 25 (.len false (.t 24)),aF 26 3 1,aL 27 26,aR 28 (.len false (.t 27)),aF 29 4 1,aL 30 29,aR 31 (.len false (.t 30)),aR 32 (.max3 (.t 25) (.t 28) (.t 31)),aR 33 (.bin .gtr (.t 32) (aI 512))] (.cond (.t 33) (aS [aR 2 (.mv (aI 14))] (.ret)) (.skip))) (.seq (aS [aF 34 2 1,aL 35 34,aR 36 (.len false (.t 35)),aR 37 (.mv (aI 0))] (.block 0 (.loop (aS [aR 38 (.bin .lss (.t 37) (.t 36))] (.seq (.cond (.t 38) (.skip) (.exit 0)) (.seq (.block 1 (aS [aM 39 37,aR 40 (.iaddr 13 (.t 35) (.t 37)),aR 41 (.load true 13 (.t 40)),aR 4 (.alloc 73 [.str [],.str [],.str [],.str [],.int .i64 0,.int .i64 0,.str [],.sl 0 .nil [],.sl 0 .nil [],.int .i64 0,.bool false,.bool false,.sl 0 .nil []]),aM 3 39,aU (.store 13 (.t 4) (.t 41))] (.seq (aS [aR 42 (.load true 13 (.t 4)),aR 43 (.call 104 [.t 42]),aM 5 43] (aS [aM 44 5,aR 45 (.bin .neq (.t 44) (aI 0))] (.cond (.t 45) (aS [aM 46 5,aM 2 46] (.ret)) (.skip)))) (.seq (.reg true [aM 47 3,⟨some 48,.bin .gtr (.t 47) (aI 0),none,[0]⟩,⟨some 49,.mv (.t 48),none,[1]⟩,⟨some 50,.faddr 2 (.t 1),some (49,true),[2]⟩,⟨some 51,.load false 1 (.t 50),some (49,true),[3,2]⟩,⟨some 52,.mv (.t 3),some (49,true),[2]⟩,⟨some 53,.bin .sub (.t 52) (aI 1),some (49,true),[5,2]⟩,⟨some 54,.iaddr 13 (.t 51) (.t 53),some (49,true),[4,6,2]⟩,⟨some 55,.load true 13 (.t 54),some (49,true),[7,2]⟩,⟨some 56,.call 105 [.t 55],some (49,true),[8,2,2]⟩,⟨some 57,.load true 13 (.t 4),some (49,true),[2]⟩,⟨some 58,.call 105 [.t 57],some (49,true),[10,9,2]⟩,⟨some 59,.call 106 [.t 56,.t 58],some (49,true),[9,11,11,2]⟩,⟨some 60,.bin .geq (.t 59) (aI 0),some (49,true),[12,2]⟩,⟨some 61,.pick (.t 49) (.t 60) (.c (.bool false)),none,[2,13]⟩]) (.cond (.t 61) (aS [aR 2 (.mv (aI 1))] (.ret)) (.skip)))))) (.reg false [aR 62 (.bin .add (.t 37) (aI 1)),aM 37 62]))))))) (.seq (aS [aF 63 3 1,aL 64 63,aR 65 (.len false (.t 64)),aR 66 (.mv (aI 0))] (.block 2 (.loop (aS [aR 67 (.bin .lss (.t 66) (.t 65))] (.seq (.cond (.t 67) (.skip) (.exit 2)) (.seq (.block 3 (aS [aM 68 66,aR 69 (.iaddr 3 (.t 64) (.t 66)),aR 70 (.load true 3 (.t 69)),aR 7 (.alloc 121 [.str [],.str [],.str []]),aM 6 68,aU (.store 3 (.t 7) (.t 70))] (.seq (.reg true [aF 71 2 7,⟨some 72,.load false 1 (.t 71),none,[0]⟩,⟨some 73,.call 103 [.t 72],none,[1]⟩,⟨some 74,.un .not (.t 73),none,[2]⟩,⟨some 75,.mv (.t 74),none,[3,2]⟩,⟨some 76,.faddr 0 (.t 7),some (75,false),[4]⟩,⟨some 77,.load false 1 (.t 76),some (75,false),[5,4]⟩,⟨some 78,.faddr 1 (.t 7),some (75,false),[4]⟩,⟨some 79,.load false 1 (.t 78),some (75,false),[7,4]⟩,⟨some 80,.call 107 [.t 77,.t 79],some (75,false),[6,8,4,4]⟩,⟨some 81,.un .not (.t 80),some (75,false),[9,4]⟩,⟨some 82,.pick (.t 75) (.c (.bool true)) (.t 81),none,[4,10]⟩,⟨some 83,.mv (.t 82),none,[11,9]⟩,⟨some 84,.mv (.t 6),some (83,false),[12]⟩,⟨some 85,.bin .gtr (.t 84) (aI 0),some (83,false),[13,12]⟩,⟨some 86,.mv (.t 85),some (83,false),[14,12,12]⟩,⟨some 87,.faddr 3 (.t 1),some (86,true),[15]⟩,⟨some 88,.load false 1 (.t 87),some (86,true),[16,15]⟩,⟨some 89,.mv (.t 6),some (86,true),[15]⟩,⟨some 90,.bin .sub (.t 89) (aI 1),some (86,true),[18,15]⟩,⟨some 91,.iaddr 3 (.t 88) (.t 90),some (86,true),[17,19,15]⟩,⟨some 92,.faddr 2 (.t 91),some (86,true),[20,15]⟩,⟨some 93,.load false 1 (.t 92),some (86,true),[21,15]⟩,⟨some 94,.faddr 2 (.t 7),some (86,true),[15]⟩,⟨some 95,.load false 1 (.t 94),some (86,true),[23,15]⟩,⟨some 96,.bin .geq (.t 93) (.t 95),some (86,true),[22,24,15]⟩,⟨some 97,.pick (.t 86) (.t 96) (.c (.bool false)),some (83,false),[15,25,12]⟩,⟨some 98,.pick (.t 83) (.c (.bool true)) (.t 97),none,[12,26]⟩]) (.cond (.t 98) (aS [aR 2 (.mv (aI 1))] (.ret)) (.skip))))) (.reg false [aR 99 (.bin .add (.t 66) (aI 1)),aM 66 99]))))))) (.seq (aS [aF 100 4 1,aL 101 100,aR 102 (.len false (.t 101)),aR 103 (.mv (aI 0))] (.block 4 (.loop (aS [aR 104 (.bin .lss (.t 103) (.t 102))] (.seq (.cond (.t 104) (.skip) (.exit 4)) (.seq (.block 5 (aS [aM 105 103,aR 106 (.iaddr 7 (.t 101) (.t 103)),aR 107 (.load true 7 (.t 106)),aR 9 (.alloc 132 [.str [],.int .i64 0,.int .i64 0,.str [],.sl 0 .nil [],.sl 0 .nil [],.bool false]),aM 8 105,aU (.store 7 (.t 9) (.t 107))] (.seq (aS [aR 108 (.load true 7 (.t 9)),aR 109 (.call 108 [.t 108]),aM 10 109] (aS [aM 110 10,aR 111 (.bin .neq (.t 110) (aI 0))] (.cond (.t 111) (aS [aM 112 10,aM 2 112] (.ret)) (.skip)))) (.seq (.reg true [aM 113 8,⟨some 114,.bin .gtr (.t 113) (aI 0),none,[0]⟩,⟨some 115,.mv (.t 114),none,[1]⟩,⟨some 116,.faddr 4 (.t 1),some (115,true),[2]⟩,⟨some 117,.load false 1 (.t 116),some (115,true),[3,2]⟩,⟨some 118,.mv (.t 8),some (115,true),[2]⟩,⟨some 119,.bin .sub (.t 118) (aI 1),some (115,true),[5,2]⟩,⟨some 120,.iaddr 7 (.t 117) (.t 119),some (115,true),[4,6,2]⟩,⟨some 121,.faddr 0 (.t 120),some (115,true),[7,2]⟩,⟨some 122,.load false 1 (.t 121),some (115,true),[8,2]⟩,⟨some 123,.faddr 0 (.t 9),some (115,true),[2]⟩,⟨some 124,.load false 1 (.t 123),some (115,true),[10,2]⟩,⟨some 125,.bin .geq (.t 122) (.t 124),some (115,true),[9,11,2]⟩,⟨some 126,.pick (.t 115) (.t 125) (.c (.bool false)),none,[2,12]⟩]) (.cond (.t 126) (aS [aR 2 (.mv (aI 1))] (.ret)) (.skip)))))) (.reg false [aR 127 (.bin .add (.t 103) (aI 1)),aM 103 127]))))))) (aS [aR 2 (.mv (aI 0))] (.ret)))))))),[.t 2]⟩
theorem h_scheck : AX.compFn Tryz.prog 58 = some c_scheck:=by kernel_rfl
theorem a_stext (s : List UInt8) (hs : s.length ≤ 2000000) (h : Hp) : ACall Tryz.prog GT 103 [.str s] h fun r h' => r = .bool (s != [] && Str.valid s) ∧ h' = h:=by
 refine pcall ?_ rfl (by simp [A.pure,A.data]) h
 refine acall_of mixedT h_stext (by simp [c_stext]) ?_
 dsimp only [c_stext]
 rcases bool_or (s != []) with h1 | h1
 ·refine go0 h1 ?_
  refine gc0 h1 ?_
  refine (a_valid s hs _).mono ?_
  rintro v h1' ⟨rfl,rfl⟩
  refine go0 h1 ?_
  exact ⟨_,le_refl _,by rw [tupA_1,h1]; rfl⟩
 ·refine go0 h1 ?_
  exact ⟨_,le_refl _,by rw [tupA_1,h1]; rfl⟩
theorem a_csAppend (s : List UInt8) (hs : s.length ≤ 1000000000) (h : Hp) : ACall Tryz.prog GT 120 [.str s] h fun v h' => v = .str (Crc.app s) ∧ h' = h:=
 acall_imp (args1 r_str) (fun w hg => append_any ⟨s.toArray⟩ w (by rw [size_mk]; exact hs)) (fun C => rep_str.2 rfl) h
theorem a_csVerify (s : List UInt8) (hs : s.length ≤ 1000000000) (h : Hp) : ACall Tryz.prog GT 96 [.str s] h fun v h' => v = .tup [.str (Crc.ver s).1,.int .i64 (Crc.ver s).2] ∧ h' = h:=
 acall_imp (args1 r_str) (fun w hg => verify_any ⟨s.toArray⟩ w (by rw [size_mk]; exact hs)) (fun C => rep_tup.2 ⟨_,rfl,repL_cons.2 ⟨_,_,rfl,rep_str.2 rfl,repL_cons.2 ⟨_,_,rfl,rep_int.2 rfl,repL_nil.2 rfl⟩⟩⟩) h
def stE : A:=.agg [.str [],.int .i64 0,.sl 0 .nil [],.sl 0 .nil [],.sl 0 .nil []]
end AX
namespace Sf
def zero : St:=⟨[],0,[],[],[]⟩
def encode (ver : Int) (st : St) : List UInt8 × Int:=
 if checkZ st ≠ 0 then ([],checkZ st) else if 1048572 < (stE ver st).length then ([],3) else (Crc.app (stE ver st),0)
def decode (s : List UInt8) : St × Int:=
 if 1048576 < s.length then (zero,3)
 else if AX.preB s = false then (zero,2)
 else if (Crc.ver s).2 ≠ 0 then (zero,20)
 else if (AX.versionS (Crc.ver s).1).2 ≠ 0 then (zero,(AX.versionS (Crc.ver s).1).2)
 else
  let r:=stateS (AX.versionS (Crc.ver s).1).1 ⟨(Wire.numR ⟨(Crc.ver s).1.drop 4,0⟩).1,false⟩
  if r.1.fails || decide (0 < r.1.r.rest.length) || checkZ r.2 != 0 then (zero,2) else (r.2,0)
end Sf
namespace AX
def SCheck (st : Sf.St) : Prop:=∀ h,ACall Tryz.prog GT 58 [st.A] h fun r h' => r = .int .i64 (Sf.checkZ st) ∧ h' = h
end AX
end Go.Proofs.YteklhoajalgehaaGreatDoor

namespace Go.Proofs.YteklhoajalgehaaGreatDoor
open Go.RowKit
open Go.Op (bytesLess)
namespace Adr
def Step.cells (s : Step) : List AX.A:=[.str s.name,.int .i64 s.key.kind,.int .i64 s.key.num,.str s.key.str]
def Ad.cells (a : Ad) : List AX.A:=[.sl 4 .no (a.mods.map Step.cells),.bool a.data,.str a.type,.str a.name,.int .i64 a.key.kind,.int .i64 a.key.num,.str a.key.str]
end Adr
namespace AX
def cmpZ (a b : List UInt8) : Int:=if a == b then 0 else if bytesLess a b then -1 else 1
structure Leafs : Prop where
 parse : ∀ (s : List UInt8),s.length ≤ 2000000 → ∀ h,ACall Tryz.prog GT 183 [.str s] h fun r h' => r = .tup [.agg (Adr.parse s).1.cells,.int .i64 (Adr.parse s).2] ∧ h' = h
 static : ∀ (s : List UInt8),s.length ≤ 2000000 → ∀ h,ACall Tryz.prog GT 234 [.str s] h fun r h' => r = .tup [.str (Adr.static s).1,.int .i64 (Adr.static s).2] ∧ h' = h
 ident : ∀ (s : List UInt8),s.length ≤ 2000000 → ∀ h,ACall Tryz.prog GT 184 [.str s] h fun r h' => r = .bool (Adr.ident s) ∧ h' = h
 num : ∀ (s : List UInt8),s.length ≤ 2000000 → ∀ h,ACall Tryz.prog GT 229 [.str s] h fun r h' => r = .tup [.int .i64 (Num.parse s).1,.int .i64 (Num.parse s).2] ∧ h' = h
 cmp : ∀ (a b : List UInt8) h,ACall Tryz.prog GT 182 [.str a,.str b] h fun r h' => r = .int .i64 (cmpZ a b) ∧ h' = h
 known : ∀ (v : V),v.lens → ∀ h,ACall Tryz.prog GT 179 [v.A] h fun r h' => r = .bool (Sf.known v) ∧ h' = h
 text : ∀ (s : List UInt8),s.length ≤ 2000000 → ∀ h,ACall Tryz.prog GT 103 [.str s] h fun r h' => r = .bool (Sf.text s) ∧ h' = h
def c_smanaged : AX.AFn:=⟨25,aS [aR 4 (.mv (.c (.bool false)))] (aS [aM 8 0,aR 9 (.call 183 [.t 8]),aM 7 9,aE 10 7 0,aE 11 7 1,aR 5 (.alloc 224 [.sl 0 .nil [],.bool false,.str [],.str [],.int .i64 0,.int .i64 0,.str []]),aU (.store 7 (.t 5) (.t 10)),aM 6 11] (aS [aM 12 6,aR 13 (.bin .eql (.t 12) (aI 0)),aM 14 13,aG 15 (.faddr 1 (.t 5)) 14 true,aG 16 (.load false 1 (.t 15)) 14 true,aG 17 (.un .not (.t 16)) 14 true,aR 18 (.pick (.t 14) (.t 17) (.c (.bool false))),aM 19 18,aG 20 (.faddr 2 (.t 5)) 19 true,aG 21 (.load false 1 (.t 20)) 19 true,aG 22 (.mv (.t 1)) 19 true,aG 23 (.bin .eql (.t 21) (.t 22)) 19 true,aR 24 (.pick (.t 19) (.t 23) (.c (.bool false))),aM 4 24] (.ret))),[.t 4]⟩
theorem h_smanaged : AX.compFn Tryz.prog 107 = some c_smanaged:=by kernel_rfl
def c_skey : AX.AFn:=⟨16,aS [aR 2 (.mv (.c (.bool false)))] (aS [aM 6 0,aR 7 (.call 229 [.t 6]),aM 5 7,aE 8 5 0,aE 9 5 1,aM 3 8,aM 4 9] (aS [aM 10 4,aR 11 (.bin .eql (.t 10) (aI 0)),aM 12 11,aG 13 (.mv (.t 3)) 12 true,aG 14 (.bin .geq (.t 13) (aI 1)) 12 true,aR 15 (.pick (.t 12) (.t 14) (.c (.bool false))),aM 2 15] (.ret))),[.t 2]⟩
theorem h_skey : AX.compFn Tryz.prog 177 = some c_skey:=by kernel_rfl
def c_splaceOf : AX.AFn:=⟨8,aS [aR 1 (.box 73 (.t 0)),aR 2 (.alloc 153 [.str [],.str []])] (aS [aF 3 0 1,aL 4 3,aF 5 1 1,aL 6 5,aR 7 (.build [.str [],.str []] [(0,1,.t 4),(1,1,.t 6)]),aU (.store 2 (.t 2) (.t 7))] (.ret)),[.c 2 true 2]⟩
theorem h_splaceOf : AX.compFn Tryz.prog 105 = some c_splaceOf:=by kernel_rfl
def c_sstatics : AX.AFn:=⟨40,aS [aR 2 (.mv (.c (.bool false)))] (.seq (aS [aM 7 0,aR 8 (.len false (.t 7)),aR 9 (.mv (aI 0))] (.block 0 (.loop (aS [aR 10 (.bin .lss (.t 9) (.t 8))] (.seq (.cond (.t 10) (.skip) (.exit 0)) (.seq (.block 1 (aS [aM 11 9,aR 12 (.iaddr 1 (.t 7) (.t 9)),aL 13 12,aM 3 11,aM 4 13] (aS [aM 15 4,aR 16 (.call 234 [.t 15]),aM 14 16,aE 17 14 0,aE 18 14 1,aM 5 17,aM 6 18] (aS [aM 19 6,aR 20 (.bin .neq (.t 19) (aI 0)),aM 21 20,aG 22 (.mv (.t 5)) 21 false,aG 23 (.mv (.t 4)) 21 false,aG 24 (.bin .neq (.t 22) (.t 23)) 21 false,aR 25 (.pick (.t 21) (.c (.bool true)) (.t 24)),aM 26 25,aG 27 (.mv (.t 3)) 26 false,aG 28 (.bin .gtr (.t 27) (aI 0)) 26 false,aG 29 (.mv (.t 28)) 26 false,aG 30 (.mv (.t 4)) 29 true,aG 31 (.mv (.t 0)) 29 true,aG 32 (.mv (.t 3)) 29 true,aG 33 (.bin .sub (.t 32) (aI 1)) 29 true,aG 34 (.iaddr 1 (.t 31) (.t 33)) 29 true,aG 35 (.load false 1 (.t 34)) 29 true,aG 36 (.bin .leq (.t 30) (.t 35)) 29 true,aG 37 (.pick (.t 29) (.t 36) (.c (.bool false))) 26 false,aR 38 (.pick (.t 26) (.c (.bool true)) (.t 37))] (.cond (.t 38) (aS [aR 2 (.mv (.c (.bool false)))] (.ret)) (.skip)))))) (.reg false [aR 39 (.bin .add (.t 9) (aI 1)),aM 9 39]))))))) (aS [aR 2 (.mv (.c (.bool true)))] (.ret))),[.t 2]⟩
theorem h_sstatics : AX.compFn Tryz.prog 180 = some c_sstatics:=by kernel_rfl
def c_soutput : AX.AFn:=⟨18,aS [aR 1 (.box 132 (.t 0)),aR 2 (.mv (aI 0))] (.seq (aS [aF 4 0 1,aL 5 4,aR 6 (.call 184 [.t 5]),aR 7 (.un .not (.t 6))] (.cond (.t 7) (aS [aR 2 (.mv (aI 7))] (.ret)) (.skip))) (.seq (aS [aF 8 1 1,aR 9 (.load true 5 (.t 8)),aR 10 (.call 178 [.t 9]),aM 3 10] (aS [aM 11 3,aR 12 (.bin .neq (.t 11) (aI 0))] (.cond (.t 12) (aS [aM 13 3,aM 2 13] (.ret)) (.skip)))) (.seq (aS [aF 14 1 1,aR 15 (.load true 5 (.t 14)),aR 16 (.call 179 [.t 15]),aR 17 (.un .not (.t 16))] (.cond (.t 17) (aS [aR 2 (.mv (aI 11))] (.ret)) (.skip))) (aS [aR 2 (.mv (aI 0))] (.ret))))),[.t 2]⟩
theorem h_soutput : AX.compFn Tryz.prog 108 = some c_soutput:=by kernel_rfl
def c_sinstance : AX.AFn:=⟨53,aS [aR 1 (.box 73 (.t 0)),aR 2 (.mv (aI 0))] (.seq (aS [aF 4 0 1,aL 5 4,aF 6 3 1,aL 7 6,aR 8 (.call 107 [.t 5,.t 7]),aR 9 (.un .not (.t 8)),aM 10 9,aG 11 (.faddr 1 (.t 1)) 10 false,aG 12 (.load false 1 (.t 11)) 10 false,aG 13 (.bin .neq (.t 12) (.c (.str []))) 10 false,aG 14 (.mv (.t 13)) 10 false,aG 15 (.faddr 1 (.t 1)) 14 true,aG 16 (.load false 1 (.t 15)) 14 true,aG 17 (.call 177 [.t 16]) 14 true,aG 18 (.un .not (.t 17)) 14 true,aG 19 (.pick (.t 14) (.t 18) (.c (.bool false))) 10 false,aR 20 (.pick (.t 10) (.c (.bool true)) (.t 19)),aM 21 20,aG 22 (.faddr 2 (.t 1)) 21 false,aG 23 (.load false 1 (.t 22)) 21 false,aG 24 (.call 103 [.t 23]) 21 false,aG 25 (.un .not (.t 24)) 21 false,aR 26 (.pick (.t 21) (.c (.bool true)) (.t 25))] (.cond (.t 26) (aS [aR 2 (.mv (aI 1))] (.ret)) (.skip))) (.seq (aS [aF 27 4 1,aR 28 (.load true 5 (.t 27)),aR 29 (.call 178 [.t 28]),aM 3 29] (aS [aM 30 3,aR 31 (.bin .neq (.t 30) (aI 0))] (.cond (.t 31) (aS [aM 32 3,aM 2 32] (.ret)) (.skip)))) (.seq (aS [aF 33 4 1,aF 34 0 33,aL 35 34,aR 36 (.bin .neq (.t 35) (aI 5))] (.cond (.t 36) (aS [aR 2 (.mv (aI 6))] (.ret)) (.skip))) (.seq (aS [aF 37 4 1,aR 38 (.load true 5 (.t 37)),aR 39 (.call 179 [.t 38]),aR 40 (.un .not (.t 39))] (.cond (.t 40) (aS [aR 2 (.mv (aI 11))] (.ret)) (.skip))) (.seq (aS [aF 41 9 1,aL 42 41,aR 43 (.bin .lss (.t 42) (aI 1)),aM 44 43,aG 45 (.faddr 9 (.t 1)) 44 false,aG 46 (.load false 1 (.t 45)) 44 false,aG 47 (.bin .gtr (.t 46) (aI 9007199254740992)) 44 false,aR 48 (.pick (.t 44) (.c (.bool true)) (.t 47))] (.cond (.t 48) (aS [aR 2 (.mv (aI 5))] (.ret)) (.skip))) (.seq (aS [aF 49 12 1,aL 50 49,aR 51 (.call 180 [.t 50]),aR 52 (.un .not (.t 51))] (.cond (.t 52) (aS [aR 2 (.mv (aI 1))] (.ret)) (.skip))) (aS [aR 2 (.mv (aI 0))] (.ret)))))))),[.t 2]⟩
theorem h_sinstance : AX.compFn Tryz.prog 104 = some c_sinstance:=by kernel_rfl
theorem a_managed (L : Leafs) (s t : List UInt8) (hs : s.length ≤ 2000000) (h : Hp) : ACall Tryz.prog GT 107 [.str s,.str t] h fun r h' => r = .bool (Sf.managed s t) ∧ h' = h:=by
 refine pcall ?_ rfl (by simp [A.pure,A.data]) h
 refine acall_of mixedT h_smanaged (by simp [c_smanaged]) ?_
 dsimp only [c_smanaged]
 have hp:=fun h => L.parse s hs h
 unfold Sf.managed
 obtain ⟨⟨⟨mods,data,ty,nm,⟨kk,kn,ks⟩⟩,e⟩,he⟩ : ∃ x,Adr.parse s = x:=⟨_,rfl⟩
 rw [he] at hp ⊢
 simp only [Adr.Ad.cells] at hp
 refine run0 ti ?_
 refine use (hp _) ?_
 dsimp only
 rcases bool_or (e == 0) with e0 | e0
 ·rw [e0]
  (refine AX.run0 e0 ?_)
  first
  | exact ⟨_, le_refl _, rfl⟩
  | (cases data
     · (refine AX.run0 AX.ti ?_)
       exact ⟨_, le_refl _, rfl⟩
     · (refine AX.run0 AX.ti ?_)
       exact ⟨_, le_refl _, rfl⟩)
 ·rw [e0]
  (refine AX.run0 e0 ?_)
  first
  | exact ⟨_, le_refl _, rfl⟩
  | (cases data
     · (refine AX.run0 AX.ti ?_)
       exact ⟨_, le_refl _, rfl⟩
     · (refine AX.run0 AX.ti ?_)
       exact ⟨_, le_refl _, rfl⟩)
theorem a_key (L : Leafs) (s : List UInt8) (hs : s.length ≤ 2000000) (h : Hp) : ACall Tryz.prog GT 177 [.str s] h fun r h' => r = .bool ((Num.parse s).2 == 0 && decide (1 ≤ (Num.parse s).1)) ∧ h' = h:=by
 refine pcall ?_ rfl (by simp [A.pure,A.data]) h
 refine acall_of mixedT h_skey (by simp [c_skey]) ?_
 dsimp only [c_skey]
 have hp:=fun h => L.num s hs h
 obtain ⟨⟨n,e⟩,he⟩ : ∃ x,Num.parse s = x:=⟨_,rfl⟩
 rw [he] at hp ⊢
 dsimp only at hp ⊢
 refine run0 ti ?_
 refine use (hp _) ?_
 rcases bool_or (e == 0) with e0 | e0
 ·rw [e0]
  refine run0 e0 ?_
  exact ⟨_,le_refl _,rfl⟩
 ·rw [e0]
  refine run0 e0 ?_
  exact ⟨_,le_refl _,rfl⟩
theorem a_placeOf (x : Sf.Inst) (h : Hp) : ACall Tryz.prog GT 105 [.agg x.cells] h fun r h' => r = .agg [.str x.addr,.str x.dep] ∧ h' = h:=by
 obtain ⟨a,d,id,ty,⟨k,n,w,vi,vy⟩,v,tn,fi,ds⟩:=x
 refine pcall ?_ rfl (by simp [A.pure,A.data,Sf.Inst.cells]) h
 refine acall_of mixedT h_splaceOf (by simp [c_splaceOf]) ?_
 dsimp only [c_splaceOf,Sf.Inst.cells]
 refine run0 ti ?_
 exact ⟨_,le_refl _,rfl⟩
theorem a_output (L : Leafs) (o : Sf.Outp) (hs : o.name.length ≤ 2000000) (hl : o.value.lens) (h : Hp) : ACall Tryz.prog GT 108 [.agg o.cells] h fun r h' => r = .int .i64 (Sf.outZ o) ∧ h' = h:=by
 have hi:=fun h => L.ident o.name hs h
 have hk:=fun h => L.known o.value hl h
 have hc:=fun h => a_vCheck o.value hl h
 obtain ⟨Z,hZ⟩ : ∃ Z,Sf.outZ o = Z:=⟨_,rfl⟩
 rw [hZ]
 unfold Sf.outZ at hZ
 obtain ⟨m,⟨k,n,w,vi,vy⟩,b⟩:=o
 dsimp only at hi hk hc hZ
 have hVA : (V.mk k n w vi vy).A = .agg [.int .i64 k,.int .i64 n,.str w,.sl 5 .no (V.cellss vi),.sl 1 .no (strsA vy)]:=by simp only [V.A,V.cells]
 rw [hVA] at hk hc
 refine pcall ?_ rfl (by simp [A.pure,A.data,Sf.Outp.cells]) h
 refine acall_of mixedT h_soutput (by simp [c_soutput]) ?_
 dsimp only [c_soutput,Sf.Outp.cells]
 refine run0 ti ?_
 refine use (hi _) ?_
 cases hI : Adr.ident m
 ·rw [hI,if_pos (by decide)] at hZ
  refine run0 ti ?_
  exact ⟨_,le_refl _,by rw [← hZ]; rfl⟩
 rw [hI,if_neg (by decide)] at hZ
 refine run0 ti ?_
 refine use (hc _) ?_
 by_cases hz : Val.checkZ (.mk k n w vi vy) = 0
 rotate_left
 ·have e1 : (Val.checkZ (.mk k n w vi vy) != 0) = true:=by simp [hz]
  rw [if_pos hz] at hZ
  refine run0 e1 ?_
  exact ⟨_,le_refl _,by rw [← hZ]; rfl⟩
 have e1 : (Val.checkZ (.mk k n w vi vy) != 0) = false:=by simp [hz]
 rw [if_neg (by simp [hz])] at hZ
 refine run0 e1 ?_
 refine use (hk _) ?_
 cases hK : Sf.known (.mk k n w vi vy)
 ·rw [hK,if_pos (by decide)] at hZ
  refine run0 ti ?_
  exact ⟨_,le_refl _,by rw [← hZ]; rfl⟩
 ·rw [hK,if_neg (by decide)] at hZ
  refine run0 ti ?_
  exact ⟨_,le_refl _,by rw [← hZ]; rfl⟩
theorem a_statics (L : Leafs) (ds : List (List UInt8)) (hn : ds.length ≤ 1000000000) (hs : ∀ s ∈ ds,s.length ≤ 2000000) (h : Hp) : ACall Tryz.prog GT 180 [.sl 1 .no (strsA ds)] h fun r h' => r = .bool (Sf.depsB none ds) ∧ h' = h:=by
 refine pcall ?_ rfl (by simp [A.pure,A.data]) h
 refine acall_of mixedT h_sstatics (by simp [c_sstatics]) ?_
 dsimp only [c_sstatics]
 obtain ⟨D,hD⟩ : ∃ D,Sf.depsB none ds = D:=⟨_,rfl⟩
 rw [hD]
 have lm : (strsA ds).length = ds.length:=strsA_length ds
 refine run0 lm ?_
 refine awp_loop (fun mm ts h => ∃ (j : Nat),mm = ds.length - j ∧ j ≤ ds.length ∧ h = ⟨[],[]⟩ ∧ Sf.depsB (if j = 0 then none else ds[j - 1]?) (ds.drop j) = D ∧ ts 0 = .sl 1 .no (strsA ds) ∧ ts 7 = .sl 1 .no (strsA ds) ∧ ts 8 = .int .i64 (ds.length : Nat) ∧ ts 9 = .int .i64 (j : Nat)) ds.length ?_ ?_
 ·exact ⟨0,by omega,by omega,rfl,hD,by (exact ev0 ti),by (exact ev0 ti),by (exact ev0 lm),by (exact inv0 ti)⟩
 rintro mm ts h ⟨j,rfl,hjc,rfl,hit,t0,ta,tb,tc⟩
 by_cases hj : j < ds.length
 ·have hlt : (j : Int) < (ds.length : Int):=by omega
  have hlt' : (j : Int) < ((strsA ds).length : Int):=by rw [strsA_length]; exact hlt
  have hj0 : (0 : Int) ≤ (j : Int):=by omega
  have ei : IntKind.i64.wrap ((j : Int) + 1) = ((j + 1 : Nat) : Int):=by rw [wrap64 (by omega) (by omega)]; omega
  have hg:=strsA_get ds j hj
  have hst:=fun h => L.static ds[j] (hs _ (List.getElem_mem hj)) h
  rw [List.drop_eq_getElem_cons hj] at hit
  unfold Sf.depsB at hit
  have hsB : Sf.staticB ds[j] = ((Adr.static ds[j]).2 == 0 && (Adr.static ds[j]).1 == ds[j]):=rfl
  obtain ⟨⟨w,e⟩,hw⟩ : ∃ q,Adr.static ds[j] = q:=⟨_,rfl⟩
  rw [hw] at hst hsB
  dsimp only at hst hsB
  rw [hsB] at hit
  refine run0 (ai t0 (ai ta (ai tb (ai tc (ai hlt (ai hg (ai hlt' hj0))))))) ?_
  refine use (hst _) ?_
  by_cases he : e = 0
  rotate_left
  ·have e1 : (e != 0) = true:=by simp [he]
   have e2 : (e == 0) = false:=by simp [he]
   rw [e2,Bool.false_and,Bool.false_and,Bool.false_and] at hit
   subst hit
   refine run0 (ai t0 (ai ta (ai tb (ai tc e1)))) ?_
   exact ⟨_,le_refl _,rfl⟩
  have e1 : (e != 0) = false:=by simp [he]
  have e2 : (e == 0) = true:=by simp [he]
  rw [e2,Bool.true_and] at hit
  by_cases hw2 : w = ds[j]
  rotate_left
  ·have w1 : (w != ds[j]) = true:=by simp [hw2]
   have w2 : (w == ds[j]) = false:=by simp [hw2]
   rw [w2,Bool.false_and,Bool.false_and] at hit
   subst hit
   refine run0 (ai t0 (ai ta (ai tb (ai tc (ai e1 w1))))) ?_
   exact ⟨_,le_refl _,rfl⟩
  have w1 : (w != ds[j]) = false:=by simp [hw2]
  have w2 : (w == ds[j]) = true:=by simp [hw2]
  rw [w2,Bool.true_and] at hit
  cases j with
  | zero =>
   have h0 : ¬ ((0 : Nat) : Int) > 0:=by omega
   simp only [if_true,Val.badB,Bool.not_false,Bool.true_and] at hit
   refine run0 (ai t0 (ai ta (ai tb (ai tc (ai e1 (ai w1 (ai h0 ei))))))) ?_
   exact ⟨ds.length - 1,by omega,1,rfl,by omega,rfl,by rw [← hit]; simp [hj],by (exact ev0 t0),by (exact ev0 ta),by (exact ev0 tb),by (exact ev0 ei)⟩
  | succ i =>
   have h0 : ((i + 1 : Nat) : Int) > 0:=by omega
   have ej : IntKind.i64.wrap (((i + 1 : Nat) : Int) - 1) = (i : Int):=by rw [wrap64 (by omega) (by omega)]; omega
   have hg2:=strsA_get ds i (by omega)
   have hi' : (i : Int) < ((strsA ds).length : Int):=by omega
   have hi0 : (0 : Int) ≤ (i : Int):=by omega
   have hki : ds[i + 1 - 1]? = some (ds[i]'(by omega)):=List.getElem?_eq_getElem (by omega)
   rw [if_neg (by omega),hki] at hit
   simp only [Val.badB] at hit
   rw [Val.less_total] at hit
   rcases bool_or (bytesLess ds[i + 1] ds[i] || ds[i + 1] == ds[i]) with hb | hb
   ·rw [hb] at hit
    refine run0 (ai t0 (ai ta (ai tb (ai tc (ai e1 (ai w1 (ai h0 (ai ej (ai hg2 (ai hi' (ai hi0 (ai hb ei)))))))))))) ?_
    first
    | (subst hit; exact ⟨_,le_refl _,rfl⟩)
    | exact ⟨ds.length - (i + 1 + 1),by omega,i + 1 + 1,rfl,by omega,rfl,by rw [← hit]; simp [hj],by (exact ev0 t0),by (exact ev0 ta),by (exact ev0 tb),by (exact ev0 ei)⟩
   ·rw [hb] at hit
    refine run0 (ai t0 (ai ta (ai tb (ai tc (ai e1 (ai w1 (ai h0 (ai ej (ai hg2 (ai hi' (ai hi0 (ai hb ei)))))))))))) ?_
    first
    | (subst hit; exact ⟨_,le_refl _,rfl⟩)
    | exact ⟨ds.length - (i + 1 + 1),by omega,i + 1 + 1,rfl,by omega,rfl,by rw [← hit]; simp [hj],by (exact ev0 t0),by (exact ev0 ta),by (exact ev0 tb),by (exact ev0 ei)⟩
 ·have hlt : ¬ ((j : Int) < (ds.length : Int)):=by omega
  rw [List.drop_eq_nil_of_le (by omega)] at hit
  unfold Sf.depsB at hit
  subst hit
  refine run0 (ai t0 (ai ta (ai tb (ai tc hlt)))) ?_
  exact ⟨_,le_refl _,rfl⟩
structure Sf.InstIn (x : Sf.Inst) : Prop where
 a : x.addr.length ≤ 2000000
 d : x.dep.length ≤ 2000000
 i : x.id.length ≤ 2000000
 l : x.attrs.lens
 n : x.deps.length ≤ 1000000000
 ds : ∀ s ∈ x.deps,s.length ≤ 2000000
theorem a_instance (L : Leafs) (x : Sf.Inst) (hx : Sf.InstIn x) (h : Hp) : ACall Tryz.prog GT 104 [.agg x.cells] h fun r h' => r = .int .i64 (Sf.instZ x) ∧ h' = h:=by
 have cm:=fun h => a_managed L x.addr x.typ hx.a h
 have ck:=fun h => a_key L x.dep hx.d h
 have ct:=fun h => L.text x.id hx.i h
 have cv:=fun h => a_vCheck x.attrs hx.l h
 have cn:=fun h => L.known x.attrs hx.l h
 have cs:=fun h => a_statics L x.deps hx.n hx.ds h
 obtain ⟨Z,hZ⟩ : ∃ Z,Sf.instZ x = Z:=⟨_,rfl⟩
 rw [hZ]
 unfold Sf.instZ Sf.keyB at hZ
 obtain ⟨a,d,id,ty,⟨k,n,w,vi,vy⟩,v,tn,fi,ds⟩:=x
 clear hx
 dsimp only at cm ck ct cv cn cs hZ
 have hVA : (V.mk k n w vi vy).A = .agg [.int .i64 k,.int .i64 n,.str w,.sl 5 .no (V.cellss vi),.sl 1 .no (strsA vy)]:=by simp only [V.A,V.cells]
 rw [hVA] at cv cn
 obtain ⟨M,hM⟩ : ∃ M,Sf.managed a ty = M:=⟨_,rfl⟩
 obtain ⟨K,hK⟩ : ∃ K,((Num.parse d).2 == 0 && decide (1 ≤ (Num.parse d).1)) = K:=⟨_,rfl⟩
 obtain ⟨T,hT⟩ : ∃ T,Sf.text id = T:=⟨_,rfl⟩
 obtain ⟨C,hC⟩ : ∃ C,Val.checkZ (.mk k n w vi vy) = C:=⟨_,rfl⟩
 obtain ⟨N,hN⟩ : ∃ N,Sf.known (.mk k n w vi vy) = N:=⟨_,rfl⟩
 obtain ⟨S,hS⟩ : ∃ S,Sf.depsB none ds = S:=⟨_,rfl⟩
 have hkd : Sf.V.kind (.mk k n w vi vy) = k:=rfl
 rw [hM] at cm hZ
 rw [hK] at ck hZ
 rw [hT] at ct hZ
 rw [hC] at cv hZ
 rw [hN] at cn hZ
 rw [hS] at cs hZ
 rw [hkd] at hZ
 refine pcall ?_ rfl (by simp [A.pure,A.data,Sf.Inst.cells]) h
 refine acall_of mixedT h_sinstance (by simp [c_sinstance]) ?_
 dsimp only [c_sinstance,Sf.Inst.cells]
 refine run0 ti ?_
 refine use (cm _) ?_
 cases M
 ·rw [if_pos (by simp)] at hZ
  subst hZ
  refine run0 ti ?_
  exact ⟨_,le_refl _,rfl⟩
 have key : ∀ {G : Prop},((d != []) = false → (d == []) = true → G) → ((d != []) = true → (d == []) = false → G) → G:=fun p q => by
  by_cases e : d = []
  ·exact p (by simp [e]) (by simp [e])
  ·exact q (by simp [e]) (by simp [e])
 have rest : True:=ti
 refine key (fun d1 d2 => ?_) (fun d1 d2 => ?_)
 all_goals rw [d2] at hZ
 ·refine run0 d1 ?_
  refine use (ct _) ?_
  cases T
  ·rw [if_pos (by simp)] at hZ
   subst hZ
   refine run0 ti ?_
   exact ⟨_,le_refl _,rfl⟩
  rw [if_neg (by simp)] at hZ
  refine run0 ti ?_
  refine use (cv _) ?_
  by_cases hz : C = 0
  rotate_left
  ·have e1 : (C != 0) = true:=by simp [hz]
   rw [if_pos hz] at hZ
   refine run0 e1 ?_
   exact ⟨_,le_refl _,by rw [← hZ]; rfl⟩
  have e1 : (C != 0) = false:=by simp [hz]
  rw [if_neg (by simp [hz])] at hZ
  by_cases hk5 : k = 5
  rotate_left
  ·have e2 : (k != 5) = true:=by simp [hk5]
   rw [if_pos hk5] at hZ
   refine run0 (ai e1 e2) ?_
   exact ⟨_,le_refl _,by rw [← hZ]; rfl⟩
  have e2 : (k != 5) = false:=by simp [hk5]
  rw [if_neg (by simp [hk5])] at hZ
  refine run0 (ai e1 e2) ?_
  refine use (cn _) ?_
  cases N
  ·rw [if_pos (by simp)] at hZ
   refine run0 ti ?_
   exact ⟨_,le_refl _,by rw [← hZ]; rfl⟩
  rw [if_neg (by simp)] at hZ
  by_cases v0 : v < 1
  ·rw [if_pos (.inl v0)] at hZ
   refine run0 v0 ?_
   exact ⟨_,le_refl _,by rw [← hZ]; rfl⟩
  by_cases v1 : v > 9007199254740992
  ·rw [if_pos (.inr v1)] at hZ
   refine run0 (ai v0 v1) ?_
   exact ⟨_,le_refl _,by rw [← hZ]; rfl⟩
  rw [if_neg (by omega)] at hZ
  refine run0 (ai v0 v1) ?_
  refine use (cs _) ?_
  cases S
  ·rw [if_pos (by simp)] at hZ
   refine run0 ti ?_
   exact ⟨_,le_refl _,by rw [← hZ]; rfl⟩
  ·rw [if_neg (by simp)] at hZ
   refine run0 ti ?_
   exact ⟨_,le_refl _,by rw [← hZ]; rfl⟩
 ·refine run0 d1 ?_
  refine use (ck _) ?_
  cases K
  ·rw [if_pos (by simp)] at hZ
   subst hZ
   refine run0 ti ?_
   exact ⟨_,le_refl _,rfl⟩
  refine run0 ti ?_
  refine use (ct _) ?_
  cases T
  ·rw [if_pos (by simp)] at hZ
   subst hZ
   refine run0 ti ?_
   exact ⟨_,le_refl _,rfl⟩
  rw [if_neg (by simp)] at hZ
  refine run0 ti ?_
  refine use (cv _) ?_
  by_cases hz : C = 0
  rotate_left
  ·have e1 : (C != 0) = true:=by simp [hz]
   rw [if_pos hz] at hZ
   refine run0 e1 ?_
   exact ⟨_,le_refl _,by rw [← hZ]; rfl⟩
  have e1 : (C != 0) = false:=by simp [hz]
  rw [if_neg (by simp [hz])] at hZ
  by_cases hk5 : k = 5
  rotate_left
  ·have e2 : (k != 5) = true:=by simp [hk5]
   rw [if_pos hk5] at hZ
   refine run0 (ai e1 e2) ?_
   exact ⟨_,le_refl _,by rw [← hZ]; rfl⟩
  have e2 : (k != 5) = false:=by simp [hk5]
  rw [if_neg (by simp [hk5])] at hZ
  refine run0 (ai e1 e2) ?_
  refine use (cn _) ?_
  cases N
  ·rw [if_pos (by simp)] at hZ
   refine run0 ti ?_
   exact ⟨_,le_refl _,by rw [← hZ]; rfl⟩
  rw [if_neg (by simp)] at hZ
  by_cases v0 : v < 1
  ·rw [if_pos (.inl v0)] at hZ
   refine run0 v0 ?_
   exact ⟨_,le_refl _,by rw [← hZ]; rfl⟩
  by_cases v1 : v > 9007199254740992
  ·rw [if_pos (.inr v1)] at hZ
   refine run0 (ai v0 v1) ?_
   exact ⟨_,le_refl _,by rw [← hZ]; rfl⟩
  rw [if_neg (by omega)] at hZ
  refine run0 (ai v0 v1) ?_
  refine use (cs _) ?_
  cases S
  ·rw [if_pos (by simp)] at hZ
   refine run0 ti ?_
   exact ⟨_,le_refl _,by rw [← hZ]; rfl⟩
  ·rw [if_neg (by simp)] at hZ
   refine run0 ti ?_
   exact ⟨_,le_refl _,by rw [← hZ]; rfl⟩
end AX
namespace Adr
theorem indexAny_word : ∀ s : List UInt8,(Lib.indexAny s [46,91] = -1 ∧ s.takeWhile (fun c => !stopB c) = s ∧ s.dropWhile (fun c => !stopB c) = []) ∨
  ∃ n : Nat,Lib.indexAny s [46,91] = n ∧ n ≤ s.length ∧ s.takeWhile (fun c => !stopB c) = s.take n ∧ s.dropWhile (fun c => !stopB c) = s.drop n
 | [] => .inl ⟨rfl,rfl,rfl⟩
 | c :: s => by
  have hc : ([46,91] : List UInt8).contains c = stopB c:=by
   unfold stopB
   simp
   rfl
  unfold Lib.indexAny
  rw [hc]
  cases h : stopB c
  ·rcases indexAny_word s with ⟨h1,h2,h3⟩ | ⟨n,h1,h2,h3,h4⟩
   ·refine .inl ⟨by rw [h1]; rfl,?_,?_⟩
    ·rw [List.takeWhile_cons_of_pos (by simp [h]),h2]
    ·rw [List.dropWhile_cons_of_pos (by simp [h]),h3]
   ·refine .inr ⟨n + 1,?_,by simpa using h2,?_,?_⟩
    ·rw [h1]
     have e : ((n : Int) == -1) = false:=by simp <;> omega
     simp only [Bool.false_eq_true,if_false,e]
     omega
    ·rw [List.takeWhile_cons_of_pos (by simp [h]),h3,List.take_succ_cons]
    ·rw [List.dropWhile_cons_of_pos (by simp [h]),h4,List.drop_succ_cons]
  ·refine .inr ⟨0,rfl,Nat.zero_le _,?_,?_⟩
   ·rw [List.takeWhile_cons_of_neg (by simp [h])]; rfl
   ·rw [List.dropWhile_cons_of_neg (by simp [h])]; rfl
theorem indexByte_key : ∀ s : List UInt8,(s.all (· != 93) = true ∧ Lib.indexByte s 93 = -1) ∨ (s.all (· != 93) = false ∧ Lib.indexByte s 93 = ((s.takeWhile (· != 93)).length : Nat) ∧ (s.takeWhile (· != 93)).length ≤ s.length)
 | [] => .inl ⟨rfl,rfl⟩
 | c :: s => by
  unfold Lib.indexByte
  by_cases h : c = 93
  ·subst h
   refine .inr ⟨by simp,?_,Nat.le_of_lt_succ (by simp)⟩
   simp
  ·have hb : (c == 93) = false:=by simp [h]
   have hn : (c != 93) = true:=by simp [h]
   rcases indexByte_key s with ⟨h1,h2⟩ | ⟨h1,h2,h3⟩
   ·refine .inl ⟨by rw [List.all_cons,hn,h1]; rfl,?_⟩
    simp [hb,h,h2]
   ·refine .inr ⟨by rw [List.all_cons,h1,Bool.and_false],?_,?_⟩
    ·simp only [List.takeWhile_cons,hn,if_true,List.length_cons,hb,Bool.false_eq_true,if_false,h2]
     have e : (((s.takeWhile (· != 93)).length : Nat) : Int) == -1 ↔ False:=by simp <;> omega
     rw [if_neg (by rw [e]; exact id)]
     omega
    ·simp only [List.takeWhile_cons,hn,if_true,List.length_cons]
     omega
theorem cmp_bytes : ∀ a b : List UInt8,Lib.compareBytes a b = AX.cmpZ a b
 | [],[] => rfl
 | [],_ :: _ => rfl
 | _ :: _,[] => rfl
 | a :: a1,b :: b1 => by
  have ih:=cmp_bytes a1 b1
  unfold AX.cmpZ at ih ⊢
  unfold Lib.compareBytes bytesLess
  by_cases h1 : a < b
  ·have hne : a ≠ b:=by intro e; subst e; exact absurd h1 (by simp)
   simp [h1,hne]
  ·by_cases h2 : b < a
   ·have hne : a ≠ b:=by intro e; subst e; exact absurd h2 (by simp)
    simp [h1,h2,hne]
   ·have he : a = b:=by
     have h3 : ¬ a.toNat < b.toNat:=h1
     have h4 : ¬ b.toNat < a.toNat:=h2
     exact UInt8.toNat_inj.1 (by omega)
    subst he
    rw [if_neg h1,if_neg h2,ih]
    simp
end Adr
namespace AX
def c_akind : AX.AFn:=⟨18,aS [aR 2 (.mv (.c (.bool false)))] (.seq (aS [aM 3 0] (.block 0 (.seq (aS [aR 5 (.bin .eql (.t 3) (.c (.str [109,111,100,117,108,101]))),aM 4 5] (.cond (.t 4) (.skip) (aS [aR 6 (.bin .eql (.t 3) (.c (.str [100,97,116,97]))),aM 4 6] (.cond (.t 4) (.skip) (aS [aR 7 (.bin .eql (.t 3) (.c (.str [118,97,114]))),aM 4 7] (.cond (.t 4) (.skip) (aS [aR 8 (.bin .eql (.t 3) (.c (.str [108,111,99,97,108]))),aM 4 8] (.cond (.t 4) (.skip) (aS [aR 9 (.bin .eql (.t 3) (.c (.str [101,97,99,104]))),aM 4 9] (.cond (.t 4) (.skip) (aS [aR 10 (.bin .eql (.t 3) (.c (.str [99,111,117,110,116]))),aM 4 10] (.cond (.t 4) (.skip) (aS [aR 11 (.bin .eql (.t 3) (.c (.str [114,101,109,111,116,101]))),aM 4 11] (.cond (.t 4) (.skip) (aS [aR 12 (.bin .eql (.t 3) (.c (.str [111,117,116,112,117,116]))),aM 4 12] (.cond (.t 4) (.skip) (aS [aR 13 (.bin .eql (.t 3) (.c (.str [112,97,116,104]))),aM 4 13] (.cond (.t 4) (.skip) (aS [aR 14 (.bin .eql (.t 3) (.c (.str [115,101,108,102]))),aM 4 14] (.cond (.t 4) (.skip) (.reg false [aR 15 (.bin .eql (.t 3) (.c (.str [99,104,97,110,103,101]))),aM 4 15]))))))))))))))))))))) (.cond (.t 4) (aS [aR 2 (.mv (.c (.bool false)))] (.ret)) (.skip))))) (aS [aM 16 0,aR 17 (.call 184 [.t 16]),aM 2 17] (.ret))),[.t 2]⟩
theorem h_akind : AX.compFn Tryz.prog 241 = some c_akind:=by kernel_rfl
def c_aword : AX.AFn:=⟨45,aS [aR 2 (.mv (.c (.str [])))] (aS [aM 5 0,aR 6 (.nilck (.t 5)),aF 7 0 6,aL 8 7,aR 9 (.call 284 [.t 8,.c (.str [46,91])]),aM 3 9] (.seq (aS [aM 10 3,aR 11 (.bin .lss (.t 10) (aI 0))] (.cond (.t 11) (.reg false [aM 12 0,aR 13 (.nilck (.t 12)),aF 14 0 13,aL 15 14,aR 16 (.len true (.t 15)),aM 3 16]) (.skip))) (aS [aM 17 0,aR 18 (.nilck (.t 17)),aF 19 0 18,aL 20 19,aM 21 3,aR 22 (.ssl (.t 20) none (some (.t 21))),aM 4 22] (aS [aM 23 0,aM 24 0,aR 25 (.nilck (.t 24)),aF 26 0 25,aL 27 26,aM 28 3,aR 29 (.ssl (.t 27) (some (.t 28)) none),aR 30 (.nilck (.t 23)),aF 31 0 30,aU (.store 1 (.t 31) (.t 29))] (aS [aM 32 0,aM 33 0,aR 34 (.nilck (.t 33)),aF 35 1 34,aL 36 35,aM 37 36,aG 38 (.mv (.t 4)) 37 false,aG 39 (.call 184 [.t 38]) 37 false,aG 40 (.un .not (.t 39)) 37 false,aR 41 (.pick (.t 37) (.c (.bool true)) (.t 40)),aR 42 (.nilck (.t 32)),aF 43 1 42,aU (.store 1 (.t 43) (.t 41))] (aS [aM 44 4,aM 2 44] (.ret))))))),[.t 2]⟩
theorem h_aword : AX.compFn Tryz.prog 239 = some c_aword:=by kernel_rfl
def c_avalid : AX.AFn:=⟨35,aS [aR 1 (.box 222 (.t 0)),aR 2 (.mv (.c (.bool false)))] (.seq (aS [aF 3 0 1,aL 4 3] (.block 0 (aS [aR 6 (.bin .eql (.t 4) (aI 0)),aM 5 6] (.cond (.t 5) (aS [aR 7 (.load true 3 (.t 1)),aR 8 (.build [.int .i64 0,.int .i64 0,.str []] []),aR 9 (.eq 2 [0,0,1] false (.t 7) (.t 8)),aM 2 9] (.ret)) (aS [aR 11 (.bin .eql (.t 4) (aI 1)),aM 10 11] (.cond (.t 10) (aS [aF 12 1 1,aL 13 12,aR 14 (.bin .geq (.t 13) (aI 0)),aM 15 14,aG 16 (.faddr 1 (.t 1)) 15 true,aG 17 (.load false 1 (.t 16)) 15 true,aG 18 (.bin .leq (.t 17) (aI 9007199254740992)) 15 true,aR 19 (.pick (.t 15) (.t 18) (.c (.bool false))),aM 20 19,aG 21 (.faddr 2 (.t 1)) 20 true,aG 22 (.load false 1 (.t 21)) 20 true,aG 23 (.bin .eql (.t 22) (.c (.str []))) 20 true,aR 24 (.pick (.t 20) (.t 23) (.c (.bool false))),aM 2 24] (.ret)) (aS [aR 26 (.bin .eql (.t 4) (aI 2)),aM 25 26] (.cond (.t 25) (aS [aF 27 1 1,aL 28 27,aR 29 (.bin .eql (.t 28) (aI 0)),aM 30 29,aG 31 (.faddr 2 (.t 1)) 30 true,aG 32 (.load false 1 (.t 31)) 30 true,aG 33 (.call 85 [.t 32]) 30 true,aR 34 (.pick (.t 30) (.t 33) (.c (.bool false))),aM 2 34] (.ret)) (.skip))))))))) (aS [aR 2 (.mv (.c (.bool false)))] (.ret))),[.t 2]⟩
theorem h_avalid : AX.compFn Tryz.prog 335 = some c_avalid:=by kernel_rfl
theorem a_cmp (a b : List UInt8) (h : Hp) : ACall Tryz.prog GT 182 [.str a,.str b] h fun r h' => r = .int .i64 (cmpZ a b) ∧ h' = h:=by
 rw [← Adr.cmp_bytes]
 exact acall_imp (args2 r_str r_str) (fun w hg => (Tryz.strings_Compare ⟨a.toArray⟩ ⟨b.toArray⟩ w).mono fun e w' ⟨h1,h2⟩ => ⟨h1,by rw [h2]; exact Below.refl _ _⟩) (fun C => rep_int.2 rfl) h
theorem a_indexAny (s : List UInt8) (hs : s.length ≤ 2000000) (h : Hp) : ACall Tryz.prog GT 284 [.str s,.str [46,91]] h fun r h' => r = .int .i64 (Lib.indexAny s [46,91]) ∧ h' = h:=
 acall_imp (args2 r_str r_str) (fun w hg => indexAny_any ⟨s.toArray⟩ (by rw [size_mk]; omega) w) (fun C => rep_int.2 rfl) h
theorem a_indexByte (s : List UInt8) (h : Hp) : ACall Tryz.prog GT 287 [.str s,.int .u8 93] h fun r h' => r = .int .i64 (Lib.indexByte s 93) ∧ h' = h:=
 acall_imp (args2 r_str r_int) (fun w hg => (Tryz.strings_IndexByte ⟨s.toArray⟩ 93 w).mono fun e w' ⟨h1,h2⟩ => ⟨h1,by rw [h2]; exact Below.refl _ _⟩) (fun C => rep_int.2 rfl) h
theorem a_kind (s : List UInt8) (hs : s.length ≤ 2000000) (h : Hp) : ACall Tryz.prog GT 241 [.str s] h fun r h' => r = .bool (Adr.kindB s) ∧ h' = h:=by
 refine pcall ?_ rfl (by simp [A.pure,A.data]) h
 refine acall_of mixedT h_akind (by simp [c_akind]) ?_
 dsimp only [c_akind]
 have hi:=fun h => a_ident s hs h
 have hk : Adr.kindB s = (!Adr.reserved s && Adr.ident s):=rfl
 have hr : ∀ {G : Prop} (w : List UInt8),((s == w) = true → G) → ((s == w) = false → G) → G:=fun w p q => by
  cases e : s == w
  ·exact q e
  ·exact p e
 have res : ∀ w,(s == w) = true → w ∈ Adr.reservedL → Adr.kindB s = false:=fun w e hw => by
  rw [beq_iff_eq] at e; subst e
  rw [hk]
  unfold Adr.reserved
  rw [List.contains_iff_mem.2 hw]; rfl
 refine hr [109,111,100,117,108,101] (fun e1 => ?_) fun e1 => ?_
 ·refine run0 e1 ?_
  exact ⟨_,le_refl _,by rw [res _ e1 (by decide)]; rfl⟩
 refine hr [100,97,116,97] (fun e2 => ?_) fun e2 => ?_
 ·refine run0 (ai e1 e2) ?_
  exact ⟨_,le_refl _,by rw [res _ e2 (by decide)]; rfl⟩
 refine hr [118,97,114] (fun e3 => ?_) fun e3 => ?_
 ·refine run0 (ai e1 (ai e2 e3)) ?_
  exact ⟨_,le_refl _,by rw [res _ e3 (by decide)]; rfl⟩
 refine hr [108,111,99,97,108] (fun e4 => ?_) fun e4 => ?_
 ·refine run0 (ai e1 (ai e2 (ai e3 e4))) ?_
  exact ⟨_,le_refl _,by rw [res _ e4 (by decide)]; rfl⟩
 refine hr [101,97,99,104] (fun e5 => ?_) fun e5 => ?_
 ·refine run0 (ai e1 (ai e2 (ai e3 (ai e4 e5)))) ?_
  exact ⟨_,le_refl _,by rw [res _ e5 (by decide)]; rfl⟩
 refine hr [99,111,117,110,116] (fun e6 => ?_) fun e6 => ?_
 ·refine run0 (ai e1 (ai e2 (ai e3 (ai e4 (ai e5 e6))))) ?_
  exact ⟨_,le_refl _,by rw [res _ e6 (by decide)]; rfl⟩
 refine hr [114,101,109,111,116,101] (fun e7 => ?_) fun e7 => ?_
 ·refine run0 (ai e1 (ai e2 (ai e3 (ai e4 (ai e5 (ai e6 e7)))))) ?_
  exact ⟨_,le_refl _,by rw [res _ e7 (by decide)]; rfl⟩
 refine hr [111,117,116,112,117,116] (fun e8 => ?_) fun e8 => ?_
 ·refine run0 (ai e1 (ai e2 (ai e3 (ai e4 (ai e5 (ai e6 (ai e7 e8))))))) ?_
  exact ⟨_,le_refl _,by rw [res _ e8 (by decide)]; rfl⟩
 refine hr [112,97,116,104] (fun e9 => ?_) fun e9 => ?_
 ·refine run0 (ai e1 (ai e2 (ai e3 (ai e4 (ai e5 (ai e6 (ai e7 (ai e8 e9)))))))) ?_
  exact ⟨_,le_refl _,by rw [res _ e9 (by decide)]; rfl⟩
 refine hr [115,101,108,102] (fun e10 => ?_) fun e10 => ?_
 ·refine run0 (ai e1 (ai e2 (ai e3 (ai e4 (ai e5 (ai e6 (ai e7 (ai e8 (ai e9 e10))))))))) ?_
  exact ⟨_,le_refl _,by rw [res _ e10 (by decide)]; rfl⟩
 refine hr [99,104,97,110,103,101] (fun e11 => ?_) fun e11 => ?_
 ·refine run0 (ai e1 (ai e2 (ai e3 (ai e4 (ai e5 (ai e6 (ai e7 (ai e8 (ai e9 (ai e10 e11)))))))))) ?_
  exact ⟨_,le_refl _,by rw [res _ e11 (by decide)]; rfl⟩
 have hres : Adr.reserved s = false:=by
  have h1:=beq_eq_false_iff_ne.1 e1; have h2:=beq_eq_false_iff_ne.1 e2; have h3:=beq_eq_false_iff_ne.1 e3; have h4:=beq_eq_false_iff_ne.1 e4
  have h5:=beq_eq_false_iff_ne.1 e5; have h6:=beq_eq_false_iff_ne.1 e6; have h7:=beq_eq_false_iff_ne.1 e7; have h8:=beq_eq_false_iff_ne.1 e8
  have h9:=beq_eq_false_iff_ne.1 e9; have h10:=beq_eq_false_iff_ne.1 e10; have h11:=beq_eq_false_iff_ne.1 e11
  unfold Adr.reserved
  rw [Bool.eq_false_iff]
  intro hc
  rw [List.contains_iff_mem] at hc
  unfold Adr.reservedL at hc
  simp only [List.mem_cons,List.not_mem_nil,or_false] at hc
  rcases hc with e | e | e | e | e | e | e | e | e | e | e <;> simp_all
 rw [hk,hres]
 refine run0 (ai e1 (ai e2 (ai e3 (ai e4 (ai e5 (ai e6 (ai e7 (ai e8 (ai e9 (ai e10 e11)))))))))) ?_
 refine use (hi _) ?_
 refine run0 ti ?_
 exact ⟨_,le_refl _,by simp [tupA_1]⟩
theorem w_word (r : Adr.Rd) (hl : r.rest.length ≤ 2000000) {h : Hp} {i : Nat} (hb : h.b[i]? = some (adB r)) :
  ACall Tryz.prog GT 239 [.ptr i 0] h fun v h' => v = .str (Adr.wordP r).1 ∧ h' = ⟨h.b.set i (adB (Adr.wordP r).2),h.t⟩:=by
 have key : ACall Tryz.prog GT 239 [.ptr 0 0] ⟨[adB r],[]⟩ fun v h' => ∃ b',h'.b[0]? = some b' ∧ v = .str (Adr.wordP r).1 ∧ b' = adB (Adr.wordP r).2:=by
  obtain ⟨rest,bad⟩:=r
  dsimp only at hl
  refine acall_of mixedT h_aword (by simp [c_aword]) ?_
  dsimp only [c_aword]
  unfold adB
  have hW : Adr.wordP ⟨rest,bad⟩ = (rest.takeWhile (fun c => !Adr.stopB c),⟨rest.dropWhile (fun c => !Adr.stopB c),bad || !Adr.ident (rest.takeWhile (fun c => !Adr.stopB c))⟩):=rfl
  rw [hW]
  have hi:=fun (s : List UInt8) (hs : s.length ≤ 2000000) h => a_ident s hs h
  refine run0 ti ?_
  refine use (a_indexAny rest hl _) ?_
  rcases Adr.indexAny_word rest with ⟨h1,h2,h3⟩ | ⟨n,h1,h2,h3,h4⟩
  ·rw [h1,h2,h3]
   have lm : (-1 : Int) < 0:=by decide
   have l0 : (0 : Int) ≤ (rest.length : Int):=by omega
   have td : rest.drop rest.length = []:=List.drop_length
   cases bad
   ·refine run0 (ai lm (ai l0 td)) ?_
    refine use (hi rest hl _) ?_
    refine run0 ti ?_
    exact ⟨_,le_refl _,_,rfl,rfl,rfl⟩
   ·refine run0 (ai lm (ai l0 td)) ?_
    exact ⟨_,le_refl _,_,rfl,rfl,rfl⟩
  ·rw [h1,h3,h4]
   have lm : ¬ (n : Int) < 0:=by omega
   have l0 : (0 : Int) ≤ (n : Int):=by omega
   have l1 : (n : Int) ≤ (rest.length : Int):=by omega
   have ht : (rest.take n).length ≤ 2000000:=by rw [List.length_take]; omega
   cases bad
   ·refine run0 (ai lm (ai l0 l1)) ?_
    refine use (hi _ ht _) ?_
    refine run0 ti ?_
    exact ⟨_,le_refl _,_,rfl,rfl,rfl⟩
   ·refine run0 (ai lm (ai l0 l1)) ?_
    exact ⟨_,le_refl _,_,rfl,rfl,rfl⟩
 refine (ACall.lift1 key rfl (adB_loc r) ?_ hb).mono ?_
 ·rintro v b' ⟨rfl,rfl⟩; exact ⟨rfl,adB_loc _⟩
 ·rintro v h' ⟨b',⟨rfl,rfl⟩,rfl⟩; exact ⟨rfl,rfl⟩
def Adr.K.A (k : Adr.K) : A:=.agg [.int .i64 k.kind,.int .i64 k.num,.str k.str]
theorem a_avalid (k : Adr.K) (hs : k.str.length ≤ 2000000) (h : Hp) : ACall Tryz.prog GT 335 [Adr.K.A k] h fun r h' => r = .bool (Adr.keyOk k) ∧ h' = h:=by
 obtain ⟨kd,nm,st⟩:=k
 dsimp only at hs
 unfold Adr.K.A
 refine pcall ?_ rfl (by simp [A.pure,A.data]) h
 refine acall_of mixedT h_avalid (by simp [c_avalid]) ?_
 dsimp only [c_avalid]
 have hv:=fun h => a_valid st hs h
 have hK : Adr.keyOk ⟨kd,nm,st⟩ = if kd = 1 then decide (0 ≤ nm) && decide (nm ≤ 9007199254740992) && st == [] else if kd = 2 then nm == 0 && Str.valid st else (⟨kd,nm,st⟩ : Adr.K) == Adr.K.none:=rfl
 rw [hK]
 by_cases k0 : kd = 0
 ·subst k0
  have e0 : ((0 : Int) == 0) = true:=by decide
  rw [if_neg (by decide),if_neg (by decide)]
  have hn : ((⟨0,nm,st⟩ : Adr.K) == Adr.K.none) = (nm == 0 && st == []):=by
   rw [Bool.eq_iff_iff,beq_iff_eq,Bool.and_eq_true,beq_iff_eq,beq_iff_eq]
   unfold Adr.K.none
   simp
  refine run0 e0 ?_
  exact ⟨_,le_refl _,by rw [hn]; simp [tupA_1]⟩
 have e0 : (kd == 0) = false:=by simp [k0]
 by_cases k1 : kd = 1
 ·subst k1
  have e1 : ((1 : Int) == 1) = true:=by decide
  have e10 : ((1 : Int) == 0) = false:=by decide
  rw [if_pos rfl]
  by_cases n0 : 0 ≤ nm
  ·have g0 : nm ≥ 0:=n0
   by_cases n1 : nm ≤ 9007199254740992
   ·refine run0 (ai e10 (ai e1 (ai g0 n1))) ?_
    exact ⟨_,le_refl _,by rw [decide_eq_true n0,decide_eq_true n1]; rfl⟩
   ·refine run0 (ai e10 (ai e1 (ai g0 n1))) ?_
    exact ⟨_,le_refl _,by rw [decide_eq_false n1,Bool.and_false]; rfl⟩
  ·have g0 : ¬ nm ≥ 0:=n0
   refine run0 (ai e10 (ai e1 g0)) ?_
   exact ⟨_,le_refl _,by rw [decide_eq_false n0]; rfl⟩
 have e1 : (kd == 1) = false:=by simp [k1]
 rw [if_neg k1]
 by_cases k2 : kd = 2
 ·subst k2
  have e20 : ((2 : Int) == 0) = false:=by decide
  have e21 : ((2 : Int) == 1) = false:=by decide
  have e2 : ((2 : Int) == 2) = true:=by decide
  rw [if_pos rfl]
  cases hn : nm == 0
  ·refine run0 (ai e20 (ai e21 (ai e2 hn))) ?_
   exact ⟨_,le_refl _,rfl⟩
  ·refine run0 (ai e20 (ai e21 (ai e2 hn))) ?_
   refine use (hv _) ?_
   refine run0 (ai e20 (ai e21 (ai e2 hn))) ?_
   exact ⟨_,le_refl _,rfl⟩
 have e2 : (kd == 2) = false:=by simp [k2]
 rw [if_neg k2]
 have hn : ((⟨kd,nm,st⟩ : Adr.K) == Adr.K.none) = false:=by
  rw [beq_eq_false_iff_ne]
  unfold Adr.K.none
  intro e; injection e with e _ _; exact k0 e
 rw [hn]
 refine run0 (ai e0 (ai e1 e2)) ?_
 exact ⟨_,le_refl _,rfl⟩
end AX
end Go.Proofs.YteklhoajalgehaaGreatDoor

namespace Go.Proofs.YteklhoajalgehaaGreatDoor
open Go.RowKit
namespace Str
theorem one_width (l : List UInt8) (hl : l ≠ []) (h : (one l).2.2 = 0) : (one l).2.1 ≤ l.length:=by
 have hp:=List.length_pos_iff.2 hl
 by_cases h92 : l.getD 0 0 = 92
 ·obtain ⟨⟨c,n,e⟩,he⟩ : ∃ x,escp (l.drop 1) = x:=⟨_,rfl⟩
  have h1:=one_esc l h92 c n e he
  rw [h1] at h ⊢
  by_cases h0 : e = 0
  ·rw [if_neg (by simp [h0])]
   have:=escp_len (l.drop 1) (by rw [he]; exact h0)
   rw [he,List.length_drop] at this
   dsimp only at this ⊢
   omega
  ·rw [if_pos h0] at h
   exact absurd h h0
 ·obtain ⟨⟨c,n⟩,hd⟩ : ∃ x,Lib.decodeL l = x:=⟨_,rfl⟩
  have hc : c ≠ 92:=by
   rcases dec_cases l with ⟨q1,q2⟩ | ⟨q1,q2⟩
   ·rw [hd] at q2
    injection q2 with q2 q3
    intro e
    apply h92
    rw [← UInt8.toNat_inj]
    have : (l.getD 0 0).toNat = 92:=by omega
    simpa using this
   ·rw [hd] at q2
    dsimp only at q2
    omega
  by_cases hbad : (c = 65533 ∧ n = 1) ∨ c < 32 ∨ c = 127
  ·rw [one_bad l c n hd hc hbad] at h
   simp at h
  ·rw [one_ok l hl c n hd hc hbad]
   have:=Lib.decodeL_le l hl
   rw [hd] at this
   exact this
theorem unq_width : ∀ (f : Nat) (l acc : List UInt8) (i N : Nat),i + l.length = N → (unq f l acc i).2.2 = 0 → (unq f l acc i).2.1 ≤ N
 | 0,l,acc,i,N,hN,h => by
  unfold unq at h ⊢
  simp at h ⊢
 | f + 1,l,acc,i,N,hN,h => by
  unfold unq at h ⊢
  split
  ·next h1 => rw [if_pos h1] at h; simp at h
  ·next h1 =>
   rw [if_neg h1] at h
   have hp:=List.length_pos_iff.2 h1
   split
   ·next h2 =>
    rw [if_pos h2] at h
    split
    ·exact Nat.zero_le _
    ·dsimp only; omega
   ·next h2 =>
    rw [if_neg h2] at h
    split
    ·exact Nat.zero_le _
    ·next h3 =>
     rw [if_neg h3] at h
     have:=one_width l h1 (by simpa using h3)
     exact unq_width f _ _ _ N (by rw [List.length_drop]; omega) h
theorem unquote_width (l : List UInt8) (h : (unquote l).2.2 = 0) : (unquote l).2.1 ≤ l.length:=by
 unfold unquote at h ⊢
 split
 ·exact Nat.zero_le _
 ·next h1 =>
  rw [if_neg h1] at h
  split
  ·exact Nat.zero_le _
  ·next h2 =>
   rw [if_neg h2] at h
   have hp:=List.length_pos_iff.2 h1
   exact unq_width _ _ _ _ l.length (by rw [List.length_drop]; omega) h
end Str
namespace AX
def c_rkey : AX.AFn:=⟨101,aS [aR 2 (.alloc 222 [.int .i64 0,.int .i64 0,.str []])] (.seq (aS [aM 10 0,aR 11 (.nilck (.t 10)),aF 12 1 11,aL 13 12,aM 14 13,aG 15 (.mv (.t 0)) 14 false,aG 16 (.call 236 [.t 15,.c (.str [91])]) 14 false,aG 17 (.un .not (.t 16)) 14 false,aR 18 (.pick (.t 14) (.c (.bool true)) (.t 17))] (.cond (.t 18) (aS [aR 19 (.build [.int .i64 0,.int .i64 0,.str []] []),aU (.store 3 (.t 2) (.t 19))] (.ret)) (.skip))) (aS [aR 3 (.alloc 222 [.int .i64 0,.int .i64 0,.str []])] (.seq (aS [aM 20 0,aR 21 (.nilck (.t 20)),aF 22 0 21,aL 23 22,aR 24 (.call 95 [.t 23,.c (.str [34])])] (.cond (.t 24) (aS [aM 26 0,aR 27 (.nilck (.t 26)),aF 28 0 27,aL 29 28,aR 30 (.call 285 [.t 29]),aM 25 30,aE 31 25 0,aE 32 25 1,aE 33 25 2,aM 4 31,aM 5 32,aM 6 33] (.seq (.seq (.reg true [aM 34 6,⟨some 35,.bin .neq (.t 34) (aI 0),none,[0]⟩,⟨some 36,.mv (.t 35),none,[1]⟩,⟨some 37,.mv (.t 4),some (36,false),[2]⟩,⟨some 38,.call 286 [.t 37],some (36,false),[3,2,2]⟩,⟨some 39,.mv (.t 0),some (36,false),[2]⟩,⟨some 40,.nilck (.t 39),some (36,false),[5,2]⟩,⟨some 41,.faddr 0 (.t 40),some (36,false),[6,2]⟩,⟨some 42,.load false 1 (.t 41),some (36,false),[7,2]⟩,⟨some 43,.mv (.t 5),some (36,false),[2]⟩,⟨some 44,.ssl (.t 42) none (some (.t 43)),some (36,false),[8,9,2]⟩,⟨some 45,.bin .neq (.t 38) (.t 44),some (36,false),[4,10,2]⟩,⟨some 46,.pick (.t 36) (.c (.bool true)) (.t 45),none,[2,11]⟩]) (.cond (.t 46) (aS [aM 47 0,aR 48 (.nilck (.t 47)),aF 49 1 48,aU (.store 1 (.t 49) (.c (.bool true)))] (aS [aR 50 (.load true 3 (.t 3)),aU (.store 3 (.t 2) (.t 50))] (.ret))) (.skip))) (aS [aM 51 4,aR 52 (.build [.int .i64 0,.int .i64 0,.str []] [(0,1,aI 2),(2,1,.t 51)]),aU (.store 3 (.t 3) (.t 52))] (.reg false [aM 53 0,aM 54 0,aR 55 (.nilck (.t 54)),aF 56 0 55,aL 57 56,aM 58 5,aR 59 (.ssl (.t 57) (some (.t 58)) none),aR 60 (.nilck (.t 53)),aF 61 0 60,aU (.store 1 (.t 61) (.t 59))])))) (aS [aM 62 0,aR 63 (.nilck (.t 62)),aF 64 0 63,aL 65 64,aR 66 (.call 287 [.t 65,.c (.int .u8 93)]),aR 67 (.mm true (.t 66) (aI 0)),aM 7 67] (aS [aM 69 0,aR 70 (.nilck (.t 69)),aF 71 0 70,aL 72 71,aM 73 7,aR 74 (.ssl (.t 72) none (some (.t 73))),aR 75 (.call 229 [.t 74]),aM 68 75,aE 76 68 0,aE 77 68 1,aM 8 76,aM 9 77] (aS [aM 78 0,aM 79 9,aR 80 (.bin .neq (.t 79) (aI 0)),aM 81 80,aG 82 (.mv (.t 8)) 81 false,aG 83 (.bin .lss (.t 82) (aI 0)) 81 false,aR 84 (.pick (.t 81) (.c (.bool true)) (.t 83)),aR 85 (.nilck (.t 78)),aF 86 1 85,aU (.store 1 (.t 86) (.t 84))] (aS [aM 87 8,aR 88 (.build [.int .i64 0,.int .i64 0,.str []] [(0,1,aI 1),(1,1,.t 87)]),aU (.store 3 (.t 3) (.t 88))] (.reg false [aM 89 0,aM 90 0,aR 91 (.nilck (.t 90)),aF 92 0 91,aL 93 92,aM 94 7,aR 95 (.ssl (.t 93) (some (.t 94)) none),aR 96 (.nilck (.t 89)),aF 97 0 96,aU (.store 1 (.t 97) (.t 95))]))))))) (aS [aM 98 0,aR 99 (.call 238 [.t 98,.c (.str [93])])] (aS [aR 100 (.load true 3 (.t 3)),aU (.store 3 (.t 2) (.t 100))] (.ret)))))),[.c 2 true 3]⟩
theorem h_rkey : AX.compFn Tryz.prog 240 = some c_rkey:=by kernel_rfl
def c_rstep : AX.AFn:=⟨11,aS [aR 2 (.alloc 273 [.str [],.int .i64 0,.int .i64 0,.str []])] (aS [aM 4 0,aR 5 (.call 239 [.t 4]),aR 6 (.build [.str [],.int .i64 0,.int .i64 0,.str []] [(0,1,.t 5)]),aR 3 (.alloc 273 [.str [],.int .i64 0,.int .i64 0,.str []]),aU (.store 4 (.t 3) (.t 6))] (aS [aM 7 0,aR 8 (.call 240 [.t 7]),aF 9 1 3,aU (.store 3 (.t 9) (.t 8))] (aS [aR 10 (.load true 4 (.t 3)),aU (.store 4 (.t 2) (.t 10))] (.ret)))),[.c 2 true 4]⟩
theorem h_rstep : AX.compFn Tryz.prog 237 = some c_rstep:=by kernel_rfl
theorem glob_of {w : World} (g : GT w) : Glob w:=⟨g.tabs,g.tz⟩
theorem a_unquote (s : List UInt8) (hs : s.length ≤ 2000000) (h : Hp) : ACall Tryz.prog GT 285 [.str s] h fun r h' => r = .tup [.str (Str.unquote s).1,.int .i64 (Str.unquote s).2.1,.int .i64 (Str.unquote s).2.2] ∧ h' = h:=
 acall_imp (args1 r_str) (fun w hg => unquote_any ⟨s.toArray⟩ w (by rw [size_mk]; exact hs) (glob_of hg)) (fun C => rep_tup.2 ⟨_,rfl,repL_cons.2 ⟨_,_,rfl,rep_str.2 rfl,repL_cons.2 ⟨_,_,rfl,rep_int.2 rfl,repL_cons.2 ⟨_,_,rfl,rep_int.2 rfl,repL_nil.2 rfl⟩⟩⟩⟩) h
theorem a_quote (s : List UInt8) (hs : s.length ≤ 2000000) (h : Hp) : ACall Tryz.prog GT 286 [.str s] h fun r h' => r = .str (Str.quote s) ∧ h' = h:=
 acall_imp (args1 r_str) (fun w hg => quote_any ⟨s.toArray⟩ w (by rw [size_mk]; exact hs) (glob_of hg)) (fun C => rep_str.2 rfl) h
theorem pre_begins (s p : List UInt8) : (decide (p.length ≤ s.length) && s.take p.length == p) = Adr.begins s p:=by
 unfold Adr.begins
 rw [Bool.eq_iff_iff,List.isPrefixOf_iff_prefix,List.prefix_iff_eq_take,Bool.and_eq_true,decide_eq_true_eq,beq_iff_eq]
 constructor
 ·rintro ⟨h1,h2⟩; exact h2.symm
 ·intro h2
  exact ⟨by have:=congrArg List.length h2; rw [List.length_take] at this; omega,h2.symm⟩
theorem w_key (r : Adr.Rd) (hl : r.rest.length ≤ 2000000) {h : Hp} {i : Nat} (hb : h.b[i]? = some (adB r)) :
  ACall Tryz.prog GT 240 [.ptr i 0] h fun v h' => v = Adr.K.A (Adr.keyP r).1 ∧ h' = ⟨h.b.set i (adB (Adr.keyP r).2),h.t⟩:=by
 have key : ACall Tryz.prog GT 240 [.ptr 0 0] ⟨[adB r],[]⟩ fun v h' => ∃ b',h'.b[0]? = some b' ∧ v = Adr.K.A (Adr.keyP r).1 ∧ b' = adB (Adr.keyP r).2:=by
  refine acall_of mixedT h_rkey (by simp [c_rkey]) ?_
  dsimp only [c_rkey]
  have hh:=fun h hb => w_has [91] r (h:=h) (i:=0) hb
  obtain ⟨Z,hZ⟩ : ∃ Z,Adr.keyP r = Z:=⟨_,rfl⟩
  rw [hZ]
  unfold Adr.keyP at hZ
  unfold Adr.hasP at hh
  unfold adB at hh ⊢
  obtain ⟨rest,bad⟩:=r
  dsimp only at hl hh hZ
  cases bad
  rotate_left
  ·rw [if_pos rfl] at hZ
   subst hZ
   refine run0 ti ?_
   exact ⟨_,le_refl _,_,rfl,rfl,rfl⟩
  rw [if_neg (by decide)] at hZ
  refine run0 ti ?_
  refine use (hh _ rfl) ?_
  cases hB : Adr.begins rest [91]
  ·rw [hB,if_pos rfl] at hZ
   subst hZ
   refine run0 ti ?_
   exact ⟨_,le_refl _,_,rfl,rfl,rfl⟩
  rw [hB,if_neg (by decide)] at hZ
  obtain ⟨t,ht⟩ : ∃ t,rest.drop 1 = t:=⟨_,rfl⟩
  have ht1 : rest.drop [91].length = t:=ht
  have htl : t.length ≤ 2000000:=by rw [← ht,List.length_drop]; omega
  rw [ht] at hZ
  have hp:=fun h => a_hasPrefix t [34] h
  rw [pre_begins] at hp
  have hu:=fun h => a_unquote t htl h
  have hsk:=fun (q : Adr.Rd) h hb => w_skip [93] q (h:=h) (i:=0) hb
  unfold adB at hsk
  refine run0 (ai ht1 ht) ?_
  refine use (hp _) ?_
  cases hQ : Adr.begins t [34]
  ·rw [hQ,if_neg (by decide)] at hZ
   refine run0 ti ?_
   refine use (a_indexByte t _) ?_
   have hk:=Adr.indexByte_key t
   obtain ⟨n,hn,hnle,hix⟩ : ∃ n : Nat,(if t.all (· != 93) then 0 else (t.takeWhile (· != 93)).length) = n ∧ n ≤ t.length ∧ (Lib.indexByte t 93 = (n : Int) ∨ (Lib.indexByte t 93 = -1 ∧ n = 0)):=by
    rcases hk with ⟨k1,k2⟩ | ⟨k1,k2,k3⟩
    ·exact ⟨0,by rw [if_pos k1],Nat.zero_le _,.inr ⟨k2,rfl⟩⟩
    ·exact ⟨_,by rw [k1,if_neg (by decide)],k3,.inl k2⟩
   rw [hn] at hZ
   have hmax : (if (0 : Int) > Lib.indexByte t 93 then 0 else Lib.indexByte t 93) = (n : Int):=by
    rcases hix with e | ⟨e,e2⟩
    ·rw [e,if_neg (by omega)]
    ·rw [e,e2]; rfl
   have htk : (t.take n).length ≤ 2000000:=by rw [List.length_take]; omega
   have hnp:=fun h => a_numParse (t.take n) htk h
   have l0 : (0 : Int) ≤ (n : Int):=by omega
   have l1 : (n : Int) ≤ (t.length : Int):=by omega
   obtain ⟨⟨x,e⟩,hx⟩ : ∃ q,Num.parse (t.take n) = q:=⟨_,rfl⟩
   rw [hx] at hnp hZ
   dsimp only at hnp hZ
   refine run0 (ai hmax (ai l0 l1)) ?_
   refine use (hnp _) ?_
   have hbad : ∃ b,(e != 0 || decide (x < 0)) = b:=⟨_,rfl⟩
   obtain ⟨b,hb⟩:=hbad
   rw [hb] at hZ
   subst hZ
   by_cases he : e = 0
   ·have e1 : (e != 0) = false:=by simp [he]
    rw [e1,Bool.false_or] at hb
    refine run0 (ai e1 (ai hb (ai l0 l1))) ?_
    refine use (hsk ⟨t.drop n,b⟩ _ rfl) ?_
    refine run0 ti ?_
    exact ⟨_,le_refl _,_,rfl,rfl,rfl⟩
   ·have e1 : (e != 0) = true:=by simp [he]
    rw [e1,Bool.true_or] at hb
    subst hb
    refine run0 (ai e1 (ai l0 l1)) ?_
    refine use (hsk ⟨t.drop n,true⟩ _ rfl) ?_
    refine run0 ti ?_
    exact ⟨_,le_refl _,_,rfl,rfl,rfl⟩
  ·rw [hQ,if_pos rfl] at hZ
   refine run0 ti ?_
   refine use (hu _) ?_
   have hw:=Str.unquote_width t
   have hv:=Str.unquote_valid t
   obtain ⟨⟨us,un,ue⟩,hue⟩ : ∃ q,Str.unquote t = q:=⟨_,rfl⟩
   rw [hue] at hZ hw hv ⊢
   dsimp only at hZ hw hv ⊢
   by_cases he : ue = 0
   rotate_left
   ·have e1 : (ue != 0) = true:=by simp [he]
    rw [if_pos (.inl he)] at hZ
    subst hZ
    refine run0 e1 ?_
    exact ⟨_,le_refl _,_,rfl,rfl,rfl⟩
   have e1 : (ue != 0) = false:=by simp [he]
   have hul : us.length ≤ 2000000:=by
    have:=hv he
    unfold Str.valid at this
    rw [Bool.and_eq_true,decide_eq_true_eq] at this
    omega
   have l1 : (un : Int) ≤ (t.length : Int):=by have:=hw he; omega
   have l0 : (0 : Int) ≤ (un : Int):=by omega
   refine run0 (ai e1 (ai l0 l1)) ?_
   refine use (a_quote us hul _) ?_
   cases hne : Str.quote us != t.take un
   ·rw [if_neg (by rintro (h | h); exact h he; rw [bne_eq_false_iff_eq] at hne; exact h hne)] at hZ
    subst hZ
    refine run0 (ai e1 (ai hne (ai l0 l1))) ?_
    refine use (hsk ⟨t.drop un,false⟩ _ rfl) ?_
    refine run0 ti ?_
    exact ⟨_,le_refl _,_,rfl,rfl,rfl⟩
   ·rw [if_pos (.inr (bne_iff_ne.1 hne))] at hZ
    subst hZ
    refine run0 (ai e1 (ai hne (ai l0 l1))) ?_
    exact ⟨_,le_refl _,_,rfl,rfl,rfl⟩
 refine (ACall.lift1 key rfl (adB_loc r) ?_ hb).mono ?_
 ·rintro v b' ⟨rfl,rfl⟩; exact ⟨rfl,adB_loc _⟩
 ·rintro v h' ⟨b',⟨rfl,rfl⟩,rfl⟩; exact ⟨rfl,rfl⟩
end AX
namespace Adr
theorem has_len (p : List UInt8) (r : Rd) : (hasP p r).2.rest.length ≤ r.rest.length:=by
 unfold hasP; split
 ·rw [List.length_drop]; omega
 ·exact Nat.le_refl _
theorem has_less (p : List UInt8) (r : Rd) (h : begins r.rest p = true) : (hasP p r).2.rest.length + p.length = r.rest.length:=by
 have:=begins_len h
 unfold hasP; rw [if_pos h]; dsimp only; rw [List.length_drop]; omega
theorem takeW_len {p : UInt8 → Bool} (s : List UInt8) : (s.takeWhile p).length ≤ s.length:=List.Sublist.length_le (List.takeWhile_sublist p)
theorem dropW_len {p : UInt8 → Bool} (s : List UInt8) : (s.dropWhile p).length ≤ s.length:=List.Sublist.length_le (List.dropWhile_sublist p)
theorem word_len (r : Rd) : (wordP r).2.rest.length ≤ r.rest.length ∧ (wordP r).1.length ≤ r.rest.length:=⟨dropW_len _,takeW_len _⟩
theorem skip_len (p : List UInt8) (r : Rd) : (skipP p r).rest.length ≤ r.rest.length:=by
 unfold skipP; split
 ·dsimp only; rw [List.length_drop]; omega
 ·exact Nat.le_refl _
theorem key_len (r : Rd) : (keyP r).2.rest.length ≤ r.rest.length:=by
 unfold keyP
 split
 ·exact Nat.le_refl _
 ·split
  ·exact Nat.le_refl _
  ·dsimp only
   split
   ·split
    ·dsimp only; rw [List.length_drop]; omega
    ·refine Nat.le_trans (skip_len _ _) ?_
     dsimp only; rw [List.length_drop,List.length_drop]; omega
   ·refine Nat.le_trans (skip_len _ _) ?_
    dsimp only; rw [List.length_drop,List.length_drop]; omega
theorem step_len (r : Rd) : (stepP r).2.rest.length ≤ r.rest.length:=Nat.le_trans (key_len _) (word_len r).1
end Adr
namespace AX
def c_aparse : AX.AFn:=⟨65,aS [aR 2 (.alloc 224 [.sl 0 .nil [],.bool false,.str [],.str [],.int .i64 0,.int .i64 0,.str []]),aR 3 (.mv (aI 0))] (aS [aM 6 0,aR 7 (.build [.str [],.bool false] [(0,1,.t 6)]),aR 8 (.box 271 (.t 7)),aM 4 8] (aS [aR 5 (.alloc 224 [.sl 0 .nil [],.bool false,.str [],.str [],.int .i64 0,.int .i64 0,.str []])] (.seq (.block 0 (.loop (.seq (aS [aM 9 4,aR 10 (.nilck (.t 9)),aF 11 1 10,aL 12 11,aR 13 (.un .not (.t 12)),aM 14 13,aG 15 (.mv (.t 4)) 14 true,aG 16 (.call 236 [.t 15,.c (.str [109,111,100,117,108,101,46])]) 14 true,aR 17 (.pick (.t 14) (.t 16) (.c (.bool false)))] (.cond (.t 17) (.skip) (.exit 0))) (.block 1 (.seq (.reg true [aF 18 0 5,⟨some 19,.load false 1 (.t 18),none,[0]⟩,aM 20 4,⟨some 21,.call 237 [.t 20],none,[2]⟩,⟨some 22,.mks 4 [.t 21],none,[3]⟩,⟨some 23,.app 273 4 48 (.t 19) (.t 22),none,[1,4,3]⟩,⟨some 24,.faddr 0 (.t 5),none,[0,1,2,3,4,5]⟩,⟨none,.store 1 (.t 24) (.t 23),none,[6,5,5,0,1,2,3,4,5]⟩]) (.reg false [aM 25 4,aR 26 (.call 238 [.t 25,.c (.str [46])])])))))) (aS [aM 27 4,aR 28 (.call 236 [.t 27,.c (.str [100,97,116,97,46])]),aF 29 1 5,aU (.store 1 (.t 29) (.t 28))] (aS [aM 30 4,aR 31 (.call 239 [.t 30]),aF 32 2 5,aU (.store 1 (.t 32) (.t 31))] (aS [aM 33 4,aR 34 (.call 238 [.t 33,.c (.str [46])])] (aS [aM 35 4,aR 36 (.call 239 [.t 35]),aF 37 3 5,aU (.store 1 (.t 37) (.t 36))] (aS [aM 38 4,aR 39 (.call 240 [.t 38]),aF 40 4 5,aU (.store 3 (.t 40) (.t 39))] (.seq (aS [aM 41 4,aR 42 (.nilck (.t 41)),aF 43 1 42,aL 44 43,aM 45 44,aG 46 (.mv (.t 4)) 45 false,aG 47 (.nilck (.t 46)) 45 false,aG 48 (.faddr 0 (.t 47)) 45 false,aG 49 (.load false 1 (.t 48)) 45 false,aG 50 (.bin .neq (.t 49) (.c (.str []))) 45 false,aR 51 (.pick (.t 45) (.c (.bool true)) (.t 50)),aM 52 51,aG 53 (.faddr 2 (.t 5)) 52 false,aG 54 (.load false 1 (.t 53)) 52 false,aG 55 (.call 241 [.t 54]) 52 false,aG 56 (.un .not (.t 55)) 52 false,aR 57 (.pick (.t 52) (.c (.bool true)) (.t 56))] (.cond (.t 57) (aS [aR 58 (.build [.sl 0 .nil [],.bool false,.str [],.str [],.int .i64 0,.int .i64 0,.str []] []),aU (.store 7 (.t 2) (.t 58)),aR 3 (.mv (aI 2))] (.ret)) (.skip))) (.seq (aS [aF 59 0 5,aL 60 59,aR 61 (.len false (.t 60)),aR 62 (.bin .gtr (.t 61) (aI 16))] (.cond (.t 62) (aS [aR 63 (.build [.sl 0 .nil [],.bool false,.str [],.str [],.int .i64 0,.int .i64 0,.str []] []),aU (.store 7 (.t 2) (.t 63)),aR 3 (.mv (aI 4))] (.ret)) (.skip))) (aS [aR 64 (.load true 7 (.t 5)),aU (.store 7 (.t 2) (.t 64)),aR 3 (.mv (aI 0))] (.ret)))))))))))),[.c 2 true 7,.t 3]⟩
theorem h_aparse : AX.compFn Tryz.prog 183 = some c_aparse:=by kernel_rfl
theorem w_step (r : Adr.Rd) (hl : r.rest.length ≤ 2000000) {h : Hp} {i : Nat} (hb : h.b[i]? = some (adB r)) :
  ACall Tryz.prog GT 237 [.ptr i 0] h fun v h' => v = .agg (Adr.stepP r).1.cells ∧ h' = ⟨h.b.set i (adB (Adr.stepP r).2),h.t⟩:=by
 have key : ACall Tryz.prog GT 237 [.ptr 0 0] ⟨[adB r],[]⟩ fun v h' => ∃ b',h'.b[0]? = some b' ∧ v = .agg (Adr.stepP r).1.cells ∧ b' = adB (Adr.stepP r).2:=by
  refine acall_of mixedT h_rstep (by simp [c_rstep]) ?_
  dsimp only [c_rstep]
  have hw:=fun h hb => w_word r hl (h:=h) (i:=0) hb
  have hk:=fun h hb => w_key (Adr.wordP r).2 (Nat.le_trans (Adr.word_len r).1 hl) (h:=h) (i:=0) hb
  have hS : Adr.stepP r = (⟨(Adr.wordP r).1,(Adr.keyP (Adr.wordP r).2).1⟩,(Adr.keyP (Adr.wordP r).2).2):=rfl
  rw [hS]
  obtain ⟨⟨w,r1⟩,h1⟩ : ∃ q,Adr.wordP r = q:=⟨_,rfl⟩
  rw [h1] at hw hk ⊢
  dsimp only at hw hk ⊢
  obtain ⟨⟨⟨kd,kn,ks⟩,r2⟩,h2⟩ : ∃ q,Adr.keyP r1 = q:=⟨_,rfl⟩
  rw [h2] at hk ⊢
  dsimp only [Adr.K.A] at hk ⊢
  unfold adB at hw hk ⊢
  refine run0 ti ?_
  refine use (hw _ rfl) ?_
  refine run0 ti ?_
  refine use (hk _ rfl) ?_
  refine run0 ti ?_
  exact ⟨_,le_refl _,_,rfl,rfl,rfl⟩
 refine (ACall.lift1 key rfl (adB_loc r) ?_ hb).mono ?_
 ·rintro v b' ⟨rfl,rfl⟩; exact ⟨rfl,adB_loc _⟩
 ·rintro v h' ⟨b',⟨rfl,rfl⟩,rfl⟩; exact ⟨rfl,rfl⟩
theorem a_parse (s : List UInt8) (hs : s.length ≤ 2000000) (h : Hp) : ACall Tryz.prog GT 183 [.str s] h fun r h' => r = .tup [.agg (Adr.parse s).1.cells,.int .i64 (Adr.parse s).2] ∧ h' = h:=by
 rw [← Adr.parse_eq]
 refine pcall ?_ rfl (by simp [A.pure,A.data]) h
 refine acall_of mixedT h_aparse (by simp [c_aparse]) ?_
 dsimp only [c_aparse]
 obtain ⟨⟨M,RM⟩,hM⟩ : ∃ q,Adr.modsP (s.length + 1) ⟨s,false⟩ [] = q:=⟨_,rfl⟩
 obtain ⟨F,hF⟩ : ∃ F,Adr.parseP s = F:=⟨_,rfl⟩
 rw [hF]
 unfold Adr.parseP at hF
 rw [hM] at hF
 dsimp only at hF
 refine run0 ti ?_
 refine awp_loop (fun mm ts h => ∃ (r : Adr.Rd) (l : List Adr.Step) (W : Nat) (o : Own) (t : List (TypeId × Nat × Nat)),r.rest.length < mm ∧ mm + l.length = s.length + 1 ∧ Adr.modsP mm r l = (M,RM) ∧
  h = ⟨[.cells 224 [.sl 0 .nil [],.bool false,.str [],.str [],.int .i64 0,.int .i64 0,.str []],.cells 271 [.str r.rest,.bool r.bad],.cells 224 [.sl W o (l.map Adr.Step.cells),.bool false,.str [],.str [],.int .i64 0,.int .i64 0,.str []]],t⟩ ∧
  Gs 273 4 0 ⟨[],t⟩ (l.map Adr.Step.cells) (.sl W o (l.map Adr.Step.cells)) ∧ ts 2 = .ptr 0 0 ∧ ts 3 = .int .i64 0 ∧ ts 4 = .ptr 1 0 ∧ ts 5 = .ptr 2 0) (s.length + 1) ?_ ?_
 ·exact ⟨⟨s,false⟩,[],0,.nil,[],by dsimp only; omega,by simp,hM,rfl,.inl ⟨rfl,rfl⟩,by (exact ev0 ti),by (exact ev0 ti),by (exact ev0 ti),by (exact ev0 ti)⟩
 rintro mm ts h ⟨r,l,W,o,t,hrm,hml,hmod,rfl,gX,t2,t3,t4,t5⟩
 cases mm with
 | zero => omega
 | succ f =>
 unfold Adr.modsP at hmod
 by_cases hgo : r.bad = false ∧ Adr.begins r.rest Adr.modW = true
 ·rw [if_pos hgo] at hmod
  have hmw : Adr.modW = [109,111,100,117,108,101,46]:=rfl
  have cH:=fun h hb => w_has Adr.modW r (h:=h) (i:=1) hb
  have l1:=Adr.has_less Adr.modW r hgo.2
  have hh1 : (Adr.hasP Adr.modW r).1 = true:=by unfold Adr.hasP; rw [if_pos hgo.2]
  rw [hh1] at cH
  have l7 : Adr.modW.length = 7:=rfl
  have hr0 : r.bad = false:=hgo.1
  obtain ⟨r1,hr1⟩ : ∃ q,(Adr.hasP Adr.modW r).2 = q:=⟨_,rfl⟩
  rw [hr1] at cH l1 hmod
  have cS:=fun h hb => w_step r1 (by omega) (h:=h) (i:=1) hb
  have l2:=Adr.step_len r1
  obtain ⟨⟨⟨nm,⟨kd,kn,ks⟩⟩,r2⟩,hr2⟩ : ∃ q,Adr.stepP r1 = q:=⟨_,rfl⟩
  rw [hr2] at cS l2 hmod
  dsimp only [Adr.Step.cells] at cS l2 hmod
  have cK:=fun h hb => w_skip [46] r2 (h:=h) (i:=1) hb
  have l3:=Adr.skip_len [46] r2
  obtain ⟨r3,hr3⟩ : ∃ q,Adr.skipP [46] r2 = q:=⟨_,rfl⟩
  rw [hr3] at cK l3 hmod
  unfold adB at cH cS cK
  rw [hmw] at cH
  rw [hr0] at cH
  obtain ⟨W',o',t',hX,gX',_⟩:=gX.grow 48 [.str nm,.int .i64 kd,.int .i64 kn,.str ks] (by rw [List.length_map]; omega) (by decide)
  have hcat : l.map Adr.Step.cells ++ [[.str nm,.int .i64 kd,.int .i64 kn,.str ks]] = (l ++ [(⟨nm,⟨kd,kn,ks⟩⟩ : Adr.Step)]).map Adr.Step.cells:=by rw [List.map_append]; rfl
  rw [hcat] at gX'
  simp only [hcat] at hX
  rw [hr0]
  refine run0 (ai t2 (ai t3 (ai t4 t5))) ?_
  refine use (cH _ rfl) ?_
  refine run0 (ai t2 (ai t3 (ai t4 t5))) ?_
  refine use (cS _ rfl) ?_
  refine run0 (ai t2 (ai t3 (ai t4 (ai t5 hX)))) ?_
  refine use (cK _ rfl) ?_
  refine run0 (ai t2 (ai t3 (ai t4 t5))) ?_
  exact ⟨f,by omega,r3,l ++ [(⟨nm,⟨kd,kn,ks⟩⟩ : Adr.Step)],W',o',t',by omega,by simp; omega,hmod,rfl,gX',by (exact ev0 t2),by (exact ev0 t3),by (exact ev0 t4),by (exact ev0 t5)⟩
 ·rw [if_neg hgo] at hmod
  injection hmod with hm1 hm2
  subst hm1; subst hm2
  have cD:=fun h hb => w_has Adr.dataW r (h:=h) (i:=1) hb
  have l1:=Adr.has_len Adr.dataW r
  obtain ⟨⟨dt,r1⟩,hr1⟩ : ∃ q,Adr.hasP Adr.dataW r = q:=⟨_,rfl⟩
  rw [hr1] at cD l1 hF
  dsimp only at cD l1 hF
  have cT:=fun h hb => w_word r1 (by omega) (h:=h) (i:=1) hb
  have l2:=Adr.word_len r1
  obtain ⟨⟨ty,r2⟩,hr2⟩ : ∃ q,Adr.wordP r1 = q:=⟨_,rfl⟩
  rw [hr2] at cT l2 hF
  dsimp only at cT l2 hF
  have cK:=fun h hb => w_skip [46] r2 (h:=h) (i:=1) hb
  have l3:=Adr.skip_len [46] r2
  obtain ⟨r3,hr3⟩ : ∃ q,Adr.skipP [46] r2 = q:=⟨_,rfl⟩
  rw [hr3] at cK l3 hF
  have cN:=fun h hb => w_word r3 (by omega) (h:=h) (i:=1) hb
  have l4:=Adr.word_len r3
  obtain ⟨⟨na,r4⟩,hr4⟩ : ∃ q,Adr.wordP r3 = q:=⟨_,rfl⟩
  rw [hr4] at cN l4 hF
  dsimp only at cN l4 hF
  have cY:=fun h hb => w_key r4 (by omega) (h:=h) (i:=1) hb
  have l5:=Adr.key_len r4
  obtain ⟨⟨⟨kd,kn,ks⟩,⟨re,ba⟩⟩,hr5⟩ : ∃ q,Adr.keyP r4 = q:=⟨_,rfl⟩
  rw [hr5] at cY l5 hF
  dsimp only [Adr.K.A] at cY l5 hF
  have ck:=fun h => a_kind ty (by omega) h
  unfold adB at cD cT cK cN cY
  have hdw : Adr.dataW = [100,97,116,97,46]:=rfl
  rw [hdw] at cD
  have start : ∀ {G : Prop},(r.bad = true → G) → (r.bad = false → Adr.begins r.rest Adr.modW = false → G) → G:=fun p q => by
   cases hb : r.bad
   ·refine q hb ?_
    cases hB : Adr.begins r.rest Adr.modW
    ·rfl
    ·exact absurd ⟨hb,hB⟩ hgo
   ·exact p hb
  have lx:=Gs.le gX
  refine start (fun hb => ?_) (fun hb hB => ?_)
  ·rw [hb] at cD ⊢
   refine run0 (ai t2 (ai t3 (ai t4 t5))) ?_
   refine use (cD _ rfl) ?_
   refine run0 (ai t2 (ai t3 (ai t4 t5))) ?_
   refine use (cT _ rfl) ?_
   refine run0 (ai t2 (ai t3 (ai t4 t5))) ?_
   refine use (cK _ rfl) ?_
   refine run0 (ai t2 (ai t3 (ai t4 t5))) ?_
   refine use (cN _ rfl) ?_
   refine run0 (ai t2 (ai t3 (ai t4 t5))) ?_
   refine use (cY _ rfl) ?_
   have zle : leL [.sl 0 .nil [],.bool false,.str [],.str [],.int .i64 0,.int .i64 0,.str []] Adr.Ad.zero.cells:=⟨⟨rfl,.inr rfl,.inl rfl⟩,rfl,rfl,rfl,rfl,rfl,rfl,trivial⟩
   cases ba
   rotate_left
   ·rw [if_pos (.inl rfl)] at hF
    subst hF
    refine run0 (ai t2 (ai t3 (ai t4 t5))) ?_
    exact ⟨.tup [.agg Adr.Ad.zero.cells,.int .i64 2],⟨zle,rfl,trivial⟩,rfl⟩
   cases hre : re != []
   rotate_left
   ·rw [if_pos (.inr (.inl (bne_iff_ne.1 hre)))] at hF
    subst hF
    refine run0 (ai t2 (ai t3 (ai t4 (ai t5 hre)))) ?_
    exact ⟨.tup [.agg Adr.Ad.zero.cells,.int .i64 2],⟨zle,rfl,trivial⟩,rfl⟩
   refine run0 (ai t2 (ai t3 (ai t4 (ai t5 hre)))) ?_
   refine use (ck _) ?_
   cases hkb : Adr.kindB ty
   ·rw [if_pos (.inr (.inr hkb))] at hF
    subst hF
    refine run0 (ai t2 (ai t3 (ai t4 t5))) ?_
    exact ⟨.tup [.agg Adr.Ad.zero.cells,.int .i64 2],⟨zle,rfl,trivial⟩,rfl⟩
   rw [if_neg (by rintro (h | h | h); cases h; rw [bne_eq_false_iff_eq] at hre; exact h hre; rw [hkb] at h; cases h)] at hF
   have lm : (l.map Adr.Step.cells).length = l.length:=List.length_map ..
   by_cases hlen : (l.length : Int) > 16
   ·rw [if_pos (by omega)] at hF
    subst hF
    refine run0 (ai t2 (ai t3 (ai t4 (ai t5 (ai lm hlen))))) ?_
    exact ⟨.tup [.agg Adr.Ad.zero.cells,.int .i64 4],⟨zle,rfl,trivial⟩,rfl⟩
   ·rw [if_neg (by omega)] at hF
    subst hF
    refine run0 (ai t2 (ai t3 (ai t4 (ai t5 (ai lm hlen))))) ?_
    exact ⟨.tup [.agg (Adr.Ad.cells ⟨l,dt,ty,na,⟨kd,kn,ks⟩⟩),.int .i64 0],⟨⟨lx,rfl,rfl,rfl,rfl,rfl,rfl,trivial⟩,rfl,trivial⟩,rfl⟩
  ·rw [hb] at cD ⊢
   have cH:=fun h hb => w_has Adr.modW r (h:=h) (i:=1) hb
   have hh1 : Adr.hasP Adr.modW r = (false,r):=by unfold Adr.hasP; rw [hB,if_neg (by decide)]
   have hmw : Adr.modW = [109,111,100,117,108,101,46]:=rfl
   rw [hh1,hmw] at cH
   unfold adB at cH
   rw [hb] at cH
   refine run0 (ai t2 (ai t3 (ai t4 t5))) ?_
   refine use (cH _ rfl) ?_
   refine run0 (ai t2 (ai t3 (ai t4 t5))) ?_
   refine use (cD _ rfl) ?_
   refine run0 (ai t2 (ai t3 (ai t4 t5))) ?_
   refine use (cT _ rfl) ?_
   refine run0 (ai t2 (ai t3 (ai t4 t5))) ?_
   refine use (cK _ rfl) ?_
   refine run0 (ai t2 (ai t3 (ai t4 t5))) ?_
   refine use (cN _ rfl) ?_
   refine run0 (ai t2 (ai t3 (ai t4 t5))) ?_
   refine use (cY _ rfl) ?_
   have zle : leL [.sl 0 .nil [],.bool false,.str [],.str [],.int .i64 0,.int .i64 0,.str []] Adr.Ad.zero.cells:=⟨⟨rfl,.inr rfl,.inl rfl⟩,rfl,rfl,rfl,rfl,rfl,rfl,trivial⟩
   cases ba
   rotate_left
   ·rw [if_pos (.inl rfl)] at hF
    subst hF
    refine run0 (ai t2 (ai t3 (ai t4 t5))) ?_
    exact ⟨.tup [.agg Adr.Ad.zero.cells,.int .i64 2],⟨zle,rfl,trivial⟩,rfl⟩
   cases hre : re != []
   rotate_left
   ·rw [if_pos (.inr (.inl (bne_iff_ne.1 hre)))] at hF
    subst hF
    refine run0 (ai t2 (ai t3 (ai t4 (ai t5 hre)))) ?_
    exact ⟨.tup [.agg Adr.Ad.zero.cells,.int .i64 2],⟨zle,rfl,trivial⟩,rfl⟩
   refine run0 (ai t2 (ai t3 (ai t4 (ai t5 hre)))) ?_
   refine use (ck _) ?_
   cases hkb : Adr.kindB ty
   ·rw [if_pos (.inr (.inr hkb))] at hF
    subst hF
    refine run0 (ai t2 (ai t3 (ai t4 t5))) ?_
    exact ⟨.tup [.agg Adr.Ad.zero.cells,.int .i64 2],⟨zle,rfl,trivial⟩,rfl⟩
   rw [if_neg (by rintro (h | h | h); cases h; rw [bne_eq_false_iff_eq] at hre; exact h hre; rw [hkb] at h; cases h)] at hF
   have lm : (l.map Adr.Step.cells).length = l.length:=List.length_map ..
   by_cases hlen : (l.length : Int) > 16
   ·rw [if_pos (by omega)] at hF
    subst hF
    refine run0 (ai t2 (ai t3 (ai t4 (ai t5 (ai lm hlen))))) ?_
    exact ⟨.tup [.agg Adr.Ad.zero.cells,.int .i64 4],⟨zle,rfl,trivial⟩,rfl⟩
   ·rw [if_neg (by omega)] at hF
    subst hF
    refine run0 (ai t2 (ai t3 (ai t4 (ai t5 (ai lm hlen))))) ?_
    exact ⟨.tup [.agg (Adr.Ad.cells ⟨l,dt,ty,na,⟨kd,kn,ks⟩⟩),.int .i64 0],⟨⟨lx,rfl,rfl,rfl,rfl,rfl,rfl,trivial⟩,rfl,trivial⟩,rfl⟩
end AX
end Go.Proofs.YteklhoajalgehaaGreatDoor
