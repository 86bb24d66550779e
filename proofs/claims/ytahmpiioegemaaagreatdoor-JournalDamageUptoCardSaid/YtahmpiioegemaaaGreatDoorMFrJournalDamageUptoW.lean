/- Part of what the proof needs. -/
import Derived.Test.YtahmpiioegemaaaGreatDoorMFrJournalDamageUptoI
import Derived.Test.YtahmpiioegemaaaGreatDoorMFrJournalDamageUptoP
import Derived.Test.YtahmpiioegemaaaGreatDoorMFrJournalDamageUptoR
import Derived.Test.YtahmpiioegemaaaGreatDoorMFrJournalDamageUptoS
import Derived.Test.YtahmpiioegemaaaGreatDoorMFrJournalDamageUptoU
import Derived.Test.YtahmpiioegemaaaGreatDoorMFrJournalDamageUptoV
import Derived.Laws.BitsAllLaws
set_option maxHeartbeats 4000000
set_option linter.unusedSimpArgs false
set_option linter.unusedVariables false
set_option linter.unnecessarySimpa false
namespace Go.Proofs.YtahmpiioegemaaaGreatDoor
open Go.RowKit
def hitK (l:List UInt8) (p m:Nat):Nat→List UInt8
 | 0=>l
 | i+1=>hit1 (hitK l p m i) (p+i) (UInt8.ofNat (m / 2 ^ (8*i)))
theorem hitK_len (l:List UInt8) (p m:Nat):∀ i,(hitK l p m i).length=l.length
 | 0=>rfl
 | i+1=>by
  show (hit1 _ _ _).length=_
  unfold hit1
  rw [List.length_set,hitK_len l p m i]
theorem hitK_four (l:List UInt8) (p m:Nat):hitK l p m 4=hit l p m:=by
 simp [hitK,hit]
namespace AX
theorem bcA_len (l:List UInt8):(bcA l).length=l.length:=by simp [bcA]
theorem bcA_set (l:List UInt8) (i:Nat) (x:UInt8):bcA (hit1 l i x)=(bcA l).set i (.int .u8 ((l.getD i 0 ^^^ x).toNat:Nat)):=by
 unfold hit1 bcA
 rw [List.map_set]
theorem bcA_get (l:List UInt8) (i:Nat) (h:i < l.length):(((bcA l).drop i).take 1)[0]?=some (.int .u8 ((l.getD i 0).toNat:Nat)):=by
 rw [List.getElem?_take_of_lt (by decide),List.getElem?_drop,Nat.add_zero]
 unfold bcA
 rw [List.getElem?_map,List.getElem?_eq_getElem h,Option.map_some,List.getD_eq_getElem?_getD,List.getElem?_eq_getElem h,Option.getD_some]
theorem xor_byte (b:UInt8) (m i:Nat) (hm:m < 4294967296) (hi:i < 4) :
  bits .xor .u8 ((b.toNat:Nat):Int) (IntKind.u8.wrap ((m:Int).fdiv (2 ^ (min (Int.toNat (IntKind.u64.wrap (IntKind.i64.wrap (8*(i:Int))))) 32))))=(((b ^^^ UInt8.ofNat (m / 2 ^ (8*i))).toNat:Nat):Int):=by
 have e1:IntKind.i64.wrap (8*(i:Int))=8*(i:Int):=wrap64 (by omega) (by omega)
 have e2:IntKind.u64.wrap (8*(i:Int))=8*(i:Int):=by rw [IntKind.wrap_u64]; omega
 have e3:min (Int.toNat (8*(i:Int))) 32=8*i:=by omega
 have hb:=b.toNat_lt
 rw [e1,e2,e3]
 have e4:(m:Int).fdiv (2 ^ (8*i))=((m / 2 ^ (8*i):Nat):Int):=by
  rw [show ((2:Int) ^ (8*i))=((2 ^ (8*i):Nat):Int) by push_cast; rfl]
  rw [Int.fdiv_eq_ediv_of_nonneg _ (Int.natCast_nonneg _)]
  rfl
 rw [e4]
 have e5:IntKind.u8.wrap ((m / 2 ^ (8*i):Nat):Int)=((m / 2 ^ (8*i) % 256:Nat):Int):=by
  rw [IntKind.wrap_u8]; omega
 rw [e5,u8_xor_nat _ _ hb (Nat.mod_lt _ (by decide))]
 rw [UInt8.toNat_xor,UInt8.toNat_ofNat']
section
end
end AX
end Go.Proofs.YtahmpiioegemaaaGreatDoor

namespace Go.Proofs.YtahmpiioegemaaaGreatDoor
open Go.RowKit
namespace AX
def callOf:Op→Call
 | .call c=>c
 | _=>default
def infoOf (P:Program) (t:TypeId):TypeInfo:=(P.info? t).getD default
theorem u8_info:∃ it z,Tryz.prog.info? 5=some it∧it.zero=some z∧it.bytes=1:=⟨infoOf Tryz.prog 5,(infoOf Tryz.prog 5).zero.getD default,by kernel_rfl,by kernel_rfl,by kernel_rfl⟩
theorem u8_sl:Tryz.prog.underlying 61=some (.slice 5):=by kernel_rfl
theorem u8_u:Tryz.prog.underlying 5=some (.int .u8):=by kernel_rfl
theorem str_u:Tryz.prog.underlying 9=some .string:=by kernel_rfl
section
variable {P:Program} {G:World→Prop} {n:Nat}
theorem pr_app {cd:Code} {x y d0 d1 d2 d3:Nat} {T U E:TypeId} {it:TypeInfo} {z:Value} {l:List UInt8} {Q:AExit→Ts→Hp→Prop} {ts:Ts} {h:Hp} (hc:cd = .region (regId cd) (regOps cd) false) (hl:(regOps cd).toList=[opAt cd 0,opAt cd 1,opAt cd 2,opAt cd 3])
  (e0:(opAt cd 0).dst=some d0∧(opAt cd 0).guard=none∧compOp P n (opAt cd 0)=some (.mv (.t x))) (e1:(opAt cd 1).dst=some d1∧(opAt cd 1).guard=none∧compOp P n (opAt cd 1)=some (.mv (.t y)))
  (e2:∃ c:Call,(opAt cd 2).dst=some d2∧(opAt cd 2).guard=none∧(opAt cd 2).op = .call c∧c.callee = .builtin .append∧c.args=#[.tmp d0,.tmp d1]∧c.argTypes=#[T,U]) (e3:(opAt cd 3).dst=some d3∧(opAt cd 3).guard=none∧compOp P n (opAt cd 3)=some (.mv (.t d2)))
  (hd:d0 < n∧d1 < n∧d2 < n∧d3 < n) (hne:d1≠d0∧y≠d0) (ht:P.underlying T=some (.slice E)) (hu:P.underlying U=some .string) (hi:P.info? E=some it) (hz:it.zero=some z) (hby:it.bytes=1)
  (tx:ts x = .sl 0 .nil []) (ty:ts y = .str l) (h0:0 < l.length) (hll:l.length≤1000000000)
  (hk:Q .normal (put (put (put (put ts (some d0) (.sl 0 .nil [])) (some d1) (.str l)) (some d2) (.bs h.b.length 1 l.length)) (some d3) (.bs h.b.length 1 l.length)) ⟨h.b++[.row E (bcA l)],h.t⟩) :
  awp P G (.prim n cd) Q ts h:=by
 refine go_prim fun C a hI hT hdd=>wp_prim hc hl ?_
 have ev:∀ (t:Ts) k,evX t (.t k)=t k:=fun _ _=>rfl
 have ex:∀ (ts:Ts) d v,put ts (some d) v d=v:=fun ts d v=>by show (if d=d then v else ts d)=_; rw [if_pos rfl]
 have en:∀ (ts:Ts) (d d':Nat) v,d'≠d→put ts (some d) v d'=ts d':=fun ts d d' v hh=>by show (if d'=d then v else ts d')=_; rw [if_neg hh]
 obtain ⟨a1,a2,a3⟩:=e0
 obtain ⟨b1,b2,b3⟩:=e1
 obtain ⟨c,c1,c2,c3,c4,c5,c6⟩:=e2
 obtain ⟨f1,f2,f3⟩:=e3
 refine pl_op (ao:=.mv (.t x)) (v:=.sl 0 .nil []) (h':=h) (pst_of hI hT hdd) a2 (by rw [a1]; simpa [compDst] using hd.1) a3 rfl (by show some (ts x,h)=_; rw [tx]) fun a' w' k1=>?_
 rw [a1] at k1
 refine pl_op (ao:=.mv (.t y)) (v:=.str l) (h':=h) k1 b2 (by rw [b1]; simpa [compDst] using hd.2.1) b3 rfl (by show some (put ts (some d0) _ y,h)=_; rw [en _ _ _ _ hne.2,ty]) fun a' w' k2=>?_
 rw [b1] at k2
 refine pl_appstr (x:=.tmp d0) (y:=.tmp d1) (xo:=.t d0) (yo:=.t d1) (l:=l) k2 c2 (by rw [c1]; simpa [compDst] using hd.2.2.1) c3 c4 c5 c6 ht hu hi hz hby (by simp [compX,hd.1]) (by simp [compX,hd.2.1]) (by rw [ev,en _ _ _ _ hne.1.symm,ex]) (by rw [ev,ex]) h0 hll fun a' w' k3=>?_
 rw [c1] at k3
 refine pl_op (ao:=.mv (.t d2)) (v:=.bs h.b.length 1 l.length) (h':=⟨h.b++[.row E (bcA l)],h.t⟩) k3 f2 (by rw [f1]; simpa [compDst] using hd.2.2.2) f3 rfl (by show some (put _ (some d2) _ d2,_)=_; rw [ex]) fun a' w' k4=>?_
 rw [f1] at k4
 exact pl_nil (ts:=ts) (h:=h) (k4.post hk)
theorem pr_str {cd:Code} {x d0 d1 i:Nat} {T U E:TypeId} {l:List UInt8} {L:List AOper} {Q:AExit→Ts→Hp→Prop} {ts:Ts} {h:Hp} (hc:cd = .region (regId cd) (regOps cd) false) (hl:(regOps cd).toList=opAt cd 0::opAt cd 1::(regOps cd).toList.drop 2)
  (e0:(opAt cd 0).dst=some d0∧(opAt cd 0).guard=none∧compOp P n (opAt cd 0)=some (.mv (.t x))) (e1:(opAt cd 1).dst=some d1∧(opAt cd 1).guard=none∧(opAt cd 1).op = .convert T U (.tmp d0)) (e2:compOpers P n false (regOps cd) ((regOps cd).toList.drop 2)=some L)
  (hd:d0 < n∧d1 < n) (ht:P.underlying T=some (.slice E)) (he:P.underlying E=some (.int .u8)) (hu:P.underlying U=some .string) (tx:ts x = .bs i 1 l.length) (hb:h.b[i]?=some (.row E (bcA l)))
  (hk:awp P G (.reg false L) Q (put (put ts (some d0) (.bs i 1 l.length)) (some d1) (.str l)) h):awp P G (.prim n cd) Q ts h:=by
 refine go_prim fun C a hI hT hdd=>wp_prim hc hl ?_
 have ev:∀ (t:Ts) k,evX t (.t k)=t k:=fun _ _=>rfl
 have ex:∀ (ts:Ts) d v,put ts (some d) v d=v:=fun ts d v=>by show (if d=d then v else ts d)=_; rw [if_pos rfl]
 obtain ⟨a1,a2,a3⟩:=e0
 obtain ⟨b1,b2,b3⟩:=e1
 refine pl_op (ao:=.mv (.t x)) (v:=.bs i 1 l.length) (h':=h) (pst_of hI hT hdd) a2 (by rw [a1]; simpa [compDst] using hd.1) a3 rfl (by show some (ts x,h)=_; rw [tx]) fun a' w' k1=>?_
 rw [a1] at k1
 refine pl_tostr (x:=.tmp d0) (xo:=.t d0) (i:=i) (l:=l) k1 b2 (by rw [b1]; simpa [compDst] using hd.2) b3 ht he hu (by simp [compX,hd.1]) (by rw [ev,ex]) hb fun a' w' k2=>?_
 rw [b1] at k2
 exact pl_rest k2 e2 hk
end
end AX
end Go.Proofs.YtahmpiioegemaaaGreatDoor

namespace Go.Proofs.YtahmpiioegemaaaGreatDoor
open Go.RowKit
namespace AX
noncomputable def c_damage35:AX.AFn:=⟨137,aS [aR 8 (.mv (.c (.bool false)))] (.seq (aS [aM 22 0,aR 23 (.call 15 [.t 22]),aR 24 (.un .not (.t 23)),aM 25 24,aG 26 (.mv (.t 3)) 25 false,aG 27 (.bin .eql (.t 26) (.c (.int .u32 0))) 25 false,aR 28 (.pick (.t 25) (.c (.bool true)) (.t 27))] (.cond (.t 28) (aS [aR 29 (.call 9 []),aM 8 29] (.ret)) (.skip))) (aS [aM 31 0,aR 32 (.call 21 [.t 31]),aM 30 32,aE 33 30 0,aE 34 30 1,aE 35 30 2,aM 9 33,aM 10 34,aM 11 35] (.seq (aS [aM 36 11,aR 37 (.un .not (.t 36))] (.cond (.t 37) (aS [aR 8 (.mv (.c (.bool false)))] (.ret)) (.skip))) (.seq (aS [aM 38 10,aR 39 (.len false (.t 38)),aR 40 (.bin .eql (.t 39) (aI 0))] (.cond (.t 40) (aS [aR 41 (.call 9 []),aM 8 41] (.ret)) (.skip))) (aS [aM 42 9,aR 43 (.call 19 [.t 42]),aM 12 43] (aS [aM 44 1,aR 45 (.conv .i64 (.t 44)),aM 46 10,aR 47 (.len false (.t 46)),aR 48 (.bin .rem (.t 45) (.t 47)),aM 13 48] (aS [aR 14 (.mv (aI 0))] (.seq (aS [aM 49 13,aR 50 (.bin .gtr (.t 49) (aI 0))] (.cond (.t 50) (.reg false [aM 51 10,aM 52 13,aR 53 (.bin .sub (.t 52) (aI 1)),aR 54 (.iaddr 1 (.t 51) (.t 53)),aL 55 54,aM 14 55]) (.skip))) (aS [aR 15 (.mv (aI 0))] (.seq (.block 0 (.loop (.seq (aS [aM 56 14,aM 57 15,aR 58 (.bin .add (.t 56) (.t 57)),aM 59 12,aR 60 (.len true (.t 59)),aR 61 (.bin .lss (.t 58) (.t 60)),aM 62 61,aG 63 (.mv (.t 12)) 62 true,aG 64 (.mv (.t 14)) 62 true,aG 65 (.mv (.t 15)) 62 true,aG 66 (.bin .add (.t 64) (.t 65)) 62 true,aG 67 (.sidx (.t 63) (.t 66)) 62 true,aG 68 (.bin .geq (.t 67) (.c (.int .u8 128))) 62 true,aR 69 (.pick (.t 62) (.t 68) (.c (.bool false)))] (.cond (.t 69) (.skip) (.exit 0))) (.block 1 (.reg false [aM 70 15,aR 71 (.bin .add (.t 70) (aI 1)),aM 15 71]))))) (aS [aM 72 10,aM 73 13,aR 74 (.iaddr 1 (.t 72) (.t 73)),aL 75 74,aM 76 14,aR 77 (.bin .sub (.t 75) (.t 76)),aM 78 15,aR 79 (.bin .sub (.t 77) (.t 78)),aR 80 (.bin .sub (.t 79) (aI 1)),aR 81 (.bin .sub (.t 80) (aI 3)),aM 16 81] (.seq (aS [aM 82 16,aR 83 (.bin .lss (.t 82) (aI 1))] (.cond (.t 83) (aS [aR 84 (.call 9 []),aM 8 84] (.ret)) (.skip))) (aS [aM 85 14,aM 86 15,aR 87 (.bin .add (.t 85) (.t 86)),aR 88 (.bin .add (.t 87) (aI 1)),aM 89 2,aR 90 (.conv .i64 (.t 89)),aM 91 16,aR 92 (.bin .rem (.t 90) (.t 91)),aR 93 (.bin .add (.t 88) (.t 92)),aM 17 93] (aS [aR 18 (.mv (.c (.sl 0 .nil [])))] (.seq (.prim 137 (AX.rg Tryz.prog 7 0)) (.seq (aS [aR 19 (.mv (aI 0))] (.block 2 (.loop (.seq (aS [aM 97 19,aR 98 (.bin .lss (.t 97) (aI 4))] (.cond (.t 98) (.skip) (.exit 2))) (.seq (.block 3 (.reg false [aM 101 18,aM 102 17,aM 103 19,aR 104 (.bin .add (.t 102) (.t 103)),aM 105 18,aM 106 17,aM 107 19,aR 108 (.bin .add (.t 106) (.t 107)),aR 109 (.iaddr 1 (.t 105) (.t 108)),aL 110 109,aM 111 3,aM 112 19,aR 113 (.bin .mul (aI 8) (.t 112)),aR 114 (.conv .u64 (.t 113)),aR 115 (.bin .shr (.t 111) (.t 114)),aR 116 (.conv .u8 (.t 115)),aR 117 (.bin .xor (.t 110) (.t 116)),aR 118 (.iaddr 1 (.t 101) (.t 104)),aU (.store 1 (.t 118) (.t 117))])) (.reg false [aM 99 19,aR 100 (.bin .add (.t 99) (aI 1)),aM 19 100])))))) (.seq (.prim 137 (AX.rg Tryz.prog 7 1)) (aS [aM 125 20,aR 126 (.len false (.t 125)),aM 127 13,aR 128 (.bin .eql (.t 126) (.t 127)),aM 129 128,aG 130 (.mv (.t 21)) 129 true,aG 131 (.mv (.t 14)) 129 true,aG 132 (.bin .eql (.t 130) (.t 131)) 129 true,aR 133 (.pick (.t 129) (.t 132) (.c (.bool false))),aM 134 133,aG 135 (.call 9 []) 134 true,aR 136 (.pick (.t 134) (.t 135) (.c (.bool false))),aM 8 136] (.ret))))))))))))))))))),[.t 8]⟩
theorem h_damage35:AX.compFn Tryz.prog 7=some c_damage35:=by kernel_rfl
theorem dk0:(AX.rg Tryz.prog 7 0) = .region (regId (AX.rg Tryz.prog 7 0)) (regOps (AX.rg Tryz.prog 7 0)) false:=by kernel_rfl
theorem dk1:(AX.rg Tryz.prog 7 1) = .region (regId (AX.rg Tryz.prog 7 1)) (regOps (AX.rg Tryz.prog 7 1)) false:=by kernel_rfl
theorem dl0:(regOps (AX.rg Tryz.prog 7 0)).toList=[(opAt (AX.rg Tryz.prog 7 0) 0),(opAt (AX.rg Tryz.prog 7 0) 1),(opAt (AX.rg Tryz.prog 7 0) 2),(opAt (AX.rg Tryz.prog 7 0) 3)]:=by kernel_rfl
theorem dl1:(regOps (AX.rg Tryz.prog 7 1)).toList=(opAt (AX.rg Tryz.prog 7 1) 0)::(opAt (AX.rg Tryz.prog 7 1) 1)::(regOps (AX.rg Tryz.prog 7 1)).toList.drop 2:=by kernel_rfl
theorem df00:(opAt (AX.rg Tryz.prog 7 0) 0).dst=some 94∧(opAt (AX.rg Tryz.prog 7 0) 0).guard=none∧compOp Tryz.prog 137 (opAt (AX.rg Tryz.prog 7 0) 0)=some (.mv (.t 18)):=⟨by kernel_rfl,by kernel_rfl,by kernel_rfl⟩
theorem df01:(opAt (AX.rg Tryz.prog 7 0) 1).dst=some 95∧(opAt (AX.rg Tryz.prog 7 0) 1).guard=none∧compOp Tryz.prog 137 (opAt (AX.rg Tryz.prog 7 0) 1)=some (.mv (.t 12)):=⟨by kernel_rfl,by kernel_rfl,by kernel_rfl⟩
theorem df02:∃ c:Call,(opAt (AX.rg Tryz.prog 7 0) 2).dst=some 96∧(opAt (AX.rg Tryz.prog 7 0) 2).guard=none∧(opAt (AX.rg Tryz.prog 7 0) 2).op = .call c∧c.callee = .builtin .append∧c.args=#[.tmp 94,.tmp 95]∧c.argTypes=#[61,9]:=⟨callOf (opAt (AX.rg Tryz.prog 7 0) 2).op,by kernel_rfl,by kernel_rfl,by kernel_rfl,by kernel_rfl,by kernel_rfl,by kernel_rfl⟩
theorem df03:(opAt (AX.rg Tryz.prog 7 0) 3).dst=some 18∧(opAt (AX.rg Tryz.prog 7 0) 3).guard=none∧compOp Tryz.prog 137 (opAt (AX.rg Tryz.prog 7 0) 3)=some (.mv (.t 96)):=⟨by kernel_rfl,by kernel_rfl,by kernel_rfl⟩
theorem df10:(opAt (AX.rg Tryz.prog 7 1) 0).dst=some 120∧(opAt (AX.rg Tryz.prog 7 1) 0).guard=none∧compOp Tryz.prog 137 (opAt (AX.rg Tryz.prog 7 1) 0)=some (.mv (.t 18)):=⟨by kernel_rfl,by kernel_rfl,by kernel_rfl⟩
theorem df11:(opAt (AX.rg Tryz.prog 7 1) 1).dst=some 121∧(opAt (AX.rg Tryz.prog 7 1) 1).guard=none∧(opAt (AX.rg Tryz.prog 7 1) 1).op = .convert 61 9 (.tmp 120):=⟨by kernel_rfl,by kernel_rfl,by kernel_rfl⟩
theorem df12:compOpers Tryz.prog 137 false (regOps (AX.rg Tryz.prog 7 1)) ((regOps (AX.rg Tryz.prog 7 1)).toList.drop 2)=some [⟨some 122,.call 12 [.t 121],none,[]⟩,⟨some 119,.mv (.t 122),none,[]⟩,⟨some 123,.extract (.t 119) 0,none,[]⟩,⟨some 124,.extract (.t 119) 1,none,[]⟩,⟨some 20,.mv (.t 123),none,[]⟩,⟨some 21,.mv (.t 124),none,[]⟩]:=by kernel_rfl
theorem d_app {l:List UInt8} {Q:AExit→Ts→Hp→Prop} {ts:Ts} {h:Hp} (tx:ts 18 = .sl 0 .nil []) (ty:ts 12 = .str l) (h0:0 < l.length) (hll:l.length≤1000000000)
  (hk:Q .normal (put (put (put (put ts (some 94) (.sl 0 .nil [])) (some 95) (.str l)) (some 96) (.bs h.b.length 1 l.length)) (some 18) (.bs h.b.length 1 l.length)) ⟨h.b++[.row 5 (bcA l)],h.t⟩) :
  awp Tryz.prog GT (.prim 137 (AX.rg Tryz.prog 7 0)) Q ts h:=by
 obtain ⟨it,z,i1,i2,i3⟩:=u8_info
 exact pr_app dk0 dl0 df00 df01 df02 df03 (by decide) (by decide) u8_sl str_u i1 i2 i3 tx ty h0 hll hk
theorem d_str {i:Nat} {l:List UInt8} {Q:AExit→Ts→Hp→Prop} {ts:Ts} {h:Hp} (tx:ts 18 = .bs i 1 l.length) (hb:h.b[i]?=some (.row 5 (bcA l)))
  (hk:awp Tryz.prog GT (.reg false [⟨some 122,.call 12 [.t 121],none,[]⟩,⟨some 119,.mv (.t 122),none,[]⟩,⟨some 123,.extract (.t 119) 0,none,[]⟩,⟨some 124,.extract (.t 119) 1,none,[]⟩,⟨some 20,.mv (.t 123),none,[]⟩,⟨some 21,.mv (.t 124),none,[]⟩]) Q (put (put ts (some 120) (.bs i 1 l.length)) (some 121) (.str l)) h) :
  awp Tryz.prog GT (.prim 137 (AX.rg Tryz.prog 7 1)) Q ts h:=
 pr_str dk1 dl1 df10 df11 df12 (by decide) u8_sl u8_u str_u tx hb hk
theorem w_damage (l:List Jr) (ok:∀ a∈l,JrOk a) (hl:l.length≤1000000000) (wh at_ bits_:Int) (n0:0≤wh) (n1:wh≤255) (m0:0≤at_) (m1:at_≤65535) (b0:0≤bits_) (b1:bits_ < 4294967296) :
  ACall Tryz.prog GT 7 [.sl 26 .no (l.map Jr.cells),.int .u8 wh,.int .u16 at_,.int .u32 bits_] ⟨[],[]⟩ fun r _=>r = .bool true:=by
 have cf:=a_jfew l (fun a ha=>(ok a ha).fit) (by omega)
 have aw:=aw35
 obtain ⟨b,hb⟩:∃ b,fewJ l=b:=⟨_,rfl⟩
 rw [hb] at cf
 refine acall_of mixedT h_damage35 (by simp [c_damage35]) ?_
 dsimp only [c_damage35]
 cases b
 ·refine runc0 ti (ai cf (ai aw ti)) ?_
  exact ⟨_,le_refl _,rfl⟩
 obtain ⟨m,rfl⟩:∃ m:Nat,bits_=(m:Int):=⟨bits_.toNat,by omega⟩
 have HM:=kept (show m < 4294967296 by omega)
 clear b0 b1
 by_cases g3:(m:Int)=0
 ·have g3':((m:Int) == 0)=true:=by simp [g3]
  refine runc0 g3' (ai cf (ai aw ti)) ?_
  exact ⟨_,le_refl _,rfl⟩
 have g3':((m:Int) == 0)=false:=by rw [beq_eq_false_iff_ne]; exact g3
 have hl40:l.length≤40:=by
  unfold fewJ at hb
  rw [Bool.and_eq_true,decide_eq_true_eq] at hb
  exact hb.2
 have hbk:∀ r∈l,(Jr.enc r).2=0→Jr.BaseOk r:=fun r hr h=>(ok r hr).baseOk h
 obtain ⟨hle,hlb,hlk⟩:=Jr.logF_encs l [] [] rfl (by simp) (by simp) hbk
 have hlg:=a_logged l ok (by omega)
 obtain ⟨⟨B,ks⟩,hF⟩:∃ q,Jr.logF l [] []=q:=⟨_,rfl⟩
 rw [hF] at hle hlb hlk hlg
 dsimp only at hle hlb hlk hlg
 clear hF
 have hel:=Jr.offs_len ks
 have lends:(rowsN (Jr.offs ks)).length=ks.length:=by rw [rowsN_len,hel]
 refine go0 g3' ?_
 refine gc0 g3' ?_
 refine (cf _).mono ?_
 rintro v h ⟨rfl,rfl⟩
 refine go0 g3' ?_
 refine gc0 g3' ?_
 refine hlg.mono ?_
 rintro v h ⟨rfl,t,rfl⟩
 by_cases k0:ks.length=0
 ·have e40:((ks.length:Int) == 0)=true:=by simp [k0]
  refine go0 (ai lends e40) ?_
  refine gc0 (ai lends e40) ?_
  refine (aw _).mono ?_
  rintro v h ⟨rfl,rfl⟩
  refine go0 ti ?_
  exact ⟨_,le_refl _,rfl⟩
 have e40:((ks.length:Int) == 0)=false:=by rw [beq_eq_false_iff_ne]; omega
 have hkl:ks.length≤1048576:=by
  have:∀ q:List Jr,(∀ r∈q,(Jr.enc r).2=0)→q.length≤(Jr.encs q).length:=fun q=>by
   induction q with
   | nil=>intro _; exact Nat.zero_le _
   | cons r q ih =>
    intro h
    have:=ih fun x hx=>h x (List.mem_cons_of_mem _ hx)
    have h1:=(Jr.enc_parts (h r List.mem_cons_self)).2
    rw [Jr.encs_cons,List.length_append,List.length_cons]
    omega
  have:=this ks fun r hr=>(hlk r hr).1
  rw [←hle] at this; omega
 obtain ⟨i,hi⟩:∃ i:Nat,i=wh.toNat % ks.length:=⟨_,rfl⟩
 have hik:i < ks.length:=by have:=Nat.mod_lt wh.toNat (show ks.length > 0 by omega); omega
 have w0:IntKind.i64.wrap wh=wh:=wrap64 (by omega) (by omega)
 have w2:wh.tmod (ks.length:Int)=(i:Int):=by
  rw [Int.tmod_eq_emod_of_nonneg n0,hi]
  obtain ⟨m,rfl⟩:=Int.eq_ofNat_of_zero_le n0
  simp
 have w3:¬ (ks.length:Int)=0:=by omega
 have hrk:=hlk _ (List.getElem_mem hik)
 obtain ⟨hpa,hpl⟩:=Jr.enc_parts hrk.1
 obtain ⟨nh,hnh,hhi,y0,hy0,hlo⟩:=Jr.enc_high hrk.1
 have hdm:=fun p m hp hl h0 hm=>Jr.damage ks hlk i hik p m hp hl h0 hm
 have hsp:=Jr.encs_split ks i hik
 have hend:=rowsN_at (Jr.offs ks) i (by rw [hel]; exact hik) (by rw [hel]; omega)
 rw [Jr.offs_at ks i hik] at hend
 have hG:(Jr.encs (ks.take (i+1))).length=(Jr.encs (ks.take i)).length+(Jr.enc ks[i]).1.length:=by
  rw [(List.take_append_getElem hik).symm,Jr.encs_app,List.length_append]
  simp [Jr.encs]
 have hpre:=fun (h:¬ i=0)=>rowsN_at (Jr.offs ks) (i - 1) (by rw [hel]; omega) (by rw [hel]; omega)
 have hprev:=fun (h:¬ i=0)=>Jr.offs_at ks (i - 1) (by omega)
 have hz0:i=0→(Jr.encs (ks.take i)).length=0:=fun h=>by rw [h]; simp [Jr.encs]
 rw [hel] at hend
 rw [←hle] at hdm hsp
 obtain ⟨F,hFv⟩:∃ F,Jr.encs (ks.take i)=F:=⟨_,rfl⟩
 rw [hFv] at hdm hsp hG hz0
 obtain ⟨X,hX⟩:∃ X,Jr.encs (ks.drop (i+1))=X:=⟨_,rfl⟩
 rw [hX] at hsp
 obtain ⟨N,hN⟩:∃ N,(Jr.enc ks[i]).1=N:=⟨_,rfl⟩
 rw [hN] at hsp hG hpl hhi hy0 hdm
 obtain ⟨G,hGv⟩:∃ G,(Jr.encs (ks.take (i+1))).length=G:=⟨_,rfl⟩
 rw [hGv] at hG hend
 obtain ⟨bl,hbl⟩:∃ bl,ks[i].body.length=bl:=⟨_,rfl⟩
 rw [hbl] at hnh hpl hdm
 rw [hnh] at hpl hdm
 have hBl:B.length=F.length+(N.length+X.length):=by rw [hsp]; simp
 have hget:∀ s y,N[s]?=some y→s < N.length→B.getD (F.length+s) 0=y:=fun s y h hs=>by
  rw [hsp,List.getD_eq_getElem?_getD,List.getElem?_append_right (by omega),Nat.add_sub_cancel_left,List.getElem?_append_left hs,h]
  rfl
 clear hpa hN hX hGv hbl
 refine go0 (ai lends e40) ?_
 refine gc0 (ai lends e40) ?_
 refine (a_jlb (l:=B) rfl).mono ?_
 rintro v h ⟨rfl,rfl⟩
 refine go0 (ai w0 (ai w2 (ai w3 lends))) ?_
 refine run0 (ai w0 (ai w2 (ai w3 lends))) ?_
 refine awp_join (fun ts' h'=>h'=⟨[lgB B],t⟩∧(ts' 2 = .int .u16 at_∧ts' 3 = .int .u32 (m:Nat)∧ts' 10 = .sl 1 .no (rowsN (Jr.offs ks))∧ts' 12 = .str B∧ts' 13 = .int .i64 (i:Nat)∧ts' 14 = .int .i64 (F.length:Nat))) ?_ ?_
 ·by_cases i0:i=0
  ·have e1:¬ (i:Int) > 0:=by omega
   have hz:=hz0 i0
   rw [hz]
   refine run0 e1 ?_
   exact ⟨rfl,by (exact inv0 (ai w0 (ai w2 (ai w3 lends))))⟩
  ·have e1:(i:Int) > 0:=by omega
   have hf:=hpre i0
   rw [hprev i0,hel,show i - 1+1=i by omega,hFv] at hf
   have wm:IntKind.i64.wrap ((i:Int) - 1)=((i - 1:Nat):Int):=by rw [wrap64 (by omega) (by omega)]; omega
   refine run0 (ai e1 (ai hf (ai lends wm))) ?_
   exact ⟨rfl,by (exact inv0 (ai w0 (ai w2 (ai w3 (ai hf (ai lends wm))))))⟩
 rintro ts' h ⟨rfl,ht⟩
 refine run0 ht ?_
 refine awp_loop (fun mm ts h=>∃ (s:Nat),mm=nh - s∧s≤nh∧h=⟨[lgB B],t⟩∧(ts 2 = .int .u16 at_∧ts 3 = .int .u32 (m:Nat)∧ts 10 = .sl 1 .no (rowsN (Jr.offs ks))∧ts 12 = .str B∧ts 13 = .int .i64 (i:Nat)∧ts 14 = .int .i64 (F.length:Nat)∧ts 15 = .int .i64 (s:Nat))) nh ?_ ?_
 ·exact ⟨0,by omega,by omega,rfl,by (exact inv0 ht)⟩
 clear ht ts'
 rintro mm ts h ⟨s,rfl,hs,rfl,ht⟩
 have ws:IntKind.i64.wrap ((F.length:Int)+(s:Int))=((F.length+s:Nat):Int):=by rw [wrap64 (by omega) (by omega)]; omega
 have hls:((F.length+s:Nat):Int) < (B.length:Int)∧(0:Int)≤((F.length+s:Nat):Int):=by omega
 by_cases hlt:s < nh
 ·obtain ⟨y,hy,hy128⟩:=hhi s hlt
  have hg:=hget s y hy (by omega)
  have hge:((y.toNat:Nat):Int)≥128:=by omega
  have ei:IntKind.i64.wrap ((s:Int)+1)=((s+1:Nat):Int):=by rw [wrap64 (by omega) (by omega)]; omega
  refine run0 (ai ht (ai ws (ai hls (ai hg (ai hge ei))))) ?_
  exact ⟨_,by omega,s+1,rfl,by omega,rfl,by (exact inv0 (ai ht (ai ws (ai hls (ai hg (ai hge ei))))))⟩
 obtain rfl:s=nh:=by omega
 have hg:=hget s y0 hy0 (by omega)
 have hge:¬ ((y0.toNat:Nat):Int)≥128:=by omega
 have r1:IntKind.i64.wrap ((G:Int) - (F.length:Int))=(G:Int) - (F.length:Int):=wrap64 (by omega) (by omega)
 have r2:IntKind.i64.wrap ((G:Int) - (F.length:Int) - (s:Int))=(G:Int) - (F.length:Int) - (s:Int):=wrap64 (by omega) (by omega)
 have r3:IntKind.i64.wrap ((G:Int) - (F.length:Int) - (s:Int) - 1)=(G:Int) - (F.length:Int) - (s:Int) - 1:=wrap64 (by omega) (by omega)
 have r4:IntKind.i64.wrap ((G:Int) - (F.length:Int) - (s:Int) - 1 - 3)=((bl+1:Nat):Int):=by rw [wrap64 (by omega) (by omega)]; omega
 have e83:¬ ((bl+1:Nat):Int) < 1:=by omega
 have w5:IntKind.i64.wrap ((F.length+s:Nat)+1:Int)=((F.length+s+1:Nat):Int):=by rw [wrap64 (by omega) (by omega)]; omega
 have w6:IntKind.i64.wrap at_=at_:=wrap64 (by omega) (by omega)
 obtain ⟨q,hq⟩:∃ q:Nat,q=at_.toNat % (bl+1):=⟨_,rfl⟩
 have hqb:q≤bl:=by have:=Nat.mod_lt at_.toNat (show bl+1 > 0 by omega); omega
 have w7:at_.tmod ((bl+1:Nat):Int)=(q:Int):=by
  rw [Int.tmod_eq_emod_of_nonneg m0,hq]
  obtain ⟨m,rfl⟩:=Int.eq_ofNat_of_zero_le m0
  simp
 have w8:¬ ((bl+1:Nat):Int)=0:=by omega
 obtain ⟨p,hp⟩:∃ p:Nat,p=F.length+(s+1+q):=⟨_,rfl⟩
 have w9:IntKind.i64.wrap (((F.length+s+1:Nat):Int)+(q:Int))=(p:Int):=by rw [wrap64 (by omega) (by omega)]; omega
 have hm0:m≠0:=fun e=>g3 (by rw [e]; rfl)
 have hrd:=hdm (s+1+q) m (by omega) (by omega) hm0 HM.out
 rw [←hp] at hrd
 clear hdm hget hhi
 refine run0 (ai ht (ai ws (ai hls (ai hg (ai hge (ai hend (ai lends (ai r1 (ai r2 (ai r3 (ai r4 (ai e83 (ai w5 (ai w6 (ai w7 (ai w8 w9)))))))))))))))) ?_
 refine d_app (l:=B) (by (exact ev0 ht)) (by (exact ev0 ht)) (by omega) (by omega) ?_
 refine go_tn ?_
 refine run0 ht ?_
 refine awp_loop (fun mm ts h=>∃ (k:Nat),mm+k=4∧h=⟨[lgB B,.row 5 (bcA (hitK B p m k))],t⟩∧ts 3 = .int .u32 (m:Nat)∧ts 13 = .int .i64 (i:Nat)∧ts 14 = .int .i64 (F.length:Nat)∧ts 17 = .int .i64 (p:Nat)∧ts 18 = .bs 1 1 B.length∧ts 19 = .int .i64 (k:Nat)) 4 ?_ ?_
 ·refine ⟨0,by omega,rfl,by (exact ev0 ht),by (exact ev0 ht),by (exact ev0 ht),?_,?_,?_⟩
  ·(exact ev0 (ai ht (ai ws (ai r1 (ai r2 (ai r3 (ai r4 (ai w5 (ai w6 (ai w7 (ai w8 w9)))))))))))
  ·exact rfl
  ·exact rfl
 clear ht
 rintro mm ts h ⟨k,hk,rfl,t3,t13,t14,t17,t18,t19⟩
 by_cases hk4:k < 4
 ·have h4:(k:Int) < 4:=by omega
  have wi:IntKind.i64.wrap ((p:Int)+(k:Int))=((p+k:Nat):Int):=by rw [wrap64 (by omega) (by omega)]; omega
  have ei:IntKind.i64.wrap ((k:Int)+1)=((k+1:Nat):Int):=by rw [wrap64 (by omega) (by omega)]; omega
  have hq0:(0:Int)≤((p+k:Nat):Int):=by omega
  have hq1:((p+k:Nat):Int) < ((B.length:Nat):Int):=by omega
  have hXl:(hitK B p m k).length=B.length:=hitK_len B p m k
  obtain ⟨X,hX⟩:∃ X,hitK B p m k=X:=⟨_,rfl⟩
  have hY:hitK B p m (k+1)=hit1 X (p+k) (UInt8.ofNat (m / 2 ^ (8*k))):=by rw [←hX]; rfl
  rw [hX] at hXl ⊢
  have hle2:p+k+1≤(bcA X).length:=by rw [bcA_len]; omega
  have hld:=bcA_get X (p+k) (by omega)
  have hst:=(bcA_set X (p+k) (UInt8.ofNat (m / 2 ^ (8*k)))).symm
  rw [←hY] at hst
  have hxb:=xor_byte (X.getD (p+k) 0) m k HM.out hk4
  have hsh:shA .shr .u32 (m:Int) (IntKind.u64.wrap (IntKind.i64.wrap (8*(k:Int))))=some (.int .u32 ((m:Int).fdiv (2 ^ (min (Int.toNat (IntKind.u64.wrap (IntKind.i64.wrap (8*(k:Int))))) 32)))):=if_pos (by
   rw [IntKind.wrap_u64]
   exact Int.emod_nonneg _ (by decide))
  refine run0 (ai t3 (ai t13 (ai t14 (ai t17 (ai t18 (ai t19 (ai hsh (ai h4 (ai wi (ai hq0 (ai hq1 (ai hle2 (ai hld (ai hst (ai hxb (ai ei Nat.mul_one)))))))))))))))) ?_
  exact ⟨mm - 1,by omega,k+1,by omega,rfl,by (exact ev0 t3),by (exact ev0 t13),by (exact ev0 t14),by (exact ev0 t17),by (exact ev0 t18),by (exact ev0 ei)⟩
 have h4:¬ (k:Int) < 4:=by omega
 obtain rfl:k=4:=by omega
 have hX4:hitK B p m 4=hit B p m:=hitK_four B p m
 have hXl:(hit B p m).length=B.length:=by rw [←hX4]; exact hitK_len B p m 4
 rw [hX4]
 have cRd:=a_jread (hit B p m) (by omega)
 rw [hrd] at cRd
 dsimp only at cRd
 have lI:((ks.take i).map Jr.cells).length=i:=by rw [List.length_map,List.length_take]; omega
 refine run0 (ai t3 (ai t13 (ai t14 (ai t17 (ai t18 (ai t19 h4)))))) ?_
 refine d_str (i:=1) (l:=hit B p m) (by rw [hXl]; (exact ev0 t18)) ?_ ?_
 ·exact rfl
 refine run0 (ai t13 t14) ?_
 refine use (cRd _) ?_
 refine runc0 (ai t13 (ai t14 lI)) (ai aw ti) ?_
 exact ⟨_,le_refl _,rfl⟩
theorem w_damageX (x:Jrs) (k:((∀ a∈x.l,a.Wf)∧x.l.length≤maxLen)∧x.bulkD≤1048576) (wh:Int) (kw:(Lit.int .u8 wh).wf=true) (at_:Int) (ka:(Lit.int .u16 at_).wf=true) (bs:Int) (kb:(Lit.int .u32 bs).wf=true) :
  ACall Tryz.prog GT 7 [.sl 26 .no (x.l.map Jr.cells),.int .u8 wh,.int .u16 at_,.int .u32 bs] ⟨[],[]⟩ fun r _=>r = .bool true:=by
 have hm:=map_bulk Jr.toD x.l
 have h3:D.bulks (x.l.map Jr.toD)≤1048576:=k.2
 have k1:=wf_u8 kw
 have k2:=wf_u16 ka
 have k3:=wf_u32 kb
 exact w_damage x.l (fun a ha=>jr_ok (k.1.1 a ha) (Nat.le_trans (hm.2 a ha) h3)) (jrs_fit x k).2 wh at_ bs k1.1 (by omega) k2.1 (by omega) k3.1 k3.2
end AX
end Go.Proofs.YtahmpiioegemaaaGreatDoor
