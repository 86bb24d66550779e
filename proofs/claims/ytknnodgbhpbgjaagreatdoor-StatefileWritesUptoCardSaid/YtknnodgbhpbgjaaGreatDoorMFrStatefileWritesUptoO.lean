/- Part of what the proof needs. -/
import Derived.Test.YtknnodgbhpbgjaaGreatDoorMFrStatefileWritesUptoE
import Derived.Test.YtknnodgbhpbgjaaGreatDoorMFrStatefileWritesUptoK
import Derived.Test.YtknnodgbhpbgjaaGreatDoorMFrStatefileWritesUptoM
import Derived.Test.YtknnodgbhpbgjaaGreatDoorMFrStatefileWritesUptoN
set_option maxHeartbeats 4000000
set_option linter.unusedSimpArgs false
set_option linter.unusedVariables false
set_option linter.unnecessarySimpa false
namespace Go.Proofs.YtknnodgbhpbgjaaGreatDoor
open Go.RowKit
namespace Sf
def zero : St:=⟨[],0,[],[],[]⟩
def encode (ver : Int) (st : St) : List UInt8 × Int:=
 if checkZ st ≠ 0 then ([],checkZ st) else if 1048572 < (stE ver st).length then ([],3) else (Crc.app (stE ver st),0)
def decode (s : List UInt8) : St × Int:=
 if 1048576 < s.length then (zero,3)
 else if AX.preB s = false then (zero,2)
 else if (Crc.ver s).2 ≠ 0 then (zero,20)
 else if (AX.versionS (Crc.ver s).1).2 ≠ 0 then (zero,(AX.versionS (Crc.ver s).1).2)
 else
  let r:=stateS (AX.versionS (Crc.ver s).1).1 ⟨(Wire.numR ⟨(Crc.ver s).1.drop 4,0⟩).1,false⟩
  if r.1.fails || decide (0 < r.1.r.rest.length) || checkZ r.2 != 0 then (zero,2) else (r.2,0)
end Sf
namespace AX
def SCheck (st : Sf.St) : Prop:=∀ h,ACall Tryz.prog GT 85 [st.A] h fun r h' => r = .int .i64 (Sf.checkZ st) ∧ h' = h
theorem w_statei {ver : Int} (hver : ver = 1 ∨ ver = 2) (st : Sf.St) (ok : Sf.StOk st) (hlen : (Sf.stE ver st).length + 20 ≤ 1000000000) {h : Hp} {i : Nat} (hb : h.b[i]? = some (.cells 199 [.nilp,.sl 0 .nil [],.int .i64 ver])) :
  ACall Tryz.prog GT 141 [.ptr i 0,st.A] h fun u h' => u = .tup [] ∧ h' = ⟨h.b.set i (wtr ver (Sf.stE ver st)),h.t⟩:=by
 refine (ACall.lift1 (w_state hver st ok hlen) rfl (by intros; rfl) ?_ hb).mono ?_
 ·rintro u b' ⟨rfl,rfl⟩
  exact ⟨rfl,wtr_loc _ _⟩
 ·rintro u h' ⟨b',⟨rfl,rfl⟩,rfl⟩
  exact ⟨rfl,rfl⟩
theorem stE_ne (ver : Int) (st : Sf.St) : Sf.stE ver st ≠ []:=by
 unfold Sf.stE Sf.magic
 simp
theorem a_encode {ver : Int} (hver : ver = 1 ∨ ver = 2) (st : Sf.St) (hck : SCheck st) (hok : Sf.checkZ st = 0 → Sf.StOk st ∧ (Sf.stE ver st).length + 20 ≤ 1000000000) (h : Hp) :
  ACall Tryz.prog GT 76 [st.A,.int .i64 ver] h fun r h' => r = .tup [.str (Sf.encode ver st).1,.int .i64 (Sf.encode ver st).2] ∧ h' = h:=by
 refine pcall ?_ rfl (by simp [A.pure,A.data,Sf.St.A]) h
 refine fo ?_
 have hw:=fun h hb hz => w_statei hver st (hok hz).1 (hok hz).2 (h:=h) (i:=1) hb
 have hE : Sf.encode ver st = if Sf.checkZ st ≠ 0 then ([],Sf.checkZ st) else if 1048572 < (Sf.stE ver st).length then ([],3) else (Crc.app (Sf.stE ver st),0):=rfl
 unfold SCheck at hck
 unfold Sf.St.A at hck hw ⊢
 by_cases hz : Sf.checkZ st = 0
 ·have e1 : (Sf.checkZ st != 0) = false:=by simp [hz]
  rw [if_neg (by simp [hz])] at hE
  refine run0 ti ?_
  refine use (hck _) ?_
  refine run0 e1 ?_
  refine use (hw _ rfl hz) ?_
  refine run0 ti ?_
  refine use (a_wlen (i:=1) (ver:=ver) (l:=Sf.stE ver st) (.inl rfl)) ?_
  by_cases hl : ((Sf.stE ver st).length : Int) > 1048572
  ·rw [if_pos (by omega)] at hE
   refine run0 hl ?_
   exact ⟨_,le_refl _,by rw [hE]; rfl⟩
  ·rw [if_neg (by omega)] at hE
   refine run0 hl ?_
   refine use (a_wstring (i:=1) (ver:=ver) (l:=Sf.stE ver st) (.inl rfl) (stE_ne _ _)) ?_
   refine run0 ti ?_
   refine use (a_csAppend _ (by omega) _) ?_
   refine run0 ti ?_
   exact ⟨_,le_refl _,by rw [hE]; rfl⟩
 ·have e1 : (Sf.checkZ st != 0) = true:=by simp [hz]
  rw [if_pos hz] at hE
  refine run0 ti ?_
  refine use (hck _) ?_
  refine run0 e1 ?_
  exact ⟨_,le_refl _,by rw [hE]; rfl⟩
theorem a_Encode (st : Sf.St) (hck : SCheck st) (hok : Sf.checkZ st = 0 → Sf.StOk st ∧ (Sf.stE 2 st).length + 20 ≤ 1000000000) (h : Hp) :
  ACall Tryz.prog GT 17 [st.A] h fun r h' => r = .tup [.str (Sf.encode 2 st).1,.int .i64 (Sf.encode 2 st).2] ∧ h' = h:=by
 refine pcall ?_ rfl (by simp [A.pure,A.data,Sf.St.A]) h
 refine fo ?_
 have he:=fun h => a_encode (.inr rfl) st hck hok h
 unfold Sf.St.A at he ⊢
 refine run0 ti ?_
 refine use (he _) ?_
 refine run0 ti ?_
 exact ⟨_,le_refl _,rfl⟩
theorem a_EncodeOld (st : Sf.St) (hck : SCheck st) (hok : Sf.checkZ st = 0 → Sf.StOk st ∧ (Sf.stE 1 st).length + 20 ≤ 1000000000) (h : Hp) :
  ACall Tryz.prog GT 19 [st.A] h fun r h' => r = .tup [.str (Sf.encode 1 st).1,.int .i64 (Sf.encode 1 st).2] ∧ h' = h:=by
 refine pcall ?_ rfl (by simp [A.pure,A.data,Sf.St.A]) h
 refine fo ?_
 have he:=fun h => a_encode (.inl rfl) st hck hok h
 unfold Sf.St.A at he ⊢
 refine run0 ti ?_
 refine use (he _) ?_
 refine run0 ti ?_
 exact ⟨_,le_refl _,rfl⟩
end AX
end Go.Proofs.YtknnodgbhpbgjaaGreatDoor

namespace Go.Proofs.YtknnodgbhpbgjaaGreatDoor
open Go.RowKit
open Go.Op (bytesLess)
namespace Adr
def Step.cells (s : Step) : List AX.A:=[.str s.name,.int .i64 s.key.kind,.int .i64 s.key.num,.str s.key.str]
def Ad.cells (a : Ad) : List AX.A:=[.sl 4 .no (a.mods.map Step.cells),.bool a.data,.str a.type,.str a.name,.int .i64 a.key.kind,.int .i64 a.key.num,.str a.key.str]
end Adr
namespace AX
def cmpZ (a b : List UInt8) : Int:=if a == b then 0 else if bytesLess a b then -1 else 1
structure Leafs : Prop where
 parse : ∀ (s : List UInt8),s.length ≤ 2000000 → ∀ h,ACall Tryz.prog GT 236 [.str s] h fun r h' => r = .tup [.agg (Adr.parse s).1.cells,.int .i64 (Adr.parse s).2] ∧ h' = h
 static : ∀ (s : List UInt8),s.length ≤ 2000000 → ∀ h,ACall Tryz.prog GT 283 [.str s] h fun r h' => r = .tup [.str (Adr.static s).1,.int .i64 (Adr.static s).2] ∧ h' = h
 ident : ∀ (s : List UInt8),s.length ≤ 2000000 → ∀ h,ACall Tryz.prog GT 137 [.str s] h fun r h' => r = .bool (Adr.ident s) ∧ h' = h
 num : ∀ (s : List UInt8),s.length ≤ 2000000 → ∀ h,ACall Tryz.prog GT 280 [.str s] h fun r h' => r = .tup [.int .i64 (Num.parse s).1,.int .i64 (Num.parse s).2] ∧ h' = h
 cmp : ∀ (a b : List UInt8) h,ACall Tryz.prog GT 220 [.str a,.str b] h fun r h' => r = .int .i64 (cmpZ a b) ∧ h' = h
 known : ∀ (v : V),v.lens → ∀ h,ACall Tryz.prog GT 233 [v.A] h fun r h' => r = .bool (Sf.known v) ∧ h' = h
 text : ∀ (s : List UInt8),s.length ≤ 2000000 → ∀ h,ACall Tryz.prog GT 158 [.str s] h fun r h' => r = .bool (Sf.text s) ∧ h' = h
theorem a_managed (L : Leafs) (s t : List UInt8) (hs : s.length ≤ 2000000) (h : Hp) : ACall Tryz.prog GT 162 [.str s,.str t] h fun r h' => r = .bool (Sf.managed s t) ∧ h' = h:=by
 refine pcall ?_ rfl (by simp [A.pure,A.data]) h
 refine fo ?_
 have hp:=fun h => L.parse s hs h
 unfold Sf.managed
 obtain ⟨⟨⟨mods,data,ty,nm,⟨kk,kn,ks⟩⟩,e⟩,he⟩ : ∃ x,Adr.parse s = x:=⟨_,rfl⟩
 rw [he] at hp ⊢
 simp only [Adr.Ad.cells] at hp
 refine run0 ti ?_
 refine use (hp _) ?_
 dsimp only
 rcases bool_or (e == 0) with e0 | e0
 ·rw [e0]
  (refine AX.run0 e0 ?_)
  first
  | exact ⟨_, le_refl _, rfl⟩
  | (cases data
     · (refine AX.run0 AX.ti ?_)
       exact ⟨_, le_refl _, rfl⟩
     · (refine AX.run0 AX.ti ?_)
       exact ⟨_, le_refl _, rfl⟩)
 ·rw [e0]
  (refine AX.run0 e0 ?_)
  first
  | exact ⟨_, le_refl _, rfl⟩
  | (cases data
     · (refine AX.run0 AX.ti ?_)
       exact ⟨_, le_refl _, rfl⟩
     · (refine AX.run0 AX.ti ?_)
       exact ⟨_, le_refl _, rfl⟩)
theorem a_key (L : Leafs) (s : List UInt8) (hs : s.length ≤ 2000000) (h : Hp) : ACall Tryz.prog GT 232 [.str s] h fun r h' => r = .bool ((Num.parse s).2 == 0 && decide (1 ≤ (Num.parse s).1)) ∧ h' = h:=by
 refine pcall ?_ rfl (by simp [A.pure,A.data]) h
 refine fo ?_
 have hp:=fun h => L.num s hs h
 obtain ⟨⟨n,e⟩,he⟩ : ∃ x,Num.parse s = x:=⟨_,rfl⟩
 rw [he] at hp ⊢
 dsimp only at hp ⊢
 refine run0 ti ?_
 refine use (hp _) ?_
 rcases bool_or (e == 0) with e0 | e0
 ·rw [e0]
  refine run0 e0 ?_
  exact ⟨_,le_refl _,rfl⟩
 ·rw [e0]
  refine run0 e0 ?_
  exact ⟨_,le_refl _,rfl⟩
theorem a_placeOf (x : Sf.Inst) (h : Hp) : ACall Tryz.prog GT 160 [.agg x.cells] h fun r h' => r = .agg [.str x.addr,.str x.dep] ∧ h' = h:=by
 obtain ⟨a,d,id,ty,⟨k,n,w,vi,vy⟩,v,tn,fi,ds⟩:=x
 refine pcall ?_ rfl (by simp [A.pure,A.data,Sf.Inst.cells]) h
 refine fo ?_
 dsimp only [Sf.Inst.cells]
 refine run0 ti ?_
 exact ⟨_,le_refl _,rfl⟩
theorem a_output (L : Leafs) (o : Sf.Outp) (hs : o.name.length ≤ 2000000) (hl : o.value.lens) (h : Hp) : ACall Tryz.prog GT 163 [.agg o.cells] h fun r h' => r = .int .i64 (Sf.outZ o) ∧ h' = h:=by
 have hi:=fun h => L.ident o.name hs h
 have hk:=fun h => L.known o.value hl h
 have hc:=fun h => a_vCheck o.value hl h
 obtain ⟨Z,hZ⟩ : ∃ Z,Sf.outZ o = Z:=⟨_,rfl⟩
 rw [hZ]
 unfold Sf.outZ at hZ
 obtain ⟨m,⟨k,n,w,vi,vy⟩,b⟩:=o
 dsimp only at hi hk hc hZ
 have hVA : (V.mk k n w vi vy).A = .agg [.int .i64 k,.int .i64 n,.str w,.sl 5 .no (V.cellss vi),.sl 1 .no (strsA vy)]:=by simp only [V.A,V.cells]
 rw [hVA] at hk hc
 refine pcall ?_ rfl (by simp [A.pure,A.data,Sf.Outp.cells]) h
 refine fo ?_
 dsimp only [Sf.Outp.cells]
 refine run0 ti ?_
 refine use (hi _) ?_
 cases hI : Adr.ident m
 ·rw [hI,if_pos (by decide)] at hZ
  refine run0 ti ?_
  exact ⟨_,le_refl _,by rw [← hZ]; rfl⟩
 rw [hI,if_neg (by decide)] at hZ
 refine run0 ti ?_
 refine use (hc _) ?_
 by_cases hz : Val.checkZ (.mk k n w vi vy) = 0
 rotate_left
 ·have e1 : (Val.checkZ (.mk k n w vi vy) != 0) = true:=by simp [hz]
  rw [if_pos hz] at hZ
  refine run0 e1 ?_
  exact ⟨_,le_refl _,by rw [← hZ]; rfl⟩
 have e1 : (Val.checkZ (.mk k n w vi vy) != 0) = false:=by simp [hz]
 rw [if_neg (by simp [hz])] at hZ
 refine run0 e1 ?_
 refine use (hk _) ?_
 cases hK : Sf.known (.mk k n w vi vy)
 ·rw [hK,if_pos (by decide)] at hZ
  refine run0 ti ?_
  exact ⟨_,le_refl _,by rw [← hZ]; rfl⟩
 ·rw [hK,if_neg (by decide)] at hZ
  refine run0 ti ?_
  exact ⟨_,le_refl _,by rw [← hZ]; rfl⟩
theorem a_statics (L : Leafs) (ds : List (List UInt8)) (hn : ds.length ≤ 1000000000) (hs : ∀ s ∈ ds,s.length ≤ 2000000) (h : Hp) : ACall Tryz.prog GT 234 [.sl 1 .no (strsA ds)] h fun r h' => r = .bool (Sf.depsB none ds) ∧ h' = h:=by
 refine pcall ?_ rfl (by simp [A.pure,A.data]) h
 refine fo ?_
 obtain ⟨D,hD⟩ : ∃ D,Sf.depsB none ds = D:=⟨_,rfl⟩
 rw [hD]
 have lm : (strsA ds).length = ds.length:=strsA_length ds
 refine run0 lm ?_
 refine awp_loop (fun mm ts h => ∃ (j : Nat),mm = ds.length - j ∧ j ≤ ds.length ∧ h = ⟨[],[]⟩ ∧ Sf.depsB (if j = 0 then none else ds[j - 1]?) (ds.drop j) = D ∧ ts 0 = .sl 1 .no (strsA ds) ∧ ts 7 = .sl 1 .no (strsA ds) ∧ ts 8 = .int .i64 (ds.length : Nat) ∧ ts 9 = .int .i64 (j : Nat)) ds.length ?_ ?_
 ·exact ⟨0,by omega,by omega,rfl,hD,by (exact ev0 ti),by (exact ev0 ti),by (exact ev0 lm),by (exact inv0 ti)⟩
 rintro mm ts h ⟨j,rfl,hjc,rfl,hit,t0,ta,tb,tc⟩
 by_cases hj : j < ds.length
 ·have hlt : (j : Int) < (ds.length : Int):=by omega
  have hlt' : (j : Int) < ((strsA ds).length : Int):=by rw [strsA_length]; exact hlt
  have hj0 : (0 : Int) ≤ (j : Int):=by omega
  have ei : IntKind.i64.wrap ((j : Int) + 1) = ((j + 1 : Nat) : Int):=by rw [wrap64 (by omega) (by omega)]; omega
  have hg:=strsA_get ds j hj
  have hst:=fun h => L.static ds[j] (hs _ (List.getElem_mem hj)) h
  rw [List.drop_eq_getElem_cons hj] at hit
  unfold Sf.depsB at hit
  have hsB : Sf.staticB ds[j] = ((Adr.static ds[j]).2 == 0 && (Adr.static ds[j]).1 == ds[j]):=rfl
  obtain ⟨⟨w,e⟩,hw⟩ : ∃ q,Adr.static ds[j] = q:=⟨_,rfl⟩
  rw [hw] at hst hsB
  dsimp only at hst hsB
  rw [hsB] at hit
  refine run0 (ai t0 (ai ta (ai tb (ai tc (ai hlt (ai hg (ai hlt' hj0))))))) ?_
  refine use (hst _) ?_
  by_cases he : e = 0
  rotate_left
  ·have e1 : (e != 0) = true:=by simp [he]
   have e2 : (e == 0) = false:=by simp [he]
   rw [e2,Bool.false_and,Bool.false_and,Bool.false_and] at hit
   subst hit
   refine run0 (ai t0 (ai ta (ai tb (ai tc e1)))) ?_
   exact ⟨_,le_refl _,rfl⟩
  have e1 : (e != 0) = false:=by simp [he]
  have e2 : (e == 0) = true:=by simp [he]
  rw [e2,Bool.true_and] at hit
  by_cases hw2 : w = ds[j]
  rotate_left
  ·have w1 : (w != ds[j]) = true:=by simp [hw2]
   have w2 : (w == ds[j]) = false:=by simp [hw2]
   rw [w2,Bool.false_and,Bool.false_and] at hit
   subst hit
   refine run0 (ai t0 (ai ta (ai tb (ai tc (ai e1 w1))))) ?_
   exact ⟨_,le_refl _,rfl⟩
  have w1 : (w != ds[j]) = false:=by simp [hw2]
  have w2 : (w == ds[j]) = true:=by simp [hw2]
  rw [w2,Bool.true_and] at hit
  cases j with
  | zero =>
   have h0 : ¬ ((0 : Nat) : Int) > 0:=by omega
   simp only [if_true,Val.badB,Bool.not_false,Bool.true_and] at hit
   refine run0 (ai t0 (ai ta (ai tb (ai tc (ai e1 (ai w1 (ai h0 ei))))))) ?_
   exact ⟨ds.length - 1,by omega,1,rfl,by omega,rfl,by rw [← hit]; simp [hj],by (exact ev0 t0),by (exact ev0 ta),by (exact ev0 tb),by (exact ev0 ei)⟩
  | succ i =>
   have h0 : ((i + 1 : Nat) : Int) > 0:=by omega
   have ej : IntKind.i64.wrap (((i + 1 : Nat) : Int) - 1) = (i : Int):=by rw [wrap64 (by omega) (by omega)]; omega
   have hg2:=strsA_get ds i (by omega)
   have hi' : (i : Int) < ((strsA ds).length : Int):=by omega
   have hi0 : (0 : Int) ≤ (i : Int):=by omega
   have hki : ds[i + 1 - 1]? = some (ds[i]'(by omega)):=List.getElem?_eq_getElem (by omega)
   rw [if_neg (by omega),hki] at hit
   simp only [Val.badB] at hit
   rw [Val.less_total] at hit
   rcases bool_or (bytesLess ds[i + 1] ds[i] || ds[i + 1] == ds[i]) with hb | hb
   ·rw [hb] at hit
    refine run0 (ai t0 (ai ta (ai tb (ai tc (ai e1 (ai w1 (ai h0 (ai ej (ai hg2 (ai hi' (ai hi0 (ai hb ei)))))))))))) ?_
    first
    | (subst hit; exact ⟨_,le_refl _,rfl⟩)
    | exact ⟨ds.length - (i + 1 + 1),by omega,i + 1 + 1,rfl,by omega,rfl,by rw [← hit]; simp [hj],by (exact ev0 t0),by (exact ev0 ta),by (exact ev0 tb),by (exact ev0 ei)⟩
   ·rw [hb] at hit
    refine run0 (ai t0 (ai ta (ai tb (ai tc (ai e1 (ai w1 (ai h0 (ai ej (ai hg2 (ai hi' (ai hi0 (ai hb ei)))))))))))) ?_
    first
    | (subst hit; exact ⟨_,le_refl _,rfl⟩)
    | exact ⟨ds.length - (i + 1 + 1),by omega,i + 1 + 1,rfl,by omega,rfl,by rw [← hit]; simp [hj],by (exact ev0 t0),by (exact ev0 ta),by (exact ev0 tb),by (exact ev0 ei)⟩
 ·have hlt : ¬ ((j : Int) < (ds.length : Int)):=by omega
  rw [List.drop_eq_nil_of_le (by omega)] at hit
  unfold Sf.depsB at hit
  subst hit
  refine run0 (ai t0 (ai ta (ai tb (ai tc hlt)))) ?_
  exact ⟨_,le_refl _,rfl⟩
structure Sf.InstIn (x : Sf.Inst) : Prop where
 a : x.addr.length ≤ 2000000
 d : x.dep.length ≤ 2000000
 i : x.id.length ≤ 2000000
 l : x.attrs.lens
 n : x.deps.length ≤ 1000000000
 ds : ∀ s ∈ x.deps,s.length ≤ 2000000
theorem a_instance (L : Leafs) (x : Sf.Inst) (hx : Sf.InstIn x) (h : Hp) : ACall Tryz.prog GT 159 [.agg x.cells] h fun r h' => r = .int .i64 (Sf.instZ x) ∧ h' = h:=by
 have cm:=fun h => a_managed L x.addr x.typ hx.a h
 have ck:=fun h => a_key L x.dep hx.d h
 have ct:=fun h => L.text x.id hx.i h
 have cv:=fun h => a_vCheck x.attrs hx.l h
 have cn:=fun h => L.known x.attrs hx.l h
 have cs:=fun h => a_statics L x.deps hx.n hx.ds h
 obtain ⟨Z,hZ⟩ : ∃ Z,Sf.instZ x = Z:=⟨_,rfl⟩
 rw [hZ]
 unfold Sf.instZ Sf.keyB at hZ
 obtain ⟨a,d,id,ty,⟨k,n,w,vi,vy⟩,v,tn,fi,ds⟩:=x
 clear hx
 dsimp only at cm ck ct cv cn cs hZ
 have hVA : (V.mk k n w vi vy).A = .agg [.int .i64 k,.int .i64 n,.str w,.sl 5 .no (V.cellss vi),.sl 1 .no (strsA vy)]:=by simp only [V.A,V.cells]
 rw [hVA] at cv cn
 obtain ⟨M,hM⟩ : ∃ M,Sf.managed a ty = M:=⟨_,rfl⟩
 obtain ⟨K,hK⟩ : ∃ K,((Num.parse d).2 == 0 && decide (1 ≤ (Num.parse d).1)) = K:=⟨_,rfl⟩
 obtain ⟨T,hT⟩ : ∃ T,Sf.text id = T:=⟨_,rfl⟩
 obtain ⟨C,hC⟩ : ∃ C,Val.checkZ (.mk k n w vi vy) = C:=⟨_,rfl⟩
 obtain ⟨N,hN⟩ : ∃ N,Sf.known (.mk k n w vi vy) = N:=⟨_,rfl⟩
 obtain ⟨S,hS⟩ : ∃ S,Sf.depsB none ds = S:=⟨_,rfl⟩
 have hkd : Sf.V.kind (.mk k n w vi vy) = k:=rfl
 rw [hM] at cm hZ
 rw [hK] at ck hZ
 rw [hT] at ct hZ
 rw [hC] at cv hZ
 rw [hN] at cn hZ
 rw [hS] at cs hZ
 rw [hkd] at hZ
 refine pcall ?_ rfl (by simp [A.pure,A.data,Sf.Inst.cells]) h
 refine fo ?_
 dsimp only [Sf.Inst.cells]
 refine run0 ti ?_
 refine use (cm _) ?_
 cases M
 ·rw [if_pos (by simp)] at hZ
  subst hZ
  refine run0 ti ?_
  exact ⟨_,le_refl _,rfl⟩
 have key : ∀ {G : Prop},((d != []) = false → (d == []) = true → G) → ((d != []) = true → (d == []) = false → G) → G:=fun p q => by
  by_cases e : d = []
  ·exact p (by simp [e]) (by simp [e])
  ·exact q (by simp [e]) (by simp [e])
 have rest : True:=ti
 refine key (fun d1 d2 => ?_) (fun d1 d2 => ?_)
 all_goals rw [d2] at hZ
 ·refine run0 d1 ?_
  refine use (ct _) ?_
  cases T
  ·rw [if_pos (by simp)] at hZ
   subst hZ
   refine run0 ti ?_
   exact ⟨_,le_refl _,rfl⟩
  rw [if_neg (by simp)] at hZ
  refine run0 ti ?_
  refine use (cv _) ?_
  by_cases hz : C = 0
  rotate_left
  ·have e1 : (C != 0) = true:=by simp [hz]
   rw [if_pos hz] at hZ
   refine run0 e1 ?_
   exact ⟨_,le_refl _,by rw [← hZ]; rfl⟩
  have e1 : (C != 0) = false:=by simp [hz]
  rw [if_neg (by simp [hz])] at hZ
  by_cases hk5 : k = 5
  rotate_left
  ·have e2 : (k != 5) = true:=by simp [hk5]
   rw [if_pos hk5] at hZ
   refine run0 (ai e1 e2) ?_
   exact ⟨_,le_refl _,by rw [← hZ]; rfl⟩
  have e2 : (k != 5) = false:=by simp [hk5]
  rw [if_neg (by simp [hk5])] at hZ
  refine run0 (ai e1 e2) ?_
  refine use (cn _) ?_
  cases N
  ·rw [if_pos (by simp)] at hZ
   refine run0 ti ?_
   exact ⟨_,le_refl _,by rw [← hZ]; rfl⟩
  rw [if_neg (by simp)] at hZ
  by_cases v0 : v < 1
  ·rw [if_pos (.inl v0)] at hZ
   refine run0 v0 ?_
   exact ⟨_,le_refl _,by rw [← hZ]; rfl⟩
  by_cases v1 : v > 9007199254740992
  ·rw [if_pos (.inr v1)] at hZ
   refine run0 (ai v0 v1) ?_
   exact ⟨_,le_refl _,by rw [← hZ]; rfl⟩
  rw [if_neg (by omega)] at hZ
  refine run0 (ai v0 v1) ?_
  refine use (cs _) ?_
  cases S
  ·rw [if_pos (by simp)] at hZ
   refine run0 ti ?_
   exact ⟨_,le_refl _,by rw [← hZ]; rfl⟩
  ·rw [if_neg (by simp)] at hZ
   refine run0 ti ?_
   exact ⟨_,le_refl _,by rw [← hZ]; rfl⟩
 ·refine run0 d1 ?_
  refine use (ck _) ?_
  cases K
  ·rw [if_pos (by simp)] at hZ
   subst hZ
   refine run0 ti ?_
   exact ⟨_,le_refl _,rfl⟩
  refine run0 ti ?_
  refine use (ct _) ?_
  cases T
  ·rw [if_pos (by simp)] at hZ
   subst hZ
   refine run0 ti ?_
   exact ⟨_,le_refl _,rfl⟩
  rw [if_neg (by simp)] at hZ
  refine run0 ti ?_
  refine use (cv _) ?_
  by_cases hz : C = 0
  rotate_left
  ·have e1 : (C != 0) = true:=by simp [hz]
   rw [if_pos hz] at hZ
   refine run0 e1 ?_
   exact ⟨_,le_refl _,by rw [← hZ]; rfl⟩
  have e1 : (C != 0) = false:=by simp [hz]
  rw [if_neg (by simp [hz])] at hZ
  by_cases hk5 : k = 5
  rotate_left
  ·have e2 : (k != 5) = true:=by simp [hk5]
   rw [if_pos hk5] at hZ
   refine run0 (ai e1 e2) ?_
   exact ⟨_,le_refl _,by rw [← hZ]; rfl⟩
  have e2 : (k != 5) = false:=by simp [hk5]
  rw [if_neg (by simp [hk5])] at hZ
  refine run0 (ai e1 e2) ?_
  refine use (cn _) ?_
  cases N
  ·rw [if_pos (by simp)] at hZ
   refine run0 ti ?_
   exact ⟨_,le_refl _,by rw [← hZ]; rfl⟩
  rw [if_neg (by simp)] at hZ
  by_cases v0 : v < 1
  ·rw [if_pos (.inl v0)] at hZ
   refine run0 v0 ?_
   exact ⟨_,le_refl _,by rw [← hZ]; rfl⟩
  by_cases v1 : v > 9007199254740992
  ·rw [if_pos (.inr v1)] at hZ
   refine run0 (ai v0 v1) ?_
   exact ⟨_,le_refl _,by rw [← hZ]; rfl⟩
  rw [if_neg (by omega)] at hZ
  refine run0 (ai v0 v1) ?_
  refine use (cs _) ?_
  cases S
  ·rw [if_pos (by simp)] at hZ
   refine run0 ti ?_
   exact ⟨_,le_refl _,by rw [← hZ]; rfl⟩
  ·rw [if_neg (by simp)] at hZ
   refine run0 ti ?_
   exact ⟨_,le_refl _,by rw [← hZ]; rfl⟩
end AX
namespace Adr
theorem indexAny_word : ∀ s : List UInt8,(Lib.indexAny s [46,91] = -1 ∧ s.takeWhile (fun c => !stopB c) = s ∧ s.dropWhile (fun c => !stopB c) = []) ∨
  ∃ n : Nat,Lib.indexAny s [46,91] = n ∧ n ≤ s.length ∧ s.takeWhile (fun c => !stopB c) = s.take n ∧ s.dropWhile (fun c => !stopB c) = s.drop n
 | [] => .inl ⟨rfl,rfl,rfl⟩
 | c :: s => by
  have hc : ([46,91] : List UInt8).contains c = stopB c:=by
   unfold stopB
   simp
   rfl
  unfold Lib.indexAny
  rw [hc]
  cases h : stopB c
  ·rcases indexAny_word s with ⟨h1,h2,h3⟩ | ⟨n,h1,h2,h3,h4⟩
   ·refine .inl ⟨by rw [h1]; rfl,?_,?_⟩
    ·rw [List.takeWhile_cons_of_pos (by simp [h]),h2]
    ·rw [List.dropWhile_cons_of_pos (by simp [h]),h3]
   ·refine .inr ⟨n + 1,?_,by simpa using h2,?_,?_⟩
    ·rw [h1]
     have e : ((n : Int) == -1) = false:=by simp <;> omega
     simp only [Bool.false_eq_true,if_false,e]
     omega
    ·rw [List.takeWhile_cons_of_pos (by simp [h]),h3,List.take_succ_cons]
    ·rw [List.dropWhile_cons_of_pos (by simp [h]),h4,List.drop_succ_cons]
  ·refine .inr ⟨0,rfl,Nat.zero_le _,?_,?_⟩
   ·rw [List.takeWhile_cons_of_neg (by simp [h])]; rfl
   ·rw [List.dropWhile_cons_of_neg (by simp [h])]; rfl
theorem indexByte_key : ∀ s : List UInt8,(s.all (· != 93) = true ∧ Lib.indexByte s 93 = -1) ∨ (s.all (· != 93) = false ∧ Lib.indexByte s 93 = ((s.takeWhile (· != 93)).length : Nat) ∧ (s.takeWhile (· != 93)).length ≤ s.length)
 | [] => .inl ⟨rfl,rfl⟩
 | c :: s => by
  unfold Lib.indexByte
  by_cases h : c = 93
  ·subst h
   refine .inr ⟨by simp,?_,Nat.le_of_lt_succ (by simp)⟩
   simp
  ·have hb : (c == 93) = false:=by simp [h]
   have hn : (c != 93) = true:=by simp [h]
   rcases indexByte_key s with ⟨h1,h2⟩ | ⟨h1,h2,h3⟩
   ·refine .inl ⟨by rw [List.all_cons,hn,h1]; rfl,?_⟩
    simp [hb,h,h2]
   ·refine .inr ⟨by rw [List.all_cons,h1,Bool.and_false],?_,?_⟩
    ·simp only [List.takeWhile_cons,hn,if_true,List.length_cons,hb,Bool.false_eq_true,if_false,h2]
     have e : (((s.takeWhile (· != 93)).length : Nat) : Int) == -1 ↔ False:=by simp <;> omega
     rw [if_neg (by rw [e]; exact id)]
     omega
    ·simp only [List.takeWhile_cons,hn,if_true,List.length_cons]
     omega
theorem cmp_bytes : ∀ a b : List UInt8,Lib.compareBytes a b = AX.cmpZ a b
 | [],[] => rfl
 | [],_ :: _ => rfl
 | _ :: _,[] => rfl
 | a :: a1,b :: b1 => by
  have ih:=cmp_bytes a1 b1
  unfold AX.cmpZ at ih ⊢
  unfold Lib.compareBytes bytesLess
  by_cases h1 : a < b
  ·have hne : a ≠ b:=by intro e; subst e; exact absurd h1 (by simp)
   simp [h1,hne]
  ·by_cases h2 : b < a
   ·have hne : a ≠ b:=by intro e; subst e; exact absurd h2 (by simp)
    simp [h1,h2,hne]
   ·have he : a = b:=by
     have h3 : ¬ a.toNat < b.toNat:=h1
     have h4 : ¬ b.toNat < a.toNat:=h2
     exact UInt8.toNat_inj.1 (by omega)
    subst he
    rw [if_neg h1,if_neg h2,ih]
    simp
end Adr
namespace AX
theorem a_cmp (a b : List UInt8) (h : Hp) : ACall Tryz.prog GT 220 [.str a,.str b] h fun r h' => r = .int .i64 (cmpZ a b) ∧ h' = h:=by
 rw [← Adr.cmp_bytes]
 exact acall_imp (args2 r_str r_str) (fun w hg => (Tryz.strings_Compare ⟨a.toArray⟩ ⟨b.toArray⟩ w).mono fun e w' ⟨h1,h2⟩ => ⟨h1,by rw [h2]; exact Below.refl _ _⟩) (fun C => rep_int.2 rfl) h
theorem a_indexAny (s : List UInt8) (hs : s.length ≤ 2000000) (h : Hp) : ACall Tryz.prog GT 317 [.str s,.str [46,91]] h fun r h' => r = .int .i64 (Lib.indexAny s [46,91]) ∧ h' = h:=
 acall_imp (args2 r_str r_str) (fun w hg => indexAny_any ⟨s.toArray⟩ (by rw [size_mk]; omega) w) (fun C => rep_int.2 rfl) h
theorem a_indexByte (s : List UInt8) (h : Hp) : ACall Tryz.prog GT 320 [.str s,.int .u8 93] h fun r h' => r = .int .i64 (Lib.indexByte s 93) ∧ h' = h:=
 acall_imp (args2 r_str r_int) (fun w hg => (Tryz.strings_IndexByte ⟨s.toArray⟩ 93 w).mono fun e w' ⟨h1,h2⟩ => ⟨h1,by rw [h2]; exact Below.refl _ _⟩) (fun C => rep_int.2 rfl) h
theorem a_kind (s : List UInt8) (hs : s.length ≤ 2000000) (h : Hp) : ACall Tryz.prog GT 289 [.str s] h fun r h' => r = .bool (Adr.kindB s) ∧ h' = h:=by
 refine pcall ?_ rfl (by simp [A.pure,A.data]) h
 refine fo ?_
 have hi:=fun h => a_ident s hs h
 have hk : Adr.kindB s = (!Adr.reserved s && Adr.ident s):=rfl
 have hr : ∀ {G : Prop} (w : List UInt8),((s == w) = true → G) → ((s == w) = false → G) → G:=fun w p q => by
  cases e : s == w
  ·exact q e
  ·exact p e
 have res : ∀ w,(s == w) = true → w ∈ Adr.reservedL → Adr.kindB s = false:=fun w e hw => by
  rw [beq_iff_eq] at e; subst e
  rw [hk]
  unfold Adr.reserved
  rw [List.contains_iff_mem.2 hw]; rfl
 refine hr [109,111,100,117,108,101] (fun e1 => ?_) fun e1 => ?_
 ·refine run0 e1 ?_
  exact ⟨_,le_refl _,by rw [res _ e1 (by decide)]; rfl⟩
 refine hr [100,97,116,97] (fun e2 => ?_) fun e2 => ?_
 ·refine run0 (ai e1 e2) ?_
  exact ⟨_,le_refl _,by rw [res _ e2 (by decide)]; rfl⟩
 refine hr [118,97,114] (fun e3 => ?_) fun e3 => ?_
 ·refine run0 (ai e1 (ai e2 e3)) ?_
  exact ⟨_,le_refl _,by rw [res _ e3 (by decide)]; rfl⟩
 refine hr [108,111,99,97,108] (fun e4 => ?_) fun e4 => ?_
 ·refine run0 (ai e1 (ai e2 (ai e3 e4))) ?_
  exact ⟨_,le_refl _,by rw [res _ e4 (by decide)]; rfl⟩
 refine hr [101,97,99,104] (fun e5 => ?_) fun e5 => ?_
 ·refine run0 (ai e1 (ai e2 (ai e3 (ai e4 e5)))) ?_
  exact ⟨_,le_refl _,by rw [res _ e5 (by decide)]; rfl⟩
 refine hr [99,111,117,110,116] (fun e6 => ?_) fun e6 => ?_
 ·refine run0 (ai e1 (ai e2 (ai e3 (ai e4 (ai e5 e6))))) ?_
  exact ⟨_,le_refl _,by rw [res _ e6 (by decide)]; rfl⟩
 refine hr [114,101,109,111,116,101] (fun e7 => ?_) fun e7 => ?_
 ·refine run0 (ai e1 (ai e2 (ai e3 (ai e4 (ai e5 (ai e6 e7)))))) ?_
  exact ⟨_,le_refl _,by rw [res _ e7 (by decide)]; rfl⟩
 refine hr [111,117,116,112,117,116] (fun e8 => ?_) fun e8 => ?_
 ·refine run0 (ai e1 (ai e2 (ai e3 (ai e4 (ai e5 (ai e6 (ai e7 e8))))))) ?_
  exact ⟨_,le_refl _,by rw [res _ e8 (by decide)]; rfl⟩
 refine hr [112,97,116,104] (fun e9 => ?_) fun e9 => ?_
 ·refine run0 (ai e1 (ai e2 (ai e3 (ai e4 (ai e5 (ai e6 (ai e7 (ai e8 e9)))))))) ?_
  exact ⟨_,le_refl _,by rw [res _ e9 (by decide)]; rfl⟩
 refine hr [115,101,108,102] (fun e10 => ?_) fun e10 => ?_
 ·refine run0 (ai e1 (ai e2 (ai e3 (ai e4 (ai e5 (ai e6 (ai e7 (ai e8 (ai e9 e10))))))))) ?_
  exact ⟨_,le_refl _,by rw [res _ e10 (by decide)]; rfl⟩
 refine hr [99,104,97,110,103,101] (fun e11 => ?_) fun e11 => ?_
 ·refine run0 (ai e1 (ai e2 (ai e3 (ai e4 (ai e5 (ai e6 (ai e7 (ai e8 (ai e9 (ai e10 e11)))))))))) ?_
  exact ⟨_,le_refl _,by rw [res _ e11 (by decide)]; rfl⟩
 have hres : Adr.reserved s = false:=by
  have h1:=beq_eq_false_iff_ne.1 e1; have h2:=beq_eq_false_iff_ne.1 e2; have h3:=beq_eq_false_iff_ne.1 e3; have h4:=beq_eq_false_iff_ne.1 e4
  have h5:=beq_eq_false_iff_ne.1 e5; have h6:=beq_eq_false_iff_ne.1 e6; have h7:=beq_eq_false_iff_ne.1 e7; have h8:=beq_eq_false_iff_ne.1 e8
  have h9:=beq_eq_false_iff_ne.1 e9; have h10:=beq_eq_false_iff_ne.1 e10; have h11:=beq_eq_false_iff_ne.1 e11
  unfold Adr.reserved
  rw [Bool.eq_false_iff]
  intro hc
  rw [List.contains_iff_mem] at hc
  unfold Adr.reservedL at hc
  simp only [List.mem_cons,List.not_mem_nil,or_false] at hc
  rcases hc with e | e | e | e | e | e | e | e | e | e | e <;> simp_all
 rw [hk,hres]
 refine run0 (ai e1 (ai e2 (ai e3 (ai e4 (ai e5 (ai e6 (ai e7 (ai e8 (ai e9 (ai e10 e11)))))))))) ?_
 refine use (hi _) ?_
 refine run0 ti ?_
 exact ⟨_,le_refl _,by simp [tupA_1]⟩
theorem w_word (r : Adr.Rd) (hl : r.rest.length ≤ 2000000) {h : Hp} {i : Nat} (hb : h.b[i]? = some (adB r)) :
  ACall Tryz.prog GT 287 [.ptr i 0] h fun v h' => v = .str (Adr.wordP r).1 ∧ h' = ⟨h.b.set i (adB (Adr.wordP r).2),h.t⟩:=by
 have key : ACall Tryz.prog GT 287 [.ptr 0 0] ⟨[adB r],[]⟩ fun v h' => ∃ b',h'.b[0]? = some b' ∧ v = .str (Adr.wordP r).1 ∧ b' = adB (Adr.wordP r).2:=by
  obtain ⟨rest,bad⟩:=r
  dsimp only at hl
  refine fo ?_
  unfold adB
  have hW : Adr.wordP ⟨rest,bad⟩ = (rest.takeWhile (fun c => !Adr.stopB c),⟨rest.dropWhile (fun c => !Adr.stopB c),bad || !Adr.ident (rest.takeWhile (fun c => !Adr.stopB c))⟩):=rfl
  rw [hW]
  have hi:=fun (s : List UInt8) (hs : s.length ≤ 2000000) h => a_ident s hs h
  refine run0 ti ?_
  refine use (a_indexAny rest hl _) ?_
  rcases Adr.indexAny_word rest with ⟨h1,h2,h3⟩ | ⟨n,h1,h2,h3,h4⟩
  ·rw [h1,h2,h3]
   have lm : (-1 : Int) < 0:=by decide
   have l0 : (0 : Int) ≤ (rest.length : Int):=by omega
   have td : rest.drop rest.length = []:=List.drop_length
   cases bad
   ·refine run0 (ai lm (ai l0 td)) ?_
    refine use (hi rest hl _) ?_
    refine run0 ti ?_
    exact ⟨_,le_refl _,_,rfl,rfl,rfl⟩
   ·refine run0 (ai lm (ai l0 td)) ?_
    exact ⟨_,le_refl _,_,rfl,rfl,rfl⟩
  ·rw [h1,h3,h4]
   have lm : ¬ (n : Int) < 0:=by omega
   have l0 : (0 : Int) ≤ (n : Int):=by omega
   have l1 : (n : Int) ≤ (rest.length : Int):=by omega
   have ht : (rest.take n).length ≤ 2000000:=by rw [List.length_take]; omega
   cases bad
   ·refine run0 (ai lm (ai l0 l1)) ?_
    refine use (hi _ ht _) ?_
    refine run0 ti ?_
    exact ⟨_,le_refl _,_,rfl,rfl,rfl⟩
   ·refine run0 (ai lm (ai l0 l1)) ?_
    exact ⟨_,le_refl _,_,rfl,rfl,rfl⟩
 refine (ACall.lift1 key rfl (adB_loc r) ?_ hb).mono ?_
 ·rintro v b' ⟨rfl,rfl⟩; exact ⟨rfl,adB_loc _⟩
 ·rintro v h' ⟨b',⟨rfl,rfl⟩,rfl⟩; exact ⟨rfl,rfl⟩
def Adr.K.A (k : Adr.K) : A:=.agg [.int .i64 k.kind,.int .i64 k.num,.str k.str]
theorem a_avalid (k : Adr.K) (hs : k.str.length ≤ 2000000) (h : Hp) : ACall Tryz.prog GT 359 [Adr.K.A k] h fun r h' => r = .bool (Adr.keyOk k) ∧ h' = h:=by
 obtain ⟨kd,nm,st⟩:=k
 dsimp only at hs
 unfold Adr.K.A
 refine pcall ?_ rfl (by simp [A.pure,A.data]) h
 refine fo ?_
 have hv:=fun h => a_valid st hs h
 have hK : Adr.keyOk ⟨kd,nm,st⟩ = if kd = 1 then decide (0 ≤ nm) && decide (nm ≤ 9007199254740992) && st == [] else if kd = 2 then nm == 0 && Str.valid st else (⟨kd,nm,st⟩ : Adr.K) == Adr.K.none:=rfl
 rw [hK]
 by_cases k0 : kd = 0
 ·subst k0
  have e0 : ((0 : Int) == 0) = true:=by decide
  rw [if_neg (by decide),if_neg (by decide)]
  have hn : ((⟨0,nm,st⟩ : Adr.K) == Adr.K.none) = (nm == 0 && st == []):=by
   rw [Bool.eq_iff_iff,beq_iff_eq,Bool.and_eq_true,beq_iff_eq,beq_iff_eq]
   unfold Adr.K.none
   simp
  refine run0 e0 ?_
  exact ⟨_,le_refl _,by rw [hn]; simp [tupA_1]⟩
 have e0 : (kd == 0) = false:=by simp [k0]
 by_cases k1 : kd = 1
 ·subst k1
  have e1 : ((1 : Int) == 1) = true:=by decide
  have e10 : ((1 : Int) == 0) = false:=by decide
  rw [if_pos rfl]
  by_cases n0 : 0 ≤ nm
  ·have g0 : nm ≥ 0:=n0
   by_cases n1 : nm ≤ 9007199254740992
   ·refine run0 (ai e10 (ai e1 (ai g0 n1))) ?_
    exact ⟨_,le_refl _,by rw [decide_eq_true n0,decide_eq_true n1]; rfl⟩
   ·refine run0 (ai e10 (ai e1 (ai g0 n1))) ?_
    exact ⟨_,le_refl _,by rw [decide_eq_false n1,Bool.and_false]; rfl⟩
  ·have g0 : ¬ nm ≥ 0:=n0
   refine run0 (ai e10 (ai e1 g0)) ?_
   exact ⟨_,le_refl _,by rw [decide_eq_false n0]; rfl⟩
 have e1 : (kd == 1) = false:=by simp [k1]
 rw [if_neg k1]
 by_cases k2 : kd = 2
 ·subst k2
  have e20 : ((2 : Int) == 0) = false:=by decide
  have e21 : ((2 : Int) == 1) = false:=by decide
  have e2 : ((2 : Int) == 2) = true:=by decide
  rw [if_pos rfl]
  cases hn : nm == 0
  ·refine run0 (ai e20 (ai e21 (ai e2 hn))) ?_
   exact ⟨_,le_refl _,rfl⟩
  ·refine run0 (ai e20 (ai e21 (ai e2 hn))) ?_
   refine use (hv _) ?_
   refine run0 (ai e20 (ai e21 (ai e2 hn))) ?_
   exact ⟨_,le_refl _,rfl⟩
 have e2 : (kd == 2) = false:=by simp [k2]
 rw [if_neg k2]
 have hn : ((⟨kd,nm,st⟩ : Adr.K) == Adr.K.none) = false:=by
  rw [beq_eq_false_iff_ne]
  unfold Adr.K.none
  intro e; injection e with e _ _; exact k0 e
 rw [hn]
 refine run0 (ai e0 (ai e1 e2)) ?_
 exact ⟨_,le_refl _,rfl⟩
end AX
end Go.Proofs.YtknnodgbhpbgjaaGreatDoor

namespace Go.Proofs.YtknnodgbhpbgjaaGreatDoor
open Go.RowKit
namespace Str
theorem one_width (l : List UInt8) (hl : l ≠ []) (h : (one l).2.2 = 0) : (one l).2.1 ≤ l.length:=by
 have hp:=List.length_pos_iff.2 hl
 by_cases h92 : l.getD 0 0 = 92
 ·obtain ⟨⟨c,n,e⟩,he⟩ : ∃ x,escp (l.drop 1) = x:=⟨_,rfl⟩
  have h1:=one_esc l h92 c n e he
  rw [h1] at h ⊢
  by_cases h0 : e = 0
  ·rw [if_neg (by simp [h0])]
   have:=escp_len (l.drop 1) (by rw [he]; exact h0)
   rw [he,List.length_drop] at this
   dsimp only at this ⊢
   omega
  ·rw [if_pos h0] at h
   exact absurd h h0
 ·obtain ⟨⟨c,n⟩,hd⟩ : ∃ x,Lib.decodeL l = x:=⟨_,rfl⟩
  have hc : c ≠ 92:=by
   rcases dec_cases l with ⟨q1,q2⟩ | ⟨q1,q2⟩
   ·rw [hd] at q2
    injection q2 with q2 q3
    intro e
    apply h92
    rw [← UInt8.toNat_inj]
    have : (l.getD 0 0).toNat = 92:=by omega
    simpa using this
   ·rw [hd] at q2
    dsimp only at q2
    omega
  by_cases hbad : (c = 65533 ∧ n = 1) ∨ c < 32 ∨ c = 127
  ·rw [one_bad l c n hd hc hbad] at h
   simp at h
  ·rw [one_ok l hl c n hd hc hbad]
   have:=Lib.decodeL_le l hl
   rw [hd] at this
   exact this
theorem unq_width : ∀ (f : Nat) (l acc : List UInt8) (i N : Nat),i + l.length = N → (unq f l acc i).2.2 = 0 → (unq f l acc i).2.1 ≤ N
 | 0,l,acc,i,N,hN,h => by
  unfold unq at h ⊢
  simp at h ⊢
 | f + 1,l,acc,i,N,hN,h => by
  unfold unq at h ⊢
  split
  ·next h1 => rw [if_pos h1] at h; simp at h
  ·next h1 =>
   rw [if_neg h1] at h
   have hp:=List.length_pos_iff.2 h1
   split
   ·next h2 =>
    rw [if_pos h2] at h
    split
    ·exact Nat.zero_le _
    ·dsimp only; omega
   ·next h2 =>
    rw [if_neg h2] at h
    split
    ·exact Nat.zero_le _
    ·next h3 =>
     rw [if_neg h3] at h
     have:=one_width l h1 (by simpa using h3)
     exact unq_width f _ _ _ N (by rw [List.length_drop]; omega) h
theorem unquote_width (l : List UInt8) (h : (unquote l).2.2 = 0) : (unquote l).2.1 ≤ l.length:=by
 unfold unquote at h ⊢
 split
 ·exact Nat.zero_le _
 ·next h1 =>
  rw [if_neg h1] at h
  split
  ·exact Nat.zero_le _
  ·next h2 =>
   rw [if_neg h2] at h
   have hp:=List.length_pos_iff.2 h1
   exact unq_width _ _ _ _ l.length (by rw [List.length_drop]; omega) h
end Str
namespace AX
theorem glob_of {w : World} (g : GT w) : Glob w:=⟨g.tabs,g.tz⟩
theorem a_unquote (s : List UInt8) (hs : s.length ≤ 2000000) (h : Hp) : ACall Tryz.prog GT 318 [.str s] h fun r h' => r = .tup [.str (Str.unquote s).1,.int .i64 (Str.unquote s).2.1,.int .i64 (Str.unquote s).2.2] ∧ h' = h:=
 acall_imp (args1 r_str) (fun w hg => unquote_any ⟨s.toArray⟩ w (by rw [size_mk]; exact hs) (glob_of hg)) (fun C => rep_tup.2 ⟨_,rfl,repL_cons.2 ⟨_,_,rfl,rep_str.2 rfl,repL_cons.2 ⟨_,_,rfl,rep_int.2 rfl,repL_cons.2 ⟨_,_,rfl,rep_int.2 rfl,repL_nil.2 rfl⟩⟩⟩⟩) h
theorem a_quote (s : List UInt8) (hs : s.length ≤ 2000000) (h : Hp) : ACall Tryz.prog GT 319 [.str s] h fun r h' => r = .str (Str.quote s) ∧ h' = h:=
 acall_imp (args1 r_str) (fun w hg => quote_any ⟨s.toArray⟩ w (by rw [size_mk]; exact hs) (glob_of hg)) (fun C => rep_str.2 rfl) h
theorem pre_begins (s p : List UInt8) : (decide (p.length ≤ s.length) && s.take p.length == p) = Adr.begins s p:=by
 unfold Adr.begins
 rw [Bool.eq_iff_iff,List.isPrefixOf_iff_prefix,List.prefix_iff_eq_take,Bool.and_eq_true,decide_eq_true_eq,beq_iff_eq]
 constructor
 ·rintro ⟨h1,h2⟩; exact h2.symm
 ·intro h2
  exact ⟨by have:=congrArg List.length h2; rw [List.length_take] at this; omega,h2.symm⟩
theorem w_key (r : Adr.Rd) (hl : r.rest.length ≤ 2000000) {h : Hp} {i : Nat} (hb : h.b[i]? = some (adB r)) :
  ACall Tryz.prog GT 288 [.ptr i 0] h fun v h' => v = Adr.K.A (Adr.keyP r).1 ∧ h' = ⟨h.b.set i (adB (Adr.keyP r).2),h.t⟩:=by
 have key : ACall Tryz.prog GT 288 [.ptr 0 0] ⟨[adB r],[]⟩ fun v h' => ∃ b',h'.b[0]? = some b' ∧ v = Adr.K.A (Adr.keyP r).1 ∧ b' = adB (Adr.keyP r).2:=by
  refine fo ?_
  have hh:=fun h hb => w_has [91] r (h:=h) (i:=0) hb
  obtain ⟨Z,hZ⟩ : ∃ Z,Adr.keyP r = Z:=⟨_,rfl⟩
  rw [hZ]
  unfold Adr.keyP at hZ
  unfold Adr.hasP at hh
  unfold adB at hh ⊢
  obtain ⟨rest,bad⟩:=r
  dsimp only at hl hh hZ
  cases bad
  rotate_left
  ·rw [if_pos rfl] at hZ
   subst hZ
   refine run0 ti ?_
   exact ⟨_,le_refl _,_,rfl,rfl,rfl⟩
  rw [if_neg (by decide)] at hZ
  refine run0 ti ?_
  refine use (hh _ rfl) ?_
  cases hB : Adr.begins rest [91]
  ·rw [hB,if_pos rfl] at hZ
   subst hZ
   refine run0 ti ?_
   exact ⟨_,le_refl _,_,rfl,rfl,rfl⟩
  rw [hB,if_neg (by decide)] at hZ
  obtain ⟨t,ht⟩ : ∃ t,rest.drop 1 = t:=⟨_,rfl⟩
  have ht1 : rest.drop [91].length = t:=ht
  have htl : t.length ≤ 2000000:=by rw [← ht,List.length_drop]; omega
  rw [ht] at hZ
  have hp:=fun h => a_hasPrefix t [34] h
  rw [pre_begins] at hp
  have hu:=fun h => a_unquote t htl h
  have hsk:=fun (q : Adr.Rd) h hb => w_skip [93] q (h:=h) (i:=0) hb
  unfold adB at hsk
  refine run0 (ai ht1 ht) ?_
  refine use (hp _) ?_
  cases hQ : Adr.begins t [34]
  ·rw [hQ,if_neg (by decide)] at hZ
   refine run0 ti ?_
   refine use (a_indexByte t _) ?_
   have hk:=Adr.indexByte_key t
   obtain ⟨n,hn,hnle,hix⟩ : ∃ n : Nat,(if t.all (· != 93) then 0 else (t.takeWhile (· != 93)).length) = n ∧ n ≤ t.length ∧ (Lib.indexByte t 93 = (n : Int) ∨ (Lib.indexByte t 93 = -1 ∧ n = 0)):=by
    rcases hk with ⟨k1,k2⟩ | ⟨k1,k2,k3⟩
    ·exact ⟨0,by rw [if_pos k1],Nat.zero_le _,.inr ⟨k2,rfl⟩⟩
    ·exact ⟨_,by rw [k1,if_neg (by decide)],k3,.inl k2⟩
   rw [hn] at hZ
   have hmax : (if (0 : Int) > Lib.indexByte t 93 then 0 else Lib.indexByte t 93) = (n : Int):=by
    rcases hix with e | ⟨e,e2⟩
    ·rw [e,if_neg (by omega)]
    ·rw [e,e2]; rfl
   have htk : (t.take n).length ≤ 2000000:=by rw [List.length_take]; omega
   have hnp:=fun h => a_numParse (t.take n) htk h
   have l0 : (0 : Int) ≤ (n : Int):=by omega
   have l1 : (n : Int) ≤ (t.length : Int):=by omega
   obtain ⟨⟨x,e⟩,hx⟩ : ∃ q,Num.parse (t.take n) = q:=⟨_,rfl⟩
   rw [hx] at hnp hZ
   dsimp only at hnp hZ
   refine run0 (ai hmax (ai l0 l1)) ?_
   refine use (hnp _) ?_
   have hbad : ∃ b,(e != 0 || decide (x < 0)) = b:=⟨_,rfl⟩
   obtain ⟨b,hb⟩:=hbad
   rw [hb] at hZ
   subst hZ
   by_cases he : e = 0
   ·have e1 : (e != 0) = false:=by simp [he]
    rw [e1,Bool.false_or] at hb
    refine run0 (ai e1 (ai hb (ai l0 l1))) ?_
    refine use (hsk ⟨t.drop n,b⟩ _ rfl) ?_
    refine run0 ti ?_
    exact ⟨_,le_refl _,_,rfl,rfl,rfl⟩
   ·have e1 : (e != 0) = true:=by simp [he]
    rw [e1,Bool.true_or] at hb
    subst hb
    refine run0 (ai e1 (ai l0 l1)) ?_
    refine use (hsk ⟨t.drop n,true⟩ _ rfl) ?_
    refine run0 ti ?_
    exact ⟨_,le_refl _,_,rfl,rfl,rfl⟩
  ·rw [hQ,if_pos rfl] at hZ
   refine run0 ti ?_
   refine use (hu _) ?_
   have hw:=Str.unquote_width t
   have hv:=Str.unquote_valid t
   obtain ⟨⟨us,un,ue⟩,hue⟩ : ∃ q,Str.unquote t = q:=⟨_,rfl⟩
   rw [hue] at hZ hw hv ⊢
   dsimp only at hZ hw hv ⊢
   by_cases he : ue = 0
   rotate_left
   ·have e1 : (ue != 0) = true:=by simp [he]
    rw [if_pos (.inl he)] at hZ
    subst hZ
    refine run0 e1 ?_
    exact ⟨_,le_refl _,_,rfl,rfl,rfl⟩
   have e1 : (ue != 0) = false:=by simp [he]
   have hul : us.length ≤ 2000000:=by
    have:=hv he
    unfold Str.valid at this
    rw [Bool.and_eq_true,decide_eq_true_eq] at this
    omega
   have l1 : (un : Int) ≤ (t.length : Int):=by have:=hw he; omega
   have l0 : (0 : Int) ≤ (un : Int):=by omega
   refine run0 (ai e1 (ai l0 l1)) ?_
   refine use (a_quote us hul _) ?_
   cases hne : Str.quote us != t.take un
   ·rw [if_neg (by rintro (h | h); exact h he; rw [bne_eq_false_iff_eq] at hne; exact h hne)] at hZ
    subst hZ
    refine run0 (ai e1 (ai hne (ai l0 l1))) ?_
    refine use (hsk ⟨t.drop un,false⟩ _ rfl) ?_
    refine run0 ti ?_
    exact ⟨_,le_refl _,_,rfl,rfl,rfl⟩
   ·rw [if_pos (.inr (bne_iff_ne.1 hne))] at hZ
    subst hZ
    refine run0 (ai e1 (ai hne (ai l0 l1))) ?_
    exact ⟨_,le_refl _,_,rfl,rfl,rfl⟩
 refine (ACall.lift1 key rfl (adB_loc r) ?_ hb).mono ?_
 ·rintro v b' ⟨rfl,rfl⟩; exact ⟨rfl,adB_loc _⟩
 ·rintro v h' ⟨b',⟨rfl,rfl⟩,rfl⟩; exact ⟨rfl,rfl⟩
theorem a_r2unquote (s : List UInt8) (hs : s.length ≤ 2000000) (h : Hp) : ACall Tryz.prog GT 369 [.str s] h fun r h' => r = .tup [.str (Str.unquote s).1,.int .i64 (Str.unquote s).2.1,.int .i64 (Str.unquote s).2.2] ∧ h' = h:=
 acall_imp (args1 r_str) (fun w hg => refUnquote_any ⟨s.toArray⟩ w (by rw [size_mk]; exact hs)) (fun C => rep_tup.2 ⟨_,rfl,repL_cons.2 ⟨_,_,rfl,rep_str.2 rfl,repL_cons.2 ⟨_,_,rfl,rep_int.2 rfl,repL_cons.2 ⟨_,_,rfl,rep_int.2 rfl,repL_nil.2 rfl⟩⟩⟩⟩) h
theorem a_r2quote (s : List UInt8) (hs : s.length ≤ 2000000) (h : Hp) : ACall Tryz.prog GT 370 [.str s] h fun r h' => r = .str (Str.quote s) ∧ h' = h:=
 acall_imp (args1 r_str) (fun w hg => refQuote_any ⟨s.toArray⟩ w (by rw [size_mk]; exact hs)) (fun C => rep_str.2 rfl) h
theorem key_eqB (k : Adr.K) : (k == Adr.K.none) = ((k.kind == 0) && ((k.num == 0) && (k.str == []))):=by
 obtain ⟨a,b,c⟩:=k
 unfold Adr.K.none
 rw [Bool.eq_iff_iff,beq_iff_eq,Bool.and_eq_true,Bool.and_eq_true,beq_iff_eq,beq_iff_eq,beq_iff_eq]
 simp
theorem a_r6Key (k : Adr.K) (hk : k.str.length ≤ 2000000) (h : Hp) : ACall Tryz.prog GT 371 [.agg [.int .i64 k.kind,.int .i64 k.num,.str k.str]] h fun r h' => r = .bool (Adr.keyOk k) ∧ h' = h:=by
 have hv:=a_refValid k.str hk
 refine pcall ?_ rfl (by simp [A.pure,A.data]) h
 refine fo ?_
 unfold Adr.keyOk
 rw [key_eqB]
 obtain ⟨kd,num,str⟩:=k
 dsimp only at hv ⊢
 by_cases h1 : kd = 1
 ·subst h1
  refine runx0 ti ti ?_
  refine ⟨_,le_refl _,?_⟩
  rw [tupA_1,if_pos rfl]
 have e1 : (kd == 1) = false:=by simp [h1]
 rw [if_neg h1]
 by_cases h2 : kd = 2
 ·subst h2
  refine runx0 ti (ai hv ti) ?_
  exact ⟨_,le_refl _,rfl⟩
 have e2 : (kd == 2) = false:=by simp [h2]
 rw [if_neg h2]
 have eq : eqCells [0,0,1] [.int .i64 kd,.int .i64 num,.str str] [.int .i64 0,.int .i64 0,.str []] = some ((kd == 0) && ((num == 0) && (str == []))):=by simp [eqCells]
 refine runx0 (ai e1 (ai e2 eq)) ti ?_
 exact ⟨_,le_refl _,rfl⟩
theorem a_r6fmtkey0 (h : Hp) : ACall Tryz.prog GT 374 [.agg [.int .i64 0,.int .i64 0,.str []]] h fun r h' => r = .str [] ∧ h' = h:=by
 refine pcall ?_ rfl (by simp [A.pure,A.data]) h
 refine fo ?_
 have ck:=a_r6Key Adr.K.none (by decide)
 rw [show Adr.keyOk Adr.K.none = true by decide] at ck
 dsimp only [Adr.K.none] at ck
 refine runx0 ti (ai ck ti) ?_
 exact ⟨_,le_refl _,rfl⟩
def keyR (s : List UInt8) : Adr.K × List UInt8 × Bool:=match Adr.key s with
 | none => (Adr.K.none,[],false)
 | some (k,r) => (k,r,true)
def keyT (r : Adr.K × List UInt8 × Bool) : A:=.tup [.agg [.int .i64 r.1.kind,.int .i64 r.1.num,.str r.1.str],.str r.2.1,.bool r.2.2]
theorem dig_yes (c : UInt8) : (decide ((c.toNat : Int) ≥ 48) && decide ((c.toNat : Int) ≤ 57)) = Num.digB c:=by
 unfold Num.digB
 have e1 : decide ((c.toNat : Int) ≥ 48) = decide (48 ≤ c.toNat):=by rw [decide_eq_decide]; omega
 have e2 : decide ((c.toNat : Int) ≤ 57) = decide (c.toNat ≤ 57):=by rw [decide_eq_decide]; omega
 rw [e1,e2]
theorem byte_eqI (c : UInt8) (n : Nat) (hn : n < 256) : ((c.toNat : Int) == (n : Int)) = (c == UInt8.ofNat n):=by
 rw [Bool.eq_iff_iff,beq_iff_eq,beq_iff_eq,← UInt8.toNat_inj,UInt8.toNat_ofNat']
 omega
theorem byte_neI (c : UInt8) (n : Nat) (hn : n < 256) : ((c.toNat : Int) != (n : Int)) = (c != UInt8.ofNat n):=by
 show (!((c.toNat : Int) == (n : Int))) = !(c == UInt8.ofNat n)
 rw [byte_eqI c n hn]
theorem a_r6key (s : List UInt8) (hl : s.length ≤ 2000000) (h : Hp) : ACall Tryz.prog GT 351 [.str s] h fun r h' => r = keyT (keyR s) ∧ h' = h:=by
 obtain ⟨q,hq⟩ : ∃ q,keyR s = q:=⟨_,rfl⟩
 rw [hq]
 unfold keyR at hq
 refine pcall ?_ (by unfold keyT; rfl) (by simp [A.pure,A.data]) h
 refine fo ?_
 by_cases h1 : s.getD 0 0 = 91
 rotate_left
 ·have hk : Adr.key s = some (Adr.K.none,s):=by unfold Adr.key; rw [if_pos h1]
  rw [hk] at hq
  subst hq
  cases s with
  | nil =>
   refine runx0 ti ti ?_
   exact ⟨_,le_refl _,rfl⟩
  | cons c t =>
   have e0 : ((c :: t) == ([] : List UInt8)) = false ∧ (0 : Int) < ((t.length + 1 : Nat) : Int) ∧ ((c.toNat : Int) != 91) = true:=⟨rfl,by omega,by
    have:=byte_neI c 91 (by decide)
    rw [List.getD_cons_zero] at h1
    rw [show ((91 : Nat) : Int) = 91 from rfl] at this
    rw [this]; simpa using h1⟩
   refine runx0 e0 ti ?_
   exact ⟨_,le_refl _,rfl⟩
 cases s with
 | nil => simp at h1
 | cons c t =>
 rw [List.getD_cons_zero] at h1
 subst h1
 have hl' : t.length + 1 ≤ 2000000 := hl
 have e0 : (((91 : UInt8) :: t) == ([] : List UInt8)) = false ∧ (0 : Int) < ((t.length + 1 : Nat) : Int) ∧ (((91 : UInt8).toNat : Int) != 91) = false ∧ (0 : Int) ≤ 1 ∧ (1 : Int) ≤ ((t.length + 1 : Nat) : Int) ∧ Int.toNat 1 = 1 := ⟨rfl, by omega, rfl, by omega, by omega, rfl⟩
 have hk0 : Adr.key (91 :: t) = if 1 < (91 :: t).length ∧ (91 :: t).getD 1 0 = 34 then
  (let u := Str.unquote ((91 :: t).drop 1)
   let k : Adr.K := ⟨2, 0, u.1⟩
   if u.2.2 ≠ 0 ∨ (91 :: t).length ≤ u.2.1 + 1 ∨ (91 :: t).getD (u.2.1 + 1) 0 ≠ 93 ∨ ((91 :: t).take (u.2.1 + 1)).drop 1 ≠ Str.quote u.1 ∨ Adr.keyOk k = false then Option.none
   else some (k, (91 :: t).drop (u.2.1 + 2)))
 else
  (let d := ((91 :: t).drop 1).takeWhile Num.digB
   let x := Num.parse d
   if x.2 ≠ 0 ∨ (91 :: t).length ≤ d.length + 1 ∨ (91 :: t).getD (d.length + 1) 0 ≠ 93 then Option.none
   else some (⟨1, x.1, []⟩, (91 :: t).drop (d.length + 2))) := by unfold Adr.key; rw [if_neg (by simp)]
 simp only [List.drop_succ_cons,List.drop_zero,List.getD_cons_succ,List.take_succ_cons,List.length_cons] at hk0
 by_cases h2 : 0 < t.length ∧ t.getD 0 0 = 34
 ·rw [if_pos ⟨by omega,h2.2⟩] at hk0
  obtain ⟨h3,h4⟩:=h2
  have e1 : ((t.length + 1 : Nat) : Int) > 1 ∧ (1 : Int) < ((t.length + 1 : Nat) : Int) ∧ (((91 : UInt8) :: t).getD 1 0) = 34 ∧ (((34 : UInt8).toNat : Int) == 34) = true:=⟨by omega,by omega,by rw [List.getD_cons_succ]; exact h4,rfl⟩
  have cu:=a_r2unquote t (by omega)
  have hwd:=Str.unquote_width t
  have huv:=Str.unquote_valid t
  obtain ⟨⟨x,n,e⟩,hu⟩ : ∃ u,Str.unquote t = u:=⟨_,rfl⟩
  rw [hu] at cu hk0 hwd huv
  dsimp only at cu hk0 hwd huv
  by_cases g1 : e = 0
  rotate_left
  ·have f1 : (e != 0) = true:=by simp [g1]
   rw [if_pos (.inl g1)] at hk0
   rw [hk0] at hq
   subst hq
   refine runx0 (ai e0 (ai e1 f1)) (ai cu ti) ?_
   exact ⟨_,le_refl _,rfl⟩
  subst g1
  have hn:=hwd rfl
  have hxl : x.length ≤ 2000000:=by
   have:=huv rfl
   unfold Str.valid at this
   rw [Bool.and_eq_true,decide_eq_true_eq] at this
   omega
  have cq:=a_r2quote x hxl
  have ck:=a_r6Key ⟨2,0,x⟩ hxl
  have w1 : IntKind.i64.wrap ((n : Int) + 1) = ((n + 1 : Nat) : Int) ∧ IntKind.i64.wrap ((n : Int) + 2) = ((n + 2 : Nat) : Int):=⟨i80 (by omega),by rw [wrap64 (by omega) (by omega)]; omega⟩
  by_cases g2 : t.length + 1 ≤ n + 1
  ·have f2 : ((n + 1 : Nat) : Int) ≥ ((t.length + 1 : Nat) : Int):=by omega
   rw [if_pos (.inr (.inl g2))] at hk0
   rw [hk0] at hq
   subst hq
   refine runx0 (ai e0 (ai e1 (ai w1 f2))) (ai cu ti) ?_
   exact ⟨_,le_refl _,rfl⟩
  have f2 : ¬ ((n + 1 : Nat) : Int) ≥ ((t.length + 1 : Nat) : Int) ∧ ((n + 1 : Nat) : Int) < ((t.length + 1 : Nat) : Int) ∧ (0 : Int) ≤ ((n + 1 : Nat) : Int) ∧ (1 : Int) ≤ ((n + 1 : Nat) : Int) ∧ ((n + 1 : Nat) : Int) ≤ ((t.length + 1 : Nat) : Int):=⟨by omega,by omega,by omega,by omega,by omega⟩
  obtain ⟨c,hc⟩ : ∃ c,t.getD n 0 = c:=⟨_,rfl⟩
  have hcn:=byte_neI c 93 (by decide)
  rw [show ((93 : Nat) : Int) = 93 from rfl,show UInt8.ofNat 93 = 93 from rfl] at hcn
  rw [hc] at hk0
  by_cases g3 : c = 93
  rotate_left
  ·have f3 : (c != 93) = true:=by simp [g3]
   rw [if_pos (.inr (.inr (.inl g3)))] at hk0
   rw [hk0] at hq
   subst hq
   refine runx0 (ai e0 (ai e1 (ai w1 (ai f2 (ai hc (ai hcn f3)))))) (ai cu ti) ?_
   exact ⟨_,le_refl _,rfl⟩
  have f3 : (c != 93) = false:=by simp [g3]
  by_cases g4 : t.take n = Str.quote x
  rotate_left
  ·have f4 : (t.take n != Str.quote x) = true:=by simp [g4]
   rw [if_pos (.inr (.inr (.inr (.inl g4))))] at hk0
   rw [hk0] at hq
   subst hq
   refine runx0 (ai e0 (ai e1 (ai w1 (ai f2 (ai hc (ai hcn (ai f3 f4))))))) (ai cu (ai cq ti)) ?_
   exact ⟨_,le_refl _,rfl⟩
  have f4 : (t.take n != Str.quote x) = false:=by simp [g4]
  dsimp only at ck
  cases g5 : Adr.keyOk ⟨2,0,x⟩ with
  | false =>
   rw [g5] at ck
   rw [if_pos (.inr (.inr (.inr (.inr g5))))] at hk0
   rw [hk0] at hq
   subst hq
   refine runx0 (ai e0 (ai e1 (ai w1 (ai f2 (ai hc (ai hcn (ai f3 f4))))))) (ai cu (ai cq (ai ck ti))) ?_
   exact ⟨_,le_refl _,rfl⟩
  | true =>
   rw [g5] at ck
   rw [if_neg (by rintro (h | h | h | h | h); exact h rfl; exact g2 h; exact h g3; exact h g4; rw [g5] at h; cases h)] at hk0
   rw [hk0] at hq
   subst hq
   have f6 : (0 : Int) ≤ ((n + 2 : Nat) : Int) ∧ ((n + 2 : Nat) : Int) ≤ ((t.length + 1 : Nat) : Int):=⟨by omega,by omega⟩
   refine runx0 (ai e0 (ai e1 (ai w1 (ai f2 (ai hc (ai hcn (ai f3 (ai f4 f6)))))))) (ai cu (ai cq (ai ck ti))) ?_
   exact ⟨_,le_refl _,rfl⟩
 rw [if_neg (fun h => h2 ⟨by omega,h.2⟩)] at hk0
 have e1 : (decide (((t.length + 1 : Nat) : Int) > 1) && ((t.getD 0 0).toNat : Int) == 34) = false:=by
  have hb:=byte_eqI (t.getD 0 0) 34 (by decide)
  rw [show ((34 : Nat) : Int) = 34 from rfl,show UInt8.ofNat 34 = 34 from rfl] at hb
  rw [hb]
  by_cases h3 : 0 < t.length
  ·have : (t.getD 0 0 == 34) = false:=by simpa using fun h => h2 ⟨h3,h⟩
   rw [this,Bool.and_false]
  ·have : decide (((t.length + 1 : Nat) : Int) > 1) = false:=by rw [decide_eq_false_iff_not]; omega
   rw [this,Bool.false_and]
 refine runx0 (ai e0 e1) ti ?_
 refine awp_loop (fun m ts hh => hh = ⟨[.cells 282 [.int .i64 0,.int .i64 0,.str []]],[]⟩ ∧ ∃ j : Nat,m = t.length - j ∧ j ≤ t.length ∧ (t.take j).all Num.digB = true ∧ (ts 0 = .str (91 :: t) ∧ ts 2 = .ptr 0 0 ∧ ts 9 = .int .i64 ((j + 1 : Nat) : Int))) t.length ?_ ?_
 ·exact ⟨rfl,0,rfl,Nat.zero_le _,rfl,by (exact inv0 ti)⟩
 rintro m ts hh ⟨rfl,j,rfl,hj,hall,ht⟩
 have hs : (0 : Int) ≤ ((j + 1 : Nat) : Int) ∧ (1 : Int) ≤ ((j + 1 : Nat) : Int) ∧ ((j + 1 : Nat) : Int) ≤ ((t.length + 1 : Nat) : Int) ∧ IntKind.i64.wrap (((j + 1 : Nat) : Int) + 1) = ((j + 1 + 1 : Nat) : Int):=⟨by omega,by omega,by omega,i80 (by omega)⟩
 have fin : (j = t.length ∨ Num.digB (t.getD j 0) = false) → t.takeWhile Num.digB = t.take j ∧ (t.takeWhile Num.digB).length = j:=fun hc => by
  obtain ⟨k1,_⟩:=take_stop t j hj hall hc
  rw [k1,List.length_take]
  exact ⟨rfl,by omega⟩
 have hpl : (t.take j).length ≤ 2000000:=by rw [List.length_take]; omega
 have cp:=a_r1parse (t.take j) hpl
 rcases Nat.lt_or_ge j t.length with hlt | hge
 ·have hf : ((j + 1 : Nat) : Int) < ((t.length + 1 : Nat) : Int):=by omega
  obtain ⟨c,hc⟩ : ∃ c,t.getD j 0 = c:=⟨_,rfl⟩
  have hcc : t[j] = c:=by rw [← hc]; simp [List.getD,hlt]
  have hw:=dig_yes c
  cases hB : Num.digB c with
  | true =>
   rw [hB,Bool.and_eq_true] at hw
   have hw':=hw
   refine runx0 (ai ht (ai hs (ai hf (ai hc hw)))) ti ?_
   refine ⟨_,?_,rfl,j + 1,rfl,by omega,?_,by (exact inv0 (ai ht (ai hs hf)))⟩
   ·omega
   ·rw [List.take_succ_eq_append_getElem hlt,List.all_append,hall,hcc]
    simp [hB]
  | false =>
   rw [hB] at hw
   obtain ⟨k1,k2⟩:=fin (.inr (by rw [hc]; exact hB))
   rw [k2,k1] at hk0
   have hcn:=byte_neI c 93 (by decide)
   rw [show ((93 : Nat) : Int) = 93 from rfl,show UInt8.ofNat 93 = 93 from rfl] at hcn
   obtain ⟨⟨x,e⟩,hx⟩ : ∃ x,Num.parse (t.take j) = x:=⟨_,rfl⟩
   rw [hx] at hk0 cp
   dsimp only at hk0 cp
   rw [hc] at hk0
   have hge : ¬ ((j + 1 : Nat) : Int) ≥ ((t.length + 1 : Nat) : Int):=by omega
   by_cases g1 : e = 0
   rotate_left
   ·have f1 : (e != 0) = true:=by simp [g1]
    rw [if_pos (.inl g1)] at hk0
    rw [hk0] at hq
    subst hq
    refine runx0 (ai ht (ai hs (ai hf (ai hc (ai hw f1))))) (ai cp ti) ?_
    exact ⟨_,le_refl _,rfl⟩
   have f1 : (e != 0) = false:=by simp [g1]
   by_cases g2 : c = 93
   rotate_left
   ·have f2 : (c != 93) = true:=by simp [g2]
    rw [if_pos (.inr (.inr g2))] at hk0
    rw [hk0] at hq
    subst hq
    refine runx0 (ai ht (ai hs (ai hf (ai hc (ai hw (ai hge (ai hcn (ai f1 f2)))))))) (ai cp ti) ?_
    exact ⟨_,le_refl _,rfl⟩
   have f2 : (c != 93) = false:=by simp [g2]
   rw [if_neg (by rintro (h | h | h); exact h g1; omega; exact h g2)] at hk0
   rw [hk0] at hq
   subst hq
   have f3 : (0 : Int) ≤ ((j + 1 + 1 : Nat) : Int) ∧ ((j + 1 + 1 : Nat) : Int) ≤ ((t.length + 1 : Nat) : Int):=⟨by omega,by omega⟩
   refine runx0 (ai ht (ai hs (ai hf (ai hc (ai hw (ai hge (ai hcn (ai f1 (ai f2 f3))))))))) (ai cp ti) ?_
   exact ⟨_,le_refl _,rfl⟩
 ·have hf : ¬ ((j + 1 : Nat) : Int) < ((t.length + 1 : Nat) : Int):=by omega
  obtain ⟨k1,k2⟩:=fin (.inl (by omega))
  rw [k2,k1] at hk0
  obtain ⟨⟨x,e⟩,hx⟩ : ∃ x,Num.parse (t.take j) = x:=⟨_,rfl⟩
  rw [hx] at hk0 cp
  dsimp only at hk0 cp
  rw [if_pos (.inr (.inl (by omega)))] at hk0
  rw [hk0] at hq
  subst hq
  have hge : ((j + 1 : Nat) : Int) ≥ ((t.length + 1 : Nat) : Int):=by omega
  by_cases g1 : e = 0
  ·have f1 : (e != 0) = false:=by simp [g1]
   refine runx0 (ai ht (ai hs (ai hf (ai hge f1)))) (ai cp ti) ?_
   exact ⟨_,le_refl _,rfl⟩
  ·have f1 : (e != 0) = true:=by simp [g1]
   refine runx0 (ai ht (ai hs (ai hf f1))) (ai cp ti) ?_
   exact ⟨_,le_refl _,rfl⟩
def stepR (s : List UInt8) : Adr.Step × List UInt8 × Bool:=
 (⟨(s.drop 7).takeWhile Adr.wordB,(keyR ((s.drop 7).dropWhile Adr.wordB)).1⟩,(keyR ((s.drop 7).dropWhile Adr.wordB)).2.1,(keyR ((s.drop 7).dropWhile Adr.wordB)).2.2 && Adr.ident ((s.drop 7).takeWhile Adr.wordB))
theorem a_r6step (s : List UInt8) (hl : s.length ≤ 2000000) (h7 : 7 ≤ s.length) (h : Hp) : ACall Tryz.prog GT 348 [.str s] h fun r h' => r = .tup [.agg (stepR s).1.cells,.str (stepR s).2.1,.bool (stepR s).2.2] ∧ h' = h:=by
 have cw:=a_r6word (s.drop 7) (by rw [List.length_drop]; omega)
 have w1 : ((s.drop 7).takeWhile Adr.wordB).length ≤ 2000000:=Nat.le_trans (List.takeWhile_prefix _).length_le (by rw [List.length_drop]; omega)
 have w2 : ((s.drop 7).dropWhile Adr.wordB).length ≤ 2000000:=Nat.le_trans (List.dropWhile_suffix _).length_le (by rw [List.length_drop]; omega)
 have ck:=a_r6key _ w2
 have ci:=a_r6ident _ w1
 unfold stepR
 refine pcall ?_ rfl (by simp [A.pure,A.data]) h
 obtain ⟨W,hW⟩ : ∃ W,(s.drop 7).takeWhile Adr.wordB = W:=⟨_,rfl⟩
 obtain ⟨R,hR⟩ : ∃ R,(s.drop 7).dropWhile Adr.wordB = R:=⟨_,rfl⟩
 rw [hW] at cw ci ⊢
 rw [hR] at cw ck ⊢
 obtain ⟨⟨⟨a,b,d⟩,r,ok⟩,hk⟩ : ∃ k,keyR R = k:=⟨_,rfl⟩
 rw [hk] at ck ⊢
 unfold keyT at ck
 dsimp only at ck ⊢
 dsimp only [Adr.Step.cells]
 refine fo ?_
 have hs : (0 : Int) ≤ 7 ∧ (7 : Int) ≤ (s.length : Int) ∧ Int.toNat 7 = 7:=⟨by decide,by omega,rfl⟩
 have tk : s.take s.length = s:=List.take_length
 refine runx0 hs (ai cw (ai ck (ai ci ti))) ?_
 exact ⟨_,le_refl _,rfl⟩
end AX
namespace Adr
theorem has_len (p : List UInt8) (r : Rd) : (hasP p r).2.rest.length ≤ r.rest.length:=by
 unfold hasP; split
 ·rw [List.length_drop]; omega
 ·exact Nat.le_refl _
theorem has_less (p : List UInt8) (r : Rd) (h : begins r.rest p = true) : (hasP p r).2.rest.length + p.length = r.rest.length:=by
 have:=begins_len h
 unfold hasP; rw [if_pos h]; dsimp only; rw [List.length_drop]; omega
theorem takeW_len {p : UInt8 → Bool} (s : List UInt8) : (s.takeWhile p).length ≤ s.length:=List.Sublist.length_le (List.takeWhile_sublist p)
theorem dropW_len {p : UInt8 → Bool} (s : List UInt8) : (s.dropWhile p).length ≤ s.length:=List.Sublist.length_le (List.dropWhile_sublist p)
theorem word_len (r : Rd) : (wordP r).2.rest.length ≤ r.rest.length ∧ (wordP r).1.length ≤ r.rest.length:=⟨dropW_len _,takeW_len _⟩
theorem skip_len (p : List UInt8) (r : Rd) : (skipP p r).rest.length ≤ r.rest.length:=by
 unfold skipP; split
 ·dsimp only; rw [List.length_drop]; omega
 ·exact Nat.le_refl _
theorem key_len (r : Rd) : (keyP r).2.rest.length ≤ r.rest.length:=by
 unfold keyP
 split
 ·exact Nat.le_refl _
 ·split
  ·exact Nat.le_refl _
  ·dsimp only
   split
   ·split
    ·dsimp only; rw [List.length_drop]; omega
    ·refine Nat.le_trans (skip_len _ _) ?_
     dsimp only; rw [List.length_drop,List.length_drop]; omega
   ·refine Nat.le_trans (skip_len _ _) ?_
    dsimp only; rw [List.length_drop,List.length_drop]; omega
theorem step_len (r : Rd) : (stepP r).2.rest.length ≤ r.rest.length:=Nat.le_trans (key_len _) (word_len r).1
end Adr
namespace AX
theorem w_step (r : Adr.Rd) (hl : r.rest.length ≤ 2000000) {h : Hp} {i : Nat} (hb : h.b[i]? = some (adB r)) :
  ACall Tryz.prog GT 285 [.ptr i 0] h fun v h' => v = .agg (Adr.stepP r).1.cells ∧ h' = ⟨h.b.set i (adB (Adr.stepP r).2),h.t⟩:=by
 have key : ACall Tryz.prog GT 285 [.ptr 0 0] ⟨[adB r],[]⟩ fun v h' => ∃ b',h'.b[0]? = some b' ∧ v = .agg (Adr.stepP r).1.cells ∧ b' = adB (Adr.stepP r).2:=by
  refine fo ?_
  have hw:=fun h hb => w_word r hl (h:=h) (i:=0) hb
  have hk:=fun h hb => w_key (Adr.wordP r).2 (Nat.le_trans (Adr.word_len r).1 hl) (h:=h) (i:=0) hb
  have hS : Adr.stepP r = (⟨(Adr.wordP r).1,(Adr.keyP (Adr.wordP r).2).1⟩,(Adr.keyP (Adr.wordP r).2).2):=rfl
  rw [hS]
  obtain ⟨⟨w,r1⟩,h1⟩ : ∃ q,Adr.wordP r = q:=⟨_,rfl⟩
  rw [h1] at hw hk ⊢
  dsimp only at hw hk ⊢
  obtain ⟨⟨⟨kd,kn,ks⟩,r2⟩,h2⟩ : ∃ q,Adr.keyP r1 = q:=⟨_,rfl⟩
  rw [h2] at hk ⊢
  dsimp only [Adr.K.A] at hk ⊢
  unfold adB at hw hk ⊢
  refine run0 ti ?_
  refine use (hw _ rfl) ?_
  refine run0 ti ?_
  refine use (hk _ rfl) ?_
  refine run0 ti ?_
  exact ⟨_,le_refl _,_,rfl,rfl,rfl⟩
 refine (ACall.lift1 key rfl (adB_loc r) ?_ hb).mono ?_
 ·rintro v b' ⟨rfl,rfl⟩; exact ⟨rfl,adB_loc _⟩
 ·rintro v h' ⟨b',⟨rfl,rfl⟩,rfl⟩; exact ⟨rfl,rfl⟩
theorem a_parse (s : List UInt8) (hs : s.length ≤ 2000000) (h : Hp) : ACall Tryz.prog GT 236 [.str s] h fun r h' => r = .tup [.agg (Adr.parse s).1.cells,.int .i64 (Adr.parse s).2] ∧ h' = h:=by
 rw [← Adr.parse_eq]
 refine pcall ?_ rfl (by simp [A.pure,A.data]) h
 refine fo ?_
 obtain ⟨⟨M,RM⟩,hM⟩ : ∃ q,Adr.modsP (s.length + 1) ⟨s,false⟩ [] = q:=⟨_,rfl⟩
 obtain ⟨F,hF⟩ : ∃ F,Adr.parseP s = F:=⟨_,rfl⟩
 rw [hF]
 unfold Adr.parseP at hF
 rw [hM] at hF
 dsimp only at hF
 refine run0 ti ?_
 refine awp_loop (fun mm ts h => ∃ (r : Adr.Rd) (l : List Adr.Step) (W : Nat) (o : Own) (t : List (TypeId × Nat × Nat)),r.rest.length < mm ∧ mm + l.length = s.length + 1 ∧ Adr.modsP mm r l = (M,RM) ∧
  h = ⟨[.cells 284 [.sl 0 .nil [],.bool false,.str [],.str [],.int .i64 0,.int .i64 0,.str []],.cells 319 [.str r.rest,.bool r.bad],.cells 284 [.sl W o (l.map Adr.Step.cells),.bool false,.str [],.str [],.int .i64 0,.int .i64 0,.str []]],t⟩ ∧
  Gs 321 4 0 ⟨[],t⟩ (l.map Adr.Step.cells) (.sl W o (l.map Adr.Step.cells)) ∧ ts 2 = .ptr 0 0 ∧ ts 3 = .int .i64 0 ∧ ts 4 = .ptr 1 0 ∧ ts 5 = .ptr 2 0) (s.length + 1) ?_ ?_
 ·exact ⟨⟨s,false⟩,[],0,.nil,[],by dsimp only; omega,by simp,hM,rfl,.inl ⟨rfl,rfl⟩,by (exact ev0 ti),by (exact ev0 ti),by (exact ev0 ti),by (exact ev0 ti)⟩
 rintro mm ts h ⟨r,l,W,o,t,hrm,hml,hmod,rfl,gX,t2,t3,t4,t5⟩
 cases mm with
 | zero => omega
 | succ f =>
 unfold Adr.modsP at hmod
 by_cases hgo : r.bad = false ∧ Adr.begins r.rest Adr.modW = true
 ·rw [if_pos hgo] at hmod
  have hmw : Adr.modW = [109,111,100,117,108,101,46]:=rfl
  have cH:=fun h hb => w_has Adr.modW r (h:=h) (i:=1) hb
  have l1:=Adr.has_less Adr.modW r hgo.2
  have hh1 : (Adr.hasP Adr.modW r).1 = true:=by unfold Adr.hasP; rw [if_pos hgo.2]
  rw [hh1] at cH
  have l7 : Adr.modW.length = 7:=rfl
  have hr0 : r.bad = false:=hgo.1
  obtain ⟨r1,hr1⟩ : ∃ q,(Adr.hasP Adr.modW r).2 = q:=⟨_,rfl⟩
  rw [hr1] at cH l1 hmod
  have cS:=fun h hb => w_step r1 (by omega) (h:=h) (i:=1) hb
  have l2:=Adr.step_len r1
  obtain ⟨⟨⟨nm,⟨kd,kn,ks⟩⟩,r2⟩,hr2⟩ : ∃ q,Adr.stepP r1 = q:=⟨_,rfl⟩
  rw [hr2] at cS l2 hmod
  dsimp only [Adr.Step.cells] at cS l2 hmod
  have cK:=fun h hb => w_skip [46] r2 (h:=h) (i:=1) hb
  have l3:=Adr.skip_len [46] r2
  obtain ⟨r3,hr3⟩ : ∃ q,Adr.skipP [46] r2 = q:=⟨_,rfl⟩
  rw [hr3] at cK l3 hmod
  unfold adB at cH cS cK
  rw [hmw] at cH
  rw [hr0] at cH
  obtain ⟨W',o',t',hX,gX',_⟩:=gX.grow 48 [.str nm,.int .i64 kd,.int .i64 kn,.str ks] (by rw [List.length_map]; omega) (by decide)
  have hcat : l.map Adr.Step.cells ++ [[.str nm,.int .i64 kd,.int .i64 kn,.str ks]] = (l ++ [(⟨nm,⟨kd,kn,ks⟩⟩ : Adr.Step)]).map Adr.Step.cells:=by rw [List.map_append]; rfl
  rw [hcat] at gX'
  simp only [hcat] at hX
  rw [hr0]
  refine run0 (ai t2 (ai t3 (ai t4 t5))) ?_
  refine use (cH _ rfl) ?_
  refine run0 (ai t2 (ai t3 (ai t4 t5))) ?_
  refine use (cS _ rfl) ?_
  refine run0 (ai t2 (ai t3 (ai t4 (ai t5 hX)))) ?_
  refine use (cK _ rfl) ?_
  refine run0 (ai t2 (ai t3 (ai t4 t5))) ?_
  exact ⟨f,by omega,r3,l ++ [(⟨nm,⟨kd,kn,ks⟩⟩ : Adr.Step)],W',o',t',by omega,by simp; omega,hmod,rfl,gX',by (exact ev0 t2),by (exact ev0 t3),by (exact ev0 t4),by (exact ev0 t5)⟩
 ·rw [if_neg hgo] at hmod
  injection hmod with hm1 hm2
  subst hm1; subst hm2
  have cD:=fun h hb => w_has Adr.dataW r (h:=h) (i:=1) hb
  have l1:=Adr.has_len Adr.dataW r
  obtain ⟨⟨dt,r1⟩,hr1⟩ : ∃ q,Adr.hasP Adr.dataW r = q:=⟨_,rfl⟩
  rw [hr1] at cD l1 hF
  dsimp only at cD l1 hF
  have cT:=fun h hb => w_word r1 (by omega) (h:=h) (i:=1) hb
  have l2:=Adr.word_len r1
  obtain ⟨⟨ty,r2⟩,hr2⟩ : ∃ q,Adr.wordP r1 = q:=⟨_,rfl⟩
  rw [hr2] at cT l2 hF
  dsimp only at cT l2 hF
  have cK:=fun h hb => w_skip [46] r2 (h:=h) (i:=1) hb
  have l3:=Adr.skip_len [46] r2
  obtain ⟨r3,hr3⟩ : ∃ q,Adr.skipP [46] r2 = q:=⟨_,rfl⟩
  rw [hr3] at cK l3 hF
  have cN:=fun h hb => w_word r3 (by omega) (h:=h) (i:=1) hb
  have l4:=Adr.word_len r3
  obtain ⟨⟨na,r4⟩,hr4⟩ : ∃ q,Adr.wordP r3 = q:=⟨_,rfl⟩
  rw [hr4] at cN l4 hF
  dsimp only at cN l4 hF
  have cY:=fun h hb => w_key r4 (by omega) (h:=h) (i:=1) hb
  have l5:=Adr.key_len r4
  obtain ⟨⟨⟨kd,kn,ks⟩,⟨re,ba⟩⟩,hr5⟩ : ∃ q,Adr.keyP r4 = q:=⟨_,rfl⟩
  rw [hr5] at cY l5 hF
  dsimp only [Adr.K.A] at cY l5 hF
  have ck:=fun h => a_kind ty (by omega) h
  unfold adB at cD cT cK cN cY
  have hdw : Adr.dataW = [100,97,116,97,46]:=rfl
  rw [hdw] at cD
  have start : ∀ {G : Prop},(r.bad = true → G) → (r.bad = false → Adr.begins r.rest Adr.modW = false → G) → G:=fun p q => by
   cases hb : r.bad
   ·refine q hb ?_
    cases hB : Adr.begins r.rest Adr.modW
    ·rfl
    ·exact absurd ⟨hb,hB⟩ hgo
   ·exact p hb
  have lx:=Gs.le gX
  refine start (fun hb => ?_) (fun hb hB => ?_)
  ·rw [hb] at cD ⊢
   refine run0 (ai t2 (ai t3 (ai t4 t5))) ?_
   refine use (cD _ rfl) ?_
   refine run0 (ai t2 (ai t3 (ai t4 t5))) ?_
   refine use (cT _ rfl) ?_
   refine run0 (ai t2 (ai t3 (ai t4 t5))) ?_
   refine use (cK _ rfl) ?_
   refine run0 (ai t2 (ai t3 (ai t4 t5))) ?_
   refine use (cN _ rfl) ?_
   refine run0 (ai t2 (ai t3 (ai t4 t5))) ?_
   refine use (cY _ rfl) ?_
   have zle : leL [.sl 0 .nil [],.bool false,.str [],.str [],.int .i64 0,.int .i64 0,.str []] Adr.Ad.zero.cells:=⟨⟨rfl,.inr rfl,.inl rfl⟩,rfl,rfl,rfl,rfl,rfl,rfl,trivial⟩
   cases ba
   rotate_left
   ·rw [if_pos (.inl rfl)] at hF
    subst hF
    refine run0 (ai t2 (ai t3 (ai t4 t5))) ?_
    exact ⟨.tup [.agg Adr.Ad.zero.cells,.int .i64 2],⟨zle,rfl,trivial⟩,rfl⟩
   cases hre : re != []
   rotate_left
   ·rw [if_pos (.inr (.inl (bne_iff_ne.1 hre)))] at hF
    subst hF
    refine run0 (ai t2 (ai t3 (ai t4 (ai t5 hre)))) ?_
    exact ⟨.tup [.agg Adr.Ad.zero.cells,.int .i64 2],⟨zle,rfl,trivial⟩,rfl⟩
   refine run0 (ai t2 (ai t3 (ai t4 (ai t5 hre)))) ?_
   refine use (ck _) ?_
   cases hkb : Adr.kindB ty
   ·rw [if_pos (.inr (.inr hkb))] at hF
    subst hF
    refine run0 (ai t2 (ai t3 (ai t4 t5))) ?_
    exact ⟨.tup [.agg Adr.Ad.zero.cells,.int .i64 2],⟨zle,rfl,trivial⟩,rfl⟩
   rw [if_neg (by rintro (h | h | h); cases h; rw [bne_eq_false_iff_eq] at hre; exact h hre; rw [hkb] at h; cases h)] at hF
   have lm : (l.map Adr.Step.cells).length = l.length:=List.length_map ..
   by_cases hlen : (l.length : Int) > 16
   ·rw [if_pos (by omega)] at hF
    subst hF
    refine run0 (ai t2 (ai t3 (ai t4 (ai t5 (ai lm hlen))))) ?_
    exact ⟨.tup [.agg Adr.Ad.zero.cells,.int .i64 4],⟨zle,rfl,trivial⟩,rfl⟩
   ·rw [if_neg (by omega)] at hF
    subst hF
    refine run0 (ai t2 (ai t3 (ai t4 (ai t5 (ai lm hlen))))) ?_
    exact ⟨.tup [.agg (Adr.Ad.cells ⟨l,dt,ty,na,⟨kd,kn,ks⟩⟩),.int .i64 0],⟨⟨lx,rfl,rfl,rfl,rfl,rfl,rfl,trivial⟩,rfl,trivial⟩,rfl⟩
  ·rw [hb] at cD ⊢
   have cH:=fun h hb => w_has Adr.modW r (h:=h) (i:=1) hb
   have hh1 : Adr.hasP Adr.modW r = (false,r):=by unfold Adr.hasP; rw [hB,if_neg (by decide)]
   have hmw : Adr.modW = [109,111,100,117,108,101,46]:=rfl
   rw [hh1,hmw] at cH
   unfold adB at cH
   rw [hb] at cH
   refine run0 (ai t2 (ai t3 (ai t4 t5))) ?_
   refine use (cH _ rfl) ?_
   refine run0 (ai t2 (ai t3 (ai t4 t5))) ?_
   refine use (cD _ rfl) ?_
   refine run0 (ai t2 (ai t3 (ai t4 t5))) ?_
   refine use (cT _ rfl) ?_
   refine run0 (ai t2 (ai t3 (ai t4 t5))) ?_
   refine use (cK _ rfl) ?_
   refine run0 (ai t2 (ai t3 (ai t4 t5))) ?_
   refine use (cN _ rfl) ?_
   refine run0 (ai t2 (ai t3 (ai t4 t5))) ?_
   refine use (cY _ rfl) ?_
   have zle : leL [.sl 0 .nil [],.bool false,.str [],.str [],.int .i64 0,.int .i64 0,.str []] Adr.Ad.zero.cells:=⟨⟨rfl,.inr rfl,.inl rfl⟩,rfl,rfl,rfl,rfl,rfl,rfl,trivial⟩
   cases ba
   rotate_left
   ·rw [if_pos (.inl rfl)] at hF
    subst hF
    refine run0 (ai t2 (ai t3 (ai t4 t5))) ?_
    exact ⟨.tup [.agg Adr.Ad.zero.cells,.int .i64 2],⟨zle,rfl,trivial⟩,rfl⟩
   cases hre : re != []
   rotate_left
   ·rw [if_pos (.inr (.inl (bne_iff_ne.1 hre)))] at hF
    subst hF
    refine run0 (ai t2 (ai t3 (ai t4 (ai t5 hre)))) ?_
    exact ⟨.tup [.agg Adr.Ad.zero.cells,.int .i64 2],⟨zle,rfl,trivial⟩,rfl⟩
   refine run0 (ai t2 (ai t3 (ai t4 (ai t5 hre)))) ?_
   refine use (ck _) ?_
   cases hkb : Adr.kindB ty
   ·rw [if_pos (.inr (.inr hkb))] at hF
    subst hF
    refine run0 (ai t2 (ai t3 (ai t4 t5))) ?_
    exact ⟨.tup [.agg Adr.Ad.zero.cells,.int .i64 2],⟨zle,rfl,trivial⟩,rfl⟩
   rw [if_neg (by rintro (h | h | h); cases h; rw [bne_eq_false_iff_eq] at hre; exact h hre; rw [hkb] at h; cases h)] at hF
   have lm : (l.map Adr.Step.cells).length = l.length:=List.length_map ..
   by_cases hlen : (l.length : Int) > 16
   ·rw [if_pos (by omega)] at hF
    subst hF
    refine run0 (ai t2 (ai t3 (ai t4 (ai t5 (ai lm hlen))))) ?_
    exact ⟨.tup [.agg Adr.Ad.zero.cells,.int .i64 4],⟨zle,rfl,trivial⟩,rfl⟩
   ·rw [if_neg (by omega)] at hF
    subst hF
    refine run0 (ai t2 (ai t3 (ai t4 (ai t5 (ai lm hlen))))) ?_
    exact ⟨.tup [.agg (Adr.Ad.cells ⟨l,dt,ty,na,⟨kd,kn,ks⟩⟩),.int .i64 0],⟨⟨lx,rfl,rfl,rfl,rfl,rfl,rfl,trivial⟩,rfl,trivial⟩,rfl⟩
def preP (acc : List Adr.Step) (r : Option (Adr.Ad × Bool)) : Option (Adr.Ad × Bool):=r.map fun p => ({ p.1 with mods:=acc ++ p.1.mods },p.2)
def placeT : Option (Adr.Ad × Bool) → A
 | none => .tup [.agg [.sl 0 .nil [],.bool false,.str [],.str [],.int .i64 0,.int .i64 0,.str [],.bool false],.bool false]
 | some (p,w) => .tup [.agg [.sl 4 .no (p.mods.map Adr.Step.cells),.bool p.data,.str p.type,.str p.name,.int .i64 p.key.kind,.int .i64 p.key.num,.str p.key.str,.bool w],.bool true]
theorem placeT_pure (r : Option (Adr.Ad × Bool)) : (placeT r).pure = true:=by
 cases r with
 | none => rfl
 | some p => rfl
theorem step_R (s : List UInt8) : Adr.step s = if (stepR s).2.2 = true then some ((stepR s).1,(stepR s).2.1) else none:=by
 unfold Adr.step stepR keyR
 cases Adr.key ((s.drop 7).dropWhile Adr.wordB) with
 | none => simp
 | some p =>
  obtain ⟨k,r⟩:=p
  simp only [Bool.true_and]
theorem preP_some (acc : List Adr.Step) (p : Adr.Ad) (w : Bool) : preP acc (some (p,w)) = some ({ p with mods:=acc ++ p.mods },w):=rfl
set_option maxHeartbeats 8000000 in
theorem a_r6place (s0 : List UInt8) (hl : s0.length ≤ 2000000) (h : Hp) : ACall Tryz.prog GT 322 [.str s0] h fun r h' => r = placeT (Adr.place (s0.length + 1) s0) ∧ h' = h:=by
 refine pcall ?_ (placeT_pure _) (by simp [A.pure,A.data]) h
 obtain ⟨q,hq⟩ : ∃ q,Adr.place (s0.length + 1) s0 = q:=⟨_,rfl⟩
 rw [hq]
 refine fo ?_
 refine runx0 ti ti ?_
 refine awp_loop (fun m ts hh => ∃ (s : List UInt8) (acc : List Adr.Step) (f : Nat) (W : Nat) (o : Own) (l : List Blk) (t : List (TypeId × Nat × Nat)),m = s.length ∧ s.length < f ∧ acc.length + s.length ≤ s0.length ∧ q = preP acc (Adr.place f s) ∧
  hh = ⟨.cells 348 [.sl 0 .nil [],.bool false,.str [],.str [],.int .i64 0,.int .i64 0,.str [],.bool false] :: .cells 348 [.sl W o (acc.map Adr.Step.cells),.bool false,.str [],.str [],.int .i64 0,.int .i64 0,.str [],.bool false] :: l,t⟩ ∧
  Gs 321 4 0 ⟨[],t⟩ (acc.map Adr.Step.cells) (.sl W o (acc.map Adr.Step.cells)) ∧ (ts 0 = .str s ∧ ts 2 = .ptr 0 0 ∧ ts 4 = .ptr 1 0)) s0.length ?_ ?_
 ·exact ⟨s0,[],s0.length + 1,0,.nil,[],[],rfl,Nat.lt_succ_self _,by simp,by rw [← hq]; unfold preP; cases Adr.place (s0.length + 1) s0 <;> rfl,rfl,.inl ⟨rfl,rfl⟩,by (exact inv0 ti)⟩
 rintro m ts hh ⟨s,acc,f,W,o,l,t,rfl,hf,hal,hp,rfl,gX,ht⟩
 obtain ⟨f,rfl⟩ : ∃ g,f = g + 1:=⟨f - 1,by omega⟩
 unfold Adr.place at hp
 have cb:=a_r6begins s Adr.modW (by omega) (by decide)
 cases hB : Adr.begins s Adr.modW with
 | true =>
  rw [hB] at cb
  rw [hB,if_pos rfl,step_R] at hp
  have h7 : 7 ≤ s.length:=Adr.begins_len hB
  have cs:=a_r6step s (by omega) h7
  have hsr:=Adr.step_rest s
  rw [step_R] at hsr
  dsimp only [Adr.modW] at cb
  obtain ⟨⟨⟨xn,kk,kn,ks⟩,rest,ok⟩,hR⟩ : ∃ r,stepR s = r:=⟨_,rfl⟩
  rw [hR] at cs hp hsr
  dsimp only [Adr.Step.cells] at cs hp hsr
  cases ok with
  | false =>
   rw [if_neg (by decide)] at hp
   have hq0 : q = none:=hp
   subst hq0
   refine runx0 ht (ai cb (ai cs ti)) ?_
   exact ⟨_,le_refl _,rfl⟩
  | true =>
  rw [if_pos rfl] at hp hsr
  have hrl:=hsr _ _ rfl
  dsimp only at hp
  have hrow : (acc ++ [(⟨xn,⟨kk,kn,ks⟩⟩ : Adr.Step)]).map Adr.Step.cells = acc.map Adr.Step.cells ++ [[.str xn,.int .i64 kk,.int .i64 kn,.str ks]]:=by rw [List.map_append]; rfl
  obtain ⟨W',o',t',hX,gX',_⟩:=gX.grow 48 [.str xn,.int .i64 kk,.int .i64 kn,.str ks] (by rw [List.length_map]; omega) (by decide)
  rw [← hrow] at gX'
  simp only [← hrow] at hX
  by_cases hr0 : rest = []
  ·subst hr0
   rw [if_pos rfl] at hp
   rw [preP_some] at hp
   subst hp
   refine runx0 (ai ht hX) (ai cb (ai cs ti)) ?_
   refine ⟨placeT _,?_,rfl⟩
   exact ⟨⟨gX'.le,rfl,rfl,rfl,rfl,rfl,rfl,rfl,trivial⟩,rfl,trivial⟩
  rw [if_neg hr0] at hp
  have hr0' : (rest == ([] : List UInt8)) = false:=by simpa using hr0
  have hpos : 0 < rest.length:=List.length_pos_iff.2 hr0
  have hr1 : (0 : Int) < (rest.length : Int) ∧ (0 : Int) ≤ 1 ∧ (1 : Int) ≤ (rest.length : Int) ∧ Int.toNat 1 = 1 ∧ rest.take rest.length = rest:=⟨by omega,by omega,by omega,rfl,List.take_length⟩
  obtain ⟨c,hc⟩ : ∃ c,rest.getD 0 0 = c:=⟨_,rfl⟩
  have hcn:=byte_neI c 46 (by decide)
  rw [show ((46 : Nat) : Int) = 46 from rfl,show UInt8.ofNat 46 = 46 from rfl] at hcn
  rw [hc] at hp
  by_cases hd : c = 46
  rotate_left
  ·have e1 : (c != 46) = true:=by simp [hd]
   rw [if_pos hd] at hp
   have hq0 : q = none:=hp
   subst hq0
   refine runx0 (ai ht (ai hX (ai hr0' (ai hr1 (ai hc (ai hcn e1)))))) (ai cb (ai cs ti)) ?_
   exact ⟨_,le_refl _,rfl⟩
  have e1 : (c != 46) = false:=by simp [hd]
  rw [if_neg (by simp [hd])] at hp
  refine runx0 (ai ht (ai hX (ai hr0' (ai hr1 (ai hc (ai hcn e1)))))) (ai cb (ai cs ti)) ?_
  refine ⟨(rest.drop 1).length,by rw [List.length_drop]; omega,rest.drop 1,acc ++ [⟨xn,⟨kk,kn,ks⟩⟩],f,W',o',_,t',rfl,by rw [List.length_drop]; omega,by rw [List.length_append,List.length_drop]; simp; omega,?_,rfl,gX',by (exact inv0 (ai ht hr1))⟩
  rw [hp]
  unfold preP
  cases Adr.place f (rest.drop 1) with
  | none => rfl
  | some p => simp
 | false =>
  rw [hB] at cb
  rw [hB,if_neg (by decide)] at hp
  dsimp only [Adr.modW] at cb
  have cd:=a_r6begins s Adr.dataW (by omega) (by decide)
  obtain ⟨dt,hdt⟩ : ∃ b,Adr.begins s Adr.dataW = b:=⟨_,rfl⟩
  have hdl : dt = true → 5 ≤ s.length:=fun e => Adr.begins_len (s:=s) (p:=Adr.dataW) (by rw [hdt]; exact e)
  unfold Adr.last at hp
  dsimp only at hp
  rw [hdt] at cd hp
  dsimp only [Adr.dataW] at cd
  obtain ⟨tt,htt⟩ : ∃ tt,(if dt = true then s.drop 5 else s) = tt:=⟨_,rfl⟩
  rw [htt] at hp
  have htl : tt.length ≤ 2000000:=by
   rw [← htt]
   split
   ·rw [List.length_drop]; omega
   ·omega
  refine runx0 ht (ai cb (ai cd ti)) ?_
  refine awp_join (fun ts' h' => h' = ⟨.cells 348 [.sl 0 .nil [],.bool false,.str [],.str [],.int .i64 0,.int .i64 0,.str [],.bool false] :: .cells 348 [.sl W o (acc.map Adr.Step.cells),.bool dt,.str [],.str [],.int .i64 0,.int .i64 0,.str [],.bool false] :: l,t⟩ ∧ (ts' 0 = .str tt ∧ ts' 2 = .ptr 0 0 ∧ ts' 4 = .ptr 1 0)) ?_ ?_
  ·cases dt with
   | false =>
    rw [if_neg (by decide)] at htt
    subst htt
    refine runx0 ht ti ?_
    exact ⟨rfl,by (exact inv0 ht)⟩
   | true =>
    rw [if_pos rfl] at htt
    have h5:=hdl rfl
    have h5' : (0 : Int) ≤ 5 ∧ (5 : Int) ≤ (s.length : Int) ∧ Int.toNat 5 = 5 ∧ s.take s.length = s:=⟨by decide,by omega,rfl,List.take_length⟩
    refine runx0 (ai ht h5') ti ?_
    exact ⟨rfl,by (exact inv0 (ai ht (ai htt h5')))⟩
  rintro ts hh ⟨rfl,hu⟩
  have cw:=a_r6word tt htl
  have w1 : (tt.takeWhile Adr.wordB).length ≤ 2000000:=Nat.le_trans (List.takeWhile_prefix _).length_le htl
  have w2 : (tt.dropWhile Adr.wordB).length ≤ 2000000:=Nat.le_trans (List.dropWhile_suffix _).length_le htl
  have ci:=a_r6ident _ w1
  have cr:=a_r6res (tt.takeWhile Adr.wordB)
  obtain ⟨typ,htyp⟩ : ∃ w,tt.takeWhile Adr.wordB = w:=⟨_,rfl⟩
  obtain ⟨r,hr⟩ : ∃ w,tt.dropWhile Adr.wordB = w:=⟨_,rfl⟩
  rw [htyp] at cw ci cr hp
  rw [hr] at cw hp w2
  have hkb : Adr.kindB typ = (!Adr.reserved typ && Adr.ident typ):=rfl
  have bad : (Adr.kindB typ = false ∨ r.getD 0 0 ≠ 46) → q = none:=fun hb => by rw [hp,if_pos hb]; rfl
  cases hI : Adr.ident typ with
  | false =>
   rw [hI] at ci
   have hq0:=bad (.inl (by rw [hkb,hI]; simp))
   subst hq0
   refine runx0 hu (ai cw (ai ci ti)) ?_
   exact ⟨_,le_refl _,rfl⟩
  | true =>
  rw [hI] at ci
  cases hRs : Adr.reserved typ with
  | true =>
   rw [hRs] at cr
   have hq0:=bad (.inl (by rw [hkb,hRs]; rfl))
   subst hq0
   refine runx0 hu (ai cw (ai ci (ai cr ti))) ?_
   exact ⟨_,le_refl _,rfl⟩
  | false =>
  rw [hRs] at cr
  cases r with
  | nil =>
   have hq0:=bad (.inr (by simp))
   subst hq0
   refine runx0 hu (ai cw (ai ci (ai cr ti))) ?_
   exact ⟨_,le_refl _,rfl⟩
  | cons c r' =>
  have hr1 : ((c :: r') == ([] : List UInt8)) = false ∧ (0 : Int) < ((r'.length + 1 : Nat) : Int) ∧ (0 : Int) ≤ 1 ∧ (1 : Int) ≤ ((r'.length + 1 : Nat) : Int) ∧ Int.toNat 1 = 1 ∧ r'.take r'.length = r':=⟨rfl,by omega,by omega,by omega,rfl,List.take_length⟩
  have hcn:=byte_neI c 46 (by decide)
  rw [show ((46 : Nat) : Int) = 46 from rfl,show UInt8.ofNat 46 = 46 from rfl] at hcn
  by_cases hd : c = 46
  rotate_left
  ·have e1 : (c != 46) = true:=by simp [hd]
   have hq0:=bad (.inr (by simpa using hd))
   subst hq0
   refine runx0 (ai hu (ai hr1 (ai hcn e1))) (ai cw (ai ci (ai cr ti))) ?_
   exact ⟨_,le_refl _,rfl⟩
  have e1 : (c != 46) = false:=by simp [hd]
  rw [if_neg (by rw [hkb,hRs,hI]; simpa using hd),List.drop_succ_cons,List.drop_zero] at hp
  have hr'l : r'.length ≤ 2000000:=by simp only [List.length_cons] at w2; omega
  have cw2:=a_r6word r' hr'l
  have w3 : (r'.takeWhile Adr.wordB).length ≤ 2000000:=Nat.le_trans (List.takeWhile_prefix _).length_le hr'l
  have w4 : (r'.dropWhile Adr.wordB).length ≤ 2000000:=Nat.le_trans (List.dropWhile_suffix _).length_le hr'l
  have ci2:=a_r6ident _ w3
  have ck:=a_r6key _ w4
  obtain ⟨nm,hnm⟩ : ∃ w,r'.takeWhile Adr.wordB = w:=⟨_,rfl⟩
  obtain ⟨r2,hr2⟩ : ∃ w,r'.dropWhile Adr.wordB = w:=⟨_,rfl⟩
  rw [hnm] at cw2 ci2 hp
  rw [hr2] at cw2 ck hp
  have hkR : Adr.key r2 = if (keyR r2).2.2 = true then some ((keyR r2).1,(keyR r2).2.1) else none:=by
   unfold keyR
   cases Adr.key r2 with
   | none => simp
   | some p => simp
  rw [hkR] at hp
  obtain ⟨⟨⟨ka,kb,kc⟩,rst,ok⟩,hK⟩ : ∃ k,keyR r2 = k:=⟨_,rfl⟩
  rw [hK] at ck hp
  unfold keyT at ck
  dsimp only at ck hp
  cases hI2 : Adr.ident nm with
  | false =>
   rw [hI2] at ci2
   have hq0 : q = none:=by
    rw [hp]
    cases ok with
    | false => rfl
    | true =>
     rw [if_pos rfl]
     dsimp only
     rw [if_neg (by rw [hI2]; simp)]
     rfl
   subst hq0
   refine runx0 (ai hu (ai hr1 (ai hcn e1))) (ai cw (ai ci (ai cr (ai cw2 (ai ck (ai ci2 ti)))))) ?_
   exact ⟨_,le_refl _,rfl⟩
  | true =>
  rw [hI2] at ci2
  cases ok with
  | false =>
   have hq0 : q = none:=hp
   subst hq0
   refine runx0 (ai hu (ai hr1 (ai hcn e1))) (ai cw (ai ci (ai cr (ai cw2 (ai ck (ai ci2 ti)))))) ?_
   exact ⟨_,le_refl _,rfl⟩
  | true =>
  rw [if_pos rfl] at hp
  dsimp only at hp
  by_cases hrst : rst = []
  rotate_left
  ·have e2 : (rst != ([] : List UInt8)) = true:=by simpa using hrst
   rw [if_neg (fun h => hrst h.2)] at hp
   have hq0 : q = none:=hp
   subst hq0
   refine runx0 (ai hu (ai hr1 (ai hcn (ai e1 e2)))) (ai cw (ai ci (ai cr (ai cw2 (ai ck (ai ci2 ti)))))) ?_
   exact ⟨_,le_refl _,rfl⟩
  subst hrst
  rw [if_pos ⟨hI2,rfl⟩] at hp
  dsimp only at hp
  rw [preP_some] at hp
  dsimp only at hp
  rw [List.append_nil] at hp
  subst hp
  refine runx0 (ai hu (ai hr1 (ai hcn e1))) (ai cw (ai ci (ai cr (ai cw2 (ai ck (ai ci2 ti)))))) ?_
  refine ⟨placeT _,?_,rfl⟩
  exact ⟨⟨gX.le,rfl,rfl,rfl,rfl,rfl,rfl,rfl,trivial⟩,rfl,trivial⟩
theorem a_r6parse (s : List UInt8) (hl : s.length ≤ 2000000) (h : Hp) : ACall Tryz.prog GT 302 [.str s] h fun r h' => r = .tup [.agg (Adr.parse s).1.cells,.int .i64 (Adr.parse s).2] ∧ h' = h:=by
 have cp:=a_r6place s hl
 refine pcall ?_ (by simp [A.pure,A.data,Adr.Ad.cells]) (by simp [A.pure,A.data]) h
 unfold Adr.parse
 refine fo ?_
 cases hP : Adr.place (s.length + 1) s with
 | none =>
  rw [hP] at cp
  dsimp only [placeT] at cp
  refine runx0 ti (ai cp ti) ?_
  exact ⟨.tup [.agg (Adr.Ad.cells Adr.Ad.zero),.int .i64 2],⟨⟨⟨rfl,.inr rfl,.inl rfl⟩,rfl,rfl,rfl,rfl,rfl,rfl,trivial⟩,rfl,trivial⟩,rfl⟩
 | some p =>
  rw [hP] at cp
  obtain ⟨⟨mods,data,ty,nm,ka,kb,kc⟩,w⟩:=p
  dsimp only [placeT] at cp
  have lm : (mods.map Adr.Step.cells).length = mods.length:=List.length_map _
  cases w with
  | false =>
   refine runx0 ti (ai cp ti) ?_
   exact ⟨.tup [.agg (Adr.Ad.cells Adr.Ad.zero),.int .i64 2],⟨⟨⟨rfl,.inr rfl,.inl rfl⟩,rfl,rfl,rfl,rfl,rfl,rfl,trivial⟩,rfl,trivial⟩,rfl⟩
  | true =>
   dsimp only
   by_cases h16 : 16 < mods.length
   ·have e1 : (mods.length : Int) > 16:=by omega
    rw [if_pos h16]
    refine runx0 (ai lm e1) (ai cp ti) ?_
    exact ⟨.tup [.agg (Adr.Ad.cells Adr.Ad.zero),.int .i64 4],⟨⟨⟨rfl,.inr rfl,.inl rfl⟩,rfl,rfl,rfl,rfl,rfl,rfl,trivial⟩,rfl,trivial⟩,rfl⟩
   ·have e1 : ¬ (mods.length : Int) > 16:=by omega
    rw [if_neg h16]
    refine runx0 (ai lm e1) (ai cp ti) ?_
    exact ⟨_,le_refl _,rfl⟩
section
variable {P : Program} {G : World → Prop} {C : Ctx} {h : Hp}
def Fz1 (h : Hp) (x y : A) : Prop:=(x = y ∧ x.data = true) ∨ ∃ i W T rows,x = .bs i W rows.length ∧ h.b[i]? = some (.row T rows.flatten) ∧ y = .sl W .no rows ∧ (∀ r ∈ rows,r.length = W) ∧ rows.flatten.all A.data = true
def FzL (h : Hp) : List A → List A → Prop
 | [],[] => True
 | x :: l,y :: m => Fz1 h x y ∧ FzL h l m
 | _,_ => False
theorem FzL.data {h : Hp} : ∀ {l m : List A},FzL h l m → m.all A.data = true
 | [],[],_ => rfl
 | x :: l,y :: m,hf => by
  rw [List.all_cons,Bool.and_eq_true]
  refine ⟨?_,FzL.data hf.2⟩
  rcases hf.1 with ⟨rfl,hd⟩ | ⟨i,W,T,rows,_,_,rfl,_,_⟩
  ·exact hd
  ·rfl
 | [],_ :: _,hf => hf.elim
 | _ :: _,[],hf => hf.elim
theorem pcallz {f : FuncId} {args : List A} {ys : List A} (hc : ACall P G f args ⟨[],[]⟩ fun v h' => ∃ xs,v = .agg xs ∧ FzL h' xs ys) (ha : args.all A.pure = true) (h : Hp) : ACall P G f args h fun v h' => v = .agg ys ∧ h' = h:=by
 intro C cs hI hr
 have hid : Inv G C.hid ⟨[],[]⟩:=by
  refine ⟨rfl,fun i b hb => by simp at hb,fun i hi => by simp [Ctx.hid] at hi,fun g i hg => by simp [Ctx.hid] at hg,fun g j hs => ?_,fun t E W m ht => by simp [Ctx.hid] at ht,fun t t' ht => by simp [Ctx.hid] at ht,fun t => by simp [Ctx.hid],hI.base,hI.glob⟩
  exact ⟨(hI.prot g j hs).1,rfl,fun t E W m ht => by simp [Ctx.hid] at ht⟩
 refine (hc C.hid cs hid (RepL.pures (C:=C) (C':=C.hid) ⟨fun g j hs => ⟨hs,rfl⟩⟩ args cs ha hr)).mono ?_
 rintro e w' ⟨C1,h1,v,cv,rfl,rfl,I1,S1,r1,xs,rfl,hf⟩
 have hblk : ∀ g,g < C.w.heap.size → C1.w.heap[g]? = C.w.heap[g]?:=fun g hg => S1.frame g hg rfl fun t ht => by simp [Ctx.hid] at ht
 have hnew : ∀ g i,C1.own g = some i → C.w.heap.size ≤ g:=fun g i hg => by
  rcases Nat.lt_or_ge g C.w.heap.size with hlt | hge
  ·have:=S1.own g hlt
   rw [hg] at this
   simp [Ctx.hid] at this
  ·exact hge
 let C2 : Ctx:={ C with w:=C1.w,S:=fun g j => C1.S g j ∨ ((C1.own g).isSome = true),own:=fun g => if g < C.w.heap.size then C.own g else none }
 have hsz : C.w.heap.size ≤ C1.w.heap.size:=S1.size
 have he : Ext C C2:=by
  refine ⟨fun g j hs => ?_,Nat.le_refl _,fun _ _ => rfl,fun t E W m ht => ?_⟩
  ·obtain ⟨k1,k2⟩:=S1.ext.cells g j hs
   exact ⟨.inl k1,k2⟩
  ·obtain ⟨_,_,cap,h2,_⟩:=hI.rows t E W m ht
   exact ⟨m,ht,.inr ⟨rfl,rfl,fun cap hc => hc.same (hblk _ h2.lt)⟩⟩
 have hown : ∀ g i,C2.own g = some i ↔ C.own g = some i:=fun g i => by
  show (if g < C.w.heap.size then C.own g else none) = some i ↔ _
  split
  ·exact Iff.rfl
  ·next hg => exact ⟨fun e => (by cases e),fun e => absurd (hI.ownlt g i e).2.1 hg⟩
 have hprot : ∀ g j,C2.S g j → C.S g j ∨ C.w.heap.size ≤ g:=fun g j hs => by
  rcases hs with hs | hs
  ·rcases S1.prot g j hs with h2 | h2 | ⟨t,h2,_⟩
   ·exact .inl h2
   ·exact .inr h2
   ·simp [Ctx.hid] at h2
  ·obtain ⟨i,hi⟩:=Option.isSome_iff_exists.1 hs
   exact .inr (hnew g i hi)
 have hSlt : ∀ g j,C2.S g j → g < C1.w.heap.size:=fun g j hs => by
  rcases hs with hs | hs
  ·exact (I1.prot g j hs).1
  ·obtain ⟨i,hi⟩:=Option.isSome_iff_exists.1 hs
   exact (I1.ownlt g i hi).2.1
 have hsame : Same C1 C2:=⟨fun g j hs => ⟨.inl hs,rfl⟩⟩
 have frz : ∀ (xs ys : List A) (vs : List Value),FzL h1 xs ys → RepL C1 xs vs → RepL C2 ys vs:=by
  intro xs
  induction xs with
  | nil =>
   intro ys vs hf hr
   cases ys with
   | nil => exact hr
   | cons y ys => exact hf.elim
  | cons x xs ih =>
   intro ys vs hf hr
   cases ys with
   | nil => exact hf.elim
   | cons y ys =>
    obtain ⟨c,cs',rfl,k1,k2⟩:=repL_cons.1 hr
    refine repL_cons.2 ⟨c,cs',rfl,?_,ih ys cs' hf.2 k2⟩
    rcases hf.1 with ⟨rfl,hd⟩ | ⟨i,W,T,rows,rfl,hb,rfl,hW,hd⟩
    ·exact Rep.same hsame _ _ hd k1
    ·obtain ⟨cap,rfl,hcap,hi⟩:=rep_bs.1 k1
     obtain ⟨ds,rest,q1,q2⟩:=I1.box i _ hb
     have hsd : (C1.own (C1.κ i)).isSome = true:=by rw [I1.ownk i hi]; rfl
     have hdd : ∀ (l : List A) (ds : List Value),l.all A.data = true → RepL C1 l ds → RepL C2 l ds:=fun l ds hd hr => RepL.same hsame l ds hd hr
     refine rep_sl.2 ⟨_,cap,rfl,hcap,repRows_of rows ds 0 hW hd (hdd _ _ hd q2) (fun j _ => .inr hsd) (fun j u hu => ?_),trivial⟩
     have q1' : C2.w.heap[C1.κ i]? = some (.cells (ds ++ rest).toArray T (0,0)):=q1
     rw [cell_of_row _ _ _ _ _ _ q1']
     have hj : j < ds.length:=(List.getElem?_eq_some_iff.1 hu).1
     simp only [List.getElem?_toArray]
     rw [show 0 + 0 * W + j = j by omega,List.getElem?_append_left hj]
     exact hu
 refine ⟨C2,h,.agg ys,cv,rfl,rfl,⟨hI.nb,fun i b hib => ?_,fun i hi => (hown _ _).2 (hI.ownk i hi),fun g i hg => ?_,fun g j hs => ?_,fun t E W m ht => ?_,hI.inj,hI.toks,Nat.le_trans hI.base hsz,fun w2 hw => ?_⟩,⟨he,S1.os,S1.tape,S1.output,hsz,rfl,fun g hg _ _ => hblk g hg,fun g hg => ?_,fun g j hs => ?_,fun t ht => .inr ⟨ht,rfl⟩⟩,?_,rfl,rfl⟩
 ·have hi : i < C.nb:=by rw [← hI.nb]; exact (List.getElem?_eq_some_iff.1 hib).1
  exact (hI.box i b hib).ext he hi (hI.ownk i hi) (fun g j hg => (hI.ownlt g j hg).2.1) (fun g hg => hblk g (hI.ownlt g i hg).2.1) (fun g => hown g i) hsz
 ·obtain ⟨k1,k2,k3⟩:=hI.ownlt g i ((hown g i).1 hg)
  exact ⟨k1,Nat.lt_of_lt_of_le k2 hsz,k3⟩
 ·have hlt:=hSlt g j hs
  rcases hprot g j hs with h2 | h2
  ·obtain ⟨k1,k2,k3⟩:=hI.prot g j h2
   exact ⟨hlt,by show (if g < C.w.heap.size then C.own g else none) = none; rw [if_pos k1,k2],k3⟩
  ·refine ⟨hlt,by show (if g < C.w.heap.size then C.own g else none) = none; rw [if_neg (by omega)],fun t E W m ht e => ?_⟩
   obtain ⟨_,_,cap,k1,_⟩:=hI.rows t E W m ht
   have:=k1.lt
   have e' : C.τ t = g:=e
   omega
 ·obtain ⟨k1,k2,cap,k3,k4⟩:=hI.rows t E W m ht
  exact ⟨by show (if C.τ t < C.w.heap.size then C.own (C.τ t) else none) = none; rw [if_pos k3.lt,k1],k2,cap,k3.same (hblk _ k3.lt),k4⟩
 ·exact hI.glob w2 fun g hg => (hw g hg).trans (hblk g (Nat.lt_of_lt_of_le hg hI.base))
 ·show (if g < C.w.heap.size then C.own g else none) = C.own g
  rw [if_pos hg]
 ·rcases hprot g j hs with h2 | h2
  ·exact .inl h2
  ·exact .inr (.inl h2)
 ·obtain ⟨vs,rfl,hl⟩:=rep_agg.1 r1
  exact rep_agg.2 ⟨vs,rfl,frz xs ys vs hf hl⟩
end
end AX
end Go.Proofs.YtknnodgbhpbgjaaGreatDoor
